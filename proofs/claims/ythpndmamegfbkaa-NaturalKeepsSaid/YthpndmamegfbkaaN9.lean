/- The contract of reduce. -/
import Derived.Test.YthpndmamegfbkaaN8
namespace Go.Proofs.Ythpndmamegfbkaa
set_option linter.unusedSimpArgs false
set_option linter.unusedVariables false
open Go.RowKit
theorem red_step (U0 U Ui q Vi x b c b' c' A R Q tl e d : Nat) (hQ : Q = A * R) (h0 : U0 + A * (q * Vi) = U + (b + c) * Q) (ht : q * x + c = tl + 4294967296 * c') (hs : e + tl + b = d + 4294967296 * b') (hu : Ui + Q * d = U0 + Q * e) :
    Ui + A * (q * (Vi + R * x)) = U + (b' + c') * (Q * 4294967296) := by grind
theorem red_top (U0 U Ui qV b c b' A R Q e d : Nat) (hQ : Q = A * R) (h0 : U0 + A * qV = U + (b + c) * Q) (hs : e + c + b = d + 4294967296 * b') (hu : Ui + Q * d = U0 + Q * e) :
    Ui + A * qV = U + b' * (Q * 4294967296) := by grind
theorem red_back (U0 U Ui Vi x c c' A R Q e d : Nat) (hQ : Q = A * R) (h0 : U0 + c * Q = U + A * Vi) (hs : d + x + c = e + 4294967296 * c') (hu : Ui + Q * d = U0 + Q * e) :
    Ui + c' * (Q * 4294967296) = U + A * (Vi + R * x) := by grind
theorem red_backtop (U0 U Ui V c k A R Q e d : Nat) (hQ : Q = A * R) (h0 : U0 + c * Q = U + A * V) (hs : d + c = e + 4294967296 * k) (hu : Ui + Q * d = U0 + Q * e) :
    Ui + k * (Q * 4294967296) = U + A * V := by grind
/-- No borrow: the guess was right. -/
theorem red_yes {U U' A V q : Nat} (hA : 0 < A) (hV : 0 < V) (h : U' + A * (q * V) = U) (hq : U / A / V ≤ q) : q = U / A / V ∧ U' = U - A * (U / A / V * V) := by
  have h1 : q * V ≤ U / A := by rw [Nat.le_div_iff_mul_le hA, Nat.mul_comm]; omega
  have h2 : q ≤ U / A / V := by rw [Nat.le_div_iff_mul_le hV]; exact h1
  have h3 : q = U / A / V := by omega
  exact ⟨h3, by rw [← h3]; omega⟩
/-- A borrow: the guess was one too great. -/
theorem red_no {U U' A V M q : Nat} (hA : 0 < A) (hV : 0 < V) (h : U' + A * (q * V) = U + M) (hU : U' < M) (hq : U / A / V ≤ q) (hq' : q ≤ U / A / V + 1) : q = U / A / V + 1 := by
  have h0 : U < A * (q * V) := by omega
  have h1 : U / A / V < q := by
    rw [Nat.div_lt_iff_lt_mul hV, Nat.div_lt_iff_lt_mul hA, Nat.mul_comm]; exact h0
  omega
theorem red_fin {U U' Uf A V M q k : Nat} (hA : 0 < A) (hV : 0 < V) (h : U' + A * ((q + 1) * V) = U + M) (hq : q = U / A / V) (hb : Uf + k * M = U' + A * V) (hUf : Uf < M) (hk : k ≤ 1) : Uf = U - A * (U / A / V * V) := by
  rw [← hq]
  have h1 : q * V ≤ U / A := by rw [hq]; exact Nat.div_mul_le_self _ _
  have h2 : A * (q * V) ≤ U := by
    have := Nat.mul_le_mul_left A h1
    have := Nat.mul_div_le U A
    omega
  have h3 : A * ((q + 1) * V) = A * (q * V) + A * V := by grind
  rw [h3] at h
  rcases Nat.le_one_iff_eq_zero_or_eq_one.1 hk with rfl | rfl
  · simp only [Nat.zero_mul, Nat.add_zero] at hb; omega
  · simp only [Nat.one_mul] at hb; omega
theorem gb_refl (w : World) (row : Option Nat) : w.grownBy w row := ⟨rfl, rfl, rfl, Nat.le_refl _, fun _ _ _ => rfl⟩
theorem gb_setCell {w wr : World} {g p : Nat} (h : w.grownBy wr (some g)) (v : Value) : w.grownBy (wr.setCell ⟨g, p, none⟩ v) (some g) :=
  ⟨h.os, h.tape, h.output, by simpa using h.size, fun k hk hne => (Below.heap_setCell _ _ _ _ (fun e => hne (by rw [e]))).trans (h.block k hk hne)⟩
theorem Dig.kept {w w' : World} {b off L N : Nat} {row : Option Nat} (h : Dig w b off L N) (hg : w.grownBy w' row) (hne : some b ≠ row) : Dig w' b off L N :=
  fun j hj => hg.cell (h j hj) hne
def subE (x y c : Nat) : Nat := (x + 8589934592 - y - c) % 4294967296
def subB (x y c : Nat) : Nat := if x < y + c then 1 else 0
theorem sub_spec {x y c : Nat} (hx : x < 4294967296) (hy : y < 4294967296) (hc : c ≤ 1) : subE x y c + y + c = x + 4294967296 * subB x y c ∧ subE x y c < 4294967296 ∧ subB x y c ≤ 1 := by
  unfold subE subB
  split <;> omega
theorem c_sub32n (x y c : Nat) (w : World) (hx : x < 4294967296) (hy : y < 4294967296) (hc : c ≤ 1) :
    Calls Try.prog 49 #[.int .u32 (x : Int), .int .u32 (y : Int), .int .u32 (c : Int)] w fun e w' =>
      e = .returned (.tuple #[.int .u32 ((subE x y c : Nat) : Int), .int .u32 ((subB x y c : Nat) : Int)]) ∧ w = w' := by
  refine (c_sub32 _ _ _ _ (by omega) (by omega) (by omega) (by omega) (by omega) (by omega)).mono ?_
  rintro e w' ⟨rfl, rfl⟩
  have e1 : ((x : Int) - y - c) % 4294967296 = ((subE x y c : Nat) : Int) := by unfold subE; omega
  have e2 : borrow (x : Int) (y : Int) (c : Int) = ((subB x y c : Nat) : Int) := by unfold subB borrow; split <;> split <;> omega
  rw [e1, e2]
  exact ⟨rfl, rfl⟩
theorem c_add32n (x y c : Nat) (w : World) (hx : x < 4294967296) (hy : y < 4294967296) (hc : c ≤ 1) :
    Calls Try.prog 48 #[.int .u32 (x : Int), .int .u32 (y : Int), .int .u32 (c : Int)] w fun e w' =>
      e = .returned (.tuple #[.int .u32 (((x + y + c) % 4294967296 : Nat) : Int), .int .u32 (((x + y + c) / 4294967296 : Nat) : Int)]) ∧ w = w' := by
  refine (c_add32 _ _ _ _ (by omega) (by omega) (by omega) (by omega) (by omega) (by omega)).mono ?_
  rintro e w' ⟨rfl, rfl⟩
  exact ⟨by simp, rfl⟩
def RetRed (W : World) (gu Lu U A V : Nat) (e : Ending) (w' : World) : Prop :=
  e = .returned (.int .u32 ((U / A / V : Nat) : Int)) ∧ OwnR w' gu Lu (U - A * (U / A / V * V)) ∧ W.grownBy w' (some gu)
set_option maxHeartbeats 1000000 in
theorem c_reduce (gu Lu cu gv cv n at' U V q : Nat) (w : World) (hu : OwnR w gu Lu U) (hv : Dig w gv 0 n V) (hVn : V < 4294967296 ^ n) (hne : gv ≠ gu) (hL : at' + n < Lu) (hLu : Lu ≤ 60000000000000) (hq : q < 4294967296)
    (hV0 : 0 < V) (hUm : U < 4294967296 ^ (at' + n + 1)) (hq1 : U / 4294967296 ^ at' / V ≤ q) (hq2 : q ≤ U / 4294967296 ^ at' / V + 1) :
    Calls Try.prog 43 #[.slice (some ⟨gu, 0, none⟩) Lu cu, .slice (some ⟨gv, 0, none⟩) n cv, .int .i64 (at' : Int), .int .u64 (q : Int)] w fun e w' => RetRed w gu Lu U (4294967296 ^ at') V e w' := by
  have HQ1 := Lib.hid hq1
  have HQ2 := Lib.hid hq2
  have HUM := Lib.hid hUm
  have HVN := Lib.hid hVn
  clear hq1 hq2 hUm hVn
  go_enter Try.func43, Try.ntmps43
  go_wp2_with fail
  go_loopw [9, 10, 19] (fun s9 s10 s19 wr => ∃ i Ui c b : Nat, i ≤ n ∧ s19 = .int .i64 i ∧ s9 = .int .u64 (c : Int) ∧ s10 = .int .u32 (b : Int) ∧ c < 4294967296 ∧ b ≤ 1 ∧ OwnR wr gu Lu Ui ∧ w.grownBy wr (some gu) ∧
      Hid (Ui < 4294967296 ^ (at' + n + 1) ∧ Ui + 4294967296 ^ at' * (q * (V % 4294967296 ^ i)) = U + (b + c) * 4294967296 ^ (at' + i)))
    (fun _ _ i _ => n - (intOf i).toNat)
  case atStart => exact ⟨0, U, 0, 0, Nat.zero_le _, rfl, rfl, rfl, by decide, by decide, hu, gb_refl _ _, Lib.hid ⟨HUM.out, by simp [Nat.mod_one]⟩⟩
  case round =>
    obtain ⟨i, Ui, c, b, hi, rfl, rfl, rfl, hc, hb, ho, hgb, hinv⟩ := hrel
    by_cases hlt : i < n
    · have hvr := hv.kept hgb (by simpa using hne)
      have c1 := hvr i hlt
      have c2 := ho.cell (p := at' + i) (by omega)
      have f2 := ho.frozen (at' + i)
      have hdx := D_lt V i
      have hdu := D_lt Ui (at' + i)
      obtain ⟨hx0, hx1⟩ := mul_bd q (D V i) hq hdx
      simp only [Nat.zero_add] at c1
      go_wp2_with fail
      have htl : (q * D V i + c) % 4294967296 < 4294967296 := Nat.mod_lt _ (by decide)
      have htc : (q * D V i + c) / 4294967296 < 4294967296 := by rw [Nat.div_lt_iff_lt_mul (by decide)]; have e : ((q * D V i : Nat) : Int) ≤ 18446744065119617025 := (by simpa using hx1); omega
      have hdm := Lib.hid (Nat.mod_add_div (q * D V i + c) 4294967296)
      rw [show ((q : Int) * ((D V i : Nat) : Int) + (c : Int)) % 4294967296 = (((q * D V i + c) % 4294967296 : Nat) : Int) from by simp, show ((q : Int) * ((D V i : Nat) : Int) + (c : Int)) / 4294967296 = (((q * D V i + c) / 4294967296 : Nat) : Int) from by simp]
      generalize (q * D V i + c) % 4294967296 = tl at *
      generalize (q * D V i + c) / 4294967296 = c' at *
      refine (c_sub32n _ _ _ _ hdu htl hb).mono ?_
      rintro e w1 ⟨rfl, rfl⟩
      obtain ⟨s1, s2, s3⟩ := sub_spec hdu htl hb
      have hs1 := Lib.hid s1
      clear s1
      generalize subE (D Ui (at' + i)) tl b = e at *
      generalize subB (D Ui (at' + i)) tl b = b' at *
      have hst := ho.store (p := at' + i) (by omega) s2
      go_wp2
      go_roundw
      case rel => exact ⟨i + 1, _, c', b', by omega, by go_num, rfl, rfl, htc, s3, hst, gb_setCell hgb _, Lib.hid ⟨upd_lt hinv.out.1 (by omega) s2, by
          have h := red_step Ui U _ q (V % 4294967296 ^ i) (D V i) b c b' c' (4294967296 ^ at') (4294967296 ^ i) (4294967296 ^ (at' + i)) tl e _ (Nat.pow_add _ _ _) hinv.out.2 hdm.out.symm hs1.out (upd_add Ui (at' + i) e)
          rw [← Nat.pow_succ, ← mod_succ] at h
          exact h⟩⟩
      case measure => simp [intOf]; omega
    · obtain rfl : i = n := by omega
      have c2 := ho.cell (p := at' + i) (by omega)
      have f2 := ho.frozen (at' + i)
      have hdu := D_lt Ui (at' + i)
      go_wp2_with fail
      refine (c_sub32n _ _ _ _ hdu hc hb).mono ?_
      rintro e w1 ⟨rfl, rfl⟩
      obtain ⟨s1, s2, s3⟩ := sub_spec hdu hc hb
      have hs1 := Lib.hid s1
      clear s1
      generalize subE (D Ui (at' + i)) c b = e at *
      generalize subB (D Ui (at' + i)) c b = b' at *
      have hst := ho.store (p := at' + i) (by omega) s2
      have hgb2 := gb_setCell (p := at' + i) hgb (.int .u32 (e : Int))
      have hlt2 := upd_lt hinv.out.1 (show at' + i < at' + i + 1 by omega) s2
      have htop := red_top Ui U _ (q * V) b c b' (4294967296 ^ at') (4294967296 ^ i) (4294967296 ^ (at' + i)) e _ (Nat.pow_add _ _ _) (by have := hinv.out.2; rwa [Nat.mod_eq_of_lt HVN.out] at this) hs1.out (upd_add Ui (at' + i) e)
      rw [show 4294967296 ^ (at' + i) * 4294967296 = 4294967296 ^ (at' + i + 1) from (Nat.pow_succ ..).symm] at htop
      have hfz := hst.frozen (at' + i)
      have hce := hst.cell (p := at' + i) (by omega)
      generalize hU1 : upd Ui (at' + i) e = U1 at *
      have HTOP := Lib.hid htop
      have HLT2 := Lib.hid hlt2
      clear htop hlt2 hU1
      by_cases hb0 : b' = 0
      · have hbb : (((b' : Nat) : Int) == 0) = true := by rw [beq_iff_eq]; omega
        have HY := Lib.hid (red_yes (powB at') hV0 (by have := HTOP.out; rw [hb0] at this; simpa using this) HQ1.out)
        have HB0 := Lib.hid hb0
        clear hb0
        go_wp2
        go_ret
        rw [HY.out.2] at hst
        refine ⟨?_, hst, hgb2⟩
        rw [← HY.out.1]
        exact congrArg Ending.returned (congrArg (Value.int IntKind.u32) (by omega))
      · have hbb : (((b' : Nat) : Int) == 0) = false := by rw [beq_eq_false_iff_ne]; omega
        have HB1 := Lib.hid (show b' = 1 by omega)
        clear hb0
        go_wp2_with fail
        clear c2 f2 hdu hfz hce hgb ho
        generalize hwo : wr.setCell ⟨gu, at' + i, none⟩ (.int .u32 (e : Int)) = wo at *
        clear hwo
        go_loopw [14, 77] (fun s14 s77 wq => ∃ j Uj c2 : Nat, j ≤ i ∧ s77 = .int .i64 j ∧ s14 = .int .u32 (c2 : Int) ∧ c2 ≤ 1 ∧ OwnR wq gu Lu Uj ∧ w.grownBy wq (some gu) ∧
            Hid (Uj < 4294967296 ^ (at' + i + 1) ∧ Uj + c2 * 4294967296 ^ (at' + j) = U1 + 4294967296 ^ at' * (V % 4294967296 ^ j)))
          (fun _ s _ => i - (intOf s).toNat)
        case atStart => exact ⟨0, U1, 0, Nat.zero_le _, rfl, rfl, by decide, hst, hgb2, Lib.hid ⟨HLT2.out, by rw [Nat.pow_zero, Nat.mod_one, Nat.mul_zero, Nat.zero_mul]⟩⟩
        case round =>
          obtain ⟨j, Uj, c2, hj, rfl, rfl, hc2, hoj, hgj, hinj⟩ := hrel
          have hduj := D_lt Uj (at' + j)
          have cuj := hoj.cell (p := at' + j) (by omega)
          have fuj := hoj.frozen (at' + j)
          by_cases hlt : j < i
          · have hvr := hv.kept hgj (by simpa using hne)
            have cvj := hvr j hlt
            have hdv := D_lt V j
            simp only [Nat.zero_add] at cvj
            go_wp2_with fail
            refine (c_add32n _ _ _ _ hduj hdv hc2).mono ?_
            rintro e2 w2 ⟨rfl, rfl⟩
            have hs2 := Lib.hid (Nat.mod_add_div (D Uj (at' + j) + D V j + c2) 4294967296).symm
            have hl2 : (D Uj (at' + j) + D V j + c2) % 4294967296 < 4294967296 := Nat.mod_lt _ (by decide)
            have hc3 : (D Uj (at' + j) + D V j + c2) / 4294967296 ≤ 1 := by omega
            generalize (D Uj (at' + j) + D V j + c2) % 4294967296 = e2 at *
            generalize (D Uj (at' + j) + D V j + c2) / 4294967296 = c3 at *
            have hst2 := hoj.store (p := at' + j) (by omega) hl2
            go_wp2
            go_roundw
            case rel => exact ⟨j + 1, _, c3, by omega, by go_num, rfl, hc3, hst2, gb_setCell hgj _, Lib.hid ⟨upd_lt hinj.out.1 (by omega) hl2, by
                have h := red_back Uj U1 _ (V % 4294967296 ^ j) (D V j) c2 c3 (4294967296 ^ at') (4294967296 ^ j) (4294967296 ^ (at' + j)) e2 _ (Nat.pow_add _ _ _) hinj.out.2 hs2.out (upd_add Uj (at' + j) e2)
                rw [← Nat.pow_succ, ← mod_succ] at h
                exact h⟩⟩
            case measure => simp [intOf]; omega
          · obtain rfl : j = i := by omega
            have hk := Lib.hid (Nat.mod_add_div (D Uj (at' + j) + c2) 4294967296).symm
            have hl2 : (D Uj (at' + j) + c2) % 4294967296 < 4294967296 := Nat.mod_lt _ (by decide)
            have hst2 := hoj.store (p := at' + j) (by omega) hl2
            have hlt3 := upd_lt hinj.out.1 (show at' + j < at' + j + 1 by omega) hl2
            have hbt := red_backtop Uj U1 _ V c2 ((D Uj (at' + j) + c2) / 4294967296) (4294967296 ^ at') (4294967296 ^ j) (4294967296 ^ (at' + j)) ((D Uj (at' + j) + c2) % 4294967296) _ (Nat.pow_add _ _ _) (by have := hinj.out.2; rwa [Nat.mod_eq_of_lt HVN.out] at this) hk.out (upd_add Uj (at' + j) _)
            rw [show 4294967296 ^ (at' + j) * 4294967296 = 4294967296 ^ (at' + j + 1) from (Nat.pow_succ ..).symm] at hbt
            have htop2 := HTOP.out
            rw [HB1.out, Nat.one_mul] at htop2
            have hno := red_no (powB at') hV0 htop2 HLT2.out HQ1.out HQ2.out
            have hfin := red_fin (powB at') hV0 (by rw [hno] at htop2; exact htop2) rfl hbt hlt3 (by omega)
            rw [hfin] at hst2
            have HNO := Lib.hid hno
            have HST2 := Lib.hid hst2
            clear hfin hno htop2 hbt hlt3 hst2
            have hq1 : 1 ≤ q := by rw [HNO.out]; exact Nat.le_add_left _ _
            have hgf := gb_setCell (p := at' + j) hgj (.int .u32 (((D Uj (at' + j) + c2) % 4294967296 : Nat) : Int))
            go_wp2
            go_ret
            refine ⟨?_, by simpa using HST2.out, by simpa using hgf⟩
            refine congrArg Ending.returned (congrArg (Value.int IntKind.u32) ?_)
            have h := HNO.out
            generalize U / 4294967296 ^ at' / V = z at h ⊢
            omega
end Go.Proofs.Ythpndmamegfbkaa
