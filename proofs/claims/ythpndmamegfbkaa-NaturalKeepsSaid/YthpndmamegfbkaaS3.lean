/- The reference's digit and Trim. The reference's digit as an operation of a region that draws its order. -/
import Derived.Test.YthpndmamegfbkaaF6
namespace Go.Proofs.Ythpndmamegfbkaa
set_option linter.unusedSimpArgs false
set_option linter.unusedVariables false
open Go.RowKit
theorem D_over {m L i : Nat} (h : m < 4294967296 ^ L) (hi : L ≤ i) : D m i = 0 := by
  unfold D
  rw [Nat.div_eq_of_lt (Nat.lt_of_lt_of_le h (Nat.pow_le_pow_right (by decide) hi))]
theorem c_digit (va : Value) (L m i : Nat) (w : World) (ha : IsR w va L m) (hL : L ≤ 60000000000000) (hi : i ≤ 60000000000000) :
    Calls Try.prog 45 #[va, .int .i64 (i : Int)] w fun e w' => RetV w (.int .u64 ((D m i : Nat) : Int)) e w' := by
  obtain ⟨a, ca, rfl, hca, ra⟩ := ha
  have hw := bel1 w (.cells #[.slice a L ca] 24)
  have v1 := VarB.made w a L ca
  have ra0 := ra.mono hw
  have c1 := v1.cell
  go_enter Try.func45, Try.ntmps45
  by_cases h : L ≤ i
  · have h0 := D_over ra.lt h
    have h' : (L : Int) ≤ (i : Int) := by omega
    go_wp2
    go_ret
    exact ⟨by rw [h0]; rfl, hw⟩
  · obtain ⟨b1, o1, rfl, h1⟩ := ra0.cells (by omega)
    have d1 := h1 i (by omega)
    have h' : ¬ (L : Int) ≤ (i : Int) := by omega
    have hlt := D_lt m i
    go_wp2
    go_ret
    exact ⟨rfl, hw⟩
theorem GR.newC {w w' : World} {base L c N : Nat} {a : Option Addr} (h : GR w base (.slice a L c) L N) (hl : nl N = L) (hb : Below w.heap.size w w') : NewN base w' (.agg #[.slice a (nl N) c]) N := by
  obtain ⟨a', c', e, hLc, hrw, hown⟩ := h.open
  cases e
  refine ⟨a, c, rfl, by omega, fun hL => ?_⟩
  obtain ⟨g, rfl, hg, hgs, hf⟩ := hown (by omega)
  obtain ⟨b, o, e, hd⟩ := hrw.cells (by omega)
  cases e
  exact ⟨g, 0, rfl, hg, fun j hj => (hb.cell (p := ⟨g, 0 + j, none⟩) hgs).trans (hd j (by omega)), fun j hj => (hb.frozen (p := ⟨g, 0 + j, none⟩) hgs).trans (hf _)⟩
theorem mod_push (N i : Nat) : N % 4294967296 ^ i + D N i * 4294967296 ^ i = N % 4294967296 ^ (i + 1) := by
  rw [Nat.mod_pow_succ]
  unfold D
  rw [Nat.mul_comm]
set_option maxHeartbeats 1000000 in
theorem c_Trim (a : Option Addr) (L c N : Nat) (w : World) (ra : Rw w a L N) (hL : L ≤ 20000000000000) :
    Calls Try.prog 46 #[.slice a L c] w fun e w' => RetNew w N e w' := by
  have hw := bel1 w (.cells #[.slice none 0 0] 24)
  have v0 := VarB.made w none 0 0
  have ra0 := ra.mono hw
  have hnl : nl N ≤ L := nl_le_iff.2 ra.lt
  go_enter Try.func46, Try.ntmps46
  go_upto_region 1 with (fail)
  go_cut [3] (fun s3 wx => s3 = .int .i64 (L : Int) ∧ Below w.heap.size w wx ∧ VarB wx w.heap.size none 0 0)
  case first =>
    go_wp2_with fail
    go_meet
    case rel => exact ⟨rfl, hw, v0⟩
  case rest =>
    obtain ⟨rfl, hb0, v1⟩ := hcut
    clear hw v0 ra0
    have ra0 := ra.mono hb0
    have hsz := v1.lt
    go_upto_block 0 with (fail)
    go_cut [3] (fun s3 wx => s3 = .int .i64 ((nl N : Nat) : Int) ∧ wx = wc)
    case first =>
      go_wp2_with fail
      go_loopw [3] (fun s3 wr => ∃ n : Nat, s3 = .int .i64 (n : Int) ∧ n ≤ L ∧ nl N ≤ n ∧ wr = wc) (fun s3 _ => (intOf s3).toNat)
      case atStart => exact ⟨L, rfl, Nat.le_refl _, hnl, rfl⟩
      case round =>
        obtain ⟨n, rfl, hn, hnn, rfl⟩ := hrel
        by_cases hz : 0 < n ∧ D N (n - 1) = 0
        · obtain ⟨hn0, hd0⟩ := hz
          obtain ⟨b1, o1, rfl, h1⟩ := ra0.cells (by omega)
          have d1 := h1 (n - 1) (by omega)
          rw [hd0] at d1
          have e1 : ((n : Int) - 1) = ((n - 1 : Nat) : Int) := by omega
          have hlt : (0 : Int) < (n : Int) := by omega
          have hle : nl N ≤ n - 1 := nl_mod_of_zero (by omega) hd0
          have HD := Lib.hid hd0
          clear hd0
          go_wp2_with fail
          go_roundw
          case rel => exact ⟨n - 1, by go_num, by omega, hle, trivial⟩
          case measure => simp [intOf]; omega
        · have hN : nl N = n := by
            rcases Nat.lt_or_ge (nl N) n with h | h
            · exact absurd ⟨by omega, D_ge_nl (by omega)⟩ hz
            · omega
          subst hN
          rcases Nat.eq_zero_or_pos (nl N) with h | h
          · have h0 : ¬ (0 : Int) < ((nl N : Nat) : Int) := by omega
            have H := Lib.hid h
            clear h hz
            go_wp2_with fail
            go_meet
            case rel => exact ⟨rfl, rfl⟩
          · have hne : D N (nl N - 1) ≠ 0 := fun e => hz ⟨h, e⟩
            obtain ⟨b1, o1, rfl, h1⟩ := ra0.cells (by omega)
            have d1 := h1 (nl N - 1) (by omega)
            have e1 : (((nl N : Nat) : Int) - 1) = ((nl N - 1 : Nat) : Int) := by omega
            have hlt : (0 : Int) < ((nl N : Nat) : Int) := by omega
            have hne' : ¬ ((D N (nl N - 1) : Nat) : Int) = 0 := by omega
            clear hz hne
            go_wp2_with fail
            go_meet
            case rel => exact ⟨rfl, rfl⟩
    case rest =>
      obtain ⟨rfl, rfl⟩ := hcut
      go_wp2_with fail
      go_loopw [4, 5] (fun s4 s5 wr => ∃ i : Nat, i ≤ nl N ∧ s5 = .int .i64 (i : Int) ∧ GR wr (w.heap.size + 1) s4 i (N % 4294967296 ^ i) ∧ Below (w.heap.size + 1) wc wr ∧ w.heap.size + 1 ≤ wr.heap.size) (fun _ s5 _ => nl N - (intOf s5).toNat)
      case atStart => exact ⟨0, Nat.zero_le _, rfl, by rw [Nat.pow_zero, Nat.mod_one]; exact GR.nil _ _, Below.refl _ _, hsz⟩
      case round =>
        obtain ⟨i, hi, rfl, hgr, hbr, hsr⟩ := hrel
        by_cases hlt : i < nl N
        · have ra1 := ra.mono (hb0.trans (hbr.mono (Nat.le_succ _)))
          obtain ⟨b1, o1, rfl, h1⟩ := ra1.cells (by omega)
          have d1 := h1 i (by omega)
          have hdl := D_lt N i
          obtain ⟨a', c', rfl, hLc, hrw, hown⟩ := hgr.open
          go_wp2_with (at_builtin; refine wpList_append_digit rfl _ _ rfl (w.heap.size + 1) (.slice a' i c') i (N % 4294967296 ^ i) (D N i) rfl hgr hsr rfl hdl (by omega) ?_)
          intro v' w' hg' hb' hs'
          rw [mod_push] at hg'
          go_wp2_with fail
          go_roundw
          case rel => exact ⟨i + 1, by omega, by go_num, hg', hbr.trans hb', hs'⟩
          case measure => simp [intOf]; omega
        · obtain rfl : i = nl N := by omega
          rw [Nat.mod_eq_of_lt (lt_nl N)] at hgr
          obtain ⟨a', c', rfl, hLc, hrw, hown⟩ := hgr.open
          have vr := v1.mono hbr (Nat.lt_succ_self _)
          have cr := vr.cell
          have fr := vr.frozen
          have hn := (hgr.newC rfl (Below.refl _ _)).setVar (u := .slice a' (nl N) c') vr
          go_wp2
          exact bodyPost_ret (res_nat rfl _ _ w.heap.size _ rfl vr.set.cell) rfl ⟨_, rfl, hn.weaken (Nat.le_succ _), (hb0.trans (hbr.mono (Nat.le_succ _))).setCell (Nat.le_refl _) _⟩
end Go.Proofs.Ythpndmamegfbkaa
namespace Go.Proofs.Ythpndmamegfbkaa
set_option linter.unusedSimpArgs false
set_option linter.unusedVariables false
open Go.RowKit
section
variable {Q : Exit → Act → World → Prop} {o : Oper} {a : Act} {w : World} {x y : Operand} {tt : Array TypeId}
theorem arm_digit {m i : Nat} (ho : o.op = .call { callee := .value (.func 45), args := #[x, y], argTypes := tt }) (hx : Is a w x (.nat m)) (hy : Is a w y (.val (.int .i64 (i : Int)))) (hm : nl m ≤ 1000000000000) (hi : i ≤ 60000000000000) :
    Arm Try.prog Q o a w (.val (.int .u64 ((D m i : Nat) : Int))) := by
  refine arm_call ho (enters Try.func45 rfl rfl) (R := RetV w (.int .u64 ((D m i : Nat) : Int))) ?_ (fun _ _ h => ofV h)
  have hy' : a.eval y = .int .i64 (i : Int) := hy
  simpa [hy'] using c_digit _ (nl m) m i w hx (by omega) hi
end
theorem VarI.cell {w : World} {g N : Nat} (h : VarI w g N) : ∃ a c, w.cell? ⟨g, 0, none⟩ = some (.slice a (nl N) c) := by
  obtain ⟨a, c, h1, _⟩ := h; exact ⟨a, c, h1.cell⟩
theorem eq_of_digit {m n k : Nat} (h : m / 4294967296 ^ (k + 1) = n / 4294967296 ^ (k + 1)) (hd : D m k = D n k) : m / 4294967296 ^ k = n / 4294967296 ^ k := by
  rw [div_step m k, div_step n k, h, hd]
theorem GR.below {w w' : World} {base L N : Nat} {v : Value} (h : GR w base v L N) (hb : Below w.heap.size w w') : GR w' base v L N := by
  refine ⟨h.1, h.2.1, ?_⟩
  rcases h.2.2 with ⟨h1, h0⟩ | ⟨g, c, cur, rfl, hbg, hg, hr⟩
  · exact .inl ⟨h1, h0⟩
  · exact .inr ⟨g, c, cur, rfl, hbg, (hb.block g (Array.getElem?_eq_some_iff.1 hg).1).trans hg, hr⟩
theorem run_addU (x y z : Nat) (hz : x + y = z) (h : z < 18446744073709551616) (w : World) : (binOp BinOp.add 44 (.int .u64 (x : Int)) (.int .u64 (y : Int))).run Try.prog w = .ok (.int .u64 (z : Int)) w := by
  subst hz
  have e : ((x : Int) + (y : Int)) % 18446744073709551616 = ((x + y : Nat) : Int) := by omega
  go_simp
  exact e
theorem run_subU (x y z : Nat) (hz : x = y + z) (h : x < 18446744073709551616) (w : World) : (binOp BinOp.sub 44 (.int .u64 (x : Int)) (.int .u64 (y : Int))).run Try.prog w = .ok (.int .u64 (z : Int)) w := by
  subst hz
  have e : (((y + z : Nat) : Int) - (y : Int)) % 18446744073709551616 = (z : Int) := by omega
  go_simp
  exact e
end Go.Proofs.Ythpndmamegfbkaa
