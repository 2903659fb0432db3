/- The reference's Parse. -/
import Derived.Test.YthpndmamegfbkaaED
namespace Go.Proofs.Ythpndmamegfbkaa
set_option linter.unusedSimpArgs false
set_option linter.unusedVariables false
open Go.RowKit
theorem parseVal_lt {s : ByteArray} : ∀ k, goodTo s k → parseVal s k < 10 ^ k
  | 0, _ => by show (0 : Nat) < 1; decide
  | k + 1, h => by
    have h1 := parseVal_lt k (fun j hj => h j (by omega))
    have h2 := h k (by omega)
    show 10 * parseVal s k + (by' s k - 48) < 10 ^ (k + 1)
    rw [Nat.pow_succ]
    omega
theorem parseVal_nl {s : ByteArray} {k : Nat} (h : goodTo s k) : nl (parseVal s k) ≤ k :=
  nl_le_iff.2 (Nat.lt_of_lt_of_le (parseVal_lt k h) (Nat.pow_le_pow_left (by decide) k))
theorem run_sub48 (d : Nat) (h : d ≤ 9) (w : World) : (binOp BinOp.sub 5 (.int .u8 ((48 + d : Nat) : Int)) (.int .u8 48)).run Try.prog w = .ok (.int .u8 (d : Int)) w := by
  have e : (((48 + d : Nat) : Int) - 48) % 256 = (d : Int) := by omega
  go_simp
  exact e
theorem run_conv8 (d : Nat) (h : d ≤ 255) (w : World) : (convert 5 44 (.int .u8 (d : Int))).run Try.prog w = .ok (.int .u64 (d : Int)) w := by
  go_simp
  simp [IntKind.wrap, IntKind.signed, IntKind.bits]
  try omega
theorem run_index (s : ByteArray) (k : Nat) (h : k < s.size) (w : World) : (Instr.index 9 (.string s) (.int .i64 (k : Int))).run Try.prog w = .ok (.int .u8 ((by' s k : Nat) : Int)) w := by
  rw [← by_eq h]
  go_simp
section
variable {Q : Exit → Act → World → Prop} {o : Oper} {a : Act} {w : World} {x y z : Operand} {m : Nat} {tt : Array TypeId}
theorem arm_index {s : ByteArray} {k b : Nat} (ho : o.op = .index 9 x y) (hx : Is a w x (.val (.string s))) (hy : Is a w y (.val (.int .i64 (k : Int)))) (hk : k < s.size) (hb : by' s k = b) : Arm Try.prog Q o a w (.val (.int .u8 (b : Int))) := by
  subst hb
  have hx' : a.eval x = .string s := hx
  have hy' : a.eval y = .int .i64 (k : Int) := hy
  refine arm_run _ ?_ rfl
  unfold execOp
  rw [ho]
  simp only [hx', hy', Sem.run_bind, run_index s k hk, Result.andThen, Sem.run_pure]
theorem arm_conv8 {d : Nat} (ho : o.op = .convert 5 44 x) (hx : Is a w x (.val (.int .u8 (d : Int)))) (hd : d ≤ 255) : Arm Try.prog Q o a w (.val (.int .u64 (d : Int))) := by
  have hx' : a.eval x = .int .u8 (d : Int) := hx
  refine arm_run _ ?_ rfl
  unfold execOp
  rw [ho]
  simp only [hx', Sem.run_bind, run_conv8 d hd, Result.andThen, Sem.run_pure]
theorem arm_small {base d N : Nat} (hb : base ≤ w.heap.size) (ho : o.op = .call { callee := .value (.func 50), args := #[x, y, z], argTypes := tt }) (hx : Is a w x (.nat m)) (hy : Is a w y (.val (.int .u64 10))) (hz : Is a w z (.val (.int .u64 (d : Int)))) (hm : nl m ≤ 100000000000) (hd : d ≤ 9) (hN : m * 10 + d = N) : Arm Try.prog Q o a w (.new base N) := by
  subst hN
  refine arm_call ho (enters Try.func50 rfl rfl) (R := fun e w' => RetNew w (m * 10 + d) e w') ?_ (fun _ _ h => ofNewB hb h)
  have hy' : a.eval y = .int .u64 10 := hy
  have hz' : a.eval z = .int .u64 (d : Int) := hz
  have := c_small (a.eval x) m 10 d w hx hm (by decide) (by omega)
  simpa [hy', hz'] using this
end
def parseTab (w : World) (s : ByteArray) (k d V V2 : Nat) : List (Nat × Tmp × Sp) :=
   [(0, 40, .nat (V)),
    (1, 41, .val (Value.string s)),
    (2, 42, .val (Value.int IntKind.i64 ((k : Nat)))),
    (3, 43, .val (Value.int IntKind.u8 ((48 + d : Nat) : Int))),
    (4, 44, .val (Value.int IntKind.u8 ((d : Nat) : Int))),
    (5, 45, .val (Value.int IntKind.u64 ((d : Nat)))),
    (6, 46, .new w.heap.size V2)]
theorem c_rParse_short (s : ByteArray) (w : World) (h0 : s.size = 0) : Calls Try.prog 25 #[.string s] w fun e w' => RetP w 0 1 e w' := by
  obtain ⟨hb, v2⟩ := start1 w
  have he := isEmpty_true h0
  have c2 := v2.cell
  have f2 := v2.frozen
  go_enter Try.func25, Try.ntmps25
  go_wp2
  exact bodyPost_ret (res_nat2 rfl _ _ w.heap.size (.slice none 0 0) (.int .i64 1) rfl rfl (by simp [go_sem])) rfl ⟨_, rfl, NewN.of_zero, by first | exact hb | exact hb.setCell (Nat.le_refl _) _⟩
theorem c_rParse_long (s : ByteArray) (w : World) (h0 : 400 < s.size) : Calls Try.prog 25 #[.string s] w fun e w' => RetP w 0 3 e w' := by
  obtain ⟨hb, v2⟩ := start1 w
  have he := isEmpty_false (s := s) (by omega)
  have hl : (400 : Int) < (s.size : Int) := by omega
  go_enter Try.func25, Try.ntmps25
  go_wp2
  exact bodyPost_ret (res_nat2 rfl _ _ w.heap.size (.slice none 0 0) (.int .i64 3) rfl rfl (by simp [go_sem])) rfl ⟨_, rfl, NewN.of_zero, by first | exact hb | exact hb.setCell (Nat.le_refl _) _⟩
theorem c_rParse_zero (s : ByteArray) (w : World) (h0 : 1 < s.size) (h1 : s.size ≤ 400) (hz : by' s 0 = 48) : Calls Try.prog 25 #[.string s] w fun e w' => RetP w 0 2 e w' := by
  obtain ⟨hb, v2⟩ := start1 w
  have he := isEmpty_false (s := s) (by omega)
  have hl : ¬ (400 : Int) < (s.size : Int) := by omega
  have hp : 0 < s.size := by omega
  have hz' : (((s[0]'hp).toNat : Nat) : Int) = 48 := by rw [by_eq, hz]; rfl
  have h0' : (1 : Int) < (s.size : Int) := by omega
  go_enter Try.func25, Try.ntmps25
  go_wp2
  exact bodyPost_ret (res_nat2 rfl _ _ w.heap.size (.slice none 0 0) (.int .i64 2) rfl rfl (by simp [go_sem])) rfl ⟨_, rfl, NewN.of_zero, by first | exact hb | exact hb.setCell (Nat.le_refl _) _⟩
set_option maxRecDepth 100000 in
set_option maxHeartbeats 1000000 in
theorem c_rParse_loop (s : ByteArray) (w : World) (N : Nat) (c : Int) (h0 : 0 < s.size) (h1 : s.size ≤ 400) (hz : by' s 0 = 48 → s.size = 1) (hgood : goodTo s s.size → N = parseVal s s.size ∧ c = 0) (hbad : ¬ goodTo s s.size → N = 0 ∧ c = 2) :
    Calls Try.prog 25 #[.string s] w fun e w' => RetP w N c e w' := by
  obtain ⟨hb, v2⟩ := start1 w
  have he := isEmpty_false (s := s) (by omega)
  have hl : ¬ (400 : Int) < (s.size : Int) := by omega
  have HG := Lib.hid hgood
  have HB := Lib.hid hbad
  clear hgood hbad
  obtain ⟨kb, kr, kv⟩ := start2 w none none 0 0 0 0
  have kN : VarN w.heap.size ((w.alloc (.cells #[.slice none 0 0] 24)).alloc (.cells #[.slice none 0 0] 24)) (w.heap.size + 1) 0 := ⟨none, 0, by rw [nl_zero]; exact kv, by rw [nl_zero]; exact NewN.of_zero⟩
  go_enter Try.func25, Try.ntmps25
  by_cases hz0 : by' s 0 = 48
  · have hs1 := hz hz0
    have hz' : (((s[0]'h0).toNat : Nat) : Int) = 48 := by rw [by_eq, hz0]; rfl
    have h0' : ¬ (1 : Int) < (s.size : Int) := by omega
    clear hz hz0
    go_upto_region 7 with (fail)
    go_cut [4] (fun s4 wx => s4 = .pointer (some ⟨w.heap.size + 1, 0, none⟩) ∧ VarB wx w.heap.size none 0 0 ∧ VarN w.heap.size wx (w.heap.size + 1) 0 ∧ Below w.heap.size w wx)
    case first =>
      go_wp2_with fail
      go_meet
      case rel => exact ⟨rfl, kr, kN, kb⟩
    case rest =>
    obtain ⟨rfl, vr, vN, hb1⟩ := hcut
    clear kb kr kv kN hb v2
    go_wp2_with fail
    go_loopw [5] (fun s5 wr => ∃ k, k ≤ s.size ∧ s5 = .int .i64 (k : Nat) ∧ Hid (goodTo s k) ∧ VarB wr w.heap.size none 0 0 ∧ VarN w.heap.size wr (w.heap.size + 1) (parseVal s k) ∧ Below w.heap.size w wr)
      (fun s5 _ => s.size - (intOf s5).toNat)
    case atStart => exact ⟨0, Nat.zero_le _, rfl, Lib.hid (fun j h => by omega), vr, vN, hb1⟩
    case round =>
      clear vr vN hb1
      obtain ⟨k, hk, rfl, HR, vr, vN, hbr⟩ := hrel
      have cr := vr.cell
      have fr := vr.frozen
      by_cases hlt : k < s.size
      · by_cases hlo : by' s k < 48
        · have hx : (((s[k]'hlt).toNat : Nat) : Int) < 48 := by rw [by_eq]; omega
          obtain ⟨rfl, rfl⟩ := HB.out (fun h => by have := (h k hlt).1; omega)
          clear HB HG HR
          go_wp2
          exact bodyPost_ret (res_nat2 rfl _ _ w.heap.size (.slice none 0 0) (.int .i64 2) rfl rfl vr.set.cell) rfl ⟨_, rfl, NewN.of_zero, hbr.setCell (Nat.le_refl _) _⟩
        · by_cases hhi : 57 < by' s k
          · have hx : ¬ (((s[k]'hlt).toNat : Nat) : Int) < 48 := by rw [by_eq]; omega
            have hy : (57 : Int) < (((s[k]'hlt).toNat : Nat) : Int) := by rw [by_eq]; omega
            obtain ⟨rfl, rfl⟩ := HB.out (fun h => by have := (h k hlt).2; omega)
            clear HB HG HR
            go_wp2
            exact bodyPost_ret (res_nat2 rfl _ _ w.heap.size (.slice none 0 0) (.int .i64 2) rfl rfl vr.set.cell) rfl ⟨_, rfl, NewN.of_zero, hbr.setCell (Nat.le_refl _) _⟩
          · have hx : ¬ (((s[k]'hlt).toNat : Nat) : Int) < 48 := by rw [by_eq]; omega
            have hy : ¬ (57 : Int) < (((s[k]'hlt).toNat : Nat) : Int) := by rw [by_eq]; omega
            obtain ⟨d, hd⟩ : ∃ d : Nat, by' s k = 48 + d := ⟨by' s k - 48, by omega⟩
            have hd9 : d ≤ 9 := by omega
            have HD := Lib.hid (show goodTo s (k + 1) from fun j hj => by
              rcases Nat.lt_or_ge j k with h | h
              · exact HR.out j h
              · rw [show j = k by omega]; omega)
            obtain ⟨V, hV⟩ : ∃ V : Nat, Hid (V = parseVal s k) := ⟨_, Lib.hid rfl⟩
            have hVb : nl V ≤ 100000000000 := by rw [hV.out]; exact Nat.le_trans (parseVal_nl HR.out) (by omega)
            obtain ⟨V2, hV2⟩ : ∃ V2 : Nat, Hid (V2 = V * 10 + d) := ⟨_, Lib.hid rfl⟩
            have HP := Lib.hid (show parseVal s (k + 1) = V2 by
              show 10 * parseVal s k + (by' s k - 48) = V2
              rw [hV2.out, hV.out]; omega)
            rw [← hV.out] at vN
            have hbyd := hd
            have HBD := Lib.hid hbyd
            clear hlo hhi hd hbyd cr fr
            go_upto_region 13 with (fail)
            refine wp_tabK Try.f25 13 (parseTab w s k d V V2) (fun _ => false) 4 1 (by kernel_rfl) (by kernel_rfl) (by kernel_rfl) (by kernel_rfl) (EachX.of_all (fun _ h => by cases h) _) ?_ ?_
            · refine ⟨fun a' w' F => ⟨_, rfl, wanted_none rfl, (arm_load rfl (F.keep 4 (Value.pointer (some ⟨w.heap.size + 1, 0, none⟩)) (by kernel_rfl) rfl).is (vN.isI.mono F.below)).b⟩, ?_⟩
              refine ⟨fun a' w' F => ⟨_, rfl, wanted_none rfl, (arm_move (.inl rfl) (F.keep 0 (Value.string s) (by kernel_rfl) rfl).is).b⟩, ?_⟩
              refine ⟨fun a' w' F => ⟨_, rfl, wanted_none rfl, (arm_move (.inl rfl) (F.keep 5 (Value.int IntKind.i64 ((k : Nat))) (by kernel_rfl) rfl).is).b⟩, ?_⟩
              refine ⟨fun a' w' F => ⟨_, rfl, wanted_none rfl, (arm_index rfl (F.at' 1 41 _ rfl (by kernel_rfl)).is (F.at' 2 42 _ rfl (by kernel_rfl)).is hlt HBD.out).b⟩, ?_⟩
              refine ⟨fun a' w' F => ⟨_, rfl, wanted_none rfl, (arm_bin rfl (F.at' 3 43 _ rfl (by kernel_rfl)).is Is.const (fun _ => rfl) (run_sub48 d (by omega))).b⟩, ?_⟩
              refine ⟨fun a' w' F => ⟨_, rfl, wanted_none rfl, (arm_conv8 rfl (F.at' 4 44 _ rfl (by kernel_rfl)).is (by omega)).b⟩, ?_⟩
              refine ⟨fun a' w' F => ⟨_, rfl, wanted_none rfl, (arm_small (Nat.le_trans hbr.size F.below.size) rfl (F.at' 0 40 _ rfl (by kernel_rfl)).is Is.const (F.at' 5 45 _ rfl (by kernel_rfl)).is hVb (by omega) hV2.out.symm).b⟩, ?_⟩
              exact trivial
            intro gp wp bp G Gs
            obtain ⟨v6, e6, n6⟩ : ∃ v, gp 6 = v ∧ NewN w.heap.size wp v V2 := ⟨_, rfl, G 6 46 _ rfl⟩
            obtain ⟨x6, c6, rfl, hc6, hx6⟩ := n6
            have n6 : NewN w.heap.size wp (.agg #[.slice x6 (nl V2) c6]) V2 := ⟨x6, c6, rfl, hc6, hx6⟩
            obtain ⟨aN, cN, bN, nN⟩ := vN
            have bN2 := bN.mono bp bN.lt
            have vr2 := vr.mono bp vr.lt
            clear G Gs hc6 hx6
            simp only [parseTab]
            simp only [putD, entries, List.map_cons, List.map_nil, List.foldl_cons, List.foldl_nil, Act.put, List.setIfInBounds_toArray, List.set_cons_zero, List.set_cons_succ, e6]
            refine wpAny_store (j := 7) (by kernel_rfl) rfl rfl rfl rfl rfl rfl ⟨_, _, _, rfl⟩ bN2 ?_
            refine wpAny_done (by kernel_rfl) ?_ _
            have hB := (hbr.trans (bp.mono hbr.size)).setCell (p := ⟨w.heap.size + 1, 0, none⟩) (Nat.le_succ _) (.slice x6 (nl V2) c6)
            have vN2 : VarN w.heap.size (wp.setCell ⟨w.heap.size + 1, 0, none⟩ (.slice x6 (nl V2) c6)) (w.heap.size + 1) V2 := ⟨x6, c6, bN2.set, n6.setVar bN2⟩
            have vr3 := vr2.setOther ⟨w.heap.size + 1, 0, none⟩ (.slice x6 (nl V2) c6) (by simp)
            go_wp2_with fail
            go_roundw
            case rel => exact ⟨k + 1, by omega, by go_num, HD, vr3, by rw [HP.out]; exact vN2, hB⟩
            case measure => simp [intOf] <;> omega
      · obtain rfl : k = s.size := by omega
        obtain ⟨rfl, rfl⟩ := HG.out HR.out
        clear HB HG HR
        obtain ⟨V, hV⟩ : ∃ V : Nat, Hid (V = parseVal s s.size) := ⟨_, Lib.hid rfl⟩
        rw [← hV.out] at vN
        obtain ⟨aN, cN, bN, nN⟩ := vN
        have c1 := bN.cell
        have nn := nN.setVar (u := .slice aN (nl V) cN) vr
        go_wp2
        exact bodyPost_ret (res_nat2 rfl _ _ w.heap.size _ (.int .i64 0) rfl rfl vr.set.cell) rfl ⟨_, rfl, by rw [← hV.out]; exact nn, hbr.setCell (Nat.le_refl _) _⟩
  · have hz' : ¬ (((s[0]'h0).toNat : Nat) : Int) = 48 := by rw [by_eq]; omega
    clear hz hz0
    go_upto_region 7 with (fail)
    go_cut [4] (fun s4 wx => s4 = .pointer (some ⟨w.heap.size + 1, 0, none⟩) ∧ VarB wx w.heap.size none 0 0 ∧ VarN w.heap.size wx (w.heap.size + 1) 0 ∧ Below w.heap.size w wx)
    case first =>
      go_wp2_with fail
      go_meet
      case rel => exact ⟨rfl, kr, kN, kb⟩
    case rest =>
    obtain ⟨rfl, vr, vN, hb1⟩ := hcut
    clear kb kr kv kN hb v2
    go_wp2_with fail
    go_loopw [5] (fun s5 wr => ∃ k, k ≤ s.size ∧ s5 = .int .i64 (k : Nat) ∧ Hid (goodTo s k) ∧ VarB wr w.heap.size none 0 0 ∧ VarN w.heap.size wr (w.heap.size + 1) (parseVal s k) ∧ Below w.heap.size w wr)
      (fun s5 _ => s.size - (intOf s5).toNat)
    case atStart => exact ⟨0, Nat.zero_le _, rfl, Lib.hid (fun j h => by omega), vr, vN, hb1⟩
    case round =>
      clear vr vN hb1
      obtain ⟨k, hk, rfl, HR, vr, vN, hbr⟩ := hrel
      have cr := vr.cell
      have fr := vr.frozen
      by_cases hlt : k < s.size
      · by_cases hlo : by' s k < 48
        · have hx : (((s[k]'hlt).toNat : Nat) : Int) < 48 := by rw [by_eq]; omega
          obtain ⟨rfl, rfl⟩ := HB.out (fun h => by have := (h k hlt).1; omega)
          clear HB HG HR
          go_wp2
          exact bodyPost_ret (res_nat2 rfl _ _ w.heap.size (.slice none 0 0) (.int .i64 2) rfl rfl vr.set.cell) rfl ⟨_, rfl, NewN.of_zero, hbr.setCell (Nat.le_refl _) _⟩
        · by_cases hhi : 57 < by' s k
          · have hx : ¬ (((s[k]'hlt).toNat : Nat) : Int) < 48 := by rw [by_eq]; omega
            have hy : (57 : Int) < (((s[k]'hlt).toNat : Nat) : Int) := by rw [by_eq]; omega
            obtain ⟨rfl, rfl⟩ := HB.out (fun h => by have := (h k hlt).2; omega)
            clear HB HG HR
            go_wp2
            exact bodyPost_ret (res_nat2 rfl _ _ w.heap.size (.slice none 0 0) (.int .i64 2) rfl rfl vr.set.cell) rfl ⟨_, rfl, NewN.of_zero, hbr.setCell (Nat.le_refl _) _⟩
          · have hx : ¬ (((s[k]'hlt).toNat : Nat) : Int) < 48 := by rw [by_eq]; omega
            have hy : ¬ (57 : Int) < (((s[k]'hlt).toNat : Nat) : Int) := by rw [by_eq]; omega
            obtain ⟨d, hd⟩ : ∃ d : Nat, by' s k = 48 + d := ⟨by' s k - 48, by omega⟩
            have hd9 : d ≤ 9 := by omega
            have HD := Lib.hid (show goodTo s (k + 1) from fun j hj => by
              rcases Nat.lt_or_ge j k with h | h
              · exact HR.out j h
              · rw [show j = k by omega]; omega)
            obtain ⟨V, hV⟩ : ∃ V : Nat, Hid (V = parseVal s k) := ⟨_, Lib.hid rfl⟩
            have hVb : nl V ≤ 100000000000 := by rw [hV.out]; exact Nat.le_trans (parseVal_nl HR.out) (by omega)
            obtain ⟨V2, hV2⟩ : ∃ V2 : Nat, Hid (V2 = V * 10 + d) := ⟨_, Lib.hid rfl⟩
            have HP := Lib.hid (show parseVal s (k + 1) = V2 by
              show 10 * parseVal s k + (by' s k - 48) = V2
              rw [hV2.out, hV.out]; omega)
            rw [← hV.out] at vN
            have hbyd := hd
            have HBD := Lib.hid hbyd
            clear hlo hhi hd hbyd cr fr
            go_upto_region 13 with (fail)
            refine wp_tabK Try.f25 13 (parseTab w s k d V V2) (fun _ => false) 4 1 (by kernel_rfl) (by kernel_rfl) (by kernel_rfl) (by kernel_rfl) (EachX.of_all (fun _ h => by cases h) _) ?_ ?_
            · refine ⟨fun a' w' F => ⟨_, rfl, wanted_none rfl, (arm_load rfl (F.keep 4 (Value.pointer (some ⟨w.heap.size + 1, 0, none⟩)) (by kernel_rfl) rfl).is (vN.isI.mono F.below)).b⟩, ?_⟩
              refine ⟨fun a' w' F => ⟨_, rfl, wanted_none rfl, (arm_move (.inl rfl) (F.keep 0 (Value.string s) (by kernel_rfl) rfl).is).b⟩, ?_⟩
              refine ⟨fun a' w' F => ⟨_, rfl, wanted_none rfl, (arm_move (.inl rfl) (F.keep 5 (Value.int IntKind.i64 ((k : Nat))) (by kernel_rfl) rfl).is).b⟩, ?_⟩
              refine ⟨fun a' w' F => ⟨_, rfl, wanted_none rfl, (arm_index rfl (F.at' 1 41 _ rfl (by kernel_rfl)).is (F.at' 2 42 _ rfl (by kernel_rfl)).is hlt HBD.out).b⟩, ?_⟩
              refine ⟨fun a' w' F => ⟨_, rfl, wanted_none rfl, (arm_bin rfl (F.at' 3 43 _ rfl (by kernel_rfl)).is Is.const (fun _ => rfl) (run_sub48 d (by omega))).b⟩, ?_⟩
              refine ⟨fun a' w' F => ⟨_, rfl, wanted_none rfl, (arm_conv8 rfl (F.at' 4 44 _ rfl (by kernel_rfl)).is (by omega)).b⟩, ?_⟩
              refine ⟨fun a' w' F => ⟨_, rfl, wanted_none rfl, (arm_small (Nat.le_trans hbr.size F.below.size) rfl (F.at' 0 40 _ rfl (by kernel_rfl)).is Is.const (F.at' 5 45 _ rfl (by kernel_rfl)).is hVb (by omega) hV2.out.symm).b⟩, ?_⟩
              exact trivial
            intro gp wp bp G Gs
            obtain ⟨v6, e6, n6⟩ : ∃ v, gp 6 = v ∧ NewN w.heap.size wp v V2 := ⟨_, rfl, G 6 46 _ rfl⟩
            obtain ⟨x6, c6, rfl, hc6, hx6⟩ := n6
            have n6 : NewN w.heap.size wp (.agg #[.slice x6 (nl V2) c6]) V2 := ⟨x6, c6, rfl, hc6, hx6⟩
            obtain ⟨aN, cN, bN, nN⟩ := vN
            have bN2 := bN.mono bp bN.lt
            have vr2 := vr.mono bp vr.lt
            clear G Gs hc6 hx6
            simp only [parseTab]
            simp only [putD, entries, List.map_cons, List.map_nil, List.foldl_cons, List.foldl_nil, Act.put, List.setIfInBounds_toArray, List.set_cons_zero, List.set_cons_succ, e6]
            refine wpAny_store (j := 7) (by kernel_rfl) rfl rfl rfl rfl rfl rfl ⟨_, _, _, rfl⟩ bN2 ?_
            refine wpAny_done (by kernel_rfl) ?_ _
            have hB := (hbr.trans (bp.mono hbr.size)).setCell (p := ⟨w.heap.size + 1, 0, none⟩) (Nat.le_succ _) (.slice x6 (nl V2) c6)
            have vN2 : VarN w.heap.size (wp.setCell ⟨w.heap.size + 1, 0, none⟩ (.slice x6 (nl V2) c6)) (w.heap.size + 1) V2 := ⟨x6, c6, bN2.set, n6.setVar bN2⟩
            have vr3 := vr2.setOther ⟨w.heap.size + 1, 0, none⟩ (.slice x6 (nl V2) c6) (by simp)
            go_wp2_with fail
            go_roundw
            case rel => exact ⟨k + 1, by omega, by go_num, HD, vr3, by rw [HP.out]; exact vN2, hB⟩
            case measure => simp [intOf] <;> omega
      · obtain rfl : k = s.size := by omega
        obtain ⟨rfl, rfl⟩ := HG.out HR.out
        clear HB HG HR
        obtain ⟨V, hV⟩ : ∃ V : Nat, Hid (V = parseVal s s.size) := ⟨_, Lib.hid rfl⟩
        rw [← hV.out] at vN
        obtain ⟨aN, cN, bN, nN⟩ := vN
        have c1 := bN.cell
        have nn := nN.setVar (u := .slice aN (nl V) cN) vr
        go_wp2
        exact bodyPost_ret (res_nat2 rfl _ _ w.heap.size _ (.int .i64 0) rfl rfl vr.set.cell) rfl ⟨_, rfl, by rw [← hV.out]; exact nn, hbr.setCell (Nat.le_refl _) _⟩
theorem c_ref_Parse (s : ByteArray) (w : World) (N : Nat) (c : Int) (h : ParseIs s N c) : Calls Try.prog 25 #[.string s] w fun e w' => RetP w N c e w' := by
  by_cases h0 : s.size = 0
  · obtain ⟨rfl, rfl⟩ := h.short h0; exact c_rParse_short s w h0
  · by_cases h1 : 400 < s.size
    · obtain ⟨rfl, rfl⟩ := h.long h1; exact c_rParse_long s w h1
    · by_cases h2 : 1 < s.size ∧ by' s 0 = 48
      · obtain ⟨rfl, rfl⟩ := h.zero h2.1 (by omega) h2.2; exact c_rParse_zero s w h2.1 (by omega) h2.2
      · have hz : by' s 0 = 48 → s.size = 1 := fun e => by
          rcases Nat.lt_or_ge 1 s.size with h' | h'
          · exact absurd ⟨h', e⟩ h2
          · omega
        exact c_rParse_loop s w N c (by omega) (by omega) hz (fun hg => h.good (by omega) (by omega) hz hg) (fun hg => h.bad (by omega) (by omega) hg)
end Go.Proofs.Ythpndmamegfbkaa
