/- Decimal texts: what is formatted is parsed as it was, and what is parsed is formatted as it was. The reference's Format as an operation. The reference's small: one digit more. The reference's Parse. Fractions in memory; tables of regions whose operations may be skipped. Fractions: stores, the operations of tables. Make of package fraction. Mul, Neg of package fraction; Neg of the reference. Add of package fraction. Stores that leave an unnamed world behind; calls of whatever contract in tables. An executor: abstract values, what they say of values in memory. An executor: the operations of a region in whatever order. An executor: a region as a whole. -/
import Derived.Test.YthebfmlfgfmlnaaGreatDoorP05
import Derived.Laws.AppendOwn
namespace Go.Proofs.YthebfmlfgfmlnaaGreatDoor
set_option linter.unusedSimpArgs false
set_option linter.unusedVariables false
set_option maxRecDepth 100000
open Go.RowKit
theorem by_list (l : List UInt8) (i : Nat) : by' ⟨l.toArray⟩ i = (l[i]?.map UInt8.toNat).getD 0 := by
  unfold by'
  by_cases h : i < l.length
  · have h' : i < (ByteArray.mk l.toArray).size := by simpa [ByteArray.size] using h
    rw [dif_pos h']
    simp [h]
    rfl
  · have h' : ¬ i < (ByteArray.mk l.toArray).size := by simpa [ByteArray.size] using h
    rw [dif_neg h', List.getElem?_eq_none (by omega)]
    rfl
theorem parseVal_congr {s t : ByteArray} : ∀ k, (∀ j, j < k → by' s j = by' t j) → parseVal s k = parseVal t k
  | 0, _ => rfl
  | k + 1, h => by
    show 10 * parseVal s k + (by' s k - 48) = 10 * parseVal t k + (by' t k - 48)
    rw [parseVal_congr k (fun j hj => h j (by omega)), h k (by omega)]
theorem digit_byte (d : Nat) (h : d ≤ 9) : (UInt8.ofNat (48 + d)).toNat = 48 + d := by rw [UInt8.toNat_ofNat']; omega
theorem by_snoc_lt (l : List UInt8) (b : UInt8) (j : Nat) (h : j < l.length) : by' ⟨(l ++ [b]).toArray⟩ j = by' ⟨l.toArray⟩ j := by
  rw [by_list, by_list, List.getElem?_append_left h]
theorem by_snoc_eq (l : List UInt8) (b : UInt8) : by' ⟨(l ++ [b]).toArray⟩ l.length = b.toNat := by
  rw [by_list]; simp
/-- The digits of N, read as a number, are N; all are digits; the first is not 0. -/
theorem dec_read : ∀ (n N : Nat), N ≤ n → N ≠ 0 → parseVal ⟨(decB N).reverse.toArray⟩ (decB N).length = N ∧ goodTo ⟨(decB N).reverse.toArray⟩ (decB N).length ∧ by' ⟨(decB N).reverse.toArray⟩ 0 ≠ 48 ∧ 0 < (decB N).length
  | 0, N, h, h0 => by omega
  | n + 1, N, h, h0 => by
    have hd := digit_byte (N % 10) (by omega)
    rw [decB_pos h0, List.reverse_cons, List.length_cons]
    by_cases hz : N / 10 = 0
    · have hN : N ≤ 9 := by omega
      rw [hz, decB_zero]
      have e := by_snoc_eq [] (UInt8.ofNat (48 + N % 10))
      rw [hd] at e
      simp only [List.reverse_nil, List.length_nil] at e ⊢
      refine ⟨?_, ?_, ?_, by omega⟩
      · show 10 * 0 + (by' _ 0 - 48) = N
        rw [e]; omega
      · intro j hj
        obtain rfl : j = 0 := by omega
        rw [e]; omega
      · rw [e]; omega
    · obtain ⟨i1, i2, i3, i4⟩ := dec_read n (N / 10) (by omega) hz
      have hlt : ∀ j, j < (decB (N / 10)).length → by' ⟨((decB (N / 10)).reverse ++ [UInt8.ofNat (48 + N % 10)]).toArray⟩ j = by' ⟨(decB (N / 10)).reverse.toArray⟩ j := fun j hj => by_snoc_lt _ _ j (by simpa using hj)
      have heq : by' ⟨((decB (N / 10)).reverse ++ [UInt8.ofNat (48 + N % 10)]).toArray⟩ (decB (N / 10)).length = 48 + N % 10 := by
        have := by_snoc_eq (decB (N / 10)).reverse (UInt8.ofNat (48 + N % 10))
        rw [List.length_reverse, hd] at this
        exact this
      refine ⟨?_, ?_, ?_, by omega⟩
      · show 10 * parseVal _ (decB (N / 10)).length + (by' _ (decB (N / 10)).length - 48) = N
        rw [parseVal_congr _ hlt, i1, heq]; omega
      · intro j hj
        rcases Nat.lt_or_ge j (decB (N / 10)).length with h' | h'
        · rw [hlt j h']; exact i2 j h'
        · obtain rfl : j = (decB (N / 10)).length := by omega
          rw [heq]; omega
      · rw [hlt 0 i4]; exact i3
theorem fmt_parses (N : Nat) (h : nl N ≤ 12) : ParseIs (fmtB N) N 0 := by
  by_cases h0 : N = 0
  · subst h0
    have e : fmtB 0 = ⟨#[48]⟩ := by unfold fmtB; rw [if_pos rfl]
    rw [e]
    refine ⟨fun h => absurd h (by decide), fun h => absurd h (by decide), fun h => absurd h (by decide), fun _ _ h => absurd (by decide : ∀ j, j < 1 → _) h, fun _ _ _ _ => ⟨by decide, rfl⟩⟩
  · have e : fmtB N = ⟨(decB N).reverse.toArray⟩ := by unfold fmtB; rw [if_neg h0]
    have hsz : (fmtB N).size = (decB N).length := by rw [e]; simp [ByteArray.size]
    obtain ⟨i1, i2, i3, i4⟩ := dec_read N N (Nat.le_refl _) h0
    have hb := decB_bound N
    rw [← e] at i1 i2 i3
    refine ⟨fun h => by omega, fun h => by omega, fun _ _ h => absurd h i3, fun _ _ h => absurd (by rw [hsz]; exact i2) h, fun _ _ _ _ => ⟨by rw [hsz, i1], rfl⟩⟩
/-- The first k bytes of s, the last one first. -/
def firsts (s : ByteArray) (k : Nat) : List UInt8 := (List.range k).reverse.map fun j => UInt8.ofNat (by' s j)
theorem firsts_succ (s : ByteArray) (k : Nat) : firsts s (k + 1) = UInt8.ofNat (by' s k) :: firsts s k := by
  unfold firsts; rw [List.range_succ, List.reverse_append]; rfl
theorem read_dec (s : ByteArray) (h0 : by' s 0 ≠ 48) : ∀ k, goodTo s (k + 1) → parseVal s (k + 1) ≠ 0 ∧ decB (parseVal s (k + 1)) = firsts s (k + 1)
  | 0, hg => by
    have h1 := hg 0 (by omega)
    have e : parseVal s (0 + 1) = by' s 0 - 48 := by show 10 * 0 + (by' s 0 - 48) = _; omega
    have hne : parseVal s (0 + 1) ≠ 0 := by rw [e]; omega
    refine ⟨hne, ?_⟩
    rw [decB_pos hne, firsts_succ, e]
    have h2 : (by' s 0 - 48) / 10 = 0 := by omega
    have h3 : 48 + (by' s 0 - 48) % 10 = by' s 0 := by omega
    rw [h2, h3, decB_zero]
    rfl
  | k + 1, hg => by
    obtain ⟨i1, i2⟩ := read_dec s h0 k (fun j hj => hg j (by omega))
    have h1 := hg (k + 1) (by omega)
    have e : parseVal s (k + 1 + 1) = 10 * parseVal s (k + 1) + (by' s (k + 1) - 48) := rfl
    have hne : parseVal s (k + 1 + 1) ≠ 0 := by rw [e]; omega
    refine ⟨hne, ?_⟩
    rw [decB_pos hne, firsts_succ, e]
    have h2 : (10 * parseVal s (k + 1) + (by' s (k + 1) - 48)) / 10 = parseVal s (k + 1) := by omega
    have h3 : 48 + (10 * parseVal s (k + 1) + (by' s (k + 1) - 48)) % 10 = by' s (k + 1) := by omega
    rw [h2, h3, i2]
theorem firsts_all (l : List UInt8) : firsts ⟨l.toArray⟩ l.length = l.reverse := by
  unfold firsts
  rw [List.map_reverse]
  apply congrArg List.reverse
  apply List.ext_getElem
  · simp
  · intro i h1 h2
    simp only [List.getElem_map, List.getElem_range, by_list, List.getElem?_eq_getElem h2, Option.map_some, Option.getD_some]
    exact UInt8.ofNat_toNat
theorem parse_fmt {s : ByteArray} {N : Nat} (h : ParseIs s N 0) : fmtB N = s := by
  obtain ⟨l, rfl⟩ : ∃ l : List UInt8, s = ⟨l.toArray⟩ := ⟨s.data.toList, by cases s; simp⟩
  have hsz : (ByteArray.mk l.toArray).size = l.length := by simp [ByteArray.size]
  have h1 : 0 < l.length := by
    rcases Nat.eq_zero_or_pos l.length with h' | h'
    · have := (h.short (by rw [hsz]; exact h')).2; omega
    · exact h'
  have h2 : l.length ≤ 400 := by
    rcases Nat.lt_or_ge 400 l.length with h' | h'
    · have := (h.long (by rw [hsz]; exact h')).2; omega
    · exact h'
  have hg : goodTo ⟨l.toArray⟩ l.length := Classical.byContradiction fun h' => by
    have := (h.bad (by omega) (by omega) (by rw [hsz]; exact h')).2; omega
  by_cases hz : by' ⟨l.toArray⟩ 0 = 48
  · have hl : l.length = 1 := by
      rcases Nat.lt_or_ge 1 l.length with h' | h'
      · have := (h.zero (by omega) (by omega) hz).2; omega
      · omega
    obtain ⟨b, rfl⟩ : ∃ b, l = [b] := List.length_eq_one_iff.1 hl
    have hb : b.toNat = 48 := by have := by_snoc_eq [] b; simp at this; rw [← this]; exact hz
    have hN := (h.good (by omega) (by omega) (fun _ => by omega) (by rw [hsz]; exact hg)).1
    have hN0 : N = 0 := by
      rw [hN, hsz]
      show 10 * 0 + (by' _ 0 - 48) = 0
      rw [hz]
    have hb' : b = 48 := UInt8.toNat_inj.1 hb
    rw [hN0, hb']
    unfold fmtB
    rw [if_pos rfl]
  · obtain ⟨k, hk⟩ : ∃ k, l.length = k + 1 := ⟨l.length - 1, by omega⟩
    have hN := (h.good (by omega) (by omega) (fun h' => absurd h' hz) (by rw [hsz]; exact hg)).1
    rw [hsz, hk] at hN
    obtain ⟨i1, i2⟩ := read_dec ⟨l.toArray⟩ hz k (by rw [← hk]; exact hg)
    rw [← hN] at i1 i2
    unfold fmtB
    rw [if_neg i1, i2, ← hk, firsts_all, List.reverse_reverse]
end Go.Proofs.YthebfmlfgfmlnaaGreatDoor
namespace Go.Proofs.YthebfmlfgfmlnaaGreatDoor
set_option linter.unusedSimpArgs false
set_option linter.unusedVariables false
set_option maxRecDepth 100000
open Go.RowKit
section
variable {P : Program} {Q : Exit → Act → World → Prop}
end
section
variable {Q : Exit → Act → World → Prop} {o : Oper} {a : Act} {w : World} {x y : Operand} {m n : Nat} {tt : Array TypeId}
end
end Go.Proofs.YthebfmlfgfmlnaaGreatDoor
namespace Go.Proofs.YthebfmlfgfmlnaaGreatDoor
set_option linter.unusedSimpArgs false
set_option linter.unusedVariables false
set_option maxRecDepth 100000
open Go.RowKit
def smallTab (w : World) (m k d M S : Nat) : List (Nat × Tmp × Sp) :=
   [(0, 7, .nat (m)),
    (1, 8, .val (Value.int IntKind.u64 ((k : Nat)))),
    (2, 9, .nat (k)),
    (3, 10, .nat (M)),
    (4, 11, .val (Value.int IntKind.u64 ((d : Nat)))),
    (5, 12, .nat (d)),
    (6, 13, .new w.heap.size S)]
set_option maxRecDepth 100000 in
set_option maxHeartbeats 1000000 in
theorem c_small (va : Value) (m k d : Nat) (w : World) (ha : IsN w va m) (hm : nl m ≤ 100000000000) (hk : k < 4294967296) (hd : d < 4294967296) :
    Calls Tryz.prog 149 #[va, .int .u64 (k : Int), .int .u64 (d : Int)] w fun e w' => RetNew w (m * k + d) e w' := by
  obtain ⟨a, ca, rfl, hca, ra⟩ := ha
  obtain ⟨k0, k1⟩ := box1 (L := nl m) (c := ca) (N := m) ⟨a, ca, rfl, hca, ra⟩
  have k3 := bel1 (w.alloc (.cells #[.slice a (nl m) ca] 24)) (.cells #[.slice none 0 0] 24)
  have k4 := VarB.made (w.alloc (.cells #[.slice a (nl m) ca] 24)) none 0 0
  rw [World.size_alloc] at k4
  obtain ⟨M, hM⟩ : ∃ M : Nat, Hid (M = m * k) := ⟨_, Lib.hid rfl⟩
  obtain ⟨S, hS⟩ : ∃ S : Nat, Hid (S = M + d) := ⟨_, Lib.hid rfl⟩
  have hk' : nl k ≤ 1000000000000 := nlb (by have : (4294967296 : Nat) ≤ 4294967296 ^ 4 := by decide
                                             omega)
  have hd' : nl d ≤ 1000000000000 := nlb (by have : (4294967296 : Nat) ≤ 4294967296 ^ 4 := by decide
                                             omega)
  have hm' : nl m ≤ 1000000000000 := by omega
  have hM' : nl M ≤ 1000000000000 := by
    have h1 := sm_mul (sm_nl hm) (show k < 4294967296 ^ 1 by rw [Nat.pow_one]; exact hk)
    rw [← hM.out] at h1
    exact Nat.le_trans (nl_le_iff.2 h1) (by decide)
  have hres : m * k + d = S := by rw [hS.out, hM.out]
  rw [hres]
  clear hres
  go_enter Tryz.func149, Tryz.ntmps149
  go_upto_region 0 with (fail)
  go_cut [3, 6] (fun s3 s6 wx => s3 = .pointer (some ⟨w.heap.size, 0, none⟩) ∧ s6 = .pointer (some ⟨w.heap.size + 1, 0, none⟩) ∧ VarI wx w.heap.size m ∧ VarB wx (w.heap.size + 1) none 0 0 ∧ Below w.heap.size w wx)
  case first =>
    go_wp2_with fail
    go_meet
    case rel => exact ⟨rfl, rfl, VarR.mono k1 k3, k4, k0.trans (k3.mono k0.size)⟩
  case rest =>
    obtain ⟨rfl, rfl, Va, vr, hb1⟩ := hcut
    clear k0 k1 k3 k4 ra hca
    go_upto_region 1 with (fail)
    refine wp_tabK Tryz.f149 1 (smallTab w m k d M S) (fun _ => false) 4 1 (by kernel_rfl) (by kernel_rfl) (by kernel_rfl) (by kernel_rfl) (EachX.of_all (fun _ h => by cases h) _) ?_ ?_
    · refine ⟨fun a' w' F => ⟨_, rfl, wanted_none rfl, (arm_load rfl (F.keep 3 (Value.pointer (some ⟨w.heap.size, 0, none⟩)) (by kernel_rfl) rfl).is (Va.mono F.below)).b⟩, ?_⟩
      refine ⟨fun a' w' F => ⟨_, rfl, wanted_none rfl, (arm_move (.inl rfl) (F.keep 1 (Value.int IntKind.u64 ((k : Nat))) (by kernel_rfl) rfl).is).b⟩, ?_⟩
      refine ⟨fun a' w' F => ⟨_, rfl, wanted_none rfl, (arm_rOf (n := k) rfl (F.f 1 rfl) (by omega)).b⟩, ?_⟩
      refine ⟨fun a' w' F => ⟨_, rfl, wanted_none rfl, (arm_rMul rfl (F.f 0 rfl) (F.f 2 rfl) hm' hk' hM.out.symm).b⟩, ?_⟩
      refine ⟨fun a' w' F => ⟨_, rfl, wanted_none rfl, (arm_move (.inl rfl) (F.keep 2 (Value.int IntKind.u64 ((d : Nat))) (by kernel_rfl) rfl).is).b⟩, ?_⟩
      refine ⟨fun a' w' F => ⟨_, rfl, wanted_none rfl, (arm_rOf (n := d) rfl (F.f 4 rfl) (by omega)).b⟩, ?_⟩
      refine ⟨fun a' w' F => ⟨_, rfl, wanted_none rfl, (arm_rAddN (Nat.le_trans hb1.size F.below.size) rfl (F.f 3 rfl) (F.f 5 rfl) hM' hd' hS.out.symm).b⟩, ?_⟩
      exact trivial
    intro gp wp bp G Gs
    obtain ⟨v6, e6, n6⟩ : ∃ v, gp 6 = v ∧ NewN w.heap.size wp v S := ⟨_, rfl, G 6 13 _ rfl⟩
    obtain ⟨x6, c6, rfl, hc6, hx6⟩ := n6
    have n6 : NewN w.heap.size wp (.agg #[.slice x6 (nl S) c6]) S := ⟨x6, c6, rfl, hc6, hx6⟩
    have vr2 := vr.mono bp vr.lt
    clear G Gs hc6 hx6
    simp only [smallTab]
    simp only [putD, entries, List.map_cons, List.map_nil, List.foldl_cons, List.foldl_nil, Act.put, List.setIfInBounds_toArray, List.set_cons_zero, List.set_cons_succ, e6]
    refine wpAny_store (j := 7) (by kernel_rfl) rfl rfl rfl rfl rfl rfl ⟨_, _, _, rfl⟩ vr2 ?_
    refine wpAny_done (by kernel_rfl) ?_ _
    have hB := (hb1.trans (bp.mono hb1.size)).setCell (p := ⟨w.heap.size + 1, 0, none⟩) (Nat.le_succ _) (.slice x6 (nl S) c6)
    have n7 := n6.setVar (u := .slice x6 (nl S) c6) vr2
    go_wp2
    exact bodyPost_ret (res_nat rfl _ _ (w.heap.size + 1) _ rfl vr2.set.cell) rfl ⟨_, rfl, n7, hB⟩
end Go.Proofs.YthebfmlfgfmlnaaGreatDoor
namespace Go.Proofs.YthebfmlfgfmlnaaGreatDoor
set_option linter.unusedSimpArgs false
set_option linter.unusedVariables false
set_option maxRecDepth 100000
open Go.RowKit
theorem parseVal_lt {s : ByteArray} : ∀ k, goodTo s k → parseVal s k < 10 ^ k
  | 0, _ => by show (0 : Nat) < 1; decide
  | k + 1, h => by
    have h1 := parseVal_lt k (fun j hj => h j (by omega))
    have h2 := h k (by omega)
    show 10 * parseVal s k + (by' s k - 48) < 10 ^ (k + 1)
    rw [Nat.pow_succ]
    omega
theorem parseVal_nl {s : ByteArray} {k : Nat} (h : goodTo s k) : nl (parseVal s k) ≤ k :=
  nl_le_iff.2 (Nat.lt_of_lt_of_le (parseVal_lt k h) (Nat.pow_le_pow_left (by decide) k))
theorem run_sub48 (d : Nat) (h : d ≤ 9) (w : World) : (binOp BinOp.sub 5 (.int .u8 ((48 + d : Nat) : Int)) (.int .u8 48)).run Tryz.prog w = .ok (.int .u8 (d : Int)) w := by
  have e : (((48 + d : Nat) : Int) - 48) % 256 = (d : Int) := by omega
  go_simp
  exact e
theorem run_conv8 (d : Nat) (h : d ≤ 255) (w : World) : (convert 5 92 (.int .u8 (d : Int))).run Tryz.prog w = .ok (.int .u64 (d : Int)) w := by
  go_simp
  simp [IntKind.wrap, IntKind.signed, IntKind.bits]
  try omega
theorem run_index (s : ByteArray) (k : Nat) (h : k < s.size) (w : World) : (Instr.index 9 (.string s) (.int .i64 (k : Int))).run Tryz.prog w = .ok (.int .u8 ((by' s k : Nat) : Int)) w := by
  rw [← by_eq h]
  go_simp
section
variable {Q : Exit → Act → World → Prop} {o : Oper} {a : Act} {w : World} {x y z : Operand} {m : Nat} {tt : Array TypeId}
theorem arm_index {s : ByteArray} {k b : Nat} (ho : o.op = .index 9 x y) (hx : Is a w x (.val (.string s))) (hy : Is a w y (.val (.int .i64 (k : Int)))) (hk : k < s.size) (hb : by' s k = b) : Arm Tryz.prog Q o a w (.val (.int .u8 (b : Int))) := by
  subst hb
  have hx' : a.eval x = .string s := hx
  have hy' : a.eval y = .int .i64 (k : Int) := hy
  refine arm_run _ ?_ rfl
  unfold execOp
  rw [ho]
  simp only [hx', hy', Sem.run_bind, run_index s k hk, Result.andThen, Sem.run_pure]
theorem arm_conv8 {d : Nat} (ho : o.op = .convert 5 92 x) (hx : Is a w x (.val (.int .u8 (d : Int)))) (hd : d ≤ 255) : Arm Tryz.prog Q o a w (.val (.int .u64 (d : Int))) := by
  have hx' : a.eval x = .int .u8 (d : Int) := hx
  refine arm_run _ ?_ rfl
  unfold execOp
  rw [ho]
  simp only [hx', Sem.run_bind, run_conv8 d hd, Result.andThen, Sem.run_pure]
theorem arm_small {base d N : Nat} (hb : base ≤ w.heap.size) (ho : o.op = .call { callee := .value (.func 149), args := #[x, y, z], argTypes := tt }) (hx : Is a w x (.nat m)) (hy : Is a w y (.val (.int .u64 10))) (hz : Is a w z (.val (.int .u64 (d : Int)))) (hm : nl m ≤ 100000000000) (hd : d ≤ 9) (hN : m * 10 + d = N) : Arm Tryz.prog Q o a w (.new base N) := by
  subst hN
  refine arm_call ho (enters Tryz.func149 rfl rfl) (R := fun e w' => RetNew w (m * 10 + d) e w') ?_ (fun _ _ h => ofNewB hb h)
  have hy' : a.eval y = .int .u64 10 := hy
  have hz' : a.eval z = .int .u64 (d : Int) := hz
  have := c_small (a.eval x) m 10 d w hx hm (by decide) (by omega)
  simpa [hy', hz'] using this
end
def parseTab (w : World) (s : ByteArray) (k d V V2 : Nat) : List (Nat × Tmp × Sp) :=
   [(0, 40, .nat (V)),
    (1, 41, .val (Value.string s)),
    (2, 42, .val (Value.int IntKind.i64 ((k : Nat)))),
    (3, 43, .val (Value.int IntKind.u8 ((48 + d : Nat) : Int))),
    (4, 44, .val (Value.int IntKind.u8 ((d : Nat) : Int))),
    (5, 45, .val (Value.int IntKind.u64 ((d : Nat)))),
    (6, 46, .new w.heap.size V2)]
theorem c_rParse_short (s : ByteArray) (w : World) (h0 : s.size = 0) : Calls Tryz.prog 100 #[.string s] w fun e w' => RetP w 0 1 e w' := by
  obtain ⟨hb, v2⟩ := start1 w
  have he := isEmpty_true h0
  have c2 := v2.cell
  have f2 := v2.frozen
  go_enter Tryz.func100, Tryz.ntmps100
  go_wp2
  exact bodyPost_ret (res_nat2 rfl _ _ w.heap.size (.slice none 0 0) (.int .i64 1) rfl rfl (by simp [go_sem])) rfl ⟨_, rfl, NewN.of_zero, by first | exact hb | exact hb.setCell (Nat.le_refl _) _⟩
theorem c_rParse_long (s : ByteArray) (w : World) (h0 : 400 < s.size) : Calls Tryz.prog 100 #[.string s] w fun e w' => RetP w 0 3 e w' := by
  obtain ⟨hb, v2⟩ := start1 w
  have he := isEmpty_false (s := s) (by omega)
  have hl : (400 : Int) < (s.size : Int) := by omega
  go_enter Tryz.func100, Tryz.ntmps100
  go_wp2
  exact bodyPost_ret (res_nat2 rfl _ _ w.heap.size (.slice none 0 0) (.int .i64 3) rfl rfl (by simp [go_sem])) rfl ⟨_, rfl, NewN.of_zero, by first | exact hb | exact hb.setCell (Nat.le_refl _) _⟩
theorem c_rParse_zero (s : ByteArray) (w : World) (h0 : 1 < s.size) (h1 : s.size ≤ 400) (hz : by' s 0 = 48) : Calls Tryz.prog 100 #[.string s] w fun e w' => RetP w 0 2 e w' := by
  obtain ⟨hb, v2⟩ := start1 w
  have he := isEmpty_false (s := s) (by omega)
  have hl : ¬ (400 : Int) < (s.size : Int) := by omega
  have hp : 0 < s.size := by omega
  have hz' : (((s[0]'hp).toNat : Nat) : Int) = 48 := by rw [by_eq, hz]; rfl
  have h0' : (1 : Int) < (s.size : Int) := by omega
  go_enter Tryz.func100, Tryz.ntmps100
  go_wp2
  exact bodyPost_ret (res_nat2 rfl _ _ w.heap.size (.slice none 0 0) (.int .i64 2) rfl rfl (by simp [go_sem])) rfl ⟨_, rfl, NewN.of_zero, by first | exact hb | exact hb.setCell (Nat.le_refl _) _⟩
set_option maxRecDepth 100000 in
set_option maxHeartbeats 1000000 in
theorem c_rParse_loop (s : ByteArray) (w : World) (N : Nat) (c : Int) (h0 : 0 < s.size) (h1 : s.size ≤ 400) (hz : by' s 0 = 48 → s.size = 1) (hgood : goodTo s s.size → N = parseVal s s.size ∧ c = 0) (hbad : ¬ goodTo s s.size → N = 0 ∧ c = 2) :
    Calls Tryz.prog 100 #[.string s] w fun e w' => RetP w N c e w' := by
  obtain ⟨hb, v2⟩ := start1 w
  have he := isEmpty_false (s := s) (by omega)
  have hl : ¬ (400 : Int) < (s.size : Int) := by omega
  have HG := Lib.hid hgood
  have HB := Lib.hid hbad
  clear hgood hbad
  obtain ⟨kb, kr, kv⟩ := start2 w none none 0 0 0 0
  have kN : VarN w.heap.size ((w.alloc (.cells #[.slice none 0 0] 24)).alloc (.cells #[.slice none 0 0] 24)) (w.heap.size + 1) 0 := ⟨none, 0, by rw [nl_zero]; exact kv, by rw [nl_zero]; exact NewN.of_zero⟩
  go_enter Tryz.func100, Tryz.ntmps100
  by_cases hz0 : by' s 0 = 48
  · have hs1 := hz hz0
    have hz' : (((s[0]'h0).toNat : Nat) : Int) = 48 := by rw [by_eq, hz0]; rfl
    have h0' : ¬ (1 : Int) < (s.size : Int) := by omega
    clear hz hz0
    go_upto_region 7 with (fail)
    go_cut [4] (fun s4 wx => s4 = .pointer (some ⟨w.heap.size + 1, 0, none⟩) ∧ VarB wx w.heap.size none 0 0 ∧ VarN w.heap.size wx (w.heap.size + 1) 0 ∧ Below w.heap.size w wx)
    case first =>
      go_wp2_with fail
      go_meet
      case rel => exact ⟨rfl, kr, kN, kb⟩
    case rest =>
    obtain ⟨rfl, vr, vN, hb1⟩ := hcut
    clear kb kr kv kN hb v2
    go_wp2_with fail
    go_loopw [5] (fun s5 wr => ∃ k, k ≤ s.size ∧ s5 = .int .i64 (k : Nat) ∧ Hid (goodTo s k) ∧ VarB wr w.heap.size none 0 0 ∧ VarN w.heap.size wr (w.heap.size + 1) (parseVal s k) ∧ Below w.heap.size w wr)
      (fun s5 _ => s.size - (intOf s5).toNat)
    case atStart => exact ⟨0, Nat.zero_le _, rfl, Lib.hid (fun j h => by omega), vr, vN, hb1⟩
    case round =>
      clear vr vN hb1
      obtain ⟨k, hk, rfl, HR, vr, vN, hbr⟩ := hrel
      have cr := vr.cell
      have fr := vr.frozen
      by_cases hlt : k < s.size
      · by_cases hlo : by' s k < 48
        · have hx : (((s[k]'hlt).toNat : Nat) : Int) < 48 := by rw [by_eq]; omega
          obtain ⟨rfl, rfl⟩ := HB.out (fun h => by have := (h k hlt).1; omega)
          clear HB HG HR
          go_wp2
          exact bodyPost_ret (res_nat2 rfl _ _ w.heap.size (.slice none 0 0) (.int .i64 2) rfl rfl vr.set.cell) rfl ⟨_, rfl, NewN.of_zero, hbr.setCell (Nat.le_refl _) _⟩
        · by_cases hhi : 57 < by' s k
          · have hx : ¬ (((s[k]'hlt).toNat : Nat) : Int) < 48 := by rw [by_eq]; omega
            have hy : (57 : Int) < (((s[k]'hlt).toNat : Nat) : Int) := by rw [by_eq]; omega
            obtain ⟨rfl, rfl⟩ := HB.out (fun h => by have := (h k hlt).2; omega)
            clear HB HG HR
            go_wp2
            exact bodyPost_ret (res_nat2 rfl _ _ w.heap.size (.slice none 0 0) (.int .i64 2) rfl rfl vr.set.cell) rfl ⟨_, rfl, NewN.of_zero, hbr.setCell (Nat.le_refl _) _⟩
          · have hx : ¬ (((s[k]'hlt).toNat : Nat) : Int) < 48 := by rw [by_eq]; omega
            have hy : ¬ (57 : Int) < (((s[k]'hlt).toNat : Nat) : Int) := by rw [by_eq]; omega
            obtain ⟨d, hd⟩ : ∃ d : Nat, by' s k = 48 + d := ⟨by' s k - 48, by omega⟩
            have hd9 : d ≤ 9 := by omega
            have HD := Lib.hid (show goodTo s (k + 1) from fun j hj => by
              rcases Nat.lt_or_ge j k with h | h
              · exact HR.out j h
              · rw [show j = k by omega]; omega)
            obtain ⟨V, hV⟩ : ∃ V : Nat, Hid (V = parseVal s k) := ⟨_, Lib.hid rfl⟩
            have hVb : nl V ≤ 100000000000 := by rw [hV.out]; exact Nat.le_trans (parseVal_nl HR.out) (by omega)
            obtain ⟨V2, hV2⟩ : ∃ V2 : Nat, Hid (V2 = V * 10 + d) := ⟨_, Lib.hid rfl⟩
            have HP := Lib.hid (show parseVal s (k + 1) = V2 by
              show 10 * parseVal s k + (by' s k - 48) = V2
              rw [hV2.out, hV.out]; omega)
            rw [← hV.out] at vN
            have hbyd := hd
            have HBD := Lib.hid hbyd
            clear hlo hhi hd hbyd cr fr
            go_upto_region 13 with (fail)
            refine wp_tabK Tryz.f100 13 (parseTab w s k d V V2) (fun _ => false) 4 1 (by kernel_rfl) (by kernel_rfl) (by kernel_rfl) (by kernel_rfl) (EachX.of_all (fun _ h => by cases h) _) ?_ ?_
            · refine ⟨fun a' w' F => ⟨_, rfl, wanted_none rfl, (arm_load rfl (F.keep 4 (Value.pointer (some ⟨w.heap.size + 1, 0, none⟩)) (by kernel_rfl) rfl).is (vN.isI.mono F.below)).b⟩, ?_⟩
              refine ⟨fun a' w' F => ⟨_, rfl, wanted_none rfl, (arm_move (.inl rfl) (F.keep 0 (Value.string s) (by kernel_rfl) rfl).is).b⟩, ?_⟩
              refine ⟨fun a' w' F => ⟨_, rfl, wanted_none rfl, (arm_move (.inl rfl) (F.keep 5 (Value.int IntKind.i64 ((k : Nat))) (by kernel_rfl) rfl).is).b⟩, ?_⟩
              refine ⟨fun a' w' F => ⟨_, rfl, wanted_none rfl, (arm_index rfl (F.f 1 rfl) (F.f 2 rfl) hlt HBD.out).b⟩, ?_⟩
              refine ⟨fun a' w' F => ⟨_, rfl, wanted_none rfl, (arm_bin rfl (F.f 3 rfl) Is.const (fun _ => rfl) (run_sub48 d (by omega))).b⟩, ?_⟩
              refine ⟨fun a' w' F => ⟨_, rfl, wanted_none rfl, (arm_conv8 rfl (F.f 4 rfl) (by omega)).b⟩, ?_⟩
              refine ⟨fun a' w' F => ⟨_, rfl, wanted_none rfl, (arm_small (Nat.le_trans hbr.size F.below.size) rfl (F.f 0 rfl) Is.const (F.f 5 rfl) hVb (by omega) hV2.out.symm).b⟩, ?_⟩
              exact trivial
            intro gp wp bp G Gs
            obtain ⟨v6, e6, n6⟩ : ∃ v, gp 6 = v ∧ NewN w.heap.size wp v V2 := ⟨_, rfl, G 6 46 _ rfl⟩
            obtain ⟨x6, c6, rfl, hc6, hx6⟩ := n6
            have n6 : NewN w.heap.size wp (.agg #[.slice x6 (nl V2) c6]) V2 := ⟨x6, c6, rfl, hc6, hx6⟩
            obtain ⟨aN, cN, bN, nN⟩ := vN
            have bN2 := bN.mono bp bN.lt
            have vr2 := vr.mono bp vr.lt
            clear G Gs hc6 hx6
            simp only [parseTab]
            simp only [putD, entries, List.map_cons, List.map_nil, List.foldl_cons, List.foldl_nil, Act.put, List.setIfInBounds_toArray, List.set_cons_zero, List.set_cons_succ, e6]
            refine wpAny_store (j := 7) (by kernel_rfl) rfl rfl rfl rfl rfl rfl ⟨_, _, _, rfl⟩ bN2 ?_
            refine wpAny_done (by kernel_rfl) ?_ _
            have hB := (hbr.trans (bp.mono hbr.size)).setCell (p := ⟨w.heap.size + 1, 0, none⟩) (Nat.le_succ _) (.slice x6 (nl V2) c6)
            have vN2 : VarN w.heap.size (wp.setCell ⟨w.heap.size + 1, 0, none⟩ (.slice x6 (nl V2) c6)) (w.heap.size + 1) V2 := ⟨x6, c6, bN2.set, n6.setVar bN2⟩
            have vr3 := vr2.setOther ⟨w.heap.size + 1, 0, none⟩ (.slice x6 (nl V2) c6) (by simp)
            go_wp2_with fail
            go_roundw
            case rel => exact ⟨k + 1, by omega, by go_num, HD, vr3, by rw [HP.out]; exact vN2, hB⟩
            case measure => simp [intOf] <;> omega
      · obtain rfl : k = s.size := by omega
        obtain ⟨rfl, rfl⟩ := HG.out HR.out
        clear HB HG HR
        obtain ⟨V, hV⟩ : ∃ V : Nat, Hid (V = parseVal s s.size) := ⟨_, Lib.hid rfl⟩
        rw [← hV.out] at vN
        obtain ⟨aN, cN, bN, nN⟩ := vN
        have c1 := bN.cell
        have nn := nN.setVar (u := .slice aN (nl V) cN) vr
        go_wp2
        exact bodyPost_ret (res_nat2 rfl _ _ w.heap.size _ (.int .i64 0) rfl rfl vr.set.cell) rfl ⟨_, rfl, by rw [← hV.out]; exact nn, hbr.setCell (Nat.le_refl _) _⟩
  · have hz' : ¬ (((s[0]'h0).toNat : Nat) : Int) = 48 := by rw [by_eq]; omega
    clear hz hz0
    go_upto_region 7 with (fail)
    go_cut [4] (fun s4 wx => s4 = .pointer (some ⟨w.heap.size + 1, 0, none⟩) ∧ VarB wx w.heap.size none 0 0 ∧ VarN w.heap.size wx (w.heap.size + 1) 0 ∧ Below w.heap.size w wx)
    case first =>
      go_wp2_with fail
      go_meet
      case rel => exact ⟨rfl, kr, kN, kb⟩
    case rest =>
    obtain ⟨rfl, vr, vN, hb1⟩ := hcut
    clear kb kr kv kN hb v2
    go_wp2_with fail
    go_loopw [5] (fun s5 wr => ∃ k, k ≤ s.size ∧ s5 = .int .i64 (k : Nat) ∧ Hid (goodTo s k) ∧ VarB wr w.heap.size none 0 0 ∧ VarN w.heap.size wr (w.heap.size + 1) (parseVal s k) ∧ Below w.heap.size w wr)
      (fun s5 _ => s.size - (intOf s5).toNat)
    case atStart => exact ⟨0, Nat.zero_le _, rfl, Lib.hid (fun j h => by omega), vr, vN, hb1⟩
    case round =>
      clear vr vN hb1
      obtain ⟨k, hk, rfl, HR, vr, vN, hbr⟩ := hrel
      have cr := vr.cell
      have fr := vr.frozen
      by_cases hlt : k < s.size
      · by_cases hlo : by' s k < 48
        · have hx : (((s[k]'hlt).toNat : Nat) : Int) < 48 := by rw [by_eq]; omega
          obtain ⟨rfl, rfl⟩ := HB.out (fun h => by have := (h k hlt).1; omega)
          clear HB HG HR
          go_wp2
          exact bodyPost_ret (res_nat2 rfl _ _ w.heap.size (.slice none 0 0) (.int .i64 2) rfl rfl vr.set.cell) rfl ⟨_, rfl, NewN.of_zero, hbr.setCell (Nat.le_refl _) _⟩
        · by_cases hhi : 57 < by' s k
          · have hx : ¬ (((s[k]'hlt).toNat : Nat) : Int) < 48 := by rw [by_eq]; omega
            have hy : (57 : Int) < (((s[k]'hlt).toNat : Nat) : Int) := by rw [by_eq]; omega
            obtain ⟨rfl, rfl⟩ := HB.out (fun h => by have := (h k hlt).2; omega)
            clear HB HG HR
            go_wp2
            exact bodyPost_ret (res_nat2 rfl _ _ w.heap.size (.slice none 0 0) (.int .i64 2) rfl rfl vr.set.cell) rfl ⟨_, rfl, NewN.of_zero, hbr.setCell (Nat.le_refl _) _⟩
          · have hx : ¬ (((s[k]'hlt).toNat : Nat) : Int) < 48 := by rw [by_eq]; omega
            have hy : ¬ (57 : Int) < (((s[k]'hlt).toNat : Nat) : Int) := by rw [by_eq]; omega
            obtain ⟨d, hd⟩ : ∃ d : Nat, by' s k = 48 + d := ⟨by' s k - 48, by omega⟩
            have hd9 : d ≤ 9 := by omega
            have HD := Lib.hid (show goodTo s (k + 1) from fun j hj => by
              rcases Nat.lt_or_ge j k with h | h
              · exact HR.out j h
              · rw [show j = k by omega]; omega)
            obtain ⟨V, hV⟩ : ∃ V : Nat, Hid (V = parseVal s k) := ⟨_, Lib.hid rfl⟩
            have hVb : nl V ≤ 100000000000 := by rw [hV.out]; exact Nat.le_trans (parseVal_nl HR.out) (by omega)
            obtain ⟨V2, hV2⟩ : ∃ V2 : Nat, Hid (V2 = V * 10 + d) := ⟨_, Lib.hid rfl⟩
            have HP := Lib.hid (show parseVal s (k + 1) = V2 by
              show 10 * parseVal s k + (by' s k - 48) = V2
              rw [hV2.out, hV.out]; omega)
            rw [← hV.out] at vN
            have hbyd := hd
            have HBD := Lib.hid hbyd
            clear hlo hhi hd hbyd cr fr
            go_upto_region 13 with (fail)
            refine wp_tabK Tryz.f100 13 (parseTab w s k d V V2) (fun _ => false) 4 1 (by kernel_rfl) (by kernel_rfl) (by kernel_rfl) (by kernel_rfl) (EachX.of_all (fun _ h => by cases h) _) ?_ ?_
            · refine ⟨fun a' w' F => ⟨_, rfl, wanted_none rfl, (arm_load rfl (F.keep 4 (Value.pointer (some ⟨w.heap.size + 1, 0, none⟩)) (by kernel_rfl) rfl).is (vN.isI.mono F.below)).b⟩, ?_⟩
              refine ⟨fun a' w' F => ⟨_, rfl, wanted_none rfl, (arm_move (.inl rfl) (F.keep 0 (Value.string s) (by kernel_rfl) rfl).is).b⟩, ?_⟩
              refine ⟨fun a' w' F => ⟨_, rfl, wanted_none rfl, (arm_move (.inl rfl) (F.keep 5 (Value.int IntKind.i64 ((k : Nat))) (by kernel_rfl) rfl).is).b⟩, ?_⟩
              refine ⟨fun a' w' F => ⟨_, rfl, wanted_none rfl, (arm_index rfl (F.f 1 rfl) (F.f 2 rfl) hlt HBD.out).b⟩, ?_⟩
              refine ⟨fun a' w' F => ⟨_, rfl, wanted_none rfl, (arm_bin rfl (F.f 3 rfl) Is.const (fun _ => rfl) (run_sub48 d (by omega))).b⟩, ?_⟩
              refine ⟨fun a' w' F => ⟨_, rfl, wanted_none rfl, (arm_conv8 rfl (F.f 4 rfl) (by omega)).b⟩, ?_⟩
              refine ⟨fun a' w' F => ⟨_, rfl, wanted_none rfl, (arm_small (Nat.le_trans hbr.size F.below.size) rfl (F.f 0 rfl) Is.const (F.f 5 rfl) hVb (by omega) hV2.out.symm).b⟩, ?_⟩
              exact trivial
            intro gp wp bp G Gs
            obtain ⟨v6, e6, n6⟩ : ∃ v, gp 6 = v ∧ NewN w.heap.size wp v V2 := ⟨_, rfl, G 6 46 _ rfl⟩
            obtain ⟨x6, c6, rfl, hc6, hx6⟩ := n6
            have n6 : NewN w.heap.size wp (.agg #[.slice x6 (nl V2) c6]) V2 := ⟨x6, c6, rfl, hc6, hx6⟩
            obtain ⟨aN, cN, bN, nN⟩ := vN
            have bN2 := bN.mono bp bN.lt
            have vr2 := vr.mono bp vr.lt
            clear G Gs hc6 hx6
            simp only [parseTab]
            simp only [putD, entries, List.map_cons, List.map_nil, List.foldl_cons, List.foldl_nil, Act.put, List.setIfInBounds_toArray, List.set_cons_zero, List.set_cons_succ, e6]
            refine wpAny_store (j := 7) (by kernel_rfl) rfl rfl rfl rfl rfl rfl ⟨_, _, _, rfl⟩ bN2 ?_
            refine wpAny_done (by kernel_rfl) ?_ _
            have hB := (hbr.trans (bp.mono hbr.size)).setCell (p := ⟨w.heap.size + 1, 0, none⟩) (Nat.le_succ _) (.slice x6 (nl V2) c6)
            have vN2 : VarN w.heap.size (wp.setCell ⟨w.heap.size + 1, 0, none⟩ (.slice x6 (nl V2) c6)) (w.heap.size + 1) V2 := ⟨x6, c6, bN2.set, n6.setVar bN2⟩
            have vr3 := vr2.setOther ⟨w.heap.size + 1, 0, none⟩ (.slice x6 (nl V2) c6) (by simp)
            go_wp2_with fail
            go_roundw
            case rel => exact ⟨k + 1, by omega, by go_num, HD, vr3, by rw [HP.out]; exact vN2, hB⟩
            case measure => simp [intOf] <;> omega
      · obtain rfl : k = s.size := by omega
        obtain ⟨rfl, rfl⟩ := HG.out HR.out
        clear HB HG HR
        obtain ⟨V, hV⟩ : ∃ V : Nat, Hid (V = parseVal s s.size) := ⟨_, Lib.hid rfl⟩
        rw [← hV.out] at vN
        obtain ⟨aN, cN, bN, nN⟩ := vN
        have c1 := bN.cell
        have nn := nN.setVar (u := .slice aN (nl V) cN) vr
        go_wp2
        exact bodyPost_ret (res_nat2 rfl _ _ w.heap.size _ (.int .i64 0) rfl rfl vr.set.cell) rfl ⟨_, rfl, by rw [← hV.out]; exact nn, hbr.setCell (Nat.le_refl _) _⟩
theorem c_ref_Parse (s : ByteArray) (w : World) (N : Nat) (c : Int) (h : ParseIs s N c) : Calls Tryz.prog 100 #[.string s] w fun e w' => RetP w N c e w' := by
  by_cases h0 : s.size = 0
  · obtain ⟨rfl, rfl⟩ := h.short h0; exact c_rParse_short s w h0
  · by_cases h1 : 400 < s.size
    · obtain ⟨rfl, rfl⟩ := h.long h1; exact c_rParse_long s w h1
    · by_cases h2 : 1 < s.size ∧ by' s 0 = 48
      · obtain ⟨rfl, rfl⟩ := h.zero h2.1 (by omega) h2.2; exact c_rParse_zero s w h2.1 (by omega) h2.2
      · have hz : by' s 0 = 48 → s.size = 1 := fun e => by
          rcases Nat.lt_or_ge 1 s.size with h' | h'
          · exact absurd ⟨h', e⟩ h2
          · omega
        exact c_rParse_loop s w N c (by omega) (by omega) hz (fun hg => h.good (by omega) (by omega) hz hg) (fun hg => h.bad (by omega) (by omega) hg)
end Go.Proofs.YthebfmlfgfmlnaaGreatDoor
namespace Go.Proofs.YthebfmlfgfmlnaaGreatDoor
set_option linter.unusedSimpArgs false
set_option linter.unusedVariables false
set_option maxRecDepth 100000
open Go.RowKit
section
variable {P : Program} {Q : Exit → Act → World → Prop} {md : Region.Mode}
/-- An operation of a table: it runs, or it is skipped. -/
def StepG (P : Program) (Q : Exit → Act → World → Prop) (ops : Array Oper) (al : Bool) (j : Nat) (a' : Act) (w' : World) (s : Sp) : Prop :=
  ∃ o, ops[j]? = some o ∧ ((Region.wanted o (yielded ops a'.tmps) = true ∧ ArmB P Q al o a' w' s) ∨ (Region.wanted o (yielded ops a'.tmps) = false ∧ al = false ∧ s.p w' undef))
theorem StepG.run {ops : Array Oper} {al : Bool} {j : Nat} {a' : Act} {w' : World} {s : Sp} {o : Oper} (ho : ops[j]? = some o) (hw : Region.wanted o (yielded ops a'.tmps) = true) (h : ArmB P Q al o a' w' s) : StepG P Q ops al j a' w' s := ⟨o, ho, .inl ⟨hw, h⟩⟩
theorem StepG.skip {ops : Array Oper} {j : Nat} {a' : Act} {w' : World} {s : Sp} {o : Oper} (ho : ops[j]? = some o) (hw : Region.wanted o (yielded ops a'.tmps) = false) (h : s.p w' undef) : StepG P Q ops false j a' w' s := ⟨o, ho, .inr ⟨hw, rfl, h⟩⟩
end
/-- v is the fraction of sign s, numerator p, denominator q: valid numbers. -/
def IsF (w : World) (v : Value) (s : Bool) (p q : Nat) : Prop := ∃ a c b d, v = .agg #[.bool s, .slice a (nl p) c, .slice b (nl q) d] ∧ IsN w (.agg #[.slice a (nl p) c]) p ∧ IsN w (.agg #[.slice b (nl q) d]) q
theorem IsF.mono {w w' : World} {v : Value} {s : Bool} {p q : Nat} (h : IsF w v s p q) (hb : Below w.heap.size w w') : IsF w' v s p q := by
  obtain ⟨a, c, b, d, rfl, h1, h2⟩ := h; exact ⟨a, c, b, d, rfl, h1.mono hb, h2.mono hb⟩
/-- Block g is a fraction variable of the call's own with these cells. -/
def VarFB (w : World) (g : Nat) (s : Bool) (a : Option Addr) (L c : Nat) (b : Option Addr) (M d : Nat) : Prop := w.heap[g]? = some (.cells #[.bool s, .slice a L c, .slice b M d] 26 (0, 0))
section
variable {w w' : World} {g L c M d B : Nat} {s : Bool} {a b : Option Addr}
theorem VarFB.lt (h : VarFB w g s a L c b M d) : g < w.heap.size := (Array.getElem?_eq_some_iff.1 h).1
theorem VarFB.mono (h : VarFB w g s a L c b M d) (hb : Below B w w') (hB : g < B) : VarFB w' g s a L c b M d := (hb.block g hB).trans h
theorem VarFB.cell1 (h : VarFB w g s a L c b M d) : w.cell? ⟨g, 1, none⟩ = some (.slice a L c) := by rw [cell_of_row w g 1 _ _ (0, 0) h]; rfl
theorem VarFB.cell2 (h : VarFB w g s a L c b M d) : w.cell? ⟨g, 2, none⟩ = some (.slice b M d) := by rw [cell_of_row w g 2 _ _ (0, 0) h]; rfl
theorem VarFB.frozen (h : VarFB w g s a L c b M d) (j : Nat) : w.frozen? ⟨g, j, none⟩ = false := frozen_of_row w g j _ _ h
theorem VarFB.made (w : World) (s : Bool) (a : Option Addr) (L c : Nat) (b : Option Addr) (M d : Nat) : VarFB (w.alloc (.cells #[.bool s, .slice a L c, .slice b M d] 26)) w.heap.size s a L c b M d := heap_alloc_new w _
end
/-- Block g is a variable that holds the fraction. -/
def VarF (w : World) (g : Nat) (s : Bool) (p q : Nat) : Prop := ∃ a c b d, VarFB w g s a (nl p) c b (nl q) d ∧ IsN w (.agg #[.slice a (nl p) c]) p ∧ IsN w (.agg #[.slice b (nl q) d]) q
theorem VarF.mono {w w' : World} {g p q : Nat} {s : Bool} (h : VarF w g s p q) (hb : Below w.heap.size w w') : VarF w' g s p q := by
  obtain ⟨a, c, b, d, h0, h1, h2⟩ := h; exact ⟨a, c, b, d, h0.mono hb h0.lt, h1.mono hb, h2.mono hb⟩
def Sp.fr (s : Bool) (p q : Nat) : Sp := ⟨fun w v => IsF w v s p q, fun _ _ _ h hb => h.mono hb⟩
def RetF (W : World) (s : Bool) (p q : Nat) (e : Ending) (w' : World) : Prop := ∃ v, e = .returned v ∧ IsF w' v s p q ∧ Below W.heap.size W w'
theorem c_isZero (va : Value) (m : Nat) (w : World) (ha : IsN w va m) (hm : nl m ≤ 1000000000000) :
    Calls Tryz.prog 135 #[va] w fun e w' => RetV w (.bool (decide (m = 0))) e w' := by
  obtain ⟨a, ca, rfl, hca, ra⟩ := ha
  have hw := bel1 w (.cells #[.slice a (nl m) ca] 24)
  have v1 := VarB.made w a (nl m) ca
  have c1 := v1.cell
  have e : (((nl m : Nat) : Int) == 0) = decide (m = 0) := by
    rw [Bool.eq_iff_iff]; simp [nl_eq_zero]
  go_enter Tryz.func135, Tryz.ntmps135
  go_wp2
  go_ret
  exact ⟨by first | rfl | (rw [← e]; rfl) | simp_all, hw⟩
theorem c_zero (va : Value) (m : Nat) (w : World) (ha : IsN w va m) (hm : nl m ≤ 1000000000000) :
    Calls Tryz.prog 102 #[va] w fun e w' => RetV w (.bool (decide (m = 0))) e w' := by
  obtain ⟨a, ca, rfl, hca, ra⟩ := ha
  have hw := bel1 w (.cells #[.slice a (nl m) ca] 24)
  have v1 := VarB.made w a (nl m) ca
  have c1 := v1.cell
  have e : (((nl m : Nat) : Int) == 0) = decide (m = 0) := by
    rw [Bool.eq_iff_iff]; simp [nl_eq_zero]
  go_enter Tryz.func102, Tryz.ntmps102
  go_wp2
  go_ret
  exact ⟨by first | rfl | (rw [← e]; rfl) | simp_all, hw⟩
end Go.Proofs.YthebfmlfgfmlnaaGreatDoor
namespace Go.Proofs.YthebfmlfgfmlnaaGreatDoor
set_option linter.unusedSimpArgs false
set_option linter.unusedVariables false
set_option maxRecDepth 100000
open Go.RowKit
/-- The fraction variable g is written. -/
def putF (w : World) (g : Nat) (s : Bool) (a : Option Addr) (L c : Nat) (b : Option Addr) (M d : Nat) : World :=
  ((w.setCell ⟨g, 0, none⟩ (.bool s)).setCell ⟨g, 1, none⟩ (.slice a L c)).setCell ⟨g, 2, none⟩ (.slice b M d)
section
variable {w : World} {g L c M d L' c' M' d' : Nat} {s s' : Bool} {a b a' b' : Option Addr}
theorem VarFB.put (h : VarFB w g s a L c b M d) : VarFB (putF w g s' a' L' c' b' M' d') g s' a' L' c' b' M' d' := by
  have h1 := heap_setCell_same w g 0 _ _ (.bool s') h
  have h2 := heap_setCell_same _ g 1 _ _ (.slice a' L' c') h1
  have h3 := heap_setCell_same _ g 2 _ _ (.slice b' M' d') h2
  exact h3
theorem putF_heap {k : Nat} (hk : k ≠ g) : (putF w g s a L c b M d).heap[k]? = w.heap[k]? := by
  unfold putF
  rw [Below.heap_setCell _ _ _ k hk, Below.heap_setCell _ _ _ k hk, Below.heap_setCell _ _ _ k hk]
theorem VarFB.ne (h : VarFB w g s a L c b M d) {k o : Nat} {x : Int} {ki : IntKind} (hd : w.cell? ⟨k, o, none⟩ = some (.int ki x)) : k ≠ g := by
  rintro rfl
  rw [cell_of_row w k o _ _ (0, 0) h] at hd
  match o, hd with
  | 0, hd => cases hd
  | 1, hd => cases hd
  | 2, hd => cases hd
  | (o + 3), hd => simp at hd
theorem IsN.putF {v : Value} {N : Nat} (h : IsN w v N) (hg : VarFB w g s a L c b M d) : IsN (putF w g s' a' L' c' b' M' d') v N := by
  obtain ⟨x, cap, rfl, hc, hx⟩ := h
  refine ⟨x, cap, rfl, hc, hx.lt, fun hL => ?_⟩
  obtain ⟨k, off, rfl, hd⟩ := hx.cells hL
  have hne : k ≠ g := hg.ne (by simpa using hd 0 hL)
  refine ⟨k, off, rfl, fun j hj => ?_⟩
  rw [World.cell?_of_block (putF_heap (by simpa using hne))]; exact hd j hj
theorem IsF.putF {v : Value} {t : Bool} {p q : Nat} (h : IsF w v t p q) (hg : VarFB w g s a L c b M d) : IsF (putF w g s' a' L' c' b' M' d') v t p q := by
  obtain ⟨x, cx, y, cy, rfl, h1, h2⟩ := h; exact ⟨x, cx, y, cy, rfl, h1.putF hg, h2.putF hg⟩
end
section
variable {Q : Exit → Act → World → Prop} {o : Oper} {a : Act} {w : World} {x y z : Operand} {m n p q g : Nat} {s : Bool} {tt : Array TypeId}
end
/-- The end of a contract that hands back a fraction and an error's number. -/
def RetFE (W : World) (s : Bool) (p q : Nat) (c : Int) (e : Ending) (w' : World) : Prop := ∃ v, e = .returned (.tuple #[v, .int .i64 c]) ∧ IsF w' v s p q ∧ Below W.heap.size W w'
theorem IsF.zero (w : World) : IsF w (.agg #[.bool false, .slice none 0 0, .slice none 0 0]) false 0 0 := by
  have h : IsN w (.agg #[.slice none (nl 0) 0]) 0 := by rw [nl_zero]; exact NewN.isN (base := 0) NewN.of_zero
  exact ⟨none, 0, none, 0, by rw [nl_zero], h, h⟩
theorem VarF.of {w : World} {g p q c d : Nat} {s : Bool} {a b : Option Addr} (h : VarFB w g s a (nl p) c b (nl q) d) (h1 : IsN w (.agg #[.slice a (nl p) c]) p) (h2 : IsN w (.agg #[.slice b (nl q) d]) q) : VarF w g s p q := ⟨a, c, b, d, h, h1, h2⟩
end Go.Proofs.YthebfmlfgfmlnaaGreatDoor
namespace Go.Proofs.YthebfmlfgfmlnaaGreatDoor
set_option linter.unusedSimpArgs false
set_option linter.unusedVariables false
set_option maxRecDepth 100000
open Go.RowKit
/-- The sign of a fraction in lowest terms. -/
def lowS (s : Bool) (m : Nat) : Bool := s && !decide (m = 0)
end Go.Proofs.YthebfmlfgfmlnaaGreatDoor
namespace Go.Proofs.YthebfmlfgfmlnaaGreatDoor
set_option linter.unusedSimpArgs false
set_option linter.unusedVariables false
set_option maxRecDepth 100000
open Go.RowKit
def lowP (m n : Nat) : Nat := m / Nat.gcd m n
def lowQ (m n : Nat) : Nat := n / Nat.gcd m n
theorem nl_mul2 {m n d e : Nat} (hm : nl m ≤ d) (hn : nl n ≤ e) : nl (m * n) ≤ d + e := nl_le_iff.2 (sm_mul (nl_le_iff.1 hm) (nl_le_iff.1 hn))
end Go.Proofs.YthebfmlfgfmlnaaGreatDoor
namespace Go.Proofs.YthebfmlfgfmlnaaGreatDoor
set_option linter.unusedSimpArgs false
set_option linter.unusedVariables false
set_option maxRecDepth 100000
open Go.RowKit
theorem VarFB.setOther {w : World} {g L c M d : Nat} {s : Bool} {a b : Option Addr} (h : VarFB w g s a L c b M d) (p : Addr) (u : Value) (hp : p.block ≠ g) : VarFB (w.setCell p u) g s a L c b M d :=
  (Below.heap_setCell w p u g (fun e => hp e.symm)).trans h
theorem VarF.setOther {w : World} {g p q g' L' c' : Nat} {s : Bool} {a' : Option Addr} {u : Value} (h : VarF w g s p q) (h' : VarB w g' a' L' c') (hne : g' ≠ g) : VarF (w.setCell ⟨g', 0, none⟩ u) g s p q := by
  obtain ⟨a, c, b, d, h0, h1, h2⟩ := h
  exact ⟨a, c, b, d, h0.setOther _ _ hne, h1.setVar h', h2.setVar h'⟩
theorem VarF.lt {w : World} {g p q : Nat} {s : Bool} (h : VarF w g s p q) : g < w.heap.size := by obtain ⟨_, _, _, _, h, _⟩ := h; exact h.lt
theorem VarI.lt {w : World} {g N : Nat} (h : VarI w g N) : g < w.heap.size := by obtain ⟨_, _, h, _⟩ := h; exact h.lt
/-- The sum of two fractions over one denominator: its sign before reduction, its numerator. -/
def addG (s s' : Bool) (X Y : Nat) : Bool := if s = s' then s else if Y ≤ X then s else s'
def addM (s s' : Bool) (X Y : Nat) : Nat := if s = s' then X + Y else if Y ≤ X then X - Y else Y - X
theorem nl_add2 {m n d : Nat} (hm : nl m ≤ d) (hn : nl n ≤ d) : nl (m + n) ≤ d + d + 1 := nl_le_iff.2 (sm_add (nl_le_iff.1 hm) (nl_le_iff.1 hn))
theorem addM_le (s s' : Bool) (X Y : Nat) : addM s s' X Y ≤ X + Y := by unfold addM; by_cases h : s = s' <;> by_cases h2 : Y ≤ X <;> simp only [h, h2, if_true, if_false] <;> omega
end Go.Proofs.YthebfmlfgfmlnaaGreatDoor
namespace Go.Proofs.YthebfmlfgfmlnaaGreatDoor
set_option linter.unusedSimpArgs false
set_option linter.unusedVariables false
set_option maxRecDepth 100000
open Go.RowKit
/-- In w' only block g may differ from what it was in w. -/
structure Upd (w : World) (g : Nat) (w' : World) : Prop where
  os : w'.os = w.os
  tape : w'.tape = w.tape
  output : w'.output = w.output
  size : w'.heap.size = w.heap.size
  block : ∀ k, k ≠ g → w'.heap[k]? = w.heap[k]?
theorem Upd.cell (w : World) (g k : Nat) (u : Value) : Upd w g (w.setCell ⟨g, k, none⟩ u) := ⟨rfl, rfl, rfl, by simp [World.setCell], fun i hi => Below.heap_setCell _ _ _ _ hi⟩
theorem Upd.trans {a b c : World} {g : Nat} (h : Upd a g b) (k : Upd b g c) : Upd a g c := ⟨k.os.trans h.os, k.tape.trans h.tape, k.output.trans h.output, k.size.trans h.size, fun i hi => (k.block i hi).trans (h.block i hi)⟩
theorem Upd.below {W w w' : World} {g B : Nat} (h : Below B W w) (u : Upd w g w') (hB : B ≤ g) : Below B W w' :=
  h.trans ⟨u.os, u.tape, u.output, by rw [u.size]; exact Nat.le_refl _, fun k hk => u.block k (by omega)⟩
/-- Block g is a variable: no row of digits lies there. -/
def Own (w : World) (g : Nat) : Prop := ∃ (cs : Array Value) (t : TypeId), w.heap[g]? = some (Obj.cells cs t (0, 0)) ∧ ∀ (k : Nat) (n : Int), cs[k]? ≠ some (Value.int .u32 n)
theorem VarB.own {w : World} {g L c : Nat} {a : Option Addr} (h : VarB w g a L c) : Own w g := ⟨_, _, h, fun k n => by
  match k with
  | 0 => intro h; cases h
  | k + 1 => intro h; simp at h⟩
theorem VarFB.own {w : World} {g L c M d : Nat} {s : Bool} {a b : Option Addr} (h : VarFB w g s a L c b M d) : Own w g := ⟨_, _, h, fun k n => by
  match k with
  | 0 => intro h; cases h
  | 1 => intro h; cases h
  | 2 => intro h; cases h
  | k + 3 => intro h; simp at h⟩
theorem VarI.own {w : World} {g N : Nat} (h : VarI w g N) : Own w g := by obtain ⟨_, _, h, _⟩ := h; exact h.own
theorem VarF.own {w : World} {g p q : Nat} {s : Bool} (h : VarF w g s p q) : Own w g := by obtain ⟨_, _, _, _, h, _⟩ := h; exact h.own
theorem Own.ne {w : World} {g k o : Nat} {x : Int} (h : Own w g) (hd : w.cell? ⟨k, o, none⟩ = some (.int .u32 x)) : k ≠ g := by
  rintro rfl
  obtain ⟨cs, t, h1, h2⟩ := h
  rw [cell_of_row w k o _ _ (0, 0) h1] at hd
  exact h2 o x hd
section
variable {w w' : World} {g g' N L c M d p q : Nat} {s : Bool} {a b : Option Addr}
theorem IsR.upd {v : Value} {L N : Nat} (h : IsR w v L N) (o : Own w g) (u : Upd w g w') : IsR w' v L N := by
  obtain ⟨x, cap, rfl, hc, hx⟩ := h
  refine ⟨x, cap, rfl, hc, hx.lt, fun hL => ?_⟩
  obtain ⟨b, off, rfl, hd⟩ := hx.cells hL
  have hne : b ≠ g := o.ne (by simpa using hd 0 hL)
  refine ⟨b, off, rfl, fun j hj => ?_⟩
  rw [World.cell?_of_block (u.block b hne)]; exact hd j hj
theorem IsN.upd {v : Value} (h : IsN w v N) (o : Own w g) (u : Upd w g w') : IsN w' v N := IsR.upd h o u
theorem IsF.upd {v : Value} (h : IsF w v s p q) (o : Own w g) (u : Upd w g w') : IsF w' v s p q := by
  obtain ⟨x, cx, y, cy, rfl, h1, h2⟩ := h; exact ⟨x, cx, y, cy, rfl, h1.upd o u, h2.upd o u⟩
theorem VarB.upd (h : VarB w g' a L c) (o : Own w g) (u : Upd w g w') (hn : g' ≠ g) : VarB w' g' a L c := (u.block g' hn).trans h
theorem VarFB.upd (h : VarFB w g' s a L c b M d) (o : Own w g) (u : Upd w g w') (hn : g' ≠ g) : VarFB w' g' s a L c b M d := (u.block g' hn).trans h
theorem VarI.upd (h : VarI w g' N) (o : Own w g) (u : Upd w g w') (hn : g' ≠ g) : VarI w' g' N := by
  obtain ⟨x, cx, h1, h2⟩ := h; exact ⟨x, cx, h1.upd o u hn, h2.upd o u⟩
theorem VarF.upd (h : VarF w g' s p q) (o : Own w g) (u : Upd w g w') (hn : g' ≠ g) : VarF w' g' s p q := by
  obtain ⟨x, cx, y, cy, h0, h1, h2⟩ := h; exact ⟨x, cx, y, cy, h0.upd o u hn, h1.upd o u, h2.upd o u⟩
theorem VarI.zero (h : VarB w g none 0 0) : VarI w g 0 := ⟨none, 0, by rw [nl_zero]; exact h, by rw [nl_zero]; exact NewN.isN (base := 0) NewN.of_zero⟩
theorem VarF.zero (h : VarFB w g false none 0 0 none 0 0) : VarF w g false 0 0 := by
  have h0 : IsN w (.agg #[.slice none (nl 0) 0]) 0 := by rw [nl_zero]; exact NewN.isN (base := 0) NewN.of_zero
  exact ⟨none, 0, none, 0, by rw [nl_zero]; exact h, h0, h0⟩
end
section
variable {Q : Exit → Act → World → Prop} {md : Region.Mode} {ops : Array Oper} {o : Oper} {a : Act} {w : World} {j fuel : Nat} {listed : Array Bool} {x y : Operand} {g L c M d N p q : Nat} {s t : Bool} {u v : Option Addr}
theorem VarB.any (h : VarB w g u L c) : ∃ s L c, VarB w g s L c := ⟨_, _, _, h⟩
theorem VarI.any (h : VarI w g N) : ∃ s L c, VarB w g s L c := by obtain ⟨_, _, h, _⟩ := h; exact ⟨_, _, _, h⟩
theorem VarFB.any (h : VarFB w g s u L c v M d) : ∃ s u L c v M d, VarFB w g s u L c v M d := ⟨_, _, _, _, _, _, _, h⟩
theorem VarF.any (h : VarF w g s p q) : ∃ s u L c v M d, VarFB w g s u L c v M d := by obtain ⟨_, _, _, _, h, _⟩ := h; exact ⟨_, _, _, _, _, _, _, h⟩
end
section
variable {Q : Exit → Act → World → Prop} {md : Region.Mode} {ops : Array Oper} {o : Oper} {a : Act} {w : World} {j fuel : Nat} {listed : Array Bool} {x y : Operand} {g L c M d N p q : Nat} {s t : Bool} {u v : Option Addr}
section
variable {f : FuncId} {S S1 S2 S3 : Sp} {z : Operand} {tt : Array TypeId} {R : World → Ending → World → Prop}
end
end
theorem res_N {fn : Func} {p : Tmp} (h : fn.results = #[.cell p 24]) {tmps : Array Value} {w : World} {g L c : Nat} {a : Option Addr}
    (hp : tmps[p]? = some (.pointer (some ⟨g, 0, none⟩))) (hv : VarB w g a L c) : (results fn tmps).run Tryz.prog w = .ok (.agg #[.slice a L c]) w := by
  have c0 := hv.cell
  simp [results, h, hp, asAddr, loadVar, go_sem, c0]
theorem resN {w : World} : Below w.heap.size w (w.alloc (.cells #[.slice none 0 0] 24)) ∧ VarB (w.alloc (.cells #[.slice none 0 0] 24)) w.heap.size none 0 0 := ⟨bel1 w _, VarB.made w none 0 0⟩
/-- A fraction: sign, numerator, denominator. -/
structure Fq where
  s : Bool
  p : Nat
  q : Nat
abbrev IsQ (w : World) (v : Value) (x : Fq) : Prop := IsF w v x.s x.p x.q
def RetQ (W : World) (x : Fq) (e : Ending) (w' : World) : Prop := RetF W x.s x.p x.q e w'
def RetQE (W : World) (x : Fq) (c : Int) (e : Ending) (w' : World) : Prop := RetFE W x.s x.p x.q c e w'
def Fq.low (s : Bool) (m n : Nat) : Fq := ⟨lowS s m, lowP m n, lowQ m n⟩
def Fq.neg (x : Fq) : Fq := ⟨lowS (!x.s) x.p, x.p, x.q⟩
def Fq.add (x y : Fq) : Fq := .low (addG x.s y.s (x.p * y.q) (y.p * x.q)) (addM x.s y.s (x.p * y.q) (y.p * x.q)) (x.q * y.q)
def Fq.mul (x y : Fq) : Fq := .low (x.s != y.s) (x.p * y.p) (x.q * y.q)
def Fq.div (x y : Fq) : Fq := .low (x.s != y.s) (x.p * y.q) (x.q * y.p)
def Fq.sub (x y : Fq) : Fq := x.add y.neg
def Fq.sgn (x : Fq) : Int := if x.p = 0 then 0 else if x.s then -1 else 1
def Fq.cmp (x y : Fq) : Int := (x.sub y).sgn
def Fq.zero : Fq := ⟨false, 0, 0⟩
/-- At most d digits; the denominator is not zero. -/
structure Fq.ok (d : Nat) (x : Fq) : Prop where
  p : nl x.p ≤ d
  q : nl x.q ≤ d
  n : x.q ≠ 0
section
variable {x y : Fq} {d e : Nat}
theorem Fq.ok.mono (h : x.ok d) (hd : d ≤ e) : x.ok e := ⟨Nat.le_trans h.p hd, Nat.le_trans h.q hd, h.n⟩
theorem Fq.ok_low {s : Bool} {m n : Nat} (hm : nl m ≤ d) (hn : nl n ≤ d) (h0 : n ≠ 0) : (Fq.low s m n).ok d :=
  ⟨Nat.le_trans (nl_mono (Nat.div_le_self _ _)) hm, Nat.le_trans (nl_mono (Nat.div_le_self _ _)) hn, fun h => by
    have h1 : n / Nat.gcd m n = 0 := h
    rw [Nat.div_eq_zero_iff] at h1
    have h2 := Nat.gcd_pos_of_pos_right m (Nat.pos_of_ne_zero h0)
    have h3 := Nat.gcd_le_right m (Nat.pos_of_ne_zero h0)
    omega⟩
theorem Fq.ok.neg (h : x.ok d) : x.neg.ok d := ⟨h.p, h.q, h.n⟩
theorem Fq.ok.mul (h : x.ok d) (k : y.ok e) : (x.mul y).ok (d + e) := Fq.ok_low (nl_mul2 h.p k.p) (nl_mul2 h.q k.q) (Nat.mul_ne_zero h.n k.n)
theorem Fq.ok.div (h : x.ok d) (k : y.ok e) (h0 : y.p ≠ 0) : (x.div y).ok (d + e) := Fq.ok_low (nl_mul2 h.p k.q) (nl_mul2 h.q k.p) (Nat.mul_ne_zero h.n h0)
theorem Fq.ok.add (h : x.ok d) (k : y.ok e) : (x.add y).ok (d + e + (d + e) + 1) :=
  Fq.ok_low (Nat.le_trans (nl_mono (addM_le _ _ _ _)) (nl_add2 (nl_mul2 h.p k.q) (Nat.le_trans (nl_mul2 k.p h.q) (by omega)))) (Nat.le_trans (nl_mul2 h.q k.q) (by omega)) (Nat.mul_ne_zero h.n k.n)
theorem Fq.ok.sub (h : x.ok d) (k : y.ok e) : (x.sub y).ok (d + e + (d + e) + 1) := h.add k.neg
end
end Go.Proofs.YthebfmlfgfmlnaaGreatDoor
namespace Go.Proofs.YthebfmlfgfmlnaaGreatDoor
set_option linter.unusedSimpArgs false
set_option linter.unusedVariables false
set_option maxRecDepth 100000
open Go.RowKit
/-- The value of a function. -/
abbrev fnV (f : FuncId) : Value := .func (.func f) #[] #[]
/-- A value of one cell that may be stored into a variable. -/
def Flat (v : Value) : Prop := (∀ cs, v ≠ .agg cs) ∧ (∀ vs, v ≠ .tuple vs) ∧ ∀ n, v ≠ .int .u32 n
/-- The type of strings. -/
def strT : TypeId := 9
/-- Only the blocks of X, in which no digits lie, may have changed. -/
structure Chg (w w' : World) (X : Nat → Prop) : Prop where
  size : w.heap.size ≤ w'.heap.size
  blk : ∀ g, g < w.heap.size → ¬ X g → w'.heap[g]? = w.heap[g]?
  own : ∀ g, X g → Own w g
/-- A property of a value and of the blocks that it names; fp: those of these blocks that are no digits. -/
structure Vp where
  p : World → Value → Prop
  fp : Value → Nat → Prop
  ch : ∀ w w' X v, p w v → Chg w w' X → (∀ g, fp v g → ¬ X g) → p w' v
  lt : ∀ w v g, p w v → fp v g → g < w.heap.size
  fl : ∀ w v, p w v → Flat v
theorem IsR.chg {w w' : World} {X : Nat → Prop} {v : Value} {L N : Nat} (h : IsR w v L N) (k : Chg w w' X) : IsR w' v L N := by
  obtain ⟨x, cap, rfl, hc, hx⟩ := h
  refine ⟨x, cap, rfl, hc, hx.lt, fun hL => ?_⟩
  obtain ⟨b, off, rfl, hd⟩ := hx.cells hL
  have hb : w'.heap[b]? = w.heap[b]? := k.blk b (hd.lt hL) (fun hX => (k.own b hX).ne (by simpa using hd 0 hL) rfl)
  refine ⟨b, off, rfl, fun j hj => ?_⟩
  rw [World.cell?_of_block hb]; exact hd j hj
def Vp.val (u : Value) : Vp := ⟨fun _ v => v = u ∧ Flat v, fun _ _ => False, fun _ _ _ _ h _ _ => h, fun _ _ _ _ h => h.elim, fun _ _ h => h.2⟩
/-- A row of digits. -/
def Vp.dig (L N : Nat) : Vp := ⟨fun w v => IsR w (.agg #[v]) L N, fun _ _ => False, fun _ _ _ _ h k _ => h.chg k, fun _ _ _ _ h => h.elim, fun w v h => by
  obtain ⟨a, c, e, _⟩ := h
  have e2 : v = .slice a L c := by
    injection e with e
    have := congrArg (fun x : Array Value => x[0]?) e
    simpa using this
  subst e2
  exact ⟨fun _ h => by (cases h), fun _ h => by (cases h), fun _ h => by (cases h)⟩⟩
theorem Chg.below {w w' : World} (h : Below w.heap.size w w') : Chg w w' (fun _ => False) := ⟨h.size, fun g hg _ => h.block g hg, fun _ h => h.elim⟩
theorem Chg.upd {w w' : World} {g : Nat} (o : Own w g) (u : Upd w g w') : Chg w w' (fun x => x = g) := ⟨by rw [u.size]; exact Nat.le_refl _, fun k _ hk => u.block k hk, fun k hk => by subst hk; exact o⟩
abbrev Rho := List Vp
/-- What is known of one cell. -/
inductive Leaf where
  | b (x : Bool)
  | i (k : IntKind) (n : Int)
  | ptr (v off : Nat)
  | nilp
  | ref (n : Nat)
  | fn (f : FuncId)
  | sl0
  | s (x : ByteArray)
  | own (i n : Nat)
  deriving DecidableEq
inductive SV where
  | one (l : Leaf)
  | agg (ls : List Leaf)
  deriving DecidableEq
inductive AV where
  | v (s : SV)
  | tup (xs : List SV)
  | any
  deriving DecidableEq
abbrev Blk := Nat → Option Nat
/-- From here on the numbers are those of rows that the call itself made and may append to. -/
abbrev OW : Nat := 1000000
def Leaf.holds (ρ : Rho) (B : Blk) (w : World) (l : Leaf) (v : Value) : Prop :=
  match l with
  | .b x => v = .bool x
  | .i k n => v = .int k n
  | .ptr x o => ∃ g, B x = some g ∧ v = .pointer (some ⟨g, o, none⟩)
  | .nilp => v = .pointer none
  | .ref n => ∃ s, ρ[n]? = some s ∧ s.p w v ∧ ∀ g, s.fp v g → ∀ x, B x ≠ some g
  | .fn f => v = fnV f
  | .sl0 => v = .slice none 0 0
  | .s x => v = .string x
  | .own k m => ∃ s, ρ[m]? = some s ∧ s.p w v ∧ (∀ g, s.fp v g → ∀ x, B x = some g → x = OW + k) ∧ ∀ g, v.ownBlock = some g → B (OW + k) = some g
def LeavesH (ρ : Rho) (B : Blk) (w : World) : List Leaf → List Value → Prop
  | [], [] => True
  | l :: ls, v :: vs => l.holds ρ B w v ∧ LeavesH ρ B w ls vs
  | _, _ => False
def SV.holds (ρ : Rho) (B : Blk) (w : World) (s : SV) (v : Value) : Prop :=
  match s with
  | .one l => l.holds ρ B w v
  | .agg ls => ∃ vs : List Value, v = .agg vs.toArray ∧ LeavesH ρ B w ls vs
def SVsH (ρ : Rho) (B : Blk) (w : World) : List SV → List Value → Prop
  | [], [] => True
  | l :: ls, v :: vs => l.holds ρ B w v ∧ SVsH ρ B w ls vs
  | _, _ => False
def AV.holds (ρ : Rho) (B : Blk) (w : World) (s : AV) (v : Value) : Prop :=
  match s with
  | .v s => s.holds ρ B w v
  | .tup xs => ∃ vs : List Value, v = .tuple vs.toArray ∧ SVsH ρ B w xs vs
  | .any => v = undef
section
variable {ρ : Rho} {B B' : Blk} {w w' : World} {g : Nat} {v : Value}
def BLe (B B' : Blk) : Prop := ∀ x g, B x = some g → B' x = some g
/-- B' has new variables only beyond n. -/
def BNew (n : Nat) (B B' : Blk) : Prop := ∀ x g, B' x = some g → B x = some g ∨ n ≤ g
def BOk (B : Blk) (n : Nat) : Prop := ∀ x g, B x = some g → g < n
theorem BLe.refl : BLe B B := fun _ _ h => h
theorem BNew.refl {n : Nat} : BNew n B B := fun _ _ h => .inl h
theorem Leaf.holds.mono {l : Leaf} (h : l.holds ρ B w v) (hB : BLe B B') (hN : BNew w.heap.size B B') (hb : Below w.heap.size w w') : l.holds ρ B' w' v := by
  cases l <;> simp only [Leaf.holds] at h ⊢ <;> try exact h
  · obtain ⟨g, h1, h2⟩ := h; exact ⟨g, hB _ _ h1, h2⟩
  · obtain ⟨s, h1, h2, h3⟩ := h
    refine ⟨s, h1, s.ch _ _ _ _ h2 (.below hb) (fun _ _ h => h), fun g hg x hx => ?_⟩
    rcases hN x g hx with h | h
    · exact h3 g hg x h
    · have := s.lt _ _ _ h2 hg; omega
  · obtain ⟨s, h1, h2, h3, h4⟩ := h
    refine ⟨s, h1, s.ch _ _ _ _ h2 (.below hb) (fun _ _ h => h), fun g hg x hx => ?_, fun g hg => hB _ _ (h4 g hg)⟩
    rcases hN x g hx with h | h
    · exact h3 g hg x h
    · have := s.lt _ _ _ h2 hg; omega
theorem Leaf.holds.upd {l : Leaf} (h : l.holds ρ B w v) (o : Own w g) (u : Upd w g w') (hx : ∃ x, x < OW ∧ B x = some g) : l.holds ρ B w' v := by
  cases l <;> simp only [Leaf.holds] at h ⊢ <;> try exact h
  · obtain ⟨s, h1, h2, h3⟩ := h
    obtain ⟨x, _, hx⟩ := hx
    exact ⟨s, h1, s.ch _ _ _ _ h2 (.upd o u) (fun k hk e => by subst e; exact h3 _ hk x hx), h3⟩
  · obtain ⟨s, h1, h2, h3, h4⟩ := h
    obtain ⟨x, hlt, hx⟩ := hx
    exact ⟨s, h1, s.ch _ _ _ _ h2 (.upd o u) (fun k hk e => by subst e; have := h3 _ hk x hx; omega), h3, h4⟩
theorem LeavesH.all : ∀ {ls : List Leaf} {vs : List Value}, LeavesH ρ B w ls vs → (∀ (l : Leaf) (v : Value), Leaf.holds ρ B w l v → Leaf.holds ρ B' w' l v) → LeavesH ρ B' w' ls vs
  | [], [], _, _ => trivial
  | _ :: _, _ :: _, h, f => ⟨f _ _ h.1, LeavesH.all h.2 f⟩
  | [], _ :: _, h, _ => h.elim
  | _ :: _, [], h, _ => h.elim
theorem SV.holds.all {s : SV} (h : s.holds ρ B w v) (f : ∀ (l : Leaf) (v : Value), Leaf.holds ρ B w l v → Leaf.holds ρ B' w' l v) : s.holds ρ B' w' v := by
  cases s with
  | one l => exact f _ _ h
  | agg ls => obtain ⟨vs, e, h⟩ := h; exact ⟨vs, e, LeavesH.all h f⟩
theorem SVsH.all : ∀ {ls : List SV} {vs : List Value}, SVsH ρ B w ls vs → (∀ (l : Leaf) (v : Value), Leaf.holds ρ B w l v → Leaf.holds ρ B' w' l v) → SVsH ρ B' w' ls vs
  | [], [], _, _ => trivial
  | _ :: _, _ :: _, h, f => ⟨h.1.all f, SVsH.all h.2 f⟩
  | [], _ :: _, h, _ => h.elim
  | _ :: _, [], h, _ => h.elim
theorem AV.holds.all {s : AV} (h : s.holds ρ B w v) (f : ∀ (l : Leaf) (v : Value), Leaf.holds ρ B w l v → Leaf.holds ρ B' w' l v) : s.holds ρ B' w' v := by
  cases s with
  | v s => exact SV.holds.all h f
  | tup ls => obtain ⟨vs, e, h⟩ := h; exact ⟨vs, e, h.all f⟩
  | any => exact h
theorem AV.holds.mono {s : AV} (h : s.holds ρ B w v) (hB : BLe B B') (hN : BNew w.heap.size B B') (hb : Below w.heap.size w w') : s.holds ρ B' w' v := h.all (fun _ _ h => h.mono hB hN hb)
theorem AV.holds.upd {s : AV} (h : s.holds ρ B w v) (o : Own w g) (u : Upd w g w') (hx : ∃ x, x < OW ∧ B x = some g) : s.holds ρ B w' v := h.all (fun _ _ h => h.upd o u hx)
theorem LeavesH.len : ∀ {ls : List Leaf} {vs : List Value}, LeavesH ρ B w ls vs → vs.length = ls.length
  | [], [], _ => rfl
  | _ :: _, _ :: _, h => by simp [h.2.len]
  | [], _ :: _, h => h.elim
  | _ :: _, [], h => h.elim
theorem LeavesH.get : ∀ {ls : List Leaf} {vs : List Value} {k : Nat} {l : Leaf}, LeavesH ρ B w ls vs → ls[k]? = some l → ∃ v, vs[k]? = some v ∧ l.holds ρ B w v
  | [], [], _, _, _, h => by simp at h
  | _ :: _, v :: _, 0, _, h, e => by simp at e; subst e; exact ⟨v, rfl, h.1⟩
  | _ :: ls, _ :: vs, k + 1, l, h, e => by
    obtain ⟨u, h1, h2⟩ := LeavesH.get (k := k) (l := l) h.2 (by simpa using e)
    exact ⟨u, by simpa using h1, h2⟩
  | [], _ :: _, _, _, h, _ => h.elim
  | _ :: _, [], _, _, h, _ => h.elim
theorem LeavesH.mk : ∀ {ls : List Leaf} {vs : List Value}, vs.length = ls.length → (∀ (k : Nat) (l : Leaf) (v : Value), ls[k]? = some l → vs[k]? = some v → l.holds ρ B w v) → LeavesH ρ B w ls vs
  | [], [], _, _ => trivial
  | l :: ls, v :: vs, e, h => ⟨h 0 l v rfl rfl, LeavesH.mk (by simpa using e) (fun k l v h1 h2 => h (k + 1) l v (by simpa using h1) (by simpa using h2))⟩
  | [], _ :: _, e, _ => by simp at e
  | _ :: _, [], e, _ => by simp at e
theorem SVsH.get : ∀ {ls : List SV} {vs : List Value} {k : Nat} {l : SV}, SVsH ρ B w ls vs → ls[k]? = some l → ∃ v, vs[k]? = some v ∧ l.holds ρ B w v
  | [], [], _, _, _, h => by simp at h
  | _ :: _, v :: _, 0, _, h, e => by simp at e; subst e; exact ⟨v, rfl, h.1⟩
  | _ :: ls, _ :: vs, k + 1, l, h, e => by
    obtain ⟨u, h1, h2⟩ := SVsH.get (k := k) (l := l) h.2 (by simpa using e)
    exact ⟨u, by simpa using h1, h2⟩
  | [], _ :: _, _, _, h, _ => h.elim
  | _ :: _, [], _, _, h, _ => h.elim
theorem LeavesH.append : ∀ {ls ls' : List Leaf} {vs vs' : List Value}, LeavesH ρ B w ls vs → LeavesH ρ B w ls' vs' → LeavesH ρ B w (ls ++ ls') (vs ++ vs')
  | [], _, [], _, _, k => k
  | _ :: _, _, _ :: _, _, h, k => ⟨h.1, LeavesH.append h.2 k⟩
  | [], _, _ :: _, _, h, _ => h.elim
  | _ :: _, _, [], _, h, _ => h.elim
/-- Leaves that may lie in a variable. -/
def Leaf.flat : Leaf → Bool
  | .i .u32 _ => false
  | .own _ _ => false
  | _ => true
theorem Leaf.holds.flat {l : Leaf} (h : l.holds ρ B w v) (hf : l.flat = true) : Flat v := by
  cases l <;> simp only [Leaf.holds] at h
  · subst h; exact ⟨fun _ h => by (cases h), fun _ h => by (cases h), fun _ h => by (cases h)⟩
  · subst h
    rename_i k n
    exact ⟨fun _ h => by (cases h), fun _ h => by (cases h), fun m h => by
      injection h with h1 h2; subst h1; simp [Leaf.flat] at hf⟩
  · obtain ⟨g, _, h⟩ := h; subst h; exact ⟨fun _ h => by (cases h), fun _ h => by (cases h), fun _ h => by (cases h)⟩
  · subst h; exact ⟨fun _ h => by (cases h), fun _ h => by (cases h), fun _ h => by (cases h)⟩
  · obtain ⟨s, _, h, _⟩ := h; exact s.fl _ _ h
  · subst h; exact ⟨fun _ h => by (cases h), fun _ h => by (cases h), fun _ h => by (cases h)⟩
  · subst h; exact ⟨fun _ h => by (cases h), fun _ h => by (cases h), fun _ h => by (cases h)⟩
  · subst h; exact ⟨fun _ h => by (cases h), fun _ h => by (cases h), fun _ h => by (cases h)⟩
  · simp [Leaf.flat] at hf
end
/-- A constant as a leaf. -/
def leafC : Value → Option Leaf
  | .bool x => some (.b x)
  | .int k n => some (.i k n)
  | .pointer none => some .nilp
  | .slice none 0 0 => some .sl0
  | .string s => some (.s s)
  | _ => none
theorem leafC_holds {ρ : Rho} {B : Blk} {w : World} {v : Value} {l : Leaf} (h : leafC v = some l) : l.holds ρ B w v := by
  unfold leafC at h
  split at h <;> first | (injection h with h; subst h; rfl) | cases h
def leavesC : List Value → Option (List Leaf)
  | [] => some []
  | v :: vs => match leafC v, leavesC vs with
    | some l, some ls => some (l :: ls)
    | _, _ => none
theorem leavesC_holds {ρ : Rho} {B : Blk} {w : World} : ∀ {vs : List Value} {ls : List Leaf}, leavesC vs = some ls → LeavesH ρ B w ls vs
  | [], ls, h => by simp [leavesC] at h; subst h; trivial
  | v :: vs, ls, h => by
    unfold leavesC at h
    cases h1 : leafC v with
    | none => rw [h1] at h; simp at h
    | some l =>
      cases h2 : leavesC vs with
      | none => rw [h1, h2] at h; simp at h
      | some l2 => rw [h1, h2] at h; simp at h; subst h; exact ⟨leafC_holds h1, leavesC_holds h2⟩
def svC : Value → Option SV
  | .agg cs => (leavesC cs.toList).map .agg
  | v => (leafC v).map .one
theorem svC_holds {ρ : Rho} {B : Blk} {w : World} {v : Value} {s : SV} (h : svC v = some s) : s.holds ρ B w v := by
  unfold svC at h
  split at h
  · rename_i cs
    cases h1 : leavesC cs.toList with
    | none => rw [h1] at h; cases h
    | some l => rw [h1] at h; simp at h; subst h; exact ⟨cs.toList, by simp, leavesC_holds h1⟩
  · cases h1 : leafC v with
    | none => rw [h1] at h; cases h
    | some l => rw [h1] at h; simp at h; subst h; exact leafC_holds h1
end Go.Proofs.YthebfmlfgfmlnaaGreatDoor
namespace Go.Proofs.YthebfmlfgfmlnaaGreatDoor
set_option linter.unusedSimpArgs false
set_option linter.unusedVariables false
set_option maxRecDepth 100000
open Go.RowKit
/-- Places: slot t is number t; cell k of variable v is number (v + 1) * 100000 + k. -/
def LocH (ρ : Rho) (B : Blk) (a : Act) (w : World) (x : Nat) (c : AV) : Prop :=
  if x < 100000 then ∃ u, a.tmps[x]? = some u ∧ c.holds ρ B w u
  else ∃ g cs ty u, B (x / 100000 - 1) = some g ∧ w.heap[g]? = some (.cells cs ty (0, 0)) ∧ cs[x % 100000]? = some u ∧ c.holds ρ B w u
structure Eff where
  rd : List Nat
  wr : List (Nat × AV)
  al : Option Nat
structure Inv (vt : List (TypeId × Nat)) (w0 : World) (nt : Nat) (B : Blk) (a : Act) (w : World) : Prop where
  blk : ∀ v g, v < OW → B v = some g → w0.heap.size ≤ g ∧ ∃ cs ty, vt[v]? = some (ty, cs.size) ∧ w.heap[g]? = some (.cells cs ty (0, 0)) ∧ (∀ (k : Nat) (n : Int), cs[k]? ≠ some (.int .u32 n))
  own : ∀ v g, OW ≤ v → B v = some g → w0.heap.size ≤ g ∧ g < w.heap.size ∧ Own w g
  inj : ∀ v v' g, B v = some g → B v' = some g → v = v'
  below : Below w0.heap.size w0 w
  size : a.tmps.size = nt
  dfr : a.defers = []
/-- What an operation leaves behind. -/
structure Post (ρ : Rho) (vt : List (TypeId × Nat)) (w0 : World) (nt : Nat) (e : Eff) (B : Blk) (a : Act) (w : World) (B' : Blk) (a' : Act) (w' : World) : Prop where
  le : BLe B B'
  inv : Inv vt w0 nt B' a' w'
  wr : ∀ p ∈ e.wr, LocH ρ B' a' w' p.1 p.2
  keep : ∀ x c, LocH ρ B a w x c → (∀ p ∈ e.wr, p.1 ≠ x) → LocH ρ B' a' w' x c
  new : ∀ v, B v = none → B' v ≠ none → e.al = some v
/-- Operation j, from a state of which lk tells what is known, has effect e. -/
def OpOk (P : Program) (ρ : Rho) (vt : List (TypeId × Nat)) (w0 : World) (nt : Nat) (ops : Array Oper) (Q : Exit → Act → World → Prop) (j : Nat) (lk : Nat → Option AV) (e : Eff) : Prop :=
  ∀ B a w, Inv vt w0 nt B a w → (∀ x ∈ e.rd, ∀ c, lk x = some c → LocH ρ B a w x c) → (∀ v, e.al = some v → B v = none) →
    ∀ K : Act → World → Prop, (∀ B' a' w', Post ρ vt w0 nt e B a w B' a' w' → K a' w') → wpOp P ops Q j K a w
abbrev Effs := List (Nat × Eff)
/-- What is known of a place behind some operations (the newest first). -/
def lkE (b : Nat → Option AV) : Effs → Nat → Option AV
  | [], x => b x
  | (_, e) :: r, x => match e.wr.find? (fun p => p.1 == x) with
    | some p => some p.2
    | none => lkE b r x
def valT (b : Nat → Option AV) (T : List Nat) : Effs → Nat → Option AV
  | [], x => b x
  | (i, e) :: r, x => match (if T.contains i then e.wr.find? (fun p => p.1 == x) else none) with
    | some p => some p.2
    | none => valT b T r x
def noconf (e e' : Eff) : Bool :=
  e'.wr.all (fun p => !e.rd.contains p.1 && !e.wr.any (fun q => q.1 == p.1)) && e'.rd.all (fun x => !e.wr.any (fun q => q.1 == x))
def okAdd (m : Nat) (r : Effs) (e : Eff) : Bool := r.all fun p => m.testBit p.1 || noconf e p.2
section
variable {P : Program} {ρ : Rho} {vt : List (TypeId × Nat)} {w0 : World} {nt : Nat} {ops : Array Oper} {Q : Exit → Act → World → Prop} {b : Nat → Option AV} {md : Region.Mode}
def Closed (md : Region.Mode) (ops : Array Oper) (T : List Nat) : Prop := ∀ j ∈ T, ∀ k ∈ preds md ops j, k ∈ T
def AncOk (md : Region.Mode) (ops : Array Oper) (m j : Nat) : Prop := ∀ i, m.testBit i = true → ∀ T, Closed md ops T → (∀ k ∈ preds md ops j, k ∈ T) → i ∈ T
/-- A run through the operations in the order of the text. -/
def Good (P : Program) (ρ : Rho) (vt : List (TypeId × Nat)) (w0 : World) (nt : Nat) (md : Region.Mode) (ops : Array Oper) (Q : Exit → Act → World → Prop) (b : Nat → Option AV) (nb : Nat) : Effs → Prop
  | [] => True
  | (j, e) :: r => j = r.length ∧ OpOk P ρ vt w0 nt ops Q j (lkE b r) e ∧ (∃ m, AncOk md ops m j ∧ okAdd m r e = true) ∧ (∀ v, e.al = some v → (nb ≤ v ∧ v < OW) ∧ ∀ p ∈ r, p.2.al ≠ some v) ∧ Good P ρ vt w0 nt md ops Q b nb r
theorem valT_app (T : List Nat) (x y : Effs) : valT b T (x ++ y) = valT (valT b T y) T x := by
  induction x with
  | nil => rfl
  | cons p x ih =>
    funext z
    obtain ⟨i, e⟩ := p
    simp only [List.cons_append, valT, ih]
theorem valT_all (T : List Nat) (r : Effs) (h : ∀ p ∈ r, p.1 ∈ T) : valT b T r = lkE b r := by
  induction r with
  | nil => rfl
  | cons p x ih =>
    funext z
    obtain ⟨i, e⟩ := p
    have h1 : T.contains i = true := List.contains_iff_mem.2 (h (i, e) (by simp))
    simp only [valT, lkE, h1, if_true, ih (fun p hp => h p (List.mem_cons_of_mem _ hp))]
theorem find_none {l : List (Nat × AV)} {x : Nat} (h : ∀ p ∈ l, p.1 ≠ x) : l.find? (fun p => p.1 == x) = none := by
  rw [List.find?_eq_none]
  intro p hp
  simpa using h p hp
theorem valT_skip {T : List Nat} {r : Effs} {x : Nat} (h : ∀ p ∈ r, p.1 ∈ T → ∀ q ∈ p.2.wr, q.1 ≠ x) : valT b T r x = b x := by
  induction r with
  | nil => rfl
  | cons p r ih =>
    obtain ⟨i, e⟩ := p
    simp only [valT]
    by_cases hi : T.contains i = true
    · rw [if_pos hi, find_none (h (i, e) (by simp) (List.contains_iff_mem.1 hi))]
      exact ih (fun p hp => h p (List.mem_cons_of_mem _ hp))
    · rw [if_neg hi]
      exact ih (fun p hp => h p (List.mem_cons_of_mem _ hp))
theorem noconf_iff {e e' : Eff} : noconf e e' = true ↔ (∀ p ∈ e'.wr, p.1 ∉ e.rd ∧ ∀ q ∈ e.wr, q.1 ≠ p.1) ∧ ∀ x ∈ e'.rd, ∀ q ∈ e.wr, q.1 ≠ x := by
  unfold noconf
  simp only [Bool.and_eq_true, List.all_eq_true, Bool.not_eq_true', List.any_eq_false, beq_iff_eq, List.contains_eq_mem, decide_eq_false_iff_not]
theorem Good.split {nb : Nat} {r : Effs} (h : Good P ρ vt w0 nt md ops Q b nb r) {j : Nat} (hj : j < r.length) : ∃ hi e lo, r = hi ++ (j, e) :: lo ∧ lo.length = j ∧ Good P ρ vt w0 nt md ops Q b nb ((j, e) :: lo) ∧
    (∀ p ∈ hi, j < p.1 ∧ (∃ m, AncOk md ops m p.1 ∧ (m.testBit j = true ∨ noconf p.2 e = true)) ∧ (∀ v, p.2.al = some v → e.al ≠ some v)) := by
  induction r with
  | nil => simp at hj
  | cons p r ih =>
    obtain ⟨i, e⟩ := p
    obtain ⟨h1, h2, h3, h4, h5⟩ := h
    by_cases hji : j = i
    · subst hji
      exact ⟨[], e, r, rfl, h1.symm, ⟨h1, h2, h3, h4, h5⟩, fun p hp => by cases hp⟩
    · have hj' : j < r.length := by simp at hj; omega
      obtain ⟨hi, e', lo, rfl, e2, hg, hall⟩ := ih h5 hj'
      refine ⟨(i, e) :: hi, e', lo, rfl, e2, hg, fun p hp => ?_⟩
      rcases List.mem_cons.1 hp with rfl | hp
      · obtain ⟨m, hm, hok⟩ := h3
        refine ⟨by simp only; omega, ⟨m, hm, ?_⟩, fun v hv => (h4 v hv).2 (j, e') (by simp)⟩
        unfold okAdd at hok
        have := List.all_eq_true.1 hok (j, e') (by simp)
        simpa using this
      · exact hall p hp
theorem Good.idx {nb : Nat} {r : Effs} (h : Good P ρ vt w0 nt md ops Q b nb r) : ∀ p ∈ r, p.1 < r.length := by
  induction r with
  | nil => intro p hp; cases hp
  | cons p r ih =>
    obtain ⟨i, e⟩ := p
    obtain ⟨h1, h2, h3, h4, h5⟩ := h
    intro q hq
    rcases List.mem_cons.1 hq with rfl | hq
    · simp only [List.length_cons]; omega
    · have := ih h5 q hq; simp only [List.length_cons]; omega
theorem val_lo {T : List Nat} {e : Eff} {x : Nat} (hx : x ∈ e.rd) : ∀ {lo : Effs}, (∀ p ∈ lo, p.1 ∈ T ∨ noconf e p.2 = true) → valT b T lo x = lkE b lo x
  | [], _ => rfl
  | (i, e') :: lo, h => by
    simp only [valT, lkE]
    have ih' := val_lo hx (lo := lo) (fun p hp => h p (List.mem_cons_of_mem _ hp))
    by_cases hiT : T.contains i = true
    · rw [if_pos hiT, ih']
    · rw [if_neg hiT]
      rcases h (i, e') (by simp) with h | h
      · exact absurd (List.contains_iff_mem.2 h) hiT
      · rw [find_none (fun q hq he => ((noconf_iff.1 h).1 q hq).1 (by rw [he]; exact hx))]
        exact ih'
theorem valT_push {T : List Nat} {j : Nat} : ∀ {r : Effs}, (∀ p ∈ r, p.1 ≠ j) → valT b (T ++ [j]) r = valT b T r
  | [], _ => rfl
  | (i, e') :: r, h => by
    funext z
    have hc : (T ++ [j]).contains i = T.contains i := by
      have := h (i, e') (by simp)
      simp only at this
      rw [Bool.eq_iff_iff]; simp [this]
    simp only [valT, hc, valT_push (r := r) (fun p hp => h p (List.mem_cons_of_mem _ hp))]
theorem valT_congr {b' : Nat → Option AV} {T : List Nat} {x : Nat} (h : b x = b' x) : ∀ {r : Effs}, valT b T r x = valT b' T r x
  | [] => h
  | (i, e') :: r => by simp only [valT, valT_congr h (r := r)]
/-- What holds when the operations of T are done. -/
def StT (ρ : Rho) (vt : List (TypeId × Nat)) (w0 : World) (nt : Nat) (b : Nat → Option AV) (nb : Nat) (r : Effs) (T : List Nat) (a : Act) (w : World) : Prop :=
  ∃ B, Inv vt w0 nt B a w ∧ (∀ x c, valT b T r x = some c → LocH ρ B a w x c) ∧ (∀ v, v < OW → B v ≠ none → v < nb ∨ ∃ p ∈ r, p.1 ∈ T ∧ p.2.al = some v)
theorem step_any {nb : Nat} {r : Effs} (hg : Good P ρ vt w0 nt md ops Q b nb r) {T : List Nat} {j : Nat} (hj : j < r.length) (hT : Closed md ops T) (hjT : j ∉ T) (hp : ∀ k ∈ preds md ops j, k ∈ T)
    {a : Act} {w : World} (h : StT ρ vt w0 nt b nb r T a w) {K : Act → World → Prop} (hK : ∀ a' w', StT ρ vt w0 nt b nb r (T ++ [j]) a' w' → K a' w') : wpOp P ops Q j K a w := by
  obtain ⟨hi, e, lo, rfl, hlo, ⟨_, hop, ⟨m, hm, hok⟩, hal, hgl⟩, hhi⟩ := hg.split hj
  obtain ⟨B, hinv, hval, hB⟩ := h
  have hhi' : ∀ p ∈ hi, p.1 ∈ T → noconf p.2 e = true := fun p hp1 hp2 => by
    obtain ⟨_, ⟨m', hm', hor⟩, _⟩ := hhi p hp1
    rcases hor with hor | hor
    · exact absurd (hm' j hor T hT (fun k hk => hT _ hp2 k hk)) hjT
    · exact hor
  have hlo' : ∀ p ∈ lo, p.1 ∈ T ∨ noconf e p.2 = true := fun p hp1 => by
    unfold okAdd at hok
    have := List.all_eq_true.1 hok p hp1
    simp only [Bool.or_eq_true] at this
    rcases this with h | h
    · exact .inl (hm _ h T hT hp)
    · exact .inr h
  have hTj : T.contains j = false := by simpa using hjT
  refine hop B a w hinv (fun x hx c hc => ?_) (fun v hv => ?_) K (fun B' a' w' hpost => hK a' w' ⟨B', hpost.inv, fun x c hc => ?_, fun v hvl hv => ?_⟩)
  · refine hval x c ?_
    rw [valT_app]
    rw [valT_skip (fun p hp1 hp2 q hq => ?_)]
    · show valT b T ((j, e) :: lo) x = _
      simp only [valT, hTj, Bool.false_eq_true, if_false]
      rw [← hc]
      exact val_lo hx hlo'
    · intro he
      have h1 := hhi' p hp1 hp2
      exact (noconf_iff.1 h1).2 x hx q hq he
  · have h0 := hal v hv
    cases hBv : B v with
    | none => rfl
    | some g =>
      rcases hB v h0.1.2 (by rw [hBv]; simp) with h | ⟨p, hp1, hp2, hp3⟩
      · omega
      · rcases List.mem_append.1 hp1 with h | h
        · exact absurd hv ((hhi p h).2.2 v hp3)
        · rcases List.mem_cons.1 h with rfl | h
          · exact absurd hp2 hjT
          · exact absurd hp3 (h0.2 p h)
  · -- the places behind
    have hhi2 : ∀ p ∈ hi, p.1 ∈ T ++ [j] → p.1 ∈ T := fun p hp1 hp2 => by
      rcases List.mem_append.1 hp2 with h | h
      · exact h
      · simp at h; have := (hhi p hp1).1; omega
    have hTj' : (T ++ [j]).contains j = true := by simp
    by_cases hx : ∃ p ∈ e.wr, p.1 = x
    · rw [valT_app, valT_skip (fun p hp1 hp2 q hq => ?_)] at hc
      · simp only [valT, hTj', if_true] at hc
        cases hf : e.wr.find? (fun p => p.1 == x) with
        | none =>
          obtain ⟨p, hp1, hp2⟩ := hx
          have := List.find?_eq_none.1 hf p hp1
          simp [hp2] at this
        | some p =>
          rw [hf] at hc
          simp only [Option.some.injEq] at hc
          have h1 := List.find?_some hf
          have h2 := List.mem_of_find?_eq_some hf
          simp only [beq_iff_eq] at h1
          have h3 := hpost.wr p h2
          rw [h1, hc] at h3
          exact h3
      · intro he
        obtain ⟨p2, hp3, rfl⟩ := hx
        have h1 := hhi' p hp1 (hhi2 p hp1 hp2)
        have h2 := ((noconf_iff.1 h1).1 p2 hp3).2 q hq
        exact h2 he
    · have hx' : ∀ p ∈ e.wr, p.1 ≠ x := fun p hp he => hx ⟨p, hp, he⟩
      refine hpost.keep x c (hval x c ?_) hx'
      rw [← hc, valT_app, valT_app, valT_push (r := hi) (fun p hp => by have := (hhi p hp).1; omega)]
      refine valT_congr ?_
      simp only [valT, hTj, hTj', Bool.false_eq_true, if_false, if_true]
      rw [find_none hx', valT_push (r := lo) (fun p hp => by have := hgl.idx p hp; omega)]
  · cases hBv : B v with
    | some g =>
      rcases hB v hvl (by rw [hBv]; simp) with h | ⟨p, h1, h2, h3⟩
      · exact .inl h
      · exact .inr ⟨p, h1, List.mem_append.2 (.inl h2), h3⟩
    | none => exact .inr ⟨(j, e), by simp, by simp, hpost.new v hBv hv⟩
end
end Go.Proofs.YthebfmlfgfmlnaaGreatDoor
namespace Go.Proofs.YthebfmlfgfmlnaaGreatDoor
set_option linter.unusedSimpArgs false
set_option linter.unusedVariables false
set_option maxRecDepth 100000
open Go.RowKit
section
variable {P : Program} {ρ : Rho} {vt : List (TypeId × Nat)} {w0 : World} {nt : Nat} {ops : Array Oper} {Q : Exit → Act → World → Prop} {b : Nat → Option AV} {md : Region.Mode}
/-- What holds when all operations are done. -/
def StF (ρ : Rho) (vt : List (TypeId × Nat)) (w0 : World) (nt : Nat) (lk : Nat → Option AV) (nb : Nat) (r : Effs) (a : Act) (w : World) : Prop :=
  ∃ B, Inv vt w0 nt B a w ∧ (∀ x c, lk x = some c → LocH ρ B a w x c) ∧ (∀ v, v < OW → B v ≠ none → v < nb ∨ ∃ p ∈ r, p.2.al = some v)
theorem StT.done {nb : Nat} {r : Effs} {T : List Nat} {a : Act} {w : World} (h : StT ρ vt w0 nt b nb r T a w) (hT : ∀ p ∈ r, p.1 ∈ T) : StF ρ vt w0 nt (lkE b r) nb r a w := by
  obtain ⟨B, h1, h2, h3⟩ := h
  rw [valT_all T r hT] at h2
  exact ⟨B, h1, h2, fun v hl hv => (h3 v hl hv).imp id (fun ⟨p, h, _, e⟩ => ⟨p, h, e⟩)⟩
theorem valT_nil (r : Effs) : valT b [] r = b := by
  induction r with
  | nil => rfl
  | cons p r ih => funext x; obtain ⟨i, e⟩ := p; simp [valT, ih]
theorem StT.start {nb : Nat} {r : Effs} {a : Act} {w : World} {B : Blk} (h1 : Inv vt w0 nt B a w) (h2 : ∀ x c, b x = some c → LocH ρ B a w x c) (h3 : ∀ v, v < OW → B v ≠ none → v < nb) : StT ρ vt w0 nt b nb r [] a w :=
  ⟨B, h1, by rw [valT_nil]; exact h2, fun v hl hv => .inl (h3 v hl hv)⟩
theorem any_sound {nb : Nat} {r : Effs} (hg : Good P ρ vt w0 nt md ops Q b nb r) (hlen : r.length = ops.size) (hdown : ∀ j, j < ops.size → ∀ k ∈ preds md ops j, k < j) {a : Act} {w : World}
    (h : StT ρ vt w0 nt b nb r [] a w) (hQ : ∀ a' w', StF ρ vt w0 nt (lkE b r) nb r a' w' → Q .normal a' w') : wpAny P md ops Q ops.size (Array.replicate ops.size false) a w := by
  have main : ∀ (z : Nat) (T : List Nat) (a' : Act) (w' : World), T.Nodup → (∀ i ∈ T, i < ops.size) → T.length + z = ops.size → Closed md ops T → StT ρ vt w0 nt b nb r T a' w' →
      wpAny P md ops Q z (markAll T (Array.replicate ops.size false)) a' w' := by
    intro z
    induction z with
    | zero =>
      intro T a' w' hTn hT hl hcl hS
      have hall : ∀ i, i < ops.size → i ∈ T := by
        intro i hi
        apply Classical.byContradiction
        intro hni
        have h1 : (i :: T).length ≤ (List.range ops.size).length := len_le (List.nodup_cons.2 ⟨hni, hTn⟩) (fun k hk => by
          rcases List.mem_cons.1 hk with rfl | hk
          · exact List.mem_range.2 hi
          · exact List.mem_range.2 (hT k hk))
        simp at h1; omega
      refine ⟨?_, hQ _ _ (hS.done (fun p hp => hall _ (by have := hg.idx p hp; omega)))⟩
      apply List.eq_nil_iff_forall_not_mem.2
      intro j hj
      obtain ⟨hjs, hj0, _⟩ := ready_preds hj
      rw [markAll_get] at hj0
      simp [hall j hjs, hjs] at hj0
    | succ z ih =>
      intro T a' w' hTn hT hl hcl hS
      have hready : ∀ j ∈ Region.ready md ops (markAll T (Array.replicate ops.size false)), j < ops.size ∧ j ∉ T ∧ ∀ k ∈ preds md ops j, k ∈ T := by
        intro j hj
        obtain ⟨hjs, hj0, hjp⟩ := ready_preds hj
        have hjT : j ∉ T := by
          intro h
          rw [markAll_get] at hj0
          simp [h, hjs] at hj0
        refine ⟨hjs, hjT, fun k hk => ?_⟩
        have h1 := hjp k hk
        rw [markAll_get] at h1
        apply Classical.byContradiction
        intro hkT
        have hkD : k < ops.size := by have := hdown j hjs k hk; omega
        simp [hkT, hkD] at h1
      have hex : ∃ i, i < ops.size ∧ i ∉ T := by
        apply Classical.byContradiction
        intro hno
        have hall : ∀ i ∈ List.range ops.size, i ∈ T := fun i hi => Classical.byContradiction fun h => hno ⟨i, List.mem_range.1 hi, h⟩
        have := len_le List.nodup_range hall
        simp at this; omega
      have hsome : ∃ i ∈ Region.ready md ops (markAll T (Array.replicate ops.size false)), True := by
        have key : ∀ (m i : Nat), i ≤ m → i < ops.size → i ∉ T → ∃ i ∈ Region.ready md ops (markAll T (Array.replicate ops.size false)), True := by
          intro m
          induction m with
          | zero =>
            intro i him hi hiT
            refine ⟨i, mk_ready (by omega) (by rw [markAll_get]; simp [hiT, hi]) (fun k hk => ?_), trivial⟩
            have := hdown i (by omega) k hk
            omega
          | succ m ihm =>
            intro i him hi hiT
            by_cases hall : ∀ k ∈ preds md ops i, k ∈ T
            · refine ⟨i, mk_ready (by omega) (by rw [markAll_get]; simp [hiT, hi]) (fun k hk => ?_), trivial⟩
              have hkD := hT k (hall k hk)
              rw [markAll_get]; simp [hall k hk, hkD]
            · simp only [Classical.not_forall] at hall
              obtain ⟨k, hk, hkT⟩ := hall
              have hki := hdown i (by omega) k hk
              exact ihm k (by omega) (by omega) hkT
        obtain ⟨i, hi, hiT⟩ := hex
        exact key i i (Nat.le_refl _) hi hiT
      refine ⟨fun h => ?_, fun j hj => ?_⟩
      · obtain ⟨i, hi, _⟩ := hsome
        rw [h] at hi; cases hi
      · obtain ⟨hjD, hjT, hjp⟩ := hready j hj
        refine step_any hg (by omega) hcl hjT hjp hS (fun a'' w'' hS' => ?_)
        have e : (markAll T (Array.replicate ops.size false)).setIfInBounds j true = markAll (T ++ [j]) (Array.replicate ops.size false) := by unfold markAll; rw [List.foldl_append]; rfl
        rw [e]
        refine ih (T ++ [j]) a'' w'' ?_ ?_ ?_ ?_ hS'
        · exact List.nodup_append.2 ⟨hTn, by simp, by intro x hx y hy; simp at hy; subst hy; exact fun h => hjT (h ▸ hx)⟩
        · intro i hi
          rcases List.mem_append.1 hi with h | h
          · exact hT i h
          · simp at h; rw [h]; exact hjD
        · simp; omega
        · intro i hi k hk
          rcases List.mem_append.1 hi with h | h
          · exact List.mem_append.2 (.inl (hcl i h k hk))
          · simp at h; subst h; exact List.mem_append.2 (.inl (hjp k hk))
  exact main ops.size [] a w (by simp) (by simp) (by simp) (fun j hj => by cases hj) h
/-- A region that keeps the order of its text. -/
theorem text_sound {nb : Nat} {r : Effs} (hg : Good P ρ vt w0 nt md ops Q b nb r) (hlen : r.length = ops.size) (hdown : ∀ j, j < ops.size → ∀ k ∈ preds md ops j, k < j) {a : Act} {w : World}
    (h : StT ρ vt w0 nt b nb r [] a w) (hQ : ∀ a' w', StF ρ vt w0 nt (lkE b r) nb r a' w' → Q .normal a' w') : wpOps P ops Q (List.range ops.size) a w := by
  have main : ∀ (z j : Nat) (a' : Act) (w' : World), j + z = ops.size → StT ρ vt w0 nt b nb r (List.range j) a' w' → wpOps P ops Q (List.range' j z) a' w' := by
    intro z
    induction z with
    | zero =>
      intro j a' w' hj hS
      simp only [List.range'_zero, wpOps]
      exact hQ _ _ (hS.done (fun p hp => by have := hg.idx p hp; simp; omega))
    | succ z ih =>
      intro j a' w' hj hS
      rw [List.range'_succ, wpOps_cons]
      refine step_any (T := List.range j) hg (by omega) (fun i hi k hk => ?_) (by simp) (fun k hk => ?_) hS (fun a'' w'' hS' => ?_)
      · have h1 := List.mem_range.1 hi
        have := hdown i (by omega) k hk
        exact List.mem_range.2 (by omega)
      · exact List.mem_range.2 (hdown j (by omega) k hk)
      · rw [← List.range_succ] at hS'
        exact ih (j + 1) a'' w'' (by omega) hS'
  have := main ops.size 0 a w (by simp) (by simpa using h)
  rwa [← List.range_eq_range'] at this
end
end Go.Proofs.YthebfmlfgfmlnaaGreatDoor
