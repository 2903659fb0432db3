/- Parse of the reference. -/
import Derived.Test.YtldnimohnbjfaaaP13
namespace Go.Proofs.Ytldnimohnbjfaaa
set_option linter.unusedSimpArgs false
set_option linter.unusedVariables false
set_option maxRecDepth 100000
open Go.RowKit
section
variable {Q : Exit → Act → World → Prop} {o : Oper} {a : Act} {w : World} {x y : Operand} {s : ByteArray} {i : Nat}
theorem arm_lenStr (ho : o.op = .call { callee := .builtin .len, args := #[x], argTypes := #[9] }) (hx : Is a w x (.val (.string s))) : Arm Try.prog Q o a w (.val (.int .i64 (s.size : Int))) := by
  have hx' : a.eval x = .string s := hx
  refine arm_run (.int .i64 (s.size : Int)) ?_ rfl
  simp [execOp, ho, resolve, invoke, builtin, hx', Result.andThen]
  go_simp
theorem arm_slTo (ho : o.op = .slice 9 x none (some y) none) (hx : Is a w x (.val (.string s))) (hy : Is a w y (.val (.int .i64 (i : Int)))) (hi : i ≤ s.size) (hs : s.size ≤ 4294967280) {r : ByteArray} (hr : r = s.extract 0 i) : Arm Try.prog Q o a w (.val (.string r)) := by
  subst hr
  have hx' : a.eval x = .string s := hx
  have hy' : a.eval y = .int .i64 (i : Int) := hy
  refine arm_run (.string (s.extract 0 i)) ?_ rfl
  simp [execOp, ho, hx', hy', Result.andThen]
  go_simp
theorem arm_slFrom (ho : o.op = .slice 9 x (some y) none none) (hx : Is a w x (.val (.string s))) (hy : Is a w y (.val (.int .i64 (i : Int)))) (hi : i ≤ s.size) (hs : s.size ≤ 4294967280) {r : ByteArray} (hr : r = s.extract i s.size) : Arm Try.prog Q o a w (.val (.string r)) := by
  subst hr
  have hx' : a.eval x = .string s := hx
  have hy' : a.eval y = .int .i64 (i : Int) := hy
  refine arm_run (.string (s.extract i s.size)) ?_ rfl
  simp [execOp, ho, hx', hy', Result.andThen]
  go_simp
end
theorem run_ltI (i n : Nat) (t : TypeId) (w : World) : (binOp BinOp.lss t (.int .i64 (i : Int)) (.int .i64 (n : Int))).run Try.prog w = .ok (.bool (decide ((i : Int) < (n : Int)))) w := rfl
theorem run_add1 (i : Nat) (h : i ≤ 4294967280) (w : World) : (binOp BinOp.add 3 (.int .i64 (i : Int)) (.int .i64 1)).run Try.prog w = .ok (.int .i64 ((i + 1 : Nat) : Int)) w := by
  have e : (binOp BinOp.add 3 (.int .i64 (i : Int)) (.int .i64 1)).run Try.prog w = .ok (.int .i64 (IntKind.i64.wrap ((i : Int) + 1))) w := rfl
  rw [e]
  congr 2
  simp only [IntKind.wrap_i64]
  omega
/-- Where the slash lies. -/
structure IdxIs (t : ByteArray) (F : Bool) (i : Nat) : Prop where
  le : i ≤ t.size
  before : ∀ j, j < i → by' t j ≠ 47
  hit : F = true → i < t.size ∧ by' t i = 47
  miss : F = false → i = t.size
theorem pieces_idx {s t a b : ByteArray} {B F : Bool} (h : Pieces s t B F a b) : ∃ i, IdxIs t F i ∧ a = t.extract 0 i ∧ (F = true → b = t.extract (i + 1) t.size) := by
  cases F with
  | true =>
    obtain ⟨i, h1, h2, h3⟩ := h.hit rfl
    exact ⟨i, ⟨by have := h1.1; omega, h1.2.2, fun _ => ⟨h1.1, h1.2.1⟩, fun h => by cases h⟩, h2, fun _ => h3⟩
  | false =>
    obtain ⟨h1, h2, h3⟩ := h.miss rfl
    exact ⟨t.size, ⟨Nat.le_refl _, fun j hj => h1 j hj, fun h => (by cases h), fun _ => rfl⟩, by rw [h2]; simp, fun h => (by cases h)⟩
def rP1tT0 (t : ByteArray) (a : ByteArray) (M : Nat) (c : Int) (i : Nat) (base : Nat) : List (Nat × Tmp × Sp) :=
   [(0, 33, .val (Value.string t)),
    (1, 34, .val (Value.int IntKind.i64 (i : Int))),
    (2, 35, .val (Value.string a)),
    (3, 36, .pair (.nat (M)) (.val (Value.int IntKind.i64 c))),
    (4, 32, .pair (.nat (M)) (.val (Value.int IntKind.i64 c))),
    (5, 37, .nat (M)),
    (6, 38, .val (Value.int IntKind.i64 c)),
    (7, 6, .var base)]
def rP1tT1 (c : Int) : List (Nat × Tmp × Sp) :=
   [(0, 39, .val (Value.int IntKind.i64 c)),
    (1, 40, .val (Value.bool true))]
def rP1tT2 (c : Int) : List (Nat × Tmp × Sp) :=
   [(0, 41, .fq Fq.zero),
    (1, 42, .val (Value.int IntKind.i64 c))]
set_option maxHeartbeats 4000000 in
theorem rP_num_true (s t a b : ByteArray) (B : Bool) (M : Nat) (w : World) (HP : Pieces s t B true a b) (hs : s.size ≤ 4294967280) (c : Int) (ha : ParseIs a M c) (h0 : c ≠ 0) :
    Calls Try.prog 15 #[.string s] w fun e w' => RetQE w .zero c e w' := by
  have hts : t.size ≤ 4294967280 := Nat.le_trans (pieces_size HP) hs
  obtain ⟨i, HI0, HA0, HB0⟩ := pieces_idx HP
  have HI := Lib.hid HI0
  have HA := Lib.hid HA0
  have HB := Lib.hid (HB0 rfl)
  have LT : Hid (true = decide ((i : Int) < (t.size : Int))) := Lib.hid (by symm; apply decide_eq_true; have := (HI0.hit rfl).1; omega)
  have HR := Lib.hid HP.rest
  have HS := Lib.hid HP.sign
  clear HI0 HA0 HB0 HP
  have HC : Hid (true = (c != 0)) := Lib.hid (by simpa using h0)
  clear h0
  obtain ⟨m0, k0⟩ := resF (w := w)
  go_enter Try.func15, Try.ntmps15
  go_upto_region 0 with (fail)
  go_cut [2, 3] (fun s_2 s_3 wx => s_2 = Value.pointer (some ⟨w.heap.size, 0, none⟩) ∧ s_3 = Value.int IntKind.i64 0 ∧ VarFB wx w.heap.size false none 0 0 none 0 0 ∧ Below w.heap.size w wx)
  case first =>
    go_wp2_with fail
    go_meet
    case rel => exact ⟨rfl, rfl, k0, m0⟩
  case rest =>
  clear m0 k0
  obtain ⟨rfl, rfl, V0, hb1⟩ := hcut
  go_upto_region 1 with (fail)
  go_cut [4] (fun s_4 wx => s_4 = .bool B ∧ VarFB wx w.heap.size false none 0 0 none 0 0 ∧ Below w.heap.size w wx)
  case first =>
    by_cases hp : 0 < s.size
    · have hi : (0 : Int) < (s.size : Int) := by omega
      by_cases hz : by' s 0 = 45
      · have hz' : (((s[0]'hp).toNat : Nat) : Int) = 45 := by rw [by_eq, hz]; rfl
        obtain rfl : B = true := by rw [← HS.out]; exact decide_eq_true ⟨hp, hz⟩
        clear hz
        go_wp2_with fail
        go_meet
        case rel => exact ⟨rfl, V0, hb1⟩
      · have hz' : ¬ (((s[0]'hp).toNat : Nat) : Int) = 45 := by rw [by_eq]; omega
        obtain rfl : B = false := by rw [← HS.out]; exact decide_eq_false (fun h => hz h.2)
        have hz2 : ((((s[0]'hp).toNat : Nat) : Int) == 45) = false := by simpa using hz'
        clear hz
        go_wp2_with fail
        go_meet
        case rel => exact ⟨by first | rfl | rw [hz2], V0, hb1⟩
    · have hi : ¬ (0 : Int) < (s.size : Int) := by omega
      obtain rfl : B = false := by rw [← HS.out]; exact decide_eq_false (fun h => hp h.1)
      go_wp2_with fail
      go_meet
      case rel => exact ⟨rfl, V0, hb1⟩
  case rest =>
  clear V0 hb1
  obtain ⟨rfl, V0, hb1⟩ := hcut
  have hK := ‹∀ (a : Act) (w : World), Code.wp Try.prog _ _ a w → _›
  refine hK _ _ ?_
  clear hK
  refine wp_seq_k (fun K hK => ?_)
  go_cut [0] (fun s_0 wx => s_0 = .string t ∧ VarFB wx w.heap.size false none 0 0 none 0 0 ∧ Below w.heap.size w wx)
  case first =>
    cases B
    · obtain rfl : t = s := HR.out
      go_wp2_with fail
      go_meet
      case rel => exact ⟨rfl, V0, hb1⟩
    · have hp : (1 : Int) ≤ (s.size : Int) := by have := (of_decide_eq_true HS.out).1; omega
      have ht : t = s.extract 1 s.size := HR.out
      have HT := Lib.hid ht
      clear ht
      go_wp2_with fail
      go_meet
      case rel => exact ⟨by rw [HT.out], V0, hb1⟩
  case rest =>
  clear V0 hb1
  obtain ⟨rfl, V0, hb1⟩ := hcut
  go_upto_block 0 with (fail)
  go_cut [5] (fun s_5 wx => s_5 = .int .i64 (i : Int) ∧ VarFB wx w.heap.size false none 0 0 none 0 0 ∧ Below w.heap.size w wx)
  case first =>
    go_wp2_with fail
    go_loopw [5] (fun s5 wr => ∃ k : Nat, k ≤ i ∧ s5 = .int .i64 (k : Int) ∧ wr = wc) (fun s5 _ => i - (intOf s5).toNat)
    case atStart => exact ⟨0, Nat.zero_le _, rfl, rfl⟩
    case round =>
      obtain ⟨k, hk, rfl, rfl⟩ := hrel
      by_cases hlt : k < i
      · have hk2 : k < t.size := Nat.lt_of_lt_of_le hlt HI.out.le
        have hk3 : (k : Int) < (t.size : Int) := by omega
        have hz' : ¬ (((t[k]'hk2).toNat : Nat) : Int) = 47 := by rw [by_eq]; have := HI.out.before k hlt; omega
        go_wp2_with fail
        go_roundw
        case rel => exact ⟨k + 1, by omega, by go_num, trivial⟩
        case measure => simp [intOf] <;> omega
      · obtain rfl : k = i := by omega
        have hk2 : k < t.size := (HI.out.hit rfl).1
        have hk3 : (k : Int) < (t.size : Int) := by omega
        have hz' : (((t[k]'hk2).toNat : Nat) : Int) = 47 := by rw [by_eq, (HI.out.hit rfl).2]; rfl
        go_wp2_with fail
        go_meet
        case rel => exact ⟨rfl, V0, hb1⟩
  case rest =>
  clear V0 hb1
  obtain ⟨rfl, V0, hb1⟩ := hcut
  go_upto_region 7 with (fail)
  go_cut [6, 7] (fun s_6 s_7 wx => ∃ g6, s_6 = Value.pointer (some ⟨g6, 0, none⟩) ∧ s_7 = Value.int IntKind.i64 c ∧ w.heap.size + 1 ≤ g6 ∧ VarI wx g6 M ∧ VarFB wx w.heap.size false none 0 0 none 0 0 ∧ Below w.heap.size w wx)
  case first =>
    obtain ⟨base, hbase0⟩ : ∃ b : Nat, Hid (b = wc.heap.size) := ⟨_, Lib.hid rfl⟩
    have hbase : base ≤ wc.heap.size := by rw [hbase0.out]; exact Nat.le_refl _
    have hbw : w.heap.size + 1 ≤ base := by have := hb1.size; have h1 := V0.lt; rw [hbase0.out]; omega
    have l_V0 : w.heap.size < base := by rw [hbase0.out]; exact V0.lt
    refine wp_tabGF Try.f15 7 (rP1tT0 t a M c i base) [6] (fun i => i == 7) 7 2 (by kernel_rfl) (by kernel_rfl) (by kernel_rfl) (by kernel_rfl) (by kernel_rfl) ⟨fun h => (by cases h), ⟨fun h => (by cases h), ⟨fun h => (by cases h), ⟨fun h => (by cases h), ⟨fun h => (by cases h), ⟨fun h => (by cases h), ⟨fun h => (by cases h), ⟨fun _ w v h => Sp.var_lt h, trivial⟩⟩⟩⟩⟩⟩⟩⟩ ?_ ?_
    · refine ⟨fun _ _ F => gR rfl rfl (arm_move (.inl rfl) (F.k 0 (Value.string t))).b, ?_⟩
      refine ⟨fun _ _ F => gR rfl rfl (arm_move (.inl rfl) (F.k 5 (Value.int IntKind.i64 (i : Int)))).b, ?_⟩
      refine ⟨fun _ _ F => gR rfl rfl (arm_slTo rfl (F.f 0 rfl) (F.f 1 rfl) HI.out.le hts HA.out).b, ?_⟩
      refine ⟨fun _ _ F => gR rfl rfl (arm_C1 rfl (enters Try.func59 rfl rfl) (F.f 2 rfl) (fun va w h1 => by have e_va : va = _ := h1; subst e_va; exact c_ref_Parse a w _ _ ha) (fun _ _ h => ofP h)).b, ?_⟩
      refine ⟨fun _ _ F => gR rfl rfl (arm_move (.inl rfl) (F.f 3 rfl)).b, ?_⟩
      refine ⟨fun _ _ F => gR rfl rfl (arm_pair0 rfl (F.f 4 rfl)).b, ?_⟩
      refine ⟨fun _ _ F => gR rfl rfl (arm_pair1 rfl (F.f 4 rfl)).b, ?_⟩
      refine ⟨fun _ _ F => gR rfl rfl (arm_alloc rfl (Nat.le_trans hbase F.below.size)), ?_⟩
      exact trivial
    intro E' hE gp wp bp G Gs
    simp only [subs, List.map_cons, List.map_nil, List.nil_append, List.cons_append, List.mem_cons, List.not_mem_nil, or_false, List.append_nil] at hE
    rcases hE with rfl | rfl
    · obtain ⟨g6, e_7, lg_7, hv_7⟩ := G 7 6 _ (by simp) rfl
      have n_5 : (Sp.nat (M)).p wp (gp 5) := G 5 37 _ (by simp) rfl
      have e_6 : gp 6 = Value.int IntKind.i64 c := G 6 38 _ (by simp) rfl
      clear G Gs
      simp only [rP1tT0]
      simp only [qA, setD, qZ, qS, e_7, e_6]
      have T0 := hv_7
      refine wpAny_storeN (j := 8) (by kernel_rfl) rfl rfl rfl rfl rfl n_5 T0.any ?_
      intro w0 u0 v0
      have O0 := T0.own
      refine wpAny_takeD (i := 9) (d := some 7) (v := Value.int IntKind.i64 c) rfl rfl (by kernel_rfl) (by kernel_rfl) (by kernel_rfl) (fun _ _ _ h => h) (Or.inl ⟨by rfl, fun w => by rfl⟩) ?_
      try simp only [qP, qZ, qS]
      refine wpAny_done (by kernel_rfl) ?_ _
      go_wp2_with fail
      go_meet
      case rel => exact ⟨g6, rfl, rfl, (by omega), v0, ((V0.mono bp V0.lt).upd O0 u0 (by omega)), (Upd.below (hb1.trans (bp.mono hb1.size)) u0 (by omega))⟩
    · obtain ⟨g6, e_7, lg_7, hv_7⟩ := G 7 6 _ (by simp) rfl
      obtain ⟨x_4_0, x_4_1, e_4, n_4_0, rfl⟩ := G 4 32 _ (by simp) rfl
      have n_5 : (Sp.nat (M)).p wp (gp 5) := G 5 37 _ (by simp) rfl
      clear G Gs
      simp only [rP1tT0]
      simp only [qA, setD, qZ, qS, e_7, e_4]
      refine wpAny_takeD (i := 6) (d := some 38) (v := Value.int IntKind.i64 c) rfl rfl (by kernel_rfl) (by kernel_rfl) (by kernel_rfl) (fun _ _ _ h => h) (Or.inl ⟨by rfl, fun w => by rfl⟩) ?_
      try simp only [qP, qZ, qS]
      have T0 := hv_7
      refine wpAny_storeN (j := 8) (by kernel_rfl) rfl rfl rfl rfl rfl n_5 T0.any ?_
      intro w0 u0 v0
      have O0 := T0.own
      refine wpAny_takeD (i := 9) (d := some 7) (v := Value.int IntKind.i64 c) rfl rfl (by kernel_rfl) (by kernel_rfl) (by kernel_rfl) (fun _ _ _ h => h) (Or.inl ⟨by rfl, fun w => by rfl⟩) ?_
      try simp only [qP, qZ, qS]
      refine wpAny_done (by kernel_rfl) ?_ _
      go_wp2_with fail
      go_meet
      case rel => exact ⟨g6, rfl, rfl, (by omega), v0, ((V0.mono bp V0.lt).upd O0 u0 (by omega)), (Upd.below (hb1.trans (bp.mono hb1.size)) u0 (by omega))⟩
  case rest =>
  clear V0 hb1
  obtain ⟨g6, rfl, rfl, lg6, V6, V0, hb1⟩ := hcut
  go_upto_region 8 with (fail)
  go_cut [40] (fun s_40 wx => s_40 = Value.bool true ∧ VarFB wx w.heap.size false none 0 0 none 0 0 ∧ VarI wx g6 M ∧ Below w.heap.size w wx)
  case first =>
    refine tF Try.f15 8 (rP1tT1 c) [] 2 0 ?_ ?_
    · refine ⟨fun _ _ F => gR rfl rfl (arm_move (.inl rfl) (F.k 7 (Value.int IntKind.i64 c))).b, ?_⟩
      refine ⟨fun _ _ F => gR rfl rfl (arm_bin rfl (F.f 0 rfl) Is.const (fun _ => rfl) (fun w => by rw [HC.out]; rfl)).b, ?_⟩
      exact trivial
    intro E' hE gp wp bp G Gs
    obtain rfl : E' = [] := by simpa [subs] using hE
    have e_1 : gp 1 = Value.bool true := G 1 40 _ (by simp) rfl
    clear G Gs hE
    simp only [rP1tT1]
    simp only [qA, setD, qZ, qS, e_1]
    refine wpAny_done (by kernel_rfl) ?_ _
    go_wp2_with fail
    go_meet
    case rel => exact ⟨rfl, (V0.mono bp V0.lt), (V6.mono bp), (hb1.trans (bp.mono hb1.size))⟩
  case rest =>
  clear V0 V6 hb1
  obtain ⟨rfl, V0, V6, hb1⟩ := hcut
  go_upto_region 9 with (fail)
  go_cut [3] (fun s_3 wx => s_3 = Value.int IntKind.i64 c ∧ VarQ wx w.heap.size Fq.zero ∧ VarI wx g6 M ∧ Below w.heap.size w wx)
  case first =>
    refine tF Try.f15 9 (rP1tT2 c) [1] 3 2 ?_ ?_
    · refine ⟨fun _ _ F => gR rfl rfl (arm_build0F rfl).b, ?_⟩
      refine ⟨fun _ _ F => gR rfl rfl (arm_move (.inl rfl) (F.k 7 (Value.int IntKind.i64 c))).b, ?_⟩
      exact trivial
    intro E' hE gp wp bp G Gs
    simp only [subs, List.map_cons, List.map_nil, List.nil_append, List.cons_append, List.mem_cons, List.not_mem_nil, or_false, List.append_nil] at hE
    rcases hE with rfl | rfl
    · have n_0 : (Sp.fq Fq.zero).p wp (gp 0) := G 0 41 _ (by simp) rfl
      have e_1 : gp 1 = Value.int IntKind.i64 c := G 1 42 _ (by simp) rfl
      clear G Gs
      simp only [rP1tT2]
      simp only [qA, setD, qZ, qS, e_1]
      have T0 := (V0.mono bp V0.lt)
      refine wpAny_storeFr (j := 2) (by kernel_rfl) rfl rfl rfl rfl rfl n_0 T0.any ?_
      intro w0 u0 v0
      have O0 := T0.own
      refine wpAny_takeD (i := 3) (d := some 3) (v := Value.int IntKind.i64 c) rfl rfl (by kernel_rfl) (by kernel_rfl) (by kernel_rfl) (fun _ _ _ h => h) (Or.inl ⟨by rfl, fun w => by rfl⟩) ?_
      try simp only [qP, qZ, qS]
      refine wpAny_done (by kernel_rfl) ?_ _
      go_wp2_with fail
      go_meet
      case rel => exact ⟨rfl, v0, ((V6.mono bp).upd O0 u0 (by omega)), (Upd.below (hb1.trans (bp.mono hb1.size)) u0 (by omega))⟩
    · have n_0 : (Sp.fq Fq.zero).p wp (gp 0) := G 0 41 _ (by simp) rfl
      clear G Gs
      simp only [rP1tT2]
      simp only [qA, setD, qZ, qS]
      refine wpAny_takeD (i := 1) (d := some 42) (v := Value.int IntKind.i64 c) rfl rfl (by kernel_rfl) (by kernel_rfl) (by kernel_rfl) (fun _ _ _ h => h) (Or.inl ⟨by rfl, fun w => by rfl⟩) ?_
      try simp only [qP, qZ, qS]
      have T0 := (V0.mono bp V0.lt)
      refine wpAny_storeFr (j := 2) (by kernel_rfl) rfl rfl rfl rfl rfl n_0 T0.any ?_
      intro w0 u0 v0
      have O0 := T0.own
      refine wpAny_takeD (i := 3) (d := some 3) (v := Value.int IntKind.i64 c) rfl rfl (by kernel_rfl) (by kernel_rfl) (by kernel_rfl) (fun _ _ _ h => h) (Or.inl ⟨by rfl, fun w => by rfl⟩) ?_
      try simp only [qP, qZ, qS]
      refine wpAny_done (by kernel_rfl) ?_ _
      go_wp2_with fail
      go_meet
      case rel => exact ⟨rfl, v0, ((V6.mono bp).upd O0 u0 (by omega)), (Upd.below (hb1.trans (bp.mono hb1.size)) u0 (by omega))⟩
  case rest =>
  clear V0 V6 hb1
  obtain ⟨rfl, V0, V6, hb1⟩ := hcut
  obtain ⟨r1, r2, r3, r4, rV, rn, rm⟩ := V0
  have c0 := rV.cell0
  have c1 := rV.cell1
  have c2 := rV.cell2
  go_wp2
  exact bodyPost_ret (res_FE rfl rfl rfl rV) rfl ⟨_, rfl, ⟨r1, r2, r3, r4, rfl, rn, rm⟩, hb1⟩
def rP1fT0 (t : ByteArray) (a : ByteArray) (M : Nat) (c : Int) (i : Nat) (base : Nat) : List (Nat × Tmp × Sp) :=
   [(0, 33, .val (Value.string t)),
    (1, 34, .val (Value.int IntKind.i64 (i : Int))),
    (2, 35, .val (Value.string a)),
    (3, 36, .pair (.nat (M)) (.val (Value.int IntKind.i64 c))),
    (4, 32, .pair (.nat (M)) (.val (Value.int IntKind.i64 c))),
    (5, 37, .nat (M)),
    (6, 38, .val (Value.int IntKind.i64 c)),
    (7, 6, .var base)]
def rP1fT1 (c : Int) : List (Nat × Tmp × Sp) :=
   [(0, 39, .val (Value.int IntKind.i64 c)),
    (1, 40, .val (Value.bool true))]
def rP1fT2 (c : Int) : List (Nat × Tmp × Sp) :=
   [(0, 41, .fq Fq.zero),
    (1, 42, .val (Value.int IntKind.i64 c))]
set_option maxHeartbeats 4000000 in
theorem rP_num_false (s t a b : ByteArray) (B : Bool) (M : Nat) (w : World) (HP : Pieces s t B false a b) (hs : s.size ≤ 4294967280) (c : Int) (ha : ParseIs a M c) (h0 : c ≠ 0) :
    Calls Try.prog 15 #[.string s] w fun e w' => RetQE w .zero c e w' := by
  have hts : t.size ≤ 4294967280 := Nat.le_trans (pieces_size HP) hs
  obtain ⟨i, HI0, HA0, HB0⟩ := pieces_idx HP
  have HI := Lib.hid HI0
  have HA := Lib.hid HA0
  have LT : Hid (false = decide ((i : Int) < (t.size : Int))) := Lib.hid (by symm; apply decide_eq_false; have := HI0.miss rfl; omega)
  have HR := Lib.hid HP.rest
  have HS := Lib.hid HP.sign
  clear HI0 HA0 HB0 HP
  have HC : Hid (true = (c != 0)) := Lib.hid (by simpa using h0)
  clear h0
  obtain ⟨m0, k0⟩ := resF (w := w)
  go_enter Try.func15, Try.ntmps15
  go_upto_region 0 with (fail)
  go_cut [2, 3] (fun s_2 s_3 wx => s_2 = Value.pointer (some ⟨w.heap.size, 0, none⟩) ∧ s_3 = Value.int IntKind.i64 0 ∧ VarFB wx w.heap.size false none 0 0 none 0 0 ∧ Below w.heap.size w wx)
  case first =>
    go_wp2_with fail
    go_meet
    case rel => exact ⟨rfl, rfl, k0, m0⟩
  case rest =>
  clear m0 k0
  obtain ⟨rfl, rfl, V0, hb1⟩ := hcut
  go_upto_region 1 with (fail)
  go_cut [4] (fun s_4 wx => s_4 = .bool B ∧ VarFB wx w.heap.size false none 0 0 none 0 0 ∧ Below w.heap.size w wx)
  case first =>
    by_cases hp : 0 < s.size
    · have hi : (0 : Int) < (s.size : Int) := by omega
      by_cases hz : by' s 0 = 45
      · have hz' : (((s[0]'hp).toNat : Nat) : Int) = 45 := by rw [by_eq, hz]; rfl
        obtain rfl : B = true := by rw [← HS.out]; exact decide_eq_true ⟨hp, hz⟩
        clear hz
        go_wp2_with fail
        go_meet
        case rel => exact ⟨rfl, V0, hb1⟩
      · have hz' : ¬ (((s[0]'hp).toNat : Nat) : Int) = 45 := by rw [by_eq]; omega
        obtain rfl : B = false := by rw [← HS.out]; exact decide_eq_false (fun h => hz h.2)
        have hz2 : ((((s[0]'hp).toNat : Nat) : Int) == 45) = false := by simpa using hz'
        clear hz
        go_wp2_with fail
        go_meet
        case rel => exact ⟨by first | rfl | rw [hz2], V0, hb1⟩
    · have hi : ¬ (0 : Int) < (s.size : Int) := by omega
      obtain rfl : B = false := by rw [← HS.out]; exact decide_eq_false (fun h => hp h.1)
      go_wp2_with fail
      go_meet
      case rel => exact ⟨rfl, V0, hb1⟩
  case rest =>
  clear V0 hb1
  obtain ⟨rfl, V0, hb1⟩ := hcut
  have hK := ‹∀ (a : Act) (w : World), Code.wp Try.prog _ _ a w → _›
  refine hK _ _ ?_
  clear hK
  refine wp_seq_k (fun K hK => ?_)
  go_cut [0] (fun s_0 wx => s_0 = .string t ∧ VarFB wx w.heap.size false none 0 0 none 0 0 ∧ Below w.heap.size w wx)
  case first =>
    cases B
    · obtain rfl : t = s := HR.out
      go_wp2_with fail
      go_meet
      case rel => exact ⟨rfl, V0, hb1⟩
    · have hp : (1 : Int) ≤ (s.size : Int) := by have := (of_decide_eq_true HS.out).1; omega
      have ht : t = s.extract 1 s.size := HR.out
      have HT := Lib.hid ht
      clear ht
      go_wp2_with fail
      go_meet
      case rel => exact ⟨by rw [HT.out], V0, hb1⟩
  case rest =>
  clear V0 hb1
  obtain ⟨rfl, V0, hb1⟩ := hcut
  go_upto_block 0 with (fail)
  go_cut [5] (fun s_5 wx => s_5 = .int .i64 (i : Int) ∧ VarFB wx w.heap.size false none 0 0 none 0 0 ∧ Below w.heap.size w wx)
  case first =>
    go_wp2_with fail
    go_loopw [5] (fun s5 wr => ∃ k : Nat, k ≤ i ∧ s5 = .int .i64 (k : Int) ∧ wr = wc) (fun s5 _ => i - (intOf s5).toNat)
    case atStart => exact ⟨0, Nat.zero_le _, rfl, rfl⟩
    case round =>
      obtain ⟨k, hk, rfl, rfl⟩ := hrel
      by_cases hlt : k < i
      · have hk2 : k < t.size := Nat.lt_of_lt_of_le hlt HI.out.le
        have hk3 : (k : Int) < (t.size : Int) := by omega
        have hz' : ¬ (((t[k]'hk2).toNat : Nat) : Int) = 47 := by rw [by_eq]; have := HI.out.before k hlt; omega
        go_wp2_with fail
        go_roundw
        case rel => exact ⟨k + 1, by omega, by go_num, trivial⟩
        case measure => simp [intOf] <;> omega
      · obtain rfl : k = i := by omega
        have hk3 : ¬ (k : Int) < (t.size : Int) := by have := HI.out.miss rfl; omega
        go_wp2_with fail
        go_meet
        case rel => exact ⟨rfl, V0, hb1⟩
  case rest =>
  clear V0 hb1
  obtain ⟨rfl, V0, hb1⟩ := hcut
  go_upto_region 7 with (fail)
  go_cut [6, 7] (fun s_6 s_7 wx => ∃ g6, s_6 = Value.pointer (some ⟨g6, 0, none⟩) ∧ s_7 = Value.int IntKind.i64 c ∧ w.heap.size + 1 ≤ g6 ∧ VarI wx g6 M ∧ VarFB wx w.heap.size false none 0 0 none 0 0 ∧ Below w.heap.size w wx)
  case first =>
    obtain ⟨base, hbase0⟩ : ∃ b : Nat, Hid (b = wc.heap.size) := ⟨_, Lib.hid rfl⟩
    have hbase : base ≤ wc.heap.size := by rw [hbase0.out]; exact Nat.le_refl _
    have hbw : w.heap.size + 1 ≤ base := by have := hb1.size; have h1 := V0.lt; rw [hbase0.out]; omega
    have l_V0 : w.heap.size < base := by rw [hbase0.out]; exact V0.lt
    refine wp_tabGF Try.f15 7 (rP1fT0 t a M c i base) [6] (fun i => i == 7) 7 2 (by kernel_rfl) (by kernel_rfl) (by kernel_rfl) (by kernel_rfl) (by kernel_rfl) ⟨fun h => (by cases h), ⟨fun h => (by cases h), ⟨fun h => (by cases h), ⟨fun h => (by cases h), ⟨fun h => (by cases h), ⟨fun h => (by cases h), ⟨fun h => (by cases h), ⟨fun _ w v h => Sp.var_lt h, trivial⟩⟩⟩⟩⟩⟩⟩⟩ ?_ ?_
    · refine ⟨fun _ _ F => gR rfl rfl (arm_move (.inl rfl) (F.k 0 (Value.string t))).b, ?_⟩
      refine ⟨fun _ _ F => gR rfl rfl (arm_move (.inl rfl) (F.k 5 (Value.int IntKind.i64 (i : Int)))).b, ?_⟩
      refine ⟨fun _ _ F => gR rfl rfl (arm_slTo rfl (F.f 0 rfl) (F.f 1 rfl) HI.out.le hts HA.out).b, ?_⟩
      refine ⟨fun _ _ F => gR rfl rfl (arm_C1 rfl (enters Try.func59 rfl rfl) (F.f 2 rfl) (fun va w h1 => by have e_va : va = _ := h1; subst e_va; exact c_ref_Parse a w _ _ ha) (fun _ _ h => ofP h)).b, ?_⟩
      refine ⟨fun _ _ F => gR rfl rfl (arm_move (.inl rfl) (F.f 3 rfl)).b, ?_⟩
      refine ⟨fun _ _ F => gR rfl rfl (arm_pair0 rfl (F.f 4 rfl)).b, ?_⟩
      refine ⟨fun _ _ F => gR rfl rfl (arm_pair1 rfl (F.f 4 rfl)).b, ?_⟩
      refine ⟨fun _ _ F => gR rfl rfl (arm_alloc rfl (Nat.le_trans hbase F.below.size)), ?_⟩
      exact trivial
    intro E' hE gp wp bp G Gs
    simp only [subs, List.map_cons, List.map_nil, List.nil_append, List.cons_append, List.mem_cons, List.not_mem_nil, or_false, List.append_nil] at hE
    rcases hE with rfl | rfl
    · obtain ⟨g6, e_7, lg_7, hv_7⟩ := G 7 6 _ (by simp) rfl
      have n_5 : (Sp.nat (M)).p wp (gp 5) := G 5 37 _ (by simp) rfl
      have e_6 : gp 6 = Value.int IntKind.i64 c := G 6 38 _ (by simp) rfl
      clear G Gs
      simp only [rP1fT0]
      simp only [qA, setD, qZ, qS, e_7, e_6]
      have T0 := hv_7
      refine wpAny_storeN (j := 8) (by kernel_rfl) rfl rfl rfl rfl rfl n_5 T0.any ?_
      intro w0 u0 v0
      have O0 := T0.own
      refine wpAny_takeD (i := 9) (d := some 7) (v := Value.int IntKind.i64 c) rfl rfl (by kernel_rfl) (by kernel_rfl) (by kernel_rfl) (fun _ _ _ h => h) (Or.inl ⟨by rfl, fun w => by rfl⟩) ?_
      try simp only [qP, qZ, qS]
      refine wpAny_done (by kernel_rfl) ?_ _
      go_wp2_with fail
      go_meet
      case rel => exact ⟨g6, rfl, rfl, (by omega), v0, ((V0.mono bp V0.lt).upd O0 u0 (by omega)), (Upd.below (hb1.trans (bp.mono hb1.size)) u0 (by omega))⟩
    · obtain ⟨g6, e_7, lg_7, hv_7⟩ := G 7 6 _ (by simp) rfl
      obtain ⟨x_4_0, x_4_1, e_4, n_4_0, rfl⟩ := G 4 32 _ (by simp) rfl
      have n_5 : (Sp.nat (M)).p wp (gp 5) := G 5 37 _ (by simp) rfl
      clear G Gs
      simp only [rP1fT0]
      simp only [qA, setD, qZ, qS, e_7, e_4]
      refine wpAny_takeD (i := 6) (d := some 38) (v := Value.int IntKind.i64 c) rfl rfl (by kernel_rfl) (by kernel_rfl) (by kernel_rfl) (fun _ _ _ h => h) (Or.inl ⟨by rfl, fun w => by rfl⟩) ?_
      try simp only [qP, qZ, qS]
      have T0 := hv_7
      refine wpAny_storeN (j := 8) (by kernel_rfl) rfl rfl rfl rfl rfl n_5 T0.any ?_
      intro w0 u0 v0
      have O0 := T0.own
      refine wpAny_takeD (i := 9) (d := some 7) (v := Value.int IntKind.i64 c) rfl rfl (by kernel_rfl) (by kernel_rfl) (by kernel_rfl) (fun _ _ _ h => h) (Or.inl ⟨by rfl, fun w => by rfl⟩) ?_
      try simp only [qP, qZ, qS]
      refine wpAny_done (by kernel_rfl) ?_ _
      go_wp2_with fail
      go_meet
      case rel => exact ⟨g6, rfl, rfl, (by omega), v0, ((V0.mono bp V0.lt).upd O0 u0 (by omega)), (Upd.below (hb1.trans (bp.mono hb1.size)) u0 (by omega))⟩
  case rest =>
  clear V0 hb1
  obtain ⟨g6, rfl, rfl, lg6, V6, V0, hb1⟩ := hcut
  go_upto_region 8 with (fail)
  go_cut [40] (fun s_40 wx => s_40 = Value.bool true ∧ VarFB wx w.heap.size false none 0 0 none 0 0 ∧ VarI wx g6 M ∧ Below w.heap.size w wx)
  case first =>
    refine tF Try.f15 8 (rP1fT1 c) [] 2 0 ?_ ?_
    · refine ⟨fun _ _ F => gR rfl rfl (arm_move (.inl rfl) (F.k 7 (Value.int IntKind.i64 c))).b, ?_⟩
      refine ⟨fun _ _ F => gR rfl rfl (arm_bin rfl (F.f 0 rfl) Is.const (fun _ => rfl) (fun w => by rw [HC.out]; rfl)).b, ?_⟩
      exact trivial
    intro E' hE gp wp bp G Gs
    obtain rfl : E' = [] := by simpa [subs] using hE
    have e_1 : gp 1 = Value.bool true := G 1 40 _ (by simp) rfl
    clear G Gs hE
    simp only [rP1fT1]
    simp only [qA, setD, qZ, qS, e_1]
    refine wpAny_done (by kernel_rfl) ?_ _
    go_wp2_with fail
    go_meet
    case rel => exact ⟨rfl, (V0.mono bp V0.lt), (V6.mono bp), (hb1.trans (bp.mono hb1.size))⟩
  case rest =>
  clear V0 V6 hb1
  obtain ⟨rfl, V0, V6, hb1⟩ := hcut
  go_upto_region 9 with (fail)
  go_cut [3] (fun s_3 wx => s_3 = Value.int IntKind.i64 c ∧ VarQ wx w.heap.size Fq.zero ∧ VarI wx g6 M ∧ Below w.heap.size w wx)
  case first =>
    refine tF Try.f15 9 (rP1fT2 c) [1] 3 2 ?_ ?_
    · refine ⟨fun _ _ F => gR rfl rfl (arm_build0F rfl).b, ?_⟩
      refine ⟨fun _ _ F => gR rfl rfl (arm_move (.inl rfl) (F.k 7 (Value.int IntKind.i64 c))).b, ?_⟩
      exact trivial
    intro E' hE gp wp bp G Gs
    simp only [subs, List.map_cons, List.map_nil, List.nil_append, List.cons_append, List.mem_cons, List.not_mem_nil, or_false, List.append_nil] at hE
    rcases hE with rfl | rfl
    · have n_0 : (Sp.fq Fq.zero).p wp (gp 0) := G 0 41 _ (by simp) rfl
      have e_1 : gp 1 = Value.int IntKind.i64 c := G 1 42 _ (by simp) rfl
      clear G Gs
      simp only [rP1fT2]
      simp only [qA, setD, qZ, qS, e_1]
      have T0 := (V0.mono bp V0.lt)
      refine wpAny_storeFr (j := 2) (by kernel_rfl) rfl rfl rfl rfl rfl n_0 T0.any ?_
      intro w0 u0 v0
      have O0 := T0.own
      refine wpAny_takeD (i := 3) (d := some 3) (v := Value.int IntKind.i64 c) rfl rfl (by kernel_rfl) (by kernel_rfl) (by kernel_rfl) (fun _ _ _ h => h) (Or.inl ⟨by rfl, fun w => by rfl⟩) ?_
      try simp only [qP, qZ, qS]
      refine wpAny_done (by kernel_rfl) ?_ _
      go_wp2_with fail
      go_meet
      case rel => exact ⟨rfl, v0, ((V6.mono bp).upd O0 u0 (by omega)), (Upd.below (hb1.trans (bp.mono hb1.size)) u0 (by omega))⟩
    · have n_0 : (Sp.fq Fq.zero).p wp (gp 0) := G 0 41 _ (by simp) rfl
      clear G Gs
      simp only [rP1fT2]
      simp only [qA, setD, qZ, qS]
      refine wpAny_takeD (i := 1) (d := some 42) (v := Value.int IntKind.i64 c) rfl rfl (by kernel_rfl) (by kernel_rfl) (by kernel_rfl) (fun _ _ _ h => h) (Or.inl ⟨by rfl, fun w => by rfl⟩) ?_
      try simp only [qP, qZ, qS]
      have T0 := (V0.mono bp V0.lt)
      refine wpAny_storeFr (j := 2) (by kernel_rfl) rfl rfl rfl rfl rfl n_0 T0.any ?_
      intro w0 u0 v0
      have O0 := T0.own
      refine wpAny_takeD (i := 3) (d := some 3) (v := Value.int IntKind.i64 c) rfl rfl (by kernel_rfl) (by kernel_rfl) (by kernel_rfl) (fun _ _ _ h => h) (Or.inl ⟨by rfl, fun w => by rfl⟩) ?_
      try simp only [qP, qZ, qS]
      refine wpAny_done (by kernel_rfl) ?_ _
      go_wp2_with fail
      go_meet
      case rel => exact ⟨rfl, v0, ((V6.mono bp).upd O0 u0 (by omega)), (Upd.below (hb1.trans (bp.mono hb1.size)) u0 (by omega))⟩
  case rest =>
  clear V0 V6 hb1
  obtain ⟨rfl, V0, V6, hb1⟩ := hcut
  obtain ⟨r1, r2, r3, r4, rV, rn, rm⟩ := V0
  have c0 := rV.cell0
  have c1 := rV.cell1
  have c2 := rV.cell2
  go_wp2
  exact bodyPost_ret (res_FE rfl rfl rfl rV) rfl ⟨_, rfl, ⟨r1, r2, r3, r4, rfl, rn, rm⟩, hb1⟩
def rP2T0 (t : ByteArray) (a : ByteArray) (M : Nat) (i : Nat) (base : Nat) : List (Nat × Tmp × Sp) :=
   [(0, 33, .val (Value.string t)),
    (1, 34, .val (Value.int IntKind.i64 (i : Int))),
    (2, 35, .val (Value.string a)),
    (3, 36, .pair (.nat (M)) (.val (Value.int IntKind.i64 0))),
    (4, 32, .pair (.nat (M)) (.val (Value.int IntKind.i64 0))),
    (5, 37, .nat (M)),
    (6, 38, .val (Value.int IntKind.i64 0)),
    (7, 6, .var base)]
def rP2T1  : List (Nat × Tmp × Sp) :=
   [(0, 39, .val (Value.int IntKind.i64 0)),
    (1, 40, .val (Value.bool false))]
def rP2T2 (base : Nat) : List (Nat × Tmp × Sp) :=
   [(0, 43, .nat (1)),
    (1, 8, .var base)]
def rP2T3 (t : ByteArray) (i : Nat) : List (Nat × Tmp × Sp) :=
   [(0, 44, .val (Value.int IntKind.i64 (i : Int))),
    (1, 45, .val (Value.string t)),
    (2, 46, .val (Value.int IntKind.i64 (t.size : Int))),
    (3, 47, .val (Value.bool true))]
def rP2T4 (t : ByteArray) (b : ByteArray) (N : Nat) (c : Int) (i : Nat) : List (Nat × Tmp × Sp) :=
   [(0, 49, .val (Value.string t)),
    (1, 50, .val (Value.int IntKind.i64 (i : Int))),
    (2, 51, .val (Value.int IntKind.i64 ((i + 1 : Nat) : Int))),
    (3, 52, .val (Value.string b)),
    (4, 53, .pair (.nat (N)) (.val (Value.int IntKind.i64 c))),
    (5, 48, .pair (.nat (N)) (.val (Value.int IntKind.i64 c))),
    (6, 54, .nat (N)),
    (7, 55, .val (Value.int IntKind.i64 c))]
def rP2T5 (c : Int) : List (Nat × Tmp × Sp) :=
   [(0, 56, .val (Value.int IntKind.i64 c)),
    (1, 57, .val (Value.bool true))]
def rP2T6 (c : Int) : List (Nat × Tmp × Sp) :=
   [(0, 58, .fq Fq.zero),
    (1, 59, .val (Value.int IntKind.i64 c))]
set_option maxHeartbeats 4000000 in
theorem rP_den (s t a b : ByteArray) (B : Bool) (M : Nat) (w : World) (HP : Pieces s t B true a b) (hs : s.size ≤ 4294967280) (N : Nat) (c : Int) (ha : ParseIs a M 0) (hb : ParseIs b N c) (h0 : c ≠ 0) :
    Calls Try.prog 15 #[.string s] w fun e w' => RetQE w .zero c e w' := by
  have hts : t.size ≤ 4294967280 := Nat.le_trans (pieces_size HP) hs
  obtain ⟨i, HI0, HA0, HB0⟩ := pieces_idx HP
  have HI := Lib.hid HI0
  have HA := Lib.hid HA0
  have HB := Lib.hid (HB0 rfl)
  have LT : Hid (true = decide ((i : Int) < (t.size : Int))) := Lib.hid (by symm; apply decide_eq_true; have := (HI0.hit rfl).1; omega)
  have HR := Lib.hid HP.rest
  have HS := Lib.hid HP.sign
  clear HI0 HA0 HB0 HP
  have HC : Hid (true = (c != 0)) := Lib.hid (by simpa using h0)
  clear h0
  obtain ⟨m0, k0⟩ := resF (w := w)
  go_enter Try.func15, Try.ntmps15
  go_upto_region 0 with (fail)
  go_cut [2, 3] (fun s_2 s_3 wx => s_2 = Value.pointer (some ⟨w.heap.size, 0, none⟩) ∧ s_3 = Value.int IntKind.i64 0 ∧ VarFB wx w.heap.size false none 0 0 none 0 0 ∧ Below w.heap.size w wx)
  case first =>
    go_wp2_with fail
    go_meet
    case rel => exact ⟨rfl, rfl, k0, m0⟩
  case rest =>
  clear m0 k0
  obtain ⟨rfl, rfl, V0, hb1⟩ := hcut
  go_upto_region 1 with (fail)
  go_cut [4] (fun s_4 wx => s_4 = .bool B ∧ VarFB wx w.heap.size false none 0 0 none 0 0 ∧ Below w.heap.size w wx)
  case first =>
    by_cases hp : 0 < s.size
    · have hi : (0 : Int) < (s.size : Int) := by omega
      by_cases hz : by' s 0 = 45
      · have hz' : (((s[0]'hp).toNat : Nat) : Int) = 45 := by rw [by_eq, hz]; rfl
        obtain rfl : B = true := by rw [← HS.out]; exact decide_eq_true ⟨hp, hz⟩
        clear hz
        go_wp2_with fail
        go_meet
        case rel => exact ⟨rfl, V0, hb1⟩
      · have hz' : ¬ (((s[0]'hp).toNat : Nat) : Int) = 45 := by rw [by_eq]; omega
        obtain rfl : B = false := by rw [← HS.out]; exact decide_eq_false (fun h => hz h.2)
        have hz2 : ((((s[0]'hp).toNat : Nat) : Int) == 45) = false := by simpa using hz'
        clear hz
        go_wp2_with fail
        go_meet
        case rel => exact ⟨by first | rfl | rw [hz2], V0, hb1⟩
    · have hi : ¬ (0 : Int) < (s.size : Int) := by omega
      obtain rfl : B = false := by rw [← HS.out]; exact decide_eq_false (fun h => hp h.1)
      go_wp2_with fail
      go_meet
      case rel => exact ⟨rfl, V0, hb1⟩
  case rest =>
  clear V0 hb1
  obtain ⟨rfl, V0, hb1⟩ := hcut
  have hK := ‹∀ (a : Act) (w : World), Code.wp Try.prog _ _ a w → _›
  refine hK _ _ ?_
  clear hK
  refine wp_seq_k (fun K hK => ?_)
  go_cut [0] (fun s_0 wx => s_0 = .string t ∧ VarFB wx w.heap.size false none 0 0 none 0 0 ∧ Below w.heap.size w wx)
  case first =>
    cases B
    · obtain rfl : t = s := HR.out
      go_wp2_with fail
      go_meet
      case rel => exact ⟨rfl, V0, hb1⟩
    · have hp : (1 : Int) ≤ (s.size : Int) := by have := (of_decide_eq_true HS.out).1; omega
      have ht : t = s.extract 1 s.size := HR.out
      have HT := Lib.hid ht
      clear ht
      go_wp2_with fail
      go_meet
      case rel => exact ⟨by rw [HT.out], V0, hb1⟩
  case rest =>
  clear V0 hb1
  obtain ⟨rfl, V0, hb1⟩ := hcut
  go_upto_block 0 with (fail)
  go_cut [5] (fun s_5 wx => s_5 = .int .i64 (i : Int) ∧ VarFB wx w.heap.size false none 0 0 none 0 0 ∧ Below w.heap.size w wx)
  case first =>
    go_wp2_with fail
    go_loopw [5] (fun s5 wr => ∃ k : Nat, k ≤ i ∧ s5 = .int .i64 (k : Int) ∧ wr = wc) (fun s5 _ => i - (intOf s5).toNat)
    case atStart => exact ⟨0, Nat.zero_le _, rfl, rfl⟩
    case round =>
      obtain ⟨k, hk, rfl, rfl⟩ := hrel
      by_cases hlt : k < i
      · have hk2 : k < t.size := Nat.lt_of_lt_of_le hlt HI.out.le
        have hk3 : (k : Int) < (t.size : Int) := by omega
        have hz' : ¬ (((t[k]'hk2).toNat : Nat) : Int) = 47 := by rw [by_eq]; have := HI.out.before k hlt; omega
        go_wp2_with fail
        go_roundw
        case rel => exact ⟨k + 1, by omega, by go_num, trivial⟩
        case measure => simp [intOf] <;> omega
      · obtain rfl : k = i := by omega
        have hk2 : k < t.size := (HI.out.hit rfl).1
        have hk3 : (k : Int) < (t.size : Int) := by omega
        have hz' : (((t[k]'hk2).toNat : Nat) : Int) = 47 := by rw [by_eq, (HI.out.hit rfl).2]; rfl
        go_wp2_with fail
        go_meet
        case rel => exact ⟨rfl, V0, hb1⟩
  case rest =>
  clear V0 hb1
  obtain ⟨rfl, V0, hb1⟩ := hcut
  go_upto_region 7 with (fail)
  go_cut [6, 7] (fun s_6 s_7 wx => ∃ g6, s_6 = Value.pointer (some ⟨g6, 0, none⟩) ∧ s_7 = Value.int IntKind.i64 0 ∧ w.heap.size + 1 ≤ g6 ∧ VarI wx g6 M ∧ VarFB wx w.heap.size false none 0 0 none 0 0 ∧ Below w.heap.size w wx)
  case first =>
    obtain ⟨base, hbase0⟩ : ∃ b : Nat, Hid (b = wc.heap.size) := ⟨_, Lib.hid rfl⟩
    have hbase : base ≤ wc.heap.size := by rw [hbase0.out]; exact Nat.le_refl _
    have hbw : w.heap.size + 1 ≤ base := by have := hb1.size; have h1 := V0.lt; rw [hbase0.out]; omega
    have l_V0 : w.heap.size < base := by rw [hbase0.out]; exact V0.lt
    refine wp_tabGF Try.f15 7 (rP2T0 t a M i base) [6] (fun i => i == 7) 7 2 (by kernel_rfl) (by kernel_rfl) (by kernel_rfl) (by kernel_rfl) (by kernel_rfl) ⟨fun h => (by cases h), ⟨fun h => (by cases h), ⟨fun h => (by cases h), ⟨fun h => (by cases h), ⟨fun h => (by cases h), ⟨fun h => (by cases h), ⟨fun h => (by cases h), ⟨fun _ w v h => Sp.var_lt h, trivial⟩⟩⟩⟩⟩⟩⟩⟩ ?_ ?_
    · refine ⟨fun _ _ F => gR rfl rfl (arm_move (.inl rfl) (F.k 0 (Value.string t))).b, ?_⟩
      refine ⟨fun _ _ F => gR rfl rfl (arm_move (.inl rfl) (F.k 5 (Value.int IntKind.i64 (i : Int)))).b, ?_⟩
      refine ⟨fun _ _ F => gR rfl rfl (arm_slTo rfl (F.f 0 rfl) (F.f 1 rfl) HI.out.le hts HA.out).b, ?_⟩
      refine ⟨fun _ _ F => gR rfl rfl (arm_C1 rfl (enters Try.func59 rfl rfl) (F.f 2 rfl) (fun va w h1 => by have e_va : va = _ := h1; subst e_va; exact c_ref_Parse a w _ _ ha) (fun _ _ h => ofP h)).b, ?_⟩
      refine ⟨fun _ _ F => gR rfl rfl (arm_move (.inl rfl) (F.f 3 rfl)).b, ?_⟩
      refine ⟨fun _ _ F => gR rfl rfl (arm_pair0 rfl (F.f 4 rfl)).b, ?_⟩
      refine ⟨fun _ _ F => gR rfl rfl (arm_pair1 rfl (F.f 4 rfl)).b, ?_⟩
      refine ⟨fun _ _ F => gR rfl rfl (arm_alloc rfl (Nat.le_trans hbase F.below.size)), ?_⟩
      exact trivial
    intro E' hE gp wp bp G Gs
    simp only [subs, List.map_cons, List.map_nil, List.nil_append, List.cons_append, List.mem_cons, List.not_mem_nil, or_false, List.append_nil] at hE
    rcases hE with rfl | rfl
    · obtain ⟨g6, e_7, lg_7, hv_7⟩ := G 7 6 _ (by simp) rfl
      have n_5 : (Sp.nat (M)).p wp (gp 5) := G 5 37 _ (by simp) rfl
      have e_6 : gp 6 = Value.int IntKind.i64 0 := G 6 38 _ (by simp) rfl
      clear G Gs
      simp only [rP2T0]
      simp only [qA, setD, qZ, qS, e_7, e_6]
      have T0 := hv_7
      refine wpAny_storeN (j := 8) (by kernel_rfl) rfl rfl rfl rfl rfl n_5 T0.any ?_
      intro w0 u0 v0
      have O0 := T0.own
      refine wpAny_takeD (i := 9) (d := some 7) (v := Value.int IntKind.i64 0) rfl rfl (by kernel_rfl) (by kernel_rfl) (by kernel_rfl) (fun _ _ _ h => h) (Or.inl ⟨by rfl, fun w => by rfl⟩) ?_
      try simp only [qP, qZ, qS]
      refine wpAny_done (by kernel_rfl) ?_ _
      go_wp2_with fail
      go_meet
      case rel => exact ⟨g6, rfl, rfl, (by omega), v0, ((V0.mono bp V0.lt).upd O0 u0 (by omega)), (Upd.below (hb1.trans (bp.mono hb1.size)) u0 (by omega))⟩
    · obtain ⟨g6, e_7, lg_7, hv_7⟩ := G 7 6 _ (by simp) rfl
      obtain ⟨x_4_0, x_4_1, e_4, n_4_0, rfl⟩ := G 4 32 _ (by simp) rfl
      have n_5 : (Sp.nat (M)).p wp (gp 5) := G 5 37 _ (by simp) rfl
      clear G Gs
      simp only [rP2T0]
      simp only [qA, setD, qZ, qS, e_7, e_4]
      refine wpAny_takeD (i := 6) (d := some 38) (v := Value.int IntKind.i64 0) rfl rfl (by kernel_rfl) (by kernel_rfl) (by kernel_rfl) (fun _ _ _ h => h) (Or.inl ⟨by rfl, fun w => by rfl⟩) ?_
      try simp only [qP, qZ, qS]
      have T0 := hv_7
      refine wpAny_storeN (j := 8) (by kernel_rfl) rfl rfl rfl rfl rfl n_5 T0.any ?_
      intro w0 u0 v0
      have O0 := T0.own
      refine wpAny_takeD (i := 9) (d := some 7) (v := Value.int IntKind.i64 0) rfl rfl (by kernel_rfl) (by kernel_rfl) (by kernel_rfl) (fun _ _ _ h => h) (Or.inl ⟨by rfl, fun w => by rfl⟩) ?_
      try simp only [qP, qZ, qS]
      refine wpAny_done (by kernel_rfl) ?_ _
      go_wp2_with fail
      go_meet
      case rel => exact ⟨g6, rfl, rfl, (by omega), v0, ((V0.mono bp V0.lt).upd O0 u0 (by omega)), (Upd.below (hb1.trans (bp.mono hb1.size)) u0 (by omega))⟩
  case rest =>
  clear V0 hb1
  obtain ⟨g6, rfl, rfl, lg6, V6, V0, hb1⟩ := hcut
  go_upto_region 8 with (fail)
  go_cut [40] (fun s_40 wx => s_40 = Value.bool false ∧ VarFB wx w.heap.size false none 0 0 none 0 0 ∧ VarI wx g6 M ∧ Below w.heap.size w wx)
  case first =>
    refine tF Try.f15 8 (rP2T1 ) [] 2 0 ?_ ?_
    · refine ⟨fun _ _ F => gR rfl rfl (arm_move (.inl rfl) (F.k 7 (Value.int IntKind.i64 0))).b, ?_⟩
      refine ⟨fun _ _ F => gR rfl rfl (arm_bin rfl (F.f 0 rfl) Is.const (fun _ => rfl) (fun _ => rfl)).b, ?_⟩
      exact trivial
    intro E' hE gp wp bp G Gs
    obtain rfl : E' = [] := by simpa [subs] using hE
    have e_1 : gp 1 = Value.bool false := G 1 40 _ (by simp) rfl
    clear G Gs hE
    simp only [rP2T1]
    simp only [qA, setD, qZ, qS, e_1]
    refine wpAny_done (by kernel_rfl) ?_ _
    go_wp2_with fail
    go_meet
    case rel => exact ⟨rfl, (V0.mono bp V0.lt), (V6.mono bp), (hb1.trans (bp.mono hb1.size))⟩
  case rest =>
  clear V0 V6 hb1
  obtain ⟨rfl, V0, V6, hb1⟩ := hcut
  go_upto_region 10 with (fail)
  go_cut [8] (fun s_8 wx => ∃ g8, s_8 = Value.pointer (some ⟨g8, 0, none⟩) ∧ w.heap.size + 1 ≤ g8 ∧ g6 < g8 ∧ VarI wx g8 1 ∧ VarFB wx w.heap.size false none 0 0 none 0 0 ∧ VarI wx g6 M ∧ Below w.heap.size w wx)
  case first =>
    obtain ⟨base, hbase0⟩ : ∃ b : Nat, Hid (b = wc.heap.size) := ⟨_, Lib.hid rfl⟩
    have hbase : base ≤ wc.heap.size := by rw [hbase0.out]; exact Nat.le_refl _
    have hbw : w.heap.size + 1 ≤ base := by have := hb1.size; have h1 := V0.lt; rw [hbase0.out]; omega
    have l_V0 : w.heap.size < base := by rw [hbase0.out]; exact V0.lt
    have l_V6 : g6 < base := by rw [hbase0.out]; exact V6.lt
    refine wp_tabGF Try.f15 10 (rP2T2 base) [] (fun i => i == 1) 2 1 (by kernel_rfl) (by kernel_rfl) (by kernel_rfl) (by kernel_rfl) (by kernel_rfl) ⟨fun h => (by cases h), ⟨fun _ w v h => Sp.var_lt h, trivial⟩⟩ ?_ ?_
    · refine ⟨fun _ _ F => gR rfl rfl (arm_C1 rfl (enters Try.func54 rfl rfl) Is.const (fun va w h1 => by have e_va : va = _ := h1; subst e_va; exact c_ref_Of 1 w (by decide)) (fun _ _ h => ofNew h)).b, ?_⟩
      refine ⟨fun _ _ F => gR rfl rfl (arm_alloc rfl (Nat.le_trans hbase F.below.size)), ?_⟩
      exact trivial
    intro E' hE gp wp bp G Gs
    obtain rfl : E' = [] := by simpa [subs] using hE
    obtain ⟨g8, e_1, lg_1, hv_1⟩ := G 1 8 _ (by simp) rfl
    have n_0 : (Sp.nat (1)).p wp (gp 0) := G 0 43 _ (by simp) rfl
    clear G Gs hE
    simp only [rP2T2]
    simp only [qA, setD, qZ, qS, e_1]
    have T0 := hv_1
    refine wpAny_storeN (j := 2) (by kernel_rfl) rfl rfl rfl rfl rfl n_0 T0.any ?_
    intro w0 u0 v0
    have O0 := T0.own
    refine wpAny_done (by kernel_rfl) ?_ _
    go_wp2_with fail
    go_meet
    case rel => exact ⟨g8, rfl, (by omega), (by omega), v0, ((V0.mono bp V0.lt).upd O0 u0 (by omega)), ((V6.mono bp).upd O0 u0 (by omega)), (Upd.below (hb1.trans (bp.mono hb1.size)) u0 (by omega))⟩
  case rest =>
  clear V0 V6 hb1
  obtain ⟨g8, rfl, lg8, d10_0, V8, V0, V6, hb1⟩ := hcut
  go_upto_region 11 with (fail)
  go_cut [47] (fun s_47 wx => s_47 = Value.bool true ∧ VarFB wx w.heap.size false none 0 0 none 0 0 ∧ VarI wx g6 M ∧ VarI wx g8 1 ∧ Below w.heap.size w wx)
  case first =>
    refine tF Try.f15 11 (rP2T3 t i) [] 3 0 ?_ ?_
    · refine ⟨fun _ _ F => gR rfl rfl (arm_move (.inl rfl) (F.k 5 (Value.int IntKind.i64 (i : Int)))).b, ?_⟩
      refine ⟨fun _ _ F => gR rfl rfl (arm_move (.inl rfl) (F.k 0 (Value.string t))).b, ?_⟩
      refine ⟨fun _ _ F => gR rfl rfl (arm_lenStr rfl (F.f 1 rfl)).b, ?_⟩
      refine ⟨fun _ _ F => gR rfl rfl (arm_bin rfl (F.f 0 rfl) (F.f 2 rfl) (fun _ => rfl) (fun w => by rw [LT.out]; exact run_ltI _ _ _ w)).b, ?_⟩
      exact trivial
    intro E' hE gp wp bp G Gs
    obtain rfl : E' = [] := by simpa [subs] using hE
    have e_3 : gp 3 = Value.bool true := G 3 47 _ (by simp) rfl
    clear G Gs hE
    simp only [rP2T3]
    simp only [qA, setD, qZ, qS, e_3]
    refine wpAny_done (by kernel_rfl) ?_ _
    go_wp2_with fail
    go_meet
    case rel => exact ⟨rfl, (V0.mono bp V0.lt), (V6.mono bp), (V8.mono bp), (hb1.trans (bp.mono hb1.size))⟩
  case rest =>
  clear V0 V6 V8 hb1
  obtain ⟨rfl, V0, V6, V8, hb1⟩ := hcut
  go_upto_region 12 with (fail)
  go_cut [7] (fun s_7 wx => s_7 = Value.int IntKind.i64 c ∧ VarFB wx w.heap.size false none 0 0 none 0 0 ∧ VarI wx g6 M ∧ VarI wx g8 N ∧ Below w.heap.size w wx)
  case first =>
    refine tF Try.f15 12 (rP2T4 t b N c i) [7] 8 2 ?_ ?_
    · refine ⟨fun _ _ F => gR rfl rfl (arm_move (.inl rfl) (F.k 0 (Value.string t))).b, ?_⟩
      refine ⟨fun _ _ F => gR rfl rfl (arm_move (.inl rfl) (F.k 5 (Value.int IntKind.i64 (i : Int)))).b, ?_⟩
      refine ⟨fun _ _ F => gR rfl rfl (arm_bin rfl (F.f 1 rfl) Is.const (fun _ => rfl) (fun w => run_add1 _ (Nat.le_trans HI.out.le hts) w)).b, ?_⟩
      refine ⟨fun _ _ F => gR rfl rfl (arm_slFrom rfl (F.f 0 rfl) (F.f 2 rfl) (HI.out.hit rfl).1 hts HB.out).b, ?_⟩
      refine ⟨fun _ _ F => gR rfl rfl (arm_C1 rfl (enters Try.func59 rfl rfl) (F.f 3 rfl) (fun va w h1 => by have e_va : va = _ := h1; subst e_va; exact c_ref_Parse b w _ _ hb) (fun _ _ h => ofP h)).b, ?_⟩
      refine ⟨fun _ _ F => gR rfl rfl (arm_move (.inl rfl) (F.f 4 rfl)).b, ?_⟩
      refine ⟨fun _ _ F => gR rfl rfl (arm_pair0 rfl (F.f 5 rfl)).b, ?_⟩
      refine ⟨fun _ _ F => gR rfl rfl (arm_pair1 rfl (F.f 5 rfl)).b, ?_⟩
      exact trivial
    intro E' hE gp wp bp G Gs
    simp only [subs, List.map_cons, List.map_nil, List.nil_append, List.cons_append, List.mem_cons, List.not_mem_nil, or_false, List.append_nil] at hE
    rcases hE with rfl | rfl
    · have n_6 : (Sp.nat (N)).p wp (gp 6) := G 6 54 _ (by simp) rfl
      have e_7 : gp 7 = Value.int IntKind.i64 c := G 7 55 _ (by simp) rfl
      clear G Gs
      simp only [rP2T4]
      simp only [qA, setD, qZ, qS, e_7]
      have T0 := (V8.mono bp)
      refine wpAny_storeN (j := 8) (by kernel_rfl) rfl rfl rfl rfl rfl n_6 T0.any ?_
      intro w0 u0 v0
      have O0 := T0.own
      refine wpAny_takeD (i := 9) (d := some 7) (v := Value.int IntKind.i64 c) rfl rfl (by kernel_rfl) (by kernel_rfl) (by kernel_rfl) (fun _ _ _ h => h) (Or.inl ⟨by rfl, fun w => by rfl⟩) ?_
      try simp only [qP, qZ, qS]
      refine wpAny_done (by kernel_rfl) ?_ _
      go_wp2_with fail
      go_meet
      case rel => exact ⟨rfl, ((V0.mono bp V0.lt).upd O0 u0 (by omega)), ((V6.mono bp).upd O0 u0 (by omega)), v0, (Upd.below (hb1.trans (bp.mono hb1.size)) u0 (by omega))⟩
    · obtain ⟨x_5_0, x_5_1, e_5, n_5_0, rfl⟩ := G 5 48 _ (by simp) rfl
      have n_6 : (Sp.nat (N)).p wp (gp 6) := G 6 54 _ (by simp) rfl
      clear G Gs
      simp only [rP2T4]
      simp only [qA, setD, qZ, qS, e_5]
      refine wpAny_takeD (i := 7) (d := some 55) (v := Value.int IntKind.i64 c) rfl rfl (by kernel_rfl) (by kernel_rfl) (by kernel_rfl) (fun _ _ _ h => h) (Or.inl ⟨by rfl, fun w => by rfl⟩) ?_
      try simp only [qP, qZ, qS]
      have T0 := (V8.mono bp)
      refine wpAny_storeN (j := 8) (by kernel_rfl) rfl rfl rfl rfl rfl n_6 T0.any ?_
      intro w0 u0 v0
      have O0 := T0.own
      refine wpAny_takeD (i := 9) (d := some 7) (v := Value.int IntKind.i64 c) rfl rfl (by kernel_rfl) (by kernel_rfl) (by kernel_rfl) (fun _ _ _ h => h) (Or.inl ⟨by rfl, fun w => by rfl⟩) ?_
      try simp only [qP, qZ, qS]
      refine wpAny_done (by kernel_rfl) ?_ _
      go_wp2_with fail
      go_meet
      case rel => exact ⟨rfl, ((V0.mono bp V0.lt).upd O0 u0 (by omega)), ((V6.mono bp).upd O0 u0 (by omega)), v0, (Upd.below (hb1.trans (bp.mono hb1.size)) u0 (by omega))⟩
  case rest =>
  clear V0 V6 V8 hb1
  obtain ⟨rfl, V0, V6, V8, hb1⟩ := hcut
  go_upto_region 13 with (fail)
  go_cut [57] (fun s_57 wx => s_57 = Value.bool true ∧ VarFB wx w.heap.size false none 0 0 none 0 0 ∧ VarI wx g6 M ∧ VarI wx g8 N ∧ Below w.heap.size w wx)
  case first =>
    refine tF Try.f15 13 (rP2T5 c) [] 2 0 ?_ ?_
    · refine ⟨fun _ _ F => gR rfl rfl (arm_move (.inl rfl) (F.k 7 (Value.int IntKind.i64 c))).b, ?_⟩
      refine ⟨fun _ _ F => gR rfl rfl (arm_bin rfl (F.f 0 rfl) Is.const (fun _ => rfl) (fun w => by rw [HC.out]; rfl)).b, ?_⟩
      exact trivial
    intro E' hE gp wp bp G Gs
    obtain rfl : E' = [] := by simpa [subs] using hE
    have e_1 : gp 1 = Value.bool true := G 1 57 _ (by simp) rfl
    clear G Gs hE
    simp only [rP2T5]
    simp only [qA, setD, qZ, qS, e_1]
    refine wpAny_done (by kernel_rfl) ?_ _
    go_wp2_with fail
    go_meet
    case rel => exact ⟨rfl, (V0.mono bp V0.lt), (V6.mono bp), (V8.mono bp), (hb1.trans (bp.mono hb1.size))⟩
  case rest =>
  clear V0 V6 V8 hb1
  obtain ⟨rfl, V0, V6, V8, hb1⟩ := hcut
  go_upto_region 14 with (fail)
  go_cut [3] (fun s_3 wx => s_3 = Value.int IntKind.i64 c ∧ VarQ wx w.heap.size Fq.zero ∧ VarI wx g6 M ∧ VarI wx g8 N ∧ Below w.heap.size w wx)
  case first =>
    refine tF Try.f15 14 (rP2T6 c) [1] 3 2 ?_ ?_
    · refine ⟨fun _ _ F => gR rfl rfl (arm_build0F rfl).b, ?_⟩
      refine ⟨fun _ _ F => gR rfl rfl (arm_move (.inl rfl) (F.k 7 (Value.int IntKind.i64 c))).b, ?_⟩
      exact trivial
    intro E' hE gp wp bp G Gs
    simp only [subs, List.map_cons, List.map_nil, List.nil_append, List.cons_append, List.mem_cons, List.not_mem_nil, or_false, List.append_nil] at hE
    rcases hE with rfl | rfl
    · have n_0 : (Sp.fq Fq.zero).p wp (gp 0) := G 0 58 _ (by simp) rfl
      have e_1 : gp 1 = Value.int IntKind.i64 c := G 1 59 _ (by simp) rfl
      clear G Gs
      simp only [rP2T6]
      simp only [qA, setD, qZ, qS, e_1]
      have T0 := (V0.mono bp V0.lt)
      refine wpAny_storeFr (j := 2) (by kernel_rfl) rfl rfl rfl rfl rfl n_0 T0.any ?_
      intro w0 u0 v0
      have O0 := T0.own
      refine wpAny_takeD (i := 3) (d := some 3) (v := Value.int IntKind.i64 c) rfl rfl (by kernel_rfl) (by kernel_rfl) (by kernel_rfl) (fun _ _ _ h => h) (Or.inl ⟨by rfl, fun w => by rfl⟩) ?_
      try simp only [qP, qZ, qS]
      refine wpAny_done (by kernel_rfl) ?_ _
      go_wp2_with fail
      go_meet
      case rel => exact ⟨rfl, v0, ((V6.mono bp).upd O0 u0 (by omega)), ((V8.mono bp).upd O0 u0 (by omega)), (Upd.below (hb1.trans (bp.mono hb1.size)) u0 (by omega))⟩
    · have n_0 : (Sp.fq Fq.zero).p wp (gp 0) := G 0 58 _ (by simp) rfl
      clear G Gs
      simp only [rP2T6]
      simp only [qA, setD, qZ, qS]
      refine wpAny_takeD (i := 1) (d := some 59) (v := Value.int IntKind.i64 c) rfl rfl (by kernel_rfl) (by kernel_rfl) (by kernel_rfl) (fun _ _ _ h => h) (Or.inl ⟨by rfl, fun w => by rfl⟩) ?_
      try simp only [qP, qZ, qS]
      have T0 := (V0.mono bp V0.lt)
      refine wpAny_storeFr (j := 2) (by kernel_rfl) rfl rfl rfl rfl rfl n_0 T0.any ?_
      intro w0 u0 v0
      have O0 := T0.own
      refine wpAny_takeD (i := 3) (d := some 3) (v := Value.int IntKind.i64 c) rfl rfl (by kernel_rfl) (by kernel_rfl) (by kernel_rfl) (fun _ _ _ h => h) (Or.inl ⟨by rfl, fun w => by rfl⟩) ?_
      try simp only [qP, qZ, qS]
      refine wpAny_done (by kernel_rfl) ?_ _
      go_wp2_with fail
      go_meet
      case rel => exact ⟨rfl, v0, ((V6.mono bp).upd O0 u0 (by omega)), ((V8.mono bp).upd O0 u0 (by omega)), (Upd.below (hb1.trans (bp.mono hb1.size)) u0 (by omega))⟩
  case rest =>
  clear V0 V6 V8 hb1
  obtain ⟨rfl, V0, V6, V8, hb1⟩ := hcut
  obtain ⟨r1, r2, r3, r4, rV, rn, rm⟩ := V0
  have c0 := rV.cell0
  have c1 := rV.cell1
  have c2 := rV.cell2
  go_wp2
  exact bodyPost_ret (res_FE rfl rfl rfl rV) rfl ⟨_, rfl, ⟨r1, r2, r3, r4, rfl, rn, rm⟩, hb1⟩
def rP3ttT0 (t : ByteArray) (a : ByteArray) (M : Nat) (i : Nat) (base : Nat) : List (Nat × Tmp × Sp) :=
   [(0, 33, .val (Value.string t)),
    (1, 34, .val (Value.int IntKind.i64 (i : Int))),
    (2, 35, .val (Value.string a)),
    (3, 36, .pair (.nat (M)) (.val (Value.int IntKind.i64 0))),
    (4, 32, .pair (.nat (M)) (.val (Value.int IntKind.i64 0))),
    (5, 37, .nat (M)),
    (6, 38, .val (Value.int IntKind.i64 0)),
    (7, 6, .var base)]
def rP3ttT1  : List (Nat × Tmp × Sp) :=
   [(0, 39, .val (Value.int IntKind.i64 0)),
    (1, 40, .val (Value.bool false))]
def rP3ttT2 (base : Nat) : List (Nat × Tmp × Sp) :=
   [(0, 43, .nat (1)),
    (1, 8, .var base)]
def rP3ttT3 (t : ByteArray) (i : Nat) : List (Nat × Tmp × Sp) :=
   [(0, 44, .val (Value.int IntKind.i64 (i : Int))),
    (1, 45, .val (Value.string t)),
    (2, 46, .val (Value.int IntKind.i64 (t.size : Int))),
    (3, 47, .val (Value.bool true))]
def rP3ttT4 (t : ByteArray) (b : ByteArray) (N : Nat) (i : Nat) : List (Nat × Tmp × Sp) :=
   [(0, 49, .val (Value.string t)),
    (1, 50, .val (Value.int IntKind.i64 (i : Int))),
    (2, 51, .val (Value.int IntKind.i64 ((i + 1 : Nat) : Int))),
    (3, 52, .val (Value.string b)),
    (4, 53, .pair (.nat (N)) (.val (Value.int IntKind.i64 0))),
    (5, 48, .pair (.nat (N)) (.val (Value.int IntKind.i64 0))),
    (6, 54, .nat (N)),
    (7, 55, .val (Value.int IntKind.i64 0))]
def rP3ttT5  : List (Nat × Tmp × Sp) :=
   [(0, 56, .val (Value.int IntKind.i64 0)),
    (1, 57, .val (Value.bool false))]
def rP3ttT6 (N : Nat) (C : Int) : List (Nat × Tmp × Sp) :=
   [(0, 60, .nat (N)),
    (1, 61, .nat (1)),
    (2, 62, .val (Value.int IntKind.i64 C)),
    (3, 63, .val (Value.bool false))]
def rP3ttT7 (M : Nat) (N : Nat) (Gd : Nat) : List (Nat × Tmp × Sp) :=
   [(0, 65, .val (Value.bool true)),
    (1, 66, .val (Value.bool true)),
    (2, 67, .nat (M)),
    (3, 68, .val (Value.bool false)),
    (4, 69, .val (Value.bool false)),
    (5, 70, .val (Value.bool false)),
    (6, 71, .nat (M)),
    (7, 72, .nat (N)),
    (8, 73, .nat (Gd)),
    (9, 74, .nat (1)),
    (10, 75, .val (Value.bool true)),
    (11, 76, .val (Value.bool false)),
    (12, 77, .val (Value.bool false))]
def rP3ttT8 (M : Nat) (N : Nat) : List (Nat × Tmp × Sp) :=
   [(0, 79, .val (Value.bool true)),
    (1, 80, .nat (M)),
    (2, 81, .nat (N)),
    (3, 82, .fq (Fq.mk true M N))]
def rP3ttT9 (M : Nat) (N : Nat) (Gd : Nat) : List (Nat × Tmp × Sp) :=
   [(0, 65, .val (Value.bool false)),
    (1, 66, .val (Value.bool false)),
    (2, 67, .val undef),
    (3, 68, .val undef),
    (4, 69, .val (Value.bool false)),
    (5, 70, .val (Value.bool false)),
    (6, 71, .nat (M)),
    (7, 72, .nat (N)),
    (8, 73, .nat (Gd)),
    (9, 74, .nat (1)),
    (10, 75, .val (Value.bool true)),
    (11, 76, .val (Value.bool false)),
    (12, 77, .val (Value.bool false))]
def rP3ttT10 (M : Nat) (N : Nat) : List (Nat × Tmp × Sp) :=
   [(0, 79, .val (Value.bool false)),
    (1, 80, .nat (M)),
    (2, 81, .nat (N)),
    (3, 82, .fq (Fq.mk false M N))]
set_option maxHeartbeats 4000000 in
theorem rP_good_true (s t a b : ByteArray) (B : Bool) (M : Nat) (w : World) (HP : Pieces s t B true a b) (hs : s.size ≤ 4294967280) (ha : ParseIs a M 0) (N : Nat) (hb : ParseIs b N 0) (hv : parseV B true M N = true) :
    Calls Try.prog 15 #[.string s] w fun e w' => RetQE w ⟨B, M, N⟩ 0 e w' := by
  have hts : t.size ≤ 4294967280 := Nat.le_trans (pieces_size HP) hs
  obtain ⟨i, HI0, HA0, HB0⟩ := pieces_idx HP
  have HI := Lib.hid HI0
  have HA := Lib.hid HA0
  have HB := Lib.hid (HB0 rfl)
  have LT : Hid (true = decide ((i : Int) < (t.size : Int))) := Lib.hid (by symm; apply decide_eq_true; have := (HI0.hit rfl).1; omega)
  have HR := Lib.hid HP.rest
  have HS := Lib.hid HP.sign
  clear HI0 HA0 HB0 HP
  have bM : nl M ≤ 1000000000000 := Nat.le_trans (parse_nlU ha) (by decide)
  have bM2 : nl M ≤ 100000000000 := Nat.le_trans (parse_nlU ha) (by decide)
  have bN : nl N ≤ 1000000000000 := Nat.le_trans (parse_nlU hb) (by decide)
  have bN2 : nl N ≤ 100000000000 := Nat.le_trans (parse_nlU hb) (by decide)
  obtain ⟨Gd, hGd⟩ : ∃ N' : Nat, Hid (N' = Nat.gcd M N) := ⟨_, Lib.hid rfl⟩
  have bG : nl Gd ≤ 1000000000000 := by rw [hGd.out]; exact (Nat.eq_zero_or_pos M).elim (fun h => by rw [h, Nat.gcd_zero_left]; exact bN) (fun h => Nat.le_trans (nl_mono (Nat.gcd_le_left _ h)) bM)
  obtain ⟨C, hC⟩ : ∃ C : Int, Hid (cmpI N 1 = C) := ⟨_, Lib.hid rfl⟩
  have HV := Lib.hid hv
  clear hv
  obtain ⟨m0, k0⟩ := resF (w := w)
  go_enter Try.func15, Try.ntmps15
  go_upto_region 0 with (fail)
  go_cut [2, 3] (fun s_2 s_3 wx => s_2 = Value.pointer (some ⟨w.heap.size, 0, none⟩) ∧ s_3 = Value.int IntKind.i64 0 ∧ VarFB wx w.heap.size false none 0 0 none 0 0 ∧ Below w.heap.size w wx)
  case first =>
    go_wp2_with fail
    go_meet
    case rel => exact ⟨rfl, rfl, k0, m0⟩
  case rest =>
  clear m0 k0
  obtain ⟨rfl, rfl, V0, hb1⟩ := hcut
  go_upto_region 1 with (fail)
  go_cut [4] (fun s_4 wx => s_4 = .bool B ∧ VarFB wx w.heap.size false none 0 0 none 0 0 ∧ Below w.heap.size w wx)
  case first =>
    by_cases hp : 0 < s.size
    · have hi : (0 : Int) < (s.size : Int) := by omega
      by_cases hz : by' s 0 = 45
      · have hz' : (((s[0]'hp).toNat : Nat) : Int) = 45 := by rw [by_eq, hz]; rfl
        obtain rfl : B = true := by rw [← HS.out]; exact decide_eq_true ⟨hp, hz⟩
        clear hz
        go_wp2_with fail
        go_meet
        case rel => exact ⟨rfl, V0, hb1⟩
      · have hz' : ¬ (((s[0]'hp).toNat : Nat) : Int) = 45 := by rw [by_eq]; omega
        obtain rfl : B = false := by rw [← HS.out]; exact decide_eq_false (fun h => hz h.2)
        have hz2 : ((((s[0]'hp).toNat : Nat) : Int) == 45) = false := by simpa using hz'
        clear hz
        go_wp2_with fail
        go_meet
        case rel => exact ⟨by first | rfl | rw [hz2], V0, hb1⟩
    · have hi : ¬ (0 : Int) < (s.size : Int) := by omega
      obtain rfl : B = false := by rw [← HS.out]; exact decide_eq_false (fun h => hp h.1)
      go_wp2_with fail
      go_meet
      case rel => exact ⟨rfl, V0, hb1⟩
  case rest =>
  clear V0 hb1
  obtain ⟨rfl, V0, hb1⟩ := hcut
  have hK := ‹∀ (a : Act) (w : World), Code.wp Try.prog _ _ a w → _›
  refine hK _ _ ?_
  clear hK
  refine wp_seq_k (fun K hK => ?_)
  go_cut [0] (fun s_0 wx => s_0 = .string t ∧ VarFB wx w.heap.size false none 0 0 none 0 0 ∧ Below w.heap.size w wx)
  case first =>
    cases B
    · obtain rfl : t = s := HR.out
      go_wp2_with fail
      go_meet
      case rel => exact ⟨rfl, V0, hb1⟩
    · have hp : (1 : Int) ≤ (s.size : Int) := by have := (of_decide_eq_true HS.out).1; omega
      have ht : t = s.extract 1 s.size := HR.out
      have HT := Lib.hid ht
      clear ht
      go_wp2_with fail
      go_meet
      case rel => exact ⟨by rw [HT.out], V0, hb1⟩
  case rest =>
  clear V0 hb1
  obtain ⟨rfl, V0, hb1⟩ := hcut
  go_upto_block 0 with (fail)
  go_cut [5] (fun s_5 wx => s_5 = .int .i64 (i : Int) ∧ VarFB wx w.heap.size false none 0 0 none 0 0 ∧ Below w.heap.size w wx)
  case first =>
    go_wp2_with fail
    go_loopw [5] (fun s5 wr => ∃ k : Nat, k ≤ i ∧ s5 = .int .i64 (k : Int) ∧ wr = wc) (fun s5 _ => i - (intOf s5).toNat)
    case atStart => exact ⟨0, Nat.zero_le _, rfl, rfl⟩
    case round =>
      obtain ⟨k, hk, rfl, rfl⟩ := hrel
      by_cases hlt : k < i
      · have hk2 : k < t.size := Nat.lt_of_lt_of_le hlt HI.out.le
        have hk3 : (k : Int) < (t.size : Int) := by omega
        have hz' : ¬ (((t[k]'hk2).toNat : Nat) : Int) = 47 := by rw [by_eq]; have := HI.out.before k hlt; omega
        go_wp2_with fail
        go_roundw
        case rel => exact ⟨k + 1, by omega, by go_num, trivial⟩
        case measure => simp [intOf] <;> omega
      · obtain rfl : k = i := by omega
        have hk2 : k < t.size := (HI.out.hit rfl).1
        have hk3 : (k : Int) < (t.size : Int) := by omega
        have hz' : (((t[k]'hk2).toNat : Nat) : Int) = 47 := by rw [by_eq, (HI.out.hit rfl).2]; rfl
        go_wp2_with fail
        go_meet
        case rel => exact ⟨rfl, V0, hb1⟩
  case rest =>
  clear V0 hb1
  obtain ⟨rfl, V0, hb1⟩ := hcut
  go_upto_region 7 with (fail)
  go_cut [6, 7] (fun s_6 s_7 wx => ∃ g6, s_6 = Value.pointer (some ⟨g6, 0, none⟩) ∧ s_7 = Value.int IntKind.i64 0 ∧ w.heap.size + 1 ≤ g6 ∧ VarI wx g6 M ∧ VarFB wx w.heap.size false none 0 0 none 0 0 ∧ Below w.heap.size w wx)
  case first =>
    obtain ⟨base, hbase0⟩ : ∃ b : Nat, Hid (b = wc.heap.size) := ⟨_, Lib.hid rfl⟩
    have hbase : base ≤ wc.heap.size := by rw [hbase0.out]; exact Nat.le_refl _
    have hbw : w.heap.size + 1 ≤ base := by have := hb1.size; have h1 := V0.lt; rw [hbase0.out]; omega
    have l_V0 : w.heap.size < base := by rw [hbase0.out]; exact V0.lt
    refine wp_tabGF Try.f15 7 (rP3ttT0 t a M i base) [6] (fun i => i == 7) 7 2 (by kernel_rfl) (by kernel_rfl) (by kernel_rfl) (by kernel_rfl) (by kernel_rfl) ⟨fun h => (by cases h), ⟨fun h => (by cases h), ⟨fun h => (by cases h), ⟨fun h => (by cases h), ⟨fun h => (by cases h), ⟨fun h => (by cases h), ⟨fun h => (by cases h), ⟨fun _ w v h => Sp.var_lt h, trivial⟩⟩⟩⟩⟩⟩⟩⟩ ?_ ?_
    · refine ⟨fun _ _ F => gR rfl rfl (arm_move (.inl rfl) (F.k 0 (Value.string t))).b, ?_⟩
      refine ⟨fun _ _ F => gR rfl rfl (arm_move (.inl rfl) (F.k 5 (Value.int IntKind.i64 (i : Int)))).b, ?_⟩
      refine ⟨fun _ _ F => gR rfl rfl (arm_slTo rfl (F.f 0 rfl) (F.f 1 rfl) HI.out.le hts HA.out).b, ?_⟩
      refine ⟨fun _ _ F => gR rfl rfl (arm_C1 rfl (enters Try.func59 rfl rfl) (F.f 2 rfl) (fun va w h1 => by have e_va : va = _ := h1; subst e_va; exact c_ref_Parse a w _ _ ha) (fun _ _ h => ofP h)).b, ?_⟩
      refine ⟨fun _ _ F => gR rfl rfl (arm_move (.inl rfl) (F.f 3 rfl)).b, ?_⟩
      refine ⟨fun _ _ F => gR rfl rfl (arm_pair0 rfl (F.f 4 rfl)).b, ?_⟩
      refine ⟨fun _ _ F => gR rfl rfl (arm_pair1 rfl (F.f 4 rfl)).b, ?_⟩
      refine ⟨fun _ _ F => gR rfl rfl (arm_alloc rfl (Nat.le_trans hbase F.below.size)), ?_⟩
      exact trivial
    intro E' hE gp wp bp G Gs
    simp only [subs, List.map_cons, List.map_nil, List.nil_append, List.cons_append, List.mem_cons, List.not_mem_nil, or_false, List.append_nil] at hE
    rcases hE with rfl | rfl
    · obtain ⟨g6, e_7, lg_7, hv_7⟩ := G 7 6 _ (by simp) rfl
      have n_5 : (Sp.nat (M)).p wp (gp 5) := G 5 37 _ (by simp) rfl
      have e_6 : gp 6 = Value.int IntKind.i64 0 := G 6 38 _ (by simp) rfl
      clear G Gs
      simp only [rP3ttT0]
      simp only [qA, setD, qZ, qS, e_7, e_6]
      have T0 := hv_7
      refine wpAny_storeN (j := 8) (by kernel_rfl) rfl rfl rfl rfl rfl n_5 T0.any ?_
      intro w0 u0 v0
      have O0 := T0.own
      refine wpAny_takeD (i := 9) (d := some 7) (v := Value.int IntKind.i64 0) rfl rfl (by kernel_rfl) (by kernel_rfl) (by kernel_rfl) (fun _ _ _ h => h) (Or.inl ⟨by rfl, fun w => by rfl⟩) ?_
      try simp only [qP, qZ, qS]
      refine wpAny_done (by kernel_rfl) ?_ _
      go_wp2_with fail
      go_meet
      case rel => exact ⟨g6, rfl, rfl, (by omega), v0, ((V0.mono bp V0.lt).upd O0 u0 (by omega)), (Upd.below (hb1.trans (bp.mono hb1.size)) u0 (by omega))⟩
    · obtain ⟨g6, e_7, lg_7, hv_7⟩ := G 7 6 _ (by simp) rfl
      obtain ⟨x_4_0, x_4_1, e_4, n_4_0, rfl⟩ := G 4 32 _ (by simp) rfl
      have n_5 : (Sp.nat (M)).p wp (gp 5) := G 5 37 _ (by simp) rfl
      clear G Gs
      simp only [rP3ttT0]
      simp only [qA, setD, qZ, qS, e_7, e_4]
      refine wpAny_takeD (i := 6) (d := some 38) (v := Value.int IntKind.i64 0) rfl rfl (by kernel_rfl) (by kernel_rfl) (by kernel_rfl) (fun _ _ _ h => h) (Or.inl ⟨by rfl, fun w => by rfl⟩) ?_
      try simp only [qP, qZ, qS]
      have T0 := hv_7
      refine wpAny_storeN (j := 8) (by kernel_rfl) rfl rfl rfl rfl rfl n_5 T0.any ?_
      intro w0 u0 v0
      have O0 := T0.own
      refine wpAny_takeD (i := 9) (d := some 7) (v := Value.int IntKind.i64 0) rfl rfl (by kernel_rfl) (by kernel_rfl) (by kernel_rfl) (fun _ _ _ h => h) (Or.inl ⟨by rfl, fun w => by rfl⟩) ?_
      try simp only [qP, qZ, qS]
      refine wpAny_done (by kernel_rfl) ?_ _
      go_wp2_with fail
      go_meet
      case rel => exact ⟨g6, rfl, rfl, (by omega), v0, ((V0.mono bp V0.lt).upd O0 u0 (by omega)), (Upd.below (hb1.trans (bp.mono hb1.size)) u0 (by omega))⟩
  case rest =>
  clear V0 hb1
  obtain ⟨g6, rfl, rfl, lg6, V6, V0, hb1⟩ := hcut
  go_upto_region 8 with (fail)
  go_cut [40] (fun s_40 wx => s_40 = Value.bool false ∧ VarFB wx w.heap.size false none 0 0 none 0 0 ∧ VarI wx g6 M ∧ Below w.heap.size w wx)
  case first =>
    refine tF Try.f15 8 (rP3ttT1 ) [] 2 0 ?_ ?_
    · refine ⟨fun _ _ F => gR rfl rfl (arm_move (.inl rfl) (F.k 7 (Value.int IntKind.i64 0))).b, ?_⟩
      refine ⟨fun _ _ F => gR rfl rfl (arm_bin rfl (F.f 0 rfl) Is.const (fun _ => rfl) (fun _ => rfl)).b, ?_⟩
      exact trivial
    intro E' hE gp wp bp G Gs
    obtain rfl : E' = [] := by simpa [subs] using hE
    have e_1 : gp 1 = Value.bool false := G 1 40 _ (by simp) rfl
    clear G Gs hE
    simp only [rP3ttT1]
    simp only [qA, setD, qZ, qS, e_1]
    refine wpAny_done (by kernel_rfl) ?_ _
    go_wp2_with fail
    go_meet
    case rel => exact ⟨rfl, (V0.mono bp V0.lt), (V6.mono bp), (hb1.trans (bp.mono hb1.size))⟩
  case rest =>
  clear V0 V6 hb1
  obtain ⟨rfl, V0, V6, hb1⟩ := hcut
  go_upto_region 10 with (fail)
  go_cut [8] (fun s_8 wx => ∃ g8, s_8 = Value.pointer (some ⟨g8, 0, none⟩) ∧ w.heap.size + 1 ≤ g8 ∧ g6 < g8 ∧ VarI wx g8 1 ∧ VarFB wx w.heap.size false none 0 0 none 0 0 ∧ VarI wx g6 M ∧ Below w.heap.size w wx)
  case first =>
    obtain ⟨base, hbase0⟩ : ∃ b : Nat, Hid (b = wc.heap.size) := ⟨_, Lib.hid rfl⟩
    have hbase : base ≤ wc.heap.size := by rw [hbase0.out]; exact Nat.le_refl _
    have hbw : w.heap.size + 1 ≤ base := by have := hb1.size; have h1 := V0.lt; rw [hbase0.out]; omega
    have l_V0 : w.heap.size < base := by rw [hbase0.out]; exact V0.lt
    have l_V6 : g6 < base := by rw [hbase0.out]; exact V6.lt
    refine wp_tabGF Try.f15 10 (rP3ttT2 base) [] (fun i => i == 1) 2 1 (by kernel_rfl) (by kernel_rfl) (by kernel_rfl) (by kernel_rfl) (by kernel_rfl) ⟨fun h => (by cases h), ⟨fun _ w v h => Sp.var_lt h, trivial⟩⟩ ?_ ?_
    · refine ⟨fun _ _ F => gR rfl rfl (arm_C1 rfl (enters Try.func54 rfl rfl) Is.const (fun va w h1 => by have e_va : va = _ := h1; subst e_va; exact c_ref_Of 1 w (by decide)) (fun _ _ h => ofNew h)).b, ?_⟩
      refine ⟨fun _ _ F => gR rfl rfl (arm_alloc rfl (Nat.le_trans hbase F.below.size)), ?_⟩
      exact trivial
    intro E' hE gp wp bp G Gs
    obtain rfl : E' = [] := by simpa [subs] using hE
    obtain ⟨g8, e_1, lg_1, hv_1⟩ := G 1 8 _ (by simp) rfl
    have n_0 : (Sp.nat (1)).p wp (gp 0) := G 0 43 _ (by simp) rfl
    clear G Gs hE
    simp only [rP3ttT2]
    simp only [qA, setD, qZ, qS, e_1]
    have T0 := hv_1
    refine wpAny_storeN (j := 2) (by kernel_rfl) rfl rfl rfl rfl rfl n_0 T0.any ?_
    intro w0 u0 v0
    have O0 := T0.own
    refine wpAny_done (by kernel_rfl) ?_ _
    go_wp2_with fail
    go_meet
    case rel => exact ⟨g8, rfl, (by omega), (by omega), v0, ((V0.mono bp V0.lt).upd O0 u0 (by omega)), ((V6.mono bp).upd O0 u0 (by omega)), (Upd.below (hb1.trans (bp.mono hb1.size)) u0 (by omega))⟩
  case rest =>
  clear V0 V6 hb1
  obtain ⟨g8, rfl, lg8, d10_0, V8, V0, V6, hb1⟩ := hcut
  go_upto_region 11 with (fail)
  go_cut [47] (fun s_47 wx => s_47 = Value.bool true ∧ VarFB wx w.heap.size false none 0 0 none 0 0 ∧ VarI wx g6 M ∧ VarI wx g8 1 ∧ Below w.heap.size w wx)
  case first =>
    refine tF Try.f15 11 (rP3ttT3 t i) [] 3 0 ?_ ?_
    · refine ⟨fun _ _ F => gR rfl rfl (arm_move (.inl rfl) (F.k 5 (Value.int IntKind.i64 (i : Int)))).b, ?_⟩
      refine ⟨fun _ _ F => gR rfl rfl (arm_move (.inl rfl) (F.k 0 (Value.string t))).b, ?_⟩
      refine ⟨fun _ _ F => gR rfl rfl (arm_lenStr rfl (F.f 1 rfl)).b, ?_⟩
      refine ⟨fun _ _ F => gR rfl rfl (arm_bin rfl (F.f 0 rfl) (F.f 2 rfl) (fun _ => rfl) (fun w => by rw [LT.out]; exact run_ltI _ _ _ w)).b, ?_⟩
      exact trivial
    intro E' hE gp wp bp G Gs
    obtain rfl : E' = [] := by simpa [subs] using hE
    have e_3 : gp 3 = Value.bool true := G 3 47 _ (by simp) rfl
    clear G Gs hE
    simp only [rP3ttT3]
    simp only [qA, setD, qZ, qS, e_3]
    refine wpAny_done (by kernel_rfl) ?_ _
    go_wp2_with fail
    go_meet
    case rel => exact ⟨rfl, (V0.mono bp V0.lt), (V6.mono bp), (V8.mono bp), (hb1.trans (bp.mono hb1.size))⟩
  case rest =>
  clear V0 V6 V8 hb1
  obtain ⟨rfl, V0, V6, V8, hb1⟩ := hcut
  go_upto_region 12 with (fail)
  go_cut [7] (fun s_7 wx => s_7 = Value.int IntKind.i64 0 ∧ VarFB wx w.heap.size false none 0 0 none 0 0 ∧ VarI wx g6 M ∧ VarI wx g8 N ∧ Below w.heap.size w wx)
  case first =>
    refine tF Try.f15 12 (rP3ttT4 t b N i) [7] 8 2 ?_ ?_
    · refine ⟨fun _ _ F => gR rfl rfl (arm_move (.inl rfl) (F.k 0 (Value.string t))).b, ?_⟩
      refine ⟨fun _ _ F => gR rfl rfl (arm_move (.inl rfl) (F.k 5 (Value.int IntKind.i64 (i : Int)))).b, ?_⟩
      refine ⟨fun _ _ F => gR rfl rfl (arm_bin rfl (F.f 1 rfl) Is.const (fun _ => rfl) (fun w => run_add1 _ (Nat.le_trans HI.out.le hts) w)).b, ?_⟩
      refine ⟨fun _ _ F => gR rfl rfl (arm_slFrom rfl (F.f 0 rfl) (F.f 2 rfl) (HI.out.hit rfl).1 hts HB.out).b, ?_⟩
      refine ⟨fun _ _ F => gR rfl rfl (arm_C1 rfl (enters Try.func59 rfl rfl) (F.f 3 rfl) (fun va w h1 => by have e_va : va = _ := h1; subst e_va; exact c_ref_Parse b w _ _ hb) (fun _ _ h => ofP h)).b, ?_⟩
      refine ⟨fun _ _ F => gR rfl rfl (arm_move (.inl rfl) (F.f 4 rfl)).b, ?_⟩
      refine ⟨fun _ _ F => gR rfl rfl (arm_pair0 rfl (F.f 5 rfl)).b, ?_⟩
      refine ⟨fun _ _ F => gR rfl rfl (arm_pair1 rfl (F.f 5 rfl)).b, ?_⟩
      exact trivial
    intro E' hE gp wp bp G Gs
    simp only [subs, List.map_cons, List.map_nil, List.nil_append, List.cons_append, List.mem_cons, List.not_mem_nil, or_false, List.append_nil] at hE
    rcases hE with rfl | rfl
    · have n_6 : (Sp.nat (N)).p wp (gp 6) := G 6 54 _ (by simp) rfl
      have e_7 : gp 7 = Value.int IntKind.i64 0 := G 7 55 _ (by simp) rfl
      clear G Gs
      simp only [rP3ttT4]
      simp only [qA, setD, qZ, qS, e_7]
      have T0 := (V8.mono bp)
      refine wpAny_storeN (j := 8) (by kernel_rfl) rfl rfl rfl rfl rfl n_6 T0.any ?_
      intro w0 u0 v0
      have O0 := T0.own
      refine wpAny_takeD (i := 9) (d := some 7) (v := Value.int IntKind.i64 0) rfl rfl (by kernel_rfl) (by kernel_rfl) (by kernel_rfl) (fun _ _ _ h => h) (Or.inl ⟨by rfl, fun w => by rfl⟩) ?_
      try simp only [qP, qZ, qS]
      refine wpAny_done (by kernel_rfl) ?_ _
      go_wp2_with fail
      go_meet
      case rel => exact ⟨rfl, ((V0.mono bp V0.lt).upd O0 u0 (by omega)), ((V6.mono bp).upd O0 u0 (by omega)), v0, (Upd.below (hb1.trans (bp.mono hb1.size)) u0 (by omega))⟩
    · obtain ⟨x_5_0, x_5_1, e_5, n_5_0, rfl⟩ := G 5 48 _ (by simp) rfl
      have n_6 : (Sp.nat (N)).p wp (gp 6) := G 6 54 _ (by simp) rfl
      clear G Gs
      simp only [rP3ttT4]
      simp only [qA, setD, qZ, qS, e_5]
      refine wpAny_takeD (i := 7) (d := some 55) (v := Value.int IntKind.i64 0) rfl rfl (by kernel_rfl) (by kernel_rfl) (by kernel_rfl) (fun _ _ _ h => h) (Or.inl ⟨by rfl, fun w => by rfl⟩) ?_
      try simp only [qP, qZ, qS]
      have T0 := (V8.mono bp)
      refine wpAny_storeN (j := 8) (by kernel_rfl) rfl rfl rfl rfl rfl n_6 T0.any ?_
      intro w0 u0 v0
      have O0 := T0.own
      refine wpAny_takeD (i := 9) (d := some 7) (v := Value.int IntKind.i64 0) rfl rfl (by kernel_rfl) (by kernel_rfl) (by kernel_rfl) (fun _ _ _ h => h) (Or.inl ⟨by rfl, fun w => by rfl⟩) ?_
      try simp only [qP, qZ, qS]
      refine wpAny_done (by kernel_rfl) ?_ _
      go_wp2_with fail
      go_meet
      case rel => exact ⟨rfl, ((V0.mono bp V0.lt).upd O0 u0 (by omega)), ((V6.mono bp).upd O0 u0 (by omega)), v0, (Upd.below (hb1.trans (bp.mono hb1.size)) u0 (by omega))⟩
  case rest =>
  clear V0 V6 V8 hb1
  obtain ⟨rfl, V0, V6, V8, hb1⟩ := hcut
  go_upto_region 13 with (fail)
  go_cut [57] (fun s_57 wx => s_57 = Value.bool false ∧ VarFB wx w.heap.size false none 0 0 none 0 0 ∧ VarI wx g6 M ∧ VarI wx g8 N ∧ Below w.heap.size w wx)
  case first =>
    refine tF Try.f15 13 (rP3ttT5 ) [] 2 0 ?_ ?_
    · refine ⟨fun _ _ F => gR rfl rfl (arm_move (.inl rfl) (F.k 7 (Value.int IntKind.i64 0))).b, ?_⟩
      refine ⟨fun _ _ F => gR rfl rfl (arm_bin rfl (F.f 0 rfl) Is.const (fun _ => rfl) (fun _ => rfl)).b, ?_⟩
      exact trivial
    intro E' hE gp wp bp G Gs
    obtain rfl : E' = [] := by simpa [subs] using hE
    have e_1 : gp 1 = Value.bool false := G 1 57 _ (by simp) rfl
    clear G Gs hE
    simp only [rP3ttT5]
    simp only [qA, setD, qZ, qS, e_1]
    refine wpAny_done (by kernel_rfl) ?_ _
    go_wp2_with fail
    go_meet
    case rel => exact ⟨rfl, (V0.mono bp V0.lt), (V6.mono bp), (V8.mono bp), (hb1.trans (bp.mono hb1.size))⟩
  case rest =>
  clear V0 V6 V8 hb1
  obtain ⟨rfl, V0, V6, V8, hb1⟩ := hcut
  have hv0 : (!decide (N = 1) && (Fq.mk B M N).valid) = true := HV.out
  rw [Bool.and_eq_true] at hv0
  have hv1 := hv0.2
  have hn1 : N ≠ 1 := by simpa using hv0.1
  have hn0 : N ≠ 0 := Fq.valid.n hv1
  have HL : Hid (false = decide (C ≤ 0)) := Lib.hid (by symm; apply decide_eq_false; rw [← hC.out]; unfold cmpI; rw [if_neg (by omega), if_pos (by omega)]; decide)
  clear hv0
  go_upto_region 15 with (fail)
  go_cut [63] (fun s_63 wx => s_63 = Value.bool false ∧ VarFB wx w.heap.size false none 0 0 none 0 0 ∧ VarI wx g6 M ∧ VarI wx g8 N ∧ Below w.heap.size w wx)
  case first =>
    refine tG Try.f15 15 (rP3ttT6 N C) [] 3 0 ?_ ?_
    · refine ⟨fun _ _ F => gR rfl rfl (arm_load rfl (F.k 8 (Value.pointer (some ⟨g8, 0, none⟩))) (V8.mono F.below)).b, ?_⟩
      refine ⟨fun _ _ F => gR rfl rfl (arm_C1 rfl (enters Try.func54 rfl rfl) Is.const (fun va w h1 => by have e_va : va = _ := h1; subst e_va; exact c_ref_Of 1 w (by decide)) (fun _ _ h => ofNew h)).b, ?_⟩
      refine ⟨fun _ _ F => gR rfl rfl (arm_C2 rfl (enters Try.func60 rfl rfl) (F.f 0 rfl) (F.f 1 rfl) (fun va vb w h1 h2 => c_ref_Cmp va vb N 1 w h1 h2 (Nat.le_trans (parse_nlU hb) (by decide)) (by decide)) (fun _ _ h => by have h' : RetV _ _ _ _ := h; rw [hC.out] at h'; exact ofV h')).b, ?_⟩
      refine ⟨fun _ _ F => gR rfl rfl (arm_bin rfl (F.f 2 rfl) Is.const (fun _ => rfl) (fun w => by rw [HL.out]; rfl)).b, ?_⟩
      exact trivial
    intro E' hE gp wp bp G Gs
    obtain rfl : E' = [] := by simpa [subs] using hE
    have e_3 : gp 3 = Value.bool false := G 3 63 _ (by simp) rfl
    clear G Gs hE
    simp only [rP3ttT6]
    simp only [qA, setD, qZ, qS, e_3]
    refine wpAny_done (by kernel_rfl) ?_ _
    go_wp2_with fail
    go_meet
    case rel => exact ⟨rfl, (V0.mono bp V0.lt), (V6.mono bp), (V8.mono bp), (hb1.trans (bp.mono hb1.size))⟩
  case rest =>
  clear V0 V6 V8 hb1
  obtain ⟨rfl, V0, V6, V8, hb1⟩ := hcut
  rcases Bool.eq_false_or_eq_true B with rfl | rfl
  · have hv2 : (Fq.mk true M N).valid = true := hv1
    have HG : Hid (decide (Gd = 1) = true) := Lib.hid (by rw [hGd.out]; exact decide_eq_true (Fq.valid.g hv2))
    have HZ : Hid (decide (M = 0) = false) := Lib.hid (decide_eq_false (fun h9 => Fq.valid.s hv2 ⟨rfl, h9⟩))
    clear hv2
    go_upto_region 17 with (fail)
    go_cut [77] (fun s_77 wx => s_77 = Value.bool false ∧ VarFB wx w.heap.size false none 0 0 none 0 0 ∧ VarI wx g6 M ∧ VarI wx g8 N ∧ Below w.heap.size w wx)
    case first =>
      refine tF Try.f15 17 (rP3ttT7 M N Gd) [] 12 0 ?_ ?_
      · refine ⟨fun _ _ F => gR rfl rfl (arm_move (.inl rfl) (F.k 4 (Value.bool true))).b, ?_⟩
        refine ⟨fun _ _ F => gR rfl rfl (arm_move (.inl rfl) (F.f 0 rfl)).b, ?_⟩
        refine ⟨fun _ _ F => gG F rfl rfl rfl rfl (arm_load rfl (F.k 6 (Value.pointer (some ⟨g6, 0, none⟩))) (V6.mono F.below)).b, ?_⟩
        refine ⟨fun _ _ F => gG F rfl rfl rfl rfl (arm_C1 rfl (enters Try.func51 rfl rfl) (F.f 2 rfl) (fun va w h1 => c_zero va M w h1 (Nat.le_trans (parse_nlU ha) (by decide))) (fun _ _ h => by have h' : RetV _ _ _ _ := h; rw [HZ.out] at h'; exact ofV h')).b, ?_⟩
        refine ⟨fun _ _ F => gR rfl rfl (arm_pick rfl (F.f 1 rfl) (fun _ => (F.f 3 rfl)) (fun h => by cases h)).b, ?_⟩
        refine ⟨fun _ _ F => gR rfl rfl (arm_move (.inl rfl) (F.f 4 rfl)).b, ?_⟩
        refine ⟨fun _ _ F => gG F rfl rfl rfl rfl (arm_load rfl (F.k 6 (Value.pointer (some ⟨g6, 0, none⟩))) (V6.mono F.below)).b, ?_⟩
        refine ⟨fun _ _ F => gG F rfl rfl rfl rfl (arm_load rfl (F.k 8 (Value.pointer (some ⟨g8, 0, none⟩))) (V8.mono F.below)).b, ?_⟩
        refine ⟨fun _ _ F => gG F rfl rfl rfl rfl (arm_C2 rfl (enters Try.func53 rfl rfl) (F.f 6 rfl) (F.f 7 rfl) (fun va vb w h1 h2 => c_ref_Gcd va vb M N w h1 h2 (Nat.le_trans (parse_nlU ha) (by decide)) (Nat.le_trans (parse_nlU hb) (by decide))) (fun _ _ h => by rw [hGd.out]; exact ofN h)).b, ?_⟩
        refine ⟨fun _ _ F => gG F rfl rfl rfl rfl (arm_C1 rfl (enters Try.func54 rfl rfl) Is.const (fun va w h1 => by have e_va : va = _ := h1; subst e_va; exact c_ref_Of 1 w (by decide)) (fun _ _ h => ofNew h)).b, ?_⟩
        refine ⟨fun _ _ F => gG F rfl rfl rfl rfl (arm_C2 rfl (enters Try.func52 rfl rfl) (F.f 8 rfl) (F.f 9 rfl) (fun va vb w h1 h2 => c_ref_Same va vb Gd 1 w h1 h2 bG (by decide)) (fun _ _ h => by have h' : RetV _ _ _ _ := h; rw [HG.out] at h'; exact ofV h')).b, ?_⟩
        refine ⟨fun _ _ F => gG F rfl rfl rfl rfl (arm_not rfl (F.f 10 rfl)).b, ?_⟩
        refine ⟨fun _ _ F => gR rfl rfl (arm_pick rfl (F.f 5 rfl) (fun h => by cases h) (fun _ => (F.f 11 rfl))).b, ?_⟩
        exact trivial
      intro E' hE gp wp bp G Gs
      obtain rfl : E' = [] := by simpa [subs] using hE
      have e_12 : gp 12 = Value.bool false := G 12 77 _ (by simp) rfl
      clear G Gs hE
      simp only [rP3ttT7]
      simp only [qA, setD, qZ, qS, e_12]
      refine wpAny_done (by kernel_rfl) ?_ _
      go_wp2_with fail
      go_meet
      case rel => exact ⟨rfl, (V0.mono bp V0.lt), (V6.mono bp), (V8.mono bp), (hb1.trans (bp.mono hb1.size))⟩
    case rest =>
    clear V0 V6 V8 hb1
    obtain ⟨rfl, V0, V6, V8, hb1⟩ := hcut
    go_upto_region 19 with (fail)
    go_cut [3] (fun s_3 wx => s_3 = Value.int IntKind.i64 0 ∧ VarQ wx w.heap.size (Fq.mk true M N) ∧ VarI wx g6 M ∧ VarI wx g8 N ∧ Below w.heap.size w wx)
    case first =>
      refine tF Try.f15 19 (rP3ttT8 M N) [] 4 2 ?_ ?_
      · refine ⟨fun _ _ F => gR rfl rfl (arm_move (.inl rfl) (F.k 4 (Value.bool true))).b, ?_⟩
        refine ⟨fun _ _ F => gR rfl rfl (arm_load rfl (F.k 6 (Value.pointer (some ⟨g6, 0, none⟩))) (V6.mono F.below)).b, ?_⟩
        refine ⟨fun _ _ F => gR rfl rfl (arm_load rfl (F.k 8 (Value.pointer (some ⟨g8, 0, none⟩))) (V8.mono F.below)).b, ?_⟩
        refine ⟨fun _ _ F => gR rfl rfl (arm_buildF rfl (F.f 0 rfl) (F.f 1 rfl) (F.f 2 rfl)).b, ?_⟩
        exact trivial
      intro E' hE gp wp bp G Gs
      obtain rfl : E' = [] := by simpa [subs] using hE
      have n_3 : (Sp.fq (Fq.mk true M N)).p wp (gp 3) := G 3 82 _ (by simp) rfl
      clear G Gs hE
      simp only [rP3ttT8]
      simp only [qA, setD, qZ, qS]
      have T0 := (V0.mono bp V0.lt)
      refine wpAny_storeFr (j := 4) (by kernel_rfl) rfl rfl rfl rfl rfl n_3 T0.any ?_
      intro w0 u0 v0
      have O0 := T0.own
      refine wpAny_takeD (i := 5) (d := some 3) (v := Value.int IntKind.i64 0) rfl rfl (by kernel_rfl) (by kernel_rfl) (by kernel_rfl) (fun _ _ _ h => h) (Or.inl ⟨by rfl, fun w => by rfl⟩) ?_
      try simp only [qP, qZ, qS]
      refine wpAny_done (by kernel_rfl) ?_ _
      go_wp2_with fail
      go_meet
      case rel => exact ⟨rfl, v0, ((V6.mono bp).upd O0 u0 (by omega)), ((V8.mono bp).upd O0 u0 (by omega)), (Upd.below (hb1.trans (bp.mono hb1.size)) u0 (by omega))⟩
    case rest =>
    clear V0 V6 V8 hb1
    obtain ⟨rfl, V0, V6, V8, hb1⟩ := hcut
    obtain ⟨r1, r2, r3, r4, rV, rn, rm⟩ := V0
    have c0 := rV.cell0
    have c1 := rV.cell1
    have c2 := rV.cell2
    go_wp2
    exact bodyPost_ret (res_FE rfl rfl rfl rV) rfl ⟨_, rfl, ⟨r1, r2, r3, r4, rfl, rn, rm⟩, hb1⟩
  · have hv2 : (Fq.mk false M N).valid = true := hv1
    have HG : Hid (decide (Gd = 1) = true) := Lib.hid (by rw [hGd.out]; exact decide_eq_true (Fq.valid.g hv2))
    clear hv2
    go_upto_region 17 with (fail)
    go_cut [77] (fun s_77 wx => s_77 = Value.bool false ∧ VarFB wx w.heap.size false none 0 0 none 0 0 ∧ VarI wx g6 M ∧ VarI wx g8 N ∧ Below w.heap.size w wx)
    case first =>
      refine tF Try.f15 17 (rP3ttT9 M N Gd) [] 12 0 ?_ ?_
      · refine ⟨fun _ _ F => gR rfl rfl (arm_move (.inl rfl) (F.k 4 (Value.bool false))).b, ?_⟩
        refine ⟨fun _ _ F => gR rfl rfl (arm_move (.inl rfl) (F.f 0 rfl)).b, ?_⟩
        refine ⟨fun _ _ F => gS F rfl rfl rfl rfl rfl rfl, ?_⟩
        refine ⟨fun _ _ F => gS F rfl rfl rfl rfl rfl rfl, ?_⟩
        refine ⟨fun _ _ F => gR rfl rfl (arm_pick rfl (F.f 1 rfl) (fun h => by cases h) (fun _ => Is.const)).b, ?_⟩
        refine ⟨fun _ _ F => gR rfl rfl (arm_move (.inl rfl) (F.f 4 rfl)).b, ?_⟩
        refine ⟨fun _ _ F => gG F rfl rfl rfl rfl (arm_load rfl (F.k 6 (Value.pointer (some ⟨g6, 0, none⟩))) (V6.mono F.below)).b, ?_⟩
        refine ⟨fun _ _ F => gG F rfl rfl rfl rfl (arm_load rfl (F.k 8 (Value.pointer (some ⟨g8, 0, none⟩))) (V8.mono F.below)).b, ?_⟩
        refine ⟨fun _ _ F => gG F rfl rfl rfl rfl (arm_C2 rfl (enters Try.func53 rfl rfl) (F.f 6 rfl) (F.f 7 rfl) (fun va vb w h1 h2 => c_ref_Gcd va vb M N w h1 h2 (Nat.le_trans (parse_nlU ha) (by decide)) (Nat.le_trans (parse_nlU hb) (by decide))) (fun _ _ h => by rw [hGd.out]; exact ofN h)).b, ?_⟩
        refine ⟨fun _ _ F => gG F rfl rfl rfl rfl (arm_C1 rfl (enters Try.func54 rfl rfl) Is.const (fun va w h1 => by have e_va : va = _ := h1; subst e_va; exact c_ref_Of 1 w (by decide)) (fun _ _ h => ofNew h)).b, ?_⟩
        refine ⟨fun _ _ F => gG F rfl rfl rfl rfl (arm_C2 rfl (enters Try.func52 rfl rfl) (F.f 8 rfl) (F.f 9 rfl) (fun va vb w h1 h2 => c_ref_Same va vb Gd 1 w h1 h2 bG (by decide)) (fun _ _ h => by have h' : RetV _ _ _ _ := h; rw [HG.out] at h'; exact ofV h')).b, ?_⟩
        refine ⟨fun _ _ F => gG F rfl rfl rfl rfl (arm_not rfl (F.f 10 rfl)).b, ?_⟩
        refine ⟨fun _ _ F => gR rfl rfl (arm_pick rfl (F.f 5 rfl) (fun h => by cases h) (fun _ => (F.f 11 rfl))).b, ?_⟩
        exact trivial
      intro E' hE gp wp bp G Gs
      obtain rfl : E' = [] := by simpa [subs] using hE
      have e_12 : gp 12 = Value.bool false := G 12 77 _ (by simp) rfl
      clear G Gs hE
      simp only [rP3ttT9]
      simp only [qA, setD, qZ, qS, e_12]
      refine wpAny_done (by kernel_rfl) ?_ _
      go_wp2_with fail
      go_meet
      case rel => exact ⟨rfl, (V0.mono bp V0.lt), (V6.mono bp), (V8.mono bp), (hb1.trans (bp.mono hb1.size))⟩
    case rest =>
    clear V0 V6 V8 hb1
    obtain ⟨rfl, V0, V6, V8, hb1⟩ := hcut
    go_upto_region 19 with (fail)
    go_cut [3] (fun s_3 wx => s_3 = Value.int IntKind.i64 0 ∧ VarQ wx w.heap.size (Fq.mk false M N) ∧ VarI wx g6 M ∧ VarI wx g8 N ∧ Below w.heap.size w wx)
    case first =>
      refine tF Try.f15 19 (rP3ttT10 M N) [] 4 2 ?_ ?_
      · refine ⟨fun _ _ F => gR rfl rfl (arm_move (.inl rfl) (F.k 4 (Value.bool false))).b, ?_⟩
        refine ⟨fun _ _ F => gR rfl rfl (arm_load rfl (F.k 6 (Value.pointer (some ⟨g6, 0, none⟩))) (V6.mono F.below)).b, ?_⟩
        refine ⟨fun _ _ F => gR rfl rfl (arm_load rfl (F.k 8 (Value.pointer (some ⟨g8, 0, none⟩))) (V8.mono F.below)).b, ?_⟩
        refine ⟨fun _ _ F => gR rfl rfl (arm_buildF rfl (F.f 0 rfl) (F.f 1 rfl) (F.f 2 rfl)).b, ?_⟩
        exact trivial
      intro E' hE gp wp bp G Gs
      obtain rfl : E' = [] := by simpa [subs] using hE
      have n_3 : (Sp.fq (Fq.mk false M N)).p wp (gp 3) := G 3 82 _ (by simp) rfl
      clear G Gs hE
      simp only [rP3ttT10]
      simp only [qA, setD, qZ, qS]
      have T0 := (V0.mono bp V0.lt)
      refine wpAny_storeFr (j := 4) (by kernel_rfl) rfl rfl rfl rfl rfl n_3 T0.any ?_
      intro w0 u0 v0
      have O0 := T0.own
      refine wpAny_takeD (i := 5) (d := some 3) (v := Value.int IntKind.i64 0) rfl rfl (by kernel_rfl) (by kernel_rfl) (by kernel_rfl) (fun _ _ _ h => h) (Or.inl ⟨by rfl, fun w => by rfl⟩) ?_
      try simp only [qP, qZ, qS]
      refine wpAny_done (by kernel_rfl) ?_ _
      go_wp2_with fail
      go_meet
      case rel => exact ⟨rfl, v0, ((V6.mono bp).upd O0 u0 (by omega)), ((V8.mono bp).upd O0 u0 (by omega)), (Upd.below (hb1.trans (bp.mono hb1.size)) u0 (by omega))⟩
    case rest =>
    clear V0 V6 V8 hb1
    obtain ⟨rfl, V0, V6, V8, hb1⟩ := hcut
    obtain ⟨r1, r2, r3, r4, rV, rn, rm⟩ := V0
    have c0 := rV.cell0
    have c1 := rV.cell1
    have c2 := rV.cell2
    go_wp2
    exact bodyPost_ret (res_FE rfl rfl rfl rV) rfl ⟨_, rfl, ⟨r1, r2, r3, r4, rfl, rn, rm⟩, hb1⟩
def rP3ftT0 (t : ByteArray) (a : ByteArray) (M : Nat) (i : Nat) (base : Nat) : List (Nat × Tmp × Sp) :=
   [(0, 33, .val (Value.string t)),
    (1, 34, .val (Value.int IntKind.i64 (i : Int))),
    (2, 35, .val (Value.string a)),
    (3, 36, .pair (.nat (M)) (.val (Value.int IntKind.i64 0))),
    (4, 32, .pair (.nat (M)) (.val (Value.int IntKind.i64 0))),
    (5, 37, .nat (M)),
    (6, 38, .val (Value.int IntKind.i64 0)),
    (7, 6, .var base)]
def rP3ftT1  : List (Nat × Tmp × Sp) :=
   [(0, 39, .val (Value.int IntKind.i64 0)),
    (1, 40, .val (Value.bool false))]
def rP3ftT2 (base : Nat) : List (Nat × Tmp × Sp) :=
   [(0, 43, .nat (1)),
    (1, 8, .var base)]
def rP3ftT3 (t : ByteArray) (i : Nat) : List (Nat × Tmp × Sp) :=
   [(0, 44, .val (Value.int IntKind.i64 (i : Int))),
    (1, 45, .val (Value.string t)),
    (2, 46, .val (Value.int IntKind.i64 (t.size : Int))),
    (3, 47, .val (Value.bool true))]
def rP3ftT4 (t : ByteArray) (b : ByteArray) (N : Nat) (i : Nat) : List (Nat × Tmp × Sp) :=
   [(0, 49, .val (Value.string t)),
    (1, 50, .val (Value.int IntKind.i64 (i : Int))),
    (2, 51, .val (Value.int IntKind.i64 ((i + 1 : Nat) : Int))),
    (3, 52, .val (Value.string b)),
    (4, 53, .pair (.nat (N)) (.val (Value.int IntKind.i64 0))),
    (5, 48, .pair (.nat (N)) (.val (Value.int IntKind.i64 0))),
    (6, 54, .nat (N)),
    (7, 55, .val (Value.int IntKind.i64 0))]
def rP3ftT5  : List (Nat × Tmp × Sp) :=
   [(0, 56, .val (Value.int IntKind.i64 0)),
    (1, 57, .val (Value.bool false))]
def rP3ftT6 (N : Nat) (C : Int) : List (Nat × Tmp × Sp) :=
   [(0, 60, .nat (N)),
    (1, 61, .nat (1)),
    (2, 62, .val (Value.int IntKind.i64 C)),
    (3, 63, .val (Value.bool true))]
def rP3ftT7  : List (Nat × Tmp × Sp) :=
   [(0, 64, .fq Fq.zero)]
def rP3ftT8 (N : Nat) (C : Int) : List (Nat × Tmp × Sp) :=
   [(0, 60, .nat (N)),
    (1, 61, .nat (1)),
    (2, 62, .val (Value.int IntKind.i64 C)),
    (3, 63, .val (Value.bool false))]
def rP3ftT9 (M : Nat) : List (Nat × Tmp × Sp) :=
   [(0, 65, .val (Value.bool true)),
    (1, 66, .val (Value.bool true)),
    (2, 67, .nat (M)),
    (3, 68, .val (Value.bool true)),
    (4, 69, .val (Value.bool true)),
    (5, 70, .val (Value.bool true)),
    (6, 71, .val undef),
    (7, 72, .val undef),
    (8, 73, .val undef),
    (9, 74, .val undef),
    (10, 75, .val undef),
    (11, 76, .val undef),
    (12, 77, .val (Value.bool true))]
def rP3ftT10  : List (Nat × Tmp × Sp) :=
   [(0, 78, .fq Fq.zero)]
def rP3ftT11 (M : Nat) (N : Nat) (Gd : Nat) : List (Nat × Tmp × Sp) :=
   [(0, 65, .val (Value.bool true)),
    (1, 66, .val (Value.bool true)),
    (2, 67, .nat (M)),
    (3, 68, .val (Value.bool false)),
    (4, 69, .val (Value.bool false)),
    (5, 70, .val (Value.bool false)),
    (6, 71, .nat (M)),
    (7, 72, .nat (N)),
    (8, 73, .nat (Gd)),
    (9, 74, .nat (1)),
    (10, 75, .val (Value.bool false)),
    (11, 76, .val (Value.bool true)),
    (12, 77, .val (Value.bool true))]
def rP3ftT12  : List (Nat × Tmp × Sp) :=
   [(0, 78, .fq Fq.zero)]
def rP3ftT13 (M : Nat) (N : Nat) (Gd : Nat) : List (Nat × Tmp × Sp) :=
   [(0, 65, .val (Value.bool false)),
    (1, 66, .val (Value.bool false)),
    (2, 67, .val undef),
    (3, 68, .val undef),
    (4, 69, .val (Value.bool false)),
    (5, 70, .val (Value.bool false)),
    (6, 71, .nat (M)),
    (7, 72, .nat (N)),
    (8, 73, .nat (Gd)),
    (9, 74, .nat (1)),
    (10, 75, .val (Value.bool false)),
    (11, 76, .val (Value.bool true)),
    (12, 77, .val (Value.bool true))]
def rP3ftT14  : List (Nat × Tmp × Sp) :=
   [(0, 78, .fq Fq.zero)]
set_option maxHeartbeats 4000000 in
theorem rP_bad_true (s t a b : ByteArray) (B : Bool) (M : Nat) (w : World) (HP : Pieces s t B true a b) (hs : s.size ≤ 4294967280) (ha : ParseIs a M 0) (N : Nat) (hb : ParseIs b N 0) (hv : parseV B true M N = false) :
    Calls Try.prog 15 #[.string s] w fun e w' => RetQE w .zero 2 e w' := by
  have hts : t.size ≤ 4294967280 := Nat.le_trans (pieces_size HP) hs
  obtain ⟨i, HI0, HA0, HB0⟩ := pieces_idx HP
  have HI := Lib.hid HI0
  have HA := Lib.hid HA0
  have HB := Lib.hid (HB0 rfl)
  have LT : Hid (true = decide ((i : Int) < (t.size : Int))) := Lib.hid (by symm; apply decide_eq_true; have := (HI0.hit rfl).1; omega)
  have HR := Lib.hid HP.rest
  have HS := Lib.hid HP.sign
  clear HI0 HA0 HB0 HP
  have bM : nl M ≤ 1000000000000 := Nat.le_trans (parse_nlU ha) (by decide)
  have bM2 : nl M ≤ 100000000000 := Nat.le_trans (parse_nlU ha) (by decide)
  have bN : nl N ≤ 1000000000000 := Nat.le_trans (parse_nlU hb) (by decide)
  have bN2 : nl N ≤ 100000000000 := Nat.le_trans (parse_nlU hb) (by decide)
  obtain ⟨Gd, hGd⟩ : ∃ N' : Nat, Hid (N' = Nat.gcd M N) := ⟨_, Lib.hid rfl⟩
  have bG : nl Gd ≤ 1000000000000 := by rw [hGd.out]; exact (Nat.eq_zero_or_pos M).elim (fun h => by rw [h, Nat.gcd_zero_left]; exact bN) (fun h => Nat.le_trans (nl_mono (Nat.gcd_le_left _ h)) bM)
  obtain ⟨C, hC⟩ : ∃ C : Int, Hid (cmpI N 1 = C) := ⟨_, Lib.hid rfl⟩
  have HV := Lib.hid hv
  clear hv
  obtain ⟨m0, k0⟩ := resF (w := w)
  go_enter Try.func15, Try.ntmps15
  go_upto_region 0 with (fail)
  go_cut [2, 3] (fun s_2 s_3 wx => s_2 = Value.pointer (some ⟨w.heap.size, 0, none⟩) ∧ s_3 = Value.int IntKind.i64 0 ∧ VarFB wx w.heap.size false none 0 0 none 0 0 ∧ Below w.heap.size w wx)
  case first =>
    go_wp2_with fail
    go_meet
    case rel => exact ⟨rfl, rfl, k0, m0⟩
  case rest =>
  clear m0 k0
  obtain ⟨rfl, rfl, V0, hb1⟩ := hcut
  go_upto_region 1 with (fail)
  go_cut [4] (fun s_4 wx => s_4 = .bool B ∧ VarFB wx w.heap.size false none 0 0 none 0 0 ∧ Below w.heap.size w wx)
  case first =>
    by_cases hp : 0 < s.size
    · have hi : (0 : Int) < (s.size : Int) := by omega
      by_cases hz : by' s 0 = 45
      · have hz' : (((s[0]'hp).toNat : Nat) : Int) = 45 := by rw [by_eq, hz]; rfl
        obtain rfl : B = true := by rw [← HS.out]; exact decide_eq_true ⟨hp, hz⟩
        clear hz
        go_wp2_with fail
        go_meet
        case rel => exact ⟨rfl, V0, hb1⟩
      · have hz' : ¬ (((s[0]'hp).toNat : Nat) : Int) = 45 := by rw [by_eq]; omega
        obtain rfl : B = false := by rw [← HS.out]; exact decide_eq_false (fun h => hz h.2)
        have hz2 : ((((s[0]'hp).toNat : Nat) : Int) == 45) = false := by simpa using hz'
        clear hz
        go_wp2_with fail
        go_meet
        case rel => exact ⟨by first | rfl | rw [hz2], V0, hb1⟩
    · have hi : ¬ (0 : Int) < (s.size : Int) := by omega
      obtain rfl : B = false := by rw [← HS.out]; exact decide_eq_false (fun h => hp h.1)
      go_wp2_with fail
      go_meet
      case rel => exact ⟨rfl, V0, hb1⟩
  case rest =>
  clear V0 hb1
  obtain ⟨rfl, V0, hb1⟩ := hcut
  have hK := ‹∀ (a : Act) (w : World), Code.wp Try.prog _ _ a w → _›
  refine hK _ _ ?_
  clear hK
  refine wp_seq_k (fun K hK => ?_)
  go_cut [0] (fun s_0 wx => s_0 = .string t ∧ VarFB wx w.heap.size false none 0 0 none 0 0 ∧ Below w.heap.size w wx)
  case first =>
    cases B
    · obtain rfl : t = s := HR.out
      go_wp2_with fail
      go_meet
      case rel => exact ⟨rfl, V0, hb1⟩
    · have hp : (1 : Int) ≤ (s.size : Int) := by have := (of_decide_eq_true HS.out).1; omega
      have ht : t = s.extract 1 s.size := HR.out
      have HT := Lib.hid ht
      clear ht
      go_wp2_with fail
      go_meet
      case rel => exact ⟨by rw [HT.out], V0, hb1⟩
  case rest =>
  clear V0 hb1
  obtain ⟨rfl, V0, hb1⟩ := hcut
  go_upto_block 0 with (fail)
  go_cut [5] (fun s_5 wx => s_5 = .int .i64 (i : Int) ∧ VarFB wx w.heap.size false none 0 0 none 0 0 ∧ Below w.heap.size w wx)
  case first =>
    go_wp2_with fail
    go_loopw [5] (fun s5 wr => ∃ k : Nat, k ≤ i ∧ s5 = .int .i64 (k : Int) ∧ wr = wc) (fun s5 _ => i - (intOf s5).toNat)
    case atStart => exact ⟨0, Nat.zero_le _, rfl, rfl⟩
    case round =>
      obtain ⟨k, hk, rfl, rfl⟩ := hrel
      by_cases hlt : k < i
      · have hk2 : k < t.size := Nat.lt_of_lt_of_le hlt HI.out.le
        have hk3 : (k : Int) < (t.size : Int) := by omega
        have hz' : ¬ (((t[k]'hk2).toNat : Nat) : Int) = 47 := by rw [by_eq]; have := HI.out.before k hlt; omega
        go_wp2_with fail
        go_roundw
        case rel => exact ⟨k + 1, by omega, by go_num, trivial⟩
        case measure => simp [intOf] <;> omega
      · obtain rfl : k = i := by omega
        have hk2 : k < t.size := (HI.out.hit rfl).1
        have hk3 : (k : Int) < (t.size : Int) := by omega
        have hz' : (((t[k]'hk2).toNat : Nat) : Int) = 47 := by rw [by_eq, (HI.out.hit rfl).2]; rfl
        go_wp2_with fail
        go_meet
        case rel => exact ⟨rfl, V0, hb1⟩
  case rest =>
  clear V0 hb1
  obtain ⟨rfl, V0, hb1⟩ := hcut
  go_upto_region 7 with (fail)
  go_cut [6, 7] (fun s_6 s_7 wx => ∃ g6, s_6 = Value.pointer (some ⟨g6, 0, none⟩) ∧ s_7 = Value.int IntKind.i64 0 ∧ w.heap.size + 1 ≤ g6 ∧ VarI wx g6 M ∧ VarFB wx w.heap.size false none 0 0 none 0 0 ∧ Below w.heap.size w wx)
  case first =>
    obtain ⟨base, hbase0⟩ : ∃ b : Nat, Hid (b = wc.heap.size) := ⟨_, Lib.hid rfl⟩
    have hbase : base ≤ wc.heap.size := by rw [hbase0.out]; exact Nat.le_refl _
    have hbw : w.heap.size + 1 ≤ base := by have := hb1.size; have h1 := V0.lt; rw [hbase0.out]; omega
    have l_V0 : w.heap.size < base := by rw [hbase0.out]; exact V0.lt
    refine wp_tabGF Try.f15 7 (rP3ftT0 t a M i base) [6] (fun i => i == 7) 7 2 (by kernel_rfl) (by kernel_rfl) (by kernel_rfl) (by kernel_rfl) (by kernel_rfl) ⟨fun h => (by cases h), ⟨fun h => (by cases h), ⟨fun h => (by cases h), ⟨fun h => (by cases h), ⟨fun h => (by cases h), ⟨fun h => (by cases h), ⟨fun h => (by cases h), ⟨fun _ w v h => Sp.var_lt h, trivial⟩⟩⟩⟩⟩⟩⟩⟩ ?_ ?_
    · refine ⟨fun _ _ F => gR rfl rfl (arm_move (.inl rfl) (F.k 0 (Value.string t))).b, ?_⟩
      refine ⟨fun _ _ F => gR rfl rfl (arm_move (.inl rfl) (F.k 5 (Value.int IntKind.i64 (i : Int)))).b, ?_⟩
      refine ⟨fun _ _ F => gR rfl rfl (arm_slTo rfl (F.f 0 rfl) (F.f 1 rfl) HI.out.le hts HA.out).b, ?_⟩
      refine ⟨fun _ _ F => gR rfl rfl (arm_C1 rfl (enters Try.func59 rfl rfl) (F.f 2 rfl) (fun va w h1 => by have e_va : va = _ := h1; subst e_va; exact c_ref_Parse a w _ _ ha) (fun _ _ h => ofP h)).b, ?_⟩
      refine ⟨fun _ _ F => gR rfl rfl (arm_move (.inl rfl) (F.f 3 rfl)).b, ?_⟩
      refine ⟨fun _ _ F => gR rfl rfl (arm_pair0 rfl (F.f 4 rfl)).b, ?_⟩
      refine ⟨fun _ _ F => gR rfl rfl (arm_pair1 rfl (F.f 4 rfl)).b, ?_⟩
      refine ⟨fun _ _ F => gR rfl rfl (arm_alloc rfl (Nat.le_trans hbase F.below.size)), ?_⟩
      exact trivial
    intro E' hE gp wp bp G Gs
    simp only [subs, List.map_cons, List.map_nil, List.nil_append, List.cons_append, List.mem_cons, List.not_mem_nil, or_false, List.append_nil] at hE
    rcases hE with rfl | rfl
    · obtain ⟨g6, e_7, lg_7, hv_7⟩ := G 7 6 _ (by simp) rfl
      have n_5 : (Sp.nat (M)).p wp (gp 5) := G 5 37 _ (by simp) rfl
      have e_6 : gp 6 = Value.int IntKind.i64 0 := G 6 38 _ (by simp) rfl
      clear G Gs
      simp only [rP3ftT0]
      simp only [qA, setD, qZ, qS, e_7, e_6]
      have T0 := hv_7
      refine wpAny_storeN (j := 8) (by kernel_rfl) rfl rfl rfl rfl rfl n_5 T0.any ?_
      intro w0 u0 v0
      have O0 := T0.own
      refine wpAny_takeD (i := 9) (d := some 7) (v := Value.int IntKind.i64 0) rfl rfl (by kernel_rfl) (by kernel_rfl) (by kernel_rfl) (fun _ _ _ h => h) (Or.inl ⟨by rfl, fun w => by rfl⟩) ?_
      try simp only [qP, qZ, qS]
      refine wpAny_done (by kernel_rfl) ?_ _
      go_wp2_with fail
      go_meet
      case rel => exact ⟨g6, rfl, rfl, (by omega), v0, ((V0.mono bp V0.lt).upd O0 u0 (by omega)), (Upd.below (hb1.trans (bp.mono hb1.size)) u0 (by omega))⟩
    · obtain ⟨g6, e_7, lg_7, hv_7⟩ := G 7 6 _ (by simp) rfl
      obtain ⟨x_4_0, x_4_1, e_4, n_4_0, rfl⟩ := G 4 32 _ (by simp) rfl
      have n_5 : (Sp.nat (M)).p wp (gp 5) := G 5 37 _ (by simp) rfl
      clear G Gs
      simp only [rP3ftT0]
      simp only [qA, setD, qZ, qS, e_7, e_4]
      refine wpAny_takeD (i := 6) (d := some 38) (v := Value.int IntKind.i64 0) rfl rfl (by kernel_rfl) (by kernel_rfl) (by kernel_rfl) (fun _ _ _ h => h) (Or.inl ⟨by rfl, fun w => by rfl⟩) ?_
      try simp only [qP, qZ, qS]
      have T0 := hv_7
      refine wpAny_storeN (j := 8) (by kernel_rfl) rfl rfl rfl rfl rfl n_5 T0.any ?_
      intro w0 u0 v0
      have O0 := T0.own
      refine wpAny_takeD (i := 9) (d := some 7) (v := Value.int IntKind.i64 0) rfl rfl (by kernel_rfl) (by kernel_rfl) (by kernel_rfl) (fun _ _ _ h => h) (Or.inl ⟨by rfl, fun w => by rfl⟩) ?_
      try simp only [qP, qZ, qS]
      refine wpAny_done (by kernel_rfl) ?_ _
      go_wp2_with fail
      go_meet
      case rel => exact ⟨g6, rfl, rfl, (by omega), v0, ((V0.mono bp V0.lt).upd O0 u0 (by omega)), (Upd.below (hb1.trans (bp.mono hb1.size)) u0 (by omega))⟩
  case rest =>
  clear V0 hb1
  obtain ⟨g6, rfl, rfl, lg6, V6, V0, hb1⟩ := hcut
  go_upto_region 8 with (fail)
  go_cut [40] (fun s_40 wx => s_40 = Value.bool false ∧ VarFB wx w.heap.size false none 0 0 none 0 0 ∧ VarI wx g6 M ∧ Below w.heap.size w wx)
  case first =>
    refine tF Try.f15 8 (rP3ftT1 ) [] 2 0 ?_ ?_
    · refine ⟨fun _ _ F => gR rfl rfl (arm_move (.inl rfl) (F.k 7 (Value.int IntKind.i64 0))).b, ?_⟩
      refine ⟨fun _ _ F => gR rfl rfl (arm_bin rfl (F.f 0 rfl) Is.const (fun _ => rfl) (fun _ => rfl)).b, ?_⟩
      exact trivial
    intro E' hE gp wp bp G Gs
    obtain rfl : E' = [] := by simpa [subs] using hE
    have e_1 : gp 1 = Value.bool false := G 1 40 _ (by simp) rfl
    clear G Gs hE
    simp only [rP3ftT1]
    simp only [qA, setD, qZ, qS, e_1]
    refine wpAny_done (by kernel_rfl) ?_ _
    go_wp2_with fail
    go_meet
    case rel => exact ⟨rfl, (V0.mono bp V0.lt), (V6.mono bp), (hb1.trans (bp.mono hb1.size))⟩
  case rest =>
  clear V0 V6 hb1
  obtain ⟨rfl, V0, V6, hb1⟩ := hcut
  go_upto_region 10 with (fail)
  go_cut [8] (fun s_8 wx => ∃ g8, s_8 = Value.pointer (some ⟨g8, 0, none⟩) ∧ w.heap.size + 1 ≤ g8 ∧ g6 < g8 ∧ VarI wx g8 1 ∧ VarFB wx w.heap.size false none 0 0 none 0 0 ∧ VarI wx g6 M ∧ Below w.heap.size w wx)
  case first =>
    obtain ⟨base, hbase0⟩ : ∃ b : Nat, Hid (b = wc.heap.size) := ⟨_, Lib.hid rfl⟩
    have hbase : base ≤ wc.heap.size := by rw [hbase0.out]; exact Nat.le_refl _
    have hbw : w.heap.size + 1 ≤ base := by have := hb1.size; have h1 := V0.lt; rw [hbase0.out]; omega
    have l_V0 : w.heap.size < base := by rw [hbase0.out]; exact V0.lt
    have l_V6 : g6 < base := by rw [hbase0.out]; exact V6.lt
    refine wp_tabGF Try.f15 10 (rP3ftT2 base) [] (fun i => i == 1) 2 1 (by kernel_rfl) (by kernel_rfl) (by kernel_rfl) (by kernel_rfl) (by kernel_rfl) ⟨fun h => (by cases h), ⟨fun _ w v h => Sp.var_lt h, trivial⟩⟩ ?_ ?_
    · refine ⟨fun _ _ F => gR rfl rfl (arm_C1 rfl (enters Try.func54 rfl rfl) Is.const (fun va w h1 => by have e_va : va = _ := h1; subst e_va; exact c_ref_Of 1 w (by decide)) (fun _ _ h => ofNew h)).b, ?_⟩
      refine ⟨fun _ _ F => gR rfl rfl (arm_alloc rfl (Nat.le_trans hbase F.below.size)), ?_⟩
      exact trivial
    intro E' hE gp wp bp G Gs
    obtain rfl : E' = [] := by simpa [subs] using hE
    obtain ⟨g8, e_1, lg_1, hv_1⟩ := G 1 8 _ (by simp) rfl
    have n_0 : (Sp.nat (1)).p wp (gp 0) := G 0 43 _ (by simp) rfl
    clear G Gs hE
    simp only [rP3ftT2]
    simp only [qA, setD, qZ, qS, e_1]
    have T0 := hv_1
    refine wpAny_storeN (j := 2) (by kernel_rfl) rfl rfl rfl rfl rfl n_0 T0.any ?_
    intro w0 u0 v0
    have O0 := T0.own
    refine wpAny_done (by kernel_rfl) ?_ _
    go_wp2_with fail
    go_meet
    case rel => exact ⟨g8, rfl, (by omega), (by omega), v0, ((V0.mono bp V0.lt).upd O0 u0 (by omega)), ((V6.mono bp).upd O0 u0 (by omega)), (Upd.below (hb1.trans (bp.mono hb1.size)) u0 (by omega))⟩
  case rest =>
  clear V0 V6 hb1
  obtain ⟨g8, rfl, lg8, d10_0, V8, V0, V6, hb1⟩ := hcut
  go_upto_region 11 with (fail)
  go_cut [47] (fun s_47 wx => s_47 = Value.bool true ∧ VarFB wx w.heap.size false none 0 0 none 0 0 ∧ VarI wx g6 M ∧ VarI wx g8 1 ∧ Below w.heap.size w wx)
  case first =>
    refine tF Try.f15 11 (rP3ftT3 t i) [] 3 0 ?_ ?_
    · refine ⟨fun _ _ F => gR rfl rfl (arm_move (.inl rfl) (F.k 5 (Value.int IntKind.i64 (i : Int)))).b, ?_⟩
      refine ⟨fun _ _ F => gR rfl rfl (arm_move (.inl rfl) (F.k 0 (Value.string t))).b, ?_⟩
      refine ⟨fun _ _ F => gR rfl rfl (arm_lenStr rfl (F.f 1 rfl)).b, ?_⟩
      refine ⟨fun _ _ F => gR rfl rfl (arm_bin rfl (F.f 0 rfl) (F.f 2 rfl) (fun _ => rfl) (fun w => by rw [LT.out]; exact run_ltI _ _ _ w)).b, ?_⟩
      exact trivial
    intro E' hE gp wp bp G Gs
    obtain rfl : E' = [] := by simpa [subs] using hE
    have e_3 : gp 3 = Value.bool true := G 3 47 _ (by simp) rfl
    clear G Gs hE
    simp only [rP3ftT3]
    simp only [qA, setD, qZ, qS, e_3]
    refine wpAny_done (by kernel_rfl) ?_ _
    go_wp2_with fail
    go_meet
    case rel => exact ⟨rfl, (V0.mono bp V0.lt), (V6.mono bp), (V8.mono bp), (hb1.trans (bp.mono hb1.size))⟩
  case rest =>
  clear V0 V6 V8 hb1
  obtain ⟨rfl, V0, V6, V8, hb1⟩ := hcut
  go_upto_region 12 with (fail)
  go_cut [7] (fun s_7 wx => s_7 = Value.int IntKind.i64 0 ∧ VarFB wx w.heap.size false none 0 0 none 0 0 ∧ VarI wx g6 M ∧ VarI wx g8 N ∧ Below w.heap.size w wx)
  case first =>
    refine tF Try.f15 12 (rP3ftT4 t b N i) [7] 8 2 ?_ ?_
    · refine ⟨fun _ _ F => gR rfl rfl (arm_move (.inl rfl) (F.k 0 (Value.string t))).b, ?_⟩
      refine ⟨fun _ _ F => gR rfl rfl (arm_move (.inl rfl) (F.k 5 (Value.int IntKind.i64 (i : Int)))).b, ?_⟩
      refine ⟨fun _ _ F => gR rfl rfl (arm_bin rfl (F.f 1 rfl) Is.const (fun _ => rfl) (fun w => run_add1 _ (Nat.le_trans HI.out.le hts) w)).b, ?_⟩
      refine ⟨fun _ _ F => gR rfl rfl (arm_slFrom rfl (F.f 0 rfl) (F.f 2 rfl) (HI.out.hit rfl).1 hts HB.out).b, ?_⟩
      refine ⟨fun _ _ F => gR rfl rfl (arm_C1 rfl (enters Try.func59 rfl rfl) (F.f 3 rfl) (fun va w h1 => by have e_va : va = _ := h1; subst e_va; exact c_ref_Parse b w _ _ hb) (fun _ _ h => ofP h)).b, ?_⟩
      refine ⟨fun _ _ F => gR rfl rfl (arm_move (.inl rfl) (F.f 4 rfl)).b, ?_⟩
      refine ⟨fun _ _ F => gR rfl rfl (arm_pair0 rfl (F.f 5 rfl)).b, ?_⟩
      refine ⟨fun _ _ F => gR rfl rfl (arm_pair1 rfl (F.f 5 rfl)).b, ?_⟩
      exact trivial
    intro E' hE gp wp bp G Gs
    simp only [subs, List.map_cons, List.map_nil, List.nil_append, List.cons_append, List.mem_cons, List.not_mem_nil, or_false, List.append_nil] at hE
    rcases hE with rfl | rfl
    · have n_6 : (Sp.nat (N)).p wp (gp 6) := G 6 54 _ (by simp) rfl
      have e_7 : gp 7 = Value.int IntKind.i64 0 := G 7 55 _ (by simp) rfl
      clear G Gs
      simp only [rP3ftT4]
      simp only [qA, setD, qZ, qS, e_7]
      have T0 := (V8.mono bp)
      refine wpAny_storeN (j := 8) (by kernel_rfl) rfl rfl rfl rfl rfl n_6 T0.any ?_
      intro w0 u0 v0
      have O0 := T0.own
      refine wpAny_takeD (i := 9) (d := some 7) (v := Value.int IntKind.i64 0) rfl rfl (by kernel_rfl) (by kernel_rfl) (by kernel_rfl) (fun _ _ _ h => h) (Or.inl ⟨by rfl, fun w => by rfl⟩) ?_
      try simp only [qP, qZ, qS]
      refine wpAny_done (by kernel_rfl) ?_ _
      go_wp2_with fail
      go_meet
      case rel => exact ⟨rfl, ((V0.mono bp V0.lt).upd O0 u0 (by omega)), ((V6.mono bp).upd O0 u0 (by omega)), v0, (Upd.below (hb1.trans (bp.mono hb1.size)) u0 (by omega))⟩
    · obtain ⟨x_5_0, x_5_1, e_5, n_5_0, rfl⟩ := G 5 48 _ (by simp) rfl
      have n_6 : (Sp.nat (N)).p wp (gp 6) := G 6 54 _ (by simp) rfl
      clear G Gs
      simp only [rP3ftT4]
      simp only [qA, setD, qZ, qS, e_5]
      refine wpAny_takeD (i := 7) (d := some 55) (v := Value.int IntKind.i64 0) rfl rfl (by kernel_rfl) (by kernel_rfl) (by kernel_rfl) (fun _ _ _ h => h) (Or.inl ⟨by rfl, fun w => by rfl⟩) ?_
      try simp only [qP, qZ, qS]
      have T0 := (V8.mono bp)
      refine wpAny_storeN (j := 8) (by kernel_rfl) rfl rfl rfl rfl rfl n_6 T0.any ?_
      intro w0 u0 v0
      have O0 := T0.own
      refine wpAny_takeD (i := 9) (d := some 7) (v := Value.int IntKind.i64 0) rfl rfl (by kernel_rfl) (by kernel_rfl) (by kernel_rfl) (fun _ _ _ h => h) (Or.inl ⟨by rfl, fun w => by rfl⟩) ?_
      try simp only [qP, qZ, qS]
      refine wpAny_done (by kernel_rfl) ?_ _
      go_wp2_with fail
      go_meet
      case rel => exact ⟨rfl, ((V0.mono bp V0.lt).upd O0 u0 (by omega)), ((V6.mono bp).upd O0 u0 (by omega)), v0, (Upd.below (hb1.trans (bp.mono hb1.size)) u0 (by omega))⟩
  case rest =>
  clear V0 V6 V8 hb1
  obtain ⟨rfl, V0, V6, V8, hb1⟩ := hcut
  go_upto_region 13 with (fail)
  go_cut [57] (fun s_57 wx => s_57 = Value.bool false ∧ VarFB wx w.heap.size false none 0 0 none 0 0 ∧ VarI wx g6 M ∧ VarI wx g8 N ∧ Below w.heap.size w wx)
  case first =>
    refine tF Try.f15 13 (rP3ftT5 ) [] 2 0 ?_ ?_
    · refine ⟨fun _ _ F => gR rfl rfl (arm_move (.inl rfl) (F.k 7 (Value.int IntKind.i64 0))).b, ?_⟩
      refine ⟨fun _ _ F => gR rfl rfl (arm_bin rfl (F.f 0 rfl) Is.const (fun _ => rfl) (fun _ => rfl)).b, ?_⟩
      exact trivial
    intro E' hE gp wp bp G Gs
    obtain rfl : E' = [] := by simpa [subs] using hE
    have e_1 : gp 1 = Value.bool false := G 1 57 _ (by simp) rfl
    clear G Gs hE
    simp only [rP3ftT5]
    simp only [qA, setD, qZ, qS, e_1]
    refine wpAny_done (by kernel_rfl) ?_ _
    go_wp2_with fail
    go_meet
    case rel => exact ⟨rfl, (V0.mono bp V0.lt), (V6.mono bp), (V8.mono bp), (hb1.trans (bp.mono hb1.size))⟩
  case rest =>
  clear V0 V6 V8 hb1
  obtain ⟨rfl, V0, V6, V8, hb1⟩ := hcut
  by_cases hn : N ≤ 1
  · have HL : Hid (true = decide (C ≤ 0)) := Lib.hid (by symm; apply decide_eq_true; rw [← hC.out]; unfold cmpI; split; decide; rw [if_neg (by omega)]; decide)
    clear hn
    go_upto_region 15 with (fail)
    go_cut [63] (fun s_63 wx => s_63 = Value.bool true ∧ VarFB wx w.heap.size false none 0 0 none 0 0 ∧ VarI wx g6 M ∧ VarI wx g8 N ∧ Below w.heap.size w wx)
    case first =>
      refine tG Try.f15 15 (rP3ftT6 N C) [] 3 0 ?_ ?_
      · refine ⟨fun _ _ F => gR rfl rfl (arm_load rfl (F.k 8 (Value.pointer (some ⟨g8, 0, none⟩))) (V8.mono F.below)).b, ?_⟩
        refine ⟨fun _ _ F => gR rfl rfl (arm_C1 rfl (enters Try.func54 rfl rfl) Is.const (fun va w h1 => by have e_va : va = _ := h1; subst e_va; exact c_ref_Of 1 w (by decide)) (fun _ _ h => ofNew h)).b, ?_⟩
        refine ⟨fun _ _ F => gR rfl rfl (arm_C2 rfl (enters Try.func60 rfl rfl) (F.f 0 rfl) (F.f 1 rfl) (fun va vb w h1 h2 => c_ref_Cmp va vb N 1 w h1 h2 (Nat.le_trans (parse_nlU hb) (by decide)) (by decide)) (fun _ _ h => by have h' : RetV _ _ _ _ := h; rw [hC.out] at h'; exact ofV h')).b, ?_⟩
        refine ⟨fun _ _ F => gR rfl rfl (arm_bin rfl (F.f 2 rfl) Is.const (fun _ => rfl) (fun w => by rw [HL.out]; rfl)).b, ?_⟩
        exact trivial
      intro E' hE gp wp bp G Gs
      obtain rfl : E' = [] := by simpa [subs] using hE
      have e_3 : gp 3 = Value.bool true := G 3 63 _ (by simp) rfl
      clear G Gs hE
      simp only [rP3ftT6]
      simp only [qA, setD, qZ, qS, e_3]
      refine wpAny_done (by kernel_rfl) ?_ _
      go_wp2_with fail
      go_meet
      case rel => exact ⟨rfl, (V0.mono bp V0.lt), (V6.mono bp), (V8.mono bp), (hb1.trans (bp.mono hb1.size))⟩
    case rest =>
    clear V0 V6 V8 hb1
    obtain ⟨rfl, V0, V6, V8, hb1⟩ := hcut
    go_upto_region 16 with (fail)
    go_cut [3] (fun s_3 wx => s_3 = Value.int IntKind.i64 2 ∧ VarQ wx w.heap.size Fq.zero ∧ VarI wx g6 M ∧ VarI wx g8 N ∧ Below w.heap.size w wx)
    case first =>
      refine tF Try.f15 16 (rP3ftT7 ) [] 3 2 ?_ ?_
      · refine ⟨fun _ _ F => gR rfl rfl (arm_build0F rfl).b, ?_⟩
        exact trivial
      intro E' hE gp wp bp G Gs
      obtain rfl : E' = [] := by simpa [subs] using hE
      have n_0 : (Sp.fq Fq.zero).p wp (gp 0) := G 0 64 _ (by simp) rfl
      clear G Gs hE
      simp only [rP3ftT7]
      simp only [qA, setD, qZ, qS]
      have T0 := (V0.mono bp V0.lt)
      refine wpAny_storeFr (j := 1) (by kernel_rfl) rfl rfl rfl rfl rfl n_0 T0.any ?_
      intro w0 u0 v0
      have O0 := T0.own
      refine wpAny_takeD (i := 2) (d := some 3) (v := Value.int IntKind.i64 2) rfl rfl (by kernel_rfl) (by kernel_rfl) (by kernel_rfl) (fun _ _ _ h => h) (Or.inl ⟨by rfl, fun w => by rfl⟩) ?_
      try simp only [qP, qZ, qS]
      refine wpAny_done (by kernel_rfl) ?_ _
      go_wp2_with fail
      go_meet
      case rel => exact ⟨rfl, v0, ((V6.mono bp).upd O0 u0 (by omega)), ((V8.mono bp).upd O0 u0 (by omega)), (Upd.below (hb1.trans (bp.mono hb1.size)) u0 (by omega))⟩
    case rest =>
    clear V0 V6 V8 hb1
    obtain ⟨rfl, V0, V6, V8, hb1⟩ := hcut
    obtain ⟨r1, r2, r3, r4, rV, rn, rm⟩ := V0
    have c0 := rV.cell0
    have c1 := rV.cell1
    have c2 := rV.cell2
    go_wp2
    exact bodyPost_ret (res_FE rfl rfl rfl rV) rfl ⟨_, rfl, ⟨r1, r2, r3, r4, rfl, rn, rm⟩, hb1⟩
  · have hn0 : N ≠ 0 := by omega
    have hv1 : (Fq.mk B M N).valid = false := by have hv0 : (!decide (N = 1) && (Fq.mk B M N).valid) = false := HV.out; rw [decide_eq_false (show N ≠ 1 by omega)] at hv0; simpa using hv0
    have HL : Hid (false = decide (C ≤ 0)) := Lib.hid (by symm; apply decide_eq_false; rw [← hC.out]; unfold cmpI; rw [if_neg (by omega), if_pos (by omega)]; decide)
    clear hn
    go_upto_region 15 with (fail)
    go_cut [63] (fun s_63 wx => s_63 = Value.bool false ∧ VarFB wx w.heap.size false none 0 0 none 0 0 ∧ VarI wx g6 M ∧ VarI wx g8 N ∧ Below w.heap.size w wx)
    case first =>
      refine tG Try.f15 15 (rP3ftT8 N C) [] 3 0 ?_ ?_
      · refine ⟨fun _ _ F => gR rfl rfl (arm_load rfl (F.k 8 (Value.pointer (some ⟨g8, 0, none⟩))) (V8.mono F.below)).b, ?_⟩
        refine ⟨fun _ _ F => gR rfl rfl (arm_C1 rfl (enters Try.func54 rfl rfl) Is.const (fun va w h1 => by have e_va : va = _ := h1; subst e_va; exact c_ref_Of 1 w (by decide)) (fun _ _ h => ofNew h)).b, ?_⟩
        refine ⟨fun _ _ F => gR rfl rfl (arm_C2 rfl (enters Try.func60 rfl rfl) (F.f 0 rfl) (F.f 1 rfl) (fun va vb w h1 h2 => c_ref_Cmp va vb N 1 w h1 h2 (Nat.le_trans (parse_nlU hb) (by decide)) (by decide)) (fun _ _ h => by have h' : RetV _ _ _ _ := h; rw [hC.out] at h'; exact ofV h')).b, ?_⟩
        refine ⟨fun _ _ F => gR rfl rfl (arm_bin rfl (F.f 2 rfl) Is.const (fun _ => rfl) (fun w => by rw [HL.out]; rfl)).b, ?_⟩
        exact trivial
      intro E' hE gp wp bp G Gs
      obtain rfl : E' = [] := by simpa [subs] using hE
      have e_3 : gp 3 = Value.bool false := G 3 63 _ (by simp) rfl
      clear G Gs hE
      simp only [rP3ftT8]
      simp only [qA, setD, qZ, qS, e_3]
      refine wpAny_done (by kernel_rfl) ?_ _
      go_wp2_with fail
      go_meet
      case rel => exact ⟨rfl, (V0.mono bp V0.lt), (V6.mono bp), (V8.mono bp), (hb1.trans (bp.mono hb1.size))⟩
    case rest =>
    clear V0 V6 V8 hb1
    obtain ⟨rfl, V0, V6, V8, hb1⟩ := hcut
    rcases Bool.eq_false_or_eq_true B with rfl | rfl
    · have hv2 : (Fq.mk true M N).valid = false := hv1
      by_cases hz : M = 0
      · have HZ : Hid (decide (M = 0) = true) := Lib.hid (decide_eq_true hz)
        clear hz hv2
        go_upto_region 17 with (fail)
        go_cut [77] (fun s_77 wx => s_77 = Value.bool true ∧ VarFB wx w.heap.size false none 0 0 none 0 0 ∧ VarI wx g6 M ∧ VarI wx g8 N ∧ Below w.heap.size w wx)
        case first =>
          refine tF Try.f15 17 (rP3ftT9 M) [] 12 0 ?_ ?_
          · refine ⟨fun _ _ F => gR rfl rfl (arm_move (.inl rfl) (F.k 4 (Value.bool true))).b, ?_⟩
            refine ⟨fun _ _ F => gR rfl rfl (arm_move (.inl rfl) (F.f 0 rfl)).b, ?_⟩
            refine ⟨fun _ _ F => gG F rfl rfl rfl rfl (arm_load rfl (F.k 6 (Value.pointer (some ⟨g6, 0, none⟩))) (V6.mono F.below)).b, ?_⟩
            refine ⟨fun _ _ F => gG F rfl rfl rfl rfl (arm_C1 rfl (enters Try.func51 rfl rfl) (F.f 2 rfl) (fun va w h1 => c_zero va M w h1 (Nat.le_trans (parse_nlU ha) (by decide))) (fun _ _ h => by have h' : RetV _ _ _ _ := h; rw [HZ.out] at h'; exact ofV h')).b, ?_⟩
            refine ⟨fun _ _ F => gR rfl rfl (arm_pick rfl (F.f 1 rfl) (fun _ => (F.f 3 rfl)) (fun h => by cases h)).b, ?_⟩
            refine ⟨fun _ _ F => gR rfl rfl (arm_move (.inl rfl) (F.f 4 rfl)).b, ?_⟩
            refine ⟨fun _ _ F => gS F rfl rfl rfl rfl rfl rfl, ?_⟩
            refine ⟨fun _ _ F => gS F rfl rfl rfl rfl rfl rfl, ?_⟩
            refine ⟨fun _ _ F => gS F rfl rfl rfl rfl rfl rfl, ?_⟩
            refine ⟨fun _ _ F => gS F rfl rfl rfl rfl rfl rfl, ?_⟩
            refine ⟨fun _ _ F => gS F rfl rfl rfl rfl rfl rfl, ?_⟩
            refine ⟨fun _ _ F => gS F rfl rfl rfl rfl rfl rfl, ?_⟩
            refine ⟨fun _ _ F => gR rfl rfl (arm_pick rfl (F.f 5 rfl) (fun _ => Is.const) (fun h => by cases h)).b, ?_⟩
            exact trivial
          intro E' hE gp wp bp G Gs
          obtain rfl : E' = [] := by simpa [subs] using hE
          have e_12 : gp 12 = Value.bool true := G 12 77 _ (by simp) rfl
          clear G Gs hE
          simp only [rP3ftT9]
          simp only [qA, setD, qZ, qS, e_12]
          refine wpAny_done (by kernel_rfl) ?_ _
          go_wp2_with fail
          go_meet
          case rel => exact ⟨rfl, (V0.mono bp V0.lt), (V6.mono bp), (V8.mono bp), (hb1.trans (bp.mono hb1.size))⟩
        case rest =>
        clear V0 V6 V8 hb1
        obtain ⟨rfl, V0, V6, V8, hb1⟩ := hcut
        go_upto_region 18 with (fail)
        go_cut [3] (fun s_3 wx => s_3 = Value.int IntKind.i64 2 ∧ VarQ wx w.heap.size Fq.zero ∧ VarI wx g6 M ∧ VarI wx g8 N ∧ Below w.heap.size w wx)
        case first =>
          refine tF Try.f15 18 (rP3ftT10 ) [] 3 2 ?_ ?_
          · refine ⟨fun _ _ F => gR rfl rfl (arm_build0F rfl).b, ?_⟩
            exact trivial
          intro E' hE gp wp bp G Gs
          obtain rfl : E' = [] := by simpa [subs] using hE
          have n_0 : (Sp.fq Fq.zero).p wp (gp 0) := G 0 78 _ (by simp) rfl
          clear G Gs hE
          simp only [rP3ftT10]
          simp only [qA, setD, qZ, qS]
          have T0 := (V0.mono bp V0.lt)
          refine wpAny_storeFr (j := 1) (by kernel_rfl) rfl rfl rfl rfl rfl n_0 T0.any ?_
          intro w0 u0 v0
          have O0 := T0.own
          refine wpAny_takeD (i := 2) (d := some 3) (v := Value.int IntKind.i64 2) rfl rfl (by kernel_rfl) (by kernel_rfl) (by kernel_rfl) (fun _ _ _ h => h) (Or.inl ⟨by rfl, fun w => by rfl⟩) ?_
          try simp only [qP, qZ, qS]
          refine wpAny_done (by kernel_rfl) ?_ _
          go_wp2_with fail
          go_meet
          case rel => exact ⟨rfl, v0, ((V6.mono bp).upd O0 u0 (by omega)), ((V8.mono bp).upd O0 u0 (by omega)), (Upd.below (hb1.trans (bp.mono hb1.size)) u0 (by omega))⟩
        case rest =>
        clear V0 V6 V8 hb1
        obtain ⟨rfl, V0, V6, V8, hb1⟩ := hcut
        obtain ⟨r1, r2, r3, r4, rV, rn, rm⟩ := V0
        have c0 := rV.cell0
        have c1 := rV.cell1
        have c2 := rV.cell2
        go_wp2
        exact bodyPost_ret (res_FE rfl rfl rfl rV) rfl ⟨_, rfl, ⟨r1, r2, r3, r4, rfl, rn, rm⟩, hb1⟩
      · have HZ : Hid (decide (M = 0) = false) := Lib.hid (decide_eq_false hz)
        have HG : Hid (decide (Gd = 1) = false) := Lib.hid (by rw [hGd.out]; apply decide_eq_false; intro h9; rw [show (Fq.mk true M N).valid = true from decide_eq_true ⟨hn0, fun h8 => hz h8.2, h9⟩] at hv2; cases hv2)
        clear hz hv2
        go_upto_region 17 with (fail)
        go_cut [77] (fun s_77 wx => s_77 = Value.bool true ∧ VarFB wx w.heap.size false none 0 0 none 0 0 ∧ VarI wx g6 M ∧ VarI wx g8 N ∧ Below w.heap.size w wx)
        case first =>
          refine tF Try.f15 17 (rP3ftT11 M N Gd) [] 12 0 ?_ ?_
          · refine ⟨fun _ _ F => gR rfl rfl (arm_move (.inl rfl) (F.k 4 (Value.bool true))).b, ?_⟩
            refine ⟨fun _ _ F => gR rfl rfl (arm_move (.inl rfl) (F.f 0 rfl)).b, ?_⟩
            refine ⟨fun _ _ F => gG F rfl rfl rfl rfl (arm_load rfl (F.k 6 (Value.pointer (some ⟨g6, 0, none⟩))) (V6.mono F.below)).b, ?_⟩
            refine ⟨fun _ _ F => gG F rfl rfl rfl rfl (arm_C1 rfl (enters Try.func51 rfl rfl) (F.f 2 rfl) (fun va w h1 => c_zero va M w h1 (Nat.le_trans (parse_nlU ha) (by decide))) (fun _ _ h => by have h' : RetV _ _ _ _ := h; rw [HZ.out] at h'; exact ofV h')).b, ?_⟩
            refine ⟨fun _ _ F => gR rfl rfl (arm_pick rfl (F.f 1 rfl) (fun _ => (F.f 3 rfl)) (fun h => by cases h)).b, ?_⟩
            refine ⟨fun _ _ F => gR rfl rfl (arm_move (.inl rfl) (F.f 4 rfl)).b, ?_⟩
            refine ⟨fun _ _ F => gG F rfl rfl rfl rfl (arm_load rfl (F.k 6 (Value.pointer (some ⟨g6, 0, none⟩))) (V6.mono F.below)).b, ?_⟩
            refine ⟨fun _ _ F => gG F rfl rfl rfl rfl (arm_load rfl (F.k 8 (Value.pointer (some ⟨g8, 0, none⟩))) (V8.mono F.below)).b, ?_⟩
            refine ⟨fun _ _ F => gG F rfl rfl rfl rfl (arm_C2 rfl (enters Try.func53 rfl rfl) (F.f 6 rfl) (F.f 7 rfl) (fun va vb w h1 h2 => c_ref_Gcd va vb M N w h1 h2 (Nat.le_trans (parse_nlU ha) (by decide)) (Nat.le_trans (parse_nlU hb) (by decide))) (fun _ _ h => by rw [hGd.out]; exact ofN h)).b, ?_⟩
            refine ⟨fun _ _ F => gG F rfl rfl rfl rfl (arm_C1 rfl (enters Try.func54 rfl rfl) Is.const (fun va w h1 => by have e_va : va = _ := h1; subst e_va; exact c_ref_Of 1 w (by decide)) (fun _ _ h => ofNew h)).b, ?_⟩
            refine ⟨fun _ _ F => gG F rfl rfl rfl rfl (arm_C2 rfl (enters Try.func52 rfl rfl) (F.f 8 rfl) (F.f 9 rfl) (fun va vb w h1 h2 => c_ref_Same va vb Gd 1 w h1 h2 bG (by decide)) (fun _ _ h => by have h' : RetV _ _ _ _ := h; rw [HG.out] at h'; exact ofV h')).b, ?_⟩
            refine ⟨fun _ _ F => gG F rfl rfl rfl rfl (arm_not rfl (F.f 10 rfl)).b, ?_⟩
            refine ⟨fun _ _ F => gR rfl rfl (arm_pick rfl (F.f 5 rfl) (fun h => by cases h) (fun _ => (F.f 11 rfl))).b, ?_⟩
            exact trivial
          intro E' hE gp wp bp G Gs
          obtain rfl : E' = [] := by simpa [subs] using hE
          have e_12 : gp 12 = Value.bool true := G 12 77 _ (by simp) rfl
          clear G Gs hE
          simp only [rP3ftT11]
          simp only [qA, setD, qZ, qS, e_12]
          refine wpAny_done (by kernel_rfl) ?_ _
          go_wp2_with fail
          go_meet
          case rel => exact ⟨rfl, (V0.mono bp V0.lt), (V6.mono bp), (V8.mono bp), (hb1.trans (bp.mono hb1.size))⟩
        case rest =>
        clear V0 V6 V8 hb1
        obtain ⟨rfl, V0, V6, V8, hb1⟩ := hcut
        go_upto_region 18 with (fail)
        go_cut [3] (fun s_3 wx => s_3 = Value.int IntKind.i64 2 ∧ VarQ wx w.heap.size Fq.zero ∧ VarI wx g6 M ∧ VarI wx g8 N ∧ Below w.heap.size w wx)
        case first =>
          refine tF Try.f15 18 (rP3ftT12 ) [] 3 2 ?_ ?_
          · refine ⟨fun _ _ F => gR rfl rfl (arm_build0F rfl).b, ?_⟩
            exact trivial
          intro E' hE gp wp bp G Gs
          obtain rfl : E' = [] := by simpa [subs] using hE
          have n_0 : (Sp.fq Fq.zero).p wp (gp 0) := G 0 78 _ (by simp) rfl
          clear G Gs hE
          simp only [rP3ftT12]
          simp only [qA, setD, qZ, qS]
          have T0 := (V0.mono bp V0.lt)
          refine wpAny_storeFr (j := 1) (by kernel_rfl) rfl rfl rfl rfl rfl n_0 T0.any ?_
          intro w0 u0 v0
          have O0 := T0.own
          refine wpAny_takeD (i := 2) (d := some 3) (v := Value.int IntKind.i64 2) rfl rfl (by kernel_rfl) (by kernel_rfl) (by kernel_rfl) (fun _ _ _ h => h) (Or.inl ⟨by rfl, fun w => by rfl⟩) ?_
          try simp only [qP, qZ, qS]
          refine wpAny_done (by kernel_rfl) ?_ _
          go_wp2_with fail
          go_meet
          case rel => exact ⟨rfl, v0, ((V6.mono bp).upd O0 u0 (by omega)), ((V8.mono bp).upd O0 u0 (by omega)), (Upd.below (hb1.trans (bp.mono hb1.size)) u0 (by omega))⟩
        case rest =>
        clear V0 V6 V8 hb1
        obtain ⟨rfl, V0, V6, V8, hb1⟩ := hcut
        obtain ⟨r1, r2, r3, r4, rV, rn, rm⟩ := V0
        have c0 := rV.cell0
        have c1 := rV.cell1
        have c2 := rV.cell2
        go_wp2
        exact bodyPost_ret (res_FE rfl rfl rfl rV) rfl ⟨_, rfl, ⟨r1, r2, r3, r4, rfl, rn, rm⟩, hb1⟩
    · have hv2 : (Fq.mk false M N).valid = false := hv1
      have HG : Hid (decide (Gd = 1) = false) := Lib.hid (by rw [hGd.out]; apply decide_eq_false; intro h9; rw [show (Fq.mk false M N).valid = true from decide_eq_true ⟨hn0, fun h8 => (by cases h8.1), h9⟩] at hv2; cases hv2)
      clear hv2
      go_upto_region 17 with (fail)
      go_cut [77] (fun s_77 wx => s_77 = Value.bool true ∧ VarFB wx w.heap.size false none 0 0 none 0 0 ∧ VarI wx g6 M ∧ VarI wx g8 N ∧ Below w.heap.size w wx)
      case first =>
        refine tF Try.f15 17 (rP3ftT13 M N Gd) [] 12 0 ?_ ?_
        · refine ⟨fun _ _ F => gR rfl rfl (arm_move (.inl rfl) (F.k 4 (Value.bool false))).b, ?_⟩
          refine ⟨fun _ _ F => gR rfl rfl (arm_move (.inl rfl) (F.f 0 rfl)).b, ?_⟩
          refine ⟨fun _ _ F => gS F rfl rfl rfl rfl rfl rfl, ?_⟩
          refine ⟨fun _ _ F => gS F rfl rfl rfl rfl rfl rfl, ?_⟩
          refine ⟨fun _ _ F => gR rfl rfl (arm_pick rfl (F.f 1 rfl) (fun h => by cases h) (fun _ => Is.const)).b, ?_⟩
          refine ⟨fun _ _ F => gR rfl rfl (arm_move (.inl rfl) (F.f 4 rfl)).b, ?_⟩
          refine ⟨fun _ _ F => gG F rfl rfl rfl rfl (arm_load rfl (F.k 6 (Value.pointer (some ⟨g6, 0, none⟩))) (V6.mono F.below)).b, ?_⟩
          refine ⟨fun _ _ F => gG F rfl rfl rfl rfl (arm_load rfl (F.k 8 (Value.pointer (some ⟨g8, 0, none⟩))) (V8.mono F.below)).b, ?_⟩
          refine ⟨fun _ _ F => gG F rfl rfl rfl rfl (arm_C2 rfl (enters Try.func53 rfl rfl) (F.f 6 rfl) (F.f 7 rfl) (fun va vb w h1 h2 => c_ref_Gcd va vb M N w h1 h2 (Nat.le_trans (parse_nlU ha) (by decide)) (Nat.le_trans (parse_nlU hb) (by decide))) (fun _ _ h => by rw [hGd.out]; exact ofN h)).b, ?_⟩
          refine ⟨fun _ _ F => gG F rfl rfl rfl rfl (arm_C1 rfl (enters Try.func54 rfl rfl) Is.const (fun va w h1 => by have e_va : va = _ := h1; subst e_va; exact c_ref_Of 1 w (by decide)) (fun _ _ h => ofNew h)).b, ?_⟩
          refine ⟨fun _ _ F => gG F rfl rfl rfl rfl (arm_C2 rfl (enters Try.func52 rfl rfl) (F.f 8 rfl) (F.f 9 rfl) (fun va vb w h1 h2 => c_ref_Same va vb Gd 1 w h1 h2 bG (by decide)) (fun _ _ h => by have h' : RetV _ _ _ _ := h; rw [HG.out] at h'; exact ofV h')).b, ?_⟩
          refine ⟨fun _ _ F => gG F rfl rfl rfl rfl (arm_not rfl (F.f 10 rfl)).b, ?_⟩
          refine ⟨fun _ _ F => gR rfl rfl (arm_pick rfl (F.f 5 rfl) (fun h => by cases h) (fun _ => (F.f 11 rfl))).b, ?_⟩
          exact trivial
        intro E' hE gp wp bp G Gs
        obtain rfl : E' = [] := by simpa [subs] using hE
        have e_12 : gp 12 = Value.bool true := G 12 77 _ (by simp) rfl
        clear G Gs hE
        simp only [rP3ftT13]
        simp only [qA, setD, qZ, qS, e_12]
        refine wpAny_done (by kernel_rfl) ?_ _
        go_wp2_with fail
        go_meet
        case rel => exact ⟨rfl, (V0.mono bp V0.lt), (V6.mono bp), (V8.mono bp), (hb1.trans (bp.mono hb1.size))⟩
      case rest =>
      clear V0 V6 V8 hb1
      obtain ⟨rfl, V0, V6, V8, hb1⟩ := hcut
      go_upto_region 18 with (fail)
      go_cut [3] (fun s_3 wx => s_3 = Value.int IntKind.i64 2 ∧ VarQ wx w.heap.size Fq.zero ∧ VarI wx g6 M ∧ VarI wx g8 N ∧ Below w.heap.size w wx)
      case first =>
        refine tF Try.f15 18 (rP3ftT14 ) [] 3 2 ?_ ?_
        · refine ⟨fun _ _ F => gR rfl rfl (arm_build0F rfl).b, ?_⟩
          exact trivial
        intro E' hE gp wp bp G Gs
        obtain rfl : E' = [] := by simpa [subs] using hE
        have n_0 : (Sp.fq Fq.zero).p wp (gp 0) := G 0 78 _ (by simp) rfl
        clear G Gs hE
        simp only [rP3ftT14]
        simp only [qA, setD, qZ, qS]
        have T0 := (V0.mono bp V0.lt)
        refine wpAny_storeFr (j := 1) (by kernel_rfl) rfl rfl rfl rfl rfl n_0 T0.any ?_
        intro w0 u0 v0
        have O0 := T0.own
        refine wpAny_takeD (i := 2) (d := some 3) (v := Value.int IntKind.i64 2) rfl rfl (by kernel_rfl) (by kernel_rfl) (by kernel_rfl) (fun _ _ _ h => h) (Or.inl ⟨by rfl, fun w => by rfl⟩) ?_
        try simp only [qP, qZ, qS]
        refine wpAny_done (by kernel_rfl) ?_ _
        go_wp2_with fail
        go_meet
        case rel => exact ⟨rfl, v0, ((V6.mono bp).upd O0 u0 (by omega)), ((V8.mono bp).upd O0 u0 (by omega)), (Upd.below (hb1.trans (bp.mono hb1.size)) u0 (by omega))⟩
      case rest =>
      clear V0 V6 V8 hb1
      obtain ⟨rfl, V0, V6, V8, hb1⟩ := hcut
      obtain ⟨r1, r2, r3, r4, rV, rn, rm⟩ := V0
      have c0 := rV.cell0
      have c1 := rV.cell1
      have c2 := rV.cell2
      go_wp2
      exact bodyPost_ret (res_FE rfl rfl rfl rV) rfl ⟨_, rfl, ⟨r1, r2, r3, r4, rfl, rn, rm⟩, hb1⟩
def rP3tfT0 (t : ByteArray) (a : ByteArray) (M : Nat) (i : Nat) (base : Nat) : List (Nat × Tmp × Sp) :=
   [(0, 33, .val (Value.string t)),
    (1, 34, .val (Value.int IntKind.i64 (i : Int))),
    (2, 35, .val (Value.string a)),
    (3, 36, .pair (.nat (M)) (.val (Value.int IntKind.i64 0))),
    (4, 32, .pair (.nat (M)) (.val (Value.int IntKind.i64 0))),
    (5, 37, .nat (M)),
    (6, 38, .val (Value.int IntKind.i64 0)),
    (7, 6, .var base)]
def rP3tfT1  : List (Nat × Tmp × Sp) :=
   [(0, 39, .val (Value.int IntKind.i64 0)),
    (1, 40, .val (Value.bool false))]
def rP3tfT2 (base : Nat) : List (Nat × Tmp × Sp) :=
   [(0, 43, .nat (1)),
    (1, 8, .var base)]
def rP3tfT3 (t : ByteArray) (i : Nat) : List (Nat × Tmp × Sp) :=
   [(0, 44, .val (Value.int IntKind.i64 (i : Int))),
    (1, 45, .val (Value.string t)),
    (2, 46, .val (Value.int IntKind.i64 (t.size : Int))),
    (3, 47, .val (Value.bool false))]
def rP3tfT4 (M : Nat) (Gd : Nat) : List (Nat × Tmp × Sp) :=
   [(0, 65, .val (Value.bool true)),
    (1, 66, .val (Value.bool true)),
    (2, 67, .nat (M)),
    (3, 68, .val (Value.bool false)),
    (4, 69, .val (Value.bool false)),
    (5, 70, .val (Value.bool false)),
    (6, 71, .nat (M)),
    (7, 72, .nat (1)),
    (8, 73, .nat (Gd)),
    (9, 74, .nat (1)),
    (10, 75, .val (Value.bool true)),
    (11, 76, .val (Value.bool false)),
    (12, 77, .val (Value.bool false))]
def rP3tfT5 (M : Nat) : List (Nat × Tmp × Sp) :=
   [(0, 79, .val (Value.bool true)),
    (1, 80, .nat (M)),
    (2, 81, .nat (1)),
    (3, 82, .fq (Fq.mk true M 1))]
def rP3tfT6 (M : Nat) (Gd : Nat) : List (Nat × Tmp × Sp) :=
   [(0, 65, .val (Value.bool false)),
    (1, 66, .val (Value.bool false)),
    (2, 67, .val undef),
    (3, 68, .val undef),
    (4, 69, .val (Value.bool false)),
    (5, 70, .val (Value.bool false)),
    (6, 71, .nat (M)),
    (7, 72, .nat (1)),
    (8, 73, .nat (Gd)),
    (9, 74, .nat (1)),
    (10, 75, .val (Value.bool true)),
    (11, 76, .val (Value.bool false)),
    (12, 77, .val (Value.bool false))]
def rP3tfT7 (M : Nat) : List (Nat × Tmp × Sp) :=
   [(0, 79, .val (Value.bool false)),
    (1, 80, .nat (M)),
    (2, 81, .nat (1)),
    (3, 82, .fq (Fq.mk false M 1))]
set_option maxHeartbeats 4000000 in
theorem rP_good_false (s t a b : ByteArray) (B : Bool) (M : Nat) (w : World) (HP : Pieces s t B false a b) (hs : s.size ≤ 4294967280) (ha : ParseIs a M 0) (hv : parseV B false M 1 = true) :
    Calls Try.prog 15 #[.string s] w fun e w' => RetQE w ⟨B, M, 1⟩ 0 e w' := by
  have hts : t.size ≤ 4294967280 := Nat.le_trans (pieces_size HP) hs
  obtain ⟨i, HI0, HA0, HB0⟩ := pieces_idx HP
  have HI := Lib.hid HI0
  have HA := Lib.hid HA0
  have LT : Hid (false = decide ((i : Int) < (t.size : Int))) := Lib.hid (by symm; apply decide_eq_false; have := HI0.miss rfl; omega)
  have HR := Lib.hid HP.rest
  have HS := Lib.hid HP.sign
  clear HI0 HA0 HB0 HP
  have bM : nl M ≤ 1000000000000 := Nat.le_trans (parse_nlU ha) (by decide)
  have bM2 : nl M ≤ 100000000000 := Nat.le_trans (parse_nlU ha) (by decide)
  obtain ⟨Gd, hGd⟩ : ∃ N' : Nat, Hid (N' = Nat.gcd M 1) := ⟨_, Lib.hid rfl⟩
  have bG : nl Gd ≤ 1000000000000 := by rw [hGd.out]; exact (Nat.eq_zero_or_pos M).elim (fun h => by rw [h, Nat.gcd_zero_left]; exact (show nl 1 ≤ 1000000000000 by decide)) (fun h => Nat.le_trans (nl_mono (Nat.gcd_le_left _ h)) bM)
  have HV := Lib.hid hv
  clear hv
  obtain ⟨m0, k0⟩ := resF (w := w)
  go_enter Try.func15, Try.ntmps15
  go_upto_region 0 with (fail)
  go_cut [2, 3] (fun s_2 s_3 wx => s_2 = Value.pointer (some ⟨w.heap.size, 0, none⟩) ∧ s_3 = Value.int IntKind.i64 0 ∧ VarFB wx w.heap.size false none 0 0 none 0 0 ∧ Below w.heap.size w wx)
  case first =>
    go_wp2_with fail
    go_meet
    case rel => exact ⟨rfl, rfl, k0, m0⟩
  case rest =>
  clear m0 k0
  obtain ⟨rfl, rfl, V0, hb1⟩ := hcut
  go_upto_region 1 with (fail)
  go_cut [4] (fun s_4 wx => s_4 = .bool B ∧ VarFB wx w.heap.size false none 0 0 none 0 0 ∧ Below w.heap.size w wx)
  case first =>
    by_cases hp : 0 < s.size
    · have hi : (0 : Int) < (s.size : Int) := by omega
      by_cases hz : by' s 0 = 45
      · have hz' : (((s[0]'hp).toNat : Nat) : Int) = 45 := by rw [by_eq, hz]; rfl
        obtain rfl : B = true := by rw [← HS.out]; exact decide_eq_true ⟨hp, hz⟩
        clear hz
        go_wp2_with fail
        go_meet
        case rel => exact ⟨rfl, V0, hb1⟩
      · have hz' : ¬ (((s[0]'hp).toNat : Nat) : Int) = 45 := by rw [by_eq]; omega
        obtain rfl : B = false := by rw [← HS.out]; exact decide_eq_false (fun h => hz h.2)
        have hz2 : ((((s[0]'hp).toNat : Nat) : Int) == 45) = false := by simpa using hz'
        clear hz
        go_wp2_with fail
        go_meet
        case rel => exact ⟨by first | rfl | rw [hz2], V0, hb1⟩
    · have hi : ¬ (0 : Int) < (s.size : Int) := by omega
      obtain rfl : B = false := by rw [← HS.out]; exact decide_eq_false (fun h => hp h.1)
      go_wp2_with fail
      go_meet
      case rel => exact ⟨rfl, V0, hb1⟩
  case rest =>
  clear V0 hb1
  obtain ⟨rfl, V0, hb1⟩ := hcut
  have hK := ‹∀ (a : Act) (w : World), Code.wp Try.prog _ _ a w → _›
  refine hK _ _ ?_
  clear hK
  refine wp_seq_k (fun K hK => ?_)
  go_cut [0] (fun s_0 wx => s_0 = .string t ∧ VarFB wx w.heap.size false none 0 0 none 0 0 ∧ Below w.heap.size w wx)
  case first =>
    cases B
    · obtain rfl : t = s := HR.out
      go_wp2_with fail
      go_meet
      case rel => exact ⟨rfl, V0, hb1⟩
    · have hp : (1 : Int) ≤ (s.size : Int) := by have := (of_decide_eq_true HS.out).1; omega
      have ht : t = s.extract 1 s.size := HR.out
      have HT := Lib.hid ht
      clear ht
      go_wp2_with fail
      go_meet
      case rel => exact ⟨by rw [HT.out], V0, hb1⟩
  case rest =>
  clear V0 hb1
  obtain ⟨rfl, V0, hb1⟩ := hcut
  go_upto_block 0 with (fail)
  go_cut [5] (fun s_5 wx => s_5 = .int .i64 (i : Int) ∧ VarFB wx w.heap.size false none 0 0 none 0 0 ∧ Below w.heap.size w wx)
  case first =>
    go_wp2_with fail
    go_loopw [5] (fun s5 wr => ∃ k : Nat, k ≤ i ∧ s5 = .int .i64 (k : Int) ∧ wr = wc) (fun s5 _ => i - (intOf s5).toNat)
    case atStart => exact ⟨0, Nat.zero_le _, rfl, rfl⟩
    case round =>
      obtain ⟨k, hk, rfl, rfl⟩ := hrel
      by_cases hlt : k < i
      · have hk2 : k < t.size := Nat.lt_of_lt_of_le hlt HI.out.le
        have hk3 : (k : Int) < (t.size : Int) := by omega
        have hz' : ¬ (((t[k]'hk2).toNat : Nat) : Int) = 47 := by rw [by_eq]; have := HI.out.before k hlt; omega
        go_wp2_with fail
        go_roundw
        case rel => exact ⟨k + 1, by omega, by go_num, trivial⟩
        case measure => simp [intOf] <;> omega
      · obtain rfl : k = i := by omega
        have hk3 : ¬ (k : Int) < (t.size : Int) := by have := HI.out.miss rfl; omega
        go_wp2_with fail
        go_meet
        case rel => exact ⟨rfl, V0, hb1⟩
  case rest =>
  clear V0 hb1
  obtain ⟨rfl, V0, hb1⟩ := hcut
  go_upto_region 7 with (fail)
  go_cut [6, 7] (fun s_6 s_7 wx => ∃ g6, s_6 = Value.pointer (some ⟨g6, 0, none⟩) ∧ s_7 = Value.int IntKind.i64 0 ∧ w.heap.size + 1 ≤ g6 ∧ VarI wx g6 M ∧ VarFB wx w.heap.size false none 0 0 none 0 0 ∧ Below w.heap.size w wx)
  case first =>
    obtain ⟨base, hbase0⟩ : ∃ b : Nat, Hid (b = wc.heap.size) := ⟨_, Lib.hid rfl⟩
    have hbase : base ≤ wc.heap.size := by rw [hbase0.out]; exact Nat.le_refl _
    have hbw : w.heap.size + 1 ≤ base := by have := hb1.size; have h1 := V0.lt; rw [hbase0.out]; omega
    have l_V0 : w.heap.size < base := by rw [hbase0.out]; exact V0.lt
    refine wp_tabGF Try.f15 7 (rP3tfT0 t a M i base) [6] (fun i => i == 7) 7 2 (by kernel_rfl) (by kernel_rfl) (by kernel_rfl) (by kernel_rfl) (by kernel_rfl) ⟨fun h => (by cases h), ⟨fun h => (by cases h), ⟨fun h => (by cases h), ⟨fun h => (by cases h), ⟨fun h => (by cases h), ⟨fun h => (by cases h), ⟨fun h => (by cases h), ⟨fun _ w v h => Sp.var_lt h, trivial⟩⟩⟩⟩⟩⟩⟩⟩ ?_ ?_
    · refine ⟨fun _ _ F => gR rfl rfl (arm_move (.inl rfl) (F.k 0 (Value.string t))).b, ?_⟩
      refine ⟨fun _ _ F => gR rfl rfl (arm_move (.inl rfl) (F.k 5 (Value.int IntKind.i64 (i : Int)))).b, ?_⟩
      refine ⟨fun _ _ F => gR rfl rfl (arm_slTo rfl (F.f 0 rfl) (F.f 1 rfl) HI.out.le hts HA.out).b, ?_⟩
      refine ⟨fun _ _ F => gR rfl rfl (arm_C1 rfl (enters Try.func59 rfl rfl) (F.f 2 rfl) (fun va w h1 => by have e_va : va = _ := h1; subst e_va; exact c_ref_Parse a w _ _ ha) (fun _ _ h => ofP h)).b, ?_⟩
      refine ⟨fun _ _ F => gR rfl rfl (arm_move (.inl rfl) (F.f 3 rfl)).b, ?_⟩
      refine ⟨fun _ _ F => gR rfl rfl (arm_pair0 rfl (F.f 4 rfl)).b, ?_⟩
      refine ⟨fun _ _ F => gR rfl rfl (arm_pair1 rfl (F.f 4 rfl)).b, ?_⟩
      refine ⟨fun _ _ F => gR rfl rfl (arm_alloc rfl (Nat.le_trans hbase F.below.size)), ?_⟩
      exact trivial
    intro E' hE gp wp bp G Gs
    simp only [subs, List.map_cons, List.map_nil, List.nil_append, List.cons_append, List.mem_cons, List.not_mem_nil, or_false, List.append_nil] at hE
    rcases hE with rfl | rfl
    · obtain ⟨g6, e_7, lg_7, hv_7⟩ := G 7 6 _ (by simp) rfl
      have n_5 : (Sp.nat (M)).p wp (gp 5) := G 5 37 _ (by simp) rfl
      have e_6 : gp 6 = Value.int IntKind.i64 0 := G 6 38 _ (by simp) rfl
      clear G Gs
      simp only [rP3tfT0]
      simp only [qA, setD, qZ, qS, e_7, e_6]
      have T0 := hv_7
      refine wpAny_storeN (j := 8) (by kernel_rfl) rfl rfl rfl rfl rfl n_5 T0.any ?_
      intro w0 u0 v0
      have O0 := T0.own
      refine wpAny_takeD (i := 9) (d := some 7) (v := Value.int IntKind.i64 0) rfl rfl (by kernel_rfl) (by kernel_rfl) (by kernel_rfl) (fun _ _ _ h => h) (Or.inl ⟨by rfl, fun w => by rfl⟩) ?_
      try simp only [qP, qZ, qS]
      refine wpAny_done (by kernel_rfl) ?_ _
      go_wp2_with fail
      go_meet
      case rel => exact ⟨g6, rfl, rfl, (by omega), v0, ((V0.mono bp V0.lt).upd O0 u0 (by omega)), (Upd.below (hb1.trans (bp.mono hb1.size)) u0 (by omega))⟩
    · obtain ⟨g6, e_7, lg_7, hv_7⟩ := G 7 6 _ (by simp) rfl
      obtain ⟨x_4_0, x_4_1, e_4, n_4_0, rfl⟩ := G 4 32 _ (by simp) rfl
      have n_5 : (Sp.nat (M)).p wp (gp 5) := G 5 37 _ (by simp) rfl
      clear G Gs
      simp only [rP3tfT0]
      simp only [qA, setD, qZ, qS, e_7, e_4]
      refine wpAny_takeD (i := 6) (d := some 38) (v := Value.int IntKind.i64 0) rfl rfl (by kernel_rfl) (by kernel_rfl) (by kernel_rfl) (fun _ _ _ h => h) (Or.inl ⟨by rfl, fun w => by rfl⟩) ?_
      try simp only [qP, qZ, qS]
      have T0 := hv_7
      refine wpAny_storeN (j := 8) (by kernel_rfl) rfl rfl rfl rfl rfl n_5 T0.any ?_
      intro w0 u0 v0
      have O0 := T0.own
      refine wpAny_takeD (i := 9) (d := some 7) (v := Value.int IntKind.i64 0) rfl rfl (by kernel_rfl) (by kernel_rfl) (by kernel_rfl) (fun _ _ _ h => h) (Or.inl ⟨by rfl, fun w => by rfl⟩) ?_
      try simp only [qP, qZ, qS]
      refine wpAny_done (by kernel_rfl) ?_ _
      go_wp2_with fail
      go_meet
      case rel => exact ⟨g6, rfl, rfl, (by omega), v0, ((V0.mono bp V0.lt).upd O0 u0 (by omega)), (Upd.below (hb1.trans (bp.mono hb1.size)) u0 (by omega))⟩
  case rest =>
  clear V0 hb1
  obtain ⟨g6, rfl, rfl, lg6, V6, V0, hb1⟩ := hcut
  go_upto_region 8 with (fail)
  go_cut [40] (fun s_40 wx => s_40 = Value.bool false ∧ VarFB wx w.heap.size false none 0 0 none 0 0 ∧ VarI wx g6 M ∧ Below w.heap.size w wx)
  case first =>
    refine tF Try.f15 8 (rP3tfT1 ) [] 2 0 ?_ ?_
    · refine ⟨fun _ _ F => gR rfl rfl (arm_move (.inl rfl) (F.k 7 (Value.int IntKind.i64 0))).b, ?_⟩
      refine ⟨fun _ _ F => gR rfl rfl (arm_bin rfl (F.f 0 rfl) Is.const (fun _ => rfl) (fun _ => rfl)).b, ?_⟩
      exact trivial
    intro E' hE gp wp bp G Gs
    obtain rfl : E' = [] := by simpa [subs] using hE
    have e_1 : gp 1 = Value.bool false := G 1 40 _ (by simp) rfl
    clear G Gs hE
    simp only [rP3tfT1]
    simp only [qA, setD, qZ, qS, e_1]
    refine wpAny_done (by kernel_rfl) ?_ _
    go_wp2_with fail
    go_meet
    case rel => exact ⟨rfl, (V0.mono bp V0.lt), (V6.mono bp), (hb1.trans (bp.mono hb1.size))⟩
  case rest =>
  clear V0 V6 hb1
  obtain ⟨rfl, V0, V6, hb1⟩ := hcut
  go_upto_region 10 with (fail)
  go_cut [8] (fun s_8 wx => ∃ g8, s_8 = Value.pointer (some ⟨g8, 0, none⟩) ∧ w.heap.size + 1 ≤ g8 ∧ g6 < g8 ∧ VarI wx g8 1 ∧ VarFB wx w.heap.size false none 0 0 none 0 0 ∧ VarI wx g6 M ∧ Below w.heap.size w wx)
  case first =>
    obtain ⟨base, hbase0⟩ : ∃ b : Nat, Hid (b = wc.heap.size) := ⟨_, Lib.hid rfl⟩
    have hbase : base ≤ wc.heap.size := by rw [hbase0.out]; exact Nat.le_refl _
    have hbw : w.heap.size + 1 ≤ base := by have := hb1.size; have h1 := V0.lt; rw [hbase0.out]; omega
    have l_V0 : w.heap.size < base := by rw [hbase0.out]; exact V0.lt
    have l_V6 : g6 < base := by rw [hbase0.out]; exact V6.lt
    refine wp_tabGF Try.f15 10 (rP3tfT2 base) [] (fun i => i == 1) 2 1 (by kernel_rfl) (by kernel_rfl) (by kernel_rfl) (by kernel_rfl) (by kernel_rfl) ⟨fun h => (by cases h), ⟨fun _ w v h => Sp.var_lt h, trivial⟩⟩ ?_ ?_
    · refine ⟨fun _ _ F => gR rfl rfl (arm_C1 rfl (enters Try.func54 rfl rfl) Is.const (fun va w h1 => by have e_va : va = _ := h1; subst e_va; exact c_ref_Of 1 w (by decide)) (fun _ _ h => ofNew h)).b, ?_⟩
      refine ⟨fun _ _ F => gR rfl rfl (arm_alloc rfl (Nat.le_trans hbase F.below.size)), ?_⟩
      exact trivial
    intro E' hE gp wp bp G Gs
    obtain rfl : E' = [] := by simpa [subs] using hE
    obtain ⟨g8, e_1, lg_1, hv_1⟩ := G 1 8 _ (by simp) rfl
    have n_0 : (Sp.nat (1)).p wp (gp 0) := G 0 43 _ (by simp) rfl
    clear G Gs hE
    simp only [rP3tfT2]
    simp only [qA, setD, qZ, qS, e_1]
    have T0 := hv_1
    refine wpAny_storeN (j := 2) (by kernel_rfl) rfl rfl rfl rfl rfl n_0 T0.any ?_
    intro w0 u0 v0
    have O0 := T0.own
    refine wpAny_done (by kernel_rfl) ?_ _
    go_wp2_with fail
    go_meet
    case rel => exact ⟨g8, rfl, (by omega), (by omega), v0, ((V0.mono bp V0.lt).upd O0 u0 (by omega)), ((V6.mono bp).upd O0 u0 (by omega)), (Upd.below (hb1.trans (bp.mono hb1.size)) u0 (by omega))⟩
  case rest =>
  clear V0 V6 hb1
  obtain ⟨g8, rfl, lg8, d10_0, V8, V0, V6, hb1⟩ := hcut
  go_upto_region 11 with (fail)
  go_cut [47] (fun s_47 wx => s_47 = Value.bool false ∧ VarFB wx w.heap.size false none 0 0 none 0 0 ∧ VarI wx g6 M ∧ VarI wx g8 1 ∧ Below w.heap.size w wx)
  case first =>
    refine tF Try.f15 11 (rP3tfT3 t i) [] 3 0 ?_ ?_
    · refine ⟨fun _ _ F => gR rfl rfl (arm_move (.inl rfl) (F.k 5 (Value.int IntKind.i64 (i : Int)))).b, ?_⟩
      refine ⟨fun _ _ F => gR rfl rfl (arm_move (.inl rfl) (F.k 0 (Value.string t))).b, ?_⟩
      refine ⟨fun _ _ F => gR rfl rfl (arm_lenStr rfl (F.f 1 rfl)).b, ?_⟩
      refine ⟨fun _ _ F => gR rfl rfl (arm_bin rfl (F.f 0 rfl) (F.f 2 rfl) (fun _ => rfl) (fun w => by rw [LT.out]; exact run_ltI _ _ _ w)).b, ?_⟩
      exact trivial
    intro E' hE gp wp bp G Gs
    obtain rfl : E' = [] := by simpa [subs] using hE
    have e_3 : gp 3 = Value.bool false := G 3 47 _ (by simp) rfl
    clear G Gs hE
    simp only [rP3tfT3]
    simp only [qA, setD, qZ, qS, e_3]
    refine wpAny_done (by kernel_rfl) ?_ _
    go_wp2_with fail
    go_meet
    case rel => exact ⟨rfl, (V0.mono bp V0.lt), (V6.mono bp), (V8.mono bp), (hb1.trans (bp.mono hb1.size))⟩
  case rest =>
  clear V0 V6 V8 hb1
  obtain ⟨rfl, V0, V6, V8, hb1⟩ := hcut
  rcases Bool.eq_false_or_eq_true B with rfl | rfl
  · have hv2 : (Fq.mk true M 1).valid = true := HV.out
    have HG : Hid (decide (Gd = 1) = true) := Lib.hid (by rw [hGd.out]; exact decide_eq_true (Fq.valid.g hv2))
    have HZ : Hid (decide (M = 0) = false) := Lib.hid (decide_eq_false (fun h9 => Fq.valid.s hv2 ⟨rfl, h9⟩))
    clear hv2
    go_upto_region 17 with (fail)
    go_cut [77] (fun s_77 wx => s_77 = Value.bool false ∧ VarFB wx w.heap.size false none 0 0 none 0 0 ∧ VarI wx g6 M ∧ VarI wx g8 1 ∧ Below w.heap.size w wx)
    case first =>
      refine tF Try.f15 17 (rP3tfT4 M Gd) [] 12 0 ?_ ?_
      · refine ⟨fun _ _ F => gR rfl rfl (arm_move (.inl rfl) (F.k 4 (Value.bool true))).b, ?_⟩
        refine ⟨fun _ _ F => gR rfl rfl (arm_move (.inl rfl) (F.f 0 rfl)).b, ?_⟩
        refine ⟨fun _ _ F => gG F rfl rfl rfl rfl (arm_load rfl (F.k 6 (Value.pointer (some ⟨g6, 0, none⟩))) (V6.mono F.below)).b, ?_⟩
        refine ⟨fun _ _ F => gG F rfl rfl rfl rfl (arm_C1 rfl (enters Try.func51 rfl rfl) (F.f 2 rfl) (fun va w h1 => c_zero va M w h1 (Nat.le_trans (parse_nlU ha) (by decide))) (fun _ _ h => by have h' : RetV _ _ _ _ := h; rw [HZ.out] at h'; exact ofV h')).b, ?_⟩
        refine ⟨fun _ _ F => gR rfl rfl (arm_pick rfl (F.f 1 rfl) (fun _ => (F.f 3 rfl)) (fun h => by cases h)).b, ?_⟩
        refine ⟨fun _ _ F => gR rfl rfl (arm_move (.inl rfl) (F.f 4 rfl)).b, ?_⟩
        refine ⟨fun _ _ F => gG F rfl rfl rfl rfl (arm_load rfl (F.k 6 (Value.pointer (some ⟨g6, 0, none⟩))) (V6.mono F.below)).b, ?_⟩
        refine ⟨fun _ _ F => gG F rfl rfl rfl rfl (arm_load rfl (F.k 8 (Value.pointer (some ⟨g8, 0, none⟩))) (V8.mono F.below)).b, ?_⟩
        refine ⟨fun _ _ F => gG F rfl rfl rfl rfl (arm_C2 rfl (enters Try.func53 rfl rfl) (F.f 6 rfl) (F.f 7 rfl) (fun va vb w h1 h2 => c_ref_Gcd va vb M 1 w h1 h2 (Nat.le_trans (parse_nlU ha) (by decide)) (by decide)) (fun _ _ h => by rw [hGd.out]; exact ofN h)).b, ?_⟩
        refine ⟨fun _ _ F => gG F rfl rfl rfl rfl (arm_C1 rfl (enters Try.func54 rfl rfl) Is.const (fun va w h1 => by have e_va : va = _ := h1; subst e_va; exact c_ref_Of 1 w (by decide)) (fun _ _ h => ofNew h)).b, ?_⟩
        refine ⟨fun _ _ F => gG F rfl rfl rfl rfl (arm_C2 rfl (enters Try.func52 rfl rfl) (F.f 8 rfl) (F.f 9 rfl) (fun va vb w h1 h2 => c_ref_Same va vb Gd 1 w h1 h2 bG (by decide)) (fun _ _ h => by have h' : RetV _ _ _ _ := h; rw [HG.out] at h'; exact ofV h')).b, ?_⟩
        refine ⟨fun _ _ F => gG F rfl rfl rfl rfl (arm_not rfl (F.f 10 rfl)).b, ?_⟩
        refine ⟨fun _ _ F => gR rfl rfl (arm_pick rfl (F.f 5 rfl) (fun h => by cases h) (fun _ => (F.f 11 rfl))).b, ?_⟩
        exact trivial
      intro E' hE gp wp bp G Gs
      obtain rfl : E' = [] := by simpa [subs] using hE
      have e_12 : gp 12 = Value.bool false := G 12 77 _ (by simp) rfl
      clear G Gs hE
      simp only [rP3tfT4]
      simp only [qA, setD, qZ, qS, e_12]
      refine wpAny_done (by kernel_rfl) ?_ _
      go_wp2_with fail
      go_meet
      case rel => exact ⟨rfl, (V0.mono bp V0.lt), (V6.mono bp), (V8.mono bp), (hb1.trans (bp.mono hb1.size))⟩
    case rest =>
    clear V0 V6 V8 hb1
    obtain ⟨rfl, V0, V6, V8, hb1⟩ := hcut
    go_upto_region 19 with (fail)
    go_cut [3] (fun s_3 wx => s_3 = Value.int IntKind.i64 0 ∧ VarQ wx w.heap.size (Fq.mk true M 1) ∧ VarI wx g6 M ∧ VarI wx g8 1 ∧ Below w.heap.size w wx)
    case first =>
      refine tF Try.f15 19 (rP3tfT5 M) [] 4 2 ?_ ?_
      · refine ⟨fun _ _ F => gR rfl rfl (arm_move (.inl rfl) (F.k 4 (Value.bool true))).b, ?_⟩
        refine ⟨fun _ _ F => gR rfl rfl (arm_load rfl (F.k 6 (Value.pointer (some ⟨g6, 0, none⟩))) (V6.mono F.below)).b, ?_⟩
        refine ⟨fun _ _ F => gR rfl rfl (arm_load rfl (F.k 8 (Value.pointer (some ⟨g8, 0, none⟩))) (V8.mono F.below)).b, ?_⟩
        refine ⟨fun _ _ F => gR rfl rfl (arm_buildF rfl (F.f 0 rfl) (F.f 1 rfl) (F.f 2 rfl)).b, ?_⟩
        exact trivial
      intro E' hE gp wp bp G Gs
      obtain rfl : E' = [] := by simpa [subs] using hE
      have n_3 : (Sp.fq (Fq.mk true M 1)).p wp (gp 3) := G 3 82 _ (by simp) rfl
      clear G Gs hE
      simp only [rP3tfT5]
      simp only [qA, setD, qZ, qS]
      have T0 := (V0.mono bp V0.lt)
      refine wpAny_storeFr (j := 4) (by kernel_rfl) rfl rfl rfl rfl rfl n_3 T0.any ?_
      intro w0 u0 v0
      have O0 := T0.own
      refine wpAny_takeD (i := 5) (d := some 3) (v := Value.int IntKind.i64 0) rfl rfl (by kernel_rfl) (by kernel_rfl) (by kernel_rfl) (fun _ _ _ h => h) (Or.inl ⟨by rfl, fun w => by rfl⟩) ?_
      try simp only [qP, qZ, qS]
      refine wpAny_done (by kernel_rfl) ?_ _
      go_wp2_with fail
      go_meet
      case rel => exact ⟨rfl, v0, ((V6.mono bp).upd O0 u0 (by omega)), ((V8.mono bp).upd O0 u0 (by omega)), (Upd.below (hb1.trans (bp.mono hb1.size)) u0 (by omega))⟩
    case rest =>
    clear V0 V6 V8 hb1
    obtain ⟨rfl, V0, V6, V8, hb1⟩ := hcut
    obtain ⟨r1, r2, r3, r4, rV, rn, rm⟩ := V0
    have c0 := rV.cell0
    have c1 := rV.cell1
    have c2 := rV.cell2
    go_wp2
    exact bodyPost_ret (res_FE rfl rfl rfl rV) rfl ⟨_, rfl, ⟨r1, r2, r3, r4, rfl, rn, rm⟩, hb1⟩
  · have hv2 : (Fq.mk false M 1).valid = true := HV.out
    have HG : Hid (decide (Gd = 1) = true) := Lib.hid (by rw [hGd.out]; exact decide_eq_true (Fq.valid.g hv2))
    clear hv2
    go_upto_region 17 with (fail)
    go_cut [77] (fun s_77 wx => s_77 = Value.bool false ∧ VarFB wx w.heap.size false none 0 0 none 0 0 ∧ VarI wx g6 M ∧ VarI wx g8 1 ∧ Below w.heap.size w wx)
    case first =>
      refine tF Try.f15 17 (rP3tfT6 M Gd) [] 12 0 ?_ ?_
      · refine ⟨fun _ _ F => gR rfl rfl (arm_move (.inl rfl) (F.k 4 (Value.bool false))).b, ?_⟩
        refine ⟨fun _ _ F => gR rfl rfl (arm_move (.inl rfl) (F.f 0 rfl)).b, ?_⟩
        refine ⟨fun _ _ F => gS F rfl rfl rfl rfl rfl rfl, ?_⟩
        refine ⟨fun _ _ F => gS F rfl rfl rfl rfl rfl rfl, ?_⟩
        refine ⟨fun _ _ F => gR rfl rfl (arm_pick rfl (F.f 1 rfl) (fun h => by cases h) (fun _ => Is.const)).b, ?_⟩
        refine ⟨fun _ _ F => gR rfl rfl (arm_move (.inl rfl) (F.f 4 rfl)).b, ?_⟩
        refine ⟨fun _ _ F => gG F rfl rfl rfl rfl (arm_load rfl (F.k 6 (Value.pointer (some ⟨g6, 0, none⟩))) (V6.mono F.below)).b, ?_⟩
        refine ⟨fun _ _ F => gG F rfl rfl rfl rfl (arm_load rfl (F.k 8 (Value.pointer (some ⟨g8, 0, none⟩))) (V8.mono F.below)).b, ?_⟩
        refine ⟨fun _ _ F => gG F rfl rfl rfl rfl (arm_C2 rfl (enters Try.func53 rfl rfl) (F.f 6 rfl) (F.f 7 rfl) (fun va vb w h1 h2 => c_ref_Gcd va vb M 1 w h1 h2 (Nat.le_trans (parse_nlU ha) (by decide)) (by decide)) (fun _ _ h => by rw [hGd.out]; exact ofN h)).b, ?_⟩
        refine ⟨fun _ _ F => gG F rfl rfl rfl rfl (arm_C1 rfl (enters Try.func54 rfl rfl) Is.const (fun va w h1 => by have e_va : va = _ := h1; subst e_va; exact c_ref_Of 1 w (by decide)) (fun _ _ h => ofNew h)).b, ?_⟩
        refine ⟨fun _ _ F => gG F rfl rfl rfl rfl (arm_C2 rfl (enters Try.func52 rfl rfl) (F.f 8 rfl) (F.f 9 rfl) (fun va vb w h1 h2 => c_ref_Same va vb Gd 1 w h1 h2 bG (by decide)) (fun _ _ h => by have h' : RetV _ _ _ _ := h; rw [HG.out] at h'; exact ofV h')).b, ?_⟩
        refine ⟨fun _ _ F => gG F rfl rfl rfl rfl (arm_not rfl (F.f 10 rfl)).b, ?_⟩
        refine ⟨fun _ _ F => gR rfl rfl (arm_pick rfl (F.f 5 rfl) (fun h => by cases h) (fun _ => (F.f 11 rfl))).b, ?_⟩
        exact trivial
      intro E' hE gp wp bp G Gs
      obtain rfl : E' = [] := by simpa [subs] using hE
      have e_12 : gp 12 = Value.bool false := G 12 77 _ (by simp) rfl
      clear G Gs hE
      simp only [rP3tfT6]
      simp only [qA, setD, qZ, qS, e_12]
      refine wpAny_done (by kernel_rfl) ?_ _
      go_wp2_with fail
      go_meet
      case rel => exact ⟨rfl, (V0.mono bp V0.lt), (V6.mono bp), (V8.mono bp), (hb1.trans (bp.mono hb1.size))⟩
    case rest =>
    clear V0 V6 V8 hb1
    obtain ⟨rfl, V0, V6, V8, hb1⟩ := hcut
    go_upto_region 19 with (fail)
    go_cut [3] (fun s_3 wx => s_3 = Value.int IntKind.i64 0 ∧ VarQ wx w.heap.size (Fq.mk false M 1) ∧ VarI wx g6 M ∧ VarI wx g8 1 ∧ Below w.heap.size w wx)
    case first =>
      refine tF Try.f15 19 (rP3tfT7 M) [] 4 2 ?_ ?_
      · refine ⟨fun _ _ F => gR rfl rfl (arm_move (.inl rfl) (F.k 4 (Value.bool false))).b, ?_⟩
        refine ⟨fun _ _ F => gR rfl rfl (arm_load rfl (F.k 6 (Value.pointer (some ⟨g6, 0, none⟩))) (V6.mono F.below)).b, ?_⟩
        refine ⟨fun _ _ F => gR rfl rfl (arm_load rfl (F.k 8 (Value.pointer (some ⟨g8, 0, none⟩))) (V8.mono F.below)).b, ?_⟩
        refine ⟨fun _ _ F => gR rfl rfl (arm_buildF rfl (F.f 0 rfl) (F.f 1 rfl) (F.f 2 rfl)).b, ?_⟩
        exact trivial
      intro E' hE gp wp bp G Gs
      obtain rfl : E' = [] := by simpa [subs] using hE
      have n_3 : (Sp.fq (Fq.mk false M 1)).p wp (gp 3) := G 3 82 _ (by simp) rfl
      clear G Gs hE
      simp only [rP3tfT7]
      simp only [qA, setD, qZ, qS]
      have T0 := (V0.mono bp V0.lt)
      refine wpAny_storeFr (j := 4) (by kernel_rfl) rfl rfl rfl rfl rfl n_3 T0.any ?_
      intro w0 u0 v0
      have O0 := T0.own
      refine wpAny_takeD (i := 5) (d := some 3) (v := Value.int IntKind.i64 0) rfl rfl (by kernel_rfl) (by kernel_rfl) (by kernel_rfl) (fun _ _ _ h => h) (Or.inl ⟨by rfl, fun w => by rfl⟩) ?_
      try simp only [qP, qZ, qS]
      refine wpAny_done (by kernel_rfl) ?_ _
      go_wp2_with fail
      go_meet
      case rel => exact ⟨rfl, v0, ((V6.mono bp).upd O0 u0 (by omega)), ((V8.mono bp).upd O0 u0 (by omega)), (Upd.below (hb1.trans (bp.mono hb1.size)) u0 (by omega))⟩
    case rest =>
    clear V0 V6 V8 hb1
    obtain ⟨rfl, V0, V6, V8, hb1⟩ := hcut
    obtain ⟨r1, r2, r3, r4, rV, rn, rm⟩ := V0
    have c0 := rV.cell0
    have c1 := rV.cell1
    have c2 := rV.cell2
    go_wp2
    exact bodyPost_ret (res_FE rfl rfl rfl rV) rfl ⟨_, rfl, ⟨r1, r2, r3, r4, rfl, rn, rm⟩, hb1⟩
def rP3ffT0 (t : ByteArray) (a : ByteArray) (M : Nat) (i : Nat) (base : Nat) : List (Nat × Tmp × Sp) :=
   [(0, 33, .val (Value.string t)),
    (1, 34, .val (Value.int IntKind.i64 (i : Int))),
    (2, 35, .val (Value.string a)),
    (3, 36, .pair (.nat (M)) (.val (Value.int IntKind.i64 0))),
    (4, 32, .pair (.nat (M)) (.val (Value.int IntKind.i64 0))),
    (5, 37, .nat (M)),
    (6, 38, .val (Value.int IntKind.i64 0)),
    (7, 6, .var base)]
def rP3ffT1  : List (Nat × Tmp × Sp) :=
   [(0, 39, .val (Value.int IntKind.i64 0)),
    (1, 40, .val (Value.bool false))]
def rP3ffT2 (base : Nat) : List (Nat × Tmp × Sp) :=
   [(0, 43, .nat (1)),
    (1, 8, .var base)]
def rP3ffT3 (t : ByteArray) (i : Nat) : List (Nat × Tmp × Sp) :=
   [(0, 44, .val (Value.int IntKind.i64 (i : Int))),
    (1, 45, .val (Value.string t)),
    (2, 46, .val (Value.int IntKind.i64 (t.size : Int))),
    (3, 47, .val (Value.bool false))]
def rP3ffT4 (M : Nat) : List (Nat × Tmp × Sp) :=
   [(0, 65, .val (Value.bool true)),
    (1, 66, .val (Value.bool true)),
    (2, 67, .nat (M)),
    (3, 68, .val (Value.bool true)),
    (4, 69, .val (Value.bool true)),
    (5, 70, .val (Value.bool true)),
    (6, 71, .val undef),
    (7, 72, .val undef),
    (8, 73, .val undef),
    (9, 74, .val undef),
    (10, 75, .val undef),
    (11, 76, .val undef),
    (12, 77, .val (Value.bool true))]
def rP3ffT5  : List (Nat × Tmp × Sp) :=
   [(0, 78, .fq Fq.zero)]
def rP3ffT6 (M : Nat) (Gd : Nat) : List (Nat × Tmp × Sp) :=
   [(0, 65, .val (Value.bool true)),
    (1, 66, .val (Value.bool true)),
    (2, 67, .nat (M)),
    (3, 68, .val (Value.bool false)),
    (4, 69, .val (Value.bool false)),
    (5, 70, .val (Value.bool false)),
    (6, 71, .nat (M)),
    (7, 72, .nat (1)),
    (8, 73, .nat (Gd)),
    (9, 74, .nat (1)),
    (10, 75, .val (Value.bool false)),
    (11, 76, .val (Value.bool true)),
    (12, 77, .val (Value.bool true))]
def rP3ffT7  : List (Nat × Tmp × Sp) :=
   [(0, 78, .fq Fq.zero)]
def rP3ffT8 (M : Nat) (Gd : Nat) : List (Nat × Tmp × Sp) :=
   [(0, 65, .val (Value.bool false)),
    (1, 66, .val (Value.bool false)),
    (2, 67, .val undef),
    (3, 68, .val undef),
    (4, 69, .val (Value.bool false)),
    (5, 70, .val (Value.bool false)),
    (6, 71, .nat (M)),
    (7, 72, .nat (1)),
    (8, 73, .nat (Gd)),
    (9, 74, .nat (1)),
    (10, 75, .val (Value.bool false)),
    (11, 76, .val (Value.bool true)),
    (12, 77, .val (Value.bool true))]
def rP3ffT9  : List (Nat × Tmp × Sp) :=
   [(0, 78, .fq Fq.zero)]
set_option maxHeartbeats 4000000 in
theorem rP_bad_false (s t a b : ByteArray) (B : Bool) (M : Nat) (w : World) (HP : Pieces s t B false a b) (hs : s.size ≤ 4294967280) (ha : ParseIs a M 0) (hv : parseV B false M 1 = false) :
    Calls Try.prog 15 #[.string s] w fun e w' => RetQE w .zero 2 e w' := by
  have hts : t.size ≤ 4294967280 := Nat.le_trans (pieces_size HP) hs
  obtain ⟨i, HI0, HA0, HB0⟩ := pieces_idx HP
  have HI := Lib.hid HI0
  have HA := Lib.hid HA0
  have LT : Hid (false = decide ((i : Int) < (t.size : Int))) := Lib.hid (by symm; apply decide_eq_false; have := HI0.miss rfl; omega)
  have HR := Lib.hid HP.rest
  have HS := Lib.hid HP.sign
  clear HI0 HA0 HB0 HP
  have bM : nl M ≤ 1000000000000 := Nat.le_trans (parse_nlU ha) (by decide)
  have bM2 : nl M ≤ 100000000000 := Nat.le_trans (parse_nlU ha) (by decide)
  obtain ⟨Gd, hGd⟩ : ∃ N' : Nat, Hid (N' = Nat.gcd M 1) := ⟨_, Lib.hid rfl⟩
  have bG : nl Gd ≤ 1000000000000 := by rw [hGd.out]; exact (Nat.eq_zero_or_pos M).elim (fun h => by rw [h, Nat.gcd_zero_left]; exact (show nl 1 ≤ 1000000000000 by decide)) (fun h => Nat.le_trans (nl_mono (Nat.gcd_le_left _ h)) bM)
  have HV := Lib.hid hv
  clear hv
  obtain ⟨m0, k0⟩ := resF (w := w)
  go_enter Try.func15, Try.ntmps15
  go_upto_region 0 with (fail)
  go_cut [2, 3] (fun s_2 s_3 wx => s_2 = Value.pointer (some ⟨w.heap.size, 0, none⟩) ∧ s_3 = Value.int IntKind.i64 0 ∧ VarFB wx w.heap.size false none 0 0 none 0 0 ∧ Below w.heap.size w wx)
  case first =>
    go_wp2_with fail
    go_meet
    case rel => exact ⟨rfl, rfl, k0, m0⟩
  case rest =>
  clear m0 k0
  obtain ⟨rfl, rfl, V0, hb1⟩ := hcut
  go_upto_region 1 with (fail)
  go_cut [4] (fun s_4 wx => s_4 = .bool B ∧ VarFB wx w.heap.size false none 0 0 none 0 0 ∧ Below w.heap.size w wx)
  case first =>
    by_cases hp : 0 < s.size
    · have hi : (0 : Int) < (s.size : Int) := by omega
      by_cases hz : by' s 0 = 45
      · have hz' : (((s[0]'hp).toNat : Nat) : Int) = 45 := by rw [by_eq, hz]; rfl
        obtain rfl : B = true := by rw [← HS.out]; exact decide_eq_true ⟨hp, hz⟩
        clear hz
        go_wp2_with fail
        go_meet
        case rel => exact ⟨rfl, V0, hb1⟩
      · have hz' : ¬ (((s[0]'hp).toNat : Nat) : Int) = 45 := by rw [by_eq]; omega
        obtain rfl : B = false := by rw [← HS.out]; exact decide_eq_false (fun h => hz h.2)
        have hz2 : ((((s[0]'hp).toNat : Nat) : Int) == 45) = false := by simpa using hz'
        clear hz
        go_wp2_with fail
        go_meet
        case rel => exact ⟨by first | rfl | rw [hz2], V0, hb1⟩
    · have hi : ¬ (0 : Int) < (s.size : Int) := by omega
      obtain rfl : B = false := by rw [← HS.out]; exact decide_eq_false (fun h => hp h.1)
      go_wp2_with fail
      go_meet
      case rel => exact ⟨rfl, V0, hb1⟩
  case rest =>
  clear V0 hb1
  obtain ⟨rfl, V0, hb1⟩ := hcut
  have hK := ‹∀ (a : Act) (w : World), Code.wp Try.prog _ _ a w → _›
  refine hK _ _ ?_
  clear hK
  refine wp_seq_k (fun K hK => ?_)
  go_cut [0] (fun s_0 wx => s_0 = .string t ∧ VarFB wx w.heap.size false none 0 0 none 0 0 ∧ Below w.heap.size w wx)
  case first =>
    cases B
    · obtain rfl : t = s := HR.out
      go_wp2_with fail
      go_meet
      case rel => exact ⟨rfl, V0, hb1⟩
    · have hp : (1 : Int) ≤ (s.size : Int) := by have := (of_decide_eq_true HS.out).1; omega
      have ht : t = s.extract 1 s.size := HR.out
      have HT := Lib.hid ht
      clear ht
      go_wp2_with fail
      go_meet
      case rel => exact ⟨by rw [HT.out], V0, hb1⟩
  case rest =>
  clear V0 hb1
  obtain ⟨rfl, V0, hb1⟩ := hcut
  go_upto_block 0 with (fail)
  go_cut [5] (fun s_5 wx => s_5 = .int .i64 (i : Int) ∧ VarFB wx w.heap.size false none 0 0 none 0 0 ∧ Below w.heap.size w wx)
  case first =>
    go_wp2_with fail
    go_loopw [5] (fun s5 wr => ∃ k : Nat, k ≤ i ∧ s5 = .int .i64 (k : Int) ∧ wr = wc) (fun s5 _ => i - (intOf s5).toNat)
    case atStart => exact ⟨0, Nat.zero_le _, rfl, rfl⟩
    case round =>
      obtain ⟨k, hk, rfl, rfl⟩ := hrel
      by_cases hlt : k < i
      · have hk2 : k < t.size := Nat.lt_of_lt_of_le hlt HI.out.le
        have hk3 : (k : Int) < (t.size : Int) := by omega
        have hz' : ¬ (((t[k]'hk2).toNat : Nat) : Int) = 47 := by rw [by_eq]; have := HI.out.before k hlt; omega
        go_wp2_with fail
        go_roundw
        case rel => exact ⟨k + 1, by omega, by go_num, trivial⟩
        case measure => simp [intOf] <;> omega
      · obtain rfl : k = i := by omega
        have hk3 : ¬ (k : Int) < (t.size : Int) := by have := HI.out.miss rfl; omega
        go_wp2_with fail
        go_meet
        case rel => exact ⟨rfl, V0, hb1⟩
  case rest =>
  clear V0 hb1
  obtain ⟨rfl, V0, hb1⟩ := hcut
  go_upto_region 7 with (fail)
  go_cut [6, 7] (fun s_6 s_7 wx => ∃ g6, s_6 = Value.pointer (some ⟨g6, 0, none⟩) ∧ s_7 = Value.int IntKind.i64 0 ∧ w.heap.size + 1 ≤ g6 ∧ VarI wx g6 M ∧ VarFB wx w.heap.size false none 0 0 none 0 0 ∧ Below w.heap.size w wx)
  case first =>
    obtain ⟨base, hbase0⟩ : ∃ b : Nat, Hid (b = wc.heap.size) := ⟨_, Lib.hid rfl⟩
    have hbase : base ≤ wc.heap.size := by rw [hbase0.out]; exact Nat.le_refl _
    have hbw : w.heap.size + 1 ≤ base := by have := hb1.size; have h1 := V0.lt; rw [hbase0.out]; omega
    have l_V0 : w.heap.size < base := by rw [hbase0.out]; exact V0.lt
    refine wp_tabGF Try.f15 7 (rP3ffT0 t a M i base) [6] (fun i => i == 7) 7 2 (by kernel_rfl) (by kernel_rfl) (by kernel_rfl) (by kernel_rfl) (by kernel_rfl) ⟨fun h => (by cases h), ⟨fun h => (by cases h), ⟨fun h => (by cases h), ⟨fun h => (by cases h), ⟨fun h => (by cases h), ⟨fun h => (by cases h), ⟨fun h => (by cases h), ⟨fun _ w v h => Sp.var_lt h, trivial⟩⟩⟩⟩⟩⟩⟩⟩ ?_ ?_
    · refine ⟨fun _ _ F => gR rfl rfl (arm_move (.inl rfl) (F.k 0 (Value.string t))).b, ?_⟩
      refine ⟨fun _ _ F => gR rfl rfl (arm_move (.inl rfl) (F.k 5 (Value.int IntKind.i64 (i : Int)))).b, ?_⟩
      refine ⟨fun _ _ F => gR rfl rfl (arm_slTo rfl (F.f 0 rfl) (F.f 1 rfl) HI.out.le hts HA.out).b, ?_⟩
      refine ⟨fun _ _ F => gR rfl rfl (arm_C1 rfl (enters Try.func59 rfl rfl) (F.f 2 rfl) (fun va w h1 => by have e_va : va = _ := h1; subst e_va; exact c_ref_Parse a w _ _ ha) (fun _ _ h => ofP h)).b, ?_⟩
      refine ⟨fun _ _ F => gR rfl rfl (arm_move (.inl rfl) (F.f 3 rfl)).b, ?_⟩
      refine ⟨fun _ _ F => gR rfl rfl (arm_pair0 rfl (F.f 4 rfl)).b, ?_⟩
      refine ⟨fun _ _ F => gR rfl rfl (arm_pair1 rfl (F.f 4 rfl)).b, ?_⟩
      refine ⟨fun _ _ F => gR rfl rfl (arm_alloc rfl (Nat.le_trans hbase F.below.size)), ?_⟩
      exact trivial
    intro E' hE gp wp bp G Gs
    simp only [subs, List.map_cons, List.map_nil, List.nil_append, List.cons_append, List.mem_cons, List.not_mem_nil, or_false, List.append_nil] at hE
    rcases hE with rfl | rfl
    · obtain ⟨g6, e_7, lg_7, hv_7⟩ := G 7 6 _ (by simp) rfl
      have n_5 : (Sp.nat (M)).p wp (gp 5) := G 5 37 _ (by simp) rfl
      have e_6 : gp 6 = Value.int IntKind.i64 0 := G 6 38 _ (by simp) rfl
      clear G Gs
      simp only [rP3ffT0]
      simp only [qA, setD, qZ, qS, e_7, e_6]
      have T0 := hv_7
      refine wpAny_storeN (j := 8) (by kernel_rfl) rfl rfl rfl rfl rfl n_5 T0.any ?_
      intro w0 u0 v0
      have O0 := T0.own
      refine wpAny_takeD (i := 9) (d := some 7) (v := Value.int IntKind.i64 0) rfl rfl (by kernel_rfl) (by kernel_rfl) (by kernel_rfl) (fun _ _ _ h => h) (Or.inl ⟨by rfl, fun w => by rfl⟩) ?_
      try simp only [qP, qZ, qS]
      refine wpAny_done (by kernel_rfl) ?_ _
      go_wp2_with fail
      go_meet
      case rel => exact ⟨g6, rfl, rfl, (by omega), v0, ((V0.mono bp V0.lt).upd O0 u0 (by omega)), (Upd.below (hb1.trans (bp.mono hb1.size)) u0 (by omega))⟩
    · obtain ⟨g6, e_7, lg_7, hv_7⟩ := G 7 6 _ (by simp) rfl
      obtain ⟨x_4_0, x_4_1, e_4, n_4_0, rfl⟩ := G 4 32 _ (by simp) rfl
      have n_5 : (Sp.nat (M)).p wp (gp 5) := G 5 37 _ (by simp) rfl
      clear G Gs
      simp only [rP3ffT0]
      simp only [qA, setD, qZ, qS, e_7, e_4]
      refine wpAny_takeD (i := 6) (d := some 38) (v := Value.int IntKind.i64 0) rfl rfl (by kernel_rfl) (by kernel_rfl) (by kernel_rfl) (fun _ _ _ h => h) (Or.inl ⟨by rfl, fun w => by rfl⟩) ?_
      try simp only [qP, qZ, qS]
      have T0 := hv_7
      refine wpAny_storeN (j := 8) (by kernel_rfl) rfl rfl rfl rfl rfl n_5 T0.any ?_
      intro w0 u0 v0
      have O0 := T0.own
      refine wpAny_takeD (i := 9) (d := some 7) (v := Value.int IntKind.i64 0) rfl rfl (by kernel_rfl) (by kernel_rfl) (by kernel_rfl) (fun _ _ _ h => h) (Or.inl ⟨by rfl, fun w => by rfl⟩) ?_
      try simp only [qP, qZ, qS]
      refine wpAny_done (by kernel_rfl) ?_ _
      go_wp2_with fail
      go_meet
      case rel => exact ⟨g6, rfl, rfl, (by omega), v0, ((V0.mono bp V0.lt).upd O0 u0 (by omega)), (Upd.below (hb1.trans (bp.mono hb1.size)) u0 (by omega))⟩
  case rest =>
  clear V0 hb1
  obtain ⟨g6, rfl, rfl, lg6, V6, V0, hb1⟩ := hcut
  go_upto_region 8 with (fail)
  go_cut [40] (fun s_40 wx => s_40 = Value.bool false ∧ VarFB wx w.heap.size false none 0 0 none 0 0 ∧ VarI wx g6 M ∧ Below w.heap.size w wx)
  case first =>
    refine tF Try.f15 8 (rP3ffT1 ) [] 2 0 ?_ ?_
    · refine ⟨fun _ _ F => gR rfl rfl (arm_move (.inl rfl) (F.k 7 (Value.int IntKind.i64 0))).b, ?_⟩
      refine ⟨fun _ _ F => gR rfl rfl (arm_bin rfl (F.f 0 rfl) Is.const (fun _ => rfl) (fun _ => rfl)).b, ?_⟩
      exact trivial
    intro E' hE gp wp bp G Gs
    obtain rfl : E' = [] := by simpa [subs] using hE
    have e_1 : gp 1 = Value.bool false := G 1 40 _ (by simp) rfl
    clear G Gs hE
    simp only [rP3ffT1]
    simp only [qA, setD, qZ, qS, e_1]
    refine wpAny_done (by kernel_rfl) ?_ _
    go_wp2_with fail
    go_meet
    case rel => exact ⟨rfl, (V0.mono bp V0.lt), (V6.mono bp), (hb1.trans (bp.mono hb1.size))⟩
  case rest =>
  clear V0 V6 hb1
  obtain ⟨rfl, V0, V6, hb1⟩ := hcut
  go_upto_region 10 with (fail)
  go_cut [8] (fun s_8 wx => ∃ g8, s_8 = Value.pointer (some ⟨g8, 0, none⟩) ∧ w.heap.size + 1 ≤ g8 ∧ g6 < g8 ∧ VarI wx g8 1 ∧ VarFB wx w.heap.size false none 0 0 none 0 0 ∧ VarI wx g6 M ∧ Below w.heap.size w wx)
  case first =>
    obtain ⟨base, hbase0⟩ : ∃ b : Nat, Hid (b = wc.heap.size) := ⟨_, Lib.hid rfl⟩
    have hbase : base ≤ wc.heap.size := by rw [hbase0.out]; exact Nat.le_refl _
    have hbw : w.heap.size + 1 ≤ base := by have := hb1.size; have h1 := V0.lt; rw [hbase0.out]; omega
    have l_V0 : w.heap.size < base := by rw [hbase0.out]; exact V0.lt
    have l_V6 : g6 < base := by rw [hbase0.out]; exact V6.lt
    refine wp_tabGF Try.f15 10 (rP3ffT2 base) [] (fun i => i == 1) 2 1 (by kernel_rfl) (by kernel_rfl) (by kernel_rfl) (by kernel_rfl) (by kernel_rfl) ⟨fun h => (by cases h), ⟨fun _ w v h => Sp.var_lt h, trivial⟩⟩ ?_ ?_
    · refine ⟨fun _ _ F => gR rfl rfl (arm_C1 rfl (enters Try.func54 rfl rfl) Is.const (fun va w h1 => by have e_va : va = _ := h1; subst e_va; exact c_ref_Of 1 w (by decide)) (fun _ _ h => ofNew h)).b, ?_⟩
      refine ⟨fun _ _ F => gR rfl rfl (arm_alloc rfl (Nat.le_trans hbase F.below.size)), ?_⟩
      exact trivial
    intro E' hE gp wp bp G Gs
    obtain rfl : E' = [] := by simpa [subs] using hE
    obtain ⟨g8, e_1, lg_1, hv_1⟩ := G 1 8 _ (by simp) rfl
    have n_0 : (Sp.nat (1)).p wp (gp 0) := G 0 43 _ (by simp) rfl
    clear G Gs hE
    simp only [rP3ffT2]
    simp only [qA, setD, qZ, qS, e_1]
    have T0 := hv_1
    refine wpAny_storeN (j := 2) (by kernel_rfl) rfl rfl rfl rfl rfl n_0 T0.any ?_
    intro w0 u0 v0
    have O0 := T0.own
    refine wpAny_done (by kernel_rfl) ?_ _
    go_wp2_with fail
    go_meet
    case rel => exact ⟨g8, rfl, (by omega), (by omega), v0, ((V0.mono bp V0.lt).upd O0 u0 (by omega)), ((V6.mono bp).upd O0 u0 (by omega)), (Upd.below (hb1.trans (bp.mono hb1.size)) u0 (by omega))⟩
  case rest =>
  clear V0 V6 hb1
  obtain ⟨g8, rfl, lg8, d10_0, V8, V0, V6, hb1⟩ := hcut
  go_upto_region 11 with (fail)
  go_cut [47] (fun s_47 wx => s_47 = Value.bool false ∧ VarFB wx w.heap.size false none 0 0 none 0 0 ∧ VarI wx g6 M ∧ VarI wx g8 1 ∧ Below w.heap.size w wx)
  case first =>
    refine tF Try.f15 11 (rP3ffT3 t i) [] 3 0 ?_ ?_
    · refine ⟨fun _ _ F => gR rfl rfl (arm_move (.inl rfl) (F.k 5 (Value.int IntKind.i64 (i : Int)))).b, ?_⟩
      refine ⟨fun _ _ F => gR rfl rfl (arm_move (.inl rfl) (F.k 0 (Value.string t))).b, ?_⟩
      refine ⟨fun _ _ F => gR rfl rfl (arm_lenStr rfl (F.f 1 rfl)).b, ?_⟩
      refine ⟨fun _ _ F => gR rfl rfl (arm_bin rfl (F.f 0 rfl) (F.f 2 rfl) (fun _ => rfl) (fun w => by rw [LT.out]; exact run_ltI _ _ _ w)).b, ?_⟩
      exact trivial
    intro E' hE gp wp bp G Gs
    obtain rfl : E' = [] := by simpa [subs] using hE
    have e_3 : gp 3 = Value.bool false := G 3 47 _ (by simp) rfl
    clear G Gs hE
    simp only [rP3ffT3]
    simp only [qA, setD, qZ, qS, e_3]
    refine wpAny_done (by kernel_rfl) ?_ _
    go_wp2_with fail
    go_meet
    case rel => exact ⟨rfl, (V0.mono bp V0.lt), (V6.mono bp), (V8.mono bp), (hb1.trans (bp.mono hb1.size))⟩
  case rest =>
  clear V0 V6 V8 hb1
  obtain ⟨rfl, V0, V6, V8, hb1⟩ := hcut
  rcases Bool.eq_false_or_eq_true B with rfl | rfl
  · have hv2 : (Fq.mk true M 1).valid = false := HV.out
    by_cases hz : M = 0
    · have HZ : Hid (decide (M = 0) = true) := Lib.hid (decide_eq_true hz)
      clear hz hv2
      go_upto_region 17 with (fail)
      go_cut [77] (fun s_77 wx => s_77 = Value.bool true ∧ VarFB wx w.heap.size false none 0 0 none 0 0 ∧ VarI wx g6 M ∧ VarI wx g8 1 ∧ Below w.heap.size w wx)
      case first =>
        refine tF Try.f15 17 (rP3ffT4 M) [] 12 0 ?_ ?_
        · refine ⟨fun _ _ F => gR rfl rfl (arm_move (.inl rfl) (F.k 4 (Value.bool true))).b, ?_⟩
          refine ⟨fun _ _ F => gR rfl rfl (arm_move (.inl rfl) (F.f 0 rfl)).b, ?_⟩
          refine ⟨fun _ _ F => gG F rfl rfl rfl rfl (arm_load rfl (F.k 6 (Value.pointer (some ⟨g6, 0, none⟩))) (V6.mono F.below)).b, ?_⟩
          refine ⟨fun _ _ F => gG F rfl rfl rfl rfl (arm_C1 rfl (enters Try.func51 rfl rfl) (F.f 2 rfl) (fun va w h1 => c_zero va M w h1 (Nat.le_trans (parse_nlU ha) (by decide))) (fun _ _ h => by have h' : RetV _ _ _ _ := h; rw [HZ.out] at h'; exact ofV h')).b, ?_⟩
          refine ⟨fun _ _ F => gR rfl rfl (arm_pick rfl (F.f 1 rfl) (fun _ => (F.f 3 rfl)) (fun h => by cases h)).b, ?_⟩
          refine ⟨fun _ _ F => gR rfl rfl (arm_move (.inl rfl) (F.f 4 rfl)).b, ?_⟩
          refine ⟨fun _ _ F => gS F rfl rfl rfl rfl rfl rfl, ?_⟩
          refine ⟨fun _ _ F => gS F rfl rfl rfl rfl rfl rfl, ?_⟩
          refine ⟨fun _ _ F => gS F rfl rfl rfl rfl rfl rfl, ?_⟩
          refine ⟨fun _ _ F => gS F rfl rfl rfl rfl rfl rfl, ?_⟩
          refine ⟨fun _ _ F => gS F rfl rfl rfl rfl rfl rfl, ?_⟩
          refine ⟨fun _ _ F => gS F rfl rfl rfl rfl rfl rfl, ?_⟩
          refine ⟨fun _ _ F => gR rfl rfl (arm_pick rfl (F.f 5 rfl) (fun _ => Is.const) (fun h => by cases h)).b, ?_⟩
          exact trivial
        intro E' hE gp wp bp G Gs
        obtain rfl : E' = [] := by simpa [subs] using hE
        have e_12 : gp 12 = Value.bool true := G 12 77 _ (by simp) rfl
        clear G Gs hE
        simp only [rP3ffT4]
        simp only [qA, setD, qZ, qS, e_12]
        refine wpAny_done (by kernel_rfl) ?_ _
        go_wp2_with fail
        go_meet
        case rel => exact ⟨rfl, (V0.mono bp V0.lt), (V6.mono bp), (V8.mono bp), (hb1.trans (bp.mono hb1.size))⟩
      case rest =>
      clear V0 V6 V8 hb1
      obtain ⟨rfl, V0, V6, V8, hb1⟩ := hcut
      go_upto_region 18 with (fail)
      go_cut [3] (fun s_3 wx => s_3 = Value.int IntKind.i64 2 ∧ VarQ wx w.heap.size Fq.zero ∧ VarI wx g6 M ∧ VarI wx g8 1 ∧ Below w.heap.size w wx)
      case first =>
        refine tF Try.f15 18 (rP3ffT5 ) [] 3 2 ?_ ?_
        · refine ⟨fun _ _ F => gR rfl rfl (arm_build0F rfl).b, ?_⟩
          exact trivial
        intro E' hE gp wp bp G Gs
        obtain rfl : E' = [] := by simpa [subs] using hE
        have n_0 : (Sp.fq Fq.zero).p wp (gp 0) := G 0 78 _ (by simp) rfl
        clear G Gs hE
        simp only [rP3ffT5]
        simp only [qA, setD, qZ, qS]
        have T0 := (V0.mono bp V0.lt)
        refine wpAny_storeFr (j := 1) (by kernel_rfl) rfl rfl rfl rfl rfl n_0 T0.any ?_
        intro w0 u0 v0
        have O0 := T0.own
        refine wpAny_takeD (i := 2) (d := some 3) (v := Value.int IntKind.i64 2) rfl rfl (by kernel_rfl) (by kernel_rfl) (by kernel_rfl) (fun _ _ _ h => h) (Or.inl ⟨by rfl, fun w => by rfl⟩) ?_
        try simp only [qP, qZ, qS]
        refine wpAny_done (by kernel_rfl) ?_ _
        go_wp2_with fail
        go_meet
        case rel => exact ⟨rfl, v0, ((V6.mono bp).upd O0 u0 (by omega)), ((V8.mono bp).upd O0 u0 (by omega)), (Upd.below (hb1.trans (bp.mono hb1.size)) u0 (by omega))⟩
      case rest =>
      clear V0 V6 V8 hb1
      obtain ⟨rfl, V0, V6, V8, hb1⟩ := hcut
      obtain ⟨r1, r2, r3, r4, rV, rn, rm⟩ := V0
      have c0 := rV.cell0
      have c1 := rV.cell1
      have c2 := rV.cell2
      go_wp2
      exact bodyPost_ret (res_FE rfl rfl rfl rV) rfl ⟨_, rfl, ⟨r1, r2, r3, r4, rfl, rn, rm⟩, hb1⟩
    · have HZ : Hid (decide (M = 0) = false) := Lib.hid (decide_eq_false hz)
      have HG : Hid (decide (Gd = 1) = false) := Lib.hid (by rw [hGd.out]; apply decide_eq_false; intro h9; rw [show (Fq.mk true M 1).valid = true from decide_eq_true ⟨Nat.one_ne_zero, fun h8 => hz h8.2, h9⟩] at hv2; cases hv2)
      clear hz hv2
      go_upto_region 17 with (fail)
      go_cut [77] (fun s_77 wx => s_77 = Value.bool true ∧ VarFB wx w.heap.size false none 0 0 none 0 0 ∧ VarI wx g6 M ∧ VarI wx g8 1 ∧ Below w.heap.size w wx)
      case first =>
        refine tF Try.f15 17 (rP3ffT6 M Gd) [] 12 0 ?_ ?_
        · refine ⟨fun _ _ F => gR rfl rfl (arm_move (.inl rfl) (F.k 4 (Value.bool true))).b, ?_⟩
          refine ⟨fun _ _ F => gR rfl rfl (arm_move (.inl rfl) (F.f 0 rfl)).b, ?_⟩
          refine ⟨fun _ _ F => gG F rfl rfl rfl rfl (arm_load rfl (F.k 6 (Value.pointer (some ⟨g6, 0, none⟩))) (V6.mono F.below)).b, ?_⟩
          refine ⟨fun _ _ F => gG F rfl rfl rfl rfl (arm_C1 rfl (enters Try.func51 rfl rfl) (F.f 2 rfl) (fun va w h1 => c_zero va M w h1 (Nat.le_trans (parse_nlU ha) (by decide))) (fun _ _ h => by have h' : RetV _ _ _ _ := h; rw [HZ.out] at h'; exact ofV h')).b, ?_⟩
          refine ⟨fun _ _ F => gR rfl rfl (arm_pick rfl (F.f 1 rfl) (fun _ => (F.f 3 rfl)) (fun h => by cases h)).b, ?_⟩
          refine ⟨fun _ _ F => gR rfl rfl (arm_move (.inl rfl) (F.f 4 rfl)).b, ?_⟩
          refine ⟨fun _ _ F => gG F rfl rfl rfl rfl (arm_load rfl (F.k 6 (Value.pointer (some ⟨g6, 0, none⟩))) (V6.mono F.below)).b, ?_⟩
          refine ⟨fun _ _ F => gG F rfl rfl rfl rfl (arm_load rfl (F.k 8 (Value.pointer (some ⟨g8, 0, none⟩))) (V8.mono F.below)).b, ?_⟩
          refine ⟨fun _ _ F => gG F rfl rfl rfl rfl (arm_C2 rfl (enters Try.func53 rfl rfl) (F.f 6 rfl) (F.f 7 rfl) (fun va vb w h1 h2 => c_ref_Gcd va vb M 1 w h1 h2 (Nat.le_trans (parse_nlU ha) (by decide)) (by decide)) (fun _ _ h => by rw [hGd.out]; exact ofN h)).b, ?_⟩
          refine ⟨fun _ _ F => gG F rfl rfl rfl rfl (arm_C1 rfl (enters Try.func54 rfl rfl) Is.const (fun va w h1 => by have e_va : va = _ := h1; subst e_va; exact c_ref_Of 1 w (by decide)) (fun _ _ h => ofNew h)).b, ?_⟩
          refine ⟨fun _ _ F => gG F rfl rfl rfl rfl (arm_C2 rfl (enters Try.func52 rfl rfl) (F.f 8 rfl) (F.f 9 rfl) (fun va vb w h1 h2 => c_ref_Same va vb Gd 1 w h1 h2 bG (by decide)) (fun _ _ h => by have h' : RetV _ _ _ _ := h; rw [HG.out] at h'; exact ofV h')).b, ?_⟩
          refine ⟨fun _ _ F => gG F rfl rfl rfl rfl (arm_not rfl (F.f 10 rfl)).b, ?_⟩
          refine ⟨fun _ _ F => gR rfl rfl (arm_pick rfl (F.f 5 rfl) (fun h => by cases h) (fun _ => (F.f 11 rfl))).b, ?_⟩
          exact trivial
        intro E' hE gp wp bp G Gs
        obtain rfl : E' = [] := by simpa [subs] using hE
        have e_12 : gp 12 = Value.bool true := G 12 77 _ (by simp) rfl
        clear G Gs hE
        simp only [rP3ffT6]
        simp only [qA, setD, qZ, qS, e_12]
        refine wpAny_done (by kernel_rfl) ?_ _
        go_wp2_with fail
        go_meet
        case rel => exact ⟨rfl, (V0.mono bp V0.lt), (V6.mono bp), (V8.mono bp), (hb1.trans (bp.mono hb1.size))⟩
      case rest =>
      clear V0 V6 V8 hb1
      obtain ⟨rfl, V0, V6, V8, hb1⟩ := hcut
      go_upto_region 18 with (fail)
      go_cut [3] (fun s_3 wx => s_3 = Value.int IntKind.i64 2 ∧ VarQ wx w.heap.size Fq.zero ∧ VarI wx g6 M ∧ VarI wx g8 1 ∧ Below w.heap.size w wx)
      case first =>
        refine tF Try.f15 18 (rP3ffT7 ) [] 3 2 ?_ ?_
        · refine ⟨fun _ _ F => gR rfl rfl (arm_build0F rfl).b, ?_⟩
          exact trivial
        intro E' hE gp wp bp G Gs
        obtain rfl : E' = [] := by simpa [subs] using hE
        have n_0 : (Sp.fq Fq.zero).p wp (gp 0) := G 0 78 _ (by simp) rfl
        clear G Gs hE
        simp only [rP3ffT7]
        simp only [qA, setD, qZ, qS]
        have T0 := (V0.mono bp V0.lt)
        refine wpAny_storeFr (j := 1) (by kernel_rfl) rfl rfl rfl rfl rfl n_0 T0.any ?_
        intro w0 u0 v0
        have O0 := T0.own
        refine wpAny_takeD (i := 2) (d := some 3) (v := Value.int IntKind.i64 2) rfl rfl (by kernel_rfl) (by kernel_rfl) (by kernel_rfl) (fun _ _ _ h => h) (Or.inl ⟨by rfl, fun w => by rfl⟩) ?_
        try simp only [qP, qZ, qS]
        refine wpAny_done (by kernel_rfl) ?_ _
        go_wp2_with fail
        go_meet
        case rel => exact ⟨rfl, v0, ((V6.mono bp).upd O0 u0 (by omega)), ((V8.mono bp).upd O0 u0 (by omega)), (Upd.below (hb1.trans (bp.mono hb1.size)) u0 (by omega))⟩
      case rest =>
      clear V0 V6 V8 hb1
      obtain ⟨rfl, V0, V6, V8, hb1⟩ := hcut
      obtain ⟨r1, r2, r3, r4, rV, rn, rm⟩ := V0
      have c0 := rV.cell0
      have c1 := rV.cell1
      have c2 := rV.cell2
      go_wp2
      exact bodyPost_ret (res_FE rfl rfl rfl rV) rfl ⟨_, rfl, ⟨r1, r2, r3, r4, rfl, rn, rm⟩, hb1⟩
  · have hv2 : (Fq.mk false M 1).valid = false := HV.out
    have HG : Hid (decide (Gd = 1) = false) := Lib.hid (by rw [hGd.out]; apply decide_eq_false; intro h9; rw [show (Fq.mk false M 1).valid = true from decide_eq_true ⟨Nat.one_ne_zero, fun h8 => (by cases h8.1), h9⟩] at hv2; cases hv2)
    clear hv2
    go_upto_region 17 with (fail)
    go_cut [77] (fun s_77 wx => s_77 = Value.bool true ∧ VarFB wx w.heap.size false none 0 0 none 0 0 ∧ VarI wx g6 M ∧ VarI wx g8 1 ∧ Below w.heap.size w wx)
    case first =>
      refine tF Try.f15 17 (rP3ffT8 M Gd) [] 12 0 ?_ ?_
      · refine ⟨fun _ _ F => gR rfl rfl (arm_move (.inl rfl) (F.k 4 (Value.bool false))).b, ?_⟩
        refine ⟨fun _ _ F => gR rfl rfl (arm_move (.inl rfl) (F.f 0 rfl)).b, ?_⟩
        refine ⟨fun _ _ F => gS F rfl rfl rfl rfl rfl rfl, ?_⟩
        refine ⟨fun _ _ F => gS F rfl rfl rfl rfl rfl rfl, ?_⟩
        refine ⟨fun _ _ F => gR rfl rfl (arm_pick rfl (F.f 1 rfl) (fun h => by cases h) (fun _ => Is.const)).b, ?_⟩
        refine ⟨fun _ _ F => gR rfl rfl (arm_move (.inl rfl) (F.f 4 rfl)).b, ?_⟩
        refine ⟨fun _ _ F => gG F rfl rfl rfl rfl (arm_load rfl (F.k 6 (Value.pointer (some ⟨g6, 0, none⟩))) (V6.mono F.below)).b, ?_⟩
        refine ⟨fun _ _ F => gG F rfl rfl rfl rfl (arm_load rfl (F.k 8 (Value.pointer (some ⟨g8, 0, none⟩))) (V8.mono F.below)).b, ?_⟩
        refine ⟨fun _ _ F => gG F rfl rfl rfl rfl (arm_C2 rfl (enters Try.func53 rfl rfl) (F.f 6 rfl) (F.f 7 rfl) (fun va vb w h1 h2 => c_ref_Gcd va vb M 1 w h1 h2 (Nat.le_trans (parse_nlU ha) (by decide)) (by decide)) (fun _ _ h => by rw [hGd.out]; exact ofN h)).b, ?_⟩
        refine ⟨fun _ _ F => gG F rfl rfl rfl rfl (arm_C1 rfl (enters Try.func54 rfl rfl) Is.const (fun va w h1 => by have e_va : va = _ := h1; subst e_va; exact c_ref_Of 1 w (by decide)) (fun _ _ h => ofNew h)).b, ?_⟩
        refine ⟨fun _ _ F => gG F rfl rfl rfl rfl (arm_C2 rfl (enters Try.func52 rfl rfl) (F.f 8 rfl) (F.f 9 rfl) (fun va vb w h1 h2 => c_ref_Same va vb Gd 1 w h1 h2 bG (by decide)) (fun _ _ h => by have h' : RetV _ _ _ _ := h; rw [HG.out] at h'; exact ofV h')).b, ?_⟩
        refine ⟨fun _ _ F => gG F rfl rfl rfl rfl (arm_not rfl (F.f 10 rfl)).b, ?_⟩
        refine ⟨fun _ _ F => gR rfl rfl (arm_pick rfl (F.f 5 rfl) (fun h => by cases h) (fun _ => (F.f 11 rfl))).b, ?_⟩
        exact trivial
      intro E' hE gp wp bp G Gs
      obtain rfl : E' = [] := by simpa [subs] using hE
      have e_12 : gp 12 = Value.bool true := G 12 77 _ (by simp) rfl
      clear G Gs hE
      simp only [rP3ffT8]
      simp only [qA, setD, qZ, qS, e_12]
      refine wpAny_done (by kernel_rfl) ?_ _
      go_wp2_with fail
      go_meet
      case rel => exact ⟨rfl, (V0.mono bp V0.lt), (V6.mono bp), (V8.mono bp), (hb1.trans (bp.mono hb1.size))⟩
    case rest =>
    clear V0 V6 V8 hb1
    obtain ⟨rfl, V0, V6, V8, hb1⟩ := hcut
    go_upto_region 18 with (fail)
    go_cut [3] (fun s_3 wx => s_3 = Value.int IntKind.i64 2 ∧ VarQ wx w.heap.size Fq.zero ∧ VarI wx g6 M ∧ VarI wx g8 1 ∧ Below w.heap.size w wx)
    case first =>
      refine tF Try.f15 18 (rP3ffT9 ) [] 3 2 ?_ ?_
      · refine ⟨fun _ _ F => gR rfl rfl (arm_build0F rfl).b, ?_⟩
        exact trivial
      intro E' hE gp wp bp G Gs
      obtain rfl : E' = [] := by simpa [subs] using hE
      have n_0 : (Sp.fq Fq.zero).p wp (gp 0) := G 0 78 _ (by simp) rfl
      clear G Gs hE
      simp only [rP3ffT9]
      simp only [qA, setD, qZ, qS]
      have T0 := (V0.mono bp V0.lt)
      refine wpAny_storeFr (j := 1) (by kernel_rfl) rfl rfl rfl rfl rfl n_0 T0.any ?_
      intro w0 u0 v0
      have O0 := T0.own
      refine wpAny_takeD (i := 2) (d := some 3) (v := Value.int IntKind.i64 2) rfl rfl (by kernel_rfl) (by kernel_rfl) (by kernel_rfl) (fun _ _ _ h => h) (Or.inl ⟨by rfl, fun w => by rfl⟩) ?_
      try simp only [qP, qZ, qS]
      refine wpAny_done (by kernel_rfl) ?_ _
      go_wp2_with fail
      go_meet
      case rel => exact ⟨rfl, v0, ((V6.mono bp).upd O0 u0 (by omega)), ((V8.mono bp).upd O0 u0 (by omega)), (Upd.below (hb1.trans (bp.mono hb1.size)) u0 (by omega))⟩
    case rest =>
    clear V0 V6 V8 hb1
    obtain ⟨rfl, V0, V6, V8, hb1⟩ := hcut
    obtain ⟨r1, r2, r3, r4, rV, rn, rm⟩ := V0
    have c0 := rV.cell0
    have c1 := rV.cell1
    have c2 := rV.cell2
    go_wp2
    exact bodyPost_ret (res_FE rfl rfl rfl rV) rfl ⟨_, rfl, ⟨r1, r2, r3, r4, rfl, rn, rm⟩, hb1⟩
theorem q_rParse (s : ByteArray) (x : Fq) (c : Int) (w : World) (h : FP s x c) (hs : s.size ≤ 4294967280) : Calls Try.prog 15 #[.string s] w fun e w' => RetQE w x c e w' := by
  cases h with
  | num h ha h0 => rename_i t B F a b M; cases F; exact rP_num_false s t a b B M w h hs c ha h0; exact rP_num_true s t a b B M w h hs c ha h0
  | den h ha hb h0 => exact rP_den s _ _ _ _ _ w h hs _ c ha hb h0
  | bad h ha hb hv => rename_i t B F a b M N; cases F; exact rP_bad_false s t a b B M w h hs ha hv; exact rP_bad_true s t a b B M w h hs ha N (hb rfl) hv
  | good h ha hb hv => rename_i t B F a b M N; cases F; exact rP_good_false s t a b B M w h hs ha hv; exact rP_good_true s t a b B M w h hs ha N (hb rfl) hv
end Go.Proofs.Ytldnimohnbjfaaa
