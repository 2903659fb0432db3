/- Parse of package fraction. -/
import Derived.Test.YtfhinmdhjlmikaaGreatDoorP13
namespace Go.Proofs.YtfhinmdhjlmikaaGreatDoor
set_option linter.unusedSimpArgs false
set_option linter.unusedVariables false
set_option maxRecDepth 100000
open Go.RowKit
theorem pv_lt (s : ByteArray) (k : Nat) (hg : goodTo s k) : parseVal s k < 10 ^ k := by
  induction k with
  | zero => show 0 < 1; omega
  | succ k ih =>
    have h1 := ih (fun j hj => hg j (by omega))
    have h2 := hg k (by omega)
    show 10 * parseVal s k + (by' s k - 48) < 10 ^ (k + 1)
    rw [Nat.pow_succ]; omega
theorem parse_nlU {s : ByteArray} {N : Nat} {c : Int} (h : ParseIs s N c) : nl N ≤ 400 := by
  have h0 : nl 0 ≤ 400 := by rw [nl_zero]; omega
  by_cases h1 : s.size = 0
  · rw [(h.short h1).1]; exact h0
  · by_cases h2 : 400 < s.size
    · rw [(h.long h2).1]; exact h0
    · by_cases h3 : goodTo s s.size
      · by_cases h4 : by' s 0 = 48 → s.size = 1
        · rw [(h.good (by omega) (by omega) h4 h3).1]
          have key : ∀ k, s.size ≤ k → parseVal s s.size < 4294967296 ^ k := fun k hk => Nat.lt_of_lt_of_le (pv_lt s s.size h3) (Nat.le_trans (Nat.pow_le_pow_right (by decide) hk) (Nat.pow_le_pow_left (by decide) k))
          exact nl_le_iff.2 (key 400 (by omega))
        · have h5 : by' s 0 = 48 ∧ s.size ≠ 1 := by
            constructor
            · exact Classical.byContradiction fun h => h4 (fun h' => absurd h' h)
            · exact fun h => h4 (fun _ => h)
          rw [(h.zero (by omega) (by omega) h5.1).1]; exact h0
      · rw [(h.bad (by omega) (by omega) h3).1]; exact h0
/-- How a text falls into sign, numerator, slash, denominator. -/
structure Pieces (s t : ByteArray) (B F : Bool) (a b : ByteArray) : Prop where
  sign : decide (0 < s.size ∧ by' s 0 = 45) = B
  rest : t = if B then s.extract 1 s.size else s
  hit : F = true → ∃ i, slashAt t i ∧ a = t.extract 0 i ∧ b = t.extract (i + 1) t.size
  miss : F = false → noSlash t ∧ a = t ∧ b = { data := #[] }
/-- The denominator; whether a fraction of these parts is accepted. -/
def parseQ (F : Bool) (N : Nat) : Nat := if F then N else 1
def parseV (B F : Bool) (M N : Nat) : Bool := if F then !decide (N = 1) && (Fq.mk B M N).valid else (Fq.mk B M 1).valid
/-- What a text is read as. -/
inductive FP (s : ByteArray) : Fq → Int → Prop
  | num {t B F a b M c} (h : Pieces s t B F a b) (ha : ParseIs a M c) (h0 : c ≠ 0) : FP s .zero c
  | den {t B a b M N c} (h : Pieces s t B true a b) (ha : ParseIs a M 0) (hb : ParseIs b N c) (h0 : c ≠ 0) : FP s .zero c
  | bad {t B F a b M N} (h : Pieces s t B F a b) (ha : ParseIs a M 0) (hb : F = true → ParseIs b N 0) (hv : parseV B F M N = false) : FP s .zero 2
  | good {t B F a b M N} (h : Pieces s t B F a b) (ha : ParseIs a M 0) (hb : F = true → ParseIs b N 0) (hv : parseV B F M N = true) : FP s ⟨B, M, parseQ F N⟩ 0
theorem cut_piece {s t a b : ByteArray} {B F : Bool} (h : Pieces s t B F a b) (w : World) (hs : t.size ≤ 4294967280) : Calls Tryz.prog 72 #[.string t, .string { data := #[47] }] w fun e w' => e = .returned (.tuple #[.string a, .string b, .bool F]) ∧ Below w.heap.size w w' := by
  cases F with
  | true => obtain ⟨i, h1, rfl, rfl⟩ := h.hit rfl; exact c_Cut w (c_sCut_hit t i w hs h1)
  | false => obtain ⟨h1, rfl, rfl⟩ := h.miss rfl; exact c_Cut w (c_sCut_miss _ w hs h1)
theorem pieces_size {s t a b : ByteArray} {B F : Bool} (h : Pieces s t B F a b) : t.size ≤ s.size := by
  rw [h.rest]
  cases B
  · simp
  · simp only [if_true, ByteArray.size_extract]; omega
theorem ofPair {w w' : World} {u v : Value} {e : Ending} (h : e = .returned (.tuple #[u, v]) ∧ Below w.heap.size w w') : ∃ x, e = .returned x ∧ (Sp.pair (.val u) (.val v)).p w' x ∧ Below w.heap.size w w' := ⟨_, h.1, ⟨_, _, rfl, rfl, rfl⟩, h.2⟩
theorem ofTrip {w w' : World} {u v z : Value} {e : Ending} (h : e = .returned (.tuple #[u, v, z]) ∧ Below w.heap.size w w') : ∃ x, e = .returned x ∧ (Sp.trip (.val u) (.val v) (.val z)).p w' x ∧ Below w.heap.size w w' := ⟨_, h.1, ⟨_, _, _, rfl, rfl, rfl, rfl⟩, h.2⟩
def fP1tT0 (s : ByteArray) (t : ByteArray) (B : Bool) : List (Nat × Tmp × Sp) :=
   [(0, 14, .val (Value.string s)),
    (1, 15, .pair (.val (Value.string t)) (.val (Value.bool B))),
    (2, 13, .pair (.val (Value.string t)) (.val (Value.bool B))),
    (3, 16, .val (Value.string t)),
    (4, 17, .val (Value.bool B)),
    (5, 4, .val (Value.string t)),
    (6, 5, .val (Value.bool B))]
def fP1tT1 (t : ByteArray) (a : ByteArray) (b : ByteArray) : List (Nat × Tmp × Sp) :=
   [(0, 19, .val (Value.string t)),
    (1, 20, .trip (.val (Value.string a)) (.val (Value.string b)) (.val (Value.bool true))),
    (2, 18, .trip (.val (Value.string a)) (.val (Value.string b)) (.val (Value.bool true))),
    (3, 21, .val (Value.string a)),
    (4, 22, .val (Value.string b)),
    (5, 23, .val (Value.bool true)),
    (6, 6, .val (Value.string a)),
    (7, 7, .val (Value.string b)),
    (8, 8, .val (Value.bool true))]
def fP1tT2 (a : ByteArray) (M : Nat) (c : Int) (base : Nat) : List (Nat × Tmp × Sp) :=
   [(0, 25, .val (Value.string a)),
    (1, 26, .pair (.nat (M)) (.val (Value.int IntKind.i64 c))),
    (2, 24, .pair (.nat (M)) (.val (Value.int IntKind.i64 c))),
    (3, 27, .nat (M)),
    (4, 28, .val (Value.int IntKind.i64 c)),
    (5, 9, .var base)]
def fP1tT3 (c : Int) : List (Nat × Tmp × Sp) :=
   [(0, 29, .val (Value.int IntKind.i64 c)),
    (1, 30, .val (Value.bool true))]
def fP1tT4 (c : Int) : List (Nat × Tmp × Sp) :=
   [(0, 31, .fq Fq.zero),
    (1, 32, .val (Value.int IntKind.i64 c))]
set_option maxHeartbeats 4000000 in
theorem fP_num_true (s t a b : ByteArray) (B : Bool) (M : Nat) (w : World) (HP : Pieces s t B true a b) (hs : s.size ≤ 4294967280) (c : Int) (ha : ParseIs a M c) (h0 : c ≠ 0) :
    Calls Tryz.prog 48 #[.string s] w fun e w' => RetQE w .zero c e w' := by
  have hts : t.size ≤ 4294967280 := Nat.le_trans (pieces_size HP) hs
  have HC : Hid (true = (c != 0)) := Lib.hid (by simpa using h0)
  clear h0
  obtain ⟨m0, k0⟩ := resF (w := w)
  go_enter Tryz.func48, Tryz.ntmps48
  go_upto_region 0 with (fail)
  go_cut [2, 3] (fun s_2 s_3 wx => s_2 = Value.pointer (some ⟨w.heap.size, 0, none⟩) ∧ s_3 = Value.int IntKind.i64 0 ∧ VarFB wx w.heap.size false none 0 0 none 0 0 ∧ Below w.heap.size w wx)
  case first =>
    go_wp2_with fail
    go_meet
    case rel => exact ⟨rfl, rfl, k0, m0⟩
  case rest =>
  clear m0 k0
  obtain ⟨rfl, rfl, V0, hb1⟩ := hcut
  go_upto_region 1 with (fail)
  go_cut [4, 5] (fun s_4 s_5 wx => s_4 = Value.string t ∧ s_5 = Value.bool B ∧ VarFB wx w.heap.size false none 0 0 none 0 0 ∧ Below w.heap.size w wx)
  case first =>
    refine wp_tabGF Tryz.f48 1 (fP1tT0 s t B) [] (fun _ => false) 6 0 (by kernel_rfl) (by kernel_rfl) (by kernel_rfl) (by kernel_rfl) (by kernel_rfl) (EachX.of_all (fun _ h => by cases h) _) ?_ ?_
    · refine ⟨fun _ _ F => gR rfl rfl (arm_move (.inl rfl) (F.k 0 (Value.string s))).b, ?_⟩
      refine ⟨fun _ _ F => gR rfl rfl (arm_C2 rfl (enters Tryz.func71 rfl rfl) (F.f 0 rfl) Is.const (fun va vb w h1 h2 => by have e_va : va = _ := h1; subst e_va; have e_vb : vb = _ := h2; subst e_vb; exact c_CutPrefix _ _ _ w HP.sign HP.rest) (fun _ _ h => ofPair h)).b, ?_⟩
      refine ⟨fun _ _ F => gR rfl rfl (arm_move (.inl rfl) (F.f 1 rfl)).b, ?_⟩
      refine ⟨fun _ _ F => gR rfl rfl (arm_pair0 rfl (F.f 2 rfl)).b, ?_⟩
      refine ⟨fun _ _ F => gR rfl rfl (arm_pair1 rfl (F.f 2 rfl)).b, ?_⟩
      refine ⟨fun _ _ F => gR rfl rfl (arm_move (.inr rfl) (F.f 3 rfl)).b, ?_⟩
      refine ⟨fun _ _ F => gR rfl rfl (arm_move (.inr rfl) (F.f 4 rfl)).b, ?_⟩
      exact trivial
    intro E' hE gp wp bp G Gs
    obtain rfl : E' = [] := by simpa [subs] using hE
    have e_5 : gp 5 = Value.string t := G 5 4 _ (by simp) rfl
    have e_6 : gp 6 = Value.bool B := G 6 5 _ (by simp) rfl
    clear G Gs hE
    simp only [fP1tT0]
    simp only [qA, setD, qZ, qS, e_5, e_6]
    refine wpAny_done (by kernel_rfl) ?_ _
    go_wp2_with fail
    go_meet
    case rel => exact ⟨rfl, rfl, (V0.mono bp V0.lt), (hb1.trans (bp.mono hb1.size))⟩
  case rest =>
  clear V0 hb1
  obtain ⟨rfl, rfl, V0, hb1⟩ := hcut
  go_upto_region 2 with (fail)
  go_cut [6, 7, 8] (fun s_6 s_7 s_8 wx => s_6 = Value.string a ∧ s_7 = Value.string b ∧ s_8 = Value.bool true ∧ VarFB wx w.heap.size false none 0 0 none 0 0 ∧ Below w.heap.size w wx)
  case first =>
    refine wp_tabGF Tryz.f48 2 (fP1tT1 t a b) [] (fun _ => false) 7 0 (by kernel_rfl) (by kernel_rfl) (by kernel_rfl) (by kernel_rfl) (by kernel_rfl) (EachX.of_all (fun _ h => by cases h) _) ?_ ?_
    · refine ⟨fun _ _ F => gR rfl rfl (arm_move (.inl rfl) (F.k 4 (Value.string t))).b, ?_⟩
      refine ⟨fun _ _ F => gR rfl rfl (arm_C2 rfl (enters Tryz.func72 rfl rfl) (F.f 0 rfl) Is.const (fun va vb w h1 h2 => by have e_va : va = _ := h1; subst e_va; have e_vb : vb = _ := h2; subst e_vb; exact cut_piece HP w hts) (fun _ _ h => ofTrip h)).b, ?_⟩
      refine ⟨fun _ _ F => gR rfl rfl (arm_move (.inl rfl) (F.f 1 rfl)).b, ?_⟩
      refine ⟨fun _ _ F => gR rfl rfl (arm_trip0 rfl (F.f 2 rfl)).b, ?_⟩
      refine ⟨fun _ _ F => gR rfl rfl (arm_trip1 rfl (F.f 2 rfl)).b, ?_⟩
      refine ⟨fun _ _ F => gR rfl rfl (arm_trip2 rfl (F.f 2 rfl)).b, ?_⟩
      refine ⟨fun _ _ F => gR rfl rfl (arm_move (.inr rfl) (F.f 3 rfl)).b, ?_⟩
      refine ⟨fun _ _ F => gR rfl rfl (arm_move (.inr rfl) (F.f 4 rfl)).b, ?_⟩
      refine ⟨fun _ _ F => gR rfl rfl (arm_move (.inr rfl) (F.f 5 rfl)).b, ?_⟩
      exact trivial
    intro E' hE gp wp bp G Gs
    obtain rfl : E' = [] := by simpa [subs] using hE
    have e_6 : gp 6 = Value.string a := G 6 6 _ (by simp) rfl
    have e_7 : gp 7 = Value.string b := G 7 7 _ (by simp) rfl
    have e_8 : gp 8 = Value.bool true := G 8 8 _ (by simp) rfl
    clear G Gs hE
    simp only [fP1tT1]
    simp only [qA, setD, qZ, qS, e_6, e_7, e_8]
    refine wpAny_done (by kernel_rfl) ?_ _
    go_wp2_with fail
    go_meet
    case rel => exact ⟨rfl, rfl, rfl, (V0.mono bp V0.lt), (hb1.trans (bp.mono hb1.size))⟩
  case rest =>
  clear V0 hb1
  obtain ⟨rfl, rfl, rfl, V0, hb1⟩ := hcut
  go_upto_region 3 with (fail)
  go_cut [9, 10] (fun s_9 s_10 wx => ∃ g9, s_9 = Value.pointer (some ⟨g9, 0, none⟩) ∧ s_10 = Value.int IntKind.i64 c ∧ w.heap.size + 1 ≤ g9 ∧ VarI wx g9 M ∧ VarFB wx w.heap.size false none 0 0 none 0 0 ∧ Below w.heap.size w wx)
  case first =>
    obtain ⟨base, hbase0⟩ : ∃ b : Nat, Hid (b = wc.heap.size) := ⟨_, Lib.hid rfl⟩
    have hbase : base ≤ wc.heap.size := by rw [hbase0.out]; exact Nat.le_refl _
    have hbw : w.heap.size + 1 ≤ base := by have := hb1.size; have h1 := V0.lt; rw [hbase0.out]; omega
    have l_V0 : w.heap.size < base := by rw [hbase0.out]; exact V0.lt
    refine wp_tabGF Tryz.f48 3 (fP1tT2 a M c base) [4] (fun i => i == 5) 6 2 (by kernel_rfl) (by kernel_rfl) (by kernel_rfl) (by kernel_rfl) (by kernel_rfl) ⟨fun h => (by cases h), ⟨fun h => (by cases h), ⟨fun h => (by cases h), ⟨fun h => (by cases h), ⟨fun h => (by cases h), ⟨fun _ w v h => Sp.var_lt h, trivial⟩⟩⟩⟩⟩⟩ ?_ ?_
    · refine ⟨fun _ _ F => gR rfl rfl (arm_move (.inl rfl) (F.k 6 (Value.string a))).b, ?_⟩
      refine ⟨fun _ _ F => gR rfl rfl (arm_C1 rfl (enters Tryz.func73 rfl rfl) (F.f 0 rfl) (fun va w h1 => by have e_va : va = _ := h1; subst e_va; exact c_natural_Parse a w _ _ ha) (fun _ _ h => ofP h)).b, ?_⟩
      refine ⟨fun _ _ F => gR rfl rfl (arm_move (.inl rfl) (F.f 1 rfl)).b, ?_⟩
      refine ⟨fun _ _ F => gR rfl rfl (arm_pair0 rfl (F.f 2 rfl)).b, ?_⟩
      refine ⟨fun _ _ F => gR rfl rfl (arm_pair1 rfl (F.f 2 rfl)).b, ?_⟩
      refine ⟨fun _ _ F => gR rfl rfl (arm_alloc rfl (Nat.le_trans hbase F.below.size)), ?_⟩
      exact trivial
    intro E' hE gp wp bp G Gs
    simp only [subs, List.map_cons, List.map_nil, List.nil_append, List.cons_append, List.mem_cons, List.not_mem_nil, or_false, List.append_nil] at hE
    rcases hE with rfl | rfl
    · obtain ⟨g9, e_5, lg_5, hv_5⟩ := G 5 9 _ (by simp) rfl
      have n_3 : (Sp.nat (M)).p wp (gp 3) := G 3 27 _ (by simp) rfl
      have e_4 : gp 4 = Value.int IntKind.i64 c := G 4 28 _ (by simp) rfl
      clear G Gs
      simp only [fP1tT2]
      simp only [qA, setD, qZ, qS, e_5, e_4]
      have T0 := hv_5
      refine wpAny_storeN (j := 6) (by kernel_rfl) rfl rfl rfl rfl rfl n_3 T0.any ?_
      intro w0 u0 v0
      have O0 := T0.own
      refine wpAny_takeD (i := 7) (d := some 10) (v := Value.int IntKind.i64 c) rfl rfl (by kernel_rfl) (by kernel_rfl) (by kernel_rfl) (fun _ _ _ h => h) (Or.inl ⟨by rfl, fun w => by rfl⟩) ?_
      try simp only [qP, qZ, qS]
      refine wpAny_done (by kernel_rfl) ?_ _
      go_wp2_with fail
      go_meet
      case rel => exact ⟨g9, rfl, rfl, (by omega), v0, ((V0.mono bp V0.lt).upd O0 u0 (by omega)), (Upd.below (hb1.trans (bp.mono hb1.size)) u0 (by omega))⟩
    · obtain ⟨g9, e_5, lg_5, hv_5⟩ := G 5 9 _ (by simp) rfl
      obtain ⟨x_2_0, x_2_1, e_2, n_2_0, rfl⟩ := G 2 24 _ (by simp) rfl
      have n_3 : (Sp.nat (M)).p wp (gp 3) := G 3 27 _ (by simp) rfl
      clear G Gs
      simp only [fP1tT2]
      simp only [qA, setD, qZ, qS, e_5, e_2]
      refine wpAny_takeD (i := 4) (d := some 28) (v := Value.int IntKind.i64 c) rfl rfl (by kernel_rfl) (by kernel_rfl) (by kernel_rfl) (fun _ _ _ h => h) (Or.inl ⟨by rfl, fun w => by rfl⟩) ?_
      try simp only [qP, qZ, qS]
      have T0 := hv_5
      refine wpAny_storeN (j := 6) (by kernel_rfl) rfl rfl rfl rfl rfl n_3 T0.any ?_
      intro w0 u0 v0
      have O0 := T0.own
      refine wpAny_takeD (i := 7) (d := some 10) (v := Value.int IntKind.i64 c) rfl rfl (by kernel_rfl) (by kernel_rfl) (by kernel_rfl) (fun _ _ _ h => h) (Or.inl ⟨by rfl, fun w => by rfl⟩) ?_
      try simp only [qP, qZ, qS]
      refine wpAny_done (by kernel_rfl) ?_ _
      go_wp2_with fail
      go_meet
      case rel => exact ⟨g9, rfl, rfl, (by omega), v0, ((V0.mono bp V0.lt).upd O0 u0 (by omega)), (Upd.below (hb1.trans (bp.mono hb1.size)) u0 (by omega))⟩
  case rest =>
  clear V0 hb1
  obtain ⟨g9, rfl, rfl, lg9, V9, V0, hb1⟩ := hcut
  go_upto_region 4 with (fail)
  go_cut [30] (fun s_30 wx => s_30 = Value.bool true ∧ VarFB wx w.heap.size false none 0 0 none 0 0 ∧ VarI wx g9 M ∧ Below w.heap.size w wx)
  case first =>
    refine wp_tabGF Tryz.f48 4 (fP1tT3 c) [] (fun _ => false) 2 0 (by kernel_rfl) (by kernel_rfl) (by kernel_rfl) (by kernel_rfl) (by kernel_rfl) (EachX.of_all (fun _ h => by cases h) _) ?_ ?_
    · refine ⟨fun _ _ F => gR rfl rfl (arm_move (.inl rfl) (F.k 10 (Value.int IntKind.i64 c))).b, ?_⟩
      refine ⟨fun _ _ F => gR rfl rfl (arm_bin rfl (F.f 0 rfl) Is.const (fun _ => rfl) (fun w => by rw [HC.out]; rfl)).b, ?_⟩
      exact trivial
    intro E' hE gp wp bp G Gs
    obtain rfl : E' = [] := by simpa [subs] using hE
    have e_1 : gp 1 = Value.bool true := G 1 30 _ (by simp) rfl
    clear G Gs hE
    simp only [fP1tT3]
    simp only [qA, setD, qZ, qS, e_1]
    refine wpAny_done (by kernel_rfl) ?_ _
    go_wp2_with fail
    go_meet
    case rel => exact ⟨rfl, (V0.mono bp V0.lt), (V9.mono bp), (hb1.trans (bp.mono hb1.size))⟩
  case rest =>
  clear V0 V9 hb1
  obtain ⟨rfl, V0, V9, hb1⟩ := hcut
  go_upto_region 5 with (fail)
  go_cut [3] (fun s_3 wx => s_3 = Value.int IntKind.i64 c ∧ VarQ wx w.heap.size Fq.zero ∧ VarI wx g9 M ∧ Below w.heap.size w wx)
  case first =>
    refine wp_tabGF Tryz.f48 5 (fP1tT4 c) [1] (fun _ => false) 3 2 (by kernel_rfl) (by kernel_rfl) (by kernel_rfl) (by kernel_rfl) (by kernel_rfl) (EachX.of_all (fun _ h => by cases h) _) ?_ ?_
    · refine ⟨fun _ _ F => gR rfl rfl (arm_build0F rfl).b, ?_⟩
      refine ⟨fun _ _ F => gR rfl rfl (arm_move (.inl rfl) (F.k 10 (Value.int IntKind.i64 c))).b, ?_⟩
      exact trivial
    intro E' hE gp wp bp G Gs
    simp only [subs, List.map_cons, List.map_nil, List.nil_append, List.cons_append, List.mem_cons, List.not_mem_nil, or_false, List.append_nil] at hE
    rcases hE with rfl | rfl
    · have n_0 : (Sp.fq Fq.zero).p wp (gp 0) := G 0 31 _ (by simp) rfl
      have e_1 : gp 1 = Value.int IntKind.i64 c := G 1 32 _ (by simp) rfl
      clear G Gs
      simp only [fP1tT4]
      simp only [qA, setD, qZ, qS, e_1]
      have T0 := (V0.mono bp V0.lt)
      refine wpAny_storeFr (j := 2) (by kernel_rfl) rfl rfl rfl rfl rfl n_0 T0.any ?_
      intro w0 u0 v0
      have O0 := T0.own
      refine wpAny_takeD (i := 3) (d := some 3) (v := Value.int IntKind.i64 c) rfl rfl (by kernel_rfl) (by kernel_rfl) (by kernel_rfl) (fun _ _ _ h => h) (Or.inl ⟨by rfl, fun w => by rfl⟩) ?_
      try simp only [qP, qZ, qS]
      refine wpAny_done (by kernel_rfl) ?_ _
      go_wp2_with fail
      go_meet
      case rel => exact ⟨rfl, v0, ((V9.mono bp).upd O0 u0 (by omega)), (Upd.below (hb1.trans (bp.mono hb1.size)) u0 (by omega))⟩
    · have n_0 : (Sp.fq Fq.zero).p wp (gp 0) := G 0 31 _ (by simp) rfl
      clear G Gs
      simp only [fP1tT4]
      simp only [qA, setD, qZ, qS]
      refine wpAny_takeD (i := 1) (d := some 32) (v := Value.int IntKind.i64 c) rfl rfl (by kernel_rfl) (by kernel_rfl) (by kernel_rfl) (fun _ _ _ h => h) (Or.inl ⟨by rfl, fun w => by rfl⟩) ?_
      try simp only [qP, qZ, qS]
      have T0 := (V0.mono bp V0.lt)
      refine wpAny_storeFr (j := 2) (by kernel_rfl) rfl rfl rfl rfl rfl n_0 T0.any ?_
      intro w0 u0 v0
      have O0 := T0.own
      refine wpAny_takeD (i := 3) (d := some 3) (v := Value.int IntKind.i64 c) rfl rfl (by kernel_rfl) (by kernel_rfl) (by kernel_rfl) (fun _ _ _ h => h) (Or.inl ⟨by rfl, fun w => by rfl⟩) ?_
      try simp only [qP, qZ, qS]
      refine wpAny_done (by kernel_rfl) ?_ _
      go_wp2_with fail
      go_meet
      case rel => exact ⟨rfl, v0, ((V9.mono bp).upd O0 u0 (by omega)), (Upd.below (hb1.trans (bp.mono hb1.size)) u0 (by omega))⟩
  case rest =>
  clear V0 V9 hb1
  obtain ⟨rfl, V0, V9, hb1⟩ := hcut
  obtain ⟨r1, r2, r3, r4, rV, rn, rm⟩ := V0
  have c0 := rV.cell0
  have c1 := rV.cell1
  have c2 := rV.cell2
  go_wp2
  exact bodyPost_ret (res_FE rfl rfl rfl rV) rfl ⟨_, rfl, ⟨r1, r2, r3, r4, rfl, rn, rm⟩, hb1⟩
def fP1fT0 (s : ByteArray) (t : ByteArray) (B : Bool) : List (Nat × Tmp × Sp) :=
   [(0, 14, .val (Value.string s)),
    (1, 15, .pair (.val (Value.string t)) (.val (Value.bool B))),
    (2, 13, .pair (.val (Value.string t)) (.val (Value.bool B))),
    (3, 16, .val (Value.string t)),
    (4, 17, .val (Value.bool B)),
    (5, 4, .val (Value.string t)),
    (6, 5, .val (Value.bool B))]
def fP1fT1 (t : ByteArray) (a : ByteArray) (b : ByteArray) : List (Nat × Tmp × Sp) :=
   [(0, 19, .val (Value.string t)),
    (1, 20, .trip (.val (Value.string a)) (.val (Value.string b)) (.val (Value.bool false))),
    (2, 18, .trip (.val (Value.string a)) (.val (Value.string b)) (.val (Value.bool false))),
    (3, 21, .val (Value.string a)),
    (4, 22, .val (Value.string b)),
    (5, 23, .val (Value.bool false)),
    (6, 6, .val (Value.string a)),
    (7, 7, .val (Value.string b)),
    (8, 8, .val (Value.bool false))]
def fP1fT2 (a : ByteArray) (M : Nat) (c : Int) (base : Nat) : List (Nat × Tmp × Sp) :=
   [(0, 25, .val (Value.string a)),
    (1, 26, .pair (.nat (M)) (.val (Value.int IntKind.i64 c))),
    (2, 24, .pair (.nat (M)) (.val (Value.int IntKind.i64 c))),
    (3, 27, .nat (M)),
    (4, 28, .val (Value.int IntKind.i64 c)),
    (5, 9, .var base)]
def fP1fT3 (c : Int) : List (Nat × Tmp × Sp) :=
   [(0, 29, .val (Value.int IntKind.i64 c)),
    (1, 30, .val (Value.bool true))]
def fP1fT4 (c : Int) : List (Nat × Tmp × Sp) :=
   [(0, 31, .fq Fq.zero),
    (1, 32, .val (Value.int IntKind.i64 c))]
set_option maxHeartbeats 4000000 in
theorem fP_num_false (s t a b : ByteArray) (B : Bool) (M : Nat) (w : World) (HP : Pieces s t B false a b) (hs : s.size ≤ 4294967280) (c : Int) (ha : ParseIs a M c) (h0 : c ≠ 0) :
    Calls Tryz.prog 48 #[.string s] w fun e w' => RetQE w .zero c e w' := by
  have hts : t.size ≤ 4294967280 := Nat.le_trans (pieces_size HP) hs
  have HC : Hid (true = (c != 0)) := Lib.hid (by simpa using h0)
  clear h0
  obtain ⟨m0, k0⟩ := resF (w := w)
  go_enter Tryz.func48, Tryz.ntmps48
  go_upto_region 0 with (fail)
  go_cut [2, 3] (fun s_2 s_3 wx => s_2 = Value.pointer (some ⟨w.heap.size, 0, none⟩) ∧ s_3 = Value.int IntKind.i64 0 ∧ VarFB wx w.heap.size false none 0 0 none 0 0 ∧ Below w.heap.size w wx)
  case first =>
    go_wp2_with fail
    go_meet
    case rel => exact ⟨rfl, rfl, k0, m0⟩
  case rest =>
  clear m0 k0
  obtain ⟨rfl, rfl, V0, hb1⟩ := hcut
  go_upto_region 1 with (fail)
  go_cut [4, 5] (fun s_4 s_5 wx => s_4 = Value.string t ∧ s_5 = Value.bool B ∧ VarFB wx w.heap.size false none 0 0 none 0 0 ∧ Below w.heap.size w wx)
  case first =>
    refine wp_tabGF Tryz.f48 1 (fP1fT0 s t B) [] (fun _ => false) 6 0 (by kernel_rfl) (by kernel_rfl) (by kernel_rfl) (by kernel_rfl) (by kernel_rfl) (EachX.of_all (fun _ h => by cases h) _) ?_ ?_
    · refine ⟨fun _ _ F => gR rfl rfl (arm_move (.inl rfl) (F.k 0 (Value.string s))).b, ?_⟩
      refine ⟨fun _ _ F => gR rfl rfl (arm_C2 rfl (enters Tryz.func71 rfl rfl) (F.f 0 rfl) Is.const (fun va vb w h1 h2 => by have e_va : va = _ := h1; subst e_va; have e_vb : vb = _ := h2; subst e_vb; exact c_CutPrefix _ _ _ w HP.sign HP.rest) (fun _ _ h => ofPair h)).b, ?_⟩
      refine ⟨fun _ _ F => gR rfl rfl (arm_move (.inl rfl) (F.f 1 rfl)).b, ?_⟩
      refine ⟨fun _ _ F => gR rfl rfl (arm_pair0 rfl (F.f 2 rfl)).b, ?_⟩
      refine ⟨fun _ _ F => gR rfl rfl (arm_pair1 rfl (F.f 2 rfl)).b, ?_⟩
      refine ⟨fun _ _ F => gR rfl rfl (arm_move (.inr rfl) (F.f 3 rfl)).b, ?_⟩
      refine ⟨fun _ _ F => gR rfl rfl (arm_move (.inr rfl) (F.f 4 rfl)).b, ?_⟩
      exact trivial
    intro E' hE gp wp bp G Gs
    obtain rfl : E' = [] := by simpa [subs] using hE
    have e_5 : gp 5 = Value.string t := G 5 4 _ (by simp) rfl
    have e_6 : gp 6 = Value.bool B := G 6 5 _ (by simp) rfl
    clear G Gs hE
    simp only [fP1fT0]
    simp only [qA, setD, qZ, qS, e_5, e_6]
    refine wpAny_done (by kernel_rfl) ?_ _
    go_wp2_with fail
    go_meet
    case rel => exact ⟨rfl, rfl, (V0.mono bp V0.lt), (hb1.trans (bp.mono hb1.size))⟩
  case rest =>
  clear V0 hb1
  obtain ⟨rfl, rfl, V0, hb1⟩ := hcut
  go_upto_region 2 with (fail)
  go_cut [6, 7, 8] (fun s_6 s_7 s_8 wx => s_6 = Value.string a ∧ s_7 = Value.string b ∧ s_8 = Value.bool false ∧ VarFB wx w.heap.size false none 0 0 none 0 0 ∧ Below w.heap.size w wx)
  case first =>
    refine wp_tabGF Tryz.f48 2 (fP1fT1 t a b) [] (fun _ => false) 7 0 (by kernel_rfl) (by kernel_rfl) (by kernel_rfl) (by kernel_rfl) (by kernel_rfl) (EachX.of_all (fun _ h => by cases h) _) ?_ ?_
    · refine ⟨fun _ _ F => gR rfl rfl (arm_move (.inl rfl) (F.k 4 (Value.string t))).b, ?_⟩
      refine ⟨fun _ _ F => gR rfl rfl (arm_C2 rfl (enters Tryz.func72 rfl rfl) (F.f 0 rfl) Is.const (fun va vb w h1 h2 => by have e_va : va = _ := h1; subst e_va; have e_vb : vb = _ := h2; subst e_vb; exact cut_piece HP w hts) (fun _ _ h => ofTrip h)).b, ?_⟩
      refine ⟨fun _ _ F => gR rfl rfl (arm_move (.inl rfl) (F.f 1 rfl)).b, ?_⟩
      refine ⟨fun _ _ F => gR rfl rfl (arm_trip0 rfl (F.f 2 rfl)).b, ?_⟩
      refine ⟨fun _ _ F => gR rfl rfl (arm_trip1 rfl (F.f 2 rfl)).b, ?_⟩
      refine ⟨fun _ _ F => gR rfl rfl (arm_trip2 rfl (F.f 2 rfl)).b, ?_⟩
      refine ⟨fun _ _ F => gR rfl rfl (arm_move (.inr rfl) (F.f 3 rfl)).b, ?_⟩
      refine ⟨fun _ _ F => gR rfl rfl (arm_move (.inr rfl) (F.f 4 rfl)).b, ?_⟩
      refine ⟨fun _ _ F => gR rfl rfl (arm_move (.inr rfl) (F.f 5 rfl)).b, ?_⟩
      exact trivial
    intro E' hE gp wp bp G Gs
    obtain rfl : E' = [] := by simpa [subs] using hE
    have e_6 : gp 6 = Value.string a := G 6 6 _ (by simp) rfl
    have e_7 : gp 7 = Value.string b := G 7 7 _ (by simp) rfl
    have e_8 : gp 8 = Value.bool false := G 8 8 _ (by simp) rfl
    clear G Gs hE
    simp only [fP1fT1]
    simp only [qA, setD, qZ, qS, e_6, e_7, e_8]
    refine wpAny_done (by kernel_rfl) ?_ _
    go_wp2_with fail
    go_meet
    case rel => exact ⟨rfl, rfl, rfl, (V0.mono bp V0.lt), (hb1.trans (bp.mono hb1.size))⟩
  case rest =>
  clear V0 hb1
  obtain ⟨rfl, rfl, rfl, V0, hb1⟩ := hcut
  go_upto_region 3 with (fail)
  go_cut [9, 10] (fun s_9 s_10 wx => ∃ g9, s_9 = Value.pointer (some ⟨g9, 0, none⟩) ∧ s_10 = Value.int IntKind.i64 c ∧ w.heap.size + 1 ≤ g9 ∧ VarI wx g9 M ∧ VarFB wx w.heap.size false none 0 0 none 0 0 ∧ Below w.heap.size w wx)
  case first =>
    obtain ⟨base, hbase0⟩ : ∃ b : Nat, Hid (b = wc.heap.size) := ⟨_, Lib.hid rfl⟩
    have hbase : base ≤ wc.heap.size := by rw [hbase0.out]; exact Nat.le_refl _
    have hbw : w.heap.size + 1 ≤ base := by have := hb1.size; have h1 := V0.lt; rw [hbase0.out]; omega
    have l_V0 : w.heap.size < base := by rw [hbase0.out]; exact V0.lt
    refine wp_tabGF Tryz.f48 3 (fP1fT2 a M c base) [4] (fun i => i == 5) 6 2 (by kernel_rfl) (by kernel_rfl) (by kernel_rfl) (by kernel_rfl) (by kernel_rfl) ⟨fun h => (by cases h), ⟨fun h => (by cases h), ⟨fun h => (by cases h), ⟨fun h => (by cases h), ⟨fun h => (by cases h), ⟨fun _ w v h => Sp.var_lt h, trivial⟩⟩⟩⟩⟩⟩ ?_ ?_
    · refine ⟨fun _ _ F => gR rfl rfl (arm_move (.inl rfl) (F.k 6 (Value.string a))).b, ?_⟩
      refine ⟨fun _ _ F => gR rfl rfl (arm_C1 rfl (enters Tryz.func73 rfl rfl) (F.f 0 rfl) (fun va w h1 => by have e_va : va = _ := h1; subst e_va; exact c_natural_Parse a w _ _ ha) (fun _ _ h => ofP h)).b, ?_⟩
      refine ⟨fun _ _ F => gR rfl rfl (arm_move (.inl rfl) (F.f 1 rfl)).b, ?_⟩
      refine ⟨fun _ _ F => gR rfl rfl (arm_pair0 rfl (F.f 2 rfl)).b, ?_⟩
      refine ⟨fun _ _ F => gR rfl rfl (arm_pair1 rfl (F.f 2 rfl)).b, ?_⟩
      refine ⟨fun _ _ F => gR rfl rfl (arm_alloc rfl (Nat.le_trans hbase F.below.size)), ?_⟩
      exact trivial
    intro E' hE gp wp bp G Gs
    simp only [subs, List.map_cons, List.map_nil, List.nil_append, List.cons_append, List.mem_cons, List.not_mem_nil, or_false, List.append_nil] at hE
    rcases hE with rfl | rfl
    · obtain ⟨g9, e_5, lg_5, hv_5⟩ := G 5 9 _ (by simp) rfl
      have n_3 : (Sp.nat (M)).p wp (gp 3) := G 3 27 _ (by simp) rfl
      have e_4 : gp 4 = Value.int IntKind.i64 c := G 4 28 _ (by simp) rfl
      clear G Gs
      simp only [fP1fT2]
      simp only [qA, setD, qZ, qS, e_5, e_4]
      have T0 := hv_5
      refine wpAny_storeN (j := 6) (by kernel_rfl) rfl rfl rfl rfl rfl n_3 T0.any ?_
      intro w0 u0 v0
      have O0 := T0.own
      refine wpAny_takeD (i := 7) (d := some 10) (v := Value.int IntKind.i64 c) rfl rfl (by kernel_rfl) (by kernel_rfl) (by kernel_rfl) (fun _ _ _ h => h) (Or.inl ⟨by rfl, fun w => by rfl⟩) ?_
      try simp only [qP, qZ, qS]
      refine wpAny_done (by kernel_rfl) ?_ _
      go_wp2_with fail
      go_meet
      case rel => exact ⟨g9, rfl, rfl, (by omega), v0, ((V0.mono bp V0.lt).upd O0 u0 (by omega)), (Upd.below (hb1.trans (bp.mono hb1.size)) u0 (by omega))⟩
    · obtain ⟨g9, e_5, lg_5, hv_5⟩ := G 5 9 _ (by simp) rfl
      obtain ⟨x_2_0, x_2_1, e_2, n_2_0, rfl⟩ := G 2 24 _ (by simp) rfl
      have n_3 : (Sp.nat (M)).p wp (gp 3) := G 3 27 _ (by simp) rfl
      clear G Gs
      simp only [fP1fT2]
      simp only [qA, setD, qZ, qS, e_5, e_2]
      refine wpAny_takeD (i := 4) (d := some 28) (v := Value.int IntKind.i64 c) rfl rfl (by kernel_rfl) (by kernel_rfl) (by kernel_rfl) (fun _ _ _ h => h) (Or.inl ⟨by rfl, fun w => by rfl⟩) ?_
      try simp only [qP, qZ, qS]
      have T0 := hv_5
      refine wpAny_storeN (j := 6) (by kernel_rfl) rfl rfl rfl rfl rfl n_3 T0.any ?_
      intro w0 u0 v0
      have O0 := T0.own
      refine wpAny_takeD (i := 7) (d := some 10) (v := Value.int IntKind.i64 c) rfl rfl (by kernel_rfl) (by kernel_rfl) (by kernel_rfl) (fun _ _ _ h => h) (Or.inl ⟨by rfl, fun w => by rfl⟩) ?_
      try simp only [qP, qZ, qS]
      refine wpAny_done (by kernel_rfl) ?_ _
      go_wp2_with fail
      go_meet
      case rel => exact ⟨g9, rfl, rfl, (by omega), v0, ((V0.mono bp V0.lt).upd O0 u0 (by omega)), (Upd.below (hb1.trans (bp.mono hb1.size)) u0 (by omega))⟩
  case rest =>
  clear V0 hb1
  obtain ⟨g9, rfl, rfl, lg9, V9, V0, hb1⟩ := hcut
  go_upto_region 4 with (fail)
  go_cut [30] (fun s_30 wx => s_30 = Value.bool true ∧ VarFB wx w.heap.size false none 0 0 none 0 0 ∧ VarI wx g9 M ∧ Below w.heap.size w wx)
  case first =>
    refine wp_tabGF Tryz.f48 4 (fP1fT3 c) [] (fun _ => false) 2 0 (by kernel_rfl) (by kernel_rfl) (by kernel_rfl) (by kernel_rfl) (by kernel_rfl) (EachX.of_all (fun _ h => by cases h) _) ?_ ?_
    · refine ⟨fun _ _ F => gR rfl rfl (arm_move (.inl rfl) (F.k 10 (Value.int IntKind.i64 c))).b, ?_⟩
      refine ⟨fun _ _ F => gR rfl rfl (arm_bin rfl (F.f 0 rfl) Is.const (fun _ => rfl) (fun w => by rw [HC.out]; rfl)).b, ?_⟩
      exact trivial
    intro E' hE gp wp bp G Gs
    obtain rfl : E' = [] := by simpa [subs] using hE
    have e_1 : gp 1 = Value.bool true := G 1 30 _ (by simp) rfl
    clear G Gs hE
    simp only [fP1fT3]
    simp only [qA, setD, qZ, qS, e_1]
    refine wpAny_done (by kernel_rfl) ?_ _
    go_wp2_with fail
    go_meet
    case rel => exact ⟨rfl, (V0.mono bp V0.lt), (V9.mono bp), (hb1.trans (bp.mono hb1.size))⟩
  case rest =>
  clear V0 V9 hb1
  obtain ⟨rfl, V0, V9, hb1⟩ := hcut
  go_upto_region 5 with (fail)
  go_cut [3] (fun s_3 wx => s_3 = Value.int IntKind.i64 c ∧ VarQ wx w.heap.size Fq.zero ∧ VarI wx g9 M ∧ Below w.heap.size w wx)
  case first =>
    refine wp_tabGF Tryz.f48 5 (fP1fT4 c) [1] (fun _ => false) 3 2 (by kernel_rfl) (by kernel_rfl) (by kernel_rfl) (by kernel_rfl) (by kernel_rfl) (EachX.of_all (fun _ h => by cases h) _) ?_ ?_
    · refine ⟨fun _ _ F => gR rfl rfl (arm_build0F rfl).b, ?_⟩
      refine ⟨fun _ _ F => gR rfl rfl (arm_move (.inl rfl) (F.k 10 (Value.int IntKind.i64 c))).b, ?_⟩
      exact trivial
    intro E' hE gp wp bp G Gs
    simp only [subs, List.map_cons, List.map_nil, List.nil_append, List.cons_append, List.mem_cons, List.not_mem_nil, or_false, List.append_nil] at hE
    rcases hE with rfl | rfl
    · have n_0 : (Sp.fq Fq.zero).p wp (gp 0) := G 0 31 _ (by simp) rfl
      have e_1 : gp 1 = Value.int IntKind.i64 c := G 1 32 _ (by simp) rfl
      clear G Gs
      simp only [fP1fT4]
      simp only [qA, setD, qZ, qS, e_1]
      have T0 := (V0.mono bp V0.lt)
      refine wpAny_storeFr (j := 2) (by kernel_rfl) rfl rfl rfl rfl rfl n_0 T0.any ?_
      intro w0 u0 v0
      have O0 := T0.own
      refine wpAny_takeD (i := 3) (d := some 3) (v := Value.int IntKind.i64 c) rfl rfl (by kernel_rfl) (by kernel_rfl) (by kernel_rfl) (fun _ _ _ h => h) (Or.inl ⟨by rfl, fun w => by rfl⟩) ?_
      try simp only [qP, qZ, qS]
      refine wpAny_done (by kernel_rfl) ?_ _
      go_wp2_with fail
      go_meet
      case rel => exact ⟨rfl, v0, ((V9.mono bp).upd O0 u0 (by omega)), (Upd.below (hb1.trans (bp.mono hb1.size)) u0 (by omega))⟩
    · have n_0 : (Sp.fq Fq.zero).p wp (gp 0) := G 0 31 _ (by simp) rfl
      clear G Gs
      simp only [fP1fT4]
      simp only [qA, setD, qZ, qS]
      refine wpAny_takeD (i := 1) (d := some 32) (v := Value.int IntKind.i64 c) rfl rfl (by kernel_rfl) (by kernel_rfl) (by kernel_rfl) (fun _ _ _ h => h) (Or.inl ⟨by rfl, fun w => by rfl⟩) ?_
      try simp only [qP, qZ, qS]
      have T0 := (V0.mono bp V0.lt)
      refine wpAny_storeFr (j := 2) (by kernel_rfl) rfl rfl rfl rfl rfl n_0 T0.any ?_
      intro w0 u0 v0
      have O0 := T0.own
      refine wpAny_takeD (i := 3) (d := some 3) (v := Value.int IntKind.i64 c) rfl rfl (by kernel_rfl) (by kernel_rfl) (by kernel_rfl) (fun _ _ _ h => h) (Or.inl ⟨by rfl, fun w => by rfl⟩) ?_
      try simp only [qP, qZ, qS]
      refine wpAny_done (by kernel_rfl) ?_ _
      go_wp2_with fail
      go_meet
      case rel => exact ⟨rfl, v0, ((V9.mono bp).upd O0 u0 (by omega)), (Upd.below (hb1.trans (bp.mono hb1.size)) u0 (by omega))⟩
  case rest =>
  clear V0 V9 hb1
  obtain ⟨rfl, V0, V9, hb1⟩ := hcut
  obtain ⟨r1, r2, r3, r4, rV, rn, rm⟩ := V0
  have c0 := rV.cell0
  have c1 := rV.cell1
  have c2 := rV.cell2
  go_wp2
  exact bodyPost_ret (res_FE rfl rfl rfl rV) rfl ⟨_, rfl, ⟨r1, r2, r3, r4, rfl, rn, rm⟩, hb1⟩
def fP2T0 (s : ByteArray) (t : ByteArray) (B : Bool) : List (Nat × Tmp × Sp) :=
   [(0, 14, .val (Value.string s)),
    (1, 15, .pair (.val (Value.string t)) (.val (Value.bool B))),
    (2, 13, .pair (.val (Value.string t)) (.val (Value.bool B))),
    (3, 16, .val (Value.string t)),
    (4, 17, .val (Value.bool B)),
    (5, 4, .val (Value.string t)),
    (6, 5, .val (Value.bool B))]
def fP2T1 (t : ByteArray) (a : ByteArray) (b : ByteArray) : List (Nat × Tmp × Sp) :=
   [(0, 19, .val (Value.string t)),
    (1, 20, .trip (.val (Value.string a)) (.val (Value.string b)) (.val (Value.bool true))),
    (2, 18, .trip (.val (Value.string a)) (.val (Value.string b)) (.val (Value.bool true))),
    (3, 21, .val (Value.string a)),
    (4, 22, .val (Value.string b)),
    (5, 23, .val (Value.bool true)),
    (6, 6, .val (Value.string a)),
    (7, 7, .val (Value.string b)),
    (8, 8, .val (Value.bool true))]
def fP2T2 (a : ByteArray) (M : Nat) (base : Nat) : List (Nat × Tmp × Sp) :=
   [(0, 25, .val (Value.string a)),
    (1, 26, .pair (.nat (M)) (.val (Value.int IntKind.i64 0))),
    (2, 24, .pair (.nat (M)) (.val (Value.int IntKind.i64 0))),
    (3, 27, .nat (M)),
    (4, 28, .val (Value.int IntKind.i64 0)),
    (5, 9, .var base)]
def fP2T3  : List (Nat × Tmp × Sp) :=
   [(0, 29, .val (Value.int IntKind.i64 0)),
    (1, 30, .val (Value.bool false))]
def fP2T4 (base : Nat) : List (Nat × Tmp × Sp) :=
   [(0, 33, .nat (1)),
    (1, 11, .var base)]
def fP2T5  : List (Nat × Tmp × Sp) :=
   [(0, 34, .val (Value.bool true))]
def fP2T6 (b : ByteArray) (N : Nat) (c : Int) : List (Nat × Tmp × Sp) :=
   [(0, 36, .val (Value.string b)),
    (1, 37, .pair (.nat (N)) (.val (Value.int IntKind.i64 c))),
    (2, 35, .pair (.nat (N)) (.val (Value.int IntKind.i64 c))),
    (3, 38, .nat (N)),
    (4, 39, .val (Value.int IntKind.i64 c))]
def fP2T7 (c : Int) : List (Nat × Tmp × Sp) :=
   [(0, 40, .val (Value.int IntKind.i64 c)),
    (1, 41, .val (Value.bool true))]
def fP2T8 (c : Int) : List (Nat × Tmp × Sp) :=
   [(0, 42, .fq Fq.zero),
    (1, 43, .val (Value.int IntKind.i64 c))]
set_option maxHeartbeats 4000000 in
theorem fP_den (s t a b : ByteArray) (B : Bool) (M : Nat) (w : World) (HP : Pieces s t B true a b) (hs : s.size ≤ 4294967280) (N : Nat) (c : Int) (ha : ParseIs a M 0) (hb : ParseIs b N c) (h0 : c ≠ 0) :
    Calls Tryz.prog 48 #[.string s] w fun e w' => RetQE w .zero c e w' := by
  have hts : t.size ≤ 4294967280 := Nat.le_trans (pieces_size HP) hs
  have HC : Hid (true = (c != 0)) := Lib.hid (by simpa using h0)
  clear h0
  obtain ⟨m0, k0⟩ := resF (w := w)
  go_enter Tryz.func48, Tryz.ntmps48
  go_upto_region 0 with (fail)
  go_cut [2, 3] (fun s_2 s_3 wx => s_2 = Value.pointer (some ⟨w.heap.size, 0, none⟩) ∧ s_3 = Value.int IntKind.i64 0 ∧ VarFB wx w.heap.size false none 0 0 none 0 0 ∧ Below w.heap.size w wx)
  case first =>
    go_wp2_with fail
    go_meet
    case rel => exact ⟨rfl, rfl, k0, m0⟩
  case rest =>
  clear m0 k0
  obtain ⟨rfl, rfl, V0, hb1⟩ := hcut
  go_upto_region 1 with (fail)
  go_cut [4, 5] (fun s_4 s_5 wx => s_4 = Value.string t ∧ s_5 = Value.bool B ∧ VarFB wx w.heap.size false none 0 0 none 0 0 ∧ Below w.heap.size w wx)
  case first =>
    refine wp_tabGF Tryz.f48 1 (fP2T0 s t B) [] (fun _ => false) 6 0 (by kernel_rfl) (by kernel_rfl) (by kernel_rfl) (by kernel_rfl) (by kernel_rfl) (EachX.of_all (fun _ h => by cases h) _) ?_ ?_
    · refine ⟨fun _ _ F => gR rfl rfl (arm_move (.inl rfl) (F.k 0 (Value.string s))).b, ?_⟩
      refine ⟨fun _ _ F => gR rfl rfl (arm_C2 rfl (enters Tryz.func71 rfl rfl) (F.f 0 rfl) Is.const (fun va vb w h1 h2 => by have e_va : va = _ := h1; subst e_va; have e_vb : vb = _ := h2; subst e_vb; exact c_CutPrefix _ _ _ w HP.sign HP.rest) (fun _ _ h => ofPair h)).b, ?_⟩
      refine ⟨fun _ _ F => gR rfl rfl (arm_move (.inl rfl) (F.f 1 rfl)).b, ?_⟩
      refine ⟨fun _ _ F => gR rfl rfl (arm_pair0 rfl (F.f 2 rfl)).b, ?_⟩
      refine ⟨fun _ _ F => gR rfl rfl (arm_pair1 rfl (F.f 2 rfl)).b, ?_⟩
      refine ⟨fun _ _ F => gR rfl rfl (arm_move (.inr rfl) (F.f 3 rfl)).b, ?_⟩
      refine ⟨fun _ _ F => gR rfl rfl (arm_move (.inr rfl) (F.f 4 rfl)).b, ?_⟩
      exact trivial
    intro E' hE gp wp bp G Gs
    obtain rfl : E' = [] := by simpa [subs] using hE
    have e_5 : gp 5 = Value.string t := G 5 4 _ (by simp) rfl
    have e_6 : gp 6 = Value.bool B := G 6 5 _ (by simp) rfl
    clear G Gs hE
    simp only [fP2T0]
    simp only [qA, setD, qZ, qS, e_5, e_6]
    refine wpAny_done (by kernel_rfl) ?_ _
    go_wp2_with fail
    go_meet
    case rel => exact ⟨rfl, rfl, (V0.mono bp V0.lt), (hb1.trans (bp.mono hb1.size))⟩
  case rest =>
  clear V0 hb1
  obtain ⟨rfl, rfl, V0, hb1⟩ := hcut
  go_upto_region 2 with (fail)
  go_cut [6, 7, 8] (fun s_6 s_7 s_8 wx => s_6 = Value.string a ∧ s_7 = Value.string b ∧ s_8 = Value.bool true ∧ VarFB wx w.heap.size false none 0 0 none 0 0 ∧ Below w.heap.size w wx)
  case first =>
    refine wp_tabGF Tryz.f48 2 (fP2T1 t a b) [] (fun _ => false) 7 0 (by kernel_rfl) (by kernel_rfl) (by kernel_rfl) (by kernel_rfl) (by kernel_rfl) (EachX.of_all (fun _ h => by cases h) _) ?_ ?_
    · refine ⟨fun _ _ F => gR rfl rfl (arm_move (.inl rfl) (F.k 4 (Value.string t))).b, ?_⟩
      refine ⟨fun _ _ F => gR rfl rfl (arm_C2 rfl (enters Tryz.func72 rfl rfl) (F.f 0 rfl) Is.const (fun va vb w h1 h2 => by have e_va : va = _ := h1; subst e_va; have e_vb : vb = _ := h2; subst e_vb; exact cut_piece HP w hts) (fun _ _ h => ofTrip h)).b, ?_⟩
      refine ⟨fun _ _ F => gR rfl rfl (arm_move (.inl rfl) (F.f 1 rfl)).b, ?_⟩
      refine ⟨fun _ _ F => gR rfl rfl (arm_trip0 rfl (F.f 2 rfl)).b, ?_⟩
      refine ⟨fun _ _ F => gR rfl rfl (arm_trip1 rfl (F.f 2 rfl)).b, ?_⟩
      refine ⟨fun _ _ F => gR rfl rfl (arm_trip2 rfl (F.f 2 rfl)).b, ?_⟩
      refine ⟨fun _ _ F => gR rfl rfl (arm_move (.inr rfl) (F.f 3 rfl)).b, ?_⟩
      refine ⟨fun _ _ F => gR rfl rfl (arm_move (.inr rfl) (F.f 4 rfl)).b, ?_⟩
      refine ⟨fun _ _ F => gR rfl rfl (arm_move (.inr rfl) (F.f 5 rfl)).b, ?_⟩
      exact trivial
    intro E' hE gp wp bp G Gs
    obtain rfl : E' = [] := by simpa [subs] using hE
    have e_6 : gp 6 = Value.string a := G 6 6 _ (by simp) rfl
    have e_7 : gp 7 = Value.string b := G 7 7 _ (by simp) rfl
    have e_8 : gp 8 = Value.bool true := G 8 8 _ (by simp) rfl
    clear G Gs hE
    simp only [fP2T1]
    simp only [qA, setD, qZ, qS, e_6, e_7, e_8]
    refine wpAny_done (by kernel_rfl) ?_ _
    go_wp2_with fail
    go_meet
    case rel => exact ⟨rfl, rfl, rfl, (V0.mono bp V0.lt), (hb1.trans (bp.mono hb1.size))⟩
  case rest =>
  clear V0 hb1
  obtain ⟨rfl, rfl, rfl, V0, hb1⟩ := hcut
  go_upto_region 3 with (fail)
  go_cut [9, 10] (fun s_9 s_10 wx => ∃ g9, s_9 = Value.pointer (some ⟨g9, 0, none⟩) ∧ s_10 = Value.int IntKind.i64 0 ∧ w.heap.size + 1 ≤ g9 ∧ VarI wx g9 M ∧ VarFB wx w.heap.size false none 0 0 none 0 0 ∧ Below w.heap.size w wx)
  case first =>
    obtain ⟨base, hbase0⟩ : ∃ b : Nat, Hid (b = wc.heap.size) := ⟨_, Lib.hid rfl⟩
    have hbase : base ≤ wc.heap.size := by rw [hbase0.out]; exact Nat.le_refl _
    have hbw : w.heap.size + 1 ≤ base := by have := hb1.size; have h1 := V0.lt; rw [hbase0.out]; omega
    have l_V0 : w.heap.size < base := by rw [hbase0.out]; exact V0.lt
    refine wp_tabGF Tryz.f48 3 (fP2T2 a M base) [4] (fun i => i == 5) 6 2 (by kernel_rfl) (by kernel_rfl) (by kernel_rfl) (by kernel_rfl) (by kernel_rfl) ⟨fun h => (by cases h), ⟨fun h => (by cases h), ⟨fun h => (by cases h), ⟨fun h => (by cases h), ⟨fun h => (by cases h), ⟨fun _ w v h => Sp.var_lt h, trivial⟩⟩⟩⟩⟩⟩ ?_ ?_
    · refine ⟨fun _ _ F => gR rfl rfl (arm_move (.inl rfl) (F.k 6 (Value.string a))).b, ?_⟩
      refine ⟨fun _ _ F => gR rfl rfl (arm_C1 rfl (enters Tryz.func73 rfl rfl) (F.f 0 rfl) (fun va w h1 => by have e_va : va = _ := h1; subst e_va; exact c_natural_Parse a w _ _ ha) (fun _ _ h => ofP h)).b, ?_⟩
      refine ⟨fun _ _ F => gR rfl rfl (arm_move (.inl rfl) (F.f 1 rfl)).b, ?_⟩
      refine ⟨fun _ _ F => gR rfl rfl (arm_pair0 rfl (F.f 2 rfl)).b, ?_⟩
      refine ⟨fun _ _ F => gR rfl rfl (arm_pair1 rfl (F.f 2 rfl)).b, ?_⟩
      refine ⟨fun _ _ F => gR rfl rfl (arm_alloc rfl (Nat.le_trans hbase F.below.size)), ?_⟩
      exact trivial
    intro E' hE gp wp bp G Gs
    simp only [subs, List.map_cons, List.map_nil, List.nil_append, List.cons_append, List.mem_cons, List.not_mem_nil, or_false, List.append_nil] at hE
    rcases hE with rfl | rfl
    · obtain ⟨g9, e_5, lg_5, hv_5⟩ := G 5 9 _ (by simp) rfl
      have n_3 : (Sp.nat (M)).p wp (gp 3) := G 3 27 _ (by simp) rfl
      have e_4 : gp 4 = Value.int IntKind.i64 0 := G 4 28 _ (by simp) rfl
      clear G Gs
      simp only [fP2T2]
      simp only [qA, setD, qZ, qS, e_5, e_4]
      have T0 := hv_5
      refine wpAny_storeN (j := 6) (by kernel_rfl) rfl rfl rfl rfl rfl n_3 T0.any ?_
      intro w0 u0 v0
      have O0 := T0.own
      refine wpAny_takeD (i := 7) (d := some 10) (v := Value.int IntKind.i64 0) rfl rfl (by kernel_rfl) (by kernel_rfl) (by kernel_rfl) (fun _ _ _ h => h) (Or.inl ⟨by rfl, fun w => by rfl⟩) ?_
      try simp only [qP, qZ, qS]
      refine wpAny_done (by kernel_rfl) ?_ _
      go_wp2_with fail
      go_meet
      case rel => exact ⟨g9, rfl, rfl, (by omega), v0, ((V0.mono bp V0.lt).upd O0 u0 (by omega)), (Upd.below (hb1.trans (bp.mono hb1.size)) u0 (by omega))⟩
    · obtain ⟨g9, e_5, lg_5, hv_5⟩ := G 5 9 _ (by simp) rfl
      obtain ⟨x_2_0, x_2_1, e_2, n_2_0, rfl⟩ := G 2 24 _ (by simp) rfl
      have n_3 : (Sp.nat (M)).p wp (gp 3) := G 3 27 _ (by simp) rfl
      clear G Gs
      simp only [fP2T2]
      simp only [qA, setD, qZ, qS, e_5, e_2]
      refine wpAny_takeD (i := 4) (d := some 28) (v := Value.int IntKind.i64 0) rfl rfl (by kernel_rfl) (by kernel_rfl) (by kernel_rfl) (fun _ _ _ h => h) (Or.inl ⟨by rfl, fun w => by rfl⟩) ?_
      try simp only [qP, qZ, qS]
      have T0 := hv_5
      refine wpAny_storeN (j := 6) (by kernel_rfl) rfl rfl rfl rfl rfl n_3 T0.any ?_
      intro w0 u0 v0
      have O0 := T0.own
      refine wpAny_takeD (i := 7) (d := some 10) (v := Value.int IntKind.i64 0) rfl rfl (by kernel_rfl) (by kernel_rfl) (by kernel_rfl) (fun _ _ _ h => h) (Or.inl ⟨by rfl, fun w => by rfl⟩) ?_
      try simp only [qP, qZ, qS]
      refine wpAny_done (by kernel_rfl) ?_ _
      go_wp2_with fail
      go_meet
      case rel => exact ⟨g9, rfl, rfl, (by omega), v0, ((V0.mono bp V0.lt).upd O0 u0 (by omega)), (Upd.below (hb1.trans (bp.mono hb1.size)) u0 (by omega))⟩
  case rest =>
  clear V0 hb1
  obtain ⟨g9, rfl, rfl, lg9, V9, V0, hb1⟩ := hcut
  go_upto_region 4 with (fail)
  go_cut [30] (fun s_30 wx => s_30 = Value.bool false ∧ VarFB wx w.heap.size false none 0 0 none 0 0 ∧ VarI wx g9 M ∧ Below w.heap.size w wx)
  case first =>
    refine wp_tabGF Tryz.f48 4 (fP2T3 ) [] (fun _ => false) 2 0 (by kernel_rfl) (by kernel_rfl) (by kernel_rfl) (by kernel_rfl) (by kernel_rfl) (EachX.of_all (fun _ h => by cases h) _) ?_ ?_
    · refine ⟨fun _ _ F => gR rfl rfl (arm_move (.inl rfl) (F.k 10 (Value.int IntKind.i64 0))).b, ?_⟩
      refine ⟨fun _ _ F => gR rfl rfl (arm_bin rfl (F.f 0 rfl) Is.const (fun _ => rfl) (fun _ => rfl)).b, ?_⟩
      exact trivial
    intro E' hE gp wp bp G Gs
    obtain rfl : E' = [] := by simpa [subs] using hE
    have e_1 : gp 1 = Value.bool false := G 1 30 _ (by simp) rfl
    clear G Gs hE
    simp only [fP2T3]
    simp only [qA, setD, qZ, qS, e_1]
    refine wpAny_done (by kernel_rfl) ?_ _
    go_wp2_with fail
    go_meet
    case rel => exact ⟨rfl, (V0.mono bp V0.lt), (V9.mono bp), (hb1.trans (bp.mono hb1.size))⟩
  case rest =>
  clear V0 V9 hb1
  obtain ⟨rfl, V0, V9, hb1⟩ := hcut
  go_upto_region 6 with (fail)
  go_cut [11] (fun s_11 wx => ∃ g11, s_11 = Value.pointer (some ⟨g11, 0, none⟩) ∧ w.heap.size + 1 ≤ g11 ∧ g9 < g11 ∧ VarI wx g11 1 ∧ VarFB wx w.heap.size false none 0 0 none 0 0 ∧ VarI wx g9 M ∧ Below w.heap.size w wx)
  case first =>
    obtain ⟨base, hbase0⟩ : ∃ b : Nat, Hid (b = wc.heap.size) := ⟨_, Lib.hid rfl⟩
    have hbase : base ≤ wc.heap.size := by rw [hbase0.out]; exact Nat.le_refl _
    have hbw : w.heap.size + 1 ≤ base := by have := hb1.size; have h1 := V0.lt; rw [hbase0.out]; omega
    have l_V0 : w.heap.size < base := by rw [hbase0.out]; exact V0.lt
    have l_V9 : g9 < base := by rw [hbase0.out]; exact V9.lt
    refine wp_tabGF Tryz.f48 6 (fP2T4 base) [] (fun i => i == 1) 2 1 (by kernel_rfl) (by kernel_rfl) (by kernel_rfl) (by kernel_rfl) (by kernel_rfl) ⟨fun h => (by cases h), ⟨fun _ w v h => Sp.var_lt h, trivial⟩⟩ ?_ ?_
    · refine ⟨fun _ _ F => gR rfl rfl (arm_C1 rfl (enters Tryz.func66 rfl rfl) Is.const (fun va w h1 => by have e_va : va = _ := h1; subst e_va; exact c_natural_Of 1 w (by decide)) (fun _ _ h => ofNew h)).b, ?_⟩
      refine ⟨fun _ _ F => gR rfl rfl (arm_alloc rfl (Nat.le_trans hbase F.below.size)), ?_⟩
      exact trivial
    intro E' hE gp wp bp G Gs
    obtain rfl : E' = [] := by simpa [subs] using hE
    obtain ⟨g11, e_1, lg_1, hv_1⟩ := G 1 11 _ (by simp) rfl
    have n_0 : (Sp.nat (1)).p wp (gp 0) := G 0 33 _ (by simp) rfl
    clear G Gs hE
    simp only [fP2T4]
    simp only [qA, setD, qZ, qS, e_1]
    have T0 := hv_1
    refine wpAny_storeN (j := 2) (by kernel_rfl) rfl rfl rfl rfl rfl n_0 T0.any ?_
    intro w0 u0 v0
    have O0 := T0.own
    refine wpAny_done (by kernel_rfl) ?_ _
    go_wp2_with fail
    go_meet
    case rel => exact ⟨g11, rfl, (by omega), (by omega), v0, ((V0.mono bp V0.lt).upd O0 u0 (by omega)), ((V9.mono bp).upd O0 u0 (by omega)), (Upd.below (hb1.trans (bp.mono hb1.size)) u0 (by omega))⟩
  case rest =>
  clear V0 V9 hb1
  obtain ⟨g11, rfl, lg11, d6_0, V11, V0, V9, hb1⟩ := hcut
  go_upto_region 7 with (fail)
  go_cut [34] (fun s_34 wx => s_34 = Value.bool true ∧ VarFB wx w.heap.size false none 0 0 none 0 0 ∧ VarI wx g9 M ∧ VarI wx g11 1 ∧ Below w.heap.size w wx)
  case first =>
    refine wp_tabGF Tryz.f48 7 (fP2T5 ) [] (fun _ => false) 2 0 (by kernel_rfl) (by kernel_rfl) (by kernel_rfl) (by kernel_rfl) (by kernel_rfl) (EachX.of_all (fun _ h => by cases h) _) ?_ ?_
    · refine ⟨fun _ _ F => gR rfl rfl (arm_move (.inl rfl) (F.k 8 (Value.bool true))).b, ?_⟩
      exact trivial
    intro E' hE gp wp bp G Gs
    obtain rfl : E' = [] := by simpa [subs] using hE
    have e_0 : gp 0 = Value.bool true := G 0 34 _ (by simp) rfl
    clear G Gs hE
    simp only [fP2T5]
    simp only [qA, setD, qZ, qS, e_0]
    refine wpAny_done (by kernel_rfl) ?_ _
    go_wp2_with fail
    go_meet
    case rel => exact ⟨rfl, (V0.mono bp V0.lt), (V9.mono bp), (V11.mono bp), (hb1.trans (bp.mono hb1.size))⟩
  case rest =>
  clear V0 V9 V11 hb1
  obtain ⟨rfl, V0, V9, V11, hb1⟩ := hcut
  go_upto_region 8 with (fail)
  go_cut [10] (fun s_10 wx => s_10 = Value.int IntKind.i64 c ∧ VarFB wx w.heap.size false none 0 0 none 0 0 ∧ VarI wx g9 M ∧ VarI wx g11 N ∧ Below w.heap.size w wx)
  case first =>
    refine wp_tabGF Tryz.f48 8 (fP2T6 b N c) [4] (fun _ => false) 6 2 (by kernel_rfl) (by kernel_rfl) (by kernel_rfl) (by kernel_rfl) (by kernel_rfl) (EachX.of_all (fun _ h => by cases h) _) ?_ ?_
    · refine ⟨fun _ _ F => gR rfl rfl (arm_move (.inl rfl) (F.k 7 (Value.string b))).b, ?_⟩
      refine ⟨fun _ _ F => gR rfl rfl (arm_C1 rfl (enters Tryz.func73 rfl rfl) (F.f 0 rfl) (fun va w h1 => by have e_va : va = _ := h1; subst e_va; exact c_natural_Parse b w _ _ hb) (fun _ _ h => ofP h)).b, ?_⟩
      refine ⟨fun _ _ F => gR rfl rfl (arm_move (.inl rfl) (F.f 1 rfl)).b, ?_⟩
      refine ⟨fun _ _ F => gR rfl rfl (arm_pair0 rfl (F.f 2 rfl)).b, ?_⟩
      refine ⟨fun _ _ F => gR rfl rfl (arm_pair1 rfl (F.f 2 rfl)).b, ?_⟩
      exact trivial
    intro E' hE gp wp bp G Gs
    simp only [subs, List.map_cons, List.map_nil, List.nil_append, List.cons_append, List.mem_cons, List.not_mem_nil, or_false, List.append_nil] at hE
    rcases hE with rfl | rfl
    · have n_3 : (Sp.nat (N)).p wp (gp 3) := G 3 38 _ (by simp) rfl
      have e_4 : gp 4 = Value.int IntKind.i64 c := G 4 39 _ (by simp) rfl
      clear G Gs
      simp only [fP2T6]
      simp only [qA, setD, qZ, qS, e_4]
      have T0 := (V11.mono bp)
      refine wpAny_storeN (j := 5) (by kernel_rfl) rfl rfl rfl rfl rfl n_3 T0.any ?_
      intro w0 u0 v0
      have O0 := T0.own
      refine wpAny_takeD (i := 6) (d := some 10) (v := Value.int IntKind.i64 c) rfl rfl (by kernel_rfl) (by kernel_rfl) (by kernel_rfl) (fun _ _ _ h => h) (Or.inl ⟨by rfl, fun w => by rfl⟩) ?_
      try simp only [qP, qZ, qS]
      refine wpAny_done (by kernel_rfl) ?_ _
      go_wp2_with fail
      go_meet
      case rel => exact ⟨rfl, ((V0.mono bp V0.lt).upd O0 u0 (by omega)), ((V9.mono bp).upd O0 u0 (by omega)), v0, (Upd.below (hb1.trans (bp.mono hb1.size)) u0 (by omega))⟩
    · obtain ⟨x_2_0, x_2_1, e_2, n_2_0, rfl⟩ := G 2 35 _ (by simp) rfl
      have n_3 : (Sp.nat (N)).p wp (gp 3) := G 3 38 _ (by simp) rfl
      clear G Gs
      simp only [fP2T6]
      simp only [qA, setD, qZ, qS, e_2]
      refine wpAny_takeD (i := 4) (d := some 39) (v := Value.int IntKind.i64 c) rfl rfl (by kernel_rfl) (by kernel_rfl) (by kernel_rfl) (fun _ _ _ h => h) (Or.inl ⟨by rfl, fun w => by rfl⟩) ?_
      try simp only [qP, qZ, qS]
      have T0 := (V11.mono bp)
      refine wpAny_storeN (j := 5) (by kernel_rfl) rfl rfl rfl rfl rfl n_3 T0.any ?_
      intro w0 u0 v0
      have O0 := T0.own
      refine wpAny_takeD (i := 6) (d := some 10) (v := Value.int IntKind.i64 c) rfl rfl (by kernel_rfl) (by kernel_rfl) (by kernel_rfl) (fun _ _ _ h => h) (Or.inl ⟨by rfl, fun w => by rfl⟩) ?_
      try simp only [qP, qZ, qS]
      refine wpAny_done (by kernel_rfl) ?_ _
      go_wp2_with fail
      go_meet
      case rel => exact ⟨rfl, ((V0.mono bp V0.lt).upd O0 u0 (by omega)), ((V9.mono bp).upd O0 u0 (by omega)), v0, (Upd.below (hb1.trans (bp.mono hb1.size)) u0 (by omega))⟩
  case rest =>
  clear V0 V9 V11 hb1
  obtain ⟨rfl, V0, V9, V11, hb1⟩ := hcut
  go_upto_region 9 with (fail)
  go_cut [41] (fun s_41 wx => s_41 = Value.bool true ∧ VarFB wx w.heap.size false none 0 0 none 0 0 ∧ VarI wx g9 M ∧ VarI wx g11 N ∧ Below w.heap.size w wx)
  case first =>
    refine wp_tabGF Tryz.f48 9 (fP2T7 c) [] (fun _ => false) 2 0 (by kernel_rfl) (by kernel_rfl) (by kernel_rfl) (by kernel_rfl) (by kernel_rfl) (EachX.of_all (fun _ h => by cases h) _) ?_ ?_
    · refine ⟨fun _ _ F => gR rfl rfl (arm_move (.inl rfl) (F.k 10 (Value.int IntKind.i64 c))).b, ?_⟩
      refine ⟨fun _ _ F => gR rfl rfl (arm_bin rfl (F.f 0 rfl) Is.const (fun _ => rfl) (fun w => by rw [HC.out]; rfl)).b, ?_⟩
      exact trivial
    intro E' hE gp wp bp G Gs
    obtain rfl : E' = [] := by simpa [subs] using hE
    have e_1 : gp 1 = Value.bool true := G 1 41 _ (by simp) rfl
    clear G Gs hE
    simp only [fP2T7]
    simp only [qA, setD, qZ, qS, e_1]
    refine wpAny_done (by kernel_rfl) ?_ _
    go_wp2_with fail
    go_meet
    case rel => exact ⟨rfl, (V0.mono bp V0.lt), (V9.mono bp), (V11.mono bp), (hb1.trans (bp.mono hb1.size))⟩
  case rest =>
  clear V0 V9 V11 hb1
  obtain ⟨rfl, V0, V9, V11, hb1⟩ := hcut
  go_upto_region 10 with (fail)
  go_cut [3] (fun s_3 wx => s_3 = Value.int IntKind.i64 c ∧ VarQ wx w.heap.size Fq.zero ∧ VarI wx g9 M ∧ VarI wx g11 N ∧ Below w.heap.size w wx)
  case first =>
    refine wp_tabGF Tryz.f48 10 (fP2T8 c) [1] (fun _ => false) 3 2 (by kernel_rfl) (by kernel_rfl) (by kernel_rfl) (by kernel_rfl) (by kernel_rfl) (EachX.of_all (fun _ h => by cases h) _) ?_ ?_
    · refine ⟨fun _ _ F => gR rfl rfl (arm_build0F rfl).b, ?_⟩
      refine ⟨fun _ _ F => gR rfl rfl (arm_move (.inl rfl) (F.k 10 (Value.int IntKind.i64 c))).b, ?_⟩
      exact trivial
    intro E' hE gp wp bp G Gs
    simp only [subs, List.map_cons, List.map_nil, List.nil_append, List.cons_append, List.mem_cons, List.not_mem_nil, or_false, List.append_nil] at hE
    rcases hE with rfl | rfl
    · have n_0 : (Sp.fq Fq.zero).p wp (gp 0) := G 0 42 _ (by simp) rfl
      have e_1 : gp 1 = Value.int IntKind.i64 c := G 1 43 _ (by simp) rfl
      clear G Gs
      simp only [fP2T8]
      simp only [qA, setD, qZ, qS, e_1]
      have T0 := (V0.mono bp V0.lt)
      refine wpAny_storeFr (j := 2) (by kernel_rfl) rfl rfl rfl rfl rfl n_0 T0.any ?_
      intro w0 u0 v0
      have O0 := T0.own
      refine wpAny_takeD (i := 3) (d := some 3) (v := Value.int IntKind.i64 c) rfl rfl (by kernel_rfl) (by kernel_rfl) (by kernel_rfl) (fun _ _ _ h => h) (Or.inl ⟨by rfl, fun w => by rfl⟩) ?_
      try simp only [qP, qZ, qS]
      refine wpAny_done (by kernel_rfl) ?_ _
      go_wp2_with fail
      go_meet
      case rel => exact ⟨rfl, v0, ((V9.mono bp).upd O0 u0 (by omega)), ((V11.mono bp).upd O0 u0 (by omega)), (Upd.below (hb1.trans (bp.mono hb1.size)) u0 (by omega))⟩
    · have n_0 : (Sp.fq Fq.zero).p wp (gp 0) := G 0 42 _ (by simp) rfl
      clear G Gs
      simp only [fP2T8]
      simp only [qA, setD, qZ, qS]
      refine wpAny_takeD (i := 1) (d := some 43) (v := Value.int IntKind.i64 c) rfl rfl (by kernel_rfl) (by kernel_rfl) (by kernel_rfl) (fun _ _ _ h => h) (Or.inl ⟨by rfl, fun w => by rfl⟩) ?_
      try simp only [qP, qZ, qS]
      have T0 := (V0.mono bp V0.lt)
      refine wpAny_storeFr (j := 2) (by kernel_rfl) rfl rfl rfl rfl rfl n_0 T0.any ?_
      intro w0 u0 v0
      have O0 := T0.own
      refine wpAny_takeD (i := 3) (d := some 3) (v := Value.int IntKind.i64 c) rfl rfl (by kernel_rfl) (by kernel_rfl) (by kernel_rfl) (fun _ _ _ h => h) (Or.inl ⟨by rfl, fun w => by rfl⟩) ?_
      try simp only [qP, qZ, qS]
      refine wpAny_done (by kernel_rfl) ?_ _
      go_wp2_with fail
      go_meet
      case rel => exact ⟨rfl, v0, ((V9.mono bp).upd O0 u0 (by omega)), ((V11.mono bp).upd O0 u0 (by omega)), (Upd.below (hb1.trans (bp.mono hb1.size)) u0 (by omega))⟩
  case rest =>
  clear V0 V9 V11 hb1
  obtain ⟨rfl, V0, V9, V11, hb1⟩ := hcut
  obtain ⟨r1, r2, r3, r4, rV, rn, rm⟩ := V0
  have c0 := rV.cell0
  have c1 := rV.cell1
  have c2 := rV.cell2
  go_wp2
  exact bodyPost_ret (res_FE rfl rfl rfl rV) rfl ⟨_, rfl, ⟨r1, r2, r3, r4, rfl, rn, rm⟩, hb1⟩
def fP3ttT0 (s : ByteArray) (t : ByteArray) (B : Bool) : List (Nat × Tmp × Sp) :=
   [(0, 14, .val (Value.string s)),
    (1, 15, .pair (.val (Value.string t)) (.val (Value.bool B))),
    (2, 13, .pair (.val (Value.string t)) (.val (Value.bool B))),
    (3, 16, .val (Value.string t)),
    (4, 17, .val (Value.bool B)),
    (5, 4, .val (Value.string t)),
    (6, 5, .val (Value.bool B))]
def fP3ttT1 (t : ByteArray) (a : ByteArray) (b : ByteArray) : List (Nat × Tmp × Sp) :=
   [(0, 19, .val (Value.string t)),
    (1, 20, .trip (.val (Value.string a)) (.val (Value.string b)) (.val (Value.bool true))),
    (2, 18, .trip (.val (Value.string a)) (.val (Value.string b)) (.val (Value.bool true))),
    (3, 21, .val (Value.string a)),
    (4, 22, .val (Value.string b)),
    (5, 23, .val (Value.bool true)),
    (6, 6, .val (Value.string a)),
    (7, 7, .val (Value.string b)),
    (8, 8, .val (Value.bool true))]
def fP3ttT2 (a : ByteArray) (M : Nat) (base : Nat) : List (Nat × Tmp × Sp) :=
   [(0, 25, .val (Value.string a)),
    (1, 26, .pair (.nat (M)) (.val (Value.int IntKind.i64 0))),
    (2, 24, .pair (.nat (M)) (.val (Value.int IntKind.i64 0))),
    (3, 27, .nat (M)),
    (4, 28, .val (Value.int IntKind.i64 0)),
    (5, 9, .var base)]
def fP3ttT3  : List (Nat × Tmp × Sp) :=
   [(0, 29, .val (Value.int IntKind.i64 0)),
    (1, 30, .val (Value.bool false))]
def fP3ttT4 (base : Nat) : List (Nat × Tmp × Sp) :=
   [(0, 33, .nat (1)),
    (1, 11, .var base)]
def fP3ttT5  : List (Nat × Tmp × Sp) :=
   [(0, 34, .val (Value.bool true))]
def fP3ttT6 (b : ByteArray) (N : Nat) : List (Nat × Tmp × Sp) :=
   [(0, 36, .val (Value.string b)),
    (1, 37, .pair (.nat (N)) (.val (Value.int IntKind.i64 0))),
    (2, 35, .pair (.nat (N)) (.val (Value.int IntKind.i64 0))),
    (3, 38, .nat (N)),
    (4, 39, .val (Value.int IntKind.i64 0))]
def fP3ttT7  : List (Nat × Tmp × Sp) :=
   [(0, 40, .val (Value.int IntKind.i64 0)),
    (1, 41, .val (Value.bool false))]
def fP3ttT8 (B : Bool) (M : Nat) (N : Nat) (base : Nat) : List (Nat × Tmp × Sp) :=
   [(0, 44, .val (Value.bool B)),
    (1, 45, .nat (M)),
    (2, 46, .nat (N)),
    (3, 47, .fq (Fq.mk B M N)),
    (4, 12, .varF base)]
def fP3ttT9 (B : Bool) (M : Nat) (N : Nat) : List (Nat × Tmp × Sp) :=
   [(0, 48, .val (Value.bool true)),
    (1, 49, .val (Value.bool true)),
    (2, 50, .nat (N)),
    (3, 51, .ones N),
    (4, 52, .val (Value.bool false)),
    (5, 53, .val (Value.bool false)),
    (6, 54, .val (Value.bool false)),
    (7, 55, .fq (Fq.mk B M N)),
    (8, 56, .val (Value.bool true)),
    (9, 57, .val (Value.bool false)),
    (10, 58, .val (Value.bool false))]
def fP3ttT10 (B : Bool) (M : Nat) (N : Nat) : List (Nat × Tmp × Sp) :=
   [(0, 60, .fq (Fq.mk B M N))]
set_option maxHeartbeats 4000000 in
theorem fP_good_true (s t a b : ByteArray) (B : Bool) (M : Nat) (w : World) (HP : Pieces s t B true a b) (hs : s.size ≤ 4294967280) (ha : ParseIs a M 0) (N : Nat) (hb : ParseIs b N 0) (hv : parseV B true M N = true) :
    Calls Tryz.prog 48 #[.string s] w fun e w' => RetQE w ⟨B, M, N⟩ 0 e w' := by
  have hts : t.size ≤ 4294967280 := Nat.le_trans (pieces_size HP) hs
  have bM : nl M ≤ 1000000000000 := Nat.le_trans (parse_nlU ha) (by decide)
  have bN : nl N ≤ 1000000000000 := Nat.le_trans (parse_nlU hb) (by decide)
  have bN' : nl N ≤ 1000000 := Nat.le_trans (parse_nlU hb) (by decide)
  have bM' : nl M ≤ 1000000 := Nat.le_trans (parse_nlU ha) (by decide)
  have hv2 : (!decide (N = 1) && (Fq.mk B M N).valid) = true := hv
  rw [Bool.and_eq_true] at hv2
  have HV := Lib.hid hv2.2
  have H1 : Hid (decide (N = 1) = false) := Lib.hid (by simpa using hv2.1)
  clear hv hv2
  obtain ⟨m0, k0⟩ := resF (w := w)
  go_enter Tryz.func48, Tryz.ntmps48
  go_upto_region 0 with (fail)
  go_cut [2, 3] (fun s_2 s_3 wx => s_2 = Value.pointer (some ⟨w.heap.size, 0, none⟩) ∧ s_3 = Value.int IntKind.i64 0 ∧ VarFB wx w.heap.size false none 0 0 none 0 0 ∧ Below w.heap.size w wx)
  case first =>
    go_wp2_with fail
    go_meet
    case rel => exact ⟨rfl, rfl, k0, m0⟩
  case rest =>
  clear m0 k0
  obtain ⟨rfl, rfl, V0, hb1⟩ := hcut
  go_upto_region 1 with (fail)
  go_cut [4, 5] (fun s_4 s_5 wx => s_4 = Value.string t ∧ s_5 = Value.bool B ∧ VarFB wx w.heap.size false none 0 0 none 0 0 ∧ Below w.heap.size w wx)
  case first =>
    refine wp_tabGF Tryz.f48 1 (fP3ttT0 s t B) [] (fun _ => false) 6 0 (by kernel_rfl) (by kernel_rfl) (by kernel_rfl) (by kernel_rfl) (by kernel_rfl) (EachX.of_all (fun _ h => by cases h) _) ?_ ?_
    · refine ⟨fun _ _ F => gR rfl rfl (arm_move (.inl rfl) (F.k 0 (Value.string s))).b, ?_⟩
      refine ⟨fun _ _ F => gR rfl rfl (arm_C2 rfl (enters Tryz.func71 rfl rfl) (F.f 0 rfl) Is.const (fun va vb w h1 h2 => by have e_va : va = _ := h1; subst e_va; have e_vb : vb = _ := h2; subst e_vb; exact c_CutPrefix _ _ _ w HP.sign HP.rest) (fun _ _ h => ofPair h)).b, ?_⟩
      refine ⟨fun _ _ F => gR rfl rfl (arm_move (.inl rfl) (F.f 1 rfl)).b, ?_⟩
      refine ⟨fun _ _ F => gR rfl rfl (arm_pair0 rfl (F.f 2 rfl)).b, ?_⟩
      refine ⟨fun _ _ F => gR rfl rfl (arm_pair1 rfl (F.f 2 rfl)).b, ?_⟩
      refine ⟨fun _ _ F => gR rfl rfl (arm_move (.inr rfl) (F.f 3 rfl)).b, ?_⟩
      refine ⟨fun _ _ F => gR rfl rfl (arm_move (.inr rfl) (F.f 4 rfl)).b, ?_⟩
      exact trivial
    intro E' hE gp wp bp G Gs
    obtain rfl : E' = [] := by simpa [subs] using hE
    have e_5 : gp 5 = Value.string t := G 5 4 _ (by simp) rfl
    have e_6 : gp 6 = Value.bool B := G 6 5 _ (by simp) rfl
    clear G Gs hE
    simp only [fP3ttT0]
    simp only [qA, setD, qZ, qS, e_5, e_6]
    refine wpAny_done (by kernel_rfl) ?_ _
    go_wp2_with fail
    go_meet
    case rel => exact ⟨rfl, rfl, (V0.mono bp V0.lt), (hb1.trans (bp.mono hb1.size))⟩
  case rest =>
  clear V0 hb1
  obtain ⟨rfl, rfl, V0, hb1⟩ := hcut
  go_upto_region 2 with (fail)
  go_cut [6, 7, 8] (fun s_6 s_7 s_8 wx => s_6 = Value.string a ∧ s_7 = Value.string b ∧ s_8 = Value.bool true ∧ VarFB wx w.heap.size false none 0 0 none 0 0 ∧ Below w.heap.size w wx)
  case first =>
    refine wp_tabGF Tryz.f48 2 (fP3ttT1 t a b) [] (fun _ => false) 7 0 (by kernel_rfl) (by kernel_rfl) (by kernel_rfl) (by kernel_rfl) (by kernel_rfl) (EachX.of_all (fun _ h => by cases h) _) ?_ ?_
    · refine ⟨fun _ _ F => gR rfl rfl (arm_move (.inl rfl) (F.k 4 (Value.string t))).b, ?_⟩
      refine ⟨fun _ _ F => gR rfl rfl (arm_C2 rfl (enters Tryz.func72 rfl rfl) (F.f 0 rfl) Is.const (fun va vb w h1 h2 => by have e_va : va = _ := h1; subst e_va; have e_vb : vb = _ := h2; subst e_vb; exact cut_piece HP w hts) (fun _ _ h => ofTrip h)).b, ?_⟩
      refine ⟨fun _ _ F => gR rfl rfl (arm_move (.inl rfl) (F.f 1 rfl)).b, ?_⟩
      refine ⟨fun _ _ F => gR rfl rfl (arm_trip0 rfl (F.f 2 rfl)).b, ?_⟩
      refine ⟨fun _ _ F => gR rfl rfl (arm_trip1 rfl (F.f 2 rfl)).b, ?_⟩
      refine ⟨fun _ _ F => gR rfl rfl (arm_trip2 rfl (F.f 2 rfl)).b, ?_⟩
      refine ⟨fun _ _ F => gR rfl rfl (arm_move (.inr rfl) (F.f 3 rfl)).b, ?_⟩
      refine ⟨fun _ _ F => gR rfl rfl (arm_move (.inr rfl) (F.f 4 rfl)).b, ?_⟩
      refine ⟨fun _ _ F => gR rfl rfl (arm_move (.inr rfl) (F.f 5 rfl)).b, ?_⟩
      exact trivial
    intro E' hE gp wp bp G Gs
    obtain rfl : E' = [] := by simpa [subs] using hE
    have e_6 : gp 6 = Value.string a := G 6 6 _ (by simp) rfl
    have e_7 : gp 7 = Value.string b := G 7 7 _ (by simp) rfl
    have e_8 : gp 8 = Value.bool true := G 8 8 _ (by simp) rfl
    clear G Gs hE
    simp only [fP3ttT1]
    simp only [qA, setD, qZ, qS, e_6, e_7, e_8]
    refine wpAny_done (by kernel_rfl) ?_ _
    go_wp2_with fail
    go_meet
    case rel => exact ⟨rfl, rfl, rfl, (V0.mono bp V0.lt), (hb1.trans (bp.mono hb1.size))⟩
  case rest =>
  clear V0 hb1
  obtain ⟨rfl, rfl, rfl, V0, hb1⟩ := hcut
  go_upto_region 3 with (fail)
  go_cut [9, 10] (fun s_9 s_10 wx => ∃ g9, s_9 = Value.pointer (some ⟨g9, 0, none⟩) ∧ s_10 = Value.int IntKind.i64 0 ∧ w.heap.size + 1 ≤ g9 ∧ VarI wx g9 M ∧ VarFB wx w.heap.size false none 0 0 none 0 0 ∧ Below w.heap.size w wx)
  case first =>
    obtain ⟨base, hbase0⟩ : ∃ b : Nat, Hid (b = wc.heap.size) := ⟨_, Lib.hid rfl⟩
    have hbase : base ≤ wc.heap.size := by rw [hbase0.out]; exact Nat.le_refl _
    have hbw : w.heap.size + 1 ≤ base := by have := hb1.size; have h1 := V0.lt; rw [hbase0.out]; omega
    have l_V0 : w.heap.size < base := by rw [hbase0.out]; exact V0.lt
    refine wp_tabGF Tryz.f48 3 (fP3ttT2 a M base) [4] (fun i => i == 5) 6 2 (by kernel_rfl) (by kernel_rfl) (by kernel_rfl) (by kernel_rfl) (by kernel_rfl) ⟨fun h => (by cases h), ⟨fun h => (by cases h), ⟨fun h => (by cases h), ⟨fun h => (by cases h), ⟨fun h => (by cases h), ⟨fun _ w v h => Sp.var_lt h, trivial⟩⟩⟩⟩⟩⟩ ?_ ?_
    · refine ⟨fun _ _ F => gR rfl rfl (arm_move (.inl rfl) (F.k 6 (Value.string a))).b, ?_⟩
      refine ⟨fun _ _ F => gR rfl rfl (arm_C1 rfl (enters Tryz.func73 rfl rfl) (F.f 0 rfl) (fun va w h1 => by have e_va : va = _ := h1; subst e_va; exact c_natural_Parse a w _ _ ha) (fun _ _ h => ofP h)).b, ?_⟩
      refine ⟨fun _ _ F => gR rfl rfl (arm_move (.inl rfl) (F.f 1 rfl)).b, ?_⟩
      refine ⟨fun _ _ F => gR rfl rfl (arm_pair0 rfl (F.f 2 rfl)).b, ?_⟩
      refine ⟨fun _ _ F => gR rfl rfl (arm_pair1 rfl (F.f 2 rfl)).b, ?_⟩
      refine ⟨fun _ _ F => gR rfl rfl (arm_alloc rfl (Nat.le_trans hbase F.below.size)), ?_⟩
      exact trivial
    intro E' hE gp wp bp G Gs
    simp only [subs, List.map_cons, List.map_nil, List.nil_append, List.cons_append, List.mem_cons, List.not_mem_nil, or_false, List.append_nil] at hE
    rcases hE with rfl | rfl
    · obtain ⟨g9, e_5, lg_5, hv_5⟩ := G 5 9 _ (by simp) rfl
      have n_3 : (Sp.nat (M)).p wp (gp 3) := G 3 27 _ (by simp) rfl
      have e_4 : gp 4 = Value.int IntKind.i64 0 := G 4 28 _ (by simp) rfl
      clear G Gs
      simp only [fP3ttT2]
      simp only [qA, setD, qZ, qS, e_5, e_4]
      have T0 := hv_5
      refine wpAny_storeN (j := 6) (by kernel_rfl) rfl rfl rfl rfl rfl n_3 T0.any ?_
      intro w0 u0 v0
      have O0 := T0.own
      refine wpAny_takeD (i := 7) (d := some 10) (v := Value.int IntKind.i64 0) rfl rfl (by kernel_rfl) (by kernel_rfl) (by kernel_rfl) (fun _ _ _ h => h) (Or.inl ⟨by rfl, fun w => by rfl⟩) ?_
      try simp only [qP, qZ, qS]
      refine wpAny_done (by kernel_rfl) ?_ _
      go_wp2_with fail
      go_meet
      case rel => exact ⟨g9, rfl, rfl, (by omega), v0, ((V0.mono bp V0.lt).upd O0 u0 (by omega)), (Upd.below (hb1.trans (bp.mono hb1.size)) u0 (by omega))⟩
    · obtain ⟨g9, e_5, lg_5, hv_5⟩ := G 5 9 _ (by simp) rfl
      obtain ⟨x_2_0, x_2_1, e_2, n_2_0, rfl⟩ := G 2 24 _ (by simp) rfl
      have n_3 : (Sp.nat (M)).p wp (gp 3) := G 3 27 _ (by simp) rfl
      clear G Gs
      simp only [fP3ttT2]
      simp only [qA, setD, qZ, qS, e_5, e_2]
      refine wpAny_takeD (i := 4) (d := some 28) (v := Value.int IntKind.i64 0) rfl rfl (by kernel_rfl) (by kernel_rfl) (by kernel_rfl) (fun _ _ _ h => h) (Or.inl ⟨by rfl, fun w => by rfl⟩) ?_
      try simp only [qP, qZ, qS]
      have T0 := hv_5
      refine wpAny_storeN (j := 6) (by kernel_rfl) rfl rfl rfl rfl rfl n_3 T0.any ?_
      intro w0 u0 v0
      have O0 := T0.own
      refine wpAny_takeD (i := 7) (d := some 10) (v := Value.int IntKind.i64 0) rfl rfl (by kernel_rfl) (by kernel_rfl) (by kernel_rfl) (fun _ _ _ h => h) (Or.inl ⟨by rfl, fun w => by rfl⟩) ?_
      try simp only [qP, qZ, qS]
      refine wpAny_done (by kernel_rfl) ?_ _
      go_wp2_with fail
      go_meet
      case rel => exact ⟨g9, rfl, rfl, (by omega), v0, ((V0.mono bp V0.lt).upd O0 u0 (by omega)), (Upd.below (hb1.trans (bp.mono hb1.size)) u0 (by omega))⟩
  case rest =>
  clear V0 hb1
  obtain ⟨g9, rfl, rfl, lg9, V9, V0, hb1⟩ := hcut
  go_upto_region 4 with (fail)
  go_cut [30] (fun s_30 wx => s_30 = Value.bool false ∧ VarFB wx w.heap.size false none 0 0 none 0 0 ∧ VarI wx g9 M ∧ Below w.heap.size w wx)
  case first =>
    refine wp_tabGF Tryz.f48 4 (fP3ttT3 ) [] (fun _ => false) 2 0 (by kernel_rfl) (by kernel_rfl) (by kernel_rfl) (by kernel_rfl) (by kernel_rfl) (EachX.of_all (fun _ h => by cases h) _) ?_ ?_
    · refine ⟨fun _ _ F => gR rfl rfl (arm_move (.inl rfl) (F.k 10 (Value.int IntKind.i64 0))).b, ?_⟩
      refine ⟨fun _ _ F => gR rfl rfl (arm_bin rfl (F.f 0 rfl) Is.const (fun _ => rfl) (fun _ => rfl)).b, ?_⟩
      exact trivial
    intro E' hE gp wp bp G Gs
    obtain rfl : E' = [] := by simpa [subs] using hE
    have e_1 : gp 1 = Value.bool false := G 1 30 _ (by simp) rfl
    clear G Gs hE
    simp only [fP3ttT3]
    simp only [qA, setD, qZ, qS, e_1]
    refine wpAny_done (by kernel_rfl) ?_ _
    go_wp2_with fail
    go_meet
    case rel => exact ⟨rfl, (V0.mono bp V0.lt), (V9.mono bp), (hb1.trans (bp.mono hb1.size))⟩
  case rest =>
  clear V0 V9 hb1
  obtain ⟨rfl, V0, V9, hb1⟩ := hcut
  go_upto_region 6 with (fail)
  go_cut [11] (fun s_11 wx => ∃ g11, s_11 = Value.pointer (some ⟨g11, 0, none⟩) ∧ w.heap.size + 1 ≤ g11 ∧ g9 < g11 ∧ VarI wx g11 1 ∧ VarFB wx w.heap.size false none 0 0 none 0 0 ∧ VarI wx g9 M ∧ Below w.heap.size w wx)
  case first =>
    obtain ⟨base, hbase0⟩ : ∃ b : Nat, Hid (b = wc.heap.size) := ⟨_, Lib.hid rfl⟩
    have hbase : base ≤ wc.heap.size := by rw [hbase0.out]; exact Nat.le_refl _
    have hbw : w.heap.size + 1 ≤ base := by have := hb1.size; have h1 := V0.lt; rw [hbase0.out]; omega
    have l_V0 : w.heap.size < base := by rw [hbase0.out]; exact V0.lt
    have l_V9 : g9 < base := by rw [hbase0.out]; exact V9.lt
    refine wp_tabGF Tryz.f48 6 (fP3ttT4 base) [] (fun i => i == 1) 2 1 (by kernel_rfl) (by kernel_rfl) (by kernel_rfl) (by kernel_rfl) (by kernel_rfl) ⟨fun h => (by cases h), ⟨fun _ w v h => Sp.var_lt h, trivial⟩⟩ ?_ ?_
    · refine ⟨fun _ _ F => gR rfl rfl (arm_C1 rfl (enters Tryz.func66 rfl rfl) Is.const (fun va w h1 => by have e_va : va = _ := h1; subst e_va; exact c_natural_Of 1 w (by decide)) (fun _ _ h => ofNew h)).b, ?_⟩
      refine ⟨fun _ _ F => gR rfl rfl (arm_alloc rfl (Nat.le_trans hbase F.below.size)), ?_⟩
      exact trivial
    intro E' hE gp wp bp G Gs
    obtain rfl : E' = [] := by simpa [subs] using hE
    obtain ⟨g11, e_1, lg_1, hv_1⟩ := G 1 11 _ (by simp) rfl
    have n_0 : (Sp.nat (1)).p wp (gp 0) := G 0 33 _ (by simp) rfl
    clear G Gs hE
    simp only [fP3ttT4]
    simp only [qA, setD, qZ, qS, e_1]
    have T0 := hv_1
    refine wpAny_storeN (j := 2) (by kernel_rfl) rfl rfl rfl rfl rfl n_0 T0.any ?_
    intro w0 u0 v0
    have O0 := T0.own
    refine wpAny_done (by kernel_rfl) ?_ _
    go_wp2_with fail
    go_meet
    case rel => exact ⟨g11, rfl, (by omega), (by omega), v0, ((V0.mono bp V0.lt).upd O0 u0 (by omega)), ((V9.mono bp).upd O0 u0 (by omega)), (Upd.below (hb1.trans (bp.mono hb1.size)) u0 (by omega))⟩
  case rest =>
  clear V0 V9 hb1
  obtain ⟨g11, rfl, lg11, d6_0, V11, V0, V9, hb1⟩ := hcut
  go_upto_region 7 with (fail)
  go_cut [34] (fun s_34 wx => s_34 = Value.bool true ∧ VarFB wx w.heap.size false none 0 0 none 0 0 ∧ VarI wx g9 M ∧ VarI wx g11 1 ∧ Below w.heap.size w wx)
  case first =>
    refine wp_tabGF Tryz.f48 7 (fP3ttT5 ) [] (fun _ => false) 2 0 (by kernel_rfl) (by kernel_rfl) (by kernel_rfl) (by kernel_rfl) (by kernel_rfl) (EachX.of_all (fun _ h => by cases h) _) ?_ ?_
    · refine ⟨fun _ _ F => gR rfl rfl (arm_move (.inl rfl) (F.k 8 (Value.bool true))).b, ?_⟩
      exact trivial
    intro E' hE gp wp bp G Gs
    obtain rfl : E' = [] := by simpa [subs] using hE
    have e_0 : gp 0 = Value.bool true := G 0 34 _ (by simp) rfl
    clear G Gs hE
    simp only [fP3ttT5]
    simp only [qA, setD, qZ, qS, e_0]
    refine wpAny_done (by kernel_rfl) ?_ _
    go_wp2_with fail
    go_meet
    case rel => exact ⟨rfl, (V0.mono bp V0.lt), (V9.mono bp), (V11.mono bp), (hb1.trans (bp.mono hb1.size))⟩
  case rest =>
  clear V0 V9 V11 hb1
  obtain ⟨rfl, V0, V9, V11, hb1⟩ := hcut
  go_upto_region 8 with (fail)
  go_cut [10] (fun s_10 wx => s_10 = Value.int IntKind.i64 0 ∧ VarFB wx w.heap.size false none 0 0 none 0 0 ∧ VarI wx g9 M ∧ VarI wx g11 N ∧ Below w.heap.size w wx)
  case first =>
    refine wp_tabGF Tryz.f48 8 (fP3ttT6 b N) [4] (fun _ => false) 6 2 (by kernel_rfl) (by kernel_rfl) (by kernel_rfl) (by kernel_rfl) (by kernel_rfl) (EachX.of_all (fun _ h => by cases h) _) ?_ ?_
    · refine ⟨fun _ _ F => gR rfl rfl (arm_move (.inl rfl) (F.k 7 (Value.string b))).b, ?_⟩
      refine ⟨fun _ _ F => gR rfl rfl (arm_C1 rfl (enters Tryz.func73 rfl rfl) (F.f 0 rfl) (fun va w h1 => by have e_va : va = _ := h1; subst e_va; exact c_natural_Parse b w _ _ hb) (fun _ _ h => ofP h)).b, ?_⟩
      refine ⟨fun _ _ F => gR rfl rfl (arm_move (.inl rfl) (F.f 1 rfl)).b, ?_⟩
      refine ⟨fun _ _ F => gR rfl rfl (arm_pair0 rfl (F.f 2 rfl)).b, ?_⟩
      refine ⟨fun _ _ F => gR rfl rfl (arm_pair1 rfl (F.f 2 rfl)).b, ?_⟩
      exact trivial
    intro E' hE gp wp bp G Gs
    simp only [subs, List.map_cons, List.map_nil, List.nil_append, List.cons_append, List.mem_cons, List.not_mem_nil, or_false, List.append_nil] at hE
    rcases hE with rfl | rfl
    · have n_3 : (Sp.nat (N)).p wp (gp 3) := G 3 38 _ (by simp) rfl
      have e_4 : gp 4 = Value.int IntKind.i64 0 := G 4 39 _ (by simp) rfl
      clear G Gs
      simp only [fP3ttT6]
      simp only [qA, setD, qZ, qS, e_4]
      have T0 := (V11.mono bp)
      refine wpAny_storeN (j := 5) (by kernel_rfl) rfl rfl rfl rfl rfl n_3 T0.any ?_
      intro w0 u0 v0
      have O0 := T0.own
      refine wpAny_takeD (i := 6) (d := some 10) (v := Value.int IntKind.i64 0) rfl rfl (by kernel_rfl) (by kernel_rfl) (by kernel_rfl) (fun _ _ _ h => h) (Or.inl ⟨by rfl, fun w => by rfl⟩) ?_
      try simp only [qP, qZ, qS]
      refine wpAny_done (by kernel_rfl) ?_ _
      go_wp2_with fail
      go_meet
      case rel => exact ⟨rfl, ((V0.mono bp V0.lt).upd O0 u0 (by omega)), ((V9.mono bp).upd O0 u0 (by omega)), v0, (Upd.below (hb1.trans (bp.mono hb1.size)) u0 (by omega))⟩
    · obtain ⟨x_2_0, x_2_1, e_2, n_2_0, rfl⟩ := G 2 35 _ (by simp) rfl
      have n_3 : (Sp.nat (N)).p wp (gp 3) := G 3 38 _ (by simp) rfl
      clear G Gs
      simp only [fP3ttT6]
      simp only [qA, setD, qZ, qS, e_2]
      refine wpAny_takeD (i := 4) (d := some 39) (v := Value.int IntKind.i64 0) rfl rfl (by kernel_rfl) (by kernel_rfl) (by kernel_rfl) (fun _ _ _ h => h) (Or.inl ⟨by rfl, fun w => by rfl⟩) ?_
      try simp only [qP, qZ, qS]
      have T0 := (V11.mono bp)
      refine wpAny_storeN (j := 5) (by kernel_rfl) rfl rfl rfl rfl rfl n_3 T0.any ?_
      intro w0 u0 v0
      have O0 := T0.own
      refine wpAny_takeD (i := 6) (d := some 10) (v := Value.int IntKind.i64 0) rfl rfl (by kernel_rfl) (by kernel_rfl) (by kernel_rfl) (fun _ _ _ h => h) (Or.inl ⟨by rfl, fun w => by rfl⟩) ?_
      try simp only [qP, qZ, qS]
      refine wpAny_done (by kernel_rfl) ?_ _
      go_wp2_with fail
      go_meet
      case rel => exact ⟨rfl, ((V0.mono bp V0.lt).upd O0 u0 (by omega)), ((V9.mono bp).upd O0 u0 (by omega)), v0, (Upd.below (hb1.trans (bp.mono hb1.size)) u0 (by omega))⟩
  case rest =>
  clear V0 V9 V11 hb1
  obtain ⟨rfl, V0, V9, V11, hb1⟩ := hcut
  go_upto_region 9 with (fail)
  go_cut [41] (fun s_41 wx => s_41 = Value.bool false ∧ VarFB wx w.heap.size false none 0 0 none 0 0 ∧ VarI wx g9 M ∧ VarI wx g11 N ∧ Below w.heap.size w wx)
  case first =>
    refine wp_tabGF Tryz.f48 9 (fP3ttT7 ) [] (fun _ => false) 2 0 (by kernel_rfl) (by kernel_rfl) (by kernel_rfl) (by kernel_rfl) (by kernel_rfl) (EachX.of_all (fun _ h => by cases h) _) ?_ ?_
    · refine ⟨fun _ _ F => gR rfl rfl (arm_move (.inl rfl) (F.k 10 (Value.int IntKind.i64 0))).b, ?_⟩
      refine ⟨fun _ _ F => gR rfl rfl (arm_bin rfl (F.f 0 rfl) Is.const (fun _ => rfl) (fun _ => rfl)).b, ?_⟩
      exact trivial
    intro E' hE gp wp bp G Gs
    obtain rfl : E' = [] := by simpa [subs] using hE
    have e_1 : gp 1 = Value.bool false := G 1 41 _ (by simp) rfl
    clear G Gs hE
    simp only [fP3ttT7]
    simp only [qA, setD, qZ, qS, e_1]
    refine wpAny_done (by kernel_rfl) ?_ _
    go_wp2_with fail
    go_meet
    case rel => exact ⟨rfl, (V0.mono bp V0.lt), (V9.mono bp), (V11.mono bp), (hb1.trans (bp.mono hb1.size))⟩
  case rest =>
  clear V0 V9 V11 hb1
  obtain ⟨rfl, V0, V9, V11, hb1⟩ := hcut
  go_upto_region 11 with (fail)
  go_cut [12] (fun s_12 wx => ∃ g12, s_12 = Value.pointer (some ⟨g12, 0, none⟩) ∧ w.heap.size + 1 ≤ g12 ∧ g9 < g12 ∧ g11 < g12 ∧ VarQ wx g12 (Fq.mk B M N) ∧ VarFB wx w.heap.size false none 0 0 none 0 0 ∧ VarI wx g9 M ∧ VarI wx g11 N ∧ Below w.heap.size w wx)
  case first =>
    obtain ⟨base, hbase0⟩ : ∃ b : Nat, Hid (b = wc.heap.size) := ⟨_, Lib.hid rfl⟩
    have hbase : base ≤ wc.heap.size := by rw [hbase0.out]; exact Nat.le_refl _
    have hbw : w.heap.size + 1 ≤ base := by have := hb1.size; have h1 := V0.lt; rw [hbase0.out]; omega
    have l_V0 : w.heap.size < base := by rw [hbase0.out]; exact V0.lt
    have l_V9 : g9 < base := by rw [hbase0.out]; exact V9.lt
    have l_V11 : g11 < base := by rw [hbase0.out]; exact V11.lt
    refine wp_tabGF Tryz.f48 11 (fP3ttT8 B M N base) [] (fun i => i == 4) 3 1 (by kernel_rfl) (by kernel_rfl) (by kernel_rfl) (by kernel_rfl) (by kernel_rfl) ⟨fun h => (by cases h), ⟨fun h => (by cases h), ⟨fun h => (by cases h), ⟨fun h => (by cases h), ⟨fun _ w v h => Sp.varF_lt h, trivial⟩⟩⟩⟩⟩ ?_ ?_
    · refine ⟨fun _ _ F => gR rfl rfl (arm_move (.inl rfl) (F.k 5 (Value.bool B))).b, ?_⟩
      refine ⟨fun _ _ F => gR rfl rfl (arm_load rfl (F.k 9 (Value.pointer (some ⟨g9, 0, none⟩))) (V9.mono F.below)).b, ?_⟩
      refine ⟨fun _ _ F => gR rfl rfl (arm_load rfl (F.k 11 (Value.pointer (some ⟨g11, 0, none⟩))) (V11.mono F.below)).b, ?_⟩
      refine ⟨fun _ _ F => gR rfl rfl (arm_buildF rfl (F.f 0 rfl) (F.f 1 rfl) (F.f 2 rfl)).b, ?_⟩
      refine ⟨fun _ _ F => gR rfl rfl (arm_allocF rfl (Nat.le_trans hbase F.below.size)), ?_⟩
      exact trivial
    intro E' hE gp wp bp G Gs
    obtain rfl : E' = [] := by simpa [subs] using hE
    obtain ⟨g12, e_4, lg_4, hv_4⟩ := G 4 12 _ (by simp) rfl
    have n_3 : (Sp.fq (Fq.mk B M N)).p wp (gp 3) := G 3 47 _ (by simp) rfl
    clear G Gs hE
    simp only [fP3ttT8]
    simp only [qA, setD, qZ, qS, e_4]
    have T0 := hv_4
    refine wpAny_storeFr (j := 5) (by kernel_rfl) rfl rfl rfl rfl rfl n_3 T0.any ?_
    intro w0 u0 v0
    have O0 := T0.own
    refine wpAny_done (by kernel_rfl) ?_ _
    go_wp2_with fail
    go_meet
    case rel => exact ⟨g12, rfl, (by omega), (by omega), (by omega), v0, ((V0.mono bp V0.lt).upd O0 u0 (by omega)), ((V9.mono bp).upd O0 u0 (by omega)), ((V11.mono bp).upd O0 u0 (by omega)), (Upd.below (hb1.trans (bp.mono hb1.size)) u0 (by omega))⟩
  case rest =>
  clear V0 V9 V11 hb1
  obtain ⟨g12, rfl, lg12, d11_0, d11_1, V12, V0, V9, V11, hb1⟩ := hcut
  go_upto_region 12 with (fail)
  go_cut [58] (fun s_58 wx => s_58 = Value.bool false ∧ VarFB wx w.heap.size false none 0 0 none 0 0 ∧ VarI wx g9 M ∧ VarI wx g11 N ∧ VarQ wx g12 (Fq.mk B M N) ∧ Below w.heap.size w wx)
  case first =>
    refine wp_tabGF Tryz.f48 12 (fP3ttT9 B M N) [] (fun _ => false) 11 0 (by kernel_rfl) (by kernel_rfl) (by kernel_rfl) (by kernel_rfl) (by kernel_rfl) (EachX.of_all (fun _ h => by cases h) _) ?_ ?_
    · refine ⟨fun _ _ F => gR rfl rfl (arm_move (.inl rfl) (F.k 8 (Value.bool true))).b, ?_⟩
      refine ⟨fun _ _ F => gR rfl rfl (arm_move (.inl rfl) (F.f 0 rfl)).b, ?_⟩
      refine ⟨fun _ _ F => gG F rfl rfl rfl rfl (arm_load rfl (F.k 11 (Value.pointer (some ⟨g11, 0, none⟩))) (V11.mono F.below)).b, ?_⟩
      refine ⟨fun _ _ F => gG F rfl rfl rfl rfl (arm_ones rfl (F.f 2 rfl)).b, ?_⟩
      refine ⟨fun _ _ F => gG F rfl rfl rfl rfl (arm_C1 rfl (enters Tryz.func74 rfl rfl) (F.f 3 rfl) (fun va w h1 => c_one1 va N w h1 bN) (fun _ _ h => by have h' : RetV _ _ _ _ := h; rw [H1.out] at h'; exact ofV h')).b, ?_⟩
      refine ⟨fun _ _ F => gR rfl rfl (arm_pick rfl (F.f 1 rfl) (fun _ => (F.f 4 rfl)) (fun h => by cases h)).b, ?_⟩
      refine ⟨fun _ _ F => gR rfl rfl (arm_move (.inl rfl) (F.f 5 rfl)).b, ?_⟩
      refine ⟨fun _ _ F => gG F rfl rfl rfl rfl (arm_loadF rfl (F.k 12 (Value.pointer (some ⟨g12, 0, none⟩))) (V12.mono F.below)).b, ?_⟩
      refine ⟨fun _ _ F => gG F rfl rfl rfl rfl (arm_C1 rfl (enters Tryz.func75 rfl rfl) (F.f 7 rfl) (fun va w h1 => q_fValid va (Fq.mk B M N) w h1 bM' bN') (fun _ _ h => by have h' : RetV _ _ _ _ := h; rw [HV.out] at h'; exact ofV h')).b, ?_⟩
      refine ⟨fun _ _ F => gG F rfl rfl rfl rfl (arm_not rfl (F.f 8 rfl)).b, ?_⟩
      refine ⟨fun _ _ F => gR rfl rfl (arm_pick rfl (F.f 6 rfl) (fun h => by cases h) (fun _ => (F.f 9 rfl))).b, ?_⟩
      exact trivial
    intro E' hE gp wp bp G Gs
    obtain rfl : E' = [] := by simpa [subs] using hE
    have e_10 : gp 10 = Value.bool false := G 10 58 _ (by simp) rfl
    clear G Gs hE
    simp only [fP3ttT9]
    simp only [qA, setD, qZ, qS, e_10]
    refine wpAny_done (by kernel_rfl) ?_ _
    go_wp2_with fail
    go_meet
    case rel => exact ⟨rfl, (V0.mono bp V0.lt), (V9.mono bp), (V11.mono bp), (V12.mono bp), (hb1.trans (bp.mono hb1.size))⟩
  case rest =>
  clear V0 V9 V11 V12 hb1
  obtain ⟨rfl, V0, V9, V11, V12, hb1⟩ := hcut
  go_upto_region 14 with (fail)
  go_cut [3] (fun s_3 wx => s_3 = Value.int IntKind.i64 0 ∧ VarQ wx w.heap.size (Fq.mk B M N) ∧ VarI wx g9 M ∧ VarI wx g11 N ∧ VarQ wx g12 (Fq.mk B M N) ∧ Below w.heap.size w wx)
  case first =>
    refine wp_tabGF Tryz.f48 14 (fP3ttT10 B M N) [] (fun _ => false) 3 2 (by kernel_rfl) (by kernel_rfl) (by kernel_rfl) (by kernel_rfl) (by kernel_rfl) (EachX.of_all (fun _ h => by cases h) _) ?_ ?_
    · refine ⟨fun _ _ F => gR rfl rfl (arm_loadF rfl (F.k 12 (Value.pointer (some ⟨g12, 0, none⟩))) (V12.mono F.below)).b, ?_⟩
      exact trivial
    intro E' hE gp wp bp G Gs
    obtain rfl : E' = [] := by simpa [subs] using hE
    have n_0 : (Sp.fq (Fq.mk B M N)).p wp (gp 0) := G 0 60 _ (by simp) rfl
    clear G Gs hE
    simp only [fP3ttT10]
    simp only [qA, setD, qZ, qS]
    have T0 := (V0.mono bp V0.lt)
    refine wpAny_storeFr (j := 1) (by kernel_rfl) rfl rfl rfl rfl rfl n_0 T0.any ?_
    intro w0 u0 v0
    have O0 := T0.own
    refine wpAny_takeD (i := 2) (d := some 3) (v := Value.int IntKind.i64 0) rfl rfl (by kernel_rfl) (by kernel_rfl) (by kernel_rfl) (fun _ _ _ h => h) (Or.inl ⟨by rfl, fun w => by rfl⟩) ?_
    try simp only [qP, qZ, qS]
    refine wpAny_done (by kernel_rfl) ?_ _
    go_wp2_with fail
    go_meet
    case rel => exact ⟨rfl, v0, ((V9.mono bp).upd O0 u0 (by omega)), ((V11.mono bp).upd O0 u0 (by omega)), ((V12.mono bp).upd O0 u0 (by omega)), (Upd.below (hb1.trans (bp.mono hb1.size)) u0 (by omega))⟩
  case rest =>
  clear V0 V9 V11 V12 hb1
  obtain ⟨rfl, V0, V9, V11, V12, hb1⟩ := hcut
  obtain ⟨r1, r2, r3, r4, rV, rn, rm⟩ := V0
  have c0 := rV.cell0
  have c1 := rV.cell1
  have c2 := rV.cell2
  go_wp2
  exact bodyPost_ret (res_FE rfl rfl rfl rV) rfl ⟨_, rfl, ⟨r1, r2, r3, r4, rfl, rn, rm⟩, hb1⟩
def fP3tfT0 (s : ByteArray) (t : ByteArray) (B : Bool) : List (Nat × Tmp × Sp) :=
   [(0, 14, .val (Value.string s)),
    (1, 15, .pair (.val (Value.string t)) (.val (Value.bool B))),
    (2, 13, .pair (.val (Value.string t)) (.val (Value.bool B))),
    (3, 16, .val (Value.string t)),
    (4, 17, .val (Value.bool B)),
    (5, 4, .val (Value.string t)),
    (6, 5, .val (Value.bool B))]
def fP3tfT1 (t : ByteArray) (a : ByteArray) (b : ByteArray) : List (Nat × Tmp × Sp) :=
   [(0, 19, .val (Value.string t)),
    (1, 20, .trip (.val (Value.string a)) (.val (Value.string b)) (.val (Value.bool false))),
    (2, 18, .trip (.val (Value.string a)) (.val (Value.string b)) (.val (Value.bool false))),
    (3, 21, .val (Value.string a)),
    (4, 22, .val (Value.string b)),
    (5, 23, .val (Value.bool false)),
    (6, 6, .val (Value.string a)),
    (7, 7, .val (Value.string b)),
    (8, 8, .val (Value.bool false))]
def fP3tfT2 (a : ByteArray) (M : Nat) (base : Nat) : List (Nat × Tmp × Sp) :=
   [(0, 25, .val (Value.string a)),
    (1, 26, .pair (.nat (M)) (.val (Value.int IntKind.i64 0))),
    (2, 24, .pair (.nat (M)) (.val (Value.int IntKind.i64 0))),
    (3, 27, .nat (M)),
    (4, 28, .val (Value.int IntKind.i64 0)),
    (5, 9, .var base)]
def fP3tfT3  : List (Nat × Tmp × Sp) :=
   [(0, 29, .val (Value.int IntKind.i64 0)),
    (1, 30, .val (Value.bool false))]
def fP3tfT4 (base : Nat) : List (Nat × Tmp × Sp) :=
   [(0, 33, .nat (1)),
    (1, 11, .var base)]
def fP3tfT5  : List (Nat × Tmp × Sp) :=
   [(0, 34, .val (Value.bool false))]
def fP3tfT6 (B : Bool) (M : Nat) (base : Nat) : List (Nat × Tmp × Sp) :=
   [(0, 44, .val (Value.bool B)),
    (1, 45, .nat (M)),
    (2, 46, .nat (1)),
    (3, 47, .fq (Fq.mk B M 1)),
    (4, 12, .varF base)]
def fP3tfT7 (B : Bool) (M : Nat) : List (Nat × Tmp × Sp) :=
   [(0, 48, .val (Value.bool false)),
    (1, 49, .val (Value.bool false)),
    (2, 50, .val undef),
    (3, 51, .val undef),
    (4, 52, .val undef),
    (5, 53, .val (Value.bool false)),
    (6, 54, .val (Value.bool false)),
    (7, 55, .fq (Fq.mk B M 1)),
    (8, 56, .val (Value.bool true)),
    (9, 57, .val (Value.bool false)),
    (10, 58, .val (Value.bool false))]
def fP3tfT8 (B : Bool) (M : Nat) : List (Nat × Tmp × Sp) :=
   [(0, 60, .fq (Fq.mk B M 1))]
set_option maxHeartbeats 4000000 in
theorem fP_good_false (s t a b : ByteArray) (B : Bool) (M : Nat) (w : World) (HP : Pieces s t B false a b) (hs : s.size ≤ 4294967280) (ha : ParseIs a M 0) (hv : parseV B false M 1 = true) :
    Calls Tryz.prog 48 #[.string s] w fun e w' => RetQE w ⟨B, M, 1⟩ 0 e w' := by
  have hts : t.size ≤ 4294967280 := Nat.le_trans (pieces_size HP) hs
  have bM : nl M ≤ 1000000000000 := Nat.le_trans (parse_nlU ha) (by decide)
  have bM' : nl M ≤ 1000000 := Nat.le_trans (parse_nlU ha) (by decide)
  have HV : Hid ((Fq.mk B M 1).valid = true) := Lib.hid hv
  clear hv
  obtain ⟨m0, k0⟩ := resF (w := w)
  go_enter Tryz.func48, Tryz.ntmps48
  go_upto_region 0 with (fail)
  go_cut [2, 3] (fun s_2 s_3 wx => s_2 = Value.pointer (some ⟨w.heap.size, 0, none⟩) ∧ s_3 = Value.int IntKind.i64 0 ∧ VarFB wx w.heap.size false none 0 0 none 0 0 ∧ Below w.heap.size w wx)
  case first =>
    go_wp2_with fail
    go_meet
    case rel => exact ⟨rfl, rfl, k0, m0⟩
  case rest =>
  clear m0 k0
  obtain ⟨rfl, rfl, V0, hb1⟩ := hcut
  go_upto_region 1 with (fail)
  go_cut [4, 5] (fun s_4 s_5 wx => s_4 = Value.string t ∧ s_5 = Value.bool B ∧ VarFB wx w.heap.size false none 0 0 none 0 0 ∧ Below w.heap.size w wx)
  case first =>
    refine wp_tabGF Tryz.f48 1 (fP3tfT0 s t B) [] (fun _ => false) 6 0 (by kernel_rfl) (by kernel_rfl) (by kernel_rfl) (by kernel_rfl) (by kernel_rfl) (EachX.of_all (fun _ h => by cases h) _) ?_ ?_
    · refine ⟨fun _ _ F => gR rfl rfl (arm_move (.inl rfl) (F.k 0 (Value.string s))).b, ?_⟩
      refine ⟨fun _ _ F => gR rfl rfl (arm_C2 rfl (enters Tryz.func71 rfl rfl) (F.f 0 rfl) Is.const (fun va vb w h1 h2 => by have e_va : va = _ := h1; subst e_va; have e_vb : vb = _ := h2; subst e_vb; exact c_CutPrefix _ _ _ w HP.sign HP.rest) (fun _ _ h => ofPair h)).b, ?_⟩
      refine ⟨fun _ _ F => gR rfl rfl (arm_move (.inl rfl) (F.f 1 rfl)).b, ?_⟩
      refine ⟨fun _ _ F => gR rfl rfl (arm_pair0 rfl (F.f 2 rfl)).b, ?_⟩
      refine ⟨fun _ _ F => gR rfl rfl (arm_pair1 rfl (F.f 2 rfl)).b, ?_⟩
      refine ⟨fun _ _ F => gR rfl rfl (arm_move (.inr rfl) (F.f 3 rfl)).b, ?_⟩
      refine ⟨fun _ _ F => gR rfl rfl (arm_move (.inr rfl) (F.f 4 rfl)).b, ?_⟩
      exact trivial
    intro E' hE gp wp bp G Gs
    obtain rfl : E' = [] := by simpa [subs] using hE
    have e_5 : gp 5 = Value.string t := G 5 4 _ (by simp) rfl
    have e_6 : gp 6 = Value.bool B := G 6 5 _ (by simp) rfl
    clear G Gs hE
    simp only [fP3tfT0]
    simp only [qA, setD, qZ, qS, e_5, e_6]
    refine wpAny_done (by kernel_rfl) ?_ _
    go_wp2_with fail
    go_meet
    case rel => exact ⟨rfl, rfl, (V0.mono bp V0.lt), (hb1.trans (bp.mono hb1.size))⟩
  case rest =>
  clear V0 hb1
  obtain ⟨rfl, rfl, V0, hb1⟩ := hcut
  go_upto_region 2 with (fail)
  go_cut [6, 7, 8] (fun s_6 s_7 s_8 wx => s_6 = Value.string a ∧ s_7 = Value.string b ∧ s_8 = Value.bool false ∧ VarFB wx w.heap.size false none 0 0 none 0 0 ∧ Below w.heap.size w wx)
  case first =>
    refine wp_tabGF Tryz.f48 2 (fP3tfT1 t a b) [] (fun _ => false) 7 0 (by kernel_rfl) (by kernel_rfl) (by kernel_rfl) (by kernel_rfl) (by kernel_rfl) (EachX.of_all (fun _ h => by cases h) _) ?_ ?_
    · refine ⟨fun _ _ F => gR rfl rfl (arm_move (.inl rfl) (F.k 4 (Value.string t))).b, ?_⟩
      refine ⟨fun _ _ F => gR rfl rfl (arm_C2 rfl (enters Tryz.func72 rfl rfl) (F.f 0 rfl) Is.const (fun va vb w h1 h2 => by have e_va : va = _ := h1; subst e_va; have e_vb : vb = _ := h2; subst e_vb; exact cut_piece HP w hts) (fun _ _ h => ofTrip h)).b, ?_⟩
      refine ⟨fun _ _ F => gR rfl rfl (arm_move (.inl rfl) (F.f 1 rfl)).b, ?_⟩
      refine ⟨fun _ _ F => gR rfl rfl (arm_trip0 rfl (F.f 2 rfl)).b, ?_⟩
      refine ⟨fun _ _ F => gR rfl rfl (arm_trip1 rfl (F.f 2 rfl)).b, ?_⟩
      refine ⟨fun _ _ F => gR rfl rfl (arm_trip2 rfl (F.f 2 rfl)).b, ?_⟩
      refine ⟨fun _ _ F => gR rfl rfl (arm_move (.inr rfl) (F.f 3 rfl)).b, ?_⟩
      refine ⟨fun _ _ F => gR rfl rfl (arm_move (.inr rfl) (F.f 4 rfl)).b, ?_⟩
      refine ⟨fun _ _ F => gR rfl rfl (arm_move (.inr rfl) (F.f 5 rfl)).b, ?_⟩
      exact trivial
    intro E' hE gp wp bp G Gs
    obtain rfl : E' = [] := by simpa [subs] using hE
    have e_6 : gp 6 = Value.string a := G 6 6 _ (by simp) rfl
    have e_7 : gp 7 = Value.string b := G 7 7 _ (by simp) rfl
    have e_8 : gp 8 = Value.bool false := G 8 8 _ (by simp) rfl
    clear G Gs hE
    simp only [fP3tfT1]
    simp only [qA, setD, qZ, qS, e_6, e_7, e_8]
    refine wpAny_done (by kernel_rfl) ?_ _
    go_wp2_with fail
    go_meet
    case rel => exact ⟨rfl, rfl, rfl, (V0.mono bp V0.lt), (hb1.trans (bp.mono hb1.size))⟩
  case rest =>
  clear V0 hb1
  obtain ⟨rfl, rfl, rfl, V0, hb1⟩ := hcut
  go_upto_region 3 with (fail)
  go_cut [9, 10] (fun s_9 s_10 wx => ∃ g9, s_9 = Value.pointer (some ⟨g9, 0, none⟩) ∧ s_10 = Value.int IntKind.i64 0 ∧ w.heap.size + 1 ≤ g9 ∧ VarI wx g9 M ∧ VarFB wx w.heap.size false none 0 0 none 0 0 ∧ Below w.heap.size w wx)
  case first =>
    obtain ⟨base, hbase0⟩ : ∃ b : Nat, Hid (b = wc.heap.size) := ⟨_, Lib.hid rfl⟩
    have hbase : base ≤ wc.heap.size := by rw [hbase0.out]; exact Nat.le_refl _
    have hbw : w.heap.size + 1 ≤ base := by have := hb1.size; have h1 := V0.lt; rw [hbase0.out]; omega
    have l_V0 : w.heap.size < base := by rw [hbase0.out]; exact V0.lt
    refine wp_tabGF Tryz.f48 3 (fP3tfT2 a M base) [4] (fun i => i == 5) 6 2 (by kernel_rfl) (by kernel_rfl) (by kernel_rfl) (by kernel_rfl) (by kernel_rfl) ⟨fun h => (by cases h), ⟨fun h => (by cases h), ⟨fun h => (by cases h), ⟨fun h => (by cases h), ⟨fun h => (by cases h), ⟨fun _ w v h => Sp.var_lt h, trivial⟩⟩⟩⟩⟩⟩ ?_ ?_
    · refine ⟨fun _ _ F => gR rfl rfl (arm_move (.inl rfl) (F.k 6 (Value.string a))).b, ?_⟩
      refine ⟨fun _ _ F => gR rfl rfl (arm_C1 rfl (enters Tryz.func73 rfl rfl) (F.f 0 rfl) (fun va w h1 => by have e_va : va = _ := h1; subst e_va; exact c_natural_Parse a w _ _ ha) (fun _ _ h => ofP h)).b, ?_⟩
      refine ⟨fun _ _ F => gR rfl rfl (arm_move (.inl rfl) (F.f 1 rfl)).b, ?_⟩
      refine ⟨fun _ _ F => gR rfl rfl (arm_pair0 rfl (F.f 2 rfl)).b, ?_⟩
      refine ⟨fun _ _ F => gR rfl rfl (arm_pair1 rfl (F.f 2 rfl)).b, ?_⟩
      refine ⟨fun _ _ F => gR rfl rfl (arm_alloc rfl (Nat.le_trans hbase F.below.size)), ?_⟩
      exact trivial
    intro E' hE gp wp bp G Gs
    simp only [subs, List.map_cons, List.map_nil, List.nil_append, List.cons_append, List.mem_cons, List.not_mem_nil, or_false, List.append_nil] at hE
    rcases hE with rfl | rfl
    · obtain ⟨g9, e_5, lg_5, hv_5⟩ := G 5 9 _ (by simp) rfl
      have n_3 : (Sp.nat (M)).p wp (gp 3) := G 3 27 _ (by simp) rfl
      have e_4 : gp 4 = Value.int IntKind.i64 0 := G 4 28 _ (by simp) rfl
      clear G Gs
      simp only [fP3tfT2]
      simp only [qA, setD, qZ, qS, e_5, e_4]
      have T0 := hv_5
      refine wpAny_storeN (j := 6) (by kernel_rfl) rfl rfl rfl rfl rfl n_3 T0.any ?_
      intro w0 u0 v0
      have O0 := T0.own
      refine wpAny_takeD (i := 7) (d := some 10) (v := Value.int IntKind.i64 0) rfl rfl (by kernel_rfl) (by kernel_rfl) (by kernel_rfl) (fun _ _ _ h => h) (Or.inl ⟨by rfl, fun w => by rfl⟩) ?_
      try simp only [qP, qZ, qS]
      refine wpAny_done (by kernel_rfl) ?_ _
      go_wp2_with fail
      go_meet
      case rel => exact ⟨g9, rfl, rfl, (by omega), v0, ((V0.mono bp V0.lt).upd O0 u0 (by omega)), (Upd.below (hb1.trans (bp.mono hb1.size)) u0 (by omega))⟩
    · obtain ⟨g9, e_5, lg_5, hv_5⟩ := G 5 9 _ (by simp) rfl
      obtain ⟨x_2_0, x_2_1, e_2, n_2_0, rfl⟩ := G 2 24 _ (by simp) rfl
      have n_3 : (Sp.nat (M)).p wp (gp 3) := G 3 27 _ (by simp) rfl
      clear G Gs
      simp only [fP3tfT2]
      simp only [qA, setD, qZ, qS, e_5, e_2]
      refine wpAny_takeD (i := 4) (d := some 28) (v := Value.int IntKind.i64 0) rfl rfl (by kernel_rfl) (by kernel_rfl) (by kernel_rfl) (fun _ _ _ h => h) (Or.inl ⟨by rfl, fun w => by rfl⟩) ?_
      try simp only [qP, qZ, qS]
      have T0 := hv_5
      refine wpAny_storeN (j := 6) (by kernel_rfl) rfl rfl rfl rfl rfl n_3 T0.any ?_
      intro w0 u0 v0
      have O0 := T0.own
      refine wpAny_takeD (i := 7) (d := some 10) (v := Value.int IntKind.i64 0) rfl rfl (by kernel_rfl) (by kernel_rfl) (by kernel_rfl) (fun _ _ _ h => h) (Or.inl ⟨by rfl, fun w => by rfl⟩) ?_
      try simp only [qP, qZ, qS]
      refine wpAny_done (by kernel_rfl) ?_ _
      go_wp2_with fail
      go_meet
      case rel => exact ⟨g9, rfl, rfl, (by omega), v0, ((V0.mono bp V0.lt).upd O0 u0 (by omega)), (Upd.below (hb1.trans (bp.mono hb1.size)) u0 (by omega))⟩
  case rest =>
  clear V0 hb1
  obtain ⟨g9, rfl, rfl, lg9, V9, V0, hb1⟩ := hcut
  go_upto_region 4 with (fail)
  go_cut [30] (fun s_30 wx => s_30 = Value.bool false ∧ VarFB wx w.heap.size false none 0 0 none 0 0 ∧ VarI wx g9 M ∧ Below w.heap.size w wx)
  case first =>
    refine wp_tabGF Tryz.f48 4 (fP3tfT3 ) [] (fun _ => false) 2 0 (by kernel_rfl) (by kernel_rfl) (by kernel_rfl) (by kernel_rfl) (by kernel_rfl) (EachX.of_all (fun _ h => by cases h) _) ?_ ?_
    · refine ⟨fun _ _ F => gR rfl rfl (arm_move (.inl rfl) (F.k 10 (Value.int IntKind.i64 0))).b, ?_⟩
      refine ⟨fun _ _ F => gR rfl rfl (arm_bin rfl (F.f 0 rfl) Is.const (fun _ => rfl) (fun _ => rfl)).b, ?_⟩
      exact trivial
    intro E' hE gp wp bp G Gs
    obtain rfl : E' = [] := by simpa [subs] using hE
    have e_1 : gp 1 = Value.bool false := G 1 30 _ (by simp) rfl
    clear G Gs hE
    simp only [fP3tfT3]
    simp only [qA, setD, qZ, qS, e_1]
    refine wpAny_done (by kernel_rfl) ?_ _
    go_wp2_with fail
    go_meet
    case rel => exact ⟨rfl, (V0.mono bp V0.lt), (V9.mono bp), (hb1.trans (bp.mono hb1.size))⟩
  case rest =>
  clear V0 V9 hb1
  obtain ⟨rfl, V0, V9, hb1⟩ := hcut
  go_upto_region 6 with (fail)
  go_cut [11] (fun s_11 wx => ∃ g11, s_11 = Value.pointer (some ⟨g11, 0, none⟩) ∧ w.heap.size + 1 ≤ g11 ∧ g9 < g11 ∧ VarI wx g11 1 ∧ VarFB wx w.heap.size false none 0 0 none 0 0 ∧ VarI wx g9 M ∧ Below w.heap.size w wx)
  case first =>
    obtain ⟨base, hbase0⟩ : ∃ b : Nat, Hid (b = wc.heap.size) := ⟨_, Lib.hid rfl⟩
    have hbase : base ≤ wc.heap.size := by rw [hbase0.out]; exact Nat.le_refl _
    have hbw : w.heap.size + 1 ≤ base := by have := hb1.size; have h1 := V0.lt; rw [hbase0.out]; omega
    have l_V0 : w.heap.size < base := by rw [hbase0.out]; exact V0.lt
    have l_V9 : g9 < base := by rw [hbase0.out]; exact V9.lt
    refine wp_tabGF Tryz.f48 6 (fP3tfT4 base) [] (fun i => i == 1) 2 1 (by kernel_rfl) (by kernel_rfl) (by kernel_rfl) (by kernel_rfl) (by kernel_rfl) ⟨fun h => (by cases h), ⟨fun _ w v h => Sp.var_lt h, trivial⟩⟩ ?_ ?_
    · refine ⟨fun _ _ F => gR rfl rfl (arm_C1 rfl (enters Tryz.func66 rfl rfl) Is.const (fun va w h1 => by have e_va : va = _ := h1; subst e_va; exact c_natural_Of 1 w (by decide)) (fun _ _ h => ofNew h)).b, ?_⟩
      refine ⟨fun _ _ F => gR rfl rfl (arm_alloc rfl (Nat.le_trans hbase F.below.size)), ?_⟩
      exact trivial
    intro E' hE gp wp bp G Gs
    obtain rfl : E' = [] := by simpa [subs] using hE
    obtain ⟨g11, e_1, lg_1, hv_1⟩ := G 1 11 _ (by simp) rfl
    have n_0 : (Sp.nat (1)).p wp (gp 0) := G 0 33 _ (by simp) rfl
    clear G Gs hE
    simp only [fP3tfT4]
    simp only [qA, setD, qZ, qS, e_1]
    have T0 := hv_1
    refine wpAny_storeN (j := 2) (by kernel_rfl) rfl rfl rfl rfl rfl n_0 T0.any ?_
    intro w0 u0 v0
    have O0 := T0.own
    refine wpAny_done (by kernel_rfl) ?_ _
    go_wp2_with fail
    go_meet
    case rel => exact ⟨g11, rfl, (by omega), (by omega), v0, ((V0.mono bp V0.lt).upd O0 u0 (by omega)), ((V9.mono bp).upd O0 u0 (by omega)), (Upd.below (hb1.trans (bp.mono hb1.size)) u0 (by omega))⟩
  case rest =>
  clear V0 V9 hb1
  obtain ⟨g11, rfl, lg11, d6_0, V11, V0, V9, hb1⟩ := hcut
  go_upto_region 7 with (fail)
  go_cut [34] (fun s_34 wx => s_34 = Value.bool false ∧ VarFB wx w.heap.size false none 0 0 none 0 0 ∧ VarI wx g9 M ∧ VarI wx g11 1 ∧ Below w.heap.size w wx)
  case first =>
    refine wp_tabGF Tryz.f48 7 (fP3tfT5 ) [] (fun _ => false) 2 0 (by kernel_rfl) (by kernel_rfl) (by kernel_rfl) (by kernel_rfl) (by kernel_rfl) (EachX.of_all (fun _ h => by cases h) _) ?_ ?_
    · refine ⟨fun _ _ F => gR rfl rfl (arm_move (.inl rfl) (F.k 8 (Value.bool false))).b, ?_⟩
      exact trivial
    intro E' hE gp wp bp G Gs
    obtain rfl : E' = [] := by simpa [subs] using hE
    have e_0 : gp 0 = Value.bool false := G 0 34 _ (by simp) rfl
    clear G Gs hE
    simp only [fP3tfT5]
    simp only [qA, setD, qZ, qS, e_0]
    refine wpAny_done (by kernel_rfl) ?_ _
    go_wp2_with fail
    go_meet
    case rel => exact ⟨rfl, (V0.mono bp V0.lt), (V9.mono bp), (V11.mono bp), (hb1.trans (bp.mono hb1.size))⟩
  case rest =>
  clear V0 V9 V11 hb1
  obtain ⟨rfl, V0, V9, V11, hb1⟩ := hcut
  go_upto_region 11 with (fail)
  go_cut [12] (fun s_12 wx => ∃ g12, s_12 = Value.pointer (some ⟨g12, 0, none⟩) ∧ w.heap.size + 1 ≤ g12 ∧ g9 < g12 ∧ g11 < g12 ∧ VarQ wx g12 (Fq.mk B M 1) ∧ VarFB wx w.heap.size false none 0 0 none 0 0 ∧ VarI wx g9 M ∧ VarI wx g11 1 ∧ Below w.heap.size w wx)
  case first =>
    obtain ⟨base, hbase0⟩ : ∃ b : Nat, Hid (b = wc.heap.size) := ⟨_, Lib.hid rfl⟩
    have hbase : base ≤ wc.heap.size := by rw [hbase0.out]; exact Nat.le_refl _
    have hbw : w.heap.size + 1 ≤ base := by have := hb1.size; have h1 := V0.lt; rw [hbase0.out]; omega
    have l_V0 : w.heap.size < base := by rw [hbase0.out]; exact V0.lt
    have l_V9 : g9 < base := by rw [hbase0.out]; exact V9.lt
    have l_V11 : g11 < base := by rw [hbase0.out]; exact V11.lt
    refine wp_tabGF Tryz.f48 11 (fP3tfT6 B M base) [] (fun i => i == 4) 3 1 (by kernel_rfl) (by kernel_rfl) (by kernel_rfl) (by kernel_rfl) (by kernel_rfl) ⟨fun h => (by cases h), ⟨fun h => (by cases h), ⟨fun h => (by cases h), ⟨fun h => (by cases h), ⟨fun _ w v h => Sp.varF_lt h, trivial⟩⟩⟩⟩⟩ ?_ ?_
    · refine ⟨fun _ _ F => gR rfl rfl (arm_move (.inl rfl) (F.k 5 (Value.bool B))).b, ?_⟩
      refine ⟨fun _ _ F => gR rfl rfl (arm_load rfl (F.k 9 (Value.pointer (some ⟨g9, 0, none⟩))) (V9.mono F.below)).b, ?_⟩
      refine ⟨fun _ _ F => gR rfl rfl (arm_load rfl (F.k 11 (Value.pointer (some ⟨g11, 0, none⟩))) (V11.mono F.below)).b, ?_⟩
      refine ⟨fun _ _ F => gR rfl rfl (arm_buildF rfl (F.f 0 rfl) (F.f 1 rfl) (F.f 2 rfl)).b, ?_⟩
      refine ⟨fun _ _ F => gR rfl rfl (arm_allocF rfl (Nat.le_trans hbase F.below.size)), ?_⟩
      exact trivial
    intro E' hE gp wp bp G Gs
    obtain rfl : E' = [] := by simpa [subs] using hE
    obtain ⟨g12, e_4, lg_4, hv_4⟩ := G 4 12 _ (by simp) rfl
    have n_3 : (Sp.fq (Fq.mk B M 1)).p wp (gp 3) := G 3 47 _ (by simp) rfl
    clear G Gs hE
    simp only [fP3tfT6]
    simp only [qA, setD, qZ, qS, e_4]
    have T0 := hv_4
    refine wpAny_storeFr (j := 5) (by kernel_rfl) rfl rfl rfl rfl rfl n_3 T0.any ?_
    intro w0 u0 v0
    have O0 := T0.own
    refine wpAny_done (by kernel_rfl) ?_ _
    go_wp2_with fail
    go_meet
    case rel => exact ⟨g12, rfl, (by omega), (by omega), (by omega), v0, ((V0.mono bp V0.lt).upd O0 u0 (by omega)), ((V9.mono bp).upd O0 u0 (by omega)), ((V11.mono bp).upd O0 u0 (by omega)), (Upd.below (hb1.trans (bp.mono hb1.size)) u0 (by omega))⟩
  case rest =>
  clear V0 V9 V11 hb1
  obtain ⟨g12, rfl, lg12, d11_0, d11_1, V12, V0, V9, V11, hb1⟩ := hcut
  go_upto_region 12 with (fail)
  go_cut [58] (fun s_58 wx => s_58 = Value.bool false ∧ VarFB wx w.heap.size false none 0 0 none 0 0 ∧ VarI wx g9 M ∧ VarI wx g11 1 ∧ VarQ wx g12 (Fq.mk B M 1) ∧ Below w.heap.size w wx)
  case first =>
    refine wp_tabGF Tryz.f48 12 (fP3tfT7 B M) [] (fun _ => false) 11 0 (by kernel_rfl) (by kernel_rfl) (by kernel_rfl) (by kernel_rfl) (by kernel_rfl) (EachX.of_all (fun _ h => by cases h) _) ?_ ?_
    · refine ⟨fun _ _ F => gR rfl rfl (arm_move (.inl rfl) (F.k 8 (Value.bool false))).b, ?_⟩
      refine ⟨fun _ _ F => gR rfl rfl (arm_move (.inl rfl) (F.f 0 rfl)).b, ?_⟩
      refine ⟨fun _ _ F => gS F rfl rfl rfl rfl rfl rfl, ?_⟩
      refine ⟨fun _ _ F => gS F rfl rfl rfl rfl rfl rfl, ?_⟩
      refine ⟨fun _ _ F => gS F rfl rfl rfl rfl rfl rfl, ?_⟩
      refine ⟨fun _ _ F => gR rfl rfl (arm_pick rfl (F.f 1 rfl) (fun h => by cases h) (fun _ => Is.const)).b, ?_⟩
      refine ⟨fun _ _ F => gR rfl rfl (arm_move (.inl rfl) (F.f 5 rfl)).b, ?_⟩
      refine ⟨fun _ _ F => gG F rfl rfl rfl rfl (arm_loadF rfl (F.k 12 (Value.pointer (some ⟨g12, 0, none⟩))) (V12.mono F.below)).b, ?_⟩
      refine ⟨fun _ _ F => gG F rfl rfl rfl rfl (arm_C1 rfl (enters Tryz.func75 rfl rfl) (F.f 7 rfl) (fun va w h1 => q_fValid va (Fq.mk B M 1) w h1 bM' (show nl 1 ≤ 1000000 by decide)) (fun _ _ h => by have h' : RetV _ _ _ _ := h; rw [HV.out] at h'; exact ofV h')).b, ?_⟩
      refine ⟨fun _ _ F => gG F rfl rfl rfl rfl (arm_not rfl (F.f 8 rfl)).b, ?_⟩
      refine ⟨fun _ _ F => gR rfl rfl (arm_pick rfl (F.f 6 rfl) (fun h => by cases h) (fun _ => (F.f 9 rfl))).b, ?_⟩
      exact trivial
    intro E' hE gp wp bp G Gs
    obtain rfl : E' = [] := by simpa [subs] using hE
    have e_10 : gp 10 = Value.bool false := G 10 58 _ (by simp) rfl
    clear G Gs hE
    simp only [fP3tfT7]
    simp only [qA, setD, qZ, qS, e_10]
    refine wpAny_done (by kernel_rfl) ?_ _
    go_wp2_with fail
    go_meet
    case rel => exact ⟨rfl, (V0.mono bp V0.lt), (V9.mono bp), (V11.mono bp), (V12.mono bp), (hb1.trans (bp.mono hb1.size))⟩
  case rest =>
  clear V0 V9 V11 V12 hb1
  obtain ⟨rfl, V0, V9, V11, V12, hb1⟩ := hcut
  go_upto_region 14 with (fail)
  go_cut [3] (fun s_3 wx => s_3 = Value.int IntKind.i64 0 ∧ VarQ wx w.heap.size (Fq.mk B M 1) ∧ VarI wx g9 M ∧ VarI wx g11 1 ∧ VarQ wx g12 (Fq.mk B M 1) ∧ Below w.heap.size w wx)
  case first =>
    refine wp_tabGF Tryz.f48 14 (fP3tfT8 B M) [] (fun _ => false) 3 2 (by kernel_rfl) (by kernel_rfl) (by kernel_rfl) (by kernel_rfl) (by kernel_rfl) (EachX.of_all (fun _ h => by cases h) _) ?_ ?_
    · refine ⟨fun _ _ F => gR rfl rfl (arm_loadF rfl (F.k 12 (Value.pointer (some ⟨g12, 0, none⟩))) (V12.mono F.below)).b, ?_⟩
      exact trivial
    intro E' hE gp wp bp G Gs
    obtain rfl : E' = [] := by simpa [subs] using hE
    have n_0 : (Sp.fq (Fq.mk B M 1)).p wp (gp 0) := G 0 60 _ (by simp) rfl
    clear G Gs hE
    simp only [fP3tfT8]
    simp only [qA, setD, qZ, qS]
    have T0 := (V0.mono bp V0.lt)
    refine wpAny_storeFr (j := 1) (by kernel_rfl) rfl rfl rfl rfl rfl n_0 T0.any ?_
    intro w0 u0 v0
    have O0 := T0.own
    refine wpAny_takeD (i := 2) (d := some 3) (v := Value.int IntKind.i64 0) rfl rfl (by kernel_rfl) (by kernel_rfl) (by kernel_rfl) (fun _ _ _ h => h) (Or.inl ⟨by rfl, fun w => by rfl⟩) ?_
    try simp only [qP, qZ, qS]
    refine wpAny_done (by kernel_rfl) ?_ _
    go_wp2_with fail
    go_meet
    case rel => exact ⟨rfl, v0, ((V9.mono bp).upd O0 u0 (by omega)), ((V11.mono bp).upd O0 u0 (by omega)), ((V12.mono bp).upd O0 u0 (by omega)), (Upd.below (hb1.trans (bp.mono hb1.size)) u0 (by omega))⟩
  case rest =>
  clear V0 V9 V11 V12 hb1
  obtain ⟨rfl, V0, V9, V11, V12, hb1⟩ := hcut
  obtain ⟨r1, r2, r3, r4, rV, rn, rm⟩ := V0
  have c0 := rV.cell0
  have c1 := rV.cell1
  have c2 := rV.cell2
  go_wp2
  exact bodyPost_ret (res_FE rfl rfl rfl rV) rfl ⟨_, rfl, ⟨r1, r2, r3, r4, rfl, rn, rm⟩, hb1⟩
def fP3ftT0 (s : ByteArray) (t : ByteArray) (B : Bool) : List (Nat × Tmp × Sp) :=
   [(0, 14, .val (Value.string s)),
    (1, 15, .pair (.val (Value.string t)) (.val (Value.bool B))),
    (2, 13, .pair (.val (Value.string t)) (.val (Value.bool B))),
    (3, 16, .val (Value.string t)),
    (4, 17, .val (Value.bool B)),
    (5, 4, .val (Value.string t)),
    (6, 5, .val (Value.bool B))]
def fP3ftT1 (t : ByteArray) (a : ByteArray) (b : ByteArray) : List (Nat × Tmp × Sp) :=
   [(0, 19, .val (Value.string t)),
    (1, 20, .trip (.val (Value.string a)) (.val (Value.string b)) (.val (Value.bool true))),
    (2, 18, .trip (.val (Value.string a)) (.val (Value.string b)) (.val (Value.bool true))),
    (3, 21, .val (Value.string a)),
    (4, 22, .val (Value.string b)),
    (5, 23, .val (Value.bool true)),
    (6, 6, .val (Value.string a)),
    (7, 7, .val (Value.string b)),
    (8, 8, .val (Value.bool true))]
def fP3ftT2 (a : ByteArray) (M : Nat) (base : Nat) : List (Nat × Tmp × Sp) :=
   [(0, 25, .val (Value.string a)),
    (1, 26, .pair (.nat (M)) (.val (Value.int IntKind.i64 0))),
    (2, 24, .pair (.nat (M)) (.val (Value.int IntKind.i64 0))),
    (3, 27, .nat (M)),
    (4, 28, .val (Value.int IntKind.i64 0)),
    (5, 9, .var base)]
def fP3ftT3  : List (Nat × Tmp × Sp) :=
   [(0, 29, .val (Value.int IntKind.i64 0)),
    (1, 30, .val (Value.bool false))]
def fP3ftT4 (base : Nat) : List (Nat × Tmp × Sp) :=
   [(0, 33, .nat (1)),
    (1, 11, .var base)]
def fP3ftT5  : List (Nat × Tmp × Sp) :=
   [(0, 34, .val (Value.bool true))]
def fP3ftT6 (b : ByteArray) (N : Nat) : List (Nat × Tmp × Sp) :=
   [(0, 36, .val (Value.string b)),
    (1, 37, .pair (.nat (N)) (.val (Value.int IntKind.i64 0))),
    (2, 35, .pair (.nat (N)) (.val (Value.int IntKind.i64 0))),
    (3, 38, .nat (N)),
    (4, 39, .val (Value.int IntKind.i64 0))]
def fP3ftT7  : List (Nat × Tmp × Sp) :=
   [(0, 40, .val (Value.int IntKind.i64 0)),
    (1, 41, .val (Value.bool false))]
def fP3ftT8 (B : Bool) (M : Nat) (N : Nat) (base : Nat) : List (Nat × Tmp × Sp) :=
   [(0, 44, .val (Value.bool B)),
    (1, 45, .nat (M)),
    (2, 46, .nat (N)),
    (3, 47, .fq (Fq.mk B M N)),
    (4, 12, .varF base)]
def fP3ftT9 (N : Nat) : List (Nat × Tmp × Sp) :=
   [(0, 48, .val (Value.bool true)),
    (1, 49, .val (Value.bool true)),
    (2, 50, .nat (N)),
    (3, 51, .ones N),
    (4, 52, .val (Value.bool true)),
    (5, 53, .val (Value.bool true)),
    (6, 54, .val (Value.bool true)),
    (7, 55, .val undef),
    (8, 56, .val undef),
    (9, 57, .val undef),
    (10, 58, .val (Value.bool true))]
def fP3ftT10  : List (Nat × Tmp × Sp) :=
   [(0, 59, .fq Fq.zero)]
def fP3ftT11 (s : ByteArray) (t : ByteArray) (B : Bool) : List (Nat × Tmp × Sp) :=
   [(0, 14, .val (Value.string s)),
    (1, 15, .pair (.val (Value.string t)) (.val (Value.bool B))),
    (2, 13, .pair (.val (Value.string t)) (.val (Value.bool B))),
    (3, 16, .val (Value.string t)),
    (4, 17, .val (Value.bool B)),
    (5, 4, .val (Value.string t)),
    (6, 5, .val (Value.bool B))]
def fP3ftT12 (t : ByteArray) (a : ByteArray) (b : ByteArray) : List (Nat × Tmp × Sp) :=
   [(0, 19, .val (Value.string t)),
    (1, 20, .trip (.val (Value.string a)) (.val (Value.string b)) (.val (Value.bool true))),
    (2, 18, .trip (.val (Value.string a)) (.val (Value.string b)) (.val (Value.bool true))),
    (3, 21, .val (Value.string a)),
    (4, 22, .val (Value.string b)),
    (5, 23, .val (Value.bool true)),
    (6, 6, .val (Value.string a)),
    (7, 7, .val (Value.string b)),
    (8, 8, .val (Value.bool true))]
def fP3ftT13 (a : ByteArray) (M : Nat) (base : Nat) : List (Nat × Tmp × Sp) :=
   [(0, 25, .val (Value.string a)),
    (1, 26, .pair (.nat (M)) (.val (Value.int IntKind.i64 0))),
    (2, 24, .pair (.nat (M)) (.val (Value.int IntKind.i64 0))),
    (3, 27, .nat (M)),
    (4, 28, .val (Value.int IntKind.i64 0)),
    (5, 9, .var base)]
def fP3ftT14  : List (Nat × Tmp × Sp) :=
   [(0, 29, .val (Value.int IntKind.i64 0)),
    (1, 30, .val (Value.bool false))]
def fP3ftT15 (base : Nat) : List (Nat × Tmp × Sp) :=
   [(0, 33, .nat (1)),
    (1, 11, .var base)]
def fP3ftT16  : List (Nat × Tmp × Sp) :=
   [(0, 34, .val (Value.bool true))]
def fP3ftT17 (b : ByteArray) (N : Nat) : List (Nat × Tmp × Sp) :=
   [(0, 36, .val (Value.string b)),
    (1, 37, .pair (.nat (N)) (.val (Value.int IntKind.i64 0))),
    (2, 35, .pair (.nat (N)) (.val (Value.int IntKind.i64 0))),
    (3, 38, .nat (N)),
    (4, 39, .val (Value.int IntKind.i64 0))]
def fP3ftT18  : List (Nat × Tmp × Sp) :=
   [(0, 40, .val (Value.int IntKind.i64 0)),
    (1, 41, .val (Value.bool false))]
def fP3ftT19 (B : Bool) (M : Nat) (N : Nat) (base : Nat) : List (Nat × Tmp × Sp) :=
   [(0, 44, .val (Value.bool B)),
    (1, 45, .nat (M)),
    (2, 46, .nat (N)),
    (3, 47, .fq (Fq.mk B M N)),
    (4, 12, .varF base)]
def fP3ftT20 (B : Bool) (M : Nat) (N : Nat) : List (Nat × Tmp × Sp) :=
   [(0, 48, .val (Value.bool true)),
    (1, 49, .val (Value.bool true)),
    (2, 50, .nat (N)),
    (3, 51, .ones N),
    (4, 52, .val (Value.bool false)),
    (5, 53, .val (Value.bool false)),
    (6, 54, .val (Value.bool false)),
    (7, 55, .fq (Fq.mk B M N)),
    (8, 56, .val (Value.bool false)),
    (9, 57, .val (Value.bool true)),
    (10, 58, .val (Value.bool true))]
def fP3ftT21  : List (Nat × Tmp × Sp) :=
   [(0, 59, .fq Fq.zero)]
set_option maxHeartbeats 4000000 in
theorem fP_bad_true (s t a b : ByteArray) (B : Bool) (M : Nat) (w : World) (HP : Pieces s t B true a b) (hs : s.size ≤ 4294967280) (ha : ParseIs a M 0) (N : Nat) (hb : ParseIs b N 0) (hv : parseV B true M N = false) :
    Calls Tryz.prog 48 #[.string s] w fun e w' => RetQE w .zero 2 e w' := by
  have hts : t.size ≤ 4294967280 := Nat.le_trans (pieces_size HP) hs
  have bM : nl M ≤ 1000000000000 := Nat.le_trans (parse_nlU ha) (by decide)
  have bN : nl N ≤ 1000000000000 := Nat.le_trans (parse_nlU hb) (by decide)
  have bN' : nl N ≤ 1000000 := Nat.le_trans (parse_nlU hb) (by decide)
  have bM' : nl M ≤ 1000000 := Nat.le_trans (parse_nlU ha) (by decide)
  have hv2 : (!decide (N = 1) && (Fq.mk B M N).valid) = false := hv
  by_cases h1 : N = 1
  · have H1 : Hid (decide (N = 1) = true) := Lib.hid (decide_eq_true h1)
    clear hv hv2 h1
    obtain ⟨m0, k0⟩ := resF (w := w)
    go_enter Tryz.func48, Tryz.ntmps48
    go_upto_region 0 with (fail)
    go_cut [2, 3] (fun s_2 s_3 wx => s_2 = Value.pointer (some ⟨w.heap.size, 0, none⟩) ∧ s_3 = Value.int IntKind.i64 0 ∧ VarFB wx w.heap.size false none 0 0 none 0 0 ∧ Below w.heap.size w wx)
    case first =>
      go_wp2_with fail
      go_meet
      case rel => exact ⟨rfl, rfl, k0, m0⟩
    case rest =>
    clear m0 k0
    obtain ⟨rfl, rfl, V0, hb1⟩ := hcut
    go_upto_region 1 with (fail)
    go_cut [4, 5] (fun s_4 s_5 wx => s_4 = Value.string t ∧ s_5 = Value.bool B ∧ VarFB wx w.heap.size false none 0 0 none 0 0 ∧ Below w.heap.size w wx)
    case first =>
      refine wp_tabGF Tryz.f48 1 (fP3ftT0 s t B) [] (fun _ => false) 6 0 (by kernel_rfl) (by kernel_rfl) (by kernel_rfl) (by kernel_rfl) (by kernel_rfl) (EachX.of_all (fun _ h => by cases h) _) ?_ ?_
      · refine ⟨fun _ _ F => gR rfl rfl (arm_move (.inl rfl) (F.k 0 (Value.string s))).b, ?_⟩
        refine ⟨fun _ _ F => gR rfl rfl (arm_C2 rfl (enters Tryz.func71 rfl rfl) (F.f 0 rfl) Is.const (fun va vb w h1 h2 => by have e_va : va = _ := h1; subst e_va; have e_vb : vb = _ := h2; subst e_vb; exact c_CutPrefix _ _ _ w HP.sign HP.rest) (fun _ _ h => ofPair h)).b, ?_⟩
        refine ⟨fun _ _ F => gR rfl rfl (arm_move (.inl rfl) (F.f 1 rfl)).b, ?_⟩
        refine ⟨fun _ _ F => gR rfl rfl (arm_pair0 rfl (F.f 2 rfl)).b, ?_⟩
        refine ⟨fun _ _ F => gR rfl rfl (arm_pair1 rfl (F.f 2 rfl)).b, ?_⟩
        refine ⟨fun _ _ F => gR rfl rfl (arm_move (.inr rfl) (F.f 3 rfl)).b, ?_⟩
        refine ⟨fun _ _ F => gR rfl rfl (arm_move (.inr rfl) (F.f 4 rfl)).b, ?_⟩
        exact trivial
      intro E' hE gp wp bp G Gs
      obtain rfl : E' = [] := by simpa [subs] using hE
      have e_5 : gp 5 = Value.string t := G 5 4 _ (by simp) rfl
      have e_6 : gp 6 = Value.bool B := G 6 5 _ (by simp) rfl
      clear G Gs hE
      simp only [fP3ftT0]
      simp only [qA, setD, qZ, qS, e_5, e_6]
      refine wpAny_done (by kernel_rfl) ?_ _
      go_wp2_with fail
      go_meet
      case rel => exact ⟨rfl, rfl, (V0.mono bp V0.lt), (hb1.trans (bp.mono hb1.size))⟩
    case rest =>
    clear V0 hb1
    obtain ⟨rfl, rfl, V0, hb1⟩ := hcut
    go_upto_region 2 with (fail)
    go_cut [6, 7, 8] (fun s_6 s_7 s_8 wx => s_6 = Value.string a ∧ s_7 = Value.string b ∧ s_8 = Value.bool true ∧ VarFB wx w.heap.size false none 0 0 none 0 0 ∧ Below w.heap.size w wx)
    case first =>
      refine wp_tabGF Tryz.f48 2 (fP3ftT1 t a b) [] (fun _ => false) 7 0 (by kernel_rfl) (by kernel_rfl) (by kernel_rfl) (by kernel_rfl) (by kernel_rfl) (EachX.of_all (fun _ h => by cases h) _) ?_ ?_
      · refine ⟨fun _ _ F => gR rfl rfl (arm_move (.inl rfl) (F.k 4 (Value.string t))).b, ?_⟩
        refine ⟨fun _ _ F => gR rfl rfl (arm_C2 rfl (enters Tryz.func72 rfl rfl) (F.f 0 rfl) Is.const (fun va vb w h1 h2 => by have e_va : va = _ := h1; subst e_va; have e_vb : vb = _ := h2; subst e_vb; exact cut_piece HP w hts) (fun _ _ h => ofTrip h)).b, ?_⟩
        refine ⟨fun _ _ F => gR rfl rfl (arm_move (.inl rfl) (F.f 1 rfl)).b, ?_⟩
        refine ⟨fun _ _ F => gR rfl rfl (arm_trip0 rfl (F.f 2 rfl)).b, ?_⟩
        refine ⟨fun _ _ F => gR rfl rfl (arm_trip1 rfl (F.f 2 rfl)).b, ?_⟩
        refine ⟨fun _ _ F => gR rfl rfl (arm_trip2 rfl (F.f 2 rfl)).b, ?_⟩
        refine ⟨fun _ _ F => gR rfl rfl (arm_move (.inr rfl) (F.f 3 rfl)).b, ?_⟩
        refine ⟨fun _ _ F => gR rfl rfl (arm_move (.inr rfl) (F.f 4 rfl)).b, ?_⟩
        refine ⟨fun _ _ F => gR rfl rfl (arm_move (.inr rfl) (F.f 5 rfl)).b, ?_⟩
        exact trivial
      intro E' hE gp wp bp G Gs
      obtain rfl : E' = [] := by simpa [subs] using hE
      have e_6 : gp 6 = Value.string a := G 6 6 _ (by simp) rfl
      have e_7 : gp 7 = Value.string b := G 7 7 _ (by simp) rfl
      have e_8 : gp 8 = Value.bool true := G 8 8 _ (by simp) rfl
      clear G Gs hE
      simp only [fP3ftT1]
      simp only [qA, setD, qZ, qS, e_6, e_7, e_8]
      refine wpAny_done (by kernel_rfl) ?_ _
      go_wp2_with fail
      go_meet
      case rel => exact ⟨rfl, rfl, rfl, (V0.mono bp V0.lt), (hb1.trans (bp.mono hb1.size))⟩
    case rest =>
    clear V0 hb1
    obtain ⟨rfl, rfl, rfl, V0, hb1⟩ := hcut
    go_upto_region 3 with (fail)
    go_cut [9, 10] (fun s_9 s_10 wx => ∃ g9, s_9 = Value.pointer (some ⟨g9, 0, none⟩) ∧ s_10 = Value.int IntKind.i64 0 ∧ w.heap.size + 1 ≤ g9 ∧ VarI wx g9 M ∧ VarFB wx w.heap.size false none 0 0 none 0 0 ∧ Below w.heap.size w wx)
    case first =>
      obtain ⟨base, hbase0⟩ : ∃ b : Nat, Hid (b = wc.heap.size) := ⟨_, Lib.hid rfl⟩
      have hbase : base ≤ wc.heap.size := by rw [hbase0.out]; exact Nat.le_refl _
      have hbw : w.heap.size + 1 ≤ base := by have := hb1.size; have h1 := V0.lt; rw [hbase0.out]; omega
      have l_V0 : w.heap.size < base := by rw [hbase0.out]; exact V0.lt
      refine wp_tabGF Tryz.f48 3 (fP3ftT2 a M base) [4] (fun i => i == 5) 6 2 (by kernel_rfl) (by kernel_rfl) (by kernel_rfl) (by kernel_rfl) (by kernel_rfl) ⟨fun h => (by cases h), ⟨fun h => (by cases h), ⟨fun h => (by cases h), ⟨fun h => (by cases h), ⟨fun h => (by cases h), ⟨fun _ w v h => Sp.var_lt h, trivial⟩⟩⟩⟩⟩⟩ ?_ ?_
      · refine ⟨fun _ _ F => gR rfl rfl (arm_move (.inl rfl) (F.k 6 (Value.string a))).b, ?_⟩
        refine ⟨fun _ _ F => gR rfl rfl (arm_C1 rfl (enters Tryz.func73 rfl rfl) (F.f 0 rfl) (fun va w h1 => by have e_va : va = _ := h1; subst e_va; exact c_natural_Parse a w _ _ ha) (fun _ _ h => ofP h)).b, ?_⟩
        refine ⟨fun _ _ F => gR rfl rfl (arm_move (.inl rfl) (F.f 1 rfl)).b, ?_⟩
        refine ⟨fun _ _ F => gR rfl rfl (arm_pair0 rfl (F.f 2 rfl)).b, ?_⟩
        refine ⟨fun _ _ F => gR rfl rfl (arm_pair1 rfl (F.f 2 rfl)).b, ?_⟩
        refine ⟨fun _ _ F => gR rfl rfl (arm_alloc rfl (Nat.le_trans hbase F.below.size)), ?_⟩
        exact trivial
      intro E' hE gp wp bp G Gs
      simp only [subs, List.map_cons, List.map_nil, List.nil_append, List.cons_append, List.mem_cons, List.not_mem_nil, or_false, List.append_nil] at hE
      rcases hE with rfl | rfl
      · obtain ⟨g9, e_5, lg_5, hv_5⟩ := G 5 9 _ (by simp) rfl
        have n_3 : (Sp.nat (M)).p wp (gp 3) := G 3 27 _ (by simp) rfl
        have e_4 : gp 4 = Value.int IntKind.i64 0 := G 4 28 _ (by simp) rfl
        clear G Gs
        simp only [fP3ftT2]
        simp only [qA, setD, qZ, qS, e_5, e_4]
        have T0 := hv_5
        refine wpAny_storeN (j := 6) (by kernel_rfl) rfl rfl rfl rfl rfl n_3 T0.any ?_
        intro w0 u0 v0
        have O0 := T0.own
        refine wpAny_takeD (i := 7) (d := some 10) (v := Value.int IntKind.i64 0) rfl rfl (by kernel_rfl) (by kernel_rfl) (by kernel_rfl) (fun _ _ _ h => h) (Or.inl ⟨by rfl, fun w => by rfl⟩) ?_
        try simp only [qP, qZ, qS]
        refine wpAny_done (by kernel_rfl) ?_ _
        go_wp2_with fail
        go_meet
        case rel => exact ⟨g9, rfl, rfl, (by omega), v0, ((V0.mono bp V0.lt).upd O0 u0 (by omega)), (Upd.below (hb1.trans (bp.mono hb1.size)) u0 (by omega))⟩
      · obtain ⟨g9, e_5, lg_5, hv_5⟩ := G 5 9 _ (by simp) rfl
        obtain ⟨x_2_0, x_2_1, e_2, n_2_0, rfl⟩ := G 2 24 _ (by simp) rfl
        have n_3 : (Sp.nat (M)).p wp (gp 3) := G 3 27 _ (by simp) rfl
        clear G Gs
        simp only [fP3ftT2]
        simp only [qA, setD, qZ, qS, e_5, e_2]
        refine wpAny_takeD (i := 4) (d := some 28) (v := Value.int IntKind.i64 0) rfl rfl (by kernel_rfl) (by kernel_rfl) (by kernel_rfl) (fun _ _ _ h => h) (Or.inl ⟨by rfl, fun w => by rfl⟩) ?_
        try simp only [qP, qZ, qS]
        have T0 := hv_5
        refine wpAny_storeN (j := 6) (by kernel_rfl) rfl rfl rfl rfl rfl n_3 T0.any ?_
        intro w0 u0 v0
        have O0 := T0.own
        refine wpAny_takeD (i := 7) (d := some 10) (v := Value.int IntKind.i64 0) rfl rfl (by kernel_rfl) (by kernel_rfl) (by kernel_rfl) (fun _ _ _ h => h) (Or.inl ⟨by rfl, fun w => by rfl⟩) ?_
        try simp only [qP, qZ, qS]
        refine wpAny_done (by kernel_rfl) ?_ _
        go_wp2_with fail
        go_meet
        case rel => exact ⟨g9, rfl, rfl, (by omega), v0, ((V0.mono bp V0.lt).upd O0 u0 (by omega)), (Upd.below (hb1.trans (bp.mono hb1.size)) u0 (by omega))⟩
    case rest =>
    clear V0 hb1
    obtain ⟨g9, rfl, rfl, lg9, V9, V0, hb1⟩ := hcut
    go_upto_region 4 with (fail)
    go_cut [30] (fun s_30 wx => s_30 = Value.bool false ∧ VarFB wx w.heap.size false none 0 0 none 0 0 ∧ VarI wx g9 M ∧ Below w.heap.size w wx)
    case first =>
      refine wp_tabGF Tryz.f48 4 (fP3ftT3 ) [] (fun _ => false) 2 0 (by kernel_rfl) (by kernel_rfl) (by kernel_rfl) (by kernel_rfl) (by kernel_rfl) (EachX.of_all (fun _ h => by cases h) _) ?_ ?_
      · refine ⟨fun _ _ F => gR rfl rfl (arm_move (.inl rfl) (F.k 10 (Value.int IntKind.i64 0))).b, ?_⟩
        refine ⟨fun _ _ F => gR rfl rfl (arm_bin rfl (F.f 0 rfl) Is.const (fun _ => rfl) (fun _ => rfl)).b, ?_⟩
        exact trivial
      intro E' hE gp wp bp G Gs
      obtain rfl : E' = [] := by simpa [subs] using hE
      have e_1 : gp 1 = Value.bool false := G 1 30 _ (by simp) rfl
      clear G Gs hE
      simp only [fP3ftT3]
      simp only [qA, setD, qZ, qS, e_1]
      refine wpAny_done (by kernel_rfl) ?_ _
      go_wp2_with fail
      go_meet
      case rel => exact ⟨rfl, (V0.mono bp V0.lt), (V9.mono bp), (hb1.trans (bp.mono hb1.size))⟩
    case rest =>
    clear V0 V9 hb1
    obtain ⟨rfl, V0, V9, hb1⟩ := hcut
    go_upto_region 6 with (fail)
    go_cut [11] (fun s_11 wx => ∃ g11, s_11 = Value.pointer (some ⟨g11, 0, none⟩) ∧ w.heap.size + 1 ≤ g11 ∧ g9 < g11 ∧ VarI wx g11 1 ∧ VarFB wx w.heap.size false none 0 0 none 0 0 ∧ VarI wx g9 M ∧ Below w.heap.size w wx)
    case first =>
      obtain ⟨base, hbase0⟩ : ∃ b : Nat, Hid (b = wc.heap.size) := ⟨_, Lib.hid rfl⟩
      have hbase : base ≤ wc.heap.size := by rw [hbase0.out]; exact Nat.le_refl _
      have hbw : w.heap.size + 1 ≤ base := by have := hb1.size; have h1 := V0.lt; rw [hbase0.out]; omega
      have l_V0 : w.heap.size < base := by rw [hbase0.out]; exact V0.lt
      have l_V9 : g9 < base := by rw [hbase0.out]; exact V9.lt
      refine wp_tabGF Tryz.f48 6 (fP3ftT4 base) [] (fun i => i == 1) 2 1 (by kernel_rfl) (by kernel_rfl) (by kernel_rfl) (by kernel_rfl) (by kernel_rfl) ⟨fun h => (by cases h), ⟨fun _ w v h => Sp.var_lt h, trivial⟩⟩ ?_ ?_
      · refine ⟨fun _ _ F => gR rfl rfl (arm_C1 rfl (enters Tryz.func66 rfl rfl) Is.const (fun va w h1 => by have e_va : va = _ := h1; subst e_va; exact c_natural_Of 1 w (by decide)) (fun _ _ h => ofNew h)).b, ?_⟩
        refine ⟨fun _ _ F => gR rfl rfl (arm_alloc rfl (Nat.le_trans hbase F.below.size)), ?_⟩
        exact trivial
      intro E' hE gp wp bp G Gs
      obtain rfl : E' = [] := by simpa [subs] using hE
      obtain ⟨g11, e_1, lg_1, hv_1⟩ := G 1 11 _ (by simp) rfl
      have n_0 : (Sp.nat (1)).p wp (gp 0) := G 0 33 _ (by simp) rfl
      clear G Gs hE
      simp only [fP3ftT4]
      simp only [qA, setD, qZ, qS, e_1]
      have T0 := hv_1
      refine wpAny_storeN (j := 2) (by kernel_rfl) rfl rfl rfl rfl rfl n_0 T0.any ?_
      intro w0 u0 v0
      have O0 := T0.own
      refine wpAny_done (by kernel_rfl) ?_ _
      go_wp2_with fail
      go_meet
      case rel => exact ⟨g11, rfl, (by omega), (by omega), v0, ((V0.mono bp V0.lt).upd O0 u0 (by omega)), ((V9.mono bp).upd O0 u0 (by omega)), (Upd.below (hb1.trans (bp.mono hb1.size)) u0 (by omega))⟩
    case rest =>
    clear V0 V9 hb1
    obtain ⟨g11, rfl, lg11, d6_0, V11, V0, V9, hb1⟩ := hcut
    go_upto_region 7 with (fail)
    go_cut [34] (fun s_34 wx => s_34 = Value.bool true ∧ VarFB wx w.heap.size false none 0 0 none 0 0 ∧ VarI wx g9 M ∧ VarI wx g11 1 ∧ Below w.heap.size w wx)
    case first =>
      refine wp_tabGF Tryz.f48 7 (fP3ftT5 ) [] (fun _ => false) 2 0 (by kernel_rfl) (by kernel_rfl) (by kernel_rfl) (by kernel_rfl) (by kernel_rfl) (EachX.of_all (fun _ h => by cases h) _) ?_ ?_
      · refine ⟨fun _ _ F => gR rfl rfl (arm_move (.inl rfl) (F.k 8 (Value.bool true))).b, ?_⟩
        exact trivial
      intro E' hE gp wp bp G Gs
      obtain rfl : E' = [] := by simpa [subs] using hE
      have e_0 : gp 0 = Value.bool true := G 0 34 _ (by simp) rfl
      clear G Gs hE
      simp only [fP3ftT5]
      simp only [qA, setD, qZ, qS, e_0]
      refine wpAny_done (by kernel_rfl) ?_ _
      go_wp2_with fail
      go_meet
      case rel => exact ⟨rfl, (V0.mono bp V0.lt), (V9.mono bp), (V11.mono bp), (hb1.trans (bp.mono hb1.size))⟩
    case rest =>
    clear V0 V9 V11 hb1
    obtain ⟨rfl, V0, V9, V11, hb1⟩ := hcut
    go_upto_region 8 with (fail)
    go_cut [10] (fun s_10 wx => s_10 = Value.int IntKind.i64 0 ∧ VarFB wx w.heap.size false none 0 0 none 0 0 ∧ VarI wx g9 M ∧ VarI wx g11 N ∧ Below w.heap.size w wx)
    case first =>
      refine wp_tabGF Tryz.f48 8 (fP3ftT6 b N) [4] (fun _ => false) 6 2 (by kernel_rfl) (by kernel_rfl) (by kernel_rfl) (by kernel_rfl) (by kernel_rfl) (EachX.of_all (fun _ h => by cases h) _) ?_ ?_
      · refine ⟨fun _ _ F => gR rfl rfl (arm_move (.inl rfl) (F.k 7 (Value.string b))).b, ?_⟩
        refine ⟨fun _ _ F => gR rfl rfl (arm_C1 rfl (enters Tryz.func73 rfl rfl) (F.f 0 rfl) (fun va w h1 => by have e_va : va = _ := h1; subst e_va; exact c_natural_Parse b w _ _ hb) (fun _ _ h => ofP h)).b, ?_⟩
        refine ⟨fun _ _ F => gR rfl rfl (arm_move (.inl rfl) (F.f 1 rfl)).b, ?_⟩
        refine ⟨fun _ _ F => gR rfl rfl (arm_pair0 rfl (F.f 2 rfl)).b, ?_⟩
        refine ⟨fun _ _ F => gR rfl rfl (arm_pair1 rfl (F.f 2 rfl)).b, ?_⟩
        exact trivial
      intro E' hE gp wp bp G Gs
      simp only [subs, List.map_cons, List.map_nil, List.nil_append, List.cons_append, List.mem_cons, List.not_mem_nil, or_false, List.append_nil] at hE
      rcases hE with rfl | rfl
      · have n_3 : (Sp.nat (N)).p wp (gp 3) := G 3 38 _ (by simp) rfl
        have e_4 : gp 4 = Value.int IntKind.i64 0 := G 4 39 _ (by simp) rfl
        clear G Gs
        simp only [fP3ftT6]
        simp only [qA, setD, qZ, qS, e_4]
        have T0 := (V11.mono bp)
        refine wpAny_storeN (j := 5) (by kernel_rfl) rfl rfl rfl rfl rfl n_3 T0.any ?_
        intro w0 u0 v0
        have O0 := T0.own
        refine wpAny_takeD (i := 6) (d := some 10) (v := Value.int IntKind.i64 0) rfl rfl (by kernel_rfl) (by kernel_rfl) (by kernel_rfl) (fun _ _ _ h => h) (Or.inl ⟨by rfl, fun w => by rfl⟩) ?_
        try simp only [qP, qZ, qS]
        refine wpAny_done (by kernel_rfl) ?_ _
        go_wp2_with fail
        go_meet
        case rel => exact ⟨rfl, ((V0.mono bp V0.lt).upd O0 u0 (by omega)), ((V9.mono bp).upd O0 u0 (by omega)), v0, (Upd.below (hb1.trans (bp.mono hb1.size)) u0 (by omega))⟩
      · obtain ⟨x_2_0, x_2_1, e_2, n_2_0, rfl⟩ := G 2 35 _ (by simp) rfl
        have n_3 : (Sp.nat (N)).p wp (gp 3) := G 3 38 _ (by simp) rfl
        clear G Gs
        simp only [fP3ftT6]
        simp only [qA, setD, qZ, qS, e_2]
        refine wpAny_takeD (i := 4) (d := some 39) (v := Value.int IntKind.i64 0) rfl rfl (by kernel_rfl) (by kernel_rfl) (by kernel_rfl) (fun _ _ _ h => h) (Or.inl ⟨by rfl, fun w => by rfl⟩) ?_
        try simp only [qP, qZ, qS]
        have T0 := (V11.mono bp)
        refine wpAny_storeN (j := 5) (by kernel_rfl) rfl rfl rfl rfl rfl n_3 T0.any ?_
        intro w0 u0 v0
        have O0 := T0.own
        refine wpAny_takeD (i := 6) (d := some 10) (v := Value.int IntKind.i64 0) rfl rfl (by kernel_rfl) (by kernel_rfl) (by kernel_rfl) (fun _ _ _ h => h) (Or.inl ⟨by rfl, fun w => by rfl⟩) ?_
        try simp only [qP, qZ, qS]
        refine wpAny_done (by kernel_rfl) ?_ _
        go_wp2_with fail
        go_meet
        case rel => exact ⟨rfl, ((V0.mono bp V0.lt).upd O0 u0 (by omega)), ((V9.mono bp).upd O0 u0 (by omega)), v0, (Upd.below (hb1.trans (bp.mono hb1.size)) u0 (by omega))⟩
    case rest =>
    clear V0 V9 V11 hb1
    obtain ⟨rfl, V0, V9, V11, hb1⟩ := hcut
    go_upto_region 9 with (fail)
    go_cut [41] (fun s_41 wx => s_41 = Value.bool false ∧ VarFB wx w.heap.size false none 0 0 none 0 0 ∧ VarI wx g9 M ∧ VarI wx g11 N ∧ Below w.heap.size w wx)
    case first =>
      refine wp_tabGF Tryz.f48 9 (fP3ftT7 ) [] (fun _ => false) 2 0 (by kernel_rfl) (by kernel_rfl) (by kernel_rfl) (by kernel_rfl) (by kernel_rfl) (EachX.of_all (fun _ h => by cases h) _) ?_ ?_
      · refine ⟨fun _ _ F => gR rfl rfl (arm_move (.inl rfl) (F.k 10 (Value.int IntKind.i64 0))).b, ?_⟩
        refine ⟨fun _ _ F => gR rfl rfl (arm_bin rfl (F.f 0 rfl) Is.const (fun _ => rfl) (fun _ => rfl)).b, ?_⟩
        exact trivial
      intro E' hE gp wp bp G Gs
      obtain rfl : E' = [] := by simpa [subs] using hE
      have e_1 : gp 1 = Value.bool false := G 1 41 _ (by simp) rfl
      clear G Gs hE
      simp only [fP3ftT7]
      simp only [qA, setD, qZ, qS, e_1]
      refine wpAny_done (by kernel_rfl) ?_ _
      go_wp2_with fail
      go_meet
      case rel => exact ⟨rfl, (V0.mono bp V0.lt), (V9.mono bp), (V11.mono bp), (hb1.trans (bp.mono hb1.size))⟩
    case rest =>
    clear V0 V9 V11 hb1
    obtain ⟨rfl, V0, V9, V11, hb1⟩ := hcut
    go_upto_region 11 with (fail)
    go_cut [12] (fun s_12 wx => ∃ g12, s_12 = Value.pointer (some ⟨g12, 0, none⟩) ∧ w.heap.size + 1 ≤ g12 ∧ g9 < g12 ∧ g11 < g12 ∧ VarQ wx g12 (Fq.mk B M N) ∧ VarFB wx w.heap.size false none 0 0 none 0 0 ∧ VarI wx g9 M ∧ VarI wx g11 N ∧ Below w.heap.size w wx)
    case first =>
      obtain ⟨base, hbase0⟩ : ∃ b : Nat, Hid (b = wc.heap.size) := ⟨_, Lib.hid rfl⟩
      have hbase : base ≤ wc.heap.size := by rw [hbase0.out]; exact Nat.le_refl _
      have hbw : w.heap.size + 1 ≤ base := by have := hb1.size; have h1 := V0.lt; rw [hbase0.out]; omega
      have l_V0 : w.heap.size < base := by rw [hbase0.out]; exact V0.lt
      have l_V9 : g9 < base := by rw [hbase0.out]; exact V9.lt
      have l_V11 : g11 < base := by rw [hbase0.out]; exact V11.lt
      refine wp_tabGF Tryz.f48 11 (fP3ftT8 B M N base) [] (fun i => i == 4) 3 1 (by kernel_rfl) (by kernel_rfl) (by kernel_rfl) (by kernel_rfl) (by kernel_rfl) ⟨fun h => (by cases h), ⟨fun h => (by cases h), ⟨fun h => (by cases h), ⟨fun h => (by cases h), ⟨fun _ w v h => Sp.varF_lt h, trivial⟩⟩⟩⟩⟩ ?_ ?_
      · refine ⟨fun _ _ F => gR rfl rfl (arm_move (.inl rfl) (F.k 5 (Value.bool B))).b, ?_⟩
        refine ⟨fun _ _ F => gR rfl rfl (arm_load rfl (F.k 9 (Value.pointer (some ⟨g9, 0, none⟩))) (V9.mono F.below)).b, ?_⟩
        refine ⟨fun _ _ F => gR rfl rfl (arm_load rfl (F.k 11 (Value.pointer (some ⟨g11, 0, none⟩))) (V11.mono F.below)).b, ?_⟩
        refine ⟨fun _ _ F => gR rfl rfl (arm_buildF rfl (F.f 0 rfl) (F.f 1 rfl) (F.f 2 rfl)).b, ?_⟩
        refine ⟨fun _ _ F => gR rfl rfl (arm_allocF rfl (Nat.le_trans hbase F.below.size)), ?_⟩
        exact trivial
      intro E' hE gp wp bp G Gs
      obtain rfl : E' = [] := by simpa [subs] using hE
      obtain ⟨g12, e_4, lg_4, hv_4⟩ := G 4 12 _ (by simp) rfl
      have n_3 : (Sp.fq (Fq.mk B M N)).p wp (gp 3) := G 3 47 _ (by simp) rfl
      clear G Gs hE
      simp only [fP3ftT8]
      simp only [qA, setD, qZ, qS, e_4]
      have T0 := hv_4
      refine wpAny_storeFr (j := 5) (by kernel_rfl) rfl rfl rfl rfl rfl n_3 T0.any ?_
      intro w0 u0 v0
      have O0 := T0.own
      refine wpAny_done (by kernel_rfl) ?_ _
      go_wp2_with fail
      go_meet
      case rel => exact ⟨g12, rfl, (by omega), (by omega), (by omega), v0, ((V0.mono bp V0.lt).upd O0 u0 (by omega)), ((V9.mono bp).upd O0 u0 (by omega)), ((V11.mono bp).upd O0 u0 (by omega)), (Upd.below (hb1.trans (bp.mono hb1.size)) u0 (by omega))⟩
    case rest =>
    clear V0 V9 V11 hb1
    obtain ⟨g12, rfl, lg12, d11_0, d11_1, V12, V0, V9, V11, hb1⟩ := hcut
    go_upto_region 12 with (fail)
    go_cut [58] (fun s_58 wx => s_58 = Value.bool true ∧ VarFB wx w.heap.size false none 0 0 none 0 0 ∧ VarI wx g9 M ∧ VarI wx g11 N ∧ VarQ wx g12 (Fq.mk B M N) ∧ Below w.heap.size w wx)
    case first =>
      refine wp_tabGF Tryz.f48 12 (fP3ftT9 N) [] (fun _ => false) 11 0 (by kernel_rfl) (by kernel_rfl) (by kernel_rfl) (by kernel_rfl) (by kernel_rfl) (EachX.of_all (fun _ h => by cases h) _) ?_ ?_
      · refine ⟨fun _ _ F => gR rfl rfl (arm_move (.inl rfl) (F.k 8 (Value.bool true))).b, ?_⟩
        refine ⟨fun _ _ F => gR rfl rfl (arm_move (.inl rfl) (F.f 0 rfl)).b, ?_⟩
        refine ⟨fun _ _ F => gG F rfl rfl rfl rfl (arm_load rfl (F.k 11 (Value.pointer (some ⟨g11, 0, none⟩))) (V11.mono F.below)).b, ?_⟩
        refine ⟨fun _ _ F => gG F rfl rfl rfl rfl (arm_ones rfl (F.f 2 rfl)).b, ?_⟩
        refine ⟨fun _ _ F => gG F rfl rfl rfl rfl (arm_C1 rfl (enters Tryz.func74 rfl rfl) (F.f 3 rfl) (fun va w h1 => c_one1 va N w h1 bN) (fun _ _ h => by have h' : RetV _ _ _ _ := h; rw [H1.out] at h'; exact ofV h')).b, ?_⟩
        refine ⟨fun _ _ F => gR rfl rfl (arm_pick rfl (F.f 1 rfl) (fun _ => (F.f 4 rfl)) (fun h => by cases h)).b, ?_⟩
        refine ⟨fun _ _ F => gR rfl rfl (arm_move (.inl rfl) (F.f 5 rfl)).b, ?_⟩
        refine ⟨fun _ _ F => gS F rfl rfl rfl rfl rfl rfl, ?_⟩
        refine ⟨fun _ _ F => gS F rfl rfl rfl rfl rfl rfl, ?_⟩
        refine ⟨fun _ _ F => gS F rfl rfl rfl rfl rfl rfl, ?_⟩
        refine ⟨fun _ _ F => gR rfl rfl (arm_pick rfl (F.f 6 rfl) (fun _ => Is.const) (fun h => by cases h)).b, ?_⟩
        exact trivial
      intro E' hE gp wp bp G Gs
      obtain rfl : E' = [] := by simpa [subs] using hE
      have e_10 : gp 10 = Value.bool true := G 10 58 _ (by simp) rfl
      clear G Gs hE
      simp only [fP3ftT9]
      simp only [qA, setD, qZ, qS, e_10]
      refine wpAny_done (by kernel_rfl) ?_ _
      go_wp2_with fail
      go_meet
      case rel => exact ⟨rfl, (V0.mono bp V0.lt), (V9.mono bp), (V11.mono bp), (V12.mono bp), (hb1.trans (bp.mono hb1.size))⟩
    case rest =>
    clear V0 V9 V11 V12 hb1
    obtain ⟨rfl, V0, V9, V11, V12, hb1⟩ := hcut
    go_upto_region 13 with (fail)
    go_cut [3] (fun s_3 wx => s_3 = Value.int IntKind.i64 2 ∧ VarQ wx w.heap.size Fq.zero ∧ VarI wx g9 M ∧ VarI wx g11 N ∧ VarQ wx g12 (Fq.mk B M N) ∧ Below w.heap.size w wx)
    case first =>
      refine wp_tabGF Tryz.f48 13 (fP3ftT10 ) [] (fun _ => false) 3 2 (by kernel_rfl) (by kernel_rfl) (by kernel_rfl) (by kernel_rfl) (by kernel_rfl) (EachX.of_all (fun _ h => by cases h) _) ?_ ?_
      · refine ⟨fun _ _ F => gR rfl rfl (arm_build0F rfl).b, ?_⟩
        exact trivial
      intro E' hE gp wp bp G Gs
      obtain rfl : E' = [] := by simpa [subs] using hE
      have n_0 : (Sp.fq Fq.zero).p wp (gp 0) := G 0 59 _ (by simp) rfl
      clear G Gs hE
      simp only [fP3ftT10]
      simp only [qA, setD, qZ, qS]
      have T0 := (V0.mono bp V0.lt)
      refine wpAny_storeFr (j := 1) (by kernel_rfl) rfl rfl rfl rfl rfl n_0 T0.any ?_
      intro w0 u0 v0
      have O0 := T0.own
      refine wpAny_takeD (i := 2) (d := some 3) (v := Value.int IntKind.i64 2) rfl rfl (by kernel_rfl) (by kernel_rfl) (by kernel_rfl) (fun _ _ _ h => h) (Or.inl ⟨by rfl, fun w => by rfl⟩) ?_
      try simp only [qP, qZ, qS]
      refine wpAny_done (by kernel_rfl) ?_ _
      go_wp2_with fail
      go_meet
      case rel => exact ⟨rfl, v0, ((V9.mono bp).upd O0 u0 (by omega)), ((V11.mono bp).upd O0 u0 (by omega)), ((V12.mono bp).upd O0 u0 (by omega)), (Upd.below (hb1.trans (bp.mono hb1.size)) u0 (by omega))⟩
    case rest =>
    clear V0 V9 V11 V12 hb1
    obtain ⟨rfl, V0, V9, V11, V12, hb1⟩ := hcut
    obtain ⟨r1, r2, r3, r4, rV, rn, rm⟩ := V0
    have c0 := rV.cell0
    have c1 := rV.cell1
    have c2 := rV.cell2
    go_wp2
    exact bodyPost_ret (res_FE rfl rfl rfl rV) rfl ⟨_, rfl, ⟨r1, r2, r3, r4, rfl, rn, rm⟩, hb1⟩
  · have H1 : Hid (decide (N = 1) = false) := Lib.hid (decide_eq_false h1)
    have HV : Hid ((Fq.mk B M N).valid = false) := Lib.hid (by rw [H1.out] at hv2; simpa using hv2)
    clear hv hv2 h1
    obtain ⟨m0, k0⟩ := resF (w := w)
    go_enter Tryz.func48, Tryz.ntmps48
    go_upto_region 0 with (fail)
    go_cut [2, 3] (fun s_2 s_3 wx => s_2 = Value.pointer (some ⟨w.heap.size, 0, none⟩) ∧ s_3 = Value.int IntKind.i64 0 ∧ VarFB wx w.heap.size false none 0 0 none 0 0 ∧ Below w.heap.size w wx)
    case first =>
      go_wp2_with fail
      go_meet
      case rel => exact ⟨rfl, rfl, k0, m0⟩
    case rest =>
    clear m0 k0
    obtain ⟨rfl, rfl, V0, hb1⟩ := hcut
    go_upto_region 1 with (fail)
    go_cut [4, 5] (fun s_4 s_5 wx => s_4 = Value.string t ∧ s_5 = Value.bool B ∧ VarFB wx w.heap.size false none 0 0 none 0 0 ∧ Below w.heap.size w wx)
    case first =>
      refine wp_tabGF Tryz.f48 1 (fP3ftT11 s t B) [] (fun _ => false) 6 0 (by kernel_rfl) (by kernel_rfl) (by kernel_rfl) (by kernel_rfl) (by kernel_rfl) (EachX.of_all (fun _ h => by cases h) _) ?_ ?_
      · refine ⟨fun _ _ F => gR rfl rfl (arm_move (.inl rfl) (F.k 0 (Value.string s))).b, ?_⟩
        refine ⟨fun _ _ F => gR rfl rfl (arm_C2 rfl (enters Tryz.func71 rfl rfl) (F.f 0 rfl) Is.const (fun va vb w h1 h2 => by have e_va : va = _ := h1; subst e_va; have e_vb : vb = _ := h2; subst e_vb; exact c_CutPrefix _ _ _ w HP.sign HP.rest) (fun _ _ h => ofPair h)).b, ?_⟩
        refine ⟨fun _ _ F => gR rfl rfl (arm_move (.inl rfl) (F.f 1 rfl)).b, ?_⟩
        refine ⟨fun _ _ F => gR rfl rfl (arm_pair0 rfl (F.f 2 rfl)).b, ?_⟩
        refine ⟨fun _ _ F => gR rfl rfl (arm_pair1 rfl (F.f 2 rfl)).b, ?_⟩
        refine ⟨fun _ _ F => gR rfl rfl (arm_move (.inr rfl) (F.f 3 rfl)).b, ?_⟩
        refine ⟨fun _ _ F => gR rfl rfl (arm_move (.inr rfl) (F.f 4 rfl)).b, ?_⟩
        exact trivial
      intro E' hE gp wp bp G Gs
      obtain rfl : E' = [] := by simpa [subs] using hE
      have e_5 : gp 5 = Value.string t := G 5 4 _ (by simp) rfl
      have e_6 : gp 6 = Value.bool B := G 6 5 _ (by simp) rfl
      clear G Gs hE
      simp only [fP3ftT11]
      simp only [qA, setD, qZ, qS, e_5, e_6]
      refine wpAny_done (by kernel_rfl) ?_ _
      go_wp2_with fail
      go_meet
      case rel => exact ⟨rfl, rfl, (V0.mono bp V0.lt), (hb1.trans (bp.mono hb1.size))⟩
    case rest =>
    clear V0 hb1
    obtain ⟨rfl, rfl, V0, hb1⟩ := hcut
    go_upto_region 2 with (fail)
    go_cut [6, 7, 8] (fun s_6 s_7 s_8 wx => s_6 = Value.string a ∧ s_7 = Value.string b ∧ s_8 = Value.bool true ∧ VarFB wx w.heap.size false none 0 0 none 0 0 ∧ Below w.heap.size w wx)
    case first =>
      refine wp_tabGF Tryz.f48 2 (fP3ftT12 t a b) [] (fun _ => false) 7 0 (by kernel_rfl) (by kernel_rfl) (by kernel_rfl) (by kernel_rfl) (by kernel_rfl) (EachX.of_all (fun _ h => by cases h) _) ?_ ?_
      · refine ⟨fun _ _ F => gR rfl rfl (arm_move (.inl rfl) (F.k 4 (Value.string t))).b, ?_⟩
        refine ⟨fun _ _ F => gR rfl rfl (arm_C2 rfl (enters Tryz.func72 rfl rfl) (F.f 0 rfl) Is.const (fun va vb w h1 h2 => by have e_va : va = _ := h1; subst e_va; have e_vb : vb = _ := h2; subst e_vb; exact cut_piece HP w hts) (fun _ _ h => ofTrip h)).b, ?_⟩
        refine ⟨fun _ _ F => gR rfl rfl (arm_move (.inl rfl) (F.f 1 rfl)).b, ?_⟩
        refine ⟨fun _ _ F => gR rfl rfl (arm_trip0 rfl (F.f 2 rfl)).b, ?_⟩
        refine ⟨fun _ _ F => gR rfl rfl (arm_trip1 rfl (F.f 2 rfl)).b, ?_⟩
        refine ⟨fun _ _ F => gR rfl rfl (arm_trip2 rfl (F.f 2 rfl)).b, ?_⟩
        refine ⟨fun _ _ F => gR rfl rfl (arm_move (.inr rfl) (F.f 3 rfl)).b, ?_⟩
        refine ⟨fun _ _ F => gR rfl rfl (arm_move (.inr rfl) (F.f 4 rfl)).b, ?_⟩
        refine ⟨fun _ _ F => gR rfl rfl (arm_move (.inr rfl) (F.f 5 rfl)).b, ?_⟩
        exact trivial
      intro E' hE gp wp bp G Gs
      obtain rfl : E' = [] := by simpa [subs] using hE
      have e_6 : gp 6 = Value.string a := G 6 6 _ (by simp) rfl
      have e_7 : gp 7 = Value.string b := G 7 7 _ (by simp) rfl
      have e_8 : gp 8 = Value.bool true := G 8 8 _ (by simp) rfl
      clear G Gs hE
      simp only [fP3ftT12]
      simp only [qA, setD, qZ, qS, e_6, e_7, e_8]
      refine wpAny_done (by kernel_rfl) ?_ _
      go_wp2_with fail
      go_meet
      case rel => exact ⟨rfl, rfl, rfl, (V0.mono bp V0.lt), (hb1.trans (bp.mono hb1.size))⟩
    case rest =>
    clear V0 hb1
    obtain ⟨rfl, rfl, rfl, V0, hb1⟩ := hcut
    go_upto_region 3 with (fail)
    go_cut [9, 10] (fun s_9 s_10 wx => ∃ g9, s_9 = Value.pointer (some ⟨g9, 0, none⟩) ∧ s_10 = Value.int IntKind.i64 0 ∧ w.heap.size + 1 ≤ g9 ∧ VarI wx g9 M ∧ VarFB wx w.heap.size false none 0 0 none 0 0 ∧ Below w.heap.size w wx)
    case first =>
      obtain ⟨base, hbase0⟩ : ∃ b : Nat, Hid (b = wc.heap.size) := ⟨_, Lib.hid rfl⟩
      have hbase : base ≤ wc.heap.size := by rw [hbase0.out]; exact Nat.le_refl _
      have hbw : w.heap.size + 1 ≤ base := by have := hb1.size; have h1 := V0.lt; rw [hbase0.out]; omega
      have l_V0 : w.heap.size < base := by rw [hbase0.out]; exact V0.lt
      refine wp_tabGF Tryz.f48 3 (fP3ftT13 a M base) [4] (fun i => i == 5) 6 2 (by kernel_rfl) (by kernel_rfl) (by kernel_rfl) (by kernel_rfl) (by kernel_rfl) ⟨fun h => (by cases h), ⟨fun h => (by cases h), ⟨fun h => (by cases h), ⟨fun h => (by cases h), ⟨fun h => (by cases h), ⟨fun _ w v h => Sp.var_lt h, trivial⟩⟩⟩⟩⟩⟩ ?_ ?_
      · refine ⟨fun _ _ F => gR rfl rfl (arm_move (.inl rfl) (F.k 6 (Value.string a))).b, ?_⟩
        refine ⟨fun _ _ F => gR rfl rfl (arm_C1 rfl (enters Tryz.func73 rfl rfl) (F.f 0 rfl) (fun va w h1 => by have e_va : va = _ := h1; subst e_va; exact c_natural_Parse a w _ _ ha) (fun _ _ h => ofP h)).b, ?_⟩
        refine ⟨fun _ _ F => gR rfl rfl (arm_move (.inl rfl) (F.f 1 rfl)).b, ?_⟩
        refine ⟨fun _ _ F => gR rfl rfl (arm_pair0 rfl (F.f 2 rfl)).b, ?_⟩
        refine ⟨fun _ _ F => gR rfl rfl (arm_pair1 rfl (F.f 2 rfl)).b, ?_⟩
        refine ⟨fun _ _ F => gR rfl rfl (arm_alloc rfl (Nat.le_trans hbase F.below.size)), ?_⟩
        exact trivial
      intro E' hE gp wp bp G Gs
      simp only [subs, List.map_cons, List.map_nil, List.nil_append, List.cons_append, List.mem_cons, List.not_mem_nil, or_false, List.append_nil] at hE
      rcases hE with rfl | rfl
      · obtain ⟨g9, e_5, lg_5, hv_5⟩ := G 5 9 _ (by simp) rfl
        have n_3 : (Sp.nat (M)).p wp (gp 3) := G 3 27 _ (by simp) rfl
        have e_4 : gp 4 = Value.int IntKind.i64 0 := G 4 28 _ (by simp) rfl
        clear G Gs
        simp only [fP3ftT13]
        simp only [qA, setD, qZ, qS, e_5, e_4]
        have T0 := hv_5
        refine wpAny_storeN (j := 6) (by kernel_rfl) rfl rfl rfl rfl rfl n_3 T0.any ?_
        intro w0 u0 v0
        have O0 := T0.own
        refine wpAny_takeD (i := 7) (d := some 10) (v := Value.int IntKind.i64 0) rfl rfl (by kernel_rfl) (by kernel_rfl) (by kernel_rfl) (fun _ _ _ h => h) (Or.inl ⟨by rfl, fun w => by rfl⟩) ?_
        try simp only [qP, qZ, qS]
        refine wpAny_done (by kernel_rfl) ?_ _
        go_wp2_with fail
        go_meet
        case rel => exact ⟨g9, rfl, rfl, (by omega), v0, ((V0.mono bp V0.lt).upd O0 u0 (by omega)), (Upd.below (hb1.trans (bp.mono hb1.size)) u0 (by omega))⟩
      · obtain ⟨g9, e_5, lg_5, hv_5⟩ := G 5 9 _ (by simp) rfl
        obtain ⟨x_2_0, x_2_1, e_2, n_2_0, rfl⟩ := G 2 24 _ (by simp) rfl
        have n_3 : (Sp.nat (M)).p wp (gp 3) := G 3 27 _ (by simp) rfl
        clear G Gs
        simp only [fP3ftT13]
        simp only [qA, setD, qZ, qS, e_5, e_2]
        refine wpAny_takeD (i := 4) (d := some 28) (v := Value.int IntKind.i64 0) rfl rfl (by kernel_rfl) (by kernel_rfl) (by kernel_rfl) (fun _ _ _ h => h) (Or.inl ⟨by rfl, fun w => by rfl⟩) ?_
        try simp only [qP, qZ, qS]
        have T0 := hv_5
        refine wpAny_storeN (j := 6) (by kernel_rfl) rfl rfl rfl rfl rfl n_3 T0.any ?_
        intro w0 u0 v0
        have O0 := T0.own
        refine wpAny_takeD (i := 7) (d := some 10) (v := Value.int IntKind.i64 0) rfl rfl (by kernel_rfl) (by kernel_rfl) (by kernel_rfl) (fun _ _ _ h => h) (Or.inl ⟨by rfl, fun w => by rfl⟩) ?_
        try simp only [qP, qZ, qS]
        refine wpAny_done (by kernel_rfl) ?_ _
        go_wp2_with fail
        go_meet
        case rel => exact ⟨g9, rfl, rfl, (by omega), v0, ((V0.mono bp V0.lt).upd O0 u0 (by omega)), (Upd.below (hb1.trans (bp.mono hb1.size)) u0 (by omega))⟩
    case rest =>
    clear V0 hb1
    obtain ⟨g9, rfl, rfl, lg9, V9, V0, hb1⟩ := hcut
    go_upto_region 4 with (fail)
    go_cut [30] (fun s_30 wx => s_30 = Value.bool false ∧ VarFB wx w.heap.size false none 0 0 none 0 0 ∧ VarI wx g9 M ∧ Below w.heap.size w wx)
    case first =>
      refine wp_tabGF Tryz.f48 4 (fP3ftT14 ) [] (fun _ => false) 2 0 (by kernel_rfl) (by kernel_rfl) (by kernel_rfl) (by kernel_rfl) (by kernel_rfl) (EachX.of_all (fun _ h => by cases h) _) ?_ ?_
      · refine ⟨fun _ _ F => gR rfl rfl (arm_move (.inl rfl) (F.k 10 (Value.int IntKind.i64 0))).b, ?_⟩
        refine ⟨fun _ _ F => gR rfl rfl (arm_bin rfl (F.f 0 rfl) Is.const (fun _ => rfl) (fun _ => rfl)).b, ?_⟩
        exact trivial
      intro E' hE gp wp bp G Gs
      obtain rfl : E' = [] := by simpa [subs] using hE
      have e_1 : gp 1 = Value.bool false := G 1 30 _ (by simp) rfl
      clear G Gs hE
      simp only [fP3ftT14]
      simp only [qA, setD, qZ, qS, e_1]
      refine wpAny_done (by kernel_rfl) ?_ _
      go_wp2_with fail
      go_meet
      case rel => exact ⟨rfl, (V0.mono bp V0.lt), (V9.mono bp), (hb1.trans (bp.mono hb1.size))⟩
    case rest =>
    clear V0 V9 hb1
    obtain ⟨rfl, V0, V9, hb1⟩ := hcut
    go_upto_region 6 with (fail)
    go_cut [11] (fun s_11 wx => ∃ g11, s_11 = Value.pointer (some ⟨g11, 0, none⟩) ∧ w.heap.size + 1 ≤ g11 ∧ g9 < g11 ∧ VarI wx g11 1 ∧ VarFB wx w.heap.size false none 0 0 none 0 0 ∧ VarI wx g9 M ∧ Below w.heap.size w wx)
    case first =>
      obtain ⟨base, hbase0⟩ : ∃ b : Nat, Hid (b = wc.heap.size) := ⟨_, Lib.hid rfl⟩
      have hbase : base ≤ wc.heap.size := by rw [hbase0.out]; exact Nat.le_refl _
      have hbw : w.heap.size + 1 ≤ base := by have := hb1.size; have h1 := V0.lt; rw [hbase0.out]; omega
      have l_V0 : w.heap.size < base := by rw [hbase0.out]; exact V0.lt
      have l_V9 : g9 < base := by rw [hbase0.out]; exact V9.lt
      refine wp_tabGF Tryz.f48 6 (fP3ftT15 base) [] (fun i => i == 1) 2 1 (by kernel_rfl) (by kernel_rfl) (by kernel_rfl) (by kernel_rfl) (by kernel_rfl) ⟨fun h => (by cases h), ⟨fun _ w v h => Sp.var_lt h, trivial⟩⟩ ?_ ?_
      · refine ⟨fun _ _ F => gR rfl rfl (arm_C1 rfl (enters Tryz.func66 rfl rfl) Is.const (fun va w h1 => by have e_va : va = _ := h1; subst e_va; exact c_natural_Of 1 w (by decide)) (fun _ _ h => ofNew h)).b, ?_⟩
        refine ⟨fun _ _ F => gR rfl rfl (arm_alloc rfl (Nat.le_trans hbase F.below.size)), ?_⟩
        exact trivial
      intro E' hE gp wp bp G Gs
      obtain rfl : E' = [] := by simpa [subs] using hE
      obtain ⟨g11, e_1, lg_1, hv_1⟩ := G 1 11 _ (by simp) rfl
      have n_0 : (Sp.nat (1)).p wp (gp 0) := G 0 33 _ (by simp) rfl
      clear G Gs hE
      simp only [fP3ftT15]
      simp only [qA, setD, qZ, qS, e_1]
      have T0 := hv_1
      refine wpAny_storeN (j := 2) (by kernel_rfl) rfl rfl rfl rfl rfl n_0 T0.any ?_
      intro w0 u0 v0
      have O0 := T0.own
      refine wpAny_done (by kernel_rfl) ?_ _
      go_wp2_with fail
      go_meet
      case rel => exact ⟨g11, rfl, (by omega), (by omega), v0, ((V0.mono bp V0.lt).upd O0 u0 (by omega)), ((V9.mono bp).upd O0 u0 (by omega)), (Upd.below (hb1.trans (bp.mono hb1.size)) u0 (by omega))⟩
    case rest =>
    clear V0 V9 hb1
    obtain ⟨g11, rfl, lg11, d6_0, V11, V0, V9, hb1⟩ := hcut
    go_upto_region 7 with (fail)
    go_cut [34] (fun s_34 wx => s_34 = Value.bool true ∧ VarFB wx w.heap.size false none 0 0 none 0 0 ∧ VarI wx g9 M ∧ VarI wx g11 1 ∧ Below w.heap.size w wx)
    case first =>
      refine wp_tabGF Tryz.f48 7 (fP3ftT16 ) [] (fun _ => false) 2 0 (by kernel_rfl) (by kernel_rfl) (by kernel_rfl) (by kernel_rfl) (by kernel_rfl) (EachX.of_all (fun _ h => by cases h) _) ?_ ?_
      · refine ⟨fun _ _ F => gR rfl rfl (arm_move (.inl rfl) (F.k 8 (Value.bool true))).b, ?_⟩
        exact trivial
      intro E' hE gp wp bp G Gs
      obtain rfl : E' = [] := by simpa [subs] using hE
      have e_0 : gp 0 = Value.bool true := G 0 34 _ (by simp) rfl
      clear G Gs hE
      simp only [fP3ftT16]
      simp only [qA, setD, qZ, qS, e_0]
      refine wpAny_done (by kernel_rfl) ?_ _
      go_wp2_with fail
      go_meet
      case rel => exact ⟨rfl, (V0.mono bp V0.lt), (V9.mono bp), (V11.mono bp), (hb1.trans (bp.mono hb1.size))⟩
    case rest =>
    clear V0 V9 V11 hb1
    obtain ⟨rfl, V0, V9, V11, hb1⟩ := hcut
    go_upto_region 8 with (fail)
    go_cut [10] (fun s_10 wx => s_10 = Value.int IntKind.i64 0 ∧ VarFB wx w.heap.size false none 0 0 none 0 0 ∧ VarI wx g9 M ∧ VarI wx g11 N ∧ Below w.heap.size w wx)
    case first =>
      refine wp_tabGF Tryz.f48 8 (fP3ftT17 b N) [4] (fun _ => false) 6 2 (by kernel_rfl) (by kernel_rfl) (by kernel_rfl) (by kernel_rfl) (by kernel_rfl) (EachX.of_all (fun _ h => by cases h) _) ?_ ?_
      · refine ⟨fun _ _ F => gR rfl rfl (arm_move (.inl rfl) (F.k 7 (Value.string b))).b, ?_⟩
        refine ⟨fun _ _ F => gR rfl rfl (arm_C1 rfl (enters Tryz.func73 rfl rfl) (F.f 0 rfl) (fun va w h1 => by have e_va : va = _ := h1; subst e_va; exact c_natural_Parse b w _ _ hb) (fun _ _ h => ofP h)).b, ?_⟩
        refine ⟨fun _ _ F => gR rfl rfl (arm_move (.inl rfl) (F.f 1 rfl)).b, ?_⟩
        refine ⟨fun _ _ F => gR rfl rfl (arm_pair0 rfl (F.f 2 rfl)).b, ?_⟩
        refine ⟨fun _ _ F => gR rfl rfl (arm_pair1 rfl (F.f 2 rfl)).b, ?_⟩
        exact trivial
      intro E' hE gp wp bp G Gs
      simp only [subs, List.map_cons, List.map_nil, List.nil_append, List.cons_append, List.mem_cons, List.not_mem_nil, or_false, List.append_nil] at hE
      rcases hE with rfl | rfl
      · have n_3 : (Sp.nat (N)).p wp (gp 3) := G 3 38 _ (by simp) rfl
        have e_4 : gp 4 = Value.int IntKind.i64 0 := G 4 39 _ (by simp) rfl
        clear G Gs
        simp only [fP3ftT17]
        simp only [qA, setD, qZ, qS, e_4]
        have T0 := (V11.mono bp)
        refine wpAny_storeN (j := 5) (by kernel_rfl) rfl rfl rfl rfl rfl n_3 T0.any ?_
        intro w0 u0 v0
        have O0 := T0.own
        refine wpAny_takeD (i := 6) (d := some 10) (v := Value.int IntKind.i64 0) rfl rfl (by kernel_rfl) (by kernel_rfl) (by kernel_rfl) (fun _ _ _ h => h) (Or.inl ⟨by rfl, fun w => by rfl⟩) ?_
        try simp only [qP, qZ, qS]
        refine wpAny_done (by kernel_rfl) ?_ _
        go_wp2_with fail
        go_meet
        case rel => exact ⟨rfl, ((V0.mono bp V0.lt).upd O0 u0 (by omega)), ((V9.mono bp).upd O0 u0 (by omega)), v0, (Upd.below (hb1.trans (bp.mono hb1.size)) u0 (by omega))⟩
      · obtain ⟨x_2_0, x_2_1, e_2, n_2_0, rfl⟩ := G 2 35 _ (by simp) rfl
        have n_3 : (Sp.nat (N)).p wp (gp 3) := G 3 38 _ (by simp) rfl
        clear G Gs
        simp only [fP3ftT17]
        simp only [qA, setD, qZ, qS, e_2]
        refine wpAny_takeD (i := 4) (d := some 39) (v := Value.int IntKind.i64 0) rfl rfl (by kernel_rfl) (by kernel_rfl) (by kernel_rfl) (fun _ _ _ h => h) (Or.inl ⟨by rfl, fun w => by rfl⟩) ?_
        try simp only [qP, qZ, qS]
        have T0 := (V11.mono bp)
        refine wpAny_storeN (j := 5) (by kernel_rfl) rfl rfl rfl rfl rfl n_3 T0.any ?_
        intro w0 u0 v0
        have O0 := T0.own
        refine wpAny_takeD (i := 6) (d := some 10) (v := Value.int IntKind.i64 0) rfl rfl (by kernel_rfl) (by kernel_rfl) (by kernel_rfl) (fun _ _ _ h => h) (Or.inl ⟨by rfl, fun w => by rfl⟩) ?_
        try simp only [qP, qZ, qS]
        refine wpAny_done (by kernel_rfl) ?_ _
        go_wp2_with fail
        go_meet
        case rel => exact ⟨rfl, ((V0.mono bp V0.lt).upd O0 u0 (by omega)), ((V9.mono bp).upd O0 u0 (by omega)), v0, (Upd.below (hb1.trans (bp.mono hb1.size)) u0 (by omega))⟩
    case rest =>
    clear V0 V9 V11 hb1
    obtain ⟨rfl, V0, V9, V11, hb1⟩ := hcut
    go_upto_region 9 with (fail)
    go_cut [41] (fun s_41 wx => s_41 = Value.bool false ∧ VarFB wx w.heap.size false none 0 0 none 0 0 ∧ VarI wx g9 M ∧ VarI wx g11 N ∧ Below w.heap.size w wx)
    case first =>
      refine wp_tabGF Tryz.f48 9 (fP3ftT18 ) [] (fun _ => false) 2 0 (by kernel_rfl) (by kernel_rfl) (by kernel_rfl) (by kernel_rfl) (by kernel_rfl) (EachX.of_all (fun _ h => by cases h) _) ?_ ?_
      · refine ⟨fun _ _ F => gR rfl rfl (arm_move (.inl rfl) (F.k 10 (Value.int IntKind.i64 0))).b, ?_⟩
        refine ⟨fun _ _ F => gR rfl rfl (arm_bin rfl (F.f 0 rfl) Is.const (fun _ => rfl) (fun _ => rfl)).b, ?_⟩
        exact trivial
      intro E' hE gp wp bp G Gs
      obtain rfl : E' = [] := by simpa [subs] using hE
      have e_1 : gp 1 = Value.bool false := G 1 41 _ (by simp) rfl
      clear G Gs hE
      simp only [fP3ftT18]
      simp only [qA, setD, qZ, qS, e_1]
      refine wpAny_done (by kernel_rfl) ?_ _
      go_wp2_with fail
      go_meet
      case rel => exact ⟨rfl, (V0.mono bp V0.lt), (V9.mono bp), (V11.mono bp), (hb1.trans (bp.mono hb1.size))⟩
    case rest =>
    clear V0 V9 V11 hb1
    obtain ⟨rfl, V0, V9, V11, hb1⟩ := hcut
    go_upto_region 11 with (fail)
    go_cut [12] (fun s_12 wx => ∃ g12, s_12 = Value.pointer (some ⟨g12, 0, none⟩) ∧ w.heap.size + 1 ≤ g12 ∧ g9 < g12 ∧ g11 < g12 ∧ VarQ wx g12 (Fq.mk B M N) ∧ VarFB wx w.heap.size false none 0 0 none 0 0 ∧ VarI wx g9 M ∧ VarI wx g11 N ∧ Below w.heap.size w wx)
    case first =>
      obtain ⟨base, hbase0⟩ : ∃ b : Nat, Hid (b = wc.heap.size) := ⟨_, Lib.hid rfl⟩
      have hbase : base ≤ wc.heap.size := by rw [hbase0.out]; exact Nat.le_refl _
      have hbw : w.heap.size + 1 ≤ base := by have := hb1.size; have h1 := V0.lt; rw [hbase0.out]; omega
      have l_V0 : w.heap.size < base := by rw [hbase0.out]; exact V0.lt
      have l_V9 : g9 < base := by rw [hbase0.out]; exact V9.lt
      have l_V11 : g11 < base := by rw [hbase0.out]; exact V11.lt
      refine wp_tabGF Tryz.f48 11 (fP3ftT19 B M N base) [] (fun i => i == 4) 3 1 (by kernel_rfl) (by kernel_rfl) (by kernel_rfl) (by kernel_rfl) (by kernel_rfl) ⟨fun h => (by cases h), ⟨fun h => (by cases h), ⟨fun h => (by cases h), ⟨fun h => (by cases h), ⟨fun _ w v h => Sp.varF_lt h, trivial⟩⟩⟩⟩⟩ ?_ ?_
      · refine ⟨fun _ _ F => gR rfl rfl (arm_move (.inl rfl) (F.k 5 (Value.bool B))).b, ?_⟩
        refine ⟨fun _ _ F => gR rfl rfl (arm_load rfl (F.k 9 (Value.pointer (some ⟨g9, 0, none⟩))) (V9.mono F.below)).b, ?_⟩
        refine ⟨fun _ _ F => gR rfl rfl (arm_load rfl (F.k 11 (Value.pointer (some ⟨g11, 0, none⟩))) (V11.mono F.below)).b, ?_⟩
        refine ⟨fun _ _ F => gR rfl rfl (arm_buildF rfl (F.f 0 rfl) (F.f 1 rfl) (F.f 2 rfl)).b, ?_⟩
        refine ⟨fun _ _ F => gR rfl rfl (arm_allocF rfl (Nat.le_trans hbase F.below.size)), ?_⟩
        exact trivial
      intro E' hE gp wp bp G Gs
      obtain rfl : E' = [] := by simpa [subs] using hE
      obtain ⟨g12, e_4, lg_4, hv_4⟩ := G 4 12 _ (by simp) rfl
      have n_3 : (Sp.fq (Fq.mk B M N)).p wp (gp 3) := G 3 47 _ (by simp) rfl
      clear G Gs hE
      simp only [fP3ftT19]
      simp only [qA, setD, qZ, qS, e_4]
      have T0 := hv_4
      refine wpAny_storeFr (j := 5) (by kernel_rfl) rfl rfl rfl rfl rfl n_3 T0.any ?_
      intro w0 u0 v0
      have O0 := T0.own
      refine wpAny_done (by kernel_rfl) ?_ _
      go_wp2_with fail
      go_meet
      case rel => exact ⟨g12, rfl, (by omega), (by omega), (by omega), v0, ((V0.mono bp V0.lt).upd O0 u0 (by omega)), ((V9.mono bp).upd O0 u0 (by omega)), ((V11.mono bp).upd O0 u0 (by omega)), (Upd.below (hb1.trans (bp.mono hb1.size)) u0 (by omega))⟩
    case rest =>
    clear V0 V9 V11 hb1
    obtain ⟨g12, rfl, lg12, d11_0, d11_1, V12, V0, V9, V11, hb1⟩ := hcut
    go_upto_region 12 with (fail)
    go_cut [58] (fun s_58 wx => s_58 = Value.bool true ∧ VarFB wx w.heap.size false none 0 0 none 0 0 ∧ VarI wx g9 M ∧ VarI wx g11 N ∧ VarQ wx g12 (Fq.mk B M N) ∧ Below w.heap.size w wx)
    case first =>
      refine wp_tabGF Tryz.f48 12 (fP3ftT20 B M N) [] (fun _ => false) 11 0 (by kernel_rfl) (by kernel_rfl) (by kernel_rfl) (by kernel_rfl) (by kernel_rfl) (EachX.of_all (fun _ h => by cases h) _) ?_ ?_
      · refine ⟨fun _ _ F => gR rfl rfl (arm_move (.inl rfl) (F.k 8 (Value.bool true))).b, ?_⟩
        refine ⟨fun _ _ F => gR rfl rfl (arm_move (.inl rfl) (F.f 0 rfl)).b, ?_⟩
        refine ⟨fun _ _ F => gG F rfl rfl rfl rfl (arm_load rfl (F.k 11 (Value.pointer (some ⟨g11, 0, none⟩))) (V11.mono F.below)).b, ?_⟩
        refine ⟨fun _ _ F => gG F rfl rfl rfl rfl (arm_ones rfl (F.f 2 rfl)).b, ?_⟩
        refine ⟨fun _ _ F => gG F rfl rfl rfl rfl (arm_C1 rfl (enters Tryz.func74 rfl rfl) (F.f 3 rfl) (fun va w h1 => c_one1 va N w h1 bN) (fun _ _ h => by have h' : RetV _ _ _ _ := h; rw [H1.out] at h'; exact ofV h')).b, ?_⟩
        refine ⟨fun _ _ F => gR rfl rfl (arm_pick rfl (F.f 1 rfl) (fun _ => (F.f 4 rfl)) (fun h => by cases h)).b, ?_⟩
        refine ⟨fun _ _ F => gR rfl rfl (arm_move (.inl rfl) (F.f 5 rfl)).b, ?_⟩
        refine ⟨fun _ _ F => gG F rfl rfl rfl rfl (arm_loadF rfl (F.k 12 (Value.pointer (some ⟨g12, 0, none⟩))) (V12.mono F.below)).b, ?_⟩
        refine ⟨fun _ _ F => gG F rfl rfl rfl rfl (arm_C1 rfl (enters Tryz.func75 rfl rfl) (F.f 7 rfl) (fun va w h1 => q_fValid va (Fq.mk B M N) w h1 bM' bN') (fun _ _ h => by have h' : RetV _ _ _ _ := h; rw [HV.out] at h'; exact ofV h')).b, ?_⟩
        refine ⟨fun _ _ F => gG F rfl rfl rfl rfl (arm_not rfl (F.f 8 rfl)).b, ?_⟩
        refine ⟨fun _ _ F => gR rfl rfl (arm_pick rfl (F.f 6 rfl) (fun h => by cases h) (fun _ => (F.f 9 rfl))).b, ?_⟩
        exact trivial
      intro E' hE gp wp bp G Gs
      obtain rfl : E' = [] := by simpa [subs] using hE
      have e_10 : gp 10 = Value.bool true := G 10 58 _ (by simp) rfl
      clear G Gs hE
      simp only [fP3ftT20]
      simp only [qA, setD, qZ, qS, e_10]
      refine wpAny_done (by kernel_rfl) ?_ _
      go_wp2_with fail
      go_meet
      case rel => exact ⟨rfl, (V0.mono bp V0.lt), (V9.mono bp), (V11.mono bp), (V12.mono bp), (hb1.trans (bp.mono hb1.size))⟩
    case rest =>
    clear V0 V9 V11 V12 hb1
    obtain ⟨rfl, V0, V9, V11, V12, hb1⟩ := hcut
    go_upto_region 13 with (fail)
    go_cut [3] (fun s_3 wx => s_3 = Value.int IntKind.i64 2 ∧ VarQ wx w.heap.size Fq.zero ∧ VarI wx g9 M ∧ VarI wx g11 N ∧ VarQ wx g12 (Fq.mk B M N) ∧ Below w.heap.size w wx)
    case first =>
      refine wp_tabGF Tryz.f48 13 (fP3ftT21 ) [] (fun _ => false) 3 2 (by kernel_rfl) (by kernel_rfl) (by kernel_rfl) (by kernel_rfl) (by kernel_rfl) (EachX.of_all (fun _ h => by cases h) _) ?_ ?_
      · refine ⟨fun _ _ F => gR rfl rfl (arm_build0F rfl).b, ?_⟩
        exact trivial
      intro E' hE gp wp bp G Gs
      obtain rfl : E' = [] := by simpa [subs] using hE
      have n_0 : (Sp.fq Fq.zero).p wp (gp 0) := G 0 59 _ (by simp) rfl
      clear G Gs hE
      simp only [fP3ftT21]
      simp only [qA, setD, qZ, qS]
      have T0 := (V0.mono bp V0.lt)
      refine wpAny_storeFr (j := 1) (by kernel_rfl) rfl rfl rfl rfl rfl n_0 T0.any ?_
      intro w0 u0 v0
      have O0 := T0.own
      refine wpAny_takeD (i := 2) (d := some 3) (v := Value.int IntKind.i64 2) rfl rfl (by kernel_rfl) (by kernel_rfl) (by kernel_rfl) (fun _ _ _ h => h) (Or.inl ⟨by rfl, fun w => by rfl⟩) ?_
      try simp only [qP, qZ, qS]
      refine wpAny_done (by kernel_rfl) ?_ _
      go_wp2_with fail
      go_meet
      case rel => exact ⟨rfl, v0, ((V9.mono bp).upd O0 u0 (by omega)), ((V11.mono bp).upd O0 u0 (by omega)), ((V12.mono bp).upd O0 u0 (by omega)), (Upd.below (hb1.trans (bp.mono hb1.size)) u0 (by omega))⟩
    case rest =>
    clear V0 V9 V11 V12 hb1
    obtain ⟨rfl, V0, V9, V11, V12, hb1⟩ := hcut
    obtain ⟨r1, r2, r3, r4, rV, rn, rm⟩ := V0
    have c0 := rV.cell0
    have c1 := rV.cell1
    have c2 := rV.cell2
    go_wp2
    exact bodyPost_ret (res_FE rfl rfl rfl rV) rfl ⟨_, rfl, ⟨r1, r2, r3, r4, rfl, rn, rm⟩, hb1⟩
def fP3ffT0 (s : ByteArray) (t : ByteArray) (B : Bool) : List (Nat × Tmp × Sp) :=
   [(0, 14, .val (Value.string s)),
    (1, 15, .pair (.val (Value.string t)) (.val (Value.bool B))),
    (2, 13, .pair (.val (Value.string t)) (.val (Value.bool B))),
    (3, 16, .val (Value.string t)),
    (4, 17, .val (Value.bool B)),
    (5, 4, .val (Value.string t)),
    (6, 5, .val (Value.bool B))]
def fP3ffT1 (t : ByteArray) (a : ByteArray) (b : ByteArray) : List (Nat × Tmp × Sp) :=
   [(0, 19, .val (Value.string t)),
    (1, 20, .trip (.val (Value.string a)) (.val (Value.string b)) (.val (Value.bool false))),
    (2, 18, .trip (.val (Value.string a)) (.val (Value.string b)) (.val (Value.bool false))),
    (3, 21, .val (Value.string a)),
    (4, 22, .val (Value.string b)),
    (5, 23, .val (Value.bool false)),
    (6, 6, .val (Value.string a)),
    (7, 7, .val (Value.string b)),
    (8, 8, .val (Value.bool false))]
def fP3ffT2 (a : ByteArray) (M : Nat) (base : Nat) : List (Nat × Tmp × Sp) :=
   [(0, 25, .val (Value.string a)),
    (1, 26, .pair (.nat (M)) (.val (Value.int IntKind.i64 0))),
    (2, 24, .pair (.nat (M)) (.val (Value.int IntKind.i64 0))),
    (3, 27, .nat (M)),
    (4, 28, .val (Value.int IntKind.i64 0)),
    (5, 9, .var base)]
def fP3ffT3  : List (Nat × Tmp × Sp) :=
   [(0, 29, .val (Value.int IntKind.i64 0)),
    (1, 30, .val (Value.bool false))]
def fP3ffT4 (base : Nat) : List (Nat × Tmp × Sp) :=
   [(0, 33, .nat (1)),
    (1, 11, .var base)]
def fP3ffT5  : List (Nat × Tmp × Sp) :=
   [(0, 34, .val (Value.bool false))]
def fP3ffT6 (B : Bool) (M : Nat) (base : Nat) : List (Nat × Tmp × Sp) :=
   [(0, 44, .val (Value.bool B)),
    (1, 45, .nat (M)),
    (2, 46, .nat (1)),
    (3, 47, .fq (Fq.mk B M 1)),
    (4, 12, .varF base)]
def fP3ffT7 (B : Bool) (M : Nat) : List (Nat × Tmp × Sp) :=
   [(0, 48, .val (Value.bool false)),
    (1, 49, .val (Value.bool false)),
    (2, 50, .val undef),
    (3, 51, .val undef),
    (4, 52, .val undef),
    (5, 53, .val (Value.bool false)),
    (6, 54, .val (Value.bool false)),
    (7, 55, .fq (Fq.mk B M 1)),
    (8, 56, .val (Value.bool false)),
    (9, 57, .val (Value.bool true)),
    (10, 58, .val (Value.bool true))]
def fP3ffT8  : List (Nat × Tmp × Sp) :=
   [(0, 59, .fq Fq.zero)]
set_option maxHeartbeats 4000000 in
theorem fP_bad_false (s t a b : ByteArray) (B : Bool) (M : Nat) (w : World) (HP : Pieces s t B false a b) (hs : s.size ≤ 4294967280) (ha : ParseIs a M 0) (hv : parseV B false M 1 = false) :
    Calls Tryz.prog 48 #[.string s] w fun e w' => RetQE w .zero 2 e w' := by
  have hts : t.size ≤ 4294967280 := Nat.le_trans (pieces_size HP) hs
  have bM : nl M ≤ 1000000000000 := Nat.le_trans (parse_nlU ha) (by decide)
  have bM' : nl M ≤ 1000000 := Nat.le_trans (parse_nlU ha) (by decide)
  have HV : Hid ((Fq.mk B M 1).valid = false) := Lib.hid hv
  clear hv
  obtain ⟨m0, k0⟩ := resF (w := w)
  go_enter Tryz.func48, Tryz.ntmps48
  go_upto_region 0 with (fail)
  go_cut [2, 3] (fun s_2 s_3 wx => s_2 = Value.pointer (some ⟨w.heap.size, 0, none⟩) ∧ s_3 = Value.int IntKind.i64 0 ∧ VarFB wx w.heap.size false none 0 0 none 0 0 ∧ Below w.heap.size w wx)
  case first =>
    go_wp2_with fail
    go_meet
    case rel => exact ⟨rfl, rfl, k0, m0⟩
  case rest =>
  clear m0 k0
  obtain ⟨rfl, rfl, V0, hb1⟩ := hcut
  go_upto_region 1 with (fail)
  go_cut [4, 5] (fun s_4 s_5 wx => s_4 = Value.string t ∧ s_5 = Value.bool B ∧ VarFB wx w.heap.size false none 0 0 none 0 0 ∧ Below w.heap.size w wx)
  case first =>
    refine wp_tabGF Tryz.f48 1 (fP3ffT0 s t B) [] (fun _ => false) 6 0 (by kernel_rfl) (by kernel_rfl) (by kernel_rfl) (by kernel_rfl) (by kernel_rfl) (EachX.of_all (fun _ h => by cases h) _) ?_ ?_
    · refine ⟨fun _ _ F => gR rfl rfl (arm_move (.inl rfl) (F.k 0 (Value.string s))).b, ?_⟩
      refine ⟨fun _ _ F => gR rfl rfl (arm_C2 rfl (enters Tryz.func71 rfl rfl) (F.f 0 rfl) Is.const (fun va vb w h1 h2 => by have e_va : va = _ := h1; subst e_va; have e_vb : vb = _ := h2; subst e_vb; exact c_CutPrefix _ _ _ w HP.sign HP.rest) (fun _ _ h => ofPair h)).b, ?_⟩
      refine ⟨fun _ _ F => gR rfl rfl (arm_move (.inl rfl) (F.f 1 rfl)).b, ?_⟩
      refine ⟨fun _ _ F => gR rfl rfl (arm_pair0 rfl (F.f 2 rfl)).b, ?_⟩
      refine ⟨fun _ _ F => gR rfl rfl (arm_pair1 rfl (F.f 2 rfl)).b, ?_⟩
      refine ⟨fun _ _ F => gR rfl rfl (arm_move (.inr rfl) (F.f 3 rfl)).b, ?_⟩
      refine ⟨fun _ _ F => gR rfl rfl (arm_move (.inr rfl) (F.f 4 rfl)).b, ?_⟩
      exact trivial
    intro E' hE gp wp bp G Gs
    obtain rfl : E' = [] := by simpa [subs] using hE
    have e_5 : gp 5 = Value.string t := G 5 4 _ (by simp) rfl
    have e_6 : gp 6 = Value.bool B := G 6 5 _ (by simp) rfl
    clear G Gs hE
    simp only [fP3ffT0]
    simp only [qA, setD, qZ, qS, e_5, e_6]
    refine wpAny_done (by kernel_rfl) ?_ _
    go_wp2_with fail
    go_meet
    case rel => exact ⟨rfl, rfl, (V0.mono bp V0.lt), (hb1.trans (bp.mono hb1.size))⟩
  case rest =>
  clear V0 hb1
  obtain ⟨rfl, rfl, V0, hb1⟩ := hcut
  go_upto_region 2 with (fail)
  go_cut [6, 7, 8] (fun s_6 s_7 s_8 wx => s_6 = Value.string a ∧ s_7 = Value.string b ∧ s_8 = Value.bool false ∧ VarFB wx w.heap.size false none 0 0 none 0 0 ∧ Below w.heap.size w wx)
  case first =>
    refine wp_tabGF Tryz.f48 2 (fP3ffT1 t a b) [] (fun _ => false) 7 0 (by kernel_rfl) (by kernel_rfl) (by kernel_rfl) (by kernel_rfl) (by kernel_rfl) (EachX.of_all (fun _ h => by cases h) _) ?_ ?_
    · refine ⟨fun _ _ F => gR rfl rfl (arm_move (.inl rfl) (F.k 4 (Value.string t))).b, ?_⟩
      refine ⟨fun _ _ F => gR rfl rfl (arm_C2 rfl (enters Tryz.func72 rfl rfl) (F.f 0 rfl) Is.const (fun va vb w h1 h2 => by have e_va : va = _ := h1; subst e_va; have e_vb : vb = _ := h2; subst e_vb; exact cut_piece HP w hts) (fun _ _ h => ofTrip h)).b, ?_⟩
      refine ⟨fun _ _ F => gR rfl rfl (arm_move (.inl rfl) (F.f 1 rfl)).b, ?_⟩
      refine ⟨fun _ _ F => gR rfl rfl (arm_trip0 rfl (F.f 2 rfl)).b, ?_⟩
      refine ⟨fun _ _ F => gR rfl rfl (arm_trip1 rfl (F.f 2 rfl)).b, ?_⟩
      refine ⟨fun _ _ F => gR rfl rfl (arm_trip2 rfl (F.f 2 rfl)).b, ?_⟩
      refine ⟨fun _ _ F => gR rfl rfl (arm_move (.inr rfl) (F.f 3 rfl)).b, ?_⟩
      refine ⟨fun _ _ F => gR rfl rfl (arm_move (.inr rfl) (F.f 4 rfl)).b, ?_⟩
      refine ⟨fun _ _ F => gR rfl rfl (arm_move (.inr rfl) (F.f 5 rfl)).b, ?_⟩
      exact trivial
    intro E' hE gp wp bp G Gs
    obtain rfl : E' = [] := by simpa [subs] using hE
    have e_6 : gp 6 = Value.string a := G 6 6 _ (by simp) rfl
    have e_7 : gp 7 = Value.string b := G 7 7 _ (by simp) rfl
    have e_8 : gp 8 = Value.bool false := G 8 8 _ (by simp) rfl
    clear G Gs hE
    simp only [fP3ffT1]
    simp only [qA, setD, qZ, qS, e_6, e_7, e_8]
    refine wpAny_done (by kernel_rfl) ?_ _
    go_wp2_with fail
    go_meet
    case rel => exact ⟨rfl, rfl, rfl, (V0.mono bp V0.lt), (hb1.trans (bp.mono hb1.size))⟩
  case rest =>
  clear V0 hb1
  obtain ⟨rfl, rfl, rfl, V0, hb1⟩ := hcut
  go_upto_region 3 with (fail)
  go_cut [9, 10] (fun s_9 s_10 wx => ∃ g9, s_9 = Value.pointer (some ⟨g9, 0, none⟩) ∧ s_10 = Value.int IntKind.i64 0 ∧ w.heap.size + 1 ≤ g9 ∧ VarI wx g9 M ∧ VarFB wx w.heap.size false none 0 0 none 0 0 ∧ Below w.heap.size w wx)
  case first =>
    obtain ⟨base, hbase0⟩ : ∃ b : Nat, Hid (b = wc.heap.size) := ⟨_, Lib.hid rfl⟩
    have hbase : base ≤ wc.heap.size := by rw [hbase0.out]; exact Nat.le_refl _
    have hbw : w.heap.size + 1 ≤ base := by have := hb1.size; have h1 := V0.lt; rw [hbase0.out]; omega
    have l_V0 : w.heap.size < base := by rw [hbase0.out]; exact V0.lt
    refine wp_tabGF Tryz.f48 3 (fP3ffT2 a M base) [4] (fun i => i == 5) 6 2 (by kernel_rfl) (by kernel_rfl) (by kernel_rfl) (by kernel_rfl) (by kernel_rfl) ⟨fun h => (by cases h), ⟨fun h => (by cases h), ⟨fun h => (by cases h), ⟨fun h => (by cases h), ⟨fun h => (by cases h), ⟨fun _ w v h => Sp.var_lt h, trivial⟩⟩⟩⟩⟩⟩ ?_ ?_
    · refine ⟨fun _ _ F => gR rfl rfl (arm_move (.inl rfl) (F.k 6 (Value.string a))).b, ?_⟩
      refine ⟨fun _ _ F => gR rfl rfl (arm_C1 rfl (enters Tryz.func73 rfl rfl) (F.f 0 rfl) (fun va w h1 => by have e_va : va = _ := h1; subst e_va; exact c_natural_Parse a w _ _ ha) (fun _ _ h => ofP h)).b, ?_⟩
      refine ⟨fun _ _ F => gR rfl rfl (arm_move (.inl rfl) (F.f 1 rfl)).b, ?_⟩
      refine ⟨fun _ _ F => gR rfl rfl (arm_pair0 rfl (F.f 2 rfl)).b, ?_⟩
      refine ⟨fun _ _ F => gR rfl rfl (arm_pair1 rfl (F.f 2 rfl)).b, ?_⟩
      refine ⟨fun _ _ F => gR rfl rfl (arm_alloc rfl (Nat.le_trans hbase F.below.size)), ?_⟩
      exact trivial
    intro E' hE gp wp bp G Gs
    simp only [subs, List.map_cons, List.map_nil, List.nil_append, List.cons_append, List.mem_cons, List.not_mem_nil, or_false, List.append_nil] at hE
    rcases hE with rfl | rfl
    · obtain ⟨g9, e_5, lg_5, hv_5⟩ := G 5 9 _ (by simp) rfl
      have n_3 : (Sp.nat (M)).p wp (gp 3) := G 3 27 _ (by simp) rfl
      have e_4 : gp 4 = Value.int IntKind.i64 0 := G 4 28 _ (by simp) rfl
      clear G Gs
      simp only [fP3ffT2]
      simp only [qA, setD, qZ, qS, e_5, e_4]
      have T0 := hv_5
      refine wpAny_storeN (j := 6) (by kernel_rfl) rfl rfl rfl rfl rfl n_3 T0.any ?_
      intro w0 u0 v0
      have O0 := T0.own
      refine wpAny_takeD (i := 7) (d := some 10) (v := Value.int IntKind.i64 0) rfl rfl (by kernel_rfl) (by kernel_rfl) (by kernel_rfl) (fun _ _ _ h => h) (Or.inl ⟨by rfl, fun w => by rfl⟩) ?_
      try simp only [qP, qZ, qS]
      refine wpAny_done (by kernel_rfl) ?_ _
      go_wp2_with fail
      go_meet
      case rel => exact ⟨g9, rfl, rfl, (by omega), v0, ((V0.mono bp V0.lt).upd O0 u0 (by omega)), (Upd.below (hb1.trans (bp.mono hb1.size)) u0 (by omega))⟩
    · obtain ⟨g9, e_5, lg_5, hv_5⟩ := G 5 9 _ (by simp) rfl
      obtain ⟨x_2_0, x_2_1, e_2, n_2_0, rfl⟩ := G 2 24 _ (by simp) rfl
      have n_3 : (Sp.nat (M)).p wp (gp 3) := G 3 27 _ (by simp) rfl
      clear G Gs
      simp only [fP3ffT2]
      simp only [qA, setD, qZ, qS, e_5, e_2]
      refine wpAny_takeD (i := 4) (d := some 28) (v := Value.int IntKind.i64 0) rfl rfl (by kernel_rfl) (by kernel_rfl) (by kernel_rfl) (fun _ _ _ h => h) (Or.inl ⟨by rfl, fun w => by rfl⟩) ?_
      try simp only [qP, qZ, qS]
      have T0 := hv_5
      refine wpAny_storeN (j := 6) (by kernel_rfl) rfl rfl rfl rfl rfl n_3 T0.any ?_
      intro w0 u0 v0
      have O0 := T0.own
      refine wpAny_takeD (i := 7) (d := some 10) (v := Value.int IntKind.i64 0) rfl rfl (by kernel_rfl) (by kernel_rfl) (by kernel_rfl) (fun _ _ _ h => h) (Or.inl ⟨by rfl, fun w => by rfl⟩) ?_
      try simp only [qP, qZ, qS]
      refine wpAny_done (by kernel_rfl) ?_ _
      go_wp2_with fail
      go_meet
      case rel => exact ⟨g9, rfl, rfl, (by omega), v0, ((V0.mono bp V0.lt).upd O0 u0 (by omega)), (Upd.below (hb1.trans (bp.mono hb1.size)) u0 (by omega))⟩
  case rest =>
  clear V0 hb1
  obtain ⟨g9, rfl, rfl, lg9, V9, V0, hb1⟩ := hcut
  go_upto_region 4 with (fail)
  go_cut [30] (fun s_30 wx => s_30 = Value.bool false ∧ VarFB wx w.heap.size false none 0 0 none 0 0 ∧ VarI wx g9 M ∧ Below w.heap.size w wx)
  case first =>
    refine wp_tabGF Tryz.f48 4 (fP3ffT3 ) [] (fun _ => false) 2 0 (by kernel_rfl) (by kernel_rfl) (by kernel_rfl) (by kernel_rfl) (by kernel_rfl) (EachX.of_all (fun _ h => by cases h) _) ?_ ?_
    · refine ⟨fun _ _ F => gR rfl rfl (arm_move (.inl rfl) (F.k 10 (Value.int IntKind.i64 0))).b, ?_⟩
      refine ⟨fun _ _ F => gR rfl rfl (arm_bin rfl (F.f 0 rfl) Is.const (fun _ => rfl) (fun _ => rfl)).b, ?_⟩
      exact trivial
    intro E' hE gp wp bp G Gs
    obtain rfl : E' = [] := by simpa [subs] using hE
    have e_1 : gp 1 = Value.bool false := G 1 30 _ (by simp) rfl
    clear G Gs hE
    simp only [fP3ffT3]
    simp only [qA, setD, qZ, qS, e_1]
    refine wpAny_done (by kernel_rfl) ?_ _
    go_wp2_with fail
    go_meet
    case rel => exact ⟨rfl, (V0.mono bp V0.lt), (V9.mono bp), (hb1.trans (bp.mono hb1.size))⟩
  case rest =>
  clear V0 V9 hb1
  obtain ⟨rfl, V0, V9, hb1⟩ := hcut
  go_upto_region 6 with (fail)
  go_cut [11] (fun s_11 wx => ∃ g11, s_11 = Value.pointer (some ⟨g11, 0, none⟩) ∧ w.heap.size + 1 ≤ g11 ∧ g9 < g11 ∧ VarI wx g11 1 ∧ VarFB wx w.heap.size false none 0 0 none 0 0 ∧ VarI wx g9 M ∧ Below w.heap.size w wx)
  case first =>
    obtain ⟨base, hbase0⟩ : ∃ b : Nat, Hid (b = wc.heap.size) := ⟨_, Lib.hid rfl⟩
    have hbase : base ≤ wc.heap.size := by rw [hbase0.out]; exact Nat.le_refl _
    have hbw : w.heap.size + 1 ≤ base := by have := hb1.size; have h1 := V0.lt; rw [hbase0.out]; omega
    have l_V0 : w.heap.size < base := by rw [hbase0.out]; exact V0.lt
    have l_V9 : g9 < base := by rw [hbase0.out]; exact V9.lt
    refine wp_tabGF Tryz.f48 6 (fP3ffT4 base) [] (fun i => i == 1) 2 1 (by kernel_rfl) (by kernel_rfl) (by kernel_rfl) (by kernel_rfl) (by kernel_rfl) ⟨fun h => (by cases h), ⟨fun _ w v h => Sp.var_lt h, trivial⟩⟩ ?_ ?_
    · refine ⟨fun _ _ F => gR rfl rfl (arm_C1 rfl (enters Tryz.func66 rfl rfl) Is.const (fun va w h1 => by have e_va : va = _ := h1; subst e_va; exact c_natural_Of 1 w (by decide)) (fun _ _ h => ofNew h)).b, ?_⟩
      refine ⟨fun _ _ F => gR rfl rfl (arm_alloc rfl (Nat.le_trans hbase F.below.size)), ?_⟩
      exact trivial
    intro E' hE gp wp bp G Gs
    obtain rfl : E' = [] := by simpa [subs] using hE
    obtain ⟨g11, e_1, lg_1, hv_1⟩ := G 1 11 _ (by simp) rfl
    have n_0 : (Sp.nat (1)).p wp (gp 0) := G 0 33 _ (by simp) rfl
    clear G Gs hE
    simp only [fP3ffT4]
    simp only [qA, setD, qZ, qS, e_1]
    have T0 := hv_1
    refine wpAny_storeN (j := 2) (by kernel_rfl) rfl rfl rfl rfl rfl n_0 T0.any ?_
    intro w0 u0 v0
    have O0 := T0.own
    refine wpAny_done (by kernel_rfl) ?_ _
    go_wp2_with fail
    go_meet
    case rel => exact ⟨g11, rfl, (by omega), (by omega), v0, ((V0.mono bp V0.lt).upd O0 u0 (by omega)), ((V9.mono bp).upd O0 u0 (by omega)), (Upd.below (hb1.trans (bp.mono hb1.size)) u0 (by omega))⟩
  case rest =>
  clear V0 V9 hb1
  obtain ⟨g11, rfl, lg11, d6_0, V11, V0, V9, hb1⟩ := hcut
  go_upto_region 7 with (fail)
  go_cut [34] (fun s_34 wx => s_34 = Value.bool false ∧ VarFB wx w.heap.size false none 0 0 none 0 0 ∧ VarI wx g9 M ∧ VarI wx g11 1 ∧ Below w.heap.size w wx)
  case first =>
    refine wp_tabGF Tryz.f48 7 (fP3ffT5 ) [] (fun _ => false) 2 0 (by kernel_rfl) (by kernel_rfl) (by kernel_rfl) (by kernel_rfl) (by kernel_rfl) (EachX.of_all (fun _ h => by cases h) _) ?_ ?_
    · refine ⟨fun _ _ F => gR rfl rfl (arm_move (.inl rfl) (F.k 8 (Value.bool false))).b, ?_⟩
      exact trivial
    intro E' hE gp wp bp G Gs
    obtain rfl : E' = [] := by simpa [subs] using hE
    have e_0 : gp 0 = Value.bool false := G 0 34 _ (by simp) rfl
    clear G Gs hE
    simp only [fP3ffT5]
    simp only [qA, setD, qZ, qS, e_0]
    refine wpAny_done (by kernel_rfl) ?_ _
    go_wp2_with fail
    go_meet
    case rel => exact ⟨rfl, (V0.mono bp V0.lt), (V9.mono bp), (V11.mono bp), (hb1.trans (bp.mono hb1.size))⟩
  case rest =>
  clear V0 V9 V11 hb1
  obtain ⟨rfl, V0, V9, V11, hb1⟩ := hcut
  go_upto_region 11 with (fail)
  go_cut [12] (fun s_12 wx => ∃ g12, s_12 = Value.pointer (some ⟨g12, 0, none⟩) ∧ w.heap.size + 1 ≤ g12 ∧ g9 < g12 ∧ g11 < g12 ∧ VarQ wx g12 (Fq.mk B M 1) ∧ VarFB wx w.heap.size false none 0 0 none 0 0 ∧ VarI wx g9 M ∧ VarI wx g11 1 ∧ Below w.heap.size w wx)
  case first =>
    obtain ⟨base, hbase0⟩ : ∃ b : Nat, Hid (b = wc.heap.size) := ⟨_, Lib.hid rfl⟩
    have hbase : base ≤ wc.heap.size := by rw [hbase0.out]; exact Nat.le_refl _
    have hbw : w.heap.size + 1 ≤ base := by have := hb1.size; have h1 := V0.lt; rw [hbase0.out]; omega
    have l_V0 : w.heap.size < base := by rw [hbase0.out]; exact V0.lt
    have l_V9 : g9 < base := by rw [hbase0.out]; exact V9.lt
    have l_V11 : g11 < base := by rw [hbase0.out]; exact V11.lt
    refine wp_tabGF Tryz.f48 11 (fP3ffT6 B M base) [] (fun i => i == 4) 3 1 (by kernel_rfl) (by kernel_rfl) (by kernel_rfl) (by kernel_rfl) (by kernel_rfl) ⟨fun h => (by cases h), ⟨fun h => (by cases h), ⟨fun h => (by cases h), ⟨fun h => (by cases h), ⟨fun _ w v h => Sp.varF_lt h, trivial⟩⟩⟩⟩⟩ ?_ ?_
    · refine ⟨fun _ _ F => gR rfl rfl (arm_move (.inl rfl) (F.k 5 (Value.bool B))).b, ?_⟩
      refine ⟨fun _ _ F => gR rfl rfl (arm_load rfl (F.k 9 (Value.pointer (some ⟨g9, 0, none⟩))) (V9.mono F.below)).b, ?_⟩
      refine ⟨fun _ _ F => gR rfl rfl (arm_load rfl (F.k 11 (Value.pointer (some ⟨g11, 0, none⟩))) (V11.mono F.below)).b, ?_⟩
      refine ⟨fun _ _ F => gR rfl rfl (arm_buildF rfl (F.f 0 rfl) (F.f 1 rfl) (F.f 2 rfl)).b, ?_⟩
      refine ⟨fun _ _ F => gR rfl rfl (arm_allocF rfl (Nat.le_trans hbase F.below.size)), ?_⟩
      exact trivial
    intro E' hE gp wp bp G Gs
    obtain rfl : E' = [] := by simpa [subs] using hE
    obtain ⟨g12, e_4, lg_4, hv_4⟩ := G 4 12 _ (by simp) rfl
    have n_3 : (Sp.fq (Fq.mk B M 1)).p wp (gp 3) := G 3 47 _ (by simp) rfl
    clear G Gs hE
    simp only [fP3ffT6]
    simp only [qA, setD, qZ, qS, e_4]
    have T0 := hv_4
    refine wpAny_storeFr (j := 5) (by kernel_rfl) rfl rfl rfl rfl rfl n_3 T0.any ?_
    intro w0 u0 v0
    have O0 := T0.own
    refine wpAny_done (by kernel_rfl) ?_ _
    go_wp2_with fail
    go_meet
    case rel => exact ⟨g12, rfl, (by omega), (by omega), (by omega), v0, ((V0.mono bp V0.lt).upd O0 u0 (by omega)), ((V9.mono bp).upd O0 u0 (by omega)), ((V11.mono bp).upd O0 u0 (by omega)), (Upd.below (hb1.trans (bp.mono hb1.size)) u0 (by omega))⟩
  case rest =>
  clear V0 V9 V11 hb1
  obtain ⟨g12, rfl, lg12, d11_0, d11_1, V12, V0, V9, V11, hb1⟩ := hcut
  go_upto_region 12 with (fail)
  go_cut [58] (fun s_58 wx => s_58 = Value.bool true ∧ VarFB wx w.heap.size false none 0 0 none 0 0 ∧ VarI wx g9 M ∧ VarI wx g11 1 ∧ VarQ wx g12 (Fq.mk B M 1) ∧ Below w.heap.size w wx)
  case first =>
    refine wp_tabGF Tryz.f48 12 (fP3ffT7 B M) [] (fun _ => false) 11 0 (by kernel_rfl) (by kernel_rfl) (by kernel_rfl) (by kernel_rfl) (by kernel_rfl) (EachX.of_all (fun _ h => by cases h) _) ?_ ?_
    · refine ⟨fun _ _ F => gR rfl rfl (arm_move (.inl rfl) (F.k 8 (Value.bool false))).b, ?_⟩
      refine ⟨fun _ _ F => gR rfl rfl (arm_move (.inl rfl) (F.f 0 rfl)).b, ?_⟩
      refine ⟨fun _ _ F => gS F rfl rfl rfl rfl rfl rfl, ?_⟩
      refine ⟨fun _ _ F => gS F rfl rfl rfl rfl rfl rfl, ?_⟩
      refine ⟨fun _ _ F => gS F rfl rfl rfl rfl rfl rfl, ?_⟩
      refine ⟨fun _ _ F => gR rfl rfl (arm_pick rfl (F.f 1 rfl) (fun h => by cases h) (fun _ => Is.const)).b, ?_⟩
      refine ⟨fun _ _ F => gR rfl rfl (arm_move (.inl rfl) (F.f 5 rfl)).b, ?_⟩
      refine ⟨fun _ _ F => gG F rfl rfl rfl rfl (arm_loadF rfl (F.k 12 (Value.pointer (some ⟨g12, 0, none⟩))) (V12.mono F.below)).b, ?_⟩
      refine ⟨fun _ _ F => gG F rfl rfl rfl rfl (arm_C1 rfl (enters Tryz.func75 rfl rfl) (F.f 7 rfl) (fun va w h1 => q_fValid va (Fq.mk B M 1) w h1 bM' (show nl 1 ≤ 1000000 by decide)) (fun _ _ h => by have h' : RetV _ _ _ _ := h; rw [HV.out] at h'; exact ofV h')).b, ?_⟩
      refine ⟨fun _ _ F => gG F rfl rfl rfl rfl (arm_not rfl (F.f 8 rfl)).b, ?_⟩
      refine ⟨fun _ _ F => gR rfl rfl (arm_pick rfl (F.f 6 rfl) (fun h => by cases h) (fun _ => (F.f 9 rfl))).b, ?_⟩
      exact trivial
    intro E' hE gp wp bp G Gs
    obtain rfl : E' = [] := by simpa [subs] using hE
    have e_10 : gp 10 = Value.bool true := G 10 58 _ (by simp) rfl
    clear G Gs hE
    simp only [fP3ffT7]
    simp only [qA, setD, qZ, qS, e_10]
    refine wpAny_done (by kernel_rfl) ?_ _
    go_wp2_with fail
    go_meet
    case rel => exact ⟨rfl, (V0.mono bp V0.lt), (V9.mono bp), (V11.mono bp), (V12.mono bp), (hb1.trans (bp.mono hb1.size))⟩
  case rest =>
  clear V0 V9 V11 V12 hb1
  obtain ⟨rfl, V0, V9, V11, V12, hb1⟩ := hcut
  go_upto_region 13 with (fail)
  go_cut [3] (fun s_3 wx => s_3 = Value.int IntKind.i64 2 ∧ VarQ wx w.heap.size Fq.zero ∧ VarI wx g9 M ∧ VarI wx g11 1 ∧ VarQ wx g12 (Fq.mk B M 1) ∧ Below w.heap.size w wx)
  case first =>
    refine wp_tabGF Tryz.f48 13 (fP3ffT8 ) [] (fun _ => false) 3 2 (by kernel_rfl) (by kernel_rfl) (by kernel_rfl) (by kernel_rfl) (by kernel_rfl) (EachX.of_all (fun _ h => by cases h) _) ?_ ?_
    · refine ⟨fun _ _ F => gR rfl rfl (arm_build0F rfl).b, ?_⟩
      exact trivial
    intro E' hE gp wp bp G Gs
    obtain rfl : E' = [] := by simpa [subs] using hE
    have n_0 : (Sp.fq Fq.zero).p wp (gp 0) := G 0 59 _ (by simp) rfl
    clear G Gs hE
    simp only [fP3ffT8]
    simp only [qA, setD, qZ, qS]
    have T0 := (V0.mono bp V0.lt)
    refine wpAny_storeFr (j := 1) (by kernel_rfl) rfl rfl rfl rfl rfl n_0 T0.any ?_
    intro w0 u0 v0
    have O0 := T0.own
    refine wpAny_takeD (i := 2) (d := some 3) (v := Value.int IntKind.i64 2) rfl rfl (by kernel_rfl) (by kernel_rfl) (by kernel_rfl) (fun _ _ _ h => h) (Or.inl ⟨by rfl, fun w => by rfl⟩) ?_
    try simp only [qP, qZ, qS]
    refine wpAny_done (by kernel_rfl) ?_ _
    go_wp2_with fail
    go_meet
    case rel => exact ⟨rfl, v0, ((V9.mono bp).upd O0 u0 (by omega)), ((V11.mono bp).upd O0 u0 (by omega)), ((V12.mono bp).upd O0 u0 (by omega)), (Upd.below (hb1.trans (bp.mono hb1.size)) u0 (by omega))⟩
  case rest =>
  clear V0 V9 V11 V12 hb1
  obtain ⟨rfl, V0, V9, V11, V12, hb1⟩ := hcut
  obtain ⟨r1, r2, r3, r4, rV, rn, rm⟩ := V0
  have c0 := rV.cell0
  have c1 := rV.cell1
  have c2 := rV.cell2
  go_wp2
  exact bodyPost_ret (res_FE rfl rfl rfl rV) rfl ⟨_, rfl, ⟨r1, r2, r3, r4, rfl, rn, rm⟩, hb1⟩
theorem q_fParse (s : ByteArray) (x : Fq) (c : Int) (w : World) (h : FP s x c) (hs : s.size ≤ 4294967280) : Calls Tryz.prog 48 #[.string s] w fun e w' => RetQE w x c e w' := by
  cases h with
  | num h ha h0 => rename_i t B F a b M; cases F; exact fP_num_false s t a b B M w h hs c ha h0; exact fP_num_true s t a b B M w h hs c ha h0
  | den h ha hb h0 => exact fP_den s _ _ _ _ _ w h hs _ c ha hb h0
  | bad h ha hb hv => rename_i t B F a b M N; cases F; exact fP_bad_false s t a b B M w h hs ha hv; exact fP_bad_true s t a b B M w h hs ha N (hb rfl) hv
  | good h ha hb hv => rename_i t B F a b M N; cases F; exact fP_good_false s t a b B M w h hs ha hv; exact fP_good_true s t a b B M w h hs ha N (hb rfl) hv
end Go.Proofs.YtfhinmdhjlmikaaGreatDoor
