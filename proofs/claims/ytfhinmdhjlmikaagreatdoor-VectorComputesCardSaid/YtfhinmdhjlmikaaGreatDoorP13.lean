/- strings.Cut at a slash, strings.CutPrefix at a minus. Format of package fraction and of the reference. -/
import Derived.Test.YtfhinmdhjlmikaaGreatDoorP12
import Derived.Lib.Bytealg
import Derived.Lib.Strings
namespace Go.Proofs.YtfhinmdhjlmikaaGreatDoor
set_option linter.unusedSimpArgs false
set_option linter.unusedVariables false
set_option maxRecDepth 100000
open Go.RowKit
/-- The first slash stands at i. -/
def slashAt (s : ByteArray) (i : Nat) : Prop := i < s.size ∧ by' s i = 47 ∧ ∀ j, j < i → by' s j ≠ 47
def noSlash (s : ByteArray) : Prop := ∀ j, j < s.size → by' s j ≠ 47
theorem idx_hit : ∀ (l : List UInt8) (i : Nat) (c : UInt8), l[i]? = some c → (∀ j, j < i → l[j]? ≠ some c) → Lib.indexByte l c = (i : Int)
  | [], i, c, h, _ => by simp at h
  | b :: l, 0, c, h, _ => by
    have hb : b = c := by simpa using h
    subst hb
    unfold Lib.indexByte
    simp
  | b :: l, i + 1, c, h, hn => by
    have hb : (b == c) = false := by
      have := hn 0 (by omega)
      simpa using this
    have ih := idx_hit l i c (by simpa using h) (fun j hj => by have := hn (j + 1) (by omega); simpa using this)
    unfold Lib.indexByte
    rw [hb, ih]
    have : ((i : Int) == -1) = false := by simp
    simp [this]
theorem idx_miss : ∀ (l : List UInt8) (c : UInt8), (∀ j : Nat, l[j]? ≠ some c) → Lib.indexByte l c = -1
  | [], c, _ => rfl
  | b :: l, c, hn => by
    have hb : (b == c) = false := by
      have := hn 0
      simpa using this
    have ih := idx_miss l c (fun j => by have := hn (j + 1); simpa using this)
    unfold Lib.indexByte
    rw [hb, ih]
    rfl
theorem list_at (s : ByteArray) (j : Nat) (hj : j < s.size) (c : UInt8) : s.data.toList[j]? = some c ↔ by' s j = c.toNat := by
  have h1 : s.data.toList[j]? = some s[j] := by
    rw [Array.getElem?_toList]
    exact Array.getElem?_eq_getElem (h := hj)
  rw [h1]
  unfold by'
  rw [dif_pos hj, Option.some.injEq]
  exact ⟨fun h => by rw [h], fun h => UInt8.toNat_inj.1 h⟩
theorem slash_index {s : ByteArray} {i : Nat} (h : slashAt s i) : Lib.indexByte s.data.toList 47 = (i : Int) :=
  idx_hit _ i 47 ((list_at s i h.1 47).2 h.2.1) (fun j hj he => h.2.2 j hj ((list_at s j (by have := h.1; omega) 47).1 he))
theorem noSlash_index {s : ByteArray} (h : noSlash s) : Lib.indexByte s.data.toList 47 = -1 :=
  idx_miss _ 47 (fun j he => by
    have hj : j < s.size := by
      have : j < s.data.toList.length := (List.getElem?_eq_some_iff.1 he).1
      simpa using this
    exact h j hj ((list_at s j hj 47).1 he))
theorem c_IndexByte (s : ByteArray) (w : World) : Calls Tryz.prog 100 #[.string s, .int .u8 47] w fun e w' => e = .returned (.int .i64 (Lib.indexByte s.data.toList 47)) ∧ w' = w := by
  go_enter Tryz.func100, Tryz.ntmps100
  go_wp2
  rw [run_callFunc_extern Tryz.func108 (by kernel_rfl) (by kernel_rfl) (by kernel_rfl) (e := Extern.BytealgIndexByte.indexByte) (by kernel_rfl), Lib.run_indexByteString]
  simp only [Result.andThen]
  rw [Oper.upon_value]
  go_wp2
  go_ret
  exact ⟨rfl, rfl⟩
theorem c_IndexSlash (s : ByteArray) (w : World) (hs : s.size ≤ 4294967280) : Calls Tryz.prog 89 #[.string s, .string { data := #[47] }] w fun e w' => e = .returned (.int .i64 (Lib.indexByte s.data.toList 47)) ∧ w' = w := by
  go_enter Tryz.func89, Tryz.ntmps89
  by_cases he : ([47] == s.toList) = true
  · have hx : Lib.indexByte s.data.toList 47 = 0 := by
      have h2 : s.data.toList = [47] := by
        have h1 : [47] = s.toList := by simpa using he
        rw [Lib.toList_data] at h1; exact h1.symm
      rw [h2]; rfl
    rw [hx]
    go_wp2
    go_ret
    exact ⟨rfl, rfl⟩
  · have he' : ([47] == s.toList) = false := by simpa using he
    go_wp2_with fail
    refine (c_IndexByte s w).mono ?_
    rintro e w1 ⟨rfl, rfl⟩
    go_wp2
    go_ret
    exact ⟨rfl, rfl⟩
theorem c_sCut_hit (s : ByteArray) (i : Nat) (w : World) (hs : s.size ≤ 4294967280) (h : slashAt s i) : Calls Tryz.prog 92 #[.string s, .string { data := #[47] }] w fun e w' => e = .returned (.tuple #[.string (s.extract 0 i), .string (s.extract (i + 1) s.size), .bool true]) ∧ ∃ n, w' = w.drewN n := by
  have hx := slash_index h
  have hi : i < s.size := h.1
  have c1 : (0 : Int) ≤ (i : Int) := by omega
  have c2 : (i : Int) ≤ (s.size : Int) := by omega
  have c3 : (0 : Int) ≤ (i : Int) + 1 := by omega
  have c4 : (i : Int) + 1 ≤ (s.size : Int) := by omega
  go_enter Tryz.func92, Tryz.ntmps92
  go_wp2_with fail
  refine (c_IndexSlash s w hs).mono ?_
  rintro e w1 ⟨rfl, rfl⟩
  rw [hx]
  go_wp2_with fail
  go_region
  go_wp2
  go_ret3
  exact ⟨rfl, 1, rfl⟩
theorem c_sCut_miss (s : ByteArray) (w : World) (hs : s.size ≤ 4294967280) (h : noSlash s) : Calls Tryz.prog 92 #[.string s, .string { data := #[47] }] w fun e w' => e = .returned (.tuple #[.string s, .string { data := #[] }, .bool false]) ∧ ∃ n, w' = w.drewN n := by
  have hx := noSlash_index h
  go_enter Tryz.func92, Tryz.ntmps92
  go_wp2_with fail
  refine (c_IndexSlash s w hs).mono ?_
  rintro e w1 ⟨rfl, rfl⟩
  rw [hx]
  go_wp2
  go_ret3
  exact ⟨rfl, 0, rfl⟩
theorem c_Cut {s a b : ByteArray} {t : Bool} (w : World) (h : Calls Tryz.prog 92 #[.string s, .string { data := #[47] }] w fun e w' => e = .returned (.tuple #[.string a, .string b, .bool t]) ∧ ∃ n, w' = w.drewN n) :
    Calls Tryz.prog 72 #[.string s, .string { data := #[47] }] w fun e w' => e = .returned (.tuple #[.string a, .string b, .bool t]) ∧ Below w.heap.size w w' := by
  go_enter Tryz.func72, Tryz.ntmps72
  go_wp2_with fail
  refine h.mono ?_
  rintro e w1 ⟨rfl, n, rfl⟩
  go_wp2
  go_ret3
  exact ⟨rfl, bel_drewN (Below.refl _ _) n⟩
theorem c_HasPrefix (s : ByteArray) (w : World) : Calls Tryz.prog 105 #[.string s, .string { data := #[45] }] w fun e w' => e = .returned (.bool (decide (0 < s.size ∧ by' s 0 = 45))) ∧ w' = w := by
  go_enter Tryz.func105, Tryz.ntmps105
  by_cases h0 : 0 < s.size
  · have c1 : (1 : Int) ≤ (s.size : Int) := by omega
    have hx : ((s.extract 0 1).toList == [45]) = decide (0 < s.size ∧ by' s 0 = 45) := by
      rw [Lib.extract_toList]
      have h1 := list_at s 0 h0 45
      have h2 : ((s.data.toList.drop 0).take (1 - 0)) = [s[0]'h0] := by
        have h3 : 0 < s.data.toList.length := by rw [← Lib.size_eq]; exact h0
        rw [List.drop_zero]
        rw [show (1 : Nat) - 0 = 1 from rfl]
        cases hl : s.data.toList with
        | nil => rw [hl] at h3; cases h3
        | cons b l =>
          have : s.data.toList[0]? = some (s[0]'h0) := by rw [Array.getElem?_toList]; exact Array.getElem?_eq_getElem (h := h0)
          rw [hl] at this
          simp at this
          simp [this]
      rw [h2]
      rw [Bool.eq_iff_iff]
      have h4 : by' s 0 = (s[0]'h0).toNat := by unfold by'; rw [dif_pos h0]
      simp only [beq_iff_eq, List.cons.injEq, and_true, decide_eq_true_eq, h0, true_and, h4]
      exact ⟨fun h => by rw [h]; rfl, fun h => UInt8.toNat_inj.1 h⟩
    generalize decide (0 < s.size ∧ by' s 0 = 45) = t at hx ⊢
    go_wp2
    go_ret
    exact ⟨by first | rfl | simp_all, rfl⟩
  · have hx : decide (0 < s.size ∧ by' s 0 = 45) = false := decide_eq_false (fun h => h0 h.1)
    have c1 : ¬ (1 : Int) ≤ (s.size : Int) := by omega
    rw [hx]
    go_wp2
    go_ret
    exact ⟨rfl, rfl⟩
theorem c_CutPrefix (s t : ByteArray) (b : Bool) (w : World) (hb : decide (0 < s.size ∧ by' s 0 = 45) = b) (ht : t = if b then s.extract 1 s.size else s) : Calls Tryz.prog 71 #[.string s, .string { data := #[45] }] w fun e w' => e = .returned (.tuple #[.string t, .bool b]) ∧ Below w.heap.size w w' := by
  have key : Calls Tryz.prog 91 #[.string s, .string { data := #[45] }] w fun e w' => e = .returned (.tuple #[.string t, .bool b]) ∧ w' = w := by
    have HB := Lib.hid hb
    cases b with
    | true =>
      have hs : (1 : Int) ≤ (s.size : Int) := by have := (of_decide_eq_true hb).1; omega
      simp only [if_true] at ht
      have HT := Lib.hid ht
      clear hb ht
      go_enter Tryz.func91, Tryz.ntmps91
      go_wp2_with fail
      refine (c_HasPrefix s w).mono ?_
      rintro e w1 ⟨rfl, rfl⟩
      rw [HB.out]
      go_wp2
      go_ret2
      exact ⟨by rw [HT.out]; rfl, rfl⟩
    | false =>
      simp only [Bool.false_eq_true, if_false] at ht
      subst ht
      clear hb
      go_enter Tryz.func91, Tryz.ntmps91
      go_wp2_with fail
      refine (c_HasPrefix _ w).mono ?_
      rintro e w1 ⟨rfl, rfl⟩
      rw [HB.out]
      go_wp2
      go_ret2
      exact ⟨rfl, rfl⟩
  clear hb ht
  go_enter Tryz.func71, Tryz.ntmps71
  go_wp2_with fail
  refine key.mono ?_
  rintro e w1 ⟨rfl, rfl⟩
  go_wp2
  go_ret2
  exact ⟨rfl, Below.refl _ _⟩
end Go.Proofs.YtfhinmdhjlmikaaGreatDoor
namespace Go.Proofs.YtfhinmdhjlmikaaGreatDoor
set_option linter.unusedSimpArgs false
set_option linter.unusedVariables false
set_option maxRecDepth 100000
open Go.RowKit
/-- The text of a fraction. -/
def Fq.fmt (x : Fq) : ByteArray := if x.s then ({ data := #[45] } : ByteArray) ++ (if x.q = 1 then fmtB x.p else fmtB x.p ++ (({ data := #[47] } : ByteArray) ++ fmtB x.q)) else (if x.q = 1 then fmtB x.p else fmtB x.p ++ (({ data := #[47] } : ByteArray) ++ fmtB x.q))
theorem run_addSt (a b : ByteArray) (w : World) (h : a.size + b.size ≤ 9223372036854775807) : (binOp BinOp.add 9 (.string a) (.string b)).run Tryz.prog w = .ok (.string (a ++ b)) w := by go_simp
theorem fmt_size (N : Nat) : (fmtB N).size ≤ 10 * nl N + 1 := by
  by_cases h0 : N = 0
  · subst h0; have e : fmtB 0 = ⟨#[48]⟩ := by unfold fmtB; rw [if_pos rfl]
    rw [e]; show 1 ≤ _; omega
  · have e : fmtB N = ⟨(decB N).reverse.toArray⟩ := by unfold fmtB; rw [if_neg h0]
    have hsz : (fmtB N).size = (decB N).length := by rw [e]; simp [ByteArray.size]
    have := decB_bound N
    omega
theorem sz45 : ({ data := #[45] } : ByteArray).size = 1 := rfl
theorem sz47 : ({ data := #[47] } : ByteArray).size = 1 := rfl
def fFormatT0 (w : World) (xp : Nat) : List (Nat × Tmp × Sp) :=
   [(0, 4, .val (Value.pointer (some ⟨w.heap.size, 1, none⟩))),
    (1, 5, .nat (xp)),
    (2, 6, .val (Value.string (fmtB xp))),
    (3, 3, .val (Value.string (fmtB xp)))]
def fFormatT1 (w : World) (xq : Nat) : List (Nat × Tmp × Sp) :=
   [(0, 7, .val (Value.pointer (some ⟨w.heap.size, 2, none⟩))),
    (1, 8, .nat (xq)),
    (2, 9, .ones xq),
    (3, 10, .val (Value.bool true)),
    (4, 11, .val (Value.bool false))]
def fFormatT2 (w : World) : List (Nat × Tmp × Sp) :=
   [(0, 18, .val (Value.pointer (some ⟨w.heap.size, 0, none⟩))),
    (1, 19, .val (Value.bool true))]
def fFormatT3 (xp : Nat) : List (Nat × Tmp × Sp) :=
   [(0, 20, .val (Value.string (fmtB xp))),
    (1, 21, .val (Value.string (({ data := #[45] }) ++ (fmtB xp)))),
    (2, 2, .val (Value.string (({ data := #[45] }) ++ (fmtB xp))))]
def fFormatT4 (w : World) (xp : Nat) : List (Nat × Tmp × Sp) :=
   [(0, 4, .val (Value.pointer (some ⟨w.heap.size, 1, none⟩))),
    (1, 5, .nat (xp)),
    (2, 6, .val (Value.string (fmtB xp))),
    (3, 3, .val (Value.string (fmtB xp)))]
def fFormatT5 (w : World) (xq : Nat) : List (Nat × Tmp × Sp) :=
   [(0, 7, .val (Value.pointer (some ⟨w.heap.size, 2, none⟩))),
    (1, 8, .nat (xq)),
    (2, 9, .ones xq),
    (3, 10, .val (Value.bool false)),
    (4, 11, .val (Value.bool true))]
def fFormatT6 (w : World) (xp : Nat) (xq : Nat) : List (Nat × Tmp × Sp) :=
   [(0, 12, .val (Value.string (fmtB xp))),
    (1, 13, .val (Value.pointer (some ⟨w.heap.size, 2, none⟩))),
    (2, 14, .nat (xq)),
    (3, 15, .val (Value.string (fmtB xq))),
    (4, 16, .val (Value.string (({ data := #[47] }) ++ (fmtB xq)))),
    (5, 17, .val (Value.string ((fmtB xp) ++ (({ data := #[47] }) ++ (fmtB xq)))))]
def fFormatT7 (w : World) : List (Nat × Tmp × Sp) :=
   [(0, 18, .val (Value.pointer (some ⟨w.heap.size, 0, none⟩))),
    (1, 19, .val (Value.bool true))]
def fFormatT8 (xp : Nat) (xq : Nat) : List (Nat × Tmp × Sp) :=
   [(0, 20, .val (Value.string ((fmtB xp) ++ (({ data := #[47] }) ++ (fmtB xq))))),
    (1, 21, .val (Value.string (({ data := #[45] }) ++ ((fmtB xp) ++ (({ data := #[47] }) ++ (fmtB xq)))))),
    (2, 2, .val (Value.string (({ data := #[45] }) ++ ((fmtB xp) ++ (({ data := #[47] }) ++ (fmtB xq))))))]
def fFormatT9 (w : World) (xp : Nat) : List (Nat × Tmp × Sp) :=
   [(0, 4, .val (Value.pointer (some ⟨w.heap.size, 1, none⟩))),
    (1, 5, .nat (xp)),
    (2, 6, .val (Value.string (fmtB xp))),
    (3, 3, .val (Value.string (fmtB xp)))]
def fFormatT10 (w : World) (xq : Nat) : List (Nat × Tmp × Sp) :=
   [(0, 7, .val (Value.pointer (some ⟨w.heap.size, 2, none⟩))),
    (1, 8, .nat (xq)),
    (2, 9, .ones xq),
    (3, 10, .val (Value.bool true)),
    (4, 11, .val (Value.bool false))]
def fFormatT11 (w : World) : List (Nat × Tmp × Sp) :=
   [(0, 18, .val (Value.pointer (some ⟨w.heap.size, 0, none⟩))),
    (1, 19, .val (Value.bool false))]
def fFormatT12 (w : World) (xp : Nat) : List (Nat × Tmp × Sp) :=
   [(0, 4, .val (Value.pointer (some ⟨w.heap.size, 1, none⟩))),
    (1, 5, .nat (xp)),
    (2, 6, .val (Value.string (fmtB xp))),
    (3, 3, .val (Value.string (fmtB xp)))]
def fFormatT13 (w : World) (xq : Nat) : List (Nat × Tmp × Sp) :=
   [(0, 7, .val (Value.pointer (some ⟨w.heap.size, 2, none⟩))),
    (1, 8, .nat (xq)),
    (2, 9, .ones xq),
    (3, 10, .val (Value.bool false)),
    (4, 11, .val (Value.bool true))]
def fFormatT14 (w : World) (xp : Nat) (xq : Nat) : List (Nat × Tmp × Sp) :=
   [(0, 12, .val (Value.string (fmtB xp))),
    (1, 13, .val (Value.pointer (some ⟨w.heap.size, 2, none⟩))),
    (2, 14, .nat (xq)),
    (3, 15, .val (Value.string (fmtB xq))),
    (4, 16, .val (Value.string (({ data := #[47] }) ++ (fmtB xq)))),
    (5, 17, .val (Value.string ((fmtB xp) ++ (({ data := #[47] }) ++ (fmtB xq)))))]
def fFormatT15 (w : World) : List (Nat × Tmp × Sp) :=
   [(0, 18, .val (Value.pointer (some ⟨w.heap.size, 0, none⟩))),
    (1, 19, .val (Value.bool false))]
set_option maxHeartbeats 4000000 in
theorem q_fFormat (va : Value) (x : Fq) (w : World) (ha : IsQ w va x) (h : x.ok 1000000000) :
    Calls Tryz.prog 50 #[va] w fun e w' => RetV w (.string x.fmt) e w' := by
  obtain ⟨xs, xp, xq⟩ := x
  have bp : nl xp ≤ 1000000000 := h.p
  have bq : nl xq ≤ 1000000000 := h.q
  rcases Bool.eq_false_or_eq_true xs with rfl | rfl
  · by_cases h1 : xq = 1
    · have hf : (Fq.mk true xp xq).fmt = ({ data := #[45] } : ByteArray) ++ (fmtB xp) := by unfold Fq.fmt; simp only [if_pos h1]; rfl
      rw [hf]
      have H1 : Hid (decide (xq = 1) = true) := Lib.hid (decide_eq_true h1)
      clear hf h1
      obtain ⟨a0, c0, b0, d0, rfl, m0, k0⟩ := boxF ha
      clear ha
      go_enter Tryz.func50, Tryz.ntmps50
      go_upto_region 0 with (fail)
      go_cut [1, 2] (fun s_1 s_2 wx => s_1 = Value.pointer (some ⟨w.heap.size, 0, none⟩) ∧ s_2 = Value.string { data := #[] } ∧ VarQ wx w.heap.size (Fq.mk true xp xq) ∧ Below w.heap.size w wx)
      case first =>
        go_wp2_with fail
        go_meet
        case rel => exact ⟨rfl, rfl, k0, m0⟩
      case rest =>
      clear m0 k0
      obtain ⟨rfl, rfl, V0, hb1⟩ := hcut
      go_upto_region 1 with (fail)
      go_cut [3] (fun s_3 wx => s_3 = Value.string (fmtB xp) ∧ VarQ wx w.heap.size (Fq.mk true xp xq) ∧ Below w.heap.size w wx)
      case first =>
        refine wp_tabGF Tryz.f50 1 (fFormatT0 w xp) [] (fun _ => false) 4 0 (by kernel_rfl) (by kernel_rfl) (by kernel_rfl) (by kernel_rfl) (by kernel_rfl) (EachX.of_all (fun _ h => by cases h) _) ?_ ?_
        · refine ⟨fun _ _ F => gR rfl rfl (arm_fieldF rfl (F.k 1 (Value.pointer (some ⟨w.heap.size, 0, none⟩))) (run_field1 _)).b, ?_⟩
          refine ⟨fun _ _ F => gR rfl rfl (arm_load1 rfl (F.f 0 rfl) (V0.mono F.below)).b, ?_⟩
          refine ⟨fun _ _ F => gR rfl rfl (arm_C1 rfl (enters Tryz.func76 rfl rfl) (F.f 1 rfl) (fun va w h1 => c_natural_Format va xp w h1 (Nat.le_trans bp (by decide))) (fun _ _ h => ofV h)).b, ?_⟩
          refine ⟨fun _ _ F => gR rfl rfl (arm_move (.inr rfl) (F.f 2 rfl)).b, ?_⟩
          exact trivial
        intro E' hE gp wp bp G Gs
        obtain rfl : E' = [] := by simpa [subs] using hE
        have e_3 : gp 3 = Value.string (fmtB xp) := G 3 3 _ (by simp) rfl
        clear G Gs hE
        simp only [fFormatT0]
        simp only [qA, setD, qZ, qS, e_3]
        refine wpAny_done (by kernel_rfl) ?_ _
        go_wp2_with fail
        go_meet
        case rel => exact ⟨rfl, (V0.mono bp), (hb1.trans (bp.mono hb1.size))⟩
      case rest =>
      clear V0 hb1
      obtain ⟨rfl, V0, hb1⟩ := hcut
      go_upto_region 2 with (fail)
      go_cut [11] (fun s_11 wx => s_11 = Value.bool false ∧ VarQ wx w.heap.size (Fq.mk true xp xq) ∧ Below w.heap.size w wx)
      case first =>
        refine wp_tabGF Tryz.f50 2 (fFormatT1 w xq) [] (fun _ => false) 5 0 (by kernel_rfl) (by kernel_rfl) (by kernel_rfl) (by kernel_rfl) (by kernel_rfl) (EachX.of_all (fun _ h => by cases h) _) ?_ ?_
        · refine ⟨fun _ _ F => gR rfl rfl (arm_fieldF rfl (F.k 1 (Value.pointer (some ⟨w.heap.size, 0, none⟩))) (run_field2 _)).b, ?_⟩
          refine ⟨fun _ _ F => gR rfl rfl (arm_load2 rfl (F.f 0 rfl) (V0.mono F.below)).b, ?_⟩
          refine ⟨fun _ _ F => gR rfl rfl (arm_ones rfl (F.f 1 rfl)).b, ?_⟩
          refine ⟨fun _ _ F => gR rfl rfl (arm_C1 rfl (enters Tryz.func74 rfl rfl) (F.f 2 rfl) (fun va w h1 => c_one1 va xq w h1 (Nat.le_trans bq (by decide))) (fun _ _ h => by have h' : RetV _ _ _ _ := h; rw [H1.out] at h'; exact ofV h')).b, ?_⟩
          refine ⟨fun _ _ F => gR rfl rfl (arm_not rfl (F.f 3 rfl)).b, ?_⟩
          exact trivial
        intro E' hE gp wp bp G Gs
        obtain rfl : E' = [] := by simpa [subs] using hE
        have e_4 : gp 4 = Value.bool false := G 4 11 _ (by simp) rfl
        clear G Gs hE
        simp only [fFormatT1]
        simp only [qA, setD, qZ, qS, e_4]
        refine wpAny_done (by kernel_rfl) ?_ _
        go_wp2_with fail
        go_meet
        case rel => exact ⟨rfl, (V0.mono bp), (hb1.trans (bp.mono hb1.size))⟩
      case rest =>
      clear V0 hb1
      obtain ⟨rfl, V0, hb1⟩ := hcut
      go_upto_region 4 with (fail)
      go_cut [19] (fun s_19 wx => s_19 = Value.bool true ∧ VarQ wx w.heap.size (Fq.mk true xp xq) ∧ Below w.heap.size w wx)
      case first =>
        refine wp_tabGF Tryz.f50 4 (fFormatT2 w) [] (fun _ => false) 2 0 (by kernel_rfl) (by kernel_rfl) (by kernel_rfl) (by kernel_rfl) (by kernel_rfl) (EachX.of_all (fun _ h => by cases h) _) ?_ ?_
        · refine ⟨fun _ _ F => gR rfl rfl (arm_fieldF rfl (F.k 1 (Value.pointer (some ⟨w.heap.size, 0, none⟩))) (run_field0 _)).b, ?_⟩
          refine ⟨fun _ _ F => gR rfl rfl (arm_loadS rfl (F.f 0 rfl) (V0.mono F.below)).b, ?_⟩
          exact trivial
        intro E' hE gp wp bp G Gs
        obtain rfl : E' = [] := by simpa [subs] using hE
        have e_1 : gp 1 = Value.bool true := G 1 19 _ (by simp) rfl
        clear G Gs hE
        simp only [fFormatT2]
        simp only [qA, setD, qZ, qS, e_1]
        refine wpAny_done (by kernel_rfl) ?_ _
        go_wp2_with fail
        go_meet
        case rel => exact ⟨rfl, (V0.mono bp), (hb1.trans (bp.mono hb1.size))⟩
      case rest =>
      clear V0 hb1
      obtain ⟨rfl, V0, hb1⟩ := hcut
      go_upto_region 5 with (fail)
      go_cut [2] (fun s_2 wx => s_2 = Value.string (({ data := #[45] }) ++ (fmtB xp)) ∧ VarQ wx w.heap.size (Fq.mk true xp xq) ∧ Below w.heap.size w wx)
      case first =>
        refine wp_tabGF Tryz.f50 5 (fFormatT3 xp) [] (fun _ => false) 3 0 (by kernel_rfl) (by kernel_rfl) (by kernel_rfl) (by kernel_rfl) (by kernel_rfl) (EachX.of_all (fun _ h => by cases h) _) ?_ ?_
        · refine ⟨fun _ _ F => gR rfl rfl (arm_move (.inl rfl) (F.k 3 (Value.string (fmtB xp)))).b, ?_⟩
          refine ⟨fun _ _ F => gR rfl rfl (arm_bin rfl Is.const (F.f 0 rfl) (fun _ => rfl) (fun w => run_addSt _ _ w (by have := fmt_size xp; have := fmt_size xq; simp only [ByteArray.size_append, sz45, sz47]; omega))).b, ?_⟩
          refine ⟨fun _ _ F => gR rfl rfl (arm_move (.inr rfl) (F.f 1 rfl)).b, ?_⟩
          exact trivial
        intro E' hE gp wp bp G Gs
        obtain rfl : E' = [] := by simpa [subs] using hE
        have e_2 : gp 2 = Value.string (({ data := #[45] }) ++ (fmtB xp)) := G 2 2 _ (by simp) rfl
        clear G Gs hE
        simp only [fFormatT3]
        simp only [qA, setD, qZ, qS, e_2]
        refine wpAny_done (by kernel_rfl) ?_ _
        go_wp2_with fail
        go_meet
        case rel => exact ⟨rfl, (V0.mono bp), (hb1.trans (bp.mono hb1.size))⟩
      case rest =>
      clear V0 hb1
      obtain ⟨rfl, V0, hb1⟩ := hcut
      go_wp2
      go_ret
      exact ⟨rfl, hb1⟩
    · have hf : (Fq.mk true xp xq).fmt = ({ data := #[45] } : ByteArray) ++ (fmtB xp ++ (({ data := #[47] } : ByteArray) ++ fmtB xq)) := by unfold Fq.fmt; simp only [if_neg h1]; rfl
      rw [hf]
      have H1 : Hid (decide (xq = 1) = false) := Lib.hid (decide_eq_false h1)
      clear hf h1
      obtain ⟨a0, c0, b0, d0, rfl, m0, k0⟩ := boxF ha
      clear ha
      go_enter Tryz.func50, Tryz.ntmps50
      go_upto_region 0 with (fail)
      go_cut [1, 2] (fun s_1 s_2 wx => s_1 = Value.pointer (some ⟨w.heap.size, 0, none⟩) ∧ s_2 = Value.string { data := #[] } ∧ VarQ wx w.heap.size (Fq.mk true xp xq) ∧ Below w.heap.size w wx)
      case first =>
        go_wp2_with fail
        go_meet
        case rel => exact ⟨rfl, rfl, k0, m0⟩
      case rest =>
      clear m0 k0
      obtain ⟨rfl, rfl, V0, hb1⟩ := hcut
      go_upto_region 1 with (fail)
      go_cut [3] (fun s_3 wx => s_3 = Value.string (fmtB xp) ∧ VarQ wx w.heap.size (Fq.mk true xp xq) ∧ Below w.heap.size w wx)
      case first =>
        refine wp_tabGF Tryz.f50 1 (fFormatT4 w xp) [] (fun _ => false) 4 0 (by kernel_rfl) (by kernel_rfl) (by kernel_rfl) (by kernel_rfl) (by kernel_rfl) (EachX.of_all (fun _ h => by cases h) _) ?_ ?_
        · refine ⟨fun _ _ F => gR rfl rfl (arm_fieldF rfl (F.k 1 (Value.pointer (some ⟨w.heap.size, 0, none⟩))) (run_field1 _)).b, ?_⟩
          refine ⟨fun _ _ F => gR rfl rfl (arm_load1 rfl (F.f 0 rfl) (V0.mono F.below)).b, ?_⟩
          refine ⟨fun _ _ F => gR rfl rfl (arm_C1 rfl (enters Tryz.func76 rfl rfl) (F.f 1 rfl) (fun va w h1 => c_natural_Format va xp w h1 (Nat.le_trans bp (by decide))) (fun _ _ h => ofV h)).b, ?_⟩
          refine ⟨fun _ _ F => gR rfl rfl (arm_move (.inr rfl) (F.f 2 rfl)).b, ?_⟩
          exact trivial
        intro E' hE gp wp bp G Gs
        obtain rfl : E' = [] := by simpa [subs] using hE
        have e_3 : gp 3 = Value.string (fmtB xp) := G 3 3 _ (by simp) rfl
        clear G Gs hE
        simp only [fFormatT4]
        simp only [qA, setD, qZ, qS, e_3]
        refine wpAny_done (by kernel_rfl) ?_ _
        go_wp2_with fail
        go_meet
        case rel => exact ⟨rfl, (V0.mono bp), (hb1.trans (bp.mono hb1.size))⟩
      case rest =>
      clear V0 hb1
      obtain ⟨rfl, V0, hb1⟩ := hcut
      go_upto_region 2 with (fail)
      go_cut [11] (fun s_11 wx => s_11 = Value.bool true ∧ VarQ wx w.heap.size (Fq.mk true xp xq) ∧ Below w.heap.size w wx)
      case first =>
        refine wp_tabGF Tryz.f50 2 (fFormatT5 w xq) [] (fun _ => false) 5 0 (by kernel_rfl) (by kernel_rfl) (by kernel_rfl) (by kernel_rfl) (by kernel_rfl) (EachX.of_all (fun _ h => by cases h) _) ?_ ?_
        · refine ⟨fun _ _ F => gR rfl rfl (arm_fieldF rfl (F.k 1 (Value.pointer (some ⟨w.heap.size, 0, none⟩))) (run_field2 _)).b, ?_⟩
          refine ⟨fun _ _ F => gR rfl rfl (arm_load2 rfl (F.f 0 rfl) (V0.mono F.below)).b, ?_⟩
          refine ⟨fun _ _ F => gR rfl rfl (arm_ones rfl (F.f 1 rfl)).b, ?_⟩
          refine ⟨fun _ _ F => gR rfl rfl (arm_C1 rfl (enters Tryz.func74 rfl rfl) (F.f 2 rfl) (fun va w h1 => c_one1 va xq w h1 (Nat.le_trans bq (by decide))) (fun _ _ h => by have h' : RetV _ _ _ _ := h; rw [H1.out] at h'; exact ofV h')).b, ?_⟩
          refine ⟨fun _ _ F => gR rfl rfl (arm_not rfl (F.f 3 rfl)).b, ?_⟩
          exact trivial
        intro E' hE gp wp bp G Gs
        obtain rfl : E' = [] := by simpa [subs] using hE
        have e_4 : gp 4 = Value.bool true := G 4 11 _ (by simp) rfl
        clear G Gs hE
        simp only [fFormatT5]
        simp only [qA, setD, qZ, qS, e_4]
        refine wpAny_done (by kernel_rfl) ?_ _
        go_wp2_with fail
        go_meet
        case rel => exact ⟨rfl, (V0.mono bp), (hb1.trans (bp.mono hb1.size))⟩
      case rest =>
      clear V0 hb1
      obtain ⟨rfl, V0, hb1⟩ := hcut
      go_upto_region 3 with (fail)
      go_cut [3] (fun s_3 wx => s_3 = Value.string ((fmtB xp) ++ (({ data := #[47] }) ++ (fmtB xq))) ∧ VarQ wx w.heap.size (Fq.mk true xp xq) ∧ Below w.heap.size w wx)
      case first =>
        refine wp_tabGF Tryz.f50 3 (fFormatT6 w xp xq) [] (fun _ => false) 6 1 (by kernel_rfl) (by kernel_rfl) (by kernel_rfl) (by kernel_rfl) (by kernel_rfl) (EachX.of_all (fun _ h => by cases h) _) ?_ ?_
        · refine ⟨fun _ _ F => gR rfl rfl (arm_move (.inl rfl) (F.k 3 (Value.string (fmtB xp)))).b, ?_⟩
          refine ⟨fun _ _ F => gR rfl rfl (arm_fieldF rfl (F.k 1 (Value.pointer (some ⟨w.heap.size, 0, none⟩))) (run_field2 _)).b, ?_⟩
          refine ⟨fun _ _ F => gR rfl rfl (arm_load2 rfl (F.f 1 rfl) (V0.mono F.below)).b, ?_⟩
          refine ⟨fun _ _ F => gR rfl rfl (arm_C1 rfl (enters Tryz.func76 rfl rfl) (F.f 2 rfl) (fun va w h1 => c_natural_Format va xq w h1 (Nat.le_trans bq (by decide))) (fun _ _ h => ofV h)).b, ?_⟩
          refine ⟨fun _ _ F => gR rfl rfl (arm_bin rfl Is.const (F.f 3 rfl) (fun _ => rfl) (fun w => run_addSt _ _ w (by have := fmt_size xp; have := fmt_size xq; simp only [ByteArray.size_append, sz45, sz47]; omega))).b, ?_⟩
          refine ⟨fun _ _ F => gR rfl rfl (arm_bin rfl (F.f 0 rfl) (F.f 4 rfl) (fun _ => rfl) (fun w => run_addSt _ _ w (by have := fmt_size xp; have := fmt_size xq; simp only [ByteArray.size_append, sz45, sz47]; omega))).b, ?_⟩
          exact trivial
        intro E' hE gp wp bp G Gs
        obtain rfl : E' = [] := by simpa [subs] using hE
        have e_5 : gp 5 = Value.string ((fmtB xp) ++ (({ data := #[47] }) ++ (fmtB xq))) := G 5 17 _ (by simp) rfl
        clear G Gs hE
        simp only [fFormatT6]
        simp only [qA, setD, qZ, qS, e_5]
        refine wpAny_takeD (i := 6) (d := some 3) (v := Value.string ((fmtB xp) ++ (({ data := #[47] }) ++ (fmtB xq)))) rfl rfl (by kernel_rfl) (by kernel_rfl) (by kernel_rfl) (fun _ _ _ h => h) (Or.inl ⟨by rfl, fun w => by rfl⟩) ?_
        try simp only [qP, qZ, qS]
        refine wpAny_done (by kernel_rfl) ?_ _
        go_wp2_with fail
        go_meet
        case rel => exact ⟨rfl, (V0.mono bp), (hb1.trans (bp.mono hb1.size))⟩
      case rest =>
      clear V0 hb1
      obtain ⟨rfl, V0, hb1⟩ := hcut
      go_upto_region 4 with (fail)
      go_cut [19] (fun s_19 wx => s_19 = Value.bool true ∧ VarQ wx w.heap.size (Fq.mk true xp xq) ∧ Below w.heap.size w wx)
      case first =>
        refine wp_tabGF Tryz.f50 4 (fFormatT7 w) [] (fun _ => false) 2 0 (by kernel_rfl) (by kernel_rfl) (by kernel_rfl) (by kernel_rfl) (by kernel_rfl) (EachX.of_all (fun _ h => by cases h) _) ?_ ?_
        · refine ⟨fun _ _ F => gR rfl rfl (arm_fieldF rfl (F.k 1 (Value.pointer (some ⟨w.heap.size, 0, none⟩))) (run_field0 _)).b, ?_⟩
          refine ⟨fun _ _ F => gR rfl rfl (arm_loadS rfl (F.f 0 rfl) (V0.mono F.below)).b, ?_⟩
          exact trivial
        intro E' hE gp wp bp G Gs
        obtain rfl : E' = [] := by simpa [subs] using hE
        have e_1 : gp 1 = Value.bool true := G 1 19 _ (by simp) rfl
        clear G Gs hE
        simp only [fFormatT7]
        simp only [qA, setD, qZ, qS, e_1]
        refine wpAny_done (by kernel_rfl) ?_ _
        go_wp2_with fail
        go_meet
        case rel => exact ⟨rfl, (V0.mono bp), (hb1.trans (bp.mono hb1.size))⟩
      case rest =>
      clear V0 hb1
      obtain ⟨rfl, V0, hb1⟩ := hcut
      go_upto_region 5 with (fail)
      go_cut [2] (fun s_2 wx => s_2 = Value.string (({ data := #[45] }) ++ ((fmtB xp) ++ (({ data := #[47] }) ++ (fmtB xq)))) ∧ VarQ wx w.heap.size (Fq.mk true xp xq) ∧ Below w.heap.size w wx)
      case first =>
        refine wp_tabGF Tryz.f50 5 (fFormatT8 xp xq) [] (fun _ => false) 3 0 (by kernel_rfl) (by kernel_rfl) (by kernel_rfl) (by kernel_rfl) (by kernel_rfl) (EachX.of_all (fun _ h => by cases h) _) ?_ ?_
        · refine ⟨fun _ _ F => gR rfl rfl (arm_move (.inl rfl) (F.k 3 (Value.string ((fmtB xp) ++ (({ data := #[47] }) ++ (fmtB xq)))))).b, ?_⟩
          refine ⟨fun _ _ F => gR rfl rfl (arm_bin rfl Is.const (F.f 0 rfl) (fun _ => rfl) (fun w => run_addSt _ _ w (by have := fmt_size xp; have := fmt_size xq; simp only [ByteArray.size_append, sz45, sz47]; omega))).b, ?_⟩
          refine ⟨fun _ _ F => gR rfl rfl (arm_move (.inr rfl) (F.f 1 rfl)).b, ?_⟩
          exact trivial
        intro E' hE gp wp bp G Gs
        obtain rfl : E' = [] := by simpa [subs] using hE
        have e_2 : gp 2 = Value.string (({ data := #[45] }) ++ ((fmtB xp) ++ (({ data := #[47] }) ++ (fmtB xq)))) := G 2 2 _ (by simp) rfl
        clear G Gs hE
        simp only [fFormatT8]
        simp only [qA, setD, qZ, qS, e_2]
        refine wpAny_done (by kernel_rfl) ?_ _
        go_wp2_with fail
        go_meet
        case rel => exact ⟨rfl, (V0.mono bp), (hb1.trans (bp.mono hb1.size))⟩
      case rest =>
      clear V0 hb1
      obtain ⟨rfl, V0, hb1⟩ := hcut
      go_wp2
      go_ret
      exact ⟨rfl, hb1⟩
  · by_cases h1 : xq = 1
    · have hf : (Fq.mk false xp xq).fmt = fmtB xp := by unfold Fq.fmt; simp only [if_pos h1]; rfl
      rw [hf]
      have H1 : Hid (decide (xq = 1) = true) := Lib.hid (decide_eq_true h1)
      clear hf h1
      obtain ⟨a0, c0, b0, d0, rfl, m0, k0⟩ := boxF ha
      clear ha
      go_enter Tryz.func50, Tryz.ntmps50
      go_upto_region 0 with (fail)
      go_cut [1, 2] (fun s_1 s_2 wx => s_1 = Value.pointer (some ⟨w.heap.size, 0, none⟩) ∧ s_2 = Value.string { data := #[] } ∧ VarQ wx w.heap.size (Fq.mk false xp xq) ∧ Below w.heap.size w wx)
      case first =>
        go_wp2_with fail
        go_meet
        case rel => exact ⟨rfl, rfl, k0, m0⟩
      case rest =>
      clear m0 k0
      obtain ⟨rfl, rfl, V0, hb1⟩ := hcut
      go_upto_region 1 with (fail)
      go_cut [3] (fun s_3 wx => s_3 = Value.string (fmtB xp) ∧ VarQ wx w.heap.size (Fq.mk false xp xq) ∧ Below w.heap.size w wx)
      case first =>
        refine wp_tabGF Tryz.f50 1 (fFormatT9 w xp) [] (fun _ => false) 4 0 (by kernel_rfl) (by kernel_rfl) (by kernel_rfl) (by kernel_rfl) (by kernel_rfl) (EachX.of_all (fun _ h => by cases h) _) ?_ ?_
        · refine ⟨fun _ _ F => gR rfl rfl (arm_fieldF rfl (F.k 1 (Value.pointer (some ⟨w.heap.size, 0, none⟩))) (run_field1 _)).b, ?_⟩
          refine ⟨fun _ _ F => gR rfl rfl (arm_load1 rfl (F.f 0 rfl) (V0.mono F.below)).b, ?_⟩
          refine ⟨fun _ _ F => gR rfl rfl (arm_C1 rfl (enters Tryz.func76 rfl rfl) (F.f 1 rfl) (fun va w h1 => c_natural_Format va xp w h1 (Nat.le_trans bp (by decide))) (fun _ _ h => ofV h)).b, ?_⟩
          refine ⟨fun _ _ F => gR rfl rfl (arm_move (.inr rfl) (F.f 2 rfl)).b, ?_⟩
          exact trivial
        intro E' hE gp wp bp G Gs
        obtain rfl : E' = [] := by simpa [subs] using hE
        have e_3 : gp 3 = Value.string (fmtB xp) := G 3 3 _ (by simp) rfl
        clear G Gs hE
        simp only [fFormatT9]
        simp only [qA, setD, qZ, qS, e_3]
        refine wpAny_done (by kernel_rfl) ?_ _
        go_wp2_with fail
        go_meet
        case rel => exact ⟨rfl, (V0.mono bp), (hb1.trans (bp.mono hb1.size))⟩
      case rest =>
      clear V0 hb1
      obtain ⟨rfl, V0, hb1⟩ := hcut
      go_upto_region 2 with (fail)
      go_cut [11] (fun s_11 wx => s_11 = Value.bool false ∧ VarQ wx w.heap.size (Fq.mk false xp xq) ∧ Below w.heap.size w wx)
      case first =>
        refine wp_tabGF Tryz.f50 2 (fFormatT10 w xq) [] (fun _ => false) 5 0 (by kernel_rfl) (by kernel_rfl) (by kernel_rfl) (by kernel_rfl) (by kernel_rfl) (EachX.of_all (fun _ h => by cases h) _) ?_ ?_
        · refine ⟨fun _ _ F => gR rfl rfl (arm_fieldF rfl (F.k 1 (Value.pointer (some ⟨w.heap.size, 0, none⟩))) (run_field2 _)).b, ?_⟩
          refine ⟨fun _ _ F => gR rfl rfl (arm_load2 rfl (F.f 0 rfl) (V0.mono F.below)).b, ?_⟩
          refine ⟨fun _ _ F => gR rfl rfl (arm_ones rfl (F.f 1 rfl)).b, ?_⟩
          refine ⟨fun _ _ F => gR rfl rfl (arm_C1 rfl (enters Tryz.func74 rfl rfl) (F.f 2 rfl) (fun va w h1 => c_one1 va xq w h1 (Nat.le_trans bq (by decide))) (fun _ _ h => by have h' : RetV _ _ _ _ := h; rw [H1.out] at h'; exact ofV h')).b, ?_⟩
          refine ⟨fun _ _ F => gR rfl rfl (arm_not rfl (F.f 3 rfl)).b, ?_⟩
          exact trivial
        intro E' hE gp wp bp G Gs
        obtain rfl : E' = [] := by simpa [subs] using hE
        have e_4 : gp 4 = Value.bool false := G 4 11 _ (by simp) rfl
        clear G Gs hE
        simp only [fFormatT10]
        simp only [qA, setD, qZ, qS, e_4]
        refine wpAny_done (by kernel_rfl) ?_ _
        go_wp2_with fail
        go_meet
        case rel => exact ⟨rfl, (V0.mono bp), (hb1.trans (bp.mono hb1.size))⟩
      case rest =>
      clear V0 hb1
      obtain ⟨rfl, V0, hb1⟩ := hcut
      go_upto_region 4 with (fail)
      go_cut [19] (fun s_19 wx => s_19 = Value.bool false ∧ VarQ wx w.heap.size (Fq.mk false xp xq) ∧ Below w.heap.size w wx)
      case first =>
        refine wp_tabGF Tryz.f50 4 (fFormatT11 w) [] (fun _ => false) 2 0 (by kernel_rfl) (by kernel_rfl) (by kernel_rfl) (by kernel_rfl) (by kernel_rfl) (EachX.of_all (fun _ h => by cases h) _) ?_ ?_
        · refine ⟨fun _ _ F => gR rfl rfl (arm_fieldF rfl (F.k 1 (Value.pointer (some ⟨w.heap.size, 0, none⟩))) (run_field0 _)).b, ?_⟩
          refine ⟨fun _ _ F => gR rfl rfl (arm_loadS rfl (F.f 0 rfl) (V0.mono F.below)).b, ?_⟩
          exact trivial
        intro E' hE gp wp bp G Gs
        obtain rfl : E' = [] := by simpa [subs] using hE
        have e_1 : gp 1 = Value.bool false := G 1 19 _ (by simp) rfl
        clear G Gs hE
        simp only [fFormatT11]
        simp only [qA, setD, qZ, qS, e_1]
        refine wpAny_done (by kernel_rfl) ?_ _
        go_wp2_with fail
        go_meet
        case rel => exact ⟨rfl, (V0.mono bp), (hb1.trans (bp.mono hb1.size))⟩
      case rest =>
      clear V0 hb1
      obtain ⟨rfl, V0, hb1⟩ := hcut
      go_wp2
      go_ret
      exact ⟨rfl, hb1⟩
    · have hf : (Fq.mk false xp xq).fmt = fmtB xp ++ (({ data := #[47] } : ByteArray) ++ fmtB xq) := by unfold Fq.fmt; simp only [if_neg h1]; rfl
      rw [hf]
      have H1 : Hid (decide (xq = 1) = false) := Lib.hid (decide_eq_false h1)
      clear hf h1
      obtain ⟨a0, c0, b0, d0, rfl, m0, k0⟩ := boxF ha
      clear ha
      go_enter Tryz.func50, Tryz.ntmps50
      go_upto_region 0 with (fail)
      go_cut [1, 2] (fun s_1 s_2 wx => s_1 = Value.pointer (some ⟨w.heap.size, 0, none⟩) ∧ s_2 = Value.string { data := #[] } ∧ VarQ wx w.heap.size (Fq.mk false xp xq) ∧ Below w.heap.size w wx)
      case first =>
        go_wp2_with fail
        go_meet
        case rel => exact ⟨rfl, rfl, k0, m0⟩
      case rest =>
      clear m0 k0
      obtain ⟨rfl, rfl, V0, hb1⟩ := hcut
      go_upto_region 1 with (fail)
      go_cut [3] (fun s_3 wx => s_3 = Value.string (fmtB xp) ∧ VarQ wx w.heap.size (Fq.mk false xp xq) ∧ Below w.heap.size w wx)
      case first =>
        refine wp_tabGF Tryz.f50 1 (fFormatT12 w xp) [] (fun _ => false) 4 0 (by kernel_rfl) (by kernel_rfl) (by kernel_rfl) (by kernel_rfl) (by kernel_rfl) (EachX.of_all (fun _ h => by cases h) _) ?_ ?_
        · refine ⟨fun _ _ F => gR rfl rfl (arm_fieldF rfl (F.k 1 (Value.pointer (some ⟨w.heap.size, 0, none⟩))) (run_field1 _)).b, ?_⟩
          refine ⟨fun _ _ F => gR rfl rfl (arm_load1 rfl (F.f 0 rfl) (V0.mono F.below)).b, ?_⟩
          refine ⟨fun _ _ F => gR rfl rfl (arm_C1 rfl (enters Tryz.func76 rfl rfl) (F.f 1 rfl) (fun va w h1 => c_natural_Format va xp w h1 (Nat.le_trans bp (by decide))) (fun _ _ h => ofV h)).b, ?_⟩
          refine ⟨fun _ _ F => gR rfl rfl (arm_move (.inr rfl) (F.f 2 rfl)).b, ?_⟩
          exact trivial
        intro E' hE gp wp bp G Gs
        obtain rfl : E' = [] := by simpa [subs] using hE
        have e_3 : gp 3 = Value.string (fmtB xp) := G 3 3 _ (by simp) rfl
        clear G Gs hE
        simp only [fFormatT12]
        simp only [qA, setD, qZ, qS, e_3]
        refine wpAny_done (by kernel_rfl) ?_ _
        go_wp2_with fail
        go_meet
        case rel => exact ⟨rfl, (V0.mono bp), (hb1.trans (bp.mono hb1.size))⟩
      case rest =>
      clear V0 hb1
      obtain ⟨rfl, V0, hb1⟩ := hcut
      go_upto_region 2 with (fail)
      go_cut [11] (fun s_11 wx => s_11 = Value.bool true ∧ VarQ wx w.heap.size (Fq.mk false xp xq) ∧ Below w.heap.size w wx)
      case first =>
        refine wp_tabGF Tryz.f50 2 (fFormatT13 w xq) [] (fun _ => false) 5 0 (by kernel_rfl) (by kernel_rfl) (by kernel_rfl) (by kernel_rfl) (by kernel_rfl) (EachX.of_all (fun _ h => by cases h) _) ?_ ?_
        · refine ⟨fun _ _ F => gR rfl rfl (arm_fieldF rfl (F.k 1 (Value.pointer (some ⟨w.heap.size, 0, none⟩))) (run_field2 _)).b, ?_⟩
          refine ⟨fun _ _ F => gR rfl rfl (arm_load2 rfl (F.f 0 rfl) (V0.mono F.below)).b, ?_⟩
          refine ⟨fun _ _ F => gR rfl rfl (arm_ones rfl (F.f 1 rfl)).b, ?_⟩
          refine ⟨fun _ _ F => gR rfl rfl (arm_C1 rfl (enters Tryz.func74 rfl rfl) (F.f 2 rfl) (fun va w h1 => c_one1 va xq w h1 (Nat.le_trans bq (by decide))) (fun _ _ h => by have h' : RetV _ _ _ _ := h; rw [H1.out] at h'; exact ofV h')).b, ?_⟩
          refine ⟨fun _ _ F => gR rfl rfl (arm_not rfl (F.f 3 rfl)).b, ?_⟩
          exact trivial
        intro E' hE gp wp bp G Gs
        obtain rfl : E' = [] := by simpa [subs] using hE
        have e_4 : gp 4 = Value.bool true := G 4 11 _ (by simp) rfl
        clear G Gs hE
        simp only [fFormatT13]
        simp only [qA, setD, qZ, qS, e_4]
        refine wpAny_done (by kernel_rfl) ?_ _
        go_wp2_with fail
        go_meet
        case rel => exact ⟨rfl, (V0.mono bp), (hb1.trans (bp.mono hb1.size))⟩
      case rest =>
      clear V0 hb1
      obtain ⟨rfl, V0, hb1⟩ := hcut
      go_upto_region 3 with (fail)
      go_cut [3] (fun s_3 wx => s_3 = Value.string ((fmtB xp) ++ (({ data := #[47] }) ++ (fmtB xq))) ∧ VarQ wx w.heap.size (Fq.mk false xp xq) ∧ Below w.heap.size w wx)
      case first =>
        refine wp_tabGF Tryz.f50 3 (fFormatT14 w xp xq) [] (fun _ => false) 6 1 (by kernel_rfl) (by kernel_rfl) (by kernel_rfl) (by kernel_rfl) (by kernel_rfl) (EachX.of_all (fun _ h => by cases h) _) ?_ ?_
        · refine ⟨fun _ _ F => gR rfl rfl (arm_move (.inl rfl) (F.k 3 (Value.string (fmtB xp)))).b, ?_⟩
          refine ⟨fun _ _ F => gR rfl rfl (arm_fieldF rfl (F.k 1 (Value.pointer (some ⟨w.heap.size, 0, none⟩))) (run_field2 _)).b, ?_⟩
          refine ⟨fun _ _ F => gR rfl rfl (arm_load2 rfl (F.f 1 rfl) (V0.mono F.below)).b, ?_⟩
          refine ⟨fun _ _ F => gR rfl rfl (arm_C1 rfl (enters Tryz.func76 rfl rfl) (F.f 2 rfl) (fun va w h1 => c_natural_Format va xq w h1 (Nat.le_trans bq (by decide))) (fun _ _ h => ofV h)).b, ?_⟩
          refine ⟨fun _ _ F => gR rfl rfl (arm_bin rfl Is.const (F.f 3 rfl) (fun _ => rfl) (fun w => run_addSt _ _ w (by have := fmt_size xp; have := fmt_size xq; simp only [ByteArray.size_append, sz45, sz47]; omega))).b, ?_⟩
          refine ⟨fun _ _ F => gR rfl rfl (arm_bin rfl (F.f 0 rfl) (F.f 4 rfl) (fun _ => rfl) (fun w => run_addSt _ _ w (by have := fmt_size xp; have := fmt_size xq; simp only [ByteArray.size_append, sz45, sz47]; omega))).b, ?_⟩
          exact trivial
        intro E' hE gp wp bp G Gs
        obtain rfl : E' = [] := by simpa [subs] using hE
        have e_5 : gp 5 = Value.string ((fmtB xp) ++ (({ data := #[47] }) ++ (fmtB xq))) := G 5 17 _ (by simp) rfl
        clear G Gs hE
        simp only [fFormatT14]
        simp only [qA, setD, qZ, qS, e_5]
        refine wpAny_takeD (i := 6) (d := some 3) (v := Value.string ((fmtB xp) ++ (({ data := #[47] }) ++ (fmtB xq)))) rfl rfl (by kernel_rfl) (by kernel_rfl) (by kernel_rfl) (fun _ _ _ h => h) (Or.inl ⟨by rfl, fun w => by rfl⟩) ?_
        try simp only [qP, qZ, qS]
        refine wpAny_done (by kernel_rfl) ?_ _
        go_wp2_with fail
        go_meet
        case rel => exact ⟨rfl, (V0.mono bp), (hb1.trans (bp.mono hb1.size))⟩
      case rest =>
      clear V0 hb1
      obtain ⟨rfl, V0, hb1⟩ := hcut
      go_upto_region 4 with (fail)
      go_cut [19] (fun s_19 wx => s_19 = Value.bool false ∧ VarQ wx w.heap.size (Fq.mk false xp xq) ∧ Below w.heap.size w wx)
      case first =>
        refine wp_tabGF Tryz.f50 4 (fFormatT15 w) [] (fun _ => false) 2 0 (by kernel_rfl) (by kernel_rfl) (by kernel_rfl) (by kernel_rfl) (by kernel_rfl) (EachX.of_all (fun _ h => by cases h) _) ?_ ?_
        · refine ⟨fun _ _ F => gR rfl rfl (arm_fieldF rfl (F.k 1 (Value.pointer (some ⟨w.heap.size, 0, none⟩))) (run_field0 _)).b, ?_⟩
          refine ⟨fun _ _ F => gR rfl rfl (arm_loadS rfl (F.f 0 rfl) (V0.mono F.below)).b, ?_⟩
          exact trivial
        intro E' hE gp wp bp G Gs
        obtain rfl : E' = [] := by simpa [subs] using hE
        have e_1 : gp 1 = Value.bool false := G 1 19 _ (by simp) rfl
        clear G Gs hE
        simp only [fFormatT15]
        simp only [qA, setD, qZ, qS, e_1]
        refine wpAny_done (by kernel_rfl) ?_ _
        go_wp2_with fail
        go_meet
        case rel => exact ⟨rfl, (V0.mono bp), (hb1.trans (bp.mono hb1.size))⟩
      case rest =>
      clear V0 hb1
      obtain ⟨rfl, V0, hb1⟩ := hcut
      go_wp2
      go_ret
      exact ⟨rfl, hb1⟩
end Go.Proofs.YtfhinmdhjlmikaaGreatDoor
