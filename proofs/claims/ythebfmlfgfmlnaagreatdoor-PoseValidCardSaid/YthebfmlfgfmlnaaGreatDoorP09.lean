/- mark, Sign of package fraction; Sign of the reference. Cmp, Lerp, Int, Ratio; copied. Valid, of package fraction and of the reference. strings.Cut at a slash, strings.CutPrefix at a minus. Format of package fraction and of the reference. Parse of package fraction. -/
import Derived.Test.YthebfmlfgfmlnaaGreatDoorP08
import Derived.Lib.Bytealg
import Derived.Lib.Strings
namespace Go.Proofs.YthebfmlfgfmlnaaGreatDoor
set_option linter.unusedSimpArgs false
set_option linter.unusedVariables false
set_option maxRecDepth 100000
open Go.RowKit
/-- Block g is a variable of type signed. -/
def VarS (w : World) (g : Nat) (a b : Bool) : Prop := w.heap[g]? = some (.cells #[.bool a, .bool b] 136 (0, 0))
theorem VarS.lt {w : World} {g : Nat} {a b : Bool} (h : VarS w g a b) : g < w.heap.size := (Array.getElem?_eq_some_iff.1 h).1
theorem VarS.mono {w w' : World} {g B : Nat} {a b : Bool} (h : VarS w g a b) (hb : Below B w w') (hB : g < B) : VarS w' g a b := (hb.block g hB).trans h
theorem VarS.cell1 {w : World} {g : Nat} {a b : Bool} (h : VarS w g a b) : w.cell? ⟨g, 1, none⟩ = some (.bool b) := by rw [cell_of_row w g 1 _ _ (0, 0) h]; rfl
theorem VarS.own {w : World} {g : Nat} {a b : Bool} (h : VarS w g a b) : Own w g := ⟨_, _, h, fun k n => by
  match k with
  | 0 => intro h; cases h
  | 1 => intro h; cases h
  | k + 2 => intro h; simp at h⟩
theorem VarS.upd {w w' : World} {g g' : Nat} {a b : Bool} (h : VarS w g' a b) (_ : Own w g) (u : Upd w g w') (hn : g' ≠ g) : VarS w' g' a b := (u.block g' hn).trans h
theorem VarS.any {w : World} {g : Nat} {a b : Bool} (h : VarS w g a b) : ∃ a b, VarS w g a b := ⟨_, _, h⟩
section
variable {Q : Exit → Act → World → Prop} {md : Region.Mode} {ops : Array Oper} {o : Oper} {a : Act} {w : World} {j fuel : Nat} {listed : Array Bool} {x y : Operand} {g : Nat} {s t : Bool}
end
theorem run_eqSS (a b c d : Bool) (w : World) : (binOp BinOp.eql 136 (.agg #[.bool a, .bool b]) (.agg #[.bool c, .bool d])).run Tryz.prog w = .ok (.bool (a == c && b == d)) w := by
  cases a <;> cases b <;> cases c <;> cases d <;> go_simp
theorem run_neSS (a b c d : Bool) (w : World) : (binOp BinOp.neq 136 (.agg #[.bool a, .bool b]) (.agg #[.bool c, .bool d])).run Tryz.prog w = .ok (.bool (!(a == c && b == d))) w := by
  cases a <;> cases b <;> cases c <;> cases d <;> go_simp
theorem guard_eqSS {x y : Operand} (a b c d : Bool) (w : World) : (eqGuard BinOp.eql 136 x y (.agg #[.bool a, .bool b]) (.agg #[.bool c, .bool d])).run Tryz.prog w = .ok () w := by go_simp
theorem guard_neSS {x y : Operand} (a b c d : Bool) (w : World) : (eqGuard BinOp.neq 136 x y (.agg #[.bool a, .bool b]) (.agg #[.bool c, .bool d])).run Tryz.prog w = .ok () w := by go_simp
end Go.Proofs.YthebfmlfgfmlnaaGreatDoor
namespace Go.Proofs.YthebfmlfgfmlnaaGreatDoor
set_option linter.unusedSimpArgs false
set_option linter.unusedVariables false
set_option maxRecDepth 100000
open Go.RowKit
/-- The fraction of an integer; of two. -/
def Fq.ofInt (v : Int) : Fq := ⟨decide (v < 0), v.natAbs, 1⟩
theorem nl_abs {v : Int} (lv : -9223372036854775808 ≤ v) (rv : v < 9223372036854775808) : nl v.natAbs ≤ 2 := nl_le_iff.2 (by show v.natAbs < 18446744073709551616; omega)
end Go.Proofs.YthebfmlfgfmlnaaGreatDoor
namespace Go.Proofs.YthebfmlfgfmlnaaGreatDoor
set_option linter.unusedSimpArgs false
set_option linter.unusedVariables false
set_option maxRecDepth 100000
open Go.RowKit
/-- A fraction of rows: leading zeros allowed. -/
def IsFR (w : World) (v : Value) (s : Bool) (L p N q : Nat) : Prop := ∃ a c b d, v = .agg #[.bool s, .slice a L c, .slice b N d] ∧ IsR w (.agg #[.slice a L c]) L p ∧ IsR w (.agg #[.slice b N d]) N q
theorem IsFR.mono {w w' : World} {v : Value} {s : Bool} {L p N q : Nat} (h : IsFR w v s L p N q) (hb : Below w.heap.size w w') : IsFR w' v s L p N q := by
  obtain ⟨a, c, b, d, rfl, h1, h2⟩ := h; exact ⟨a, c, b, d, rfl, h1.mono hb, h2.mono hb⟩
theorem IsFR.isQ {w : World} {v : Value} {s : Bool} {L p N q : Nat} (h : IsFR w v s L p N q) (hL : nl p = L) (hN : nl q = N) : IsQ w v ⟨s, p, q⟩ := by
  subst hL; subst hN; exact h
def VarFR (w : World) (g : Nat) (s : Bool) (L p N q : Nat) : Prop := ∃ a c b d, VarFB w g s a L c b N d ∧ IsR w (.agg #[.slice a L c]) L p ∧ IsR w (.agg #[.slice b N d]) N q
theorem VarFR.lt {w : World} {g L p N q : Nat} {s : Bool} (h : VarFR w g s L p N q) : g < w.heap.size := by obtain ⟨_, _, _, _, h, _⟩ := h; exact h.lt
theorem VarFR.mono {w w' : World} {g L p N q : Nat} {s : Bool} (h : VarFR w g s L p N q) (hb : Below w.heap.size w w') : VarFR w' g s L p N q := by
  obtain ⟨a, c, b, d, h0, h1, h2⟩ := h; exact ⟨a, c, b, d, h0.mono hb h0.lt, h1.mono hb, h2.mono hb⟩
theorem VarFR.upd {w w' : World} {g g' L p N q : Nat} {s : Bool} (h : VarFR w g' s L p N q) (o : Own w g) (u : Upd w g w') (hn : g' ≠ g) : VarFR w' g' s L p N q := by
  obtain ⟨x, cx, y, cy, h0, h1, h2⟩ := h; exact ⟨x, cx, y, cy, h0.upd o u hn, h1.upd o u, h2.upd o u⟩
section
variable {Q : Exit → Act → World → Prop} {o : Oper} {a : Act} {w : World} {x y : Operand} {g L p N q m : Nat} {s : Bool} {tt : Array TypeId}
end
/-- Which fractions are valid. -/
def Fq.valid (x : Fq) : Bool := decide (x.q ≠ 0 ∧ ¬(x.s = true ∧ x.p = 0) ∧ Nat.gcd x.p x.q = 1)
end Go.Proofs.YthebfmlfgfmlnaaGreatDoor
namespace Go.Proofs.YthebfmlfgfmlnaaGreatDoor
set_option linter.unusedSimpArgs false
set_option linter.unusedVariables false
set_option maxRecDepth 100000
open Go.RowKit
/-- The first slash stands at i. -/
def slashAt (s : ByteArray) (i : Nat) : Prop := i < s.size ∧ by' s i = 47 ∧ ∀ j, j < i → by' s j ≠ 47
def noSlash (s : ByteArray) : Prop := ∀ j, j < s.size → by' s j ≠ 47
theorem idx_hit : ∀ (l : List UInt8) (i : Nat) (c : UInt8), l[i]? = some c → (∀ j, j < i → l[j]? ≠ some c) → Lib.indexByte l c = (i : Int)
  | [], i, c, h, _ => by simp at h
  | b :: l, 0, c, h, _ => by
    have hb : b = c := by simpa using h
    subst hb
    unfold Lib.indexByte
    simp
  | b :: l, i + 1, c, h, hn => by
    have hb : (b == c) = false := by
      have := hn 0 (by omega)
      simpa using this
    have ih := idx_hit l i c (by simpa using h) (fun j hj => by have := hn (j + 1) (by omega); simpa using this)
    unfold Lib.indexByte
    rw [hb, ih]
    have : ((i : Int) == -1) = false := by simp
    simp [this]
theorem idx_miss : ∀ (l : List UInt8) (c : UInt8), (∀ j : Nat, l[j]? ≠ some c) → Lib.indexByte l c = -1
  | [], c, _ => rfl
  | b :: l, c, hn => by
    have hb : (b == c) = false := by
      have := hn 0
      simpa using this
    have ih := idx_miss l c (fun j => by have := hn (j + 1); simpa using this)
    unfold Lib.indexByte
    rw [hb, ih]
    rfl
theorem list_at (s : ByteArray) (j : Nat) (hj : j < s.size) (c : UInt8) : s.data.toList[j]? = some c ↔ by' s j = c.toNat := by
  have h1 : s.data.toList[j]? = some s[j] := by
    rw [Array.getElem?_toList]
    exact Array.getElem?_eq_getElem (h := hj)
  rw [h1]
  unfold by'
  rw [dif_pos hj, Option.some.injEq]
  exact ⟨fun h => by rw [h], fun h => UInt8.toNat_inj.1 h⟩
theorem slash_index {s : ByteArray} {i : Nat} (h : slashAt s i) : Lib.indexByte s.data.toList 47 = (i : Int) :=
  idx_hit _ i 47 ((list_at s i h.1 47).2 h.2.1) (fun j hj he => h.2.2 j hj ((list_at s j (by have := h.1; omega) 47).1 he))
theorem noSlash_index {s : ByteArray} (h : noSlash s) : Lib.indexByte s.data.toList 47 = -1 :=
  idx_miss _ 47 (fun j he => by
    have hj : j < s.size := by
      have : j < s.data.toList.length := (List.getElem?_eq_some_iff.1 he).1
      simpa using this
    exact h j hj ((list_at s j hj 47).1 he))
theorem c_IndexByte (s : ByteArray) (w : World) : Calls Tryz.prog 181 #[.string s, .int .u8 47] w fun e w' => e = .returned (.int .i64 (Lib.indexByte s.data.toList 47)) ∧ w' = w := by
  go_enter Tryz.func181, Tryz.ntmps181
  go_wp2
  rw [run_callFunc_extern Tryz.func186 (by kernel_rfl) (by kernel_rfl) (by kernel_rfl) (e := Extern.BytealgIndexByte.indexByte) (by kernel_rfl), Lib.run_indexByteString]
  simp only [Result.andThen]
  rw [Oper.upon_value]
  go_wp2
  go_ret
  exact ⟨rfl, rfl⟩
theorem c_IndexSlash (s : ByteArray) (w : World) (hs : s.size ≤ 4294967280) : Calls Tryz.prog 170 #[.string s, .string { data := #[47] }] w fun e w' => e = .returned (.int .i64 (Lib.indexByte s.data.toList 47)) ∧ w' = w := by
  go_enter Tryz.func170, Tryz.ntmps170
  by_cases he : ([47] == s.toList) = true
  · have hx : Lib.indexByte s.data.toList 47 = 0 := by
      have h2 : s.data.toList = [47] := by
        have h1 : [47] = s.toList := by simpa using he
        rw [Lib.toList_data] at h1; exact h1.symm
      rw [h2]; rfl
    rw [hx]
    go_wp2
    go_ret
    exact ⟨rfl, rfl⟩
  · have he' : ([47] == s.toList) = false := by simpa using he
    go_wp2_with fail
    refine (c_IndexByte s w).mono ?_
    rintro e w1 ⟨rfl, rfl⟩
    go_wp2
    go_ret
    exact ⟨rfl, rfl⟩
theorem c_sCut_hit (s : ByteArray) (i : Nat) (w : World) (hs : s.size ≤ 4294967280) (h : slashAt s i) : Calls Tryz.prog 147 #[.string s, .string { data := #[47] }] w fun e w' => e = .returned (.tuple #[.string (s.extract 0 i), .string (s.extract (i + 1) s.size), .bool true]) ∧ ∃ n, w' = w.drewN n := by
  have hx := slash_index h
  have hi : i < s.size := h.1
  have c1 : (0 : Int) ≤ (i : Int) := by omega
  have c2 : (i : Int) ≤ (s.size : Int) := by omega
  have c3 : (0 : Int) ≤ (i : Int) + 1 := by omega
  have c4 : (i : Int) + 1 ≤ (s.size : Int) := by omega
  go_enter Tryz.func147, Tryz.ntmps147
  go_wp2_with fail
  refine (c_IndexSlash s w hs).mono ?_
  rintro e w1 ⟨rfl, rfl⟩
  rw [hx]
  go_wp2_with fail
  go_region
  go_wp2
  go_ret3
  exact ⟨rfl, 1, rfl⟩
theorem c_sCut_miss (s : ByteArray) (w : World) (hs : s.size ≤ 4294967280) (h : noSlash s) : Calls Tryz.prog 147 #[.string s, .string { data := #[47] }] w fun e w' => e = .returned (.tuple #[.string s, .string { data := #[] }, .bool false]) ∧ ∃ n, w' = w.drewN n := by
  have hx := noSlash_index h
  go_enter Tryz.func147, Tryz.ntmps147
  go_wp2_with fail
  refine (c_IndexSlash s w hs).mono ?_
  rintro e w1 ⟨rfl, rfl⟩
  rw [hx]
  go_wp2
  go_ret3
  exact ⟨rfl, 0, rfl⟩
theorem c_Cut {s a b : ByteArray} {t : Bool} (w : World) (h : Calls Tryz.prog 147 #[.string s, .string { data := #[47] }] w fun e w' => e = .returned (.tuple #[.string a, .string b, .bool t]) ∧ ∃ n, w' = w.drewN n) :
    Calls Tryz.prog 96 #[.string s, .string { data := #[47] }] w fun e w' => e = .returned (.tuple #[.string a, .string b, .bool t]) ∧ Below w.heap.size w w' := by
  go_enter Tryz.func96, Tryz.ntmps96
  go_wp2_with fail
  refine h.mono ?_
  rintro e w1 ⟨rfl, n, rfl⟩
  go_wp2
  go_ret3
  exact ⟨rfl, bel_drewN (Below.refl _ _) n⟩
theorem c_HasPrefix (s : ByteArray) (w : World) : Calls Tryz.prog 171 #[.string s, .string { data := #[45] }] w fun e w' => e = .returned (.bool (decide (0 < s.size ∧ by' s 0 = 45))) ∧ w' = w := by
  go_enter Tryz.func171, Tryz.ntmps171
  by_cases h0 : 0 < s.size
  · have c1 : (1 : Int) ≤ (s.size : Int) := by omega
    have hx : ((s.extract 0 1).toList == [45]) = decide (0 < s.size ∧ by' s 0 = 45) := by
      rw [Lib.extract_toList]
      have h1 := list_at s 0 h0 45
      have h2 : ((s.data.toList.drop 0).take (1 - 0)) = [s[0]'h0] := by
        have h3 : 0 < s.data.toList.length := by rw [← Lib.size_eq]; exact h0
        rw [List.drop_zero]
        rw [show (1 : Nat) - 0 = 1 from rfl]
        cases hl : s.data.toList with
        | nil => rw [hl] at h3; cases h3
        | cons b l =>
          have : s.data.toList[0]? = some (s[0]'h0) := by rw [Array.getElem?_toList]; exact Array.getElem?_eq_getElem (h := h0)
          rw [hl] at this
          simp at this
          simp [this]
      rw [h2]
      rw [Bool.eq_iff_iff]
      have h4 : by' s 0 = (s[0]'h0).toNat := by unfold by'; rw [dif_pos h0]
      simp only [beq_iff_eq, List.cons.injEq, and_true, decide_eq_true_eq, h0, true_and, h4]
      exact ⟨fun h => by rw [h]; rfl, fun h => UInt8.toNat_inj.1 h⟩
    generalize decide (0 < s.size ∧ by' s 0 = 45) = t at hx ⊢
    go_wp2
    go_ret
    exact ⟨by first | rfl | simp_all, rfl⟩
  · have hx : decide (0 < s.size ∧ by' s 0 = 45) = false := decide_eq_false (fun h => h0 h.1)
    have c1 : ¬ (1 : Int) ≤ (s.size : Int) := by omega
    rw [hx]
    go_wp2
    go_ret
    exact ⟨rfl, rfl⟩
theorem c_CutPrefix (s t : ByteArray) (b : Bool) (w : World) (hb : decide (0 < s.size ∧ by' s 0 = 45) = b) (ht : t = if b then s.extract 1 s.size else s) : Calls Tryz.prog 95 #[.string s, .string { data := #[45] }] w fun e w' => e = .returned (.tuple #[.string t, .bool b]) ∧ Below w.heap.size w w' := by
  have key : Calls Tryz.prog 146 #[.string s, .string { data := #[45] }] w fun e w' => e = .returned (.tuple #[.string t, .bool b]) ∧ w' = w := by
    have HB := Lib.hid hb
    cases b with
    | true =>
      have hs : (1 : Int) ≤ (s.size : Int) := by have := (of_decide_eq_true hb).1; omega
      simp only [if_true] at ht
      have HT := Lib.hid ht
      clear hb ht
      go_enter Tryz.func146, Tryz.ntmps146
      go_wp2_with fail
      refine (c_HasPrefix s w).mono ?_
      rintro e w1 ⟨rfl, rfl⟩
      rw [HB.out]
      go_wp2
      go_ret2
      exact ⟨by rw [HT.out]; rfl, rfl⟩
    | false =>
      simp only [Bool.false_eq_true, if_false] at ht
      subst ht
      clear hb
      go_enter Tryz.func146, Tryz.ntmps146
      go_wp2_with fail
      refine (c_HasPrefix _ w).mono ?_
      rintro e w1 ⟨rfl, rfl⟩
      rw [HB.out]
      go_wp2
      go_ret2
      exact ⟨rfl, rfl⟩
  clear hb ht
  go_enter Tryz.func95, Tryz.ntmps95
  go_wp2_with fail
  refine key.mono ?_
  rintro e w1 ⟨rfl, rfl⟩
  go_wp2
  go_ret2
  exact ⟨rfl, Below.refl _ _⟩
end Go.Proofs.YthebfmlfgfmlnaaGreatDoor
namespace Go.Proofs.YthebfmlfgfmlnaaGreatDoor
set_option linter.unusedSimpArgs false
set_option linter.unusedVariables false
set_option maxRecDepth 100000
open Go.RowKit
/-- The text of a fraction. -/
def Fq.fmt (x : Fq) : ByteArray := if x.s then ({ data := #[45] } : ByteArray) ++ (if x.q = 1 then fmtB x.p else fmtB x.p ++ (({ data := #[47] } : ByteArray) ++ fmtB x.q)) else (if x.q = 1 then fmtB x.p else fmtB x.p ++ (({ data := #[47] } : ByteArray) ++ fmtB x.q))
theorem fmt_size (N : Nat) : (fmtB N).size ≤ 10 * nl N + 1 := by
  by_cases h0 : N = 0
  · subst h0; have e : fmtB 0 = ⟨#[48]⟩ := by unfold fmtB; rw [if_pos rfl]
    rw [e]; show 1 ≤ _; omega
  · have e : fmtB N = ⟨(decB N).reverse.toArray⟩ := by unfold fmtB; rw [if_neg h0]
    have hsz : (fmtB N).size = (decB N).length := by rw [e]; simp [ByteArray.size]
    have := decB_bound N
    omega
end Go.Proofs.YthebfmlfgfmlnaaGreatDoor
namespace Go.Proofs.YthebfmlfgfmlnaaGreatDoor
set_option linter.unusedSimpArgs false
set_option linter.unusedVariables false
set_option maxRecDepth 100000
open Go.RowKit
theorem pv_lt (s : ByteArray) (k : Nat) (hg : goodTo s k) : parseVal s k < 10 ^ k := by
  induction k with
  | zero => show 0 < 1; omega
  | succ k ih =>
    have h1 := ih (fun j hj => hg j (by omega))
    have h2 := hg k (by omega)
    show 10 * parseVal s k + (by' s k - 48) < 10 ^ (k + 1)
    rw [Nat.pow_succ]; omega
theorem parse_nlU {s : ByteArray} {N : Nat} {c : Int} (h : ParseIs s N c) : nl N ≤ 400 := by
  have h0 : nl 0 ≤ 400 := by rw [nl_zero]; omega
  by_cases h1 : s.size = 0
  · rw [(h.short h1).1]; exact h0
  · by_cases h2 : 400 < s.size
    · rw [(h.long h2).1]; exact h0
    · by_cases h3 : goodTo s s.size
      · by_cases h4 : by' s 0 = 48 → s.size = 1
        · rw [(h.good (by omega) (by omega) h4 h3).1]
          have key : ∀ k, s.size ≤ k → parseVal s s.size < 4294967296 ^ k := fun k hk => Nat.lt_of_lt_of_le (pv_lt s s.size h3) (Nat.le_trans (Nat.pow_le_pow_right (by decide) hk) (Nat.pow_le_pow_left (by decide) k))
          exact nl_le_iff.2 (key 400 (by omega))
        · have h5 : by' s 0 = 48 ∧ s.size ≠ 1 := by
            constructor
            · exact Classical.byContradiction fun h => h4 (fun h' => absurd h' h)
            · exact fun h => h4 (fun _ => h)
          rw [(h.zero (by omega) (by omega) h5.1).1]; exact h0
      · rw [(h.bad (by omega) (by omega) h3).1]; exact h0
/-- How a text falls into sign, numerator, slash, denominator. -/
structure Pieces (s t : ByteArray) (B F : Bool) (a b : ByteArray) : Prop where
  sign : decide (0 < s.size ∧ by' s 0 = 45) = B
  rest : t = if B then s.extract 1 s.size else s
  hit : F = true → ∃ i, slashAt t i ∧ a = t.extract 0 i ∧ b = t.extract (i + 1) t.size
  miss : F = false → noSlash t ∧ a = t ∧ b = { data := #[] }
/-- The denominator; whether a fraction of these parts is accepted. -/
def parseQ (F : Bool) (N : Nat) : Nat := if F then N else 1
def parseV (B F : Bool) (M N : Nat) : Bool := if F then !decide (N = 1) && (Fq.mk B M N).valid else (Fq.mk B M 1).valid
/-- What a text is read as. -/
inductive FP (s : ByteArray) : Fq → Int → Prop
  | num {t B F a b M c} (h : Pieces s t B F a b) (ha : ParseIs a M c) (h0 : c ≠ 0) : FP s .zero c
  | den {t B a b M N c} (h : Pieces s t B true a b) (ha : ParseIs a M 0) (hb : ParseIs b N c) (h0 : c ≠ 0) : FP s .zero c
  | bad {t B F a b M N} (h : Pieces s t B F a b) (ha : ParseIs a M 0) (hb : F = true → ParseIs b N 0) (hv : parseV B F M N = false) : FP s .zero 2
  | good {t B F a b M N} (h : Pieces s t B F a b) (ha : ParseIs a M 0) (hb : F = true → ParseIs b N 0) (hv : parseV B F M N = true) : FP s ⟨B, M, parseQ F N⟩ 0
theorem cut_piece {s t a b : ByteArray} {B F : Bool} (h : Pieces s t B F a b) (w : World) (hs : t.size ≤ 4294967280) : Calls Tryz.prog 96 #[.string t, .string { data := #[47] }] w fun e w' => e = .returned (.tuple #[.string a, .string b, .bool F]) ∧ Below w.heap.size w w' := by
  cases F with
  | true => obtain ⟨i, h1, rfl, rfl⟩ := h.hit rfl; exact c_Cut w (c_sCut_hit t i w hs h1)
  | false => obtain ⟨h1, rfl, rfl⟩ := h.miss rfl; exact c_Cut w (c_sCut_miss _ w hs h1)
theorem pieces_size {s t a b : ByteArray} {B F : Bool} (h : Pieces s t B F a b) : t.size ≤ s.size := by
  rw [h.rest]
  cases B
  · simp
  · simp only [if_true, ByteArray.size_extract]; omega
end Go.Proofs.YthebfmlfgfmlnaaGreatDoor
