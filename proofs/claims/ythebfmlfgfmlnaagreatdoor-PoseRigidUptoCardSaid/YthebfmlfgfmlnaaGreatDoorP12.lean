/- The plain law of the texts of fractions: what is read is what is written. Texts with two spaces: what strings.Count and strings.Split give. The calls of package strings, of fraction's texts, for the executor. The call of strings.Join. Vectors, by the executor. Rotations, by the executor. Rows of fractions as they come in. The reference's Valid at fractions of up to 1100000 digits. -/
import Derived.Test.YthebfmlfgfmlnaaGreatDoorP11
import Derived.Lib.SplitLaws
import Derived.Lib.IndexBytes
import Derived.Shelf.Strings.OnBuilder
namespace Go.Proofs.YthebfmlfgfmlnaaGreatDoor
set_option linter.unusedSimpArgs false
set_option linter.unusedVariables false
set_option maxRecDepth 100000
open Go.RowKit
theorem by_data (s : ByteArray) (i : Nat) : by' s i = (s.data[i]?.map UInt8.toNat).getD 0 := by
  unfold by'
  by_cases h : i < s.size
  · rw [dif_pos h, Array.getElem?_eq_getElem (show i < s.data.size from h)]; rfl
  · rw [dif_neg h, Array.getElem?_eq_none (by have : s.data.size = s.size := rfl; omega)]; rfl
theorem by_ext {s t : ByteArray} (h : s.size = t.size) (hb : ∀ i, i < s.size → by' s i = by' t i) : s = t := by
  have e : s.data = t.data := by
    apply Array.ext h
    intro i h1 h2
    have := hb i h1
    unfold by' at this
    rw [dif_pos (show i < s.size from h1), dif_pos (show i < t.size from h2)] at this
    exact UInt8.toNat_inj.1 this
  cases s; cases t; simp only at e; subst e; rfl
theorem by_app (a b : ByteArray) (i : Nat) : by' (a ++ b) i = if i < a.size then by' a i else by' b (i - a.size) := by
  rw [by_data, by_data, by_data, ByteArray.data_append, Array.getElem?_append]
  have e : a.data.size = a.size := rfl
  rw [e]
  split <;> rfl
theorem by_ex (s : ByteArray) (i j k : Nat) (hj : j ≤ s.size) (hk : k < j - i) : by' (s.extract i j) k = by' s (i + k) := by
  rw [by_data, by_data, ByteArray.data_extract, Array.getElem?_extract]
  have e : s.data.size = s.size := rfl
  rw [e, if_pos (by omega)]
theorem cut_app (a b : ByteArray) (i : Nat) (h : a.size = i) : (a ++ b).extract 0 i = a := by
  subst h
  apply by_ext
  · rw [ByteArray.size_extract, ByteArray.size_append]; omega
  · intro k hk
    rw [ByteArray.size_extract, ByteArray.size_append] at hk
    rw [by_ex _ _ _ _ (by rw [ByteArray.size_append]; omega) (by omega), Nat.zero_add, by_app, if_pos (by omega)]
theorem tail_app (a b : ByteArray) (i : Nat) (h : a.size = i) : (a ++ b).extract i (a ++ b).size = b := by
  subst h
  apply by_ext
  · rw [ByteArray.size_extract, ByteArray.size_append]; omega
  · intro k hk
    rw [ByteArray.size_extract, ByteArray.size_append] at hk
    rw [by_ex _ _ _ _ (Nat.le_refl _) (by rw [ByteArray.size_append]; omega), by_app, if_neg (by omega)]
    congr 1; omega
theorem parse_good {s : ByteArray} {N : Nat} (h : ParseIs s N 0) : 0 < s.size ∧ goodTo s s.size := by
  have h1 : 0 < s.size := by
    rcases Nat.eq_zero_or_pos s.size with h' | h'
    · have := (h.short h').2; omega
    · exact h'
  have h2 : s.size ≤ 400 := by
    rcases Nat.lt_or_ge 400 s.size with h' | h'
    · have := (h.long h').2; omega
    · exact h'
  exact ⟨h1, Classical.byContradiction fun h' => by have := (h.bad h1 h2 h').2; omega⟩
/-- What is written is read. -/
theorem fmt_fp {x : Fq} (hv : x.valid = true) (hp : nl x.p ≤ 12) (hq : nl x.q ≤ 12) : FP x.fmt x 0 := by
  obtain ⟨S, p, q⟩ := x
  have ha := fmt_parses p hp
  have hb := fmt_parses q hq
  obtain ⟨a1, a2⟩ := parse_good ha
  obtain ⟨b1, b2⟩ := parse_good hb
  obtain ⟨t, ht⟩ : ∃ t, t = if q = 1 then fmtB p else fmtB p ++ (({ data := #[47] } : ByteArray) ++ fmtB q) := ⟨_, rfl⟩
  have t0 : 0 < t.size ∧ by' t 0 ≠ 45 := by
    have h0 := a2 0 a1
    rw [ht]
    split
    · exact ⟨a1, by omega⟩
    · rw [ByteArray.size_append, by_app, if_pos a1]; exact ⟨by omega, by omega⟩
  have hs47 : ({ data := #[47] } : ByteArray).size = 1 := rfl
  have hs45 : ({ data := #[45] } : ByteArray).size = 1 := rfl
  obtain ⟨s, hs⟩ : ∃ s, s = if S then ({ data := #[45] } : ByteArray) ++ t else t := ⟨_, rfl⟩
  have hfmt : (Fq.mk S p q).fmt = s := by unfold Fq.fmt; rw [hs, ht]
  rw [hfmt]
  have hP : Pieces s t S (decide (q ≠ 1)) (fmtB p) (if q = 1 then { data := #[] } else fmtB q) := by
    refine ⟨?_, ?_, fun hF => ?_, fun hF => ?_⟩
    · rw [hs]
      cases S with
      | true => rw [if_pos rfl]; apply decide_eq_true; refine ⟨by rw [ByteArray.size_append, hs45]; omega, ?_⟩; rw [by_app, hs45, if_pos (by omega)]; rfl
      | false => rw [if_neg Bool.false_ne_true]; exact decide_eq_false (fun h => t0.2 h.2)
    · rw [hs]
      cases S with
      | true => rw [if_pos rfl, if_pos rfl]; exact (tail_app _ _ 1 hs45).symm
      | false => rw [if_neg Bool.false_ne_true, if_neg Bool.false_ne_true]
    · have hq1 : q ≠ 1 := of_decide_eq_true hF
      rw [if_neg hq1] at ht ⊢
      refine ⟨(fmtB p).size, ⟨?_, ?_, fun j hj => ?_⟩, ?_, ?_⟩
      · rw [ht, ByteArray.size_append, ByteArray.size_append, hs47]; omega
      · rw [ht, by_app, if_neg (by omega), Nat.sub_self, by_app, hs47, if_pos (by omega)]; rfl
      · rw [ht, by_app, if_pos hj]; have := a2 j hj; omega
      · rw [ht]; exact (cut_app _ _ _ rfl).symm
      · rw [ht, ← ByteArray.append_assoc]
        refine (tail_app _ _ _ ?_).symm
        rw [ByteArray.size_append, hs47]
    · have hq1 : q = 1 := Classical.byContradiction fun h => by rw [decide_eq_true h] at hF; cases hF
      rw [if_pos hq1] at ht ⊢
      refine ⟨fun j hj => ?_, ht.symm, rfl⟩
      rw [ht] at hj ⊢
      have := a2 j hj; omega
  by_cases hq1 : q = 1
  · have hF : decide (q ≠ 1) = false := decide_eq_false (fun h => h hq1)
    rw [hF, if_pos hq1] at hP
    subst hq1
    exact FP.good (N := 1) hP ha (fun h => by cases h) hv
  · have hF : decide (q ≠ 1) = true := decide_eq_true hq1
    rw [hF, if_neg hq1] at hP
    exact FP.good hP ha (fun _ => hb) (by show (!decide (q = 1) && (Fq.mk S p q).valid) = true; rw [decide_eq_false hq1, hv]; rfl)
/-- What is read is small. -/
theorem fp_ok {s : ByteArray} {x : Fq} {c : Int} (h : FP s x c) : nl x.p ≤ 400 ∧ nl x.q ≤ 400 ∧ (c = 0 → x.q ≠ 0) := by
  cases h with
  | num h ha h0 => exact ⟨by decide, by decide, fun h => absurd h h0⟩
  | den h ha hb h0 => exact ⟨by decide, by decide, fun h => absurd h h0⟩
  | bad h ha hb hv => exact ⟨by decide, by decide, fun h => (by cases h)⟩
  | good h ha hb hv =>
    rename_i t B F a b M N
    refine ⟨parse_nlU ha, ?_, fun _ => ?_⟩
    · cases F with
      | true => exact parse_nlU (hb rfl)
      | false => exact show nl 1 ≤ 400 by decide
    · cases F with
      | true =>
        have h2 : (!decide (N = 1) && (Fq.mk B M N).valid) = true := hv
        rw [Bool.and_eq_true] at h2
        exact (of_decide_eq_true h2.2).1
      | false => exact Nat.one_ne_zero
end Go.Proofs.YthebfmlfgfmlnaaGreatDoor
namespace Go.Proofs.YthebfmlfgfmlnaaGreatDoor
set_option linter.unusedSimpArgs false
set_option linter.unusedVariables false
set_option maxRecDepth 100000
open Go.RowKit
abbrev b1 (c : UInt8) : ByteArray := { data := #[c] }
/-- The first c stands at i; there is none. -/
def ChAt (c : UInt8) (u : ByteArray) (i : Nat) : Prop := i < u.size ∧ by' u i = c.toNat ∧ ∀ k, k < i → by' u k ≠ c.toNat
def ChNo (c : UInt8) (u : ByteArray) : Prop := ∀ k, k < u.size → by' u k ≠ c.toNat
section
variable {c : UInt8} {u s : ByteArray} {i j a b : Nat}
theorem ch_cases (c : UInt8) (u : ByteArray) : (∃ i, ChAt c u i) ∨ ChNo c u := by
  by_cases h : ∃ i, i < u.size ∧ by' u i = c.toNat
  · refine .inl ?_
    obtain ⟨i, hi⟩ := h
    induction i using Nat.strongRecOn with
    | ind i ih =>
      by_cases h2 : ∃ j, j < i ∧ by' u j = c.toNat
      · obtain ⟨j, h3, h4⟩ := h2; exact ih j h3 ⟨by omega, h4⟩
      · exact ⟨i, hi.1, hi.2, fun j hj he => h2 ⟨j, hj, he⟩⟩
  · exact .inr (fun j hj he => h ⟨j, hj, he⟩)
theorem ch_index (h : ChAt c u i) : Lib.indexB u (b1 c) = (i : Int) := by
  show Lib.index u.data.toList [c] = _
  rw [Lib.index_one]
  exact idx_hit _ i c ((list_at u i h.1 c).2 h.2.1) (fun j hj he => h.2.2 j hj ((list_at u j (by have := h.1; omega) c).1 he))
theorem ch_none (h : ChNo c u) : Lib.indexB u (b1 c) = -1 := by
  show Lib.index u.data.toList [c] = _
  rw [Lib.index_one]
  exact idx_miss _ c (fun j he => by
    have hj : j < u.size := by
      have : j < u.data.toList.length := (List.getElem?_eq_some_iff.1 he).1
      simpa using this
    exact h j hj ((list_at u j hj c).1 he))
theorem ch_count (h : ChAt c u i) : Lib.countB u (b1 c) = 1 + Lib.countB (u.extract (i + 1) u.size) (b1 c) := Lib.countB_hit u (b1 c) i (Nat.le_refl 1) (ch_index h)
theorem ch_count0 (h : ChNo c u) : Lib.countB u (b1 c) = 0 := Lib.countB_miss u (b1 c) (ch_none h)
theorem by_tail (hk : i + j < u.size) : by' (u.extract i u.size) j = by' u (i + j) := by_ex u i u.size j (Nat.le_refl _) (by omega)
theorem sz_ex (hj : j ≤ u.size) : (u.extract i j).size = j - i := by rw [ByteArray.size_extract]; omega
/-- Just two, at a and at b. -/
def Ch2 (c : UInt8) (u : ByteArray) (a b : Nat) : Prop := a < b ∧ b < u.size ∧ by' u a = c.toNat ∧ by' u b = c.toNat ∧ ∀ k, k < u.size → by' u k = c.toNat → k = a ∨ k = b
theorem ex_ex (hj : j ≤ u.size) (hb : b ≤ j - i) : (u.extract i j).extract a b = u.extract (i + a) (i + b) := by
  by_cases hab : a ≤ b
  · refine by_ext ?_ fun k hk => ?_
    · simp only [ByteArray.size_extract]; omega
    · rw [sz_ex (by rw [sz_ex hj]; exact hb)] at hk
      rw [by_ex _ _ _ _ (by rw [sz_ex hj]; exact hb) hk, by_ex _ _ _ _ hj (by omega), by_ex _ _ _ _ (by omega) (by omega), Nat.add_assoc]
  · refine by_ext ?_ fun k hk => ?_
    · simp only [ByteArray.size_extract]; omega
    · rw [sz_ex (by rw [sz_ex hj]; exact hb)] at hk; omega
end
/-- How the text of a vector falls into brackets and three parts. -/
def VCut (s : ByteArray) (i j : Nat) : Prop := 2 ≤ s.size ∧ by' s 0 = 40 ∧ by' s (s.size - 1) = 41 ∧ Ch2 32 s i j
def Vq.zero : Vq := ⟨.zero, .zero, .zero⟩
/-- What a text is read as. -/
inductive VP (s : ByteArray) : Vq → Int → Prop
  | form (h : ∀ i j, ¬ VCut s i j) : VP s .zero 2
  | e0 {i j x c} (h : VCut s i j) (hx : FP (s.extract 1 i) x c) (h0 : c ≠ 0) : VP s .zero c
  | e1 {i j x y c} (h : VCut s i j) (hx : FP (s.extract 1 i) x 0) (hy : FP (s.extract (i + 1) j) y c) (h0 : c ≠ 0) : VP s .zero c
  | e2 {i j x y z c} (h : VCut s i j) (hx : FP (s.extract 1 i) x 0) (hy : FP (s.extract (i + 1) j) y 0) (hz : FP (s.extract (j + 1) (s.size - 1)) z c) (h0 : c ≠ 0) : VP s .zero c
  | good {i j x y z} (h : VCut s i j) (hx : FP (s.extract 1 i) x 0) (hy : FP (s.extract (i + 1) j) y 0) (hz : FP (s.extract (j + 1) (s.size - 1)) z 0) : VP s ⟨x, y, z⟩ 0
end Go.Proofs.YthebfmlfgfmlnaaGreatDoor
namespace Go.Proofs
open Go.Shelf
def Tryz.lays138_ren : Go.Shelf.Ren := ⟨fun | 138 => 144 | 195 => 167 | 218 => 169 | 143 => 145 | 219 => 170 | 217 => 181 | 225 => 182 | 224 => 183 | 267 => 184 | 266 => 186 | 314 => 187 | n => n, fun | 9 => 9 | 3 => 3 | 4 => 4 | 5 => 5 | 0 => 0 | 46 => 145 | 146 => 153 | 51 => 37 | n => n, fun | 1 => 1 | n => n⟩
theorem Tryz.lays138 : Go.Proofs.Lays.n138 Tryz.prog Tryz.lays138_ren := {
  mixed := by kernel_rfl
  f138 := Tryz.func144.trans (congrArg some (by kernel_rfl))
  f143 := Tryz.func145.trans (congrArg some (by kernel_rfl))
  f195 := Tryz.func167.trans (congrArg some (by kernel_rfl))
  f217 := Tryz.func181.trans (congrArg some (by kernel_rfl))
  f218 := Tryz.func169.trans (congrArg some (by kernel_rfl))
  f219 := Tryz.func170.trans (congrArg some (by kernel_rfl))
  f224 := Tryz.func183.trans (congrArg some (by kernel_rfl))
  f225 := Tryz.func182.trans (congrArg some (by kernel_rfl))
  f266 := Tryz.func186.trans (congrArg some (by kernel_rfl))
  f267 := Tryz.func184.trans (congrArg some (by kernel_rfl))
  f314 := Tryz.func187.trans (congrArg some (by kernel_rfl))
  t0 := Tryz.underlying0
  a0 := Tryz.isAgg0
  z0 := Tryz.sizeOf0
  v0 := Tryz.zeroValue0
  t3 := Tryz.underlying3
  a3 := Tryz.isAgg3
  z3 := Tryz.sizeOf3
  v3 := Tryz.zeroValue3
  t4 := Tryz.underlying4
  a4 := Tryz.isAgg4
  z4 := Tryz.sizeOf4
  v4 := Tryz.zeroValue4
  t5 := Tryz.underlying5
  a5 := Tryz.isAgg5
  z5 := Tryz.sizeOf5
  v5 := Tryz.zeroValue5
  t9 := Tryz.underlying9
  a9 := Tryz.isAgg9
  z9 := Tryz.sizeOf9
  v9 := Tryz.zeroValue9
  t46 := Tryz.underlying145
  a46 := Tryz.isAgg145
  z46 := Tryz.sizeOf145
  v46 := Tryz.zeroValue145
  t51 := Tryz.underlying37
  a51 := Tryz.isAgg37
  z51 := Tryz.sizeOf37
  v51 := Tryz.zeroValue37
  t146 := Tryz.underlying153
  a146 := Tryz.isAgg153
  z146 := Tryz.sizeOf153
  v146 := Tryz.zeroValue153
  g1 := by kernel_rfl }
def Tryz.lays146_ren : Go.Shelf.Ren := ⟨fun | 146 => 47 | 221 => 94 | 268 => 143 | 138 => 144 | 143 => 145 | 195 => 167 | 197 => 168 | 218 => 169 | 219 => 170 | 260 => 180 | 217 => 181 | 225 => 182 | 224 => 183 | 267 => 184 | 266 => 186 | 314 => 187 | n => n, fun | 9 => 9 | 31 => 64 | 3 => 3 | 4 => 4 | 0 => 0 | 105 => 160 | 21 => 21 | 5 => 5 | 46 => 145 | 119 => 170 | 139 => 173 | 138 => 172 | 146 => 153 | 51 => 37 | n => n, fun | 1 => 1 | 3 => 2 | 4 => 3 | n => n⟩
theorem Tryz.lays146 : Go.Proofs.Lays.n146 Tryz.prog Tryz.lays146_ren := {
  mixed := by kernel_rfl
  f138 := Tryz.func144.trans (congrArg some (by kernel_rfl))
  f143 := Tryz.func145.trans (congrArg some (by kernel_rfl))
  f146 := Tryz.func47.trans (congrArg some (by kernel_rfl))
  f195 := Tryz.func167.trans (congrArg some (by kernel_rfl))
  f197 := Tryz.func168.trans (congrArg some (by kernel_rfl))
  f217 := Tryz.func181.trans (congrArg some (by kernel_rfl))
  f218 := Tryz.func169.trans (congrArg some (by kernel_rfl))
  f219 := Tryz.func170.trans (congrArg some (by kernel_rfl))
  f221 := Tryz.func94.trans (congrArg some (by kernel_rfl))
  f224 := Tryz.func183.trans (congrArg some (by kernel_rfl))
  f225 := Tryz.func182.trans (congrArg some (by kernel_rfl))
  f260 := Tryz.func180.trans (congrArg some (by kernel_rfl))
  f266 := Tryz.func186.trans (congrArg some (by kernel_rfl))
  f267 := Tryz.func184.trans (congrArg some (by kernel_rfl))
  f268 := Tryz.func143.trans (congrArg some (by kernel_rfl))
  f314 := Tryz.func187.trans (congrArg some (by kernel_rfl))
  t0 := Tryz.underlying0
  a0 := Tryz.isAgg0
  z0 := Tryz.sizeOf0
  v0 := Tryz.zeroValue0
  t3 := Tryz.underlying3
  a3 := Tryz.isAgg3
  z3 := Tryz.sizeOf3
  v3 := Tryz.zeroValue3
  t4 := Tryz.underlying4
  a4 := Tryz.isAgg4
  z4 := Tryz.sizeOf4
  v4 := Tryz.zeroValue4
  t5 := Tryz.underlying5
  a5 := Tryz.isAgg5
  z5 := Tryz.sizeOf5
  v5 := Tryz.zeroValue5
  t9 := Tryz.underlying9
  a9 := Tryz.isAgg9
  z9 := Tryz.sizeOf9
  v9 := Tryz.zeroValue9
  t21 := Tryz.underlying21
  a21 := Tryz.isAgg21
  z21 := Tryz.sizeOf21
  v21 := Tryz.zeroValue21
  t31 := Tryz.underlying64
  a31 := Tryz.isAgg64
  z31 := Tryz.sizeOf64
  v31 := Tryz.zeroValue64
  t46 := Tryz.underlying145
  a46 := Tryz.isAgg145
  z46 := Tryz.sizeOf145
  v46 := Tryz.zeroValue145
  t51 := Tryz.underlying37
  a51 := Tryz.isAgg37
  z51 := Tryz.sizeOf37
  v51 := Tryz.zeroValue37
  t105 := Tryz.underlying160
  a105 := Tryz.isAgg160
  z105 := Tryz.sizeOf160
  v105 := Tryz.zeroValue160
  t119 := Tryz.underlying170
  a119 := Tryz.isAgg170
  z119 := Tryz.sizeOf170
  t138 := Tryz.underlying172
  a138 := Tryz.isAgg172
  z138 := Tryz.sizeOf172
  v138 := Tryz.zeroValue172
  t139 := Tryz.underlying173
  a139 := Tryz.isAgg173
  z139 := Tryz.sizeOf173
  v139 := Tryz.zeroValue173
  t146 := Tryz.underlying153
  a146 := Tryz.isAgg153
  z146 := Tryz.sizeOf153
  v146 := Tryz.zeroValue153
  g1 := by kernel_rfl
  g3 := by kernel_rfl
  g4 := by kernel_rfl }
end Go.Proofs
namespace Go.Proofs.YthebfmlfgfmlnaaGreatDoor
set_option linter.unusedSimpArgs false
set_option linter.unusedVariables false
set_option maxRecDepth 100000
open Go.RowKit
theorem c_Split1 (s : ByteArray) (c : UInt8) (w : World) (hs : s.size < 4294967281) : Calls Tryz.prog 47 #[.string s, .string (b1 c)] w fun e w' =>
    e = .returned (.slice (some ⟨w.heap.size, 0, none⟩) (Lib.countB s (b1 c) + 1) (Lib.countB s (b1 c) + 1)) ∧ w' = w.alloc (.cells ((Lib.splitB (b1 c) 0 (Lib.countB s (b1 c)) s).map Value.string).toArray strT) :=
  Any.strings_Split_one Tryz.lays146 (by kernel_rfl) s c w hs
section
variable {xs : List Fq} {ys : Rho} {n m k i : Nat} {x : Fq} {s : ByteArray} {c : UInt8} {l : Leaf} {e : Int} {ss : List ByteArray}
theorem I_Split (hn : (frs xs ++ ys)[n]? = some (.val (.string s))) (hm : (frs xs ++ ys)[m]? = some (.strs ss)) (hl : Lib.splitB (b1 c) 0 (Lib.countB s (b1 c)) s = ss) (hs : s.size < 4294967281) : OkI xs ys ⟨47, [.one (.ref n), .one (.s (b1 c))], .v (.one (.ref m))⟩ :=
  ⟨enters Tryz.func47 rfl rfl, fun B w vs hB h => by
    match vs, h with
    | [va, vb], h =>
      have e1 := leaf_val (B := B) hn h.1
      have e2 : vb = .string (b1 c) := h.2.1
      subst e1; subst e2
      refine (c_Split1 s c w hs).mono ?_
      rintro e w' ⟨rfl, rfl⟩
      have hlen := Lib.splitB_all (b1 c) (Nat.le_refl 1) 0 _ s rfl
      rw [hl] at hlen
      rw [hl]
      refine ⟨_, rfl, ⟨_, hm, .inr ⟨w.heap.size, 0, ss.length, _, by rw [hlen], Nat.le_refl _, heap_alloc_new w _, fun j q hj => ?_⟩, fun g ⟨o', n', c', e'⟩ x hx => ?_⟩, bel1 w _⟩
      · rw [List.getElem?_map] at hj
        obtain ⟨z, hz, e1⟩ := Option.map_eq_some_iff.1 hj
        subst e1
        exact ⟨.string z, by simp [hz], ⟨rfl, flat_str⟩, fun _ h => h⟩
      · injection e' with e1; injection e1 with e1; injection e1 with e1 _ _; subst e1
        have := hB x _ hx; omega⟩
theorem instP {f : FuncId} (hen : Ent' f) (hc : ∀ w, Calls Tryz.prog f #[.string s] w (fun a w' => RetQE w x e a w')) (hn : (frs xs ++ ys)[n]? = some (.val (.string s))) (hk : xs[k]? = some x) (hl : ∀ B w, l.holds (frs xs ++ ys) B w (.int .i64 e)) : OkI xs ys ⟨f, [.one (.ref n)], .tup [fr k, .one l]⟩ :=
  ⟨hen, fun B w vs hB h => by
    match vs, h with
    | [va], h =>
      have e1 := leaf_val (B := B) hn h.1
      subst e1
      refine (hc w).mono ?_
      rintro a w' ⟨v, rfl, h1, h2⟩
      exact ⟨_, rfl, ⟨[v, .int .i64 e], rfl, (fr_isQ hk).2 h1, hl B w', trivial⟩, h2⟩⟩
theorem I_fParse (hn : (frs xs ++ ys)[n]? = some (.val (.string s))) (hk : xs[k]? = some x) (hl : ∀ B w, l.holds (frs xs ++ ys) B w (.int .i64 e)) (h : FP s x e) (hs : s.size ≤ 4294967280) : OkI xs ys ⟨48, [.one (.ref n)], .tup [fr k, .one l]⟩ :=
  instP (enters Tryz.func48 rfl rfl) (fun w => q_fParse s x e w h hs) hn hk hl
theorem I_fFormat (hi : xs[i]? = some x) (hl : ∀ B w, l.holds (frs xs ++ ys) B w (.string x.fmt)) (ox : x.ok 1000000000) : OkI xs ys ⟨45, [fr i], .v (.one l)⟩ :=
  inst1V (enters Tryz.func45 rfl rfl) (fun va w h1 => q_fFormat va x w h1 ox) hi hl
end
end Go.Proofs.YthebfmlfgfmlnaaGreatDoor
namespace Go.Proofs
open Go.Shelf
def Tryz.laysJoin_ren : Go.Shelf.Ren := ⟨fun | 156 => 46 | 165 => 91 | 166 => 92 | 169 => 93 | 240 => 141 | 241 => 142 | 276 => 165 | 277 => 166 | n => n, fun | 31 => 64 | 9 => 9 | 3 => 3 | 4 => 4 | 0 => 0 | 20 => 20 | 72 => 104 | 76 => 108 | 70 => 101 | 37 => 102 | 75 => 107 | 127 => 142 | 164 => 156 | 5 => 5 | 80 => 110 | n => n, fun | n => n⟩
theorem Tryz.laysJoin : Go.Proofs.Lays.n156 Tryz.prog Tryz.laysJoin_ren := {
  mixed := by kernel_rfl
  f156 := Tryz.func46.trans (congrArg some (by kernel_rfl))
  f165 := Tryz.func91.trans (congrArg some (by kernel_rfl))
  f166 := Tryz.func92.trans (congrArg some (by kernel_rfl))
  f169 := Tryz.func93.trans (congrArg some (by kernel_rfl))
  f240 := Tryz.func141.trans (congrArg some (by kernel_rfl))
  f241 := Tryz.func142.trans (congrArg some (by kernel_rfl))
  f276 := Tryz.func165.trans (congrArg some (by kernel_rfl))
  f277 := Tryz.func166.trans (congrArg some (by kernel_rfl))
  t0 := Tryz.underlying0
  a0 := Tryz.isAgg0
  z0 := Tryz.sizeOf0
  v0 := Tryz.zeroValue0
  t3 := Tryz.underlying3
  a3 := Tryz.isAgg3
  z3 := Tryz.sizeOf3
  v3 := Tryz.zeroValue3
  t4 := Tryz.underlying4
  a4 := Tryz.isAgg4
  z4 := Tryz.sizeOf4
  v4 := Tryz.zeroValue4
  t9 := Tryz.underlying9
  a9 := Tryz.isAgg9
  z9 := Tryz.sizeOf9
  v9 := Tryz.zeroValue9
  t20 := Tryz.underlying20
  a20 := Tryz.isAgg20
  z20 := Tryz.sizeOf20
  v20 := Tryz.zeroValue20
  t31 := Tryz.underlying64
  a31 := Tryz.isAgg64
  z31 := Tryz.sizeOf64
  v31 := Tryz.zeroValue64
  t37 := Tryz.underlying102
  a37 := Tryz.isAgg102
  z37 := Tryz.sizeOf102
  v37 := Tryz.zeroValue102
  t70 := Tryz.underlying101
  a70 := Tryz.isAgg101
  z70 := Tryz.sizeOf101
  v70 := Tryz.zeroValue101
  t72 := Tryz.underlying104
  a72 := Tryz.isAgg104
  z72 := Tryz.sizeOf104
  v72 := Tryz.zeroValue104
  t75 := Tryz.underlying107
  a75 := Tryz.isAgg107
  z75 := Tryz.sizeOf107
  v75 := Tryz.zeroValue107
  t76 := Tryz.underlying108
  a76 := Tryz.isAgg108
  z76 := Tryz.sizeOf108
  v76 := Tryz.zeroValue108
  t127 := Tryz.underlying142
  a127 := Tryz.isAgg142
  z127 := Tryz.sizeOf142
  v127 := Tryz.zeroValue142
  t164 := Tryz.underlying156
  a164 := Tryz.isAgg156
  z164 := Tryz.sizeOf156
  v164 := Tryz.zeroValue156 }
theorem Tryz.joinX : Builder.Extra Tryz.prog Tryz.laysJoin_ren where
  sizeBuilder := by kernel_rfl
  liesBuilder := by kernel_rfl
  t5 := Tryz.underlying5
  a5 := Tryz.isAgg5
  z5 := Tryz.sizeOf5
  v5 := Tryz.zeroValue5
  infoByte := by kernel_rfl
  cellsByte := by kernel_rfl
  sizeByte := by kernel_rfl
  neB5 := by decide
end Go.Proofs
namespace Go.Proofs.YthebfmlfgfmlnaaGreatDoor
set_option linter.unusedSimpArgs false
set_option linter.unusedVariables false
set_option maxRecDepth 100000
open Go.RowKit
abbrev IsVq (w : World) (v : Value) (a : Vq) : Prop := IsL w v [a.x.raw, a.y.raw, a.z.raw]
abbrev RetL (W : World) (l : List Rq) (e : Ending) (w' : World) : Prop := ∃ v, e = .returned v ∧ IsL w' v l ∧ Below W.heap.size W w'
abbrev RetVq (W : World) (a : Vq) (e : Ending) (w' : World) : Prop := RetL W [a.x.raw, a.y.raw, a.z.raw] e w'
abbrev IsQt (w : World) (v : Value) (q : Qq) : Prop := IsL w v [q.w.raw, q.x.raw, q.y.raw, q.z.raw]
abbrev RetQt (W : World) (q : Qq) (e : Ending) (w' : World) : Prop := RetL W [q.w.raw, q.x.raw, q.y.raw, q.z.raw] e w'
def RetLE (W : World) (l : List Rq) (c : Int) (e : Ending) (w' : World) : Prop := ∃ v, e = .returned (.tuple #[v, .int .i64 c]) ∧ IsL w' v l ∧ Below W.heap.size W w'
abbrev RetQtE (W : World) (q : Qq) (c : Int) (e : Ending) (w' : World) : Prop := RetLE W [q.w.raw, q.x.raw, q.y.raw, q.z.raw] c e w'
theorem ok_int {u : Int} (lu : -9223372036854775808 ≤ u) (ru : u < 9223372036854775808) : (Fq.ofInt u).ok 2 := ⟨nl_abs lu ru, nl_le_iff.2 (by show (1 : Nat) < 4294967296 ^ 2; decide), by show (1 : Nat) ≠ 0; decide⟩
def xtimesX (x y : Fq) : List Fq := [x, y, (x.mul y)]
theorem q_times (vp : Value) (x y : Fq) (w : World) (ip : IsL w vp [x.raw, y.raw]) (hx : x.ok 1000000000) (hy : y.ok 1000000000) :
    Calls Tryz.prog 107 #[vp] w fun e w' => RetQ w (x.mul y) e w' := by
  refine (calls_runFn (ρ := frs (xtimesX x y) ++ []) (w := w) (fuel := 300) (args := [row [0, 1]]) (vs := [vp]) (r := .v (fr 2))
    (il_cons (I_fMul (i := 0) (j := 1) (k := 2) rfl rfl rfl (hx.mono (by decide)) (hy.mono (by decide))) il_nil)
    ol_nil (by kernel_rfl) Tryz.func107 (by kernel_rfl) ⟨(row_isL (xs := xtimesX x y) (ks := [0, 1]) (vs := [x, y]) ⟨rfl, rfl, trivial⟩).2 ip, trivial⟩).mono ?_
  rintro e w' ⟨v, rfl, h1, h2⟩
  exact ⟨v, rfl, (fr_isQ (xs := xtimesX x y) (k := 2) rfl).1 h1, h2⟩
theorem I_times {xs : List Fq} {ys : Rho} {ks : List Nat} {k : Nat} {x y : Fq} (hi : AtL xs ks [x, y]) (hk : xs[k]? = some (x.mul y)) (hx : x.ok 1000000000) (hy : y.ok 1000000000) : OkI xs ys ⟨107, [row ks], .v (fr k)⟩ :=
  ⟨enters Tryz.func107 rfl rfl, fun B w vs hB h => by
    match vs, h with
    | [va], h =>
      refine (q_times va x y w ((row_isL hi).1 h.1) hx hy).mono ?_
      rintro e w' ⟨v, rfl, h1, h2⟩
      exact ⟨v, rfl, (fr_isQ hk).2 h1, h2⟩⟩
def xlessX (x y : Fq) : List Fq := [x, y, (x.sub y)]
theorem q_less (vp : Value) (x y : Fq) (w : World) (ip : IsL w vp [x.raw, y.raw]) (hx : x.ok 1000000000) (hy : y.ok 1000000000) :
    Calls Tryz.prog 157 #[vp] w fun e w' => RetQ w (x.sub y) e w' := by
  refine (calls_runFn (ρ := frs (xlessX x y) ++ []) (w := w) (fuel := 300) (args := [row [0, 1]]) (vs := [vp]) (r := .v (fr 2))
    (il_cons (I_fSub (i := 0) (j := 1) (k := 2) rfl rfl rfl (hx.mono (by decide)) (hy.mono (by decide))) il_nil)
    ol_nil (by kernel_rfl) Tryz.func157 (by kernel_rfl) ⟨(row_isL (xs := xlessX x y) (ks := [0, 1]) (vs := [x, y]) ⟨rfl, rfl, trivial⟩).2 ip, trivial⟩).mono ?_
  rintro e w' ⟨v, rfl, h1, h2⟩
  exact ⟨v, rfl, (fr_isQ (xs := xlessX x y) (k := 2) rfl).1 h1, h2⟩
theorem I_less {xs : List Fq} {ys : Rho} {ks : List Nat} {k : Nat} {x y : Fq} (hi : AtL xs ks [x, y]) (hk : xs[k]? = some (x.sub y)) (hx : x.ok 1000000000) (hy : y.ok 1000000000) : OkI xs ys ⟨157, [row ks], .v (fr k)⟩ :=
  ⟨enters Tryz.func157 rfl rfl, fun B w vs hB h => by
    match vs, h with
    | [va], h =>
      refine (q_less va x y w ((row_isL hi).1 h.1) hx hy).mono ?_
      rintro e w' ⟨v, rfl, h1, h2⟩
      exact ⟨v, rfl, (fr_isQ hk).2 h1, h2⟩⟩
def xeachAddX (a : Vq) (b : Vq) : List Fq := [a.x, a.y, a.z, b.x, b.y, b.z, (a.x.add b.x), (a.y.add b.y), (a.z.add b.z)]
theorem q_eachAdd (va vb : Value) (a : Vq) (b : Vq) (w : World) (ia : IsVq w va a) (ib : IsVq w vb b) (ha : a.ok 100000000) (hb : b.ok 100000000) :
    Calls Tryz.prog 105 #[va, vb, fnV 108] w fun e w' => RetVq w (a.add b) e w' := by
  refine (calls_runFn (ρ := frs (xeachAddX a b) ++ []) (w := w) (fuel := 300) (args := [row [0, 1, 2], row [3, 4, 5], .one (.fn 108)]) (vs := [va, vb, fnV 108]) (r := .v (row [6, 7, 8]))
    (il_cons (I_fAdd (i := 0) (j := 3) (k := 6) rfl rfl rfl (ha.x.mono (by decide)) (hb.x.mono (by decide))) (il_cons (I_fAdd (i := 1) (j := 4) (k := 7) rfl rfl rfl (ha.y.mono (by decide)) (hb.y.mono (by decide))) (il_cons (I_fAdd (i := 2) (j := 5) (k := 8) rfl rfl rfl (ha.z.mono (by decide)) (hb.z.mono (by decide))) il_nil)))
    ol_nil (by kernel_rfl) Tryz.func105 (by kernel_rfl) ⟨(row_isL (xs := xeachAddX a b) (ks := [0, 1, 2]) (vs := [a.x, a.y, a.z]) ⟨rfl, rfl, rfl, trivial⟩).2 ia, ⟨(row_isL (xs := xeachAddX a b) (ks := [3, 4, 5]) (vs := [b.x, b.y, b.z]) ⟨rfl, rfl, rfl, trivial⟩).2 ib, ⟨rfl, trivial⟩⟩⟩).mono ?_
  rintro e w' ⟨v, rfl, h1, h2⟩
  exact ⟨v, rfl, (row_isL (xs := xeachAddX a b) (ks := [6, 7, 8]) (vs := [(a.x.add b.x), (a.y.add b.y), (a.z.add b.z)]) ⟨rfl, rfl, rfl, trivial⟩).1 h1, h2⟩
theorem I_eachAdd {xs : List Fq} {ys : Rho} {ka : List Nat} {kb : List Nat} {a : Vq} {b : Vq} {kr : List Nat} (aa : AtL xs ka [a.x, a.y, a.z]) (ab : AtL xs kb [b.x, b.y, b.z]) (ar : AtL xs kr [(a.add b).x, (a.add b).y, (a.add b).z]) (ha : a.ok 100000000) (hb : b.ok 100000000) : OkI xs ys ⟨105, [row ka, row kb, .one (.fn 108)], .v (row kr)⟩ :=
  ⟨enters Tryz.func105 rfl rfl, fun B w vs hB h => by
    match vs, h with
    | [va, vb, vf], h =>
      have ef : vf = fnV 108 := h.2.2.1
      subst ef
      refine (q_eachAdd va vb a b w ((row_isL aa).1 h.1) ((row_isL ab).1 h.2.1) ha hb).mono ?_
      rintro e w' ⟨v, rfl, h1, h2⟩
      exact ⟨v, rfl, (row_isL ar).2 h1, h2⟩⟩
def xeachSubX (a : Vq) (b : Vq) : List Fq := [a.x, a.y, a.z, b.x, b.y, b.z, (a.x.sub b.x), (a.y.sub b.y), (a.z.sub b.z)]
theorem q_eachSub (va vb : Value) (a : Vq) (b : Vq) (w : World) (ia : IsVq w va a) (ib : IsVq w vb b) (ha : a.ok 100000000) (hb : b.ok 100000000) :
    Calls Tryz.prog 105 #[va, vb, fnV 106] w fun e w' => RetVq w (a.sub b) e w' := by
  refine (calls_runFn (ρ := frs (xeachSubX a b) ++ []) (w := w) (fuel := 300) (args := [row [0, 1, 2], row [3, 4, 5], .one (.fn 106)]) (vs := [va, vb, fnV 106]) (r := .v (row [6, 7, 8]))
    (il_cons (I_fSub (i := 0) (j := 3) (k := 6) rfl rfl rfl (ha.x.mono (by decide)) (hb.x.mono (by decide))) (il_cons (I_fSub (i := 1) (j := 4) (k := 7) rfl rfl rfl (ha.y.mono (by decide)) (hb.y.mono (by decide))) (il_cons (I_fSub (i := 2) (j := 5) (k := 8) rfl rfl rfl (ha.z.mono (by decide)) (hb.z.mono (by decide))) il_nil)))
    ol_nil (by kernel_rfl) Tryz.func105 (by kernel_rfl) ⟨(row_isL (xs := xeachSubX a b) (ks := [0, 1, 2]) (vs := [a.x, a.y, a.z]) ⟨rfl, rfl, rfl, trivial⟩).2 ia, ⟨(row_isL (xs := xeachSubX a b) (ks := [3, 4, 5]) (vs := [b.x, b.y, b.z]) ⟨rfl, rfl, rfl, trivial⟩).2 ib, ⟨rfl, trivial⟩⟩⟩).mono ?_
  rintro e w' ⟨v, rfl, h1, h2⟩
  exact ⟨v, rfl, (row_isL (xs := xeachSubX a b) (ks := [6, 7, 8]) (vs := [(a.x.sub b.x), (a.y.sub b.y), (a.z.sub b.z)]) ⟨rfl, rfl, rfl, trivial⟩).1 h1, h2⟩
theorem I_eachSub {xs : List Fq} {ys : Rho} {ka : List Nat} {kb : List Nat} {a : Vq} {b : Vq} {kr : List Nat} (aa : AtL xs ka [a.x, a.y, a.z]) (ab : AtL xs kb [b.x, b.y, b.z]) (ar : AtL xs kr [(a.sub b).x, (a.sub b).y, (a.sub b).z]) (ha : a.ok 100000000) (hb : b.ok 100000000) : OkI xs ys ⟨105, [row ka, row kb, .one (.fn 106)], .v (row kr)⟩ :=
  ⟨enters Tryz.func105 rfl rfl, fun B w vs hB h => by
    match vs, h with
    | [va, vb, vf], h =>
      have ef : vf = fnV 106 := h.2.2.1
      subst ef
      refine (q_eachSub va vb a b w ((row_isL aa).1 h.1) ((row_isL ab).1 h.2.1) ha hb).mono ?_
      rintro e w' ⟨v, rfl, h1, h2⟩
      exact ⟨v, rfl, (row_isL ar).2 h1, h2⟩⟩
/-- Products of the coordinates. -/
def Vq.times (a b : Vq) : Vq := ⟨a.x.mul b.x, a.y.mul b.y, a.z.mul b.z⟩
theorem Vq.ok.times {a b : Vq} {d e : Nat} (h : a.ok d) (k : b.ok e) : (a.times b).ok (d + e) := ⟨h.x.mul k.x, h.y.mul k.y, h.z.mul k.z⟩
def xeachMulX (a : Vq) (b : Vq) : List Fq := [a.x, a.y, a.z, b.x, b.y, b.z, (a.x.mul b.x), (a.y.mul b.y), (a.z.mul b.z)]
theorem q_eachMul (va vb : Value) (a : Vq) (b : Vq) (w : World) (ia : IsVq w va a) (ib : IsVq w vb b) (ha : a.ok 100000000) (hb : b.ok 100000000) :
    Calls Tryz.prog 105 #[va, vb, fnV 115] w fun e w' => RetVq w (a.times b) e w' := by
  refine (calls_runFn (ρ := frs (xeachMulX a b) ++ []) (w := w) (fuel := 300) (args := [row [0, 1, 2], row [3, 4, 5], .one (.fn 115)]) (vs := [va, vb, fnV 115]) (r := .v (row [6, 7, 8]))
    (il_cons (I_fMul (i := 0) (j := 3) (k := 6) rfl rfl rfl (ha.x.mono (by decide)) (hb.x.mono (by decide))) (il_cons (I_fMul (i := 1) (j := 4) (k := 7) rfl rfl rfl (ha.y.mono (by decide)) (hb.y.mono (by decide))) (il_cons (I_fMul (i := 2) (j := 5) (k := 8) rfl rfl rfl (ha.z.mono (by decide)) (hb.z.mono (by decide))) il_nil)))
    ol_nil (by kernel_rfl) Tryz.func105 (by kernel_rfl) ⟨(row_isL (xs := xeachMulX a b) (ks := [0, 1, 2]) (vs := [a.x, a.y, a.z]) ⟨rfl, rfl, rfl, trivial⟩).2 ia, ⟨(row_isL (xs := xeachMulX a b) (ks := [3, 4, 5]) (vs := [b.x, b.y, b.z]) ⟨rfl, rfl, rfl, trivial⟩).2 ib, ⟨rfl, trivial⟩⟩⟩).mono ?_
  rintro e w' ⟨v, rfl, h1, h2⟩
  exact ⟨v, rfl, (row_isL (xs := xeachMulX a b) (ks := [6, 7, 8]) (vs := [(a.x.mul b.x), (a.y.mul b.y), (a.z.mul b.z)]) ⟨rfl, rfl, rfl, trivial⟩).1 h1, h2⟩
theorem I_eachMul {xs : List Fq} {ys : Rho} {ka : List Nat} {kb : List Nat} {a : Vq} {b : Vq} {kr : List Nat} (aa : AtL xs ka [a.x, a.y, a.z]) (ab : AtL xs kb [b.x, b.y, b.z]) (ar : AtL xs kr [(a.times b).x, (a.times b).y, (a.times b).z]) (ha : a.ok 100000000) (hb : b.ok 100000000) : OkI xs ys ⟨105, [row ka, row kb, .one (.fn 115)], .v (row kr)⟩ :=
  ⟨enters Tryz.func105 rfl rfl, fun B w vs hB h => by
    match vs, h with
    | [va, vb, vf], h =>
      have ef : vf = fnV 115 := h.2.2.1
      subst ef
      refine (q_eachMul va vb a b w ((row_isL aa).1 h.1) ((row_isL ab).1 h.2.1) ha hb).mono ?_
      rintro e w' ⟨v, rfl, h1, h2⟩
      exact ⟨v, rfl, (row_isL ar).2 h1, h2⟩⟩
def xvAddX (a : Vq) (b : Vq) : List Fq := [a.x, a.y, a.z, b.x, b.y, b.z, (a.add b).x, (a.add b).y, (a.add b).z]
theorem q_vAdd (va vb : Value) (a : Vq) (b : Vq) (w : World) (ia : IsVq w va a) (ib : IsVq w vb b) (ha : a.ok 100000000) (hb : b.ok 100000000) :
    Calls Tryz.prog 116 #[va, vb] w fun e w' => RetVq w (a.add b) e w' := by
  refine (calls_runFn (ρ := frs (xvAddX a b) ++ []) (w := w) (fuel := 300) (args := [row [0, 1, 2], row [3, 4, 5]]) (vs := [va, vb]) (r := .v (row [6, 7, 8]))
    (il_cons (I_eachAdd (ka := [0, 1, 2]) (a := a) (kb := [3, 4, 5]) (b := b) (kr := [6, 7, 8]) ⟨rfl, rfl, rfl, trivial⟩ ⟨rfl, rfl, rfl, trivial⟩ ⟨rfl, rfl, rfl, trivial⟩ (ha.mono (by decide)) (hb.mono (by decide))) il_nil)
    ol_nil (by kernel_rfl) Tryz.func116 (by kernel_rfl) ⟨(row_isL (xs := xvAddX a b) (ks := [0, 1, 2]) (vs := [a.x, a.y, a.z]) ⟨rfl, rfl, rfl, trivial⟩).2 ia, ⟨(row_isL (xs := xvAddX a b) (ks := [3, 4, 5]) (vs := [b.x, b.y, b.z]) ⟨rfl, rfl, rfl, trivial⟩).2 ib, trivial⟩⟩).mono ?_
  rintro e w' ⟨v, rfl, h1, h2⟩
  exact ⟨v, rfl, (row_isL (xs := xvAddX a b) (ks := [6, 7, 8]) (vs := [(a.add b).x, (a.add b).y, (a.add b).z]) ⟨rfl, rfl, rfl, trivial⟩).1 h1, h2⟩
theorem I_vAdd {xs : List Fq} {ys : Rho} {ka : List Nat} {kb : List Nat} {a : Vq} {b : Vq} {kr : List Nat} (aa : AtL xs ka [a.x, a.y, a.z]) (ab : AtL xs kb [b.x, b.y, b.z]) (ar : AtL xs kr [(a.add b).x, (a.add b).y, (a.add b).z]) (ha : a.ok 100000000) (hb : b.ok 100000000) : OkI xs ys ⟨116, [row ka, row kb], .v (row kr)⟩ :=
  ⟨enters Tryz.func116 rfl rfl, fun B w vs hB h => by
    match vs, h with
    | [va, vb], h =>
      refine (q_vAdd va vb a b w ((row_isL aa).1 h.1) ((row_isL ab).1 h.2.1) ha hb).mono ?_
      rintro e w' ⟨v, rfl, h1, h2⟩
      exact ⟨v, rfl, (row_isL ar).2 h1, h2⟩⟩
def xvSubX (a : Vq) (b : Vq) : List Fq := [a.x, a.y, a.z, b.x, b.y, b.z, (a.sub b).x, (a.sub b).y, (a.sub b).z]
theorem q_vSub (va vb : Value) (a : Vq) (b : Vq) (w : World) (ia : IsVq w va a) (ib : IsVq w vb b) (ha : a.ok 100000000) (hb : b.ok 100000000) :
    Calls Tryz.prog 55 #[va, vb] w fun e w' => RetVq w (a.sub b) e w' := by
  refine (calls_runFn (ρ := frs (xvSubX a b) ++ []) (w := w) (fuel := 300) (args := [row [0, 1, 2], row [3, 4, 5]]) (vs := [va, vb]) (r := .v (row [6, 7, 8]))
    (il_cons (I_eachSub (ka := [0, 1, 2]) (a := a) (kb := [3, 4, 5]) (b := b) (kr := [6, 7, 8]) ⟨rfl, rfl, rfl, trivial⟩ ⟨rfl, rfl, rfl, trivial⟩ ⟨rfl, rfl, rfl, trivial⟩ (ha.mono (by decide)) (hb.mono (by decide))) il_nil)
    ol_nil (by kernel_rfl) Tryz.func55 (by kernel_rfl) ⟨(row_isL (xs := xvSubX a b) (ks := [0, 1, 2]) (vs := [a.x, a.y, a.z]) ⟨rfl, rfl, rfl, trivial⟩).2 ia, ⟨(row_isL (xs := xvSubX a b) (ks := [3, 4, 5]) (vs := [b.x, b.y, b.z]) ⟨rfl, rfl, rfl, trivial⟩).2 ib, trivial⟩⟩).mono ?_
  rintro e w' ⟨v, rfl, h1, h2⟩
  exact ⟨v, rfl, (row_isL (xs := xvSubX a b) (ks := [6, 7, 8]) (vs := [(a.sub b).x, (a.sub b).y, (a.sub b).z]) ⟨rfl, rfl, rfl, trivial⟩).1 h1, h2⟩
theorem I_vSub {xs : List Fq} {ys : Rho} {ka : List Nat} {kb : List Nat} {a : Vq} {b : Vq} {kr : List Nat} (aa : AtL xs ka [a.x, a.y, a.z]) (ab : AtL xs kb [b.x, b.y, b.z]) (ar : AtL xs kr [(a.sub b).x, (a.sub b).y, (a.sub b).z]) (ha : a.ok 100000000) (hb : b.ok 100000000) : OkI xs ys ⟨55, [row ka, row kb], .v (row kr)⟩ :=
  ⟨enters Tryz.func55 rfl rfl, fun B w vs hB h => by
    match vs, h with
    | [va, vb], h =>
      refine (q_vSub va vb a b w ((row_isL aa).1 h.1) ((row_isL ab).1 h.2.1) ha hb).mono ?_
      rintro e w' ⟨v, rfl, h1, h2⟩
      exact ⟨v, rfl, (row_isL ar).2 h1, h2⟩⟩
def xvScaleX (a : Vq) (k : Fq) : List Fq := [a.x, a.y, a.z, k, (a.times (Vq.mk k k k)).x, (a.times (Vq.mk k k k)).y, (a.times (Vq.mk k k k)).z]
theorem q_vScale (va vk : Value) (a : Vq) (k : Fq) (w : World) (ia : IsVq w va a) (ik : IsQ w vk k) (ha : a.ok 100000000) (hk : k.ok 100000000) :
    Calls Tryz.prog 67 #[va, vk] w fun e w' => RetVq w (a.scale k) e w' := by
  refine (calls_runFn (ρ := frs (xvScaleX a k) ++ []) (w := w) (fuel := 300) (args := [row [0, 1, 2], fr 3]) (vs := [va, vk]) (r := .v (row [4, 5, 6]))
    (il_cons (I_eachMul (ka := [0, 1, 2]) (a := a) (kb := [3, 3, 3]) (b := (Vq.mk k k k)) (kr := [4, 5, 6]) ⟨rfl, rfl, rfl, trivial⟩ ⟨rfl, rfl, rfl, trivial⟩ ⟨rfl, rfl, rfl, trivial⟩ (ha.mono (by decide)) (⟨hk.mono (by decide), hk.mono (by decide), hk.mono (by decide)⟩ : Vq.ok 100000000 (Vq.mk k k k))) il_nil)
    ol_nil (by kernel_rfl) Tryz.func67 (by kernel_rfl) ⟨(row_isL (xs := xvScaleX a k) (ks := [0, 1, 2]) (vs := [a.x, a.y, a.z]) ⟨rfl, rfl, rfl, trivial⟩).2 ia, ⟨(fr_isQ (xs := xvScaleX a k) (k := 3) rfl).2 ik, trivial⟩⟩).mono ?_
  rintro e w' ⟨v, rfl, h1, h2⟩
  exact ⟨v, rfl, (row_isL (xs := xvScaleX a k) (ks := [4, 5, 6]) (vs := [(a.times (Vq.mk k k k)).x, (a.times (Vq.mk k k k)).y, (a.times (Vq.mk k k k)).z]) ⟨rfl, rfl, rfl, trivial⟩).1 h1, h2⟩
theorem I_vScale {xs : List Fq} {ys : Rho} {ka : List Nat} {ik : Nat} {a : Vq} {k : Fq} {kr : List Nat} (aa : AtL xs ka [a.x, a.y, a.z]) (ak : xs[ik]? = some k) (ar : AtL xs kr [(a.scale k).x, (a.scale k).y, (a.scale k).z]) (ha : a.ok 100000000) (hk : k.ok 100000000) : OkI xs ys ⟨67, [row ka, fr ik], .v (row kr)⟩ :=
  ⟨enters Tryz.func67 rfl rfl, fun B w vs hB h => by
    match vs, h with
    | [va, vk], h =>
      refine (q_vScale va vk a k w ((row_isL aa).1 h.1) ((fr_isQ ak).1 h.2.1) ha hk).mono ?_
      rintro e w' ⟨v, rfl, h1, h2⟩
      exact ⟨v, rfl, (row_isL ar).2 h1, h2⟩⟩
def xvDotX (a : Vq) (b : Vq) : List Fq := [a.x, a.y, a.z, b.x, b.y, b.z, (a.x.mul b.x), (a.y.mul b.y), (a.z.mul b.z), ((a.y.mul b.y).add (a.z.mul b.z)), ((a.x.mul b.x).add ((a.y.mul b.y).add (a.z.mul b.z)))]
theorem q_vDot (va vb : Value) (a : Vq) (b : Vq) (w : World) (ia : IsVq w va a) (ib : IsVq w vb b) (ha : a.ok 100000000) (hb : b.ok 100000000) :
    Calls Tryz.prog 56 #[va, vb] w fun e w' => RetQ w (a.dot b) e w' := by
  refine (calls_runFn (ρ := frs (xvDotX a b) ++ []) (w := w) (fuel := 300) (args := [row [0, 1, 2], row [3, 4, 5]]) (vs := [va, vb]) (r := .v (fr 10))
    (il_cons (I_times (ks := [0, 3]) (k := 6) ⟨rfl, rfl, trivial⟩ rfl (ha.x.mono (by decide)) (hb.x.mono (by decide))) (il_cons (I_times (ks := [1, 4]) (k := 7) ⟨rfl, rfl, trivial⟩ rfl (ha.y.mono (by decide)) (hb.y.mono (by decide))) (il_cons (I_times (ks := [2, 5]) (k := 8) ⟨rfl, rfl, trivial⟩ rfl (ha.z.mono (by decide)) (hb.z.mono (by decide))) (il_cons (I_fAdd (i := 7) (j := 8) (k := 9) rfl rfl rfl ((ha.y.mul hb.y).mono (by decide)) ((ha.z.mul hb.z).mono (by decide))) (il_cons (I_fAdd (i := 6) (j := 9) (k := 10) rfl rfl rfl ((ha.x.mul hb.x).mono (by decide)) (((ha.y.mul hb.y).add (ha.z.mul hb.z)).mono (by decide))) il_nil)))))
    ol_nil (by kernel_rfl) Tryz.func56 (by kernel_rfl) ⟨(row_isL (xs := xvDotX a b) (ks := [0, 1, 2]) (vs := [a.x, a.y, a.z]) ⟨rfl, rfl, rfl, trivial⟩).2 ia, ⟨(row_isL (xs := xvDotX a b) (ks := [3, 4, 5]) (vs := [b.x, b.y, b.z]) ⟨rfl, rfl, rfl, trivial⟩).2 ib, trivial⟩⟩).mono ?_
  rintro e w' ⟨v, rfl, h1, h2⟩
  exact ⟨v, rfl, (fr_isQ (xs := xvDotX a b) (k := 10) rfl).1 h1, h2⟩
theorem I_vDot {xs : List Fq} {ys : Rho} {ka : List Nat} {kb : List Nat} {a : Vq} {b : Vq} {ir : Nat} (aa : AtL xs ka [a.x, a.y, a.z]) (ab : AtL xs kb [b.x, b.y, b.z]) (ar : xs[ir]? = some (a.dot b)) (ha : a.ok 100000000) (hb : b.ok 100000000) : OkI xs ys ⟨56, [row ka, row kb], .v (fr ir)⟩ :=
  ⟨enters Tryz.func56 rfl rfl, fun B w vs hB h => by
    match vs, h with
    | [va, vb], h =>
      refine (q_vDot va vb a b w ((row_isL aa).1 h.1) ((row_isL ab).1 h.2.1) ha hb).mono ?_
      rintro e w' ⟨v, rfl, h1, h2⟩
      exact ⟨v, rfl, (fr_isQ ar).2 h1, h2⟩⟩
def xvCrossX (a : Vq) (b : Vq) : List Fq := [a.x, a.y, a.z, b.x, b.y, b.z, (a.y.mul b.z), (a.z.mul b.y), ((a.y.mul b.z).sub (a.z.mul b.y)), (a.z.mul b.x), (a.x.mul b.z), ((a.z.mul b.x).sub (a.x.mul b.z)), (a.x.mul b.y), (a.y.mul b.x), ((a.x.mul b.y).sub (a.y.mul b.x))]
theorem q_vCross (va vb : Value) (a : Vq) (b : Vq) (w : World) (ia : IsVq w va a) (ib : IsVq w vb b) (ha : a.ok 100000000) (hb : b.ok 100000000) :
    Calls Tryz.prog 117 #[va, vb] w fun e w' => RetVq w (a.cross b) e w' := by
  refine (calls_runFn (ρ := frs (xvCrossX a b) ++ []) (w := w) (fuel := 300) (args := [row [0, 1, 2], row [3, 4, 5]]) (vs := [va, vb]) (r := .v (row [8, 11, 14]))
    (il_cons (I_times (ks := [1, 5]) (k := 6) ⟨rfl, rfl, trivial⟩ rfl (ha.y.mono (by decide)) (hb.z.mono (by decide))) (il_cons (I_times (ks := [2, 4]) (k := 7) ⟨rfl, rfl, trivial⟩ rfl (ha.z.mono (by decide)) (hb.y.mono (by decide))) (il_cons (I_less (ks := [6, 7]) (k := 8) ⟨rfl, rfl, trivial⟩ rfl ((ha.y.mul hb.z).mono (by decide)) ((ha.z.mul hb.y).mono (by decide))) (il_cons (I_times (ks := [2, 3]) (k := 9) ⟨rfl, rfl, trivial⟩ rfl (ha.z.mono (by decide)) (hb.x.mono (by decide))) (il_cons (I_times (ks := [0, 5]) (k := 10) ⟨rfl, rfl, trivial⟩ rfl (ha.x.mono (by decide)) (hb.z.mono (by decide))) (il_cons (I_less (ks := [9, 10]) (k := 11) ⟨rfl, rfl, trivial⟩ rfl ((ha.z.mul hb.x).mono (by decide)) ((ha.x.mul hb.z).mono (by decide))) (il_cons (I_times (ks := [0, 4]) (k := 12) ⟨rfl, rfl, trivial⟩ rfl (ha.x.mono (by decide)) (hb.y.mono (by decide))) (il_cons (I_times (ks := [1, 3]) (k := 13) ⟨rfl, rfl, trivial⟩ rfl (ha.y.mono (by decide)) (hb.x.mono (by decide))) (il_cons (I_less (ks := [12, 13]) (k := 14) ⟨rfl, rfl, trivial⟩ rfl ((ha.x.mul hb.y).mono (by decide)) ((ha.y.mul hb.x).mono (by decide))) il_nil)))))))))
    ol_nil (by kernel_rfl) Tryz.func117 (by kernel_rfl) ⟨(row_isL (xs := xvCrossX a b) (ks := [0, 1, 2]) (vs := [a.x, a.y, a.z]) ⟨rfl, rfl, rfl, trivial⟩).2 ia, ⟨(row_isL (xs := xvCrossX a b) (ks := [3, 4, 5]) (vs := [b.x, b.y, b.z]) ⟨rfl, rfl, rfl, trivial⟩).2 ib, trivial⟩⟩).mono ?_
  rintro e w' ⟨v, rfl, h1, h2⟩
  exact ⟨v, rfl, (row_isL (xs := xvCrossX a b) (ks := [8, 11, 14]) (vs := [((a.y.mul b.z).sub (a.z.mul b.y)), ((a.z.mul b.x).sub (a.x.mul b.z)), ((a.x.mul b.y).sub (a.y.mul b.x))]) ⟨rfl, rfl, rfl, trivial⟩).1 h1, h2⟩
theorem I_vCross {xs : List Fq} {ys : Rho} {ka : List Nat} {kb : List Nat} {a : Vq} {b : Vq} {kr : List Nat} (aa : AtL xs ka [a.x, a.y, a.z]) (ab : AtL xs kb [b.x, b.y, b.z]) (ar : AtL xs kr [(a.cross b).x, (a.cross b).y, (a.cross b).z]) (ha : a.ok 100000000) (hb : b.ok 100000000) : OkI xs ys ⟨117, [row ka, row kb], .v (row kr)⟩ :=
  ⟨enters Tryz.func117 rfl rfl, fun B w vs hB h => by
    match vs, h with
    | [va, vb], h =>
      refine (q_vCross va vb a b w ((row_isL aa).1 h.1) ((row_isL ab).1 h.2.1) ha hb).mono ?_
      rintro e w' ⟨v, rfl, h1, h2⟩
      exact ⟨v, rfl, (row_isL ar).2 h1, h2⟩⟩
end Go.Proofs.YthebfmlfgfmlnaaGreatDoor
namespace Go.Proofs.YthebfmlfgfmlnaaGreatDoor
set_option linter.unusedSimpArgs false
set_option linter.unusedVariables false
set_option maxRecDepth 100000
open Go.RowKit
/-- Agreement of all parts. -/
def Vq.same (a b : Vq) : Bool := a.x.same b.x && (a.y.same b.y && a.z.same b.z)
def Qq.same (p q : Qq) : Bool := p.w.same q.w && (p.x.same q.x && (p.y.same q.y && p.z.same q.z))
theorem Vq.same_iff {a b : Vq} : a.same b = true ↔ a = b := by
  obtain ⟨a1, a2, a3⟩ := a; obtain ⟨b1, b2, b3⟩ := b
  simp [Vq.same, Fq.same_iff]
theorem Qq.same_iff {a b : Qq} : a.same b = true ↔ a = b := by
  obtain ⟨a1, a2, a3, a4⟩ := a; obtain ⟨b1, b2, b3, b4⟩ := b
  simp [Qq.same, Fq.same_iff]
def xrDotX (a : Vq) (b : Vq) : List Fq := [a.x, a.y, a.z, b.x, b.y, b.z, (a.x.mul b.x), (a.y.mul b.y), (a.z.mul b.z), ((a.y.mul b.y).add (a.z.mul b.z)), ((a.x.mul b.x).add ((a.y.mul b.y).add (a.z.mul b.z)))]
theorem q_rDot (va vb : Value) (a : Vq) (b : Vq) (w : World) (ia : IsVq w va a) (ib : IsVq w vb b) (ha : a.ok 100000000) (hb : b.ok 100000000) :
    Calls Tryz.prog 123 #[va, vb] w fun e w' => RetQ w (a.dot b) e w' := by
  refine (calls_runFn (ρ := frs (xrDotX a b) ++ []) (w := w) (fuel := 300) (args := [row [0, 1, 2], row [3, 4, 5]]) (vs := [va, vb]) (r := .v (fr 10))
    (il_cons (I_rMul (i := 0) (j := 3) (k := 6) rfl rfl rfl (ha.x.mono (by decide)) (hb.x.mono (by decide))) (il_cons (I_rMul (i := 1) (j := 4) (k := 7) rfl rfl rfl (ha.y.mono (by decide)) (hb.y.mono (by decide))) (il_cons (I_rMul (i := 2) (j := 5) (k := 8) rfl rfl rfl (ha.z.mono (by decide)) (hb.z.mono (by decide))) (il_cons (I_rAdd (i := 7) (j := 8) (k := 9) rfl rfl rfl ((ha.y.mul hb.y).mono (by decide)) ((ha.z.mul hb.z).mono (by decide))) (il_cons (I_rAdd (i := 6) (j := 9) (k := 10) rfl rfl rfl ((ha.x.mul hb.x).mono (by decide)) (((ha.y.mul hb.y).add (ha.z.mul hb.z)).mono (by decide))) il_nil)))))
    ol_nil (by kernel_rfl) Tryz.func123 (by kernel_rfl) ⟨(row_isL (xs := xrDotX a b) (ks := [0, 1, 2]) (vs := [a.x, a.y, a.z]) ⟨rfl, rfl, rfl, trivial⟩).2 ia, ⟨(row_isL (xs := xrDotX a b) (ks := [3, 4, 5]) (vs := [b.x, b.y, b.z]) ⟨rfl, rfl, rfl, trivial⟩).2 ib, trivial⟩⟩).mono ?_
  rintro e w' ⟨v, rfl, h1, h2⟩
  exact ⟨v, rfl, (fr_isQ (xs := xrDotX a b) (k := 10) rfl).1 h1, h2⟩
theorem I_rDot {xs : List Fq} {ys : Rho} {ka : List Nat} {kb : List Nat} {a : Vq} {b : Vq} {ir : Nat} (aa : AtL xs ka [a.x, a.y, a.z]) (ab : AtL xs kb [b.x, b.y, b.z]) (ar : xs[ir]? = some (a.dot b)) (ha : a.ok 100000000) (hb : b.ok 100000000) : OkI xs ys ⟨123, [row ka, row kb], .v (fr ir)⟩ :=
  ⟨enters Tryz.func123 rfl rfl, fun B w vs hB h => by
    match vs, h with
    | [va, vb], h =>
      refine (q_rDot va vb a b w ((row_isL aa).1 h.1) ((row_isL ab).1 h.2.1) ha hb).mono ?_
      rintro e w' ⟨v, rfl, h1, h2⟩
      exact ⟨v, rfl, (fr_isQ ar).2 h1, h2⟩⟩
def xrCrossX (a : Vq) (b : Vq) : List Fq := [a.x, a.y, a.z, b.x, b.y, b.z, (a.y.mul b.z), (a.z.mul b.y), ((a.y.mul b.z).sub (a.z.mul b.y)), (a.z.mul b.x), (a.x.mul b.z), ((a.z.mul b.x).sub (a.x.mul b.z)), (a.x.mul b.y), (a.y.mul b.x), ((a.x.mul b.y).sub (a.y.mul b.x))]
theorem q_rCross (va vb : Value) (a : Vq) (b : Vq) (w : World) (ia : IsVq w va a) (ib : IsVq w vb b) (ha : a.ok 100000000) (hb : b.ok 100000000) :
    Calls Tryz.prog 125 #[va, vb] w fun e w' => RetVq w (a.cross b) e w' := by
  refine (calls_runFn (ρ := frs (xrCrossX a b) ++ []) (w := w) (fuel := 300) (args := [row [0, 1, 2], row [3, 4, 5]]) (vs := [va, vb]) (r := .v (row [8, 11, 14]))
    (il_cons (I_rMul (i := 1) (j := 5) (k := 6) rfl rfl rfl (ha.y.mono (by decide)) (hb.z.mono (by decide))) (il_cons (I_rMul (i := 2) (j := 4) (k := 7) rfl rfl rfl (ha.z.mono (by decide)) (hb.y.mono (by decide))) (il_cons (I_rSub (i := 6) (j := 7) (k := 8) rfl rfl rfl ((ha.y.mul hb.z).mono (by decide)) ((ha.z.mul hb.y).mono (by decide))) (il_cons (I_rMul (i := 2) (j := 3) (k := 9) rfl rfl rfl (ha.z.mono (by decide)) (hb.x.mono (by decide))) (il_cons (I_rMul (i := 0) (j := 5) (k := 10) rfl rfl rfl (ha.x.mono (by decide)) (hb.z.mono (by decide))) (il_cons (I_rSub (i := 9) (j := 10) (k := 11) rfl rfl rfl ((ha.z.mul hb.x).mono (by decide)) ((ha.x.mul hb.z).mono (by decide))) (il_cons (I_rMul (i := 0) (j := 4) (k := 12) rfl rfl rfl (ha.x.mono (by decide)) (hb.y.mono (by decide))) (il_cons (I_rMul (i := 1) (j := 3) (k := 13) rfl rfl rfl (ha.y.mono (by decide)) (hb.x.mono (by decide))) (il_cons (I_rSub (i := 12) (j := 13) (k := 14) rfl rfl rfl ((ha.x.mul hb.y).mono (by decide)) ((ha.y.mul hb.x).mono (by decide))) il_nil)))))))))
    ol_nil (by kernel_rfl) Tryz.func125 (by kernel_rfl) ⟨(row_isL (xs := xrCrossX a b) (ks := [0, 1, 2]) (vs := [a.x, a.y, a.z]) ⟨rfl, rfl, rfl, trivial⟩).2 ia, ⟨(row_isL (xs := xrCrossX a b) (ks := [3, 4, 5]) (vs := [b.x, b.y, b.z]) ⟨rfl, rfl, rfl, trivial⟩).2 ib, trivial⟩⟩).mono ?_
  rintro e w' ⟨v, rfl, h1, h2⟩
  exact ⟨v, rfl, (row_isL (xs := xrCrossX a b) (ks := [8, 11, 14]) (vs := [((a.y.mul b.z).sub (a.z.mul b.y)), ((a.z.mul b.x).sub (a.x.mul b.z)), ((a.x.mul b.y).sub (a.y.mul b.x))]) ⟨rfl, rfl, rfl, trivial⟩).1 h1, h2⟩
theorem I_rCross {xs : List Fq} {ys : Rho} {ka : List Nat} {kb : List Nat} {a : Vq} {b : Vq} {kr : List Nat} (aa : AtL xs ka [a.x, a.y, a.z]) (ab : AtL xs kb [b.x, b.y, b.z]) (ar : AtL xs kr [(a.cross b).x, (a.cross b).y, (a.cross b).z]) (ha : a.ok 100000000) (hb : b.ok 100000000) : OkI xs ys ⟨125, [row ka, row kb], .v (row kr)⟩ :=
  ⟨enters Tryz.func125 rfl rfl, fun B w vs hB h => by
    match vs, h with
    | [va, vb], h =>
      refine (q_rCross va vb a b w ((row_isL aa).1 h.1) ((row_isL ab).1 h.2.1) ha hb).mono ?_
      rintro e w' ⟨v, rfl, h1, h2⟩
      exact ⟨v, rfl, (row_isL ar).2 h1, h2⟩⟩
def xrScaleX (a : Vq) (k : Fq) : List Fq := [a.x, a.y, a.z, k, (a.x.mul k), (a.y.mul k), (a.z.mul k)]
theorem q_rScale (va vk : Value) (a : Vq) (k : Fq) (w : World) (ia : IsVq w va a) (ik : IsQ w vk k) (ha : a.ok 100000000) (hk : k.ok 100000000) :
    Calls Tryz.prog 124 #[va, vk] w fun e w' => RetVq w (a.scale k) e w' := by
  refine (calls_runFn (ρ := frs (xrScaleX a k) ++ []) (w := w) (fuel := 300) (args := [row [0, 1, 2], fr 3]) (vs := [va, vk]) (r := .v (row [4, 5, 6]))
    (il_cons (I_rMul (i := 0) (j := 3) (k := 4) rfl rfl rfl (ha.x.mono (by decide)) (hk.mono (by decide))) (il_cons (I_rMul (i := 1) (j := 3) (k := 5) rfl rfl rfl (ha.y.mono (by decide)) (hk.mono (by decide))) (il_cons (I_rMul (i := 2) (j := 3) (k := 6) rfl rfl rfl (ha.z.mono (by decide)) (hk.mono (by decide))) il_nil)))
    ol_nil (by kernel_rfl) Tryz.func124 (by kernel_rfl) ⟨(row_isL (xs := xrScaleX a k) (ks := [0, 1, 2]) (vs := [a.x, a.y, a.z]) ⟨rfl, rfl, rfl, trivial⟩).2 ia, ⟨(fr_isQ (xs := xrScaleX a k) (k := 3) rfl).2 ik, trivial⟩⟩).mono ?_
  rintro e w' ⟨v, rfl, h1, h2⟩
  exact ⟨v, rfl, (row_isL (xs := xrScaleX a k) (ks := [4, 5, 6]) (vs := [(a.x.mul k), (a.y.mul k), (a.z.mul k)]) ⟨rfl, rfl, rfl, trivial⟩).1 h1, h2⟩
theorem I_rScale {xs : List Fq} {ys : Rho} {ka : List Nat} {ik : Nat} {a : Vq} {k : Fq} {kr : List Nat} (aa : AtL xs ka [a.x, a.y, a.z]) (ak : xs[ik]? = some k) (ar : AtL xs kr [(a.scale k).x, (a.scale k).y, (a.scale k).z]) (ha : a.ok 100000000) (hk : k.ok 100000000) : OkI xs ys ⟨124, [row ka, fr ik], .v (row kr)⟩ :=
  ⟨enters Tryz.func124 rfl rfl, fun B w vs hB h => by
    match vs, h with
    | [va, vk], h =>
      refine (q_rScale va vk a k w ((row_isL aa).1 h.1) ((fr_isQ ak).1 h.2.1) ha hk).mono ?_
      rintro e w' ⟨v, rfl, h1, h2⟩
      exact ⟨v, rfl, (row_isL ar).2 h1, h2⟩⟩
def xrSumX (a : Vq) (b : Vq) : List Fq := [a.x, a.y, a.z, b.x, b.y, b.z, (a.x.add b.x), (a.y.add b.y), (a.z.add b.z)]
theorem q_rSum (va vb : Value) (a : Vq) (b : Vq) (w : World) (ia : IsVq w va a) (ib : IsVq w vb b) (ha : a.ok 100000000) (hb : b.ok 100000000) :
    Calls Tryz.prog 126 #[va, vb] w fun e w' => RetVq w (a.add b) e w' := by
  refine (calls_runFn (ρ := frs (xrSumX a b) ++ []) (w := w) (fuel := 300) (args := [row [0, 1, 2], row [3, 4, 5]]) (vs := [va, vb]) (r := .v (row [6, 7, 8]))
    (il_cons (I_rAdd (i := 0) (j := 3) (k := 6) rfl rfl rfl (ha.x.mono (by decide)) (hb.x.mono (by decide))) (il_cons (I_rAdd (i := 1) (j := 4) (k := 7) rfl rfl rfl (ha.y.mono (by decide)) (hb.y.mono (by decide))) (il_cons (I_rAdd (i := 2) (j := 5) (k := 8) rfl rfl rfl (ha.z.mono (by decide)) (hb.z.mono (by decide))) il_nil)))
    ol_nil (by kernel_rfl) Tryz.func126 (by kernel_rfl) ⟨(row_isL (xs := xrSumX a b) (ks := [0, 1, 2]) (vs := [a.x, a.y, a.z]) ⟨rfl, rfl, rfl, trivial⟩).2 ia, ⟨(row_isL (xs := xrSumX a b) (ks := [3, 4, 5]) (vs := [b.x, b.y, b.z]) ⟨rfl, rfl, rfl, trivial⟩).2 ib, trivial⟩⟩).mono ?_
  rintro e w' ⟨v, rfl, h1, h2⟩
  exact ⟨v, rfl, (row_isL (xs := xrSumX a b) (ks := [6, 7, 8]) (vs := [(a.x.add b.x), (a.y.add b.y), (a.z.add b.z)]) ⟨rfl, rfl, rfl, trivial⟩).1 h1, h2⟩
theorem I_rSum {xs : List Fq} {ys : Rho} {ka : List Nat} {kb : List Nat} {a : Vq} {b : Vq} {kr : List Nat} (aa : AtL xs ka [a.x, a.y, a.z]) (ab : AtL xs kb [b.x, b.y, b.z]) (ar : AtL xs kr [(a.add b).x, (a.add b).y, (a.add b).z]) (ha : a.ok 100000000) (hb : b.ok 100000000) : OkI xs ys ⟨126, [row ka, row kb], .v (row kr)⟩ :=
  ⟨enters Tryz.func126 rfl rfl, fun B w vs hB h => by
    match vs, h with
    | [va, vb], h =>
      refine (q_rSum va vb a b w ((row_isL aa).1 h.1) ((row_isL ab).1 h.2.1) ha hb).mono ?_
      rintro e w' ⟨v, rfl, h1, h2⟩
      exact ⟨v, rfl, (row_isL ar).2 h1, h2⟩⟩
theorem same_ne {x y : Fq} (h : x ≠ y) : x.same y = false := Bool.eq_false_iff.2 (mt Fq.same_iff.1 h)
def xrEqual1X (a : Qq) (b : Qq) : List Fq := [a.w, a.x, a.y, a.z, b.w, b.x, b.y, b.z]
theorem q_rEqual1 (va vb : Value) (a : Qq) (b : Qq) (w : World) (ia : IsQt w va a) (ib : IsQt w vb b) (ha : a.ok 1000000000) (hb : b.ok 1000000000) (e0 : a = b) :
    Calls Tryz.prog 50 #[va, vb] w fun e w' => RetV w (.bool true) e w' := by
  refine (calls_runFn (ρ := frs (xrEqual1X a b) ++ []) (w := w) (fuel := 300) (args := [row [0, 1, 2, 3], row [4, 5, 6, 7]]) (vs := [va, vb]) (r := .v (.one (.b true)))
    (il_cons (I_rSame (i := 0) (j := 4) (l := .b true) rfl rfl (lb (Fq.same_iff.2 (congrArg Qq.w e0))) (ha.w.mono (by decide)).p (ha.w.mono (by decide)).q (hb.w.mono (by decide)).p (hb.w.mono (by decide)).q) (il_cons (I_rSame (i := 1) (j := 5) (l := .b true) rfl rfl (lb (Fq.same_iff.2 (congrArg Qq.x e0))) (ha.x.mono (by decide)).p (ha.x.mono (by decide)).q (hb.x.mono (by decide)).p (hb.x.mono (by decide)).q) (il_cons (I_rSame (i := 2) (j := 6) (l := .b true) rfl rfl (lb (Fq.same_iff.2 (congrArg Qq.y e0))) (ha.y.mono (by decide)).p (ha.y.mono (by decide)).q (hb.y.mono (by decide)).p (hb.y.mono (by decide)).q) (il_cons (I_rSame (i := 3) (j := 7) (l := .b true) rfl rfl (lb (Fq.same_iff.2 (congrArg Qq.z e0))) (ha.z.mono (by decide)).p (ha.z.mono (by decide)).q (hb.z.mono (by decide)).p (hb.z.mono (by decide)).q) il_nil))))
    ol_nil (by kernel_rfl) Tryz.func50 (by kernel_rfl) ⟨(row_isL (xs := xrEqual1X a b) (ks := [0, 1, 2, 3]) (vs := [a.w, a.x, a.y, a.z]) ⟨rfl, rfl, rfl, rfl, trivial⟩).2 ia, ⟨(row_isL (xs := xrEqual1X a b) (ks := [4, 5, 6, 7]) (vs := [b.w, b.x, b.y, b.z]) ⟨rfl, rfl, rfl, rfl, trivial⟩).2 ib, trivial⟩⟩).mono ?_
  rintro e w' ⟨v, rfl, h1, h2⟩
  exact ⟨congrArg Ending.returned h1, h2⟩
theorem I_rEqual1 {xs : List Fq} {ys : Rho} {ka : List Nat} {kb : List Nat} {a : Qq} {b : Qq}  (aa : AtL xs ka [a.w, a.x, a.y, a.z]) (ab : AtL xs kb [b.w, b.x, b.y, b.z])  (ha : a.ok 1000000000) (hb : b.ok 1000000000) (e0 : a = b) : OkI xs ys ⟨50, [row ka, row kb], .v (.one (.b true))⟩ :=
  ⟨enters Tryz.func50 rfl rfl, fun B w vs hB h => by
    match vs, h with
    | [va, vb], h =>
      refine (q_rEqual1 va vb a b w ((row_isL aa).1 h.1) ((row_isL ab).1 h.2.1) ha hb e0).mono ?_
      rintro e w' ⟨rfl, h2⟩
      exact ⟨_, rfl, rfl, h2⟩⟩
def xrEqual0X (a : Qq) (b : Qq) : List Fq := [a.w, a.x, a.y, a.z, b.w, b.x, b.y, b.z]
def xrEqual01X (a : Qq) (b : Qq) : List Fq := [a.w, a.x, a.y, a.z, b.w, b.x, b.y, b.z]
def xrEqual02X (a : Qq) (b : Qq) : List Fq := [a.w, a.x, a.y, a.z, b.w, b.x, b.y, b.z]
def xrEqual03X (a : Qq) (b : Qq) : List Fq := [a.w, a.x, a.y, a.z, b.w, b.x, b.y, b.z]
theorem q_rEqual0 (va vb : Value) (a : Qq) (b : Qq) (w : World) (ia : IsQt w va a) (ib : IsQt w vb b) (ha : a.ok 1000000000) (hb : b.ok 1000000000) (e0 : a ≠ b) :
    Calls Tryz.prog 50 #[va, vb] w fun e w' => RetV w (.bool false) e w' := by
  by_cases c0 : a.w = b.w
  · by_cases c1 : a.x = b.x
    · by_cases c2 : a.y = b.y
      · by_cases c3 : a.z = b.z
        · exact absurd (by cases a; cases b; simp only at c0 c1 c2 c3; subst c0 c1 c2 c3; rfl) e0
        · refine (calls_runFn (ρ := frs (xrEqual0X a b) ++ []) (w := w) (fuel := 300) (args := [row [0, 1, 2, 3], row [4, 5, 6, 7]]) (vs := [va, vb]) (r := .v (.one (.b false)))
            (il_cons (I_rSame (i := 0) (j := 4) (l := .b true) rfl rfl (lb (Fq.same_iff.2 c0)) (ha.w.mono (by decide)).p (ha.w.mono (by decide)).q (hb.w.mono (by decide)).p (hb.w.mono (by decide)).q) (il_cons (I_rSame (i := 1) (j := 5) (l := .b true) rfl rfl (lb (Fq.same_iff.2 c1)) (ha.x.mono (by decide)).p (ha.x.mono (by decide)).q (hb.x.mono (by decide)).p (hb.x.mono (by decide)).q) (il_cons (I_rSame (i := 2) (j := 6) (l := .b true) rfl rfl (lb (Fq.same_iff.2 c2)) (ha.y.mono (by decide)).p (ha.y.mono (by decide)).q (hb.y.mono (by decide)).p (hb.y.mono (by decide)).q) (il_cons (I_rSame (i := 3) (j := 7) (l := .b false) rfl rfl (lb (same_ne c3)) (ha.z.mono (by decide)).p (ha.z.mono (by decide)).q (hb.z.mono (by decide)).p (hb.z.mono (by decide)).q) il_nil))))
            ol_nil (by kernel_rfl) Tryz.func50 (by kernel_rfl) ⟨(row_isL (xs := xrEqual0X a b) (ks := [0, 1, 2, 3]) (vs := [a.w, a.x, a.y, a.z]) ⟨rfl, rfl, rfl, rfl, trivial⟩).2 ia, ⟨(row_isL (xs := xrEqual0X a b) (ks := [4, 5, 6, 7]) (vs := [b.w, b.x, b.y, b.z]) ⟨rfl, rfl, rfl, rfl, trivial⟩).2 ib, trivial⟩⟩).mono ?_
          rintro e w' ⟨v, rfl, h1, h2⟩
          exact ⟨congrArg Ending.returned h1, h2⟩
      · refine (calls_runFn (ρ := frs (xrEqual01X a b) ++ []) (w := w) (fuel := 300) (args := [row [0, 1, 2, 3], row [4, 5, 6, 7]]) (vs := [va, vb]) (r := .v (.one (.b false)))
          (il_cons (I_rSame (i := 0) (j := 4) (l := .b true) rfl rfl (lb (Fq.same_iff.2 c0)) (ha.w.mono (by decide)).p (ha.w.mono (by decide)).q (hb.w.mono (by decide)).p (hb.w.mono (by decide)).q) (il_cons (I_rSame (i := 1) (j := 5) (l := .b true) rfl rfl (lb (Fq.same_iff.2 c1)) (ha.x.mono (by decide)).p (ha.x.mono (by decide)).q (hb.x.mono (by decide)).p (hb.x.mono (by decide)).q) (il_cons (I_rSame (i := 2) (j := 6) (l := .b false) rfl rfl (lb (same_ne c2)) (ha.y.mono (by decide)).p (ha.y.mono (by decide)).q (hb.y.mono (by decide)).p (hb.y.mono (by decide)).q) il_nil)))
          ol_nil (by kernel_rfl) Tryz.func50 (by kernel_rfl) ⟨(row_isL (xs := xrEqual01X a b) (ks := [0, 1, 2, 3]) (vs := [a.w, a.x, a.y, a.z]) ⟨rfl, rfl, rfl, rfl, trivial⟩).2 ia, ⟨(row_isL (xs := xrEqual01X a b) (ks := [4, 5, 6, 7]) (vs := [b.w, b.x, b.y, b.z]) ⟨rfl, rfl, rfl, rfl, trivial⟩).2 ib, trivial⟩⟩).mono ?_
        rintro e w' ⟨v, rfl, h1, h2⟩
        exact ⟨congrArg Ending.returned h1, h2⟩
    · refine (calls_runFn (ρ := frs (xrEqual02X a b) ++ []) (w := w) (fuel := 300) (args := [row [0, 1, 2, 3], row [4, 5, 6, 7]]) (vs := [va, vb]) (r := .v (.one (.b false)))
        (il_cons (I_rSame (i := 0) (j := 4) (l := .b true) rfl rfl (lb (Fq.same_iff.2 c0)) (ha.w.mono (by decide)).p (ha.w.mono (by decide)).q (hb.w.mono (by decide)).p (hb.w.mono (by decide)).q) (il_cons (I_rSame (i := 1) (j := 5) (l := .b false) rfl rfl (lb (same_ne c1)) (ha.x.mono (by decide)).p (ha.x.mono (by decide)).q (hb.x.mono (by decide)).p (hb.x.mono (by decide)).q) il_nil))
        ol_nil (by kernel_rfl) Tryz.func50 (by kernel_rfl) ⟨(row_isL (xs := xrEqual02X a b) (ks := [0, 1, 2, 3]) (vs := [a.w, a.x, a.y, a.z]) ⟨rfl, rfl, rfl, rfl, trivial⟩).2 ia, ⟨(row_isL (xs := xrEqual02X a b) (ks := [4, 5, 6, 7]) (vs := [b.w, b.x, b.y, b.z]) ⟨rfl, rfl, rfl, rfl, trivial⟩).2 ib, trivial⟩⟩).mono ?_
      rintro e w' ⟨v, rfl, h1, h2⟩
      exact ⟨congrArg Ending.returned h1, h2⟩
  · refine (calls_runFn (ρ := frs (xrEqual03X a b) ++ []) (w := w) (fuel := 300) (args := [row [0, 1, 2, 3], row [4, 5, 6, 7]]) (vs := [va, vb]) (r := .v (.one (.b false)))
      (il_cons (I_rSame (i := 0) (j := 4) (l := .b false) rfl rfl (lb (same_ne c0)) (ha.w.mono (by decide)).p (ha.w.mono (by decide)).q (hb.w.mono (by decide)).p (hb.w.mono (by decide)).q) il_nil)
      ol_nil (by kernel_rfl) Tryz.func50 (by kernel_rfl) ⟨(row_isL (xs := xrEqual03X a b) (ks := [0, 1, 2, 3]) (vs := [a.w, a.x, a.y, a.z]) ⟨rfl, rfl, rfl, rfl, trivial⟩).2 ia, ⟨(row_isL (xs := xrEqual03X a b) (ks := [4, 5, 6, 7]) (vs := [b.w, b.x, b.y, b.z]) ⟨rfl, rfl, rfl, rfl, trivial⟩).2 ib, trivial⟩⟩).mono ?_
    rintro e w' ⟨v, rfl, h1, h2⟩
    exact ⟨congrArg Ending.returned h1, h2⟩
theorem I_rEqual0 {xs : List Fq} {ys : Rho} {ka : List Nat} {kb : List Nat} {a : Qq} {b : Qq}  (aa : AtL xs ka [a.w, a.x, a.y, a.z]) (ab : AtL xs kb [b.w, b.x, b.y, b.z])  (ha : a.ok 1000000000) (hb : b.ok 1000000000) (e0 : a ≠ b) : OkI xs ys ⟨50, [row ka, row kb], .v (.one (.b false))⟩ :=
  ⟨enters Tryz.func50 rfl rfl, fun B w vs hB h => by
    match vs, h with
    | [va, vb], h =>
      refine (q_rEqual0 va vb a b w ((row_isL aa).1 h.1) ((row_isL ab).1 h.2.1) ha hb e0).mono ?_
      rintro e w' ⟨rfl, h2⟩
      exact ⟨_, rfl, rfl, h2⟩⟩
theorem z0 : nl 0 ≤ 1000000000000 := by rw [nl_zero]; decide
def xaxisX (q : Qq) : List Fq := [q.w, q.x, q.y, q.z]
theorem q_axis (vq : Value) (q : Qq) (w : World) (iq : IsQt w vq q) (hq : q.ok 1000000000) :
    Calls Tryz.prog 114 #[vq] w fun e w' => RetVq w q.axis e w' := by
  refine (calls_runFn (ρ := frs (xaxisX q) ++ []) (w := w) (fuel := 300) (args := [row [0, 1, 2, 3]]) (vs := [vq]) (r := .v (row [1, 2, 3]))
    (il_nil)
    ol_nil (by kernel_rfl) Tryz.func114 (by kernel_rfl) ⟨(row_isL (xs := xaxisX q) (ks := [0, 1, 2, 3]) (vs := [q.w, q.x, q.y, q.z]) ⟨rfl, rfl, rfl, rfl, trivial⟩).2 iq, trivial⟩).mono ?_
  rintro e w' ⟨v, rfl, h1, h2⟩
  exact ⟨v, rfl, (row_isL (xs := xaxisX q) (ks := [1, 2, 3]) (vs := [q.x, q.y, q.z]) ⟨rfl, rfl, rfl, trivial⟩).1 h1, h2⟩
theorem I_axis {xs : List Fq} {ys : Rho} {kq : List Nat} {q : Qq} {kr : List Nat} (aq : AtL xs kq [q.w, q.x, q.y, q.z]) (ar : AtL xs kr [q.axis.x, q.axis.y, q.axis.z]) (hq : q.ok 1000000000) : OkI xs ys ⟨114, [row kq], .v (row kr)⟩ :=
  ⟨enters Tryz.func114 rfl rfl, fun B w vs hB h => by
    match vs, h with
    | [vq], h =>
      refine (q_axis vq q w ((row_isL aq).1 h.1) hq).mono ?_
      rintro e w' ⟨v, rfl, h1, h2⟩
      exact ⟨v, rfl, (row_isL ar).2 h1, h2⟩⟩
def xpartX (q : Qq) : List Fq := [q.w, q.x, q.y, q.z]
theorem q_part (vq : Value) (q : Qq) (w : World) (iq : IsQt w vq q) (hq : q.ok 1000000000) :
    Calls Tryz.prog 122 #[vq] w fun e w' => RetVq w q.axis e w' := by
  refine (calls_runFn (ρ := frs (xpartX q) ++ []) (w := w) (fuel := 300) (args := [row [0, 1, 2, 3]]) (vs := [vq]) (r := .v (row [1, 2, 3]))
    (il_nil)
    ol_nil (by kernel_rfl) Tryz.func122 (by kernel_rfl) ⟨(row_isL (xs := xpartX q) (ks := [0, 1, 2, 3]) (vs := [q.w, q.x, q.y, q.z]) ⟨rfl, rfl, rfl, rfl, trivial⟩).2 iq, trivial⟩).mono ?_
  rintro e w' ⟨v, rfl, h1, h2⟩
  exact ⟨v, rfl, (row_isL (xs := xpartX q) (ks := [1, 2, 3]) (vs := [q.x, q.y, q.z]) ⟨rfl, rfl, rfl, trivial⟩).1 h1, h2⟩
theorem I_part {xs : List Fq} {ys : Rho} {kq : List Nat} {q : Qq} {kr : List Nat} (aq : AtL xs kq [q.w, q.x, q.y, q.z]) (ar : AtL xs kr [q.axis.x, q.axis.y, q.axis.z]) (hq : q.ok 1000000000) : OkI xs ys ⟨122, [row kq], .v (row kr)⟩ :=
  ⟨enters Tryz.func122 rfl rfl, fun B w vs hB h => by
    match vs, h with
    | [vq], h =>
      refine (q_part vq q w ((row_isL aq).1 h.1) hq).mono ?_
      rintro e w' ⟨v, rfl, h1, h2⟩
      exact ⟨v, rfl, (row_isL ar).2 h1, h2⟩⟩
def xpartsX (q : Qq) : List Fq := [q.w, q.x, q.y, q.z]
theorem q_parts (vq : Value) (q : Qq) (w : World) (iq : IsQt w vq q) (hq : q.ok 1000000000) :
    Calls Tryz.prog 84 #[vq] w fun e w' => RetQt w q e w' := by
  refine (calls_runFn (ρ := frs (xpartsX q) ++ []) (w := w) (fuel := 300) (args := [row [0, 1, 2, 3]]) (vs := [vq]) (r := .v (row [0, 1, 2, 3]))
    (il_nil)
    ol_nil (by kernel_rfl) Tryz.func84 (by kernel_rfl) ⟨(row_isL (xs := xpartsX q) (ks := [0, 1, 2, 3]) (vs := [q.w, q.x, q.y, q.z]) ⟨rfl, rfl, rfl, rfl, trivial⟩).2 iq, trivial⟩).mono ?_
  rintro e w' ⟨v, rfl, h1, h2⟩
  exact ⟨v, rfl, (row_isL (xs := xpartsX q) (ks := [0, 1, 2, 3]) (vs := [q.w, q.x, q.y, q.z]) ⟨rfl, rfl, rfl, rfl, trivial⟩).1 h1, h2⟩
theorem I_parts {xs : List Fq} {ys : Rho} {kq : List Nat} {q : Qq} {kr : List Nat} (aq : AtL xs kq [q.w, q.x, q.y, q.z]) (ar : AtL xs kr [q.w, q.x, q.y, q.z]) (hq : q.ok 1000000000) : OkI xs ys ⟨84, [row kq], .v (row kr)⟩ :=
  ⟨enters Tryz.func84 rfl rfl, fun B w vs hB h => by
    match vs, h with
    | [vq], h =>
      refine (q_parts vq q w ((row_isL aq).1 h.1) hq).mono ?_
      rintro e w' ⟨v, rfl, h1, h2⟩
      exact ⟨v, rfl, (row_isL ar).2 h1, h2⟩⟩
def xfEqual1X (a : Qq) (b : Qq) : List Fq := [a.w, a.x, a.y, a.z, b.w, b.x, b.y, b.z]
theorem q_fEqual1 (va vb : Value) (a : Qq) (b : Qq) (w : World) (ia : IsQt w va a) (ib : IsQt w vb b) (ha : a.ok 100000000) (hb : b.ok 100000000) (e0 : a = b) (ga : a.comp) (gb : b.comp) :
    Calls Tryz.prog 69 #[va, vb] w fun e w' => RetV w (.bool true) e w' := by
  refine (calls_runFn (ρ := frs (xfEqual1X a b) ++ []) (w := w) (fuel := 300) (args := [row [0, 1, 2, 3], row [4, 5, 6, 7]]) (vs := [va, vb]) (r := .v (.one (.b true)))
    (il_cons (I_parts (kq := [0, 1, 2, 3]) (q := a) (kr := [0, 1, 2, 3]) ⟨rfl, rfl, rfl, rfl, trivial⟩ ⟨rfl, rfl, rfl, rfl, trivial⟩ (ha.mono (by decide))) (il_cons (I_parts (kq := [4, 5, 6, 7]) (q := b) (kr := [4, 5, 6, 7]) ⟨rfl, rfl, rfl, rfl, trivial⟩ ⟨rfl, rfl, rfl, rfl, trivial⟩ (hb.mono (by decide))) (il_cons (I_fCmp (i := 0) (j := 4) rfl rfl (li ((o_zero ga.w gb.w).2 (congrArg Qq.w e0))) (ha.w.mono (by decide)) (hb.w.mono (by decide))) (il_cons (I_fCmp (i := 1) (j := 5) rfl rfl (li ((o_zero ga.x gb.x).2 (congrArg Qq.x e0))) (ha.x.mono (by decide)) (hb.x.mono (by decide))) (il_cons (I_fCmp (i := 2) (j := 6) rfl rfl (li ((o_zero ga.y gb.y).2 (congrArg Qq.y e0))) (ha.y.mono (by decide)) (hb.y.mono (by decide))) (il_cons (I_fCmp (i := 3) (j := 7) rfl rfl (li ((o_zero ga.z gb.z).2 (congrArg Qq.z e0))) (ha.z.mono (by decide)) (hb.z.mono (by decide))) il_nil))))))
    ol_nil (by kernel_rfl) Tryz.func69 (by kernel_rfl) ⟨(row_isL (xs := xfEqual1X a b) (ks := [0, 1, 2, 3]) (vs := [a.w, a.x, a.y, a.z]) ⟨rfl, rfl, rfl, rfl, trivial⟩).2 ia, ⟨(row_isL (xs := xfEqual1X a b) (ks := [4, 5, 6, 7]) (vs := [b.w, b.x, b.y, b.z]) ⟨rfl, rfl, rfl, rfl, trivial⟩).2 ib, trivial⟩⟩).mono ?_
  rintro e w' ⟨v, rfl, h1, h2⟩
  exact ⟨congrArg Ending.returned h1, h2⟩
theorem I_fEqual1 {xs : List Fq} {ys : Rho} {ka : List Nat} {kb : List Nat} {a : Qq} {b : Qq}  (aa : AtL xs ka [a.w, a.x, a.y, a.z]) (ab : AtL xs kb [b.w, b.x, b.y, b.z])  (ha : a.ok 100000000) (hb : b.ok 100000000) (e0 : a = b) (ga : a.comp) (gb : b.comp) : OkI xs ys ⟨69, [row ka, row kb], .v (.one (.b true))⟩ :=
  ⟨enters Tryz.func69 rfl rfl, fun B w vs hB h => by
    match vs, h with
    | [va, vb], h =>
      refine (q_fEqual1 va vb a b w ((row_isL aa).1 h.1) ((row_isL ab).1 h.2.1) ha hb e0 ga gb).mono ?_
      rintro e w' ⟨rfl, h2⟩
      exact ⟨_, rfl, rfl, h2⟩⟩
def xfEqual0X (a : Qq) (b : Qq) : List Fq := [a.w, a.x, a.y, a.z, b.w, b.x, b.y, b.z]
def xfEqual01X (a : Qq) (b : Qq) : List Fq := [a.w, a.x, a.y, a.z, b.w, b.x, b.y, b.z]
def xfEqual02X (a : Qq) (b : Qq) : List Fq := [a.w, a.x, a.y, a.z, b.w, b.x, b.y, b.z]
def xfEqual03X (a : Qq) (b : Qq) : List Fq := [a.w, a.x, a.y, a.z, b.w, b.x, b.y, b.z]
theorem q_fEqual0 (va vb : Value) (a : Qq) (b : Qq) (w : World) (ia : IsQt w va a) (ib : IsQt w vb b) (ha : a.ok 100000000) (hb : b.ok 100000000) (e0 : a ≠ b) (ga : a.comp) (gb : b.comp) :
    Calls Tryz.prog 69 #[va, vb] w fun e w' => RetV w (.bool false) e w' := by
  by_cases c0 : a.w = b.w
  · by_cases c1 : a.x = b.x
    · by_cases c2 : a.y = b.y
      · by_cases c3 : a.z = b.z
        · exact absurd (by cases a; cases b; simp only at c0 c1 c2 c3; subst c0 c1 c2 c3; rfl) e0
        · refine (calls_runFn (ρ := frs (xfEqual0X a b) ++ [.val (.int .i64 (a.z.cmp b.z))]) (w := w) (fuel := 300) (args := [row [0, 1, 2, 3], row [4, 5, 6, 7]]) (vs := [va, vb]) (r := .v (.one (.b false)))
            (il_cons (I_parts (kq := [0, 1, 2, 3]) (q := a) (kr := [0, 1, 2, 3]) ⟨rfl, rfl, rfl, rfl, trivial⟩ ⟨rfl, rfl, rfl, rfl, trivial⟩ (ha.mono (by decide))) (il_cons (I_parts (kq := [4, 5, 6, 7]) (q := b) (kr := [4, 5, 6, 7]) ⟨rfl, rfl, rfl, rfl, trivial⟩ ⟨rfl, rfl, rfl, rfl, trivial⟩ (hb.mono (by decide))) (il_cons (I_fCmp (i := 0) (j := 4) rfl rfl (li ((o_zero ga.w gb.w).2 c0)) (ha.w.mono (by decide)) (hb.w.mono (by decide))) (il_cons (I_fCmp (i := 1) (j := 5) rfl rfl (li ((o_zero ga.x gb.x).2 c1)) (ha.x.mono (by decide)) (hb.x.mono (by decide))) (il_cons (I_fCmp (i := 2) (j := 6) rfl rfl (li ((o_zero ga.y gb.y).2 c2)) (ha.y.mono (by decide)) (hb.y.mono (by decide))) (il_cons (I_fCmp (i := 3) (j := 7) rfl rfl (lr (n := 24) rfl) (ha.z.mono (by decide)) (hb.z.mono (by decide))) il_nil))))))
            (ol_cons (o_neq (n := 24) (c := 0) (t := 3) rfl (ne_neq (mt (o_zero ga.z gb.z).1 c3))) (ol_nil)) (by kernel_rfl) Tryz.func69 (by kernel_rfl) ⟨(row_isL (xs := xfEqual0X a b) (ks := [0, 1, 2, 3]) (vs := [a.w, a.x, a.y, a.z]) ⟨rfl, rfl, rfl, rfl, trivial⟩).2 ia, ⟨(row_isL (xs := xfEqual0X a b) (ks := [4, 5, 6, 7]) (vs := [b.w, b.x, b.y, b.z]) ⟨rfl, rfl, rfl, rfl, trivial⟩).2 ib, trivial⟩⟩).mono ?_
          rintro e w' ⟨v, rfl, h1, h2⟩
          exact ⟨congrArg Ending.returned h1, h2⟩
      · refine (calls_runFn (ρ := frs (xfEqual01X a b) ++ [.val (.int .i64 (a.y.cmp b.y))]) (w := w) (fuel := 300) (args := [row [0, 1, 2, 3], row [4, 5, 6, 7]]) (vs := [va, vb]) (r := .v (.one (.b false)))
          (il_cons (I_parts (kq := [0, 1, 2, 3]) (q := a) (kr := [0, 1, 2, 3]) ⟨rfl, rfl, rfl, rfl, trivial⟩ ⟨rfl, rfl, rfl, rfl, trivial⟩ (ha.mono (by decide))) (il_cons (I_parts (kq := [4, 5, 6, 7]) (q := b) (kr := [4, 5, 6, 7]) ⟨rfl, rfl, rfl, rfl, trivial⟩ ⟨rfl, rfl, rfl, rfl, trivial⟩ (hb.mono (by decide))) (il_cons (I_fCmp (i := 0) (j := 4) rfl rfl (li ((o_zero ga.w gb.w).2 c0)) (ha.w.mono (by decide)) (hb.w.mono (by decide))) (il_cons (I_fCmp (i := 1) (j := 5) rfl rfl (li ((o_zero ga.x gb.x).2 c1)) (ha.x.mono (by decide)) (hb.x.mono (by decide))) (il_cons (I_fCmp (i := 2) (j := 6) rfl rfl (lr (n := 24) rfl) (ha.y.mono (by decide)) (hb.y.mono (by decide))) il_nil)))))
          (ol_cons (o_neq (n := 24) (c := 0) (t := 3) rfl (ne_neq (mt (o_zero ga.y gb.y).1 c2))) (ol_nil)) (by kernel_rfl) Tryz.func69 (by kernel_rfl) ⟨(row_isL (xs := xfEqual01X a b) (ks := [0, 1, 2, 3]) (vs := [a.w, a.x, a.y, a.z]) ⟨rfl, rfl, rfl, rfl, trivial⟩).2 ia, ⟨(row_isL (xs := xfEqual01X a b) (ks := [4, 5, 6, 7]) (vs := [b.w, b.x, b.y, b.z]) ⟨rfl, rfl, rfl, rfl, trivial⟩).2 ib, trivial⟩⟩).mono ?_
        rintro e w' ⟨v, rfl, h1, h2⟩
        exact ⟨congrArg Ending.returned h1, h2⟩
    · refine (calls_runFn (ρ := frs (xfEqual02X a b) ++ [.val (.int .i64 (a.x.cmp b.x))]) (w := w) (fuel := 300) (args := [row [0, 1, 2, 3], row [4, 5, 6, 7]]) (vs := [va, vb]) (r := .v (.one (.b false)))
        (il_cons (I_parts (kq := [0, 1, 2, 3]) (q := a) (kr := [0, 1, 2, 3]) ⟨rfl, rfl, rfl, rfl, trivial⟩ ⟨rfl, rfl, rfl, rfl, trivial⟩ (ha.mono (by decide))) (il_cons (I_parts (kq := [4, 5, 6, 7]) (q := b) (kr := [4, 5, 6, 7]) ⟨rfl, rfl, rfl, rfl, trivial⟩ ⟨rfl, rfl, rfl, rfl, trivial⟩ (hb.mono (by decide))) (il_cons (I_fCmp (i := 0) (j := 4) rfl rfl (li ((o_zero ga.w gb.w).2 c0)) (ha.w.mono (by decide)) (hb.w.mono (by decide))) (il_cons (I_fCmp (i := 1) (j := 5) rfl rfl (lr (n := 24) rfl) (ha.x.mono (by decide)) (hb.x.mono (by decide))) il_nil))))
        (ol_cons (o_neq (n := 24) (c := 0) (t := 3) rfl (ne_neq (mt (o_zero ga.x gb.x).1 c1))) (ol_nil)) (by kernel_rfl) Tryz.func69 (by kernel_rfl) ⟨(row_isL (xs := xfEqual02X a b) (ks := [0, 1, 2, 3]) (vs := [a.w, a.x, a.y, a.z]) ⟨rfl, rfl, rfl, rfl, trivial⟩).2 ia, ⟨(row_isL (xs := xfEqual02X a b) (ks := [4, 5, 6, 7]) (vs := [b.w, b.x, b.y, b.z]) ⟨rfl, rfl, rfl, rfl, trivial⟩).2 ib, trivial⟩⟩).mono ?_
      rintro e w' ⟨v, rfl, h1, h2⟩
      exact ⟨congrArg Ending.returned h1, h2⟩
  · refine (calls_runFn (ρ := frs (xfEqual03X a b) ++ [.val (.int .i64 (a.w.cmp b.w))]) (w := w) (fuel := 300) (args := [row [0, 1, 2, 3], row [4, 5, 6, 7]]) (vs := [va, vb]) (r := .v (.one (.b false)))
      (il_cons (I_parts (kq := [0, 1, 2, 3]) (q := a) (kr := [0, 1, 2, 3]) ⟨rfl, rfl, rfl, rfl, trivial⟩ ⟨rfl, rfl, rfl, rfl, trivial⟩ (ha.mono (by decide))) (il_cons (I_parts (kq := [4, 5, 6, 7]) (q := b) (kr := [4, 5, 6, 7]) ⟨rfl, rfl, rfl, rfl, trivial⟩ ⟨rfl, rfl, rfl, rfl, trivial⟩ (hb.mono (by decide))) (il_cons (I_fCmp (i := 0) (j := 4) rfl rfl (lr (n := 24) rfl) (ha.w.mono (by decide)) (hb.w.mono (by decide))) il_nil)))
      (ol_cons (o_neq (n := 24) (c := 0) (t := 3) rfl (ne_neq (mt (o_zero ga.w gb.w).1 c0))) (ol_nil)) (by kernel_rfl) Tryz.func69 (by kernel_rfl) ⟨(row_isL (xs := xfEqual03X a b) (ks := [0, 1, 2, 3]) (vs := [a.w, a.x, a.y, a.z]) ⟨rfl, rfl, rfl, rfl, trivial⟩).2 ia, ⟨(row_isL (xs := xfEqual03X a b) (ks := [4, 5, 6, 7]) (vs := [b.w, b.x, b.y, b.z]) ⟨rfl, rfl, rfl, rfl, trivial⟩).2 ib, trivial⟩⟩).mono ?_
    rintro e w' ⟨v, rfl, h1, h2⟩
    exact ⟨congrArg Ending.returned h1, h2⟩
theorem I_fEqual0 {xs : List Fq} {ys : Rho} {ka : List Nat} {kb : List Nat} {a : Qq} {b : Qq}  (aa : AtL xs ka [a.w, a.x, a.y, a.z]) (ab : AtL xs kb [b.w, b.x, b.y, b.z])  (ha : a.ok 100000000) (hb : b.ok 100000000) (e0 : a ≠ b) (ga : a.comp) (gb : b.comp) : OkI xs ys ⟨69, [row ka, row kb], .v (.one (.b false))⟩ :=
  ⟨enters Tryz.func69 rfl rfl, fun B w vs hB h => by
    match vs, h with
    | [va, vb], h =>
      refine (q_fEqual0 va vb a b w ((row_isL aa).1 h.1) ((row_isL ab).1 h.2.1) ha hb e0 ga gb).mono ?_
      rintro e w' ⟨rfl, h2⟩
      exact ⟨_, rfl, rfl, h2⟩⟩
def xwholeX (q : Qq) : List Fq := [q.w, q.x, q.y, q.z]
theorem q_whole (vq : Value) (q : Qq) (w : World) (iq : IsQt w vq q) (hq : q.ok 1000000000) :
    Calls Tryz.prog 113 #[vq] w fun e w' => RetQt w q e w' := by
  refine (calls_runFn (ρ := frs (xwholeX q) ++ []) (w := w) (fuel := 300) (args := [row [0, 1, 2, 3]]) (vs := [vq]) (r := .v (row [0, 1, 2, 3]))
    (il_nil)
    ol_nil (by kernel_rfl) Tryz.func113 (by kernel_rfl) ⟨(row_isL (xs := xwholeX q) (ks := [0, 1, 2, 3]) (vs := [q.w, q.x, q.y, q.z]) ⟨rfl, rfl, rfl, rfl, trivial⟩).2 iq, trivial⟩).mono ?_
  rintro e w' ⟨v, rfl, h1, h2⟩
  exact ⟨v, rfl, (row_isL (xs := xwholeX q) (ks := [0, 1, 2, 3]) (vs := [q.w, q.x, q.y, q.z]) ⟨rfl, rfl, rfl, rfl, trivial⟩).1 h1, h2⟩
theorem I_whole {xs : List Fq} {ys : Rho} {kq : List Nat} {q : Qq} {kr : List Nat} (aq : AtL xs kq [q.w, q.x, q.y, q.z]) (ar : AtL xs kr [q.w, q.x, q.y, q.z]) (hq : q.ok 1000000000) : OkI xs ys ⟨113, [row kq], .v (row kr)⟩ :=
  ⟨enters Tryz.func113 rfl rfl, fun B w vs hB h => by
    match vs, h with
    | [vq], h =>
      refine (q_whole vq q w ((row_isL aq).1 h.1) hq).mono ?_
      rintro e w' ⟨v, rfl, h1, h2⟩
      exact ⟨v, rfl, (row_isL ar).2 h1, h2⟩⟩
def xHalf1X (q : Qq) : List Fq := [q.w, q.x, q.y, q.z]
theorem q_Half1 (vq : Value) (q : Qq) (w : World) (iq : IsQt w vq q) (hq : q.ok 1000000000) (h0 : q.w.p = 0) :
    Calls Tryz.prog 130 #[vq] w fun e w' => RetV w (.bool true) e w' := by
  refine (calls_runFn (ρ := frs (xHalf1X q) ++ []) (w := w) (fuel := 300) (args := [row [0, 1, 2, 3]]) (vs := [vq]) (r := .v (.one (.b true)))
    (il_cons (I_fSign (i := 0) rfl (li (sgn0 h0)) (hq.w.mono (by decide))) il_nil)
    ol_nil (by kernel_rfl) Tryz.func130 (by kernel_rfl) ⟨(row_isL (xs := xHalf1X q) (ks := [0, 1, 2, 3]) (vs := [q.w, q.x, q.y, q.z]) ⟨rfl, rfl, rfl, rfl, trivial⟩).2 iq, trivial⟩).mono ?_
  rintro e w' ⟨v, rfl, h1, h2⟩
  exact ⟨congrArg Ending.returned h1, h2⟩
theorem I_Half1 {xs : List Fq} {ys : Rho} {kq : List Nat} {q : Qq}  (aq : AtL xs kq [q.w, q.x, q.y, q.z])  (hq : q.ok 1000000000) (h0 : q.w.p = 0) : OkI xs ys ⟨130, [row kq], .v (.one (.b true))⟩ :=
  ⟨enters Tryz.func130 rfl rfl, fun B w vs hB h => by
    match vs, h with
    | [vq], h =>
      refine (q_Half1 vq q w ((row_isL aq).1 h.1) hq h0).mono ?_
      rintro e w' ⟨rfl, h2⟩
      exact ⟨_, rfl, rfl, h2⟩⟩
def xHalf0X (q : Qq) : List Fq := [q.w, q.x, q.y, q.z]
theorem q_Half0 (vq : Value) (q : Qq) (w : World) (iq : IsQt w vq q) (hq : q.ok 1000000000) (h0 : q.w.p ≠ 0) :
    Calls Tryz.prog 130 #[vq] w fun e w' => RetV w (.bool false) e w' := by
  refine (calls_runFn (ρ := frs (xHalf0X q) ++ [.val (.int .i64 q.w.sgn)]) (w := w) (fuel := 300) (args := [row [0, 1, 2, 3]]) (vs := [vq]) (r := .v (.one (.b false)))
    (il_cons (I_fSign (i := 0) rfl (lr (n := 12) rfl) (hq.w.mono (by decide))) il_nil)
    (ol_cons (o_eql (n := 12) (c := 0) (t := 3) rfl (sgn_eq h0)) (ol_nil)) (by kernel_rfl) Tryz.func130 (by kernel_rfl) ⟨(row_isL (xs := xHalf0X q) (ks := [0, 1, 2, 3]) (vs := [q.w, q.x, q.y, q.z]) ⟨rfl, rfl, rfl, rfl, trivial⟩).2 iq, trivial⟩).mono ?_
  rintro e w' ⟨v, rfl, h1, h2⟩
  exact ⟨congrArg Ending.returned h1, h2⟩
theorem I_Half0 {xs : List Fq} {ys : Rho} {kq : List Nat} {q : Qq}  (aq : AtL xs kq [q.w, q.x, q.y, q.z])  (hq : q.ok 1000000000) (h0 : q.w.p ≠ 0) : OkI xs ys ⟨130, [row kq], .v (.one (.b false))⟩ :=
  ⟨enters Tryz.func130 rfl rfl, fun B w vs hB h => by
    match vs, h with
    | [vq], h =>
      refine (q_Half0 vq q w ((row_isL aq).1 h.1) hq h0).mono ?_
      rintro e w' ⟨rfl, h2⟩
      exact ⟨_, rfl, rfl, h2⟩⟩
def xrHalf1X (q : Qq) : List Fq := [q.w, q.x, q.y, q.z]
theorem q_rHalf1 (vq : Value) (q : Qq) (w : World) (iq : IsQt w vq q) (hq : q.ok 1000000000) (h0 : q.w.p = 0) :
    Calls Tryz.prog 131 #[vq] w fun e w' => RetV w (.bool true) e w' := by
  refine (calls_runFn (ρ := frs (xrHalf1X q) ++ []) (w := w) (fuel := 300) (args := [row [0, 1, 2, 3]]) (vs := [vq]) (r := .v (.one (.b true)))
    (il_cons (I_rSign (i := 0) rfl (li (sgn0 h0)) (hq.w.mono (by decide))) il_nil)
    ol_nil (by kernel_rfl) Tryz.func131 (by kernel_rfl) ⟨(row_isL (xs := xrHalf1X q) (ks := [0, 1, 2, 3]) (vs := [q.w, q.x, q.y, q.z]) ⟨rfl, rfl, rfl, rfl, trivial⟩).2 iq, trivial⟩).mono ?_
  rintro e w' ⟨v, rfl, h1, h2⟩
  exact ⟨congrArg Ending.returned h1, h2⟩
theorem I_rHalf1 {xs : List Fq} {ys : Rho} {kq : List Nat} {q : Qq}  (aq : AtL xs kq [q.w, q.x, q.y, q.z])  (hq : q.ok 1000000000) (h0 : q.w.p = 0) : OkI xs ys ⟨131, [row kq], .v (.one (.b true))⟩ :=
  ⟨enters Tryz.func131 rfl rfl, fun B w vs hB h => by
    match vs, h with
    | [vq], h =>
      refine (q_rHalf1 vq q w ((row_isL aq).1 h.1) hq h0).mono ?_
      rintro e w' ⟨rfl, h2⟩
      exact ⟨_, rfl, rfl, h2⟩⟩
def xrHalf0X (q : Qq) : List Fq := [q.w, q.x, q.y, q.z]
theorem q_rHalf0 (vq : Value) (q : Qq) (w : World) (iq : IsQt w vq q) (hq : q.ok 1000000000) (h0 : q.w.p ≠ 0) :
    Calls Tryz.prog 131 #[vq] w fun e w' => RetV w (.bool false) e w' := by
  refine (calls_runFn (ρ := frs (xrHalf0X q) ++ [.val (.int .i64 q.w.sgn)]) (w := w) (fuel := 300) (args := [row [0, 1, 2, 3]]) (vs := [vq]) (r := .v (.one (.b false)))
    (il_cons (I_rSign (i := 0) rfl (lr (n := 12) rfl) (hq.w.mono (by decide))) il_nil)
    (ol_cons (o_eql (n := 12) (c := 0) (t := 3) rfl (sgn_eq h0)) (ol_nil)) (by kernel_rfl) Tryz.func131 (by kernel_rfl) ⟨(row_isL (xs := xrHalf0X q) (ks := [0, 1, 2, 3]) (vs := [q.w, q.x, q.y, q.z]) ⟨rfl, rfl, rfl, rfl, trivial⟩).2 iq, trivial⟩).mono ?_
  rintro e w' ⟨v, rfl, h1, h2⟩
  exact ⟨congrArg Ending.returned h1, h2⟩
theorem I_rHalf0 {xs : List Fq} {ys : Rho} {kq : List Nat} {q : Qq}  (aq : AtL xs kq [q.w, q.x, q.y, q.z])  (hq : q.ok 1000000000) (h0 : q.w.p ≠ 0) : OkI xs ys ⟨131, [row kq], .v (.one (.b false))⟩ :=
  ⟨enters Tryz.func131 rfl rfl, fun B w vs hB h => by
    match vs, h with
    | [vq], h =>
      refine (q_rHalf0 vq q w ((row_isL aq).1 h.1) hq h0).mono ?_
      rintro e w' ⟨rfl, h2⟩
      exact ⟨_, rfl, rfl, h2⟩⟩
def xfIdX  : List Fq := [(Fq.ofInt 1), (Fq.ofInt 0)]
theorem ok_id : Qq.id.ok 2 := ⟨ok_int (by decide) (by decide), ok_int (by decide) (by decide), ok_int (by decide) (by decide), ok_int (by decide) (by decide)⟩
theorem q_fId  (w : World)   :
    Calls Tryz.prog 59 #[] w fun e w' => RetQt w Qq.id e w' := by
  refine (calls_runFn (ρ := frs (xfIdX ) ++ []) (w := w) (fuel := 300) (args := []) (vs := []) (r := .v (row [0, 1, 1, 1]))
    (il_cons (I_fInt (k := 0) rfl (by decide) (by decide)) (il_cons (I_fInt (k := 1) rfl (by decide) (by decide)) (il_cons (I_whole (kq := [0, 1, 1, 1]) (q := (Qq.mk (Fq.ofInt 1) (Fq.ofInt 0) (Fq.ofInt 0) (Fq.ofInt 0))) (kr := [0, 1, 1, 1]) ⟨rfl, rfl, rfl, rfl, trivial⟩ ⟨rfl, rfl, rfl, rfl, trivial⟩ (⟨(ok_int (u := 1) (by decide) (by decide)).mono (by decide), (ok_int (u := 0) (by decide) (by decide)).mono (by decide), (ok_int (u := 0) (by decide) (by decide)).mono (by decide), (ok_int (u := 0) (by decide) (by decide)).mono (by decide)⟩ : Qq.ok 1000000000 (Qq.mk (Fq.ofInt 1) (Fq.ofInt 0) (Fq.ofInt 0) (Fq.ofInt 0)))) il_nil)))
    ol_nil (by kernel_rfl) Tryz.func59 (by kernel_rfl) trivial).mono ?_
  rintro e w' ⟨v, rfl, h1, h2⟩
  exact ⟨v, rfl, (row_isL (xs := xfIdX ) (ks := [0, 1, 1, 1]) (vs := [(Fq.ofInt 1), (Fq.ofInt 0), (Fq.ofInt 0), (Fq.ofInt 0)]) ⟨rfl, rfl, rfl, rfl, trivial⟩).1 h1, h2⟩
theorem I_fId {xs : List Fq} {ys : Rho}   {kr : List Nat}  (ar : AtL xs kr [Qq.id.w, Qq.id.x, Qq.id.y, Qq.id.z]) : OkI xs ys ⟨59, [], .v (row kr)⟩ :=
  ⟨enters Tryz.func59 rfl rfl, fun B w vs hB h => by
    match vs, h with
    | [], h =>
      refine (q_fId w).mono ?_
      rintro e w' ⟨v, rfl, h1, h2⟩
      exact ⟨v, rfl, (row_isL ar).2 h1, h2⟩⟩
def xrIdX  : List Fq := [(Fq.ofInt 1), (Fq.ofInt 0)]
theorem q_rId  (w : World)   :
    Calls Tryz.prog 76 #[] w fun e w' => RetQt w Qq.id e w' := by
  refine (calls_runFn (ρ := frs (xrIdX ) ++ []) (w := w) (fuel := 300) (args := []) (vs := []) (r := .v (row [0, 1, 1, 1]))
    (il_cons (I_rInt (k := 0) rfl (by decide) (by decide)) (il_cons (I_rInt (k := 1) rfl (by decide) (by decide)) il_nil))
    ol_nil (by kernel_rfl) Tryz.func76 (by kernel_rfl) trivial).mono ?_
  rintro e w' ⟨v, rfl, h1, h2⟩
  exact ⟨v, rfl, (row_isL (xs := xrIdX ) (ks := [0, 1, 1, 1]) (vs := [(Fq.ofInt 1), (Fq.ofInt 0), (Fq.ofInt 0), (Fq.ofInt 0)]) ⟨rfl, rfl, rfl, rfl, trivial⟩).1 h1, h2⟩
theorem I_rId {xs : List Fq} {ys : Rho}   {kr : List Nat}  (ar : AtL xs kr [Qq.id.w, Qq.id.x, Qq.id.y, Qq.id.z]) : OkI xs ys ⟨76, [], .v (row kr)⟩ :=
  ⟨enters Tryz.func76 rfl rfl, fun B w vs hB h => by
    match vs, h with
    | [], h =>
      refine (q_rId w).mono ?_
      rintro e w' ⟨v, rfl, h1, h2⟩
      exact ⟨v, rfl, (row_isL ar).2 h1, h2⟩⟩
end Go.Proofs.YthebfmlfgfmlnaaGreatDoor
namespace Go.Proofs.YthebfmlfgfmlnaaGreatDoor
set_option linter.unusedSimpArgs false
set_option linter.unusedVariables false
set_option maxRecDepth 100000
open Go.RowKit
/-- Rows of fractions whose numbers may have leading zeros. -/
def leafsN : List Nat → List Leaf
  | [] => []
  | n :: ns => .ref n :: .ref (n + 1) :: .ref (n + 2) :: leafsN ns
def rowN (ns : List Nat) : SV := .agg (leafsN ns)
def AtR (ρ : Rho) : List Nat → List Rq → Prop
  | [], [] => True
  | n :: ns, r :: rs => (ρ[n]? = some (.val (.bool r.s)) ∧ ρ[n + 1]? = some (.dig r.L r.p) ∧ ρ[n + 2]? = some (.dig r.N r.q)) ∧ AtR ρ ns rs
  | _, _ => False
/-- A fraction in valid form. -/
def Rq.vld (r : Rq) : Bool := decide (nl r.p = r.L ∧ nl r.q = r.N) && (Fq.mk r.s r.p r.q).valid
section
variable {ρ : Rho} {xs : List Fq} {ys : Rho} {n m k : Nat} {u v : Int} {l : Leaf} {t : TypeId} {B : Blk} {w : World} {r : Rq}
theorem rowN_holds : ∀ {ns : List Nat} {rs : List Rq} {cs : List Value}, AtR ρ ns rs → (LeavesH ρ B w (leafsN ns) cs ↔ CellsR w rs cs)
  | [], [], cs, _ => by
    constructor
    · intro h; match cs, h with | [], _ => rfl
    · intro h; have h : cs = [] := h; subst h; trivial
  | n :: ns, r :: rs, cs, h => by
    obtain ⟨⟨h1, h2, h3⟩, h4⟩ := h
    have ih := fun cs => rowN_holds (ns := ns) (rs := rs) (cs := cs) h4
    constructor
    · intro hl
      match cs, hl with
      | u1 :: u2 :: u3 :: cs', hl =>
        obtain ⟨g1, g2, g3, g4⟩ := hl
        have e1 := (leafB h1).1 g1
        have e2 := (leafD h2).1 g2
        have e3 := (leafD h3).1 g3
        obtain ⟨a, c, rfl⟩ := isR_slice e2
        obtain ⟨b, d, rfl⟩ := isR_slice e3
        subst e1
        exact ⟨a, c, b, d, cs', rfl, e2, e3, (ih cs').1 g4⟩
      | [], hl => exact hl.elim
      | [_], hl => exact hl.2.elim
      | [_, _], hl => exact hl.2.2.elim
    · rintro ⟨a, c, b, d, cs', rfl, i1, i2, i3⟩
      exact ⟨(leafB h1).2 rfl, (leafD h2).2 i1, (leafD h3).2 i2, (ih cs').2 i3⟩
  | [], _ :: _, _, h => h.elim
  | _ :: _, [], _, h => h.elim
theorem rowN_isL {ns : List Nat} {rs : List Rq} {x : Value} (h : AtR ρ ns rs) : (rowN ns).holds ρ B w x ↔ IsL w x rs := by
  constructor
  · rintro ⟨cs, rfl, h1⟩; exact ⟨cs, rfl, (rowN_holds h).1 h1⟩
  · rintro ⟨cs, rfl, h1⟩; exact ⟨cs, rfl, (rowN_holds h).2 h1⟩
theorem isL_FR {x : Value} (h : IsL w x [r]) : IsFR w x r.s r.L r.p r.N r.q := by
  obtain ⟨cs, rfl, a, c, b, d, cs', rfl, i1, i2, e⟩ := h
  have e : cs' = [] := e
  subst e
  exact ⟨a, c, b, d, rfl, i1, i2⟩
theorem vld_raw (h : r.vld = true) : r = (Fq.mk r.s r.p r.q).raw ∧ (Fq.mk r.s r.p r.q).valid = true := by
  unfold Rq.vld at h
  simp only [Bool.and_eq_true, decide_eq_true_eq] at h
  obtain ⟨⟨h1, h2⟩, h3⟩ := h
  refine ⟨?_, h3⟩
  obtain ⟨s, L, p, N, q⟩ := r
  simp only at h1 h2
  subst h1; subst h2; rfl
theorem q_fValidX (x : Value) (w : World) (h : IsL w x [r]) (hL : r.L ≤ 1000000) (hN : r.N ≤ 1000000) : Calls Tryz.prog 85 #[x] w fun e w' => RetV w (.bool r.vld) e w' := by
  have hf := isL_FR h
  by_cases hc : nl r.p = r.L ∧ nl r.q = r.N
  · have e : r.vld = (Fq.mk r.s r.p r.q).valid := by unfold Rq.vld; simp [hc]
    rw [e]
    exact q_fValid x ⟨r.s, r.p, r.q⟩ w (hf.isQ hc.1 hc.2) (by show nl r.p ≤ _; omega) (by show nl r.q ≤ _; omega)
  · have e : r.vld = false := by unfold Rq.vld; simp [hc]
    rw [e]
    exact q_fValidR x r.s r.L r.p r.N r.q w hf hL hN hc
theorem instX {f : FuncId} {b d : Bool} (hen : Ent' f) (hc : ∀ x w, IsL w x [r] → Calls Tryz.prog f #[x] w (fun e w' => RetV w (.bool b) e w')) (hr : AtR (frs xs ++ ys) [n] [r]) (h : b = d) : OkI xs ys ⟨f, [rowN [n]], .v (.one (.b d))⟩ :=
  ⟨hen, fun B w vs hB hv => by
    match vs, hv with
    | [va], hv =>
      refine (hc va w ((rowN_isL hr).1 hv.1)).mono ?_
      rintro e w' ⟨rfl, h2⟩
      exact ⟨_, rfl, by subst h; rfl, h2⟩⟩
theorem I_fValidX {d : Bool} (hr : AtR (frs xs ++ ys) [n] [r]) (h : r.vld = d) (hL : r.L ≤ 1000000) (hN : r.N ≤ 1000000) : OkI xs ys ⟨85, [rowN [n]], .v (.one (.b d))⟩ :=
  instX (enters Tryz.func85 rfl rfl) (fun x w hx => q_fValidX x w hx hL hN) hr h
end
theorem vld_nl {r : Rq} (h : r.vld = true) : nl r.p = r.L ∧ nl r.q = r.N := by
  unfold Rq.vld at h
  simp only [Bool.and_eq_true, decide_eq_true_eq] at h
  exact h.1
/-- No more than four digits; and valid. -/
def Rq.sh (r : Rq) : Bool := decide (r.L ≤ 4) && decide (r.N ≤ 4)
def Rq.sm (r : Rq) : Bool := r.sh && r.vld
end Go.Proofs.YthebfmlfgfmlnaaGreatDoor
namespace Go.Proofs.YthebfmlfgfmlnaaGreatDoor
set_option linter.unusedSimpArgs false
set_option linter.unusedVariables false
set_option maxRecDepth 100000
open Go.RowKit
theorem q_rValidUR (va : Value) (s : Bool) (L p N q : Nat) (w : World) (ha : IsFR w va s L p N q) (hL : L ≤ 1100000) (hN : N ≤ 1100000) (hne : ¬(nl p = L ∧ nl q = N)) :
    Calls Tryz.prog 77 #[va] w fun e w' => RetV w (.bool false) e w' := by
  by_cases c0 : nl p = L
  · by_cases c1 : nl q = N
    · exact absurd ⟨c0, c1⟩ hne
    · refine (calls_runFn (ρ := [.val (.bool s), .dig L p, .dig N q]) (w := w) (fuel := 300) (args := [q3 0 1 2]) (vs := [va]) (r := .v (.one (.b false)))
        (il_cons (I_mValidR (i := 1) (b := true) rfl (decide_eq_true c0) (Nat.le_trans hL (by decide))) (il_cons (I_mValidR (i := 2) (b := false) rfl (decide_eq_false c1) (Nat.le_trans hN (by decide))) il_nil))
        ol_nil (by kernel_rfl) Tryz.func77 (by kernel_rfl) ⟨(inFR ha (lrb (n := 0) rfl) rfl rfl), trivial⟩).mono ?_
      rintro e w' ⟨v, rfl, h1, h2⟩
      have h1 := h1
      have h1 : v = _ := h1; subst h1
      exact ⟨rfl, h2⟩
  · refine (calls_runFn (ρ := [.val (.bool s), .dig L p, .dig N q]) (w := w) (fuel := 300) (args := [q3 0 1 2]) (vs := [va]) (r := .v (.one (.b false)))
      (il_cons (I_mValidR (i := 1) (b := false) rfl (decide_eq_false c0) (Nat.le_trans hL (by decide))) il_nil)
      ol_nil (by kernel_rfl) Tryz.func77 (by kernel_rfl) ⟨(inFR ha (lrb (n := 0) rfl) rfl rfl), trivial⟩).mono ?_
    rintro e w' ⟨v, rfl, h1, h2⟩
    have h1 := h1
    have h1 : v = _ := h1; subst h1
    exact ⟨rfl, h2⟩
theorem q_rValidU (va : Value) (x : Fq) (w : World) (ha : IsQ w va x) (hp : nl x.p ≤ 1100000) (hq : nl x.q ≤ 1100000) :
    Calls Tryz.prog 77 #[va] w fun e w' => RetV w (.bool x.valid) e w' := by
  by_cases c0 : x.q = 0
  · refine (calls_runFn (ρ := [.val (.bool x.s), .dig (nl x.p) x.p, .dig (nl x.q) x.q]) (w := w) (fuel := 300) (args := [q3 0 1 2]) (vs := [va]) (r := .v (.one (.b false)))
      (il_cons (I_mValid (i := 1) rfl rfl (Nat.le_trans hp (by decide))) (il_cons (I_mValid (i := 2) rfl rfl (Nat.le_trans hq (by decide))) (il_cons (I_zero (i := 2) rfl (decide_eq_true c0) (Nat.le_trans hq (by decide))) il_nil)))
      ol_nil (by kernel_rfl) Tryz.func77 (by kernel_rfl) ⟨(inF ha (lrb (n := 0) rfl) rfl rfl), trivial⟩).mono ?_
    rintro e w' ⟨v, rfl, h1, h2⟩
    have h1 := h1
    have h1 : v = _ := h1; subst h1
    exact ⟨by simp [Fq.valid, c0], h2⟩
  · rcases Bool.eq_false_or_eq_true (x.s) with c1 | c1
    · by_cases c2 : x.p = 0
      · refine (calls_runFn (ρ := [.dig (nl x.p) x.p, .dig (nl x.q) x.q]) (w := w) (fuel := 300) (args := [.agg [.b true, .ref 0, .ref 1]]) (vs := [va]) (r := .v (.one (.b false)))
          (il_cons (I_mValid (i := 0) rfl rfl (Nat.le_trans hp (by decide))) (il_cons (I_mValid (i := 1) rfl rfl (Nat.le_trans hq (by decide))) (il_cons (I_zero (i := 1) rfl (decide_eq_false c0) (Nat.le_trans hq (by decide))) (il_cons (I_zero (i := 0) rfl (decide_eq_true c2) (Nat.le_trans hp (by decide))) il_nil))))
          ol_nil (by kernel_rfl) Tryz.func77 (by kernel_rfl) ⟨(inF ha (lb c1) rfl rfl), trivial⟩).mono ?_
        rintro e w' ⟨v, rfl, h1, h2⟩
        have h1 := h1
        have h1 : v = _ := h1; subst h1
        exact ⟨by simp [Fq.valid, c0, c1, c2], h2⟩
      · by_cases c3 : (Nat.gcd x.p x.q) = 1
        · refine (calls_runFn (ρ := [.dig (nl x.p) x.p, .dig (nl x.q) x.q, .dig (nl (Nat.gcd x.p x.q)) (Nat.gcd x.p x.q), .dig (nl 1) 1]) (w := w) (fuel := 300) (args := [.agg [.b true, .ref 0, .ref 1]]) (vs := [va]) (r := .v (.one (.b true)))
            (il_cons (I_mValid (i := 0) rfl rfl (Nat.le_trans hp (by decide))) (il_cons (I_mValid (i := 1) rfl rfl (Nat.le_trans hq (by decide))) (il_cons (I_zero (i := 1) rfl (decide_eq_false c0) (Nat.le_trans hq (by decide))) (il_cons (I_zero (i := 0) rfl (decide_eq_false c2) (Nat.le_trans hp (by decide))) (il_cons (I_mGcd (i := 0) (j := 1) (k := 2) rfl rfl rfl (Nat.le_trans hp (by decide)) (Nat.le_trans hq (by decide))) (il_cons (I_mOf (k := 3) rfl (by decide)) (il_cons (I_mSame (i := 2) (j := 3) rfl rfl (decide_eq_true c3) (Nat.le_trans (nl_gcdN hp hq) (by decide)) (Nat.le_trans nl_one (by decide))) il_nil)))))))
            ol_nil (by kernel_rfl) Tryz.func77 (by kernel_rfl) ⟨(inF ha (lb c1) rfl rfl), trivial⟩).mono ?_
          rintro e w' ⟨v, rfl, h1, h2⟩
          have h1 := h1
          have h1 : v = _ := h1; subst h1
          exact ⟨by simp [Fq.valid, c0, c1, c2, c3], h2⟩
        · refine (calls_runFn (ρ := [.dig (nl x.p) x.p, .dig (nl x.q) x.q, .dig (nl (Nat.gcd x.p x.q)) (Nat.gcd x.p x.q), .dig (nl 1) 1]) (w := w) (fuel := 300) (args := [.agg [.b true, .ref 0, .ref 1]]) (vs := [va]) (r := .v (.one (.b false)))
            (il_cons (I_mValid (i := 0) rfl rfl (Nat.le_trans hp (by decide))) (il_cons (I_mValid (i := 1) rfl rfl (Nat.le_trans hq (by decide))) (il_cons (I_zero (i := 1) rfl (decide_eq_false c0) (Nat.le_trans hq (by decide))) (il_cons (I_zero (i := 0) rfl (decide_eq_false c2) (Nat.le_trans hp (by decide))) (il_cons (I_mGcd (i := 0) (j := 1) (k := 2) rfl rfl rfl (Nat.le_trans hp (by decide)) (Nat.le_trans hq (by decide))) (il_cons (I_mOf (k := 3) rfl (by decide)) (il_cons (I_mSame (i := 2) (j := 3) rfl rfl (decide_eq_false c3) (Nat.le_trans (nl_gcdN hp hq) (by decide)) (Nat.le_trans nl_one (by decide))) il_nil)))))))
            ol_nil (by kernel_rfl) Tryz.func77 (by kernel_rfl) ⟨(inF ha (lb c1) rfl rfl), trivial⟩).mono ?_
          rintro e w' ⟨v, rfl, h1, h2⟩
          have h1 := h1
          have h1 : v = _ := h1; subst h1
          exact ⟨by simp [Fq.valid, c0, c1, c2, c3], h2⟩
    · by_cases c2 : (Nat.gcd x.p x.q) = 1
      · refine (calls_runFn (ρ := [.dig (nl x.p) x.p, .dig (nl x.q) x.q, .dig (nl (Nat.gcd x.p x.q)) (Nat.gcd x.p x.q), .dig (nl 1) 1]) (w := w) (fuel := 300) (args := [.agg [.b false, .ref 0, .ref 1]]) (vs := [va]) (r := .v (.one (.b true)))
          (il_cons (I_mValid (i := 0) rfl rfl (Nat.le_trans hp (by decide))) (il_cons (I_mValid (i := 1) rfl rfl (Nat.le_trans hq (by decide))) (il_cons (I_zero (i := 1) rfl (decide_eq_false c0) (Nat.le_trans hq (by decide))) (il_cons (I_mGcd (i := 0) (j := 1) (k := 2) rfl rfl rfl (Nat.le_trans hp (by decide)) (Nat.le_trans hq (by decide))) (il_cons (I_mOf (k := 3) rfl (by decide)) (il_cons (I_mSame (i := 2) (j := 3) rfl rfl (decide_eq_true c2) (Nat.le_trans (nl_gcdN hp hq) (by decide)) (Nat.le_trans nl_one (by decide))) il_nil))))))
          ol_nil (by kernel_rfl) Tryz.func77 (by kernel_rfl) ⟨(inF ha (lb c1) rfl rfl), trivial⟩).mono ?_
        rintro e w' ⟨v, rfl, h1, h2⟩
        have h1 := h1
        have h1 : v = _ := h1; subst h1
        exact ⟨by simp [Fq.valid, c0, c1, c2], h2⟩
      · refine (calls_runFn (ρ := [.dig (nl x.p) x.p, .dig (nl x.q) x.q, .dig (nl (Nat.gcd x.p x.q)) (Nat.gcd x.p x.q), .dig (nl 1) 1]) (w := w) (fuel := 300) (args := [.agg [.b false, .ref 0, .ref 1]]) (vs := [va]) (r := .v (.one (.b false)))
          (il_cons (I_mValid (i := 0) rfl rfl (Nat.le_trans hp (by decide))) (il_cons (I_mValid (i := 1) rfl rfl (Nat.le_trans hq (by decide))) (il_cons (I_zero (i := 1) rfl (decide_eq_false c0) (Nat.le_trans hq (by decide))) (il_cons (I_mGcd (i := 0) (j := 1) (k := 2) rfl rfl rfl (Nat.le_trans hp (by decide)) (Nat.le_trans hq (by decide))) (il_cons (I_mOf (k := 3) rfl (by decide)) (il_cons (I_mSame (i := 2) (j := 3) rfl rfl (decide_eq_false c2) (Nat.le_trans (nl_gcdN hp hq) (by decide)) (Nat.le_trans nl_one (by decide))) il_nil))))))
          ol_nil (by kernel_rfl) Tryz.func77 (by kernel_rfl) ⟨(inF ha (lb c1) rfl rfl), trivial⟩).mono ?_
        rintro e w' ⟨v, rfl, h1, h2⟩
        have h1 := h1
        have h1 : v = _ := h1; subst h1
        exact ⟨by simp [Fq.valid, c0, c1, c2], h2⟩
theorem q_rValidXU {r : Rq} (x : Value) (w : World) (h : IsL w x [r]) (hL : r.L ≤ 1100000) (hN : r.N ≤ 1100000) : Calls Tryz.prog 77 #[x] w fun e w' => RetV w (.bool r.vld) e w' := by
  have hf := isL_FR h
  by_cases hc : nl r.p = r.L ∧ nl r.q = r.N
  · have e : r.vld = (Fq.mk r.s r.p r.q).valid := by unfold Rq.vld; simp [hc]
    rw [e]
    exact q_rValidU x ⟨r.s, r.p, r.q⟩ w (hf.isQ hc.1 hc.2) (by show nl r.p ≤ _; omega) (by show nl r.q ≤ _; omega)
  · have e : r.vld = false := by unfold Rq.vld; simp [hc]
    rw [e]
    exact q_rValidUR x r.s r.L r.p r.N r.q w hf hL hN hc
end Go.Proofs.YthebfmlfgfmlnaaGreatDoor
