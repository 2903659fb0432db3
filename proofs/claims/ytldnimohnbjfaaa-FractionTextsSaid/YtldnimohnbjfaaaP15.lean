/- The plain law of the texts of fractions: what is read is what is written. -/
import Derived.Test.YtldnimohnbjfaaaP14
namespace Go.Proofs.Ytldnimohnbjfaaa
set_option linter.unusedSimpArgs false
set_option linter.unusedVariables false
set_option maxRecDepth 100000
open Go.RowKit
theorem by_data (s : ByteArray) (i : Nat) : by' s i = (s.data[i]?.map UInt8.toNat).getD 0 := by
  unfold by'
  by_cases h : i < s.size
  · rw [dif_pos h, Array.getElem?_eq_getElem (show i < s.data.size from h)]; rfl
  · rw [dif_neg h, Array.getElem?_eq_none (by have : s.data.size = s.size := rfl; omega)]; rfl
theorem by_ext {s t : ByteArray} (h : s.size = t.size) (hb : ∀ i, i < s.size → by' s i = by' t i) : s = t := by
  have e : s.data = t.data := by
    apply Array.ext h
    intro i h1 h2
    have := hb i h1
    unfold by' at this
    rw [dif_pos (show i < s.size from h1), dif_pos (show i < t.size from h2)] at this
    exact UInt8.toNat_inj.1 this
  cases s; cases t; simp only at e; subst e; rfl
theorem by_app (a b : ByteArray) (i : Nat) : by' (a ++ b) i = if i < a.size then by' a i else by' b (i - a.size) := by
  rw [by_data, by_data, by_data, ByteArray.data_append, Array.getElem?_append]
  have e : a.data.size = a.size := rfl
  rw [e]
  split <;> rfl
theorem by_ex (s : ByteArray) (i j k : Nat) (hj : j ≤ s.size) (hk : k < j - i) : by' (s.extract i j) k = by' s (i + k) := by
  rw [by_data, by_data, ByteArray.data_extract, Array.getElem?_extract]
  have e : s.data.size = s.size := rfl
  rw [e, if_pos (by omega)]
theorem by1 (c : UInt8) : by' { data := #[c] } 0 = c.toNat := rfl
theorem glue {t : ByteArray} {i : Nat} (h1 : i < t.size) (h2 : by' t i = 47) : t.extract 0 i ++ ({ data := #[47] } ++ t.extract (i + 1) t.size) = t := by
  have hs : ({ data := #[47] } : ByteArray).size = 1 := rfl
  have z1 : (t.extract 0 i).size = i := by rw [ByteArray.size_extract]; omega
  have z2 : (t.extract (i + 1) t.size).size = t.size - (i + 1) := by rw [ByteArray.size_extract]; omega
  apply by_ext
  · rw [ByteArray.size_append, ByteArray.size_append, z1, z2, hs]; omega
  · intro k hk
    rw [ByteArray.size_append, ByteArray.size_append, z1, z2, hs] at hk
    rw [by_app, z1]
    by_cases hki : k < i
    · rw [if_pos hki, by_ex _ _ _ _ (by omega) (by omega), Nat.zero_add]
    · rw [if_neg hki, by_app, hs]
      by_cases hk0 : k - i < 1
      · obtain rfl : k = i := by omega
        rw [if_pos hk0, Nat.sub_self, by1, h2]; rfl
      · rw [if_neg hk0, by_ex _ _ _ _ (by omega) (by omega)]
        congr 1; omega
theorem glue0 {s : ByteArray} (h1 : 0 < s.size) (h2 : by' s 0 = 45) : { data := #[45] } ++ s.extract 1 s.size = s := by
  have hs : ({ data := #[45] } : ByteArray).size = 1 := rfl
  have z2 : (s.extract 1 s.size).size = s.size - 1 := by rw [ByteArray.size_extract]; omega
  apply by_ext
  · rw [ByteArray.size_append, z2, hs]; omega
  · intro k hk
    rw [ByteArray.size_append, z2, hs] at hk
    rw [by_app, hs]
    by_cases hk0 : k < 1
    · obtain rfl : k = 0 := by omega
      rw [if_pos hk0, by1, h2]; rfl
    · rw [if_neg hk0, by_ex _ _ _ _ (by omega) (by omega)]
      congr 1; omega
theorem cut_app (a b : ByteArray) (i : Nat) (h : a.size = i) : (a ++ b).extract 0 i = a := by
  subst h
  apply by_ext
  · rw [ByteArray.size_extract, ByteArray.size_append]; omega
  · intro k hk
    rw [ByteArray.size_extract, ByteArray.size_append] at hk
    rw [by_ex _ _ _ _ (by rw [ByteArray.size_append]; omega) (by omega), Nat.zero_add, by_app, if_pos (by omega)]
theorem tail_app (a b : ByteArray) (i : Nat) (h : a.size = i) : (a ++ b).extract i (a ++ b).size = b := by
  subst h
  apply by_ext
  · rw [ByteArray.size_extract, ByteArray.size_append]; omega
  · intro k hk
    rw [ByteArray.size_extract, ByteArray.size_append] at hk
    rw [by_ex _ _ _ _ (Nat.le_refl _) (by rw [ByteArray.size_append]; omega), by_app, if_neg (by omega)]
    congr 1; omega
theorem parse_good {s : ByteArray} {N : Nat} (h : ParseIs s N 0) : 0 < s.size ∧ goodTo s s.size := by
  have h1 : 0 < s.size := by
    rcases Nat.eq_zero_or_pos s.size with h' | h'
    · have := (h.short h').2; omega
    · exact h'
  have h2 : s.size ≤ 400 := by
    rcases Nat.lt_or_ge 400 s.size with h' | h'
    · have := (h.long h').2; omega
    · exact h'
  exact ⟨h1, Classical.byContradiction fun h' => by have := (h.bad h1 h2 h').2; omega⟩
/-- What is read was written. -/
theorem fp_fmt {s : ByteArray} {x : Fq} {c : Int} (h : FP s x c) (hc : c = 0) : x.fmt = s := by
  cases h with
  | num h ha h0 => exact absurd hc h0
  | den h ha hb h0 => exact absurd hc h0
  | bad h ha hb hv => cases hc
  | good h ha hb hv =>
    rename_i t B F a b M N
    have ht : (if parseQ F N = 1 then fmtB M else fmtB M ++ (({ data := #[47] } : ByteArray) ++ fmtB (parseQ F N))) = t := by
      cases F with
      | true =>
        have hn : N ≠ 1 := by
          have h2 : (!decide (N = 1) && (Fq.mk B M N).valid) = true := hv
          rw [Bool.and_eq_true] at h2
          simpa using h2.1
        show (if N = 1 then _ else _ ++ (_ ++ fmtB N)) = t
        rw [if_neg hn, parse_fmt ha, parse_fmt (hb rfl)]
        obtain ⟨i, h1, rfl, rfl⟩ := h.hit rfl
        exact glue h1.1 h1.2.1
      | false =>
        show (if (1 : Nat) = 1 then _ else _) = t
        rw [if_pos rfl, parse_fmt ha]
        exact (h.miss rfl).2.1
    unfold Fq.fmt
    simp only
    rw [ht]
    have h1 := h.sign
    have h2 := h.rest
    cases B with
    | true =>
      rw [if_pos rfl] at h2 ⊢
      rw [h2]
      have := of_decide_eq_true h1
      exact glue0 this.1 this.2
    | false => rw [if_neg Bool.false_ne_true] at h2 ⊢; exact h2
/-- What is written is read. -/
theorem fmt_fp {x : Fq} (hv : x.valid = true) (hp : nl x.p ≤ 12) (hq : nl x.q ≤ 12) : FP x.fmt x 0 := by
  obtain ⟨S, p, q⟩ := x
  have ha := fmt_parses p hp
  have hb := fmt_parses q hq
  obtain ⟨a1, a2⟩ := parse_good ha
  obtain ⟨b1, b2⟩ := parse_good hb
  obtain ⟨t, ht⟩ : ∃ t, t = if q = 1 then fmtB p else fmtB p ++ (({ data := #[47] } : ByteArray) ++ fmtB q) := ⟨_, rfl⟩
  have t0 : 0 < t.size ∧ by' t 0 ≠ 45 := by
    have h0 := a2 0 a1
    rw [ht]
    split
    · exact ⟨a1, by omega⟩
    · rw [ByteArray.size_append, by_app, if_pos a1]; exact ⟨by omega, by omega⟩
  have hs47 : ({ data := #[47] } : ByteArray).size = 1 := rfl
  have hs45 : ({ data := #[45] } : ByteArray).size = 1 := rfl
  obtain ⟨s, hs⟩ : ∃ s, s = if S then ({ data := #[45] } : ByteArray) ++ t else t := ⟨_, rfl⟩
  have hfmt : (Fq.mk S p q).fmt = s := by unfold Fq.fmt; rw [hs, ht]
  rw [hfmt]
  have hP : Pieces s t S (decide (q ≠ 1)) (fmtB p) (if q = 1 then { data := #[] } else fmtB q) := by
    refine ⟨?_, ?_, fun hF => ?_, fun hF => ?_⟩
    · rw [hs]
      cases S with
      | true => rw [if_pos rfl]; apply decide_eq_true; refine ⟨by rw [ByteArray.size_append, hs45]; omega, ?_⟩; rw [by_app, hs45, if_pos (by omega)]; rfl
      | false => rw [if_neg Bool.false_ne_true]; exact decide_eq_false (fun h => t0.2 h.2)
    · rw [hs]
      cases S with
      | true => rw [if_pos rfl, if_pos rfl]; exact (tail_app _ _ 1 hs45).symm
      | false => rw [if_neg Bool.false_ne_true, if_neg Bool.false_ne_true]
    · have hq1 : q ≠ 1 := of_decide_eq_true hF
      rw [if_neg hq1] at ht ⊢
      refine ⟨(fmtB p).size, ⟨?_, ?_, fun j hj => ?_⟩, ?_, ?_⟩
      · rw [ht, ByteArray.size_append, ByteArray.size_append, hs47]; omega
      · rw [ht, by_app, if_neg (by omega), Nat.sub_self, by_app, hs47, if_pos (by omega)]; rfl
      · rw [ht, by_app, if_pos hj]; have := a2 j hj; omega
      · rw [ht]; exact (cut_app _ _ _ rfl).symm
      · rw [ht, ← ByteArray.append_assoc]
        refine (tail_app _ _ _ ?_).symm
        rw [ByteArray.size_append, hs47]
    · have hq1 : q = 1 := Classical.byContradiction fun h => by rw [decide_eq_true h] at hF; cases hF
      rw [if_pos hq1] at ht ⊢
      refine ⟨fun j hj => ?_, ht.symm, rfl⟩
      rw [ht] at hj ⊢
      have := a2 j hj; omega
  by_cases hq1 : q = 1
  · have hF : decide (q ≠ 1) = false := decide_eq_false (fun h => h hq1)
    rw [hF, if_pos hq1] at hP
    subst hq1
    exact FP.good (N := 1) hP ha (fun h => by cases h) hv
  · have hF : decide (q ≠ 1) = true := decide_eq_true hq1
    rw [hF, if_neg hq1] at hP
    exact FP.good hP ha (fun _ => hb) (by show (!decide (q = 1) && (Fq.mk S p q).valid) = true; rw [decide_eq_false hq1, hv]; rfl)
/-- What is read is small. -/
theorem fp_ok {s : ByteArray} {x : Fq} {c : Int} (h : FP s x c) : nl x.p ≤ 400 ∧ nl x.q ≤ 400 ∧ (c = 0 → x.q ≠ 0) := by
  cases h with
  | num h ha h0 => exact ⟨by decide, by decide, fun h => absurd h h0⟩
  | den h ha hb h0 => exact ⟨by decide, by decide, fun h => absurd h h0⟩
  | bad h ha hb hv => exact ⟨by decide, by decide, fun h => (by cases h)⟩
  | good h ha hb hv =>
    rename_i t B F a b M N
    refine ⟨parse_nlU ha, ?_, fun _ => ?_⟩
    · cases F with
      | true => exact parse_nlU (hb rfl)
      | false => exact show nl 1 ≤ 400 by decide
    · cases F with
      | true =>
        have h2 : (!decide (N = 1) && (Fq.mk B M N).valid) = true := hv
        rw [Bool.and_eq_true] at h2
        exact (of_decide_eq_true h2.2).1
      | false => exact Nat.one_ne_zero
end Go.Proofs.Ytldnimohnbjfaaa
