/- Decimal texts: what is formatted is parsed as it was, and what is parsed is formatted as it was. -/
import Derived.Test.YthpndmamegfbkaaEB
namespace Go.Proofs.Ythpndmamegfbkaa
set_option linter.unusedSimpArgs false
set_option linter.unusedVariables false
open Go.RowKit
theorem by_list (l : List UInt8) (i : Nat) : by' ⟨l.toArray⟩ i = (l[i]?.map UInt8.toNat).getD 0 := by
  unfold by'
  by_cases h : i < l.length
  · have h' : i < (ByteArray.mk l.toArray).size := by simpa [ByteArray.size] using h
    rw [dif_pos h']
    simp [h]
    rfl
  · have h' : ¬ i < (ByteArray.mk l.toArray).size := by simpa [ByteArray.size] using h
    rw [dif_neg h', List.getElem?_eq_none (by omega)]
    rfl
theorem parseVal_congr {s t : ByteArray} : ∀ k, (∀ j, j < k → by' s j = by' t j) → parseVal s k = parseVal t k
  | 0, _ => rfl
  | k + 1, h => by
    show 10 * parseVal s k + (by' s k - 48) = 10 * parseVal t k + (by' t k - 48)
    rw [parseVal_congr k (fun j hj => h j (by omega)), h k (by omega)]
theorem digit_byte (d : Nat) (h : d ≤ 9) : (UInt8.ofNat (48 + d)).toNat = 48 + d := by rw [UInt8.toNat_ofNat']; omega
theorem by_snoc_lt (l : List UInt8) (b : UInt8) (j : Nat) (h : j < l.length) : by' ⟨(l ++ [b]).toArray⟩ j = by' ⟨l.toArray⟩ j := by
  rw [by_list, by_list, List.getElem?_append_left h]
theorem by_snoc_eq (l : List UInt8) (b : UInt8) : by' ⟨(l ++ [b]).toArray⟩ l.length = b.toNat := by
  rw [by_list]; simp
/-- The digits of N, read as a number, are N; all are digits; the first is not 0. -/
theorem dec_read : ∀ (n N : Nat), N ≤ n → N ≠ 0 → parseVal ⟨(decB N).reverse.toArray⟩ (decB N).length = N ∧ goodTo ⟨(decB N).reverse.toArray⟩ (decB N).length ∧ by' ⟨(decB N).reverse.toArray⟩ 0 ≠ 48 ∧ 0 < (decB N).length
  | 0, N, h, h0 => by omega
  | n + 1, N, h, h0 => by
    have hd := digit_byte (N % 10) (by omega)
    rw [decB_pos h0, List.reverse_cons, List.length_cons]
    by_cases hz : N / 10 = 0
    · have hN : N ≤ 9 := by omega
      rw [hz, decB_zero]
      have e := by_snoc_eq [] (UInt8.ofNat (48 + N % 10))
      rw [hd] at e
      simp only [List.reverse_nil, List.length_nil] at e ⊢
      refine ⟨?_, ?_, ?_, by omega⟩
      · show 10 * 0 + (by' _ 0 - 48) = N
        rw [e]; omega
      · intro j hj
        obtain rfl : j = 0 := by omega
        rw [e]; omega
      · rw [e]; omega
    · obtain ⟨i1, i2, i3, i4⟩ := dec_read n (N / 10) (by omega) hz
      have hlt : ∀ j, j < (decB (N / 10)).length → by' ⟨((decB (N / 10)).reverse ++ [UInt8.ofNat (48 + N % 10)]).toArray⟩ j = by' ⟨(decB (N / 10)).reverse.toArray⟩ j := fun j hj => by_snoc_lt _ _ j (by simpa using hj)
      have heq : by' ⟨((decB (N / 10)).reverse ++ [UInt8.ofNat (48 + N % 10)]).toArray⟩ (decB (N / 10)).length = 48 + N % 10 := by
        have := by_snoc_eq (decB (N / 10)).reverse (UInt8.ofNat (48 + N % 10))
        rw [List.length_reverse, hd] at this
        exact this
      refine ⟨?_, ?_, ?_, by omega⟩
      · show 10 * parseVal _ (decB (N / 10)).length + (by' _ (decB (N / 10)).length - 48) = N
        rw [parseVal_congr _ hlt, i1, heq]; omega
      · intro j hj
        rcases Nat.lt_or_ge j (decB (N / 10)).length with h' | h'
        · rw [hlt j h']; exact i2 j h'
        · obtain rfl : j = (decB (N / 10)).length := by omega
          rw [heq]; omega
      · rw [hlt 0 i4]; exact i3
theorem fmt_parses (N : Nat) (h : nl N ≤ 12) : ParseIs (fmtB N) N 0 := by
  by_cases h0 : N = 0
  · subst h0
    have e : fmtB 0 = ⟨#[48]⟩ := by unfold fmtB; rw [if_pos rfl]
    rw [e]
    refine ⟨fun h => absurd h (by decide), fun h => absurd h (by decide), fun h => absurd h (by decide), fun _ _ h => absurd (by decide : ∀ j, j < 1 → _) h, fun _ _ _ _ => ⟨by decide, rfl⟩⟩
  · have e : fmtB N = ⟨(decB N).reverse.toArray⟩ := by unfold fmtB; rw [if_neg h0]
    have hsz : (fmtB N).size = (decB N).length := by rw [e]; simp [ByteArray.size]
    obtain ⟨i1, i2, i3, i4⟩ := dec_read N N (Nat.le_refl _) h0
    have hb := decB_bound N
    rw [← e] at i1 i2 i3
    refine ⟨fun h => by omega, fun h => by omega, fun _ _ h => absurd h i3, fun _ _ h => absurd (by rw [hsz]; exact i2) h, fun _ _ _ _ => ⟨by rw [hsz, i1], rfl⟩⟩
/-- The first k bytes of s, the last one first. -/
def firsts (s : ByteArray) (k : Nat) : List UInt8 := (List.range k).reverse.map fun j => UInt8.ofNat (by' s j)
theorem firsts_succ (s : ByteArray) (k : Nat) : firsts s (k + 1) = UInt8.ofNat (by' s k) :: firsts s k := by
  unfold firsts; rw [List.range_succ, List.reverse_append]; rfl
theorem read_dec (s : ByteArray) (h0 : by' s 0 ≠ 48) : ∀ k, goodTo s (k + 1) → parseVal s (k + 1) ≠ 0 ∧ decB (parseVal s (k + 1)) = firsts s (k + 1)
  | 0, hg => by
    have h1 := hg 0 (by omega)
    have e : parseVal s (0 + 1) = by' s 0 - 48 := by show 10 * 0 + (by' s 0 - 48) = _; omega
    have hne : parseVal s (0 + 1) ≠ 0 := by rw [e]; omega
    refine ⟨hne, ?_⟩
    rw [decB_pos hne, firsts_succ, e]
    have h2 : (by' s 0 - 48) / 10 = 0 := by omega
    have h3 : 48 + (by' s 0 - 48) % 10 = by' s 0 := by omega
    rw [h2, h3, decB_zero]
    rfl
  | k + 1, hg => by
    obtain ⟨i1, i2⟩ := read_dec s h0 k (fun j hj => hg j (by omega))
    have h1 := hg (k + 1) (by omega)
    have e : parseVal s (k + 1 + 1) = 10 * parseVal s (k + 1) + (by' s (k + 1) - 48) := rfl
    have hne : parseVal s (k + 1 + 1) ≠ 0 := by rw [e]; omega
    refine ⟨hne, ?_⟩
    rw [decB_pos hne, firsts_succ, e]
    have h2 : (10 * parseVal s (k + 1) + (by' s (k + 1) - 48)) / 10 = parseVal s (k + 1) := by omega
    have h3 : 48 + (10 * parseVal s (k + 1) + (by' s (k + 1) - 48)) % 10 = by' s (k + 1) := by omega
    rw [h2, h3, i2]
theorem firsts_all (l : List UInt8) : firsts ⟨l.toArray⟩ l.length = l.reverse := by
  unfold firsts
  rw [List.map_reverse]
  apply congrArg List.reverse
  apply List.ext_getElem
  · simp
  · intro i h1 h2
    simp only [List.getElem_map, List.getElem_range, by_list, List.getElem?_eq_getElem h2, Option.map_some, Option.getD_some]
    exact UInt8.ofNat_toNat
theorem parse_fmt {s : ByteArray} {N : Nat} (h : ParseIs s N 0) : fmtB N = s := by
  obtain ⟨l, rfl⟩ : ∃ l : List UInt8, s = ⟨l.toArray⟩ := ⟨s.data.toList, by cases s; simp⟩
  have hsz : (ByteArray.mk l.toArray).size = l.length := by simp [ByteArray.size]
  have h1 : 0 < l.length := by
    rcases Nat.eq_zero_or_pos l.length with h' | h'
    · have := (h.short (by rw [hsz]; exact h')).2; omega
    · exact h'
  have h2 : l.length ≤ 400 := by
    rcases Nat.lt_or_ge 400 l.length with h' | h'
    · have := (h.long (by rw [hsz]; exact h')).2; omega
    · exact h'
  have hg : goodTo ⟨l.toArray⟩ l.length := Classical.byContradiction fun h' => by
    have := (h.bad (by omega) (by omega) (by rw [hsz]; exact h')).2; omega
  by_cases hz : by' ⟨l.toArray⟩ 0 = 48
  · have hl : l.length = 1 := by
      rcases Nat.lt_or_ge 1 l.length with h' | h'
      · have := (h.zero (by omega) (by omega) hz).2; omega
      · omega
    obtain ⟨b, rfl⟩ : ∃ b, l = [b] := List.length_eq_one_iff.1 hl
    have hb : b.toNat = 48 := by have := by_snoc_eq [] b; simp at this; rw [← this]; exact hz
    have hN := (h.good (by omega) (by omega) (fun _ => by omega) (by rw [hsz]; exact hg)).1
    have hN0 : N = 0 := by
      rw [hN, hsz]
      show 10 * 0 + (by' _ 0 - 48) = 0
      rw [hz]
    have hb' : b = 48 := UInt8.toNat_inj.1 hb
    rw [hN0, hb']
    unfold fmtB
    rw [if_pos rfl]
  · obtain ⟨k, hk⟩ : ∃ k, l.length = k + 1 := ⟨l.length - 1, by omega⟩
    have hN := (h.good (by omega) (by omega) (fun h' => absurd h' hz) (by rw [hsz]; exact hg)).1
    rw [hsz, hk] at hN
    obtain ⟨i1, i2⟩ := read_dec ⟨l.toArray⟩ hz k (by rw [← hk]; exact hg)
    rw [← hN] at i1 i2
    unfold fmtB
    rw [if_neg i1, i2, ← hk, firsts_all, List.reverse_reverse]
end Go.Proofs.Ythpndmamegfbkaa
