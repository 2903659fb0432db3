/- What an argument of type api.Nat is: a row of digits. What an argument of type api.Frac is: a sign and two rows of digits. -/
import Derived.Test.YtldnimohnbjfaaaP16
import Derived.WalkKit
import Derived.ProofKit
import Derived.OpenShut
import Derived.ShutString
import Derived.ChangeOld
import Derived.Below
import Derived.Deep.Strs
namespace Go.Proofs.Ytldnimohnbjfaaa
set_option linter.unusedSimpArgs false
set_option linter.unusedVariables false
set_option maxRecDepth 100000
open Go.RowKit
open Go.ChangeShapes Go.WideShapes Go.ChangeAt Go.RowKit
theorem digits_exist (f : Nat → Nat) (hf : ∀ j, f j < 4294967296) : ∀ L, ∃ N, N < 4294967296 ^ L ∧ ∀ j, j < L → D N j = f j
  | 0 => ⟨0, by simp, fun j h => by omega⟩
  | L + 1 => by
    obtain ⟨N, h1, h2⟩ := digits_exist f hf L
    refine ⟨upd N L (f L), upd_lt (Nat.lt_of_lt_of_le h1 (Nat.pow_le_pow_right (by decide) (Nat.le_succ L))) (Nat.lt_succ_self L) (hf L), fun j hj => ?_⟩
    by_cases e : j = L
    · subst e; exact D_upd_same N j (f j) (hf j)
    · rw [D_upd_other N L (f L) j (hf L) e]; exact h2 j (by omega)
end Go.Proofs.Ytldnimohnbjfaaa
namespace Go.Proofs.Ytldnimohnbjfaaa
set_option linter.unusedSimpArgs false
set_option linter.unusedVariables false
set_option maxRecDepth 100000
open Go.RowKit
open Go.ChangeShapes Go.WideShapes Go.ChangeAt Go.RowKit
theorem open_natc {H : Type} {enc : TypeId × Value → H} {W : World} {fuel : Nat} {u : Value} {x : DataW H × List MemPlace} (hf : DataW.trod enc Try.prog W 0 (fun _ => true) true fuel 24 [u] = some x) :
    ∃ a L cap m, u = .slice a L cap ∧ IsR W (.agg #[.slice a L cap]) L m ∧ L ≤ 9223372036854775807 := by
  obtain ⟨y0, n, hy, hl0, h1⟩ := trod_struct1 Try.underlying24 hf
  have hc2 : Try.prog.cellsOf 22 = 1 := by kernel_rfl
  simp [hc2] at h1
  rcases open_ints Try.underlying22 Try.underlying69 (by kernel_rfl) h1 with ⟨hcs, _⟩ | ⟨x, l, c, zs, hcs, _, hl, hm, hz, _, hcell, hwz⟩
  · simp at hcs
    subst hcs
    exact ⟨none, 0, 0, 0, rfl, ⟨none, 0, rfl, Nat.le_refl _, by simp, fun h => by omega⟩, by decide⟩
  · simp at hcs
    subst hcs
    obtain ⟨N, hN, hD⟩ := digits_exist (fun j => (zs.getD j 0).toNat) (fun j => by
      have := range_u32 hwz j
      have e : zs.getD j 0 = zs[j]?.getD 0 := by simp
      rw [e]; omega) l
    refine ⟨some x, l, c, N, rfl, ⟨some x, c, rfl, hl, hN, fun h0 => ?_⟩, by simp only [maxLen] at hm; omega⟩
    obtain ⟨b, off, spot⟩ := x
    have hc0 := hcell 0 (by rw [hz]; simp; omega)
    have hspot : spot = none := by simpa [Addr.add] using World.cell?_spot hc0
    subst hspot
    refine ⟨b, off, rfl, fun j hj => ?_⟩
    have h2 := hcell j (by rw [hz]; simp; omega)
    have hadd : (⟨b, off, none⟩ : Addr).add j = ⟨b, off + j, none⟩ := by unfold Addr.add; split <;> simp_all
    rw [hadd] at h2
    rw [h2, hD j hj]
    have := range_u32 hwz j
    have e : zs.getD j 0 = zs[j]?.getD 0 := by simp
    rw [e, Int.toNat_of_nonneg this.1]
theorem three {α : Type} {cs : Array α} (h : cs.size = 3) : ∃ a b c, cs = #[a, b, c] :=
  ⟨cs[0], cs[1], cs[2], by
    apply Array.ext
    · simp [h]
    · intro i h1 h2
      have : i = 0 ∨ i = 1 ∨ i = 2 := by omega
      rcases this with rfl | rfl | rfl <;> rfl⟩
theorem open_frac {H : Type} {enc : TypeId × Value → H} {W : World} {base : Nat} {v : Value} {d : DataW H} {p : List MemPlace} (hval : Value.okWide Try.prog W .any base 26 v) (h : DataW.Trod enc Try.prog W 0 (fun _ => true) true 26 v d p) :
    ∃ s L m N k, IsFR W v s L m N k ∧ L ≤ 9223372036854775807 ∧ N ≤ 9223372036854775807 := by
  obtain ⟨cs, rfl, hcs⟩ := okWide_struct Try.underlying26 hval
  obtain ⟨fuel, hf⟩ := h
  have hc : Try.prog.cellsOf 26 = 3 := by kernel_rfl
  have hcn : Try.prog.cellsOf 24 = 1 := by kernel_rfl
  have hcb : Try.prog.cellsOf 4 = 1 := by kernel_rfl
  rw [hc] at hcs
  obtain ⟨u0, u1, u2, rfl⟩ := three hcs
  obtain ⟨y0, y1, y2, n, hy, hl0, h0, h1, h2⟩ := Go.Deep.trod_struct3 Try.underlying26 hf
  simp [Value.cells, hcn, hcb] at h0 h1 h2
  obtain ⟨s, h3, _⟩ := DataW.trod_bool Try.underlying4 h0
  obtain rfl : u0 = .bool s := by simpa using h3
  obtain ⟨a, L, c, m, rfl, i1, l1⟩ := open_natc h1
  obtain ⟨a', N, c', k, rfl, i2, l2⟩ := open_natc h2
  exact ⟨s, L, m, N, k, ⟨a, c, a', c', rfl, i1, i2⟩, l1, l2⟩
end Go.Proofs.Ytldnimohnbjfaaa
