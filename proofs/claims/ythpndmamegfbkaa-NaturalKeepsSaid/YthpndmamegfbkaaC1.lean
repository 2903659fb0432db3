/- What an argument of type api.Nat is: a row of digits. -/
import Derived.Test.YthpndmamegfbkaaF6
import Derived.WalkKit
import Derived.ProofKit
import Derived.OpenShut
import Derived.ShutString
import Derived.ChangeOld
import Derived.Below
namespace Go.Proofs.Ythpndmamegfbkaa
set_option linter.unusedSimpArgs false
set_option linter.unusedVariables false
open Go.RowKit
open Go.ChangeShapes Go.WideShapes Go.ChangeAt Go.RowKit
theorem digits_exist (f : Nat → Nat) (hf : ∀ j, f j < 4294967296) : ∀ L, ∃ N, N < 4294967296 ^ L ∧ ∀ j, j < L → D N j = f j
  | 0 => ⟨0, by simp, fun j h => by omega⟩
  | L + 1 => by
    obtain ⟨N, h1, h2⟩ := digits_exist f hf L
    refine ⟨upd N L (f L), upd_lt (Nat.lt_of_lt_of_le h1 (Nat.pow_le_pow_right (by decide) (Nat.le_succ L))) (Nat.lt_succ_self L) (hf L), fun j hj => ?_⟩
    by_cases e : j = L
    · subst e; exact D_upd_same N j (f j) (hf j)
    · rw [D_upd_other N L (f L) j (hf L) e]; exact h2 j (by omega)
theorem open_nat {H : Type} {enc : TypeId × Value → H} {W : World} {base : Nat} {v : Value} {d : DataW H} {p : List MemPlace} (hval : Value.okWide Try.prog W .any base 24 v) (h : DataW.Trod enc Try.prog W 0 (fun _ => true) true 24 v d p) :
    ∃ L m, IsR W v L m ∧ L ≤ 9223372036854775807 := by
  obtain ⟨cs, rfl, hcs⟩ := okWide_struct Try.underlying24 hval
  obtain ⟨fuel, hf⟩ := h
  obtain ⟨y0, n, hy, hl0, h1⟩ := trod_struct1 Try.underlying24 hf
  have hc : Try.prog.cellsOf 24 = 1 := by kernel_rfl
  have hc2 : Try.prog.cellsOf 22 = 1 := by kernel_rfl
  have hone : ∃ u, cs = #[u] := by
    rw [hc] at hcs
    exact ⟨cs[0], by apply Array.ext; · simp [hcs]
                     · intro i h1 h2; simp at h2; subst h2; rfl⟩
  obtain ⟨u, rfl⟩ := hone
  simp [Value.cells, hc2] at h1
  rcases open_ints Try.underlying22 Try.underlying42 (by kernel_rfl) h1 with ⟨hcs, _⟩ | ⟨x, l, c, zs, hcs, _, hl, hm, hz, _, hcell, hwz⟩
  · simp at hcs
    subst hcs
    exact ⟨0, 0, ⟨none, 0, rfl, Nat.le_refl _, by simp, fun h => by omega⟩, by decide⟩
  · simp at hcs
    subst hcs
    obtain ⟨N, hN, hD⟩ := digits_exist (fun j => (zs.getD j 0).toNat) (fun j => by
      have := range_u32 hwz j
      have e : zs.getD j 0 = zs[j]?.getD 0 := by simp
      rw [e]; omega) l
    refine ⟨l, N, ⟨some x, c, rfl, hl, hN, fun h0 => ?_⟩, by simp only [maxLen] at hm; omega⟩
    obtain ⟨b, off, spot⟩ := x
    have hc0 := hcell 0 (by rw [hz]; simp; omega)
    have hspot : spot = none := by simpa [Addr.add] using World.cell?_spot hc0
    subst hspot
    refine ⟨b, off, rfl, fun j hj => ?_⟩
    have h2 := hcell j (by rw [hz]; simp; omega)
    have hadd : (⟨b, off, none⟩ : Addr).add j = ⟨b, off + j, none⟩ := by unfold Addr.add; split <;> simp_all
    rw [hadd] at h2
    rw [h2, hD j hj]
    have := range_u32 hwz j
    have e : zs.getD j 0 = zs[j]?.getD 0 := by simp
    rw [e, Int.toNat_of_nonneg this.1]
end Go.Proofs.Ythpndmamegfbkaa
