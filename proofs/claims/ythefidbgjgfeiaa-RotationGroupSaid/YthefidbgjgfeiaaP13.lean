/- What an argument that is an array of small numbers is. -/
import Derived.Test.YthefidbgjgfeiaaP12
namespace Go.Proofs.Ythefidbgjgfeiaa
set_option linter.unusedSimpArgs false
set_option linter.unusedVariables false
set_option maxRecDepth 100000
open Go.RowKit
open Go.ChangeShapes Go.WideShapes Go.ChangeAt Go.RowKit
def SmallCells (cs : List Value) : Prop := ∀ u ∈ cs, ∃ z : Int, u = .int .i8 z ∧ -128 ≤ z ∧ z ≤ 127
section
variable {H : Type} {enc : TypeId × Value → H} {W : World}
theorem small_cell {fuel : Nat} {cs : List Value} {x : DataW H × List MemPlace} (h : DataW.trod enc Try.prog W 0 (fun _ => true) true fuel 22 cs = some x) (hl : cs.length = 1) : SmallCells cs := by
  match cs, hl with
  | [u], _ =>
    obtain ⟨z, g, _, hw⟩ := DataW.trod_int Try.underlying22 h
    simp only [Lit.wf, Bool.and_eq_true, decide_eq_true_eq] at hw
    have h1 : IntKind.i8.min = -128 := by decide +kernel
    have h2 : IntKind.i8.max = 127 := by decide +kernel
    intro v hv
    simp only [List.mem_singleton] at hv
    subst hv
    exact ⟨z, by simpa using g, by omega, by omega⟩
theorem small_array {t e : TypeId} {n c : Nat} (ht : Try.prog.underlying t = some (.array n e)) (hce : Try.prog.cellsOf e = c) (hct : Try.prog.cellsOf t = n * c)
    (he : ∀ fuel (cs : List Value) x, DataW.trod enc Try.prog W 0 (fun _ => true) true fuel e cs = some x → cs.length = c → SmallCells cs) {fuel : Nat} {cs : List Value} {x : DataW H × List MemPlace}
    (h : DataW.trod enc Try.prog W 0 (fun _ => true) true fuel t cs = some x) : SmallCells cs := by
  obtain ⟨xs, m, _, _, hlen, hxs, hg⟩ := DataW.trod_array ht h
  rw [hct] at hlen
  rw [hce] at hg
  intro u hu
  obtain ⟨k, hk, rfl⟩ := List.getElem_of_mem hu
  have hc0 : 0 < c := by
    rcases Nat.eq_zero_or_pos c with h | h
    · rw [h, Nat.mul_zero] at hlen; omega
    · exact h
  have hi : k / c < n := (Nat.div_lt_iff_lt_mul hc0).2 (by rw [← hlen]; exact hk)
  have h1 := hg (k / c) hi
  rw [List.getElem?_eq_getElem (by rw [hxs]; exact hi)] at h1
  have hm := Nat.div_add_mod k c
  have hj := Nat.mod_lt k hc0
  have hnc : k / c * c + c ≤ n * c := by rw [← Nat.succ_mul]; exact Nat.mul_le_mul_right c hi
  have hkc : k / c * c + k % c = k := by rw [Nat.mul_comm]; exact hm
  refine he _ _ _ h1 (by simp; omega) _ ?_
  refine List.mem_iff_getElem?.2 ⟨k % c, ?_⟩
  rw [List.getElem?_take, if_pos hj, List.getElem?_drop, hkc]
  exact List.getElem?_eq_getElem hk
theorem open_small {t : TypeId} {n : Nat} {v : Value} {d : DataW H} {p : List MemPlace} {base : Nat} (ht : ∃ k e, Try.prog.underlying t = some (.array k e)) (hn : Try.prog.cellsOf t = n)
    (he : ∀ fuel (cs : List Value) x, DataW.trod enc Try.prog W 0 (fun _ => true) true fuel t cs = some x → SmallCells cs)
    (hval : Value.okWide Try.prog W .any base t v) (h : DataW.Trod enc Try.prog W 0 (fun _ => true) true t v d p) : ∃ cs : List Value, v = .agg cs.toArray ∧ cs.length = n ∧ SmallCells cs := by
  obtain ⟨k, e, hu⟩ := ht
  unfold Value.okWide at hval
  rw [hu] at hval
  obtain ⟨cs, rfl, hcs, _⟩ := hval
  obtain ⟨fuel, hf⟩ := h
  exact ⟨cs.toList, by simp, by simp [hcs, hn], he _ _ _ (by simpa [Value.cells] using hf)⟩
theorem small_part {fuel : Nat} {cs : List Value} {x : DataW H × List MemPlace} (h : DataW.trod enc Try.prog W 0 (fun _ => true) true fuel 24 cs = some x) : SmallCells cs :=
  small_array (c := 1) (n := 2) Try.underlying24 (by kernel_rfl) (by kernel_rfl) (fun _ _ _ h hl => small_cell h hl) h
theorem small_part4 {fuel : Nat} {cs : List Value} {x : DataW H × List MemPlace} (h : DataW.trod enc Try.prog W 0 (fun _ => true) true fuel 25 cs = some x) : SmallCells cs :=
  small_array (c := 2) (n := 4) Try.underlying25 (by kernel_rfl) (by kernel_rfl) (fun _ _ _ h _ => small_part h) h
theorem open_small_part4 {v : Value} {d : DataW H} {p : List MemPlace} {base : Nat} (hval : Value.okWide Try.prog W .any base 25 v) (h : DataW.Trod enc Try.prog W 0 (fun _ => true) true 25 v d p) :
    ∃ z0 z1 z2 z3 z4 z5 z6 z7 : Int, v = .agg #[.int .i8 z0, .int .i8 z1, .int .i8 z2, .int .i8 z3, .int .i8 z4, .int .i8 z5, .int .i8 z6, .int .i8 z7] ∧ (-128 ≤ z0 ∧ z0 ≤ 127) ∧ (-128 ≤ z1 ∧ z1 ≤ 127) ∧ (-128 ≤ z2 ∧ z2 ≤ 127) ∧ (-128 ≤ z3 ∧ z3 ≤ 127) ∧ (-128 ≤ z4 ∧ z4 ≤ 127) ∧ (-128 ≤ z5 ∧ z5 ≤ 127) ∧ (-128 ≤ z6 ∧ z6 ≤ 127) ∧ (-128 ≤ z7 ∧ z7 ≤ 127) := by
  obtain ⟨cs, rfl, hl, hs⟩ := open_small (n := 8) ⟨_, _, Try.underlying25⟩ (by kernel_rfl) (fun _ _ _ h => small_part4 h) hval h
  match cs, hl with
  | [uz0, uz1, uz2, uz3, uz4, uz5, uz6, uz7], _ =>
    obtain ⟨z0, ez0, bz0⟩ := hs uz0 (by simp)
    obtain ⟨z1, ez1, bz1⟩ := hs uz1 (by simp)
    obtain ⟨z2, ez2, bz2⟩ := hs uz2 (by simp)
    obtain ⟨z3, ez3, bz3⟩ := hs uz3 (by simp)
    obtain ⟨z4, ez4, bz4⟩ := hs uz4 (by simp)
    obtain ⟨z5, ez5, bz5⟩ := hs uz5 (by simp)
    obtain ⟨z6, ez6, bz6⟩ := hs uz6 (by simp)
    obtain ⟨z7, ez7, bz7⟩ := hs uz7 (by simp)
    subst ez0 ez1 ez2 ez3 ez4 ez5 ez6 ez7
    exact ⟨z0, z1, z2, z3, z4, z5, z6, z7, rfl, bz0, bz1, bz2, bz3, bz4, bz5, bz6, bz7⟩
end
end Go.Proofs.Ythefidbgjgfeiaa
