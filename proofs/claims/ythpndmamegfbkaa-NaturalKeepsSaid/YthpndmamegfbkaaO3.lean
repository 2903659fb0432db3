/- A row of bytes that is made whole. -/
import Derived.Test.YthpndmamegfbkaaO1
namespace Go.Proofs.Ythpndmamegfbkaa
set_option linter.unusedSimpArgs false
set_option linter.unusedVariables false
open Go.RowKit
def OwnB (w : World) (g : Nat) (l : List UInt8) : Prop := ∃ cur : Array Value, w.heap[g]? = some (.cells cur 5 (0, 0)) ∧ cur.toList = bL l
def zrow8 (n : Nat) : Obj := .cells (madeCells #[.int .u8 0] n) 5
theorem OwnB.made (w : World) (n : Nat) : OwnB (w.alloc (zrow8 n)) w.heap.size (List.replicate n 0) := by
  refine ⟨madeCells #[.int .u8 0] n, heap_alloc_new w _, ?_⟩
  simp only [madeCells, Array.toList_map, Array.toList_range, bL]
  apply List.ext_getElem
  · simp
  · intro i h1 h2
    simp [Nat.mod_one]
theorem OwnB.lt {w : World} {g : Nat} {l : List UInt8} (h : OwnB w g l) : g < w.heap.size := by
  obtain ⟨cur, hg, _⟩ := h
  exact (Array.getElem?_eq_some_iff.1 hg).1
theorem OwnB.cell {w : World} {g : Nat} {l : List UInt8} (h : OwnB w g l) {p : Nat} (hp : p < l.length) : w.cell? ⟨g, p, none⟩ = some (.int .u8 ((l[p]'hp).toNat : Int)) := by
  obtain ⟨cur, hg, hc⟩ := h
  rw [cell_of_row w g p cur _ (0, 0) hg, ← Array.getElem?_toList, hc]
  simp [bL, hp]
theorem OwnB.frozen {w : World} {g : Nat} {l : List UInt8} (h : OwnB w g l) (p : Nat) : w.frozen? ⟨g, p, none⟩ = false := by
  obtain ⟨cur, hg, hc⟩ := h
  exact frozen_of_row w g p cur _ hg
theorem OwnB.store {w : World} {g p : Nat} {l : List UInt8} {b : UInt8} (h : OwnB w g l) : OwnB (w.setCell ⟨g, p, none⟩ (.int .u8 (b.toNat : Int))) g (l.set p b) := by
  obtain ⟨cur, hg, hc⟩ := h
  refine ⟨cur.setIfInBounds p (.int .u8 (b.toNat : Int)), heap_setCell_same w g p cur _ _ hg, ?_⟩
  rw [Array.toList_setIfInBounds, hc]
  simp [bL, List.map_set]
theorem wpList_make_bytes {w : World} {ops : Array Oper} {rest : List Oper} {o : Oper} {a : Act} {Q : Exit → Act → World → Prop}
    (hg : o.guard = none) (l c : Operand) (hop : o.op = Op.makeSlice 61 l c)
    (kl kc : IntKind) (L C : Int) (n : Nat) (hl : a.eval l = .int kl L) (hc : a.eval c = .int kc C) (hL : L = (n : Int)) (hC : C = (n : Int)) (hn : n ≤ 60000000000000)
    (hK : wpList Try.prog ops Q rest (a.put o.dst (.slice (some ⟨w.heap.size, 0, none⟩) n n)) (w.alloc (zrow8 n))) :
    wpList Try.prog ops Q (o :: rest) a w := by
  refine wpList_plain hg fun K hK' => ?_
  obtain ⟨i, hi, hz0, hz1, hz2⟩ := info_parts infoU8
  subst hL; subst hC
  have hrun := run_make (P := Try.prog) w 61 5 i (.int .u8 0) Try.underlying61 hi hz0 kl kc n n (by omega) (Int.le_refl _) (by rw [hz2]; omega) (by omega)
  rw [hz1, Nat.mul_one] at hrun
  simp only [Int.toNat_natCast] at hrun
  unfold Oper.wp
  simp [execOp, hop, hl, hc, hrun, Result.andThen]
  exact hK' _ _ hK
/-- The reversed row, when i bytes are done. -/
def rvAt (l : List UInt8) (i : Nat) : List UInt8 := List.replicate (l.length - i) 0 ++ (l.take i).reverse
theorem rvAt_len (l : List UInt8) (i : Nat) (hi : i ≤ l.length) : (rvAt l i).length = l.length := by unfold rvAt; simp; omega
theorem rvAt_zero (l : List UInt8) : rvAt l 0 = List.replicate l.length 0 := by unfold rvAt; simp
theorem rvAt_end (l : List UInt8) : rvAt l l.length = l.reverse := by unfold rvAt; simp
theorem rvAt_step (l : List UInt8) (i : Nat) (hi : i < l.length) : (rvAt l i).set (l.length - 1 - i) (l[i]'hi) = rvAt l (i + 1) := by
  unfold rvAt
  have e : l.take (i + 1) = l.take i ++ [l[i]] := by rw [List.take_succ_eq_append_getElem hi]
  rw [e, List.reverse_append]
  obtain ⟨k, hk⟩ : ∃ k, l.length - i = k + 1 := ⟨l.length - i - 1, by omega⟩
  rw [hk, show l.length - 1 - i = k by omega, show l.length - (i + 1) = k by omega, List.replicate_succ']
  rw [List.append_assoc, List.set_append_right _ _ (by simp)]
  simp
end Go.Proofs.Ythpndmamegfbkaa
