/- 'append(empty, x...)' of a row of digits: a copy in memory of its own. -/
import Derived.Test.YthpndmamegfbkaaN9
namespace Go.Proofs.Ythpndmamegfbkaa
set_option linter.unusedSimpArgs false
set_option linter.unusedVariables false
open Go.RowKit
/-- What a copy of a row is: nothing, or a row of the call's own that may be written. -/
def CopyR (w : World) (base : Nat) (a : Option Addr) (L N : Nat) : Prop :=
  0 < L → ∃ g, a = some ⟨g, 0, none⟩ ∧ base ≤ g ∧ Dig w g 0 L N ∧ ∀ j, j < L → w.frozen? ⟨g, j, none⟩ = false
theorem CopyR.rw' {w : World} {base : Nat} {a : Option Addr} {L N : Nat} (h : CopyR w base a L N) (hN : N < 4294967296 ^ L) : Rw w a L N :=
  ⟨hN, fun hL => by obtain ⟨g, rfl, _, hd, _⟩ := h hL; exact ⟨g, 0, rfl, hd⟩⟩
theorem CopyR.mono {w w' : World} {base : Nat} {a : Option Addr} {L N : Nat} (h : CopyR w base a L N) (hb : Below w.heap.size w w') : CopyR w' base a L N := fun hL => by
  obtain ⟨g, rfl, hg, hd, hf⟩ := h hL
  exact ⟨g, rfl, hg, hd.mono hb (hd.lt hL), fun j hj => (hb.frozen (p := ⟨g, j, none⟩) (hd.lt hL)).trans (hf j hj)⟩
theorem CopyR.newN {w : World} {base cap : Nat} {a : Option Addr} {N : Nat} (h : CopyR w base a (nl N) N) (hc : nl N ≤ cap) : NewN base w (.agg #[.slice a (nl N) cap]) N :=
  ⟨a, cap, rfl, hc, fun hL => by obtain ⟨g, rfl, hg, hd, hf⟩ := h hL; exact ⟨g, 0, rfl, hg, hd, fun j hj => by rw [Nat.zero_add]; exact hf j hj⟩⟩
theorem grown_below {w w' : World} {row : Option Nat} (h : w.grownBy w' row) (B : Nat) (hB : B ≤ w.heap.size) (hr : ∀ k, row = some k → B ≤ k) : Below B w w' := (Below.refl B w).grown h hB hr
theorem run_append_nothing {P : Program} (w : World) (base : Nat) (t ty e : TypeId) (i : TypeInfo) (size : Nat) (ht : P.underlying t = some (.slice e)) (hi : P.info? e = some i)
    (v : Value) (n : Nat) (xs : List Value) (hown : w.ownsRow base e size v n xs) (cap : Nat) :
    (Builtin.append_ #[t, t] ty #[v, .slice none 0 cap]).run P w = .ok v w := by
  rcases hown.2 with ⟨rfl, rfl⟩ | ⟨g, c, cur, rfl, _, _, hnc, _⟩
  · simp [Builtin.append_, run_underlying ht, sizeOf, typeInfo, hi, Builtin.lenOf, Builtin.firstCells]
  · simp [Builtin.append_, run_underlying ht, sizeOf, typeInfo, hi, Builtin.lenOf, Builtin.firstCells, hnc, storeCells]
theorem wpList_append_copy {w : World} {ops : Array Oper} {rest : List Oper} {o : Oper} {a : Act} {Q : Exit → Act → World → Prop}
    (hg : o.guard = none) (s x : Operand) (hop : o.op = Op.call { callee := Callee.builtin Builtin.append, args := #[s, x], argTypes := #[22, 22] })
    (base : Nat) (v : Value) (hs : a.eval s = v) (hown : w.ownsRow base 42 1 v 0 []) (hbase : base ≤ w.heap.size) (ao : Option Addr) (L cap N : Nat) (hx : a.eval x = .slice ao L cap) (hr : Rw w ao L N) (hL : L ≤ 30000000000000)
    (hK : ∀ a' c' w', CopyR w' base a' L N → L ≤ c' → w.grownBy w' v.ownBlock → wpList Try.prog ops Q rest (a.put o.dst (.slice a' L c')) w') :
    wpList Try.prog ops Q (o :: rest) a w := by
  refine wpList_plain hg fun K hK' => ?_
  obtain ⟨i, hi, hz0, hz1, hz2⟩ := info_parts infoU32
  have fin : ∀ v' w', w'.ownsRow base 42 1 v' L ((List.range L).map fun j => Value.int .u32 ((D N j : Nat) : Int)) → w.grownBy w' v.ownBlock → K (a.put o.dst v') w' := by
    intro v' w' ho hgb
    rcases ho.2 with ⟨rfl, rfl⟩ | ⟨g, c, cur, rfl, hbg, hgg, hnc, hcm, hcs, htake⟩
    · exact hK' _ _ (hK none 0 w' (fun h => by omega) (Nat.le_refl _) hgb)
    · refine hK' _ _ (hK _ c w' (fun h => ⟨g, rfl, hbg, fun j hj => ?_, fun j hj => frozen_of_row w' g j cur _ hgg⟩) hnc hgb)
      rw [Nat.zero_add, cell_of_row w' g j cur _ (0, 0) hgg]
      have h1 : (cur.toList.take (L * 1))[j]? = some (.int .u32 ((D N j : Nat) : Int)) := by rw [htake]; simp [hj]
      rw [List.getElem?_take] at h1
      split at h1
      · simpa using h1
      · cases h1
  cases ao with
  | none =>
    have hL0 : L = 0 := by
      rcases Nat.eq_zero_or_pos L with h | h
      · exact h
      · obtain ⟨b, off, h1, _⟩ := hr.cells h; cases h1
    subst hL0
    have hrun := run_append_nothing (P := Try.prog) w base 22 o.type 42 i 1 Try.underlying22 hi v 0 [] hown cap
    unfold Oper.wp
    simp [execOp, hop, resolve, invoke, builtin, hs, hx, hrun, Result.andThen]
    exact fin v w (by simpa using hown) (gb_refl _ _)
  | some ad =>
    have hnews : ∀ j u, ((List.range L).map fun j => Value.int .u32 ((D N j : Nat) : Int))[j]? = some u → w.cell? (ad.add j) = some u := by
      intro j u hu
      have hj : j < L := by
        have := (List.getElem?_eq_some_iff.1 hu).1
        simpa using this
      obtain ⟨b, off, hab, hd⟩ := hr.cells (by omega)
      cases hab
      have hadd : (⟨b, off, none⟩ : Addr).add j = ⟨b, off + j, none⟩ := by unfold Addr.add; split <;> simp_all
      rw [hadd, hd j hj]
      simpa [hj] using hu
    obtain ⟨v', w', hrun, h1, h2, _⟩ := run_append_own (P := Try.prog) w base 22 o.type 42 i (.int .u32 0) 1 4 Try.underlying22 hi hz0 hz1 hz2 rfl (by decide) v 0 [] hown
      ad L cap ((List.range L).map fun j => Value.int .u32 ((D N j : Nat) : Int)) (by simp) hnews (by intro u hu; obtain ⟨_, _, rfl⟩ := List.mem_map.1 hu; rfl) (by simp only [maxLen]; omega) (by omega) hbase
    unfold Oper.wp
    simp [execOp, hop, resolve, invoke, builtin, hs, hx, hrun, Result.andThen]
    exact fin v' w' (by simpa using h1) h2
theorem gbcell {w w' : World} {g : Nat} (h : w.grownBy w' (some g)) : (∀ b o, b < w.heap.size → b ≠ g → w'.cell? ⟨b, o, none⟩ = w.cell? ⟨b, o, none⟩) ∧ (∀ b o, b < w.heap.size → b ≠ g → w'.frozen? ⟨b, o, none⟩ = w.frozen? ⟨b, o, none⟩) :=
  ⟨fun b o hb hne => World.cell?_of_block (h.block b hb (by simpa using hne)), fun b o hb hne => World.frozen?_of_block (h.block b hb (by simpa using hne))⟩
end Go.Proofs.Ythpndmamegfbkaa
