/- Nat variables in memory; the copy of a row in a region that draws its order. -/
import Derived.Test.YthpndmamegfbkaaA1
import Derived.Test.YthpndmamegfbkaaR2
import Derived.Deep.RegionLawGrows
namespace Go.Proofs.Ythpndmamegfbkaa
set_option linter.unusedSimpArgs false
set_option linter.unusedVariables false
open Go.RowKit
/-- Block g is a Nat variable of the call's own that holds the field s. -/
def VarB (w : World) (g : Nat) (a : Option Addr) (L c : Nat) : Prop := w.heap[g]? = some (.cells #[.slice a L c] 24 (0, 0))
theorem VarB.cell {w : World} {g L c : Nat} {a : Option Addr} (h : VarB w g a L c) : w.cell? ⟨g, 0, none⟩ = some (.slice a L c) := by
  rw [cell_of_row w g 0 _ _ (0, 0) h]; rfl
theorem VarB.frozen {w : World} {g L c : Nat} {a : Option Addr} (h : VarB w g a L c) : w.frozen? ⟨g, 0, none⟩ = false := frozen_of_row w g 0 _ _ h
theorem VarB.lt {w : World} {g L c : Nat} {a : Option Addr} (h : VarB w g a L c) : g < w.heap.size := (Array.getElem?_eq_some_iff.1 h).1
theorem VarB.mono {w w' : World} {g L c B : Nat} {a : Option Addr} (h : VarB w g a L c) (hb : Below B w w') (hB : g < B) : VarB w' g a L c := (hb.block g hB).trans h
theorem VarB.set {w : World} {g L c L' c' : Nat} {a a' : Option Addr} (h : VarB w g a L c) : VarB (w.setCell ⟨g, 0, none⟩ (.slice a' L' c')) g a' L' c' := by
  have := heap_setCell_same w g 0 _ _ (.slice a' L' c') h
  exact this
theorem VarB.setOther {w : World} {g L c : Nat} {a : Option Addr} (h : VarB w g a L c) (p : Addr) (u : Value) (hp : p.block ≠ g) : VarB (w.setCell p u) g a L c :=
  (Below.heap_setCell w p u g (fun e => hp e.symm)).trans h
theorem VarB.made (w : World) (a : Option Addr) (L c : Nat) : VarB (w.alloc (.cells #[.slice a L c] 24)) w.heap.size a L c := heap_alloc_new w _
theorem VarB.ne {w : World} {g L c b o : Nat} {a : Option Addr} {x : Int} {k : IntKind} (h : VarB w g a L c) (hd : w.cell? ⟨b, o, none⟩ = some (.int k x)) : b ≠ g := by
  rintro rfl
  rw [cell_of_row w b o _ _ (0, 0) h] at hd
  cases o with
  | zero => cases hd
  | succ o => simp at hd
theorem NewN.setVar {w : World} {base g L c N : Nat} {a : Option Addr} {v u : Value} (h : NewN base w v N) (hg : VarB w g a L c) : NewN base (w.setCell ⟨g, 0, none⟩ u) v N := by
  obtain ⟨x, cap, rfl, hc, hx⟩ := h
  refine ⟨x, cap, rfl, hc, fun hL => ?_⟩
  obtain ⟨b, off, rfl, hb, hd, hf⟩ := hx hL
  have hne : b ≠ g := hg.ne (by simpa using hd 0 hL)
  refine ⟨b, off, rfl, hb, fun j hj => ?_, fun j hj => ?_⟩
  · rw [World.cell?_of_block (Below.heap_setCell w _ u b (by simpa using hne))]; exact hd j hj
  · rw [World.frozen?_of_block (Below.heap_setCell w _ u b (by simpa using hne))]; exact hf j hj
theorem IsN.setVar {w : World} {g L c N : Nat} {a : Option Addr} {v u : Value} (h : IsN w v N) (hg : VarB w g a L c) : IsN (w.setCell ⟨g, 0, none⟩ u) v N := by
  obtain ⟨x, cap, rfl, hc, hx⟩ := h
  refine ⟨x, cap, rfl, hc, hx.lt, fun hL => ?_⟩
  obtain ⟨b, off, rfl, hd⟩ := hx.cells hL
  have hne : b ≠ g := hg.ne (by simpa using hd 0 hL)
  refine ⟨b, off, rfl, fun j hj => ?_⟩
  rw [World.cell?_of_block (Below.heap_setCell w _ u b (by simpa using hne))]; exact hd j hj
theorem D_ext {M N : Nat} (hl : nl M = nl N) (h : ∀ j, j < nl N → D M j = D N j) : M = N := by
  have e : M % 4294967296 ^ nl N = N % 4294967296 ^ nl N := mod_ext _ (fun j hj => h j hj)
  rw [Nat.mod_eq_of_lt (by rw [← hl]; exact lt_nl M), Nat.mod_eq_of_lt (lt_nl N)] at e
  exact e
theorem IsN.unique {w : World} {v : Value} {M N : Nat} (h : IsN w v M) (h' : IsN w v N) : M = N := by
  obtain ⟨x, cap, rfl, _, hx⟩ := h
  obtain ⟨y, cap', e, _, hy⟩ := h'
  simp only [Value.agg.injEq, Array.mk.injEq, List.cons.injEq, Value.slice.injEq, and_true] at e
  obtain ⟨rfl, hl, rfl⟩ := e
  refine D_ext hl (fun j hj => ?_)
  obtain ⟨b, o, rfl, hd⟩ := hx.cells (by omega)
  obtain ⟨b', o', e', hd'⟩ := hy.cells (by omega)
  cases e'
  have h1 := hd j (by omega)
  rw [hd' j hj] at h1
  simp only [Option.some.injEq, Value.int.injEq, true_and] at h1
  omega
/-- Block g is a variable that holds the new number N. -/
def VarN (base : Nat) (w : World) (g N : Nat) : Prop := ∃ a c, VarB w g a (nl N) c ∧ NewN base w (.agg #[.slice a (nl N) c]) N
noncomputable def valAt (w : World) (g : Nat) : Nat := Classical.epsilon (fun N => ∃ base, VarN base w g N)
theorem VarN.valAt {base : Nat} {w : World} {g N : Nat} (h : VarN base w g N) : valAt w g = N := by
  have h1 : ∃ N, ∃ base, VarN base w g N := ⟨N, base, h⟩
  obtain ⟨base', a', c', hb', hn'⟩ := Classical.epsilon_spec h1
  obtain ⟨a, c, hb, hn⟩ := h
  have e := hb'.symm.trans hb
  simp only [Option.some.injEq, Obj.cells.injEq, Array.mk.injEq, List.cons.injEq, Value.slice.injEq, and_true] at e
  have i1 := hn'.isN
  rw [e.1, e.2.1, e.2.2] at i1
  exact i1.unique hn.isN
theorem VarN.mono {base : Nat} {w w' : World} {g N B : Nat} (h : VarN base w g N) (hb : Below w.heap.size w w') : VarN base w' g N := by
  obtain ⟨a, c, h1, h2⟩ := h
  exact ⟨a, c, h1.mono hb h1.lt, h2.mono hb⟩
/-- 'append(empty, x...)' of a row of digits, as one step of a region that draws its order. -/
theorem step_append_copy {ops : Array Oper} {o : Oper} {a : Act} {w : World} {K : Act → World → Prop} {Q : Exit → Act → World → Prop} {E : Prop}
    (hg : o.guard = none) (s x : Operand) (hop : o.op = Op.call { callee := Callee.builtin Builtin.append, args := #[s, x], argTypes := #[22, 22] })
    (base : Nat) (hbase : base ≤ w.heap.size) (so : Option Addr) (hs : a.eval s = .slice so 0 0) (ao : Option Addr) (L cap N : Nat) (hx : a.eval x = .slice ao L cap) (hr : Rw w ao L N) (hL : L ≤ 30000000000000)
    (hK : ∀ a' c' w', CopyR w' base a' L N → L ≤ c' → Below w.heap.size w w' → K (a.put o.dst (.slice a' L c')) w') :
    if Region.wanted o (yielded ops a.tmps) = true then Oper.wp Try.prog o a w K Q else E := by
  have hw : Region.wanted o (yielded ops a.tmps) = true := by simp [Region.wanted, hg]
  obtain ⟨i, hi, hz0, hz1, hz2⟩ := info_parts infoU32
  rcases Nat.eq_zero_or_pos L with h0 | hpos
  · subst h0
    rw [if_pos hw]
    have hrun : (Builtin.append_ #[22, 22] o.type #[.slice so 0 0, .slice ao 0 cap]).run Try.prog w = .ok (.slice so 0 0) w := by
      cases so <;> cases ao <;> simp [Builtin.append_, run_underlying Try.underlying22, sizeOf, typeInfo, hi, Builtin.lenOf, Builtin.firstCells, storeCells, loadCells, loadCellsFrom, Result.andThen]
    unfold Oper.wp
    simp [execOp, hop, resolve, invoke, builtin, hs, hx, hrun, Result.andThen]
    exact hK so 0 w (fun h => by omega) (Nat.le_refl _) (Below.refl _ _)
  · obtain ⟨b, off, rfl, hd⟩ := hr.cells hpos
    refine step_append_grows hg s x 22 hop 42 i (.int .u32 0) 1 4 Try.underlying22 hi hz0 hz1 hz2 rfl (by decide) so 0 0 [] hs (fun _ => ⟨rfl, rfl⟩) rfl (fun b hb j u hu => by cases hu)
      ⟨b, off, none⟩ L cap ((List.range L).map fun j => Value.int .u32 ((D N j : Nat) : Int)) hx (by simp) (fun j u hu => ?_) (by intro u hu; obtain ⟨_, _, rfl⟩ := List.mem_map.1 hu; rfl) (by omega) (by simp only [maxLen]; omega) (by omega) ?_
    · have hj : j < L := by
        have := (List.getElem?_eq_some_iff.1 hu).1
        simpa using this
      have hadd : (⟨b, off, none⟩ : Addr).add j = ⟨b, off + j, none⟩ := by unfold Addr.add; split <;> simp_all
      rw [hadd, hd j hj]
      simpa [hj] using hu
    · intro v' w' ho hgb
      rcases ho.2 with ⟨rfl, h⟩ | ⟨g, c, cur, rfl, hbg, hgg, hnc, hcm, hcs, htake⟩
      · omega
      · have hb' : Below w.heap.size w w' := grown_below hgb _ (Nat.le_refl _) (fun k hk => by cases hk)
        have := hK (some ⟨g, 0, none⟩) c w' (fun h => ⟨g, rfl, by omega, fun j hj => ?_, fun j hj => frozen_of_row w' g j cur _ hgg⟩) (by simpa using hnc) hb'
        · simpa using this
        · rw [Nat.zero_add, cell_of_row w' g j cur _ (0, 0) hgg]
          have h1 : (cur.toList.take ((0 + L) * 1))[j]? = some (.int .u32 ((D N j : Nat) : Int)) := by rw [htake]; simp [hj]
          rw [List.getElem?_take] at h1
          split at h1
          · simpa using h1
          · cases h1
theorem wpOp_append_copy {ops : Array Oper} {i : Nat} {d : Option Tmp} {o : Oper} {a : Act} {w : World} {K : Act → World → Prop} {Q : Exit → Act → World → Prop}
    (ho : ops[i]? = some o) (hd : o.dst = d) (hg : o.guard = none) (s x : Operand) (hop : o.op = Op.call { callee := Callee.builtin Builtin.append, args := #[s, x], argTypes := #[22, 22] })
    (base : Nat) (hbase : base ≤ w.heap.size) (so : Option Addr) (hs : a.eval s = .slice so 0 0) (ao : Option Addr) (L cap N : Nat) (hx : a.eval x = .slice ao L cap) (hr : Rw w ao L N) (hL : L ≤ 30000000000000)
    (hK : ∀ a' c' w', CopyR w' base a' L N → L ≤ c' → Below w.heap.size w w' → K (a.put d (.slice a' L c')) w') : wpOp Try.prog ops Q i K a w :=
  wpOp_step ho (fun K' hK' => step_append_copy hg s x hop base hbase so hs ao L cap N hx hr hL (fun a' c' w' h1 h2 h3 => hK' _ _ (by rw [hd]; exact hK a' c' w' h1 h2 h3)))
end Go.Proofs.Ythpndmamegfbkaa
