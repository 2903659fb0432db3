/- Decimal digits; rows of bytes that grow by append. -/
import Derived.Test.YthpndmamegfbkaaP2
import Derived.Laws.IdiomStrings
namespace Go.Proofs.Ythpndmamegfbkaa
set_option linter.unusedSimpArgs false
set_option linter.unusedVariables false
open Go.RowKit
/-- The decimal digits of N as bytes, the least one first; none for 0. -/
def decB (N : Nat) : List UInt8 := if h : N = 0 then [] else UInt8.ofNat (48 + N % 10) :: decB (N / 10)
termination_by N
decreasing_by omega
theorem decB_zero : decB 0 = [] := by rw [decB]; rfl
theorem decB_pos {N : Nat} (h : N ≠ 0) : decB N = UInt8.ofNat (48 + N % 10) :: decB (N / 10) := by rw [decB, dif_neg h]
theorem decB_len (N k : Nat) (h : N < 10 ^ k) : (decB N).length ≤ k := by
  induction k generalizing N with
  | zero =>
    have : N = 0 := by simpa using h
    rw [this, decB_zero]; simp
  | succ k ih =>
    by_cases h0 : N = 0
    · rw [h0, decB_zero]; simp
    · rw [decB_pos h0]
      have := ih (N / 10) (by rw [Nat.div_lt_iff_lt_mul (by decide)]; rw [Nat.pow_succ] at h; exact h)
      simp only [List.length_cons]; omega
theorem decB_bound (N : Nat) : (decB N).length ≤ 10 * nl N := by
  refine decB_len N _ (Nat.lt_of_lt_of_le (lt_nl N) ?_)
  rw [Nat.pow_mul]
  exact Nat.pow_le_pow_left (by decide) _
def bL (l : List UInt8) : List Value := l.map fun b => Value.int .u8 (b.toNat : Int)
theorem infoU8 : (Try.prog.info? 5).map (fun i => (i.zero, i.size, i.bytes)) = some (some (.int .u8 0), 1, 1) := by kernel_rfl
/-- v is a slice of the bytes l, in memory of the call's own from block 'base' on. -/
def BR (w : World) (base : Nat) (v : Value) (l : List UInt8) : Prop := w.ownsRow base 5 1 v l.length (bL l)
theorem BR.nil (w : World) (base : Nat) : BR w base (.slice none 0 0) [] := World.ownsRow_nil _ _ _ _
theorem BR.open {w : World} {base : Nat} {v : Value} {l : List UInt8} (h : BR w base v l) :
    ∃ a c, v = .slice a l.length c ∧ l.length ≤ c ∧ (0 < l.length → ∃ g, a = some ⟨g, 0, none⟩ ∧ base ≤ g ∧ g < w.heap.size ∧ ∀ j (hj : j < l.length), w.cell? ⟨g, j, none⟩ = some (.int .u8 ((l[j]'hj).toNat : Int))) := by
  rcases h.2 with ⟨rfl, h0⟩ | ⟨g, c, cur, rfl, hb, hg, hnc, hcm, hcs, htake⟩
  · exact ⟨none, 0, by rw [h0], by omega, fun hL => by omega⟩
  · refine ⟨some ⟨g, 0, none⟩, c, rfl, hnc, fun hL => ⟨g, rfl, hb, (Array.getElem?_eq_some_iff.1 hg).1, fun j hj => ?_⟩⟩
    rw [cell_of_row w g j cur _ (0, 0) hg]
    have h1 : (cur.toList.take (l.length * 1))[j]? = some (.int .u8 ((l[j]'hj).toNat : Int)) := by rw [htake]; simp [bL, hj]
    rw [List.getElem?_take] at h1
    split at h1
    · simpa using h1
    · cases h1
theorem BR.keep {w w' : World} {base : Nat} {v : Value} {l : List UInt8} (h : BR w base v l) (hg : w.grownBy w' none) : BR w' base v l := World.ownsRow.kept h hg (by cases hv : v.ownBlock <;> simp)
/-- 'l = append(l, b)': one byte more. -/
theorem wpList_append_one {w0 : World} {ops : Array Oper} {rest : List Oper} {o : Oper} {a : Act} {Q : Exit → Act → World → Prop}
    (hg : o.guard = none) (s x : Operand) (hop : o.op = Op.call { callee := Callee.builtin Builtin.append, args := #[s, x], argTypes := #[61, 61] })
    (base : Nat) (v : Value) (l : List UInt8) (b : UInt8) (e0 : Int) (he0 : e0 = (b.toNat : Int)) (hs : a.eval s = v) (hgr : BR w0 base v l) (hbase : base ≤ w0.heap.size) (hx : a.eval x = .slice (some ⟨w0.heap.size, 0, none⟩) 1 1) (hL : l.length + 1 ≤ 30000000000000)
    (hK : ∀ v' w', BR w' base v' (l ++ [b]) → Below base w0 w' → base ≤ w'.heap.size → w0.grownBy w' v.ownBlock → wpList Try.prog ops Q rest (a.put o.dst v') w') :
    wpList Try.prog ops Q (o :: rest) a (w0.alloc (.cells #[.int .u8 e0] 5)) := by
  subst he0
  obtain ⟨i, hi, hz0, hz1, hz2⟩ := info_parts infoU8
  have hgr' := hgr.keep (World.grownBy_alloc w0 (.cells #[.int .u8 (b.toNat : Int)] 5) none)
  have hb1 : Below base w0 (w0.alloc (.cells #[.int .u8 (b.toNat : Int)] 5)) := (Below.refl _ _).alloc hbase _
  refine wpList_append_own _ hg s x 61 hop base 5 i (.int .u8 0) 1 1 Try.underlying61 hi hz0 hz1 hz2 rfl (by decide) v l.length (bL l) hs hgr'
    ⟨w0.heap.size, 0, none⟩ 1 1 [.int .u8 (b.toNat : Int)] hx rfl ?_ ?_ (by simp only [maxLen]; omega) (by omega) (Nat.le_trans hbase hb1.size) ?_
  · intro j u hj
    match j, hj with
    | 0, hj => simp at hj; subst hj; simp [Addr.add]
    | (j + 1), hj => simp at hj
  · intro u hu; simp at hu; subst hu; rfl
  · intro v' w' ho hgb _
    refine hK v' w' ?_ (hb1.grown hgb (Nat.le_trans hbase hb1.size) (fun k hk => (World.ownsRow.lt hgr' k hk).1)) (Nat.le_trans hbase (Nat.le_trans hb1.size hgb.size)) ?_
    rotate_left
    · exact ⟨hgb.os, hgb.tape, hgb.output, Nat.le_trans hb1.size hgb.size, fun k hk hne => (hgb.block k (Nat.lt_of_lt_of_le hk hb1.size) hne).trans (World.grownBy_alloc w0 _ none |>.block k hk (by simp))⟩
    unfold BR
    have e : bL (l ++ [b]) = bL l ++ [.int .u8 (b.toNat : Int)] := by simp [bL]
    rw [e, List.length_append]
    exact ho
/-- The row at x lies below 'base', or in a block of digits. -/
def Safe (w : World) (base : Nat) (x : Option Addr) (L : Nat) : Prop := 0 < L → ∃ g o, x = some ⟨g, o, none⟩ ∧ g < w.heap.size ∧ (g < base ∨ ∃ cur, w.heap[g]? = some (.cells cur 42 (0, 0)))
theorem Safe.ne {w : World} {base L : Nat} {x : Option Addr} {v : Value} {l : List UInt8} (h : Safe w base x L) (hb : BR w base v l) (hL : 0 < L) : ∀ g o, x = some ⟨g, o, none⟩ → some g ≠ v.ownBlock := by
  intro g o hx e
  obtain ⟨g', o', hx', _, h'⟩ := h hL
  rw [hx] at hx'
  cases hx'
  rcases hb.2 with ⟨rfl, _⟩ | ⟨k, c, cur, rfl, hk, hg, _⟩
  · cases e
  · simp only [Value.ownBlock, Option.some.injEq] at e
    subst e
    rcases h' with h' | ⟨cur', h'⟩
    · omega
    · rw [hg] at h'; cases h'
theorem Safe.append {w w' : World} {base L N : Nat} {x : Option Addr} {v : Value} {l : List UInt8} (h : Safe w base x L) (hr : Rw w x L N) (hb : BR w base v l) (hg : w.grownBy w' v.ownBlock) : Safe w' base x L ∧ Rw w' x L N := by
  refine ⟨fun hL => ?_, hr.lt, fun hL => ?_⟩
  · obtain ⟨g, o, hx, hlt, h'⟩ := h hL
    have hne := h.ne hb hL g o hx
    refine ⟨g, o, hx, Nat.lt_of_lt_of_le hlt hg.size, ?_⟩
    rcases h' with h' | ⟨cur', h'⟩
    · exact .inl h'
    · exact .inr ⟨cur', (hg.block g hlt hne).trans h'⟩
  · obtain ⟨b, o, hx, hd⟩ := hr.cells hL
    exact ⟨b, o, hx, hd.kept hg (h.ne hb hL b o hx)⟩
theorem Rw.norm {w : World} {a : Option Addr} {L N : Nat} (h : Rw w a L N) : Rw w a (nl N) N := ⟨lt_nl N, fun hL => by
  have hl : nl N ≤ L := nl_le_iff.2 h.lt
  obtain ⟨b, o, hx, hd⟩ := h.cells (by omega)
  exact ⟨b, o, hx, fun j hj => hd j (by omega)⟩⟩
theorem Safe.of_own {w : World} {base g L N M : Nat} (h : OwnR w g L N) : Safe w base (some ⟨g, 0, none⟩) M := fun _ => by
  obtain ⟨_, cur, hg, _⟩ := h
  exact ⟨g, 0, rfl, (Array.getElem?_eq_some_iff.1 hg).1, .inr ⟨cur, hg⟩⟩
theorem Safe.of_low {w : World} {L N : Nat} {x : Option Addr} (h : Rw w x L N) : Safe w w.heap.size x L := fun hL => by
  obtain ⟨b, o, hx, hd⟩ := h.cells hL
  exact ⟨b, o, hx, hd.lt hL, .inl (hd.lt hL)⟩
noncomputable def valOf (w : World) (v : Value) : Nat := Classical.epsilon (IsN w v)
theorem IsN.valOf {w : World} {v : Value} {N : Nat} (h : IsN w v N) : valOf w v = N := (Classical.epsilon_spec (p := IsN w v) ⟨N, h⟩).unique h
end Go.Proofs.Ythpndmamegfbkaa
