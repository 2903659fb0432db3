/- The reference's Format as an operation. -/
import Derived.Test.YthpndmamegfbkaaEC
namespace Go.Proofs.Ythpndmamegfbkaa
set_option linter.unusedSimpArgs false
set_option linter.unusedVariables false
open Go.RowKit
section
variable {P : Program} {Q : Exit → Act → World → Prop}
/-- As wp_tab, for a region that keeps the order of its text. -/
theorem wp_tabF (f : Func) (r : Nat) (D : List (Nat × Tmp × Sp)) {id : Nat} {ops' : Array Oper} {a : Act} {w : World} (hops : opsOf f r = ops')
    (hlin : Region.linearise.go .any (opsOf f r) D.length 0 (Array.replicate D.length false) [] = List.range D.length)
    (hlen : (opsOf f r).size = D.length) (hok : tabOk .any (opsOf f r) (entries D) 0 (Array.replicate D.length false) a.tmps.size = true)
    (hdone : Region.ready .any (opsOf f r) (markAll ((entries D).map (·.1)) (Array.replicate D.length false)) = [])
    (steps : EachX (fun x => ∀ (a' : Act) (w' : World), Found .any (opsOf f r) D x.1 w a a' w' → ∃ o, (opsOf f r)[x.1]? = some o ∧ Region.wanted o (yielded (opsOf f r) a'.tmps) = true ∧ Arm P Q o a' w' x.2.2) D)
    (hrest : ∀ a' w', Made' D w a a' w' → Q .normal a' w') : (Code.region id ops' false).wp P Q a w := by
  subst hops
  refine wp_region ?_
  rw [hlen, ← hlin]
  refine wpAny_sound _ _ _ _ _ ?_
  have hcon : ∀ t, ((entries D).map (·.2)).contains t = false → t ∉ (entries D).map (·.2) := fun t h hm => by
    rw [List.contains_iff_mem.2 hm] at h; cases h
  have hmem : ∀ (i : Nat) (t : Tmp) (s : Sp), D[i]? = some (i, t, s) → (i, t, s) ∈ D := fun i t s h => List.mem_of_getElem? h
  have main := wpAny_tab (P := P) (Q := Q) (fuel := 0) D 0 (l := Array.replicate D.length false) (a := a) (w := w) a.tmps.size rfl hok
    (fun x hx a' w' hb hout hin => steps.mem x hx a' w' ⟨hb, fun t h => hout t (hcon t h), fun i t s h1 h2 => hin i t s (hmem i t s h1) (List.contains_iff_mem.1 h2)⟩)
    (fun a' w' hb hsz hdf hout hin => wpAny_done hdone (hrest a' w' ⟨hb, hsz, hdf, fun t h => hout t (hcon t h), fun i t s h => hin i t s (hmem i t s h)⟩) 0)
  rw [Nat.zero_add] at main
  exact main
end
section
variable {Q : Exit → Act → World → Prop} {o : Oper} {a : Act} {w : World} {x y : Operand} {m n : Nat} {tt : Array TypeId}
theorem arm_rFormat (ho : o.op = .call { callee := .value (.func 27), args := #[x], argTypes := tt }) (hx : Is a w x (.nat m)) (hm : nl m ≤ 1000000000000) {s : ByteArray} (hs : fmtB m = s) : Arm Try.prog Q o a w (.val (.string s)) := by
  subst hs
  exact arm_one ho (enters Try.func27 rfl rfl) hx (R := fun w => RetV w (.string (fmtB m))) (fun va w h1 => c_ref_Format va m w h1 hm) (fun _ _ h => ofV h)
end
end Go.Proofs.Ythpndmamegfbkaa
