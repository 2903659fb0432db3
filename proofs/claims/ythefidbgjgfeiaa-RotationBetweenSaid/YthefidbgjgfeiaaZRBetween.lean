/- RotationBetween returns true for every input: the rotations on the way from one to another, and that the way begins and ends with them. No condition. -/
import Derived.Test.YthefidbgjgfeiaaZRBetweenT17
import Derived.Test.YthefidbgjgfeiaaRows
import Derived.WalkKit
import Derived.ProofKit
import Derived.OpenShut
import Derived.ShutString
import Derived.ChangeOld
import Derived.Below
namespace Go.Proofs.Ythefidbgjgfeiaa
set_option linter.unusedSimpArgs false
set_option linter.unusedVariables false
set_option maxRecDepth 100000
open Go.ChangeShapes Go.WideShapes Go.ChangeAt Go.RowKit
open Go.ChangeMaps (open_string shut_string)
theorem rotationBetween_own : ownKnob Try.prog.godebug = none := by kernel_rfl
theorem rotationBetween_laid : laidOutB Try.prog = true := by kernel_rfl
set_option maxRecDepth 100000 in
theorem rotationBetween_lifted (os : Os) (started : os.Started) (H : Type) (enc : TypeId × Value → H) :
    ReturnsInHanded {} Try.checked os 7 .any (Rows.rotationBetweenSpec.pre6 enc Try.prog Try.f7 Rows.rotationBetweenRow.domain false) (Rows.rotationBetweenSpec.post enc Try.prog Try.f7 false true false false) := by
  refine returnsInHanded_of_change (C := Try.checked) rotationBetween_own started (by kernel_rfl) Try.func7
    (ChangeSpec.witness6 (enc := enc) (C := Try.checked) false ⟨#[], #[.agg #[.int .i8 0, .int .i8 0, .int .i8 0, .int .i8 0, .int .i8 0, .int .i8 0, .int .i8 0, .int .i8 0], .agg #[.int .i8 0, .int .i8 0, .int .i8 0, .int .i8 0, .int .i8 0, .int .i8 0, .int .i8 0, .int .i8 0], .agg #[.int .i8 0, .int .i8 0]], []⟩ 8 (by kernel_rfl) (by kernel_rfl) (by kernel_rfl) (by kernel_rfl)) ?_
  intro W base args ds gs before hval0 hW hcnd _
  have hval : ∀ (j : Nat) t v, Try.f7.params[j]? = some t → args[j]? = some v → Value.okWide Try.prog W .any base t v := hval0
  have hW' := hW
  obtain ⟨p, q, hA0, hV, rfl, hfz, hnd⟩ := hW
  have hA : DataW.TrodAll enc Try.prog W 0 (fun _ => true) true Try.f7.params.toList args.toList ds p := hA0
  rw [Try.params7] at hA hval
  obtain ⟨v0, vs0, d0, ds0, p0, q0, hargs, rfl, rfl, h0, r0⟩ := trodAll_cons hA
  obtain ⟨v1, vs1, d1, ds1, p1, q1, rfl, rfl, rfl, h1, r1⟩ := trodAll_cons r0
  obtain ⟨v2, vs2, d2, ds2, p2, q2, rfl, rfl, rfl, h2, r2⟩ := trodAll_cons r1
  obtain ⟨rfl, rfl, rfl⟩ := trodAll_nil r2
  obtain rfl : args = #[v0, v1, v2] := by cases args; simp_all
  obtain ⟨rfl, rfl⟩ := trodVars_none hV
  have k0 := h0
  have lt0 : ∀ x ∈ p0, x.block < W.heap.size := by obtain ⟨m, hm⟩ := k0; exact DataW.trod_lt m _ _ _ hm
  obtain ⟨z0_0, z0_1, z0_2, z0_3, z0_4, z0_5, z0_6, z0_7, rfl, bz0_0, bz0_1, bz0_2, bz0_3, bz0_4, bz0_5, bz0_6, bz0_7⟩ := open_small_part4 (hval 0 25 v0 rfl rfl) h0
  have k1 := h1
  have lt1 : ∀ x ∈ p1, x.block < W.heap.size := by obtain ⟨m, hm⟩ := k1; exact DataW.trod_lt m _ _ _ hm
  obtain ⟨z1_0, z1_1, z1_2, z1_3, z1_4, z1_5, z1_6, z1_7, rfl, bz1_0, bz1_1, bz1_2, bz1_3, bz1_4, bz1_5, bz1_6, bz1_7⟩ := open_small_part4 (hval 1 25 v1 rfl rfl) h1
  have k2 := h2
  have lt2 : ∀ x ∈ p2, x.block < W.heap.size := by obtain ⟨m, hm⟩ := k2; exact DataW.trod_lt m _ _ _ hm
  obtain ⟨z2_0, z2_1, rfl, bz2_0, bz2_1⟩ := open_small_part (hval 2 24 v2 rfl rfl) h2
  clear hA0 hval0
  refine (c_RotationBetween z0_0 z0_1 z0_2 z0_3 z0_4 z0_5 z0_6 z0_7 z1_0 z1_1 z1_2 z1_3 z1_4 z1_5 z1_6 z1_7 z2_0 z2_1 W bz0_0.1 bz0_0.2 bz0_1.1 bz0_1.2 bz0_2.1 bz0_2.2 bz0_3.1 bz0_3.2 bz0_4.1 bz0_4.2 bz0_5.1 bz0_5.2 bz0_6.1 bz0_6.2 bz0_7.1 bz0_7.2 bz1_0.1 bz1_0.2 bz1_1.1 bz1_1.2 bz1_2.1 bz1_2.2 bz1_3.1 bz1_3.2 bz1_4.1 bz1_4.2 bz1_5.1 bz1_5.2 bz1_6.1 bz1_6.2 bz1_7.1 bz1_7.2 bz2_0.1 bz2_0.2 bz2_1.1 bz2_1.2).mono fun e W' ⟨he, bel⟩ => ?_
  subst he
  exact ⟨_, rfl, _, _, _, [], _, [], hW', trodAll_mk1 (shut_bool Try.underlying4 _), (trodAll_cons_mk (Below.trod rotationBetween_laid (by kernel_rfl) (of_decide_eq_true (by kernel_rfl)) k0 bel lt0) (trodAll_cons_mk (Below.trod rotationBetween_laid (by kernel_rfl) (of_decide_eq_true (by kernel_rfl)) k1 bel lt1) (trodAll_cons_mk (Below.trod rotationBetween_laid (by kernel_rfl) (of_decide_eq_true (by kernel_rfl)) k2 bel lt2) trodAll_mk0))), rfl, bel.frame _, fun h => by cases h⟩
theorem rotationBetween_over : Rows.rotationBetweenRow.holds Try.pinned (OpenSpec.ofChange Rows.rotationBetweenSpec) :=
  OpenClaim.holds_of_wide 7 Try.f7 rfl rfl rfl rfl rfl rfl rfl ⟨rfl, rfl, rfl, rfl, rfl⟩ rfl rfl rfl rfl rfl (by kernel_rfl) Try.func7 (by kernel_rfl)
    (of_decide_eq_true (by kernel_rfl)) (by unfold Func.isWrapper; first | (rw [if_pos (by decide +kernel)]; kernel_rfl) | (rw [if_neg (by decide +kernel)]; exact ⟨rfl, rfl⟩))
    (fun os started H enc _ => rotationBetween_lifted os started H enc)
theorem rotationBetween_proved : Rows.RotationBetweenSaid := rotationBetween_over
#print axioms rotationBetween_proved
end Go.Proofs.Ythefidbgjgfeiaa
