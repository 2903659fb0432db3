/- nat of the statements, Copy of the reference. -/
import Derived.Test.YthpndmamegfbkaaF1
namespace Go.Proofs.Ythpndmamegfbkaa
set_option linter.unusedSimpArgs false
set_option linter.unusedVariables false
open Go.RowKit
theorem c_nat (a : Option Addr) (L c N : Nat) (w : World) (ra : Rw w a L N) (hL : L ≤ 1000000000000) (hv : nl N = L) :
    Calls Try.prog 29 #[.slice a L c] w fun e w' => RetNew w N e w' := by
  subst hv
  have hw : Below w.heap.size w (w.alloc (.cells #[.slice none 0 0] 24)) := (Below.refl _ _).alloc (Nat.le_refl _) _
  have v2 := VarB.made w none 0 0
  have ra0 := ra.mono hw
  go_enter Try.func29, Try.ntmps29
  go_wp2_with (at_builtin; refine wpList_append_copy rfl _ _ rfl (w.heap.size + 1) (.slice none 0 0) rfl (World.ownsRow_nil _ _ _ _) (by simp) a (nl N) c N rfl ra0 (by omega) ?_)
  intro a' c' w' hcp hc' hgb
  have hb1 := grown_below hgb (w.alloc (.cells #[.slice none 0 0] 24)).heap.size (Nat.le_refl _) (fun k hk => by cases hk)
  have v2' := v2.mono hb1 v2.lt
  have c2 := v2'.cell
  have f2 := v2'.frozen
  have hn : NewN w.heap.size w' (.agg #[.slice a' (nl N) c']) N := (hcp.newN hc').weaken (Nat.le_succ _)
  have hn' := hn.setVar (u := .slice a' (nl N) c') v2'
  have hcell := (v2'.set (a' := a') (L' := nl N) (c' := c')).cell
  have hbel := (hw.trans (hb1.mono hw.size)).setCell (p := ⟨w.heap.size, 0, none⟩) (Nat.le_refl _) (.slice a' (nl N) c')
  clear hgb hcp
  go_wp2
  exact bodyPost_ret (res_nat rfl _ _ w.heap.size _ rfl hcell) rfl ⟨_, rfl, hn', hbel⟩
theorem c_ref_Copy (va : Value) (m : Nat) (w : World) (ha : IsN w va m) (hm : nl m ≤ 1000000000000) :
    Calls Try.prog 28 #[va] w fun e w' => RetNew w m e w' := by
  obtain ⟨a, ca, rfl, hca, ra⟩ := ha
  obtain ⟨hw, k1, k2⟩ := start2 w a none (nl m) ca 0 0
  go_enter Try.func28, Try.ntmps28
  go_upto_region 1 with (fail)
  go_cut [3] (fun s3 wx => s3 = .slice none 0 0 ∧ Below w.heap.size w wx ∧ VarB wx w.heap.size a (nl m) ca ∧ VarB wx (w.heap.size + 1) none 0 0)
  case first =>
    go_wp2_with fail
    go_meet
    case rel => exact ⟨rfl, hw, k1, k2⟩
  case rest =>
    obtain ⟨rfl, hb0, v1, v2⟩ := hcut
    clear hw k1 k2
    have ra0 := ra.mono hb0
    have c1 := v1.cell
    have hz := v2.lt
    go_wp2_with (at_builtin; refine wpList_append_copy rfl _ _ rfl wc.heap.size (.slice none 0 0) rfl (World.ownsRow_nil _ _ _ _) (by simp) a (nl m) ca m rfl ra0 (by omega) ?_)
    intro a' c' w' hcp hc' hgb
    have hb1 := grown_below hgb wc.heap.size (Nat.le_refl _) (fun k hk => by cases hk)
    have v2' := v2.mono hb1 v2.lt
    have c2 := v2'.cell
    have f2 := v2'.frozen
    have hn : NewN w.heap.size w' (.agg #[.slice a' (nl m) c']) m := (hcp.newN hc').weaken hb0.size
    have hn' := hn.setVar (u := .slice a' (nl m) c') v2'
    have hcell := (v2'.set (a' := a') (L' := nl m) (c' := c')).cell
    have hbel := (hb0.trans (hb1.mono hb0.size)).setCell (p := ⟨w.heap.size + 1, 0, none⟩) (Nat.le_succ _) (.slice a' (nl m) c')
    clear hgb hcp
    go_wp2
    exact bodyPost_ret (res_nat rfl _ _ (w.heap.size + 1) _ rfl hcell) rfl ⟨_, rfl, hn', hbel⟩
end Go.Proofs.Ythpndmamegfbkaa
