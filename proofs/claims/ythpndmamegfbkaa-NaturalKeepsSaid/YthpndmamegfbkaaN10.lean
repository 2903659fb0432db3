/- The contract of DivMod: the divisor 0, a divisor greater than the number, one digit. -/
import Derived.Test.YthpndmamegfbkaaA1
namespace Go.Proofs.Ythpndmamegfbkaa
set_option linter.unusedSimpArgs false
set_option linter.unusedVariables false
open Go.RowKit
theorem res_nat3 {fn : Func} {p q r : Tmp} (h : fn.results = #[.cell p 24, .cell q 24, .tmp r]) (tmps : Array Value) (w : World) (b1 b2 : Nat) (v1 v2 u : Value)
    (hp : tmps.getD p undef = .pointer (some ⟨b1, 0, none⟩)) (hq : tmps.getD q undef = .pointer (some ⟨b2, 0, none⟩)) (hr : tmps.getD r undef = u) (hc1 : w.cell? ⟨b1, 0, none⟩ = some v1) (hc2 : w.cell? ⟨b2, 0, none⟩ = some v2) :
    (results fn tmps).run Try.prog w = .ok (.tuple #[.agg #[v1], .agg #[v2], u]) w := by
  have hp' : tmps[p]?.getD undef = .pointer (some ⟨b1, 0, none⟩) := by simpa using hp
  have hq' : tmps[q]?.getD undef = .pointer (some ⟨b2, 0, none⟩) := by simpa using hq
  have hr' : tmps[r]?.getD undef = u := by simpa using hr
  simp [results, h, hp', hq', hr', asAddr, loadVar, go_sem, hc1, hc2]
def RetDiv (W : World) (q r : Nat) (c : Int) (e : Ending) (w' : World) : Prop :=
  ∃ vq vr, e = .returned (.tuple #[vq, vr, .int .i64 c]) ∧ NewN W.heap.size w' vq q ∧ NewN W.heap.size w' vr r ∧ Below W.heap.size W w'
theorem Res2.ret {w w2 : World} {r1 r2 q r : Nat} {u1 u2 : Value} {c : Int} (h : Res2 w w2 r1 r2) (hq : NewN (r2 + 1) w2 (.agg #[u1]) q) (hr : NewN (r2 + 1) w2 (.agg #[u2]) r)
    {fn : Func} {p1 p2 p3 : Tmp} {tmps : Array Value} (hres : fn.results = #[.cell p1 24, .cell p2 24, .tmp p3])
    (t1 : tmps.getD p1 undef = .pointer (some ⟨r1, 0, none⟩)) (t2 : tmps.getD p2 undef = .pointer (some ⟨r2, 0, none⟩)) (t3 : tmps.getD p3 undef = .int .i64 c) :
    bodyPost Try.prog fn (fun e w' => RetDiv w q r c e w') .ret { tmps := tmps, defers := [] } ((w2.setCell ⟨r1, 0, none⟩ u1).setCell ⟨r2, 0, none⟩ u2) := by
  have hlt := h.lt
  have hfin := h.fin (u1 := u1) (u2 := u2) hq hr
  have hne : (⟨r1, 0, none⟩ : Addr) ≠ ⟨r2, 0, none⟩ := by intro e; cases e; omega
  have g1 : ((w2.setCell ⟨r1, 0, none⟩ u1).setCell ⟨r2, 0, none⟩ u2).cell? ⟨r1, 0, none⟩ = some u1 := by
    rw [World.cell?_setCell_other _ _ _ _ hne.symm]; exact World.cell?_setCell_same _ _ _ h.cell1
  have g2 : ((w2.setCell ⟨r1, 0, none⟩ u1).setCell ⟨r2, 0, none⟩ u2).cell? ⟨r2, 0, none⟩ = some u2 := by
    refine World.cell?_setCell_same _ _ _ (u := .slice none 0 0) ?_
    rw [World.cell?_setCell_other _ _ _ _ hne]; exact h.cell2
  exact bodyPost_ret (res_nat3 hres _ _ r1 r2 _ _ _ t1 t2 t3 g1 g2) rfl ⟨_, _, rfl, hfin.1, hfin.2.1, hfin.2.2⟩
theorem below4 (w : World) (a b : Option Addr) (m ca n cb : Nat) : Below w.heap.size w ((((w.alloc (.cells #[.slice a m ca] 24)).alloc (.cells #[.slice b n cb] 24)).alloc (.cells #[.slice none 0 0] 24)).alloc (.cells #[.slice none 0 0] 24)) :=
  ((((Below.refl _ _).alloc (Nat.le_refl _) _).alloc (by simp) _).alloc (by simp; omega) _).alloc (by simp; omega) _
set_option maxRecDepth 100000 in
theorem c_DivMod_zero (va vb : Value) (m : Nat) (w : World) (ha : IsN w va m) (hb : IsN w vb 0) (hm : nl m ≤ 1000000000000) :
    Calls Try.prog 14 #[va, vb] w fun e w' => RetDiv w 0 0 8 e w' := by
  obtain ⟨a, ca, rfl, hca, ra⟩ := ha
  obtain ⟨b, cb, rfl, hcb, rb⟩ := hb
  rw [nl_zero] at *
  have hw := below4 w a b (nl m) ca 0 cb
  have ra' := ra.mono hw
  have rb' := rb.mono hw
  have hm' : nl m ≤ 9223372036854775807 := by omega
  have c0 := fun q => c_norm b 0 cb 0 _ (by omega) hcb (rb'.drewN q)
  simp only [nl_zero] at c0
  go_enter Try.func14, Try.ntmps14
  go_wp2_with fail
  go_quiet (first
    | (go_at_call 37; with_reducible exact quietS (c_norm a (nl m) ca m _ hm' hca (ra'.drewN _)))
    | (go_at_call 37; with_reducible exact quietS (c0 _)))
  go_wp2
  refine bodyPost_ret (res_nat3 rfl _ _ (w.heap.size + 1 + 1) (w.heap.size + 1 + 1 + 1) (.slice none 0 0) (.slice none 0 0) (.int .i64 8) rfl rfl rfl (by simp [go_sem]) (by simp [go_sem])) rfl ⟨_, _, rfl, NewN.of_zero, NewN.of_zero, ?_⟩
  exact ((bel_drewN hw _).setCell (by simp; omega) _).setCell (by simp; omega) _
set_option maxRecDepth 100000 in
theorem c_DivMod_less (va vb : Value) (m n : Nat) (w : World) (ha : IsN w va m) (hb : IsN w vb n) (hm : nl m ≤ 1000000000000) (hn : nl n ≤ 1000000000000) (hmn : m < n) :
    Calls Try.prog 14 #[va, vb] w fun e w' => RetDiv w 0 m 0 e w' := by
  obtain ⟨a, ca, rfl, hca, ra⟩ := ha
  obtain ⟨b, cb, rfl, hcb, rb⟩ := hb
  have hw := below4 w a b (nl m) ca (nl n) cb
  have ra' := ra.mono hw
  have rb' := rb.mono hw
  have hm' : nl m ≤ 9223372036854775807 := by omega
  have hn' : nl n ≤ 9223372036854775807 := by omega
  have hp := nl_pos (show n ≠ 0 by omega)
  have hne : (((nl n : Nat) : Int) == 0) = false := by rw [beq_eq_false_iff_ne]; omega
  have hcm : cmpI m n = -1 := cmpI_lt hmn
  go_enter Try.func14, Try.ntmps14
  go_wp2_with fail
  go_quiet (first
    | (go_at_call 37; with_reducible exact quietS (c_norm a (nl m) ca m _ hm' hca (ra'.drewN _)))
    | (go_at_call 37; with_reducible exact quietS (c_norm b (nl n) cb n _ hn' hcb (rb'.drewN _))))
  go_upto_region 2 with (fail)
  go_cut [25] (fun s25 wx => s25 = .bool false ∧ Res2 w wx (w.heap.size + 1 + 1) (w.heap.size + 1 + 1 + 1))
  case first =>
    go_wp2_with fail
    go_meet
    case rel => exact ⟨rfl, bel_drewN hw nq, by omega, by omega, by simp, by simp [go_sem], by simp [go_sem], by simp [go_sem], by simp [go_sem]⟩
  case rest =>
    obtain ⟨rfl, hr⟩ := hcut
    clear hw ra' rb'
    go_wp2_with fail
    refine (c_compare a b _ _ m n _ (ra.mono hr.below) (rb.mono hr.below) (by omega) (by omega)).mono ?_
    rintro e w1 ⟨rfl, q, rfl⟩
    have hr1 := hr.drewN q
    have hown := World.ownsRow_made (base := wc.heap.size) (e := 42) (size := 1) (wc.drewN q) #[] 0 (Nat.le_refl _) (Nat.zero_le _) rfl
    simp only [World.heap_drewN] at hown
    have hr2 := hr1.after ((Below.refl (wc.drewN q).heap.size (wc.drewN q)).alloc (Nat.le_refl _) (.cells #[] 42))
    have ra2 := ra.mono hr2.below
    go_wp2_with (at_builtin; refine wpList_append_copy rfl _ _ rfl wc.heap.size _ rfl hown (by simp) a (nl m) (nl m) m rfl ra2 (by omega) ?_)
    intro a' c' w' hcp hc' hgb
    have hr3 := hr2.step (grown_below hgb wc.heap.size (by simp) (fun k hk => (hown.lt k hk).1)) hr.size
    clear hgb hown ra2
    go_wp2_with fail
    refine (c_made a' (nl m) c' m _ (by omega) hc' (hcp.rw' (lt_nl m))).mono ?_
    rintro e w2 ⟨rfl, hb2⟩
    have hr4 := hr3.after hb2
    have hcp2 := hcp.mono hb2
    obtain ⟨q1, q2, q3, q4⟩ := And.intro hr4.cell1 (And.intro hr4.cell2 (And.intro hr4.frozen1 hr4.frozen2))
    go_wp2
    exact hr4.ret (q := 0) (r := m) (u1 := .slice none 0 0) NewN.of_zero ((hcp2.newN (Nat.le_refl _)).weaken hr.size) rfl rfl rfl rfl
set_option maxRecDepth 100000 in
theorem c_DivMod_one (va vb : Value) (m n : Nat) (w : World) (ha : IsN w va m) (hb : IsN w vb n) (hm : nl m ≤ 1000000000000) (hn1 : nl n = 1) (hmn : n ≤ m) :
    Calls Try.prog 14 #[va, vb] w fun e w' => RetDiv w (m / n) (m % n) 0 e w' := by
  have hn0 : n ≠ 0 := fun h => by rw [h, nl_zero] at hn1; omega
  have hn : nl n ≤ 1000000000000 := by omega
  have hnB : n < 4294967296 := by have h := lt_nl n; rw [hn1] at h; omega
  have hD0 : D n 0 = n := by unfold D; rw [Nat.pow_zero, Nat.div_one]; omega
  have HD0 := Lib.hid hD0
  have HN1 := Lib.hid hn1
  obtain ⟨a, ca, rfl, hca, ra⟩ := ha
  obtain ⟨b, cb, rfl, hcb, rb⟩ := hb
  have hw := below4 w a b (nl m) ca (nl n) cb
  have ra' := ra.mono hw
  have rb' := rb.mono hw
  have hm' : nl m ≤ 9223372036854775807 := by omega
  have hn' : nl n ≤ 9223372036854775807 := by omega
  have hp := nl_pos hn0
  have hne : (((nl n : Nat) : Int) == 0) = false := by rw [beq_eq_false_iff_ne]; omega
  have hcm : 0 ≤ cmpI m n := by unfold cmpI; split <;> first | (exfalso; omega) | (split <;> omega)
  have hone : (((nl n : Nat) : Int) == 1) = true := by rw [beq_iff_eq]; omega
  obtain ⟨b1, o1, rfl, hdb⟩ := rb.cells (by omega)
  clear hD0 hn1
  go_enter Try.func14, Try.ntmps14
  go_wp2_with fail
  go_quiet (first
    | (go_at_call 37; with_reducible exact quietS (c_norm a (nl m) ca m _ hm' hca (ra'.drewN _)))
    | (go_at_call 37; with_reducible exact quietS (c_norm (some ⟨b1, o1, none⟩) (nl n) cb n _ hn' hcb (rb'.drewN _))))
  go_upto_region 2 with (fail)
  go_cut [25] (fun s25 wx => s25 = .bool false ∧ Res2 w wx (w.heap.size + 1 + 1) (w.heap.size + 1 + 1 + 1))
  case first =>
    go_wp2_with fail
    go_meet
    case rel => exact ⟨rfl, bel_drewN hw nq, by omega, by omega, by simp, by simp [go_sem], by simp [go_sem], by simp [go_sem], by simp [go_sem]⟩
  case rest =>
    obtain ⟨rfl, hr⟩ := hcut
    clear hw ra' rb'
    go_wp2_with fail
    refine (c_compare a (some ⟨b1, o1, none⟩) _ _ m n _ (ra.mono hr.below) (rb.mono hr.below) (by omega) (by omega)).mono ?_
    rintro e w1 ⟨rfl, q, rfl⟩
    have hr1 := hr.drewN q
    have c1 := (hdb.mono hr1.below (hdb.lt (by omega))) 0 (by omega)
    rw [HD0.out, Nat.add_zero] at c1
    go_wp2_with fail
    refine (c_short a (nl m) (nl m) m n _ (ra.mono hr1.below) hm (by omega) hnB).mono ?_
    rintro e w2 ⟨g, rfl, hg, ho, hb2⟩
    have hr2 := hr1.after hb2
    have hbd : m % n < 4294967296 := Nat.lt_trans (Nat.mod_lt _ (by omega)) hnB
    go_wp2_with fail
    refine (c_made _ (nl m) (nl m) (m / n) _ (by omega) (Nat.le_refl _) ho.rw').mono ?_
    rintro e w3 ⟨rfl, hb3⟩
    have hr3 := hr2.after hb3
    have hq3 := NewN.of_own (base := w.heap.size + 1 + 1 + 1 + 1) ho hb3 (Nat.le_trans hr.size hg)
    go_wp2_with fail
    refine (c_natural_Of (m % n) _ (by omega)).mono ?_
    rintro e w4 ⟨v, rfl, hv, hb4⟩
    have hr4 := hr3.after hb4
    have hq4 := hq3.mono hb4
    have hv4 := hv.weaken hr3.size
    obtain ⟨av, cv, rfl, hcv, hxv⟩ := hv4
    have hv5 : NewN (w.heap.size + 1 + 1 + 1 + 1) w4 (.agg #[.slice av (nl (m % n)) cv]) (m % n) := ⟨av, cv, rfl, hcv, hxv⟩
    clear hxv hv
    obtain ⟨q1, q2, q3, q4⟩ := And.intro hr4.cell1 (And.intro hr4.cell2 (And.intro hr4.frozen1 hr4.frozen2))
    go_wp2
    exact hr4.ret hq4 hv5 rfl rfl rfl rfl
end Go.Proofs.Ythpndmamegfbkaa
