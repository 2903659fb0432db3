/- The contract of Gcd. -/
import Derived.Test.YthpndmamegfbkaaA2
import Derived.Test.YthpndmamegfbkaaN12
namespace Go.Proofs.Ythpndmamegfbkaa
set_option linter.unusedSimpArgs false
set_option linter.unusedVariables false
open Go.RowKit
/-- The state behind 'x, y := ..': the result variable rc, the variables g1 and g2. -/
structure Two (w wx : World) (rc g1 g2 x y : Nat) : Prop where
  below : Below w.heap.size w wx
  res : VarB wx rc none 0 0
  rbase : w.heap.size ≤ rc
  ne1 : rc ≠ g1
  ne2 : rc ≠ g2
  ne : g1 ≠ g2
  base1 : w.heap.size ≤ g1
  base2 : w.heap.size ≤ g2
  var1 : VarN w.heap.size wx g1 x
  var2 : VarN w.heap.size wx g2 y
theorem two_set {w w1 : World} {rc g5 g6 M N L5 c5 L6 c6 cx cy : Nat} {a5 a6 x y : Option Addr} (hb : Below w.heap.size w w1) (kr : VarB w1 rc none 0 0) (v5 : VarB w1 g5 a5 L5 c5) (v6 : VarB w1 g6 a6 L6 c6)
    (h1 : w.heap.size ≤ rc) (h2 : rc ≠ g5) (h3 : rc ≠ g6) (h4 : g5 ≠ g6) (h5 : w.heap.size ≤ g5) (h6 : w.heap.size ≤ g6)
    (hx : NewN w.heap.size w1 (.agg #[.slice x (nl M) cx]) M) (hy : NewN w.heap.size w1 (.agg #[.slice y (nl N) cy]) N) :
    Two w ((w1.setCell ⟨g5, 0, none⟩ (.slice x (nl M) cx)).setCell ⟨g6, 0, none⟩ (.slice y (nl N) cy)) rc g5 g6 M N := by
  have v6' := v6.setOther ⟨g5, 0, none⟩ (.slice x (nl M) cx) h4
  exact ⟨(hb.setCell (p := ⟨g5, 0, none⟩) h5 _).setCell (p := ⟨g6, 0, none⟩) h6 _, (kr.setOther _ _ (fun e => h2 e.symm)).setOther _ _ (fun e => h3 e.symm), h1, h2, h3, h4, h5, h6,
    ⟨x, cx, v5.set.setOther _ _ (fun e => h4 e.symm), (hx.setVar v5).setVar v6'⟩, ⟨y, cy, v6'.set, (hy.setVar v5).setVar v6'⟩⟩
def copyF (base : Nat) (a b : Option Addr) (m ca n cb : Nat) : Nat → Value → World → Prop
  | 0, v, _ => ∃ so, v = .slice so 0 0
  | 5, v, _ => ∃ so, v = .slice so 0 0
  | 2, v, _ => v = .slice a (nl m) ca
  | 7, v, _ => v = .slice b (nl n) cb
  | 3, v, w => ∃ x c, v = .slice x (nl m) c ∧ nl m ≤ c ∧ CopyR w base x (nl m) m
  | 8, v, w => ∃ x c, v = .slice x (nl n) c ∧ nl n ≤ c ∧ CopyR w base x (nl n) n
  | 4, v, w => NewN base w v m
  | 9, v, w => NewN base w v n
  | 10, v, w => ∃ g, v = .pointer (some ⟨g, 0, none⟩) ∧ base ≤ g ∧ VarB w g none 0 0
  | 11, v, w => ∃ g, v = .pointer (some ⟨g, 0, none⟩) ∧ base ≤ g ∧ VarB w g none 0 0
  | _, _, _ => True
theorem copyF_keep (base : Nat) (a b : Option Addr) (m ca n cb : Nat) (i : Nat) (v : Value) (w w' : World) (h : copyF base a b m ca n cb i v w) (hb : Below w.heap.size w w') : copyF base a b m ca n cb i v w' := by
  unfold copyF at h ⊢
  split at h
  all_goals first
    | exact h
    | (obtain ⟨x, c, rfl, hc, hr⟩ := h; exact ⟨x, c, rfl, hc, hr.mono hb⟩)
    | exact NewN.mono h hb
    | (obtain ⟨g, rfl, hg, hv⟩ := h; exact ⟨g, rfl, hg, hv.mono hb hv.lt⟩)
theorem start3 (w : World) (a b : Option Addr) (L ca M cb : Nat) :
    Below w.heap.size w (((w.alloc (.cells #[.slice a L ca] 24)).alloc (.cells #[.slice b M cb] 24)).alloc (.cells #[.slice none 0 0] 24)).drew ∧
    VarB (((w.alloc (.cells #[.slice a L ca] 24)).alloc (.cells #[.slice b M cb] 24)).alloc (.cells #[.slice none 0 0] 24)).drew w.heap.size a L ca ∧
    VarB (((w.alloc (.cells #[.slice a L ca] 24)).alloc (.cells #[.slice b M cb] 24)).alloc (.cells #[.slice none 0 0] 24)).drew (w.heap.size + 1) b M cb ∧
    VarB (((w.alloc (.cells #[.slice a L ca] 24)).alloc (.cells #[.slice b M cb] 24)).alloc (.cells #[.slice none 0 0] 24)).drew (w.heap.size + 1 + 1) none 0 0 := by
  have b1 : Below (w.alloc (.cells #[.slice a L ca] 24)).heap.size (w.alloc (.cells #[.slice a L ca] 24)) ((w.alloc (.cells #[.slice a L ca] 24)).alloc (.cells #[.slice b M cb] 24)) := (Below.refl _ _).alloc (Nat.le_refl _) _
  have b2 : Below ((w.alloc (.cells #[.slice a L ca] 24)).alloc (.cells #[.slice b M cb] 24)).heap.size ((w.alloc (.cells #[.slice a L ca] 24)).alloc (.cells #[.slice b M cb] 24))
    (((w.alloc (.cells #[.slice a L ca] 24)).alloc (.cells #[.slice b M cb] 24)).alloc (.cells #[.slice none 0 0] 24)).drew := bel_drewN ((Below.refl _ _).alloc (Nat.le_refl _) _) 1
  refine ⟨bel_drewN ((((Below.refl _ _).alloc (Nat.le_refl _) _).alloc (by simp) _).alloc (by simp; omega) _) 1, ?_, ?_, ?_⟩
  · exact ((VarB.made w a L ca).mono b1 (by simp)).mono b2 (by simp; omega)
  · have h := (VarB.made (w.alloc (.cells #[.slice a L ca] 24)) b M cb).mono b2 (by simp)
    rw [World.size_alloc] at h
    exact h
  · have h := VarB.made ((w.alloc (.cells #[.slice a L ca] 24)).alloc (.cells #[.slice b M cb] 24)) none 0 0
    rw [World.size_alloc, World.size_alloc] at h
    exact h
set_option maxHeartbeats 4000000 in
theorem c_natural_Gcd (va vb : Value) (m n : Nat) (w : World) (ha : IsN w va m) (hb : IsN w vb n) (hm : nl m ≤ 1000000000000) (hn : nl n ≤ 1000000000000) :
    Calls Try.prog 19 #[va, vb] w fun e w' => RetNew w (Nat.gcd m n) e w' := by
  obtain ⟨a, ca, rfl, hca, ra⟩ := ha
  obtain ⟨b, cb, rfl, hcb, rb⟩ := hb
  go_enter Try.func19, Try.ntmps19
  go_upto_region 1 with (fail)
  go_cut [5, 6] (fun s5 s6 wx => ∃ g5 g6, s5 = .pointer (some ⟨g5, 0, none⟩) ∧ s6 = .pointer (some ⟨g6, 0, none⟩) ∧ Two w wx (w.heap.size + 1 + 1) g5 g6 m n)
  case first =>
    obtain ⟨hw0, k2, k3, k4⟩ := start3 w a b (nl m) ca (nl n) cb
    refine wp_region_any (by kernel_rfl) ?_
    change wpAny _ _ _ _ _ _ _ (World.drew _)
    generalize World.drew _ = w0 at *
    refine wpAny_takeD (i := 1) (d := some 11) (v := ?v1_1) rfl rfl (by kernel_rfl) (by kernel_rfl) (by kernel_rfl) (fun _ _ _ h => h) (Or.inl ⟨by rfl, ?hy1_1⟩) ?_
    case hy1_1 => (intro w; go_simp; try with_reducible rfl)
    try simp only [Act.put, List.setIfInBounds_toArray, List.set_cons_zero, List.set_cons_succ]
    refine wpAny_takeD (i := 6) (d := some 16) (v := ?v1_6) rfl rfl (by kernel_rfl) (by kernel_rfl) (by kernel_rfl) (fun _ _ _ h => h) (Or.inl ⟨by rfl, ?hy1_6⟩) ?_
    case hy1_6 => (intro w; go_simp; try with_reducible rfl)
    try simp only [Act.put, List.setIfInBounds_toArray, List.set_cons_zero, List.set_cons_succ]
    refine wpAny_phaseD (fuel := 2) [(0, 10), (2, 12), (3, 13), (4, 14), (5, 15), (7, 17), (8, 18), (9, 19), (10, 5), (11, 6)] 4 (fun i => i == 10 || i == 11) (copyF w0.heap.size a b m ca n cb) (by kernel_rfl) (by kernel_rfl) (by decide) (fun i _ v w1 w2 h hb => copyF_keep _ _ _ _ _ _ _ i v w1 w2 h hb) ?_ ?_ ?_
    · intro i _ hal v w1 h
      simp only [Bool.or_eq_true, beq_iff_eq] at hal
      rcases hal with rfl | rfl <;> (obtain ⟨g, rfl, _, hv⟩ := h; exact hv.lt)
    · intro p hp f w1 hb1 hF K hK
      have hb1' := hw0.trans (hb1.mono hw0.size)
      simp only [List.mem_cons, List.not_mem_nil, or_false] at hp
      rcases hp with rfl | rfl | rfl | rfl | rfl | rfl | rfl | rfl | rfl | rfl
      · refine wpOp_step rfl (fun K' hK' => ?_)
        replace hK := fun v w'' h1 h2 h3 => hK' _ _ (hK v w'' h1 h2 h3)
        clear hK'
        simp only [putD, List.foldl_cons, List.foldl_nil, Act.put, List.setIfInBounds_toArray, List.set_cons_zero, List.set_cons_succ] at hK ⊢
        go_simp
        exact hK _ _ ⟨_, rfl⟩ ((Below.refl _ _).alloc (Nat.le_refl _) _) (by simp)
      · refine wpOp_step rfl (fun K' hK' => ?_)
        replace hK := fun v w'' h1 h2 h3 => hK' _ _ (hK v w'' h1 h2 h3)
        clear hK'
        simp only [putD, List.foldl_cons, List.foldl_nil, Act.put, List.setIfInBounds_toArray, List.set_cons_zero, List.set_cons_succ] at hK ⊢
        have c1 := (k2.mono hb1 k2.lt).cell
        go_simp
        exact hK _ _ rfl (Below.refl _ _) (by simp)
      · simp only [putD, List.foldl_cons, List.foldl_nil, Act.put, List.setIfInBounds_toArray, List.set_cons_zero, List.set_cons_succ] at hK ⊢
        obtain ⟨so, e0⟩ := hF 0 (by decide) (by decide)
        have e2 := hF 2 (by decide) (by decide)
        simp only [copyF] at e2
        refine wpOp_append_copy rfl rfl rfl (.tmp 10) (.tmp 12) rfl w0.heap.size hb1.size so ?_ a (nl m) ca m ?_ (ra.mono hb1') (by omega) ?_
        · exact e0
        · exact e2
        · intro a' c' w' h1 h2 h3
          exact hK _ _ ⟨a', c', rfl, h2, h1⟩ h3 (by simp)
      · refine wpOp_step rfl (fun K' hK' => ?_)
        replace hK := fun v w'' h1 h2 h3 => hK' _ _ (hK v w'' h1 h2 h3)
        clear hK'
        simp only [putD, List.foldl_cons, List.foldl_nil, Act.put, List.setIfInBounds_toArray, List.set_cons_zero, List.set_cons_succ] at hK ⊢
        obtain ⟨x, c, e0, hc, hcp⟩ := hF 3 (by decide) (by decide)
        go_simp
        simp only [e0] at hK
        refine (c_made x (nl m) c m _ (by omega) hc (hcp.rw' (lt_nl m))).mono ?_
        rintro e w2 ⟨rfl, hb2⟩
        exact hK _ _ ((hcp.mono hb2).newN (Nat.le_refl _)) hb2 (by simp)
      · refine wpOp_step rfl (fun K' hK' => ?_)
        replace hK := fun v w'' h1 h2 h3 => hK' _ _ (hK v w'' h1 h2 h3)
        clear hK'
        simp only [putD, List.foldl_cons, List.foldl_nil, Act.put, List.setIfInBounds_toArray, List.set_cons_zero, List.set_cons_succ] at hK ⊢
        go_simp
        exact hK _ _ ⟨_, rfl⟩ ((Below.refl _ _).alloc (Nat.le_refl _) _) (by simp)
      · refine wpOp_step rfl (fun K' hK' => ?_)
        replace hK := fun v w'' h1 h2 h3 => hK' _ _ (hK v w'' h1 h2 h3)
        clear hK'
        simp only [putD, List.foldl_cons, List.foldl_nil, Act.put, List.setIfInBounds_toArray, List.set_cons_zero, List.set_cons_succ] at hK ⊢
        have c1 := (k3.mono hb1 k3.lt).cell
        go_simp
        exact hK _ _ rfl (Below.refl _ _) (by simp)
      · simp only [putD, List.foldl_cons, List.foldl_nil, Act.put, List.setIfInBounds_toArray, List.set_cons_zero, List.set_cons_succ] at hK ⊢
        obtain ⟨so, e0⟩ := hF 5 (by decide) (by decide)
        have e2 := hF 7 (by decide) (by decide)
        simp only [copyF] at e2
        refine wpOp_append_copy rfl rfl rfl (.tmp 15) (.tmp 17) rfl w0.heap.size hb1.size so ?_ b (nl n) cb n ?_ (rb.mono hb1') (by omega) ?_
        · exact e0
        · exact e2
        · intro a' c' w' h1 h2 h3
          exact hK _ _ ⟨a', c', rfl, h2, h1⟩ h3 (by simp)
      · refine wpOp_step rfl (fun K' hK' => ?_)
        replace hK := fun v w'' h1 h2 h3 => hK' _ _ (hK v w'' h1 h2 h3)
        clear hK'
        simp only [putD, List.foldl_cons, List.foldl_nil, Act.put, List.setIfInBounds_toArray, List.set_cons_zero, List.set_cons_succ] at hK ⊢
        obtain ⟨x, c, e0, hc, hcp⟩ := hF 8 (by decide) (by decide)
        go_simp
        simp only [e0] at hK
        refine (c_made x (nl n) c n _ (by omega) hc (hcp.rw' (lt_nl n))).mono ?_
        rintro e w2 ⟨rfl, hb2⟩
        exact hK _ _ ((hcp.mono hb2).newN (Nat.le_refl _)) hb2 (by simp)
      · refine wpOp_step rfl (fun K' hK' => ?_)
        replace hK := fun v w'' h1 h2 h3 => hK' _ _ (hK v w'' h1 h2 h3)
        clear hK'
        simp only [putD, List.foldl_cons, List.foldl_nil, Act.put, List.setIfInBounds_toArray, List.set_cons_zero, List.set_cons_succ] at hK ⊢
        go_simp
        exact hK _ _ ⟨_, rfl, hb1.size, VarB.made _ _ _ _⟩ ((Below.refl _ _).alloc (Nat.le_refl _) _) (fun _ => Nat.le_refl _)
      · refine wpOp_step rfl (fun K' hK' => ?_)
        replace hK := fun v w'' h1 h2 h3 => hK' _ _ (hK v w'' h1 h2 h3)
        clear hK'
        simp only [putD, List.foldl_cons, List.foldl_nil, Act.put, List.setIfInBounds_toArray, List.set_cons_zero, List.set_cons_succ] at hK ⊢
        go_simp
        exact hK _ _ ⟨_, rfl, hb1.size, VarB.made _ _ _ _⟩ ((Below.refl _ _).alloc (Nat.le_refl _) _) (fun _ => Nat.le_refl _)
    · intro f w1 hb1 hF hsep
      have hb1' := hw0.trans (hb1.mono hw0.size)
      obtain ⟨g5, e5, hg5, v5⟩ := hF 10 (by decide)
      obtain ⟨g6, e6, hg6, v6⟩ := hF 11 (by decide)
      have hne := hsep 10 (by decide) 11 (by decide) rfl rfl (by decide)
      rw [e5, e6] at hne
      have hne' : g5 ≠ g6 := hne
      clear hne
      have hz4 := k4.lt
      have hz0 := hw0.size
      have h4 : NewN w.heap.size w1 _ _ := NewN.weaken (hF 4 (by decide)) hz0
      have h9 : NewN w.heap.size w1 _ _ := NewN.weaken (hF 9 (by decide)) hz0
      obtain ⟨x, cx, e4, hcx, hxx⟩ := h4
      obtain ⟨y, cy, e9, hcy, hyy⟩ := h9
      have hx : NewN w.heap.size w1 (.agg #[.slice x (nl m) cx]) m := ⟨x, cx, rfl, hcx, hxx⟩
      have hy : NewN w.heap.size w1 (.agg #[.slice y (nl n) cy]) n := ⟨y, cy, rfl, hcy, hyy⟩
      have kr := k4.mono hb1 k4.lt
      have hr5 : w.heap.size + 1 + 1 ≠ g5 := by omega
      have hr6 : w.heap.size + 1 + 1 ≠ g6 := by omega
      have hT := two_set hb1' kr v5 v6 (by omega) hr5 hr6 hne' (by omega) (by omega) hx hy
      have c5 := v5.cell
      have f5 := v5.frozen
      have v6' := v6.setOther ⟨g5, 0, none⟩ (.slice x (nl m) cx) hne'
      have c6 := v6'.cell
      have f6 := v6'.frozen
      clear hF hsep hxx hyy
      simp only [putD, List.foldl_cons, List.foldl_nil, Act.put, List.setIfInBounds_toArray, List.set_cons_zero, List.set_cons_succ, e4, e9, e5, e6]
      refine wpAny_ready (rs := [12]) (by kernel_rfl) (by simp) ?_
      refine AllReady.cons rfl (fun K hK => ?_) AllReady.nil
      go_simp
      refine hK _ _ ?_
      clear hK K
      refine wpAny_ready (rs := [13]) (by kernel_rfl) (by simp) ?_
      refine AllReady.cons rfl (fun K hK => ?_) AllReady.nil
      go_simp
      refine hK _ _ ?_
      clear hK K
      refine wpAny_done (by kernel_rfl) ?_ _
      go_wp2_with fail
      go_meet
      case rel => exact ⟨g5, g6, rfl, rfl, hT⟩
  case rest =>
    obtain ⟨g5, g6, rfl, rfl, hT⟩ := hcut
    clear ra rb
    go_wp2_with fail
    go_loopw [] (fun wr => ∃ x y : Nat, Nat.gcd x y = Nat.gcd m n ∧ nl x ≤ 1000000000000 ∧ nl y ≤ 1000000000000 ∧ Two w wr (w.heap.size + 1 + 1) g5 g6 x y)
      (fun wr => valAt wr g6)
    case atStart => exact ⟨m, n, rfl, hm, hn, hT⟩
    case round =>
      obtain ⟨x, y, hxy, hx, hy, hs⟩ := hrel
      obtain ⟨ax, cx, vx, nx⟩ := hs.var1
      obtain ⟨ay, cy, vy, ny⟩ := hs.var2
      have c5 := vx.cell
      have c6 := vy.cell
      have cr := hs.res.cell
      have fr := hs.res.frozen
      by_cases hy0 : y = 0
      · subst hy0
        rw [nl_zero] at c6
        rw [Nat.gcd_zero_right] at hxy
        have HXY := Lib.hid hxy
        clear hxy
        have hfin : NewN w.heap.size (wr.setCell ⟨w.heap.size + 1 + 1, 0, none⟩ (.slice ax (nl x) cx)) (.agg #[.slice ax (nl x) cx]) (Nat.gcd m n) := by rw [← HXY.out]; exact nx.setVar hs.res
        have hcell := (hs.res.set (a' := ax) (L' := nl x) (c' := cx)).cell
        have hbel := hs.below.setCell (p := ⟨w.heap.size + 1 + 1, 0, none⟩) hs.rbase (.slice ax (nl x) cx)
        go_wp2
        exact bodyPost_ret (res_nat rfl _ _ (w.heap.size + 1 + 1) _ rfl hcell) rfl ⟨_, rfl, hfin, hbel⟩
      · have hny := nl_pos hy0
        go_wp2_with fail
        refine (c_natural_DivMod _ _ x y _ nx.isN ny.isN hx hy hy0).mono ?_
        rintro e w1 ⟨vq, vr, rfl, ⟨aq, cq, rfl, hcq, hxq⟩, ⟨ar, cr', rfl, hcr, hxr⟩, hb1⟩
        have f5 := vx.frozen
        have f6 := vy.frozen
        go_upto_region 4 with (fail)
        have hb3 : Below wr.heap.size wr ((w1.alloc (.cells #[.slice aq (nl (x / y)) cq] 24)).alloc (.cells #[.slice ar (nl (x % y)) cr'] 24)).drew :=
          bel_drewN (hb1.trans (((Below.refl w1.heap.size w1).alloc (Nat.le_refl _) _).alloc (by simp) _ |>.mono hb1.size)) 1
        have hb4 : Below w1.heap.size w1 ((w1.alloc (.cells #[.slice aq (nl (x / y)) cq] 24)).alloc (.cells #[.slice ar (nl (x % y)) cr'] 24)).drew :=
          bel_drewN (((Below.refl w1.heap.size w1).alloc (Nat.le_refl _) _).alloc (by simp) _) 1
        have v8 : VarB ((w1.alloc (.cells #[.slice aq (nl (x / y)) cq] 24)).alloc (.cells #[.slice ar (nl (x % y)) cr'] 24)).drew (w1.heap.size + 1) ar (nl (x % y)) cr' := by
          have h := VarB.made (w1.alloc (.cells #[.slice aq (nl (x / y)) cq] 24)) ar (nl (x % y)) cr'
          rw [World.size_alloc] at h
          exact h
        refine wp_region_any (by kernel_rfl) ?_
        change wpAny _ _ _ _ _ _ _ (World.drew _)
        generalize World.drew _ = w3 at *
        have nr : NewN w.heap.size w3 (.agg #[.slice ar (nl (x % y)) cr']) (x % y) := NewN.mono (NewN.weaken (base := wr.heap.size) ⟨ar, cr', rfl, hcr, hxr⟩ hs.below.size) hb4
        have ny3 := ny.mono hb3
        have vx3 := vx.mono hb3 vx.lt
        have vy3 := vy.mono hb3 vy.lt
        have kr3 := hs.res.mono hb3 hs.res.lt
        have hT' := two_set (hs.below.trans (hb3.mono hs.below.size)) kr3 vx3 vy3 hs.rbase hs.ne1 hs.ne2 hs.ne hs.base1 hs.base2 ny3 nr
        have hl8 : w1.heap.size + 1 ≠ g5 := by have := vx.lt; have := hb1.size; omega
        have v8' := v8.setOther ⟨g5, 0, none⟩ (.slice ay (nl y) cy) (fun e => hl8 e.symm)
        have vy3' := vy3.setOther ⟨g5, 0, none⟩ (.slice ay (nl y) cy) hs.ne
        have hsv := hs.var2.valAt
        have htv := hT'.var2.valAt
        have hmod := Nat.mod_lt x (Nat.pos_of_ne_zero hy0)
        have hgc : Nat.gcd y (x % y) = Nat.gcd m n := by rw [← hxy, Nat.gcd_comm x y, Nat.gcd_rec y x, Nat.gcd_comm]
        have hnr : nl (x % y) ≤ 1000000000000 := Nat.le_trans (nl_mono (Nat.le_of_lt hmod)) hy
        clear c5 c6 cr fr f5 f6 hxq hxr
        have c6 := vy3.cell
        have c8 := v8.cell
        have f5 := vx3.frozen
        have c5 := vx3.cell
        have c6' := vy3'.cell
        have f6' := vy3'.frozen
        have c8' := v8'.cell
        refine wpAny_take_loadD (i := 0) (t := 2) (d := some 31) (v := ?v4_0_1) rfl rfl (by decide) rfl rfl (by kernel_rfl) (by kernel_rfl) (fun _ _ _ h => h) ⟨by rfl, ?hy4_0_1⟩ ?_
        case hy4_0_1 => (go_simp; try with_reducible rfl)
        try simp only [Act.put, List.setIfInBounds_toArray, List.set_cons_zero, List.set_cons_succ]
        refine wpAny_ready (rs := [1, 2]) (by kernel_rfl) (by simp) ?_
        refine AllReady.cons rfl (fun K hK => ?_) ?_
        · go_simp
          refine hK _ _ ?_
          clear hK K
          try simp only [Act.put, List.setIfInBounds_toArray, List.set_cons_zero, List.set_cons_succ]
          refine wpAny_ready (rs := [2]) (by kernel_rfl) (by simp) ?_
          refine AllReady.cons rfl (fun K hK => ?_) AllReady.nil
          go_simp
          refine hK _ _ ?_
          clear hK K
          try simp only [Act.put, List.setIfInBounds_toArray, List.set_cons_zero, List.set_cons_succ]
          refine wpAny_ready (rs := [3]) (by kernel_rfl) (by simp) ?_
          refine AllReady.cons rfl (fun K hK => ?_) AllReady.nil
          go_simp
          refine hK _ _ ?_
          clear hK K
          try simp only [Act.put, List.setIfInBounds_toArray, List.set_cons_zero, List.set_cons_succ]
          refine wpAny_done (by kernel_rfl) ?_ _
          go_wp2_with fail
          go_roundw
          case rel => exact ⟨y, x % y, hgc, hy, hnr, hT'⟩
          case measure => rw [hsv, htv]; exact hmod
        refine AllReady.cons rfl (fun K hK => ?_) ?_
        · go_simp
          refine hK _ _ ?_
          clear hK K
          try simp only [Act.put, List.setIfInBounds_toArray, List.set_cons_zero, List.set_cons_succ]
          refine wpAny_ready (rs := [1]) (by kernel_rfl) (by simp) ?_
          refine AllReady.cons rfl (fun K hK => ?_) AllReady.nil
          go_simp
          refine hK _ _ ?_
          clear hK K
          try simp only [Act.put, List.setIfInBounds_toArray, List.set_cons_zero, List.set_cons_succ]
          refine wpAny_ready (rs := [3]) (by kernel_rfl) (by simp) ?_
          refine AllReady.cons rfl (fun K hK => ?_) AllReady.nil
          go_simp
          refine hK _ _ ?_
          clear hK K
          try simp only [Act.put, List.setIfInBounds_toArray, List.set_cons_zero, List.set_cons_succ]
          refine wpAny_done (by kernel_rfl) ?_ _
          go_wp2_with fail
          go_roundw
          case rel => exact ⟨y, x % y, hgc, hy, hnr, hT'⟩
          case measure => rw [hsv, htv]; exact hmod
        exact AllReady.nil
end Go.Proofs.Ythpndmamegfbkaa
