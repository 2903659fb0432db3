/- The reference's Gcd. -/
import Derived.Test.YthpndmamegfbkaaE9
namespace Go.Proofs.Ythpndmamegfbkaa
set_option linter.unusedSimpArgs false
set_option linter.unusedVariables false
open Go.RowKit
structure GT (w wx : World) (x y : Nat) : Prop where
  below : Below w.heap.size w wx
  res : VarB wx (w.heap.size + 2) none 0 0
  v1 : VarI wx w.heap.size x
  v2 : VarI wx (w.heap.size + 1) y
theorem GT.mono {w wx w' : World} {x y : Nat} (h : GT w wx x y) (hb : Below wx.heap.size wx w') : GT w w' x y :=
  ⟨h.below.trans (hb.mono h.below.size), h.res.mono hb h.res.lt, h.v1.mono hb, h.v2.mono hb⟩
theorem gt_set {w w1 : World} {x0 y0 M N cx cy : Nat} {x y : Option Addr} (h : GT w w1 x0 y0) (hx : IsN w1 (.agg #[.slice x (nl M) cx]) M) (hy : IsN w1 (.agg #[.slice y (nl N) cy]) N) :
    GT w ((w1.setCell ⟨w.heap.size, 0, none⟩ (.slice x (nl M) cx)).setCell ⟨w.heap.size + 1, 0, none⟩ (.slice y (nl N) cy)) M N := by
  obtain ⟨a1, c1, b1, n1⟩ := h.v1
  obtain ⟨a2, c2, b2, n2⟩ := h.v2
  have b2' := b2.setOther ⟨w.heap.size, 0, none⟩ (.slice x (nl M) cx) (by simp)
  exact ⟨(h.below.setCell (p := ⟨w.heap.size, 0, none⟩) (Nat.le_refl _) _).setCell (p := ⟨w.heap.size + 1, 0, none⟩) (Nat.le_succ _) _, (h.res.setOther _ _ (by simp)).setOther _ _ (by simp),
    ⟨x, cx, b1.set.setOther _ _ (by simp), (hx.setVar b1).setVar b2'⟩, ⟨y, cy, b2'.set, (hy.setVar b1).setVar b2'⟩⟩
noncomputable def valI (w : World) (g : Nat) : Nat := Classical.epsilon (fun N => VarI w g N)
theorem VarI.val {w : World} {g N : Nat} (h : VarI w g N) : valI w g = N := by
  obtain ⟨a', c', hb', hn'⟩ := Classical.epsilon_spec (p := fun N => VarI w g N) ⟨N, h⟩
  obtain ⟨a, c, hb, hn⟩ := h
  have e := hb'.symm.trans hb
  simp only [Option.some.injEq, Obj.cells.injEq, Array.mk.injEq, List.cons.injEq, Value.slice.injEq, and_true] at e
  rw [e.1, e.2.1, e.2.2] at hn'
  exact hn'.unique hn
set_option maxRecDepth 100000 in
set_option maxHeartbeats 4000000 in
theorem c_ref_Gcd (va vb : Value) (m n : Nat) (w : World) (ha : IsN w va m) (hb : IsN w vb n) (hm : nl m ≤ 100000000000) (hn : nl n ≤ 100000000000) :
    Calls Try.prog 20 #[va, vb] w fun e w' => RetN w (Nat.gcd m n) e w' := by
  obtain ⟨a, ca, rfl, hca, ra⟩ := ha
  obtain ⟨b, cb, rfl, hcb, rb⟩ := hb
  go_enter Try.func20, Try.ntmps20
  go_upto_region 0 with (fail)
  go_cut [2, 3, 4] (fun s2 s3 s4 wx => s2 = .pointer (some ⟨w.heap.size, 0, none⟩) ∧ s3 = .pointer (some ⟨w.heap.size + 1, 0, none⟩) ∧ s4 = .pointer (some ⟨w.heap.size + 2, 0, none⟩) ∧ GT w wx m n)
  case first =>
    obtain ⟨k0, k1, k2⟩ := box2 (L := nl m) (c := ca) (N := m) (L2 := nl n) (c2 := cb) (N2 := n) ⟨a, ca, rfl, hca, ra⟩ ⟨b, cb, rfl, hcb, rb⟩
    have k3 := bel1 ((w.alloc (.cells #[.slice a (nl m) ca] 24)).alloc (.cells #[.slice b (nl n) cb] 24)) (.cells #[.slice none 0 0] 24)
    have k4 := VarB.made ((w.alloc (.cells #[.slice a (nl m) ca] 24)).alloc (.cells #[.slice b (nl n) cb] 24)) none 0 0
    rw [World.size_alloc, World.size_alloc] at k4
    have hT : GT w _ m n := ⟨k0.trans (k3.mono k0.size), k4, VarR.mono k1 k3, VarR.mono k2 k3⟩
    go_wp2_with fail
    go_meet
    case rel => exact ⟨rfl, rfl, rfl, hT⟩
  case rest =>
    obtain ⟨rfl, rfl, rfl, hT⟩ := hcut
    clear ra rb hca hcb
    go_wp2_with fail
    go_loopw [] (fun wr => ∃ x y : Nat, Hid (Nat.gcd x y = Nat.gcd m n) ∧ nl x ≤ 100000000000 ∧ nl y ≤ 100000000000 ∧ GT w wr x y) (fun wr => valI wr (w.heap.size + 1))
    case atStart => exact ⟨m, n, Lib.hid rfl, hm, hn, hT⟩
    case round =>
      clear hT
      obtain ⟨x, y, HXY, hx, hy, hs⟩ := hrel
      obtain ⟨ax, cx, vx, nx⟩ := hs.v1
      obtain ⟨ay, cy, vy, ny⟩ := hs.v2
      have c5 := vx.cell
      have c6 := vy.cell
      have cr := hs.res.cell
      have fr := hs.res.frozen
      by_cases hy0 : y = 0
      · subst hy0
        rw [nl_zero] at c6
        have hx0 : x = Nat.gcd m n := by have := HXY.out; rwa [Nat.gcd_zero_right] at this
        have HX0 := Lib.hid hx0
        clear hx0
        have hfin := nx.setVar (u := .slice ax (nl x) cx) hs.res
        have hcell := (hs.res.set (a' := ax) (L' := nl x) (c' := cx)).cell
        have hbel := hs.below.setCell (p := ⟨w.heap.size + 2, 0, none⟩) (Nat.le_add_right _ _) (.slice ax (nl x) cx)
        go_wp2
        exact bodyPost_ret (res_nat rfl _ _ (w.heap.size + 2) _ rfl hcell) rfl ⟨_, rfl, by rw [← HX0.out]; exact hfin, hbel⟩
      · have hny := nl_pos hy0
        have HY0 := Lib.hid hy0
        clear hy0
        go_wp2_with fail
        refine (c_ref_DivMod _ _ x y _ nx ny hx hy HY0.out).mono ?_
        rintro e w1 ⟨vq, vr, rfl, nq, nr, hb1⟩
        obtain ⟨R0, hR0⟩ : ∃ N : Nat, Hid (N = x % y) := ⟨_, Lib.hid rfl⟩
        obtain ⟨Q0, hQ0⟩ : ∃ N : Nat, Hid (N = x / y) := ⟨_, Lib.hid rfl⟩
        rw [← hR0.out] at nr
        rw [← hQ0.out] at nq
        obtain ⟨aq, cq, rfl, hcq, hxq⟩ := nq
        obtain ⟨ar, cr', rfl, hcr, hxr⟩ := nr
        obtain ⟨k0, k1, k2⟩ := start2 w1 aq ar (nl Q0) cq (nl R0) cr'
        have nr : IsN w1 (.agg #[.slice ar (nl R0) cr']) R0 := NewN.isN ⟨ar, cr', rfl, hcr, hxr⟩
        have hb2 := hb1.trans (k0.mono hb1.size)
        go_upto_region 3 with (fail)
        have k3 := bel_drewN (Below.refl ((w1.alloc (.cells #[.slice aq (nl Q0) cq] 24)).alloc (.cells #[.slice ar (nl R0) cr'] 24)).heap.size ((w1.alloc (.cells #[.slice aq (nl Q0) cq] 24)).alloc (.cells #[.slice ar (nl R0) cr'] 24))) 1
        refine wp_region_any (by kernel_rfl) ?_
        change wpAny _ _ _ _ _ _ _ (World.drew _)
        have hs3 := hs.mono (hb2.trans (k3.mono hb2.size))
        have nr3 := nr.mono (k0.trans (k3.mono k0.size))
        have ny3 := ny.mono (hb2.trans (k3.mono hb2.size))
        have v8 : VarB (World.drewN _ 1) (w1.heap.size + 1) ar (nl R0) cr' := k2.mono k3 k2.lt
        have vy3 := vy.mono (hb2.trans (k3.mono hb2.size)) vy.lt
        have vx3 := vx.mono (hb2.trans (k3.mono hb2.size)) vx.lt
        have hl8 : w1.heap.size + 1 ≠ w.heap.size := by have := vx.lt; have := hb1.size; omega
        have hmod := Nat.mod_lt x (Nat.pos_of_ne_zero HY0.out)
        rw [← hR0.out] at hmod
        have hgc : Nat.gcd y R0 = Nat.gcd m n := by rw [hR0.out, ← HXY.out, Nat.gcd_comm x y, Nat.gcd_rec y x, Nat.gcd_comm]
        have HGC := Lib.hid hgc
        have hnr : nl R0 ≤ 100000000000 := Nat.le_trans (nl_mono (Nat.le_of_lt hmod)) hy
        clear hgc c5 c6 cr fr k0 k1 k2 k3 hb2 hxq hxr
        change GT w (World.drew _) x y at hs3
        change IsN (World.drew _) _ _ at nr3
        change IsN (World.drew _) _ _ at ny3
        change VarB (World.drew _) _ _ _ _ at v8
        change VarB (World.drew _) _ _ _ _ at vy3
        change VarB (World.drew _) _ _ _ _ at vx3
        generalize World.drew _ = w3 at *
        have hT' := gt_set hs3 ny3 nr3
        have v8' := v8.setOther ⟨w.heap.size, 0, none⟩ (.slice ay (nl y) cy) (fun e => hl8 e.symm)
        have vy3' := vy3.setOther ⟨w.heap.size, 0, none⟩ (.slice ay (nl y) cy) (by simp)
        have hsv := hs.v2.val
        have htv := hT'.v2.val
        have c6 := vy3.cell
        have c8 := v8.cell
        have f5 := vx3.frozen
        have c5 := vx3.cell
        have c6' := vy3'.cell
        have f6' := vy3'.frozen
        have c8' := v8'.cell
        refine wpAny_take_loadD (i := 0) (t := 2) (d := some 19) (v := ?v3_0_1) rfl rfl (by decide) rfl rfl (by kernel_rfl) (by kernel_rfl) (fun _ _ _ h => h) ⟨by rfl, ?hy3_0_1⟩ ?_
        case hy3_0_1 => (go_simp; try with_reducible rfl)
        try simp only [Act.put, List.setIfInBounds_toArray, List.set_cons_zero, List.set_cons_succ]
        refine wpAny_ready (rs := [1, 2]) (by kernel_rfl) (by simp) ?_
        refine AllReady.cons rfl (fun K hK => ?_) ?_
        · go_simp
          refine hK _ _ ?_
          clear hK K
          try simp only [Act.put, List.setIfInBounds_toArray, List.set_cons_zero, List.set_cons_succ]
          refine wpAny_ready (rs := [2]) (by kernel_rfl) (by simp) ?_
          refine AllReady.cons rfl (fun K hK => ?_) AllReady.nil
          go_simp
          refine hK _ _ ?_
          clear hK K
          try simp only [Act.put, List.setIfInBounds_toArray, List.set_cons_zero, List.set_cons_succ]
          refine wpAny_ready (rs := [3]) (by kernel_rfl) (by simp) ?_
          refine AllReady.cons rfl (fun K hK => ?_) AllReady.nil
          go_simp
          refine hK _ _ ?_
          clear hK K
          try simp only [Act.put, List.setIfInBounds_toArray, List.set_cons_zero, List.set_cons_succ]
          refine wpAny_done (by kernel_rfl) ?_ _
          go_wp2_with fail
          go_roundw
          case rel => exact ⟨y, R0, HGC, hy, hnr, hT'⟩
          case measure => rw [hsv, htv]; exact hmod
        refine AllReady.cons rfl (fun K hK => ?_) ?_
        · go_simp
          refine hK _ _ ?_
          clear hK K
          try simp only [Act.put, List.setIfInBounds_toArray, List.set_cons_zero, List.set_cons_succ]
          refine wpAny_ready (rs := [1]) (by kernel_rfl) (by simp) ?_
          refine AllReady.cons rfl (fun K hK => ?_) AllReady.nil
          go_simp
          refine hK _ _ ?_
          clear hK K
          try simp only [Act.put, List.setIfInBounds_toArray, List.set_cons_zero, List.set_cons_succ]
          refine wpAny_ready (rs := [3]) (by kernel_rfl) (by simp) ?_
          refine AllReady.cons rfl (fun K hK => ?_) AllReady.nil
          go_simp
          refine hK _ _ ?_
          clear hK K
          try simp only [Act.put, List.setIfInBounds_toArray, List.set_cons_zero, List.set_cons_succ]
          refine wpAny_done (by kernel_rfl) ?_ _
          go_wp2_with fail
          go_roundw
          case rel => exact ⟨y, R0, HGC, hy, hnr, hT'⟩
          case measure => rw [hsv, htv]; exact hmod
        exact AllReady.nil
end Go.Proofs.Ythpndmamegfbkaa
