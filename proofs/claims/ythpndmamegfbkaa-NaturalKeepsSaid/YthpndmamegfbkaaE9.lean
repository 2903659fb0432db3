/- The reference's DivMod. -/
import Derived.Test.YthpndmamegfbkaaE8
namespace Go.Proofs.Ythpndmamegfbkaa
set_option linter.unusedSimpArgs false
set_option linter.unusedVariables false
open Go.RowKit
theorem VarN.isI {base : Nat} {w : World} {g N : Nat} (h : VarN base w g N) : VarI w g N := by
  obtain ⟨a, c, h1, h2⟩ := h; exact ⟨a, c, h1, h2.isN⟩
theorem nl_le_of {a b : Nat} (h : a ≤ b) (hb : nl b ≤ 100000000000) : nl a ≤ 1000000000000 := Nat.le_trans (nl_mono h) (by omega)
theorem nl_twice0 {a b d : Nat} (h : a ≤ 2 * b + 1) (hb : nl b ≤ d) : nl a ≤ d + 1 := by
  have h1 := nl_le_iff.1 hb
  refine nl_le_iff.2 (Nat.lt_of_le_of_lt h ?_)
  rw [Nat.pow_succ]
  generalize 4294967296 ^ d = P at *
  omega
theorem nl_twice {a b : Nat} (h : a ≤ 2 * b + 1) (hb : nl b ≤ 100000000000) : nl a ≤ 1000000000000 := Nat.le_trans (nl_twice0 h hb) (by decide)
theorem len2_le {m d : Nat} (h : nl m ≤ d) : len2 m ≤ 32 * d := by
  unfold len2
  split
  · omega
  · rename_i hm0
    have h2 : m < 2 ^ (32 * d) := by rw [Nat.pow_mul]; exact nl_le_iff.1 h
    have := (Nat.log2_lt hm0).2 h2
    omega
def dmTab7 (w : World) (m r k S b R1 : Nat) : List (Nat × Tmp × Sp) :=
   [(0, 25, .nat (r)),
    (1, 26, .nat (r)),
    (2, 27, .nat (S)),
    (3, 28, .nat (m)),
    (4, 29, .val (Value.int IntKind.i64 ((k : Nat)))),
    (5, 30, .val (Value.int IntKind.u64 ((b : Nat)))),
    (6, 31, .nat (b)),
    (7, 32, .new w.heap.size (R1))]
def dmTab11 (w : World) (T0 T : Nat) : List (Nat × Tmp × Sp) :=
   [(0, 46, .nat (T0)),
    (1, 47, .nat (1)),
    (2, 48, .new w.heap.size (T))]
set_option maxRecDepth 100000 in
set_option maxHeartbeats 2000000 in
theorem c_ref_DivMod (va vb : Value) (m n : Nat) (w : World) (ha : IsN w va m) (hb : IsN w vb n) (hm : nl m ≤ 100000000000) (hn : nl n ≤ 100000000000) (h0 : n ≠ 0) :
    Calls Try.prog 47 #[va, vb] w fun e w' => RetDiv w (m / n) (m % n) 0 e w' := by
  obtain ⟨a, ca, rfl, hca, ra⟩ := ha
  obtain ⟨b, cb, rfl, hcb, rb⟩ := hb
  have hnp := nl_pos h0
  have hm' : nl m ≤ 1000000000000 := by omega
  have hn' : nl n ≤ 1000000000000 := by omega
  have HN0 := Lib.hid h0
  clear h0
  go_enter Try.func47, Try.ntmps47
  go_upto_region 0 with (fail)
  go_cut [2, 3, 4, 5, 6] (fun s2 s3 s4 s5 s6 wx => s2 = .pointer (some ⟨w.heap.size, 0, none⟩) ∧ s3 = .pointer (some ⟨w.heap.size + 1, 0, none⟩) ∧ s4 = .pointer (some ⟨w.heap.size + 2, 0, none⟩) ∧ s5 = .pointer (some ⟨w.heap.size + 3, 0, none⟩) ∧
     VarI wx w.heap.size m ∧ VarI wx (w.heap.size + 1) n ∧ VarB wx (w.heap.size + 2) none 0 0 ∧ VarB wx (w.heap.size + 3) none 0 0 ∧ Below w.heap.size w wx ∧ wx.heap.size = w.heap.size + 4)
  case first =>
    obtain ⟨k0, k1, k2⟩ := box2 (L := nl m) (c := ca) (N := m) (L2 := nl n) (c2 := cb) (N2 := n) ⟨a, ca, rfl, hca, ra⟩ ⟨b, cb, rfl, hcb, rb⟩
    have hz : ((w.alloc (.cells #[.slice a (nl m) ca] 24)).alloc (.cells #[.slice b (nl n) cb] 24)).heap.size = w.heap.size + 2 := by simp
    generalize hw2 : (w.alloc (.cells #[.slice a (nl m) ca] 24)).alloc (.cells #[.slice b (nl n) cb] 24) = w2 at *
    obtain ⟨j0, j1, j2⟩ := box2 (w := w2) (a := none) (L := 0) (c := 0) (N := 0) (b := none) (L2 := 0) (c2 := 0) (N2 := 0) ⟨none, 0, rfl, by omega, by decide, fun h => by omega⟩ ⟨none, 0, rfl, by omega, by decide, fun h => by omega⟩
    have v1 := VarB.made w2 none 0 0
    have v2 := VarB.made (w2.alloc (.cells #[.slice none 0 0] 24)) none 0 0
    have v1' := v1.mono (bel1 _ (.cells #[.slice none 0 0] 24)) v1.lt
    rw [World.size_alloc] at v2
    rw [hz] at v1' v2
    subst hw2
    go_wp2_with fail
    go_meet
    case rel => exact ⟨rfl, rfl, rfl, rfl, VarR.mono k1 j0, VarR.mono k2 j0, v1', v2, k0.trans (j0.mono k0.size), by simp⟩
  case rest =>
    obtain ⟨rfl, rfl, rfl, rfl, Va, Vb, vr1, vr2, hb1, hsz⟩ := hcut
    clear ra rb hca hcb
    go_upto_region 1 with (fail)
    go_cut [7, 8] (fun s7 s8 wx => s7 = .pointer (some ⟨w.heap.size + 4, 0, none⟩) ∧ s8 = .pointer (some ⟨w.heap.size + 5, 0, none⟩) ∧ DM w wx m n 0 0)
    case first =>
      obtain ⟨k0, k1, k2⟩ := start2 wc none none 0 0 0 0
      rw [hsz] at k1 k2
      have hB := hb1.trans (k0.mono hb1.size)
      have nn : ∀ wz, NewN w.heap.size wz (.agg #[.slice none (nl 0) 0]) 0 := fun wz => by rw [nl_zero]; exact NewN.of_zero
      have hD : DM w ((wc.alloc (.cells #[.slice none 0 0] 24)).alloc (.cells #[.slice none 0 0] 24)) m n 0 0 :=
        ⟨hB, Va.mono k0, Vb.mono k0, vr1.mono k0 vr1.lt, vr2.mono k0 vr2.lt, ⟨none, 0, by rw [nl_zero]; exact k1, nn _⟩, ⟨none, 0, by rw [nl_zero]; exact k2, nn _⟩⟩
      go_wp2_with fail
      go_meet
      case rel => exact ⟨rfl, rfl, hD⟩
    case rest =>
      clear Va Vb vr1 vr2 hb1 hsz
      obtain ⟨rfl, rfl, hd⟩ := hcut
      have hq0 : ∀ K : Nat, True := fun _ => trivial
      obtain ⟨yb, db, qb, ib⟩ := hd.vb
      have eb := qb.cell
      obtain ⟨ya, da, qa, ia⟩ := hd.va
      have ea := qa.cell
      have hne : ((nl n : Nat) : Int) ≠ 0 := by omega
      go_wp2_with fail
      refine (c_ref_Bits _ m _ ia hm').mono ?_
      rintro e w1 ⟨rfl, bb⟩
      replace hd := hd.mono bb
      clear ea qa ia eb qb ib bb
      have hlen : len2 m ≤ 32000000000000 := Nat.le_trans (len2_le hm) (by decide)
      have HL := Lib.hid (lt_len2 m)
      generalize len2 m = K at *
      go_wp2_with fail
      go_loopw [9] (fun s9 wr => ∃ k : Nat, k ≤ K ∧ s9 = .int .i64 ((k : Int) - 1) ∧ DM w wr m n (m / 2 ^ k / n) (m / 2 ^ k % n)) (fun s9 _ => ((intOf s9) + 1).toNat)
      case atStart => exact ⟨K, Nat.le_refl _, rfl, by rw [Nat.div_eq_of_lt HL.out, Nat.zero_div, Nat.zero_mod]; exact hd⟩
      case round =>
        clear hd
        obtain ⟨k, hk, rfl, hd⟩ := hrel
        cases k with
        | zero =>
          rw [Nat.pow_zero, Nat.div_one] at hd
          obtain ⟨aq, cq, kq, nq⟩ := hd.vq
          obtain ⟨ar, cr, kr, nr⟩ := hd.vr
          have c4 := kq.cell
          have c5 := kr.cell
          have f2 := hd.r1.frozen
          have f3 := hd.r2.frozen
          have c2 := hd.r1.cell
          have c3 := hd.r2.cell
          have hfin := hd.fin kq nq kr nr
          obtain ⟨q0, hq0'⟩ : ∃ N : Nat, Hid (N = m / n) := ⟨_, Lib.hid rfl⟩
          obtain ⟨r0, hr0'⟩ : ∃ N : Nat, Hid (N = m % n) := ⟨_, Lib.hid rfl⟩
          rw [← hq0'.out, ← hr0'.out] at hd
          rw [← hq0'.out] at kq nq
          rw [← hr0'.out] at kr nr
          clear hfin c2 c3 c4 c5 f2 f3
          go_upto_region 12 with (fail)
          refine wp_region_any (by kernel_rfl) ?_
          change wpAny _ _ _ _ _ _ _ (World.drew _)
          have bz : Below wr.heap.size wr (World.drew wr) := bel_drewN (Below.refl _ _) 1
          have hd3 := hd.mono bz
          have kq3 := kq.mono bz kq.lt
          have kr3 := kr.mono bz kr.lt
          have nq3 := nq.mono bz
          have nr3 := nr.mono bz
          clear bz
          generalize World.drew wr = w3 at *
          have c4 := kq3.cell
          have c5 := kr3.cell
          have f2 := hd3.r1.frozen
          have c2 := hd3.r1.cell
          have kr4 := kr3.setOther ⟨w.heap.size + 2, 0, none⟩ (.slice aq (nl q0) cq) (by simp)
          have c5' := kr4.cell
          have r24 := hd3.r2.setOther ⟨w.heap.size + 2, 0, none⟩ (.slice aq (nl q0) cq) (by simp)
          have c3' := r24.cell
          have f3' := r24.frozen
          obtain ⟨p1, p2, p3, p4, p5⟩ := hd3.fin kq3 nq3 kr3 nr3 _ (.inl rfl)
          have c6 := p1.cell
          have c7 := p2.cell
          refine wpAny_take_loadD (i := 0) (t := 2) (d := some 49) (v := ?v12_0_1) rfl rfl (by decide) rfl rfl (by kernel_rfl) (by kernel_rfl) (fun _ _ _ h => h) ⟨by rfl, ?hy12_0_1⟩ ?_
          case hy12_0_1 => (go_simp; try with_reducible rfl)
          try simp only [Act.put, List.setIfInBounds_toArray, List.set_cons_zero, List.set_cons_succ]
          refine wpAny_ready (rs := [1, 2]) (by kernel_rfl) (by simp) ?_
          refine AllReady.cons rfl (fun K hK => ?_) ?_
          · go_simp
            refine hK _ _ ?_
            clear hK K
            try simp only [Act.put, List.setIfInBounds_toArray, List.set_cons_zero, List.set_cons_succ]
            refine wpAny_ready (rs := [2]) (by kernel_rfl) (by simp) ?_
            refine AllReady.cons rfl (fun K hK => ?_) AllReady.nil
            go_simp
            refine hK _ _ ?_
            clear hK K
            try simp only [Act.put, List.setIfInBounds_toArray, List.set_cons_zero, List.set_cons_succ]
            refine wpAny_ready (rs := [3]) (by kernel_rfl) (by simp) ?_
            refine AllReady.cons rfl (fun K hK => ?_) AllReady.nil
            go_simp
            refine hK _ _ ?_
            clear hK K
            refine wpAny_takeD (i := 4) (d := some 6) (v := ?v12_4_5) rfl rfl (by kernel_rfl) (by kernel_rfl) (by kernel_rfl) (fun _ _ _ h => h) (Or.inl ⟨by rfl, ?hy12_4_5⟩) ?_
            case hy12_4_5 => (intro w; go_simp; try with_reducible rfl)
            try simp only [Act.put, List.setIfInBounds_toArray, List.set_cons_zero, List.set_cons_succ]
            refine wpAny_done (by kernel_rfl) ?_ _
            go_wp2
            exact bodyPost_ret (res_nat3 rfl _ _ (w.heap.size + 2) (w.heap.size + 3) _ _ _ rfl rfl rfl c6 c7) rfl ⟨_, _, rfl, by rw [← hq0'.out]; exact p3, by rw [← hr0'.out]; exact p4, p5⟩
          refine AllReady.cons rfl (fun K hK => ?_) ?_
          · go_simp
            refine hK _ _ ?_
            clear hK K
            try simp only [Act.put, List.setIfInBounds_toArray, List.set_cons_zero, List.set_cons_succ]
            refine wpAny_ready (rs := [1]) (by kernel_rfl) (by simp) ?_
            refine AllReady.cons rfl (fun K hK => ?_) AllReady.nil
            go_simp
            refine hK _ _ ?_
            clear hK K
            try simp only [Act.put, List.setIfInBounds_toArray, List.set_cons_zero, List.set_cons_succ]
            refine wpAny_ready (rs := [3]) (by kernel_rfl) (by simp) ?_
            refine AllReady.cons rfl (fun K hK => ?_) AllReady.nil
            go_simp
            refine hK _ _ ?_
            clear hK K
            refine wpAny_takeD (i := 4) (d := some 6) (v := ?v12_4_8) rfl rfl (by kernel_rfl) (by kernel_rfl) (by kernel_rfl) (fun _ _ _ h => h) (Or.inl ⟨by rfl, ?hy12_4_8⟩) ?_
            case hy12_4_8 => (intro w; go_simp; try with_reducible rfl)
            try simp only [Act.put, List.setIfInBounds_toArray, List.set_cons_zero, List.set_cons_succ]
            refine wpAny_done (by kernel_rfl) ?_ _
            go_wp2
            exact bodyPost_ret (res_nat3 rfl _ _ (w.heap.size + 2) (w.heap.size + 3) _ _ _ rfl rfl rfl c6 c7) rfl ⟨_, _, rfl, by rw [← hq0'.out]; exact p3, by rw [← hr0'.out]; exact p4, p5⟩
          exact AllReady.nil
        | succ k =>
          have hk60 : k ≤ 60000000000000 := by omega
          have e : (((k + 1 : Nat) : Int) - 1) = (k : Int) := by omega
          simp only [e]
          clear e
          have hrd := dm_round (m := m) (n := n) (k := k) (Nat.pos_of_ne_zero HN0.out)
          have hrn := Nat.mod_lt (m / 2 ^ (k + 1)) (Nat.pos_of_ne_zero HN0.out)
          have hqm : m / 2 ^ (k + 1) / n ≤ m := Nat.le_trans (Nat.div_le_self _ _) (Nat.div_le_self _ _)
          have hqm2 : m / 2 ^ k / n ≤ m := Nat.le_trans (Nat.div_le_self _ _) (Nat.div_le_self _ _)
          have HRD := Lib.hid hrd
          clear hrd
          obtain ⟨q, hq⟩ : ∃ q : Nat, Hid (q = m / 2 ^ (k + 1) / n) := ⟨_, Lib.hid rfl⟩
          obtain ⟨r, hr⟩ : ∃ r : Nat, Hid (r = m / 2 ^ (k + 1) % n) := ⟨_, Lib.hid rfl⟩
          obtain ⟨b, hb⟩ : ∃ b : Nat, Hid (b = m / 2 ^ k % 2) := ⟨_, Lib.hid rfl⟩
          rw [← hq.out, ← hr.out] at hd
          rw [← hq.out] at hqm
          rw [← hr.out] at hrn
          have hrd := HRD.out
          rw [← hq.out, ← hr.out, ← hb.out] at hrd
          have HRD := Lib.hid hrd
          clear hrd
          have hb2 : b ≤ 1 := by have := hb.out; omega
          obtain ⟨S, hS⟩ : ∃ S : Nat, Hid (S = r + r) := ⟨_, Lib.hid rfl⟩
          obtain ⟨R1, hR1⟩ : ∃ R1 : Nat, Hid (R1 = S + b) := ⟨_, Lib.hid rfl⟩
          have hr' : nl r ≤ 1000000000000 := nl_le_of (Nat.le_of_lt hrn) hn
          have hq' : nl q ≤ 1000000000000 := nl_le_of hqm hm
          have hS' : nl S ≤ 1000000000000 := nl_twice (b := n) (by have := hS.out; omega) hn
          have hR1' : nl R1 ≤ 1000000000000 := nl_twice (b := n) (by have := hS.out; have := hR1.out; omega) hn
          have hb' : nl b ≤ 1000000000000 := nlb (by have : (2 : Nat) ≤ 4294967296 ^ 4 := by decide
                                                     omega)
          obtain ⟨x8, c8, k8, n8⟩ := hd.vr
          have f8 := k8.frozen
          go_upto_region 7 with (fail)
          refine wp_tabK Try.f47 7 (dmTab7 w m r k S b R1) (fun _ => false) 4 1 (by kernel_rfl) (by kernel_rfl) (by kernel_rfl) (by kernel_rfl) (EachX.of_all (fun _ h => by cases h) _) ?_ ?_
          · refine ⟨fun a' w' F => ⟨_, rfl, wanted_none rfl, (arm_load rfl (F.keep 8 (Value.pointer (some ⟨w.heap.size + 5, 0, none⟩)) (by kernel_rfl) rfl).is (hd.vr.isI.mono F.below)).b⟩, ?_⟩
            refine ⟨fun a' w' F => ⟨_, rfl, wanted_none rfl, (arm_load rfl (F.keep 8 (Value.pointer (some ⟨w.heap.size + 5, 0, none⟩)) (by kernel_rfl) rfl).is (hd.vr.isI.mono F.below)).b⟩, ?_⟩
            refine ⟨fun a' w' F => ⟨_, rfl, wanted_none rfl, (arm_rAdd rfl (F.at' 0 25 _ rfl (by kernel_rfl)).is (F.at' 1 26 _ rfl (by kernel_rfl)).is (hr') (hr') hS.out.symm).b⟩, ?_⟩
            refine ⟨fun a' w' F => ⟨_, rfl, wanted_none rfl, (arm_load rfl (F.keep 2 (Value.pointer (some ⟨w.heap.size, 0, none⟩)) (by kernel_rfl) rfl).is (hd.va.mono F.below)).b⟩, ?_⟩
            refine ⟨fun a' w' F => ⟨_, rfl, wanted_none rfl, (arm_move (.inl rfl) (F.keep 9 (Value.int IntKind.i64 ((k : Nat))) (by kernel_rfl) rfl).is).b⟩, ?_⟩
            refine ⟨fun a' w' F => ⟨_, rfl, wanted_none rfl, (arm_bit rfl (F.at' 3 28 _ rfl (by kernel_rfl)).is (F.at' 4 29 _ rfl (by kernel_rfl)).is (hm') hk60 hb.out.symm).b⟩, ?_⟩
            refine ⟨fun a' w' F => ⟨_, rfl, wanted_none rfl, (arm_rOf (n := b) rfl (F.at' 5 30 _ rfl (by kernel_rfl)).is (by omega)).b⟩, ?_⟩
            refine ⟨fun a' w' F => ⟨_, rfl, wanted_none rfl, (arm_rAddN (Nat.le_trans hd.below.size F.below.size) rfl (F.at' 2 27 _ rfl (by kernel_rfl)).is (F.at' 6 31 _ rfl (by kernel_rfl)).is (hS') (hb') hR1.out.symm).b⟩, ?_⟩
            exact trivial
          intro gp wp bp G Gs
          obtain ⟨v7, e7, n7⟩ : ∃ v, gp 7 = v ∧ NewN w.heap.size wp v R1 := ⟨_, rfl, G 7 32 _ rfl⟩
          obtain ⟨x7, c7, rfl, hc7, hx7⟩ := n7
          have n7 : NewN w.heap.size wp (.agg #[.slice x7 (nl R1) c7]) R1 := ⟨x7, c7, rfl, hc7, hx7⟩
          have hd1 := hd.mono bp
          have hd2 := hd1.setr n7
          have f8' := (k8.mono bp k8.lt).frozen
          have cc8 := (k8.mono bp k8.lt).cell
          clear G Gs hc7 hx7 f8
          simp only [dmTab7]
          simp only [putD, entries, List.map_cons, List.map_nil, List.foldl_cons, List.foldl_nil, Act.put, List.setIfInBounds_toArray, List.set_cons_zero, List.set_cons_succ, e7]
          refine wpAny_store (j := 8) (by kernel_rfl) rfl rfl rfl rfl rfl rfl ⟨_, _, _, rfl⟩ (k8.mono bp k8.lt) ?_
          refine wpAny_done (by kernel_rfl) ?_ _
          generalize wp.setCell ⟨w.heap.size + 5, 0, none⟩ (.slice x7 (nl R1) c7) = w7 at *
          clear hd hd1 bp n7 k8 n8 f8' cc8 e7
          obtain ⟨Q2, hQ2⟩ : ∃ N : Nat, Hid (N = q + q) := ⟨_, Lib.hid rfl⟩
          obtain ⟨yq, dq, kq, nq⟩ := hd2.vq
          have eq4 := kq.cell
          go_wp2_with fail
          refine (c_ref_Add _ _ q q _ nq.isN nq.isN hq' hq').mono ?_
          rintro e w8 ⟨v8, rfl, nn, bb⟩
          rw [← hQ2.out] at nn
          obtain ⟨x8, c8, rfl, hc8, hx8⟩ := nn
          have hd3 := hd2.mono bb
          have n8 : NewN w.heap.size w8 (.agg #[.slice x8 (nl Q2) c8]) Q2 := NewN.weaken (base := w7.heap.size) ⟨x8, c8, rfl, hc8, hx8⟩ hd2.below.size
          have hd4 := hd3.setq n8
          obtain ⟨yq3, dq3, kq3, _⟩ := hd3.vq
          have cq3 := kq3.cell
          have fq3 := kq3.frozen
          obtain ⟨yr, dr, kr, nr⟩ := hd4.vr
          have er := kr.cell
          obtain ⟨yb, db', kb, ib⟩ := hd4.vb
          have eb := kb.cell
          clear eq4 kq nq hx8 hc8
          go_wp2_with fail
          refine (c_ref_Cmp _ _ R1 n _ nr.isN ib hR1' hn').mono ?_
          rintro e w9 ⟨rfl, bb9⟩
          have hd5 := hd4.mono bb9
          clear er eb kr nr kb ib cq3 fq3 kq3 n8 hd2 hd3 bb
          by_cases hge : n ≤ R1
          · have hcm : ¬ cmpI R1 n < 0 := by
              rcases Nat.lt_or_ge n R1 with h | h
              · rw [cmpI_gt h]; decide
              · rw [cmpI_eq (by omega)]; decide
            have hge' : n ≤ r + r + b := by have := hR1.out; have := hS.out; omega
            obtain ⟨R2, hR2⟩ : ∃ N : Nat, Hid (N = R1 - n) := ⟨_, Lib.hid rfl⟩
            obtain ⟨T, hT⟩ : ∃ N : Nat, Hid (N = Q2 + 1) := ⟨_, Lib.hid rfl⟩
            have e1 : m / 2 ^ k / n = T := by rw [(HRD.out.1 hge').1, hT.out, hQ2.out]
            have e2 : m / 2 ^ k % n = R2 := by rw [(HRD.out.1 hge').2, hR2.out, hR1.out, hS.out]
            have E1 := Lib.hid e1
            have E2 := Lib.hid e2
            have hT0' : nl Q2 ≤ 1000000000000 := by
              refine nl_le_of (b := m) ?_ hm
              have := hT.out
              rw [e1] at hqm2
              omega
            clear e1 e2
            obtain ⟨yr, dr, kr, nr⟩ := hd5.vr
            have er := kr.cell
            obtain ⟨yb, db', kb, ib⟩ := hd5.vb
            have eb := kb.cell
            go_wp2_with fail
            refine (c_ref_Sub _ _ R1 n _ nr.isN ib hR1' hn').mono ?_
            rintro e w10 ⟨v10, rfl, nn, bb10⟩
            rw [← hR2.out] at nn
            obtain ⟨x10, c10, rfl, hc10, hx10⟩ := nn
            have hd6 := hd5.mono bb10
            have n10 : NewN w.heap.size w10 (.agg #[.slice x10 (nl R2) c10]) R2 := NewN.weaken (base := w9.heap.size) ⟨x10, c10, rfl, hc10, hx10⟩ hd5.below.size
            have hd := hd6.setr n10
            obtain ⟨yr3, dr3, kr3, _⟩ := hd6.vr
            have cr3 := kr3.cell
            have fr3 := kr3.frozen
            clear er eb kr nr kb ib hx10 hc10
            go_upto_region 11 with (fail)
            refine wp_tabK Try.f47 11 (dmTab11 w Q2 T) (fun _ => false) 4 1 (by kernel_rfl) (by kernel_rfl) (by kernel_rfl) (by kernel_rfl) (EachX.of_all (fun _ h => by cases h) _) ?_ ?_
            · refine ⟨fun a' w' F => ⟨_, rfl, wanted_none rfl, (arm_load rfl (F.keep 7 (Value.pointer (some ⟨w.heap.size + 4, 0, none⟩)) (by kernel_rfl) rfl).is (hd.vq.isI.mono F.below)).b⟩, ?_⟩
              refine ⟨fun a' w' F => ⟨_, rfl, wanted_none rfl, (arm_rOf (n := 1) rfl Is.const (by decide)).b⟩, ?_⟩
              refine ⟨fun a' w' F => ⟨_, rfl, wanted_none rfl, (arm_rAddN (Nat.le_trans hd.below.size F.below.size) rfl (F.at' 0 46 _ rfl (by kernel_rfl)).is (F.at' 1 47 _ rfl (by kernel_rfl)).is (hT0') (nlb (by decide)) hT.out.symm).b⟩, ?_⟩
              exact trivial
            intro gy wy by_ G Gs
            generalize w10.setCell ⟨w.heap.size + 5, 0, none⟩ (.slice x10 (nl R2) c10) = w11 at *
            obtain ⟨v2, e2, n2⟩ : ∃ v, gy 2 = v ∧ NewN w.heap.size wy v T := ⟨_, rfl, G 2 48 _ rfl⟩
            obtain ⟨x2, c2, rfl, hc2, hx2⟩ := n2
            have n2 : NewN w.heap.size wy (.agg #[.slice x2 (nl T) c2]) T := ⟨x2, c2, rfl, hc2, hx2⟩
            have hd7 := hd.mono by_
            have hd8 := hd7.setq n2
            obtain ⟨yq7, dq7, kq7, _⟩ := hd7.vq
            clear G Gs hc2 hx2
            simp only [dmTab11]
            simp only [putD, entries, List.map_cons, List.map_nil, List.foldl_cons, List.foldl_nil, Act.put, List.setIfInBounds_toArray, List.set_cons_zero, List.set_cons_succ, e2]
            refine wpAny_store (j := 3) (by kernel_rfl) rfl rfl rfl rfl rfl rfl ⟨_, _, _, rfl⟩ kq7 ?_
            refine wpAny_done (by kernel_rfl) ?_ _
            go_wp2_with fail
            go_roundw
            case rel => exact ⟨k, by omega, by go_num, by rw [E1.out, E2.out]; exact hd8⟩
            case measure => simp [intOf] <;> omega
          · have hlt' : r + r + b < n := by have := hR1.out; have := hS.out; omega
            have e1 : m / 2 ^ k / n = Q2 := by rw [(HRD.out.2 hlt').1, hQ2.out]
            have e2 : m / 2 ^ k % n = R1 := by rw [(HRD.out.2 hlt').2, hR1.out, hS.out]
            have E1 := Lib.hid e1
            have E2 := Lib.hid e2
            clear e1 e2
            rw [cmpI_lt (by omega)]
            go_wp2_with fail
            go_roundw
            case rel => exact ⟨k, by omega, by go_num, by rw [E1.out, E2.out]; exact hd5⟩
            case measure => simp [intOf] <;> omega
end Go.Proofs.Ythpndmamegfbkaa
