/- The reference's DivMod. The reference's Gcd. The reference's Gcd and a negation as operations of a region that draws its order; a variable written behind a table. The reference's Format. Decimal texts: what is formatted is parsed as it was, and what is parsed is formatted as it was. The reference's Format as an operation. The reference's small: one digit more. The reference's Parse. A region that draws its order and writes: an invariant of the world that every operation keeps, and the value of each operation. -/
import Derived.Test.YtldnimohnbjfaaaP05
namespace Go.Proofs.Ytldnimohnbjfaaa
set_option linter.unusedSimpArgs false
set_option linter.unusedVariables false
set_option maxRecDepth 100000
open Go.RowKit
theorem VarN.isI {base : Nat} {w : World} {g N : Nat} (h : VarN base w g N) : VarI w g N := by
  obtain ⟨a, c, h1, h2⟩ := h; exact ⟨a, c, h1, h2.isN⟩
theorem nl_le_of {a b : Nat} (h : a ≤ b) (hb : nl b ≤ 100000000000) : nl a ≤ 1000000000000 := Nat.le_trans (nl_mono h) (by omega)
theorem nl_twice0 {a b d : Nat} (h : a ≤ 2 * b + 1) (hb : nl b ≤ d) : nl a ≤ d + 1 := by
  have h1 := nl_le_iff.1 hb
  refine nl_le_iff.2 (Nat.lt_of_le_of_lt h ?_)
  rw [Nat.pow_succ]
  generalize 4294967296 ^ d = P at *
  omega
theorem nl_twice {a b : Nat} (h : a ≤ 2 * b + 1) (hb : nl b ≤ 100000000000) : nl a ≤ 1000000000000 := Nat.le_trans (nl_twice0 h hb) (by decide)
theorem len2_le {m d : Nat} (h : nl m ≤ d) : len2 m ≤ 32 * d := by
  unfold len2
  split
  · omega
  · rename_i hm0
    have h2 : m < 2 ^ (32 * d) := by rw [Nat.pow_mul]; exact nl_le_iff.1 h
    have := (Nat.log2_lt hm0).2 h2
    omega
def dmTab7 (w : World) (m r k S b R1 : Nat) : List (Nat × Tmp × Sp) :=
   [(0, 25, .nat (r)),
    (1, 26, .nat (r)),
    (2, 27, .nat (S)),
    (3, 28, .nat (m)),
    (4, 29, .val (Value.int IntKind.i64 ((k : Nat)))),
    (5, 30, .val (Value.int IntKind.u64 ((b : Nat)))),
    (6, 31, .nat (b)),
    (7, 32, .new w.heap.size (R1))]
def dmTab11 (w : World) (T0 T : Nat) : List (Nat × Tmp × Sp) :=
   [(0, 46, .nat (T0)),
    (1, 47, .nat (1)),
    (2, 48, .new w.heap.size (T))]
set_option maxRecDepth 100000 in
set_option maxHeartbeats 2000000 in
theorem c_ref_DivMod (va vb : Value) (m n : Nat) (w : World) (ha : IsN w va m) (hb : IsN w vb n) (hm : nl m ≤ 100000000000) (hn : nl n ≤ 100000000000) (h0 : n ≠ 0) :
    Calls Try.prog 66 #[va, vb] w fun e w' => RetDiv w (m / n) (m % n) 0 e w' := by
  obtain ⟨a, ca, rfl, hca, ra⟩ := ha
  obtain ⟨b, cb, rfl, hcb, rb⟩ := hb
  have hnp := nl_pos h0
  have hm' : nl m ≤ 1000000000000 := by omega
  have hn' : nl n ≤ 1000000000000 := by omega
  have HN0 := Lib.hid h0
  clear h0
  go_enter Try.func66, Try.ntmps66
  go_upto_region 0 with (fail)
  go_cut [2, 3, 4, 5, 6] (fun s2 s3 s4 s5 s6 wx => s2 = .pointer (some ⟨w.heap.size, 0, none⟩) ∧ s3 = .pointer (some ⟨w.heap.size + 1, 0, none⟩) ∧ s4 = .pointer (some ⟨w.heap.size + 2, 0, none⟩) ∧ s5 = .pointer (some ⟨w.heap.size + 3, 0, none⟩) ∧
     VarI wx w.heap.size m ∧ VarI wx (w.heap.size + 1) n ∧ VarB wx (w.heap.size + 2) none 0 0 ∧ VarB wx (w.heap.size + 3) none 0 0 ∧ Below w.heap.size w wx ∧ wx.heap.size = w.heap.size + 4)
  case first =>
    obtain ⟨k0, k1, k2⟩ := box2 (L := nl m) (c := ca) (N := m) (L2 := nl n) (c2 := cb) (N2 := n) ⟨a, ca, rfl, hca, ra⟩ ⟨b, cb, rfl, hcb, rb⟩
    have hz : ((w.alloc (.cells #[.slice a (nl m) ca] 24)).alloc (.cells #[.slice b (nl n) cb] 24)).heap.size = w.heap.size + 2 := by simp
    generalize hw2 : (w.alloc (.cells #[.slice a (nl m) ca] 24)).alloc (.cells #[.slice b (nl n) cb] 24) = w2 at *
    obtain ⟨j0, j1, j2⟩ := box2 (w := w2) (a := none) (L := 0) (c := 0) (N := 0) (b := none) (L2 := 0) (c2 := 0) (N2 := 0) ⟨none, 0, rfl, by omega, by decide, fun h => by omega⟩ ⟨none, 0, rfl, by omega, by decide, fun h => by omega⟩
    have v1 := VarB.made w2 none 0 0
    have v2 := VarB.made (w2.alloc (.cells #[.slice none 0 0] 24)) none 0 0
    have v1' := v1.mono (bel1 _ (.cells #[.slice none 0 0] 24)) v1.lt
    rw [World.size_alloc] at v2
    rw [hz] at v1' v2
    subst hw2
    go_wp2_with fail
    go_meet
    case rel => exact ⟨rfl, rfl, rfl, rfl, VarR.mono k1 j0, VarR.mono k2 j0, v1', v2, k0.trans (j0.mono k0.size), by simp⟩
  case rest =>
    obtain ⟨rfl, rfl, rfl, rfl, Va, Vb, vr1, vr2, hb1, hsz⟩ := hcut
    clear ra rb hca hcb
    go_upto_region 1 with (fail)
    go_cut [7, 8] (fun s7 s8 wx => s7 = .pointer (some ⟨w.heap.size + 4, 0, none⟩) ∧ s8 = .pointer (some ⟨w.heap.size + 5, 0, none⟩) ∧ DM w wx m n 0 0)
    case first =>
      obtain ⟨k0, k1, k2⟩ := start2 wc none none 0 0 0 0
      rw [hsz] at k1 k2
      have hB := hb1.trans (k0.mono hb1.size)
      have nn : ∀ wz, NewN w.heap.size wz (.agg #[.slice none (nl 0) 0]) 0 := fun wz => by rw [nl_zero]; exact NewN.of_zero
      have hD : DM w ((wc.alloc (.cells #[.slice none 0 0] 24)).alloc (.cells #[.slice none 0 0] 24)) m n 0 0 :=
        ⟨hB, Va.mono k0, Vb.mono k0, vr1.mono k0 vr1.lt, vr2.mono k0 vr2.lt, ⟨none, 0, by rw [nl_zero]; exact k1, nn _⟩, ⟨none, 0, by rw [nl_zero]; exact k2, nn _⟩⟩
      go_wp2_with fail
      go_meet
      case rel => exact ⟨rfl, rfl, hD⟩
    case rest =>
      clear Va Vb vr1 vr2 hb1 hsz
      obtain ⟨rfl, rfl, hd⟩ := hcut
      have hq0 : ∀ K : Nat, True := fun _ => trivial
      obtain ⟨yb, db, qb, ib⟩ := hd.vb
      have eb := qb.cell
      obtain ⟨ya, da, qa, ia⟩ := hd.va
      have ea := qa.cell
      have hne : ((nl n : Nat) : Int) ≠ 0 := by omega
      go_wp2_with fail
      refine (c_ref_Bits _ m _ ia hm').mono ?_
      rintro e w1 ⟨rfl, bb⟩
      replace hd := hd.mono bb
      clear ea qa ia eb qb ib bb
      have hlen : len2 m ≤ 32000000000000 := Nat.le_trans (len2_le hm) (by decide)
      have HL := Lib.hid (lt_len2 m)
      generalize len2 m = K at *
      go_wp2_with fail
      go_loopw [9] (fun s9 wr => ∃ k : Nat, k ≤ K ∧ s9 = .int .i64 ((k : Int) - 1) ∧ DM w wr m n (m / 2 ^ k / n) (m / 2 ^ k % n)) (fun s9 _ => ((intOf s9) + 1).toNat)
      case atStart => exact ⟨K, Nat.le_refl _, rfl, by rw [Nat.div_eq_of_lt HL.out, Nat.zero_div, Nat.zero_mod]; exact hd⟩
      case round =>
        clear hd
        obtain ⟨k, hk, rfl, hd⟩ := hrel
        cases k with
        | zero =>
          rw [Nat.pow_zero, Nat.div_one] at hd
          obtain ⟨aq, cq, kq, nq⟩ := hd.vq
          obtain ⟨ar, cr, kr, nr⟩ := hd.vr
          have c4 := kq.cell
          have c5 := kr.cell
          have f2 := hd.r1.frozen
          have f3 := hd.r2.frozen
          have c2 := hd.r1.cell
          have c3 := hd.r2.cell
          have hfin := hd.fin kq nq kr nr
          obtain ⟨q0, hq0'⟩ : ∃ N : Nat, Hid (N = m / n) := ⟨_, Lib.hid rfl⟩
          obtain ⟨r0, hr0'⟩ : ∃ N : Nat, Hid (N = m % n) := ⟨_, Lib.hid rfl⟩
          rw [← hq0'.out, ← hr0'.out] at hd
          rw [← hq0'.out] at kq nq
          rw [← hr0'.out] at kr nr
          clear hfin c2 c3 c4 c5 f2 f3
          go_upto_region 12 with (fail)
          refine wp_region_any (by kernel_rfl) ?_
          change wpAny _ _ _ _ _ _ _ (World.drew _)
          have bz : Below wr.heap.size wr (World.drew wr) := bel_drewN (Below.refl _ _) 1
          have hd3 := hd.mono bz
          have kq3 := kq.mono bz kq.lt
          have kr3 := kr.mono bz kr.lt
          have nq3 := nq.mono bz
          have nr3 := nr.mono bz
          clear bz
          generalize World.drew wr = w3 at *
          have c4 := kq3.cell
          have c5 := kr3.cell
          have f2 := hd3.r1.frozen
          have c2 := hd3.r1.cell
          have kr4 := kr3.setOther ⟨w.heap.size + 2, 0, none⟩ (.slice aq (nl q0) cq) (by simp)
          have c5' := kr4.cell
          have r24 := hd3.r2.setOther ⟨w.heap.size + 2, 0, none⟩ (.slice aq (nl q0) cq) (by simp)
          have c3' := r24.cell
          have f3' := r24.frozen
          obtain ⟨p1, p2, p3, p4, p5⟩ := hd3.fin kq3 nq3 kr3 nr3 _ (.inl rfl)
          have c6 := p1.cell
          have c7 := p2.cell
          refine wpAny_take_loadD (i := 0) (t := 2) (d := some 49) (v := ?v12_0_1) rfl rfl (by decide) rfl rfl (by kernel_rfl) (by kernel_rfl) (fun _ _ _ h => h) ⟨by rfl, ?hy12_0_1⟩ ?_
          case hy12_0_1 => (go_simp; try with_reducible rfl)
          try simp only [Act.put, List.setIfInBounds_toArray, List.set_cons_zero, List.set_cons_succ]
          refine wpAny_ready (rs := [1, 2]) (by kernel_rfl) (by simp) ?_
          refine AllReady.cons rfl (fun K hK => ?_) ?_
          · go_simp
            refine hK _ _ ?_
            clear hK K
            try simp only [Act.put, List.setIfInBounds_toArray, List.set_cons_zero, List.set_cons_succ]
            refine wpAny_ready (rs := [2]) (by kernel_rfl) (by simp) ?_
            refine AllReady.cons rfl (fun K hK => ?_) AllReady.nil
            go_simp
            refine hK _ _ ?_
            clear hK K
            try simp only [Act.put, List.setIfInBounds_toArray, List.set_cons_zero, List.set_cons_succ]
            refine wpAny_ready (rs := [3]) (by kernel_rfl) (by simp) ?_
            refine AllReady.cons rfl (fun K hK => ?_) AllReady.nil
            go_simp
            refine hK _ _ ?_
            clear hK K
            refine wpAny_takeD (i := 4) (d := some 6) (v := ?v12_4_5) rfl rfl (by kernel_rfl) (by kernel_rfl) (by kernel_rfl) (fun _ _ _ h => h) (Or.inl ⟨by rfl, ?hy12_4_5⟩) ?_
            case hy12_4_5 => (intro w; go_simp; try with_reducible rfl)
            try simp only [Act.put, List.setIfInBounds_toArray, List.set_cons_zero, List.set_cons_succ]
            refine wpAny_done (by kernel_rfl) ?_ _
            go_wp2
            exact bodyPost_ret (res_nat3 rfl _ _ (w.heap.size + 2) (w.heap.size + 3) _ _ _ rfl rfl rfl c6 c7) rfl ⟨_, _, rfl, by rw [← hq0'.out]; exact p3, by rw [← hr0'.out]; exact p4, p5⟩
          refine AllReady.cons rfl (fun K hK => ?_) ?_
          · go_simp
            refine hK _ _ ?_
            clear hK K
            try simp only [Act.put, List.setIfInBounds_toArray, List.set_cons_zero, List.set_cons_succ]
            refine wpAny_ready (rs := [1]) (by kernel_rfl) (by simp) ?_
            refine AllReady.cons rfl (fun K hK => ?_) AllReady.nil
            go_simp
            refine hK _ _ ?_
            clear hK K
            try simp only [Act.put, List.setIfInBounds_toArray, List.set_cons_zero, List.set_cons_succ]
            refine wpAny_ready (rs := [3]) (by kernel_rfl) (by simp) ?_
            refine AllReady.cons rfl (fun K hK => ?_) AllReady.nil
            go_simp
            refine hK _ _ ?_
            clear hK K
            refine wpAny_takeD (i := 4) (d := some 6) (v := ?v12_4_8) rfl rfl (by kernel_rfl) (by kernel_rfl) (by kernel_rfl) (fun _ _ _ h => h) (Or.inl ⟨by rfl, ?hy12_4_8⟩) ?_
            case hy12_4_8 => (intro w; go_simp; try with_reducible rfl)
            try simp only [Act.put, List.setIfInBounds_toArray, List.set_cons_zero, List.set_cons_succ]
            refine wpAny_done (by kernel_rfl) ?_ _
            go_wp2
            exact bodyPost_ret (res_nat3 rfl _ _ (w.heap.size + 2) (w.heap.size + 3) _ _ _ rfl rfl rfl c6 c7) rfl ⟨_, _, rfl, by rw [← hq0'.out]; exact p3, by rw [← hr0'.out]; exact p4, p5⟩
          exact AllReady.nil
        | succ k =>
          have hk60 : k ≤ 60000000000000 := by omega
          have e : (((k + 1 : Nat) : Int) - 1) = (k : Int) := by omega
          simp only [e]
          clear e
          have hrd := dm_round (m := m) (n := n) (k := k) (Nat.pos_of_ne_zero HN0.out)
          have hrn := Nat.mod_lt (m / 2 ^ (k + 1)) (Nat.pos_of_ne_zero HN0.out)
          have hqm : m / 2 ^ (k + 1) / n ≤ m := Nat.le_trans (Nat.div_le_self _ _) (Nat.div_le_self _ _)
          have hqm2 : m / 2 ^ k / n ≤ m := Nat.le_trans (Nat.div_le_self _ _) (Nat.div_le_self _ _)
          have HRD := Lib.hid hrd
          clear hrd
          obtain ⟨q, hq⟩ : ∃ q : Nat, Hid (q = m / 2 ^ (k + 1) / n) := ⟨_, Lib.hid rfl⟩
          obtain ⟨r, hr⟩ : ∃ r : Nat, Hid (r = m / 2 ^ (k + 1) % n) := ⟨_, Lib.hid rfl⟩
          obtain ⟨b, hb⟩ : ∃ b : Nat, Hid (b = m / 2 ^ k % 2) := ⟨_, Lib.hid rfl⟩
          rw [← hq.out, ← hr.out] at hd
          rw [← hq.out] at hqm
          rw [← hr.out] at hrn
          have hrd := HRD.out
          rw [← hq.out, ← hr.out, ← hb.out] at hrd
          have HRD := Lib.hid hrd
          clear hrd
          have hb2 : b ≤ 1 := by have := hb.out; omega
          obtain ⟨S, hS⟩ : ∃ S : Nat, Hid (S = r + r) := ⟨_, Lib.hid rfl⟩
          obtain ⟨R1, hR1⟩ : ∃ R1 : Nat, Hid (R1 = S + b) := ⟨_, Lib.hid rfl⟩
          have hr' : nl r ≤ 1000000000000 := nl_le_of (Nat.le_of_lt hrn) hn
          have hq' : nl q ≤ 1000000000000 := nl_le_of hqm hm
          have hS' : nl S ≤ 1000000000000 := nl_twice (b := n) (by have := hS.out; omega) hn
          have hR1' : nl R1 ≤ 1000000000000 := nl_twice (b := n) (by have := hS.out; have := hR1.out; omega) hn
          have hb' : nl b ≤ 1000000000000 := nlb (by have : (2 : Nat) ≤ 4294967296 ^ 4 := by decide
                                                     omega)
          obtain ⟨x8, c8, k8, n8⟩ := hd.vr
          have f8 := k8.frozen
          go_upto_region 7 with (fail)
          refine wp_tabK Try.f66 7 (dmTab7 w m r k S b R1) (fun _ => false) 4 1 (by kernel_rfl) (by kernel_rfl) (by kernel_rfl) (by kernel_rfl) (EachX.of_all (fun _ h => by cases h) _) ?_ ?_
          · refine ⟨fun a' w' F => ⟨_, rfl, wanted_none rfl, (arm_load rfl (F.keep 8 (Value.pointer (some ⟨w.heap.size + 5, 0, none⟩)) (by kernel_rfl) rfl).is (hd.vr.isI.mono F.below)).b⟩, ?_⟩
            refine ⟨fun a' w' F => ⟨_, rfl, wanted_none rfl, (arm_load rfl (F.keep 8 (Value.pointer (some ⟨w.heap.size + 5, 0, none⟩)) (by kernel_rfl) rfl).is (hd.vr.isI.mono F.below)).b⟩, ?_⟩
            refine ⟨fun a' w' F => ⟨_, rfl, wanted_none rfl, (arm_rAdd rfl (F.f 0 rfl) (F.f 1 rfl) (hr') (hr') hS.out.symm).b⟩, ?_⟩
            refine ⟨fun a' w' F => ⟨_, rfl, wanted_none rfl, (arm_load rfl (F.keep 2 (Value.pointer (some ⟨w.heap.size, 0, none⟩)) (by kernel_rfl) rfl).is (hd.va.mono F.below)).b⟩, ?_⟩
            refine ⟨fun a' w' F => ⟨_, rfl, wanted_none rfl, (arm_move (.inl rfl) (F.keep 9 (Value.int IntKind.i64 ((k : Nat))) (by kernel_rfl) rfl).is).b⟩, ?_⟩
            refine ⟨fun a' w' F => ⟨_, rfl, wanted_none rfl, (arm_bit rfl (F.f 3 rfl) (F.f 4 rfl) (hm') hk60 hb.out.symm).b⟩, ?_⟩
            refine ⟨fun a' w' F => ⟨_, rfl, wanted_none rfl, (arm_rOf (n := b) rfl (F.f 5 rfl) (by omega)).b⟩, ?_⟩
            refine ⟨fun a' w' F => ⟨_, rfl, wanted_none rfl, (arm_rAddN (Nat.le_trans hd.below.size F.below.size) rfl (F.f 2 rfl) (F.f 6 rfl) (hS') (hb') hR1.out.symm).b⟩, ?_⟩
            exact trivial
          intro gp wp bp G Gs
          obtain ⟨v7, e7, n7⟩ : ∃ v, gp 7 = v ∧ NewN w.heap.size wp v R1 := ⟨_, rfl, G 7 32 _ rfl⟩
          obtain ⟨x7, c7, rfl, hc7, hx7⟩ := n7
          have n7 : NewN w.heap.size wp (.agg #[.slice x7 (nl R1) c7]) R1 := ⟨x7, c7, rfl, hc7, hx7⟩
          have hd1 := hd.mono bp
          have hd2 := hd1.setr n7
          have f8' := (k8.mono bp k8.lt).frozen
          have cc8 := (k8.mono bp k8.lt).cell
          clear G Gs hc7 hx7 f8
          simp only [dmTab7]
          simp only [putD, entries, List.map_cons, List.map_nil, List.foldl_cons, List.foldl_nil, Act.put, List.setIfInBounds_toArray, List.set_cons_zero, List.set_cons_succ, e7]
          refine wpAny_store (j := 8) (by kernel_rfl) rfl rfl rfl rfl rfl rfl ⟨_, _, _, rfl⟩ (k8.mono bp k8.lt) ?_
          refine wpAny_done (by kernel_rfl) ?_ _
          generalize wp.setCell ⟨w.heap.size + 5, 0, none⟩ (.slice x7 (nl R1) c7) = w7 at *
          clear hd hd1 bp n7 k8 n8 f8' cc8 e7
          obtain ⟨Q2, hQ2⟩ : ∃ N : Nat, Hid (N = q + q) := ⟨_, Lib.hid rfl⟩
          obtain ⟨yq, dq, kq, nq⟩ := hd2.vq
          have eq4 := kq.cell
          go_wp2_with fail
          refine (c_ref_Add _ _ q q _ nq.isN nq.isN hq' hq').mono ?_
          rintro e w8 ⟨v8, rfl, nn, bb⟩
          rw [← hQ2.out] at nn
          obtain ⟨x8, c8, rfl, hc8, hx8⟩ := nn
          have hd3 := hd2.mono bb
          have n8 : NewN w.heap.size w8 (.agg #[.slice x8 (nl Q2) c8]) Q2 := NewN.weaken (base := w7.heap.size) ⟨x8, c8, rfl, hc8, hx8⟩ hd2.below.size
          have hd4 := hd3.setq n8
          obtain ⟨yq3, dq3, kq3, _⟩ := hd3.vq
          have cq3 := kq3.cell
          have fq3 := kq3.frozen
          obtain ⟨yr, dr, kr, nr⟩ := hd4.vr
          have er := kr.cell
          obtain ⟨yb, db', kb, ib⟩ := hd4.vb
          have eb := kb.cell
          clear eq4 kq nq hx8 hc8
          go_wp2_with fail
          refine (c_ref_Cmp _ _ R1 n _ nr.isN ib hR1' hn').mono ?_
          rintro e w9 ⟨rfl, bb9⟩
          have hd5 := hd4.mono bb9
          clear er eb kr nr kb ib cq3 fq3 kq3 n8 hd2 hd3 bb
          by_cases hge : n ≤ R1
          · have hcm : ¬ cmpI R1 n < 0 := by
              rcases Nat.lt_or_ge n R1 with h | h
              · rw [cmpI_gt h]; decide
              · rw [cmpI_eq (by omega)]; decide
            have hge' : n ≤ r + r + b := by have := hR1.out; have := hS.out; omega
            obtain ⟨R2, hR2⟩ : ∃ N : Nat, Hid (N = R1 - n) := ⟨_, Lib.hid rfl⟩
            obtain ⟨T, hT⟩ : ∃ N : Nat, Hid (N = Q2 + 1) := ⟨_, Lib.hid rfl⟩
            have e1 : m / 2 ^ k / n = T := by rw [(HRD.out.1 hge').1, hT.out, hQ2.out]
            have e2 : m / 2 ^ k % n = R2 := by rw [(HRD.out.1 hge').2, hR2.out, hR1.out, hS.out]
            have E1 := Lib.hid e1
            have E2 := Lib.hid e2
            have hT0' : nl Q2 ≤ 1000000000000 := by
              refine nl_le_of (b := m) ?_ hm
              have := hT.out
              rw [e1] at hqm2
              omega
            clear e1 e2
            obtain ⟨yr, dr, kr, nr⟩ := hd5.vr
            have er := kr.cell
            obtain ⟨yb, db', kb, ib⟩ := hd5.vb
            have eb := kb.cell
            go_wp2_with fail
            refine (c_ref_Sub _ _ R1 n _ nr.isN ib hR1' hn').mono ?_
            rintro e w10 ⟨v10, rfl, nn, bb10⟩
            rw [← hR2.out] at nn
            obtain ⟨x10, c10, rfl, hc10, hx10⟩ := nn
            have hd6 := hd5.mono bb10
            have n10 : NewN w.heap.size w10 (.agg #[.slice x10 (nl R2) c10]) R2 := NewN.weaken (base := w9.heap.size) ⟨x10, c10, rfl, hc10, hx10⟩ hd5.below.size
            have hd := hd6.setr n10
            obtain ⟨yr3, dr3, kr3, _⟩ := hd6.vr
            have cr3 := kr3.cell
            have fr3 := kr3.frozen
            clear er eb kr nr kb ib hx10 hc10
            go_upto_region 11 with (fail)
            refine wp_tabK Try.f66 11 (dmTab11 w Q2 T) (fun _ => false) 4 1 (by kernel_rfl) (by kernel_rfl) (by kernel_rfl) (by kernel_rfl) (EachX.of_all (fun _ h => by cases h) _) ?_ ?_
            · refine ⟨fun a' w' F => ⟨_, rfl, wanted_none rfl, (arm_load rfl (F.keep 7 (Value.pointer (some ⟨w.heap.size + 4, 0, none⟩)) (by kernel_rfl) rfl).is (hd.vq.isI.mono F.below)).b⟩, ?_⟩
              refine ⟨fun a' w' F => ⟨_, rfl, wanted_none rfl, (arm_rOf (n := 1) rfl Is.const (by decide)).b⟩, ?_⟩
              refine ⟨fun a' w' F => ⟨_, rfl, wanted_none rfl, (arm_rAddN (Nat.le_trans hd.below.size F.below.size) rfl (F.f 0 rfl) (F.f 1 rfl) (hT0') (nlb (by decide)) hT.out.symm).b⟩, ?_⟩
              exact trivial
            intro gy wy by_ G Gs
            generalize w10.setCell ⟨w.heap.size + 5, 0, none⟩ (.slice x10 (nl R2) c10) = w11 at *
            obtain ⟨v2, e2, n2⟩ : ∃ v, gy 2 = v ∧ NewN w.heap.size wy v T := ⟨_, rfl, G 2 48 _ rfl⟩
            obtain ⟨x2, c2, rfl, hc2, hx2⟩ := n2
            have n2 : NewN w.heap.size wy (.agg #[.slice x2 (nl T) c2]) T := ⟨x2, c2, rfl, hc2, hx2⟩
            have hd7 := hd.mono by_
            have hd8 := hd7.setq n2
            obtain ⟨yq7, dq7, kq7, _⟩ := hd7.vq
            clear G Gs hc2 hx2
            simp only [dmTab11]
            simp only [putD, entries, List.map_cons, List.map_nil, List.foldl_cons, List.foldl_nil, Act.put, List.setIfInBounds_toArray, List.set_cons_zero, List.set_cons_succ, e2]
            refine wpAny_store (j := 3) (by kernel_rfl) rfl rfl rfl rfl rfl rfl ⟨_, _, _, rfl⟩ kq7 ?_
            refine wpAny_done (by kernel_rfl) ?_ _
            go_wp2_with fail
            go_roundw
            case rel => exact ⟨k, by omega, by go_num, by rw [E1.out, E2.out]; exact hd8⟩
            case measure => simp [intOf] <;> omega
          · have hlt' : r + r + b < n := by have := hR1.out; have := hS.out; omega
            have e1 : m / 2 ^ k / n = Q2 := by rw [(HRD.out.2 hlt').1, hQ2.out]
            have e2 : m / 2 ^ k % n = R1 := by rw [(HRD.out.2 hlt').2, hR1.out, hS.out]
            have E1 := Lib.hid e1
            have E2 := Lib.hid e2
            clear e1 e2
            rw [cmpI_lt (by omega)]
            go_wp2_with fail
            go_roundw
            case rel => exact ⟨k, by omega, by go_num, by rw [E1.out, E2.out]; exact hd5⟩
            case measure => simp [intOf] <;> omega
end Go.Proofs.Ytldnimohnbjfaaa
namespace Go.Proofs.Ytldnimohnbjfaaa
set_option linter.unusedSimpArgs false
set_option linter.unusedVariables false
set_option maxRecDepth 100000
open Go.RowKit
structure GT (w wx : World) (x y : Nat) : Prop where
  below : Below w.heap.size w wx
  res : VarB wx (w.heap.size + 2) none 0 0
  v1 : VarI wx w.heap.size x
  v2 : VarI wx (w.heap.size + 1) y
theorem GT.mono {w wx w' : World} {x y : Nat} (h : GT w wx x y) (hb : Below wx.heap.size wx w') : GT w w' x y :=
  ⟨h.below.trans (hb.mono h.below.size), h.res.mono hb h.res.lt, h.v1.mono hb, h.v2.mono hb⟩
theorem gt_set {w w1 : World} {x0 y0 M N cx cy : Nat} {x y : Option Addr} (h : GT w w1 x0 y0) (hx : IsN w1 (.agg #[.slice x (nl M) cx]) M) (hy : IsN w1 (.agg #[.slice y (nl N) cy]) N) :
    GT w ((w1.setCell ⟨w.heap.size, 0, none⟩ (.slice x (nl M) cx)).setCell ⟨w.heap.size + 1, 0, none⟩ (.slice y (nl N) cy)) M N := by
  obtain ⟨a1, c1, b1, n1⟩ := h.v1
  obtain ⟨a2, c2, b2, n2⟩ := h.v2
  have b2' := b2.setOther ⟨w.heap.size, 0, none⟩ (.slice x (nl M) cx) (by simp)
  exact ⟨(h.below.setCell (p := ⟨w.heap.size, 0, none⟩) (Nat.le_refl _) _).setCell (p := ⟨w.heap.size + 1, 0, none⟩) (Nat.le_succ _) _, (h.res.setOther _ _ (by simp)).setOther _ _ (by simp),
    ⟨x, cx, b1.set.setOther _ _ (by simp), (hx.setVar b1).setVar b2'⟩, ⟨y, cy, b2'.set, (hy.setVar b1).setVar b2'⟩⟩
noncomputable def valI (w : World) (g : Nat) : Nat := Classical.epsilon (fun N => VarI w g N)
theorem VarI.val {w : World} {g N : Nat} (h : VarI w g N) : valI w g = N := by
  obtain ⟨a', c', hb', hn'⟩ := Classical.epsilon_spec (p := fun N => VarI w g N) ⟨N, h⟩
  obtain ⟨a, c, hb, hn⟩ := h
  have e := hb'.symm.trans hb
  simp only [Option.some.injEq, Obj.cells.injEq, Array.mk.injEq, List.cons.injEq, Value.slice.injEq, and_true] at e
  rw [e.1, e.2.1, e.2.2] at hn'
  exact hn'.unique hn
set_option maxRecDepth 100000 in
set_option maxHeartbeats 4000000 in
theorem c_ref_Gcd (va vb : Value) (m n : Nat) (w : World) (ha : IsN w va m) (hb : IsN w vb n) (hm : nl m ≤ 100000000000) (hn : nl n ≤ 100000000000) :
    Calls Try.prog 53 #[va, vb] w fun e w' => RetN w (Nat.gcd m n) e w' := by
  obtain ⟨a, ca, rfl, hca, ra⟩ := ha
  obtain ⟨b, cb, rfl, hcb, rb⟩ := hb
  go_enter Try.func53, Try.ntmps53
  go_upto_region 0 with (fail)
  go_cut [2, 3, 4] (fun s2 s3 s4 wx => s2 = .pointer (some ⟨w.heap.size, 0, none⟩) ∧ s3 = .pointer (some ⟨w.heap.size + 1, 0, none⟩) ∧ s4 = .pointer (some ⟨w.heap.size + 2, 0, none⟩) ∧ GT w wx m n)
  case first =>
    obtain ⟨k0, k1, k2⟩ := box2 (L := nl m) (c := ca) (N := m) (L2 := nl n) (c2 := cb) (N2 := n) ⟨a, ca, rfl, hca, ra⟩ ⟨b, cb, rfl, hcb, rb⟩
    have k3 := bel1 ((w.alloc (.cells #[.slice a (nl m) ca] 24)).alloc (.cells #[.slice b (nl n) cb] 24)) (.cells #[.slice none 0 0] 24)
    have k4 := VarB.made ((w.alloc (.cells #[.slice a (nl m) ca] 24)).alloc (.cells #[.slice b (nl n) cb] 24)) none 0 0
    rw [World.size_alloc, World.size_alloc] at k4
    have hT : GT w _ m n := ⟨k0.trans (k3.mono k0.size), k4, VarR.mono k1 k3, VarR.mono k2 k3⟩
    go_wp2_with fail
    go_meet
    case rel => exact ⟨rfl, rfl, rfl, hT⟩
  case rest =>
    obtain ⟨rfl, rfl, rfl, hT⟩ := hcut
    clear ra rb hca hcb
    go_wp2_with fail
    go_loopw [] (fun wr => ∃ x y : Nat, Hid (Nat.gcd x y = Nat.gcd m n) ∧ nl x ≤ 100000000000 ∧ nl y ≤ 100000000000 ∧ GT w wr x y) (fun wr => valI wr (w.heap.size + 1))
    case atStart => exact ⟨m, n, Lib.hid rfl, hm, hn, hT⟩
    case round =>
      clear hT
      obtain ⟨x, y, HXY, hx, hy, hs⟩ := hrel
      obtain ⟨ax, cx, vx, nx⟩ := hs.v1
      obtain ⟨ay, cy, vy, ny⟩ := hs.v2
      have c5 := vx.cell
      have c6 := vy.cell
      have cr := hs.res.cell
      have fr := hs.res.frozen
      by_cases hy0 : y = 0
      · subst hy0
        rw [nl_zero] at c6
        have hx0 : x = Nat.gcd m n := by have := HXY.out; rwa [Nat.gcd_zero_right] at this
        have HX0 := Lib.hid hx0
        clear hx0
        have hfin := nx.setVar (u := .slice ax (nl x) cx) hs.res
        have hcell := (hs.res.set (a' := ax) (L' := nl x) (c' := cx)).cell
        have hbel := hs.below.setCell (p := ⟨w.heap.size + 2, 0, none⟩) (Nat.le_add_right _ _) (.slice ax (nl x) cx)
        go_wp2
        exact bodyPost_ret (res_nat rfl _ _ (w.heap.size + 2) _ rfl hcell) rfl ⟨_, rfl, by rw [← HX0.out]; exact hfin, hbel⟩
      · have hny := nl_pos hy0
        have HY0 := Lib.hid hy0
        clear hy0
        go_wp2_with fail
        refine (c_ref_DivMod _ _ x y _ nx ny hx hy HY0.out).mono ?_
        rintro e w1 ⟨vq, vr, rfl, nq, nr, hb1⟩
        obtain ⟨R0, hR0⟩ : ∃ N : Nat, Hid (N = x % y) := ⟨_, Lib.hid rfl⟩
        obtain ⟨Q0, hQ0⟩ : ∃ N : Nat, Hid (N = x / y) := ⟨_, Lib.hid rfl⟩
        rw [← hR0.out] at nr
        rw [← hQ0.out] at nq
        obtain ⟨aq, cq, rfl, hcq, hxq⟩ := nq
        obtain ⟨ar, cr', rfl, hcr, hxr⟩ := nr
        obtain ⟨k0, k1, k2⟩ := start2 w1 aq ar (nl Q0) cq (nl R0) cr'
        have nr : IsN w1 (.agg #[.slice ar (nl R0) cr']) R0 := NewN.isN ⟨ar, cr', rfl, hcr, hxr⟩
        have hb2 := hb1.trans (k0.mono hb1.size)
        go_upto_region 3 with (fail)
        have k3 := bel_drewN (Below.refl ((w1.alloc (.cells #[.slice aq (nl Q0) cq] 24)).alloc (.cells #[.slice ar (nl R0) cr'] 24)).heap.size ((w1.alloc (.cells #[.slice aq (nl Q0) cq] 24)).alloc (.cells #[.slice ar (nl R0) cr'] 24))) 1
        refine wp_region_any (by kernel_rfl) ?_
        change wpAny _ _ _ _ _ _ _ (World.drew _)
        have hs3 := hs.mono (hb2.trans (k3.mono hb2.size))
        have nr3 := nr.mono (k0.trans (k3.mono k0.size))
        have ny3 := ny.mono (hb2.trans (k3.mono hb2.size))
        have v8 : VarB (World.drewN _ 1) (w1.heap.size + 1) ar (nl R0) cr' := k2.mono k3 k2.lt
        have vy3 := vy.mono (hb2.trans (k3.mono hb2.size)) vy.lt
        have vx3 := vx.mono (hb2.trans (k3.mono hb2.size)) vx.lt
        have hl8 : w1.heap.size + 1 ≠ w.heap.size := by have := vx.lt; have := hb1.size; omega
        have hmod := Nat.mod_lt x (Nat.pos_of_ne_zero HY0.out)
        rw [← hR0.out] at hmod
        have hgc : Nat.gcd y R0 = Nat.gcd m n := by rw [hR0.out, ← HXY.out, Nat.gcd_comm x y, Nat.gcd_rec y x, Nat.gcd_comm]
        have HGC := Lib.hid hgc
        have hnr : nl R0 ≤ 100000000000 := Nat.le_trans (nl_mono (Nat.le_of_lt hmod)) hy
        clear hgc c5 c6 cr fr k0 k1 k2 k3 hb2 hxq hxr
        change GT w (World.drew _) x y at hs3
        change IsN (World.drew _) _ _ at nr3
        change IsN (World.drew _) _ _ at ny3
        change VarB (World.drew _) _ _ _ _ at v8
        change VarB (World.drew _) _ _ _ _ at vy3
        change VarB (World.drew _) _ _ _ _ at vx3
        generalize World.drew _ = w3 at *
        have hT' := gt_set hs3 ny3 nr3
        have v8' := v8.setOther ⟨w.heap.size, 0, none⟩ (.slice ay (nl y) cy) (fun e => hl8 e.symm)
        have vy3' := vy3.setOther ⟨w.heap.size, 0, none⟩ (.slice ay (nl y) cy) (by simp)
        have hsv := hs.v2.val
        have htv := hT'.v2.val
        have c6 := vy3.cell
        have c8 := v8.cell
        have f5 := vx3.frozen
        have c5 := vx3.cell
        have c6' := vy3'.cell
        have f6' := vy3'.frozen
        have c8' := v8'.cell
        refine wpAny_take_loadD (i := 0) (t := 2) (d := some 19) (v := ?v3_0_1) rfl rfl (by decide) rfl rfl (by kernel_rfl) (by kernel_rfl) (fun _ _ _ h => h) ⟨by rfl, ?hy3_0_1⟩ ?_
        case hy3_0_1 => (go_simp; try with_reducible rfl)
        try simp only [Act.put, List.setIfInBounds_toArray, List.set_cons_zero, List.set_cons_succ]
        refine wpAny_ready (rs := [1, 2]) (by kernel_rfl) (by simp) ?_
        refine AllReady.cons rfl (fun K hK => ?_) ?_
        · go_simp
          refine hK _ _ ?_
          clear hK K
          try simp only [Act.put, List.setIfInBounds_toArray, List.set_cons_zero, List.set_cons_succ]
          refine wpAny_ready (rs := [2]) (by kernel_rfl) (by simp) ?_
          refine AllReady.cons rfl (fun K hK => ?_) AllReady.nil
          go_simp
          refine hK _ _ ?_
          clear hK K
          try simp only [Act.put, List.setIfInBounds_toArray, List.set_cons_zero, List.set_cons_succ]
          refine wpAny_ready (rs := [3]) (by kernel_rfl) (by simp) ?_
          refine AllReady.cons rfl (fun K hK => ?_) AllReady.nil
          go_simp
          refine hK _ _ ?_
          clear hK K
          try simp only [Act.put, List.setIfInBounds_toArray, List.set_cons_zero, List.set_cons_succ]
          refine wpAny_done (by kernel_rfl) ?_ _
          go_wp2_with fail
          go_roundw
          case rel => exact ⟨y, R0, HGC, hy, hnr, hT'⟩
          case measure => rw [hsv, htv]; exact hmod
        refine AllReady.cons rfl (fun K hK => ?_) ?_
        · go_simp
          refine hK _ _ ?_
          clear hK K
          try simp only [Act.put, List.setIfInBounds_toArray, List.set_cons_zero, List.set_cons_succ]
          refine wpAny_ready (rs := [1]) (by kernel_rfl) (by simp) ?_
          refine AllReady.cons rfl (fun K hK => ?_) AllReady.nil
          go_simp
          refine hK _ _ ?_
          clear hK K
          try simp only [Act.put, List.setIfInBounds_toArray, List.set_cons_zero, List.set_cons_succ]
          refine wpAny_ready (rs := [3]) (by kernel_rfl) (by simp) ?_
          refine AllReady.cons rfl (fun K hK => ?_) AllReady.nil
          go_simp
          refine hK _ _ ?_
          clear hK K
          try simp only [Act.put, List.setIfInBounds_toArray, List.set_cons_zero, List.set_cons_succ]
          refine wpAny_done (by kernel_rfl) ?_ _
          go_wp2_with fail
          go_roundw
          case rel => exact ⟨y, R0, HGC, hy, hnr, hT'⟩
          case measure => rw [hsv, htv]; exact hmod
        exact AllReady.nil
end Go.Proofs.Ytldnimohnbjfaaa
namespace Go.Proofs.Ytldnimohnbjfaaa
set_option linter.unusedSimpArgs false
set_option linter.unusedVariables false
set_option maxRecDepth 100000
open Go.RowKit
section
variable {Q : Exit → Act → World → Prop} {o : Oper} {a : Act} {w : World} {x y : Operand} {m n : Nat} {tt : Array TypeId}
theorem ofN {w w' : World} {N : Nat} {e : Ending} (h : RetN w N e w') : ∃ v, e = .returned v ∧ (Sp.nat N).p w' v ∧ Below w.heap.size w w' := h
theorem arm_not {t : TypeId} {b : Bool} (ho : o.op = .unOp .not t x) (hx : Is a w x (.val (.bool b))) : Arm Try.prog Q o a w (.val (.bool (!b))) := by
  have hx' : a.eval x = .bool b := hx
  refine arm_run (.bool (!b)) ?_ rfl
  unfold execOp
  rw [ho]
  simp only [hx']
  cases b <;> rfl
end
theorem IsN.shape {w : World} {v : Value} {N : Nat} (h : IsN w v N) : ∃ x c, v = .agg #[.slice x (nl N) c] := by
  obtain ⟨x, c, rfl, _⟩ := h; exact ⟨x, c, rfl⟩
/-- A new variable is written: it holds N, the others what they held. -/
theorem VarI.put {w : World} {g N c : Nat} {x : Option Addr} (hv : VarB w g none 0 0) (hn : IsN w (.agg #[.slice x (nl N) c]) N) : VarI (w.setCell ⟨g, 0, none⟩ (.slice x (nl N) c)) g N :=
  ⟨x, c, hv.set, hn.setVar hv⟩
end Go.Proofs.Ytldnimohnbjfaaa
namespace Go.Proofs.Ytldnimohnbjfaaa
set_option linter.unusedSimpArgs false
set_option linter.unusedVariables false
set_option maxRecDepth 100000
open Go.RowKit
theorem VarI.set {w : World} {g L c c' N : Nat} {a a' : Option Addr} (h : VarB w g a L c) (hn : IsN w (.agg #[.slice a' (nl N) c']) N) : VarI (w.setCell ⟨g, 0, none⟩ (.slice a' (nl N) c')) g N := ⟨a', c', h.set, hn.setVar h⟩
theorem cat_bytes (b : UInt8) (l : List UInt8) : (ByteArray.mk #[b]) ++ (ByteArray.mk l.toArray) = ByteArray.mk (b :: l).toArray := by
  apply ByteArray.ext
  simp
set_option maxRecDepth 100000 in
set_option maxHeartbeats 2000000 in
theorem c_ref_Format (va : Value) (N : Nat) (w : World) (ha : IsN w va N) (hm : nl N ≤ 1000000000000) :
    Calls Try.prog 62 #[va] w fun e w' => RetV w (.string (fmtB N)) e w' := by
  obtain ⟨a, ca, rfl, hca, ra⟩ := ha
  obtain ⟨k0, k1⟩ := box1 (L := nl N) (c := ca) (N := N) ⟨a, ca, rfl, hca, ra⟩
  by_cases h0 : N = 0
  · have e1 : nl N = 0 := nl_eq_zero.2 h0
    have e2 : fmtB N = ⟨#[48]⟩ := by unfold fmtB; rw [if_pos h0]
    have HE2 := Lib.hid e2
    rw [e1] at k0 k1 ⊢
    clear e1 e2 ra hm hca
    obtain ⟨y1, d1, q1, i1⟩ := k1
    have c1 := q1.cell
    go_enter Try.func62, Try.ntmps62
    go_wp2
    go_ret
    exact ⟨by rw [HE2.out]; rfl, k0⟩
  · have hp := nl_pos h0
    have hne : (((nl N : Nat) : Int) == 0) = false := by rw [beq_eq_false_iff_ne]; omega
    have HN0 := Lib.hid h0
    clear h0 hca ra
    have k1' := k1
    obtain ⟨y1, d1, q1, i1⟩ := k1'
    have c1 := q1.cell
    go_enter Try.func62, Try.ntmps62
    go_upto_region 3 with (fail)
    go_cut [1, 3] (fun s1 s3 wx => s1 = .pointer (some ⟨w.heap.size, 0, none⟩) ∧ s3 = .string ⟨#[]⟩ ∧ VarI wx w.heap.size N ∧ Below w.heap.size w wx)
    case first =>
      go_wp2_with fail
      go_meet
      case rel => exact ⟨rfl, rfl, k1, k0⟩
    case rest =>
      clear c1 q1 i1 k1 k0 hne
      obtain ⟨rfl, rfl, V1, hb1⟩ := hcut
      go_wp2_with fail
      go_loopw [3] (fun s3 wr => ∃ (V : Nat) (l : List UInt8) (S : ByteArray), s3 = .string S ∧ Hid (S = ⟨l.reverse.toArray⟩) ∧ V ≤ N ∧ Hid (decB N = l ++ decB V) ∧ VarI wr w.heap.size V ∧ Below w.heap.size w wr) (fun _ wr => valI wr w.heap.size)
      case atStart => exact ⟨N, [], ⟨#[]⟩, rfl, Lib.hid rfl, Nat.le_refl _, Lib.hid (by simp), V1, hb1⟩
      case round =>
        clear V1 hb1
        rename World => wo
        obtain ⟨V, l, S, rfl, HS, hVN, HL, V1, hb1⟩ := hrel
        have hnv := nl_mono hVN
        have hval := V1.val
        obtain ⟨a1, ca1, q1, i1⟩ := V1
        have c1 := q1.cell
        by_cases hV : V = 0
        · subst hV
          rw [decB_zero, List.append_nil] at HL
          rw [nl_zero] at c1
          go_wp2
          go_ret
          exact ⟨by rw [HS.out]; unfold fmtB; rw [if_neg HN0.out, HL.out]; rfl, hb1⟩
        · have hpos := nl_pos hV
          have HV0 := Lib.hid hV
          clear hV
          obtain ⟨_, _, e1, hcap, rx⟩ := i1
          simp only [Value.agg.injEq, Array.mk.injEq, List.cons.injEq, Value.slice.injEq, and_true, true_and] at e1
          obtain ⟨rfl, rfl⟩ := e1
          have hown := OwnR.made wo (nl V)
          have hbm := bel1 wo (zrow (nl V))
          go_upto_region 6 with (fail)
          go_cut [5] (fun s5 wx => s5 = .slice (some ⟨wo.heap.size, 0, none⟩) (nl V) (nl V) ∧ OwnR wx wo.heap.size (nl V) 0 ∧ Below wo.heap.size wo wx)
          case first =>
            go_wp2_with (at_make; refine wpList_make_dig rfl _ _ rfl _ _ _ _ (nl V) rfl rfl (by omega) (by omega) (by omega) ?_)
            go_meet
            case rel => exact ⟨rfl, hown, hbm⟩
          case rest =>
          obtain ⟨rfl, hown, hbm⟩ := hcut
          clear c1
          have c1 := (q1.mono hbm q1.lt).cell
          go_wp2_with fail
          go_loopw [4, 6] (fun s4 s6 wq => ∃ k c : Nat, k ≤ nl V ∧ s6 = .int .i64 ((k : Int) - 1) ∧ s4 = .int .u64 (c : Int) ∧ c ≤ 9 ∧ Hid (c = V / 4294967296 ^ k % 10) ∧ OwnR wq wo.heap.size (nl V) (shortAt V 10 k) ∧ Below wo.heap.size wo wq) (fun _ s6 _ => (intOf s6 + 1).toNat)
          case atStart => exact ⟨nl V, 0, Nat.le_refl _, rfl, rfl, by omega, Lib.hid (by rw [Nat.div_eq_of_lt (lt_nl V)]), by unfold shortAt; rw [Nat.div_eq_of_lt (lt_nl V)]; simpa using hown, hbm⟩
          case round =>
            clear c1 hown hbm
            obtain ⟨k, c, hk, rfl, rfl, hc9, HC, ho, hbq⟩ := hrel
            have c1 := (q1.mono hbq q1.lt).cell
            cases k with
            | zero =>
              have e1 : shortAt V 10 0 = V / 10 := by simp [shortAt]
              rw [e1] at ho
              have hcV : c = V % 10 := by have := HC.out; rwa [Nat.pow_zero, Nat.div_one] at this
              have HCV := Lib.hid hcV
              clear e1 hcV
              obtain ⟨b, hb⟩ : ∃ b : UInt8, Hid (b = UInt8.ofNat (48 + c)) := ⟨_, Lib.hid rfl⟩
              have hbn : b.toNat = 48 + c := by rw [hb.out, UInt8.toNat_ofNat']; omega
              have hb48 : (48 : Int) + (c : Int) = ((b.toNat : Nat) : Int) := by omega
              have hb256 : b.toNat ≤ 255 := by omega
              have hconv := run_convert_bytes_back (P := Try.prog) (wr.alloc (.cells #[.int .u8 ((b.toNat : Nat) : Int)] 5)) 84 9 5 ⟨wr.heap.size, 0, none⟩ 1 [b] Try.underlying84 Try.underlying5 Try.underlying9 (fun j hj => by
                have : j = 0 := by simpa using hj
                subst this
                simp [Addr.add])
              obtain ⟨S2, hS2⟩ : ∃ S2 : ByteArray, Hid (S2 = ByteArray.mk #[b] ++ S) := ⟨_, Lib.hid rfl⟩
              have hcat : ByteArray.mk #[b] ++ S = S2 := hS2.out.symm
              clear hbn
              have HCAT := Lib.hid (show S2 = ByteArray.mk (l ++ [b]).reverse.toArray by rw [hS2.out, HS.out, cat_bytes]; simp)
              simp only [List.length_cons, List.length_nil, Nat.zero_add] at hconv
              have hSz : S.size ≤ 10000000000000 := by
                have h1 : S.size = l.length := by rw [HS.out]; simp [ByteArray.size]
                have h2 : (decB N).length = l.length + (decB V).length := by rw [HL.out, List.length_append]
                have h3 := decB_bound N
                omega
              go_wp2_with fail
              refine (c_Trim _ (nl V) (nl V) (V / 10) _ (ho.rw'.mono (bel1 _ _)) (by omega)).mono ?_
              rintro e w2 ⟨v2, rfl, nn, bb⟩
              obtain ⟨V2, hV2⟩ : ∃ M : Nat, Hid (M = V / 10) := ⟨_, Lib.hid rfl⟩
              rw [← hV2.out] at nn
              obtain ⟨x2, c2, rfl, hc2, hx2⟩ := nn
              have hB := hbq.trans (((bel1 wr _).trans (bb.mono (bel1 wr _).size)).mono hbq.size)
              have q2 := q1.mono hB q1.lt
              have cc2 := q2.cell
              have ff2 := q2.frozen
              have V1 := VarI.set q2 (NewN.isN (base := 0) (w := w2) (N := V2) (by exact NewN.weaken ⟨x2, c2, rfl, hc2, hx2⟩ (Nat.zero_le _)))
              have hval2 := V1.val
              have hBB := (hb1.trans (hB.mono hb1.size)).setCell (p := ⟨w.heap.size, 0, none⟩) (Nat.le_refl _) (.slice x2 (nl V2) c2)
              have hlt2 : V2 < V := by have := hV2.out; have := HV0.out; omega
              have HDL := Lib.hid (show decB N = (l ++ [b]) ++ decB V2 by rw [HL.out, decB_pos HV0.out, List.append_assoc, hV2.out, hb.out, HCV.out]; rfl)
              clear hx2 hc2 hconv ho
              go_wp2_with fail
              go_roundw
              case rel => exact ⟨V2, l ++ [b], S2, rfl, HCAT, by omega, HDL, V1, hBB⟩
              case measure => rw [hval, hval2]; exact hlt2
            | succ k =>
              have hx1 : V / 4294967296 ^ (k + 1) % 10 = c := HC.out.symm
              have hstep := shortAt_step V 10 k (by decide)
              rw [hx1] at hstep
              obtain ⟨X, hX⟩ : ∃ X : Nat, Hid (X = c * 4294967296 + D V k) := ⟨_, Lib.hid rfl⟩
              rw [← hX.out] at hstep
              obtain ⟨Y, hY⟩ : ∃ Y : Nat, Hid (Y = X / 10) := ⟨_, Lib.hid rfl⟩
              obtain ⟨Z, hZ⟩ : ∃ Z : Nat, Hid (Z = X % 10) := ⟨_, Lib.hid rfl⟩
              have hdk := D_lt V k
              have hXs : (c : Int) * 4294967296 + ((D V k : Nat) : Int) = (X : Int) := by have := hX.out; omega
              have hXb : X ≤ 42949672960 := by have := hX.out; omega
              have hXq : (X : Int) / 10 = (Y : Int) := by have := hY.out; omega
              have hXr : (X : Int) % 10 = (Z : Int) := by have := hZ.out; omega
              have hY32 : Y < 4294967296 := by rw [hY.out]; exact hstep.2.2
              have hYb : Y ≤ 4294967295 := by omega
              have hZb : Z ≤ 9 := by have := hZ.out; omega
              have hst := ho.store (p := k) (e := Y) (by omega) hY32
              rw [hY.out, hstep.1] at hst
              rw [← hY.out] at hst
              have HZ := Lib.hid (show Z = V / 4294967296 ^ k % 10 by rw [hZ.out]; exact hstep.2.1)
              have c4 := ho.cell (p := k) (by omega)
              have f4 := ho.frozen k
              have rq := rx.mono (hbq.mono (Nat.le_refl _))
              obtain ⟨b1, o1, rfl, h1⟩ := rq.cells (by omega)
              have d1 := h1 k (by omega)
              have e : (((k + 1 : Nat) : Int) - 1) = (k : Int) := by omega
              simp only [e]
              have HST := Lib.hid hst
              clear e hx1 hstep hst hY32
              have hbs := hbq.setCell (p := ⟨wo.heap.size, k, none⟩) (Nat.le_refl _) (.int .u32 (Y : Int))
              go_wp2_with fail
              go_roundw
              case rel => exact ⟨k, Z, by omega, by go_num, by first | rfl | rw [hXr], hZb, HZ, HST.out, hbs⟩
              case measure => simp [intOf] <;> omega
end Go.Proofs.Ytldnimohnbjfaaa
namespace Go.Proofs.Ytldnimohnbjfaaa
set_option linter.unusedSimpArgs false
set_option linter.unusedVariables false
set_option maxRecDepth 100000
open Go.RowKit
theorem by_list (l : List UInt8) (i : Nat) : by' ⟨l.toArray⟩ i = (l[i]?.map UInt8.toNat).getD 0 := by
  unfold by'
  by_cases h : i < l.length
  · have h' : i < (ByteArray.mk l.toArray).size := by simpa [ByteArray.size] using h
    rw [dif_pos h']
    simp [h]
    rfl
  · have h' : ¬ i < (ByteArray.mk l.toArray).size := by simpa [ByteArray.size] using h
    rw [dif_neg h', List.getElem?_eq_none (by omega)]
    rfl
theorem parseVal_congr {s t : ByteArray} : ∀ k, (∀ j, j < k → by' s j = by' t j) → parseVal s k = parseVal t k
  | 0, _ => rfl
  | k + 1, h => by
    show 10 * parseVal s k + (by' s k - 48) = 10 * parseVal t k + (by' t k - 48)
    rw [parseVal_congr k (fun j hj => h j (by omega)), h k (by omega)]
theorem digit_byte (d : Nat) (h : d ≤ 9) : (UInt8.ofNat (48 + d)).toNat = 48 + d := by rw [UInt8.toNat_ofNat']; omega
theorem by_snoc_lt (l : List UInt8) (b : UInt8) (j : Nat) (h : j < l.length) : by' ⟨(l ++ [b]).toArray⟩ j = by' ⟨l.toArray⟩ j := by
  rw [by_list, by_list, List.getElem?_append_left h]
theorem by_snoc_eq (l : List UInt8) (b : UInt8) : by' ⟨(l ++ [b]).toArray⟩ l.length = b.toNat := by
  rw [by_list]; simp
/-- The digits of N, read as a number, are N; all are digits; the first is not 0. -/
theorem dec_read : ∀ (n N : Nat), N ≤ n → N ≠ 0 → parseVal ⟨(decB N).reverse.toArray⟩ (decB N).length = N ∧ goodTo ⟨(decB N).reverse.toArray⟩ (decB N).length ∧ by' ⟨(decB N).reverse.toArray⟩ 0 ≠ 48 ∧ 0 < (decB N).length
  | 0, N, h, h0 => by omega
  | n + 1, N, h, h0 => by
    have hd := digit_byte (N % 10) (by omega)
    rw [decB_pos h0, List.reverse_cons, List.length_cons]
    by_cases hz : N / 10 = 0
    · have hN : N ≤ 9 := by omega
      rw [hz, decB_zero]
      have e := by_snoc_eq [] (UInt8.ofNat (48 + N % 10))
      rw [hd] at e
      simp only [List.reverse_nil, List.length_nil] at e ⊢
      refine ⟨?_, ?_, ?_, by omega⟩
      · show 10 * 0 + (by' _ 0 - 48) = N
        rw [e]; omega
      · intro j hj
        obtain rfl : j = 0 := by omega
        rw [e]; omega
      · rw [e]; omega
    · obtain ⟨i1, i2, i3, i4⟩ := dec_read n (N / 10) (by omega) hz
      have hlt : ∀ j, j < (decB (N / 10)).length → by' ⟨((decB (N / 10)).reverse ++ [UInt8.ofNat (48 + N % 10)]).toArray⟩ j = by' ⟨(decB (N / 10)).reverse.toArray⟩ j := fun j hj => by_snoc_lt _ _ j (by simpa using hj)
      have heq : by' ⟨((decB (N / 10)).reverse ++ [UInt8.ofNat (48 + N % 10)]).toArray⟩ (decB (N / 10)).length = 48 + N % 10 := by
        have := by_snoc_eq (decB (N / 10)).reverse (UInt8.ofNat (48 + N % 10))
        rw [List.length_reverse, hd] at this
        exact this
      refine ⟨?_, ?_, ?_, by omega⟩
      · show 10 * parseVal _ (decB (N / 10)).length + (by' _ (decB (N / 10)).length - 48) = N
        rw [parseVal_congr _ hlt, i1, heq]; omega
      · intro j hj
        rcases Nat.lt_or_ge j (decB (N / 10)).length with h' | h'
        · rw [hlt j h']; exact i2 j h'
        · obtain rfl : j = (decB (N / 10)).length := by omega
          rw [heq]; omega
      · rw [hlt 0 i4]; exact i3
theorem fmt_parses (N : Nat) (h : nl N ≤ 12) : ParseIs (fmtB N) N 0 := by
  by_cases h0 : N = 0
  · subst h0
    have e : fmtB 0 = ⟨#[48]⟩ := by unfold fmtB; rw [if_pos rfl]
    rw [e]
    refine ⟨fun h => absurd h (by decide), fun h => absurd h (by decide), fun h => absurd h (by decide), fun _ _ h => absurd (by decide : ∀ j, j < 1 → _) h, fun _ _ _ _ => ⟨by decide, rfl⟩⟩
  · have e : fmtB N = ⟨(decB N).reverse.toArray⟩ := by unfold fmtB; rw [if_neg h0]
    have hsz : (fmtB N).size = (decB N).length := by rw [e]; simp [ByteArray.size]
    obtain ⟨i1, i2, i3, i4⟩ := dec_read N N (Nat.le_refl _) h0
    have hb := decB_bound N
    rw [← e] at i1 i2 i3
    refine ⟨fun h => by omega, fun h => by omega, fun _ _ h => absurd h i3, fun _ _ h => absurd (by rw [hsz]; exact i2) h, fun _ _ _ _ => ⟨by rw [hsz, i1], rfl⟩⟩
/-- The first k bytes of s, the last one first. -/
def firsts (s : ByteArray) (k : Nat) : List UInt8 := (List.range k).reverse.map fun j => UInt8.ofNat (by' s j)
theorem firsts_succ (s : ByteArray) (k : Nat) : firsts s (k + 1) = UInt8.ofNat (by' s k) :: firsts s k := by
  unfold firsts; rw [List.range_succ, List.reverse_append]; rfl
theorem read_dec (s : ByteArray) (h0 : by' s 0 ≠ 48) : ∀ k, goodTo s (k + 1) → parseVal s (k + 1) ≠ 0 ∧ decB (parseVal s (k + 1)) = firsts s (k + 1)
  | 0, hg => by
    have h1 := hg 0 (by omega)
    have e : parseVal s (0 + 1) = by' s 0 - 48 := by show 10 * 0 + (by' s 0 - 48) = _; omega
    have hne : parseVal s (0 + 1) ≠ 0 := by rw [e]; omega
    refine ⟨hne, ?_⟩
    rw [decB_pos hne, firsts_succ, e]
    have h2 : (by' s 0 - 48) / 10 = 0 := by omega
    have h3 : 48 + (by' s 0 - 48) % 10 = by' s 0 := by omega
    rw [h2, h3, decB_zero]
    rfl
  | k + 1, hg => by
    obtain ⟨i1, i2⟩ := read_dec s h0 k (fun j hj => hg j (by omega))
    have h1 := hg (k + 1) (by omega)
    have e : parseVal s (k + 1 + 1) = 10 * parseVal s (k + 1) + (by' s (k + 1) - 48) := rfl
    have hne : parseVal s (k + 1 + 1) ≠ 0 := by rw [e]; omega
    refine ⟨hne, ?_⟩
    rw [decB_pos hne, firsts_succ, e]
    have h2 : (10 * parseVal s (k + 1) + (by' s (k + 1) - 48)) / 10 = parseVal s (k + 1) := by omega
    have h3 : 48 + (10 * parseVal s (k + 1) + (by' s (k + 1) - 48)) % 10 = by' s (k + 1) := by omega
    rw [h2, h3, i2]
theorem firsts_all (l : List UInt8) : firsts ⟨l.toArray⟩ l.length = l.reverse := by
  unfold firsts
  rw [List.map_reverse]
  apply congrArg List.reverse
  apply List.ext_getElem
  · simp
  · intro i h1 h2
    simp only [List.getElem_map, List.getElem_range, by_list, List.getElem?_eq_getElem h2, Option.map_some, Option.getD_some]
    exact UInt8.ofNat_toNat
theorem parse_fmt {s : ByteArray} {N : Nat} (h : ParseIs s N 0) : fmtB N = s := by
  obtain ⟨l, rfl⟩ : ∃ l : List UInt8, s = ⟨l.toArray⟩ := ⟨s.data.toList, by cases s; simp⟩
  have hsz : (ByteArray.mk l.toArray).size = l.length := by simp [ByteArray.size]
  have h1 : 0 < l.length := by
    rcases Nat.eq_zero_or_pos l.length with h' | h'
    · have := (h.short (by rw [hsz]; exact h')).2; omega
    · exact h'
  have h2 : l.length ≤ 400 := by
    rcases Nat.lt_or_ge 400 l.length with h' | h'
    · have := (h.long (by rw [hsz]; exact h')).2; omega
    · exact h'
  have hg : goodTo ⟨l.toArray⟩ l.length := Classical.byContradiction fun h' => by
    have := (h.bad (by omega) (by omega) (by rw [hsz]; exact h')).2; omega
  by_cases hz : by' ⟨l.toArray⟩ 0 = 48
  · have hl : l.length = 1 := by
      rcases Nat.lt_or_ge 1 l.length with h' | h'
      · have := (h.zero (by omega) (by omega) hz).2; omega
      · omega
    obtain ⟨b, rfl⟩ : ∃ b, l = [b] := List.length_eq_one_iff.1 hl
    have hb : b.toNat = 48 := by have := by_snoc_eq [] b; simp at this; rw [← this]; exact hz
    have hN := (h.good (by omega) (by omega) (fun _ => by omega) (by rw [hsz]; exact hg)).1
    have hN0 : N = 0 := by
      rw [hN, hsz]
      show 10 * 0 + (by' _ 0 - 48) = 0
      rw [hz]
    have hb' : b = 48 := UInt8.toNat_inj.1 hb
    rw [hN0, hb']
    unfold fmtB
    rw [if_pos rfl]
  · obtain ⟨k, hk⟩ : ∃ k, l.length = k + 1 := ⟨l.length - 1, by omega⟩
    have hN := (h.good (by omega) (by omega) (fun h' => absurd h' hz) (by rw [hsz]; exact hg)).1
    rw [hsz, hk] at hN
    obtain ⟨i1, i2⟩ := read_dec ⟨l.toArray⟩ hz k (by rw [← hk]; exact hg)
    rw [← hN] at i1 i2
    unfold fmtB
    rw [if_neg i1, i2, ← hk, firsts_all, List.reverse_reverse]
end Go.Proofs.Ytldnimohnbjfaaa
namespace Go.Proofs.Ytldnimohnbjfaaa
set_option linter.unusedSimpArgs false
set_option linter.unusedVariables false
set_option maxRecDepth 100000
open Go.RowKit
section
variable {P : Program} {Q : Exit → Act → World → Prop}
end
section
variable {Q : Exit → Act → World → Prop} {o : Oper} {a : Act} {w : World} {x y : Operand} {m n : Nat} {tt : Array TypeId}
end
end Go.Proofs.Ytldnimohnbjfaaa
namespace Go.Proofs.Ytldnimohnbjfaaa
set_option linter.unusedSimpArgs false
set_option linter.unusedVariables false
set_option maxRecDepth 100000
open Go.RowKit
def smallTab (w : World) (m k d M S : Nat) : List (Nat × Tmp × Sp) :=
   [(0, 7, .nat (m)),
    (1, 8, .val (Value.int IntKind.u64 ((k : Nat)))),
    (2, 9, .nat (k)),
    (3, 10, .nat (M)),
    (4, 11, .val (Value.int IntKind.u64 ((d : Nat)))),
    (5, 12, .nat (d)),
    (6, 13, .new w.heap.size S)]
set_option maxRecDepth 100000 in
set_option maxHeartbeats 1000000 in
theorem c_small (va : Value) (m k d : Nat) (w : World) (ha : IsN w va m) (hm : nl m ≤ 100000000000) (hk : k < 4294967296) (hd : d < 4294967296) :
    Calls Try.prog 83 #[va, .int .u64 (k : Int), .int .u64 (d : Int)] w fun e w' => RetNew w (m * k + d) e w' := by
  obtain ⟨a, ca, rfl, hca, ra⟩ := ha
  obtain ⟨k0, k1⟩ := box1 (L := nl m) (c := ca) (N := m) ⟨a, ca, rfl, hca, ra⟩
  have k3 := bel1 (w.alloc (.cells #[.slice a (nl m) ca] 24)) (.cells #[.slice none 0 0] 24)
  have k4 := VarB.made (w.alloc (.cells #[.slice a (nl m) ca] 24)) none 0 0
  rw [World.size_alloc] at k4
  obtain ⟨M, hM⟩ : ∃ M : Nat, Hid (M = m * k) := ⟨_, Lib.hid rfl⟩
  obtain ⟨S, hS⟩ : ∃ S : Nat, Hid (S = M + d) := ⟨_, Lib.hid rfl⟩
  have hk' : nl k ≤ 1000000000000 := nlb (by have : (4294967296 : Nat) ≤ 4294967296 ^ 4 := by decide
                                             omega)
  have hd' : nl d ≤ 1000000000000 := nlb (by have : (4294967296 : Nat) ≤ 4294967296 ^ 4 := by decide
                                             omega)
  have hm' : nl m ≤ 1000000000000 := by omega
  have hM' : nl M ≤ 1000000000000 := by
    have h1 := sm_mul (sm_nl hm) (show k < 4294967296 ^ 1 by rw [Nat.pow_one]; exact hk)
    rw [← hM.out] at h1
    exact Nat.le_trans (nl_le_iff.2 h1) (by decide)
  have hres : m * k + d = S := by rw [hS.out, hM.out]
  rw [hres]
  clear hres
  go_enter Try.func83, Try.ntmps83
  go_upto_region 0 with (fail)
  go_cut [3, 6] (fun s3 s6 wx => s3 = .pointer (some ⟨w.heap.size, 0, none⟩) ∧ s6 = .pointer (some ⟨w.heap.size + 1, 0, none⟩) ∧ VarI wx w.heap.size m ∧ VarB wx (w.heap.size + 1) none 0 0 ∧ Below w.heap.size w wx)
  case first =>
    go_wp2_with fail
    go_meet
    case rel => exact ⟨rfl, rfl, VarR.mono k1 k3, k4, k0.trans (k3.mono k0.size)⟩
  case rest =>
    obtain ⟨rfl, rfl, Va, vr, hb1⟩ := hcut
    clear k0 k1 k3 k4 ra hca
    go_upto_region 1 with (fail)
    refine wp_tabK Try.f83 1 (smallTab w m k d M S) (fun _ => false) 4 1 (by kernel_rfl) (by kernel_rfl) (by kernel_rfl) (by kernel_rfl) (EachX.of_all (fun _ h => by cases h) _) ?_ ?_
    · refine ⟨fun a' w' F => ⟨_, rfl, wanted_none rfl, (arm_load rfl (F.keep 3 (Value.pointer (some ⟨w.heap.size, 0, none⟩)) (by kernel_rfl) rfl).is (Va.mono F.below)).b⟩, ?_⟩
      refine ⟨fun a' w' F => ⟨_, rfl, wanted_none rfl, (arm_move (.inl rfl) (F.keep 1 (Value.int IntKind.u64 ((k : Nat))) (by kernel_rfl) rfl).is).b⟩, ?_⟩
      refine ⟨fun a' w' F => ⟨_, rfl, wanted_none rfl, (arm_rOf (n := k) rfl (F.f 1 rfl) (by omega)).b⟩, ?_⟩
      refine ⟨fun a' w' F => ⟨_, rfl, wanted_none rfl, (arm_rMul rfl (F.f 0 rfl) (F.f 2 rfl) hm' hk' hM.out.symm).b⟩, ?_⟩
      refine ⟨fun a' w' F => ⟨_, rfl, wanted_none rfl, (arm_move (.inl rfl) (F.keep 2 (Value.int IntKind.u64 ((d : Nat))) (by kernel_rfl) rfl).is).b⟩, ?_⟩
      refine ⟨fun a' w' F => ⟨_, rfl, wanted_none rfl, (arm_rOf (n := d) rfl (F.f 4 rfl) (by omega)).b⟩, ?_⟩
      refine ⟨fun a' w' F => ⟨_, rfl, wanted_none rfl, (arm_rAddN (Nat.le_trans hb1.size F.below.size) rfl (F.f 3 rfl) (F.f 5 rfl) hM' hd' hS.out.symm).b⟩, ?_⟩
      exact trivial
    intro gp wp bp G Gs
    obtain ⟨v6, e6, n6⟩ : ∃ v, gp 6 = v ∧ NewN w.heap.size wp v S := ⟨_, rfl, G 6 13 _ rfl⟩
    obtain ⟨x6, c6, rfl, hc6, hx6⟩ := n6
    have n6 : NewN w.heap.size wp (.agg #[.slice x6 (nl S) c6]) S := ⟨x6, c6, rfl, hc6, hx6⟩
    have vr2 := vr.mono bp vr.lt
    clear G Gs hc6 hx6
    simp only [smallTab]
    simp only [putD, entries, List.map_cons, List.map_nil, List.foldl_cons, List.foldl_nil, Act.put, List.setIfInBounds_toArray, List.set_cons_zero, List.set_cons_succ, e6]
    refine wpAny_store (j := 7) (by kernel_rfl) rfl rfl rfl rfl rfl rfl ⟨_, _, _, rfl⟩ vr2 ?_
    refine wpAny_done (by kernel_rfl) ?_ _
    have hB := (hb1.trans (bp.mono hb1.size)).setCell (p := ⟨w.heap.size + 1, 0, none⟩) (Nat.le_succ _) (.slice x6 (nl S) c6)
    have n7 := n6.setVar (u := .slice x6 (nl S) c6) vr2
    go_wp2
    exact bodyPost_ret (res_nat rfl _ _ (w.heap.size + 1) _ rfl vr2.set.cell) rfl ⟨_, rfl, n7, hB⟩
end Go.Proofs.Ytldnimohnbjfaaa
namespace Go.Proofs.Ytldnimohnbjfaaa
set_option linter.unusedSimpArgs false
set_option linter.unusedVariables false
set_option maxRecDepth 100000
open Go.RowKit
theorem parseVal_lt {s : ByteArray} : ∀ k, goodTo s k → parseVal s k < 10 ^ k
  | 0, _ => by show (0 : Nat) < 1; decide
  | k + 1, h => by
    have h1 := parseVal_lt k (fun j hj => h j (by omega))
    have h2 := h k (by omega)
    show 10 * parseVal s k + (by' s k - 48) < 10 ^ (k + 1)
    rw [Nat.pow_succ]
    omega
theorem parseVal_nl {s : ByteArray} {k : Nat} (h : goodTo s k) : nl (parseVal s k) ≤ k :=
  nl_le_iff.2 (Nat.lt_of_lt_of_le (parseVal_lt k h) (Nat.pow_le_pow_left (by decide) k))
theorem run_sub48 (d : Nat) (h : d ≤ 9) (w : World) : (binOp BinOp.sub 5 (.int .u8 ((48 + d : Nat) : Int)) (.int .u8 48)).run Try.prog w = .ok (.int .u8 (d : Int)) w := by
  have e : (((48 + d : Nat) : Int) - 48) % 256 = (d : Int) := by omega
  go_simp
  exact e
theorem run_conv8 (d : Nat) (h : d ≤ 255) (w : World) : (convert 5 58 (.int .u8 (d : Int))).run Try.prog w = .ok (.int .u64 (d : Int)) w := by
  go_simp
  simp [IntKind.wrap, IntKind.signed, IntKind.bits]
  try omega
theorem run_index (s : ByteArray) (k : Nat) (h : k < s.size) (w : World) : (Instr.index 9 (.string s) (.int .i64 (k : Int))).run Try.prog w = .ok (.int .u8 ((by' s k : Nat) : Int)) w := by
  rw [← by_eq h]
  go_simp
section
variable {Q : Exit → Act → World → Prop} {o : Oper} {a : Act} {w : World} {x y z : Operand} {m : Nat} {tt : Array TypeId}
theorem arm_index {s : ByteArray} {k b : Nat} (ho : o.op = .index 9 x y) (hx : Is a w x (.val (.string s))) (hy : Is a w y (.val (.int .i64 (k : Int)))) (hk : k < s.size) (hb : by' s k = b) : Arm Try.prog Q o a w (.val (.int .u8 (b : Int))) := by
  subst hb
  have hx' : a.eval x = .string s := hx
  have hy' : a.eval y = .int .i64 (k : Int) := hy
  refine arm_run _ ?_ rfl
  unfold execOp
  rw [ho]
  simp only [hx', hy', Sem.run_bind, run_index s k hk, Result.andThen, Sem.run_pure]
theorem arm_conv8 {d : Nat} (ho : o.op = .convert 5 58 x) (hx : Is a w x (.val (.int .u8 (d : Int)))) (hd : d ≤ 255) : Arm Try.prog Q o a w (.val (.int .u64 (d : Int))) := by
  have hx' : a.eval x = .int .u8 (d : Int) := hx
  refine arm_run _ ?_ rfl
  unfold execOp
  rw [ho]
  simp only [hx', Sem.run_bind, run_conv8 d hd, Result.andThen, Sem.run_pure]
theorem arm_small {base d N : Nat} (hb : base ≤ w.heap.size) (ho : o.op = .call { callee := .value (.func 83), args := #[x, y, z], argTypes := tt }) (hx : Is a w x (.nat m)) (hy : Is a w y (.val (.int .u64 10))) (hz : Is a w z (.val (.int .u64 (d : Int)))) (hm : nl m ≤ 100000000000) (hd : d ≤ 9) (hN : m * 10 + d = N) : Arm Try.prog Q o a w (.new base N) := by
  subst hN
  refine arm_call ho (enters Try.func83 rfl rfl) (R := fun e w' => RetNew w (m * 10 + d) e w') ?_ (fun _ _ h => ofNewB hb h)
  have hy' : a.eval y = .int .u64 10 := hy
  have hz' : a.eval z = .int .u64 (d : Int) := hz
  have := c_small (a.eval x) m 10 d w hx hm (by decide) (by omega)
  simpa [hy', hz'] using this
end
def parseTab (w : World) (s : ByteArray) (k d V V2 : Nat) : List (Nat × Tmp × Sp) :=
   [(0, 40, .nat (V)),
    (1, 41, .val (Value.string s)),
    (2, 42, .val (Value.int IntKind.i64 ((k : Nat)))),
    (3, 43, .val (Value.int IntKind.u8 ((48 + d : Nat) : Int))),
    (4, 44, .val (Value.int IntKind.u8 ((d : Nat) : Int))),
    (5, 45, .val (Value.int IntKind.u64 ((d : Nat)))),
    (6, 46, .new w.heap.size V2)]
theorem c_rParse_short (s : ByteArray) (w : World) (h0 : s.size = 0) : Calls Try.prog 59 #[.string s] w fun e w' => RetP w 0 1 e w' := by
  obtain ⟨hb, v2⟩ := start1 w
  have he := isEmpty_true h0
  have c2 := v2.cell
  have f2 := v2.frozen
  go_enter Try.func59, Try.ntmps59
  go_wp2
  exact bodyPost_ret (res_nat2 rfl _ _ w.heap.size (.slice none 0 0) (.int .i64 1) rfl rfl (by simp [go_sem])) rfl ⟨_, rfl, NewN.of_zero, by first | exact hb | exact hb.setCell (Nat.le_refl _) _⟩
theorem c_rParse_long (s : ByteArray) (w : World) (h0 : 400 < s.size) : Calls Try.prog 59 #[.string s] w fun e w' => RetP w 0 3 e w' := by
  obtain ⟨hb, v2⟩ := start1 w
  have he := isEmpty_false (s := s) (by omega)
  have hl : (400 : Int) < (s.size : Int) := by omega
  go_enter Try.func59, Try.ntmps59
  go_wp2
  exact bodyPost_ret (res_nat2 rfl _ _ w.heap.size (.slice none 0 0) (.int .i64 3) rfl rfl (by simp [go_sem])) rfl ⟨_, rfl, NewN.of_zero, by first | exact hb | exact hb.setCell (Nat.le_refl _) _⟩
theorem c_rParse_zero (s : ByteArray) (w : World) (h0 : 1 < s.size) (h1 : s.size ≤ 400) (hz : by' s 0 = 48) : Calls Try.prog 59 #[.string s] w fun e w' => RetP w 0 2 e w' := by
  obtain ⟨hb, v2⟩ := start1 w
  have he := isEmpty_false (s := s) (by omega)
  have hl : ¬ (400 : Int) < (s.size : Int) := by omega
  have hp : 0 < s.size := by omega
  have hz' : (((s[0]'hp).toNat : Nat) : Int) = 48 := by rw [by_eq, hz]; rfl
  have h0' : (1 : Int) < (s.size : Int) := by omega
  go_enter Try.func59, Try.ntmps59
  go_wp2
  exact bodyPost_ret (res_nat2 rfl _ _ w.heap.size (.slice none 0 0) (.int .i64 2) rfl rfl (by simp [go_sem])) rfl ⟨_, rfl, NewN.of_zero, by first | exact hb | exact hb.setCell (Nat.le_refl _) _⟩
set_option maxRecDepth 100000 in
set_option maxHeartbeats 1000000 in
theorem c_rParse_loop (s : ByteArray) (w : World) (N : Nat) (c : Int) (h0 : 0 < s.size) (h1 : s.size ≤ 400) (hz : by' s 0 = 48 → s.size = 1) (hgood : goodTo s s.size → N = parseVal s s.size ∧ c = 0) (hbad : ¬ goodTo s s.size → N = 0 ∧ c = 2) :
    Calls Try.prog 59 #[.string s] w fun e w' => RetP w N c e w' := by
  obtain ⟨hb, v2⟩ := start1 w
  have he := isEmpty_false (s := s) (by omega)
  have hl : ¬ (400 : Int) < (s.size : Int) := by omega
  have HG := Lib.hid hgood
  have HB := Lib.hid hbad
  clear hgood hbad
  obtain ⟨kb, kr, kv⟩ := start2 w none none 0 0 0 0
  have kN : VarN w.heap.size ((w.alloc (.cells #[.slice none 0 0] 24)).alloc (.cells #[.slice none 0 0] 24)) (w.heap.size + 1) 0 := ⟨none, 0, by rw [nl_zero]; exact kv, by rw [nl_zero]; exact NewN.of_zero⟩
  go_enter Try.func59, Try.ntmps59
  by_cases hz0 : by' s 0 = 48
  · have hs1 := hz hz0
    have hz' : (((s[0]'h0).toNat : Nat) : Int) = 48 := by rw [by_eq, hz0]; rfl
    have h0' : ¬ (1 : Int) < (s.size : Int) := by omega
    clear hz hz0
    go_upto_region 7 with (fail)
    go_cut [4] (fun s4 wx => s4 = .pointer (some ⟨w.heap.size + 1, 0, none⟩) ∧ VarB wx w.heap.size none 0 0 ∧ VarN w.heap.size wx (w.heap.size + 1) 0 ∧ Below w.heap.size w wx)
    case first =>
      go_wp2_with fail
      go_meet
      case rel => exact ⟨rfl, kr, kN, kb⟩
    case rest =>
    obtain ⟨rfl, vr, vN, hb1⟩ := hcut
    clear kb kr kv kN hb v2
    go_wp2_with fail
    go_loopw [5] (fun s5 wr => ∃ k, k ≤ s.size ∧ s5 = .int .i64 (k : Nat) ∧ Hid (goodTo s k) ∧ VarB wr w.heap.size none 0 0 ∧ VarN w.heap.size wr (w.heap.size + 1) (parseVal s k) ∧ Below w.heap.size w wr)
      (fun s5 _ => s.size - (intOf s5).toNat)
    case atStart => exact ⟨0, Nat.zero_le _, rfl, Lib.hid (fun j h => by omega), vr, vN, hb1⟩
    case round =>
      clear vr vN hb1
      obtain ⟨k, hk, rfl, HR, vr, vN, hbr⟩ := hrel
      have cr := vr.cell
      have fr := vr.frozen
      by_cases hlt : k < s.size
      · by_cases hlo : by' s k < 48
        · have hx : (((s[k]'hlt).toNat : Nat) : Int) < 48 := by rw [by_eq]; omega
          obtain ⟨rfl, rfl⟩ := HB.out (fun h => by have := (h k hlt).1; omega)
          clear HB HG HR
          go_wp2
          exact bodyPost_ret (res_nat2 rfl _ _ w.heap.size (.slice none 0 0) (.int .i64 2) rfl rfl vr.set.cell) rfl ⟨_, rfl, NewN.of_zero, hbr.setCell (Nat.le_refl _) _⟩
        · by_cases hhi : 57 < by' s k
          · have hx : ¬ (((s[k]'hlt).toNat : Nat) : Int) < 48 := by rw [by_eq]; omega
            have hy : (57 : Int) < (((s[k]'hlt).toNat : Nat) : Int) := by rw [by_eq]; omega
            obtain ⟨rfl, rfl⟩ := HB.out (fun h => by have := (h k hlt).2; omega)
            clear HB HG HR
            go_wp2
            exact bodyPost_ret (res_nat2 rfl _ _ w.heap.size (.slice none 0 0) (.int .i64 2) rfl rfl vr.set.cell) rfl ⟨_, rfl, NewN.of_zero, hbr.setCell (Nat.le_refl _) _⟩
          · have hx : ¬ (((s[k]'hlt).toNat : Nat) : Int) < 48 := by rw [by_eq]; omega
            have hy : ¬ (57 : Int) < (((s[k]'hlt).toNat : Nat) : Int) := by rw [by_eq]; omega
            obtain ⟨d, hd⟩ : ∃ d : Nat, by' s k = 48 + d := ⟨by' s k - 48, by omega⟩
            have hd9 : d ≤ 9 := by omega
            have HD := Lib.hid (show goodTo s (k + 1) from fun j hj => by
              rcases Nat.lt_or_ge j k with h | h
              · exact HR.out j h
              · rw [show j = k by omega]; omega)
            obtain ⟨V, hV⟩ : ∃ V : Nat, Hid (V = parseVal s k) := ⟨_, Lib.hid rfl⟩
            have hVb : nl V ≤ 100000000000 := by rw [hV.out]; exact Nat.le_trans (parseVal_nl HR.out) (by omega)
            obtain ⟨V2, hV2⟩ : ∃ V2 : Nat, Hid (V2 = V * 10 + d) := ⟨_, Lib.hid rfl⟩
            have HP := Lib.hid (show parseVal s (k + 1) = V2 by
              show 10 * parseVal s k + (by' s k - 48) = V2
              rw [hV2.out, hV.out]; omega)
            rw [← hV.out] at vN
            have hbyd := hd
            have HBD := Lib.hid hbyd
            clear hlo hhi hd hbyd cr fr
            go_upto_region 13 with (fail)
            refine wp_tabK Try.f59 13 (parseTab w s k d V V2) (fun _ => false) 4 1 (by kernel_rfl) (by kernel_rfl) (by kernel_rfl) (by kernel_rfl) (EachX.of_all (fun _ h => by cases h) _) ?_ ?_
            · refine ⟨fun a' w' F => ⟨_, rfl, wanted_none rfl, (arm_load rfl (F.keep 4 (Value.pointer (some ⟨w.heap.size + 1, 0, none⟩)) (by kernel_rfl) rfl).is (vN.isI.mono F.below)).b⟩, ?_⟩
              refine ⟨fun a' w' F => ⟨_, rfl, wanted_none rfl, (arm_move (.inl rfl) (F.keep 0 (Value.string s) (by kernel_rfl) rfl).is).b⟩, ?_⟩
              refine ⟨fun a' w' F => ⟨_, rfl, wanted_none rfl, (arm_move (.inl rfl) (F.keep 5 (Value.int IntKind.i64 ((k : Nat))) (by kernel_rfl) rfl).is).b⟩, ?_⟩
              refine ⟨fun a' w' F => ⟨_, rfl, wanted_none rfl, (arm_index rfl (F.f 1 rfl) (F.f 2 rfl) hlt HBD.out).b⟩, ?_⟩
              refine ⟨fun a' w' F => ⟨_, rfl, wanted_none rfl, (arm_bin rfl (F.f 3 rfl) Is.const (fun _ => rfl) (run_sub48 d (by omega))).b⟩, ?_⟩
              refine ⟨fun a' w' F => ⟨_, rfl, wanted_none rfl, (arm_conv8 rfl (F.f 4 rfl) (by omega)).b⟩, ?_⟩
              refine ⟨fun a' w' F => ⟨_, rfl, wanted_none rfl, (arm_small (Nat.le_trans hbr.size F.below.size) rfl (F.f 0 rfl) Is.const (F.f 5 rfl) hVb (by omega) hV2.out.symm).b⟩, ?_⟩
              exact trivial
            intro gp wp bp G Gs
            obtain ⟨v6, e6, n6⟩ : ∃ v, gp 6 = v ∧ NewN w.heap.size wp v V2 := ⟨_, rfl, G 6 46 _ rfl⟩
            obtain ⟨x6, c6, rfl, hc6, hx6⟩ := n6
            have n6 : NewN w.heap.size wp (.agg #[.slice x6 (nl V2) c6]) V2 := ⟨x6, c6, rfl, hc6, hx6⟩
            obtain ⟨aN, cN, bN, nN⟩ := vN
            have bN2 := bN.mono bp bN.lt
            have vr2 := vr.mono bp vr.lt
            clear G Gs hc6 hx6
            simp only [parseTab]
            simp only [putD, entries, List.map_cons, List.map_nil, List.foldl_cons, List.foldl_nil, Act.put, List.setIfInBounds_toArray, List.set_cons_zero, List.set_cons_succ, e6]
            refine wpAny_store (j := 7) (by kernel_rfl) rfl rfl rfl rfl rfl rfl ⟨_, _, _, rfl⟩ bN2 ?_
            refine wpAny_done (by kernel_rfl) ?_ _
            have hB := (hbr.trans (bp.mono hbr.size)).setCell (p := ⟨w.heap.size + 1, 0, none⟩) (Nat.le_succ _) (.slice x6 (nl V2) c6)
            have vN2 : VarN w.heap.size (wp.setCell ⟨w.heap.size + 1, 0, none⟩ (.slice x6 (nl V2) c6)) (w.heap.size + 1) V2 := ⟨x6, c6, bN2.set, n6.setVar bN2⟩
            have vr3 := vr2.setOther ⟨w.heap.size + 1, 0, none⟩ (.slice x6 (nl V2) c6) (by simp)
            go_wp2_with fail
            go_roundw
            case rel => exact ⟨k + 1, by omega, by go_num, HD, vr3, by rw [HP.out]; exact vN2, hB⟩
            case measure => simp [intOf] <;> omega
      · obtain rfl : k = s.size := by omega
        obtain ⟨rfl, rfl⟩ := HG.out HR.out
        clear HB HG HR
        obtain ⟨V, hV⟩ : ∃ V : Nat, Hid (V = parseVal s s.size) := ⟨_, Lib.hid rfl⟩
        rw [← hV.out] at vN
        obtain ⟨aN, cN, bN, nN⟩ := vN
        have c1 := bN.cell
        have nn := nN.setVar (u := .slice aN (nl V) cN) vr
        go_wp2
        exact bodyPost_ret (res_nat2 rfl _ _ w.heap.size _ (.int .i64 0) rfl rfl vr.set.cell) rfl ⟨_, rfl, by rw [← hV.out]; exact nn, hbr.setCell (Nat.le_refl _) _⟩
  · have hz' : ¬ (((s[0]'h0).toNat : Nat) : Int) = 48 := by rw [by_eq]; omega
    clear hz hz0
    go_upto_region 7 with (fail)
    go_cut [4] (fun s4 wx => s4 = .pointer (some ⟨w.heap.size + 1, 0, none⟩) ∧ VarB wx w.heap.size none 0 0 ∧ VarN w.heap.size wx (w.heap.size + 1) 0 ∧ Below w.heap.size w wx)
    case first =>
      go_wp2_with fail
      go_meet
      case rel => exact ⟨rfl, kr, kN, kb⟩
    case rest =>
    obtain ⟨rfl, vr, vN, hb1⟩ := hcut
    clear kb kr kv kN hb v2
    go_wp2_with fail
    go_loopw [5] (fun s5 wr => ∃ k, k ≤ s.size ∧ s5 = .int .i64 (k : Nat) ∧ Hid (goodTo s k) ∧ VarB wr w.heap.size none 0 0 ∧ VarN w.heap.size wr (w.heap.size + 1) (parseVal s k) ∧ Below w.heap.size w wr)
      (fun s5 _ => s.size - (intOf s5).toNat)
    case atStart => exact ⟨0, Nat.zero_le _, rfl, Lib.hid (fun j h => by omega), vr, vN, hb1⟩
    case round =>
      clear vr vN hb1
      obtain ⟨k, hk, rfl, HR, vr, vN, hbr⟩ := hrel
      have cr := vr.cell
      have fr := vr.frozen
      by_cases hlt : k < s.size
      · by_cases hlo : by' s k < 48
        · have hx : (((s[k]'hlt).toNat : Nat) : Int) < 48 := by rw [by_eq]; omega
          obtain ⟨rfl, rfl⟩ := HB.out (fun h => by have := (h k hlt).1; omega)
          clear HB HG HR
          go_wp2
          exact bodyPost_ret (res_nat2 rfl _ _ w.heap.size (.slice none 0 0) (.int .i64 2) rfl rfl vr.set.cell) rfl ⟨_, rfl, NewN.of_zero, hbr.setCell (Nat.le_refl _) _⟩
        · by_cases hhi : 57 < by' s k
          · have hx : ¬ (((s[k]'hlt).toNat : Nat) : Int) < 48 := by rw [by_eq]; omega
            have hy : (57 : Int) < (((s[k]'hlt).toNat : Nat) : Int) := by rw [by_eq]; omega
            obtain ⟨rfl, rfl⟩ := HB.out (fun h => by have := (h k hlt).2; omega)
            clear HB HG HR
            go_wp2
            exact bodyPost_ret (res_nat2 rfl _ _ w.heap.size (.slice none 0 0) (.int .i64 2) rfl rfl vr.set.cell) rfl ⟨_, rfl, NewN.of_zero, hbr.setCell (Nat.le_refl _) _⟩
          · have hx : ¬ (((s[k]'hlt).toNat : Nat) : Int) < 48 := by rw [by_eq]; omega
            have hy : ¬ (57 : Int) < (((s[k]'hlt).toNat : Nat) : Int) := by rw [by_eq]; omega
            obtain ⟨d, hd⟩ : ∃ d : Nat, by' s k = 48 + d := ⟨by' s k - 48, by omega⟩
            have hd9 : d ≤ 9 := by omega
            have HD := Lib.hid (show goodTo s (k + 1) from fun j hj => by
              rcases Nat.lt_or_ge j k with h | h
              · exact HR.out j h
              · rw [show j = k by omega]; omega)
            obtain ⟨V, hV⟩ : ∃ V : Nat, Hid (V = parseVal s k) := ⟨_, Lib.hid rfl⟩
            have hVb : nl V ≤ 100000000000 := by rw [hV.out]; exact Nat.le_trans (parseVal_nl HR.out) (by omega)
            obtain ⟨V2, hV2⟩ : ∃ V2 : Nat, Hid (V2 = V * 10 + d) := ⟨_, Lib.hid rfl⟩
            have HP := Lib.hid (show parseVal s (k + 1) = V2 by
              show 10 * parseVal s k + (by' s k - 48) = V2
              rw [hV2.out, hV.out]; omega)
            rw [← hV.out] at vN
            have hbyd := hd
            have HBD := Lib.hid hbyd
            clear hlo hhi hd hbyd cr fr
            go_upto_region 13 with (fail)
            refine wp_tabK Try.f59 13 (parseTab w s k d V V2) (fun _ => false) 4 1 (by kernel_rfl) (by kernel_rfl) (by kernel_rfl) (by kernel_rfl) (EachX.of_all (fun _ h => by cases h) _) ?_ ?_
            · refine ⟨fun a' w' F => ⟨_, rfl, wanted_none rfl, (arm_load rfl (F.keep 4 (Value.pointer (some ⟨w.heap.size + 1, 0, none⟩)) (by kernel_rfl) rfl).is (vN.isI.mono F.below)).b⟩, ?_⟩
              refine ⟨fun a' w' F => ⟨_, rfl, wanted_none rfl, (arm_move (.inl rfl) (F.keep 0 (Value.string s) (by kernel_rfl) rfl).is).b⟩, ?_⟩
              refine ⟨fun a' w' F => ⟨_, rfl, wanted_none rfl, (arm_move (.inl rfl) (F.keep 5 (Value.int IntKind.i64 ((k : Nat))) (by kernel_rfl) rfl).is).b⟩, ?_⟩
              refine ⟨fun a' w' F => ⟨_, rfl, wanted_none rfl, (arm_index rfl (F.f 1 rfl) (F.f 2 rfl) hlt HBD.out).b⟩, ?_⟩
              refine ⟨fun a' w' F => ⟨_, rfl, wanted_none rfl, (arm_bin rfl (F.f 3 rfl) Is.const (fun _ => rfl) (run_sub48 d (by omega))).b⟩, ?_⟩
              refine ⟨fun a' w' F => ⟨_, rfl, wanted_none rfl, (arm_conv8 rfl (F.f 4 rfl) (by omega)).b⟩, ?_⟩
              refine ⟨fun a' w' F => ⟨_, rfl, wanted_none rfl, (arm_small (Nat.le_trans hbr.size F.below.size) rfl (F.f 0 rfl) Is.const (F.f 5 rfl) hVb (by omega) hV2.out.symm).b⟩, ?_⟩
              exact trivial
            intro gp wp bp G Gs
            obtain ⟨v6, e6, n6⟩ : ∃ v, gp 6 = v ∧ NewN w.heap.size wp v V2 := ⟨_, rfl, G 6 46 _ rfl⟩
            obtain ⟨x6, c6, rfl, hc6, hx6⟩ := n6
            have n6 : NewN w.heap.size wp (.agg #[.slice x6 (nl V2) c6]) V2 := ⟨x6, c6, rfl, hc6, hx6⟩
            obtain ⟨aN, cN, bN, nN⟩ := vN
            have bN2 := bN.mono bp bN.lt
            have vr2 := vr.mono bp vr.lt
            clear G Gs hc6 hx6
            simp only [parseTab]
            simp only [putD, entries, List.map_cons, List.map_nil, List.foldl_cons, List.foldl_nil, Act.put, List.setIfInBounds_toArray, List.set_cons_zero, List.set_cons_succ, e6]
            refine wpAny_store (j := 7) (by kernel_rfl) rfl rfl rfl rfl rfl rfl ⟨_, _, _, rfl⟩ bN2 ?_
            refine wpAny_done (by kernel_rfl) ?_ _
            have hB := (hbr.trans (bp.mono hbr.size)).setCell (p := ⟨w.heap.size + 1, 0, none⟩) (Nat.le_succ _) (.slice x6 (nl V2) c6)
            have vN2 : VarN w.heap.size (wp.setCell ⟨w.heap.size + 1, 0, none⟩ (.slice x6 (nl V2) c6)) (w.heap.size + 1) V2 := ⟨x6, c6, bN2.set, n6.setVar bN2⟩
            have vr3 := vr2.setOther ⟨w.heap.size + 1, 0, none⟩ (.slice x6 (nl V2) c6) (by simp)
            go_wp2_with fail
            go_roundw
            case rel => exact ⟨k + 1, by omega, by go_num, HD, vr3, by rw [HP.out]; exact vN2, hB⟩
            case measure => simp [intOf] <;> omega
      · obtain rfl : k = s.size := by omega
        obtain ⟨rfl, rfl⟩ := HG.out HR.out
        clear HB HG HR
        obtain ⟨V, hV⟩ : ∃ V : Nat, Hid (V = parseVal s s.size) := ⟨_, Lib.hid rfl⟩
        rw [← hV.out] at vN
        obtain ⟨aN, cN, bN, nN⟩ := vN
        have c1 := bN.cell
        have nn := nN.setVar (u := .slice aN (nl V) cN) vr
        go_wp2
        exact bodyPost_ret (res_nat2 rfl _ _ w.heap.size _ (.int .i64 0) rfl rfl vr.set.cell) rfl ⟨_, rfl, by rw [← hV.out]; exact nn, hbr.setCell (Nat.le_refl _) _⟩
theorem c_ref_Parse (s : ByteArray) (w : World) (N : Nat) (c : Int) (h : ParseIs s N c) : Calls Try.prog 59 #[.string s] w fun e w' => RetP w N c e w' := by
  by_cases h0 : s.size = 0
  · obtain ⟨rfl, rfl⟩ := h.short h0; exact c_rParse_short s w h0
  · by_cases h1 : 400 < s.size
    · obtain ⟨rfl, rfl⟩ := h.long h1; exact c_rParse_long s w h1
    · by_cases h2 : 1 < s.size ∧ by' s 0 = 48
      · obtain ⟨rfl, rfl⟩ := h.zero h2.1 (by omega) h2.2; exact c_rParse_zero s w h2.1 (by omega) h2.2
      · have hz : by' s 0 = 48 → s.size = 1 := fun e => by
          rcases Nat.lt_or_ge 1 s.size with h' | h'
          · exact absurd ⟨h', e⟩ h2
          · omega
        exact c_rParse_loop s w N c (by omega) (by omega) hz (fun hg => h.good (by omega) (by omega) hz hg) (fun hg => h.bad (by omega) (by omega) hg)
end Go.Proofs.Ytldnimohnbjfaaa
namespace Go.Proofs.Ytldnimohnbjfaaa
set_option linter.unusedSimpArgs false
set_option linter.unusedVariables false
set_option maxRecDepth 100000
open Go.RowKit
section
variable {P : Program} {ops : Array Oper} {Q : Exit → Act → World → Prop} {md : Region.Mode}
theorem arr_ext {a b : Array Bool} (hs : a.size = b.size) (h : ∀ k, a.getD k false = b.getD k false) : a = b := by
  apply Array.ext hs
  intro k h1 h2
  have := h k
  simpa [h1, h2] using this
def subs : List Nat → List (List Nat)
  | [] => [[]]
  | x :: l => subs l ++ (subs l).map (x :: ·)
theorem filter_subs (p : Nat → Bool) : ∀ l : List Nat, l.filter p ∈ subs l
  | [] => by simp [subs]
  | x :: l => by
    have ih := filter_subs p l
    rw [List.filter_cons]
    split
    · exact List.mem_append_right _ (List.mem_map.2 ⟨_, ih, rfl⟩)
    · exact List.mem_append_left _ ih
/-- What is checked of the plan by reckoning; E: operations of the plan that may still be open when others become ready. -/
def phaseOkE (md : Region.Mode) (ops : Array Oper) (n : Nat) (S E : List Nat) (l : Array Bool) : Bool :=
  l.size == ops.size && S.all (fun i => decide (i < ops.size) && !l.getD i true && (dstOf ops i).isSome) &&
  (List.range ops.size).all (fun j => !l.getD j false || (preds md ops j).all (fun k => l.getD k false)) &&
  (List.range ops.size).all (fun j => S.contains j || l.getD j false || S.all (fun i => E.contains i || (needs md ops n j).contains i)) &&
  S.all (fun j => (preds md ops j).all (fun k => decide (k < j) && (S.contains k || l.getD k false))) && E.all (fun i => S.contains i) && decide E.Nodup
theorem wpAny_phaseE (S E : List Nat) (n : Nat) (Al : Nat → Bool) (F : Nat → Value → World → Prop) {l : Array Bool} {a : Act} {w : World} {fuel : Nat}
    (hok : phaseOkE md ops n S E l = true) (hnd : (S.map (dstOf ops)).Nodup)
    (hst : ∀ i ∈ S, ∀ v w w', F i v w → Below w.heap.size w w' → F i v w')
    (hlt : ∀ i ∈ S, Al i = true → ∀ v w, F i v w → blk v < w.heap.size)
    (hstep : ∀ j ∈ S, ∀ (f : Nat → Value) (w' : World), Below w.heap.size w w' → (∀ i ∈ S, i ∈ preds md ops j → F i (f i) w') → ∀ K : Act → World → Prop,
      (∀ v w'', F j v w'' → Below w'.heap.size w' w'' → (Al j = true → w'.heap.size ≤ blk v) → K (putAll ops S (updF f j v) a) w'') → wpOp P ops Q j K (putAll ops S f a) w')
    (hrest : ∀ E' ∈ subs E, ∀ f w', Below w.heap.size w w' → (∀ i ∈ S, i ∉ E' → F i (f i) w') → (∀ i ∈ S, i ∉ E' → ∀ j ∈ S, j ∉ E' → Al i = true → Al j = true → i ≠ j → blk (f i) ≠ blk (f j)) →
      wpAny P md ops Q (fuel + E'.length) (markAll (S.filter (fun i => !E'.contains i)) l) (putAll ops S f a) w') :
    wpAny P md ops Q (fuel + S.length) l a w := by
  unfold phaseOkE at hok
  simp only [Bool.and_eq_true, List.all_eq_true, Bool.or_eq_true, Bool.not_eq_true', decide_eq_true_eq, List.mem_range, beq_iff_eq, List.contains_iff_mem] at hok
  obtain ⟨⟨⟨⟨⟨⟨hsz, hS⟩, hcl⟩, hoth⟩, hdown⟩, hES⟩, hEn⟩ := hok
  have hnd' : S.Nodup := by
    rw [List.nodup_iff_pairwise_ne] at hnd ⊢
    rw [List.pairwise_map] at hnd
    exact hnd.imp (fun h e => h (by rw [e]))
  have main : ∀ (r : Nat) (T : List Nat) (f : Nat → Value) (w' : World), T.Nodup → (∀ i ∈ T, i ∈ S) → T.length + r = S.length →
      (∀ j, (markAll T l).getD j false = true → ∀ k ∈ preds md ops j, (markAll T l).getD k false = true) →
      Below w.heap.size w w' → (∀ i ∈ T, F i (f i) w') → (∀ i ∈ T, ∀ j ∈ T, Al i = true → Al j = true → i ≠ j → blk (f i) ≠ blk (f j)) →
      wpAny P md ops Q (fuel + r) (markAll T l) (putAll ops S f a) w' := by
    have stop : ∀ (r : Nat) (T : List Nat) (f : Nat → Value) (w' : World), T.Nodup → (∀ i ∈ T, i ∈ S) → T.length + r = S.length → Below w.heap.size w w' → (∀ i ∈ T, F i (f i) w') → (∀ i ∈ T, ∀ j ∈ T, Al i = true → Al j = true → i ≠ j → blk (f i) ≠ blk (f j)) →
        (∀ i ∈ S, i ∉ E → i ∈ T) → wpAny P md ops Q (fuel + r) (markAll T l) (putAll ops S f a) w' := by
      intro r T f w' hTn hT hlen hb hF hsep hmain
      have hE' := filter_subs (fun i => !decide (i ∈ T)) E
      have hiff : ∀ i ∈ S, (i ∉ E.filter (fun i => !decide (i ∈ T)) ↔ i ∈ T) := fun i hi => by
        simp only [List.mem_filter, Bool.not_eq_true', decide_eq_false_iff_not, not_and, Classical.not_not]
        exact ⟨fun h => Classical.byContradiction fun hn => by
          by_cases hiE : i ∈ E
          · exact hn (h hiE)
          · exact hn (hmain i hi hiE), fun h _ => h⟩
      have h := hrest _ hE' f w' hb (fun i hi hn => hF i ((hiff i hi).1 hn)) (fun i hi hni j hj hnj => hsep i ((hiff i hi).1 hni) j ((hiff j hj).1 hnj))
      have hmk : markAll (S.filter (fun i => !(E.filter (fun i => !decide (i ∈ T))).contains i)) l = markAll T l := by
        have hm : ∀ k, k ∈ S.filter (fun i => !(E.filter (fun i => !decide (i ∈ T))).contains i) ↔ k ∈ T := fun k => by
          rw [List.mem_filter]
          constructor
          · rintro ⟨hk, hc⟩
            refine (hiff k hk).1 (fun hc' => ?_)
            rw [List.contains_iff_mem.2 hc'] at hc; cases hc
          · intro hk
            refine ⟨hT k hk, ?_⟩
            have := (hiff k (hT k hk)).2 hk
            cases hc : (E.filter (fun i => !decide (i ∈ T))).contains k
            · rfl
            · exact absurd (List.contains_iff_mem.1 hc) this
        refine arr_ext (by rw [markAll_size, markAll_size]) (fun k => ?_)
        have g1 := markAll_get (S.filter (fun i => !(E.filter (fun i => !decide (i ∈ T))).contains i)) l k false
        have g2 := markAll_get T l k false
        simp only [hm] at g1
        rw [← g2] at g1
        exact g1
      have hln : (E.filter (fun i => !decide (i ∈ T))).length = r := by
        have h1 : S.length ≤ (T ++ E.filter (fun i => !decide (i ∈ T))).length := len_le hnd' (fun i hi => by
          rw [List.mem_append]
          by_cases hiT : i ∈ T
          · exact .inl hiT
          · refine .inr (Classical.byContradiction fun hn => hiT ((hiff i hi).1 hn)))
        have h2 : (T ++ E.filter (fun i => !decide (i ∈ T))).length ≤ S.length := len_le (List.nodup_append.2 ⟨hTn, hEn.filter _, fun x hx y hy => by
          rintro rfl
          simp at hy
          exact hy.2 hx⟩) (fun i hi => by
          rcases List.mem_append.1 hi with h | h
          · exact hT i h
          · exact hES i (List.mem_filter.1 h).1)
        rw [List.length_append] at h1 h2
        omega
      rw [hmk, hln] at h
      exact h
    intro r
    induction r with
    | zero =>
      intro T f w' hTn hT hlen hclT hb hF hsep
      refine stop 0 T f w' hTn hT hlen hb hF hsep (fun i hi _ => ?_)
      apply Classical.byContradiction
      intro hni
      have h1 : (i :: T).length ≤ S.length := len_le (List.nodup_cons.2 ⟨hni, hTn⟩) (fun k hk => by rcases List.mem_cons.1 hk with rfl | hk; exact hi; exact hT k hk)
      simp at h1; omega
    | succ r ih =>
      intro T f w' hTn hT hlen hclT hb hF hsep
      by_cases hmain : ∀ i ∈ S, i ∉ E → i ∈ T
      · exact stop (r + 1) T f w' hTn hT hlen hb hF hsep hmain
      have hex : ∃ i ∈ S, i ∉ T ∧ i ∉ E := by
        apply Classical.byContradiction
        intro hno
        exact hmain (fun i hi hiE => Classical.byContradiction fun h => hno ⟨i, hi, h, hiE⟩)
      have hready : ∀ j ∈ Region.ready md ops (markAll T l), j ∈ S ∧ j ∉ T ∧ ∀ k ∈ preds md ops j, (markAll T l).getD k false = true := by
        intro j hj
        obtain ⟨hjs, hj0, hjp⟩ := ready_preds hj
        have hjT : j ∉ T := by
          intro h
          rw [markAll_get] at hj0
          simp [h, hsz, hjs] at hj0
        refine ⟨?_, hjT, hjp⟩
        rcases hoth j hjs with (h | h) | h
        · exact h
        · rw [markAll_get] at hj0
          have : j < l.size := by omega
          simp [hjT, this] at hj0 h
          rw [hj0] at h; cases h
        · obtain ⟨i, hi, hiT, hiE⟩ := hex
          have h1 := needs_listed hclT n j hjp i ((h i hi).resolve_left (fun hc => hiE hc))
          rw [markAll_get] at h1
          have h2 := (hS i hi).1.2
          have : i < l.size := by have := (hS i hi).1.1; omega
          simp [hiT, this] at h1 h2
          rw [h1] at h2; cases h2
      have un : ∀ i ∈ S, i ∉ T → (markAll T l).getD i true = false := fun i hi hiT => by
        rw [markAll_get]
        have := (hS i hi).1.2
        simp [hiT]
        simpa using this
      have hsome : ∃ i ∈ Region.ready md ops (markAll T l), True := by
        have key : ∀ (m i : Nat), i ≤ m → i ∈ S → i ∉ T → ∃ i ∈ Region.ready md ops (markAll T l), True := by
          intro m
          induction m with
          | zero =>
            intro i him hi hiT
            refine ⟨i, mk_ready (hS i hi).1.1 (un i hi hiT) (fun k hk => ?_), trivial⟩
            have := (hdown i hi k hk).1
            omega
          | succ m ihm =>
            intro i him hi hiT
            by_cases hall : ∀ k ∈ preds md ops i, (markAll T l).getD k false = true
            · exact ⟨i, mk_ready (hS i hi).1.1 (un i hi hiT) hall, trivial⟩
            · simp only [Classical.not_forall] at hall
              obtain ⟨k, hk, hno⟩ := hall
              obtain ⟨hlt', hor⟩ := hdown i hi k hk
              have hkT : k ∉ T := fun h => hno (by rw [markAll_get]; simp [h, hsz]; have := (hS k (hT k h)).1.1; omega)
              rcases hor with h | h
              · exact ihm k (by omega) h hkT
              · exact absurd (by rw [markAll_get]; simp [hkT]; simpa using h) hno
        obtain ⟨i, hi, hiT, _⟩ := hex
        exact key i i (Nat.le_refl _) hi hiT
      refine ⟨fun h => ?_, fun j hj => ?_⟩
      · obtain ⟨i, hi, _⟩ := hsome
        rw [h] at hi; cases hi
      · obtain ⟨hjS, hjT, hjp⟩ := hready j hj
        refine hstep j hjS f w' hb (fun i hi hp => ?_) _ (fun v w'' hFv hbv hnew => ?_)
        · refine hF i (Classical.byContradiction fun hiT => ?_)
          have h1 := hjp i hp
          rw [markAll_get] at h1
          have h2 := (hS i hi).1.2
          have : i < l.size := by have := (hS i hi).1.1; omega
          simp [hiT, this] at h1 h2
          rw [h1] at h2; cases h2
        · have e : (markAll T l).setIfInBounds j true = markAll (T ++ [j]) l := by unfold markAll; rw [List.foldl_append]; rfl
          rw [e]
          refine ih (T ++ [j]) (updF f j v) w'' ?_ ?_ ?_ ?_ (hb.trans (hbv.mono hb.size)) ?_ ?_
          · exact List.nodup_append.2 ⟨hTn, by simp, by intro x hx y hy; simp at hy; subst hy; exact fun h => hjT (h ▸ hx)⟩
          · intro i hi
            rcases List.mem_append.1 hi with h | h
            · exact hT i h
            · simp at h; rw [h]; exact hjS
          · simp; omega
          · intro i hi k hk
            rw [← e] at hi ⊢
            by_cases hij : j = i
            · subst hij
              exact getD_set_true (hjp k hk)
            · rw [getD_set_ne false hij] at hi
              exact getD_set_true (hclT i hi k hk)
          · intro i hi
            by_cases hij : i = j
            · subst hij; simpa [updF] using hFv
            · have hiT : i ∈ T := by
                rcases List.mem_append.1 hi with h | h
                · exact h
                · simp at h; exact absurd h hij
              simp only [updF, hij, if_false]
              exact hst i (hT i hiT) _ _ _ (hF i hiT) hbv
          · intro i hi k hk hai hak hik
            have low : ∀ x ∈ T, Al x = true → blk (f x) < w'.heap.size := fun x hx hax => hlt x (hT x hx) hax _ _ (hF x hx)
            have inT : ∀ x ∈ T ++ [j], x ≠ j → x ∈ T := fun x hx hxj => by
              rcases List.mem_append.1 hx with h | h
              · exact h
              · simp at h; exact absurd h hxj
            by_cases hij : i = j
            · have hkj : k ≠ j := fun h => hik (by rw [hij, h])
              have h1 := low k (inT k hk hkj) hak
              subst hij
              simp only [updF, if_true, hkj, if_false]
              have := hnew hai
              omega
            · have h1 := low i (inT i hi hij) hai
              by_cases hkj : k = j
              · subst hkj
                simp only [updF, if_true, hij, if_false]
                have := hnew hak
                omega
              · simp only [updF, hij, hkj, if_false]
                exact hsep i (inT i hi hij) k (inT k hk hkj) hai hak hik
  have h0 := main S.length [] (fun i => a.tmps.getD ((dstOf ops i).getD 0) undef) w (by simp) (by simp) (by simp) (fun j hj k hk => by
      have hjs : j < ops.size := by
        rcases Nat.lt_or_ge j ops.size with h | h
        · exact h
        · have hj' : l.getD j false = true := hj
          simp [Array.getElem?_eq_none (show l.size ≤ j by omega)] at hj'
      rcases hcl j hjs with h | h
      · have hj' : l.getD j false = true := hj
        rw [h] at hj'; cases hj'
      · exact h k hk) (Below.refl _ _) (by simp) (by simp)
  rw [putAll_self] at h0
  exact h0
end
end Go.Proofs.Ytldnimohnbjfaaa
