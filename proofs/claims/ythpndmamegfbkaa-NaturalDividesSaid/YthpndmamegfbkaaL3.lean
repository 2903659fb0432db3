/- NaturalDivides: the walk. -/
import Derived.Test.YthpndmamegfbkaaS4
namespace Go.Proofs.Ythpndmamegfbkaa
set_option linter.unusedSimpArgs false
set_option linter.unusedVariables false
open Go.RowKit
def dividesTab (ga gb gq gr m n Nq Nr : Nat) : List (Nat × Tmp × Sp) :=
   [(0, 63, .nat (Nq)),
    (1, 64, .nat (n)),
    (2, 65, .nat ((Nq * n))),
    (3, 66, .nat (Nr)),
    (4, 67, .nat (((Nq * n) + Nr))),
    (5, 68, .nat (m)),
    (6, 69, .val (Value.bool true)),
    (7, 70, .val (Value.bool true)),
    (8, 71, .val (Value.bool true)),
    (9, 72, .val (Value.bool true)),
    (10, 4, .val (Value.bool true))]
set_option maxRecDepth 100000 in
set_option maxHeartbeats 4000000 in
theorem c_NaturalDivides (va : Value) (La m : Nat) (vb : Value) (Lb n : Nat) (w : World) (ha : IsR w va La m) (hLa : La ≤ 9223372036854775807) (hb : IsR w vb Lb n) (hLb : Lb ≤ 9223372036854775807) :
    Calls Try.prog 3 #[va, vb] w fun e w' => RetV w (.bool true) e w' := by
  obtain ⟨xa, ca, rfl, hca, ra⟩ := ha
  obtain ⟨xb, cb, rfl, hcb, rb⟩ := hb
  obtain ⟨k0, k1, k2⟩ := box2 (L := La) (c := ca) (N := m) (L2 := Lb) (c2 := cb) (N2 := n) ⟨xa, ca, rfl, hca, ra⟩ ⟨xb, cb, rfl, hcb, rb⟩
  go_enter Try.func3, Try.ntmps3
  go_upto_region 0 with (fail)
  go_cut [2, 3] (fun s2 s3 wx => ∃ ga gb, s2 = .pointer (some ⟨ga, 0, none⟩) ∧ s3 = .pointer (some ⟨gb, 0, none⟩) ∧ VarR wx ga La m ∧ VarR wx gb Lb n ∧ Below w.heap.size w wx)
  case first =>
    go_wp2_with fail
    go_meet
    case rel => exact ⟨_, _, rfl, rfl, k1, k2, k0⟩
  case rest =>
  obtain ⟨ga, gb, rfl, rfl, Va, Vb, hb1⟩ := hcut
  clear k0 k1 k2 hca ra hcb rb
  obtain ⟨ya, da, qa, ia⟩ := Va
  have ea := qa.cell
  go_wp2_with fail
  refine (c_Few _ La m _ ia hLa).mono ?_
  rintro e w1 ⟨rfl, bb1⟩
  replace Va : VarR w1 ga La m := VarR.mono ⟨ya, da, qa, ia⟩ bb1
  replace Vb : VarR w1 gb Lb n := VarR.mono Vb bb1
  replace hb1 := hb1.trans (bb1.mono hb1.size)
  clear ea qa ia bb1
  by_cases fa : La ≤ 12 ∧ nl m = La
  case neg =>
    rw [decide_eq_false fa]
    go_wp2_with fail
    refine (c_awake _).mono ?_
    rintro e w9 ⟨rfl, bb⟩
    go_wp2
    go_ret
    exact ⟨rfl, hb1.trans (bb.mono hb1.size)⟩
  rw [decide_eq_true fa]
  obtain ⟨yb, db, qb, ib⟩ := Vb
  have eb := qb.cell
  go_wp2_with fail
  refine (c_Few _ Lb n _ ib hLb).mono ?_
  rintro e w2 ⟨rfl, bb2⟩
  replace Va : VarR w2 ga La m := VarR.mono Va bb2
  replace Vb : VarR w2 gb Lb n := VarR.mono ⟨yb, db, qb, ib⟩ bb2
  replace hb1 := hb1.trans (bb2.mono hb1.size)
  clear eb qb ib bb2
  by_cases fb : Lb ≤ 12 ∧ nl n = Lb
  case neg =>
    rw [decide_eq_false fb]
    go_wp2_with fail
    refine (c_awake _).mono ?_
    rintro e w9 ⟨rfl, bb⟩
    go_wp2
    go_ret
    exact ⟨rfl, hb1.trans (bb.mono hb1.size)⟩
  rw [decide_eq_true fb]
  obtain ⟨fa, rfl⟩ := fa
  replace Va : VarI w2 ga m := Va
  obtain ⟨fb, rfl⟩ := fb
  replace Vb : VarI w2 gb n := Vb
  by_cases hn0 : n = 0
  · have HN := Lib.hid hn0
    have hnl0 : nl n = 0 := by rw [hn0]; exact nl_zero
    have HNL := Lib.hid hnl0
    rw [hn0] at Vb
    clear hn0 hnl0
    obtain ⟨ya, da, qa, ia⟩ := Va
    have ea := qa.cell
    obtain ⟨yb, db, qb, ib⟩ := Vb
    have eb := qb.cell
    rw [nl_zero] at eb
    have ib' : IsN w2 (.agg #[.slice yb 0 db]) 0 := by have := ib; rwa [nl_zero] at this
    go_wp2_with fail
    refine (c_DivMod_zero _ _ m _ ia ib' (nlb' (sm_nl fa) (by decide))).mono ?_
    rintro e w9 ⟨vq, vr, rfl, ⟨xq, cq, rfl, hcq, hxq⟩, ⟨xr, cr, rfl, hcr, hxr⟩, bb⟩
    rw [nl_zero]
    have k1 := (start2 w9 xq xr 0 cq 0 cr)
    obtain ⟨k1, k2, k3⟩ := k1
    have b3 := bb.trans (k1.mono bb.size)
    have eq2 := k2.cell
    have er2 := k3.cell
    have eb2 := (qb.mono b3 qb.lt).cell
    rw [nl_zero] at eb2
    replace hb1 := hb1.trans (b3.mono hb1.size)
    clear ea qa ia eb qb ib ib' bb hxq hxr
    go_wp2_with fail
    refine (c_awake _).mono ?_
    rintro e w10 ⟨rfl, bb⟩
    go_wp2
    go_ret
    exact ⟨rfl, hb1.trans (bb.mono hb1.size)⟩
  · have hnp := nl_pos hn0
    obtain ⟨Nq, hidq⟩ : ∃ N : Nat, Hid (N = m / n) := ⟨_, Lib.hid rfl⟩
    obtain ⟨Nr, hidr⟩ : ∃ N : Nat, Hid (N = m % n) := ⟨_, Lib.hid rfl⟩
    have bq : Nq < 4294967296 ^ 12 := by rw [hidq.out]; exact sm_le (sm_nl fa) (Nat.div_le_self _ _)
    have br : Nr < 4294967296 ^ 12 := by rw [hidr.out]; exact sm_le (sm_nl fa) (Nat.mod_le _ _)
    have fq : nl Nq ≤ 12 := nl_le_iff.2 bq
    have fr : nl Nr ≤ 12 := nl_le_iff.2 br
    have hlt : Nr < n := by rw [hidr.out]; exact Nat.mod_lt _ (Nat.pos_of_ne_zero hn0)
    have HLT := Lib.hid hlt
    clear hlt
    have HN0 := Lib.hid hn0
    clear hn0
    go_upto_region 3 with (fail)
    go_cut [5, 6, 7] (fun s5 s6 s7 wx => ∃ gq gr, s5 = .pointer (some ⟨gq, 0, none⟩) ∧ s6 = .pointer (some ⟨gr, 0, none⟩) ∧ s7 = .int .i64 0 ∧ VarI wx ga m ∧ VarI wx gb n ∧ VarI wx gq Nq ∧ VarI wx gr Nr ∧ Below w.heap.size w wx)
    case first =>
      have Va' := Va
      obtain ⟨ya, da, qa, ia⟩ := Va'
      have ea := qa.cell
      have Vb' := Vb
      obtain ⟨yb, db, qb, ib⟩ := Vb'
      have eb := qb.cell
      go_wp2_with fail
      refine (c_natural_DivMod _ _ m n _ ia ib (nlb' (sm_nl fa) (by decide)) (nlb' (sm_nl fb) (by decide)) HN0.out).mono ?_
      rintro e w9 ⟨vq, vr, rfl, nq, nr, bb⟩
      rw [← hidq.out] at nq
      rw [← hidr.out] at nr
      obtain ⟨xq, cq, rfl, hcq, hxq⟩ := nq
      obtain ⟨xr, cr, rfl, hcr, hxr⟩ := nr
      obtain ⟨k1, k2, k3⟩ := start2 w9 xq xr (nl Nq) cq (nl Nr) cr
      have iq : IsN w9 (.agg #[.slice xq (nl Nq) cq]) Nq := NewN.isN ⟨xq, cq, rfl, hcq, hxq⟩
      have ir : IsN w9 (.agg #[.slice xr (nl Nr) cr]) Nr := NewN.isN ⟨xr, cr, rfl, hcr, hxr⟩
      have b3 := bb.trans (k1.mono bb.size)
      go_wp2_with fail
      go_meet
      case rel => exact ⟨_, _, rfl, rfl, rfl, Va.mono b3, Vb.mono b3, VarI.of k2 (iq.mono k1), VarI.of k3 (ir.mono k1), hb1.trans (b3.mono hb1.size)⟩
    case rest =>
    clear Va Vb hb1
    obtain ⟨gq, gr, rfl, rfl, rfl, Va, Vb, Vq, Vr, hb1⟩ := hcut
    have Vb' := Vb
    obtain ⟨zb, zd, zq, zi⟩ := Vb'
    have ezb := zq.cell
    obtain ⟨yq, dq, qq, iq⟩ := Vq
    have eq := qq.cell
    go_wp2_with fail
    refine (c_Few _ (nl Nq) Nq _ iq (by omega)).mono ?_
    rintro e z1 ⟨rfl, bb1⟩
    rw [decide_eq_true (show nl Nq ≤ 12 ∧ nl Nq = nl Nq from ⟨fq, rfl⟩)]
    replace Va : VarI z1 ga (m) := VarI.mono Va bb1
    replace Vb : VarI z1 gb (n) := VarI.mono Vb bb1
    replace Vq : VarI z1 gq (Nq) := VarI.mono ⟨yq, dq, qq, iq⟩ bb1
    replace Vr : VarI z1 gr (Nr) := VarI.mono Vr bb1
    replace hb1 := hb1.trans (bb1.mono hb1.size)
    clear eq qq iq bb1
    obtain ⟨yr, dr, qr, ir⟩ := Vr
    have er := qr.cell
    go_wp2_with fail
    refine (c_Few _ (nl Nr) Nr _ ir (by omega)).mono ?_
    rintro e z2 ⟨rfl, bb2⟩
    rw [decide_eq_true (show nl Nr ≤ 12 ∧ nl Nr = nl Nr from ⟨fr, rfl⟩)]
    replace Va : VarI z2 ga (m) := VarI.mono Va bb2
    replace Vb : VarI z2 gb (n) := VarI.mono Vb bb2
    replace Vq : VarI z2 gq (Nq) := VarI.mono Vq bb2
    replace Vr : VarI z2 gr (Nr) := VarI.mono ⟨yr, dr, qr, ir⟩ bb2
    replace hb1 := hb1.trans (bb2.mono hb1.size)
    clear er qr ir bb2
    obtain ⟨yr, dr, qr, ir⟩ := Vr
    have er := qr.cell
    obtain ⟨yb, db, qb, ib⟩ := Vb
    have eb := qb.cell
    go_wp2_with fail
    refine (c_ref_Cmp _ _ Nr n _ ir ib (Nat.le_trans fr (by decide)) (nlb' (sm_nl fb) (by decide))).mono ?_
    rintro e z3 ⟨rfl, bb3⟩
    rw [cmpI_lt HLT.out]
    replace Va : VarI z3 ga (m) := VarI.mono Va bb3
    replace Vb : VarI z3 gb (n) := VarI.mono ⟨yb, db, qb, ib⟩ bb3
    replace Vq : VarI z3 gq (Nq) := VarI.mono Vq bb3
    replace Vr : VarI z3 gr (Nr) := VarI.mono ⟨yr, dr, qr, ir⟩ bb3
    replace hb1 := hb1.trans (bb3.mono hb1.size)
    clear er qr ir eb qb ib bb3
    go_upto_region 8 with (fail)
    refine wp_tab Try.f3 8 (dividesTab ga gb gq gr m n Nq Nr) (by kernel_rfl) (by kernel_rfl) rfl (by kernel_rfl) (by kernel_rfl) ?_ ?_
    · refine ⟨fun a' w' F => ⟨_, rfl, wanted_none rfl, arm_load rfl (F.keep 5 (Value.pointer (some ⟨gq, 0, none⟩)) (by kernel_rfl) rfl).is (Vq.mono F.below)⟩, ?_⟩
      refine ⟨fun a' w' F => ⟨_, rfl, wanted_none rfl, arm_load rfl (F.keep 3 (Value.pointer (some ⟨gb, 0, none⟩)) (by kernel_rfl) rfl).is (Vb.mono F.below)⟩, ?_⟩
      refine ⟨fun a' w' F => ⟨_, rfl, wanted_none rfl, arm_rMul rfl (F.at' 0 63 _ rfl (by kernel_rfl)).is (F.at' 1 64 _ rfl (by kernel_rfl)).is (nlb' bq (by decide)) (nlb' (sm_nl fb) (by decide)) rfl⟩, ?_⟩
      refine ⟨fun a' w' F => ⟨_, rfl, wanted_none rfl, arm_load rfl (F.keep 6 (Value.pointer (some ⟨gr, 0, none⟩)) (by kernel_rfl) rfl).is (Vr.mono F.below)⟩, ?_⟩
      refine ⟨fun a' w' F => ⟨_, rfl, wanted_none rfl, arm_rAdd rfl (F.at' 2 65 _ rfl (by kernel_rfl)).is (F.at' 3 66 _ rfl (by kernel_rfl)).is (nlb' (sm_mul bq (sm_nl fb)) (by decide)) (nlb' br (by decide)) rfl⟩, ?_⟩
      refine ⟨fun a' w' F => ⟨_, rfl, wanted_none rfl, arm_load rfl (F.keep 2 (Value.pointer (some ⟨ga, 0, none⟩)) (by kernel_rfl) rfl).is (Va.mono F.below)⟩, ?_⟩
      refine ⟨fun a' w' F => ⟨_, rfl, wanted_none rfl, arm_Same rfl (F.at' 4 67 _ rfl (by kernel_rfl)).is (F.at' 5 68 _ rfl (by kernel_rfl)).is (nlb' (sm_add (sm_mul bq (sm_nl fb)) br) (by decide)) (nlb' (sm_nl fa) (by decide)) (decide_eq_true ((by rw [hidq.out, hidr.out]; exact Nat.div_add_mod' m n)))⟩, ?_⟩
      refine ⟨fun a' w' F => ⟨_, rfl, wanted_none rfl, arm_move (.inl rfl) (F.at' 6 69 _ rfl (by kernel_rfl)).is⟩, ?_⟩
      refine ⟨fun a' w' F => ⟨_, rfl, wanted_some rfl rfl (F.at' 7 70 _ rfl (by kernel_rfl)), arm_awake rfl⟩, ?_⟩
      refine ⟨fun a' w' F => ⟨_, rfl, wanted_none rfl, arm_pick rfl (F.at' 7 70 _ rfl (by kernel_rfl)).is (fun _ => (F.at' 8 71 _ rfl (by kernel_rfl)).is) (fun h => by cases h)⟩, ?_⟩
      refine ⟨fun a' w' F => ⟨_, rfl, wanted_none rfl, arm_move (.inr rfl) (F.at' 9 72 _ rfl (by kernel_rfl)).is⟩, ?_⟩
      exact trivial
    · intro a' w' F
      obtain ⟨v, h1, h2⟩ := F.at' 10 4 _ rfl
      have h3 : v = Value.bool true := h2
      subst h3
      rename_i hK
      refine hK a' w' ?_
      refine wp_ret ?_
      show bodyPost Try.prog Try.f3 (fun e w' => RetV w (.bool true) e w') .ret a' w'
      exact bodyPost_ret (res_tmp rfl h1) F.defers ⟨rfl, hb1.trans (F.below.mono hb1.size)⟩
end Go.Proofs.Ythpndmamegfbkaa
