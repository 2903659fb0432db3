/- Cmp, Lerp, Int, Ratio; copied. one of package fraction. -/
import Derived.Test.YtacccgeppcfncaaDoorP10
namespace Go.Proofs.YtacccgeppcfncaaDoor
set_option linter.unusedSimpArgs false
set_option linter.unusedVariables false
set_option maxRecDepth 100000
open Go.RowKit
/-- The fraction of an integer; of two. -/
def Fq.ofInt (v : Int) : Fq := ⟨decide (v < 0), v.natAbs, 1⟩
def Fq.lerp (x y t : Fq) : Fq := x.add (t.mul (y.sub x))
theorem nl_abs {v : Int} (lv : -9223372036854775808 ≤ v) (rv : v < 9223372036854775808) : nl v.natAbs ≤ 2 := nl_le_iff.2 (by show v.natAbs < 18446744073709551616; omega)
theorem Fq.ok.lerp {x y t : Fq} (h : x.ok 100000000) (k : y.ok 100000000) (l : t.ok 100000000) : (x.lerp y t).ok 10000000000 := (h.add (l.mul (k.sub h))).mono (by decide)
def fIntT0 (v : Int) : List (Nat × Tmp × Sp) :=
   [(0, 3, .val (Value.int IntKind.i64 v)),
    (1, 4, .val (Value.bool (decide (v < 0)))),
    (2, 5, .val (Value.int IntKind.i64 v)),
    (3, 6, .nat (v.natAbs)),
    (4, 7, .nat (1)),
    (5, 8, .fq (Fq.mk (decide (v < 0)) v.natAbs 1))]
set_option maxHeartbeats 4000000 in
theorem q_fInt (v : Int) (w : World) (lv : -9223372036854775808 ≤ v) (rv : v < 9223372036854775808) :
    Calls Tryd.prog 34 #[.int .i64 v] w fun e w' => RetQ w (Fq.ofInt v) e w' := by
  obtain ⟨m0, k0⟩ := resF (w := w)
  go_enter Tryd.func34, Tryd.ntmps34
  go_upto_region 0 with (fail)
  go_cut [2] (fun s_2 wx => s_2 = Value.pointer (some ⟨w.heap.size, 0, none⟩) ∧ VarFB wx w.heap.size false none 0 0 none 0 0 ∧ Below w.heap.size w wx)
  case first =>
    go_wp2_with fail
    go_meet
    case rel => exact ⟨rfl, k0, m0⟩
  case rest =>
  clear m0 k0
  obtain ⟨rfl, V0, hb1⟩ := hcut
  go_upto_region 1 with (fail)
  go_cut [] (fun wx => VarQ wx w.heap.size (Fq.mk (decide (v < 0)) v.natAbs 1) ∧ Below w.heap.size w wx)
  case first =>
    refine wp_tabGF Tryd.f34 1 (fIntT0 v) [] (fun _ => false) 5 1 (by kernel_rfl) (by kernel_rfl) (by kernel_rfl) (by kernel_rfl) (by kernel_rfl) (EachX.of_all (fun _ h => by cases h) _) ?_ ?_
    · refine ⟨fun _ _ F => gR rfl rfl (arm_move (.inl rfl) (F.k 0 (Value.int IntKind.i64 v))).b, ?_⟩
      refine ⟨fun _ _ F => gR rfl rfl (arm_bin rfl (F.f 0 rfl) Is.const (fun _ => rfl) (fun w => rfl)).b, ?_⟩
      refine ⟨fun _ _ F => gR rfl rfl (arm_move (.inl rfl) (F.k 0 (Value.int IntKind.i64 v))).b, ?_⟩
      refine ⟨fun _ _ F => gR rfl rfl (arm_C1 rfl (enters Tryd.func60 rfl rfl) (F.f 2 rfl) (fun va w h1 => by have e_va : va = _ := h1; subst e_va; exact c_mag v w lv rv) (fun _ _ h => ofN h)).b, ?_⟩
      refine ⟨fun _ _ F => gR rfl rfl (arm_C1 rfl (enters Tryd.func61 rfl rfl) Is.const (fun va w h1 => by have e_va : va = _ := h1; subst e_va; exact c_natural_Of 1 w (by decide)) (fun _ _ h => ofNew h)).b, ?_⟩
      refine ⟨fun _ _ F => gR rfl rfl (arm_buildF rfl (F.f 1 rfl) (F.f 3 rfl) (F.f 4 rfl)).b, ?_⟩
      exact trivial
    intro E' hE gp wp bp G Gs
    obtain rfl : E' = [] := by simpa [subs] using hE
    have n_5 : (Sp.fq (Fq.mk (decide (v < 0)) v.natAbs 1)).p wp (gp 5) := G 5 8 _ (by simp) rfl
    clear G Gs hE
    simp only [fIntT0]
    simp only [qA, setD, qZ, qS]
    have T0 := (V0.mono bp V0.lt)
    refine wpAny_storeFr (j := 6) (by kernel_rfl) rfl rfl rfl rfl rfl n_5 T0.any ?_
    intro w0 u0 v0
    have O0 := T0.own
    refine wpAny_done (by kernel_rfl) ?_ _
    go_wp2_with fail
    go_meet
    case rel => exact ⟨v0, (Upd.below (hb1.trans (bp.mono hb1.size)) u0 (by omega))⟩
  case rest =>
  clear V0 hb1
  obtain ⟨V0, hb1⟩ := hcut
  obtain ⟨r1, r2, r3, r4, rV, rn, rm⟩ := V0
  have c0 := rV.cell0
  have c1 := rV.cell1
  have c2 := rV.cell2
  go_wp2
  exact bodyPost_ret (res_F rfl rfl rV) rfl ⟨_, rfl, ⟨r1, r2, r3, r4, rfl, rn, rm⟩, hb1⟩
def rIntT0 (v : Int) : List (Nat × Tmp × Sp) :=
   [(0, 3, .val (Value.int IntKind.i64 v)),
    (1, 4, .val (Value.bool (decide (v < 0)))),
    (2, 5, .val (Value.int IntKind.i64 v)),
    (3, 6, .val (Value.int IntKind.u64 ((v.natAbs : Nat) : Int))),
    (4, 7, .nat (v.natAbs)),
    (5, 8, .nat (1)),
    (6, 9, .fq (Fq.mk (decide (v < 0)) v.natAbs 1))]
set_option maxHeartbeats 4000000 in
theorem q_rInt (v : Int) (w : World) (lv : -9223372036854775808 ≤ v) (rv : v < 9223372036854775808) :
    Calls Tryd.prog 24 #[.int .i64 v] w fun e w' => RetQ w (Fq.ofInt v) e w' := by
  obtain ⟨m0, k0⟩ := resF (w := w)
  go_enter Tryd.func24, Tryd.ntmps24
  go_upto_region 0 with (fail)
  go_cut [2] (fun s_2 wx => s_2 = Value.pointer (some ⟨w.heap.size, 0, none⟩) ∧ VarFB wx w.heap.size false none 0 0 none 0 0 ∧ Below w.heap.size w wx)
  case first =>
    go_wp2_with fail
    go_meet
    case rel => exact ⟨rfl, k0, m0⟩
  case rest =>
  clear m0 k0
  obtain ⟨rfl, V0, hb1⟩ := hcut
  go_upto_region 1 with (fail)
  go_cut [] (fun wx => VarQ wx w.heap.size (Fq.mk (decide (v < 0)) v.natAbs 1) ∧ Below w.heap.size w wx)
  case first =>
    refine wp_tabGF Tryd.f24 1 (rIntT0 v) [] (fun _ => false) 6 1 (by kernel_rfl) (by kernel_rfl) (by kernel_rfl) (by kernel_rfl) (by kernel_rfl) (EachX.of_all (fun _ h => by cases h) _) ?_ ?_
    · refine ⟨fun _ _ F => gR rfl rfl (arm_move (.inl rfl) (F.k 0 (Value.int IntKind.i64 v))).b, ?_⟩
      refine ⟨fun _ _ F => gR rfl rfl (arm_bin rfl (F.f 0 rfl) Is.const (fun _ => rfl) (fun w => rfl)).b, ?_⟩
      refine ⟨fun _ _ F => gR rfl rfl (arm_move (.inl rfl) (F.k 0 (Value.int IntKind.i64 v))).b, ?_⟩
      refine ⟨fun _ _ F => gR rfl rfl (arm_C1 rfl (enters Tryd.func49 rfl rfl) (F.f 2 rfl) (fun va w h1 => by have e_va : va = _ := h1; subst e_va; exact c_size v w lv rv) (fun _ _ h => ofV h)).b, ?_⟩
      refine ⟨fun _ _ F => gR rfl rfl (arm_C1 rfl (enters Tryd.func48 rfl rfl) (F.f 3 rfl) (fun va w h1 => by have e_va : va = _ := h1; subst e_va; exact c_ref_Of v.natAbs w (by omega)) (fun _ _ h => ofNew h)).b, ?_⟩
      refine ⟨fun _ _ F => gR rfl rfl (arm_C1 rfl (enters Tryd.func48 rfl rfl) Is.const (fun va w h1 => by have e_va : va = _ := h1; subst e_va; exact c_ref_Of 1 w (by decide)) (fun _ _ h => ofNew h)).b, ?_⟩
      refine ⟨fun _ _ F => gR rfl rfl (arm_buildF rfl (F.f 1 rfl) (F.f 4 rfl) (F.f 5 rfl)).b, ?_⟩
      exact trivial
    intro E' hE gp wp bp G Gs
    obtain rfl : E' = [] := by simpa [subs] using hE
    have n_6 : (Sp.fq (Fq.mk (decide (v < 0)) v.natAbs 1)).p wp (gp 6) := G 6 9 _ (by simp) rfl
    clear G Gs hE
    simp only [rIntT0]
    simp only [qA, setD, qZ, qS]
    have T0 := (V0.mono bp V0.lt)
    refine wpAny_storeFr (j := 7) (by kernel_rfl) rfl rfl rfl rfl rfl n_6 T0.any ?_
    intro w0 u0 v0
    have O0 := T0.own
    refine wpAny_done (by kernel_rfl) ?_ _
    go_wp2_with fail
    go_meet
    case rel => exact ⟨v0, (Upd.below (hb1.trans (bp.mono hb1.size)) u0 (by omega))⟩
  case rest =>
  clear V0 hb1
  obtain ⟨V0, hb1⟩ := hcut
  obtain ⟨r1, r2, r3, r4, rV, rn, rm⟩ := V0
  have c0 := rV.cell0
  have c1 := rV.cell1
  have c2 := rV.cell2
  go_wp2
  exact bodyPost_ret (res_F rfl rfl rV) rfl ⟨_, rfl, ⟨r1, r2, r3, r4, rfl, rn, rm⟩, hb1⟩
end Go.Proofs.YtacccgeppcfncaaDoor
namespace Go.Proofs.YtacccgeppcfncaaDoor
set_option linter.unusedSimpArgs false
set_option linter.unusedVariables false
set_option maxRecDepth 100000
open Go.RowKit
section
variable {Q : Exit → Act → World → Prop} {o : Oper} {a : Act} {w : World} {x y : Operand} {g m : Nat} {tt : Array TypeId}
theorem arm_index0 (ho : o.op = .indexAddr 96 x y) (hx : Is a w x (.val (.slice (some ⟨g, 0, none⟩) 1 1))) (hy : Is a w y (.val (.int .i64 0))) : Arm Tryd.prog Q o a w (.val (.pointer (some ⟨g, 0, none⟩))) := by
  have hx' : a.eval x = .slice (some ⟨g, 0, none⟩) 1 1 := hx
  have hy' : a.eval y = .int .i64 0 := hy
  refine arm_run _ ?_ rfl
  unfold execOp
  rw [ho]
  simp only [hx', hy']
  go_simp
end
def oneT0 (g : Nat) (m : Nat) (base : Nat) : List (Nat × Tmp × Sp) :=
   [(0, 9, .val (Value.pointer (some ⟨g, 0, none⟩))),
    (1, 10, .nat (m)),
    (2, 4, .var base)]
def oneT1 (m : Nat) : List (Nat × Tmp × Sp) :=
   [(0, 11, .nat (m)),
    (1, 12, .nat (1)),
    (2, 13, .val (Value.int IntKind.i64 0)),
    (3, 14, .val (Value.bool false))]
def oneT2 (m : Nat) (C : Int) : List (Nat × Tmp × Sp) :=
   [(0, 11, .nat (m)),
    (1, 12, .nat (1)),
    (2, 13, .val (Value.int IntKind.i64 C)),
    (3, 14, .val (Value.bool true))]
set_option maxHeartbeats 4000000 in
theorem c_one (g m : Nat) (w : World) (v : VarI w g m) (hm : nl m ≤ 1000000000000) :
    Calls Tryd.prog 69 #[.slice (some ⟨g, 0, none⟩) 1 1] w fun e w' => RetV w (.bool (decide (m = 1))) e w' := by
  have hb1 := Below.refl w.heap.size w
  go_enter Tryd.func69, Tryd.ntmps69
  go_wp2
  go_loopw [7] (fun s7 wr => (s7 = .int .i64 0 ∨ (s7 = .int .i64 1 ∧ Hid (m = 1))) ∧ VarI wr g m ∧ Below w.heap.size w wr) (fun s7 _ => 1 - (intOf s7).toNat)
  case atStart => exact ⟨.inl rfl, v, hb1⟩
  case round =>
    obtain ⟨hk, V, hb1⟩ := hrel
    rcases hk with rfl | ⟨rfl, HM⟩
    · go_upto_region 3 with (fail)
      go_cut [4] from 8 to 15 (fun s_4 wx => ∃ g4, s_4 = Value.pointer (some ⟨g4, 0, none⟩) ∧ w.heap.size + 0 ≤ g4 ∧ VarI wx g4 m ∧ VarI wx g m ∧ Below w.heap.size w wx)
      case first =>
        obtain ⟨base, hbase0⟩ : ∃ b : Nat, Hid (b = wr.heap.size) := ⟨_, Lib.hid rfl⟩
        have hbase : base ≤ wr.heap.size := by rw [hbase0.out]; exact Nat.le_refl _
        have hbw : w.heap.size + 0 ≤ base := by have := hb1.size; rw [hbase0.out]; omega
        have l_V : g < base := by rw [hbase0.out]; exact V.lt
        refine wp_tabGF Tryd.f69 3 (oneT0 g m base) [] (fun i => i == 2) 3 1 (by kernel_rfl) (by kernel_rfl) (by kernel_rfl) (by kernel_rfl) (by kernel_rfl) ⟨fun h => (by cases h), ⟨fun h => (by cases h), ⟨fun _ w v h => Sp.var_lt h, trivial⟩⟩⟩ ?_ ?_
        · refine ⟨fun _ _ F => gR rfl rfl (arm_index0 rfl (F.k 5 (Value.slice (some ⟨g, 0, none⟩) 1 1)) (F.k 7 (Value.int IntKind.i64 0))).b, ?_⟩
          refine ⟨fun _ _ F => gR rfl rfl (arm_load rfl (F.f 0 rfl) (V.mono F.below)).b, ?_⟩
          refine ⟨fun _ _ F => gR rfl rfl (arm_alloc rfl (Nat.le_trans hbase F.below.size)), ?_⟩
          exact trivial
        intro E' hE gp wp bp G Gs
        obtain rfl : E' = [] := by simpa [subs] using hE
        obtain ⟨g4, e_2, lg_2, hv_2⟩ := G 2 4 _ (by simp) rfl
        have n_1 : (Sp.nat (m)).p wp (gp 1) := G 1 10 _ (by simp) rfl
        clear G Gs hE
        simp only [oneT0]
        simp only [qA, setD, qZ, qS, e_2]
        have T0 := hv_2
        refine wpAny_storeN (j := 3) (by kernel_rfl) rfl rfl rfl rfl rfl n_1 T0.any ?_
        intro w0 u0 v0
        have O0 := T0.own
        refine wpAny_done (by kernel_rfl) ?_ _
        go_wp2_with fail
        go_meet
        case rel => exact ⟨g4, rfl, (by omega), v0, ((V.mono bp).upd O0 u0 (by omega)), (Upd.below (hb1.trans (bp.mono hb1.size)) u0 (by omega))⟩
      case rest =>
      clear V hb1
      obtain ⟨g4, rfl, lg4, V4, V, hb1⟩ := hcut
      by_cases h1 : m = 1
      · have hC : cmpI m 1 = 0 := by unfold cmpI; rw [if_neg (by omega), if_neg (by omega)]
        have HC := Lib.hid hC
        have HM := Lib.hid h1
        clear h1 hC
        go_upto_region 4 with (fail)
        go_cut [14] from 8 to 15 (fun s_14 wx => s_14 = Value.bool false ∧ VarI wx g m ∧ VarI wx g4 m ∧ Below w.heap.size w wx)
        case first =>
          refine wp_tabG Tryd.f69 4 (oneT1 m) [] (fun _ => false) 3 0 (by kernel_rfl) (by kernel_rfl) (by kernel_rfl) (by kernel_rfl) (by kernel_rfl) (EachX.of_all (fun _ h => by cases h) _) ?_ ?_
          · refine ⟨fun _ _ F => gR rfl rfl (arm_load rfl (F.k 4 (Value.pointer (some ⟨g4, 0, none⟩))) (V4.mono F.below)).b, ?_⟩
            refine ⟨fun _ _ F => gR rfl rfl (arm_C1 rfl (enters Tryd.func61 rfl rfl) Is.const (fun va w h1 => by have e_va : va = _ := h1; subst e_va; exact c_natural_Of 1 w (by decide)) (fun _ _ h => ofNew h)).b, ?_⟩
            refine ⟨fun _ _ F => gR rfl rfl (arm_C2 rfl (enters Tryd.func90 rfl rfl) (F.f 0 rfl) (F.f 1 rfl) (fun va vb w h1 h2 => c_natural_Cmp va vb m 1 w h1 h2 (Nat.le_trans hm (by decide)) (by decide)) (fun _ _ h => by have h' : RetV _ _ _ _ := h; rw [HC.out] at h'; exact ofV h')).b, ?_⟩
            refine ⟨fun _ _ F => gR rfl rfl (arm_bin rfl (F.f 2 rfl) Is.const (fun _ => rfl) (fun _ => rfl)).b, ?_⟩
            exact trivial
          intro E' hE gp wp bp G Gs
          obtain rfl : E' = [] := by simpa [subs] using hE
          have e_3 : gp 3 = Value.bool false := G 3 14 _ (by simp) rfl
          clear G Gs hE
          simp only [oneT1]
          simp only [qA, setD, qZ, qS, e_3]
          refine wpAny_done (by kernel_rfl) ?_ _
          go_wp2_with fail
          go_meet
          case rel => exact ⟨rfl, (V.mono bp), (V4.mono bp), (hb1.trans (bp.mono hb1.size))⟩
        case rest =>
        clear V V4 hb1
        obtain ⟨rfl, V, V4, hb1⟩ := hcut
        go_wp2_with fail
        go_roundw
        case rel => exact ⟨.inr ⟨rfl, HM⟩, by assumption, by assumption⟩
        case measure => simp [intOf]
      · have hC : (cmpI m 1 != 0) = true := by have h9 : cmpI m 1 ≠ 0 := (by unfold cmpI; split; decide; split; decide; omega); simpa using h9
        obtain ⟨C, HC⟩ : ∃ C : Int, Hid (cmpI m 1 = C) := ⟨_, Lib.hid rfl⟩
        rw [HC.out] at hC
        obtain ⟨B2, hB2⟩ : ∃ B : Bool, Hid (B = (C != 0)) := ⟨_, Lib.hid rfl⟩
        obtain rfl : B2 = true := by rw [hB2.out]; exact hC
        have HM := Lib.hid h1
        clear h1 hC
        go_upto_region 4 with (fail)
        go_cut [14] from 8 to 15 (fun s_14 wx => s_14 = Value.bool true ∧ VarI wx g m ∧ VarI wx g4 m ∧ Below w.heap.size w wx)
        case first =>
          refine wp_tabG Tryd.f69 4 (oneT2 m C) [] (fun _ => false) 3 0 (by kernel_rfl) (by kernel_rfl) (by kernel_rfl) (by kernel_rfl) (by kernel_rfl) (EachX.of_all (fun _ h => by cases h) _) ?_ ?_
          · refine ⟨fun _ _ F => gR rfl rfl (arm_load rfl (F.k 4 (Value.pointer (some ⟨g4, 0, none⟩))) (V4.mono F.below)).b, ?_⟩
            refine ⟨fun _ _ F => gR rfl rfl (arm_C1 rfl (enters Tryd.func61 rfl rfl) Is.const (fun va w h1 => by have e_va : va = _ := h1; subst e_va; exact c_natural_Of 1 w (by decide)) (fun _ _ h => ofNew h)).b, ?_⟩
            refine ⟨fun _ _ F => gR rfl rfl (arm_C2 rfl (enters Tryd.func90 rfl rfl) (F.f 0 rfl) (F.f 1 rfl) (fun va vb w h1 h2 => c_natural_Cmp va vb m 1 w h1 h2 (Nat.le_trans hm (by decide)) (by decide)) (fun _ _ h => by have h' : RetV _ _ _ _ := h; rw [HC.out] at h'; exact ofV h')).b, ?_⟩
            refine ⟨fun _ _ F => gR rfl rfl (arm_bin rfl (F.f 2 rfl) Is.const (fun _ => rfl) (fun w => by rw [hB2.out]; rfl)).b, ?_⟩
            exact trivial
          intro E' hE gp wp bp G Gs
          obtain rfl : E' = [] := by simpa [subs] using hE
          have e_3 : gp 3 = Value.bool true := G 3 14 _ (by simp) rfl
          clear G Gs hE
          simp only [oneT2]
          simp only [qA, setD, qZ, qS, e_3]
          refine wpAny_done (by kernel_rfl) ?_ _
          go_wp2_with fail
          go_meet
          case rel => exact ⟨rfl, (V.mono bp), (V4.mono bp), (hb1.trans (bp.mono hb1.size))⟩
        case rest =>
        clear V V4 hb1
        obtain ⟨rfl, V, V4, hb1⟩ := hcut
        go_wp2
        go_ret
        exact ⟨by rw [decide_eq_false HM.out]; rfl, hb1⟩
    · go_wp2
      go_ret
      exact ⟨by rw [decide_eq_true HM.out]; rfl, hb1⟩
end Go.Proofs.YtacccgeppcfncaaDoor
