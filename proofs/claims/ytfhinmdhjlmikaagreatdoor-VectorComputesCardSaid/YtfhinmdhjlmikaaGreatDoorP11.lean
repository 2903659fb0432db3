/- mark, Sign of package fraction; Sign of the reference. Cmp, Lerp, Int, Ratio; copied. one of package fraction. -/
import Derived.Test.YtfhinmdhjlmikaaGreatDoorP10
namespace Go.Proofs.YtfhinmdhjlmikaaGreatDoor
set_option linter.unusedSimpArgs false
set_option linter.unusedVariables false
set_option maxRecDepth 100000
open Go.RowKit
/-- Block g is a variable of type signed. -/
def VarS (w : World) (g : Nat) (a b : Bool) : Prop := w.heap[g]? = some (.cells #[.bool a, .bool b] 96 (0, 0))
theorem VarS.lt {w : World} {g : Nat} {a b : Bool} (h : VarS w g a b) : g < w.heap.size := (Array.getElem?_eq_some_iff.1 h).1
theorem VarS.mono {w w' : World} {g B : Nat} {a b : Bool} (h : VarS w g a b) (hb : Below B w w') (hB : g < B) : VarS w' g a b := (hb.block g hB).trans h
theorem VarS.cell0 {w : World} {g : Nat} {a b : Bool} (h : VarS w g a b) : w.cell? ⟨g, 0, none⟩ = some (.bool a) := by rw [cell_of_row w g 0 _ _ (0, 0) h]; rfl
theorem VarS.cell1 {w : World} {g : Nat} {a b : Bool} (h : VarS w g a b) : w.cell? ⟨g, 1, none⟩ = some (.bool b) := by rw [cell_of_row w g 1 _ _ (0, 0) h]; rfl
theorem VarS.own {w : World} {g : Nat} {a b : Bool} (h : VarS w g a b) : Own w g := ⟨_, _, h, fun k n => by
  match k with
  | 0 => intro h; cases h
  | 1 => intro h; cases h
  | k + 2 => intro h; simp at h⟩
theorem VarS.upd {w w' : World} {g g' : Nat} {a b : Bool} (h : VarS w g' a b) (_ : Own w g) (u : Upd w g w') (hn : g' ≠ g) : VarS w' g' a b := (u.block g' hn).trans h
theorem resS {w : World} : Below w.heap.size w (w.alloc (.cells #[.bool false, .bool false] 96)) ∧ VarS (w.alloc (.cells #[.bool false, .bool false] 96)) w.heap.size false false := ⟨bel1 w _, heap_alloc_new w _⟩
theorem VarS.any {w : World} {g : Nat} {a b : Bool} (h : VarS w g a b) : ∃ a b, VarS w g a b := ⟨_, _, h⟩
theorem run_storeS {w : World} {g : Nat} {a b a' b' : Bool} (h : VarS w g a b) : (Instr.storeAt 96 (.pointer (some ⟨g, 0, none⟩)) (.agg #[.bool a', .bool b'])).run Tryz.prog w = .ok () ((w.setCell ⟨g, 0, none⟩ (.bool a')).setCell ⟨g, 1, none⟩ (.bool b')) := by
  have c0 := h.cell0
  have c1 := h.cell1
  have f0 : w.frozen? ⟨g, 0, none⟩ = false := frozen_of_row w g 0 _ _ h
  have f1 : w.frozen? ⟨g, 1, none⟩ = false := frozen_of_row w g 1 _ _ h
  go_simp
section
variable {Q : Exit → Act → World → Prop} {md : Region.Mode} {ops : Array Oper} {o : Oper} {a : Act} {w : World} {j fuel : Nat} {listed : Array Bool} {x y : Operand} {g : Nat} {s t : Bool}
theorem wp_storeS {K : Act → World → Prop} (hop : o.op = .store 96 x y) (hd : o.dst = none) (hx : a.eval x = .pointer (some ⟨g, 0, none⟩)) (hy : a.eval y = .agg #[.bool s, .bool t]) (hv : ∃ s t, VarS w g s t)
    (hK : ∀ w1, Upd w g w1 → VarS w1 g s t → K a w1) : Oper.wp Tryz.prog o a w K Q := by
  obtain ⟨s', t', hv⟩ := hv
  unfold Oper.wp execOp
  rw [hop]
  simp only [hx, hy, Sem.run_bind, run_storeS hv, Result.andThen, Sem.run_pure, Oper.upon_skip]
  rw [hd]
  exact hK _ ((Upd.cell w g 0 _).trans (Upd.cell _ g 1 _)) (heap_setCell_same _ g 1 _ _ (.bool t) (heap_setCell_same w g 0 _ _ (.bool s) hv))
theorem wpAny_storeS (hr : Region.ready md ops listed = [j]) (ho : ops[j]? = some o) (hop : o.op = .store 96 x y) (hg : o.guard = none) (hd : o.dst = none)
    (hx : a.eval x = .pointer (some ⟨g, 0, none⟩)) (hy : a.eval y = .agg #[.bool s, .bool t]) (hv : ∃ s t, VarS w g s t) (h : ∀ w1, Upd w g w1 → VarS w1 g s t → wpAny Tryz.prog md ops Q fuel (listed.setIfInBounds j true) a w1) :
    wpAny Tryz.prog md ops Q (fuel + 1) listed a w := by
  refine wpAny_ready hr (by simp) (AllReady.cons ho (fun K hK => ?_) AllReady.nil)
  rw [if_pos (wanted_none hg)]
  exact wp_storeS hop hd hx hy hv (fun w1 u1 v1 => hK _ _ (h w1 u1 v1))
theorem arm_buildS2 (ho : o.op = .build 96 #[(0, x), (1, y)]) (hx : Is a w x (.val (.bool s))) (hy : Is a w y (.val (.bool t))) : Arm Tryz.prog Q o a w (.val (.agg #[.bool s, .bool t])) := by
  have hx' : a.eval x = .bool s := hx
  have hy' : a.eval y = .bool t := hy
  refine arm_run _ ?_ rfl
  unfold execOp
  rw [ho]
  simp only [List.map_toArray, List.map_cons, List.map_nil, hx', hy']
  go_simp
theorem arm_buildS1 (ho : o.op = .build 96 #[(1, y)]) (hy : Is a w y (.val (.bool t))) : Arm Tryz.prog Q o a w (.val (.agg #[.bool false, .bool t])) := by
  have hy' : a.eval y = .bool t := hy
  refine arm_run _ ?_ rfl
  unfold execOp
  rw [ho]
  simp only [List.map_toArray, List.map_cons, List.map_nil, hy']
  go_simp
theorem arm_buildS0 (ho : o.op = .build 96 #[(0, x)]) (hx : Is a w x (.val (.bool s))) : Arm Tryz.prog Q o a w (.val (.agg #[.bool s, .bool false])) := by
  have hx' : a.eval x = .bool s := hx
  refine arm_run _ ?_ rfl
  unfold execOp
  rw [ho]
  simp only [List.map_toArray, List.map_cons, List.map_nil, hx']
  go_simp
end
theorem res_S {fn : Func} {p : Tmp} (h : fn.results = #[.cell p 96]) {tmps : Array Value} {w : World} {g : Nat} {s t : Bool}
    (hp : tmps[p]? = some (.pointer (some ⟨g, 0, none⟩))) (hv : VarS w g s t) : (results fn tmps).run Tryz.prog w = .ok (.agg #[.bool s, .bool t]) w := by
  have c0 := hv.cell0
  have c1 := hv.cell1
  simp [results, h, hp, asAddr, loadVar, go_sem, c0, c1]
theorem run_eqSS (a b c d : Bool) (w : World) : (binOp BinOp.eql 96 (.agg #[.bool a, .bool b]) (.agg #[.bool c, .bool d])).run Tryz.prog w = .ok (.bool (a == c && b == d)) w := by
  cases a <;> cases b <;> cases c <;> cases d <;> go_simp
theorem run_neSS (a b c d : Bool) (w : World) : (binOp BinOp.neq 96 (.agg #[.bool a, .bool b]) (.agg #[.bool c, .bool d])).run Tryz.prog w = .ok (.bool (!(a == c && b == d))) w := by
  cases a <;> cases b <;> cases c <;> cases d <;> go_simp
theorem guard_eqSS {x y : Operand} (a b c d : Bool) (w : World) : (eqGuard BinOp.eql 96 x y (.agg #[.bool a, .bool b]) (.agg #[.bool c, .bool d])).run Tryz.prog w = .ok () w := by go_simp
theorem guard_neSS {x y : Operand} (a b c d : Bool) (w : World) : (eqGuard BinOp.neq 96 x y (.agg #[.bool a, .bool b]) (.agg #[.bool c, .bool d])).run Tryz.prog w = .ok () w := by go_simp
def markT0 (w : World) (x : Fq) (z : Bool) : List (Nat × Tmp × Sp) :=
   [(0, 3, .val (Value.pointer (some ⟨w.heap.size, 0, none⟩))),
    (1, 4, .val (Value.bool x.s)),
    (2, 5, .val (Value.pointer (some ⟨w.heap.size, 1, none⟩))),
    (3, 6, .nat (x.p)),
    (4, 7, .val (Value.bool z)),
    (5, 8, .val (Value.agg #[Value.bool x.s, Value.bool z]))]
set_option maxHeartbeats 4000000 in
theorem c_mark (va : Value) (x : Fq) (w : World) (ha : IsQ w va x) (hp : nl x.p ≤ 1000000000000) {z : Bool} (hz : decide (x.p = 0) = z) :
    Calls Tryz.prog 86 #[va] w fun e w' => RetV w (.agg #[.bool x.s, .bool z]) e w' := by
  have HZ := Lib.hid hz
  clear hz
  obtain ⟨a0, c0, b0, d0, rfl, m0, k0⟩ := boxF ha
  obtain ⟨m1, k1⟩ := resS (w := (w.alloc (.cells #[.bool x.s, .slice a0 (nl x.p) c0, .slice b0 (nl x.q) d0] 26)))
  rw [World.size_alloc ] at k1
  have n1 := m0.trans (m1.mono m0.size)
  clear ha
  go_enter Tryz.func86, Tryz.ntmps86
  go_upto_region 0 with (fail)
  go_cut [1, 2] (fun s_1 s_2 wx => s_1 = Value.pointer (some ⟨w.heap.size, 0, none⟩) ∧ s_2 = Value.pointer (some ⟨w.heap.size + 1, 0, none⟩) ∧ VarQ wx w.heap.size x ∧ VarS wx (w.heap.size + 1) false false ∧ Below w.heap.size w wx)
  case first =>
    go_wp2_with fail
    go_meet
    case rel => exact ⟨rfl, rfl, (k0.mono m1), k1, n1⟩
  case rest =>
  clear m0 k0 m1 k1 n1
  obtain ⟨rfl, rfl, V0, V1, hb1⟩ := hcut
  go_upto_region 1 with (fail)
  go_cut [] (fun wx => VarQ wx w.heap.size x ∧ VarS wx (w.heap.size + 1) x.s z ∧ Below w.heap.size w wx)
  case first =>
    refine wp_tabG Tryz.f86 1 (markT0 w x z) [] (fun _ => false) 5 1 (by kernel_rfl) (by kernel_rfl) (by kernel_rfl) (by kernel_rfl) (by kernel_rfl) (EachX.of_all (fun _ h => by cases h) _) ?_ ?_
    · refine ⟨fun _ _ F => gR rfl rfl (arm_fieldF rfl (F.k 1 (Value.pointer (some ⟨w.heap.size, 0, none⟩))) (run_field0 _)).b, ?_⟩
      refine ⟨fun _ _ F => gR rfl rfl (arm_loadS rfl (F.f 0 rfl) (V0.mono F.below)).b, ?_⟩
      refine ⟨fun _ _ F => gR rfl rfl (arm_fieldF rfl (F.k 1 (Value.pointer (some ⟨w.heap.size, 0, none⟩))) (run_field1 _)).b, ?_⟩
      refine ⟨fun _ _ F => gR rfl rfl (arm_load1 rfl (F.f 2 rfl) (V0.mono F.below)).b, ?_⟩
      refine ⟨fun _ _ F => gR rfl rfl (arm_C1 rfl (enters Tryz.func80 rfl rfl) (F.f 3 rfl) (fun va w h1 => c_isZero va x.p w h1 hp) (fun _ _ h => by have h' : RetV _ _ _ _ := h; rw [HZ.out] at h'; exact ofV h')).b, ?_⟩
      refine ⟨fun _ _ F => gR rfl rfl (arm_buildS2 rfl (F.f 1 rfl) (F.f 4 rfl)).b, ?_⟩
      exact trivial
    intro E' hE gp wp bp G Gs
    obtain rfl : E' = [] := by simpa [subs] using hE
    have e_5 : gp 5 = Value.agg #[Value.bool x.s, Value.bool z] := G 5 8 _ (by simp) rfl
    clear G Gs hE
    simp only [markT0]
    simp only [qA, setD, qZ, qS, e_5]
    have T0 := (V1.mono bp V1.lt)
    refine wpAny_storeS (j := 6) (by kernel_rfl) rfl rfl rfl rfl rfl rfl T0.any ?_
    intro w0 u0 v0
    have O0 := T0.own
    refine wpAny_done (by kernel_rfl) ?_ _
    go_wp2_with fail
    go_meet
    case rel => exact ⟨((V0.mono bp).upd O0 u0 (by omega)), v0, (Upd.below (hb1.trans (bp.mono hb1.size)) u0 (by omega))⟩
  case rest =>
  clear V0 V1 hb1
  obtain ⟨V0, V1, hb1⟩ := hcut
  have rV := V1
  have c0 := rV.cell0
  have c1 := rV.cell1
  go_wp2
  exact bodyPost_ret (res_S rfl rfl rV) rfl ⟨rfl, hb1⟩
def fSignT0 (xp : Nat) (xq : Nat) : List (Nat × Tmp × Sp) :=
   [(0, 3, .fq (Fq.mk true xp xq)),
    (1, 4, .val (Value.agg #[Value.bool true, Value.bool true]))]
def fSignT1  : List (Nat × Tmp × Sp) :=
   [(0, 6, .val (Value.agg #[Value.bool false, Value.bool true])),
    (1, 7, .val (Value.bool false)),
    (2, 5, .val (Value.bool false))]
def fSignT2  : List (Nat × Tmp × Sp) :=
   [(0, 8, .val (Value.agg #[Value.bool true, Value.bool true])),
    (1, 9, .val (Value.bool true)),
    (2, 5, .val (Value.bool true))]
def fSignT3 (xp : Nat) (xq : Nat) : List (Nat × Tmp × Sp) :=
   [(0, 3, .fq (Fq.mk true xp xq)),
    (1, 4, .val (Value.agg #[Value.bool true, Value.bool false]))]
def fSignT4  : List (Nat × Tmp × Sp) :=
   [(0, 6, .val (Value.agg #[Value.bool false, Value.bool true])),
    (1, 7, .val (Value.bool false)),
    (2, 5, .val (Value.bool false))]
def fSignT5  : List (Nat × Tmp × Sp) :=
   [(0, 8, .val (Value.agg #[Value.bool true, Value.bool true])),
    (1, 9, .val (Value.bool false)),
    (2, 5, .val (Value.bool false))]
def fSignT6  : List (Nat × Tmp × Sp) :=
   [(0, 11, .val (Value.agg #[Value.bool true, Value.bool false])),
    (1, 12, .val (Value.bool true)),
    (2, 10, .val (Value.bool true))]
def fSignT7 (xp : Nat) (xq : Nat) : List (Nat × Tmp × Sp) :=
   [(0, 3, .fq (Fq.mk false xp xq)),
    (1, 4, .val (Value.agg #[Value.bool false, Value.bool true]))]
def fSignT8  : List (Nat × Tmp × Sp) :=
   [(0, 6, .val (Value.agg #[Value.bool false, Value.bool true])),
    (1, 7, .val (Value.bool true)),
    (2, 5, .val (Value.bool true))]
def fSignT9 (xp : Nat) (xq : Nat) : List (Nat × Tmp × Sp) :=
   [(0, 3, .fq (Fq.mk false xp xq)),
    (1, 4, .val (Value.agg #[Value.bool false, Value.bool false]))]
def fSignT10  : List (Nat × Tmp × Sp) :=
   [(0, 6, .val (Value.agg #[Value.bool false, Value.bool true])),
    (1, 7, .val (Value.bool false)),
    (2, 5, .val (Value.bool false))]
def fSignT11  : List (Nat × Tmp × Sp) :=
   [(0, 8, .val (Value.agg #[Value.bool true, Value.bool true])),
    (1, 9, .val (Value.bool false)),
    (2, 5, .val (Value.bool false))]
def fSignT12  : List (Nat × Tmp × Sp) :=
   [(0, 11, .val (Value.agg #[Value.bool true, Value.bool false])),
    (1, 12, .val (Value.bool false)),
    (2, 10, .val (Value.bool false))]
set_option maxHeartbeats 4000000 in
theorem q_fSign (va : Value) (x : Fq) (w : World) (ha : IsQ w va x) (h : x.ok 1000000000000) :
    Calls Tryz.prog 62 #[va] w fun e w' => RetV w (.int .i64 x.sgn) e w' := by
  obtain ⟨xs, xp, xq⟩ := x
  have bp : nl xp ≤ 1000000000000 := h.p
  rcases Bool.eq_false_or_eq_true xs with rfl | rfl
  · by_cases hz : xp = 0
    · have HZ : Hid (decide (xp = 0) = true) := Lib.hid (decide_eq_true hz)
      have hs : (Fq.mk true xp xq).sgn = 0 := by unfold Fq.sgn; rw [if_pos hz]
      rw [hs]
      clear hz hs
      obtain ⟨a0, c0, b0, d0, rfl, m0, k0⟩ := boxF ha
      clear ha
      go_enter Tryz.func62, Tryz.ntmps62
      go_upto_region 0 with (fail)
      go_cut [1, 2] (fun s_1 s_2 wx => s_1 = Value.pointer (some ⟨w.heap.size, 0, none⟩) ∧ s_2 = Value.int IntKind.i64 0 ∧ VarQ wx w.heap.size (Fq.mk true xp xq) ∧ Below w.heap.size w wx)
      case first =>
        go_wp2_with fail
        go_meet
        case rel => exact ⟨rfl, rfl, k0, m0⟩
      case rest =>
      clear m0 k0
      obtain ⟨rfl, rfl, V0, hb1⟩ := hcut
      go_upto_region 1 with (fail)
      go_cut [4] (fun s_4 wx => s_4 = Value.agg #[Value.bool true, Value.bool true] ∧ VarQ wx w.heap.size (Fq.mk true xp xq) ∧ Below w.heap.size w wx)
      case first =>
        refine wp_tabGF Tryz.f62 1 (fSignT0 xp xq) [] (fun _ => false) 2 0 (by kernel_rfl) (by kernel_rfl) (by kernel_rfl) (by kernel_rfl) (by kernel_rfl) (EachX.of_all (fun _ h => by cases h) _) ?_ ?_
        · refine ⟨fun _ _ F => gR rfl rfl (arm_loadF rfl (F.k 1 (Value.pointer (some ⟨w.heap.size, 0, none⟩))) (V0.mono F.below)).b, ?_⟩
          refine ⟨fun _ _ F => gR rfl rfl (arm_C1 rfl (enters Tryz.func86 rfl rfl) (F.f 0 rfl) (fun va w h1 => c_mark va (Fq.mk true xp xq) w h1 bp HZ.out) (fun _ _ h => ofV h)).b, ?_⟩
          exact trivial
        intro E' hE gp wp bp G Gs
        obtain rfl : E' = [] := by simpa [subs] using hE
        have e_1 : gp 1 = Value.agg #[Value.bool true, Value.bool true] := G 1 4 _ (by simp) rfl
        clear G Gs hE
        simp only [fSignT0]
        simp only [qA, setD, qZ, qS, e_1]
        refine wpAny_done (by kernel_rfl) ?_ _
        go_wp2_with fail
        go_meet
        case rel => exact ⟨rfl, (V0.mono bp), (hb1.trans (bp.mono hb1.size))⟩
      case rest =>
      clear V0 hb1
      obtain ⟨rfl, V0, hb1⟩ := hcut
      go_upto_region 2 with (fail)
      go_cut [5] (fun s_5 wx => s_5 = Value.bool false ∧ VarQ wx w.heap.size (Fq.mk true xp xq) ∧ Below w.heap.size w wx)
      case first =>
        refine wp_tabGF Tryz.f62 2 (fSignT1 ) [] (fun _ => false) 3 0 (by kernel_rfl) (by kernel_rfl) (by kernel_rfl) (by kernel_rfl) (by kernel_rfl) (EachX.of_all (fun _ h => by cases h) _) ?_ ?_
        · refine ⟨fun _ _ F => gR rfl rfl (arm_buildS1 rfl Is.const).b, ?_⟩
          refine ⟨fun _ _ F => gR rfl rfl (arm_bin rfl (F.k 4 (Value.agg #[Value.bool true, Value.bool true])) (F.f 0 rfl) (fun w => guard_eqSS _ _ _ _ w) (fun w => run_eqSS _ _ _ _ w)).b, ?_⟩
          refine ⟨fun _ _ F => gR rfl rfl (arm_move (.inr rfl) (F.f 1 rfl)).b, ?_⟩
          exact trivial
        intro E' hE gp wp bp G Gs
        obtain rfl : E' = [] := by simpa [subs] using hE
        have e_2 : gp 2 = Value.bool false := G 2 5 _ (by simp) rfl
        clear G Gs hE
        simp only [fSignT1]
        simp only [qA, setD, qZ, qS, e_2]
        refine wpAny_done (by kernel_rfl) ?_ _
        go_wp2_with fail
        go_meet
        case rel => exact ⟨rfl, (V0.mono bp), (hb1.trans (bp.mono hb1.size))⟩
      case rest =>
      clear V0 hb1
      obtain ⟨rfl, V0, hb1⟩ := hcut
      go_upto_region 3 with (fail)
      go_cut [5] (fun s_5 wx => s_5 = Value.bool true ∧ VarQ wx w.heap.size (Fq.mk true xp xq) ∧ Below w.heap.size w wx)
      case first =>
        refine wp_tabGF Tryz.f62 3 (fSignT2 ) [] (fun _ => false) 3 0 (by kernel_rfl) (by kernel_rfl) (by kernel_rfl) (by kernel_rfl) (by kernel_rfl) (EachX.of_all (fun _ h => by cases h) _) ?_ ?_
        · refine ⟨fun _ _ F => gR rfl rfl (arm_buildS2 rfl Is.const Is.const).b, ?_⟩
          refine ⟨fun _ _ F => gR rfl rfl (arm_bin rfl (F.k 4 (Value.agg #[Value.bool true, Value.bool true])) (F.f 0 rfl) (fun w => guard_eqSS _ _ _ _ w) (fun w => run_eqSS _ _ _ _ w)).b, ?_⟩
          refine ⟨fun _ _ F => gR rfl rfl (arm_move (.inr rfl) (F.f 1 rfl)).b, ?_⟩
          exact trivial
        intro E' hE gp wp bp G Gs
        obtain rfl : E' = [] := by simpa [subs] using hE
        have e_2 : gp 2 = Value.bool true := G 2 5 _ (by simp) rfl
        clear G Gs hE
        simp only [fSignT2]
        simp only [qA, setD, qZ, qS, e_2]
        refine wpAny_done (by kernel_rfl) ?_ _
        go_wp2_with fail
        go_meet
        case rel => exact ⟨rfl, (V0.mono bp), (hb1.trans (bp.mono hb1.size))⟩
      case rest =>
      clear V0 hb1
      obtain ⟨rfl, V0, hb1⟩ := hcut
      go_wp2
      go_ret
      exact ⟨rfl, hb1⟩
    · have HZ : Hid (decide (xp = 0) = false) := Lib.hid (decide_eq_false hz)
      have hs : (Fq.mk true xp xq).sgn = -1 := by unfold Fq.sgn; rw [if_neg hz]; rfl
      rw [hs]
      clear hz hs
      obtain ⟨a0, c0, b0, d0, rfl, m0, k0⟩ := boxF ha
      clear ha
      go_enter Tryz.func62, Tryz.ntmps62
      go_upto_region 0 with (fail)
      go_cut [1, 2] (fun s_1 s_2 wx => s_1 = Value.pointer (some ⟨w.heap.size, 0, none⟩) ∧ s_2 = Value.int IntKind.i64 0 ∧ VarQ wx w.heap.size (Fq.mk true xp xq) ∧ Below w.heap.size w wx)
      case first =>
        go_wp2_with fail
        go_meet
        case rel => exact ⟨rfl, rfl, k0, m0⟩
      case rest =>
      clear m0 k0
      obtain ⟨rfl, rfl, V0, hb1⟩ := hcut
      go_upto_region 1 with (fail)
      go_cut [4] (fun s_4 wx => s_4 = Value.agg #[Value.bool true, Value.bool false] ∧ VarQ wx w.heap.size (Fq.mk true xp xq) ∧ Below w.heap.size w wx)
      case first =>
        refine wp_tabGF Tryz.f62 1 (fSignT3 xp xq) [] (fun _ => false) 2 0 (by kernel_rfl) (by kernel_rfl) (by kernel_rfl) (by kernel_rfl) (by kernel_rfl) (EachX.of_all (fun _ h => by cases h) _) ?_ ?_
        · refine ⟨fun _ _ F => gR rfl rfl (arm_loadF rfl (F.k 1 (Value.pointer (some ⟨w.heap.size, 0, none⟩))) (V0.mono F.below)).b, ?_⟩
          refine ⟨fun _ _ F => gR rfl rfl (arm_C1 rfl (enters Tryz.func86 rfl rfl) (F.f 0 rfl) (fun va w h1 => c_mark va (Fq.mk true xp xq) w h1 bp HZ.out) (fun _ _ h => ofV h)).b, ?_⟩
          exact trivial
        intro E' hE gp wp bp G Gs
        obtain rfl : E' = [] := by simpa [subs] using hE
        have e_1 : gp 1 = Value.agg #[Value.bool true, Value.bool false] := G 1 4 _ (by simp) rfl
        clear G Gs hE
        simp only [fSignT3]
        simp only [qA, setD, qZ, qS, e_1]
        refine wpAny_done (by kernel_rfl) ?_ _
        go_wp2_with fail
        go_meet
        case rel => exact ⟨rfl, (V0.mono bp), (hb1.trans (bp.mono hb1.size))⟩
      case rest =>
      clear V0 hb1
      obtain ⟨rfl, V0, hb1⟩ := hcut
      go_upto_region 2 with (fail)
      go_cut [5] (fun s_5 wx => s_5 = Value.bool false ∧ VarQ wx w.heap.size (Fq.mk true xp xq) ∧ Below w.heap.size w wx)
      case first =>
        refine wp_tabGF Tryz.f62 2 (fSignT4 ) [] (fun _ => false) 3 0 (by kernel_rfl) (by kernel_rfl) (by kernel_rfl) (by kernel_rfl) (by kernel_rfl) (EachX.of_all (fun _ h => by cases h) _) ?_ ?_
        · refine ⟨fun _ _ F => gR rfl rfl (arm_buildS1 rfl Is.const).b, ?_⟩
          refine ⟨fun _ _ F => gR rfl rfl (arm_bin rfl (F.k 4 (Value.agg #[Value.bool true, Value.bool false])) (F.f 0 rfl) (fun w => guard_eqSS _ _ _ _ w) (fun w => run_eqSS _ _ _ _ w)).b, ?_⟩
          refine ⟨fun _ _ F => gR rfl rfl (arm_move (.inr rfl) (F.f 1 rfl)).b, ?_⟩
          exact trivial
        intro E' hE gp wp bp G Gs
        obtain rfl : E' = [] := by simpa [subs] using hE
        have e_2 : gp 2 = Value.bool false := G 2 5 _ (by simp) rfl
        clear G Gs hE
        simp only [fSignT4]
        simp only [qA, setD, qZ, qS, e_2]
        refine wpAny_done (by kernel_rfl) ?_ _
        go_wp2_with fail
        go_meet
        case rel => exact ⟨rfl, (V0.mono bp), (hb1.trans (bp.mono hb1.size))⟩
      case rest =>
      clear V0 hb1
      obtain ⟨rfl, V0, hb1⟩ := hcut
      go_upto_region 3 with (fail)
      go_cut [5] (fun s_5 wx => s_5 = Value.bool false ∧ VarQ wx w.heap.size (Fq.mk true xp xq) ∧ Below w.heap.size w wx)
      case first =>
        refine wp_tabGF Tryz.f62 3 (fSignT5 ) [] (fun _ => false) 3 0 (by kernel_rfl) (by kernel_rfl) (by kernel_rfl) (by kernel_rfl) (by kernel_rfl) (EachX.of_all (fun _ h => by cases h) _) ?_ ?_
        · refine ⟨fun _ _ F => gR rfl rfl (arm_buildS2 rfl Is.const Is.const).b, ?_⟩
          refine ⟨fun _ _ F => gR rfl rfl (arm_bin rfl (F.k 4 (Value.agg #[Value.bool true, Value.bool false])) (F.f 0 rfl) (fun w => guard_eqSS _ _ _ _ w) (fun w => run_eqSS _ _ _ _ w)).b, ?_⟩
          refine ⟨fun _ _ F => gR rfl rfl (arm_move (.inr rfl) (F.f 1 rfl)).b, ?_⟩
          exact trivial
        intro E' hE gp wp bp G Gs
        obtain rfl : E' = [] := by simpa [subs] using hE
        have e_2 : gp 2 = Value.bool false := G 2 5 _ (by simp) rfl
        clear G Gs hE
        simp only [fSignT5]
        simp only [qA, setD, qZ, qS, e_2]
        refine wpAny_done (by kernel_rfl) ?_ _
        go_wp2_with fail
        go_meet
        case rel => exact ⟨rfl, (V0.mono bp), (hb1.trans (bp.mono hb1.size))⟩
      case rest =>
      clear V0 hb1
      obtain ⟨rfl, V0, hb1⟩ := hcut
      go_upto_region 5 with (fail)
      go_cut [10] (fun s_10 wx => s_10 = Value.bool true ∧ VarQ wx w.heap.size (Fq.mk true xp xq) ∧ Below w.heap.size w wx)
      case first =>
        refine wp_tabGF Tryz.f62 5 (fSignT6 ) [] (fun _ => false) 3 0 (by kernel_rfl) (by kernel_rfl) (by kernel_rfl) (by kernel_rfl) (by kernel_rfl) (EachX.of_all (fun _ h => by cases h) _) ?_ ?_
        · refine ⟨fun _ _ F => gR rfl rfl (arm_buildS0 rfl Is.const).b, ?_⟩
          refine ⟨fun _ _ F => gR rfl rfl (arm_bin rfl (F.k 4 (Value.agg #[Value.bool true, Value.bool false])) (F.f 0 rfl) (fun w => guard_eqSS _ _ _ _ w) (fun w => run_eqSS _ _ _ _ w)).b, ?_⟩
          refine ⟨fun _ _ F => gR rfl rfl (arm_move (.inr rfl) (F.f 1 rfl)).b, ?_⟩
          exact trivial
        intro E' hE gp wp bp G Gs
        obtain rfl : E' = [] := by simpa [subs] using hE
        have e_2 : gp 2 = Value.bool true := G 2 10 _ (by simp) rfl
        clear G Gs hE
        simp only [fSignT6]
        simp only [qA, setD, qZ, qS, e_2]
        refine wpAny_done (by kernel_rfl) ?_ _
        go_wp2_with fail
        go_meet
        case rel => exact ⟨rfl, (V0.mono bp), (hb1.trans (bp.mono hb1.size))⟩
      case rest =>
      clear V0 hb1
      obtain ⟨rfl, V0, hb1⟩ := hcut
      go_wp2
      go_ret
      exact ⟨rfl, hb1⟩
  · by_cases hz : xp = 0
    · have HZ : Hid (decide (xp = 0) = true) := Lib.hid (decide_eq_true hz)
      have hs : (Fq.mk false xp xq).sgn = 0 := by unfold Fq.sgn; rw [if_pos hz]
      rw [hs]
      clear hz hs
      obtain ⟨a0, c0, b0, d0, rfl, m0, k0⟩ := boxF ha
      clear ha
      go_enter Tryz.func62, Tryz.ntmps62
      go_upto_region 0 with (fail)
      go_cut [1, 2] (fun s_1 s_2 wx => s_1 = Value.pointer (some ⟨w.heap.size, 0, none⟩) ∧ s_2 = Value.int IntKind.i64 0 ∧ VarQ wx w.heap.size (Fq.mk false xp xq) ∧ Below w.heap.size w wx)
      case first =>
        go_wp2_with fail
        go_meet
        case rel => exact ⟨rfl, rfl, k0, m0⟩
      case rest =>
      clear m0 k0
      obtain ⟨rfl, rfl, V0, hb1⟩ := hcut
      go_upto_region 1 with (fail)
      go_cut [4] (fun s_4 wx => s_4 = Value.agg #[Value.bool false, Value.bool true] ∧ VarQ wx w.heap.size (Fq.mk false xp xq) ∧ Below w.heap.size w wx)
      case first =>
        refine wp_tabGF Tryz.f62 1 (fSignT7 xp xq) [] (fun _ => false) 2 0 (by kernel_rfl) (by kernel_rfl) (by kernel_rfl) (by kernel_rfl) (by kernel_rfl) (EachX.of_all (fun _ h => by cases h) _) ?_ ?_
        · refine ⟨fun _ _ F => gR rfl rfl (arm_loadF rfl (F.k 1 (Value.pointer (some ⟨w.heap.size, 0, none⟩))) (V0.mono F.below)).b, ?_⟩
          refine ⟨fun _ _ F => gR rfl rfl (arm_C1 rfl (enters Tryz.func86 rfl rfl) (F.f 0 rfl) (fun va w h1 => c_mark va (Fq.mk false xp xq) w h1 bp HZ.out) (fun _ _ h => ofV h)).b, ?_⟩
          exact trivial
        intro E' hE gp wp bp G Gs
        obtain rfl : E' = [] := by simpa [subs] using hE
        have e_1 : gp 1 = Value.agg #[Value.bool false, Value.bool true] := G 1 4 _ (by simp) rfl
        clear G Gs hE
        simp only [fSignT7]
        simp only [qA, setD, qZ, qS, e_1]
        refine wpAny_done (by kernel_rfl) ?_ _
        go_wp2_with fail
        go_meet
        case rel => exact ⟨rfl, (V0.mono bp), (hb1.trans (bp.mono hb1.size))⟩
      case rest =>
      clear V0 hb1
      obtain ⟨rfl, V0, hb1⟩ := hcut
      go_upto_region 2 with (fail)
      go_cut [5] (fun s_5 wx => s_5 = Value.bool true ∧ VarQ wx w.heap.size (Fq.mk false xp xq) ∧ Below w.heap.size w wx)
      case first =>
        refine wp_tabGF Tryz.f62 2 (fSignT8 ) [] (fun _ => false) 3 0 (by kernel_rfl) (by kernel_rfl) (by kernel_rfl) (by kernel_rfl) (by kernel_rfl) (EachX.of_all (fun _ h => by cases h) _) ?_ ?_
        · refine ⟨fun _ _ F => gR rfl rfl (arm_buildS1 rfl Is.const).b, ?_⟩
          refine ⟨fun _ _ F => gR rfl rfl (arm_bin rfl (F.k 4 (Value.agg #[Value.bool false, Value.bool true])) (F.f 0 rfl) (fun w => guard_eqSS _ _ _ _ w) (fun w => run_eqSS _ _ _ _ w)).b, ?_⟩
          refine ⟨fun _ _ F => gR rfl rfl (arm_move (.inr rfl) (F.f 1 rfl)).b, ?_⟩
          exact trivial
        intro E' hE gp wp bp G Gs
        obtain rfl : E' = [] := by simpa [subs] using hE
        have e_2 : gp 2 = Value.bool true := G 2 5 _ (by simp) rfl
        clear G Gs hE
        simp only [fSignT8]
        simp only [qA, setD, qZ, qS, e_2]
        refine wpAny_done (by kernel_rfl) ?_ _
        go_wp2_with fail
        go_meet
        case rel => exact ⟨rfl, (V0.mono bp), (hb1.trans (bp.mono hb1.size))⟩
      case rest =>
      clear V0 hb1
      obtain ⟨rfl, V0, hb1⟩ := hcut
      go_wp2
      go_ret
      exact ⟨rfl, hb1⟩
    · have HZ : Hid (decide (xp = 0) = false) := Lib.hid (decide_eq_false hz)
      have hs : (Fq.mk false xp xq).sgn = 1 := by unfold Fq.sgn; rw [if_neg hz]; rfl
      rw [hs]
      clear hz hs
      obtain ⟨a0, c0, b0, d0, rfl, m0, k0⟩ := boxF ha
      clear ha
      go_enter Tryz.func62, Tryz.ntmps62
      go_upto_region 0 with (fail)
      go_cut [1, 2] (fun s_1 s_2 wx => s_1 = Value.pointer (some ⟨w.heap.size, 0, none⟩) ∧ s_2 = Value.int IntKind.i64 0 ∧ VarQ wx w.heap.size (Fq.mk false xp xq) ∧ Below w.heap.size w wx)
      case first =>
        go_wp2_with fail
        go_meet
        case rel => exact ⟨rfl, rfl, k0, m0⟩
      case rest =>
      clear m0 k0
      obtain ⟨rfl, rfl, V0, hb1⟩ := hcut
      go_upto_region 1 with (fail)
      go_cut [4] (fun s_4 wx => s_4 = Value.agg #[Value.bool false, Value.bool false] ∧ VarQ wx w.heap.size (Fq.mk false xp xq) ∧ Below w.heap.size w wx)
      case first =>
        refine wp_tabGF Tryz.f62 1 (fSignT9 xp xq) [] (fun _ => false) 2 0 (by kernel_rfl) (by kernel_rfl) (by kernel_rfl) (by kernel_rfl) (by kernel_rfl) (EachX.of_all (fun _ h => by cases h) _) ?_ ?_
        · refine ⟨fun _ _ F => gR rfl rfl (arm_loadF rfl (F.k 1 (Value.pointer (some ⟨w.heap.size, 0, none⟩))) (V0.mono F.below)).b, ?_⟩
          refine ⟨fun _ _ F => gR rfl rfl (arm_C1 rfl (enters Tryz.func86 rfl rfl) (F.f 0 rfl) (fun va w h1 => c_mark va (Fq.mk false xp xq) w h1 bp HZ.out) (fun _ _ h => ofV h)).b, ?_⟩
          exact trivial
        intro E' hE gp wp bp G Gs
        obtain rfl : E' = [] := by simpa [subs] using hE
        have e_1 : gp 1 = Value.agg #[Value.bool false, Value.bool false] := G 1 4 _ (by simp) rfl
        clear G Gs hE
        simp only [fSignT9]
        simp only [qA, setD, qZ, qS, e_1]
        refine wpAny_done (by kernel_rfl) ?_ _
        go_wp2_with fail
        go_meet
        case rel => exact ⟨rfl, (V0.mono bp), (hb1.trans (bp.mono hb1.size))⟩
      case rest =>
      clear V0 hb1
      obtain ⟨rfl, V0, hb1⟩ := hcut
      go_upto_region 2 with (fail)
      go_cut [5] (fun s_5 wx => s_5 = Value.bool false ∧ VarQ wx w.heap.size (Fq.mk false xp xq) ∧ Below w.heap.size w wx)
      case first =>
        refine wp_tabGF Tryz.f62 2 (fSignT10 ) [] (fun _ => false) 3 0 (by kernel_rfl) (by kernel_rfl) (by kernel_rfl) (by kernel_rfl) (by kernel_rfl) (EachX.of_all (fun _ h => by cases h) _) ?_ ?_
        · refine ⟨fun _ _ F => gR rfl rfl (arm_buildS1 rfl Is.const).b, ?_⟩
          refine ⟨fun _ _ F => gR rfl rfl (arm_bin rfl (F.k 4 (Value.agg #[Value.bool false, Value.bool false])) (F.f 0 rfl) (fun w => guard_eqSS _ _ _ _ w) (fun w => run_eqSS _ _ _ _ w)).b, ?_⟩
          refine ⟨fun _ _ F => gR rfl rfl (arm_move (.inr rfl) (F.f 1 rfl)).b, ?_⟩
          exact trivial
        intro E' hE gp wp bp G Gs
        obtain rfl : E' = [] := by simpa [subs] using hE
        have e_2 : gp 2 = Value.bool false := G 2 5 _ (by simp) rfl
        clear G Gs hE
        simp only [fSignT10]
        simp only [qA, setD, qZ, qS, e_2]
        refine wpAny_done (by kernel_rfl) ?_ _
        go_wp2_with fail
        go_meet
        case rel => exact ⟨rfl, (V0.mono bp), (hb1.trans (bp.mono hb1.size))⟩
      case rest =>
      clear V0 hb1
      obtain ⟨rfl, V0, hb1⟩ := hcut
      go_upto_region 3 with (fail)
      go_cut [5] (fun s_5 wx => s_5 = Value.bool false ∧ VarQ wx w.heap.size (Fq.mk false xp xq) ∧ Below w.heap.size w wx)
      case first =>
        refine wp_tabGF Tryz.f62 3 (fSignT11 ) [] (fun _ => false) 3 0 (by kernel_rfl) (by kernel_rfl) (by kernel_rfl) (by kernel_rfl) (by kernel_rfl) (EachX.of_all (fun _ h => by cases h) _) ?_ ?_
        · refine ⟨fun _ _ F => gR rfl rfl (arm_buildS2 rfl Is.const Is.const).b, ?_⟩
          refine ⟨fun _ _ F => gR rfl rfl (arm_bin rfl (F.k 4 (Value.agg #[Value.bool false, Value.bool false])) (F.f 0 rfl) (fun w => guard_eqSS _ _ _ _ w) (fun w => run_eqSS _ _ _ _ w)).b, ?_⟩
          refine ⟨fun _ _ F => gR rfl rfl (arm_move (.inr rfl) (F.f 1 rfl)).b, ?_⟩
          exact trivial
        intro E' hE gp wp bp G Gs
        obtain rfl : E' = [] := by simpa [subs] using hE
        have e_2 : gp 2 = Value.bool false := G 2 5 _ (by simp) rfl
        clear G Gs hE
        simp only [fSignT11]
        simp only [qA, setD, qZ, qS, e_2]
        refine wpAny_done (by kernel_rfl) ?_ _
        go_wp2_with fail
        go_meet
        case rel => exact ⟨rfl, (V0.mono bp), (hb1.trans (bp.mono hb1.size))⟩
      case rest =>
      clear V0 hb1
      obtain ⟨rfl, V0, hb1⟩ := hcut
      go_upto_region 5 with (fail)
      go_cut [10] (fun s_10 wx => s_10 = Value.bool false ∧ VarQ wx w.heap.size (Fq.mk false xp xq) ∧ Below w.heap.size w wx)
      case first =>
        refine wp_tabGF Tryz.f62 5 (fSignT12 ) [] (fun _ => false) 3 0 (by kernel_rfl) (by kernel_rfl) (by kernel_rfl) (by kernel_rfl) (by kernel_rfl) (EachX.of_all (fun _ h => by cases h) _) ?_ ?_
        · refine ⟨fun _ _ F => gR rfl rfl (arm_buildS0 rfl Is.const).b, ?_⟩
          refine ⟨fun _ _ F => gR rfl rfl (arm_bin rfl (F.k 4 (Value.agg #[Value.bool false, Value.bool false])) (F.f 0 rfl) (fun w => guard_eqSS _ _ _ _ w) (fun w => run_eqSS _ _ _ _ w)).b, ?_⟩
          refine ⟨fun _ _ F => gR rfl rfl (arm_move (.inr rfl) (F.f 1 rfl)).b, ?_⟩
          exact trivial
        intro E' hE gp wp bp G Gs
        obtain rfl : E' = [] := by simpa [subs] using hE
        have e_2 : gp 2 = Value.bool false := G 2 10 _ (by simp) rfl
        clear G Gs hE
        simp only [fSignT12]
        simp only [qA, setD, qZ, qS, e_2]
        refine wpAny_done (by kernel_rfl) ?_ _
        go_wp2_with fail
        go_meet
        case rel => exact ⟨rfl, (V0.mono bp), (hb1.trans (bp.mono hb1.size))⟩
      case rest =>
      clear V0 hb1
      obtain ⟨rfl, V0, hb1⟩ := hcut
      go_wp2
      go_ret
      exact ⟨rfl, hb1⟩
end Go.Proofs.YtfhinmdhjlmikaaGreatDoor
namespace Go.Proofs.YtfhinmdhjlmikaaGreatDoor
set_option linter.unusedSimpArgs false
set_option linter.unusedVariables false
set_option maxRecDepth 100000
open Go.RowKit
/-- The fraction of an integer; of two. -/
def Fq.ofInt (v : Int) : Fq := ⟨decide (v < 0), v.natAbs, 1⟩
def Fq.lerp (x y t : Fq) : Fq := x.add (t.mul (y.sub x))
theorem nl_abs {v : Int} (lv : -9223372036854775808 ≤ v) (rv : v < 9223372036854775808) : nl v.natAbs ≤ 2 := nl_le_iff.2 (by show v.natAbs < 18446744073709551616; omega)
theorem Fq.ok.lerp {x y t : Fq} (h : x.ok 100000000) (k : y.ok 100000000) (l : t.ok 100000000) : (x.lerp y t).ok 10000000000 := (h.add (l.mul (k.sub h))).mono (by decide)
def fCmpT0 (x : Fq) (y : Fq) : List (Nat × Tmp × Sp) :=
   [(0, 5, .fq x),
    (1, 6, .fq y),
    (2, 7, .fq (x.sub y)),
    (3, 8, .val (Value.int IntKind.i64 (x.sub y).sgn)),
    (4, 4, .val (Value.int IntKind.i64 (x.sub y).sgn))]
set_option maxHeartbeats 4000000 in
theorem q_fCmp (va vb : Value) (x y : Fq) (w : World) (ha : IsQ w va x) (hb : IsQ w vb y) (h : x.ok 1000000000) (k : y.ok 1000000000) :
    Calls Tryz.prog 40 #[va, vb] w fun e w' => RetV w (.int .i64 (x.cmp y)) e w' := by
  obtain ⟨a0, c0, b0, d0, rfl, m0, k0⟩ := boxF ha
  obtain ⟨a1, c1, b1, d1, rfl, m1, k1⟩ := boxF (hb.mono m0)
  rw [World.size_alloc ] at k1
  have n1 := m0.trans (m1.mono m0.size)
  clear ha hb
  go_enter Tryz.func40, Tryz.ntmps40
  go_upto_region 0 with (fail)
  go_cut [2, 3, 4] (fun s_2 s_3 s_4 wx => s_2 = Value.pointer (some ⟨w.heap.size, 0, none⟩) ∧ s_3 = Value.pointer (some ⟨w.heap.size + 1, 0, none⟩) ∧ s_4 = Value.int IntKind.i64 0 ∧ VarQ wx w.heap.size x ∧ VarQ wx (w.heap.size + 1) y ∧ Below w.heap.size w wx)
  case first =>
    go_wp2_with fail
    go_meet
    case rel => exact ⟨rfl, rfl, rfl, (k0.mono m1), k1, n1⟩
  case rest =>
  clear m0 k0 m1 k1 n1
  obtain ⟨rfl, rfl, rfl, V0, V1, hb1⟩ := hcut
  go_upto_region 1 with (fail)
  go_cut [4] (fun s_4 wx => s_4 = Value.int IntKind.i64 (x.sub y).sgn ∧ VarQ wx w.heap.size x ∧ VarQ wx (w.heap.size + 1) y ∧ Below w.heap.size w wx)
  case first =>
    refine wp_tabGF Tryz.f40 1 (fCmpT0 x y) [] (fun _ => false) 4 0 (by kernel_rfl) (by kernel_rfl) (by kernel_rfl) (by kernel_rfl) (by kernel_rfl) (EachX.of_all (fun _ h => by cases h) _) ?_ ?_
    · refine ⟨fun _ _ F => gR rfl rfl (arm_loadF rfl (F.k 2 (Value.pointer (some ⟨w.heap.size, 0, none⟩))) (V0.mono F.below)).b, ?_⟩
      refine ⟨fun _ _ F => gR rfl rfl (arm_loadF rfl (F.k 3 (Value.pointer (some ⟨w.heap.size + 1, 0, none⟩))) (V1.mono F.below)).b, ?_⟩
      refine ⟨fun _ _ F => gR rfl rfl (arm_C2 rfl (enters Tryz.func32 rfl rfl) (F.f 0 rfl) (F.f 1 rfl) (fun va vb w h1 h2 => q_fSub va vb x y w h1 h2 h k) (fun _ _ h => ofQ h)).b, ?_⟩
      refine ⟨fun _ _ F => gR rfl rfl (arm_C1 rfl (enters Tryz.func62 rfl rfl) (F.f 2 rfl) (fun va w h1 => q_fSign va (x.sub y) w h1 ((h.sub k).mono (by decide))) (fun _ _ h => ofV h)).b, ?_⟩
      refine ⟨fun _ _ F => gR rfl rfl (arm_move (.inr rfl) (F.f 3 rfl)).b, ?_⟩
      exact trivial
    intro E' hE gp wp bp G Gs
    obtain rfl : E' = [] := by simpa [subs] using hE
    have e_4 : gp 4 = Value.int IntKind.i64 (x.sub y).sgn := G 4 4 _ (by simp) rfl
    clear G Gs hE
    simp only [fCmpT0]
    simp only [qA, setD, qZ, qS, e_4]
    refine wpAny_done (by kernel_rfl) ?_ _
    go_wp2_with fail
    go_meet
    case rel => exact ⟨rfl, (V0.mono bp), (V1.mono bp), (hb1.trans (bp.mono hb1.size))⟩
  case rest =>
  clear V0 V1 hb1
  obtain ⟨rfl, V0, V1, hb1⟩ := hcut
  go_wp2
  go_ret
  exact ⟨rfl, hb1⟩
def fIntT0 (v : Int) : List (Nat × Tmp × Sp) :=
   [(0, 3, .val (Value.int IntKind.i64 v)),
    (1, 4, .val (Value.bool (decide (v < 0)))),
    (2, 5, .val (Value.int IntKind.i64 v)),
    (3, 6, .nat (v.natAbs)),
    (4, 7, .nat (1)),
    (5, 8, .fq (Fq.mk (decide (v < 0)) v.natAbs 1))]
set_option maxHeartbeats 4000000 in
theorem q_fInt (v : Int) (w : World) (lv : -9223372036854775808 ≤ v) (rv : v < 9223372036854775808) :
    Calls Tryz.prog 45 #[.int .i64 v] w fun e w' => RetQ w (Fq.ofInt v) e w' := by
  obtain ⟨m0, k0⟩ := resF (w := w)
  go_enter Tryz.func45, Tryz.ntmps45
  go_upto_region 0 with (fail)
  go_cut [2] (fun s_2 wx => s_2 = Value.pointer (some ⟨w.heap.size, 0, none⟩) ∧ VarFB wx w.heap.size false none 0 0 none 0 0 ∧ Below w.heap.size w wx)
  case first =>
    go_wp2_with fail
    go_meet
    case rel => exact ⟨rfl, k0, m0⟩
  case rest =>
  clear m0 k0
  obtain ⟨rfl, V0, hb1⟩ := hcut
  go_upto_region 1 with (fail)
  go_cut [] (fun wx => VarQ wx w.heap.size (Fq.mk (decide (v < 0)) v.natAbs 1) ∧ Below w.heap.size w wx)
  case first =>
    refine wp_tabGF Tryz.f45 1 (fIntT0 v) [] (fun _ => false) 5 1 (by kernel_rfl) (by kernel_rfl) (by kernel_rfl) (by kernel_rfl) (by kernel_rfl) (EachX.of_all (fun _ h => by cases h) _) ?_ ?_
    · refine ⟨fun _ _ F => gR rfl rfl (arm_move (.inl rfl) (F.k 0 (Value.int IntKind.i64 v))).b, ?_⟩
      refine ⟨fun _ _ F => gR rfl rfl (arm_bin rfl (F.f 0 rfl) Is.const (fun _ => rfl) (fun w => rfl)).b, ?_⟩
      refine ⟨fun _ _ F => gR rfl rfl (arm_move (.inl rfl) (F.k 0 (Value.int IntKind.i64 v))).b, ?_⟩
      refine ⟨fun _ _ F => gR rfl rfl (arm_C1 rfl (enters Tryz.func65 rfl rfl) (F.f 2 rfl) (fun va w h1 => by have e_va : va = _ := h1; subst e_va; exact c_mag v w lv rv) (fun _ _ h => ofN h)).b, ?_⟩
      refine ⟨fun _ _ F => gR rfl rfl (arm_C1 rfl (enters Tryz.func66 rfl rfl) Is.const (fun va w h1 => by have e_va : va = _ := h1; subst e_va; exact c_natural_Of 1 w (by decide)) (fun _ _ h => ofNew h)).b, ?_⟩
      refine ⟨fun _ _ F => gR rfl rfl (arm_buildF rfl (F.f 1 rfl) (F.f 3 rfl) (F.f 4 rfl)).b, ?_⟩
      exact trivial
    intro E' hE gp wp bp G Gs
    obtain rfl : E' = [] := by simpa [subs] using hE
    have n_5 : (Sp.fq (Fq.mk (decide (v < 0)) v.natAbs 1)).p wp (gp 5) := G 5 8 _ (by simp) rfl
    clear G Gs hE
    simp only [fIntT0]
    simp only [qA, setD, qZ, qS]
    have T0 := (V0.mono bp V0.lt)
    refine wpAny_storeFr (j := 6) (by kernel_rfl) rfl rfl rfl rfl rfl n_5 T0.any ?_
    intro w0 u0 v0
    have O0 := T0.own
    refine wpAny_done (by kernel_rfl) ?_ _
    go_wp2_with fail
    go_meet
    case rel => exact ⟨v0, (Upd.below (hb1.trans (bp.mono hb1.size)) u0 (by omega))⟩
  case rest =>
  clear V0 hb1
  obtain ⟨V0, hb1⟩ := hcut
  obtain ⟨r1, r2, r3, r4, rV, rn, rm⟩ := V0
  have c0 := rV.cell0
  have c1 := rV.cell1
  have c2 := rV.cell2
  go_wp2
  exact bodyPost_ret (res_F rfl rfl rV) rfl ⟨_, rfl, ⟨r1, r2, r3, r4, rfl, rn, rm⟩, hb1⟩
def rIntT0 (v : Int) : List (Nat × Tmp × Sp) :=
   [(0, 3, .val (Value.int IntKind.i64 v)),
    (1, 4, .val (Value.bool (decide (v < 0)))),
    (2, 5, .val (Value.int IntKind.i64 v)),
    (3, 6, .val (Value.int IntKind.u64 ((v.natAbs : Nat) : Int))),
    (4, 7, .nat (v.natAbs)),
    (5, 8, .nat (1)),
    (6, 9, .fq (Fq.mk (decide (v < 0)) v.natAbs 1))]
set_option maxHeartbeats 4000000 in
theorem q_rInt (v : Int) (w : World) (lv : -9223372036854775808 ≤ v) (rv : v < 9223372036854775808) :
    Calls Tryz.prog 27 #[.int .i64 v] w fun e w' => RetQ w (Fq.ofInt v) e w' := by
  obtain ⟨m0, k0⟩ := resF (w := w)
  go_enter Tryz.func27, Tryz.ntmps27
  go_upto_region 0 with (fail)
  go_cut [2] (fun s_2 wx => s_2 = Value.pointer (some ⟨w.heap.size, 0, none⟩) ∧ VarFB wx w.heap.size false none 0 0 none 0 0 ∧ Below w.heap.size w wx)
  case first =>
    go_wp2_with fail
    go_meet
    case rel => exact ⟨rfl, k0, m0⟩
  case rest =>
  clear m0 k0
  obtain ⟨rfl, V0, hb1⟩ := hcut
  go_upto_region 1 with (fail)
  go_cut [] (fun wx => VarQ wx w.heap.size (Fq.mk (decide (v < 0)) v.natAbs 1) ∧ Below w.heap.size w wx)
  case first =>
    refine wp_tabGF Tryz.f27 1 (rIntT0 v) [] (fun _ => false) 6 1 (by kernel_rfl) (by kernel_rfl) (by kernel_rfl) (by kernel_rfl) (by kernel_rfl) (EachX.of_all (fun _ h => by cases h) _) ?_ ?_
    · refine ⟨fun _ _ F => gR rfl rfl (arm_move (.inl rfl) (F.k 0 (Value.int IntKind.i64 v))).b, ?_⟩
      refine ⟨fun _ _ F => gR rfl rfl (arm_bin rfl (F.f 0 rfl) Is.const (fun _ => rfl) (fun w => rfl)).b, ?_⟩
      refine ⟨fun _ _ F => gR rfl rfl (arm_move (.inl rfl) (F.k 0 (Value.int IntKind.i64 v))).b, ?_⟩
      refine ⟨fun _ _ F => gR rfl rfl (arm_C1 rfl (enters Tryz.func49 rfl rfl) (F.f 2 rfl) (fun va w h1 => by have e_va : va = _ := h1; subst e_va; exact c_size v w lv rv) (fun _ _ h => ofV h)).b, ?_⟩
      refine ⟨fun _ _ F => gR rfl rfl (arm_C1 rfl (enters Tryz.func44 rfl rfl) (F.f 3 rfl) (fun va w h1 => by have e_va : va = _ := h1; subst e_va; exact c_ref_Of v.natAbs w (by omega)) (fun _ _ h => ofNew h)).b, ?_⟩
      refine ⟨fun _ _ F => gR rfl rfl (arm_C1 rfl (enters Tryz.func44 rfl rfl) Is.const (fun va w h1 => by have e_va : va = _ := h1; subst e_va; exact c_ref_Of 1 w (by decide)) (fun _ _ h => ofNew h)).b, ?_⟩
      refine ⟨fun _ _ F => gR rfl rfl (arm_buildF rfl (F.f 1 rfl) (F.f 4 rfl) (F.f 5 rfl)).b, ?_⟩
      exact trivial
    intro E' hE gp wp bp G Gs
    obtain rfl : E' = [] := by simpa [subs] using hE
    have n_6 : (Sp.fq (Fq.mk (decide (v < 0)) v.natAbs 1)).p wp (gp 6) := G 6 9 _ (by simp) rfl
    clear G Gs hE
    simp only [rIntT0]
    simp only [qA, setD, qZ, qS]
    have T0 := (V0.mono bp V0.lt)
    refine wpAny_storeFr (j := 7) (by kernel_rfl) rfl rfl rfl rfl rfl n_6 T0.any ?_
    intro w0 u0 v0
    have O0 := T0.own
    refine wpAny_done (by kernel_rfl) ?_ _
    go_wp2_with fail
    go_meet
    case rel => exact ⟨v0, (Upd.below (hb1.trans (bp.mono hb1.size)) u0 (by omega))⟩
  case rest =>
  clear V0 hb1
  obtain ⟨V0, hb1⟩ := hcut
  obtain ⟨r1, r2, r3, r4, rV, rn, rm⟩ := V0
  have c0 := rV.cell0
  have c1 := rV.cell1
  have c2 := rV.cell2
  go_wp2
  exact bodyPost_ret (res_F rfl rfl rV) rfl ⟨_, rfl, ⟨r1, r2, r3, r4, rfl, rn, rm⟩, hb1⟩
end Go.Proofs.YtfhinmdhjlmikaaGreatDoor
namespace Go.Proofs.YtfhinmdhjlmikaaGreatDoor
set_option linter.unusedSimpArgs false
set_option linter.unusedVariables false
set_option maxRecDepth 100000
open Go.RowKit
section
variable {Q : Exit → Act → World → Prop} {o : Oper} {a : Act} {w : World} {x y : Operand} {g m : Nat} {tt : Array TypeId}
theorem arm_index0 (ho : o.op = .indexAddr 100 x y) (hx : Is a w x (.val (.slice (some ⟨g, 0, none⟩) 1 1))) (hy : Is a w y (.val (.int .i64 0))) : Arm Tryz.prog Q o a w (.val (.pointer (some ⟨g, 0, none⟩))) := by
  have hx' : a.eval x = .slice (some ⟨g, 0, none⟩) 1 1 := hx
  have hy' : a.eval y = .int .i64 0 := hy
  refine arm_run _ ?_ rfl
  unfold execOp
  rw [ho]
  simp only [hx', hy']
  go_simp
end
def oneT0 (g : Nat) (m : Nat) (base : Nat) : List (Nat × Tmp × Sp) :=
   [(0, 9, .val (Value.pointer (some ⟨g, 0, none⟩))),
    (1, 10, .nat (m)),
    (2, 4, .var base)]
def oneT1 (m : Nat) : List (Nat × Tmp × Sp) :=
   [(0, 11, .nat (m)),
    (1, 12, .nat (1)),
    (2, 13, .val (Value.int IntKind.i64 0)),
    (3, 14, .val (Value.bool false))]
def oneT2 (m : Nat) (C : Int) : List (Nat × Tmp × Sp) :=
   [(0, 11, .nat (m)),
    (1, 12, .nat (1)),
    (2, 13, .val (Value.int IntKind.i64 C)),
    (3, 14, .val (Value.bool true))]
set_option maxHeartbeats 4000000 in
theorem c_one (g m : Nat) (w : World) (v : VarI w g m) (hm : nl m ≤ 1000000000000) :
    Calls Tryz.prog 74 #[.slice (some ⟨g, 0, none⟩) 1 1] w fun e w' => RetV w (.bool (decide (m = 1))) e w' := by
  have hb1 := Below.refl w.heap.size w
  go_enter Tryz.func74, Tryz.ntmps74
  go_wp2
  go_loopw [7] (fun s7 wr => (s7 = .int .i64 0 ∨ (s7 = .int .i64 1 ∧ Hid (m = 1))) ∧ VarI wr g m ∧ Below w.heap.size w wr) (fun s7 _ => 1 - (intOf s7).toNat)
  case atStart => exact ⟨.inl rfl, v, hb1⟩
  case round =>
    obtain ⟨hk, V, hb1⟩ := hrel
    rcases hk with rfl | ⟨rfl, HM⟩
    · go_upto_region 3 with (fail)
      go_cut [4] from 8 to 15 (fun s_4 wx => ∃ g4, s_4 = Value.pointer (some ⟨g4, 0, none⟩) ∧ w.heap.size + 0 ≤ g4 ∧ VarI wx g4 m ∧ VarI wx g m ∧ Below w.heap.size w wx)
      case first =>
        obtain ⟨base, hbase0⟩ : ∃ b : Nat, Hid (b = wr.heap.size) := ⟨_, Lib.hid rfl⟩
        have hbase : base ≤ wr.heap.size := by rw [hbase0.out]; exact Nat.le_refl _
        have hbw : w.heap.size + 0 ≤ base := by have := hb1.size; rw [hbase0.out]; omega
        have l_V : g < base := by rw [hbase0.out]; exact V.lt
        refine wp_tabGF Tryz.f74 3 (oneT0 g m base) [] (fun i => i == 2) 3 1 (by kernel_rfl) (by kernel_rfl) (by kernel_rfl) (by kernel_rfl) (by kernel_rfl) ⟨fun h => (by cases h), ⟨fun h => (by cases h), ⟨fun _ w v h => Sp.var_lt h, trivial⟩⟩⟩ ?_ ?_
        · refine ⟨fun _ _ F => gR rfl rfl (arm_index0 rfl (F.k 5 (Value.slice (some ⟨g, 0, none⟩) 1 1)) (F.k 7 (Value.int IntKind.i64 0))).b, ?_⟩
          refine ⟨fun _ _ F => gR rfl rfl (arm_load rfl (F.f 0 rfl) (V.mono F.below)).b, ?_⟩
          refine ⟨fun _ _ F => gR rfl rfl (arm_alloc rfl (Nat.le_trans hbase F.below.size)), ?_⟩
          exact trivial
        intro E' hE gp wp bp G Gs
        obtain rfl : E' = [] := by simpa [subs] using hE
        obtain ⟨g4, e_2, lg_2, hv_2⟩ := G 2 4 _ (by simp) rfl
        have n_1 : (Sp.nat (m)).p wp (gp 1) := G 1 10 _ (by simp) rfl
        clear G Gs hE
        simp only [oneT0]
        simp only [qA, setD, qZ, qS, e_2]
        have T0 := hv_2
        refine wpAny_storeN (j := 3) (by kernel_rfl) rfl rfl rfl rfl rfl n_1 T0.any ?_
        intro w0 u0 v0
        have O0 := T0.own
        refine wpAny_done (by kernel_rfl) ?_ _
        go_wp2_with fail
        go_meet
        case rel => exact ⟨g4, rfl, (by omega), v0, ((V.mono bp).upd O0 u0 (by omega)), (Upd.below (hb1.trans (bp.mono hb1.size)) u0 (by omega))⟩
      case rest =>
      clear V hb1
      obtain ⟨g4, rfl, lg4, V4, V, hb1⟩ := hcut
      by_cases h1 : m = 1
      · have hC : cmpI m 1 = 0 := by unfold cmpI; rw [if_neg (by omega), if_neg (by omega)]
        have HC := Lib.hid hC
        have HM := Lib.hid h1
        clear h1 hC
        go_upto_region 4 with (fail)
        go_cut [14] from 8 to 15 (fun s_14 wx => s_14 = Value.bool false ∧ VarI wx g m ∧ VarI wx g4 m ∧ Below w.heap.size w wx)
        case first =>
          refine wp_tabG Tryz.f74 4 (oneT1 m) [] (fun _ => false) 3 0 (by kernel_rfl) (by kernel_rfl) (by kernel_rfl) (by kernel_rfl) (by kernel_rfl) (EachX.of_all (fun _ h => by cases h) _) ?_ ?_
          · refine ⟨fun _ _ F => gR rfl rfl (arm_load rfl (F.k 4 (Value.pointer (some ⟨g4, 0, none⟩))) (V4.mono F.below)).b, ?_⟩
            refine ⟨fun _ _ F => gR rfl rfl (arm_C1 rfl (enters Tryz.func66 rfl rfl) Is.const (fun va w h1 => by have e_va : va = _ := h1; subst e_va; exact c_natural_Of 1 w (by decide)) (fun _ _ h => ofNew h)).b, ?_⟩
            refine ⟨fun _ _ F => gR rfl rfl (arm_C2 rfl (enters Tryz.func93 rfl rfl) (F.f 0 rfl) (F.f 1 rfl) (fun va vb w h1 h2 => c_natural_Cmp va vb m 1 w h1 h2 (Nat.le_trans hm (by decide)) (by decide)) (fun _ _ h => by have h' : RetV _ _ _ _ := h; rw [HC.out] at h'; exact ofV h')).b, ?_⟩
            refine ⟨fun _ _ F => gR rfl rfl (arm_bin rfl (F.f 2 rfl) Is.const (fun _ => rfl) (fun _ => rfl)).b, ?_⟩
            exact trivial
          intro E' hE gp wp bp G Gs
          obtain rfl : E' = [] := by simpa [subs] using hE
          have e_3 : gp 3 = Value.bool false := G 3 14 _ (by simp) rfl
          clear G Gs hE
          simp only [oneT1]
          simp only [qA, setD, qZ, qS, e_3]
          refine wpAny_done (by kernel_rfl) ?_ _
          go_wp2_with fail
          go_meet
          case rel => exact ⟨rfl, (V.mono bp), (V4.mono bp), (hb1.trans (bp.mono hb1.size))⟩
        case rest =>
        clear V V4 hb1
        obtain ⟨rfl, V, V4, hb1⟩ := hcut
        go_wp2_with fail
        go_roundw
        case rel => exact ⟨.inr ⟨rfl, HM⟩, by assumption, by assumption⟩
        case measure => simp [intOf]
      · have hC : (cmpI m 1 != 0) = true := by have h9 : cmpI m 1 ≠ 0 := (by unfold cmpI; split; decide; split; decide; omega); simpa using h9
        obtain ⟨C, HC⟩ : ∃ C : Int, Hid (cmpI m 1 = C) := ⟨_, Lib.hid rfl⟩
        rw [HC.out] at hC
        obtain ⟨B2, hB2⟩ : ∃ B : Bool, Hid (B = (C != 0)) := ⟨_, Lib.hid rfl⟩
        obtain rfl : B2 = true := by rw [hB2.out]; exact hC
        have HM := Lib.hid h1
        clear h1 hC
        go_upto_region 4 with (fail)
        go_cut [14] from 8 to 15 (fun s_14 wx => s_14 = Value.bool true ∧ VarI wx g m ∧ VarI wx g4 m ∧ Below w.heap.size w wx)
        case first =>
          refine wp_tabG Tryz.f74 4 (oneT2 m C) [] (fun _ => false) 3 0 (by kernel_rfl) (by kernel_rfl) (by kernel_rfl) (by kernel_rfl) (by kernel_rfl) (EachX.of_all (fun _ h => by cases h) _) ?_ ?_
          · refine ⟨fun _ _ F => gR rfl rfl (arm_load rfl (F.k 4 (Value.pointer (some ⟨g4, 0, none⟩))) (V4.mono F.below)).b, ?_⟩
            refine ⟨fun _ _ F => gR rfl rfl (arm_C1 rfl (enters Tryz.func66 rfl rfl) Is.const (fun va w h1 => by have e_va : va = _ := h1; subst e_va; exact c_natural_Of 1 w (by decide)) (fun _ _ h => ofNew h)).b, ?_⟩
            refine ⟨fun _ _ F => gR rfl rfl (arm_C2 rfl (enters Tryz.func93 rfl rfl) (F.f 0 rfl) (F.f 1 rfl) (fun va vb w h1 h2 => c_natural_Cmp va vb m 1 w h1 h2 (Nat.le_trans hm (by decide)) (by decide)) (fun _ _ h => by have h' : RetV _ _ _ _ := h; rw [HC.out] at h'; exact ofV h')).b, ?_⟩
            refine ⟨fun _ _ F => gR rfl rfl (arm_bin rfl (F.f 2 rfl) Is.const (fun _ => rfl) (fun w => by rw [hB2.out]; rfl)).b, ?_⟩
            exact trivial
          intro E' hE gp wp bp G Gs
          obtain rfl : E' = [] := by simpa [subs] using hE
          have e_3 : gp 3 = Value.bool true := G 3 14 _ (by simp) rfl
          clear G Gs hE
          simp only [oneT2]
          simp only [qA, setD, qZ, qS, e_3]
          refine wpAny_done (by kernel_rfl) ?_ _
          go_wp2_with fail
          go_meet
          case rel => exact ⟨rfl, (V.mono bp), (V4.mono bp), (hb1.trans (bp.mono hb1.size))⟩
        case rest =>
        clear V V4 hb1
        obtain ⟨rfl, V, V4, hb1⟩ := hcut
        go_wp2
        go_ret
        exact ⟨by rw [decide_eq_false HM.out]; rfl, hb1⟩
    · go_wp2
      go_ret
      exact ⟨by rw [decide_eq_true HM.out]; rfl, hb1⟩
end Go.Proofs.YtfhinmdhjlmikaaGreatDoor
