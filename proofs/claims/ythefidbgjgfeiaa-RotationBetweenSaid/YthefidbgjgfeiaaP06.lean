/- Fractions: stores, the operations of tables. lowest of package fraction. Make of package fraction. Make of the reference. Fractions as arguments; the reference's Same, Sign; operations of tables. Mul, Neg of package fraction; Neg of the reference. -/
import Derived.Test.YthefidbgjgfeiaaP05
namespace Go.Proofs.Ythefidbgjgfeiaa
set_option linter.unusedSimpArgs false
set_option linter.unusedVariables false
set_option maxRecDepth 100000
open Go.RowKit
/-- The fraction variable g is written. -/
def putF (w : World) (g : Nat) (s : Bool) (a : Option Addr) (L c : Nat) (b : Option Addr) (M d : Nat) : World :=
  ((w.setCell ⟨g, 0, none⟩ (.bool s)).setCell ⟨g, 1, none⟩ (.slice a L c)).setCell ⟨g, 2, none⟩ (.slice b M d)
section
variable {w : World} {g L c M d L' c' M' d' : Nat} {s s' : Bool} {a b a' b' : Option Addr}
theorem VarFB.put (h : VarFB w g s a L c b M d) : VarFB (putF w g s' a' L' c' b' M' d') g s' a' L' c' b' M' d' := by
  have h1 := heap_setCell_same w g 0 _ _ (.bool s') h
  have h2 := heap_setCell_same _ g 1 _ _ (.slice a' L' c') h1
  have h3 := heap_setCell_same _ g 2 _ _ (.slice b' M' d') h2
  exact h3
theorem putF_heap {k : Nat} (hk : k ≠ g) : (putF w g s a L c b M d).heap[k]? = w.heap[k]? := by
  unfold putF
  rw [Below.heap_setCell _ _ _ k hk, Below.heap_setCell _ _ _ k hk, Below.heap_setCell _ _ _ k hk]
theorem putF_below {W : World} {B : Nat} (hb : Below B W w) (hg : B ≤ g) : Below B W (putF w g s a L c b M d) :=
  ((hb.setCell (p := ⟨g, 0, none⟩) hg _).setCell (p := ⟨g, 1, none⟩) hg _).setCell (p := ⟨g, 2, none⟩) hg _
theorem VarFB.ne (h : VarFB w g s a L c b M d) {k o : Nat} {x : Int} {ki : IntKind} (hd : w.cell? ⟨k, o, none⟩ = some (.int ki x)) : k ≠ g := by
  rintro rfl
  rw [cell_of_row w k o _ _ (0, 0) h] at hd
  match o, hd with
  | 0, hd => cases hd
  | 1, hd => cases hd
  | 2, hd => cases hd
  | (o + 3), hd => simp at hd
theorem IsN.putF {v : Value} {N : Nat} (h : IsN w v N) (hg : VarFB w g s a L c b M d) : IsN (putF w g s' a' L' c' b' M' d') v N := by
  obtain ⟨x, cap, rfl, hc, hx⟩ := h
  refine ⟨x, cap, rfl, hc, hx.lt, fun hL => ?_⟩
  obtain ⟨k, off, rfl, hd⟩ := hx.cells hL
  have hne : k ≠ g := hg.ne (by simpa using hd 0 hL)
  refine ⟨k, off, rfl, fun j hj => ?_⟩
  rw [World.cell?_of_block (putF_heap (by simpa using hne))]; exact hd j hj
theorem IsF.putF {v : Value} {t : Bool} {p q : Nat} (h : IsF w v t p q) (hg : VarFB w g s a L c b M d) : IsF (putF w g s' a' L' c' b' M' d') v t p q := by
  obtain ⟨x, cx, y, cy, rfl, h1, h2⟩ := h; exact ⟨x, cx, y, cy, rfl, h1.putF hg, h2.putF hg⟩
theorem run_storeF {a : Option Addr} (h : VarFB w g s a L c b M d) : (Instr.storeAt 30 (.pointer (some ⟨g, 0, none⟩)) (.agg #[.bool s', .slice a' L' c', .slice b' M' d'])).run Try.prog w = .ok () (Go.Proofs.Ythefidbgjgfeiaa.putF w g s' a' L' c' b' M' d') := by
  have c0 := h.cell0
  have c1 := h.cell1
  have c2 := h.cell2
  have f0 := h.frozen 0
  have f1 := h.frozen 1
  have f2 := h.frozen 2
  unfold Go.Proofs.Ythefidbgjgfeiaa.putF
  go_simp
end
theorem res_F {fn : Func} {p : Tmp} (h : fn.results = #[.cell p 30]) {tmps : Array Value} {w : World} {g L c M d : Nat} {s : Bool} {a b : Option Addr}
    (hp : tmps[p]? = some (.pointer (some ⟨g, 0, none⟩))) (hv : VarFB w g s a L c b M d) : (results fn tmps).run Try.prog w = .ok (.agg #[.bool s, .slice a L c, .slice b M d]) w := by
  have c0 := hv.cell0
  have c1 := hv.cell1
  have c2 := hv.cell2
  simp [results, h, hp, asAddr, loadVar, go_sem, c0, c1, c2]
section
variable {Q : Exit → Act → World → Prop} {o : Oper} {a : Act} {w : World} {x y z : Operand} {m n p q g : Nat} {s : Bool} {tt : Array TypeId}
theorem arm_isZero (ho : o.op = .call { callee := .value (.func 76), args := #[x], argTypes := tt }) (hx : Is a w x (.nat m)) (hm : nl m ≤ 1000000000000) {b : Bool} (hb : decide (m = 0) = b) : Arm Try.prog Q o a w (.val (.bool b)) := by
  subst hb
  exact arm_one ho (enters Try.func76 rfl rfl) hx (R := fun w => RetV w (.bool (decide (m = 0)))) (fun va w h1 => c_isZero va m w h1 hm) (fun _ _ h => ofV h)
theorem arm_zero (ho : o.op = .call { callee := .value (.func 62), args := #[x], argTypes := tt }) (hx : Is a w x (.nat m)) (hm : nl m ≤ 1000000000000) {b : Bool} (hb : decide (m = 0) = b) : Arm Try.prog Q o a w (.val (.bool b)) := by
  subst hb
  exact arm_one ho (enters Try.func62 rfl rfl) hx (R := fun w => RetV w (.bool (decide (m = 0)))) (fun va w h1 => c_zero va m w h1 hm) (fun _ _ h => ofV h)
theorem arm_buildF (ho : o.op = .build 30 #[(0, x), (1, y), (2, z)]) (hx : Is a w x (.val (.bool s))) (hy : Is a w y (.nat p)) (hz : Is a w z (.nat q)) : Arm Try.prog Q o a w (.fr s p q) := by
  have hx' : a.eval x = .bool s := hx
  obtain ⟨ay, cy, ey⟩ := IsN.shape hy
  obtain ⟨az, cz, ez⟩ := IsN.shape hz
  have hy' : IsN w (a.eval y) p := hy
  have hz' : IsN w (a.eval z) q := hz
  rw [ey] at hy'
  rw [ez] at hz'
  refine arm_run (.agg #[.bool s, .slice ay (nl p) cy, .slice az (nl q) cz]) ?_ ⟨ay, cy, az, cz, rfl, hy', hz'⟩
  unfold execOp
  rw [ho]
  simp only [List.map_toArray, List.map_cons, List.map_nil, hx', ey, ez]
  go_simp
theorem arm_fieldF {k : Nat} {u : Value} (ho : o.op = .fieldAddr 30 x k) (hx : Is a w x (.val (.pointer (some ⟨g, 0, none⟩)))) (hr : ∀ w : World, (Instr.fieldAt 30 (.pointer (some ⟨g, 0, none⟩)) k).run Try.prog w = .ok u w) : Arm Try.prog Q o a w (.val u) := by
  have hx' : a.eval x = .pointer (some ⟨g, 0, none⟩) := hx
  refine arm_run u ?_ rfl
  unfold execOp
  rw [ho]
  simp only [hx', Sem.run_bind, hr, Result.andThen, Sem.run_pure]
theorem run_field0 (g : Nat) (w : World) : (Instr.fieldAt 30 (.pointer (some ⟨g, 0, none⟩)) 0).run Try.prog w = .ok (.pointer (some ⟨g, 0, none⟩)) w := by go_simp
theorem run_field1 (g : Nat) (w : World) : (Instr.fieldAt 30 (.pointer (some ⟨g, 0, none⟩)) 1).run Try.prog w = .ok (.pointer (some ⟨g, 1, none⟩)) w := by go_simp
theorem run_field2 (g : Nat) (w : World) : (Instr.fieldAt 30 (.pointer (some ⟨g, 0, none⟩)) 2).run Try.prog w = .ok (.pointer (some ⟨g, 2, none⟩)) w := by go_simp
theorem run_loadB (h : VarF w g s p q) : (Instr.loadAt 4 (.pointer (some ⟨g, 0, none⟩))).run Try.prog w = .ok (.bool s) w := by
  obtain ⟨a, c, b, d, h, _, _⟩ := h
  have c0 := h.cell0
  go_simp
theorem run_loadN (g k L c : Nat) (b : Option Addr) (w : World) (h : w.cell? ⟨g, k, none⟩ = some (.slice b L c)) : (Instr.loadAt 28 (.pointer (some ⟨g, k, none⟩))).run Try.prog w = .ok (.agg #[.slice b L c]) w := by go_simp
theorem arm_loadS (ho : o.op = .load 4 x) (hx : Is a w x (.val (.pointer (some ⟨g, 0, none⟩)))) (h : VarF w g s p q) : Arm Try.prog Q o a w (.val (.bool s)) := by
  have hx' : a.eval x = .pointer (some ⟨g, 0, none⟩) := hx
  refine arm_run _ ?_ rfl
  unfold execOp
  rw [ho]
  simp only [hx', Sem.run_bind, run_loadB h, Result.andThen, Sem.run_pure]
theorem arm_load1 (ho : o.op = .load 28 x) (hx : Is a w x (.val (.pointer (some ⟨g, 1, none⟩)))) (h : VarF w g s p q) : Arm Try.prog Q o a w (.nat p) := by
  obtain ⟨b, c, b', d, h, h1, h2⟩ := h
  have hx' : a.eval x = .pointer (some ⟨g, 1, none⟩) := hx
  refine arm_run _ ?_ h1
  unfold execOp
  rw [ho]
  simp only [hx', Sem.run_bind, run_loadN _ _ _ _ _ w h.cell1, Result.andThen, Sem.run_pure]
theorem arm_load2 (ho : o.op = .load 28 x) (hx : Is a w x (.val (.pointer (some ⟨g, 2, none⟩)))) (h : VarF w g s p q) : Arm Try.prog Q o a w (.nat q) := by
  obtain ⟨b, c, b', d, h, h1, h2⟩ := h
  have hx' : a.eval x = .pointer (some ⟨g, 2, none⟩) := hx
  refine arm_run _ ?_ h2
  unfold execOp
  rw [ho]
  simp only [hx', Sem.run_bind, run_loadN _ _ _ _ _ w h.cell2, Result.andThen, Sem.run_pure]
theorem run_loadF (g L c M d : Nat) (s : Bool) (a b : Option Addr) (w : World) (h : VarFB w g s a L c b M d) : (Instr.loadAt 30 (.pointer (some ⟨g, 0, none⟩))).run Try.prog w = .ok (.agg #[.bool s, .slice a L c, .slice b M d]) w := by
  have c0 := h.cell0
  have c1 := h.cell1
  have c2 := h.cell2
  go_simp
theorem arm_loadF (ho : o.op = .load 30 x) (hx : Is a w x (.val (.pointer (some ⟨g, 0, none⟩)))) (h : VarF w g s p q) : Arm Try.prog Q o a w (.fr s p q) := by
  obtain ⟨b, c, b', d, h, h1, h2⟩ := h
  have hx' : a.eval x = .pointer (some ⟨g, 0, none⟩) := hx
  refine arm_run _ ?_ ⟨b, c, b', d, rfl, h1, h2⟩
  unfold execOp
  rw [ho]
  simp only [hx', Sem.run_bind, run_loadF _ _ _ _ _ _ _ _ w h, Result.andThen, Sem.run_pure]
end
/-- The store of a fraction that is left. -/
theorem wpAny_storeF {Q : Exit → Act → World → Prop} {md : Region.Mode} {ops : Array Oper} {o : Oper} {a : Act} {w : World} {j fuel : Nat} {listed : Array Bool} {x y : Operand} {g L c M d L' c' M' d' : Nat} {s s' : Bool} {u u' v v' : Option Addr}
    (hr : Region.ready md ops listed = [j]) (ho : ops[j]? = some o) (hop : o.op = .store 30 x y) (hg : o.guard = none) (hd : o.dst = none)
    (hx : a.eval x = .pointer (some ⟨g, 0, none⟩)) (hy : a.eval y = .agg #[.bool s', .slice u' L' c', .slice v' M' d']) (hv : VarFB w g s u L c v M d) (h : wpAny Try.prog md ops Q fuel (listed.setIfInBounds j true) a (putF w g s' u' L' c' v' M' d')) :
    wpAny Try.prog md ops Q (fuel + 1) listed a w := by
  refine wpAny_ready hr (by simp) (AllReady.cons ho (fun K hK => ?_) AllReady.nil)
  rw [if_pos (wanted_none hg)]
  unfold Oper.wp execOp
  rw [hop]
  simp only [hx, hy, Sem.run_bind, run_storeF hv, Result.andThen, Sem.run_pure, Oper.upon_skip]
  rw [hd]
  exact hK _ _ h
theorem res_FE {fn : Func} {p q : Tmp} (h : fn.results = #[.cell p 30, .tmp q]) {tmps : Array Value} {w : World} {g L c M d : Nat} {s : Bool} {a b : Option Addr} {u : Value}
    (hp : tmps[p]? = some (.pointer (some ⟨g, 0, none⟩))) (hq : tmps[q]? = some u) (hv : VarFB w g s a L c b M d) : (results fn tmps).run Try.prog w = .ok (.tuple #[.agg #[.bool s, .slice a L c, .slice b M d], u]) w := by
  have c0 := hv.cell0
  have c1 := hv.cell1
  have c2 := hv.cell2
  simp [results, h, hp, hq, asAddr, loadVar, go_sem, c0, c1, c2]
/-- The end of a contract that hands back a fraction and an error's number. -/
def RetFE (W : World) (s : Bool) (p q : Nat) (c : Int) (e : Ending) (w' : World) : Prop := ∃ v, e = .returned (.tuple #[v, .int .i64 c]) ∧ IsF w' v s p q ∧ Below W.heap.size W w'
theorem IsF.zero (w : World) : IsF w (.agg #[.bool false, .slice none 0 0, .slice none 0 0]) false 0 0 := by
  have h : IsN w (.agg #[.slice none (nl 0) 0]) 0 := by rw [nl_zero]; exact NewN.isN (base := 0) NewN.of_zero
  exact ⟨none, 0, none, 0, by rw [nl_zero], h, h⟩
theorem VarF.of {w : World} {g p q c d : Nat} {s : Bool} {a b : Option Addr} (h : VarFB w g s a (nl p) c b (nl q) d) (h1 : IsN w (.agg #[.slice a (nl p) c]) p) (h2 : IsN w (.agg #[.slice b (nl q) d]) q) : VarF w g s p q := ⟨a, c, b, d, h, h1, h2⟩
end Go.Proofs.Ythefidbgjgfeiaa
namespace Go.Proofs.Ythefidbgjgfeiaa
set_option linter.unusedSimpArgs false
set_option linter.unusedVariables false
set_option maxRecDepth 100000
open Go.RowKit
def lowTabF (g8 g11 Np Nq : Nat) : List (Nat × Tmp × Sp) :=
   [(0, 31, .val (Value.bool false)),
    (1, 32, .val (Value.bool false)),
    (2, 33, .any),
    (3, 34, .any),
    (4, 35, .any),
    (5, 36, .val (Value.bool false)),
    (6, 37, .nat (Np)),
    (7, 38, .nat (Nq)),
    (8, 39, .fr false (Np) (Nq))]
def lowTabZ (g8 g11 Np Nq : Nat) : List (Nat × Tmp × Sp) :=
   [(0, 31, .val (Value.bool true)),
    (1, 32, .val (Value.bool true)),
    (2, 33, .nat (Np)),
    (3, 34, .val (Value.bool true)),
    (4, 35, .val (Value.bool false)),
    (5, 36, .val (Value.bool false)),
    (6, 37, .nat (Np)),
    (7, 38, .nat (Nq)),
    (8, 39, .fr false (Np) (Nq))]
def lowTabT (g8 g11 Np Nq : Nat) : List (Nat × Tmp × Sp) :=
   [(0, 31, .val (Value.bool true)),
    (1, 32, .val (Value.bool true)),
    (2, 33, .nat (Np)),
    (3, 34, .val (Value.bool false)),
    (4, 35, .val (Value.bool true)),
    (5, 36, .val (Value.bool true)),
    (6, 37, .nat (Np)),
    (7, 38, .nat (Nq)),
    (8, 39, .fr true (Np) (Nq))]
theorem nl_div {m g : Nat} (hm : nl m ≤ 10000000000) : nl (m / g) ≤ 1000000000000 := Nat.le_trans (nl_mono (Nat.div_le_self _ _)) (by omega)
set_option maxRecDepth 100000 in
set_option maxHeartbeats 4000000 in
theorem c_lowest (s : Bool) (va vb : Value) (m n : Nat) (w : World) (ha : IsN w va m) (hb : IsN w vb n) (hm : nl m ≤ 10000000000) (hn : nl n ≤ 10000000000) (h0 : n ≠ 0) :
    Calls Try.prog 77 #[.bool s, va, vb] w fun e w' => RetF w (s && !decide (m = 0)) (m / Nat.gcd m n) (n / Nat.gcd m n) e w' := by
  obtain ⟨a, ca, rfl, hca, ra⟩ := ha
  obtain ⟨b, cb, rfl, hcb, rb⟩ := hb
  obtain ⟨k0, k1, k2⟩ := box2 (L := nl m) (c := ca) (N := m) (L2 := nl n) (c2 := cb) (N2 := n) ⟨a, ca, rfl, hca, ra⟩ ⟨b, cb, rfl, hcb, rb⟩
  have k3 := bel1 ((w.alloc (.cells #[.slice a (nl m) ca] 28)).alloc (.cells #[.slice b (nl n) cb] 28)) (.cells #[.bool false, .slice none 0 0, .slice none 0 0] 30)
  have k4 := VarFB.made ((w.alloc (.cells #[.slice a (nl m) ca] 28)).alloc (.cells #[.slice b (nl n) cb] 28)) false none 0 0 none 0 0
  rw [World.size_alloc, World.size_alloc] at k4
  have hm' : nl m ≤ 1000000000000 := by omega
  have hn' : nl n ≤ 1000000000000 := by omega
  obtain ⟨Ng, hg⟩ : ∃ N : Nat, Hid (N = Nat.gcd m n) := ⟨_, Lib.hid rfl⟩
  have hg0 : Ng ≠ 0 := by rw [hg.out]; exact Nat.ne_of_gt (Nat.gcd_pos_of_pos_right m (Nat.pos_of_ne_zero h0))
  have hgn : Ng ≤ n := by rw [hg.out]; exact Nat.gcd_le_right m (Nat.pos_of_ne_zero h0)
  have hg' : nl Ng ≤ 1000000000000 := Nat.le_trans (nl_mono hgn) hn'
  obtain ⟨Np, hp⟩ : ∃ N : Nat, Hid (N = m / Ng) := ⟨_, Lib.hid rfl⟩
  obtain ⟨Nq, hq⟩ : ∃ N : Nat, Hid (N = n / Ng) := ⟨_, Lib.hid rfl⟩
  have hNp' : nl Np ≤ 1000000000000 := by rw [hp.out]; exact nl_div hm
  have hNpz : (Np = 0) = (m = 0) := by
    rw [hp.out, propext_iff]
    constructor
    · intro h
      have h1 : Ng ∣ m := by rw [hg.out]; exact Nat.gcd_dvd_left m n
      obtain ⟨k, hk⟩ := h1
      rw [hk, Nat.mul_div_cancel_left _ (Nat.pos_of_ne_zero hg0)] at h
      rw [hk, h, Nat.mul_zero]
    · intro h; rw [h, Nat.zero_div]
  have HG0 := Lib.hid hg0
  have HPZ := Lib.hid hNpz
  rw [← hg.out, ← hp.out, ← hq.out]
  clear hg0 hNpz h0 hgn
  go_enter Try.func77, Try.ntmps77
  go_upto_region 0 with (fail)
  go_cut [4, 5, 6] (fun s4 s5 s6 wx => s4 = .pointer (some ⟨w.heap.size, 0, none⟩) ∧ s5 = .pointer (some ⟨w.heap.size + 1, 0, none⟩) ∧ s6 = .pointer (some ⟨w.heap.size + 2, 0, none⟩) ∧ VarI wx w.heap.size m ∧ VarI wx (w.heap.size + 1) n ∧ VarFB wx (w.heap.size + 2) false none 0 0 none 0 0 ∧ Below w.heap.size w wx)
  case first =>
    go_wp2_with fail
    go_meet
    case rel => exact ⟨rfl, rfl, rfl, VarR.mono k1 k3, VarR.mono k2 k3, k4, k0.trans (k3.mono k0.size)⟩
  case rest =>
  clear k0 k1 k2 k3 k4 ra rb hca hcb
  obtain ⟨rfl, rfl, rfl, Va, Vb, Vr, hb1⟩ := hcut
  go_upto_region 1 with (fail)
  go_cut [7] (fun s7 wx => ∃ g7, s7 = .pointer (some ⟨g7, 0, none⟩) ∧ VarI wx w.heap.size m ∧ VarI wx (w.heap.size + 1) n ∧ VarI wx g7 Ng ∧ VarFB wx (w.heap.size + 2) false none 0 0 none 0 0 ∧ Below w.heap.size w wx)
  case first =>
    have Va' := Va
    obtain ⟨ya, da, qa, ia⟩ := Va'
    have ea := qa.cell
    have Vb' := Vb
    obtain ⟨yb, db, qb, ib⟩ := Vb'
    have eb := qb.cell
    go_wp2_with fail
    refine (c_natural_Gcd _ _ m n _ ia ib hm' hn').mono ?_
    rintro e w9 ⟨v9, rfl, n9, bb⟩
    rw [← hg.out] at n9
    obtain ⟨x9, c9, rfl, hc9, hx9⟩ := n9
    have v1 := VarB.made w9 x9 (nl Ng) c9
    have n1 : IsN w9 (.agg #[.slice x9 (nl Ng) c9]) Ng := NewN.isN ⟨x9, c9, rfl, hc9, hx9⟩
    have b2 := bel1 w9 (.cells #[.slice x9 (nl Ng) c9] 28)
    have b3 := bb.trans (b2.mono bb.size)
    go_wp2_with fail
    go_meet
    case rel => exact ⟨_, rfl, Va.mono b3, Vb.mono b3, VarI.of v1 (n1.mono b2), Vr.mono b3 Vr.lt, hb1.trans (b3.mono hb1.size)⟩
  case rest =>
  clear Va Vb Vr hb1
  obtain ⟨g7, rfl, Va, Vb, V7, Vr, hb1⟩ := hcut
  go_upto_region 2 with (fail)
  go_cut [8] (fun s8 wx => ∃ g8, s8 = .pointer (some ⟨g8, 0, none⟩) ∧ VarI wx w.heap.size m ∧ VarI wx (w.heap.size + 1) n ∧ VarI wx g7 Ng ∧ VarI wx g8 Np ∧ VarFB wx (w.heap.size + 2) false none 0 0 none 0 0 ∧ Below w.heap.size w wx)
  case first =>
    have Va' := Va
    obtain ⟨ya, da, qa, ia⟩ := Va'
    have ea := qa.cell
    have V7' := V7
    obtain ⟨y7, d7, q7, i7⟩ := V7'
    have e7 := q7.cell
    go_wp2_with fail
    refine (c_natural_DivMod _ _ m Ng _ ia i7 hm' hg' HG0.out).mono ?_
    rintro e w9 ⟨vq, vr, rfl, nq, nr, bb⟩
    rw [← hp.out] at nq
    obtain ⟨Nr, hnr⟩ : ∃ N : Nat, Hid (N = m % Ng) := ⟨_, Lib.hid rfl⟩
    rw [← hnr.out] at nr
    obtain ⟨xq, cq, rfl, hcq, hxq⟩ := nq
    obtain ⟨xr, cr, rfl, hcr, hxr⟩ := nr
    obtain ⟨j1, j2, j3⟩ := start2 w9 xq xr (nl Np) cq (nl Nr) cr
    have iq : IsN w9 (.agg #[.slice xq (nl Np) cq]) Np := NewN.isN ⟨xq, cq, rfl, hcq, hxq⟩
    have b3 := bb.trans (j1.mono bb.size)
    go_wp2_with fail
    go_meet
    case rel => exact ⟨_, rfl, Va.mono b3, Vb.mono b3, V7.mono b3, VarI.of j2 (iq.mono j1), Vr.mono b3 Vr.lt, hb1.trans (b3.mono hb1.size)⟩
  case rest =>
  clear Va Vb V7 Vr hb1
  obtain ⟨g8, rfl, Va, Vb, V7, V8, Vr, hb1⟩ := hcut
  go_upto_region 3 with (fail)
  go_cut [11] (fun s11 wx => ∃ g11, s11 = .pointer (some ⟨g11, 0, none⟩) ∧ VarI wx w.heap.size m ∧ VarI wx (w.heap.size + 1) n ∧ VarI wx g7 Ng ∧ VarI wx g8 Np ∧ VarI wx g11 Nq ∧ VarFB wx (w.heap.size + 2) false none 0 0 none 0 0 ∧ Below w.heap.size w wx)
  case first =>
    have Vb' := Vb
    obtain ⟨yb, db, qb, ib⟩ := Vb'
    have eb := qb.cell
    have V7' := V7
    obtain ⟨y7, d7, q7, i7⟩ := V7'
    have e7 := q7.cell
    go_wp2_with fail
    refine (c_natural_DivMod _ _ n Ng _ ib i7 hn' hg' HG0.out).mono ?_
    rintro e w9 ⟨vq, vr, rfl, nq, nr, bb⟩
    rw [← hq.out] at nq
    obtain ⟨Nr, hnr⟩ : ∃ N : Nat, Hid (N = n % Ng) := ⟨_, Lib.hid rfl⟩
    rw [← hnr.out] at nr
    obtain ⟨xq, cq, rfl, hcq, hxq⟩ := nq
    obtain ⟨xr, cr, rfl, hcr, hxr⟩ := nr
    obtain ⟨j1, j2, j3⟩ := start2 w9 xq xr (nl Nq) cq (nl Nr) cr
    have iq : IsN w9 (.agg #[.slice xq (nl Nq) cq]) Nq := NewN.isN ⟨xq, cq, rfl, hcq, hxq⟩
    have b3 := bb.trans (j1.mono bb.size)
    go_wp2_with fail
    go_meet
    case rel => exact ⟨_, rfl, Va.mono b3, Vb.mono b3, V7.mono b3, V8.mono b3, VarI.of j2 (iq.mono j1), Vr.mono b3 Vr.lt, hb1.trans (b3.mono hb1.size)⟩
  case rest =>
  clear Va Vb V7 Vr hb1 V8
  obtain ⟨g11, rfl, Va, Vb, V7, V8, V11, Vr, hb1⟩ := hcut
  rcases Bool.eq_false_or_eq_true s with rfl | rfl
  · by_cases hz0 : m = 0
    · have hz : decide (Np = 0) = true := decide_eq_true (by rw [HPZ.out]; exact hz0)
      have HZ := Lib.hid hz0
      clear hz0
      go_upto_region 4 with (fail)
      refine tG Try.f77 4 (lowTabZ g8 g11 Np Nq) [] 4 1 ?_ ?_
      · refine ⟨fun _ _ F => gR rfl rfl (arm_move (.inl rfl) (F.k 0 (Value.bool true))).b, ?_⟩
        refine ⟨fun _ _ F => gR rfl rfl (arm_move (.inl rfl) (F.f 0 rfl)).b, ?_⟩
        refine ⟨fun _ _ F => gG F rfl rfl rfl rfl (arm_load rfl (F.k 8 (Value.pointer (some ⟨g8, 0, none⟩))) (V8.mono F.below)).b, ?_⟩
        refine ⟨fun _ _ F => gG F rfl rfl rfl rfl (arm_isZero rfl (F.f 2 rfl) hNp' hz).b, ?_⟩
        refine ⟨fun _ _ F => gG F rfl rfl rfl rfl (arm_not rfl (F.f 3 rfl)).b, ?_⟩
        refine ⟨fun _ _ F => gR rfl rfl (arm_pick rfl (F.f 1 rfl) (fun _ => (F.f 4 rfl)) (fun h => by cases h)).b, ?_⟩
        refine ⟨fun _ _ F => gR rfl rfl (arm_load rfl (F.k 8 (Value.pointer (some ⟨g8, 0, none⟩))) (V8.mono F.below)).b, ?_⟩
        refine ⟨fun _ _ F => gR rfl rfl (arm_load rfl (F.k 11 (Value.pointer (some ⟨g11, 0, none⟩))) (V11.mono F.below)).b, ?_⟩
        refine ⟨fun _ _ F => gR rfl rfl (arm_buildF rfl (F.f 5 rfl) (F.f 6 rfl) (F.f 7 rfl)).b, ?_⟩
        exact trivial
      intro E' hE gp wp bp G Gs
      obtain rfl : E' = [] := by simpa [subs] using hE
      obtain ⟨x1, c1, x2, c2, e8, n1, n2⟩ := G 8 39 _ (by simp) rfl
      have Vr2 := Vr.mono bp Vr.lt
      clear G Gs hE
      simp only [lowTabZ]
      simp only [qA, setD, qZ, qS, e8]
      refine wpAny_storeF (j := 9) (by kernel_rfl) rfl rfl rfl rfl rfl rfl Vr2 ?_
      refine wpAny_done (by kernel_rfl) ?_ _
      have hB := putF_below (s := false) (a := x1) (L := nl Np) (c := c1) (b := x2) (M := nl Nq) (d := c2) (hb1.trans (bp.mono hb1.size)) (show w.heap.size ≤ w.heap.size + 2 by omega)
      rename_i hK
      refine hK _ _ ?_
      refine wp_ret ?_
      show bodyPost Try.prog Try.f77 _ .ret _ _
      exact bodyPost_ret (res_F rfl rfl (VarFB.put Vr2)) rfl ⟨_, rfl, ⟨x1, c1, x2, c2, by rw [decide_eq_true HZ.out]; rfl, n1.putF Vr2, n2.putF Vr2⟩, hB⟩
    · have hz : decide (Np = 0) = false := decide_eq_false (by rw [HPZ.out]; exact hz0)
      have HZ := Lib.hid hz0
      clear hz0
      go_upto_region 4 with (fail)
      refine tG Try.f77 4 (lowTabT g8 g11 Np Nq) [] 4 1 ?_ ?_
      · refine ⟨fun _ _ F => gR rfl rfl (arm_move (.inl rfl) (F.k 0 (Value.bool true))).b, ?_⟩
        refine ⟨fun _ _ F => gR rfl rfl (arm_move (.inl rfl) (F.f 0 rfl)).b, ?_⟩
        refine ⟨fun _ _ F => gG F rfl rfl rfl rfl (arm_load rfl (F.k 8 (Value.pointer (some ⟨g8, 0, none⟩))) (V8.mono F.below)).b, ?_⟩
        refine ⟨fun _ _ F => gG F rfl rfl rfl rfl (arm_isZero rfl (F.f 2 rfl) hNp' hz).b, ?_⟩
        refine ⟨fun _ _ F => gG F rfl rfl rfl rfl (arm_not rfl (F.f 3 rfl)).b, ?_⟩
        refine ⟨fun _ _ F => gR rfl rfl (arm_pick rfl (F.f 1 rfl) (fun _ => (F.f 4 rfl)) (fun h => by cases h)).b, ?_⟩
        refine ⟨fun _ _ F => gR rfl rfl (arm_load rfl (F.k 8 (Value.pointer (some ⟨g8, 0, none⟩))) (V8.mono F.below)).b, ?_⟩
        refine ⟨fun _ _ F => gR rfl rfl (arm_load rfl (F.k 11 (Value.pointer (some ⟨g11, 0, none⟩))) (V11.mono F.below)).b, ?_⟩
        refine ⟨fun _ _ F => gR rfl rfl (arm_buildF rfl (F.f 5 rfl) (F.f 6 rfl) (F.f 7 rfl)).b, ?_⟩
        exact trivial
      intro E' hE gp wp bp G Gs
      obtain rfl : E' = [] := by simpa [subs] using hE
      obtain ⟨x1, c1, x2, c2, e8, n1, n2⟩ := G 8 39 _ (by simp) rfl
      have Vr2 := Vr.mono bp Vr.lt
      clear G Gs hE
      simp only [lowTabT]
      simp only [qA, setD, qZ, qS, e8]
      refine wpAny_storeF (j := 9) (by kernel_rfl) rfl rfl rfl rfl rfl rfl Vr2 ?_
      refine wpAny_done (by kernel_rfl) ?_ _
      have hB := putF_below (s := true) (a := x1) (L := nl Np) (c := c1) (b := x2) (M := nl Nq) (d := c2) (hb1.trans (bp.mono hb1.size)) (show w.heap.size ≤ w.heap.size + 2 by omega)
      rename_i hK
      refine hK _ _ ?_
      refine wp_ret ?_
      show bodyPost Try.prog Try.f77 _ .ret _ _
      exact bodyPost_ret (res_F rfl rfl (VarFB.put Vr2)) rfl ⟨_, rfl, ⟨x1, c1, x2, c2, by rw [decide_eq_false HZ.out]; rfl, n1.putF Vr2, n2.putF Vr2⟩, hB⟩
  · go_upto_region 4 with (fail)
    refine tG Try.f77 4 (lowTabF g8 g11 Np Nq) [] 4 1 ?_ ?_
    · refine ⟨fun _ _ F => gR rfl rfl (arm_move (.inl rfl) (F.k 0 (Value.bool false))).b, ?_⟩
      refine ⟨fun _ _ F => gR rfl rfl (arm_move (.inl rfl) (F.f 0 rfl)).b, ?_⟩
      refine ⟨fun a' w' F => StepG.skip rfl (unwanted rfl rfl (F.at' 1 32 _ rfl (by kernel_rfl)) rfl) trivial, ?_⟩
      refine ⟨fun a' w' F => StepG.skip rfl (unwanted rfl rfl (F.at' 1 32 _ rfl (by kernel_rfl)) rfl) trivial, ?_⟩
      refine ⟨fun a' w' F => StepG.skip rfl (unwanted rfl rfl (F.at' 1 32 _ rfl (by kernel_rfl)) rfl) trivial, ?_⟩
      refine ⟨fun _ _ F => gR rfl rfl (arm_pick rfl (F.f 1 rfl) (fun h => by cases h) (fun _ => Is.const)).b, ?_⟩
      refine ⟨fun _ _ F => gR rfl rfl (arm_load rfl (F.k 8 (Value.pointer (some ⟨g8, 0, none⟩))) (V8.mono F.below)).b, ?_⟩
      refine ⟨fun _ _ F => gR rfl rfl (arm_load rfl (F.k 11 (Value.pointer (some ⟨g11, 0, none⟩))) (V11.mono F.below)).b, ?_⟩
      refine ⟨fun _ _ F => gR rfl rfl (arm_buildF rfl (F.f 5 rfl) (F.f 6 rfl) (F.f 7 rfl)).b, ?_⟩
      exact trivial
    intro E' hE gp wp bp G Gs
    obtain rfl : E' = [] := by simpa [subs] using hE
    obtain ⟨x1, c1, x2, c2, e8, n1, n2⟩ := G 8 39 _ (by simp) rfl
    have Vr2 := Vr.mono bp Vr.lt
    clear G Gs hE
    simp only [lowTabF]
    simp only [qA, setD, qZ, qS, e8]
    refine wpAny_storeF (j := 9) (by kernel_rfl) rfl rfl rfl rfl rfl rfl Vr2 ?_
    refine wpAny_done (by kernel_rfl) ?_ _
    have hB := putF_below (s := false) (a := x1) (L := nl Np) (c := c1) (b := x2) (M := nl Nq) (d := c2) (hb1.trans (bp.mono hb1.size)) (show w.heap.size ≤ w.heap.size + 2 by omega)
    rename_i hK
    refine hK _ _ ?_
    refine wp_ret ?_
    show bodyPost Try.prog Try.f77 _ .ret _ _
    exact bodyPost_ret (res_F rfl rfl (VarFB.put Vr2)) rfl ⟨_, rfl, ⟨x1, c1, x2, c2, by rfl, n1.putF Vr2, n2.putF Vr2⟩, hB⟩
end Go.Proofs.Ythefidbgjgfeiaa
namespace Go.Proofs.Ythefidbgjgfeiaa
set_option linter.unusedSimpArgs false
set_option linter.unusedVariables false
set_option maxRecDepth 100000
open Go.RowKit
theorem start_mk {w : World} {va vb : Value} {m n : Nat} (ha : IsN w va m) (hb : IsN w vb n) : ∃ a ca b cb, va = .agg #[.slice a (nl m) ca] ∧ vb = .agg #[.slice b (nl n) cb] ∧
    Below w.heap.size w (((w.alloc (.cells #[.slice a (nl m) ca] 28)).alloc (.cells #[.slice b (nl n) cb] 28)).alloc (.cells #[.bool false, .slice none 0 0, .slice none 0 0] 30)) ∧
    VarI (((w.alloc (.cells #[.slice a (nl m) ca] 28)).alloc (.cells #[.slice b (nl n) cb] 28)).alloc (.cells #[.bool false, .slice none 0 0, .slice none 0 0] 30)) w.heap.size m ∧
    VarI (((w.alloc (.cells #[.slice a (nl m) ca] 28)).alloc (.cells #[.slice b (nl n) cb] 28)).alloc (.cells #[.bool false, .slice none 0 0, .slice none 0 0] 30)) (w.heap.size + 1) n ∧
    VarFB (((w.alloc (.cells #[.slice a (nl m) ca] 28)).alloc (.cells #[.slice b (nl n) cb] 28)).alloc (.cells #[.bool false, .slice none 0 0, .slice none 0 0] 30)) (w.heap.size + 2) false none 0 0 none 0 0 := by
  obtain ⟨a, ca, rfl, hca, ra⟩ := ha
  obtain ⟨b, cb, rfl, hcb, rb⟩ := hb
  obtain ⟨k0, k1, k2⟩ := box2 (L := nl m) (c := ca) (N := m) (L2 := nl n) (c2 := cb) (N2 := n) ⟨a, ca, rfl, hca, ra⟩ ⟨b, cb, rfl, hcb, rb⟩
  have k3 := bel1 ((w.alloc (.cells #[.slice a (nl m) ca] 28)).alloc (.cells #[.slice b (nl n) cb] 28)) (.cells #[.bool false, .slice none 0 0, .slice none 0 0] 30)
  have k4 := VarFB.made ((w.alloc (.cells #[.slice a (nl m) ca] 28)).alloc (.cells #[.slice b (nl n) cb] 28)) false none 0 0 none 0 0
  rw [World.size_alloc, World.size_alloc] at k4
  exact ⟨a, ca, b, cb, rfl, rfl, k0.trans (k3.mono k0.size), VarR.mono k1 k3, VarR.mono k2 k3, k4⟩
/-- The sign of a fraction in lowest terms. -/
def lowS (s : Bool) (m : Nat) : Bool := s && !decide (m = 0)
end Go.Proofs.Ythefidbgjgfeiaa
namespace Go.Proofs.Ythefidbgjgfeiaa
set_option linter.unusedSimpArgs false
set_option linter.unusedVariables false
set_option maxRecDepth 100000
open Go.RowKit
def rMakeTabF (w : World) (g9 g12 m Np Nq : Nat) : List (Nat × Tmp × Sp) :=
   [(0, 35, .val (Value.bool false)),
    (1, 36, .val (Value.bool false)),
    (2, 37, .any),
    (3, 38, .any),
    (4, 39, .any),
    (5, 40, .val (Value.bool false)),
    (6, 41, .nat (Np)),
    (7, 42, .nat (Nq)),
    (8, 43, .fr false (Np) (Nq))]
def rMakeTabZ (w : World) (g9 g12 m Np Nq : Nat) : List (Nat × Tmp × Sp) :=
   [(0, 35, .val (Value.bool true)),
    (1, 36, .val (Value.bool true)),
    (2, 37, .nat (m)),
    (3, 38, .val (Value.bool true)),
    (4, 39, .val (Value.bool false)),
    (5, 40, .val (Value.bool false)),
    (6, 41, .nat (Np)),
    (7, 42, .nat (Nq)),
    (8, 43, .fr false (Np) (Nq))]
def rMakeTabT (w : World) (g9 g12 m Np Nq : Nat) : List (Nat × Tmp × Sp) :=
   [(0, 35, .val (Value.bool true)),
    (1, 36, .val (Value.bool true)),
    (2, 37, .nat (m)),
    (3, 38, .val (Value.bool false)),
    (4, 39, .val (Value.bool true)),
    (5, 40, .val (Value.bool true)),
    (6, 41, .nat (Np)),
    (7, 42, .nat (Nq)),
    (8, 43, .fr true (Np) (Nq))]
set_option maxHeartbeats 4000000 in
theorem c_rMake (s : Bool) (va vb : Value) (m n : Nat) (w : World) (ha : IsN w va m) (hb : IsN w vb n) (hm : nl m ≤ 10000000000) (hn : nl n ≤ 10000000000) :
    Calls Try.prog 64 #[.bool s, va, vb] w fun e w' => (n = 0 → RetFE w false 0 0 8 e w') ∧ (n ≠ 0 → RetFE w (lowS s m) (m / Nat.gcd m n) (n / Nat.gcd m n) 0 e w') := by
  obtain ⟨a, ca, b, cb, rfl, rfl, k0, k1, k2, k4⟩ := start_mk ha hb
  have hm' : nl m ≤ 1000000000000 := by omega
  have hn' : nl n ≤ 1000000000000 := by omega
  clear ha hb
  go_enter Try.func64, Try.ntmps64
  go_upto_region 0 with (fail)
  go_cut [4, 5, 6] (fun s4 s5 s6 wx => s4 = .pointer (some ⟨w.heap.size, 0, none⟩) ∧ s5 = .pointer (some ⟨w.heap.size + 1, 0, none⟩) ∧ s6 = .pointer (some ⟨w.heap.size + 2, 0, none⟩) ∧ VarI wx w.heap.size m ∧ VarI wx (w.heap.size + 1) n ∧ VarFB wx (w.heap.size + 2) false none 0 0 none 0 0 ∧ Below w.heap.size w wx)
  case first =>
    go_wp2_with fail
    go_meet
    case rel => exact ⟨rfl, rfl, rfl, k1, k2, k4, k0⟩
  case rest =>
  clear k0 k1 k2 k4
  obtain ⟨rfl, rfl, rfl, Va, Vb, Vr, hb1⟩ := hcut
  have Vb' := Vb
  obtain ⟨yb, db, qb, ib⟩ := Vb'
  have eb := qb.cell
  go_wp2_with fail
  refine (c_zero _ n _ ib hn').mono ?_
  rintro e w1 ⟨rfl, bb⟩
  replace Vr := Vr.mono bb Vr.lt
  replace Va := Va.mono bb
  replace Vb := Vb.mono bb
  replace hb1 := hb1.trans (bb.mono hb1.size)
  clear eb qb ib bb
  by_cases h0 : n = 0
  · have c0 := Vr.cell0
    have c1 := Vr.cell1
    have c2 := Vr.cell2
    have f0 := Vr.frozen 0
    have f1 := Vr.frozen 1
    have f2 := Vr.frozen 2
    rw [decide_eq_true h0]
    have H0 := Lib.hid h0
    clear h0
    go_wp2
    exact bodyPost_ret (res_FE rfl rfl rfl (VarFB.put (s' := false) (a' := none) (L' := 0) (c' := 0) (b' := none) (M' := 0) (d' := 0) Vr)) rfl ⟨fun _ => ⟨_, rfl, IsF.zero _, putF_below hb1 (by omega)⟩, fun h => absurd H0.out h⟩
  · have hg00 : Nat.gcd m n ≠ 0 := Nat.ne_of_gt (Nat.gcd_pos_of_pos_right m (Nat.pos_of_ne_zero h0))
    obtain ⟨Ng, hg⟩ : ∃ N : Nat, Hid (N = Nat.gcd m n) := ⟨_, Lib.hid rfl⟩
    have hg0 : Ng ≠ 0 := by rw [hg.out]; exact hg00
    have hgn : Ng ≤ n := by rw [hg.out]; exact Nat.gcd_le_right m (Nat.pos_of_ne_zero h0)
    have hg' : nl Ng ≤ 100000000000 := Nat.le_trans (nl_mono hgn) (by omega)
    obtain ⟨Np, hp⟩ : ∃ N : Nat, Hid (N = m / Ng) := ⟨_, Lib.hid rfl⟩
    obtain ⟨Nq, hq⟩ : ∃ N : Nat, Hid (N = n / Ng) := ⟨_, Lib.hid rfl⟩
    have HG0 := Lib.hid hg0
    rw [decide_eq_false h0]
    have H0 := Lib.hid h0
    clear h0 hg00 hg0 hgn
    go_upto_region 3 with (fail)
    go_cut [8] (fun s8 wx => ∃ g8, s8 = .pointer (some ⟨g8, 0, none⟩) ∧ VarI wx g8 Ng ∧ VarI wx w.heap.size m ∧ VarI wx (w.heap.size + 1) n ∧ VarFB wx (w.heap.size + 2) false none 0 0 none 0 0 ∧ Below w.heap.size w wx)
    case first =>
      have Va' := Va
      obtain ⟨ya, da, qa, ia⟩ := Va'
      have ea := qa.cell
      have Vb' := Vb
      obtain ⟨yb, db, qb, ib⟩ := Vb'
      have eb := qb.cell
      go_wp2_with fail
      refine (c_ref_Gcd _ _ m n _ ia ib (by omega) (by omega)).mono ?_
      rintro e w9 ⟨v9, rfl, n9, bb⟩
      rw [← hg.out] at n9
      obtain ⟨x9, c9, rfl⟩ := n9.shape
      have v1 := VarB.made w9 x9 (nl Ng) c9
      have b2 := bel1 w9 (.cells #[.slice x9 (nl Ng) c9] 28)
      have b3 := bb.trans (b2.mono bb.size)
      go_wp2_with fail
      go_meet
      case rel => exact ⟨_, rfl, VarI.of v1 (n9.mono b2), Va.mono b3, Vb.mono b3, Vr.mono b3 Vr.lt, hb1.trans (b3.mono hb1.size)⟩
    case rest =>
    clear Va Vb Vr hb1
    obtain ⟨g8, rfl, V8, Va, Vb, Vr, hb1⟩ := hcut
    go_upto_region 4 with (fail)
    go_cut [9] (fun s9 wx => ∃ g9, s9 = .pointer (some ⟨g9, 0, none⟩) ∧ VarI wx g9 Np ∧ VarI wx g8 Ng ∧ VarI wx w.heap.size m ∧ VarI wx (w.heap.size + 1) n ∧ VarFB wx (w.heap.size + 2) false none 0 0 none 0 0 ∧ Below w.heap.size w wx)
    case first =>
      have Va' := Va
      obtain ⟨ya, da, qa, ia⟩ := Va'
      have ea := qa.cell
      have V8' := V8
      obtain ⟨y8, d8, q8, i8⟩ := V8'
      have e8 := q8.cell
      go_wp2_with fail
      refine (c_ref_DivMod _ _ m Ng _ ia i8 (by omega) hg' HG0.out).mono ?_
      rintro e w9 ⟨vq, vr, rfl, nq, nr, bb⟩
      rw [← hp.out] at nq
      obtain ⟨Nr, hnr⟩ : ∃ N : Nat, Hid (N = m % Ng) := ⟨_, Lib.hid rfl⟩
      rw [← hnr.out] at nr
      obtain ⟨xq, cq, rfl, hcq, hxq⟩ := nq
      obtain ⟨xr, cr, rfl, hcr, hxr⟩ := nr
      obtain ⟨j1, j2, j3⟩ := start2 w9 xq xr (nl Np) cq (nl Nr) cr
      have iq : IsN w9 (.agg #[.slice xq (nl Np) cq]) Np := NewN.isN ⟨xq, cq, rfl, hcq, hxq⟩
      have b3 := bb.trans (j1.mono bb.size)
      go_wp2_with fail
      go_meet
      case rel => exact ⟨_, rfl, VarI.of j2 (iq.mono j1), V8.mono b3, Va.mono b3, Vb.mono b3, Vr.mono b3 Vr.lt, hb1.trans (b3.mono hb1.size)⟩
    case rest =>
    clear Va Vb Vr hb1 V8
    obtain ⟨g9, rfl, V9, V8, Va, Vb, Vr, hb1⟩ := hcut
    go_upto_region 5 with (fail)
    go_cut [12] (fun s12 wx => ∃ g12, s12 = .pointer (some ⟨g12, 0, none⟩) ∧ VarI wx g12 Nq ∧ VarI wx g8 Ng ∧ VarI wx g9 Np ∧ VarI wx w.heap.size m ∧ VarI wx (w.heap.size + 1) n ∧ VarFB wx (w.heap.size + 2) false none 0 0 none 0 0 ∧ Below w.heap.size w wx)
    case first =>
      have Vb' := Vb
      obtain ⟨yb, db, qb, ib⟩ := Vb'
      have eb := qb.cell
      have V8' := V8
      obtain ⟨y8, d8, q8, i8⟩ := V8'
      have e8 := q8.cell
      go_wp2_with fail
      refine (c_ref_DivMod _ _ n Ng _ ib i8 (by omega) hg' HG0.out).mono ?_
      rintro e w9 ⟨vq, vr, rfl, nq, nr, bb⟩
      rw [← hq.out] at nq
      obtain ⟨Nr, hnr⟩ : ∃ N : Nat, Hid (N = n % Ng) := ⟨_, Lib.hid rfl⟩
      rw [← hnr.out] at nr
      obtain ⟨xq, cq, rfl, hcq, hxq⟩ := nq
      obtain ⟨xr, cr, rfl, hcr, hxr⟩ := nr
      obtain ⟨j1, j2, j3⟩ := start2 w9 xq xr (nl Nq) cq (nl Nr) cr
      have iq : IsN w9 (.agg #[.slice xq (nl Nq) cq]) Nq := NewN.isN ⟨xq, cq, rfl, hcq, hxq⟩
      have b3 := bb.trans (j1.mono bb.size)
      go_wp2_with fail
      go_meet
      case rel => exact ⟨_, rfl, VarI.of j2 (iq.mono j1), V8.mono b3, V9.mono b3, Va.mono b3, Vb.mono b3, Vr.mono b3 Vr.lt, hb1.trans (b3.mono hb1.size)⟩
    case rest =>
    clear Va Vb Vr hb1 V8 V9
    obtain ⟨g12, rfl, V12, V8, V9, Va, Vb, Vr, hb1⟩ := hcut
    rcases Bool.eq_false_or_eq_true s with rfl | rfl
    · by_cases hz0 : m = 0
      · have hz : decide (m = 0) = true := decide_eq_true hz0
        have HZ := Lib.hid hz0
        clear hz0
        go_upto_region 6 with (fail)
        refine tG Try.f64 6 (rMakeTabZ w g9 g12 m Np Nq) [] 4 2 ?_ ?_
        · refine ⟨fun _ _ F => gR rfl rfl (arm_move (.inl rfl) (F.k 0 (Value.bool true))).b, ?_⟩
          refine ⟨fun _ _ F => gR rfl rfl (arm_move (.inl rfl) (F.f 0 rfl)).b, ?_⟩
          refine ⟨fun _ _ F => gG F rfl rfl rfl rfl (arm_load rfl (F.k 4 (Value.pointer (some ⟨w.heap.size, 0, none⟩))) (Va.mono F.below)).b, ?_⟩
          refine ⟨fun _ _ F => gG F rfl rfl rfl rfl (arm_zero rfl (F.f 2 rfl) hm' hz).b, ?_⟩
          refine ⟨fun _ _ F => gG F rfl rfl rfl rfl (arm_not rfl (F.f 3 rfl)).b, ?_⟩
          refine ⟨fun _ _ F => gR rfl rfl (arm_pick rfl (F.f 1 rfl) (fun _ => (F.f 4 rfl)) (fun h => by cases h)).b, ?_⟩
          refine ⟨fun _ _ F => gR rfl rfl (arm_load rfl (F.k 9 (Value.pointer (some ⟨g9, 0, none⟩))) (V9.mono F.below)).b, ?_⟩
          refine ⟨fun _ _ F => gR rfl rfl (arm_load rfl (F.k 12 (Value.pointer (some ⟨g12, 0, none⟩))) (V12.mono F.below)).b, ?_⟩
          refine ⟨fun _ _ F => gR rfl rfl (arm_buildF rfl (F.f 5 rfl) (F.f 6 rfl) (F.f 7 rfl)).b, ?_⟩
          exact trivial
        intro E' hE gp wp bp G Gs
        obtain rfl : E' = [] := by simpa [subs] using hE
        obtain ⟨x1, c1, x2, c2, e8, n1, n2⟩ := G 8 43 _ (by simp) rfl
        have Vr2 := Vr.mono bp Vr.lt
        clear G Gs hE
        simp only [rMakeTabZ]
        simp only [qA, setD, qZ, qS, e8]
        refine wpAny_storeF (j := 9) (by kernel_rfl) rfl rfl rfl rfl rfl rfl Vr2 ?_
        refine wpAny_takeD (i := 10) (d := some 7) (v := .int .i64 0) rfl rfl (by kernel_rfl) (by kernel_rfl) (by kernel_rfl) (fun _ _ _ h => h) (Or.inl ⟨by rfl, fun w => by rfl⟩) ?_
        refine wpAny_done (by kernel_rfl) ?_ _
        have hB := putF_below (s := false) (a := x1) (L := nl Np) (c := c1) (b := x2) (M := nl Nq) (d := c2) (hb1.trans (bp.mono hb1.size)) (show w.heap.size ≤ w.heap.size + 2 by omega)
        rename_i hK
        refine hK _ _ ?_
        refine wp_ret ?_
        show bodyPost Try.prog Try.f64 _ .ret _ _
        exact bodyPost_ret (res_FE rfl rfl rfl (VarFB.put Vr2)) rfl ⟨fun h => absurd h H0.out, fun _ => ⟨_, rfl, by rw [← hg.out, ← hp.out, ← hq.out]; exact ⟨x1, c1, x2, c2, by unfold lowS; rw [decide_eq_true HZ.out]; rfl, n1.putF Vr2, n2.putF Vr2⟩, hB⟩⟩
      · have hz : decide (m = 0) = false := decide_eq_false hz0
        have HZ := Lib.hid hz0
        clear hz0
        go_upto_region 6 with (fail)
        refine tG Try.f64 6 (rMakeTabT w g9 g12 m Np Nq) [] 4 2 ?_ ?_
        · refine ⟨fun _ _ F => gR rfl rfl (arm_move (.inl rfl) (F.k 0 (Value.bool true))).b, ?_⟩
          refine ⟨fun _ _ F => gR rfl rfl (arm_move (.inl rfl) (F.f 0 rfl)).b, ?_⟩
          refine ⟨fun _ _ F => gG F rfl rfl rfl rfl (arm_load rfl (F.k 4 (Value.pointer (some ⟨w.heap.size, 0, none⟩))) (Va.mono F.below)).b, ?_⟩
          refine ⟨fun _ _ F => gG F rfl rfl rfl rfl (arm_zero rfl (F.f 2 rfl) hm' hz).b, ?_⟩
          refine ⟨fun _ _ F => gG F rfl rfl rfl rfl (arm_not rfl (F.f 3 rfl)).b, ?_⟩
          refine ⟨fun _ _ F => gR rfl rfl (arm_pick rfl (F.f 1 rfl) (fun _ => (F.f 4 rfl)) (fun h => by cases h)).b, ?_⟩
          refine ⟨fun _ _ F => gR rfl rfl (arm_load rfl (F.k 9 (Value.pointer (some ⟨g9, 0, none⟩))) (V9.mono F.below)).b, ?_⟩
          refine ⟨fun _ _ F => gR rfl rfl (arm_load rfl (F.k 12 (Value.pointer (some ⟨g12, 0, none⟩))) (V12.mono F.below)).b, ?_⟩
          refine ⟨fun _ _ F => gR rfl rfl (arm_buildF rfl (F.f 5 rfl) (F.f 6 rfl) (F.f 7 rfl)).b, ?_⟩
          exact trivial
        intro E' hE gp wp bp G Gs
        obtain rfl : E' = [] := by simpa [subs] using hE
        obtain ⟨x1, c1, x2, c2, e8, n1, n2⟩ := G 8 43 _ (by simp) rfl
        have Vr2 := Vr.mono bp Vr.lt
        clear G Gs hE
        simp only [rMakeTabT]
        simp only [qA, setD, qZ, qS, e8]
        refine wpAny_storeF (j := 9) (by kernel_rfl) rfl rfl rfl rfl rfl rfl Vr2 ?_
        refine wpAny_takeD (i := 10) (d := some 7) (v := .int .i64 0) rfl rfl (by kernel_rfl) (by kernel_rfl) (by kernel_rfl) (fun _ _ _ h => h) (Or.inl ⟨by rfl, fun w => by rfl⟩) ?_
        refine wpAny_done (by kernel_rfl) ?_ _
        have hB := putF_below (s := true) (a := x1) (L := nl Np) (c := c1) (b := x2) (M := nl Nq) (d := c2) (hb1.trans (bp.mono hb1.size)) (show w.heap.size ≤ w.heap.size + 2 by omega)
        rename_i hK
        refine hK _ _ ?_
        refine wp_ret ?_
        show bodyPost Try.prog Try.f64 _ .ret _ _
        exact bodyPost_ret (res_FE rfl rfl rfl (VarFB.put Vr2)) rfl ⟨fun h => absurd h H0.out, fun _ => ⟨_, rfl, by rw [← hg.out, ← hp.out, ← hq.out]; exact ⟨x1, c1, x2, c2, by unfold lowS; rw [decide_eq_false HZ.out]; rfl, n1.putF Vr2, n2.putF Vr2⟩, hB⟩⟩
    · go_upto_region 6 with (fail)
      refine tG Try.f64 6 (rMakeTabF w g9 g12 m Np Nq) [] 4 2 ?_ ?_
      · refine ⟨fun _ _ F => gR rfl rfl (arm_move (.inl rfl) (F.k 0 (Value.bool false))).b, ?_⟩
        refine ⟨fun _ _ F => gR rfl rfl (arm_move (.inl rfl) (F.f 0 rfl)).b, ?_⟩
        refine ⟨fun a' w' F => StepG.skip rfl (unwanted rfl rfl (F.at' 1 36 _ rfl (by kernel_rfl)) rfl) trivial, ?_⟩
        refine ⟨fun a' w' F => StepG.skip rfl (unwanted rfl rfl (F.at' 1 36 _ rfl (by kernel_rfl)) rfl) trivial, ?_⟩
        refine ⟨fun a' w' F => StepG.skip rfl (unwanted rfl rfl (F.at' 1 36 _ rfl (by kernel_rfl)) rfl) trivial, ?_⟩
        refine ⟨fun _ _ F => gR rfl rfl (arm_pick rfl (F.f 1 rfl) (fun h => by cases h) (fun _ => Is.const)).b, ?_⟩
        refine ⟨fun _ _ F => gR rfl rfl (arm_load rfl (F.k 9 (Value.pointer (some ⟨g9, 0, none⟩))) (V9.mono F.below)).b, ?_⟩
        refine ⟨fun _ _ F => gR rfl rfl (arm_load rfl (F.k 12 (Value.pointer (some ⟨g12, 0, none⟩))) (V12.mono F.below)).b, ?_⟩
        refine ⟨fun _ _ F => gR rfl rfl (arm_buildF rfl (F.f 5 rfl) (F.f 6 rfl) (F.f 7 rfl)).b, ?_⟩
        exact trivial
      intro E' hE gp wp bp G Gs
      obtain rfl : E' = [] := by simpa [subs] using hE
      obtain ⟨x1, c1, x2, c2, e8, n1, n2⟩ := G 8 43 _ (by simp) rfl
      have Vr2 := Vr.mono bp Vr.lt
      clear G Gs hE
      simp only [rMakeTabF]
      simp only [qA, setD, qZ, qS, e8]
      refine wpAny_storeF (j := 9) (by kernel_rfl) rfl rfl rfl rfl rfl rfl Vr2 ?_
      refine wpAny_takeD (i := 10) (d := some 7) (v := .int .i64 0) rfl rfl (by kernel_rfl) (by kernel_rfl) (by kernel_rfl) (fun _ _ _ h => h) (Or.inl ⟨by rfl, fun w => by rfl⟩) ?_
      refine wpAny_done (by kernel_rfl) ?_ _
      have hB := putF_below (s := false) (a := x1) (L := nl Np) (c := c1) (b := x2) (M := nl Nq) (d := c2) (hb1.trans (bp.mono hb1.size)) (show w.heap.size ≤ w.heap.size + 2 by omega)
      rename_i hK
      refine hK _ _ ?_
      refine wp_ret ?_
      show bodyPost Try.prog Try.f64 _ .ret _ _
      exact bodyPost_ret (res_FE rfl rfl rfl (VarFB.put Vr2)) rfl ⟨fun h => absurd h H0.out, fun _ => ⟨_, rfl, by rw [← hg.out, ← hp.out, ← hq.out]; exact ⟨x1, c1, x2, c2, by rfl, n1.putF Vr2, n2.putF Vr2⟩, hB⟩⟩
end Go.Proofs.Ythefidbgjgfeiaa
namespace Go.Proofs.Ythefidbgjgfeiaa
set_option linter.unusedSimpArgs false
set_option linter.unusedVariables false
set_option maxRecDepth 100000
open Go.RowKit
theorem boxF {w : World} {v : Value} {s : Bool} {p q : Nat} (h : IsF w v s p q) : ∃ a c b d, v = .agg #[.bool s, .slice a (nl p) c, .slice b (nl q) d] ∧
    Below w.heap.size w (w.alloc (.cells #[.bool s, .slice a (nl p) c, .slice b (nl q) d] 30)) ∧ VarF (w.alloc (.cells #[.bool s, .slice a (nl p) c, .slice b (nl q) d] 30)) w.heap.size s p q := by
  obtain ⟨a, c, b, d, rfl, h1, h2⟩ := h
  have hb := bel1 w (.cells #[.bool s, .slice a (nl p) c, .slice b (nl q) d] 30)
  exact ⟨a, c, b, d, rfl, hb, VarF.of (VarFB.made w s a (nl p) c b (nl q) d) (h1.mono hb) (h2.mono hb)⟩
theorem boxF2 {w : World} {v v' : Value} {s s' : Bool} {p q p' q' : Nat} (h : IsF w v s p q) (h' : IsF w v' s' p' q') : ∃ a c b d a' c' b' d', v = .agg #[.bool s, .slice a (nl p) c, .slice b (nl q) d] ∧ v' = .agg #[.bool s', .slice a' (nl p') c', .slice b' (nl q') d'] ∧
    Below w.heap.size w ((w.alloc (.cells #[.bool s, .slice a (nl p) c, .slice b (nl q) d] 30)).alloc (.cells #[.bool s', .slice a' (nl p') c', .slice b' (nl q') d'] 30)) ∧
    VarF ((w.alloc (.cells #[.bool s, .slice a (nl p) c, .slice b (nl q) d] 30)).alloc (.cells #[.bool s', .slice a' (nl p') c', .slice b' (nl q') d'] 30)) w.heap.size s p q ∧
    VarF ((w.alloc (.cells #[.bool s, .slice a (nl p) c, .slice b (nl q) d] 30)).alloc (.cells #[.bool s', .slice a' (nl p') c', .slice b' (nl q') d'] 30)) (w.heap.size + 1) s' p' q' := by
  obtain ⟨a, c, b, d, rfl, hb, hv⟩ := boxF h
  obtain ⟨a', c', b', d', rfl, hb', hv'⟩ := boxF (h'.mono hb)
  rw [World.size_alloc] at hv'
  exact ⟨a, c, b, d, a', c', b', d', rfl, rfl, hb.trans (hb'.mono hb.size), hv.mono hb', hv'⟩
/-- A result variable behind. -/
theorem resF {w : World} : Below w.heap.size w (w.alloc (.cells #[.bool false, .slice none 0 0, .slice none 0 0] 30)) ∧ VarFB (w.alloc (.cells #[.bool false, .slice none 0 0, .slice none 0 0] 30)) w.heap.size false none 0 0 none 0 0 :=
  ⟨bel1 w _, VarFB.made w false none 0 0 none 0 0⟩
theorem run_neB (a b : Bool) (w : World) : (binOp BinOp.neq 4 (.bool a) (.bool b)).run Try.prog w = .ok (.bool (a != b)) w := by cases a <;> cases b <;> rfl
def Sp.varF (base : Nat) : Sp := ⟨fun w v => ∃ g, v = .pointer (some ⟨g, 0, none⟩) ∧ base ≤ g ∧ VarFB w g false none 0 0 none 0 0, fun _ _ _ h hb => by obtain ⟨g, h1, h2, h3⟩ := h; exact ⟨g, h1, h2, h3.mono hb h3.lt⟩⟩
theorem Sp.varF_lt {base : Nat} {w : World} {v : Value} (h : (Sp.varF base).p w v) : blk v < w.heap.size := by
  obtain ⟨g, rfl, _, h3⟩ := h; exact h3.lt
theorem run_ext {P : Program} {o : Oper} {a : Act} {x : Operand} {k : Nat} {vs : Array Value} {v : Value} (ho : o.op = .extract x k) (hx : a.eval x = .tuple vs) (hv : vs[k]? = some v) (w : World) : (execOp a.eval o).run P w = .ok (.value v) w := by
  unfold execOp
  rw [ho]
  simp [hx, Instr.extract, hv, Result.andThen]
section
variable {Q : Exit → Act → World → Prop} {o : Oper} {a : Act} {w : World} {x y z : Operand} {m n p q p' q' : Nat} {s s' : Bool} {tt : Array TypeId}
theorem arm_allocF {base : Nat} (ho : o.op = .alloc 30) (hb : base ≤ w.heap.size) : ArmB Try.prog Q true o a w (.varF base) := by
  intro K hK
  unfold Oper.wp execOp
  rw [ho]
  go_simp
  exact hK _ _ ⟨_, rfl, hb, VarFB.made w false none 0 0 none 0 0⟩ (bel1 w _) (fun _ => Nat.le_refl _)
theorem arm_fff {f : FuncId} {S : Sp} {R : World → Ending → World → Prop} (ho : o.op = .call { callee := .value (.func f), args := #[x, y, z], argTypes := tt }) (hen : ∀ (vs : Array Value) w, (callFunc f vs).run Try.prog w = .ok (.enter f vs) w)
    (hx : Is a w x (.val (.bool s))) (hy : Is a w y (.nat m)) (hz : Is a w z (.nat n)) (hc : ∀ vb vc w, IsN w vb m → IsN w vc n → Calls Try.prog f #[.bool s, vb, vc] w (R w)) (hR : ∀ e w', R w e w' → ∃ v, e = .returned v ∧ S.p w' v ∧ Below w.heap.size w w') : Arm Try.prog Q o a w S := by
  refine arm_call ho hen (R := R w) ?_ hR
  have hx' : a.eval x = .bool s := hx
  have := hc (a.eval y) (a.eval z) w hy hz
  simpa [hx'] using this
theorem arm_lowest (ho : o.op = .call { callee := .value (.func 77), args := #[x, y, z], argTypes := tt }) (hx : Is a w x (.val (.bool s))) (hy : Is a w y (.nat m)) (hz : Is a w z (.nat n)) (hm : nl m ≤ 10000000000) (hn : nl n ≤ 10000000000) (h0 : n ≠ 0)
    {S : Bool} {P R : Nat} (hS : lowS s m = S) (hP : m / Nat.gcd m n = P) (hR : n / Nat.gcd m n = R) : Arm Try.prog Q o a w (.fr S P R) := by
  subst hS; subst hP; subst hR
  exact arm_fff ho (enters Try.func77 rfl rfl) hx hy hz (R := fun w => RetF w (lowS s m) (m / Nat.gcd m n) (n / Nat.gcd m n)) (fun vb vc w h1 h2 => c_lowest s vb vc m n w h1 h2 hm hn h0) (fun _ _ h => ofF h)
theorem arm_build0 (ho : o.op = .build 28 #[]) : Arm Try.prog Q o a w (.nat 0) := by
  refine arm_run (.agg #[.slice none 0 0]) ?_ (NewN.isN (base := 0) NewN.of_zero)
  unfold execOp
  rw [ho]
  simp only [List.map_toArray, List.map_nil]
  go_simp
end
end Go.Proofs.Ythefidbgjgfeiaa
namespace Go.Proofs.Ythefidbgjgfeiaa
set_option linter.unusedSimpArgs false
set_option linter.unusedVariables false
set_option maxRecDepth 100000
open Go.RowKit
def lowP (m n : Nat) : Nat := m / Nat.gcd m n
def lowQ (m n : Nat) : Nat := n / Nat.gcd m n
theorem nl_mul2 {m n d e : Nat} (hm : nl m ≤ d) (hn : nl n ≤ e) : nl (m * n) ≤ d + e := nl_le_iff.2 (sm_mul (nl_le_iff.1 hm) (nl_le_iff.1 hn))
def mulTab (w : World) (s s' : Bool) (p q p' q' : Nat) : List (Nat × Tmp × Sp) :=
   [(0, 5, .val (Value.pointer (some ⟨w.heap.size, 0, none⟩))),
    (1, 6, .val (Value.bool s)),
    (2, 7, .val (Value.pointer (some ⟨w.heap.size + 1, 0, none⟩))),
    (3, 8, .val (Value.bool s')),
    (4, 9, .val (Value.bool (s != s'))),
    (5, 10, .val (Value.pointer (some ⟨w.heap.size, 1, none⟩))),
    (6, 11, .nat (p)),
    (7, 12, .val (Value.pointer (some ⟨w.heap.size + 1, 1, none⟩))),
    (8, 13, .nat (p')),
    (9, 14, .nat (p * p')),
    (10, 15, .val (Value.pointer (some ⟨w.heap.size, 2, none⟩))),
    (11, 16, .nat (q)),
    (12, 17, .val (Value.pointer (some ⟨w.heap.size + 1, 2, none⟩))),
    (13, 18, .nat (q')),
    (14, 19, .nat (q * q')),
    (15, 20, .fr (lowS (s != s') (p * p')) (lowP (p * p') (q * q')) (lowQ (p * p') (q * q')))]
theorem c_fMul (va vb : Value) (s s' : Bool) (p q p' q' : Nat) (w : World) (ha : IsF w va s p q) (hb : IsF w vb s' p' q') (hp : nl p ≤ 1000000000) (hq : nl q ≤ 1000000000) (hpp : nl p' ≤ 1000000000) (hqq : nl q' ≤ 1000000000) (h0 : q ≠ 0) (h0' : q' ≠ 0) :
    Calls Try.prog 53 #[va, vb] w fun e w' => RetF w (lowS (s != s') (p * p')) (lowP (p * p') (q * q')) (lowQ (p * p') (q * q')) e w' := by
  have hp' : nl p ≤ 1000000000000 := by omega
  have hq' : nl q ≤ 1000000000000 := by omega
  have hpp' : nl p' ≤ 1000000000000 := by omega
  have hqq' : nl q' ≤ 1000000000000 := by omega
  have hM : nl (p * p') ≤ 10000000000 := Nat.le_trans (nl_mul2 hp hpp) (by decide)
  have hN : nl (q * q') ≤ 10000000000 := Nat.le_trans (nl_mul2 hq hqq) (by decide)
  have hN0 : q * q' ≠ 0 := Nat.mul_ne_zero h0 h0'
  obtain ⟨a, c, b, d, a', c', b', d', rfl, rfl, k0, k1, k2⟩ := boxF2 ha hb
  clear ha hb
  have hz : ((w.alloc (.cells #[.bool s, .slice a (nl p) c, .slice b (nl q) d] 30)).alloc (.cells #[.bool s', .slice a' (nl p') c', .slice b' (nl q') d'] 30)).heap.size = w.heap.size + 2 := by simp
  obtain ⟨k3, k4⟩ := resF (w := (w.alloc (.cells #[.bool s, .slice a (nl p) c, .slice b (nl q) d] 30)).alloc (.cells #[.bool s', .slice a' (nl p') c', .slice b' (nl q') d'] 30))
  rw [hz] at k4
  clear hz
  go_enter Try.func53, Try.ntmps53
  go_upto_region 0 with (fail)
  go_cut [2, 3, 4] (fun s_2 s_3 s_4 wx => s_2 = .pointer (some ⟨w.heap.size, 0, none⟩) ∧ s_3 = .pointer (some ⟨w.heap.size + 1, 0, none⟩) ∧ s_4 = .pointer (some ⟨w.heap.size + 2, 0, none⟩) ∧ VarF wx w.heap.size s p q ∧ VarF wx (w.heap.size + 1) s' p' q' ∧ VarFB wx (w.heap.size + 2) false none 0 0 none 0 0 ∧ Below w.heap.size w wx)
  case first =>
    go_wp2_with fail
    go_meet
    case rel => exact ⟨rfl, rfl, rfl, k1.mono k3, k2.mono k3, k4, k0.trans (k3.mono k0.size)⟩
  case rest =>
  clear k0 k1 k2 k3 k4
  obtain ⟨rfl, rfl, rfl, Va, Vb, Vr, hb1⟩ := hcut
  go_upto_region 1 with (fail)
  refine tG Try.f53 1 (mulTab w s s' p q p' q') [] 4 1 ?_ ?_
  · refine ⟨fun _ _ F => gR rfl rfl (arm_fieldF rfl (F.k 2 (Value.pointer (some ⟨w.heap.size, 0, none⟩))) (run_field0 _)).b, ?_⟩
    refine ⟨fun _ _ F => gR rfl rfl (arm_loadS rfl (F.f 0 rfl) (Va.mono F.below)).b, ?_⟩
    refine ⟨fun _ _ F => gR rfl rfl (arm_fieldF rfl (F.k 3 (Value.pointer (some ⟨w.heap.size + 1, 0, none⟩))) (run_field0 _)).b, ?_⟩
    refine ⟨fun _ _ F => gR rfl rfl (arm_loadS rfl (F.f 2 rfl) (Vb.mono F.below)).b, ?_⟩
    refine ⟨fun _ _ F => gR rfl rfl (arm_bin rfl (F.f 1 rfl) (F.f 3 rfl) (fun _ => rfl) (fun w => run_neB _ _ w)).b, ?_⟩
    refine ⟨fun _ _ F => gR rfl rfl (arm_fieldF rfl (F.k 2 (Value.pointer (some ⟨w.heap.size, 0, none⟩))) (run_field1 _)).b, ?_⟩
    refine ⟨fun _ _ F => gR rfl rfl (arm_load1 rfl (F.f 5 rfl) (Va.mono F.below)).b, ?_⟩
    refine ⟨fun _ _ F => gR rfl rfl (arm_fieldF rfl (F.k 3 (Value.pointer (some ⟨w.heap.size + 1, 0, none⟩))) (run_field1 _)).b, ?_⟩
    refine ⟨fun _ _ F => gR rfl rfl (arm_load1 rfl (F.f 7 rfl) (Vb.mono F.below)).b, ?_⟩
    refine ⟨fun _ _ F => gR rfl rfl (arm_Mul rfl (F.f 6 rfl) (F.f 8 rfl) hp' hpp' rfl).b, ?_⟩
    refine ⟨fun _ _ F => gR rfl rfl (arm_fieldF rfl (F.k 2 (Value.pointer (some ⟨w.heap.size, 0, none⟩))) (run_field2 _)).b, ?_⟩
    refine ⟨fun _ _ F => gR rfl rfl (arm_load2 rfl (F.f 10 rfl) (Va.mono F.below)).b, ?_⟩
    refine ⟨fun _ _ F => gR rfl rfl (arm_fieldF rfl (F.k 3 (Value.pointer (some ⟨w.heap.size + 1, 0, none⟩))) (run_field2 _)).b, ?_⟩
    refine ⟨fun _ _ F => gR rfl rfl (arm_load2 rfl (F.f 12 rfl) (Vb.mono F.below)).b, ?_⟩
    refine ⟨fun _ _ F => gR rfl rfl (arm_Mul rfl (F.f 11 rfl) (F.f 13 rfl) hq' hqq' rfl).b, ?_⟩
    refine ⟨fun _ _ F => gR rfl rfl (arm_lowest rfl (F.f 4 rfl) (F.f 9 rfl) (F.f 14 rfl) hM hN hN0 rfl rfl rfl).b, ?_⟩
    exact trivial
  intro E' hE gp wp bp G Gs
  obtain rfl : E' = [] := by simpa [subs] using hE
  obtain ⟨x1, c1, x2, c2, e8, n1, n2⟩ := G 15 20 _ (by simp) rfl
  have Vr2 := Vr.mono bp Vr.lt
  clear G Gs hE
  simp only [mulTab]
  simp only [qA, setD, qZ, qS, e8]
  refine wpAny_storeF (j := 16) (by kernel_rfl) rfl rfl rfl rfl rfl rfl Vr2 ?_
  refine wpAny_done (by kernel_rfl) ?_ _
  have hB := putF_below (s := (lowS (s != s') (p * p'))) (a := x1) (L := nl (lowP (p * p') (q * q'))) (c := c1) (b := x2) (M := nl (lowQ (p * p') (q * q'))) (d := c2) (hb1.trans (bp.mono hb1.size)) (show w.heap.size ≤ w.heap.size + 2 by omega)
  rename_i hK
  refine hK _ _ ?_
  refine wp_ret ?_
  show bodyPost Try.prog Try.f53 _ .ret _ _
  exact bodyPost_ret (res_F rfl rfl (VarFB.put Vr2)) rfl ⟨_, rfl, ⟨x1, c1, x2, c2, rfl, n1.putF Vr2, n2.putF Vr2⟩, hB⟩
def fNegTabT (w : World) (p q : Nat) : List (Nat × Tmp × Sp) :=
   [(0, 3, .val (Value.pointer (some ⟨w.heap.size, 0, none⟩))),
    (1, 4, .val (Value.bool true)),
    (2, 5, .val (Value.bool false)),
    (3, 6, .val (Value.bool false)),
    (4, 7, .any),
    (5, 8, .any),
    (6, 9, .any),
    (7, 10, .any),
    (8, 11, .val (Value.bool false)),
    (9, 12, .val (Value.pointer (some ⟨w.heap.size, 1, none⟩))),
    (10, 13, .nat (p)),
    (11, 14, .nat (0)),
    (12, 15, .nat (p)),
    (13, 16, .val (Value.pointer (some ⟨w.heap.size, 2, none⟩))),
    (14, 17, .nat (q)),
    (15, 18, .nat (0)),
    (16, 19, .nat (q)),
    (17, 20, .fr false (p) (q))]
def fNegTabZ (w : World) (p q : Nat) : List (Nat × Tmp × Sp) :=
   [(0, 3, .val (Value.pointer (some ⟨w.heap.size, 0, none⟩))),
    (1, 4, .val (Value.bool false)),
    (2, 5, .val (Value.bool true)),
    (3, 6, .val (Value.bool true)),
    (4, 7, .val (Value.pointer (some ⟨w.heap.size, 1, none⟩))),
    (5, 8, .nat (p)),
    (6, 9, .val (Value.bool true)),
    (7, 10, .val (Value.bool false)),
    (8, 11, .val (Value.bool false)),
    (9, 12, .val (Value.pointer (some ⟨w.heap.size, 1, none⟩))),
    (10, 13, .nat (p)),
    (11, 14, .nat (0)),
    (12, 15, .nat (p)),
    (13, 16, .val (Value.pointer (some ⟨w.heap.size, 2, none⟩))),
    (14, 17, .nat (q)),
    (15, 18, .nat (0)),
    (16, 19, .nat (q)),
    (17, 20, .fr false (p) (q))]
def fNegTabN (w : World) (p q : Nat) : List (Nat × Tmp × Sp) :=
   [(0, 3, .val (Value.pointer (some ⟨w.heap.size, 0, none⟩))),
    (1, 4, .val (Value.bool false)),
    (2, 5, .val (Value.bool true)),
    (3, 6, .val (Value.bool true)),
    (4, 7, .val (Value.pointer (some ⟨w.heap.size, 1, none⟩))),
    (5, 8, .nat (p)),
    (6, 9, .val (Value.bool false)),
    (7, 10, .val (Value.bool true)),
    (8, 11, .val (Value.bool true)),
    (9, 12, .val (Value.pointer (some ⟨w.heap.size, 1, none⟩))),
    (10, 13, .nat (p)),
    (11, 14, .nat (0)),
    (12, 15, .nat (p)),
    (13, 16, .val (Value.pointer (some ⟨w.heap.size, 2, none⟩))),
    (14, 17, .nat (q)),
    (15, 18, .nat (0)),
    (16, 19, .nat (q)),
    (17, 20, .fr true (p) (q))]
theorem c_fNeg (va : Value) (s : Bool) (p q : Nat) (w : World) (ha : IsF w va s p q) (hp : nl p ≤ 1000000000) (hq : nl q ≤ 1000000000) :
    Calls Try.prog 92 #[va] w fun e w' => RetF w (lowS (!s) p) p q e w' := by
  have hp' : nl p ≤ 1000000000000 := by omega
  have hq' : nl q ≤ 1000000000000 := by omega
  obtain ⟨a, c, b, d, rfl, k0, k1⟩ := boxF ha
  clear ha
  obtain ⟨k3, k4⟩ := resF (w := w.alloc (.cells #[.bool s, .slice a (nl p) c, .slice b (nl q) d] 30))
  rw [World.size_alloc] at k4
  go_enter Try.func92, Try.ntmps92
  go_upto_region 0 with (fail)
  go_cut [1, 2] (fun s_1 s_2 wx => s_1 = .pointer (some ⟨w.heap.size, 0, none⟩) ∧ s_2 = .pointer (some ⟨w.heap.size + 1, 0, none⟩) ∧ VarF wx w.heap.size s p q ∧ VarFB wx (w.heap.size + 1) false none 0 0 none 0 0 ∧ Below w.heap.size w wx)
  case first =>
    go_wp2_with fail
    go_meet
    case rel => exact ⟨rfl, rfl, k1.mono k3, k4, k0.trans (k3.mono k0.size)⟩
  case rest =>
  clear k0 k1 k3 k4
  obtain ⟨rfl, rfl, Va, Vr, hb1⟩ := hcut
  rcases Bool.eq_false_or_eq_true s with rfl | rfl
  · go_upto_region 1 with (fail)
    refine tG Try.f92 1 (fNegTabT w p q) [] 4 1 ?_ ?_
    · refine ⟨fun _ _ F => gR rfl rfl (arm_fieldF rfl (F.k 1 (Value.pointer (some ⟨w.heap.size, 0, none⟩))) (run_field0 _)).b, ?_⟩
      refine ⟨fun _ _ F => gR rfl rfl (arm_loadS rfl (F.f 0 rfl) (Va.mono F.below)).b, ?_⟩
      refine ⟨fun _ _ F => gR rfl rfl (arm_not rfl (F.f 1 rfl)).b, ?_⟩
      refine ⟨fun _ _ F => gR rfl rfl (arm_move (.inl rfl) (F.f 2 rfl)).b, ?_⟩
      refine ⟨fun a' w' F => StepG.skip rfl (unwanted rfl rfl (F.at' 3 6 _ rfl (by kernel_rfl)) rfl) trivial, ?_⟩
      refine ⟨fun a' w' F => StepG.skip rfl (unwanted rfl rfl (F.at' 3 6 _ rfl (by kernel_rfl)) rfl) trivial, ?_⟩
      refine ⟨fun a' w' F => StepG.skip rfl (unwanted rfl rfl (F.at' 3 6 _ rfl (by kernel_rfl)) rfl) trivial, ?_⟩
      refine ⟨fun a' w' F => StepG.skip rfl (unwanted rfl rfl (F.at' 3 6 _ rfl (by kernel_rfl)) rfl) trivial, ?_⟩
      refine ⟨fun _ _ F => gR rfl rfl (arm_pick rfl (F.f 3 rfl) (fun h => by cases h) (fun _ => Is.const)).b, ?_⟩
      refine ⟨fun _ _ F => gR rfl rfl (arm_fieldF rfl (F.k 1 (Value.pointer (some ⟨w.heap.size, 0, none⟩))) (run_field1 _)).b, ?_⟩
      refine ⟨fun _ _ F => gR rfl rfl (arm_load1 rfl (F.f 9 rfl) (Va.mono F.below)).b, ?_⟩
      refine ⟨fun _ _ F => gR rfl rfl (arm_build0 rfl).b, ?_⟩
      refine ⟨fun _ _ F => gR rfl rfl (arm_Add rfl (F.f 10 rfl) (F.f 11 rfl) hp' (by rw [nl_zero]; omega) rfl).b, ?_⟩
      refine ⟨fun _ _ F => gR rfl rfl (arm_fieldF rfl (F.k 1 (Value.pointer (some ⟨w.heap.size, 0, none⟩))) (run_field2 _)).b, ?_⟩
      refine ⟨fun _ _ F => gR rfl rfl (arm_load2 rfl (F.f 13 rfl) (Va.mono F.below)).b, ?_⟩
      refine ⟨fun _ _ F => gR rfl rfl (arm_build0 rfl).b, ?_⟩
      refine ⟨fun _ _ F => gR rfl rfl (arm_Add rfl (F.f 14 rfl) (F.f 15 rfl) hq' (by rw [nl_zero]; omega) rfl).b, ?_⟩
      refine ⟨fun _ _ F => gR rfl rfl (arm_buildF rfl (F.f 8 rfl) (F.f 12 rfl) (F.f 16 rfl)).b, ?_⟩
      exact trivial
    intro E' hE gp wp bp G Gs
    obtain rfl : E' = [] := by simpa [subs] using hE
    obtain ⟨x1, c1, x2, c2, e8, n1, n2⟩ := G 17 20 _ (by simp) rfl
    have Vr2 := Vr.mono bp Vr.lt
    clear G Gs hE
    simp only [fNegTabT]
    simp only [qA, setD, qZ, qS, e8]
    refine wpAny_storeF (j := 18) (by kernel_rfl) rfl rfl rfl rfl rfl rfl Vr2 ?_
    refine wpAny_done (by kernel_rfl) ?_ _
    have hB := putF_below (s := false) (a := x1) (L := nl (p)) (c := c1) (b := x2) (M := nl (q)) (d := c2) (hb1.trans (bp.mono hb1.size)) (show w.heap.size ≤ w.heap.size + 1 by omega)
    rename_i hK
    refine hK _ _ ?_
    refine wp_ret ?_
    show bodyPost Try.prog Try.f92 _ .ret _ _
    exact bodyPost_ret (res_F rfl rfl (VarFB.put Vr2)) rfl ⟨_, rfl, ⟨x1, c1, x2, c2, rfl, n1.putF Vr2, n2.putF Vr2⟩, hB⟩
  · by_cases hz0 : p = 0
    · have hz : decide (p = 0) = true := decide_eq_true hz0
      have HZ := Lib.hid hz0
      clear hz0
      go_upto_region 1 with (fail)
      refine tG Try.f92 1 (fNegTabZ w p q) [] 4 1 ?_ ?_
      · refine ⟨fun _ _ F => gR rfl rfl (arm_fieldF rfl (F.k 1 (Value.pointer (some ⟨w.heap.size, 0, none⟩))) (run_field0 _)).b, ?_⟩
        refine ⟨fun _ _ F => gR rfl rfl (arm_loadS rfl (F.f 0 rfl) (Va.mono F.below)).b, ?_⟩
        refine ⟨fun _ _ F => gR rfl rfl (arm_not rfl (F.f 1 rfl)).b, ?_⟩
        refine ⟨fun _ _ F => gR rfl rfl (arm_move (.inl rfl) (F.f 2 rfl)).b, ?_⟩
        refine ⟨fun _ _ F => gG F rfl rfl rfl rfl (arm_fieldF rfl (F.k 1 (Value.pointer (some ⟨w.heap.size, 0, none⟩))) (run_field1 _)).b, ?_⟩
        refine ⟨fun _ _ F => gG F rfl rfl rfl rfl (arm_load1 rfl (F.f 4 rfl) (Va.mono F.below)).b, ?_⟩
        refine ⟨fun _ _ F => gG F rfl rfl rfl rfl (arm_isZero rfl (F.f 5 rfl) hp' hz).b, ?_⟩
        refine ⟨fun _ _ F => gG F rfl rfl rfl rfl (arm_not rfl (F.f 6 rfl)).b, ?_⟩
        refine ⟨fun _ _ F => gR rfl rfl (arm_pick rfl (F.f 3 rfl) (fun _ => (F.f 7 rfl)) (fun h => by cases h)).b, ?_⟩
        refine ⟨fun _ _ F => gR rfl rfl (arm_fieldF rfl (F.k 1 (Value.pointer (some ⟨w.heap.size, 0, none⟩))) (run_field1 _)).b, ?_⟩
        refine ⟨fun _ _ F => gR rfl rfl (arm_load1 rfl (F.f 9 rfl) (Va.mono F.below)).b, ?_⟩
        refine ⟨fun _ _ F => gR rfl rfl (arm_build0 rfl).b, ?_⟩
        refine ⟨fun _ _ F => gR rfl rfl (arm_Add rfl (F.f 10 rfl) (F.f 11 rfl) hp' (by rw [nl_zero]; omega) rfl).b, ?_⟩
        refine ⟨fun _ _ F => gR rfl rfl (arm_fieldF rfl (F.k 1 (Value.pointer (some ⟨w.heap.size, 0, none⟩))) (run_field2 _)).b, ?_⟩
        refine ⟨fun _ _ F => gR rfl rfl (arm_load2 rfl (F.f 13 rfl) (Va.mono F.below)).b, ?_⟩
        refine ⟨fun _ _ F => gR rfl rfl (arm_build0 rfl).b, ?_⟩
        refine ⟨fun _ _ F => gR rfl rfl (arm_Add rfl (F.f 14 rfl) (F.f 15 rfl) hq' (by rw [nl_zero]; omega) rfl).b, ?_⟩
        refine ⟨fun _ _ F => gR rfl rfl (arm_buildF rfl (F.f 8 rfl) (F.f 12 rfl) (F.f 16 rfl)).b, ?_⟩
        exact trivial
      intro E' hE gp wp bp G Gs
      obtain rfl : E' = [] := by simpa [subs] using hE
      obtain ⟨x1, c1, x2, c2, e8, n1, n2⟩ := G 17 20 _ (by simp) rfl
      have Vr2 := Vr.mono bp Vr.lt
      clear G Gs hE
      simp only [fNegTabZ]
      simp only [qA, setD, qZ, qS, e8]
      refine wpAny_storeF (j := 18) (by kernel_rfl) rfl rfl rfl rfl rfl rfl Vr2 ?_
      refine wpAny_done (by kernel_rfl) ?_ _
      have hB := putF_below (s := false) (a := x1) (L := nl (p)) (c := c1) (b := x2) (M := nl (q)) (d := c2) (hb1.trans (bp.mono hb1.size)) (show w.heap.size ≤ w.heap.size + 1 by omega)
      rename_i hK
      refine hK _ _ ?_
      refine wp_ret ?_
      show bodyPost Try.prog Try.f92 _ .ret _ _
      exact bodyPost_ret (res_F rfl rfl (VarFB.put Vr2)) rfl ⟨_, rfl, ⟨x1, c1, x2, c2, by unfold lowS; rw [decide_eq_true HZ.out]; rfl, n1.putF Vr2, n2.putF Vr2⟩, hB⟩
    · have hz : decide (p = 0) = false := decide_eq_false hz0
      have HZ := Lib.hid hz0
      clear hz0
      go_upto_region 1 with (fail)
      refine tG Try.f92 1 (fNegTabN w p q) [] 4 1 ?_ ?_
      · refine ⟨fun _ _ F => gR rfl rfl (arm_fieldF rfl (F.k 1 (Value.pointer (some ⟨w.heap.size, 0, none⟩))) (run_field0 _)).b, ?_⟩
        refine ⟨fun _ _ F => gR rfl rfl (arm_loadS rfl (F.f 0 rfl) (Va.mono F.below)).b, ?_⟩
        refine ⟨fun _ _ F => gR rfl rfl (arm_not rfl (F.f 1 rfl)).b, ?_⟩
        refine ⟨fun _ _ F => gR rfl rfl (arm_move (.inl rfl) (F.f 2 rfl)).b, ?_⟩
        refine ⟨fun _ _ F => gG F rfl rfl rfl rfl (arm_fieldF rfl (F.k 1 (Value.pointer (some ⟨w.heap.size, 0, none⟩))) (run_field1 _)).b, ?_⟩
        refine ⟨fun _ _ F => gG F rfl rfl rfl rfl (arm_load1 rfl (F.f 4 rfl) (Va.mono F.below)).b, ?_⟩
        refine ⟨fun _ _ F => gG F rfl rfl rfl rfl (arm_isZero rfl (F.f 5 rfl) hp' hz).b, ?_⟩
        refine ⟨fun _ _ F => gG F rfl rfl rfl rfl (arm_not rfl (F.f 6 rfl)).b, ?_⟩
        refine ⟨fun _ _ F => gR rfl rfl (arm_pick rfl (F.f 3 rfl) (fun _ => (F.f 7 rfl)) (fun h => by cases h)).b, ?_⟩
        refine ⟨fun _ _ F => gR rfl rfl (arm_fieldF rfl (F.k 1 (Value.pointer (some ⟨w.heap.size, 0, none⟩))) (run_field1 _)).b, ?_⟩
        refine ⟨fun _ _ F => gR rfl rfl (arm_load1 rfl (F.f 9 rfl) (Va.mono F.below)).b, ?_⟩
        refine ⟨fun _ _ F => gR rfl rfl (arm_build0 rfl).b, ?_⟩
        refine ⟨fun _ _ F => gR rfl rfl (arm_Add rfl (F.f 10 rfl) (F.f 11 rfl) hp' (by rw [nl_zero]; omega) rfl).b, ?_⟩
        refine ⟨fun _ _ F => gR rfl rfl (arm_fieldF rfl (F.k 1 (Value.pointer (some ⟨w.heap.size, 0, none⟩))) (run_field2 _)).b, ?_⟩
        refine ⟨fun _ _ F => gR rfl rfl (arm_load2 rfl (F.f 13 rfl) (Va.mono F.below)).b, ?_⟩
        refine ⟨fun _ _ F => gR rfl rfl (arm_build0 rfl).b, ?_⟩
        refine ⟨fun _ _ F => gR rfl rfl (arm_Add rfl (F.f 14 rfl) (F.f 15 rfl) hq' (by rw [nl_zero]; omega) rfl).b, ?_⟩
        refine ⟨fun _ _ F => gR rfl rfl (arm_buildF rfl (F.f 8 rfl) (F.f 12 rfl) (F.f 16 rfl)).b, ?_⟩
        exact trivial
      intro E' hE gp wp bp G Gs
      obtain rfl : E' = [] := by simpa [subs] using hE
      obtain ⟨x1, c1, x2, c2, e8, n1, n2⟩ := G 17 20 _ (by simp) rfl
      have Vr2 := Vr.mono bp Vr.lt
      clear G Gs hE
      simp only [fNegTabN]
      simp only [qA, setD, qZ, qS, e8]
      refine wpAny_storeF (j := 18) (by kernel_rfl) rfl rfl rfl rfl rfl rfl Vr2 ?_
      refine wpAny_done (by kernel_rfl) ?_ _
      have hB := putF_below (s := true) (a := x1) (L := nl (p)) (c := c1) (b := x2) (M := nl (q)) (d := c2) (hb1.trans (bp.mono hb1.size)) (show w.heap.size ≤ w.heap.size + 1 by omega)
      rename_i hK
      refine hK _ _ ?_
      refine wp_ret ?_
      show bodyPost Try.prog Try.f92 _ .ret _ _
      exact bodyPost_ret (res_F rfl rfl (VarFB.put Vr2)) rfl ⟨_, rfl, ⟨x1, c1, x2, c2, by unfold lowS; rw [decide_eq_false HZ.out]; rfl, n1.putF Vr2, n2.putF Vr2⟩, hB⟩
def rNegTabT (w : World) (p q : Nat) : List (Nat × Tmp × Sp) :=
   [(0, 3, .val (Value.pointer (some ⟨w.heap.size, 0, none⟩))),
    (1, 4, .val (Value.bool true)),
    (2, 5, .val (Value.bool false)),
    (3, 6, .val (Value.bool false)),
    (4, 7, .any),
    (5, 8, .any),
    (6, 9, .any),
    (7, 10, .any),
    (8, 11, .val (Value.bool false)),
    (9, 12, .val (Value.pointer (some ⟨w.heap.size, 1, none⟩))),
    (10, 13, .nat (p)),
    (11, 14, .val (Value.pointer (some ⟨w.heap.size, 2, none⟩))),
    (12, 15, .nat (q)),
    (13, 16, .fr false (p) (q))]
def rNegTabZ (w : World) (p q : Nat) : List (Nat × Tmp × Sp) :=
   [(0, 3, .val (Value.pointer (some ⟨w.heap.size, 0, none⟩))),
    (1, 4, .val (Value.bool false)),
    (2, 5, .val (Value.bool true)),
    (3, 6, .val (Value.bool true)),
    (4, 7, .val (Value.pointer (some ⟨w.heap.size, 1, none⟩))),
    (5, 8, .nat (p)),
    (6, 9, .val (Value.bool true)),
    (7, 10, .val (Value.bool false)),
    (8, 11, .val (Value.bool false)),
    (9, 12, .val (Value.pointer (some ⟨w.heap.size, 1, none⟩))),
    (10, 13, .nat (p)),
    (11, 14, .val (Value.pointer (some ⟨w.heap.size, 2, none⟩))),
    (12, 15, .nat (q)),
    (13, 16, .fr false (p) (q))]
def rNegTabN (w : World) (p q : Nat) : List (Nat × Tmp × Sp) :=
   [(0, 3, .val (Value.pointer (some ⟨w.heap.size, 0, none⟩))),
    (1, 4, .val (Value.bool false)),
    (2, 5, .val (Value.bool true)),
    (3, 6, .val (Value.bool true)),
    (4, 7, .val (Value.pointer (some ⟨w.heap.size, 1, none⟩))),
    (5, 8, .nat (p)),
    (6, 9, .val (Value.bool false)),
    (7, 10, .val (Value.bool true)),
    (8, 11, .val (Value.bool true)),
    (9, 12, .val (Value.pointer (some ⟨w.heap.size, 1, none⟩))),
    (10, 13, .nat (p)),
    (11, 14, .val (Value.pointer (some ⟨w.heap.size, 2, none⟩))),
    (12, 15, .nat (q)),
    (13, 16, .fr true (p) (q))]
theorem c_rNeg (va : Value) (s : Bool) (p q : Nat) (w : World) (ha : IsF w va s p q) (hp : nl p ≤ 1000000000) (hq : nl q ≤ 1000000000) :
    Calls Try.prog 93 #[va] w fun e w' => RetF w (lowS (!s) p) p q e w' := by
  have hp' : nl p ≤ 1000000000000 := by omega
  have hq' : nl q ≤ 1000000000000 := by omega
  obtain ⟨a, c, b, d, rfl, k0, k1⟩ := boxF ha
  clear ha
  obtain ⟨k3, k4⟩ := resF (w := w.alloc (.cells #[.bool s, .slice a (nl p) c, .slice b (nl q) d] 30))
  rw [World.size_alloc] at k4
  go_enter Try.func93, Try.ntmps93
  go_upto_region 0 with (fail)
  go_cut [1, 2] (fun s_1 s_2 wx => s_1 = .pointer (some ⟨w.heap.size, 0, none⟩) ∧ s_2 = .pointer (some ⟨w.heap.size + 1, 0, none⟩) ∧ VarF wx w.heap.size s p q ∧ VarFB wx (w.heap.size + 1) false none 0 0 none 0 0 ∧ Below w.heap.size w wx)
  case first =>
    go_wp2_with fail
    go_meet
    case rel => exact ⟨rfl, rfl, k1.mono k3, k4, k0.trans (k3.mono k0.size)⟩
  case rest =>
  clear k0 k1 k3 k4
  obtain ⟨rfl, rfl, Va, Vr, hb1⟩ := hcut
  rcases Bool.eq_false_or_eq_true s with rfl | rfl
  · go_upto_region 1 with (fail)
    refine tG Try.f93 1 (rNegTabT w p q) [] 4 1 ?_ ?_
    · refine ⟨fun _ _ F => gR rfl rfl (arm_fieldF rfl (F.k 1 (Value.pointer (some ⟨w.heap.size, 0, none⟩))) (run_field0 _)).b, ?_⟩
      refine ⟨fun _ _ F => gR rfl rfl (arm_loadS rfl (F.f 0 rfl) (Va.mono F.below)).b, ?_⟩
      refine ⟨fun _ _ F => gR rfl rfl (arm_not rfl (F.f 1 rfl)).b, ?_⟩
      refine ⟨fun _ _ F => gR rfl rfl (arm_move (.inl rfl) (F.f 2 rfl)).b, ?_⟩
      refine ⟨fun a' w' F => StepG.skip rfl (unwanted rfl rfl (F.at' 3 6 _ rfl (by kernel_rfl)) rfl) trivial, ?_⟩
      refine ⟨fun a' w' F => StepG.skip rfl (unwanted rfl rfl (F.at' 3 6 _ rfl (by kernel_rfl)) rfl) trivial, ?_⟩
      refine ⟨fun a' w' F => StepG.skip rfl (unwanted rfl rfl (F.at' 3 6 _ rfl (by kernel_rfl)) rfl) trivial, ?_⟩
      refine ⟨fun a' w' F => StepG.skip rfl (unwanted rfl rfl (F.at' 3 6 _ rfl (by kernel_rfl)) rfl) trivial, ?_⟩
      refine ⟨fun _ _ F => gR rfl rfl (arm_pick rfl (F.f 3 rfl) (fun h => by cases h) (fun _ => Is.const)).b, ?_⟩
      refine ⟨fun _ _ F => gR rfl rfl (arm_fieldF rfl (F.k 1 (Value.pointer (some ⟨w.heap.size, 0, none⟩))) (run_field1 _)).b, ?_⟩
      refine ⟨fun _ _ F => gR rfl rfl (arm_load1 rfl (F.f 9 rfl) (Va.mono F.below)).b, ?_⟩
      refine ⟨fun _ _ F => gR rfl rfl (arm_fieldF rfl (F.k 1 (Value.pointer (some ⟨w.heap.size, 0, none⟩))) (run_field2 _)).b, ?_⟩
      refine ⟨fun _ _ F => gR rfl rfl (arm_load2 rfl (F.f 11 rfl) (Va.mono F.below)).b, ?_⟩
      refine ⟨fun _ _ F => gR rfl rfl (arm_buildF rfl (F.f 8 rfl) (F.f 10 rfl) (F.f 12 rfl)).b, ?_⟩
      exact trivial
    intro E' hE gp wp bp G Gs
    obtain rfl : E' = [] := by simpa [subs] using hE
    obtain ⟨x1, c1, x2, c2, e8, n1, n2⟩ := G 13 16 _ (by simp) rfl
    have Vr2 := Vr.mono bp Vr.lt
    clear G Gs hE
    simp only [rNegTabT]
    simp only [qA, setD, qZ, qS, e8]
    refine wpAny_storeF (j := 14) (by kernel_rfl) rfl rfl rfl rfl rfl rfl Vr2 ?_
    refine wpAny_done (by kernel_rfl) ?_ _
    have hB := putF_below (s := false) (a := x1) (L := nl (p)) (c := c1) (b := x2) (M := nl (q)) (d := c2) (hb1.trans (bp.mono hb1.size)) (show w.heap.size ≤ w.heap.size + 1 by omega)
    rename_i hK
    refine hK _ _ ?_
    refine wp_ret ?_
    show bodyPost Try.prog Try.f93 _ .ret _ _
    exact bodyPost_ret (res_F rfl rfl (VarFB.put Vr2)) rfl ⟨_, rfl, ⟨x1, c1, x2, c2, rfl, n1.putF Vr2, n2.putF Vr2⟩, hB⟩
  · by_cases hz0 : p = 0
    · have hz : decide (p = 0) = true := decide_eq_true hz0
      have HZ := Lib.hid hz0
      clear hz0
      go_upto_region 1 with (fail)
      refine tG Try.f93 1 (rNegTabZ w p q) [] 4 1 ?_ ?_
      · refine ⟨fun _ _ F => gR rfl rfl (arm_fieldF rfl (F.k 1 (Value.pointer (some ⟨w.heap.size, 0, none⟩))) (run_field0 _)).b, ?_⟩
        refine ⟨fun _ _ F => gR rfl rfl (arm_loadS rfl (F.f 0 rfl) (Va.mono F.below)).b, ?_⟩
        refine ⟨fun _ _ F => gR rfl rfl (arm_not rfl (F.f 1 rfl)).b, ?_⟩
        refine ⟨fun _ _ F => gR rfl rfl (arm_move (.inl rfl) (F.f 2 rfl)).b, ?_⟩
        refine ⟨fun _ _ F => gG F rfl rfl rfl rfl (arm_fieldF rfl (F.k 1 (Value.pointer (some ⟨w.heap.size, 0, none⟩))) (run_field1 _)).b, ?_⟩
        refine ⟨fun _ _ F => gG F rfl rfl rfl rfl (arm_load1 rfl (F.f 4 rfl) (Va.mono F.below)).b, ?_⟩
        refine ⟨fun _ _ F => gG F rfl rfl rfl rfl (arm_zero rfl (F.f 5 rfl) hp' hz).b, ?_⟩
        refine ⟨fun _ _ F => gG F rfl rfl rfl rfl (arm_not rfl (F.f 6 rfl)).b, ?_⟩
        refine ⟨fun _ _ F => gR rfl rfl (arm_pick rfl (F.f 3 rfl) (fun _ => (F.f 7 rfl)) (fun h => by cases h)).b, ?_⟩
        refine ⟨fun _ _ F => gR rfl rfl (arm_fieldF rfl (F.k 1 (Value.pointer (some ⟨w.heap.size, 0, none⟩))) (run_field1 _)).b, ?_⟩
        refine ⟨fun _ _ F => gR rfl rfl (arm_load1 rfl (F.f 9 rfl) (Va.mono F.below)).b, ?_⟩
        refine ⟨fun _ _ F => gR rfl rfl (arm_fieldF rfl (F.k 1 (Value.pointer (some ⟨w.heap.size, 0, none⟩))) (run_field2 _)).b, ?_⟩
        refine ⟨fun _ _ F => gR rfl rfl (arm_load2 rfl (F.f 11 rfl) (Va.mono F.below)).b, ?_⟩
        refine ⟨fun _ _ F => gR rfl rfl (arm_buildF rfl (F.f 8 rfl) (F.f 10 rfl) (F.f 12 rfl)).b, ?_⟩
        exact trivial
      intro E' hE gp wp bp G Gs
      obtain rfl : E' = [] := by simpa [subs] using hE
      obtain ⟨x1, c1, x2, c2, e8, n1, n2⟩ := G 13 16 _ (by simp) rfl
      have Vr2 := Vr.mono bp Vr.lt
      clear G Gs hE
      simp only [rNegTabZ]
      simp only [qA, setD, qZ, qS, e8]
      refine wpAny_storeF (j := 14) (by kernel_rfl) rfl rfl rfl rfl rfl rfl Vr2 ?_
      refine wpAny_done (by kernel_rfl) ?_ _
      have hB := putF_below (s := false) (a := x1) (L := nl (p)) (c := c1) (b := x2) (M := nl (q)) (d := c2) (hb1.trans (bp.mono hb1.size)) (show w.heap.size ≤ w.heap.size + 1 by omega)
      rename_i hK
      refine hK _ _ ?_
      refine wp_ret ?_
      show bodyPost Try.prog Try.f93 _ .ret _ _
      exact bodyPost_ret (res_F rfl rfl (VarFB.put Vr2)) rfl ⟨_, rfl, ⟨x1, c1, x2, c2, by unfold lowS; rw [decide_eq_true HZ.out]; rfl, n1.putF Vr2, n2.putF Vr2⟩, hB⟩
    · have hz : decide (p = 0) = false := decide_eq_false hz0
      have HZ := Lib.hid hz0
      clear hz0
      go_upto_region 1 with (fail)
      refine tG Try.f93 1 (rNegTabN w p q) [] 4 1 ?_ ?_
      · refine ⟨fun _ _ F => gR rfl rfl (arm_fieldF rfl (F.k 1 (Value.pointer (some ⟨w.heap.size, 0, none⟩))) (run_field0 _)).b, ?_⟩
        refine ⟨fun _ _ F => gR rfl rfl (arm_loadS rfl (F.f 0 rfl) (Va.mono F.below)).b, ?_⟩
        refine ⟨fun _ _ F => gR rfl rfl (arm_not rfl (F.f 1 rfl)).b, ?_⟩
        refine ⟨fun _ _ F => gR rfl rfl (arm_move (.inl rfl) (F.f 2 rfl)).b, ?_⟩
        refine ⟨fun _ _ F => gG F rfl rfl rfl rfl (arm_fieldF rfl (F.k 1 (Value.pointer (some ⟨w.heap.size, 0, none⟩))) (run_field1 _)).b, ?_⟩
        refine ⟨fun _ _ F => gG F rfl rfl rfl rfl (arm_load1 rfl (F.f 4 rfl) (Va.mono F.below)).b, ?_⟩
        refine ⟨fun _ _ F => gG F rfl rfl rfl rfl (arm_zero rfl (F.f 5 rfl) hp' hz).b, ?_⟩
        refine ⟨fun _ _ F => gG F rfl rfl rfl rfl (arm_not rfl (F.f 6 rfl)).b, ?_⟩
        refine ⟨fun _ _ F => gR rfl rfl (arm_pick rfl (F.f 3 rfl) (fun _ => (F.f 7 rfl)) (fun h => by cases h)).b, ?_⟩
        refine ⟨fun _ _ F => gR rfl rfl (arm_fieldF rfl (F.k 1 (Value.pointer (some ⟨w.heap.size, 0, none⟩))) (run_field1 _)).b, ?_⟩
        refine ⟨fun _ _ F => gR rfl rfl (arm_load1 rfl (F.f 9 rfl) (Va.mono F.below)).b, ?_⟩
        refine ⟨fun _ _ F => gR rfl rfl (arm_fieldF rfl (F.k 1 (Value.pointer (some ⟨w.heap.size, 0, none⟩))) (run_field2 _)).b, ?_⟩
        refine ⟨fun _ _ F => gR rfl rfl (arm_load2 rfl (F.f 11 rfl) (Va.mono F.below)).b, ?_⟩
        refine ⟨fun _ _ F => gR rfl rfl (arm_buildF rfl (F.f 8 rfl) (F.f 10 rfl) (F.f 12 rfl)).b, ?_⟩
        exact trivial
      intro E' hE gp wp bp G Gs
      obtain rfl : E' = [] := by simpa [subs] using hE
      obtain ⟨x1, c1, x2, c2, e8, n1, n2⟩ := G 13 16 _ (by simp) rfl
      have Vr2 := Vr.mono bp Vr.lt
      clear G Gs hE
      simp only [rNegTabN]
      simp only [qA, setD, qZ, qS, e8]
      refine wpAny_storeF (j := 14) (by kernel_rfl) rfl rfl rfl rfl rfl rfl Vr2 ?_
      refine wpAny_done (by kernel_rfl) ?_ _
      have hB := putF_below (s := true) (a := x1) (L := nl (p)) (c := c1) (b := x2) (M := nl (q)) (d := c2) (hb1.trans (bp.mono hb1.size)) (show w.heap.size ≤ w.heap.size + 1 by omega)
      rename_i hK
      refine hK _ _ ?_
      refine wp_ret ?_
      show bodyPost Try.prog Try.f93 _ .ret _ _
      exact bodyPost_ret (res_F rfl rfl (VarFB.put Vr2)) rfl ⟨_, rfl, ⟨x1, c1, x2, c2, by unfold lowS; rw [decide_eq_false HZ.out]; rfl, n1.putF Vr2, n2.putF Vr2⟩, hB⟩
end Go.Proofs.Ythefidbgjgfeiaa
