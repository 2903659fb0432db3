/- NaturalKeeps: the walk. -/
import Derived.Test.YthpndmamegfbkaaS9
import Derived.Test.YthpndmamegfbkaaL8
namespace Go.Proofs.Ythpndmamegfbkaa
set_option linter.unusedSimpArgs false
set_option linter.unusedVariables false
open Go.RowKit
/-- A row of L digits, whatever they are, that may be written. -/
def RowI (w : World) (b off L : Nat) : Prop := ∀ j, j < L → (∃ x, w.cell? ⟨b, off + j, none⟩ = some (.int .u32 x)) ∧ w.frozen? ⟨b, off + j, none⟩ = false
theorem RowI.set {w : World} {b off L : Nat} (h : RowI w b off L) (p : Addr) (e : Int) : RowI (w.setCell p (.int .u32 e)) b off L := fun j hj => by
  obtain ⟨⟨x, h1⟩, h2⟩ := h j hj
  refine ⟨?_, by rw [World.frozen?_setCell]; exact h2⟩
  by_cases he : p = ⟨b, off + j, none⟩
  · subst he; exact ⟨e, World.cell?_setCell_same w _ _ h1⟩
  · exact ⟨x, (World.cell?_setCell_other w p _ _ he).trans h1⟩
theorem RowI.mono {w w' : World} {b off L B : Nat} (h : RowI w b off L) (hb : Below B w w') (hB : b < B) : RowI w' b off L := fun j hj => by
  obtain ⟨⟨x, h1⟩, h2⟩ := h j hj
  exact ⟨⟨x, (hb.cell (p := ⟨b, off + j, none⟩) hB).trans h1⟩, (hb.frozen (p := ⟨b, off + j, none⟩) hB).trans h2⟩
/-- What is known of a result in the loop: its variable, the block and the offset of its row, its capacity. -/
structure Slot where
  g : Nat
  b : Nat
  o : Nat
  c : Nat
structure Holds (B L : Nat) (w : World) (q : Slot) : Prop where
  var : VarB w q.g (some ⟨q.b, q.o, none⟩) L q.c
  row : RowI w q.b q.o L
  base : B ≤ q.b
  lt : q.b < w.heap.size
theorem VarN.slot {B : Nat} {w : World} {g m : Nat} (h : VarN B w g m) : ∃ q : Slot, q.g = g ∧ (0 < nl m → Holds B (nl m) w q) := by
  obtain ⟨a, c, h1, _, cap, e, hc, h2⟩ := h
  simp only [Value.agg.injEq, Array.mk.injEq, List.cons.injEq, Value.slice.injEq, and_true, true_and] at e
  obtain ⟨rfl, rfl⟩ := e
  rcases Nat.eq_zero_or_pos (nl m) with h0 | h0
  · exact ⟨⟨g, 0, 0, 0⟩, rfl, fun h => by omega⟩
  · obtain ⟨b, o, rfl, hb, hd, hf⟩ := h2 h0
    refine ⟨⟨g, b, o, c⟩, rfl, fun _ => ⟨h1, fun j hj => ⟨⟨_, hd j hj⟩, hf j hj⟩, hb, ?_⟩⟩
    exact hd.lt h0
theorem Holds.mono {B L : Nat} {w w' : World} {q : Slot} (h : Holds B L w q) (hb : Below w.heap.size w w') : Holds B L w' q :=
  ⟨h.var.mono hb h.var.lt, h.row.mono hb h.lt, h.base, Nat.lt_of_lt_of_le h.lt hb.size⟩
theorem Holds.set {B L : Nat} {w : World} {q p : Slot} (h : Holds B L w q) (hp : Holds B L w p) {i : Nat} (hi : i < L) (e : Int) : Holds B L (w.setCell ⟨p.b, p.o + i, none⟩ (.int .u32 e)) q := by
  obtain ⟨⟨x, h1⟩, _⟩ := hp.row i hi
  refine ⟨h.var.setOther _ _ ?_, h.row.set _ _, h.base, by simpa [World.setCell] using h.lt⟩
  exact h.var.ne h1
/-- The loop's invariant: nothing below B has turned; the five results hold their rows. -/
structure J5 (wB : World) (L : Nat) (qs : List Slot) (w : World) : Prop where
  below : Below wB.heap.size wB w
  all : ∀ q ∈ qs, Holds wB.heap.size L w q
theorem J5.set {wB w : World} {L : Nat} {qs : List Slot} (h : J5 wB L qs w) {p : Slot} (hp : p ∈ qs) {i : Nat} (hi : i < L) (e : Int) : J5 wB L qs (w.setCell ⟨p.b, p.o + i, none⟩ (.int .u32 e)) :=
  ⟨h.below.setCell (p := ⟨p.b, p.o + i, none⟩) (h.all p hp).base _, fun q hq => (h.all q hq).set (h.all p hp) hi e⟩
theorem J5.drew {wB w : World} {L : Nat} {qs : List Slot} (h : J5 wB L qs w) : J5 wB L qs w.drew :=
  ⟨bel_drewN h.below 1, fun q hq => (h.all q hq).mono (bel_drewN (Below.refl _ _) 1)⟩
def AllFrom (p : Nat → Prop) : Nat → Nat → Prop
  | _, 0 => True
  | s, k + 1 => p s ∧ AllFrom p (s + 1) k
theorem AllFrom.get {p : Nat → Prop} : ∀ (k s : Nat), AllFrom p s k → ∀ j, s ≤ j → j < s + k → p j
  | 0, s, _, j, h1, h2 => by omega
  | k + 1, s, h, j, h1, h2 => by
    rcases Nat.eq_or_lt_of_le h1 with rfl | h3
    · exact h.1
    · exact AllFrom.get k (s + 1) h.2 j h3 (by omega)
section
variable {Q : Exit → Act → World → Prop} {wB : World} {L : Nat} {qs : List Slot} {o : Oper} {a' : Act} {w' : World}
/-- An operation of the loop's body: its value v. -/
def Inv (J : World → Prop) (Q : Exit → Act → World → Prop) (o : Oper) (a' : Act) (w' : World) (d : Option Tmp) (v : Value) : Prop := ∀ K : Act → World → Prop, (∀ w'', J w'' → K (a'.put d v) w'') → Oper.wp Try.prog o a' w' K Q
theorem inv_run {J : World → Prop} {d : Option Tmp} {v : Value} (hd : o.dst = d) (hJ : J w') (h : (execOp a'.eval o).run Try.prog w' = .ok (.value v) w') : Inv J Q o a' w' d v := by
  intro K hK
  subst hd
  unfold Oper.wp
  rw [h]
  exact hK w' hJ
theorem ev {t : Tmp} {v : Value} (h : a'.tmps[t]? = some v) : a'.eval (.tmp t) = v := by
  unfold Act.eval; simp [h]
theorem inv_field {J : World → Prop} {d : Option Tmp} {x : Operand} {g : Nat} (hd : o.dst = d) (hJ : J w') (ho : o.op = .fieldAddr 24 x 0) (hx : a'.eval x = .pointer (some ⟨g, 0, none⟩)) : Inv J Q o a' w' d (.pointer (some ⟨g, 0, none⟩)) := by
  refine inv_run hd hJ ?_
  unfold execOp
  rw [ho]
  simp only [hx]
  go_simp
theorem inv_load {J : World → Prop} {d : Option Tmp} {x : Operand} {g l c : Nat} {s : Option Addr} (hd : o.dst = d) (hJ : J w') (ho : o.op = .load 22 x) (hx : a'.eval x = .pointer (some ⟨g, 0, none⟩)) (h : VarB w' g s l c) : Inv J Q o a' w' d (.slice s l c) := by
  have c1 := h.cell
  refine inv_run hd hJ ?_
  unfold execOp
  rw [ho]
  simp only [hx]
  go_simp
theorem inv_move {J : World → Prop} {d : Option Tmp} {x : Operand} {v : Value} (hd : o.dst = d) (hJ : J w') (ho : o.op = .move x) (hx : a'.eval x = v) : Inv J Q o a' w' d v := by
  refine inv_run hd hJ ?_
  unfold execOp
  rw [ho]
  simp only [hx, Sem.run_pure]
theorem inv_index {J : World → Prop} {d : Option Tmp} {x y : Operand} {b off l c i : Nat} (hd : o.dst = d) (hJ : J w') (ho : o.op = .indexAddr 22 x y) (hx : a'.eval x = .slice (some ⟨b, off, none⟩) l c) (hy : a'.eval y = .int .i64 (i : Int)) (hi : i < l) (hl : l ≤ 12) : Inv J Q o a' w' d (.pointer (some ⟨b, off + i, none⟩)) := by
  have h1 : (i : Int) < (l : Int) := by omega
  refine inv_run hd hJ ?_
  unfold execOp
  rw [ho]
  simp only [hx, hy]
  go_simp
theorem inv_store {d : Option Tmp} {x : Operand} {p : Slot} {i : Nat} {v : Value} (hd : o.dst = d) (hd' : d = none) (hJ : J5 wB L qs w') (ho : o.op = .store 42 x (.const (.int .u32 7))) (hx : a'.eval x = .pointer (some ⟨p.b, p.o + i, none⟩)) (hp : p ∈ qs) (hi : i < L) : Inv (J5 wB L qs) Q o a' w' d v := by
  intro K hK
  subst hd'
  obtain ⟨⟨y, h1⟩, h2⟩ := (hJ.all p hp).row i hi
  have hrun : (execOp a'.eval o).run Try.prog w' = .ok .skip (w'.setCell ⟨p.b, p.o + i, none⟩ (.int .u32 7)) := by
    unfold execOp
    rw [ho]
    simp only [hx]
    go_simp
  unfold Oper.wp
  rw [hrun, Oper.upon_skip, hd]
  exact hK _ (hJ.set hp hi 7)
end
def keepTab (q7 q8 q10 q12 q14 : Slot) (L i : Nat) : List (Option Tmp × Value) :=
   [(some 120, .pointer (some ⟨q7.g, 0, none⟩)),
    (some 121, .slice (some ⟨q7.b, q7.o, none⟩) L q7.c),
    (some 122, .int .i64 (i : Int)),
    (some 123, .pointer (some ⟨q8.g, 0, none⟩)),
    (some 124, .slice (some ⟨q8.b, q8.o, none⟩) L q8.c),
    (some 125, .int .i64 (i : Int)),
    (some 126, .pointer (some ⟨q10.g, 0, none⟩)),
    (some 127, .slice (some ⟨q10.b, q10.o, none⟩) L q10.c),
    (some 128, .int .i64 (i : Int)),
    (some 129, .pointer (some ⟨q12.g, 0, none⟩)),
    (some 130, .slice (some ⟨q12.b, q12.o, none⟩) L q12.c),
    (some 131, .int .i64 (i : Int)),
    (some 132, .pointer (some ⟨q14.g, 0, none⟩)),
    (some 133, .slice (some ⟨q14.b, q14.o, none⟩) L q14.c),
    (some 134, .int .i64 (i : Int)),
    (some 135, .pointer (some ⟨q7.b, q7.o + i, none⟩)),
    (none, .bool false),
    (some 136, .pointer (some ⟨q8.b, q8.o + i, none⟩)),
    (none, .bool false),
    (some 137, .pointer (some ⟨q10.b, q10.o + i, none⟩)),
    (none, .bool false),
    (some 138, .pointer (some ⟨q12.b, q12.o + i, none⟩)),
    (none, .bool false),
    (some 139, .pointer (some ⟨q14.b, q14.o + i, none⟩)),
    (none, .bool false)]
set_option maxRecDepth 100000 in
/-- The loop's body. -/
theorem wp_body {Q : Exit → Act → World → Prop} (wB : World) (L i : Nat) (q7 q8 q10 q12 q14 : Slot) {id : Nat} {ops : Array Oper} {a : Act} {w : World} (hops : opsOf Try.f8 14 = ops) (hs : a.tmps.size = 151)
    (k7 : a.tmps[7]? = some (.pointer (some ⟨q7.g, 0, none⟩))) (k8 : a.tmps[8]? = some (.pointer (some ⟨q8.g, 0, none⟩))) (k10 : a.tmps[10]? = some (.pointer (some ⟨q10.g, 0, none⟩))) (k12 : a.tmps[12]? = some (.pointer (some ⟨q12.g, 0, none⟩))) (k14 : a.tmps[14]? = some (.pointer (some ⟨q14.g, 0, none⟩)))
    (k15 : a.tmps[15]? = some (.int .i64 (i : Int))) (hJ : J5 wB L [q7, q8, q10, q12, q14] w) (hi : i < L) (hL12 : L ≤ 12)
    (hrest : ∀ w', J5 wB L [q7, q8, q10, q12, q14] w' → Q .normal (putV (keepTab q7 q8 q10 q12 q14 L i) a) w') : (Code.region id ops true).wp Try.prog Q a w := by
  subst hops
  refine wp_region_any (by kernel_rfl) ?_
  change wpAny _ _ _ _ _ _ _ (World.drew w)
  refine wpAny_inv (keepTab q7 q8 q10 q12 q14 L i) (J5 wB L [q7, q8, q10, q12, q14]) (by rw [hs]; kernel_rfl) hJ.drew ?_ hrest
  intro j hj
  refine AllFrom.get (p := fun j => ∀ (a' : Act) (w' : World), J5 wB L [q7, q8, q10, q12, q14] w' → (∀ t, (∀ v, (some t, v) ∉ keepTab q7 q8 q10 q12 q14 L i) → a'.tmps[t]? = a.tmps[t]?) → (∀ (k : Nat) (t : Tmp) (v : Value), k ∈ preds .any (opsOf Try.f8 14) j → (keepTab q7 q8 q10 q12 q14 L i)[k]? = some (some t, v) → a'.tmps[t]? = some v) →
      ∃ o d v, (opsOf Try.f8 14)[j]? = some o ∧ (keepTab q7 q8 q10 q12 q14 L i)[j]? = some (d, v) ∧ Region.wanted o (yielded (opsOf Try.f8 14) a'.tmps) = true ∧ Inv (J5 wB L [q7, q8, q10, q12, q14]) Q o a' w' d v) 25 0 ?_ j (Nat.zero_le _) (by simpa [keepTab] using hj)
  refine ⟨fun a' w' hJ' ho hi' => ⟨_, _, _, rfl, rfl, wanted_none rfl, inv_field rfl hJ' rfl (ev ((ho 7 (fun v hv => by simp [keepTab] at hv)).trans k7))⟩, ?_⟩
  refine ⟨fun a' w' hJ' ho hi' => ⟨_, _, _, rfl, rfl, wanted_none rfl, inv_load rfl hJ' rfl (ev (hi' 0 120 _ (List.contains_iff_mem.1 (by kernel_rfl)) rfl)) (hJ'.all q7 (by simp)).var⟩, ?_⟩
  refine ⟨fun a' w' hJ' ho hi' => ⟨_, _, _, rfl, rfl, wanted_none rfl, inv_move rfl hJ' rfl (ev ((ho 15 (fun v hv => by simp [keepTab] at hv)).trans k15))⟩, ?_⟩
  refine ⟨fun a' w' hJ' ho hi' => ⟨_, _, _, rfl, rfl, wanted_none rfl, inv_field rfl hJ' rfl (ev ((ho 8 (fun v hv => by simp [keepTab] at hv)).trans k8))⟩, ?_⟩
  refine ⟨fun a' w' hJ' ho hi' => ⟨_, _, _, rfl, rfl, wanted_none rfl, inv_load rfl hJ' rfl (ev (hi' 3 123 _ (List.contains_iff_mem.1 (by kernel_rfl)) rfl)) (hJ'.all q8 (by simp)).var⟩, ?_⟩
  refine ⟨fun a' w' hJ' ho hi' => ⟨_, _, _, rfl, rfl, wanted_none rfl, inv_move rfl hJ' rfl (ev ((ho 15 (fun v hv => by simp [keepTab] at hv)).trans k15))⟩, ?_⟩
  refine ⟨fun a' w' hJ' ho hi' => ⟨_, _, _, rfl, rfl, wanted_none rfl, inv_field rfl hJ' rfl (ev ((ho 10 (fun v hv => by simp [keepTab] at hv)).trans k10))⟩, ?_⟩
  refine ⟨fun a' w' hJ' ho hi' => ⟨_, _, _, rfl, rfl, wanted_none rfl, inv_load rfl hJ' rfl (ev (hi' 6 126 _ (List.contains_iff_mem.1 (by kernel_rfl)) rfl)) (hJ'.all q10 (by simp)).var⟩, ?_⟩
  refine ⟨fun a' w' hJ' ho hi' => ⟨_, _, _, rfl, rfl, wanted_none rfl, inv_move rfl hJ' rfl (ev ((ho 15 (fun v hv => by simp [keepTab] at hv)).trans k15))⟩, ?_⟩
  refine ⟨fun a' w' hJ' ho hi' => ⟨_, _, _, rfl, rfl, wanted_none rfl, inv_field rfl hJ' rfl (ev ((ho 12 (fun v hv => by simp [keepTab] at hv)).trans k12))⟩, ?_⟩
  refine ⟨fun a' w' hJ' ho hi' => ⟨_, _, _, rfl, rfl, wanted_none rfl, inv_load rfl hJ' rfl (ev (hi' 9 129 _ (List.contains_iff_mem.1 (by kernel_rfl)) rfl)) (hJ'.all q12 (by simp)).var⟩, ?_⟩
  refine ⟨fun a' w' hJ' ho hi' => ⟨_, _, _, rfl, rfl, wanted_none rfl, inv_move rfl hJ' rfl (ev ((ho 15 (fun v hv => by simp [keepTab] at hv)).trans k15))⟩, ?_⟩
  refine ⟨fun a' w' hJ' ho hi' => ⟨_, _, _, rfl, rfl, wanted_none rfl, inv_field rfl hJ' rfl (ev ((ho 14 (fun v hv => by simp [keepTab] at hv)).trans k14))⟩, ?_⟩
  refine ⟨fun a' w' hJ' ho hi' => ⟨_, _, _, rfl, rfl, wanted_none rfl, inv_load rfl hJ' rfl (ev (hi' 12 132 _ (List.contains_iff_mem.1 (by kernel_rfl)) rfl)) (hJ'.all q14 (by simp)).var⟩, ?_⟩
  refine ⟨fun a' w' hJ' ho hi' => ⟨_, _, _, rfl, rfl, wanted_none rfl, inv_move rfl hJ' rfl (ev ((ho 15 (fun v hv => by simp [keepTab] at hv)).trans k15))⟩, ?_⟩
  refine ⟨fun a' w' hJ' ho hi' => ⟨_, _, _, rfl, rfl, wanted_none rfl, inv_index rfl hJ' rfl (ev (hi' 1 121 _ (List.contains_iff_mem.1 (by kernel_rfl)) rfl)) (ev (hi' 2 122 _ (List.contains_iff_mem.1 (by kernel_rfl)) rfl)) hi hL12⟩, ?_⟩
  refine ⟨fun a' w' hJ' ho hi' => ⟨_, _, _, rfl, rfl, wanted_none rfl, inv_store rfl rfl hJ' rfl (ev (hi' 15 135 _ (List.contains_iff_mem.1 (by kernel_rfl)) rfl)) (by simp) hi⟩, ?_⟩
  refine ⟨fun a' w' hJ' ho hi' => ⟨_, _, _, rfl, rfl, wanted_none rfl, inv_index rfl hJ' rfl (ev (hi' 4 124 _ (List.contains_iff_mem.1 (by kernel_rfl)) rfl)) (ev (hi' 5 125 _ (List.contains_iff_mem.1 (by kernel_rfl)) rfl)) hi hL12⟩, ?_⟩
  refine ⟨fun a' w' hJ' ho hi' => ⟨_, _, _, rfl, rfl, wanted_none rfl, inv_store rfl rfl hJ' rfl (ev (hi' 17 136 _ (List.contains_iff_mem.1 (by kernel_rfl)) rfl)) (by simp) hi⟩, ?_⟩
  refine ⟨fun a' w' hJ' ho hi' => ⟨_, _, _, rfl, rfl, wanted_none rfl, inv_index rfl hJ' rfl (ev (hi' 7 127 _ (List.contains_iff_mem.1 (by kernel_rfl)) rfl)) (ev (hi' 8 128 _ (List.contains_iff_mem.1 (by kernel_rfl)) rfl)) hi hL12⟩, ?_⟩
  refine ⟨fun a' w' hJ' ho hi' => ⟨_, _, _, rfl, rfl, wanted_none rfl, inv_store rfl rfl hJ' rfl (ev (hi' 19 137 _ (List.contains_iff_mem.1 (by kernel_rfl)) rfl)) (by simp) hi⟩, ?_⟩
  refine ⟨fun a' w' hJ' ho hi' => ⟨_, _, _, rfl, rfl, wanted_none rfl, inv_index rfl hJ' rfl (ev (hi' 10 130 _ (List.contains_iff_mem.1 (by kernel_rfl)) rfl)) (ev (hi' 11 131 _ (List.contains_iff_mem.1 (by kernel_rfl)) rfl)) hi hL12⟩, ?_⟩
  refine ⟨fun a' w' hJ' ho hi' => ⟨_, _, _, rfl, rfl, wanted_none rfl, inv_store rfl rfl hJ' rfl (ev (hi' 21 138 _ (List.contains_iff_mem.1 (by kernel_rfl)) rfl)) (by simp) hi⟩, ?_⟩
  refine ⟨fun a' w' hJ' ho hi' => ⟨_, _, _, rfl, rfl, wanted_none rfl, inv_index rfl hJ' rfl (ev (hi' 13 133 _ (List.contains_iff_mem.1 (by kernel_rfl)) rfl)) (ev (hi' 14 134 _ (List.contains_iff_mem.1 (by kernel_rfl)) rfl)) hi hL12⟩, ?_⟩
  refine ⟨fun a' w' hJ' ho hi' => ⟨_, _, _, rfl, rfl, wanted_none rfl, inv_store rfl rfl hJ' rfl (ev (hi' 23 139 _ (List.contains_iff_mem.1 (by kernel_rfl)) rfl)) (by simp) hi⟩, ?_⟩
  exact trivial
def Sp.div (base q r : Nat) : Sp := ⟨fun w v => ∃ x y, v = .tuple #[x, y, .int .i64 0] ∧ NewN base w x q ∧ NewN base w y r, fun _ _ _ h hb => by obtain ⟨x, y, rfl, h1, h2⟩ := h; exact ⟨x, y, rfl, h1.mono hb, h2.mono hb⟩⟩
section
variable {Q : Exit → Act → World → Prop} {o : Oper} {a : Act} {w : World} {x y : Operand} {m n : Nat} {tt : Array TypeId}
theorem arm_CopyN {base : Nat} (hb : base ≤ w.heap.size) (ho : o.op = .call { callee := .value (.func 28), args := #[x], argTypes := tt }) (hx : Is a w x (.nat m)) (hm : nl m ≤ 1000000000000) : Arm Try.prog Q o a w (.new base m) :=
  arm_one ho (enters Try.func28 rfl rfl) hx (R := fun w => RetNew w m) (fun va w h1 => c_ref_Copy va m w h1 hm) (fun _ _ h => ofNewB hb h)
theorem arm_MulN {base : Nat} (hb : base ≤ w.heap.size) (ho : o.op = .call { callee := .value (.func 22), args := #[x, y], argTypes := tt }) (hx : Is a w x (.nat m)) (hy : Is a w y (.nat n)) (hm : nl m ≤ 1000000000000) (hn : nl n ≤ 1000000000000) {N : Nat} (hN : m * n = N) : Arm Try.prog Q o a w (.new base N) := by
  subst hN
  exact arm_two ho (enters Try.func22 rfl rfl) hx hy (R := fun w => RetNew w (m * n)) (fun va vb w h1 h2 => c_natural_Mul va vb m n w h1 h2 hm hn) (fun _ _ h => ofNewB hb h)
theorem arm_DivModN {base q r : Nat} (hb : base ≤ w.heap.size) (ho : o.op = .call { callee := .value (.func 14), args := #[x, y], argTypes := tt }) (hx : Is a w x (.nat m)) (hy : Is a w y (.nat n)) (hm : nl m ≤ 1000000000000) (hn : nl n ≤ 1000000000000) (h0 : n ≠ 0) (hq : m / n = q) (hr : m % n = r) : Arm Try.prog Q o a w (.div base q r) := by
  subst hq; subst hr
  exact arm_two ho (enters Try.func14 rfl rfl) hx hy (R := fun w => RetDiv w (m / n) (m % n) 0) (fun va vb w h1 h2 => c_natural_DivMod va vb m n w h1 h2 hm hn h0)
    (fun _ _ h => by obtain ⟨x, y, rfl, h1, h2, h3⟩ := h; exact ⟨_, rfl, ⟨x, y, rfl, h1.weaken hb, h2.weaken hb⟩, h3⟩)
theorem run_extract {k : Nat} {vs : Array Value} {v : Value} (ho : o.op = .extract x k) (hx : a.eval x = .tuple vs) (hv : vs[k]? = some v) (w : World) : (execOp a.eval o).run Try.prog w = .ok (.value v) w := by
  unfold execOp
  rw [ho]
  simp [hx, Instr.extract, hv, Result.andThen]
theorem arm_ext0 {base q r : Nat} (ho : o.op = .extract x 0) (hx : Is a w x (.div base q r)) : Arm Try.prog Q o a w (.new base q) := by
  obtain ⟨u, v, e, h1, h2⟩ := hx
  exact arm_run u (run_extract ho e rfl w) h1
theorem arm_ext1 {base q r : Nat} (ho : o.op = .extract x 1) (hx : Is a w x (.div base q r)) : Arm Try.prog Q o a w (.new base r) := by
  obtain ⟨u, v, e, h1, h2⟩ := hx
  exact arm_run v (run_extract ho e rfl w) h2
theorem arm_ext2 {base q r : Nat} (ho : o.op = .extract x 2) (hx : Is a w x (.div base q r)) : Arm Try.prog Q o a w (.val (Value.int IntKind.i64 0)) := by
  obtain ⟨u, v, e, h1, h2⟩ := hx
  exact arm_run _ (run_extract ho e rfl w) rfl
end
theorem VarN.cast {B g M N : Nat} {w : World} (e : M = N) (h : VarN B w g M) : VarN B w g N := e ▸ h
theorem zN (w : World) : IsN w (.agg #[.slice none 0 0]) 0 := NewN.isN (base := 0) NewN.of_zero
def keepT3 (ga gb m n base : Nat) : List (Nat × Tmp × Sp) :=
   [(0, 31, .nat (m)),
    (1, 32, .new base m),
    (2, 33, .nat (n)),
    (3, 34, .new base n),
    (4, 5, .var base),
    (5, 6, .var base)]
def keepT7 (ga gb m n S1 T q r base : Nat) : List (Nat × Tmp × Sp) :=
   [(0, 48, .nat (m)),
    (1, 49, .nat (m)),
    (2, 50, .nat (n)),
    (3, 51, .nat (S1)),
    (4, 52, .nat (n)),
    (5, 53, .nat (T)),
    (6, 54, .div base q r),
    (7, 47, .div base q r),
    (8, 55, .new base q),
    (9, 56, .new base r),
    (10, 57, .val (Value.int IntKind.i64 0)),
    (11, 11, .var base),
    (12, 12, .var base)]
def keepT8 (ga m base : Nat) : List (Nat × Tmp × Sp) :=
   [(0, 58, .nat (m)),
    (1, 59, .row 1 (1)),
    (2, 60, .nat (1)),
    (3, 61, .new base m),
    (4, 14, .var base)]
set_option maxRecDepth 100000 in
set_option maxHeartbeats 4000000 in
theorem c_NaturalKeeps (va : Value) (La m : Nat) (vb : Value) (Lb n : Nat) (w : World) (ha : IsR w va La m) (hLa : La ≤ 9223372036854775807) (hb : IsR w vb Lb n) (hLb : Lb ≤ 9223372036854775807) :
    Calls Try.prog 8 #[va, vb] w fun e w' => RetV w (.bool true) e w' := by
  obtain ⟨xa, ca, rfl, hca, ra⟩ := ha
  obtain ⟨xb, cb, rfl, hcb, rb⟩ := hb
  obtain ⟨k0, k1, k2⟩ := box2 (L := La) (c := ca) (N := m) (L2 := Lb) (c2 := cb) (N2 := n) ⟨xa, ca, rfl, hca, ra⟩ ⟨xb, cb, rfl, hcb, rb⟩
  go_enter Try.func8, Try.ntmps8
  go_upto_region 0 with (fail)
  go_cut [2, 3] (fun s2 s3 wx => ∃ ga gb, s2 = .pointer (some ⟨ga, 0, none⟩) ∧ s3 = .pointer (some ⟨gb, 0, none⟩) ∧ VarR wx ga La m ∧ VarR wx gb Lb n ∧ Below w.heap.size w wx)
  case first =>
    go_wp2_with fail
    go_meet
    case rel => exact ⟨_, _, rfl, rfl, k1, k2, k0⟩
  case rest =>
  obtain ⟨ga, gb, rfl, rfl, Va, Vb, hb1⟩ := hcut
  clear k0 k1 k2 hca ra hcb rb
  obtain ⟨ya, da, qa, ia⟩ := Va
  have ea := qa.cell
  go_wp2_with fail
  refine (c_Few _ La m _ ia hLa).mono ?_
  rintro e w1 ⟨rfl, bb1⟩
  replace Va : VarR w1 ga La m := VarR.mono ⟨ya, da, qa, ia⟩ bb1
  replace Vb : VarR w1 gb Lb n := VarR.mono Vb bb1
  replace hb1 := hb1.trans (bb1.mono hb1.size)
  clear ea qa ia bb1
  by_cases fa : La ≤ 12 ∧ nl m = La
  case neg =>
    rw [decide_eq_false fa]
    go_wp2_with fail
    refine (c_awake _).mono ?_
    rintro e w9 ⟨rfl, bb⟩
    go_wp2
    go_ret
    exact ⟨rfl, hb1.trans (bb.mono hb1.size)⟩
  rw [decide_eq_true fa]
  obtain ⟨yb, db, qb, ib⟩ := Vb
  have eb := qb.cell
  go_wp2_with fail
  refine (c_Few _ Lb n _ ib hLb).mono ?_
  rintro e w2 ⟨rfl, bb2⟩
  replace Va : VarR w2 ga La m := VarR.mono Va bb2
  replace Vb : VarR w2 gb Lb n := VarR.mono ⟨yb, db, qb, ib⟩ bb2
  replace hb1 := hb1.trans (bb2.mono hb1.size)
  clear eb qb ib bb2
  by_cases fb : Lb ≤ 12 ∧ nl n = Lb
  case neg =>
    rw [decide_eq_false fb]
    go_wp2_with fail
    refine (c_awake _).mono ?_
    rintro e w9 ⟨rfl, bb⟩
    go_wp2
    go_ret
    exact ⟨rfl, hb1.trans (bb.mono hb1.size)⟩
  rw [decide_eq_true fb]
  obtain ⟨fa, rfl⟩ := fa
  replace Va : VarI w2 ga m := Va
  obtain ⟨fb, rfl⟩ := fb
  replace Vb : VarI w2 gb n := Vb
  have hm' : nl m ≤ 1000000000000 := by omega
  have hn' : nl n ≤ 1000000000000 := by omega
  have Vb' := Vb
  obtain ⟨yb, db, qb, ib⟩ := Vb'
  have eb := qb.cell
  by_cases hn0 : nl n = 0
  case pos =>
    rw [hn0] at eb
    have HN := Lib.hid hn0
    clear hn0
    go_wp2_with fail
    refine (c_awake _).mono ?_
    rintro e w9 ⟨rfl, bb⟩
    go_wp2
    go_ret
    exact ⟨rfl, hb1.trans (bb.mono hb1.size)⟩
  have hne : (((nl n : Nat) : Int) == 0) = false := by rw [beq_eq_false_iff_ne]; omega
  have hN0 : n ≠ 0 := fun h => hn0 (by rw [h]; exact nl_zero)
  have HN0 := Lib.hid hN0
  clear hn0 hN0
  obtain ⟨base, hbase0⟩ : ∃ b : Nat, Hid (b = w2.heap.size) := ⟨_, Lib.hid rfl⟩
  have hbase : base ≤ w2.heap.size := by rw [hbase0.out]; exact Nat.le_refl _
  have la : ga < base := by rw [hbase0.out]; obtain ⟨_, _, h, _⟩ := Va; exact h.lt
  have lb : gb < base := by rw [hbase0.out]; exact qb.lt
  have hwb : w.heap.size ≤ base := by rw [hbase0.out]; exact hb1.size
  go_upto_region 3 with (fail)
  clear eb ib
  refine wp_tabK Try.f8 3 (keepT3 ga gb m n base) (fun i => i == 4 || i == 5) 4 2 (by kernel_rfl) (by kernel_rfl) (by kernel_rfl) (by kernel_rfl) ⟨fun h => (by cases h), ⟨fun h => (by cases h), ⟨fun h => (by cases h), ⟨fun h => (by cases h), ⟨fun _ w v h => Sp.var_lt h, ⟨fun _ w v h => Sp.var_lt h, trivial⟩⟩⟩⟩⟩⟩ ?_ ?_
  · refine ⟨fun a' w' F => ⟨_, rfl, wanted_none rfl, (arm_load rfl (F.keep 2 (Value.pointer (some ⟨ga, 0, none⟩)) (by kernel_rfl) rfl).is (Va.mono F.below)).b⟩, ?_⟩
    refine ⟨fun a' w' F => ⟨_, rfl, wanted_none rfl, (arm_CopyN (Nat.le_trans hbase F.below.size) rfl (F.at' 0 31 _ rfl (by kernel_rfl)).is (by omega)).b⟩, ?_⟩
    refine ⟨fun a' w' F => ⟨_, rfl, wanted_none rfl, (arm_load rfl (F.keep 3 (Value.pointer (some ⟨gb, 0, none⟩)) (by kernel_rfl) rfl).is (Vb.mono F.below)).b⟩, ?_⟩
    refine ⟨fun a' w' F => ⟨_, rfl, wanted_none rfl, (arm_CopyN (Nat.le_trans hbase F.below.size) rfl (F.at' 2 33 _ rfl (by kernel_rfl)).is (by omega)).b⟩, ?_⟩
    refine ⟨fun a' w' F => ⟨_, rfl, wanted_none rfl, arm_alloc rfl (Nat.le_trans hbase F.below.size)⟩, ?_⟩
    refine ⟨fun a' w' F => ⟨_, rfl, wanted_none rfl, arm_alloc rfl (Nat.le_trans hbase F.below.size)⟩, ?_⟩
    exact trivial
  intro gp wp bp G Gs
  obtain ⟨gx, e4, hgx, hvx⟩ := G 4 5 _ rfl
  obtain ⟨gy, e5, hgy, hvy⟩ := G 5 6 _ rfl
  obtain ⟨v1, e1, n1⟩ : ∃ v, gp 1 = v ∧ NewN base wp v m := ⟨_, rfl, G 1 32 _ rfl⟩
  obtain ⟨v3, e3, n3⟩ : ∃ v, gp 3 = v ∧ NewN base wp v n := ⟨_, rfl, G 3 34 _ rfl⟩
  obtain ⟨x1, c1, rfl⟩ := n1.isN.shape
  obtain ⟨x3, c3, rfl⟩ := n3.isN.shape
  have hxy : gx ≠ gy := by have h := Gs 4 5 rfl rfl rfl rfl (by decide); rw [e4, e5] at h; exact h
  clear G Gs
  simp only [keepT3]
  simp only [putD, entries, List.map_cons, List.map_nil, List.foldl_cons, List.foldl_nil, Act.put, List.setIfInBounds_toArray, List.set_cons_zero, List.set_cons_succ, e1, e3, e4, e5]
  have hvy1 := hvy.setOther ⟨gx, 0, none⟩ (.slice x1 (nl m) c1) hxy
  refine wpAny_store (j := 6) (by kernel_rfl) rfl rfl rfl rfl rfl rfl ⟨_, _, _, rfl⟩ hvx ?_
  refine wpAny_store (j := 7) (by kernel_rfl) rfl rfl rfl rfl rfl rfl ⟨_, _, _, rfl⟩ hvy1 ?_
  refine wpAny_done (by kernel_rfl) ?_ _
  have Vx := (VarI.put hvx n1.isN).setOther (u := .slice x3 (nl n) c3) hvy1 (Ne.symm hxy)
  have Vy := VarI.put hvy1 (n3.isN.setVar hvx)
  replace Va := ((Va.mono bp).setOther (u := .slice x1 (nl m) c1) hvx (by omega)).setOther (u := .slice x3 (nl n) c3) hvy1 (by omega)
  replace Vb := ((Vb.mono bp).setOther (u := .slice x1 (nl m) c1) hvx (by omega)).setOther (u := .slice x3 (nl n) c3) hvy1 (by omega)
  replace hb1 := ((hb1.trans (bp.mono hb1.size)).setCell (p := ⟨gx, 0, none⟩) (Nat.le_trans hwb hgx) (.slice x1 (nl m) c1)).setCell (p := ⟨gy, 0, none⟩) (Nat.le_trans hwb hgy) (.slice x3 (nl n) c3)
  clear hvx hvy hvy1 n1 n3 e1 e3 e4 e5 bp hbase hbase0 la lb hgx hgy hwb qb
  generalize (wp.setCell ⟨gx, 0, none⟩ (.slice x1 (nl m) c1)).setCell ⟨gy, 0, none⟩ (.slice x3 (nl n) c3) = wB at *
  have hB := Below.refl wB.heap.size wB
  go_upto_region 4 with (fail)
  go_cut [7] (fun s7 wx => ∃ g7, s7 = .pointer (some ⟨g7, 0, none⟩) ∧ VarN wB.heap.size wx g7 m ∧ Below wB.heap.size wB wx)
  case first =>
    have VaW := Va.mono hB
    obtain ⟨ya, da, qa, ia⟩ := VaW
    have ea := qa.cell
    go_wp2_with fail
    refine (c_natural_Add _ _ m 0 _ ia (zN _) hm' (by rw [nl_zero]; omega)).mono ?_
    rintro e w9 ⟨v9, rfl, n9, bb⟩
    rw [Nat.add_zero] at n9
    obtain ⟨x9, c9, rfl, hc9, hx9⟩ := n9
    have v1 := VarB.made w9 x9 (nl m) c9
    have n1 : NewN wB.heap.size w9 (.agg #[.slice x9 (nl m) c9]) m := NewN.weaken (base := wB.heap.size) ⟨x9, c9, rfl, hc9, hx9⟩ hB.size
    have b2 := bel1 w9 (.cells #[.slice x9 (nl m) c9] 24)
    have b3 := bb.trans (b2.mono bb.size)
    go_wp2_with fail
    go_meet
    case rel => exact ⟨_, rfl, ⟨x9, c9, v1, n1.mono b2⟩, hB.trans (b3.mono hB.size)⟩
  case rest =>
  clear hB
  obtain ⟨g7, rfl, Vg7, hB⟩ := hcut
  rename World => w7
  go_upto_region 5 with (fail)
  go_cut [8, 9] (fun s8 s9 wx => ∃ g8, s8 = .pointer (some ⟨g8, 0, none⟩) ∧ s9 = .bool true ∧ VarN wB.heap.size wx g7 m ∧ VarN wB.heap.size wx g8 m ∧ Below wB.heap.size wB wx)
  case first =>
    have VaW := Va.mono hB
    obtain ⟨ya, da, qa, ia⟩ := VaW
    have ea := qa.cell
    go_wp2_with fail
    refine (c_natural_Sub _ _ m 0 _ ia (zN _) hm' (by rw [nl_zero]; omega)).mono ?_
    rintro e w9 ⟨v9, rfl, n9, bb⟩
    rw [Nat.sub_zero] at n9
    rw [show decide (0 ≤ m) = true from decide_eq_true (Nat.zero_le _)]
    obtain ⟨x9, c9, rfl, hc9, hx9⟩ := n9
    have v1 := VarB.made w9 x9 (nl m) c9
    have n1 : NewN wB.heap.size w9 (.agg #[.slice x9 (nl m) c9]) m := NewN.weaken (base := w7.heap.size) ⟨x9, c9, rfl, hc9, hx9⟩ hB.size
    have b2 := bel1 w9 (.cells #[.slice x9 (nl m) c9] 24)
    have b3 := bb.trans (b2.mono bb.size)
    go_wp2_with fail
    go_meet
    case rel => exact ⟨_, rfl, rfl, Vg7.mono (B := 0) b3, ⟨x9, c9, v1, n1.mono b2⟩, hB.trans (b3.mono hB.size)⟩
  case rest =>
  clear Vg7 hB
  obtain ⟨g8, rfl, rfl, Vg7, Vg8, hB⟩ := hcut
  rename World => w8
  go_upto_region 6 with (fail)
  go_cut [10] (fun s10 wx => ∃ g10, s10 = .pointer (some ⟨g10, 0, none⟩) ∧ VarN wB.heap.size wx g7 m ∧ VarN wB.heap.size wx g8 m ∧ VarN wB.heap.size wx g10 m ∧ Below wB.heap.size wB wx)
  case first =>
    have VaW := Va.mono hB
    obtain ⟨ya, da, qa, ia⟩ := VaW
    have ea := qa.cell
    go_wp2_with fail
    refine (c_natural_Gcd _ _ m 0 _ ia (zN _) hm' (by rw [nl_zero]; omega)).mono ?_
    rintro e w9 ⟨v9, rfl, n9, bb⟩
    rw [Nat.gcd_zero_right] at n9
    obtain ⟨x9, c9, rfl, hc9, hx9⟩ := n9
    have v1 := VarB.made w9 x9 (nl m) c9
    have n1 : NewN wB.heap.size w9 (.agg #[.slice x9 (nl m) c9]) m := NewN.weaken (base := w8.heap.size) ⟨x9, c9, rfl, hc9, hx9⟩ hB.size
    have b2 := bel1 w9 (.cells #[.slice x9 (nl m) c9] 24)
    have b3 := bb.trans (b2.mono bb.size)
    go_wp2_with fail
    go_meet
    case rel => exact ⟨_, rfl, Vg7.mono (B := 0) b3, Vg8.mono (B := 0) b3, ⟨x9, c9, v1, n1.mono b2⟩, hB.trans (b3.mono hB.size)⟩
  case rest =>
  clear Vg7 Vg8 hB
  obtain ⟨g10, rfl, Vg7, Vg8, Vg10, hB⟩ := hcut
  rename World => w10
  obtain ⟨S1, hS1⟩ : ∃ N : Nat, Hid (N = m + n) := ⟨_, Lib.hid rfl⟩
  obtain ⟨T, hT⟩ : ∃ N : Nat, Hid (N = S1 + n) := ⟨_, Lib.hid rfl⟩
  obtain ⟨q, hq⟩ : ∃ N : Nat, Hid (N = m / T) := ⟨_, Lib.hid rfl⟩
  obtain ⟨r, hr⟩ : ∃ N : Nat, Hid (N = m % T) := ⟨_, Lib.hid rfl⟩
  have bS : S1 < 4294967296 ^ (12 + 12 + 1) := by rw [hS1.out]; exact sm_add (sm_nl fa) (sm_nl fb)
  have bT : T < 4294967296 ^ (12 + 12 + 1 + 12 + 1) := by rw [hT.out]; exact sm_add (d := 12 + 12 + 1) (e := 12) bS (sm_nl fb)
  have hS1' : nl S1 ≤ 1000000000000 := nlb' bS (by decide)
  have hT' : nl T ≤ 1000000000000 := nlb' bT (by decide)
  have hT0 : T ≠ 0 := by have := hT.out; have := HN0.out; omega
  have hrm : r = m := by rw [hr.out]; exact Nat.mod_eq_of_lt (by have := hT.out; have := hS1.out; have := HN0.out; omega)
  have HRM := Lib.hid hrm
  have HT0 := Lib.hid hT0
  clear hrm hT0 bS bT
  go_upto_region 7 with (fail)
  go_cut [11, 12, 13] (fun s11 s12 s13 wx => ∃ g12, s12 = .pointer (some ⟨g12, 0, none⟩) ∧ s13 = .int .i64 0 ∧ VarN wB.heap.size wx g7 m ∧ VarN wB.heap.size wx g8 m ∧ VarN wB.heap.size wx g10 m ∧ VarN wB.heap.size wx g12 m ∧ Below wB.heap.size wB wx)
  case first =>
    have VaW := Va.mono hB
    have VbW := Vb.mono hB
    obtain ⟨base, hbase0⟩ : ∃ b : Nat, Hid (b = w10.heap.size) := ⟨_, Lib.hid rfl⟩
    have hbase : base ≤ w10.heap.size := by rw [hbase0.out]; exact Nat.le_refl _
    have hBb : wB.heap.size ≤ base := by rw [hbase0.out]; exact hB.size
    have lg7 : g7 < base := by rw [hbase0.out]; obtain ⟨_, _, h, _⟩ := Vg7; exact h.lt
    have lg8 : g8 < base := by rw [hbase0.out]; obtain ⟨_, _, h, _⟩ := Vg8; exact h.lt
    have lg10 : g10 < base := by rw [hbase0.out]; obtain ⟨_, _, h, _⟩ := Vg10; exact h.lt
    refine wp_tabE Try.f8 7 (keepT7 ga gb m n S1 T q r base) [9, 10] (fun i => i == 11 || i == 12) 6 3 (by kernel_rfl) (by kernel_rfl) (by kernel_rfl) (by kernel_rfl) (by kernel_rfl) ⟨fun h => (by cases h), ⟨fun h => (by cases h), ⟨fun h => (by cases h), ⟨fun h => (by cases h), ⟨fun h => (by cases h), ⟨fun h => (by cases h), ⟨fun h => (by cases h), ⟨fun h => (by cases h), ⟨fun h => (by cases h), ⟨fun h => (by cases h), ⟨fun h => (by cases h), ⟨fun _ w v h => Sp.var_lt h, ⟨fun _ w v h => Sp.var_lt h, trivial⟩⟩⟩⟩⟩⟩⟩⟩⟩⟩⟩⟩⟩ ?_ ?_
    · refine ⟨fun a' w' F => ⟨_, rfl, wanted_none rfl, (arm_load rfl (F.keep 2 (Value.pointer (some ⟨ga, 0, none⟩)) (by kernel_rfl) rfl).is (VaW.mono F.below)).b⟩, ?_⟩
      refine ⟨fun a' w' F => ⟨_, rfl, wanted_none rfl, (arm_load rfl (F.keep 2 (Value.pointer (some ⟨ga, 0, none⟩)) (by kernel_rfl) rfl).is (VaW.mono F.below)).b⟩, ?_⟩
      refine ⟨fun a' w' F => ⟨_, rfl, wanted_none rfl, (arm_load rfl (F.keep 3 (Value.pointer (some ⟨gb, 0, none⟩)) (by kernel_rfl) rfl).is (VbW.mono F.below)).b⟩, ?_⟩
      refine ⟨fun a' w' F => ⟨_, rfl, wanted_none rfl, (arm_rAdd rfl (F.at' 1 49 _ rfl (by kernel_rfl)).is (F.at' 2 50 _ rfl (by kernel_rfl)).is hm' hn' hS1.out.symm).b⟩, ?_⟩
      refine ⟨fun a' w' F => ⟨_, rfl, wanted_none rfl, (arm_load rfl (F.keep 3 (Value.pointer (some ⟨gb, 0, none⟩)) (by kernel_rfl) rfl).is (VbW.mono F.below)).b⟩, ?_⟩
      refine ⟨fun a' w' F => ⟨_, rfl, wanted_none rfl, (arm_rAdd rfl (F.at' 3 51 _ rfl (by kernel_rfl)).is (F.at' 4 52 _ rfl (by kernel_rfl)).is hS1' hn' hT.out.symm).b⟩, ?_⟩
      refine ⟨fun a' w' F => ⟨_, rfl, wanted_none rfl, (arm_DivModN (Nat.le_trans hbase F.below.size) rfl (F.at' 0 48 _ rfl (by kernel_rfl)).is (F.at' 5 53 _ rfl (by kernel_rfl)).is hm' hT' HT0.out hq.out.symm hr.out.symm).b⟩, ?_⟩
      refine ⟨fun a' w' F => ⟨_, rfl, wanted_none rfl, (arm_move (.inl rfl) (F.at' 6 54 _ rfl (by kernel_rfl)).is).b⟩, ?_⟩
      refine ⟨fun a' w' F => ⟨_, rfl, wanted_none rfl, (arm_ext0 rfl (F.at' 7 47 _ rfl (by kernel_rfl)).is).b⟩, ?_⟩
      refine ⟨fun a' w' F => ⟨_, rfl, wanted_none rfl, (arm_ext1 rfl (F.at' 7 47 _ rfl (by kernel_rfl)).is).b⟩, ?_⟩
      refine ⟨fun a' w' F => ⟨_, rfl, wanted_none rfl, (arm_ext2 rfl (F.at' 7 47 _ rfl (by kernel_rfl)).is).b⟩, ?_⟩
      refine ⟨fun a' w' F => ⟨_, rfl, wanted_none rfl, arm_alloc rfl (Nat.le_trans hbase F.below.size)⟩, ?_⟩
      refine ⟨fun a' w' F => ⟨_, rfl, wanted_none rfl, arm_alloc rfl (Nat.le_trans hbase F.below.size)⟩, ?_⟩
      exact trivial
    intro E' hE gp wp bp G Gs
    have hE4 : E' = [] ∨ E' = [10] ∨ E' = [9] ∨ E' = [9, 10] := by simpa [subs] using hE
    clear hE
    obtain ⟨g11, e11, hg11, hv11⟩ := G 11 11 _ (by rcases hE4 with rfl | rfl | rfl | rfl <;> decide) rfl
    obtain ⟨g12, e12, hg12, hv12⟩ := G 12 12 _ (by rcases hE4 with rfl | rfl | rfl | rfl <;> decide) rfl
    have hne12 : g11 ≠ g12 := by have h := Gs 11 12 rfl rfl (by rcases hE4 with rfl | rfl | rfl | rfl <;> decide) (by rcases hE4 with rfl | rfl | rfl | rfl <;> decide) rfl rfl (by decide); rw [e11, e12] at h; exact h
    obtain ⟨u7, v7, e7, nu7, nv7⟩ := G 7 47 _ (by rcases hE4 with rfl | rfl | rfl | rfl <;> decide) rfl
    obtain ⟨v8, e8, n8⟩ : ∃ v, gp 8 = v ∧ NewN base wp v q := ⟨_, rfl, G 8 55 _ (by rcases hE4 with rfl | rfl | rfl | rfl <;> decide) rfl⟩
    obtain ⟨x8, c8, rfl⟩ := n8.isN.shape
    obtain ⟨x7, c7, rfl⟩ := nv7.isN.shape
    have hv12' := hv12.setOther ⟨g11, 0, none⟩ (.slice x8 (nl q) c8) hne12
    rcases hE4 with rfl | rfl | rfl | rfl
    · obtain ⟨v9, e9, n9⟩ : ∃ v, gp 9 = v ∧ NewN base wp v r := ⟨_, rfl, G 9 56 _ (by decide) rfl⟩
      obtain ⟨x9, c9, rfl⟩ := n9.isN.shape
      have e10 : gp 10 = .int .i64 0 := G 10 57 _ (by decide) rfl
      clear G Gs
      simp only [keepT7]
      simp only [putD, entries, List.map_cons, List.map_nil, List.foldl_cons, List.foldl_nil, Act.put, List.setIfInBounds_toArray, List.set_cons_zero, List.set_cons_succ, e7, e8, e11, e12, e9, e10]
      refine wpAny_store (j := 13) (by kernel_rfl) rfl rfl rfl rfl rfl rfl ⟨_, _, _, rfl⟩ hv11 ?_
      refine wpAny_store (j := 14) (by kernel_rfl) rfl rfl rfl rfl rfl rfl ⟨_, _, _, rfl⟩ hv12' ?_
      refine wpAny_takeD (i := 15) (d := some 13) (v := .int .i64 0) rfl rfl (by kernel_rfl) (by kernel_rfl) (by kernel_rfl) (fun _ _ _ h => h) (Or.inl ⟨by rfl, fun w => by rfl⟩) ?_
      refine wpAny_done (by kernel_rfl) ?_ _
      simp only [Act.put, List.setIfInBounds_toArray, List.set_cons_zero, List.set_cons_succ]
      go_wp2_with fail
      go_meet
      case rel => exact ⟨g12, rfl, rfl, ((Vg7.mono (B := 0) bp).setOther hv11 (by omega)).setOther hv12' (by omega), ((Vg8.mono (B := 0) bp).setOther hv11 (by omega)).setOther hv12' (by omega), ((Vg10.mono (B := 0) bp).setOther hv11 (by omega)).setOther hv12' (by omega), VarN.cast HRM.out ⟨x9, c9, hv12'.set, (((n9).weaken hBb).setVar hv11 (u := .slice x8 (nl q) c8)).setVar hv12' (u := .slice x9 (nl r) c9)⟩, ((hB.trans (bp.mono hB.size)).setCell (p := ⟨g11, 0, none⟩) (Nat.le_trans hBb hg11) _).setCell (p := ⟨g12, 0, none⟩) (Nat.le_trans hBb hg12) _⟩
    · obtain ⟨v9, e9, n9⟩ : ∃ v, gp 9 = v ∧ NewN base wp v r := ⟨_, rfl, G 9 56 _ (by decide) rfl⟩
      obtain ⟨x9, c9, rfl⟩ := n9.isN.shape
      clear G Gs
      simp only [keepT7]
      simp only [putD, entries, List.map_cons, List.map_nil, List.foldl_cons, List.foldl_nil, Act.put, List.setIfInBounds_toArray, List.set_cons_zero, List.set_cons_succ, e7, e8, e11, e12, e9]
      refine wpAny_takeD (i := 10) (d := some 57) (v := .int .i64 0) rfl rfl (by kernel_rfl) (by kernel_rfl) (by kernel_rfl) (fun _ _ _ h => h) (Or.inl ⟨by rfl, fun w => run_extract rfl rfl rfl w⟩) ?_
      simp only [Act.put, List.setIfInBounds_toArray, List.set_cons_zero, List.set_cons_succ]
      refine wpAny_store (j := 13) (by kernel_rfl) rfl rfl rfl rfl rfl rfl ⟨_, _, _, rfl⟩ hv11 ?_
      refine wpAny_store (j := 14) (by kernel_rfl) rfl rfl rfl rfl rfl rfl ⟨_, _, _, rfl⟩ hv12' ?_
      refine wpAny_takeD (i := 15) (d := some 13) (v := .int .i64 0) rfl rfl (by kernel_rfl) (by kernel_rfl) (by kernel_rfl) (fun _ _ _ h => h) (Or.inl ⟨by rfl, fun w => by rfl⟩) ?_
      refine wpAny_done (by kernel_rfl) ?_ _
      simp only [Act.put, List.setIfInBounds_toArray, List.set_cons_zero, List.set_cons_succ]
      go_wp2_with fail
      go_meet
      case rel => exact ⟨g12, rfl, rfl, ((Vg7.mono (B := 0) bp).setOther hv11 (by omega)).setOther hv12' (by omega), ((Vg8.mono (B := 0) bp).setOther hv11 (by omega)).setOther hv12' (by omega), ((Vg10.mono (B := 0) bp).setOther hv11 (by omega)).setOther hv12' (by omega), VarN.cast HRM.out ⟨x9, c9, hv12'.set, (((n9).weaken hBb).setVar hv11 (u := .slice x8 (nl q) c8)).setVar hv12' (u := .slice x9 (nl r) c9)⟩, ((hB.trans (bp.mono hB.size)).setCell (p := ⟨g11, 0, none⟩) (Nat.le_trans hBb hg11) _).setCell (p := ⟨g12, 0, none⟩) (Nat.le_trans hBb hg12) _⟩
    · have e10 : gp 10 = .int .i64 0 := G 10 57 _ (by decide) rfl
      clear G Gs
      simp only [keepT7]
      simp only [putD, entries, List.map_cons, List.map_nil, List.foldl_cons, List.foldl_nil, Act.put, List.setIfInBounds_toArray, List.set_cons_zero, List.set_cons_succ, e7, e8, e11, e12, e10]
      refine wpAny_takeD (i := 9) (d := some 56) (v := .agg #[.slice x7 (nl r) c7]) rfl rfl (by kernel_rfl) (by kernel_rfl) (by kernel_rfl) (fun _ _ _ h => h) (Or.inl ⟨by rfl, fun w => run_extract rfl rfl rfl w⟩) ?_
      simp only [Act.put, List.setIfInBounds_toArray, List.set_cons_zero, List.set_cons_succ]
      refine wpAny_store (j := 13) (by kernel_rfl) rfl rfl rfl rfl rfl rfl ⟨_, _, _, rfl⟩ hv11 ?_
      refine wpAny_store (j := 14) (by kernel_rfl) rfl rfl rfl rfl rfl rfl ⟨_, _, _, rfl⟩ hv12' ?_
      refine wpAny_takeD (i := 15) (d := some 13) (v := .int .i64 0) rfl rfl (by kernel_rfl) (by kernel_rfl) (by kernel_rfl) (fun _ _ _ h => h) (Or.inl ⟨by rfl, fun w => by rfl⟩) ?_
      refine wpAny_done (by kernel_rfl) ?_ _
      simp only [Act.put, List.setIfInBounds_toArray, List.set_cons_zero, List.set_cons_succ]
      go_wp2_with fail
      go_meet
      case rel => exact ⟨g12, rfl, rfl, ((Vg7.mono (B := 0) bp).setOther hv11 (by omega)).setOther hv12' (by omega), ((Vg8.mono (B := 0) bp).setOther hv11 (by omega)).setOther hv12' (by omega), ((Vg10.mono (B := 0) bp).setOther hv11 (by omega)).setOther hv12' (by omega), VarN.cast HRM.out ⟨x7, c7, hv12'.set, (((nv7).weaken hBb).setVar hv11 (u := .slice x8 (nl q) c8)).setVar hv12' (u := .slice x7 (nl r) c7)⟩, ((hB.trans (bp.mono hB.size)).setCell (p := ⟨g11, 0, none⟩) (Nat.le_trans hBb hg11) _).setCell (p := ⟨g12, 0, none⟩) (Nat.le_trans hBb hg12) _⟩
    · clear G Gs
      simp only [keepT7]
      simp only [putD, entries, List.map_cons, List.map_nil, List.foldl_cons, List.foldl_nil, Act.put, List.setIfInBounds_toArray, List.set_cons_zero, List.set_cons_succ, e7, e8, e11, e12]
      refine wpAny_takeD (i := 9) (d := some 56) (v := .agg #[.slice x7 (nl r) c7]) rfl rfl (by kernel_rfl) (by kernel_rfl) (by kernel_rfl) (fun _ _ _ h => h) (Or.inl ⟨by rfl, fun w => run_extract rfl rfl rfl w⟩) ?_
      simp only [Act.put, List.setIfInBounds_toArray, List.set_cons_zero, List.set_cons_succ]
      refine wpAny_takeD (i := 10) (d := some 57) (v := .int .i64 0) rfl rfl (by kernel_rfl) (by kernel_rfl) (by kernel_rfl) (fun _ _ _ h => h) (Or.inl ⟨by rfl, fun w => run_extract rfl rfl rfl w⟩) ?_
      simp only [Act.put, List.setIfInBounds_toArray, List.set_cons_zero, List.set_cons_succ]
      refine wpAny_store (j := 13) (by kernel_rfl) rfl rfl rfl rfl rfl rfl ⟨_, _, _, rfl⟩ hv11 ?_
      refine wpAny_store (j := 14) (by kernel_rfl) rfl rfl rfl rfl rfl rfl ⟨_, _, _, rfl⟩ hv12' ?_
      refine wpAny_takeD (i := 15) (d := some 13) (v := .int .i64 0) rfl rfl (by kernel_rfl) (by kernel_rfl) (by kernel_rfl) (fun _ _ _ h => h) (Or.inl ⟨by rfl, fun w => by rfl⟩) ?_
      refine wpAny_done (by kernel_rfl) ?_ _
      simp only [Act.put, List.setIfInBounds_toArray, List.set_cons_zero, List.set_cons_succ]
      go_wp2_with fail
      go_meet
      case rel => exact ⟨g12, rfl, rfl, ((Vg7.mono (B := 0) bp).setOther hv11 (by omega)).setOther hv12' (by omega), ((Vg8.mono (B := 0) bp).setOther hv11 (by omega)).setOther hv12' (by omega), ((Vg10.mono (B := 0) bp).setOther hv11 (by omega)).setOther hv12' (by omega), VarN.cast HRM.out ⟨x7, c7, hv12'.set, (((nv7).weaken hBb).setVar hv11 (u := .slice x8 (nl q) c8)).setVar hv12' (u := .slice x7 (nl r) c7)⟩, ((hB.trans (bp.mono hB.size)).setCell (p := ⟨g11, 0, none⟩) (Nat.le_trans hBb hg11) _).setCell (p := ⟨g12, 0, none⟩) (Nat.le_trans hBb hg12) _⟩
  case rest =>
  clear Vg7 Vg8 Vg10 hB
  obtain ⟨g12, rfl, rfl, Vg7, Vg8, Vg10, Vg12, hB⟩ := hcut
  rename World => w12
  go_upto_region 8 with (fail)
  go_cut [14] (fun s14 wx => ∃ g14, s14 = .pointer (some ⟨g14, 0, none⟩) ∧ VarN wB.heap.size wx g7 m ∧ VarN wB.heap.size wx g8 m ∧ VarN wB.heap.size wx g10 m ∧ VarN wB.heap.size wx g12 m ∧ VarN wB.heap.size wx g14 m ∧ Below wB.heap.size wB wx)
  case first =>
    have VaW := Va.mono hB
    obtain ⟨base, hbase0⟩ : ∃ b : Nat, Hid (b = w12.heap.size) := ⟨_, Lib.hid rfl⟩
    have hbase : base ≤ w12.heap.size := by rw [hbase0.out]; exact Nat.le_refl _
    have hBb : wB.heap.size ≤ base := by rw [hbase0.out]; exact hB.size
    have lg7 : g7 < base := by rw [hbase0.out]; obtain ⟨_, _, h, _⟩ := Vg7; exact h.lt
    have lg8 : g8 < base := by rw [hbase0.out]; obtain ⟨_, _, h, _⟩ := Vg8; exact h.lt
    have lg10 : g10 < base := by rw [hbase0.out]; obtain ⟨_, _, h, _⟩ := Vg10; exact h.lt
    have lg12 : g12 < base := by rw [hbase0.out]; obtain ⟨_, _, h, _⟩ := Vg12; exact h.lt
    refine wp_tabK Try.f8 8 (keepT8 ga m base) (fun i => i == 4) 4 1 (by kernel_rfl) (by kernel_rfl) (by kernel_rfl) (by kernel_rfl) ⟨fun h => (by cases h), ⟨fun h => (by cases h), ⟨fun h => (by cases h), ⟨fun h => (by cases h), ⟨fun _ w v h => Sp.var_lt h, trivial⟩⟩⟩⟩⟩ ?_ ?_
    · refine ⟨fun a' w' F => ⟨_, rfl, wanted_none rfl, (arm_load rfl (F.keep 2 (Value.pointer (some ⟨ga, 0, none⟩)) (by kernel_rfl) rfl).is (VaW.mono F.below)).b⟩, ?_⟩
      refine ⟨fun a' w' F => ⟨_, rfl, wanted_none rfl, (arm_own1 (n := 1) rfl rfl (by decide)).b⟩, ?_⟩
      refine ⟨fun a' w' F => ⟨_, rfl, wanted_none rfl, (arm_nat rfl (F.at' 1 59 _ rfl (by kernel_rfl)).is (by decide) (nl_is (L := 0) (by decide) (by decide))).b⟩, ?_⟩
      refine ⟨fun a' w' F => ⟨_, rfl, wanted_none rfl, (arm_MulN (Nat.le_trans hbase F.below.size) rfl (F.at' 0 58 _ rfl (by kernel_rfl)).is (F.at' 2 60 _ rfl (by kernel_rfl)).is hm' (nlb (by decide)) (Nat.mul_one m)).b⟩, ?_⟩
      refine ⟨fun a' w' F => ⟨_, rfl, wanted_none rfl, arm_alloc rfl (Nat.le_trans hbase F.below.size)⟩, ?_⟩
      exact trivial
    intro gp wp bp G Gs
    obtain ⟨g14, e4, hg14, hv14⟩ := G 4 14 _ rfl
    obtain ⟨v3, e3, n3⟩ : ∃ v, gp 3 = v ∧ NewN base wp v m := ⟨_, rfl, G 3 61 _ rfl⟩
    obtain ⟨x3, c3, rfl⟩ := n3.isN.shape
    clear G Gs
    simp only [keepT8]
    simp only [putD, entries, List.map_cons, List.map_nil, List.foldl_cons, List.foldl_nil, Act.put, List.setIfInBounds_toArray, List.set_cons_zero, List.set_cons_succ, e3, e4]
    refine wpAny_store (j := 5) (by kernel_rfl) rfl rfl rfl rfl rfl rfl ⟨_, _, _, rfl⟩ hv14 ?_
    refine wpAny_done (by kernel_rfl) ?_ _
    go_wp2_with fail
    go_meet
    case rel => exact ⟨g14, rfl, (Vg7.mono (B := 0) bp).setOther hv14 (by omega), (Vg8.mono (B := 0) bp).setOther hv14 (by omega), (Vg10.mono (B := 0) bp).setOther hv14 (by omega), (Vg12.mono (B := 0) bp).setOther hv14 (by omega), ⟨x3, c3, hv14.set, (n3.weaken hBb).setVar hv14⟩, (hB.trans (bp.mono hB.size)).setCell (p := ⟨g14, 0, none⟩) (Nat.le_trans hBb hg14) _⟩
  case rest =>
  clear Vg7 Vg8 Vg10 Vg12 hB
  obtain ⟨g14, rfl, Vg7, Vg8, Vg10, Vg12, Vg14, hB⟩ := hcut
  rename World => w14
  have cellg7 : ∃ s c, w14.cell? ⟨g7, 0, none⟩ = some (.slice s (nl m) c) := by obtain ⟨s, c, hv, _⟩ := Vg7; exact ⟨s, c, hv.cell⟩
  obtain ⟨sg7, cg7, cellg7⟩ := cellg7
  have cellg8 : ∃ s c, w14.cell? ⟨g8, 0, none⟩ = some (.slice s (nl m) c) := by obtain ⟨s, c, hv, _⟩ := Vg8; exact ⟨s, c, hv.cell⟩
  obtain ⟨sg8, cg8, cellg8⟩ := cellg8
  have cellg10 : ∃ s c, w14.cell? ⟨g10, 0, none⟩ = some (.slice s (nl m) c) := by obtain ⟨s, c, hv, _⟩ := Vg10; exact ⟨s, c, hv.cell⟩
  obtain ⟨sg10, cg10, cellg10⟩ := cellg10
  have cellg12 : ∃ s c, w14.cell? ⟨g12, 0, none⟩ = some (.slice s (nl m) c) := by obtain ⟨s, c, hv, _⟩ := Vg12; exact ⟨s, c, hv.cell⟩
  obtain ⟨sg12, cg12, cellg12⟩ := cellg12
  have cellg14 : ∃ s c, w14.cell? ⟨g14, 0, none⟩ = some (.slice s (nl m) c) := by obtain ⟨s, c, hv, _⟩ := Vg14; exact ⟨s, c, hv.cell⟩
  obtain ⟨sg14, cg14, cellg14⟩ := cellg14
  have VaW := Va.mono hB
  obtain ⟨ya, da, qa, ia⟩ := VaW
  have ea := qa.cell
  clear ia
  go_wp2_with fail
  clear ea qa cellg7 cellg8 cellg10 cellg12 cellg14
  obtain ⟨q7, rfl, h7⟩ := Vg7.slot
  obtain ⟨q8, rfl, h8⟩ := Vg8.slot
  obtain ⟨q10, rfl, h10⟩ := Vg10.slot
  obtain ⟨q12, rfl, h12⟩ := Vg12.slot
  obtain ⟨q14, rfl, h14⟩ := Vg14.slot
  have hJ0 : 0 < nl m → J5 wB (nl m) [q7, q8, q10, q12, q14] w14 := fun h => ⟨hB, fun q hq => by
    simp only [List.mem_cons, List.not_mem_nil, or_false] at hq
    rcases hq with rfl | rfl | rfl | rfl | rfl
    · exact h7 h
    · exact h8 h
    · exact h10 h
    · exact h12 h
    · exact h14 h⟩
  clear h7 h8 h10 h12 h14 Vg7 Vg8 Vg10 Vg12 Vg14
  go_loopw [15] (fun s15 wr => ∃ i : Nat, i ≤ nl m ∧ s15 = .int .i64 (i : Int) ∧ Below wB.heap.size wB wr ∧ (0 < nl m → J5 wB (nl m) [q7, q8, q10, q12, q14] wr)) (fun s15 _ => nl m - (intOf s15).toNat)
  case atStart => exact ⟨0, Nat.zero_le _, rfl, hB, hJ0⟩
  case round =>
    clear hJ0 hB
    obtain ⟨i, hi, rfl, hB, hJ⟩ := hrel
    have VaW := Va.mono hB
    obtain ⟨ya, da, qa, ia⟩ := VaW
    have ea := qa.cell
    by_cases hlt : i < nl m
    · have hJ1 := hJ (by omega)
      go_upto_region 14 with (fail)
      refine wp_body wB (nl m) i q7 q8 q10 q12 q14 (by kernel_rfl) rfl rfl rfl rfl rfl rfl rfl hJ1 hlt fa ?_
      intro w' hJ'
      simp only [keepTab, putV, List.foldl_cons, List.foldl_nil, Act.put, List.setIfInBounds_toArray, List.set_cons_zero, List.set_cons_succ]
      go_wp2_with fail
      go_roundw
      case rel => exact ⟨i + 1, by omega, by go_num, hJ'.below, fun _ => hJ'⟩
      case measure => simp [intOf] <;> omega
    · obtain rfl : i = nl m := by omega
      have VxW := Vx.mono hB
      obtain ⟨yx, dx, qx, ix⟩ := VxW
      have ex := qx.cell
      go_wp2_with fail
      refine (c_natural_Same1 _ _ m _ ia ix hm').mono ?_
      rintro e w15 ⟨rfl, bb⟩
      replace hB := hB.trans (bb.mono hB.size)
      clear ea qa ia ex qx ix bb
      have VbW := Vb.mono hB
      have VyW := Vy.mono hB
      obtain ⟨yb2, db2, qb2, ib2⟩ := VbW
      have eb2 := qb2.cell
      obtain ⟨yy, dy, qy, iy⟩ := VyW
      have ey := qy.cell
      go_wp2_with fail
      refine (c_natural_Same1 _ _ n _ ib2 iy hn').mono ?_
      rintro e w16 ⟨rfl, bb⟩
      replace hB := hB.trans (bb.mono hB.size)
      clear eb2 qb2 ib2 ey qy iy bb
      go_wp2_with fail
      refine (c_awake _).mono ?_
      rintro e w17 ⟨rfl, bb⟩
      go_wp2
      go_ret
      exact ⟨rfl, hb1.trans ((hB.trans (bb.mono hB.size)).mono hb1.size)⟩
end Go.Proofs.Ythpndmamegfbkaa
