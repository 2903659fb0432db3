/- Tables for a part of a region: what is left of the region comes behind; new variables. The reference's bit. The state of the reference's DivMod. The reference's DivMod. The reference's Gcd. The reference's Gcd and a negation as operations of a region that draws its order; a variable written behind a table. The reference's Format. A region that draws its order and writes: an invariant of the world that every operation keeps, and the value of each operation. Fractions in memory; tables of regions whose operations may be skipped. Short forms for the rows of tables. -/
import Derived.Test.YthefidbgjgfeiaaP04
namespace Go.Proofs.Ythefidbgjgfeiaa
set_option linter.unusedSimpArgs false
set_option linter.unusedVariables false
set_option maxRecDepth 100000
open Go.RowKit
section
variable {P : Program} {ops : Array Oper} {Q : Exit → Act → World → Prop} {md : Region.Mode}
theorem EachX.of_all {α : Type} {p : α → Prop} (h : ∀ x, p x) : ∀ l, EachX p l
  | [] => trivial
  | x :: l => ⟨h x, EachX.of_all h l⟩
/-- As Arm; where al, the value lies in a new block. -/
def ArmB (P : Program) (Q : Exit → Act → World → Prop) (al : Bool) (o : Oper) (a : Act) (w : World) (s : Sp) : Prop :=
  ∀ K : Act → World → Prop, (∀ v w', s.p w' v → Below w.heap.size w w' → (al = true → w.heap.size ≤ blk v) → K (a.put o.dst v) w') → Oper.wp P o a w K Q
theorem Arm.b {o : Oper} {a : Act} {w : World} {s : Sp} (h : Arm P Q o a w s) : ArmB P Q false o a w s := fun K hK => h K (fun v w' h1 h2 => hK v w' h1 h2 (fun h => by cases h))
theorem wp_tabK (f : Func) (r : Nat) (D : List (Nat × Tmp × Sp)) (Al : Nat → Bool) (n fuel : Nat) {id : Nat} {ops' : Array Oper} {a : Act} {w : World} (hops : opsOf f r = ops') (hm : P.follows .mixedOrders = true)
    (hlen : (opsOf f r).size = fuel + D.length) (hok : tabOk .any (opsOf f r) (entries D) n (Array.replicate (fuel + D.length) false) a.tmps.size = true)
    (hal : EachX (fun x => Al x.1 = true → ∀ w v, x.2.2.p w v → blk v < w.heap.size) D)
    (steps : EachX (fun x => ∀ (a' : Act) (w' : World), Found .any (opsOf f r) D x.1 w a a' w' → ∃ o, (opsOf f r)[x.1]? = some o ∧ Region.wanted o (yielded (opsOf f r) a'.tmps) = true ∧ ArmB P Q (Al x.1) o a' w' x.2.2) D)
    (hrest : ∀ (g : Nat → Value) w', Below w.heap.size w w' → (∀ (i : Nat) (t : Tmp) (s : Sp), D[i]? = some (i, t, s) → s.p w' (g i)) → (∀ i j : Nat, ((entries D).map (·.1)).contains i = true → ((entries D).map (·.1)).contains j = true → Al i = true → Al j = true → i ≠ j → blk (g i) ≠ blk (g j)) →
      wpAny P .any (opsOf f r) Q fuel (markAll ((entries D).map (·.1)) (Array.replicate (fuel + D.length) false)) (putD (entries D) g a) w') : (Code.region id ops' true).wp P Q a w := by
  subst hops
  refine wp_region_any hm ?_
  have hb0 : Below w.heap.size w w.drew := bel_drewN (Below.refl _ _) 1
  change wpAny P .any _ Q _ _ _ w.drew
  rw [hlen]
  unfold tabOk at hok
  simp only [Bool.and_eq_true, decide_eq_true_eq] at hok
  obtain ⟨⟨⟨⟨hph, hds⟩, hnt⟩, hni⟩, hlt⟩ := hok
  have ht : ∀ p ∈ entries D, p.2 < a.tmps.size := fun p hp => by simpa using List.all_eq_true.1 hlt p hp
  have hcon : ∀ t, ((entries D).map (·.2)).contains t = false → t ∉ (entries D).map (·.2) := fun t h hm => by
    rw [List.contains_iff_mem.2 hm] at h; cases h
  have hmem : ∀ (i : Nat) (t : Tmp) (s : Sp), D[i]? = some (i, t, s) → (i, t, s) ∈ D := fun i t s h => List.mem_of_getElem? h
  have key := keyed (D := D) (by simpa [entries, Function.comp_def] using hni)
  have hlen2 : D.length = (entries D).length := by simp [entries]
  rw [hlen2] at hph hrest ⊢
  refine wpAny_phaseD (fuel := fuel) (entries D) n Al (fun i v w' => ∀ t s, (i, t, s) ∈ D → s.p w' v) hph hds hnt (fun i _ v w1 w2 h hb t s hm => s.st _ _ _ (h t s hm) hb) ?_ ?_ ?_
  · intro i hi hA v w' h
    obtain ⟨p, hp, rfl⟩ := List.mem_map.1 hi
    obtain ⟨x, hx, rfl⟩ := List.mem_map.1 hp
    exact hal.mem x hx hA w' v (h x.2.1 x.2.2 hx)
  · intro p hp g w' hb hF K hK
    obtain ⟨x, hx, rfl⟩ := List.mem_map.1 hp
    obtain ⟨o, ho, hw, harm⟩ := steps.mem x hx (putD (entries D) g a) w' ⟨hb0.trans (hb.mono hb0.size), fun t h => putD_slot t (hcon t h), fun i t s h1 h2 =>
      ⟨g i, putD_in hnt (mem_entries (hmem i t s h1)) (ht _ (mem_entries (hmem i t s h1))), hF i (List.mem_map.2 ⟨_, mem_entries (hmem i t s h1), rfl⟩) (List.contains_iff_mem.1 h2) t s (hmem i t s h1)⟩⟩
    unfold wpOp
    rw [ho]
    show if Region.wanted o (yielded (opsOf f r) (putD (entries D) g a).tmps) = true then _ else _
    rw [if_pos hw]
    refine .inl (harm K (fun v w'' hv hbv hA => ?_))
    have hd := List.all_eq_true.1 hds _ hp
    rw [beq_iff_eq] at hd
    have hdo : o.dst = some x.2.1 := by
      have : dstOf (opsOf f r) x.1 = o.dst := by unfold dstOf; rw [ho]
      rw [← this]; exact hd
    rw [hdo]
    refine hK v w'' (fun t s hm => ?_) hbv hA
    have e2 := key _ hm _ (show (x.1, x.2.1, x.2.2) ∈ D from hx) rfl
    simp only [Prod.mk.injEq, true_and] at e2
    rw [e2.2]; exact hv
  · intro g w' hb hF hsep
    exact hrest g w' (hb0.trans (hb.mono hb0.size)) (fun i t s h => hF i (List.mem_map.2 ⟨_, mem_entries (hmem i t s h), rfl⟩) t s (hmem i t s h))
      (fun i j hi hj => hsep i (List.contains_iff_mem.1 hi) j (List.contains_iff_mem.1 hj))
end
/-- The address of a new variable of the call's own, not yet written. -/
def Sp.var (base : Nat) : Sp := ⟨fun w v => ∃ g, v = .pointer (some ⟨g, 0, none⟩) ∧ base ≤ g ∧ VarB w g none 0 0, fun _ _ _ h hb => by obtain ⟨g, h1, h2, h3⟩ := h; exact ⟨g, h1, h2, h3.mono hb h3.lt⟩⟩
theorem Sp.var_lt {base : Nat} {w : World} {v : Value} (h : (Sp.var base).p w v) : blk v < w.heap.size := by
  obtain ⟨g, rfl, _, h3⟩ := h; exact h3.lt
section
variable {Q : Exit → Act → World → Prop} {o : Oper} {a : Act} {w : World} {x y : Operand} {m n : Nat} {tt : Array TypeId}
theorem arm_alloc {base : Nat} (ho : o.op = .alloc 28) (hb : base ≤ w.heap.size) : ArmB Try.prog Q true o a w (.var base) := by
  intro K hK
  unfold Oper.wp execOp
  rw [ho]
  go_simp
  exact hK _ _ ⟨_, rfl, hb, VarB.made w none 0 0⟩ (bel1 w _) (fun _ => Nat.le_refl _)
theorem ofNewB {w w' : World} {base N : Nat} {e : Ending} (hb0 : base ≤ w.heap.size) (h : RetNew w N e w') : ∃ v, e = .returned v ∧ (Sp.new base N).p w' v ∧ Below w.heap.size w w' := by
  obtain ⟨v, rfl, hn, hb⟩ := h; exact ⟨v, rfl, hn.weaken hb0, hb⟩
theorem arm_rAddN {base : Nat} (hb : base ≤ w.heap.size) (ho : o.op = .call { callee := .value (.func 65), args := #[x, y], argTypes := tt }) (hx : Is a w x (.nat m)) (hy : Is a w y (.nat n)) (hm : nl m ≤ 1000000000000) (hn : nl n ≤ 1000000000000) {N : Nat} (hN : m + n = N) : Arm Try.prog Q o a w (.new base N) := by
  subst hN
  exact arm_two ho (enters Try.func65 rfl rfl) hx hy (R := fun w => RetNew w (m + n)) (fun va vb w h1 h2 => c_ref_Add va vb m n w h1 h2 hm hn) (fun _ _ h => ofNewB hb h)
theorem arm_rOf (ho : o.op = .call { callee := .value (.func 73), args := #[x], argTypes := tt }) (hx : Is a w x (.val (.int .u64 (n : Int)))) (hn : n < 18446744073709551616) : Arm Try.prog Q o a w (.nat n) := by
  refine arm_call ho (enters Try.func73 rfl rfl) (R := fun e w' => RetNew w n e w') ?_ (fun _ _ h => ofNew h)
  have hx' : a.eval x = .int .u64 (n : Int) := hx
  simpa [hx'] using c_ref_Of n w hn
theorem Is.new {base : Nat} (h : Is a w x (.new base m)) : Is a w x (.nat m) := NewN.isN h
end
theorem run_store {w : World} {g L c : Nat} {s : Option Addr} {u : Value} (hu : ∃ s' L' c', u = .slice s' L' c') (h : VarB w g s L c) : (Instr.storeAt 28 (.pointer (some ⟨g, 0, none⟩)) (.agg #[u])).run Try.prog w = .ok () (w.setCell ⟨g, 0, none⟩ u) := by
  obtain ⟨s', L', c', rfl⟩ := hu
  have c1 := h.cell
  have f1 := h.frozen
  go_simp
theorem wp_store {Q : Exit → Act → World → Prop} {o : Oper} {a : Act} {w : World} {K : Act → World → Prop} {x y : Operand} {g L c : Nat} {s : Option Addr} {u : Value} (hop : o.op = .store 28 x y) (hd : o.dst = none)
    (hx : a.eval x = .pointer (some ⟨g, 0, none⟩)) (hy : a.eval y = .agg #[u]) (hu : ∃ s' L' c', u = .slice s' L' c') (hv : VarB w g s L c) (hK : K a (w.setCell ⟨g, 0, none⟩ u)) : Oper.wp Try.prog o a w K Q := by
  unfold Oper.wp execOp
  rw [hop]
  simp only [hx, hy, Sem.run_bind, run_store hu hv, Result.andThen, Sem.run_pure, Oper.upon_skip]
  rw [hd]
  exact hK
/-- The store that is left. -/
theorem wpAny_store {Q : Exit → Act → World → Prop} {md : Region.Mode} {ops : Array Oper} {o : Oper} {a : Act} {w : World} {j fuel : Nat} {listed : Array Bool} {x y : Operand} {g L c : Nat} {s : Option Addr} {u : Value}
    (hr : Region.ready md ops listed = [j]) (ho : ops[j]? = some o) (hop : o.op = .store 28 x y) (hg : o.guard = none) (hd : o.dst = none)
    (hx : a.eval x = .pointer (some ⟨g, 0, none⟩)) (hy : a.eval y = .agg #[u]) (hu : ∃ s' L' c', u = .slice s' L' c') (hv : VarB w g s L c) (h : wpAny Try.prog md ops Q fuel (listed.setIfInBounds j true) a (w.setCell ⟨g, 0, none⟩ u)) :
    wpAny Try.prog md ops Q (fuel + 1) listed a w := by
  refine wpAny_ready hr (by simp) (AllReady.cons ho (fun K hK => ?_) AllReady.nil)
  rw [if_pos (wanted_none hg)]
  exact wp_store hop hd hx hy hu hv (hK _ _ h)
end Go.Proofs.Ythefidbgjgfeiaa
namespace Go.Proofs.Ythefidbgjgfeiaa
set_option linter.unusedSimpArgs false
set_option linter.unusedVariables false
set_option maxRecDepth 100000
open Go.RowKit
theorem bit_of (m i : Nat) : D m (i / 32) / 2 ^ (i % 32) % 2 = m / 2 ^ i % 2 := by
  unfold D
  have h1 : (4294967296 : Nat) ^ (i / 32) = 2 ^ (32 * (i / 32)) := by rw [Nat.pow_mul]
  have h3 : ∀ X s : Nat, s ≤ 32 → X % 4294967296 / 2 ^ s = X / 2 ^ s % 2 ^ (32 - s) := by
    intro X s hs
    rw [show (4294967296 : Nat) = 2 ^ s * 2 ^ (32 - s) by rw [← Nat.pow_add, show s + (32 - s) = 32 by omega], Nat.mod_mul_right_div_self]
  rw [h3 _ _ (by omega), h1, Nat.div_div_eq_div_mul, ← Nat.pow_add, Nat.div_add_mod]
  have h4 : (2 : Nat) ∣ 2 ^ (32 - i % 32) := ⟨2 ^ (31 - i % 32), by rw [← Nat.pow_succ', show (31 - i % 32).succ = 32 - i % 32 by omega]⟩
  exact Nat.mod_mod_of_dvd _ h4
theorem c_bit (va : Value) (m i : Nat) (w : World) (ha : IsN w va m) (hm : nl m ≤ 1000000000000) (hi : i ≤ 60000000000000) :
    Calls Try.prog 105 #[va, .int .i64 (i : Int)] w fun e w' => RetV w (.int .u64 ((m / 2 ^ i % 2 : Nat) : Int)) e w' := by
  obtain ⟨a, ca, rfl, hca, ra⟩ := ha
  obtain ⟨k0, k1⟩ := box1 (L := nl m) (c := ca) (N := m) ⟨a, ca, rfl, hca, ra⟩
  obtain ⟨y1, d1, q1, i1⟩ := k1
  have e1 := q1.cell
  obtain ⟨P, hP⟩ : ∃ P : Nat, Hid (P = i / 32) := ⟨_, Lib.hid rfl⟩
  obtain ⟨R, hR⟩ : ∃ R : Nat, Hid (R = i % 32) := ⟨_, Lib.hid rfl⟩
  have hq : (i : Int) / 32 = (P : Int) := by have := hP.out; omega
  have hq' : Int.tdiv (i : Int) 32 = (P : Int) := by rw [Int.tdiv_eq_ediv_of_nonneg (by omega)]; exact hq
  have hr : (i : Int) % 32 = (R : Int) := by have := hR.out; omega
  have hr' : Int.tmod (i : Int) 32 = (R : Int) := by rw [Int.tmod_eq_emod_of_nonneg (by omega)]; exact hr
  have hR32 : R ≤ 31 := by have := hR.out; omega
  have hPb : P ≤ 60000000000000 := by have := hP.out; omega
  have hbit : D m P / 2 ^ R % 2 = m / 2 ^ i % 2 := by rw [hP.out, hR.out]; exact bit_of m i
  have HB := Lib.hid hbit
  clear hbit
  obtain ⟨V, hV⟩ : ∃ V : Nat, Hid (V = D m P) := ⟨_, Lib.hid rfl⟩
  have hVb : V ≤ 4294967295 := by have := D_lt m P; have := hV.out; omega
  go_enter Try.func105, Try.ntmps105
  go_wp2_with fail
  refine (c_digit _ (nl m) m P _ i1 (by omega) hPb).mono ?_
  rintro e w1 ⟨rfl, bb⟩
  rw [← hV.out]
  have hb1 := k0.trans (bb.mono k0.size)
  go_wp2_with fail
  go_loopw [5, 6] (fun s5 s6 wr => ∃ k x : Nat, k ≤ R ∧ s6 = .int .i64 (k : Int) ∧ s5 = .int .u64 (x : Int) ∧ Hid (x = V / 2 ^ k) ∧ x ≤ 4294967295 ∧ wr = w1) (fun _ s6 _ => R - (intOf s6).toNat)
  case atStart => exact ⟨0, V, Nat.zero_le _, rfl, rfl, Lib.hid (by simp), hVb, rfl⟩
  case round =>
    obtain ⟨k, x, hk, rfl, rfl, HX, hxb, rfl⟩ := hrel
    by_cases hlt : k < R
    · obtain ⟨y, hy⟩ : ∃ y : Nat, Hid (y = x / 2) := ⟨_, Lib.hid rfl⟩
      have hq2 : ((x : Nat) : Int) / 2 = ((y : Nat) : Int) := by have := hy.out; omega
      have hyb : y ≤ 4294967295 := by have := hy.out; omega
      go_wp2_with fail
      go_roundw
      case rel => exact ⟨k + 1, y, by omega, by go_num, rfl, Lib.hid (by rw [hy.out, HX.out, Nat.pow_succ, Nat.div_div_eq_div_mul]), hyb, trivial⟩
      case measure => simp [intOf] <;> omega
    · obtain rfl : k = R := by omega
      obtain ⟨y, hy⟩ : ∃ y : Nat, Hid (y = x % 2) := ⟨_, Lib.hid rfl⟩
      have hq2 : ((x : Nat) : Int) % 2 = ((y : Nat) : Int) := by have := hy.out; omega
      go_wp2
      go_ret
      refine ⟨?_, hb1⟩
      rw [← HB.out, ← hV.out, ← HX.out]
      refine congrArg Ending.returned (congrArg (Value.int IntKind.u64) ?_)
      have := hy.out
      omega
end Go.Proofs.Ythefidbgjgfeiaa
namespace Go.Proofs.Ythefidbgjgfeiaa
set_option linter.unusedSimpArgs false
set_option linter.unusedVariables false
set_option maxRecDepth 100000
open Go.RowKit
/-- Two result variables, quotient and remainder in variables of their own, the arguments in theirs. -/
structure DM (w wr : World) (m n q r : Nat) : Prop where
  below : Below w.heap.size w wr
  va : VarI wr w.heap.size m
  vb : VarI wr (w.heap.size + 1) n
  r1 : VarB wr (w.heap.size + 2) none 0 0
  r2 : VarB wr (w.heap.size + 3) none 0 0
  vq : VarN w.heap.size wr (w.heap.size + 4) q
  vr : VarN w.heap.size wr (w.heap.size + 5) r
theorem DM.mono {w wr w' : World} {m n q r : Nat} (h : DM w wr m n q r) (hb : Below wr.heap.size wr w') : DM w w' m n q r :=
  ⟨h.below.trans (hb.mono h.below.size), h.va.mono hb, h.vb.mono hb, h.r1.mono hb h.r1.lt, h.r2.mono hb h.r2.lt, h.vq.mono (B := 0) hb, h.vr.mono (B := 0) hb⟩
theorem VarI.setOther {w : World} {g N g' L' c' : Nat} {a' : Option Addr} {u : Value} (h : VarI w g N) (h' : VarB w g' a' L' c') (hne : g' ≠ g) : VarI (w.setCell ⟨g', 0, none⟩ u) g N := by
  obtain ⟨a, c, h1, h2⟩ := h
  exact ⟨a, c, h1.setOther _ _ hne, h2.setVar h'⟩
theorem VarN.setOther {w : World} {base g N g' L' c' : Nat} {a' : Option Addr} {u : Value} (h : VarN base w g N) (h' : VarB w g' a' L' c') (hne : g' ≠ g) : VarN base (w.setCell ⟨g', 0, none⟩ u) g N := by
  obtain ⟨a, c, h1, h2⟩ := h
  exact ⟨a, c, h1.setOther _ _ hne, h2.setVar h'⟩
theorem VarN.setN {w : World} {base g M N c : Nat} {x : Option Addr} (h : VarN base w g M) (hn : NewN base w (.agg #[.slice x (nl N) c]) N) : VarN base (w.setCell ⟨g, 0, none⟩ (.slice x (nl N) c)) g N := by
  obtain ⟨a, c', h1, h2⟩ := h
  exact ⟨x, c, h1.set, hn.setVar h1⟩
theorem DM.setr {w wr : World} {m n q r N c : Nat} {x : Option Addr} (h : DM w wr m n q r) (hn : NewN w.heap.size wr (.agg #[.slice x (nl N) c]) N) : DM w (wr.setCell ⟨w.heap.size + 5, 0, none⟩ (.slice x (nl N) c)) m n q N := by
  obtain ⟨a, c', h1, h2⟩ := h.vr
  exact ⟨h.below.setCell (p := ⟨w.heap.size + 5, 0, none⟩) (Nat.le_add_right _ _) _, h.va.setOther h1 (by omega), h.vb.setOther h1 (by omega), h.r1.setOther _ _ (by simp), h.r2.setOther _ _ (by simp), h.vq.setOther h1 (by omega), h.vr.setN hn⟩
theorem DM.setq {w wr : World} {m n q r N c : Nat} {x : Option Addr} (h : DM w wr m n q r) (hn : NewN w.heap.size wr (.agg #[.slice x (nl N) c]) N) : DM w (wr.setCell ⟨w.heap.size + 4, 0, none⟩ (.slice x (nl N) c)) m n N r := by
  obtain ⟨a, c', h1, h2⟩ := h.vq
  exact ⟨h.below.setCell (p := ⟨w.heap.size + 4, 0, none⟩) (Nat.le_add_right _ _) _, h.va.setOther h1 (by omega), h.vb.setOther h1 (by omega), h.r1.setOther _ _ (by simp), h.r2.setOther _ _ (by simp), h.vq.setN hn, h.vr.setOther h1 (by omega)⟩
theorem dm_uniq {Y n q r : Nat} (h : Y = n * q + r) (hr : r < n) : Y / n = q ∧ Y % n = r :=
  (Nat.div_mod_unique (by omega)).2 ⟨by omega, hr⟩
theorem two_pow_half (m k : Nat) : m / 2 ^ k = 2 * (m / 2 ^ (k + 1)) + m / 2 ^ k % 2 := by
  rw [Nat.pow_succ, ← Nat.div_div_eq_div_mul]; omega
theorem lt_len2 (m : Nat) : m < 2 ^ len2 m := by
  unfold len2
  split
  · omega
  · exact Nat.lt_log2_self
/-- One round of the long division in binary digits. -/
theorem dm_round {m n k : Nat} (hn : 0 < n) : (n ≤ m / 2 ^ (k + 1) % n + m / 2 ^ (k + 1) % n + m / 2 ^ k % 2 → m / 2 ^ k / n = m / 2 ^ (k + 1) / n + m / 2 ^ (k + 1) / n + 1 ∧ m / 2 ^ k % n = m / 2 ^ (k + 1) % n + m / 2 ^ (k + 1) % n + m / 2 ^ k % 2 - n) ∧
    (m / 2 ^ (k + 1) % n + m / 2 ^ (k + 1) % n + m / 2 ^ k % 2 < n → m / 2 ^ k / n = m / 2 ^ (k + 1) / n + m / 2 ^ (k + 1) / n ∧ m / 2 ^ k % n = m / 2 ^ (k + 1) % n + m / 2 ^ (k + 1) % n + m / 2 ^ k % 2) := by
  have h1 := two_pow_half m k
  have h2 := Nat.div_add_mod (m / 2 ^ (k + 1)) n
  have h3 := Nat.mod_lt (m / 2 ^ (k + 1)) hn
  generalize m / 2 ^ (k + 1) = X at *
  generalize m / 2 ^ k = Y at *
  generalize hb : Y % 2 = b at *
  have hb2 : b < 2 := by omega
  generalize X / n = q at *
  generalize X % n = r at *
  subst h2
  have e1 : n * (q + q) = n * q + n * q := Nat.mul_add n q q
  have e2 : n * (q + q + 1) = n * q + n * q + n := by rw [Nat.mul_add, e1, Nat.mul_one]
  refine ⟨fun h => dm_uniq ?_ (by omega), fun h => dm_uniq ?_ h⟩
  · rw [h1, e2]; omega
  · rw [h1, e1]; omega
/-- The two results are laid into their variables, in whatever order. -/
theorem DM.fin {w w0 : World} {m n q r cq cr : Nat} {aq ar : Option Addr} (h : DM w w0 m n q r) (hq : VarB w0 (w.heap.size + 4) aq (nl q) cq) (nq : NewN w.heap.size w0 (.agg #[.slice aq (nl q) cq]) q)
    (hr : VarB w0 (w.heap.size + 5) ar (nl r) cr) (nr : NewN w.heap.size w0 (.agg #[.slice ar (nl r) cr]) r) (w1 : World)
    (hw : w1 = (w0.setCell ⟨w.heap.size + 2, 0, none⟩ (.slice aq (nl q) cq)).setCell ⟨w.heap.size + 3, 0, none⟩ (.slice ar (nl r) cr) ∨ w1 = (w0.setCell ⟨w.heap.size + 3, 0, none⟩ (.slice ar (nl r) cr)).setCell ⟨w.heap.size + 2, 0, none⟩ (.slice aq (nl q) cq)) :
    VarB w1 (w.heap.size + 2) aq (nl q) cq ∧ VarB w1 (w.heap.size + 3) ar (nl r) cr ∧ NewN w.heap.size w1 (.agg #[.slice aq (nl q) cq]) q ∧ NewN w.heap.size w1 (.agg #[.slice ar (nl r) cr]) r ∧ Below w.heap.size w w1 := by
  rcases hw with rfl | rfl
  · have k2 := h.r2.setOther ⟨w.heap.size + 2, 0, none⟩ (.slice aq (nl q) cq) (by simp)
    exact ⟨h.r1.set.setOther _ _ (by simp), k2.set, (nq.setVar h.r1).setVar k2, (nr.setVar h.r1).setVar k2, (h.below.setCell (p := ⟨w.heap.size + 2, 0, none⟩) (Nat.le_add_right _ _) _).setCell (p := ⟨w.heap.size + 3, 0, none⟩) (Nat.le_add_right _ _) _⟩
  · have k1 := h.r1.setOther ⟨w.heap.size + 3, 0, none⟩ (.slice ar (nl r) cr) (by simp)
    exact ⟨k1.set, h.r2.set.setOther _ _ (by simp), (nq.setVar h.r2).setVar k1, (nr.setVar h.r2).setVar k1, (h.below.setCell (p := ⟨w.heap.size + 3, 0, none⟩) (Nat.le_add_right _ _) _).setCell (p := ⟨w.heap.size + 2, 0, none⟩) (Nat.le_add_right _ _) _⟩
section
variable {Q : Exit → Act → World → Prop} {o : Oper} {a : Act} {w : World} {x y : Operand} {m n : Nat} {tt : Array TypeId}
theorem arm_bit {i : Nat} (ho : o.op = .call { callee := .value (.func 105), args := #[x, y], argTypes := tt }) (hx : Is a w x (.nat m)) (hy : Is a w y (.val (.int .i64 (i : Int)))) (hm : nl m ≤ 1000000000000) (hi : i ≤ 60000000000000) {b : Nat} (hb : m / 2 ^ i % 2 = b) :
    Arm Try.prog Q o a w (.val (.int .u64 (b : Int))) := by
  subst hb
  refine arm_call ho (enters Try.func105 rfl rfl) (R := RetV w (.int .u64 ((m / 2 ^ i % 2 : Nat) : Int))) ?_ (fun _ _ h => ofV h)
  have hy' : a.eval y = .int .i64 (i : Int) := hy
  simpa [hy'] using c_bit _ m i w hx hm hi
end
end Go.Proofs.Ythefidbgjgfeiaa
namespace Go.Proofs.Ythefidbgjgfeiaa
set_option linter.unusedSimpArgs false
set_option linter.unusedVariables false
set_option maxRecDepth 100000
open Go.RowKit
theorem VarN.isI {base : Nat} {w : World} {g N : Nat} (h : VarN base w g N) : VarI w g N := by
  obtain ⟨a, c, h1, h2⟩ := h; exact ⟨a, c, h1, h2.isN⟩
theorem nl_le_of {a b : Nat} (h : a ≤ b) (hb : nl b ≤ 100000000000) : nl a ≤ 1000000000000 := Nat.le_trans (nl_mono h) (by omega)
theorem nl_twice0 {a b d : Nat} (h : a ≤ 2 * b + 1) (hb : nl b ≤ d) : nl a ≤ d + 1 := by
  have h1 := nl_le_iff.1 hb
  refine nl_le_iff.2 (Nat.lt_of_le_of_lt h ?_)
  rw [Nat.pow_succ]
  generalize 4294967296 ^ d = P at *
  omega
theorem nl_twice {a b : Nat} (h : a ≤ 2 * b + 1) (hb : nl b ≤ 100000000000) : nl a ≤ 1000000000000 := Nat.le_trans (nl_twice0 h hb) (by decide)
theorem len2_le {m d : Nat} (h : nl m ≤ d) : len2 m ≤ 32 * d := by
  unfold len2
  split
  · omega
  · rename_i hm0
    have h2 : m < 2 ^ (32 * d) := by rw [Nat.pow_mul]; exact nl_le_iff.1 h
    have := (Nat.log2_lt hm0).2 h2
    omega
def dmTab7 (w : World) (m r k S b R1 : Nat) : List (Nat × Tmp × Sp) :=
   [(0, 25, .nat (r)),
    (1, 26, .nat (r)),
    (2, 27, .nat (S)),
    (3, 28, .nat (m)),
    (4, 29, .val (Value.int IntKind.i64 ((k : Nat)))),
    (5, 30, .val (Value.int IntKind.u64 ((b : Nat)))),
    (6, 31, .nat (b)),
    (7, 32, .new w.heap.size (R1))]
def dmTab11 (w : World) (T0 T : Nat) : List (Nat × Tmp × Sp) :=
   [(0, 46, .nat (T0)),
    (1, 47, .nat (1)),
    (2, 48, .new w.heap.size (T))]
set_option maxRecDepth 100000 in
set_option maxHeartbeats 2000000 in
theorem c_ref_DivMod (va vb : Value) (m n : Nat) (w : World) (ha : IsN w va m) (hb : IsN w vb n) (hm : nl m ≤ 100000000000) (hn : nl n ≤ 100000000000) (h0 : n ≠ 0) :
    Calls Try.prog 95 #[va, vb] w fun e w' => RetDiv w (m / n) (m % n) 0 e w' := by
  obtain ⟨a, ca, rfl, hca, ra⟩ := ha
  obtain ⟨b, cb, rfl, hcb, rb⟩ := hb
  have hnp := nl_pos h0
  have hm' : nl m ≤ 1000000000000 := by omega
  have hn' : nl n ≤ 1000000000000 := by omega
  have HN0 := Lib.hid h0
  clear h0
  go_enter Try.func95, Try.ntmps95
  go_upto_region 0 with (fail)
  go_cut [2, 3, 4, 5, 6] (fun s2 s3 s4 s5 s6 wx => s2 = .pointer (some ⟨w.heap.size, 0, none⟩) ∧ s3 = .pointer (some ⟨w.heap.size + 1, 0, none⟩) ∧ s4 = .pointer (some ⟨w.heap.size + 2, 0, none⟩) ∧ s5 = .pointer (some ⟨w.heap.size + 3, 0, none⟩) ∧
     VarI wx w.heap.size m ∧ VarI wx (w.heap.size + 1) n ∧ VarB wx (w.heap.size + 2) none 0 0 ∧ VarB wx (w.heap.size + 3) none 0 0 ∧ Below w.heap.size w wx ∧ wx.heap.size = w.heap.size + 4)
  case first =>
    obtain ⟨k0, k1, k2⟩ := box2 (L := nl m) (c := ca) (N := m) (L2 := nl n) (c2 := cb) (N2 := n) ⟨a, ca, rfl, hca, ra⟩ ⟨b, cb, rfl, hcb, rb⟩
    have hz : ((w.alloc (.cells #[.slice a (nl m) ca] 28)).alloc (.cells #[.slice b (nl n) cb] 28)).heap.size = w.heap.size + 2 := by simp
    generalize hw2 : (w.alloc (.cells #[.slice a (nl m) ca] 28)).alloc (.cells #[.slice b (nl n) cb] 28) = w2 at *
    obtain ⟨j0, j1, j2⟩ := box2 (w := w2) (a := none) (L := 0) (c := 0) (N := 0) (b := none) (L2 := 0) (c2 := 0) (N2 := 0) ⟨none, 0, rfl, by omega, by decide, fun h => by omega⟩ ⟨none, 0, rfl, by omega, by decide, fun h => by omega⟩
    have v1 := VarB.made w2 none 0 0
    have v2 := VarB.made (w2.alloc (.cells #[.slice none 0 0] 28)) none 0 0
    have v1' := v1.mono (bel1 _ (.cells #[.slice none 0 0] 28)) v1.lt
    rw [World.size_alloc] at v2
    rw [hz] at v1' v2
    subst hw2
    go_wp2_with fail
    go_meet
    case rel => exact ⟨rfl, rfl, rfl, rfl, VarR.mono k1 j0, VarR.mono k2 j0, v1', v2, k0.trans (j0.mono k0.size), by simp⟩
  case rest =>
    obtain ⟨rfl, rfl, rfl, rfl, Va, Vb, vr1, vr2, hb1, hsz⟩ := hcut
    clear ra rb hca hcb
    go_upto_region 1 with (fail)
    go_cut [7, 8] (fun s7 s8 wx => s7 = .pointer (some ⟨w.heap.size + 4, 0, none⟩) ∧ s8 = .pointer (some ⟨w.heap.size + 5, 0, none⟩) ∧ DM w wx m n 0 0)
    case first =>
      obtain ⟨k0, k1, k2⟩ := start2 wc none none 0 0 0 0
      rw [hsz] at k1 k2
      have hB := hb1.trans (k0.mono hb1.size)
      have nn : ∀ wz, NewN w.heap.size wz (.agg #[.slice none (nl 0) 0]) 0 := fun wz => by rw [nl_zero]; exact NewN.of_zero
      have hD : DM w ((wc.alloc (.cells #[.slice none 0 0] 28)).alloc (.cells #[.slice none 0 0] 28)) m n 0 0 :=
        ⟨hB, Va.mono k0, Vb.mono k0, vr1.mono k0 vr1.lt, vr2.mono k0 vr2.lt, ⟨none, 0, by rw [nl_zero]; exact k1, nn _⟩, ⟨none, 0, by rw [nl_zero]; exact k2, nn _⟩⟩
      go_wp2_with fail
      go_meet
      case rel => exact ⟨rfl, rfl, hD⟩
    case rest =>
      clear Va Vb vr1 vr2 hb1 hsz
      obtain ⟨rfl, rfl, hd⟩ := hcut
      have hq0 : ∀ K : Nat, True := fun _ => trivial
      obtain ⟨yb, db, qb, ib⟩ := hd.vb
      have eb := qb.cell
      obtain ⟨ya, da, qa, ia⟩ := hd.va
      have ea := qa.cell
      have hne : ((nl n : Nat) : Int) ≠ 0 := by omega
      go_wp2_with fail
      refine (c_ref_Bits _ m _ ia hm').mono ?_
      rintro e w1 ⟨rfl, bb⟩
      replace hd := hd.mono bb
      clear ea qa ia eb qb ib bb
      have hlen : len2 m ≤ 32000000000000 := Nat.le_trans (len2_le hm) (by decide)
      have HL := Lib.hid (lt_len2 m)
      generalize len2 m = K at *
      go_wp2_with fail
      go_loopw [9] (fun s9 wr => ∃ k : Nat, k ≤ K ∧ s9 = .int .i64 ((k : Int) - 1) ∧ DM w wr m n (m / 2 ^ k / n) (m / 2 ^ k % n)) (fun s9 _ => ((intOf s9) + 1).toNat)
      case atStart => exact ⟨K, Nat.le_refl _, rfl, by rw [Nat.div_eq_of_lt HL.out, Nat.zero_div, Nat.zero_mod]; exact hd⟩
      case round =>
        clear hd
        obtain ⟨k, hk, rfl, hd⟩ := hrel
        cases k with
        | zero =>
          rw [Nat.pow_zero, Nat.div_one] at hd
          obtain ⟨aq, cq, kq, nq⟩ := hd.vq
          obtain ⟨ar, cr, kr, nr⟩ := hd.vr
          have c4 := kq.cell
          have c5 := kr.cell
          have f2 := hd.r1.frozen
          have f3 := hd.r2.frozen
          have c2 := hd.r1.cell
          have c3 := hd.r2.cell
          have hfin := hd.fin kq nq kr nr
          obtain ⟨q0, hq0'⟩ : ∃ N : Nat, Hid (N = m / n) := ⟨_, Lib.hid rfl⟩
          obtain ⟨r0, hr0'⟩ : ∃ N : Nat, Hid (N = m % n) := ⟨_, Lib.hid rfl⟩
          rw [← hq0'.out, ← hr0'.out] at hd
          rw [← hq0'.out] at kq nq
          rw [← hr0'.out] at kr nr
          clear hfin c2 c3 c4 c5 f2 f3
          go_upto_region 12 with (fail)
          refine wp_region_any (by kernel_rfl) ?_
          change wpAny _ _ _ _ _ _ _ (World.drew _)
          have bz : Below wr.heap.size wr (World.drew wr) := bel_drewN (Below.refl _ _) 1
          have hd3 := hd.mono bz
          have kq3 := kq.mono bz kq.lt
          have kr3 := kr.mono bz kr.lt
          have nq3 := nq.mono bz
          have nr3 := nr.mono bz
          clear bz
          generalize World.drew wr = w3 at *
          have c4 := kq3.cell
          have c5 := kr3.cell
          have f2 := hd3.r1.frozen
          have c2 := hd3.r1.cell
          have kr4 := kr3.setOther ⟨w.heap.size + 2, 0, none⟩ (.slice aq (nl q0) cq) (by simp)
          have c5' := kr4.cell
          have r24 := hd3.r2.setOther ⟨w.heap.size + 2, 0, none⟩ (.slice aq (nl q0) cq) (by simp)
          have c3' := r24.cell
          have f3' := r24.frozen
          obtain ⟨p1, p2, p3, p4, p5⟩ := hd3.fin kq3 nq3 kr3 nr3 _ (.inl rfl)
          have c6 := p1.cell
          have c7 := p2.cell
          refine wpAny_take_loadD (i := 0) (t := 2) (d := some 49) (v := ?v12_0_1) rfl rfl (by decide) rfl rfl (by kernel_rfl) (by kernel_rfl) (fun _ _ _ h => h) ⟨by rfl, ?hy12_0_1⟩ ?_
          case hy12_0_1 => (go_simp; try with_reducible rfl)
          try simp only [Act.put, List.setIfInBounds_toArray, List.set_cons_zero, List.set_cons_succ]
          refine wpAny_ready (rs := [1, 2]) (by kernel_rfl) (by simp) ?_
          refine AllReady.cons rfl (fun K hK => ?_) ?_
          · go_simp
            refine hK _ _ ?_
            clear hK K
            try simp only [Act.put, List.setIfInBounds_toArray, List.set_cons_zero, List.set_cons_succ]
            refine wpAny_ready (rs := [2]) (by kernel_rfl) (by simp) ?_
            refine AllReady.cons rfl (fun K hK => ?_) AllReady.nil
            go_simp
            refine hK _ _ ?_
            clear hK K
            try simp only [Act.put, List.setIfInBounds_toArray, List.set_cons_zero, List.set_cons_succ]
            refine wpAny_ready (rs := [3]) (by kernel_rfl) (by simp) ?_
            refine AllReady.cons rfl (fun K hK => ?_) AllReady.nil
            go_simp
            refine hK _ _ ?_
            clear hK K
            refine wpAny_takeD (i := 4) (d := some 6) (v := ?v12_4_5) rfl rfl (by kernel_rfl) (by kernel_rfl) (by kernel_rfl) (fun _ _ _ h => h) (Or.inl ⟨by rfl, ?hy12_4_5⟩) ?_
            case hy12_4_5 => (intro w; go_simp; try with_reducible rfl)
            try simp only [Act.put, List.setIfInBounds_toArray, List.set_cons_zero, List.set_cons_succ]
            refine wpAny_done (by kernel_rfl) ?_ _
            go_wp2
            exact bodyPost_ret (res_nat3 rfl _ _ (w.heap.size + 2) (w.heap.size + 3) _ _ _ rfl rfl rfl c6 c7) rfl ⟨_, _, rfl, by rw [← hq0'.out]; exact p3, by rw [← hr0'.out]; exact p4, p5⟩
          refine AllReady.cons rfl (fun K hK => ?_) ?_
          · go_simp
            refine hK _ _ ?_
            clear hK K
            try simp only [Act.put, List.setIfInBounds_toArray, List.set_cons_zero, List.set_cons_succ]
            refine wpAny_ready (rs := [1]) (by kernel_rfl) (by simp) ?_
            refine AllReady.cons rfl (fun K hK => ?_) AllReady.nil
            go_simp
            refine hK _ _ ?_
            clear hK K
            try simp only [Act.put, List.setIfInBounds_toArray, List.set_cons_zero, List.set_cons_succ]
            refine wpAny_ready (rs := [3]) (by kernel_rfl) (by simp) ?_
            refine AllReady.cons rfl (fun K hK => ?_) AllReady.nil
            go_simp
            refine hK _ _ ?_
            clear hK K
            refine wpAny_takeD (i := 4) (d := some 6) (v := ?v12_4_8) rfl rfl (by kernel_rfl) (by kernel_rfl) (by kernel_rfl) (fun _ _ _ h => h) (Or.inl ⟨by rfl, ?hy12_4_8⟩) ?_
            case hy12_4_8 => (intro w; go_simp; try with_reducible rfl)
            try simp only [Act.put, List.setIfInBounds_toArray, List.set_cons_zero, List.set_cons_succ]
            refine wpAny_done (by kernel_rfl) ?_ _
            go_wp2
            exact bodyPost_ret (res_nat3 rfl _ _ (w.heap.size + 2) (w.heap.size + 3) _ _ _ rfl rfl rfl c6 c7) rfl ⟨_, _, rfl, by rw [← hq0'.out]; exact p3, by rw [← hr0'.out]; exact p4, p5⟩
          exact AllReady.nil
        | succ k =>
          have hk60 : k ≤ 60000000000000 := by omega
          have e : (((k + 1 : Nat) : Int) - 1) = (k : Int) := by omega
          simp only [e]
          clear e
          have hrd := dm_round (m := m) (n := n) (k := k) (Nat.pos_of_ne_zero HN0.out)
          have hrn := Nat.mod_lt (m / 2 ^ (k + 1)) (Nat.pos_of_ne_zero HN0.out)
          have hqm : m / 2 ^ (k + 1) / n ≤ m := Nat.le_trans (Nat.div_le_self _ _) (Nat.div_le_self _ _)
          have hqm2 : m / 2 ^ k / n ≤ m := Nat.le_trans (Nat.div_le_self _ _) (Nat.div_le_self _ _)
          have HRD := Lib.hid hrd
          clear hrd
          obtain ⟨q, hq⟩ : ∃ q : Nat, Hid (q = m / 2 ^ (k + 1) / n) := ⟨_, Lib.hid rfl⟩
          obtain ⟨r, hr⟩ : ∃ r : Nat, Hid (r = m / 2 ^ (k + 1) % n) := ⟨_, Lib.hid rfl⟩
          obtain ⟨b, hb⟩ : ∃ b : Nat, Hid (b = m / 2 ^ k % 2) := ⟨_, Lib.hid rfl⟩
          rw [← hq.out, ← hr.out] at hd
          rw [← hq.out] at hqm
          rw [← hr.out] at hrn
          have hrd := HRD.out
          rw [← hq.out, ← hr.out, ← hb.out] at hrd
          have HRD := Lib.hid hrd
          clear hrd
          have hb2 : b ≤ 1 := by have := hb.out; omega
          obtain ⟨S, hS⟩ : ∃ S : Nat, Hid (S = r + r) := ⟨_, Lib.hid rfl⟩
          obtain ⟨R1, hR1⟩ : ∃ R1 : Nat, Hid (R1 = S + b) := ⟨_, Lib.hid rfl⟩
          have hr' : nl r ≤ 1000000000000 := nl_le_of (Nat.le_of_lt hrn) hn
          have hq' : nl q ≤ 1000000000000 := nl_le_of hqm hm
          have hS' : nl S ≤ 1000000000000 := nl_twice (b := n) (by have := hS.out; omega) hn
          have hR1' : nl R1 ≤ 1000000000000 := nl_twice (b := n) (by have := hS.out; have := hR1.out; omega) hn
          have hb' : nl b ≤ 1000000000000 := nlb (by have : (2 : Nat) ≤ 4294967296 ^ 4 := by decide
                                                     omega)
          obtain ⟨x8, c8, k8, n8⟩ := hd.vr
          have f8 := k8.frozen
          go_upto_region 7 with (fail)
          refine wp_tabK Try.f95 7 (dmTab7 w m r k S b R1) (fun _ => false) 4 1 (by kernel_rfl) (by kernel_rfl) (by kernel_rfl) (by kernel_rfl) (EachX.of_all (fun _ h => by cases h) _) ?_ ?_
          · refine ⟨fun a' w' F => ⟨_, rfl, wanted_none rfl, (arm_load rfl (F.keep 8 (Value.pointer (some ⟨w.heap.size + 5, 0, none⟩)) (by kernel_rfl) rfl).is (hd.vr.isI.mono F.below)).b⟩, ?_⟩
            refine ⟨fun a' w' F => ⟨_, rfl, wanted_none rfl, (arm_load rfl (F.keep 8 (Value.pointer (some ⟨w.heap.size + 5, 0, none⟩)) (by kernel_rfl) rfl).is (hd.vr.isI.mono F.below)).b⟩, ?_⟩
            refine ⟨fun a' w' F => ⟨_, rfl, wanted_none rfl, (arm_rAdd rfl (F.f 0 rfl) (F.f 1 rfl) (hr') (hr') hS.out.symm).b⟩, ?_⟩
            refine ⟨fun a' w' F => ⟨_, rfl, wanted_none rfl, (arm_load rfl (F.keep 2 (Value.pointer (some ⟨w.heap.size, 0, none⟩)) (by kernel_rfl) rfl).is (hd.va.mono F.below)).b⟩, ?_⟩
            refine ⟨fun a' w' F => ⟨_, rfl, wanted_none rfl, (arm_move (.inl rfl) (F.keep 9 (Value.int IntKind.i64 ((k : Nat))) (by kernel_rfl) rfl).is).b⟩, ?_⟩
            refine ⟨fun a' w' F => ⟨_, rfl, wanted_none rfl, (arm_bit rfl (F.f 3 rfl) (F.f 4 rfl) (hm') hk60 hb.out.symm).b⟩, ?_⟩
            refine ⟨fun a' w' F => ⟨_, rfl, wanted_none rfl, (arm_rOf (n := b) rfl (F.f 5 rfl) (by omega)).b⟩, ?_⟩
            refine ⟨fun a' w' F => ⟨_, rfl, wanted_none rfl, (arm_rAddN (Nat.le_trans hd.below.size F.below.size) rfl (F.f 2 rfl) (F.f 6 rfl) (hS') (hb') hR1.out.symm).b⟩, ?_⟩
            exact trivial
          intro gp wp bp G Gs
          obtain ⟨v7, e7, n7⟩ : ∃ v, gp 7 = v ∧ NewN w.heap.size wp v R1 := ⟨_, rfl, G 7 32 _ rfl⟩
          obtain ⟨x7, c7, rfl, hc7, hx7⟩ := n7
          have n7 : NewN w.heap.size wp (.agg #[.slice x7 (nl R1) c7]) R1 := ⟨x7, c7, rfl, hc7, hx7⟩
          have hd1 := hd.mono bp
          have hd2 := hd1.setr n7
          have f8' := (k8.mono bp k8.lt).frozen
          have cc8 := (k8.mono bp k8.lt).cell
          clear G Gs hc7 hx7 f8
          simp only [dmTab7]
          simp only [putD, entries, List.map_cons, List.map_nil, List.foldl_cons, List.foldl_nil, Act.put, List.setIfInBounds_toArray, List.set_cons_zero, List.set_cons_succ, e7]
          refine wpAny_store (j := 8) (by kernel_rfl) rfl rfl rfl rfl rfl rfl ⟨_, _, _, rfl⟩ (k8.mono bp k8.lt) ?_
          refine wpAny_done (by kernel_rfl) ?_ _
          generalize wp.setCell ⟨w.heap.size + 5, 0, none⟩ (.slice x7 (nl R1) c7) = w7 at *
          clear hd hd1 bp n7 k8 n8 f8' cc8 e7
          obtain ⟨Q2, hQ2⟩ : ∃ N : Nat, Hid (N = q + q) := ⟨_, Lib.hid rfl⟩
          obtain ⟨yq, dq, kq, nq⟩ := hd2.vq
          have eq4 := kq.cell
          go_wp2_with fail
          refine (c_ref_Add _ _ q q _ nq.isN nq.isN hq' hq').mono ?_
          rintro e w8 ⟨v8, rfl, nn, bb⟩
          rw [← hQ2.out] at nn
          obtain ⟨x8, c8, rfl, hc8, hx8⟩ := nn
          have hd3 := hd2.mono bb
          have n8 : NewN w.heap.size w8 (.agg #[.slice x8 (nl Q2) c8]) Q2 := NewN.weaken (base := w7.heap.size) ⟨x8, c8, rfl, hc8, hx8⟩ hd2.below.size
          have hd4 := hd3.setq n8
          obtain ⟨yq3, dq3, kq3, _⟩ := hd3.vq
          have cq3 := kq3.cell
          have fq3 := kq3.frozen
          obtain ⟨yr, dr, kr, nr⟩ := hd4.vr
          have er := kr.cell
          obtain ⟨yb, db', kb, ib⟩ := hd4.vb
          have eb := kb.cell
          clear eq4 kq nq hx8 hc8
          go_wp2_with fail
          refine (c_ref_Cmp _ _ R1 n _ nr.isN ib hR1' hn').mono ?_
          rintro e w9 ⟨rfl, bb9⟩
          have hd5 := hd4.mono bb9
          clear er eb kr nr kb ib cq3 fq3 kq3 n8 hd2 hd3 bb
          by_cases hge : n ≤ R1
          · have hcm : ¬ cmpI R1 n < 0 := by
              rcases Nat.lt_or_ge n R1 with h | h
              · rw [cmpI_gt h]; decide
              · rw [cmpI_eq (by omega)]; decide
            have hge' : n ≤ r + r + b := by have := hR1.out; have := hS.out; omega
            obtain ⟨R2, hR2⟩ : ∃ N : Nat, Hid (N = R1 - n) := ⟨_, Lib.hid rfl⟩
            obtain ⟨T, hT⟩ : ∃ N : Nat, Hid (N = Q2 + 1) := ⟨_, Lib.hid rfl⟩
            have e1 : m / 2 ^ k / n = T := by rw [(HRD.out.1 hge').1, hT.out, hQ2.out]
            have e2 : m / 2 ^ k % n = R2 := by rw [(HRD.out.1 hge').2, hR2.out, hR1.out, hS.out]
            have E1 := Lib.hid e1
            have E2 := Lib.hid e2
            have hT0' : nl Q2 ≤ 1000000000000 := by
              refine nl_le_of (b := m) ?_ hm
              have := hT.out
              rw [e1] at hqm2
              omega
            clear e1 e2
            obtain ⟨yr, dr, kr, nr⟩ := hd5.vr
            have er := kr.cell
            obtain ⟨yb, db', kb, ib⟩ := hd5.vb
            have eb := kb.cell
            go_wp2_with fail
            refine (c_ref_Sub _ _ R1 n _ nr.isN ib hR1' hn').mono ?_
            rintro e w10 ⟨v10, rfl, nn, bb10⟩
            rw [← hR2.out] at nn
            obtain ⟨x10, c10, rfl, hc10, hx10⟩ := nn
            have hd6 := hd5.mono bb10
            have n10 : NewN w.heap.size w10 (.agg #[.slice x10 (nl R2) c10]) R2 := NewN.weaken (base := w9.heap.size) ⟨x10, c10, rfl, hc10, hx10⟩ hd5.below.size
            have hd := hd6.setr n10
            obtain ⟨yr3, dr3, kr3, _⟩ := hd6.vr
            have cr3 := kr3.cell
            have fr3 := kr3.frozen
            clear er eb kr nr kb ib hx10 hc10
            go_upto_region 11 with (fail)
            refine wp_tabK Try.f95 11 (dmTab11 w Q2 T) (fun _ => false) 4 1 (by kernel_rfl) (by kernel_rfl) (by kernel_rfl) (by kernel_rfl) (EachX.of_all (fun _ h => by cases h) _) ?_ ?_
            · refine ⟨fun a' w' F => ⟨_, rfl, wanted_none rfl, (arm_load rfl (F.keep 7 (Value.pointer (some ⟨w.heap.size + 4, 0, none⟩)) (by kernel_rfl) rfl).is (hd.vq.isI.mono F.below)).b⟩, ?_⟩
              refine ⟨fun a' w' F => ⟨_, rfl, wanted_none rfl, (arm_rOf (n := 1) rfl Is.const (by decide)).b⟩, ?_⟩
              refine ⟨fun a' w' F => ⟨_, rfl, wanted_none rfl, (arm_rAddN (Nat.le_trans hd.below.size F.below.size) rfl (F.f 0 rfl) (F.f 1 rfl) (hT0') (nlb (by decide)) hT.out.symm).b⟩, ?_⟩
              exact trivial
            intro gy wy by_ G Gs
            generalize w10.setCell ⟨w.heap.size + 5, 0, none⟩ (.slice x10 (nl R2) c10) = w11 at *
            obtain ⟨v2, e2, n2⟩ : ∃ v, gy 2 = v ∧ NewN w.heap.size wy v T := ⟨_, rfl, G 2 48 _ rfl⟩
            obtain ⟨x2, c2, rfl, hc2, hx2⟩ := n2
            have n2 : NewN w.heap.size wy (.agg #[.slice x2 (nl T) c2]) T := ⟨x2, c2, rfl, hc2, hx2⟩
            have hd7 := hd.mono by_
            have hd8 := hd7.setq n2
            obtain ⟨yq7, dq7, kq7, _⟩ := hd7.vq
            clear G Gs hc2 hx2
            simp only [dmTab11]
            simp only [putD, entries, List.map_cons, List.map_nil, List.foldl_cons, List.foldl_nil, Act.put, List.setIfInBounds_toArray, List.set_cons_zero, List.set_cons_succ, e2]
            refine wpAny_store (j := 3) (by kernel_rfl) rfl rfl rfl rfl rfl rfl ⟨_, _, _, rfl⟩ kq7 ?_
            refine wpAny_done (by kernel_rfl) ?_ _
            go_wp2_with fail
            go_roundw
            case rel => exact ⟨k, by omega, by go_num, by rw [E1.out, E2.out]; exact hd8⟩
            case measure => simp [intOf] <;> omega
          · have hlt' : r + r + b < n := by have := hR1.out; have := hS.out; omega
            have e1 : m / 2 ^ k / n = Q2 := by rw [(HRD.out.2 hlt').1, hQ2.out]
            have e2 : m / 2 ^ k % n = R1 := by rw [(HRD.out.2 hlt').2, hR1.out, hS.out]
            have E1 := Lib.hid e1
            have E2 := Lib.hid e2
            clear e1 e2
            rw [cmpI_lt (by omega)]
            go_wp2_with fail
            go_roundw
            case rel => exact ⟨k, by omega, by go_num, by rw [E1.out, E2.out]; exact hd5⟩
            case measure => simp [intOf] <;> omega
end Go.Proofs.Ythefidbgjgfeiaa
namespace Go.Proofs.Ythefidbgjgfeiaa
set_option linter.unusedSimpArgs false
set_option linter.unusedVariables false
set_option maxRecDepth 100000
open Go.RowKit
structure GT (w wx : World) (x y : Nat) : Prop where
  below : Below w.heap.size w wx
  res : VarB wx (w.heap.size + 2) none 0 0
  v1 : VarI wx w.heap.size x
  v2 : VarI wx (w.heap.size + 1) y
theorem GT.mono {w wx w' : World} {x y : Nat} (h : GT w wx x y) (hb : Below wx.heap.size wx w') : GT w w' x y :=
  ⟨h.below.trans (hb.mono h.below.size), h.res.mono hb h.res.lt, h.v1.mono hb, h.v2.mono hb⟩
theorem gt_set {w w1 : World} {x0 y0 M N cx cy : Nat} {x y : Option Addr} (h : GT w w1 x0 y0) (hx : IsN w1 (.agg #[.slice x (nl M) cx]) M) (hy : IsN w1 (.agg #[.slice y (nl N) cy]) N) :
    GT w ((w1.setCell ⟨w.heap.size, 0, none⟩ (.slice x (nl M) cx)).setCell ⟨w.heap.size + 1, 0, none⟩ (.slice y (nl N) cy)) M N := by
  obtain ⟨a1, c1, b1, n1⟩ := h.v1
  obtain ⟨a2, c2, b2, n2⟩ := h.v2
  have b2' := b2.setOther ⟨w.heap.size, 0, none⟩ (.slice x (nl M) cx) (by simp)
  exact ⟨(h.below.setCell (p := ⟨w.heap.size, 0, none⟩) (Nat.le_refl _) _).setCell (p := ⟨w.heap.size + 1, 0, none⟩) (Nat.le_succ _) _, (h.res.setOther _ _ (by simp)).setOther _ _ (by simp),
    ⟨x, cx, b1.set.setOther _ _ (by simp), (hx.setVar b1).setVar b2'⟩, ⟨y, cy, b2'.set, (hy.setVar b1).setVar b2'⟩⟩
noncomputable def valI (w : World) (g : Nat) : Nat := Classical.epsilon (fun N => VarI w g N)
theorem VarI.val {w : World} {g N : Nat} (h : VarI w g N) : valI w g = N := by
  obtain ⟨a', c', hb', hn'⟩ := Classical.epsilon_spec (p := fun N => VarI w g N) ⟨N, h⟩
  obtain ⟨a, c, hb, hn⟩ := h
  have e := hb'.symm.trans hb
  simp only [Option.some.injEq, Obj.cells.injEq, Array.mk.injEq, List.cons.injEq, Value.slice.injEq, and_true] at e
  rw [e.1, e.2.1, e.2.2] at hn'
  exact hn'.unique hn
set_option maxRecDepth 100000 in
set_option maxHeartbeats 4000000 in
theorem c_ref_Gcd (va vb : Value) (m n : Nat) (w : World) (ha : IsN w va m) (hb : IsN w vb n) (hm : nl m ≤ 100000000000) (hn : nl n ≤ 100000000000) :
    Calls Try.prog 86 #[va, vb] w fun e w' => RetN w (Nat.gcd m n) e w' := by
  obtain ⟨a, ca, rfl, hca, ra⟩ := ha
  obtain ⟨b, cb, rfl, hcb, rb⟩ := hb
  go_enter Try.func86, Try.ntmps86
  go_upto_region 0 with (fail)
  go_cut [2, 3, 4] (fun s2 s3 s4 wx => s2 = .pointer (some ⟨w.heap.size, 0, none⟩) ∧ s3 = .pointer (some ⟨w.heap.size + 1, 0, none⟩) ∧ s4 = .pointer (some ⟨w.heap.size + 2, 0, none⟩) ∧ GT w wx m n)
  case first =>
    obtain ⟨k0, k1, k2⟩ := box2 (L := nl m) (c := ca) (N := m) (L2 := nl n) (c2 := cb) (N2 := n) ⟨a, ca, rfl, hca, ra⟩ ⟨b, cb, rfl, hcb, rb⟩
    have k3 := bel1 ((w.alloc (.cells #[.slice a (nl m) ca] 28)).alloc (.cells #[.slice b (nl n) cb] 28)) (.cells #[.slice none 0 0] 28)
    have k4 := VarB.made ((w.alloc (.cells #[.slice a (nl m) ca] 28)).alloc (.cells #[.slice b (nl n) cb] 28)) none 0 0
    rw [World.size_alloc, World.size_alloc] at k4
    have hT : GT w _ m n := ⟨k0.trans (k3.mono k0.size), k4, VarR.mono k1 k3, VarR.mono k2 k3⟩
    go_wp2_with fail
    go_meet
    case rel => exact ⟨rfl, rfl, rfl, hT⟩
  case rest =>
    obtain ⟨rfl, rfl, rfl, hT⟩ := hcut
    clear ra rb hca hcb
    go_wp2_with fail
    go_loopw [] (fun wr => ∃ x y : Nat, Hid (Nat.gcd x y = Nat.gcd m n) ∧ nl x ≤ 100000000000 ∧ nl y ≤ 100000000000 ∧ GT w wr x y) (fun wr => valI wr (w.heap.size + 1))
    case atStart => exact ⟨m, n, Lib.hid rfl, hm, hn, hT⟩
    case round =>
      clear hT
      obtain ⟨x, y, HXY, hx, hy, hs⟩ := hrel
      obtain ⟨ax, cx, vx, nx⟩ := hs.v1
      obtain ⟨ay, cy, vy, ny⟩ := hs.v2
      have c5 := vx.cell
      have c6 := vy.cell
      have cr := hs.res.cell
      have fr := hs.res.frozen
      by_cases hy0 : y = 0
      · subst hy0
        rw [nl_zero] at c6
        have hx0 : x = Nat.gcd m n := by have := HXY.out; rwa [Nat.gcd_zero_right] at this
        have HX0 := Lib.hid hx0
        clear hx0
        have hfin := nx.setVar (u := .slice ax (nl x) cx) hs.res
        have hcell := (hs.res.set (a' := ax) (L' := nl x) (c' := cx)).cell
        have hbel := hs.below.setCell (p := ⟨w.heap.size + 2, 0, none⟩) (Nat.le_add_right _ _) (.slice ax (nl x) cx)
        go_wp2
        exact bodyPost_ret (res_nat rfl _ _ (w.heap.size + 2) _ rfl hcell) rfl ⟨_, rfl, by rw [← HX0.out]; exact hfin, hbel⟩
      · have hny := nl_pos hy0
        have HY0 := Lib.hid hy0
        clear hy0
        go_wp2_with fail
        refine (c_ref_DivMod _ _ x y _ nx ny hx hy HY0.out).mono ?_
        rintro e w1 ⟨vq, vr, rfl, nq, nr, hb1⟩
        obtain ⟨R0, hR0⟩ : ∃ N : Nat, Hid (N = x % y) := ⟨_, Lib.hid rfl⟩
        obtain ⟨Q0, hQ0⟩ : ∃ N : Nat, Hid (N = x / y) := ⟨_, Lib.hid rfl⟩
        rw [← hR0.out] at nr
        rw [← hQ0.out] at nq
        obtain ⟨aq, cq, rfl, hcq, hxq⟩ := nq
        obtain ⟨ar, cr', rfl, hcr, hxr⟩ := nr
        obtain ⟨k0, k1, k2⟩ := start2 w1 aq ar (nl Q0) cq (nl R0) cr'
        have nr : IsN w1 (.agg #[.slice ar (nl R0) cr']) R0 := NewN.isN ⟨ar, cr', rfl, hcr, hxr⟩
        have hb2 := hb1.trans (k0.mono hb1.size)
        go_upto_region 3 with (fail)
        have k3 := bel_drewN (Below.refl ((w1.alloc (.cells #[.slice aq (nl Q0) cq] 28)).alloc (.cells #[.slice ar (nl R0) cr'] 28)).heap.size ((w1.alloc (.cells #[.slice aq (nl Q0) cq] 28)).alloc (.cells #[.slice ar (nl R0) cr'] 28))) 1
        refine wp_region_any (by kernel_rfl) ?_
        change wpAny _ _ _ _ _ _ _ (World.drew _)
        have hs3 := hs.mono (hb2.trans (k3.mono hb2.size))
        have nr3 := nr.mono (k0.trans (k3.mono k0.size))
        have ny3 := ny.mono (hb2.trans (k3.mono hb2.size))
        have v8 : VarB (World.drewN _ 1) (w1.heap.size + 1) ar (nl R0) cr' := k2.mono k3 k2.lt
        have vy3 := vy.mono (hb2.trans (k3.mono hb2.size)) vy.lt
        have vx3 := vx.mono (hb2.trans (k3.mono hb2.size)) vx.lt
        have hl8 : w1.heap.size + 1 ≠ w.heap.size := by have := vx.lt; have := hb1.size; omega
        have hmod := Nat.mod_lt x (Nat.pos_of_ne_zero HY0.out)
        rw [← hR0.out] at hmod
        have hgc : Nat.gcd y R0 = Nat.gcd m n := by rw [hR0.out, ← HXY.out, Nat.gcd_comm x y, Nat.gcd_rec y x, Nat.gcd_comm]
        have HGC := Lib.hid hgc
        have hnr : nl R0 ≤ 100000000000 := Nat.le_trans (nl_mono (Nat.le_of_lt hmod)) hy
        clear hgc c5 c6 cr fr k0 k1 k2 k3 hb2 hxq hxr
        change GT w (World.drew _) x y at hs3
        change IsN (World.drew _) _ _ at nr3
        change IsN (World.drew _) _ _ at ny3
        change VarB (World.drew _) _ _ _ _ at v8
        change VarB (World.drew _) _ _ _ _ at vy3
        change VarB (World.drew _) _ _ _ _ at vx3
        generalize World.drew _ = w3 at *
        have hT' := gt_set hs3 ny3 nr3
        have v8' := v8.setOther ⟨w.heap.size, 0, none⟩ (.slice ay (nl y) cy) (fun e => hl8 e.symm)
        have vy3' := vy3.setOther ⟨w.heap.size, 0, none⟩ (.slice ay (nl y) cy) (by simp)
        have hsv := hs.v2.val
        have htv := hT'.v2.val
        have c6 := vy3.cell
        have c8 := v8.cell
        have f5 := vx3.frozen
        have c5 := vx3.cell
        have c6' := vy3'.cell
        have f6' := vy3'.frozen
        have c8' := v8'.cell
        refine wpAny_take_loadD (i := 0) (t := 2) (d := some 19) (v := ?v3_0_1) rfl rfl (by decide) rfl rfl (by kernel_rfl) (by kernel_rfl) (fun _ _ _ h => h) ⟨by rfl, ?hy3_0_1⟩ ?_
        case hy3_0_1 => (go_simp; try with_reducible rfl)
        try simp only [Act.put, List.setIfInBounds_toArray, List.set_cons_zero, List.set_cons_succ]
        refine wpAny_ready (rs := [1, 2]) (by kernel_rfl) (by simp) ?_
        refine AllReady.cons rfl (fun K hK => ?_) ?_
        · go_simp
          refine hK _ _ ?_
          clear hK K
          try simp only [Act.put, List.setIfInBounds_toArray, List.set_cons_zero, List.set_cons_succ]
          refine wpAny_ready (rs := [2]) (by kernel_rfl) (by simp) ?_
          refine AllReady.cons rfl (fun K hK => ?_) AllReady.nil
          go_simp
          refine hK _ _ ?_
          clear hK K
          try simp only [Act.put, List.setIfInBounds_toArray, List.set_cons_zero, List.set_cons_succ]
          refine wpAny_ready (rs := [3]) (by kernel_rfl) (by simp) ?_
          refine AllReady.cons rfl (fun K hK => ?_) AllReady.nil
          go_simp
          refine hK _ _ ?_
          clear hK K
          try simp only [Act.put, List.setIfInBounds_toArray, List.set_cons_zero, List.set_cons_succ]
          refine wpAny_done (by kernel_rfl) ?_ _
          go_wp2_with fail
          go_roundw
          case rel => exact ⟨y, R0, HGC, hy, hnr, hT'⟩
          case measure => rw [hsv, htv]; exact hmod
        refine AllReady.cons rfl (fun K hK => ?_) ?_
        · go_simp
          refine hK _ _ ?_
          clear hK K
          try simp only [Act.put, List.setIfInBounds_toArray, List.set_cons_zero, List.set_cons_succ]
          refine wpAny_ready (rs := [1]) (by kernel_rfl) (by simp) ?_
          refine AllReady.cons rfl (fun K hK => ?_) AllReady.nil
          go_simp
          refine hK _ _ ?_
          clear hK K
          try simp only [Act.put, List.setIfInBounds_toArray, List.set_cons_zero, List.set_cons_succ]
          refine wpAny_ready (rs := [3]) (by kernel_rfl) (by simp) ?_
          refine AllReady.cons rfl (fun K hK => ?_) AllReady.nil
          go_simp
          refine hK _ _ ?_
          clear hK K
          try simp only [Act.put, List.setIfInBounds_toArray, List.set_cons_zero, List.set_cons_succ]
          refine wpAny_done (by kernel_rfl) ?_ _
          go_wp2_with fail
          go_roundw
          case rel => exact ⟨y, R0, HGC, hy, hnr, hT'⟩
          case measure => rw [hsv, htv]; exact hmod
        exact AllReady.nil
end Go.Proofs.Ythefidbgjgfeiaa
namespace Go.Proofs.Ythefidbgjgfeiaa
set_option linter.unusedSimpArgs false
set_option linter.unusedVariables false
set_option maxRecDepth 100000
open Go.RowKit
section
variable {Q : Exit → Act → World → Prop} {o : Oper} {a : Act} {w : World} {x y : Operand} {m n : Nat} {tt : Array TypeId}
theorem ofN {w w' : World} {N : Nat} {e : Ending} (h : RetN w N e w') : ∃ v, e = .returned v ∧ (Sp.nat N).p w' v ∧ Below w.heap.size w w' := h
theorem arm_not {t : TypeId} {b : Bool} (ho : o.op = .unOp .not t x) (hx : Is a w x (.val (.bool b))) : Arm Try.prog Q o a w (.val (.bool (!b))) := by
  have hx' : a.eval x = .bool b := hx
  refine arm_run (.bool (!b)) ?_ rfl
  unfold execOp
  rw [ho]
  simp only [hx']
  cases b <;> rfl
end
theorem IsN.shape {w : World} {v : Value} {N : Nat} (h : IsN w v N) : ∃ x c, v = .agg #[.slice x (nl N) c] := by
  obtain ⟨x, c, rfl, _⟩ := h; exact ⟨x, c, rfl⟩
/-- A new variable is written: it holds N, the others what they held. -/
theorem VarI.put {w : World} {g N c : Nat} {x : Option Addr} (hv : VarB w g none 0 0) (hn : IsN w (.agg #[.slice x (nl N) c]) N) : VarI (w.setCell ⟨g, 0, none⟩ (.slice x (nl N) c)) g N :=
  ⟨x, c, hv.set, hn.setVar hv⟩
end Go.Proofs.Ythefidbgjgfeiaa
namespace Go.Proofs.Ythefidbgjgfeiaa
set_option linter.unusedSimpArgs false
set_option linter.unusedVariables false
set_option maxRecDepth 100000
open Go.RowKit
theorem VarI.set {w : World} {g L c c' N : Nat} {a a' : Option Addr} (h : VarB w g a L c) (hn : IsN w (.agg #[.slice a' (nl N) c']) N) : VarI (w.setCell ⟨g, 0, none⟩ (.slice a' (nl N) c')) g N := ⟨a', c', h.set, hn.setVar h⟩
end Go.Proofs.Ythefidbgjgfeiaa
namespace Go.Proofs.Ythefidbgjgfeiaa
set_option linter.unusedSimpArgs false
set_option linter.unusedVariables false
set_option maxRecDepth 100000
open Go.RowKit
section
variable {P : Program} {ops : Array Oper} {Q : Exit → Act → World → Prop} {md : Region.Mode}
theorem arr_ext {a b : Array Bool} (hs : a.size = b.size) (h : ∀ k, a.getD k false = b.getD k false) : a = b := by
  apply Array.ext hs
  intro k h1 h2
  have := h k
  simpa [h1, h2] using this
def subs : List Nat → List (List Nat)
  | [] => [[]]
  | x :: l => subs l ++ (subs l).map (x :: ·)
theorem filter_subs (p : Nat → Bool) : ∀ l : List Nat, l.filter p ∈ subs l
  | [] => by simp [subs]
  | x :: l => by
    have ih := filter_subs p l
    rw [List.filter_cons]
    split
    · exact List.mem_append_right _ (List.mem_map.2 ⟨_, ih, rfl⟩)
    · exact List.mem_append_left _ ih
/-- What is checked of the plan by reckoning; E: operations of the plan that may still be open when others become ready. -/
def phaseOkE (md : Region.Mode) (ops : Array Oper) (n : Nat) (S E : List Nat) (l : Array Bool) : Bool :=
  l.size == ops.size && S.all (fun i => decide (i < ops.size) && !l.getD i true && (dstOf ops i).isSome) &&
  (List.range ops.size).all (fun j => !l.getD j false || (preds md ops j).all (fun k => l.getD k false)) &&
  (List.range ops.size).all (fun j => S.contains j || l.getD j false || S.all (fun i => E.contains i || (needs md ops n j).contains i)) &&
  S.all (fun j => (preds md ops j).all (fun k => decide (k < j) && (S.contains k || l.getD k false))) && E.all (fun i => S.contains i) && decide E.Nodup
theorem wpAny_phaseE (S E : List Nat) (n : Nat) (Al : Nat → Bool) (F : Nat → Value → World → Prop) {l : Array Bool} {a : Act} {w : World} {fuel : Nat}
    (hok : phaseOkE md ops n S E l = true) (hnd : (S.map (dstOf ops)).Nodup)
    (hst : ∀ i ∈ S, ∀ v w w', F i v w → Below w.heap.size w w' → F i v w')
    (hlt : ∀ i ∈ S, Al i = true → ∀ v w, F i v w → blk v < w.heap.size)
    (hstep : ∀ j ∈ S, ∀ (f : Nat → Value) (w' : World), Below w.heap.size w w' → (∀ i ∈ S, i ∈ preds md ops j → F i (f i) w') → ∀ K : Act → World → Prop,
      (∀ v w'', F j v w'' → Below w'.heap.size w' w'' → (Al j = true → w'.heap.size ≤ blk v) → K (putAll ops S (updF f j v) a) w'') → wpOp P ops Q j K (putAll ops S f a) w')
    (hrest : ∀ E' ∈ subs E, ∀ f w', Below w.heap.size w w' → (∀ i ∈ S, i ∉ E' → F i (f i) w') → (∀ i ∈ S, i ∉ E' → ∀ j ∈ S, j ∉ E' → Al i = true → Al j = true → i ≠ j → blk (f i) ≠ blk (f j)) →
      wpAny P md ops Q (fuel + E'.length) (markAll (S.filter (fun i => !E'.contains i)) l) (putAll ops S f a) w') :
    wpAny P md ops Q (fuel + S.length) l a w := by
  unfold phaseOkE at hok
  simp only [Bool.and_eq_true, List.all_eq_true, Bool.or_eq_true, Bool.not_eq_true', decide_eq_true_eq, List.mem_range, beq_iff_eq, List.contains_iff_mem] at hok
  obtain ⟨⟨⟨⟨⟨⟨hsz, hS⟩, hcl⟩, hoth⟩, hdown⟩, hES⟩, hEn⟩ := hok
  have hnd' : S.Nodup := by
    rw [List.nodup_iff_pairwise_ne] at hnd ⊢
    rw [List.pairwise_map] at hnd
    exact hnd.imp (fun h e => h (by rw [e]))
  have main : ∀ (r : Nat) (T : List Nat) (f : Nat → Value) (w' : World), T.Nodup → (∀ i ∈ T, i ∈ S) → T.length + r = S.length →
      (∀ j, (markAll T l).getD j false = true → ∀ k ∈ preds md ops j, (markAll T l).getD k false = true) →
      Below w.heap.size w w' → (∀ i ∈ T, F i (f i) w') → (∀ i ∈ T, ∀ j ∈ T, Al i = true → Al j = true → i ≠ j → blk (f i) ≠ blk (f j)) →
      wpAny P md ops Q (fuel + r) (markAll T l) (putAll ops S f a) w' := by
    have stop : ∀ (r : Nat) (T : List Nat) (f : Nat → Value) (w' : World), T.Nodup → (∀ i ∈ T, i ∈ S) → T.length + r = S.length → Below w.heap.size w w' → (∀ i ∈ T, F i (f i) w') → (∀ i ∈ T, ∀ j ∈ T, Al i = true → Al j = true → i ≠ j → blk (f i) ≠ blk (f j)) →
        (∀ i ∈ S, i ∉ E → i ∈ T) → wpAny P md ops Q (fuel + r) (markAll T l) (putAll ops S f a) w' := by
      intro r T f w' hTn hT hlen hb hF hsep hmain
      have hE' := filter_subs (fun i => !decide (i ∈ T)) E
      have hiff : ∀ i ∈ S, (i ∉ E.filter (fun i => !decide (i ∈ T)) ↔ i ∈ T) := fun i hi => by
        simp only [List.mem_filter, Bool.not_eq_true', decide_eq_false_iff_not, not_and, Classical.not_not]
        exact ⟨fun h => Classical.byContradiction fun hn => by
          by_cases hiE : i ∈ E
          · exact hn (h hiE)
          · exact hn (hmain i hi hiE), fun h _ => h⟩
      have h := hrest _ hE' f w' hb (fun i hi hn => hF i ((hiff i hi).1 hn)) (fun i hi hni j hj hnj => hsep i ((hiff i hi).1 hni) j ((hiff j hj).1 hnj))
      have hmk : markAll (S.filter (fun i => !(E.filter (fun i => !decide (i ∈ T))).contains i)) l = markAll T l := by
        have hm : ∀ k, k ∈ S.filter (fun i => !(E.filter (fun i => !decide (i ∈ T))).contains i) ↔ k ∈ T := fun k => by
          rw [List.mem_filter]
          constructor
          · rintro ⟨hk, hc⟩
            refine (hiff k hk).1 (fun hc' => ?_)
            rw [List.contains_iff_mem.2 hc'] at hc; cases hc
          · intro hk
            refine ⟨hT k hk, ?_⟩
            have := (hiff k (hT k hk)).2 hk
            cases hc : (E.filter (fun i => !decide (i ∈ T))).contains k
            · rfl
            · exact absurd (List.contains_iff_mem.1 hc) this
        refine arr_ext (by rw [markAll_size, markAll_size]) (fun k => ?_)
        have g1 := markAll_get (S.filter (fun i => !(E.filter (fun i => !decide (i ∈ T))).contains i)) l k false
        have g2 := markAll_get T l k false
        simp only [hm] at g1
        rw [← g2] at g1
        exact g1
      have hln : (E.filter (fun i => !decide (i ∈ T))).length = r := by
        have h1 : S.length ≤ (T ++ E.filter (fun i => !decide (i ∈ T))).length := len_le hnd' (fun i hi => by
          rw [List.mem_append]
          by_cases hiT : i ∈ T
          · exact .inl hiT
          · refine .inr (Classical.byContradiction fun hn => hiT ((hiff i hi).1 hn)))
        have h2 : (T ++ E.filter (fun i => !decide (i ∈ T))).length ≤ S.length := len_le (List.nodup_append.2 ⟨hTn, hEn.filter _, fun x hx y hy => by
          rintro rfl
          simp at hy
          exact hy.2 hx⟩) (fun i hi => by
          rcases List.mem_append.1 hi with h | h
          · exact hT i h
          · exact hES i (List.mem_filter.1 h).1)
        rw [List.length_append] at h1 h2
        omega
      rw [hmk, hln] at h
      exact h
    intro r
    induction r with
    | zero =>
      intro T f w' hTn hT hlen hclT hb hF hsep
      refine stop 0 T f w' hTn hT hlen hb hF hsep (fun i hi _ => ?_)
      apply Classical.byContradiction
      intro hni
      have h1 : (i :: T).length ≤ S.length := len_le (List.nodup_cons.2 ⟨hni, hTn⟩) (fun k hk => by rcases List.mem_cons.1 hk with rfl | hk; exact hi; exact hT k hk)
      simp at h1; omega
    | succ r ih =>
      intro T f w' hTn hT hlen hclT hb hF hsep
      by_cases hmain : ∀ i ∈ S, i ∉ E → i ∈ T
      · exact stop (r + 1) T f w' hTn hT hlen hb hF hsep hmain
      have hex : ∃ i ∈ S, i ∉ T ∧ i ∉ E := by
        apply Classical.byContradiction
        intro hno
        exact hmain (fun i hi hiE => Classical.byContradiction fun h => hno ⟨i, hi, h, hiE⟩)
      have hready : ∀ j ∈ Region.ready md ops (markAll T l), j ∈ S ∧ j ∉ T ∧ ∀ k ∈ preds md ops j, (markAll T l).getD k false = true := by
        intro j hj
        obtain ⟨hjs, hj0, hjp⟩ := ready_preds hj
        have hjT : j ∉ T := by
          intro h
          rw [markAll_get] at hj0
          simp [h, hsz, hjs] at hj0
        refine ⟨?_, hjT, hjp⟩
        rcases hoth j hjs with (h | h) | h
        · exact h
        · rw [markAll_get] at hj0
          have : j < l.size := by omega
          simp [hjT, this] at hj0 h
          rw [hj0] at h; cases h
        · obtain ⟨i, hi, hiT, hiE⟩ := hex
          have h1 := needs_listed hclT n j hjp i ((h i hi).resolve_left (fun hc => hiE hc))
          rw [markAll_get] at h1
          have h2 := (hS i hi).1.2
          have : i < l.size := by have := (hS i hi).1.1; omega
          simp [hiT, this] at h1 h2
          rw [h1] at h2; cases h2
      have un : ∀ i ∈ S, i ∉ T → (markAll T l).getD i true = false := fun i hi hiT => by
        rw [markAll_get]
        have := (hS i hi).1.2
        simp [hiT]
        simpa using this
      have hsome : ∃ i ∈ Region.ready md ops (markAll T l), True := by
        have key : ∀ (m i : Nat), i ≤ m → i ∈ S → i ∉ T → ∃ i ∈ Region.ready md ops (markAll T l), True := by
          intro m
          induction m with
          | zero =>
            intro i him hi hiT
            refine ⟨i, mk_ready (hS i hi).1.1 (un i hi hiT) (fun k hk => ?_), trivial⟩
            have := (hdown i hi k hk).1
            omega
          | succ m ihm =>
            intro i him hi hiT
            by_cases hall : ∀ k ∈ preds md ops i, (markAll T l).getD k false = true
            · exact ⟨i, mk_ready (hS i hi).1.1 (un i hi hiT) hall, trivial⟩
            · simp only [Classical.not_forall] at hall
              obtain ⟨k, hk, hno⟩ := hall
              obtain ⟨hlt', hor⟩ := hdown i hi k hk
              have hkT : k ∉ T := fun h => hno (by rw [markAll_get]; simp [h, hsz]; have := (hS k (hT k h)).1.1; omega)
              rcases hor with h | h
              · exact ihm k (by omega) h hkT
              · exact absurd (by rw [markAll_get]; simp [hkT]; simpa using h) hno
        obtain ⟨i, hi, hiT, _⟩ := hex
        exact key i i (Nat.le_refl _) hi hiT
      refine ⟨fun h => ?_, fun j hj => ?_⟩
      · obtain ⟨i, hi, _⟩ := hsome
        rw [h] at hi; cases hi
      · obtain ⟨hjS, hjT, hjp⟩ := hready j hj
        refine hstep j hjS f w' hb (fun i hi hp => ?_) _ (fun v w'' hFv hbv hnew => ?_)
        · refine hF i (Classical.byContradiction fun hiT => ?_)
          have h1 := hjp i hp
          rw [markAll_get] at h1
          have h2 := (hS i hi).1.2
          have : i < l.size := by have := (hS i hi).1.1; omega
          simp [hiT, this] at h1 h2
          rw [h1] at h2; cases h2
        · have e : (markAll T l).setIfInBounds j true = markAll (T ++ [j]) l := by unfold markAll; rw [List.foldl_append]; rfl
          rw [e]
          refine ih (T ++ [j]) (updF f j v) w'' ?_ ?_ ?_ ?_ (hb.trans (hbv.mono hb.size)) ?_ ?_
          · exact List.nodup_append.2 ⟨hTn, by simp, by intro x hx y hy; simp at hy; subst hy; exact fun h => hjT (h ▸ hx)⟩
          · intro i hi
            rcases List.mem_append.1 hi with h | h
            · exact hT i h
            · simp at h; rw [h]; exact hjS
          · simp; omega
          · intro i hi k hk
            rw [← e] at hi ⊢
            by_cases hij : j = i
            · subst hij
              exact getD_set_true (hjp k hk)
            · rw [getD_set_ne false hij] at hi
              exact getD_set_true (hclT i hi k hk)
          · intro i hi
            by_cases hij : i = j
            · subst hij; simpa [updF] using hFv
            · have hiT : i ∈ T := by
                rcases List.mem_append.1 hi with h | h
                · exact h
                · simp at h; exact absurd h hij
              simp only [updF, hij, if_false]
              exact hst i (hT i hiT) _ _ _ (hF i hiT) hbv
          · intro i hi k hk hai hak hik
            have low : ∀ x ∈ T, Al x = true → blk (f x) < w'.heap.size := fun x hx hax => hlt x (hT x hx) hax _ _ (hF x hx)
            have inT : ∀ x ∈ T ++ [j], x ≠ j → x ∈ T := fun x hx hxj => by
              rcases List.mem_append.1 hx with h | h
              · exact h
              · simp at h; exact absurd h hxj
            by_cases hij : i = j
            · have hkj : k ≠ j := fun h => hik (by rw [hij, h])
              have h1 := low k (inT k hk hkj) hak
              subst hij
              simp only [updF, if_true, hkj, if_false]
              have := hnew hai
              omega
            · have h1 := low i (inT i hi hij) hai
              by_cases hkj : k = j
              · subst hkj
                simp only [updF, if_true, hij, if_false]
                have := hnew hak
                omega
              · simp only [updF, hij, hkj, if_false]
                exact hsep i (inT i hi hij) k (inT k hk hkj) hai hak hik
  have h0 := main S.length [] (fun i => a.tmps.getD ((dstOf ops i).getD 0) undef) w (by simp) (by simp) (by simp) (fun j hj k hk => by
      have hjs : j < ops.size := by
        rcases Nat.lt_or_ge j ops.size with h | h
        · exact h
        · have hj' : l.getD j false = true := hj
          simp [Array.getElem?_eq_none (show l.size ≤ j by omega)] at hj'
      rcases hcl j hjs with h | h
      · have hj' : l.getD j false = true := hj
        rw [h] at hj'; cases hj'
      · exact h k hk) (Below.refl _ _) (by simp) (by simp)
  rw [putAll_self] at h0
  exact h0
end
end Go.Proofs.Ythefidbgjgfeiaa
namespace Go.Proofs.Ythefidbgjgfeiaa
set_option linter.unusedSimpArgs false
set_option linter.unusedVariables false
set_option maxRecDepth 100000
open Go.RowKit
section
variable {P : Program} {Q : Exit → Act → World → Prop} {md : Region.Mode}
/-- An operation of a table: it runs, or it is skipped. -/
def StepG (P : Program) (Q : Exit → Act → World → Prop) (ops : Array Oper) (al : Bool) (j : Nat) (a' : Act) (w' : World) (s : Sp) : Prop :=
  ∃ o, ops[j]? = some o ∧ ((Region.wanted o (yielded ops a'.tmps) = true ∧ ArmB P Q al o a' w' s) ∨ (Region.wanted o (yielded ops a'.tmps) = false ∧ al = false ∧ s.p w' undef))
theorem StepG.run {ops : Array Oper} {al : Bool} {j : Nat} {a' : Act} {w' : World} {s : Sp} {o : Oper} (ho : ops[j]? = some o) (hw : Region.wanted o (yielded ops a'.tmps) = true) (h : ArmB P Q al o a' w' s) : StepG P Q ops al j a' w' s := ⟨o, ho, .inl ⟨hw, h⟩⟩
theorem StepG.skip {ops : Array Oper} {j : Nat} {a' : Act} {w' : World} {s : Sp} {o : Oper} (ho : ops[j]? = some o) (hw : Region.wanted o (yielded ops a'.tmps) = false) (h : s.p w' undef) : StepG P Q ops false j a' w' s := ⟨o, ho, .inr ⟨hw, rfl, h⟩⟩
theorem unwanted {ops : Array Oper} {o : Oper} {a : Act} {w : World} {g : Nat} {b c : Bool} {t : Tmp} (h : o.guard = some (g, b)) (hg : dstOf ops g = some t) (hh : Has a w t (.val (.bool c))) (hbc : (c == b) = false) : Region.wanted o (yielded ops a.tmps) = false := by
  unfold Region.wanted
  rw [h]
  show (yielded ops a.tmps g == some b) = false
  unfold yielded
  obtain ⟨v, h1, h2⟩ := hh
  have h3 : v = .bool c := h2
  subst h3
  have : (ops[g]?).bind (·.dst) = some t := by
    unfold dstOf at hg
    cases ho : ops[g]? with
    | none => rw [ho] at hg; cases hg
    | some o => rw [ho] at hg; exact hg
  rw [this]
  simp only [Option.bind_some, h1]
  simpa using hbc
/-- The table law in full: skipped operations, new variables, a rest that is left, operations E that may still be open. -/
theorem tab_any (f : Func) (r : Nat) (D : List (Nat × Tmp × Sp)) (E : List Nat) (Al : Nat → Bool) (n fuel : Nat) {a : Act} {w0 w : World} (hb0 : Below w0.heap.size w0 w)
    (hokE : phaseOkE .any (opsOf f r) n ((entries D).map (·.1)) E (Array.replicate (fuel + D.length) false) = true)
    (hok2 : ((entries D).all (fun p => dstOf (opsOf f r) p.1 == some p.2) && decide (((entries D).map (·.2)).Nodup) && decide (((entries D).map (·.1)).Nodup) && (entries D).all (fun p => decide (p.2 < a.tmps.size))) = true)
    (hal : EachX (fun x => Al x.1 = true → ∀ w v, x.2.2.p w v → blk v < w.heap.size) D)
    (steps : EachX (fun x => ∀ (a' : Act) (w' : World), Found .any (opsOf f r) D x.1 w0 a a' w' → StepG P Q (opsOf f r) (Al x.1) x.1 a' w' x.2.2) D)
    (hrest : ∀ E' ∈ subs E, ∀ (g : Nat → Value) w', Below w0.heap.size w0 w' → (∀ (i : Nat) (t : Tmp) (s : Sp), i ∉ E' → D[i]? = some (i, t, s) → s.p w' (g i)) → (∀ i j : Nat, ((entries D).map (·.1)).contains i = true → ((entries D).map (·.1)).contains j = true → i ∉ E' → j ∉ E' → Al i = true → Al j = true → i ≠ j → blk (g i) ≠ blk (g j)) →
      wpAny P .any (opsOf f r) Q (fuel + E'.length) (markAll (((entries D).map (·.1)).filter (fun i => !E'.contains i)) (Array.replicate (fuel + D.length) false)) (putD (entries D) g a) w') :
    wpAny P .any (opsOf f r) Q (fuel + D.length) (Array.replicate (fuel + D.length) false) a w := by
  simp only [Bool.and_eq_true, decide_eq_true_eq] at hok2
  obtain ⟨⟨⟨hds, hnt⟩, hni⟩, hlt⟩ := hok2
  have ht : ∀ p ∈ entries D, p.2 < a.tmps.size := fun p hp => by simpa using List.all_eq_true.1 hlt p hp
  have hcon : ∀ t, ((entries D).map (·.2)).contains t = false → t ∉ (entries D).map (·.2) := fun t h hm => by
    rw [List.contains_iff_mem.2 hm] at h; cases h
  have hmem : ∀ (i : Nat) (t : Tmp) (s : Sp), D[i]? = some (i, t, s) → (i, t, s) ∈ D := fun i t s h => List.mem_of_getElem? h
  have key := keyed (D := D) (by simpa [entries, Function.comp_def] using hni)
  have hS : ∀ i ∈ (entries D).map (·.1), dstOf (opsOf f r) i ≠ none := by
    intro i hi
    obtain ⟨p, hp, rfl⟩ := List.mem_map.1 hi
    have := List.all_eq_true.1 hds p hp
    rw [beq_iff_eq] at this
    rw [this]; simp
  have hnd' : (((entries D).map (·.1)).map (dstOf (opsOf f r))).Nodup := by
    rw [List.map_map]
    have : (entries D).map (dstOf (opsOf f r) ∘ fun p => p.1) = ((entries D).map (·.2)).map some := by
      rw [List.map_map]
      apply List.map_congr_left
      intro p hp
      have := List.all_eq_true.1 hds p hp
      rw [beq_iff_eq] at this
      simp [this]
    rw [this, List.nodup_iff_pairwise_ne, List.pairwise_map]
    rw [List.nodup_iff_pairwise_ne] at hnt
    exact hnt.imp (fun h e => h (by simpa using e))
  have hlen2 : D.length = ((entries D).map (·.1)).length := by simp [entries]
  have e1 : fuel + D.length = fuel + ((entries D).map (·.1)).length := by rw [hlen2]
  have main := wpAny_phaseE (P := P) (Q := Q) (fuel := fuel) (a := a) (w := w) ((entries D).map (·.1)) E n Al (fun i v w' => ∀ t s, (i, t, s) ∈ D → s.p w' v) hokE hnd' (fun i _ v w1 w2 h hb t s hm => s.st _ _ _ (h t s hm) hb) ?_ ?_ ?_
  · rw [← e1] at main; exact main
  · intro i hi hA v w' h
    obtain ⟨p, hp, rfl⟩ := List.mem_map.1 hi
    obtain ⟨x, hx, rfl⟩ := List.mem_map.1 hp
    exact hal.mem x hx hA w' v (h x.2.1 x.2.2 hx)
  · intro j hj g w' hb hF K hK
    obtain ⟨p, hp, rfl⟩ := List.mem_map.1 hj
    obtain ⟨x, hx, rfl⟩ := List.mem_map.1 hp
    rw [← putD_eq hds]
    obtain ⟨o, ho, hstep⟩ := steps.mem x hx (putD (entries D) g a) w' ⟨hb0.trans (hb.mono hb0.size), fun t h => putD_slot t (hcon t h), fun i t s h1 h2 =>
      ⟨g i, putD_in hnt (mem_entries (hmem i t s h1)) (ht _ (mem_entries (hmem i t s h1))), hF i (List.mem_map.2 ⟨_, mem_entries (hmem i t s h1), rfl⟩) (List.contains_iff_mem.1 h2) t s (hmem i t s h1)⟩⟩
    have hd := List.all_eq_true.1 hds _ hp
    rw [beq_iff_eq] at hd
    have hdo : o.dst = some x.2.1 := by
      have : dstOf (opsOf f r) x.1 = o.dst := by unfold dstOf; rw [ho]
      rw [← this]; exact hd
    have fin : ∀ v w'', x.2.2.p w'' v → Below w'.heap.size w' w'' → (Al x.1 = true → w'.heap.size ≤ blk v) → K ((putD (entries D) g a).put o.dst v) w'' := fun v w'' hv hbv hA => by
      have h := hK v w'' (fun t s hm => by
        have e2 := key _ hm _ (show (x.1, x.2.1, x.2.2) ∈ D from hx) rfl
        simp only [Prod.mk.injEq, true_and] at e2
        rw [e2.2]; exact hv) hbv hA
      rw [← putAll_upd hnd' hS _ _ _ hj, ← putD_eq hds, hd] at h
      rw [hdo]; exact h
    unfold wpOp
    rw [ho]
    show if Region.wanted o (yielded (opsOf f r) (putD (entries D) g a).tmps) = true then _ else _
    rcases hstep with ⟨hw, harm⟩ | ⟨hw, hAl, hu⟩
    · rw [if_pos hw]
      exact .inl (harm K fin)
    · rw [if_neg (by rw [hw]; decide)]
      exact fin undef w' hu (Below.refl _ _) (fun h => by rw [hAl] at h; cases h)
  · intro E' hE' g w' hb hF hsep
    rw [← putD_eq hds]
    exact hrest E' hE' g w' (hb0.trans (hb.mono hb0.size)) (fun i t s hn h => hF i (List.mem_map.2 ⟨_, mem_entries (hmem i t s h), rfl⟩) hn t s (hmem i t s h))
      (fun i j hi hj hni hnj => hsep i (List.contains_iff_mem.1 hi) hni j (List.contains_iff_mem.1 hj) hnj)
theorem wp_tabG (f : Func) (r : Nat) (D : List (Nat × Tmp × Sp)) (E : List Nat) (Al : Nat → Bool) (n fuel : Nat) {id : Nat} {ops' : Array Oper} {a : Act} {w : World} (hops : opsOf f r = ops') (hm : P.follows .mixedOrders = true)
    (hlen : (opsOf f r).size = fuel + D.length) (hokE : phaseOkE .any (opsOf f r) n ((entries D).map (·.1)) E (Array.replicate (fuel + D.length) false) = true)
    (hok2 : ((entries D).all (fun p => dstOf (opsOf f r) p.1 == some p.2) && decide (((entries D).map (·.2)).Nodup) && decide (((entries D).map (·.1)).Nodup) && (entries D).all (fun p => decide (p.2 < a.tmps.size))) = true)
    (hal : EachX (fun x => Al x.1 = true → ∀ w v, x.2.2.p w v → blk v < w.heap.size) D)
    (steps : EachX (fun x => ∀ (a' : Act) (w' : World), Found .any (opsOf f r) D x.1 w a a' w' → StepG P Q (opsOf f r) (Al x.1) x.1 a' w' x.2.2) D)
    (hrest : ∀ E' ∈ subs E, ∀ (g : Nat → Value) w', Below w.heap.size w w' → (∀ (i : Nat) (t : Tmp) (s : Sp), i ∉ E' → D[i]? = some (i, t, s) → s.p w' (g i)) → (∀ i j : Nat, ((entries D).map (·.1)).contains i = true → ((entries D).map (·.1)).contains j = true → i ∉ E' → j ∉ E' → Al i = true → Al j = true → i ≠ j → blk (g i) ≠ blk (g j)) →
      wpAny P .any (opsOf f r) Q (fuel + E'.length) (markAll (((entries D).map (·.1)).filter (fun i => !E'.contains i)) (Array.replicate (fuel + D.length) false)) (putD (entries D) g a) w') : (Code.region id ops' true).wp P Q a w := by
  subst hops
  refine wp_region_any hm ?_
  change wpAny P .any _ Q _ _ _ w.drew
  rw [hlen]
  exact tab_any f r D E Al n fuel (bel_drewN (Below.refl _ _) 1) hokE hok2 hal steps hrest
/-- For a region that keeps the order of its text. -/
theorem wp_tabGF (f : Func) (r : Nat) (D : List (Nat × Tmp × Sp)) (E : List Nat) (Al : Nat → Bool) (n fuel : Nat) {id : Nat} {ops' : Array Oper} {a : Act} {w : World} (hops : opsOf f r = ops')
    (hlin : Region.linearise.go .any (opsOf f r) (fuel + D.length) 0 (Array.replicate (fuel + D.length) false) [] = List.range (fuel + D.length))
    (hlen : (opsOf f r).size = fuel + D.length) (hokE : phaseOkE .any (opsOf f r) n ((entries D).map (·.1)) E (Array.replicate (fuel + D.length) false) = true)
    (hok2 : ((entries D).all (fun p => dstOf (opsOf f r) p.1 == some p.2) && decide (((entries D).map (·.2)).Nodup) && decide (((entries D).map (·.1)).Nodup) && (entries D).all (fun p => decide (p.2 < a.tmps.size))) = true)
    (hal : EachX (fun x => Al x.1 = true → ∀ w v, x.2.2.p w v → blk v < w.heap.size) D)
    (steps : EachX (fun x => ∀ (a' : Act) (w' : World), Found .any (opsOf f r) D x.1 w a a' w' → StepG P Q (opsOf f r) (Al x.1) x.1 a' w' x.2.2) D)
    (hrest : ∀ E' ∈ subs E, ∀ (g : Nat → Value) w', Below w.heap.size w w' → (∀ (i : Nat) (t : Tmp) (s : Sp), i ∉ E' → D[i]? = some (i, t, s) → s.p w' (g i)) → (∀ i j : Nat, ((entries D).map (·.1)).contains i = true → ((entries D).map (·.1)).contains j = true → i ∉ E' → j ∉ E' → Al i = true → Al j = true → i ≠ j → blk (g i) ≠ blk (g j)) →
      wpAny P .any (opsOf f r) Q (fuel + E'.length) (markAll (((entries D).map (·.1)).filter (fun i => !E'.contains i)) (Array.replicate (fuel + D.length) false)) (putD (entries D) g a) w') : (Code.region id ops' false).wp P Q a w := by
  subst hops
  refine wp_region ?_
  rw [hlen, ← hlin]
  refine wpAny_sound _ _ _ _ _ ?_
  exact tab_any f r D E Al n fuel (Below.refl _ _) hokE hok2 hal steps hrest
end
/-- v is the fraction of sign s, numerator p, denominator q: valid numbers. -/
def IsF (w : World) (v : Value) (s : Bool) (p q : Nat) : Prop := ∃ a c b d, v = .agg #[.bool s, .slice a (nl p) c, .slice b (nl q) d] ∧ IsN w (.agg #[.slice a (nl p) c]) p ∧ IsN w (.agg #[.slice b (nl q) d]) q
theorem IsF.mono {w w' : World} {v : Value} {s : Bool} {p q : Nat} (h : IsF w v s p q) (hb : Below w.heap.size w w') : IsF w' v s p q := by
  obtain ⟨a, c, b, d, rfl, h1, h2⟩ := h; exact ⟨a, c, b, d, rfl, h1.mono hb, h2.mono hb⟩
/-- Block g is a fraction variable of the call's own with these cells. -/
def VarFB (w : World) (g : Nat) (s : Bool) (a : Option Addr) (L c : Nat) (b : Option Addr) (M d : Nat) : Prop := w.heap[g]? = some (.cells #[.bool s, .slice a L c, .slice b M d] 30 (0, 0))
section
variable {w w' : World} {g L c M d B : Nat} {s : Bool} {a b : Option Addr}
theorem VarFB.lt (h : VarFB w g s a L c b M d) : g < w.heap.size := (Array.getElem?_eq_some_iff.1 h).1
theorem VarFB.mono (h : VarFB w g s a L c b M d) (hb : Below B w w') (hB : g < B) : VarFB w' g s a L c b M d := (hb.block g hB).trans h
theorem VarFB.cell0 (h : VarFB w g s a L c b M d) : w.cell? ⟨g, 0, none⟩ = some (.bool s) := by rw [cell_of_row w g 0 _ _ (0, 0) h]; rfl
theorem VarFB.cell1 (h : VarFB w g s a L c b M d) : w.cell? ⟨g, 1, none⟩ = some (.slice a L c) := by rw [cell_of_row w g 1 _ _ (0, 0) h]; rfl
theorem VarFB.cell2 (h : VarFB w g s a L c b M d) : w.cell? ⟨g, 2, none⟩ = some (.slice b M d) := by rw [cell_of_row w g 2 _ _ (0, 0) h]; rfl
theorem VarFB.frozen (h : VarFB w g s a L c b M d) (j : Nat) : w.frozen? ⟨g, j, none⟩ = false := frozen_of_row w g j _ _ h
theorem VarFB.made (w : World) (s : Bool) (a : Option Addr) (L c : Nat) (b : Option Addr) (M d : Nat) : VarFB (w.alloc (.cells #[.bool s, .slice a L c, .slice b M d] 30)) w.heap.size s a L c b M d := heap_alloc_new w _
end
/-- Block g is a variable that holds the fraction. -/
def VarF (w : World) (g : Nat) (s : Bool) (p q : Nat) : Prop := ∃ a c b d, VarFB w g s a (nl p) c b (nl q) d ∧ IsN w (.agg #[.slice a (nl p) c]) p ∧ IsN w (.agg #[.slice b (nl q) d]) q
theorem VarF.mono {w w' : World} {g p q : Nat} {s : Bool} (h : VarF w g s p q) (hb : Below w.heap.size w w') : VarF w' g s p q := by
  obtain ⟨a, c, b, d, h0, h1, h2⟩ := h; exact ⟨a, c, b, d, h0.mono hb h0.lt, h1.mono hb, h2.mono hb⟩
def Sp.fr (s : Bool) (p q : Nat) : Sp := ⟨fun w v => IsF w v s p q, fun _ _ _ h hb => h.mono hb⟩
def RetF (W : World) (s : Bool) (p q : Nat) (e : Ending) (w' : World) : Prop := ∃ v, e = .returned v ∧ IsF w' v s p q ∧ Below W.heap.size W w'
theorem ofF {w w' : World} {s : Bool} {p q : Nat} {e : Ending} (h : RetF w s p q e w') : ∃ v, e = .returned v ∧ (Sp.fr s p q).p w' v ∧ Below w.heap.size w w' := h
theorem c_isZero (va : Value) (m : Nat) (w : World) (ha : IsN w va m) (hm : nl m ≤ 1000000000000) :
    Calls Try.prog 76 #[va] w fun e w' => RetV w (.bool (decide (m = 0))) e w' := by
  obtain ⟨a, ca, rfl, hca, ra⟩ := ha
  have hw := bel1 w (.cells #[.slice a (nl m) ca] 28)
  have v1 := VarB.made w a (nl m) ca
  have c1 := v1.cell
  have e : (((nl m : Nat) : Int) == 0) = decide (m = 0) := by
    rw [Bool.eq_iff_iff]; simp [nl_eq_zero]
  go_enter Try.func76, Try.ntmps76
  go_wp2
  go_ret
  exact ⟨by first | rfl | (rw [← e]; rfl) | simp_all, hw⟩
theorem c_zero (va : Value) (m : Nat) (w : World) (ha : IsN w va m) (hm : nl m ≤ 1000000000000) :
    Calls Try.prog 62 #[va] w fun e w' => RetV w (.bool (decide (m = 0))) e w' := by
  obtain ⟨a, ca, rfl, hca, ra⟩ := ha
  have hw := bel1 w (.cells #[.slice a (nl m) ca] 28)
  have v1 := VarB.made w a (nl m) ca
  have c1 := v1.cell
  have e : (((nl m : Nat) : Int) == 0) = decide (m = 0) := by
    rw [Bool.eq_iff_iff]; simp [nl_eq_zero]
  go_enter Try.func62, Try.ntmps62
  go_wp2
  go_ret
  exact ⟨by first | rfl | (rw [← e]; rfl) | simp_all, hw⟩
end Go.Proofs.Ythefidbgjgfeiaa
namespace Go.Proofs.Ythefidbgjgfeiaa
set_option linter.unusedSimpArgs false
set_option linter.unusedVariables false
set_option maxRecDepth 100000
open Go.RowKit
section
variable {P : Program} {Q : Exit → Act → World → Prop} {md : Region.Mode} {ops : Array Oper} {D l : List (Nat × Tmp × Sp)} {Al : Nat → Bool} {w w' : World} {a a' : Act} {i j g : Nat} {t u : Tmp} {s : Sp} {o : Oper} {b c : Bool}
theorem gR (ho : ops[i]? = some o) (hg : o.guard = none) (h : ArmB P Q b o a' w' s) : StepG P Q ops b i a' w' s := StepG.run ho (wanted_none hg) h
theorem gG {d : Bool} (F : Found md ops D i w a a' w') (ho : ops[i]? = some o) (hg : o.guard = some (g, b)) (hd : dstOf ops g = some u) (hq : D[g]? = some (g, u, .val (.bool b))) (h : ArmB P Q d o a' w' s) (hc : (preds md ops i).contains g = true := by kernel_rfl) : StepG P Q ops d i a' w' s := StepG.run ho (wanted_some hg hd (F.at' g u _ hq hc)) h
theorem gS (F : Found md ops D i w a a' w') (ho : ops[i]? = some o) (hg : o.guard = some (g, b)) (hd : dstOf ops g = some u) (hq : D[g]? = some (g, u, .val (.bool c))) (hb : (c == b) = false) (h : s.p w' undef) (hc : (preds md ops i).contains g = true := by kernel_rfl) : StepG P Q ops false i a' w' s := StepG.skip ho (unwanted hg hd (F.at' g u _ hq hc) hb) h
theorem unwanted0' {ops : Array Oper} {o : Oper} {a : Act} {w : World} {g : Nat} {b : Bool} {t : Tmp} (h : o.guard = some (g, b)) (hg : dstOf ops g = some t) (hh : Has a w t (.val undef)) : Region.wanted o (yielded ops a.tmps) = false := by
  unfold Region.wanted
  rw [h]
  show (yielded ops a.tmps g == some b) = false
  unfold yielded
  obtain ⟨v, h1, h2⟩ := hh
  have h3 : v = undef := h2
  subst h3
  have : (ops[g]?).bind (·.dst) = some t := by
    unfold dstOf at hg
    cases ho : ops[g]? with
    | none => rw [ho] at hg; cases hg
    | some o => rw [ho] at hg; exact hg
  rw [this]
  simp only [Option.bind_some, h1]
  rfl
theorem gZ (F : Found md ops D i w a a' w') (ho : ops[i]? = some o) (hg : o.guard = some (g, b)) (hd : dstOf ops g = some u) (hq : D[g]? = some (g, u, .val undef)) (h : s.p w' undef) (hc : (preds md ops i).contains g = true := by kernel_rfl) : StepG P Q ops false i a' w' s := StepG.skip ho (unwanted0' hg hd (F.at' g u _ hq hc)) h
/-- The walks by a table where nothing is made. -/
theorem tF (f : Func) (r : Nat) (D : List (Nat × Tmp × Sp)) (E : List Nat) (n fuel : Nat) {id : Nat} {ops' : Array Oper} {a : Act} {w : World}
    (steps : EachX (fun x => ∀ (a' : Act) (w' : World), Found .any (opsOf f r) D x.1 w a a' w' → StepG P Q (opsOf f r) ((fun _ : Nat => false) x.1) x.1 a' w' x.2.2) D)
    (hrest : ∀ E' ∈ subs E, ∀ (g : Nat → Value) w', Below w.heap.size w w' → (∀ (i : Nat) (t : Tmp) (s : Sp), i ∉ E' → D[i]? = some (i, t, s) → s.p w' (g i)) → (∀ i j : Nat, ((entries D).map (·.1)).contains i = true → ((entries D).map (·.1)).contains j = true → i ∉ E' → j ∉ E' → (fun _ : Nat => false) i = true → (fun _ : Nat => false) j = true → i ≠ j → blk (g i) ≠ blk (g j)) →
      wpAny P .any (opsOf f r) Q (fuel + E'.length) (markAll (((entries D).map (·.1)).filter (fun i => !E'.contains i)) (Array.replicate (fuel + D.length) false)) (putD (entries D) g a) w')
    (hops : opsOf f r = ops' := by kernel_rfl)
    (hlin : Region.linearise.go .any (opsOf f r) (fuel + D.length) 0 (Array.replicate (fuel + D.length) false) [] = List.range (fuel + D.length) := by kernel_rfl)
    (hlen : (opsOf f r).size = fuel + D.length := by kernel_rfl) (hokE : phaseOkE .any (opsOf f r) n ((entries D).map (·.1)) E (Array.replicate (fuel + D.length) false) = true := by kernel_rfl)
    (hok2 : ((entries D).all (fun p => dstOf (opsOf f r) p.1 == some p.2) && decide (((entries D).map (·.2)).Nodup) && decide (((entries D).map (·.1)).Nodup) && (entries D).all (fun p => decide (p.2 < a.tmps.size))) = true := by kernel_rfl) :
    (Code.region id ops' false).wp P Q a w :=
  wp_tabGF f r D E (fun _ => false) n fuel hops hlin hlen hokE hok2 (EachX.of_all (fun _ h => by cases h) _) steps hrest
theorem tG (f : Func) (r : Nat) (D : List (Nat × Tmp × Sp)) (E : List Nat) (n fuel : Nat) {id : Nat} {ops' : Array Oper} {a : Act} {w : World}
    (steps : EachX (fun x => ∀ (a' : Act) (w' : World), Found .any (opsOf f r) D x.1 w a a' w' → StepG P Q (opsOf f r) ((fun _ : Nat => false) x.1) x.1 a' w' x.2.2) D)
    (hrest : ∀ E' ∈ subs E, ∀ (g : Nat → Value) w', Below w.heap.size w w' → (∀ (i : Nat) (t : Tmp) (s : Sp), i ∉ E' → D[i]? = some (i, t, s) → s.p w' (g i)) → (∀ i j : Nat, ((entries D).map (·.1)).contains i = true → ((entries D).map (·.1)).contains j = true → i ∉ E' → j ∉ E' → (fun _ : Nat => false) i = true → (fun _ : Nat => false) j = true → i ≠ j → blk (g i) ≠ blk (g j)) →
      wpAny P .any (opsOf f r) Q (fuel + E'.length) (markAll (((entries D).map (·.1)).filter (fun i => !E'.contains i)) (Array.replicate (fuel + D.length) false)) (putD (entries D) g a) w')
    (hops : opsOf f r = ops' := by kernel_rfl) (hm : P.follows .mixedOrders = true := by kernel_rfl)
    (hlen : (opsOf f r).size = fuel + D.length := by kernel_rfl) (hokE : phaseOkE .any (opsOf f r) n ((entries D).map (·.1)) E (Array.replicate (fuel + D.length) false) = true := by kernel_rfl)
    (hok2 : ((entries D).all (fun p => dstOf (opsOf f r) p.1 == some p.2) && decide (((entries D).map (·.2)).Nodup) && decide (((entries D).map (·.1)).Nodup) && (entries D).all (fun p => decide (p.2 < a.tmps.size))) = true := by kernel_rfl) :
    (Code.region id ops' true).wp P Q a w :=
  wp_tabG f r D E (fun _ => false) n fuel hops hm hlen hokE hok2 (EachX.of_all (fun _ h => by cases h) _) steps hrest
end
end Go.Proofs.Ythefidbgjgfeiaa
