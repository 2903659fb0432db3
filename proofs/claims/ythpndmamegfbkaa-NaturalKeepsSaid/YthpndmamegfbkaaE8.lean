/- Tables for a part of a region: what is left of the region comes behind; new variables. The reference's bit. The state of the reference's DivMod. -/
import Derived.Test.YthpndmamegfbkaaS5
namespace Go.Proofs.Ythpndmamegfbkaa
set_option linter.unusedSimpArgs false
set_option linter.unusedVariables false
open Go.RowKit
section
variable {P : Program} {ops : Array Oper} {Q : Exit → Act → World → Prop} {md : Region.Mode}
theorem EachX.of_all {α : Type} {p : α → Prop} (h : ∀ x, p x) : ∀ l, EachX p l
  | [] => trivial
  | x :: l => ⟨h x, EachX.of_all h l⟩
/-- As Arm; where al, the value lies in a new block. -/
def ArmB (P : Program) (Q : Exit → Act → World → Prop) (al : Bool) (o : Oper) (a : Act) (w : World) (s : Sp) : Prop :=
  ∀ K : Act → World → Prop, (∀ v w', s.p w' v → Below w.heap.size w w' → (al = true → w.heap.size ≤ blk v) → K (a.put o.dst v) w') → Oper.wp P o a w K Q
theorem Arm.b {o : Oper} {a : Act} {w : World} {s : Sp} (h : Arm P Q o a w s) : ArmB P Q false o a w s := fun K hK => h K (fun v w' h1 h2 => hK v w' h1 h2 (fun h => by cases h))
theorem wp_tabK (f : Func) (r : Nat) (D : List (Nat × Tmp × Sp)) (Al : Nat → Bool) (n fuel : Nat) {id : Nat} {ops' : Array Oper} {a : Act} {w : World} (hops : opsOf f r = ops') (hm : P.follows .mixedOrders = true)
    (hlen : (opsOf f r).size = fuel + D.length) (hok : tabOk .any (opsOf f r) (entries D) n (Array.replicate (fuel + D.length) false) a.tmps.size = true)
    (hal : EachX (fun x => Al x.1 = true → ∀ w v, x.2.2.p w v → blk v < w.heap.size) D)
    (steps : EachX (fun x => ∀ (a' : Act) (w' : World), Found .any (opsOf f r) D x.1 w a a' w' → ∃ o, (opsOf f r)[x.1]? = some o ∧ Region.wanted o (yielded (opsOf f r) a'.tmps) = true ∧ ArmB P Q (Al x.1) o a' w' x.2.2) D)
    (hrest : ∀ (g : Nat → Value) w', Below w.heap.size w w' → (∀ (i : Nat) (t : Tmp) (s : Sp), D[i]? = some (i, t, s) → s.p w' (g i)) → (∀ i j : Nat, ((entries D).map (·.1)).contains i = true → ((entries D).map (·.1)).contains j = true → Al i = true → Al j = true → i ≠ j → blk (g i) ≠ blk (g j)) →
      wpAny P .any (opsOf f r) Q fuel (markAll ((entries D).map (·.1)) (Array.replicate (fuel + D.length) false)) (putD (entries D) g a) w') : (Code.region id ops' true).wp P Q a w := by
  subst hops
  refine wp_region_any hm ?_
  have hb0 : Below w.heap.size w w.drew := bel_drewN (Below.refl _ _) 1
  change wpAny P .any _ Q _ _ _ w.drew
  rw [hlen]
  unfold tabOk at hok
  simp only [Bool.and_eq_true, decide_eq_true_eq] at hok
  obtain ⟨⟨⟨⟨hph, hds⟩, hnt⟩, hni⟩, hlt⟩ := hok
  have ht : ∀ p ∈ entries D, p.2 < a.tmps.size := fun p hp => by simpa using List.all_eq_true.1 hlt p hp
  have hcon : ∀ t, ((entries D).map (·.2)).contains t = false → t ∉ (entries D).map (·.2) := fun t h hm => by
    rw [List.contains_iff_mem.2 hm] at h; cases h
  have hmem : ∀ (i : Nat) (t : Tmp) (s : Sp), D[i]? = some (i, t, s) → (i, t, s) ∈ D := fun i t s h => List.mem_of_getElem? h
  have key := keyed (D := D) (by simpa [entries, Function.comp_def] using hni)
  have hlen2 : D.length = (entries D).length := by simp [entries]
  rw [hlen2] at hph hrest ⊢
  refine wpAny_phaseD (fuel := fuel) (entries D) n Al (fun i v w' => ∀ t s, (i, t, s) ∈ D → s.p w' v) hph hds hnt (fun i _ v w1 w2 h hb t s hm => s.st _ _ _ (h t s hm) hb) ?_ ?_ ?_
  · intro i hi hA v w' h
    obtain ⟨p, hp, rfl⟩ := List.mem_map.1 hi
    obtain ⟨x, hx, rfl⟩ := List.mem_map.1 hp
    exact hal.mem x hx hA w' v (h x.2.1 x.2.2 hx)
  · intro p hp g w' hb hF K hK
    obtain ⟨x, hx, rfl⟩ := List.mem_map.1 hp
    obtain ⟨o, ho, hw, harm⟩ := steps.mem x hx (putD (entries D) g a) w' ⟨hb0.trans (hb.mono hb0.size), fun t h => putD_slot t (hcon t h), fun i t s h1 h2 =>
      ⟨g i, putD_in hnt (mem_entries (hmem i t s h1)) (ht _ (mem_entries (hmem i t s h1))), hF i (List.mem_map.2 ⟨_, mem_entries (hmem i t s h1), rfl⟩) (List.contains_iff_mem.1 h2) t s (hmem i t s h1)⟩⟩
    unfold wpOp
    rw [ho]
    show if Region.wanted o (yielded (opsOf f r) (putD (entries D) g a).tmps) = true then _ else _
    rw [if_pos hw]
    refine .inl (harm K (fun v w'' hv hbv hA => ?_))
    have hd := List.all_eq_true.1 hds _ hp
    rw [beq_iff_eq] at hd
    have hdo : o.dst = some x.2.1 := by
      have : dstOf (opsOf f r) x.1 = o.dst := by unfold dstOf; rw [ho]
      rw [← this]; exact hd
    rw [hdo]
    refine hK v w'' (fun t s hm => ?_) hbv hA
    have e2 := key _ hm _ (show (x.1, x.2.1, x.2.2) ∈ D from hx) rfl
    simp only [Prod.mk.injEq, true_and] at e2
    rw [e2.2]; exact hv
  · intro g w' hb hF hsep
    exact hrest g w' (hb0.trans (hb.mono hb0.size)) (fun i t s h => hF i (List.mem_map.2 ⟨_, mem_entries (hmem i t s h), rfl⟩) t s (hmem i t s h))
      (fun i j hi hj => hsep i (List.contains_iff_mem.1 hi) j (List.contains_iff_mem.1 hj))
end
/-- The address of a new variable of the call's own, not yet written. -/
def Sp.var (base : Nat) : Sp := ⟨fun w v => ∃ g, v = .pointer (some ⟨g, 0, none⟩) ∧ base ≤ g ∧ VarB w g none 0 0, fun _ _ _ h hb => by obtain ⟨g, h1, h2, h3⟩ := h; exact ⟨g, h1, h2, h3.mono hb h3.lt⟩⟩
theorem Sp.var_lt {base : Nat} {w : World} {v : Value} (h : (Sp.var base).p w v) : blk v < w.heap.size := by
  obtain ⟨g, rfl, _, h3⟩ := h; exact h3.lt
section
variable {Q : Exit → Act → World → Prop} {o : Oper} {a : Act} {w : World} {x y : Operand} {m n : Nat} {tt : Array TypeId}
theorem arm_alloc {base : Nat} (ho : o.op = .alloc 24) (hb : base ≤ w.heap.size) : ArmB Try.prog Q true o a w (.var base) := by
  intro K hK
  unfold Oper.wp execOp
  rw [ho]
  go_simp
  exact hK _ _ ⟨_, rfl, hb, VarB.made w none 0 0⟩ (bel1 w _) (fun _ => Nat.le_refl _)
theorem ofNewB {w w' : World} {base N : Nat} {e : Ending} (hb0 : base ≤ w.heap.size) (h : RetNew w N e w') : ∃ v, e = .returned v ∧ (Sp.new base N).p w' v ∧ Below w.heap.size w w' := by
  obtain ⟨v, rfl, hn, hb⟩ := h; exact ⟨v, rfl, hn.weaken hb0, hb⟩
theorem arm_rAddN {base : Nat} (hb : base ≤ w.heap.size) (ho : o.op = .call { callee := .value (.func 17), args := #[x, y], argTypes := tt }) (hx : Is a w x (.nat m)) (hy : Is a w y (.nat n)) (hm : nl m ≤ 1000000000000) (hn : nl n ≤ 1000000000000) {N : Nat} (hN : m + n = N) : Arm Try.prog Q o a w (.new base N) := by
  subst hN
  exact arm_two ho (enters Try.func17 rfl rfl) hx hy (R := fun w => RetNew w (m + n)) (fun va vb w h1 h2 => c_ref_Add va vb m n w h1 h2 hm hn) (fun _ _ h => ofNewB hb h)
theorem arm_rOf (ho : o.op = .call { callee := .value (.func 53), args := #[x], argTypes := tt }) (hx : Is a w x (.val (.int .u64 (n : Int)))) (hn : n < 18446744073709551616) : Arm Try.prog Q o a w (.nat n) := by
  refine arm_call ho (enters Try.func53 rfl rfl) (R := fun e w' => RetNew w n e w') ?_ (fun _ _ h => ofNew h)
  have hx' : a.eval x = .int .u64 (n : Int) := hx
  simpa [hx'] using c_ref_Of n w hn
theorem Is.new {base : Nat} (h : Is a w x (.new base m)) : Is a w x (.nat m) := NewN.isN h
end
theorem run_store {w : World} {g L c : Nat} {s : Option Addr} {u : Value} (hu : ∃ s' L' c', u = .slice s' L' c') (h : VarB w g s L c) : (Instr.storeAt 24 (.pointer (some ⟨g, 0, none⟩)) (.agg #[u])).run Try.prog w = .ok () (w.setCell ⟨g, 0, none⟩ u) := by
  obtain ⟨s', L', c', rfl⟩ := hu
  have c1 := h.cell
  have f1 := h.frozen
  go_simp
theorem wp_store {Q : Exit → Act → World → Prop} {o : Oper} {a : Act} {w : World} {K : Act → World → Prop} {x y : Operand} {g L c : Nat} {s : Option Addr} {u : Value} (hop : o.op = .store 24 x y) (hd : o.dst = none)
    (hx : a.eval x = .pointer (some ⟨g, 0, none⟩)) (hy : a.eval y = .agg #[u]) (hu : ∃ s' L' c', u = .slice s' L' c') (hv : VarB w g s L c) (hK : K a (w.setCell ⟨g, 0, none⟩ u)) : Oper.wp Try.prog o a w K Q := by
  unfold Oper.wp execOp
  rw [hop]
  simp only [hx, hy, Sem.run_bind, run_store hu hv, Result.andThen, Sem.run_pure, Oper.upon_skip]
  rw [hd]
  exact hK
/-- The store that is left. -/
theorem wpAny_store {Q : Exit → Act → World → Prop} {md : Region.Mode} {ops : Array Oper} {o : Oper} {a : Act} {w : World} {j fuel : Nat} {listed : Array Bool} {x y : Operand} {g L c : Nat} {s : Option Addr} {u : Value}
    (hr : Region.ready md ops listed = [j]) (ho : ops[j]? = some o) (hop : o.op = .store 24 x y) (hg : o.guard = none) (hd : o.dst = none)
    (hx : a.eval x = .pointer (some ⟨g, 0, none⟩)) (hy : a.eval y = .agg #[u]) (hu : ∃ s' L' c', u = .slice s' L' c') (hv : VarB w g s L c) (h : wpAny Try.prog md ops Q fuel (listed.setIfInBounds j true) a (w.setCell ⟨g, 0, none⟩ u)) :
    wpAny Try.prog md ops Q (fuel + 1) listed a w := by
  refine wpAny_ready hr (by simp) (AllReady.cons ho (fun K hK => ?_) AllReady.nil)
  rw [if_pos (wanted_none hg)]
  exact wp_store hop hd hx hy hu hv (hK _ _ h)
/-- Two stores that are left, in whatever order. -/
theorem wpAny_store2 {Q : Exit → Act → World → Prop} {md : Region.Mode} {ops : Array Oper} {o o' : Oper} {a : Act} {w : World} {j j' fuel : Nat} {listed : Array Bool} {x y x' y' : Operand} {g L c g' L' c' : Nat} {s s' : Option Addr} {u u' : Value}
    (hr : Region.ready md ops listed = [j, j']) (hr1 : Region.ready md ops (listed.setIfInBounds j true) = [j']) (hr2 : Region.ready md ops (listed.setIfInBounds j' true) = [j])
    (ho : ops[j]? = some o) (hop : o.op = .store 24 x y) (hg : o.guard = none) (hd : o.dst = none) (hx : a.eval x = .pointer (some ⟨g, 0, none⟩)) (hy : a.eval y = .agg #[u]) (hu : ∃ s' L' c', u = .slice s' L' c') (hv : VarB w g s L c)
    (ho' : ops[j']? = some o') (hop' : o'.op = .store 24 x' y') (hg' : o'.guard = none) (hd' : o'.dst = none) (hx' : a.eval x' = .pointer (some ⟨g', 0, none⟩)) (hy' : a.eval y' = .agg #[u']) (hu' : ∃ s' L' c', u' = .slice s' L' c') (hv' : VarB w g' s' L' c') (hne : g ≠ g')
    (h1 : wpAny Try.prog md ops Q fuel ((listed.setIfInBounds j true).setIfInBounds j' true) a ((w.setCell ⟨g, 0, none⟩ u).setCell ⟨g', 0, none⟩ u'))
    (h2 : wpAny Try.prog md ops Q fuel ((listed.setIfInBounds j' true).setIfInBounds j true) a ((w.setCell ⟨g', 0, none⟩ u').setCell ⟨g, 0, none⟩ u)) :
    wpAny Try.prog md ops Q (fuel + 1 + 1) listed a w := by
  refine wpAny_ready hr (by simp) (AllReady.cons ho (fun K hK => ?_) (AllReady.cons ho' (fun K hK => ?_) AllReady.nil))
  · rw [if_pos (wanted_none hg)]
    exact wp_store hop hd hx hy hu hv (hK _ _ (wpAny_store hr1 ho' hop' hg' hd' hx' hy' hu' (hv'.setOther _ _ hne) h1))
  · rw [if_pos (wanted_none hg')]
    exact wp_store hop' hd' hx' hy' hu' hv' (hK _ _ (wpAny_store hr2 ho hop hg hd hx hy hu (hv.setOther _ _ (fun e => hne e.symm)) h2))
theorem arm_loadB {Q : Exit → Act → World → Prop} {o : Oper} {a : Act} {w : World} {x : Operand} {g L c : Nat} {s : Option Addr} (ho : o.op = .load 24 x) (hx : Is a w x (.val (.pointer (some ⟨g, 0, none⟩)))) (h : VarB w g s L c) : Arm Try.prog Q o a w (.val (.agg #[.slice s L c])) := by
  have hx' : a.eval x = .pointer (some ⟨g, 0, none⟩) := hx
  refine arm_run (.agg #[.slice s L c]) ?_ rfl
  unfold execOp
  rw [ho]
  simp only [hx', Sem.run_bind, run_load w g L c s h, Result.andThen, Sem.run_pure]
end Go.Proofs.Ythpndmamegfbkaa
namespace Go.Proofs.Ythpndmamegfbkaa
set_option linter.unusedSimpArgs false
set_option linter.unusedVariables false
open Go.RowKit
theorem bit_of (m i : Nat) : D m (i / 32) / 2 ^ (i % 32) % 2 = m / 2 ^ i % 2 := by
  unfold D
  have h1 : (4294967296 : Nat) ^ (i / 32) = 2 ^ (32 * (i / 32)) := by rw [Nat.pow_mul]
  have h3 : ∀ X s : Nat, s ≤ 32 → X % 4294967296 / 2 ^ s = X / 2 ^ s % 2 ^ (32 - s) := by
    intro X s hs
    rw [show (4294967296 : Nat) = 2 ^ s * 2 ^ (32 - s) by rw [← Nat.pow_add, show s + (32 - s) = 32 by omega], Nat.mod_mul_right_div_self]
  rw [h3 _ _ (by omega), h1, Nat.div_div_eq_div_mul, ← Nat.pow_add, Nat.div_add_mod]
  have h4 : (2 : Nat) ∣ 2 ^ (32 - i % 32) := ⟨2 ^ (31 - i % 32), by rw [← Nat.pow_succ', show (31 - i % 32).succ = 32 - i % 32 by omega]⟩
  exact Nat.mod_mod_of_dvd _ h4
theorem c_bit (va : Value) (m i : Nat) (w : World) (ha : IsN w va m) (hm : nl m ≤ 1000000000000) (hi : i ≤ 60000000000000) :
    Calls Try.prog 54 #[va, .int .i64 (i : Int)] w fun e w' => RetV w (.int .u64 ((m / 2 ^ i % 2 : Nat) : Int)) e w' := by
  obtain ⟨a, ca, rfl, hca, ra⟩ := ha
  obtain ⟨k0, k1⟩ := box1 (L := nl m) (c := ca) (N := m) ⟨a, ca, rfl, hca, ra⟩
  obtain ⟨y1, d1, q1, i1⟩ := k1
  have e1 := q1.cell
  obtain ⟨P, hP⟩ : ∃ P : Nat, Hid (P = i / 32) := ⟨_, Lib.hid rfl⟩
  obtain ⟨R, hR⟩ : ∃ R : Nat, Hid (R = i % 32) := ⟨_, Lib.hid rfl⟩
  have hq : (i : Int) / 32 = (P : Int) := by have := hP.out; omega
  have hq' : Int.tdiv (i : Int) 32 = (P : Int) := by rw [Int.tdiv_eq_ediv_of_nonneg (by omega)]; exact hq
  have hr : (i : Int) % 32 = (R : Int) := by have := hR.out; omega
  have hr' : Int.tmod (i : Int) 32 = (R : Int) := by rw [Int.tmod_eq_emod_of_nonneg (by omega)]; exact hr
  have hR32 : R ≤ 31 := by have := hR.out; omega
  have hPb : P ≤ 60000000000000 := by have := hP.out; omega
  have hbit : D m P / 2 ^ R % 2 = m / 2 ^ i % 2 := by rw [hP.out, hR.out]; exact bit_of m i
  have HB := Lib.hid hbit
  clear hbit
  obtain ⟨V, hV⟩ : ∃ V : Nat, Hid (V = D m P) := ⟨_, Lib.hid rfl⟩
  have hVb : V ≤ 4294967295 := by have := D_lt m P; have := hV.out; omega
  go_enter Try.func54, Try.ntmps54
  go_wp2_with fail
  refine (c_digit _ (nl m) m P _ i1 (by omega) hPb).mono ?_
  rintro e w1 ⟨rfl, bb⟩
  rw [← hV.out]
  have hb1 := k0.trans (bb.mono k0.size)
  go_wp2_with fail
  go_loopw [5, 6] (fun s5 s6 wr => ∃ k x : Nat, k ≤ R ∧ s6 = .int .i64 (k : Int) ∧ s5 = .int .u64 (x : Int) ∧ Hid (x = V / 2 ^ k) ∧ x ≤ 4294967295 ∧ wr = w1) (fun _ s6 _ => R - (intOf s6).toNat)
  case atStart => exact ⟨0, V, Nat.zero_le _, rfl, rfl, Lib.hid (by simp), hVb, rfl⟩
  case round =>
    obtain ⟨k, x, hk, rfl, rfl, HX, hxb, rfl⟩ := hrel
    by_cases hlt : k < R
    · obtain ⟨y, hy⟩ : ∃ y : Nat, Hid (y = x / 2) := ⟨_, Lib.hid rfl⟩
      have hq2 : ((x : Nat) : Int) / 2 = ((y : Nat) : Int) := by have := hy.out; omega
      have hyb : y ≤ 4294967295 := by have := hy.out; omega
      go_wp2_with fail
      go_roundw
      case rel => exact ⟨k + 1, y, by omega, by go_num, rfl, Lib.hid (by rw [hy.out, HX.out, Nat.pow_succ, Nat.div_div_eq_div_mul]), hyb, trivial⟩
      case measure => simp [intOf] <;> omega
    · obtain rfl : k = R := by omega
      obtain ⟨y, hy⟩ : ∃ y : Nat, Hid (y = x % 2) := ⟨_, Lib.hid rfl⟩
      have hq2 : ((x : Nat) : Int) % 2 = ((y : Nat) : Int) := by have := hy.out; omega
      go_wp2
      go_ret
      refine ⟨?_, hb1⟩
      rw [← HB.out, ← hV.out, ← HX.out]
      refine congrArg Ending.returned (congrArg (Value.int IntKind.u64) ?_)
      have := hy.out
      omega
end Go.Proofs.Ythpndmamegfbkaa
namespace Go.Proofs.Ythpndmamegfbkaa
set_option linter.unusedSimpArgs false
set_option linter.unusedVariables false
open Go.RowKit
/-- Two result variables, quotient and remainder in variables of their own, the arguments in theirs. -/
structure DM (w wr : World) (m n q r : Nat) : Prop where
  below : Below w.heap.size w wr
  va : VarI wr w.heap.size m
  vb : VarI wr (w.heap.size + 1) n
  r1 : VarB wr (w.heap.size + 2) none 0 0
  r2 : VarB wr (w.heap.size + 3) none 0 0
  vq : VarN w.heap.size wr (w.heap.size + 4) q
  vr : VarN w.heap.size wr (w.heap.size + 5) r
theorem DM.mono {w wr w' : World} {m n q r : Nat} (h : DM w wr m n q r) (hb : Below wr.heap.size wr w') : DM w w' m n q r :=
  ⟨h.below.trans (hb.mono h.below.size), h.va.mono hb, h.vb.mono hb, h.r1.mono hb h.r1.lt, h.r2.mono hb h.r2.lt, h.vq.mono (B := 0) hb, h.vr.mono (B := 0) hb⟩
theorem VarI.setOther {w : World} {g N g' L' c' : Nat} {a' : Option Addr} {u : Value} (h : VarI w g N) (h' : VarB w g' a' L' c') (hne : g' ≠ g) : VarI (w.setCell ⟨g', 0, none⟩ u) g N := by
  obtain ⟨a, c, h1, h2⟩ := h
  exact ⟨a, c, h1.setOther _ _ hne, h2.setVar h'⟩
theorem VarN.setOther {w : World} {base g N g' L' c' : Nat} {a' : Option Addr} {u : Value} (h : VarN base w g N) (h' : VarB w g' a' L' c') (hne : g' ≠ g) : VarN base (w.setCell ⟨g', 0, none⟩ u) g N := by
  obtain ⟨a, c, h1, h2⟩ := h
  exact ⟨a, c, h1.setOther _ _ hne, h2.setVar h'⟩
theorem VarN.setN {w : World} {base g M N c : Nat} {x : Option Addr} (h : VarN base w g M) (hn : NewN base w (.agg #[.slice x (nl N) c]) N) : VarN base (w.setCell ⟨g, 0, none⟩ (.slice x (nl N) c)) g N := by
  obtain ⟨a, c', h1, h2⟩ := h
  exact ⟨x, c, h1.set, hn.setVar h1⟩
theorem DM.setr {w wr : World} {m n q r N c : Nat} {x : Option Addr} (h : DM w wr m n q r) (hn : NewN w.heap.size wr (.agg #[.slice x (nl N) c]) N) : DM w (wr.setCell ⟨w.heap.size + 5, 0, none⟩ (.slice x (nl N) c)) m n q N := by
  obtain ⟨a, c', h1, h2⟩ := h.vr
  exact ⟨h.below.setCell (p := ⟨w.heap.size + 5, 0, none⟩) (Nat.le_add_right _ _) _, h.va.setOther h1 (by omega), h.vb.setOther h1 (by omega), h.r1.setOther _ _ (by simp), h.r2.setOther _ _ (by simp), h.vq.setOther h1 (by omega), h.vr.setN hn⟩
theorem DM.setq {w wr : World} {m n q r N c : Nat} {x : Option Addr} (h : DM w wr m n q r) (hn : NewN w.heap.size wr (.agg #[.slice x (nl N) c]) N) : DM w (wr.setCell ⟨w.heap.size + 4, 0, none⟩ (.slice x (nl N) c)) m n N r := by
  obtain ⟨a, c', h1, h2⟩ := h.vq
  exact ⟨h.below.setCell (p := ⟨w.heap.size + 4, 0, none⟩) (Nat.le_add_right _ _) _, h.va.setOther h1 (by omega), h.vb.setOther h1 (by omega), h.r1.setOther _ _ (by simp), h.r2.setOther _ _ (by simp), h.vq.setN hn, h.vr.setOther h1 (by omega)⟩
theorem dm_uniq {Y n q r : Nat} (h : Y = n * q + r) (hr : r < n) : Y / n = q ∧ Y % n = r :=
  (Nat.div_mod_unique (by omega)).2 ⟨by omega, hr⟩
theorem two_pow_half (m k : Nat) : m / 2 ^ k = 2 * (m / 2 ^ (k + 1)) + m / 2 ^ k % 2 := by
  rw [Nat.pow_succ, ← Nat.div_div_eq_div_mul]; omega
theorem lt_len2 (m : Nat) : m < 2 ^ len2 m := by
  unfold len2
  split
  · omega
  · exact Nat.lt_log2_self
/-- One round of the long division in binary digits. -/
theorem dm_round {m n k : Nat} (hn : 0 < n) : (n ≤ m / 2 ^ (k + 1) % n + m / 2 ^ (k + 1) % n + m / 2 ^ k % 2 → m / 2 ^ k / n = m / 2 ^ (k + 1) / n + m / 2 ^ (k + 1) / n + 1 ∧ m / 2 ^ k % n = m / 2 ^ (k + 1) % n + m / 2 ^ (k + 1) % n + m / 2 ^ k % 2 - n) ∧
    (m / 2 ^ (k + 1) % n + m / 2 ^ (k + 1) % n + m / 2 ^ k % 2 < n → m / 2 ^ k / n = m / 2 ^ (k + 1) / n + m / 2 ^ (k + 1) / n ∧ m / 2 ^ k % n = m / 2 ^ (k + 1) % n + m / 2 ^ (k + 1) % n + m / 2 ^ k % 2) := by
  have h1 := two_pow_half m k
  have h2 := Nat.div_add_mod (m / 2 ^ (k + 1)) n
  have h3 := Nat.mod_lt (m / 2 ^ (k + 1)) hn
  generalize m / 2 ^ (k + 1) = X at *
  generalize m / 2 ^ k = Y at *
  generalize hb : Y % 2 = b at *
  have hb2 : b < 2 := by omega
  generalize X / n = q at *
  generalize X % n = r at *
  subst h2
  have e1 : n * (q + q) = n * q + n * q := Nat.mul_add n q q
  have e2 : n * (q + q + 1) = n * q + n * q + n := by rw [Nat.mul_add, e1, Nat.mul_one]
  refine ⟨fun h => dm_uniq ?_ (by omega), fun h => dm_uniq ?_ h⟩
  · rw [h1, e2]; omega
  · rw [h1, e1]; omega
/-- The two results are laid into their variables, in whatever order. -/
theorem DM.fin {w w0 : World} {m n q r cq cr : Nat} {aq ar : Option Addr} (h : DM w w0 m n q r) (hq : VarB w0 (w.heap.size + 4) aq (nl q) cq) (nq : NewN w.heap.size w0 (.agg #[.slice aq (nl q) cq]) q)
    (hr : VarB w0 (w.heap.size + 5) ar (nl r) cr) (nr : NewN w.heap.size w0 (.agg #[.slice ar (nl r) cr]) r) (w1 : World)
    (hw : w1 = (w0.setCell ⟨w.heap.size + 2, 0, none⟩ (.slice aq (nl q) cq)).setCell ⟨w.heap.size + 3, 0, none⟩ (.slice ar (nl r) cr) ∨ w1 = (w0.setCell ⟨w.heap.size + 3, 0, none⟩ (.slice ar (nl r) cr)).setCell ⟨w.heap.size + 2, 0, none⟩ (.slice aq (nl q) cq)) :
    VarB w1 (w.heap.size + 2) aq (nl q) cq ∧ VarB w1 (w.heap.size + 3) ar (nl r) cr ∧ NewN w.heap.size w1 (.agg #[.slice aq (nl q) cq]) q ∧ NewN w.heap.size w1 (.agg #[.slice ar (nl r) cr]) r ∧ Below w.heap.size w w1 := by
  rcases hw with rfl | rfl
  · have k2 := h.r2.setOther ⟨w.heap.size + 2, 0, none⟩ (.slice aq (nl q) cq) (by simp)
    exact ⟨h.r1.set.setOther _ _ (by simp), k2.set, (nq.setVar h.r1).setVar k2, (nr.setVar h.r1).setVar k2, (h.below.setCell (p := ⟨w.heap.size + 2, 0, none⟩) (Nat.le_add_right _ _) _).setCell (p := ⟨w.heap.size + 3, 0, none⟩) (Nat.le_add_right _ _) _⟩
  · have k1 := h.r1.setOther ⟨w.heap.size + 3, 0, none⟩ (.slice ar (nl r) cr) (by simp)
    exact ⟨k1.set, h.r2.set.setOther _ _ (by simp), (nq.setVar h.r2).setVar k1, (nr.setVar h.r2).setVar k1, (h.below.setCell (p := ⟨w.heap.size + 3, 0, none⟩) (Nat.le_add_right _ _) _).setCell (p := ⟨w.heap.size + 2, 0, none⟩) (Nat.le_add_right _ _) _⟩
section
variable {Q : Exit → Act → World → Prop} {o : Oper} {a : Act} {w : World} {x y : Operand} {m n : Nat} {tt : Array TypeId}
theorem arm_bit {i : Nat} (ho : o.op = .call { callee := .value (.func 54), args := #[x, y], argTypes := tt }) (hx : Is a w x (.nat m)) (hy : Is a w y (.val (.int .i64 (i : Int)))) (hm : nl m ≤ 1000000000000) (hi : i ≤ 60000000000000) {b : Nat} (hb : m / 2 ^ i % 2 = b) :
    Arm Try.prog Q o a w (.val (.int .u64 (b : Int))) := by
  subst hb
  refine arm_call ho (enters Try.func54 rfl rfl) (R := RetV w (.int .u64 ((m / 2 ^ i % 2 : Nat) : Int))) ?_ (fun _ _ h => ofV h)
  have hy' : a.eval y = .int .i64 (i : Int) := hy
  simpa [hy'] using c_bit _ m i w hx hm hi
end
end Go.Proofs.Ythpndmamegfbkaa
