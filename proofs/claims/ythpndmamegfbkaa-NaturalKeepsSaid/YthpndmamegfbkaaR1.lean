/- A load in a region that draws its order may be taken first, where all that may come before it are loads too. -/
import Derived.WalkKit
import Derived.Deep.RegionWith
namespace Go.Proofs.Ythpndmamegfbkaa
set_option linter.unusedSimpArgs false
set_option linter.unusedVariables false

/-- A computation that leaves the world alone where it comes to an end. -/
def Rd {α : Type} (s : Sem α) : Prop := ∀ P w x w', s.run P w = .ok x w' → w' = w
theorem Rd.pure {α : Type} (a : α) : Rd (Pure.pure a : Sem α) := fun P w x w' h => by
  simp only [Sem.run_pure] at h; cases h; rfl
theorem Rd.bind {α β : Type} {s : Sem α} {f : α → Sem β} (hs : Rd s) (hf : ∀ a, Rd (f a)) : Rd (s >>= f) := fun P w x w' h => by
  rw [Sem.run_bind] at h
  cases hr : s.run P w with
  | ok a w1 =>
    rw [hr, Result.andThen_ok] at h
    have h1 := hs P w a w1 hr
    have h2 := hf a P w1 x w' h
    rw [h2, h1]
  | halt e w1 => rw [hr] at h; simp [Result.andThen] at h
theorem Rd.load (a : Addr) : Rd (Go.load a) := fun P w x w' h => by
  unfold Go.load at h
  simp only [Sem.run] at h
  split at h
  · cases h; rfl
  · split at h
    · cases h; rfl
    · cases h
theorem Rd.program : Rd Go.program := fun P w x w' h => by
  simp [Go.program, Sem.run] at h
  exact h.2.symm
theorem Rd.stuck {α : Type} (why : String) : Rd (Go.stuck why : Sem α) := fun P w x w' h => by
  simp [Go.stuck, Sem.run] at h
theorem Rd.loadCellsFrom (a : Addr) : ∀ (n i : Nat) (acc : Array Value), Rd (Go.loadCellsFrom a i n acc)
  | 0, i, acc => Rd.pure _
  | n + 1, i, acc => Rd.bind (Rd.load _) fun v => Rd.loadCellsFrom a n (i + 1) (acc.push v)
theorem Rd.typeInfo (t : TypeId) : Rd (Go.typeInfo t) := Rd.bind Rd.program fun p => by
  cases p.info? t with
  | none => exact Rd.stuck _
  | some i => exact Rd.pure _
theorem Rd.underlying (t : TypeId) : Rd (Go.underlying t) := Rd.bind Rd.program fun p => by
  cases p.underlying t with
  | none => exact Rd.stuck _
  | some i => exact Rd.pure _
theorem Rd.loadVar (t : TypeId) (a : Addr) : Rd (Go.loadVar t a) := by
  refine Rd.bind (Rd.bind (Rd.underlying t) fun d => ?_) fun b => ?_
  · cases d <;> exact Rd.pure _
  · cases b
    · exact Rd.load _
    · exact Rd.bind (Rd.bind (Rd.typeInfo t) fun i => Rd.pure _) fun n => Rd.bind (Rd.loadCellsFrom a n 0 #[]) fun cs => Rd.pure _
theorem Rd.loadAt (t : TypeId) (x : Value) : Rd (Instr.loadAt t x) := by
  refine Rd.bind ?_ fun a => Rd.loadVar t a
  cases x with
  | pointer p =>
    cases p with
    | none => exact Rd.stuck _
    | some a => exact Rd.pure _
  | _ => exact Rd.stuck _
def isLoad (o : Oper) : Bool := match o.op with | .load .. => true | _ => false
theorem load_still {P : Program} {o : Oper} (ho : isLoad o = true) {ρ : Operand → Value} {w w' : World} {n : Next} (h : (execOp ρ o).run P w = .ok n w') : (∃ v, n = .value v) ∧ w' = w := by
  obtain ⟨dst, op, ty, pos, after, guard⟩ := o
  unfold isLoad at ho
  cases op <;> first | cases ho | skip
  rename_i t x
  have h' : ((Instr.loadAt t (ρ x)) >>= fun v => (Pure.pure (Next.value v) : Sem Next)).run P w = .ok n w' := h
  refine ⟨?_, Rd.bind (Rd.loadAt t (ρ x)) (fun v => Rd.pure _) P w n w' h'⟩
  rw [Sem.run_bind] at h'
  cases hr : (Instr.loadAt t (ρ x)).run P w with
  | ok a w1 => rw [hr, Result.andThen_ok, Sem.run_pure] at h'; cases h'; exact ⟨a, rfl⟩
  | halt e w1 => rw [hr] at h'; simp [Result.andThen] at h'

section
variable {P : Program} {ops : Array Oper} {Q : Exit → Act → World → Prop} {md : Region.Mode}
/-- In state a, in world w, operation o leaves v in its temporary, and the world as it is. -/
def YieldsW (P : Program) (ops : Array Oper) (o : Oper) (v : Value) (a : Act) (w : World) : Prop :=
  Region.wanted o (yielded ops a.tmps) = true ∧ (execOp a.eval o).run P w = .ok (.value v) w
/-- What is asked of the operations that have not come up: each of number t or more waits for i, or for one of these; each other one is i, or a load that is apart from i. -/
def freeLoad (md : Region.Mode) (ops : Array Oper) (listed : Array Bool) (i t : Nat) : Bool :=
  (List.range ops.size).all fun j => match ops[j]? with
    | none => true
    | some oj =>
      if t ≤ j then !listed.getD j true && oj.after.any (fun e => Region.binds md e && (e.on == i || decide (t ≤ e.on)))
      else j == i || listed.getD j true || (isLoad oj && (match ops[i]? with | some oi => oi.apart ops oj | none => false))
theorem wpAny_first_load {i t : Nat} {oi : Oper} {v : Value} (hi : ops[i]? = some oi) (hit : i < t) (hload : isLoad oi = true) (hQ : ∀ c a w, Q (.panic c) (a.put oi.dst v) w → Q (.panic c) a w)
    (hsink : ∀ j oj, ops[j]? = some oj → t ≤ j → ∃ e ∈ oj.after, Region.binds md e = true ∧ (e.on = i ∨ t ≤ e.on)) :
    ∀ (fuel : Nat) (listed : Array Bool) (a : Act) (w : World), listed.size = ops.size →
      (∀ j, t ≤ j → listed.getD j false = false) →
      (∀ j oj, ops[j]? = some oj → j < t → j ≠ i → listed.getD j true = false → isLoad oj = true ∧ oi.apart ops oj = true) →
      i ∈ Region.ready md ops listed → YieldsW P ops oi v a w →
      wpAny P md ops Q fuel (listed.setIfInBounds i true) (a.put oi.dst v) w → wpAny P md ops Q (fuel + 1) listed a w := by
  have hsi : ∀ cs b, oi.op ≠ .select cs b := fun cs b h => by unfold isLoad at hload; rw [h] at hload; cases hload
  have direct : ∀ {a : Act} {w : World} {K : Act → World → Prop}, YieldsW P ops oi v a w → K (a.put oi.dst v) w → wpOp P ops Q i K a w := by
    intro a w K hy hK
    unfold wpOp
    simp only [hi, hy.1, if_true]
    exact .inl (by simp only [Oper.wp, hy.2, Oper.upon]; exact hK)
  have below : ∀ {listed : Array Bool}, (∀ j, t ≤ j → listed.getD j false = false) → i ∈ Region.ready md ops listed → ∀ j, j ∈ Region.ready md ops listed → j < t := by
    intro listed htail hr j hj
    rcases Nat.lt_or_ge j t with h | h
    · exact h
    · obtain ⟨_, oj, hoj, hall⟩ := mem_ready.1 hj
      obtain ⟨e, he, hb, hon⟩ := hsink j oj hoj h
      have h1 := hall e he hb
      rcases hon with hon | hon
      · have h0 := (mem_ready.1 hr).1
        rw [hon] at h1
        rcases Nat.lt_or_ge i listed.size with h' | h'
        · simp [h'] at h0 h1; rw [h0] at h1; cases h1
        · simp [Array.getElem?_eq_none h'] at h1
      · rw [htail _ hon] at h1; cases h1
  intro fuel
  induction fuel with
  | zero =>
    intro listed a w _ htail _ hr hy H
    refine ⟨fun h => (by rw [h] at hr; cases hr), fun j hj => ?_⟩
    by_cases hji : j = i
    · subst hji; exact direct hy H
    · have := ready_mono hj hji
      rw [H.1] at this
      cases this
  | succ fuel ih =>
    intro listed a w hsize htail hfree hr hy H
    refine ⟨fun h => (by rw [h] at hr; cases hr), fun j hj => ?_⟩
    by_cases hji : j = i
    · subst hji; exact direct hy H
    · have hjt := below htail hr j hj
      have h1 := H.2 j (ready_mono hj hji)
      obtain ⟨hjun, oj, hoj, hall⟩ := mem_ready.1 hj
      obtain ⟨hjl, hap⟩ := hfree j oj hoj hjt hji hjun
      have hsj : ∀ cs b, oj.op ≠ .select cs b := fun cs b h => by unfold isLoad at hjl; rw [h] at hjl; cases hjl
      obtain ⟨p1, p2, p3⟩ := Oper.apart_spec hap
      have hsize' : (listed.setIfInBounds j true).size = ops.size := by simp [hsize]
      have htail' : ∀ k, t ≤ k → (listed.setIfInBounds j true).getD k false = false := fun k hk => by rw [getD_set_ne false (by omega)]; exact htail k hk
      have hfree' : ∀ k ok, ops[k]? = some ok → k < t → k ≠ i → (listed.setIfInBounds j true).getD k true = false → isLoad ok = true ∧ oi.apart ops ok = true := fun k ok hk hkt hki hun => by
        refine hfree k ok hk hkt hki ?_
        by_cases hjk : j = k
        · subst hjk; exact hjun
        · rw [getD_set_ne true hjk] at hun; exact hun
      have keep : ∀ u, YieldsW P ops oi v (a.put oj.dst u) w := fun u => by
        refine ⟨by rw [wanted_put oi a oj.dst u p3]; exact hy.1, by rw [execOp_put oi hsi a oj.dst u p3]; exact hy.2⟩
      have next : ∀ u, wpAny P md ops Q fuel ((listed.setIfInBounds i true).setIfInBounds j true) ((a.put oi.dst v).put oj.dst u) w → wpAny P md ops Q (fuel + 1) (listed.setIfInBounds j true) (a.put oj.dst u) w := fun u hK => by
        refine ih _ _ _ hsize' htail' hfree' (ready_mono hr (Ne.symm hji)) (keep u) ?_
        rw [Array.setIfInBounds_comm _ _ hji, ← Act.put_comm a v u p2]
        exact hK
      unfold wpOp at h1 ⊢
      simp only [hoj] at h1 ⊢
      rw [wanted_put oj a oi.dst v p1] at h1
      split
      · rename_i hw
        simp only [hw, if_true] at h1
        rcases h1 with h1 | ⟨hasks, hlets⟩
        case inr => exact .inr ⟨by unfold Oper.asks at *; rw [execOp_put oj hsj a oi.dst v p1] at hasks; exact hasks, hlets⟩
        refine .inl ?_
        unfold Oper.wp at *
        rw [execOp_put oj hsj a oi.dst v p1] at h1
        cases hrun : (execOp a.eval oj).run P w with
        | ok n w' =>
          rw [hrun] at h1
          obtain ⟨⟨u, rfl⟩, rfl⟩ := load_still hjl hrun
          simp only [Oper.upon] at h1 ⊢
          exact next u h1
        | halt x w' =>
          rw [hrun] at h1
          cases x <;> simp only [Oper.upon] at h1 ⊢
          case panic u => exact hQ _ _ _ h1
      · rename_i hw
        simp only [hw] at h1
        exact next _ h1
theorem wpAny_take_load {i t : Nat} {oi : Oper} {v : Value} {fuel : Nat} {listed : Array Bool} {a : Act} {w : World} (hi : ops[i]? = some oi) (hit : i < t) (hload : isLoad oi = true)
    (hsz : listed.size = ops.size) (hf : freeLoad md ops listed i t = true) (hr : (Region.ready md ops listed).contains i = true)
    (hQ : ∀ c a w, Q (.panic c) (a.put oi.dst v) w → Q (.panic c) a w) (hy : YieldsW P ops oi v a w)
    (h : wpAny P md ops Q fuel (listed.setIfInBounds i true) (a.put oi.dst v) w) : wpAny P md ops Q (fuel + 1) listed a w := by
  have hall : ∀ j oj, ops[j]? = some oj → (if t ≤ j then !listed.getD j true && oj.after.any (fun e => Region.binds md e && (e.on == i || decide (t ≤ e.on)))
      else j == i || listed.getD j true || (isLoad oj && oi.apart ops oj)) = true := fun j oj hoj => by
    have h1 := List.all_eq_true.1 hf j (List.mem_range.2 (Array.getElem?_eq_some_iff.1 hoj).1)
    simp only [hoj, hi] at h1
    exact h1
  refine wpAny_first_load hi hit hload hQ (fun j oj hoj htj => ?_) fuel listed a w hsz (fun j htj => ?_) (fun j oj hoj hjt hji hun => ?_) (by simpa using hr) hy h
  · have h1 := hall j oj hoj
    rw [if_pos htj, Bool.and_eq_true] at h1
    obtain ⟨e, he, hb⟩ := Array.any_eq_true'.1 h1.2
    simp only [Bool.and_eq_true, Bool.or_eq_true, beq_iff_eq, decide_eq_true_eq] at hb
    exact ⟨e, he, hb.1, hb.2⟩
  · rcases Nat.lt_or_ge j ops.size with hlt | hge
    · have h1 := hall j ops[j] (Array.getElem?_eq_getElem hlt)
      rw [if_pos htj, Bool.and_eq_true] at h1
      have h2 := h1.1
      have hl : j < listed.size := by omega
      simp [hl] at h2 ⊢
      exact h2
    · simp [Array.getElem?_eq_none (show listed.size ≤ j by omega)]
  · have h1 := hall j oj hoj
    rw [if_neg (by omega)] at h1
    simp only [Bool.or_eq_true, beq_iff_eq, hji, false_or, hun, Bool.false_eq_true, Bool.and_eq_true] at h1
    exact h1
end
end Go.Proofs.Ythpndmamegfbkaa
