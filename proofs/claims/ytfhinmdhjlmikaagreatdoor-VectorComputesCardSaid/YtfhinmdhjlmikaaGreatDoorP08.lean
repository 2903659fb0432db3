/- An executor: the operations of a region in whatever order. An executor: a region as a whole. An executor: operations that make a value and leave memory alone. An executor: operations that make a value do what is said of them. An executor: operations that make a value, one by one. An executor: wholes, operators, all operations that make a value. An executor: the effect of an operation. -/
import Derived.Test.YtfhinmdhjlmikaaGreatDoorP07
import Derived.Laws.Sem
namespace Go.Proofs.YtfhinmdhjlmikaaGreatDoor
set_option linter.unusedSimpArgs false
set_option linter.unusedVariables false
set_option maxRecDepth 100000
open Go.RowKit
/-- Places: slot t is number t; cell k of variable v is number (v + 1) * 100000 + k. -/
def LocH (ρ : Rho) (B : Blk) (a : Act) (w : World) (x : Nat) (c : AV) : Prop :=
  if x < 100000 then ∃ u, a.tmps[x]? = some u ∧ c.holds ρ B w u
  else ∃ g cs ty u, B (x / 100000 - 1) = some g ∧ w.heap[g]? = some (.cells cs ty (0, 0)) ∧ cs[x % 100000]? = some u ∧ c.holds ρ B w u
structure Eff where
  rd : List Nat
  wr : List (Nat × AV)
  al : Option Nat
structure Inv (vt : List (TypeId × Nat)) (w0 : World) (nt : Nat) (B : Blk) (a : Act) (w : World) : Prop where
  blk : ∀ v g, B v = some g → w0.heap.size ≤ g ∧ ∃ cs ty, vt[v]? = some (ty, cs.size) ∧ w.heap[g]? = some (.cells cs ty (0, 0)) ∧ (∀ (k : Nat) (n : Int), cs[k]? ≠ some (.int .u32 n)) ∧ ty ≠ strT
  inj : ∀ v v' g, B v = some g → B v' = some g → v = v'
  below : Below w0.heap.size w0 w
  size : a.tmps.size = nt
  dfr : a.defers = []
/-- What an operation leaves behind. -/
structure Post (ρ : Rho) (vt : List (TypeId × Nat)) (w0 : World) (nt : Nat) (e : Eff) (B : Blk) (a : Act) (w : World) (B' : Blk) (a' : Act) (w' : World) : Prop where
  le : BLe B B'
  inv : Inv vt w0 nt B' a' w'
  wr : ∀ p ∈ e.wr, LocH ρ B' a' w' p.1 p.2
  keep : ∀ x c, LocH ρ B a w x c → (∀ p ∈ e.wr, p.1 ≠ x) → LocH ρ B' a' w' x c
  new : ∀ v, B v = none → B' v ≠ none → e.al = some v
/-- Operation j, from a state of which lk tells what is known, has effect e. -/
def OpOk (P : Program) (ρ : Rho) (vt : List (TypeId × Nat)) (w0 : World) (nt : Nat) (ops : Array Oper) (Q : Exit → Act → World → Prop) (j : Nat) (lk : Nat → Option AV) (e : Eff) : Prop :=
  ∀ B a w, Inv vt w0 nt B a w → (∀ x ∈ e.rd, ∀ c, lk x = some c → LocH ρ B a w x c) → (∀ v, e.al = some v → B v = none) →
    ∀ K : Act → World → Prop, (∀ B' a' w', Post ρ vt w0 nt e B a w B' a' w' → K a' w') → wpOp P ops Q j K a w
abbrev Effs := List (Nat × Eff)
/-- What is known of a place behind some operations (the newest first). -/
def lkE (b : Nat → Option AV) : Effs → Nat → Option AV
  | [], x => b x
  | (_, e) :: r, x => match e.wr.find? (fun p => p.1 == x) with
    | some p => some p.2
    | none => lkE b r x
def valT (b : Nat → Option AV) (T : List Nat) : Effs → Nat → Option AV
  | [], x => b x
  | (i, e) :: r, x => match (if T.contains i then e.wr.find? (fun p => p.1 == x) else none) with
    | some p => some p.2
    | none => valT b T r x
def noconf (e e' : Eff) : Bool :=
  e'.wr.all (fun p => !e.rd.contains p.1 && !e.wr.any (fun q => q.1 == p.1)) && e'.rd.all (fun x => !e.wr.any (fun q => q.1 == x))
def okAdd (m : Nat) (r : Effs) (e : Eff) : Bool := r.all fun p => m.testBit p.1 || noconf e p.2
section
variable {P : Program} {ρ : Rho} {vt : List (TypeId × Nat)} {w0 : World} {nt : Nat} {ops : Array Oper} {Q : Exit → Act → World → Prop} {b : Nat → Option AV} {md : Region.Mode}
def Closed (md : Region.Mode) (ops : Array Oper) (T : List Nat) : Prop := ∀ j ∈ T, ∀ k ∈ preds md ops j, k ∈ T
def AncOk (md : Region.Mode) (ops : Array Oper) (m j : Nat) : Prop := ∀ i, m.testBit i = true → ∀ T, Closed md ops T → (∀ k ∈ preds md ops j, k ∈ T) → i ∈ T
/-- A run through the operations in the order of the text. -/
def Good (P : Program) (ρ : Rho) (vt : List (TypeId × Nat)) (w0 : World) (nt : Nat) (md : Region.Mode) (ops : Array Oper) (Q : Exit → Act → World → Prop) (b : Nat → Option AV) (nb : Nat) : Effs → Prop
  | [] => True
  | (j, e) :: r => j = r.length ∧ OpOk P ρ vt w0 nt ops Q j (lkE b r) e ∧ (∃ m, AncOk md ops m j ∧ okAdd m r e = true) ∧ (∀ v, e.al = some v → nb ≤ v ∧ ∀ p ∈ r, p.2.al ≠ some v) ∧ Good P ρ vt w0 nt md ops Q b nb r
theorem valT_app (T : List Nat) (x y : Effs) : valT b T (x ++ y) = valT (valT b T y) T x := by
  induction x with
  | nil => rfl
  | cons p x ih =>
    funext z
    obtain ⟨i, e⟩ := p
    simp only [List.cons_append, valT, ih]
theorem valT_all (T : List Nat) (r : Effs) (h : ∀ p ∈ r, p.1 ∈ T) : valT b T r = lkE b r := by
  induction r with
  | nil => rfl
  | cons p x ih =>
    funext z
    obtain ⟨i, e⟩ := p
    have h1 : T.contains i = true := List.contains_iff_mem.2 (h (i, e) (by simp))
    simp only [valT, lkE, h1, if_true, ih (fun p hp => h p (List.mem_cons_of_mem _ hp))]
theorem find_none {l : List (Nat × AV)} {x : Nat} (h : ∀ p ∈ l, p.1 ≠ x) : l.find? (fun p => p.1 == x) = none := by
  rw [List.find?_eq_none]
  intro p hp
  simpa using h p hp
theorem valT_skip {T : List Nat} {r : Effs} {x : Nat} (h : ∀ p ∈ r, p.1 ∈ T → ∀ q ∈ p.2.wr, q.1 ≠ x) : valT b T r x = b x := by
  induction r with
  | nil => rfl
  | cons p r ih =>
    obtain ⟨i, e⟩ := p
    simp only [valT]
    by_cases hi : T.contains i = true
    · rw [if_pos hi, find_none (h (i, e) (by simp) (List.contains_iff_mem.1 hi))]
      exact ih (fun p hp => h p (List.mem_cons_of_mem _ hp))
    · rw [if_neg hi]
      exact ih (fun p hp => h p (List.mem_cons_of_mem _ hp))
theorem noconf_iff {e e' : Eff} : noconf e e' = true ↔ (∀ p ∈ e'.wr, p.1 ∉ e.rd ∧ ∀ q ∈ e.wr, q.1 ≠ p.1) ∧ ∀ x ∈ e'.rd, ∀ q ∈ e.wr, q.1 ≠ x := by
  unfold noconf
  simp only [Bool.and_eq_true, List.all_eq_true, Bool.not_eq_true', List.any_eq_false, beq_iff_eq, List.contains_eq_mem, decide_eq_false_iff_not]
theorem Good.split {nb : Nat} {r : Effs} (h : Good P ρ vt w0 nt md ops Q b nb r) {j : Nat} (hj : j < r.length) : ∃ hi e lo, r = hi ++ (j, e) :: lo ∧ lo.length = j ∧ Good P ρ vt w0 nt md ops Q b nb ((j, e) :: lo) ∧
    (∀ p ∈ hi, j < p.1 ∧ (∃ m, AncOk md ops m p.1 ∧ (m.testBit j = true ∨ noconf p.2 e = true)) ∧ (∀ v, p.2.al = some v → e.al ≠ some v)) := by
  induction r with
  | nil => simp at hj
  | cons p r ih =>
    obtain ⟨i, e⟩ := p
    obtain ⟨h1, h2, h3, h4, h5⟩ := h
    by_cases hji : j = i
    · subst hji
      exact ⟨[], e, r, rfl, h1.symm, ⟨h1, h2, h3, h4, h5⟩, fun p hp => by cases hp⟩
    · have hj' : j < r.length := by simp at hj; omega
      obtain ⟨hi, e', lo, rfl, e2, hg, hall⟩ := ih h5 hj'
      refine ⟨(i, e) :: hi, e', lo, rfl, e2, hg, fun p hp => ?_⟩
      rcases List.mem_cons.1 hp with rfl | hp
      · obtain ⟨m, hm, hok⟩ := h3
        refine ⟨by simp only; omega, ⟨m, hm, ?_⟩, fun v hv => (h4 v hv).2 (j, e') (by simp)⟩
        unfold okAdd at hok
        have := List.all_eq_true.1 hok (j, e') (by simp)
        simpa using this
      · exact hall p hp
theorem Good.idx {nb : Nat} {r : Effs} (h : Good P ρ vt w0 nt md ops Q b nb r) : ∀ p ∈ r, p.1 < r.length := by
  induction r with
  | nil => intro p hp; cases hp
  | cons p r ih =>
    obtain ⟨i, e⟩ := p
    obtain ⟨h1, h2, h3, h4, h5⟩ := h
    intro q hq
    rcases List.mem_cons.1 hq with rfl | hq
    · simp only [List.length_cons]; omega
    · have := ih h5 q hq; simp only [List.length_cons]; omega
theorem val_lo {T : List Nat} {e : Eff} {x : Nat} (hx : x ∈ e.rd) : ∀ {lo : Effs}, (∀ p ∈ lo, p.1 ∈ T ∨ noconf e p.2 = true) → valT b T lo x = lkE b lo x
  | [], _ => rfl
  | (i, e') :: lo, h => by
    simp only [valT, lkE]
    have ih' := val_lo hx (lo := lo) (fun p hp => h p (List.mem_cons_of_mem _ hp))
    by_cases hiT : T.contains i = true
    · rw [if_pos hiT, ih']
    · rw [if_neg hiT]
      rcases h (i, e') (by simp) with h | h
      · exact absurd (List.contains_iff_mem.2 h) hiT
      · rw [find_none (fun q hq he => ((noconf_iff.1 h).1 q hq).1 (by rw [he]; exact hx))]
        exact ih'
theorem valT_push {T : List Nat} {j : Nat} : ∀ {r : Effs}, (∀ p ∈ r, p.1 ≠ j) → valT b (T ++ [j]) r = valT b T r
  | [], _ => rfl
  | (i, e') :: r, h => by
    funext z
    have hc : (T ++ [j]).contains i = T.contains i := by
      have := h (i, e') (by simp)
      simp only at this
      rw [Bool.eq_iff_iff]; simp [this]
    simp only [valT, hc, valT_push (r := r) (fun p hp => h p (List.mem_cons_of_mem _ hp))]
theorem valT_congr {b' : Nat → Option AV} {T : List Nat} {x : Nat} (h : b x = b' x) : ∀ {r : Effs}, valT b T r x = valT b' T r x
  | [] => h
  | (i, e') :: r => by simp only [valT, valT_congr h (r := r)]
/-- What holds when the operations of T are done. -/
def StT (ρ : Rho) (vt : List (TypeId × Nat)) (w0 : World) (nt : Nat) (b : Nat → Option AV) (nb : Nat) (r : Effs) (T : List Nat) (a : Act) (w : World) : Prop :=
  ∃ B, Inv vt w0 nt B a w ∧ (∀ x c, valT b T r x = some c → LocH ρ B a w x c) ∧ (∀ v, B v ≠ none → v < nb ∨ ∃ p ∈ r, p.1 ∈ T ∧ p.2.al = some v)
theorem step_any {nb : Nat} {r : Effs} (hg : Good P ρ vt w0 nt md ops Q b nb r) {T : List Nat} {j : Nat} (hj : j < r.length) (hT : Closed md ops T) (hjT : j ∉ T) (hp : ∀ k ∈ preds md ops j, k ∈ T)
    {a : Act} {w : World} (h : StT ρ vt w0 nt b nb r T a w) {K : Act → World → Prop} (hK : ∀ a' w', StT ρ vt w0 nt b nb r (T ++ [j]) a' w' → K a' w') : wpOp P ops Q j K a w := by
  obtain ⟨hi, e, lo, rfl, hlo, ⟨_, hop, ⟨m, hm, hok⟩, hal, hgl⟩, hhi⟩ := hg.split hj
  obtain ⟨B, hinv, hval, hB⟩ := h
  have hhi' : ∀ p ∈ hi, p.1 ∈ T → noconf p.2 e = true := fun p hp1 hp2 => by
    obtain ⟨_, ⟨m', hm', hor⟩, _⟩ := hhi p hp1
    rcases hor with hor | hor
    · exact absurd (hm' j hor T hT (fun k hk => hT _ hp2 k hk)) hjT
    · exact hor
  have hlo' : ∀ p ∈ lo, p.1 ∈ T ∨ noconf e p.2 = true := fun p hp1 => by
    unfold okAdd at hok
    have := List.all_eq_true.1 hok p hp1
    simp only [Bool.or_eq_true] at this
    rcases this with h | h
    · exact .inl (hm _ h T hT hp)
    · exact .inr h
  have hTj : T.contains j = false := by simpa using hjT
  refine hop B a w hinv (fun x hx c hc => ?_) (fun v hv => ?_) K (fun B' a' w' hpost => hK a' w' ⟨B', hpost.inv, fun x c hc => ?_, fun v hv => ?_⟩)
  · refine hval x c ?_
    rw [valT_app]
    rw [valT_skip (fun p hp1 hp2 q hq => ?_)]
    · show valT b T ((j, e) :: lo) x = _
      simp only [valT, hTj, Bool.false_eq_true, if_false]
      rw [← hc]
      exact val_lo hx hlo'
    · intro he
      have h1 := hhi' p hp1 hp2
      exact (noconf_iff.1 h1).2 x hx q hq he
  · have h0 := hal v hv
    cases hBv : B v with
    | none => rfl
    | some g =>
      rcases hB v (by rw [hBv]; simp) with h | ⟨p, hp1, hp2, hp3⟩
      · omega
      · rcases List.mem_append.1 hp1 with h | h
        · exact absurd hv ((hhi p h).2.2 v hp3)
        · rcases List.mem_cons.1 h with rfl | h
          · exact absurd hp2 hjT
          · exact absurd hp3 (h0.2 p h)
  · -- the places behind
    have hhi2 : ∀ p ∈ hi, p.1 ∈ T ++ [j] → p.1 ∈ T := fun p hp1 hp2 => by
      rcases List.mem_append.1 hp2 with h | h
      · exact h
      · simp at h; have := (hhi p hp1).1; omega
    have hTj' : (T ++ [j]).contains j = true := by simp
    by_cases hx : ∃ p ∈ e.wr, p.1 = x
    · rw [valT_app, valT_skip (fun p hp1 hp2 q hq => ?_)] at hc
      · simp only [valT, hTj', if_true] at hc
        cases hf : e.wr.find? (fun p => p.1 == x) with
        | none =>
          obtain ⟨p, hp1, hp2⟩ := hx
          have := List.find?_eq_none.1 hf p hp1
          simp [hp2] at this
        | some p =>
          rw [hf] at hc
          simp only [Option.some.injEq] at hc
          have h1 := List.find?_some hf
          have h2 := List.mem_of_find?_eq_some hf
          simp only [beq_iff_eq] at h1
          have h3 := hpost.wr p h2
          rw [h1, hc] at h3
          exact h3
      · intro he
        obtain ⟨p2, hp3, rfl⟩ := hx
        have h1 := hhi' p hp1 (hhi2 p hp1 hp2)
        have h2 := ((noconf_iff.1 h1).1 p2 hp3).2 q hq
        exact h2 he
    · have hx' : ∀ p ∈ e.wr, p.1 ≠ x := fun p hp he => hx ⟨p, hp, he⟩
      refine hpost.keep x c (hval x c ?_) hx'
      rw [← hc, valT_app, valT_app, valT_push (r := hi) (fun p hp => by have := (hhi p hp).1; omega)]
      refine valT_congr ?_
      simp only [valT, hTj, hTj', Bool.false_eq_true, if_false, if_true]
      rw [find_none hx', valT_push (r := lo) (fun p hp => by have := hgl.idx p hp; omega)]
  · cases hBv : B v with
    | some g =>
      rcases hB v (by rw [hBv]; simp) with h | ⟨p, h1, h2, h3⟩
      · exact .inl h
      · exact .inr ⟨p, h1, List.mem_append.2 (.inl h2), h3⟩
    | none => exact .inr ⟨(j, e), by simp, by simp, hpost.new v hBv hv⟩
end
end Go.Proofs.YtfhinmdhjlmikaaGreatDoor
namespace Go.Proofs.YtfhinmdhjlmikaaGreatDoor
set_option linter.unusedSimpArgs false
set_option linter.unusedVariables false
set_option maxRecDepth 100000
open Go.RowKit
section
variable {P : Program} {ρ : Rho} {vt : List (TypeId × Nat)} {w0 : World} {nt : Nat} {ops : Array Oper} {Q : Exit → Act → World → Prop} {b : Nat → Option AV} {md : Region.Mode}
/-- What holds when all operations are done. -/
def StF (ρ : Rho) (vt : List (TypeId × Nat)) (w0 : World) (nt : Nat) (lk : Nat → Option AV) (nb : Nat) (r : Effs) (a : Act) (w : World) : Prop :=
  ∃ B, Inv vt w0 nt B a w ∧ (∀ x c, lk x = some c → LocH ρ B a w x c) ∧ (∀ v, B v ≠ none → v < nb ∨ ∃ p ∈ r, p.2.al = some v)
theorem StT.done {nb : Nat} {r : Effs} {T : List Nat} {a : Act} {w : World} (h : StT ρ vt w0 nt b nb r T a w) (hT : ∀ p ∈ r, p.1 ∈ T) : StF ρ vt w0 nt (lkE b r) nb r a w := by
  obtain ⟨B, h1, h2, h3⟩ := h
  rw [valT_all T r hT] at h2
  exact ⟨B, h1, h2, fun v hv => (h3 v hv).imp id (fun ⟨p, h, _, e⟩ => ⟨p, h, e⟩)⟩
theorem valT_nil (r : Effs) : valT b [] r = b := by
  induction r with
  | nil => rfl
  | cons p r ih => funext x; obtain ⟨i, e⟩ := p; simp [valT, ih]
theorem StT.start {nb : Nat} {r : Effs} {a : Act} {w : World} {B : Blk} (h1 : Inv vt w0 nt B a w) (h2 : ∀ x c, b x = some c → LocH ρ B a w x c) (h3 : ∀ v, B v ≠ none → v < nb) : StT ρ vt w0 nt b nb r [] a w :=
  ⟨B, h1, by rw [valT_nil]; exact h2, fun v hv => .inl (h3 v hv)⟩
theorem any_sound {nb : Nat} {r : Effs} (hg : Good P ρ vt w0 nt md ops Q b nb r) (hlen : r.length = ops.size) (hdown : ∀ j, j < ops.size → ∀ k ∈ preds md ops j, k < j) {a : Act} {w : World}
    (h : StT ρ vt w0 nt b nb r [] a w) (hQ : ∀ a' w', StF ρ vt w0 nt (lkE b r) nb r a' w' → Q .normal a' w') : wpAny P md ops Q ops.size (Array.replicate ops.size false) a w := by
  have main : ∀ (z : Nat) (T : List Nat) (a' : Act) (w' : World), T.Nodup → (∀ i ∈ T, i < ops.size) → T.length + z = ops.size → Closed md ops T → StT ρ vt w0 nt b nb r T a' w' →
      wpAny P md ops Q z (markAll T (Array.replicate ops.size false)) a' w' := by
    intro z
    induction z with
    | zero =>
      intro T a' w' hTn hT hl hcl hS
      have hall : ∀ i, i < ops.size → i ∈ T := by
        intro i hi
        apply Classical.byContradiction
        intro hni
        have h1 : (i :: T).length ≤ (List.range ops.size).length := len_le (List.nodup_cons.2 ⟨hni, hTn⟩) (fun k hk => by
          rcases List.mem_cons.1 hk with rfl | hk
          · exact List.mem_range.2 hi
          · exact List.mem_range.2 (hT k hk))
        simp at h1; omega
      refine ⟨?_, hQ _ _ (hS.done (fun p hp => hall _ (by have := hg.idx p hp; omega)))⟩
      apply List.eq_nil_iff_forall_not_mem.2
      intro j hj
      obtain ⟨hjs, hj0, _⟩ := ready_preds hj
      rw [markAll_get] at hj0
      simp [hall j hjs, hjs] at hj0
    | succ z ih =>
      intro T a' w' hTn hT hl hcl hS
      have hready : ∀ j ∈ Region.ready md ops (markAll T (Array.replicate ops.size false)), j < ops.size ∧ j ∉ T ∧ ∀ k ∈ preds md ops j, k ∈ T := by
        intro j hj
        obtain ⟨hjs, hj0, hjp⟩ := ready_preds hj
        have hjT : j ∉ T := by
          intro h
          rw [markAll_get] at hj0
          simp [h, hjs] at hj0
        refine ⟨hjs, hjT, fun k hk => ?_⟩
        have h1 := hjp k hk
        rw [markAll_get] at h1
        apply Classical.byContradiction
        intro hkT
        have hkD : k < ops.size := by have := hdown j hjs k hk; omega
        simp [hkT, hkD] at h1
      have hex : ∃ i, i < ops.size ∧ i ∉ T := by
        apply Classical.byContradiction
        intro hno
        have hall : ∀ i ∈ List.range ops.size, i ∈ T := fun i hi => Classical.byContradiction fun h => hno ⟨i, List.mem_range.1 hi, h⟩
        have := len_le List.nodup_range hall
        simp at this; omega
      have hsome : ∃ i ∈ Region.ready md ops (markAll T (Array.replicate ops.size false)), True := by
        have key : ∀ (m i : Nat), i ≤ m → i < ops.size → i ∉ T → ∃ i ∈ Region.ready md ops (markAll T (Array.replicate ops.size false)), True := by
          intro m
          induction m with
          | zero =>
            intro i him hi hiT
            refine ⟨i, mk_ready (by omega) (by rw [markAll_get]; simp [hiT, hi]) (fun k hk => ?_), trivial⟩
            have := hdown i (by omega) k hk
            omega
          | succ m ihm =>
            intro i him hi hiT
            by_cases hall : ∀ k ∈ preds md ops i, k ∈ T
            · refine ⟨i, mk_ready (by omega) (by rw [markAll_get]; simp [hiT, hi]) (fun k hk => ?_), trivial⟩
              have hkD := hT k (hall k hk)
              rw [markAll_get]; simp [hall k hk, hkD]
            · simp only [Classical.not_forall] at hall
              obtain ⟨k, hk, hkT⟩ := hall
              have hki := hdown i (by omega) k hk
              exact ihm k (by omega) (by omega) hkT
        obtain ⟨i, hi, hiT⟩ := hex
        exact key i i (Nat.le_refl _) hi hiT
      refine ⟨fun h => ?_, fun j hj => ?_⟩
      · obtain ⟨i, hi, _⟩ := hsome
        rw [h] at hi; cases hi
      · obtain ⟨hjD, hjT, hjp⟩ := hready j hj
        refine step_any hg (by omega) hcl hjT hjp hS (fun a'' w'' hS' => ?_)
        have e : (markAll T (Array.replicate ops.size false)).setIfInBounds j true = markAll (T ++ [j]) (Array.replicate ops.size false) := by unfold markAll; rw [List.foldl_append]; rfl
        rw [e]
        refine ih (T ++ [j]) a'' w'' ?_ ?_ ?_ ?_ hS'
        · exact List.nodup_append.2 ⟨hTn, by simp, by intro x hx y hy; simp at hy; subst hy; exact fun h => hjT (h ▸ hx)⟩
        · intro i hi
          rcases List.mem_append.1 hi with h | h
          · exact hT i h
          · simp at h; rw [h]; exact hjD
        · simp; omega
        · intro i hi k hk
          rcases List.mem_append.1 hi with h | h
          · exact List.mem_append.2 (.inl (hcl i h k hk))
          · simp at h; subst h; exact List.mem_append.2 (.inl (hjp k hk))
  exact main ops.size [] a w (by simp) (by simp) (by simp) (fun j hj => by cases hj) h
/-- A region that keeps the order of its text. -/
theorem text_sound {nb : Nat} {r : Effs} (hg : Good P ρ vt w0 nt md ops Q b nb r) (hlen : r.length = ops.size) (hdown : ∀ j, j < ops.size → ∀ k ∈ preds md ops j, k < j) {a : Act} {w : World}
    (h : StT ρ vt w0 nt b nb r [] a w) (hQ : ∀ a' w', StF ρ vt w0 nt (lkE b r) nb r a' w' → Q .normal a' w') : wpOps P ops Q (List.range ops.size) a w := by
  have main : ∀ (z j : Nat) (a' : Act) (w' : World), j + z = ops.size → StT ρ vt w0 nt b nb r (List.range j) a' w' → wpOps P ops Q (List.range' j z) a' w' := by
    intro z
    induction z with
    | zero =>
      intro j a' w' hj hS
      simp only [List.range'_zero, wpOps]
      exact hQ _ _ (hS.done (fun p hp => by have := hg.idx p hp; simp; omega))
    | succ z ih =>
      intro j a' w' hj hS
      rw [List.range'_succ, wpOps_cons]
      refine step_any (T := List.range j) hg (by omega) (fun i hi k hk => ?_) (by simp) (fun k hk => ?_) hS (fun a'' w'' hS' => ?_)
      · have h1 := List.mem_range.1 hi
        have := hdown i (by omega) k hk
        exact List.mem_range.2 (by omega)
      · exact List.mem_range.2 (hdown j (by omega) k hk)
      · rw [← List.range_succ] at hS'
        exact ih (j + 1) a'' w'' (by omega) hS'
  have := main ops.size 0 a w (by simp) (by simpa using h)
  rwa [← List.range_eq_range'] at this
end
end Go.Proofs.YtfhinmdhjlmikaaGreatDoor
namespace Go.Proofs.YtfhinmdhjlmikaaGreatDoor
set_option linter.unusedSimpArgs false
set_option linter.unusedVariables false
set_option maxRecDepth 100000
open Go.RowKit
inductive Key where
  | bin (op : BinOp) (t : TypeId)
  | un (op : UnOp)
  | conv (s d : TypeId)
  | len (t : TypeId)
  | idx (t : TypeId)
  | ia (t : TypeId)
  | ld (t : TypeId)
  | sl (t : TypeId) (lo hi : Bool)
  deriving DecidableEq
/-- What an operation on unknown values gives: asked of whoever uses it. -/
structure OIns where
  key : Key
  xs : List SV
  r : SV
def locC (v k : Nat) : Nat := (v + 1) * 100000 + k
def aggD : TypeDesc → Bool
  | .struct _ => true
  | .array .. => true
  | _ => false
def aggB (p : Program) (t : TypeId) : Option Bool := (p.underlying t).map aggD
def szB (p : Program) (t : TypeId) : Option Nat := (p.info? t).map (·.size)
def evA (lk : Nat → Option AV) : Operand → Option AV
  | .tmp t => if t < 100000 then lk t else none
  | .const v => (svC v).map .v
  | .func f => some (.v (.one (.fn f)))
  | .global _ => none
def evS (lk : Nat → Option AV) (x : Operand) : Option SV := match evA lk x with | some (.v s) => some s | _ => none
def evL (lk : Nat → Option AV) (x : Operand) : Option Leaf := match evS lk x with | some (.one l) => some l | _ => none
def rdO : Operand → List Nat
  | .tmp t => [t]
  | _ => []
def cellsA (lk : Nat → Option AV) (v : Nat) : Nat → Nat → Option (List Leaf)
  | _, 0 => some []
  | k, n + 1 => match lk (locC v k) with
    | some (.v (.one l)) => (cellsA lk v (k + 1) n).map (l :: ·)
    | _ => none
def locsC (v k n : Nat) : List Nat := (List.range n).map fun j => locC v (k + j)
def SV.leaves : SV → List Leaf
  | .one l => [l]
  | .agg ls => ls
def setR {α : Type} (ls : List α) (off : Nat) : List α → List α
  | [] => ls
  | v :: vs => setR (ls.set off v) (off + 1) vs
def fillA (place : Nat → Option (Nat × Nat)) (ls : List Leaf) : List (Nat × SV) → Option (List Leaf)
  | [] => some ls
  | (i, s) :: rest => match place i with
    | none => none
    | some (off, size) => if s.leaves.length = size ∧ off + s.leaves.length ≤ ls.length then fillA place (setR ls off s.leaves) rest else none
def evParts (lk : Nat → Option AV) : List (Nat × Operand) → Option (List (Nat × SV))
  | [] => some []
  | (i, x) :: r => match evS lk x, evParts lk r with
    | some s, some l => some ((i, s) :: l)
    | _, _ => none
def zeroL (p : Program) (t : TypeId) : Option (List Leaf) := match (p.info? t).bind (·.zero) with | some z => leavesC z.cells.toList | none => none
def placeS (p : Program) (fs : Array Field) (i : Nat) : Option (Nat × Nat) := match fs[i]? with | some f => (szB p f.type).map fun n => (f.offset, n) | none => none
def partA (p : Program) (t : TypeId) (ls : List Leaf) (off : Nat) : Option SV :=
  match aggB p t with
  | some true => match szB p t with
    | some n => if off + n ≤ ls.length then some (.agg ((ls.drop off).take n)) else none
    | none => none
  | some false => (ls[off]?).map .one
  | none => none
def isBoolB (p : Program) (t : TypeId) : Bool := match p.underlying t with | some .bool => true | _ => false
def litBin (bt : Bool) (op : BinOp) (x y : Leaf) : Option Leaf :=
  match x, y with
  | .b a, .b c => if bt then match op with | .eql => some (.b (a == c)) | .neq => some (.b (!(a == c))) | _ => none else none
  | .i k a, .i k' c => if k = k' then match op with
      | .eql => some (.b (decide (a = c))) | .neq => some (.b (!decide (a = c))) | .lss => some (.b (decide (a < c))) | .leq => some (.b (decide (a ≤ c))) | .gtr => some (.b (decide (c < a))) | .geq => some (.b (decide (c ≤ a)))
      | .add => some (.i k (k.wrap (a + c))) | .sub => some (.i k (k.wrap (a - c))) | .mul => some (.i k (k.wrap (a * c)))
      | _ => none else none
  | _, _ => none
def findO (L : List OIns) (k : Key) (xs : List SV) : Option SV := match L.find? (fun o => decide (o.key = k) && decide (o.xs = xs)) with | some o => some o.r | none => none
def idxI (x : Leaf) : Option Nat := match x with | .i _ n => if 0 ≤ n then some n.toNat else none | _ => none
/-- The value of an operation, and the cells that it reads. -/
def pureV (p : Program) (L : List OIns) (lk : Nat → Option AV) (op : Op) : Option (AV × List Nat) :=
  match op with
  | .move x => (evA lk x).map (·, [])
  | .assign x => (evA lk x).map (·, [])
  | .pick c x y => match evL lk c with
    | some (.b true) => (evA lk x).map (·, [])
    | some (.b false) => (evA lk y).map (·, [])
    | _ => none
  | .extract x k => match evA lk x with
    | some (.tup xs) => (xs[k]?).map fun s => (.v s, [])
    | _ => none
  | .load t x => match evL lk x with
    | some (.ptr v o) => match aggB p t with
      | some true => match szB p t with
        | some n => if o + n ≤ 100000 ∧ 0 < n then (cellsA lk v o n).map fun ls => (.v (.agg ls), locsC v o n) else none
        | none => none
      | some false => if o + 1 ≤ 100000 then match cellsA lk v o 1 with
        | some [l] => some (.v (.one l), locsC v o 1)
        | _ => none else none
      | none => none
    | _ => none
  | .fieldAddr s x f => match evL lk x, p.underlying s with
    | some (.ptr v o), some (.struct fs) => match fs[f]? with
      | some fd => match szB p fd.type with
        | some (_ + 1) => some (.v (.one (.ptr v (o + fd.offset))), [])
        | _ => none
      | none => none
    | _, _ => none
  | .indexAddr t x ix => match evL lk x, p.underlying t, evL lk ix with
    | some (.ptr v o), some (.array len e), some l => match idxI l, szB p e with
      | some i, some n => if i < len then some (.v (.one (.ptr v (o + i * n))), []) else none
      | _, _ => none
    | _, _, _ => none
  | .build t parts => match zeroL p t, evParts lk parts.toList, p.underlying t with
    | some z, some ps, some (.struct fs) => if fs.all (fun f => (szB p f.type).isSome) then (fillA (placeS p fs) z ps).map fun ls => (.v (.agg ls), []) else none
    | some z, some ps, some (.array _ e) => match szB p e with
      | some n => (fillA (fun i => some (i * n, n)) z ps).map fun ls => (.v (.agg ls), [])
      | none => none
    | _, _, _ => none
  | .field t x f => match evS lk x, p.underlying t with
    | some (.agg ls), some (.struct fs) => match fs[f]? with
      | some fd => (partA p fd.type ls fd.offset).map fun s => (.v s, [])
      | none => none
    | _, _ => none
  | .index t x ix => match evS lk x, p.underlying t, evL lk ix with
    | some (.agg ls), some (.array len e), some l => match idxI l, szB p e with
      | some i, some n => if i < len then (partA p e ls (i * n)).map fun s => (.v s, []) else none
      | _, _ => none
    | _, _, _ => none
  | .binOp op t x y _ => match evS lk x, evS lk y with
    | some (.one a), some (.one c) => match litBin (isBoolB p t) op a c with
      | some l => some (.v (.one l), [])
      | none => (findO L (.bin op t) [.one a, .one c]).map fun s => (.v s, [])
    | some a, some c => (findO L (.bin op t) [a, c]).map fun s => (.v s, [])
    | _, _ => none
  | .unOp .not _ x => match evL lk x with
    | some (.b c) => some (.v (.one (.b (!c))), [])
    | some l => (findO L (.un .not) [.one l]).map fun s => (.v s, [])
    | none => none
  | .unOp op _ x => match evS lk x with
    | some s => (findO L (.un op) [s]).map fun s => (.v s, [])
    | none => none
  | .convert s d x => match evL lk x, p.underlying s, p.underlying d with
    | some (.i _ n), some (.int _), some (.int k) => some (.v (.one (.i k (k.wrap n))), [])
    | some l, _, _ => (findO L (.conv s d) [.one l]).map fun s => (.v s, [])
    | none, _, _ => (match evS lk x with | some a => (findO L (.conv s d) [a]).map fun s => (.v s, []) | none => none)
  | .call c => match c.callee, c.args.toList, c.argTypes[0]? with
    | .builtin .len, [x], some t => match evS lk x with
      | some a => (findO L (.len t) [a]).map fun s => (.v s, [])
      | none => none
    | _, _, _ => none
  | _ => none
/-- Operations whose answer is asked of whoever uses them. -/
def genO : Op → Option (Key × List Operand)
  | .index t x i => some (.idx t, [x, i])
  | .indexAddr t x i => some (.ia t, [x, i])
  | .load t x => some (.ld t, [x])
  | .slice t x none none none => some (.sl t false false, [x])
  | .slice t x (some l) none none => some (.sl t true false, [x, l])
  | .slice t x none (some h) none => some (.sl t false true, [x, h])
  | .slice t x (some l) (some h) none => some (.sl t true true, [x, l, h])
  | _ => none
def svsA (lk : Nat → Option AV) : List Operand → Option (List SV)
  | [] => some []
  | x :: xs => match evS lk x, svsA lk xs with
    | some s, some l => some (s :: l)
    | _, _ => none
def nilO (lk : Nat → Option AV) : Op → Option AV
  | .nilCheck x => match evL lk x with
    | some (.ptr v o) => some (.v (.one (.ptr v o)))
    | _ => none
  | _ => none
/-- Reckoned, or asked. -/
def pureA (p : Program) (L : List OIns) (lk : Nat → Option AV) (op : Op) : Option (AV × List Nat) :=
  match pureV p L lk op with
  | some r => some r
  | none => match nilO lk op with
    | some c => some (c, [])
    | none => match genO op with
      | some (k, xs) => match svsA lk xs with
        | some ss => (findO L k ss).map fun s => (.v s, [])
        | none => none
      | none => none
/-- What is asked of such an answer. -/
def OIns.Ok (p : Program) (ρ : Rho) (i : OIns) : Prop := ∀ (B : Blk) (w : World) (vs : List Value), SVsH ρ B w i.xs vs →
  match i.key, vs with
  | .bin op t, [x, y] => ∃ v, i.r.holds ρ B w v ∧ ∀ xo yo, ((do eqGuard op t xo yo x y; binOp op t x y : Sem Value)).run p w = .ok v w
  | .un op, [x] => ∃ v, i.r.holds ρ B w v ∧ (Op.unary op x).run p w = .ok v w
  | .conv s d, [x] => ∃ v, i.r.holds ρ B w v ∧ (convert s d x).run p w = .ok v w
  | .len t, [x] => ∃ v, i.r.holds ρ B w v ∧ ∀ (ts : Array TypeId) ty, ts[0]? = some t → (Builtin.len_ ts ty #[x]).run p w = .ok v w
  | .idx t, [x, y] => ∃ v, i.r.holds ρ B w v ∧ (Instr.index t x y).run p w = .ok v w
  | .ia t, [x, y] => ∃ v, i.r.holds ρ B w v ∧ (Instr.indexAt t x y).run p w = .ok v w
  | .ld t, [x] => ∃ v, i.r.holds ρ B w v ∧ (Instr.loadAt t x).run p w = .ok v w
  | .sl t false false, [x] => ∃ v, i.r.holds ρ B w v ∧ (Instr.sliceAt t x none none none).run p w = .ok v w
  | .sl t true false, [x, y] => ∃ v, i.r.holds ρ B w v ∧ (Instr.sliceAt t x (some y) none none).run p w = .ok v w
  | .sl t false true, [x, y] => ∃ v, i.r.holds ρ B w v ∧ (Instr.sliceAt t x none (some y) none).run p w = .ok v w
  | .sl t true true, [x, y, z] => ∃ v, i.r.holds ρ B w v ∧ (Instr.sliceAt t x (some y) (some z) none).run p w = .ok v w
  | _, _ => True
section
variable {ρ : Rho} {L : List OIns} {B : Blk} {a : Act} {w : World} {lk : Nat → Option AV} {x : Operand}
theorem evA_holds {c : AV} (h : ∀ y ∈ rdO x, ∀ c, lk y = some c → LocH ρ B a w y c) (e : evA lk x = some c) : c.holds ρ B w (a.eval x) := by
  cases x with
  | tmp t =>
    simp only [evA] at e
    split at e
    · rename_i ht
      obtain ⟨u, h1, h2⟩ := (by have := h t (by simp [rdO]) c e; unfold LocH at this; rwa [if_pos ht] at this : ∃ u, a.tmps[t]? = some u ∧ c.holds ρ B w u)
      have : a.eval (.tmp t) = u := by simp only [Act.eval, Array.getD_eq_getD_getElem?, h1, Option.getD_some]
      rw [this]; exact h2
    · cases e
  | const v =>
    simp only [evA] at e
    cases h1 : svC v with
    | none => rw [h1] at e; cases e
    | some s => rw [h1] at e; simp at e; subst e; exact svC_holds h1
  | func f => simp only [evA, Option.some.injEq] at e; subst e; rfl
  | global g => simp [evA] at e
theorem evS_holds {s : SV} (h : ∀ y ∈ rdO x, ∀ c, lk y = some c → LocH ρ B a w y c) (e : evS lk x = some s) : s.holds ρ B w (a.eval x) := by
  unfold evS at e
  split at e
  · rename_i s' h1
    injection e with e; subst e
    exact evA_holds h h1
  · cases e
theorem evL_holds {l : Leaf} (h : ∀ y ∈ rdO x, ∀ c, lk y = some c → LocH ρ B a w y c) (e : evL lk x = some l) : l.holds ρ B w (a.eval x) := by
  unfold evL at e
  split at e
  · rename_i s' h1
    injection e with e; subst e
    exact evS_holds h h1
  · cases e
end
end Go.Proofs.YtfhinmdhjlmikaaGreatDoor
namespace Go.Proofs.YtfhinmdhjlmikaaGreatDoor
set_option linter.unusedSimpArgs false
set_option linter.unusedVariables false
set_option maxRecDepth 100000
open Go.RowKit
section
variable {p : Program} {ρ : Rho} {B : Blk} {a : Act} {w : World} {t : TypeId}
theorem run_underlying {d : TypeDesc} (h : p.underlying t = some d) : (underlying t).run p w = .ok d w := by
  simp [underlying, program, Sem.run_bind, Sem.run, h, Result.andThen]
theorem run_info {i : TypeInfo} (h : p.info? t = some i) : (typeInfo t).run p w = .ok i w := by
  simp [typeInfo, program, Sem.run_bind, Sem.run, h, Result.andThen]
theorem run_size {n : Nat} (h : szB p t = some n) : (sizeOf t).run p w = .ok n w := by
  unfold szB at h
  cases hi : p.info? t with
  | none => rw [hi] at h; cases h
  | some i => rw [hi] at h; simp at h; subst h; simp [sizeOf, Sem.run_bind, run_info hi, Result.andThen]
theorem run_agg {b : Bool} (h : aggB p t = some b) : (isAgg t).run p w = .ok b w := by
  unfold aggB at h
  cases hi : p.underlying t with
  | none => rw [hi] at h; cases h
  | some d =>
    rw [hi] at h; simp at h; subst h
    unfold isAgg
    rw [Sem.run_bind, run_underlying hi]
    cases d <;> rfl
theorem run_zeroV {z : Value} (h : (p.info? t).bind (·.zero) = some z) : (zeroValue t).run p w = .ok z w := by
  cases hi : p.info? t with
  | none => rw [hi] at h; cases h
  | some i => rw [hi] at h; simp at h; simp [zeroValue, Sem.run_bind, run_info hi, Result.andThen, h]
theorem run_loadc {ad : Addr} {v : Value} (h : w.cell? ad = some v) : (Go.load ad).run p w = .ok v w := by
  simp [Go.load, Sem.run, h]
theorem add_off (g o k : Nat) : (⟨g, o, none⟩ : Addr).add k = ⟨g, o + k, none⟩ := by
  unfold Addr.add
  split
  · subst_vars; rfl
  · rfl
theorem cell_at {g o : Nat} {cs : Array Value} {ty : TypeId} {fz : Nat × Nat} (h : w.heap[g]? = some (.cells cs ty fz)) : w.cell? ⟨g, o, none⟩ = cs[o]? := by
  simp [World.cell?, h]
theorem run_loadFrom {g o : Nat} {cs : Array Value} {ty : TypeId} (h : w.heap[g]? = some (.cells cs ty (0, 0))) : ∀ (vs : List Value) (i : Nat) (acc : Array Value),
    (∀ k v, vs[k]? = some v → cs[o + (i + k)]? = some v) → (loadCellsFrom ⟨g, o, none⟩ i vs.length acc).run p w = .ok (acc ++ vs.toArray) w
  | [], i, acc, _ => by simp [loadCellsFrom]
  | v :: vs, i, acc, hv => by
    have h1 := hv 0 v rfl
    rw [Nat.add_zero] at h1
    have h2 := run_loadFrom h vs (i + 1) (acc.push v) (fun k u hu => by
      have := hv (k + 1) u (by simpa using hu)
      rwa [show i + (k + 1) = i + 1 + k from by omega] at this)
    simp only [List.length_cons, loadCellsFrom]
    rw [Sem.run_bind, add_off, run_loadc (by rw [cell_at h]; exact h1)]
    simp only [Result.andThen]
    rw [h2]
    simp
theorem locH_cell {v k : Nat} {c : AV} (hk : k < 100000) : LocH ρ B a w (locC v k) c ↔ ∃ g cs ty u, B v = some g ∧ w.heap[g]? = some (.cells cs ty (0, 0)) ∧ cs[k]? = some u ∧ c.holds ρ B w u := by
  unfold LocH locC
  rw [if_neg (by omega), show ((v + 1) * 100000 + k) / 100000 - 1 = v from by omega, show ((v + 1) * 100000 + k) % 100000 = k from by omega]
theorem cellsA_holds {lk : Nat → Option AV} {v : Nat} : ∀ {n k : Nat} {ls : List Leaf}, cellsA lk v k n = some ls → k + n ≤ 100000 → (∀ x ∈ locsC v k n, ∀ c, lk x = some c → LocH ρ B a w x c) →
    ls.length = n ∧ (0 < n → ∃ g cs ty, B v = some g ∧ w.heap[g]? = some (.cells cs ty (0, 0)) ∧ ∃ vs : List Value, LeavesH ρ B w ls vs ∧ ∀ j u, vs[j]? = some u → cs[k + j]? = some u)
  | 0, k, ls, h, _, _ => by simp [cellsA] at h; subst h; exact ⟨rfl, fun h => by omega⟩
  | n + 1, k, ls, h, hk, hx => by
    simp only [cellsA] at h
    split at h
    · rename_i l hl
      cases hr : cellsA lk v (k + 1) n with
      | none => rw [hr] at h; cases h
      | some r =>
        rw [hr] at h; simp at h; subst h
        have h0 := hx (locC v k) (by unfold locsC; simp only [List.mem_map, List.mem_range]; exact ⟨0, by omega, by simp⟩) _ hl
        rw [locH_cell (by omega)] at h0
        obtain ⟨g, cs, ty, u, e1, e2, e3, e4⟩ := h0
        obtain ⟨hlen, hrest⟩ := cellsA_holds hr (by omega) (fun x hx' c hc => hx x (by
          unfold locsC at hx' ⊢
          simp only [List.mem_map, List.mem_range] at hx' ⊢
          obtain ⟨j, hj, rfl⟩ := hx'
          exact ⟨j + 1, by omega, by congr 1; omega⟩) c hc)
        refine ⟨by simp [hlen], fun _ => ⟨g, cs, ty, e1, e2, ?_⟩⟩
        by_cases hn : n = 0
        · subst hn
          have : r = [] := List.eq_nil_of_length_eq_zero hlen
          subst this
          exact ⟨[u], ⟨e4, trivial⟩, fun j x hj => by
            match j with
            | 0 => simp at hj; subst hj; simpa using e3
            | j + 1 => simp at hj⟩
        · obtain ⟨g', cs', ty', f1, f2, vs, f3, f4⟩ := hrest (by omega)
          rw [e1] at f1; injection f1 with f1; subst f1
          rw [e2] at f2; injection f2 with f2; injection f2 with f2 f2' ; subst f2
          exact ⟨u :: vs, ⟨e4, f3⟩, fun j x hj => by
            match j with
            | 0 => simp at hj; subst hj; simpa using e3
            | j + 1 =>
              have := f4 j x (by simpa using hj)
              rwa [show k + 1 + j = k + (j + 1) from by omega] at this⟩
    · cases h
theorem LeavesH.one {l : Leaf} {vs : List Value} (h : LeavesH ρ B w [l] vs) : ∃ v, vs = [v] ∧ l.holds ρ B w v := by
  match vs, h with
  | [v], h => exact ⟨v, rfl, h.1⟩
theorem LeavesH.set : ∀ {ls : List Leaf} {vs : List Value} {k : Nat} {l : Leaf} {v : Value}, LeavesH ρ B w ls vs → l.holds ρ B w v → LeavesH ρ B w (ls.set k l) (vs.set k v)
  | [], [], _, _, _, _, _ => by simp [LeavesH]
  | _ :: _, _ :: _, 0, _, _, h, k => ⟨k, h.2⟩
  | _ :: _, _ :: _, n + 1, _, _, h, k => ⟨h.1, LeavesH.set h.2 k⟩
  | [], _ :: _, _, _, _, h, _ => h.elim
  | _ :: _, [], _, _, _, h, _ => h.elim
theorem LeavesH.setRng : ∀ {ns : List Leaf} {us : List Value} {ls : List Leaf} {vs : List Value} {k : Nat}, LeavesH ρ B w ns us → LeavesH ρ B w ls vs → LeavesH ρ B w (setR ls k ns) (setR vs k us)
  | [], [], _, _, _, _, h => h
  | _ :: _, _ :: _, _, _, _, k, h => by unfold setR; exact LeavesH.setRng k.2 (h.set k.1)
  | [], _ :: _, _, _, _, h, _ => h.elim
  | _ :: _, [], _, _, _, h, _ => h.elim
theorem SV.holds.cells {s : SV} {v : Value} (h : s.holds ρ B w v) : LeavesH ρ B w s.leaves v.cells.toList := by
  cases s with
  | agg ls => obtain ⟨vs, rfl, h⟩ := h; simpa [Value.cells, SV.leaves] using h
  | one l =>
    have hc : v.cells = #[v] := by
      cases l <;> simp only [SV.holds, Leaf.holds] at h
      · subst h; rfl
      · subst h; rfl
      · obtain ⟨g, _, rfl⟩ := h; rfl
      · subst h; rfl
      · obtain ⟨s, _, h⟩ := h
        have := (s.fl _ _ h).1
        cases v <;> first | rfl | exact absurd rfl (this _)
      · subst h; rfl
      · subst h; rfl
      · subst h; rfl
    rw [hc]
    exact ⟨h, trivial⟩
theorem foldl_zip {cs : Array Value} : ∀ (vs : List Value) (n off : Nat) (cs : Array Value), ((vs.zipIdx n).foldl (fun (cs : Array Value) (x : Value × Nat) => cs.setIfInBounds (off + x.2) x.1) cs).toList = setR cs.toList (off + n) vs
  | [], _, _, _ => rfl
  | v :: vs, n, off, cs => by
    simp only [List.zipIdx_cons, List.foldl_cons]
    rw [foldl_zip (cs := cs) vs (n + 1) off]
    simp [setR, Nat.add_assoc]
theorem fill_holds {place : Nat → Option (Nat × Nat)} : ∀ {ps : List (Nat × SV)} {us : List (Nat × Value)} {z z' : List Leaf} {cells : Array Value}, fillA place z ps = some z' →
    us.map (·.1) = ps.map (·.1) → SVsH ρ B w (ps.map (·.2)) (us.map (·.2)) → LeavesH ρ B w z cells.toList → ∃ out : Array Value, Instr.fill place cells us = some out ∧ LeavesH ρ B w z' out.toList
  | [], [], z, z', cells, h, _, _, hz => by simp [fillA] at h; subst h; exact ⟨cells, rfl, hz⟩
  | (i, s) :: ps, (j, u) :: us, z, z', cells, h, he, hs, hz => by
    simp only [List.map_cons, List.cons.injEq] at he
    obtain ⟨rfl, he⟩ := he
    simp only [fillA] at h
    unfold Instr.fill
    cases hp : place j with
    | none => rw [hp] at h; cases h
    | some x =>
      obtain ⟨off, size⟩ := x
      rw [hp] at h
      simp only at h ⊢
      split at h
      · rename_i hc
        have hcl := hs.1.cells
        have h1 := hcl.len
        have h2 := hz.len
        simp only [Array.length_toList] at h1 h2
        rw [if_neg (by
          simp only [ne_eq, Bool.or_eq_true, decide_eq_true_eq, not_or, Classical.not_not, Nat.not_lt]
          have := hc.1
          have := hc.2
          omega)]
        refine fill_holds h he hs.2 ?_
        have := foldl_zip (cs := cells) u.cells.toList 0 off cells
        rw [Nat.add_zero] at this
        rw [← Array.toList_zipIdx] at this
        simp only [Array.foldl_toList] at this
        rw [this]
        exact LeavesH.setRng hcl hz
      · cases h
  | [], _ :: _, _, _, _, _, he, _, _ => by simp at he
  | _ :: _, [], _, _, _, _, he, _, _ => by simp at he
end
end Go.Proofs.YtfhinmdhjlmikaaGreatDoor
namespace Go.Proofs.YtfhinmdhjlmikaaGreatDoor
set_option linter.unusedSimpArgs false
set_option linter.unusedVariables false
set_option maxRecDepth 100000
open Go.RowKit
section
variable {p : Program} {ρ : Rho} {B : Blk} {a : Act} {w : World} {L : List OIns} {lk : Nat → Option AV} {c : AV} {rd : List Nat} {o : Oper}
/-- What is known of the operands. -/
def KnowsO (ρ : Rho) (B : Blk) (a : Act) (w : World) (lk : Nat → Option AV) (x : Operand) : Prop := ∀ y ∈ rdO x, ∀ c, lk y = some c → LocH ρ B a w y c
def Makes (p : Program) (ρ : Rho) (B : Blk) (a : Act) (w : World) (o : Oper) (c : AV) : Prop := ∃ u, (execOp a.eval o).run p w = .ok (.value u) w ∧ c.holds ρ B w u
theorem evA_k {x : Operand} {c : AV} (h : KnowsO ρ B a w lk x) (e : evA lk x = some c) : c.holds ρ B w (a.eval x) := evA_holds h e
theorem evS_k {x : Operand} {c : SV} (h : KnowsO ρ B a w lk x) (e : evS lk x = some c) : c.holds ρ B w (a.eval x) := evS_holds h e
theorem evL_k {x : Operand} {c : Leaf} (h : KnowsO ρ B a w lk x) (e : evL lk x = some c) : c.holds ρ B w (a.eval x) := evL_holds h e
theorem makes_move {x : Operand} (ho : o.op = .move x ∨ o.op = .assign x) (h : (evA lk x).map (·, ([] : List Nat)) = some (c, rd)) (H : KnowsO ρ B a w lk x) : Makes p ρ B a w o c := by
  cases e : evA lk x with
  | none => rw [e] at h; cases h
  | some d =>
    rw [e] at h; simp at h; obtain ⟨rfl, _⟩ := h
    refine ⟨a.eval x, ?_, evA_k H e⟩
    rcases ho with ho | ho <;> (unfold execOp; rw [ho]; rfl)
theorem makes_pick {k x y : Operand} (ho : o.op = .pick k x y) (h : pureV p L lk (.pick k x y) = some (c, rd)) (Hk : KnowsO ρ B a w lk k) (Hx : KnowsO ρ B a w lk x) (Hy : KnowsO ρ B a w lk y) : Makes p ρ B a w o c := by
  simp only [pureV] at h
  split at h
  · rename_i e0
    have e1 : a.eval k = .bool true := evL_k Hk e0
    cases e : evA lk x with
    | none => rw [e] at h; cases h
    | some d =>
      rw [e] at h; simp at h; obtain ⟨rfl, _⟩ := h
      exact ⟨a.eval x, by unfold execOp; rw [ho]; simp only [e1]; rfl, evA_k Hx e⟩
  · rename_i e0
    have e1 : a.eval k = .bool false := evL_k Hk e0
    cases e : evA lk y with
    | none => rw [e] at h; cases h
    | some d =>
      rw [e] at h; simp at h; obtain ⟨rfl, _⟩ := h
      exact ⟨a.eval y, by unfold execOp; rw [ho]; simp only [e1]; rfl, evA_k Hy e⟩
  · cases h
theorem makes_extract {x : Operand} {k : Nat} (ho : o.op = .extract x k) (h : pureV p L lk (.extract x k) = some (c, rd)) (H : KnowsO ρ B a w lk x) : Makes p ρ B a w o c := by
  simp only [pureV] at h
  split at h
  · rename_i xs e
    obtain ⟨vs, e1, e2⟩ := (evA_k H e : AV.holds ρ B w (.tup xs) (a.eval x))
    cases e3 : xs[k]? with
    | none => rw [e3] at h; cases h
    | some s =>
      rw [e3] at h; simp at h; obtain ⟨rfl, _⟩ := h
      obtain ⟨v, h1, h2⟩ := e2.get e3
      refine ⟨v, ?_, h2⟩
      unfold execOp; rw [ho]
      simp [e1, Instr.extract, h1, Sem.run_bind, Result.andThen]
  · cases h
/-- A variable is read. -/
theorem load_var {t : TypeId} {x : Operand} (h : pureV p L lk (.load t x) = some (c, rd)) (H : KnowsO ρ B a w lk x) (H2 : ∀ y ∈ rd, ∀ c, lk y = some c → LocH ρ B a w y c) :
    ∃ ad u, a.eval x = .pointer (some ad) ∧ (loadVar t ad).run p w = .ok u w ∧ c.holds ρ B w u := by
  simp only [pureV] at h
  split at h
  · rename_i v off e
    obtain ⟨g, hg, e1⟩ := (evL_k H e : Leaf.holds ρ B w (.ptr v off) (a.eval x))
    refine ⟨⟨g, off, none⟩, ?_⟩
    split at h
    · rename_i hagg
      split at h
      · rename_i n hn
        split at h
        · rename_i hle
          cases e3 : cellsA lk v off n with
          | none => rw [e3] at h; cases h
          | some ls =>
            rw [e3] at h; simp at h; obtain ⟨rfl, rfl⟩ := h
            obtain ⟨hlen, hrest⟩ := cellsA_holds (a := a) e3 hle.1 H2
            obtain ⟨g', cs, ty, f1, f2, vs, f3, f4⟩ := hrest hle.2
            rw [hg] at f1; injection f1 with f1; subst f1
            refine ⟨.agg vs.toArray, e1, ?_, vs, rfl, f3⟩
            have hl : vs.length = n := by rw [f3.len, hlen]
            have := run_loadFrom (p := p) (o := off) f2 vs 0 #[] (fun k u hu => by rw [Nat.zero_add]; exact f4 k u hu)
            rw [hl] at this
            simp [loadVar, loadCells, Sem.run_bind, run_agg hagg, run_size hn, this, Result.andThen]
        · cases h
      · cases h
    · rename_i hagg
      split at h
      · rename_i hle
        split at h
        · rename_i l e3
          simp at h; obtain ⟨rfl, rfl⟩ := h
          obtain ⟨hlen, hrest⟩ := cellsA_holds (a := a) e3 hle H2
          obtain ⟨g', cs, ty, f1, f2, vs, f3, f4⟩ := hrest (by decide)
          rw [hg] at f1; injection f1 with f1; subst f1
          obtain ⟨u, rfl, hu⟩ := f3.one
          refine ⟨u, e1, ?_, hu⟩
          have := run_loadc (p := p) (ad := ⟨g, off, none⟩) (v := u) (by rw [cell_at f2]; exact f4 0 u rfl)
          simp [loadVar, Sem.run_bind, run_agg hagg, this, Result.andThen]
        · cases h
      · cases h
    · cases h
  · cases h
theorem makes_load {t : TypeId} {x : Operand} (ho : o.op = .load t x) (h : pureV p L lk (.load t x) = some (c, rd)) (H : KnowsO ρ B a w lk x) (H2 : ∀ y ∈ rd, ∀ c, lk y = some c → LocH ρ B a w y c) : Makes p ρ B a w o c := by
  obtain ⟨ad, u, e1, e2, e3⟩ := load_var h H H2
  refine ⟨u, ?_, e3⟩
  unfold execOp; rw [ho]
  simp [e1, Instr.loadAt, Instr.sureAddr, Sem.run_bind, e2, Result.andThen]
theorem makes_fieldAddr {t : TypeId} {x : Operand} {f : Nat} (ho : o.op = .fieldAddr t x f) (h : pureV p L lk (.fieldAddr t x f) = some (c, rd)) (H : KnowsO ρ B a w lk x) : Makes p ρ B a w o c := by
  simp only [pureV] at h
  split at h
  · rename_i v off fs e hu
    obtain ⟨g, hg, e1⟩ := (evL_k H e : Leaf.holds ρ B w (.ptr v off) (a.eval x))
    split at h
    · rename_i fd hf
      split at h
      · rename_i n hn
        simp at h; obtain ⟨rfl, rfl⟩ := h
        refine ⟨_, ?_, g, hg, rfl⟩
        unfold execOp; rw [ho]
        simp [e1, Instr.fieldAt, Instr.sureAddr, fieldPlace, Sem.run_bind, run_underlying hu, hf, run_size hn, Result.andThen, add_off]
      · cases h
    · cases h
  · cases h
theorem idxI_holds {l : Leaf} {i : Nat} {v : Value} (h : idxI l = some i) (hl : l.holds ρ B w v) : ∃ k, v = .int k (i : Int) := by
  unfold idxI at h
  split at h
  · rename_i k n
    split at h
    · rename_i hn
      simp at h; subst h
      exact ⟨k, by rw [show v = .int k n from hl, Int.toNat_of_nonneg hn]⟩
    · cases h
  · cases h
theorem makes_indexAddr {t : TypeId} {x ix : Operand} (ho : o.op = .indexAddr t x ix) (h : pureV p L lk (.indexAddr t x ix) = some (c, rd)) (H : KnowsO ρ B a w lk x) (Hi : KnowsO ρ B a w lk ix) : Makes p ρ B a w o c := by
  simp only [pureV] at h
  split at h
  · rename_i v off len e l h1 hu h3
    obtain ⟨g, hg, e1⟩ := (evL_k H h1 : Leaf.holds ρ B w (.ptr v off) (a.eval x))
    split at h
    · rename_i i n hi hn
      obtain ⟨k, e2⟩ := idxI_holds hi (evL_k Hi h3)
      split at h
      · rename_i hlt
        simp at h; obtain ⟨rfl, rfl⟩ := h
        refine ⟨_, ?_, g, hg, rfl⟩
        unfold execOp; rw [ho]
        simp [e1, e2, Instr.indexAt, Instr.sureAddr, asIntOf, Sem.run_bind, run_underlying hu, run_size hn, Result.andThen, add_off, hlt]
      · cases h
    · cases h
  · cases h
theorem part_holds {t : TypeId} {ls : List Leaf} {off : Nat} {s : SV} {cs : Array Value} (h : partA p t ls off = some s) (hc : LeavesH ρ B w ls cs.toList) : ∃ v, (part t cs off).run p w = .ok v w ∧ s.holds ρ B w v := by
  unfold partA at h
  split at h
  · rename_i hagg
    split at h
    · rename_i n hn
      split at h
      · rename_i hle
        simp at h; subst h
        refine ⟨.agg (cs.extract off (off + n)), by unfold part; rw [Sem.run_bind, run_agg hagg]; simp only [Result.andThen, if_true, Sem.run_bind, run_size hn, Sem.run_pure], (cs.extract off (off + n)).toList, by rw [Array.toArray_toList], ?_⟩
        have hlen := hc.len
        refine LeavesH.mk ?_ (fun k l v hk hv => ?_)
        · simp only [Array.length_toList, Array.size_extract, List.length_take, List.length_drop] at hlen ⊢; omega
        · have hkn : k < n := by
            rw [List.getElem?_take] at hk
            by_cases h : k < n
            · exact h
            · rw [if_neg h] at hk; cases hk
          rw [List.getElem?_take, if_pos hkn, List.getElem?_drop] at hk
          obtain ⟨u, h1, h2⟩ := hc.get hk
          have : v = u := by
            have hv' : (cs.extract off (off + n))[k]? = some v := by rw [← Array.getElem?_toList]; exact hv
            rw [Array.getElem?_extract] at hv'
            simp only [Array.getElem?_toList] at h1
            split at hv'
            · rw [h1] at hv'; injection hv' with e; exact e.symm
            · cases hv'
          rw [this]; exact h2
      · cases h
    · cases h
  · rename_i hagg
    cases hl : ls[off]? with
    | none => rw [hl] at h; cases h
    | some l =>
      rw [hl] at h; simp at h; subst h
      obtain ⟨u, h1, h2⟩ := hc.get hl
      refine ⟨u, ?_, h2⟩
      simp only [Array.getElem?_toList] at h1
      simp [part, Sem.run_bind, run_agg hagg, Result.andThen, h1]
  · cases h
theorem makes_field {t : TypeId} {x : Operand} {f : Nat} (ho : o.op = .field t x f) (h : pureV p L lk (.field t x f) = some (c, rd)) (H : KnowsO ρ B a w lk x) : Makes p ρ B a w o c := by
  simp only [pureV] at h
  split at h
  · rename_i ls fs h1 hu
    obtain ⟨vs, e1, e2⟩ := (evS_k H h1 : SV.holds ρ B w (.agg ls) (a.eval x))
    split at h
    · rename_i fd hf
      cases hp : partA p fd.type ls fd.offset with
      | none => rw [hp] at h; cases h
      | some s =>
        rw [hp] at h; simp at h; obtain ⟨rfl, rfl⟩ := h
        obtain ⟨v, h2, h3⟩ := part_holds (cs := vs.toArray) hp (by simpa using e2)
        refine ⟨v, ?_, h3⟩
        unfold execOp; rw [ho]
        simp [e1, Instr.field, asAgg, Sem.run_bind, run_underlying hu, hf, h2, Result.andThen]
    · cases h
  · cases h
theorem makes_index {t : TypeId} {x ix : Operand} (ho : o.op = .index t x ix) (h : pureV p L lk (.index t x ix) = some (c, rd)) (H : KnowsO ρ B a w lk x) (Hi : KnowsO ρ B a w lk ix) : Makes p ρ B a w o c := by
  simp only [pureV] at h
  split at h
  · rename_i ls len e l h1 hu h3
    obtain ⟨vs, e1, e2⟩ := (evS_k H h1 : SV.holds ρ B w (.agg ls) (a.eval x))
    split at h
    · rename_i i n hi hn
      obtain ⟨k, e3⟩ := idxI_holds hi (evL_k Hi h3)
      split at h
      · rename_i hlt
        cases hp : partA p e ls (i * n) with
        | none => rw [hp] at h; cases h
        | some s =>
          rw [hp] at h; simp at h; obtain ⟨rfl, rfl⟩ := h
          obtain ⟨v, h4, h5⟩ := part_holds (cs := vs.toArray) hp (by simpa using e2)
          refine ⟨v, ?_, h5⟩
          unfold execOp; rw [ho]
          simp [e1, e3, Instr.index, asIntOf, Sem.run_bind, run_underlying hu, run_size hn, h4, Result.andThen, hlt]
      · cases h
    · cases h
  · cases h
end
end Go.Proofs.YtfhinmdhjlmikaaGreatDoor
namespace Go.Proofs.YtfhinmdhjlmikaaGreatDoor
set_option linter.unusedSimpArgs false
set_option linter.unusedVariables false
set_option maxRecDepth 100000
open Go.RowKit
section
variable {p : Program} {ρ : Rho} {B : Blk} {a : Act} {w : World} {L : List OIns} {lk : Nat → Option AV} {c : AV} {rd : List Nat} {o : Oper}
theorem run_listMapM {α β : Type} (f : α → Sem β) (g : α → β) : ∀ (xs : List α), (∀ x ∈ xs, (f x).run p w = .ok (g x) w) → (xs.mapM f).run p w = .ok (xs.map g) w
  | [], _ => by simp
  | x :: xs, h => by
    have ih := run_listMapM f g xs (fun y hy => h y (List.mem_cons_of_mem _ hy))
    simp only [List.mapM_cons, Sem.run_bind, h x (by simp), Result.andThen, ih, Sem.run_pure, List.map_cons]
theorem run_arrMapM {α β : Type} (f : α → Sem β) (g : α → β) (xs : Array α) (h : ∀ x ∈ xs.toList, (f x).run p w = .ok (g x) w) : (xs.mapM f).run p w = .ok (xs.map g) w := by
  obtain ⟨l⟩ := xs
  have := run_listMapM f g l (by simpa using h)
  simp only [List.mapM_toArray, map_eq_pure_bind, Sem.run_bind, this, Result.andThen, Sem.run_pure, List.map_toArray]
theorem evParts_holds : ∀ {ps : List (Nat × Operand)} {ss : List (Nat × SV)}, evParts lk ps = some ss → (∀ x ∈ ps, KnowsO ρ B a w lk x.2) →
    (ps.map (fun x => (x.1, a.eval x.2))).map (·.1) = ss.map (·.1) ∧ SVsH ρ B w (ss.map (·.2)) ((ps.map (fun x => (x.1, a.eval x.2))).map (·.2))
  | [], ss, h, _ => by simp [evParts] at h; subst h; exact ⟨rfl, trivial⟩
  | (i, x) :: r, ss, h, H => by
    simp only [evParts] at h
    split at h
    · rename_i s l h1 h2
      simp at h; subst h
      obtain ⟨e1, e2⟩ := evParts_holds h2 (fun y hy => H y (List.mem_cons_of_mem _ hy))
      exact ⟨by simpa using e1, evS_k (H (i, x) (by simp)) h1, e2⟩
    · cases h
theorem zeroL_holds {t : TypeId} {z : List Leaf} (h : zeroL p t = some z) : ∃ v, (zeroValue t).run p w = .ok v w ∧ LeavesH ρ B w z v.cells.toList := by
  unfold zeroL at h
  split at h
  · rename_i v hv
    exact ⟨v, run_zeroV hv, leavesC_holds h⟩
  · cases h
theorem makes_build {t : TypeId} {ps : Array (Nat × Operand)} (ho : o.op = .build t ps) (h : pureV p L lk (.build t ps) = some (c, rd)) (H : ∀ x ∈ ps.toList, KnowsO ρ B a w lk x.2) : Makes p ρ B a w o c := by
  simp only [pureV] at h
  split at h
  · rename_i z ss fs h1 h2 hu
    obtain ⟨zv, hz, hz2⟩ := zeroL_holds (ρ := ρ) (B := B) (w := w) h1
    obtain ⟨e1, e2⟩ := evParts_holds h2 H
    split at h
    · rename_i hall
      cases hf : fillA (placeS p fs) z ss with
      | none => rw [hf] at h; cases h
      | some ls =>
        rw [hf] at h; simp at h; obtain ⟨rfl, rfl⟩ := h
        let g : Field → Nat × Nat := fun f => (f.offset, (szB p f.type).getD 0)
        have hm : (fs.mapM (fun f => do pure (f.offset, ← sizeOf f.type) : Field → Sem (Nat × Nat))).run p w = .ok (fs.map g) w := by
          refine run_arrMapM _ g fs (fun f hf => ?_)
          have h3 : (szB p f.type).isSome = true := by
            have := Array.all_eq_true.1 hall
            obtain ⟨i, hi, rfl⟩ := List.getElem_of_mem hf
            simp only [Array.getElem_toList]
            exact this i (by simpa using hi)
          cases hs : szB p f.type with
          | none => rw [hs] at h3; cases h3
          | some n => simp only [Sem.run_bind, run_size hs, Result.andThen, Sem.run_pure]; show _ = Result.ok (f.offset, (szB p f.type).getD 0) w; rw [hs]; rfl
        have hpl : placeS p fs = fun i => (fs.map g)[i]? := by
          funext i
          unfold placeS
          rw [Array.getElem?_map]
          cases hi : fs[i]? with
          | none => rfl
          | some f =>
            have h3 : (szB p f.type).isSome = true := by
              have := Array.all_eq_true.1 hall
              obtain ⟨_, rfl⟩ := Array.getElem?_eq_some_iff.1 hi
              exact this i (Array.getElem?_eq_some_iff.1 hi).1
            cases hs : szB p f.type with
            | none => rw [hs] at h3; cases h3
            | some n => show Option.map _ (szB p f.type) = some (f.offset, (szB p f.type).getD 0); rw [hs]; rfl
        rw [hpl] at hf
        obtain ⟨out, h4, h5⟩ := fill_holds hf e1 e2 hz2
        refine ⟨.agg out, ?_, out.toList, by rw [Array.toArray_toList], h5⟩
        have e3 : (ps.map (fun x => (x.1, a.eval x.2))).toList = ps.toList.map (fun x => (x.1, a.eval x.2)) := by simp
        unfold execOp; rw [ho]
        simp only [Instr.build, Sem.run_bind, hz, run_underlying hu, Result.andThen, hm, e3, h4, Sem.run_pure]
    · cases h
  · rename_i z ss len e h1 h2 hu
    obtain ⟨zv, hz, hz2⟩ := zeroL_holds (ρ := ρ) (B := B) (w := w) h1
    obtain ⟨e1, e2⟩ := evParts_holds h2 H
    split at h
    · rename_i n hn
      cases hf : fillA (fun i => some (i * n, n)) z ss with
      | none => rw [hf] at h; cases h
      | some ls =>
        rw [hf] at h; simp at h; obtain ⟨rfl, rfl⟩ := h
        obtain ⟨out, h4, h5⟩ := fill_holds hf e1 e2 hz2
        refine ⟨.agg out, ?_, out.toList, by rw [Array.toArray_toList], h5⟩
        have e3 : (ps.map (fun x => (x.1, a.eval x.2))).toList = ps.toList.map (fun x => (x.1, a.eval x.2)) := by simp
        unfold execOp; rw [ho]
        simp only [Instr.build, Sem.run_bind, hz, run_underlying hu, Result.andThen, run_size hn, e3, h4, Sem.run_pure]
    · cases h
  · cases h
theorem litBin_run {op : BinOp} {x y l : Leaf} {vx vy : Value} {t : TypeId} {xo yo : Operand} (h : litBin (isBoolB p t) op x y = some l) (hx : x.holds ρ B w vx) (hy : y.holds ρ B w vy) :
    ∃ v, l.holds ρ B w v ∧ ((do eqGuard op t xo yo vx vy; binOp op t vx vy : Sem Value)).run p w = .ok v w := by
  unfold litBin at h
  split at h
  · rename_i b1 b2
    have e1 : vx = .bool b1 := hx
    have e2 : vy = .bool b2 := hy
    subst e1; subst e2
    split at h
    · rename_i hb
      have hu : p.underlying t = some .bool := by
        unfold isBoolB at hb
        split at hb
        · assumption
        · cases hb
      have he : (Op.equal t (.bool b1) (.bool b2)).run p w = .ok (b1 == b2) w := by
        unfold Op.equal Op.maxDepth Op.equalIn
        rw [Sem.run_bind, run_underlying hu]; rfl
      cases op <;> simp only [Option.some.injEq, reduceCtorEq] at h <;> (subst h; refine ⟨_, rfl, ?_⟩; simp [eqGuard, binOp, Sem.run_bind, he, Result.andThen])
    · cases h
  · rename_i k1 n1 k2 n2
    have e1 : vx = .int k1 n1 := hx
    have e2 : vy = .int k2 n2 := hy
    subst e1; subst e2
    split at h
    · rename_i hk; subst hk
      cases op <;> simp only [Option.some.injEq, reduceCtorEq] at h <;> (subst h; refine ⟨_, rfl, ?_⟩; simp [eqGuard, binOp, Op.intCmp, Op.intArith, Sem.run_bind, Result.andThen]) <;> rfl
    · cases h
  · cases h
theorem findO_ok (hO : ∀ i ∈ L, i.Ok p ρ) {k : Key} {xs : List SV} {s : SV} (h : findO L k xs = some s) : (OIns.mk k xs s).Ok p ρ := by
  unfold findO at h
  split at h
  · rename_i i hi
    simp at h; subst h
    have h1 := List.find?_some hi
    simp only [Bool.and_eq_true, decide_eq_true_eq] at h1
    have := hO i (List.mem_of_find?_eq_some hi)
    obtain ⟨k', xs', r'⟩ := i
    obtain ⟨rfl, rfl⟩ := h1
    exact this
  · cases h
theorem makes_bin (hO : ∀ i ∈ L, i.Ok p ρ) {op : BinOp} {t ty : TypeId} {x y : Operand} (ho : o.op = .binOp op t x y ty) (h : pureV p L lk (.binOp op t x y ty) = some (c, rd)) (Hx : KnowsO ρ B a w lk x) (Hy : KnowsO ρ B a w lk y) : Makes p ρ B a w o c := by
  have fin : ∀ v, ((do eqGuard op t x y (a.eval x) (a.eval y); binOp op t (a.eval x) (a.eval y) : Sem Value)).run p w = .ok v w → (execOp a.eval o).run p w = .ok (.value v) w := by
    intro v hv
    unfold execOp; rw [ho]
    simp only
    rw [Sem.run_bind, hv]; rfl
  simp only [pureV] at h
  have orac : ∀ (s1 s2 : SV), s1.holds ρ B w (a.eval x) → s2.holds ρ B w (a.eval y) → (findO L (.bin op t) [s1, s2]).map (fun s => (AV.v s, ([] : List Nat))) = some (c, rd) → Makes p ρ B a w o c := by
    intro s1 s2 hs1 hs2 hf
    cases e : findO L (.bin op t) [s1, s2] with
    | none => rw [e] at hf; cases hf
    | some s =>
      rw [e] at hf; simp at hf; obtain ⟨rfl, _⟩ := hf
      obtain ⟨v, h1, h2⟩ := (findO_ok hO e) B w [a.eval x, a.eval y] ⟨hs1, hs2, trivial⟩
      exact ⟨v, fin v (h2 x y), h1⟩
  split at h
  · rename_i s1 s2 e1 e2
    split at h
    · rename_i l hl
      simp at h; obtain ⟨rfl, _⟩ := h
      obtain ⟨v, h1, h2⟩ := litBin_run (xo := x) (yo := y) hl (evS_k Hx e1) (evS_k Hy e2)
      exact ⟨v, fin v h2, h1⟩
    · exact orac _ _ (evS_k Hx e1) (evS_k Hy e2) h
  · rename_i s1 s2 _ e1 e2
    exact orac _ _ (evS_k Hx e1) (evS_k Hy e2) h
  · cases h
theorem makes_un (hO : ∀ i ∈ L, i.Ok p ρ) {op : UnOp} {t : TypeId} {x : Operand} (ho : o.op = .unOp op t x) (h : pureV p L lk (.unOp op t x) = some (c, rd)) (Hx : KnowsO ρ B a w lk x) : Makes p ρ B a w o c := by
  have fin : ∀ v, (Op.unary op (a.eval x)).run p w = .ok v w → (execOp a.eval o).run p w = .ok (.value v) w := by
    intro v hv
    unfold execOp; rw [ho]
    simp only
    rw [Sem.run_bind, hv]; rfl
  have orac : ∀ (s1 : SV), s1.holds ρ B w (a.eval x) → (findO L (.un op) [s1]).map (fun s => (AV.v s, ([] : List Nat))) = some (c, rd) → Makes p ρ B a w o c := by
    intro s1 hs1 hf
    cases e : findO L (.un op) [s1] with
    | none => rw [e] at hf; cases hf
    | some s =>
      rw [e] at hf; simp at hf; obtain ⟨rfl, _⟩ := hf
      obtain ⟨v, h1, h2⟩ := (findO_ok hO e) B w [a.eval x] ⟨hs1, trivial⟩
      exact ⟨v, fin v h2, h1⟩
  cases op with
  | not =>
    simp only [pureV] at h
    split at h
    · rename_i b e
      simp at h; obtain ⟨rfl, _⟩ := h
      have e1 : a.eval x = .bool b := evL_k Hx e
      exact ⟨_, fin (.bool (!b)) (by rw [e1]; rfl), rfl⟩
    · rename_i l _ e
      exact orac (.one l) (evL_k Hx e) h
    · cases h
  | _ =>
    simp only [pureV] at h
    split at h
    · rename_i s e
      exact orac _ (evS_k Hx e) h
    · cases h
theorem makes_conv (hO : ∀ i ∈ L, i.Ok p ρ) {s d : TypeId} {x : Operand} (ho : o.op = .convert s d x) (h : pureV p L lk (.convert s d x) = some (c, rd)) (Hx : KnowsO ρ B a w lk x) : Makes p ρ B a w o c := by
  have fin : ∀ v, (convert s d (a.eval x)).run p w = .ok v w → (execOp a.eval o).run p w = .ok (.value v) w := by
    intro v hv
    unfold execOp; rw [ho]
    simp only
    rw [Sem.run_bind, hv]; rfl
  have orac : ∀ (s1 : SV), s1.holds ρ B w (a.eval x) → (findO L (.conv s d) [s1]).map (fun s => (AV.v s, ([] : List Nat))) = some (c, rd) → Makes p ρ B a w o c := by
    intro s1 hs1 hf
    cases e : findO L (.conv s d) [s1] with
    | none => rw [e] at hf; cases hf
    | some s =>
      rw [e] at hf; simp at hf; obtain ⟨rfl, _⟩ := hf
      obtain ⟨v, h1, h2⟩ := (findO_ok hO e) B w [a.eval x] ⟨hs1, trivial⟩
      exact ⟨v, fin v h2, h1⟩
  simp only [pureV] at h
  split at h
  · rename_i k0 n k1 k e1 e2 e3
    simp at h; obtain ⟨rfl, _⟩ := h
    have e4 : a.eval x = .int k0 n := evL_k Hx e1
    refine ⟨_, fin (.int k (k.wrap n)) ?_, rfl⟩
    rw [e4]; unfold convert
    rw [Sem.run_bind, run_underlying e2]
    simp only [Result.andThen]
    rw [Sem.run_bind, run_underlying e3]; rfl
  · rename_i l _ e
    exact orac (.one l) (evL_k Hx (by assumption)) h
  · split at h
    · rename_i s1 e
      exact orac _ (evS_k Hx e) h
    · cases h
theorem makes_len (hO : ∀ i ∈ L, i.Ok p ρ) {k : Call} (ho : o.op = .call k) (h : pureV p L lk (.call k) = some (c, rd)) (H : ∀ x ∈ k.args.toList, KnowsO ρ B a w lk x) : Makes p ρ B a w o c := by
  obtain ⟨cal, args, tt⟩ := k
  simp only [pureV] at h
  split at h
  · rename_i x t e2 ht
    split at h
    · rename_i s e
      cases e3 : findO L (.len t) [s] with
      | none => rw [e3] at h; cases h
      | some r =>
        rw [e3] at h; simp at h; obtain ⟨rfl, _⟩ := h
        obtain ⟨v, h1, h2⟩ := (findO_ok hO e3) B w [a.eval x] ⟨evS_k (H x (by simp [e2])) e, trivial⟩
        refine ⟨v, ?_, h1⟩
        have ea : args = #[x] := by
          obtain ⟨l⟩ := args
          simp only at e2
          subst e2; rfl
        subst ea
        unfold execOp; rw [ho]
        simp only [resolve, Sem.run_bind, Sem.run_pure, Result.andThen, invoke, builtin]
        have := h2 tt o.type ht
        simp only [List.map_toArray, List.map_cons, List.map_nil]
        rw [this]
    · cases h
  · cases h
theorem makes_all (hO : ∀ i ∈ L, i.Ok p ρ) (h : pureV p L lk o.op = some (c, rd)) (H : ∀ x ∈ o.op.operands.toList, KnowsO ρ B a w lk x) (H2 : ∀ y ∈ rd, ∀ c, lk y = some c → LocH ρ B a w y c) : Makes p ρ B a w o c := by
  obtain ⟨op, ho⟩ : ∃ op, o.op = op := ⟨_, rfl⟩
  rw [ho] at h H
  cases op with
  | move x => exact makes_move (.inl ho) h (H x (by simp [Op.operands]))
  | assign x => exact makes_move (.inr ho) h (H x (by simp [Op.operands]))
  | pick k x y => exact makes_pick ho h (H k (by simp [Op.operands])) (H x (by simp [Op.operands])) (H y (by simp [Op.operands]))
  | extract x k => exact makes_extract ho h (H x (by simp [Op.operands]))
  | load t x => exact makes_load ho h (H x (by simp [Op.operands])) H2
  | fieldAddr t x f => exact makes_fieldAddr ho h (H x (by simp [Op.operands]))
  | indexAddr t x ix => exact makes_indexAddr ho h (H x (by simp [Op.operands])) (H ix (by simp [Op.operands]))
  | build t ps => exact makes_build ho h (fun x hx => H x.2 (by simp only [Op.operands, List.mem_map]; exact ⟨x, hx, rfl⟩))
  | field t x f => exact makes_field ho h (H x (by simp [Op.operands]))
  | index t x ix => exact makes_index ho h (H x (by simp [Op.operands])) (H ix (by simp [Op.operands]))
  | binOp op t x y ty => exact makes_bin hO ho h (H x (by simp [Op.operands])) (H y (by simp [Op.operands]))
  | unOp op t x => exact makes_un hO ho h (H x (by simp [Op.operands]))
  | convert s d x => exact makes_conv hO ho h (H x (by simp [Op.operands]))
  | call k => exact makes_len hO ho h (fun x hx => H x (by simp only [Op.operands, Call.operands, Array.toList_append, List.mem_append]; exact .inr hx))
  | _ => simp [pureV] at h
theorem svsA_holds : ∀ {xs : List Operand} {ss : List SV}, svsA lk xs = some ss → (∀ x ∈ xs, KnowsO ρ B a w lk x) → SVsH ρ B w ss (xs.map a.eval)
  | [], ss, h, _ => by simp [svsA] at h; subst h; trivial
  | x :: xs, ss, h, H => by
    simp only [svsA] at h
    split at h
    · rename_i s l h1 h2
      simp at h; subst h
      exact ⟨evS_k (H x (by simp)) h1, svsA_holds h2 (fun y hy => H y (List.mem_cons_of_mem _ hy))⟩
    · cases h
theorem makes_gen (hO : ∀ i ∈ L, i.Ok p ρ) {k : Key} {xs : List Operand} {ss : List SV} {s : SV} (hg : genO o.op = some (k, xs)) (hs : svsA lk xs = some ss) (hf : findO L k ss = some s) (H : ∀ x ∈ xs, KnowsO ρ B a w lk x) : Makes p ρ B a w o (.v s) := by
  have hv := svsA_holds hs H
  have hk := (findO_ok hO hf) B w _ hv
  obtain ⟨op, ho⟩ : ∃ op, o.op = op := ⟨_, rfl⟩
  rw [ho] at hg
  unfold genO at hg
  split at hg <;> first | (cases hg; done) | skip
  all_goals
    simp only [Option.some.injEq, Prod.mk.injEq] at hg
    obtain ⟨rfl, rfl⟩ := hg
    obtain ⟨v, h1, h2⟩ := hk
    refine ⟨v, ?_, h1⟩
    unfold execOp
    rw [ho]
    simp only [Option.map_some, Option.map_none]
    rw [Sem.run_bind]
    first | rw [h2] | skip
    rfl
theorem genO_sub {op : Op} {k : Key} {xs : List Operand} (hg : genO op = some (k, xs)) : ∀ x ∈ xs, x ∈ op.operands.toList := by
  unfold genO at hg
  split at hg <;> first | (cases hg; done) | skip
  all_goals
    simp only [Option.some.injEq, Prod.mk.injEq] at hg
    obtain ⟨rfl, rfl⟩ := hg
    simp [Op.operands]
theorem makes_any (hO : ∀ i ∈ L, i.Ok p ρ) (h : pureA p L lk o.op = some (c, rd)) (H : ∀ x ∈ o.op.operands.toList, KnowsO ρ B a w lk x) (H2 : ∀ y ∈ rd, ∀ c, lk y = some c → LocH ρ B a w y c) : Makes p ρ B a w o c := by
  unfold pureA at h
  split at h
  · rename_i r hr
    simp only [Option.some.injEq] at h
    subst h
    exact makes_all hO hr H H2
  · split at h
    · rename_i c' hn
      simp only [Option.some.injEq, Prod.mk.injEq] at h
      obtain ⟨rfl, rfl⟩ := h
      obtain ⟨op, ho⟩ : ∃ op, o.op = op := ⟨_, rfl⟩
      rw [ho] at hn H
      unfold nilO at hn
      split at hn
      · rename_i x
        split at hn
        · rename_i v off e
          simp only [Option.some.injEq] at hn
          subst hn
          obtain ⟨g, hg, e1⟩ := (evL_k (H x (by simp [Op.operands])) e : Leaf.holds ρ B w (.ptr v off) (a.eval x))
          refine ⟨_, ?_, g, hg, rfl⟩
          unfold execOp
          rw [ho]
          simp only [e1]
          rfl
        · cases hn
      · cases hn
    · split at h
      · rename_i k xs hg
        split at h
        · rename_i ss hs
          cases hf : findO L k ss with
          | none => rw [hf] at h; cases h
          | some s =>
            rw [hf] at h
            simp only [Option.map_some, Option.some.injEq, Prod.mk.injEq] at h
            obtain ⟨rfl, rfl⟩ := h
            exact makes_gen hO hg hs hf (fun x hx => H x (genO_sub hg x hx))
        · cases h
      · cases h
end
end Go.Proofs.YtfhinmdhjlmikaaGreatDoor
namespace Go.Proofs.YtfhinmdhjlmikaaGreatDoor
set_option linter.unusedSimpArgs false
set_option linter.unusedVariables false
set_option maxRecDepth 100000
open Go.RowKit
/-- What a call gives: asked of whoever uses it. -/
structure Inst where
  f : FuncId
  args : List SV
  res : AV
def Inst.Ok (p : Program) (ρ : Rho) (i : Inst) : Prop :=
  (∀ (vs : Array Value) (w : World), (callFunc i.f vs).run p w = .ok (.enter i.f vs) w) ∧
  ∀ (B : Blk) (w : World) (vs : List Value), SVsH ρ B w i.args vs → Calls p i.f vs.toArray w (fun e w' => ∃ v, e = .returned v ∧ i.res.holds ρ B w' v ∧ Below w.heap.size w w')
/-- The same, of worlds that come behind w0 with its memory as it was. -/
def Inst.Ok0 (p : Program) (ρ : Rho) (w0 : World) (i : Inst) : Prop :=
  (∀ (vs : Array Value) (w : World), (callFunc i.f vs).run p w = .ok (.enter i.f vs) w) ∧
  ∀ (B : Blk) (w : World) (vs : List Value), Below w0.heap.size w0 w → SVsH ρ B w i.args vs → Calls p i.f vs.toArray w (fun e w' => ∃ v, e = .returned v ∧ i.res.holds ρ B w' v ∧ Below w.heap.size w w')
theorem Inst.Ok.to0 {p : Program} {ρ : Rho} {i : Inst} (h : i.Ok p ρ) (w0 : World) : i.Ok0 p ρ w0 := ⟨h.1, fun B w vs _ hv => h.2 B w vs hv⟩
def wrD (d : Option Tmp) (c : AV) : List (Nat × AV) := match d with | some d => [(d, c)] | none => []
def okD (nt : Nat) (d : Option Tmp) : Bool := match d with | some d => decide (d < nt) && decide (d < 100000) | none => true
def cellsWr (v : Nat) : Nat → List Leaf → List (Nat × AV)
  | _, [] => []
  | k, l :: ls => (locC v k, .v (.one l)) :: cellsWr v (k + 1) ls
def allFlat (ls : List Leaf) : Bool := ls.all Leaf.flat
def findC (C : List Inst) (f : FuncId) (xs : List SV) : Option AV := match C.find? (fun i => decide (i.f = f) && decide (i.args = xs)) with | some i => some i.res | none => none
def rdOs (op : Op) : List Nat := op.operands.toList.flatMap rdO
/-- The effect of an operation; the variable that it makes. -/
def effO (p : Program) (C : List Inst) (L : List OIns) (nt : Nat) (lk : Nat → Option AV) (vts : List (TypeId × Nat)) (o : Oper) : Option (Eff × List (TypeId × Nat)) :=
  if !okD nt o.dst then none else
  let pv : Option (Eff × List (TypeId × Nat)) := match pureA p L lk o.op with
    | some (c, rd) => some (⟨rdOs o.op ++ rd, wrD o.dst c, none⟩, [])
    | none => none
  match o.op with
  | .alloc t => match o.dst, zeroL p t with
    | some d, some z => if allFlat z ∧ z.length ≤ 100000 ∧ t ≠ strT then some (⟨[], (d, .v (.one (.ptr vts.length 0))) :: cellsWr vts.length 0 z, some vts.length⟩, [(t, z.length)]) else none
    | _, _ => none
  | .box t x => match o.dst, evS lk x with
    | some d, some s => if allFlat s.leaves ∧ s.leaves.length ≤ 100000 ∧ t ≠ strT then some (⟨rdO x, (d, .v (.one (.ptr vts.length 0))) :: cellsWr vts.length 0 s.leaves, some vts.length⟩, [(t, s.leaves.length)]) else none
    | _, _ => none
  | .store t x y => match o.dst, evL lk x, evS lk y with
    | none, some (.ptr v off), some s => match vts[v]? with
      | some (_, n) => if szB p t = some s.leaves.length ∧ allFlat s.leaves ∧ off + s.leaves.length ≤ n ∧ n ≤ 100000 then some (⟨rdO x ++ rdO y, cellsWr v off s.leaves, none⟩, []) else none
      | none => none
    | _, _, _ => none
  | .call k => match k.callee with
    | .value z => match evL lk z, svsA lk k.args.toList with
      | some (.fn f), some xs => (findC C f xs).map fun r => (⟨rdOs o.op, wrD o.dst r, none⟩, [])
      | _, _ => none
    | _ => pv
  | _ => pv
/-- With the operation's guard. -/
def effG (p : Program) (C : List Inst) (L : List OIns) (nt : Nat) (ops : Array Oper) (lk : Nat → Option AV) (vts : List (TypeId × Nat)) (o : Oper) : Option (Eff × List (TypeId × Nat)) :=
  match o.guard with
  | none => effO p C L nt lk vts o
  | some (g, b) => match dstOf ops g with
    | some t => match evA lk (.tmp t) with
      | some (.v (.one (.b x))) => if x = b then (effO p C L nt lk vts o).map fun e => ({ e.1 with rd := t :: e.1.rd }, e.2) else if okD nt o.dst then some (⟨[t], wrD o.dst .any, none⟩, []) else none
      | some .any => if okD nt o.dst then some (⟨[t], wrD o.dst .any, none⟩, []) else none
      | _ => none
    | none => none
section
variable {p : Program} {ρ : Rho} {B B' : Blk} {a a' : Act} {w w' w0 : World} {C : List Inst} {L : List OIns} {lk : Nat → Option AV} {vt : List (TypeId × Nat)} {nt : Nat} {Q : Exit → Act → World → Prop} {o : Oper} {ops : Array Oper}
theorem LocH.below {x : Nat} {c : AV} (h : LocH ρ B a w x c) (hB : BLe B B') (hb : Below w.heap.size w w') (ht : x < 100000 → a'.tmps[x]? = a.tmps[x]?) : LocH ρ B' a' w' x c := by
  unfold LocH at h ⊢
  split at h
  · rename_i hx
    rw [if_pos hx]
    obtain ⟨u, h1, h2⟩ := h
    exact ⟨u, by rw [ht hx]; exact h1, h2.mono hB hb⟩
  · rename_i hx
    rw [if_neg hx]
    obtain ⟨g, cs, ty, u, h1, h2, h3, h4⟩ := h
    exact ⟨g, cs, ty, u, hB _ _ h1, by rw [hb.block g (Array.getElem?_eq_some_iff.1 h2).1]; exact h2, h3, h4.mono hB hb⟩
theorem Inv.below' (h : Inv vt w0 nt B a w) (hb : Below w.heap.size w w') (hs : a'.tmps.size = a.tmps.size) (hd : a'.defers = a.defers) : Inv vt w0 nt B a' w' :=
  ⟨fun v g hv => by
    obtain ⟨h1, cs, ty, h2, h3, h4⟩ := h.blk v g hv
    exact ⟨h1, cs, ty, h2, by rw [hb.block g (Array.getElem?_eq_some_iff.1 h3).1]; exact h3, h4⟩,
   h.inj, h.below.trans (hb.mono h.below.size), by rw [hs, h.size], by rw [hd, h.dfr]⟩
theorem put_size (d : Option Tmp) (v : Value) : (a.put d v).tmps.size = a.tmps.size := by cases d <;> simp [Act.put]
theorem put_dfr (d : Option Tmp) (v : Value) : (a.put d v).defers = a.defers := by cases d <;> rfl
theorem put_ne {d : Option Tmp} {v : Value} {x : Nat} (h : ∀ t, d = some t → t ≠ x) : (a.put d v).tmps[x]? = a.tmps[x]? := by
  cases d with
  | none => rfl
  | some t => simp [Act.put, Array.getElem?_setIfInBounds, h t rfl]
theorem put_eq {d : Tmp} {v : Value} (h : d < a.tmps.size) : (a.put (some d) v).tmps[d]? = some v := by simp [Act.put, h]
/-- An operation that makes a value and only adds to the world, no variable. -/
theorem post_value {rd : List Nat} {d : Option Tmp} {c : AV} {v : Value} (hi : Inv vt w0 nt B a w) (hd : okD nt d = true) (hb : Below w.heap.size w w') (hv : c.holds ρ B w' v) :
    Post ρ vt w0 nt ⟨rd, wrD d c, none⟩ B a w B (a.put d v) w' := by
  refine ⟨BLe.refl, hi.below' hb (put_size _ _) (put_dfr _ _), fun q hq => ?_, fun x c' hx hne => hx.below BLe.refl hb (fun _ => put_ne (fun t ht => ?_)), fun u h1 h2 => absurd h1 h2⟩
  · cases d with
    | none => cases hq
    | some t =>
      simp only [wrD, List.mem_singleton] at hq
      subst hq
      simp only [okD, Bool.and_eq_true, decide_eq_true_eq] at hd
      unfold LocH
      rw [if_pos hd.2]
      exact ⟨v, put_eq (by rw [hi.size]; exact hd.1), hv⟩
  · subst ht
    exact hne (t, c) (by simp [wrD])
theorem wr_mem : ∀ {ls : List Leaf} {v k : Nat} {q : Nat × AV}, q ∈ cellsWr v k ls ↔ ∃ j l, ls[j]? = some l ∧ q = (locC v (k + j), .v (.one l))
  | [], v, k, q => by simp [cellsWr]
  | l :: ls, v, k, q => by
    simp only [cellsWr, List.mem_cons, wr_mem (ls := ls)]
    constructor
    · rintro (rfl | ⟨j, l', h1, rfl⟩)
      · exact ⟨0, l, rfl, rfl⟩
      · exact ⟨j + 1, l', by simpa using h1, by rw [show k + 1 + j = k + (j + 1) from by omega]⟩
    · rintro ⟨j, l', h1, rfl⟩
      match j with
      | 0 => simp at h1; subst h1; exact .inl rfl
      | j + 1 => exact .inr ⟨j, l', by simpa using h1, by rw [show k + 1 + j = k + (j + 1) from by omega]⟩
/-- A new variable. -/
theorem post_new {rd : List Nat} {d : Tmp} {t : TypeId} {ls : List Leaf} {cs : Array Value} {nv : Nat} (hi : Inv vt w0 nt B a w) (hd : okD nt (some d) = true) (hf : allFlat ls = true) (hl : ls.length ≤ 100000) (hc : LeavesH ρ B w ls cs.toList)
    (hv : vt[nv]? = some (t, ls.length)) (hn : B nv = none) (ht : t ≠ strT) :
    Post ρ vt w0 nt ⟨rd, (d, .v (.one (.ptr nv 0))) :: cellsWr nv 0 ls, some nv⟩ B a w (fun v => if v = nv then some w.heap.size else B v) (a.put (some d) (.pointer (some ⟨w.heap.size, 0, none⟩))) (w.alloc (.cells cs t)) := by
  have hle : BLe B (fun v => if v = nv then some w.heap.size else B v) := fun v g h => by
    show (if v = nv then _ else _) = _
    rw [if_neg (fun e => by rw [e, hn] at h; cases h)]; exact h
  have hb := bel1 w (.cells cs t)
  have hnew : (w.alloc (.cells cs t)).heap[w.heap.size]? = some (.cells cs t (0, 0)) := heap_alloc_new w _
  have hlt : ∀ v g, B v = some g → g < w.heap.size := fun v g h => by
    obtain ⟨_, cs, ty, _, h3, _⟩ := hi.blk v g h
    exact (Array.getElem?_eq_some_iff.1 h3).1
  have hlen : cs.size = ls.length := by have := hc.len; simpa using this
  refine ⟨hle, ⟨fun v g hg => ?_, fun v v' g h1 h2 => ?_, hi.below.trans (hb.mono hi.below.size), by rw [put_size, hi.size], by rw [put_dfr, hi.dfr]⟩, fun q hq => ?_, fun x c hx hne => hx.below hle hb (fun _ => put_ne (fun t ht => ?_)), fun u h1 h2 => ?_⟩
  · by_cases e : v = nv
    · subst e
      simp only [if_true, Option.some.injEq] at hg
      subst hg
      refine ⟨hi.below.size, cs, t, by rw [hv, hlen], hnew, fun k n hk => ?_, ht⟩
      rw [← Array.getElem?_toList] at hk
      have hkl : k < ls.length := by rw [← hc.len]; exact (List.getElem?_eq_some_iff.1 hk).1
      obtain ⟨u, h1, h2⟩ := hc.get (List.getElem?_eq_getElem hkl)
      rw [hk] at h1; injection h1 with h1; subst h1
      exact (h2.flat (List.all_eq_true.1 hf _ (List.getElem_mem hkl))).2.2 n rfl
    · simp only [e, if_false] at hg
      obtain ⟨h1, cs', ty, h2, h3, h4⟩ := hi.blk v g hg
      exact ⟨h1, cs', ty, h2, by rw [hb.block g (hlt v g hg)]; exact h3, h4⟩
  · by_cases e : v = nv <;> by_cases e' : v' = nv
    · rw [e, e']
    · simp only [e, e', if_true, if_false, Option.some.injEq] at h1 h2
      have := hlt v' g h2; omega
    · simp only [e, e', if_true, if_false, Option.some.injEq] at h1 h2
      have := hlt v g h1; omega
    · simp only [e, e', if_false] at h1 h2
      exact hi.inj v v' g h1 h2
  · rcases List.mem_cons.1 hq with rfl | hq
    · simp only [okD, Bool.and_eq_true, decide_eq_true_eq] at hd
      unfold LocH
      rw [if_pos hd.2]
      exact ⟨_, put_eq (by rw [hi.size]; exact hd.1), w.heap.size, by simp, rfl⟩
    · obtain ⟨j, l, h1, rfl⟩ := wr_mem.1 hq
      have hjl := (List.getElem?_eq_some_iff.1 h1).1
      obtain ⟨u, h2, h3⟩ := hc.get h1
      rw [Nat.zero_add, locH_cell (by omega)]
      exact ⟨w.heap.size, cs, t, u, by simp, hnew, by rw [← Array.getElem?_toList]; exact h2, (h3.mono hle hb : Leaf.holds ρ _ _ l u)⟩
  · injection ht with ht; subst ht
    exact hne (d, .v (.one (.ptr nv 0))) (by simp)
  · by_cases e : u = nv
    · rw [e]
    · simp only [e, if_false] at h2; exact absurd h1 h2
end
end Go.Proofs.YtfhinmdhjlmikaaGreatDoor
