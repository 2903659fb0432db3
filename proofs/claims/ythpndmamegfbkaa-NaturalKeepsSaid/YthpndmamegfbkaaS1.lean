/- Regions that draw their order: a table of what each operation makes; one small proof for each operation. -/
import Derived.Test.YthpndmamegfbkaaF3
namespace Go.Proofs.Ythpndmamegfbkaa
set_option linter.unusedSimpArgs false
set_option linter.unusedVariables false
open Go.RowKit
/-- A property of a value that what is only added to the world does not change. -/
structure Sp where
  p : World → Value → Prop
  st : ∀ w w' v, p w v → Below w.heap.size w w' → p w' v
def Sp.val (u : Value) : Sp := ⟨fun _ v => v = u, fun _ _ _ h _ => h⟩
def Sp.any : Sp := ⟨fun _ _ => True, fun _ _ _ _ _ => trivial⟩
def Sp.nat (N : Nat) : Sp := ⟨fun w v => IsN w v N, fun _ _ _ h hb => IsN.mono h hb⟩
def Sp.new (base N : Nat) : Sp := ⟨fun w v => NewN base w v N, fun _ _ _ h hb => NewN.mono h hb⟩
def Sp.row (L N : Nat) : Sp := ⟨fun w v => ∃ g, v = .slice (some ⟨g, 0, none⟩) L L ∧ OwnR w g L N, fun _ _ _ h hb => by obtain ⟨g, rfl, h⟩ := h; exact ⟨g, rfl, h.mono hb h.lt⟩⟩
/-- Slot t holds a value with the property s. -/
def Has (a : Act) (w : World) (t : Tmp) (s : Sp) : Prop := ∃ v, a.tmps[t]? = some v ∧ s.p w v
def Is (a : Act) (w : World) (x : Operand) (s : Sp) : Prop := s.p w (a.eval x)
theorem Has.is {a : Act} {w : World} {t : Tmp} {s : Sp} (h : Has a w t s) : Is a w (.tmp t) s := by
  obtain ⟨v, h1, h2⟩ := h
  unfold Is Act.eval
  simp only [Array.getD_eq_getD_getElem?, h1, Option.getD_some]
  exact h2
theorem Is.const {a : Act} {w : World} {v : Value} : Is a w (.const v) (.val v) := rfl
theorem Has.mono {a : Act} {w w' : World} {t : Tmp} {s : Sp} (h : Has a w t s) (hb : Below w.heap.size w w') : Has a w' t s := by
  obtain ⟨v, h1, h2⟩ := h; exact ⟨v, h1, s.st _ _ _ h2 hb⟩
section
variable {P : Program} {ops : Array Oper} {Q : Exit → Act → World → Prop} {md : Region.Mode}
/-- The operation makes a value with the property s, and only adds to the world. -/
def Arm (P : Program) (Q : Exit → Act → World → Prop) (o : Oper) (a : Act) (w : World) (s : Sp) : Prop :=
  ∀ K : Act → World → Prop, (∀ v w', s.p w' v → Below w.heap.size w w' → K (a.put o.dst v) w') → Oper.wp P o a w K Q
def entries (D : List (Nat × Tmp × Sp)) : List (Nat × Tmp) := D.map fun x => (x.1, x.2.1)
theorem putD_slot {D : List (Nat × Tmp)} {f : Nat → Value} {a : Act} (t : Tmp) (h : t ∉ D.map (·.2)) : (putD D f a).tmps[t]? = a.tmps[t]? := by
  induction D generalizing a with
  | nil => rfl
  | cons p D ih =>
    rw [List.map_cons, List.mem_cons] at h
    have h1 : p.2 ≠ t := fun e => h (.inl e.symm)
    show (putD D f (a.put (some p.2) (f p.1))).tmps[t]? = _
    rw [ih (fun e => h (.inr e))]
    simp [Act.put, Array.getElem?_setIfInBounds, h1]
theorem putD_size {D : List (Nat × Tmp)} {f : Nat → Value} {a : Act} : (putD D f a).tmps.size = a.tmps.size := by
  induction D generalizing a with
  | nil => rfl
  | cons p D ih => show (putD D f (a.put (some p.2) (f p.1))).tmps.size = _; rw [ih]; simp [Act.put]
theorem putD_defers {D : List (Nat × Tmp)} {f : Nat → Value} {a : Act} : (putD D f a).defers = a.defers := by
  induction D generalizing a with
  | nil => rfl
  | cons p D ih => show (putD D f (a.put (some p.2) (f p.1))).defers = _; rw [ih]; rfl
theorem putD_in {D : List (Nat × Tmp)} {f : Nat → Value} {a : Act} (hn : (D.map (·.2)).Nodup) {i : Nat} {t : Tmp} (hm : (i, t) ∈ D) (ht : t < a.tmps.size) : (putD D f a).tmps[t]? = some (f i) := by
  induction D generalizing a with
  | nil => cases hm
  | cons p D ih =>
    rw [List.map_cons, List.nodup_cons] at hn
    show (putD D f (a.put (some p.2) (f p.1))).tmps[t]? = _
    rcases List.mem_cons.1 hm with rfl | hm'
    · rw [putD_slot t hn.1]
      simp [Act.put, ht]
    · exact ih hn.2 hm' (by simpa [Act.put] using ht)
theorem mem_entries {D : List (Nat × Tmp × Sp)} {i : Nat} {t : Tmp} {s : Sp} (h : (i, t, s) ∈ D) : (i, t) ∈ entries D := List.mem_map.2 ⟨_, h, rfl⟩
theorem keyed {D : List (Nat × Tmp × Sp)} (hp : (D.map (·.1)).Nodup) : ∀ y ∈ D, ∀ z ∈ D, y.1 = z.1 → y = z := by
  induction D with
  | nil => intro y hy; cases hy
  | cons d D ih =>
    rw [List.map_cons, List.nodup_cons] at hp
    intro y hy z hz hyz
    rcases List.mem_cons.1 hy with rfl | hy' <;> rcases List.mem_cons.1 hz with rfl | hz'
    · rfl
    · exact absurd (List.mem_map.2 ⟨z, hz', hyz.symm⟩) hp.1
    · exact absurd (List.mem_map.2 ⟨y, hy', hyz⟩) hp.1
    · exact ih hp.2 y hy' z hz' hyz
/-- The table's checks that do not look at the properties. -/
def tabOk (md : Region.Mode) (ops : Array Oper) (E : List (Nat × Tmp)) (n : Nat) (l : Array Bool) (size : Nat) : Bool :=
  phaseOk md ops n (E.map (·.1)) l && E.all (fun p => dstOf ops p.1 == some p.2) && decide ((E.map (·.2)).Nodup) && decide ((E.map (·.1)).Nodup) && E.all (fun p => decide (p.2 < size))
theorem wpAny_tab0 (D : List (Nat × Tmp × Sp)) (n : Nat) {l : Array Bool} {a : Act} {w : World} {fuel : Nat} (sz : Nat) (hsz : a.tmps.size = sz)
    (hok : tabOk md ops (entries D) n l sz = true)
    (hstep : ∀ x ∈ D, ∀ (a' : Act) (w' : World), Below w.heap.size w w' → (∀ t, t ∉ (entries D).map (·.2) → a'.tmps[t]? = a.tmps[t]?) → (∀ i t s, (i, t, s) ∈ D → i ∈ preds md ops x.1 → Has a' w' t s) →
      ∃ o, ops[x.1]? = some o ∧ Region.wanted o (yielded ops a'.tmps) = true ∧ Arm P Q o a' w' x.2.2)
    (hrest : ∀ (f : Nat → Value) w', Below w.heap.size w w' → (∀ i t s, (i, t, s) ∈ D → s.p w' (f i)) → wpAny P md ops Q fuel (markAll ((entries D).map (·.1)) l) (putD (entries D) f a) w') :
    wpAny P md ops Q (fuel + D.length) l a w := by
  unfold tabOk at hok
  simp only [Bool.and_eq_true, decide_eq_true_eq] at hok
  obtain ⟨⟨⟨⟨hph, hds⟩, hnt⟩, hni⟩, hlt⟩ := hok
  have ht : ∀ p ∈ entries D, p.2 < a.tmps.size := fun p hp => by rw [hsz]; simpa using List.all_eq_true.1 hlt p hp
  have hlen : D.length = (entries D).length := by simp [entries]
  rw [hlen]
  refine wpAny_phaseD (fuel := fuel) (entries D) n (fun _ => false) (fun i v w' => ∀ t s, (i, t, s) ∈ D → s.p w' v) hph hds hnt (fun i _ v w1 w2 h hb t s hm => s.st _ _ _ (h t s hm) hb) (fun i _ h => by cases h) ?_ ?_
  · intro p hp f w' hb hF K hK
    obtain ⟨x, hx, rfl⟩ := List.mem_map.1 hp
    obtain ⟨o, ho, hw, harm⟩ := hstep x hx (putD (entries D) f a) w' hb (fun t h => putD_slot t h) (fun i t s hm hpr =>
      ⟨f i, putD_in hnt (mem_entries hm) (ht _ (mem_entries hm)), hF i (List.mem_map.2 ⟨_, mem_entries hm, rfl⟩) hpr t s hm⟩)
    unfold wpOp
    rw [ho]
    show if Region.wanted o (yielded ops (putD (entries D) f a).tmps) = true then _ else _
    rw [if_pos hw]
    refine .inl (harm K (fun v w'' hv hbv => ?_))
    have hd := List.all_eq_true.1 hds _ hp
    rw [beq_iff_eq] at hd
    have hdo : o.dst = some x.2.1 := by
      have : dstOf ops x.1 = o.dst := by unfold dstOf; rw [ho]
      rw [← this]; exact hd
    rw [hdo]
    refine hK v w'' (fun t s hm => ?_) hbv (fun h => by cases h)
    have e : (x.1, x.2.1, x.2.2) ∈ D := hx
    have key := keyed (D := D) (by simpa [entries, Function.comp_def] using hni)
    have e2 := key _ hm _ e rfl
    simp only [Prod.mk.injEq, true_and] at e2
    rw [e2.2]; exact hv
  · intro f w' hb hF _
    exact hrest f w' hb (fun i t s hm => hF i (List.mem_map.2 ⟨_, mem_entries hm, rfl⟩) t s hm)
theorem wpAny_tab (D : List (Nat × Tmp × Sp)) (n : Nat) {l : Array Bool} {a : Act} {w : World} {fuel : Nat} (sz : Nat) (hsz : a.tmps.size = sz)
    (hok : tabOk md ops (entries D) n l sz = true)
    (hstep : ∀ x ∈ D, ∀ (a' : Act) (w' : World), Below w.heap.size w w' → (∀ t, t ∉ (entries D).map (·.2) → a'.tmps[t]? = a.tmps[t]?) → (∀ i t s, (i, t, s) ∈ D → i ∈ preds md ops x.1 → Has a' w' t s) →
      ∃ o, ops[x.1]? = some o ∧ Region.wanted o (yielded ops a'.tmps) = true ∧ Arm P Q o a' w' x.2.2)
    (hrest : ∀ a' w', Below w.heap.size w w' → a'.tmps.size = sz → a'.defers = a.defers → (∀ t, t ∉ (entries D).map (·.2) → a'.tmps[t]? = a.tmps[t]?) → (∀ i t s, (i, t, s) ∈ D → Has a' w' t s) →
      wpAny P md ops Q fuel (markAll ((entries D).map (·.1)) l) a' w') :
    wpAny P md ops Q (fuel + D.length) l a w := by
  refine wpAny_tab0 D n sz hsz hok hstep ?_
  unfold tabOk at hok
  simp only [Bool.and_eq_true, decide_eq_true_eq] at hok
  obtain ⟨⟨⟨⟨hph, hds⟩, hnt⟩, hni⟩, hlt⟩ := hok
  have ht : ∀ p ∈ entries D, p.2 < a.tmps.size := fun p hp => by rw [hsz]; simpa using List.all_eq_true.1 hlt p hp
  intro f w' hb hF
  exact hrest _ w' hb (by rw [putD_size, hsz]) putD_defers (fun t h => putD_slot t h) (fun i t s hm =>
    ⟨f i, putD_in hnt (mem_entries hm) (ht _ (mem_entries hm)), hF i t s hm⟩)
def findReg (r : Nat) : Code → Option (Array Oper)
  | .region i ops _ => if i = r then some ops else none
  | .seq a b => match findReg r a with | some x => some x | none => findReg r b
  | .cond _ a b => match findReg r a with | some x => some x | none => findReg r b
  | .block _ b => findReg r b
  | .loop b => findReg r b
  | .scope b => findReg r b
  | .rangeFunc _ _ a b => match findReg r a with | some x => some x | none => findReg r b
  | _ => none
/-- The operations of region r of the function. -/
def opsOf (f : Func) (r : Nat) : Array Oper := match f.body with | some c => (findReg r c).getD #[] | none => #[]
def EachX {α : Type} (p : α → Prop) : List α → Prop
  | [] => True
  | x :: l => p x ∧ EachX p l
theorem EachX.mem {α : Type} {p : α → Prop} {l : List α} (h : EachX p l) : ∀ x ∈ l, p x := by
  induction l with
  | nil => intro x hx; cases hx
  | cons y l ih =>
    intro x hx
    rcases List.mem_cons.1 hx with rfl | hx
    · exact h.1
    · exact ih h.2 x hx
/-- What an operation finds: the slots that no operation of the table writes are as they were; the slots of its forerunners have their properties. -/
structure Found (md : Region.Mode) (ops : Array Oper) (D : List (Nat × Tmp × Sp)) (j : Nat) (w : World) (a a' : Act) (w' : World) : Prop where
  below : Below w.heap.size w w'
  out : ∀ t, ((entries D).map (·.2)).contains t = false → a'.tmps[t]? = a.tmps[t]?
  at' : ∀ (i : Nat) (t : Tmp) (s : Sp), D[i]? = some (i, t, s) → (preds md ops j).contains i = true → Has a' w' t s
structure Made' (D : List (Nat × Tmp × Sp)) (w : World) (a a' : Act) (w' : World) : Prop where
  below : Below w.heap.size w w'
  size : a'.tmps.size = a.tmps.size
  defers : a'.defers = a.defers
  out : ∀ t, ((entries D).map (·.2)).contains t = false → a'.tmps[t]? = a.tmps[t]?
  at' : ∀ (i : Nat) (t : Tmp) (s : Sp), D[i]? = some (i, t, s) → Has a' w' t s
theorem Found.keep {D : List (Nat × Tmp × Sp)} {j : Nat} {w w' : World} {a a' : Act} (h : Found md ops D j w a a' w') (t : Tmp) (v : Value) (ht : ((entries D).map (·.2)).contains t = false) (hv : a.tmps[t]? = some v) : Has a' w' t (.val v) :=
  ⟨v, (h.out t ht).trans hv, rfl⟩
theorem Made'.keep {D : List (Nat × Tmp × Sp)} {w w' : World} {a a' : Act} (h : Made' D w a a' w') (t : Tmp) (v : Value) (ht : ((entries D).map (·.2)).contains t = false) (hv : a.tmps[t]? = some v) : Has a' w' t (.val v) :=
  ⟨v, (h.out t ht).trans hv, rfl⟩
/-- A whole region that draws its order, by a table. -/
theorem wp_tab (f : Func) (r : Nat) (D : List (Nat × Tmp × Sp)) {id : Nat} {ops' : Array Oper} {a : Act} {w : World} (hops : opsOf f r = ops') (hm : P.follows .mixedOrders = true)
    (hlen : (opsOf f r).size = D.length) (hok : tabOk .any (opsOf f r) (entries D) 0 (Array.replicate D.length false) a.tmps.size = true)
    (hdone : Region.ready .any (opsOf f r) (markAll ((entries D).map (·.1)) (Array.replicate D.length false)) = [])
    (steps : EachX (fun x => ∀ (a' : Act) (w' : World), Found .any (opsOf f r) D x.1 w a a' w' → ∃ o, (opsOf f r)[x.1]? = some o ∧ Region.wanted o (yielded (opsOf f r) a'.tmps) = true ∧ Arm P Q o a' w' x.2.2) D)
    (hrest : ∀ a' w', Made' D w a a' w' → Q .normal a' w') : (Code.region id ops' true).wp P Q a w := by
  subst hops
  refine wp_region_any hm ?_
  have hb0 : Below w.heap.size w w.drew := bel_drewN (Below.refl _ _) 1
  change wpAny P .any _ Q _ _ _ w.drew
  rw [hlen]
  have hcon : ∀ t, ((entries D).map (·.2)).contains t = false → t ∉ (entries D).map (·.2) := fun t h hm => by
    rw [List.contains_iff_mem.2 hm] at h; cases h
  have hmem : ∀ (i : Nat) (t : Tmp) (s : Sp), D[i]? = some (i, t, s) → (i, t, s) ∈ D := fun i t s h => List.mem_of_getElem? h
  have main := wpAny_tab (P := P) (Q := Q) (fuel := 0) D 0 (l := Array.replicate D.length false) (a := a) (w := w.drew) a.tmps.size rfl hok
    (fun x hx a' w' hb hout hin => steps.mem x hx a' w' ⟨hb0.trans (hb.mono hb0.size), fun t h => hout t (hcon t h), fun i t s h1 h2 => hin i t s (hmem i t s h1) (List.contains_iff_mem.1 h2)⟩)
    (fun a' w' hb hsz hdf hout hin => wpAny_done hdone (hrest a' w' ⟨hb0.trans (hb.mono hb0.size), hsz, hdf, fun t h => hout t (hcon t h), fun i t s h => hin i t s (hmem i t s h)⟩) 0)
  rw [Nat.zero_add] at main
  exact main
/-- As wp_tab; what comes behind finds the frame written out, the table's slots holding values g i. -/
theorem wp_tabL (f : Func) (r : Nat) (D : List (Nat × Tmp × Sp)) {id : Nat} {ops' : Array Oper} {a : Act} {w : World} (hops : opsOf f r = ops') (hm : P.follows .mixedOrders = true)
    (hlen : (opsOf f r).size = D.length) (hok : tabOk .any (opsOf f r) (entries D) 0 (Array.replicate D.length false) a.tmps.size = true)
    (hdone : Region.ready .any (opsOf f r) (markAll ((entries D).map (·.1)) (Array.replicate D.length false)) = [])
    (steps : EachX (fun x => ∀ (a' : Act) (w' : World), Found .any (opsOf f r) D x.1 w a a' w' → ∃ o, (opsOf f r)[x.1]? = some o ∧ Region.wanted o (yielded (opsOf f r) a'.tmps) = true ∧ Arm P Q o a' w' x.2.2) D)
    (hrest : ∀ (g : Nat → Value) w', Below w.heap.size w w' → (∀ (i : Nat) (t : Tmp) (s : Sp), D[i]? = some (i, t, s) → s.p w' (g i)) → Q .normal (putD (entries D) g a) w') : (Code.region id ops' true).wp P Q a w := by
  subst hops
  refine wp_region_any hm ?_
  have hb0 : Below w.heap.size w w.drew := bel_drewN (Below.refl _ _) 1
  change wpAny P .any _ Q _ _ _ w.drew
  rw [hlen]
  have hcon : ∀ t, ((entries D).map (·.2)).contains t = false → t ∉ (entries D).map (·.2) := fun t h hm => by
    rw [List.contains_iff_mem.2 hm] at h; cases h
  have hmem : ∀ (i : Nat) (t : Tmp) (s : Sp), D[i]? = some (i, t, s) → (i, t, s) ∈ D := fun i t s h => List.mem_of_getElem? h
  have main := wpAny_tab0 (P := P) (Q := Q) (fuel := 0) D 0 (l := Array.replicate D.length false) (a := a) (w := w.drew) a.tmps.size rfl hok
    (fun x hx a' w' hb hout hin => steps.mem x hx a' w' ⟨hb0.trans (hb.mono hb0.size), fun t h => hout t (hcon t h), fun i t s h1 h2 => hin i t s (hmem i t s h1) (List.contains_iff_mem.1 h2)⟩)
    (fun g w' hb hin => wpAny_done hdone (hrest g w' (hb0.trans (hb.mono hb0.size)) (fun i t s h => hin i t s (hmem i t s h))) 0)
  rw [Nat.zero_add] at main
  exact main
theorem res_tmp {fn : Func} {p : Tmp} (h : fn.results = #[.tmp p]) {tmps : Array Value} {w : World} {v : Value} (hp : tmps[p]? = some v) : (results fn tmps).run P w = .ok v w := by
  simp [results, h, hp, go_sem]
theorem wanted_none {o : Oper} {y : Nat → Option Bool} (h : o.guard = none) : Region.wanted o y = true := by unfold Region.wanted; rw [h]
theorem wanted_some {o : Oper} {a : Act} {w : World} {g : Nat} {b : Bool} {t : Tmp} (h : o.guard = some (g, b)) (hg : dstOf ops g = some t) (hh : Has a w t (.val (.bool b))) : Region.wanted o (yielded ops a.tmps) = true := by
  unfold Region.wanted
  rw [h]
  show (yielded ops a.tmps g == some b) = true
  unfold yielded
  obtain ⟨v, h1, h2⟩ := hh
  have h3 : v = .bool b := h2
  subst h3
  have : (ops[g]?).bind (·.dst) = some t := by
    unfold dstOf at hg
    cases ho : ops[g]? with
    | none => rw [ho] at hg; cases hg
    | some o => rw [ho] at hg; exact hg
  rw [this]
  simp only [Option.bind_some, h1]
  simp
theorem Arm.weaken {o : Oper} {a : Act} {w : World} {s s' : Sp} (h : Arm P Q o a w s) (hs : ∀ w v, s.p w v → s'.p w v) : Arm P Q o a w s' :=
  fun K hK => h K (fun v w' h1 h2 => hK v w' (hs _ _ h1) h2)
theorem arm_run {o : Oper} {a : Act} {w : World} {s : Sp} (v : Value) (hr : (execOp a.eval o).run P w = .ok (.value v) w) (hv : s.p w v) : Arm P Q o a w s := by
  intro K hK
  unfold Oper.wp
  rw [hr]
  exact hK v w hv (Below.refl _ _)
theorem arm_move {o : Oper} {a : Act} {w : World} {s : Sp} {x : Operand} (ho : o.op = .move x ∨ o.op = .assign x) (hx : Is a w x s) : Arm P Q o a w s := by
  refine arm_run (a.eval x) ?_ hx
  rcases ho with ho | ho <;> (unfold execOp; rw [ho]; rfl)
theorem arm_pick {o : Oper} {a : Act} {w : World} {s : Sp} {c x y : Operand} {b : Bool} (ho : o.op = .pick c x y) (hc : Is a w c (.val (.bool b))) (hx : b = true → Is a w x s) (hy : b = false → Is a w y s) : Arm P Q o a w s := by
  have hc' : a.eval c = .bool b := hc
  refine arm_run (if b then a.eval x else a.eval y) ?_ ?_
  · unfold execOp
    rw [ho]
    simp only [hc']
    cases b <;> rfl
  · cases b
    · exact hy rfl
    · exact hx rfl
/-- An operation on constants. -/
theorem arm_call {o : Oper} {a : Act} {w : World} {s : Sp} {f : FuncId} {xs : Array Operand} {tt : Array TypeId} {R : Ending → World → Prop} (ho : o.op = .call { callee := .value (.func f), args := xs, argTypes := tt })
    (hen : ∀ (vs : Array Value) w, (callFunc f vs).run P w = .ok (.enter f vs) w) (hc : Calls P f (xs.map a.eval) w R) (hR : ∀ e w', R e w' → ∃ v, e = .returned v ∧ s.p w' v ∧ Below w.heap.size w w') : Arm P Q o a w s := by
  intro K hK
  unfold Oper.wp
  have : (execOp a.eval o).run P w = .ok (.enter f (xs.map a.eval)) w := by
    simp [execOp, ho, resolve, invoke, Deferred.ofValue, Act.eval, hen, Result.andThen]
  rw [this, Oper.upon_enter]
  refine hc.mono ?_
  intro e w' hr
  obtain ⟨v, rfl, h1, h2⟩ := hR e w' hr
  exact hK v w' h1 h2
end
end Go.Proofs.Ythpndmamegfbkaa
