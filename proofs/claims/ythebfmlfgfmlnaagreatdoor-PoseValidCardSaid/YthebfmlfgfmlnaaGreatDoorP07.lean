/- An executor: wholes, operators, all operations that make a value. An executor: the effect of an operation. An executor: stores; every operation has the effect that is reckoned. An executor: regions, code, functions. -/
import Derived.Test.YthebfmlfgfmlnaaGreatDoorP06
import Derived.Laws.Sem
namespace Go.Proofs.YthebfmlfgfmlnaaGreatDoor
set_option linter.unusedSimpArgs false
set_option linter.unusedVariables false
set_option maxRecDepth 100000
open Go.RowKit
section
variable {p : Program} {ρ : Rho} {B : Blk} {a : Act} {w : World} {L : List OIns} {lk : Nat → Option AV} {c : AV} {rd : List Nat} {o : Oper}
theorem run_listMapM {α β : Type} (f : α → Sem β) (g : α → β) : ∀ (xs : List α), (∀ x ∈ xs, (f x).run p w = .ok (g x) w) → (xs.mapM f).run p w = .ok (xs.map g) w
  | [], _ => by simp
  | x :: xs, h => by
    have ih := run_listMapM f g xs (fun y hy => h y (List.mem_cons_of_mem _ hy))
    simp only [List.mapM_cons, Sem.run_bind, h x (by simp), Result.andThen, ih, Sem.run_pure, List.map_cons]
theorem run_arrMapM {α β : Type} (f : α → Sem β) (g : α → β) (xs : Array α) (h : ∀ x ∈ xs.toList, (f x).run p w = .ok (g x) w) : (xs.mapM f).run p w = .ok (xs.map g) w := by
  obtain ⟨l⟩ := xs
  have := run_listMapM f g l (by simpa using h)
  simp only [List.mapM_toArray, map_eq_pure_bind, Sem.run_bind, this, Result.andThen, Sem.run_pure, List.map_toArray]
theorem evParts_holds : ∀ {ps : List (Nat × Operand)} {ss : List (Nat × SV)}, evParts lk ps = some ss → (∀ x ∈ ps, KnowsO ρ B a w lk x.2) →
    (ps.map (fun x => (x.1, a.eval x.2))).map (·.1) = ss.map (·.1) ∧ SVsH ρ B w (ss.map (·.2)) ((ps.map (fun x => (x.1, a.eval x.2))).map (·.2))
  | [], ss, h, _ => by simp [evParts] at h; subst h; exact ⟨rfl, trivial⟩
  | (i, x) :: r, ss, h, H => by
    simp only [evParts] at h
    split at h
    · rename_i s l h1 h2
      simp at h; subst h
      obtain ⟨e1, e2⟩ := evParts_holds h2 (fun y hy => H y (List.mem_cons_of_mem _ hy))
      exact ⟨by simpa using e1, evS_k (H (i, x) (by simp)) h1, e2⟩
    · cases h
theorem zeroL_holds {t : TypeId} {z : List Leaf} (h : zeroL p t = some z) : ∃ v, (zeroValue t).run p w = .ok v w ∧ LeavesH ρ B w z v.cells.toList := by
  unfold zeroL at h
  split at h
  · rename_i v hv
    exact ⟨v, run_zeroV hv, leavesC_holds h⟩
  · cases h
theorem makes_build {t : TypeId} {ps : Array (Nat × Operand)} (ho : o.op = .build t ps) (h : pureV p L lk (.build t ps) = some (c, rd)) (H : ∀ x ∈ ps.toList, KnowsO ρ B a w lk x.2) : Makes p ρ B a w o c := by
  simp only [pureV] at h
  split at h
  · rename_i z ss fs h1 h2 hu
    obtain ⟨zv, hz, hz2⟩ := zeroL_holds (ρ := ρ) (B := B) (w := w) h1
    obtain ⟨e1, e2⟩ := evParts_holds h2 H
    split at h
    · rename_i hall
      cases hf : fillA (placeS p fs) z ss with
      | none => rw [hf] at h; cases h
      | some ls =>
        rw [hf] at h; simp at h; obtain ⟨rfl, rfl⟩ := h
        let g : Field → Nat × Nat := fun f => (f.offset, (szB p f.type).getD 0)
        have hm : (fs.mapM (fun f => do pure (f.offset, ← sizeOf f.type) : Field → Sem (Nat × Nat))).run p w = .ok (fs.map g) w := by
          refine run_arrMapM _ g fs (fun f hf => ?_)
          have h3 : (szB p f.type).isSome = true := by
            have := Array.all_eq_true.1 hall
            obtain ⟨i, hi, rfl⟩ := List.getElem_of_mem hf
            simp only [Array.getElem_toList]
            exact this i (by simpa using hi)
          cases hs : szB p f.type with
          | none => rw [hs] at h3; cases h3
          | some n => simp only [Sem.run_bind, run_size hs, Result.andThen, Sem.run_pure]; show _ = Result.ok (f.offset, (szB p f.type).getD 0) w; rw [hs]; rfl
        have hpl : placeS p fs = fun i => (fs.map g)[i]? := by
          funext i
          unfold placeS
          rw [Array.getElem?_map]
          cases hi : fs[i]? with
          | none => rfl
          | some f =>
            have h3 : (szB p f.type).isSome = true := by
              have := Array.all_eq_true.1 hall
              obtain ⟨_, rfl⟩ := Array.getElem?_eq_some_iff.1 hi
              exact this i (Array.getElem?_eq_some_iff.1 hi).1
            cases hs : szB p f.type with
            | none => rw [hs] at h3; cases h3
            | some n => show Option.map _ (szB p f.type) = some (f.offset, (szB p f.type).getD 0); rw [hs]; rfl
        rw [hpl] at hf
        obtain ⟨out, h4, h5⟩ := fill_holds hf e1 e2 hz2
        refine ⟨.agg out, ?_, out.toList, by rw [Array.toArray_toList], h5⟩
        have e3 : (ps.map (fun x => (x.1, a.eval x.2))).toList = ps.toList.map (fun x => (x.1, a.eval x.2)) := by simp
        unfold execOp; rw [ho]
        simp only [Instr.build, Sem.run_bind, hz, run_underlying hu, Result.andThen, hm, e3, h4, Sem.run_pure]
    · cases h
  · rename_i z ss len e h1 h2 hu
    obtain ⟨zv, hz, hz2⟩ := zeroL_holds (ρ := ρ) (B := B) (w := w) h1
    obtain ⟨e1, e2⟩ := evParts_holds h2 H
    split at h
    · rename_i n hn
      cases hf : fillA (fun i => some (i * n, n)) z ss with
      | none => rw [hf] at h; cases h
      | some ls =>
        rw [hf] at h; simp at h; obtain ⟨rfl, rfl⟩ := h
        obtain ⟨out, h4, h5⟩ := fill_holds hf e1 e2 hz2
        refine ⟨.agg out, ?_, out.toList, by rw [Array.toArray_toList], h5⟩
        have e3 : (ps.map (fun x => (x.1, a.eval x.2))).toList = ps.toList.map (fun x => (x.1, a.eval x.2)) := by simp
        unfold execOp; rw [ho]
        simp only [Instr.build, Sem.run_bind, hz, run_underlying hu, Result.andThen, run_size hn, e3, h4, Sem.run_pure]
    · cases h
  · cases h
theorem litBin_run {op : BinOp} {x y l : Leaf} {vx vy : Value} {t : TypeId} {xo yo : Operand} (h : litBin (isBoolB p t) op x y = some l) (hx : x.holds ρ B w vx) (hy : y.holds ρ B w vy) :
    ∃ v, l.holds ρ B w v ∧ ((do eqGuard op t xo yo vx vy; binOp op t vx vy : Sem Value)).run p w = .ok v w := by
  unfold litBin at h
  split at h
  · rename_i b1 b2
    have e1 : vx = .bool b1 := hx
    have e2 : vy = .bool b2 := hy
    subst e1; subst e2
    split at h
    · rename_i hb
      have hu : p.underlying t = some .bool := by
        unfold isBoolB at hb
        split at hb
        · assumption
        · cases hb
      have he : (Op.equal t (.bool b1) (.bool b2)).run p w = .ok (b1 == b2) w := by
        unfold Op.equal Op.maxDepth Op.equalIn
        rw [Sem.run_bind, run_underlying hu]; rfl
      cases op <;> simp only [Option.some.injEq, reduceCtorEq] at h <;> (subst h; refine ⟨_, rfl, ?_⟩; simp [eqGuard, binOp, Sem.run_bind, he, Result.andThen])
    · cases h
  · rename_i k1 n1 k2 n2
    have e1 : vx = .int k1 n1 := hx
    have e2 : vy = .int k2 n2 := hy
    subst e1; subst e2
    split at h
    · rename_i hk; subst hk
      cases op <;> simp only [Option.some.injEq, reduceCtorEq] at h <;> (subst h; refine ⟨_, rfl, ?_⟩; simp [eqGuard, binOp, Op.intCmp, Op.intArith, Sem.run_bind, Result.andThen]) <;> rfl
    · cases h
  · cases h
theorem findO_ok (hO : ∀ i ∈ L, i.Ok p ρ) {k : Key} {xs : List SV} {s : SV} (h : findO L k xs = some s) : (OIns.mk k xs s).Ok p ρ := by
  unfold findO at h
  split at h
  · rename_i i hi
    simp at h; subst h
    have h1 := List.find?_some hi
    simp only [Bool.and_eq_true, decide_eq_true_eq] at h1
    have := hO i (List.mem_of_find?_eq_some hi)
    obtain ⟨k', xs', r'⟩ := i
    obtain ⟨rfl, rfl⟩ := h1
    exact this
  · cases h
theorem makes_bin (hO : ∀ i ∈ L, i.Ok p ρ) {op : BinOp} {t ty : TypeId} {x y : Operand} (ho : o.op = .binOp op t x y ty) (h : pureV p L lk (.binOp op t x y ty) = some (c, rd)) (Hx : KnowsO ρ B a w lk x) (Hy : KnowsO ρ B a w lk y) : Makes p ρ B a w o c := by
  have fin : ∀ v, ((do eqGuard op t x y (a.eval x) (a.eval y); binOp op t (a.eval x) (a.eval y) : Sem Value)).run p w = .ok v w → (execOp a.eval o).run p w = .ok (.value v) w := by
    intro v hv
    unfold execOp; rw [ho]
    simp only
    rw [Sem.run_bind, hv]; rfl
  simp only [pureV] at h
  have orac : ∀ (s1 s2 : SV), s1.holds ρ B w (a.eval x) → s2.holds ρ B w (a.eval y) → (findO L (.bin op t) [s1, s2]).map (fun s => (AV.v s, ([] : List Nat))) = some (c, rd) → Makes p ρ B a w o c := by
    intro s1 s2 hs1 hs2 hf
    cases e : findO L (.bin op t) [s1, s2] with
    | none => rw [e] at hf; cases hf
    | some s =>
      rw [e] at hf; simp at hf; obtain ⟨rfl, _⟩ := hf
      obtain ⟨v, h1, h2⟩ := (findO_ok hO e) B w [a.eval x, a.eval y] ⟨hs1, hs2, trivial⟩
      exact ⟨v, fin v (h2 x y), h1⟩
  split at h
  · rename_i s1 s2 e1 e2
    split at h
    · rename_i l hl
      simp at h; obtain ⟨rfl, _⟩ := h
      obtain ⟨v, h1, h2⟩ := litBin_run (xo := x) (yo := y) hl (evS_k Hx e1) (evS_k Hy e2)
      exact ⟨v, fin v h2, h1⟩
    · exact orac _ _ (evS_k Hx e1) (evS_k Hy e2) h
  · rename_i s1 s2 _ e1 e2
    exact orac _ _ (evS_k Hx e1) (evS_k Hy e2) h
  · cases h
theorem makes_un (hO : ∀ i ∈ L, i.Ok p ρ) {op : UnOp} {t : TypeId} {x : Operand} (ho : o.op = .unOp op t x) (h : pureV p L lk (.unOp op t x) = some (c, rd)) (Hx : KnowsO ρ B a w lk x) : Makes p ρ B a w o c := by
  have fin : ∀ v, (Op.unary op (a.eval x)).run p w = .ok v w → (execOp a.eval o).run p w = .ok (.value v) w := by
    intro v hv
    unfold execOp; rw [ho]
    simp only
    rw [Sem.run_bind, hv]; rfl
  have orac : ∀ (s1 : SV), s1.holds ρ B w (a.eval x) → (findO L (.un op) [s1]).map (fun s => (AV.v s, ([] : List Nat))) = some (c, rd) → Makes p ρ B a w o c := by
    intro s1 hs1 hf
    cases e : findO L (.un op) [s1] with
    | none => rw [e] at hf; cases hf
    | some s =>
      rw [e] at hf; simp at hf; obtain ⟨rfl, _⟩ := hf
      obtain ⟨v, h1, h2⟩ := (findO_ok hO e) B w [a.eval x] ⟨hs1, trivial⟩
      exact ⟨v, fin v h2, h1⟩
  cases op with
  | not =>
    simp only [pureV] at h
    split at h
    · rename_i b e
      simp at h; obtain ⟨rfl, _⟩ := h
      have e1 : a.eval x = .bool b := evL_k Hx e
      exact ⟨_, fin (.bool (!b)) (by rw [e1]; rfl), rfl⟩
    · rename_i l _ e
      exact orac (.one l) (evL_k Hx e) h
    · cases h
  | _ =>
    simp only [pureV] at h
    split at h
    · rename_i s e
      exact orac _ (evS_k Hx e) h
    · cases h
theorem makes_conv (hO : ∀ i ∈ L, i.Ok p ρ) {s d : TypeId} {x : Operand} (ho : o.op = .convert s d x) (h : pureV p L lk (.convert s d x) = some (c, rd)) (Hx : KnowsO ρ B a w lk x) : Makes p ρ B a w o c := by
  have fin : ∀ v, (convert s d (a.eval x)).run p w = .ok v w → (execOp a.eval o).run p w = .ok (.value v) w := by
    intro v hv
    unfold execOp; rw [ho]
    simp only
    rw [Sem.run_bind, hv]; rfl
  have orac : ∀ (s1 : SV), s1.holds ρ B w (a.eval x) → (findO L (.conv s d) [s1]).map (fun s => (AV.v s, ([] : List Nat))) = some (c, rd) → Makes p ρ B a w o c := by
    intro s1 hs1 hf
    cases e : findO L (.conv s d) [s1] with
    | none => rw [e] at hf; cases hf
    | some s =>
      rw [e] at hf; simp at hf; obtain ⟨rfl, _⟩ := hf
      obtain ⟨v, h1, h2⟩ := (findO_ok hO e) B w [a.eval x] ⟨hs1, trivial⟩
      exact ⟨v, fin v h2, h1⟩
  simp only [pureV] at h
  split at h
  · rename_i k0 n k1 k e1 e2 e3
    simp at h; obtain ⟨rfl, _⟩ := h
    have e4 : a.eval x = .int k0 n := evL_k Hx e1
    refine ⟨_, fin (.int k (k.wrap n)) ?_, rfl⟩
    rw [e4]; unfold convert
    rw [Sem.run_bind, run_underlying e2]
    simp only [Result.andThen]
    rw [Sem.run_bind, run_underlying e3]; rfl
  · rename_i l _ e
    exact orac (.one l) (evL_k Hx (by assumption)) h
  · split at h
    · rename_i s1 e
      exact orac _ (evS_k Hx e) h
    · cases h
theorem makes_len (hO : ∀ i ∈ L, i.Ok p ρ) {k : Call} (ho : o.op = .call k) (h : pureV p L lk (.call k) = some (c, rd)) (H : ∀ x ∈ k.args.toList, KnowsO ρ B a w lk x) : Makes p ρ B a w o c := by
  obtain ⟨cal, args, tt⟩ := k
  simp only [pureV] at h
  split at h
  · rename_i x t e2 ht
    split at h
    · rename_i s e
      cases e3 : findO L (.len t) [s] with
      | none => rw [e3] at h; cases h
      | some r =>
        rw [e3] at h; simp at h; obtain ⟨rfl, _⟩ := h
        obtain ⟨v, h1, h2⟩ := (findO_ok hO e3) B w [a.eval x] ⟨evS_k (H x (by simp [e2])) e, trivial⟩
        refine ⟨v, ?_, h1⟩
        have ea : args = #[x] := by
          obtain ⟨l⟩ := args
          simp only at e2
          subst e2; rfl
        subst ea
        unfold execOp; rw [ho]
        simp only [resolve, Sem.run_bind, Sem.run_pure, Result.andThen, invoke, builtin]
        have := h2 tt o.type ht
        simp only [List.map_toArray, List.map_cons, List.map_nil]
        rw [this]
    · cases h
  · cases h
theorem makes_all (hO : ∀ i ∈ L, i.Ok p ρ) (h : pureV p L lk o.op = some (c, rd)) (H : ∀ x ∈ o.op.operands.toList, KnowsO ρ B a w lk x) (H2 : ∀ y ∈ rd, ∀ c, lk y = some c → LocH ρ B a w y c) : Makes p ρ B a w o c := by
  obtain ⟨op, ho⟩ : ∃ op, o.op = op := ⟨_, rfl⟩
  rw [ho] at h H
  cases op with
  | move x => exact makes_move (.inl ho) h (H x (by simp [Op.operands]))
  | assign x => exact makes_move (.inr ho) h (H x (by simp [Op.operands]))
  | pick k x y => exact makes_pick ho h (H k (by simp [Op.operands])) (H x (by simp [Op.operands])) (H y (by simp [Op.operands]))
  | extract x k => exact makes_extract ho h (H x (by simp [Op.operands]))
  | load t x => exact makes_load ho h (H x (by simp [Op.operands])) H2
  | fieldAddr t x f => exact makes_fieldAddr ho h (H x (by simp [Op.operands]))
  | indexAddr t x ix => exact makes_indexAddr ho h (H x (by simp [Op.operands])) (H ix (by simp [Op.operands]))
  | build t ps => exact makes_build ho h (fun x hx => H x.2 (by simp only [Op.operands, List.mem_map]; exact ⟨x, hx, rfl⟩))
  | field t x f => exact makes_field ho h (H x (by simp [Op.operands]))
  | index t x ix => exact makes_index ho h (H x (by simp [Op.operands])) (H ix (by simp [Op.operands]))
  | binOp op t x y ty => exact makes_bin hO ho h (H x (by simp [Op.operands])) (H y (by simp [Op.operands]))
  | unOp op t x => exact makes_un hO ho h (H x (by simp [Op.operands]))
  | convert s d x => exact makes_conv hO ho h (H x (by simp [Op.operands]))
  | call k => exact makes_len hO ho h (fun x hx => H x (by simp only [Op.operands, Call.operands, Array.toList_append, List.mem_append]; exact .inr hx))
  | _ => simp [pureV] at h
theorem svsA_holds : ∀ {xs : List Operand} {ss : List SV}, svsA lk xs = some ss → (∀ x ∈ xs, KnowsO ρ B a w lk x) → SVsH ρ B w ss (xs.map a.eval)
  | [], ss, h, _ => by simp [svsA] at h; subst h; trivial
  | x :: xs, ss, h, H => by
    simp only [svsA] at h
    split at h
    · rename_i s l h1 h2
      simp at h; subst h
      exact ⟨evS_k (H x (by simp)) h1, svsA_holds h2 (fun y hy => H y (List.mem_cons_of_mem _ hy))⟩
    · cases h
theorem makes_gen (hO : ∀ i ∈ L, i.Ok p ρ) {k : Key} {xs : List Operand} {ss : List SV} {s : SV} (hg : genO o.op = some (k, xs)) (hs : svsA lk xs = some ss) (hf : findO L k ss = some s) (H : ∀ x ∈ xs, KnowsO ρ B a w lk x) : Makes p ρ B a w o (.v s) := by
  have hv := svsA_holds hs H
  have hk := (findO_ok hO hf) B w _ hv
  obtain ⟨op, ho⟩ : ∃ op, o.op = op := ⟨_, rfl⟩
  rw [ho] at hg
  unfold genO at hg
  split at hg <;> first | (cases hg; done) | skip
  all_goals
    simp only [Option.some.injEq, Prod.mk.injEq] at hg
    obtain ⟨rfl, rfl⟩ := hg
    obtain ⟨v, h1, h2⟩ := hk
    refine ⟨v, ?_, h1⟩
    unfold execOp
    rw [ho]
    simp only [Option.map_some, Option.map_none]
    rw [Sem.run_bind]
    first | rw [h2] | skip
    rfl
theorem genO_sub {op : Op} {k : Key} {xs : List Operand} (hg : genO op = some (k, xs)) : ∀ x ∈ xs, x ∈ op.operands.toList := by
  unfold genO at hg
  split at hg <;> first | (cases hg; done) | skip
  all_goals
    simp only [Option.some.injEq, Prod.mk.injEq] at hg
    obtain ⟨rfl, rfl⟩ := hg
    simp [Op.operands]
theorem makes_any (hO : ∀ i ∈ L, i.Ok p ρ) (h : pureA p L lk o.op = some (c, rd)) (H : ∀ x ∈ o.op.operands.toList, KnowsO ρ B a w lk x) (H2 : ∀ y ∈ rd, ∀ c, lk y = some c → LocH ρ B a w y c) : Makes p ρ B a w o c := by
  unfold pureA at h
  split at h
  · rename_i r hr
    simp only [Option.some.injEq] at h
    subst h
    exact makes_all hO hr H H2
  · split at h
    · rename_i c' hn
      simp only [Option.some.injEq, Prod.mk.injEq] at h
      obtain ⟨rfl, rfl⟩ := h
      obtain ⟨op, ho⟩ : ∃ op, o.op = op := ⟨_, rfl⟩
      rw [ho] at hn H
      unfold nilO at hn
      split at hn
      · rename_i x
        split at hn
        · rename_i v off e
          simp only [Option.some.injEq] at hn
          subst hn
          obtain ⟨g, hg, e1⟩ := (evL_k (H x (by simp [Op.operands])) e : Leaf.holds ρ B w (.ptr v off) (a.eval x))
          refine ⟨_, ?_, g, hg, rfl⟩
          unfold execOp
          rw [ho]
          simp only [e1]
          rfl
        · cases hn
      · cases hn
    · split at h
      · rename_i k xs hg
        split at h
        · rename_i ss hs
          cases hf : findO L k ss with
          | none => rw [hf] at h; cases h
          | some s =>
            rw [hf] at h
            simp only [Option.map_some, Option.some.injEq, Prod.mk.injEq] at h
            obtain ⟨rfl, rfl⟩ := h
            exact makes_gen hO hg hs hf (fun x hx => H x (genO_sub hg x hx))
        · cases h
      · cases h
end
end Go.Proofs.YthebfmlfgfmlnaaGreatDoor
namespace Go.Proofs.YthebfmlfgfmlnaaGreatDoor
set_option linter.unusedSimpArgs false
set_option linter.unusedVariables false
set_option maxRecDepth 100000
open Go.RowKit
/-- What a call gives: asked of whoever uses it. -/
structure Inst where
  f : FuncId
  args : List SV
  res : AV
def Inst.Ok (p : Program) (ρ : Rho) (i : Inst) : Prop :=
  (∀ (vs : Array Value) (w : World), (callFunc i.f vs).run p w = .ok (.enter i.f vs) w) ∧
  ∀ (B : Blk) (w : World) (vs : List Value), BOk B w.heap.size → SVsH ρ B w i.args vs → Calls p i.f vs.toArray w (fun e w' => ∃ v, e = .returned v ∧ i.res.holds ρ B w' v ∧ Below w.heap.size w w')
/-- The same, of worlds that come behind w0 with its memory as it was. -/
def Inst.Ok0 (p : Program) (ρ : Rho) (w0 : World) (i : Inst) : Prop :=
  (∀ (vs : Array Value) (w : World), (callFunc i.f vs).run p w = .ok (.enter i.f vs) w) ∧
  ∀ (B : Blk) (w : World) (vs : List Value), Below w0.heap.size w0 w → BOk B w.heap.size → SVsH ρ B w i.args vs → Calls p i.f vs.toArray w (fun e w' => ∃ v, e = .returned v ∧ i.res.holds ρ B w' v ∧ Below w.heap.size w w')
theorem Inst.Ok.to0 {p : Program} {ρ : Rho} {i : Inst} (h : i.Ok p ρ) (w0 : World) : i.Ok0 p ρ w0 := ⟨h.1, fun B w vs _ hB hv => h.2 B w vs hB hv⟩
def wrD (d : Option Tmp) (c : AV) : List (Nat × AV) := match d with | some d => [(d, c)] | none => []
def okD (nt : Nat) (d : Option Tmp) : Bool := match d with | some d => decide (d < nt) && decide (d < 100000) | none => true
def cellsWr (v : Nat) : Nat → List Leaf → List (Nat × AV)
  | _, [] => []
  | k, l :: ls => (locC v k, .v (.one l)) :: cellsWr v (k + 1) ls
def allFlat (ls : List Leaf) : Bool := ls.all Leaf.flat
def findC (C : List Inst) (f : FuncId) (xs : List SV) : Option AV := match C.find? (fun i => decide (i.f = f) && decide (i.args = xs)) with | some i => some i.res | none => none
def rdOs (op : Op) : List Nat := op.operands.toList.flatMap rdO
/-- The effect of an operation; the variable that it makes. -/
def effO (p : Program) (C : List Inst) (L : List OIns) (nt : Nat) (lk : Nat → Option AV) (vts : List (TypeId × Nat)) (o : Oper) : Option (Eff × List (TypeId × Nat)) :=
  if !okD nt o.dst then none else
  let pv : Option (Eff × List (TypeId × Nat)) := match pureA p L lk o.op with
    | some (c, rd) => some (⟨rdOs o.op ++ rd, wrD o.dst c, none⟩, [])
    | none => none
  match o.op with
  | .alloc t => match o.dst, zeroL p t with
    | some d, some z => if allFlat z ∧ z.length ≤ 100000 ∧ vts.length < OW then some (⟨[], (d, .v (.one (.ptr vts.length 0))) :: cellsWr vts.length 0 z, some vts.length⟩, [(t, z.length)]) else none
    | _, _ => none
  | .box t x => match o.dst, evS lk x with
    | some d, some s => if allFlat s.leaves ∧ s.leaves.length ≤ 100000 ∧ vts.length < OW then some (⟨rdO x, (d, .v (.one (.ptr vts.length 0))) :: cellsWr vts.length 0 s.leaves, some vts.length⟩, [(t, s.leaves.length)]) else none
    | _, _ => none
  | .store t x y => match o.dst, evL lk x, evS lk y with
    | none, some (.ptr v off), some s => match vts[v]? with
      | some (_, n) => if szB p t = some s.leaves.length ∧ allFlat s.leaves ∧ off + s.leaves.length ≤ n ∧ n ≤ 100000 ∧ v < OW then some (⟨rdO x ++ rdO y, cellsWr v off s.leaves, none⟩, []) else none
      | none => none
    | _, _, _ => none
  | .call k => match k.callee with
    | .value z => match evL lk z, svsA lk k.args.toList with
      | some (.fn f), some xs => (findC C f xs).map fun r => (⟨rdOs o.op, wrD o.dst r, none⟩, [])
      | _, _ => none
    | _ => pv
  | .buildSlice t n parts => match o.dst, svsA lk (parts.toList.map (·.2)) with
    | some _, some xs => (findO L (.bs t n (parts.toList.map (·.1))) xs).map fun r => (⟨rdOs o.op, wrD o.dst (.v r), none⟩, [])
    | _, _ => none
  | _ => pv
/-- With the operation's guard. -/
def effG (p : Program) (C : List Inst) (L : List OIns) (nt : Nat) (ops : Array Oper) (lk : Nat → Option AV) (vts : List (TypeId × Nat)) (o : Oper) : Option (Eff × List (TypeId × Nat)) :=
  match o.guard with
  | none => effO p C L nt lk vts o
  | some (g, b) => match dstOf ops g with
    | some t => match evA lk (.tmp t) with
      | some (.v (.one (.b x))) => if x = b then (effO p C L nt lk vts o).map fun e => ({ e.1 with rd := t :: e.1.rd }, e.2) else if okD nt o.dst then some (⟨[t], wrD o.dst .any, none⟩, []) else none
      | some .any => if okD nt o.dst then some (⟨[t], wrD o.dst .any, none⟩, []) else none
      | _ => none
    | none => none
section
variable {p : Program} {ρ : Rho} {B B' : Blk} {a a' : Act} {w w' w0 : World} {C : List Inst} {L : List OIns} {lk : Nat → Option AV} {vt : List (TypeId × Nat)} {nt : Nat} {Q : Exit → Act → World → Prop} {o : Oper} {ops : Array Oper}
theorem LocH.below {x : Nat} {c : AV} (h : LocH ρ B a w x c) (hB : BLe B B') (hN : BNew w.heap.size B B') (hb : Below w.heap.size w w') (ht : x < 100000 → a'.tmps[x]? = a.tmps[x]?) : LocH ρ B' a' w' x c := by
  unfold LocH at h ⊢
  split at h
  · rename_i hx
    rw [if_pos hx]
    obtain ⟨u, h1, h2⟩ := h
    exact ⟨u, by rw [ht hx]; exact h1, h2.mono hB hN hb⟩
  · rename_i hx
    rw [if_neg hx]
    obtain ⟨g, cs, ty, u, h1, h2, h3, h4⟩ := h
    exact ⟨g, cs, ty, u, hB _ _ h1, by rw [hb.block g (Array.getElem?_eq_some_iff.1 h2).1]; exact h2, h3, h4.mono hB hN hb⟩
theorem Inv.below' (h : Inv vt w0 nt B a w) (hb : Below w.heap.size w w') (hs : a'.tmps.size = a.tmps.size) (hd : a'.defers = a.defers) : Inv vt w0 nt B a' w' :=
  ⟨fun v g hl hv => by
    obtain ⟨h1, cs, ty, h2, h3, h4⟩ := h.blk v g hl hv
    exact ⟨h1, cs, ty, h2, by rw [hb.block g (Array.getElem?_eq_some_iff.1 h3).1]; exact h3, h4⟩,
   fun v g hl hv => by
    obtain ⟨h1, h2, cs, t, h3, h4⟩ := h.own v g hl hv
    exact ⟨h1, Nat.lt_of_lt_of_le h2 hb.size, cs, t, by rw [hb.block g h2]; exact h3, h4⟩,
   h.inj, h.below.trans (hb.mono h.below.size), by rw [hs, h.size], by rw [hd, h.dfr]⟩
theorem put_size (d : Option Tmp) (v : Value) : (a.put d v).tmps.size = a.tmps.size := by cases d <;> simp [Act.put]
theorem put_dfr (d : Option Tmp) (v : Value) : (a.put d v).defers = a.defers := by cases d <;> rfl
theorem put_ne {d : Option Tmp} {v : Value} {x : Nat} (h : ∀ t, d = some t → t ≠ x) : (a.put d v).tmps[x]? = a.tmps[x]? := by
  cases d with
  | none => rfl
  | some t => simp [Act.put, Array.getElem?_setIfInBounds, h t rfl]
theorem put_eq {d : Tmp} {v : Value} (h : d < a.tmps.size) : (a.put (some d) v).tmps[d]? = some v := by simp [Act.put, h]
/-- An operation that makes a value and only adds to the world, no variable. -/
theorem post_value {rd : List Nat} {d : Option Tmp} {c : AV} {v : Value} (hi : Inv vt w0 nt B a w) (hd : okD nt d = true) (hb : Below w.heap.size w w') (hv : c.holds ρ B w' v) :
    Post ρ vt w0 nt ⟨rd, wrD d c, none⟩ B a w B (a.put d v) w' := by
  refine ⟨BLe.refl, hi.below' hb (put_size _ _) (put_dfr _ _), fun q hq => ?_, fun x c' hx hne => hx.below BLe.refl .refl hb (fun _ => put_ne (fun t ht => ?_)), fun u h1 h2 => absurd h1 h2⟩
  · cases d with
    | none => cases hq
    | some t =>
      simp only [wrD, List.mem_singleton] at hq
      subst hq
      simp only [okD, Bool.and_eq_true, decide_eq_true_eq] at hd
      unfold LocH
      rw [if_pos hd.2]
      exact ⟨v, put_eq (by rw [hi.size]; exact hd.1), hv⟩
  · subst ht
    exact hne (t, c) (by simp [wrD])
theorem wr_mem : ∀ {ls : List Leaf} {v k : Nat} {q : Nat × AV}, q ∈ cellsWr v k ls ↔ ∃ j l, ls[j]? = some l ∧ q = (locC v (k + j), .v (.one l))
  | [], v, k, q => by simp [cellsWr]
  | l :: ls, v, k, q => by
    simp only [cellsWr, List.mem_cons, wr_mem (ls := ls)]
    constructor
    · rintro (rfl | ⟨j, l', h1, rfl⟩)
      · exact ⟨0, l, rfl, rfl⟩
      · exact ⟨j + 1, l', by simpa using h1, by rw [show k + 1 + j = k + (j + 1) from by omega]⟩
    · rintro ⟨j, l', h1, rfl⟩
      match j with
      | 0 => simp at h1; subst h1; exact .inl rfl
      | j + 1 => exact .inr ⟨j, l', by simpa using h1, by rw [show k + 1 + j = k + (j + 1) from by omega]⟩
theorem Inv.bok (hi : Inv vt w0 nt B a w) : BOk B w.heap.size := fun x g h => by
  by_cases hx : x < OW
  · obtain ⟨_, cs, ty, _, h3, _⟩ := hi.blk x g hx h
    exact (Array.getElem?_eq_some_iff.1 h3).1
  · exact (hi.own x g (Nat.le_of_not_lt hx) h).2.1
/-- A new variable. -/
theorem post_new {rd : List Nat} {d : Tmp} {t : TypeId} {ls : List Leaf} {cs : Array Value} {nv : Nat} (hi : Inv vt w0 nt B a w) (hd : okD nt (some d) = true) (hf : allFlat ls = true) (hl : ls.length ≤ 100000) (hc : LeavesH ρ B w ls cs.toList)
    (hv : vt[nv]? = some (t, ls.length)) (hn : B nv = none) (hnl : nv < OW) :
    Post ρ vt w0 nt ⟨rd, (d, .v (.one (.ptr nv 0))) :: cellsWr nv 0 ls, some nv⟩ B a w (fun v => if v = nv then some w.heap.size else B v) (a.put (some d) (.pointer (some ⟨w.heap.size, 0, none⟩))) (w.alloc (.cells cs t)) := by
  have hle : BLe B (fun v => if v = nv then some w.heap.size else B v) := fun v g h => by
    show (if v = nv then _ else _) = _
    rw [if_neg (fun e => by rw [e, hn] at h; cases h)]; exact h
  have hN : BNew w.heap.size B (fun v => if v = nv then some w.heap.size else B v) := fun x g hx => by
    by_cases e : x = nv
    · simp only [e, if_true, Option.some.injEq] at hx; exact .inr (by omega)
    · simp only [e, if_false] at hx; exact .inl hx
  have hb := bel1 w (.cells cs t)
  have hnew : (w.alloc (.cells cs t)).heap[w.heap.size]? = some (.cells cs t (0, 0)) := heap_alloc_new w _
  have hlt : ∀ v g, B v = some g → g < w.heap.size := hi.bok
  have hlen : cs.size = ls.length := by have := hc.len; simpa using this
  refine ⟨hle, ⟨fun v g hl hg => ?_, fun v g hl hg => ?_, fun v v' g h1 h2 => ?_, hi.below.trans (hb.mono hi.below.size), by rw [put_size, hi.size], by rw [put_dfr, hi.dfr]⟩, fun q hq => ?_, fun x c hx hne => hx.below hle hN hb (fun _ => put_ne (fun t ht => ?_)), fun u h1 h2 => ?_⟩
  · by_cases e : v = nv
    · subst e
      simp only [if_true, Option.some.injEq] at hg
      subst hg
      refine ⟨hi.below.size, cs, t, by rw [hv, hlen], hnew, fun k n hk => ?_⟩
      rw [← Array.getElem?_toList] at hk
      have hkl : k < ls.length := by rw [← hc.len]; exact (List.getElem?_eq_some_iff.1 hk).1
      obtain ⟨u, h1, h2⟩ := hc.get (List.getElem?_eq_getElem hkl)
      rw [hk] at h1; injection h1 with h1; subst h1
      exact (h2.flat (List.all_eq_true.1 hf _ (List.getElem_mem hkl))).2.2 n rfl
    · simp only [e, if_false] at hg
      obtain ⟨h1, cs', ty, h2, h3, h4⟩ := hi.blk v g hl hg
      exact ⟨h1, cs', ty, h2, by rw [hb.block g (hlt v g hg)]; exact h3, h4⟩
  · have e : v ≠ nv := by omega
    simp only [e, if_false] at hg
    obtain ⟨h1, h2, cs', t', h3, h4⟩ := hi.own v g hl hg
    exact ⟨h1, Nat.lt_of_lt_of_le h2 hb.size, cs', t', by rw [hb.block g h2]; exact h3, h4⟩
  · by_cases e : v = nv <;> by_cases e' : v' = nv
    · rw [e, e']
    · simp only [e, e', if_true, if_false, Option.some.injEq] at h1 h2
      have := hlt v' g h2; omega
    · simp only [e, e', if_true, if_false, Option.some.injEq] at h1 h2
      have := hlt v g h1; omega
    · simp only [e, e', if_false] at h1 h2
      exact hi.inj v v' g h1 h2
  · rcases List.mem_cons.1 hq with rfl | hq
    · simp only [okD, Bool.and_eq_true, decide_eq_true_eq] at hd
      unfold LocH
      rw [if_pos hd.2]
      exact ⟨_, put_eq (by rw [hi.size]; exact hd.1), w.heap.size, by simp, rfl⟩
    · obtain ⟨j, l, h1, rfl⟩ := wr_mem.1 hq
      have hjl := (List.getElem?_eq_some_iff.1 h1).1
      obtain ⟨u, h2, h3⟩ := hc.get h1
      rw [Nat.zero_add, locH_cell (by omega)]
      exact ⟨w.heap.size, cs, t, u, by simp, hnew, by rw [← Array.getElem?_toList]; exact h2, (h3.mono hle hN hb : Leaf.holds ρ _ _ l u)⟩
  · injection ht with ht; subst ht
    exact hne (d, .v (.one (.ptr nv 0))) (by simp)
  · by_cases e : u = nv
    · rw [e]
    · simp only [e, if_false] at h2; exact absurd h1 h2
end
end Go.Proofs.YthebfmlfgfmlnaaGreatDoor
namespace Go.Proofs.YthebfmlfgfmlnaaGreatDoor
set_option linter.unusedSimpArgs false
set_option linter.unusedVariables false
set_option maxRecDepth 100000
open Go.RowKit
section
variable {p : Program} {ρ : Rho} {B B' : Blk} {a a' : Act} {w w' w0 : World} {C : List Inst} {L : List OIns} {lk : Nat → Option AV} {vt : List (TypeId × Nat)} {nt : Nat} {Q : Exit → Act → World → Prop} {o : Oper} {ops : Array Oper}
theorem run_store1 {g k : Nat} {v : Value} {cs : Array Value} {ty : TypeId} (h : w.heap[g]? = some (.cells cs ty (0, 0))) (hk : k < cs.size) (hv : Flat v) : (Go.store ⟨g, k, none⟩ v).run p w = .ok () (w.setCell ⟨g, k, none⟩ v) := by
  have h1 : w.cell? ⟨g, k, none⟩ = some cs[k] := by rw [cell_at h]; exact Array.getElem?_eq_getElem hk
  have h2 : w.frozen? ⟨g, k, none⟩ = false := frozen_of_row w g k _ _ h
  have h3 := hv.1
  have h4 := hv.2.1
  unfold Go.store
  cases v with
  | agg cs => exact absurd rfl (h3 cs)
  | tuple vs => exact absurd rfl (h4 vs)
  | _ => simp [Sem.run, h1, h2]
theorem run_storeCells {g o : Nat} {ty : TypeId} : ∀ (vs : List Value) (i : Nat) (w : World) (cs : Array Value), w.heap[g]? = some (.cells cs ty (0, 0)) → o + i + vs.length ≤ cs.size → (∀ v ∈ vs, Flat v) →
    ∃ w' cs', (storeCells ⟨g, o, none⟩ vs i).run p w = .ok () w' ∧ Upd w g w' ∧ w'.heap[g]? = some (.cells cs' ty (0, 0)) ∧ cs'.size = cs.size ∧
      (∀ k v, vs[k]? = some v → cs'[o + i + k]? = some v) ∧ ∀ k, (k < o + i ∨ o + i + vs.length ≤ k) → cs'[k]? = cs[k]?
  | [], i, w, cs, h, _, _ => ⟨w, cs, by simp [storeCells], ⟨rfl, rfl, rfl, rfl, fun _ _ => rfl⟩, h, rfl, by simp, fun _ _ => rfl⟩
  | v :: vs, i, w, cs, h, hle, hv => by
    simp only [List.length_cons] at hle
    have h1 := run_store1 (p := p) (k := o + i) h (by omega) (hv v (by simp))
    have h2 := heap_setCell_same w g (o + i) _ _ v h
    obtain ⟨w', cs', e1, e2, e3, e4, e5, e6⟩ := run_storeCells (o := o) vs (i + 1) (w.setCell ⟨g, o + i, none⟩ v) (cs.setIfInBounds (o + i) v) h2 (by simp; omega) (fun u hu => hv u (List.mem_cons_of_mem _ hu))
    have hlen := e4
    refine ⟨w', cs', ?_, (Upd.cell w g (o + i) v).trans e2, e3, by rw [e4]; simp, fun k u hu => ?_, fun k hk => ?_⟩
    · unfold storeCells
      rw [Sem.run_bind, add_off, h1]
      exact e1
    · match k with
      | 0 =>
        simp at hu; subst hu
        rw [e6 (o + i + 0) (by omega)]
        simp [show o + i < cs.size from by omega]
      | k + 1 =>
        have := e5 k u (by simpa using hu)
        rwa [show o + (i + 1) + k = o + i + (k + 1) from by omega] at this
    · rw [e6 k (by simp only [List.length_cons] at hk; omega)]
      simp only [List.length_cons] at hk
      rw [Array.getElem?_setIfInBounds, if_neg (by omega)]
theorem LocH.upd {x g : Nat} {c : AV} (h : LocH ρ B a w x c) (o : Own w g) (u : Upd w g w') (hb : ∃ x, x < OW ∧ B x = some g) (hx : ¬ x < 100000 → ∀ g' cs ty y, B (x / 100000 - 1) = some g' → w.heap[g']? = some (.cells cs ty (0, 0)) → cs[x % 100000]? = some y → ∃ cs', w'.heap[g']? = some (.cells cs' ty (0, 0)) ∧ cs'[x % 100000]? = some y) : LocH ρ B a w' x c := by
  unfold LocH at h ⊢
  split at h
  · rename_i hx
    rw [if_pos hx]
    obtain ⟨v, h1, h2⟩ := h
    exact ⟨v, h1, h2.upd o u hb⟩
  · rename_i hn
    rw [if_neg hn]
    obtain ⟨g', cs, ty, v, h1, h2, h3, h4⟩ := h
    obtain ⟨cs', h5, h6⟩ := hx hn g' cs ty v h1 h2 h3
    exact ⟨g', cs', ty, v, h1, h5, h6, h4.upd o u hb⟩
theorem ok_store {t : TypeId} {x y : Operand} {v off n : Nat} {ty : TypeId} {s : SV} (ho : o.op = .store t x y) (hd : o.dst = none) (hx : evL lk x = some (.ptr v off)) (hy : evS lk y = some s) (hvt : vt[v]? = some (ty, n))
    (hs : szB p t = some s.leaves.length) (hf : allFlat s.leaves = true) (hle : off + s.leaves.length ≤ n) (hn : n ≤ 100000) (hvl : v < OW) (hi : Inv vt w0 nt B a w) (Hx : KnowsO ρ B a w lk x) (Hy : KnowsO ρ B a w lk y) {rd : List Nat}
    {K : Act → World → Prop} (hK : ∀ B' a' w', Post ρ vt w0 nt ⟨rd, cellsWr v off s.leaves, none⟩ B a w B' a' w' → K a' w') : Oper.wp p o a w K Q := by
  obtain ⟨g, hg, e1⟩ := (evL_k Hx hx : Leaf.holds ρ B w (.ptr v off) (a.eval x))
  have e2 := evS_k Hy hy
  have hc := e2.cells
  obtain ⟨hge, cs, ty', f1, f2, f3⟩ := hi.blk v g hvl hg
  rw [hvt] at f1
  simp only [Option.some.injEq, Prod.mk.injEq] at f1
  obtain ⟨rfl, rfl⟩ := f1
  have hlen := hc.len
  have hflat : ∀ u ∈ (a.eval y).cells.toList, Flat u := fun u hu => by
    obtain ⟨k, hk, rfl⟩ := List.getElem_of_mem hu
    obtain ⟨z, h1, h2⟩ := hc.get (List.getElem?_eq_getElem (show k < s.leaves.length by omega))
    rw [List.getElem?_eq_getElem hk] at h1
    injection h1 with h1
    rw [h1]
    exact h2.flat (List.all_eq_true.1 hf _ (List.getElem_mem _))
  obtain ⟨w', cs', g1, g2, g3, g4, g5, g6⟩ := run_storeCells (p := p) (o := off) (a.eval y).cells.toList 0 w cs f2 (by omega) hflat
  have ow : Own w g := ⟨cs, ty, f2, f3⟩
  have hrun : (execOp a.eval o).run p w = .ok .skip w' := by
    unfold execOp; rw [ho]
    simp only [Sem.run_bind, Instr.storeAt, e1, Instr.sureAddr, Sem.run_pure, Result.andThen, storeVar, run_size hs]
    rw [if_neg (by simp only [ne_eq, Classical.not_not]; simpa using hlen)]
    rw [g1]
  unfold Oper.wp
  rw [hrun, Oper.upon_skip, hd]
  show K a w'
  have hcell : ∀ g' cs1 ty1, w.heap[g']? = some (.cells cs1 ty1 (0, 0)) → ∃ cs2, w'.heap[g']? = some (.cells cs2 ty1 (0, 0)) ∧ cs2.size = cs1.size ∧ (g' ≠ g → cs2 = cs1) := fun g' cs1 ty1 h => by
    by_cases e : g' = g
    · subst e
      rw [f2] at h; injection h with h; injection h with h h2; subst h; subst h2
      exact ⟨cs', g3, g4, fun h => absurd rfl h⟩
    · exact ⟨cs1, by rw [g2.block g' e]; exact h, rfl, fun _ => rfl⟩
  refine hK B a w' ⟨BLe.refl, ⟨fun v' g' hl' hg' => ?_, fun v' g' hl' hg' => ?_, hi.inj, Upd.below hi.below g2 hge, hi.size, hi.dfr⟩, fun q hq => ?_, fun z c hz hne => hz.upd ow g2 ⟨_, hvl, hg⟩ (fun hz1 g' cs1 ty1 y1 h1 h2 h3 => ?_), fun u h1 h2 => absurd h1 h2⟩
  · obtain ⟨h1, cs1, ty1, h2, h3, h4⟩ := hi.blk v' g' hl' hg'
    obtain ⟨cs2, k1, k2, k3⟩ := hcell g' cs1 ty1 h3
    refine ⟨h1, cs2, ty1, by rw [k2]; exact h2, k1, fun k m hk => ?_⟩
    by_cases e : g' = g
    · subst e
      rw [g3] at k1; injection k1 with k1; injection k1 with k1 _; subst k1
      by_cases hin : k < off ∨ off + (a.eval y).cells.toList.length ≤ k
      · rw [g6 k (by simpa using hin)] at hk
        exact f3 k m hk
      · have hk2 : k - off < (a.eval y).cells.toList.length := by omega
        have := g5 (k - off) _ (List.getElem?_eq_getElem hk2)
        rw [show off + 0 + (k - off) = k from by omega, hk] at this
        injection this with this
        exact (hflat _ (List.getElem_mem hk2)).2.2 m this.symm
    · rw [k3 e] at hk; exact h4 k m hk
  · obtain ⟨h1, h2, cs1, ty1, h3, h4⟩ := hi.own v' g' hl' hg'
    have hne : g' ≠ g := fun e => by subst e; have := hi.inj _ _ _ hg' hg; omega
    exact ⟨h1, by rw [g2.size]; exact h2, cs1, ty1, by rw [g2.block g' hne]; exact h3, h4⟩
  · obtain ⟨j, l, h1, rfl⟩ := wr_mem.1 hq
    have hj := (List.getElem?_eq_some_iff.1 h1).1
    obtain ⟨u, h2, h3⟩ := hc.get h1
    rw [locH_cell (by omega)]
    exact ⟨g, cs', ty, u, hg, g3, by have := g5 j u h2; simpa using this, (h3.upd ow g2 ⟨_, hvl, hg⟩ : Leaf.holds ρ B w' l u)⟩
  · by_cases e : g' = g
    · subst e
      rw [f2] at h2; injection h2 with h2; injection h2 with h2 h2'; subst h2; subst h2'
      refine ⟨cs', g3, ?_⟩
      have hv := hi.inj _ _ _ h1 hg
      by_cases hin : z % 100000 < off ∨ off + (a.eval y).cells.toList.length ≤ z % 100000
      · rw [g6 _ (by simpa using hin)]; exact h3
      · have hk2 : z % 100000 - off < s.leaves.length := by omega
        refine absurd ?_ (hne (locC v (off + (z % 100000 - off)), .v (.one s.leaves[z % 100000 - off])) (wr_mem.2 ⟨_, _, List.getElem?_eq_getElem hk2, rfl⟩))
        unfold locC
        have : z / 100000 = v + 1 := by omega
        have h5 := Nat.div_add_mod z 100000
        simp only
        omega
    · obtain ⟨cs2, k1, k2, k3⟩ := hcell g' cs1 ty1 h2
      exact ⟨cs2, k1, by rw [k3 e]; exact h3⟩
theorem findC_ok (hC : ∀ i ∈ C, i.Ok0 p ρ w0) {f : FuncId} {xs : List SV} {r : AV} (h : findC C f xs = some r) : (Inst.mk f xs r).Ok0 p ρ w0 := by
  unfold findC at h
  split at h
  · rename_i i hi
    simp at h; subst h
    have h1 := List.find?_some hi
    simp only [Bool.and_eq_true, decide_eq_true_eq] at h1
    have := hC i (List.mem_of_find?_eq_some hi)
    obtain ⟨f', xs', r'⟩ := i
    obtain ⟨rfl, rfl⟩ := h1
    exact this
  · cases h
theorem ok_call (hC : ∀ i ∈ C, i.Ok0 p ρ w0) {k : Call} {z : Operand} {f : FuncId} {xs : List SV} {r : AV} (ho : o.op = .call k) (hk : k.callee = .value z) (hz : evL lk z = some (.fn f)) (hxs : svsA lk k.args.toList = some xs) (hr : findC C f xs = some r)
    (hd : okD nt o.dst = true) (hi : Inv vt w0 nt B a w) (H : ∀ x ∈ (Op.call k).operands.toList, KnowsO ρ B a w lk x) {rd : List Nat}
    {K : Act → World → Prop} (hK : ∀ B' a' w', Post ρ vt w0 nt ⟨rd, wrD o.dst r, none⟩ B a w B' a' w' → K a' w') : Oper.wp p o a w K Q := by
  obtain ⟨cal, args, tt⟩ := k
  simp only at hk hxs
  subst hk
  have e1 : a.eval z = fnV f := evL_k (H z (by simp [Op.operands, Call.operands])) hz
  have e2 := svsA_holds hxs (fun x hx => H x (by simp only [Op.operands, Call.operands, Array.toList_append, List.mem_append]; exact .inr hx))
  obtain ⟨hen, hcall⟩ := findC_ok hC hr
  have hc := hcall B w _ hi.below hi.bok e2
  have ea : (args.toList.map a.eval).toArray = args.map a.eval := by rw [← Array.toList_map, Array.toArray_toList]
  rw [ea] at hc
  unfold Oper.wp
  have : (execOp a.eval o).run p w = .ok (.enter f (args.map a.eval)) w := by
    simp [execOp, ho, resolve, invoke, Deferred.ofValue, e1, hen, Result.andThen]
  rw [this, Oper.upon_enter]
  refine hc.mono ?_
  rintro e w' ⟨v, rfl, h1, h2⟩
  exact hK B _ w' (post_value hi hd h2 h1)
theorem ok_pure (hO : ∀ i ∈ L, i.Ok p ρ) {c : AV} {rd : List Nat} (h : pureA p L lk o.op = some (c, rd)) (hd : okD nt o.dst = true) (hi : Inv vt w0 nt B a w) (H : ∀ x ∈ rdOs o.op ++ rd, ∀ c, lk x = some c → LocH ρ B a w x c)
    {rd' : List Nat} {K : Act → World → Prop} (hK : ∀ B' a' w', Post ρ vt w0 nt ⟨rd', wrD o.dst c, none⟩ B a w B' a' w' → K a' w') : Oper.wp p o a w K Q := by
  obtain ⟨u, h1, h2⟩ := makes_any hO h (fun x hx y hy c hc => H y (List.mem_append.2 (.inl (by unfold rdOs; exact List.mem_flatMap.2 ⟨x, hx, hy⟩))) c hc) (fun y hy c hc => H y (List.mem_append.2 (.inr hy)) c hc)
  unfold Oper.wp
  rw [h1, Oper.upon_value]
  exact hK B _ w (post_value hi hd (Below.refl _ _) h2)
theorem zip_fst : ∀ (l : List (Nat × Operand)), (l.map (·.1)).zip ((l.map (·.2)).map a.eval) = l.map fun q => (q.1, a.eval q.2)
  | [] => rfl
  | _ :: l => congrArg (_ :: ·) (zip_fst l)
theorem ok_bs (hO : ∀ i ∈ L, i.Ok p ρ) {t : TypeId} {n : Nat} {parts : Array (Nat × Operand)} {xs : List SV} {r : SV} (ho : o.op = .buildSlice t n parts) (hxs : svsA lk (parts.toList.map (·.2)) = some xs) (hr : findO L (.bs t n (parts.toList.map (·.1))) xs = some r)
    (hd : okD nt o.dst = true) (hi : Inv vt w0 nt B a w) (H : ∀ x ∈ (Op.buildSlice t n parts).operands.toList, KnowsO ρ B a w lk x) {rd : List Nat}
    {K : Act → World → Prop} (hK : ∀ B' a' w', Post ρ vt w0 nt ⟨rd, wrD o.dst (.v r), none⟩ B a w B' a' w' → K a' w') : Oper.wp p o a w K Q := by
  have e2 := svsA_holds hxs (fun x hx => H x (by simpa [Op.operands] using hx))
  obtain ⟨v, w', h1, h2, h3⟩ := (findO_ok hO hr) B w _ e2 hi.bok
  rw [zip_fst] at h2
  have : (execOp a.eval o).run p w = .ok (.value v) w' := by
    unfold execOp
    rw [ho]
    have e3 : (parts.map fun x => match x with | (i, x) => (i, a.eval x)) = (parts.toList.map fun q => (q.1, a.eval q.2)).toArray := by
      obtain ⟨l⟩ := parts; simp
    simp only [Sem.run_bind]
    rw [e3, h2]; rfl
  unfold Oper.wp
  rw [this, Oper.upon_value]
  exact hK B _ w' (post_value hi hd h3 h1)
theorem effO_ok (hC : ∀ i ∈ C, i.Ok0 p ρ w0) (hO : ∀ i ∈ L, i.Ok p ρ) {vts new rest : List (TypeId × Nat)} {e : Eff} (h : effO p C L nt lk vts o = some (e, new)) (hvt : vt = vts ++ (new ++ rest)) (hi : Inv vt w0 nt B a w)
    (H : ∀ x ∈ e.rd, ∀ c, lk x = some c → LocH ρ B a w x c) (hn : ∀ v, e.al = some v → B v = none) {K : Act → World → Prop} (hK : ∀ B' a' w', Post ρ vt w0 nt e B a w B' a' w' → K a' w') : Oper.wp p o a w K Q := by
  unfold effO at h
  split at h
  · cases h
  · rename_i hd
    have hd : okD nt o.dst = true := by simpa using hd
    have hpv : ∀ {h : (match pureA p L lk o.op with | some (c, rd) => some (Eff.mk (rdOs o.op ++ rd) (wrD o.dst c) none, ([] : List (TypeId × Nat))) | none => none) = some (e, new)}, Oper.wp p o a w K Q := by
      intro h
      split at h
      · rename_i c rd hp
        simp at h; obtain ⟨rfl, rfl⟩ := h
        exact ok_pure hO hp hd hi H hK
      · cases h
    dsimp only at h
    split at h
    · -- alloc
      rename_i t ho
      split at h
      · rename_i d z hdd hz
        split at h
        · rename_i hc
          simp at h; obtain ⟨rfl, rfl⟩ := h
          obtain ⟨zv, hz1, hz2⟩ := zeroL_holds (ρ := ρ) (B := B) (w := w) hz
          have hrun : (execOp a.eval o).run p w = .ok (.value (.pointer (some ⟨w.heap.size, 0, none⟩))) (w.alloc (.cells zv.cells t)) := by
            unfold execOp; rw [ho]
            simp only [Instr.alloc, Sem.run_bind, hz1, Result.andThen, newVar, newRow, Go.newObj, Sem.run, Sem.run_pure]; rfl
          unfold Oper.wp
          rw [hrun, Oper.upon_value, hdd]
          rw [hdd] at hd
          exact hK _ _ _ (post_new hi hd hc.1 hc.2.1 hz2 (by rw [hvt]; simp) (hn _ rfl) hc.2.2)
        · cases h
      · cases h
    · -- box
      rename_i t x ho
      split at h
      · rename_i d s hdd hs
        split at h
        · rename_i hc
          simp at h; obtain ⟨rfl, rfl⟩ := h
          have e2 := evS_k (fun y hy c hc => H y hy c hc) hs
          have hrun : (execOp a.eval o).run p w = .ok (.value (.pointer (some ⟨w.heap.size, 0, none⟩))) (w.alloc (.cells (a.eval x).cells t)) := by
            unfold execOp; rw [ho]
            simp only [Instr.box, Sem.run_bind, Result.andThen, newVar, newRow, Go.newObj, Sem.run, Sem.run_pure]; rfl
          unfold Oper.wp
          rw [hrun, Oper.upon_value, hdd]
          rw [hdd] at hd
          exact hK _ _ _ (post_new hi hd hc.1 hc.2.1 e2.cells (by rw [hvt]; simp) (hn _ rfl) hc.2.2)
        · cases h
      · cases h
    · -- store
      rename_i t x y ho
      split at h
      · rename_i v off s hdd hx hy
        split at h
        · rename_i ty n hv
          split at h
          · rename_i hc
            simp at h; obtain ⟨rfl, rfl⟩ := h
            exact ok_store ho hdd hx hy (by rw [hvt, List.getElem?_append_left (List.getElem?_eq_some_iff.1 hv).1]; exact hv) hc.1 hc.2.1 hc.2.2.1 hc.2.2.2.1 hc.2.2.2.2 hi (fun z hz c hc => H z (List.mem_append.2 (.inl hz)) c hc) (fun z hz c hc => H z (List.mem_append.2 (.inr hz)) c hc) hK
          · cases h
        · cases h
      · cases h
    · -- call
      rename_i k ho
      split at h
      · rename_i z hk
        split at h
        · rename_i f xs hz hxs
          cases hr : findC C f xs with
          | none => rw [hr] at h; cases h
          | some r =>
            rw [hr] at h; simp at h; obtain ⟨rfl, rfl⟩ := h
            rw [ho] at H
            exact ok_call hC ho hk hz hxs hr hd hi (fun x hx y hy c hc => H y (by unfold rdOs; exact List.mem_flatMap.2 ⟨x, hx, hy⟩) c hc) hK
        · cases h
      · exact hpv (h := h)
    · -- a slice of parts
      rename_i t n parts ho
      split at h
      · rename_i d xs hdd hxs
        cases hr : findO L (.bs t n (parts.toList.map (·.1))) xs with
        | none => rw [hr] at h; cases h
        | some r =>
          rw [hr] at h; simp only [Option.map_some, Option.some.injEq, Prod.mk.injEq] at h; obtain ⟨rfl, rfl⟩ := h
          rw [ho] at H
          exact ok_bs hO ho hxs hr hd hi (fun x hx y hy c hc => H y (by unfold rdOs; exact List.mem_flatMap.2 ⟨x, hx, hy⟩) c hc) hK
      · cases h
    · exact hpv (h := h)
theorem effG_ok (hC : ∀ i ∈ C, i.Ok0 p ρ w0) (hO : ∀ i ∈ L, i.Ok p ρ) {vts new rest : List (TypeId × Nat)} {e : Eff} {j : Nat} (hj : ops[j]? = some o) (h : effG p C L nt ops lk vts o = some (e, new)) (hvt : vt = vts ++ (new ++ rest)) :
    OpOk p ρ vt w0 nt ops Q j lk e := by
  intro B a w hi H hn K hK
  unfold effG at h
  unfold wpOp
  rw [hj]
  show if Region.wanted o (yielded ops a.tmps) = true then _ else _
  split at h
  · rename_i hg
    rw [if_pos (by unfold Region.wanted; rw [hg])]
    exact .inl (effO_ok hC hO h hvt hi H hn hK)
  · rename_i g b hg
    split at h
    · rename_i t ht
      split at h
      · rename_i x hx
        have hy : t ∈ e.rd → yielded ops a.tmps g = some x := fun hm => by
          have e1 : a.eval (.tmp t) = .bool x := evA_k (fun y hy c hc => by
            simp only [rdO, List.mem_singleton] at hy; subst hy; exact H _ hm c hc) hx
          have e2 : (ops[g]?).bind (·.dst) = some t := by
            unfold dstOf at ht
            cases ho : ops[g]? with
            | none => rw [ho] at ht; cases ht
            | some o => rw [ho] at ht; exact ht
          have e3 : a.tmps[t]? = some (.bool x) := by
            simp only [Act.eval, Array.getD_eq_getD_getElem?] at e1
            cases hq : a.tmps[t]? with
            | none => rw [hq] at e1; cases e1
            | some u => rw [hq] at e1; simp at e1; rw [e1]
          unfold yielded
          rw [e2]
          simp only [Option.bind_some, e3]
        split at h
        · rename_i hxb
          cases he : effO p C L nt lk vts o with
          | none => rw [he] at h; cases h
          | some q =>
            rw [he] at h
            obtain ⟨e0, new0⟩ := q
            simp at h
            obtain ⟨rfl, rfl⟩ := h
            rw [if_pos (by unfold Region.wanted; rw [hg]; show (yielded ops a.tmps g == some b) = true; rw [hy (by simp), hxb]; simp)]
            exact .inl (effO_ok hC hO he hvt hi (fun y hy c hc => H y (List.mem_cons_of_mem _ hy) c hc) hn (fun B' a' w' hp => hK B' a' w' ⟨hp.le, hp.inv, hp.wr, hp.keep, hp.new⟩))
        · rename_i hxb
          split at h
          · rename_i hd
            simp at h; obtain ⟨rfl, rfl⟩ := h
            rw [if_neg (by unfold Region.wanted; rw [hg]; show ¬ (yielded ops a.tmps g == some b) = true; rw [hy (by simp)]; simpa using hxb)]
            exact hK B _ w (post_value hi hd (Below.refl _ _) rfl)
          · cases h
      · rename_i hx
        split at h
        · rename_i hd
          simp at h; obtain ⟨rfl, rfl⟩ := h
          have e1 : a.eval (.tmp t) = undef := evA_k (fun y hy c hc => by
            simp only [rdO, List.mem_singleton] at hy; subst hy; exact H _ (by simp) c hc) hx
          have e2 : (ops[g]?).bind (·.dst) = some t := by
            unfold dstOf at ht
            cases ho : ops[g]? with
            | none => rw [ho] at ht; cases ht
            | some o => rw [ho] at ht; exact ht
          have e4 : yielded ops a.tmps g = none := by
            unfold yielded
            rw [e2]
            simp only [Option.bind_some]
            simp only [Act.eval, Array.getD_eq_getD_getElem?] at e1
            cases hq : a.tmps[t]? with
            | none => rfl
            | some u => rw [hq] at e1; simp at e1; rw [e1]; rfl
          rw [if_neg (by unfold Region.wanted; rw [hg]; show ¬ (yielded ops a.tmps g == some b) = true; rw [e4]; simp)]
          exact hK B _ w (post_value hi hd (Below.refl _ _) rfl)
        · cases h
      · cases h
    · cases h
end
end Go.Proofs.YthebfmlfgfmlnaaGreatDoor
namespace Go.Proofs.YthebfmlfgfmlnaaGreatDoor
set_option linter.unusedSimpArgs false
set_option linter.unusedVariables false
set_option maxRecDepth 100000
open Go.RowKit
def predsM (o : Oper) : List Nat := (o.after.toList.filter (Region.binds .any)).map (·.on)
def regGo (p : Program) (C : List Inst) (L : List OIns) (nt : Nat) (ops : Array Oper) (b : Nat → Option AV) : List Oper → Nat → List Nat → List (TypeId × Nat) → Effs → Option (Effs × List (TypeId × Nat))
  | [], _, _, vts, effs => some (effs, vts)
  | o :: r, j, ancs, vts, effs =>
    if (predsM o).all (fun k => decide (k < j)) then
      match effG p C L nt ops (lkE b effs) vts o with
      | some (e, new) => if okAdd ((predsM o).foldl (fun m k => m ||| (ancs.getD k 0 ||| 1 <<< k)) 0) effs e then
          regGo p C L nt ops b r (j + 1) (ancs ++ [(predsM o).foldl (fun m k => m ||| (ancs.getD k 0 ||| 1 <<< k)) 0]) (vts ++ new) ((j, e) :: effs) else none
      | none => none
    else none
/-- What is known of slots and variables. -/
structure MS where
  slots : List (Option AV)
  vars : List (TypeId × List (Option Leaf))
def msGet (s : MS) (x : Nat) : Option AV :=
  if x < 100000 then (match s.slots[x]? with | some c => c | none => none) else
  match s.vars[x / 100000 - 1]? with
  | some v => (match v.2[x % 100000]? with | some (some l) => some (.v (.one l)) | _ => none)
  | none => none
def leafA : AV → Option Leaf
  | .v (.one l) => some l
  | _ => none
def setC : List (TypeId × List (Option Leaf)) → Nat → Nat → Option Leaf → List (TypeId × List (Option Leaf))
  | [], _, _, _ => []
  | v :: r, 0, k, l => (v.1, v.2.set k l) :: r
  | v :: r, i + 1, k, l => v :: setC r i k l
def msSet (s : MS) (q : Nat × AV) : MS :=
  if q.1 < 100000 then { s with slots := s.slots.set q.1 (some q.2) } else { s with vars := setC s.vars (q.1 / 100000 - 1) (q.1 % 100000) (leafA q.2) }
def msWr (s : MS) : List (Nat × AV) → MS
  | [] => s
  | q :: r => msSet (msWr s r) q
def commit (s : MS) : Effs → MS
  | [] => s
  | (_, e) :: r => msWr (commit s r) e.wr
def vtOf (s : MS) : List (TypeId × Nat) := s.vars.map fun x => (x.1, x.2.length)
def msExt (s : MS) (new : List (TypeId × Nat)) : MS := { s with vars := s.vars ++ new.map fun x => (x.1, List.replicate x.2 none) }
def regX (p : Program) (C : List Inst) (L : List OIns) (nt : Nat) (ops : Array Oper) (s : MS) : Option MS :=
  match regGo p C L nt ops (msGet s) ops.toList 0 [] (vtOf s) [] with
  | some (effs, vts) => some (commit (msExt s (vts.drop s.vars.length)) effs)
  | none => none
section
variable {p : Program} {ρ : Rho} {B : Blk} {a : Act} {w w0 : World} {C : List Inst} {L : List OIns} {nt : Nat} {Q : Exit → Act → World → Prop} {o : Oper} {ops : Array Oper} {b : Nat → Option AV}
theorem regGo_pre : ∀ {l : List Oper} {j : Nat} {ancs : List Nat} {vts vts' : List (TypeId × Nat)} {effs effs' : Effs}, regGo p C L nt ops b l j ancs vts effs = some (effs', vts') → ∃ rest, vts' = vts ++ rest
  | [], _, _, vts, vts', _, _, h => by simp [regGo] at h; exact ⟨[], by rw [h.2]; simp⟩
  | o :: r, j, ancs, vts, vts', effs, effs', h => by
    simp only [regGo] at h
    split at h
    · split at h
      · rename_i e new _
        split at h
        · obtain ⟨rest, hr⟩ := regGo_pre h
          exact ⟨new ++ rest, by rw [hr, List.append_assoc]⟩
        · cases h
      · cases h
    · cases h
theorem effO_al {lk : Nat → Option AV} {vts new : List (TypeId × Nat)} {e : Eff} (h : effO p C L nt lk vts o = some (e, new)) : ∀ v, e.al = some v → v = vts.length ∧ new.length = 1 ∧ vts.length < OW := by
  unfold effO at h
  split at h
  · cases h
  · dsimp only at h
    have hpv : ∀ {h : (match pureA p L lk o.op with | some (c, rd) => some (Eff.mk (rdOs o.op ++ rd) (wrD o.dst c) none, ([] : List (TypeId × Nat))) | none => none) = some (e, new)}, ∀ v, e.al = some v → v = vts.length ∧ new.length = 1 ∧ vts.length < OW := by
      intro h
      split at h
      · simp at h; obtain ⟨rfl, rfl⟩ := h
        intro v hv; cases hv
      · cases h
    split at h
    · split at h
      · split at h
        · rename_i hc
          simp at h; obtain ⟨rfl, rfl⟩ := h
          intro v hv; injection hv with hv; exact ⟨hv.symm, rfl, hc.2.2⟩
        · cases h
      · cases h
    · split at h
      · split at h
        · rename_i hc
          simp at h; obtain ⟨rfl, rfl⟩ := h
          intro v hv; injection hv with hv; exact ⟨hv.symm, rfl, hc.2.2⟩
        · cases h
      · cases h
    · split at h
      · split at h
        · split at h
          · simp at h; obtain ⟨rfl, rfl⟩ := h
            intro v hv; cases hv
          · cases h
        · cases h
      · cases h
    · split at h
      · split at h
        · rename_i f xs _ _
          cases hr : findC C f xs with
          | none => rw [hr] at h; cases h
          | some r => rw [hr] at h; simp at h; obtain ⟨rfl, rfl⟩ := h; intro v hv; cases hv
        · cases h
      · exact hpv (h := h)
    · rename_i t n parts ho
      split at h
      · rename_i d xs hdd hxs
        cases hr : findO L (.bs t n (parts.toList.map (·.1))) xs with
        | none => rw [hr] at h; cases h
        | some r => rw [hr] at h; simp only [Option.map_some, Option.some.injEq, Prod.mk.injEq] at h; obtain ⟨rfl, rfl⟩ := h; intro v hv; cases hv
      · cases h
    · exact hpv (h := h)
theorem effG_al {lk : Nat → Option AV} {vts new : List (TypeId × Nat)} {e : Eff} (h : effG p C L nt ops lk vts o = some (e, new)) : ∀ v, e.al = some v → v = vts.length ∧ new.length = 1 ∧ vts.length < OW := by
  unfold effG at h
  split at h
  · exact effO_al h
  · split at h
    · split at h
      · split at h
        · cases he : effO p C L nt lk vts o with
          | none => rw [he] at h; cases h
          | some q =>
            rw [he] at h
            obtain ⟨e0, new0⟩ := q
            simp at h
            obtain ⟨rfl, rfl⟩ := h
            intro v hv
            exact effO_al he v hv
        · split at h
          · simp at h; obtain ⟨rfl, rfl⟩ := h; intro v hv; cases hv
          · cases h
      · split at h
        · simp at h; obtain ⟨rfl, rfl⟩ := h; intro v hv; cases hv
        · cases h
      · cases h
    · cases h
theorem foldl_bits {f : Nat → Nat} : ∀ {l : List Nat} {m0 i : Nat}, (l.foldl (fun m k => m ||| (f k ||| 1 <<< k)) m0).testBit i = true → m0.testBit i = true ∨ ∃ k ∈ l, (f k).testBit i = true ∨ i = k
  | [], _, _, h => .inl h
  | k :: l, m0, i, h => by
    rcases foldl_bits (l := l) h with h | ⟨k', h1, h2⟩
    · simp only [Nat.testBit_or, Bool.or_eq_true] at h
      rcases h with h | h | h
      · exact .inl h
      · exact .inr ⟨k, by simp, .inl h⟩
      · rw [Nat.one_shiftLeft, Nat.testBit_two_pow] at h
        have h' : k = i := by simpa using h
        exact .inr ⟨k, by simp, .inr h'.symm⟩
    · exact .inr ⟨k', List.mem_cons_of_mem _ h1, h2⟩
theorem preds_at {j : Nat} (h : ops[j]? = some o) : preds .any ops j = predsM o := by unfold preds predsM; rw [h]
theorem regGo_good (hC : ∀ i ∈ C, i.Ok0 p ρ w0) (hO : ∀ i ∈ L, i.Ok p ρ) {nb : Nat} : ∀ {l : List Oper} {j : Nat} {ancs : List Nat} {vts vts' : List (TypeId × Nat)} {effs effs' : Effs}, regGo p C L nt ops b l j ancs vts effs = some (effs', vts') →
    l = ops.toList.drop j → j ≤ ops.size → effs.length = j → ancs.length = j → (∀ k, k < j → AncOk .any ops (ancs.getD k 0) k) → (∀ k, k < j → ∀ i ∈ preds .any ops k, i < k) → nb ≤ vts.length → (∀ q ∈ effs, ∀ v, q.2.al = some v → v < vts.length) →
    Good p ρ vts' w0 nt .any ops Q b nb effs → Good p ρ vts' w0 nt .any ops Q b nb effs' ∧ effs'.length = ops.size ∧ (∀ k, k < ops.size → ∀ i ∈ preds .any ops k, i < k) ∧ (∀ q ∈ effs', ∀ v, q.2.al = some v → v < vts'.length)
  | [], j, ancs, vts, vts', effs, effs', h, hl, hj, he, _, _, hd, _, hal, hg => by
    simp [regGo] at h
    obtain ⟨rfl, rfl⟩ := h
    have : ops.size ≤ j := by
      have := congrArg List.length hl
      simp at this; omega
    have hje : j = ops.size := by omega
    exact ⟨hg, by rw [he, hje], by rw [← hje]; exact hd, hal⟩
  | o :: r, j, ancs, vts, vts', effs, effs', h, hl, hj, he, hna, ha, hd, hnb, hal, hg => by
    have hjl : j < ops.size := by
      have := congrArg List.length hl
      simp at this; omega
    have hoj : ops[j]? = some o := by
      have := congrArg (fun x => x[0]?) hl
      simp only [List.getElem?_cons_zero, List.getElem?_drop, Nat.add_zero, Array.getElem?_toList] at this
      exact this.symm
    have hr : r = ops.toList.drop (j + 1) := by
      have := congrArg List.tail hl
      simpa using this
    simp only [regGo] at h
    split at h
    · rename_i hpr
      have hpr' : ∀ k ∈ predsM o, k < j := fun k hk => by simpa using List.all_eq_true.1 hpr k hk
      split at h
      · rename_i e new heff
        split at h
        · rename_i hok
          obtain ⟨rest, hrest⟩ := regGo_pre h
          have halv := effG_al heff
          have hanc : AncOk .any ops ((predsM o).foldl (fun m k => m ||| (ancs.getD k 0 ||| 1 <<< k)) 0) j := by
            intro i hi T hT hp
            rcases foldl_bits (f := fun k => ancs.getD k 0) hi with h | ⟨k, h1, h2 | h2⟩
            · simp at h
            · have hkT := hp k (by rw [preds_at hoj]; exact h1)
              exact ha k (hpr' k h1) i h2 T hT (fun i' hi' => hT k hkT i' hi')
            · rw [h2]; exact hp k (by rw [preds_at hoj]; exact h1)
          refine regGo_good hC hO h hr (by omega) (by simp [he]) (by simp [hna]) (fun k hk => ?_) (fun k hk i hi => ?_) (by simp; omega) (fun q hq v hv => ?_) ⟨he.symm, ?_, ⟨_, hanc, hok⟩, fun v hv => ?_, hg⟩
          · by_cases hkj : k < j
            · have := ha k hkj
              rwa [List.getD_eq_getElem?_getD, List.getElem?_append_left (by omega), ← List.getD_eq_getElem?_getD]
            · obtain rfl : k = j := by omega
              rw [List.getD_eq_getElem?_getD, List.getElem?_append_right (by omega)]
              simpa [hna] using hanc
          · by_cases hkj : k < j
            · exact hd k hkj i hi
            · obtain rfl : k = j := by omega
              rw [preds_at hoj] at hi; exact hpr' i hi
          · rcases List.mem_cons.1 hq with rfl | hq
            · have := halv v hv
              simp; omega
            · have := hal q hq v hv
              simp; omega
          · exact effG_ok hC hO hoj heff (by rw [hrest, List.append_assoc])
          · have := halv v hv
            exact ⟨⟨by omega, by omega⟩, fun q hq hqv => by have := hal q hq v hqv; omega⟩
        · cases h
      · cases h
    · cases h
/-- What is known holds. -/
def MSt (ρ : Rho) (w0 : World) (nt : Nat) (s : MS) (a : Act) (w : World) : Prop :=
  ∃ B, Inv (vtOf s) w0 nt B a w ∧ (∀ x c, msGet s x = some c → LocH ρ B a w x c) ∧ ∀ v, v < OW → B v ≠ none → v < s.vars.length
theorem setC_get : ∀ {vs : List (TypeId × List (Option Leaf))} {i k : Nat} {l : Option Leaf} {i' : Nat}, (setC vs i k l)[i']? = if i' = i then (vs[i]?).map (fun v => (v.1, v.2.set k l)) else vs[i']?
  | [], i, k, l, i' => by simp [setC]
  | v :: r, 0, k, l, 0 => by simp [setC]
  | v :: r, 0, k, l, i' + 1 => by simp [setC]
  | v :: r, i + 1, k, l, 0 => by simp [setC]
  | v :: r, i + 1, k, l, i' + 1 => by
    simp only [setC, List.getElem?_cons_succ, setC_get (vs := r), Nat.add_right_cancel_iff]
theorem setC_map : ∀ {vs : List (TypeId × List (Option Leaf))} {i k : Nat} {l : Option Leaf}, (setC vs i k l).map (fun x => (x.1, x.2.length)) = vs.map (fun x => (x.1, x.2.length))
  | [], _, _, _ => rfl
  | v :: r, 0, k, l => by simp [setC]
  | v :: r, i + 1, k, l => by simp [setC, setC_map (vs := r)]
theorem msSet_get {s : MS} {q : Nat × AV} {x : Nat} {c : AV} (h : msGet (msSet s q) x = some c) : (x = q.1 ∧ c = q.2) ∨ (x ≠ q.1 ∧ msGet s x = some c) := by
  unfold msSet at h
  split at h
  · rename_i hq
    unfold msGet at h ⊢
    simp only at h ⊢
    split at h
    · rename_i hx
      rw [if_pos hx]
      by_cases e : x = q.1
      · subst e
        rw [List.getElem?_set_self'] at h
        cases hs : s.slots[q.1]? with
        | none => rw [hs] at h; simp at h
        | some y => rw [hs] at h; simp at h; exact .inl ⟨rfl, h.symm⟩
      · rw [List.getElem?_set_ne (fun h => e h.symm)] at h
        exact .inr ⟨e, h⟩
    · rename_i hx
      rw [if_neg hx]
      exact .inr ⟨fun e => hx (by rw [e]; exact hq), h⟩
  · rename_i hq
    unfold msGet at h ⊢
    simp only at h ⊢
    split at h
    · rename_i hx
      rw [if_pos hx]
      exact .inr ⟨fun e => hq (by rw [← e]; exact hx), h⟩
    · rename_i hx
      rw [if_neg hx]
      rw [setC_get] at h
      by_cases e : x / 100000 - 1 = q.1 / 100000 - 1
      · rw [if_pos e] at h
        cases hv : s.vars[q.1 / 100000 - 1]? with
        | none => rw [hv] at h; simp at h
        | some v =>
          rw [hv] at h
          simp only [Option.map_some] at h
          by_cases e2 : x % 100000 = q.1 % 100000
          · have hxq : x = q.1 := by
              have h1 := Nat.div_add_mod x 100000
              have h2 := Nat.div_add_mod q.1 100000
              omega
            rw [e2] at h
            cases hs : v.2[q.1 % 100000]? with
            | none => rw [List.getElem?_set_self', hs] at h; simp at h
            | some y =>
              rw [List.getElem?_set_self (List.getElem?_eq_some_iff.1 hs).1] at h
              cases hl : leafA q.2 with
              | none => rw [hl] at h; simp at h
              | some l =>
                rw [hl] at h; simp at h
                refine .inl ⟨hxq, ?_⟩
                unfold leafA at hl
                split at hl
                · rename_i l' hq2
                  injection hl with hl; subst hl
                  rw [hq2]; exact h.symm
                · cases hl
          · rw [List.getElem?_set_ne (fun h => e2 h.symm)] at h
            refine .inr ⟨fun e' => e2 (by rw [e']), ?_⟩
            rw [e, hv]; exact h
      · rw [if_neg e] at h
        exact .inr ⟨fun e' => e (by rw [e']), h⟩
theorem msWr_get {s : MS} {x : Nat} {c : AV} : ∀ {l : List (Nat × AV)}, msGet (msWr s l) x = some c → (match l.find? (fun q => q.1 == x) with | some q => some q.2 | none => msGet s x) = some c
  | [], h => h
  | q :: l, h => by
    rcases msSet_get (s := msWr s l) h with ⟨e1, e2⟩ | ⟨h1, h2⟩
    · rw [List.find?_cons_of_pos (by simpa using e1.symm), e2]
    · rw [List.find?_cons_of_neg (by simpa using fun e => h1 e.symm)]
      exact msWr_get h2
theorem commit_get {s : MS} {x : Nat} {c : AV} : ∀ {r : Effs}, msGet (commit s r) x = some c → lkE (msGet s) r x = some c
  | [], h => h
  | (_, e) :: r, h => by
    have h1 := msWr_get (s := commit s r) h
    simp only [lkE]
    split at h1
    · rename_i q hq; rw [hq]; exact h1
    · rename_i hq; rw [hq]; exact commit_get h1
theorem lkE_mono {b b' : Nat → Option AV} (h : ∀ x c, b x = some c → b' x = some c) : ∀ {r : Effs} {x : Nat} {c : AV}, lkE b r x = some c → lkE b' r x = some c
  | [], x, c, e => h x c e
  | (_, e) :: r, x, c, he => by
    simp only [lkE] at he ⊢
    split at he
    · exact he
    · exact lkE_mono h he
theorem msExt_get {s : MS} {new : List (TypeId × Nat)} {x : Nat} {c : AV} (h : msGet (msExt s new) x = some c) : msGet s x = some c := by
  unfold msGet msExt at *
  simp only at *
  split at h
  · rename_i hx; rw [if_pos hx]; exact h
  · rename_i hx
    rw [if_neg hx]
    by_cases hv : x / 100000 - 1 < s.vars.length
    · rw [List.getElem?_append_left hv] at h; exact h
    · rw [List.getElem?_append_right (by omega)] at h
      exfalso
      split at h
      · rename_i v hv2
        rw [List.getElem?_map] at hv2
        cases hn : new[x / 100000 - 1 - s.vars.length]? with
        | none => rw [hn] at hv2; cases hv2
        | some y =>
          rw [hn] at hv2; simp at hv2; subst hv2
          split at h
          · rename_i l hl
            simp only [List.getElem?_replicate] at hl
            split at hl <;> cases hl
          · cases h
      · cases h
theorem msSet_vt {s : MS} {q : Nat × AV} : vtOf (msSet s q) = vtOf s := by
  unfold msSet
  split
  · rfl
  · exact setC_map
theorem msWr_vt {s : MS} : ∀ {l : List (Nat × AV)}, vtOf (msWr s l) = vtOf s
  | [] => rfl
  | q :: l => by show vtOf (msSet (msWr s l) q) = _; rw [msSet_vt, msWr_vt]
theorem commit_vt {s : MS} : ∀ {r : Effs}, vtOf (commit s r) = vtOf s
  | [] => rfl
  | (_, e) :: r => by show vtOf (msWr (commit s r) e.wr) = _; rw [msWr_vt, commit_vt]
theorem vtOf_len {s : MS} : (vtOf s).length = s.vars.length := by simp [vtOf]
theorem vtOf_ext {s : MS} {new : List (TypeId × Nat)} : vtOf (msExt s new) = vtOf s ++ new := by
  have : ∀ l : List (TypeId × Nat), (l.map fun x => (x.1, List.replicate x.2 (none : Option Leaf))).map (fun x => (x.1, x.2.length)) = l := fun l => by
    induction l with
    | nil => rfl
    | cons x l ih => simp only [List.map_cons, ih, List.length_replicate]
  simp only [vtOf, msExt, List.map_append, this]
theorem Inv.ext {vt : List (TypeId × Nat)} (h : Inv vt w0 nt B a w) (new : List (TypeId × Nat)) : Inv (vt ++ new) w0 nt B a w :=
  ⟨fun v g hl hv => by
    obtain ⟨h1, cs, ty, h2, h3⟩ := h.blk v g hl hv
    exact ⟨h1, cs, ty, by rw [List.getElem?_append_left (List.getElem?_eq_some_iff.1 h2).1]; exact h2, h3⟩, h.own, h.inj, h.below, h.size, h.dfr⟩
theorem regX_sound (hC : ∀ i ∈ C, i.Ok0 p ρ w0) (hO : ∀ i ∈ L, i.Ok p ρ) (hm : p.follows .mixedOrders = true) {s s' : MS} {id : Nat} {draw : Bool} (h : regX p C L nt ops s = some s') (hs : MSt ρ w0 nt s a w)
    (hQ : ∀ a' w', MSt ρ w0 nt s' a' w' → Q .normal a' w') : (Code.region id ops draw).wp p Q a w := by
  unfold regX at h
  split at h
  · rename_i effs vts he
    simp at h; subst h
    obtain ⟨rest, hrest⟩ := regGo_pre he
    obtain ⟨hg, hlen, hdown, hal⟩ := regGo_good (ρ := ρ) (w0 := w0) (Q := Q) (nb := s.vars.length) hC hO he (by simp) (by omega) rfl rfl (fun k hk => by omega) (fun k hk => by omega) (by rw [vtOf_len]; omega) (fun q hq => by cases hq) trivial
    obtain ⟨B, hi, hv, hB⟩ := hs
    have hnew : vts.drop s.vars.length = rest := by rw [hrest, ← vtOf_len, List.drop_left]
    have start : ∀ w1, Below w.heap.size w w1 → StT ρ vts w0 nt (msGet s) s.vars.length effs [] a w1 := fun w1 hb => by
      refine StT.start (B := B) ?_ (fun x c hx => (hv x c hx).below BLe.refl .refl hb (fun _ => rfl)) hB
      rw [hrest]
      exact (hi.below' hb rfl rfl).ext rest
    have fin : ∀ a' w', StF ρ vts w0 nt (lkE (msGet s) effs) s.vars.length effs a' w' → Q .normal a' w' := fun a' w' ⟨B', h1, h2, h3⟩ => by
      refine hQ a' w' ⟨B', ?_, fun x c hx => h2 x c (lkE_mono (fun x c h => msExt_get h) (commit_get hx)), fun v hvl hv => ?_⟩
      · rw [commit_vt, hnew, vtOf_ext, ← hrest]; exact h1
      · have hl : (commit (msExt s (vts.drop s.vars.length)) effs).vars.length = vts.length := by rw [← vtOf_len, commit_vt, hnew, vtOf_ext, ← hrest]
        rw [hl]
        rcases h3 v hvl hv with h | ⟨q, hq, hqv⟩
        · have : s.vars.length ≤ vts.length := by rw [hrest, List.length_append, vtOf_len]; omega
          omega
        · exact hal q hq v hqv
    cases draw with
    | true => exact wp_region_any hm (any_sound hg hlen hdown (start _ (bel_drewN (Below.refl _ _) 1)) fin)
    | false => exact wp_region (text_sound hg hlen hdown (start _ (Below.refl _ _)) fin)
  · cases h
end
end Go.Proofs.YthebfmlfgfmlnaaGreatDoor
