/- A region that draws its order and writes: an invariant of the world that every operation keeps, and the value of each operation. -/
import Derived.Test.YthpndmamegfbkaaEE
namespace Go.Proofs.Ythpndmamegfbkaa
set_option linter.unusedSimpArgs false
set_option linter.unusedVariables false
open Go.RowKit
def putV (D : List (Option Tmp × Value)) (a : Act) : Act := D.foldl (fun a p => a.put p.1 p.2) a
section
variable {P : Program} {ops : Array Oper} {Q : Exit → Act → World → Prop} {md : Region.Mode}
theorem putV_out {D : List (Option Tmp × Value)} {a : Act} {t : Tmp} (h : ∀ v, (some t, v) ∉ D) : (putV D a).tmps[t]? = a.tmps[t]? := by
  induction D generalizing a with
  | nil => rfl
  | cons p D ih =>
    show (putV D (a.put p.1 p.2)).tmps[t]? = _
    rw [ih (fun v hv => h v (List.mem_cons_of_mem _ hv))]
    cases hp : p.1 with
    | none => rfl
    | some d =>
      have : d ≠ t := fun e => h p.2 (by rw [← e, ← hp]; exact List.mem_cons_self)
      simp [Act.put, Array.getElem?_setIfInBounds, this]
theorem putV_size {D : List (Option Tmp × Value)} {a : Act} : (putV D a).tmps.size = a.tmps.size := by
  induction D generalizing a with
  | nil => rfl
  | cons p D ih => show (putV D (a.put p.1 p.2)).tmps.size = _; rw [ih]; cases p.1 <;> simp [Act.put]
theorem putV_defers {D : List (Option Tmp × Value)} {a : Act} : (putV D a).defers = a.defers := by
  induction D generalizing a with
  | nil => rfl
  | cons p D ih => show (putV D (a.put p.1 p.2)).defers = _; rw [ih]; cases p.1 <;> rfl
theorem putV_in {D : List (Option Tmp × Value)} {a : Act} {t : Tmp} {v : Value} (hn : (D.filterMap (·.1)).Nodup) (hm : (some t, v) ∈ D) (ht : t < a.tmps.size) : (putV D a).tmps[t]? = some v := by
  induction D generalizing a with
  | nil => cases hm
  | cons p D ih =>
    show (putV D (a.put p.1 p.2)).tmps[t]? = _
    rcases List.mem_cons.1 hm with rfl | hm'
    · simp only [List.filterMap_cons] at hn
      rw [List.nodup_cons] at hn
      rw [putV_out (fun u hu => hn.1 (List.mem_filterMap.2 ⟨_, hu, rfl⟩))]
      simp [Act.put, ht]
    · refine ih ?_ hm' (by cases p.1 <;> simpa [Act.put] using ht)
      cases hp : p.1 with
      | none => simpa [List.filterMap_cons, hp] using hn
      | some d => simp only [List.filterMap_cons, hp, List.nodup_cons] at hn; exact hn.2
/-- What is reckoned of the table. -/
def invOk (md : Region.Mode) (ops : Array Oper) (D : List (Option Tmp × Value)) (size : Nat) (dsts : List (Option Tmp)) : Bool :=
  ops.size == dsts.length && (List.range ops.size).all (fun j => (preds md ops j).all (fun k => decide (k < j))) && (List.range ops.size).all (fun j => dstOf ops j == (dsts[j]?).getD none) &&
  decide ((dsts.filterMap id).Nodup) && dsts.all (fun d => d.all (fun t => decide (t < size)))
theorem wpAny_inv (D : List (Option Tmp × Value)) (J : World → Prop) {a : Act} {w : World} (hok : invOk md ops D a.tmps.size (D.map (·.1)) = true) (hJ : J w)
    (hstep : ∀ j, j < D.length → ∀ (a' : Act) (w' : World), J w' → (∀ t, (∀ v, (some t, v) ∉ D) → a'.tmps[t]? = a.tmps[t]?) → (∀ (i : Nat) (t : Tmp) (v : Value), i ∈ preds md ops j → D[i]? = some (some t, v) → a'.tmps[t]? = some v) →
      ∃ o d v, ops[j]? = some o ∧ D[j]? = some (d, v) ∧ Region.wanted o (yielded ops a'.tmps) = true ∧ ∀ K : Act → World → Prop, (∀ w'', J w'' → K (a'.put d v) w'') → Oper.wp P o a' w' K Q)
    (hrest : ∀ w', J w' → Q .normal (putV D a) w') : wpAny P md ops Q D.length (Array.replicate D.length false) a w := by
  unfold invOk at hok
  simp only [Bool.and_eq_true, decide_eq_true_eq, beq_iff_eq, List.all_eq_true, List.mem_range, List.length_map, List.filterMap_map, Function.id_comp] at hok
  obtain ⟨⟨⟨⟨hsz, hdown⟩, hdst⟩, hnd⟩, hlt⟩ := hok
  have hnd' : (D.filterMap (·.1)).Nodup := hnd
  have hlt' : ∀ t v, (some t, v) ∈ D → t < a.tmps.size := fun t v h => by
    have := hlt (some t) (List.mem_map.2 ⟨_, h, rfl⟩)
    simpa using this
  -- what the slots hold when the operations of T are done
  have main : ∀ (r : Nat) (T : List Nat) (a' : Act) (w' : World), T.Nodup → (∀ i ∈ T, i < D.length) → T.length + r = D.length →
      (∀ j ∈ T, ∀ k ∈ preds md ops j, k ∈ T) → J w' → a'.tmps.size = a.tmps.size → a'.defers = a.defers → (∀ t, (∀ v, (some t, v) ∉ D) → a'.tmps[t]? = a.tmps[t]?) →
      (∀ (i : Nat) (t : Tmp) (v : Value), i ∈ T → D[i]? = some (some t, v) → a'.tmps[t]? = some v) →
      wpAny P md ops Q r (markAll T (Array.replicate D.length false)) a' w' := by
    intro r
    induction r with
    | zero =>
      intro T a' w' hTn hT hlen hcl hJ' hs hd hout hin
      have hall : ∀ i, i < D.length → i ∈ T := by
        intro i hi
        apply Classical.byContradiction
        intro hni
        have h1 : (i :: T).length ≤ (List.range D.length).length := len_le (List.nodup_cons.2 ⟨hni, hTn⟩) (fun k hk => by
          rcases List.mem_cons.1 hk with rfl | hk
          · exact List.mem_range.2 hi
          · exact List.mem_range.2 (hT k hk))
        simp at h1; omega
      have ha : a' = putV D a := by
        have h1 : a'.tmps = (putV D a).tmps := by
          apply Array.ext_getElem?
          intro t
          by_cases ht : ∃ v, (some t, v) ∈ D
          · obtain ⟨v, hv⟩ := ht
            obtain ⟨i, hi⟩ := List.getElem?_of_mem hv
            rw [hin i t v (hall i (List.getElem?_eq_some_iff.1 hi).1) hi, putV_in hnd' hv (hlt' t v hv)]
          · have hno : ∀ v, (some t, v) ∉ D := fun v hv => ht ⟨v, hv⟩
            rw [hout t hno, putV_out hno]
        have h2 : a'.defers = (putV D a).defers := by rw [hd, putV_defers]
        cases a'; cases hp : putV D a; rw [hp] at h1 h2; simp only at h1 h2; rw [h1, h2]
      refine ⟨?_, by rw [ha]; exact hrest w' hJ'⟩
      apply List.eq_nil_iff_forall_not_mem.2
      intro j hj
      obtain ⟨hjs, hj0, _⟩ := ready_preds hj
      rw [markAll_get] at hj0
      have : j < D.length := by omega
      simp [hall j this, this] at hj0
    | succ r ih =>
      intro T a' w' hTn hT hlen hcl hJ' hs hd hout hin
      have hready : ∀ j ∈ Region.ready md ops (markAll T (Array.replicate D.length false)), j < D.length ∧ j ∉ T ∧ ∀ k ∈ preds md ops j, k ∈ T := by
        intro j hj
        obtain ⟨hjs, hj0, hjp⟩ := ready_preds hj
        have hjD : j < D.length := by omega
        have hjT : j ∉ T := by
          intro h
          rw [markAll_get] at hj0
          simp [h, hjD] at hj0
        refine ⟨hjD, hjT, fun k hk => ?_⟩
        have h1 := hjp k hk
        rw [markAll_get] at h1
        apply Classical.byContradiction
        intro hkT
        have hkD : k < D.length := by have := hdown j hjs k hk; omega
        simp [hkT, hkD] at h1
      have hex : ∃ i, i < D.length ∧ i ∉ T := by
        apply Classical.byContradiction
        intro hno
        have hall : ∀ i ∈ List.range D.length, i ∈ T := fun i hi => Classical.byContradiction fun h => hno ⟨i, List.mem_range.1 hi, h⟩
        have := len_le List.nodup_range hall
        simp at this; omega
      have hsome : ∃ i ∈ Region.ready md ops (markAll T (Array.replicate D.length false)), True := by
        have key : ∀ (m i : Nat), i ≤ m → i < D.length → i ∉ T → ∃ i ∈ Region.ready md ops (markAll T (Array.replicate D.length false)), True := by
          intro m
          induction m with
          | zero =>
            intro i him hi hiT
            refine ⟨i, mk_ready (by omega) (by rw [markAll_get]; simp [hiT, hi]) (fun k hk => ?_), trivial⟩
            have := hdown i (by omega) k hk
            omega
          | succ m ihm =>
            intro i him hi hiT
            by_cases hall : ∀ k ∈ preds md ops i, k ∈ T
            · refine ⟨i, mk_ready (by omega) (by rw [markAll_get]; simp [hiT, hi]) (fun k hk => ?_), trivial⟩
              have hkD := hT k (hall k hk)
              rw [markAll_get]; simp [hall k hk, hkD]
            · simp only [Classical.not_forall] at hall
              obtain ⟨k, hk, hkT⟩ := hall
              have hki := hdown i (by omega) k hk
              exact ihm k (by omega) (by omega) hkT
        obtain ⟨i, hi, hiT⟩ := hex
        exact key i i (Nat.le_refl _) hi hiT
      refine ⟨fun h => ?_, fun j hj => ?_⟩
      · obtain ⟨i, hi, _⟩ := hsome
        rw [h] at hi; cases hi
      · obtain ⟨hjD, hjT, hjp⟩ := hready j hj
        obtain ⟨o, d, v, ho, hDj, hw, harm⟩ := hstep j hjD a' w' hJ' hout (fun i t v hi hv => hin i t v (hjp i hi) hv)
        unfold wpOp
        rw [ho]
        show if Region.wanted o (yielded ops a'.tmps) = true then _ else _
        rw [if_pos hw]
        refine .inl (harm _ (fun w'' hJ'' => ?_))
        have e : (markAll T (Array.replicate D.length false)).setIfInBounds j true = markAll (T ++ [j]) (Array.replicate D.length false) := by unfold markAll; rw [List.foldl_append]; rfl
        rw [e]
        refine ih (T ++ [j]) (a'.put d v) w'' ?_ ?_ ?_ ?_ hJ'' ?_ ?_ ?_ ?_
        · exact List.nodup_append.2 ⟨hTn, by simp, by intro x hx y hy; simp at hy; subst hy; exact fun h => hjT (h ▸ hx)⟩
        · intro i hi
          rcases List.mem_append.1 hi with h | h
          · exact hT i h
          · simp at h; omega
        · simp; omega
        · intro i hi k hk
          rcases List.mem_append.1 hi with h | h
          · exact List.mem_append_left _ (hcl i h k hk)
          · simp at h; subst h; exact List.mem_append_left _ (hjp k hk)
        · cases d <;> simpa [Act.put] using hs
        · cases d <;> simpa [Act.put] using hd
        · intro t ht
          cases d with
          | none => exact hout t ht
          | some d =>
            have hne : d ≠ t := fun h => ht v (h ▸ List.mem_of_getElem? hDj)
            simp only [Act.put, Array.getElem?_setIfInBounds, hne, if_false]
            exact hout t ht
        · intro i t u hi hDi
          have hmem := List.mem_of_getElem? hDi
          by_cases hij : i = j
          · subst hij
            rw [hDj] at hDi
            simp only [Option.some.injEq, Prod.mk.injEq] at hDi
            obtain ⟨rfl, rfl⟩ := hDi
            have := hlt' t v hmem
            simp [Act.put, hs, this]
          · have hiT : i ∈ T := by
              rcases List.mem_append.1 hi with h | h
              · exact h
              · simp at h; exact absurd h hij
            cases d with
            | none => exact hin i t u hiT hDi
            | some d =>
              have hne : d ≠ t := by
                rintro rfl
                -- two operations with one slot
                have hp : ∀ (L : List (Option Tmp × Value)) (x y : Nat) (p q : Option Tmp × Value), (L.filterMap (·.1)).Nodup → L[x]? = some p → L[y]? = some q → p.1 = some d → q.1 = some d → x = y := by
                  intro L
                  induction L with
                  | nil => intro x y p q _ h; simp at h
                  | cons z L ihL =>
                    intro x y p q hn hx hy hp hq
                    cases x with
                    | zero =>
                      cases y with
                      | zero => rfl
                      | succ y =>
                        simp at hx hy; subst hx
                        simp only [List.filterMap_cons, hp, List.nodup_cons] at hn
                        exact absurd (List.mem_filterMap.2 ⟨q, List.mem_of_getElem? hy, hq⟩) hn.1
                    | succ x =>
                      cases y with
                      | zero =>
                        simp at hx hy; subst hy
                        simp only [List.filterMap_cons, hq, List.nodup_cons] at hn
                        exact absurd (List.mem_filterMap.2 ⟨p, List.mem_of_getElem? hx, hp⟩) hn.1
                      | succ y =>
                        simp at hx hy
                        have hn' : (L.filterMap (·.1)).Nodup := by
                          cases hz : z.1 with
                          | none => simpa [List.filterMap_cons, hz] using hn
                          | some _ => simp only [List.filterMap_cons, hz, List.nodup_cons] at hn; exact hn.2
                        rw [ihL x y p q hn' hx hy hp hq]
                exact hij (hp D i j _ _ hnd' hDi hDj rfl rfl)
              simp only [Act.put, Array.getElem?_setIfInBounds, hne, if_false]
              exact hin i t u hiT hDi
  have h0 := main D.length [] a w (by simp) (by simp) (by simp) (by simp) hJ rfl rfl (fun _ _ => rfl) (by simp)
  exact h0
theorem arr_ext {a b : Array Bool} (hs : a.size = b.size) (h : ∀ k, a.getD k false = b.getD k false) : a = b := by
  apply Array.ext hs
  intro k h1 h2
  have := h k
  simpa [h1, h2] using this
def subs : List Nat → List (List Nat)
  | [] => [[]]
  | x :: l => subs l ++ (subs l).map (x :: ·)
theorem filter_subs (p : Nat → Bool) : ∀ l : List Nat, l.filter p ∈ subs l
  | [] => by simp [subs]
  | x :: l => by
    have ih := filter_subs p l
    rw [List.filter_cons]
    split
    · exact List.mem_append_right _ (List.mem_map.2 ⟨_, ih, rfl⟩)
    · exact List.mem_append_left _ ih
/-- What is checked of the plan by reckoning; E: operations of the plan that may still be open when others become ready. -/
def phaseOkE (md : Region.Mode) (ops : Array Oper) (n : Nat) (S E : List Nat) (l : Array Bool) : Bool :=
  l.size == ops.size && S.all (fun i => decide (i < ops.size) && !l.getD i true && (dstOf ops i).isSome) &&
  (List.range ops.size).all (fun j => !l.getD j false || (preds md ops j).all (fun k => l.getD k false)) &&
  (List.range ops.size).all (fun j => S.contains j || l.getD j false || S.all (fun i => E.contains i || (needs md ops n j).contains i)) &&
  S.all (fun j => (preds md ops j).all (fun k => decide (k < j) && (S.contains k || l.getD k false))) && E.all (fun i => S.contains i) && decide E.Nodup
theorem wpAny_phaseE (S E : List Nat) (n : Nat) (Al : Nat → Bool) (F : Nat → Value → World → Prop) {l : Array Bool} {a : Act} {w : World} {fuel : Nat}
    (hok : phaseOkE md ops n S E l = true) (hnd : (S.map (dstOf ops)).Nodup)
    (hst : ∀ i ∈ S, ∀ v w w', F i v w → Below w.heap.size w w' → F i v w')
    (hlt : ∀ i ∈ S, Al i = true → ∀ v w, F i v w → blk v < w.heap.size)
    (hstep : ∀ j ∈ S, ∀ (f : Nat → Value) (w' : World), Below w.heap.size w w' → (∀ i ∈ S, i ∈ preds md ops j → F i (f i) w') → ∀ K : Act → World → Prop,
      (∀ v w'', F j v w'' → Below w'.heap.size w' w'' → (Al j = true → w'.heap.size ≤ blk v) → K (putAll ops S (updF f j v) a) w'') → wpOp P ops Q j K (putAll ops S f a) w')
    (hrest : ∀ E' ∈ subs E, ∀ f w', Below w.heap.size w w' → (∀ i ∈ S, i ∉ E' → F i (f i) w') → (∀ i ∈ S, i ∉ E' → ∀ j ∈ S, j ∉ E' → Al i = true → Al j = true → i ≠ j → blk (f i) ≠ blk (f j)) →
      wpAny P md ops Q (fuel + E'.length) (markAll (S.filter (fun i => !E'.contains i)) l) (putAll ops S f a) w') :
    wpAny P md ops Q (fuel + S.length) l a w := by
  unfold phaseOkE at hok
  simp only [Bool.and_eq_true, List.all_eq_true, Bool.or_eq_true, Bool.not_eq_true', decide_eq_true_eq, List.mem_range, beq_iff_eq, List.contains_iff_mem] at hok
  obtain ⟨⟨⟨⟨⟨⟨hsz, hS⟩, hcl⟩, hoth⟩, hdown⟩, hES⟩, hEn⟩ := hok
  have hnd' : S.Nodup := by
    rw [List.nodup_iff_pairwise_ne] at hnd ⊢
    rw [List.pairwise_map] at hnd
    exact hnd.imp (fun h e => h (by rw [e]))
  have main : ∀ (r : Nat) (T : List Nat) (f : Nat → Value) (w' : World), T.Nodup → (∀ i ∈ T, i ∈ S) → T.length + r = S.length →
      (∀ j, (markAll T l).getD j false = true → ∀ k ∈ preds md ops j, (markAll T l).getD k false = true) →
      Below w.heap.size w w' → (∀ i ∈ T, F i (f i) w') → (∀ i ∈ T, ∀ j ∈ T, Al i = true → Al j = true → i ≠ j → blk (f i) ≠ blk (f j)) →
      wpAny P md ops Q (fuel + r) (markAll T l) (putAll ops S f a) w' := by
    have stop : ∀ (r : Nat) (T : List Nat) (f : Nat → Value) (w' : World), T.Nodup → (∀ i ∈ T, i ∈ S) → T.length + r = S.length → Below w.heap.size w w' → (∀ i ∈ T, F i (f i) w') → (∀ i ∈ T, ∀ j ∈ T, Al i = true → Al j = true → i ≠ j → blk (f i) ≠ blk (f j)) →
        (∀ i ∈ S, i ∉ E → i ∈ T) → wpAny P md ops Q (fuel + r) (markAll T l) (putAll ops S f a) w' := by
      intro r T f w' hTn hT hlen hb hF hsep hmain
      have hE' := filter_subs (fun i => !decide (i ∈ T)) E
      have hiff : ∀ i ∈ S, (i ∉ E.filter (fun i => !decide (i ∈ T)) ↔ i ∈ T) := fun i hi => by
        simp only [List.mem_filter, Bool.not_eq_true', decide_eq_false_iff_not, not_and, Classical.not_not]
        exact ⟨fun h => Classical.byContradiction fun hn => by
          by_cases hiE : i ∈ E
          · exact hn (h hiE)
          · exact hn (hmain i hi hiE), fun h _ => h⟩
      have h := hrest _ hE' f w' hb (fun i hi hn => hF i ((hiff i hi).1 hn)) (fun i hi hni j hj hnj => hsep i ((hiff i hi).1 hni) j ((hiff j hj).1 hnj))
      have hmk : markAll (S.filter (fun i => !(E.filter (fun i => !decide (i ∈ T))).contains i)) l = markAll T l := by
        have hm : ∀ k, k ∈ S.filter (fun i => !(E.filter (fun i => !decide (i ∈ T))).contains i) ↔ k ∈ T := fun k => by
          rw [List.mem_filter]
          constructor
          · rintro ⟨hk, hc⟩
            refine (hiff k hk).1 (fun hc' => ?_)
            rw [List.contains_iff_mem.2 hc'] at hc; cases hc
          · intro hk
            refine ⟨hT k hk, ?_⟩
            have := (hiff k (hT k hk)).2 hk
            cases hc : (E.filter (fun i => !decide (i ∈ T))).contains k
            · rfl
            · exact absurd (List.contains_iff_mem.1 hc) this
        refine arr_ext (by rw [markAll_size, markAll_size]) (fun k => ?_)
        have g1 := markAll_get (S.filter (fun i => !(E.filter (fun i => !decide (i ∈ T))).contains i)) l k false
        have g2 := markAll_get T l k false
        simp only [hm] at g1
        rw [← g2] at g1
        exact g1
      have hln : (E.filter (fun i => !decide (i ∈ T))).length = r := by
        have h1 : S.length ≤ (T ++ E.filter (fun i => !decide (i ∈ T))).length := len_le hnd' (fun i hi => by
          rw [List.mem_append]
          by_cases hiT : i ∈ T
          · exact .inl hiT
          · refine .inr (Classical.byContradiction fun hn => hiT ((hiff i hi).1 hn)))
        have h2 : (T ++ E.filter (fun i => !decide (i ∈ T))).length ≤ S.length := len_le (List.nodup_append.2 ⟨hTn, hEn.filter _, fun x hx y hy => by
          rintro rfl
          simp at hy
          exact hy.2 hx⟩) (fun i hi => by
          rcases List.mem_append.1 hi with h | h
          · exact hT i h
          · exact hES i (List.mem_filter.1 h).1)
        rw [List.length_append] at h1 h2
        omega
      rw [hmk, hln] at h
      exact h
    intro r
    induction r with
    | zero =>
      intro T f w' hTn hT hlen hclT hb hF hsep
      refine stop 0 T f w' hTn hT hlen hb hF hsep (fun i hi _ => ?_)
      apply Classical.byContradiction
      intro hni
      have h1 : (i :: T).length ≤ S.length := len_le (List.nodup_cons.2 ⟨hni, hTn⟩) (fun k hk => by rcases List.mem_cons.1 hk with rfl | hk; exact hi; exact hT k hk)
      simp at h1; omega
    | succ r ih =>
      intro T f w' hTn hT hlen hclT hb hF hsep
      by_cases hmain : ∀ i ∈ S, i ∉ E → i ∈ T
      · exact stop (r + 1) T f w' hTn hT hlen hb hF hsep hmain
      have hex : ∃ i ∈ S, i ∉ T ∧ i ∉ E := by
        apply Classical.byContradiction
        intro hno
        exact hmain (fun i hi hiE => Classical.byContradiction fun h => hno ⟨i, hi, h, hiE⟩)
      have hready : ∀ j ∈ Region.ready md ops (markAll T l), j ∈ S ∧ j ∉ T ∧ ∀ k ∈ preds md ops j, (markAll T l).getD k false = true := by
        intro j hj
        obtain ⟨hjs, hj0, hjp⟩ := ready_preds hj
        have hjT : j ∉ T := by
          intro h
          rw [markAll_get] at hj0
          simp [h, hsz, hjs] at hj0
        refine ⟨?_, hjT, hjp⟩
        rcases hoth j hjs with (h | h) | h
        · exact h
        · rw [markAll_get] at hj0
          have : j < l.size := by omega
          simp [hjT, this] at hj0 h
          rw [hj0] at h; cases h
        · obtain ⟨i, hi, hiT, hiE⟩ := hex
          have h1 := needs_listed hclT n j hjp i ((h i hi).resolve_left (fun hc => hiE hc))
          rw [markAll_get] at h1
          have h2 := (hS i hi).1.2
          have : i < l.size := by have := (hS i hi).1.1; omega
          simp [hiT, this] at h1 h2
          rw [h1] at h2; cases h2
      have un : ∀ i ∈ S, i ∉ T → (markAll T l).getD i true = false := fun i hi hiT => by
        rw [markAll_get]
        have := (hS i hi).1.2
        simp [hiT]
        simpa using this
      have hsome : ∃ i ∈ Region.ready md ops (markAll T l), True := by
        have key : ∀ (m i : Nat), i ≤ m → i ∈ S → i ∉ T → ∃ i ∈ Region.ready md ops (markAll T l), True := by
          intro m
          induction m with
          | zero =>
            intro i him hi hiT
            refine ⟨i, mk_ready (hS i hi).1.1 (un i hi hiT) (fun k hk => ?_), trivial⟩
            have := (hdown i hi k hk).1
            omega
          | succ m ihm =>
            intro i him hi hiT
            by_cases hall : ∀ k ∈ preds md ops i, (markAll T l).getD k false = true
            · exact ⟨i, mk_ready (hS i hi).1.1 (un i hi hiT) hall, trivial⟩
            · simp only [Classical.not_forall] at hall
              obtain ⟨k, hk, hno⟩ := hall
              obtain ⟨hlt', hor⟩ := hdown i hi k hk
              have hkT : k ∉ T := fun h => hno (by rw [markAll_get]; simp [h, hsz]; have := (hS k (hT k h)).1.1; omega)
              rcases hor with h | h
              · exact ihm k (by omega) h hkT
              · exact absurd (by rw [markAll_get]; simp [hkT]; simpa using h) hno
        obtain ⟨i, hi, hiT, _⟩ := hex
        exact key i i (Nat.le_refl _) hi hiT
      refine ⟨fun h => ?_, fun j hj => ?_⟩
      · obtain ⟨i, hi, _⟩ := hsome
        rw [h] at hi; cases hi
      · obtain ⟨hjS, hjT, hjp⟩ := hready j hj
        refine hstep j hjS f w' hb (fun i hi hp => ?_) _ (fun v w'' hFv hbv hnew => ?_)
        · refine hF i (Classical.byContradiction fun hiT => ?_)
          have h1 := hjp i hp
          rw [markAll_get] at h1
          have h2 := (hS i hi).1.2
          have : i < l.size := by have := (hS i hi).1.1; omega
          simp [hiT, this] at h1 h2
          rw [h1] at h2; cases h2
        · have e : (markAll T l).setIfInBounds j true = markAll (T ++ [j]) l := by unfold markAll; rw [List.foldl_append]; rfl
          rw [e]
          refine ih (T ++ [j]) (updF f j v) w'' ?_ ?_ ?_ ?_ (hb.trans (hbv.mono hb.size)) ?_ ?_
          · exact List.nodup_append.2 ⟨hTn, by simp, by intro x hx y hy; simp at hy; subst hy; exact fun h => hjT (h ▸ hx)⟩
          · intro i hi
            rcases List.mem_append.1 hi with h | h
            · exact hT i h
            · simp at h; rw [h]; exact hjS
          · simp; omega
          · intro i hi k hk
            rw [← e] at hi ⊢
            by_cases hij : j = i
            · subst hij
              exact getD_set_true (hjp k hk)
            · rw [getD_set_ne false hij] at hi
              exact getD_set_true (hclT i hi k hk)
          · intro i hi
            by_cases hij : i = j
            · subst hij; simpa [updF] using hFv
            · have hiT : i ∈ T := by
                rcases List.mem_append.1 hi with h | h
                · exact h
                · simp at h; exact absurd h hij
              simp only [updF, hij, if_false]
              exact hst i (hT i hiT) _ _ _ (hF i hiT) hbv
          · intro i hi k hk hai hak hik
            have low : ∀ x ∈ T, Al x = true → blk (f x) < w'.heap.size := fun x hx hax => hlt x (hT x hx) hax _ _ (hF x hx)
            have inT : ∀ x ∈ T ++ [j], x ≠ j → x ∈ T := fun x hx hxj => by
              rcases List.mem_append.1 hx with h | h
              · exact h
              · simp at h; exact absurd h hxj
            by_cases hij : i = j
            · have hkj : k ≠ j := fun h => hik (by rw [hij, h])
              have h1 := low k (inT k hk hkj) hak
              subst hij
              simp only [updF, if_true, hkj, if_false]
              have := hnew hai
              omega
            · have h1 := low i (inT i hi hij) hai
              by_cases hkj : k = j
              · subst hkj
                simp only [updF, if_true, hij, if_false]
                have := hnew hak
                omega
              · simp only [updF, hij, hkj, if_false]
                exact hsep i (inT i hi hij) k (inT k hk hkj) hai hak hik
  have h0 := main S.length [] (fun i => a.tmps.getD ((dstOf ops i).getD 0) undef) w (by simp) (by simp) (by simp) (fun j hj k hk => by
      have hjs : j < ops.size := by
        rcases Nat.lt_or_ge j ops.size with h | h
        · exact h
        · have hj' : l.getD j false = true := hj
          simp [Array.getElem?_eq_none (show l.size ≤ j by omega)] at hj'
      rcases hcl j hjs with h | h
      · have hj' : l.getD j false = true := hj
        rw [h] at hj'; cases hj'
      · exact h k hk) (Below.refl _ _) (by simp) (by simp)
  rw [putAll_self] at h0
  exact h0
/-- As wp_tabK; the operations of E may still be open when others of the rest become ready. -/
theorem wp_tabE (f : Func) (r : Nat) (D : List (Nat × Tmp × Sp)) (E : List Nat) (Al : Nat → Bool) (n fuel : Nat) {id : Nat} {ops' : Array Oper} {a : Act} {w : World} (hops : opsOf f r = ops') (hm : P.follows .mixedOrders = true)
    (hlen : (opsOf f r).size = fuel + D.length) (hokE : phaseOkE .any (opsOf f r) n ((entries D).map (·.1)) E (Array.replicate (fuel + D.length) false) = true)
    (hok2 : ((entries D).all (fun p => dstOf (opsOf f r) p.1 == some p.2) && decide (((entries D).map (·.2)).Nodup) && decide (((entries D).map (·.1)).Nodup) && (entries D).all (fun p => decide (p.2 < a.tmps.size))) = true)
    (hal : EachX (fun x => Al x.1 = true → ∀ w v, x.2.2.p w v → blk v < w.heap.size) D)
    (steps : EachX (fun x => ∀ (a' : Act) (w' : World), Found .any (opsOf f r) D x.1 w a a' w' → ∃ o, (opsOf f r)[x.1]? = some o ∧ Region.wanted o (yielded (opsOf f r) a'.tmps) = true ∧ ArmB P Q (Al x.1) o a' w' x.2.2) D)
    (hrest : ∀ E' ∈ subs E, ∀ (g : Nat → Value) w', Below w.heap.size w w' → (∀ (i : Nat) (t : Tmp) (s : Sp), i ∉ E' → D[i]? = some (i, t, s) → s.p w' (g i)) → (∀ i j : Nat, ((entries D).map (·.1)).contains i = true → ((entries D).map (·.1)).contains j = true → i ∉ E' → j ∉ E' → Al i = true → Al j = true → i ≠ j → blk (g i) ≠ blk (g j)) →
      wpAny P .any (opsOf f r) Q (fuel + E'.length) (markAll (((entries D).map (·.1)).filter (fun i => !E'.contains i)) (Array.replicate (fuel + D.length) false)) (putD (entries D) g a) w') : (Code.region id ops' true).wp P Q a w := by
  subst hops
  refine wp_region_any hm ?_
  have hb0 : Below w.heap.size w w.drew := bel_drewN (Below.refl _ _) 1
  change wpAny P .any _ Q _ _ _ w.drew
  rw [hlen]
  simp only [Bool.and_eq_true, decide_eq_true_eq] at hok2
  obtain ⟨⟨⟨hds, hnt⟩, hni⟩, hlt⟩ := hok2
  have ht : ∀ p ∈ entries D, p.2 < a.tmps.size := fun p hp => by simpa using List.all_eq_true.1 hlt p hp
  have hcon : ∀ t, ((entries D).map (·.2)).contains t = false → t ∉ (entries D).map (·.2) := fun t h hm => by
    rw [List.contains_iff_mem.2 hm] at h; cases h
  have hmem : ∀ (i : Nat) (t : Tmp) (s : Sp), D[i]? = some (i, t, s) → (i, t, s) ∈ D := fun i t s h => List.mem_of_getElem? h
  have key := keyed (D := D) (by simpa [entries, Function.comp_def] using hni)
  have hS : ∀ i ∈ (entries D).map (·.1), dstOf (opsOf f r) i ≠ none := by
    intro i hi
    obtain ⟨p, hp, rfl⟩ := List.mem_map.1 hi
    have := List.all_eq_true.1 hds p hp
    rw [beq_iff_eq] at this
    rw [this]; simp
  have hnd' : (((entries D).map (·.1)).map (dstOf (opsOf f r))).Nodup := by
    rw [List.map_map]
    have : (entries D).map (dstOf (opsOf f r) ∘ fun p => p.1) = ((entries D).map (·.2)).map some := by
      rw [List.map_map]
      apply List.map_congr_left
      intro p hp
      have := List.all_eq_true.1 hds p hp
      rw [beq_iff_eq] at this
      simp [this]
    rw [this, List.nodup_iff_pairwise_ne, List.pairwise_map]
    rw [List.nodup_iff_pairwise_ne] at hnt
    exact hnt.imp (fun h e => h (by simpa using e))
  have hlen2 : D.length = ((entries D).map (·.1)).length := by simp [entries]
  have e1 : fuel + D.length = fuel + ((entries D).map (·.1)).length := by rw [hlen2]
  have main := wpAny_phaseE (P := P) (Q := Q) (fuel := fuel) (a := a) (w := w.drew) ((entries D).map (·.1)) E n Al (fun i v w' => ∀ t s, (i, t, s) ∈ D → s.p w' v) hokE hnd' (fun i _ v w1 w2 h hb t s hm => s.st _ _ _ (h t s hm) hb) ?_ ?_ ?_
  · rw [← e1] at main; exact main
  · intro i hi hA v w' h
    obtain ⟨p, hp, rfl⟩ := List.mem_map.1 hi
    obtain ⟨x, hx, rfl⟩ := List.mem_map.1 hp
    exact hal.mem x hx hA w' v (h x.2.1 x.2.2 hx)
  · intro j hj g w' hb hF K hK
    obtain ⟨p, hp, rfl⟩ := List.mem_map.1 hj
    obtain ⟨x, hx, rfl⟩ := List.mem_map.1 hp
    rw [← putD_eq hds]
    obtain ⟨o, ho, hw, harm⟩ := steps.mem x hx (putD (entries D) g a) w' ⟨hb0.trans (hb.mono hb0.size), fun t h => putD_slot t (hcon t h), fun i t s h1 h2 =>
      ⟨g i, putD_in hnt (mem_entries (hmem i t s h1)) (ht _ (mem_entries (hmem i t s h1))), hF i (List.mem_map.2 ⟨_, mem_entries (hmem i t s h1), rfl⟩) (List.contains_iff_mem.1 h2) t s (hmem i t s h1)⟩⟩
    unfold wpOp
    rw [ho]
    show if Region.wanted o (yielded (opsOf f r) (putD (entries D) g a).tmps) = true then _ else _
    rw [if_pos hw]
    refine .inl (harm K (fun v w'' hv hbv hA => ?_))
    have hd := List.all_eq_true.1 hds _ hp
    rw [beq_iff_eq] at hd
    have hdo : o.dst = some x.2.1 := by
      have : dstOf (opsOf f r) x.1 = o.dst := by unfold dstOf; rw [ho]
      rw [← this]; exact hd
    have h := hK v w'' (fun t s hm => by
      have e2 := key _ hm _ (show (x.1, x.2.1, x.2.2) ∈ D from hx) rfl
      simp only [Prod.mk.injEq, true_and] at e2
      rw [e2.2]; exact hv) hbv hA
    rw [← putAll_upd hnd' hS _ _ _ hj, ← putD_eq hds, hd] at h
    rw [hdo]; exact h
  · intro E' hE' g w' hb hF hsep
    rw [← putD_eq hds]
    have h := hrest E' hE' g w' (hb0.trans (hb.mono hb0.size)) (fun i t s hn h => hF i (List.mem_map.2 ⟨_, mem_entries (hmem i t s h), rfl⟩) hn t s (hmem i t s h))
      (fun i j hi hj hni hnj => hsep i (List.contains_iff_mem.1 hi) hni j (List.contains_iff_mem.1 hj) hnj)
    exact h
end
end Go.Proofs.Ythpndmamegfbkaa
