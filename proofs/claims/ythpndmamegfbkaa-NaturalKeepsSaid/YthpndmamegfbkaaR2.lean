/- A region that draws its order: a set of operations that each make a value and only add to the world, in whatever order. -/
import Derived.WalkKit
import Derived.Deep.RegionWith
import Derived.Below
import Derived.Test.YthpndmamegfbkaaR1
namespace Go.Proofs.Ythpndmamegfbkaa
set_option linter.unusedSimpArgs false
set_option linter.unusedVariables false
open Go.RowKit

section
variable {P : Program} {ops : Array Oper} {Q : Exit → Act → World → Prop} {md : Region.Mode}
theorem wpAny_takeD {i : Nat} {d : Option Tmp} {oi : Oper} {v : Value} {fuel : Nat} {listed : Array Bool} {a : Act} {w : World} (hi : ops[i]? = some oi) (hd : oi.dst = d)
    (hs : Region.noSelect ops = true) (hf : Region.free md ops listed i = true) (hr : (Region.ready md ops listed).contains i = true)
    (hQ : ∀ c a w, Q (.panic c) (a.put d v) w → Q (.panic c) a w) (hy : Yields P ops oi v a)
    (h : wpAny P md ops Q fuel (listed.setIfInBounds i true) (a.put d v) w) : wpAny P md ops Q (fuel + 1) listed a w := by
  subst hd; exact wpAny_take hi hs hf hr hQ hy h
theorem wpAny_take_loadD {i t : Nat} {d : Option Tmp} {oi : Oper} {v : Value} {fuel : Nat} {listed : Array Bool} {a : Act} {w : World} (hi : ops[i]? = some oi) (hd : oi.dst = d) (hit : i < t) (hload : isLoad oi = true)
    (hsz : listed.size = ops.size) (hf : freeLoad md ops listed i t = true) (hr : (Region.ready md ops listed).contains i = true)
    (hQ : ∀ c a w, Q (.panic c) (a.put d v) w → Q (.panic c) a w) (hy : YieldsW P ops oi v a w)
    (h : wpAny P md ops Q fuel (listed.setIfInBounds i true) (a.put d v) w) : wpAny P md ops Q (fuel + 1) listed a w := by
  subst hd; exact wpAny_take_load hi hit hload hsz hf hr hQ hy h
def dstOf (ops : Array Oper) (i : Nat) : Option Tmp := match ops[i]? with | some o => o.dst | none => none
def putAll (ops : Array Oper) (S : List Nat) (f : Nat → Value) (a : Act) : Act := S.foldl (fun a i => a.put (dstOf ops i) (f i)) a
def updF (f : Nat → Value) (j : Nat) (v : Value) : Nat → Value := fun i => if i = j then v else f i
def preds (md : Region.Mode) (ops : Array Oper) (j : Nat) : List Nat := match ops[j]? with | some o => (o.after.toList.filter (Region.binds md)).map (·.on) | none => []
def needs (md : Region.Mode) (ops : Array Oper) : Nat → Nat → List Nat
  | 0, j => preds md ops j
  | n + 1, j => preds md ops j ++ (preds md ops j).flatMap (needs md ops n)
def blk : Value → Nat | .pointer (some a) => a.block | _ => 0
theorem putAll_nil (f : Nat → Value) (a : Act) : putAll ops [] f a = a := rfl
theorem putAll_cons (i : Nat) (S : List Nat) (f : Nat → Value) (a : Act) : putAll ops (i :: S) f a = putAll ops S f (a.put (dstOf ops i) (f i)) := rfl
theorem putAll_congr {S : List Nat} {f g : Nat → Value} (h : ∀ i ∈ S, f i = g i) (a : Act) : putAll ops S f a = putAll ops S g a := by
  induction S generalizing a with
  | nil => rfl
  | cons i S ih => rw [putAll_cons, putAll_cons, h i (by simp), ih (fun k hk => h k (by simp [hk]))]
theorem put_put (a : Act) (d : Option Tmp) (u v : Value) : (a.put d u).put d v = a.put d v := by
  cases d <;> simp [Act.put]
theorem putAll_put {S : List Nat} {d : Option Tmp} (hd : ∀ i ∈ S, dstOf ops i ≠ d) (hS : ∀ i ∈ S, dstOf ops i ≠ none) (f : Nat → Value) (v : Value) (a : Act) :
    (putAll ops S f a).put d v = putAll ops S f (a.put d v) := by
  induction S generalizing a with
  | nil => rfl
  | cons i S ih =>
    rw [putAll_cons, putAll_cons, ih (fun k hk => hd k (by simp [hk])) (fun k hk => hS k (by simp [hk]))]
    congr 1
    have h1 := hd i (by simp)
    cases hdi : dstOf ops i with
    | none => exact absurd hdi (hS i (by simp))
    | some t =>
      cases d with
      | none => rfl
      | some d =>
        have : t ≠ d := fun h => h1 (by rw [hdi, h])
        simp only [Act.put]
        rw [Array.setIfInBounds_comm _ _ this]
theorem putAll_upd {S : List Nat} (hn : (S.map (dstOf ops)).Nodup) (hS : ∀ i ∈ S, dstOf ops i ≠ none) (f : Nat → Value) (v : Value) (a : Act) {j : Nat} (hj : j ∈ S) :
    (putAll ops S f a).put (dstOf ops j) v = putAll ops S (updF f j v) a := by
  induction S generalizing a with
  | nil => cases hj
  | cons i S ih =>
    rw [List.map_cons, List.nodup_cons] at hn
    rw [putAll_cons, putAll_cons]
    by_cases hji : j = i
    · subst hji
      have hnot : ∀ k ∈ S, dstOf ops k ≠ dstOf ops j := fun k hk h => hn.1 (by rw [← h]; exact List.mem_map_of_mem hk)
      rw [putAll_put hnot (fun k hk => hS k (by simp [hk])), put_put]
      have e1 : updF f j v j = v := by simp [updF]
      rw [e1]
      refine putAll_congr (fun k hk => ?_) _
      have : k ≠ j := fun h => hnot k hk (by rw [h])
      simp [updF, this]
    · have hj' : j ∈ S := by
        rcases List.mem_cons.1 hj with h | h
        · exact absurd h hji
        · exact h
      rw [ih hn.2 (fun k hk => hS k (by simp [hk])) _ hj']
      have e1 : updF f j v i = f i := by unfold updF; rw [if_neg (fun h => hji h.symm)]
      rw [e1]
theorem putAll_self {S : List Nat} (a : Act) : putAll ops S (fun i => a.tmps.getD ((dstOf ops i).getD 0) undef) a = a := by
  induction S with
  | nil => rfl
  | cons i S ih =>
    rw [putAll_cons]
    have : a.put (dstOf ops i) (a.tmps.getD ((dstOf ops i).getD 0) undef) = a := by
      cases dstOf ops i with
      | none => rfl
      | some t =>
        simp only [Act.put, Option.getD_some]
        have : a.tmps.setIfInBounds t (a.tmps.getD t undef) = a.tmps := by
          apply Array.ext
          · simp
          · intro k h1 h2
            rw [Array.getElem_setIfInBounds]
            split
            · rename_i h; subst h; simp [h2]
            · rfl
        rw [this]
    rw [this]; exact ih
theorem len_le {T S : List Nat} (hT : T.Nodup) (h : ∀ i ∈ T, i ∈ S) : T.length ≤ S.length := by
  induction T generalizing S with
  | nil => simp
  | cons x T ih =>
    rw [List.nodup_cons] at hT
    have hx := h x (by simp)
    have h1 := ih (S := S.erase x) hT.2 (fun i hi => (List.mem_erase_of_ne (fun e => hT.1 (by rw [← e]; exact hi))).2 (h i (by simp [hi])))
    rw [List.length_erase_of_mem hx] at h1
    have := List.length_pos_of_mem hx
    simp only [List.length_cons]
    omega
def markAll (S : List Nat) (l : Array Bool) : Array Bool := S.foldl (fun l i => l.setIfInBounds i true) l
theorem markAll_size (S : List Nat) (l : Array Bool) : (markAll S l).size = l.size := by
  induction S generalizing l with
  | nil => rfl
  | cons i S ih => show (markAll S (l.setIfInBounds i true)).size = _; rw [ih]; simp
theorem markAll_get (S : List Nat) (l : Array Bool) (k : Nat) (d : Bool) : (markAll S l).getD k d = if k ∈ S ∧ k < l.size then true else l.getD k d := by
  induction S generalizing l with
  | nil => simp [markAll]
  | cons i S ih =>
    show (markAll S (l.setIfInBounds i true)).getD k d = _
    rw [ih]
    by_cases hik : i = k
    · subst hik
      by_cases hlt : i < l.size
      · simp [hlt]
      · simp [hlt]
    · have : k ≠ i := fun h => hik h.symm
      rw [getD_set_ne d hik]
      simp [this]
theorem needs_listed {listed : Array Bool} (hcl : ∀ j, listed.getD j false = true → ∀ k ∈ preds md ops j, listed.getD k false = true) :
    ∀ n j, (∀ k ∈ preds md ops j, listed.getD k false = true) → ∀ k ∈ needs md ops n j, listed.getD k false = true
  | 0, j, h, k, hk => h k hk
  | n + 1, j, h, k, hk => by
    rcases List.mem_append.1 hk with hk | hk
    · exact h k hk
    · obtain ⟨i, hi, hk⟩ := List.mem_flatMap.1 hk
      exact needs_listed hcl n i (hcl i (h i hi)) k hk
theorem ready_preds {listed : Array Bool} {j : Nat} (h : j ∈ Region.ready md ops listed) : j < ops.size ∧ listed.getD j true = false ∧ ∀ k ∈ preds md ops j, listed.getD k false = true := by
  obtain ⟨h0, o, ho, hall⟩ := mem_ready.1 h
  refine ⟨(Array.getElem?_eq_some_iff.1 ho).1, h0, fun k hk => ?_⟩
  unfold preds at hk
  rw [ho] at hk
  simp only [List.mem_map, List.mem_filter] at hk
  obtain ⟨e, ⟨he, hb⟩, rfl⟩ := hk
  exact hall e (by simpa using he) hb
theorem mk_ready {listed : Array Bool} {j : Nat} (hj : j < ops.size) (h0 : listed.getD j true = false) (h : ∀ k ∈ preds md ops j, listed.getD k false = true) : j ∈ Region.ready md ops listed := by
  refine mem_ready.2 ⟨h0, ops[j], Array.getElem?_eq_getElem hj, fun e he hb => h e.on ?_⟩
  unfold preds
  rw [Array.getElem?_eq_getElem hj]
  simp only [List.mem_map, List.mem_filter]
  exact ⟨e, ⟨by simpa using he, hb⟩, rfl⟩
/-- What is checked of the plan by reckoning. -/
def phaseOk (md : Region.Mode) (ops : Array Oper) (n : Nat) (S : List Nat) (l : Array Bool) : Bool :=
  l.size == ops.size && S.all (fun i => decide (i < ops.size) && !l.getD i true && (dstOf ops i).isSome) &&
  (List.range ops.size).all (fun j => !l.getD j false || (preds md ops j).all (fun k => l.getD k false)) &&
  (List.range ops.size).all (fun j => S.contains j || l.getD j false || S.all (fun i => (needs md ops n j).contains i)) &&
  S.all (fun j => (preds md ops j).all (fun k => decide (k < j) && (S.contains k || l.getD k false)))

theorem wpAny_phase (S : List Nat) (n : Nat) (Al : Nat → Bool) (F : Nat → Value → World → Prop) {l : Array Bool} {a : Act} {w : World} {fuel : Nat}
    (hok : phaseOk md ops n S l = true) (hnd : (S.map (dstOf ops)).Nodup)
    (hst : ∀ i ∈ S, ∀ v w w', F i v w → Below w.heap.size w w' → F i v w')
    (hlt : ∀ i ∈ S, Al i = true → ∀ v w, F i v w → blk v < w.heap.size)
    (hstep : ∀ j ∈ S, ∀ (f : Nat → Value) (w' : World), Below w.heap.size w w' → (∀ i ∈ S, i ∈ preds md ops j → F i (f i) w') → ∀ K : Act → World → Prop,
      (∀ v w'', F j v w'' → Below w'.heap.size w' w'' → (Al j = true → w'.heap.size ≤ blk v) → K (putAll ops S (updF f j v) a) w'') → wpOp P ops Q j K (putAll ops S f a) w')
    (hrest : ∀ f w', Below w.heap.size w w' → (∀ i ∈ S, F i (f i) w') → (∀ i ∈ S, ∀ j ∈ S, Al i = true → Al j = true → i ≠ j → blk (f i) ≠ blk (f j)) → wpAny P md ops Q fuel (markAll S l) (putAll ops S f a) w') :
    wpAny P md ops Q (fuel + S.length) l a w := by
  unfold phaseOk at hok
  simp only [Bool.and_eq_true, List.all_eq_true, Bool.or_eq_true, Bool.not_eq_true', decide_eq_true_eq, List.mem_range, beq_iff_eq, List.contains_iff_mem] at hok
  obtain ⟨⟨⟨⟨hsz, hS⟩, hcl⟩, hoth⟩, hdown⟩ := hok
  have hnd' : S.Nodup := by
    rw [List.nodup_iff_pairwise_ne] at hnd ⊢
    rw [List.pairwise_map] at hnd
    exact hnd.imp (fun h e => h (by rw [e]))
  have main : ∀ (r : Nat) (T : List Nat) (f : Nat → Value) (w' : World), T.Nodup → (∀ i ∈ T, i ∈ S) → T.length + r = S.length →
      (∀ j, (markAll T l).getD j false = true → ∀ k ∈ preds md ops j, (markAll T l).getD k false = true) →
      Below w.heap.size w w' → (∀ i ∈ T, F i (f i) w') → (∀ i ∈ T, ∀ j ∈ T, Al i = true → Al j = true → i ≠ j → blk (f i) ≠ blk (f j)) →
      wpAny P md ops Q (fuel + r) (markAll T l) (putAll ops S f a) w' := by
    intro r
    induction r with
    | zero =>
      intro T f w' hTn hT hlen hclT hb hF hsep
      have hsub : ∀ i ∈ S, i ∈ T := by
        intro i hi
        apply Classical.byContradiction
        intro hni
        have h1 : (i :: T).length ≤ S.length := len_le (List.nodup_cons.2 ⟨hni, hTn⟩) (fun k hk => by rcases List.mem_cons.1 hk with rfl | hk; exact hi; exact hT k hk)
        simp at h1; omega
      have e : markAll T l = markAll S l := by
        apply Array.ext
        · rw [markAll_size, markAll_size]
        · intro k h1 h2
          have g1 := markAll_get T l k false
          have g2 := markAll_get S l k false
          have hiff : k ∈ T ↔ k ∈ S := ⟨hT k, hsub k⟩
          simp only [hiff] at g1
          rw [← g2] at g1
          simpa [h1, h2] using g1
      rw [e]
      exact hrest f w' hb (fun i hi => hF i (hsub i hi)) (fun i hi j hj => hsep i (hsub i hi) j (hsub j hj))
    | succ r ih =>
      intro T f w' hTn hT hlen hclT hb hF hsep
      have hex : ∃ i ∈ S, i ∉ T := by
        apply Classical.byContradiction
        intro hno
        have hall : ∀ i ∈ S, i ∈ T := fun i hi => Classical.byContradiction fun h => hno ⟨i, hi, h⟩
        have := len_le hnd' hall
        omega
      have hready : ∀ j ∈ Region.ready md ops (markAll T l), j ∈ S ∧ j ∉ T ∧ ∀ k ∈ preds md ops j, (markAll T l).getD k false = true := by
        intro j hj
        obtain ⟨hjs, hj0, hjp⟩ := ready_preds hj
        have hjT : j ∉ T := by
          intro h
          rw [markAll_get] at hj0
          simp [h, hsz, hjs] at hj0
        refine ⟨?_, hjT, hjp⟩
        rcases hoth j hjs with (h | h) | h
        · exact h
        · rw [markAll_get] at hj0
          have : j < l.size := by omega
          simp [hjT, this] at hj0 h
          rw [hj0] at h; cases h
        · obtain ⟨i, hi, hiT⟩ := hex
          have h1 := needs_listed hclT n j hjp i (h i hi)
          rw [markAll_get] at h1
          have h2 := (hS i hi).1.2
          have : i < l.size := by have := (hS i hi).1.1; omega
          simp [hiT, this] at h1 h2
          rw [h1] at h2; cases h2
      have un : ∀ i ∈ S, i ∉ T → (markAll T l).getD i true = false := fun i hi hiT => by
        rw [markAll_get]
        have := (hS i hi).1.2
        simp [hiT]
        simpa using this
      have hsome : ∃ i ∈ Region.ready md ops (markAll T l), True := by
        have key : ∀ (m i : Nat), i ≤ m → i ∈ S → i ∉ T → ∃ i ∈ Region.ready md ops (markAll T l), True := by
          intro m
          induction m with
          | zero =>
            intro i him hi hiT
            refine ⟨i, mk_ready (hS i hi).1.1 (un i hi hiT) (fun k hk => ?_), trivial⟩
            have := (hdown i hi k hk).1
            omega
          | succ m ihm =>
            intro i him hi hiT
            by_cases hall : ∀ k ∈ preds md ops i, (markAll T l).getD k false = true
            · exact ⟨i, mk_ready (hS i hi).1.1 (un i hi hiT) hall, trivial⟩
            · simp only [Classical.not_forall] at hall
              obtain ⟨k, hk, hno⟩ := hall
              obtain ⟨hlt', hor⟩ := hdown i hi k hk
              have hkT : k ∉ T := fun h => hno (by rw [markAll_get]; simp [h, hsz]; have := (hS k (hT k h)).1.1; omega)
              rcases hor with h | h
              · exact ihm k (by omega) h hkT
              · exact absurd (by rw [markAll_get]; simp [hkT]; simpa using h) hno
        obtain ⟨i, hi, hiT⟩ := hex
        exact key i i (Nat.le_refl _) hi hiT
      refine ⟨fun h => ?_, fun j hj => ?_⟩
      · obtain ⟨i, hi, _⟩ := hsome
        rw [h] at hi; cases hi
      · obtain ⟨hjS, hjT, hjp⟩ := hready j hj
        refine hstep j hjS f w' hb (fun i hi hp => ?_) _ (fun v w'' hFv hbv hnew => ?_)
        · refine hF i (Classical.byContradiction fun hiT => ?_)
          have h1 := hjp i hp
          rw [markAll_get] at h1
          have h2 := (hS i hi).1.2
          have : i < l.size := by have := (hS i hi).1.1; omega
          simp [hiT, this] at h1 h2
          rw [h1] at h2; cases h2
        · have e : (markAll T l).setIfInBounds j true = markAll (T ++ [j]) l := by unfold markAll; rw [List.foldl_append]; rfl
          rw [e]
          refine ih (T ++ [j]) (updF f j v) w'' ?_ ?_ ?_ ?_ (hb.trans (hbv.mono hb.size)) ?_ ?_
          · exact List.nodup_append.2 ⟨hTn, by simp, by intro x hx y hy; simp at hy; subst hy; exact fun h => hjT (h ▸ hx)⟩
          · intro i hi
            rcases List.mem_append.1 hi with h | h
            · exact hT i h
            · simp at h; rw [h]; exact hjS
          · simp; omega
          · intro i hi k hk
            rw [← e] at hi ⊢
            by_cases hij : j = i
            · subst hij
              exact getD_set_true (hjp k hk)
            · rw [getD_set_ne false hij] at hi
              exact getD_set_true (hclT i hi k hk)
          · intro i hi
            by_cases hij : i = j
            · subst hij; simpa [updF] using hFv
            · have hiT : i ∈ T := by
                rcases List.mem_append.1 hi with h | h
                · exact h
                · simp at h; exact absurd h hij
              simp only [updF, hij, if_false]
              exact hst i (hT i hiT) _ _ _ (hF i hiT) hbv
          · intro i hi k hk hai hak hik
            have low : ∀ x ∈ T, Al x = true → blk (f x) < w'.heap.size := fun x hx hax => hlt x (hT x hx) hax _ _ (hF x hx)
            have inT : ∀ x ∈ T ++ [j], x ≠ j → x ∈ T := fun x hx hxj => by
              rcases List.mem_append.1 hx with h | h
              · exact h
              · simp at h; exact absurd h hxj
            by_cases hij : i = j
            · have hkj : k ≠ j := fun h => hik (by rw [hij, h])
              have h1 := low k (inT k hk hkj) hak
              subst hij
              simp only [updF, if_true, hkj, if_false]
              have := hnew hai
              omega
            · have h1 := low i (inT i hi hij) hai
              by_cases hkj : k = j
              · subst hkj
                simp only [updF, if_true, hij, if_false]
                have := hnew hak
                omega
              · simp only [updF, hij, hkj, if_false]
                exact hsep i (inT i hi hij) k (inT k hk hkj) hai hak hik
  have h0 := main S.length [] (fun i => a.tmps.getD ((dstOf ops i).getD 0) undef) w (by simp) (by simp) (by simp) (fun j hj k hk => by
      have hjs : j < ops.size := by
        rcases Nat.lt_or_ge j ops.size with h | h
        · exact h
        · have hj' : l.getD j false = true := hj
          simp [Array.getElem?_eq_none (show l.size ≤ j by omega)] at hj'
      rcases hcl j hjs with h | h
      · have hj' : l.getD j false = true := hj
        rw [h] at hj'; cases hj'
      · exact h k hk) (Below.refl _ _) (by simp) (by simp)
  rw [putAll_self] at h0
  exact h0
def putD (D : List (Nat × Tmp)) (f : Nat → Value) (a : Act) : Act := D.foldl (fun a p => a.put (some p.2) (f p.1)) a
theorem putD_eq {D : List (Nat × Tmp)} (h : D.all (fun p => dstOf ops p.1 == some p.2) = true) (f : Nat → Value) (a : Act) : putD D f a = putAll ops (D.map (·.1)) f a := by
  induction D generalizing a with
  | nil => rfl
  | cons p D ih =>
    simp only [List.all_cons, Bool.and_eq_true, beq_iff_eq] at h
    show putD D f (a.put (some p.2) (f p.1)) = putAll ops (D.map (·.1)) f (a.put (dstOf ops p.1) (f p.1))
    rw [h.1, ih h.2]
/-- D: the operations, each with its slot. -/
theorem wpAny_phaseD (D : List (Nat × Tmp)) (n : Nat) (Al : Nat → Bool) (F : Nat → Value → World → Prop) {l : Array Bool} {a : Act} {w : World} {fuel : Nat}
    (hok : phaseOk md ops n (D.map (·.1)) l = true) (hds : D.all (fun p => dstOf ops p.1 == some p.2) = true) (hnd : (D.map (·.2)).Nodup)
    (hst : ∀ i ∈ D.map (·.1), ∀ v w w', F i v w → Below w.heap.size w w' → F i v w')
    (hlt : ∀ i ∈ D.map (·.1), Al i = true → ∀ v w, F i v w → blk v < w.heap.size)
    (hstep : ∀ p ∈ D, ∀ (f : Nat → Value) (w' : World), Below w.heap.size w w' → (∀ i ∈ D.map (·.1), i ∈ preds md ops p.1 → F i (f i) w') → ∀ K : Act → World → Prop,
      (∀ v w'', F p.1 v w'' → Below w'.heap.size w' w'' → (Al p.1 = true → w'.heap.size ≤ blk v) → K ((putD D f a).put (some p.2) v) w'') → wpOp P ops Q p.1 K (putD D f a) w')
    (hrest : ∀ f w', Below w.heap.size w w' → (∀ i ∈ D.map (·.1), F i (f i) w') → (∀ i ∈ D.map (·.1), ∀ j ∈ D.map (·.1), Al i = true → Al j = true → i ≠ j → blk (f i) ≠ blk (f j)) →
      wpAny P md ops Q fuel (markAll (D.map (·.1)) l) (putD D f a) w') :
    wpAny P md ops Q (fuel + D.length) l a w := by
  have hS : ∀ i ∈ D.map (·.1), dstOf ops i ≠ none := by
    intro i hi
    obtain ⟨p, hp, rfl⟩ := List.mem_map.1 hi
    have := List.all_eq_true.1 hds p hp
    rw [beq_iff_eq] at this
    rw [this]; simp
  have hnd' : ((D.map (·.1)).map (dstOf ops)).Nodup := by
    rw [List.map_map]
    have : D.map (dstOf ops ∘ fun p => p.1) = (D.map (·.2)).map some := by
      rw [List.map_map]
      apply List.map_congr_left
      intro p hp
      have := List.all_eq_true.1 hds p hp
      rw [beq_iff_eq] at this
      simp [this]
    rw [this, List.nodup_iff_pairwise_ne, List.pairwise_map]
    rw [List.nodup_iff_pairwise_ne] at hnd
    exact hnd.imp (fun h e => h (by simpa using e))
  have h := wpAny_phase (fuel := fuel) (D.map (·.1)) n Al F hok hnd' hst hlt (fun j hj f w' hb hF K hK => by
      rw [← putD_eq hds]
      obtain ⟨p, hp, rfl⟩ := List.mem_map.1 hj
      have hd := List.all_eq_true.1 hds p hp
      rw [beq_iff_eq] at hd
      refine hstep p hp f w' hb hF K (fun v w'' h1 h2 h3 => ?_)
      have := hK v w'' h1 h2 h3
      rw [← putAll_upd hnd' hS _ _ _ hj, ← putD_eq hds, hd] at this
      exact this) (fun f w' hb hF hs => by rw [← putD_eq hds]; exact hrest f w' hb hF hs)
  rwa [List.length_map] at h
end
end Go.Proofs.Ythpndmamegfbkaa
