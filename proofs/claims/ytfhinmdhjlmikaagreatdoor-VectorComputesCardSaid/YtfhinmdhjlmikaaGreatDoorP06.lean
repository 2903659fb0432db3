/- Decimal texts: what is formatted is parsed as it was, and what is parsed is formatted as it was. A region that draws its order and writes: an invariant of the world that every operation keeps, and the value of each operation. Fractions in memory; tables of regions whose operations may be skipped. Short forms for the rows of tables. Fractions: stores, the operations of tables. lowest of package fraction. Make of package fraction. Make of the reference. Fractions as arguments; the reference's Same, Sign; operations of tables. -/
import Derived.Test.YtfhinmdhjlmikaaGreatDoorP05
namespace Go.Proofs.YtfhinmdhjlmikaaGreatDoor
set_option linter.unusedSimpArgs false
set_option linter.unusedVariables false
set_option maxRecDepth 100000
open Go.RowKit
theorem by_list (l : List UInt8) (i : Nat) : by' ⟨l.toArray⟩ i = (l[i]?.map UInt8.toNat).getD 0 := by
  unfold by'
  by_cases h : i < l.length
  · have h' : i < (ByteArray.mk l.toArray).size := by simpa [ByteArray.size] using h
    rw [dif_pos h']
    simp [h]
    rfl
  · have h' : ¬ i < (ByteArray.mk l.toArray).size := by simpa [ByteArray.size] using h
    rw [dif_neg h', List.getElem?_eq_none (by omega)]
    rfl
theorem parseVal_congr {s t : ByteArray} : ∀ k, (∀ j, j < k → by' s j = by' t j) → parseVal s k = parseVal t k
  | 0, _ => rfl
  | k + 1, h => by
    show 10 * parseVal s k + (by' s k - 48) = 10 * parseVal t k + (by' t k - 48)
    rw [parseVal_congr k (fun j hj => h j (by omega)), h k (by omega)]
theorem digit_byte (d : Nat) (h : d ≤ 9) : (UInt8.ofNat (48 + d)).toNat = 48 + d := by rw [UInt8.toNat_ofNat']; omega
theorem by_snoc_lt (l : List UInt8) (b : UInt8) (j : Nat) (h : j < l.length) : by' ⟨(l ++ [b]).toArray⟩ j = by' ⟨l.toArray⟩ j := by
  rw [by_list, by_list, List.getElem?_append_left h]
theorem by_snoc_eq (l : List UInt8) (b : UInt8) : by' ⟨(l ++ [b]).toArray⟩ l.length = b.toNat := by
  rw [by_list]; simp
/-- The digits of N, read as a number, are N; all are digits; the first is not 0. -/
theorem dec_read : ∀ (n N : Nat), N ≤ n → N ≠ 0 → parseVal ⟨(decB N).reverse.toArray⟩ (decB N).length = N ∧ goodTo ⟨(decB N).reverse.toArray⟩ (decB N).length ∧ by' ⟨(decB N).reverse.toArray⟩ 0 ≠ 48 ∧ 0 < (decB N).length
  | 0, N, h, h0 => by omega
  | n + 1, N, h, h0 => by
    have hd := digit_byte (N % 10) (by omega)
    rw [decB_pos h0, List.reverse_cons, List.length_cons]
    by_cases hz : N / 10 = 0
    · have hN : N ≤ 9 := by omega
      rw [hz, decB_zero]
      have e := by_snoc_eq [] (UInt8.ofNat (48 + N % 10))
      rw [hd] at e
      simp only [List.reverse_nil, List.length_nil] at e ⊢
      refine ⟨?_, ?_, ?_, by omega⟩
      · show 10 * 0 + (by' _ 0 - 48) = N
        rw [e]; omega
      · intro j hj
        obtain rfl : j = 0 := by omega
        rw [e]; omega
      · rw [e]; omega
    · obtain ⟨i1, i2, i3, i4⟩ := dec_read n (N / 10) (by omega) hz
      have hlt : ∀ j, j < (decB (N / 10)).length → by' ⟨((decB (N / 10)).reverse ++ [UInt8.ofNat (48 + N % 10)]).toArray⟩ j = by' ⟨(decB (N / 10)).reverse.toArray⟩ j := fun j hj => by_snoc_lt _ _ j (by simpa using hj)
      have heq : by' ⟨((decB (N / 10)).reverse ++ [UInt8.ofNat (48 + N % 10)]).toArray⟩ (decB (N / 10)).length = 48 + N % 10 := by
        have := by_snoc_eq (decB (N / 10)).reverse (UInt8.ofNat (48 + N % 10))
        rw [List.length_reverse, hd] at this
        exact this
      refine ⟨?_, ?_, ?_, by omega⟩
      · show 10 * parseVal _ (decB (N / 10)).length + (by' _ (decB (N / 10)).length - 48) = N
        rw [parseVal_congr _ hlt, i1, heq]; omega
      · intro j hj
        rcases Nat.lt_or_ge j (decB (N / 10)).length with h' | h'
        · rw [hlt j h']; exact i2 j h'
        · obtain rfl : j = (decB (N / 10)).length := by omega
          rw [heq]; omega
      · rw [hlt 0 i4]; exact i3
theorem fmt_parses (N : Nat) (h : nl N ≤ 12) : ParseIs (fmtB N) N 0 := by
  by_cases h0 : N = 0
  · subst h0
    have e : fmtB 0 = ⟨#[48]⟩ := by unfold fmtB; rw [if_pos rfl]
    rw [e]
    refine ⟨fun h => absurd h (by decide), fun h => absurd h (by decide), fun h => absurd h (by decide), fun _ _ h => absurd (by decide : ∀ j, j < 1 → _) h, fun _ _ _ _ => ⟨by decide, rfl⟩⟩
  · have e : fmtB N = ⟨(decB N).reverse.toArray⟩ := by unfold fmtB; rw [if_neg h0]
    have hsz : (fmtB N).size = (decB N).length := by rw [e]; simp [ByteArray.size]
    obtain ⟨i1, i2, i3, i4⟩ := dec_read N N (Nat.le_refl _) h0
    have hb := decB_bound N
    rw [← e] at i1 i2 i3
    refine ⟨fun h => by omega, fun h => by omega, fun _ _ h => absurd h i3, fun _ _ h => absurd (by rw [hsz]; exact i2) h, fun _ _ _ _ => ⟨by rw [hsz, i1], rfl⟩⟩
end Go.Proofs.YtfhinmdhjlmikaaGreatDoor
namespace Go.Proofs.YtfhinmdhjlmikaaGreatDoor
set_option linter.unusedSimpArgs false
set_option linter.unusedVariables false
set_option maxRecDepth 100000
open Go.RowKit
section
variable {P : Program} {ops : Array Oper} {Q : Exit → Act → World → Prop} {md : Region.Mode}
theorem arr_ext {a b : Array Bool} (hs : a.size = b.size) (h : ∀ k, a.getD k false = b.getD k false) : a = b := by
  apply Array.ext hs
  intro k h1 h2
  have := h k
  simpa [h1, h2] using this
def subs : List Nat → List (List Nat)
  | [] => [[]]
  | x :: l => subs l ++ (subs l).map (x :: ·)
theorem filter_subs (p : Nat → Bool) : ∀ l : List Nat, l.filter p ∈ subs l
  | [] => by simp [subs]
  | x :: l => by
    have ih := filter_subs p l
    rw [List.filter_cons]
    split
    · exact List.mem_append_right _ (List.mem_map.2 ⟨_, ih, rfl⟩)
    · exact List.mem_append_left _ ih
/-- What is checked of the plan by reckoning; E: operations of the plan that may still be open when others become ready. -/
def phaseOkE (md : Region.Mode) (ops : Array Oper) (n : Nat) (S E : List Nat) (l : Array Bool) : Bool :=
  l.size == ops.size && S.all (fun i => decide (i < ops.size) && !l.getD i true && (dstOf ops i).isSome) &&
  (List.range ops.size).all (fun j => !l.getD j false || (preds md ops j).all (fun k => l.getD k false)) &&
  (List.range ops.size).all (fun j => S.contains j || l.getD j false || S.all (fun i => E.contains i || (needs md ops n j).contains i)) &&
  S.all (fun j => (preds md ops j).all (fun k => decide (k < j) && (S.contains k || l.getD k false))) && E.all (fun i => S.contains i) && decide E.Nodup
theorem wpAny_phaseE (S E : List Nat) (n : Nat) (Al : Nat → Bool) (F : Nat → Value → World → Prop) {l : Array Bool} {a : Act} {w : World} {fuel : Nat}
    (hok : phaseOkE md ops n S E l = true) (hnd : (S.map (dstOf ops)).Nodup)
    (hst : ∀ i ∈ S, ∀ v w w', F i v w → Below w.heap.size w w' → F i v w')
    (hlt : ∀ i ∈ S, Al i = true → ∀ v w, F i v w → blk v < w.heap.size)
    (hstep : ∀ j ∈ S, ∀ (f : Nat → Value) (w' : World), Below w.heap.size w w' → (∀ i ∈ S, i ∈ preds md ops j → F i (f i) w') → ∀ K : Act → World → Prop,
      (∀ v w'', F j v w'' → Below w'.heap.size w' w'' → (Al j = true → w'.heap.size ≤ blk v) → K (putAll ops S (updF f j v) a) w'') → wpOp P ops Q j K (putAll ops S f a) w')
    (hrest : ∀ E' ∈ subs E, ∀ f w', Below w.heap.size w w' → (∀ i ∈ S, i ∉ E' → F i (f i) w') → (∀ i ∈ S, i ∉ E' → ∀ j ∈ S, j ∉ E' → Al i = true → Al j = true → i ≠ j → blk (f i) ≠ blk (f j)) →
      wpAny P md ops Q (fuel + E'.length) (markAll (S.filter (fun i => !E'.contains i)) l) (putAll ops S f a) w') :
    wpAny P md ops Q (fuel + S.length) l a w := by
  unfold phaseOkE at hok
  simp only [Bool.and_eq_true, List.all_eq_true, Bool.or_eq_true, Bool.not_eq_true', decide_eq_true_eq, List.mem_range, beq_iff_eq, List.contains_iff_mem] at hok
  obtain ⟨⟨⟨⟨⟨⟨hsz, hS⟩, hcl⟩, hoth⟩, hdown⟩, hES⟩, hEn⟩ := hok
  have hnd' : S.Nodup := by
    rw [List.nodup_iff_pairwise_ne] at hnd ⊢
    rw [List.pairwise_map] at hnd
    exact hnd.imp (fun h e => h (by rw [e]))
  have main : ∀ (r : Nat) (T : List Nat) (f : Nat → Value) (w' : World), T.Nodup → (∀ i ∈ T, i ∈ S) → T.length + r = S.length →
      (∀ j, (markAll T l).getD j false = true → ∀ k ∈ preds md ops j, (markAll T l).getD k false = true) →
      Below w.heap.size w w' → (∀ i ∈ T, F i (f i) w') → (∀ i ∈ T, ∀ j ∈ T, Al i = true → Al j = true → i ≠ j → blk (f i) ≠ blk (f j)) →
      wpAny P md ops Q (fuel + r) (markAll T l) (putAll ops S f a) w' := by
    have stop : ∀ (r : Nat) (T : List Nat) (f : Nat → Value) (w' : World), T.Nodup → (∀ i ∈ T, i ∈ S) → T.length + r = S.length → Below w.heap.size w w' → (∀ i ∈ T, F i (f i) w') → (∀ i ∈ T, ∀ j ∈ T, Al i = true → Al j = true → i ≠ j → blk (f i) ≠ blk (f j)) →
        (∀ i ∈ S, i ∉ E → i ∈ T) → wpAny P md ops Q (fuel + r) (markAll T l) (putAll ops S f a) w' := by
      intro r T f w' hTn hT hlen hb hF hsep hmain
      have hE' := filter_subs (fun i => !decide (i ∈ T)) E
      have hiff : ∀ i ∈ S, (i ∉ E.filter (fun i => !decide (i ∈ T)) ↔ i ∈ T) := fun i hi => by
        simp only [List.mem_filter, Bool.not_eq_true', decide_eq_false_iff_not, not_and, Classical.not_not]
        exact ⟨fun h => Classical.byContradiction fun hn => by
          by_cases hiE : i ∈ E
          · exact hn (h hiE)
          · exact hn (hmain i hi hiE), fun h _ => h⟩
      have h := hrest _ hE' f w' hb (fun i hi hn => hF i ((hiff i hi).1 hn)) (fun i hi hni j hj hnj => hsep i ((hiff i hi).1 hni) j ((hiff j hj).1 hnj))
      have hmk : markAll (S.filter (fun i => !(E.filter (fun i => !decide (i ∈ T))).contains i)) l = markAll T l := by
        have hm : ∀ k, k ∈ S.filter (fun i => !(E.filter (fun i => !decide (i ∈ T))).contains i) ↔ k ∈ T := fun k => by
          rw [List.mem_filter]
          constructor
          · rintro ⟨hk, hc⟩
            refine (hiff k hk).1 (fun hc' => ?_)
            rw [List.contains_iff_mem.2 hc'] at hc; cases hc
          · intro hk
            refine ⟨hT k hk, ?_⟩
            have := (hiff k (hT k hk)).2 hk
            cases hc : (E.filter (fun i => !decide (i ∈ T))).contains k
            · rfl
            · exact absurd (List.contains_iff_mem.1 hc) this
        refine arr_ext (by rw [markAll_size, markAll_size]) (fun k => ?_)
        have g1 := markAll_get (S.filter (fun i => !(E.filter (fun i => !decide (i ∈ T))).contains i)) l k false
        have g2 := markAll_get T l k false
        simp only [hm] at g1
        rw [← g2] at g1
        exact g1
      have hln : (E.filter (fun i => !decide (i ∈ T))).length = r := by
        have h1 : S.length ≤ (T ++ E.filter (fun i => !decide (i ∈ T))).length := len_le hnd' (fun i hi => by
          rw [List.mem_append]
          by_cases hiT : i ∈ T
          · exact .inl hiT
          · refine .inr (Classical.byContradiction fun hn => hiT ((hiff i hi).1 hn)))
        have h2 : (T ++ E.filter (fun i => !decide (i ∈ T))).length ≤ S.length := len_le (List.nodup_append.2 ⟨hTn, hEn.filter _, fun x hx y hy => by
          rintro rfl
          simp at hy
          exact hy.2 hx⟩) (fun i hi => by
          rcases List.mem_append.1 hi with h | h
          · exact hT i h
          · exact hES i (List.mem_filter.1 h).1)
        rw [List.length_append] at h1 h2
        omega
      rw [hmk, hln] at h
      exact h
    intro r
    induction r with
    | zero =>
      intro T f w' hTn hT hlen hclT hb hF hsep
      refine stop 0 T f w' hTn hT hlen hb hF hsep (fun i hi _ => ?_)
      apply Classical.byContradiction
      intro hni
      have h1 : (i :: T).length ≤ S.length := len_le (List.nodup_cons.2 ⟨hni, hTn⟩) (fun k hk => by rcases List.mem_cons.1 hk with rfl | hk; exact hi; exact hT k hk)
      simp at h1; omega
    | succ r ih =>
      intro T f w' hTn hT hlen hclT hb hF hsep
      by_cases hmain : ∀ i ∈ S, i ∉ E → i ∈ T
      · exact stop (r + 1) T f w' hTn hT hlen hb hF hsep hmain
      have hex : ∃ i ∈ S, i ∉ T ∧ i ∉ E := by
        apply Classical.byContradiction
        intro hno
        exact hmain (fun i hi hiE => Classical.byContradiction fun h => hno ⟨i, hi, h, hiE⟩)
      have hready : ∀ j ∈ Region.ready md ops (markAll T l), j ∈ S ∧ j ∉ T ∧ ∀ k ∈ preds md ops j, (markAll T l).getD k false = true := by
        intro j hj
        obtain ⟨hjs, hj0, hjp⟩ := ready_preds hj
        have hjT : j ∉ T := by
          intro h
          rw [markAll_get] at hj0
          simp [h, hsz, hjs] at hj0
        refine ⟨?_, hjT, hjp⟩
        rcases hoth j hjs with (h | h) | h
        · exact h
        · rw [markAll_get] at hj0
          have : j < l.size := by omega
          simp [hjT, this] at hj0 h
          rw [hj0] at h; cases h
        · obtain ⟨i, hi, hiT, hiE⟩ := hex
          have h1 := needs_listed hclT n j hjp i ((h i hi).resolve_left (fun hc => hiE hc))
          rw [markAll_get] at h1
          have h2 := (hS i hi).1.2
          have : i < l.size := by have := (hS i hi).1.1; omega
          simp [hiT, this] at h1 h2
          rw [h1] at h2; cases h2
      have un : ∀ i ∈ S, i ∉ T → (markAll T l).getD i true = false := fun i hi hiT => by
        rw [markAll_get]
        have := (hS i hi).1.2
        simp [hiT]
        simpa using this
      have hsome : ∃ i ∈ Region.ready md ops (markAll T l), True := by
        have key : ∀ (m i : Nat), i ≤ m → i ∈ S → i ∉ T → ∃ i ∈ Region.ready md ops (markAll T l), True := by
          intro m
          induction m with
          | zero =>
            intro i him hi hiT
            refine ⟨i, mk_ready (hS i hi).1.1 (un i hi hiT) (fun k hk => ?_), trivial⟩
            have := (hdown i hi k hk).1
            omega
          | succ m ihm =>
            intro i him hi hiT
            by_cases hall : ∀ k ∈ preds md ops i, (markAll T l).getD k false = true
            · exact ⟨i, mk_ready (hS i hi).1.1 (un i hi hiT) hall, trivial⟩
            · simp only [Classical.not_forall] at hall
              obtain ⟨k, hk, hno⟩ := hall
              obtain ⟨hlt', hor⟩ := hdown i hi k hk
              have hkT : k ∉ T := fun h => hno (by rw [markAll_get]; simp [h, hsz]; have := (hS k (hT k h)).1.1; omega)
              rcases hor with h | h
              · exact ihm k (by omega) h hkT
              · exact absurd (by rw [markAll_get]; simp [hkT]; simpa using h) hno
        obtain ⟨i, hi, hiT, _⟩ := hex
        exact key i i (Nat.le_refl _) hi hiT
      refine ⟨fun h => ?_, fun j hj => ?_⟩
      · obtain ⟨i, hi, _⟩ := hsome
        rw [h] at hi; cases hi
      · obtain ⟨hjS, hjT, hjp⟩ := hready j hj
        refine hstep j hjS f w' hb (fun i hi hp => ?_) _ (fun v w'' hFv hbv hnew => ?_)
        · refine hF i (Classical.byContradiction fun hiT => ?_)
          have h1 := hjp i hp
          rw [markAll_get] at h1
          have h2 := (hS i hi).1.2
          have : i < l.size := by have := (hS i hi).1.1; omega
          simp [hiT, this] at h1 h2
          rw [h1] at h2; cases h2
        · have e : (markAll T l).setIfInBounds j true = markAll (T ++ [j]) l := by unfold markAll; rw [List.foldl_append]; rfl
          rw [e]
          refine ih (T ++ [j]) (updF f j v) w'' ?_ ?_ ?_ ?_ (hb.trans (hbv.mono hb.size)) ?_ ?_
          · exact List.nodup_append.2 ⟨hTn, by simp, by intro x hx y hy; simp at hy; subst hy; exact fun h => hjT (h ▸ hx)⟩
          · intro i hi
            rcases List.mem_append.1 hi with h | h
            · exact hT i h
            · simp at h; rw [h]; exact hjS
          · simp; omega
          · intro i hi k hk
            rw [← e] at hi ⊢
            by_cases hij : j = i
            · subst hij
              exact getD_set_true (hjp k hk)
            · rw [getD_set_ne false hij] at hi
              exact getD_set_true (hclT i hi k hk)
          · intro i hi
            by_cases hij : i = j
            · subst hij; simpa [updF] using hFv
            · have hiT : i ∈ T := by
                rcases List.mem_append.1 hi with h | h
                · exact h
                · simp at h; exact absurd h hij
              simp only [updF, hij, if_false]
              exact hst i (hT i hiT) _ _ _ (hF i hiT) hbv
          · intro i hi k hk hai hak hik
            have low : ∀ x ∈ T, Al x = true → blk (f x) < w'.heap.size := fun x hx hax => hlt x (hT x hx) hax _ _ (hF x hx)
            have inT : ∀ x ∈ T ++ [j], x ≠ j → x ∈ T := fun x hx hxj => by
              rcases List.mem_append.1 hx with h | h
              · exact h
              · simp at h; exact absurd h hxj
            by_cases hij : i = j
            · have hkj : k ≠ j := fun h => hik (by rw [hij, h])
              have h1 := low k (inT k hk hkj) hak
              subst hij
              simp only [updF, if_true, hkj, if_false]
              have := hnew hai
              omega
            · have h1 := low i (inT i hi hij) hai
              by_cases hkj : k = j
              · subst hkj
                simp only [updF, if_true, hij, if_false]
                have := hnew hak
                omega
              · simp only [updF, hij, hkj, if_false]
                exact hsep i (inT i hi hij) k (inT k hk hkj) hai hak hik
  have h0 := main S.length [] (fun i => a.tmps.getD ((dstOf ops i).getD 0) undef) w (by simp) (by simp) (by simp) (fun j hj k hk => by
      have hjs : j < ops.size := by
        rcases Nat.lt_or_ge j ops.size with h | h
        · exact h
        · have hj' : l.getD j false = true := hj
          simp [Array.getElem?_eq_none (show l.size ≤ j by omega)] at hj'
      rcases hcl j hjs with h | h
      · have hj' : l.getD j false = true := hj
        rw [h] at hj'; cases hj'
      · exact h k hk) (Below.refl _ _) (by simp) (by simp)
  rw [putAll_self] at h0
  exact h0
end
end Go.Proofs.YtfhinmdhjlmikaaGreatDoor
namespace Go.Proofs.YtfhinmdhjlmikaaGreatDoor
set_option linter.unusedSimpArgs false
set_option linter.unusedVariables false
set_option maxRecDepth 100000
open Go.RowKit
section
variable {P : Program} {Q : Exit → Act → World → Prop} {md : Region.Mode}
/-- An operation of a table: it runs, or it is skipped. -/
def StepG (P : Program) (Q : Exit → Act → World → Prop) (ops : Array Oper) (al : Bool) (j : Nat) (a' : Act) (w' : World) (s : Sp) : Prop :=
  ∃ o, ops[j]? = some o ∧ ((Region.wanted o (yielded ops a'.tmps) = true ∧ ArmB P Q al o a' w' s) ∨ (Region.wanted o (yielded ops a'.tmps) = false ∧ al = false ∧ s.p w' undef))
theorem StepG.run {ops : Array Oper} {al : Bool} {j : Nat} {a' : Act} {w' : World} {s : Sp} {o : Oper} (ho : ops[j]? = some o) (hw : Region.wanted o (yielded ops a'.tmps) = true) (h : ArmB P Q al o a' w' s) : StepG P Q ops al j a' w' s := ⟨o, ho, .inl ⟨hw, h⟩⟩
theorem StepG.skip {ops : Array Oper} {j : Nat} {a' : Act} {w' : World} {s : Sp} {o : Oper} (ho : ops[j]? = some o) (hw : Region.wanted o (yielded ops a'.tmps) = false) (h : s.p w' undef) : StepG P Q ops false j a' w' s := ⟨o, ho, .inr ⟨hw, rfl, h⟩⟩
theorem unwanted {ops : Array Oper} {o : Oper} {a : Act} {w : World} {g : Nat} {b c : Bool} {t : Tmp} (h : o.guard = some (g, b)) (hg : dstOf ops g = some t) (hh : Has a w t (.val (.bool c))) (hbc : (c == b) = false) : Region.wanted o (yielded ops a.tmps) = false := by
  unfold Region.wanted
  rw [h]
  show (yielded ops a.tmps g == some b) = false
  unfold yielded
  obtain ⟨v, h1, h2⟩ := hh
  have h3 : v = .bool c := h2
  subst h3
  have : (ops[g]?).bind (·.dst) = some t := by
    unfold dstOf at hg
    cases ho : ops[g]? with
    | none => rw [ho] at hg; cases hg
    | some o => rw [ho] at hg; exact hg
  rw [this]
  simp only [Option.bind_some, h1]
  simpa using hbc
/-- The table law in full: skipped operations, new variables, a rest that is left, operations E that may still be open. -/
theorem tab_any (f : Func) (r : Nat) (D : List (Nat × Tmp × Sp)) (E : List Nat) (Al : Nat → Bool) (n fuel : Nat) {a : Act} {w0 w : World} (hb0 : Below w0.heap.size w0 w)
    (hokE : phaseOkE .any (opsOf f r) n ((entries D).map (·.1)) E (Array.replicate (fuel + D.length) false) = true)
    (hok2 : ((entries D).all (fun p => dstOf (opsOf f r) p.1 == some p.2) && decide (((entries D).map (·.2)).Nodup) && decide (((entries D).map (·.1)).Nodup) && (entries D).all (fun p => decide (p.2 < a.tmps.size))) = true)
    (hal : EachX (fun x => Al x.1 = true → ∀ w v, x.2.2.p w v → blk v < w.heap.size) D)
    (steps : EachX (fun x => ∀ (a' : Act) (w' : World), Found .any (opsOf f r) D x.1 w0 a a' w' → StepG P Q (opsOf f r) (Al x.1) x.1 a' w' x.2.2) D)
    (hrest : ∀ E' ∈ subs E, ∀ (g : Nat → Value) w', Below w0.heap.size w0 w' → (∀ (i : Nat) (t : Tmp) (s : Sp), i ∉ E' → D[i]? = some (i, t, s) → s.p w' (g i)) → (∀ i j : Nat, ((entries D).map (·.1)).contains i = true → ((entries D).map (·.1)).contains j = true → i ∉ E' → j ∉ E' → Al i = true → Al j = true → i ≠ j → blk (g i) ≠ blk (g j)) →
      wpAny P .any (opsOf f r) Q (fuel + E'.length) (markAll (((entries D).map (·.1)).filter (fun i => !E'.contains i)) (Array.replicate (fuel + D.length) false)) (putD (entries D) g a) w') :
    wpAny P .any (opsOf f r) Q (fuel + D.length) (Array.replicate (fuel + D.length) false) a w := by
  simp only [Bool.and_eq_true, decide_eq_true_eq] at hok2
  obtain ⟨⟨⟨hds, hnt⟩, hni⟩, hlt⟩ := hok2
  have ht : ∀ p ∈ entries D, p.2 < a.tmps.size := fun p hp => by simpa using List.all_eq_true.1 hlt p hp
  have hcon : ∀ t, ((entries D).map (·.2)).contains t = false → t ∉ (entries D).map (·.2) := fun t h hm => by
    rw [List.contains_iff_mem.2 hm] at h; cases h
  have hmem : ∀ (i : Nat) (t : Tmp) (s : Sp), D[i]? = some (i, t, s) → (i, t, s) ∈ D := fun i t s h => List.mem_of_getElem? h
  have key := keyed (D := D) (by simpa [entries, Function.comp_def] using hni)
  have hS : ∀ i ∈ (entries D).map (·.1), dstOf (opsOf f r) i ≠ none := by
    intro i hi
    obtain ⟨p, hp, rfl⟩ := List.mem_map.1 hi
    have := List.all_eq_true.1 hds p hp
    rw [beq_iff_eq] at this
    rw [this]; simp
  have hnd' : (((entries D).map (·.1)).map (dstOf (opsOf f r))).Nodup := by
    rw [List.map_map]
    have : (entries D).map (dstOf (opsOf f r) ∘ fun p => p.1) = ((entries D).map (·.2)).map some := by
      rw [List.map_map]
      apply List.map_congr_left
      intro p hp
      have := List.all_eq_true.1 hds p hp
      rw [beq_iff_eq] at this
      simp [this]
    rw [this, List.nodup_iff_pairwise_ne, List.pairwise_map]
    rw [List.nodup_iff_pairwise_ne] at hnt
    exact hnt.imp (fun h e => h (by simpa using e))
  have hlen2 : D.length = ((entries D).map (·.1)).length := by simp [entries]
  have e1 : fuel + D.length = fuel + ((entries D).map (·.1)).length := by rw [hlen2]
  have main := wpAny_phaseE (P := P) (Q := Q) (fuel := fuel) (a := a) (w := w) ((entries D).map (·.1)) E n Al (fun i v w' => ∀ t s, (i, t, s) ∈ D → s.p w' v) hokE hnd' (fun i _ v w1 w2 h hb t s hm => s.st _ _ _ (h t s hm) hb) ?_ ?_ ?_
  · rw [← e1] at main; exact main
  · intro i hi hA v w' h
    obtain ⟨p, hp, rfl⟩ := List.mem_map.1 hi
    obtain ⟨x, hx, rfl⟩ := List.mem_map.1 hp
    exact hal.mem x hx hA w' v (h x.2.1 x.2.2 hx)
  · intro j hj g w' hb hF K hK
    obtain ⟨p, hp, rfl⟩ := List.mem_map.1 hj
    obtain ⟨x, hx, rfl⟩ := List.mem_map.1 hp
    rw [← putD_eq hds]
    obtain ⟨o, ho, hstep⟩ := steps.mem x hx (putD (entries D) g a) w' ⟨hb0.trans (hb.mono hb0.size), fun t h => putD_slot t (hcon t h), fun i t s h1 h2 =>
      ⟨g i, putD_in hnt (mem_entries (hmem i t s h1)) (ht _ (mem_entries (hmem i t s h1))), hF i (List.mem_map.2 ⟨_, mem_entries (hmem i t s h1), rfl⟩) (List.contains_iff_mem.1 h2) t s (hmem i t s h1)⟩⟩
    have hd := List.all_eq_true.1 hds _ hp
    rw [beq_iff_eq] at hd
    have hdo : o.dst = some x.2.1 := by
      have : dstOf (opsOf f r) x.1 = o.dst := by unfold dstOf; rw [ho]
      rw [← this]; exact hd
    have fin : ∀ v w'', x.2.2.p w'' v → Below w'.heap.size w' w'' → (Al x.1 = true → w'.heap.size ≤ blk v) → K ((putD (entries D) g a).put o.dst v) w'' := fun v w'' hv hbv hA => by
      have h := hK v w'' (fun t s hm => by
        have e2 := key _ hm _ (show (x.1, x.2.1, x.2.2) ∈ D from hx) rfl
        simp only [Prod.mk.injEq, true_and] at e2
        rw [e2.2]; exact hv) hbv hA
      rw [← putAll_upd hnd' hS _ _ _ hj, ← putD_eq hds, hd] at h
      rw [hdo]; exact h
    unfold wpOp
    rw [ho]
    show if Region.wanted o (yielded (opsOf f r) (putD (entries D) g a).tmps) = true then _ else _
    rcases hstep with ⟨hw, harm⟩ | ⟨hw, hAl, hu⟩
    · rw [if_pos hw]
      exact .inl (harm K fin)
    · rw [if_neg (by rw [hw]; decide)]
      exact fin undef w' hu (Below.refl _ _) (fun h => by rw [hAl] at h; cases h)
  · intro E' hE' g w' hb hF hsep
    rw [← putD_eq hds]
    exact hrest E' hE' g w' (hb0.trans (hb.mono hb0.size)) (fun i t s hn h => hF i (List.mem_map.2 ⟨_, mem_entries (hmem i t s h), rfl⟩) hn t s (hmem i t s h))
      (fun i j hi hj hni hnj => hsep i (List.contains_iff_mem.1 hi) hni j (List.contains_iff_mem.1 hj) hnj)
theorem wp_tabG (f : Func) (r : Nat) (D : List (Nat × Tmp × Sp)) (E : List Nat) (Al : Nat → Bool) (n fuel : Nat) {id : Nat} {ops' : Array Oper} {a : Act} {w : World} (hops : opsOf f r = ops') (hm : P.follows .mixedOrders = true)
    (hlen : (opsOf f r).size = fuel + D.length) (hokE : phaseOkE .any (opsOf f r) n ((entries D).map (·.1)) E (Array.replicate (fuel + D.length) false) = true)
    (hok2 : ((entries D).all (fun p => dstOf (opsOf f r) p.1 == some p.2) && decide (((entries D).map (·.2)).Nodup) && decide (((entries D).map (·.1)).Nodup) && (entries D).all (fun p => decide (p.2 < a.tmps.size))) = true)
    (hal : EachX (fun x => Al x.1 = true → ∀ w v, x.2.2.p w v → blk v < w.heap.size) D)
    (steps : EachX (fun x => ∀ (a' : Act) (w' : World), Found .any (opsOf f r) D x.1 w a a' w' → StepG P Q (opsOf f r) (Al x.1) x.1 a' w' x.2.2) D)
    (hrest : ∀ E' ∈ subs E, ∀ (g : Nat → Value) w', Below w.heap.size w w' → (∀ (i : Nat) (t : Tmp) (s : Sp), i ∉ E' → D[i]? = some (i, t, s) → s.p w' (g i)) → (∀ i j : Nat, ((entries D).map (·.1)).contains i = true → ((entries D).map (·.1)).contains j = true → i ∉ E' → j ∉ E' → Al i = true → Al j = true → i ≠ j → blk (g i) ≠ blk (g j)) →
      wpAny P .any (opsOf f r) Q (fuel + E'.length) (markAll (((entries D).map (·.1)).filter (fun i => !E'.contains i)) (Array.replicate (fuel + D.length) false)) (putD (entries D) g a) w') : (Code.region id ops' true).wp P Q a w := by
  subst hops
  refine wp_region_any hm ?_
  change wpAny P .any _ Q _ _ _ w.drew
  rw [hlen]
  exact tab_any f r D E Al n fuel (bel_drewN (Below.refl _ _) 1) hokE hok2 hal steps hrest
/-- For a region that keeps the order of its text. -/
theorem wp_tabGF (f : Func) (r : Nat) (D : List (Nat × Tmp × Sp)) (E : List Nat) (Al : Nat → Bool) (n fuel : Nat) {id : Nat} {ops' : Array Oper} {a : Act} {w : World} (hops : opsOf f r = ops')
    (hlin : Region.linearise.go .any (opsOf f r) (fuel + D.length) 0 (Array.replicate (fuel + D.length) false) [] = List.range (fuel + D.length))
    (hlen : (opsOf f r).size = fuel + D.length) (hokE : phaseOkE .any (opsOf f r) n ((entries D).map (·.1)) E (Array.replicate (fuel + D.length) false) = true)
    (hok2 : ((entries D).all (fun p => dstOf (opsOf f r) p.1 == some p.2) && decide (((entries D).map (·.2)).Nodup) && decide (((entries D).map (·.1)).Nodup) && (entries D).all (fun p => decide (p.2 < a.tmps.size))) = true)
    (hal : EachX (fun x => Al x.1 = true → ∀ w v, x.2.2.p w v → blk v < w.heap.size) D)
    (steps : EachX (fun x => ∀ (a' : Act) (w' : World), Found .any (opsOf f r) D x.1 w a a' w' → StepG P Q (opsOf f r) (Al x.1) x.1 a' w' x.2.2) D)
    (hrest : ∀ E' ∈ subs E, ∀ (g : Nat → Value) w', Below w.heap.size w w' → (∀ (i : Nat) (t : Tmp) (s : Sp), i ∉ E' → D[i]? = some (i, t, s) → s.p w' (g i)) → (∀ i j : Nat, ((entries D).map (·.1)).contains i = true → ((entries D).map (·.1)).contains j = true → i ∉ E' → j ∉ E' → Al i = true → Al j = true → i ≠ j → blk (g i) ≠ blk (g j)) →
      wpAny P .any (opsOf f r) Q (fuel + E'.length) (markAll (((entries D).map (·.1)).filter (fun i => !E'.contains i)) (Array.replicate (fuel + D.length) false)) (putD (entries D) g a) w') : (Code.region id ops' false).wp P Q a w := by
  subst hops
  refine wp_region ?_
  rw [hlen, ← hlin]
  refine wpAny_sound _ _ _ _ _ ?_
  exact tab_any f r D E Al n fuel (Below.refl _ _) hokE hok2 hal steps hrest
end
/-- v is the fraction of sign s, numerator p, denominator q: valid numbers. -/
def IsF (w : World) (v : Value) (s : Bool) (p q : Nat) : Prop := ∃ a c b d, v = .agg #[.bool s, .slice a (nl p) c, .slice b (nl q) d] ∧ IsN w (.agg #[.slice a (nl p) c]) p ∧ IsN w (.agg #[.slice b (nl q) d]) q
theorem IsF.mono {w w' : World} {v : Value} {s : Bool} {p q : Nat} (h : IsF w v s p q) (hb : Below w.heap.size w w') : IsF w' v s p q := by
  obtain ⟨a, c, b, d, rfl, h1, h2⟩ := h; exact ⟨a, c, b, d, rfl, h1.mono hb, h2.mono hb⟩
/-- Block g is a fraction variable of the call's own with these cells. -/
def VarFB (w : World) (g : Nat) (s : Bool) (a : Option Addr) (L c : Nat) (b : Option Addr) (M d : Nat) : Prop := w.heap[g]? = some (.cells #[.bool s, .slice a L c, .slice b M d] 26 (0, 0))
section
variable {w w' : World} {g L c M d B : Nat} {s : Bool} {a b : Option Addr}
theorem VarFB.lt (h : VarFB w g s a L c b M d) : g < w.heap.size := (Array.getElem?_eq_some_iff.1 h).1
theorem VarFB.mono (h : VarFB w g s a L c b M d) (hb : Below B w w') (hB : g < B) : VarFB w' g s a L c b M d := (hb.block g hB).trans h
theorem VarFB.cell0 (h : VarFB w g s a L c b M d) : w.cell? ⟨g, 0, none⟩ = some (.bool s) := by rw [cell_of_row w g 0 _ _ (0, 0) h]; rfl
theorem VarFB.cell1 (h : VarFB w g s a L c b M d) : w.cell? ⟨g, 1, none⟩ = some (.slice a L c) := by rw [cell_of_row w g 1 _ _ (0, 0) h]; rfl
theorem VarFB.cell2 (h : VarFB w g s a L c b M d) : w.cell? ⟨g, 2, none⟩ = some (.slice b M d) := by rw [cell_of_row w g 2 _ _ (0, 0) h]; rfl
theorem VarFB.frozen (h : VarFB w g s a L c b M d) (j : Nat) : w.frozen? ⟨g, j, none⟩ = false := frozen_of_row w g j _ _ h
theorem VarFB.made (w : World) (s : Bool) (a : Option Addr) (L c : Nat) (b : Option Addr) (M d : Nat) : VarFB (w.alloc (.cells #[.bool s, .slice a L c, .slice b M d] 26)) w.heap.size s a L c b M d := heap_alloc_new w _
end
/-- Block g is a variable that holds the fraction. -/
def VarF (w : World) (g : Nat) (s : Bool) (p q : Nat) : Prop := ∃ a c b d, VarFB w g s a (nl p) c b (nl q) d ∧ IsN w (.agg #[.slice a (nl p) c]) p ∧ IsN w (.agg #[.slice b (nl q) d]) q
theorem VarF.mono {w w' : World} {g p q : Nat} {s : Bool} (h : VarF w g s p q) (hb : Below w.heap.size w w') : VarF w' g s p q := by
  obtain ⟨a, c, b, d, h0, h1, h2⟩ := h; exact ⟨a, c, b, d, h0.mono hb h0.lt, h1.mono hb, h2.mono hb⟩
def Sp.fr (s : Bool) (p q : Nat) : Sp := ⟨fun w v => IsF w v s p q, fun _ _ _ h hb => h.mono hb⟩
def RetF (W : World) (s : Bool) (p q : Nat) (e : Ending) (w' : World) : Prop := ∃ v, e = .returned v ∧ IsF w' v s p q ∧ Below W.heap.size W w'
theorem ofF {w w' : World} {s : Bool} {p q : Nat} {e : Ending} (h : RetF w s p q e w') : ∃ v, e = .returned v ∧ (Sp.fr s p q).p w' v ∧ Below w.heap.size w w' := h
theorem c_isZero (va : Value) (m : Nat) (w : World) (ha : IsN w va m) (hm : nl m ≤ 1000000000000) :
    Calls Tryz.prog 80 #[va] w fun e w' => RetV w (.bool (decide (m = 0))) e w' := by
  obtain ⟨a, ca, rfl, hca, ra⟩ := ha
  have hw := bel1 w (.cells #[.slice a (nl m) ca] 24)
  have v1 := VarB.made w a (nl m) ca
  have c1 := v1.cell
  have e : (((nl m : Nat) : Int) == 0) = decide (m = 0) := by
    rw [Bool.eq_iff_iff]; simp [nl_eq_zero]
  go_enter Tryz.func80, Tryz.ntmps80
  go_wp2
  go_ret
  exact ⟨by first | rfl | (rw [← e]; rfl) | simp_all, hw⟩
theorem c_zero (va : Value) (m : Nat) (w : World) (ha : IsN w va m) (hm : nl m ≤ 1000000000000) :
    Calls Tryz.prog 42 #[va] w fun e w' => RetV w (.bool (decide (m = 0))) e w' := by
  obtain ⟨a, ca, rfl, hca, ra⟩ := ha
  have hw := bel1 w (.cells #[.slice a (nl m) ca] 24)
  have v1 := VarB.made w a (nl m) ca
  have c1 := v1.cell
  have e : (((nl m : Nat) : Int) == 0) = decide (m = 0) := by
    rw [Bool.eq_iff_iff]; simp [nl_eq_zero]
  go_enter Tryz.func42, Tryz.ntmps42
  go_wp2
  go_ret
  exact ⟨by first | rfl | (rw [← e]; rfl) | simp_all, hw⟩
end Go.Proofs.YtfhinmdhjlmikaaGreatDoor
namespace Go.Proofs.YtfhinmdhjlmikaaGreatDoor
set_option linter.unusedSimpArgs false
set_option linter.unusedVariables false
set_option maxRecDepth 100000
open Go.RowKit
section
variable {P : Program} {Q : Exit → Act → World → Prop} {md : Region.Mode} {ops : Array Oper} {D l : List (Nat × Tmp × Sp)} {Al : Nat → Bool} {w w' : World} {a a' : Act} {i j g : Nat} {t u : Tmp} {s : Sp} {o : Oper} {b c : Bool}
theorem gR (ho : ops[i]? = some o) (hg : o.guard = none) (h : ArmB P Q b o a' w' s) : StepG P Q ops b i a' w' s := StepG.run ho (wanted_none hg) h
theorem gG {d : Bool} (F : Found md ops D i w a a' w') (ho : ops[i]? = some o) (hg : o.guard = some (g, b)) (hd : dstOf ops g = some u) (hq : D[g]? = some (g, u, .val (.bool b))) (h : ArmB P Q d o a' w' s) (hc : (preds md ops i).contains g = true := by kernel_rfl) : StepG P Q ops d i a' w' s := StepG.run ho (wanted_some hg hd (F.at' g u _ hq hc)) h
theorem gS (F : Found md ops D i w a a' w') (ho : ops[i]? = some o) (hg : o.guard = some (g, b)) (hd : dstOf ops g = some u) (hq : D[g]? = some (g, u, .val (.bool c))) (hb : (c == b) = false) (h : s.p w' undef) (hc : (preds md ops i).contains g = true := by kernel_rfl) : StepG P Q ops false i a' w' s := StepG.skip ho (unwanted hg hd (F.at' g u _ hq hc) hb) h
theorem unwanted0' {ops : Array Oper} {o : Oper} {a : Act} {w : World} {g : Nat} {b : Bool} {t : Tmp} (h : o.guard = some (g, b)) (hg : dstOf ops g = some t) (hh : Has a w t (.val undef)) : Region.wanted o (yielded ops a.tmps) = false := by
  unfold Region.wanted
  rw [h]
  show (yielded ops a.tmps g == some b) = false
  unfold yielded
  obtain ⟨v, h1, h2⟩ := hh
  have h3 : v = undef := h2
  subst h3
  have : (ops[g]?).bind (·.dst) = some t := by
    unfold dstOf at hg
    cases ho : ops[g]? with
    | none => rw [ho] at hg; cases hg
    | some o => rw [ho] at hg; exact hg
  rw [this]
  simp only [Option.bind_some, h1]
  rfl
theorem gZ (F : Found md ops D i w a a' w') (ho : ops[i]? = some o) (hg : o.guard = some (g, b)) (hd : dstOf ops g = some u) (hq : D[g]? = some (g, u, .val undef)) (h : s.p w' undef) (hc : (preds md ops i).contains g = true := by kernel_rfl) : StepG P Q ops false i a' w' s := StepG.skip ho (unwanted0' hg hd (F.at' g u _ hq hc)) h
end
end Go.Proofs.YtfhinmdhjlmikaaGreatDoor
namespace Go.Proofs.YtfhinmdhjlmikaaGreatDoor
set_option linter.unusedSimpArgs false
set_option linter.unusedVariables false
set_option maxRecDepth 100000
open Go.RowKit
/-- The fraction variable g is written. -/
def putF (w : World) (g : Nat) (s : Bool) (a : Option Addr) (L c : Nat) (b : Option Addr) (M d : Nat) : World :=
  ((w.setCell ⟨g, 0, none⟩ (.bool s)).setCell ⟨g, 1, none⟩ (.slice a L c)).setCell ⟨g, 2, none⟩ (.slice b M d)
section
variable {w : World} {g L c M d L' c' M' d' : Nat} {s s' : Bool} {a b a' b' : Option Addr}
theorem VarFB.put (h : VarFB w g s a L c b M d) : VarFB (putF w g s' a' L' c' b' M' d') g s' a' L' c' b' M' d' := by
  have h1 := heap_setCell_same w g 0 _ _ (.bool s') h
  have h2 := heap_setCell_same _ g 1 _ _ (.slice a' L' c') h1
  have h3 := heap_setCell_same _ g 2 _ _ (.slice b' M' d') h2
  exact h3
theorem putF_heap {k : Nat} (hk : k ≠ g) : (putF w g s a L c b M d).heap[k]? = w.heap[k]? := by
  unfold putF
  rw [Below.heap_setCell _ _ _ k hk, Below.heap_setCell _ _ _ k hk, Below.heap_setCell _ _ _ k hk]
theorem putF_below {W : World} {B : Nat} (hb : Below B W w) (hg : B ≤ g) : Below B W (putF w g s a L c b M d) :=
  ((hb.setCell (p := ⟨g, 0, none⟩) hg _).setCell (p := ⟨g, 1, none⟩) hg _).setCell (p := ⟨g, 2, none⟩) hg _
theorem VarFB.ne (h : VarFB w g s a L c b M d) {k o : Nat} {x : Int} {ki : IntKind} (hd : w.cell? ⟨k, o, none⟩ = some (.int ki x)) : k ≠ g := by
  rintro rfl
  rw [cell_of_row w k o _ _ (0, 0) h] at hd
  match o, hd with
  | 0, hd => cases hd
  | 1, hd => cases hd
  | 2, hd => cases hd
  | (o + 3), hd => simp at hd
theorem IsN.putF {v : Value} {N : Nat} (h : IsN w v N) (hg : VarFB w g s a L c b M d) : IsN (putF w g s' a' L' c' b' M' d') v N := by
  obtain ⟨x, cap, rfl, hc, hx⟩ := h
  refine ⟨x, cap, rfl, hc, hx.lt, fun hL => ?_⟩
  obtain ⟨k, off, rfl, hd⟩ := hx.cells hL
  have hne : k ≠ g := hg.ne (by simpa using hd 0 hL)
  refine ⟨k, off, rfl, fun j hj => ?_⟩
  rw [World.cell?_of_block (putF_heap (by simpa using hne))]; exact hd j hj
theorem IsF.putF {v : Value} {t : Bool} {p q : Nat} (h : IsF w v t p q) (hg : VarFB w g s a L c b M d) : IsF (putF w g s' a' L' c' b' M' d') v t p q := by
  obtain ⟨x, cx, y, cy, rfl, h1, h2⟩ := h; exact ⟨x, cx, y, cy, rfl, h1.putF hg, h2.putF hg⟩
theorem run_storeF {a : Option Addr} (h : VarFB w g s a L c b M d) : (Instr.storeAt 26 (.pointer (some ⟨g, 0, none⟩)) (.agg #[.bool s', .slice a' L' c', .slice b' M' d'])).run Tryz.prog w = .ok () (Go.Proofs.YtfhinmdhjlmikaaGreatDoor.putF w g s' a' L' c' b' M' d') := by
  have c0 := h.cell0
  have c1 := h.cell1
  have c2 := h.cell2
  have f0 := h.frozen 0
  have f1 := h.frozen 1
  have f2 := h.frozen 2
  unfold Go.Proofs.YtfhinmdhjlmikaaGreatDoor.putF
  go_simp
end
theorem res_F {fn : Func} {p : Tmp} (h : fn.results = #[.cell p 26]) {tmps : Array Value} {w : World} {g L c M d : Nat} {s : Bool} {a b : Option Addr}
    (hp : tmps[p]? = some (.pointer (some ⟨g, 0, none⟩))) (hv : VarFB w g s a L c b M d) : (results fn tmps).run Tryz.prog w = .ok (.agg #[.bool s, .slice a L c, .slice b M d]) w := by
  have c0 := hv.cell0
  have c1 := hv.cell1
  have c2 := hv.cell2
  simp [results, h, hp, asAddr, loadVar, go_sem, c0, c1, c2]
section
variable {Q : Exit → Act → World → Prop} {o : Oper} {a : Act} {w : World} {x y z : Operand} {m n p q g : Nat} {s : Bool} {tt : Array TypeId}
theorem arm_isZero (ho : o.op = .call { callee := .value (.func 80), args := #[x], argTypes := tt }) (hx : Is a w x (.nat m)) (hm : nl m ≤ 1000000000000) {b : Bool} (hb : decide (m = 0) = b) : Arm Tryz.prog Q o a w (.val (.bool b)) := by
  subst hb
  exact arm_one ho (enters Tryz.func80 rfl rfl) hx (R := fun w => RetV w (.bool (decide (m = 0)))) (fun va w h1 => c_isZero va m w h1 hm) (fun _ _ h => ofV h)
theorem arm_zero (ho : o.op = .call { callee := .value (.func 42), args := #[x], argTypes := tt }) (hx : Is a w x (.nat m)) (hm : nl m ≤ 1000000000000) {b : Bool} (hb : decide (m = 0) = b) : Arm Tryz.prog Q o a w (.val (.bool b)) := by
  subst hb
  exact arm_one ho (enters Tryz.func42 rfl rfl) hx (R := fun w => RetV w (.bool (decide (m = 0)))) (fun va w h1 => c_zero va m w h1 hm) (fun _ _ h => ofV h)
theorem arm_buildF (ho : o.op = .build 26 #[(0, x), (1, y), (2, z)]) (hx : Is a w x (.val (.bool s))) (hy : Is a w y (.nat p)) (hz : Is a w z (.nat q)) : Arm Tryz.prog Q o a w (.fr s p q) := by
  have hx' : a.eval x = .bool s := hx
  obtain ⟨ay, cy, ey⟩ := IsN.shape hy
  obtain ⟨az, cz, ez⟩ := IsN.shape hz
  have hy' : IsN w (a.eval y) p := hy
  have hz' : IsN w (a.eval z) q := hz
  rw [ey] at hy'
  rw [ez] at hz'
  refine arm_run (.agg #[.bool s, .slice ay (nl p) cy, .slice az (nl q) cz]) ?_ ⟨ay, cy, az, cz, rfl, hy', hz'⟩
  unfold execOp
  rw [ho]
  simp only [List.map_toArray, List.map_cons, List.map_nil, hx', ey, ez]
  go_simp
theorem arm_fieldF {k : Nat} {u : Value} (ho : o.op = .fieldAddr 26 x k) (hx : Is a w x (.val (.pointer (some ⟨g, 0, none⟩)))) (hr : ∀ w : World, (Instr.fieldAt 26 (.pointer (some ⟨g, 0, none⟩)) k).run Tryz.prog w = .ok u w) : Arm Tryz.prog Q o a w (.val u) := by
  have hx' : a.eval x = .pointer (some ⟨g, 0, none⟩) := hx
  refine arm_run u ?_ rfl
  unfold execOp
  rw [ho]
  simp only [hx', Sem.run_bind, hr, Result.andThen, Sem.run_pure]
theorem run_field0 (g : Nat) (w : World) : (Instr.fieldAt 26 (.pointer (some ⟨g, 0, none⟩)) 0).run Tryz.prog w = .ok (.pointer (some ⟨g, 0, none⟩)) w := by go_simp
theorem run_field1 (g : Nat) (w : World) : (Instr.fieldAt 26 (.pointer (some ⟨g, 0, none⟩)) 1).run Tryz.prog w = .ok (.pointer (some ⟨g, 1, none⟩)) w := by go_simp
theorem run_field2 (g : Nat) (w : World) : (Instr.fieldAt 26 (.pointer (some ⟨g, 0, none⟩)) 2).run Tryz.prog w = .ok (.pointer (some ⟨g, 2, none⟩)) w := by go_simp
theorem run_loadB (h : VarF w g s p q) : (Instr.loadAt 4 (.pointer (some ⟨g, 0, none⟩))).run Tryz.prog w = .ok (.bool s) w := by
  obtain ⟨a, c, b, d, h, _, _⟩ := h
  have c0 := h.cell0
  go_simp
theorem run_loadN (g k L c : Nat) (b : Option Addr) (w : World) (h : w.cell? ⟨g, k, none⟩ = some (.slice b L c)) : (Instr.loadAt 24 (.pointer (some ⟨g, k, none⟩))).run Tryz.prog w = .ok (.agg #[.slice b L c]) w := by go_simp
theorem arm_loadS (ho : o.op = .load 4 x) (hx : Is a w x (.val (.pointer (some ⟨g, 0, none⟩)))) (h : VarF w g s p q) : Arm Tryz.prog Q o a w (.val (.bool s)) := by
  have hx' : a.eval x = .pointer (some ⟨g, 0, none⟩) := hx
  refine arm_run _ ?_ rfl
  unfold execOp
  rw [ho]
  simp only [hx', Sem.run_bind, run_loadB h, Result.andThen, Sem.run_pure]
theorem arm_load1 (ho : o.op = .load 24 x) (hx : Is a w x (.val (.pointer (some ⟨g, 1, none⟩)))) (h : VarF w g s p q) : Arm Tryz.prog Q o a w (.nat p) := by
  obtain ⟨b, c, b', d, h, h1, h2⟩ := h
  have hx' : a.eval x = .pointer (some ⟨g, 1, none⟩) := hx
  refine arm_run _ ?_ h1
  unfold execOp
  rw [ho]
  simp only [hx', Sem.run_bind, run_loadN _ _ _ _ _ w h.cell1, Result.andThen, Sem.run_pure]
theorem arm_load2 (ho : o.op = .load 24 x) (hx : Is a w x (.val (.pointer (some ⟨g, 2, none⟩)))) (h : VarF w g s p q) : Arm Tryz.prog Q o a w (.nat q) := by
  obtain ⟨b, c, b', d, h, h1, h2⟩ := h
  have hx' : a.eval x = .pointer (some ⟨g, 2, none⟩) := hx
  refine arm_run _ ?_ h2
  unfold execOp
  rw [ho]
  simp only [hx', Sem.run_bind, run_loadN _ _ _ _ _ w h.cell2, Result.andThen, Sem.run_pure]
theorem run_loadF (g L c M d : Nat) (s : Bool) (a b : Option Addr) (w : World) (h : VarFB w g s a L c b M d) : (Instr.loadAt 26 (.pointer (some ⟨g, 0, none⟩))).run Tryz.prog w = .ok (.agg #[.bool s, .slice a L c, .slice b M d]) w := by
  have c0 := h.cell0
  have c1 := h.cell1
  have c2 := h.cell2
  go_simp
theorem arm_loadF (ho : o.op = .load 26 x) (hx : Is a w x (.val (.pointer (some ⟨g, 0, none⟩)))) (h : VarF w g s p q) : Arm Tryz.prog Q o a w (.fr s p q) := by
  obtain ⟨b, c, b', d, h, h1, h2⟩ := h
  have hx' : a.eval x = .pointer (some ⟨g, 0, none⟩) := hx
  refine arm_run _ ?_ ⟨b, c, b', d, rfl, h1, h2⟩
  unfold execOp
  rw [ho]
  simp only [hx', Sem.run_bind, run_loadF _ _ _ _ _ _ _ _ w h, Result.andThen, Sem.run_pure]
end
/-- The store of a fraction that is left. -/
theorem wpAny_storeF {Q : Exit → Act → World → Prop} {md : Region.Mode} {ops : Array Oper} {o : Oper} {a : Act} {w : World} {j fuel : Nat} {listed : Array Bool} {x y : Operand} {g L c M d L' c' M' d' : Nat} {s s' : Bool} {u u' v v' : Option Addr}
    (hr : Region.ready md ops listed = [j]) (ho : ops[j]? = some o) (hop : o.op = .store 26 x y) (hg : o.guard = none) (hd : o.dst = none)
    (hx : a.eval x = .pointer (some ⟨g, 0, none⟩)) (hy : a.eval y = .agg #[.bool s', .slice u' L' c', .slice v' M' d']) (hv : VarFB w g s u L c v M d) (h : wpAny Tryz.prog md ops Q fuel (listed.setIfInBounds j true) a (putF w g s' u' L' c' v' M' d')) :
    wpAny Tryz.prog md ops Q (fuel + 1) listed a w := by
  refine wpAny_ready hr (by simp) (AllReady.cons ho (fun K hK => ?_) AllReady.nil)
  rw [if_pos (wanted_none hg)]
  unfold Oper.wp execOp
  rw [hop]
  simp only [hx, hy, Sem.run_bind, run_storeF hv, Result.andThen, Sem.run_pure, Oper.upon_skip]
  rw [hd]
  exact hK _ _ h
theorem res_FE {fn : Func} {p q : Tmp} (h : fn.results = #[.cell p 26, .tmp q]) {tmps : Array Value} {w : World} {g L c M d : Nat} {s : Bool} {a b : Option Addr} {u : Value}
    (hp : tmps[p]? = some (.pointer (some ⟨g, 0, none⟩))) (hq : tmps[q]? = some u) (hv : VarFB w g s a L c b M d) : (results fn tmps).run Tryz.prog w = .ok (.tuple #[.agg #[.bool s, .slice a L c, .slice b M d], u]) w := by
  have c0 := hv.cell0
  have c1 := hv.cell1
  have c2 := hv.cell2
  simp [results, h, hp, hq, asAddr, loadVar, go_sem, c0, c1, c2]
/-- The end of a contract that hands back a fraction and an error's number. -/
def RetFE (W : World) (s : Bool) (p q : Nat) (c : Int) (e : Ending) (w' : World) : Prop := ∃ v, e = .returned (.tuple #[v, .int .i64 c]) ∧ IsF w' v s p q ∧ Below W.heap.size W w'
theorem IsF.zero (w : World) : IsF w (.agg #[.bool false, .slice none 0 0, .slice none 0 0]) false 0 0 := by
  have h : IsN w (.agg #[.slice none (nl 0) 0]) 0 := by rw [nl_zero]; exact NewN.isN (base := 0) NewN.of_zero
  exact ⟨none, 0, none, 0, by rw [nl_zero], h, h⟩
theorem VarF.of {w : World} {g p q c d : Nat} {s : Bool} {a b : Option Addr} (h : VarFB w g s a (nl p) c b (nl q) d) (h1 : IsN w (.agg #[.slice a (nl p) c]) p) (h2 : IsN w (.agg #[.slice b (nl q) d]) q) : VarF w g s p q := ⟨a, c, b, d, h, h1, h2⟩
end Go.Proofs.YtfhinmdhjlmikaaGreatDoor
namespace Go.Proofs.YtfhinmdhjlmikaaGreatDoor
set_option linter.unusedSimpArgs false
set_option linter.unusedVariables false
set_option maxRecDepth 100000
open Go.RowKit
def lowTabF (g8 g11 Np Nq : Nat) : List (Nat × Tmp × Sp) :=
   [(0, 31, .val (Value.bool false)),
    (1, 32, .val (Value.bool false)),
    (2, 33, .any),
    (3, 34, .any),
    (4, 35, .any),
    (5, 36, .val (Value.bool false)),
    (6, 37, .nat (Np)),
    (7, 38, .nat (Nq)),
    (8, 39, .fr false (Np) (Nq))]
def lowTabZ (g8 g11 Np Nq : Nat) : List (Nat × Tmp × Sp) :=
   [(0, 31, .val (Value.bool true)),
    (1, 32, .val (Value.bool true)),
    (2, 33, .nat (Np)),
    (3, 34, .val (Value.bool true)),
    (4, 35, .val (Value.bool false)),
    (5, 36, .val (Value.bool false)),
    (6, 37, .nat (Np)),
    (7, 38, .nat (Nq)),
    (8, 39, .fr false (Np) (Nq))]
def lowTabT (g8 g11 Np Nq : Nat) : List (Nat × Tmp × Sp) :=
   [(0, 31, .val (Value.bool true)),
    (1, 32, .val (Value.bool true)),
    (2, 33, .nat (Np)),
    (3, 34, .val (Value.bool false)),
    (4, 35, .val (Value.bool true)),
    (5, 36, .val (Value.bool true)),
    (6, 37, .nat (Np)),
    (7, 38, .nat (Nq)),
    (8, 39, .fr true (Np) (Nq))]
theorem nl_div {m g : Nat} (hm : nl m ≤ 10000000000) : nl (m / g) ≤ 1000000000000 := Nat.le_trans (nl_mono (Nat.div_le_self _ _)) (by omega)
set_option maxRecDepth 100000 in
set_option maxHeartbeats 4000000 in
theorem c_lowest (s : Bool) (va vb : Value) (m n : Nat) (w : World) (ha : IsN w va m) (hb : IsN w vb n) (hm : nl m ≤ 10000000000) (hn : nl n ≤ 10000000000) (h0 : n ≠ 0) :
    Calls Tryz.prog 52 #[.bool s, va, vb] w fun e w' => RetF w (s && !decide (m = 0)) (m / Nat.gcd m n) (n / Nat.gcd m n) e w' := by
  obtain ⟨a, ca, rfl, hca, ra⟩ := ha
  obtain ⟨b, cb, rfl, hcb, rb⟩ := hb
  obtain ⟨k0, k1, k2⟩ := box2 (L := nl m) (c := ca) (N := m) (L2 := nl n) (c2 := cb) (N2 := n) ⟨a, ca, rfl, hca, ra⟩ ⟨b, cb, rfl, hcb, rb⟩
  have k3 := bel1 ((w.alloc (.cells #[.slice a (nl m) ca] 24)).alloc (.cells #[.slice b (nl n) cb] 24)) (.cells #[.bool false, .slice none 0 0, .slice none 0 0] 26)
  have k4 := VarFB.made ((w.alloc (.cells #[.slice a (nl m) ca] 24)).alloc (.cells #[.slice b (nl n) cb] 24)) false none 0 0 none 0 0
  rw [World.size_alloc, World.size_alloc] at k4
  have hm' : nl m ≤ 1000000000000 := by omega
  have hn' : nl n ≤ 1000000000000 := by omega
  obtain ⟨Ng, hg⟩ : ∃ N : Nat, Hid (N = Nat.gcd m n) := ⟨_, Lib.hid rfl⟩
  have hg0 : Ng ≠ 0 := by rw [hg.out]; exact Nat.ne_of_gt (Nat.gcd_pos_of_pos_right m (Nat.pos_of_ne_zero h0))
  have hgn : Ng ≤ n := by rw [hg.out]; exact Nat.gcd_le_right m (Nat.pos_of_ne_zero h0)
  have hg' : nl Ng ≤ 1000000000000 := Nat.le_trans (nl_mono hgn) hn'
  obtain ⟨Np, hp⟩ : ∃ N : Nat, Hid (N = m / Ng) := ⟨_, Lib.hid rfl⟩
  obtain ⟨Nq, hq⟩ : ∃ N : Nat, Hid (N = n / Ng) := ⟨_, Lib.hid rfl⟩
  have hNp' : nl Np ≤ 1000000000000 := by rw [hp.out]; exact nl_div hm
  have hNpz : (Np = 0) = (m = 0) := by
    rw [hp.out, propext_iff]
    constructor
    · intro h
      have h1 : Ng ∣ m := by rw [hg.out]; exact Nat.gcd_dvd_left m n
      obtain ⟨k, hk⟩ := h1
      rw [hk, Nat.mul_div_cancel_left _ (Nat.pos_of_ne_zero hg0)] at h
      rw [hk, h, Nat.mul_zero]
    · intro h; rw [h, Nat.zero_div]
  have HG0 := Lib.hid hg0
  have HPZ := Lib.hid hNpz
  rw [← hg.out, ← hp.out, ← hq.out]
  clear hg0 hNpz h0 hgn
  go_enter Tryz.func52, Tryz.ntmps52
  go_upto_region 0 with (fail)
  go_cut [4, 5, 6] (fun s4 s5 s6 wx => s4 = .pointer (some ⟨w.heap.size, 0, none⟩) ∧ s5 = .pointer (some ⟨w.heap.size + 1, 0, none⟩) ∧ s6 = .pointer (some ⟨w.heap.size + 2, 0, none⟩) ∧ VarI wx w.heap.size m ∧ VarI wx (w.heap.size + 1) n ∧ VarFB wx (w.heap.size + 2) false none 0 0 none 0 0 ∧ Below w.heap.size w wx)
  case first =>
    go_wp2_with fail
    go_meet
    case rel => exact ⟨rfl, rfl, rfl, VarR.mono k1 k3, VarR.mono k2 k3, k4, k0.trans (k3.mono k0.size)⟩
  case rest =>
  clear k0 k1 k2 k3 k4 ra rb hca hcb
  obtain ⟨rfl, rfl, rfl, Va, Vb, Vr, hb1⟩ := hcut
  go_upto_region 1 with (fail)
  go_cut [7] (fun s7 wx => ∃ g7, s7 = .pointer (some ⟨g7, 0, none⟩) ∧ VarI wx w.heap.size m ∧ VarI wx (w.heap.size + 1) n ∧ VarI wx g7 Ng ∧ VarFB wx (w.heap.size + 2) false none 0 0 none 0 0 ∧ Below w.heap.size w wx)
  case first =>
    have Va' := Va
    obtain ⟨ya, da, qa, ia⟩ := Va'
    have ea := qa.cell
    have Vb' := Vb
    obtain ⟨yb, db, qb, ib⟩ := Vb'
    have eb := qb.cell
    go_wp2_with fail
    refine (c_natural_Gcd _ _ m n _ ia ib hm' hn').mono ?_
    rintro e w9 ⟨v9, rfl, n9, bb⟩
    rw [← hg.out] at n9
    obtain ⟨x9, c9, rfl, hc9, hx9⟩ := n9
    have v1 := VarB.made w9 x9 (nl Ng) c9
    have n1 : IsN w9 (.agg #[.slice x9 (nl Ng) c9]) Ng := NewN.isN ⟨x9, c9, rfl, hc9, hx9⟩
    have b2 := bel1 w9 (.cells #[.slice x9 (nl Ng) c9] 24)
    have b3 := bb.trans (b2.mono bb.size)
    go_wp2_with fail
    go_meet
    case rel => exact ⟨_, rfl, Va.mono b3, Vb.mono b3, VarI.of v1 (n1.mono b2), Vr.mono b3 Vr.lt, hb1.trans (b3.mono hb1.size)⟩
  case rest =>
  clear Va Vb Vr hb1
  obtain ⟨g7, rfl, Va, Vb, V7, Vr, hb1⟩ := hcut
  go_upto_region 2 with (fail)
  go_cut [8] (fun s8 wx => ∃ g8, s8 = .pointer (some ⟨g8, 0, none⟩) ∧ VarI wx w.heap.size m ∧ VarI wx (w.heap.size + 1) n ∧ VarI wx g7 Ng ∧ VarI wx g8 Np ∧ VarFB wx (w.heap.size + 2) false none 0 0 none 0 0 ∧ Below w.heap.size w wx)
  case first =>
    have Va' := Va
    obtain ⟨ya, da, qa, ia⟩ := Va'
    have ea := qa.cell
    have V7' := V7
    obtain ⟨y7, d7, q7, i7⟩ := V7'
    have e7 := q7.cell
    go_wp2_with fail
    refine (c_natural_DivMod _ _ m Ng _ ia i7 hm' hg' HG0.out).mono ?_
    rintro e w9 ⟨vq, vr, rfl, nq, nr, bb⟩
    rw [← hp.out] at nq
    obtain ⟨Nr, hnr⟩ : ∃ N : Nat, Hid (N = m % Ng) := ⟨_, Lib.hid rfl⟩
    rw [← hnr.out] at nr
    obtain ⟨xq, cq, rfl, hcq, hxq⟩ := nq
    obtain ⟨xr, cr, rfl, hcr, hxr⟩ := nr
    obtain ⟨j1, j2, j3⟩ := start2 w9 xq xr (nl Np) cq (nl Nr) cr
    have iq : IsN w9 (.agg #[.slice xq (nl Np) cq]) Np := NewN.isN ⟨xq, cq, rfl, hcq, hxq⟩
    have b3 := bb.trans (j1.mono bb.size)
    go_wp2_with fail
    go_meet
    case rel => exact ⟨_, rfl, Va.mono b3, Vb.mono b3, V7.mono b3, VarI.of j2 (iq.mono j1), Vr.mono b3 Vr.lt, hb1.trans (b3.mono hb1.size)⟩
  case rest =>
  clear Va Vb V7 Vr hb1
  obtain ⟨g8, rfl, Va, Vb, V7, V8, Vr, hb1⟩ := hcut
  go_upto_region 3 with (fail)
  go_cut [11] (fun s11 wx => ∃ g11, s11 = .pointer (some ⟨g11, 0, none⟩) ∧ VarI wx w.heap.size m ∧ VarI wx (w.heap.size + 1) n ∧ VarI wx g7 Ng ∧ VarI wx g8 Np ∧ VarI wx g11 Nq ∧ VarFB wx (w.heap.size + 2) false none 0 0 none 0 0 ∧ Below w.heap.size w wx)
  case first =>
    have Vb' := Vb
    obtain ⟨yb, db, qb, ib⟩ := Vb'
    have eb := qb.cell
    have V7' := V7
    obtain ⟨y7, d7, q7, i7⟩ := V7'
    have e7 := q7.cell
    go_wp2_with fail
    refine (c_natural_DivMod _ _ n Ng _ ib i7 hn' hg' HG0.out).mono ?_
    rintro e w9 ⟨vq, vr, rfl, nq, nr, bb⟩
    rw [← hq.out] at nq
    obtain ⟨Nr, hnr⟩ : ∃ N : Nat, Hid (N = n % Ng) := ⟨_, Lib.hid rfl⟩
    rw [← hnr.out] at nr
    obtain ⟨xq, cq, rfl, hcq, hxq⟩ := nq
    obtain ⟨xr, cr, rfl, hcr, hxr⟩ := nr
    obtain ⟨j1, j2, j3⟩ := start2 w9 xq xr (nl Nq) cq (nl Nr) cr
    have iq : IsN w9 (.agg #[.slice xq (nl Nq) cq]) Nq := NewN.isN ⟨xq, cq, rfl, hcq, hxq⟩
    have b3 := bb.trans (j1.mono bb.size)
    go_wp2_with fail
    go_meet
    case rel => exact ⟨_, rfl, Va.mono b3, Vb.mono b3, V7.mono b3, V8.mono b3, VarI.of j2 (iq.mono j1), Vr.mono b3 Vr.lt, hb1.trans (b3.mono hb1.size)⟩
  case rest =>
  clear Va Vb V7 Vr hb1 V8
  obtain ⟨g11, rfl, Va, Vb, V7, V8, V11, Vr, hb1⟩ := hcut
  rcases Bool.eq_false_or_eq_true s with rfl | rfl
  · by_cases hz0 : m = 0
    · have hz : decide (Np = 0) = true := decide_eq_true (by rw [HPZ.out]; exact hz0)
      have HZ := Lib.hid hz0
      clear hz0
      go_upto_region 4 with (fail)
      refine wp_tabG Tryz.f52 4 (lowTabZ g8 g11 Np Nq) [] (fun _ => false) 4 1 (by kernel_rfl) (by kernel_rfl) (by kernel_rfl) (by kernel_rfl) (by kernel_rfl) (EachX.of_all (fun _ h => by cases h) _) ?_ ?_
      · refine ⟨fun _ _ F => gR rfl rfl (arm_move (.inl rfl) (F.k 0 (Value.bool true))).b, ?_⟩
        refine ⟨fun _ _ F => gR rfl rfl (arm_move (.inl rfl) (F.f 0 rfl)).b, ?_⟩
        refine ⟨fun _ _ F => gG F rfl rfl rfl rfl (arm_load rfl (F.k 8 (Value.pointer (some ⟨g8, 0, none⟩))) (V8.mono F.below)).b, ?_⟩
        refine ⟨fun _ _ F => gG F rfl rfl rfl rfl (arm_isZero rfl (F.f 2 rfl) hNp' hz).b, ?_⟩
        refine ⟨fun _ _ F => gG F rfl rfl rfl rfl (arm_not rfl (F.f 3 rfl)).b, ?_⟩
        refine ⟨fun _ _ F => gR rfl rfl (arm_pick rfl (F.f 1 rfl) (fun _ => (F.f 4 rfl)) (fun h => by cases h)).b, ?_⟩
        refine ⟨fun _ _ F => gR rfl rfl (arm_load rfl (F.k 8 (Value.pointer (some ⟨g8, 0, none⟩))) (V8.mono F.below)).b, ?_⟩
        refine ⟨fun _ _ F => gR rfl rfl (arm_load rfl (F.k 11 (Value.pointer (some ⟨g11, 0, none⟩))) (V11.mono F.below)).b, ?_⟩
        refine ⟨fun _ _ F => gR rfl rfl (arm_buildF rfl (F.f 5 rfl) (F.f 6 rfl) (F.f 7 rfl)).b, ?_⟩
        exact trivial
      intro E' hE gp wp bp G Gs
      obtain rfl : E' = [] := by simpa [subs] using hE
      obtain ⟨x1, c1, x2, c2, e8, n1, n2⟩ := G 8 39 _ (by simp) rfl
      have Vr2 := Vr.mono bp Vr.lt
      clear G Gs hE
      simp only [lowTabZ]
      simp only [qA, setD, qZ, qS, e8]
      refine wpAny_storeF (j := 9) (by kernel_rfl) rfl rfl rfl rfl rfl rfl Vr2 ?_
      refine wpAny_done (by kernel_rfl) ?_ _
      have hB := putF_below (s := false) (a := x1) (L := nl Np) (c := c1) (b := x2) (M := nl Nq) (d := c2) (hb1.trans (bp.mono hb1.size)) (show w.heap.size ≤ w.heap.size + 2 by omega)
      rename_i hK
      refine hK _ _ ?_
      refine wp_ret ?_
      show bodyPost Tryz.prog Tryz.f52 _ .ret _ _
      exact bodyPost_ret (res_F rfl rfl (VarFB.put Vr2)) rfl ⟨_, rfl, ⟨x1, c1, x2, c2, by rw [decide_eq_true HZ.out]; rfl, n1.putF Vr2, n2.putF Vr2⟩, hB⟩
    · have hz : decide (Np = 0) = false := decide_eq_false (by rw [HPZ.out]; exact hz0)
      have HZ := Lib.hid hz0
      clear hz0
      go_upto_region 4 with (fail)
      refine wp_tabG Tryz.f52 4 (lowTabT g8 g11 Np Nq) [] (fun _ => false) 4 1 (by kernel_rfl) (by kernel_rfl) (by kernel_rfl) (by kernel_rfl) (by kernel_rfl) (EachX.of_all (fun _ h => by cases h) _) ?_ ?_
      · refine ⟨fun _ _ F => gR rfl rfl (arm_move (.inl rfl) (F.k 0 (Value.bool true))).b, ?_⟩
        refine ⟨fun _ _ F => gR rfl rfl (arm_move (.inl rfl) (F.f 0 rfl)).b, ?_⟩
        refine ⟨fun _ _ F => gG F rfl rfl rfl rfl (arm_load rfl (F.k 8 (Value.pointer (some ⟨g8, 0, none⟩))) (V8.mono F.below)).b, ?_⟩
        refine ⟨fun _ _ F => gG F rfl rfl rfl rfl (arm_isZero rfl (F.f 2 rfl) hNp' hz).b, ?_⟩
        refine ⟨fun _ _ F => gG F rfl rfl rfl rfl (arm_not rfl (F.f 3 rfl)).b, ?_⟩
        refine ⟨fun _ _ F => gR rfl rfl (arm_pick rfl (F.f 1 rfl) (fun _ => (F.f 4 rfl)) (fun h => by cases h)).b, ?_⟩
        refine ⟨fun _ _ F => gR rfl rfl (arm_load rfl (F.k 8 (Value.pointer (some ⟨g8, 0, none⟩))) (V8.mono F.below)).b, ?_⟩
        refine ⟨fun _ _ F => gR rfl rfl (arm_load rfl (F.k 11 (Value.pointer (some ⟨g11, 0, none⟩))) (V11.mono F.below)).b, ?_⟩
        refine ⟨fun _ _ F => gR rfl rfl (arm_buildF rfl (F.f 5 rfl) (F.f 6 rfl) (F.f 7 rfl)).b, ?_⟩
        exact trivial
      intro E' hE gp wp bp G Gs
      obtain rfl : E' = [] := by simpa [subs] using hE
      obtain ⟨x1, c1, x2, c2, e8, n1, n2⟩ := G 8 39 _ (by simp) rfl
      have Vr2 := Vr.mono bp Vr.lt
      clear G Gs hE
      simp only [lowTabT]
      simp only [qA, setD, qZ, qS, e8]
      refine wpAny_storeF (j := 9) (by kernel_rfl) rfl rfl rfl rfl rfl rfl Vr2 ?_
      refine wpAny_done (by kernel_rfl) ?_ _
      have hB := putF_below (s := true) (a := x1) (L := nl Np) (c := c1) (b := x2) (M := nl Nq) (d := c2) (hb1.trans (bp.mono hb1.size)) (show w.heap.size ≤ w.heap.size + 2 by omega)
      rename_i hK
      refine hK _ _ ?_
      refine wp_ret ?_
      show bodyPost Tryz.prog Tryz.f52 _ .ret _ _
      exact bodyPost_ret (res_F rfl rfl (VarFB.put Vr2)) rfl ⟨_, rfl, ⟨x1, c1, x2, c2, by rw [decide_eq_false HZ.out]; rfl, n1.putF Vr2, n2.putF Vr2⟩, hB⟩
  · go_upto_region 4 with (fail)
    refine wp_tabG Tryz.f52 4 (lowTabF g8 g11 Np Nq) [] (fun _ => false) 4 1 (by kernel_rfl) (by kernel_rfl) (by kernel_rfl) (by kernel_rfl) (by kernel_rfl) (EachX.of_all (fun _ h => by cases h) _) ?_ ?_
    · refine ⟨fun _ _ F => gR rfl rfl (arm_move (.inl rfl) (F.k 0 (Value.bool false))).b, ?_⟩
      refine ⟨fun _ _ F => gR rfl rfl (arm_move (.inl rfl) (F.f 0 rfl)).b, ?_⟩
      refine ⟨fun a' w' F => StepG.skip rfl (unwanted rfl rfl (F.at' 1 32 _ rfl (by kernel_rfl)) rfl) trivial, ?_⟩
      refine ⟨fun a' w' F => StepG.skip rfl (unwanted rfl rfl (F.at' 1 32 _ rfl (by kernel_rfl)) rfl) trivial, ?_⟩
      refine ⟨fun a' w' F => StepG.skip rfl (unwanted rfl rfl (F.at' 1 32 _ rfl (by kernel_rfl)) rfl) trivial, ?_⟩
      refine ⟨fun _ _ F => gR rfl rfl (arm_pick rfl (F.f 1 rfl) (fun h => by cases h) (fun _ => Is.const)).b, ?_⟩
      refine ⟨fun _ _ F => gR rfl rfl (arm_load rfl (F.k 8 (Value.pointer (some ⟨g8, 0, none⟩))) (V8.mono F.below)).b, ?_⟩
      refine ⟨fun _ _ F => gR rfl rfl (arm_load rfl (F.k 11 (Value.pointer (some ⟨g11, 0, none⟩))) (V11.mono F.below)).b, ?_⟩
      refine ⟨fun _ _ F => gR rfl rfl (arm_buildF rfl (F.f 5 rfl) (F.f 6 rfl) (F.f 7 rfl)).b, ?_⟩
      exact trivial
    intro E' hE gp wp bp G Gs
    obtain rfl : E' = [] := by simpa [subs] using hE
    obtain ⟨x1, c1, x2, c2, e8, n1, n2⟩ := G 8 39 _ (by simp) rfl
    have Vr2 := Vr.mono bp Vr.lt
    clear G Gs hE
    simp only [lowTabF]
    simp only [qA, setD, qZ, qS, e8]
    refine wpAny_storeF (j := 9) (by kernel_rfl) rfl rfl rfl rfl rfl rfl Vr2 ?_
    refine wpAny_done (by kernel_rfl) ?_ _
    have hB := putF_below (s := false) (a := x1) (L := nl Np) (c := c1) (b := x2) (M := nl Nq) (d := c2) (hb1.trans (bp.mono hb1.size)) (show w.heap.size ≤ w.heap.size + 2 by omega)
    rename_i hK
    refine hK _ _ ?_
    refine wp_ret ?_
    show bodyPost Tryz.prog Tryz.f52 _ .ret _ _
    exact bodyPost_ret (res_F rfl rfl (VarFB.put Vr2)) rfl ⟨_, rfl, ⟨x1, c1, x2, c2, by rfl, n1.putF Vr2, n2.putF Vr2⟩, hB⟩
end Go.Proofs.YtfhinmdhjlmikaaGreatDoor
namespace Go.Proofs.YtfhinmdhjlmikaaGreatDoor
set_option linter.unusedSimpArgs false
set_option linter.unusedVariables false
set_option maxRecDepth 100000
open Go.RowKit
theorem start_mk {w : World} {va vb : Value} {m n : Nat} (ha : IsN w va m) (hb : IsN w vb n) : ∃ a ca b cb, va = .agg #[.slice a (nl m) ca] ∧ vb = .agg #[.slice b (nl n) cb] ∧
    Below w.heap.size w (((w.alloc (.cells #[.slice a (nl m) ca] 24)).alloc (.cells #[.slice b (nl n) cb] 24)).alloc (.cells #[.bool false, .slice none 0 0, .slice none 0 0] 26)) ∧
    VarI (((w.alloc (.cells #[.slice a (nl m) ca] 24)).alloc (.cells #[.slice b (nl n) cb] 24)).alloc (.cells #[.bool false, .slice none 0 0, .slice none 0 0] 26)) w.heap.size m ∧
    VarI (((w.alloc (.cells #[.slice a (nl m) ca] 24)).alloc (.cells #[.slice b (nl n) cb] 24)).alloc (.cells #[.bool false, .slice none 0 0, .slice none 0 0] 26)) (w.heap.size + 1) n ∧
    VarFB (((w.alloc (.cells #[.slice a (nl m) ca] 24)).alloc (.cells #[.slice b (nl n) cb] 24)).alloc (.cells #[.bool false, .slice none 0 0, .slice none 0 0] 26)) (w.heap.size + 2) false none 0 0 none 0 0 := by
  obtain ⟨a, ca, rfl, hca, ra⟩ := ha
  obtain ⟨b, cb, rfl, hcb, rb⟩ := hb
  obtain ⟨k0, k1, k2⟩ := box2 (L := nl m) (c := ca) (N := m) (L2 := nl n) (c2 := cb) (N2 := n) ⟨a, ca, rfl, hca, ra⟩ ⟨b, cb, rfl, hcb, rb⟩
  have k3 := bel1 ((w.alloc (.cells #[.slice a (nl m) ca] 24)).alloc (.cells #[.slice b (nl n) cb] 24)) (.cells #[.bool false, .slice none 0 0, .slice none 0 0] 26)
  have k4 := VarFB.made ((w.alloc (.cells #[.slice a (nl m) ca] 24)).alloc (.cells #[.slice b (nl n) cb] 24)) false none 0 0 none 0 0
  rw [World.size_alloc, World.size_alloc] at k4
  exact ⟨a, ca, b, cb, rfl, rfl, k0.trans (k3.mono k0.size), VarR.mono k1 k3, VarR.mono k2 k3, k4⟩
/-- The sign of a fraction in lowest terms. -/
def lowS (s : Bool) (m : Nat) : Bool := s && !decide (m = 0)
end Go.Proofs.YtfhinmdhjlmikaaGreatDoor
namespace Go.Proofs.YtfhinmdhjlmikaaGreatDoor
set_option linter.unusedSimpArgs false
set_option linter.unusedVariables false
set_option maxRecDepth 100000
open Go.RowKit
def rMakeTabF (w : World) (g9 g12 m Np Nq : Nat) : List (Nat × Tmp × Sp) :=
   [(0, 35, .val (Value.bool false)),
    (1, 36, .val (Value.bool false)),
    (2, 37, .any),
    (3, 38, .any),
    (4, 39, .any),
    (5, 40, .val (Value.bool false)),
    (6, 41, .nat (Np)),
    (7, 42, .nat (Nq)),
    (8, 43, .fr false (Np) (Nq))]
def rMakeTabZ (w : World) (g9 g12 m Np Nq : Nat) : List (Nat × Tmp × Sp) :=
   [(0, 35, .val (Value.bool true)),
    (1, 36, .val (Value.bool true)),
    (2, 37, .nat (m)),
    (3, 38, .val (Value.bool true)),
    (4, 39, .val (Value.bool false)),
    (5, 40, .val (Value.bool false)),
    (6, 41, .nat (Np)),
    (7, 42, .nat (Nq)),
    (8, 43, .fr false (Np) (Nq))]
def rMakeTabT (w : World) (g9 g12 m Np Nq : Nat) : List (Nat × Tmp × Sp) :=
   [(0, 35, .val (Value.bool true)),
    (1, 36, .val (Value.bool true)),
    (2, 37, .nat (m)),
    (3, 38, .val (Value.bool false)),
    (4, 39, .val (Value.bool true)),
    (5, 40, .val (Value.bool true)),
    (6, 41, .nat (Np)),
    (7, 42, .nat (Nq)),
    (8, 43, .fr true (Np) (Nq))]
set_option maxHeartbeats 4000000 in
theorem c_rMake (s : Bool) (va vb : Value) (m n : Nat) (w : World) (ha : IsN w va m) (hb : IsN w vb n) (hm : nl m ≤ 10000000000) (hn : nl n ≤ 10000000000) :
    Calls Tryz.prog 56 #[.bool s, va, vb] w fun e w' => (n = 0 → RetFE w false 0 0 8 e w') ∧ (n ≠ 0 → RetFE w (lowS s m) (m / Nat.gcd m n) (n / Nat.gcd m n) 0 e w') := by
  obtain ⟨a, ca, b, cb, rfl, rfl, k0, k1, k2, k4⟩ := start_mk ha hb
  have hm' : nl m ≤ 1000000000000 := by omega
  have hn' : nl n ≤ 1000000000000 := by omega
  clear ha hb
  go_enter Tryz.func56, Tryz.ntmps56
  go_upto_region 0 with (fail)
  go_cut [4, 5, 6] (fun s4 s5 s6 wx => s4 = .pointer (some ⟨w.heap.size, 0, none⟩) ∧ s5 = .pointer (some ⟨w.heap.size + 1, 0, none⟩) ∧ s6 = .pointer (some ⟨w.heap.size + 2, 0, none⟩) ∧ VarI wx w.heap.size m ∧ VarI wx (w.heap.size + 1) n ∧ VarFB wx (w.heap.size + 2) false none 0 0 none 0 0 ∧ Below w.heap.size w wx)
  case first =>
    go_wp2_with fail
    go_meet
    case rel => exact ⟨rfl, rfl, rfl, k1, k2, k4, k0⟩
  case rest =>
  clear k0 k1 k2 k4
  obtain ⟨rfl, rfl, rfl, Va, Vb, Vr, hb1⟩ := hcut
  have Vb' := Vb
  obtain ⟨yb, db, qb, ib⟩ := Vb'
  have eb := qb.cell
  go_wp2_with fail
  refine (c_zero _ n _ ib hn').mono ?_
  rintro e w1 ⟨rfl, bb⟩
  replace Vr := Vr.mono bb Vr.lt
  replace Va := Va.mono bb
  replace Vb := Vb.mono bb
  replace hb1 := hb1.trans (bb.mono hb1.size)
  clear eb qb ib bb
  by_cases h0 : n = 0
  · have c0 := Vr.cell0
    have c1 := Vr.cell1
    have c2 := Vr.cell2
    have f0 := Vr.frozen 0
    have f1 := Vr.frozen 1
    have f2 := Vr.frozen 2
    rw [decide_eq_true h0]
    have H0 := Lib.hid h0
    clear h0
    go_wp2
    exact bodyPost_ret (res_FE rfl rfl rfl (VarFB.put (s' := false) (a' := none) (L' := 0) (c' := 0) (b' := none) (M' := 0) (d' := 0) Vr)) rfl ⟨fun _ => ⟨_, rfl, IsF.zero _, putF_below hb1 (by omega)⟩, fun h => absurd H0.out h⟩
  · have hg00 : Nat.gcd m n ≠ 0 := Nat.ne_of_gt (Nat.gcd_pos_of_pos_right m (Nat.pos_of_ne_zero h0))
    obtain ⟨Ng, hg⟩ : ∃ N : Nat, Hid (N = Nat.gcd m n) := ⟨_, Lib.hid rfl⟩
    have hg0 : Ng ≠ 0 := by rw [hg.out]; exact hg00
    have hgn : Ng ≤ n := by rw [hg.out]; exact Nat.gcd_le_right m (Nat.pos_of_ne_zero h0)
    have hg' : nl Ng ≤ 100000000000 := Nat.le_trans (nl_mono hgn) (by omega)
    obtain ⟨Np, hp⟩ : ∃ N : Nat, Hid (N = m / Ng) := ⟨_, Lib.hid rfl⟩
    obtain ⟨Nq, hq⟩ : ∃ N : Nat, Hid (N = n / Ng) := ⟨_, Lib.hid rfl⟩
    have HG0 := Lib.hid hg0
    rw [decide_eq_false h0]
    have H0 := Lib.hid h0
    clear h0 hg00 hg0 hgn
    go_upto_region 3 with (fail)
    go_cut [8] (fun s8 wx => ∃ g8, s8 = .pointer (some ⟨g8, 0, none⟩) ∧ VarI wx g8 Ng ∧ VarI wx w.heap.size m ∧ VarI wx (w.heap.size + 1) n ∧ VarFB wx (w.heap.size + 2) false none 0 0 none 0 0 ∧ Below w.heap.size w wx)
    case first =>
      have Va' := Va
      obtain ⟨ya, da, qa, ia⟩ := Va'
      have ea := qa.cell
      have Vb' := Vb
      obtain ⟨yb, db, qb, ib⟩ := Vb'
      have eb := qb.cell
      go_wp2_with fail
      refine (c_ref_Gcd _ _ m n _ ia ib (by omega) (by omega)).mono ?_
      rintro e w9 ⟨v9, rfl, n9, bb⟩
      rw [← hg.out] at n9
      obtain ⟨x9, c9, rfl⟩ := n9.shape
      have v1 := VarB.made w9 x9 (nl Ng) c9
      have b2 := bel1 w9 (.cells #[.slice x9 (nl Ng) c9] 24)
      have b3 := bb.trans (b2.mono bb.size)
      go_wp2_with fail
      go_meet
      case rel => exact ⟨_, rfl, VarI.of v1 (n9.mono b2), Va.mono b3, Vb.mono b3, Vr.mono b3 Vr.lt, hb1.trans (b3.mono hb1.size)⟩
    case rest =>
    clear Va Vb Vr hb1
    obtain ⟨g8, rfl, V8, Va, Vb, Vr, hb1⟩ := hcut
    go_upto_region 4 with (fail)
    go_cut [9] (fun s9 wx => ∃ g9, s9 = .pointer (some ⟨g9, 0, none⟩) ∧ VarI wx g9 Np ∧ VarI wx g8 Ng ∧ VarI wx w.heap.size m ∧ VarI wx (w.heap.size + 1) n ∧ VarFB wx (w.heap.size + 2) false none 0 0 none 0 0 ∧ Below w.heap.size w wx)
    case first =>
      have Va' := Va
      obtain ⟨ya, da, qa, ia⟩ := Va'
      have ea := qa.cell
      have V8' := V8
      obtain ⟨y8, d8, q8, i8⟩ := V8'
      have e8 := q8.cell
      go_wp2_with fail
      refine (c_ref_DivMod _ _ m Ng _ ia i8 (by omega) hg' HG0.out).mono ?_
      rintro e w9 ⟨vq, vr, rfl, nq, nr, bb⟩
      rw [← hp.out] at nq
      obtain ⟨Nr, hnr⟩ : ∃ N : Nat, Hid (N = m % Ng) := ⟨_, Lib.hid rfl⟩
      rw [← hnr.out] at nr
      obtain ⟨xq, cq, rfl, hcq, hxq⟩ := nq
      obtain ⟨xr, cr, rfl, hcr, hxr⟩ := nr
      obtain ⟨j1, j2, j3⟩ := start2 w9 xq xr (nl Np) cq (nl Nr) cr
      have iq : IsN w9 (.agg #[.slice xq (nl Np) cq]) Np := NewN.isN ⟨xq, cq, rfl, hcq, hxq⟩
      have b3 := bb.trans (j1.mono bb.size)
      go_wp2_with fail
      go_meet
      case rel => exact ⟨_, rfl, VarI.of j2 (iq.mono j1), V8.mono b3, Va.mono b3, Vb.mono b3, Vr.mono b3 Vr.lt, hb1.trans (b3.mono hb1.size)⟩
    case rest =>
    clear Va Vb Vr hb1 V8
    obtain ⟨g9, rfl, V9, V8, Va, Vb, Vr, hb1⟩ := hcut
    go_upto_region 5 with (fail)
    go_cut [12] (fun s12 wx => ∃ g12, s12 = .pointer (some ⟨g12, 0, none⟩) ∧ VarI wx g12 Nq ∧ VarI wx g8 Ng ∧ VarI wx g9 Np ∧ VarI wx w.heap.size m ∧ VarI wx (w.heap.size + 1) n ∧ VarFB wx (w.heap.size + 2) false none 0 0 none 0 0 ∧ Below w.heap.size w wx)
    case first =>
      have Vb' := Vb
      obtain ⟨yb, db, qb, ib⟩ := Vb'
      have eb := qb.cell
      have V8' := V8
      obtain ⟨y8, d8, q8, i8⟩ := V8'
      have e8 := q8.cell
      go_wp2_with fail
      refine (c_ref_DivMod _ _ n Ng _ ib i8 (by omega) hg' HG0.out).mono ?_
      rintro e w9 ⟨vq, vr, rfl, nq, nr, bb⟩
      rw [← hq.out] at nq
      obtain ⟨Nr, hnr⟩ : ∃ N : Nat, Hid (N = n % Ng) := ⟨_, Lib.hid rfl⟩
      rw [← hnr.out] at nr
      obtain ⟨xq, cq, rfl, hcq, hxq⟩ := nq
      obtain ⟨xr, cr, rfl, hcr, hxr⟩ := nr
      obtain ⟨j1, j2, j3⟩ := start2 w9 xq xr (nl Nq) cq (nl Nr) cr
      have iq : IsN w9 (.agg #[.slice xq (nl Nq) cq]) Nq := NewN.isN ⟨xq, cq, rfl, hcq, hxq⟩
      have b3 := bb.trans (j1.mono bb.size)
      go_wp2_with fail
      go_meet
      case rel => exact ⟨_, rfl, VarI.of j2 (iq.mono j1), V8.mono b3, V9.mono b3, Va.mono b3, Vb.mono b3, Vr.mono b3 Vr.lt, hb1.trans (b3.mono hb1.size)⟩
    case rest =>
    clear Va Vb Vr hb1 V8 V9
    obtain ⟨g12, rfl, V12, V8, V9, Va, Vb, Vr, hb1⟩ := hcut
    rcases Bool.eq_false_or_eq_true s with rfl | rfl
    · by_cases hz0 : m = 0
      · have hz : decide (m = 0) = true := decide_eq_true hz0
        have HZ := Lib.hid hz0
        clear hz0
        go_upto_region 6 with (fail)
        refine wp_tabG Tryz.f56 6 (rMakeTabZ w g9 g12 m Np Nq) [] (fun _ => false) 4 2 (by kernel_rfl) (by kernel_rfl) (by kernel_rfl) (by kernel_rfl) (by kernel_rfl) (EachX.of_all (fun _ h => by cases h) _) ?_ ?_
        · refine ⟨fun _ _ F => gR rfl rfl (arm_move (.inl rfl) (F.k 0 (Value.bool true))).b, ?_⟩
          refine ⟨fun _ _ F => gR rfl rfl (arm_move (.inl rfl) (F.f 0 rfl)).b, ?_⟩
          refine ⟨fun _ _ F => gG F rfl rfl rfl rfl (arm_load rfl (F.k 4 (Value.pointer (some ⟨w.heap.size, 0, none⟩))) (Va.mono F.below)).b, ?_⟩
          refine ⟨fun _ _ F => gG F rfl rfl rfl rfl (arm_zero rfl (F.f 2 rfl) hm' hz).b, ?_⟩
          refine ⟨fun _ _ F => gG F rfl rfl rfl rfl (arm_not rfl (F.f 3 rfl)).b, ?_⟩
          refine ⟨fun _ _ F => gR rfl rfl (arm_pick rfl (F.f 1 rfl) (fun _ => (F.f 4 rfl)) (fun h => by cases h)).b, ?_⟩
          refine ⟨fun _ _ F => gR rfl rfl (arm_load rfl (F.k 9 (Value.pointer (some ⟨g9, 0, none⟩))) (V9.mono F.below)).b, ?_⟩
          refine ⟨fun _ _ F => gR rfl rfl (arm_load rfl (F.k 12 (Value.pointer (some ⟨g12, 0, none⟩))) (V12.mono F.below)).b, ?_⟩
          refine ⟨fun _ _ F => gR rfl rfl (arm_buildF rfl (F.f 5 rfl) (F.f 6 rfl) (F.f 7 rfl)).b, ?_⟩
          exact trivial
        intro E' hE gp wp bp G Gs
        obtain rfl : E' = [] := by simpa [subs] using hE
        obtain ⟨x1, c1, x2, c2, e8, n1, n2⟩ := G 8 43 _ (by simp) rfl
        have Vr2 := Vr.mono bp Vr.lt
        clear G Gs hE
        simp only [rMakeTabZ]
        simp only [qA, setD, qZ, qS, e8]
        refine wpAny_storeF (j := 9) (by kernel_rfl) rfl rfl rfl rfl rfl rfl Vr2 ?_
        refine wpAny_takeD (i := 10) (d := some 7) (v := .int .i64 0) rfl rfl (by kernel_rfl) (by kernel_rfl) (by kernel_rfl) (fun _ _ _ h => h) (Or.inl ⟨by rfl, fun w => by rfl⟩) ?_
        refine wpAny_done (by kernel_rfl) ?_ _
        have hB := putF_below (s := false) (a := x1) (L := nl Np) (c := c1) (b := x2) (M := nl Nq) (d := c2) (hb1.trans (bp.mono hb1.size)) (show w.heap.size ≤ w.heap.size + 2 by omega)
        rename_i hK
        refine hK _ _ ?_
        refine wp_ret ?_
        show bodyPost Tryz.prog Tryz.f56 _ .ret _ _
        exact bodyPost_ret (res_FE rfl rfl rfl (VarFB.put Vr2)) rfl ⟨fun h => absurd h H0.out, fun _ => ⟨_, rfl, by rw [← hg.out, ← hp.out, ← hq.out]; exact ⟨x1, c1, x2, c2, by unfold lowS; rw [decide_eq_true HZ.out]; rfl, n1.putF Vr2, n2.putF Vr2⟩, hB⟩⟩
      · have hz : decide (m = 0) = false := decide_eq_false hz0
        have HZ := Lib.hid hz0
        clear hz0
        go_upto_region 6 with (fail)
        refine wp_tabG Tryz.f56 6 (rMakeTabT w g9 g12 m Np Nq) [] (fun _ => false) 4 2 (by kernel_rfl) (by kernel_rfl) (by kernel_rfl) (by kernel_rfl) (by kernel_rfl) (EachX.of_all (fun _ h => by cases h) _) ?_ ?_
        · refine ⟨fun _ _ F => gR rfl rfl (arm_move (.inl rfl) (F.k 0 (Value.bool true))).b, ?_⟩
          refine ⟨fun _ _ F => gR rfl rfl (arm_move (.inl rfl) (F.f 0 rfl)).b, ?_⟩
          refine ⟨fun _ _ F => gG F rfl rfl rfl rfl (arm_load rfl (F.k 4 (Value.pointer (some ⟨w.heap.size, 0, none⟩))) (Va.mono F.below)).b, ?_⟩
          refine ⟨fun _ _ F => gG F rfl rfl rfl rfl (arm_zero rfl (F.f 2 rfl) hm' hz).b, ?_⟩
          refine ⟨fun _ _ F => gG F rfl rfl rfl rfl (arm_not rfl (F.f 3 rfl)).b, ?_⟩
          refine ⟨fun _ _ F => gR rfl rfl (arm_pick rfl (F.f 1 rfl) (fun _ => (F.f 4 rfl)) (fun h => by cases h)).b, ?_⟩
          refine ⟨fun _ _ F => gR rfl rfl (arm_load rfl (F.k 9 (Value.pointer (some ⟨g9, 0, none⟩))) (V9.mono F.below)).b, ?_⟩
          refine ⟨fun _ _ F => gR rfl rfl (arm_load rfl (F.k 12 (Value.pointer (some ⟨g12, 0, none⟩))) (V12.mono F.below)).b, ?_⟩
          refine ⟨fun _ _ F => gR rfl rfl (arm_buildF rfl (F.f 5 rfl) (F.f 6 rfl) (F.f 7 rfl)).b, ?_⟩
          exact trivial
        intro E' hE gp wp bp G Gs
        obtain rfl : E' = [] := by simpa [subs] using hE
        obtain ⟨x1, c1, x2, c2, e8, n1, n2⟩ := G 8 43 _ (by simp) rfl
        have Vr2 := Vr.mono bp Vr.lt
        clear G Gs hE
        simp only [rMakeTabT]
        simp only [qA, setD, qZ, qS, e8]
        refine wpAny_storeF (j := 9) (by kernel_rfl) rfl rfl rfl rfl rfl rfl Vr2 ?_
        refine wpAny_takeD (i := 10) (d := some 7) (v := .int .i64 0) rfl rfl (by kernel_rfl) (by kernel_rfl) (by kernel_rfl) (fun _ _ _ h => h) (Or.inl ⟨by rfl, fun w => by rfl⟩) ?_
        refine wpAny_done (by kernel_rfl) ?_ _
        have hB := putF_below (s := true) (a := x1) (L := nl Np) (c := c1) (b := x2) (M := nl Nq) (d := c2) (hb1.trans (bp.mono hb1.size)) (show w.heap.size ≤ w.heap.size + 2 by omega)
        rename_i hK
        refine hK _ _ ?_
        refine wp_ret ?_
        show bodyPost Tryz.prog Tryz.f56 _ .ret _ _
        exact bodyPost_ret (res_FE rfl rfl rfl (VarFB.put Vr2)) rfl ⟨fun h => absurd h H0.out, fun _ => ⟨_, rfl, by rw [← hg.out, ← hp.out, ← hq.out]; exact ⟨x1, c1, x2, c2, by unfold lowS; rw [decide_eq_false HZ.out]; rfl, n1.putF Vr2, n2.putF Vr2⟩, hB⟩⟩
    · go_upto_region 6 with (fail)
      refine wp_tabG Tryz.f56 6 (rMakeTabF w g9 g12 m Np Nq) [] (fun _ => false) 4 2 (by kernel_rfl) (by kernel_rfl) (by kernel_rfl) (by kernel_rfl) (by kernel_rfl) (EachX.of_all (fun _ h => by cases h) _) ?_ ?_
      · refine ⟨fun _ _ F => gR rfl rfl (arm_move (.inl rfl) (F.k 0 (Value.bool false))).b, ?_⟩
        refine ⟨fun _ _ F => gR rfl rfl (arm_move (.inl rfl) (F.f 0 rfl)).b, ?_⟩
        refine ⟨fun a' w' F => StepG.skip rfl (unwanted rfl rfl (F.at' 1 36 _ rfl (by kernel_rfl)) rfl) trivial, ?_⟩
        refine ⟨fun a' w' F => StepG.skip rfl (unwanted rfl rfl (F.at' 1 36 _ rfl (by kernel_rfl)) rfl) trivial, ?_⟩
        refine ⟨fun a' w' F => StepG.skip rfl (unwanted rfl rfl (F.at' 1 36 _ rfl (by kernel_rfl)) rfl) trivial, ?_⟩
        refine ⟨fun _ _ F => gR rfl rfl (arm_pick rfl (F.f 1 rfl) (fun h => by cases h) (fun _ => Is.const)).b, ?_⟩
        refine ⟨fun _ _ F => gR rfl rfl (arm_load rfl (F.k 9 (Value.pointer (some ⟨g9, 0, none⟩))) (V9.mono F.below)).b, ?_⟩
        refine ⟨fun _ _ F => gR rfl rfl (arm_load rfl (F.k 12 (Value.pointer (some ⟨g12, 0, none⟩))) (V12.mono F.below)).b, ?_⟩
        refine ⟨fun _ _ F => gR rfl rfl (arm_buildF rfl (F.f 5 rfl) (F.f 6 rfl) (F.f 7 rfl)).b, ?_⟩
        exact trivial
      intro E' hE gp wp bp G Gs
      obtain rfl : E' = [] := by simpa [subs] using hE
      obtain ⟨x1, c1, x2, c2, e8, n1, n2⟩ := G 8 43 _ (by simp) rfl
      have Vr2 := Vr.mono bp Vr.lt
      clear G Gs hE
      simp only [rMakeTabF]
      simp only [qA, setD, qZ, qS, e8]
      refine wpAny_storeF (j := 9) (by kernel_rfl) rfl rfl rfl rfl rfl rfl Vr2 ?_
      refine wpAny_takeD (i := 10) (d := some 7) (v := .int .i64 0) rfl rfl (by kernel_rfl) (by kernel_rfl) (by kernel_rfl) (fun _ _ _ h => h) (Or.inl ⟨by rfl, fun w => by rfl⟩) ?_
      refine wpAny_done (by kernel_rfl) ?_ _
      have hB := putF_below (s := false) (a := x1) (L := nl Np) (c := c1) (b := x2) (M := nl Nq) (d := c2) (hb1.trans (bp.mono hb1.size)) (show w.heap.size ≤ w.heap.size + 2 by omega)
      rename_i hK
      refine hK _ _ ?_
      refine wp_ret ?_
      show bodyPost Tryz.prog Tryz.f56 _ .ret _ _
      exact bodyPost_ret (res_FE rfl rfl rfl (VarFB.put Vr2)) rfl ⟨fun h => absurd h H0.out, fun _ => ⟨_, rfl, by rw [← hg.out, ← hp.out, ← hq.out]; exact ⟨x1, c1, x2, c2, by rfl, n1.putF Vr2, n2.putF Vr2⟩, hB⟩⟩
end Go.Proofs.YtfhinmdhjlmikaaGreatDoor
namespace Go.Proofs.YtfhinmdhjlmikaaGreatDoor
set_option linter.unusedSimpArgs false
set_option linter.unusedVariables false
set_option maxRecDepth 100000
open Go.RowKit
theorem boxF {w : World} {v : Value} {s : Bool} {p q : Nat} (h : IsF w v s p q) : ∃ a c b d, v = .agg #[.bool s, .slice a (nl p) c, .slice b (nl q) d] ∧
    Below w.heap.size w (w.alloc (.cells #[.bool s, .slice a (nl p) c, .slice b (nl q) d] 26)) ∧ VarF (w.alloc (.cells #[.bool s, .slice a (nl p) c, .slice b (nl q) d] 26)) w.heap.size s p q := by
  obtain ⟨a, c, b, d, rfl, h1, h2⟩ := h
  have hb := bel1 w (.cells #[.bool s, .slice a (nl p) c, .slice b (nl q) d] 26)
  exact ⟨a, c, b, d, rfl, hb, VarF.of (VarFB.made w s a (nl p) c b (nl q) d) (h1.mono hb) (h2.mono hb)⟩
theorem boxF2 {w : World} {v v' : Value} {s s' : Bool} {p q p' q' : Nat} (h : IsF w v s p q) (h' : IsF w v' s' p' q') : ∃ a c b d a' c' b' d', v = .agg #[.bool s, .slice a (nl p) c, .slice b (nl q) d] ∧ v' = .agg #[.bool s', .slice a' (nl p') c', .slice b' (nl q') d'] ∧
    Below w.heap.size w ((w.alloc (.cells #[.bool s, .slice a (nl p) c, .slice b (nl q) d] 26)).alloc (.cells #[.bool s', .slice a' (nl p') c', .slice b' (nl q') d'] 26)) ∧
    VarF ((w.alloc (.cells #[.bool s, .slice a (nl p) c, .slice b (nl q) d] 26)).alloc (.cells #[.bool s', .slice a' (nl p') c', .slice b' (nl q') d'] 26)) w.heap.size s p q ∧
    VarF ((w.alloc (.cells #[.bool s, .slice a (nl p) c, .slice b (nl q) d] 26)).alloc (.cells #[.bool s', .slice a' (nl p') c', .slice b' (nl q') d'] 26)) (w.heap.size + 1) s' p' q' := by
  obtain ⟨a, c, b, d, rfl, hb, hv⟩ := boxF h
  obtain ⟨a', c', b', d', rfl, hb', hv'⟩ := boxF (h'.mono hb)
  rw [World.size_alloc] at hv'
  exact ⟨a, c, b, d, a', c', b', d', rfl, rfl, hb.trans (hb'.mono hb.size), hv.mono hb', hv'⟩
/-- A result variable behind. -/
theorem resF {w : World} : Below w.heap.size w (w.alloc (.cells #[.bool false, .slice none 0 0, .slice none 0 0] 26)) ∧ VarFB (w.alloc (.cells #[.bool false, .slice none 0 0, .slice none 0 0] 26)) w.heap.size false none 0 0 none 0 0 :=
  ⟨bel1 w _, VarFB.made w false none 0 0 none 0 0⟩
theorem run_neB (a b : Bool) (w : World) : (binOp BinOp.neq 4 (.bool a) (.bool b)).run Tryz.prog w = .ok (.bool (a != b)) w := by cases a <;> cases b <;> rfl
def Sp.varF (base : Nat) : Sp := ⟨fun w v => ∃ g, v = .pointer (some ⟨g, 0, none⟩) ∧ base ≤ g ∧ VarFB w g false none 0 0 none 0 0, fun _ _ _ h hb => by obtain ⟨g, h1, h2, h3⟩ := h; exact ⟨g, h1, h2, h3.mono hb h3.lt⟩⟩
theorem Sp.varF_lt {base : Nat} {w : World} {v : Value} (h : (Sp.varF base).p w v) : blk v < w.heap.size := by
  obtain ⟨g, rfl, _, h3⟩ := h; exact h3.lt
theorem run_ext {P : Program} {o : Oper} {a : Act} {x : Operand} {k : Nat} {vs : Array Value} {v : Value} (ho : o.op = .extract x k) (hx : a.eval x = .tuple vs) (hv : vs[k]? = some v) (w : World) : (execOp a.eval o).run P w = .ok (.value v) w := by
  unfold execOp
  rw [ho]
  simp [hx, Instr.extract, hv, Result.andThen]
section
variable {Q : Exit → Act → World → Prop} {o : Oper} {a : Act} {w : World} {x y z : Operand} {m n p q p' q' : Nat} {s s' : Bool} {tt : Array TypeId}
theorem arm_allocF {base : Nat} (ho : o.op = .alloc 26) (hb : base ≤ w.heap.size) : ArmB Tryz.prog Q true o a w (.varF base) := by
  intro K hK
  unfold Oper.wp execOp
  rw [ho]
  go_simp
  exact hK _ _ ⟨_, rfl, hb, VarFB.made w false none 0 0 none 0 0⟩ (bel1 w _) (fun _ => Nat.le_refl _)
theorem arm_fff {f : FuncId} {S : Sp} {R : World → Ending → World → Prop} (ho : o.op = .call { callee := .value (.func f), args := #[x, y, z], argTypes := tt }) (hen : ∀ (vs : Array Value) w, (callFunc f vs).run Tryz.prog w = .ok (.enter f vs) w)
    (hx : Is a w x (.val (.bool s))) (hy : Is a w y (.nat m)) (hz : Is a w z (.nat n)) (hc : ∀ vb vc w, IsN w vb m → IsN w vc n → Calls Tryz.prog f #[.bool s, vb, vc] w (R w)) (hR : ∀ e w', R w e w' → ∃ v, e = .returned v ∧ S.p w' v ∧ Below w.heap.size w w') : Arm Tryz.prog Q o a w S := by
  refine arm_call ho hen (R := R w) ?_ hR
  have hx' : a.eval x = .bool s := hx
  have := hc (a.eval y) (a.eval z) w hy hz
  simpa [hx'] using this
theorem arm_lowest (ho : o.op = .call { callee := .value (.func 52), args := #[x, y, z], argTypes := tt }) (hx : Is a w x (.val (.bool s))) (hy : Is a w y (.nat m)) (hz : Is a w z (.nat n)) (hm : nl m ≤ 10000000000) (hn : nl n ≤ 10000000000) (h0 : n ≠ 0)
    {S : Bool} {P R : Nat} (hS : lowS s m = S) (hP : m / Nat.gcd m n = P) (hR : n / Nat.gcd m n = R) : Arm Tryz.prog Q o a w (.fr S P R) := by
  subst hS; subst hP; subst hR
  exact arm_fff ho (enters Tryz.func52 rfl rfl) hx hy hz (R := fun w => RetF w (lowS s m) (m / Nat.gcd m n) (n / Nat.gcd m n)) (fun vb vc w h1 h2 => c_lowest s vb vc m n w h1 h2 hm hn h0) (fun _ _ h => ofF h)
theorem arm_build0 (ho : o.op = .build 24 #[]) : Arm Tryz.prog Q o a w (.nat 0) := by
  refine arm_run (.agg #[.slice none 0 0]) ?_ (NewN.isN (base := 0) NewN.of_zero)
  unfold execOp
  rw [ho]
  simp only [List.map_toArray, List.map_nil]
  go_simp
end
end Go.Proofs.YtfhinmdhjlmikaaGreatDoor
