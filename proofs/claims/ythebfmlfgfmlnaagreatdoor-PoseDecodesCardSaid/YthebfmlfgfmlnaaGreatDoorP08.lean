/- An executor: regions, code, functions. An executor: operations one after the other; rows that grow. An executor: code and functions. An executor: functions. -/
import Derived.Test.YthebfmlfgfmlnaaGreatDoorP07
namespace Go.Proofs.YthebfmlfgfmlnaaGreatDoor
set_option linter.unusedSimpArgs false
set_option linter.unusedVariables false
set_option maxRecDepth 100000
open Go.RowKit
def predsM (o : Oper) : List Nat := (o.after.toList.filter (Region.binds .any)).map (·.on)
def regGo (p : Program) (C : List Inst) (L : List OIns) (nt : Nat) (ops : Array Oper) (b : Nat → Option AV) : List Oper → Nat → List Nat → List (TypeId × Nat) → Effs → Option (Effs × List (TypeId × Nat))
  | [], _, _, vts, effs => some (effs, vts)
  | o :: r, j, ancs, vts, effs =>
    if (predsM o).all (fun k => decide (k < j)) then
      match effG p C L nt ops (lkE b effs) vts o with
      | some (e, new) => if okAdd ((predsM o).foldl (fun m k => m ||| (ancs.getD k 0 ||| 1 <<< k)) 0) effs e then
          regGo p C L nt ops b r (j + 1) (ancs ++ [(predsM o).foldl (fun m k => m ||| (ancs.getD k 0 ||| 1 <<< k)) 0]) (vts ++ new) ((j, e) :: effs) else none
      | none => none
    else none
/-- What is known of slots and variables. -/
structure MS where
  slots : List (Option AV)
  vars : List (TypeId × List (Option Leaf))
def msGet (s : MS) (x : Nat) : Option AV :=
  if x < 100000 then (match s.slots[x]? with | some c => c | none => none) else
  match s.vars[x / 100000 - 1]? with
  | some v => (match v.2[x % 100000]? with | some (some l) => some (.v (.one l)) | _ => none)
  | none => none
def leafA : AV → Option Leaf
  | .v (.one l) => some l
  | _ => none
def setC : List (TypeId × List (Option Leaf)) → Nat → Nat → Option Leaf → List (TypeId × List (Option Leaf))
  | [], _, _, _ => []
  | v :: r, 0, k, l => (v.1, v.2.set k l) :: r
  | v :: r, i + 1, k, l => v :: setC r i k l
def msSet (s : MS) (q : Nat × AV) : MS :=
  if q.1 < 100000 then { s with slots := s.slots.set q.1 (some q.2) } else { s with vars := setC s.vars (q.1 / 100000 - 1) (q.1 % 100000) (leafA q.2) }
def msWr (s : MS) : List (Nat × AV) → MS
  | [] => s
  | q :: r => msSet (msWr s r) q
def commit (s : MS) : Effs → MS
  | [] => s
  | (_, e) :: r => msWr (commit s r) e.wr
def vtOf (s : MS) : List (TypeId × Nat) := s.vars.map fun x => (x.1, x.2.length)
def msExt (s : MS) (new : List (TypeId × Nat)) : MS := { s with vars := s.vars ++ new.map fun x => (x.1, List.replicate x.2 none) }
def regX (p : Program) (C : List Inst) (L : List OIns) (nt : Nat) (ops : Array Oper) (s : MS) : Option MS :=
  match regGo p C L nt ops (msGet s) ops.toList 0 [] (vtOf s) [] with
  | some (effs, vts) => some (commit (msExt s (vts.drop s.vars.length)) effs)
  | none => none
section
variable {p : Program} {ρ : Rho} {B : Blk} {a : Act} {w w0 : World} {C : List Inst} {L : List OIns} {nt : Nat} {Q : Exit → Act → World → Prop} {o : Oper} {ops : Array Oper} {b : Nat → Option AV}
theorem regGo_pre : ∀ {l : List Oper} {j : Nat} {ancs : List Nat} {vts vts' : List (TypeId × Nat)} {effs effs' : Effs}, regGo p C L nt ops b l j ancs vts effs = some (effs', vts') → ∃ rest, vts' = vts ++ rest
  | [], _, _, vts, vts', _, _, h => by simp [regGo] at h; exact ⟨[], by rw [h.2]; simp⟩
  | o :: r, j, ancs, vts, vts', effs, effs', h => by
    simp only [regGo] at h
    split at h
    · split at h
      · rename_i e new _
        split at h
        · obtain ⟨rest, hr⟩ := regGo_pre h
          exact ⟨new ++ rest, by rw [hr, List.append_assoc]⟩
        · cases h
      · cases h
    · cases h
theorem effO_al {lk : Nat → Option AV} {vts new : List (TypeId × Nat)} {e : Eff} (h : effO p C L nt lk vts o = some (e, new)) : ∀ v, e.al = some v → v = vts.length ∧ new.length = 1 ∧ vts.length < OW := by
  unfold effO at h
  split at h
  · cases h
  · dsimp only at h
    have hpv : ∀ {h : (match pureA p L lk o.op with | some (c, rd) => some (Eff.mk (rdOs o.op ++ rd) (wrD o.dst c) none, ([] : List (TypeId × Nat))) | none => none) = some (e, new)}, ∀ v, e.al = some v → v = vts.length ∧ new.length = 1 ∧ vts.length < OW := by
      intro h
      split at h
      · simp at h; obtain ⟨rfl, rfl⟩ := h
        intro v hv; cases hv
      · cases h
    split at h
    · split at h
      · split at h
        · rename_i hc
          simp at h; obtain ⟨rfl, rfl⟩ := h
          intro v hv; injection hv with hv; exact ⟨hv.symm, rfl, hc.2.2⟩
        · cases h
      · cases h
    · split at h
      · split at h
        · rename_i hc
          simp at h; obtain ⟨rfl, rfl⟩ := h
          intro v hv; injection hv with hv; exact ⟨hv.symm, rfl, hc.2.2⟩
        · cases h
      · cases h
    · split at h
      · split at h
        · split at h
          · simp at h; obtain ⟨rfl, rfl⟩ := h
            intro v hv; cases hv
          · cases h
        · cases h
      · cases h
    · split at h
      · split at h
        · rename_i f xs _ _
          cases hr : findC C f xs with
          | none => rw [hr] at h; cases h
          | some r => rw [hr] at h; simp at h; obtain ⟨rfl, rfl⟩ := h; intro v hv; cases hv
        · cases h
      · exact hpv (h := h)
    · rename_i t n parts ho
      split at h
      · rename_i d xs hdd hxs
        cases hr : findO L (.bs t n (parts.toList.map (·.1))) xs with
        | none => rw [hr] at h; cases h
        | some r => rw [hr] at h; simp only [Option.map_some, Option.some.injEq, Prod.mk.injEq] at h; obtain ⟨rfl, rfl⟩ := h; intro v hv; cases hv
      · cases h
    · exact hpv (h := h)
theorem effG_al {lk : Nat → Option AV} {vts new : List (TypeId × Nat)} {e : Eff} (h : effG p C L nt ops lk vts o = some (e, new)) : ∀ v, e.al = some v → v = vts.length ∧ new.length = 1 ∧ vts.length < OW := by
  unfold effG at h
  split at h
  · exact effO_al h
  · split at h
    · split at h
      · split at h
        · cases he : effO p C L nt lk vts o with
          | none => rw [he] at h; cases h
          | some q =>
            rw [he] at h
            obtain ⟨e0, new0⟩ := q
            simp at h
            obtain ⟨rfl, rfl⟩ := h
            intro v hv
            exact effO_al he v hv
        · split at h
          · simp at h; obtain ⟨rfl, rfl⟩ := h; intro v hv; cases hv
          · cases h
      · split at h
        · simp at h; obtain ⟨rfl, rfl⟩ := h; intro v hv; cases hv
        · cases h
      · cases h
    · cases h
theorem foldl_bits {f : Nat → Nat} : ∀ {l : List Nat} {m0 i : Nat}, (l.foldl (fun m k => m ||| (f k ||| 1 <<< k)) m0).testBit i = true → m0.testBit i = true ∨ ∃ k ∈ l, (f k).testBit i = true ∨ i = k
  | [], _, _, h => .inl h
  | k :: l, m0, i, h => by
    rcases foldl_bits (l := l) h with h | ⟨k', h1, h2⟩
    · simp only [Nat.testBit_or, Bool.or_eq_true] at h
      rcases h with h | h | h
      · exact .inl h
      · exact .inr ⟨k, by simp, .inl h⟩
      · rw [Nat.one_shiftLeft, Nat.testBit_two_pow] at h
        have h' : k = i := by simpa using h
        exact .inr ⟨k, by simp, .inr h'.symm⟩
    · exact .inr ⟨k', List.mem_cons_of_mem _ h1, h2⟩
theorem preds_at {j : Nat} (h : ops[j]? = some o) : preds .any ops j = predsM o := by unfold preds predsM; rw [h]
theorem regGo_good (hC : ∀ i ∈ C, i.Ok0 p ρ w0) (hO : ∀ i ∈ L, i.Ok p ρ) {nb : Nat} : ∀ {l : List Oper} {j : Nat} {ancs : List Nat} {vts vts' : List (TypeId × Nat)} {effs effs' : Effs}, regGo p C L nt ops b l j ancs vts effs = some (effs', vts') →
    l = ops.toList.drop j → j ≤ ops.size → effs.length = j → ancs.length = j → (∀ k, k < j → AncOk .any ops (ancs.getD k 0) k) → (∀ k, k < j → ∀ i ∈ preds .any ops k, i < k) → nb ≤ vts.length → (∀ q ∈ effs, ∀ v, q.2.al = some v → v < vts.length) →
    Good p ρ vts' w0 nt .any ops Q b nb effs → Good p ρ vts' w0 nt .any ops Q b nb effs' ∧ effs'.length = ops.size ∧ (∀ k, k < ops.size → ∀ i ∈ preds .any ops k, i < k) ∧ (∀ q ∈ effs', ∀ v, q.2.al = some v → v < vts'.length)
  | [], j, ancs, vts, vts', effs, effs', h, hl, hj, he, _, _, hd, _, hal, hg => by
    simp [regGo] at h
    obtain ⟨rfl, rfl⟩ := h
    have : ops.size ≤ j := by
      have := congrArg List.length hl
      simp at this; omega
    have hje : j = ops.size := by omega
    exact ⟨hg, by rw [he, hje], by rw [← hje]; exact hd, hal⟩
  | o :: r, j, ancs, vts, vts', effs, effs', h, hl, hj, he, hna, ha, hd, hnb, hal, hg => by
    have hjl : j < ops.size := by
      have := congrArg List.length hl
      simp at this; omega
    have hoj : ops[j]? = some o := by
      have := congrArg (fun x => x[0]?) hl
      simp only [List.getElem?_cons_zero, List.getElem?_drop, Nat.add_zero, Array.getElem?_toList] at this
      exact this.symm
    have hr : r = ops.toList.drop (j + 1) := by
      have := congrArg List.tail hl
      simpa using this
    simp only [regGo] at h
    split at h
    · rename_i hpr
      have hpr' : ∀ k ∈ predsM o, k < j := fun k hk => by simpa using List.all_eq_true.1 hpr k hk
      split at h
      · rename_i e new heff
        split at h
        · rename_i hok
          obtain ⟨rest, hrest⟩ := regGo_pre h
          have halv := effG_al heff
          have hanc : AncOk .any ops ((predsM o).foldl (fun m k => m ||| (ancs.getD k 0 ||| 1 <<< k)) 0) j := by
            intro i hi T hT hp
            rcases foldl_bits (f := fun k => ancs.getD k 0) hi with h | ⟨k, h1, h2 | h2⟩
            · simp at h
            · have hkT := hp k (by rw [preds_at hoj]; exact h1)
              exact ha k (hpr' k h1) i h2 T hT (fun i' hi' => hT k hkT i' hi')
            · rw [h2]; exact hp k (by rw [preds_at hoj]; exact h1)
          refine regGo_good hC hO h hr (by omega) (by simp [he]) (by simp [hna]) (fun k hk => ?_) (fun k hk i hi => ?_) (by simp; omega) (fun q hq v hv => ?_) ⟨he.symm, ?_, ⟨_, hanc, hok⟩, fun v hv => ?_, hg⟩
          · by_cases hkj : k < j
            · have := ha k hkj
              rwa [List.getD_eq_getElem?_getD, List.getElem?_append_left (by omega), ← List.getD_eq_getElem?_getD]
            · obtain rfl : k = j := by omega
              rw [List.getD_eq_getElem?_getD, List.getElem?_append_right (by omega)]
              simpa [hna] using hanc
          · by_cases hkj : k < j
            · exact hd k hkj i hi
            · obtain rfl : k = j := by omega
              rw [preds_at hoj] at hi; exact hpr' i hi
          · rcases List.mem_cons.1 hq with rfl | hq
            · have := halv v hv
              simp; omega
            · have := hal q hq v hv
              simp; omega
          · exact effG_ok hC hO hoj heff (by rw [hrest, List.append_assoc])
          · have := halv v hv
            exact ⟨⟨by omega, by omega⟩, fun q hq hqv => by have := hal q hq v hqv; omega⟩
        · cases h
      · cases h
    · cases h
/-- What is known holds. -/
def MSt (ρ : Rho) (w0 : World) (nt : Nat) (s : MS) (a : Act) (w : World) : Prop :=
  ∃ B, Inv (vtOf s) w0 nt B a w ∧ (∀ x c, msGet s x = some c → LocH ρ B a w x c) ∧ ∀ v, v < OW → B v ≠ none → v < s.vars.length
theorem setC_get : ∀ {vs : List (TypeId × List (Option Leaf))} {i k : Nat} {l : Option Leaf} {i' : Nat}, (setC vs i k l)[i']? = if i' = i then (vs[i]?).map (fun v => (v.1, v.2.set k l)) else vs[i']?
  | [], i, k, l, i' => by simp [setC]
  | v :: r, 0, k, l, 0 => by simp [setC]
  | v :: r, 0, k, l, i' + 1 => by simp [setC]
  | v :: r, i + 1, k, l, 0 => by simp [setC]
  | v :: r, i + 1, k, l, i' + 1 => by
    simp only [setC, List.getElem?_cons_succ, setC_get (vs := r), Nat.add_right_cancel_iff]
theorem setC_map : ∀ {vs : List (TypeId × List (Option Leaf))} {i k : Nat} {l : Option Leaf}, (setC vs i k l).map (fun x => (x.1, x.2.length)) = vs.map (fun x => (x.1, x.2.length))
  | [], _, _, _ => rfl
  | v :: r, 0, k, l => by simp [setC]
  | v :: r, i + 1, k, l => by simp [setC, setC_map (vs := r)]
theorem msSet_get {s : MS} {q : Nat × AV} {x : Nat} {c : AV} (h : msGet (msSet s q) x = some c) : (x = q.1 ∧ c = q.2) ∨ (x ≠ q.1 ∧ msGet s x = some c) := by
  unfold msSet at h
  split at h
  · rename_i hq
    unfold msGet at h ⊢
    simp only at h ⊢
    split at h
    · rename_i hx
      rw [if_pos hx]
      by_cases e : x = q.1
      · subst e
        rw [List.getElem?_set_self'] at h
        cases hs : s.slots[q.1]? with
        | none => rw [hs] at h; simp at h
        | some y => rw [hs] at h; simp at h; exact .inl ⟨rfl, h.symm⟩
      · rw [List.getElem?_set_ne (fun h => e h.symm)] at h
        exact .inr ⟨e, h⟩
    · rename_i hx
      rw [if_neg hx]
      exact .inr ⟨fun e => hx (by rw [e]; exact hq), h⟩
  · rename_i hq
    unfold msGet at h ⊢
    simp only at h ⊢
    split at h
    · rename_i hx
      rw [if_pos hx]
      exact .inr ⟨fun e => hq (by rw [← e]; exact hx), h⟩
    · rename_i hx
      rw [if_neg hx]
      rw [setC_get] at h
      by_cases e : x / 100000 - 1 = q.1 / 100000 - 1
      · rw [if_pos e] at h
        cases hv : s.vars[q.1 / 100000 - 1]? with
        | none => rw [hv] at h; simp at h
        | some v =>
          rw [hv] at h
          simp only [Option.map_some] at h
          by_cases e2 : x % 100000 = q.1 % 100000
          · have hxq : x = q.1 := by
              have h1 := Nat.div_add_mod x 100000
              have h2 := Nat.div_add_mod q.1 100000
              omega
            rw [e2] at h
            cases hs : v.2[q.1 % 100000]? with
            | none => rw [List.getElem?_set_self', hs] at h; simp at h
            | some y =>
              rw [List.getElem?_set_self (List.getElem?_eq_some_iff.1 hs).1] at h
              cases hl : leafA q.2 with
              | none => rw [hl] at h; simp at h
              | some l =>
                rw [hl] at h; simp at h
                refine .inl ⟨hxq, ?_⟩
                unfold leafA at hl
                split at hl
                · rename_i l' hq2
                  injection hl with hl; subst hl
                  rw [hq2]; exact h.symm
                · cases hl
          · rw [List.getElem?_set_ne (fun h => e2 h.symm)] at h
            refine .inr ⟨fun e' => e2 (by rw [e']), ?_⟩
            rw [e, hv]; exact h
      · rw [if_neg e] at h
        exact .inr ⟨fun e' => e (by rw [e']), h⟩
theorem msWr_get {s : MS} {x : Nat} {c : AV} : ∀ {l : List (Nat × AV)}, msGet (msWr s l) x = some c → (match l.find? (fun q => q.1 == x) with | some q => some q.2 | none => msGet s x) = some c
  | [], h => h
  | q :: l, h => by
    rcases msSet_get (s := msWr s l) h with ⟨e1, e2⟩ | ⟨h1, h2⟩
    · rw [List.find?_cons_of_pos (by simpa using e1.symm), e2]
    · rw [List.find?_cons_of_neg (by simpa using fun e => h1 e.symm)]
      exact msWr_get h2
theorem commit_get {s : MS} {x : Nat} {c : AV} : ∀ {r : Effs}, msGet (commit s r) x = some c → lkE (msGet s) r x = some c
  | [], h => h
  | (_, e) :: r, h => by
    have h1 := msWr_get (s := commit s r) h
    simp only [lkE]
    split at h1
    · rename_i q hq; rw [hq]; exact h1
    · rename_i hq; rw [hq]; exact commit_get h1
theorem lkE_mono {b b' : Nat → Option AV} (h : ∀ x c, b x = some c → b' x = some c) : ∀ {r : Effs} {x : Nat} {c : AV}, lkE b r x = some c → lkE b' r x = some c
  | [], x, c, e => h x c e
  | (_, e) :: r, x, c, he => by
    simp only [lkE] at he ⊢
    split at he
    · exact he
    · exact lkE_mono h he
theorem msExt_get {s : MS} {new : List (TypeId × Nat)} {x : Nat} {c : AV} (h : msGet (msExt s new) x = some c) : msGet s x = some c := by
  unfold msGet msExt at *
  simp only at *
  split at h
  · rename_i hx; rw [if_pos hx]; exact h
  · rename_i hx
    rw [if_neg hx]
    by_cases hv : x / 100000 - 1 < s.vars.length
    · rw [List.getElem?_append_left hv] at h; exact h
    · rw [List.getElem?_append_right (by omega)] at h
      exfalso
      split at h
      · rename_i v hv2
        rw [List.getElem?_map] at hv2
        cases hn : new[x / 100000 - 1 - s.vars.length]? with
        | none => rw [hn] at hv2; cases hv2
        | some y =>
          rw [hn] at hv2; simp at hv2; subst hv2
          split at h
          · rename_i l hl
            simp only [List.getElem?_replicate] at hl
            split at hl <;> cases hl
          · cases h
      · cases h
theorem msSet_vt {s : MS} {q : Nat × AV} : vtOf (msSet s q) = vtOf s := by
  unfold msSet
  split
  · rfl
  · exact setC_map
theorem msWr_vt {s : MS} : ∀ {l : List (Nat × AV)}, vtOf (msWr s l) = vtOf s
  | [] => rfl
  | q :: l => by show vtOf (msSet (msWr s l) q) = _; rw [msSet_vt, msWr_vt]
theorem commit_vt {s : MS} : ∀ {r : Effs}, vtOf (commit s r) = vtOf s
  | [] => rfl
  | (_, e) :: r => by show vtOf (msWr (commit s r) e.wr) = _; rw [msWr_vt, commit_vt]
theorem vtOf_len {s : MS} : (vtOf s).length = s.vars.length := by simp [vtOf]
theorem vtOf_ext {s : MS} {new : List (TypeId × Nat)} : vtOf (msExt s new) = vtOf s ++ new := by
  have : ∀ l : List (TypeId × Nat), (l.map fun x => (x.1, List.replicate x.2 (none : Option Leaf))).map (fun x => (x.1, x.2.length)) = l := fun l => by
    induction l with
    | nil => rfl
    | cons x l ih => simp only [List.map_cons, ih, List.length_replicate]
  simp only [vtOf, msExt, List.map_append, this]
theorem Inv.ext {vt : List (TypeId × Nat)} (h : Inv vt w0 nt B a w) (new : List (TypeId × Nat)) : Inv (vt ++ new) w0 nt B a w :=
  ⟨fun v g hl hv => by
    obtain ⟨h1, cs, ty, h2, h3⟩ := h.blk v g hl hv
    exact ⟨h1, cs, ty, by rw [List.getElem?_append_left (List.getElem?_eq_some_iff.1 h2).1]; exact h2, h3⟩, h.own, h.inj, h.below, h.size, h.dfr⟩
theorem regX_sound (hC : ∀ i ∈ C, i.Ok0 p ρ w0) (hO : ∀ i ∈ L, i.Ok p ρ) (hm : p.follows .mixedOrders = true) {s s' : MS} {id : Nat} {draw : Bool} (h : regX p C L nt ops s = some s') (hs : MSt ρ w0 nt s a w)
    (hQ : ∀ a' w', MSt ρ w0 nt s' a' w' → Q .normal a' w') : (Code.region id ops draw).wp p Q a w := by
  unfold regX at h
  split at h
  · rename_i effs vts he
    simp at h; subst h
    obtain ⟨rest, hrest⟩ := regGo_pre he
    obtain ⟨hg, hlen, hdown, hal⟩ := regGo_good (ρ := ρ) (w0 := w0) (Q := Q) (nb := s.vars.length) hC hO he (by simp) (by omega) rfl rfl (fun k hk => by omega) (fun k hk => by omega) (by rw [vtOf_len]; omega) (fun q hq => by cases hq) trivial
    obtain ⟨B, hi, hv, hB⟩ := hs
    have hnew : vts.drop s.vars.length = rest := by rw [hrest, ← vtOf_len, List.drop_left]
    have start : ∀ w1, Below w.heap.size w w1 → StT ρ vts w0 nt (msGet s) s.vars.length effs [] a w1 := fun w1 hb => by
      refine StT.start (B := B) ?_ (fun x c hx => (hv x c hx).below BLe.refl .refl hb (fun _ => rfl)) hB
      rw [hrest]
      exact (hi.below' hb rfl rfl).ext rest
    have fin : ∀ a' w', StF ρ vts w0 nt (lkE (msGet s) effs) s.vars.length effs a' w' → Q .normal a' w' := fun a' w' ⟨B', h1, h2, h3⟩ => by
      refine hQ a' w' ⟨B', ?_, fun x c hx => h2 x c (lkE_mono (fun x c h => msExt_get h) (commit_get hx)), fun v hvl hv => ?_⟩
      · rw [commit_vt, hnew, vtOf_ext, ← hrest]; exact h1
      · have hl : (commit (msExt s (vts.drop s.vars.length)) effs).vars.length = vts.length := by rw [← vtOf_len, commit_vt, hnew, vtOf_ext, ← hrest]
        rw [hl]
        rcases h3 v hvl hv with h | ⟨q, hq, hqv⟩
        · have : s.vars.length ≤ vts.length := by rw [hrest, List.length_append, vtOf_len]; omega
          omega
        · exact hal q hq v hqv
    cases draw with
    | true => exact wp_region_any hm (any_sound hg hlen hdown (start _ (bel_drewN (Below.refl _ _) 1)) fin)
    | false => exact wp_region (text_sound hg hlen hdown (start _ (Below.refl _ _)) fin)
  · cases h
end
end Go.Proofs.YthebfmlfgfmlnaaGreatDoor
namespace Go.Proofs.YthebfmlfgfmlnaaGreatDoor
set_option linter.unusedSimpArgs false
set_option linter.unusedVariables false
set_option maxRecDepth 100000
open Go.RowKit
def Leaf.has (i : Nat) : Leaf → Bool
  | .own k _ => k == i
  | .ptr x _ => x == OW + i
  | _ => false
def SV.has (i : Nat) : SV → Bool
  | .one l => l.has i
  | .agg ls => ls.any (·.has i)
def AV.has (i : Nat) : AV → Bool
  | .v s => s.has i
  | .tup xs => xs.any (·.has i)
  | .any => false
def killA (i : Nat) : Option AV → Option AV
  | some c => if c.has i then none else some c
  | none => none
def killL (i : Nat) : Option Leaf → Option Leaf
  | some l => if l.has i then none else some l
  | none => none
/-- What is known without the row i. -/
def killS (i : Nat) (s : MS) : MS := ⟨s.slots.map (killA i), s.vars.map fun v => (v.1, v.2.map (killL i))⟩
def sameOwn (i : Nat) : Leaf → Bool
  | .sl0 => true
  | .own k _ => k == i
  | _ => false
/-- An append to a row that the call itself made. -/
def appS (L : List OIns) (nt : Nat) (s : MS) (o : Oper) : Option MS :=
  match o.guard, o.op, o.dst with
  | none, .call k, some d => match k.callee, k.args.toList, k.argTypes.toList with
    | .builtin .append, [x, y], [t, t'] => match evL (msGet s) x, evL (msGet s) y with
      | some lx, some ly => if t = t' ∧ okD nt (some d) = true ∧ s.vars.length < OW then match findO L (.app t) [.one lx, .one ly] with
          | some (.one (.own i m)) => if sameOwn i lx then some (msSet (killS i s) (d, .v (.one (.own i m)))) else none
          | _ => none
        else none
      | _, _ => none
    | _, _, _ => none
  | _, _, _ => none
def stepS (p : Program) (C : List Inst) (L : List OIns) (nt : Nat) (ops : Array Oper) (s : MS) (j : Nat) : Option MS :=
  match ops[j]? with
  | none => none
  | some o => match appS L nt s o with
    | some s1 => some s1
    | none => match effG p C L nt ops (msGet s) (vtOf s) o with
      | some (e, new) => some (commit (msExt s new) [(j, e)])
      | none => none
def seqX (p : Program) (C : List Inst) (L : List OIns) (nt : Nat) (ops : Array Oper) : List Nat → MS → Option MS
  | [], s => some s
  | j :: js, s => match stepS p C L nt ops s j with
    | some s1 => seqX p C L nt ops js s1
    | none => none
section
variable {p : Program} {ρ : Rho} {B B' : Blk} {a a' : Act} {w w' w0 : World} {C : List Inst} {L : List OIns} {nt i : Nat} {Q : Exit → Act → World → Prop} {o : Oper} {ops : Array Oper} {v : Value} {vt : List (TypeId × Nat)} {X : Option Nat}
/-- The row i lies elsewhere now; its old block may have changed. -/
structure Reb (B B' : Blk) (i : Nat) (w w' : World) (X : Option Nat) : Prop where
  same : ∀ x, x ≠ OW + i → B' x = B x
  new : ∀ g, B' (OW + i) = some g → X = some g ∨ w.heap.size ≤ g
  old : ∀ g, X = some g → B (OW + i) = some g
  chg : Chg w w' (fun g => X = some g)
theorem Leaf.holds.reb {l : Leaf} (h : l.holds ρ B w v) (hn : l.has i = false) (r : Reb B B' i w w' X) : l.holds ρ B' w' v := by
  cases l <;> simp only [Leaf.holds] at h ⊢ <;> try exact h
  · rename_i x o
    obtain ⟨g, h1, h2⟩ := h
    have hx : x ≠ OW + i := by simpa [Leaf.has] using hn
    exact ⟨g, by rw [r.same x hx]; exact h1, h2⟩
  · obtain ⟨s, h1, h2, h3⟩ := h
    refine ⟨s, h1, s.ch _ _ _ _ h2 r.chg (fun g hg hX => h3 g hg _ (r.old g hX)), fun g hg x hx => ?_⟩
    by_cases e : x = OW + i
    · subst e
      rcases r.new g hx with h | h
      · exact h3 g hg _ (r.old g h)
      · have := s.lt _ _ _ h2 hg; omega
    · rw [r.same x e] at hx; exact h3 g hg x hx
  · rename_i k m
    obtain ⟨s, h1, h2, h3, h4⟩ := h
    have hk : k ≠ i := by simpa [Leaf.has] using hn
    refine ⟨s, h1, s.ch _ _ _ _ h2 r.chg (fun g hg hX => by have := h3 g hg _ (r.old g hX); omega), fun g hg x hx => ?_, fun g hg => by rw [r.same _ (by omega)]; exact h4 g hg⟩
    by_cases e : x = OW + i
    · subst e
      rcases r.new g hx with h | h
      · exact h3 g hg _ (r.old g h)
      · have := s.lt _ _ _ h2 hg; omega
    · rw [r.same x e] at hx; exact h3 g hg x hx
theorem LeavesH.reb (r : Reb B B' i w w' X) : ∀ {ls : List Leaf} {vs : List Value}, LeavesH ρ B w ls vs → ls.any (·.has i) = false → LeavesH ρ B' w' ls vs
  | [], [], _, _ => trivial
  | _ :: _, _ :: _, h, hn => by
    simp only [List.any_cons, Bool.or_eq_false_iff] at hn
    exact ⟨h.1.reb hn.1 r, LeavesH.reb r h.2 hn.2⟩
  | [], _ :: _, h, _ => h.elim
  | _ :: _, [], h, _ => h.elim
theorem SV.holds.reb {s : SV} (h : s.holds ρ B w v) (hn : s.has i = false) (r : Reb B B' i w w' X) : s.holds ρ B' w' v := by
  cases s with
  | one l => exact Leaf.holds.reb h hn r
  | agg ls => obtain ⟨vs, e, h⟩ := h; exact ⟨vs, e, h.reb r hn⟩
theorem SVsH.reb (r : Reb B B' i w w' X) : ∀ {ls : List SV} {vs : List Value}, SVsH ρ B w ls vs → ls.any (·.has i) = false → SVsH ρ B' w' ls vs
  | [], [], _, _ => trivial
  | _ :: _, _ :: _, h, hn => by
    simp only [List.any_cons, Bool.or_eq_false_iff] at hn
    exact ⟨h.1.reb hn.1 r, SVsH.reb r h.2 hn.2⟩
  | [], _ :: _, h, _ => h.elim
  | _ :: _, [], h, _ => h.elim
theorem AV.holds.reb {c : AV} (h : c.holds ρ B w v) (hn : c.has i = false) (r : Reb B B' i w w' X) : c.holds ρ B' w' v := by
  cases c with
  | v s => exact SV.holds.reb h hn r
  | tup xs => obtain ⟨vs, e, h⟩ := h; exact ⟨vs, e, h.reb r hn⟩
  | any => exact h
theorem killA_some {c : Option AV} {d : AV} (h : killA i c = some d) : c = some d ∧ d.has i = false := by
  cases c with
  | none => cases h
  | some c =>
    simp only [killA] at h
    split at h
    · cases h
    · rename_i hn; injection h with h; subst h; exact ⟨rfl, by simpa using hn⟩
theorem killL_some {c : Option Leaf} {d : Leaf} (h : killL i c = some d) : c = some d ∧ d.has i = false := by
  cases c with
  | none => cases h
  | some c =>
    simp only [killL] at h
    split at h
    · cases h
    · rename_i hn; injection h with h; subst h; exact ⟨rfl, by simpa using hn⟩
theorem killS_get {s : MS} {x : Nat} {c : AV} (h : msGet (killS i s) x = some c) : msGet s x = some c ∧ c.has i = false ∧ (x < 100000 ∨ x / 100000 - 1 < s.vars.length) := by
  unfold msGet killS at h
  unfold msGet
  simp only at h
  split at h
  · rename_i hx
    rw [if_pos hx]
    rw [List.getElem?_map] at h
    cases e : s.slots[x]? with
    | none => rw [e] at h; simp at h
    | some d =>
      rw [e] at h
      have h1 : killA i d = some c := by simpa using h
      obtain ⟨h2, h3⟩ := killA_some h1
      exact ⟨by simp [h2], h3, .inl hx⟩
  · rename_i hx
    rw [if_neg hx]
    rw [List.getElem?_map] at h
    cases e : s.vars[x / 100000 - 1]? with
    | none => rw [e] at h; simp at h
    | some d =>
      rw [e] at h
      simp only [Option.map_some, List.getElem?_map] at h
      cases e2 : d.2[x % 100000]? with
      | none => rw [e2] at h; simp at h
      | some l =>
        rw [e2] at h
        simp only [Option.map_some] at h
        cases e3 : killL i l with
        | none => rw [e3] at h; simp at h
        | some l' =>
          rw [e3] at h
          simp only [Option.some.injEq] at h
          obtain ⟨h2, h3⟩ := killL_some e3
          subst h2; subst h
          exact ⟨by simp [e2], h3, .inr (List.getElem?_eq_some_iff.1 e).1⟩
theorem killS_vt {s : MS} : vtOf (killS i s) = vtOf s := by
  unfold vtOf killS
  simp [List.map_map, Function.comp_def]
theorem evL_get {s : MS} {x : Operand} {l : Leaf} (hv : ∀ x c, msGet s x = some c → LocH ρ B a w x c) (h : evL (msGet s) x = some l) : l.holds ρ B w (a.eval x) := evL_k (fun y _ c hc => hv y c hc) h
theorem msSet_slot {s : MS} {d : Nat} {c c' : AV} {x : Nat} (hd : d < 100000) (h : msGet (msSet s (d, c)) x = some c') : (x = d ∧ c' = c) ∨ (x ≠ d ∧ msGet s x = some c') := by
  unfold msSet at h
  rw [if_pos hd] at h
  unfold msGet at h ⊢
  split at h
  · rename_i hx
    rw [if_pos hx]
    rw [List.getElem?_set] at h
    by_cases e : d = x
    · subst e
      rw [if_pos rfl] at h
      by_cases hl : d < s.slots.length
      · rw [if_pos hl] at h
        have h : some c = some c' := h
        exact .inl ⟨rfl, (Option.some.inj h).symm⟩
      · rw [if_neg hl] at h; cases h
    · rw [if_neg e] at h
      exact .inr ⟨fun h => e h.symm, h⟩
  · rename_i hx
    rw [if_neg hx]
    exact .inr ⟨fun e => hx (by omega), h⟩
theorem msSet_vt2 {s : MS} {d : Nat} {c : AV} (hd : d < 100000) : vtOf (msSet s (d, c)) = vtOf s ∧ (msSet s (d, c)).vars = s.vars := by
  unfold msSet; rw [if_pos hd]; exact ⟨rfl, rfl⟩
theorem sameOwn_old {lx : Leaf} {x : Value} (h : sameOwn i lx = true) (hl : lx.holds ρ B w x) : ∀ g, x.ownBlock = some g → B (OW + i) = some g := by
  intro g hg
  cases lx with
  | sl0 =>
    have e : x = .slice none 0 0 := hl
    subst e; cases hg
  | own k m =>
    have : k = i := by simpa [sameOwn] using h
    subst this
    obtain ⟨s, _, _, _, h4⟩ := hl
    exact h4 g hg
  | _ => simp [sameOwn] at h
theorem appS_sound (hO : ∀ i ∈ L, i.Ok p ρ) {s s' : MS} {j : Nat} (ho : ops[j]? = some o) (h : appS L nt s o = some s') (hs : MSt ρ w0 nt s a w) {K : Act → World → Prop} (hK : ∀ a' w', MSt ρ w0 nt s' a' w' → K a' w') : wpOp p ops Q j K a w := by
  unfold appS at h
  split at h
  · rename_i k d hg hop hd
    split at h
    · rename_i x y t t' hcal hargs htt
      split at h
      · rename_i lx ly hx hy
        split at h
        · rename_i hc
          obtain ⟨rfl, hdd, hvl⟩ := hc
          split at h
          · rename_i i m hf
            split at h
            · rename_i hsame
              injection h with h; subst h
              obtain ⟨B, hi, hv, hB⟩ := hs
              have ex := evL_get hv hx
              have ey := evL_get hv hy
              have hold := sameOwn_old hsame ex
              obtain ⟨v, w', hrun, hgrow, hblk, s1, hs1, hp1, hfp1⟩ := (findO_ok hO hf) B w [a.eval x, a.eval y] ⟨ex, ey, trivial⟩ o.type
              simp only [okD, Bool.and_eq_true, decide_eq_true_eq] at hdd
              have hex : (execOp a.eval o).run p w = .ok (.value v) w' := by
                obtain ⟨cal, args, tt⟩ := k
                simp only at hcal hargs htt
                subst hcal
                have ea : args = #[x, y] := by rw [← Array.toList_inj]; exact hargs
                have et : tt = #[t, t] := by rw [← Array.toList_inj]; exact htt
                subst ea; subst et
                unfold execOp
                simp only [hop, resolve, invoke, builtin, Sem.run_bind, Sem.run_pure, Result.andThen_ok, List.map_toArray, List.map_cons, List.map_nil, hrun]
              unfold wpOp
              rw [ho]
              show if Region.wanted o (yielded ops a.tmps) = true then _ else _
              rw [if_pos (by unfold Region.wanted; rw [hg])]
              refine .inl ?_
              unfold Oper.wp
              rw [hex, Oper.upon_value, hd]
              have r : Reb B (fun x => if x = OW + i then v.ownBlock else B x) i w w' (a.eval x).ownBlock := by
                refine ⟨fun x hx => by simp [hx], fun g hg => ?_, hold, ⟨hgrow.size, fun g hg hX => hgrow.block g hg (fun e => hX e.symm), fun g hX => (hi.own _ g (Nat.le_add_right _ _) (hold g hX)).2.2⟩⟩
                simp only [if_true] at hg
                exact (hblk g hg).1
              have hgb : ∀ g, v.ownBlock = some g → w0.heap.size ≤ g := fun g hg => by
                rcases (hblk g hg).1 with h | h
                · exact (hi.own _ g (Nat.le_add_right _ _) (hold g h)).1
                · exact Nat.le_trans hi.below.size h
              have hne : ∀ x g, x ≠ OW + i → B x = some g → v.ownBlock ≠ some g := fun x g hx hBx hg => by
                rcases (hblk g hg).1 with h | h
                · exact hx (hi.inj _ _ _ hBx (hold g h))
                · have := hi.bok x g hBx; omega
              have hsm : ∀ x g, x ≠ OW + i → B x = some g → w'.heap[g]? = w.heap[g]? := fun x g hx hBx => hgrow.block g (hi.bok x g hBx) (fun e => hx (hi.inj _ _ _ hBx (hold g e.symm)))
              refine hK _ w' ⟨fun x => if x = OW + i then v.ownBlock else B x, ⟨fun x g hl hg => ?_, fun x g hl hg => ?_, fun x x' g h1 h2 => ?_, ?_, by rw [put_size, hi.size], by rw [put_dfr, hi.dfr]⟩, fun x c hx => ?_, fun x hl hx => ?_⟩
              · have hne' : x ≠ OW + i := by omega
                simp only [hne', if_false] at hg
                obtain ⟨h1, cs, ty, h2, h3, h4⟩ := hi.blk x g hl hg
                exact ⟨h1, cs, ty, by rw [(msSet_vt2 hdd.2).1, killS_vt]; exact h2, by rw [hsm x g hne' hg]; exact h3, h4⟩
              · by_cases e : x = OW + i
                · subst e
                  simp only [if_true] at hg
                  exact ⟨hgb g hg, (hblk g hg).2.1, (hblk g hg).2.2⟩
                · simp only [e, if_false] at hg
                  obtain ⟨h1, h2, cs, t1, h3, h4⟩ := hi.own x g hl hg
                  exact ⟨h1, Nat.lt_of_lt_of_le h2 hgrow.size, cs, t1, by rw [hsm x g e hg]; exact h3, h4⟩
              · by_cases e : x = OW + i <;> by_cases e' : x' = OW + i
                · rw [e, e']
                · simp only [e, e', if_true, if_false] at h1 h2; exact absurd h1 (hne x' g e' h2)
                · simp only [e, e', if_true, if_false] at h1 h2; exact absurd h2 (hne x g e h1)
                · simp only [e, e', if_false] at h1 h2; exact hi.inj x x' g h1 h2
              · refine hi.below.trans ⟨hgrow.os, hgrow.tape, hgrow.output, hgrow.size, fun g hg => hgrow.block g (Nat.lt_of_lt_of_le hg hi.below.size) (fun e => ?_)⟩
                have := (hi.own _ g (Nat.le_add_right _ _) (hold g e.symm)).1
                omega
              · rcases msSet_slot hdd.2 hx with ⟨rfl, rfl⟩ | ⟨hxd, hx⟩
                · unfold LocH
                  rw [if_pos hdd.2]
                  refine ⟨v, put_eq (by rw [hi.size]; exact hdd.1), s1, hs1, hp1, fun g hg x hx => ?_, fun g hg => by simp [hg]⟩
                  by_cases e : x = OW + i
                  · exact e
                  · simp only [e, if_false] at hx
                    exact absurd (hfp1 g hg) (hne x g e hx)
                · obtain ⟨h1, h2, h3⟩ := killS_get hx
                  have h4 := hv x c h1
                  unfold LocH at h4 ⊢
                  split at h4
                  · rename_i hxs
                    rw [if_pos hxs]
                    obtain ⟨u, k1, k2⟩ := h4
                    exact ⟨u, by rw [put_ne (fun t ht => by injection ht with ht; subst ht; exact fun e => hxd e.symm)]; exact k1, k2.reb h2 r⟩
                  · rename_i hxs
                    rw [if_neg hxs]
                    obtain ⟨g, cs, ty, u, k1, k2, k3, k4⟩ := h4
                    have hidx : x / 100000 - 1 ≠ OW + i := by
                      rcases h3 with h3 | h3
                      · exact absurd h3 hxs
                      · omega
                    exact ⟨g, cs, ty, u, by simp only [hidx, if_false]; exact k1, by rw [hsm _ g hidx k1]; exact k2, k3, k4.reb h2 r⟩
              · have hne' : x ≠ OW + i := by omega
                simp only [hne', if_false] at hx
                have := hB x hl hx
                rw [(msSet_vt2 hdd.2).2]
                simpa [killS] using this
            · cases h
          · cases h
        · cases h
      · cases h
    · cases h
  · cases h
theorem stepS_sound (hC : ∀ i ∈ C, i.Ok0 p ρ w0) (hO : ∀ i ∈ L, i.Ok p ρ) {s s' : MS} {j : Nat} (h : stepS p C L nt ops s j = some s') (hs : MSt ρ w0 nt s a w) {K : Act → World → Prop} (hK : ∀ a' w', MSt ρ w0 nt s' a' w' → K a' w') : wpOp p ops Q j K a w := by
  unfold stepS at h
  split at h
  · cases h
  · rename_i o ho
    split at h
    · rename_i s1 h1
      injection h with h; subst h
      exact appS_sound hO ho h1 hs hK
    · split at h
      · rename_i e new he
        injection h with h; subst h
        obtain ⟨B, hi, hv, hB⟩ := hs
        have hop := effG_ok (ρ := ρ) (w0 := w0) (Q := Q) hC hO ho he (vt := vtOf s ++ (new ++ [])) rfl
        have hal := effG_al he
        refine hop B a w (by rw [List.append_nil]; exact hi.ext new) (fun x _ c hc => hv x c hc) (fun v hv' => ?_) K (fun B' a' w' hp => hK a' w' ⟨B', ?_, fun x c hx => ?_, fun v hl hv' => ?_⟩)
        · cases hb : B v with
          | none => rfl
          | some g =>
            have h1 := hal v hv'
            have h2 := hB v (by rw [h1.1]; exact h1.2.2) (by rw [hb]; simp)
            rw [h1.1, vtOf_len] at h2; omega
        · rw [commit_vt, vtOf_ext]
          have := hp.inv
          rwa [List.append_nil] at this
        · have h1 := lkE_mono (fun x c h => msExt_get h) (commit_get hx)
          simp only [lkE] at h1
          cases hf : e.wr.find? (fun q => q.1 == x) with
          | some q =>
            rw [hf] at h1
            have h2 := List.find?_some hf
            have h3 := List.mem_of_find?_eq_some hf
            simp only [beq_iff_eq] at h2
            have h4 := hp.wr q h3
            simp only [Option.some.injEq] at h1
            rw [h2, h1] at h4
            exact h4
          | none =>
            rw [hf] at h1
            exact hp.keep x c (hv x c h1) (fun q hq e => by have := List.find?_eq_none.1 hf q hq; simp [e] at this)
        · have hl2 : (commit (msExt s new) [(j, e)]).vars.length = s.vars.length + new.length := by
            rw [← vtOf_len, commit_vt, vtOf_ext, List.length_append, vtOf_len]
          rw [hl2]
          cases hb : B v with
          | some g => have := hB v hl (by rw [hb]; simp); omega
          | none =>
            have h1 := hal v (hp.new v hb hv')
            rw [h1.1, vtOf_len]; omega
      · cases h
theorem seqX_sound (hC : ∀ i ∈ C, i.Ok0 p ρ w0) (hO : ∀ i ∈ L, i.Ok p ρ) : ∀ {js : List Nat} {s s' : MS} {a : Act} {w : World}, seqX p C L nt ops js s = some s' → MSt ρ w0 nt s a w → (∀ a' w', MSt ρ w0 nt s' a' w' → Q .normal a' w') → wpOps p ops Q js a w
  | [], s, s', a, w, h, hs, hQ => by
    simp only [seqX, Option.some.injEq] at h; subst h
    simp only [wpOps]
    exact hQ a w hs
  | j :: js, s, s', a, w, h, hs, hQ => by
    simp only [seqX] at h
    split at h
    · rename_i s1 h1
      rw [wpOps_cons]
      exact stepS_sound hC hO h1 hs (fun a' w' hs' => seqX_sound hC hO h hs' hQ)
    · cases h
/-- A row that grows no more. -/
def frzL (i n n' : Nat) (l : Leaf) : Option Leaf := match l with
  | .own k m => if k = i then (if m = n then some (.ref n') else none) else some l
  | .ptr x _ => if x = OW + i then none else some l
  | _ => some l
def frzA (i n n' : Nat) : Option AV → Option AV
  | some (.v (.one l)) => (frzL i n n' l).map fun l => .v (.one l)
  | some c => if c.has i then none else some c
  | none => none
def frz1 (i n n' : Nat) (s : MS) : MS := ⟨s.slots.map (frzA i n n'), s.vars.map fun v => (v.1, v.2.map (killL i))⟩
def frzS (L : List OIns) (id : Nat) (s : MS) : MS := L.foldl (fun s o => match o.key, o.xs, o.r with
  | .frz r i, [.one (.ref n)], .one (.ref n') => if r = id ∧ s.vars.length < OW then frz1 i n n' s else s
  | _, _, _ => s) s
theorem frz1_sound {n n' rid : Nat} {s : MS} (hr : (OIns.mk (.frz rid i) [.one (.ref n)] (.one (.ref n'))).Ok p ρ) (hvl : s.vars.length < OW) (hs : MSt ρ w0 nt s a w) : MSt ρ w0 nt (frz1 i n n' s) a w := by
  obtain ⟨B, hi, hv, hB⟩ := hs
  have r : Reb B (fun x => if x = OW + i then none else B x) i w w none := ⟨fun x hx => by simp [hx], fun g hg => (by simp at hg), fun g h => (by cases h), ⟨Nat.le_refl _, fun _ _ _ => rfl, fun _ h => (by cases h)⟩⟩
  have vte : vtOf (frz1 i n n' s) = vtOf s := by unfold vtOf frz1; simp [List.map_map, Function.comp_def]
  refine ⟨fun x => if x = OW + i then none else B x, ⟨fun x g hl hg => ?_, fun x g hl hg => ?_, fun x x' g h1 h2 => ?_, hi.below, hi.size, hi.dfr⟩, fun x c hx => ?_, fun x hl hx => ?_⟩
  · have hne : x ≠ OW + i := by omega
    simp only [hne, if_false] at hg
    rw [vte]; exact hi.blk x g hl hg
  · by_cases e : x = OW + i
    · simp [e] at hg
    · simp only [e, if_false] at hg; exact hi.own x g hl hg
  · by_cases e : x = OW + i
    · simp [e] at h1
    · by_cases e' : x' = OW + i
      · simp [e'] at h2
      · simp only [e, e', if_false] at h1 h2; exact hi.inj x x' g h1 h2
  · unfold msGet frz1 at hx
    simp only at hx
    split at hx
    · rename_i hxs
      rw [List.getElem?_map] at hx
      cases e : s.slots[x]? with
      | none => rw [e] at hx; simp at hx
      | some d =>
        rw [e] at hx
        have h1 : frzA i n n' d = some c := by simpa using hx
        cases d with
        | none => cases h1
        | some d =>
          have h2 := hv x d (by unfold msGet; rw [if_pos hxs, e])
          unfold LocH at h2 ⊢
          rw [if_pos hxs] at h2 ⊢
          obtain ⟨u, k1, k2⟩ := h2
          refine ⟨u, k1, ?_⟩
          have other : (if d.has i then none else some d) = some c → c.holds ρ (fun x => if x = OW + i then none else B x) w u := fun h => by
            split at h
            · cases h
            · rename_i hn; injection h with h; subst h
              exact k2.reb (by simpa using hn) r
          cases d with
          | v sv =>
            cases sv with
            | one l =>
              simp only [frzA] at h1
              cases hf : frzL i n n' l with
              | none => rw [hf] at h1; cases h1
              | some l' =>
                rw [hf] at h1
                simp only [Option.map_some, Option.some.injEq] at h1
                subst h1
                cases l with
                | own k m =>
                  simp only [frzL] at hf
                  split at hf
                  · rename_i hk
                    subst hk
                    split at hf
                    · rename_i hm
                      subst hm
                      injection hf with hf; subst hf
                      obtain ⟨q, q1, q2, q3, q4⟩ := k2
                      have h5 : (Leaf.ref m).holds ρ (fun x => if x = OW + k then none else B x) w u := ⟨q, q1, q2, fun g hg x hx => by
                        by_cases e : x = OW + k
                        · simp [e] at hx
                        · simp only [e, if_false] at hx; exact e (q3 g hg x hx)⟩
                      exact hr _ w [u] ⟨h5, trivial⟩
                    · cases hf
                  · rename_i hk
                    injection hf with hf; subst hf
                    exact AV.holds.reb (c := .v (.one (.own k m))) k2 (by simpa [AV.has, SV.has, Leaf.has] using hk) r
                | ptr y o =>
                  simp only [frzL] at hf
                  split at hf
                  · cases hf
                  · rename_i hy
                    injection hf with hf; subst hf
                    exact AV.holds.reb (c := .v (.one (.ptr y o))) k2 (by simpa [AV.has, SV.has, Leaf.has] using hy) r
                | _ =>
                  simp only [frzL, Option.some.injEq] at hf
                  subst hf
                  exact AV.holds.reb k2 (by rfl) r
            | agg ls => exact other h1
          | tup xs => exact other h1
          | any => exact other h1
    · rename_i hxs
      have hk : msGet (killS i s) x = some c := by
        unfold msGet killS
        rw [if_neg hxs]
        exact hx
      obtain ⟨h1, h2, h3⟩ := killS_get hk
      have h4 := hv x c h1
      unfold LocH at h4 ⊢
      rw [if_neg hxs] at h4 ⊢
      obtain ⟨g, cs, ty, u, k1, k2, k3, k4⟩ := h4
      have hidx : x / 100000 - 1 ≠ OW + i := by
        rcases h3 with h3 | h3
        · exact absurd h3 hxs
        · omega
      exact ⟨g, cs, ty, u, by simp only [hidx, if_false]; exact k1, k2, k3, k4.reb h2 r⟩
  · have hne : x ≠ OW + i := by omega
    simp only [hne, if_false] at hx
    have := hB x hl hx
    simpa [frz1] using this
theorem frzS_sound {id : Nat} : ∀ {L : List OIns} {s : MS}, (∀ i ∈ L, i.Ok p ρ) → MSt ρ w0 nt s a w → MSt ρ w0 nt (frzS L id s) a w
  | [], s, _, hs => hs
  | q :: L, s, hO, hs => by
    unfold frzS
    rw [List.foldl_cons]
    refine frzS_sound (fun i hi => hO i (List.mem_cons_of_mem _ hi)) ?_
    split
    · rename_i r i n n' h1 h2 h3
      split
      · rename_i hc
        refine frz1_sound (p := p) (rid := r) ?_ hc.2 hs
        have := hO q (by simp)
        obtain ⟨k, xs, rr⟩ := q
        simp only at h1 h2 h3
        subst h1; subst h2; subst h3
        exact this
      · exact hs
    · exact hs
end
/-- A region, its operations in any order, or one after the other. -/
def regZ (p : Program) (C : List Inst) (L : List OIns) (nt id : Nat) (ops : Array Oper) (draw : Bool) (s : MS) : Option MS :=
  match regX p C L nt ops (frzS L id s) with
  | some s1 => some s1
  | none => if draw then none else seqX p C L nt ops (List.range ops.size) (frzS L id s)
section
variable {p : Program} {ρ : Rho} {a : Act} {w w0 : World} {C : List Inst} {L : List OIns} {nt : Nat} {Q : Exit → Act → World → Prop} {ops : Array Oper}
theorem regZ_sound (hC : ∀ i ∈ C, i.Ok0 p ρ w0) (hO : ∀ i ∈ L, i.Ok p ρ) (hm : p.follows .mixedOrders = true) {s s' : MS} {id : Nat} {draw : Bool} (h : regZ p C L nt id ops draw s = some s') (hs : MSt ρ w0 nt s a w)
    (hQ : ∀ a' w', MSt ρ w0 nt s' a' w' → Q .normal a' w') : (Code.region id ops draw).wp p Q a w := by
  have hs' := frzS_sound (p := p) (id := id) hO hs
  unfold regZ at h
  split at h
  · rename_i s1 hr
    injection h with h; subst h
    exact regX_sound hC hO hm hr hs' hQ
  · cases draw with
    | true => simp at h
    | false =>
      simp only [Bool.false_eq_true, if_false] at h
      exact wp_region (seqX_sound hC hO h hs' hQ)
end
end Go.Proofs.YthebfmlfgfmlnaaGreatDoor
namespace Go.Proofs.YthebfmlfgfmlnaaGreatDoor
set_option linter.unusedSimpArgs false
set_option linter.unusedVariables false
set_option maxRecDepth 100000
open Go.RowKit
inductive Ex where
  | nrm
  | ext (id : Nat)
  | ret
  deriving DecidableEq
def Ex.exit : Ex → Exit
  | .nrm => .normal
  | .ext id => .exit id
  | .ret => .ret
def exec (p : Program) (C : List Inst) (L : List OIns) (nt : Nat) : Nat → Code → MS → Option (Ex × MS)
  | 0, _, _ => none
  | n + 1, c, s => match c with
    | .skip => some (.nrm, s)
    | .region id ops draw => (regZ p C L nt id ops draw s).map fun s => (.nrm, s)
    | .seq a b => match exec p C L nt n a s with
      | some (.nrm, s1) => exec p C L nt n b s1
      | r => r
    | .cond c x y => match evL (msGet s) c with
      | some (.b true) => exec p C L nt n x s
      | some (.b false) => exec p C L nt n y s
      | _ => none
    | .block id b => match exec p C L nt n b s with
      | some (.ext i, s1) => if i = id then some (.nrm, s1) else some (.ext i, s1)
      | r => r
    | .loop b => match exec p C L nt n b s with
      | some (.nrm, s1) => exec p C L nt n (.loop b) s1
      | r => r
    | .exit id => some (.ext id, s)
    | .ret => some (.ret, s)
    | _ => none
section
variable {p : Program} {ρ : Rho} {a : Act} {w w0 : World} {C : List Inst} {L : List OIns} {nt : Nat} {Q : Exit → Act → World → Prop}
/-- A loop goes through its rounds one after the other. -/
theorem wp_loop_rounds {c : Code} (I : Nat → Act → World → Prop) (N : Nat) (h0 : I 0 a w) (round : ∀ k a w, k ≤ N → I k a w → c.wp p (Exit.then (fun a' w' => k < N ∧ I (k + 1) a' w') Q) a w) : (Code.loop c).wp p Q a w := by
  intro b k cs
  have key : ∀ n j a w, N - j = n → j ≤ N → I j a w →
      ∃ e a' w', Q e a' w' ∧ Arrives p (lone (b.at a (.code c :: .inLoop c :: k)) cs w) b k cs e a' w' := by
    intro n
    induction n with
    | zero =>
      intro j a w hn hj hI
      obtain ⟨e, a₁, w₁, hq, harr⟩ := round j a w hj hI b (.inLoop c :: k) cs
      cases e with
      | normal => obtain ⟨h, _⟩ := hq; omega
      | exit id => exact ⟨_, a₁, w₁, hq, .pass (x := .inLoop c) rfl (fun _ _ => .inl (by simp)) harr⟩
      | goto l => exact ⟨_, a₁, w₁, hq, .pass (x := .inLoop c) rfl (fun _ _ => .inl (by simp)) harr⟩
      | ret => exact ⟨_, a₁, w₁, hq, .pass (x := .inLoop c) rfl (fun _ _ => .inl (by simp)) harr⟩
      | panic ch => exact ⟨_, a₁, w₁, hq, .pass (x := .inLoop c) rfl (fun _ _ => .inl (by simp)) harr⟩
      | outgrown => exact ⟨_, a₁, w₁, hq, .pass (x := .inLoop c) rfl (fun _ _ => .inl (by simp)) harr⟩
    | succ n ih =>
      intro j a w hn hj hI
      obtain ⟨e, a₁, w₁, hq, harr⟩ := round j a w hj hI b (.inLoop c :: k) cs
      cases e with
      | normal =>
        obtain ⟨hlt, hI₁⟩ := hq
        obtain ⟨e₂, a₂, w₂, hq₂, harr₂⟩ := ih (j + 1) a₁ w₁ (by omega) (by omega) hI₁
        exact ⟨e₂, a₂, w₂, hq₂, .of_steps (Steps.trans harr (.one step_inLoop)) harr₂⟩
      | exit id => exact ⟨_, a₁, w₁, hq, .pass (x := .inLoop c) rfl (fun _ _ => .inl (by simp)) harr⟩
      | goto l => exact ⟨_, a₁, w₁, hq, .pass (x := .inLoop c) rfl (fun _ _ => .inl (by simp)) harr⟩
      | ret => exact ⟨_, a₁, w₁, hq, .pass (x := .inLoop c) rfl (fun _ _ => .inl (by simp)) harr⟩
      | panic ch => exact ⟨_, a₁, w₁, hq, .pass (x := .inLoop c) rfl (fun _ _ => .inl (by simp)) harr⟩
      | outgrown => exact ⟨_, a₁, w₁, hq, .pass (x := .inLoop c) rfl (fun _ _ => .inl (by simp)) harr⟩
  obtain ⟨e, a', w', hq, harr⟩ := key (N - 0) 0 a w rfl (by omega) h0
  exact ⟨e, a', w', hq, .of_steps (.one step_loop) harr⟩
theorem evL_ms {s : MS} {x : Operand} {l : Leaf} (hs : MSt ρ w0 nt s a w) (h : evL (msGet s) x = some l) : ∃ B, l.holds ρ B w (a.eval x) := by
  obtain ⟨B, _, hv, _⟩ := hs
  exact ⟨B, evL_k (fun y _ c hc => hv y c hc) h⟩
theorem exec_sound (hC : ∀ i ∈ C, i.Ok0 p ρ w0) (hO : ∀ i ∈ L, i.Ok p ρ) (hm : p.follows .mixedOrders = true) : ∀ {n : Nat} {c : Code} {s s' : MS} {e : Ex} {a : Act} {w : World} {Q : Exit → Act → World → Prop}, exec p C L nt n c s = some (e, s') →
    MSt ρ w0 nt s a w → (∀ a' w', MSt ρ w0 nt s' a' w' → Q e.exit a' w') → c.wp p Q a w
  | 0, _, _, _, _, _, _, _, h, _, _ => by simp [exec] at h
  | n + 1, c, s, s', e, a, w, Q, h, hs, hQ => by
    cases c with
    | skip =>
      simp [exec] at h; obtain ⟨rfl, rfl⟩ := h
      exact wp_skip (hQ a w hs)
    | region id ops draw =>
      simp only [exec] at h
      cases hr : regZ p C L nt id ops draw s with
      | none => rw [hr] at h; cases h
      | some s1 =>
        rw [hr] at h; simp at h; obtain ⟨rfl, rfl⟩ := h
        exact regZ_sound hC hO hm hr hs hQ
    | seq x y =>
      simp only [exec] at h
      split at h
      · rename_i s1 h1
        refine wp_seq (exec_sound hC hO hm h1 hs (fun a' w' hs' => ?_))
        exact exec_sound hC hO hm h hs' hQ
      · rename_i hne
        refine wp_seq (exec_sound hC hO hm h hs (fun a' w' hs' => ?_))
        cases e with
        | nrm => exact absurd h (hne s')
        | ext id => exact hQ a' w' hs'
        | ret => exact hQ a' w' hs'
    | cond k x y =>
      simp only [exec] at h
      split at h
      · rename_i hk
        obtain ⟨B, hb⟩ := evL_ms hs hk
        exact wp_cond_true hb (exec_sound hC hO hm h hs hQ)
      · rename_i hk
        obtain ⟨B, hb⟩ := evL_ms hs hk
        exact wp_cond_false hb (exec_sound hC hO hm h hs hQ)
      · cases h
    | block id b =>
      simp only [exec] at h
      split at h
      · rename_i i s1 h1
        refine wp_block (exec_sound hC hO hm h1 hs (fun a' w' hs' => ?_))
        split at h
        · rename_i hi
          simp at h; obtain ⟨rfl, rfl⟩ := h
          show if i = id then _ else _
          rw [if_pos hi]; exact hQ a' w' hs'
        · rename_i hi
          simp at h; obtain ⟨rfl, rfl⟩ := h
          show if i = id then _ else _
          rw [if_neg hi]; exact hQ a' w' hs'
      · rename_i hne
        refine wp_block (exec_sound hC hO hm h hs (fun a' w' hs' => ?_))
        cases e with
        | nrm => exact hQ a' w' hs'
        | ext id => exact absurd h (hne id s')
        | ret => exact hQ a' w' hs'
    | loop b =>
      -- the states at the rounds' beginnings
      have key : ∀ (n : Nat) (s : MS), exec p C L nt n (.loop b) s = some (e, s') → ∃ (N : Nat) (S : Nat → MS), S 0 = s ∧ ∀ k, k ≤ N → ∃ m r, m < n ∧ exec p C L nt m b (S k) = some r ∧ ((k < N ∧ r = (.nrm, S (k + 1))) ∨ (k = N ∧ r = (e, s') ∧ r.1 ≠ .nrm)) := by
        intro n
        induction n with
        | zero => intro s h; simp [exec] at h
        | succ n ih =>
          intro s h
          simp only [exec] at h
          split at h
          · rename_i s1 h1
            obtain ⟨N, S, h2, h3⟩ := ih s1 h
            refine ⟨N + 1, fun k => match k with | 0 => s | k + 1 => S k, rfl, fun k hk => ?_⟩
            match k with
            | 0 => exact ⟨n, _, by omega, h1, .inl ⟨by omega, by rw [← h2]⟩⟩
            | k + 1 =>
              obtain ⟨m, r, k1, k2, k3⟩ := h3 k (by omega)
              exact ⟨m, r, by omega, k2, k3.imp (fun ⟨x, y⟩ => ⟨by omega, y⟩) (fun ⟨x, y⟩ => ⟨by omega, y⟩)⟩
          · rename_i hne
            refine ⟨0, fun _ => s, rfl, fun k hk => ⟨n, (e, s'), by omega, h, .inr ⟨by omega, rfl, fun he => hne s' ?_⟩⟩⟩
            simp only at he
            rw [h, he]
      obtain ⟨N, S, h0, hS⟩ := key (n + 1) s h
      refine wp_loop_rounds (fun k a w => MSt ρ w0 nt (S k) a w) N (by rw [h0]; exact hs) (fun k a w hk hI => ?_)
      obtain ⟨m, r, hmn, hr, hor⟩ := hS k hk
      obtain ⟨e1, s1⟩ := r
      refine exec_sound hC hO hm hr hI (fun a' w' hs' => ?_)
      rcases hor with ⟨h1, h2⟩ | ⟨h1, h2, h3⟩
      · simp at h2; obtain ⟨rfl, rfl⟩ := h2
        exact ⟨h1, hs'⟩
      · simp at h2; obtain ⟨rfl, rfl⟩ := h2
        cases e1 with
        | nrm => exact absurd rfl h3
        | ext id => exact hQ a' w' hs'
        | ret => exact hQ a' w' hs'
    | exit id =>
      simp [exec] at h; obtain ⟨rfl, rfl⟩ := h
      exact wp_exit (hQ a w hs)
    | ret =>
      simp [exec] at h; obtain ⟨rfl, rfl⟩ := h
      exact wp_ret (hQ a w hs)
    | _ => simp [exec] at h
termination_by n => n
end
end Go.Proofs.YthebfmlfgfmlnaaGreatDoor
namespace Go.Proofs.YthebfmlfgfmlnaaGreatDoor
set_option linter.unusedSimpArgs false
set_option linter.unusedVariables false
set_option maxRecDepth 100000
open Go.RowKit
def resA1 (p : Program) (s : MS) : ResultVar → Option SV
  | .tmp t => evS (msGet s) (.tmp t)
  | .cell t ty => match pureV p [] (msGet s) (.load ty (.tmp t)) with
    | some (.v x, _) => some x
    | _ => none
def resAs (p : Program) (s : MS) : List ResultVar → Option (List SV)
  | [] => some []
  | r :: rs => match resA1 p s r, resAs p s rs with
    | some x, some xs => some (x :: xs)
    | _, _ => none
def resA (p : Program) (s : MS) (rs : List ResultVar) : Option AV :=
  match resAs p s rs with
  | some [x] => some (.v x)
  | some xs => some (.tup xs)
  | none => none
def Leaf.noPtr : Leaf → Bool
  | .ptr _ _ => false
  | .own _ _ => false
  | _ => true
def SV.noPtr : SV → Bool
  | .one l => l.noPtr
  | .agg ls => ls.all Leaf.noPtr
def AV.noPtr : AV → Bool
  | .v s => s.noPtr
  | .tup xs => xs.all SV.noPtr
  | .any => true
def startS (args : List SV) (n : Nat) : List (Option AV) := args.map (fun s => some (.v s)) ++ List.replicate (n - args.length) none
/-- The answer of a function. -/
def runFn (p : Program) (C : List Inst) (L : List OIns) (fn : Func) (args : List SV) (fuel : Nat) : Option AV :=
  if args.length ≤ fn.ntmps ∧ fn.ntmps ≤ 100000 then
    match fn.body with
    | some c => match exec p C L fn.ntmps fuel c ⟨startS args fn.ntmps, []⟩ with
      | some (.ext _, _) => none
      | some (_, s) => match resA p s fn.results.toList with
        | some r => if r.noPtr then some r else none
        | none => none
      | none => none
    | none => none
  else none
def resM (tmps : Array Value) : ResultVar → Sem Value
  | .tmp t => pure (tmps.getD t undef)
  | .cell t ty => do loadVar ty (← asAddr (tmps.getD t undef))
theorem results_eq (fn : Func) (tmps : Array Value) : results fn tmps = (do let vs ← fn.results.mapM (resM tmps); pure (if h : vs.size = 1 then vs[0] else .tuple vs)) := by
  unfold results
  congr 1
section
variable {p : Program} {ρ : Rho} {B : Blk} {a : Act} {w w0 : World} {C : List Inst} {L : List OIns} {nt : Nat}
theorem Leaf.holds.free {l : Leaf} {v : Value} (h : l.holds ρ B w v) (hn : l.noPtr = true) : l.holds ρ (fun _ => none) w v := by
  cases l <;> first
    | exact h
    | (simp [Leaf.noPtr] at hn; done)
    | (obtain ⟨s, h1, h2, _⟩ := h; exact ⟨s, h1, h2, fun g hg x hx => by cases hx⟩)
theorem LeavesH.free : ∀ {ls : List Leaf} {vs : List Value}, LeavesH ρ B w ls vs → ls.all Leaf.noPtr = true → LeavesH ρ (fun _ => none) w ls vs
  | [], [], _, _ => trivial
  | _ :: _, _ :: _, h, hn => by
    simp only [List.all_cons, Bool.and_eq_true] at hn
    exact ⟨h.1.free hn.1, LeavesH.free h.2 hn.2⟩
  | [], _ :: _, h, _ => h.elim
  | _ :: _, [], h, _ => h.elim
theorem SV.holds.free {s : SV} {v : Value} (h : s.holds ρ B w v) (hn : s.noPtr = true) : s.holds ρ (fun _ => none) w v := by
  cases s with
  | one l => exact Leaf.holds.free h hn
  | agg ls => obtain ⟨vs, e, h⟩ := h; exact ⟨vs, e, h.free hn⟩
theorem SVsH.free : ∀ {ls : List SV} {vs : List Value}, SVsH ρ B w ls vs → ls.all SV.noPtr = true → SVsH ρ (fun _ => none) w ls vs
  | [], [], _, _ => trivial
  | _ :: _, _ :: _, h, hn => by
    simp only [List.all_cons, Bool.and_eq_true] at hn
    exact ⟨h.1.free hn.1, SVsH.free h.2 hn.2⟩
  | [], _ :: _, h, _ => h.elim
  | _ :: _, [], h, _ => h.elim
theorem AV.holds.free {s : AV} {v : Value} (h : s.holds ρ B w v) (hn : s.noPtr = true) : s.holds ρ (fun _ => none) w v := by
  cases s with
  | v s => exact SV.holds.free h hn
  | tup xs => obtain ⟨vs, e, h⟩ := h; exact ⟨vs, e, h.free hn⟩
  | any => exact h
theorem asAddr_of {v : Value} {ad : Addr} (h : v = .pointer (some ad)) : (asAddr v).run p w = .ok ad w := by subst h; rfl
theorem resAs_run {s : MS} (hv : ∀ x c, msGet s x = some c → LocH ρ B a w x c) : ∀ {rs : List ResultVar} {xs : List SV}, resAs p s rs = some xs →
    ∃ vs : List Value, (rs.mapM (resM a.tmps)).run p w = .ok vs w ∧ SVsH ρ B w xs vs
  | [], xs, h => by simp [resAs] at h; subst h; exact ⟨[], by simp, trivial⟩
  | r :: rs, xs, h => by
    simp only [resAs] at h
    split at h
    · rename_i x xs' h1 h2
      simp at h; subst h
      obtain ⟨vs, h3, h4⟩ := resAs_run hv h2
      have one : ∃ v, (resM a.tmps r).run p w = .ok v w ∧ x.holds ρ B w v := by
        cases r with
        | tmp t => exact ⟨a.tmps.getD t undef, rfl, evS_k (x := .tmp t) (fun y _ c hc => hv y c hc) h1⟩
        | cell t ty =>
          simp only [resA1] at h1
          split at h1
          · rename_i y rd hp
            injection h1 with h1; subst h1
            obtain ⟨ad, u, e1, e2, e3⟩ := load_var (p := p) hp (fun y _ c hc => hv y c hc) (fun y _ c hc => hv y c hc)
            refine ⟨u, ?_, e3⟩
            have e1' : a.tmps.getD t undef = .pointer (some ad) := e1
            simp only [resM, Sem.run_bind, asAddr_of e1', Result.andThen, e2]
          · cases h1
      obtain ⟨v, h5, h6⟩ := one
      refine ⟨v :: vs, ?_, h6, h4⟩
      simp only [List.mapM_cons, Sem.run_bind, Sem.run_pure]
      rw [h5]
      simp only [Result.andThen]
      rw [h3]
    · cases h
theorem resA_run {s : MS} (hv : ∀ x c, msGet s x = some c → LocH ρ B a w x c) {fn : Func} {r : AV} (h : resA p s fn.results.toList = some r) : ∃ v, (results fn a.tmps).run p w = .ok v w ∧ r.holds ρ B w v := by
  have arr : ∀ vs : List Value, (fn.results.toList.mapM (resM a.tmps)).run p w = .ok vs w →
      (results fn a.tmps).run p w = .ok (if h : vs.toArray.size = 1 then vs.toArray[0] else .tuple vs.toArray) w := by
    intro vs hvs
    rw [results_eq, Sem.run_bind]
    have : ∀ (f : ResultVar → Sem Value) (xs : Array ResultVar), (xs.toList.mapM f).run p w = .ok vs w → (xs.mapM f).run p w = .ok vs.toArray w := by
      intro f xs hx
      obtain ⟨l⟩ := xs
      simp only [List.mapM_toArray, map_eq_pure_bind, Sem.run_bind, hx, Result.andThen, Sem.run_pure]
    rw [this _ _ hvs]; rfl
  unfold resA at h
  split at h
  · rename_i x hx
    injection h with h; subst h
    obtain ⟨vs, h1, h2⟩ := resAs_run hv hx
    match vs, h2 with
    | [v], h2 => exact ⟨v, by rw [arr _ h1]; rfl, h2.1⟩
  · rename_i xs hne hx
    injection h with h; subst h
    obtain ⟨vs, h1, h2⟩ := resAs_run hv hx
    refine ⟨.tuple vs.toArray, ?_, vs, rfl, h2⟩
    rw [arr _ h1, dif_neg]
    intro h3
    match vs, xs, h2 with
    | [], [], _ => simp at h3
    | [_], [y], _ => exact hne y rfl
    | _ :: _ :: _, _, _ => simp at h3
  · cases h
theorem SVsH.len : ∀ {ls : List SV} {vs : List Value}, SVsH ρ B w ls vs → vs.length = ls.length
  | [], [], _ => rfl
  | _ :: _, _ :: _, h => by simp [h.2.len]
  | [], _ :: _, h => h.elim
  | _ :: _, [], h => h.elim
/-- A function answers what the executor reckons. -/
theorem calls_runFn (hC : ∀ i ∈ C, i.Ok0 p ρ w) (hO : ∀ i ∈ L, i.Ok p ρ) (hm : p.follows .mixedOrders = true) {f : FuncId} {fn : Func} (hf : p.funcs[f]? = some fn) {args : List SV} {vs : List Value} {fuel : Nat} {r : AV}
    (h : runFn p C L fn args fuel = some r) (ha : SVsH ρ (fun _ => none) w args vs) : Calls p f vs.toArray w (fun e w' => ∃ v, e = .returned v ∧ r.holds ρ (fun _ => none) w' v ∧ Below w.heap.size w w') := by
  unfold runFn at h
  split at h
  · rename_i hn
    split at h
    · rename_i c hb
      have hl := ha.len
      have hst : MSt ρ w fn.ntmps ⟨startS args fn.ntmps, []⟩ { tmps := vs.toArray ++ Array.replicate (fn.ntmps - vs.toArray.size) undef, defers := [] } w := by
        refine ⟨fun _ => none, ⟨fun v g _ hg => (by cases hg), fun v g _ hg => (by cases hg), fun v v' g hg => (by cases hg), Below.refl _ _, by simp; omega, rfl⟩, fun x k hx => ?_, fun v _ hv => absurd rfl hv⟩
        unfold msGet at hx
        split at hx
        · rename_i hx1
          unfold LocH
          rw [if_pos hx1]
          simp only at hx
          unfold startS at hx
          by_cases hxa : x < args.length
          · rw [List.getElem?_append_left (by simpa using hxa), List.getElem?_map, List.getElem?_eq_getElem hxa] at hx
            simp at hx; subst hx
            obtain ⟨v, h1, h2⟩ := ha.get (List.getElem?_eq_getElem hxa)
            refine ⟨v, ?_, h2⟩
            simp only
            rw [Array.getElem?_append_left (by simp; omega)]
            simpa using h1
          · rw [List.getElem?_append_right (by simp; omega)] at hx
            simp only [List.getElem?_replicate] at hx
            split at hx
            · rename_i hq
              split at hq
              · simp at hq; subst hq; cases hx
              · cases hq
            · cases hx
        · simp at hx
      have hret : ∀ {s : MS} {e : Ex}, exec p C L fn.ntmps fuel c ⟨startS args fn.ntmps, []⟩ = some (e, s) → e = .nrm ∨ e = .ret → (match resA p s fn.results.toList with | some r => if r.noPtr then some r else none | none => none) = some r →
          Calls p f vs.toArray w (fun e w' => ∃ v, e = .returned v ∧ r.holds ρ (fun _ => none) w' v ∧ Below w.heap.size w w') := by
        intro s e he hor hr
        split at hr
        · rename_i r' hr'
          split at hr
          · rename_i hnp
            injection hr with hr; subst hr
            refine calls_of_wp hf hb (exec_sound hC hO hm he hst (fun a' w' hs' => ?_))
            obtain ⟨B, hi, hv, _⟩ := hs'
            obtain ⟨v, h1, h2⟩ := resA_run (p := p) hv hr'
            rcases hor with rfl | rfl
            · exact ⟨hi.dfr, v, h1, v, rfl, h2.free hnp, hi.below⟩
            · exact ⟨hi.dfr, v, h1, v, rfl, h2.free hnp, hi.below⟩
          · cases hr
        · cases hr
      split at h
      · cases h
      · rename_i e s he hx
        have hor : e = .nrm ∨ e = .ret := by
          cases e with
          | nrm => exact .inl rfl
          | ret => exact .inr rfl
          | ext id => exact (he id rfl).elim
        exact hret hx hor h
      · cases h
    · cases h
  · cases h
end
end Go.Proofs.YthebfmlfgfmlnaaGreatDoor
