/- An executor: stores; every operation has the effect that is reckoned. An executor: regions, code, functions. An executor: code and functions. An executor: functions. Sub of package fraction; Mul of the reference. -/
import Derived.Test.YtfhinmdhjlmikaaGreatDoorP08
namespace Go.Proofs.YtfhinmdhjlmikaaGreatDoor
set_option linter.unusedSimpArgs false
set_option linter.unusedVariables false
set_option maxRecDepth 100000
open Go.RowKit
section
variable {p : Program} {ρ : Rho} {B B' : Blk} {a a' : Act} {w w' w0 : World} {C : List Inst} {L : List OIns} {lk : Nat → Option AV} {vt : List (TypeId × Nat)} {nt : Nat} {Q : Exit → Act → World → Prop} {o : Oper} {ops : Array Oper}
theorem run_store1 {g k : Nat} {v : Value} {cs : Array Value} {ty : TypeId} (h : w.heap[g]? = some (.cells cs ty (0, 0))) (hk : k < cs.size) (hv : Flat v) : (Go.store ⟨g, k, none⟩ v).run p w = .ok () (w.setCell ⟨g, k, none⟩ v) := by
  have h1 : w.cell? ⟨g, k, none⟩ = some cs[k] := by rw [cell_at h]; exact Array.getElem?_eq_getElem hk
  have h2 : w.frozen? ⟨g, k, none⟩ = false := frozen_of_row w g k _ _ h
  have h3 := hv.1
  have h4 := hv.2.1
  unfold Go.store
  cases v with
  | agg cs => exact absurd rfl (h3 cs)
  | tuple vs => exact absurd rfl (h4 vs)
  | _ => simp [Sem.run, h1, h2]
theorem run_storeCells {g o : Nat} {ty : TypeId} : ∀ (vs : List Value) (i : Nat) (w : World) (cs : Array Value), w.heap[g]? = some (.cells cs ty (0, 0)) → o + i + vs.length ≤ cs.size → (∀ v ∈ vs, Flat v) →
    ∃ w' cs', (storeCells ⟨g, o, none⟩ vs i).run p w = .ok () w' ∧ Upd w g w' ∧ w'.heap[g]? = some (.cells cs' ty (0, 0)) ∧ cs'.size = cs.size ∧
      (∀ k v, vs[k]? = some v → cs'[o + i + k]? = some v) ∧ ∀ k, (k < o + i ∨ o + i + vs.length ≤ k) → cs'[k]? = cs[k]?
  | [], i, w, cs, h, _, _ => ⟨w, cs, by simp [storeCells], ⟨rfl, rfl, rfl, rfl, fun _ _ => rfl⟩, h, rfl, by simp, fun _ _ => rfl⟩
  | v :: vs, i, w, cs, h, hle, hv => by
    simp only [List.length_cons] at hle
    have h1 := run_store1 (p := p) (k := o + i) h (by omega) (hv v (by simp))
    have h2 := heap_setCell_same w g (o + i) _ _ v h
    obtain ⟨w', cs', e1, e2, e3, e4, e5, e6⟩ := run_storeCells (o := o) vs (i + 1) (w.setCell ⟨g, o + i, none⟩ v) (cs.setIfInBounds (o + i) v) h2 (by simp; omega) (fun u hu => hv u (List.mem_cons_of_mem _ hu))
    have hlen := e4
    refine ⟨w', cs', ?_, (Upd.cell w g (o + i) v).trans e2, e3, by rw [e4]; simp, fun k u hu => ?_, fun k hk => ?_⟩
    · unfold storeCells
      rw [Sem.run_bind, add_off, h1]
      exact e1
    · match k with
      | 0 =>
        simp at hu; subst hu
        rw [e6 (o + i + 0) (by omega)]
        simp [show o + i < cs.size from by omega]
      | k + 1 =>
        have := e5 k u (by simpa using hu)
        rwa [show o + (i + 1) + k = o + i + (k + 1) from by omega] at this
    · rw [e6 k (by simp only [List.length_cons] at hk; omega)]
      simp only [List.length_cons] at hk
      rw [Array.getElem?_setIfInBounds, if_neg (by omega)]
theorem LocH.upd {x g : Nat} {c : AV} (h : LocH ρ B a w x c) (o : OwnX w g) (u : Upd w g w') (hx : ¬ x < 100000 → ∀ g' cs ty y, B (x / 100000 - 1) = some g' → w.heap[g']? = some (.cells cs ty (0, 0)) → cs[x % 100000]? = some y → ∃ cs', w'.heap[g']? = some (.cells cs' ty (0, 0)) ∧ cs'[x % 100000]? = some y) : LocH ρ B a w' x c := by
  unfold LocH at h ⊢
  split at h
  · rename_i hx
    rw [if_pos hx]
    obtain ⟨v, h1, h2⟩ := h
    exact ⟨v, h1, h2.upd o u⟩
  · rename_i hn
    rw [if_neg hn]
    obtain ⟨g', cs, ty, v, h1, h2, h3, h4⟩ := h
    obtain ⟨cs', h5, h6⟩ := hx hn g' cs ty v h1 h2 h3
    exact ⟨g', cs', ty, v, h1, h5, h6, h4.upd o u⟩
theorem ok_store {t : TypeId} {x y : Operand} {v off n : Nat} {ty : TypeId} {s : SV} (ho : o.op = .store t x y) (hd : o.dst = none) (hx : evL lk x = some (.ptr v off)) (hy : evS lk y = some s) (hvt : vt[v]? = some (ty, n))
    (hs : szB p t = some s.leaves.length) (hf : allFlat s.leaves = true) (hle : off + s.leaves.length ≤ n) (hn : n ≤ 100000) (hi : Inv vt w0 nt B a w) (Hx : KnowsO ρ B a w lk x) (Hy : KnowsO ρ B a w lk y) {rd : List Nat}
    {K : Act → World → Prop} (hK : ∀ B' a' w', Post ρ vt w0 nt ⟨rd, cellsWr v off s.leaves, none⟩ B a w B' a' w' → K a' w') : Oper.wp p o a w K Q := by
  obtain ⟨g, hg, e1⟩ := (evL_k Hx hx : Leaf.holds ρ B w (.ptr v off) (a.eval x))
  have e2 := evS_k Hy hy
  have hc := e2.cells
  obtain ⟨hge, cs, ty', f1, f2, f3⟩ := hi.blk v g hg
  rw [hvt] at f1
  simp only [Option.some.injEq, Prod.mk.injEq] at f1
  obtain ⟨rfl, rfl⟩ := f1
  have hlen := hc.len
  have hflat : ∀ u ∈ (a.eval y).cells.toList, Flat u := fun u hu => by
    obtain ⟨k, hk, rfl⟩ := List.getElem_of_mem hu
    obtain ⟨z, h1, h2⟩ := hc.get (List.getElem?_eq_getElem (show k < s.leaves.length by omega))
    rw [List.getElem?_eq_getElem hk] at h1
    injection h1 with h1
    rw [h1]
    exact h2.flat (List.all_eq_true.1 hf _ (List.getElem_mem _))
  obtain ⟨w', cs', g1, g2, g3, g4, g5, g6⟩ := run_storeCells (p := p) (o := off) (a.eval y).cells.toList 0 w cs f2 (by omega) hflat
  have ow : OwnX w g := ⟨cs, ty, f2, f3⟩
  have hrun : (execOp a.eval o).run p w = .ok .skip w' := by
    unfold execOp; rw [ho]
    simp only [Sem.run_bind, Instr.storeAt, e1, Instr.sureAddr, Sem.run_pure, Result.andThen, storeVar, run_size hs]
    rw [if_neg (by simp only [ne_eq, Classical.not_not]; simpa using hlen)]
    rw [g1]
  unfold Oper.wp
  rw [hrun, Oper.upon_skip, hd]
  show K a w'
  have hcell : ∀ g' cs1 ty1, w.heap[g']? = some (.cells cs1 ty1 (0, 0)) → ∃ cs2, w'.heap[g']? = some (.cells cs2 ty1 (0, 0)) ∧ cs2.size = cs1.size ∧ (g' ≠ g → cs2 = cs1) := fun g' cs1 ty1 h => by
    by_cases e : g' = g
    · subst e
      rw [f2] at h; injection h with h; injection h with h h2; subst h; subst h2
      exact ⟨cs', g3, g4, fun h => absurd rfl h⟩
    · exact ⟨cs1, by rw [g2.block g' e]; exact h, rfl, fun _ => rfl⟩
  refine hK B a w' ⟨BLe.refl, ⟨fun v' g' hg' => ?_, hi.inj, Upd.below hi.below g2 hge, hi.size, hi.dfr⟩, fun q hq => ?_, fun z c hz hne => hz.upd ow g2 (fun hz1 g' cs1 ty1 y1 h1 h2 h3 => ?_), fun u h1 h2 => absurd h1 h2⟩
  · obtain ⟨h1, cs1, ty1, h2, h3, h4⟩ := hi.blk v' g' hg'
    obtain ⟨cs2, k1, k2, k3⟩ := hcell g' cs1 ty1 h3
    refine ⟨h1, cs2, ty1, by rw [k2]; exact h2, k1, fun k m hk => ?_, h4.2⟩
    by_cases e : g' = g
    · subst e
      rw [g3] at k1; injection k1 with k1; injection k1 with k1 _; subst k1
      by_cases hin : k < off ∨ off + (a.eval y).cells.toList.length ≤ k
      · rw [g6 k (by simpa using hin)] at hk
        exact f3.1 k m hk
      · have hk2 : k - off < (a.eval y).cells.toList.length := by omega
        have := g5 (k - off) _ (List.getElem?_eq_getElem hk2)
        rw [show off + 0 + (k - off) = k from by omega, hk] at this
        injection this with this
        exact (hflat _ (List.getElem_mem hk2)).2.2 m this.symm
    · rw [k3 e] at hk; exact h4.1 k m hk
  · obtain ⟨j, l, h1, rfl⟩ := wr_mem.1 hq
    have hj := (List.getElem?_eq_some_iff.1 h1).1
    obtain ⟨u, h2, h3⟩ := hc.get h1
    rw [locH_cell (by omega)]
    exact ⟨g, cs', ty, u, hg, g3, by have := g5 j u h2; simpa using this, (h3.upd ow g2 : Leaf.holds ρ B w' l u)⟩
  · by_cases e : g' = g
    · subst e
      rw [f2] at h2; injection h2 with h2; injection h2 with h2 h2'; subst h2; subst h2'
      refine ⟨cs', g3, ?_⟩
      have hv := hi.inj _ _ _ h1 hg
      by_cases hin : z % 100000 < off ∨ off + (a.eval y).cells.toList.length ≤ z % 100000
      · rw [g6 _ (by simpa using hin)]; exact h3
      · have hk2 : z % 100000 - off < s.leaves.length := by omega
        refine absurd ?_ (hne (locC v (off + (z % 100000 - off)), .v (.one s.leaves[z % 100000 - off])) (wr_mem.2 ⟨_, _, List.getElem?_eq_getElem hk2, rfl⟩))
        unfold locC
        have : z / 100000 = v + 1 := by omega
        have h5 := Nat.div_add_mod z 100000
        simp only
        omega
    · obtain ⟨cs2, k1, k2, k3⟩ := hcell g' cs1 ty1 h2
      exact ⟨cs2, k1, by rw [k3 e]; exact h3⟩
theorem findC_ok (hC : ∀ i ∈ C, i.Ok0 p ρ w0) {f : FuncId} {xs : List SV} {r : AV} (h : findC C f xs = some r) : (Inst.mk f xs r).Ok0 p ρ w0 := by
  unfold findC at h
  split at h
  · rename_i i hi
    simp at h; subst h
    have h1 := List.find?_some hi
    simp only [Bool.and_eq_true, decide_eq_true_eq] at h1
    have := hC i (List.mem_of_find?_eq_some hi)
    obtain ⟨f', xs', r'⟩ := i
    obtain ⟨rfl, rfl⟩ := h1
    exact this
  · cases h
theorem ok_call (hC : ∀ i ∈ C, i.Ok0 p ρ w0) {k : Call} {z : Operand} {f : FuncId} {xs : List SV} {r : AV} (ho : o.op = .call k) (hk : k.callee = .value z) (hz : evL lk z = some (.fn f)) (hxs : svsA lk k.args.toList = some xs) (hr : findC C f xs = some r)
    (hd : okD nt o.dst = true) (hi : Inv vt w0 nt B a w) (H : ∀ x ∈ (Op.call k).operands.toList, KnowsO ρ B a w lk x) {rd : List Nat}
    {K : Act → World → Prop} (hK : ∀ B' a' w', Post ρ vt w0 nt ⟨rd, wrD o.dst r, none⟩ B a w B' a' w' → K a' w') : Oper.wp p o a w K Q := by
  obtain ⟨cal, args, tt⟩ := k
  simp only at hk hxs
  subst hk
  have e1 : a.eval z = fnV f := evL_k (H z (by simp [Op.operands, Call.operands])) hz
  have e2 := svsA_holds hxs (fun x hx => H x (by simp only [Op.operands, Call.operands, Array.toList_append, List.mem_append]; exact .inr hx))
  obtain ⟨hen, hcall⟩ := findC_ok hC hr
  have hc := hcall B w _ hi.below e2
  have ea : (args.toList.map a.eval).toArray = args.map a.eval := by rw [← Array.toList_map, Array.toArray_toList]
  rw [ea] at hc
  unfold Oper.wp
  have : (execOp a.eval o).run p w = .ok (.enter f (args.map a.eval)) w := by
    simp [execOp, ho, resolve, invoke, Deferred.ofValue, e1, hen, Result.andThen]
  rw [this, Oper.upon_enter]
  refine hc.mono ?_
  rintro e w' ⟨v, rfl, h1, h2⟩
  exact hK B _ w' (post_value hi hd h2 h1)
theorem ok_pure (hO : ∀ i ∈ L, i.Ok p ρ) {c : AV} {rd : List Nat} (h : pureA p L lk o.op = some (c, rd)) (hd : okD nt o.dst = true) (hi : Inv vt w0 nt B a w) (H : ∀ x ∈ rdOs o.op ++ rd, ∀ c, lk x = some c → LocH ρ B a w x c)
    {rd' : List Nat} {K : Act → World → Prop} (hK : ∀ B' a' w', Post ρ vt w0 nt ⟨rd', wrD o.dst c, none⟩ B a w B' a' w' → K a' w') : Oper.wp p o a w K Q := by
  obtain ⟨u, h1, h2⟩ := makes_any hO h (fun x hx y hy c hc => H y (List.mem_append.2 (.inl (by unfold rdOs; exact List.mem_flatMap.2 ⟨x, hx, hy⟩))) c hc) (fun y hy c hc => H y (List.mem_append.2 (.inr hy)) c hc)
  unfold Oper.wp
  rw [h1, Oper.upon_value]
  exact hK B _ w (post_value hi hd (Below.refl _ _) h2)
theorem effO_ok (hC : ∀ i ∈ C, i.Ok0 p ρ w0) (hO : ∀ i ∈ L, i.Ok p ρ) {vts new rest : List (TypeId × Nat)} {e : Eff} (h : effO p C L nt lk vts o = some (e, new)) (hvt : vt = vts ++ (new ++ rest)) (hi : Inv vt w0 nt B a w)
    (H : ∀ x ∈ e.rd, ∀ c, lk x = some c → LocH ρ B a w x c) (hn : ∀ v, e.al = some v → B v = none) {K : Act → World → Prop} (hK : ∀ B' a' w', Post ρ vt w0 nt e B a w B' a' w' → K a' w') : Oper.wp p o a w K Q := by
  unfold effO at h
  split at h
  · cases h
  · rename_i hd
    have hd : okD nt o.dst = true := by simpa using hd
    have hpv : ∀ {h : (match pureA p L lk o.op with | some (c, rd) => some (Eff.mk (rdOs o.op ++ rd) (wrD o.dst c) none, ([] : List (TypeId × Nat))) | none => none) = some (e, new)}, Oper.wp p o a w K Q := by
      intro h
      split at h
      · rename_i c rd hp
        simp at h; obtain ⟨rfl, rfl⟩ := h
        exact ok_pure hO hp hd hi H hK
      · cases h
    dsimp only at h
    split at h
    · -- alloc
      rename_i t ho
      split at h
      · rename_i d z hdd hz
        split at h
        · rename_i hc
          simp at h; obtain ⟨rfl, rfl⟩ := h
          obtain ⟨zv, hz1, hz2⟩ := zeroL_holds (ρ := ρ) (B := B) (w := w) hz
          have hrun : (execOp a.eval o).run p w = .ok (.value (.pointer (some ⟨w.heap.size, 0, none⟩))) (w.alloc (.cells zv.cells t)) := by
            unfold execOp; rw [ho]
            simp only [Instr.alloc, Sem.run_bind, hz1, Result.andThen, newVar, newRow, Go.newObj, Sem.run, Sem.run_pure]; rfl
          unfold Oper.wp
          rw [hrun, Oper.upon_value, hdd]
          rw [hdd] at hd
          exact hK _ _ _ (post_new hi hd hc.1 hc.2.1 hz2 (by rw [hvt]; simp) (hn _ rfl) hc.2.2)
        · cases h
      · cases h
    · -- box
      rename_i t x ho
      split at h
      · rename_i d s hdd hs
        split at h
        · rename_i hc
          simp at h; obtain ⟨rfl, rfl⟩ := h
          have e2 := evS_k (fun y hy c hc => H y hy c hc) hs
          have hrun : (execOp a.eval o).run p w = .ok (.value (.pointer (some ⟨w.heap.size, 0, none⟩))) (w.alloc (.cells (a.eval x).cells t)) := by
            unfold execOp; rw [ho]
            simp only [Instr.box, Sem.run_bind, Result.andThen, newVar, newRow, Go.newObj, Sem.run, Sem.run_pure]; rfl
          unfold Oper.wp
          rw [hrun, Oper.upon_value, hdd]
          rw [hdd] at hd
          exact hK _ _ _ (post_new hi hd hc.1 hc.2.1 e2.cells (by rw [hvt]; simp) (hn _ rfl) hc.2.2)
        · cases h
      · cases h
    · -- store
      rename_i t x y ho
      split at h
      · rename_i v off s hdd hx hy
        split at h
        · rename_i ty n hv
          split at h
          · rename_i hc
            simp at h; obtain ⟨rfl, rfl⟩ := h
            exact ok_store ho hdd hx hy (by rw [hvt, List.getElem?_append_left (List.getElem?_eq_some_iff.1 hv).1]; exact hv) hc.1 hc.2.1 hc.2.2.1 hc.2.2.2 hi (fun z hz c hc => H z (List.mem_append.2 (.inl hz)) c hc) (fun z hz c hc => H z (List.mem_append.2 (.inr hz)) c hc) hK
          · cases h
        · cases h
      · cases h
    · -- call
      rename_i k ho
      split at h
      · rename_i z hk
        split at h
        · rename_i f xs hz hxs
          cases hr : findC C f xs with
          | none => rw [hr] at h; cases h
          | some r =>
            rw [hr] at h; simp at h; obtain ⟨rfl, rfl⟩ := h
            rw [ho] at H
            exact ok_call hC ho hk hz hxs hr hd hi (fun x hx y hy c hc => H y (by unfold rdOs; exact List.mem_flatMap.2 ⟨x, hx, hy⟩) c hc) hK
        · cases h
      · exact hpv (h := h)
    · exact hpv (h := h)
theorem effG_ok (hC : ∀ i ∈ C, i.Ok0 p ρ w0) (hO : ∀ i ∈ L, i.Ok p ρ) {vts new rest : List (TypeId × Nat)} {e : Eff} {j : Nat} (hj : ops[j]? = some o) (h : effG p C L nt ops lk vts o = some (e, new)) (hvt : vt = vts ++ (new ++ rest)) :
    OpOk p ρ vt w0 nt ops Q j lk e := by
  intro B a w hi H hn K hK
  unfold effG at h
  unfold wpOp
  rw [hj]
  show if Region.wanted o (yielded ops a.tmps) = true then _ else _
  split at h
  · rename_i hg
    rw [if_pos (by unfold Region.wanted; rw [hg])]
    exact .inl (effO_ok hC hO h hvt hi H hn hK)
  · rename_i g b hg
    split at h
    · rename_i t ht
      split at h
      · rename_i x hx
        have hy : t ∈ e.rd → yielded ops a.tmps g = some x := fun hm => by
          have e1 : a.eval (.tmp t) = .bool x := evA_k (fun y hy c hc => by
            simp only [rdO, List.mem_singleton] at hy; subst hy; exact H _ hm c hc) hx
          have e2 : (ops[g]?).bind (·.dst) = some t := by
            unfold dstOf at ht
            cases ho : ops[g]? with
            | none => rw [ho] at ht; cases ht
            | some o => rw [ho] at ht; exact ht
          have e3 : a.tmps[t]? = some (.bool x) := by
            simp only [Act.eval, Array.getD_eq_getD_getElem?] at e1
            cases hq : a.tmps[t]? with
            | none => rw [hq] at e1; cases e1
            | some u => rw [hq] at e1; simp at e1; rw [e1]
          unfold yielded
          rw [e2]
          simp only [Option.bind_some, e3]
        split at h
        · rename_i hxb
          cases he : effO p C L nt lk vts o with
          | none => rw [he] at h; cases h
          | some q =>
            rw [he] at h
            obtain ⟨e0, new0⟩ := q
            simp at h
            obtain ⟨rfl, rfl⟩ := h
            rw [if_pos (by unfold Region.wanted; rw [hg]; show (yielded ops a.tmps g == some b) = true; rw [hy (by simp), hxb]; simp)]
            exact .inl (effO_ok hC hO he hvt hi (fun y hy c hc => H y (List.mem_cons_of_mem _ hy) c hc) hn (fun B' a' w' hp => hK B' a' w' ⟨hp.le, hp.inv, hp.wr, hp.keep, hp.new⟩))
        · rename_i hxb
          split at h
          · rename_i hd
            simp at h; obtain ⟨rfl, rfl⟩ := h
            rw [if_neg (by unfold Region.wanted; rw [hg]; show ¬ (yielded ops a.tmps g == some b) = true; rw [hy (by simp)]; simpa using hxb)]
            exact hK B _ w (post_value hi hd (Below.refl _ _) rfl)
          · cases h
      · rename_i hx
        split at h
        · rename_i hd
          simp at h; obtain ⟨rfl, rfl⟩ := h
          have e1 : a.eval (.tmp t) = undef := evA_k (fun y hy c hc => by
            simp only [rdO, List.mem_singleton] at hy; subst hy; exact H _ (by simp) c hc) hx
          have e2 : (ops[g]?).bind (·.dst) = some t := by
            unfold dstOf at ht
            cases ho : ops[g]? with
            | none => rw [ho] at ht; cases ht
            | some o => rw [ho] at ht; exact ht
          have e4 : yielded ops a.tmps g = none := by
            unfold yielded
            rw [e2]
            simp only [Option.bind_some]
            simp only [Act.eval, Array.getD_eq_getD_getElem?] at e1
            cases hq : a.tmps[t]? with
            | none => rfl
            | some u => rw [hq] at e1; simp at e1; rw [e1]; rfl
          rw [if_neg (by unfold Region.wanted; rw [hg]; show ¬ (yielded ops a.tmps g == some b) = true; rw [e4]; simp)]
          exact hK B _ w (post_value hi hd (Below.refl _ _) rfl)
        · cases h
      · cases h
    · cases h
end
end Go.Proofs.YtfhinmdhjlmikaaGreatDoor
namespace Go.Proofs.YtfhinmdhjlmikaaGreatDoor
set_option linter.unusedSimpArgs false
set_option linter.unusedVariables false
set_option maxRecDepth 100000
open Go.RowKit
def predsM (o : Oper) : List Nat := (o.after.toList.filter (Region.binds .any)).map (·.on)
def regGo (p : Program) (C : List Inst) (L : List OIns) (nt : Nat) (ops : Array Oper) (b : Nat → Option AV) : List Oper → Nat → List Nat → List (TypeId × Nat) → Effs → Option (Effs × List (TypeId × Nat))
  | [], _, _, vts, effs => some (effs, vts)
  | o :: r, j, ancs, vts, effs =>
    if (predsM o).all (fun k => decide (k < j)) then
      match effG p C L nt ops (lkE b effs) vts o with
      | some (e, new) => if okAdd ((predsM o).foldl (fun m k => m ||| (ancs.getD k 0 ||| 1 <<< k)) 0) effs e then
          regGo p C L nt ops b r (j + 1) (ancs ++ [(predsM o).foldl (fun m k => m ||| (ancs.getD k 0 ||| 1 <<< k)) 0]) (vts ++ new) ((j, e) :: effs) else none
      | none => none
    else none
/-- What is known of slots and variables. -/
structure MS where
  slots : List (Option AV)
  vars : List (TypeId × List (Option Leaf))
def msGet (s : MS) (x : Nat) : Option AV :=
  if x < 100000 then (match s.slots[x]? with | some c => c | none => none) else
  match s.vars[x / 100000 - 1]? with
  | some v => (match v.2[x % 100000]? with | some (some l) => some (.v (.one l)) | _ => none)
  | none => none
def leafA : AV → Option Leaf
  | .v (.one l) => some l
  | _ => none
def setC : List (TypeId × List (Option Leaf)) → Nat → Nat → Option Leaf → List (TypeId × List (Option Leaf))
  | [], _, _, _ => []
  | v :: r, 0, k, l => (v.1, v.2.set k l) :: r
  | v :: r, i + 1, k, l => v :: setC r i k l
def msSet (s : MS) (q : Nat × AV) : MS :=
  if q.1 < 100000 then { s with slots := s.slots.set q.1 (some q.2) } else { s with vars := setC s.vars (q.1 / 100000 - 1) (q.1 % 100000) (leafA q.2) }
def msWr (s : MS) : List (Nat × AV) → MS
  | [] => s
  | q :: r => msSet (msWr s r) q
def commit (s : MS) : Effs → MS
  | [] => s
  | (_, e) :: r => msWr (commit s r) e.wr
def vtOf (s : MS) : List (TypeId × Nat) := s.vars.map fun x => (x.1, x.2.length)
def msExt (s : MS) (new : List (TypeId × Nat)) : MS := { s with vars := s.vars ++ new.map fun x => (x.1, List.replicate x.2 none) }
def regX (p : Program) (C : List Inst) (L : List OIns) (nt : Nat) (ops : Array Oper) (s : MS) : Option MS :=
  match regGo p C L nt ops (msGet s) ops.toList 0 [] (vtOf s) [] with
  | some (effs, vts) => some (commit (msExt s (vts.drop s.vars.length)) effs)
  | none => none
section
variable {p : Program} {ρ : Rho} {B : Blk} {a : Act} {w w0 : World} {C : List Inst} {L : List OIns} {nt : Nat} {Q : Exit → Act → World → Prop} {o : Oper} {ops : Array Oper} {b : Nat → Option AV}
theorem regGo_pre : ∀ {l : List Oper} {j : Nat} {ancs : List Nat} {vts vts' : List (TypeId × Nat)} {effs effs' : Effs}, regGo p C L nt ops b l j ancs vts effs = some (effs', vts') → ∃ rest, vts' = vts ++ rest
  | [], _, _, vts, vts', _, _, h => by simp [regGo] at h; exact ⟨[], by rw [h.2]; simp⟩
  | o :: r, j, ancs, vts, vts', effs, effs', h => by
    simp only [regGo] at h
    split at h
    · split at h
      · rename_i e new _
        split at h
        · obtain ⟨rest, hr⟩ := regGo_pre h
          exact ⟨new ++ rest, by rw [hr, List.append_assoc]⟩
        · cases h
      · cases h
    · cases h
theorem effO_al {lk : Nat → Option AV} {vts new : List (TypeId × Nat)} {e : Eff} (h : effO p C L nt lk vts o = some (e, new)) : ∀ v, e.al = some v → v = vts.length ∧ new.length = 1 := by
  unfold effO at h
  split at h
  · cases h
  · dsimp only at h
    have hpv : ∀ {h : (match pureA p L lk o.op with | some (c, rd) => some (Eff.mk (rdOs o.op ++ rd) (wrD o.dst c) none, ([] : List (TypeId × Nat))) | none => none) = some (e, new)}, ∀ v, e.al = some v → v = vts.length ∧ new.length = 1 := by
      intro h
      split at h
      · simp at h; obtain ⟨rfl, rfl⟩ := h
        intro v hv; cases hv
      · cases h
    split at h
    · split at h
      · split at h
        · simp at h; obtain ⟨rfl, rfl⟩ := h
          intro v hv; injection hv with hv; exact ⟨hv.symm, rfl⟩
        · cases h
      · cases h
    · split at h
      · split at h
        · simp at h; obtain ⟨rfl, rfl⟩ := h
          intro v hv; injection hv with hv; exact ⟨hv.symm, rfl⟩
        · cases h
      · cases h
    · split at h
      · split at h
        · split at h
          · simp at h; obtain ⟨rfl, rfl⟩ := h
            intro v hv; cases hv
          · cases h
        · cases h
      · cases h
    · split at h
      · split at h
        · rename_i f xs _ _
          cases hr : findC C f xs with
          | none => rw [hr] at h; cases h
          | some r => rw [hr] at h; simp at h; obtain ⟨rfl, rfl⟩ := h; intro v hv; cases hv
        · cases h
      · exact hpv (h := h)
    · exact hpv (h := h)
theorem effG_al {lk : Nat → Option AV} {vts new : List (TypeId × Nat)} {e : Eff} (h : effG p C L nt ops lk vts o = some (e, new)) : ∀ v, e.al = some v → v = vts.length ∧ new.length = 1 := by
  unfold effG at h
  split at h
  · exact effO_al h
  · split at h
    · split at h
      · split at h
        · cases he : effO p C L nt lk vts o with
          | none => rw [he] at h; cases h
          | some q =>
            rw [he] at h
            obtain ⟨e0, new0⟩ := q
            simp at h
            obtain ⟨rfl, rfl⟩ := h
            intro v hv
            exact effO_al he v hv
        · split at h
          · simp at h; obtain ⟨rfl, rfl⟩ := h; intro v hv; cases hv
          · cases h
      · split at h
        · simp at h; obtain ⟨rfl, rfl⟩ := h; intro v hv; cases hv
        · cases h
      · cases h
    · cases h
theorem foldl_bits {f : Nat → Nat} : ∀ {l : List Nat} {m0 i : Nat}, (l.foldl (fun m k => m ||| (f k ||| 1 <<< k)) m0).testBit i = true → m0.testBit i = true ∨ ∃ k ∈ l, (f k).testBit i = true ∨ i = k
  | [], _, _, h => .inl h
  | k :: l, m0, i, h => by
    rcases foldl_bits (l := l) h with h | ⟨k', h1, h2⟩
    · simp only [Nat.testBit_or, Bool.or_eq_true] at h
      rcases h with h | h | h
      · exact .inl h
      · exact .inr ⟨k, by simp, .inl h⟩
      · rw [Nat.one_shiftLeft, Nat.testBit_two_pow] at h
        have h' : k = i := by simpa using h
        exact .inr ⟨k, by simp, .inr h'.symm⟩
    · exact .inr ⟨k', List.mem_cons_of_mem _ h1, h2⟩
theorem preds_at {j : Nat} (h : ops[j]? = some o) : preds .any ops j = predsM o := by unfold preds predsM; rw [h]
theorem regGo_good (hC : ∀ i ∈ C, i.Ok0 p ρ w0) (hO : ∀ i ∈ L, i.Ok p ρ) {nb : Nat} : ∀ {l : List Oper} {j : Nat} {ancs : List Nat} {vts vts' : List (TypeId × Nat)} {effs effs' : Effs}, regGo p C L nt ops b l j ancs vts effs = some (effs', vts') →
    l = ops.toList.drop j → j ≤ ops.size → effs.length = j → ancs.length = j → (∀ k, k < j → AncOk .any ops (ancs.getD k 0) k) → (∀ k, k < j → ∀ i ∈ preds .any ops k, i < k) → nb ≤ vts.length → (∀ q ∈ effs, ∀ v, q.2.al = some v → v < vts.length) →
    Good p ρ vts' w0 nt .any ops Q b nb effs → Good p ρ vts' w0 nt .any ops Q b nb effs' ∧ effs'.length = ops.size ∧ (∀ k, k < ops.size → ∀ i ∈ preds .any ops k, i < k) ∧ (∀ q ∈ effs', ∀ v, q.2.al = some v → v < vts'.length)
  | [], j, ancs, vts, vts', effs, effs', h, hl, hj, he, _, _, hd, _, hal, hg => by
    simp [regGo] at h
    obtain ⟨rfl, rfl⟩ := h
    have : ops.size ≤ j := by
      have := congrArg List.length hl
      simp at this; omega
    have hje : j = ops.size := by omega
    exact ⟨hg, by rw [he, hje], by rw [← hje]; exact hd, hal⟩
  | o :: r, j, ancs, vts, vts', effs, effs', h, hl, hj, he, hna, ha, hd, hnb, hal, hg => by
    have hjl : j < ops.size := by
      have := congrArg List.length hl
      simp at this; omega
    have hoj : ops[j]? = some o := by
      have := congrArg (fun x => x[0]?) hl
      simp only [List.getElem?_cons_zero, List.getElem?_drop, Nat.add_zero, Array.getElem?_toList] at this
      exact this.symm
    have hr : r = ops.toList.drop (j + 1) := by
      have := congrArg List.tail hl
      simpa using this
    simp only [regGo] at h
    split at h
    · rename_i hpr
      have hpr' : ∀ k ∈ predsM o, k < j := fun k hk => by simpa using List.all_eq_true.1 hpr k hk
      split at h
      · rename_i e new heff
        split at h
        · rename_i hok
          obtain ⟨rest, hrest⟩ := regGo_pre h
          have halv := effG_al heff
          have hanc : AncOk .any ops ((predsM o).foldl (fun m k => m ||| (ancs.getD k 0 ||| 1 <<< k)) 0) j := by
            intro i hi T hT hp
            rcases foldl_bits (f := fun k => ancs.getD k 0) hi with h | ⟨k, h1, h2 | h2⟩
            · simp at h
            · have hkT := hp k (by rw [preds_at hoj]; exact h1)
              exact ha k (hpr' k h1) i h2 T hT (fun i' hi' => hT k hkT i' hi')
            · rw [h2]; exact hp k (by rw [preds_at hoj]; exact h1)
          refine regGo_good hC hO h hr (by omega) (by simp [he]) (by simp [hna]) (fun k hk => ?_) (fun k hk i hi => ?_) (by simp; omega) (fun q hq v hv => ?_) ⟨he.symm, ?_, ⟨_, hanc, hok⟩, fun v hv => ?_, hg⟩
          · by_cases hkj : k < j
            · have := ha k hkj
              rwa [List.getD_eq_getElem?_getD, List.getElem?_append_left (by omega), ← List.getD_eq_getElem?_getD]
            · obtain rfl : k = j := by omega
              rw [List.getD_eq_getElem?_getD, List.getElem?_append_right (by omega)]
              simpa [hna] using hanc
          · by_cases hkj : k < j
            · exact hd k hkj i hi
            · obtain rfl : k = j := by omega
              rw [preds_at hoj] at hi; exact hpr' i hi
          · rcases List.mem_cons.1 hq with rfl | hq
            · have := halv v hv
              simp; omega
            · have := hal q hq v hv
              simp; omega
          · exact effG_ok hC hO hoj heff (by rw [hrest, List.append_assoc])
          · have := halv v hv
            exact ⟨by omega, fun q hq hqv => by have := hal q hq v hqv; omega⟩
        · cases h
      · cases h
    · cases h
/-- What is known holds. -/
def MSt (ρ : Rho) (w0 : World) (nt : Nat) (s : MS) (a : Act) (w : World) : Prop :=
  ∃ B, Inv (vtOf s) w0 nt B a w ∧ (∀ x c, msGet s x = some c → LocH ρ B a w x c) ∧ ∀ v, B v ≠ none → v < s.vars.length
theorem setC_get : ∀ {vs : List (TypeId × List (Option Leaf))} {i k : Nat} {l : Option Leaf} {i' : Nat}, (setC vs i k l)[i']? = if i' = i then (vs[i]?).map (fun v => (v.1, v.2.set k l)) else vs[i']?
  | [], i, k, l, i' => by simp [setC]
  | v :: r, 0, k, l, 0 => by simp [setC]
  | v :: r, 0, k, l, i' + 1 => by simp [setC]
  | v :: r, i + 1, k, l, 0 => by simp [setC]
  | v :: r, i + 1, k, l, i' + 1 => by
    simp only [setC, List.getElem?_cons_succ, setC_get (vs := r), Nat.add_right_cancel_iff]
theorem setC_map : ∀ {vs : List (TypeId × List (Option Leaf))} {i k : Nat} {l : Option Leaf}, (setC vs i k l).map (fun x => (x.1, x.2.length)) = vs.map (fun x => (x.1, x.2.length))
  | [], _, _, _ => rfl
  | v :: r, 0, k, l => by simp [setC]
  | v :: r, i + 1, k, l => by simp [setC, setC_map (vs := r)]
theorem msSet_get {s : MS} {q : Nat × AV} {x : Nat} {c : AV} (h : msGet (msSet s q) x = some c) : (x = q.1 ∧ c = q.2) ∨ (x ≠ q.1 ∧ msGet s x = some c) := by
  unfold msSet at h
  split at h
  · rename_i hq
    unfold msGet at h ⊢
    simp only at h ⊢
    split at h
    · rename_i hx
      rw [if_pos hx]
      by_cases e : x = q.1
      · subst e
        rw [List.getElem?_set_self'] at h
        cases hs : s.slots[q.1]? with
        | none => rw [hs] at h; simp at h
        | some y => rw [hs] at h; simp at h; exact .inl ⟨rfl, h.symm⟩
      · rw [List.getElem?_set_ne (fun h => e h.symm)] at h
        exact .inr ⟨e, h⟩
    · rename_i hx
      rw [if_neg hx]
      exact .inr ⟨fun e => hx (by rw [e]; exact hq), h⟩
  · rename_i hq
    unfold msGet at h ⊢
    simp only at h ⊢
    split at h
    · rename_i hx
      rw [if_pos hx]
      exact .inr ⟨fun e => hq (by rw [← e]; exact hx), h⟩
    · rename_i hx
      rw [if_neg hx]
      rw [setC_get] at h
      by_cases e : x / 100000 - 1 = q.1 / 100000 - 1
      · rw [if_pos e] at h
        cases hv : s.vars[q.1 / 100000 - 1]? with
        | none => rw [hv] at h; simp at h
        | some v =>
          rw [hv] at h
          simp only [Option.map_some] at h
          by_cases e2 : x % 100000 = q.1 % 100000
          · have hxq : x = q.1 := by
              have h1 := Nat.div_add_mod x 100000
              have h2 := Nat.div_add_mod q.1 100000
              omega
            rw [e2] at h
            cases hs : v.2[q.1 % 100000]? with
            | none => rw [List.getElem?_set_self', hs] at h; simp at h
            | some y =>
              rw [List.getElem?_set_self (List.getElem?_eq_some_iff.1 hs).1] at h
              cases hl : leafA q.2 with
              | none => rw [hl] at h; simp at h
              | some l =>
                rw [hl] at h; simp at h
                refine .inl ⟨hxq, ?_⟩
                unfold leafA at hl
                split at hl
                · rename_i l' hq2
                  injection hl with hl; subst hl
                  rw [hq2]; exact h.symm
                · cases hl
          · rw [List.getElem?_set_ne (fun h => e2 h.symm)] at h
            refine .inr ⟨fun e' => e2 (by rw [e']), ?_⟩
            rw [e, hv]; exact h
      · rw [if_neg e] at h
        exact .inr ⟨fun e' => e (by rw [e']), h⟩
theorem msWr_get {s : MS} {x : Nat} {c : AV} : ∀ {l : List (Nat × AV)}, msGet (msWr s l) x = some c → (match l.find? (fun q => q.1 == x) with | some q => some q.2 | none => msGet s x) = some c
  | [], h => h
  | q :: l, h => by
    rcases msSet_get (s := msWr s l) h with ⟨e1, e2⟩ | ⟨h1, h2⟩
    · rw [List.find?_cons_of_pos (by simpa using e1.symm), e2]
    · rw [List.find?_cons_of_neg (by simpa using fun e => h1 e.symm)]
      exact msWr_get h2
theorem commit_get {s : MS} {x : Nat} {c : AV} : ∀ {r : Effs}, msGet (commit s r) x = some c → lkE (msGet s) r x = some c
  | [], h => h
  | (_, e) :: r, h => by
    have h1 := msWr_get (s := commit s r) h
    simp only [lkE]
    split at h1
    · rename_i q hq; rw [hq]; exact h1
    · rename_i hq; rw [hq]; exact commit_get h1
theorem lkE_mono {b b' : Nat → Option AV} (h : ∀ x c, b x = some c → b' x = some c) : ∀ {r : Effs} {x : Nat} {c : AV}, lkE b r x = some c → lkE b' r x = some c
  | [], x, c, e => h x c e
  | (_, e) :: r, x, c, he => by
    simp only [lkE] at he ⊢
    split at he
    · exact he
    · exact lkE_mono h he
theorem msExt_get {s : MS} {new : List (TypeId × Nat)} {x : Nat} {c : AV} (h : msGet (msExt s new) x = some c) : msGet s x = some c := by
  unfold msGet msExt at *
  simp only at *
  split at h
  · rename_i hx; rw [if_pos hx]; exact h
  · rename_i hx
    rw [if_neg hx]
    by_cases hv : x / 100000 - 1 < s.vars.length
    · rw [List.getElem?_append_left hv] at h; exact h
    · rw [List.getElem?_append_right (by omega)] at h
      exfalso
      split at h
      · rename_i v hv2
        rw [List.getElem?_map] at hv2
        cases hn : new[x / 100000 - 1 - s.vars.length]? with
        | none => rw [hn] at hv2; cases hv2
        | some y =>
          rw [hn] at hv2; simp at hv2; subst hv2
          split at h
          · rename_i l hl
            simp only [List.getElem?_replicate] at hl
            split at hl <;> cases hl
          · cases h
      · cases h
theorem msSet_vt {s : MS} {q : Nat × AV} : vtOf (msSet s q) = vtOf s := by
  unfold msSet
  split
  · rfl
  · exact setC_map
theorem msWr_vt {s : MS} : ∀ {l : List (Nat × AV)}, vtOf (msWr s l) = vtOf s
  | [] => rfl
  | q :: l => by show vtOf (msSet (msWr s l) q) = _; rw [msSet_vt, msWr_vt]
theorem commit_vt {s : MS} : ∀ {r : Effs}, vtOf (commit s r) = vtOf s
  | [] => rfl
  | (_, e) :: r => by show vtOf (msWr (commit s r) e.wr) = _; rw [msWr_vt, commit_vt]
theorem vtOf_len {s : MS} : (vtOf s).length = s.vars.length := by simp [vtOf]
theorem vtOf_ext {s : MS} {new : List (TypeId × Nat)} : vtOf (msExt s new) = vtOf s ++ new := by
  have : ∀ l : List (TypeId × Nat), (l.map fun x => (x.1, List.replicate x.2 (none : Option Leaf))).map (fun x => (x.1, x.2.length)) = l := fun l => by
    induction l with
    | nil => rfl
    | cons x l ih => simp only [List.map_cons, ih, List.length_replicate]
  simp only [vtOf, msExt, List.map_append, this]
theorem Inv.ext {vt : List (TypeId × Nat)} (h : Inv vt w0 nt B a w) (new : List (TypeId × Nat)) : Inv (vt ++ new) w0 nt B a w :=
  ⟨fun v g hv => by
    obtain ⟨h1, cs, ty, h2, h3⟩ := h.blk v g hv
    exact ⟨h1, cs, ty, by rw [List.getElem?_append_left (List.getElem?_eq_some_iff.1 h2).1]; exact h2, h3⟩, h.inj, h.below, h.size, h.dfr⟩
theorem regX_sound (hC : ∀ i ∈ C, i.Ok0 p ρ w0) (hO : ∀ i ∈ L, i.Ok p ρ) (hm : p.follows .mixedOrders = true) {s s' : MS} {id : Nat} {draw : Bool} (h : regX p C L nt ops s = some s') (hs : MSt ρ w0 nt s a w)
    (hQ : ∀ a' w', MSt ρ w0 nt s' a' w' → Q .normal a' w') : (Code.region id ops draw).wp p Q a w := by
  unfold regX at h
  split at h
  · rename_i effs vts he
    simp at h; subst h
    obtain ⟨rest, hrest⟩ := regGo_pre he
    obtain ⟨hg, hlen, hdown, hal⟩ := regGo_good (ρ := ρ) (w0 := w0) (Q := Q) (nb := s.vars.length) hC hO he (by simp) (by omega) rfl rfl (fun k hk => by omega) (fun k hk => by omega) (by rw [vtOf_len]; omega) (fun q hq => by cases hq) trivial
    obtain ⟨B, hi, hv, hB⟩ := hs
    have hnew : vts.drop s.vars.length = rest := by rw [hrest, ← vtOf_len, List.drop_left]
    have start : ∀ w1, Below w.heap.size w w1 → StT ρ vts w0 nt (msGet s) s.vars.length effs [] a w1 := fun w1 hb => by
      refine StT.start (B := B) ?_ (fun x c hx => (hv x c hx).below BLe.refl hb (fun _ => rfl)) hB
      rw [hrest]
      exact (hi.below' hb rfl rfl).ext rest
    have fin : ∀ a' w', StF ρ vts w0 nt (lkE (msGet s) effs) s.vars.length effs a' w' → Q .normal a' w' := fun a' w' ⟨B', h1, h2, h3⟩ => by
      refine hQ a' w' ⟨B', ?_, fun x c hx => h2 x c (lkE_mono (fun x c h => msExt_get h) (commit_get hx)), fun v hv => ?_⟩
      · rw [commit_vt, hnew, vtOf_ext, ← hrest]; exact h1
      · have hl : (commit (msExt s (vts.drop s.vars.length)) effs).vars.length = vts.length := by rw [← vtOf_len, commit_vt, hnew, vtOf_ext, ← hrest]
        rw [hl]
        rcases h3 v hv with h | ⟨q, hq, hqv⟩
        · have : s.vars.length ≤ vts.length := by rw [hrest, List.length_append, vtOf_len]; omega
          omega
        · exact hal q hq v hqv
    cases draw with
    | true => exact wp_region_any hm (any_sound hg hlen hdown (start _ (bel_drewN (Below.refl _ _) 1)) fin)
    | false => exact wp_region (text_sound hg hlen hdown (start _ (Below.refl _ _)) fin)
  · cases h
end
end Go.Proofs.YtfhinmdhjlmikaaGreatDoor
namespace Go.Proofs.YtfhinmdhjlmikaaGreatDoor
set_option linter.unusedSimpArgs false
set_option linter.unusedVariables false
set_option maxRecDepth 100000
open Go.RowKit
inductive Ex where
  | nrm
  | ext (id : Nat)
  | ret
  deriving DecidableEq
def Ex.exit : Ex → Exit
  | .nrm => .normal
  | .ext id => .exit id
  | .ret => .ret
def exec (p : Program) (C : List Inst) (L : List OIns) (nt : Nat) : Nat → Code → MS → Option (Ex × MS)
  | 0, _, _ => none
  | n + 1, c, s => match c with
    | .skip => some (.nrm, s)
    | .region _ ops _ => (regX p C L nt ops s).map fun s => (.nrm, s)
    | .seq a b => match exec p C L nt n a s with
      | some (.nrm, s1) => exec p C L nt n b s1
      | r => r
    | .cond c x y => match evL (msGet s) c with
      | some (.b true) => exec p C L nt n x s
      | some (.b false) => exec p C L nt n y s
      | _ => none
    | .block id b => match exec p C L nt n b s with
      | some (.ext i, s1) => if i = id then some (.nrm, s1) else some (.ext i, s1)
      | r => r
    | .loop b => match exec p C L nt n b s with
      | some (.nrm, s1) => exec p C L nt n (.loop b) s1
      | r => r
    | .exit id => some (.ext id, s)
    | .ret => some (.ret, s)
    | _ => none
section
variable {p : Program} {ρ : Rho} {a : Act} {w w0 : World} {C : List Inst} {L : List OIns} {nt : Nat} {Q : Exit → Act → World → Prop}
/-- A loop goes through its rounds one after the other. -/
theorem wp_loop_rounds {c : Code} (I : Nat → Act → World → Prop) (N : Nat) (h0 : I 0 a w) (round : ∀ k a w, k ≤ N → I k a w → c.wp p (Exit.then (fun a' w' => k < N ∧ I (k + 1) a' w') Q) a w) : (Code.loop c).wp p Q a w := by
  intro b k cs
  have key : ∀ n j a w, N - j = n → j ≤ N → I j a w →
      ∃ e a' w', Q e a' w' ∧ Arrives p (lone (b.at a (.code c :: .inLoop c :: k)) cs w) b k cs e a' w' := by
    intro n
    induction n with
    | zero =>
      intro j a w hn hj hI
      obtain ⟨e, a₁, w₁, hq, harr⟩ := round j a w hj hI b (.inLoop c :: k) cs
      cases e with
      | normal => obtain ⟨h, _⟩ := hq; omega
      | exit id => exact ⟨_, a₁, w₁, hq, .pass (x := .inLoop c) rfl (fun _ _ => .inl (by simp)) harr⟩
      | goto l => exact ⟨_, a₁, w₁, hq, .pass (x := .inLoop c) rfl (fun _ _ => .inl (by simp)) harr⟩
      | ret => exact ⟨_, a₁, w₁, hq, .pass (x := .inLoop c) rfl (fun _ _ => .inl (by simp)) harr⟩
      | panic ch => exact ⟨_, a₁, w₁, hq, .pass (x := .inLoop c) rfl (fun _ _ => .inl (by simp)) harr⟩
      | outgrown => exact ⟨_, a₁, w₁, hq, .pass (x := .inLoop c) rfl (fun _ _ => .inl (by simp)) harr⟩
    | succ n ih =>
      intro j a w hn hj hI
      obtain ⟨e, a₁, w₁, hq, harr⟩ := round j a w hj hI b (.inLoop c :: k) cs
      cases e with
      | normal =>
        obtain ⟨hlt, hI₁⟩ := hq
        obtain ⟨e₂, a₂, w₂, hq₂, harr₂⟩ := ih (j + 1) a₁ w₁ (by omega) (by omega) hI₁
        exact ⟨e₂, a₂, w₂, hq₂, .of_steps (Steps.trans harr (.one step_inLoop)) harr₂⟩
      | exit id => exact ⟨_, a₁, w₁, hq, .pass (x := .inLoop c) rfl (fun _ _ => .inl (by simp)) harr⟩
      | goto l => exact ⟨_, a₁, w₁, hq, .pass (x := .inLoop c) rfl (fun _ _ => .inl (by simp)) harr⟩
      | ret => exact ⟨_, a₁, w₁, hq, .pass (x := .inLoop c) rfl (fun _ _ => .inl (by simp)) harr⟩
      | panic ch => exact ⟨_, a₁, w₁, hq, .pass (x := .inLoop c) rfl (fun _ _ => .inl (by simp)) harr⟩
      | outgrown => exact ⟨_, a₁, w₁, hq, .pass (x := .inLoop c) rfl (fun _ _ => .inl (by simp)) harr⟩
  obtain ⟨e, a', w', hq, harr⟩ := key (N - 0) 0 a w rfl (by omega) h0
  exact ⟨e, a', w', hq, .of_steps (.one step_loop) harr⟩
theorem evL_ms {s : MS} {x : Operand} {l : Leaf} (hs : MSt ρ w0 nt s a w) (h : evL (msGet s) x = some l) : ∃ B, l.holds ρ B w (a.eval x) := by
  obtain ⟨B, _, hv, _⟩ := hs
  exact ⟨B, evL_k (fun y _ c hc => hv y c hc) h⟩
theorem exec_sound (hC : ∀ i ∈ C, i.Ok0 p ρ w0) (hO : ∀ i ∈ L, i.Ok p ρ) (hm : p.follows .mixedOrders = true) : ∀ {n : Nat} {c : Code} {s s' : MS} {e : Ex} {a : Act} {w : World} {Q : Exit → Act → World → Prop}, exec p C L nt n c s = some (e, s') →
    MSt ρ w0 nt s a w → (∀ a' w', MSt ρ w0 nt s' a' w' → Q e.exit a' w') → c.wp p Q a w
  | 0, _, _, _, _, _, _, _, h, _, _ => by simp [exec] at h
  | n + 1, c, s, s', e, a, w, Q, h, hs, hQ => by
    cases c with
    | skip =>
      simp [exec] at h; obtain ⟨rfl, rfl⟩ := h
      exact wp_skip (hQ a w hs)
    | region id ops draw =>
      simp only [exec] at h
      cases hr : regX p C L nt ops s with
      | none => rw [hr] at h; cases h
      | some s1 =>
        rw [hr] at h; simp at h; obtain ⟨rfl, rfl⟩ := h
        exact regX_sound hC hO hm hr hs hQ
    | seq x y =>
      simp only [exec] at h
      split at h
      · rename_i s1 h1
        refine wp_seq (exec_sound hC hO hm h1 hs (fun a' w' hs' => ?_))
        exact exec_sound hC hO hm h hs' hQ
      · rename_i hne
        refine wp_seq (exec_sound hC hO hm h hs (fun a' w' hs' => ?_))
        cases e with
        | nrm => exact absurd h (hne s')
        | ext id => exact hQ a' w' hs'
        | ret => exact hQ a' w' hs'
    | cond k x y =>
      simp only [exec] at h
      split at h
      · rename_i hk
        obtain ⟨B, hb⟩ := evL_ms hs hk
        exact wp_cond_true hb (exec_sound hC hO hm h hs hQ)
      · rename_i hk
        obtain ⟨B, hb⟩ := evL_ms hs hk
        exact wp_cond_false hb (exec_sound hC hO hm h hs hQ)
      · cases h
    | block id b =>
      simp only [exec] at h
      split at h
      · rename_i i s1 h1
        refine wp_block (exec_sound hC hO hm h1 hs (fun a' w' hs' => ?_))
        split at h
        · rename_i hi
          simp at h; obtain ⟨rfl, rfl⟩ := h
          show if i = id then _ else _
          rw [if_pos hi]; exact hQ a' w' hs'
        · rename_i hi
          simp at h; obtain ⟨rfl, rfl⟩ := h
          show if i = id then _ else _
          rw [if_neg hi]; exact hQ a' w' hs'
      · rename_i hne
        refine wp_block (exec_sound hC hO hm h hs (fun a' w' hs' => ?_))
        cases e with
        | nrm => exact hQ a' w' hs'
        | ext id => exact absurd h (hne id s')
        | ret => exact hQ a' w' hs'
    | loop b =>
      -- the states at the rounds' beginnings
      have key : ∀ (n : Nat) (s : MS), exec p C L nt n (.loop b) s = some (e, s') → ∃ (N : Nat) (S : Nat → MS), S 0 = s ∧ ∀ k, k ≤ N → ∃ m r, m < n ∧ exec p C L nt m b (S k) = some r ∧ ((k < N ∧ r = (.nrm, S (k + 1))) ∨ (k = N ∧ r = (e, s') ∧ r.1 ≠ .nrm)) := by
        intro n
        induction n with
        | zero => intro s h; simp [exec] at h
        | succ n ih =>
          intro s h
          simp only [exec] at h
          split at h
          · rename_i s1 h1
            obtain ⟨N, S, h2, h3⟩ := ih s1 h
            refine ⟨N + 1, fun k => match k with | 0 => s | k + 1 => S k, rfl, fun k hk => ?_⟩
            match k with
            | 0 => exact ⟨n, _, by omega, h1, .inl ⟨by omega, by rw [← h2]⟩⟩
            | k + 1 =>
              obtain ⟨m, r, k1, k2, k3⟩ := h3 k (by omega)
              exact ⟨m, r, by omega, k2, k3.imp (fun ⟨x, y⟩ => ⟨by omega, y⟩) (fun ⟨x, y⟩ => ⟨by omega, y⟩)⟩
          · rename_i hne
            refine ⟨0, fun _ => s, rfl, fun k hk => ⟨n, (e, s'), by omega, h, .inr ⟨by omega, rfl, fun he => hne s' ?_⟩⟩⟩
            simp only at he
            rw [h, he]
      obtain ⟨N, S, h0, hS⟩ := key (n + 1) s h
      refine wp_loop_rounds (fun k a w => MSt ρ w0 nt (S k) a w) N (by rw [h0]; exact hs) (fun k a w hk hI => ?_)
      obtain ⟨m, r, hmn, hr, hor⟩ := hS k hk
      obtain ⟨e1, s1⟩ := r
      refine exec_sound hC hO hm hr hI (fun a' w' hs' => ?_)
      rcases hor with ⟨h1, h2⟩ | ⟨h1, h2, h3⟩
      · simp at h2; obtain ⟨rfl, rfl⟩ := h2
        exact ⟨h1, hs'⟩
      · simp at h2; obtain ⟨rfl, rfl⟩ := h2
        cases e1 with
        | nrm => exact absurd rfl h3
        | ext id => exact hQ a' w' hs'
        | ret => exact hQ a' w' hs'
    | exit id =>
      simp [exec] at h; obtain ⟨rfl, rfl⟩ := h
      exact wp_exit (hQ a w hs)
    | ret =>
      simp [exec] at h; obtain ⟨rfl, rfl⟩ := h
      exact wp_ret (hQ a w hs)
    | _ => simp [exec] at h
termination_by n => n
end
end Go.Proofs.YtfhinmdhjlmikaaGreatDoor
namespace Go.Proofs.YtfhinmdhjlmikaaGreatDoor
set_option linter.unusedSimpArgs false
set_option linter.unusedVariables false
set_option maxRecDepth 100000
open Go.RowKit
def resA1 (p : Program) (s : MS) : ResultVar → Option SV
  | .tmp t => evS (msGet s) (.tmp t)
  | .cell t ty => match pureV p [] (msGet s) (.load ty (.tmp t)) with
    | some (.v x, _) => some x
    | _ => none
def resAs (p : Program) (s : MS) : List ResultVar → Option (List SV)
  | [] => some []
  | r :: rs => match resA1 p s r, resAs p s rs with
    | some x, some xs => some (x :: xs)
    | _, _ => none
def resA (p : Program) (s : MS) (rs : List ResultVar) : Option AV :=
  match resAs p s rs with
  | some [x] => some (.v x)
  | some xs => some (.tup xs)
  | none => none
def Leaf.noPtr : Leaf → Bool
  | .ptr _ _ => false
  | _ => true
def SV.noPtr : SV → Bool
  | .one l => l.noPtr
  | .agg ls => ls.all Leaf.noPtr
def AV.noPtr : AV → Bool
  | .v s => s.noPtr
  | .tup xs => xs.all SV.noPtr
  | .any => true
def startS (args : List SV) (n : Nat) : List (Option AV) := args.map (fun s => some (.v s)) ++ List.replicate (n - args.length) none
/-- The answer of a function. -/
def runFn (p : Program) (C : List Inst) (L : List OIns) (fn : Func) (args : List SV) (fuel : Nat) : Option AV :=
  if args.length ≤ fn.ntmps ∧ fn.ntmps ≤ 100000 then
    match fn.body with
    | some c => match exec p C L fn.ntmps fuel c ⟨startS args fn.ntmps, []⟩ with
      | some (.ext _, _) => none
      | some (_, s) => match resA p s fn.results.toList with
        | some r => if r.noPtr then some r else none
        | none => none
      | none => none
    | none => none
  else none
def resM (tmps : Array Value) : ResultVar → Sem Value
  | .tmp t => pure (tmps.getD t undef)
  | .cell t ty => do loadVar ty (← asAddr (tmps.getD t undef))
theorem results_eq (fn : Func) (tmps : Array Value) : results fn tmps = (do let vs ← fn.results.mapM (resM tmps); pure (if h : vs.size = 1 then vs[0] else .tuple vs)) := by
  unfold results
  congr 1
section
variable {p : Program} {ρ : Rho} {B : Blk} {a : Act} {w w0 : World} {C : List Inst} {L : List OIns} {nt : Nat}
theorem Leaf.holds.free {l : Leaf} {v : Value} {B' : Blk} (h : l.holds ρ B w v) (hn : l.noPtr = true) : l.holds ρ B' w v := by
  cases l <;> first | exact h | (simp [Leaf.noPtr] at hn)
theorem LeavesH.free {B' : Blk} : ∀ {ls : List Leaf} {vs : List Value}, LeavesH ρ B w ls vs → ls.all Leaf.noPtr = true → LeavesH ρ B' w ls vs
  | [], [], _, _ => trivial
  | _ :: _, _ :: _, h, hn => by
    simp only [List.all_cons, Bool.and_eq_true] at hn
    exact ⟨h.1.free hn.1, LeavesH.free h.2 hn.2⟩
  | [], _ :: _, h, _ => h.elim
  | _ :: _, [], h, _ => h.elim
theorem SV.holds.free {s : SV} {v : Value} {B' : Blk} (h : s.holds ρ B w v) (hn : s.noPtr = true) : s.holds ρ B' w v := by
  cases s with
  | one l => exact Leaf.holds.free h hn
  | agg ls => obtain ⟨vs, e, h⟩ := h; exact ⟨vs, e, h.free hn⟩
theorem SVsH.free {B' : Blk} : ∀ {ls : List SV} {vs : List Value}, SVsH ρ B w ls vs → ls.all SV.noPtr = true → SVsH ρ B' w ls vs
  | [], [], _, _ => trivial
  | _ :: _, _ :: _, h, hn => by
    simp only [List.all_cons, Bool.and_eq_true] at hn
    exact ⟨h.1.free hn.1, SVsH.free h.2 hn.2⟩
  | [], _ :: _, h, _ => h.elim
  | _ :: _, [], h, _ => h.elim
theorem AV.holds.free {s : AV} {v : Value} {B' : Blk} (h : s.holds ρ B w v) (hn : s.noPtr = true) : s.holds ρ B' w v := by
  cases s with
  | v s => exact SV.holds.free h hn
  | tup xs => obtain ⟨vs, e, h⟩ := h; exact ⟨vs, e, h.free hn⟩
  | any => exact h
theorem asAddr_of {v : Value} {ad : Addr} (h : v = .pointer (some ad)) : (asAddr v).run p w = .ok ad w := by subst h; rfl
theorem resAs_run {s : MS} (hv : ∀ x c, msGet s x = some c → LocH ρ B a w x c) : ∀ {rs : List ResultVar} {xs : List SV}, resAs p s rs = some xs →
    ∃ vs : List Value, (rs.mapM (resM a.tmps)).run p w = .ok vs w ∧ SVsH ρ B w xs vs
  | [], xs, h => by simp [resAs] at h; subst h; exact ⟨[], by simp, trivial⟩
  | r :: rs, xs, h => by
    simp only [resAs] at h
    split at h
    · rename_i x xs' h1 h2
      simp at h; subst h
      obtain ⟨vs, h3, h4⟩ := resAs_run hv h2
      have one : ∃ v, (resM a.tmps r).run p w = .ok v w ∧ x.holds ρ B w v := by
        cases r with
        | tmp t => exact ⟨a.tmps.getD t undef, rfl, evS_k (x := .tmp t) (fun y _ c hc => hv y c hc) h1⟩
        | cell t ty =>
          simp only [resA1] at h1
          split at h1
          · rename_i y rd hp
            injection h1 with h1; subst h1
            obtain ⟨ad, u, e1, e2, e3⟩ := load_var (p := p) hp (fun y _ c hc => hv y c hc) (fun y _ c hc => hv y c hc)
            refine ⟨u, ?_, e3⟩
            have e1' : a.tmps.getD t undef = .pointer (some ad) := e1
            simp only [resM, Sem.run_bind, asAddr_of e1', Result.andThen, e2]
          · cases h1
      obtain ⟨v, h5, h6⟩ := one
      refine ⟨v :: vs, ?_, h6, h4⟩
      simp only [List.mapM_cons, Sem.run_bind, Sem.run_pure]
      rw [h5]
      simp only [Result.andThen]
      rw [h3]
    · cases h
theorem resA_run {s : MS} (hv : ∀ x c, msGet s x = some c → LocH ρ B a w x c) {fn : Func} {r : AV} (h : resA p s fn.results.toList = some r) : ∃ v, (results fn a.tmps).run p w = .ok v w ∧ r.holds ρ B w v := by
  have arr : ∀ vs : List Value, (fn.results.toList.mapM (resM a.tmps)).run p w = .ok vs w →
      (results fn a.tmps).run p w = .ok (if h : vs.toArray.size = 1 then vs.toArray[0] else .tuple vs.toArray) w := by
    intro vs hvs
    rw [results_eq, Sem.run_bind]
    have : ∀ (f : ResultVar → Sem Value) (xs : Array ResultVar), (xs.toList.mapM f).run p w = .ok vs w → (xs.mapM f).run p w = .ok vs.toArray w := by
      intro f xs hx
      obtain ⟨l⟩ := xs
      simp only [List.mapM_toArray, map_eq_pure_bind, Sem.run_bind, hx, Result.andThen, Sem.run_pure]
    rw [this _ _ hvs]; rfl
  unfold resA at h
  split at h
  · rename_i x hx
    injection h with h; subst h
    obtain ⟨vs, h1, h2⟩ := resAs_run hv hx
    match vs, h2 with
    | [v], h2 => exact ⟨v, by rw [arr _ h1]; rfl, h2.1⟩
  · rename_i xs hne hx
    injection h with h; subst h
    obtain ⟨vs, h1, h2⟩ := resAs_run hv hx
    refine ⟨.tuple vs.toArray, ?_, vs, rfl, h2⟩
    rw [arr _ h1, dif_neg]
    intro h3
    match vs, xs, h2 with
    | [], [], _ => simp at h3
    | [_], [y], _ => exact hne y rfl
    | _ :: _ :: _, _, _ => simp at h3
  · cases h
theorem SVsH.len : ∀ {ls : List SV} {vs : List Value}, SVsH ρ B w ls vs → vs.length = ls.length
  | [], [], _ => rfl
  | _ :: _, _ :: _, h => by simp [h.2.len]
  | [], _ :: _, h => h.elim
  | _ :: _, [], h => h.elim
/-- A function answers what the executor reckons. -/
theorem calls_runFn (hC : ∀ i ∈ C, i.Ok0 p ρ w) (hO : ∀ i ∈ L, i.Ok p ρ) (hm : p.follows .mixedOrders = true) {f : FuncId} {fn : Func} (hf : p.funcs[f]? = some fn) {args : List SV} {vs : List Value} {fuel : Nat} {r : AV}
    (h : runFn p C L fn args fuel = some r) (ha : SVsH ρ (fun _ => none) w args vs) : Calls p f vs.toArray w (fun e w' => ∃ v, e = .returned v ∧ r.holds ρ (fun _ => none) w' v ∧ Below w.heap.size w w') := by
  unfold runFn at h
  split at h
  · rename_i hn
    split at h
    · rename_i c hb
      have hl := ha.len
      have hst : MSt ρ w fn.ntmps ⟨startS args fn.ntmps, []⟩ { tmps := vs.toArray ++ Array.replicate (fn.ntmps - vs.toArray.size) undef, defers := [] } w := by
        refine ⟨fun _ => none, ⟨fun v g hg => (by cases hg), fun v v' g hg => (by cases hg), Below.refl _ _, by simp; omega, rfl⟩, fun x k hx => ?_, fun v hv => absurd rfl hv⟩
        unfold msGet at hx
        split at hx
        · rename_i hx1
          unfold LocH
          rw [if_pos hx1]
          simp only at hx
          unfold startS at hx
          by_cases hxa : x < args.length
          · rw [List.getElem?_append_left (by simpa using hxa), List.getElem?_map, List.getElem?_eq_getElem hxa] at hx
            simp at hx; subst hx
            obtain ⟨v, h1, h2⟩ := ha.get (List.getElem?_eq_getElem hxa)
            refine ⟨v, ?_, h2⟩
            simp only
            rw [Array.getElem?_append_left (by simp; omega)]
            simpa using h1
          · rw [List.getElem?_append_right (by simp; omega)] at hx
            simp only [List.getElem?_replicate] at hx
            split at hx
            · rename_i hq
              split at hq
              · simp at hq; subst hq; cases hx
              · cases hq
            · cases hx
        · simp at hx
      have hret : ∀ {s : MS} {e : Ex}, exec p C L fn.ntmps fuel c ⟨startS args fn.ntmps, []⟩ = some (e, s) → e = .nrm ∨ e = .ret → (match resA p s fn.results.toList with | some r => if r.noPtr then some r else none | none => none) = some r →
          Calls p f vs.toArray w (fun e w' => ∃ v, e = .returned v ∧ r.holds ρ (fun _ => none) w' v ∧ Below w.heap.size w w') := by
        intro s e he hor hr
        split at hr
        · rename_i r' hr'
          split at hr
          · rename_i hnp
            injection hr with hr; subst hr
            refine calls_of_wp hf hb (exec_sound hC hO hm he hst (fun a' w' hs' => ?_))
            obtain ⟨B, hi, hv, _⟩ := hs'
            obtain ⟨v, h1, h2⟩ := resA_run (p := p) hv hr'
            rcases hor with rfl | rfl
            · exact ⟨hi.dfr, v, h1, v, rfl, h2.free hnp, hi.below⟩
            · exact ⟨hi.dfr, v, h1, v, rfl, h2.free hnp, hi.below⟩
          · cases hr
        · cases hr
      split at h
      · cases h
      · rename_i e s he hx
        have hor : e = .nrm ∨ e = .ret := by
          cases e with
          | nrm => exact .inl rfl
          | ret => exact .inr rfl
          | ext id => exact (he id rfl).elim
        exact hret hx hor h
      · cases h
    · cases h
  · cases h
end
end Go.Proofs.YtfhinmdhjlmikaaGreatDoor
namespace Go.Proofs.YtfhinmdhjlmikaaGreatDoor
set_option linter.unusedSimpArgs false
set_option linter.unusedVariables false
set_option maxRecDepth 100000
open Go.RowKit
def fSubT0 (x : Fq) (y : Fq) : List (Nat × Tmp × Sp) :=
   [(0, 5, .fq x),
    (1, 6, .fq y),
    (2, 7, .fq y.neg),
    (3, 8, .fq (x.add y.neg))]
set_option maxHeartbeats 4000000 in
theorem q_fSub (va vb : Value) (x y : Fq) (w : World) (ha : IsQ w va x) (hb : IsQ w vb y) (h : x.ok 1000000000) (k : y.ok 1000000000) :
    Calls Tryz.prog 32 #[va, vb] w fun e w' => RetQ w (x.sub y) e w' := by
  obtain ⟨a0, c0, b0, d0, rfl, m0, k0⟩ := boxF ha
  obtain ⟨a1, c1, b1, d1, rfl, m1, k1⟩ := boxF (hb.mono m0)
  rw [World.size_alloc ] at k1
  have n1 := m0.trans (m1.mono m0.size)
  obtain ⟨m2, k2⟩ := resF (w := ((w.alloc (.cells #[.bool x.s, .slice a0 (nl x.p) c0, .slice b0 (nl x.q) d0] 26)).alloc (.cells #[.bool y.s, .slice a1 (nl y.p) c1, .slice b1 (nl y.q) d1] 26)))
  rw [World.size_alloc, World.size_alloc ] at k2
  have n2 := n1.trans (m2.mono n1.size)
  clear ha hb
  go_enter Tryz.func32, Tryz.ntmps32
  go_upto_region 0 with (fail)
  go_cut [2, 3, 4] (fun s_2 s_3 s_4 wx => s_2 = Value.pointer (some ⟨w.heap.size, 0, none⟩) ∧ s_3 = Value.pointer (some ⟨w.heap.size + 1, 0, none⟩) ∧ s_4 = Value.pointer (some ⟨w.heap.size + 2, 0, none⟩) ∧ VarQ wx w.heap.size x ∧ VarQ wx (w.heap.size + 1) y ∧ VarFB wx (w.heap.size + 2) false none 0 0 none 0 0 ∧ Below w.heap.size w wx)
  case first =>
    go_wp2_with fail
    go_meet
    case rel => exact ⟨rfl, rfl, rfl, ((k0.mono m1).mono m2), (k1.mono m2), k2, n2⟩
  case rest =>
  clear m0 k0 m1 k1 m2 k2 n1 n2
  obtain ⟨rfl, rfl, rfl, V0, V1, V2, hb1⟩ := hcut
  go_upto_region 1 with (fail)
  go_cut [] (fun wx => VarQ wx w.heap.size x ∧ VarQ wx (w.heap.size + 1) y ∧ VarQ wx (w.heap.size + 2) (x.add y.neg) ∧ Below w.heap.size w wx)
  case first =>
    refine wp_tabG Tryz.f32 1 (fSubT0 x y) [] (fun _ => false) 4 1 (by kernel_rfl) (by kernel_rfl) (by kernel_rfl) (by kernel_rfl) (by kernel_rfl) (EachX.of_all (fun _ h => by cases h) _) ?_ ?_
    · refine ⟨fun _ _ F => gR rfl rfl (arm_loadF rfl (F.k 2 (Value.pointer (some ⟨w.heap.size, 0, none⟩))) (V0.mono F.below)).b, ?_⟩
      refine ⟨fun _ _ F => gR rfl rfl (arm_loadF rfl (F.k 3 (Value.pointer (some ⟨w.heap.size + 1, 0, none⟩))) (V1.mono F.below)).b, ?_⟩
      refine ⟨fun _ _ F => gR rfl rfl (arm_C1 rfl (enters Tryz.func60 rfl rfl) (F.f 1 rfl) (fun va w h1 => q_fNeg va y w h1 k) (fun _ _ h => ofQ h)).b, ?_⟩
      refine ⟨fun _ _ F => gR rfl rfl (arm_C2 rfl (enters Tryz.func30 rfl rfl) (F.f 0 rfl) (F.f 2 rfl) (fun va vb w h1 h2 => q_fAdd va vb x y.neg w h1 h2 h k.neg) (fun _ _ h => ofQ h)).b, ?_⟩
      exact trivial
    intro E' hE gp wp bp G Gs
    obtain rfl : E' = [] := by simpa [subs] using hE
    have n_3 : (Sp.fq (x.add y.neg)).p wp (gp 3) := G 3 8 _ (by simp) rfl
    clear G Gs hE
    simp only [fSubT0]
    simp only [qA, setD, qZ, qS]
    have T0 := (V2.mono bp V2.lt)
    refine wpAny_storeFr (j := 4) (by kernel_rfl) rfl rfl rfl rfl rfl n_3 T0.any ?_
    intro w0 u0 v0
    have O0 := T0.own
    refine wpAny_done (by kernel_rfl) ?_ _
    go_wp2_with fail
    go_meet
    case rel => exact ⟨((V0.mono bp).upd O0 u0 (by omega)), ((V1.mono bp).upd O0 u0 (by omega)), v0, (Upd.below (hb1.trans (bp.mono hb1.size)) u0 (by omega))⟩
  case rest =>
  clear V0 V1 V2 hb1
  obtain ⟨V0, V1, V2, hb1⟩ := hcut
  obtain ⟨r1, r2, r3, r4, rV, rn, rm⟩ := V2
  have c0 := rV.cell0
  have c1 := rV.cell1
  have c2 := rV.cell2
  go_wp2
  exact bodyPost_ret (res_F rfl rfl rV) rfl ⟨_, rfl, ⟨r1, r2, r3, r4, rfl, rn, rm⟩, hb1⟩
def rMulT0 (w : World) (x : Fq) (y : Fq) (X : Nat) (Dn : Nat) (base : Nat) : List (Nat × Tmp × Sp) :=
   [(0, 8, .val (Value.pointer (some ⟨w.heap.size, 0, none⟩))),
    (1, 9, .val (Value.bool x.s)),
    (2, 10, .val (Value.pointer (some ⟨w.heap.size + 1, 0, none⟩))),
    (3, 11, .val (Value.bool y.s)),
    (4, 12, .val (Value.bool (x.s != y.s))),
    (5, 13, .val (Value.pointer (some ⟨w.heap.size, 1, none⟩))),
    (6, 14, .nat (x.p)),
    (7, 15, .val (Value.pointer (some ⟨w.heap.size + 1, 1, none⟩))),
    (8, 16, .nat (y.p)),
    (9, 17, .nat (X)),
    (10, 18, .val (Value.pointer (some ⟨w.heap.size, 2, none⟩))),
    (11, 19, .nat (x.q)),
    (12, 20, .val (Value.pointer (some ⟨w.heap.size + 1, 2, none⟩))),
    (13, 21, .nat (y.q)),
    (14, 22, .nat (Dn)),
    (15, 23, .pair (.fq (Fq.low (x.s != y.s) X Dn)) (.val (Value.int IntKind.i64 0))),
    (16, 7, .pair (.fq (Fq.low (x.s != y.s) X Dn)) (.val (Value.int IntKind.i64 0))),
    (17, 24, .fq (Fq.low (x.s != y.s) X Dn)),
    (18, 25, .val (Value.int IntKind.i64 0)),
    (19, 5, .varF base)]
def rMulT1 (x : Fq) (y : Fq) (X : Nat) (Dn : Nat) : List (Nat × Tmp × Sp) :=
   [(0, 26, .fq (Fq.low (x.s != y.s) X Dn))]
set_option maxHeartbeats 4000000 in
theorem q_rMul (va vb : Value) (x y : Fq) (w : World) (ha : IsQ w va x) (hb : IsQ w vb y) (h : x.ok 1000000000) (k : y.ok 1000000000) :
    Calls Tryz.prog 35 #[va, vb] w fun e w' => RetQ w (x.mul y) e w' := by
  have b_xp : nl x.p ≤ 1000000000000 := Nat.le_trans h.p (by decide)
  have b_xq : nl x.q ≤ 1000000000000 := Nat.le_trans h.q (by decide)
  have b_yp : nl y.p ≤ 1000000000000 := Nat.le_trans k.p (by decide)
  have b_yq : nl y.q ≤ 1000000000000 := Nat.le_trans k.q (by decide)
  obtain ⟨X, hX⟩ : ∃ N : Nat, Hid (N = x.p * y.p) := ⟨_, Lib.hid rfl⟩
  obtain ⟨Dn, hDn⟩ : ∃ N : Nat, Hid (N = x.q * y.q) := ⟨_, Lib.hid rfl⟩
  have hXb : nl X ≤ 10000000000 := by rw [hX.out]; exact Nat.le_trans (nl_mul2 h.p k.p) (by decide)
  have hDb : nl Dn ≤ 10000000000 := by rw [hDn.out]; exact Nat.le_trans (nl_mul2 h.q k.q) (by decide)
  have HD0 : Hid (Dn ≠ 0) := Lib.hid (by rw [hDn.out]; exact Nat.mul_ne_zero h.n k.n)
  show Calls Tryz.prog 35 #[va, vb] w fun e w' => RetQ w (Fq.low (x.s != y.s) (x.p * y.p) (x.q * y.q)) e w'
  rw [← hX.out, ← hDn.out]
  obtain ⟨a0, c0, b0, d0, rfl, m0, k0⟩ := boxF ha
  obtain ⟨a1, c1, b1, d1, rfl, m1, k1⟩ := boxF (hb.mono m0)
  rw [World.size_alloc ] at k1
  have n1 := m0.trans (m1.mono m0.size)
  obtain ⟨m2, k2⟩ := resF (w := ((w.alloc (.cells #[.bool x.s, .slice a0 (nl x.p) c0, .slice b0 (nl x.q) d0] 26)).alloc (.cells #[.bool y.s, .slice a1 (nl y.p) c1, .slice b1 (nl y.q) d1] 26)))
  rw [World.size_alloc, World.size_alloc ] at k2
  have n2 := n1.trans (m2.mono n1.size)
  clear ha hb
  go_enter Tryz.func35, Tryz.ntmps35
  go_upto_region 0 with (fail)
  go_cut [2, 3, 4] (fun s_2 s_3 s_4 wx => s_2 = Value.pointer (some ⟨w.heap.size, 0, none⟩) ∧ s_3 = Value.pointer (some ⟨w.heap.size + 1, 0, none⟩) ∧ s_4 = Value.pointer (some ⟨w.heap.size + 2, 0, none⟩) ∧ VarQ wx w.heap.size x ∧ VarQ wx (w.heap.size + 1) y ∧ VarFB wx (w.heap.size + 2) false none 0 0 none 0 0 ∧ Below w.heap.size w wx)
  case first =>
    go_wp2_with fail
    go_meet
    case rel => exact ⟨rfl, rfl, rfl, ((k0.mono m1).mono m2), (k1.mono m2), k2, n2⟩
  case rest =>
  clear m0 k0 m1 k1 m2 k2 n1 n2
  obtain ⟨rfl, rfl, rfl, V0, V1, V2, hb1⟩ := hcut
  go_upto_region 1 with (fail)
  go_cut [5] (fun s_5 wx => ∃ g5, s_5 = Value.pointer (some ⟨g5, 0, none⟩) ∧ w.heap.size + 3 ≤ g5 ∧ VarQ wx g5 (Fq.low (x.s != y.s) X Dn) ∧ VarQ wx w.heap.size x ∧ VarQ wx (w.heap.size + 1) y ∧ VarFB wx (w.heap.size + 2) false none 0 0 none 0 0 ∧ Below w.heap.size w wx)
  case first =>
    obtain ⟨base, hbase0⟩ : ∃ b : Nat, Hid (b = wc.heap.size) := ⟨_, Lib.hid rfl⟩
    have hbase : base ≤ wc.heap.size := by rw [hbase0.out]; exact Nat.le_refl _
    have hbw : w.heap.size + 3 ≤ base := by have := hb1.size; have h1 := V2.lt; rw [hbase0.out]; omega
    have l_V0 : w.heap.size < base := by rw [hbase0.out]; exact V0.lt
    have l_V1 : w.heap.size + 1 < base := by rw [hbase0.out]; exact V1.lt
    have l_V2 : w.heap.size + 2 < base := by rw [hbase0.out]; exact V2.lt
    refine wp_tabG Tryz.f35 1 (rMulT0 w x y X Dn base) [18] (fun i => i == 19) 9 2 (by kernel_rfl) (by kernel_rfl) (by kernel_rfl) (by kernel_rfl) (by kernel_rfl) ⟨fun h => (by cases h), ⟨fun h => (by cases h), ⟨fun h => (by cases h), ⟨fun h => (by cases h), ⟨fun h => (by cases h), ⟨fun h => (by cases h), ⟨fun h => (by cases h), ⟨fun h => (by cases h), ⟨fun h => (by cases h), ⟨fun h => (by cases h), ⟨fun h => (by cases h), ⟨fun h => (by cases h), ⟨fun h => (by cases h), ⟨fun h => (by cases h), ⟨fun h => (by cases h), ⟨fun h => (by cases h), ⟨fun h => (by cases h), ⟨fun h => (by cases h), ⟨fun h => (by cases h), ⟨fun _ w v h => Sp.varF_lt h, trivial⟩⟩⟩⟩⟩⟩⟩⟩⟩⟩⟩⟩⟩⟩⟩⟩⟩⟩⟩⟩ ?_ ?_
    · refine ⟨fun _ _ F => gR rfl rfl (arm_fieldF rfl (F.k 2 (Value.pointer (some ⟨w.heap.size, 0, none⟩))) (run_field0 _)).b, ?_⟩
      refine ⟨fun _ _ F => gR rfl rfl (arm_loadS rfl (F.f 0 rfl) (V0.mono F.below)).b, ?_⟩
      refine ⟨fun _ _ F => gR rfl rfl (arm_fieldF rfl (F.k 3 (Value.pointer (some ⟨w.heap.size + 1, 0, none⟩))) (run_field0 _)).b, ?_⟩
      refine ⟨fun _ _ F => gR rfl rfl (arm_loadS rfl (F.f 2 rfl) (V1.mono F.below)).b, ?_⟩
      refine ⟨fun _ _ F => gR rfl rfl (arm_bin rfl (F.f 1 rfl) (F.f 3 rfl) (fun _ => rfl) (fun w => run_neB _ _ w)).b, ?_⟩
      refine ⟨fun _ _ F => gR rfl rfl (arm_fieldF rfl (F.k 2 (Value.pointer (some ⟨w.heap.size, 0, none⟩))) (run_field1 _)).b, ?_⟩
      refine ⟨fun _ _ F => gR rfl rfl (arm_load1 rfl (F.f 5 rfl) (V0.mono F.below)).b, ?_⟩
      refine ⟨fun _ _ F => gR rfl rfl (arm_fieldF rfl (F.k 3 (Value.pointer (some ⟨w.heap.size + 1, 0, none⟩))) (run_field1 _)).b, ?_⟩
      refine ⟨fun _ _ F => gR rfl rfl (arm_load1 rfl (F.f 7 rfl) (V1.mono F.below)).b, ?_⟩
      refine ⟨fun _ _ F => gR rfl rfl (arm_C2 rfl (enters Tryz.func55 rfl rfl) (F.f 6 rfl) (F.f 8 rfl) (fun va vb w h1 h2 => c_ref_Mul va vb x.p y.p w h1 h2 b_xp b_yp) (fun _ _ h => by rw [hX.out]; exact ofNew h)).b, ?_⟩
      refine ⟨fun _ _ F => gR rfl rfl (arm_fieldF rfl (F.k 2 (Value.pointer (some ⟨w.heap.size, 0, none⟩))) (run_field2 _)).b, ?_⟩
      refine ⟨fun _ _ F => gR rfl rfl (arm_load2 rfl (F.f 10 rfl) (V0.mono F.below)).b, ?_⟩
      refine ⟨fun _ _ F => gR rfl rfl (arm_fieldF rfl (F.k 3 (Value.pointer (some ⟨w.heap.size + 1, 0, none⟩))) (run_field2 _)).b, ?_⟩
      refine ⟨fun _ _ F => gR rfl rfl (arm_load2 rfl (F.f 12 rfl) (V1.mono F.below)).b, ?_⟩
      refine ⟨fun _ _ F => gR rfl rfl (arm_C2 rfl (enters Tryz.func55 rfl rfl) (F.f 11 rfl) (F.f 13 rfl) (fun va vb w h1 h2 => c_ref_Mul va vb x.q y.q w h1 h2 b_xq b_yq) (fun _ _ h => by rw [hDn.out]; exact ofNew h)).b, ?_⟩
      refine ⟨fun _ _ F => gR rfl rfl (arm_C3 rfl (enters Tryz.func56 rfl rfl) (F.f 4 rfl) (F.f 9 rfl) (F.f 14 rfl) (fun va vb vc w h1 h2 h3 => by have e_va : va = _ := h1; subst e_va; exact q_rMake (x.s != y.s) vb vc X Dn w h2 h3 (by omega) (by omega) HD0.out) (fun _ _ h => ofQE h)).b, ?_⟩
      refine ⟨fun _ _ F => gR rfl rfl (arm_move (.inl rfl) (F.f 15 rfl)).b, ?_⟩
      refine ⟨fun _ _ F => gR rfl rfl (arm_pair0 rfl (F.f 16 rfl)).b, ?_⟩
      refine ⟨fun _ _ F => gR rfl rfl (arm_pair1 rfl (F.f 16 rfl)).b, ?_⟩
      refine ⟨fun _ _ F => gR rfl rfl (arm_allocF rfl (Nat.le_trans hbase F.below.size)), ?_⟩
      exact trivial
    intro E' hE gp wp bp G Gs
    simp only [subs, List.map_cons, List.map_nil, List.nil_append, List.cons_append, List.mem_cons, List.not_mem_nil, or_false, List.append_nil] at hE
    rcases hE with rfl | rfl
    · obtain ⟨g5, e_19, lg_19, hv_19⟩ := G 19 5 _ (by simp) rfl
      have n_17 : (Sp.fq (Fq.low (x.s != y.s) X Dn)).p wp (gp 17) := G 17 24 _ (by simp) rfl
      have e_18 : gp 18 = Value.int IntKind.i64 0 := G 18 25 _ (by simp) rfl
      clear G Gs
      simp only [rMulT0]
      simp only [qA, setD, qZ, qS, e_19, e_18]
      have T0 := hv_19
      refine wpAny_storeFr (j := 20) (by kernel_rfl) rfl rfl rfl rfl rfl n_17 T0.any ?_
      intro w0 u0 v0
      have O0 := T0.own
      refine wpAny_takeD (i := 21) (d := some 6) (v := Value.int IntKind.i64 0) rfl rfl (by kernel_rfl) (by kernel_rfl) (by kernel_rfl) (fun _ _ _ h => h) (Or.inl ⟨by rfl, fun w => by rfl⟩) ?_
      try simp only [qP, qZ, qS]
      refine wpAny_done (by kernel_rfl) ?_ _
      go_wp2_with fail
      go_meet
      case rel => exact ⟨g5, rfl, (by omega), v0, ((V0.mono bp).upd O0 u0 (by omega)), ((V1.mono bp).upd O0 u0 (by omega)), ((V2.mono bp V2.lt).upd O0 u0 (by omega)), (Upd.below (hb1.trans (bp.mono hb1.size)) u0 (by omega))⟩
    · obtain ⟨g5, e_19, lg_19, hv_19⟩ := G 19 5 _ (by simp) rfl
      obtain ⟨x_16_0, x_16_1, e_16, n_16_0, rfl⟩ := G 16 7 _ (by simp) rfl
      have n_17 : (Sp.fq (Fq.low (x.s != y.s) X Dn)).p wp (gp 17) := G 17 24 _ (by simp) rfl
      clear G Gs
      simp only [rMulT0]
      simp only [qA, setD, qZ, qS, e_19, e_16]
      refine wpAny_takeD (i := 18) (d := some 25) (v := Value.int IntKind.i64 0) rfl rfl (by kernel_rfl) (by kernel_rfl) (by kernel_rfl) (fun _ _ _ h => h) (Or.inl ⟨by rfl, fun w => by rfl⟩) ?_
      try simp only [qP, qZ, qS]
      have T0 := hv_19
      refine wpAny_storeFr (j := 20) (by kernel_rfl) rfl rfl rfl rfl rfl n_17 T0.any ?_
      intro w0 u0 v0
      have O0 := T0.own
      refine wpAny_takeD (i := 21) (d := some 6) (v := Value.int IntKind.i64 0) rfl rfl (by kernel_rfl) (by kernel_rfl) (by kernel_rfl) (fun _ _ _ h => h) (Or.inl ⟨by rfl, fun w => by rfl⟩) ?_
      try simp only [qP, qZ, qS]
      refine wpAny_done (by kernel_rfl) ?_ _
      go_wp2_with fail
      go_meet
      case rel => exact ⟨g5, rfl, (by omega), v0, ((V0.mono bp).upd O0 u0 (by omega)), ((V1.mono bp).upd O0 u0 (by omega)), ((V2.mono bp V2.lt).upd O0 u0 (by omega)), (Upd.below (hb1.trans (bp.mono hb1.size)) u0 (by omega))⟩
  case rest =>
  clear V0 V1 V2 hb1
  obtain ⟨g5, rfl, lg5, V5, V0, V1, V2, hb1⟩ := hcut
  go_upto_region 2 with (fail)
  go_cut [] (fun wx => VarQ wx w.heap.size x ∧ VarQ wx (w.heap.size + 1) y ∧ VarQ wx (w.heap.size + 2) (Fq.low (x.s != y.s) X Dn) ∧ VarQ wx g5 (Fq.low (x.s != y.s) X Dn) ∧ Below w.heap.size w wx)
  case first =>
    refine wp_tabGF Tryz.f35 2 (rMulT1 x y X Dn) [] (fun _ => false) 2 1 (by kernel_rfl) (by kernel_rfl) (by kernel_rfl) (by kernel_rfl) (by kernel_rfl) (EachX.of_all (fun _ h => by cases h) _) ?_ ?_
    · refine ⟨fun _ _ F => gR rfl rfl (arm_loadF rfl (F.k 5 (Value.pointer (some ⟨g5, 0, none⟩))) (V5.mono F.below)).b, ?_⟩
      exact trivial
    intro E' hE gp wp bp G Gs
    obtain rfl : E' = [] := by simpa [subs] using hE
    have n_0 : (Sp.fq (Fq.low (x.s != y.s) X Dn)).p wp (gp 0) := G 0 26 _ (by simp) rfl
    clear G Gs hE
    simp only [rMulT1]
    simp only [qA, setD, qZ, qS]
    have T0 := (V2.mono bp V2.lt)
    refine wpAny_storeFr (j := 1) (by kernel_rfl) rfl rfl rfl rfl rfl n_0 T0.any ?_
    intro w0 u0 v0
    have O0 := T0.own
    refine wpAny_done (by kernel_rfl) ?_ _
    go_wp2_with fail
    go_meet
    case rel => exact ⟨((V0.mono bp).upd O0 u0 (by omega)), ((V1.mono bp).upd O0 u0 (by omega)), v0, ((V5.mono bp).upd O0 u0 (by omega)), (Upd.below (hb1.trans (bp.mono hb1.size)) u0 (by omega))⟩
  case rest =>
  clear V0 V1 V2 V5 hb1
  obtain ⟨V0, V1, V2, V5, hb1⟩ := hcut
  obtain ⟨r1, r2, r3, r4, rV, rn, rm⟩ := V2
  have c0 := rV.cell0
  have c1 := rV.cell1
  have c2 := rV.cell2
  go_wp2
  exact bodyPost_ret (res_F rfl rfl rV) rfl ⟨_, rfl, ⟨r1, r2, r3, r4, rfl, rn, rm⟩, hb1⟩
end Go.Proofs.YtfhinmdhjlmikaaGreatDoor
