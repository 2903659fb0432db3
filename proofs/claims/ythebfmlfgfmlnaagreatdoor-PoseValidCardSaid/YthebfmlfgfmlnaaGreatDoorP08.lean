/- An executor: operations one after the other; rows that grow. An executor: code and functions. An executor: functions. An executor: loops whose number of rounds is not known. An executor: what is known of unknowns; rows; operations on numbers, truth values and rows. An executor: strings, rows of strings. magnitude of package fraction, size of the reference. -/
import Derived.Test.YthebfmlfgfmlnaaGreatDoorP07
import Derived.Shelf.Strings.Split
import Derived.Shelf.Strings.Search3
import Derived.Shelf.Strings.Count
import Derived.Lib.IndexBytes
namespace Go.Proofs.YthebfmlfgfmlnaaGreatDoor
set_option linter.unusedSimpArgs false
set_option linter.unusedVariables false
set_option maxRecDepth 100000
open Go.RowKit
def Leaf.has (i : Nat) : Leaf → Bool
  | .own k _ => k == i
  | .ptr x _ => x == OW + i
  | _ => false
def SV.has (i : Nat) : SV → Bool
  | .one l => l.has i
  | .agg ls => ls.any (·.has i)
def AV.has (i : Nat) : AV → Bool
  | .v s => s.has i
  | .tup xs => xs.any (·.has i)
  | .any => false
def killA (i : Nat) : Option AV → Option AV
  | some c => if c.has i then none else some c
  | none => none
def killL (i : Nat) : Option Leaf → Option Leaf
  | some l => if l.has i then none else some l
  | none => none
/-- What is known without the row i. -/
def killS (i : Nat) (s : MS) : MS := ⟨s.slots.map (killA i), s.vars.map fun v => (v.1, v.2.map (killL i))⟩
def sameOwn (i : Nat) : Leaf → Bool
  | .sl0 => true
  | .own k _ => k == i
  | _ => false
/-- An append to a row that the call itself made. -/
def appS (L : List OIns) (nt : Nat) (s : MS) (o : Oper) : Option MS :=
  match o.guard, o.op, o.dst with
  | none, .call k, some d => match k.callee, k.args.toList, k.argTypes.toList with
    | .builtin .append, [x, y], [t, t'] => match evL (msGet s) x, evL (msGet s) y with
      | some lx, some ly => if t = t' ∧ okD nt (some d) = true ∧ s.vars.length < OW then match findO L (.app t) [.one lx, .one ly] with
          | some (.one (.own i m)) => if sameOwn i lx then some (msSet (killS i s) (d, .v (.one (.own i m)))) else none
          | _ => none
        else none
      | _, _ => none
    | _, _, _ => none
  | _, _, _ => none
def stepS (p : Program) (C : List Inst) (L : List OIns) (nt : Nat) (ops : Array Oper) (s : MS) (j : Nat) : Option MS :=
  match ops[j]? with
  | none => none
  | some o => match appS L nt s o with
    | some s1 => some s1
    | none => match effG p C L nt ops (msGet s) (vtOf s) o with
      | some (e, new) => some (commit (msExt s new) [(j, e)])
      | none => none
def seqX (p : Program) (C : List Inst) (L : List OIns) (nt : Nat) (ops : Array Oper) : List Nat → MS → Option MS
  | [], s => some s
  | j :: js, s => match stepS p C L nt ops s j with
    | some s1 => seqX p C L nt ops js s1
    | none => none
section
variable {p : Program} {ρ : Rho} {B B' : Blk} {a a' : Act} {w w' w0 : World} {C : List Inst} {L : List OIns} {nt i : Nat} {Q : Exit → Act → World → Prop} {o : Oper} {ops : Array Oper} {v : Value} {vt : List (TypeId × Nat)} {X : Option Nat}
/-- The row i lies elsewhere now; its old block may have changed. -/
structure Reb (B B' : Blk) (i : Nat) (w w' : World) (X : Option Nat) : Prop where
  same : ∀ x, x ≠ OW + i → B' x = B x
  new : ∀ g, B' (OW + i) = some g → X = some g ∨ w.heap.size ≤ g
  old : ∀ g, X = some g → B (OW + i) = some g
  chg : Chg w w' (fun g => X = some g)
theorem Leaf.holds.reb {l : Leaf} (h : l.holds ρ B w v) (hn : l.has i = false) (r : Reb B B' i w w' X) : l.holds ρ B' w' v := by
  cases l <;> simp only [Leaf.holds] at h ⊢ <;> try exact h
  · rename_i x o
    obtain ⟨g, h1, h2⟩ := h
    have hx : x ≠ OW + i := by simpa [Leaf.has] using hn
    exact ⟨g, by rw [r.same x hx]; exact h1, h2⟩
  · obtain ⟨s, h1, h2, h3⟩ := h
    refine ⟨s, h1, s.ch _ _ _ _ h2 r.chg (fun g hg hX => h3 g hg _ (r.old g hX)), fun g hg x hx => ?_⟩
    by_cases e : x = OW + i
    · subst e
      rcases r.new g hx with h | h
      · exact h3 g hg _ (r.old g h)
      · have := s.lt _ _ _ h2 hg; omega
    · rw [r.same x e] at hx; exact h3 g hg x hx
  · rename_i k m
    obtain ⟨s, h1, h2, h3, h4⟩ := h
    have hk : k ≠ i := by simpa [Leaf.has] using hn
    refine ⟨s, h1, s.ch _ _ _ _ h2 r.chg (fun g hg hX => by have := h3 g hg _ (r.old g hX); omega), fun g hg x hx => ?_, fun g hg => by rw [r.same _ (by omega)]; exact h4 g hg⟩
    by_cases e : x = OW + i
    · subst e
      rcases r.new g hx with h | h
      · exact h3 g hg _ (r.old g h)
      · have := s.lt _ _ _ h2 hg; omega
    · rw [r.same x e] at hx; exact h3 g hg x hx
theorem LeavesH.reb (r : Reb B B' i w w' X) : ∀ {ls : List Leaf} {vs : List Value}, LeavesH ρ B w ls vs → ls.any (·.has i) = false → LeavesH ρ B' w' ls vs
  | [], [], _, _ => trivial
  | _ :: _, _ :: _, h, hn => by
    simp only [List.any_cons, Bool.or_eq_false_iff] at hn
    exact ⟨h.1.reb hn.1 r, LeavesH.reb r h.2 hn.2⟩
  | [], _ :: _, h, _ => h.elim
  | _ :: _, [], h, _ => h.elim
theorem SV.holds.reb {s : SV} (h : s.holds ρ B w v) (hn : s.has i = false) (r : Reb B B' i w w' X) : s.holds ρ B' w' v := by
  cases s with
  | one l => exact Leaf.holds.reb h hn r
  | agg ls => obtain ⟨vs, e, h⟩ := h; exact ⟨vs, e, h.reb r hn⟩
theorem SVsH.reb (r : Reb B B' i w w' X) : ∀ {ls : List SV} {vs : List Value}, SVsH ρ B w ls vs → ls.any (·.has i) = false → SVsH ρ B' w' ls vs
  | [], [], _, _ => trivial
  | _ :: _, _ :: _, h, hn => by
    simp only [List.any_cons, Bool.or_eq_false_iff] at hn
    exact ⟨h.1.reb hn.1 r, SVsH.reb r h.2 hn.2⟩
  | [], _ :: _, h, _ => h.elim
  | _ :: _, [], h, _ => h.elim
theorem AV.holds.reb {c : AV} (h : c.holds ρ B w v) (hn : c.has i = false) (r : Reb B B' i w w' X) : c.holds ρ B' w' v := by
  cases c with
  | v s => exact SV.holds.reb h hn r
  | tup xs => obtain ⟨vs, e, h⟩ := h; exact ⟨vs, e, h.reb r hn⟩
  | any => exact h
theorem killA_some {c : Option AV} {d : AV} (h : killA i c = some d) : c = some d ∧ d.has i = false := by
  cases c with
  | none => cases h
  | some c =>
    simp only [killA] at h
    split at h
    · cases h
    · rename_i hn; injection h with h; subst h; exact ⟨rfl, by simpa using hn⟩
theorem killL_some {c : Option Leaf} {d : Leaf} (h : killL i c = some d) : c = some d ∧ d.has i = false := by
  cases c with
  | none => cases h
  | some c =>
    simp only [killL] at h
    split at h
    · cases h
    · rename_i hn; injection h with h; subst h; exact ⟨rfl, by simpa using hn⟩
theorem killS_get {s : MS} {x : Nat} {c : AV} (h : msGet (killS i s) x = some c) : msGet s x = some c ∧ c.has i = false ∧ (x < 100000 ∨ x / 100000 - 1 < s.vars.length) := by
  unfold msGet killS at h
  unfold msGet
  simp only at h
  split at h
  · rename_i hx
    rw [if_pos hx]
    rw [List.getElem?_map] at h
    cases e : s.slots[x]? with
    | none => rw [e] at h; simp at h
    | some d =>
      rw [e] at h
      have h1 : killA i d = some c := by simpa using h
      obtain ⟨h2, h3⟩ := killA_some h1
      exact ⟨by simp [h2], h3, .inl hx⟩
  · rename_i hx
    rw [if_neg hx]
    rw [List.getElem?_map] at h
    cases e : s.vars[x / 100000 - 1]? with
    | none => rw [e] at h; simp at h
    | some d =>
      rw [e] at h
      simp only [Option.map_some, List.getElem?_map] at h
      cases e2 : d.2[x % 100000]? with
      | none => rw [e2] at h; simp at h
      | some l =>
        rw [e2] at h
        simp only [Option.map_some] at h
        cases e3 : killL i l with
        | none => rw [e3] at h; simp at h
        | some l' =>
          rw [e3] at h
          simp only [Option.some.injEq] at h
          obtain ⟨h2, h3⟩ := killL_some e3
          subst h2; subst h
          exact ⟨by simp [e2], h3, .inr (List.getElem?_eq_some_iff.1 e).1⟩
theorem killS_vt {s : MS} : vtOf (killS i s) = vtOf s := by
  unfold vtOf killS
  simp [List.map_map, Function.comp_def]
theorem evL_get {s : MS} {x : Operand} {l : Leaf} (hv : ∀ x c, msGet s x = some c → LocH ρ B a w x c) (h : evL (msGet s) x = some l) : l.holds ρ B w (a.eval x) := evL_k (fun y _ c hc => hv y c hc) h
theorem msSet_slot {s : MS} {d : Nat} {c c' : AV} {x : Nat} (hd : d < 100000) (h : msGet (msSet s (d, c)) x = some c') : (x = d ∧ c' = c) ∨ (x ≠ d ∧ msGet s x = some c') := by
  unfold msSet at h
  rw [if_pos hd] at h
  unfold msGet at h ⊢
  split at h
  · rename_i hx
    rw [if_pos hx]
    rw [List.getElem?_set] at h
    by_cases e : d = x
    · subst e
      rw [if_pos rfl] at h
      by_cases hl : d < s.slots.length
      · rw [if_pos hl] at h
        have h : some c = some c' := h
        exact .inl ⟨rfl, (Option.some.inj h).symm⟩
      · rw [if_neg hl] at h; cases h
    · rw [if_neg e] at h
      exact .inr ⟨fun h => e h.symm, h⟩
  · rename_i hx
    rw [if_neg hx]
    exact .inr ⟨fun e => hx (by omega), h⟩
theorem msSet_vt2 {s : MS} {d : Nat} {c : AV} (hd : d < 100000) : vtOf (msSet s (d, c)) = vtOf s ∧ (msSet s (d, c)).vars = s.vars := by
  unfold msSet; rw [if_pos hd]; exact ⟨rfl, rfl⟩
theorem sameOwn_old {lx : Leaf} {x : Value} (h : sameOwn i lx = true) (hl : lx.holds ρ B w x) : ∀ g, x.ownBlock = some g → B (OW + i) = some g := by
  intro g hg
  cases lx with
  | sl0 =>
    have e : x = .slice none 0 0 := hl
    subst e; cases hg
  | own k m =>
    have : k = i := by simpa [sameOwn] using h
    subst this
    obtain ⟨s, _, _, _, h4⟩ := hl
    exact h4 g hg
  | _ => simp [sameOwn] at h
theorem appS_sound (hO : ∀ i ∈ L, i.Ok p ρ) {s s' : MS} {j : Nat} (ho : ops[j]? = some o) (h : appS L nt s o = some s') (hs : MSt ρ w0 nt s a w) {K : Act → World → Prop} (hK : ∀ a' w', MSt ρ w0 nt s' a' w' → K a' w') : wpOp p ops Q j K a w := by
  unfold appS at h
  split at h
  · rename_i k d hg hop hd
    split at h
    · rename_i x y t t' hcal hargs htt
      split at h
      · rename_i lx ly hx hy
        split at h
        · rename_i hc
          obtain ⟨rfl, hdd, hvl⟩ := hc
          split at h
          · rename_i i m hf
            split at h
            · rename_i hsame
              injection h with h; subst h
              obtain ⟨B, hi, hv, hB⟩ := hs
              have ex := evL_get hv hx
              have ey := evL_get hv hy
              have hold := sameOwn_old hsame ex
              obtain ⟨v, w', hrun, hgrow, hblk, s1, hs1, hp1, hfp1⟩ := (findO_ok hO hf) B w [a.eval x, a.eval y] ⟨ex, ey, trivial⟩ o.type
              simp only [okD, Bool.and_eq_true, decide_eq_true_eq] at hdd
              have hex : (execOp a.eval o).run p w = .ok (.value v) w' := by
                obtain ⟨cal, args, tt⟩ := k
                simp only at hcal hargs htt
                subst hcal
                have ea : args = #[x, y] := by rw [← Array.toList_inj]; exact hargs
                have et : tt = #[t, t] := by rw [← Array.toList_inj]; exact htt
                subst ea; subst et
                unfold execOp
                simp only [hop, resolve, invoke, builtin, Sem.run_bind, Sem.run_pure, Result.andThen_ok, List.map_toArray, List.map_cons, List.map_nil, hrun]
              unfold wpOp
              rw [ho]
              show if Region.wanted o (yielded ops a.tmps) = true then _ else _
              rw [if_pos (by unfold Region.wanted; rw [hg])]
              refine .inl ?_
              unfold Oper.wp
              rw [hex, Oper.upon_value, hd]
              have r : Reb B (fun x => if x = OW + i then v.ownBlock else B x) i w w' (a.eval x).ownBlock := by
                refine ⟨fun x hx => by simp [hx], fun g hg => ?_, hold, ⟨hgrow.size, fun g hg hX => hgrow.block g hg (fun e => hX e.symm), fun g hX => (hi.own _ g (Nat.le_add_right _ _) (hold g hX)).2.2⟩⟩
                simp only [if_true] at hg
                exact (hblk g hg).1
              have hgb : ∀ g, v.ownBlock = some g → w0.heap.size ≤ g := fun g hg => by
                rcases (hblk g hg).1 with h | h
                · exact (hi.own _ g (Nat.le_add_right _ _) (hold g h)).1
                · exact Nat.le_trans hi.below.size h
              have hne : ∀ x g, x ≠ OW + i → B x = some g → v.ownBlock ≠ some g := fun x g hx hBx hg => by
                rcases (hblk g hg).1 with h | h
                · exact hx (hi.inj _ _ _ hBx (hold g h))
                · have := hi.bok x g hBx; omega
              have hsm : ∀ x g, x ≠ OW + i → B x = some g → w'.heap[g]? = w.heap[g]? := fun x g hx hBx => hgrow.block g (hi.bok x g hBx) (fun e => hx (hi.inj _ _ _ hBx (hold g e.symm)))
              refine hK _ w' ⟨fun x => if x = OW + i then v.ownBlock else B x, ⟨fun x g hl hg => ?_, fun x g hl hg => ?_, fun x x' g h1 h2 => ?_, ?_, by rw [put_size, hi.size], by rw [put_dfr, hi.dfr]⟩, fun x c hx => ?_, fun x hl hx => ?_⟩
              · have hne' : x ≠ OW + i := by omega
                simp only [hne', if_false] at hg
                obtain ⟨h1, cs, ty, h2, h3, h4⟩ := hi.blk x g hl hg
                exact ⟨h1, cs, ty, by rw [(msSet_vt2 hdd.2).1, killS_vt]; exact h2, by rw [hsm x g hne' hg]; exact h3, h4⟩
              · by_cases e : x = OW + i
                · subst e
                  simp only [if_true] at hg
                  exact ⟨hgb g hg, (hblk g hg).2.1, (hblk g hg).2.2⟩
                · simp only [e, if_false] at hg
                  obtain ⟨h1, h2, cs, t1, h3, h4⟩ := hi.own x g hl hg
                  exact ⟨h1, Nat.lt_of_lt_of_le h2 hgrow.size, cs, t1, by rw [hsm x g e hg]; exact h3, h4⟩
              · by_cases e : x = OW + i <;> by_cases e' : x' = OW + i
                · rw [e, e']
                · simp only [e, e', if_true, if_false] at h1 h2; exact absurd h1 (hne x' g e' h2)
                · simp only [e, e', if_true, if_false] at h1 h2; exact absurd h2 (hne x g e h1)
                · simp only [e, e', if_false] at h1 h2; exact hi.inj x x' g h1 h2
              · refine hi.below.trans ⟨hgrow.os, hgrow.tape, hgrow.output, hgrow.size, fun g hg => hgrow.block g (Nat.lt_of_lt_of_le hg hi.below.size) (fun e => ?_)⟩
                have := (hi.own _ g (Nat.le_add_right _ _) (hold g e.symm)).1
                omega
              · rcases msSet_slot hdd.2 hx with ⟨rfl, rfl⟩ | ⟨hxd, hx⟩
                · unfold LocH
                  rw [if_pos hdd.2]
                  refine ⟨v, put_eq (by rw [hi.size]; exact hdd.1), s1, hs1, hp1, fun g hg x hx => ?_, fun g hg => by simp [hg]⟩
                  by_cases e : x = OW + i
                  · exact e
                  · simp only [e, if_false] at hx
                    exact absurd (hfp1 g hg) (hne x g e hx)
                · obtain ⟨h1, h2, h3⟩ := killS_get hx
                  have h4 := hv x c h1
                  unfold LocH at h4 ⊢
                  split at h4
                  · rename_i hxs
                    rw [if_pos hxs]
                    obtain ⟨u, k1, k2⟩ := h4
                    exact ⟨u, by rw [put_ne (fun t ht => by injection ht with ht; subst ht; exact fun e => hxd e.symm)]; exact k1, k2.reb h2 r⟩
                  · rename_i hxs
                    rw [if_neg hxs]
                    obtain ⟨g, cs, ty, u, k1, k2, k3, k4⟩ := h4
                    have hidx : x / 100000 - 1 ≠ OW + i := by
                      rcases h3 with h3 | h3
                      · exact absurd h3 hxs
                      · omega
                    exact ⟨g, cs, ty, u, by simp only [hidx, if_false]; exact k1, by rw [hsm _ g hidx k1]; exact k2, k3, k4.reb h2 r⟩
              · have hne' : x ≠ OW + i := by omega
                simp only [hne', if_false] at hx
                have := hB x hl hx
                rw [(msSet_vt2 hdd.2).2]
                simpa [killS] using this
            · cases h
          · cases h
        · cases h
      · cases h
    · cases h
  · cases h
theorem stepS_sound (hC : ∀ i ∈ C, i.Ok0 p ρ w0) (hO : ∀ i ∈ L, i.Ok p ρ) {s s' : MS} {j : Nat} (h : stepS p C L nt ops s j = some s') (hs : MSt ρ w0 nt s a w) {K : Act → World → Prop} (hK : ∀ a' w', MSt ρ w0 nt s' a' w' → K a' w') : wpOp p ops Q j K a w := by
  unfold stepS at h
  split at h
  · cases h
  · rename_i o ho
    split at h
    · rename_i s1 h1
      injection h with h; subst h
      exact appS_sound hO ho h1 hs hK
    · split at h
      · rename_i e new he
        injection h with h; subst h
        obtain ⟨B, hi, hv, hB⟩ := hs
        have hop := effG_ok (ρ := ρ) (w0 := w0) (Q := Q) hC hO ho he (vt := vtOf s ++ (new ++ [])) rfl
        have hal := effG_al he
        refine hop B a w (by rw [List.append_nil]; exact hi.ext new) (fun x _ c hc => hv x c hc) (fun v hv' => ?_) K (fun B' a' w' hp => hK a' w' ⟨B', ?_, fun x c hx => ?_, fun v hl hv' => ?_⟩)
        · cases hb : B v with
          | none => rfl
          | some g =>
            have h1 := hal v hv'
            have h2 := hB v (by rw [h1.1]; exact h1.2.2) (by rw [hb]; simp)
            rw [h1.1, vtOf_len] at h2; omega
        · rw [commit_vt, vtOf_ext]
          have := hp.inv
          rwa [List.append_nil] at this
        · have h1 := lkE_mono (fun x c h => msExt_get h) (commit_get hx)
          simp only [lkE] at h1
          cases hf : e.wr.find? (fun q => q.1 == x) with
          | some q =>
            rw [hf] at h1
            have h2 := List.find?_some hf
            have h3 := List.mem_of_find?_eq_some hf
            simp only [beq_iff_eq] at h2
            have h4 := hp.wr q h3
            simp only [Option.some.injEq] at h1
            rw [h2, h1] at h4
            exact h4
          | none =>
            rw [hf] at h1
            exact hp.keep x c (hv x c h1) (fun q hq e => by have := List.find?_eq_none.1 hf q hq; simp [e] at this)
        · have hl2 : (commit (msExt s new) [(j, e)]).vars.length = s.vars.length + new.length := by
            rw [← vtOf_len, commit_vt, vtOf_ext, List.length_append, vtOf_len]
          rw [hl2]
          cases hb : B v with
          | some g => have := hB v hl (by rw [hb]; simp); omega
          | none =>
            have h1 := hal v (hp.new v hb hv')
            rw [h1.1, vtOf_len]; omega
      · cases h
theorem seqX_sound (hC : ∀ i ∈ C, i.Ok0 p ρ w0) (hO : ∀ i ∈ L, i.Ok p ρ) : ∀ {js : List Nat} {s s' : MS} {a : Act} {w : World}, seqX p C L nt ops js s = some s' → MSt ρ w0 nt s a w → (∀ a' w', MSt ρ w0 nt s' a' w' → Q .normal a' w') → wpOps p ops Q js a w
  | [], s, s', a, w, h, hs, hQ => by
    simp only [seqX, Option.some.injEq] at h; subst h
    simp only [wpOps]
    exact hQ a w hs
  | j :: js, s, s', a, w, h, hs, hQ => by
    simp only [seqX] at h
    split at h
    · rename_i s1 h1
      rw [wpOps_cons]
      exact stepS_sound hC hO h1 hs (fun a' w' hs' => seqX_sound hC hO h hs' hQ)
    · cases h
/-- A row that grows no more. -/
def frzL (i n n' : Nat) (l : Leaf) : Option Leaf := match l with
  | .own k m => if k = i then (if m = n then some (.ref n') else none) else some l
  | .ptr x _ => if x = OW + i then none else some l
  | _ => some l
def frzA (i n n' : Nat) : Option AV → Option AV
  | some (.v (.one l)) => (frzL i n n' l).map fun l => .v (.one l)
  | some c => if c.has i then none else some c
  | none => none
def frz1 (i n n' : Nat) (s : MS) : MS := ⟨s.slots.map (frzA i n n'), s.vars.map fun v => (v.1, v.2.map (killL i))⟩
def frzS (L : List OIns) (id : Nat) (s : MS) : MS := L.foldl (fun s o => match o.key, o.xs, o.r with
  | .frz r i, [.one (.ref n)], .one (.ref n') => if r = id ∧ s.vars.length < OW then frz1 i n n' s else s
  | _, _, _ => s) s
theorem frz1_sound {n n' rid : Nat} {s : MS} (hr : (OIns.mk (.frz rid i) [.one (.ref n)] (.one (.ref n'))).Ok p ρ) (hvl : s.vars.length < OW) (hs : MSt ρ w0 nt s a w) : MSt ρ w0 nt (frz1 i n n' s) a w := by
  obtain ⟨B, hi, hv, hB⟩ := hs
  have r : Reb B (fun x => if x = OW + i then none else B x) i w w none := ⟨fun x hx => by simp [hx], fun g hg => (by simp at hg), fun g h => (by cases h), ⟨Nat.le_refl _, fun _ _ _ => rfl, fun _ h => (by cases h)⟩⟩
  have vte : vtOf (frz1 i n n' s) = vtOf s := by unfold vtOf frz1; simp [List.map_map, Function.comp_def]
  refine ⟨fun x => if x = OW + i then none else B x, ⟨fun x g hl hg => ?_, fun x g hl hg => ?_, fun x x' g h1 h2 => ?_, hi.below, hi.size, hi.dfr⟩, fun x c hx => ?_, fun x hl hx => ?_⟩
  · have hne : x ≠ OW + i := by omega
    simp only [hne, if_false] at hg
    rw [vte]; exact hi.blk x g hl hg
  · by_cases e : x = OW + i
    · simp [e] at hg
    · simp only [e, if_false] at hg; exact hi.own x g hl hg
  · by_cases e : x = OW + i
    · simp [e] at h1
    · by_cases e' : x' = OW + i
      · simp [e'] at h2
      · simp only [e, e', if_false] at h1 h2; exact hi.inj x x' g h1 h2
  · unfold msGet frz1 at hx
    simp only at hx
    split at hx
    · rename_i hxs
      rw [List.getElem?_map] at hx
      cases e : s.slots[x]? with
      | none => rw [e] at hx; simp at hx
      | some d =>
        rw [e] at hx
        have h1 : frzA i n n' d = some c := by simpa using hx
        cases d with
        | none => cases h1
        | some d =>
          have h2 := hv x d (by unfold msGet; rw [if_pos hxs, e])
          unfold LocH at h2 ⊢
          rw [if_pos hxs] at h2 ⊢
          obtain ⟨u, k1, k2⟩ := h2
          refine ⟨u, k1, ?_⟩
          have other : (if d.has i then none else some d) = some c → c.holds ρ (fun x => if x = OW + i then none else B x) w u := fun h => by
            split at h
            · cases h
            · rename_i hn; injection h with h; subst h
              exact k2.reb (by simpa using hn) r
          cases d with
          | v sv =>
            cases sv with
            | one l =>
              simp only [frzA] at h1
              cases hf : frzL i n n' l with
              | none => rw [hf] at h1; cases h1
              | some l' =>
                rw [hf] at h1
                simp only [Option.map_some, Option.some.injEq] at h1
                subst h1
                cases l with
                | own k m =>
                  simp only [frzL] at hf
                  split at hf
                  · rename_i hk
                    subst hk
                    split at hf
                    · rename_i hm
                      subst hm
                      injection hf with hf; subst hf
                      obtain ⟨q, q1, q2, q3, q4⟩ := k2
                      have h5 : (Leaf.ref m).holds ρ (fun x => if x = OW + k then none else B x) w u := ⟨q, q1, q2, fun g hg x hx => by
                        by_cases e : x = OW + k
                        · simp [e] at hx
                        · simp only [e, if_false] at hx; exact e (q3 g hg x hx)⟩
                      exact hr _ w [u] ⟨h5, trivial⟩
                    · cases hf
                  · rename_i hk
                    injection hf with hf; subst hf
                    exact AV.holds.reb (c := .v (.one (.own k m))) k2 (by simpa [AV.has, SV.has, Leaf.has] using hk) r
                | ptr y o =>
                  simp only [frzL] at hf
                  split at hf
                  · cases hf
                  · rename_i hy
                    injection hf with hf; subst hf
                    exact AV.holds.reb (c := .v (.one (.ptr y o))) k2 (by simpa [AV.has, SV.has, Leaf.has] using hy) r
                | _ =>
                  simp only [frzL, Option.some.injEq] at hf
                  subst hf
                  exact AV.holds.reb k2 (by rfl) r
            | agg ls => exact other h1
          | tup xs => exact other h1
          | any => exact other h1
    · rename_i hxs
      have hk : msGet (killS i s) x = some c := by
        unfold msGet killS
        rw [if_neg hxs]
        exact hx
      obtain ⟨h1, h2, h3⟩ := killS_get hk
      have h4 := hv x c h1
      unfold LocH at h4 ⊢
      rw [if_neg hxs] at h4 ⊢
      obtain ⟨g, cs, ty, u, k1, k2, k3, k4⟩ := h4
      have hidx : x / 100000 - 1 ≠ OW + i := by
        rcases h3 with h3 | h3
        · exact absurd h3 hxs
        · omega
      exact ⟨g, cs, ty, u, by simp only [hidx, if_false]; exact k1, k2, k3, k4.reb h2 r⟩
  · have hne : x ≠ OW + i := by omega
    simp only [hne, if_false] at hx
    have := hB x hl hx
    simpa [frz1] using this
theorem frzS_sound {id : Nat} : ∀ {L : List OIns} {s : MS}, (∀ i ∈ L, i.Ok p ρ) → MSt ρ w0 nt s a w → MSt ρ w0 nt (frzS L id s) a w
  | [], s, _, hs => hs
  | q :: L, s, hO, hs => by
    unfold frzS
    rw [List.foldl_cons]
    refine frzS_sound (fun i hi => hO i (List.mem_cons_of_mem _ hi)) ?_
    split
    · rename_i r i n n' h1 h2 h3
      split
      · rename_i hc
        refine frz1_sound (p := p) (rid := r) ?_ hc.2 hs
        have := hO q (by simp)
        obtain ⟨k, xs, rr⟩ := q
        simp only at h1 h2 h3
        subst h1; subst h2; subst h3
        exact this
      · exact hs
    · exact hs
end
/-- A region, its operations in any order, or one after the other. -/
def regZ (p : Program) (C : List Inst) (L : List OIns) (nt id : Nat) (ops : Array Oper) (draw : Bool) (s : MS) : Option MS :=
  match regX p C L nt ops (frzS L id s) with
  | some s1 => some s1
  | none => if draw then none else seqX p C L nt ops (List.range ops.size) (frzS L id s)
section
variable {p : Program} {ρ : Rho} {a : Act} {w w0 : World} {C : List Inst} {L : List OIns} {nt : Nat} {Q : Exit → Act → World → Prop} {ops : Array Oper}
theorem regZ_sound (hC : ∀ i ∈ C, i.Ok0 p ρ w0) (hO : ∀ i ∈ L, i.Ok p ρ) (hm : p.follows .mixedOrders = true) {s s' : MS} {id : Nat} {draw : Bool} (h : regZ p C L nt id ops draw s = some s') (hs : MSt ρ w0 nt s a w)
    (hQ : ∀ a' w', MSt ρ w0 nt s' a' w' → Q .normal a' w') : (Code.region id ops draw).wp p Q a w := by
  have hs' := frzS_sound (p := p) (id := id) hO hs
  unfold regZ at h
  split at h
  · rename_i s1 hr
    injection h with h; subst h
    exact regX_sound hC hO hm hr hs' hQ
  · cases draw with
    | true => simp at h
    | false =>
      simp only [Bool.false_eq_true, if_false] at h
      exact wp_region (seqX_sound hC hO h hs' hQ)
end
end Go.Proofs.YthebfmlfgfmlnaaGreatDoor
namespace Go.Proofs.YthebfmlfgfmlnaaGreatDoor
set_option linter.unusedSimpArgs false
set_option linter.unusedVariables false
set_option maxRecDepth 100000
open Go.RowKit
inductive Ex where
  | nrm
  | ext (id : Nat)
  | ret
  deriving DecidableEq
def Ex.exit : Ex → Exit
  | .nrm => .normal
  | .ext id => .exit id
  | .ret => .ret
def exec (p : Program) (C : List Inst) (L : List OIns) (nt : Nat) : Nat → Code → MS → Option (Ex × MS)
  | 0, _, _ => none
  | n + 1, c, s => match c with
    | .skip => some (.nrm, s)
    | .region id ops draw => (regZ p C L nt id ops draw s).map fun s => (.nrm, s)
    | .seq a b => match exec p C L nt n a s with
      | some (.nrm, s1) => exec p C L nt n b s1
      | r => r
    | .cond c x y => match evL (msGet s) c with
      | some (.b true) => exec p C L nt n x s
      | some (.b false) => exec p C L nt n y s
      | _ => none
    | .block id b => match exec p C L nt n b s with
      | some (.ext i, s1) => if i = id then some (.nrm, s1) else some (.ext i, s1)
      | r => r
    | .loop b => match exec p C L nt n b s with
      | some (.nrm, s1) => exec p C L nt n (.loop b) s1
      | r => r
    | .exit id => some (.ext id, s)
    | .ret => some (.ret, s)
    | _ => none
section
variable {p : Program} {ρ : Rho} {a : Act} {w w0 : World} {C : List Inst} {L : List OIns} {nt : Nat} {Q : Exit → Act → World → Prop}
/-- A loop goes through its rounds one after the other. -/
theorem wp_loop_rounds {c : Code} (I : Nat → Act → World → Prop) (N : Nat) (h0 : I 0 a w) (round : ∀ k a w, k ≤ N → I k a w → c.wp p (Exit.then (fun a' w' => k < N ∧ I (k + 1) a' w') Q) a w) : (Code.loop c).wp p Q a w := by
  intro b k cs
  have key : ∀ n j a w, N - j = n → j ≤ N → I j a w →
      ∃ e a' w', Q e a' w' ∧ Arrives p (lone (b.at a (.code c :: .inLoop c :: k)) cs w) b k cs e a' w' := by
    intro n
    induction n with
    | zero =>
      intro j a w hn hj hI
      obtain ⟨e, a₁, w₁, hq, harr⟩ := round j a w hj hI b (.inLoop c :: k) cs
      cases e with
      | normal => obtain ⟨h, _⟩ := hq; omega
      | exit id => exact ⟨_, a₁, w₁, hq, .pass (x := .inLoop c) rfl (fun _ _ => .inl (by simp)) harr⟩
      | goto l => exact ⟨_, a₁, w₁, hq, .pass (x := .inLoop c) rfl (fun _ _ => .inl (by simp)) harr⟩
      | ret => exact ⟨_, a₁, w₁, hq, .pass (x := .inLoop c) rfl (fun _ _ => .inl (by simp)) harr⟩
      | panic ch => exact ⟨_, a₁, w₁, hq, .pass (x := .inLoop c) rfl (fun _ _ => .inl (by simp)) harr⟩
      | outgrown => exact ⟨_, a₁, w₁, hq, .pass (x := .inLoop c) rfl (fun _ _ => .inl (by simp)) harr⟩
    | succ n ih =>
      intro j a w hn hj hI
      obtain ⟨e, a₁, w₁, hq, harr⟩ := round j a w hj hI b (.inLoop c :: k) cs
      cases e with
      | normal =>
        obtain ⟨hlt, hI₁⟩ := hq
        obtain ⟨e₂, a₂, w₂, hq₂, harr₂⟩ := ih (j + 1) a₁ w₁ (by omega) (by omega) hI₁
        exact ⟨e₂, a₂, w₂, hq₂, .of_steps (Steps.trans harr (.one step_inLoop)) harr₂⟩
      | exit id => exact ⟨_, a₁, w₁, hq, .pass (x := .inLoop c) rfl (fun _ _ => .inl (by simp)) harr⟩
      | goto l => exact ⟨_, a₁, w₁, hq, .pass (x := .inLoop c) rfl (fun _ _ => .inl (by simp)) harr⟩
      | ret => exact ⟨_, a₁, w₁, hq, .pass (x := .inLoop c) rfl (fun _ _ => .inl (by simp)) harr⟩
      | panic ch => exact ⟨_, a₁, w₁, hq, .pass (x := .inLoop c) rfl (fun _ _ => .inl (by simp)) harr⟩
      | outgrown => exact ⟨_, a₁, w₁, hq, .pass (x := .inLoop c) rfl (fun _ _ => .inl (by simp)) harr⟩
  obtain ⟨e, a', w', hq, harr⟩ := key (N - 0) 0 a w rfl (by omega) h0
  exact ⟨e, a', w', hq, .of_steps (.one step_loop) harr⟩
theorem evL_ms {s : MS} {x : Operand} {l : Leaf} (hs : MSt ρ w0 nt s a w) (h : evL (msGet s) x = some l) : ∃ B, l.holds ρ B w (a.eval x) := by
  obtain ⟨B, _, hv, _⟩ := hs
  exact ⟨B, evL_k (fun y _ c hc => hv y c hc) h⟩
theorem exec_sound (hC : ∀ i ∈ C, i.Ok0 p ρ w0) (hO : ∀ i ∈ L, i.Ok p ρ) (hm : p.follows .mixedOrders = true) : ∀ {n : Nat} {c : Code} {s s' : MS} {e : Ex} {a : Act} {w : World} {Q : Exit → Act → World → Prop}, exec p C L nt n c s = some (e, s') →
    MSt ρ w0 nt s a w → (∀ a' w', MSt ρ w0 nt s' a' w' → Q e.exit a' w') → c.wp p Q a w
  | 0, _, _, _, _, _, _, _, h, _, _ => by simp [exec] at h
  | n + 1, c, s, s', e, a, w, Q, h, hs, hQ => by
    cases c with
    | skip =>
      simp [exec] at h; obtain ⟨rfl, rfl⟩ := h
      exact wp_skip (hQ a w hs)
    | region id ops draw =>
      simp only [exec] at h
      cases hr : regZ p C L nt id ops draw s with
      | none => rw [hr] at h; cases h
      | some s1 =>
        rw [hr] at h; simp at h; obtain ⟨rfl, rfl⟩ := h
        exact regZ_sound hC hO hm hr hs hQ
    | seq x y =>
      simp only [exec] at h
      split at h
      · rename_i s1 h1
        refine wp_seq (exec_sound hC hO hm h1 hs (fun a' w' hs' => ?_))
        exact exec_sound hC hO hm h hs' hQ
      · rename_i hne
        refine wp_seq (exec_sound hC hO hm h hs (fun a' w' hs' => ?_))
        cases e with
        | nrm => exact absurd h (hne s')
        | ext id => exact hQ a' w' hs'
        | ret => exact hQ a' w' hs'
    | cond k x y =>
      simp only [exec] at h
      split at h
      · rename_i hk
        obtain ⟨B, hb⟩ := evL_ms hs hk
        exact wp_cond_true hb (exec_sound hC hO hm h hs hQ)
      · rename_i hk
        obtain ⟨B, hb⟩ := evL_ms hs hk
        exact wp_cond_false hb (exec_sound hC hO hm h hs hQ)
      · cases h
    | block id b =>
      simp only [exec] at h
      split at h
      · rename_i i s1 h1
        refine wp_block (exec_sound hC hO hm h1 hs (fun a' w' hs' => ?_))
        split at h
        · rename_i hi
          simp at h; obtain ⟨rfl, rfl⟩ := h
          show if i = id then _ else _
          rw [if_pos hi]; exact hQ a' w' hs'
        · rename_i hi
          simp at h; obtain ⟨rfl, rfl⟩ := h
          show if i = id then _ else _
          rw [if_neg hi]; exact hQ a' w' hs'
      · rename_i hne
        refine wp_block (exec_sound hC hO hm h hs (fun a' w' hs' => ?_))
        cases e with
        | nrm => exact hQ a' w' hs'
        | ext id => exact absurd h (hne id s')
        | ret => exact hQ a' w' hs'
    | loop b =>
      -- the states at the rounds' beginnings
      have key : ∀ (n : Nat) (s : MS), exec p C L nt n (.loop b) s = some (e, s') → ∃ (N : Nat) (S : Nat → MS), S 0 = s ∧ ∀ k, k ≤ N → ∃ m r, m < n ∧ exec p C L nt m b (S k) = some r ∧ ((k < N ∧ r = (.nrm, S (k + 1))) ∨ (k = N ∧ r = (e, s') ∧ r.1 ≠ .nrm)) := by
        intro n
        induction n with
        | zero => intro s h; simp [exec] at h
        | succ n ih =>
          intro s h
          simp only [exec] at h
          split at h
          · rename_i s1 h1
            obtain ⟨N, S, h2, h3⟩ := ih s1 h
            refine ⟨N + 1, fun k => match k with | 0 => s | k + 1 => S k, rfl, fun k hk => ?_⟩
            match k with
            | 0 => exact ⟨n, _, by omega, h1, .inl ⟨by omega, by rw [← h2]⟩⟩
            | k + 1 =>
              obtain ⟨m, r, k1, k2, k3⟩ := h3 k (by omega)
              exact ⟨m, r, by omega, k2, k3.imp (fun ⟨x, y⟩ => ⟨by omega, y⟩) (fun ⟨x, y⟩ => ⟨by omega, y⟩)⟩
          · rename_i hne
            refine ⟨0, fun _ => s, rfl, fun k hk => ⟨n, (e, s'), by omega, h, .inr ⟨by omega, rfl, fun he => hne s' ?_⟩⟩⟩
            simp only at he
            rw [h, he]
      obtain ⟨N, S, h0, hS⟩ := key (n + 1) s h
      refine wp_loop_rounds (fun k a w => MSt ρ w0 nt (S k) a w) N (by rw [h0]; exact hs) (fun k a w hk hI => ?_)
      obtain ⟨m, r, hmn, hr, hor⟩ := hS k hk
      obtain ⟨e1, s1⟩ := r
      refine exec_sound hC hO hm hr hI (fun a' w' hs' => ?_)
      rcases hor with ⟨h1, h2⟩ | ⟨h1, h2, h3⟩
      · simp at h2; obtain ⟨rfl, rfl⟩ := h2
        exact ⟨h1, hs'⟩
      · simp at h2; obtain ⟨rfl, rfl⟩ := h2
        cases e1 with
        | nrm => exact absurd rfl h3
        | ext id => exact hQ a' w' hs'
        | ret => exact hQ a' w' hs'
    | exit id =>
      simp [exec] at h; obtain ⟨rfl, rfl⟩ := h
      exact wp_exit (hQ a w hs)
    | ret =>
      simp [exec] at h; obtain ⟨rfl, rfl⟩ := h
      exact wp_ret (hQ a w hs)
    | _ => simp [exec] at h
termination_by n => n
end
end Go.Proofs.YthebfmlfgfmlnaaGreatDoor
namespace Go.Proofs.YthebfmlfgfmlnaaGreatDoor
set_option linter.unusedSimpArgs false
set_option linter.unusedVariables false
set_option maxRecDepth 100000
open Go.RowKit
def resA1 (p : Program) (s : MS) : ResultVar → Option SV
  | .tmp t => evS (msGet s) (.tmp t)
  | .cell t ty => match pureV p [] (msGet s) (.load ty (.tmp t)) with
    | some (.v x, _) => some x
    | _ => none
def resAs (p : Program) (s : MS) : List ResultVar → Option (List SV)
  | [] => some []
  | r :: rs => match resA1 p s r, resAs p s rs with
    | some x, some xs => some (x :: xs)
    | _, _ => none
def resA (p : Program) (s : MS) (rs : List ResultVar) : Option AV :=
  match resAs p s rs with
  | some [x] => some (.v x)
  | some xs => some (.tup xs)
  | none => none
def Leaf.noPtr : Leaf → Bool
  | .ptr _ _ => false
  | .own _ _ => false
  | _ => true
def SV.noPtr : SV → Bool
  | .one l => l.noPtr
  | .agg ls => ls.all Leaf.noPtr
def AV.noPtr : AV → Bool
  | .v s => s.noPtr
  | .tup xs => xs.all SV.noPtr
  | .any => true
def startS (args : List SV) (n : Nat) : List (Option AV) := args.map (fun s => some (.v s)) ++ List.replicate (n - args.length) none
/-- The answer of a function. -/
def runFn (p : Program) (C : List Inst) (L : List OIns) (fn : Func) (args : List SV) (fuel : Nat) : Option AV :=
  if args.length ≤ fn.ntmps ∧ fn.ntmps ≤ 100000 then
    match fn.body with
    | some c => match exec p C L fn.ntmps fuel c ⟨startS args fn.ntmps, []⟩ with
      | some (.ext _, _) => none
      | some (_, s) => match resA p s fn.results.toList with
        | some r => if r.noPtr then some r else none
        | none => none
      | none => none
    | none => none
  else none
def resM (tmps : Array Value) : ResultVar → Sem Value
  | .tmp t => pure (tmps.getD t undef)
  | .cell t ty => do loadVar ty (← asAddr (tmps.getD t undef))
theorem results_eq (fn : Func) (tmps : Array Value) : results fn tmps = (do let vs ← fn.results.mapM (resM tmps); pure (if h : vs.size = 1 then vs[0] else .tuple vs)) := by
  unfold results
  congr 1
section
variable {p : Program} {ρ : Rho} {B : Blk} {a : Act} {w w0 : World} {C : List Inst} {L : List OIns} {nt : Nat}
theorem Leaf.holds.free {l : Leaf} {v : Value} (h : l.holds ρ B w v) (hn : l.noPtr = true) : l.holds ρ (fun _ => none) w v := by
  cases l <;> first
    | exact h
    | (simp [Leaf.noPtr] at hn; done)
    | (obtain ⟨s, h1, h2, _⟩ := h; exact ⟨s, h1, h2, fun g hg x hx => by cases hx⟩)
theorem LeavesH.free : ∀ {ls : List Leaf} {vs : List Value}, LeavesH ρ B w ls vs → ls.all Leaf.noPtr = true → LeavesH ρ (fun _ => none) w ls vs
  | [], [], _, _ => trivial
  | _ :: _, _ :: _, h, hn => by
    simp only [List.all_cons, Bool.and_eq_true] at hn
    exact ⟨h.1.free hn.1, LeavesH.free h.2 hn.2⟩
  | [], _ :: _, h, _ => h.elim
  | _ :: _, [], h, _ => h.elim
theorem SV.holds.free {s : SV} {v : Value} (h : s.holds ρ B w v) (hn : s.noPtr = true) : s.holds ρ (fun _ => none) w v := by
  cases s with
  | one l => exact Leaf.holds.free h hn
  | agg ls => obtain ⟨vs, e, h⟩ := h; exact ⟨vs, e, h.free hn⟩
theorem SVsH.free : ∀ {ls : List SV} {vs : List Value}, SVsH ρ B w ls vs → ls.all SV.noPtr = true → SVsH ρ (fun _ => none) w ls vs
  | [], [], _, _ => trivial
  | _ :: _, _ :: _, h, hn => by
    simp only [List.all_cons, Bool.and_eq_true] at hn
    exact ⟨h.1.free hn.1, SVsH.free h.2 hn.2⟩
  | [], _ :: _, h, _ => h.elim
  | _ :: _, [], h, _ => h.elim
theorem AV.holds.free {s : AV} {v : Value} (h : s.holds ρ B w v) (hn : s.noPtr = true) : s.holds ρ (fun _ => none) w v := by
  cases s with
  | v s => exact SV.holds.free h hn
  | tup xs => obtain ⟨vs, e, h⟩ := h; exact ⟨vs, e, h.free hn⟩
  | any => exact h
theorem asAddr_of {v : Value} {ad : Addr} (h : v = .pointer (some ad)) : (asAddr v).run p w = .ok ad w := by subst h; rfl
theorem resAs_run {s : MS} (hv : ∀ x c, msGet s x = some c → LocH ρ B a w x c) : ∀ {rs : List ResultVar} {xs : List SV}, resAs p s rs = some xs →
    ∃ vs : List Value, (rs.mapM (resM a.tmps)).run p w = .ok vs w ∧ SVsH ρ B w xs vs
  | [], xs, h => by simp [resAs] at h; subst h; exact ⟨[], by simp, trivial⟩
  | r :: rs, xs, h => by
    simp only [resAs] at h
    split at h
    · rename_i x xs' h1 h2
      simp at h; subst h
      obtain ⟨vs, h3, h4⟩ := resAs_run hv h2
      have one : ∃ v, (resM a.tmps r).run p w = .ok v w ∧ x.holds ρ B w v := by
        cases r with
        | tmp t => exact ⟨a.tmps.getD t undef, rfl, evS_k (x := .tmp t) (fun y _ c hc => hv y c hc) h1⟩
        | cell t ty =>
          simp only [resA1] at h1
          split at h1
          · rename_i y rd hp
            injection h1 with h1; subst h1
            obtain ⟨ad, u, e1, e2, e3⟩ := load_var (p := p) hp (fun y _ c hc => hv y c hc) (fun y _ c hc => hv y c hc)
            refine ⟨u, ?_, e3⟩
            have e1' : a.tmps.getD t undef = .pointer (some ad) := e1
            simp only [resM, Sem.run_bind, asAddr_of e1', Result.andThen, e2]
          · cases h1
      obtain ⟨v, h5, h6⟩ := one
      refine ⟨v :: vs, ?_, h6, h4⟩
      simp only [List.mapM_cons, Sem.run_bind, Sem.run_pure]
      rw [h5]
      simp only [Result.andThen]
      rw [h3]
    · cases h
theorem resA_run {s : MS} (hv : ∀ x c, msGet s x = some c → LocH ρ B a w x c) {fn : Func} {r : AV} (h : resA p s fn.results.toList = some r) : ∃ v, (results fn a.tmps).run p w = .ok v w ∧ r.holds ρ B w v := by
  have arr : ∀ vs : List Value, (fn.results.toList.mapM (resM a.tmps)).run p w = .ok vs w →
      (results fn a.tmps).run p w = .ok (if h : vs.toArray.size = 1 then vs.toArray[0] else .tuple vs.toArray) w := by
    intro vs hvs
    rw [results_eq, Sem.run_bind]
    have : ∀ (f : ResultVar → Sem Value) (xs : Array ResultVar), (xs.toList.mapM f).run p w = .ok vs w → (xs.mapM f).run p w = .ok vs.toArray w := by
      intro f xs hx
      obtain ⟨l⟩ := xs
      simp only [List.mapM_toArray, map_eq_pure_bind, Sem.run_bind, hx, Result.andThen, Sem.run_pure]
    rw [this _ _ hvs]; rfl
  unfold resA at h
  split at h
  · rename_i x hx
    injection h with h; subst h
    obtain ⟨vs, h1, h2⟩ := resAs_run hv hx
    match vs, h2 with
    | [v], h2 => exact ⟨v, by rw [arr _ h1]; rfl, h2.1⟩
  · rename_i xs hne hx
    injection h with h; subst h
    obtain ⟨vs, h1, h2⟩ := resAs_run hv hx
    refine ⟨.tuple vs.toArray, ?_, vs, rfl, h2⟩
    rw [arr _ h1, dif_neg]
    intro h3
    match vs, xs, h2 with
    | [], [], _ => simp at h3
    | [_], [y], _ => exact hne y rfl
    | _ :: _ :: _, _, _ => simp at h3
  · cases h
theorem SVsH.len : ∀ {ls : List SV} {vs : List Value}, SVsH ρ B w ls vs → vs.length = ls.length
  | [], [], _ => rfl
  | _ :: _, _ :: _, h => by simp [h.2.len]
  | [], _ :: _, h => h.elim
  | _ :: _, [], h => h.elim
/-- A function answers what the executor reckons. -/
theorem calls_runFn (hC : ∀ i ∈ C, i.Ok0 p ρ w) (hO : ∀ i ∈ L, i.Ok p ρ) (hm : p.follows .mixedOrders = true) {f : FuncId} {fn : Func} (hf : p.funcs[f]? = some fn) {args : List SV} {vs : List Value} {fuel : Nat} {r : AV}
    (h : runFn p C L fn args fuel = some r) (ha : SVsH ρ (fun _ => none) w args vs) : Calls p f vs.toArray w (fun e w' => ∃ v, e = .returned v ∧ r.holds ρ (fun _ => none) w' v ∧ Below w.heap.size w w') := by
  unfold runFn at h
  split at h
  · rename_i hn
    split at h
    · rename_i c hb
      have hl := ha.len
      have hst : MSt ρ w fn.ntmps ⟨startS args fn.ntmps, []⟩ { tmps := vs.toArray ++ Array.replicate (fn.ntmps - vs.toArray.size) undef, defers := [] } w := by
        refine ⟨fun _ => none, ⟨fun v g _ hg => (by cases hg), fun v g _ hg => (by cases hg), fun v v' g hg => (by cases hg), Below.refl _ _, by simp; omega, rfl⟩, fun x k hx => ?_, fun v _ hv => absurd rfl hv⟩
        unfold msGet at hx
        split at hx
        · rename_i hx1
          unfold LocH
          rw [if_pos hx1]
          simp only at hx
          unfold startS at hx
          by_cases hxa : x < args.length
          · rw [List.getElem?_append_left (by simpa using hxa), List.getElem?_map, List.getElem?_eq_getElem hxa] at hx
            simp at hx; subst hx
            obtain ⟨v, h1, h2⟩ := ha.get (List.getElem?_eq_getElem hxa)
            refine ⟨v, ?_, h2⟩
            simp only
            rw [Array.getElem?_append_left (by simp; omega)]
            simpa using h1
          · rw [List.getElem?_append_right (by simp; omega)] at hx
            simp only [List.getElem?_replicate] at hx
            split at hx
            · rename_i hq
              split at hq
              · simp at hq; subst hq; cases hx
              · cases hq
            · cases hx
        · simp at hx
      have hret : ∀ {s : MS} {e : Ex}, exec p C L fn.ntmps fuel c ⟨startS args fn.ntmps, []⟩ = some (e, s) → e = .nrm ∨ e = .ret → (match resA p s fn.results.toList with | some r => if r.noPtr then some r else none | none => none) = some r →
          Calls p f vs.toArray w (fun e w' => ∃ v, e = .returned v ∧ r.holds ρ (fun _ => none) w' v ∧ Below w.heap.size w w') := by
        intro s e he hor hr
        split at hr
        · rename_i r' hr'
          split at hr
          · rename_i hnp
            injection hr with hr; subst hr
            refine calls_of_wp hf hb (exec_sound hC hO hm he hst (fun a' w' hs' => ?_))
            obtain ⟨B, hi, hv, _⟩ := hs'
            obtain ⟨v, h1, h2⟩ := resA_run (p := p) hv hr'
            rcases hor with rfl | rfl
            · exact ⟨hi.dfr, v, h1, v, rfl, h2.free hnp, hi.below⟩
            · exact ⟨hi.dfr, v, h1, v, rfl, h2.free hnp, hi.below⟩
          · cases hr
        · cases hr
      split at h
      · cases h
      · rename_i e s he hx
        have hor : e = .nrm ∨ e = .ret := by
          cases e with
          | nrm => exact .inl rfl
          | ret => exact .inr rfl
          | ext id => exact (he id rfl).elim
        exact hret hx hor h
      · cases h
    · cases h
  · cases h
end
end Go.Proofs.YthebfmlfgfmlnaaGreatDoor
namespace Go.Proofs.YthebfmlfgfmlnaaGreatDoor
set_option linter.unusedSimpArgs false
set_option linter.unusedVariables false
set_option maxRecDepth 100000
open Go.RowKit
/-- What is known, said with other unknowns: those below N stay, the others are given by σ; places and variables may be left out. -/
def Leaf.cv (N V : Nat) (σ : List (Nat × Leaf)) (l l' : Leaf) : Bool :=
  match l' with
  | .ref n => if n < N then decide (l = .ref n) else σ.contains (n, l) && (match l with | .own _ _ => false | _ => true)
  | .ptr x o => decide (l = .ptr x o) && decide (x < V)
  | .own k m => if m < N then decide (l = .own k m) else σ.contains (m, l) && (match l with | .own k' _ => decide (k' = k) | _ => false)
  | _ => decide (l = l')
def leavesCv (N V : Nat) (σ : List (Nat × Leaf)) : List Leaf → List Leaf → Bool
  | [], [] => true
  | l :: ls, k :: ks => l.cv N V σ k && leavesCv N V σ ls ks
  | _, _ => false
def SV.cv (N V : Nat) (σ : List (Nat × Leaf)) : SV → SV → Bool
  | .one l, .one k => l.cv N V σ k
  | .agg ls, .agg ks => leavesCv N V σ ls ks
  | _, _ => false
def svsCv (N V : Nat) (σ : List (Nat × Leaf)) : List SV → List SV → Bool
  | [], [] => true
  | l :: ls, k :: ks => l.cv N V σ k && svsCv N V σ ls ks
  | _, _ => false
def AV.cv (N V : Nat) (σ : List (Nat × Leaf)) : AV → AV → Bool
  | .v l, .v k => l.cv N V σ k
  | .tup ls, .tup ks => svsCv N V σ ls ks
  | .any, .any => true
  | _, _ => false
def slotsCv (N V : Nat) (σ : List (Nat × Leaf)) : List (Option AV) → List (Option AV) → Bool
  | _, [] => true
  | _ :: cs, none :: ds => slotsCv N V σ cs ds
  | some c :: cs, some d :: ds => c.cv N V σ d && slotsCv N V σ cs ds
  | _, _ => false
def cellsCv (N V : Nat) (σ : List (Nat × Leaf)) : List (Option Leaf) → List (Option Leaf) → Bool
  | [], [] => true
  | _ :: cs, none :: ds => cellsCv N V σ cs ds
  | some c :: cs, some d :: ds => c.cv N V σ d && cellsCv N V σ cs ds
  | _, _ => false
def varsCv (N V : Nat) (σ : List (Nat × Leaf)) : List (TypeId × List (Option Leaf)) → List (TypeId × List (Option Leaf)) → Bool
  | _, [] => true
  | (t, cs) :: r, (t', ds) :: r' => decide (t = t') && (cellsCv N V σ cs ds && varsCv N V σ r r')
  | _, _ => false
def MS.cv (N : Nat) (σ : List (Nat × Leaf)) (s s' : MS) : Bool := slotsCv N s'.vars.length σ s.slots s'.slots && varsCv N s'.vars.length σ s.vars s'.vars
section
variable {ρ ρ' : Rho} {B : Blk} {a : Act} {w w0 : World} {nt N V : Nat} {σ : List (Nat × Leaf)} {s s' : MS} {v : Value}
def cutB (V : Nat) (B : Blk) : Blk := fun x => if x < V ∨ OW ≤ x then B x else none
/-- A leaf of the same kind about another unknown. -/
def Leaf.like : Leaf → Nat → Leaf
  | .own k _, n => .own k n
  | _, n => .ref n
theorem cutB_own {x : Nat} (h : OW ≤ x) : cutB V B x = B x := by unfold cutB; rw [if_pos (.inr h)]
def SigOk (ρ ρ' : Rho) (σ : List (Nat × Leaf)) : Prop := ∀ q ∈ σ, ∀ B B' w v, (∀ x g, B' x = some g → B x = some g) → (∀ x, OW ≤ x → B' x = B x) → q.2.holds ρ B w v → (Leaf.like q.2 q.1).holds ρ' B' w v
theorem cutB_some {x g : Nat} (h : cutB V B x = some g) : B x = some g := by
  unfold cutB at h
  split at h
  · exact h
  · cases h
theorem Leaf.cv_holds (hc : ∀ n, n < N → ρ[n]? = ρ'[n]?) (hσ : SigOk ρ ρ' σ) {l l' : Leaf} (h : l.cv N V σ l' = true) (hl : l.holds ρ B w v) : l'.holds ρ' (cutB V B) w v := by
  cases l' with
  | ref n =>
    simp only [Leaf.cv] at h
    split at h
    · rename_i hn
      have h := of_decide_eq_true h
      subst h
      obtain ⟨q, h1, h2, h3⟩ := hl
      exact ⟨q, by rw [← hc n hn]; exact h1, h2, fun g hg x hx => h3 g hg x (cutB_some hx)⟩
    · simp only [Bool.and_eq_true] at h
      have h1 := hσ (n, l) (List.contains_iff_mem.1 h.1) _ (cutB V B) _ _ (fun _ _ h => cutB_some h) (fun _ h => cutB_own h) hl
      cases l with
      | own k m => simp at h
      | _ => exact h1
  | own k m =>
    simp only [Leaf.cv] at h
    split at h
    · rename_i hn
      have h := of_decide_eq_true h
      subst h
      obtain ⟨q, h1, h2, h3, h4⟩ := hl
      exact ⟨q, by rw [← hc m hn]; exact h1, h2, fun g hg x hx => h3 g hg x (cutB_some hx), fun g hg => by rw [cutB_own (by omega)]; exact h4 g hg⟩
    · simp only [Bool.and_eq_true] at h
      have h1 := hσ (m, l) (List.contains_iff_mem.1 h.1) _ (cutB V B) _ _ (fun _ _ h => cutB_some h) (fun _ h => cutB_own h) hl
      cases l with
      | own k' m' =>
        have h2 : k' = k := by simpa using h.2
        subst h2
        exact h1
      | _ => simp at h
  | ptr x o =>
    simp only [Leaf.cv, Bool.and_eq_true, decide_eq_true_eq] at h
    obtain ⟨rfl, hx⟩ := h
    obtain ⟨g, h1, h2⟩ := hl
    exact ⟨g, by show (if x < V ∨ OW ≤ x then B x else none) = _; rw [if_pos (.inl hx)]; exact h1, h2⟩
  | _ =>
    simp only [Leaf.cv, decide_eq_true_eq] at h
    subst h
    exact hl
theorem leavesCv_holds (hc : ∀ n, n < N → ρ[n]? = ρ'[n]?) (hσ : SigOk ρ ρ' σ) : ∀ {l l' : List Leaf} {vs : List Value}, leavesCv N V σ l l' = true → LeavesH ρ B w l vs → LeavesH ρ' (cutB V B) w l' vs
  | [], [], [], _, _ => trivial
  | _ :: _, _ :: _, _ :: _, h, hl => by
    simp only [leavesCv, Bool.and_eq_true] at h
    exact ⟨Leaf.cv_holds hc hσ h.1 hl.1, leavesCv_holds hc hσ h.2 hl.2⟩
  | [], [], _ :: _, _, h => h.elim
  | [], _ :: _, _, h, _ => by simp [leavesCv] at h
  | _ :: _, [], _, h, _ => by simp [leavesCv] at h
  | _ :: _, _ :: _, [], _, h => h.elim
theorem SV.cv_holds (hc : ∀ n, n < N → ρ[n]? = ρ'[n]?) (hσ : SigOk ρ ρ' σ) {l l' : SV} (h : l.cv N V σ l' = true) (hl : l.holds ρ B w v) : l'.holds ρ' (cutB V B) w v := by
  cases l <;> cases l' <;> simp only [SV.cv] at h
  · exact Leaf.cv_holds hc hσ h hl
  · cases h
  · cases h
  · obtain ⟨vs, e, hl⟩ := hl; exact ⟨vs, e, leavesCv_holds hc hσ h hl⟩
theorem svsCv_holds (hc : ∀ n, n < N → ρ[n]? = ρ'[n]?) (hσ : SigOk ρ ρ' σ) : ∀ {l l' : List SV} {vs : List Value}, svsCv N V σ l l' = true → SVsH ρ B w l vs → SVsH ρ' (cutB V B) w l' vs
  | [], [], [], _, _ => trivial
  | _ :: _, _ :: _, _ :: _, h, hl => by
    simp only [svsCv, Bool.and_eq_true] at h
    exact ⟨SV.cv_holds hc hσ h.1 hl.1, svsCv_holds hc hσ h.2 hl.2⟩
  | [], [], _ :: _, _, h => h.elim
  | [], _ :: _, _, h, _ => by simp [svsCv] at h
  | _ :: _, [], _, h, _ => by simp [svsCv] at h
  | _ :: _, _ :: _, [], _, h => h.elim
theorem AV.cv_holds (hc : ∀ n, n < N → ρ[n]? = ρ'[n]?) (hσ : SigOk ρ ρ' σ) {l l' : AV} (h : l.cv N V σ l' = true) (hl : l.holds ρ B w v) : l'.holds ρ' (cutB V B) w v := by
  cases l <;> cases l' <;> simp only [AV.cv] at h <;> try (cases h)
  · exact SV.cv_holds hc hσ h hl
  · obtain ⟨vs, e, hl⟩ := hl; exact ⟨vs, e, svsCv_holds hc hσ h hl⟩
  · exact hl
theorem slotsCv_get : ∀ {cs ds : List (Option AV)} {i : Nat} {d : AV}, slotsCv N V σ cs ds = true → ds[i]? = some (some d) → ∃ c, cs[i]? = some (some c) ∧ c.cv N V σ d = true
  | _, [], _, _, _, h => by simp at h
  | _ :: cs, none :: ds, 0, _, _, h => by simp at h
  | _ :: cs, none :: ds, i + 1, d, h, hd => by
    simp only [slotsCv] at h
    obtain ⟨c, h1, h2⟩ := slotsCv_get (cs := cs) (ds := ds) (i := i) (d := d) h (by simpa using hd)
    exact ⟨c, by simpa using h1, h2⟩
  | some c :: cs, some d' :: ds, 0, d, h, hd => by
    simp only [slotsCv, Bool.and_eq_true] at h
    simp at hd; subst hd
    exact ⟨c, rfl, h.1⟩
  | some c :: cs, some d' :: ds, i + 1, d, h, hd => by
    simp only [slotsCv, Bool.and_eq_true] at h
    obtain ⟨c, h1, h2⟩ := slotsCv_get (cs := cs) (ds := ds) (i := i) (d := d) h.2 (by simpa using hd)
    exact ⟨c, by simpa using h1, h2⟩
  | [], none :: ds, _, _, h, _ => by simp [slotsCv] at h
  | [], some _ :: ds, _, _, h, _ => by simp [slotsCv] at h
  | none :: _, some _ :: _, _, _, h, _ => by simp [slotsCv] at h
theorem cellsCv_get : ∀ {cs ds : List (Option Leaf)} {i : Nat} {d : Leaf}, cellsCv N V σ cs ds = true → ds[i]? = some (some d) → ∃ c, cs[i]? = some (some c) ∧ c.cv N V σ d = true
  | [], [], _, _, _, h => by simp at h
  | _ :: cs, none :: ds, 0, _, _, h => by simp at h
  | _ :: cs, none :: ds, i + 1, d, h, hd => by
    simp only [cellsCv] at h
    obtain ⟨c, h1, h2⟩ := cellsCv_get (cs := cs) (ds := ds) (i := i) (d := d) h (by simpa using hd)
    exact ⟨c, by simpa using h1, h2⟩
  | some c :: cs, some d' :: ds, 0, d, h, hd => by
    simp only [cellsCv, Bool.and_eq_true] at h
    simp at hd; subst hd
    exact ⟨c, rfl, h.1⟩
  | some c :: cs, some d' :: ds, i + 1, d, h, hd => by
    simp only [cellsCv, Bool.and_eq_true] at h
    obtain ⟨c, h1, h2⟩ := cellsCv_get (cs := cs) (ds := ds) (i := i) (d := d) h.2 (by simpa using hd)
    exact ⟨c, by simpa using h1, h2⟩
  | [], none :: ds, _, _, h, _ => by simp [cellsCv] at h
  | [], some _ :: ds, _, _, h, _ => by simp [cellsCv] at h
  | none :: _, some _ :: _, _, _, h, _ => by simp [cellsCv] at h
  | _ :: _, [], _, _, h, _ => by simp [cellsCv] at h
theorem cellsCv_len : ∀ {cs ds : List (Option Leaf)}, cellsCv N V σ cs ds = true → cs.length = ds.length
  | [], [], _ => rfl
  | _ :: cs, none :: ds, h => by simp only [cellsCv] at h; simp [cellsCv_len h]
  | some _ :: cs, some _ :: ds, h => by simp only [cellsCv, Bool.and_eq_true] at h; simp [cellsCv_len h.2]
  | [], none :: ds, h => by simp [cellsCv] at h
  | [], some _ :: ds, h => by simp [cellsCv] at h
  | none :: _, some _ :: _, h => by simp [cellsCv] at h
  | _ :: _, [], h => by simp [cellsCv] at h
theorem varsCv_get : ∀ {cs ds : List (TypeId × List (Option Leaf))} {i : Nat} {d : TypeId × List (Option Leaf)}, varsCv N V σ cs ds = true → ds[i]? = some d → ∃ c, cs[i]? = some (d.1, c) ∧ cellsCv N V σ c d.2 = true
  | _, [], _, _, _, h => by simp at h
  | (t, c) :: cs, (t', d') :: ds, 0, d, h, hd => by
    simp only [varsCv, Bool.and_eq_true, decide_eq_true_eq] at h
    simp at hd; subst hd
    exact ⟨c, by simp [h.1], h.2.1⟩
  | (t, c) :: cs, (t', d') :: ds, i + 1, d, h, hd => by
    simp only [varsCv, Bool.and_eq_true, decide_eq_true_eq] at h
    obtain ⟨c, h1, h2⟩ := varsCv_get (cs := cs) (ds := ds) (i := i) (d := d) h.2.2 (by simpa using hd)
    exact ⟨c, by simpa using h1, h2⟩
  | [], _ :: _, _, _, h, _ => by simp [varsCv] at h
theorem MSt.conv (hc : ∀ n, n < N → ρ[n]? = ρ'[n]?) (hσ : SigOk ρ ρ' σ) (h : s.cv N σ s' = true) (hs : MSt ρ w0 nt s a w) : MSt ρ' w0 nt s' a w := by
  unfold MS.cv at h
  simp only [Bool.and_eq_true] at h
  obtain ⟨hS, hV⟩ := h
  obtain ⟨B, hi, hk, hv⟩ := hs
  have htab : ∀ v, v < s'.vars.length → (vtOf s')[v]? = (vtOf s)[v]? := fun v hv => by
    obtain ⟨c, h1, h2⟩ := varsCv_get hV (List.getElem?_eq_getElem hv)
    unfold vtOf
    rw [List.getElem?_map, List.getElem?_map, List.getElem?_eq_getElem hv, h1]
    simp [cellsCv_len h2]
  have hcut : ∀ x g, x < OW → cutB s'.vars.length B x = some g → x < s'.vars.length ∧ B x = some g := fun x g hl h => by
    unfold cutB at h
    split at h
    · rename_i h1
      exact ⟨by rcases h1 with h1 | h1 <;> omega, h⟩
    · cases h
  refine ⟨cutB s'.vars.length B, ⟨fun v g hl hg => ?_, fun v g hl hg => hi.own v g hl (cutB_some hg), fun v v' g h1 h2 => hi.inj v v' g (cutB_some h1) (cutB_some h2), hi.below, hi.size, hi.dfr⟩, fun x c hx => ?_, fun v hl h => ?_⟩
  · obtain ⟨h1, h2⟩ := hcut v g hl hg
    obtain ⟨h3, cs, ty, h4, h5⟩ := hi.blk v g hl h2
    exact ⟨h3, cs, ty, by rw [htab v h1]; exact h4, h5⟩
  · unfold msGet at hx
    by_cases hx1 : x < 100000
    · rw [if_pos hx1] at hx
      have hd : s'.slots[x]? = some (some c) := by
        cases e : s'.slots[x]? with
        | none => rw [e] at hx; cases hx
        | some d => rw [e] at hx; simp at hx; rw [hx]
      obtain ⟨c0, h1, h2⟩ := slotsCv_get hS hd
      have := hk x c0 (by unfold msGet; rw [if_pos hx1, h1])
      unfold LocH at this ⊢
      rw [if_pos hx1] at this ⊢
      obtain ⟨u, h3, h4⟩ := this
      exact ⟨u, h3, AV.cv_holds hc hσ h2 h4⟩
    · rw [if_neg hx1] at hx
      have : ∃ d l, s'.vars[x / 100000 - 1]? = some d ∧ d.2[x % 100000]? = some (some l) ∧ c = .v (.one l) := by
        cases e : s'.vars[x / 100000 - 1]? with
        | none => rw [e] at hx; simp at hx
        | some d =>
          rw [e] at hx
          cases e2 : d.2[x % 100000]? with
          | none => simp [e2] at hx
          | some l =>
            cases l with
            | none => simp [e2] at hx
            | some l => simp [e2] at hx; exact ⟨d, l, rfl, e2, hx.symm⟩
      obtain ⟨d, l, hd, hl, rfl⟩ := this
      obtain ⟨c, h1, h2⟩ := varsCv_get hV hd
      obtain ⟨l0, h3, h4⟩ := cellsCv_get h2 hl
      have := hk x (.v (.one l0)) (by unfold msGet; rw [if_neg hx1, h1]; simp [h3])
      unfold LocH at this ⊢
      rw [if_neg hx1] at this ⊢
      obtain ⟨g, cs, ty, u, h5, h6, h7, h8⟩ := this
      have hlt : x / 100000 - 1 < s'.vars.length := (List.getElem?_eq_some_iff.1 hd).1
      exact ⟨g, cs, ty, u, by unfold cutB; rw [if_pos (.inl hlt)]; exact h5, h6, h7, Leaf.cv_holds hc hσ h4 h8⟩
  · cases e : cutB s'.vars.length B v with
    | none => exact absurd e h
    | some g => exact (hcut v g hl e).1
end
/-- A loop of which it is asked that it leads from s to s2. -/
structure LOb where
  b : Code
  s : MS
  e : Ex
  s2 : MS
/-- A piece of code leads from s to s2. -/
def BodyOk (p : Program) (ρ : Rho) (w0 : World) (nt : Nat) (b : Code) (s : MS) (e : Ex) (s2 : MS) : Prop :=
  ∀ (a : Act) (w : World) (Q : Exit → Act → World → Prop), MSt ρ w0 nt s a w → (∀ a' w', MSt ρ w0 nt s2 a' w' → Q e.exit a' w') → b.wp p Q a w
def LOb.Ok (p : Program) (ρ : Rho) (w0 : World) (nt : Nat) (o : LOb) : Prop := BodyOk p ρ w0 nt (.loop o.b) o.s o.e o.s2
section
variable {p : Program} {ρ : Rho} {a : Act} {w w0 : World} {C : List Inst} {L : List OIns} {nt : Nat} {Q : Exit → Act → World → Prop}
end
section
variable {p : Program} {ρ : Rho} {w : World} {C : List Inst} {L : List OIns}
end
end Go.Proofs.YthebfmlfgfmlnaaGreatDoor
namespace Go.Proofs.YthebfmlfgfmlnaaGreatDoor
set_option linter.unusedSimpArgs false
set_option linter.unusedVariables false
set_option maxRecDepth 100000
open Go.RowKit
abbrev Ent' (f : FuncId) : Prop := ∀ (vs : Array Value) (w : World), (callFunc f vs).run Tryz.prog w = .ok (.enter f vs) w
theorem il_nil {ρ : Rho} {w : World} : ∀ i ∈ ([] : List Inst), i.Ok0 Tryz.prog ρ w := fun i h => by cases h
theorem il_cons {ρ : Rho} {w : World} {i : Inst} {l : List Inst} (h : i.Ok Tryz.prog ρ) (r : ∀ i ∈ l, i.Ok0 Tryz.prog ρ w) : ∀ j ∈ i :: l, j.Ok0 Tryz.prog ρ w := fun j hj => by
  rcases List.mem_cons.1 hj with rfl | hj
  · exact h.to0 w
  · exact r j hj
theorem ol_nil {ρ : Rho} : ∀ i ∈ ([] : List OIns), i.Ok Tryz.prog ρ := fun i h => by cases h
theorem ol_cons {ρ : Rho} {i : OIns} {l : List OIns} (h : i.Ok Tryz.prog ρ) (r : ∀ i ∈ l, i.Ok Tryz.prog ρ) : ∀ j ∈ i :: l, j.Ok Tryz.prog ρ := fun j hj => by
  rcases List.mem_cons.1 hj with rfl | hj
  · exact h
  · exact r j hj
section
variable {ρ : Rho} {n m k : Nat} {u v c : Int} {b d : Bool} {l : Leaf} {t : TypeId} {B : Blk} {w : World} {ik : IntKind} {x : Value}
theorem flat_int : Flat (.int .i64 u) := ⟨fun _ h => by (cases h), fun _ h => by (cases h), fun _ h => by (cases h)⟩
theorem flat_bool : Flat (.bool b) := ⟨fun _ h => by (cases h), fun _ h => by (cases h), fun _ h => by (cases h)⟩
theorem flat_str {s : ByteArray} : Flat (.string s) := ⟨fun _ h => by (cases h), fun _ h => by (cases h), fun _ h => by (cases h)⟩
theorem flat_ik (h : ik ≠ .u32) : Flat (.int ik u) := ⟨fun _ h => by (cases h), fun _ h => by (cases h), fun n e => by injection e with e1 e2; exact h e1⟩
theorem flat_slice {a : Option Addr} {L cp : Nat} : Flat (.slice a L cp) := ⟨fun _ h => by (cases h), fun _ h => by (cases h), fun _ h => by (cases h)⟩
theorem flat_ptr {a : Option Addr} : Flat (.pointer a) := ⟨fun _ h => by (cases h), fun _ h => by (cases h), fun _ h => by (cases h)⟩
theorem leaf_val {v x : Value} (hn : ρ[n]? = some (.val v)) (h : (Leaf.ref n).holds ρ B w x) : x = v := by
  obtain ⟨s, h1, h2⟩ := h
  rw [hn] at h1; injection h1 with h1; subst h1; exact h2.1.1
theorem leaf_mk {v : Value} (hn : ρ[n]? = some (.val v)) (hf : Flat v) : (Leaf.ref n).holds ρ B w v := ⟨_, hn, ⟨rfl, hf⟩, fun _ h => h.elim⟩
/-- A leaf that holds a number, a truth value, a text. -/
theorem li (h : u = c) : ∀ B w, (Leaf.i .i64 c).holds ρ B w (.int .i64 u) := fun _ _ => by subst h; rfl
theorem lb (h : b = d) : ∀ B w, (Leaf.b d).holds ρ B w (.bool b) := fun _ _ => by subst h; rfl
theorem lr (hn : ρ[n]? = some (.val (.int .i64 u))) : ∀ B w, (Leaf.ref n).holds ρ B w (.int .i64 u) := fun _ _ => leaf_mk hn flat_int
theorem lrb (hn : ρ[n]? = some (.val (.bool b))) : ∀ B w, (Leaf.ref n).holds ρ B w (.bool b) := fun _ _ => leaf_mk hn flat_bool
theorem ls {s : ByteArray} (hn : ρ[n]? = some (.val (.string s))) : ∀ B w, (Leaf.ref n).holds ρ B w (.string s) := fun _ _ => leaf_mk hn flat_str
theorem leafB {s : Bool} {x : Value} (h : ρ[n]? = some (.val (.bool s))) : (Leaf.ref n).holds ρ B w x ↔ x = .bool s :=
  ⟨leaf_val h, fun e => by subst e; exact leaf_mk h flat_bool⟩
theorem leafD {L N : Nat} {x : Value} (h : ρ[n]? = some (.dig L N)) : (Leaf.ref n).holds ρ B w x ↔ IsR w (.agg #[x]) L N := by
  constructor
  · rintro ⟨t, h1, h2, _⟩
    rw [h] at h1; injection h1 with h1; subst h1; exact h2
  · intro h2; exact ⟨_, h, h2, fun _ h => h.elim⟩
/-- Comparisons of a number of any kind with a constant; one less. -/
theorem o_eqlK (hn : ρ[n]? = some (.val (.int ik u))) (h : (u == c) = b) : (OIns.mk (.bin .eql t) [.one (.ref n), .one (.i ik c)] (.one (.b b))).Ok Tryz.prog ρ := fun B w vs hv => by
  match vs, hv with
  | [v1, v2], hv =>
    have e := leaf_val (B := B) hn hv.1
    have e2 : v2 = .int ik c := hv.2.1
    subst e; subst e2
    exact ⟨.bool b, rfl, fun xo yo => by simp [eqGuard, binOp, Op.intCmp, Sem.run_bind, Result.andThen, h]⟩
theorem o_neqK (hn : ρ[n]? = some (.val (.int ik u))) (h : (u != c) = b) : (OIns.mk (.bin .neq t) [.one (.ref n), .one (.i ik c)] (.one (.b b))).Ok Tryz.prog ρ := fun B w vs hv => by
  match vs, hv with
  | [v1, v2], hv =>
    have e := leaf_val (B := B) hn hv.1
    have e2 : v2 = .int ik c := hv.2.1
    subst e; subst e2
    exact ⟨.bool b, rfl, fun xo yo => by simp [eqGuard, binOp, Op.intCmp, Sem.run_bind, Result.andThen, h]⟩
theorem o_gtrK (hn : ρ[n]? = some (.val (.int ik u))) (h : (decide (c < u)) = b) : (OIns.mk (.bin .gtr t) [.one (.ref n), .one (.i ik c)] (.one (.b b))).Ok Tryz.prog ρ := fun B w vs hv => by
  match vs, hv with
  | [v1, v2], hv =>
    have e := leaf_val (B := B) hn hv.1
    have e2 : v2 = .int ik c := hv.2.1
    subst e; subst e2
    exact ⟨.bool b, rfl, fun xo yo => by rw [← h]; simp [eqGuard, binOp, Op.intCmp, Sem.run_bind, Result.andThen]⟩
theorem o_eql (hn : ρ[n]? = some (.val (.int .i64 u))) (h : (u == c) = b) : (OIns.mk (.bin .eql t) [.one (.ref n), .one (.i .i64 c)] (.one (.b b))).Ok Tryz.prog ρ := o_eqlK hn h
theorem o_neq (hn : ρ[n]? = some (.val (.int .i64 u))) (h : (u != c) = b) : (OIns.mk (.bin .neq t) [.one (.ref n), .one (.i .i64 c)] (.one (.b b))).Ok Tryz.prog ρ := o_neqK hn h
/-- The length of a row of digits. -/
theorem o_len {L N : Nat} (ht : ∃ e, Tryz.prog.underlying t = some (.slice e)) (hn : ρ[n]? = some (.dig L N)) (hm : ρ[m]? = some (.val (.int .i64 (L : Int)))) : (OIns.mk (.len t) [.one (.ref n)] (.one (.ref m))).Ok Tryz.prog ρ := fun B w vs hv => by
  match vs, hv with
  | [v1], hv =>
    obtain ⟨a, c, e, _⟩ := (leafD (B := B) (w := w) hn).1 hv.1
    obtain rfl : v1 = .slice a L c := by
      injection e with e
      have := congrArg (fun x : Array Value => x[0]?) e
      simpa using this
    obtain ⟨e, he⟩ := ht
    refine ⟨.int .i64 (L : Int), lr hm B w, fun ts ty h0 => ?_⟩
    simp [Builtin.len_, h0, Sem.run_bind, run_underlying he, Result.andThen, goInt]
theorem bneq_f {u c : Int} (h : u = c) : (u != c) = false := by simpa using h
theorem bneq_t {u c : Int} (h : u ≠ c) : (u != c) = true := by simpa using h
/-- Truth values. -/
theorem bool_under (ht : isBoolB Tryz.prog t = true) : Tryz.prog.underlying t = some .bool := by
  unfold isBoolB at ht
  split at ht
  · assumption
  · cases ht
theorem run_eqTr (ht : isBoolB Tryz.prog t = true) (b c : Bool) : (Op.equal t (.bool b) (.bool c)).run Tryz.prog w = .ok (b == c) w := by
  unfold Op.equal Op.maxDepth Op.equalIn
  rw [Sem.run_bind, run_underlying (bool_under ht)]; rfl
/-- Two truth values, each known as a leaf, compared: what comes out is known (d), or an unknown. -/
theorem o_beq {y : Leaf} {c : Bool} {z : Leaf} (ht : isBoolB Tryz.prog t = true) (hx : ∀ B w x, l.holds ρ B w x → x = .bool b) (hy : ∀ B w x, y.holds ρ B w x → x = .bool c) (hz : ∀ B w, z.holds ρ B w (.bool (b == c))) : (OIns.mk (.bin .eql t) [.one l, .one y] (.one z)).Ok Tryz.prog ρ := fun B w vs hv => by
  match vs, hv with
  | [v1, v2], hv =>
    have e1 := hx _ _ _ hv.1
    have e2 := hy _ _ _ hv.2.1
    subst e1; subst e2
    exact ⟨.bool (b == c), hz B w, fun xo yo => by simp [eqGuard, binOp, Sem.run_bind, run_eqTr ht, Result.andThen]⟩
theorem o_bne {y : Leaf} {c : Bool} {z : Leaf} (ht : isBoolB Tryz.prog t = true) (hx : ∀ B w x, l.holds ρ B w x → x = .bool b) (hy : ∀ B w x, y.holds ρ B w x → x = .bool c) (hz : ∀ B w, z.holds ρ B w (.bool (b != c))) : (OIns.mk (.bin .neq t) [.one l, .one y] (.one z)).Ok Tryz.prog ρ := fun B w vs hv => by
  match vs, hv with
  | [v1, v2], hv =>
    have e1 := hx _ _ _ hv.1
    have e2 := hy _ _ _ hv.2.1
    subst e1; subst e2
    exact ⟨.bool (b != c), hz B w, fun xo yo => by simp [eqGuard, binOp, Sem.run_bind, run_eqTr ht, Result.andThen]; cases b <;> cases c <;> rfl⟩
theorem bl (b : Bool) : ∀ B w x, (Leaf.b b).holds ρ B w x → x = .bool b := fun _ _ _ h => h
theorem br (hn : ρ[n]? = some (.val (.bool b))) : ∀ B w x, (Leaf.ref n).holds ρ B w x → x = .bool b := fun _ _ _ h => leaf_val hn h
end
/-- A row of parts: what its cells are. -/
def Vp.row (T : TypeId) (n : Nat) (qs : List Vp) : Vp := ⟨fun w v => (qs = [] ∧ n = 0 ∧ v = .slice none 0 0) ∨ ∃ b o c cs, v = .slice (some ⟨b, o, none⟩) n c ∧ n ≤ c ∧ w.heap[b]? = some (.cells cs T (0, 0)) ∧ ∀ j q, qs[j]? = some q → ∃ u, cs[o + j]? = some u ∧ q.p w u ∧ ∀ g, ¬ q.fp u g,
  fun v g => ∃ o n c, v = .slice (some ⟨g, o, none⟩) n c,
  fun w w' X v h k hX => h.imp id fun ⟨b, o, c, cs, e, hn, hb, hq⟩ => ⟨b, o, c, cs, e, hn, by rw [k.blk b (Array.getElem?_eq_some_iff.1 hb).1 (hX b ⟨o, n, c, e⟩)]; exact hb, fun j q hj => by
    obtain ⟨u, h1, h2, h3⟩ := hq j q hj
    exact ⟨u, h1, q.ch w w' X u h2 k (fun g hg => absurd hg (h3 g)), h3⟩⟩,
  fun w v g h ⟨o', n', c', e'⟩ => by
    rcases h with ⟨_, _, e⟩ | ⟨b, o, c, cs, e, _, hb, _⟩
    · rw [e] at e'; cases e'
    · rw [e] at e'; injection e' with e1 _ _; injection e1 with e1; injection e1 with e1 _ _; subst e1
      exact (Array.getElem?_eq_some_iff.1 hb).1,
  fun w v h => by
    rcases h with ⟨_, _, e⟩ | ⟨b, o, c, cs, e, _⟩ <;> subst e <;> exact flat_slice⟩
/-- A place in such a row. -/
def Vp.plc (T : TypeId) (qs : List Vp) : Vp := ⟨fun w v => ∃ b o cs, v = .pointer (some ⟨b, o, none⟩) ∧ w.heap[b]? = some (.cells cs T (0, 0)) ∧ ∀ j q, qs[j]? = some q → ∃ u, cs[o + j]? = some u ∧ q.p w u ∧ ∀ g, ¬ q.fp u g,
  fun v g => ∃ o, v = .pointer (some ⟨g, o, none⟩),
  fun w w' X v ⟨b, o, cs, e, hb, hq⟩ k hX => ⟨b, o, cs, e, by rw [k.blk b (Array.getElem?_eq_some_iff.1 hb).1 (hX b ⟨o, e⟩)]; exact hb, fun j q hj => by
    obtain ⟨u, h1, h2, h3⟩ := hq j q hj
    exact ⟨u, h1, q.ch w w' X u h2 k (fun g hg => absurd hg (h3 g)), h3⟩⟩,
  fun w v g ⟨b, o, cs, e, hb, _⟩ ⟨o', e'⟩ => by
    rw [e] at e'; injection e' with e1; injection e1 with e1; injection e1 with e1 _ _; subst e1
    exact (Array.getElem?_eq_some_iff.1 hb).1,
  fun w v ⟨b, o, cs, e, _⟩ => by subst e; exact flat_ptr⟩
section
variable {ρ : Rho} {n m k L : Nat} {t T e : TypeId} {B : Blk} {w : World} {qs : List Vp} {u : Int}
theorem row_len {v : Value} (h : (Vp.row T L qs).p w v) : ∃ a c, v = .slice a L c := by
  rcases h with ⟨_, rfl, e⟩ | ⟨b, o, c, cs, e, _⟩
  · exact ⟨_, _, e⟩
  · exact ⟨_, _, e⟩
theorem o_lenR (ht : ∃ e, Tryz.prog.underlying t = some (.slice e)) (hn : ρ[n]? = some (.row T L qs)) {l : Leaf} (hl : ∀ B w, l.holds ρ B w (.int .i64 (L : Int))) : (OIns.mk (.len t) [.one (.ref n)] (.one l)).Ok Tryz.prog ρ := fun B w vs hv => by
  match vs, hv with
  | [v1], hv =>
    obtain ⟨s, h1, h2, _⟩ := hv.1
    rw [hn] at h1; injection h1 with h1; subst h1
    obtain ⟨a, c, rfl⟩ := row_len h2
    obtain ⟨e, he⟩ := ht
    refine ⟨.int .i64 (L : Int), hl B w, fun ts ty h0 => ?_⟩
    simp [Builtin.len_, h0, Sem.run_bind, run_underlying he, Result.andThen, goInt]
/-- The place of the k-th part. -/
theorem o_iaL {l : Leaf} {sz : Nat} {qs' : List Vp} (ht : Tryz.prog.underlying t = some (.slice e)) (hz : szB Tryz.prog e = some sz) (hn : ρ[n]? = some (.row T L qs)) (hm : ρ[m]? = some (.plc T qs')) (hl : ∀ B w x, l.holds ρ B w x → x = .int .i64 (k : Int)) (hk : k < L) (hq0 : qs ≠ [])
    (hq : ∀ (j : Nat) (q : Vp), qs'[j]? = some q → qs[k * sz + j]? = some q) : (OIns.mk (.ia t) [.one (.ref n), .one l] (.one (.ref m))).Ok Tryz.prog ρ := fun B w vs hv => by
  match vs, hv with
  | [v1, v2], hv =>
    obtain ⟨s, h1, h2, h3⟩ := hv.1
    rw [hn] at h1; injection h1 with h1; subst h1
    have e2 := hl _ _ _ hv.2.1
    subst e2
    rcases h2 with ⟨h, _⟩ | ⟨b, o, c, cs, rfl, hc, hb, h4⟩
    · exact absurd h hq0
    · refine ⟨.pointer (some ⟨b, o + k * sz, none⟩), ⟨_, hm, ⟨b, o + k * sz, cs, rfl, hb, fun j q hj => ?_⟩, fun g ⟨o', e'⟩ => ?_⟩, ?_⟩
      · obtain ⟨u, k1, k2⟩ := h4 _ q (hq j q hj)
        exact ⟨u, by rw [Nat.add_assoc]; exact k1, k2⟩
      · injection e' with e1; injection e1 with e1; injection e1 with e1 _ _; subst e1
        exact h3 _ ⟨_, _, _, rfl⟩
      · simp [Instr.indexAt, asIntOf, Sem.run_bind, run_underlying ht, run_size hz, Result.andThen, hk, add_off]
/-- The place of a field: the later cells. -/
def fldB (p : Program) (t : TypeId) (f : Nat) : Option (Nat × Nat) := match p.underlying t with
  | some (.struct fs) => match fs[f]? with
    | some fd => (szB p fd.type).map fun n => (fd.offset, n)
    | none => none
  | _ => none
theorem o_fa {f off sz : Nat} {qs' : List Vp} (ht : fldB Tryz.prog t f = some (off, sz + 1)) (hn : ρ[n]? = some (.plc T qs)) (hm : ρ[m]? = some (.plc T qs')) (hq : ∀ (j : Nat) (q : Vp), qs'[j]? = some q → qs[off + j]? = some q) : (OIns.mk (.fa t f) [.one (.ref n)] (.one (.ref m))).Ok Tryz.prog ρ := fun B w vs hv => by
  match vs, hv with
  | [v1], hv =>
    obtain ⟨s, h1, h2, h3⟩ := hv.1
    rw [hn] at h1; injection h1 with h1; subst h1
    obtain ⟨b, o, cs, rfl, hb, h4⟩ := h2
    unfold fldB at ht
    split at ht
    · rename_i fs hu
      split at ht
      · rename_i fd hf
        cases hz : szB Tryz.prog fd.type with
        | none => rw [hz] at ht; cases ht
        | some k =>
          rw [hz] at ht
          simp only [Option.map_some, Option.some.injEq, Prod.mk.injEq] at ht
          obtain ⟨rfl, rfl⟩ := ht
          refine ⟨.pointer (some ⟨b, o + fd.offset, none⟩), ⟨_, hm, ⟨b, o + fd.offset, cs, rfl, hb, fun j q hj => ?_⟩, fun g ⟨o', e'⟩ => ?_⟩, ?_⟩
          · obtain ⟨u, k1, k2⟩ := h4 _ q (hq j q hj)
            exact ⟨u, by rw [Nat.add_assoc]; exact k1, k2⟩
          · injection e' with e1; injection e1 with e1; injection e1 with e1 _ _; subst e1
            exact h3 _ ⟨_, rfl⟩
          · simp [Instr.fieldAt, Instr.sureAddr, fieldPlace, Sem.run_bind, run_underlying hu, hf, run_size hz, Result.andThen, add_off]
      · cases ht
    · cases ht
/-- What lies at a place: one cell, several cells. -/
theorem o_ldP {q : Vp} {l : Leaf} (ht : aggB Tryz.prog t = some false) (hn : ρ[n]? = some (.plc T (q :: qs))) (hl : ∀ B w x, q.p w x → (∀ g, ¬ q.fp x g) → l.holds ρ B w x) : (OIns.mk (.ld t) [.one (.ref n)] (.one l)).Ok Tryz.prog ρ := fun B w vs hv => by
  match vs, hv with
  | [v1], hv =>
    obtain ⟨s, h1, h2, _⟩ := hv.1
    rw [hn] at h1; injection h1 with h1; subst h1
    obtain ⟨b, o, cs, rfl, hb, h4⟩ := h2
    obtain ⟨u, k1, k2, k3⟩ := h4 0 q rfl
    refine ⟨u, hl B w u k2 k3, ?_⟩
    have := run_loadc (p := Tryz.prog) (w := w) (ad := ⟨b, o, none⟩) (v := u) (by rw [cell_at hb]; exact k1)
    simp [Instr.loadAt, Instr.sureAddr, loadVar, Sem.run_bind, run_agg ht, this, Result.andThen]
theorem lq {q : Vp} (h : ρ[m]? = some q) : ∀ B w x, q.p w x → (∀ g, ¬ q.fp x g) → (Leaf.ref m).holds ρ B w x := fun _ _ _ h1 h2 => ⟨q, h, h1, fun g hg => absurd hg (h2 g)⟩
/-- Leaves that hold what these properties say; the other way round. -/
def LQ (ρ : Rho) : List Leaf → List Vp → Prop
  | [], _ => True
  | l :: ls, q :: qs => (∀ B w x, q.p w x → (∀ g, ¬ q.fp x g) → l.holds ρ B w x) ∧ LQ ρ ls qs
  | _ :: _, [] => False
def QL (ρ : Rho) : List Leaf → List Vp → Prop
  | [], [] => True
  | l :: ls, q :: qs => (∀ B w x, l.holds ρ B w x → q.p w x ∧ ∀ g, ¬ q.fp x g) ∧ QL ρ ls qs
  | _, _ => False
theorem ql_val {u : Value} (h : ρ[m]? = some (.val u)) : ∀ B w x, (Leaf.ref m).holds ρ B w x → (Vp.val u).p w x ∧ ∀ g, ¬ (Vp.val u).fp x g := fun _ _ _ ⟨q, h1, h2, _⟩ => by
  rw [h] at h1; injection h1 with h1; subst h1; exact ⟨h2, fun _ h => h⟩
theorem ql_dig {L N : Nat} (h : ρ[m]? = some (.dig L N)) : ∀ B w x, (Leaf.ref m).holds ρ B w x → (Vp.dig L N).p w x ∧ ∀ g, ¬ (Vp.dig L N).fp x g := fun _ _ _ ⟨q, h1, h2, _⟩ => by
  rw [h] at h1; injection h1 with h1; subst h1; exact ⟨h2, fun _ h => h⟩
theorem LQ.holds : ∀ {ls : List Leaf} {qs : List Vp} {cs : Array Value} {o : Nat}, LQ ρ ls qs → (∀ (j : Nat) (q : Vp), qs[j]? = some q → ∃ u, cs[o + j]? = some u ∧ q.p w u ∧ ∀ g, ¬ q.fp u g) →
    ∃ vs : List Value, LeavesH ρ B w ls vs ∧ ∀ (j : Nat) (v : Value), vs[j]? = some v → cs[o + j]? = some v
  | [], _, _, _, _, _ => ⟨[], trivial, fun _ _ h => by simp at h⟩
  | l :: ls, q :: qs, cs, o, h, hq => by
    obtain ⟨u, k1, k2, k3⟩ := hq 0 q rfl
    obtain ⟨vs, e1, e2⟩ := LQ.holds (ls := ls) (qs := qs) (cs := cs) (o := o + 1) h.2 (fun j q hj => by
      obtain ⟨u, k1, k2⟩ := hq (j + 1) q (by simpa using hj)
      exact ⟨u, by rw [show o + 1 + j = o + (j + 1) from by omega]; exact k1, k2⟩)
    refine ⟨u :: vs, ⟨h.1 B w u k2 k3, e1⟩, fun j v hj => ?_⟩
    match j with
    | 0 => simp at hj; subst hj; exact k1
    | j + 1 => have := e2 j v (by simpa using hj); rwa [show o + 1 + j = o + (j + 1) from by omega] at this
  | _ :: _, [], _, _, h, _ => h.elim
theorem QL.get : ∀ {ls : List Leaf} {qs : List Vp} {vs : List Value} {j : Nat} {q : Vp}, QL ρ ls qs → LeavesH ρ B w ls vs → qs[j]? = some q → ∃ u, vs[j]? = some u ∧ q.p w u ∧ ∀ g, ¬ q.fp u g
  | [], [], _, _, _, _, _, h => by simp at h
  | _ :: _, _ :: _, v :: _, 0, _, h, hl, hq => by simp at hq; subst hq; exact ⟨v, rfl, h.1 B w v hl.1⟩
  | _ :: ls, _ :: qs, _ :: vs, j + 1, q, h, hl, hq => by
    obtain ⟨u, k1, k2⟩ := QL.get (ls := ls) (qs := qs) (vs := vs) (j := j) h.2 hl.2 (by simpa using hq)
    exact ⟨u, by simpa using k1, k2⟩
  | _ :: _, _ :: _, [], _, _, _, hl, _ => hl.elim
  | [], _ :: _, _, _, _, h, _, _ => h.elim
  | _ :: _, [], _, _, _, h, _, _ => h.elim
theorem o_ldA {ls : List Leaf} (ht : aggB Tryz.prog t = some true) (hz : szB Tryz.prog t = some ls.length) (hn : ρ[n]? = some (.plc T qs)) (hl : LQ ρ ls qs) : (OIns.mk (.ld t) [.one (.ref n)] (.agg ls)).Ok Tryz.prog ρ := fun B w vs hv => by
  match vs, hv with
  | [v1], hv =>
    obtain ⟨s, h1, h2, _⟩ := hv.1
    rw [hn] at h1; injection h1 with h1; subst h1
    obtain ⟨b, o, cs, rfl, hb, h4⟩ := h2
    obtain ⟨us, e1, e2⟩ := hl.holds (B := B) h4
    refine ⟨.agg us.toArray, ⟨us, rfl, e1⟩, ?_⟩
    have := run_loadFrom (p := Tryz.prog) (o := o) hb us 0 #[] (fun k u hu => by rw [Nat.zero_add]; exact e2 k u hu)
    rw [e1.len] at this
    simp [Instr.loadAt, Instr.sureAddr, loadVar, loadCells, Sem.run_bind, run_agg ht, run_size hz, this, Result.andThen]
def zrep (z : List Leaf) (n : Nat) : List Leaf := (List.range n).map fun i => z.getD (i % z.length) .sl0
/-- A slice of parts. -/
theorem o_bs {ss : List SV} {ix : List Nat} {z ls : List Leaf} {sz N : Nat} (ht : Tryz.prog.underlying t = some (.slice e)) (hz : szB Tryz.prog e = some sz) (hzl : zeroL Tryz.prog e = some z) (hle : N * sz ≤ 2 ^ 24) (hpos : N * sz ≠ 0) (hz0 : z.length ≠ 0) (hix : ix.length = ss.length)
    (hf : fillA (fun i => some (i * sz, sz)) (zrep z (N * sz)) (ix.zip ss) = some ls) (hq : QL ρ ls qs) (hm : ρ[m]? = some (.row e N qs)) : (OIns.mk (.bs t N ix) ss (.one (.ref m))).Ok Tryz.prog ρ := fun B w vs hv hB => by
  obtain ⟨zv, hz1, hz2⟩ := zeroL_holds (p := Tryz.prog) (ρ := ρ) (B := B) (w := w) hzl
  have hlen : vs.length = ss.length := hv.len
  have hzlen : zv.cells.size = z.length := by have := hz2.len; simpa using this
  have h0 : LeavesH ρ B w (zrep z (N * sz)) ((Array.range (N * sz)).map (zv.cells[· % zv.cells.size]!)).toList := by
    refine LeavesH.mk (by simp [zrep]) (fun k l v h1 h2 => ?_)
    have hk : k < N * sz := by have := (List.getElem?_eq_some_iff.1 h1).1; simpa [zrep] using this
    have hk2 : k % z.length < z.length := Nat.mod_lt _ (by omega)
    simp only [zrep, List.getElem?_map, List.getElem?_range hk, Option.map_some, Option.some.injEq] at h1
    obtain ⟨v', h3, h4⟩ := hz2.get (List.getElem?_eq_getElem hk2)
    rw [List.getD_eq_getElem?_getD, List.getElem?_eq_getElem hk2, Option.getD_some] at h1
    subst h1
    have h5 : v = v' := by
      simp only [Array.toList_map, List.getElem?_map, Array.toList_range, List.getElem?_range hk, Option.map_some, Option.some.injEq, hzlen] at h2
      rw [Array.getElem?_toList] at h3
      rw [← h2]
      have hk3 : k % z.length < zv.cells.size := by omega
      rw [getElem!_pos zv.cells _ hk3]
      rw [Array.getElem?_eq_getElem hk3] at h3
      exact Option.some.inj h3
    subst h5
    exact h4
  have hzip1 : (ix.zip vs).map (·.1) = (ix.zip ss).map (·.1) := by rw [List.map_fst_zip (by omega), List.map_fst_zip (by omega)]
  have hzip2 : SVsH ρ B w ((ix.zip ss).map (·.2)) ((ix.zip vs).map (·.2)) := by rw [List.map_snd_zip (by omega), List.map_snd_zip (by omega)]; exact hv
  obtain ⟨out, ho1, ho2⟩ := fill_holds hf hzip1 hzip2 h0
  refine ⟨.slice (some ⟨w.heap.size, 0, none⟩) N N, w.alloc (.cells out e), ⟨_, hm, .inr ⟨w.heap.size, 0, N, out, rfl, Nat.le_refl _, heap_alloc_new w _, fun j q hj => ?_⟩, fun g ⟨o', n', c', e'⟩ x hx => ?_⟩, ?_, bel1 w _⟩
  · obtain ⟨u, k1, k2, k3⟩ := hq.get ho2 hj
    exact ⟨u, by rw [Nat.zero_add, ← Array.getElem?_toList]; exact k1, q.ch _ _ _ _ k2 (.below (bel1 w _)) (fun _ _ h => h), k3⟩
  · injection e' with e1; injection e1 with e1; injection e1 with e1 _ _; subst e1
    have := hB x _ hx; omega
  · unfold Instr.buildSlice
    simp only [Sem.run_bind, run_underlying ht, run_size hz, Result.andThen]
    rw [if_neg (by omega), if_neg hpos]
    simp only [Sem.run_bind, hz1, Result.andThen, Sem.run_pure, List.toList_toArray]
    rw [ho1]
    rfl
end
end Go.Proofs.YthebfmlfgfmlnaaGreatDoor
namespace Go.Proofs
open Go.Shelf Go.RowKit Go.Lib
variable {P : Program} {ρ : Ren}
/-- strings.Split at one byte: it needs nothing of the package's variables. -/
theorem Any.strings_Split_one (L : Lays.n146 P ρ) (hi9 : (P.info? (ρ.t 9)).map (fun i => (i.zero, i.size, i.bytes)) = some (some (.string ByteArray.empty), 1, 16)) (s : ByteArray) (b : UInt8) (w : World) (hs : s.size < 4294967281) :
    Calls P (ρ.f 146) #[.string s, .string ⟨#[b]⟩] w fun e w' =>
      e = .returned (.slice (some ⟨w.heap.size, 0, none⟩) (Lib.countB s ⟨#[b]⟩ + 1) (Lib.countB s ⟨#[b]⟩ + 1)) ∧ w' = w.alloc (.cells ((Lib.splitB ⟨#[b]⟩ 0 (Lib.countB s ⟨#[b]⟩) s).map Value.string).toArray (ρ.t 9)) := by
  have h1 : 1 ≤ (⟨#[b]⟩ : ByteArray).size := Nat.le_refl 1
  have hle := Lib.countB_le ⟨#[b]⟩ h1 s.size s (Nat.le_refl _)
  have hlen := Lib.splitB_all ⟨#[b]⟩ h1 0 _ s rfl
  have hI : ∀ (x : ByteArray) (c : Array Value), x.size ≤ s.size → Calls P (ρ.f 143) #[.string x, .string ⟨#[b]⟩] (w.alloc (.cells c (ρ.t 9))) fun e w' => e = .returned (.int .i64 (Lib.indexB x ⟨#[b]⟩)) ∧ w' = w.alloc (.cells c (ρ.t 9)) := by
    intro x c _
    refine (Any.strings_Index_one { L with } x b _).mono fun e w' ⟨he, hw⟩ => ⟨?_, hw⟩
    rw [he]
    show _ = Ending.returned (Value.int .i64 (Lib.index x.data.toList [b]))
    rw [Lib.index_one]
  have hC : Calls P (ρ.f 138) #[.string s, .string ⟨#[b]⟩] w fun e w' => e = .returned (.int .i64 (Lib.countB s ⟨#[b]⟩)) ∧ w' = w := by
    refine (Any.strings_Count_one { L with } s b w).mono fun e w' ⟨he, hw⟩ => ⟨?_, hw⟩
    rw [he]
    show _ = Ending.returned (Value.int .i64 ((Lib.count s.data.toList [b] : Nat) : Int))
    rw [Lib.count_one]
    rfl
  have c := Any.strings_genSplit_core { L with } hi9 s ⟨#[b]⟩ 0 (-1) (Lib.countB s ⟨#[b]⟩ + 1) w hs h1 (Nat.zero_le _) hI hC (by decide) (by decide) (by rw [if_pos (by decide)]; omega)
  rw [Nat.add_sub_cancel, hlen] at c
  have e2 : Lib.cellsOf (Lib.splitB ⟨#[b]⟩ 0 (Lib.countB s ⟨#[b]⟩) s) (Lib.countB s ⟨#[b]⟩ + 1) = ((Lib.splitB ⟨#[b]⟩ 0 (Lib.countB s ⟨#[b]⟩) s).map Value.string).toArray := by rw [← hlen]; exact Lib.cellsOf_full _
  rw [e2] at c
  clear hI hC e2 hlen hle
  have t3 := L.t3; have t9 := L.t9; have t31 := L.t31
  have a3 := L.a3; have a9 := L.a9; have a31 := L.a31
  have z3 := L.z3; have v3 := L.v3; have z9 := L.z9; have v9 := L.v9; have z31 := L.z31; have v31 := L.v31
  have e221 : ∀ args w, (callFunc (ρ.f 221) args).run P w = .ok (.enter (ρ.f 221) args) w := enters_of L.f221 (by kernel_rfl) rfl
  go_enter L.f146, Body.n146_ntmps ρ
  go_wp2_with (go_at_fn (ρ.f 221); refine c.mono ?_; rintro e w' ⟨rfl, hw⟩; rw [hw])
  go_ret
  exact ⟨rfl, rfl⟩
end Go.Proofs
namespace Go.Proofs.YthebfmlfgfmlnaaGreatDoor
set_option linter.unusedSimpArgs false
set_option linter.unusedVariables false
set_option maxRecDepth 100000
open Go.RowKit
/-- A row of strings. -/
def Vp.strs (l : List ByteArray) : Vp := .row strT l.length (l.map fun s => .val (.string s))
section
variable {ρ : Rho} {xs : List Fq} {ys : Rho} {n m k : Nat} {u v c : Int} {b : Bool} {s z : ByteArray} {t : TypeId} {B : Blk} {w : World} {l : List ByteArray} {ik : IntKind} {x : Value}
def isStrB (p : Program) (t : TypeId) : Bool := match p.underlying t with | some .string => true | _ => false
/-- Strings put together. -/
theorem run_cat (ht : isStrB Tryz.prog t = true) {s z : ByteArray} (h : ((s.size + z.size : Nat) : Int) ≤ 9223372036854775807) (xo yo : Operand) : ((do eqGuard .add t xo yo (.string s) (.string z); binOp .add t (.string s) (.string z) : Sem Value)).run Tryz.prog w = .ok (.string (s ++ z)) w := by
  have h1 : ¬ ((s.size + z.size : Nat) : Int) > IntKind.i64.max := by
    have : IntKind.i64.max = 9223372036854775807 := by decide
    omega
  simp only [eqGuard, binOp, Op.stringOp, Sem.run_bind, Result.andThen]
  rw [if_neg h1]
  rfl
theorem o_catLR (ht : isStrB Tryz.prog t = true) (hn : ρ[n]? = some (.val (.string z))) (hm : ρ[m]? = some (.val (.string (s ++ z)))) (h : ((s.size + z.size : Nat) : Int) ≤ 9223372036854775807) : (OIns.mk (.bin .add t) [.one (.s s), .one (.ref n)] (.one (.ref m))).Ok Tryz.prog ρ := fun B w vs hv => by
  match vs, hv with
  | [v1, v2], hv =>
    have e : v1 = .string s := hv.1
    have e2 := leaf_val (B := B) hn hv.2.1
    subst e; subst e2
    exact ⟨_, leaf_mk (B := B) hm flat_str, fun xo yo => run_cat ht h xo yo⟩
theorem o_catRR (ht : isStrB Tryz.prog t = true) (hn : ρ[n]? = some (.val (.string s))) (hk : ρ[k]? = some (.val (.string z))) (hm : ρ[m]? = some (.val (.string (s ++ z)))) (h : ((s.size + z.size : Nat) : Int) ≤ 9223372036854775807) : (OIns.mk (.bin .add t) [.one (.ref n), .one (.ref k)] (.one (.ref m))).Ok Tryz.prog ρ := fun B w vs hv => by
  match vs, hv with
  | [v1, v2], hv =>
    have e := leaf_val (B := B) hn hv.1
    have e2 := leaf_val (B := B) hk hv.2.1
    subst e; subst e2
    exact ⟨_, leaf_mk (B := B) hm flat_str, fun xo yo => run_cat ht h xo yo⟩
end
end Go.Proofs.YthebfmlfgfmlnaaGreatDoor
namespace Go.Proofs.YthebfmlfgfmlnaaGreatDoor
set_option linter.unusedSimpArgs false
set_option linter.unusedVariables false
set_option maxRecDepth 100000
open Go.RowKit
theorem wrap_mag (v : Int) (h1 : -9223372036854775808 ≤ v) (hv : v < 0) : IntKind.u64.wrap (-IntKind.u64.wrap v) = ((v.natAbs : Nat) : Int) := by
  simp only [IntKind.wrap, IntKind.signed, IntKind.bits, Bool.false_and, Bool.false_eq_true, if_false]
  omega
theorem c_mag (v : Int) (w : World) (h1 : -9223372036854775808 ≤ v) (h2 : v < 9223372036854775808) :
    Calls Tryz.prog 121 #[.int .i64 v] w fun e w' => RetN w v.natAbs e w' := by
  obtain ⟨m0, k0⟩ := resN (w := w)
  have c0 := k0.cell
  have f0 := k0.frozen
  have fin : ∀ e w9, RetNew (w.alloc (.cells #[.slice none 0 0] 24)) v.natAbs e w9 → ∃ a c, e = .returned (.agg #[.slice a (nl v.natAbs) c]) ∧ IsN w9 (.agg #[.slice a (nl v.natAbs) c]) v.natAbs ∧ VarB w9 w.heap.size none 0 0 ∧ Below w.heap.size w w9 := by
    rintro e w9 ⟨x, rfl, nx, hb⟩
    have nx := nx.isN
    obtain ⟨a, c, rfl⟩ := nx.shape
    exact ⟨a, c, rfl, nx, k0.mono hb k0.lt, m0.trans (hb.mono m0.size)⟩
  go_enter Tryz.func121, Tryz.ntmps121
  by_cases hv : v < 0
  · have e0 := wrap_mag v h1 hv
    have E0 := Lib.hid e0
    clear e0
    go_wp2_with fail
    rw [E0.out]
    refine (c_natural_Of v.natAbs _ (by omega)).mono ?_
    rintro e w9 h9
    obtain ⟨a, c, rfl, nx, k9, hb⟩ := fin e w9 h9
    have c9 := k9.cell
    have f9 := k9.frozen
    clear c0 f0 fin h9
    go_wp2
    exact bodyPost_ret (res_N rfl rfl k9.set) rfl ⟨_, rfl, nx.setVar k9, hb.setCell (p := ⟨w.heap.size, 0, none⟩) (Nat.le_refl _) _⟩
  · obtain ⟨n, hn⟩ : ∃ n : Nat, Hid (v = (n : Int)) := ⟨v.natAbs, Lib.hid (by omega)⟩
    have hnn : Hid (v.natAbs = n) := Lib.hid (by have := hn.out; omega)
    go_wp2_with fail
    rw [show v = ((v.natAbs : Nat) : Int) from by omega]
    refine (c_natural_Of v.natAbs _ (by omega)).mono ?_
    rintro e w9 h9
    obtain ⟨a, c, rfl, nx, k9, hb⟩ := fin e w9 h9
    have c9 := k9.cell
    have f9 := k9.frozen
    clear c0 f0 fin h9
    go_wp2
    exact bodyPost_ret (res_N rfl rfl k9.set) rfl ⟨_, rfl, nx.setVar k9, hb.setCell (p := ⟨w.heap.size, 0, none⟩) (Nat.le_refl _) _⟩
theorem c_size (v : Int) (w : World) (h1 : -9223372036854775808 ≤ v) (h2 : v < 9223372036854775808) :
    Calls Tryz.prog 83 #[.int .i64 v] w fun e w' => RetV w (.int .u64 (v.natAbs : Int)) e w' := by
  go_enter Tryz.func83, Tryz.ntmps83
  by_cases hv : v < 0
  · go_wp2
    go_ret
    refine ⟨?_, Below.refl _ _⟩
    simp only [Array.getD_eq_getD_getElem?, List.getElem?_toArray, List.getElem?_cons_succ, List.getElem?_cons_zero, Option.getD_some, Ending.returned.injEq, Value.int.injEq, true_and, IntKind.wrap, IntKind.signed, IntKind.bits, Bool.false_and, Bool.false_eq_true, if_false, if_true]
    omega
  · go_wp2
    go_ret
    refine ⟨?_, Below.refl _ _⟩
    simp only [Array.getD_eq_getD_getElem?, List.getElem?_toArray, List.getElem?_cons_succ, List.getElem?_cons_zero, Option.getD_some, Ending.returned.injEq, Value.int.injEq, true_and]
    omega
end Go.Proofs.YthebfmlfgfmlnaaGreatDoor
