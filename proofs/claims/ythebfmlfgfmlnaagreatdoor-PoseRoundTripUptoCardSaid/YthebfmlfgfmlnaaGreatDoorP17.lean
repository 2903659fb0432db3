/- An executor: rows that the call itself made, appended to and left. Texts of poses. What Decode of package pose does. The reference's split: the parts of a text between the spaces. -/
import Derived.Test.YthebfmlfgfmlnaaGreatDoorP16
namespace Go.Proofs.YthebfmlfgfmlnaaGreatDoor
set_option linter.unusedSimpArgs false
set_option linter.unusedVariables false
set_option maxRecDepth 100000
open Go.RowKit
theorem oneCell_flat {v : Value} (h : Flat v) : v.oneCell' = true := by
  cases v with
  | agg cs => exact absurd rfl (h.1 cs)
  | tuple vs => exact absurd rfl (h.2.1 vs)
  | _ => rfl
/-- What the cells of a list are. -/
def CellsAre (w : World) (qs : List Vp) (xs : List Value) : Prop := xs.length = qs.length ∧ ∀ (j : Nat) (q : Vp), qs[j]? = some q → ∃ u, xs[j]? = some u ∧ q.p w u ∧ ∀ g, ¬ q.fp u g
theorem CellsAre.append {w : World} {qs qs' : List Vp} {xs xs' : List Value} (h : CellsAre w qs xs) (h' : CellsAre w qs' xs') : CellsAre w (qs ++ qs') (xs ++ xs') := by
  refine ⟨by simp [h.1, h'.1], fun j q hj => ?_⟩
  by_cases hl : j < qs.length
  · rw [List.getElem?_append_left hl] at hj
    obtain ⟨u, h1, h2⟩ := h.2 j q hj
    exact ⟨u, by rw [List.getElem?_append_left (by rw [h.1]; exact hl)]; exact h1, h2⟩
  · rw [List.getElem?_append_right (by omega)] at hj
    obtain ⟨u, h1, h2⟩ := h'.2 _ q hj
    exact ⟨u, by rw [List.getElem?_append_right (by rw [h.1]; omega), h.1]; exact h1, h2⟩
theorem CellsAre.chg {w w' : World} {X : Nat → Prop} {qs : List Vp} {xs : List Value} (h : CellsAre w qs xs) (k : Chg w w' X) : CellsAre w' qs xs :=
  ⟨h.1, fun j q hj => by
    obtain ⟨u, h1, h2, h3⟩ := h.2 j q hj
    exact ⟨u, h1, q.ch w w' X u h2 k (fun g hg => absurd hg (h3 g)), h3⟩⟩
theorem CellsAre.flat {w : World} {qs : List Vp} {xs : List Value} (h : CellsAre w qs xs) : ∀ u ∈ xs, Flat u := fun u hu => by
  obtain ⟨j, hj, rfl⟩ := List.getElem_of_mem hu
  have hq : j < qs.length := by rw [← h.1]; exact hj
  obtain ⟨u', h1, h2, _⟩ := h.2 j _ (List.getElem?_eq_getElem hq)
  rw [List.getElem?_eq_getElem hj] at h1
  injection h1 with h1
  rw [h1]
  exact qs[j].fl w u' h2
/-- No digit lies in such a cell. -/
def noU (u : Value) : Prop := ∀ n, u ≠ .int .u32 n
/-- A row that the call itself made; no digit lies in its block. -/
def OwnRow (w : World) (T : TypeId) (sz : Nat) (v : Value) (L : Nat) (xs : List Value) : Prop := w.ownsRow 0 T sz v L xs ∧ ∀ g, v.ownBlock = some g → Own w g
theorem own_of {w : World} {g : Nat} {cs : Array Value} {t : TypeId} (h : w.heap[g]? = some (.cells cs t (0, 0))) (hc : ∀ u ∈ cs.toList, noU u) : Own w g :=
  ⟨cs, t, h, fun k n hk => hc (.int .u32 n) (by rw [← Array.getElem?_toList] at hk; exact List.mem_of_getElem? hk) n rfl⟩
theorem own_cells {w : World} {g : Nat} {cs : Array Value} {t : TypeId} {fz : Nat × Nat} (h : w.heap[g]? = some (.cells cs t fz)) (o : Own w g) : ∀ u ∈ cs.toList, noU u := fun u hu n e => by
  obtain ⟨cs', t', h1, h2⟩ := o
  rw [h] at h1
  injection h1 with h1; injection h1 with h1 _ _; subst h1
  obtain ⟨k, hk⟩ := List.getElem?_of_mem hu
  rw [Array.getElem?_toList, e] at hk
  exact h2 k n hk
theorem zero_noU {z : Array Value} (hz : ∀ u ∈ z.toList, noU u) (h0 : 0 < z.size) (n : Nat) : ∀ u ∈ (Builtin.zeroCells z n).toList, noU u := fun u hu => by
  unfold Builtin.zeroCells at hu
  simp only [Array.toList_map, Array.toList_range, List.mem_map] at hu
  obtain ⟨i, _, rfl⟩ := hu
  have hk : i % z.size < z.size := Nat.mod_lt _ h0
  rw [getElem!_pos z _ hk]
  exact hz _ (by simp)
theorem run_app {p : Program} {w : World} {t ty e : TypeId} {i : TypeInfo} {z : Value} (ht : p.underlying t = some (.slice e)) (hi : p.info? e = some i) (hz : i.zero = some z) (hzs : z.cells.size = i.size) (hsz : 0 < i.size) (hzu : ∀ u ∈ z.cells.toList, noU u)
    {v : Value} {n : Nat} {xs : List Value} (ho : OwnRow w e i.size v n xs) {a : Addr} {m c : Nat} {news : List Value} (hl : news.length = m * i.size) (hnews : ∀ j u, news[j]? = some u → w.cell? (a.add j) = some u) (h1 : ∀ u ∈ news, u.oneCell' = true) (hnu : ∀ u ∈ news, noU u)
    (hm : 0 < m) (hb : (n + m) * i.bytes ≤ 140737488355328) (hn : n + m ≤ 1000000000000000) :
    ∃ v' w', (Builtin.append_ #[t, t] ty #[v, .slice (some a) m c]).run p w = .ok v' w' ∧ w.grownBy w' v.ownBlock ∧ (∀ g, v'.ownBlock = some g → v.ownBlock = some g ∨ w.heap.size ≤ g) ∧ OwnRow w' e i.size v' (n + m) (xs ++ news) := by
  obtain ⟨hown, hOwn⟩ := ho
  have hlen : (xs ++ news).length = (n + m) * i.size := by rw [List.length_append, hown.1, hl, Nat.add_mul]
  have hmax : n + m ≤ maxLen := by simp only [maxLen]; omega
  -- the row moves to a new block
  have moved : ∀ old, (∀ u ∈ xs, noU u) →
      w.grownBy (w.drew.alloc (.cells (xs.toArray ++ news.toArray ++ Builtin.zeroCells z.cells (grownCap w (n + m) old e - (n + m))) e)) v.ownBlock ∧
      OwnRow (w.drew.alloc (.cells (xs.toArray ++ news.toArray ++ Builtin.zeroCells z.cells (grownCap w (n + m) old e - (n + m))) e)) e i.size (.slice (some ⟨w.heap.size, 0, none⟩) (n + m) (grownCap w (n + m) old e)) (n + m) (xs ++ news) := by
    intro old hxu
    have h2 := grownCap_ge w (n + m) old e
    have hnew := heap_alloc_new w.drew (.cells (xs.toArray ++ news.toArray ++ Builtin.zeroCells z.cells (grownCap w (n + m) old e - (n + m))) e)
    refine ⟨⟨rfl, rfl, rfl, by simp, fun k hk _ => heap_alloc_old w.drew _ hk⟩, ⟨hlen, .inr ⟨w.heap.size, _, _, rfl, Nat.zero_le _, hnew, h2, grownCap_le_maxLen w (n + m) old e hmax, ?_, ?_⟩⟩, fun g hg => ?_⟩
    · simp only [Array.size_append, List.size_toArray, size_zeroCells, hzs, hown.1, hl]
      rw [← Nat.add_mul, ← Nat.add_mul]
      congr 1; omega
    · simp only [Array.toList_append, List.append_assoc]
      rw [← List.append_assoc, ← hlen]
      exact List.take_left
    · injection hg with hg; subst hg
      refine own_of hnew (fun u hu => ?_)
      simp only [Array.toList_append, List.mem_append] at hu
      rcases hu with (hu | hu) | hu
      · exact hxu u hu
      · exact hnu u hu
      · exact zero_noU hzu (by omega) _ u hu
  rcases hown.2 with ⟨rfl, rfl⟩ | ⟨g, cap, cur, rfl, hbg, hg, hnc, hcm, hcs, htake⟩
  · have hx : xs = [] := List.eq_nil_of_length_eq_zero (by simpa using hown.1)
    subst hx
    have hr := run_append_nil (P := p) w t ty e i z ht hi hz a m c news hl hnews (by omega) (by omega) (by have := hb; simp only [Nat.zero_add] at this; omega)
    have h2 := moved 0 (fun u hu => by cases hu)
    simp only [Nat.zero_add, List.nil_append, Array.empty_append] at h2 ⊢
    exact ⟨_, _, hr, h2.1, fun g hg => .inr (by have h : w.heap.size = g := Option.some.inj hg; omega), h2.2⟩
  · have hcu := own_cells hg (hOwn g rfl)
    by_cases hroom : n + m ≤ cap
    · have hfit : n * i.size + news.length ≤ cur.size := by rw [hl, hcs, ← Nat.add_mul]; exact Nat.mul_le_mul_right _ hroom
      have hr := run_append_room (P := p) w t ty e i ht hi g n cap cur hg a m c news hl hnews h1 hroom hfit
      have hset := setRow_heap w g cur (cur.toList.take (n * i.size) ++ news ++ cur.toList.drop (n * i.size + news.length)).toArray e (0, 0) hg
      refine ⟨_, _, hr, ⟨rfl, rfl, rfl, by simp, fun k _ hk => setRow_other w g k _ (fun e => hk (by simp [Value.ownBlock, e]))⟩, fun g' hg' => .inl hg', ⟨hlen, .inr ⟨g, cap, _, rfl, hbg, hset, hroom, hcm, ?_, ?_⟩⟩, fun g' hg' => ?_⟩
      · simp only [List.size_toArray, List.length_append, List.length_take, List.length_drop, Array.length_toList]
        omega
      · rw [htake, ← hlen]
        exact List.take_left
      · injection hg' with hg'; subst hg'
        refine own_of hset (fun u hu => ?_)
        simp only [List.mem_append] at hu
        rcases hu with (hu | hu) | hu
        · exact hcu u (List.mem_of_mem_take hu)
        · exact hnu u hu
        · exact hcu u (List.mem_of_mem_drop hu)
    · have holds : ∀ j u, xs[j]? = some u → w.cell? ((⟨g, 0, none⟩ : Addr).add j) = some u := hown.cells (g := g) rfl
      have hr := run_append_grow (P := p) w t ty e i z ht hi hz ⟨g, 0, none⟩ n cap xs hown.1 holds a m c news hl hnews (by omega) (by omega) (growslice_fits (by omega) hb)
      have h2 := moved cap (fun u hu => hcu u (by rw [← htake] at hu; exact List.mem_of_mem_take hu))
      exact ⟨_, _, hr, h2.1, fun g' hg' => .inr (by have h : w.heap.size = g' := Option.some.inj hg'; omega), h2.2⟩
/-- A row that the call itself made: L parts of type T, sz cells each. -/
def Vp.ownr (T : TypeId) (sz L : Nat) (qs : List Vp) : Vp := ⟨fun w v => ∃ xs, OwnRow w T sz v L xs ∧ CellsAre w qs xs,
  fun v g => v.ownBlock = some g,
  fun w w' X v ⟨xs, ⟨⟨h1, h2⟩, h0⟩, k⟩ hc hX => by
    have hsame : ∀ g, v.ownBlock = some g → w'.heap[g]? = w.heap[g]? := fun g hg => hc.blk g (by obtain ⟨cs, t, h, _⟩ := h0 g hg; exact (Array.getElem?_eq_some_iff.1 h).1) (hX g hg)
    refine ⟨xs, ⟨⟨h1, h2.imp id fun ⟨g, cap, cur, e, hb, hg, hr⟩ => ⟨g, cap, cur, e, hb, by rw [hsame g (by rw [e]; rfl)]; exact hg, hr⟩⟩, fun g hg => ?_⟩, k.chg hc⟩
    obtain ⟨cs, t, h3, h4⟩ := h0 g hg
    exact ⟨cs, t, by rw [hsame g hg]; exact h3, h4⟩,
  fun w v g ⟨xs, ⟨_, h0⟩, _⟩ hg => by obtain ⟨cs, t, h, _⟩ := h0 g hg; exact (Array.getElem?_eq_some_iff.1 h).1,
  fun w v ⟨xs, ⟨⟨_, h⟩, _⟩, _⟩ => by
    rcases h with ⟨rfl, _⟩ | ⟨g', cap, cur, rfl, _⟩ <;> exact flat_slice⟩
section
variable {ρ : Rho} {n m r k i L M : Nat} {t T : TypeId} {qs qs' : List Vp} {z : Value} {ti : TypeInfo} {l : Leaf}
theorem row_news {w : World} {x : Value} (hx : (Vp.row T M qs').p w x) (h0 : qs' ≠ []) : ∃ a c news, x = .slice (some a) M c ∧ CellsAre w qs' news ∧ (∀ j u, news[j]? = some u → w.cell? (a.add j) = some u) := by
  rcases hx with ⟨h, _⟩ | ⟨b, o, c, cs, rfl, hc, hb, hq⟩
  · exact absurd h h0
  · have : ∃ news : List Value, CellsAre w qs' news ∧ ∀ j u, news[j]? = some u → cs[o + j]? = some u := by
      clear h0 hc hb
      induction qs' generalizing o with
      | nil => exact ⟨[], ⟨rfl, fun j q h => by simp at h⟩, fun j u h => by simp at h⟩
      | cons q qs ih =>
        obtain ⟨u, h1, h2, h3⟩ := hq 0 q rfl
        obtain ⟨news, h4, h5⟩ := ih (o + 1) (fun j q hj => by
          obtain ⟨u, h1, h2⟩ := hq (j + 1) q (by simpa using hj)
          exact ⟨u, by rw [show o + 1 + j = o + (j + 1) from by omega]; exact h1, h2⟩)
        refine ⟨u :: news, ⟨by simp [h4.1], fun j q' hj => ?_⟩, fun j u' hj => ?_⟩
        · match j with
          | 0 => simp at hj; subst hj; exact ⟨u, rfl, h2, h3⟩
          | j + 1 => obtain ⟨u', k1, k2⟩ := h4.2 j q' (by simpa using hj); exact ⟨u', by simpa using k1, k2⟩
        · match j with
          | 0 => simp at hj; subst hj; exact h1
          | j + 1 => have := h5 j u' (by simpa using hj); rwa [show o + 1 + j = o + (j + 1) from by omega] at this
    obtain ⟨news, h1, h2⟩ := this
    exact ⟨⟨b, o, none⟩, c, news, rfl, h1, fun j u hj => by rw [add_off, cell_at hb]; exact h2 j u hj⟩
/-- What a leaf says of the row before the append. -/
def BefO (ρ : Rho) (i : Nat) (T : TypeId) (sz L : Nat) (qs : List Vp) (l : Leaf) : Prop := (l = .sl0 ∧ L = 0 ∧ qs = []) ∨ ∃ n, l = .own i n ∧ ρ[n]? = some (.ownr T sz L qs)
theorem o_app (ht : Tryz.prog.underlying t = some (.slice T)) (hi : Tryz.prog.info? T = some ti) (hz : ti.zero = some z) (hzs : z.cells.size = ti.size) (hsz : 0 < ti.size) (hzu : ∀ u ∈ z.cells.toList, noU u)
    (hl : BefO ρ i T ti.size L qs l) (hr : ρ[r]? = some (.row T M qs')) (hm : ρ[m]? = some (.ownr T ti.size (L + M) (qs ++ qs'))) (hq : qs'.length = M * ti.size) (hM : 0 < M) (hb : (L + M) * ti.bytes ≤ 140737488355328) (hn : L + M ≤ 1000000000000000) :
    (OIns.mk (.app t) [.one l, .one (.ref r)] (.one (.own i m))).Ok Tryz.prog ρ := fun B w vs hv => by
  match vs, hv with
  | [v1, v2], hv =>
    have h1 : ∃ xs, OwnRow w T ti.size v1 L xs ∧ CellsAre w qs xs := by
      rcases hl with ⟨rfl, rfl, rfl⟩ | ⟨n, rfl, hn⟩
      · have e : v1 = .slice none 0 0 := hv.1
        subst e
        exact ⟨[], ⟨World.ownsRow_nil _ _ _ _, fun g hg => by cases hg⟩, rfl, fun j q h => by simp at h⟩
      · obtain ⟨s, k1, k2, _⟩ := hv.1
        rw [hn] at k1; injection k1 with k1; subst k1
        exact k2
    obtain ⟨xs, hox, hcx⟩ := h1
    obtain ⟨s, k1, k2, _⟩ := hv.2.1
    rw [hr] at k1; injection k1 with k1; subst k1
    have hq0 : qs' ≠ [] := fun e => by subst e; simp at hq; have := Nat.mul_pos hM hsz; omega
    obtain ⟨a, c, news, rfl, hcn, hcell⟩ := row_news k2 hq0
    intro ty
    obtain ⟨v', w', hrun, hg, hblk, hown⟩ := run_app (p := Tryz.prog) (ty := ty) (c := c) ht hi hz hzs hsz hzu hox (by rw [hcn.1, hq]) hcell (fun u hu => oneCell_flat (hcn.flat u hu)) (fun u hu => fun n e => (hcn.flat u hu).2.2 n e) hM hb hn
    have hchg : Chg w w' (fun g => v1.ownBlock = some g) := ⟨hg.size, fun g h1 h2 => hg.block g h1 (fun e => h2 e.symm), fun g h => hox.2 g h⟩
    refine ⟨v', w', hrun, hg, fun g hgv => ⟨hblk g hgv, ?_, hown.2 g hgv⟩, _, hm, ⟨xs ++ news, hown, (hcx.append hcn).chg hchg⟩, fun g hgv => hgv⟩
    obtain ⟨cs, t, h, _⟩ := hown.2 g hgv
    exact (Array.getElem?_eq_some_iff.1 h).1
/-- A row that is left is a row like others. -/
theorem ownr_row {w : World} {v : Value} {sz : Nat} (h : (Vp.ownr T sz L qs).p w v) : (Vp.row T L qs).p w v := by
  obtain ⟨xs, ⟨⟨h1, h2⟩, _⟩, h3⟩ := h
  rcases h2 with ⟨rfl, rfl⟩ | ⟨g, cap, cur, rfl, _, hg, hn, _, hcs, htake⟩
  · refine .inl ⟨?_, rfl, rfl⟩
    have : xs.length = 0 := by simpa using h1
    exact List.eq_nil_of_length_eq_zero (by rw [← h3.1]; exact this)
  · refine .inr ⟨g, 0, cap, cur, rfl, hn, hg, fun j q hj => ?_⟩
    obtain ⟨u, k1, k2⟩ := h3.2 j q hj
    refine ⟨u, ?_, k2⟩
    rw [← htake, List.getElem?_take] at k1
    split at k1
    · rw [Nat.zero_add, ← Array.getElem?_toList]; exact k1
    · cases k1
theorem o_frz {sz : Nat} (hn : ρ[n]? = some (.ownr T sz L qs)) (hm : ρ[m]? = some (.row T L qs)) : (OIns.mk (.frz r i) [.one (.ref n)] (.one (.ref m))).Ok Tryz.prog ρ := fun B w vs hv => by
  match vs, hv with
  | [v1], hv =>
    obtain ⟨s, h1, h2, h3⟩ := hv.1
    rw [hn] at h1; injection h1 with h1; subst h1
    exact ⟨_, hm, ownr_row h2, fun g ⟨o, n', c, e⟩ => h3 g (by rw [e]; rfl)⟩
def noUb : Value → Bool
  | .int .u32 _ => false
  | _ => true
/-- What the model knows of a row's parts: their size, their bytes, and that they hold no digits at first. -/
def appB (p : Program) (T : TypeId) (sz bytes : Nat) : Bool := match p.info? T with
  | some ti => (match ti.zero with | some z => z.cells.size == sz && z.cells.toList.all noUb | none => false) && (ti.size == sz && (ti.bytes == bytes && decide (0 < sz)))
  | none => false
theorem o_appK {sz bytes K : Nat} {qs2 : List Vp} (ht : Tryz.prog.underlying t = some (.slice T)) (hB : appB Tryz.prog T sz bytes = true) (hl : BefO ρ i T sz L qs l) (hr : ρ[r]? = some (.row T M qs')) (hm : ρ[m]? = some (.ownr T sz K qs2)) (hK : K = L + M) (h2 : qs2 = qs ++ qs')
    (hq : qs'.length = M * sz) (hM : 0 < M) (hb : (L + M) * bytes ≤ 140737488355328) (hn : L + M ≤ 1000000000000000) : (OIns.mk (.app t) [.one l, .one (.ref r)] (.one (.own i m))).Ok Tryz.prog ρ := by
  unfold appB at hB
  split at hB
  · rename_i ti hi
    simp only [Bool.and_eq_true, beq_iff_eq, decide_eq_true_eq] at hB
    obtain ⟨hz, h3, h4, h5⟩ := hB
    split at hz
    · rename_i z hz'
      simp only [Bool.and_eq_true, beq_iff_eq] at hz
      subst h3; subst h4; subst hK; subst h2
      refine o_app ht hi hz' hz.1 h5 (fun u hu n e => ?_) hl hr hm hq hM hb hn
      have := List.all_eq_true.1 hz.2 u hu
      subst e; exact Bool.noConfusion (show false = true from this)
    · cases hz
  · cases hB
end
end Go.Proofs.YthebfmlfgfmlnaaGreatDoor
namespace Go.Proofs.YthebfmlfgfmlnaaGreatDoor
set_option linter.unusedSimpArgs false
set_option linter.unusedVariables false
set_option maxRecDepth 100000
open Go.RowKit
/-- Texts behind one another, with a space between. -/
def joinB (l : List ByteArray) : ByteArray := ⟨(Lib.join (l.map (·.data.toList)) [32]).toArray⟩
theorem I_Join {xs : List Fq} {ys : Rho} {n : Nat} {ss : List ByteArray} {l : Leaf} (hn : (frs xs ++ ys)[n]? = some (.strs ss)) (hl : ∀ B w, l.holds (frs xs ++ ys) B w (.string (joinB ss))) (h0 : ss ≠ []) (hs : (Lib.join (ss.map (·.data.toList)) [32]).length ≤ 140737488355328) (hN : ss.length ≤ 1000) : OkI xs ys ⟨46, [.one (.ref n), .one (.s (b1 32))], .v (.one l)⟩ :=
  ⟨enters Tryz.func46 rfl rfl, fun B w vs hB h => by
    match vs, h with
    | [va, vb], h =>
      have e2 : vb = .string (b1 32) := h.2.1
      subst e2
      obtain ⟨s, k1, k2, _⟩ := h.1
      rw [hn] at k1; injection k1 with k1; subst k1
      rcases k2 with ⟨h1, _⟩ | ⟨b, o, c, cs, rfl, hc, hb, hq⟩
      · exact absurd (List.map_eq_nil_iff.1 h1) h0
      · refine (Any.strings_Join Tryz.laysJoin Tryz.joinX b o c ss (b1 32) w (fun j x hj => ?_) (Array.getElem?_eq_some_iff.1 hb).1 (by omega) hc hs).mono ?_
        · obtain ⟨u, k3, k4, _⟩ := hq j (.val (.string x)) (by rw [List.getElem?_map, hj]; rfl)
          rw [cell_at hb, k3, k4.1]
        · rintro e w' ⟨rfl, h2⟩
          exact ⟨_, rfl, hl B w', h2⟩⟩
/-- The text of a pose. -/
def Pq.text (a : Pq) : ByteArray := joinB [a.rot.w.fmt, a.rot.x.fmt, a.rot.y.fmt, a.rot.z.fmt, a.pos.x.fmt, a.pos.y.fmt, a.pos.z.fmt]
theorem qfmt_size {x : Fq} {d : Nat} (h : x.ok d) : x.fmt.size ≤ 20 * d + 4 := by
  have h1 := fmt_size x.p
  have h2 := fmt_size x.q
  have h3 := h.p
  have h4 := h.q
  unfold Fq.fmt
  split <;> split <;> (try simp only [ByteArray.size_append, bsz, List.size_toArray, List.length_cons, List.length_nil]) <;> omega
def xpoEncX (a : Pq) : List Fq := [a.rot.w, a.rot.x, a.rot.y, a.rot.z, a.pos.x, a.pos.y, a.pos.z]
theorem q_poEnc (va : Value) (a : Pq) (w : World) (ia : IsOq w va a) (ha : a.ok 1000) : Calls Tryz.prog 14 #[va] w fun e w' => RetV w (.string a.text) e w' := by
  have z0 := qfmt_size (show (a.rot.w).ok 1000 from ha.rot.w)
  have z1 := qfmt_size (show (a.rot.x).ok 1000 from ha.rot.x)
  have z2 := qfmt_size (show (a.rot.y).ok 1000 from ha.rot.y)
  have z3 := qfmt_size (show (a.rot.z).ok 1000 from ha.rot.z)
  have z4 := qfmt_size (show (a.pos.x).ok 1000 from ha.pos.x)
  have z5 := qfmt_size (show (a.pos.y).ok 1000 from ha.pos.y)
  have z6 := qfmt_size (show (a.pos.z).ok 1000 from ha.pos.z)
  have hjoin : (Lib.join ([a.rot.w.fmt, a.rot.x.fmt, a.rot.y.fmt, a.rot.z.fmt, a.pos.x.fmt, a.pos.y.fmt, a.pos.z.fmt].map (·.data.toList)) [32]).length ≤ 140737488355328 := by simp only [List.map_cons, List.map_nil, Lib.join, List.intercalate, List.intersperse, List.flatten_cons, List.flatten_nil, List.length_append, List.length_cons, List.length_nil, Array.length_toList]; simp only [ByteArray.size] at *; omega
  refine (calls_runFn (ρ := frs (xpoEncX a) ++ [.row 26 7 [.val (.bool a.rot.w.s), .dig (nl a.rot.w.p) a.rot.w.p, .dig (nl a.rot.w.q) a.rot.w.q, .val (.bool a.rot.x.s), .dig (nl a.rot.x.p) a.rot.x.p, .dig (nl a.rot.x.q) a.rot.x.q, .val (.bool a.rot.y.s), .dig (nl a.rot.y.p) a.rot.y.p, .dig (nl a.rot.y.q) a.rot.y.q, .val (.bool a.rot.z.s), .dig (nl a.rot.z.p) a.rot.z.p, .dig (nl a.rot.z.q) a.rot.z.q, .val (.bool a.pos.x.s), .dig (nl a.pos.x.p) a.pos.x.p, .dig (nl a.pos.x.q) a.pos.x.q, .val (.bool a.pos.y.s), .dig (nl a.pos.y.p) a.pos.y.p, .dig (nl a.pos.y.q) a.pos.y.q, .val (.bool a.pos.z.s), .dig (nl a.pos.z.p) a.pos.z.p, .dig (nl a.pos.z.q) a.pos.z.q], .plc 26 [.val (.bool a.rot.w.s), .dig (nl a.rot.w.p) a.rot.w.p, .dig (nl a.rot.w.q) a.rot.w.q], .val (.string a.rot.w.fmt), .row 9 1 [.val (.string a.rot.w.fmt)], .ownr 9 1 1 [.val (.string a.rot.w.fmt)], .plc 26 [.val (.bool a.rot.x.s), .dig (nl a.rot.x.p) a.rot.x.p, .dig (nl a.rot.x.q) a.rot.x.q], .val (.string a.rot.x.fmt), .row 9 1 [.val (.string a.rot.x.fmt)], .ownr 9 1 2 [.val (.string a.rot.w.fmt), .val (.string a.rot.x.fmt)], .plc 26 [.val (.bool a.rot.y.s), .dig (nl a.rot.y.p) a.rot.y.p, .dig (nl a.rot.y.q) a.rot.y.q], .val (.string a.rot.y.fmt), .row 9 1 [.val (.string a.rot.y.fmt)], .ownr 9 1 3 [.val (.string a.rot.w.fmt), .val (.string a.rot.x.fmt), .val (.string a.rot.y.fmt)], .plc 26 [.val (.bool a.rot.z.s), .dig (nl a.rot.z.p) a.rot.z.p, .dig (nl a.rot.z.q) a.rot.z.q], .val (.string a.rot.z.fmt), .row 9 1 [.val (.string a.rot.z.fmt)], .ownr 9 1 4 [.val (.string a.rot.w.fmt), .val (.string a.rot.x.fmt), .val (.string a.rot.y.fmt), .val (.string a.rot.z.fmt)], .plc 26 [.val (.bool a.pos.x.s), .dig (nl a.pos.x.p) a.pos.x.p, .dig (nl a.pos.x.q) a.pos.x.q], .val (.string a.pos.x.fmt), .row 9 1 [.val (.string a.pos.x.fmt)], .ownr 9 1 5 [.val (.string a.rot.w.fmt), .val (.string a.rot.x.fmt), .val (.string a.rot.y.fmt), .val (.string a.rot.z.fmt), .val (.string a.pos.x.fmt)], .plc 26 [.val (.bool a.pos.y.s), .dig (nl a.pos.y.p) a.pos.y.p, .dig (nl a.pos.y.q) a.pos.y.q], .val (.string a.pos.y.fmt), .row 9 1 [.val (.string a.pos.y.fmt)], .ownr 9 1 6 [.val (.string a.rot.w.fmt), .val (.string a.rot.x.fmt), .val (.string a.rot.y.fmt), .val (.string a.rot.z.fmt), .val (.string a.pos.x.fmt), .val (.string a.pos.y.fmt)], .plc 26 [.val (.bool a.pos.z.s), .dig (nl a.pos.z.p) a.pos.z.p, .dig (nl a.pos.z.q) a.pos.z.q], .val (.string a.pos.z.fmt), .row 9 1 [.val (.string a.pos.z.fmt)], .ownr 9 1 7 [.val (.string a.rot.w.fmt), .val (.string a.rot.x.fmt), .val (.string a.rot.y.fmt), .val (.string a.rot.z.fmt), .val (.string a.pos.x.fmt), .val (.string a.pos.y.fmt), .val (.string a.pos.z.fmt)], .row 9 7 [.val (.string a.rot.w.fmt), .val (.string a.rot.x.fmt), .val (.string a.rot.y.fmt), .val (.string a.rot.z.fmt), .val (.string a.pos.x.fmt), .val (.string a.pos.y.fmt), .val (.string a.pos.z.fmt)], .val (.string (joinB [a.rot.w.fmt, a.rot.x.fmt, a.rot.y.fmt, a.rot.z.fmt, a.pos.x.fmt, a.pos.y.fmt, a.pos.z.fmt]))]) (w := w) (fuel := 300) (args := [row [0, 1, 2, 3, 4, 5, 6]]) (vs := [va]) (r := .v (.one (.ref 51)))
    (il_cons (I_fFormat (i := 0) rfl (ls (n := 23) rfl) (ha.rot.w.mono (by decide))) (il_cons (I_fFormat (i := 1) rfl (ls (n := 27) rfl) (ha.rot.x.mono (by decide))) (il_cons (I_fFormat (i := 2) rfl (ls (n := 31) rfl) (ha.rot.y.mono (by decide))) (il_cons (I_fFormat (i := 3) rfl (ls (n := 35) rfl) (ha.rot.z.mono (by decide))) (il_cons (I_fFormat (i := 4) rfl (ls (n := 39) rfl) (ha.pos.x.mono (by decide))) (il_cons (I_fFormat (i := 5) rfl (ls (n := 43) rfl) (ha.pos.y.mono (by decide))) (il_cons (I_fFormat (i := 6) rfl (ls (n := 47) rfl) (ha.pos.z.mono (by decide))) (il_cons (I_Join (n := 50) (ss := [a.rot.w.fmt, a.rot.x.fmt, a.rot.y.fmt, a.rot.z.fmt, a.pos.x.fmt, a.pos.y.fmt, a.pos.z.fmt]) rfl (ls (n := 51) rfl) (by simp) hjoin (by simp)) il_nil))))))))
    (ol_cons (o_bs (m := 21) (ss := [fr 0, fr 1, fr 2, fr 3, fr 4, fr 5, fr 6]) (N := 7) (sz := 3) (z := [.b false, .sl0, .sl0]) (qs := [.val (.bool a.rot.w.s), .dig (nl a.rot.w.p) a.rot.w.p, .dig (nl a.rot.w.q) a.rot.w.q, .val (.bool a.rot.x.s), .dig (nl a.rot.x.p) a.rot.x.p, .dig (nl a.rot.x.q) a.rot.x.q, .val (.bool a.rot.y.s), .dig (nl a.rot.y.p) a.rot.y.p, .dig (nl a.rot.y.q) a.rot.y.q, .val (.bool a.rot.z.s), .dig (nl a.rot.z.p) a.rot.z.p, .dig (nl a.rot.z.q) a.rot.z.q, .val (.bool a.pos.x.s), .dig (nl a.pos.x.p) a.pos.x.p, .dig (nl a.pos.x.q) a.pos.x.q, .val (.bool a.pos.y.s), .dig (nl a.pos.y.p) a.pos.y.p, .dig (nl a.pos.y.q) a.pos.y.q, .val (.bool a.pos.z.s), .dig (nl a.pos.z.p) a.pos.z.p, .dig (nl a.pos.z.q) a.pos.z.q]) (ix := [0, 1, 2, 3, 4, 5, 6]) (ls := [.ref 0, .ref 1, .ref 2, .ref 3, .ref 4, .ref 5, .ref 6, .ref 7, .ref 8, .ref 9, .ref 10, .ref 11, .ref 12, .ref 13, .ref 14, .ref 15, .ref 16, .ref 17, .ref 18, .ref 19, .ref 20]) Tryz.underlying33 (by kernel_rfl) (by kernel_rfl) (by decide) (by decide) (by decide) rfl (by kernel_rfl) ⟨ql_val rfl, ql_dig rfl, ql_dig rfl, ql_val rfl, ql_dig rfl, ql_dig rfl, ql_val rfl, ql_dig rfl, ql_dig rfl, ql_val rfl, ql_dig rfl, ql_dig rfl, ql_val rfl, ql_dig rfl, ql_dig rfl, ql_val rfl, ql_dig rfl, ql_dig rfl, ql_val rfl, ql_dig rfl, ql_dig rfl, trivial⟩ rfl) (ol_cons (o_lenR (n := 21) (t := 33) ⟨_, Tryz.underlying33⟩ rfl (li rfl)) (ol_cons (o_iaL (k := 0) (l := .i .i64 0) (sz := 3) (qs' := [.val (.bool a.rot.w.s), .dig (nl a.rot.w.p) a.rot.w.p, .dig (nl a.rot.w.q) a.rot.w.q]) (n := 21) (m := 22) Tryz.underlying33 (by kernel_rfl) rfl rfl (fun _ _ _ h => h) (by decide) (by simp) (fun j q hq => by match j, hq with | 0, hq => simp at hq; subst hq; rfl | 1, hq => simp at hq; subst hq; rfl | 2, hq => simp at hq; subst hq; rfl | j + 3, hq => simp at hq)) (ol_cons (o_ldA (n := 22) (T := 26) (qs := [.val (.bool a.rot.w.s), .dig (nl a.rot.w.p) a.rot.w.p, .dig (nl a.rot.w.q) a.rot.w.q]) (ls := [.ref 0, .ref 1, .ref 2]) (t := 26) (by kernel_rfl) (by kernel_rfl) rfl ⟨lq rfl, lq rfl, lq rfl, trivial⟩) (ol_cons (o_bs (m := 24) (ss := [.one (.ref 23)]) (N := 1) (sz := 1) (z := [.s (ByteArray.mk #[])]) (qs := [.val (.string a.rot.w.fmt)]) (ix := [0]) (ls := [.ref 23]) Tryz.underlying64 (by kernel_rfl) (by kernel_rfl) (by decide) (by decide) (by decide) rfl (by kernel_rfl) ⟨ql_val rfl, trivial⟩ rfl) (ol_cons (o_appK (i := 0) (sz := 1) (bytes := 16) (L := 0) (M := 1) (qs := []) (qs' := [.val (.string a.rot.w.fmt)]) (m := 25) (r := 24) (T := 9) Tryz.underlying64 (by kernel_rfl) (.inl ⟨rfl, rfl, rfl⟩) rfl rfl rfl rfl rfl (by decide) (by decide) (by decide)) (ol_cons (o_iaL (k := 1) (l := .i .i64 1) (sz := 3) (qs' := [.val (.bool a.rot.x.s), .dig (nl a.rot.x.p) a.rot.x.p, .dig (nl a.rot.x.q) a.rot.x.q]) (n := 21) (m := 26) Tryz.underlying33 (by kernel_rfl) rfl rfl (fun _ _ _ h => h) (by decide) (by simp) (fun j q hq => by match j, hq with | 0, hq => simp at hq; subst hq; rfl | 1, hq => simp at hq; subst hq; rfl | 2, hq => simp at hq; subst hq; rfl | j + 3, hq => simp at hq)) (ol_cons (o_ldA (n := 26) (T := 26) (qs := [.val (.bool a.rot.x.s), .dig (nl a.rot.x.p) a.rot.x.p, .dig (nl a.rot.x.q) a.rot.x.q]) (ls := [.ref 3, .ref 4, .ref 5]) (t := 26) (by kernel_rfl) (by kernel_rfl) rfl ⟨lq rfl, lq rfl, lq rfl, trivial⟩) (ol_cons (o_bs (m := 28) (ss := [.one (.ref 27)]) (N := 1) (sz := 1) (z := [.s (ByteArray.mk #[])]) (qs := [.val (.string a.rot.x.fmt)]) (ix := [0]) (ls := [.ref 27]) Tryz.underlying64 (by kernel_rfl) (by kernel_rfl) (by decide) (by decide) (by decide) rfl (by kernel_rfl) ⟨ql_val rfl, trivial⟩ rfl) (ol_cons (o_appK (i := 0) (sz := 1) (bytes := 16) (L := 1) (M := 1) (qs := [.val (.string a.rot.w.fmt)]) (qs' := [.val (.string a.rot.x.fmt)]) (m := 29) (r := 28) (T := 9) Tryz.underlying64 (by kernel_rfl) (.inr ⟨25, rfl, rfl⟩) rfl rfl rfl rfl rfl (by decide) (by decide) (by decide)) (ol_cons (o_iaL (k := 2) (l := .i .i64 2) (sz := 3) (qs' := [.val (.bool a.rot.y.s), .dig (nl a.rot.y.p) a.rot.y.p, .dig (nl a.rot.y.q) a.rot.y.q]) (n := 21) (m := 30) Tryz.underlying33 (by kernel_rfl) rfl rfl (fun _ _ _ h => h) (by decide) (by simp) (fun j q hq => by match j, hq with | 0, hq => simp at hq; subst hq; rfl | 1, hq => simp at hq; subst hq; rfl | 2, hq => simp at hq; subst hq; rfl | j + 3, hq => simp at hq)) (ol_cons (o_ldA (n := 30) (T := 26) (qs := [.val (.bool a.rot.y.s), .dig (nl a.rot.y.p) a.rot.y.p, .dig (nl a.rot.y.q) a.rot.y.q]) (ls := [.ref 6, .ref 7, .ref 8]) (t := 26) (by kernel_rfl) (by kernel_rfl) rfl ⟨lq rfl, lq rfl, lq rfl, trivial⟩) (ol_cons (o_bs (m := 32) (ss := [.one (.ref 31)]) (N := 1) (sz := 1) (z := [.s (ByteArray.mk #[])]) (qs := [.val (.string a.rot.y.fmt)]) (ix := [0]) (ls := [.ref 31]) Tryz.underlying64 (by kernel_rfl) (by kernel_rfl) (by decide) (by decide) (by decide) rfl (by kernel_rfl) ⟨ql_val rfl, trivial⟩ rfl) (ol_cons (o_appK (i := 0) (sz := 1) (bytes := 16) (L := 2) (M := 1) (qs := [.val (.string a.rot.w.fmt), .val (.string a.rot.x.fmt)]) (qs' := [.val (.string a.rot.y.fmt)]) (m := 33) (r := 32) (T := 9) Tryz.underlying64 (by kernel_rfl) (.inr ⟨29, rfl, rfl⟩) rfl rfl rfl rfl rfl (by decide) (by decide) (by decide)) (ol_cons (o_iaL (k := 3) (l := .i .i64 3) (sz := 3) (qs' := [.val (.bool a.rot.z.s), .dig (nl a.rot.z.p) a.rot.z.p, .dig (nl a.rot.z.q) a.rot.z.q]) (n := 21) (m := 34) Tryz.underlying33 (by kernel_rfl) rfl rfl (fun _ _ _ h => h) (by decide) (by simp) (fun j q hq => by match j, hq with | 0, hq => simp at hq; subst hq; rfl | 1, hq => simp at hq; subst hq; rfl | 2, hq => simp at hq; subst hq; rfl | j + 3, hq => simp at hq)) (ol_cons (o_ldA (n := 34) (T := 26) (qs := [.val (.bool a.rot.z.s), .dig (nl a.rot.z.p) a.rot.z.p, .dig (nl a.rot.z.q) a.rot.z.q]) (ls := [.ref 9, .ref 10, .ref 11]) (t := 26) (by kernel_rfl) (by kernel_rfl) rfl ⟨lq rfl, lq rfl, lq rfl, trivial⟩) (ol_cons (o_bs (m := 36) (ss := [.one (.ref 35)]) (N := 1) (sz := 1) (z := [.s (ByteArray.mk #[])]) (qs := [.val (.string a.rot.z.fmt)]) (ix := [0]) (ls := [.ref 35]) Tryz.underlying64 (by kernel_rfl) (by kernel_rfl) (by decide) (by decide) (by decide) rfl (by kernel_rfl) ⟨ql_val rfl, trivial⟩ rfl) (ol_cons (o_appK (i := 0) (sz := 1) (bytes := 16) (L := 3) (M := 1) (qs := [.val (.string a.rot.w.fmt), .val (.string a.rot.x.fmt), .val (.string a.rot.y.fmt)]) (qs' := [.val (.string a.rot.z.fmt)]) (m := 37) (r := 36) (T := 9) Tryz.underlying64 (by kernel_rfl) (.inr ⟨33, rfl, rfl⟩) rfl rfl rfl rfl rfl (by decide) (by decide) (by decide)) (ol_cons (o_iaL (k := 4) (l := .i .i64 4) (sz := 3) (qs' := [.val (.bool a.pos.x.s), .dig (nl a.pos.x.p) a.pos.x.p, .dig (nl a.pos.x.q) a.pos.x.q]) (n := 21) (m := 38) Tryz.underlying33 (by kernel_rfl) rfl rfl (fun _ _ _ h => h) (by decide) (by simp) (fun j q hq => by match j, hq with | 0, hq => simp at hq; subst hq; rfl | 1, hq => simp at hq; subst hq; rfl | 2, hq => simp at hq; subst hq; rfl | j + 3, hq => simp at hq)) (ol_cons (o_ldA (n := 38) (T := 26) (qs := [.val (.bool a.pos.x.s), .dig (nl a.pos.x.p) a.pos.x.p, .dig (nl a.pos.x.q) a.pos.x.q]) (ls := [.ref 12, .ref 13, .ref 14]) (t := 26) (by kernel_rfl) (by kernel_rfl) rfl ⟨lq rfl, lq rfl, lq rfl, trivial⟩) (ol_cons (o_bs (m := 40) (ss := [.one (.ref 39)]) (N := 1) (sz := 1) (z := [.s (ByteArray.mk #[])]) (qs := [.val (.string a.pos.x.fmt)]) (ix := [0]) (ls := [.ref 39]) Tryz.underlying64 (by kernel_rfl) (by kernel_rfl) (by decide) (by decide) (by decide) rfl (by kernel_rfl) ⟨ql_val rfl, trivial⟩ rfl) (ol_cons (o_appK (i := 0) (sz := 1) (bytes := 16) (L := 4) (M := 1) (qs := [.val (.string a.rot.w.fmt), .val (.string a.rot.x.fmt), .val (.string a.rot.y.fmt), .val (.string a.rot.z.fmt)]) (qs' := [.val (.string a.pos.x.fmt)]) (m := 41) (r := 40) (T := 9) Tryz.underlying64 (by kernel_rfl) (.inr ⟨37, rfl, rfl⟩) rfl rfl rfl rfl rfl (by decide) (by decide) (by decide)) (ol_cons (o_iaL (k := 5) (l := .i .i64 5) (sz := 3) (qs' := [.val (.bool a.pos.y.s), .dig (nl a.pos.y.p) a.pos.y.p, .dig (nl a.pos.y.q) a.pos.y.q]) (n := 21) (m := 42) Tryz.underlying33 (by kernel_rfl) rfl rfl (fun _ _ _ h => h) (by decide) (by simp) (fun j q hq => by match j, hq with | 0, hq => simp at hq; subst hq; rfl | 1, hq => simp at hq; subst hq; rfl | 2, hq => simp at hq; subst hq; rfl | j + 3, hq => simp at hq)) (ol_cons (o_ldA (n := 42) (T := 26) (qs := [.val (.bool a.pos.y.s), .dig (nl a.pos.y.p) a.pos.y.p, .dig (nl a.pos.y.q) a.pos.y.q]) (ls := [.ref 15, .ref 16, .ref 17]) (t := 26) (by kernel_rfl) (by kernel_rfl) rfl ⟨lq rfl, lq rfl, lq rfl, trivial⟩) (ol_cons (o_bs (m := 44) (ss := [.one (.ref 43)]) (N := 1) (sz := 1) (z := [.s (ByteArray.mk #[])]) (qs := [.val (.string a.pos.y.fmt)]) (ix := [0]) (ls := [.ref 43]) Tryz.underlying64 (by kernel_rfl) (by kernel_rfl) (by decide) (by decide) (by decide) rfl (by kernel_rfl) ⟨ql_val rfl, trivial⟩ rfl) (ol_cons (o_appK (i := 0) (sz := 1) (bytes := 16) (L := 5) (M := 1) (qs := [.val (.string a.rot.w.fmt), .val (.string a.rot.x.fmt), .val (.string a.rot.y.fmt), .val (.string a.rot.z.fmt), .val (.string a.pos.x.fmt)]) (qs' := [.val (.string a.pos.y.fmt)]) (m := 45) (r := 44) (T := 9) Tryz.underlying64 (by kernel_rfl) (.inr ⟨41, rfl, rfl⟩) rfl rfl rfl rfl rfl (by decide) (by decide) (by decide)) (ol_cons (o_iaL (k := 6) (l := .i .i64 6) (sz := 3) (qs' := [.val (.bool a.pos.z.s), .dig (nl a.pos.z.p) a.pos.z.p, .dig (nl a.pos.z.q) a.pos.z.q]) (n := 21) (m := 46) Tryz.underlying33 (by kernel_rfl) rfl rfl (fun _ _ _ h => h) (by decide) (by simp) (fun j q hq => by match j, hq with | 0, hq => simp at hq; subst hq; rfl | 1, hq => simp at hq; subst hq; rfl | 2, hq => simp at hq; subst hq; rfl | j + 3, hq => simp at hq)) (ol_cons (o_ldA (n := 46) (T := 26) (qs := [.val (.bool a.pos.z.s), .dig (nl a.pos.z.p) a.pos.z.p, .dig (nl a.pos.z.q) a.pos.z.q]) (ls := [.ref 18, .ref 19, .ref 20]) (t := 26) (by kernel_rfl) (by kernel_rfl) rfl ⟨lq rfl, lq rfl, lq rfl, trivial⟩) (ol_cons (o_bs (m := 48) (ss := [.one (.ref 47)]) (N := 1) (sz := 1) (z := [.s (ByteArray.mk #[])]) (qs := [.val (.string a.pos.z.fmt)]) (ix := [0]) (ls := [.ref 47]) Tryz.underlying64 (by kernel_rfl) (by kernel_rfl) (by decide) (by decide) (by decide) rfl (by kernel_rfl) ⟨ql_val rfl, trivial⟩ rfl) (ol_cons (o_appK (i := 0) (sz := 1) (bytes := 16) (L := 6) (M := 1) (qs := [.val (.string a.rot.w.fmt), .val (.string a.rot.x.fmt), .val (.string a.rot.y.fmt), .val (.string a.rot.z.fmt), .val (.string a.pos.x.fmt), .val (.string a.pos.y.fmt)]) (qs' := [.val (.string a.pos.z.fmt)]) (m := 49) (r := 48) (T := 9) Tryz.underlying64 (by kernel_rfl) (.inr ⟨45, rfl, rfl⟩) rfl rfl rfl rfl rfl (by decide) (by decide) (by decide)) (ol_cons (o_frz (n := 49) (m := 50) (r := 7) (i := 0) (L := 7) (qs := [.val (.string a.rot.w.fmt), .val (.string a.rot.x.fmt), .val (.string a.rot.y.fmt), .val (.string a.rot.z.fmt), .val (.string a.pos.x.fmt), .val (.string a.pos.y.fmt), .val (.string a.pos.z.fmt)]) rfl rfl) (ol_nil)))))))))))))))))))))))))))))))) (by kernel_rfl) Tryz.func14 (by kernel_rfl) ⟨(row_isL (xs := xpoEncX a) (ks := [0, 1, 2, 3, 4, 5, 6]) (vs := [a.rot.w, a.rot.x, a.rot.y, a.rot.z, a.pos.x, a.pos.y, a.pos.z]) ⟨rfl, rfl, rfl, rfl, rfl, rfl, rfl, trivial⟩).2 ia, trivial⟩).mono ?_
  rintro e w' ⟨v, rfl, h1, h2⟩
  obtain ⟨sv, q1, q2⟩ := h1
  have q3 : some (Vp.val (.string (joinB [a.rot.w.fmt, a.rot.x.fmt, a.rot.y.fmt, a.rot.z.fmt, a.pos.x.fmt, a.pos.y.fmt, a.pos.z.fmt]))) = some sv := q1
  injection q3 with q3
  subst q3
  have q4 : v = .string (joinB [a.rot.w.fmt, a.rot.x.fmt, a.rot.y.fmt, a.rot.z.fmt, a.pos.x.fmt, a.pos.y.fmt, a.pos.z.fmt]) := q2.1.1
  exact ⟨by rw [q4]; rfl, h2⟩
theorem cat7 (a b c d e f g : ByteArray) : ((((((((((((a ++ ByteArray.mk #[32]) ++ b) ++ ByteArray.mk #[32]) ++ c) ++ ByteArray.mk #[32]) ++ d) ++ ByteArray.mk #[32]) ++ e) ++ ByteArray.mk #[32]) ++ f) ++ ByteArray.mk #[32]) ++ g) = joinB [a, b, c, d, e, f, g] := by
  apply ByteArray.ext
  apply Array.toList_inj.1
  simp [joinB, Lib.join, List.intercalate, List.intersperse]
def xrpEncX (a : Pq) : List Fq := [a.rot.w, a.rot.x, a.rot.y, a.rot.z, a.pos.x, a.pos.y, a.pos.z]
theorem q_rpEnc (va : Value) (a : Pq) (w : World) (ia : IsOq w va a) (ha : a.ok 1000) : Calls Tryz.prog 16 #[va] w fun e w' => RetV w (.string a.text) e w' := by
  have z0 := qfmt_size (show (a.rot.w).ok 1000 from ha.rot.w)
  have z1 := qfmt_size (show (a.rot.x).ok 1000 from ha.rot.x)
  have z2 := qfmt_size (show (a.rot.y).ok 1000 from ha.rot.y)
  have z3 := qfmt_size (show (a.rot.z).ok 1000 from ha.rot.z)
  have z4 := qfmt_size (show (a.pos.x).ok 1000 from ha.pos.x)
  have z5 := qfmt_size (show (a.pos.y).ok 1000 from ha.pos.y)
  have z6 := qfmt_size (show (a.pos.z).ok 1000 from ha.pos.z)
  refine (calls_runFn (ρ := frs (xrpEncX a) ++ [.val (.string a.rot.w.fmt), .val (.string (a.rot.w.fmt ++ (ByteArray.mk #[32]))), .val (.string a.rot.x.fmt), .val (.string ((a.rot.w.fmt ++ (ByteArray.mk #[32])) ++ a.rot.x.fmt)), .val (.string (((a.rot.w.fmt ++ (ByteArray.mk #[32])) ++ a.rot.x.fmt) ++ (ByteArray.mk #[32]))), .val (.string a.rot.y.fmt), .val (.string ((((a.rot.w.fmt ++ (ByteArray.mk #[32])) ++ a.rot.x.fmt) ++ (ByteArray.mk #[32])) ++ a.rot.y.fmt)), .val (.string (((((a.rot.w.fmt ++ (ByteArray.mk #[32])) ++ a.rot.x.fmt) ++ (ByteArray.mk #[32])) ++ a.rot.y.fmt) ++ (ByteArray.mk #[32]))), .val (.string a.rot.z.fmt), .val (.string ((((((a.rot.w.fmt ++ (ByteArray.mk #[32])) ++ a.rot.x.fmt) ++ (ByteArray.mk #[32])) ++ a.rot.y.fmt) ++ (ByteArray.mk #[32])) ++ a.rot.z.fmt)), .val (.string (((((((a.rot.w.fmt ++ (ByteArray.mk #[32])) ++ a.rot.x.fmt) ++ (ByteArray.mk #[32])) ++ a.rot.y.fmt) ++ (ByteArray.mk #[32])) ++ a.rot.z.fmt) ++ (ByteArray.mk #[32]))), .val (.string a.pos.x.fmt), .val (.string ((((((((a.rot.w.fmt ++ (ByteArray.mk #[32])) ++ a.rot.x.fmt) ++ (ByteArray.mk #[32])) ++ a.rot.y.fmt) ++ (ByteArray.mk #[32])) ++ a.rot.z.fmt) ++ (ByteArray.mk #[32])) ++ a.pos.x.fmt)), .val (.string (((((((((a.rot.w.fmt ++ (ByteArray.mk #[32])) ++ a.rot.x.fmt) ++ (ByteArray.mk #[32])) ++ a.rot.y.fmt) ++ (ByteArray.mk #[32])) ++ a.rot.z.fmt) ++ (ByteArray.mk #[32])) ++ a.pos.x.fmt) ++ (ByteArray.mk #[32]))), .val (.string a.pos.y.fmt), .val (.string ((((((((((a.rot.w.fmt ++ (ByteArray.mk #[32])) ++ a.rot.x.fmt) ++ (ByteArray.mk #[32])) ++ a.rot.y.fmt) ++ (ByteArray.mk #[32])) ++ a.rot.z.fmt) ++ (ByteArray.mk #[32])) ++ a.pos.x.fmt) ++ (ByteArray.mk #[32])) ++ a.pos.y.fmt)), .val (.string (((((((((((a.rot.w.fmt ++ (ByteArray.mk #[32])) ++ a.rot.x.fmt) ++ (ByteArray.mk #[32])) ++ a.rot.y.fmt) ++ (ByteArray.mk #[32])) ++ a.rot.z.fmt) ++ (ByteArray.mk #[32])) ++ a.pos.x.fmt) ++ (ByteArray.mk #[32])) ++ a.pos.y.fmt) ++ (ByteArray.mk #[32]))), .val (.string a.pos.z.fmt), .val (.string ((((((((((((a.rot.w.fmt ++ (ByteArray.mk #[32])) ++ a.rot.x.fmt) ++ (ByteArray.mk #[32])) ++ a.rot.y.fmt) ++ (ByteArray.mk #[32])) ++ a.rot.z.fmt) ++ (ByteArray.mk #[32])) ++ a.pos.x.fmt) ++ (ByteArray.mk #[32])) ++ a.pos.y.fmt) ++ (ByteArray.mk #[32])) ++ a.pos.z.fmt))]) (w := w) (fuel := 300) (args := [row [0, 1, 2, 3, 4, 5, 6]]) (vs := [va]) (r := .v (.one (.ref 39)))
    (il_cons (I_rFormat (i := 0) rfl (ls (n := 21) rfl) (ha.rot.w.mono (by decide))) (il_cons (I_rFormat (i := 1) rfl (ls (n := 23) rfl) (ha.rot.x.mono (by decide))) (il_cons (I_rFormat (i := 2) rfl (ls (n := 26) rfl) (ha.rot.y.mono (by decide))) (il_cons (I_rFormat (i := 3) rfl (ls (n := 29) rfl) (ha.rot.z.mono (by decide))) (il_cons (I_rFormat (i := 4) rfl (ls (n := 32) rfl) (ha.pos.x.mono (by decide))) (il_cons (I_rFormat (i := 5) rfl (ls (n := 35) rfl) (ha.pos.y.mono (by decide))) (il_cons (I_rFormat (i := 6) rfl (ls (n := 38) rfl) (ha.pos.z.mono (by decide))) il_nil)))))))
    (ol_cons (o_catRL (n := 21) (m := 22) (s := a.rot.w.fmt) (z := (ByteArray.mk #[32])) (t := 9) (by kernel_rfl) rfl rfl (by simp only [ByteArray.size_append, bsz, List.size_toArray, List.length_cons, List.length_nil]; omega)) (ol_cons (o_catRR (n := 22) (m := 24) (k := 23) (s := (a.rot.w.fmt ++ (ByteArray.mk #[32]))) (z := a.rot.x.fmt) (t := 9) (by kernel_rfl) rfl rfl rfl (by simp only [ByteArray.size_append, bsz, List.size_toArray, List.length_cons, List.length_nil]; omega)) (ol_cons (o_catRL (n := 24) (m := 25) (s := ((a.rot.w.fmt ++ (ByteArray.mk #[32])) ++ a.rot.x.fmt)) (z := (ByteArray.mk #[32])) (t := 9) (by kernel_rfl) rfl rfl (by simp only [ByteArray.size_append, bsz, List.size_toArray, List.length_cons, List.length_nil]; omega)) (ol_cons (o_catRR (n := 25) (m := 27) (k := 26) (s := (((a.rot.w.fmt ++ (ByteArray.mk #[32])) ++ a.rot.x.fmt) ++ (ByteArray.mk #[32]))) (z := a.rot.y.fmt) (t := 9) (by kernel_rfl) rfl rfl rfl (by simp only [ByteArray.size_append, bsz, List.size_toArray, List.length_cons, List.length_nil]; omega)) (ol_cons (o_catRL (n := 27) (m := 28) (s := ((((a.rot.w.fmt ++ (ByteArray.mk #[32])) ++ a.rot.x.fmt) ++ (ByteArray.mk #[32])) ++ a.rot.y.fmt)) (z := (ByteArray.mk #[32])) (t := 9) (by kernel_rfl) rfl rfl (by simp only [ByteArray.size_append, bsz, List.size_toArray, List.length_cons, List.length_nil]; omega)) (ol_cons (o_catRR (n := 28) (m := 30) (k := 29) (s := (((((a.rot.w.fmt ++ (ByteArray.mk #[32])) ++ a.rot.x.fmt) ++ (ByteArray.mk #[32])) ++ a.rot.y.fmt) ++ (ByteArray.mk #[32]))) (z := a.rot.z.fmt) (t := 9) (by kernel_rfl) rfl rfl rfl (by simp only [ByteArray.size_append, bsz, List.size_toArray, List.length_cons, List.length_nil]; omega)) (ol_cons (o_catRL (n := 30) (m := 31) (s := ((((((a.rot.w.fmt ++ (ByteArray.mk #[32])) ++ a.rot.x.fmt) ++ (ByteArray.mk #[32])) ++ a.rot.y.fmt) ++ (ByteArray.mk #[32])) ++ a.rot.z.fmt)) (z := (ByteArray.mk #[32])) (t := 9) (by kernel_rfl) rfl rfl (by simp only [ByteArray.size_append, bsz, List.size_toArray, List.length_cons, List.length_nil]; omega)) (ol_cons (o_catRR (n := 31) (m := 33) (k := 32) (s := (((((((a.rot.w.fmt ++ (ByteArray.mk #[32])) ++ a.rot.x.fmt) ++ (ByteArray.mk #[32])) ++ a.rot.y.fmt) ++ (ByteArray.mk #[32])) ++ a.rot.z.fmt) ++ (ByteArray.mk #[32]))) (z := a.pos.x.fmt) (t := 9) (by kernel_rfl) rfl rfl rfl (by simp only [ByteArray.size_append, bsz, List.size_toArray, List.length_cons, List.length_nil]; omega)) (ol_cons (o_catRL (n := 33) (m := 34) (s := ((((((((a.rot.w.fmt ++ (ByteArray.mk #[32])) ++ a.rot.x.fmt) ++ (ByteArray.mk #[32])) ++ a.rot.y.fmt) ++ (ByteArray.mk #[32])) ++ a.rot.z.fmt) ++ (ByteArray.mk #[32])) ++ a.pos.x.fmt)) (z := (ByteArray.mk #[32])) (t := 9) (by kernel_rfl) rfl rfl (by simp only [ByteArray.size_append, bsz, List.size_toArray, List.length_cons, List.length_nil]; omega)) (ol_cons (o_catRR (n := 34) (m := 36) (k := 35) (s := (((((((((a.rot.w.fmt ++ (ByteArray.mk #[32])) ++ a.rot.x.fmt) ++ (ByteArray.mk #[32])) ++ a.rot.y.fmt) ++ (ByteArray.mk #[32])) ++ a.rot.z.fmt) ++ (ByteArray.mk #[32])) ++ a.pos.x.fmt) ++ (ByteArray.mk #[32]))) (z := a.pos.y.fmt) (t := 9) (by kernel_rfl) rfl rfl rfl (by simp only [ByteArray.size_append, bsz, List.size_toArray, List.length_cons, List.length_nil]; omega)) (ol_cons (o_catRL (n := 36) (m := 37) (s := ((((((((((a.rot.w.fmt ++ (ByteArray.mk #[32])) ++ a.rot.x.fmt) ++ (ByteArray.mk #[32])) ++ a.rot.y.fmt) ++ (ByteArray.mk #[32])) ++ a.rot.z.fmt) ++ (ByteArray.mk #[32])) ++ a.pos.x.fmt) ++ (ByteArray.mk #[32])) ++ a.pos.y.fmt)) (z := (ByteArray.mk #[32])) (t := 9) (by kernel_rfl) rfl rfl (by simp only [ByteArray.size_append, bsz, List.size_toArray, List.length_cons, List.length_nil]; omega)) (ol_cons (o_catRR (n := 37) (m := 39) (k := 38) (s := (((((((((((a.rot.w.fmt ++ (ByteArray.mk #[32])) ++ a.rot.x.fmt) ++ (ByteArray.mk #[32])) ++ a.rot.y.fmt) ++ (ByteArray.mk #[32])) ++ a.rot.z.fmt) ++ (ByteArray.mk #[32])) ++ a.pos.x.fmt) ++ (ByteArray.mk #[32])) ++ a.pos.y.fmt) ++ (ByteArray.mk #[32]))) (z := a.pos.z.fmt) (t := 9) (by kernel_rfl) rfl rfl rfl (by simp only [ByteArray.size_append, bsz, List.size_toArray, List.length_cons, List.length_nil]; omega)) (ol_nil))))))))))))) (by kernel_rfl) Tryz.func16 (by kernel_rfl) ⟨(row_isL (xs := xrpEncX a) (ks := [0, 1, 2, 3, 4, 5, 6]) (vs := [a.rot.w, a.rot.x, a.rot.y, a.rot.z, a.pos.x, a.pos.y, a.pos.z]) ⟨rfl, rfl, rfl, rfl, rfl, rfl, rfl, trivial⟩).2 ia, trivial⟩).mono ?_
  rintro e w' ⟨v, rfl, h1, h2⟩
  obtain ⟨sv, q1, q2⟩ := h1
  have q3 : some (Vp.val (.string ((((((((((((a.rot.w.fmt ++ (ByteArray.mk #[32])) ++ a.rot.x.fmt) ++ (ByteArray.mk #[32])) ++ a.rot.y.fmt) ++ (ByteArray.mk #[32])) ++ a.rot.z.fmt) ++ (ByteArray.mk #[32])) ++ a.pos.x.fmt) ++ (ByteArray.mk #[32])) ++ a.pos.y.fmt) ++ (ByteArray.mk #[32])) ++ a.pos.z.fmt))) = some sv := q1
  injection q3 with q3
  subst q3
  have q4 : v = .string ((((((((((((a.rot.w.fmt ++ (ByteArray.mk #[32])) ++ a.rot.x.fmt) ++ (ByteArray.mk #[32])) ++ a.rot.y.fmt) ++ (ByteArray.mk #[32])) ++ a.rot.z.fmt) ++ (ByteArray.mk #[32])) ++ a.pos.x.fmt) ++ (ByteArray.mk #[32])) ++ a.pos.y.fmt) ++ (ByteArray.mk #[32])) ++ a.pos.z.fmt) := q2.1.1
  exact ⟨by rw [q4]; rw [cat7]; rfl, h2⟩
theorem I_poEnc {xs : List Fq} {ys : Rho} {ks : List Nat} {a : Pq} {l : Leaf} (ar : AtL xs ks [a.rot.w, a.rot.x, a.rot.y, a.rot.z, a.pos.x, a.pos.y, a.pos.z]) (hl : ∀ B w, l.holds (frs xs ++ ys) B w (.string a.text)) (ha : a.ok 1000) : OkI xs ys ⟨14, [row ks], .v (.one l)⟩ :=
  ⟨enters Tryz.func14 rfl rfl, fun B w vs hB h => by
    match vs, h with
    | [x], h =>
      refine (q_poEnc x a w ((row_isL ar).1 h.1) ha).mono ?_
      rintro e w' ⟨rfl, h2⟩
      exact ⟨_, rfl, hl B w', h2⟩⟩
theorem I_rpEnc {xs : List Fq} {ys : Rho} {ks : List Nat} {a : Pq} {l : Leaf} (ar : AtL xs ks [a.rot.w, a.rot.x, a.rot.y, a.rot.z, a.pos.x, a.pos.y, a.pos.z]) (hl : ∀ B w, l.holds (frs xs ++ ys) B w (.string a.text)) (ha : a.ok 1000) : OkI xs ys ⟨16, [row ks], .v (.one l)⟩ :=
  ⟨enters Tryz.func16 rfl rfl, fun B w vs hB h => by
    match vs, h with
    | [x], h =>
      refine (q_rpEnc x a w ((row_isL ar).1 h.1) ha).mono ?_
      rintro e w' ⟨rfl, h2⟩
      exact ⟨_, rfl, hl B w', h2⟩⟩
end Go.Proofs.YthebfmlfgfmlnaaGreatDoor
namespace Go.Proofs.YthebfmlfgfmlnaaGreatDoor
set_option linter.unusedSimpArgs false
set_option linter.unusedVariables false
set_option maxRecDepth 100000
open Go.RowKit
/-- The parts of a text between the spaces. -/
def parts (s : ByteArray) : List ByteArray := Lib.splitB (b1 32) 0 (Lib.countB s (b1 32)) s
def xpDFX (s : ByteArray) (ws : List ByteArray) : List Fq := []
theorem q_pDF (s : ByteArray) (ws : List ByteArray) (w : World) (hw : Lib.splitB (b1 32) 0 (Lib.countB s (b1 32)) s = ws) (hn : ws.length ≠ 7) (hs : s.size ≤ 4294967280) : Calls Tryz.prog 15 #[.string s] w fun e w' => RetOqE w .zero 2 e w' := by
  refine (calls_runFn (ρ := frs (xpDFX s ws) ++ [.val (.string s), .strs ws, .val (.int .i64 ((ws.length : Nat) : Int))]) (w := w) (fuel := 300) (args := [.one (.ref 0)]) (vs := [.string s]) (r := .tup [.agg [.b false, .sl0, .sl0, .b false, .sl0, .sl0, .b false, .sl0, .sl0, .b false, .sl0, .sl0, .b false, .sl0, .sl0, .b false, .sl0, .sl0, .b false, .sl0, .sl0], .one (.i .i64 2)])
    (il_cons (I_Split (n := 0) (m := 1) (s := s) (ss := ws) rfl rfl hw (by omega)) il_nil)
    (ol_cons (o_lenR (n := 1) (t := 64) ⟨_, Tryz.underlying64⟩ rfl (lr (n := 2) rfl)) (ol_cons (o_neqK (n := 2) (c := 7) (u := ((ws.length : Nat) : Int)) (b := true) (t := 3) rfl (bneq_t (by omega))) (ol_nil))) (by kernel_rfl) Tryz.func15 (by kernel_rfl) ⟨ls (n := 0) rfl (fun _ => none) w, trivial⟩).mono ?_
  rintro e w' ⟨v, rfl, ⟨vs, rfl, h1⟩, h2⟩
  match vs, h1 with
  | [r, cv], h1 =>
    obtain ⟨⟨cs, rfl, k1⟩, k2, _⟩ := h1
    have k2 : cv = _ := k2
    subst k2
    exact ⟨_, rfl, ⟨_, rfl, zero_row (n := 7) k1⟩, h2⟩
def xpD0X (s w0 w1 w2 w3 w4 w5 w6 : ByteArray) (x0 : Fq) (c : Int) : List Fq := [x0]
theorem q_pD0 (s w0 w1 w2 w3 w4 w5 w6 : ByteArray) (x0 : Fq) (c : Int) (w : World) (hw : Lib.splitB (b1 32) 0 (Lib.countB s (b1 32)) s = [w0, w1, w2, w3, w4, w5, w6]) (h0 : FP w0 x0 c) (hc : c ≠ 0) (z0 : w0.size ≤ 4294967280) (hs : s.size ≤ 4294967280) : Calls Tryz.prog 15 #[.string s] w fun e w' => RetOqE w .zero c e w' := by
  refine (calls_runFn (ρ := frs (xpD0X s w0 w1 w2 w3 w4 w5 w6 x0 c) ++ [.val (.string s), .row 9 7 [.val (.string w0), .val (.string w1), .val (.string w2), .val (.string w3), .val (.string w4), .val (.string w5), .val (.string w6)], .plc 9 [.val (.string w0)], .val (.string w0), .val (.int .i64 c)]) (w := w) (fuel := 300) (args := [.one (.ref 3)]) (vs := [.string s]) (r := .tup [.agg [.b false, .sl0, .sl0, .b false, .sl0, .sl0, .b false, .sl0, .sl0, .b false, .sl0, .sl0, .b false, .sl0, .sl0, .b false, .sl0, .sl0, .b false, .sl0, .sl0], .one (.ref 7)])
    (il_cons (I_Split (n := 3) (m := 4) (s := s) (ss := [w0, w1, w2, w3, w4, w5, w6]) rfl rfl hw (by omega)) (il_cons (I_fParse (n := 6) (k := 0) (s := w0) rfl rfl (lr (n := 7) rfl) h0 z0) il_nil))
    (ol_cons (o_lenR (n := 4) (t := 64) ⟨_, Tryz.underlying64⟩ rfl (li rfl)) (ol_cons (o_iaL (k := 0) (l := .i .i64 0) (sz := 1) (qs' := [.val (.string w0)]) (n := 4) (m := 5) Tryz.underlying64 (by kernel_rfl) rfl rfl (fun _ _ _ h => h) (by decide) (by simp) (fun j q hq => by match j, hq with | 0, hq => simp at hq; subst hq; rfl | j + 1, hq => simp at hq)) (ol_cons (o_ldP (n := 5) (l := .ref 6) (t := 9) (by kernel_rfl) rfl (lq rfl)) (ol_cons (o_neqK (n := 7) (c := 0) (u := c) (b := true) (t := 39) rfl (bneq_t hc)) (ol_nil))))) (by kernel_rfl) Tryz.func15 (by kernel_rfl) ⟨ls (n := 3) rfl (fun _ => none) w, trivial⟩).mono ?_
  rintro e w' ⟨v, rfl, ⟨vs, rfl, h1⟩, h2⟩
  match vs, h1 with
  | [r, cv], h1 =>
    obtain ⟨⟨cs, rfl, k1⟩, k2, _⟩ := h1
    obtain ⟨sv, q1, q2⟩ := k2
    have q3 : some (Vp.val (.int .i64 c)) = some sv := q1
    injection q3 with q3
    subst q3
    have k2 : cv = .int .i64 c := q2.1.1
    subst k2
    exact ⟨_, rfl, ⟨_, rfl, zero_row (n := 7) k1⟩, h2⟩
def xpD1X (s w0 w1 w2 w3 w4 w5 w6 : ByteArray) (x0 x1 : Fq) (c : Int) : List Fq := [x0, x1]
theorem q_pD1 (s w0 w1 w2 w3 w4 w5 w6 : ByteArray) (x0 x1 : Fq) (c : Int) (w : World) (hw : Lib.splitB (b1 32) 0 (Lib.countB s (b1 32)) s = [w0, w1, w2, w3, w4, w5, w6]) (h0 : FP w0 x0 0) (h1 : FP w1 x1 c) (hc : c ≠ 0) (z0 : w0.size ≤ 4294967280) (z1 : w1.size ≤ 4294967280) (hs : s.size ≤ 4294967280) : Calls Tryz.prog 15 #[.string s] w fun e w' => RetOqE w .zero c e w' := by
  refine (calls_runFn (ρ := frs (xpD1X s w0 w1 w2 w3 w4 w5 w6 x0 x1 c) ++ [.val (.string s), .row 9 7 [.val (.string w0), .val (.string w1), .val (.string w2), .val (.string w3), .val (.string w4), .val (.string w5), .val (.string w6)], .plc 9 [.val (.string w0)], .val (.string w0), .plc 9 [.val (.string w1)], .val (.string w1), .val (.int .i64 c)]) (w := w) (fuel := 300) (args := [.one (.ref 6)]) (vs := [.string s]) (r := .tup [.agg [.b false, .sl0, .sl0, .b false, .sl0, .sl0, .b false, .sl0, .sl0, .b false, .sl0, .sl0, .b false, .sl0, .sl0, .b false, .sl0, .sl0, .b false, .sl0, .sl0], .one (.ref 12)])
    (il_cons (I_Split (n := 6) (m := 7) (s := s) (ss := [w0, w1, w2, w3, w4, w5, w6]) rfl rfl hw (by omega)) (il_cons (I_fParse (n := 9) (k := 0) (s := w0) rfl rfl (li rfl) h0 z0) (il_cons (I_fParse (n := 11) (k := 1) (s := w1) rfl rfl (lr (n := 12) rfl) h1 z1) il_nil)))
    (ol_cons (o_lenR (n := 7) (t := 64) ⟨_, Tryz.underlying64⟩ rfl (li rfl)) (ol_cons (o_iaL (k := 0) (l := .i .i64 0) (sz := 1) (qs' := [.val (.string w0)]) (n := 7) (m := 8) Tryz.underlying64 (by kernel_rfl) rfl rfl (fun _ _ _ h => h) (by decide) (by simp) (fun j q hq => by match j, hq with | 0, hq => simp at hq; subst hq; rfl | j + 1, hq => simp at hq)) (ol_cons (o_ldP (n := 8) (l := .ref 9) (t := 9) (by kernel_rfl) rfl (lq rfl)) (ol_cons (o_iaL (k := 1) (l := .i .i64 1) (sz := 1) (qs' := [.val (.string w1)]) (n := 7) (m := 10) Tryz.underlying64 (by kernel_rfl) rfl rfl (fun _ _ _ h => h) (by decide) (by simp) (fun j q hq => by match j, hq with | 0, hq => simp at hq; subst hq; rfl | j + 1, hq => simp at hq)) (ol_cons (o_ldP (n := 10) (l := .ref 11) (t := 9) (by kernel_rfl) rfl (lq rfl)) (ol_cons (o_neqK (n := 12) (c := 0) (u := c) (b := true) (t := 39) rfl (bneq_t hc)) (ol_nil))))))) (by kernel_rfl) Tryz.func15 (by kernel_rfl) ⟨ls (n := 6) rfl (fun _ => none) w, trivial⟩).mono ?_
  rintro e w' ⟨v, rfl, ⟨vs, rfl, h1⟩, h2⟩
  match vs, h1 with
  | [r, cv], h1 =>
    obtain ⟨⟨cs, rfl, k1⟩, k2, _⟩ := h1
    obtain ⟨sv, q1, q2⟩ := k2
    have q3 : some (Vp.val (.int .i64 c)) = some sv := q1
    injection q3 with q3
    subst q3
    have k2 : cv = .int .i64 c := q2.1.1
    subst k2
    exact ⟨_, rfl, ⟨_, rfl, zero_row (n := 7) k1⟩, h2⟩
def xpD2X (s w0 w1 w2 w3 w4 w5 w6 : ByteArray) (x0 x1 x2 : Fq) (c : Int) : List Fq := [x0, x1, x2]
theorem q_pD2 (s w0 w1 w2 w3 w4 w5 w6 : ByteArray) (x0 x1 x2 : Fq) (c : Int) (w : World) (hw : Lib.splitB (b1 32) 0 (Lib.countB s (b1 32)) s = [w0, w1, w2, w3, w4, w5, w6]) (h0 : FP w0 x0 0) (h1 : FP w1 x1 0) (h2 : FP w2 x2 c) (hc : c ≠ 0) (z0 : w0.size ≤ 4294967280) (z1 : w1.size ≤ 4294967280) (z2 : w2.size ≤ 4294967280) (hs : s.size ≤ 4294967280) : Calls Tryz.prog 15 #[.string s] w fun e w' => RetOqE w .zero c e w' := by
  refine (calls_runFn (ρ := frs (xpD2X s w0 w1 w2 w3 w4 w5 w6 x0 x1 x2 c) ++ [.val (.string s), .row 9 7 [.val (.string w0), .val (.string w1), .val (.string w2), .val (.string w3), .val (.string w4), .val (.string w5), .val (.string w6)], .plc 9 [.val (.string w0)], .val (.string w0), .plc 9 [.val (.string w1)], .val (.string w1), .plc 9 [.val (.string w2)], .val (.string w2), .val (.int .i64 c)]) (w := w) (fuel := 300) (args := [.one (.ref 9)]) (vs := [.string s]) (r := .tup [.agg [.b false, .sl0, .sl0, .b false, .sl0, .sl0, .b false, .sl0, .sl0, .b false, .sl0, .sl0, .b false, .sl0, .sl0, .b false, .sl0, .sl0, .b false, .sl0, .sl0], .one (.ref 17)])
    (il_cons (I_Split (n := 9) (m := 10) (s := s) (ss := [w0, w1, w2, w3, w4, w5, w6]) rfl rfl hw (by omega)) (il_cons (I_fParse (n := 12) (k := 0) (s := w0) rfl rfl (li rfl) h0 z0) (il_cons (I_fParse (n := 14) (k := 1) (s := w1) rfl rfl (li rfl) h1 z1) (il_cons (I_fParse (n := 16) (k := 2) (s := w2) rfl rfl (lr (n := 17) rfl) h2 z2) il_nil))))
    (ol_cons (o_lenR (n := 10) (t := 64) ⟨_, Tryz.underlying64⟩ rfl (li rfl)) (ol_cons (o_iaL (k := 0) (l := .i .i64 0) (sz := 1) (qs' := [.val (.string w0)]) (n := 10) (m := 11) Tryz.underlying64 (by kernel_rfl) rfl rfl (fun _ _ _ h => h) (by decide) (by simp) (fun j q hq => by match j, hq with | 0, hq => simp at hq; subst hq; rfl | j + 1, hq => simp at hq)) (ol_cons (o_ldP (n := 11) (l := .ref 12) (t := 9) (by kernel_rfl) rfl (lq rfl)) (ol_cons (o_iaL (k := 1) (l := .i .i64 1) (sz := 1) (qs' := [.val (.string w1)]) (n := 10) (m := 13) Tryz.underlying64 (by kernel_rfl) rfl rfl (fun _ _ _ h => h) (by decide) (by simp) (fun j q hq => by match j, hq with | 0, hq => simp at hq; subst hq; rfl | j + 1, hq => simp at hq)) (ol_cons (o_ldP (n := 13) (l := .ref 14) (t := 9) (by kernel_rfl) rfl (lq rfl)) (ol_cons (o_iaL (k := 2) (l := .i .i64 2) (sz := 1) (qs' := [.val (.string w2)]) (n := 10) (m := 15) Tryz.underlying64 (by kernel_rfl) rfl rfl (fun _ _ _ h => h) (by decide) (by simp) (fun j q hq => by match j, hq with | 0, hq => simp at hq; subst hq; rfl | j + 1, hq => simp at hq)) (ol_cons (o_ldP (n := 15) (l := .ref 16) (t := 9) (by kernel_rfl) rfl (lq rfl)) (ol_cons (o_neqK (n := 17) (c := 0) (u := c) (b := true) (t := 39) rfl (bneq_t hc)) (ol_nil))))))))) (by kernel_rfl) Tryz.func15 (by kernel_rfl) ⟨ls (n := 9) rfl (fun _ => none) w, trivial⟩).mono ?_
  rintro e w' ⟨v, rfl, ⟨vs, rfl, h1⟩, h2⟩
  match vs, h1 with
  | [r, cv], h1 =>
    obtain ⟨⟨cs, rfl, k1⟩, k2, _⟩ := h1
    obtain ⟨sv, q1, q2⟩ := k2
    have q3 : some (Vp.val (.int .i64 c)) = some sv := q1
    injection q3 with q3
    subst q3
    have k2 : cv = .int .i64 c := q2.1.1
    subst k2
    exact ⟨_, rfl, ⟨_, rfl, zero_row (n := 7) k1⟩, h2⟩
def xpD3X (s w0 w1 w2 w3 w4 w5 w6 : ByteArray) (x0 x1 x2 x3 : Fq) (c : Int) : List Fq := [x0, x1, x2, x3]
theorem q_pD3 (s w0 w1 w2 w3 w4 w5 w6 : ByteArray) (x0 x1 x2 x3 : Fq) (c : Int) (w : World) (hw : Lib.splitB (b1 32) 0 (Lib.countB s (b1 32)) s = [w0, w1, w2, w3, w4, w5, w6]) (h0 : FP w0 x0 0) (h1 : FP w1 x1 0) (h2 : FP w2 x2 0) (h3 : FP w3 x3 c) (hc : c ≠ 0) (z0 : w0.size ≤ 4294967280) (z1 : w1.size ≤ 4294967280) (z2 : w2.size ≤ 4294967280) (z3 : w3.size ≤ 4294967280) (hs : s.size ≤ 4294967280) : Calls Tryz.prog 15 #[.string s] w fun e w' => RetOqE w .zero c e w' := by
  refine (calls_runFn (ρ := frs (xpD3X s w0 w1 w2 w3 w4 w5 w6 x0 x1 x2 x3 c) ++ [.val (.string s), .row 9 7 [.val (.string w0), .val (.string w1), .val (.string w2), .val (.string w3), .val (.string w4), .val (.string w5), .val (.string w6)], .plc 9 [.val (.string w0)], .val (.string w0), .plc 9 [.val (.string w1)], .val (.string w1), .plc 9 [.val (.string w2)], .val (.string w2), .plc 9 [.val (.string w3)], .val (.string w3), .val (.int .i64 c)]) (w := w) (fuel := 300) (args := [.one (.ref 12)]) (vs := [.string s]) (r := .tup [.agg [.b false, .sl0, .sl0, .b false, .sl0, .sl0, .b false, .sl0, .sl0, .b false, .sl0, .sl0, .b false, .sl0, .sl0, .b false, .sl0, .sl0, .b false, .sl0, .sl0], .one (.ref 22)])
    (il_cons (I_Split (n := 12) (m := 13) (s := s) (ss := [w0, w1, w2, w3, w4, w5, w6]) rfl rfl hw (by omega)) (il_cons (I_fParse (n := 15) (k := 0) (s := w0) rfl rfl (li rfl) h0 z0) (il_cons (I_fParse (n := 17) (k := 1) (s := w1) rfl rfl (li rfl) h1 z1) (il_cons (I_fParse (n := 19) (k := 2) (s := w2) rfl rfl (li rfl) h2 z2) (il_cons (I_fParse (n := 21) (k := 3) (s := w3) rfl rfl (lr (n := 22) rfl) h3 z3) il_nil)))))
    (ol_cons (o_lenR (n := 13) (t := 64) ⟨_, Tryz.underlying64⟩ rfl (li rfl)) (ol_cons (o_iaL (k := 0) (l := .i .i64 0) (sz := 1) (qs' := [.val (.string w0)]) (n := 13) (m := 14) Tryz.underlying64 (by kernel_rfl) rfl rfl (fun _ _ _ h => h) (by decide) (by simp) (fun j q hq => by match j, hq with | 0, hq => simp at hq; subst hq; rfl | j + 1, hq => simp at hq)) (ol_cons (o_ldP (n := 14) (l := .ref 15) (t := 9) (by kernel_rfl) rfl (lq rfl)) (ol_cons (o_iaL (k := 1) (l := .i .i64 1) (sz := 1) (qs' := [.val (.string w1)]) (n := 13) (m := 16) Tryz.underlying64 (by kernel_rfl) rfl rfl (fun _ _ _ h => h) (by decide) (by simp) (fun j q hq => by match j, hq with | 0, hq => simp at hq; subst hq; rfl | j + 1, hq => simp at hq)) (ol_cons (o_ldP (n := 16) (l := .ref 17) (t := 9) (by kernel_rfl) rfl (lq rfl)) (ol_cons (o_iaL (k := 2) (l := .i .i64 2) (sz := 1) (qs' := [.val (.string w2)]) (n := 13) (m := 18) Tryz.underlying64 (by kernel_rfl) rfl rfl (fun _ _ _ h => h) (by decide) (by simp) (fun j q hq => by match j, hq with | 0, hq => simp at hq; subst hq; rfl | j + 1, hq => simp at hq)) (ol_cons (o_ldP (n := 18) (l := .ref 19) (t := 9) (by kernel_rfl) rfl (lq rfl)) (ol_cons (o_iaL (k := 3) (l := .i .i64 3) (sz := 1) (qs' := [.val (.string w3)]) (n := 13) (m := 20) Tryz.underlying64 (by kernel_rfl) rfl rfl (fun _ _ _ h => h) (by decide) (by simp) (fun j q hq => by match j, hq with | 0, hq => simp at hq; subst hq; rfl | j + 1, hq => simp at hq)) (ol_cons (o_ldP (n := 20) (l := .ref 21) (t := 9) (by kernel_rfl) rfl (lq rfl)) (ol_cons (o_neqK (n := 22) (c := 0) (u := c) (b := true) (t := 39) rfl (bneq_t hc)) (ol_nil))))))))))) (by kernel_rfl) Tryz.func15 (by kernel_rfl) ⟨ls (n := 12) rfl (fun _ => none) w, trivial⟩).mono ?_
  rintro e w' ⟨v, rfl, ⟨vs, rfl, h1⟩, h2⟩
  match vs, h1 with
  | [r, cv], h1 =>
    obtain ⟨⟨cs, rfl, k1⟩, k2, _⟩ := h1
    obtain ⟨sv, q1, q2⟩ := k2
    have q3 : some (Vp.val (.int .i64 c)) = some sv := q1
    injection q3 with q3
    subst q3
    have k2 : cv = .int .i64 c := q2.1.1
    subst k2
    exact ⟨_, rfl, ⟨_, rfl, zero_row (n := 7) k1⟩, h2⟩
def xpD4X (s w0 w1 w2 w3 w4 w5 w6 : ByteArray) (x0 x1 x2 x3 x4 : Fq) (c : Int) : List Fq := [x0, x1, x2, x3, x4]
theorem q_pD4 (s w0 w1 w2 w3 w4 w5 w6 : ByteArray) (x0 x1 x2 x3 x4 : Fq) (c : Int) (w : World) (hw : Lib.splitB (b1 32) 0 (Lib.countB s (b1 32)) s = [w0, w1, w2, w3, w4, w5, w6]) (h0 : FP w0 x0 0) (h1 : FP w1 x1 0) (h2 : FP w2 x2 0) (h3 : FP w3 x3 0) (h4 : FP w4 x4 c) (hc : c ≠ 0) (z0 : w0.size ≤ 4294967280) (z1 : w1.size ≤ 4294967280) (z2 : w2.size ≤ 4294967280) (z3 : w3.size ≤ 4294967280) (z4 : w4.size ≤ 4294967280) (hs : s.size ≤ 4294967280) : Calls Tryz.prog 15 #[.string s] w fun e w' => RetOqE w .zero c e w' := by
  refine (calls_runFn (ρ := frs (xpD4X s w0 w1 w2 w3 w4 w5 w6 x0 x1 x2 x3 x4 c) ++ [.val (.string s), .row 9 7 [.val (.string w0), .val (.string w1), .val (.string w2), .val (.string w3), .val (.string w4), .val (.string w5), .val (.string w6)], .plc 9 [.val (.string w0)], .val (.string w0), .plc 9 [.val (.string w1)], .val (.string w1), .plc 9 [.val (.string w2)], .val (.string w2), .plc 9 [.val (.string w3)], .val (.string w3), .plc 9 [.val (.string w4)], .val (.string w4), .val (.int .i64 c)]) (w := w) (fuel := 300) (args := [.one (.ref 15)]) (vs := [.string s]) (r := .tup [.agg [.b false, .sl0, .sl0, .b false, .sl0, .sl0, .b false, .sl0, .sl0, .b false, .sl0, .sl0, .b false, .sl0, .sl0, .b false, .sl0, .sl0, .b false, .sl0, .sl0], .one (.ref 27)])
    (il_cons (I_Split (n := 15) (m := 16) (s := s) (ss := [w0, w1, w2, w3, w4, w5, w6]) rfl rfl hw (by omega)) (il_cons (I_fParse (n := 18) (k := 0) (s := w0) rfl rfl (li rfl) h0 z0) (il_cons (I_fParse (n := 20) (k := 1) (s := w1) rfl rfl (li rfl) h1 z1) (il_cons (I_fParse (n := 22) (k := 2) (s := w2) rfl rfl (li rfl) h2 z2) (il_cons (I_fParse (n := 24) (k := 3) (s := w3) rfl rfl (li rfl) h3 z3) (il_cons (I_fParse (n := 26) (k := 4) (s := w4) rfl rfl (lr (n := 27) rfl) h4 z4) il_nil))))))
    (ol_cons (o_lenR (n := 16) (t := 64) ⟨_, Tryz.underlying64⟩ rfl (li rfl)) (ol_cons (o_iaL (k := 0) (l := .i .i64 0) (sz := 1) (qs' := [.val (.string w0)]) (n := 16) (m := 17) Tryz.underlying64 (by kernel_rfl) rfl rfl (fun _ _ _ h => h) (by decide) (by simp) (fun j q hq => by match j, hq with | 0, hq => simp at hq; subst hq; rfl | j + 1, hq => simp at hq)) (ol_cons (o_ldP (n := 17) (l := .ref 18) (t := 9) (by kernel_rfl) rfl (lq rfl)) (ol_cons (o_iaL (k := 1) (l := .i .i64 1) (sz := 1) (qs' := [.val (.string w1)]) (n := 16) (m := 19) Tryz.underlying64 (by kernel_rfl) rfl rfl (fun _ _ _ h => h) (by decide) (by simp) (fun j q hq => by match j, hq with | 0, hq => simp at hq; subst hq; rfl | j + 1, hq => simp at hq)) (ol_cons (o_ldP (n := 19) (l := .ref 20) (t := 9) (by kernel_rfl) rfl (lq rfl)) (ol_cons (o_iaL (k := 2) (l := .i .i64 2) (sz := 1) (qs' := [.val (.string w2)]) (n := 16) (m := 21) Tryz.underlying64 (by kernel_rfl) rfl rfl (fun _ _ _ h => h) (by decide) (by simp) (fun j q hq => by match j, hq with | 0, hq => simp at hq; subst hq; rfl | j + 1, hq => simp at hq)) (ol_cons (o_ldP (n := 21) (l := .ref 22) (t := 9) (by kernel_rfl) rfl (lq rfl)) (ol_cons (o_iaL (k := 3) (l := .i .i64 3) (sz := 1) (qs' := [.val (.string w3)]) (n := 16) (m := 23) Tryz.underlying64 (by kernel_rfl) rfl rfl (fun _ _ _ h => h) (by decide) (by simp) (fun j q hq => by match j, hq with | 0, hq => simp at hq; subst hq; rfl | j + 1, hq => simp at hq)) (ol_cons (o_ldP (n := 23) (l := .ref 24) (t := 9) (by kernel_rfl) rfl (lq rfl)) (ol_cons (o_iaL (k := 4) (l := .i .i64 4) (sz := 1) (qs' := [.val (.string w4)]) (n := 16) (m := 25) Tryz.underlying64 (by kernel_rfl) rfl rfl (fun _ _ _ h => h) (by decide) (by simp) (fun j q hq => by match j, hq with | 0, hq => simp at hq; subst hq; rfl | j + 1, hq => simp at hq)) (ol_cons (o_ldP (n := 25) (l := .ref 26) (t := 9) (by kernel_rfl) rfl (lq rfl)) (ol_cons (o_neqK (n := 27) (c := 0) (u := c) (b := true) (t := 39) rfl (bneq_t hc)) (ol_nil))))))))))))) (by kernel_rfl) Tryz.func15 (by kernel_rfl) ⟨ls (n := 15) rfl (fun _ => none) w, trivial⟩).mono ?_
  rintro e w' ⟨v, rfl, ⟨vs, rfl, h1⟩, h2⟩
  match vs, h1 with
  | [r, cv], h1 =>
    obtain ⟨⟨cs, rfl, k1⟩, k2, _⟩ := h1
    obtain ⟨sv, q1, q2⟩ := k2
    have q3 : some (Vp.val (.int .i64 c)) = some sv := q1
    injection q3 with q3
    subst q3
    have k2 : cv = .int .i64 c := q2.1.1
    subst k2
    exact ⟨_, rfl, ⟨_, rfl, zero_row (n := 7) k1⟩, h2⟩
def xpD5X (s w0 w1 w2 w3 w4 w5 w6 : ByteArray) (x0 x1 x2 x3 x4 x5 : Fq) (c : Int) : List Fq := [x0, x1, x2, x3, x4, x5]
theorem q_pD5 (s w0 w1 w2 w3 w4 w5 w6 : ByteArray) (x0 x1 x2 x3 x4 x5 : Fq) (c : Int) (w : World) (hw : Lib.splitB (b1 32) 0 (Lib.countB s (b1 32)) s = [w0, w1, w2, w3, w4, w5, w6]) (h0 : FP w0 x0 0) (h1 : FP w1 x1 0) (h2 : FP w2 x2 0) (h3 : FP w3 x3 0) (h4 : FP w4 x4 0) (h5 : FP w5 x5 c) (hc : c ≠ 0) (z0 : w0.size ≤ 4294967280) (z1 : w1.size ≤ 4294967280) (z2 : w2.size ≤ 4294967280) (z3 : w3.size ≤ 4294967280) (z4 : w4.size ≤ 4294967280) (z5 : w5.size ≤ 4294967280) (hs : s.size ≤ 4294967280) : Calls Tryz.prog 15 #[.string s] w fun e w' => RetOqE w .zero c e w' := by
  refine (calls_runFn (ρ := frs (xpD5X s w0 w1 w2 w3 w4 w5 w6 x0 x1 x2 x3 x4 x5 c) ++ [.val (.string s), .row 9 7 [.val (.string w0), .val (.string w1), .val (.string w2), .val (.string w3), .val (.string w4), .val (.string w5), .val (.string w6)], .plc 9 [.val (.string w0)], .val (.string w0), .plc 9 [.val (.string w1)], .val (.string w1), .plc 9 [.val (.string w2)], .val (.string w2), .plc 9 [.val (.string w3)], .val (.string w3), .plc 9 [.val (.string w4)], .val (.string w4), .plc 9 [.val (.string w5)], .val (.string w5), .val (.int .i64 c)]) (w := w) (fuel := 300) (args := [.one (.ref 18)]) (vs := [.string s]) (r := .tup [.agg [.b false, .sl0, .sl0, .b false, .sl0, .sl0, .b false, .sl0, .sl0, .b false, .sl0, .sl0, .b false, .sl0, .sl0, .b false, .sl0, .sl0, .b false, .sl0, .sl0], .one (.ref 32)])
    (il_cons (I_Split (n := 18) (m := 19) (s := s) (ss := [w0, w1, w2, w3, w4, w5, w6]) rfl rfl hw (by omega)) (il_cons (I_fParse (n := 21) (k := 0) (s := w0) rfl rfl (li rfl) h0 z0) (il_cons (I_fParse (n := 23) (k := 1) (s := w1) rfl rfl (li rfl) h1 z1) (il_cons (I_fParse (n := 25) (k := 2) (s := w2) rfl rfl (li rfl) h2 z2) (il_cons (I_fParse (n := 27) (k := 3) (s := w3) rfl rfl (li rfl) h3 z3) (il_cons (I_fParse (n := 29) (k := 4) (s := w4) rfl rfl (li rfl) h4 z4) (il_cons (I_fParse (n := 31) (k := 5) (s := w5) rfl rfl (lr (n := 32) rfl) h5 z5) il_nil)))))))
    (ol_cons (o_lenR (n := 19) (t := 64) ⟨_, Tryz.underlying64⟩ rfl (li rfl)) (ol_cons (o_iaL (k := 0) (l := .i .i64 0) (sz := 1) (qs' := [.val (.string w0)]) (n := 19) (m := 20) Tryz.underlying64 (by kernel_rfl) rfl rfl (fun _ _ _ h => h) (by decide) (by simp) (fun j q hq => by match j, hq with | 0, hq => simp at hq; subst hq; rfl | j + 1, hq => simp at hq)) (ol_cons (o_ldP (n := 20) (l := .ref 21) (t := 9) (by kernel_rfl) rfl (lq rfl)) (ol_cons (o_iaL (k := 1) (l := .i .i64 1) (sz := 1) (qs' := [.val (.string w1)]) (n := 19) (m := 22) Tryz.underlying64 (by kernel_rfl) rfl rfl (fun _ _ _ h => h) (by decide) (by simp) (fun j q hq => by match j, hq with | 0, hq => simp at hq; subst hq; rfl | j + 1, hq => simp at hq)) (ol_cons (o_ldP (n := 22) (l := .ref 23) (t := 9) (by kernel_rfl) rfl (lq rfl)) (ol_cons (o_iaL (k := 2) (l := .i .i64 2) (sz := 1) (qs' := [.val (.string w2)]) (n := 19) (m := 24) Tryz.underlying64 (by kernel_rfl) rfl rfl (fun _ _ _ h => h) (by decide) (by simp) (fun j q hq => by match j, hq with | 0, hq => simp at hq; subst hq; rfl | j + 1, hq => simp at hq)) (ol_cons (o_ldP (n := 24) (l := .ref 25) (t := 9) (by kernel_rfl) rfl (lq rfl)) (ol_cons (o_iaL (k := 3) (l := .i .i64 3) (sz := 1) (qs' := [.val (.string w3)]) (n := 19) (m := 26) Tryz.underlying64 (by kernel_rfl) rfl rfl (fun _ _ _ h => h) (by decide) (by simp) (fun j q hq => by match j, hq with | 0, hq => simp at hq; subst hq; rfl | j + 1, hq => simp at hq)) (ol_cons (o_ldP (n := 26) (l := .ref 27) (t := 9) (by kernel_rfl) rfl (lq rfl)) (ol_cons (o_iaL (k := 4) (l := .i .i64 4) (sz := 1) (qs' := [.val (.string w4)]) (n := 19) (m := 28) Tryz.underlying64 (by kernel_rfl) rfl rfl (fun _ _ _ h => h) (by decide) (by simp) (fun j q hq => by match j, hq with | 0, hq => simp at hq; subst hq; rfl | j + 1, hq => simp at hq)) (ol_cons (o_ldP (n := 28) (l := .ref 29) (t := 9) (by kernel_rfl) rfl (lq rfl)) (ol_cons (o_iaL (k := 5) (l := .i .i64 5) (sz := 1) (qs' := [.val (.string w5)]) (n := 19) (m := 30) Tryz.underlying64 (by kernel_rfl) rfl rfl (fun _ _ _ h => h) (by decide) (by simp) (fun j q hq => by match j, hq with | 0, hq => simp at hq; subst hq; rfl | j + 1, hq => simp at hq)) (ol_cons (o_ldP (n := 30) (l := .ref 31) (t := 9) (by kernel_rfl) rfl (lq rfl)) (ol_cons (o_neqK (n := 32) (c := 0) (u := c) (b := true) (t := 39) rfl (bneq_t hc)) (ol_nil))))))))))))))) (by kernel_rfl) Tryz.func15 (by kernel_rfl) ⟨ls (n := 18) rfl (fun _ => none) w, trivial⟩).mono ?_
  rintro e w' ⟨v, rfl, ⟨vs, rfl, h1⟩, h2⟩
  match vs, h1 with
  | [r, cv], h1 =>
    obtain ⟨⟨cs, rfl, k1⟩, k2, _⟩ := h1
    obtain ⟨sv, q1, q2⟩ := k2
    have q3 : some (Vp.val (.int .i64 c)) = some sv := q1
    injection q3 with q3
    subst q3
    have k2 : cv = .int .i64 c := q2.1.1
    subst k2
    exact ⟨_, rfl, ⟨_, rfl, zero_row (n := 7) k1⟩, h2⟩
def xpD6X (s w0 w1 w2 w3 w4 w5 w6 : ByteArray) (x0 x1 x2 x3 x4 x5 x6 : Fq) (c : Int) : List Fq := [x0, x1, x2, x3, x4, x5, x6]
theorem q_pD6 (s w0 w1 w2 w3 w4 w5 w6 : ByteArray) (x0 x1 x2 x3 x4 x5 x6 : Fq) (c : Int) (w : World) (hw : Lib.splitB (b1 32) 0 (Lib.countB s (b1 32)) s = [w0, w1, w2, w3, w4, w5, w6]) (h0 : FP w0 x0 0) (h1 : FP w1 x1 0) (h2 : FP w2 x2 0) (h3 : FP w3 x3 0) (h4 : FP w4 x4 0) (h5 : FP w5 x5 0) (h6 : FP w6 x6 c) (hc : c ≠ 0) (z0 : w0.size ≤ 4294967280) (z1 : w1.size ≤ 4294967280) (z2 : w2.size ≤ 4294967280) (z3 : w3.size ≤ 4294967280) (z4 : w4.size ≤ 4294967280) (z5 : w5.size ≤ 4294967280) (z6 : w6.size ≤ 4294967280) (hs : s.size ≤ 4294967280) : Calls Tryz.prog 15 #[.string s] w fun e w' => RetOqE w .zero c e w' := by
  refine (calls_runFn (ρ := frs (xpD6X s w0 w1 w2 w3 w4 w5 w6 x0 x1 x2 x3 x4 x5 x6 c) ++ [.val (.string s), .row 9 7 [.val (.string w0), .val (.string w1), .val (.string w2), .val (.string w3), .val (.string w4), .val (.string w5), .val (.string w6)], .plc 9 [.val (.string w0)], .val (.string w0), .plc 9 [.val (.string w1)], .val (.string w1), .plc 9 [.val (.string w2)], .val (.string w2), .plc 9 [.val (.string w3)], .val (.string w3), .plc 9 [.val (.string w4)], .val (.string w4), .plc 9 [.val (.string w5)], .val (.string w5), .plc 9 [.val (.string w6)], .val (.string w6), .val (.int .i64 c)]) (w := w) (fuel := 300) (args := [.one (.ref 21)]) (vs := [.string s]) (r := .tup [.agg [.b false, .sl0, .sl0, .b false, .sl0, .sl0, .b false, .sl0, .sl0, .b false, .sl0, .sl0, .b false, .sl0, .sl0, .b false, .sl0, .sl0, .b false, .sl0, .sl0], .one (.ref 37)])
    (il_cons (I_Split (n := 21) (m := 22) (s := s) (ss := [w0, w1, w2, w3, w4, w5, w6]) rfl rfl hw (by omega)) (il_cons (I_fParse (n := 24) (k := 0) (s := w0) rfl rfl (li rfl) h0 z0) (il_cons (I_fParse (n := 26) (k := 1) (s := w1) rfl rfl (li rfl) h1 z1) (il_cons (I_fParse (n := 28) (k := 2) (s := w2) rfl rfl (li rfl) h2 z2) (il_cons (I_fParse (n := 30) (k := 3) (s := w3) rfl rfl (li rfl) h3 z3) (il_cons (I_fParse (n := 32) (k := 4) (s := w4) rfl rfl (li rfl) h4 z4) (il_cons (I_fParse (n := 34) (k := 5) (s := w5) rfl rfl (li rfl) h5 z5) (il_cons (I_fParse (n := 36) (k := 6) (s := w6) rfl rfl (lr (n := 37) rfl) h6 z6) il_nil))))))))
    (ol_cons (o_lenR (n := 22) (t := 64) ⟨_, Tryz.underlying64⟩ rfl (li rfl)) (ol_cons (o_iaL (k := 0) (l := .i .i64 0) (sz := 1) (qs' := [.val (.string w0)]) (n := 22) (m := 23) Tryz.underlying64 (by kernel_rfl) rfl rfl (fun _ _ _ h => h) (by decide) (by simp) (fun j q hq => by match j, hq with | 0, hq => simp at hq; subst hq; rfl | j + 1, hq => simp at hq)) (ol_cons (o_ldP (n := 23) (l := .ref 24) (t := 9) (by kernel_rfl) rfl (lq rfl)) (ol_cons (o_iaL (k := 1) (l := .i .i64 1) (sz := 1) (qs' := [.val (.string w1)]) (n := 22) (m := 25) Tryz.underlying64 (by kernel_rfl) rfl rfl (fun _ _ _ h => h) (by decide) (by simp) (fun j q hq => by match j, hq with | 0, hq => simp at hq; subst hq; rfl | j + 1, hq => simp at hq)) (ol_cons (o_ldP (n := 25) (l := .ref 26) (t := 9) (by kernel_rfl) rfl (lq rfl)) (ol_cons (o_iaL (k := 2) (l := .i .i64 2) (sz := 1) (qs' := [.val (.string w2)]) (n := 22) (m := 27) Tryz.underlying64 (by kernel_rfl) rfl rfl (fun _ _ _ h => h) (by decide) (by simp) (fun j q hq => by match j, hq with | 0, hq => simp at hq; subst hq; rfl | j + 1, hq => simp at hq)) (ol_cons (o_ldP (n := 27) (l := .ref 28) (t := 9) (by kernel_rfl) rfl (lq rfl)) (ol_cons (o_iaL (k := 3) (l := .i .i64 3) (sz := 1) (qs' := [.val (.string w3)]) (n := 22) (m := 29) Tryz.underlying64 (by kernel_rfl) rfl rfl (fun _ _ _ h => h) (by decide) (by simp) (fun j q hq => by match j, hq with | 0, hq => simp at hq; subst hq; rfl | j + 1, hq => simp at hq)) (ol_cons (o_ldP (n := 29) (l := .ref 30) (t := 9) (by kernel_rfl) rfl (lq rfl)) (ol_cons (o_iaL (k := 4) (l := .i .i64 4) (sz := 1) (qs' := [.val (.string w4)]) (n := 22) (m := 31) Tryz.underlying64 (by kernel_rfl) rfl rfl (fun _ _ _ h => h) (by decide) (by simp) (fun j q hq => by match j, hq with | 0, hq => simp at hq; subst hq; rfl | j + 1, hq => simp at hq)) (ol_cons (o_ldP (n := 31) (l := .ref 32) (t := 9) (by kernel_rfl) rfl (lq rfl)) (ol_cons (o_iaL (k := 5) (l := .i .i64 5) (sz := 1) (qs' := [.val (.string w5)]) (n := 22) (m := 33) Tryz.underlying64 (by kernel_rfl) rfl rfl (fun _ _ _ h => h) (by decide) (by simp) (fun j q hq => by match j, hq with | 0, hq => simp at hq; subst hq; rfl | j + 1, hq => simp at hq)) (ol_cons (o_ldP (n := 33) (l := .ref 34) (t := 9) (by kernel_rfl) rfl (lq rfl)) (ol_cons (o_iaL (k := 6) (l := .i .i64 6) (sz := 1) (qs' := [.val (.string w6)]) (n := 22) (m := 35) Tryz.underlying64 (by kernel_rfl) rfl rfl (fun _ _ _ h => h) (by decide) (by simp) (fun j q hq => by match j, hq with | 0, hq => simp at hq; subst hq; rfl | j + 1, hq => simp at hq)) (ol_cons (o_ldP (n := 35) (l := .ref 36) (t := 9) (by kernel_rfl) rfl (lq rfl)) (ol_cons (o_neqK (n := 37) (c := 0) (u := c) (b := true) (t := 39) rfl (bneq_t hc)) (ol_nil))))))))))))))))) (by kernel_rfl) Tryz.func15 (by kernel_rfl) ⟨ls (n := 21) rfl (fun _ => none) w, trivial⟩).mono ?_
  rintro e w' ⟨v, rfl, ⟨vs, rfl, h1⟩, h2⟩
  match vs, h1 with
  | [r, cv], h1 =>
    obtain ⟨⟨cs, rfl, k1⟩, k2, _⟩ := h1
    obtain ⟨sv, q1, q2⟩ := k2
    have q3 : some (Vp.val (.int .i64 c)) = some sv := q1
    injection q3 with q3
    subst q3
    have k2 : cv = .int .i64 c := q2.1.1
    subst k2
    exact ⟨_, rfl, ⟨_, rfl, zero_row (n := 7) k1⟩, h2⟩
def xpD7RX (s w0 w1 w2 w3 w4 w5 w6 : ByteArray) (x0 x1 x2 x3 x4 x5 x6 : Fq) : List Fq := [x0, x1, x2, x3, x4, x5, x6]
theorem q_pD7R (s w0 w1 w2 w3 w4 w5 w6 : ByteArray) (x0 x1 x2 x3 x4 x5 x6 : Fq) (w : World) (hw : Lib.splitB (b1 32) 0 (Lib.countB s (b1 32)) s = [w0, w1, w2, w3, w4, w5, w6]) (h0 : FP w0 x0 0) (h1 : FP w1 x1 0) (h2 : FP w2 x2 0) (h3 : FP w3 x3 0) (h4 : FP w4 x4 0) (h5 : FP w5 x5 0) (h6 : FP w6 x6 0) (gc : (Qq.mk x0 x1 x2 x3).comp) (hf : (Qq.mk x0 x1 x2 x3).first ≠ (Fq.ofInt 1)) (z0 : w0.size ≤ 4294967280) (z1 : w1.size ≤ 4294967280) (z2 : w2.size ≤ 4294967280) (z3 : w3.size ≤ 4294967280) (z4 : w4.size ≤ 4294967280) (z5 : w5.size ≤ 4294967280) (z6 : w6.size ≤ 4294967280) (k0 : x0.ok 1000) (k1 : x1.ok 1000) (k2 : x2.ok 1000) (k3 : x3.ok 1000) (k4 : x4.ok 1000) (k5 : x5.ok 1000) (k6 : x6.ok 1000) (hs : s.size ≤ 4294967280) : Calls Tryz.prog 15 #[.string s] w fun e w' => RetOqE w .zero 4 e w' := by
  refine (calls_runFn (ρ := frs (xpD7RX s w0 w1 w2 w3 w4 w5 w6 x0 x1 x2 x3 x4 x5 x6) ++ [.val (.string s), .row 9 7 [.val (.string w0), .val (.string w1), .val (.string w2), .val (.string w3), .val (.string w4), .val (.string w5), .val (.string w6)], .plc 9 [.val (.string w0)], .val (.string w0), .plc 9 [.val (.string w1)], .val (.string w1), .plc 9 [.val (.string w2)], .val (.string w2), .plc 9 [.val (.string w3)], .val (.string w3), .plc 9 [.val (.string w4)], .val (.string w4), .plc 9 [.val (.string w5)], .val (.string w5), .plc 9 [.val (.string w6)], .val (.string w6)]) (w := w) (fuel := 300) (args := [.one (.ref 21)]) (vs := [.string s]) (r := .tup [.agg [.b false, .sl0, .sl0, .b false, .sl0, .sl0, .b false, .sl0, .sl0, .b false, .sl0, .sl0, .b false, .sl0, .sl0, .b false, .sl0, .sl0, .b false, .sl0, .sl0], .one (.i .i64 4)])
    (il_cons (I_Split (n := 21) (m := 22) (s := s) (ss := [w0, w1, w2, w3, w4, w5, w6]) rfl rfl hw (by omega)) (il_cons (I_fParse (n := 24) (k := 0) (s := w0) rfl rfl (li rfl) h0 z0) (il_cons (I_fParse (n := 26) (k := 1) (s := w1) rfl rfl (li rfl) h1 z1) (il_cons (I_fParse (n := 28) (k := 2) (s := w2) rfl rfl (li rfl) h2 z2) (il_cons (I_fParse (n := 30) (k := 3) (s := w3) rfl rfl (li rfl) h3 z3) (il_cons (I_fParse (n := 32) (k := 4) (s := w4) rfl rfl (li rfl) h4 z4) (il_cons (I_fParse (n := 34) (k := 5) (s := w5) rfl rfl (li rfl) h5 z5) (il_cons (I_fParse (n := 36) (k := 6) (s := w6) rfl rfl (li rfl) h6 z6) (il_cons (I_fValidT0 (kq := [0, 1, 2, 3]) (q := (Qq.mk x0 x1 x2 x3)) ⟨rfl, rfl, rfl, rfl, trivial⟩ (⟨k0.mono (by decide), k1.mono (by decide), k2.mono (by decide), k3.mono (by decide)⟩ : Qq.ok 1000000 (Qq.mk x0 x1 x2 x3)) gc hf) il_nil)))))))))
    (ol_cons (o_lenR (n := 22) (t := 64) ⟨_, Tryz.underlying64⟩ rfl (li rfl)) (ol_cons (o_iaL (k := 0) (l := .i .i64 0) (sz := 1) (qs' := [.val (.string w0)]) (n := 22) (m := 23) Tryz.underlying64 (by kernel_rfl) rfl rfl (fun _ _ _ h => h) (by decide) (by simp) (fun j q hq => by match j, hq with | 0, hq => simp at hq; subst hq; rfl | j + 1, hq => simp at hq)) (ol_cons (o_ldP (n := 23) (l := .ref 24) (t := 9) (by kernel_rfl) rfl (lq rfl)) (ol_cons (o_iaL (k := 1) (l := .i .i64 1) (sz := 1) (qs' := [.val (.string w1)]) (n := 22) (m := 25) Tryz.underlying64 (by kernel_rfl) rfl rfl (fun _ _ _ h => h) (by decide) (by simp) (fun j q hq => by match j, hq with | 0, hq => simp at hq; subst hq; rfl | j + 1, hq => simp at hq)) (ol_cons (o_ldP (n := 25) (l := .ref 26) (t := 9) (by kernel_rfl) rfl (lq rfl)) (ol_cons (o_iaL (k := 2) (l := .i .i64 2) (sz := 1) (qs' := [.val (.string w2)]) (n := 22) (m := 27) Tryz.underlying64 (by kernel_rfl) rfl rfl (fun _ _ _ h => h) (by decide) (by simp) (fun j q hq => by match j, hq with | 0, hq => simp at hq; subst hq; rfl | j + 1, hq => simp at hq)) (ol_cons (o_ldP (n := 27) (l := .ref 28) (t := 9) (by kernel_rfl) rfl (lq rfl)) (ol_cons (o_iaL (k := 3) (l := .i .i64 3) (sz := 1) (qs' := [.val (.string w3)]) (n := 22) (m := 29) Tryz.underlying64 (by kernel_rfl) rfl rfl (fun _ _ _ h => h) (by decide) (by simp) (fun j q hq => by match j, hq with | 0, hq => simp at hq; subst hq; rfl | j + 1, hq => simp at hq)) (ol_cons (o_ldP (n := 29) (l := .ref 30) (t := 9) (by kernel_rfl) rfl (lq rfl)) (ol_cons (o_iaL (k := 4) (l := .i .i64 4) (sz := 1) (qs' := [.val (.string w4)]) (n := 22) (m := 31) Tryz.underlying64 (by kernel_rfl) rfl rfl (fun _ _ _ h => h) (by decide) (by simp) (fun j q hq => by match j, hq with | 0, hq => simp at hq; subst hq; rfl | j + 1, hq => simp at hq)) (ol_cons (o_ldP (n := 31) (l := .ref 32) (t := 9) (by kernel_rfl) rfl (lq rfl)) (ol_cons (o_iaL (k := 5) (l := .i .i64 5) (sz := 1) (qs' := [.val (.string w5)]) (n := 22) (m := 33) Tryz.underlying64 (by kernel_rfl) rfl rfl (fun _ _ _ h => h) (by decide) (by simp) (fun j q hq => by match j, hq with | 0, hq => simp at hq; subst hq; rfl | j + 1, hq => simp at hq)) (ol_cons (o_ldP (n := 33) (l := .ref 34) (t := 9) (by kernel_rfl) rfl (lq rfl)) (ol_cons (o_iaL (k := 6) (l := .i .i64 6) (sz := 1) (qs' := [.val (.string w6)]) (n := 22) (m := 35) Tryz.underlying64 (by kernel_rfl) rfl rfl (fun _ _ _ h => h) (by decide) (by simp) (fun j q hq => by match j, hq with | 0, hq => simp at hq; subst hq; rfl | j + 1, hq => simp at hq)) (ol_cons (o_ldP (n := 35) (l := .ref 36) (t := 9) (by kernel_rfl) rfl (lq rfl)) (ol_nil)))))))))))))))) (by kernel_rfl) Tryz.func15 (by kernel_rfl) ⟨ls (n := 21) rfl (fun _ => none) w, trivial⟩).mono ?_
  rintro e w' ⟨v, rfl, ⟨vs, rfl, h1⟩, h2⟩
  match vs, h1 with
  | [r, cv], h1 =>
    obtain ⟨⟨cs, rfl, k1⟩, k2, _⟩ := h1
    have k2 : cv = _ := k2
    subst k2
    exact ⟨_, rfl, ⟨_, rfl, zero_row (n := 7) k1⟩, h2⟩
def xpD7X (s w0 w1 w2 w3 w4 w5 w6 : ByteArray) (x0 x1 x2 x3 x4 x5 x6 : Fq) : List Fq := [x0, x1, x2, x3, x4, x5, x6]
theorem q_pD7 (s w0 w1 w2 w3 w4 w5 w6 : ByteArray) (x0 x1 x2 x3 x4 x5 x6 : Fq) (w : World) (hw : Lib.splitB (b1 32) 0 (Lib.countB s (b1 32)) s = [w0, w1, w2, w3, w4, w5, w6]) (h0 : FP w0 x0 0) (h1 : FP w1 x1 0) (h2 : FP w2 x2 0) (h3 : FP w3 x3 0) (h4 : FP w4 x4 0) (h5 : FP w5 x5 0) (h6 : FP w6 x6 0) (gq : (Qq.mk x0 x1 x2 x3).good) (z0 : w0.size ≤ 4294967280) (z1 : w1.size ≤ 4294967280) (z2 : w2.size ≤ 4294967280) (z3 : w3.size ≤ 4294967280) (z4 : w4.size ≤ 4294967280) (z5 : w5.size ≤ 4294967280) (z6 : w6.size ≤ 4294967280) (k0 : x0.ok 1000) (k1 : x1.ok 1000) (k2 : x2.ok 1000) (k3 : x3.ok 1000) (k4 : x4.ok 1000) (k5 : x5.ok 1000) (k6 : x6.ok 1000) (hs : s.size ≤ 4294967280) : Calls Tryz.prog 15 #[.string s] w fun e w' => RetOqE w ⟨⟨x0, x1, x2, x3⟩, ⟨x4, x5, x6⟩⟩ 0 e w' := by
  refine (calls_runFn (ρ := frs (xpD7X s w0 w1 w2 w3 w4 w5 w6 x0 x1 x2 x3 x4 x5 x6) ++ [.val (.string s), .row 9 7 [.val (.string w0), .val (.string w1), .val (.string w2), .val (.string w3), .val (.string w4), .val (.string w5), .val (.string w6)], .plc 9 [.val (.string w0)], .val (.string w0), .plc 9 [.val (.string w1)], .val (.string w1), .plc 9 [.val (.string w2)], .val (.string w2), .plc 9 [.val (.string w3)], .val (.string w3), .plc 9 [.val (.string w4)], .val (.string w4), .plc 9 [.val (.string w5)], .val (.string w5), .plc 9 [.val (.string w6)], .val (.string w6)]) (w := w) (fuel := 300) (args := [.one (.ref 21)]) (vs := [.string s]) (r := .tup [row [0, 1, 2, 3, 4, 5, 6], .one (.i .i64 0)])
    (il_cons (I_Split (n := 21) (m := 22) (s := s) (ss := [w0, w1, w2, w3, w4, w5, w6]) rfl rfl hw (by omega)) (il_cons (I_fParse (n := 24) (k := 0) (s := w0) rfl rfl (li rfl) h0 z0) (il_cons (I_fParse (n := 26) (k := 1) (s := w1) rfl rfl (li rfl) h1 z1) (il_cons (I_fParse (n := 28) (k := 2) (s := w2) rfl rfl (li rfl) h2 z2) (il_cons (I_fParse (n := 30) (k := 3) (s := w3) rfl rfl (li rfl) h3 z3) (il_cons (I_fParse (n := 32) (k := 4) (s := w4) rfl rfl (li rfl) h4 z4) (il_cons (I_fParse (n := 34) (k := 5) (s := w5) rfl rfl (li rfl) h5 z5) (il_cons (I_fParse (n := 36) (k := 6) (s := w6) rfl rfl (li rfl) h6 z6) (il_cons (I_fValidT1 (kq := [0, 1, 2, 3]) (q := (Qq.mk x0 x1 x2 x3)) ⟨rfl, rfl, rfl, rfl, trivial⟩ (⟨k0.mono (by decide), k1.mono (by decide), k2.mono (by decide), k3.mono (by decide)⟩ : Qq.ok 1000000 (Qq.mk x0 x1 x2 x3)) gq) il_nil)))))))))
    (ol_cons (o_lenR (n := 22) (t := 64) ⟨_, Tryz.underlying64⟩ rfl (li rfl)) (ol_cons (o_iaL (k := 0) (l := .i .i64 0) (sz := 1) (qs' := [.val (.string w0)]) (n := 22) (m := 23) Tryz.underlying64 (by kernel_rfl) rfl rfl (fun _ _ _ h => h) (by decide) (by simp) (fun j q hq => by match j, hq with | 0, hq => simp at hq; subst hq; rfl | j + 1, hq => simp at hq)) (ol_cons (o_ldP (n := 23) (l := .ref 24) (t := 9) (by kernel_rfl) rfl (lq rfl)) (ol_cons (o_iaL (k := 1) (l := .i .i64 1) (sz := 1) (qs' := [.val (.string w1)]) (n := 22) (m := 25) Tryz.underlying64 (by kernel_rfl) rfl rfl (fun _ _ _ h => h) (by decide) (by simp) (fun j q hq => by match j, hq with | 0, hq => simp at hq; subst hq; rfl | j + 1, hq => simp at hq)) (ol_cons (o_ldP (n := 25) (l := .ref 26) (t := 9) (by kernel_rfl) rfl (lq rfl)) (ol_cons (o_iaL (k := 2) (l := .i .i64 2) (sz := 1) (qs' := [.val (.string w2)]) (n := 22) (m := 27) Tryz.underlying64 (by kernel_rfl) rfl rfl (fun _ _ _ h => h) (by decide) (by simp) (fun j q hq => by match j, hq with | 0, hq => simp at hq; subst hq; rfl | j + 1, hq => simp at hq)) (ol_cons (o_ldP (n := 27) (l := .ref 28) (t := 9) (by kernel_rfl) rfl (lq rfl)) (ol_cons (o_iaL (k := 3) (l := .i .i64 3) (sz := 1) (qs' := [.val (.string w3)]) (n := 22) (m := 29) Tryz.underlying64 (by kernel_rfl) rfl rfl (fun _ _ _ h => h) (by decide) (by simp) (fun j q hq => by match j, hq with | 0, hq => simp at hq; subst hq; rfl | j + 1, hq => simp at hq)) (ol_cons (o_ldP (n := 29) (l := .ref 30) (t := 9) (by kernel_rfl) rfl (lq rfl)) (ol_cons (o_iaL (k := 4) (l := .i .i64 4) (sz := 1) (qs' := [.val (.string w4)]) (n := 22) (m := 31) Tryz.underlying64 (by kernel_rfl) rfl rfl (fun _ _ _ h => h) (by decide) (by simp) (fun j q hq => by match j, hq with | 0, hq => simp at hq; subst hq; rfl | j + 1, hq => simp at hq)) (ol_cons (o_ldP (n := 31) (l := .ref 32) (t := 9) (by kernel_rfl) rfl (lq rfl)) (ol_cons (o_iaL (k := 5) (l := .i .i64 5) (sz := 1) (qs' := [.val (.string w5)]) (n := 22) (m := 33) Tryz.underlying64 (by kernel_rfl) rfl rfl (fun _ _ _ h => h) (by decide) (by simp) (fun j q hq => by match j, hq with | 0, hq => simp at hq; subst hq; rfl | j + 1, hq => simp at hq)) (ol_cons (o_ldP (n := 33) (l := .ref 34) (t := 9) (by kernel_rfl) rfl (lq rfl)) (ol_cons (o_iaL (k := 6) (l := .i .i64 6) (sz := 1) (qs' := [.val (.string w6)]) (n := 22) (m := 35) Tryz.underlying64 (by kernel_rfl) rfl rfl (fun _ _ _ h => h) (by decide) (by simp) (fun j q hq => by match j, hq with | 0, hq => simp at hq; subst hq; rfl | j + 1, hq => simp at hq)) (ol_cons (o_ldP (n := 35) (l := .ref 36) (t := 9) (by kernel_rfl) rfl (lq rfl)) (ol_nil)))))))))))))))) (by kernel_rfl) Tryz.func15 (by kernel_rfl) ⟨ls (n := 21) rfl (fun _ => none) w, trivial⟩).mono ?_
  rintro e w' ⟨v, rfl, ⟨vs, rfl, h1⟩, h2⟩
  match vs, h1 with
  | [r, cv], h1 =>
    obtain ⟨⟨cs, rfl, k1⟩, k2, _⟩ := h1
    have k2 : cv = _ := k2
    subst k2
    exact ⟨_, rfl, (row_isL (xs := xpD7X s w0 w1 w2 w3 w4 w5 w6 x0 x1 x2 x3 x4 x5 x6) (ks := [0, 1, 2, 3, 4, 5, 6]) (vs := [x0, x1, x2, x3, x4, x5, x6]) ⟨rfl, rfl, rfl, rfl, rfl, rfl, rfl, trivial⟩).1 ⟨_, rfl, k1⟩, h2⟩
end Go.Proofs.YthebfmlfgfmlnaaGreatDoor
namespace Go.Proofs.YthebfmlfgfmlnaaGreatDoor
set_option linter.unusedSimpArgs false
set_option linter.unusedVariables false
set_option maxRecDepth 100000
open Go.RowKit
/-- Behind k rounds: where the present part begins, and the parts that are finished. -/
def spSt (s : ByteArray) : Nat → Nat × List ByteArray
  | 0 => (0, [])
  | k + 1 => if k = s.size ∨ by' s k = 32 then (k + 1, (spSt s k).2 ++ [s.extract (spSt s k).1 k]) else spSt s k
theorem spSt_run (s : ByteArray) {a : Nat} {D : List ByteArray} (h : spSt s a = (a, D)) : ∀ j, a + j ≤ s.size → (∀ m, m < j → by' s (a + m) ≠ 32) → spSt s (a + j) = (a, D)
  | 0, _, _ => h
  | j + 1, hj, hm => by
    have ih := spSt_run s h j (by omega) (fun m h => hm m (by omega))
    show spSt s (a + j + 1) = _
    unfold spSt
    rw [if_neg (fun h => h.elim (fun h => by omega) (hm j (by omega)))]
    exact ih
theorem spSt_end (s : ByteArray) : ∀ (n a : Nat) (D : List ByteArray), s.size - a = n → a ≤ s.size → spSt s a = (a, D) → (spSt s (s.size + 1)).2 = D ++ Lib.splitB (b1 32) 0 (Lib.countB (s.extract a s.size) (b1 32)) (s.extract a s.size) := by
  intro n
  induction n using Nat.strongRecOn with
  | _ n ih =>
    intro a D hn ha h
    have hsz : (s.extract a s.size).size = s.size - a := sz_ex (Nat.le_refl _)
    rcases ch_cases 32 (s.extract a s.size) with ⟨i, hi⟩ | hno
    · have h1 := hi.1
      rw [hsz] at h1
      have hb : by' s (a + i) = 32 := by have := hi.2.1; rw [by_tail (by omega)] at this; exact this
      have hr := spSt_run s h i (by omega) (fun m hm => by have := hi.2.2 m hm; rw [by_tail (by omega)] at this; exact this)
      have h2 : spSt s (a + i + 1) = (a + i + 1, D ++ [s.extract a (a + i)]) := by
        show (if a + i = s.size ∨ by' s (a + i) = 32 then _ else _) = _
        rw [if_pos (.inr hb), hr]
      rw [ih (s.size - (a + i + 1)) (by omega) (a + i + 1) _ rfl (by omega) h2]
      have e : (s.extract a s.size).extract (i + 1) (s.extract a s.size).size = s.extract (a + i + 1) s.size := by
        rw [hsz, ex_ex (Nat.le_refl _) (by omega)]
        congr 1; omega
      have e0 : (s.extract a s.size).extract 0 i = s.extract a (a + i) := by rw [ex_ex (Nat.le_refl _) (by omega)]; rfl
      have hc : Lib.splitB (b1 32) 0 (Lib.countB (s.extract a s.size) (b1 32)) (s.extract a s.size) = (s.extract a s.size).extract 0 i :: Lib.splitB (b1 32) 0 (Lib.countB ((s.extract a s.size).extract (i + 1) (s.extract a s.size).size) (b1 32)) ((s.extract a s.size).extract (i + 1) (s.extract a s.size).size) := by
        rw [ch_count hi, Nat.add_comm 1, Lib.splitB_hit (b1 32) 0 _ _ i (ch_index hi)]
        rfl
      rw [hc, e0, e, List.append_assoc]
      rfl
    · have hr := spSt_run s h (s.size - a) (by omega) (fun m hm => by have := hno m (by omega); rw [by_tail (by omega)] at this; exact this)
      rw [show a + (s.size - a) = s.size from by omega] at hr
      rw [ch_count0 hno]
      show (spSt s (s.size + 1)).2 = _
      unfold spSt
      rw [if_pos (.inl rfl), hr]
      rfl
theorem spSt_parts (s : ByteArray) : (spSt s (s.size + 1)).2 = Lib.splitB (b1 32) 0 (Lib.countB s (b1 32)) s := by
  have h := spSt_end s (s.size - 0) 0 [] rfl (Nat.zero_le _) rfl
  rw [show s.extract 0 s.size = s by simp] at h
  exact h
section
variable {w : World} {s : ByteArray} {a k : Nat} {l : List ByteArray}
end
end Go.Proofs.YthebfmlfgfmlnaaGreatDoor
