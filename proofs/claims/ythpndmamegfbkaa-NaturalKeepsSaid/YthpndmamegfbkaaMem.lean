/- Rows of digits in memory: what a natural number's value is, what a row of the call's own is, and that both stay. -/
import Derived.Test.YthpndmamegfbkaaBase
import Derived.Test.YthpndmamegfbkaaProg
import Derived.BigQuiet
import Derived.Deep.QuietTactic
import Derived.Deep.DeepCutAuto
import Derived.Deep.LoopGhost
import Derived.Deep.RegionHeld3
import Derived.Deep.RegionWith
namespace Go.Proofs.Ythpndmamegfbkaa
set_option linter.unusedSimpArgs false
set_option linter.unusedVariables false
open Go.RowKit

def Dig (w : World) (b off L N : Nat) : Prop := ∀ j, j < L → w.cell? ⟨b, off + j, none⟩ = some (.int .u32 ((D N j : Nat) : Int))
structure Rw (w : World) (a : Option Addr) (L N : Nat) : Prop where
  lt : N < 4294967296 ^ L
  cells : 0 < L → ∃ b off, a = some ⟨b, off, none⟩ ∧ Dig w b off L N
/-- v is a Nat of L digits, of value N (leading zeros allowed). -/
def IsR (w : World) (v : Value) (L N : Nat) : Prop := ∃ a cap, v = .agg #[.slice a L cap] ∧ L ≤ cap ∧ Rw w a L N
/-- v is the valid Nat of value N. -/
def IsN (w : World) (v : Value) (N : Nat) : Prop := IsR w v (nl N) N
/-- v is the valid Nat of value N, in memory from block 'base' on that may be written. -/
def NewN (base : Nat) (w : World) (v : Value) (N : Nat) : Prop :=
  ∃ a cap, v = .agg #[.slice a (nl N) cap] ∧ nl N ≤ cap ∧ (0 < nl N → ∃ b off, a = some ⟨b, off, none⟩ ∧ base ≤ b ∧ Dig w b off (nl N) N ∧ ∀ j, j < nl N → w.frozen? ⟨b, off + j, none⟩ = false)
/-- Block g is a row of the call's own: L digits, of value N. -/
def OwnR (w : World) (g L N : Nat) : Prop :=
  N < 4294967296 ^ L ∧ ∃ cur : Array Value, w.heap[g]? = some (.cells cur 42 (0, 0)) ∧ cur.toList = (List.range L).map fun j => Value.int .u32 ((D N j : Nat) : Int)

theorem Dig.lt {w : World} {b off L N : Nat} (h : Dig w b off L N) (hL : 0 < L) : b < w.heap.size := by
  have := World.block_lt_of_cell? w _ (h 0 hL)
  exact this
theorem Dig.mono {w w' : World} {b off L N B : Nat} (h : Dig w b off L N) (hb : Below B w w') (hB : b < B) : Dig w' b off L N :=
  fun j hj => (hb.cell (p := ⟨b, off + j, none⟩) hB).trans (h j hj)
theorem Rw.mono {w w' : World} {a : Option Addr} {L N : Nat} (h : Rw w a L N) (hb : Below w.heap.size w w') : Rw w' a L N :=
  ⟨h.lt, fun hL => by
    obtain ⟨b, off, rfl, hd⟩ := h.cells hL
    exact ⟨b, off, rfl, hd.mono hb (hd.lt hL)⟩⟩
theorem IsR.mono {w w' : World} {v : Value} {L N : Nat} (h : IsR w v L N) (hb : Below w.heap.size w w') : IsR w' v L N := by
  obtain ⟨a, cap, rfl, hc, hr⟩ := h
  exact ⟨a, cap, rfl, hc, hr.mono hb⟩
theorem IsN.mono {w w' : World} {v : Value} {N : Nat} (h : IsN w v N) (hb : Below w.heap.size w w') : IsN w' v N := IsR.mono h hb
theorem NewN.isN {base : Nat} {w : World} {v : Value} {N : Nat} (h : NewN base w v N) : IsN w v N := by
  obtain ⟨a, cap, rfl, hc, hr⟩ := h
  exact ⟨a, cap, rfl, hc, lt_nl N, fun hL => by obtain ⟨b, off, rfl, _, hd, _⟩ := hr hL; exact ⟨b, off, rfl, hd⟩⟩
theorem NewN.mono {base : Nat} {w w' : World} {v : Value} {N : Nat} (h : NewN base w v N) (hb : Below w.heap.size w w') : NewN base w' v N := by
  obtain ⟨a, cap, rfl, hc, hr⟩ := h
  refine ⟨a, cap, rfl, hc, fun hL => ?_⟩
  obtain ⟨b, off, rfl, h1, hd, hf⟩ := hr hL
  exact ⟨b, off, rfl, h1, hd.mono hb (hd.lt hL), fun j hj => (hb.frozen (p := ⟨b, off + j, none⟩) (hd.lt hL)).trans (hf j hj)⟩
theorem NewN.weaken {base base' : Nat} {w : World} {v : Value} {N : Nat} (h : NewN base w v N) (hb : base' ≤ base) : NewN base' w v N := by
  obtain ⟨a, cap, rfl, hc, hr⟩ := h
  refine ⟨a, cap, rfl, hc, fun hL => ?_⟩
  obtain ⟨b, off, rfl, h1, hd, hf⟩ := hr hL
  exact ⟨b, off, rfl, by omega, hd, hf⟩

theorem OwnR.getcur {L N : Nat} {cur : Array Value} (h : cur.toList = (List.range L).map fun j => Value.int .u32 ((D N j : Nat) : Int)) {p : Nat} (hp : p < L) :
    cur[p]? = some (.int .u32 ((D N p : Nat) : Int)) := by
  rw [← Array.getElem?_toList, h]; simp [hp]
theorem OwnR.cell {w : World} {g L N : Nat} (h : OwnR w g L N) {p : Nat} (hp : p < L) : w.cell? ⟨g, p, none⟩ = some (.int .u32 ((D N p : Nat) : Int)) := by
  obtain ⟨_, cur, hg, hc⟩ := h
  rw [cell_of_row w g p cur _ (0, 0) hg]; exact OwnR.getcur hc hp
theorem OwnR.frozen {w : World} {g L N : Nat} (h : OwnR w g L N) (p : Nat) : w.frozen? ⟨g, p, none⟩ = false := by
  obtain ⟨_, cur, hg, hc⟩ := h
  exact frozen_of_row w g p cur _ hg
theorem OwnR.lt {w : World} {g L N : Nat} (h : OwnR w g L N) : g < w.heap.size := by
  obtain ⟨_, cur, hg, hc⟩ := h
  exact (Array.getElem?_eq_some_iff.1 hg).1
theorem OwnR.dig {w : World} {g L N : Nat} (h : OwnR w g L N) : Dig w g 0 L N := fun j hj => by rw [Nat.zero_add]; exact h.cell hj
theorem OwnR.rw' {w : World} {g L N : Nat} (h : OwnR w g L N) : Rw w (some ⟨g, 0, none⟩) L N := ⟨h.1, fun _ => ⟨g, 0, rfl, h.dig⟩⟩
theorem OwnR.store {w : World} {g L N : Nat} (h : OwnR w g L N) {p e : Nat} (hp : p < L) (he : e < 4294967296) :
    OwnR (w.setCell ⟨g, p, none⟩ (.int .u32 (e : Int))) g L (upd N p e) := by
  obtain ⟨hlt, cur, hg, hc⟩ := h
  refine ⟨upd_lt hlt hp he, cur.setIfInBounds p (.int .u32 (e : Int)), heap_setCell_same w g p cur _ _ hg, ?_⟩
  rw [Array.toList_setIfInBounds, hc]
  apply List.ext_getElem?
  intro i
  rw [List.getElem?_set]
  by_cases hi : p = i
  · subst hi; simp [hp, D_upd_same N p e he]
  · rw [if_neg hi]
    simp only [List.getElem?_map, List.getElem?_range]
    cases hr : (List.range L)[i]? with
    | none => simp
    | some x =>
      simp only [Option.map_some]
      have hx : x = i := by
        have := List.getElem?_eq_some_iff.1 hr
        obtain ⟨h1, h2⟩ := this
        simpa using h2.symm
      subst hx
      rw [D_upd_other N p e x he (by omega)]
theorem OwnR.block {w w' : World} {g L N : Nat} (h : OwnR w g L N) (hb : w'.heap[g]? = w.heap[g]?) : OwnR w' g L N := by
  obtain ⟨hlt, cur, hg, hc⟩ := h
  exact ⟨hlt, cur, hb.trans hg, hc⟩
theorem OwnR.mono {w w' : World} {g L N B : Nat} (h : OwnR w g L N) (hb : Below B w w') (hB : g < B) : OwnR w' g L N := h.block (hb.block g hB)
theorem OwnR.alloc {w : World} {g L N : Nat} (h : OwnR w g L N) (o : Obj) : OwnR (w.alloc o) g L N := h.block (Below.heap_alloc w o g h.lt)
theorem OwnR.setOther {w : World} {g L N : Nat} (h : OwnR w g L N) (p : Addr) (u : Value) (hp : p.block ≠ g) : OwnR (w.setCell p u) g L N :=
  h.block (Below.heap_setCell w p u g (fun e => hp e.symm))

/-- The block of a new row of n zeros. -/
def zrow (n : Nat) : Obj := .cells (madeCells #[.int .u32 0] n) 42
theorem OwnR.made (w : World) (n : Nat) : OwnR (w.alloc (zrow n)) w.heap.size n 0 := by
  refine ⟨powB n, madeCells #[.int .u32 0] n, heap_alloc_new w _, ?_⟩
  simp only [madeCells, Array.toList_map, Array.toList_range]
  apply List.map_congr_left
  intro j _
  simp [D_zero, Nat.mod_one]
theorem infoU32 : (Try.prog.info? 42).map (fun i => (i.zero, i.size, i.bytes)) = some (some (.int .u32 0), 1, 4) := by kernel_rfl
/-- 'make([]uint32, n)': a new row of zeros. -/
theorem wpList_make_dig {w : World} {ops : Array Oper} {rest : List Oper} {o : Oper} {a : Act} {Q : Exit → Act → World → Prop}
    (hg : o.guard = none) (l c : Operand) (hop : o.op = Op.makeSlice 22 l c)
    (kl kc : IntKind) (L C : Int) (n : Nat) (hl : a.eval l = .int kl L) (hc : a.eval c = .int kc C) (hL : L = (n : Int)) (hC : C = (n : Int)) (hn : n ≤ 60000000000000)
    (hK : wpList Try.prog ops Q rest (a.put o.dst (.slice (some ⟨w.heap.size, 0, none⟩) n n)) (w.alloc (zrow n))) :
    wpList Try.prog ops Q (o :: rest) a w := by
  refine wpList_plain hg fun K hK' => ?_
  obtain ⟨i, hi, hz0, hz1, hz2⟩ := info_parts infoU32
  subst hL; subst hC
  have hrun := run_make (P := Try.prog) w 22 42 i (.int .u32 0) Try.underlying22 hi hz0 kl kc n n (by omega) (Int.le_refl _) (by rw [hz2]; omega) (by omega)
  rw [hz1, Nat.mul_one] at hrun
  simp only [Int.toNat_natCast] at hrun
  unfold Oper.wp
  simp only [execOp, hop, hl, hc, Sem.run_bind, hrun, Result.andThen, Sem.run_pure]
  exact hK' _ _ hK
theorem quietS {P : Program} {f : FuncId} {args : Array Value} {w : World} {n : Nat} {v : Value}
    (h : Calls P f args (w.drewN n) fun e w' => e = .returned v ∧ w.drewN n = w') : Calls P f args (w.drewN n) fun e w'' => e = .returned v ∧ ∃ m, w'' = w.drewN m :=
  h.mono fun _ _ ⟨he, hm⟩ => ⟨he, n, hm.symm⟩
theorem Rw.drewN {w : World} {a : Option Addr} {L N : Nat} (h : Rw w a L N) (q : Nat) : Rw (w.drewN q) a L N := ⟨h.lt, h.cells⟩
theorem bel_drewN {B : Nat} {a w : World} (h : Below B a w) (q : Nat) : Below B a (w.drewN q) := ⟨h.os, h.tape, h.output, h.size, h.block⟩
theorem drewN_add (w : World) (a b : Nat) : ∃ n, (w.drewN a).drewN b = w.drewN n := ⟨a + b, by simp [World.drewN, Nat.add_assoc]⟩
theorem bcell {W w1 : World} (hb : Below W.heap.size W w1) : (∀ b o, b < W.heap.size → w1.cell? ⟨b, o, none⟩ = W.cell? ⟨b, o, none⟩) ∧ (∀ b o, b < W.heap.size → w1.frozen? ⟨b, o, none⟩ = W.frozen? ⟨b, o, none⟩) :=
  ⟨fun b o h => hb.cell (p := ⟨b, o, none⟩) h, fun b o h => hb.frozen (p := ⟨b, o, none⟩) h⟩
theorem NewN.of_own {w w' : World} {g L N base : Nat} (h : OwnR w g L N) (hb : Below w.heap.size w w') (hg : base ≤ g) : NewN base w' (.agg #[.slice (some ⟨g, 0, none⟩) (nl N) (nl N)]) N := by
  have h' := h.mono hb h.lt
  have hl : nl N ≤ L := nl_le_iff.2 h.1
  refine ⟨some ⟨g, 0, none⟩, nl N, rfl, Nat.le_refl _, fun _ => ⟨g, 0, rfl, hg, fun j hj => ?_, fun j _ => by rw [Nat.zero_add]; exact h'.frozen j⟩⟩
  rw [Nat.zero_add]; exact h'.cell (by omega)
theorem NewN.of_zero {w : World} {base : Nat} {a : Option Addr} {cap : Nat} : NewN base w (.agg #[.slice a 0 cap]) 0 := by
  have h : NewN base w (.agg #[.slice a (nl 0) cap]) 0 := ⟨a, cap, rfl, by rw [nl_zero]; omega, fun h => by rw [nl_zero] at h; omega⟩
  rwa [nl_zero] at h
theorem OwnR.two (w : World) (n : Nat) (hn : n < 18446744073709551616) : OwnR (w.alloc (.cells #[.int .u32 ((n : Int) % 4294967296), .int .u32 ((n : Int) / 4294967296)] 42)) w.heap.size 2 n := by
  refine ⟨hn, _, heap_alloc_new w _, ?_⟩
  have h1 : ((D n 1 : Nat) : Int) = (n : Int) / 4294967296 := by unfold D; rw [Nat.pow_one]; omega
  have h0 : ((D n 0 : Nat) : Int) = (n : Int) % 4294967296 := by unfold D; rw [Nat.pow_zero, Nat.div_one]; omega
  simp only [List.range, List.range.loop, List.map_cons, List.map_nil, h0, h1]
/-- The end of a contract that hands back a new number. -/
def RetNew (W : World) (n : Nat) (e : Ending) (w' : World) : Prop := ∃ v, e = .returned v ∧ NewN W.heap.size w' v n ∧ Below W.heap.size W w'
def RetN (W : World) (n : Nat) (e : Ending) (w' : World) : Prop := ∃ v, e = .returned v ∧ IsN w' v n ∧ Below W.heap.size W w'
theorem fin_new {W w0 w1 : World} {g L N r : Nat} {u : Value} (hb1 : Below W.heap.size W w0) (hown : OwnR w0 g L N) (hb2 : Below w0.heap.size w0 w1) (hg : W.heap.size ≤ g) (hr : W.heap.size ≤ r) (hne : r ≠ g) :
    RetNew W N (.returned (.agg #[.slice (some ⟨g, 0, none⟩) (nl N) (nl N)])) (w1.setCell ⟨r, 0, none⟩ u) :=
  ⟨_, rfl, NewN.of_own ((hown.mono hb2 hown.lt).setOther ⟨r, 0, none⟩ u hne) (Below.refl _ _) hg, (hb1.trans (hb2.mono hb1.size)).setCell hr u⟩
theorem fin_zero {W w1 : World} {a : Option Addr} {cap : Nat} (hb : Below W.heap.size W w1) : RetNew W 0 (.returned (.agg #[.slice a 0 cap])) w1 :=
  ⟨_, rfl, NewN.of_zero, hb⟩
/-- What a call hands back whose result variable is a Nat in memory. -/
theorem res_nat {fn : Func} {p : Tmp} (h : fn.results = #[.cell p 24]) (tmps : Array Value) (w : World) (r : Nat) (v : Value)
    (hp : tmps.getD p undef = .pointer (some ⟨r, 0, none⟩)) (hc : w.cell? ⟨r, 0, none⟩ = some v) : (results fn tmps).run Try.prog w = .ok (.agg #[v]) w := by
  have hp' : tmps[p]?.getD undef = .pointer (some ⟨r, 0, none⟩) := by simpa using hp
  simp [results, h, hp', asAddr, loadVar, go_sem, hc]
/-- The state behind 'out := make(..)': rc is the result variable's block, g the new row. -/
structure Made (w wx : World) (rc g : Nat) : Prop where
  below : Below w.heap.size w wx
  base : w.heap.size ≤ rc
  lt : rc < g
  size : g < wx.heap.size
  cell : wx.cell? ⟨rc, 0, none⟩ = some (.slice none 0 0)
  frozen : wx.frozen? ⟨rc, 0, none⟩ = false
theorem Made.step {w wx wr : World} {rc g : Nat} (h : Made w wx rc g) (hb : Below g wx wr) : Made w wr rc g :=
  ⟨h.below.trans (hb.mono (by have := h.base; have := h.lt; omega)), h.base, h.lt, Nat.lt_of_lt_of_le h.size hb.size,
   (hb.cell (p := ⟨rc, 0, none⟩) h.lt).trans h.cell, (hb.frozen (p := ⟨rc, 0, none⟩) h.lt).trans h.frozen⟩
theorem Made.after {w wx w1 : World} {rc g : Nat} (h : Made w wx rc g) (hb : Below wx.heap.size wx w1) : w1.cell? ⟨rc, 0, none⟩ = some (.slice none 0 0) ∧ w1.frozen? ⟨rc, 0, none⟩ = false :=
  ⟨(hb.cell (p := ⟨rc, 0, none⟩) (Nat.lt_trans h.lt h.size)).trans h.cell, (hb.frozen (p := ⟨rc, 0, none⟩) (Nat.lt_trans h.lt h.size)).trans h.frozen⟩
theorem Made.fin {w w0 w1 : World} {rc g L N : Nat} {u : Value} (h : Made w w0 rc g) (ho : OwnR w0 g L N) (hb : Below w0.heap.size w0 w1) :
    RetNew w N (.returned (.agg #[.slice (some ⟨g, 0, none⟩) (nl N) (nl N)])) (w1.setCell ⟨rc, 0, none⟩ u) :=
  fin_new h.below ho hb (by have := h.base; have := h.lt; omega) h.base (by have := h.lt; omega)
theorem res_nat2 {fn : Func} {p q : Tmp} (h : fn.results = #[.cell p 24, .tmp q]) (tmps : Array Value) (w : World) (r : Nat) (v u : Value)
    (hp : tmps.getD p undef = .pointer (some ⟨r, 0, none⟩)) (hq : tmps.getD q undef = u) (hc : w.cell? ⟨r, 0, none⟩ = some v) : (results fn tmps).run Try.prog w = .ok (.tuple #[.agg #[v], u]) w := by
  have hp' : tmps[p]?.getD undef = .pointer (some ⟨r, 0, none⟩) := by simpa using hp
  have hq' : tmps[q]?.getD undef = u := by simpa using hq
  simp [results, h, hp', hq', asAddr, loadVar, go_sem, hc]
/-- The state of a call with two result variables, r1 and r2, each a Nat in memory. -/
structure Res2 (w wx : World) (r1 r2 : Nat) : Prop where
  below : Below w.heap.size w wx
  base : w.heap.size ≤ r1
  lt : r1 < r2
  size : r2 < wx.heap.size
  cell1 : wx.cell? ⟨r1, 0, none⟩ = some (.slice none 0 0)
  cell2 : wx.cell? ⟨r2, 0, none⟩ = some (.slice none 0 0)
  frozen1 : wx.frozen? ⟨r1, 0, none⟩ = false
  frozen2 : wx.frozen? ⟨r2, 0, none⟩ = false
theorem Res2.step {w wx wr : World} {r1 r2 B : Nat} (h : Res2 w wx r1 r2) (hb : Below B wx wr) (hB : r2 < B) : Res2 w wr r1 r2 :=
  ⟨h.below.trans (hb.mono (by have := h.base; have := h.lt; omega)), h.base, h.lt, Nat.lt_of_lt_of_le h.size hb.size,
   (hb.cell (p := ⟨r1, 0, none⟩) (Nat.lt_trans h.lt hB)).trans h.cell1, (hb.cell (p := ⟨r2, 0, none⟩) hB).trans h.cell2, (hb.frozen (p := ⟨r1, 0, none⟩) (Nat.lt_trans h.lt hB)).trans h.frozen1, (hb.frozen (p := ⟨r2, 0, none⟩) hB).trans h.frozen2⟩
theorem Res2.after {w wx w1 : World} {r1 r2 : Nat} (h : Res2 w wx r1 r2) (hb : Below wx.heap.size wx w1) : Res2 w w1 r1 r2 := h.step hb h.size
theorem Res2.drewN {w wx : World} {r1 r2 : Nat} (h : Res2 w wx r1 r2) (q : Nat) : Res2 w (wx.drewN q) r1 r2 := h.after (bel_drewN (Below.refl _ _) q)
theorem Res2.fin {w wx : World} {r1 r2 : Nat} {q r : Nat} {vq vr u1 u2 : Value} (h : Res2 w wx r1 r2) (hq : NewN (r2 + 1) wx vq q) (hr : NewN (r2 + 1) wx vr r) :
    NewN w.heap.size ((wx.setCell ⟨r1, 0, none⟩ u1).setCell ⟨r2, 0, none⟩ u2) vq q ∧ NewN w.heap.size ((wx.setCell ⟨r1, 0, none⟩ u1).setCell ⟨r2, 0, none⟩ u2) vr r ∧ Below w.heap.size w ((wx.setCell ⟨r1, 0, none⟩ u1).setCell ⟨r2, 0, none⟩ u2) := by
  have h1 := h.base
  have h2 := h.lt
  have keep : ∀ {v : Value} {N : Nat}, NewN (r2 + 1) wx v N → NewN w.heap.size ((wx.setCell ⟨r1, 0, none⟩ u1).setCell ⟨r2, 0, none⟩ u2) v N := by
    rintro v N ⟨a, cap, rfl, hc, hx⟩
    refine ⟨a, cap, rfl, hc, fun hL => ?_⟩
    obtain ⟨b, off, rfl, hb, hd, hf⟩ := hx hL
    have e : ∀ k, k = b → ((wx.setCell ⟨r1, 0, none⟩ u1).setCell ⟨r2, 0, none⟩ u2).heap[k]? = wx.heap[k]? := by
      rintro k rfl
      rw [Below.heap_setCell _ _ _ _ (by show k ≠ r2; omega), Below.heap_setCell _ _ _ _ (by show k ≠ r1; omega)]
    exact ⟨b, off, rfl, by omega, fun j hj => (World.cell?_of_block (w := wx) (e b rfl)).trans (hd j hj), fun j hj => (World.frozen?_of_block (w := wx) (e b rfl)).trans (hf j hj)⟩
  exact ⟨keep hq, keep hr, (h.below.setCell h1 u1).setCell (by show w.heap.size ≤ r2; omega) u2⟩
end Go.Proofs.Ythpndmamegfbkaa
