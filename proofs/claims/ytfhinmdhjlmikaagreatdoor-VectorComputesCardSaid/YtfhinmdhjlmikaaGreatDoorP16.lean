/- An executor: strings, rows of strings. Package vector and its reference, by the executor. Arguments as they come in: which are looked at. The plain law of the texts of fractions: what is read is what is written. Texts with two spaces: what strings.Count and strings.Split give. The calls of package strings, of fraction's texts, for the executor. -/
import Derived.Test.YtfhinmdhjlmikaaGreatDoorP15
import Derived.Shelf.Strings.Split
import Derived.Shelf.Strings.Search3
import Derived.Shelf.Strings.Count
import Derived.Lib.IndexBytes
import Derived.Lib.SplitLaws
namespace Go.Proofs
open Go.Shelf Go.RowKit Go.Lib
variable {P : Program} {ρ : Ren}
/-- strings.Split at one byte: it needs nothing of the package's variables. -/
theorem Any.strings_Split_one (L : Lays.n146 P ρ) (hi9 : (P.info? (ρ.t 9)).map (fun i => (i.zero, i.size, i.bytes)) = some (some (.string ByteArray.empty), 1, 16)) (s : ByteArray) (b : UInt8) (w : World) (hs : s.size < 4294967281) :
    Calls P (ρ.f 146) #[.string s, .string ⟨#[b]⟩] w fun e w' =>
      e = .returned (.slice (some ⟨w.heap.size, 0, none⟩) (Lib.countB s ⟨#[b]⟩ + 1) (Lib.countB s ⟨#[b]⟩ + 1)) ∧ w' = w.alloc (.cells ((Lib.splitB ⟨#[b]⟩ 0 (Lib.countB s ⟨#[b]⟩) s).map Value.string).toArray (ρ.t 9)) := by
  have h1 : 1 ≤ (⟨#[b]⟩ : ByteArray).size := Nat.le_refl 1
  have hle := Lib.countB_le ⟨#[b]⟩ h1 s.size s (Nat.le_refl _)
  have hlen := Lib.splitB_all ⟨#[b]⟩ h1 0 _ s rfl
  have hI : ∀ (x : ByteArray) (c : Array Value), x.size ≤ s.size → Calls P (ρ.f 143) #[.string x, .string ⟨#[b]⟩] (w.alloc (.cells c (ρ.t 9))) fun e w' => e = .returned (.int .i64 (Lib.indexB x ⟨#[b]⟩)) ∧ w' = w.alloc (.cells c (ρ.t 9)) := by
    intro x c _
    refine (Any.strings_Index_one { L with } x b _).mono fun e w' ⟨he, hw⟩ => ⟨?_, hw⟩
    rw [he]
    show _ = Ending.returned (Value.int .i64 (Lib.index x.data.toList [b]))
    rw [Lib.index_one]
  have hC : Calls P (ρ.f 138) #[.string s, .string ⟨#[b]⟩] w fun e w' => e = .returned (.int .i64 (Lib.countB s ⟨#[b]⟩)) ∧ w' = w := by
    refine (Any.strings_Count_one { L with } s b w).mono fun e w' ⟨he, hw⟩ => ⟨?_, hw⟩
    rw [he]
    show _ = Ending.returned (Value.int .i64 ((Lib.count s.data.toList [b] : Nat) : Int))
    rw [Lib.count_one]
    rfl
  have c := Any.strings_genSplit_core { L with } hi9 s ⟨#[b]⟩ 0 (-1) (Lib.countB s ⟨#[b]⟩ + 1) w hs h1 (Nat.zero_le _) hI hC (by decide) (by decide) (by rw [if_pos (by decide)]; omega)
  rw [Nat.add_sub_cancel, hlen] at c
  have e2 : Lib.cellsOf (Lib.splitB ⟨#[b]⟩ 0 (Lib.countB s ⟨#[b]⟩) s) (Lib.countB s ⟨#[b]⟩ + 1) = ((Lib.splitB ⟨#[b]⟩ 0 (Lib.countB s ⟨#[b]⟩) s).map Value.string).toArray := by rw [← hlen]; exact Lib.cellsOf_full _
  rw [e2] at c
  clear hI hC e2 hlen hle
  have t3 := L.t3; have t9 := L.t9; have t31 := L.t31
  have a3 := L.a3; have a9 := L.a9; have a31 := L.a31
  have z3 := L.z3; have v3 := L.v3; have z9 := L.z9; have v9 := L.v9; have z31 := L.z31; have v31 := L.v31
  have e221 : ∀ args w, (callFunc (ρ.f 221) args).run P w = .ok (.enter (ρ.f 221) args) w := enters_of L.f221 (by kernel_rfl) rfl
  go_enter L.f146, Body.n146_ntmps ρ
  go_wp2_with (go_at_fn (ρ.f 221); refine c.mono ?_; rintro e w' ⟨rfl, hw⟩; rw [hw])
  go_ret
  exact ⟨rfl, rfl⟩
end Go.Proofs
namespace Go.Proofs.YtfhinmdhjlmikaaGreatDoor
set_option linter.unusedSimpArgs false
set_option linter.unusedVariables false
set_option maxRecDepth 100000
open Go.RowKit
/-- A row of strings. -/
def Vp.strs (l : List ByteArray) : Vp := ⟨fun w v => ∃ b o c cs, v = .slice (some ⟨b, o, none⟩) l.length c ∧ w.heap[b]? = some (.cells cs strT (0, 0)) ∧ ∀ j s, l[j]? = some s → cs[o + j]? = some (.string s),
  fun w w' v ⟨b, o, c, cs, e, h, k⟩ hb => ⟨b, o, c, cs, e, by rw [hb.block b (Array.getElem?_eq_some_iff.1 h).1]; exact h, k⟩,
  fun w w' g v ⟨b, o, c, cs, e, h, k⟩ ⟨cs', t, h1, _, h2⟩ u => ⟨b, o, c, cs, e, by
    rw [u.block b (fun e => by subst e; rw [h] at h1; injection h1 with h1; injection h1 with _ h1; exact h2 h1.symm)]; exact h, k⟩,
  fun w v ⟨b, o, c, cs, e, _⟩ => by subst e; exact ⟨fun _ h => by (cases h), fun _ h => by (cases h), fun _ h => by (cases h)⟩⟩
/-- The place of a string of such a row. -/
def Vp.strp (s : ByteArray) : Vp := ⟨fun w v => ∃ b o cs, v = .pointer (some ⟨b, o, none⟩) ∧ w.heap[b]? = some (.cells cs strT (0, 0)) ∧ cs[o]? = some (.string s),
  fun w w' v ⟨b, o, cs, e, h, k⟩ hb => ⟨b, o, cs, e, by rw [hb.block b (Array.getElem?_eq_some_iff.1 h).1]; exact h, k⟩,
  fun w w' g v ⟨b, o, cs, e, h, k⟩ ⟨cs', t, h1, _, h2⟩ u => ⟨b, o, cs, e, by
    rw [u.block b (fun e => by subst e; rw [h] at h1; injection h1 with h1; injection h1 with _ h1; exact h2 h1.symm)]; exact h, k⟩,
  fun w v ⟨b, o, cs, e, _⟩ => by subst e; exact ⟨fun _ h => by (cases h), fun _ h => by (cases h), fun _ h => by (cases h)⟩⟩
section
variable {ρ : Rho} {xs : List Fq} {ys : Rho} {n m k : Nat} {u v c : Int} {b : Bool} {s z : ByteArray} {t : TypeId} {B : Blk} {w : World} {l : List ByteArray} {ik : IntKind} {x : Value}
theorem flat_ik (h : ik ≠ .u32) : Flat (.int ik u) := ⟨fun _ h => by (cases h), fun _ h => by (cases h), fun _ e => by injection e with e; exact h e⟩
theorem leaf_val {v x : Value} (hn : ρ[n]? = some (.val v)) (h : (Leaf.ref n).holds ρ B w x) : x = v := by
  obtain ⟨s, h1, h2⟩ := h
  rw [hn] at h1; injection h1 with h1; subst h1; exact h2.1
theorem leaf_mk {v : Value} (hn : ρ[n]? = some (.val v)) (hf : Flat v) : (Leaf.ref n).holds ρ B w v := ⟨_, hn, rfl, hf⟩
def isStrB (p : Program) (t : TypeId) : Bool := match p.underlying t with | some .string => true | _ => false
theorem str_under (ht : isStrB Tryz.prog t = true) : Tryz.prog.underlying t = some .string := by
  unfold isStrB at ht
  split at ht
  · assumption
  · cases ht
theorem o_lenS (ht : isStrB Tryz.prog t = true) (hn : ρ[n]? = some (.val (.string s))) (hm : ρ[m]? = some (.val (.int .i64 (s.size : Int)))) : (OIns.mk (.len t) [.one (.ref n)] (.one (.ref m))).Ok Tryz.prog ρ := fun B w vs hv => by
  match vs, hv with
  | [v1], hv =>
    have e := leaf_val (B := B) hn hv.1
    subst e
    refine ⟨.int .i64 (s.size : Int), leaf_mk (B := B) hm flat_int, fun ts ty h0 => ?_⟩
    simp [Builtin.len_, h0, Sem.run_bind, run_underlying (str_under ht), Result.andThen, goInt]
/-- A byte of a string. -/
theorem o_idxS (ht : isStrB Tryz.prog t = true) (hn : ρ[n]? = some (.val (.string s))) (hm : ρ[m]? = some (.val (.int .u8 (by' s k : Int)))) (hk : k < s.size) (hc : c = (k : Int)) : (OIns.mk (.idx t) [.one (.ref n), .one (.i .i64 c)] (.one (.ref m))).Ok Tryz.prog ρ := fun B w vs hv => by
  match vs, hv with
  | [v1, v2], hv =>
    have e := leaf_val (B := B) hn hv.1
    subst e; subst hc
    have e2 : v2 = .int .i64 (k : Int) := hv.2.1
    subst e2
    refine ⟨.int .u8 (by' s k : Int), leaf_mk (B := B) hm (flat_ik (by decide)), ?_⟩
    have h1 : s[k]? = some s[k] := by simp [hk]
    simp [Instr.index, asIntOf, Sem.run_bind, run_underlying (str_under ht), Result.andThen, h1, by', hk]
theorem o_idxR (ht : isStrB Tryz.prog t = true) (hn : ρ[n]? = some (.val (.string s))) (hi : ρ[k]? = some (.val (.int .i64 u))) {b : Nat} (hm : ρ[m]? = some (.val (.int .u8 (b : Int)))) (h0 : 0 ≤ u) (hk : u.toNat < s.size) (hb : by' s u.toNat = b) : (OIns.mk (.idx t) [.one (.ref n), .one (.ref k)] (.one (.ref m))).Ok Tryz.prog ρ := fun B w vs hv => by
  match vs, hv with
  | [v1, v2], hv =>
    have e := leaf_val (B := B) hn hv.1
    have e2 := leaf_val (B := B) hi hv.2.1
    subst e; subst e2; subst hb
    refine ⟨.int .u8 (by' s u.toNat : Int), leaf_mk (B := B) hm (flat_ik (by decide)), ?_⟩
    have h1 : s[u.toNat]? = some s[u.toNat] := by simp [hk]
    simp [Instr.index, asIntOf, Sem.run_bind, run_underlying (str_under ht), Result.andThen, h1, by', hk, h0]
/-- A part of a string. -/
theorem o_slS (ht : isStrB Tryz.prog t = true) (hn : ρ[n]? = some (.val (.string s))) (hi : ρ[k]? = some (.val (.int .i64 u))) (hm : ρ[m]? = some (.val (.string z))) (h0 : 0 ≤ c) (h1 : c ≤ u) (h2 : u ≤ s.size) (hz : s.extract c.toNat u.toNat = z) : (OIns.mk (.sl t true true) [.one (.ref n), .one (.i .i64 c), .one (.ref k)] (.one (.ref m))).Ok Tryz.prog ρ := fun B w vs hv => by
  match vs, hv with
  | [v1, v2, v3], hv =>
    have e := leaf_val (B := B) hn hv.1
    have e2 : v2 = .int .i64 c := hv.2.1
    have e3 := leaf_val (B := B) hi hv.2.2.1
    subst e; subst e2; subst e3; subst hz
    refine ⟨.string (s.extract c.toNat u.toNat), leaf_mk (B := B) hm flat_str, ?_⟩
    have h3 : 0 ≤ u := by omega
    have h4 : c ≤ (u.toNat : Int) := by omega
    have h5 : c ≤ max u 0 := by omega
    simp [Instr.sliceAt, Instr.slice, Instr.sliceBounds, Instr.sliceBound, asIntOf, Sem.run_bind, run_underlying (str_under ht), Result.andThen, h0, h1, h2, h3, h4, h5]
/-- Strings put together. -/
theorem run_cat (ht : isStrB Tryz.prog t = true) {s z : ByteArray} (h : ((s.size + z.size : Nat) : Int) ≤ 9223372036854775807) (xo yo : Operand) : ((do eqGuard .add t xo yo (.string s) (.string z); binOp .add t (.string s) (.string z) : Sem Value)).run Tryz.prog w = .ok (.string (s ++ z)) w := by
  have h1 : ¬ ((s.size + z.size : Nat) : Int) > IntKind.i64.max := by
    have : IntKind.i64.max = 9223372036854775807 := by decide
    omega
  simp only [eqGuard, binOp, Op.stringOp, Sem.run_bind, Result.andThen]
  rw [if_neg h1]
  rfl
theorem o_catLR (ht : isStrB Tryz.prog t = true) (hn : ρ[n]? = some (.val (.string z))) (hm : ρ[m]? = some (.val (.string (s ++ z)))) (h : ((s.size + z.size : Nat) : Int) ≤ 9223372036854775807) : (OIns.mk (.bin .add t) [.one (.s s), .one (.ref n)] (.one (.ref m))).Ok Tryz.prog ρ := fun B w vs hv => by
  match vs, hv with
  | [v1, v2], hv =>
    have e : v1 = .string s := hv.1
    have e2 := leaf_val (B := B) hn hv.2.1
    subst e; subst e2
    exact ⟨_, leaf_mk (B := B) hm flat_str, fun xo yo => run_cat ht h xo yo⟩
theorem o_catRL (ht : isStrB Tryz.prog t = true) (hn : ρ[n]? = some (.val (.string s))) (hm : ρ[m]? = some (.val (.string (s ++ z)))) (h : ((s.size + z.size : Nat) : Int) ≤ 9223372036854775807) : (OIns.mk (.bin .add t) [.one (.ref n), .one (.s z)] (.one (.ref m))).Ok Tryz.prog ρ := fun B w vs hv => by
  match vs, hv with
  | [v1, v2], hv =>
    have e := leaf_val (B := B) hn hv.1
    have e2 : v2 = .string z := hv.2.1
    subst e; subst e2
    exact ⟨_, leaf_mk (B := B) hm flat_str, fun xo yo => run_cat ht h xo yo⟩
theorem o_catRR (ht : isStrB Tryz.prog t = true) (hn : ρ[n]? = some (.val (.string s))) (hk : ρ[k]? = some (.val (.string z))) (hm : ρ[m]? = some (.val (.string (s ++ z)))) (h : ((s.size + z.size : Nat) : Int) ≤ 9223372036854775807) : (OIns.mk (.bin .add t) [.one (.ref n), .one (.ref k)] (.one (.ref m))).Ok Tryz.prog ρ := fun B w vs hv => by
  match vs, hv with
  | [v1, v2], hv =>
    have e := leaf_val (B := B) hn hv.1
    have e2 := leaf_val (B := B) hk hv.2.1
    subst e; subst e2
    exact ⟨_, leaf_mk (B := B) hm flat_str, fun xo yo => run_cat ht h xo yo⟩
/-- Comparisons of a number of any kind with a constant; one less. -/
theorem o_eqlK (hn : ρ[n]? = some (.val (.int ik u))) (h : (u == c) = b) : (OIns.mk (.bin .eql t) [.one (.ref n), .one (.i ik c)] (.one (.b b))).Ok Tryz.prog ρ := fun B w vs hv => by
  match vs, hv with
  | [v1, v2], hv =>
    have e := leaf_val (B := B) hn hv.1
    have e2 : v2 = .int ik c := hv.2.1
    subst e; subst e2
    exact ⟨.bool b, rfl, fun xo yo => by simp [eqGuard, binOp, Op.intCmp, Sem.run_bind, Result.andThen, h]⟩
theorem o_neqK (hn : ρ[n]? = some (.val (.int ik u))) (h : (u != c) = b) : (OIns.mk (.bin .neq t) [.one (.ref n), .one (.i ik c)] (.one (.b b))).Ok Tryz.prog ρ := fun B w vs hv => by
  match vs, hv with
  | [v1, v2], hv =>
    have e := leaf_val (B := B) hn hv.1
    have e2 : v2 = .int ik c := hv.2.1
    subst e; subst e2
    exact ⟨.bool b, rfl, fun xo yo => by simp [eqGuard, binOp, Op.intCmp, Sem.run_bind, Result.andThen, h]⟩
theorem o_lssK (hn : ρ[n]? = some (.val (.int ik u))) (h : (decide (u < c)) = b) : (OIns.mk (.bin .lss t) [.one (.ref n), .one (.i ik c)] (.one (.b b))).Ok Tryz.prog ρ := fun B w vs hv => by
  match vs, hv with
  | [v1, v2], hv =>
    have e := leaf_val (B := B) hn hv.1
    have e2 : v2 = .int ik c := hv.2.1
    subst e; subst e2
    exact ⟨.bool b, rfl, fun xo yo => by rw [← h]; simp [eqGuard, binOp, Op.intCmp, Sem.run_bind, Result.andThen]⟩
theorem o_subK (hn : ρ[n]? = some (.val (.int .i64 u))) (hm : ρ[m]? = some (.val (.int .i64 v))) (hv : v = u - c) (h1 : -9223372036854775808 ≤ u - c) (h2 : u - c ≤ 9223372036854775807) : (OIns.mk (.bin .sub t) [.one (.ref n), .one (.i .i64 c)] (.one (.ref m))).Ok Tryz.prog ρ := fun B w vs hv' => by
  match vs, hv' with
  | [v1, v2], hv' =>
    have e := leaf_val (B := B) hn hv'.1
    have e2 : v2 = .int .i64 c := hv'.2.1
    subst e; subst e2; subst hv
    refine ⟨.int .i64 (u - c), leaf_mk (B := B) hm flat_int, fun xo yo => ?_⟩
    simp [eqGuard, binOp, Op.intArith, Sem.run_bind, Result.andThen, Go.IntWalk.i64_in _ ⟨h1, h2⟩]
/-- The place of a string of a row, and what lies there. -/
theorem o_iaS {e : TypeId} (hn : ρ[n]? = some (.strs l)) (hm : ρ[m]? = some (.strp s)) (ht : Tryz.prog.underlying t = some (.slice e)) (hz : szB Tryz.prog e = some 1) (hj : l[k]? = some s) : (OIns.mk (.ia t) [.one (.ref n), .one (.i .i64 (k : Int))] (.one (.ref m))).Ok Tryz.prog ρ := fun B w vs hv => by
  match vs, hv with
  | [v1, v2], hv =>
    obtain ⟨q, h1, h2⟩ := hv.1
    rw [hn] at h1; injection h1 with h1; subst h1
    obtain ⟨g, o, c, cs, e1, h3, h4⟩ := h2
    have e2 : v2 = .int .i64 (k : Int) := hv.2.1
    subst e1; subst e2
    refine ⟨.pointer (some ⟨g, o + k, none⟩), ⟨_, hm, g, o + k, cs, rfl, h3, h4 k s hj⟩, ?_⟩
    have hlt : k < l.length := (List.getElem?_eq_some_iff.1 hj).1
    simp [Instr.indexAt, asIntOf, Sem.run_bind, run_underlying ht, run_size hz, Result.andThen, hlt, add_off]
theorem o_ldS (hn : ρ[n]? = some (.strp s)) (hm : ρ[m]? = some (.val (.string s))) (ht : aggB Tryz.prog t = some false) : (OIns.mk (.ld t) [.one (.ref n)] (.one (.ref m))).Ok Tryz.prog ρ := fun B w vs hv => by
  match vs, hv with
  | [v1], hv =>
    obtain ⟨q, h1, h2⟩ := hv.1
    rw [hn] at h1; injection h1 with h1; subst h1
    obtain ⟨g, o, cs, e1, h3, h4⟩ := h2
    subst e1
    refine ⟨.string s, leaf_mk (B := B) hm flat_str, ?_⟩
    have := run_loadc (p := Tryz.prog) (w := w) (ad := ⟨g, o, none⟩) (v := .string s) (by rw [cell_at h3]; exact h4)
    simp [Instr.loadAt, Instr.sureAddr, loadVar, Sem.run_bind, run_agg ht, this, Result.andThen]
end
end Go.Proofs.YtfhinmdhjlmikaaGreatDoor
namespace Go.Proofs.YtfhinmdhjlmikaaGreatDoor
set_option linter.unusedSimpArgs false
set_option linter.unusedVariables false
set_option maxRecDepth 100000
open Go.RowKit
def xvEqual1X (a : Vq) (b : Vq) : List Fq := [a.x, a.y, a.z, b.x, b.y, b.z]
theorem q_vEqual1 (va vb : Value) (a : Vq) (b : Vq) (w : World) (ia : IsVq w va a) (ib : IsVq w vb b) (ha : a.ok 100000000) (hb : b.ok 100000000) (e0 : a = b) (ga : a.good) (gb : b.good) :
    Calls Tryz.prog 21 #[va, vb] w fun e w' => RetV w (.bool true) e w' := by
  refine (calls_runFn (ρ := frs (xvEqual1X a b) ++ []) (w := w) (fuel := 300) (args := [row [0, 1, 2], row [3, 4, 5]]) (vs := [va, vb]) (r := .v (.one (.b true)))
    (il_cons (I_fCmp (i := 0) (j := 3) rfl rfl (li ((o_zero ga.x gb.x).2 (congrArg Vq.x e0))) (ha.x.mono (by decide)) (hb.x.mono (by decide))) (il_cons (I_fCmp (i := 1) (j := 4) rfl rfl (li ((o_zero ga.y gb.y).2 (congrArg Vq.y e0))) (ha.y.mono (by decide)) (hb.y.mono (by decide))) (il_cons (I_fCmp (i := 2) (j := 5) rfl rfl (li ((o_zero ga.z gb.z).2 (congrArg Vq.z e0))) (ha.z.mono (by decide)) (hb.z.mono (by decide))) il_nil)))
    ol_nil (by kernel_rfl) Tryz.func21 (by kernel_rfl) ⟨(row_isL (xs := xvEqual1X a b) (ks := [0, 1, 2]) (vs := [a.x, a.y, a.z]) ⟨rfl, rfl, rfl, trivial⟩).2 ia, ⟨(row_isL (xs := xvEqual1X a b) (ks := [3, 4, 5]) (vs := [b.x, b.y, b.z]) ⟨rfl, rfl, rfl, trivial⟩).2 ib, trivial⟩⟩).mono ?_
  rintro e w' ⟨v, rfl, h1, h2⟩
  exact ⟨congrArg Ending.returned h1, h2⟩
theorem I_vEqual1 {xs : List Fq} {ys : Rho} {ka : List Nat} {kb : List Nat} {a : Vq} {b : Vq}  (aa : AtL xs ka [a.x, a.y, a.z]) (ab : AtL xs kb [b.x, b.y, b.z])  (ha : a.ok 100000000) (hb : b.ok 100000000) (e0 : a = b) (ga : a.good) (gb : b.good) : OkI xs ys ⟨21, [row ka, row kb], .v (.one (.b true))⟩ :=
  ⟨enters Tryz.func21 rfl rfl, fun B w vs h => by
    match vs, h with
    | [va, vb], h =>
      refine (q_vEqual1 va vb a b w ((row_isL aa).1 h.1) ((row_isL ab).1 h.2.1) ha hb e0 ga gb).mono ?_
      rintro e w' ⟨rfl, h2⟩
      exact ⟨_, rfl, rfl, h2⟩⟩
def xvEqual0X (a : Vq) (b : Vq) : List Fq := [a.x, a.y, a.z, b.x, b.y, b.z]
def xvEqual01X (a : Vq) (b : Vq) : List Fq := [a.x, a.y, a.z, b.x, b.y, b.z]
def xvEqual02X (a : Vq) (b : Vq) : List Fq := [a.x, a.y, a.z, b.x, b.y, b.z]
theorem q_vEqual0 (va vb : Value) (a : Vq) (b : Vq) (w : World) (ia : IsVq w va a) (ib : IsVq w vb b) (ha : a.ok 100000000) (hb : b.ok 100000000) (e0 : a ≠ b) (ga : a.good) (gb : b.good) :
    Calls Tryz.prog 21 #[va, vb] w fun e w' => RetV w (.bool false) e w' := by
  by_cases c0 : a.x = b.x
  · by_cases c1 : a.y = b.y
    · by_cases c2 : a.z = b.z
      · exact absurd (by cases a; cases b; simp only at c0 c1 c2; subst c0 c1 c2; rfl) e0
      · refine (calls_runFn (ρ := frs (xvEqual0X a b) ++ [.val (.int .i64 (a.z.cmp b.z))]) (w := w) (fuel := 300) (args := [row [0, 1, 2], row [3, 4, 5]]) (vs := [va, vb]) (r := .v (.one (.b false)))
          (il_cons (I_fCmp (i := 0) (j := 3) rfl rfl (li ((o_zero ga.x gb.x).2 c0)) (ha.x.mono (by decide)) (hb.x.mono (by decide))) (il_cons (I_fCmp (i := 1) (j := 4) rfl rfl (li ((o_zero ga.y gb.y).2 c1)) (ha.y.mono (by decide)) (hb.y.mono (by decide))) (il_cons (I_fCmp (i := 2) (j := 5) rfl rfl (lr (n := 18) rfl) (ha.z.mono (by decide)) (hb.z.mono (by decide))) il_nil)))
          (ol_cons (o_eqlK (n := 18) (c := 0) (u := (a.z.cmp b.z)) (b := false) (t := 3) rfl (ne_eql (mt (o_zero ga.z gb.z).1 c2))) (ol_nil)) (by kernel_rfl) Tryz.func21 (by kernel_rfl) ⟨(row_isL (xs := xvEqual0X a b) (ks := [0, 1, 2]) (vs := [a.x, a.y, a.z]) ⟨rfl, rfl, rfl, trivial⟩).2 ia, ⟨(row_isL (xs := xvEqual0X a b) (ks := [3, 4, 5]) (vs := [b.x, b.y, b.z]) ⟨rfl, rfl, rfl, trivial⟩).2 ib, trivial⟩⟩).mono ?_
        rintro e w' ⟨v, rfl, h1, h2⟩
        exact ⟨congrArg Ending.returned h1, h2⟩
    · refine (calls_runFn (ρ := frs (xvEqual01X a b) ++ [.val (.int .i64 (a.y.cmp b.y))]) (w := w) (fuel := 300) (args := [row [0, 1, 2], row [3, 4, 5]]) (vs := [va, vb]) (r := .v (.one (.b false)))
        (il_cons (I_fCmp (i := 0) (j := 3) rfl rfl (li ((o_zero ga.x gb.x).2 c0)) (ha.x.mono (by decide)) (hb.x.mono (by decide))) (il_cons (I_fCmp (i := 1) (j := 4) rfl rfl (lr (n := 18) rfl) (ha.y.mono (by decide)) (hb.y.mono (by decide))) il_nil))
        (ol_cons (o_eqlK (n := 18) (c := 0) (u := (a.y.cmp b.y)) (b := false) (t := 3) rfl (ne_eql (mt (o_zero ga.y gb.y).1 c1))) (ol_nil)) (by kernel_rfl) Tryz.func21 (by kernel_rfl) ⟨(row_isL (xs := xvEqual01X a b) (ks := [0, 1, 2]) (vs := [a.x, a.y, a.z]) ⟨rfl, rfl, rfl, trivial⟩).2 ia, ⟨(row_isL (xs := xvEqual01X a b) (ks := [3, 4, 5]) (vs := [b.x, b.y, b.z]) ⟨rfl, rfl, rfl, trivial⟩).2 ib, trivial⟩⟩).mono ?_
      rintro e w' ⟨v, rfl, h1, h2⟩
      exact ⟨congrArg Ending.returned h1, h2⟩
  · refine (calls_runFn (ρ := frs (xvEqual02X a b) ++ [.val (.int .i64 (a.x.cmp b.x))]) (w := w) (fuel := 300) (args := [row [0, 1, 2], row [3, 4, 5]]) (vs := [va, vb]) (r := .v (.one (.b false)))
      (il_cons (I_fCmp (i := 0) (j := 3) rfl rfl (lr (n := 18) rfl) (ha.x.mono (by decide)) (hb.x.mono (by decide))) il_nil)
      (ol_cons (o_eqlK (n := 18) (c := 0) (u := (a.x.cmp b.x)) (b := false) (t := 3) rfl (ne_eql (mt (o_zero ga.x gb.x).1 c0))) (ol_nil)) (by kernel_rfl) Tryz.func21 (by kernel_rfl) ⟨(row_isL (xs := xvEqual02X a b) (ks := [0, 1, 2]) (vs := [a.x, a.y, a.z]) ⟨rfl, rfl, rfl, trivial⟩).2 ia, ⟨(row_isL (xs := xvEqual02X a b) (ks := [3, 4, 5]) (vs := [b.x, b.y, b.z]) ⟨rfl, rfl, rfl, trivial⟩).2 ib, trivial⟩⟩).mono ?_
    rintro e w' ⟨v, rfl, h1, h2⟩
    exact ⟨congrArg Ending.returned h1, h2⟩
theorem I_vEqual0 {xs : List Fq} {ys : Rho} {ka : List Nat} {kb : List Nat} {a : Vq} {b : Vq}  (aa : AtL xs ka [a.x, a.y, a.z]) (ab : AtL xs kb [b.x, b.y, b.z])  (ha : a.ok 100000000) (hb : b.ok 100000000) (e0 : a ≠ b) (ga : a.good) (gb : b.good) : OkI xs ys ⟨21, [row ka, row kb], .v (.one (.b false))⟩ :=
  ⟨enters Tryz.func21 rfl rfl, fun B w vs h => by
    match vs, h with
    | [va, vb], h =>
      refine (q_vEqual0 va vb a b w ((row_isL aa).1 h.1) ((row_isL ab).1 h.2.1) ha hb e0 ga gb).mono ?_
      rintro e w' ⟨rfl, h2⟩
      exact ⟨_, rfl, rfl, h2⟩⟩
def xvLerpX (a : Vq) (b : Vq) (k : Fq) : List Fq := [a.x, a.y, a.z, b.x, b.y, b.z, k, (b.sub a).x, (b.sub a).y, (b.sub a).z, ((b.sub a).scale k).x, ((b.sub a).scale k).y, ((b.sub a).scale k).z, (a.add ((b.sub a).scale k)).x, (a.add ((b.sub a).scale k)).y, (a.add ((b.sub a).scale k)).z]
theorem q_vLerp (va vb vk : Value) (a : Vq) (b : Vq) (k : Fq) (w : World) (ia : IsVq w va a) (ib : IsVq w vb b) (ik : IsQ w vk k) (ha : a.ok 10000000) (hb : b.ok 10000000) (hk : k.ok 10000000) :
    Calls Tryz.prog 19 #[va, vb, vk] w fun e w' => RetVq w (a.lerp b k) e w' := by
  refine (calls_runFn (ρ := frs (xvLerpX a b k) ++ []) (w := w) (fuel := 300) (args := [row [0, 1, 2], row [3, 4, 5], fr 6]) (vs := [va, vb, vk]) (r := .v (row [13, 14, 15]))
    (il_cons (I_vSub (ka := [3, 4, 5]) (a := b) (kb := [0, 1, 2]) (b := a) (kr := [7, 8, 9]) ⟨rfl, rfl, rfl, trivial⟩ ⟨rfl, rfl, rfl, trivial⟩ ⟨rfl, rfl, rfl, trivial⟩ (hb.mono (by decide)) (ha.mono (by decide))) (il_cons (I_vScale (ka := [7, 8, 9]) (a := (b.sub a)) (ik := 6) (kr := [10, 11, 12]) ⟨rfl, rfl, rfl, trivial⟩ rfl ⟨rfl, rfl, rfl, trivial⟩ ((hb.sub ha).mono (by decide)) (hk.mono (by decide))) (il_cons (I_vAdd (ka := [0, 1, 2]) (a := a) (kb := [10, 11, 12]) (b := ((b.sub a).scale k)) (kr := [13, 14, 15]) ⟨rfl, rfl, rfl, trivial⟩ ⟨rfl, rfl, rfl, trivial⟩ ⟨rfl, rfl, rfl, trivial⟩ (ha.mono (by decide)) (((hb.sub ha).scale hk).mono (by decide))) il_nil)))
    ol_nil (by kernel_rfl) Tryz.func19 (by kernel_rfl) ⟨(row_isL (xs := xvLerpX a b k) (ks := [0, 1, 2]) (vs := [a.x, a.y, a.z]) ⟨rfl, rfl, rfl, trivial⟩).2 ia, ⟨(row_isL (xs := xvLerpX a b k) (ks := [3, 4, 5]) (vs := [b.x, b.y, b.z]) ⟨rfl, rfl, rfl, trivial⟩).2 ib, ⟨(fr_isQ (xs := xvLerpX a b k) (k := 6) rfl).2 ik, trivial⟩⟩⟩).mono ?_
  rintro e w' ⟨v, rfl, h1, h2⟩
  exact ⟨v, rfl, (row_isL (xs := xvLerpX a b k) (ks := [13, 14, 15]) (vs := [(a.add ((b.sub a).scale k)).x, (a.add ((b.sub a).scale k)).y, (a.add ((b.sub a).scale k)).z]) ⟨rfl, rfl, rfl, trivial⟩).1 h1, h2⟩
theorem I_vLerp {xs : List Fq} {ys : Rho} {ka : List Nat} {kb : List Nat} {ik : Nat} {a : Vq} {b : Vq} {k : Fq} {kr : List Nat} (aa : AtL xs ka [a.x, a.y, a.z]) (ab : AtL xs kb [b.x, b.y, b.z]) (ak : xs[ik]? = some k) (ar : AtL xs kr [(a.lerp b k).x, (a.lerp b k).y, (a.lerp b k).z]) (ha : a.ok 10000000) (hb : b.ok 10000000) (hk : k.ok 10000000) : OkI xs ys ⟨19, [row ka, row kb, fr ik], .v (row kr)⟩ :=
  ⟨enters Tryz.func19 rfl rfl, fun B w vs h => by
    match vs, h with
    | [va, vb, vk], h =>
      refine (q_vLerp va vb vk a b k w ((row_isL aa).1 h.1) ((row_isL ab).1 h.2.1) ((fr_isQ ak).1 h.2.2.1) ha hb hk).mono ?_
      rintro e w' ⟨v, rfl, h1, h2⟩
      exact ⟨v, rfl, (row_isL ar).2 h1, h2⟩⟩
def xr4AddX (a : Vq) (b : Vq) : List Fq := [a.x, a.y, a.z, b.x, b.y, b.z, (a.x.add b.x), (a.y.add b.y), (a.z.add b.z)]
theorem q_r4Add (va vb : Value) (a : Vq) (b : Vq) (w : World) (ia : IsVq w va a) (ib : IsVq w vb b) (ha : a.ok 100000000) (hb : b.ok 100000000) :
    Calls Tryz.prog 9 #[va, vb] w fun e w' => RetVq w (a.add b) e w' := by
  refine (calls_runFn (ρ := frs (xr4AddX a b) ++ []) (w := w) (fuel := 300) (args := [row [0, 1, 2], row [3, 4, 5]]) (vs := [va, vb]) (r := .v (row [6, 7, 8]))
    (il_cons (I_rAdd (i := 0) (j := 3) (k := 6) rfl rfl rfl (ha.x.mono (by decide)) (hb.x.mono (by decide))) (il_cons (I_rAdd (i := 1) (j := 4) (k := 7) rfl rfl rfl (ha.y.mono (by decide)) (hb.y.mono (by decide))) (il_cons (I_rAdd (i := 2) (j := 5) (k := 8) rfl rfl rfl (ha.z.mono (by decide)) (hb.z.mono (by decide))) il_nil)))
    ol_nil (by kernel_rfl) Tryz.func9 (by kernel_rfl) ⟨(row_isL (xs := xr4AddX a b) (ks := [0, 1, 2]) (vs := [a.x, a.y, a.z]) ⟨rfl, rfl, rfl, trivial⟩).2 ia, ⟨(row_isL (xs := xr4AddX a b) (ks := [3, 4, 5]) (vs := [b.x, b.y, b.z]) ⟨rfl, rfl, rfl, trivial⟩).2 ib, trivial⟩⟩).mono ?_
  rintro e w' ⟨v, rfl, h1, h2⟩
  exact ⟨v, rfl, (row_isL (xs := xr4AddX a b) (ks := [6, 7, 8]) (vs := [(a.x.add b.x), (a.y.add b.y), (a.z.add b.z)]) ⟨rfl, rfl, rfl, trivial⟩).1 h1, h2⟩
theorem I_r4Add {xs : List Fq} {ys : Rho} {ka : List Nat} {kb : List Nat} {a : Vq} {b : Vq} {kr : List Nat} (aa : AtL xs ka [a.x, a.y, a.z]) (ab : AtL xs kb [b.x, b.y, b.z]) (ar : AtL xs kr [(a.add b).x, (a.add b).y, (a.add b).z]) (ha : a.ok 100000000) (hb : b.ok 100000000) : OkI xs ys ⟨9, [row ka, row kb], .v (row kr)⟩ :=
  ⟨enters Tryz.func9 rfl rfl, fun B w vs h => by
    match vs, h with
    | [va, vb], h =>
      refine (q_r4Add va vb a b w ((row_isL aa).1 h.1) ((row_isL ab).1 h.2.1) ha hb).mono ?_
      rintro e w' ⟨v, rfl, h1, h2⟩
      exact ⟨v, rfl, (row_isL ar).2 h1, h2⟩⟩
def xr4SubX (a : Vq) (b : Vq) : List Fq := [a.x, a.y, a.z, b.x, b.y, b.z, (a.x.sub b.x), (a.y.sub b.y), (a.z.sub b.z)]
theorem q_r4Sub (va vb : Value) (a : Vq) (b : Vq) (w : World) (ia : IsVq w va a) (ib : IsVq w vb b) (ha : a.ok 100000000) (hb : b.ok 100000000) :
    Calls Tryz.prog 11 #[va, vb] w fun e w' => RetVq w (a.sub b) e w' := by
  refine (calls_runFn (ρ := frs (xr4SubX a b) ++ []) (w := w) (fuel := 300) (args := [row [0, 1, 2], row [3, 4, 5]]) (vs := [va, vb]) (r := .v (row [6, 7, 8]))
    (il_cons (I_rSub (i := 0) (j := 3) (k := 6) rfl rfl rfl (ha.x.mono (by decide)) (hb.x.mono (by decide))) (il_cons (I_rSub (i := 1) (j := 4) (k := 7) rfl rfl rfl (ha.y.mono (by decide)) (hb.y.mono (by decide))) (il_cons (I_rSub (i := 2) (j := 5) (k := 8) rfl rfl rfl (ha.z.mono (by decide)) (hb.z.mono (by decide))) il_nil)))
    ol_nil (by kernel_rfl) Tryz.func11 (by kernel_rfl) ⟨(row_isL (xs := xr4SubX a b) (ks := [0, 1, 2]) (vs := [a.x, a.y, a.z]) ⟨rfl, rfl, rfl, trivial⟩).2 ia, ⟨(row_isL (xs := xr4SubX a b) (ks := [3, 4, 5]) (vs := [b.x, b.y, b.z]) ⟨rfl, rfl, rfl, trivial⟩).2 ib, trivial⟩⟩).mono ?_
  rintro e w' ⟨v, rfl, h1, h2⟩
  exact ⟨v, rfl, (row_isL (xs := xr4SubX a b) (ks := [6, 7, 8]) (vs := [(a.x.sub b.x), (a.y.sub b.y), (a.z.sub b.z)]) ⟨rfl, rfl, rfl, trivial⟩).1 h1, h2⟩
theorem I_r4Sub {xs : List Fq} {ys : Rho} {ka : List Nat} {kb : List Nat} {a : Vq} {b : Vq} {kr : List Nat} (aa : AtL xs ka [a.x, a.y, a.z]) (ab : AtL xs kb [b.x, b.y, b.z]) (ar : AtL xs kr [(a.sub b).x, (a.sub b).y, (a.sub b).z]) (ha : a.ok 100000000) (hb : b.ok 100000000) : OkI xs ys ⟨11, [row ka, row kb], .v (row kr)⟩ :=
  ⟨enters Tryz.func11 rfl rfl, fun B w vs h => by
    match vs, h with
    | [va, vb], h =>
      refine (q_r4Sub va vb a b w ((row_isL aa).1 h.1) ((row_isL ab).1 h.2.1) ha hb).mono ?_
      rintro e w' ⟨v, rfl, h1, h2⟩
      exact ⟨v, rfl, (row_isL ar).2 h1, h2⟩⟩
def xr4ScaleX (a : Vq) (k : Fq) : List Fq := [a.x, a.y, a.z, k, (a.x.mul k), (a.y.mul k), (a.z.mul k)]
theorem q_r4Scale (va vk : Value) (a : Vq) (k : Fq) (w : World) (ia : IsVq w va a) (ik : IsQ w vk k) (ha : a.ok 100000000) (hk : k.ok 100000000) :
    Calls Tryz.prog 13 #[va, vk] w fun e w' => RetVq w (a.scale k) e w' := by
  refine (calls_runFn (ρ := frs (xr4ScaleX a k) ++ []) (w := w) (fuel := 300) (args := [row [0, 1, 2], fr 3]) (vs := [va, vk]) (r := .v (row [4, 5, 6]))
    (il_cons (I_rMul (i := 0) (j := 3) (k := 4) rfl rfl rfl (ha.x.mono (by decide)) (hk.mono (by decide))) (il_cons (I_rMul (i := 1) (j := 3) (k := 5) rfl rfl rfl (ha.y.mono (by decide)) (hk.mono (by decide))) (il_cons (I_rMul (i := 2) (j := 3) (k := 6) rfl rfl rfl (ha.z.mono (by decide)) (hk.mono (by decide))) il_nil)))
    ol_nil (by kernel_rfl) Tryz.func13 (by kernel_rfl) ⟨(row_isL (xs := xr4ScaleX a k) (ks := [0, 1, 2]) (vs := [a.x, a.y, a.z]) ⟨rfl, rfl, rfl, trivial⟩).2 ia, ⟨(fr_isQ (xs := xr4ScaleX a k) (k := 3) rfl).2 ik, trivial⟩⟩).mono ?_
  rintro e w' ⟨v, rfl, h1, h2⟩
  exact ⟨v, rfl, (row_isL (xs := xr4ScaleX a k) (ks := [4, 5, 6]) (vs := [(a.x.mul k), (a.y.mul k), (a.z.mul k)]) ⟨rfl, rfl, rfl, trivial⟩).1 h1, h2⟩
theorem I_r4Scale {xs : List Fq} {ys : Rho} {ka : List Nat} {ik : Nat} {a : Vq} {k : Fq} {kr : List Nat} (aa : AtL xs ka [a.x, a.y, a.z]) (ak : xs[ik]? = some k) (ar : AtL xs kr [(a.scale k).x, (a.scale k).y, (a.scale k).z]) (ha : a.ok 100000000) (hk : k.ok 100000000) : OkI xs ys ⟨13, [row ka, fr ik], .v (row kr)⟩ :=
  ⟨enters Tryz.func13 rfl rfl, fun B w vs h => by
    match vs, h with
    | [va, vk], h =>
      refine (q_r4Scale va vk a k w ((row_isL aa).1 h.1) ((fr_isQ ak).1 h.2.1) ha hk).mono ?_
      rintro e w' ⟨v, rfl, h1, h2⟩
      exact ⟨v, rfl, (row_isL ar).2 h1, h2⟩⟩
def xr4DotX (a : Vq) (b : Vq) : List Fq := [a.x, a.y, a.z, b.x, b.y, b.z, (a.x.mul b.x), (a.y.mul b.y), (a.z.mul b.z), ((a.y.mul b.y).add (a.z.mul b.z)), ((a.x.mul b.x).add ((a.y.mul b.y).add (a.z.mul b.z)))]
theorem q_r4Dot (va vb : Value) (a : Vq) (b : Vq) (w : World) (ia : IsVq w va a) (ib : IsVq w vb b) (ha : a.ok 100000000) (hb : b.ok 100000000) :
    Calls Tryz.prog 16 #[va, vb] w fun e w' => RetQ w (a.dot b) e w' := by
  refine (calls_runFn (ρ := frs (xr4DotX a b) ++ []) (w := w) (fuel := 300) (args := [row [0, 1, 2], row [3, 4, 5]]) (vs := [va, vb]) (r := .v (fr 10))
    (il_cons (I_rMul (i := 0) (j := 3) (k := 6) rfl rfl rfl (ha.x.mono (by decide)) (hb.x.mono (by decide))) (il_cons (I_rMul (i := 1) (j := 4) (k := 7) rfl rfl rfl (ha.y.mono (by decide)) (hb.y.mono (by decide))) (il_cons (I_rMul (i := 2) (j := 5) (k := 8) rfl rfl rfl (ha.z.mono (by decide)) (hb.z.mono (by decide))) (il_cons (I_rAdd (i := 7) (j := 8) (k := 9) rfl rfl rfl ((ha.y.mul hb.y).mono (by decide)) ((ha.z.mul hb.z).mono (by decide))) (il_cons (I_rAdd (i := 6) (j := 9) (k := 10) rfl rfl rfl ((ha.x.mul hb.x).mono (by decide)) (((ha.y.mul hb.y).add (ha.z.mul hb.z)).mono (by decide))) il_nil)))))
    ol_nil (by kernel_rfl) Tryz.func16 (by kernel_rfl) ⟨(row_isL (xs := xr4DotX a b) (ks := [0, 1, 2]) (vs := [a.x, a.y, a.z]) ⟨rfl, rfl, rfl, trivial⟩).2 ia, ⟨(row_isL (xs := xr4DotX a b) (ks := [3, 4, 5]) (vs := [b.x, b.y, b.z]) ⟨rfl, rfl, rfl, trivial⟩).2 ib, trivial⟩⟩).mono ?_
  rintro e w' ⟨v, rfl, h1, h2⟩
  exact ⟨v, rfl, (fr_isQ (xs := xr4DotX a b) (k := 10) rfl).1 h1, h2⟩
theorem I_r4Dot {xs : List Fq} {ys : Rho} {ka : List Nat} {kb : List Nat} {a : Vq} {b : Vq} {ir : Nat} (aa : AtL xs ka [a.x, a.y, a.z]) (ab : AtL xs kb [b.x, b.y, b.z]) (ar : xs[ir]? = some (a.dot b)) (ha : a.ok 100000000) (hb : b.ok 100000000) : OkI xs ys ⟨16, [row ka, row kb], .v (fr ir)⟩ :=
  ⟨enters Tryz.func16 rfl rfl, fun B w vs h => by
    match vs, h with
    | [va, vb], h =>
      refine (q_r4Dot va vb a b w ((row_isL aa).1 h.1) ((row_isL ab).1 h.2.1) ha hb).mono ?_
      rintro e w' ⟨v, rfl, h1, h2⟩
      exact ⟨v, rfl, (fr_isQ ar).2 h1, h2⟩⟩
def xr4minorX (ma : Fq) (mb : Fq) (mc : Fq) (md : Fq) : List Fq := [ma, mb, mc, md, (ma.mul md), (mb.mul mc), ((ma.mul md).sub (mb.mul mc))]
theorem q_r4minor (vma vmb vmc vmd : Value) (ma : Fq) (mb : Fq) (mc : Fq) (md : Fq) (w : World) (ima : IsQ w vma ma) (imb : IsQ w vmb mb) (imc : IsQ w vmc mc) (imd : IsQ w vmd md) (hma : ma.ok 100000000) (hmb : mb.ok 100000000) (hmc : mc.ok 100000000) (hmd : md.ok 100000000) :
    Calls Tryz.prog 39 #[vma, vmb, vmc, vmd] w fun e w' => RetQ w ((ma.mul md).sub (mb.mul mc)) e w' := by
  refine (calls_runFn (ρ := frs (xr4minorX ma mb mc md) ++ []) (w := w) (fuel := 300) (args := [fr 0, fr 1, fr 2, fr 3]) (vs := [vma, vmb, vmc, vmd]) (r := .v (fr 6))
    (il_cons (I_rMul (i := 0) (j := 3) (k := 4) rfl rfl rfl (hma.mono (by decide)) (hmd.mono (by decide))) (il_cons (I_rMul (i := 1) (j := 2) (k := 5) rfl rfl rfl (hmb.mono (by decide)) (hmc.mono (by decide))) (il_cons (I_rSub (i := 4) (j := 5) (k := 6) rfl rfl rfl ((hma.mul hmd).mono (by decide)) ((hmb.mul hmc).mono (by decide))) il_nil)))
    ol_nil (by kernel_rfl) Tryz.func39 (by kernel_rfl) ⟨(fr_isQ (xs := xr4minorX ma mb mc md) (k := 0) rfl).2 ima, ⟨(fr_isQ (xs := xr4minorX ma mb mc md) (k := 1) rfl).2 imb, ⟨(fr_isQ (xs := xr4minorX ma mb mc md) (k := 2) rfl).2 imc, ⟨(fr_isQ (xs := xr4minorX ma mb mc md) (k := 3) rfl).2 imd, trivial⟩⟩⟩⟩).mono ?_
  rintro e w' ⟨v, rfl, h1, h2⟩
  exact ⟨v, rfl, (fr_isQ (xs := xr4minorX ma mb mc md) (k := 6) rfl).1 h1, h2⟩
theorem I_r4minor {xs : List Fq} {ys : Rho} {ima : Nat} {imb : Nat} {imc : Nat} {imd : Nat} {ma : Fq} {mb : Fq} {mc : Fq} {md : Fq} {ir : Nat} (ama : xs[ima]? = some ma) (amb : xs[imb]? = some mb) (amc : xs[imc]? = some mc) (amd : xs[imd]? = some md) (ar : xs[ir]? = some ((ma.mul md).sub (mb.mul mc))) (hma : ma.ok 100000000) (hmb : mb.ok 100000000) (hmc : mc.ok 100000000) (hmd : md.ok 100000000) : OkI xs ys ⟨39, [fr ima, fr imb, fr imc, fr imd], .v (fr ir)⟩ :=
  ⟨enters Tryz.func39 rfl rfl, fun B w vs h => by
    match vs, h with
    | [vma, vmb, vmc, vmd], h =>
      refine (q_r4minor vma vmb vmc vmd ma mb mc md w ((fr_isQ ama).1 h.1) ((fr_isQ amb).1 h.2.1) ((fr_isQ amc).1 h.2.2.1) ((fr_isQ amd).1 h.2.2.2.1) hma hmb hmc hmd).mono ?_
      rintro e w' ⟨v, rfl, h1, h2⟩
      exact ⟨v, rfl, (fr_isQ ar).2 h1, h2⟩⟩
def xr4CrossX (a : Vq) (b : Vq) : List Fq := [a.x, a.y, a.z, b.x, b.y, b.z, ((a.y.mul b.z).sub (a.z.mul b.y)), ((a.z.mul b.x).sub (a.x.mul b.z)), ((a.x.mul b.y).sub (a.y.mul b.x))]
theorem q_r4Cross (va vb : Value) (a : Vq) (b : Vq) (w : World) (ia : IsVq w va a) (ib : IsVq w vb b) (ha : a.ok 100000000) (hb : b.ok 100000000) :
    Calls Tryz.prog 18 #[va, vb] w fun e w' => RetVq w (a.cross b) e w' := by
  refine (calls_runFn (ρ := frs (xr4CrossX a b) ++ []) (w := w) (fuel := 300) (args := [row [0, 1, 2], row [3, 4, 5]]) (vs := [va, vb]) (r := .v (row [6, 7, 8]))
    (il_cons (I_r4minor (ima := 1) (imb := 2) (imc := 4) (imd := 5) (ir := 6) rfl rfl rfl rfl rfl (ha.y.mono (by decide)) (ha.z.mono (by decide)) (hb.y.mono (by decide)) (hb.z.mono (by decide))) (il_cons (I_r4minor (ima := 2) (imb := 0) (imc := 5) (imd := 3) (ir := 7) rfl rfl rfl rfl rfl (ha.z.mono (by decide)) (ha.x.mono (by decide)) (hb.z.mono (by decide)) (hb.x.mono (by decide))) (il_cons (I_r4minor (ima := 0) (imb := 1) (imc := 3) (imd := 4) (ir := 8) rfl rfl rfl rfl rfl (ha.x.mono (by decide)) (ha.y.mono (by decide)) (hb.x.mono (by decide)) (hb.y.mono (by decide))) il_nil)))
    ol_nil (by kernel_rfl) Tryz.func18 (by kernel_rfl) ⟨(row_isL (xs := xr4CrossX a b) (ks := [0, 1, 2]) (vs := [a.x, a.y, a.z]) ⟨rfl, rfl, rfl, trivial⟩).2 ia, ⟨(row_isL (xs := xr4CrossX a b) (ks := [3, 4, 5]) (vs := [b.x, b.y, b.z]) ⟨rfl, rfl, rfl, trivial⟩).2 ib, trivial⟩⟩).mono ?_
  rintro e w' ⟨v, rfl, h1, h2⟩
  exact ⟨v, rfl, (row_isL (xs := xr4CrossX a b) (ks := [6, 7, 8]) (vs := [((a.y.mul b.z).sub (a.z.mul b.y)), ((a.z.mul b.x).sub (a.x.mul b.z)), ((a.x.mul b.y).sub (a.y.mul b.x))]) ⟨rfl, rfl, rfl, trivial⟩).1 h1, h2⟩
theorem I_r4Cross {xs : List Fq} {ys : Rho} {ka : List Nat} {kb : List Nat} {a : Vq} {b : Vq} {kr : List Nat} (aa : AtL xs ka [a.x, a.y, a.z]) (ab : AtL xs kb [b.x, b.y, b.z]) (ar : AtL xs kr [(a.cross b).x, (a.cross b).y, (a.cross b).z]) (ha : a.ok 100000000) (hb : b.ok 100000000) : OkI xs ys ⟨18, [row ka, row kb], .v (row kr)⟩ :=
  ⟨enters Tryz.func18 rfl rfl, fun B w vs h => by
    match vs, h with
    | [va, vb], h =>
      refine (q_r4Cross va vb a b w ((row_isL aa).1 h.1) ((row_isL ab).1 h.2.1) ha hb).mono ?_
      rintro e w' ⟨v, rfl, h1, h2⟩
      exact ⟨v, rfl, (row_isL ar).2 h1, h2⟩⟩
def xr4Equal1X (a : Vq) (b : Vq) : List Fq := [a.x, a.y, a.z, b.x, b.y, b.z]
theorem q_r4Equal1 (va vb : Value) (a : Vq) (b : Vq) (w : World) (ia : IsVq w va a) (ib : IsVq w vb b) (ha : a.ok 1000000000) (hb : b.ok 1000000000) (e0 : a = b) :
    Calls Tryz.prog 7 #[va, vb] w fun e w' => RetV w (.bool true) e w' := by
  refine (calls_runFn (ρ := frs (xr4Equal1X a b) ++ []) (w := w) (fuel := 300) (args := [row [0, 1, 2], row [3, 4, 5]]) (vs := [va, vb]) (r := .v (.one (.b true)))
    (il_cons (I_rSame (i := 0) (j := 3) (l := .b true) rfl rfl (lb (Fq.same_iff.2 (congrArg Vq.x e0))) (ha.x.mono (by decide)).p (ha.x.mono (by decide)).q (hb.x.mono (by decide)).p (hb.x.mono (by decide)).q) (il_cons (I_rSame (i := 1) (j := 4) (l := .b true) rfl rfl (lb (Fq.same_iff.2 (congrArg Vq.y e0))) (ha.y.mono (by decide)).p (ha.y.mono (by decide)).q (hb.y.mono (by decide)).p (hb.y.mono (by decide)).q) (il_cons (I_rSame (i := 2) (j := 5) (l := .b true) rfl rfl (lb (Fq.same_iff.2 (congrArg Vq.z e0))) (ha.z.mono (by decide)).p (ha.z.mono (by decide)).q (hb.z.mono (by decide)).p (hb.z.mono (by decide)).q) il_nil)))
    ol_nil (by kernel_rfl) Tryz.func7 (by kernel_rfl) ⟨(row_isL (xs := xr4Equal1X a b) (ks := [0, 1, 2]) (vs := [a.x, a.y, a.z]) ⟨rfl, rfl, rfl, trivial⟩).2 ia, ⟨(row_isL (xs := xr4Equal1X a b) (ks := [3, 4, 5]) (vs := [b.x, b.y, b.z]) ⟨rfl, rfl, rfl, trivial⟩).2 ib, trivial⟩⟩).mono ?_
  rintro e w' ⟨v, rfl, h1, h2⟩
  exact ⟨congrArg Ending.returned h1, h2⟩
theorem I_r4Equal1 {xs : List Fq} {ys : Rho} {ka : List Nat} {kb : List Nat} {a : Vq} {b : Vq}  (aa : AtL xs ka [a.x, a.y, a.z]) (ab : AtL xs kb [b.x, b.y, b.z])  (ha : a.ok 1000000000) (hb : b.ok 1000000000) (e0 : a = b) : OkI xs ys ⟨7, [row ka, row kb], .v (.one (.b true))⟩ :=
  ⟨enters Tryz.func7 rfl rfl, fun B w vs h => by
    match vs, h with
    | [va, vb], h =>
      refine (q_r4Equal1 va vb a b w ((row_isL aa).1 h.1) ((row_isL ab).1 h.2.1) ha hb e0).mono ?_
      rintro e w' ⟨rfl, h2⟩
      exact ⟨_, rfl, rfl, h2⟩⟩
def xr4Equal0X (a : Vq) (b : Vq) : List Fq := [a.x, a.y, a.z, b.x, b.y, b.z]
def xr4Equal01X (a : Vq) (b : Vq) : List Fq := [a.x, a.y, a.z, b.x, b.y, b.z]
def xr4Equal02X (a : Vq) (b : Vq) : List Fq := [a.x, a.y, a.z, b.x, b.y, b.z]
theorem q_r4Equal0 (va vb : Value) (a : Vq) (b : Vq) (w : World) (ia : IsVq w va a) (ib : IsVq w vb b) (ha : a.ok 1000000000) (hb : b.ok 1000000000) (e0 : a ≠ b) :
    Calls Tryz.prog 7 #[va, vb] w fun e w' => RetV w (.bool false) e w' := by
  by_cases c0 : a.x = b.x
  · by_cases c1 : a.y = b.y
    · by_cases c2 : a.z = b.z
      · exact absurd (by cases a; cases b; simp only at c0 c1 c2; subst c0 c1 c2; rfl) e0
      · refine (calls_runFn (ρ := frs (xr4Equal0X a b) ++ []) (w := w) (fuel := 300) (args := [row [0, 1, 2], row [3, 4, 5]]) (vs := [va, vb]) (r := .v (.one (.b false)))
          (il_cons (I_rSame (i := 0) (j := 3) (l := .b true) rfl rfl (lb (Fq.same_iff.2 c0)) (ha.x.mono (by decide)).p (ha.x.mono (by decide)).q (hb.x.mono (by decide)).p (hb.x.mono (by decide)).q) (il_cons (I_rSame (i := 1) (j := 4) (l := .b true) rfl rfl (lb (Fq.same_iff.2 c1)) (ha.y.mono (by decide)).p (ha.y.mono (by decide)).q (hb.y.mono (by decide)).p (hb.y.mono (by decide)).q) (il_cons (I_rSame (i := 2) (j := 5) (l := .b false) rfl rfl (lb (same_ne c2)) (ha.z.mono (by decide)).p (ha.z.mono (by decide)).q (hb.z.mono (by decide)).p (hb.z.mono (by decide)).q) il_nil)))
          ol_nil (by kernel_rfl) Tryz.func7 (by kernel_rfl) ⟨(row_isL (xs := xr4Equal0X a b) (ks := [0, 1, 2]) (vs := [a.x, a.y, a.z]) ⟨rfl, rfl, rfl, trivial⟩).2 ia, ⟨(row_isL (xs := xr4Equal0X a b) (ks := [3, 4, 5]) (vs := [b.x, b.y, b.z]) ⟨rfl, rfl, rfl, trivial⟩).2 ib, trivial⟩⟩).mono ?_
        rintro e w' ⟨v, rfl, h1, h2⟩
        exact ⟨congrArg Ending.returned h1, h2⟩
    · refine (calls_runFn (ρ := frs (xr4Equal01X a b) ++ []) (w := w) (fuel := 300) (args := [row [0, 1, 2], row [3, 4, 5]]) (vs := [va, vb]) (r := .v (.one (.b false)))
        (il_cons (I_rSame (i := 0) (j := 3) (l := .b true) rfl rfl (lb (Fq.same_iff.2 c0)) (ha.x.mono (by decide)).p (ha.x.mono (by decide)).q (hb.x.mono (by decide)).p (hb.x.mono (by decide)).q) (il_cons (I_rSame (i := 1) (j := 4) (l := .b false) rfl rfl (lb (same_ne c1)) (ha.y.mono (by decide)).p (ha.y.mono (by decide)).q (hb.y.mono (by decide)).p (hb.y.mono (by decide)).q) il_nil))
        ol_nil (by kernel_rfl) Tryz.func7 (by kernel_rfl) ⟨(row_isL (xs := xr4Equal01X a b) (ks := [0, 1, 2]) (vs := [a.x, a.y, a.z]) ⟨rfl, rfl, rfl, trivial⟩).2 ia, ⟨(row_isL (xs := xr4Equal01X a b) (ks := [3, 4, 5]) (vs := [b.x, b.y, b.z]) ⟨rfl, rfl, rfl, trivial⟩).2 ib, trivial⟩⟩).mono ?_
      rintro e w' ⟨v, rfl, h1, h2⟩
      exact ⟨congrArg Ending.returned h1, h2⟩
  · refine (calls_runFn (ρ := frs (xr4Equal02X a b) ++ []) (w := w) (fuel := 300) (args := [row [0, 1, 2], row [3, 4, 5]]) (vs := [va, vb]) (r := .v (.one (.b false)))
      (il_cons (I_rSame (i := 0) (j := 3) (l := .b false) rfl rfl (lb (same_ne c0)) (ha.x.mono (by decide)).p (ha.x.mono (by decide)).q (hb.x.mono (by decide)).p (hb.x.mono (by decide)).q) il_nil)
      ol_nil (by kernel_rfl) Tryz.func7 (by kernel_rfl) ⟨(row_isL (xs := xr4Equal02X a b) (ks := [0, 1, 2]) (vs := [a.x, a.y, a.z]) ⟨rfl, rfl, rfl, trivial⟩).2 ia, ⟨(row_isL (xs := xr4Equal02X a b) (ks := [3, 4, 5]) (vs := [b.x, b.y, b.z]) ⟨rfl, rfl, rfl, trivial⟩).2 ib, trivial⟩⟩).mono ?_
    rintro e w' ⟨v, rfl, h1, h2⟩
    exact ⟨congrArg Ending.returned h1, h2⟩
theorem I_r4Equal0 {xs : List Fq} {ys : Rho} {ka : List Nat} {kb : List Nat} {a : Vq} {b : Vq}  (aa : AtL xs ka [a.x, a.y, a.z]) (ab : AtL xs kb [b.x, b.y, b.z])  (ha : a.ok 1000000000) (hb : b.ok 1000000000) (e0 : a ≠ b) : OkI xs ys ⟨7, [row ka, row kb], .v (.one (.b false))⟩ :=
  ⟨enters Tryz.func7 rfl rfl, fun B w vs h => by
    match vs, h with
    | [va, vb], h =>
      refine (q_r4Equal0 va vb a b w ((row_isL aa).1 h.1) ((row_isL ab).1 h.2.1) ha hb e0).mono ?_
      rintro e w' ⟨rfl, h2⟩
      exact ⟨_, rfl, rfl, h2⟩⟩
def xr4LerpX (a : Vq) (b : Vq) (k : Fq) : List Fq := [a.x, a.y, a.z, b.x, b.y, b.z, k, (b.sub a).x, (b.sub a).y, (b.sub a).z, ((b.sub a).scale k).x, ((b.sub a).scale k).y, ((b.sub a).scale k).z, (a.add ((b.sub a).scale k)).x, (a.add ((b.sub a).scale k)).y, (a.add ((b.sub a).scale k)).z]
theorem q_r4Lerp (va vb vk : Value) (a : Vq) (b : Vq) (k : Fq) (w : World) (ia : IsVq w va a) (ib : IsVq w vb b) (ik : IsQ w vk k) (ha : a.ok 10000000) (hb : b.ok 10000000) (hk : k.ok 10000000) :
    Calls Tryz.prog 20 #[va, vb, vk] w fun e w' => RetVq w (a.lerp b k) e w' := by
  refine (calls_runFn (ρ := frs (xr4LerpX a b k) ++ []) (w := w) (fuel := 300) (args := [row [0, 1, 2], row [3, 4, 5], fr 6]) (vs := [va, vb, vk]) (r := .v (row [13, 14, 15]))
    (il_cons (I_r4Sub (ka := [3, 4, 5]) (a := b) (kb := [0, 1, 2]) (b := a) (kr := [7, 8, 9]) ⟨rfl, rfl, rfl, trivial⟩ ⟨rfl, rfl, rfl, trivial⟩ ⟨rfl, rfl, rfl, trivial⟩ (hb.mono (by decide)) (ha.mono (by decide))) (il_cons (I_r4Scale (ka := [7, 8, 9]) (a := (b.sub a)) (ik := 6) (kr := [10, 11, 12]) ⟨rfl, rfl, rfl, trivial⟩ rfl ⟨rfl, rfl, rfl, trivial⟩ ((hb.sub ha).mono (by decide)) (hk.mono (by decide))) (il_cons (I_r4Add (ka := [0, 1, 2]) (a := a) (kb := [10, 11, 12]) (b := ((b.sub a).scale k)) (kr := [13, 14, 15]) ⟨rfl, rfl, rfl, trivial⟩ ⟨rfl, rfl, rfl, trivial⟩ ⟨rfl, rfl, rfl, trivial⟩ (ha.mono (by decide)) (((hb.sub ha).scale hk).mono (by decide))) il_nil)))
    ol_nil (by kernel_rfl) Tryz.func20 (by kernel_rfl) ⟨(row_isL (xs := xr4LerpX a b k) (ks := [0, 1, 2]) (vs := [a.x, a.y, a.z]) ⟨rfl, rfl, rfl, trivial⟩).2 ia, ⟨(row_isL (xs := xr4LerpX a b k) (ks := [3, 4, 5]) (vs := [b.x, b.y, b.z]) ⟨rfl, rfl, rfl, trivial⟩).2 ib, ⟨(fr_isQ (xs := xr4LerpX a b k) (k := 6) rfl).2 ik, trivial⟩⟩⟩).mono ?_
  rintro e w' ⟨v, rfl, h1, h2⟩
  exact ⟨v, rfl, (row_isL (xs := xr4LerpX a b k) (ks := [13, 14, 15]) (vs := [(a.add ((b.sub a).scale k)).x, (a.add ((b.sub a).scale k)).y, (a.add ((b.sub a).scale k)).z]) ⟨rfl, rfl, rfl, trivial⟩).1 h1, h2⟩
theorem I_r4Lerp {xs : List Fq} {ys : Rho} {ka : List Nat} {kb : List Nat} {ik : Nat} {a : Vq} {b : Vq} {k : Fq} {kr : List Nat} (aa : AtL xs ka [a.x, a.y, a.z]) (ab : AtL xs kb [b.x, b.y, b.z]) (ak : xs[ik]? = some k) (ar : AtL xs kr [(a.lerp b k).x, (a.lerp b k).y, (a.lerp b k).z]) (ha : a.ok 10000000) (hb : b.ok 10000000) (hk : k.ok 10000000) : OkI xs ys ⟨20, [row ka, row kb, fr ik], .v (row kr)⟩ :=
  ⟨enters Tryz.func20 rfl rfl, fun B w vs h => by
    match vs, h with
    | [va, vb, vk], h =>
      refine (q_r4Lerp va vb vk a b k w ((row_isL aa).1 h.1) ((row_isL ab).1 h.2.1) ((fr_isQ ak).1 h.2.2.1) ha hb hk).mono ?_
      rintro e w' ⟨v, rfl, h1, h2⟩
      exact ⟨v, rfl, (row_isL ar).2 h1, h2⟩⟩
theorem ok_vof {x y z : Int} (l1 : -9223372036854775808 ≤ x) (r1 : x < 9223372036854775808) (l2 : -9223372036854775808 ≤ y) (r2 : y < 9223372036854775808) (l3 : -9223372036854775808 ≤ z) (r3 : z < 9223372036854775808) : (Vq.of x y z).ok 2 := ⟨ok_int l1 r1, ok_int l2 r2, ok_int l3 r3⟩
def xvO1_2_3X  : List Fq := [(Fq.ofInt 1), (Fq.ofInt 2), (Fq.ofInt 3)]
theorem q_vO1_2_3  (w : World)   :
    Calls Tryz.prog 24 #[.int .i64 (1), .int .i64 (2), .int .i64 (3)] w fun e w' => RetVq w (Vq.of 1 2 3) e w' := by
  refine (calls_runFn (ρ := frs (xvO1_2_3X ) ++ []) (w := w) (fuel := 300) (args := [.one (.i .i64 1), .one (.i .i64 2), .one (.i .i64 3)]) (vs := [.int .i64 (1), .int .i64 (2), .int .i64 (3)]) (r := .v (row [0, 1, 2]))
    (il_cons (I_fInt (k := 0) rfl (by decide) (by decide)) (il_cons (I_fInt (k := 1) rfl (by decide) (by decide)) (il_cons (I_fInt (k := 2) rfl (by decide) (by decide)) il_nil)))
    ol_nil (by kernel_rfl) Tryz.func24 (by kernel_rfl) ⟨rfl, ⟨rfl, ⟨rfl, trivial⟩⟩⟩).mono ?_
  rintro e w' ⟨v, rfl, h1, h2⟩
  exact ⟨v, rfl, (row_isL (xs := xvO1_2_3X ) (ks := [0, 1, 2]) (vs := [(Fq.ofInt 1), (Fq.ofInt 2), (Fq.ofInt 3)]) ⟨rfl, rfl, rfl, trivial⟩).1 h1, h2⟩
theorem I_vO1_2_3 {xs : List Fq} {ys : Rho}   {kr : List Nat}  (ar : AtL xs kr [(Vq.of 1 2 3).x, (Vq.of 1 2 3).y, (Vq.of 1 2 3).z]) : OkI xs ys ⟨24, [.one (.i .i64 1), .one (.i .i64 2), .one (.i .i64 3)], .v (row kr)⟩ :=
  ⟨enters Tryz.func24 rfl rfl, fun B w vs h => by
    match vs, h with
    | [vx, vy, vz], h =>
      have ex : vx = .int .i64 (1) := h.1
      subst ex
      have ey : vy = .int .i64 (2) := h.2.1
      subst ey
      have ez : vz = .int .i64 (3) := h.2.2.1
      subst ez
      refine (q_vO1_2_3 w).mono ?_
      rintro e w' ⟨v, rfl, h1, h2⟩
      exact ⟨v, rfl, (row_isL ar).2 h1, h2⟩⟩
def xvO4_5_6X  : List Fq := [(Fq.ofInt 4), (Fq.ofInt 5), (Fq.ofInt 6)]
theorem q_vO4_5_6  (w : World)   :
    Calls Tryz.prog 24 #[.int .i64 (4), .int .i64 (5), .int .i64 (6)] w fun e w' => RetVq w (Vq.of 4 5 6) e w' := by
  refine (calls_runFn (ρ := frs (xvO4_5_6X ) ++ []) (w := w) (fuel := 300) (args := [.one (.i .i64 4), .one (.i .i64 5), .one (.i .i64 6)]) (vs := [.int .i64 (4), .int .i64 (5), .int .i64 (6)]) (r := .v (row [0, 1, 2]))
    (il_cons (I_fInt (k := 0) rfl (by decide) (by decide)) (il_cons (I_fInt (k := 1) rfl (by decide) (by decide)) (il_cons (I_fInt (k := 2) rfl (by decide) (by decide)) il_nil)))
    ol_nil (by kernel_rfl) Tryz.func24 (by kernel_rfl) ⟨rfl, ⟨rfl, ⟨rfl, trivial⟩⟩⟩).mono ?_
  rintro e w' ⟨v, rfl, h1, h2⟩
  exact ⟨v, rfl, (row_isL (xs := xvO4_5_6X ) (ks := [0, 1, 2]) (vs := [(Fq.ofInt 4), (Fq.ofInt 5), (Fq.ofInt 6)]) ⟨rfl, rfl, rfl, trivial⟩).1 h1, h2⟩
theorem I_vO4_5_6 {xs : List Fq} {ys : Rho}   {kr : List Nat}  (ar : AtL xs kr [(Vq.of 4 5 6).x, (Vq.of 4 5 6).y, (Vq.of 4 5 6).z]) : OkI xs ys ⟨24, [.one (.i .i64 4), .one (.i .i64 5), .one (.i .i64 6)], .v (row kr)⟩ :=
  ⟨enters Tryz.func24 rfl rfl, fun B w vs h => by
    match vs, h with
    | [vx, vy, vz], h =>
      have ex : vx = .int .i64 (4) := h.1
      subst ex
      have ey : vy = .int .i64 (5) := h.2.1
      subst ey
      have ez : vz = .int .i64 (6) := h.2.2.1
      subst ez
      refine (q_vO4_5_6 w).mono ?_
      rintro e w' ⟨v, rfl, h1, h2⟩
      exact ⟨v, rfl, (row_isL ar).2 h1, h2⟩⟩
def xrOm3_6_m3X  : List Fq := [(Fq.ofInt (-3)), (Fq.ofInt 6)]
theorem q_rOm3_6_m3  (w : World)   :
    Calls Tryz.prog 26 #[.int .i64 (-3), .int .i64 (6), .int .i64 (-3)] w fun e w' => RetVq w (Vq.of (-3) 6 (-3)) e w' := by
  refine (calls_runFn (ρ := frs (xrOm3_6_m3X ) ++ []) (w := w) (fuel := 300) (args := [.one (.i .i64 (-3)), .one (.i .i64 6), .one (.i .i64 (-3))]) (vs := [.int .i64 (-3), .int .i64 (6), .int .i64 (-3)]) (r := .v (row [0, 1, 0]))
    (il_cons (I_rInt (k := 0) rfl (by decide) (by decide)) (il_cons (I_rInt (k := 1) rfl (by decide) (by decide)) il_nil))
    ol_nil (by kernel_rfl) Tryz.func26 (by kernel_rfl) ⟨rfl, ⟨rfl, ⟨rfl, trivial⟩⟩⟩).mono ?_
  rintro e w' ⟨v, rfl, h1, h2⟩
  exact ⟨v, rfl, (row_isL (xs := xrOm3_6_m3X ) (ks := [0, 1, 0]) (vs := [(Fq.ofInt (-3)), (Fq.ofInt 6), (Fq.ofInt (-3))]) ⟨rfl, rfl, rfl, trivial⟩).1 h1, h2⟩
theorem I_rOm3_6_m3 {xs : List Fq} {ys : Rho}   {kr : List Nat}  (ar : AtL xs kr [(Vq.of (-3) 6 (-3)).x, (Vq.of (-3) 6 (-3)).y, (Vq.of (-3) 6 (-3)).z]) : OkI xs ys ⟨26, [.one (.i .i64 (-3)), .one (.i .i64 6), .one (.i .i64 (-3))], .v (row kr)⟩ :=
  ⟨enters Tryz.func26 rfl rfl, fun B w vs h => by
    match vs, h with
    | [vx, vy, vz], h =>
      have ex : vx = .int .i64 (-3) := h.1
      subst ex
      have ey : vy = .int .i64 (6) := h.2.1
      subst ey
      have ez : vz = .int .i64 (-3) := h.2.2.1
      subst ez
      refine (q_rOm3_6_m3 w).mono ?_
      rintro e w' ⟨v, rfl, h1, h2⟩
      exact ⟨v, rfl, (row_isL ar).2 h1, h2⟩⟩
def xshortQX (x : Fq) : List Fq := [x]
theorem q_shortQ (vx : Value) (x : Fq) (w : World) (ix : IsQ w vx x) (hx : x.ok 4) :
    Calls Tryz.prog 22 #[vx] w fun e w' => RetV w (.bool true) e w' := by
  refine (calls_runFn (ρ := frs (xshortQX x) ++ [.val (.int .i64 (((nl x.p) : Nat) : Int)), .val (.int .i64 (((nl x.q) : Nat) : Int))]) (w := w) (fuel := 300) (args := [fr 0]) (vs := [vx]) (r := .v (.one (.b true)))
    (il_nil)
    (ol_cons (o_len (n := 1) (m := 3) (t := 22) ⟨_, Tryz.underlying22⟩ rfl rfl) (ol_cons (o_leq (n := 3) (c := 4) (b := true) (t := 3) rfl (dle hx.p)) (ol_cons (o_len (n := 2) (m := 4) (t := 22) ⟨_, Tryz.underlying22⟩ rfl rfl) (ol_cons (o_leq (n := 4) (c := 4) (b := true) (t := 3) rfl (dle hx.q)) (ol_nil))))) (by kernel_rfl) Tryz.func22 (by kernel_rfl) ⟨(fr_isQ (xs := xshortQX x) (k := 0) rfl).2 ix, trivial⟩).mono ?_
  rintro e w' ⟨v, rfl, h1, h2⟩
  exact ⟨congrArg Ending.returned h1, h2⟩
theorem I_shortQ {xs : List Fq} {ys : Rho} {ix : Nat} {x : Fq}  (ax : xs[ix]? = some x)  (hx : x.ok 4) : OkI xs ys ⟨22, [fr ix], .v (.one (.b true))⟩ :=
  ⟨enters Tryz.func22 rfl rfl, fun B w vs h => by
    match vs, h with
    | [vx], h =>
      refine (q_shortQ vx x w ((fr_isQ ax).1 h.1) hx).mono ?_
      rintro e w' ⟨rfl, h2⟩
      exact ⟨_, rfl, rfl, h2⟩⟩
def xsmallQX (x : Fq) : List Fq := [x]
theorem q_smallQ (vx : Value) (x : Fq) (w : World) (ix : IsQ w vx x) (hx : x.ok 4) (gx : x.valid = true) :
    Calls Tryz.prog 5 #[vx] w fun e w' => RetV w (.bool true) e w' := by
  refine (calls_runFn (ρ := frs (xsmallQX x) ++ []) (w := w) (fuel := 300) (args := [fr 0]) (vs := [vx]) (r := .v (.one (.b true)))
    (il_cons (I_shortQ (ix := 0) rfl (hx.mono (by decide))) (il_cons (I_rValid (i := 0) (l := .b true) rfl (lb gx) (hx.mono (by decide))) il_nil))
    ol_nil (by kernel_rfl) Tryz.func5 (by kernel_rfl) ⟨(fr_isQ (xs := xsmallQX x) (k := 0) rfl).2 ix, trivial⟩).mono ?_
  rintro e w' ⟨v, rfl, h1, h2⟩
  exact ⟨congrArg Ending.returned h1, h2⟩
theorem I_smallQ {xs : List Fq} {ys : Rho} {ix : Nat} {x : Fq}  (ax : xs[ix]? = some x)  (hx : x.ok 4) (gx : x.valid = true) : OkI xs ys ⟨5, [fr ix], .v (.one (.b true))⟩ :=
  ⟨enters Tryz.func5 rfl rfl, fun B w vs h => by
    match vs, h with
    | [vx], h =>
      refine (q_smallQ vx x w ((fr_isQ ax).1 h.1) hx gx).mono ?_
      rintro e w' ⟨rfl, h2⟩
      exact ⟨_, rfl, rfl, h2⟩⟩
def xfitQX (a : Vq) : List Fq := [a.x, a.y, a.z]
theorem q_fitQ (va : Value) (a : Vq) (w : World) (ia : IsVq w va a) (ha : a.ok 4) (ga : a.good) :
    Calls Tryz.prog 4 #[va] w fun e w' => RetV w (.bool true) e w' := by
  refine (calls_runFn (ρ := frs (xfitQX a) ++ []) (w := w) (fuel := 300) (args := [row [0, 1, 2]]) (vs := [va]) (r := .v (.one (.b true)))
    (il_cons (I_smallQ (ix := 0) rfl (ha.x.mono (by decide)) ga.x) (il_cons (I_smallQ (ix := 1) rfl (ha.y.mono (by decide)) ga.y) (il_cons (I_smallQ (ix := 2) rfl (ha.z.mono (by decide)) ga.z) il_nil)))
    ol_nil (by kernel_rfl) Tryz.func4 (by kernel_rfl) ⟨(row_isL (xs := xfitQX a) (ks := [0, 1, 2]) (vs := [a.x, a.y, a.z]) ⟨rfl, rfl, rfl, trivial⟩).2 ia, trivial⟩).mono ?_
  rintro e w' ⟨v, rfl, h1, h2⟩
  exact ⟨congrArg Ending.returned h1, h2⟩
theorem I_fitQ {xs : List Fq} {ys : Rho} {ka : List Nat} {a : Vq}  (aa : AtL xs ka [a.x, a.y, a.z])  (ha : a.ok 4) (ga : a.good) : OkI xs ys ⟨4, [row ka], .v (.one (.b true))⟩ :=
  ⟨enters Tryz.func4 rfl rfl, fun B w vs h => by
    match vs, h with
    | [va], h =>
      refine (q_fitQ va a w ((row_isL aa).1 h.1) ha ga).mono ?_
      rintro e w' ⟨rfl, h2⟩
      exact ⟨_, rfl, rfl, h2⟩⟩
end Go.Proofs.YtfhinmdhjlmikaaGreatDoor
namespace Go.Proofs.YtfhinmdhjlmikaaGreatDoor
set_option linter.unusedSimpArgs false
set_option linter.unusedVariables false
set_option maxRecDepth 100000
open Go.RowKit
def xshortX0X (x0 : Rq) : List Fq := []
def xshortX1X (x0 : Rq) : List Fq := []
def xshortX2X (x0 : Rq) : List Fq := []
theorem q_shortX (vx : Value) (x0 : Rq) (w : World) (ix : IsL w vx [x0]) : Calls Tryz.prog 22 #[vx] w fun e w' => RetV w (.bool (x0.sh)) e w' := by
  rcases Bool.eq_false_or_eq_true (decide (x0.L ≤ 4)) with c0 | c0
  · rcases Bool.eq_false_or_eq_true (decide (x0.N ≤ 4)) with c1 | c1
    · refine (calls_runFn (ρ := frs (xshortX0X x0) ++ [.val (.bool x0.s), .dig x0.L x0.p, .dig x0.N x0.q, .val (.int .i64 ((x0.L : Nat) : Int)), .val (.int .i64 ((x0.N : Nat) : Int))]) (w := w) (fuel := 300) (args := [rowN [0]]) (vs := [vx]) (r := .v (.one (.b true)))
        (il_nil)
        (ol_cons (o_len (n := 1) (m := 3) (t := 22) ⟨_, Tryz.underlying22⟩ rfl rfl) (ol_cons (o_leq (n := 3) (c := 4) (b := true) (t := 3) rfl (dcast c0)) (ol_cons (o_len (n := 2) (m := 4) (t := 22) ⟨_, Tryz.underlying22⟩ rfl rfl) (ol_cons (o_leq (n := 4) (c := 4) (b := true) (t := 3) rfl (dcast c1)) (ol_nil))))) (by kernel_rfl) Tryz.func22 (by kernel_rfl) ⟨(rowN_isL (ns := [0]) (rs := [x0]) ⟨⟨rfl, rfl, rfl⟩, trivial⟩).2 ix, trivial⟩).mono ?_
      rintro e w' ⟨v, rfl, h1, h2⟩
      have h1 : v = .bool _ := h1
      subst h1
      exact ⟨by simp [Rq.sh, c0, c1], h2⟩
    · refine (calls_runFn (ρ := frs (xshortX1X x0) ++ [.val (.bool x0.s), .dig x0.L x0.p, .dig x0.N x0.q, .val (.int .i64 ((x0.L : Nat) : Int)), .val (.int .i64 ((x0.N : Nat) : Int))]) (w := w) (fuel := 300) (args := [rowN [0]]) (vs := [vx]) (r := .v (.one (.b false)))
        (il_nil)
        (ol_cons (o_len (n := 1) (m := 3) (t := 22) ⟨_, Tryz.underlying22⟩ rfl rfl) (ol_cons (o_leq (n := 3) (c := 4) (b := true) (t := 3) rfl (dcast c0)) (ol_cons (o_len (n := 2) (m := 4) (t := 22) ⟨_, Tryz.underlying22⟩ rfl rfl) (ol_cons (o_leq (n := 4) (c := 4) (b := false) (t := 3) rfl (dcast c1)) (ol_nil))))) (by kernel_rfl) Tryz.func22 (by kernel_rfl) ⟨(rowN_isL (ns := [0]) (rs := [x0]) ⟨⟨rfl, rfl, rfl⟩, trivial⟩).2 ix, trivial⟩).mono ?_
      rintro e w' ⟨v, rfl, h1, h2⟩
      have h1 : v = .bool _ := h1
      subst h1
      exact ⟨by simp [Rq.sh, c0, c1], h2⟩
  · refine (calls_runFn (ρ := frs (xshortX2X x0) ++ [.val (.bool x0.s), .dig x0.L x0.p, .dig x0.N x0.q, .val (.int .i64 ((x0.L : Nat) : Int))]) (w := w) (fuel := 300) (args := [rowN [0]]) (vs := [vx]) (r := .v (.one (.b false)))
      (il_nil)
      (ol_cons (o_len (n := 1) (m := 3) (t := 22) ⟨_, Tryz.underlying22⟩ rfl rfl) (ol_cons (o_leq (n := 3) (c := 4) (b := false) (t := 3) rfl (dcast c0)) (ol_nil))) (by kernel_rfl) Tryz.func22 (by kernel_rfl) ⟨(rowN_isL (ns := [0]) (rs := [x0]) ⟨⟨rfl, rfl, rfl⟩, trivial⟩).2 ix, trivial⟩).mono ?_
    rintro e w' ⟨v, rfl, h1, h2⟩
    have h1 : v = .bool _ := h1
    subst h1
    exact ⟨by simp [Rq.sh, c0], h2⟩
theorem I_shortX {xs : List Fq} {ys : Rho} {nx : List Nat} {x0 : Rq} {d : Bool} (ax : AtR (frs xs ++ ys) nx [x0]) (hd : (x0.sh) = d) : OkI xs ys ⟨22, [rowN nx], .v (.one (.b d))⟩ :=
  ⟨enters Tryz.func22 rfl rfl, fun B w vs h => by
    match vs, h with
    | [vx], h =>
      refine (q_shortX vx x0 w ((rowN_isL ax).1 h.1)).mono ?_
      rintro e w' ⟨rfl, h2⟩
      exact ⟨_, rfl, by subst hd; rfl, h2⟩⟩
def xsmallX0X (x0 : Rq) : List Fq := []
def xsmallX1X (x0 : Rq) : List Fq := []
def xsmallX2X (x0 : Rq) : List Fq := []
theorem q_smallX (vx : Value) (x0 : Rq) (w : World) (ix : IsL w vx [x0]) : Calls Tryz.prog 5 #[vx] w fun e w' => RetV w (.bool (x0.sm)) e w' := by
  rcases Bool.eq_false_or_eq_true (x0.sh) with c0 | c0
  · rcases Bool.eq_false_or_eq_true (x0.vld) with c1 | c1
    · refine (calls_runFn (ρ := frs (xsmallX0X x0) ++ [.val (.bool x0.s), .dig x0.L x0.p, .dig x0.N x0.q]) (w := w) (fuel := 300) (args := [rowN [0]]) (vs := [vx]) (r := .v (.one (.b true)))
        (il_cons (I_shortX (nx := [0]) ⟨⟨rfl, rfl, rfl⟩, trivial⟩ c0) (il_cons (I_rValidX (n := 0) (r := x0) (d := true) ⟨⟨rfl, rfl, rfl⟩, trivial⟩ c1 (sh_L c0) (sh_N c0)) il_nil))
        ol_nil (by kernel_rfl) Tryz.func5 (by kernel_rfl) ⟨(rowN_isL (ns := [0]) (rs := [x0]) ⟨⟨rfl, rfl, rfl⟩, trivial⟩).2 ix, trivial⟩).mono ?_
      rintro e w' ⟨v, rfl, h1, h2⟩
      have h1 : v = .bool _ := h1
      subst h1
      exact ⟨by simp [Rq.sm, c0, c1], h2⟩
    · refine (calls_runFn (ρ := frs (xsmallX1X x0) ++ [.val (.bool x0.s), .dig x0.L x0.p, .dig x0.N x0.q]) (w := w) (fuel := 300) (args := [rowN [0]]) (vs := [vx]) (r := .v (.one (.b false)))
        (il_cons (I_shortX (nx := [0]) ⟨⟨rfl, rfl, rfl⟩, trivial⟩ c0) (il_cons (I_rValidX (n := 0) (r := x0) (d := false) ⟨⟨rfl, rfl, rfl⟩, trivial⟩ c1 (sh_L c0) (sh_N c0)) il_nil))
        ol_nil (by kernel_rfl) Tryz.func5 (by kernel_rfl) ⟨(rowN_isL (ns := [0]) (rs := [x0]) ⟨⟨rfl, rfl, rfl⟩, trivial⟩).2 ix, trivial⟩).mono ?_
      rintro e w' ⟨v, rfl, h1, h2⟩
      have h1 : v = .bool _ := h1
      subst h1
      exact ⟨by simp [Rq.sm, c0, c1], h2⟩
  · refine (calls_runFn (ρ := frs (xsmallX2X x0) ++ [.val (.bool x0.s), .dig x0.L x0.p, .dig x0.N x0.q]) (w := w) (fuel := 300) (args := [rowN [0]]) (vs := [vx]) (r := .v (.one (.b false)))
      (il_cons (I_shortX (nx := [0]) ⟨⟨rfl, rfl, rfl⟩, trivial⟩ c0) il_nil)
      ol_nil (by kernel_rfl) Tryz.func5 (by kernel_rfl) ⟨(rowN_isL (ns := [0]) (rs := [x0]) ⟨⟨rfl, rfl, rfl⟩, trivial⟩).2 ix, trivial⟩).mono ?_
    rintro e w' ⟨v, rfl, h1, h2⟩
    have h1 : v = .bool _ := h1
    subst h1
    exact ⟨by simp [Rq.sm, c0], h2⟩
theorem I_smallX {xs : List Fq} {ys : Rho} {nx : List Nat} {x0 : Rq} {d : Bool} (ax : AtR (frs xs ++ ys) nx [x0]) (hd : (x0.sm) = d) : OkI xs ys ⟨5, [rowN nx], .v (.one (.b d))⟩ :=
  ⟨enters Tryz.func5 rfl rfl, fun B w vs h => by
    match vs, h with
    | [vx], h =>
      refine (q_smallX vx x0 w ((rowN_isL ax).1 h.1)).mono ?_
      rintro e w' ⟨rfl, h2⟩
      exact ⟨_, rfl, by subst hd; rfl, h2⟩⟩
def xfitX0X (x0 x1 x2 : Rq) : List Fq := []
def xfitX1X (x0 x1 x2 : Rq) : List Fq := []
def xfitX2X (x0 x1 x2 : Rq) : List Fq := []
def xfitX3X (x0 x1 x2 : Rq) : List Fq := []
theorem q_fitX (vx : Value) (x0 x1 x2 : Rq) (w : World) (ix : IsL w vx [x0, x1, x2]) : Calls Tryz.prog 4 #[vx] w fun e w' => RetV w (.bool (fitB x0 x1 x2)) e w' := by
  rcases Bool.eq_false_or_eq_true (x0.sm) with c0 | c0
  · rcases Bool.eq_false_or_eq_true (x1.sm) with c1 | c1
    · rcases Bool.eq_false_or_eq_true (x2.sm) with c2 | c2
      · refine (calls_runFn (ρ := frs (xfitX0X x0 x1 x2) ++ [.val (.bool x0.s), .dig x0.L x0.p, .dig x0.N x0.q, .val (.bool x1.s), .dig x1.L x1.p, .dig x1.N x1.q, .val (.bool x2.s), .dig x2.L x2.p, .dig x2.N x2.q]) (w := w) (fuel := 300) (args := [rowN [0, 3, 6]]) (vs := [vx]) (r := .v (.one (.b true)))
          (il_cons (I_smallX (nx := [0]) ⟨⟨rfl, rfl, rfl⟩, trivial⟩ c0) (il_cons (I_smallX (nx := [3]) ⟨⟨rfl, rfl, rfl⟩, trivial⟩ c1) (il_cons (I_smallX (nx := [6]) ⟨⟨rfl, rfl, rfl⟩, trivial⟩ c2) il_nil)))
          ol_nil (by kernel_rfl) Tryz.func4 (by kernel_rfl) ⟨(rowN_isL (ns := [0, 3, 6]) (rs := [x0, x1, x2]) ⟨⟨rfl, rfl, rfl⟩, ⟨rfl, rfl, rfl⟩, ⟨rfl, rfl, rfl⟩, trivial⟩).2 ix, trivial⟩).mono ?_
        rintro e w' ⟨v, rfl, h1, h2⟩
        have h1 : v = .bool _ := h1
        subst h1
        exact ⟨by simp [fitB, c0, c1, c2], h2⟩
      · refine (calls_runFn (ρ := frs (xfitX1X x0 x1 x2) ++ [.val (.bool x0.s), .dig x0.L x0.p, .dig x0.N x0.q, .val (.bool x1.s), .dig x1.L x1.p, .dig x1.N x1.q, .val (.bool x2.s), .dig x2.L x2.p, .dig x2.N x2.q]) (w := w) (fuel := 300) (args := [rowN [0, 3, 6]]) (vs := [vx]) (r := .v (.one (.b false)))
          (il_cons (I_smallX (nx := [0]) ⟨⟨rfl, rfl, rfl⟩, trivial⟩ c0) (il_cons (I_smallX (nx := [3]) ⟨⟨rfl, rfl, rfl⟩, trivial⟩ c1) (il_cons (I_smallX (nx := [6]) ⟨⟨rfl, rfl, rfl⟩, trivial⟩ c2) il_nil)))
          ol_nil (by kernel_rfl) Tryz.func4 (by kernel_rfl) ⟨(rowN_isL (ns := [0, 3, 6]) (rs := [x0, x1, x2]) ⟨⟨rfl, rfl, rfl⟩, ⟨rfl, rfl, rfl⟩, ⟨rfl, rfl, rfl⟩, trivial⟩).2 ix, trivial⟩).mono ?_
        rintro e w' ⟨v, rfl, h1, h2⟩
        have h1 : v = .bool _ := h1
        subst h1
        exact ⟨by simp [fitB, c0, c1, c2], h2⟩
    · refine (calls_runFn (ρ := frs (xfitX2X x0 x1 x2) ++ [.val (.bool x0.s), .dig x0.L x0.p, .dig x0.N x0.q, .val (.bool x1.s), .dig x1.L x1.p, .dig x1.N x1.q, .val (.bool x2.s), .dig x2.L x2.p, .dig x2.N x2.q]) (w := w) (fuel := 300) (args := [rowN [0, 3, 6]]) (vs := [vx]) (r := .v (.one (.b false)))
        (il_cons (I_smallX (nx := [0]) ⟨⟨rfl, rfl, rfl⟩, trivial⟩ c0) (il_cons (I_smallX (nx := [3]) ⟨⟨rfl, rfl, rfl⟩, trivial⟩ c1) il_nil))
        ol_nil (by kernel_rfl) Tryz.func4 (by kernel_rfl) ⟨(rowN_isL (ns := [0, 3, 6]) (rs := [x0, x1, x2]) ⟨⟨rfl, rfl, rfl⟩, ⟨rfl, rfl, rfl⟩, ⟨rfl, rfl, rfl⟩, trivial⟩).2 ix, trivial⟩).mono ?_
      rintro e w' ⟨v, rfl, h1, h2⟩
      have h1 : v = .bool _ := h1
      subst h1
      exact ⟨by simp [fitB, c0, c1], h2⟩
  · refine (calls_runFn (ρ := frs (xfitX3X x0 x1 x2) ++ [.val (.bool x0.s), .dig x0.L x0.p, .dig x0.N x0.q, .val (.bool x1.s), .dig x1.L x1.p, .dig x1.N x1.q, .val (.bool x2.s), .dig x2.L x2.p, .dig x2.N x2.q]) (w := w) (fuel := 300) (args := [rowN [0, 3, 6]]) (vs := [vx]) (r := .v (.one (.b false)))
      (il_cons (I_smallX (nx := [0]) ⟨⟨rfl, rfl, rfl⟩, trivial⟩ c0) il_nil)
      ol_nil (by kernel_rfl) Tryz.func4 (by kernel_rfl) ⟨(rowN_isL (ns := [0, 3, 6]) (rs := [x0, x1, x2]) ⟨⟨rfl, rfl, rfl⟩, ⟨rfl, rfl, rfl⟩, ⟨rfl, rfl, rfl⟩, trivial⟩).2 ix, trivial⟩).mono ?_
    rintro e w' ⟨v, rfl, h1, h2⟩
    have h1 : v = .bool _ := h1
    subst h1
    exact ⟨by simp [fitB, c0], h2⟩
theorem I_fitX {xs : List Fq} {ys : Rho} {nx : List Nat} {x0 x1 x2 : Rq} {d : Bool} (ax : AtR (frs xs ++ ys) nx [x0, x1, x2]) (hd : (fitB x0 x1 x2) = d) : OkI xs ys ⟨4, [rowN nx], .v (.one (.b d))⟩ :=
  ⟨enters Tryz.func4 rfl rfl, fun B w vs h => by
    match vs, h with
    | [vx], h =>
      refine (q_fitX vx x0 x1 x2 w ((rowN_isL ax).1 h.1)).mono ?_
      rintro e w' ⟨rfl, h2⟩
      exact ⟨_, rfl, by subst hd; rfl, h2⟩⟩
end Go.Proofs.YtfhinmdhjlmikaaGreatDoor
namespace Go.Proofs.YtfhinmdhjlmikaaGreatDoor
set_option linter.unusedSimpArgs false
set_option linter.unusedVariables false
set_option maxRecDepth 100000
open Go.RowKit
theorem by_data (s : ByteArray) (i : Nat) : by' s i = (s.data[i]?.map UInt8.toNat).getD 0 := by
  unfold by'
  by_cases h : i < s.size
  · rw [dif_pos h, Array.getElem?_eq_getElem (show i < s.data.size from h)]; rfl
  · rw [dif_neg h, Array.getElem?_eq_none (by have : s.data.size = s.size := rfl; omega)]; rfl
theorem by_ext {s t : ByteArray} (h : s.size = t.size) (hb : ∀ i, i < s.size → by' s i = by' t i) : s = t := by
  have e : s.data = t.data := by
    apply Array.ext h
    intro i h1 h2
    have := hb i h1
    unfold by' at this
    rw [dif_pos (show i < s.size from h1), dif_pos (show i < t.size from h2)] at this
    exact UInt8.toNat_inj.1 this
  cases s; cases t; simp only at e; subst e; rfl
theorem by_app (a b : ByteArray) (i : Nat) : by' (a ++ b) i = if i < a.size then by' a i else by' b (i - a.size) := by
  rw [by_data, by_data, by_data, ByteArray.data_append, Array.getElem?_append]
  have e : a.data.size = a.size := rfl
  rw [e]
  split <;> rfl
theorem by_ex (s : ByteArray) (i j k : Nat) (hj : j ≤ s.size) (hk : k < j - i) : by' (s.extract i j) k = by' s (i + k) := by
  rw [by_data, by_data, ByteArray.data_extract, Array.getElem?_extract]
  have e : s.data.size = s.size := rfl
  rw [e, if_pos (by omega)]
theorem cut_app (a b : ByteArray) (i : Nat) (h : a.size = i) : (a ++ b).extract 0 i = a := by
  subst h
  apply by_ext
  · rw [ByteArray.size_extract, ByteArray.size_append]; omega
  · intro k hk
    rw [ByteArray.size_extract, ByteArray.size_append] at hk
    rw [by_ex _ _ _ _ (by rw [ByteArray.size_append]; omega) (by omega), Nat.zero_add, by_app, if_pos (by omega)]
theorem tail_app (a b : ByteArray) (i : Nat) (h : a.size = i) : (a ++ b).extract i (a ++ b).size = b := by
  subst h
  apply by_ext
  · rw [ByteArray.size_extract, ByteArray.size_append]; omega
  · intro k hk
    rw [ByteArray.size_extract, ByteArray.size_append] at hk
    rw [by_ex _ _ _ _ (Nat.le_refl _) (by rw [ByteArray.size_append]; omega), by_app, if_neg (by omega)]
    congr 1; omega
theorem parse_good {s : ByteArray} {N : Nat} (h : ParseIs s N 0) : 0 < s.size ∧ goodTo s s.size := by
  have h1 : 0 < s.size := by
    rcases Nat.eq_zero_or_pos s.size with h' | h'
    · have := (h.short h').2; omega
    · exact h'
  have h2 : s.size ≤ 400 := by
    rcases Nat.lt_or_ge 400 s.size with h' | h'
    · have := (h.long h').2; omega
    · exact h'
  exact ⟨h1, Classical.byContradiction fun h' => by have := (h.bad h1 h2 h').2; omega⟩
/-- What is written is read. -/
theorem fmt_fp {x : Fq} (hv : x.valid = true) (hp : nl x.p ≤ 12) (hq : nl x.q ≤ 12) : FP x.fmt x 0 := by
  obtain ⟨S, p, q⟩ := x
  have ha := fmt_parses p hp
  have hb := fmt_parses q hq
  obtain ⟨a1, a2⟩ := parse_good ha
  obtain ⟨b1, b2⟩ := parse_good hb
  obtain ⟨t, ht⟩ : ∃ t, t = if q = 1 then fmtB p else fmtB p ++ (({ data := #[47] } : ByteArray) ++ fmtB q) := ⟨_, rfl⟩
  have t0 : 0 < t.size ∧ by' t 0 ≠ 45 := by
    have h0 := a2 0 a1
    rw [ht]
    split
    · exact ⟨a1, by omega⟩
    · rw [ByteArray.size_append, by_app, if_pos a1]; exact ⟨by omega, by omega⟩
  have hs47 : ({ data := #[47] } : ByteArray).size = 1 := rfl
  have hs45 : ({ data := #[45] } : ByteArray).size = 1 := rfl
  obtain ⟨s, hs⟩ : ∃ s, s = if S then ({ data := #[45] } : ByteArray) ++ t else t := ⟨_, rfl⟩
  have hfmt : (Fq.mk S p q).fmt = s := by unfold Fq.fmt; rw [hs, ht]
  rw [hfmt]
  have hP : Pieces s t S (decide (q ≠ 1)) (fmtB p) (if q = 1 then { data := #[] } else fmtB q) := by
    refine ⟨?_, ?_, fun hF => ?_, fun hF => ?_⟩
    · rw [hs]
      cases S with
      | true => rw [if_pos rfl]; apply decide_eq_true; refine ⟨by rw [ByteArray.size_append, hs45]; omega, ?_⟩; rw [by_app, hs45, if_pos (by omega)]; rfl
      | false => rw [if_neg Bool.false_ne_true]; exact decide_eq_false (fun h => t0.2 h.2)
    · rw [hs]
      cases S with
      | true => rw [if_pos rfl, if_pos rfl]; exact (tail_app _ _ 1 hs45).symm
      | false => rw [if_neg Bool.false_ne_true, if_neg Bool.false_ne_true]
    · have hq1 : q ≠ 1 := of_decide_eq_true hF
      rw [if_neg hq1] at ht ⊢
      refine ⟨(fmtB p).size, ⟨?_, ?_, fun j hj => ?_⟩, ?_, ?_⟩
      · rw [ht, ByteArray.size_append, ByteArray.size_append, hs47]; omega
      · rw [ht, by_app, if_neg (by omega), Nat.sub_self, by_app, hs47, if_pos (by omega)]; rfl
      · rw [ht, by_app, if_pos hj]; have := a2 j hj; omega
      · rw [ht]; exact (cut_app _ _ _ rfl).symm
      · rw [ht, ← ByteArray.append_assoc]
        refine (tail_app _ _ _ ?_).symm
        rw [ByteArray.size_append, hs47]
    · have hq1 : q = 1 := Classical.byContradiction fun h => by rw [decide_eq_true h] at hF; cases hF
      rw [if_pos hq1] at ht ⊢
      refine ⟨fun j hj => ?_, ht.symm, rfl⟩
      rw [ht] at hj ⊢
      have := a2 j hj; omega
  by_cases hq1 : q = 1
  · have hF : decide (q ≠ 1) = false := decide_eq_false (fun h => h hq1)
    rw [hF, if_pos hq1] at hP
    subst hq1
    exact FP.good (N := 1) hP ha (fun h => by cases h) hv
  · have hF : decide (q ≠ 1) = true := decide_eq_true hq1
    rw [hF, if_neg hq1] at hP
    exact FP.good hP ha (fun _ => hb) (by show (!decide (q = 1) && (Fq.mk S p q).valid) = true; rw [decide_eq_false hq1, hv]; rfl)
end Go.Proofs.YtfhinmdhjlmikaaGreatDoor
namespace Go.Proofs.YtfhinmdhjlmikaaGreatDoor
set_option linter.unusedSimpArgs false
set_option linter.unusedVariables false
set_option maxRecDepth 100000
open Go.RowKit
abbrev b1 (c : UInt8) : ByteArray := { data := #[c] }
/-- The first c stands at i; there is none. -/
def ChAt (c : UInt8) (u : ByteArray) (i : Nat) : Prop := i < u.size ∧ by' u i = c.toNat ∧ ∀ k, k < i → by' u k ≠ c.toNat
def ChNo (c : UInt8) (u : ByteArray) : Prop := ∀ k, k < u.size → by' u k ≠ c.toNat
section
variable {c : UInt8} {u s : ByteArray} {i j a b : Nat}
theorem ch_cases (c : UInt8) (u : ByteArray) : (∃ i, ChAt c u i) ∨ ChNo c u := by
  by_cases h : ∃ i, i < u.size ∧ by' u i = c.toNat
  · refine .inl ?_
    obtain ⟨i, hi⟩ := h
    induction i using Nat.strongRecOn with
    | ind i ih =>
      by_cases h2 : ∃ j, j < i ∧ by' u j = c.toNat
      · obtain ⟨j, h3, h4⟩ := h2; exact ih j h3 ⟨by omega, h4⟩
      · exact ⟨i, hi.1, hi.2, fun j hj he => h2 ⟨j, hj, he⟩⟩
  · exact .inr (fun j hj he => h ⟨j, hj, he⟩)
theorem ch_index (h : ChAt c u i) : Lib.indexB u (b1 c) = (i : Int) := by
  show Lib.index u.data.toList [c] = _
  rw [Lib.index_one]
  exact idx_hit _ i c ((list_at u i h.1 c).2 h.2.1) (fun j hj he => h.2.2 j hj ((list_at u j (by have := h.1; omega) c).1 he))
theorem ch_none (h : ChNo c u) : Lib.indexB u (b1 c) = -1 := by
  show Lib.index u.data.toList [c] = _
  rw [Lib.index_one]
  exact idx_miss _ c (fun j he => by
    have hj : j < u.size := by
      have : j < u.data.toList.length := (List.getElem?_eq_some_iff.1 he).1
      simpa using this
    exact h j hj ((list_at u j hj c).1 he))
theorem ch_count (h : ChAt c u i) : Lib.countB u (b1 c) = 1 + Lib.countB (u.extract (i + 1) u.size) (b1 c) := Lib.countB_hit u (b1 c) i (Nat.le_refl 1) (ch_index h)
theorem ch_count0 (h : ChNo c u) : Lib.countB u (b1 c) = 0 := Lib.countB_miss u (b1 c) (ch_none h)
theorem by_tail (hk : i + j < u.size) : by' (u.extract i u.size) j = by' u (i + j) := by_ex u i u.size j (Nat.le_refl _) (by omega)
theorem sz_ex (hj : j ≤ u.size) : (u.extract i j).size = j - i := by rw [ByteArray.size_extract]; omega
/-- Just two, at a and at b. -/
def Ch2 (c : UInt8) (u : ByteArray) (a b : Nat) : Prop := a < b ∧ b < u.size ∧ by' u a = c.toNat ∧ by' u b = c.toNat ∧ ∀ k, k < u.size → by' u k = c.toNat → k = a ∨ k = b
theorem ex_ex (hj : j ≤ u.size) (hb : b ≤ j - i) : (u.extract i j).extract a b = u.extract (i + a) (i + b) := by
  by_cases hab : a ≤ b
  · refine by_ext ?_ fun k hk => ?_
    · simp only [ByteArray.size_extract]; omega
    · rw [sz_ex (by rw [sz_ex hj]; exact hb)] at hk
      rw [by_ex _ _ _ _ (by rw [sz_ex hj]; exact hb) hk, by_ex _ _ _ _ hj (by omega), by_ex _ _ _ _ (by omega) (by omega), Nat.add_assoc]
  · refine by_ext ?_ fun k hk => ?_
    · simp only [ByteArray.size_extract]; omega
    · rw [sz_ex (by rw [sz_ex hj]; exact hb)] at hk; omega
theorem two_parts (h : Ch2 c u a b) : Lib.countB u (b1 c) = 2 ∧ Lib.splitB (b1 c) 0 2 u = [u.extract 0 a, u.extract (a + 1) b, u.extract (b + 1) u.size] := by
  obtain ⟨hab, hb, ea, eb, ho⟩ := h
  have A : ChAt c u a := ⟨by omega, ea, fun k hk e => by rcases ho k (by omega) e with h | h <;> omega⟩
  have hs : (u.extract (a + 1) u.size).size = u.size - (a + 1) := sz_ex (Nat.le_refl _)
  have B : ChAt c (u.extract (a + 1) u.size) (b - (a + 1)) := by
    refine ⟨by omega, ?_, fun k hk e => ?_⟩
    · rw [by_tail (by omega), show a + 1 + (b - (a + 1)) = b from by omega]; exact eb
    · rw [by_tail (by omega)] at e
      rcases ho _ (by omega) e with h | h <;> omega
  have ex : (u.extract (a + 1) u.size).extract (b - (a + 1) + 1) (u.extract (a + 1) u.size).size = u.extract (b + 1) u.size := by
    rw [hs, ex_ex (Nat.le_refl _) (Nat.le_refl _)]
    congr 1 <;> omega
  have C : ChNo c (u.extract (b + 1) u.size) := fun k hk e => by
    rw [sz_ex (Nat.le_refl _)] at hk
    rw [by_tail (by omega)] at e
    rcases ho _ (by omega) e with h | h <;> omega
  constructor
  · rw [ch_count A, ch_count B, ex, ch_count0 C]
  · rw [Lib.splitB_hit (b1 c) 0 1 u a (ch_index A)]
    show _ :: Lib.splitB (b1 c) 0 1 (u.extract (a + 1) u.size) = _
    rw [Lib.splitB_hit (b1 c) 0 0 _ _ (ch_index B)]
    show _ :: _ :: [(u.extract (a + 1) u.size).extract (b - (a + 1) + 1) (u.extract (a + 1) u.size).size] = _
    rw [ex, ex_ex (Nat.le_refl _) (by omega)]
    have e1 : a + 1 + 0 = a + 1 := rfl
    have e2 : a + 1 + (b - (a + 1) + 0) = b := by omega
    rw [e1, e2]; rfl
theorem two_of_count (h : Lib.countB u (b1 c) = 2) : ∃ a b, Ch2 c u a b := by
  rcases ch_cases c u with ⟨a, A⟩ | N
  · rw [ch_count A] at h
    have hs : (u.extract (a + 1) u.size).size = u.size - (a + 1) := sz_ex (Nat.le_refl _)
    rcases ch_cases c (u.extract (a + 1) u.size) with ⟨b, B⟩ | N
    · rw [ch_count B] at h
      have hb := B.1
      rw [hs] at hb
      have ex : (u.extract (a + 1) u.size).extract (b + 1) (u.extract (a + 1) u.size).size = u.extract (a + 1 + (b + 1)) u.size := by
        rw [hs, ex_ex (Nat.le_refl _) (Nat.le_refl _)]
        congr 1; omega
      rw [ex] at h
      have hs2 : (u.extract (a + 1 + (b + 1)) u.size).size = u.size - (a + 1 + (b + 1)) := sz_ex (Nat.le_refl _)
      rcases ch_cases c (u.extract (a + 1 + (b + 1)) u.size) with ⟨d, D⟩ | N
      · rw [ch_count D] at h; omega
      · refine ⟨a, a + 1 + b, by omega, by omega, A.2.1, by have := B.2.1; rwa [by_tail (by omega)] at this, fun k hk e => ?_⟩
        rcases Nat.lt_trichotomy k a with h1 | h1 | h1
        · exact absurd e (A.2.2 k h1)
        · exact .inl h1
        · rcases Nat.lt_trichotomy k (a + 1 + b) with h2 | h2 | h2
          · have := B.2.2 (k - (a + 1)) (by omega)
            rw [by_tail (by omega), show a + 1 + (k - (a + 1)) = k from by omega] at this
            exact absurd e this
          · exact .inr h2
          · have := N (k - (a + 1 + (b + 1))) (by omega)
            rw [by_tail (by omega), show a + 1 + (b + 1) + (k - (a + 1 + (b + 1))) = k from by omega] at this
            exact absurd e this
    · rw [ch_count0 N] at h; omega
  · rw [ch_count0 N] at h; omega
end
/-- How the text of a vector falls into brackets and three parts. -/
def VCut (s : ByteArray) (i j : Nat) : Prop := 2 ≤ s.size ∧ by' s 0 = 40 ∧ by' s (s.size - 1) = 41 ∧ Ch2 32 s i j
def Vq.zero : Vq := ⟨.zero, .zero, .zero⟩
/-- What a text is read as. -/
inductive VP (s : ByteArray) : Vq → Int → Prop
  | form (h : ∀ i j, ¬ VCut s i j) : VP s .zero 2
  | e0 {i j x c} (h : VCut s i j) (hx : FP (s.extract 1 i) x c) (h0 : c ≠ 0) : VP s .zero c
  | e1 {i j x y c} (h : VCut s i j) (hx : FP (s.extract 1 i) x 0) (hy : FP (s.extract (i + 1) j) y c) (h0 : c ≠ 0) : VP s .zero c
  | e2 {i j x y z c} (h : VCut s i j) (hx : FP (s.extract 1 i) x 0) (hy : FP (s.extract (i + 1) j) y 0) (hz : FP (s.extract (j + 1) (s.size - 1)) z c) (h0 : c ≠ 0) : VP s .zero c
  | good {i j x y z} (h : VCut s i j) (hx : FP (s.extract 1 i) x 0) (hy : FP (s.extract (i + 1) j) y 0) (hz : FP (s.extract (j + 1) (s.size - 1)) z 0) : VP s ⟨x, y, z⟩ 0
/-- The inner text has its spaces one place earlier. -/
theorem vcut_inner {s : ByteArray} {i j : Nat} (h : VCut s i j) : 1 ≤ i ∧ i < j ∧ j < s.size - 1 ∧ Lib.countB s (b1 32) = 2 ∧ Lib.countB (s.extract 1 (s.size - 1)) (b1 32) = 2 ∧
    Lib.splitB (b1 32) 0 2 (s.extract 1 (s.size - 1)) = [s.extract 1 i, s.extract (i + 1) j, s.extract (j + 1) (s.size - 1)] := by
  obtain ⟨h2, ha, hz, hc⟩ := h
  obtain ⟨hij, hj, ei, ej, ho⟩ := hc
  have e32 : (32 : UInt8).toNat = 32 := rfl
  have hi : 1 ≤ i := by
    rcases Nat.eq_zero_or_pos i with h | h
    · subst h; rw [ha, e32] at ei; omega
    · exact h
  have hjs : j < s.size - 1 := by
    by_cases h : j = s.size - 1
    · rw [h, hz, e32] at ej; omega
    · omega
  have hs : (s.extract 1 (s.size - 1)).size = s.size - 1 - 1 := sz_ex (by omega)
  have C : Ch2 32 (s.extract 1 (s.size - 1)) (i - 1) (j - 1) := by
    refine ⟨by omega, by omega, ?_, ?_, fun k hk e => ?_⟩
    · rw [by_ex _ _ _ _ (by omega) (by omega), show 1 + (i - 1) = i from by omega]; exact ei
    · rw [by_ex _ _ _ _ (by omega) (by omega), show 1 + (j - 1) = j from by omega]; exact ej
    · rw [by_ex _ _ _ _ (by omega) (by omega)] at e
      rcases ho _ (by omega) e with h | h <;> omega
  have T := two_parts C
  refine ⟨hi, hij, hjs, (two_parts ⟨hij, hj, ei, ej, ho⟩).1, T.1, ?_⟩
  rw [T.2, hs, ex_ex (by omega) (by omega), ex_ex (by omega) (by omega), ex_ex (by omega) (by omega)]
  congr 1
  · congr 1; omega
  · congr 1
    · congr 1 <;> omega
    · congr 1
      congr 1 <;> omega
end Go.Proofs.YtfhinmdhjlmikaaGreatDoor
namespace Go.Proofs
open Go.Shelf
def Tryz.lays138_ren : Go.Shelf.Ren := ⟨fun | 138 => 46 | 195 => 67 | 218 => 68 | 143 => 69 | 219 => 89 | 217 => 100 | 225 => 101 | 224 => 102 | 267 => 103 | 266 => 108 | 314 => 109 | n => n, fun | 9 => 9 | 3 => 3 | 4 => 4 | 5 => 5 | 0 => 0 | 46 => 89 | 146 => 90 | 51 => 72 | n => n, fun | 1 => 0 | n => n⟩
theorem Tryz.lays138 : Go.Proofs.Lays.n138 Tryz.prog Tryz.lays138_ren := {
  mixed := by kernel_rfl
  f138 := Tryz.func46.trans (congrArg some (by kernel_rfl))
  f143 := Tryz.func69.trans (congrArg some (by kernel_rfl))
  f195 := Tryz.func67.trans (congrArg some (by kernel_rfl))
  f217 := Tryz.func100.trans (congrArg some (by kernel_rfl))
  f218 := Tryz.func68.trans (congrArg some (by kernel_rfl))
  f219 := Tryz.func89.trans (congrArg some (by kernel_rfl))
  f224 := Tryz.func102.trans (congrArg some (by kernel_rfl))
  f225 := Tryz.func101.trans (congrArg some (by kernel_rfl))
  f266 := Tryz.func108.trans (congrArg some (by kernel_rfl))
  f267 := Tryz.func103.trans (congrArg some (by kernel_rfl))
  f314 := Tryz.func109.trans (congrArg some (by kernel_rfl))
  t0 := Tryz.underlying0
  a0 := Tryz.isAgg0
  z0 := Tryz.sizeOf0
  v0 := Tryz.zeroValue0
  t3 := Tryz.underlying3
  a3 := Tryz.isAgg3
  z3 := Tryz.sizeOf3
  v3 := Tryz.zeroValue3
  t4 := Tryz.underlying4
  a4 := Tryz.isAgg4
  z4 := Tryz.sizeOf4
  v4 := Tryz.zeroValue4
  t5 := Tryz.underlying5
  a5 := Tryz.isAgg5
  z5 := Tryz.sizeOf5
  v5 := Tryz.zeroValue5
  t9 := Tryz.underlying9
  a9 := Tryz.isAgg9
  z9 := Tryz.sizeOf9
  v9 := Tryz.zeroValue9
  t46 := Tryz.underlying89
  a46 := Tryz.isAgg89
  z46 := Tryz.sizeOf89
  v46 := Tryz.zeroValue89
  t51 := Tryz.underlying72
  a51 := Tryz.isAgg72
  z51 := Tryz.sizeOf72
  v51 := Tryz.zeroValue72
  t146 := Tryz.underlying90
  a146 := Tryz.isAgg90
  z146 := Tryz.sizeOf90
  v146 := Tryz.zeroValue90
  g1 := by kernel_rfl }
def Tryz.lays146_ren : Go.Shelf.Ren := ⟨fun | 146 => 47 | 221 => 70 | 268 => 90 | 138 => 46 | 143 => 69 | 195 => 67 | 197 => 104 | 218 => 68 | 219 => 89 | 260 => 110 | 217 => 100 | 225 => 101 | 224 => 102 | 267 => 103 | 266 => 108 | 314 => 109 | n => n, fun | 9 => 9 | 31 => 59 | 3 => 3 | 4 => 4 | 0 => 0 | 105 => 109 | 21 => 21 | 5 => 5 | 46 => 89 | 119 => 115 | 139 => 118 | 138 => 117 | 146 => 90 | 51 => 72 | n => n, fun | 1 => 0 | 3 => 2 | 4 => 3 | n => n⟩
theorem Tryz.lays146 : Go.Proofs.Lays.n146 Tryz.prog Tryz.lays146_ren := {
  mixed := by kernel_rfl
  f138 := Tryz.func46.trans (congrArg some (by kernel_rfl))
  f143 := Tryz.func69.trans (congrArg some (by kernel_rfl))
  f146 := Tryz.func47.trans (congrArg some (by kernel_rfl))
  f195 := Tryz.func67.trans (congrArg some (by kernel_rfl))
  f197 := Tryz.func104.trans (congrArg some (by kernel_rfl))
  f217 := Tryz.func100.trans (congrArg some (by kernel_rfl))
  f218 := Tryz.func68.trans (congrArg some (by kernel_rfl))
  f219 := Tryz.func89.trans (congrArg some (by kernel_rfl))
  f221 := Tryz.func70.trans (congrArg some (by kernel_rfl))
  f224 := Tryz.func102.trans (congrArg some (by kernel_rfl))
  f225 := Tryz.func101.trans (congrArg some (by kernel_rfl))
  f260 := Tryz.func110.trans (congrArg some (by kernel_rfl))
  f266 := Tryz.func108.trans (congrArg some (by kernel_rfl))
  f267 := Tryz.func103.trans (congrArg some (by kernel_rfl))
  f268 := Tryz.func90.trans (congrArg some (by kernel_rfl))
  f314 := Tryz.func109.trans (congrArg some (by kernel_rfl))
  t0 := Tryz.underlying0
  a0 := Tryz.isAgg0
  z0 := Tryz.sizeOf0
  v0 := Tryz.zeroValue0
  t3 := Tryz.underlying3
  a3 := Tryz.isAgg3
  z3 := Tryz.sizeOf3
  v3 := Tryz.zeroValue3
  t4 := Tryz.underlying4
  a4 := Tryz.isAgg4
  z4 := Tryz.sizeOf4
  v4 := Tryz.zeroValue4
  t5 := Tryz.underlying5
  a5 := Tryz.isAgg5
  z5 := Tryz.sizeOf5
  v5 := Tryz.zeroValue5
  t9 := Tryz.underlying9
  a9 := Tryz.isAgg9
  z9 := Tryz.sizeOf9
  v9 := Tryz.zeroValue9
  t21 := Tryz.underlying21
  a21 := Tryz.isAgg21
  z21 := Tryz.sizeOf21
  v21 := Tryz.zeroValue21
  t31 := Tryz.underlying59
  a31 := Tryz.isAgg59
  z31 := Tryz.sizeOf59
  v31 := Tryz.zeroValue59
  t46 := Tryz.underlying89
  a46 := Tryz.isAgg89
  z46 := Tryz.sizeOf89
  v46 := Tryz.zeroValue89
  t51 := Tryz.underlying72
  a51 := Tryz.isAgg72
  z51 := Tryz.sizeOf72
  v51 := Tryz.zeroValue72
  t105 := Tryz.underlying109
  a105 := Tryz.isAgg109
  z105 := Tryz.sizeOf109
  v105 := Tryz.zeroValue109
  t119 := Tryz.underlying115
  a119 := Tryz.isAgg115
  z119 := Tryz.sizeOf115
  t138 := Tryz.underlying117
  a138 := Tryz.isAgg117
  z138 := Tryz.sizeOf117
  v138 := Tryz.zeroValue117
  t139 := Tryz.underlying118
  a139 := Tryz.isAgg118
  z139 := Tryz.sizeOf118
  v139 := Tryz.zeroValue118
  t146 := Tryz.underlying90
  a146 := Tryz.isAgg90
  z146 := Tryz.sizeOf90
  v146 := Tryz.zeroValue90
  g1 := by kernel_rfl
  g3 := by kernel_rfl
  g4 := by kernel_rfl }
end Go.Proofs
namespace Go.Proofs.YtfhinmdhjlmikaaGreatDoor
set_option linter.unusedSimpArgs false
set_option linter.unusedVariables false
set_option maxRecDepth 100000
open Go.RowKit
theorem c_Count1 (s : ByteArray) (c : UInt8) (w : World) : Calls Tryz.prog 46 #[.string s, .string (b1 c)] w fun e w' => e = .returned (.int .i64 (Lib.countByte s.data.toList c)) ∧ w' = w := Any.strings_Count_one Tryz.lays138 s c w
theorem c_Split1 (s : ByteArray) (c : UInt8) (w : World) (hs : s.size < 4294967281) : Calls Tryz.prog 47 #[.string s, .string (b1 c)] w fun e w' =>
    e = .returned (.slice (some ⟨w.heap.size, 0, none⟩) (Lib.countB s (b1 c) + 1) (Lib.countB s (b1 c) + 1)) ∧ w' = w.alloc (.cells ((Lib.splitB (b1 c) 0 (Lib.countB s (b1 c)) s).map Value.string).toArray strT) :=
  Any.strings_Split_one Tryz.lays146 (by kernel_rfl) s c w hs
section
variable {xs : List Fq} {ys : Rho} {n m k i : Nat} {x : Fq} {s : ByteArray} {c : UInt8} {l : Leaf} {e : Int} {ss : List ByteArray}
theorem I_Count (hn : (frs xs ++ ys)[n]? = some (.val (.string s))) (hl : ∀ B w, l.holds (frs xs ++ ys) B w (.int .i64 (Lib.countB s (b1 c) : Int))) : OkI xs ys ⟨46, [.one (.ref n), .one (.s (b1 c))], .v (.one l)⟩ :=
  ⟨enters Tryz.func46 rfl rfl, fun B w vs h => by
    match vs, h with
    | [va, vb], h =>
      have e1 := leaf_val (B := B) hn h.1
      have e2 : vb = .string (b1 c) := h.2.1
      subst e1; subst e2
      refine (c_Count1 s c w).mono ?_
      rintro e w' ⟨rfl, rfl⟩
      refine ⟨_, rfl, ?_, Below.refl _ _⟩
      have e3 : (Lib.countByte s.data.toList c) = Lib.countB s (b1 c) := (Lib.count_one c s.data.toList).symm
      rw [e3]
      exact hl B w'⟩
theorem I_Split (hn : (frs xs ++ ys)[n]? = some (.val (.string s))) (hm : (frs xs ++ ys)[m]? = some (.strs ss)) (hl : Lib.splitB (b1 c) 0 (Lib.countB s (b1 c)) s = ss) (hs : s.size < 4294967281) : OkI xs ys ⟨47, [.one (.ref n), .one (.s (b1 c))], .v (.one (.ref m))⟩ :=
  ⟨enters Tryz.func47 rfl rfl, fun B w vs h => by
    match vs, h with
    | [va, vb], h =>
      have e1 := leaf_val (B := B) hn h.1
      have e2 : vb = .string (b1 c) := h.2.1
      subst e1; subst e2
      refine (c_Split1 s c w hs).mono ?_
      rintro e w' ⟨rfl, rfl⟩
      have hlen := Lib.splitB_all (b1 c) (Nat.le_refl 1) 0 _ s rfl
      rw [hl] at hlen
      rw [hl]
      refine ⟨_, rfl, ⟨_, hm, w.heap.size, 0, _, _, by rw [hlen], heap_alloc_new w _, fun j z hj => ?_⟩, bel1 w _⟩
      simp [hj]⟩
theorem instP {f : FuncId} (hen : Ent' f) (hc : ∀ w, Calls Tryz.prog f #[.string s] w (fun a w' => RetQE w x e a w')) (hn : (frs xs ++ ys)[n]? = some (.val (.string s))) (hk : xs[k]? = some x) (hl : ∀ B w, l.holds (frs xs ++ ys) B w (.int .i64 e)) : OkI xs ys ⟨f, [.one (.ref n)], .tup [fr k, .one l]⟩ :=
  ⟨hen, fun B w vs h => by
    match vs, h with
    | [va], h =>
      have e1 := leaf_val (B := B) hn h.1
      subst e1
      refine (hc w).mono ?_
      rintro a w' ⟨v, rfl, h1, h2⟩
      exact ⟨_, rfl, ⟨[v, .int .i64 e], rfl, (fr_isQ hk).2 h1, hl B w', trivial⟩, h2⟩⟩
theorem I_fParse (hn : (frs xs ++ ys)[n]? = some (.val (.string s))) (hk : xs[k]? = some x) (hl : ∀ B w, l.holds (frs xs ++ ys) B w (.int .i64 e)) (h : FP s x e) (hs : s.size ≤ 4294967280) : OkI xs ys ⟨48, [.one (.ref n)], .tup [fr k, .one l]⟩ :=
  instP (enters Tryz.func48 rfl rfl) (fun w => q_fParse s x e w h hs) hn hk hl
theorem I_fFormat (hi : xs[i]? = some x) (hl : ∀ B w, l.holds (frs xs ++ ys) B w (.string x.fmt)) (ox : x.ok 1000000000) : OkI xs ys ⟨50, [fr i], .v (.one l)⟩ :=
  inst1V (enters Tryz.func50 rfl rfl) (fun va w h1 => q_fFormat va x w h1 ox) hi hl
end
end Go.Proofs.YtfhinmdhjlmikaaGreatDoor
