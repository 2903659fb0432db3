/- Parse of the reference of fractions, by the executor. The plain law of the texts of fractions: what is read is what is written. Texts with two spaces: what strings.Count and strings.Split give. The calls of package strings, of fraction's texts, for the executor. The call of strings.Join. -/
import Derived.Test.YthebfmlfgfmlnaaGreatDoorP11
import Derived.Lib.SplitLaws
import Derived.Lib.IndexBytes
import Derived.Shelf.Strings.OnBuilder
namespace Go.Proofs.YthebfmlfgfmlnaaGreatDoor
set_option linter.unusedSimpArgs false
set_option linter.unusedVariables false
set_option maxRecDepth 100000
open Go.RowKit
/-- Where the search for a slash begins and ends. -/
def rP0 (n : Nat) (b : Bool) : MS := mkMS 83 [(0, .v (.one (.ref n))), (2, .v (.one (.ptr 0 0))), (3, .v (.one (.i .i64 0))), (4, .v (.one (.b b))), (5, .v (.one (.i .i64 0)))] [(26, [some (.b false), some .sl0, some .sl0])]
def rP2 (n m : Nat) (b : Bool) : MS := mkMS 83 [(0, .v (.one (.ref n))), (2, .v (.one (.ptr 0 0))), (3, .v (.one (.i .i64 0))), (4, .v (.one (.b b))), (5, .v (.one (.ref m)))] [(26, [some (.b false), some .sl0, some .sl0])]
structure IdxIs (t : ByteArray) (F : Bool) (i : Nat) : Prop where
  le : i ≤ t.size
  before : ∀ j, j < i → by' t j ≠ 47
  hit : F = true → i < t.size ∧ by' t i = 47
  miss : F = false → i = t.size
theorem pieces_idx {s t a b : ByteArray} {B F : Bool} (h : Pieces s t B F a b) : ∃ i, IdxIs t F i ∧ a = t.extract 0 i ∧ (F = true → b = t.extract (i + 1) t.size) := by
  cases F with
  | true =>
    obtain ⟨i, h1, h2, h3⟩ := h.hit rfl
    exact ⟨i, ⟨by have := h1.1; omega, h1.2.2, fun _ => ⟨h1.1, h1.2.1⟩, fun h => (by cases h)⟩, h2, fun _ => h3⟩
  | false =>
    obtain ⟨h1, h2, h3⟩ := h.miss rfl
    exact ⟨t.size, ⟨Nat.le_refl _, fun j hj => h1 j hj, fun h => (by cases h), fun _ => rfl⟩, by rw [h2]; simp, fun h => (by cases h)⟩
section
variable {ρ : Rho} {n m k : Nat} {s z : ByteArray} {t : TypeId} {u c : Int}
theorem o_slFrom (ht : isStrB Tryz.prog t = true) (hn : ρ[n]? = some (.val (.string s))) (hm : ρ[m]? = some (.val (.string z))) (h0 : 0 ≤ c) (h1 : c ≤ s.size) (hz : s.extract c.toNat s.size = z) : (OIns.mk (.sl t true false) [.one (.ref n), .one (.i .i64 c)] (.one (.ref m))).Ok Tryz.prog ρ := fun B w vs hv => by
  match vs, hv with
  | [v1, v2], hv =>
    obtain rfl := leaf_val (B := B) hn hv.1
    have e2 : v2 = .int .i64 c := hv.2.1
    subst e2; subst hz
    refine ⟨.string (s.extract c.toNat s.size), leaf_mk (B := B) hm flat_str, ?_⟩
    have h4 : c ≤ ((s.size : Int).toNat : Int) := by omega
    simp [Instr.sliceAt, Instr.slice, Instr.sliceBounds, Instr.sliceBound, asIntOf, Sem.run_bind, run_underlying (str_under ht), Result.andThen, h0, h1, h4]
theorem o_slFromR (ht : isStrB Tryz.prog t = true) (hn : ρ[n]? = some (.val (.string s))) (hk : ρ[k]? = some (.val (.int .i64 u))) (hm : ρ[m]? = some (.val (.string z))) (h0 : 0 ≤ u) (h1 : u ≤ s.size) (hz : s.extract u.toNat s.size = z) : (OIns.mk (.sl t true false) [.one (.ref n), .one (.ref k)] (.one (.ref m))).Ok Tryz.prog ρ := fun B w vs hv => by
  match vs, hv with
  | [v1, v2], hv =>
    obtain rfl := leaf_val (B := B) hn hv.1
    obtain rfl := leaf_val (B := B) hk hv.2.1
    subst hz
    refine ⟨.string (s.extract u.toNat s.size), leaf_mk (B := B) hm flat_str, ?_⟩
    have h4 : u ≤ ((s.size : Int).toNat : Int) := by omega
    simp [Instr.sliceAt, Instr.slice, Instr.sliceBounds, Instr.sliceBound, asIntOf, Sem.run_bind, run_underlying (str_under ht), Result.andThen, h0, h1, h4]
theorem o_slToR (ht : isStrB Tryz.prog t = true) (hn : ρ[n]? = some (.val (.string s))) (hk : ρ[k]? = some (.val (.int .i64 u))) (hm : ρ[m]? = some (.val (.string z))) (h0 : 0 ≤ u) (h1 : u ≤ s.size) (hz : s.extract 0 u.toNat = z) : (OIns.mk (.sl t false true) [.one (.ref n), .one (.ref k)] (.one (.ref m))).Ok Tryz.prog ρ := fun B w vs hv => by
  match vs, hv with
  | [v1, v2], hv =>
    obtain rfl := leaf_val (B := B) hn hv.1
    obtain rfl := leaf_val (B := B) hk hv.2.1
    subst hz
    refine ⟨.string (s.extract 0 u.toNat), leaf_mk (B := B) hm flat_str, ?_⟩
    have h4 : u ≤ (u.toNat : Int) := by omega
    simp [Instr.sliceAt, Instr.slice, Instr.sliceBounds, Instr.sliceBound, asIntOf, Sem.run_bind, run_underlying (str_under ht), Result.andThen, h0, h1, h4]
theorem cm0 {ρ ρ' : Rho} : ∀ n, n < 0 → ρ[n]? = ρ'[n]? := fun _ h => absurd h (Nat.not_lt_zero _)
theorem cm1 {ρ ρ' : Rho} (h : ρ[0]? = ρ'[0]?) : ∀ n, n < 1 → ρ[n]? = ρ'[n]? := fun n hn => by
  obtain rfl : n = 0 := by omega
  exact h
theorem sg_int {ρ' : Rho} {l : Leaf} {v : Int} (h2 : ρ'[n]? = some (.val (.int .i64 v))) (hl : ∀ B w x, l.holds ρ B w x → x = .int .i64 u) (e : u = v) (ho : l.noPtr = true := by rfl) : ∀ B B' w x, (∀ x g, B' x = some g → B x = some g) → (∀ x, OW ≤ x → B' x = B x) → l.holds ρ B w x → (Leaf.like l n).holds ρ' B' w x := sg_val h2 ho (fun B w x h => by subst e; have := hl B w x h; subst this; exact ⟨rfl, flat_int⟩)
end
theorem rP_loop0 {ρ : Rho} {w : World} {t : ByteArray} {F : Bool} {i : Nat} (b : Bool) (h0 : ρ[0]? = some (.val (.string t))) (h1 : ρ[1]? = some (.val (.int .i64 (i : Int)))) (hI : IdxIs t F i) (hs : t.size ≤ 4294967280) :
    LOb.Ok Tryz.prog ρ w 83 ⟨loopAt Tryz.f52 0, rP0 0 b, .ext 0, rP2 0 1 b⟩ := by
  have hle := hI.le
  refine loop_rounds i (fun k => [.val (.string t), .val (.int .i64 ((k : Nat) : Int)), .val (.int .i64 (t.size : Int)), .val (.int .u8 ((by' t k : Nat) : Int)), .val (.int .i64 (((k : Nat) : Int) + 1))]) (fun _ => rP2 0 1 b) ?_ ?_ ?_ (by decide)
  · intro a w' h
    exact MSt.conv (N := 0) (σ := [(0, .ref 0), (1, .i .i64 0)]) cm0 (sig_cons (sg_ref h0 rfl) (sig_cons (sg_int (u := 0) rfl (fun _ _ _ h => h) rfl) sig_nil)) (by cases b <;> kernel_rfl) h
  · intro k hk
    have hb := hI.before k hk
    refine chk_sound (N := 1) (σ := [(1, .ref 4)]) (lo := []) (n := 300) (C := []) il_nil
      (ol_cons (o_lenS (n := 0) (m := 2) (t := 9) (by kernel_rfl) rfl rfl) (ol_cons (o_lssR (n := 1) (m := 2) (b := true) (t := 3) rfl rfl (decide_eq_true (by omega))) (ol_cons (o_idxR (n := 0) (k := 1) (m := 3) (t := 9) (b := by' t k) (by kernel_rfl) rfl rfl rfl (by omega) (by omega) (congrArg (by' t) (by omega))) (ol_cons (o_neqK (n := 3) (c := 47) (b := true) (t := 5) rfl (bneq_t (by omega))) (ol_cons (o_addK (n := 1) (m := 4) (c := 1) (t := 3) rfl rfl rfl (by omega) (by omega)) ol_nil)))))
      (by kernel_rfl) (obs := []) (by cases b <;> kernel_rfl) lo_nil (cm1 rfl) (sig_cons (sg_int (u := ((k : Nat) : Int) + 1) (v := ((k + 1 : Nat) : Int)) rfl (fun _ _ _ h => leaf_val rfl h) (by omega)) sig_nil)
  · cases F with
    | true =>
      have hh := hI.hit rfl
      exact chk_sound (N := 0) (σ := [(0, .ref 0), (1, .ref 1)]) (lo := []) (n := 300) (C := []) il_nil
        (ol_cons (o_lenS (n := 0) (m := 2) (t := 9) (by kernel_rfl) rfl rfl) (ol_cons (o_lssR (n := 1) (m := 2) (b := true) (t := 3) rfl rfl (decide_eq_true (by omega))) (ol_cons (o_idxR (n := 0) (k := 1) (m := 3) (t := 9) (b := by' t i) (by kernel_rfl) rfl rfl rfl (by omega) (by omega) (congrArg (by' t) (by omega))) (ol_cons (o_neqK (n := 3) (c := 47) (b := false) (t := 5) rfl (bneq_f (by omega))) ol_nil))))
        (by kernel_rfl) (obs := []) (by cases b <;> kernel_rfl) lo_nil cm0 (sig_cons (sg_ref rfl h0) (sig_cons (sg_ref rfl h1) sig_nil))
    | false =>
      have hh := hI.miss rfl
      exact chk_sound (N := 0) (σ := [(0, .ref 0), (1, .ref 1)]) (lo := []) (n := 300) (C := []) il_nil
        (ol_cons (o_lenS (n := 0) (m := 2) (t := 9) (by kernel_rfl) rfl rfl) (ol_cons (o_lssR (n := 1) (m := 2) (b := false) (t := 3) rfl rfl (decide_eq_false (by omega))) ol_nil))
        (by kernel_rfl) (obs := []) (by cases b <;> kernel_rfl) lo_nil cm0 (sig_cons (sg_ref rfl h0) (sig_cons (sg_ref rfl h1) sig_nil))
theorem rP_loop1 {ρ : Rho} {w : World} {t : ByteArray} {F : Bool} {i : Nat} (b : Bool) (h0 : ρ[1]? = some (.val (.string t))) (h1 : ρ[2]? = some (.val (.int .i64 (i : Int)))) (hI : IdxIs t F i) (hs : t.size ≤ 4294967280) :
    LOb.Ok Tryz.prog ρ w 83 ⟨loopAt Tryz.f52 0, rP0 1 b, .ext 0, rP2 1 2 b⟩ := by
  have hle := hI.le
  refine loop_rounds i (fun k => [.val (.string t), .val (.int .i64 ((k : Nat) : Int)), .val (.int .i64 (t.size : Int)), .val (.int .u8 ((by' t k : Nat) : Int)), .val (.int .i64 (((k : Nat) : Int) + 1))]) (fun _ => rP2 0 1 b) ?_ ?_ ?_ (by decide)
  · intro a w' h
    exact MSt.conv (N := 0) (σ := [(0, .ref 1), (1, .i .i64 0)]) cm0 (sig_cons (sg_ref h0 rfl) (sig_cons (sg_int (u := 0) rfl (fun _ _ _ h => h) rfl) sig_nil)) (by cases b <;> kernel_rfl) h
  · intro k hk
    have hb := hI.before k hk
    refine chk_sound (N := 1) (σ := [(1, .ref 4)]) (lo := []) (n := 300) (C := []) il_nil
      (ol_cons (o_lenS (n := 0) (m := 2) (t := 9) (by kernel_rfl) rfl rfl) (ol_cons (o_lssR (n := 1) (m := 2) (b := true) (t := 3) rfl rfl (decide_eq_true (by omega))) (ol_cons (o_idxR (n := 0) (k := 1) (m := 3) (t := 9) (b := by' t k) (by kernel_rfl) rfl rfl rfl (by omega) (by omega) (congrArg (by' t) (by omega))) (ol_cons (o_neqK (n := 3) (c := 47) (b := true) (t := 5) rfl (bneq_t (by omega))) (ol_cons (o_addK (n := 1) (m := 4) (c := 1) (t := 3) rfl rfl rfl (by omega) (by omega)) ol_nil)))))
      (by kernel_rfl) (obs := []) (by cases b <;> kernel_rfl) lo_nil (cm1 rfl) (sig_cons (sg_int (u := ((k : Nat) : Int) + 1) (v := ((k + 1 : Nat) : Int)) rfl (fun _ _ _ h => leaf_val rfl h) (by omega)) sig_nil)
  · cases F with
    | true =>
      have hh := hI.hit rfl
      exact chk_sound (N := 0) (σ := [(1, .ref 0), (2, .ref 1)]) (lo := []) (n := 300) (C := []) il_nil
        (ol_cons (o_lenS (n := 0) (m := 2) (t := 9) (by kernel_rfl) rfl rfl) (ol_cons (o_lssR (n := 1) (m := 2) (b := true) (t := 3) rfl rfl (decide_eq_true (by omega))) (ol_cons (o_idxR (n := 0) (k := 1) (m := 3) (t := 9) (b := by' t i) (by kernel_rfl) rfl rfl rfl (by omega) (by omega) (congrArg (by' t) (by omega))) (ol_cons (o_neqK (n := 3) (c := 47) (b := false) (t := 5) rfl (bneq_f (by omega))) ol_nil))))
        (by kernel_rfl) (obs := []) (by cases b <;> kernel_rfl) lo_nil cm0 (sig_cons (sg_ref rfl h0) (sig_cons (sg_ref rfl h1) sig_nil))
    | false =>
      have hh := hI.miss rfl
      exact chk_sound (N := 0) (σ := [(1, .ref 0), (2, .ref 1)]) (lo := []) (n := 300) (C := []) il_nil
        (ol_cons (o_lenS (n := 0) (m := 2) (t := 9) (by kernel_rfl) rfl rfl) (ol_cons (o_lssR (n := 1) (m := 2) (b := false) (t := 3) rfl rfl (decide_eq_false (by omega))) ol_nil))
        (by kernel_rfl) (obs := []) (by cases b <;> kernel_rfl) lo_nil cm0 (sig_cons (sg_ref rfl h0) (sig_cons (sg_ref rfl h1) sig_nil))
theorem rP_numT1 (s : ByteArray) (i : Nat) (M : Nat) (c : Int) (w : World) (hp : 0 < s.size) (hq : by' s 0 = 45) (hI : IdxIs (s.extract 1 s.size) true i) (ht : (s.extract 1 s.size).size ≤ 4294967280) (ha : ParseIs ((s.extract 1 s.size).extract 0 i) M c) (h0 : c ≠ 0) :
    Calls Tryz.prog 52 #[.string s] w fun e w' => RetQE w Fq.zero c e w' := by
  have hle := hI.le
  have hh := hI.hit rfl
  refine (calls_runFnL (ρ := [.val (.string s), .val (.string (s.extract 1 s.size)), .val (.int .i64 (i : Int)), .val (.int .i64 (s.size : Int)), .val (.int .u8 ((by' s 0 : Nat) : Int)), .val (.string ((s.extract 1 s.size).extract 0 i)), .dig (nl M) M, .val (.int .i64 c)]) (w := w) (fuel := 300) (args := [.one (.ref 0)]) (vs := [.string s]) (r := .tup [.agg [.b false, .sl0, .sl0], .one (.ref 7)]) (lo := [some (rP0 1 true, .ext 0, rP2 1 2 true)]) (obs := [⟨loopAt Tryz.f52 0, rP0 1 true, .ext 0, rP2 1 2 true⟩])
    (il_cons (I_mParse (i := 5) (k := 6) rfl rfl (lr (n := 7) rfl) ha) il_nil)
    (ol_cons (o_lenS (n := 0) (m := 3) (t := 9) (by kernel_rfl) rfl rfl) (ol_cons (o_gtrK (n := 3) (c := 0) (t := 3) rfl (decide_eq_true (by omega))) (ol_cons (o_idxS (n := 0) (m := 4) (k := 0) (c := 0) (t := 9) (by kernel_rfl) rfl rfl (by omega) rfl) (ol_cons (o_eqlK (n := 4) (c := 45) (t := 5) rfl (beql_t (by omega))) (ol_cons (o_slFrom (n := 0) (m := 1) (c := 1) (t := 9) (by kernel_rfl) rfl rfl (by decide) (by omega) rfl) (ol_cons (o_slToR (n := 1) (k := 2) (m := 5) (u := (i : Int)) (t := 9) (by kernel_rfl) rfl rfl rfl (by omega) (by omega) (congrArg ((s.extract 1 s.size).extract 0) (by omega))) (ol_cons (o_neqK (n := 7) (c := 0) (t := 39) rfl (bneq_t h0)) (ol_nil)))))))) (by kernel_rfl) Tryz.func52 (by kernel_rfl) (lo_cons (rP_loop1 true rfl rfl hI ht) lo_nil) ⟨leaf_mk (n := 0) rfl flat_str, trivial⟩).mono ?_
  rintro e w' ⟨v, rfl, h1, h2⟩
  obtain ⟨u, rfl, h3⟩ := outT h1 (fun _ _ _ h => leaf_val rfl h)
  exact ⟨u, rfl, outZ h3, h2⟩
theorem rP_numT0 (s : ByteArray) (i : Nat) (M : Nat) (c : Int) (w : World) (hp : 0 < s.size) (hq : by' s 0 = 45) (hI : IdxIs (s.extract 1 s.size) false i) (ht : (s.extract 1 s.size).size ≤ 4294967280) (ha : ParseIs ((s.extract 1 s.size).extract 0 i) M c) (h0 : c ≠ 0) :
    Calls Tryz.prog 52 #[.string s] w fun e w' => RetQE w Fq.zero c e w' := by
  have hle := hI.le
  have hh := hI.miss rfl
  refine (calls_runFnL (ρ := [.val (.string s), .val (.string (s.extract 1 s.size)), .val (.int .i64 (i : Int)), .val (.int .i64 (s.size : Int)), .val (.int .u8 ((by' s 0 : Nat) : Int)), .val (.string ((s.extract 1 s.size).extract 0 i)), .dig (nl M) M, .val (.int .i64 c)]) (w := w) (fuel := 300) (args := [.one (.ref 0)]) (vs := [.string s]) (r := .tup [.agg [.b false, .sl0, .sl0], .one (.ref 7)]) (lo := [some (rP0 1 true, .ext 0, rP2 1 2 true)]) (obs := [⟨loopAt Tryz.f52 0, rP0 1 true, .ext 0, rP2 1 2 true⟩])
    (il_cons (I_mParse (i := 5) (k := 6) rfl rfl (lr (n := 7) rfl) ha) il_nil)
    (ol_cons (o_lenS (n := 0) (m := 3) (t := 9) (by kernel_rfl) rfl rfl) (ol_cons (o_gtrK (n := 3) (c := 0) (t := 3) rfl (decide_eq_true (by omega))) (ol_cons (o_idxS (n := 0) (m := 4) (k := 0) (c := 0) (t := 9) (by kernel_rfl) rfl rfl (by omega) rfl) (ol_cons (o_eqlK (n := 4) (c := 45) (t := 5) rfl (beql_t (by omega))) (ol_cons (o_slFrom (n := 0) (m := 1) (c := 1) (t := 9) (by kernel_rfl) rfl rfl (by decide) (by omega) rfl) (ol_cons (o_slToR (n := 1) (k := 2) (m := 5) (u := (i : Int)) (t := 9) (by kernel_rfl) rfl rfl rfl (by omega) (by omega) (congrArg ((s.extract 1 s.size).extract 0) (by omega))) (ol_cons (o_neqK (n := 7) (c := 0) (t := 39) rfl (bneq_t h0)) (ol_nil)))))))) (by kernel_rfl) Tryz.func52 (by kernel_rfl) (lo_cons (rP_loop1 true rfl rfl hI ht) lo_nil) ⟨leaf_mk (n := 0) rfl flat_str, trivial⟩).mono ?_
  rintro e w' ⟨v, rfl, h1, h2⟩
  obtain ⟨u, rfl, h3⟩ := outT h1 (fun _ _ _ h => leaf_val rfl h)
  exact ⟨u, rfl, outZ h3, h2⟩
theorem rP_denT (s : ByteArray) (i : Nat) (M N : Nat) (c : Int) (w : World) (hp : 0 < s.size) (hq : by' s 0 = 45) (hI : IdxIs (s.extract 1 s.size) true i) (ht : (s.extract 1 s.size).size ≤ 4294967280) (ha : ParseIs ((s.extract 1 s.size).extract 0 i) M 0) (hb : ParseIs ((s.extract 1 s.size).extract (i + 1) (s.extract 1 s.size).size) N c) (h0 : c ≠ 0) :
    Calls Tryz.prog 52 #[.string s] w fun e w' => RetQE w Fq.zero c e w' := by
  have hle := hI.le
  have hh := hI.hit rfl
  refine (calls_runFnL (ρ := [.val (.string s), .val (.string (s.extract 1 s.size)), .val (.int .i64 (i : Int)), .val (.int .i64 (s.size : Int)), .val (.int .u8 ((by' s 0 : Nat) : Int)), .val (.string ((s.extract 1 s.size).extract 0 i)), .dig (nl M) M, .dig (nl 1) 1, .val (.int .i64 ((s.extract 1 s.size).size : Int)), .val (.int .i64 ((i : Int) + 1)), .val (.string ((s.extract 1 s.size).extract (i + 1) (s.extract 1 s.size).size)), .dig (nl N) N, .val (.int .i64 c)]) (w := w) (fuel := 300) (args := [.one (.ref 0)]) (vs := [.string s]) (r := .tup [.agg [.b false, .sl0, .sl0], .one (.ref 12)]) (lo := [some (rP0 1 true, .ext 0, rP2 1 2 true)]) (obs := [⟨loopAt Tryz.f52 0, rP0 1 true, .ext 0, rP2 1 2 true⟩])
    (il_cons (I_mParse (i := 5) (k := 6) rfl rfl (li rfl) ha) (il_cons (I_mOf (k := 7) rfl (by decide)) (il_cons (I_mParse (i := 10) (k := 11) rfl rfl (lr (n := 12) rfl) hb) il_nil)))
    (ol_cons (o_lenS (n := 0) (m := 3) (t := 9) (by kernel_rfl) rfl rfl) (ol_cons (o_gtrK (n := 3) (c := 0) (t := 3) rfl (decide_eq_true (by omega))) (ol_cons (o_idxS (n := 0) (m := 4) (k := 0) (c := 0) (t := 9) (by kernel_rfl) rfl rfl (by omega) rfl) (ol_cons (o_eqlK (n := 4) (c := 45) (t := 5) rfl (beql_t (by omega))) (ol_cons (o_slFrom (n := 0) (m := 1) (c := 1) (t := 9) (by kernel_rfl) rfl rfl (by decide) (by omega) rfl) (ol_cons (o_slToR (n := 1) (k := 2) (m := 5) (u := (i : Int)) (t := 9) (by kernel_rfl) rfl rfl rfl (by omega) (by omega) (congrArg ((s.extract 1 s.size).extract 0) (by omega))) (ol_cons (o_lenS (n := 1) (m := 8) (t := 9) (by kernel_rfl) rfl rfl) (ol_cons (o_lssR (n := 2) (m := 8) (b := true) (t := 3) rfl rfl (decide_eq_true (by omega))) (ol_cons (o_addK (n := 2) (m := 9) (c := 1) (t := 3) rfl rfl rfl (by omega) (by omega)) (ol_cons (o_slFromR (n := 1) (k := 9) (m := 10) (u := (i : Int) + 1) (t := 9) (by kernel_rfl) rfl rfl rfl (by omega) (by omega) (congrArg (fun j => (s.extract 1 s.size).extract j (s.extract 1 s.size).size) (by omega))) (ol_cons (o_neqK (n := 12) (c := 0) (t := 39) rfl (bneq_t h0)) (ol_nil)))))))))))) (by kernel_rfl) Tryz.func52 (by kernel_rfl) (lo_cons (rP_loop1 true rfl rfl hI ht) lo_nil) ⟨leaf_mk (n := 0) rfl flat_str, trivial⟩).mono ?_
  rintro e w' ⟨v, rfl, h1, h2⟩
  obtain ⟨u, rfl, h3⟩ := outT h1 (fun _ _ _ h => leaf_val rfl h)
  exact ⟨u, rfl, outZ h3, h2⟩
theorem rP_leT (s : ByteArray) (i : Nat) (M N : Nat) (w : World) (hp : 0 < s.size) (hq : by' s 0 = 45) (hI : IdxIs (s.extract 1 s.size) true i) (ht : (s.extract 1 s.size).size ≤ 4294967280) (ha : ParseIs ((s.extract 1 s.size).extract 0 i) M 0) (hb : ParseIs ((s.extract 1 s.size).extract (i + 1) (s.extract 1 s.size).size) N 0) (hN : ¬ 1 < N) :
    Calls Tryz.prog 52 #[.string s] w fun e w' => RetQE w Fq.zero 2 e w' := by
  have hle := hI.le
  have hh := hI.hit rfl
  refine (calls_runFnL (ρ := [.val (.string s), .val (.string (s.extract 1 s.size)), .val (.int .i64 (i : Int)), .val (.int .i64 (s.size : Int)), .val (.int .u8 ((by' s 0 : Nat) : Int)), .val (.string ((s.extract 1 s.size).extract 0 i)), .dig (nl M) M, .dig (nl 1) 1, .val (.int .i64 ((s.extract 1 s.size).size : Int)), .val (.int .i64 ((i : Int) + 1)), .val (.string ((s.extract 1 s.size).extract (i + 1) (s.extract 1 s.size).size)), .dig (nl N) N, .val (.int .i64 (cmpI N 1))]) (w := w) (fuel := 300) (args := [.one (.ref 0)]) (vs := [.string s]) (r := .tup [.agg [.b false, .sl0, .sl0], .one (.i .i64 2)]) (lo := [some (rP0 1 true, .ext 0, rP2 1 2 true)]) (obs := [⟨loopAt Tryz.f52 0, rP0 1 true, .ext 0, rP2 1 2 true⟩])
    (il_cons (I_mParse (i := 5) (k := 6) rfl rfl (li rfl) ha) (il_cons (I_mOf (k := 7) rfl (by decide)) (il_cons (I_mParse (i := 10) (k := 11) rfl rfl (li rfl) hb) (il_cons (I_mCmp (i := 11) (j := 7) rfl rfl (lr (n := 12) rfl) (Nat.le_trans (parse_nlU hb) (by decide)) (Nat.le_trans nl_one (by decide))) il_nil))))
    (ol_cons (o_lenS (n := 0) (m := 3) (t := 9) (by kernel_rfl) rfl rfl) (ol_cons (o_gtrK (n := 3) (c := 0) (t := 3) rfl (decide_eq_true (by omega))) (ol_cons (o_idxS (n := 0) (m := 4) (k := 0) (c := 0) (t := 9) (by kernel_rfl) rfl rfl (by omega) rfl) (ol_cons (o_eqlK (n := 4) (c := 45) (t := 5) rfl (beql_t (by omega))) (ol_cons (o_slFrom (n := 0) (m := 1) (c := 1) (t := 9) (by kernel_rfl) rfl rfl (by decide) (by omega) rfl) (ol_cons (o_slToR (n := 1) (k := 2) (m := 5) (u := (i : Int)) (t := 9) (by kernel_rfl) rfl rfl rfl (by omega) (by omega) (congrArg ((s.extract 1 s.size).extract 0) (by omega))) (ol_cons (o_lenS (n := 1) (m := 8) (t := 9) (by kernel_rfl) rfl rfl) (ol_cons (o_lssR (n := 2) (m := 8) (b := true) (t := 3) rfl rfl (decide_eq_true (by omega))) (ol_cons (o_addK (n := 2) (m := 9) (c := 1) (t := 3) rfl rfl rfl (by omega) (by omega)) (ol_cons (o_slFromR (n := 1) (k := 9) (m := 10) (u := (i : Int) + 1) (t := 9) (by kernel_rfl) rfl rfl rfl (by omega) (by omega) (congrArg (fun j => (s.extract 1 s.size).extract j (s.extract 1 s.size).size) (by omega))) (ol_cons (o_leqK (n := 12) (c := 0) (t := 3) rfl (cmp_le_t hN)) (ol_nil)))))))))))) (by kernel_rfl) Tryz.func52 (by kernel_rfl) (lo_cons (rP_loop1 true rfl rfl hI ht) lo_nil) ⟨leaf_mk (n := 0) rfl flat_str, trivial⟩).mono ?_
  rintro e w' ⟨v, rfl, h1, h2⟩
  obtain ⟨u, rfl, h3⟩ := outT h1 (fun _ _ _ h => h)
  exact ⟨u, rfl, outZ h3, h2⟩
theorem rP_gT1 (s : ByteArray) (i : Nat) (M N : Nat) (w : World) (hp : 0 < s.size) (hq : by' s 0 = 45) (hI : IdxIs (s.extract 1 s.size) true i) (ht : (s.extract 1 s.size).size ≤ 4294967280) (ha : ParseIs ((s.extract 1 s.size).extract 0 i) M 0) (hb : ParseIs ((s.extract 1 s.size).extract (i + 1) (s.extract 1 s.size).size) N 0) (hN : 1 < N) (hz : ¬ M = 0) (hg : Nat.gcd M N = 1) :
    Calls Tryz.prog 52 #[.string s] w fun e w' => RetQE w ⟨true, M, N⟩ 0 e w' := by
  have hle := hI.le
  have hh := hI.hit rfl
  refine (calls_runFnL (ρ := [.val (.string s), .val (.string (s.extract 1 s.size)), .val (.int .i64 (i : Int)), .val (.int .i64 (s.size : Int)), .val (.int .u8 ((by' s 0 : Nat) : Int)), .val (.string ((s.extract 1 s.size).extract 0 i)), .dig (nl M) M, .dig (nl 1) 1, .val (.int .i64 ((s.extract 1 s.size).size : Int)), .val (.int .i64 ((i : Int) + 1)), .val (.string ((s.extract 1 s.size).extract (i + 1) (s.extract 1 s.size).size)), .dig (nl N) N, .val (.int .i64 (cmpI N 1)), .dig (nl (Nat.gcd M N)) (Nat.gcd M N)]) (w := w) (fuel := 300) (args := [.one (.ref 0)]) (vs := [.string s]) (r := .tup [.agg [.b true, .ref 6, .ref 11], .one (.i .i64 0)]) (lo := [some (rP0 1 true, .ext 0, rP2 1 2 true)]) (obs := [⟨loopAt Tryz.f52 0, rP0 1 true, .ext 0, rP2 1 2 true⟩])
    (il_cons (I_mParse (i := 5) (k := 6) rfl rfl (li rfl) ha) (il_cons (I_mOf (k := 7) rfl (by decide)) (il_cons (I_mParse (i := 10) (k := 11) rfl rfl (li rfl) hb) (il_cons (I_mCmp (i := 11) (j := 7) rfl rfl (lr (n := 12) rfl) (Nat.le_trans (parse_nlU hb) (by decide)) (Nat.le_trans nl_one (by decide))) (il_cons (I_zero (i := 6) rfl (decide_eq_false hz) (Nat.le_trans (parse_nlU ha) (by decide))) (il_cons (I_mGcd (i := 6) (j := 11) (k := 13) rfl rfl rfl (Nat.le_trans (parse_nlU ha) (by decide)) (Nat.le_trans (parse_nlU hb) (by decide))) (il_cons (I_mSame (i := 13) (j := 7) rfl rfl (decide_eq_true hg) (Nat.le_trans (nl_gcdN (parse_nlU ha) (parse_nlU hb)) (by decide)) (Nat.le_trans nl_one (by decide))) il_nil)))))))
    (ol_cons (o_lenS (n := 0) (m := 3) (t := 9) (by kernel_rfl) rfl rfl) (ol_cons (o_gtrK (n := 3) (c := 0) (t := 3) rfl (decide_eq_true (by omega))) (ol_cons (o_idxS (n := 0) (m := 4) (k := 0) (c := 0) (t := 9) (by kernel_rfl) rfl rfl (by omega) rfl) (ol_cons (o_eqlK (n := 4) (c := 45) (t := 5) rfl (beql_t (by omega))) (ol_cons (o_slFrom (n := 0) (m := 1) (c := 1) (t := 9) (by kernel_rfl) rfl rfl (by decide) (by omega) rfl) (ol_cons (o_slToR (n := 1) (k := 2) (m := 5) (u := (i : Int)) (t := 9) (by kernel_rfl) rfl rfl rfl (by omega) (by omega) (congrArg ((s.extract 1 s.size).extract 0) (by omega))) (ol_cons (o_lenS (n := 1) (m := 8) (t := 9) (by kernel_rfl) rfl rfl) (ol_cons (o_lssR (n := 2) (m := 8) (b := true) (t := 3) rfl rfl (decide_eq_true (by omega))) (ol_cons (o_addK (n := 2) (m := 9) (c := 1) (t := 3) rfl rfl rfl (by omega) (by omega)) (ol_cons (o_slFromR (n := 1) (k := 9) (m := 10) (u := (i : Int) + 1) (t := 9) (by kernel_rfl) rfl rfl rfl (by omega) (by omega) (congrArg (fun j => (s.extract 1 s.size).extract j (s.extract 1 s.size).size) (by omega))) (ol_cons (o_leqK (n := 12) (c := 0) (t := 3) rfl (cmp_le_f hN)) (ol_nil)))))))))))) (by kernel_rfl) Tryz.func52 (by kernel_rfl) (lo_cons (rP_loop1 true rfl rfl hI ht) lo_nil) ⟨leaf_mk (n := 0) rfl flat_str, trivial⟩).mono ?_
  rintro e w' ⟨v, rfl, h1, h2⟩
  obtain ⟨u, rfl, h3⟩ := outT h1 (fun _ _ _ h => h)
  exact ⟨u, rfl, outF h3 (bl true) rfl rfl (rfl) (rfl) (rfl), h2⟩
theorem rP_bgT (s : ByteArray) (i : Nat) (M N : Nat) (w : World) (hp : 0 < s.size) (hq : by' s 0 = 45) (hI : IdxIs (s.extract 1 s.size) true i) (ht : (s.extract 1 s.size).size ≤ 4294967280) (ha : ParseIs ((s.extract 1 s.size).extract 0 i) M 0) (hb : ParseIs ((s.extract 1 s.size).extract (i + 1) (s.extract 1 s.size).size) N 0) (hN : 1 < N) (hz : ¬ M = 0) (hg : ¬ Nat.gcd M N = 1) :
    Calls Tryz.prog 52 #[.string s] w fun e w' => RetQE w Fq.zero 2 e w' := by
  have hle := hI.le
  have hh := hI.hit rfl
  refine (calls_runFnL (ρ := [.val (.string s), .val (.string (s.extract 1 s.size)), .val (.int .i64 (i : Int)), .val (.int .i64 (s.size : Int)), .val (.int .u8 ((by' s 0 : Nat) : Int)), .val (.string ((s.extract 1 s.size).extract 0 i)), .dig (nl M) M, .dig (nl 1) 1, .val (.int .i64 ((s.extract 1 s.size).size : Int)), .val (.int .i64 ((i : Int) + 1)), .val (.string ((s.extract 1 s.size).extract (i + 1) (s.extract 1 s.size).size)), .dig (nl N) N, .val (.int .i64 (cmpI N 1)), .dig (nl (Nat.gcd M N)) (Nat.gcd M N)]) (w := w) (fuel := 300) (args := [.one (.ref 0)]) (vs := [.string s]) (r := .tup [.agg [.b false, .sl0, .sl0], .one (.i .i64 2)]) (lo := [some (rP0 1 true, .ext 0, rP2 1 2 true)]) (obs := [⟨loopAt Tryz.f52 0, rP0 1 true, .ext 0, rP2 1 2 true⟩])
    (il_cons (I_mParse (i := 5) (k := 6) rfl rfl (li rfl) ha) (il_cons (I_mOf (k := 7) rfl (by decide)) (il_cons (I_mParse (i := 10) (k := 11) rfl rfl (li rfl) hb) (il_cons (I_mCmp (i := 11) (j := 7) rfl rfl (lr (n := 12) rfl) (Nat.le_trans (parse_nlU hb) (by decide)) (Nat.le_trans nl_one (by decide))) (il_cons (I_zero (i := 6) rfl (decide_eq_false hz) (Nat.le_trans (parse_nlU ha) (by decide))) (il_cons (I_mGcd (i := 6) (j := 11) (k := 13) rfl rfl rfl (Nat.le_trans (parse_nlU ha) (by decide)) (Nat.le_trans (parse_nlU hb) (by decide))) (il_cons (I_mSame (i := 13) (j := 7) rfl rfl (decide_eq_false hg) (Nat.le_trans (nl_gcdN (parse_nlU ha) (parse_nlU hb)) (by decide)) (Nat.le_trans nl_one (by decide))) il_nil)))))))
    (ol_cons (o_lenS (n := 0) (m := 3) (t := 9) (by kernel_rfl) rfl rfl) (ol_cons (o_gtrK (n := 3) (c := 0) (t := 3) rfl (decide_eq_true (by omega))) (ol_cons (o_idxS (n := 0) (m := 4) (k := 0) (c := 0) (t := 9) (by kernel_rfl) rfl rfl (by omega) rfl) (ol_cons (o_eqlK (n := 4) (c := 45) (t := 5) rfl (beql_t (by omega))) (ol_cons (o_slFrom (n := 0) (m := 1) (c := 1) (t := 9) (by kernel_rfl) rfl rfl (by decide) (by omega) rfl) (ol_cons (o_slToR (n := 1) (k := 2) (m := 5) (u := (i : Int)) (t := 9) (by kernel_rfl) rfl rfl rfl (by omega) (by omega) (congrArg ((s.extract 1 s.size).extract 0) (by omega))) (ol_cons (o_lenS (n := 1) (m := 8) (t := 9) (by kernel_rfl) rfl rfl) (ol_cons (o_lssR (n := 2) (m := 8) (b := true) (t := 3) rfl rfl (decide_eq_true (by omega))) (ol_cons (o_addK (n := 2) (m := 9) (c := 1) (t := 3) rfl rfl rfl (by omega) (by omega)) (ol_cons (o_slFromR (n := 1) (k := 9) (m := 10) (u := (i : Int) + 1) (t := 9) (by kernel_rfl) rfl rfl rfl (by omega) (by omega) (congrArg (fun j => (s.extract 1 s.size).extract j (s.extract 1 s.size).size) (by omega))) (ol_cons (o_leqK (n := 12) (c := 0) (t := 3) rfl (cmp_le_f hN)) (ol_nil)))))))))))) (by kernel_rfl) Tryz.func52 (by kernel_rfl) (lo_cons (rP_loop1 true rfl rfl hI ht) lo_nil) ⟨leaf_mk (n := 0) rfl flat_str, trivial⟩).mono ?_
  rintro e w' ⟨v, rfl, h1, h2⟩
  obtain ⟨u, rfl, h3⟩ := outT h1 (fun _ _ _ h => h)
  exact ⟨u, rfl, outZ h3, h2⟩
theorem rP_gT0 (s : ByteArray) (i : Nat) (M : Nat) (w : World) (hp : 0 < s.size) (hq : by' s 0 = 45) (hI : IdxIs (s.extract 1 s.size) false i) (ht : (s.extract 1 s.size).size ≤ 4294967280) (ha : ParseIs ((s.extract 1 s.size).extract 0 i) M 0) (hz : ¬ M = 0) :
    Calls Tryz.prog 52 #[.string s] w fun e w' => RetQE w ⟨true, M, 1⟩ 0 e w' := by
  have hle := hI.le
  have hh := hI.miss rfl
  refine (calls_runFnL (ρ := [.val (.string s), .val (.string (s.extract 1 s.size)), .val (.int .i64 (i : Int)), .val (.int .i64 (s.size : Int)), .val (.int .u8 ((by' s 0 : Nat) : Int)), .val (.string ((s.extract 1 s.size).extract 0 i)), .dig (nl M) M, .dig (nl 1) 1, .val (.int .i64 ((s.extract 1 s.size).size : Int)), .dig (nl (Nat.gcd M 1)) (Nat.gcd M 1)]) (w := w) (fuel := 300) (args := [.one (.ref 0)]) (vs := [.string s]) (r := .tup [.agg [.b true, .ref 6, .ref 7], .one (.i .i64 0)]) (lo := [some (rP0 1 true, .ext 0, rP2 1 2 true)]) (obs := [⟨loopAt Tryz.f52 0, rP0 1 true, .ext 0, rP2 1 2 true⟩])
    (il_cons (I_mParse (i := 5) (k := 6) rfl rfl (li rfl) ha) (il_cons (I_mOf (k := 7) rfl (by decide)) (il_cons (I_zero (i := 6) rfl (decide_eq_false hz) (Nat.le_trans (parse_nlU ha) (by decide))) (il_cons (I_mGcd (i := 6) (j := 7) (k := 9) rfl rfl rfl (Nat.le_trans (parse_nlU ha) (by decide)) (Nat.le_trans nl_one (by decide))) (il_cons (I_mSame (i := 9) (j := 7) rfl rfl (decide_eq_true (Nat.gcd_one_right M)) (Nat.le_trans (nl_gcdN (parse_nlU ha) nl_one) (by decide)) (Nat.le_trans nl_one (by decide))) il_nil)))))
    (ol_cons (o_lenS (n := 0) (m := 3) (t := 9) (by kernel_rfl) rfl rfl) (ol_cons (o_gtrK (n := 3) (c := 0) (t := 3) rfl (decide_eq_true (by omega))) (ol_cons (o_idxS (n := 0) (m := 4) (k := 0) (c := 0) (t := 9) (by kernel_rfl) rfl rfl (by omega) rfl) (ol_cons (o_eqlK (n := 4) (c := 45) (t := 5) rfl (beql_t (by omega))) (ol_cons (o_slFrom (n := 0) (m := 1) (c := 1) (t := 9) (by kernel_rfl) rfl rfl (by decide) (by omega) rfl) (ol_cons (o_slToR (n := 1) (k := 2) (m := 5) (u := (i : Int)) (t := 9) (by kernel_rfl) rfl rfl rfl (by omega) (by omega) (congrArg ((s.extract 1 s.size).extract 0) (by omega))) (ol_cons (o_lenS (n := 1) (m := 8) (t := 9) (by kernel_rfl) rfl rfl) (ol_cons (o_lssR (n := 2) (m := 8) (b := false) (t := 3) rfl rfl (decide_eq_false (by omega))) (ol_nil))))))))) (by kernel_rfl) Tryz.func52 (by kernel_rfl) (lo_cons (rP_loop1 true rfl rfl hI ht) lo_nil) ⟨leaf_mk (n := 0) rfl flat_str, trivial⟩).mono ?_
  rintro e w' ⟨v, rfl, h1, h2⟩
  obtain ⟨u, rfl, h3⟩ := outT h1 (fun _ _ _ h => h)
  exact ⟨u, rfl, outF h3 (bl true) rfl rfl (rfl) (rfl) (rfl), h2⟩
theorem rP_z1 (s : ByteArray) (i : Nat) (M N : Nat) (w : World) (hp : 0 < s.size) (hq : by' s 0 = 45) (hI : IdxIs (s.extract 1 s.size) true i) (ht : (s.extract 1 s.size).size ≤ 4294967280) (ha : ParseIs ((s.extract 1 s.size).extract 0 i) M 0) (hb : ParseIs ((s.extract 1 s.size).extract (i + 1) (s.extract 1 s.size).size) N 0) (hN : 1 < N) (hz : M = 0) :
    Calls Tryz.prog 52 #[.string s] w fun e w' => RetQE w Fq.zero 2 e w' := by
  have hle := hI.le
  have hh := hI.hit rfl
  refine (calls_runFnL (ρ := [.val (.string s), .val (.string (s.extract 1 s.size)), .val (.int .i64 (i : Int)), .val (.int .i64 (s.size : Int)), .val (.int .u8 ((by' s 0 : Nat) : Int)), .val (.string ((s.extract 1 s.size).extract 0 i)), .dig (nl M) M, .dig (nl 1) 1, .val (.int .i64 ((s.extract 1 s.size).size : Int)), .val (.int .i64 ((i : Int) + 1)), .val (.string ((s.extract 1 s.size).extract (i + 1) (s.extract 1 s.size).size)), .dig (nl N) N, .val (.int .i64 (cmpI N 1))]) (w := w) (fuel := 300) (args := [.one (.ref 0)]) (vs := [.string s]) (r := .tup [.agg [.b false, .sl0, .sl0], .one (.i .i64 2)]) (lo := [some (rP0 1 true, .ext 0, rP2 1 2 true)]) (obs := [⟨loopAt Tryz.f52 0, rP0 1 true, .ext 0, rP2 1 2 true⟩])
    (il_cons (I_mParse (i := 5) (k := 6) rfl rfl (li rfl) ha) (il_cons (I_mOf (k := 7) rfl (by decide)) (il_cons (I_mParse (i := 10) (k := 11) rfl rfl (li rfl) hb) (il_cons (I_mCmp (i := 11) (j := 7) rfl rfl (lr (n := 12) rfl) (Nat.le_trans (parse_nlU hb) (by decide)) (Nat.le_trans nl_one (by decide))) (il_cons (I_zero (i := 6) rfl (decide_eq_true hz) (Nat.le_trans (parse_nlU ha) (by decide))) il_nil)))))
    (ol_cons (o_lenS (n := 0) (m := 3) (t := 9) (by kernel_rfl) rfl rfl) (ol_cons (o_gtrK (n := 3) (c := 0) (t := 3) rfl (decide_eq_true (by omega))) (ol_cons (o_idxS (n := 0) (m := 4) (k := 0) (c := 0) (t := 9) (by kernel_rfl) rfl rfl (by omega) rfl) (ol_cons (o_eqlK (n := 4) (c := 45) (t := 5) rfl (beql_t (by omega))) (ol_cons (o_slFrom (n := 0) (m := 1) (c := 1) (t := 9) (by kernel_rfl) rfl rfl (by decide) (by omega) rfl) (ol_cons (o_slToR (n := 1) (k := 2) (m := 5) (u := (i : Int)) (t := 9) (by kernel_rfl) rfl rfl rfl (by omega) (by omega) (congrArg ((s.extract 1 s.size).extract 0) (by omega))) (ol_cons (o_lenS (n := 1) (m := 8) (t := 9) (by kernel_rfl) rfl rfl) (ol_cons (o_lssR (n := 2) (m := 8) (b := true) (t := 3) rfl rfl (decide_eq_true (by omega))) (ol_cons (o_addK (n := 2) (m := 9) (c := 1) (t := 3) rfl rfl rfl (by omega) (by omega)) (ol_cons (o_slFromR (n := 1) (k := 9) (m := 10) (u := (i : Int) + 1) (t := 9) (by kernel_rfl) rfl rfl rfl (by omega) (by omega) (congrArg (fun j => (s.extract 1 s.size).extract j (s.extract 1 s.size).size) (by omega))) (ol_cons (o_leqK (n := 12) (c := 0) (t := 3) rfl (cmp_le_f hN)) (ol_nil)))))))))))) (by kernel_rfl) Tryz.func52 (by kernel_rfl) (lo_cons (rP_loop1 true rfl rfl hI ht) lo_nil) ⟨leaf_mk (n := 0) rfl flat_str, trivial⟩).mono ?_
  rintro e w' ⟨v, rfl, h1, h2⟩
  obtain ⟨u, rfl, h3⟩ := outT h1 (fun _ _ _ h => h)
  exact ⟨u, rfl, outZ h3, h2⟩
theorem rP_z0 (s : ByteArray) (i : Nat) (M : Nat) (w : World) (hp : 0 < s.size) (hq : by' s 0 = 45) (hI : IdxIs (s.extract 1 s.size) false i) (ht : (s.extract 1 s.size).size ≤ 4294967280) (ha : ParseIs ((s.extract 1 s.size).extract 0 i) M 0) (hz : M = 0) :
    Calls Tryz.prog 52 #[.string s] w fun e w' => RetQE w Fq.zero 2 e w' := by
  have hle := hI.le
  have hh := hI.miss rfl
  refine (calls_runFnL (ρ := [.val (.string s), .val (.string (s.extract 1 s.size)), .val (.int .i64 (i : Int)), .val (.int .i64 (s.size : Int)), .val (.int .u8 ((by' s 0 : Nat) : Int)), .val (.string ((s.extract 1 s.size).extract 0 i)), .dig (nl M) M, .dig (nl 1) 1, .val (.int .i64 ((s.extract 1 s.size).size : Int))]) (w := w) (fuel := 300) (args := [.one (.ref 0)]) (vs := [.string s]) (r := .tup [.agg [.b false, .sl0, .sl0], .one (.i .i64 2)]) (lo := [some (rP0 1 true, .ext 0, rP2 1 2 true)]) (obs := [⟨loopAt Tryz.f52 0, rP0 1 true, .ext 0, rP2 1 2 true⟩])
    (il_cons (I_mParse (i := 5) (k := 6) rfl rfl (li rfl) ha) (il_cons (I_mOf (k := 7) rfl (by decide)) (il_cons (I_zero (i := 6) rfl (decide_eq_true hz) (Nat.le_trans (parse_nlU ha) (by decide))) il_nil)))
    (ol_cons (o_lenS (n := 0) (m := 3) (t := 9) (by kernel_rfl) rfl rfl) (ol_cons (o_gtrK (n := 3) (c := 0) (t := 3) rfl (decide_eq_true (by omega))) (ol_cons (o_idxS (n := 0) (m := 4) (k := 0) (c := 0) (t := 9) (by kernel_rfl) rfl rfl (by omega) rfl) (ol_cons (o_eqlK (n := 4) (c := 45) (t := 5) rfl (beql_t (by omega))) (ol_cons (o_slFrom (n := 0) (m := 1) (c := 1) (t := 9) (by kernel_rfl) rfl rfl (by decide) (by omega) rfl) (ol_cons (o_slToR (n := 1) (k := 2) (m := 5) (u := (i : Int)) (t := 9) (by kernel_rfl) rfl rfl rfl (by omega) (by omega) (congrArg ((s.extract 1 s.size).extract 0) (by omega))) (ol_cons (o_lenS (n := 1) (m := 8) (t := 9) (by kernel_rfl) rfl rfl) (ol_cons (o_lssR (n := 2) (m := 8) (b := false) (t := 3) rfl rfl (decide_eq_false (by omega))) (ol_nil))))))))) (by kernel_rfl) Tryz.func52 (by kernel_rfl) (lo_cons (rP_loop1 true rfl rfl hI ht) lo_nil) ⟨leaf_mk (n := 0) rfl flat_str, trivial⟩).mono ?_
  rintro e w' ⟨v, rfl, h1, h2⟩
  obtain ⟨u, rfl, h3⟩ := outT h1 (fun _ _ _ h => h)
  exact ⟨u, rfl, outZ h3, h2⟩
theorem rP_numP1 (s : ByteArray) (i : Nat) (M : Nat) (c : Int) (w : World) (hp : 0 < s.size) (hq : by' s 0 ≠ 45) (hI : IdxIs s true i) (ht : s.size ≤ 4294967280) (ha : ParseIs (s.extract 0 i) M c) (h0 : c ≠ 0) :
    Calls Tryz.prog 52 #[.string s] w fun e w' => RetQE w Fq.zero c e w' := by
  have hle := hI.le
  have hh := hI.hit rfl
  refine (calls_runFnL (ρ := [.val (.string s), .val (.int .i64 (i : Int)), .val (.int .i64 (s.size : Int)), .val (.int .u8 ((by' s 0 : Nat) : Int)), .val (.string (s.extract 0 i)), .dig (nl M) M, .val (.int .i64 c)]) (w := w) (fuel := 300) (args := [.one (.ref 0)]) (vs := [.string s]) (r := .tup [.agg [.b false, .sl0, .sl0], .one (.ref 6)]) (lo := [some (rP0 0 false, .ext 0, rP2 0 1 false)]) (obs := [⟨loopAt Tryz.f52 0, rP0 0 false, .ext 0, rP2 0 1 false⟩])
    (il_cons (I_mParse (i := 4) (k := 5) rfl rfl (lr (n := 6) rfl) ha) il_nil)
    (ol_cons (o_lenS (n := 0) (m := 2) (t := 9) (by kernel_rfl) rfl rfl) (ol_cons (o_gtrK (n := 2) (c := 0) (t := 3) rfl (decide_eq_true (by omega))) (ol_cons (o_idxS (n := 0) (m := 3) (k := 0) (c := 0) (t := 9) (by kernel_rfl) rfl rfl (by omega) rfl) (ol_cons (o_eqlK (n := 3) (c := 45) (t := 5) rfl (beql_f (by omega))) (ol_cons (o_slToR (n := 0) (k := 1) (m := 4) (u := (i : Int)) (t := 9) (by kernel_rfl) rfl rfl rfl (by omega) (by omega) (congrArg (s.extract 0) (by omega))) (ol_cons (o_neqK (n := 6) (c := 0) (t := 39) rfl (bneq_t h0)) (ol_nil))))))) (by kernel_rfl) Tryz.func52 (by kernel_rfl) (lo_cons (rP_loop0 false rfl rfl hI ht) lo_nil) ⟨leaf_mk (n := 0) rfl flat_str, trivial⟩).mono ?_
  rintro e w' ⟨v, rfl, h1, h2⟩
  obtain ⟨u, rfl, h3⟩ := outT h1 (fun _ _ _ h => leaf_val rfl h)
  exact ⟨u, rfl, outZ h3, h2⟩
theorem rP_numP0 (s : ByteArray) (i : Nat) (M : Nat) (c : Int) (w : World) (hp : 0 < s.size) (hq : by' s 0 ≠ 45) (hI : IdxIs s false i) (ht : s.size ≤ 4294967280) (ha : ParseIs (s.extract 0 i) M c) (h0 : c ≠ 0) :
    Calls Tryz.prog 52 #[.string s] w fun e w' => RetQE w Fq.zero c e w' := by
  have hle := hI.le
  have hh := hI.miss rfl
  refine (calls_runFnL (ρ := [.val (.string s), .val (.int .i64 (i : Int)), .val (.int .i64 (s.size : Int)), .val (.int .u8 ((by' s 0 : Nat) : Int)), .val (.string (s.extract 0 i)), .dig (nl M) M, .val (.int .i64 c)]) (w := w) (fuel := 300) (args := [.one (.ref 0)]) (vs := [.string s]) (r := .tup [.agg [.b false, .sl0, .sl0], .one (.ref 6)]) (lo := [some (rP0 0 false, .ext 0, rP2 0 1 false)]) (obs := [⟨loopAt Tryz.f52 0, rP0 0 false, .ext 0, rP2 0 1 false⟩])
    (il_cons (I_mParse (i := 4) (k := 5) rfl rfl (lr (n := 6) rfl) ha) il_nil)
    (ol_cons (o_lenS (n := 0) (m := 2) (t := 9) (by kernel_rfl) rfl rfl) (ol_cons (o_gtrK (n := 2) (c := 0) (t := 3) rfl (decide_eq_true (by omega))) (ol_cons (o_idxS (n := 0) (m := 3) (k := 0) (c := 0) (t := 9) (by kernel_rfl) rfl rfl (by omega) rfl) (ol_cons (o_eqlK (n := 3) (c := 45) (t := 5) rfl (beql_f (by omega))) (ol_cons (o_slToR (n := 0) (k := 1) (m := 4) (u := (i : Int)) (t := 9) (by kernel_rfl) rfl rfl rfl (by omega) (by omega) (congrArg (s.extract 0) (by omega))) (ol_cons (o_neqK (n := 6) (c := 0) (t := 39) rfl (bneq_t h0)) (ol_nil))))))) (by kernel_rfl) Tryz.func52 (by kernel_rfl) (lo_cons (rP_loop0 false rfl rfl hI ht) lo_nil) ⟨leaf_mk (n := 0) rfl flat_str, trivial⟩).mono ?_
  rintro e w' ⟨v, rfl, h1, h2⟩
  obtain ⟨u, rfl, h3⟩ := outT h1 (fun _ _ _ h => leaf_val rfl h)
  exact ⟨u, rfl, outZ h3, h2⟩
theorem rP_denP (s : ByteArray) (i : Nat) (M N : Nat) (c : Int) (w : World) (hp : 0 < s.size) (hq : by' s 0 ≠ 45) (hI : IdxIs s true i) (ht : s.size ≤ 4294967280) (ha : ParseIs (s.extract 0 i) M 0) (hb : ParseIs (s.extract (i + 1) s.size) N c) (h0 : c ≠ 0) :
    Calls Tryz.prog 52 #[.string s] w fun e w' => RetQE w Fq.zero c e w' := by
  have hle := hI.le
  have hh := hI.hit rfl
  refine (calls_runFnL (ρ := [.val (.string s), .val (.int .i64 (i : Int)), .val (.int .i64 (s.size : Int)), .val (.int .u8 ((by' s 0 : Nat) : Int)), .val (.string (s.extract 0 i)), .dig (nl M) M, .dig (nl 1) 1, .val (.int .i64 ((i : Int) + 1)), .val (.string (s.extract (i + 1) s.size)), .dig (nl N) N, .val (.int .i64 c)]) (w := w) (fuel := 300) (args := [.one (.ref 0)]) (vs := [.string s]) (r := .tup [.agg [.b false, .sl0, .sl0], .one (.ref 10)]) (lo := [some (rP0 0 false, .ext 0, rP2 0 1 false)]) (obs := [⟨loopAt Tryz.f52 0, rP0 0 false, .ext 0, rP2 0 1 false⟩])
    (il_cons (I_mParse (i := 4) (k := 5) rfl rfl (li rfl) ha) (il_cons (I_mOf (k := 6) rfl (by decide)) (il_cons (I_mParse (i := 8) (k := 9) rfl rfl (lr (n := 10) rfl) hb) il_nil)))
    (ol_cons (o_lenS (n := 0) (m := 2) (t := 9) (by kernel_rfl) rfl rfl) (ol_cons (o_gtrK (n := 2) (c := 0) (t := 3) rfl (decide_eq_true (by omega))) (ol_cons (o_idxS (n := 0) (m := 3) (k := 0) (c := 0) (t := 9) (by kernel_rfl) rfl rfl (by omega) rfl) (ol_cons (o_eqlK (n := 3) (c := 45) (t := 5) rfl (beql_f (by omega))) (ol_cons (o_slToR (n := 0) (k := 1) (m := 4) (u := (i : Int)) (t := 9) (by kernel_rfl) rfl rfl rfl (by omega) (by omega) (congrArg (s.extract 0) (by omega))) (ol_cons (o_lssR (n := 1) (m := 2) (b := true) (t := 3) rfl rfl (decide_eq_true (by omega))) (ol_cons (o_addK (n := 1) (m := 7) (c := 1) (t := 3) rfl rfl rfl (by omega) (by omega)) (ol_cons (o_slFromR (n := 0) (k := 7) (m := 8) (u := (i : Int) + 1) (t := 9) (by kernel_rfl) rfl rfl rfl (by omega) (by omega) (congrArg (fun j => s.extract j s.size) (by omega))) (ol_cons (o_neqK (n := 10) (c := 0) (t := 39) rfl (bneq_t h0)) (ol_nil)))))))))) (by kernel_rfl) Tryz.func52 (by kernel_rfl) (lo_cons (rP_loop0 false rfl rfl hI ht) lo_nil) ⟨leaf_mk (n := 0) rfl flat_str, trivial⟩).mono ?_
  rintro e w' ⟨v, rfl, h1, h2⟩
  obtain ⟨u, rfl, h3⟩ := outT h1 (fun _ _ _ h => leaf_val rfl h)
  exact ⟨u, rfl, outZ h3, h2⟩
theorem rP_leP (s : ByteArray) (i : Nat) (M N : Nat) (w : World) (hp : 0 < s.size) (hq : by' s 0 ≠ 45) (hI : IdxIs s true i) (ht : s.size ≤ 4294967280) (ha : ParseIs (s.extract 0 i) M 0) (hb : ParseIs (s.extract (i + 1) s.size) N 0) (hN : ¬ 1 < N) :
    Calls Tryz.prog 52 #[.string s] w fun e w' => RetQE w Fq.zero 2 e w' := by
  have hle := hI.le
  have hh := hI.hit rfl
  refine (calls_runFnL (ρ := [.val (.string s), .val (.int .i64 (i : Int)), .val (.int .i64 (s.size : Int)), .val (.int .u8 ((by' s 0 : Nat) : Int)), .val (.string (s.extract 0 i)), .dig (nl M) M, .dig (nl 1) 1, .val (.int .i64 ((i : Int) + 1)), .val (.string (s.extract (i + 1) s.size)), .dig (nl N) N, .val (.int .i64 (cmpI N 1))]) (w := w) (fuel := 300) (args := [.one (.ref 0)]) (vs := [.string s]) (r := .tup [.agg [.b false, .sl0, .sl0], .one (.i .i64 2)]) (lo := [some (rP0 0 false, .ext 0, rP2 0 1 false)]) (obs := [⟨loopAt Tryz.f52 0, rP0 0 false, .ext 0, rP2 0 1 false⟩])
    (il_cons (I_mParse (i := 4) (k := 5) rfl rfl (li rfl) ha) (il_cons (I_mOf (k := 6) rfl (by decide)) (il_cons (I_mParse (i := 8) (k := 9) rfl rfl (li rfl) hb) (il_cons (I_mCmp (i := 9) (j := 6) rfl rfl (lr (n := 10) rfl) (Nat.le_trans (parse_nlU hb) (by decide)) (Nat.le_trans nl_one (by decide))) il_nil))))
    (ol_cons (o_lenS (n := 0) (m := 2) (t := 9) (by kernel_rfl) rfl rfl) (ol_cons (o_gtrK (n := 2) (c := 0) (t := 3) rfl (decide_eq_true (by omega))) (ol_cons (o_idxS (n := 0) (m := 3) (k := 0) (c := 0) (t := 9) (by kernel_rfl) rfl rfl (by omega) rfl) (ol_cons (o_eqlK (n := 3) (c := 45) (t := 5) rfl (beql_f (by omega))) (ol_cons (o_slToR (n := 0) (k := 1) (m := 4) (u := (i : Int)) (t := 9) (by kernel_rfl) rfl rfl rfl (by omega) (by omega) (congrArg (s.extract 0) (by omega))) (ol_cons (o_lssR (n := 1) (m := 2) (b := true) (t := 3) rfl rfl (decide_eq_true (by omega))) (ol_cons (o_addK (n := 1) (m := 7) (c := 1) (t := 3) rfl rfl rfl (by omega) (by omega)) (ol_cons (o_slFromR (n := 0) (k := 7) (m := 8) (u := (i : Int) + 1) (t := 9) (by kernel_rfl) rfl rfl rfl (by omega) (by omega) (congrArg (fun j => s.extract j s.size) (by omega))) (ol_cons (o_leqK (n := 10) (c := 0) (t := 3) rfl (cmp_le_t hN)) (ol_nil)))))))))) (by kernel_rfl) Tryz.func52 (by kernel_rfl) (lo_cons (rP_loop0 false rfl rfl hI ht) lo_nil) ⟨leaf_mk (n := 0) rfl flat_str, trivial⟩).mono ?_
  rintro e w' ⟨v, rfl, h1, h2⟩
  obtain ⟨u, rfl, h3⟩ := outT h1 (fun _ _ _ h => h)
  exact ⟨u, rfl, outZ h3, h2⟩
theorem rP_gP1 (s : ByteArray) (i : Nat) (M N : Nat) (w : World) (hp : 0 < s.size) (hq : by' s 0 ≠ 45) (hI : IdxIs s true i) (ht : s.size ≤ 4294967280) (ha : ParseIs (s.extract 0 i) M 0) (hb : ParseIs (s.extract (i + 1) s.size) N 0) (hN : 1 < N) (hg : Nat.gcd M N = 1) :
    Calls Tryz.prog 52 #[.string s] w fun e w' => RetQE w ⟨false, M, N⟩ 0 e w' := by
  have hle := hI.le
  have hh := hI.hit rfl
  refine (calls_runFnL (ρ := [.val (.string s), .val (.int .i64 (i : Int)), .val (.int .i64 (s.size : Int)), .val (.int .u8 ((by' s 0 : Nat) : Int)), .val (.string (s.extract 0 i)), .dig (nl M) M, .dig (nl 1) 1, .val (.int .i64 ((i : Int) + 1)), .val (.string (s.extract (i + 1) s.size)), .dig (nl N) N, .val (.int .i64 (cmpI N 1)), .dig (nl (Nat.gcd M N)) (Nat.gcd M N)]) (w := w) (fuel := 300) (args := [.one (.ref 0)]) (vs := [.string s]) (r := .tup [.agg [.b false, .ref 5, .ref 9], .one (.i .i64 0)]) (lo := [some (rP0 0 false, .ext 0, rP2 0 1 false)]) (obs := [⟨loopAt Tryz.f52 0, rP0 0 false, .ext 0, rP2 0 1 false⟩])
    (il_cons (I_mParse (i := 4) (k := 5) rfl rfl (li rfl) ha) (il_cons (I_mOf (k := 6) rfl (by decide)) (il_cons (I_mParse (i := 8) (k := 9) rfl rfl (li rfl) hb) (il_cons (I_mCmp (i := 9) (j := 6) rfl rfl (lr (n := 10) rfl) (Nat.le_trans (parse_nlU hb) (by decide)) (Nat.le_trans nl_one (by decide))) (il_cons (I_mGcd (i := 5) (j := 9) (k := 11) rfl rfl rfl (Nat.le_trans (parse_nlU ha) (by decide)) (Nat.le_trans (parse_nlU hb) (by decide))) (il_cons (I_mSame (i := 11) (j := 6) rfl rfl (decide_eq_true hg) (Nat.le_trans (nl_gcdN (parse_nlU ha) (parse_nlU hb)) (by decide)) (Nat.le_trans nl_one (by decide))) il_nil))))))
    (ol_cons (o_lenS (n := 0) (m := 2) (t := 9) (by kernel_rfl) rfl rfl) (ol_cons (o_gtrK (n := 2) (c := 0) (t := 3) rfl (decide_eq_true (by omega))) (ol_cons (o_idxS (n := 0) (m := 3) (k := 0) (c := 0) (t := 9) (by kernel_rfl) rfl rfl (by omega) rfl) (ol_cons (o_eqlK (n := 3) (c := 45) (t := 5) rfl (beql_f (by omega))) (ol_cons (o_slToR (n := 0) (k := 1) (m := 4) (u := (i : Int)) (t := 9) (by kernel_rfl) rfl rfl rfl (by omega) (by omega) (congrArg (s.extract 0) (by omega))) (ol_cons (o_lssR (n := 1) (m := 2) (b := true) (t := 3) rfl rfl (decide_eq_true (by omega))) (ol_cons (o_addK (n := 1) (m := 7) (c := 1) (t := 3) rfl rfl rfl (by omega) (by omega)) (ol_cons (o_slFromR (n := 0) (k := 7) (m := 8) (u := (i : Int) + 1) (t := 9) (by kernel_rfl) rfl rfl rfl (by omega) (by omega) (congrArg (fun j => s.extract j s.size) (by omega))) (ol_cons (o_leqK (n := 10) (c := 0) (t := 3) rfl (cmp_le_f hN)) (ol_nil)))))))))) (by kernel_rfl) Tryz.func52 (by kernel_rfl) (lo_cons (rP_loop0 false rfl rfl hI ht) lo_nil) ⟨leaf_mk (n := 0) rfl flat_str, trivial⟩).mono ?_
  rintro e w' ⟨v, rfl, h1, h2⟩
  obtain ⟨u, rfl, h3⟩ := outT h1 (fun _ _ _ h => h)
  exact ⟨u, rfl, outF h3 (bl false) rfl rfl (rfl) (rfl) (rfl), h2⟩
theorem rP_bgP (s : ByteArray) (i : Nat) (M N : Nat) (w : World) (hp : 0 < s.size) (hq : by' s 0 ≠ 45) (hI : IdxIs s true i) (ht : s.size ≤ 4294967280) (ha : ParseIs (s.extract 0 i) M 0) (hb : ParseIs (s.extract (i + 1) s.size) N 0) (hN : 1 < N) (hg : ¬ Nat.gcd M N = 1) :
    Calls Tryz.prog 52 #[.string s] w fun e w' => RetQE w Fq.zero 2 e w' := by
  have hle := hI.le
  have hh := hI.hit rfl
  refine (calls_runFnL (ρ := [.val (.string s), .val (.int .i64 (i : Int)), .val (.int .i64 (s.size : Int)), .val (.int .u8 ((by' s 0 : Nat) : Int)), .val (.string (s.extract 0 i)), .dig (nl M) M, .dig (nl 1) 1, .val (.int .i64 ((i : Int) + 1)), .val (.string (s.extract (i + 1) s.size)), .dig (nl N) N, .val (.int .i64 (cmpI N 1)), .dig (nl (Nat.gcd M N)) (Nat.gcd M N)]) (w := w) (fuel := 300) (args := [.one (.ref 0)]) (vs := [.string s]) (r := .tup [.agg [.b false, .sl0, .sl0], .one (.i .i64 2)]) (lo := [some (rP0 0 false, .ext 0, rP2 0 1 false)]) (obs := [⟨loopAt Tryz.f52 0, rP0 0 false, .ext 0, rP2 0 1 false⟩])
    (il_cons (I_mParse (i := 4) (k := 5) rfl rfl (li rfl) ha) (il_cons (I_mOf (k := 6) rfl (by decide)) (il_cons (I_mParse (i := 8) (k := 9) rfl rfl (li rfl) hb) (il_cons (I_mCmp (i := 9) (j := 6) rfl rfl (lr (n := 10) rfl) (Nat.le_trans (parse_nlU hb) (by decide)) (Nat.le_trans nl_one (by decide))) (il_cons (I_mGcd (i := 5) (j := 9) (k := 11) rfl rfl rfl (Nat.le_trans (parse_nlU ha) (by decide)) (Nat.le_trans (parse_nlU hb) (by decide))) (il_cons (I_mSame (i := 11) (j := 6) rfl rfl (decide_eq_false hg) (Nat.le_trans (nl_gcdN (parse_nlU ha) (parse_nlU hb)) (by decide)) (Nat.le_trans nl_one (by decide))) il_nil))))))
    (ol_cons (o_lenS (n := 0) (m := 2) (t := 9) (by kernel_rfl) rfl rfl) (ol_cons (o_gtrK (n := 2) (c := 0) (t := 3) rfl (decide_eq_true (by omega))) (ol_cons (o_idxS (n := 0) (m := 3) (k := 0) (c := 0) (t := 9) (by kernel_rfl) rfl rfl (by omega) rfl) (ol_cons (o_eqlK (n := 3) (c := 45) (t := 5) rfl (beql_f (by omega))) (ol_cons (o_slToR (n := 0) (k := 1) (m := 4) (u := (i : Int)) (t := 9) (by kernel_rfl) rfl rfl rfl (by omega) (by omega) (congrArg (s.extract 0) (by omega))) (ol_cons (o_lssR (n := 1) (m := 2) (b := true) (t := 3) rfl rfl (decide_eq_true (by omega))) (ol_cons (o_addK (n := 1) (m := 7) (c := 1) (t := 3) rfl rfl rfl (by omega) (by omega)) (ol_cons (o_slFromR (n := 0) (k := 7) (m := 8) (u := (i : Int) + 1) (t := 9) (by kernel_rfl) rfl rfl rfl (by omega) (by omega) (congrArg (fun j => s.extract j s.size) (by omega))) (ol_cons (o_leqK (n := 10) (c := 0) (t := 3) rfl (cmp_le_f hN)) (ol_nil)))))))))) (by kernel_rfl) Tryz.func52 (by kernel_rfl) (lo_cons (rP_loop0 false rfl rfl hI ht) lo_nil) ⟨leaf_mk (n := 0) rfl flat_str, trivial⟩).mono ?_
  rintro e w' ⟨v, rfl, h1, h2⟩
  obtain ⟨u, rfl, h3⟩ := outT h1 (fun _ _ _ h => h)
  exact ⟨u, rfl, outZ h3, h2⟩
theorem rP_gP0 (s : ByteArray) (i : Nat) (M : Nat) (w : World) (hp : 0 < s.size) (hq : by' s 0 ≠ 45) (hI : IdxIs s false i) (ht : s.size ≤ 4294967280) (ha : ParseIs (s.extract 0 i) M 0) :
    Calls Tryz.prog 52 #[.string s] w fun e w' => RetQE w ⟨false, M, 1⟩ 0 e w' := by
  have hle := hI.le
  have hh := hI.miss rfl
  refine (calls_runFnL (ρ := [.val (.string s), .val (.int .i64 (i : Int)), .val (.int .i64 (s.size : Int)), .val (.int .u8 ((by' s 0 : Nat) : Int)), .val (.string (s.extract 0 i)), .dig (nl M) M, .dig (nl 1) 1, .dig (nl (Nat.gcd M 1)) (Nat.gcd M 1)]) (w := w) (fuel := 300) (args := [.one (.ref 0)]) (vs := [.string s]) (r := .tup [.agg [.b false, .ref 5, .ref 6], .one (.i .i64 0)]) (lo := [some (rP0 0 false, .ext 0, rP2 0 1 false)]) (obs := [⟨loopAt Tryz.f52 0, rP0 0 false, .ext 0, rP2 0 1 false⟩])
    (il_cons (I_mParse (i := 4) (k := 5) rfl rfl (li rfl) ha) (il_cons (I_mOf (k := 6) rfl (by decide)) (il_cons (I_mGcd (i := 5) (j := 6) (k := 7) rfl rfl rfl (Nat.le_trans (parse_nlU ha) (by decide)) (Nat.le_trans nl_one (by decide))) (il_cons (I_mSame (i := 7) (j := 6) rfl rfl (decide_eq_true (Nat.gcd_one_right M)) (Nat.le_trans (nl_gcdN (parse_nlU ha) nl_one) (by decide)) (Nat.le_trans nl_one (by decide))) il_nil))))
    (ol_cons (o_lenS (n := 0) (m := 2) (t := 9) (by kernel_rfl) rfl rfl) (ol_cons (o_gtrK (n := 2) (c := 0) (t := 3) rfl (decide_eq_true (by omega))) (ol_cons (o_idxS (n := 0) (m := 3) (k := 0) (c := 0) (t := 9) (by kernel_rfl) rfl rfl (by omega) rfl) (ol_cons (o_eqlK (n := 3) (c := 45) (t := 5) rfl (beql_f (by omega))) (ol_cons (o_slToR (n := 0) (k := 1) (m := 4) (u := (i : Int)) (t := 9) (by kernel_rfl) rfl rfl rfl (by omega) (by omega) (congrArg (s.extract 0) (by omega))) (ol_cons (o_lssR (n := 1) (m := 2) (b := false) (t := 3) rfl rfl (decide_eq_false (by omega))) (ol_nil))))))) (by kernel_rfl) Tryz.func52 (by kernel_rfl) (lo_cons (rP_loop0 false rfl rfl hI ht) lo_nil) ⟨leaf_mk (n := 0) rfl flat_str, trivial⟩).mono ?_
  rintro e w' ⟨v, rfl, h1, h2⟩
  obtain ⟨u, rfl, h3⟩ := outT h1 (fun _ _ _ h => h)
  exact ⟨u, rfl, outF h3 (bl false) rfl rfl (rfl) (rfl) (rfl), h2⟩
theorem rP_numE0 (s : ByteArray) (i : Nat) (M : Nat) (c : Int) (w : World) (hp : s.size = 0) (hI : IdxIs s false i) (ht : s.size ≤ 4294967280) (ha : ParseIs (s.extract 0 i) M c) (h0 : c ≠ 0) :
    Calls Tryz.prog 52 #[.string s] w fun e w' => RetQE w Fq.zero c e w' := by
  have hle := hI.le
  have hh := hI.miss rfl
  refine (calls_runFnL (ρ := [.val (.string s), .val (.int .i64 (i : Int)), .val (.int .i64 (s.size : Int)), .val (.string (s.extract 0 i)), .dig (nl M) M, .val (.int .i64 c)]) (w := w) (fuel := 300) (args := [.one (.ref 0)]) (vs := [.string s]) (r := .tup [.agg [.b false, .sl0, .sl0], .one (.ref 5)]) (lo := [some (rP0 0 false, .ext 0, rP2 0 1 false)]) (obs := [⟨loopAt Tryz.f52 0, rP0 0 false, .ext 0, rP2 0 1 false⟩])
    (il_cons (I_mParse (i := 3) (k := 4) rfl rfl (lr (n := 5) rfl) ha) il_nil)
    (ol_cons (o_lenS (n := 0) (m := 2) (t := 9) (by kernel_rfl) rfl rfl) (ol_cons (o_gtrK (n := 2) (c := 0) (t := 3) rfl (decide_eq_false (by omega))) (ol_cons (o_slToR (n := 0) (k := 1) (m := 3) (u := (i : Int)) (t := 9) (by kernel_rfl) rfl rfl rfl (by omega) (by omega) (congrArg (s.extract 0) (by omega))) (ol_cons (o_neqK (n := 5) (c := 0) (t := 39) rfl (bneq_t h0)) (ol_nil))))) (by kernel_rfl) Tryz.func52 (by kernel_rfl) (lo_cons (rP_loop0 false rfl rfl hI ht) lo_nil) ⟨leaf_mk (n := 0) rfl flat_str, trivial⟩).mono ?_
  rintro e w' ⟨v, rfl, h1, h2⟩
  obtain ⟨u, rfl, h3⟩ := outT h1 (fun _ _ _ h => leaf_val rfl h)
  exact ⟨u, rfl, outZ h3, h2⟩
theorem q_rParse (s : ByteArray) (x : Fq) (c : Int) (w : World) (h : FP s x c) (hs : s.size ≤ 4294967280) : Calls Tryz.prog 52 #[.string s] w fun e w' => RetQE w x c e w' := by
  have start : ∀ {t a b : ByteArray} {B F : Bool}, Pieces s t B F a b → (B = true ∧ 0 < s.size ∧ by' s 0 = 45 ∧ t = s.extract 1 s.size) ∨ (B = false ∧ t = s ∧ ((0 < s.size ∧ by' s 0 ≠ 45) ∨ s.size = 0)) := fun {t a b B F} HP => by
    have h1 := HP.sign
    have h2 := HP.rest
    cases B
    · refine .inr ⟨rfl, by simpa using h2, ?_⟩
      have h1 := of_decide_eq_false h1
      by_cases h0 : s.size = 0
      · exact .inr h0
      · exact .inl ⟨by omega, fun e => h1 ⟨by omega, e⟩⟩
    · have h1 := of_decide_eq_true h1
      exact .inl ⟨rfl, h1.1, h1.2, by simpa using h2⟩
  cases h with
  | @num t B F a b M c HP ha h0 =>
    have ht := Nat.le_trans (pieces_size HP) hs
    obtain ⟨i, hI, rfl, _⟩ := pieces_idx HP
    rcases start HP with ⟨rfl, hp, hq, rfl⟩ | ⟨rfl, rfl, ⟨hp, hq⟩ | hp⟩
    · cases F
      · exact rP_numT0 s i M c w hp hq hI ht ha h0
      · exact rP_numT1 s i M c w hp hq hI ht ha h0
    · cases F
      · exact rP_numP0 _ i M c w hp hq hI ht ha h0
      · exact rP_numP1 _ i M c w hp hq hI ht ha h0
    · cases F
      · exact rP_numE0 _ i M c w hp hI ht ha h0
      · have := (hI.hit rfl).1; omega
  | @den t B a b M N c HP ha hb h0 =>
    have ht := Nat.le_trans (pieces_size HP) hs
    obtain ⟨i, hI, rfl, hbe⟩ := pieces_idx HP
    obtain rfl := hbe rfl
    rcases start HP with ⟨rfl, hp, hq, rfl⟩ | ⟨rfl, rfl, ⟨hp, hq⟩ | hp⟩
    · exact rP_denT s i M N c w hp hq hI ht ha hb h0
    · exact rP_denP _ i M N c w hp hq hI ht ha hb h0
    · have := (hI.hit rfl).1; omega
  | @bad t B F a b M N HP ha hb hv =>
    have ht := Nat.le_trans (pieces_size HP) hs
    obtain ⟨i, hI, rfl, hbe⟩ := pieces_idx HP
    cases F with
    | false =>
      have hv : (Fq.mk B M 1).valid = false := by simpa [parseV] using hv
      rcases start HP with ⟨rfl, hp, hq, rfl⟩ | ⟨rfl, rfl, _⟩
      · by_cases hz : M = 0
        · exact rP_z0 s i M w hp hq hI ht ha hz
        · simp [Fq.valid, hz] at hv
      · simp [Fq.valid] at hv
    | true =>
      obtain rfl := hbe rfl
      have hb := hb rfl
      have hpos : 0 < t.size := by have := (hI.hit rfl).1; omega
      have key : 1 < N → ¬ (Nat.gcd M N = 1 ∧ ¬ (B = true ∧ M = 0)) := fun hN ⟨h1, h2⟩ => by
        have hv : (Fq.mk B M N).valid = false := by
          have : ¬ N = 1 := by omega
          simpa [parseV, this] using hv
        have h3 : (Fq.mk B M N).valid = true := decide_eq_true ⟨by show N ≠ 0; omega, h2, h1⟩
        rw [h3] at hv; cases hv
      rcases start HP with ⟨rfl, hp, hq, rfl⟩ | ⟨rfl, rfl, ⟨hp, hq⟩ | hp⟩
      · by_cases hN : 1 < N
        · by_cases hz : M = 0
          · exact rP_z1 s i M N w hp hq hI ht ha hb hN hz
          · exact rP_bgT s i M N w hp hq hI ht ha hb hN hz (fun hg => key hN ⟨hg, fun h => hz h.2⟩)
        · exact rP_leT s i M N w hp hq hI ht ha hb hN
      · by_cases hN : 1 < N
        · exact rP_bgP _ i M N w hp hq hI ht ha hb hN (fun hg => key hN ⟨hg, fun h => by cases h.1⟩)
        · exact rP_leP _ i M N w hp hq hI ht ha hb hN
      · omega
  | @good t B F a b M N HP ha hb hv =>
    have ht := Nat.le_trans (pieces_size HP) hs
    obtain ⟨i, hI, rfl, hbe⟩ := pieces_idx HP
    cases F with
    | false =>
      have hv : (Fq.mk B M 1).valid = true := by simpa [parseV] using hv
      have hv := of_decide_eq_true hv
      rcases start HP with ⟨rfl, hp, hq, rfl⟩ | ⟨rfl, rfl, ⟨hp, hq⟩ | hp⟩
      · exact rP_gT0 s i M w hp hq hI ht ha (fun hz => hv.2.1 ⟨rfl, hz⟩)
      · exact rP_gP0 _ i M w hp hq hI ht ha
      · have h1 := hI.miss rfl
        have h2 : (t.extract 0 i).size = 0 := by rw [ByteArray.size_extract]; omega
        have := (ha.short h2).2
        omega
    | true =>
      obtain rfl := hbe rfl
      have hb := hb rfl
      have hpos : 0 < t.size := by have := (hI.hit rfl).1; omega
      have hv' : ¬ N = 1 ∧ (Fq.mk B M N).valid = true := by simpa [parseV] using hv
      have hv := of_decide_eq_true hv'.2
      have hN : 1 < N := by have h0 : N ≠ 0 := hv.1; have := hv'.1; omega
      rcases start HP with ⟨rfl, hp, hq, rfl⟩ | ⟨rfl, rfl, ⟨hp, hq⟩ | hp⟩
      · exact rP_gT1 s i M N w hp hq hI ht ha hb hN (fun hz => hv.2.1 ⟨rfl, hz⟩) hv.2.2
      · exact rP_gP1 _ i M N w hp hq hI ht ha hb hN hv.2.2
      · omega
end Go.Proofs.YthebfmlfgfmlnaaGreatDoor
namespace Go.Proofs.YthebfmlfgfmlnaaGreatDoor
set_option linter.unusedSimpArgs false
set_option linter.unusedVariables false
set_option maxRecDepth 100000
open Go.RowKit
theorem by_data (s : ByteArray) (i : Nat) : by' s i = (s.data[i]?.map UInt8.toNat).getD 0 := by
  unfold by'
  by_cases h : i < s.size
  · rw [dif_pos h, Array.getElem?_eq_getElem (show i < s.data.size from h)]; rfl
  · rw [dif_neg h, Array.getElem?_eq_none (by have : s.data.size = s.size := rfl; omega)]; rfl
theorem by_ext {s t : ByteArray} (h : s.size = t.size) (hb : ∀ i, i < s.size → by' s i = by' t i) : s = t := by
  have e : s.data = t.data := by
    apply Array.ext h
    intro i h1 h2
    have := hb i h1
    unfold by' at this
    rw [dif_pos (show i < s.size from h1), dif_pos (show i < t.size from h2)] at this
    exact UInt8.toNat_inj.1 this
  cases s; cases t; simp only at e; subst e; rfl
theorem by_app (a b : ByteArray) (i : Nat) : by' (a ++ b) i = if i < a.size then by' a i else by' b (i - a.size) := by
  rw [by_data, by_data, by_data, ByteArray.data_append, Array.getElem?_append]
  have e : a.data.size = a.size := rfl
  rw [e]
  split <;> rfl
theorem by_ex (s : ByteArray) (i j k : Nat) (hj : j ≤ s.size) (hk : k < j - i) : by' (s.extract i j) k = by' s (i + k) := by
  rw [by_data, by_data, ByteArray.data_extract, Array.getElem?_extract]
  have e : s.data.size = s.size := rfl
  rw [e, if_pos (by omega)]
theorem by1 (c : UInt8) : by' { data := #[c] } 0 = c.toNat := rfl
theorem glue {t : ByteArray} {i : Nat} (h1 : i < t.size) (h2 : by' t i = 47) : t.extract 0 i ++ ({ data := #[47] } ++ t.extract (i + 1) t.size) = t := by
  have hs : ({ data := #[47] } : ByteArray).size = 1 := rfl
  have z1 : (t.extract 0 i).size = i := by rw [ByteArray.size_extract]; omega
  have z2 : (t.extract (i + 1) t.size).size = t.size - (i + 1) := by rw [ByteArray.size_extract]; omega
  apply by_ext
  · rw [ByteArray.size_append, ByteArray.size_append, z1, z2, hs]; omega
  · intro k hk
    rw [ByteArray.size_append, ByteArray.size_append, z1, z2, hs] at hk
    rw [by_app, z1]
    by_cases hki : k < i
    · rw [if_pos hki, by_ex _ _ _ _ (by omega) (by omega), Nat.zero_add]
    · rw [if_neg hki, by_app, hs]
      by_cases hk0 : k - i < 1
      · obtain rfl : k = i := by omega
        rw [if_pos hk0, Nat.sub_self, by1, h2]; rfl
      · rw [if_neg hk0, by_ex _ _ _ _ (by omega) (by omega)]
        congr 1; omega
theorem glue0 {s : ByteArray} (h1 : 0 < s.size) (h2 : by' s 0 = 45) : { data := #[45] } ++ s.extract 1 s.size = s := by
  have hs : ({ data := #[45] } : ByteArray).size = 1 := rfl
  have z2 : (s.extract 1 s.size).size = s.size - 1 := by rw [ByteArray.size_extract]; omega
  apply by_ext
  · rw [ByteArray.size_append, z2, hs]; omega
  · intro k hk
    rw [ByteArray.size_append, z2, hs] at hk
    rw [by_app, hs]
    by_cases hk0 : k < 1
    · obtain rfl : k = 0 := by omega
      rw [if_pos hk0, by1, h2]; rfl
    · rw [if_neg hk0, by_ex _ _ _ _ (by omega) (by omega)]
      congr 1; omega
theorem cut_app (a b : ByteArray) (i : Nat) (h : a.size = i) : (a ++ b).extract 0 i = a := by
  subst h
  apply by_ext
  · rw [ByteArray.size_extract, ByteArray.size_append]; omega
  · intro k hk
    rw [ByteArray.size_extract, ByteArray.size_append] at hk
    rw [by_ex _ _ _ _ (by rw [ByteArray.size_append]; omega) (by omega), Nat.zero_add, by_app, if_pos (by omega)]
theorem tail_app (a b : ByteArray) (i : Nat) (h : a.size = i) : (a ++ b).extract i (a ++ b).size = b := by
  subst h
  apply by_ext
  · rw [ByteArray.size_extract, ByteArray.size_append]; omega
  · intro k hk
    rw [ByteArray.size_extract, ByteArray.size_append] at hk
    rw [by_ex _ _ _ _ (Nat.le_refl _) (by rw [ByteArray.size_append]; omega), by_app, if_neg (by omega)]
    congr 1; omega
theorem parse_good {s : ByteArray} {N : Nat} (h : ParseIs s N 0) : 0 < s.size ∧ goodTo s s.size := by
  have h1 : 0 < s.size := by
    rcases Nat.eq_zero_or_pos s.size with h' | h'
    · have := (h.short h').2; omega
    · exact h'
  have h2 : s.size ≤ 400 := by
    rcases Nat.lt_or_ge 400 s.size with h' | h'
    · have := (h.long h').2; omega
    · exact h'
  exact ⟨h1, Classical.byContradiction fun h' => by have := (h.bad h1 h2 h').2; omega⟩
/-- What is read was written. -/
theorem fp_fmt {s : ByteArray} {x : Fq} {c : Int} (h : FP s x c) (hc : c = 0) : x.fmt = s := by
  cases h with
  | num h ha h0 => exact absurd hc h0
  | den h ha hb h0 => exact absurd hc h0
  | bad h ha hb hv => cases hc
  | good h ha hb hv =>
    rename_i t B F a b M N
    have ht : (if parseQ F N = 1 then fmtB M else fmtB M ++ (({ data := #[47] } : ByteArray) ++ fmtB (parseQ F N))) = t := by
      cases F with
      | true =>
        have hn : N ≠ 1 := by
          have h2 : (!decide (N = 1) && (Fq.mk B M N).valid) = true := hv
          rw [Bool.and_eq_true] at h2
          simpa using h2.1
        show (if N = 1 then _ else _ ++ (_ ++ fmtB N)) = t
        rw [if_neg hn, parse_fmt ha, parse_fmt (hb rfl)]
        obtain ⟨i, h1, rfl, rfl⟩ := h.hit rfl
        exact glue h1.1 h1.2.1
      | false =>
        show (if (1 : Nat) = 1 then _ else _) = t
        rw [if_pos rfl, parse_fmt ha]
        exact (h.miss rfl).2.1
    unfold Fq.fmt
    simp only
    rw [ht]
    have h1 := h.sign
    have h2 := h.rest
    cases B with
    | true =>
      rw [if_pos rfl] at h2 ⊢
      rw [h2]
      have := of_decide_eq_true h1
      exact glue0 this.1 this.2
    | false => rw [if_neg Bool.false_ne_true] at h2 ⊢; exact h2
/-- What is written is read. -/
theorem fmt_fp {x : Fq} (hv : x.valid = true) (hp : nl x.p ≤ 12) (hq : nl x.q ≤ 12) : FP x.fmt x 0 := by
  obtain ⟨S, p, q⟩ := x
  have ha := fmt_parses p hp
  have hb := fmt_parses q hq
  obtain ⟨a1, a2⟩ := parse_good ha
  obtain ⟨b1, b2⟩ := parse_good hb
  obtain ⟨t, ht⟩ : ∃ t, t = if q = 1 then fmtB p else fmtB p ++ (({ data := #[47] } : ByteArray) ++ fmtB q) := ⟨_, rfl⟩
  have t0 : 0 < t.size ∧ by' t 0 ≠ 45 := by
    have h0 := a2 0 a1
    rw [ht]
    split
    · exact ⟨a1, by omega⟩
    · rw [ByteArray.size_append, by_app, if_pos a1]; exact ⟨by omega, by omega⟩
  have hs47 : ({ data := #[47] } : ByteArray).size = 1 := rfl
  have hs45 : ({ data := #[45] } : ByteArray).size = 1 := rfl
  obtain ⟨s, hs⟩ : ∃ s, s = if S then ({ data := #[45] } : ByteArray) ++ t else t := ⟨_, rfl⟩
  have hfmt : (Fq.mk S p q).fmt = s := by unfold Fq.fmt; rw [hs, ht]
  rw [hfmt]
  have hP : Pieces s t S (decide (q ≠ 1)) (fmtB p) (if q = 1 then { data := #[] } else fmtB q) := by
    refine ⟨?_, ?_, fun hF => ?_, fun hF => ?_⟩
    · rw [hs]
      cases S with
      | true => rw [if_pos rfl]; apply decide_eq_true; refine ⟨by rw [ByteArray.size_append, hs45]; omega, ?_⟩; rw [by_app, hs45, if_pos (by omega)]; rfl
      | false => rw [if_neg Bool.false_ne_true]; exact decide_eq_false (fun h => t0.2 h.2)
    · rw [hs]
      cases S with
      | true => rw [if_pos rfl, if_pos rfl]; exact (tail_app _ _ 1 hs45).symm
      | false => rw [if_neg Bool.false_ne_true, if_neg Bool.false_ne_true]
    · have hq1 : q ≠ 1 := of_decide_eq_true hF
      rw [if_neg hq1] at ht ⊢
      refine ⟨(fmtB p).size, ⟨?_, ?_, fun j hj => ?_⟩, ?_, ?_⟩
      · rw [ht, ByteArray.size_append, ByteArray.size_append, hs47]; omega
      · rw [ht, by_app, if_neg (by omega), Nat.sub_self, by_app, hs47, if_pos (by omega)]; rfl
      · rw [ht, by_app, if_pos hj]; have := a2 j hj; omega
      · rw [ht]; exact (cut_app _ _ _ rfl).symm
      · rw [ht, ← ByteArray.append_assoc]
        refine (tail_app _ _ _ ?_).symm
        rw [ByteArray.size_append, hs47]
    · have hq1 : q = 1 := Classical.byContradiction fun h => by rw [decide_eq_true h] at hF; cases hF
      rw [if_pos hq1] at ht ⊢
      refine ⟨fun j hj => ?_, ht.symm, rfl⟩
      rw [ht] at hj ⊢
      have := a2 j hj; omega
  by_cases hq1 : q = 1
  · have hF : decide (q ≠ 1) = false := decide_eq_false (fun h => h hq1)
    rw [hF, if_pos hq1] at hP
    subst hq1
    exact FP.good (N := 1) hP ha (fun h => by cases h) hv
  · have hF : decide (q ≠ 1) = true := decide_eq_true hq1
    rw [hF, if_neg hq1] at hP
    exact FP.good hP ha (fun _ => hb) (by show (!decide (q = 1) && (Fq.mk S p q).valid) = true; rw [decide_eq_false hq1, hv]; rfl)
/-- What is read is small. -/
theorem fp_ok {s : ByteArray} {x : Fq} {c : Int} (h : FP s x c) : nl x.p ≤ 400 ∧ nl x.q ≤ 400 ∧ (c = 0 → x.q ≠ 0) := by
  cases h with
  | num h ha h0 => exact ⟨by decide, by decide, fun h => absurd h h0⟩
  | den h ha hb h0 => exact ⟨by decide, by decide, fun h => absurd h h0⟩
  | bad h ha hb hv => exact ⟨by decide, by decide, fun h => (by cases h)⟩
  | good h ha hb hv =>
    rename_i t B F a b M N
    refine ⟨parse_nlU ha, ?_, fun _ => ?_⟩
    · cases F with
      | true => exact parse_nlU (hb rfl)
      | false => exact show nl 1 ≤ 400 by decide
    · cases F with
      | true =>
        have h2 : (!decide (N = 1) && (Fq.mk B M N).valid) = true := hv
        rw [Bool.and_eq_true] at h2
        exact (of_decide_eq_true h2.2).1
      | false => exact Nat.one_ne_zero
end Go.Proofs.YthebfmlfgfmlnaaGreatDoor
namespace Go.Proofs.YthebfmlfgfmlnaaGreatDoor
set_option linter.unusedSimpArgs false
set_option linter.unusedVariables false
set_option maxRecDepth 100000
open Go.RowKit
abbrev b1 (c : UInt8) : ByteArray := { data := #[c] }
/-- The first c stands at i; there is none. -/
def ChAt (c : UInt8) (u : ByteArray) (i : Nat) : Prop := i < u.size ∧ by' u i = c.toNat ∧ ∀ k, k < i → by' u k ≠ c.toNat
def ChNo (c : UInt8) (u : ByteArray) : Prop := ∀ k, k < u.size → by' u k ≠ c.toNat
section
variable {c : UInt8} {u s : ByteArray} {i j a b : Nat}
theorem ch_cases (c : UInt8) (u : ByteArray) : (∃ i, ChAt c u i) ∨ ChNo c u := by
  by_cases h : ∃ i, i < u.size ∧ by' u i = c.toNat
  · refine .inl ?_
    obtain ⟨i, hi⟩ := h
    induction i using Nat.strongRecOn with
    | ind i ih =>
      by_cases h2 : ∃ j, j < i ∧ by' u j = c.toNat
      · obtain ⟨j, h3, h4⟩ := h2; exact ih j h3 ⟨by omega, h4⟩
      · exact ⟨i, hi.1, hi.2, fun j hj he => h2 ⟨j, hj, he⟩⟩
  · exact .inr (fun j hj he => h ⟨j, hj, he⟩)
theorem ch_index (h : ChAt c u i) : Lib.indexB u (b1 c) = (i : Int) := by
  show Lib.index u.data.toList [c] = _
  rw [Lib.index_one]
  exact idx_hit _ i c ((list_at u i h.1 c).2 h.2.1) (fun j hj he => h.2.2 j hj ((list_at u j (by have := h.1; omega) c).1 he))
theorem ch_none (h : ChNo c u) : Lib.indexB u (b1 c) = -1 := by
  show Lib.index u.data.toList [c] = _
  rw [Lib.index_one]
  exact idx_miss _ c (fun j he => by
    have hj : j < u.size := by
      have : j < u.data.toList.length := (List.getElem?_eq_some_iff.1 he).1
      simpa using this
    exact h j hj ((list_at u j hj c).1 he))
theorem ch_count (h : ChAt c u i) : Lib.countB u (b1 c) = 1 + Lib.countB (u.extract (i + 1) u.size) (b1 c) := Lib.countB_hit u (b1 c) i (Nat.le_refl 1) (ch_index h)
theorem ch_count0 (h : ChNo c u) : Lib.countB u (b1 c) = 0 := Lib.countB_miss u (b1 c) (ch_none h)
theorem by_tail (hk : i + j < u.size) : by' (u.extract i u.size) j = by' u (i + j) := by_ex u i u.size j (Nat.le_refl _) (by omega)
theorem sz_ex (hj : j ≤ u.size) : (u.extract i j).size = j - i := by rw [ByteArray.size_extract]; omega
/-- Just two, at a and at b. -/
def Ch2 (c : UInt8) (u : ByteArray) (a b : Nat) : Prop := a < b ∧ b < u.size ∧ by' u a = c.toNat ∧ by' u b = c.toNat ∧ ∀ k, k < u.size → by' u k = c.toNat → k = a ∨ k = b
theorem ex_ex (hj : j ≤ u.size) (hb : b ≤ j - i) : (u.extract i j).extract a b = u.extract (i + a) (i + b) := by
  by_cases hab : a ≤ b
  · refine by_ext ?_ fun k hk => ?_
    · simp only [ByteArray.size_extract]; omega
    · rw [sz_ex (by rw [sz_ex hj]; exact hb)] at hk
      rw [by_ex _ _ _ _ (by rw [sz_ex hj]; exact hb) hk, by_ex _ _ _ _ hj (by omega), by_ex _ _ _ _ (by omega) (by omega), Nat.add_assoc]
  · refine by_ext ?_ fun k hk => ?_
    · simp only [ByteArray.size_extract]; omega
    · rw [sz_ex (by rw [sz_ex hj]; exact hb)] at hk; omega
end
/-- How the text of a vector falls into brackets and three parts. -/
def VCut (s : ByteArray) (i j : Nat) : Prop := 2 ≤ s.size ∧ by' s 0 = 40 ∧ by' s (s.size - 1) = 41 ∧ Ch2 32 s i j
def Vq.zero : Vq := ⟨.zero, .zero, .zero⟩
/-- What a text is read as. -/
inductive VP (s : ByteArray) : Vq → Int → Prop
  | form (h : ∀ i j, ¬ VCut s i j) : VP s .zero 2
  | e0 {i j x c} (h : VCut s i j) (hx : FP (s.extract 1 i) x c) (h0 : c ≠ 0) : VP s .zero c
  | e1 {i j x y c} (h : VCut s i j) (hx : FP (s.extract 1 i) x 0) (hy : FP (s.extract (i + 1) j) y c) (h0 : c ≠ 0) : VP s .zero c
  | e2 {i j x y z c} (h : VCut s i j) (hx : FP (s.extract 1 i) x 0) (hy : FP (s.extract (i + 1) j) y 0) (hz : FP (s.extract (j + 1) (s.size - 1)) z c) (h0 : c ≠ 0) : VP s .zero c
  | good {i j x y z} (h : VCut s i j) (hx : FP (s.extract 1 i) x 0) (hy : FP (s.extract (i + 1) j) y 0) (hz : FP (s.extract (j + 1) (s.size - 1)) z 0) : VP s ⟨x, y, z⟩ 0
end Go.Proofs.YthebfmlfgfmlnaaGreatDoor
namespace Go.Proofs
open Go.Shelf
def Tryz.lays138_ren : Go.Shelf.Ren := ⟨fun | 138 => 144 | 195 => 167 | 218 => 169 | 143 => 145 | 219 => 170 | 217 => 181 | 225 => 182 | 224 => 183 | 267 => 184 | 266 => 186 | 314 => 187 | n => n, fun | 9 => 9 | 3 => 3 | 4 => 4 | 5 => 5 | 0 => 0 | 46 => 145 | 146 => 153 | 51 => 37 | n => n, fun | 1 => 1 | n => n⟩
theorem Tryz.lays138 : Go.Proofs.Lays.n138 Tryz.prog Tryz.lays138_ren := {
  mixed := by kernel_rfl
  f138 := Tryz.func144.trans (congrArg some (by kernel_rfl))
  f143 := Tryz.func145.trans (congrArg some (by kernel_rfl))
  f195 := Tryz.func167.trans (congrArg some (by kernel_rfl))
  f217 := Tryz.func181.trans (congrArg some (by kernel_rfl))
  f218 := Tryz.func169.trans (congrArg some (by kernel_rfl))
  f219 := Tryz.func170.trans (congrArg some (by kernel_rfl))
  f224 := Tryz.func183.trans (congrArg some (by kernel_rfl))
  f225 := Tryz.func182.trans (congrArg some (by kernel_rfl))
  f266 := Tryz.func186.trans (congrArg some (by kernel_rfl))
  f267 := Tryz.func184.trans (congrArg some (by kernel_rfl))
  f314 := Tryz.func187.trans (congrArg some (by kernel_rfl))
  t0 := Tryz.underlying0
  a0 := Tryz.isAgg0
  z0 := Tryz.sizeOf0
  v0 := Tryz.zeroValue0
  t3 := Tryz.underlying3
  a3 := Tryz.isAgg3
  z3 := Tryz.sizeOf3
  v3 := Tryz.zeroValue3
  t4 := Tryz.underlying4
  a4 := Tryz.isAgg4
  z4 := Tryz.sizeOf4
  v4 := Tryz.zeroValue4
  t5 := Tryz.underlying5
  a5 := Tryz.isAgg5
  z5 := Tryz.sizeOf5
  v5 := Tryz.zeroValue5
  t9 := Tryz.underlying9
  a9 := Tryz.isAgg9
  z9 := Tryz.sizeOf9
  v9 := Tryz.zeroValue9
  t46 := Tryz.underlying145
  a46 := Tryz.isAgg145
  z46 := Tryz.sizeOf145
  v46 := Tryz.zeroValue145
  t51 := Tryz.underlying37
  a51 := Tryz.isAgg37
  z51 := Tryz.sizeOf37
  v51 := Tryz.zeroValue37
  t146 := Tryz.underlying153
  a146 := Tryz.isAgg153
  z146 := Tryz.sizeOf153
  v146 := Tryz.zeroValue153
  g1 := by kernel_rfl }
def Tryz.lays146_ren : Go.Shelf.Ren := ⟨fun | 146 => 47 | 221 => 94 | 268 => 143 | 138 => 144 | 143 => 145 | 195 => 167 | 197 => 168 | 218 => 169 | 219 => 170 | 260 => 180 | 217 => 181 | 225 => 182 | 224 => 183 | 267 => 184 | 266 => 186 | 314 => 187 | n => n, fun | 9 => 9 | 31 => 64 | 3 => 3 | 4 => 4 | 0 => 0 | 105 => 160 | 21 => 21 | 5 => 5 | 46 => 145 | 119 => 170 | 139 => 173 | 138 => 172 | 146 => 153 | 51 => 37 | n => n, fun | 1 => 1 | 3 => 2 | 4 => 3 | n => n⟩
theorem Tryz.lays146 : Go.Proofs.Lays.n146 Tryz.prog Tryz.lays146_ren := {
  mixed := by kernel_rfl
  f138 := Tryz.func144.trans (congrArg some (by kernel_rfl))
  f143 := Tryz.func145.trans (congrArg some (by kernel_rfl))
  f146 := Tryz.func47.trans (congrArg some (by kernel_rfl))
  f195 := Tryz.func167.trans (congrArg some (by kernel_rfl))
  f197 := Tryz.func168.trans (congrArg some (by kernel_rfl))
  f217 := Tryz.func181.trans (congrArg some (by kernel_rfl))
  f218 := Tryz.func169.trans (congrArg some (by kernel_rfl))
  f219 := Tryz.func170.trans (congrArg some (by kernel_rfl))
  f221 := Tryz.func94.trans (congrArg some (by kernel_rfl))
  f224 := Tryz.func183.trans (congrArg some (by kernel_rfl))
  f225 := Tryz.func182.trans (congrArg some (by kernel_rfl))
  f260 := Tryz.func180.trans (congrArg some (by kernel_rfl))
  f266 := Tryz.func186.trans (congrArg some (by kernel_rfl))
  f267 := Tryz.func184.trans (congrArg some (by kernel_rfl))
  f268 := Tryz.func143.trans (congrArg some (by kernel_rfl))
  f314 := Tryz.func187.trans (congrArg some (by kernel_rfl))
  t0 := Tryz.underlying0
  a0 := Tryz.isAgg0
  z0 := Tryz.sizeOf0
  v0 := Tryz.zeroValue0
  t3 := Tryz.underlying3
  a3 := Tryz.isAgg3
  z3 := Tryz.sizeOf3
  v3 := Tryz.zeroValue3
  t4 := Tryz.underlying4
  a4 := Tryz.isAgg4
  z4 := Tryz.sizeOf4
  v4 := Tryz.zeroValue4
  t5 := Tryz.underlying5
  a5 := Tryz.isAgg5
  z5 := Tryz.sizeOf5
  v5 := Tryz.zeroValue5
  t9 := Tryz.underlying9
  a9 := Tryz.isAgg9
  z9 := Tryz.sizeOf9
  v9 := Tryz.zeroValue9
  t21 := Tryz.underlying21
  a21 := Tryz.isAgg21
  z21 := Tryz.sizeOf21
  v21 := Tryz.zeroValue21
  t31 := Tryz.underlying64
  a31 := Tryz.isAgg64
  z31 := Tryz.sizeOf64
  v31 := Tryz.zeroValue64
  t46 := Tryz.underlying145
  a46 := Tryz.isAgg145
  z46 := Tryz.sizeOf145
  v46 := Tryz.zeroValue145
  t51 := Tryz.underlying37
  a51 := Tryz.isAgg37
  z51 := Tryz.sizeOf37
  v51 := Tryz.zeroValue37
  t105 := Tryz.underlying160
  a105 := Tryz.isAgg160
  z105 := Tryz.sizeOf160
  v105 := Tryz.zeroValue160
  t119 := Tryz.underlying170
  a119 := Tryz.isAgg170
  z119 := Tryz.sizeOf170
  t138 := Tryz.underlying172
  a138 := Tryz.isAgg172
  z138 := Tryz.sizeOf172
  v138 := Tryz.zeroValue172
  t139 := Tryz.underlying173
  a139 := Tryz.isAgg173
  z139 := Tryz.sizeOf173
  v139 := Tryz.zeroValue173
  t146 := Tryz.underlying153
  a146 := Tryz.isAgg153
  z146 := Tryz.sizeOf153
  v146 := Tryz.zeroValue153
  g1 := by kernel_rfl
  g3 := by kernel_rfl
  g4 := by kernel_rfl }
end Go.Proofs
namespace Go.Proofs.YthebfmlfgfmlnaaGreatDoor
set_option linter.unusedSimpArgs false
set_option linter.unusedVariables false
set_option maxRecDepth 100000
open Go.RowKit
theorem c_Split1 (s : ByteArray) (c : UInt8) (w : World) (hs : s.size < 4294967281) : Calls Tryz.prog 47 #[.string s, .string (b1 c)] w fun e w' =>
    e = .returned (.slice (some ⟨w.heap.size, 0, none⟩) (Lib.countB s (b1 c) + 1) (Lib.countB s (b1 c) + 1)) ∧ w' = w.alloc (.cells ((Lib.splitB (b1 c) 0 (Lib.countB s (b1 c)) s).map Value.string).toArray strT) :=
  Any.strings_Split_one Tryz.lays146 (by kernel_rfl) s c w hs
section
variable {xs : List Fq} {ys : Rho} {n m k i : Nat} {x : Fq} {s : ByteArray} {c : UInt8} {l : Leaf} {e : Int} {ss : List ByteArray}
theorem I_Split (hn : (frs xs ++ ys)[n]? = some (.val (.string s))) (hm : (frs xs ++ ys)[m]? = some (.strs ss)) (hl : Lib.splitB (b1 c) 0 (Lib.countB s (b1 c)) s = ss) (hs : s.size < 4294967281) : OkI xs ys ⟨47, [.one (.ref n), .one (.s (b1 c))], .v (.one (.ref m))⟩ :=
  ⟨enters Tryz.func47 rfl rfl, fun B w vs hB h => by
    match vs, h with
    | [va, vb], h =>
      have e1 := leaf_val (B := B) hn h.1
      have e2 : vb = .string (b1 c) := h.2.1
      subst e1; subst e2
      refine (c_Split1 s c w hs).mono ?_
      rintro e w' ⟨rfl, rfl⟩
      have hlen := Lib.splitB_all (b1 c) (Nat.le_refl 1) 0 _ s rfl
      rw [hl] at hlen
      rw [hl]
      refine ⟨_, rfl, ⟨_, hm, .inr ⟨w.heap.size, 0, ss.length, _, by rw [hlen], Nat.le_refl _, heap_alloc_new w _, fun j q hj => ?_⟩, fun g ⟨o', n', c', e'⟩ x hx => ?_⟩, bel1 w _⟩
      · rw [List.getElem?_map] at hj
        obtain ⟨z, hz, e1⟩ := Option.map_eq_some_iff.1 hj
        subst e1
        exact ⟨.string z, by simp [hz], ⟨rfl, flat_str⟩, fun _ h => h⟩
      · injection e' with e1; injection e1 with e1; injection e1 with e1 _ _; subst e1
        have := hB x _ hx; omega⟩
theorem instP {f : FuncId} (hen : Ent' f) (hc : ∀ w, Calls Tryz.prog f #[.string s] w (fun a w' => RetQE w x e a w')) (hn : (frs xs ++ ys)[n]? = some (.val (.string s))) (hk : xs[k]? = some x) (hl : ∀ B w, l.holds (frs xs ++ ys) B w (.int .i64 e)) : OkI xs ys ⟨f, [.one (.ref n)], .tup [fr k, .one l]⟩ :=
  ⟨hen, fun B w vs hB h => by
    match vs, h with
    | [va], h =>
      have e1 := leaf_val (B := B) hn h.1
      subst e1
      refine (hc w).mono ?_
      rintro a w' ⟨v, rfl, h1, h2⟩
      exact ⟨_, rfl, ⟨[v, .int .i64 e], rfl, (fr_isQ hk).2 h1, hl B w', trivial⟩, h2⟩⟩
theorem I_fParse (hn : (frs xs ++ ys)[n]? = some (.val (.string s))) (hk : xs[k]? = some x) (hl : ∀ B w, l.holds (frs xs ++ ys) B w (.int .i64 e)) (h : FP s x e) (hs : s.size ≤ 4294967280) : OkI xs ys ⟨48, [.one (.ref n)], .tup [fr k, .one l]⟩ :=
  instP (enters Tryz.func48 rfl rfl) (fun w => q_fParse s x e w h hs) hn hk hl
theorem I_rParse (hn : (frs xs ++ ys)[n]? = some (.val (.string s))) (hk : xs[k]? = some x) (hl : ∀ B w, l.holds (frs xs ++ ys) B w (.int .i64 e)) (h : FP s x e) (hs : s.size ≤ 4294967280) : OkI xs ys ⟨52, [.one (.ref n)], .tup [fr k, .one l]⟩ :=
  instP (enters Tryz.func52 rfl rfl) (fun w => q_rParse s x e w h hs) hn hk hl
theorem I_fFormat (hi : xs[i]? = some x) (hl : ∀ B w, l.holds (frs xs ++ ys) B w (.string x.fmt)) (ox : x.ok 1000000000) : OkI xs ys ⟨45, [fr i], .v (.one l)⟩ :=
  inst1V (enters Tryz.func45 rfl rfl) (fun va w h1 => q_fFormat va x w h1 ox) hi hl
end
end Go.Proofs.YthebfmlfgfmlnaaGreatDoor
namespace Go.Proofs
open Go.Shelf
def Tryz.laysJoin_ren : Go.Shelf.Ren := ⟨fun | 156 => 46 | 165 => 91 | 166 => 92 | 169 => 93 | 240 => 141 | 241 => 142 | 276 => 165 | 277 => 166 | n => n, fun | 31 => 64 | 9 => 9 | 3 => 3 | 4 => 4 | 0 => 0 | 20 => 20 | 72 => 104 | 76 => 108 | 70 => 101 | 37 => 102 | 75 => 107 | 127 => 142 | 164 => 156 | 5 => 5 | 80 => 110 | n => n, fun | n => n⟩
theorem Tryz.laysJoin : Go.Proofs.Lays.n156 Tryz.prog Tryz.laysJoin_ren := {
  mixed := by kernel_rfl
  f156 := Tryz.func46.trans (congrArg some (by kernel_rfl))
  f165 := Tryz.func91.trans (congrArg some (by kernel_rfl))
  f166 := Tryz.func92.trans (congrArg some (by kernel_rfl))
  f169 := Tryz.func93.trans (congrArg some (by kernel_rfl))
  f240 := Tryz.func141.trans (congrArg some (by kernel_rfl))
  f241 := Tryz.func142.trans (congrArg some (by kernel_rfl))
  f276 := Tryz.func165.trans (congrArg some (by kernel_rfl))
  f277 := Tryz.func166.trans (congrArg some (by kernel_rfl))
  t0 := Tryz.underlying0
  a0 := Tryz.isAgg0
  z0 := Tryz.sizeOf0
  v0 := Tryz.zeroValue0
  t3 := Tryz.underlying3
  a3 := Tryz.isAgg3
  z3 := Tryz.sizeOf3
  v3 := Tryz.zeroValue3
  t4 := Tryz.underlying4
  a4 := Tryz.isAgg4
  z4 := Tryz.sizeOf4
  v4 := Tryz.zeroValue4
  t9 := Tryz.underlying9
  a9 := Tryz.isAgg9
  z9 := Tryz.sizeOf9
  v9 := Tryz.zeroValue9
  t20 := Tryz.underlying20
  a20 := Tryz.isAgg20
  z20 := Tryz.sizeOf20
  v20 := Tryz.zeroValue20
  t31 := Tryz.underlying64
  a31 := Tryz.isAgg64
  z31 := Tryz.sizeOf64
  v31 := Tryz.zeroValue64
  t37 := Tryz.underlying102
  a37 := Tryz.isAgg102
  z37 := Tryz.sizeOf102
  v37 := Tryz.zeroValue102
  t70 := Tryz.underlying101
  a70 := Tryz.isAgg101
  z70 := Tryz.sizeOf101
  v70 := Tryz.zeroValue101
  t72 := Tryz.underlying104
  a72 := Tryz.isAgg104
  z72 := Tryz.sizeOf104
  v72 := Tryz.zeroValue104
  t75 := Tryz.underlying107
  a75 := Tryz.isAgg107
  z75 := Tryz.sizeOf107
  v75 := Tryz.zeroValue107
  t76 := Tryz.underlying108
  a76 := Tryz.isAgg108
  z76 := Tryz.sizeOf108
  v76 := Tryz.zeroValue108
  t127 := Tryz.underlying142
  a127 := Tryz.isAgg142
  z127 := Tryz.sizeOf142
  v127 := Tryz.zeroValue142
  t164 := Tryz.underlying156
  a164 := Tryz.isAgg156
  z164 := Tryz.sizeOf156
  v164 := Tryz.zeroValue156 }
theorem Tryz.joinX : Builder.Extra Tryz.prog Tryz.laysJoin_ren where
  sizeBuilder := by kernel_rfl
  liesBuilder := by kernel_rfl
  t5 := Tryz.underlying5
  a5 := Tryz.isAgg5
  z5 := Tryz.sizeOf5
  v5 := Tryz.zeroValue5
  infoByte := by kernel_rfl
  cellsByte := by kernel_rfl
  sizeByte := by kernel_rfl
  neB5 := by decide
end Go.Proofs
