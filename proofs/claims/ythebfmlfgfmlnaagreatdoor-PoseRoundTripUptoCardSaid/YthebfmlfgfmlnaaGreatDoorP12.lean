/- Texts of fractions, by the executor. Parse of the reference of fractions, by the executor. The plain law of the texts of fractions: what is read is what is written. Texts with two spaces: what strings.Count and strings.Split give. The calls of package strings, of fraction's texts, for the executor. The call of strings.Join. Vectors, by the executor. -/
import Derived.Test.YthebfmlfgfmlnaaGreatDoorP11
import Derived.Lib.SplitLaws
import Derived.Lib.IndexBytes
import Derived.Shelf.Strings.OnBuilder
namespace Go.Proofs.YthebfmlfgfmlnaaGreatDoor
set_option linter.unusedSimpArgs false
set_option linter.unusedVariables false
set_option maxRecDepth 100000
open Go.RowKit
theorem J_fValid {ρ : Rho} {x : Fq} {a b : Nat} {l : Leaf} {v : Bool} (hx : FAt ρ l a b x) (hv : x.valid = v) (hp : nl x.p ≤ 1000000) (hq : nl x.q ≤ 1000000) : Inst.Ok Tryz.prog ρ ⟨85, [.agg [l, .ref a, .ref b]], .v (.one (.b v))⟩ :=
  i1QV (enters Tryz.func85 rfl rfl) (fun va w h1 => q_fValid va x w h1 hp hq) hx (lb hv)
theorem I_CutPrefix {ρ : Rho} {n m : Nat} {s t : ByteArray} {B : Bool} {l : Leaf} (hn : ρ[n]? = some (.val (.string s))) (hm : ρ[m]? = some (.val (.string t))) (hl : ∀ B' w, l.holds ρ B' w (.bool B)) (hb : decide (0 < s.size ∧ by' s 0 = 45) = B) (ht : t = if B then s.extract 1 s.size else s) : Inst.Ok Tryz.prog ρ ⟨95, [.one (.ref n), .one (.s (ByteArray.mk #[45]))], .tup [.one (.ref m), .one l]⟩ :=
  ⟨enters Tryz.func95 rfl rfl, fun Bk w vs hB h => by
    match vs, h with
    | [va, vb], h =>
      obtain rfl := leaf_val hn h.1
      have e2 : vb = .string (ByteArray.mk #[45]) := h.2.1
      subst e2
      refine (c_CutPrefix s t B w hb ht).mono ?_
      rintro e w' ⟨rfl, h2⟩
      exact ⟨_, rfl, ⟨[.string t, .bool B], rfl, leaf_mk hm flat_str, hl _ _, trivial⟩, h2⟩⟩
theorem I_Cut {ρ : Rho} {n i j : Nat} {s t a b : ByteArray} {B F : Bool} (hn : ρ[n]? = some (.val (.string t))) (hi : ρ[i]? = some (.val (.string a))) (hj : ρ[j]? = some (.val (.string b))) (HP : Pieces s t B F a b) (ht : t.size ≤ 4294967280) : Inst.Ok Tryz.prog ρ ⟨96, [.one (.ref n), .one (.s (ByteArray.mk #[47]))], .tup [.one (.ref i), .one (.ref j), .one (.b F)]⟩ :=
  ⟨enters Tryz.func96 rfl rfl, fun Bk w vs hB h => by
    match vs, h with
    | [va, vb], h =>
      obtain rfl := leaf_val hn h.1
      have e2 : vb = .string (ByteArray.mk #[47]) := h.2.1
      subst e2
      refine (cut_piece HP w ht).mono ?_
      rintro e w' ⟨rfl, h2⟩
      exact ⟨_, rfl, ⟨[.string a, .string b, .bool F], rfl, leaf_mk hi flat_str, leaf_mk hj flat_str, rfl, trivial⟩, h2⟩⟩
theorem q_fFormat (va : Value) (x : Fq) (w : World) (ha : IsQ w va x) (h : x.ok 1000000000) :
    Calls Tryz.prog 45 #[va] w fun e w' => RetV w (.string x.fmt) e w' := by
  by_cases c0 : x.q = 1
  · rcases Bool.eq_false_or_eq_true (x.s) with c1 | c1
    · have z1 := fmt_size x.p
      have z2 := fmt_size x.q
      have z3 := h.p
      have z4 := h.q
      refine (calls_runFn (ρ := [.dig (nl x.p) x.p, .dig (nl x.q) x.q, .val (.string (fmtB x.p)), .row 24 1 [.dig (nl x.q) x.q], .val (.string ((ByteArray.mk #[45]) ++ (fmtB x.p)))]) (w := w) (fuel := 300) (args := [.agg [.b true, .ref 0, .ref 1]]) (vs := [va]) (r := .v (.one (.ref 4)))
        (il_cons (I_nFmt (i := 0) rfl (ls (n := 2) rfl) (Nat.le_trans h.p (by decide))) (il_cons (I_one (n := 3) rfl (decide_eq_true c0) (Nat.le_trans h.q (by decide))) il_nil))
        (ol_cons (o_bs (m := 3) (ss := [nt 1]) (N := 1) (sz := 1) (z := [.sl0]) (qs := [.dig (nl x.q) x.q]) (ix := [0]) (ls := [.ref 1]) Tryz.underlying141 (by kernel_rfl) (by kernel_rfl) (by decide) (by decide) (by decide) rfl (by kernel_rfl) ⟨ql_dig rfl, trivial⟩ rfl) (ol_cons (o_catLR (n := 2) (m := 4) (s := (ByteArray.mk #[45])) (z := (fmtB x.p)) (t := 9) (by kernel_rfl) rfl rfl (by simp only [ByteArray.size_append, bsz, List.size_toArray, List.length_cons, List.length_nil]; omega)) (ol_nil))) (by kernel_rfl) Tryz.func45 (by kernel_rfl) ⟨(inF ha (lb c1) rfl rfl), trivial⟩).mono ?_
      rintro e w' ⟨v, rfl, h1, h2⟩
      have h1 := (leaf_val rfl h1)
      subst h1
      exact ⟨by unfold Fq.fmt; simp [ByteArray.append_assoc, c0, c1], h2⟩
    · have z1 := fmt_size x.p
      have z2 := fmt_size x.q
      have z3 := h.p
      have z4 := h.q
      refine (calls_runFn (ρ := [.dig (nl x.p) x.p, .dig (nl x.q) x.q, .val (.string (fmtB x.p)), .row 24 1 [.dig (nl x.q) x.q]]) (w := w) (fuel := 300) (args := [.agg [.b false, .ref 0, .ref 1]]) (vs := [va]) (r := .v (.one (.ref 2)))
        (il_cons (I_nFmt (i := 0) rfl (ls (n := 2) rfl) (Nat.le_trans h.p (by decide))) (il_cons (I_one (n := 3) rfl (decide_eq_true c0) (Nat.le_trans h.q (by decide))) il_nil))
        (ol_cons (o_bs (m := 3) (ss := [nt 1]) (N := 1) (sz := 1) (z := [.sl0]) (qs := [.dig (nl x.q) x.q]) (ix := [0]) (ls := [.ref 1]) Tryz.underlying141 (by kernel_rfl) (by kernel_rfl) (by decide) (by decide) (by decide) rfl (by kernel_rfl) ⟨ql_dig rfl, trivial⟩ rfl) (ol_nil)) (by kernel_rfl) Tryz.func45 (by kernel_rfl) ⟨(inF ha (lb c1) rfl rfl), trivial⟩).mono ?_
      rintro e w' ⟨v, rfl, h1, h2⟩
      have h1 := (leaf_val rfl h1)
      subst h1
      exact ⟨by unfold Fq.fmt; simp [ByteArray.append_assoc, c0, c1], h2⟩
  · rcases Bool.eq_false_or_eq_true (x.s) with c1 | c1
    · have z1 := fmt_size x.p
      have z2 := fmt_size x.q
      have z3 := h.p
      have z4 := h.q
      refine (calls_runFn (ρ := [.dig (nl x.p) x.p, .dig (nl x.q) x.q, .val (.string (fmtB x.p)), .row 24 1 [.dig (nl x.q) x.q], .val (.string (fmtB x.q)), .val (.string ((ByteArray.mk #[47]) ++ (fmtB x.q))), .val (.string ((fmtB x.p) ++ ((ByteArray.mk #[47]) ++ (fmtB x.q)))), .val (.string ((ByteArray.mk #[45]) ++ ((fmtB x.p) ++ ((ByteArray.mk #[47]) ++ (fmtB x.q)))))]) (w := w) (fuel := 300) (args := [.agg [.b true, .ref 0, .ref 1]]) (vs := [va]) (r := .v (.one (.ref 7)))
        (il_cons (I_nFmt (i := 0) rfl (ls (n := 2) rfl) (Nat.le_trans h.p (by decide))) (il_cons (I_one (n := 3) rfl (decide_eq_false c0) (Nat.le_trans h.q (by decide))) (il_cons (I_nFmt (i := 1) rfl (ls (n := 4) rfl) (Nat.le_trans h.q (by decide))) il_nil)))
        (ol_cons (o_bs (m := 3) (ss := [nt 1]) (N := 1) (sz := 1) (z := [.sl0]) (qs := [.dig (nl x.q) x.q]) (ix := [0]) (ls := [.ref 1]) Tryz.underlying141 (by kernel_rfl) (by kernel_rfl) (by decide) (by decide) (by decide) rfl (by kernel_rfl) ⟨ql_dig rfl, trivial⟩ rfl) (ol_cons (o_catLR (n := 4) (m := 5) (s := (ByteArray.mk #[47])) (z := (fmtB x.q)) (t := 9) (by kernel_rfl) rfl rfl (by simp only [ByteArray.size_append, bsz, List.size_toArray, List.length_cons, List.length_nil]; omega)) (ol_cons (o_catRR (n := 2) (m := 6) (k := 5) (s := (fmtB x.p)) (z := ((ByteArray.mk #[47]) ++ (fmtB x.q))) (t := 9) (by kernel_rfl) rfl rfl rfl (by simp only [ByteArray.size_append, bsz, List.size_toArray, List.length_cons, List.length_nil]; omega)) (ol_cons (o_catLR (n := 6) (m := 7) (s := (ByteArray.mk #[45])) (z := ((fmtB x.p) ++ ((ByteArray.mk #[47]) ++ (fmtB x.q)))) (t := 9) (by kernel_rfl) rfl rfl (by simp only [ByteArray.size_append, bsz, List.size_toArray, List.length_cons, List.length_nil]; omega)) (ol_nil))))) (by kernel_rfl) Tryz.func45 (by kernel_rfl) ⟨(inF ha (lb c1) rfl rfl), trivial⟩).mono ?_
      rintro e w' ⟨v, rfl, h1, h2⟩
      have h1 := (leaf_val rfl h1)
      subst h1
      exact ⟨by unfold Fq.fmt; simp [ByteArray.append_assoc, c0, c1], h2⟩
    · have z1 := fmt_size x.p
      have z2 := fmt_size x.q
      have z3 := h.p
      have z4 := h.q
      refine (calls_runFn (ρ := [.dig (nl x.p) x.p, .dig (nl x.q) x.q, .val (.string (fmtB x.p)), .row 24 1 [.dig (nl x.q) x.q], .val (.string (fmtB x.q)), .val (.string ((ByteArray.mk #[47]) ++ (fmtB x.q))), .val (.string ((fmtB x.p) ++ ((ByteArray.mk #[47]) ++ (fmtB x.q))))]) (w := w) (fuel := 300) (args := [.agg [.b false, .ref 0, .ref 1]]) (vs := [va]) (r := .v (.one (.ref 6)))
        (il_cons (I_nFmt (i := 0) rfl (ls (n := 2) rfl) (Nat.le_trans h.p (by decide))) (il_cons (I_one (n := 3) rfl (decide_eq_false c0) (Nat.le_trans h.q (by decide))) (il_cons (I_nFmt (i := 1) rfl (ls (n := 4) rfl) (Nat.le_trans h.q (by decide))) il_nil)))
        (ol_cons (o_bs (m := 3) (ss := [nt 1]) (N := 1) (sz := 1) (z := [.sl0]) (qs := [.dig (nl x.q) x.q]) (ix := [0]) (ls := [.ref 1]) Tryz.underlying141 (by kernel_rfl) (by kernel_rfl) (by decide) (by decide) (by decide) rfl (by kernel_rfl) ⟨ql_dig rfl, trivial⟩ rfl) (ol_cons (o_catLR (n := 4) (m := 5) (s := (ByteArray.mk #[47])) (z := (fmtB x.q)) (t := 9) (by kernel_rfl) rfl rfl (by simp only [ByteArray.size_append, bsz, List.size_toArray, List.length_cons, List.length_nil]; omega)) (ol_cons (o_catRR (n := 2) (m := 6) (k := 5) (s := (fmtB x.p)) (z := ((ByteArray.mk #[47]) ++ (fmtB x.q))) (t := 9) (by kernel_rfl) rfl rfl rfl (by simp only [ByteArray.size_append, bsz, List.size_toArray, List.length_cons, List.length_nil]; omega)) (ol_nil)))) (by kernel_rfl) Tryz.func45 (by kernel_rfl) ⟨(inF ha (lb c1) rfl rfl), trivial⟩).mono ?_
      rintro e w' ⟨v, rfl, h1, h2⟩
      have h1 := (leaf_val rfl h1)
      subst h1
      exact ⟨by unfold Fq.fmt; simp [ByteArray.append_assoc, c0, c1], h2⟩
theorem q_rFormat (va : Value) (x : Fq) (w : World) (ha : IsQ w va x) (h : x.ok 1000000000) :
    Calls Tryz.prog 49 #[va] w fun e w' => RetV w (.string x.fmt) e w' := by
  rcases Bool.eq_false_or_eq_true (x.s) with c0 | c0
  · by_cases c1 : x.q = 1
    · have z1 := fmt_size x.p
      have z2 := fmt_size x.q
      have z3 := h.p
      have z4 := h.q
      refine (calls_runFn (ρ := [.dig (nl x.p) x.p, .dig (nl x.q) x.q, .val (.string (fmtB x.p)), .val (.string ((ByteArray.mk #[45]) ++ (fmtB x.p))), .dig (nl 1) 1]) (w := w) (fuel := 300) (args := [.agg [.b true, .ref 0, .ref 1]]) (vs := [va]) (r := .v (.one (.ref 3)))
        (il_cons (I_mFmt (i := 0) rfl (ls (n := 2) rfl) (Nat.le_trans h.p (by decide))) (il_cons (I_mOf (k := 4) rfl (by decide)) (il_cons (I_mSame (i := 1) (j := 4) rfl rfl (decide_eq_true c1) (Nat.le_trans h.q (by decide)) (Nat.le_trans nl_one (by decide))) il_nil)))
        (ol_cons (o_catLR (n := 2) (m := 3) (s := (ByteArray.mk #[45])) (z := (fmtB x.p)) (t := 9) (by kernel_rfl) rfl rfl (by simp only [ByteArray.size_append, bsz, List.size_toArray, List.length_cons, List.length_nil]; omega)) (ol_nil)) (by kernel_rfl) Tryz.func49 (by kernel_rfl) ⟨(inF ha (lb c0) rfl rfl), trivial⟩).mono ?_
      rintro e w' ⟨v, rfl, h1, h2⟩
      have h1 := (leaf_val rfl h1)
      subst h1
      exact ⟨by unfold Fq.fmt; simp [ByteArray.append_assoc, c0, c1], h2⟩
    · have z1 := fmt_size x.p
      have z2 := fmt_size x.q
      have z3 := h.p
      have z4 := h.q
      refine (calls_runFn (ρ := [.dig (nl x.p) x.p, .dig (nl x.q) x.q, .val (.string (fmtB x.p)), .val (.string ((ByteArray.mk #[45]) ++ (fmtB x.p))), .dig (nl 1) 1, .val (.string (((ByteArray.mk #[45]) ++ (fmtB x.p)) ++ (ByteArray.mk #[47]))), .val (.string (fmtB x.q)), .val (.string ((((ByteArray.mk #[45]) ++ (fmtB x.p)) ++ (ByteArray.mk #[47])) ++ (fmtB x.q)))]) (w := w) (fuel := 300) (args := [.agg [.b true, .ref 0, .ref 1]]) (vs := [va]) (r := .v (.one (.ref 7)))
        (il_cons (I_mFmt (i := 0) rfl (ls (n := 2) rfl) (Nat.le_trans h.p (by decide))) (il_cons (I_mOf (k := 4) rfl (by decide)) (il_cons (I_mSame (i := 1) (j := 4) rfl rfl (decide_eq_false c1) (Nat.le_trans h.q (by decide)) (Nat.le_trans nl_one (by decide))) (il_cons (I_mFmt (i := 1) rfl (ls (n := 6) rfl) (Nat.le_trans h.q (by decide))) il_nil))))
        (ol_cons (o_catLR (n := 2) (m := 3) (s := (ByteArray.mk #[45])) (z := (fmtB x.p)) (t := 9) (by kernel_rfl) rfl rfl (by simp only [ByteArray.size_append, bsz, List.size_toArray, List.length_cons, List.length_nil]; omega)) (ol_cons (o_catRL (n := 3) (m := 5) (s := ((ByteArray.mk #[45]) ++ (fmtB x.p))) (z := (ByteArray.mk #[47])) (t := 9) (by kernel_rfl) rfl rfl (by simp only [ByteArray.size_append, bsz, List.size_toArray, List.length_cons, List.length_nil]; omega)) (ol_cons (o_catRR (n := 5) (m := 7) (k := 6) (s := (((ByteArray.mk #[45]) ++ (fmtB x.p)) ++ (ByteArray.mk #[47]))) (z := (fmtB x.q)) (t := 9) (by kernel_rfl) rfl rfl rfl (by simp only [ByteArray.size_append, bsz, List.size_toArray, List.length_cons, List.length_nil]; omega)) (ol_nil)))) (by kernel_rfl) Tryz.func49 (by kernel_rfl) ⟨(inF ha (lb c0) rfl rfl), trivial⟩).mono ?_
      rintro e w' ⟨v, rfl, h1, h2⟩
      have h1 := (leaf_val rfl h1)
      subst h1
      exact ⟨by unfold Fq.fmt; simp [ByteArray.append_assoc, c0, c1], h2⟩
  · by_cases c1 : x.q = 1
    · have z1 := fmt_size x.p
      have z2 := fmt_size x.q
      have z3 := h.p
      have z4 := h.q
      refine (calls_runFn (ρ := [.dig (nl x.p) x.p, .dig (nl x.q) x.q, .val (.string (fmtB x.p)), .dig (nl 1) 1]) (w := w) (fuel := 300) (args := [.agg [.b false, .ref 0, .ref 1]]) (vs := [va]) (r := .v (.one (.ref 2)))
        (il_cons (I_mFmt (i := 0) rfl (ls (n := 2) rfl) (Nat.le_trans h.p (by decide))) (il_cons (I_mOf (k := 3) rfl (by decide)) (il_cons (I_mSame (i := 1) (j := 3) rfl rfl (decide_eq_true c1) (Nat.le_trans h.q (by decide)) (Nat.le_trans nl_one (by decide))) il_nil)))
        ol_nil (by kernel_rfl) Tryz.func49 (by kernel_rfl) ⟨(inF ha (lb c0) rfl rfl), trivial⟩).mono ?_
      rintro e w' ⟨v, rfl, h1, h2⟩
      have h1 := (leaf_val rfl h1)
      subst h1
      exact ⟨by unfold Fq.fmt; simp [ByteArray.append_assoc, c0, c1], h2⟩
    · have z1 := fmt_size x.p
      have z2 := fmt_size x.q
      have z3 := h.p
      have z4 := h.q
      refine (calls_runFn (ρ := [.dig (nl x.p) x.p, .dig (nl x.q) x.q, .val (.string (fmtB x.p)), .dig (nl 1) 1, .val (.string ((fmtB x.p) ++ (ByteArray.mk #[47]))), .val (.string (fmtB x.q)), .val (.string (((fmtB x.p) ++ (ByteArray.mk #[47])) ++ (fmtB x.q)))]) (w := w) (fuel := 300) (args := [.agg [.b false, .ref 0, .ref 1]]) (vs := [va]) (r := .v (.one (.ref 6)))
        (il_cons (I_mFmt (i := 0) rfl (ls (n := 2) rfl) (Nat.le_trans h.p (by decide))) (il_cons (I_mOf (k := 3) rfl (by decide)) (il_cons (I_mSame (i := 1) (j := 3) rfl rfl (decide_eq_false c1) (Nat.le_trans h.q (by decide)) (Nat.le_trans nl_one (by decide))) (il_cons (I_mFmt (i := 1) rfl (ls (n := 5) rfl) (Nat.le_trans h.q (by decide))) il_nil))))
        (ol_cons (o_catRL (n := 2) (m := 4) (s := (fmtB x.p)) (z := (ByteArray.mk #[47])) (t := 9) (by kernel_rfl) rfl rfl (by simp only [ByteArray.size_append, bsz, List.size_toArray, List.length_cons, List.length_nil]; omega)) (ol_cons (o_catRR (n := 4) (m := 6) (k := 5) (s := ((fmtB x.p) ++ (ByteArray.mk #[47]))) (z := (fmtB x.q)) (t := 9) (by kernel_rfl) rfl rfl rfl (by simp only [ByteArray.size_append, bsz, List.size_toArray, List.length_cons, List.length_nil]; omega)) (ol_nil))) (by kernel_rfl) Tryz.func49 (by kernel_rfl) ⟨(inF ha (lb c0) rfl rfl), trivial⟩).mono ?_
      rintro e w' ⟨v, rfl, h1, h2⟩
      have h1 := (leaf_val rfl h1)
      subst h1
      exact ⟨by unfold Fq.fmt; simp [ByteArray.append_assoc, c0, c1], h2⟩
theorem fP_num1 (s t a b : ByteArray) (B : Bool) (M : Nat) (c : Int) (w : World) (HP : Pieces s t B true a b) (ht : t.size ≤ 4294967280) (ha : ParseIs a M c) (h0 : c ≠ 0) :
    Calls Tryz.prog 48 #[.string s] w fun e w' => RetQE w Fq.zero c e w' := by
  refine (calls_runFn (ρ := [.val (.string s), .val (.string t), .val (.bool B), .val (.string a), .val (.string b), .dig (nl M) M, .val (.int .i64 c)]) (w := w) (fuel := 300) (args := [.one (.ref 0)]) (vs := [.string s]) (r := .tup [.agg [.b false, .sl0, .sl0], .one (.ref 6)])
    (il_cons (I_CutPrefix (n := 0) (m := 1) rfl rfl (lrb (n := 2) rfl) HP.sign HP.rest) (il_cons (I_Cut (n := 1) (i := 3) (j := 4) rfl rfl rfl HP ht) (il_cons (I_nParse (i := 3) (k := 5) rfl rfl (lr (n := 6) rfl) ha) il_nil)))
    (ol_cons (o_neqK (n := 6) (c := 0) (t := 39) rfl (bneq_t h0)) (ol_nil)) (by kernel_rfl) Tryz.func48 (by kernel_rfl) ⟨leaf_mk (n := 0) rfl flat_str, trivial⟩).mono ?_
  rintro e w' ⟨v, rfl, h1, h2⟩
  obtain ⟨u, rfl, h3⟩ := outT h1 (fun _ _ _ h => leaf_val rfl h)
  exact ⟨u, rfl, outZ h3, h2⟩
theorem fP_num0 (s t a b : ByteArray) (B : Bool) (M : Nat) (c : Int) (w : World) (HP : Pieces s t B false a b) (ht : t.size ≤ 4294967280) (ha : ParseIs a M c) (h0 : c ≠ 0) :
    Calls Tryz.prog 48 #[.string s] w fun e w' => RetQE w Fq.zero c e w' := by
  refine (calls_runFn (ρ := [.val (.string s), .val (.string t), .val (.bool B), .val (.string a), .val (.string b), .dig (nl M) M, .val (.int .i64 c)]) (w := w) (fuel := 300) (args := [.one (.ref 0)]) (vs := [.string s]) (r := .tup [.agg [.b false, .sl0, .sl0], .one (.ref 6)])
    (il_cons (I_CutPrefix (n := 0) (m := 1) rfl rfl (lrb (n := 2) rfl) HP.sign HP.rest) (il_cons (I_Cut (n := 1) (i := 3) (j := 4) rfl rfl rfl HP ht) (il_cons (I_nParse (i := 3) (k := 5) rfl rfl (lr (n := 6) rfl) ha) il_nil)))
    (ol_cons (o_neqK (n := 6) (c := 0) (t := 39) rfl (bneq_t h0)) (ol_nil)) (by kernel_rfl) Tryz.func48 (by kernel_rfl) ⟨leaf_mk (n := 0) rfl flat_str, trivial⟩).mono ?_
  rintro e w' ⟨v, rfl, h1, h2⟩
  obtain ⟨u, rfl, h3⟩ := outT h1 (fun _ _ _ h => leaf_val rfl h)
  exact ⟨u, rfl, outZ h3, h2⟩
theorem fP_den (s t a b : ByteArray) (B : Bool) (M N : Nat) (c : Int) (w : World) (HP : Pieces s t B true a b) (ht : t.size ≤ 4294967280) (ha : ParseIs a M 0) (hb : ParseIs b N c) (h0 : c ≠ 0) :
    Calls Tryz.prog 48 #[.string s] w fun e w' => RetQE w Fq.zero c e w' := by
  refine (calls_runFn (ρ := [.val (.string s), .val (.string t), .val (.bool B), .val (.string a), .val (.string b), .dig (nl M) M, .dig (nl 1) 1, .dig (nl N) N, .val (.int .i64 c)]) (w := w) (fuel := 300) (args := [.one (.ref 0)]) (vs := [.string s]) (r := .tup [.agg [.b false, .sl0, .sl0], .one (.ref 8)])
    (il_cons (I_CutPrefix (n := 0) (m := 1) rfl rfl (lrb (n := 2) rfl) HP.sign HP.rest) (il_cons (I_Cut (n := 1) (i := 3) (j := 4) rfl rfl rfl HP ht) (il_cons (I_nParse (i := 3) (k := 5) rfl rfl (li rfl) ha) (il_cons (I_nOf (k := 6) rfl (by decide)) (il_cons (I_nParse (i := 4) (k := 7) rfl rfl (lr (n := 8) rfl) hb) il_nil)))))
    (ol_cons (o_neqK (n := 8) (c := 0) (t := 39) rfl (bneq_t h0)) (ol_nil)) (by kernel_rfl) Tryz.func48 (by kernel_rfl) ⟨leaf_mk (n := 0) rfl flat_str, trivial⟩).mono ?_
  rintro e w' ⟨v, rfl, h1, h2⟩
  obtain ⟨u, rfl, h3⟩ := outT h1 (fun _ _ _ h => leaf_val rfl h)
  exact ⟨u, rfl, outZ h3, h2⟩
theorem fP_g1 (s t a b : ByteArray) (B : Bool) (M N : Nat) (w : World) (HP : Pieces s t B true a b) (ht : t.size ≤ 4294967280) (ha : ParseIs a M 0) (hb : ParseIs b N 0) (hN : ¬ N = 1) (hv : (Fq.mk B M N).valid = true) :
    Calls Tryz.prog 48 #[.string s] w fun e w' => RetQE w ⟨B, M, N⟩ 0 e w' := by
  refine (calls_runFn (ρ := [.val (.string s), .val (.string t), .val (.bool B), .val (.string a), .val (.string b), .dig (nl M) M, .dig (nl 1) 1, .dig (nl N) N, .row 24 1 [.dig (nl N) N]]) (w := w) (fuel := 300) (args := [.one (.ref 0)]) (vs := [.string s]) (r := .tup [q3 2 5 7, .one (.i .i64 0)])
    (il_cons (I_CutPrefix (n := 0) (m := 1) rfl rfl (lrb (n := 2) rfl) HP.sign HP.rest) (il_cons (I_Cut (n := 1) (i := 3) (j := 4) rfl rfl rfl HP ht) (il_cons (I_nParse (i := 3) (k := 5) rfl rfl (li rfl) ha) (il_cons (I_nOf (k := 6) rfl (by decide)) (il_cons (I_nParse (i := 4) (k := 7) rfl rfl (li rfl) hb) (il_cons (I_one (n := 8) rfl (decide_eq_false hN) (Nat.le_trans (parse_nlU hb) (by decide))) (il_cons (J_fValid (fat_mk (l := .ref 2) (a := 5) (b := 7) (x := (Fq.mk B M N)) (lrb (n := 2) rfl) (br (n := 2) rfl) rfl rfl) hv (Nat.le_trans (parse_nlU ha) (by decide)) (Nat.le_trans (parse_nlU hb) (by decide))) il_nil)))))))
    (ol_cons (o_bs (m := 8) (ss := [nt 7]) (N := 1) (sz := 1) (z := [.sl0]) (qs := [.dig (nl N) N]) (ix := [0]) (ls := [.ref 7]) Tryz.underlying141 (by kernel_rfl) (by kernel_rfl) (by decide) (by decide) (by decide) rfl (by kernel_rfl) ⟨ql_dig rfl, trivial⟩ rfl) (ol_nil)) (by kernel_rfl) Tryz.func48 (by kernel_rfl) ⟨leaf_mk (n := 0) rfl flat_str, trivial⟩).mono ?_
  rintro e w' ⟨v, rfl, h1, h2⟩
  obtain ⟨u, rfl, h3⟩ := outT h1 (fun _ _ _ h => h)
  exact ⟨u, rfl, outF h3 (br (n := 2) rfl) rfl rfl (rfl) (rfl) (rfl), h2⟩
theorem fP_b1 (s t a b : ByteArray) (B : Bool) (M N : Nat) (w : World) (HP : Pieces s t B true a b) (ht : t.size ≤ 4294967280) (ha : ParseIs a M 0) (hb : ParseIs b N 0) (hN : N = 1) :
    Calls Tryz.prog 48 #[.string s] w fun e w' => RetQE w Fq.zero 2 e w' := by
  refine (calls_runFn (ρ := [.val (.string s), .val (.string t), .val (.bool B), .val (.string a), .val (.string b), .dig (nl M) M, .dig (nl 1) 1, .dig (nl N) N, .row 24 1 [.dig (nl N) N]]) (w := w) (fuel := 300) (args := [.one (.ref 0)]) (vs := [.string s]) (r := .tup [.agg [.b false, .sl0, .sl0], .one (.i .i64 2)])
    (il_cons (I_CutPrefix (n := 0) (m := 1) rfl rfl (lrb (n := 2) rfl) HP.sign HP.rest) (il_cons (I_Cut (n := 1) (i := 3) (j := 4) rfl rfl rfl HP ht) (il_cons (I_nParse (i := 3) (k := 5) rfl rfl (li rfl) ha) (il_cons (I_nOf (k := 6) rfl (by decide)) (il_cons (I_nParse (i := 4) (k := 7) rfl rfl (li rfl) hb) (il_cons (I_one (n := 8) rfl (decide_eq_true hN) (Nat.le_trans (parse_nlU hb) (by decide))) il_nil))))))
    (ol_cons (o_bs (m := 8) (ss := [nt 7]) (N := 1) (sz := 1) (z := [.sl0]) (qs := [.dig (nl N) N]) (ix := [0]) (ls := [.ref 7]) Tryz.underlying141 (by kernel_rfl) (by kernel_rfl) (by decide) (by decide) (by decide) rfl (by kernel_rfl) ⟨ql_dig rfl, trivial⟩ rfl) (ol_nil)) (by kernel_rfl) Tryz.func48 (by kernel_rfl) ⟨leaf_mk (n := 0) rfl flat_str, trivial⟩).mono ?_
  rintro e w' ⟨v, rfl, h1, h2⟩
  obtain ⟨u, rfl, h3⟩ := outT h1 (fun _ _ _ h => h)
  exact ⟨u, rfl, outZ h3, h2⟩
theorem fP_b2 (s t a b : ByteArray) (B : Bool) (M N : Nat) (w : World) (HP : Pieces s t B true a b) (ht : t.size ≤ 4294967280) (ha : ParseIs a M 0) (hb : ParseIs b N 0) (hN : ¬ N = 1) (hv : (Fq.mk B M N).valid = false) :
    Calls Tryz.prog 48 #[.string s] w fun e w' => RetQE w Fq.zero 2 e w' := by
  refine (calls_runFn (ρ := [.val (.string s), .val (.string t), .val (.bool B), .val (.string a), .val (.string b), .dig (nl M) M, .dig (nl 1) 1, .dig (nl N) N, .row 24 1 [.dig (nl N) N]]) (w := w) (fuel := 300) (args := [.one (.ref 0)]) (vs := [.string s]) (r := .tup [.agg [.b false, .sl0, .sl0], .one (.i .i64 2)])
    (il_cons (I_CutPrefix (n := 0) (m := 1) rfl rfl (lrb (n := 2) rfl) HP.sign HP.rest) (il_cons (I_Cut (n := 1) (i := 3) (j := 4) rfl rfl rfl HP ht) (il_cons (I_nParse (i := 3) (k := 5) rfl rfl (li rfl) ha) (il_cons (I_nOf (k := 6) rfl (by decide)) (il_cons (I_nParse (i := 4) (k := 7) rfl rfl (li rfl) hb) (il_cons (I_one (n := 8) rfl (decide_eq_false hN) (Nat.le_trans (parse_nlU hb) (by decide))) (il_cons (J_fValid (fat_mk (l := .ref 2) (a := 5) (b := 7) (x := (Fq.mk B M N)) (lrb (n := 2) rfl) (br (n := 2) rfl) rfl rfl) hv (Nat.le_trans (parse_nlU ha) (by decide)) (Nat.le_trans (parse_nlU hb) (by decide))) il_nil)))))))
    (ol_cons (o_bs (m := 8) (ss := [nt 7]) (N := 1) (sz := 1) (z := [.sl0]) (qs := [.dig (nl N) N]) (ix := [0]) (ls := [.ref 7]) Tryz.underlying141 (by kernel_rfl) (by kernel_rfl) (by decide) (by decide) (by decide) rfl (by kernel_rfl) ⟨ql_dig rfl, trivial⟩ rfl) (ol_nil)) (by kernel_rfl) Tryz.func48 (by kernel_rfl) ⟨leaf_mk (n := 0) rfl flat_str, trivial⟩).mono ?_
  rintro e w' ⟨v, rfl, h1, h2⟩
  obtain ⟨u, rfl, h3⟩ := outT h1 (fun _ _ _ h => h)
  exact ⟨u, rfl, outZ h3, h2⟩
theorem fP_g0 (s t a b : ByteArray) (B : Bool) (M : Nat) (w : World) (HP : Pieces s t B false a b) (ht : t.size ≤ 4294967280) (ha : ParseIs a M 0) (hv : (Fq.mk B M 1).valid = true) :
    Calls Tryz.prog 48 #[.string s] w fun e w' => RetQE w ⟨B, M, 1⟩ 0 e w' := by
  refine (calls_runFn (ρ := [.val (.string s), .val (.string t), .val (.bool B), .val (.string a), .val (.string b), .dig (nl M) M, .dig (nl 1) 1]) (w := w) (fuel := 300) (args := [.one (.ref 0)]) (vs := [.string s]) (r := .tup [q3 2 5 6, .one (.i .i64 0)])
    (il_cons (I_CutPrefix (n := 0) (m := 1) rfl rfl (lrb (n := 2) rfl) HP.sign HP.rest) (il_cons (I_Cut (n := 1) (i := 3) (j := 4) rfl rfl rfl HP ht) (il_cons (I_nParse (i := 3) (k := 5) rfl rfl (li rfl) ha) (il_cons (I_nOf (k := 6) rfl (by decide)) (il_cons (J_fValid (fat_mk (l := .ref 2) (a := 5) (b := 6) (x := (Fq.mk B M 1)) (lrb (n := 2) rfl) (br (n := 2) rfl) rfl rfl) hv (Nat.le_trans (parse_nlU ha) (by decide)) (Nat.le_trans nl_one (by decide))) il_nil)))))
    ol_nil (by kernel_rfl) Tryz.func48 (by kernel_rfl) ⟨leaf_mk (n := 0) rfl flat_str, trivial⟩).mono ?_
  rintro e w' ⟨v, rfl, h1, h2⟩
  obtain ⟨u, rfl, h3⟩ := outT h1 (fun _ _ _ h => h)
  exact ⟨u, rfl, outF h3 (br (n := 2) rfl) rfl rfl (rfl) (rfl) (rfl), h2⟩
theorem fP_b0 (s t a b : ByteArray) (B : Bool) (M : Nat) (w : World) (HP : Pieces s t B false a b) (ht : t.size ≤ 4294967280) (ha : ParseIs a M 0) (hv : (Fq.mk B M 1).valid = false) :
    Calls Tryz.prog 48 #[.string s] w fun e w' => RetQE w Fq.zero 2 e w' := by
  refine (calls_runFn (ρ := [.val (.string s), .val (.string t), .val (.bool B), .val (.string a), .val (.string b), .dig (nl M) M, .dig (nl 1) 1]) (w := w) (fuel := 300) (args := [.one (.ref 0)]) (vs := [.string s]) (r := .tup [.agg [.b false, .sl0, .sl0], .one (.i .i64 2)])
    (il_cons (I_CutPrefix (n := 0) (m := 1) rfl rfl (lrb (n := 2) rfl) HP.sign HP.rest) (il_cons (I_Cut (n := 1) (i := 3) (j := 4) rfl rfl rfl HP ht) (il_cons (I_nParse (i := 3) (k := 5) rfl rfl (li rfl) ha) (il_cons (I_nOf (k := 6) rfl (by decide)) (il_cons (J_fValid (fat_mk (l := .ref 2) (a := 5) (b := 6) (x := (Fq.mk B M 1)) (lrb (n := 2) rfl) (br (n := 2) rfl) rfl rfl) hv (Nat.le_trans (parse_nlU ha) (by decide)) (Nat.le_trans nl_one (by decide))) il_nil)))))
    ol_nil (by kernel_rfl) Tryz.func48 (by kernel_rfl) ⟨leaf_mk (n := 0) rfl flat_str, trivial⟩).mono ?_
  rintro e w' ⟨v, rfl, h1, h2⟩
  obtain ⟨u, rfl, h3⟩ := outT h1 (fun _ _ _ h => h)
  exact ⟨u, rfl, outZ h3, h2⟩
theorem q_fParse (s : ByteArray) (x : Fq) (c : Int) (w : World) (h : FP s x c) (hs : s.size ≤ 4294967280) : Calls Tryz.prog 48 #[.string s] w fun e w' => RetQE w x c e w' := by
  cases h with
  | @num t B F a b M c HP ha h0 =>
    have ht := Nat.le_trans (pieces_size HP) hs
    cases F
    · exact fP_num0 s t a b B M c w HP ht ha h0
    · exact fP_num1 s t a b B M c w HP ht ha h0
  | @den t B a b M N c HP ha hb h0 => exact fP_den s t a b B M N c w HP (Nat.le_trans (pieces_size HP) hs) ha hb h0
  | @bad t B F a b M N HP ha hb hv =>
    have ht := Nat.le_trans (pieces_size HP) hs
    cases F with
    | false => exact fP_b0 s t a b B M w HP ht ha (by simpa [parseV] using hv)
    | true =>
      by_cases hN : N = 1
      · exact fP_b1 s t a b B M N w HP ht ha (hb rfl) hN
      · exact fP_b2 s t a b B M N w HP ht ha (hb rfl) hN (by simpa [parseV, hN] using hv)
  | @good t B F a b M N HP ha hb hv =>
    have ht := Nat.le_trans (pieces_size HP) hs
    cases F with
    | false => exact fP_g0 s t a b B M w HP ht ha (by simpa [parseV] using hv)
    | true =>
      have hv' : ¬ N = 1 ∧ (Fq.mk B M N).valid = true := by simpa [parseV] using hv
      exact fP_g1 s t a b B M N w HP ht ha (hb rfl) hv'.1 hv'.2
end Go.Proofs.YthebfmlfgfmlnaaGreatDoor
namespace Go.Proofs.YthebfmlfgfmlnaaGreatDoor
set_option linter.unusedSimpArgs false
set_option linter.unusedVariables false
set_option maxRecDepth 100000
open Go.RowKit
structure IdxIs (t : ByteArray) (F : Bool) (i : Nat) : Prop where
  le : i ≤ t.size
  before : ∀ j, j < i → by' t j ≠ 47
  hit : F = true → i < t.size ∧ by' t i = 47
  miss : F = false → i = t.size
section
variable {ρ : Rho} {n m k : Nat} {s z : ByteArray} {t : TypeId} {u c : Int}
end
end Go.Proofs.YthebfmlfgfmlnaaGreatDoor
namespace Go.Proofs.YthebfmlfgfmlnaaGreatDoor
set_option linter.unusedSimpArgs false
set_option linter.unusedVariables false
set_option maxRecDepth 100000
open Go.RowKit
theorem by_data (s : ByteArray) (i : Nat) : by' s i = (s.data[i]?.map UInt8.toNat).getD 0 := by
  unfold by'
  by_cases h : i < s.size
  · rw [dif_pos h, Array.getElem?_eq_getElem (show i < s.data.size from h)]; rfl
  · rw [dif_neg h, Array.getElem?_eq_none (by have : s.data.size = s.size := rfl; omega)]; rfl
theorem by_ext {s t : ByteArray} (h : s.size = t.size) (hb : ∀ i, i < s.size → by' s i = by' t i) : s = t := by
  have e : s.data = t.data := by
    apply Array.ext h
    intro i h1 h2
    have := hb i h1
    unfold by' at this
    rw [dif_pos (show i < s.size from h1), dif_pos (show i < t.size from h2)] at this
    exact UInt8.toNat_inj.1 this
  cases s; cases t; simp only at e; subst e; rfl
theorem by_app (a b : ByteArray) (i : Nat) : by' (a ++ b) i = if i < a.size then by' a i else by' b (i - a.size) := by
  rw [by_data, by_data, by_data, ByteArray.data_append, Array.getElem?_append]
  have e : a.data.size = a.size := rfl
  rw [e]
  split <;> rfl
theorem by_ex (s : ByteArray) (i j k : Nat) (hj : j ≤ s.size) (hk : k < j - i) : by' (s.extract i j) k = by' s (i + k) := by
  rw [by_data, by_data, ByteArray.data_extract, Array.getElem?_extract]
  have e : s.data.size = s.size := rfl
  rw [e, if_pos (by omega)]
theorem cut_app (a b : ByteArray) (i : Nat) (h : a.size = i) : (a ++ b).extract 0 i = a := by
  subst h
  apply by_ext
  · rw [ByteArray.size_extract, ByteArray.size_append]; omega
  · intro k hk
    rw [ByteArray.size_extract, ByteArray.size_append] at hk
    rw [by_ex _ _ _ _ (by rw [ByteArray.size_append]; omega) (by omega), Nat.zero_add, by_app, if_pos (by omega)]
theorem tail_app (a b : ByteArray) (i : Nat) (h : a.size = i) : (a ++ b).extract i (a ++ b).size = b := by
  subst h
  apply by_ext
  · rw [ByteArray.size_extract, ByteArray.size_append]; omega
  · intro k hk
    rw [ByteArray.size_extract, ByteArray.size_append] at hk
    rw [by_ex _ _ _ _ (Nat.le_refl _) (by rw [ByteArray.size_append]; omega), by_app, if_neg (by omega)]
    congr 1; omega
theorem parse_good {s : ByteArray} {N : Nat} (h : ParseIs s N 0) : 0 < s.size ∧ goodTo s s.size := by
  have h1 : 0 < s.size := by
    rcases Nat.eq_zero_or_pos s.size with h' | h'
    · have := (h.short h').2; omega
    · exact h'
  have h2 : s.size ≤ 400 := by
    rcases Nat.lt_or_ge 400 s.size with h' | h'
    · have := (h.long h').2; omega
    · exact h'
  exact ⟨h1, Classical.byContradiction fun h' => by have := (h.bad h1 h2 h').2; omega⟩
/-- What is written is read. -/
theorem fmt_fp {x : Fq} (hv : x.valid = true) (hp : nl x.p ≤ 12) (hq : nl x.q ≤ 12) : FP x.fmt x 0 := by
  obtain ⟨S, p, q⟩ := x
  have ha := fmt_parses p hp
  have hb := fmt_parses q hq
  obtain ⟨a1, a2⟩ := parse_good ha
  obtain ⟨b1, b2⟩ := parse_good hb
  obtain ⟨t, ht⟩ : ∃ t, t = if q = 1 then fmtB p else fmtB p ++ (({ data := #[47] } : ByteArray) ++ fmtB q) := ⟨_, rfl⟩
  have t0 : 0 < t.size ∧ by' t 0 ≠ 45 := by
    have h0 := a2 0 a1
    rw [ht]
    split
    · exact ⟨a1, by omega⟩
    · rw [ByteArray.size_append, by_app, if_pos a1]; exact ⟨by omega, by omega⟩
  have hs47 : ({ data := #[47] } : ByteArray).size = 1 := rfl
  have hs45 : ({ data := #[45] } : ByteArray).size = 1 := rfl
  obtain ⟨s, hs⟩ : ∃ s, s = if S then ({ data := #[45] } : ByteArray) ++ t else t := ⟨_, rfl⟩
  have hfmt : (Fq.mk S p q).fmt = s := by unfold Fq.fmt; rw [hs, ht]
  rw [hfmt]
  have hP : Pieces s t S (decide (q ≠ 1)) (fmtB p) (if q = 1 then { data := #[] } else fmtB q) := by
    refine ⟨?_, ?_, fun hF => ?_, fun hF => ?_⟩
    · rw [hs]
      cases S with
      | true => rw [if_pos rfl]; apply decide_eq_true; refine ⟨by rw [ByteArray.size_append, hs45]; omega, ?_⟩; rw [by_app, hs45, if_pos (by omega)]; rfl
      | false => rw [if_neg Bool.false_ne_true]; exact decide_eq_false (fun h => t0.2 h.2)
    · rw [hs]
      cases S with
      | true => rw [if_pos rfl, if_pos rfl]; exact (tail_app _ _ 1 hs45).symm
      | false => rw [if_neg Bool.false_ne_true, if_neg Bool.false_ne_true]
    · have hq1 : q ≠ 1 := of_decide_eq_true hF
      rw [if_neg hq1] at ht ⊢
      refine ⟨(fmtB p).size, ⟨?_, ?_, fun j hj => ?_⟩, ?_, ?_⟩
      · rw [ht, ByteArray.size_append, ByteArray.size_append, hs47]; omega
      · rw [ht, by_app, if_neg (by omega), Nat.sub_self, by_app, hs47, if_pos (by omega)]; rfl
      · rw [ht, by_app, if_pos hj]; have := a2 j hj; omega
      · rw [ht]; exact (cut_app _ _ _ rfl).symm
      · rw [ht, ← ByteArray.append_assoc]
        refine (tail_app _ _ _ ?_).symm
        rw [ByteArray.size_append, hs47]
    · have hq1 : q = 1 := Classical.byContradiction fun h => by rw [decide_eq_true h] at hF; cases hF
      rw [if_pos hq1] at ht ⊢
      refine ⟨fun j hj => ?_, ht.symm, rfl⟩
      rw [ht] at hj ⊢
      have := a2 j hj; omega
  by_cases hq1 : q = 1
  · have hF : decide (q ≠ 1) = false := decide_eq_false (fun h => h hq1)
    rw [hF, if_pos hq1] at hP
    subst hq1
    exact FP.good (N := 1) hP ha (fun h => by cases h) hv
  · have hF : decide (q ≠ 1) = true := decide_eq_true hq1
    rw [hF, if_neg hq1] at hP
    exact FP.good hP ha (fun _ => hb) (by show (!decide (q = 1) && (Fq.mk S p q).valid) = true; rw [decide_eq_false hq1, hv]; rfl)
/-- What is read is small. -/
theorem fp_ok {s : ByteArray} {x : Fq} {c : Int} (h : FP s x c) : nl x.p ≤ 400 ∧ nl x.q ≤ 400 ∧ (c = 0 → x.q ≠ 0) := by
  cases h with
  | num h ha h0 => exact ⟨by decide, by decide, fun h => absurd h h0⟩
  | den h ha hb h0 => exact ⟨by decide, by decide, fun h => absurd h h0⟩
  | bad h ha hb hv => exact ⟨by decide, by decide, fun h => (by cases h)⟩
  | good h ha hb hv =>
    rename_i t B F a b M N
    refine ⟨parse_nlU ha, ?_, fun _ => ?_⟩
    · cases F with
      | true => exact parse_nlU (hb rfl)
      | false => exact show nl 1 ≤ 400 by decide
    · cases F with
      | true =>
        have h2 : (!decide (N = 1) && (Fq.mk B M N).valid) = true := hv
        rw [Bool.and_eq_true] at h2
        exact (of_decide_eq_true h2.2).1
      | false => exact Nat.one_ne_zero
end Go.Proofs.YthebfmlfgfmlnaaGreatDoor
namespace Go.Proofs.YthebfmlfgfmlnaaGreatDoor
set_option linter.unusedSimpArgs false
set_option linter.unusedVariables false
set_option maxRecDepth 100000
open Go.RowKit
abbrev b1 (c : UInt8) : ByteArray := { data := #[c] }
/-- The first c stands at i; there is none. -/
def ChAt (c : UInt8) (u : ByteArray) (i : Nat) : Prop := i < u.size ∧ by' u i = c.toNat ∧ ∀ k, k < i → by' u k ≠ c.toNat
def ChNo (c : UInt8) (u : ByteArray) : Prop := ∀ k, k < u.size → by' u k ≠ c.toNat
section
variable {c : UInt8} {u s : ByteArray} {i j a b : Nat}
theorem ch_cases (c : UInt8) (u : ByteArray) : (∃ i, ChAt c u i) ∨ ChNo c u := by
  by_cases h : ∃ i, i < u.size ∧ by' u i = c.toNat
  · refine .inl ?_
    obtain ⟨i, hi⟩ := h
    induction i using Nat.strongRecOn with
    | ind i ih =>
      by_cases h2 : ∃ j, j < i ∧ by' u j = c.toNat
      · obtain ⟨j, h3, h4⟩ := h2; exact ih j h3 ⟨by omega, h4⟩
      · exact ⟨i, hi.1, hi.2, fun j hj he => h2 ⟨j, hj, he⟩⟩
  · exact .inr (fun j hj he => h ⟨j, hj, he⟩)
theorem ch_index (h : ChAt c u i) : Lib.indexB u (b1 c) = (i : Int) := by
  show Lib.index u.data.toList [c] = _
  rw [Lib.index_one]
  exact idx_hit _ i c ((list_at u i h.1 c).2 h.2.1) (fun j hj he => h.2.2 j hj ((list_at u j (by have := h.1; omega) c).1 he))
theorem ch_none (h : ChNo c u) : Lib.indexB u (b1 c) = -1 := by
  show Lib.index u.data.toList [c] = _
  rw [Lib.index_one]
  exact idx_miss _ c (fun j he => by
    have hj : j < u.size := by
      have : j < u.data.toList.length := (List.getElem?_eq_some_iff.1 he).1
      simpa using this
    exact h j hj ((list_at u j hj c).1 he))
theorem ch_count (h : ChAt c u i) : Lib.countB u (b1 c) = 1 + Lib.countB (u.extract (i + 1) u.size) (b1 c) := Lib.countB_hit u (b1 c) i (Nat.le_refl 1) (ch_index h)
theorem ch_count0 (h : ChNo c u) : Lib.countB u (b1 c) = 0 := Lib.countB_miss u (b1 c) (ch_none h)
theorem by_tail (hk : i + j < u.size) : by' (u.extract i u.size) j = by' u (i + j) := by_ex u i u.size j (Nat.le_refl _) (by omega)
theorem sz_ex (hj : j ≤ u.size) : (u.extract i j).size = j - i := by rw [ByteArray.size_extract]; omega
/-- Just two, at a and at b. -/
def Ch2 (c : UInt8) (u : ByteArray) (a b : Nat) : Prop := a < b ∧ b < u.size ∧ by' u a = c.toNat ∧ by' u b = c.toNat ∧ ∀ k, k < u.size → by' u k = c.toNat → k = a ∨ k = b
theorem ex_ex (hj : j ≤ u.size) (hb : b ≤ j - i) : (u.extract i j).extract a b = u.extract (i + a) (i + b) := by
  by_cases hab : a ≤ b
  · refine by_ext ?_ fun k hk => ?_
    · simp only [ByteArray.size_extract]; omega
    · rw [sz_ex (by rw [sz_ex hj]; exact hb)] at hk
      rw [by_ex _ _ _ _ (by rw [sz_ex hj]; exact hb) hk, by_ex _ _ _ _ hj (by omega), by_ex _ _ _ _ (by omega) (by omega), Nat.add_assoc]
  · refine by_ext ?_ fun k hk => ?_
    · simp only [ByteArray.size_extract]; omega
    · rw [sz_ex (by rw [sz_ex hj]; exact hb)] at hk; omega
end
/-- How the text of a vector falls into brackets and three parts. -/
def VCut (s : ByteArray) (i j : Nat) : Prop := 2 ≤ s.size ∧ by' s 0 = 40 ∧ by' s (s.size - 1) = 41 ∧ Ch2 32 s i j
def Vq.zero : Vq := ⟨.zero, .zero, .zero⟩
/-- What a text is read as. -/
inductive VP (s : ByteArray) : Vq → Int → Prop
  | form (h : ∀ i j, ¬ VCut s i j) : VP s .zero 2
  | e0 {i j x c} (h : VCut s i j) (hx : FP (s.extract 1 i) x c) (h0 : c ≠ 0) : VP s .zero c
  | e1 {i j x y c} (h : VCut s i j) (hx : FP (s.extract 1 i) x 0) (hy : FP (s.extract (i + 1) j) y c) (h0 : c ≠ 0) : VP s .zero c
  | e2 {i j x y z c} (h : VCut s i j) (hx : FP (s.extract 1 i) x 0) (hy : FP (s.extract (i + 1) j) y 0) (hz : FP (s.extract (j + 1) (s.size - 1)) z c) (h0 : c ≠ 0) : VP s .zero c
  | good {i j x y z} (h : VCut s i j) (hx : FP (s.extract 1 i) x 0) (hy : FP (s.extract (i + 1) j) y 0) (hz : FP (s.extract (j + 1) (s.size - 1)) z 0) : VP s ⟨x, y, z⟩ 0
end Go.Proofs.YthebfmlfgfmlnaaGreatDoor
namespace Go.Proofs
open Go.Shelf
def Tryz.lays138_ren : Go.Shelf.Ren := ⟨fun | 138 => 144 | 195 => 167 | 218 => 169 | 143 => 145 | 219 => 170 | 217 => 181 | 225 => 182 | 224 => 183 | 267 => 184 | 266 => 186 | 314 => 187 | n => n, fun | 9 => 9 | 3 => 3 | 4 => 4 | 5 => 5 | 0 => 0 | 46 => 145 | 146 => 153 | 51 => 37 | n => n, fun | 1 => 1 | n => n⟩
theorem Tryz.lays138 : Go.Proofs.Lays.n138 Tryz.prog Tryz.lays138_ren := {
  mixed := by kernel_rfl
  f138 := Tryz.func144.trans (congrArg some (by kernel_rfl))
  f143 := Tryz.func145.trans (congrArg some (by kernel_rfl))
  f195 := Tryz.func167.trans (congrArg some (by kernel_rfl))
  f217 := Tryz.func181.trans (congrArg some (by kernel_rfl))
  f218 := Tryz.func169.trans (congrArg some (by kernel_rfl))
  f219 := Tryz.func170.trans (congrArg some (by kernel_rfl))
  f224 := Tryz.func183.trans (congrArg some (by kernel_rfl))
  f225 := Tryz.func182.trans (congrArg some (by kernel_rfl))
  f266 := Tryz.func186.trans (congrArg some (by kernel_rfl))
  f267 := Tryz.func184.trans (congrArg some (by kernel_rfl))
  f314 := Tryz.func187.trans (congrArg some (by kernel_rfl))
  t0 := Tryz.underlying0
  a0 := Tryz.isAgg0
  z0 := Tryz.sizeOf0
  v0 := Tryz.zeroValue0
  t3 := Tryz.underlying3
  a3 := Tryz.isAgg3
  z3 := Tryz.sizeOf3
  v3 := Tryz.zeroValue3
  t4 := Tryz.underlying4
  a4 := Tryz.isAgg4
  z4 := Tryz.sizeOf4
  v4 := Tryz.zeroValue4
  t5 := Tryz.underlying5
  a5 := Tryz.isAgg5
  z5 := Tryz.sizeOf5
  v5 := Tryz.zeroValue5
  t9 := Tryz.underlying9
  a9 := Tryz.isAgg9
  z9 := Tryz.sizeOf9
  v9 := Tryz.zeroValue9
  t46 := Tryz.underlying145
  a46 := Tryz.isAgg145
  z46 := Tryz.sizeOf145
  v46 := Tryz.zeroValue145
  t51 := Tryz.underlying37
  a51 := Tryz.isAgg37
  z51 := Tryz.sizeOf37
  v51 := Tryz.zeroValue37
  t146 := Tryz.underlying153
  a146 := Tryz.isAgg153
  z146 := Tryz.sizeOf153
  v146 := Tryz.zeroValue153
  g1 := by kernel_rfl }
def Tryz.lays146_ren : Go.Shelf.Ren := ⟨fun | 146 => 47 | 221 => 94 | 268 => 143 | 138 => 144 | 143 => 145 | 195 => 167 | 197 => 168 | 218 => 169 | 219 => 170 | 260 => 180 | 217 => 181 | 225 => 182 | 224 => 183 | 267 => 184 | 266 => 186 | 314 => 187 | n => n, fun | 9 => 9 | 31 => 64 | 3 => 3 | 4 => 4 | 0 => 0 | 105 => 160 | 21 => 21 | 5 => 5 | 46 => 145 | 119 => 170 | 139 => 173 | 138 => 172 | 146 => 153 | 51 => 37 | n => n, fun | 1 => 1 | 3 => 2 | 4 => 3 | n => n⟩
theorem Tryz.lays146 : Go.Proofs.Lays.n146 Tryz.prog Tryz.lays146_ren := {
  mixed := by kernel_rfl
  f138 := Tryz.func144.trans (congrArg some (by kernel_rfl))
  f143 := Tryz.func145.trans (congrArg some (by kernel_rfl))
  f146 := Tryz.func47.trans (congrArg some (by kernel_rfl))
  f195 := Tryz.func167.trans (congrArg some (by kernel_rfl))
  f197 := Tryz.func168.trans (congrArg some (by kernel_rfl))
  f217 := Tryz.func181.trans (congrArg some (by kernel_rfl))
  f218 := Tryz.func169.trans (congrArg some (by kernel_rfl))
  f219 := Tryz.func170.trans (congrArg some (by kernel_rfl))
  f221 := Tryz.func94.trans (congrArg some (by kernel_rfl))
  f224 := Tryz.func183.trans (congrArg some (by kernel_rfl))
  f225 := Tryz.func182.trans (congrArg some (by kernel_rfl))
  f260 := Tryz.func180.trans (congrArg some (by kernel_rfl))
  f266 := Tryz.func186.trans (congrArg some (by kernel_rfl))
  f267 := Tryz.func184.trans (congrArg some (by kernel_rfl))
  f268 := Tryz.func143.trans (congrArg some (by kernel_rfl))
  f314 := Tryz.func187.trans (congrArg some (by kernel_rfl))
  t0 := Tryz.underlying0
  a0 := Tryz.isAgg0
  z0 := Tryz.sizeOf0
  v0 := Tryz.zeroValue0
  t3 := Tryz.underlying3
  a3 := Tryz.isAgg3
  z3 := Tryz.sizeOf3
  v3 := Tryz.zeroValue3
  t4 := Tryz.underlying4
  a4 := Tryz.isAgg4
  z4 := Tryz.sizeOf4
  v4 := Tryz.zeroValue4
  t5 := Tryz.underlying5
  a5 := Tryz.isAgg5
  z5 := Tryz.sizeOf5
  v5 := Tryz.zeroValue5
  t9 := Tryz.underlying9
  a9 := Tryz.isAgg9
  z9 := Tryz.sizeOf9
  v9 := Tryz.zeroValue9
  t21 := Tryz.underlying21
  a21 := Tryz.isAgg21
  z21 := Tryz.sizeOf21
  v21 := Tryz.zeroValue21
  t31 := Tryz.underlying64
  a31 := Tryz.isAgg64
  z31 := Tryz.sizeOf64
  v31 := Tryz.zeroValue64
  t46 := Tryz.underlying145
  a46 := Tryz.isAgg145
  z46 := Tryz.sizeOf145
  v46 := Tryz.zeroValue145
  t51 := Tryz.underlying37
  a51 := Tryz.isAgg37
  z51 := Tryz.sizeOf37
  v51 := Tryz.zeroValue37
  t105 := Tryz.underlying160
  a105 := Tryz.isAgg160
  z105 := Tryz.sizeOf160
  v105 := Tryz.zeroValue160
  t119 := Tryz.underlying170
  a119 := Tryz.isAgg170
  z119 := Tryz.sizeOf170
  t138 := Tryz.underlying172
  a138 := Tryz.isAgg172
  z138 := Tryz.sizeOf172
  v138 := Tryz.zeroValue172
  t139 := Tryz.underlying173
  a139 := Tryz.isAgg173
  z139 := Tryz.sizeOf173
  v139 := Tryz.zeroValue173
  t146 := Tryz.underlying153
  a146 := Tryz.isAgg153
  z146 := Tryz.sizeOf153
  v146 := Tryz.zeroValue153
  g1 := by kernel_rfl
  g3 := by kernel_rfl
  g4 := by kernel_rfl }
end Go.Proofs
namespace Go.Proofs.YthebfmlfgfmlnaaGreatDoor
set_option linter.unusedSimpArgs false
set_option linter.unusedVariables false
set_option maxRecDepth 100000
open Go.RowKit
theorem c_Split1 (s : ByteArray) (c : UInt8) (w : World) (hs : s.size < 4294967281) : Calls Tryz.prog 47 #[.string s, .string (b1 c)] w fun e w' =>
    e = .returned (.slice (some ⟨w.heap.size, 0, none⟩) (Lib.countB s (b1 c) + 1) (Lib.countB s (b1 c) + 1)) ∧ w' = w.alloc (.cells ((Lib.splitB (b1 c) 0 (Lib.countB s (b1 c)) s).map Value.string).toArray strT) :=
  Any.strings_Split_one Tryz.lays146 (by kernel_rfl) s c w hs
section
variable {xs : List Fq} {ys : Rho} {n m k i : Nat} {x : Fq} {s : ByteArray} {c : UInt8} {l : Leaf} {e : Int} {ss : List ByteArray}
theorem I_Split (hn : (frs xs ++ ys)[n]? = some (.val (.string s))) (hm : (frs xs ++ ys)[m]? = some (.strs ss)) (hl : Lib.splitB (b1 c) 0 (Lib.countB s (b1 c)) s = ss) (hs : s.size < 4294967281) : OkI xs ys ⟨47, [.one (.ref n), .one (.s (b1 c))], .v (.one (.ref m))⟩ :=
  ⟨enters Tryz.func47 rfl rfl, fun B w vs hB h => by
    match vs, h with
    | [va, vb], h =>
      have e1 := leaf_val (B := B) hn h.1
      have e2 : vb = .string (b1 c) := h.2.1
      subst e1; subst e2
      refine (c_Split1 s c w hs).mono ?_
      rintro e w' ⟨rfl, rfl⟩
      have hlen := Lib.splitB_all (b1 c) (Nat.le_refl 1) 0 _ s rfl
      rw [hl] at hlen
      rw [hl]
      refine ⟨_, rfl, ⟨_, hm, .inr ⟨w.heap.size, 0, ss.length, _, by rw [hlen], Nat.le_refl _, heap_alloc_new w _, fun j q hj => ?_⟩, fun g ⟨o', n', c', e'⟩ x hx => ?_⟩, bel1 w _⟩
      · rw [List.getElem?_map] at hj
        obtain ⟨z, hz, e1⟩ := Option.map_eq_some_iff.1 hj
        subst e1
        exact ⟨.string z, by simp [hz], ⟨rfl, flat_str⟩, fun _ h => h⟩
      · injection e' with e1; injection e1 with e1; injection e1 with e1 _ _; subst e1
        have := hB x _ hx; omega⟩
theorem instP {f : FuncId} (hen : Ent' f) (hc : ∀ w, Calls Tryz.prog f #[.string s] w (fun a w' => RetQE w x e a w')) (hn : (frs xs ++ ys)[n]? = some (.val (.string s))) (hk : xs[k]? = some x) (hl : ∀ B w, l.holds (frs xs ++ ys) B w (.int .i64 e)) : OkI xs ys ⟨f, [.one (.ref n)], .tup [fr k, .one l]⟩ :=
  ⟨hen, fun B w vs hB h => by
    match vs, h with
    | [va], h =>
      have e1 := leaf_val (B := B) hn h.1
      subst e1
      refine (hc w).mono ?_
      rintro a w' ⟨v, rfl, h1, h2⟩
      exact ⟨_, rfl, ⟨[v, .int .i64 e], rfl, (fr_isQ hk).2 h1, hl B w', trivial⟩, h2⟩⟩
theorem I_fParse (hn : (frs xs ++ ys)[n]? = some (.val (.string s))) (hk : xs[k]? = some x) (hl : ∀ B w, l.holds (frs xs ++ ys) B w (.int .i64 e)) (h : FP s x e) (hs : s.size ≤ 4294967280) : OkI xs ys ⟨48, [.one (.ref n)], .tup [fr k, .one l]⟩ :=
  instP (enters Tryz.func48 rfl rfl) (fun w => q_fParse s x e w h hs) hn hk hl
theorem I_fFormat (hi : xs[i]? = some x) (hl : ∀ B w, l.holds (frs xs ++ ys) B w (.string x.fmt)) (ox : x.ok 1000000000) : OkI xs ys ⟨45, [fr i], .v (.one l)⟩ :=
  inst1V (enters Tryz.func45 rfl rfl) (fun va w h1 => q_fFormat va x w h1 ox) hi hl
theorem I_rFormat (hi : xs[i]? = some x) (hl : ∀ B w, l.holds (frs xs ++ ys) B w (.string x.fmt)) (ox : x.ok 1000000000) : OkI xs ys ⟨49, [fr i], .v (.one l)⟩ :=
  inst1V (enters Tryz.func49 rfl rfl) (fun va w h1 => q_rFormat va x w h1 ox) hi hl
end
end Go.Proofs.YthebfmlfgfmlnaaGreatDoor
namespace Go.Proofs
open Go.Shelf
def Tryz.laysJoin_ren : Go.Shelf.Ren := ⟨fun | 156 => 46 | 165 => 91 | 166 => 92 | 169 => 93 | 240 => 141 | 241 => 142 | 276 => 165 | 277 => 166 | n => n, fun | 31 => 64 | 9 => 9 | 3 => 3 | 4 => 4 | 0 => 0 | 20 => 20 | 72 => 104 | 76 => 108 | 70 => 101 | 37 => 102 | 75 => 107 | 127 => 142 | 164 => 156 | 5 => 5 | 80 => 110 | n => n, fun | n => n⟩
theorem Tryz.laysJoin : Go.Proofs.Lays.n156 Tryz.prog Tryz.laysJoin_ren := {
  mixed := by kernel_rfl
  f156 := Tryz.func46.trans (congrArg some (by kernel_rfl))
  f165 := Tryz.func91.trans (congrArg some (by kernel_rfl))
  f166 := Tryz.func92.trans (congrArg some (by kernel_rfl))
  f169 := Tryz.func93.trans (congrArg some (by kernel_rfl))
  f240 := Tryz.func141.trans (congrArg some (by kernel_rfl))
  f241 := Tryz.func142.trans (congrArg some (by kernel_rfl))
  f276 := Tryz.func165.trans (congrArg some (by kernel_rfl))
  f277 := Tryz.func166.trans (congrArg some (by kernel_rfl))
  t0 := Tryz.underlying0
  a0 := Tryz.isAgg0
  z0 := Tryz.sizeOf0
  v0 := Tryz.zeroValue0
  t3 := Tryz.underlying3
  a3 := Tryz.isAgg3
  z3 := Tryz.sizeOf3
  v3 := Tryz.zeroValue3
  t4 := Tryz.underlying4
  a4 := Tryz.isAgg4
  z4 := Tryz.sizeOf4
  v4 := Tryz.zeroValue4
  t9 := Tryz.underlying9
  a9 := Tryz.isAgg9
  z9 := Tryz.sizeOf9
  v9 := Tryz.zeroValue9
  t20 := Tryz.underlying20
  a20 := Tryz.isAgg20
  z20 := Tryz.sizeOf20
  v20 := Tryz.zeroValue20
  t31 := Tryz.underlying64
  a31 := Tryz.isAgg64
  z31 := Tryz.sizeOf64
  v31 := Tryz.zeroValue64
  t37 := Tryz.underlying102
  a37 := Tryz.isAgg102
  z37 := Tryz.sizeOf102
  v37 := Tryz.zeroValue102
  t70 := Tryz.underlying101
  a70 := Tryz.isAgg101
  z70 := Tryz.sizeOf101
  v70 := Tryz.zeroValue101
  t72 := Tryz.underlying104
  a72 := Tryz.isAgg104
  z72 := Tryz.sizeOf104
  v72 := Tryz.zeroValue104
  t75 := Tryz.underlying107
  a75 := Tryz.isAgg107
  z75 := Tryz.sizeOf107
  v75 := Tryz.zeroValue107
  t76 := Tryz.underlying108
  a76 := Tryz.isAgg108
  z76 := Tryz.sizeOf108
  v76 := Tryz.zeroValue108
  t127 := Tryz.underlying142
  a127 := Tryz.isAgg142
  z127 := Tryz.sizeOf142
  v127 := Tryz.zeroValue142
  t164 := Tryz.underlying156
  a164 := Tryz.isAgg156
  z164 := Tryz.sizeOf156
  v164 := Tryz.zeroValue156 }
theorem Tryz.joinX : Builder.Extra Tryz.prog Tryz.laysJoin_ren where
  sizeBuilder := by kernel_rfl
  liesBuilder := by kernel_rfl
  t5 := Tryz.underlying5
  a5 := Tryz.isAgg5
  z5 := Tryz.sizeOf5
  v5 := Tryz.zeroValue5
  infoByte := by kernel_rfl
  cellsByte := by kernel_rfl
  sizeByte := by kernel_rfl
  neB5 := by decide
end Go.Proofs
namespace Go.Proofs.YthebfmlfgfmlnaaGreatDoor
set_option linter.unusedSimpArgs false
set_option linter.unusedVariables false
set_option maxRecDepth 100000
open Go.RowKit
abbrev IsVq (w : World) (v : Value) (a : Vq) : Prop := IsL w v [a.x.raw, a.y.raw, a.z.raw]
abbrev RetL (W : World) (l : List Rq) (e : Ending) (w' : World) : Prop := ∃ v, e = .returned v ∧ IsL w' v l ∧ Below W.heap.size W w'
abbrev RetVq (W : World) (a : Vq) (e : Ending) (w' : World) : Prop := RetL W [a.x.raw, a.y.raw, a.z.raw] e w'
abbrev IsQt (w : World) (v : Value) (q : Qq) : Prop := IsL w v [q.w.raw, q.x.raw, q.y.raw, q.z.raw]
abbrev RetQt (W : World) (q : Qq) (e : Ending) (w' : World) : Prop := RetL W [q.w.raw, q.x.raw, q.y.raw, q.z.raw] e w'
def RetLE (W : World) (l : List Rq) (c : Int) (e : Ending) (w' : World) : Prop := ∃ v, e = .returned (.tuple #[v, .int .i64 c]) ∧ IsL w' v l ∧ Below W.heap.size W w'
abbrev RetQtE (W : World) (q : Qq) (c : Int) (e : Ending) (w' : World) : Prop := RetLE W [q.w.raw, q.x.raw, q.y.raw, q.z.raw] c e w'
theorem ok_int {u : Int} (lu : -9223372036854775808 ≤ u) (ru : u < 9223372036854775808) : (Fq.ofInt u).ok 2 := ⟨nl_abs lu ru, nl_le_iff.2 (by show (1 : Nat) < 4294967296 ^ 2; decide), by show (1 : Nat) ≠ 0; decide⟩
def xtimesX (x y : Fq) : List Fq := [x, y, (x.mul y)]
theorem q_times (vp : Value) (x y : Fq) (w : World) (ip : IsL w vp [x.raw, y.raw]) (hx : x.ok 1000000000) (hy : y.ok 1000000000) :
    Calls Tryz.prog 107 #[vp] w fun e w' => RetQ w (x.mul y) e w' := by
  refine (calls_runFn (ρ := frs (xtimesX x y) ++ []) (w := w) (fuel := 300) (args := [row [0, 1]]) (vs := [vp]) (r := .v (fr 2))
    (il_cons (I_fMul (i := 0) (j := 1) (k := 2) rfl rfl rfl (hx.mono (by decide)) (hy.mono (by decide))) il_nil)
    ol_nil (by kernel_rfl) Tryz.func107 (by kernel_rfl) ⟨(row_isL (xs := xtimesX x y) (ks := [0, 1]) (vs := [x, y]) ⟨rfl, rfl, trivial⟩).2 ip, trivial⟩).mono ?_
  rintro e w' ⟨v, rfl, h1, h2⟩
  exact ⟨v, rfl, (fr_isQ (xs := xtimesX x y) (k := 2) rfl).1 h1, h2⟩
theorem I_times {xs : List Fq} {ys : Rho} {ks : List Nat} {k : Nat} {x y : Fq} (hi : AtL xs ks [x, y]) (hk : xs[k]? = some (x.mul y)) (hx : x.ok 1000000000) (hy : y.ok 1000000000) : OkI xs ys ⟨107, [row ks], .v (fr k)⟩ :=
  ⟨enters Tryz.func107 rfl rfl, fun B w vs hB h => by
    match vs, h with
    | [va], h =>
      refine (q_times va x y w ((row_isL hi).1 h.1) hx hy).mono ?_
      rintro e w' ⟨v, rfl, h1, h2⟩
      exact ⟨v, rfl, (fr_isQ hk).2 h1, h2⟩⟩
def xlessX (x y : Fq) : List Fq := [x, y, (x.sub y)]
theorem q_less (vp : Value) (x y : Fq) (w : World) (ip : IsL w vp [x.raw, y.raw]) (hx : x.ok 1000000000) (hy : y.ok 1000000000) :
    Calls Tryz.prog 157 #[vp] w fun e w' => RetQ w (x.sub y) e w' := by
  refine (calls_runFn (ρ := frs (xlessX x y) ++ []) (w := w) (fuel := 300) (args := [row [0, 1]]) (vs := [vp]) (r := .v (fr 2))
    (il_cons (I_fSub (i := 0) (j := 1) (k := 2) rfl rfl rfl (hx.mono (by decide)) (hy.mono (by decide))) il_nil)
    ol_nil (by kernel_rfl) Tryz.func157 (by kernel_rfl) ⟨(row_isL (xs := xlessX x y) (ks := [0, 1]) (vs := [x, y]) ⟨rfl, rfl, trivial⟩).2 ip, trivial⟩).mono ?_
  rintro e w' ⟨v, rfl, h1, h2⟩
  exact ⟨v, rfl, (fr_isQ (xs := xlessX x y) (k := 2) rfl).1 h1, h2⟩
theorem I_less {xs : List Fq} {ys : Rho} {ks : List Nat} {k : Nat} {x y : Fq} (hi : AtL xs ks [x, y]) (hk : xs[k]? = some (x.sub y)) (hx : x.ok 1000000000) (hy : y.ok 1000000000) : OkI xs ys ⟨157, [row ks], .v (fr k)⟩ :=
  ⟨enters Tryz.func157 rfl rfl, fun B w vs hB h => by
    match vs, h with
    | [va], h =>
      refine (q_less va x y w ((row_isL hi).1 h.1) hx hy).mono ?_
      rintro e w' ⟨v, rfl, h1, h2⟩
      exact ⟨v, rfl, (fr_isQ hk).2 h1, h2⟩⟩
def xeachAddX (a : Vq) (b : Vq) : List Fq := [a.x, a.y, a.z, b.x, b.y, b.z, (a.x.add b.x), (a.y.add b.y), (a.z.add b.z)]
theorem q_eachAdd (va vb : Value) (a : Vq) (b : Vq) (w : World) (ia : IsVq w va a) (ib : IsVq w vb b) (ha : a.ok 100000000) (hb : b.ok 100000000) :
    Calls Tryz.prog 105 #[va, vb, fnV 108] w fun e w' => RetVq w (a.add b) e w' := by
  refine (calls_runFn (ρ := frs (xeachAddX a b) ++ []) (w := w) (fuel := 300) (args := [row [0, 1, 2], row [3, 4, 5], .one (.fn 108)]) (vs := [va, vb, fnV 108]) (r := .v (row [6, 7, 8]))
    (il_cons (I_fAdd (i := 0) (j := 3) (k := 6) rfl rfl rfl (ha.x.mono (by decide)) (hb.x.mono (by decide))) (il_cons (I_fAdd (i := 1) (j := 4) (k := 7) rfl rfl rfl (ha.y.mono (by decide)) (hb.y.mono (by decide))) (il_cons (I_fAdd (i := 2) (j := 5) (k := 8) rfl rfl rfl (ha.z.mono (by decide)) (hb.z.mono (by decide))) il_nil)))
    ol_nil (by kernel_rfl) Tryz.func105 (by kernel_rfl) ⟨(row_isL (xs := xeachAddX a b) (ks := [0, 1, 2]) (vs := [a.x, a.y, a.z]) ⟨rfl, rfl, rfl, trivial⟩).2 ia, ⟨(row_isL (xs := xeachAddX a b) (ks := [3, 4, 5]) (vs := [b.x, b.y, b.z]) ⟨rfl, rfl, rfl, trivial⟩).2 ib, ⟨rfl, trivial⟩⟩⟩).mono ?_
  rintro e w' ⟨v, rfl, h1, h2⟩
  exact ⟨v, rfl, (row_isL (xs := xeachAddX a b) (ks := [6, 7, 8]) (vs := [(a.x.add b.x), (a.y.add b.y), (a.z.add b.z)]) ⟨rfl, rfl, rfl, trivial⟩).1 h1, h2⟩
theorem I_eachAdd {xs : List Fq} {ys : Rho} {ka : List Nat} {kb : List Nat} {a : Vq} {b : Vq} {kr : List Nat} (aa : AtL xs ka [a.x, a.y, a.z]) (ab : AtL xs kb [b.x, b.y, b.z]) (ar : AtL xs kr [(a.add b).x, (a.add b).y, (a.add b).z]) (ha : a.ok 100000000) (hb : b.ok 100000000) : OkI xs ys ⟨105, [row ka, row kb, .one (.fn 108)], .v (row kr)⟩ :=
  ⟨enters Tryz.func105 rfl rfl, fun B w vs hB h => by
    match vs, h with
    | [va, vb, vf], h =>
      have ef : vf = fnV 108 := h.2.2.1
      subst ef
      refine (q_eachAdd va vb a b w ((row_isL aa).1 h.1) ((row_isL ab).1 h.2.1) ha hb).mono ?_
      rintro e w' ⟨v, rfl, h1, h2⟩
      exact ⟨v, rfl, (row_isL ar).2 h1, h2⟩⟩
def xeachSubX (a : Vq) (b : Vq) : List Fq := [a.x, a.y, a.z, b.x, b.y, b.z, (a.x.sub b.x), (a.y.sub b.y), (a.z.sub b.z)]
theorem q_eachSub (va vb : Value) (a : Vq) (b : Vq) (w : World) (ia : IsVq w va a) (ib : IsVq w vb b) (ha : a.ok 100000000) (hb : b.ok 100000000) :
    Calls Tryz.prog 105 #[va, vb, fnV 106] w fun e w' => RetVq w (a.sub b) e w' := by
  refine (calls_runFn (ρ := frs (xeachSubX a b) ++ []) (w := w) (fuel := 300) (args := [row [0, 1, 2], row [3, 4, 5], .one (.fn 106)]) (vs := [va, vb, fnV 106]) (r := .v (row [6, 7, 8]))
    (il_cons (I_fSub (i := 0) (j := 3) (k := 6) rfl rfl rfl (ha.x.mono (by decide)) (hb.x.mono (by decide))) (il_cons (I_fSub (i := 1) (j := 4) (k := 7) rfl rfl rfl (ha.y.mono (by decide)) (hb.y.mono (by decide))) (il_cons (I_fSub (i := 2) (j := 5) (k := 8) rfl rfl rfl (ha.z.mono (by decide)) (hb.z.mono (by decide))) il_nil)))
    ol_nil (by kernel_rfl) Tryz.func105 (by kernel_rfl) ⟨(row_isL (xs := xeachSubX a b) (ks := [0, 1, 2]) (vs := [a.x, a.y, a.z]) ⟨rfl, rfl, rfl, trivial⟩).2 ia, ⟨(row_isL (xs := xeachSubX a b) (ks := [3, 4, 5]) (vs := [b.x, b.y, b.z]) ⟨rfl, rfl, rfl, trivial⟩).2 ib, ⟨rfl, trivial⟩⟩⟩).mono ?_
  rintro e w' ⟨v, rfl, h1, h2⟩
  exact ⟨v, rfl, (row_isL (xs := xeachSubX a b) (ks := [6, 7, 8]) (vs := [(a.x.sub b.x), (a.y.sub b.y), (a.z.sub b.z)]) ⟨rfl, rfl, rfl, trivial⟩).1 h1, h2⟩
theorem I_eachSub {xs : List Fq} {ys : Rho} {ka : List Nat} {kb : List Nat} {a : Vq} {b : Vq} {kr : List Nat} (aa : AtL xs ka [a.x, a.y, a.z]) (ab : AtL xs kb [b.x, b.y, b.z]) (ar : AtL xs kr [(a.sub b).x, (a.sub b).y, (a.sub b).z]) (ha : a.ok 100000000) (hb : b.ok 100000000) : OkI xs ys ⟨105, [row ka, row kb, .one (.fn 106)], .v (row kr)⟩ :=
  ⟨enters Tryz.func105 rfl rfl, fun B w vs hB h => by
    match vs, h with
    | [va, vb, vf], h =>
      have ef : vf = fnV 106 := h.2.2.1
      subst ef
      refine (q_eachSub va vb a b w ((row_isL aa).1 h.1) ((row_isL ab).1 h.2.1) ha hb).mono ?_
      rintro e w' ⟨v, rfl, h1, h2⟩
      exact ⟨v, rfl, (row_isL ar).2 h1, h2⟩⟩
/-- Products of the coordinates. -/
def Vq.times (a b : Vq) : Vq := ⟨a.x.mul b.x, a.y.mul b.y, a.z.mul b.z⟩
theorem Vq.ok.times {a b : Vq} {d e : Nat} (h : a.ok d) (k : b.ok e) : (a.times b).ok (d + e) := ⟨h.x.mul k.x, h.y.mul k.y, h.z.mul k.z⟩
def xeachMulX (a : Vq) (b : Vq) : List Fq := [a.x, a.y, a.z, b.x, b.y, b.z, (a.x.mul b.x), (a.y.mul b.y), (a.z.mul b.z)]
theorem q_eachMul (va vb : Value) (a : Vq) (b : Vq) (w : World) (ia : IsVq w va a) (ib : IsVq w vb b) (ha : a.ok 100000000) (hb : b.ok 100000000) :
    Calls Tryz.prog 105 #[va, vb, fnV 115] w fun e w' => RetVq w (a.times b) e w' := by
  refine (calls_runFn (ρ := frs (xeachMulX a b) ++ []) (w := w) (fuel := 300) (args := [row [0, 1, 2], row [3, 4, 5], .one (.fn 115)]) (vs := [va, vb, fnV 115]) (r := .v (row [6, 7, 8]))
    (il_cons (I_fMul (i := 0) (j := 3) (k := 6) rfl rfl rfl (ha.x.mono (by decide)) (hb.x.mono (by decide))) (il_cons (I_fMul (i := 1) (j := 4) (k := 7) rfl rfl rfl (ha.y.mono (by decide)) (hb.y.mono (by decide))) (il_cons (I_fMul (i := 2) (j := 5) (k := 8) rfl rfl rfl (ha.z.mono (by decide)) (hb.z.mono (by decide))) il_nil)))
    ol_nil (by kernel_rfl) Tryz.func105 (by kernel_rfl) ⟨(row_isL (xs := xeachMulX a b) (ks := [0, 1, 2]) (vs := [a.x, a.y, a.z]) ⟨rfl, rfl, rfl, trivial⟩).2 ia, ⟨(row_isL (xs := xeachMulX a b) (ks := [3, 4, 5]) (vs := [b.x, b.y, b.z]) ⟨rfl, rfl, rfl, trivial⟩).2 ib, ⟨rfl, trivial⟩⟩⟩).mono ?_
  rintro e w' ⟨v, rfl, h1, h2⟩
  exact ⟨v, rfl, (row_isL (xs := xeachMulX a b) (ks := [6, 7, 8]) (vs := [(a.x.mul b.x), (a.y.mul b.y), (a.z.mul b.z)]) ⟨rfl, rfl, rfl, trivial⟩).1 h1, h2⟩
theorem I_eachMul {xs : List Fq} {ys : Rho} {ka : List Nat} {kb : List Nat} {a : Vq} {b : Vq} {kr : List Nat} (aa : AtL xs ka [a.x, a.y, a.z]) (ab : AtL xs kb [b.x, b.y, b.z]) (ar : AtL xs kr [(a.times b).x, (a.times b).y, (a.times b).z]) (ha : a.ok 100000000) (hb : b.ok 100000000) : OkI xs ys ⟨105, [row ka, row kb, .one (.fn 115)], .v (row kr)⟩ :=
  ⟨enters Tryz.func105 rfl rfl, fun B w vs hB h => by
    match vs, h with
    | [va, vb, vf], h =>
      have ef : vf = fnV 115 := h.2.2.1
      subst ef
      refine (q_eachMul va vb a b w ((row_isL aa).1 h.1) ((row_isL ab).1 h.2.1) ha hb).mono ?_
      rintro e w' ⟨v, rfl, h1, h2⟩
      exact ⟨v, rfl, (row_isL ar).2 h1, h2⟩⟩
def xvAddX (a : Vq) (b : Vq) : List Fq := [a.x, a.y, a.z, b.x, b.y, b.z, (a.add b).x, (a.add b).y, (a.add b).z]
theorem q_vAdd (va vb : Value) (a : Vq) (b : Vq) (w : World) (ia : IsVq w va a) (ib : IsVq w vb b) (ha : a.ok 100000000) (hb : b.ok 100000000) :
    Calls Tryz.prog 116 #[va, vb] w fun e w' => RetVq w (a.add b) e w' := by
  refine (calls_runFn (ρ := frs (xvAddX a b) ++ []) (w := w) (fuel := 300) (args := [row [0, 1, 2], row [3, 4, 5]]) (vs := [va, vb]) (r := .v (row [6, 7, 8]))
    (il_cons (I_eachAdd (ka := [0, 1, 2]) (a := a) (kb := [3, 4, 5]) (b := b) (kr := [6, 7, 8]) ⟨rfl, rfl, rfl, trivial⟩ ⟨rfl, rfl, rfl, trivial⟩ ⟨rfl, rfl, rfl, trivial⟩ (ha.mono (by decide)) (hb.mono (by decide))) il_nil)
    ol_nil (by kernel_rfl) Tryz.func116 (by kernel_rfl) ⟨(row_isL (xs := xvAddX a b) (ks := [0, 1, 2]) (vs := [a.x, a.y, a.z]) ⟨rfl, rfl, rfl, trivial⟩).2 ia, ⟨(row_isL (xs := xvAddX a b) (ks := [3, 4, 5]) (vs := [b.x, b.y, b.z]) ⟨rfl, rfl, rfl, trivial⟩).2 ib, trivial⟩⟩).mono ?_
  rintro e w' ⟨v, rfl, h1, h2⟩
  exact ⟨v, rfl, (row_isL (xs := xvAddX a b) (ks := [6, 7, 8]) (vs := [(a.add b).x, (a.add b).y, (a.add b).z]) ⟨rfl, rfl, rfl, trivial⟩).1 h1, h2⟩
theorem I_vAdd {xs : List Fq} {ys : Rho} {ka : List Nat} {kb : List Nat} {a : Vq} {b : Vq} {kr : List Nat} (aa : AtL xs ka [a.x, a.y, a.z]) (ab : AtL xs kb [b.x, b.y, b.z]) (ar : AtL xs kr [(a.add b).x, (a.add b).y, (a.add b).z]) (ha : a.ok 100000000) (hb : b.ok 100000000) : OkI xs ys ⟨116, [row ka, row kb], .v (row kr)⟩ :=
  ⟨enters Tryz.func116 rfl rfl, fun B w vs hB h => by
    match vs, h with
    | [va, vb], h =>
      refine (q_vAdd va vb a b w ((row_isL aa).1 h.1) ((row_isL ab).1 h.2.1) ha hb).mono ?_
      rintro e w' ⟨v, rfl, h1, h2⟩
      exact ⟨v, rfl, (row_isL ar).2 h1, h2⟩⟩
def xvSubX (a : Vq) (b : Vq) : List Fq := [a.x, a.y, a.z, b.x, b.y, b.z, (a.sub b).x, (a.sub b).y, (a.sub b).z]
theorem q_vSub (va vb : Value) (a : Vq) (b : Vq) (w : World) (ia : IsVq w va a) (ib : IsVq w vb b) (ha : a.ok 100000000) (hb : b.ok 100000000) :
    Calls Tryz.prog 55 #[va, vb] w fun e w' => RetVq w (a.sub b) e w' := by
  refine (calls_runFn (ρ := frs (xvSubX a b) ++ []) (w := w) (fuel := 300) (args := [row [0, 1, 2], row [3, 4, 5]]) (vs := [va, vb]) (r := .v (row [6, 7, 8]))
    (il_cons (I_eachSub (ka := [0, 1, 2]) (a := a) (kb := [3, 4, 5]) (b := b) (kr := [6, 7, 8]) ⟨rfl, rfl, rfl, trivial⟩ ⟨rfl, rfl, rfl, trivial⟩ ⟨rfl, rfl, rfl, trivial⟩ (ha.mono (by decide)) (hb.mono (by decide))) il_nil)
    ol_nil (by kernel_rfl) Tryz.func55 (by kernel_rfl) ⟨(row_isL (xs := xvSubX a b) (ks := [0, 1, 2]) (vs := [a.x, a.y, a.z]) ⟨rfl, rfl, rfl, trivial⟩).2 ia, ⟨(row_isL (xs := xvSubX a b) (ks := [3, 4, 5]) (vs := [b.x, b.y, b.z]) ⟨rfl, rfl, rfl, trivial⟩).2 ib, trivial⟩⟩).mono ?_
  rintro e w' ⟨v, rfl, h1, h2⟩
  exact ⟨v, rfl, (row_isL (xs := xvSubX a b) (ks := [6, 7, 8]) (vs := [(a.sub b).x, (a.sub b).y, (a.sub b).z]) ⟨rfl, rfl, rfl, trivial⟩).1 h1, h2⟩
theorem I_vSub {xs : List Fq} {ys : Rho} {ka : List Nat} {kb : List Nat} {a : Vq} {b : Vq} {kr : List Nat} (aa : AtL xs ka [a.x, a.y, a.z]) (ab : AtL xs kb [b.x, b.y, b.z]) (ar : AtL xs kr [(a.sub b).x, (a.sub b).y, (a.sub b).z]) (ha : a.ok 100000000) (hb : b.ok 100000000) : OkI xs ys ⟨55, [row ka, row kb], .v (row kr)⟩ :=
  ⟨enters Tryz.func55 rfl rfl, fun B w vs hB h => by
    match vs, h with
    | [va, vb], h =>
      refine (q_vSub va vb a b w ((row_isL aa).1 h.1) ((row_isL ab).1 h.2.1) ha hb).mono ?_
      rintro e w' ⟨v, rfl, h1, h2⟩
      exact ⟨v, rfl, (row_isL ar).2 h1, h2⟩⟩
def xvScaleX (a : Vq) (k : Fq) : List Fq := [a.x, a.y, a.z, k, (a.times (Vq.mk k k k)).x, (a.times (Vq.mk k k k)).y, (a.times (Vq.mk k k k)).z]
theorem q_vScale (va vk : Value) (a : Vq) (k : Fq) (w : World) (ia : IsVq w va a) (ik : IsQ w vk k) (ha : a.ok 100000000) (hk : k.ok 100000000) :
    Calls Tryz.prog 67 #[va, vk] w fun e w' => RetVq w (a.scale k) e w' := by
  refine (calls_runFn (ρ := frs (xvScaleX a k) ++ []) (w := w) (fuel := 300) (args := [row [0, 1, 2], fr 3]) (vs := [va, vk]) (r := .v (row [4, 5, 6]))
    (il_cons (I_eachMul (ka := [0, 1, 2]) (a := a) (kb := [3, 3, 3]) (b := (Vq.mk k k k)) (kr := [4, 5, 6]) ⟨rfl, rfl, rfl, trivial⟩ ⟨rfl, rfl, rfl, trivial⟩ ⟨rfl, rfl, rfl, trivial⟩ (ha.mono (by decide)) (⟨hk.mono (by decide), hk.mono (by decide), hk.mono (by decide)⟩ : Vq.ok 100000000 (Vq.mk k k k))) il_nil)
    ol_nil (by kernel_rfl) Tryz.func67 (by kernel_rfl) ⟨(row_isL (xs := xvScaleX a k) (ks := [0, 1, 2]) (vs := [a.x, a.y, a.z]) ⟨rfl, rfl, rfl, trivial⟩).2 ia, ⟨(fr_isQ (xs := xvScaleX a k) (k := 3) rfl).2 ik, trivial⟩⟩).mono ?_
  rintro e w' ⟨v, rfl, h1, h2⟩
  exact ⟨v, rfl, (row_isL (xs := xvScaleX a k) (ks := [4, 5, 6]) (vs := [(a.times (Vq.mk k k k)).x, (a.times (Vq.mk k k k)).y, (a.times (Vq.mk k k k)).z]) ⟨rfl, rfl, rfl, trivial⟩).1 h1, h2⟩
theorem I_vScale {xs : List Fq} {ys : Rho} {ka : List Nat} {ik : Nat} {a : Vq} {k : Fq} {kr : List Nat} (aa : AtL xs ka [a.x, a.y, a.z]) (ak : xs[ik]? = some k) (ar : AtL xs kr [(a.scale k).x, (a.scale k).y, (a.scale k).z]) (ha : a.ok 100000000) (hk : k.ok 100000000) : OkI xs ys ⟨67, [row ka, fr ik], .v (row kr)⟩ :=
  ⟨enters Tryz.func67 rfl rfl, fun B w vs hB h => by
    match vs, h with
    | [va, vk], h =>
      refine (q_vScale va vk a k w ((row_isL aa).1 h.1) ((fr_isQ ak).1 h.2.1) ha hk).mono ?_
      rintro e w' ⟨v, rfl, h1, h2⟩
      exact ⟨v, rfl, (row_isL ar).2 h1, h2⟩⟩
def xvDotX (a : Vq) (b : Vq) : List Fq := [a.x, a.y, a.z, b.x, b.y, b.z, (a.x.mul b.x), (a.y.mul b.y), (a.z.mul b.z), ((a.y.mul b.y).add (a.z.mul b.z)), ((a.x.mul b.x).add ((a.y.mul b.y).add (a.z.mul b.z)))]
theorem q_vDot (va vb : Value) (a : Vq) (b : Vq) (w : World) (ia : IsVq w va a) (ib : IsVq w vb b) (ha : a.ok 100000000) (hb : b.ok 100000000) :
    Calls Tryz.prog 56 #[va, vb] w fun e w' => RetQ w (a.dot b) e w' := by
  refine (calls_runFn (ρ := frs (xvDotX a b) ++ []) (w := w) (fuel := 300) (args := [row [0, 1, 2], row [3, 4, 5]]) (vs := [va, vb]) (r := .v (fr 10))
    (il_cons (I_times (ks := [0, 3]) (k := 6) ⟨rfl, rfl, trivial⟩ rfl (ha.x.mono (by decide)) (hb.x.mono (by decide))) (il_cons (I_times (ks := [1, 4]) (k := 7) ⟨rfl, rfl, trivial⟩ rfl (ha.y.mono (by decide)) (hb.y.mono (by decide))) (il_cons (I_times (ks := [2, 5]) (k := 8) ⟨rfl, rfl, trivial⟩ rfl (ha.z.mono (by decide)) (hb.z.mono (by decide))) (il_cons (I_fAdd (i := 7) (j := 8) (k := 9) rfl rfl rfl ((ha.y.mul hb.y).mono (by decide)) ((ha.z.mul hb.z).mono (by decide))) (il_cons (I_fAdd (i := 6) (j := 9) (k := 10) rfl rfl rfl ((ha.x.mul hb.x).mono (by decide)) (((ha.y.mul hb.y).add (ha.z.mul hb.z)).mono (by decide))) il_nil)))))
    ol_nil (by kernel_rfl) Tryz.func56 (by kernel_rfl) ⟨(row_isL (xs := xvDotX a b) (ks := [0, 1, 2]) (vs := [a.x, a.y, a.z]) ⟨rfl, rfl, rfl, trivial⟩).2 ia, ⟨(row_isL (xs := xvDotX a b) (ks := [3, 4, 5]) (vs := [b.x, b.y, b.z]) ⟨rfl, rfl, rfl, trivial⟩).2 ib, trivial⟩⟩).mono ?_
  rintro e w' ⟨v, rfl, h1, h2⟩
  exact ⟨v, rfl, (fr_isQ (xs := xvDotX a b) (k := 10) rfl).1 h1, h2⟩
theorem I_vDot {xs : List Fq} {ys : Rho} {ka : List Nat} {kb : List Nat} {a : Vq} {b : Vq} {ir : Nat} (aa : AtL xs ka [a.x, a.y, a.z]) (ab : AtL xs kb [b.x, b.y, b.z]) (ar : xs[ir]? = some (a.dot b)) (ha : a.ok 100000000) (hb : b.ok 100000000) : OkI xs ys ⟨56, [row ka, row kb], .v (fr ir)⟩ :=
  ⟨enters Tryz.func56 rfl rfl, fun B w vs hB h => by
    match vs, h with
    | [va, vb], h =>
      refine (q_vDot va vb a b w ((row_isL aa).1 h.1) ((row_isL ab).1 h.2.1) ha hb).mono ?_
      rintro e w' ⟨v, rfl, h1, h2⟩
      exact ⟨v, rfl, (fr_isQ ar).2 h1, h2⟩⟩
def xvCrossX (a : Vq) (b : Vq) : List Fq := [a.x, a.y, a.z, b.x, b.y, b.z, (a.y.mul b.z), (a.z.mul b.y), ((a.y.mul b.z).sub (a.z.mul b.y)), (a.z.mul b.x), (a.x.mul b.z), ((a.z.mul b.x).sub (a.x.mul b.z)), (a.x.mul b.y), (a.y.mul b.x), ((a.x.mul b.y).sub (a.y.mul b.x))]
theorem q_vCross (va vb : Value) (a : Vq) (b : Vq) (w : World) (ia : IsVq w va a) (ib : IsVq w vb b) (ha : a.ok 100000000) (hb : b.ok 100000000) :
    Calls Tryz.prog 117 #[va, vb] w fun e w' => RetVq w (a.cross b) e w' := by
  refine (calls_runFn (ρ := frs (xvCrossX a b) ++ []) (w := w) (fuel := 300) (args := [row [0, 1, 2], row [3, 4, 5]]) (vs := [va, vb]) (r := .v (row [8, 11, 14]))
    (il_cons (I_times (ks := [1, 5]) (k := 6) ⟨rfl, rfl, trivial⟩ rfl (ha.y.mono (by decide)) (hb.z.mono (by decide))) (il_cons (I_times (ks := [2, 4]) (k := 7) ⟨rfl, rfl, trivial⟩ rfl (ha.z.mono (by decide)) (hb.y.mono (by decide))) (il_cons (I_less (ks := [6, 7]) (k := 8) ⟨rfl, rfl, trivial⟩ rfl ((ha.y.mul hb.z).mono (by decide)) ((ha.z.mul hb.y).mono (by decide))) (il_cons (I_times (ks := [2, 3]) (k := 9) ⟨rfl, rfl, trivial⟩ rfl (ha.z.mono (by decide)) (hb.x.mono (by decide))) (il_cons (I_times (ks := [0, 5]) (k := 10) ⟨rfl, rfl, trivial⟩ rfl (ha.x.mono (by decide)) (hb.z.mono (by decide))) (il_cons (I_less (ks := [9, 10]) (k := 11) ⟨rfl, rfl, trivial⟩ rfl ((ha.z.mul hb.x).mono (by decide)) ((ha.x.mul hb.z).mono (by decide))) (il_cons (I_times (ks := [0, 4]) (k := 12) ⟨rfl, rfl, trivial⟩ rfl (ha.x.mono (by decide)) (hb.y.mono (by decide))) (il_cons (I_times (ks := [1, 3]) (k := 13) ⟨rfl, rfl, trivial⟩ rfl (ha.y.mono (by decide)) (hb.x.mono (by decide))) (il_cons (I_less (ks := [12, 13]) (k := 14) ⟨rfl, rfl, trivial⟩ rfl ((ha.x.mul hb.y).mono (by decide)) ((ha.y.mul hb.x).mono (by decide))) il_nil)))))))))
    ol_nil (by kernel_rfl) Tryz.func117 (by kernel_rfl) ⟨(row_isL (xs := xvCrossX a b) (ks := [0, 1, 2]) (vs := [a.x, a.y, a.z]) ⟨rfl, rfl, rfl, trivial⟩).2 ia, ⟨(row_isL (xs := xvCrossX a b) (ks := [3, 4, 5]) (vs := [b.x, b.y, b.z]) ⟨rfl, rfl, rfl, trivial⟩).2 ib, trivial⟩⟩).mono ?_
  rintro e w' ⟨v, rfl, h1, h2⟩
  exact ⟨v, rfl, (row_isL (xs := xvCrossX a b) (ks := [8, 11, 14]) (vs := [((a.y.mul b.z).sub (a.z.mul b.y)), ((a.z.mul b.x).sub (a.x.mul b.z)), ((a.x.mul b.y).sub (a.y.mul b.x))]) ⟨rfl, rfl, rfl, trivial⟩).1 h1, h2⟩
theorem I_vCross {xs : List Fq} {ys : Rho} {ka : List Nat} {kb : List Nat} {a : Vq} {b : Vq} {kr : List Nat} (aa : AtL xs ka [a.x, a.y, a.z]) (ab : AtL xs kb [b.x, b.y, b.z]) (ar : AtL xs kr [(a.cross b).x, (a.cross b).y, (a.cross b).z]) (ha : a.ok 100000000) (hb : b.ok 100000000) : OkI xs ys ⟨117, [row ka, row kb], .v (row kr)⟩ :=
  ⟨enters Tryz.func117 rfl rfl, fun B w vs hB h => by
    match vs, h with
    | [va, vb], h =>
      refine (q_vCross va vb a b w ((row_isL aa).1 h.1) ((row_isL ab).1 h.2.1) ha hb).mono ?_
      rintro e w' ⟨v, rfl, h1, h2⟩
      exact ⟨v, rfl, (row_isL ar).2 h1, h2⟩⟩
end Go.Proofs.YthebfmlfgfmlnaaGreatDoor
