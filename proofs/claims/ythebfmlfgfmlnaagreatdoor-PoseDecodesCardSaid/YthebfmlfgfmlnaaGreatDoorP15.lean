/- Texts of poses. What Decode of package pose does. An executor: answers that are rows of the call's own; comparisons and slices at two unknown numbers. The reference's split: the parts of a text between the spaces. -/
import Derived.Test.YthebfmlfgfmlnaaGreatDoorP14
namespace Go.Proofs.YthebfmlfgfmlnaaGreatDoor
set_option linter.unusedSimpArgs false
set_option linter.unusedVariables false
set_option maxRecDepth 100000
open Go.RowKit
/-- Texts behind one another, with a space between. -/
def joinB (l : List ByteArray) : ByteArray := ⟨(Lib.join (l.map (·.data.toList)) [32]).toArray⟩
theorem I_Join {xs : List Fq} {ys : Rho} {n : Nat} {ss : List ByteArray} {l : Leaf} (hn : (frs xs ++ ys)[n]? = some (.strs ss)) (hl : ∀ B w, l.holds (frs xs ++ ys) B w (.string (joinB ss))) (h0 : ss ≠ []) (hs : (Lib.join (ss.map (·.data.toList)) [32]).length ≤ 140737488355328) (hN : ss.length ≤ 1000) : OkI xs ys ⟨46, [.one (.ref n), .one (.s (b1 32))], .v (.one l)⟩ :=
  ⟨enters Tryz.func46 rfl rfl, fun B w vs hB h => by
    match vs, h with
    | [va, vb], h =>
      have e2 : vb = .string (b1 32) := h.2.1
      subst e2
      obtain ⟨s, k1, k2, _⟩ := h.1
      rw [hn] at k1; injection k1 with k1; subst k1
      rcases k2 with ⟨h1, _⟩ | ⟨b, o, c, cs, rfl, hc, hb, hq⟩
      · exact absurd (List.map_eq_nil_iff.1 h1) h0
      · refine (Any.strings_Join Tryz.laysJoin Tryz.joinX b o c ss (b1 32) w (fun j x hj => ?_) (Array.getElem?_eq_some_iff.1 hb).1 (by omega) hc hs).mono ?_
        · obtain ⟨u, k3, k4, _⟩ := hq j (.val (.string x)) (by rw [List.getElem?_map, hj]; rfl)
          rw [cell_at hb, k3, k4.1]
        · rintro e w' ⟨rfl, h2⟩
          exact ⟨_, rfl, hl B w', h2⟩⟩
/-- The text of a pose. -/
def Pq.text (a : Pq) : ByteArray := joinB [a.rot.w.fmt, a.rot.x.fmt, a.rot.y.fmt, a.rot.z.fmt, a.pos.x.fmt, a.pos.y.fmt, a.pos.z.fmt]
theorem qfmt_size {x : Fq} {d : Nat} (h : x.ok d) : x.fmt.size ≤ 20 * d + 4 := by
  have h1 := fmt_size x.p
  have h2 := fmt_size x.q
  have h3 := h.p
  have h4 := h.q
  unfold Fq.fmt
  split <;> split <;> (try simp only [ByteArray.size_append, bsz, List.size_toArray, List.length_cons, List.length_nil]) <;> omega
def xpoEncX (a : Pq) : List Fq := [a.rot.w, a.rot.x, a.rot.y, a.rot.z, a.pos.x, a.pos.y, a.pos.z]
theorem q_poEnc (va : Value) (a : Pq) (w : World) (ia : IsOq w va a) (ha : a.ok 1000) : Calls Tryz.prog 14 #[va] w fun e w' => RetV w (.string a.text) e w' := by
  have z0 := qfmt_size (show (a.rot.w).ok 1000 from ha.rot.w)
  have z1 := qfmt_size (show (a.rot.x).ok 1000 from ha.rot.x)
  have z2 := qfmt_size (show (a.rot.y).ok 1000 from ha.rot.y)
  have z3 := qfmt_size (show (a.rot.z).ok 1000 from ha.rot.z)
  have z4 := qfmt_size (show (a.pos.x).ok 1000 from ha.pos.x)
  have z5 := qfmt_size (show (a.pos.y).ok 1000 from ha.pos.y)
  have z6 := qfmt_size (show (a.pos.z).ok 1000 from ha.pos.z)
  have hjoin : (Lib.join ([a.rot.w.fmt, a.rot.x.fmt, a.rot.y.fmt, a.rot.z.fmt, a.pos.x.fmt, a.pos.y.fmt, a.pos.z.fmt].map (·.data.toList)) [32]).length ≤ 140737488355328 := by simp only [List.map_cons, List.map_nil, Lib.join, List.intercalate, List.intersperse, List.flatten_cons, List.flatten_nil, List.length_append, List.length_cons, List.length_nil, Array.length_toList]; simp only [ByteArray.size] at *; omega
  refine (calls_runFn (ρ := frs (xpoEncX a) ++ [.row 26 7 [.val (.bool a.rot.w.s), .dig (nl a.rot.w.p) a.rot.w.p, .dig (nl a.rot.w.q) a.rot.w.q, .val (.bool a.rot.x.s), .dig (nl a.rot.x.p) a.rot.x.p, .dig (nl a.rot.x.q) a.rot.x.q, .val (.bool a.rot.y.s), .dig (nl a.rot.y.p) a.rot.y.p, .dig (nl a.rot.y.q) a.rot.y.q, .val (.bool a.rot.z.s), .dig (nl a.rot.z.p) a.rot.z.p, .dig (nl a.rot.z.q) a.rot.z.q, .val (.bool a.pos.x.s), .dig (nl a.pos.x.p) a.pos.x.p, .dig (nl a.pos.x.q) a.pos.x.q, .val (.bool a.pos.y.s), .dig (nl a.pos.y.p) a.pos.y.p, .dig (nl a.pos.y.q) a.pos.y.q, .val (.bool a.pos.z.s), .dig (nl a.pos.z.p) a.pos.z.p, .dig (nl a.pos.z.q) a.pos.z.q], .plc 26 [.val (.bool a.rot.w.s), .dig (nl a.rot.w.p) a.rot.w.p, .dig (nl a.rot.w.q) a.rot.w.q], .val (.string a.rot.w.fmt), .row 9 1 [.val (.string a.rot.w.fmt)], .ownr 9 1 1 [.val (.string a.rot.w.fmt)], .plc 26 [.val (.bool a.rot.x.s), .dig (nl a.rot.x.p) a.rot.x.p, .dig (nl a.rot.x.q) a.rot.x.q], .val (.string a.rot.x.fmt), .row 9 1 [.val (.string a.rot.x.fmt)], .ownr 9 1 2 [.val (.string a.rot.w.fmt), .val (.string a.rot.x.fmt)], .plc 26 [.val (.bool a.rot.y.s), .dig (nl a.rot.y.p) a.rot.y.p, .dig (nl a.rot.y.q) a.rot.y.q], .val (.string a.rot.y.fmt), .row 9 1 [.val (.string a.rot.y.fmt)], .ownr 9 1 3 [.val (.string a.rot.w.fmt), .val (.string a.rot.x.fmt), .val (.string a.rot.y.fmt)], .plc 26 [.val (.bool a.rot.z.s), .dig (nl a.rot.z.p) a.rot.z.p, .dig (nl a.rot.z.q) a.rot.z.q], .val (.string a.rot.z.fmt), .row 9 1 [.val (.string a.rot.z.fmt)], .ownr 9 1 4 [.val (.string a.rot.w.fmt), .val (.string a.rot.x.fmt), .val (.string a.rot.y.fmt), .val (.string a.rot.z.fmt)], .plc 26 [.val (.bool a.pos.x.s), .dig (nl a.pos.x.p) a.pos.x.p, .dig (nl a.pos.x.q) a.pos.x.q], .val (.string a.pos.x.fmt), .row 9 1 [.val (.string a.pos.x.fmt)], .ownr 9 1 5 [.val (.string a.rot.w.fmt), .val (.string a.rot.x.fmt), .val (.string a.rot.y.fmt), .val (.string a.rot.z.fmt), .val (.string a.pos.x.fmt)], .plc 26 [.val (.bool a.pos.y.s), .dig (nl a.pos.y.p) a.pos.y.p, .dig (nl a.pos.y.q) a.pos.y.q], .val (.string a.pos.y.fmt), .row 9 1 [.val (.string a.pos.y.fmt)], .ownr 9 1 6 [.val (.string a.rot.w.fmt), .val (.string a.rot.x.fmt), .val (.string a.rot.y.fmt), .val (.string a.rot.z.fmt), .val (.string a.pos.x.fmt), .val (.string a.pos.y.fmt)], .plc 26 [.val (.bool a.pos.z.s), .dig (nl a.pos.z.p) a.pos.z.p, .dig (nl a.pos.z.q) a.pos.z.q], .val (.string a.pos.z.fmt), .row 9 1 [.val (.string a.pos.z.fmt)], .ownr 9 1 7 [.val (.string a.rot.w.fmt), .val (.string a.rot.x.fmt), .val (.string a.rot.y.fmt), .val (.string a.rot.z.fmt), .val (.string a.pos.x.fmt), .val (.string a.pos.y.fmt), .val (.string a.pos.z.fmt)], .row 9 7 [.val (.string a.rot.w.fmt), .val (.string a.rot.x.fmt), .val (.string a.rot.y.fmt), .val (.string a.rot.z.fmt), .val (.string a.pos.x.fmt), .val (.string a.pos.y.fmt), .val (.string a.pos.z.fmt)], .val (.string (joinB [a.rot.w.fmt, a.rot.x.fmt, a.rot.y.fmt, a.rot.z.fmt, a.pos.x.fmt, a.pos.y.fmt, a.pos.z.fmt]))]) (w := w) (fuel := 300) (args := [row [0, 1, 2, 3, 4, 5, 6]]) (vs := [va]) (r := .v (.one (.ref 51)))
    (il_cons (I_fFormat (i := 0) rfl (ls (n := 23) rfl) (ha.rot.w.mono (by decide))) (il_cons (I_fFormat (i := 1) rfl (ls (n := 27) rfl) (ha.rot.x.mono (by decide))) (il_cons (I_fFormat (i := 2) rfl (ls (n := 31) rfl) (ha.rot.y.mono (by decide))) (il_cons (I_fFormat (i := 3) rfl (ls (n := 35) rfl) (ha.rot.z.mono (by decide))) (il_cons (I_fFormat (i := 4) rfl (ls (n := 39) rfl) (ha.pos.x.mono (by decide))) (il_cons (I_fFormat (i := 5) rfl (ls (n := 43) rfl) (ha.pos.y.mono (by decide))) (il_cons (I_fFormat (i := 6) rfl (ls (n := 47) rfl) (ha.pos.z.mono (by decide))) (il_cons (I_Join (n := 50) (ss := [a.rot.w.fmt, a.rot.x.fmt, a.rot.y.fmt, a.rot.z.fmt, a.pos.x.fmt, a.pos.y.fmt, a.pos.z.fmt]) rfl (ls (n := 51) rfl) (by simp) hjoin (by simp)) il_nil))))))))
    (ol_cons (o_bs (m := 21) (ss := [fr 0, fr 1, fr 2, fr 3, fr 4, fr 5, fr 6]) (N := 7) (sz := 3) (z := [.b false, .sl0, .sl0]) (qs := [.val (.bool a.rot.w.s), .dig (nl a.rot.w.p) a.rot.w.p, .dig (nl a.rot.w.q) a.rot.w.q, .val (.bool a.rot.x.s), .dig (nl a.rot.x.p) a.rot.x.p, .dig (nl a.rot.x.q) a.rot.x.q, .val (.bool a.rot.y.s), .dig (nl a.rot.y.p) a.rot.y.p, .dig (nl a.rot.y.q) a.rot.y.q, .val (.bool a.rot.z.s), .dig (nl a.rot.z.p) a.rot.z.p, .dig (nl a.rot.z.q) a.rot.z.q, .val (.bool a.pos.x.s), .dig (nl a.pos.x.p) a.pos.x.p, .dig (nl a.pos.x.q) a.pos.x.q, .val (.bool a.pos.y.s), .dig (nl a.pos.y.p) a.pos.y.p, .dig (nl a.pos.y.q) a.pos.y.q, .val (.bool a.pos.z.s), .dig (nl a.pos.z.p) a.pos.z.p, .dig (nl a.pos.z.q) a.pos.z.q]) (ix := [0, 1, 2, 3, 4, 5, 6]) (ls := [.ref 0, .ref 1, .ref 2, .ref 3, .ref 4, .ref 5, .ref 6, .ref 7, .ref 8, .ref 9, .ref 10, .ref 11, .ref 12, .ref 13, .ref 14, .ref 15, .ref 16, .ref 17, .ref 18, .ref 19, .ref 20]) Tryz.underlying33 (by kernel_rfl) (by kernel_rfl) (by decide) (by decide) (by decide) rfl (by kernel_rfl) ⟨ql_val rfl, ql_dig rfl, ql_dig rfl, ql_val rfl, ql_dig rfl, ql_dig rfl, ql_val rfl, ql_dig rfl, ql_dig rfl, ql_val rfl, ql_dig rfl, ql_dig rfl, ql_val rfl, ql_dig rfl, ql_dig rfl, ql_val rfl, ql_dig rfl, ql_dig rfl, ql_val rfl, ql_dig rfl, ql_dig rfl, trivial⟩ rfl) (ol_cons (o_lenR (n := 21) (t := 33) ⟨_, Tryz.underlying33⟩ rfl (li rfl)) (ol_cons (o_iaL (k := 0) (l := .i .i64 0) (sz := 3) (qs' := [.val (.bool a.rot.w.s), .dig (nl a.rot.w.p) a.rot.w.p, .dig (nl a.rot.w.q) a.rot.w.q]) (n := 21) (m := 22) Tryz.underlying33 (by kernel_rfl) rfl rfl (fun _ _ _ h => h) (by decide) (by simp) (fun j q hq => by match j, hq with | 0, hq => simp at hq; subst hq; rfl | 1, hq => simp at hq; subst hq; rfl | 2, hq => simp at hq; subst hq; rfl | j + 3, hq => simp at hq)) (ol_cons (o_ldA (n := 22) (T := 26) (qs := [.val (.bool a.rot.w.s), .dig (nl a.rot.w.p) a.rot.w.p, .dig (nl a.rot.w.q) a.rot.w.q]) (ls := [.ref 0, .ref 1, .ref 2]) (t := 26) (by kernel_rfl) (by kernel_rfl) rfl ⟨lq rfl, lq rfl, lq rfl, trivial⟩) (ol_cons (o_bs (m := 24) (ss := [.one (.ref 23)]) (N := 1) (sz := 1) (z := [.s (ByteArray.mk #[])]) (qs := [.val (.string a.rot.w.fmt)]) (ix := [0]) (ls := [.ref 23]) Tryz.underlying64 (by kernel_rfl) (by kernel_rfl) (by decide) (by decide) (by decide) rfl (by kernel_rfl) ⟨ql_val rfl, trivial⟩ rfl) (ol_cons (o_appK (i := 0) (sz := 1) (bytes := 16) (L := 0) (M := 1) (qs := []) (qs' := [.val (.string a.rot.w.fmt)]) (m := 25) (r := 24) (T := 9) Tryz.underlying64 (by kernel_rfl) (.inl ⟨rfl, rfl, rfl⟩) rfl rfl rfl rfl rfl (by decide) (by decide) (by decide)) (ol_cons (o_iaL (k := 1) (l := .i .i64 1) (sz := 3) (qs' := [.val (.bool a.rot.x.s), .dig (nl a.rot.x.p) a.rot.x.p, .dig (nl a.rot.x.q) a.rot.x.q]) (n := 21) (m := 26) Tryz.underlying33 (by kernel_rfl) rfl rfl (fun _ _ _ h => h) (by decide) (by simp) (fun j q hq => by match j, hq with | 0, hq => simp at hq; subst hq; rfl | 1, hq => simp at hq; subst hq; rfl | 2, hq => simp at hq; subst hq; rfl | j + 3, hq => simp at hq)) (ol_cons (o_ldA (n := 26) (T := 26) (qs := [.val (.bool a.rot.x.s), .dig (nl a.rot.x.p) a.rot.x.p, .dig (nl a.rot.x.q) a.rot.x.q]) (ls := [.ref 3, .ref 4, .ref 5]) (t := 26) (by kernel_rfl) (by kernel_rfl) rfl ⟨lq rfl, lq rfl, lq rfl, trivial⟩) (ol_cons (o_bs (m := 28) (ss := [.one (.ref 27)]) (N := 1) (sz := 1) (z := [.s (ByteArray.mk #[])]) (qs := [.val (.string a.rot.x.fmt)]) (ix := [0]) (ls := [.ref 27]) Tryz.underlying64 (by kernel_rfl) (by kernel_rfl) (by decide) (by decide) (by decide) rfl (by kernel_rfl) ⟨ql_val rfl, trivial⟩ rfl) (ol_cons (o_appK (i := 0) (sz := 1) (bytes := 16) (L := 1) (M := 1) (qs := [.val (.string a.rot.w.fmt)]) (qs' := [.val (.string a.rot.x.fmt)]) (m := 29) (r := 28) (T := 9) Tryz.underlying64 (by kernel_rfl) (.inr ⟨25, rfl, rfl⟩) rfl rfl rfl rfl rfl (by decide) (by decide) (by decide)) (ol_cons (o_iaL (k := 2) (l := .i .i64 2) (sz := 3) (qs' := [.val (.bool a.rot.y.s), .dig (nl a.rot.y.p) a.rot.y.p, .dig (nl a.rot.y.q) a.rot.y.q]) (n := 21) (m := 30) Tryz.underlying33 (by kernel_rfl) rfl rfl (fun _ _ _ h => h) (by decide) (by simp) (fun j q hq => by match j, hq with | 0, hq => simp at hq; subst hq; rfl | 1, hq => simp at hq; subst hq; rfl | 2, hq => simp at hq; subst hq; rfl | j + 3, hq => simp at hq)) (ol_cons (o_ldA (n := 30) (T := 26) (qs := [.val (.bool a.rot.y.s), .dig (nl a.rot.y.p) a.rot.y.p, .dig (nl a.rot.y.q) a.rot.y.q]) (ls := [.ref 6, .ref 7, .ref 8]) (t := 26) (by kernel_rfl) (by kernel_rfl) rfl ⟨lq rfl, lq rfl, lq rfl, trivial⟩) (ol_cons (o_bs (m := 32) (ss := [.one (.ref 31)]) (N := 1) (sz := 1) (z := [.s (ByteArray.mk #[])]) (qs := [.val (.string a.rot.y.fmt)]) (ix := [0]) (ls := [.ref 31]) Tryz.underlying64 (by kernel_rfl) (by kernel_rfl) (by decide) (by decide) (by decide) rfl (by kernel_rfl) ⟨ql_val rfl, trivial⟩ rfl) (ol_cons (o_appK (i := 0) (sz := 1) (bytes := 16) (L := 2) (M := 1) (qs := [.val (.string a.rot.w.fmt), .val (.string a.rot.x.fmt)]) (qs' := [.val (.string a.rot.y.fmt)]) (m := 33) (r := 32) (T := 9) Tryz.underlying64 (by kernel_rfl) (.inr ⟨29, rfl, rfl⟩) rfl rfl rfl rfl rfl (by decide) (by decide) (by decide)) (ol_cons (o_iaL (k := 3) (l := .i .i64 3) (sz := 3) (qs' := [.val (.bool a.rot.z.s), .dig (nl a.rot.z.p) a.rot.z.p, .dig (nl a.rot.z.q) a.rot.z.q]) (n := 21) (m := 34) Tryz.underlying33 (by kernel_rfl) rfl rfl (fun _ _ _ h => h) (by decide) (by simp) (fun j q hq => by match j, hq with | 0, hq => simp at hq; subst hq; rfl | 1, hq => simp at hq; subst hq; rfl | 2, hq => simp at hq; subst hq; rfl | j + 3, hq => simp at hq)) (ol_cons (o_ldA (n := 34) (T := 26) (qs := [.val (.bool a.rot.z.s), .dig (nl a.rot.z.p) a.rot.z.p, .dig (nl a.rot.z.q) a.rot.z.q]) (ls := [.ref 9, .ref 10, .ref 11]) (t := 26) (by kernel_rfl) (by kernel_rfl) rfl ⟨lq rfl, lq rfl, lq rfl, trivial⟩) (ol_cons (o_bs (m := 36) (ss := [.one (.ref 35)]) (N := 1) (sz := 1) (z := [.s (ByteArray.mk #[])]) (qs := [.val (.string a.rot.z.fmt)]) (ix := [0]) (ls := [.ref 35]) Tryz.underlying64 (by kernel_rfl) (by kernel_rfl) (by decide) (by decide) (by decide) rfl (by kernel_rfl) ⟨ql_val rfl, trivial⟩ rfl) (ol_cons (o_appK (i := 0) (sz := 1) (bytes := 16) (L := 3) (M := 1) (qs := [.val (.string a.rot.w.fmt), .val (.string a.rot.x.fmt), .val (.string a.rot.y.fmt)]) (qs' := [.val (.string a.rot.z.fmt)]) (m := 37) (r := 36) (T := 9) Tryz.underlying64 (by kernel_rfl) (.inr ⟨33, rfl, rfl⟩) rfl rfl rfl rfl rfl (by decide) (by decide) (by decide)) (ol_cons (o_iaL (k := 4) (l := .i .i64 4) (sz := 3) (qs' := [.val (.bool a.pos.x.s), .dig (nl a.pos.x.p) a.pos.x.p, .dig (nl a.pos.x.q) a.pos.x.q]) (n := 21) (m := 38) Tryz.underlying33 (by kernel_rfl) rfl rfl (fun _ _ _ h => h) (by decide) (by simp) (fun j q hq => by match j, hq with | 0, hq => simp at hq; subst hq; rfl | 1, hq => simp at hq; subst hq; rfl | 2, hq => simp at hq; subst hq; rfl | j + 3, hq => simp at hq)) (ol_cons (o_ldA (n := 38) (T := 26) (qs := [.val (.bool a.pos.x.s), .dig (nl a.pos.x.p) a.pos.x.p, .dig (nl a.pos.x.q) a.pos.x.q]) (ls := [.ref 12, .ref 13, .ref 14]) (t := 26) (by kernel_rfl) (by kernel_rfl) rfl ⟨lq rfl, lq rfl, lq rfl, trivial⟩) (ol_cons (o_bs (m := 40) (ss := [.one (.ref 39)]) (N := 1) (sz := 1) (z := [.s (ByteArray.mk #[])]) (qs := [.val (.string a.pos.x.fmt)]) (ix := [0]) (ls := [.ref 39]) Tryz.underlying64 (by kernel_rfl) (by kernel_rfl) (by decide) (by decide) (by decide) rfl (by kernel_rfl) ⟨ql_val rfl, trivial⟩ rfl) (ol_cons (o_appK (i := 0) (sz := 1) (bytes := 16) (L := 4) (M := 1) (qs := [.val (.string a.rot.w.fmt), .val (.string a.rot.x.fmt), .val (.string a.rot.y.fmt), .val (.string a.rot.z.fmt)]) (qs' := [.val (.string a.pos.x.fmt)]) (m := 41) (r := 40) (T := 9) Tryz.underlying64 (by kernel_rfl) (.inr ⟨37, rfl, rfl⟩) rfl rfl rfl rfl rfl (by decide) (by decide) (by decide)) (ol_cons (o_iaL (k := 5) (l := .i .i64 5) (sz := 3) (qs' := [.val (.bool a.pos.y.s), .dig (nl a.pos.y.p) a.pos.y.p, .dig (nl a.pos.y.q) a.pos.y.q]) (n := 21) (m := 42) Tryz.underlying33 (by kernel_rfl) rfl rfl (fun _ _ _ h => h) (by decide) (by simp) (fun j q hq => by match j, hq with | 0, hq => simp at hq; subst hq; rfl | 1, hq => simp at hq; subst hq; rfl | 2, hq => simp at hq; subst hq; rfl | j + 3, hq => simp at hq)) (ol_cons (o_ldA (n := 42) (T := 26) (qs := [.val (.bool a.pos.y.s), .dig (nl a.pos.y.p) a.pos.y.p, .dig (nl a.pos.y.q) a.pos.y.q]) (ls := [.ref 15, .ref 16, .ref 17]) (t := 26) (by kernel_rfl) (by kernel_rfl) rfl ⟨lq rfl, lq rfl, lq rfl, trivial⟩) (ol_cons (o_bs (m := 44) (ss := [.one (.ref 43)]) (N := 1) (sz := 1) (z := [.s (ByteArray.mk #[])]) (qs := [.val (.string a.pos.y.fmt)]) (ix := [0]) (ls := [.ref 43]) Tryz.underlying64 (by kernel_rfl) (by kernel_rfl) (by decide) (by decide) (by decide) rfl (by kernel_rfl) ⟨ql_val rfl, trivial⟩ rfl) (ol_cons (o_appK (i := 0) (sz := 1) (bytes := 16) (L := 5) (M := 1) (qs := [.val (.string a.rot.w.fmt), .val (.string a.rot.x.fmt), .val (.string a.rot.y.fmt), .val (.string a.rot.z.fmt), .val (.string a.pos.x.fmt)]) (qs' := [.val (.string a.pos.y.fmt)]) (m := 45) (r := 44) (T := 9) Tryz.underlying64 (by kernel_rfl) (.inr ⟨41, rfl, rfl⟩) rfl rfl rfl rfl rfl (by decide) (by decide) (by decide)) (ol_cons (o_iaL (k := 6) (l := .i .i64 6) (sz := 3) (qs' := [.val (.bool a.pos.z.s), .dig (nl a.pos.z.p) a.pos.z.p, .dig (nl a.pos.z.q) a.pos.z.q]) (n := 21) (m := 46) Tryz.underlying33 (by kernel_rfl) rfl rfl (fun _ _ _ h => h) (by decide) (by simp) (fun j q hq => by match j, hq with | 0, hq => simp at hq; subst hq; rfl | 1, hq => simp at hq; subst hq; rfl | 2, hq => simp at hq; subst hq; rfl | j + 3, hq => simp at hq)) (ol_cons (o_ldA (n := 46) (T := 26) (qs := [.val (.bool a.pos.z.s), .dig (nl a.pos.z.p) a.pos.z.p, .dig (nl a.pos.z.q) a.pos.z.q]) (ls := [.ref 18, .ref 19, .ref 20]) (t := 26) (by kernel_rfl) (by kernel_rfl) rfl ⟨lq rfl, lq rfl, lq rfl, trivial⟩) (ol_cons (o_bs (m := 48) (ss := [.one (.ref 47)]) (N := 1) (sz := 1) (z := [.s (ByteArray.mk #[])]) (qs := [.val (.string a.pos.z.fmt)]) (ix := [0]) (ls := [.ref 47]) Tryz.underlying64 (by kernel_rfl) (by kernel_rfl) (by decide) (by decide) (by decide) rfl (by kernel_rfl) ⟨ql_val rfl, trivial⟩ rfl) (ol_cons (o_appK (i := 0) (sz := 1) (bytes := 16) (L := 6) (M := 1) (qs := [.val (.string a.rot.w.fmt), .val (.string a.rot.x.fmt), .val (.string a.rot.y.fmt), .val (.string a.rot.z.fmt), .val (.string a.pos.x.fmt), .val (.string a.pos.y.fmt)]) (qs' := [.val (.string a.pos.z.fmt)]) (m := 49) (r := 48) (T := 9) Tryz.underlying64 (by kernel_rfl) (.inr ⟨45, rfl, rfl⟩) rfl rfl rfl rfl rfl (by decide) (by decide) (by decide)) (ol_cons (o_frz (n := 49) (m := 50) (r := 7) (i := 0) (L := 7) (qs := [.val (.string a.rot.w.fmt), .val (.string a.rot.x.fmt), .val (.string a.rot.y.fmt), .val (.string a.rot.z.fmt), .val (.string a.pos.x.fmt), .val (.string a.pos.y.fmt), .val (.string a.pos.z.fmt)]) rfl rfl) (ol_nil)))))))))))))))))))))))))))))))) (by kernel_rfl) Tryz.func14 (by kernel_rfl) ⟨(row_isL (xs := xpoEncX a) (ks := [0, 1, 2, 3, 4, 5, 6]) (vs := [a.rot.w, a.rot.x, a.rot.y, a.rot.z, a.pos.x, a.pos.y, a.pos.z]) ⟨rfl, rfl, rfl, rfl, rfl, rfl, rfl, trivial⟩).2 ia, trivial⟩).mono ?_
  rintro e w' ⟨v, rfl, h1, h2⟩
  obtain ⟨sv, q1, q2⟩ := h1
  have q3 : some (Vp.val (.string (joinB [a.rot.w.fmt, a.rot.x.fmt, a.rot.y.fmt, a.rot.z.fmt, a.pos.x.fmt, a.pos.y.fmt, a.pos.z.fmt]))) = some sv := q1
  injection q3 with q3
  subst q3
  have q4 : v = .string (joinB [a.rot.w.fmt, a.rot.x.fmt, a.rot.y.fmt, a.rot.z.fmt, a.pos.x.fmt, a.pos.y.fmt, a.pos.z.fmt]) := q2.1.1
  exact ⟨by rw [q4]; rfl, h2⟩
theorem I_poEnc {xs : List Fq} {ys : Rho} {ks : List Nat} {a : Pq} {l : Leaf} (ar : AtL xs ks [a.rot.w, a.rot.x, a.rot.y, a.rot.z, a.pos.x, a.pos.y, a.pos.z]) (hl : ∀ B w, l.holds (frs xs ++ ys) B w (.string a.text)) (ha : a.ok 1000) : OkI xs ys ⟨14, [row ks], .v (.one l)⟩ :=
  ⟨enters Tryz.func14 rfl rfl, fun B w vs hB h => by
    match vs, h with
    | [x], h =>
      refine (q_poEnc x a w ((row_isL ar).1 h.1) ha).mono ?_
      rintro e w' ⟨rfl, h2⟩
      exact ⟨_, rfl, hl B w', h2⟩⟩
end Go.Proofs.YthebfmlfgfmlnaaGreatDoor
namespace Go.Proofs.YthebfmlfgfmlnaaGreatDoor
set_option linter.unusedSimpArgs false
set_option linter.unusedVariables false
set_option maxRecDepth 100000
open Go.RowKit
/-- The parts of a text between the spaces. -/
def parts (s : ByteArray) : List ByteArray := Lib.splitB (b1 32) 0 (Lib.countB s (b1 32)) s
def xpDFX (s : ByteArray) (ws : List ByteArray) : List Fq := []
theorem q_pDF (s : ByteArray) (ws : List ByteArray) (w : World) (hw : Lib.splitB (b1 32) 0 (Lib.countB s (b1 32)) s = ws) (hn : ws.length ≠ 7) (hs : s.size ≤ 4294967280) : Calls Tryz.prog 15 #[.string s] w fun e w' => RetOqE w .zero 2 e w' := by
  refine (calls_runFn (ρ := frs (xpDFX s ws) ++ [.val (.string s), .strs ws, .val (.int .i64 ((ws.length : Nat) : Int))]) (w := w) (fuel := 300) (args := [.one (.ref 0)]) (vs := [.string s]) (r := .tup [.agg [.b false, .sl0, .sl0, .b false, .sl0, .sl0, .b false, .sl0, .sl0, .b false, .sl0, .sl0, .b false, .sl0, .sl0, .b false, .sl0, .sl0, .b false, .sl0, .sl0], .one (.i .i64 2)])
    (il_cons (I_Split (n := 0) (m := 1) (s := s) (ss := ws) rfl rfl hw (by omega)) il_nil)
    (ol_cons (o_lenR (n := 1) (t := 64) ⟨_, Tryz.underlying64⟩ rfl (lr (n := 2) rfl)) (ol_cons (o_neqK (n := 2) (c := 7) (u := ((ws.length : Nat) : Int)) (b := true) (t := 3) rfl (bneq_t (by omega))) (ol_nil))) (by kernel_rfl) Tryz.func15 (by kernel_rfl) ⟨ls (n := 0) rfl (fun _ => none) w, trivial⟩).mono ?_
  rintro e w' ⟨v, rfl, ⟨vs, rfl, h1⟩, h2⟩
  match vs, h1 with
  | [r, cv], h1 =>
    obtain ⟨⟨cs, rfl, k1⟩, k2, _⟩ := h1
    have k2 : cv = _ := k2
    subst k2
    exact ⟨_, rfl, ⟨_, rfl, zero_row (n := 7) k1⟩, h2⟩
def xpD0X (s w0 w1 w2 w3 w4 w5 w6 : ByteArray) (x0 : Fq) (c : Int) : List Fq := [x0]
theorem q_pD0 (s w0 w1 w2 w3 w4 w5 w6 : ByteArray) (x0 : Fq) (c : Int) (w : World) (hw : Lib.splitB (b1 32) 0 (Lib.countB s (b1 32)) s = [w0, w1, w2, w3, w4, w5, w6]) (h0 : FP w0 x0 c) (hc : c ≠ 0) (z0 : w0.size ≤ 4294967280) (hs : s.size ≤ 4294967280) : Calls Tryz.prog 15 #[.string s] w fun e w' => RetOqE w .zero c e w' := by
  refine (calls_runFn (ρ := frs (xpD0X s w0 w1 w2 w3 w4 w5 w6 x0 c) ++ [.val (.string s), .row 9 7 [.val (.string w0), .val (.string w1), .val (.string w2), .val (.string w3), .val (.string w4), .val (.string w5), .val (.string w6)], .plc 9 [.val (.string w0)], .val (.string w0), .val (.int .i64 c)]) (w := w) (fuel := 300) (args := [.one (.ref 3)]) (vs := [.string s]) (r := .tup [.agg [.b false, .sl0, .sl0, .b false, .sl0, .sl0, .b false, .sl0, .sl0, .b false, .sl0, .sl0, .b false, .sl0, .sl0, .b false, .sl0, .sl0, .b false, .sl0, .sl0], .one (.ref 7)])
    (il_cons (I_Split (n := 3) (m := 4) (s := s) (ss := [w0, w1, w2, w3, w4, w5, w6]) rfl rfl hw (by omega)) (il_cons (I_fParse (n := 6) (k := 0) (s := w0) rfl rfl (lr (n := 7) rfl) h0 z0) il_nil))
    (ol_cons (o_lenR (n := 4) (t := 64) ⟨_, Tryz.underlying64⟩ rfl (li rfl)) (ol_cons (o_iaL (k := 0) (l := .i .i64 0) (sz := 1) (qs' := [.val (.string w0)]) (n := 4) (m := 5) Tryz.underlying64 (by kernel_rfl) rfl rfl (fun _ _ _ h => h) (by decide) (by simp) (fun j q hq => by match j, hq with | 0, hq => simp at hq; subst hq; rfl | j + 1, hq => simp at hq)) (ol_cons (o_ldP (n := 5) (l := .ref 6) (t := 9) (by kernel_rfl) rfl (lq rfl)) (ol_cons (o_neqK (n := 7) (c := 0) (u := c) (b := true) (t := 39) rfl (bneq_t hc)) (ol_nil))))) (by kernel_rfl) Tryz.func15 (by kernel_rfl) ⟨ls (n := 3) rfl (fun _ => none) w, trivial⟩).mono ?_
  rintro e w' ⟨v, rfl, ⟨vs, rfl, h1⟩, h2⟩
  match vs, h1 with
  | [r, cv], h1 =>
    obtain ⟨⟨cs, rfl, k1⟩, k2, _⟩ := h1
    obtain ⟨sv, q1, q2⟩ := k2
    have q3 : some (Vp.val (.int .i64 c)) = some sv := q1
    injection q3 with q3
    subst q3
    have k2 : cv = .int .i64 c := q2.1.1
    subst k2
    exact ⟨_, rfl, ⟨_, rfl, zero_row (n := 7) k1⟩, h2⟩
def xpD1X (s w0 w1 w2 w3 w4 w5 w6 : ByteArray) (x0 x1 : Fq) (c : Int) : List Fq := [x0, x1]
theorem q_pD1 (s w0 w1 w2 w3 w4 w5 w6 : ByteArray) (x0 x1 : Fq) (c : Int) (w : World) (hw : Lib.splitB (b1 32) 0 (Lib.countB s (b1 32)) s = [w0, w1, w2, w3, w4, w5, w6]) (h0 : FP w0 x0 0) (h1 : FP w1 x1 c) (hc : c ≠ 0) (z0 : w0.size ≤ 4294967280) (z1 : w1.size ≤ 4294967280) (hs : s.size ≤ 4294967280) : Calls Tryz.prog 15 #[.string s] w fun e w' => RetOqE w .zero c e w' := by
  refine (calls_runFn (ρ := frs (xpD1X s w0 w1 w2 w3 w4 w5 w6 x0 x1 c) ++ [.val (.string s), .row 9 7 [.val (.string w0), .val (.string w1), .val (.string w2), .val (.string w3), .val (.string w4), .val (.string w5), .val (.string w6)], .plc 9 [.val (.string w0)], .val (.string w0), .plc 9 [.val (.string w1)], .val (.string w1), .val (.int .i64 c)]) (w := w) (fuel := 300) (args := [.one (.ref 6)]) (vs := [.string s]) (r := .tup [.agg [.b false, .sl0, .sl0, .b false, .sl0, .sl0, .b false, .sl0, .sl0, .b false, .sl0, .sl0, .b false, .sl0, .sl0, .b false, .sl0, .sl0, .b false, .sl0, .sl0], .one (.ref 12)])
    (il_cons (I_Split (n := 6) (m := 7) (s := s) (ss := [w0, w1, w2, w3, w4, w5, w6]) rfl rfl hw (by omega)) (il_cons (I_fParse (n := 9) (k := 0) (s := w0) rfl rfl (li rfl) h0 z0) (il_cons (I_fParse (n := 11) (k := 1) (s := w1) rfl rfl (lr (n := 12) rfl) h1 z1) il_nil)))
    (ol_cons (o_lenR (n := 7) (t := 64) ⟨_, Tryz.underlying64⟩ rfl (li rfl)) (ol_cons (o_iaL (k := 0) (l := .i .i64 0) (sz := 1) (qs' := [.val (.string w0)]) (n := 7) (m := 8) Tryz.underlying64 (by kernel_rfl) rfl rfl (fun _ _ _ h => h) (by decide) (by simp) (fun j q hq => by match j, hq with | 0, hq => simp at hq; subst hq; rfl | j + 1, hq => simp at hq)) (ol_cons (o_ldP (n := 8) (l := .ref 9) (t := 9) (by kernel_rfl) rfl (lq rfl)) (ol_cons (o_iaL (k := 1) (l := .i .i64 1) (sz := 1) (qs' := [.val (.string w1)]) (n := 7) (m := 10) Tryz.underlying64 (by kernel_rfl) rfl rfl (fun _ _ _ h => h) (by decide) (by simp) (fun j q hq => by match j, hq with | 0, hq => simp at hq; subst hq; rfl | j + 1, hq => simp at hq)) (ol_cons (o_ldP (n := 10) (l := .ref 11) (t := 9) (by kernel_rfl) rfl (lq rfl)) (ol_cons (o_neqK (n := 12) (c := 0) (u := c) (b := true) (t := 39) rfl (bneq_t hc)) (ol_nil))))))) (by kernel_rfl) Tryz.func15 (by kernel_rfl) ⟨ls (n := 6) rfl (fun _ => none) w, trivial⟩).mono ?_
  rintro e w' ⟨v, rfl, ⟨vs, rfl, h1⟩, h2⟩
  match vs, h1 with
  | [r, cv], h1 =>
    obtain ⟨⟨cs, rfl, k1⟩, k2, _⟩ := h1
    obtain ⟨sv, q1, q2⟩ := k2
    have q3 : some (Vp.val (.int .i64 c)) = some sv := q1
    injection q3 with q3
    subst q3
    have k2 : cv = .int .i64 c := q2.1.1
    subst k2
    exact ⟨_, rfl, ⟨_, rfl, zero_row (n := 7) k1⟩, h2⟩
def xpD2X (s w0 w1 w2 w3 w4 w5 w6 : ByteArray) (x0 x1 x2 : Fq) (c : Int) : List Fq := [x0, x1, x2]
theorem q_pD2 (s w0 w1 w2 w3 w4 w5 w6 : ByteArray) (x0 x1 x2 : Fq) (c : Int) (w : World) (hw : Lib.splitB (b1 32) 0 (Lib.countB s (b1 32)) s = [w0, w1, w2, w3, w4, w5, w6]) (h0 : FP w0 x0 0) (h1 : FP w1 x1 0) (h2 : FP w2 x2 c) (hc : c ≠ 0) (z0 : w0.size ≤ 4294967280) (z1 : w1.size ≤ 4294967280) (z2 : w2.size ≤ 4294967280) (hs : s.size ≤ 4294967280) : Calls Tryz.prog 15 #[.string s] w fun e w' => RetOqE w .zero c e w' := by
  refine (calls_runFn (ρ := frs (xpD2X s w0 w1 w2 w3 w4 w5 w6 x0 x1 x2 c) ++ [.val (.string s), .row 9 7 [.val (.string w0), .val (.string w1), .val (.string w2), .val (.string w3), .val (.string w4), .val (.string w5), .val (.string w6)], .plc 9 [.val (.string w0)], .val (.string w0), .plc 9 [.val (.string w1)], .val (.string w1), .plc 9 [.val (.string w2)], .val (.string w2), .val (.int .i64 c)]) (w := w) (fuel := 300) (args := [.one (.ref 9)]) (vs := [.string s]) (r := .tup [.agg [.b false, .sl0, .sl0, .b false, .sl0, .sl0, .b false, .sl0, .sl0, .b false, .sl0, .sl0, .b false, .sl0, .sl0, .b false, .sl0, .sl0, .b false, .sl0, .sl0], .one (.ref 17)])
    (il_cons (I_Split (n := 9) (m := 10) (s := s) (ss := [w0, w1, w2, w3, w4, w5, w6]) rfl rfl hw (by omega)) (il_cons (I_fParse (n := 12) (k := 0) (s := w0) rfl rfl (li rfl) h0 z0) (il_cons (I_fParse (n := 14) (k := 1) (s := w1) rfl rfl (li rfl) h1 z1) (il_cons (I_fParse (n := 16) (k := 2) (s := w2) rfl rfl (lr (n := 17) rfl) h2 z2) il_nil))))
    (ol_cons (o_lenR (n := 10) (t := 64) ⟨_, Tryz.underlying64⟩ rfl (li rfl)) (ol_cons (o_iaL (k := 0) (l := .i .i64 0) (sz := 1) (qs' := [.val (.string w0)]) (n := 10) (m := 11) Tryz.underlying64 (by kernel_rfl) rfl rfl (fun _ _ _ h => h) (by decide) (by simp) (fun j q hq => by match j, hq with | 0, hq => simp at hq; subst hq; rfl | j + 1, hq => simp at hq)) (ol_cons (o_ldP (n := 11) (l := .ref 12) (t := 9) (by kernel_rfl) rfl (lq rfl)) (ol_cons (o_iaL (k := 1) (l := .i .i64 1) (sz := 1) (qs' := [.val (.string w1)]) (n := 10) (m := 13) Tryz.underlying64 (by kernel_rfl) rfl rfl (fun _ _ _ h => h) (by decide) (by simp) (fun j q hq => by match j, hq with | 0, hq => simp at hq; subst hq; rfl | j + 1, hq => simp at hq)) (ol_cons (o_ldP (n := 13) (l := .ref 14) (t := 9) (by kernel_rfl) rfl (lq rfl)) (ol_cons (o_iaL (k := 2) (l := .i .i64 2) (sz := 1) (qs' := [.val (.string w2)]) (n := 10) (m := 15) Tryz.underlying64 (by kernel_rfl) rfl rfl (fun _ _ _ h => h) (by decide) (by simp) (fun j q hq => by match j, hq with | 0, hq => simp at hq; subst hq; rfl | j + 1, hq => simp at hq)) (ol_cons (o_ldP (n := 15) (l := .ref 16) (t := 9) (by kernel_rfl) rfl (lq rfl)) (ol_cons (o_neqK (n := 17) (c := 0) (u := c) (b := true) (t := 39) rfl (bneq_t hc)) (ol_nil))))))))) (by kernel_rfl) Tryz.func15 (by kernel_rfl) ⟨ls (n := 9) rfl (fun _ => none) w, trivial⟩).mono ?_
  rintro e w' ⟨v, rfl, ⟨vs, rfl, h1⟩, h2⟩
  match vs, h1 with
  | [r, cv], h1 =>
    obtain ⟨⟨cs, rfl, k1⟩, k2, _⟩ := h1
    obtain ⟨sv, q1, q2⟩ := k2
    have q3 : some (Vp.val (.int .i64 c)) = some sv := q1
    injection q3 with q3
    subst q3
    have k2 : cv = .int .i64 c := q2.1.1
    subst k2
    exact ⟨_, rfl, ⟨_, rfl, zero_row (n := 7) k1⟩, h2⟩
def xpD3X (s w0 w1 w2 w3 w4 w5 w6 : ByteArray) (x0 x1 x2 x3 : Fq) (c : Int) : List Fq := [x0, x1, x2, x3]
theorem q_pD3 (s w0 w1 w2 w3 w4 w5 w6 : ByteArray) (x0 x1 x2 x3 : Fq) (c : Int) (w : World) (hw : Lib.splitB (b1 32) 0 (Lib.countB s (b1 32)) s = [w0, w1, w2, w3, w4, w5, w6]) (h0 : FP w0 x0 0) (h1 : FP w1 x1 0) (h2 : FP w2 x2 0) (h3 : FP w3 x3 c) (hc : c ≠ 0) (z0 : w0.size ≤ 4294967280) (z1 : w1.size ≤ 4294967280) (z2 : w2.size ≤ 4294967280) (z3 : w3.size ≤ 4294967280) (hs : s.size ≤ 4294967280) : Calls Tryz.prog 15 #[.string s] w fun e w' => RetOqE w .zero c e w' := by
  refine (calls_runFn (ρ := frs (xpD3X s w0 w1 w2 w3 w4 w5 w6 x0 x1 x2 x3 c) ++ [.val (.string s), .row 9 7 [.val (.string w0), .val (.string w1), .val (.string w2), .val (.string w3), .val (.string w4), .val (.string w5), .val (.string w6)], .plc 9 [.val (.string w0)], .val (.string w0), .plc 9 [.val (.string w1)], .val (.string w1), .plc 9 [.val (.string w2)], .val (.string w2), .plc 9 [.val (.string w3)], .val (.string w3), .val (.int .i64 c)]) (w := w) (fuel := 300) (args := [.one (.ref 12)]) (vs := [.string s]) (r := .tup [.agg [.b false, .sl0, .sl0, .b false, .sl0, .sl0, .b false, .sl0, .sl0, .b false, .sl0, .sl0, .b false, .sl0, .sl0, .b false, .sl0, .sl0, .b false, .sl0, .sl0], .one (.ref 22)])
    (il_cons (I_Split (n := 12) (m := 13) (s := s) (ss := [w0, w1, w2, w3, w4, w5, w6]) rfl rfl hw (by omega)) (il_cons (I_fParse (n := 15) (k := 0) (s := w0) rfl rfl (li rfl) h0 z0) (il_cons (I_fParse (n := 17) (k := 1) (s := w1) rfl rfl (li rfl) h1 z1) (il_cons (I_fParse (n := 19) (k := 2) (s := w2) rfl rfl (li rfl) h2 z2) (il_cons (I_fParse (n := 21) (k := 3) (s := w3) rfl rfl (lr (n := 22) rfl) h3 z3) il_nil)))))
    (ol_cons (o_lenR (n := 13) (t := 64) ⟨_, Tryz.underlying64⟩ rfl (li rfl)) (ol_cons (o_iaL (k := 0) (l := .i .i64 0) (sz := 1) (qs' := [.val (.string w0)]) (n := 13) (m := 14) Tryz.underlying64 (by kernel_rfl) rfl rfl (fun _ _ _ h => h) (by decide) (by simp) (fun j q hq => by match j, hq with | 0, hq => simp at hq; subst hq; rfl | j + 1, hq => simp at hq)) (ol_cons (o_ldP (n := 14) (l := .ref 15) (t := 9) (by kernel_rfl) rfl (lq rfl)) (ol_cons (o_iaL (k := 1) (l := .i .i64 1) (sz := 1) (qs' := [.val (.string w1)]) (n := 13) (m := 16) Tryz.underlying64 (by kernel_rfl) rfl rfl (fun _ _ _ h => h) (by decide) (by simp) (fun j q hq => by match j, hq with | 0, hq => simp at hq; subst hq; rfl | j + 1, hq => simp at hq)) (ol_cons (o_ldP (n := 16) (l := .ref 17) (t := 9) (by kernel_rfl) rfl (lq rfl)) (ol_cons (o_iaL (k := 2) (l := .i .i64 2) (sz := 1) (qs' := [.val (.string w2)]) (n := 13) (m := 18) Tryz.underlying64 (by kernel_rfl) rfl rfl (fun _ _ _ h => h) (by decide) (by simp) (fun j q hq => by match j, hq with | 0, hq => simp at hq; subst hq; rfl | j + 1, hq => simp at hq)) (ol_cons (o_ldP (n := 18) (l := .ref 19) (t := 9) (by kernel_rfl) rfl (lq rfl)) (ol_cons (o_iaL (k := 3) (l := .i .i64 3) (sz := 1) (qs' := [.val (.string w3)]) (n := 13) (m := 20) Tryz.underlying64 (by kernel_rfl) rfl rfl (fun _ _ _ h => h) (by decide) (by simp) (fun j q hq => by match j, hq with | 0, hq => simp at hq; subst hq; rfl | j + 1, hq => simp at hq)) (ol_cons (o_ldP (n := 20) (l := .ref 21) (t := 9) (by kernel_rfl) rfl (lq rfl)) (ol_cons (o_neqK (n := 22) (c := 0) (u := c) (b := true) (t := 39) rfl (bneq_t hc)) (ol_nil))))))))))) (by kernel_rfl) Tryz.func15 (by kernel_rfl) ⟨ls (n := 12) rfl (fun _ => none) w, trivial⟩).mono ?_
  rintro e w' ⟨v, rfl, ⟨vs, rfl, h1⟩, h2⟩
  match vs, h1 with
  | [r, cv], h1 =>
    obtain ⟨⟨cs, rfl, k1⟩, k2, _⟩ := h1
    obtain ⟨sv, q1, q2⟩ := k2
    have q3 : some (Vp.val (.int .i64 c)) = some sv := q1
    injection q3 with q3
    subst q3
    have k2 : cv = .int .i64 c := q2.1.1
    subst k2
    exact ⟨_, rfl, ⟨_, rfl, zero_row (n := 7) k1⟩, h2⟩
def xpD4X (s w0 w1 w2 w3 w4 w5 w6 : ByteArray) (x0 x1 x2 x3 x4 : Fq) (c : Int) : List Fq := [x0, x1, x2, x3, x4]
theorem q_pD4 (s w0 w1 w2 w3 w4 w5 w6 : ByteArray) (x0 x1 x2 x3 x4 : Fq) (c : Int) (w : World) (hw : Lib.splitB (b1 32) 0 (Lib.countB s (b1 32)) s = [w0, w1, w2, w3, w4, w5, w6]) (h0 : FP w0 x0 0) (h1 : FP w1 x1 0) (h2 : FP w2 x2 0) (h3 : FP w3 x3 0) (h4 : FP w4 x4 c) (hc : c ≠ 0) (z0 : w0.size ≤ 4294967280) (z1 : w1.size ≤ 4294967280) (z2 : w2.size ≤ 4294967280) (z3 : w3.size ≤ 4294967280) (z4 : w4.size ≤ 4294967280) (hs : s.size ≤ 4294967280) : Calls Tryz.prog 15 #[.string s] w fun e w' => RetOqE w .zero c e w' := by
  refine (calls_runFn (ρ := frs (xpD4X s w0 w1 w2 w3 w4 w5 w6 x0 x1 x2 x3 x4 c) ++ [.val (.string s), .row 9 7 [.val (.string w0), .val (.string w1), .val (.string w2), .val (.string w3), .val (.string w4), .val (.string w5), .val (.string w6)], .plc 9 [.val (.string w0)], .val (.string w0), .plc 9 [.val (.string w1)], .val (.string w1), .plc 9 [.val (.string w2)], .val (.string w2), .plc 9 [.val (.string w3)], .val (.string w3), .plc 9 [.val (.string w4)], .val (.string w4), .val (.int .i64 c)]) (w := w) (fuel := 300) (args := [.one (.ref 15)]) (vs := [.string s]) (r := .tup [.agg [.b false, .sl0, .sl0, .b false, .sl0, .sl0, .b false, .sl0, .sl0, .b false, .sl0, .sl0, .b false, .sl0, .sl0, .b false, .sl0, .sl0, .b false, .sl0, .sl0], .one (.ref 27)])
    (il_cons (I_Split (n := 15) (m := 16) (s := s) (ss := [w0, w1, w2, w3, w4, w5, w6]) rfl rfl hw (by omega)) (il_cons (I_fParse (n := 18) (k := 0) (s := w0) rfl rfl (li rfl) h0 z0) (il_cons (I_fParse (n := 20) (k := 1) (s := w1) rfl rfl (li rfl) h1 z1) (il_cons (I_fParse (n := 22) (k := 2) (s := w2) rfl rfl (li rfl) h2 z2) (il_cons (I_fParse (n := 24) (k := 3) (s := w3) rfl rfl (li rfl) h3 z3) (il_cons (I_fParse (n := 26) (k := 4) (s := w4) rfl rfl (lr (n := 27) rfl) h4 z4) il_nil))))))
    (ol_cons (o_lenR (n := 16) (t := 64) ⟨_, Tryz.underlying64⟩ rfl (li rfl)) (ol_cons (o_iaL (k := 0) (l := .i .i64 0) (sz := 1) (qs' := [.val (.string w0)]) (n := 16) (m := 17) Tryz.underlying64 (by kernel_rfl) rfl rfl (fun _ _ _ h => h) (by decide) (by simp) (fun j q hq => by match j, hq with | 0, hq => simp at hq; subst hq; rfl | j + 1, hq => simp at hq)) (ol_cons (o_ldP (n := 17) (l := .ref 18) (t := 9) (by kernel_rfl) rfl (lq rfl)) (ol_cons (o_iaL (k := 1) (l := .i .i64 1) (sz := 1) (qs' := [.val (.string w1)]) (n := 16) (m := 19) Tryz.underlying64 (by kernel_rfl) rfl rfl (fun _ _ _ h => h) (by decide) (by simp) (fun j q hq => by match j, hq with | 0, hq => simp at hq; subst hq; rfl | j + 1, hq => simp at hq)) (ol_cons (o_ldP (n := 19) (l := .ref 20) (t := 9) (by kernel_rfl) rfl (lq rfl)) (ol_cons (o_iaL (k := 2) (l := .i .i64 2) (sz := 1) (qs' := [.val (.string w2)]) (n := 16) (m := 21) Tryz.underlying64 (by kernel_rfl) rfl rfl (fun _ _ _ h => h) (by decide) (by simp) (fun j q hq => by match j, hq with | 0, hq => simp at hq; subst hq; rfl | j + 1, hq => simp at hq)) (ol_cons (o_ldP (n := 21) (l := .ref 22) (t := 9) (by kernel_rfl) rfl (lq rfl)) (ol_cons (o_iaL (k := 3) (l := .i .i64 3) (sz := 1) (qs' := [.val (.string w3)]) (n := 16) (m := 23) Tryz.underlying64 (by kernel_rfl) rfl rfl (fun _ _ _ h => h) (by decide) (by simp) (fun j q hq => by match j, hq with | 0, hq => simp at hq; subst hq; rfl | j + 1, hq => simp at hq)) (ol_cons (o_ldP (n := 23) (l := .ref 24) (t := 9) (by kernel_rfl) rfl (lq rfl)) (ol_cons (o_iaL (k := 4) (l := .i .i64 4) (sz := 1) (qs' := [.val (.string w4)]) (n := 16) (m := 25) Tryz.underlying64 (by kernel_rfl) rfl rfl (fun _ _ _ h => h) (by decide) (by simp) (fun j q hq => by match j, hq with | 0, hq => simp at hq; subst hq; rfl | j + 1, hq => simp at hq)) (ol_cons (o_ldP (n := 25) (l := .ref 26) (t := 9) (by kernel_rfl) rfl (lq rfl)) (ol_cons (o_neqK (n := 27) (c := 0) (u := c) (b := true) (t := 39) rfl (bneq_t hc)) (ol_nil))))))))))))) (by kernel_rfl) Tryz.func15 (by kernel_rfl) ⟨ls (n := 15) rfl (fun _ => none) w, trivial⟩).mono ?_
  rintro e w' ⟨v, rfl, ⟨vs, rfl, h1⟩, h2⟩
  match vs, h1 with
  | [r, cv], h1 =>
    obtain ⟨⟨cs, rfl, k1⟩, k2, _⟩ := h1
    obtain ⟨sv, q1, q2⟩ := k2
    have q3 : some (Vp.val (.int .i64 c)) = some sv := q1
    injection q3 with q3
    subst q3
    have k2 : cv = .int .i64 c := q2.1.1
    subst k2
    exact ⟨_, rfl, ⟨_, rfl, zero_row (n := 7) k1⟩, h2⟩
def xpD5X (s w0 w1 w2 w3 w4 w5 w6 : ByteArray) (x0 x1 x2 x3 x4 x5 : Fq) (c : Int) : List Fq := [x0, x1, x2, x3, x4, x5]
theorem q_pD5 (s w0 w1 w2 w3 w4 w5 w6 : ByteArray) (x0 x1 x2 x3 x4 x5 : Fq) (c : Int) (w : World) (hw : Lib.splitB (b1 32) 0 (Lib.countB s (b1 32)) s = [w0, w1, w2, w3, w4, w5, w6]) (h0 : FP w0 x0 0) (h1 : FP w1 x1 0) (h2 : FP w2 x2 0) (h3 : FP w3 x3 0) (h4 : FP w4 x4 0) (h5 : FP w5 x5 c) (hc : c ≠ 0) (z0 : w0.size ≤ 4294967280) (z1 : w1.size ≤ 4294967280) (z2 : w2.size ≤ 4294967280) (z3 : w3.size ≤ 4294967280) (z4 : w4.size ≤ 4294967280) (z5 : w5.size ≤ 4294967280) (hs : s.size ≤ 4294967280) : Calls Tryz.prog 15 #[.string s] w fun e w' => RetOqE w .zero c e w' := by
  refine (calls_runFn (ρ := frs (xpD5X s w0 w1 w2 w3 w4 w5 w6 x0 x1 x2 x3 x4 x5 c) ++ [.val (.string s), .row 9 7 [.val (.string w0), .val (.string w1), .val (.string w2), .val (.string w3), .val (.string w4), .val (.string w5), .val (.string w6)], .plc 9 [.val (.string w0)], .val (.string w0), .plc 9 [.val (.string w1)], .val (.string w1), .plc 9 [.val (.string w2)], .val (.string w2), .plc 9 [.val (.string w3)], .val (.string w3), .plc 9 [.val (.string w4)], .val (.string w4), .plc 9 [.val (.string w5)], .val (.string w5), .val (.int .i64 c)]) (w := w) (fuel := 300) (args := [.one (.ref 18)]) (vs := [.string s]) (r := .tup [.agg [.b false, .sl0, .sl0, .b false, .sl0, .sl0, .b false, .sl0, .sl0, .b false, .sl0, .sl0, .b false, .sl0, .sl0, .b false, .sl0, .sl0, .b false, .sl0, .sl0], .one (.ref 32)])
    (il_cons (I_Split (n := 18) (m := 19) (s := s) (ss := [w0, w1, w2, w3, w4, w5, w6]) rfl rfl hw (by omega)) (il_cons (I_fParse (n := 21) (k := 0) (s := w0) rfl rfl (li rfl) h0 z0) (il_cons (I_fParse (n := 23) (k := 1) (s := w1) rfl rfl (li rfl) h1 z1) (il_cons (I_fParse (n := 25) (k := 2) (s := w2) rfl rfl (li rfl) h2 z2) (il_cons (I_fParse (n := 27) (k := 3) (s := w3) rfl rfl (li rfl) h3 z3) (il_cons (I_fParse (n := 29) (k := 4) (s := w4) rfl rfl (li rfl) h4 z4) (il_cons (I_fParse (n := 31) (k := 5) (s := w5) rfl rfl (lr (n := 32) rfl) h5 z5) il_nil)))))))
    (ol_cons (o_lenR (n := 19) (t := 64) ⟨_, Tryz.underlying64⟩ rfl (li rfl)) (ol_cons (o_iaL (k := 0) (l := .i .i64 0) (sz := 1) (qs' := [.val (.string w0)]) (n := 19) (m := 20) Tryz.underlying64 (by kernel_rfl) rfl rfl (fun _ _ _ h => h) (by decide) (by simp) (fun j q hq => by match j, hq with | 0, hq => simp at hq; subst hq; rfl | j + 1, hq => simp at hq)) (ol_cons (o_ldP (n := 20) (l := .ref 21) (t := 9) (by kernel_rfl) rfl (lq rfl)) (ol_cons (o_iaL (k := 1) (l := .i .i64 1) (sz := 1) (qs' := [.val (.string w1)]) (n := 19) (m := 22) Tryz.underlying64 (by kernel_rfl) rfl rfl (fun _ _ _ h => h) (by decide) (by simp) (fun j q hq => by match j, hq with | 0, hq => simp at hq; subst hq; rfl | j + 1, hq => simp at hq)) (ol_cons (o_ldP (n := 22) (l := .ref 23) (t := 9) (by kernel_rfl) rfl (lq rfl)) (ol_cons (o_iaL (k := 2) (l := .i .i64 2) (sz := 1) (qs' := [.val (.string w2)]) (n := 19) (m := 24) Tryz.underlying64 (by kernel_rfl) rfl rfl (fun _ _ _ h => h) (by decide) (by simp) (fun j q hq => by match j, hq with | 0, hq => simp at hq; subst hq; rfl | j + 1, hq => simp at hq)) (ol_cons (o_ldP (n := 24) (l := .ref 25) (t := 9) (by kernel_rfl) rfl (lq rfl)) (ol_cons (o_iaL (k := 3) (l := .i .i64 3) (sz := 1) (qs' := [.val (.string w3)]) (n := 19) (m := 26) Tryz.underlying64 (by kernel_rfl) rfl rfl (fun _ _ _ h => h) (by decide) (by simp) (fun j q hq => by match j, hq with | 0, hq => simp at hq; subst hq; rfl | j + 1, hq => simp at hq)) (ol_cons (o_ldP (n := 26) (l := .ref 27) (t := 9) (by kernel_rfl) rfl (lq rfl)) (ol_cons (o_iaL (k := 4) (l := .i .i64 4) (sz := 1) (qs' := [.val (.string w4)]) (n := 19) (m := 28) Tryz.underlying64 (by kernel_rfl) rfl rfl (fun _ _ _ h => h) (by decide) (by simp) (fun j q hq => by match j, hq with | 0, hq => simp at hq; subst hq; rfl | j + 1, hq => simp at hq)) (ol_cons (o_ldP (n := 28) (l := .ref 29) (t := 9) (by kernel_rfl) rfl (lq rfl)) (ol_cons (o_iaL (k := 5) (l := .i .i64 5) (sz := 1) (qs' := [.val (.string w5)]) (n := 19) (m := 30) Tryz.underlying64 (by kernel_rfl) rfl rfl (fun _ _ _ h => h) (by decide) (by simp) (fun j q hq => by match j, hq with | 0, hq => simp at hq; subst hq; rfl | j + 1, hq => simp at hq)) (ol_cons (o_ldP (n := 30) (l := .ref 31) (t := 9) (by kernel_rfl) rfl (lq rfl)) (ol_cons (o_neqK (n := 32) (c := 0) (u := c) (b := true) (t := 39) rfl (bneq_t hc)) (ol_nil))))))))))))))) (by kernel_rfl) Tryz.func15 (by kernel_rfl) ⟨ls (n := 18) rfl (fun _ => none) w, trivial⟩).mono ?_
  rintro e w' ⟨v, rfl, ⟨vs, rfl, h1⟩, h2⟩
  match vs, h1 with
  | [r, cv], h1 =>
    obtain ⟨⟨cs, rfl, k1⟩, k2, _⟩ := h1
    obtain ⟨sv, q1, q2⟩ := k2
    have q3 : some (Vp.val (.int .i64 c)) = some sv := q1
    injection q3 with q3
    subst q3
    have k2 : cv = .int .i64 c := q2.1.1
    subst k2
    exact ⟨_, rfl, ⟨_, rfl, zero_row (n := 7) k1⟩, h2⟩
def xpD6X (s w0 w1 w2 w3 w4 w5 w6 : ByteArray) (x0 x1 x2 x3 x4 x5 x6 : Fq) (c : Int) : List Fq := [x0, x1, x2, x3, x4, x5, x6]
theorem q_pD6 (s w0 w1 w2 w3 w4 w5 w6 : ByteArray) (x0 x1 x2 x3 x4 x5 x6 : Fq) (c : Int) (w : World) (hw : Lib.splitB (b1 32) 0 (Lib.countB s (b1 32)) s = [w0, w1, w2, w3, w4, w5, w6]) (h0 : FP w0 x0 0) (h1 : FP w1 x1 0) (h2 : FP w2 x2 0) (h3 : FP w3 x3 0) (h4 : FP w4 x4 0) (h5 : FP w5 x5 0) (h6 : FP w6 x6 c) (hc : c ≠ 0) (z0 : w0.size ≤ 4294967280) (z1 : w1.size ≤ 4294967280) (z2 : w2.size ≤ 4294967280) (z3 : w3.size ≤ 4294967280) (z4 : w4.size ≤ 4294967280) (z5 : w5.size ≤ 4294967280) (z6 : w6.size ≤ 4294967280) (hs : s.size ≤ 4294967280) : Calls Tryz.prog 15 #[.string s] w fun e w' => RetOqE w .zero c e w' := by
  refine (calls_runFn (ρ := frs (xpD6X s w0 w1 w2 w3 w4 w5 w6 x0 x1 x2 x3 x4 x5 x6 c) ++ [.val (.string s), .row 9 7 [.val (.string w0), .val (.string w1), .val (.string w2), .val (.string w3), .val (.string w4), .val (.string w5), .val (.string w6)], .plc 9 [.val (.string w0)], .val (.string w0), .plc 9 [.val (.string w1)], .val (.string w1), .plc 9 [.val (.string w2)], .val (.string w2), .plc 9 [.val (.string w3)], .val (.string w3), .plc 9 [.val (.string w4)], .val (.string w4), .plc 9 [.val (.string w5)], .val (.string w5), .plc 9 [.val (.string w6)], .val (.string w6), .val (.int .i64 c)]) (w := w) (fuel := 300) (args := [.one (.ref 21)]) (vs := [.string s]) (r := .tup [.agg [.b false, .sl0, .sl0, .b false, .sl0, .sl0, .b false, .sl0, .sl0, .b false, .sl0, .sl0, .b false, .sl0, .sl0, .b false, .sl0, .sl0, .b false, .sl0, .sl0], .one (.ref 37)])
    (il_cons (I_Split (n := 21) (m := 22) (s := s) (ss := [w0, w1, w2, w3, w4, w5, w6]) rfl rfl hw (by omega)) (il_cons (I_fParse (n := 24) (k := 0) (s := w0) rfl rfl (li rfl) h0 z0) (il_cons (I_fParse (n := 26) (k := 1) (s := w1) rfl rfl (li rfl) h1 z1) (il_cons (I_fParse (n := 28) (k := 2) (s := w2) rfl rfl (li rfl) h2 z2) (il_cons (I_fParse (n := 30) (k := 3) (s := w3) rfl rfl (li rfl) h3 z3) (il_cons (I_fParse (n := 32) (k := 4) (s := w4) rfl rfl (li rfl) h4 z4) (il_cons (I_fParse (n := 34) (k := 5) (s := w5) rfl rfl (li rfl) h5 z5) (il_cons (I_fParse (n := 36) (k := 6) (s := w6) rfl rfl (lr (n := 37) rfl) h6 z6) il_nil))))))))
    (ol_cons (o_lenR (n := 22) (t := 64) ⟨_, Tryz.underlying64⟩ rfl (li rfl)) (ol_cons (o_iaL (k := 0) (l := .i .i64 0) (sz := 1) (qs' := [.val (.string w0)]) (n := 22) (m := 23) Tryz.underlying64 (by kernel_rfl) rfl rfl (fun _ _ _ h => h) (by decide) (by simp) (fun j q hq => by match j, hq with | 0, hq => simp at hq; subst hq; rfl | j + 1, hq => simp at hq)) (ol_cons (o_ldP (n := 23) (l := .ref 24) (t := 9) (by kernel_rfl) rfl (lq rfl)) (ol_cons (o_iaL (k := 1) (l := .i .i64 1) (sz := 1) (qs' := [.val (.string w1)]) (n := 22) (m := 25) Tryz.underlying64 (by kernel_rfl) rfl rfl (fun _ _ _ h => h) (by decide) (by simp) (fun j q hq => by match j, hq with | 0, hq => simp at hq; subst hq; rfl | j + 1, hq => simp at hq)) (ol_cons (o_ldP (n := 25) (l := .ref 26) (t := 9) (by kernel_rfl) rfl (lq rfl)) (ol_cons (o_iaL (k := 2) (l := .i .i64 2) (sz := 1) (qs' := [.val (.string w2)]) (n := 22) (m := 27) Tryz.underlying64 (by kernel_rfl) rfl rfl (fun _ _ _ h => h) (by decide) (by simp) (fun j q hq => by match j, hq with | 0, hq => simp at hq; subst hq; rfl | j + 1, hq => simp at hq)) (ol_cons (o_ldP (n := 27) (l := .ref 28) (t := 9) (by kernel_rfl) rfl (lq rfl)) (ol_cons (o_iaL (k := 3) (l := .i .i64 3) (sz := 1) (qs' := [.val (.string w3)]) (n := 22) (m := 29) Tryz.underlying64 (by kernel_rfl) rfl rfl (fun _ _ _ h => h) (by decide) (by simp) (fun j q hq => by match j, hq with | 0, hq => simp at hq; subst hq; rfl | j + 1, hq => simp at hq)) (ol_cons (o_ldP (n := 29) (l := .ref 30) (t := 9) (by kernel_rfl) rfl (lq rfl)) (ol_cons (o_iaL (k := 4) (l := .i .i64 4) (sz := 1) (qs' := [.val (.string w4)]) (n := 22) (m := 31) Tryz.underlying64 (by kernel_rfl) rfl rfl (fun _ _ _ h => h) (by decide) (by simp) (fun j q hq => by match j, hq with | 0, hq => simp at hq; subst hq; rfl | j + 1, hq => simp at hq)) (ol_cons (o_ldP (n := 31) (l := .ref 32) (t := 9) (by kernel_rfl) rfl (lq rfl)) (ol_cons (o_iaL (k := 5) (l := .i .i64 5) (sz := 1) (qs' := [.val (.string w5)]) (n := 22) (m := 33) Tryz.underlying64 (by kernel_rfl) rfl rfl (fun _ _ _ h => h) (by decide) (by simp) (fun j q hq => by match j, hq with | 0, hq => simp at hq; subst hq; rfl | j + 1, hq => simp at hq)) (ol_cons (o_ldP (n := 33) (l := .ref 34) (t := 9) (by kernel_rfl) rfl (lq rfl)) (ol_cons (o_iaL (k := 6) (l := .i .i64 6) (sz := 1) (qs' := [.val (.string w6)]) (n := 22) (m := 35) Tryz.underlying64 (by kernel_rfl) rfl rfl (fun _ _ _ h => h) (by decide) (by simp) (fun j q hq => by match j, hq with | 0, hq => simp at hq; subst hq; rfl | j + 1, hq => simp at hq)) (ol_cons (o_ldP (n := 35) (l := .ref 36) (t := 9) (by kernel_rfl) rfl (lq rfl)) (ol_cons (o_neqK (n := 37) (c := 0) (u := c) (b := true) (t := 39) rfl (bneq_t hc)) (ol_nil))))))))))))))))) (by kernel_rfl) Tryz.func15 (by kernel_rfl) ⟨ls (n := 21) rfl (fun _ => none) w, trivial⟩).mono ?_
  rintro e w' ⟨v, rfl, ⟨vs, rfl, h1⟩, h2⟩
  match vs, h1 with
  | [r, cv], h1 =>
    obtain ⟨⟨cs, rfl, k1⟩, k2, _⟩ := h1
    obtain ⟨sv, q1, q2⟩ := k2
    have q3 : some (Vp.val (.int .i64 c)) = some sv := q1
    injection q3 with q3
    subst q3
    have k2 : cv = .int .i64 c := q2.1.1
    subst k2
    exact ⟨_, rfl, ⟨_, rfl, zero_row (n := 7) k1⟩, h2⟩
def xpD7RX (s w0 w1 w2 w3 w4 w5 w6 : ByteArray) (x0 x1 x2 x3 x4 x5 x6 : Fq) : List Fq := [x0, x1, x2, x3, x4, x5, x6]
theorem q_pD7R (s w0 w1 w2 w3 w4 w5 w6 : ByteArray) (x0 x1 x2 x3 x4 x5 x6 : Fq) (w : World) (hw : Lib.splitB (b1 32) 0 (Lib.countB s (b1 32)) s = [w0, w1, w2, w3, w4, w5, w6]) (h0 : FP w0 x0 0) (h1 : FP w1 x1 0) (h2 : FP w2 x2 0) (h3 : FP w3 x3 0) (h4 : FP w4 x4 0) (h5 : FP w5 x5 0) (h6 : FP w6 x6 0) (gc : (Qq.mk x0 x1 x2 x3).comp) (hf : (Qq.mk x0 x1 x2 x3).first ≠ (Fq.ofInt 1)) (z0 : w0.size ≤ 4294967280) (z1 : w1.size ≤ 4294967280) (z2 : w2.size ≤ 4294967280) (z3 : w3.size ≤ 4294967280) (z4 : w4.size ≤ 4294967280) (z5 : w5.size ≤ 4294967280) (z6 : w6.size ≤ 4294967280) (k0 : x0.ok 1000) (k1 : x1.ok 1000) (k2 : x2.ok 1000) (k3 : x3.ok 1000) (k4 : x4.ok 1000) (k5 : x5.ok 1000) (k6 : x6.ok 1000) (hs : s.size ≤ 4294967280) : Calls Tryz.prog 15 #[.string s] w fun e w' => RetOqE w .zero 4 e w' := by
  refine (calls_runFn (ρ := frs (xpD7RX s w0 w1 w2 w3 w4 w5 w6 x0 x1 x2 x3 x4 x5 x6) ++ [.val (.string s), .row 9 7 [.val (.string w0), .val (.string w1), .val (.string w2), .val (.string w3), .val (.string w4), .val (.string w5), .val (.string w6)], .plc 9 [.val (.string w0)], .val (.string w0), .plc 9 [.val (.string w1)], .val (.string w1), .plc 9 [.val (.string w2)], .val (.string w2), .plc 9 [.val (.string w3)], .val (.string w3), .plc 9 [.val (.string w4)], .val (.string w4), .plc 9 [.val (.string w5)], .val (.string w5), .plc 9 [.val (.string w6)], .val (.string w6)]) (w := w) (fuel := 300) (args := [.one (.ref 21)]) (vs := [.string s]) (r := .tup [.agg [.b false, .sl0, .sl0, .b false, .sl0, .sl0, .b false, .sl0, .sl0, .b false, .sl0, .sl0, .b false, .sl0, .sl0, .b false, .sl0, .sl0, .b false, .sl0, .sl0], .one (.i .i64 4)])
    (il_cons (I_Split (n := 21) (m := 22) (s := s) (ss := [w0, w1, w2, w3, w4, w5, w6]) rfl rfl hw (by omega)) (il_cons (I_fParse (n := 24) (k := 0) (s := w0) rfl rfl (li rfl) h0 z0) (il_cons (I_fParse (n := 26) (k := 1) (s := w1) rfl rfl (li rfl) h1 z1) (il_cons (I_fParse (n := 28) (k := 2) (s := w2) rfl rfl (li rfl) h2 z2) (il_cons (I_fParse (n := 30) (k := 3) (s := w3) rfl rfl (li rfl) h3 z3) (il_cons (I_fParse (n := 32) (k := 4) (s := w4) rfl rfl (li rfl) h4 z4) (il_cons (I_fParse (n := 34) (k := 5) (s := w5) rfl rfl (li rfl) h5 z5) (il_cons (I_fParse (n := 36) (k := 6) (s := w6) rfl rfl (li rfl) h6 z6) (il_cons (I_fValidT0 (kq := [0, 1, 2, 3]) (q := (Qq.mk x0 x1 x2 x3)) ⟨rfl, rfl, rfl, rfl, trivial⟩ (⟨k0.mono (by decide), k1.mono (by decide), k2.mono (by decide), k3.mono (by decide)⟩ : Qq.ok 1000000 (Qq.mk x0 x1 x2 x3)) gc hf) il_nil)))))))))
    (ol_cons (o_lenR (n := 22) (t := 64) ⟨_, Tryz.underlying64⟩ rfl (li rfl)) (ol_cons (o_iaL (k := 0) (l := .i .i64 0) (sz := 1) (qs' := [.val (.string w0)]) (n := 22) (m := 23) Tryz.underlying64 (by kernel_rfl) rfl rfl (fun _ _ _ h => h) (by decide) (by simp) (fun j q hq => by match j, hq with | 0, hq => simp at hq; subst hq; rfl | j + 1, hq => simp at hq)) (ol_cons (o_ldP (n := 23) (l := .ref 24) (t := 9) (by kernel_rfl) rfl (lq rfl)) (ol_cons (o_iaL (k := 1) (l := .i .i64 1) (sz := 1) (qs' := [.val (.string w1)]) (n := 22) (m := 25) Tryz.underlying64 (by kernel_rfl) rfl rfl (fun _ _ _ h => h) (by decide) (by simp) (fun j q hq => by match j, hq with | 0, hq => simp at hq; subst hq; rfl | j + 1, hq => simp at hq)) (ol_cons (o_ldP (n := 25) (l := .ref 26) (t := 9) (by kernel_rfl) rfl (lq rfl)) (ol_cons (o_iaL (k := 2) (l := .i .i64 2) (sz := 1) (qs' := [.val (.string w2)]) (n := 22) (m := 27) Tryz.underlying64 (by kernel_rfl) rfl rfl (fun _ _ _ h => h) (by decide) (by simp) (fun j q hq => by match j, hq with | 0, hq => simp at hq; subst hq; rfl | j + 1, hq => simp at hq)) (ol_cons (o_ldP (n := 27) (l := .ref 28) (t := 9) (by kernel_rfl) rfl (lq rfl)) (ol_cons (o_iaL (k := 3) (l := .i .i64 3) (sz := 1) (qs' := [.val (.string w3)]) (n := 22) (m := 29) Tryz.underlying64 (by kernel_rfl) rfl rfl (fun _ _ _ h => h) (by decide) (by simp) (fun j q hq => by match j, hq with | 0, hq => simp at hq; subst hq; rfl | j + 1, hq => simp at hq)) (ol_cons (o_ldP (n := 29) (l := .ref 30) (t := 9) (by kernel_rfl) rfl (lq rfl)) (ol_cons (o_iaL (k := 4) (l := .i .i64 4) (sz := 1) (qs' := [.val (.string w4)]) (n := 22) (m := 31) Tryz.underlying64 (by kernel_rfl) rfl rfl (fun _ _ _ h => h) (by decide) (by simp) (fun j q hq => by match j, hq with | 0, hq => simp at hq; subst hq; rfl | j + 1, hq => simp at hq)) (ol_cons (o_ldP (n := 31) (l := .ref 32) (t := 9) (by kernel_rfl) rfl (lq rfl)) (ol_cons (o_iaL (k := 5) (l := .i .i64 5) (sz := 1) (qs' := [.val (.string w5)]) (n := 22) (m := 33) Tryz.underlying64 (by kernel_rfl) rfl rfl (fun _ _ _ h => h) (by decide) (by simp) (fun j q hq => by match j, hq with | 0, hq => simp at hq; subst hq; rfl | j + 1, hq => simp at hq)) (ol_cons (o_ldP (n := 33) (l := .ref 34) (t := 9) (by kernel_rfl) rfl (lq rfl)) (ol_cons (o_iaL (k := 6) (l := .i .i64 6) (sz := 1) (qs' := [.val (.string w6)]) (n := 22) (m := 35) Tryz.underlying64 (by kernel_rfl) rfl rfl (fun _ _ _ h => h) (by decide) (by simp) (fun j q hq => by match j, hq with | 0, hq => simp at hq; subst hq; rfl | j + 1, hq => simp at hq)) (ol_cons (o_ldP (n := 35) (l := .ref 36) (t := 9) (by kernel_rfl) rfl (lq rfl)) (ol_nil)))))))))))))))) (by kernel_rfl) Tryz.func15 (by kernel_rfl) ⟨ls (n := 21) rfl (fun _ => none) w, trivial⟩).mono ?_
  rintro e w' ⟨v, rfl, ⟨vs, rfl, h1⟩, h2⟩
  match vs, h1 with
  | [r, cv], h1 =>
    obtain ⟨⟨cs, rfl, k1⟩, k2, _⟩ := h1
    have k2 : cv = _ := k2
    subst k2
    exact ⟨_, rfl, ⟨_, rfl, zero_row (n := 7) k1⟩, h2⟩
def xpD7X (s w0 w1 w2 w3 w4 w5 w6 : ByteArray) (x0 x1 x2 x3 x4 x5 x6 : Fq) : List Fq := [x0, x1, x2, x3, x4, x5, x6]
theorem q_pD7 (s w0 w1 w2 w3 w4 w5 w6 : ByteArray) (x0 x1 x2 x3 x4 x5 x6 : Fq) (w : World) (hw : Lib.splitB (b1 32) 0 (Lib.countB s (b1 32)) s = [w0, w1, w2, w3, w4, w5, w6]) (h0 : FP w0 x0 0) (h1 : FP w1 x1 0) (h2 : FP w2 x2 0) (h3 : FP w3 x3 0) (h4 : FP w4 x4 0) (h5 : FP w5 x5 0) (h6 : FP w6 x6 0) (gq : (Qq.mk x0 x1 x2 x3).good) (z0 : w0.size ≤ 4294967280) (z1 : w1.size ≤ 4294967280) (z2 : w2.size ≤ 4294967280) (z3 : w3.size ≤ 4294967280) (z4 : w4.size ≤ 4294967280) (z5 : w5.size ≤ 4294967280) (z6 : w6.size ≤ 4294967280) (k0 : x0.ok 1000) (k1 : x1.ok 1000) (k2 : x2.ok 1000) (k3 : x3.ok 1000) (k4 : x4.ok 1000) (k5 : x5.ok 1000) (k6 : x6.ok 1000) (hs : s.size ≤ 4294967280) : Calls Tryz.prog 15 #[.string s] w fun e w' => RetOqE w ⟨⟨x0, x1, x2, x3⟩, ⟨x4, x5, x6⟩⟩ 0 e w' := by
  refine (calls_runFn (ρ := frs (xpD7X s w0 w1 w2 w3 w4 w5 w6 x0 x1 x2 x3 x4 x5 x6) ++ [.val (.string s), .row 9 7 [.val (.string w0), .val (.string w1), .val (.string w2), .val (.string w3), .val (.string w4), .val (.string w5), .val (.string w6)], .plc 9 [.val (.string w0)], .val (.string w0), .plc 9 [.val (.string w1)], .val (.string w1), .plc 9 [.val (.string w2)], .val (.string w2), .plc 9 [.val (.string w3)], .val (.string w3), .plc 9 [.val (.string w4)], .val (.string w4), .plc 9 [.val (.string w5)], .val (.string w5), .plc 9 [.val (.string w6)], .val (.string w6)]) (w := w) (fuel := 300) (args := [.one (.ref 21)]) (vs := [.string s]) (r := .tup [row [0, 1, 2, 3, 4, 5, 6], .one (.i .i64 0)])
    (il_cons (I_Split (n := 21) (m := 22) (s := s) (ss := [w0, w1, w2, w3, w4, w5, w6]) rfl rfl hw (by omega)) (il_cons (I_fParse (n := 24) (k := 0) (s := w0) rfl rfl (li rfl) h0 z0) (il_cons (I_fParse (n := 26) (k := 1) (s := w1) rfl rfl (li rfl) h1 z1) (il_cons (I_fParse (n := 28) (k := 2) (s := w2) rfl rfl (li rfl) h2 z2) (il_cons (I_fParse (n := 30) (k := 3) (s := w3) rfl rfl (li rfl) h3 z3) (il_cons (I_fParse (n := 32) (k := 4) (s := w4) rfl rfl (li rfl) h4 z4) (il_cons (I_fParse (n := 34) (k := 5) (s := w5) rfl rfl (li rfl) h5 z5) (il_cons (I_fParse (n := 36) (k := 6) (s := w6) rfl rfl (li rfl) h6 z6) (il_cons (I_fValidT1 (kq := [0, 1, 2, 3]) (q := (Qq.mk x0 x1 x2 x3)) ⟨rfl, rfl, rfl, rfl, trivial⟩ (⟨k0.mono (by decide), k1.mono (by decide), k2.mono (by decide), k3.mono (by decide)⟩ : Qq.ok 1000000 (Qq.mk x0 x1 x2 x3)) gq) il_nil)))))))))
    (ol_cons (o_lenR (n := 22) (t := 64) ⟨_, Tryz.underlying64⟩ rfl (li rfl)) (ol_cons (o_iaL (k := 0) (l := .i .i64 0) (sz := 1) (qs' := [.val (.string w0)]) (n := 22) (m := 23) Tryz.underlying64 (by kernel_rfl) rfl rfl (fun _ _ _ h => h) (by decide) (by simp) (fun j q hq => by match j, hq with | 0, hq => simp at hq; subst hq; rfl | j + 1, hq => simp at hq)) (ol_cons (o_ldP (n := 23) (l := .ref 24) (t := 9) (by kernel_rfl) rfl (lq rfl)) (ol_cons (o_iaL (k := 1) (l := .i .i64 1) (sz := 1) (qs' := [.val (.string w1)]) (n := 22) (m := 25) Tryz.underlying64 (by kernel_rfl) rfl rfl (fun _ _ _ h => h) (by decide) (by simp) (fun j q hq => by match j, hq with | 0, hq => simp at hq; subst hq; rfl | j + 1, hq => simp at hq)) (ol_cons (o_ldP (n := 25) (l := .ref 26) (t := 9) (by kernel_rfl) rfl (lq rfl)) (ol_cons (o_iaL (k := 2) (l := .i .i64 2) (sz := 1) (qs' := [.val (.string w2)]) (n := 22) (m := 27) Tryz.underlying64 (by kernel_rfl) rfl rfl (fun _ _ _ h => h) (by decide) (by simp) (fun j q hq => by match j, hq with | 0, hq => simp at hq; subst hq; rfl | j + 1, hq => simp at hq)) (ol_cons (o_ldP (n := 27) (l := .ref 28) (t := 9) (by kernel_rfl) rfl (lq rfl)) (ol_cons (o_iaL (k := 3) (l := .i .i64 3) (sz := 1) (qs' := [.val (.string w3)]) (n := 22) (m := 29) Tryz.underlying64 (by kernel_rfl) rfl rfl (fun _ _ _ h => h) (by decide) (by simp) (fun j q hq => by match j, hq with | 0, hq => simp at hq; subst hq; rfl | j + 1, hq => simp at hq)) (ol_cons (o_ldP (n := 29) (l := .ref 30) (t := 9) (by kernel_rfl) rfl (lq rfl)) (ol_cons (o_iaL (k := 4) (l := .i .i64 4) (sz := 1) (qs' := [.val (.string w4)]) (n := 22) (m := 31) Tryz.underlying64 (by kernel_rfl) rfl rfl (fun _ _ _ h => h) (by decide) (by simp) (fun j q hq => by match j, hq with | 0, hq => simp at hq; subst hq; rfl | j + 1, hq => simp at hq)) (ol_cons (o_ldP (n := 31) (l := .ref 32) (t := 9) (by kernel_rfl) rfl (lq rfl)) (ol_cons (o_iaL (k := 5) (l := .i .i64 5) (sz := 1) (qs' := [.val (.string w5)]) (n := 22) (m := 33) Tryz.underlying64 (by kernel_rfl) rfl rfl (fun _ _ _ h => h) (by decide) (by simp) (fun j q hq => by match j, hq with | 0, hq => simp at hq; subst hq; rfl | j + 1, hq => simp at hq)) (ol_cons (o_ldP (n := 33) (l := .ref 34) (t := 9) (by kernel_rfl) rfl (lq rfl)) (ol_cons (o_iaL (k := 6) (l := .i .i64 6) (sz := 1) (qs' := [.val (.string w6)]) (n := 22) (m := 35) Tryz.underlying64 (by kernel_rfl) rfl rfl (fun _ _ _ h => h) (by decide) (by simp) (fun j q hq => by match j, hq with | 0, hq => simp at hq; subst hq; rfl | j + 1, hq => simp at hq)) (ol_cons (o_ldP (n := 35) (l := .ref 36) (t := 9) (by kernel_rfl) rfl (lq rfl)) (ol_nil)))))))))))))))) (by kernel_rfl) Tryz.func15 (by kernel_rfl) ⟨ls (n := 21) rfl (fun _ => none) w, trivial⟩).mono ?_
  rintro e w' ⟨v, rfl, ⟨vs, rfl, h1⟩, h2⟩
  match vs, h1 with
  | [r, cv], h1 =>
    obtain ⟨⟨cs, rfl, k1⟩, k2, _⟩ := h1
    have k2 : cv = _ := k2
    subst k2
    exact ⟨_, rfl, (row_isL (xs := xpD7X s w0 w1 w2 w3 w4 w5 w6 x0 x1 x2 x3 x4 x5 x6) (ks := [0, 1, 2, 3, 4, 5, 6]) (vs := [x0, x1, x2, x3, x4, x5, x6]) ⟨rfl, rfl, rfl, rfl, rfl, rfl, rfl, trivial⟩).1 ⟨_, rfl, k1⟩, h2⟩
end Go.Proofs.YthebfmlfgfmlnaaGreatDoor
namespace Go.Proofs.YthebfmlfgfmlnaaGreatDoor
set_option linter.unusedSimpArgs false
set_option linter.unusedVariables false
set_option maxRecDepth 100000
open Go.RowKit
def runFnB (p : Program) (C : List Inst) (L : List OIns) (fn : Func) (args : List SV) (fuel : Nat) (lo : Los) : Option (AV × List LOb) :=
  if args.length ≤ fn.ntmps ∧ fn.ntmps ≤ 100000 then
    match fn.body with
    | some c => match execL p C L fn.ntmps fuel c ⟨startS args fn.ntmps, []⟩ lo with
      | some (.ext _, _, _, _) => none
      | some (_, s, _, obs) => match resA p s fn.results.toList with
        | some r => some (r, obs)
        | none => none
      | none => none
    | none => none
  else none
section
variable {p : Program} {ρ : Rho} {w : World} {C : List Inst} {L : List OIns}
/-- The answer, and that what it leans on is new. -/
theorem calls_runFnB (hC : ∀ i ∈ C, i.Ok0 p ρ w) (hO : ∀ i ∈ L, i.Ok p ρ) (hm : p.follows .mixedOrders = true) {f : FuncId} {fn : Func} (hf : p.funcs[f]? = some fn) {args : List SV} {vs : List Value} {fuel : Nat} {lo : Los} {r : AV} {obs : List LOb}
    (h : runFnB p C L fn args fuel lo = some (r, obs)) (hl : ∀ o ∈ obs, o.Ok p ρ w fn.ntmps) (ha : SVsH ρ (fun _ => none) w args vs) : Calls p f vs.toArray w (fun e w' => ∃ v, e = .returned v ∧ (∃ B : Blk, r.holds ρ B w' v ∧ ∀ x g, B x = some g → w.heap.size ≤ g) ∧ Below w.heap.size w w') := by
  unfold runFnB at h
  split at h
  · rename_i hn
    split at h
    · rename_i c hb
      have hst := start_ms hn.1 ha
      have hret : ∀ {s : MS} {e : Ex} {lo' : Los} {obs' : List LOb}, execL p C L fn.ntmps fuel c ⟨startS args fn.ntmps, []⟩ lo = some (e, s, lo', obs') → e = .nrm ∨ e = .ret → (match resA p s fn.results.toList with | some r => some (r, obs') | none => none) = some (r, obs) →
          Calls p f vs.toArray w (fun e w' => ∃ v, e = .returned v ∧ (∃ B : Blk, r.holds ρ B w' v ∧ ∀ x g, B x = some g → w.heap.size ≤ g) ∧ Below w.heap.size w w') := by
        intro s e lo' obs' he hor hr
        split at hr
        · rename_i r' hr'
          simp at hr; obtain ⟨rfl, rfl⟩ := hr
          refine calls_of_wp hf hb (execL_sound hC hO hm he hl _ _ _ hst (fun a' w' hs' => ?_))
          obtain ⟨B, hi, hv, _⟩ := hs'
          obtain ⟨v, h1, h2⟩ := resA_run (p := p) hv hr'
          have hB : ∀ x g, B x = some g → w.heap.size ≤ g := fun x g hx => by
            by_cases hx0 : x < OW
            · exact (hi.blk x g hx0 hx).1
            · exact (hi.own x g (by omega) hx).1
          rcases hor with rfl | rfl
          · exact ⟨hi.dfr, v, h1, v, rfl, ⟨B, h2, hB⟩, hi.below⟩
          · exact ⟨hi.dfr, v, h1, v, rfl, ⟨B, h2, hB⟩, hi.below⟩
        · cases hr
      split at h
      · cases h
      · rename_i e s lo' obs' he hx
        have hor : e = .nrm ∨ e = .ret := by
          cases e with
          | nrm => exact .inl rfl
          | ret => exact .inr rfl
          | ext id => exact (he id rfl).elim
        exact hret hx hor h
      · cases h
    · cases h
  · cases h
end
section
variable {ρ : Rho} {n m k l : Nat} {t : TypeId} {u v : Int} {b : Bool} {ik : IntKind} {s z : ByteArray}
theorem o_leqR (hn : ρ[n]? = some (.val (.int ik u))) (hm : ρ[m]? = some (.val (.int ik v))) (h : (decide (u ≤ v)) = b) : (OIns.mk (.bin .leq t) [.one (.ref n), .one (.ref m)] (.one (.b b))).Ok Tryz.prog ρ := fun B w vs hv => by
  match vs, hv with
  | [v1, v2], hv =>
    have e := leaf_val (B := B) hn hv.1
    have e2 := leaf_val (B := B) hm hv.2.1
    subst e; subst e2
    exact ⟨.bool b, rfl, fun xo yo => by rw [← h]; simp [eqGuard, binOp, Op.intCmp, Sem.run_bind, Result.andThen]⟩
theorem o_slRR (ht : isStrB Tryz.prog t = true) (hn : ρ[n]? = some (.val (.string s))) (hk : ρ[k]? = some (.val (.int .i64 u))) (hl : ρ[l]? = some (.val (.int .i64 v))) (hm : ρ[m]? = some (.val (.string z))) (h0 : 0 ≤ u) (h1 : u ≤ v) (h2 : v ≤ s.size) (hz : s.extract u.toNat v.toNat = z) : (OIns.mk (.sl t true true) [.one (.ref n), .one (.ref k), .one (.ref l)] (.one (.ref m))).Ok Tryz.prog ρ := fun B w vs hv => by
  match vs, hv with
  | [v1, v2, v3], hv =>
    obtain rfl := leaf_val (B := B) hn hv.1
    obtain rfl := leaf_val (B := B) hk hv.2.1
    obtain rfl := leaf_val (B := B) hl hv.2.2.1
    subst hz
    refine ⟨.string (s.extract u.toNat v.toNat), leaf_mk (B := B) hm flat_str, ?_⟩
    have h4 : u ≤ (v.toNat : Int) := by omega
    have h5 : 0 ≤ v := by omega
    have h6 : u ≤ max v 0 := by omega
    simp [Instr.sliceAt, Instr.slice, Instr.sliceBounds, Instr.sliceBound, asIntOf, Sem.run_bind, run_underlying (str_under ht), Result.andThen, h0, h1, h2, h4, h5, h6]
end
end Go.Proofs.YthebfmlfgfmlnaaGreatDoor
namespace Go.Proofs.YthebfmlfgfmlnaaGreatDoor
set_option linter.unusedSimpArgs false
set_option linter.unusedVariables false
set_option maxRecDepth 100000
open Go.RowKit
/-- Behind k rounds: where the present part begins, and the parts that are finished. -/
def spSt (s : ByteArray) : Nat → Nat × List ByteArray
  | 0 => (0, [])
  | k + 1 => if k = s.size ∨ by' s k = 32 then (k + 1, (spSt s k).2 ++ [s.extract (spSt s k).1 k]) else spSt s k
theorem spSt_le (s : ByteArray) : ∀ k, (spSt s k).1 ≤ k ∧ (spSt s k).2.length ≤ k
  | 0 => ⟨Nat.le_refl _, Nat.le_refl _⟩
  | k + 1 => by
    have h := spSt_le s k
    unfold spSt
    split
    · exact ⟨Nat.le_refl _, by simp; omega⟩
    · exact ⟨by omega, by omega⟩
theorem spSt_run (s : ByteArray) {a : Nat} {D : List ByteArray} (h : spSt s a = (a, D)) : ∀ j, a + j ≤ s.size → (∀ m, m < j → by' s (a + m) ≠ 32) → spSt s (a + j) = (a, D)
  | 0, _, _ => h
  | j + 1, hj, hm => by
    have ih := spSt_run s h j (by omega) (fun m h => hm m (by omega))
    show spSt s (a + j + 1) = _
    unfold spSt
    rw [if_neg (fun h => h.elim (fun h => by omega) (hm j (by omega)))]
    exact ih
theorem spSt_end (s : ByteArray) : ∀ (n a : Nat) (D : List ByteArray), s.size - a = n → a ≤ s.size → spSt s a = (a, D) → (spSt s (s.size + 1)).2 = D ++ Lib.splitB (b1 32) 0 (Lib.countB (s.extract a s.size) (b1 32)) (s.extract a s.size) := by
  intro n
  induction n using Nat.strongRecOn with
  | _ n ih =>
    intro a D hn ha h
    have hsz : (s.extract a s.size).size = s.size - a := sz_ex (Nat.le_refl _)
    rcases ch_cases 32 (s.extract a s.size) with ⟨i, hi⟩ | hno
    · have h1 := hi.1
      rw [hsz] at h1
      have hb : by' s (a + i) = 32 := by have := hi.2.1; rw [by_tail (by omega)] at this; exact this
      have hr := spSt_run s h i (by omega) (fun m hm => by have := hi.2.2 m hm; rw [by_tail (by omega)] at this; exact this)
      have h2 : spSt s (a + i + 1) = (a + i + 1, D ++ [s.extract a (a + i)]) := by
        show (if a + i = s.size ∨ by' s (a + i) = 32 then _ else _) = _
        rw [if_pos (.inr hb), hr]
      rw [ih (s.size - (a + i + 1)) (by omega) (a + i + 1) _ rfl (by omega) h2]
      have e : (s.extract a s.size).extract (i + 1) (s.extract a s.size).size = s.extract (a + i + 1) s.size := by
        rw [hsz, ex_ex (Nat.le_refl _) (by omega)]
        congr 1; omega
      have e0 : (s.extract a s.size).extract 0 i = s.extract a (a + i) := by rw [ex_ex (Nat.le_refl _) (by omega)]; rfl
      have hc : Lib.splitB (b1 32) 0 (Lib.countB (s.extract a s.size) (b1 32)) (s.extract a s.size) = (s.extract a s.size).extract 0 i :: Lib.splitB (b1 32) 0 (Lib.countB ((s.extract a s.size).extract (i + 1) (s.extract a s.size).size) (b1 32)) ((s.extract a s.size).extract (i + 1) (s.extract a s.size).size) := by
        rw [ch_count hi, Nat.add_comm 1, Lib.splitB_hit (b1 32) 0 _ _ i (ch_index hi)]
        rfl
      rw [hc, e0, e, List.append_assoc]
      rfl
    · have hr := spSt_run s h (s.size - a) (by omega) (fun m hm => by have := hno m (by omega); rw [by_tail (by omega)] at this; exact this)
      rw [show a + (s.size - a) = s.size from by omega] at hr
      rw [ch_count0 hno]
      show (spSt s (s.size + 1)).2 = _
      unfold spSt
      rw [if_pos (.inl rfl), hr]
      rfl
theorem spSt_parts (s : ByteArray) : (spSt s (s.size + 1)).2 = Lib.splitB (b1 32) 0 (Lib.countB s (b1 32)) s := by
  have h := spSt_end s (s.size - 0) 0 [] rfl (Nat.zero_le _) rfl
  rw [show s.extract 0 s.size = s by simp] at h
  exact h
/-- What is known at the beginning of a round. -/
def spR (s : ByteArray) (a k : Nat) (l : List ByteArray) : Rho := [.val (.string s), .val (.int .i64 (a : Int)), .val (.int .i64 (k : Int)), .ownr 9 1 l.length (l.map fun x => .val (.string x)), .val (.int .i64 (s.size : Int)), .val (.int .u8 ((by' s k : Nat) : Int)), .val (.int .i64 ((k : Int) + 1)), .val (.string (s.extract a k)), .row 9 1 [.val (.string (s.extract a k))], .ownr 9 1 (l ++ [s.extract a k]).length ((l ++ [s.extract a k]).map fun x => .val (.string x))]
def spIn : MS := mkMS 32 [(0, .v (.one (.ref 0))), (2, .v (.one .sl0)), (3, .v (.one .sl0)), (4, .v (.one (.i .i64 0))), (5, .v (.one (.i .i64 0)))] []
def spS0 : MS := mkMS 32 [(0, .v (.one (.ref 0))), (2, .v (.one .sl0)), (3, .v (.one .sl0)), (4, .v (.one (.ref 1))), (5, .v (.one (.ref 2)))] []
def spS1 : MS := mkMS 32 [(0, .v (.one (.ref 0))), (2, .v (.one .sl0)), (3, .v (.one (.own 0 3))), (4, .v (.one (.ref 1))), (5, .v (.one (.ref 2)))] []
def spOut : MS := mkMS 32 [(0, .v (.one (.ref 0))), (2, .v (.one .sl0)), (3, .v (.one (.own 0 1)))] []
section
variable {w : World} {s : ByteArray} {a k : Nat} {l : List ByteArray}
theorem spA0 (hs : s.size ≤ 4294967280) (ha : a ≤ k) (hk : k < s.size) (hb : by' s k ≠ 32) : StepTo Tryz.prog w 32 (loopAt Tryz.f51 0) (spR s a k l) spS0 .nrm (spR s a (k + 1) l) spS0 := by
  exact chk_sound (N := 1) (σ := [(1, .ref 1), (2, .ref 6)]) (lo := []) (n := 300) (C := []) il_nil
      (ol_cons (o_lenS (n := 0) (m := 4) (t := 9) (by kernel_rfl) rfl rfl) (ol_cons (o_leqR (n := 2) (m := 4) (b := true) (t := 3) rfl rfl (decide_eq_true (by omega))) (ol_cons (o_eqlR (n := 2) (m := 4) (b := false) (t := 3) rfl rfl (beql_f (by omega))) (ol_cons (o_idxR (n := 0) (k := 2) (m := 5) (t := 9) (b := by' s k) (by kernel_rfl) rfl rfl rfl (by omega) (by omega) (congrArg (by' s) (by omega))) (ol_cons (o_eqlK (n := 5) (c := 32) (t := 5) (b := false) rfl (beql_f (by omega))) (ol_cons (o_addK (n := 2) (m := 6) (c := 1) (t := 3) rfl rfl rfl (by omega) (by omega)) ol_nil))))))
      (by kernel_rfl) (obs := []) (by kernel_rfl) lo_nil (cm1 rfl) (sig_cons (sg_ref rfl rfl) (sig_cons (sg_int (u := ((k : Nat) : Int) + 1) (v := ((k + 1 : Nat) : Int)) rfl (fun _ _ _ h => leaf_val rfl h) (by omega)) sig_nil))
theorem spB0 (hs : s.size ≤ 4294967280) (ha : a ≤ k) (hl : ([] : List ByteArray).length ≤ k) (hk : k < s.size) (hb : by' s k = 32) : StepTo Tryz.prog w 32 (loopAt Tryz.f51 0) (spR s a k []) spS0 .nrm (spR s (k + 1) (k + 1) ([] ++ [s.extract a k])) spS1 := by
  exact chk_sound (N := 1) (σ := [(1, .ref 6), (2, .ref 6), (3, .own 0 9)]) (lo := []) (n := 300) (C := []) il_nil
      (ol_cons (o_lenS (n := 0) (m := 4) (t := 9) (by kernel_rfl) rfl rfl) (ol_cons (o_leqR (n := 2) (m := 4) (b := true) (t := 3) rfl rfl (decide_eq_true (by omega))) (ol_cons (o_eqlR (n := 2) (m := 4) (b := false) (t := 3) rfl rfl (beql_f (by omega))) (ol_cons (o_idxR (n := 0) (k := 2) (m := 5) (t := 9) (b := by' s k) (by kernel_rfl) rfl rfl rfl (by omega) (by omega) (congrArg (by' s) (by omega))) (ol_cons (o_eqlK (n := 5) (c := 32) (t := 5) (b := true) rfl (beql_t (by omega))) (ol_cons (o_slRR (n := 0) (k := 1) (l := 2) (m := 7) (s := s) (z := s.extract a k) (u := (a : Int)) (v := (k : Int)) (t := 9) (by kernel_rfl) rfl rfl rfl rfl (by omega) (by omega) (by omega) rfl) (ol_cons (o_bs (m := 8) (ss := [.one (.ref 7)]) (N := 1) (sz := 1) (z := [.s (ByteArray.mk #[])]) (qs := [.val (.string (s.extract a k))]) (ix := [0]) (ls := [.ref 7]) Tryz.underlying64 (by kernel_rfl) (by kernel_rfl) (by decide) (by decide) (by decide) rfl (by kernel_rfl) ⟨ql_val rfl, trivial⟩ rfl) (ol_cons (o_appK (i := 0) (sz := 1) (bytes := 16) (L := ([] : List ByteArray).length) (M := 1) (qs := ([] : List ByteArray).map fun x => Vp.val (.string x)) (qs' := [.val (.string (s.extract a k))]) (m := 9) (r := 8) (T := 9) Tryz.underlying64 (by kernel_rfl) (.inl ⟨rfl, rfl, rfl⟩) rfl rfl (by simp) (by simp) rfl (by decide) (by first | omega | (simp only [List.length_nil]; omega)) (by first | omega | (simp only [List.length_nil]; omega))) (ol_cons (o_addK (n := 2) (m := 6) (c := 1) (t := 3) rfl rfl rfl (by omega) (by omega)) ol_nil)))))))))
      (by kernel_rfl) (obs := []) (by kernel_rfl) lo_nil (cm1 rfl) (sig_cons (sg_int (u := ((k : Nat) : Int) + 1) (v := ((k + 1 : Nat) : Int)) rfl (fun _ _ _ h => leaf_val rfl h) (by omega)) (sig_cons (sg_int (u := ((k : Nat) : Int) + 1) (v := ((k + 1 : Nat) : Int)) rfl (fun _ _ _ h => leaf_val rfl h) (by omega)) (sig_cons (sg_own rfl rfl) sig_nil)))
theorem spC0 (hs : s.size ≤ 4294967280) (ha : a ≤ k) (hl : ([] : List ByteArray).length ≤ k) (hk : k = s.size) : StepTo Tryz.prog w 32 (loopAt Tryz.f51 0) (spR s a k []) spS0 .nrm (spR s (k + 1) (k + 1) ([] ++ [s.extract a k])) spS1 := by
  exact chk_sound (N := 1) (σ := [(1, .ref 6), (2, .ref 6), (3, .own 0 9)]) (lo := []) (n := 300) (C := []) il_nil
      (ol_cons (o_lenS (n := 0) (m := 4) (t := 9) (by kernel_rfl) rfl rfl) (ol_cons (o_leqR (n := 2) (m := 4) (b := true) (t := 3) rfl rfl (decide_eq_true (by omega))) (ol_cons (o_eqlR (n := 2) (m := 4) (b := true) (t := 3) rfl rfl (beql_t (by omega))) (ol_cons (o_slRR (n := 0) (k := 1) (l := 2) (m := 7) (s := s) (z := s.extract a k) (u := (a : Int)) (v := (k : Int)) (t := 9) (by kernel_rfl) rfl rfl rfl rfl (by omega) (by omega) (by omega) rfl) (ol_cons (o_bs (m := 8) (ss := [.one (.ref 7)]) (N := 1) (sz := 1) (z := [.s (ByteArray.mk #[])]) (qs := [.val (.string (s.extract a k))]) (ix := [0]) (ls := [.ref 7]) Tryz.underlying64 (by kernel_rfl) (by kernel_rfl) (by decide) (by decide) (by decide) rfl (by kernel_rfl) ⟨ql_val rfl, trivial⟩ rfl) (ol_cons (o_appK (i := 0) (sz := 1) (bytes := 16) (L := ([] : List ByteArray).length) (M := 1) (qs := ([] : List ByteArray).map fun x => Vp.val (.string x)) (qs' := [.val (.string (s.extract a k))]) (m := 9) (r := 8) (T := 9) Tryz.underlying64 (by kernel_rfl) (.inl ⟨rfl, rfl, rfl⟩) rfl rfl (by simp) (by simp) rfl (by decide) (by first | omega | (simp only [List.length_nil]; omega)) (by first | omega | (simp only [List.length_nil]; omega))) (ol_cons (o_addK (n := 2) (m := 6) (c := 1) (t := 3) rfl rfl rfl (by omega) (by omega)) ol_nil)))))))
      (by kernel_rfl) (obs := []) (by kernel_rfl) lo_nil (cm1 rfl) (sig_cons (sg_int (u := ((k : Nat) : Int) + 1) (v := ((k + 1 : Nat) : Int)) rfl (fun _ _ _ h => leaf_val rfl h) (by omega)) (sig_cons (sg_int (u := ((k : Nat) : Int) + 1) (v := ((k + 1 : Nat) : Int)) rfl (fun _ _ _ h => leaf_val rfl h) (by omega)) (sig_cons (sg_own rfl rfl) sig_nil)))
theorem spA1 (hs : s.size ≤ 4294967280) (ha : a ≤ k) (hk : k < s.size) (hb : by' s k ≠ 32) : StepTo Tryz.prog w 32 (loopAt Tryz.f51 0) (spR s a k l) spS1 .nrm (spR s a (k + 1) l) spS1 := by
  exact chk_sound (N := 1) (σ := [(1, .ref 1), (2, .ref 6), (3, .own 0 3)]) (lo := []) (n := 300) (C := []) il_nil
      (ol_cons (o_lenS (n := 0) (m := 4) (t := 9) (by kernel_rfl) rfl rfl) (ol_cons (o_leqR (n := 2) (m := 4) (b := true) (t := 3) rfl rfl (decide_eq_true (by omega))) (ol_cons (o_eqlR (n := 2) (m := 4) (b := false) (t := 3) rfl rfl (beql_f (by omega))) (ol_cons (o_idxR (n := 0) (k := 2) (m := 5) (t := 9) (b := by' s k) (by kernel_rfl) rfl rfl rfl (by omega) (by omega) (congrArg (by' s) (by omega))) (ol_cons (o_eqlK (n := 5) (c := 32) (t := 5) (b := false) rfl (beql_f (by omega))) (ol_cons (o_addK (n := 2) (m := 6) (c := 1) (t := 3) rfl rfl rfl (by omega) (by omega)) ol_nil))))))
      (by kernel_rfl) (obs := []) (by kernel_rfl) lo_nil (cm1 rfl) (sig_cons (sg_ref rfl rfl) (sig_cons (sg_int (u := ((k : Nat) : Int) + 1) (v := ((k + 1 : Nat) : Int)) rfl (fun _ _ _ h => leaf_val rfl h) (by omega)) (sig_cons (sg_own rfl rfl) sig_nil)))
theorem spB1 (hs : s.size ≤ 4294967280) (ha : a ≤ k) (hl : l.length ≤ k) (hk : k < s.size) (hb : by' s k = 32) : StepTo Tryz.prog w 32 (loopAt Tryz.f51 0) (spR s a k l) spS1 .nrm (spR s (k + 1) (k + 1) (l ++ [s.extract a k])) spS1 := by
  exact chk_sound (N := 1) (σ := [(1, .ref 6), (2, .ref 6), (3, .own 0 9)]) (lo := []) (n := 300) (C := []) il_nil
      (ol_cons (o_lenS (n := 0) (m := 4) (t := 9) (by kernel_rfl) rfl rfl) (ol_cons (o_leqR (n := 2) (m := 4) (b := true) (t := 3) rfl rfl (decide_eq_true (by omega))) (ol_cons (o_eqlR (n := 2) (m := 4) (b := false) (t := 3) rfl rfl (beql_f (by omega))) (ol_cons (o_idxR (n := 0) (k := 2) (m := 5) (t := 9) (b := by' s k) (by kernel_rfl) rfl rfl rfl (by omega) (by omega) (congrArg (by' s) (by omega))) (ol_cons (o_eqlK (n := 5) (c := 32) (t := 5) (b := true) rfl (beql_t (by omega))) (ol_cons (o_slRR (n := 0) (k := 1) (l := 2) (m := 7) (s := s) (z := s.extract a k) (u := (a : Int)) (v := (k : Int)) (t := 9) (by kernel_rfl) rfl rfl rfl rfl (by omega) (by omega) (by omega) rfl) (ol_cons (o_bs (m := 8) (ss := [.one (.ref 7)]) (N := 1) (sz := 1) (z := [.s (ByteArray.mk #[])]) (qs := [.val (.string (s.extract a k))]) (ix := [0]) (ls := [.ref 7]) Tryz.underlying64 (by kernel_rfl) (by kernel_rfl) (by decide) (by decide) (by decide) rfl (by kernel_rfl) ⟨ql_val rfl, trivial⟩ rfl) (ol_cons (o_appK (i := 0) (sz := 1) (bytes := 16) (L := (l).length) (M := 1) (qs := (l).map fun x => Vp.val (.string x)) (qs' := [.val (.string (s.extract a k))]) (m := 9) (r := 8) (T := 9) Tryz.underlying64 (by kernel_rfl) (.inr ⟨3, rfl, rfl⟩) rfl rfl (by simp) (by simp) rfl (by decide) (by first | omega | (simp only [List.length_nil]; omega)) (by first | omega | (simp only [List.length_nil]; omega))) (ol_cons (o_addK (n := 2) (m := 6) (c := 1) (t := 3) rfl rfl rfl (by omega) (by omega)) ol_nil)))))))))
      (by kernel_rfl) (obs := []) (by kernel_rfl) lo_nil (cm1 rfl) (sig_cons (sg_int (u := ((k : Nat) : Int) + 1) (v := ((k + 1 : Nat) : Int)) rfl (fun _ _ _ h => leaf_val rfl h) (by omega)) (sig_cons (sg_int (u := ((k : Nat) : Int) + 1) (v := ((k + 1 : Nat) : Int)) rfl (fun _ _ _ h => leaf_val rfl h) (by omega)) (sig_cons (sg_own rfl rfl) sig_nil)))
theorem spC1 (hs : s.size ≤ 4294967280) (ha : a ≤ k) (hl : l.length ≤ k) (hk : k = s.size) : StepTo Tryz.prog w 32 (loopAt Tryz.f51 0) (spR s a k l) spS1 .nrm (spR s (k + 1) (k + 1) (l ++ [s.extract a k])) spS1 := by
  exact chk_sound (N := 1) (σ := [(1, .ref 6), (2, .ref 6), (3, .own 0 9)]) (lo := []) (n := 300) (C := []) il_nil
      (ol_cons (o_lenS (n := 0) (m := 4) (t := 9) (by kernel_rfl) rfl rfl) (ol_cons (o_leqR (n := 2) (m := 4) (b := true) (t := 3) rfl rfl (decide_eq_true (by omega))) (ol_cons (o_eqlR (n := 2) (m := 4) (b := true) (t := 3) rfl rfl (beql_t (by omega))) (ol_cons (o_slRR (n := 0) (k := 1) (l := 2) (m := 7) (s := s) (z := s.extract a k) (u := (a : Int)) (v := (k : Int)) (t := 9) (by kernel_rfl) rfl rfl rfl rfl (by omega) (by omega) (by omega) rfl) (ol_cons (o_bs (m := 8) (ss := [.one (.ref 7)]) (N := 1) (sz := 1) (z := [.s (ByteArray.mk #[])]) (qs := [.val (.string (s.extract a k))]) (ix := [0]) (ls := [.ref 7]) Tryz.underlying64 (by kernel_rfl) (by kernel_rfl) (by decide) (by decide) (by decide) rfl (by kernel_rfl) ⟨ql_val rfl, trivial⟩ rfl) (ol_cons (o_appK (i := 0) (sz := 1) (bytes := 16) (L := (l).length) (M := 1) (qs := (l).map fun x => Vp.val (.string x)) (qs' := [.val (.string (s.extract a k))]) (m := 9) (r := 8) (T := 9) Tryz.underlying64 (by kernel_rfl) (.inr ⟨3, rfl, rfl⟩) rfl rfl (by simp) (by simp) rfl (by decide) (by first | omega | (simp only [List.length_nil]; omega)) (by first | omega | (simp only [List.length_nil]; omega))) (ol_cons (o_addK (n := 2) (m := 6) (c := 1) (t := 3) rfl rfl rfl (by omega) (by omega)) ol_nil)))))))
      (by kernel_rfl) (obs := []) (by kernel_rfl) lo_nil (cm1 rfl) (sig_cons (sg_int (u := ((k : Nat) : Int) + 1) (v := ((k + 1 : Nat) : Int)) rfl (fun _ _ _ h => leaf_val rfl h) (by omega)) (sig_cons (sg_int (u := ((k : Nat) : Int) + 1) (v := ((k + 1 : Nat) : Int)) rfl (fun _ _ _ h => leaf_val rfl h) (by omega)) (sig_cons (sg_own rfl rfl) sig_nil)))
theorem spE {ρ : Rho} (h0 : ρ[0]? = some (.val (.string s))) (h1 : ρ[1]? = some (.ownr 9 1 l.length (l.map fun x => .val (.string x)))) (hk : k = s.size + 1) : StepTo Tryz.prog w 32 (loopAt Tryz.f51 0) (spR s a k l) spS1 (.ext 0) ρ spOut := by
  exact chk_sound (N := 0) (σ := [(0, .ref 0), (1, .own 0 3)]) (lo := []) (n := 300) (C := []) il_nil
      (ol_cons (o_lenS (n := 0) (m := 4) (t := 9) (by kernel_rfl) rfl rfl) (ol_cons (o_leqR (n := 2) (m := 4) (b := false) (t := 3) rfl rfl (decide_eq_false (by omega))) ol_nil))
      (by kernel_rfl) (obs := []) (by kernel_rfl) lo_nil cm0 (sig_cons (sg_ref rfl h0) (sig_cons (sg_own rfl h1) sig_nil))
end
theorem sp_loop {ρ : Rho} {w : World} {s : ByteArray} (hs : s.size ≤ 4294967280) (h0 : ρ[0]? = some (.val (.string s))) (h1 : ρ[1]? = some (.ownr 9 1 (spSt s (s.size + 1)).2.length ((spSt s (s.size + 1)).2.map fun x => .val (.string x)))) :
    LOb.Ok Tryz.prog ρ w 32 ⟨loopAt Tryz.f51 0, spIn, .ext 0, spOut⟩ := by
  refine loop_rounds (s.size + 1) (fun k => spR s (spSt s k).1 k (spSt s k).2) (fun k => if (spSt s k).2 = [] then spS0 else spS1) ?_ ?_ ?_ (by decide)
  · intro a w' h
    show MSt (spR s 0 0 []) w 32 spS0 a w'
    exact MSt.conv (N := 0) (σ := [(0, .ref 0), (1, .i .i64 0), (2, .i .i64 0)]) cm0 (sig_cons (sg_ref h0 rfl) (sig_cons (sg_int (u := 0) rfl (fun _ _ _ h => h) rfl) (sig_cons (sg_int (u := 0) rfl (fun _ _ _ h => h) rfl) sig_nil))) (by kernel_rfl) h
  · intro k hk
    obtain ⟨ha, hl⟩ := spSt_le s k
    show StepTo _ _ _ _ (spR s (spSt s k).1 k (spSt s k).2) (if (spSt s k).2 = [] then spS0 else spS1) _ (spR s (spSt s (k + 1)).1 (k + 1) (spSt s (k + 1)).2) (if (spSt s (k + 1)).2 = [] then spS0 else spS1)
    by_cases he : k = s.size ∨ by' s k = 32
    · have e : spSt s (k + 1) = (k + 1, (spSt s k).2 ++ [s.extract (spSt s k).1 k]) := if_pos he
      rw [e]
      rw [if_neg (show ¬ ((spSt s k).2 ++ [s.extract (spSt s k).1 k] = []) from by simp)]
      by_cases h2 : (spSt s k).2 = []
      · rw [if_pos h2, h2]
        rw [h2] at hl
        rcases Nat.lt_or_ge k s.size with h3 | h3
        · exact spB0 hs ha hl h3 (he.resolve_left (by omega))
        · exact spC0 hs ha hl (by omega)
      · rw [if_neg h2]
        rcases Nat.lt_or_ge k s.size with h3 | h3
        · exact spB1 hs ha hl h3 (he.resolve_left (by omega))
        · exact spC1 hs ha hl (by omega)
    · have e : spSt s (k + 1) = spSt s k := if_neg he
      rw [e]
      have h3 : k < s.size := by
        have := fun h => he (.inl h)
        omega
      by_cases h2 : (spSt s k).2 = []
      · rw [if_pos h2]; exact spA0 hs ha h3 (fun h => he (.inr h))
      · rw [if_neg h2]; exact spA1 hs ha h3 (fun h => he (.inr h))
  · have e : spSt s (s.size + 1) = (s.size + 1, (spSt s s.size).2 ++ [s.extract (spSt s s.size).1 s.size]) := if_pos (.inl rfl)
    have h2 : ¬ ((spSt s (s.size + 1)).2 = []) := by rw [e]; simp
    show StepTo _ _ _ _ _ (if (spSt s (s.size + 1)).2 = [] then spS0 else spS1) _ _ _
    rw [if_neg h2]
    exact spE h0 h1 rfl
theorem q_rsplit (s : ByteArray) (w : World) (hs : s.size ≤ 4294967280) : Calls Tryz.prog 51 #[.string s] w fun e w' => ∃ v, e = .returned v ∧ ((Vp.strs (Lib.splitB (b1 32) 0 (Lib.countB s (b1 32)) s)).p w' v ∧ ∀ g, (Vp.strs (Lib.splitB (b1 32) 0 (Lib.countB s (b1 32)) s)).fp v g → w.heap.size ≤ g) ∧ Below w.heap.size w w' := by
  refine (calls_runFnB (ρ := [.val (.string s), .ownr 9 1 (spSt s (s.size + 1)).2.length ((spSt s (s.size + 1)).2.map fun x => .val (.string x))]) (w := w) (fuel := 300) (C := []) (L := []) (lo := [some (spIn, .ext 0, spOut)]) (obs := [⟨loopAt Tryz.f51 0, spIn, .ext 0, spOut⟩]) (args := [.one (.ref 0)]) (vs := [.string s]) (r := .v (.one (.own 0 1)))
    il_nil ol_nil (by kernel_rfl) Tryz.func51 (by kernel_rfl) (lo_cons (sp_loop hs rfl rfl) lo_nil) ⟨ls (n := 0) rfl (fun _ => none) w, trivial⟩).mono ?_
  rintro e w' ⟨v, rfl, ⟨B, ⟨q, k1, k2, k3, k4⟩, hB⟩, h2⟩
  have k1 : some (Vp.ownr 9 1 (spSt s (s.size + 1)).2.length ((spSt s (s.size + 1)).2.map fun x => .val (.string x))) = some q := k1
  injection k1 with k1
  subst k1
  rw [← spSt_parts s]
  refine ⟨v, rfl, ⟨ownr_row k2, fun g ⟨o, n, c, e⟩ => hB _ g (k4 g (by rw [e]; rfl))⟩, h2⟩
theorem I_rsplit {xs : List Fq} {ys : Rho} {n m : Nat} {s : ByteArray} {ss : List ByteArray} (hn : (frs xs ++ ys)[n]? = some (.val (.string s))) (hm : (frs xs ++ ys)[m]? = some (.strs ss)) (hl : Lib.splitB (b1 32) 0 (Lib.countB s (b1 32)) s = ss) (hs : s.size ≤ 4294967280) : OkI xs ys ⟨51, [.one (.ref n)], .v (.one (.ref m))⟩ :=
  ⟨enters Tryz.func51 rfl rfl, fun B w vs hB h => by
    match vs, h with
    | [va], h =>
      have e1 := leaf_val (B := B) hn h.1
      subst e1
      refine (q_rsplit s w hs).mono ?_
      rintro e w' ⟨v, rfl, ⟨h1, h2⟩, h3⟩
      rw [hl] at h1 h2
      exact ⟨v, rfl, ⟨_, hm, h1, fun g hg x hx => by have := h2 g hg; have := hB x g hx; omega⟩, h3⟩⟩
end Go.Proofs.YthebfmlfgfmlnaaGreatDoor
