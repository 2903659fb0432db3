/- What Decode of package pose does. The reference's split: the parts of a text between the spaces. Texts of poses: what Decode answers, in plain terms; texts and poses are inverse to each other. -/
import Derived.Test.YthebfmlfgfmlnaaGreatDoorP13
namespace Go.Proofs.YthebfmlfgfmlnaaGreatDoor
set_option linter.unusedSimpArgs false
set_option linter.unusedVariables false
set_option maxRecDepth 100000
open Go.RowKit
/-- The parts of a text between the spaces. -/
def parts (s : ByteArray) : List ByteArray := Lib.splitB (b1 32) 0 (Lib.countB s (b1 32)) s
def xpDFX (s : ByteArray) (ws : List ByteArray) : List Fq := []
theorem q_pDF (s : ByteArray) (ws : List ByteArray) (w : World) (hw : Lib.splitB (b1 32) 0 (Lib.countB s (b1 32)) s = ws) (hn : ws.length ≠ 7) (hs : s.size ≤ 4294967280) : Calls Tryz.prog 15 #[.string s] w fun e w' => RetOqE w .zero 2 e w' := by
  refine (calls_runFn (ρ := frs (xpDFX s ws) ++ [.val (.string s), .strs ws, .val (.int .i64 ((ws.length : Nat) : Int))]) (w := w) (fuel := 300) (args := [.one (.ref 0)]) (vs := [.string s]) (r := .tup [.agg [.b false, .sl0, .sl0, .b false, .sl0, .sl0, .b false, .sl0, .sl0, .b false, .sl0, .sl0, .b false, .sl0, .sl0, .b false, .sl0, .sl0, .b false, .sl0, .sl0], .one (.i .i64 2)])
    (il_cons (I_Split (n := 0) (m := 1) (s := s) (ss := ws) rfl rfl hw (by omega)) il_nil)
    (ol_cons (o_lenR (n := 1) (t := 64) ⟨_, Tryz.underlying64⟩ rfl (lr (n := 2) rfl)) (ol_cons (o_neqK (n := 2) (c := 7) (u := ((ws.length : Nat) : Int)) (b := true) (t := 3) rfl (bneq_t (by omega))) (ol_nil))) (by kernel_rfl) Tryz.func15 (by kernel_rfl) ⟨ls (n := 0) rfl (fun _ => none) w, trivial⟩).mono ?_
  rintro e w' ⟨v, rfl, ⟨vs, rfl, h1⟩, h2⟩
  match vs, h1 with
  | [r, cv], h1 =>
    obtain ⟨⟨cs, rfl, k1⟩, k2, _⟩ := h1
    have k2 : cv = _ := k2
    subst k2
    exact ⟨_, rfl, ⟨_, rfl, zero_row (n := 7) k1⟩, h2⟩
def xpD0X (s w0 w1 w2 w3 w4 w5 w6 : ByteArray) (x0 : Fq) (c : Int) : List Fq := [x0]
theorem q_pD0 (s w0 w1 w2 w3 w4 w5 w6 : ByteArray) (x0 : Fq) (c : Int) (w : World) (hw : Lib.splitB (b1 32) 0 (Lib.countB s (b1 32)) s = [w0, w1, w2, w3, w4, w5, w6]) (h0 : FP w0 x0 c) (hc : c ≠ 0) (z0 : w0.size ≤ 4294967280) (hs : s.size ≤ 4294967280) : Calls Tryz.prog 15 #[.string s] w fun e w' => RetOqE w .zero c e w' := by
  refine (calls_runFn (ρ := frs (xpD0X s w0 w1 w2 w3 w4 w5 w6 x0 c) ++ [.val (.string s), .row 9 7 [.val (.string w0), .val (.string w1), .val (.string w2), .val (.string w3), .val (.string w4), .val (.string w5), .val (.string w6)], .plc 9 [.val (.string w0)], .val (.string w0), .val (.int .i64 c)]) (w := w) (fuel := 300) (args := [.one (.ref 3)]) (vs := [.string s]) (r := .tup [.agg [.b false, .sl0, .sl0, .b false, .sl0, .sl0, .b false, .sl0, .sl0, .b false, .sl0, .sl0, .b false, .sl0, .sl0, .b false, .sl0, .sl0, .b false, .sl0, .sl0], .one (.ref 7)])
    (il_cons (I_Split (n := 3) (m := 4) (s := s) (ss := [w0, w1, w2, w3, w4, w5, w6]) rfl rfl hw (by omega)) (il_cons (I_fParse (n := 6) (k := 0) (s := w0) rfl rfl (lr (n := 7) rfl) h0 z0) il_nil))
    (ol_cons (o_lenR (n := 4) (t := 64) ⟨_, Tryz.underlying64⟩ rfl (li rfl)) (ol_cons (o_iaL (k := 0) (l := .i .i64 0) (sz := 1) (qs' := [.val (.string w0)]) (n := 4) (m := 5) Tryz.underlying64 (by kernel_rfl) rfl rfl (fun _ _ _ h => h) (by decide) (by simp) (fun j q hq => by match j, hq with | 0, hq => simp at hq; subst hq; rfl | j + 1, hq => simp at hq)) (ol_cons (o_ldP (n := 5) (l := .ref 6) (t := 9) (by kernel_rfl) rfl (lq rfl)) (ol_cons (o_neqK (n := 7) (c := 0) (u := c) (b := true) (t := 39) rfl (bneq_t hc)) (ol_nil))))) (by kernel_rfl) Tryz.func15 (by kernel_rfl) ⟨ls (n := 3) rfl (fun _ => none) w, trivial⟩).mono ?_
  rintro e w' ⟨v, rfl, ⟨vs, rfl, h1⟩, h2⟩
  match vs, h1 with
  | [r, cv], h1 =>
    obtain ⟨⟨cs, rfl, k1⟩, k2, _⟩ := h1
    obtain ⟨sv, q1, q2⟩ := k2
    have q3 : some (Vp.val (.int .i64 c)) = some sv := q1
    injection q3 with q3
    subst q3
    have k2 : cv = .int .i64 c := q2.1.1
    subst k2
    exact ⟨_, rfl, ⟨_, rfl, zero_row (n := 7) k1⟩, h2⟩
def xpD1X (s w0 w1 w2 w3 w4 w5 w6 : ByteArray) (x0 x1 : Fq) (c : Int) : List Fq := [x0, x1]
theorem q_pD1 (s w0 w1 w2 w3 w4 w5 w6 : ByteArray) (x0 x1 : Fq) (c : Int) (w : World) (hw : Lib.splitB (b1 32) 0 (Lib.countB s (b1 32)) s = [w0, w1, w2, w3, w4, w5, w6]) (h0 : FP w0 x0 0) (h1 : FP w1 x1 c) (hc : c ≠ 0) (z0 : w0.size ≤ 4294967280) (z1 : w1.size ≤ 4294967280) (hs : s.size ≤ 4294967280) : Calls Tryz.prog 15 #[.string s] w fun e w' => RetOqE w .zero c e w' := by
  refine (calls_runFn (ρ := frs (xpD1X s w0 w1 w2 w3 w4 w5 w6 x0 x1 c) ++ [.val (.string s), .row 9 7 [.val (.string w0), .val (.string w1), .val (.string w2), .val (.string w3), .val (.string w4), .val (.string w5), .val (.string w6)], .plc 9 [.val (.string w0)], .val (.string w0), .plc 9 [.val (.string w1)], .val (.string w1), .val (.int .i64 c)]) (w := w) (fuel := 300) (args := [.one (.ref 6)]) (vs := [.string s]) (r := .tup [.agg [.b false, .sl0, .sl0, .b false, .sl0, .sl0, .b false, .sl0, .sl0, .b false, .sl0, .sl0, .b false, .sl0, .sl0, .b false, .sl0, .sl0, .b false, .sl0, .sl0], .one (.ref 12)])
    (il_cons (I_Split (n := 6) (m := 7) (s := s) (ss := [w0, w1, w2, w3, w4, w5, w6]) rfl rfl hw (by omega)) (il_cons (I_fParse (n := 9) (k := 0) (s := w0) rfl rfl (li rfl) h0 z0) (il_cons (I_fParse (n := 11) (k := 1) (s := w1) rfl rfl (lr (n := 12) rfl) h1 z1) il_nil)))
    (ol_cons (o_lenR (n := 7) (t := 64) ⟨_, Tryz.underlying64⟩ rfl (li rfl)) (ol_cons (o_iaL (k := 0) (l := .i .i64 0) (sz := 1) (qs' := [.val (.string w0)]) (n := 7) (m := 8) Tryz.underlying64 (by kernel_rfl) rfl rfl (fun _ _ _ h => h) (by decide) (by simp) (fun j q hq => by match j, hq with | 0, hq => simp at hq; subst hq; rfl | j + 1, hq => simp at hq)) (ol_cons (o_ldP (n := 8) (l := .ref 9) (t := 9) (by kernel_rfl) rfl (lq rfl)) (ol_cons (o_iaL (k := 1) (l := .i .i64 1) (sz := 1) (qs' := [.val (.string w1)]) (n := 7) (m := 10) Tryz.underlying64 (by kernel_rfl) rfl rfl (fun _ _ _ h => h) (by decide) (by simp) (fun j q hq => by match j, hq with | 0, hq => simp at hq; subst hq; rfl | j + 1, hq => simp at hq)) (ol_cons (o_ldP (n := 10) (l := .ref 11) (t := 9) (by kernel_rfl) rfl (lq rfl)) (ol_cons (o_neqK (n := 12) (c := 0) (u := c) (b := true) (t := 39) rfl (bneq_t hc)) (ol_nil))))))) (by kernel_rfl) Tryz.func15 (by kernel_rfl) ⟨ls (n := 6) rfl (fun _ => none) w, trivial⟩).mono ?_
  rintro e w' ⟨v, rfl, ⟨vs, rfl, h1⟩, h2⟩
  match vs, h1 with
  | [r, cv], h1 =>
    obtain ⟨⟨cs, rfl, k1⟩, k2, _⟩ := h1
    obtain ⟨sv, q1, q2⟩ := k2
    have q3 : some (Vp.val (.int .i64 c)) = some sv := q1
    injection q3 with q3
    subst q3
    have k2 : cv = .int .i64 c := q2.1.1
    subst k2
    exact ⟨_, rfl, ⟨_, rfl, zero_row (n := 7) k1⟩, h2⟩
def xpD2X (s w0 w1 w2 w3 w4 w5 w6 : ByteArray) (x0 x1 x2 : Fq) (c : Int) : List Fq := [x0, x1, x2]
theorem q_pD2 (s w0 w1 w2 w3 w4 w5 w6 : ByteArray) (x0 x1 x2 : Fq) (c : Int) (w : World) (hw : Lib.splitB (b1 32) 0 (Lib.countB s (b1 32)) s = [w0, w1, w2, w3, w4, w5, w6]) (h0 : FP w0 x0 0) (h1 : FP w1 x1 0) (h2 : FP w2 x2 c) (hc : c ≠ 0) (z0 : w0.size ≤ 4294967280) (z1 : w1.size ≤ 4294967280) (z2 : w2.size ≤ 4294967280) (hs : s.size ≤ 4294967280) : Calls Tryz.prog 15 #[.string s] w fun e w' => RetOqE w .zero c e w' := by
  refine (calls_runFn (ρ := frs (xpD2X s w0 w1 w2 w3 w4 w5 w6 x0 x1 x2 c) ++ [.val (.string s), .row 9 7 [.val (.string w0), .val (.string w1), .val (.string w2), .val (.string w3), .val (.string w4), .val (.string w5), .val (.string w6)], .plc 9 [.val (.string w0)], .val (.string w0), .plc 9 [.val (.string w1)], .val (.string w1), .plc 9 [.val (.string w2)], .val (.string w2), .val (.int .i64 c)]) (w := w) (fuel := 300) (args := [.one (.ref 9)]) (vs := [.string s]) (r := .tup [.agg [.b false, .sl0, .sl0, .b false, .sl0, .sl0, .b false, .sl0, .sl0, .b false, .sl0, .sl0, .b false, .sl0, .sl0, .b false, .sl0, .sl0, .b false, .sl0, .sl0], .one (.ref 17)])
    (il_cons (I_Split (n := 9) (m := 10) (s := s) (ss := [w0, w1, w2, w3, w4, w5, w6]) rfl rfl hw (by omega)) (il_cons (I_fParse (n := 12) (k := 0) (s := w0) rfl rfl (li rfl) h0 z0) (il_cons (I_fParse (n := 14) (k := 1) (s := w1) rfl rfl (li rfl) h1 z1) (il_cons (I_fParse (n := 16) (k := 2) (s := w2) rfl rfl (lr (n := 17) rfl) h2 z2) il_nil))))
    (ol_cons (o_lenR (n := 10) (t := 64) ⟨_, Tryz.underlying64⟩ rfl (li rfl)) (ol_cons (o_iaL (k := 0) (l := .i .i64 0) (sz := 1) (qs' := [.val (.string w0)]) (n := 10) (m := 11) Tryz.underlying64 (by kernel_rfl) rfl rfl (fun _ _ _ h => h) (by decide) (by simp) (fun j q hq => by match j, hq with | 0, hq => simp at hq; subst hq; rfl | j + 1, hq => simp at hq)) (ol_cons (o_ldP (n := 11) (l := .ref 12) (t := 9) (by kernel_rfl) rfl (lq rfl)) (ol_cons (o_iaL (k := 1) (l := .i .i64 1) (sz := 1) (qs' := [.val (.string w1)]) (n := 10) (m := 13) Tryz.underlying64 (by kernel_rfl) rfl rfl (fun _ _ _ h => h) (by decide) (by simp) (fun j q hq => by match j, hq with | 0, hq => simp at hq; subst hq; rfl | j + 1, hq => simp at hq)) (ol_cons (o_ldP (n := 13) (l := .ref 14) (t := 9) (by kernel_rfl) rfl (lq rfl)) (ol_cons (o_iaL (k := 2) (l := .i .i64 2) (sz := 1) (qs' := [.val (.string w2)]) (n := 10) (m := 15) Tryz.underlying64 (by kernel_rfl) rfl rfl (fun _ _ _ h => h) (by decide) (by simp) (fun j q hq => by match j, hq with | 0, hq => simp at hq; subst hq; rfl | j + 1, hq => simp at hq)) (ol_cons (o_ldP (n := 15) (l := .ref 16) (t := 9) (by kernel_rfl) rfl (lq rfl)) (ol_cons (o_neqK (n := 17) (c := 0) (u := c) (b := true) (t := 39) rfl (bneq_t hc)) (ol_nil))))))))) (by kernel_rfl) Tryz.func15 (by kernel_rfl) ⟨ls (n := 9) rfl (fun _ => none) w, trivial⟩).mono ?_
  rintro e w' ⟨v, rfl, ⟨vs, rfl, h1⟩, h2⟩
  match vs, h1 with
  | [r, cv], h1 =>
    obtain ⟨⟨cs, rfl, k1⟩, k2, _⟩ := h1
    obtain ⟨sv, q1, q2⟩ := k2
    have q3 : some (Vp.val (.int .i64 c)) = some sv := q1
    injection q3 with q3
    subst q3
    have k2 : cv = .int .i64 c := q2.1.1
    subst k2
    exact ⟨_, rfl, ⟨_, rfl, zero_row (n := 7) k1⟩, h2⟩
def xpD3X (s w0 w1 w2 w3 w4 w5 w6 : ByteArray) (x0 x1 x2 x3 : Fq) (c : Int) : List Fq := [x0, x1, x2, x3]
theorem q_pD3 (s w0 w1 w2 w3 w4 w5 w6 : ByteArray) (x0 x1 x2 x3 : Fq) (c : Int) (w : World) (hw : Lib.splitB (b1 32) 0 (Lib.countB s (b1 32)) s = [w0, w1, w2, w3, w4, w5, w6]) (h0 : FP w0 x0 0) (h1 : FP w1 x1 0) (h2 : FP w2 x2 0) (h3 : FP w3 x3 c) (hc : c ≠ 0) (z0 : w0.size ≤ 4294967280) (z1 : w1.size ≤ 4294967280) (z2 : w2.size ≤ 4294967280) (z3 : w3.size ≤ 4294967280) (hs : s.size ≤ 4294967280) : Calls Tryz.prog 15 #[.string s] w fun e w' => RetOqE w .zero c e w' := by
  refine (calls_runFn (ρ := frs (xpD3X s w0 w1 w2 w3 w4 w5 w6 x0 x1 x2 x3 c) ++ [.val (.string s), .row 9 7 [.val (.string w0), .val (.string w1), .val (.string w2), .val (.string w3), .val (.string w4), .val (.string w5), .val (.string w6)], .plc 9 [.val (.string w0)], .val (.string w0), .plc 9 [.val (.string w1)], .val (.string w1), .plc 9 [.val (.string w2)], .val (.string w2), .plc 9 [.val (.string w3)], .val (.string w3), .val (.int .i64 c)]) (w := w) (fuel := 300) (args := [.one (.ref 12)]) (vs := [.string s]) (r := .tup [.agg [.b false, .sl0, .sl0, .b false, .sl0, .sl0, .b false, .sl0, .sl0, .b false, .sl0, .sl0, .b false, .sl0, .sl0, .b false, .sl0, .sl0, .b false, .sl0, .sl0], .one (.ref 22)])
    (il_cons (I_Split (n := 12) (m := 13) (s := s) (ss := [w0, w1, w2, w3, w4, w5, w6]) rfl rfl hw (by omega)) (il_cons (I_fParse (n := 15) (k := 0) (s := w0) rfl rfl (li rfl) h0 z0) (il_cons (I_fParse (n := 17) (k := 1) (s := w1) rfl rfl (li rfl) h1 z1) (il_cons (I_fParse (n := 19) (k := 2) (s := w2) rfl rfl (li rfl) h2 z2) (il_cons (I_fParse (n := 21) (k := 3) (s := w3) rfl rfl (lr (n := 22) rfl) h3 z3) il_nil)))))
    (ol_cons (o_lenR (n := 13) (t := 64) ⟨_, Tryz.underlying64⟩ rfl (li rfl)) (ol_cons (o_iaL (k := 0) (l := .i .i64 0) (sz := 1) (qs' := [.val (.string w0)]) (n := 13) (m := 14) Tryz.underlying64 (by kernel_rfl) rfl rfl (fun _ _ _ h => h) (by decide) (by simp) (fun j q hq => by match j, hq with | 0, hq => simp at hq; subst hq; rfl | j + 1, hq => simp at hq)) (ol_cons (o_ldP (n := 14) (l := .ref 15) (t := 9) (by kernel_rfl) rfl (lq rfl)) (ol_cons (o_iaL (k := 1) (l := .i .i64 1) (sz := 1) (qs' := [.val (.string w1)]) (n := 13) (m := 16) Tryz.underlying64 (by kernel_rfl) rfl rfl (fun _ _ _ h => h) (by decide) (by simp) (fun j q hq => by match j, hq with | 0, hq => simp at hq; subst hq; rfl | j + 1, hq => simp at hq)) (ol_cons (o_ldP (n := 16) (l := .ref 17) (t := 9) (by kernel_rfl) rfl (lq rfl)) (ol_cons (o_iaL (k := 2) (l := .i .i64 2) (sz := 1) (qs' := [.val (.string w2)]) (n := 13) (m := 18) Tryz.underlying64 (by kernel_rfl) rfl rfl (fun _ _ _ h => h) (by decide) (by simp) (fun j q hq => by match j, hq with | 0, hq => simp at hq; subst hq; rfl | j + 1, hq => simp at hq)) (ol_cons (o_ldP (n := 18) (l := .ref 19) (t := 9) (by kernel_rfl) rfl (lq rfl)) (ol_cons (o_iaL (k := 3) (l := .i .i64 3) (sz := 1) (qs' := [.val (.string w3)]) (n := 13) (m := 20) Tryz.underlying64 (by kernel_rfl) rfl rfl (fun _ _ _ h => h) (by decide) (by simp) (fun j q hq => by match j, hq with | 0, hq => simp at hq; subst hq; rfl | j + 1, hq => simp at hq)) (ol_cons (o_ldP (n := 20) (l := .ref 21) (t := 9) (by kernel_rfl) rfl (lq rfl)) (ol_cons (o_neqK (n := 22) (c := 0) (u := c) (b := true) (t := 39) rfl (bneq_t hc)) (ol_nil))))))))))) (by kernel_rfl) Tryz.func15 (by kernel_rfl) ⟨ls (n := 12) rfl (fun _ => none) w, trivial⟩).mono ?_
  rintro e w' ⟨v, rfl, ⟨vs, rfl, h1⟩, h2⟩
  match vs, h1 with
  | [r, cv], h1 =>
    obtain ⟨⟨cs, rfl, k1⟩, k2, _⟩ := h1
    obtain ⟨sv, q1, q2⟩ := k2
    have q3 : some (Vp.val (.int .i64 c)) = some sv := q1
    injection q3 with q3
    subst q3
    have k2 : cv = .int .i64 c := q2.1.1
    subst k2
    exact ⟨_, rfl, ⟨_, rfl, zero_row (n := 7) k1⟩, h2⟩
def xpD4X (s w0 w1 w2 w3 w4 w5 w6 : ByteArray) (x0 x1 x2 x3 x4 : Fq) (c : Int) : List Fq := [x0, x1, x2, x3, x4]
theorem q_pD4 (s w0 w1 w2 w3 w4 w5 w6 : ByteArray) (x0 x1 x2 x3 x4 : Fq) (c : Int) (w : World) (hw : Lib.splitB (b1 32) 0 (Lib.countB s (b1 32)) s = [w0, w1, w2, w3, w4, w5, w6]) (h0 : FP w0 x0 0) (h1 : FP w1 x1 0) (h2 : FP w2 x2 0) (h3 : FP w3 x3 0) (h4 : FP w4 x4 c) (hc : c ≠ 0) (z0 : w0.size ≤ 4294967280) (z1 : w1.size ≤ 4294967280) (z2 : w2.size ≤ 4294967280) (z3 : w3.size ≤ 4294967280) (z4 : w4.size ≤ 4294967280) (hs : s.size ≤ 4294967280) : Calls Tryz.prog 15 #[.string s] w fun e w' => RetOqE w .zero c e w' := by
  refine (calls_runFn (ρ := frs (xpD4X s w0 w1 w2 w3 w4 w5 w6 x0 x1 x2 x3 x4 c) ++ [.val (.string s), .row 9 7 [.val (.string w0), .val (.string w1), .val (.string w2), .val (.string w3), .val (.string w4), .val (.string w5), .val (.string w6)], .plc 9 [.val (.string w0)], .val (.string w0), .plc 9 [.val (.string w1)], .val (.string w1), .plc 9 [.val (.string w2)], .val (.string w2), .plc 9 [.val (.string w3)], .val (.string w3), .plc 9 [.val (.string w4)], .val (.string w4), .val (.int .i64 c)]) (w := w) (fuel := 300) (args := [.one (.ref 15)]) (vs := [.string s]) (r := .tup [.agg [.b false, .sl0, .sl0, .b false, .sl0, .sl0, .b false, .sl0, .sl0, .b false, .sl0, .sl0, .b false, .sl0, .sl0, .b false, .sl0, .sl0, .b false, .sl0, .sl0], .one (.ref 27)])
    (il_cons (I_Split (n := 15) (m := 16) (s := s) (ss := [w0, w1, w2, w3, w4, w5, w6]) rfl rfl hw (by omega)) (il_cons (I_fParse (n := 18) (k := 0) (s := w0) rfl rfl (li rfl) h0 z0) (il_cons (I_fParse (n := 20) (k := 1) (s := w1) rfl rfl (li rfl) h1 z1) (il_cons (I_fParse (n := 22) (k := 2) (s := w2) rfl rfl (li rfl) h2 z2) (il_cons (I_fParse (n := 24) (k := 3) (s := w3) rfl rfl (li rfl) h3 z3) (il_cons (I_fParse (n := 26) (k := 4) (s := w4) rfl rfl (lr (n := 27) rfl) h4 z4) il_nil))))))
    (ol_cons (o_lenR (n := 16) (t := 64) ⟨_, Tryz.underlying64⟩ rfl (li rfl)) (ol_cons (o_iaL (k := 0) (l := .i .i64 0) (sz := 1) (qs' := [.val (.string w0)]) (n := 16) (m := 17) Tryz.underlying64 (by kernel_rfl) rfl rfl (fun _ _ _ h => h) (by decide) (by simp) (fun j q hq => by match j, hq with | 0, hq => simp at hq; subst hq; rfl | j + 1, hq => simp at hq)) (ol_cons (o_ldP (n := 17) (l := .ref 18) (t := 9) (by kernel_rfl) rfl (lq rfl)) (ol_cons (o_iaL (k := 1) (l := .i .i64 1) (sz := 1) (qs' := [.val (.string w1)]) (n := 16) (m := 19) Tryz.underlying64 (by kernel_rfl) rfl rfl (fun _ _ _ h => h) (by decide) (by simp) (fun j q hq => by match j, hq with | 0, hq => simp at hq; subst hq; rfl | j + 1, hq => simp at hq)) (ol_cons (o_ldP (n := 19) (l := .ref 20) (t := 9) (by kernel_rfl) rfl (lq rfl)) (ol_cons (o_iaL (k := 2) (l := .i .i64 2) (sz := 1) (qs' := [.val (.string w2)]) (n := 16) (m := 21) Tryz.underlying64 (by kernel_rfl) rfl rfl (fun _ _ _ h => h) (by decide) (by simp) (fun j q hq => by match j, hq with | 0, hq => simp at hq; subst hq; rfl | j + 1, hq => simp at hq)) (ol_cons (o_ldP (n := 21) (l := .ref 22) (t := 9) (by kernel_rfl) rfl (lq rfl)) (ol_cons (o_iaL (k := 3) (l := .i .i64 3) (sz := 1) (qs' := [.val (.string w3)]) (n := 16) (m := 23) Tryz.underlying64 (by kernel_rfl) rfl rfl (fun _ _ _ h => h) (by decide) (by simp) (fun j q hq => by match j, hq with | 0, hq => simp at hq; subst hq; rfl | j + 1, hq => simp at hq)) (ol_cons (o_ldP (n := 23) (l := .ref 24) (t := 9) (by kernel_rfl) rfl (lq rfl)) (ol_cons (o_iaL (k := 4) (l := .i .i64 4) (sz := 1) (qs' := [.val (.string w4)]) (n := 16) (m := 25) Tryz.underlying64 (by kernel_rfl) rfl rfl (fun _ _ _ h => h) (by decide) (by simp) (fun j q hq => by match j, hq with | 0, hq => simp at hq; subst hq; rfl | j + 1, hq => simp at hq)) (ol_cons (o_ldP (n := 25) (l := .ref 26) (t := 9) (by kernel_rfl) rfl (lq rfl)) (ol_cons (o_neqK (n := 27) (c := 0) (u := c) (b := true) (t := 39) rfl (bneq_t hc)) (ol_nil))))))))))))) (by kernel_rfl) Tryz.func15 (by kernel_rfl) ⟨ls (n := 15) rfl (fun _ => none) w, trivial⟩).mono ?_
  rintro e w' ⟨v, rfl, ⟨vs, rfl, h1⟩, h2⟩
  match vs, h1 with
  | [r, cv], h1 =>
    obtain ⟨⟨cs, rfl, k1⟩, k2, _⟩ := h1
    obtain ⟨sv, q1, q2⟩ := k2
    have q3 : some (Vp.val (.int .i64 c)) = some sv := q1
    injection q3 with q3
    subst q3
    have k2 : cv = .int .i64 c := q2.1.1
    subst k2
    exact ⟨_, rfl, ⟨_, rfl, zero_row (n := 7) k1⟩, h2⟩
def xpD5X (s w0 w1 w2 w3 w4 w5 w6 : ByteArray) (x0 x1 x2 x3 x4 x5 : Fq) (c : Int) : List Fq := [x0, x1, x2, x3, x4, x5]
theorem q_pD5 (s w0 w1 w2 w3 w4 w5 w6 : ByteArray) (x0 x1 x2 x3 x4 x5 : Fq) (c : Int) (w : World) (hw : Lib.splitB (b1 32) 0 (Lib.countB s (b1 32)) s = [w0, w1, w2, w3, w4, w5, w6]) (h0 : FP w0 x0 0) (h1 : FP w1 x1 0) (h2 : FP w2 x2 0) (h3 : FP w3 x3 0) (h4 : FP w4 x4 0) (h5 : FP w5 x5 c) (hc : c ≠ 0) (z0 : w0.size ≤ 4294967280) (z1 : w1.size ≤ 4294967280) (z2 : w2.size ≤ 4294967280) (z3 : w3.size ≤ 4294967280) (z4 : w4.size ≤ 4294967280) (z5 : w5.size ≤ 4294967280) (hs : s.size ≤ 4294967280) : Calls Tryz.prog 15 #[.string s] w fun e w' => RetOqE w .zero c e w' := by
  refine (calls_runFn (ρ := frs (xpD5X s w0 w1 w2 w3 w4 w5 w6 x0 x1 x2 x3 x4 x5 c) ++ [.val (.string s), .row 9 7 [.val (.string w0), .val (.string w1), .val (.string w2), .val (.string w3), .val (.string w4), .val (.string w5), .val (.string w6)], .plc 9 [.val (.string w0)], .val (.string w0), .plc 9 [.val (.string w1)], .val (.string w1), .plc 9 [.val (.string w2)], .val (.string w2), .plc 9 [.val (.string w3)], .val (.string w3), .plc 9 [.val (.string w4)], .val (.string w4), .plc 9 [.val (.string w5)], .val (.string w5), .val (.int .i64 c)]) (w := w) (fuel := 300) (args := [.one (.ref 18)]) (vs := [.string s]) (r := .tup [.agg [.b false, .sl0, .sl0, .b false, .sl0, .sl0, .b false, .sl0, .sl0, .b false, .sl0, .sl0, .b false, .sl0, .sl0, .b false, .sl0, .sl0, .b false, .sl0, .sl0], .one (.ref 32)])
    (il_cons (I_Split (n := 18) (m := 19) (s := s) (ss := [w0, w1, w2, w3, w4, w5, w6]) rfl rfl hw (by omega)) (il_cons (I_fParse (n := 21) (k := 0) (s := w0) rfl rfl (li rfl) h0 z0) (il_cons (I_fParse (n := 23) (k := 1) (s := w1) rfl rfl (li rfl) h1 z1) (il_cons (I_fParse (n := 25) (k := 2) (s := w2) rfl rfl (li rfl) h2 z2) (il_cons (I_fParse (n := 27) (k := 3) (s := w3) rfl rfl (li rfl) h3 z3) (il_cons (I_fParse (n := 29) (k := 4) (s := w4) rfl rfl (li rfl) h4 z4) (il_cons (I_fParse (n := 31) (k := 5) (s := w5) rfl rfl (lr (n := 32) rfl) h5 z5) il_nil)))))))
    (ol_cons (o_lenR (n := 19) (t := 64) ⟨_, Tryz.underlying64⟩ rfl (li rfl)) (ol_cons (o_iaL (k := 0) (l := .i .i64 0) (sz := 1) (qs' := [.val (.string w0)]) (n := 19) (m := 20) Tryz.underlying64 (by kernel_rfl) rfl rfl (fun _ _ _ h => h) (by decide) (by simp) (fun j q hq => by match j, hq with | 0, hq => simp at hq; subst hq; rfl | j + 1, hq => simp at hq)) (ol_cons (o_ldP (n := 20) (l := .ref 21) (t := 9) (by kernel_rfl) rfl (lq rfl)) (ol_cons (o_iaL (k := 1) (l := .i .i64 1) (sz := 1) (qs' := [.val (.string w1)]) (n := 19) (m := 22) Tryz.underlying64 (by kernel_rfl) rfl rfl (fun _ _ _ h => h) (by decide) (by simp) (fun j q hq => by match j, hq with | 0, hq => simp at hq; subst hq; rfl | j + 1, hq => simp at hq)) (ol_cons (o_ldP (n := 22) (l := .ref 23) (t := 9) (by kernel_rfl) rfl (lq rfl)) (ol_cons (o_iaL (k := 2) (l := .i .i64 2) (sz := 1) (qs' := [.val (.string w2)]) (n := 19) (m := 24) Tryz.underlying64 (by kernel_rfl) rfl rfl (fun _ _ _ h => h) (by decide) (by simp) (fun j q hq => by match j, hq with | 0, hq => simp at hq; subst hq; rfl | j + 1, hq => simp at hq)) (ol_cons (o_ldP (n := 24) (l := .ref 25) (t := 9) (by kernel_rfl) rfl (lq rfl)) (ol_cons (o_iaL (k := 3) (l := .i .i64 3) (sz := 1) (qs' := [.val (.string w3)]) (n := 19) (m := 26) Tryz.underlying64 (by kernel_rfl) rfl rfl (fun _ _ _ h => h) (by decide) (by simp) (fun j q hq => by match j, hq with | 0, hq => simp at hq; subst hq; rfl | j + 1, hq => simp at hq)) (ol_cons (o_ldP (n := 26) (l := .ref 27) (t := 9) (by kernel_rfl) rfl (lq rfl)) (ol_cons (o_iaL (k := 4) (l := .i .i64 4) (sz := 1) (qs' := [.val (.string w4)]) (n := 19) (m := 28) Tryz.underlying64 (by kernel_rfl) rfl rfl (fun _ _ _ h => h) (by decide) (by simp) (fun j q hq => by match j, hq with | 0, hq => simp at hq; subst hq; rfl | j + 1, hq => simp at hq)) (ol_cons (o_ldP (n := 28) (l := .ref 29) (t := 9) (by kernel_rfl) rfl (lq rfl)) (ol_cons (o_iaL (k := 5) (l := .i .i64 5) (sz := 1) (qs' := [.val (.string w5)]) (n := 19) (m := 30) Tryz.underlying64 (by kernel_rfl) rfl rfl (fun _ _ _ h => h) (by decide) (by simp) (fun j q hq => by match j, hq with | 0, hq => simp at hq; subst hq; rfl | j + 1, hq => simp at hq)) (ol_cons (o_ldP (n := 30) (l := .ref 31) (t := 9) (by kernel_rfl) rfl (lq rfl)) (ol_cons (o_neqK (n := 32) (c := 0) (u := c) (b := true) (t := 39) rfl (bneq_t hc)) (ol_nil))))))))))))))) (by kernel_rfl) Tryz.func15 (by kernel_rfl) ⟨ls (n := 18) rfl (fun _ => none) w, trivial⟩).mono ?_
  rintro e w' ⟨v, rfl, ⟨vs, rfl, h1⟩, h2⟩
  match vs, h1 with
  | [r, cv], h1 =>
    obtain ⟨⟨cs, rfl, k1⟩, k2, _⟩ := h1
    obtain ⟨sv, q1, q2⟩ := k2
    have q3 : some (Vp.val (.int .i64 c)) = some sv := q1
    injection q3 with q3
    subst q3
    have k2 : cv = .int .i64 c := q2.1.1
    subst k2
    exact ⟨_, rfl, ⟨_, rfl, zero_row (n := 7) k1⟩, h2⟩
def xpD6X (s w0 w1 w2 w3 w4 w5 w6 : ByteArray) (x0 x1 x2 x3 x4 x5 x6 : Fq) (c : Int) : List Fq := [x0, x1, x2, x3, x4, x5, x6]
theorem q_pD6 (s w0 w1 w2 w3 w4 w5 w6 : ByteArray) (x0 x1 x2 x3 x4 x5 x6 : Fq) (c : Int) (w : World) (hw : Lib.splitB (b1 32) 0 (Lib.countB s (b1 32)) s = [w0, w1, w2, w3, w4, w5, w6]) (h0 : FP w0 x0 0) (h1 : FP w1 x1 0) (h2 : FP w2 x2 0) (h3 : FP w3 x3 0) (h4 : FP w4 x4 0) (h5 : FP w5 x5 0) (h6 : FP w6 x6 c) (hc : c ≠ 0) (z0 : w0.size ≤ 4294967280) (z1 : w1.size ≤ 4294967280) (z2 : w2.size ≤ 4294967280) (z3 : w3.size ≤ 4294967280) (z4 : w4.size ≤ 4294967280) (z5 : w5.size ≤ 4294967280) (z6 : w6.size ≤ 4294967280) (hs : s.size ≤ 4294967280) : Calls Tryz.prog 15 #[.string s] w fun e w' => RetOqE w .zero c e w' := by
  refine (calls_runFn (ρ := frs (xpD6X s w0 w1 w2 w3 w4 w5 w6 x0 x1 x2 x3 x4 x5 x6 c) ++ [.val (.string s), .row 9 7 [.val (.string w0), .val (.string w1), .val (.string w2), .val (.string w3), .val (.string w4), .val (.string w5), .val (.string w6)], .plc 9 [.val (.string w0)], .val (.string w0), .plc 9 [.val (.string w1)], .val (.string w1), .plc 9 [.val (.string w2)], .val (.string w2), .plc 9 [.val (.string w3)], .val (.string w3), .plc 9 [.val (.string w4)], .val (.string w4), .plc 9 [.val (.string w5)], .val (.string w5), .plc 9 [.val (.string w6)], .val (.string w6), .val (.int .i64 c)]) (w := w) (fuel := 300) (args := [.one (.ref 21)]) (vs := [.string s]) (r := .tup [.agg [.b false, .sl0, .sl0, .b false, .sl0, .sl0, .b false, .sl0, .sl0, .b false, .sl0, .sl0, .b false, .sl0, .sl0, .b false, .sl0, .sl0, .b false, .sl0, .sl0], .one (.ref 37)])
    (il_cons (I_Split (n := 21) (m := 22) (s := s) (ss := [w0, w1, w2, w3, w4, w5, w6]) rfl rfl hw (by omega)) (il_cons (I_fParse (n := 24) (k := 0) (s := w0) rfl rfl (li rfl) h0 z0) (il_cons (I_fParse (n := 26) (k := 1) (s := w1) rfl rfl (li rfl) h1 z1) (il_cons (I_fParse (n := 28) (k := 2) (s := w2) rfl rfl (li rfl) h2 z2) (il_cons (I_fParse (n := 30) (k := 3) (s := w3) rfl rfl (li rfl) h3 z3) (il_cons (I_fParse (n := 32) (k := 4) (s := w4) rfl rfl (li rfl) h4 z4) (il_cons (I_fParse (n := 34) (k := 5) (s := w5) rfl rfl (li rfl) h5 z5) (il_cons (I_fParse (n := 36) (k := 6) (s := w6) rfl rfl (lr (n := 37) rfl) h6 z6) il_nil))))))))
    (ol_cons (o_lenR (n := 22) (t := 64) ⟨_, Tryz.underlying64⟩ rfl (li rfl)) (ol_cons (o_iaL (k := 0) (l := .i .i64 0) (sz := 1) (qs' := [.val (.string w0)]) (n := 22) (m := 23) Tryz.underlying64 (by kernel_rfl) rfl rfl (fun _ _ _ h => h) (by decide) (by simp) (fun j q hq => by match j, hq with | 0, hq => simp at hq; subst hq; rfl | j + 1, hq => simp at hq)) (ol_cons (o_ldP (n := 23) (l := .ref 24) (t := 9) (by kernel_rfl) rfl (lq rfl)) (ol_cons (o_iaL (k := 1) (l := .i .i64 1) (sz := 1) (qs' := [.val (.string w1)]) (n := 22) (m := 25) Tryz.underlying64 (by kernel_rfl) rfl rfl (fun _ _ _ h => h) (by decide) (by simp) (fun j q hq => by match j, hq with | 0, hq => simp at hq; subst hq; rfl | j + 1, hq => simp at hq)) (ol_cons (o_ldP (n := 25) (l := .ref 26) (t := 9) (by kernel_rfl) rfl (lq rfl)) (ol_cons (o_iaL (k := 2) (l := .i .i64 2) (sz := 1) (qs' := [.val (.string w2)]) (n := 22) (m := 27) Tryz.underlying64 (by kernel_rfl) rfl rfl (fun _ _ _ h => h) (by decide) (by simp) (fun j q hq => by match j, hq with | 0, hq => simp at hq; subst hq; rfl | j + 1, hq => simp at hq)) (ol_cons (o_ldP (n := 27) (l := .ref 28) (t := 9) (by kernel_rfl) rfl (lq rfl)) (ol_cons (o_iaL (k := 3) (l := .i .i64 3) (sz := 1) (qs' := [.val (.string w3)]) (n := 22) (m := 29) Tryz.underlying64 (by kernel_rfl) rfl rfl (fun _ _ _ h => h) (by decide) (by simp) (fun j q hq => by match j, hq with | 0, hq => simp at hq; subst hq; rfl | j + 1, hq => simp at hq)) (ol_cons (o_ldP (n := 29) (l := .ref 30) (t := 9) (by kernel_rfl) rfl (lq rfl)) (ol_cons (o_iaL (k := 4) (l := .i .i64 4) (sz := 1) (qs' := [.val (.string w4)]) (n := 22) (m := 31) Tryz.underlying64 (by kernel_rfl) rfl rfl (fun _ _ _ h => h) (by decide) (by simp) (fun j q hq => by match j, hq with | 0, hq => simp at hq; subst hq; rfl | j + 1, hq => simp at hq)) (ol_cons (o_ldP (n := 31) (l := .ref 32) (t := 9) (by kernel_rfl) rfl (lq rfl)) (ol_cons (o_iaL (k := 5) (l := .i .i64 5) (sz := 1) (qs' := [.val (.string w5)]) (n := 22) (m := 33) Tryz.underlying64 (by kernel_rfl) rfl rfl (fun _ _ _ h => h) (by decide) (by simp) (fun j q hq => by match j, hq with | 0, hq => simp at hq; subst hq; rfl | j + 1, hq => simp at hq)) (ol_cons (o_ldP (n := 33) (l := .ref 34) (t := 9) (by kernel_rfl) rfl (lq rfl)) (ol_cons (o_iaL (k := 6) (l := .i .i64 6) (sz := 1) (qs' := [.val (.string w6)]) (n := 22) (m := 35) Tryz.underlying64 (by kernel_rfl) rfl rfl (fun _ _ _ h => h) (by decide) (by simp) (fun j q hq => by match j, hq with | 0, hq => simp at hq; subst hq; rfl | j + 1, hq => simp at hq)) (ol_cons (o_ldP (n := 35) (l := .ref 36) (t := 9) (by kernel_rfl) rfl (lq rfl)) (ol_cons (o_neqK (n := 37) (c := 0) (u := c) (b := true) (t := 39) rfl (bneq_t hc)) (ol_nil))))))))))))))))) (by kernel_rfl) Tryz.func15 (by kernel_rfl) ⟨ls (n := 21) rfl (fun _ => none) w, trivial⟩).mono ?_
  rintro e w' ⟨v, rfl, ⟨vs, rfl, h1⟩, h2⟩
  match vs, h1 with
  | [r, cv], h1 =>
    obtain ⟨⟨cs, rfl, k1⟩, k2, _⟩ := h1
    obtain ⟨sv, q1, q2⟩ := k2
    have q3 : some (Vp.val (.int .i64 c)) = some sv := q1
    injection q3 with q3
    subst q3
    have k2 : cv = .int .i64 c := q2.1.1
    subst k2
    exact ⟨_, rfl, ⟨_, rfl, zero_row (n := 7) k1⟩, h2⟩
def xpD7RX (s w0 w1 w2 w3 w4 w5 w6 : ByteArray) (x0 x1 x2 x3 x4 x5 x6 : Fq) : List Fq := [x0, x1, x2, x3, x4, x5, x6]
theorem q_pD7R (s w0 w1 w2 w3 w4 w5 w6 : ByteArray) (x0 x1 x2 x3 x4 x5 x6 : Fq) (w : World) (hw : Lib.splitB (b1 32) 0 (Lib.countB s (b1 32)) s = [w0, w1, w2, w3, w4, w5, w6]) (h0 : FP w0 x0 0) (h1 : FP w1 x1 0) (h2 : FP w2 x2 0) (h3 : FP w3 x3 0) (h4 : FP w4 x4 0) (h5 : FP w5 x5 0) (h6 : FP w6 x6 0) (gc : (Qq.mk x0 x1 x2 x3).comp) (hf : (Qq.mk x0 x1 x2 x3).first ≠ (Fq.ofInt 1)) (z0 : w0.size ≤ 4294967280) (z1 : w1.size ≤ 4294967280) (z2 : w2.size ≤ 4294967280) (z3 : w3.size ≤ 4294967280) (z4 : w4.size ≤ 4294967280) (z5 : w5.size ≤ 4294967280) (z6 : w6.size ≤ 4294967280) (k0 : x0.ok 1000) (k1 : x1.ok 1000) (k2 : x2.ok 1000) (k3 : x3.ok 1000) (k4 : x4.ok 1000) (k5 : x5.ok 1000) (k6 : x6.ok 1000) (hs : s.size ≤ 4294967280) : Calls Tryz.prog 15 #[.string s] w fun e w' => RetOqE w .zero 4 e w' := by
  refine (calls_runFn (ρ := frs (xpD7RX s w0 w1 w2 w3 w4 w5 w6 x0 x1 x2 x3 x4 x5 x6) ++ [.val (.string s), .row 9 7 [.val (.string w0), .val (.string w1), .val (.string w2), .val (.string w3), .val (.string w4), .val (.string w5), .val (.string w6)], .plc 9 [.val (.string w0)], .val (.string w0), .plc 9 [.val (.string w1)], .val (.string w1), .plc 9 [.val (.string w2)], .val (.string w2), .plc 9 [.val (.string w3)], .val (.string w3), .plc 9 [.val (.string w4)], .val (.string w4), .plc 9 [.val (.string w5)], .val (.string w5), .plc 9 [.val (.string w6)], .val (.string w6)]) (w := w) (fuel := 300) (args := [.one (.ref 21)]) (vs := [.string s]) (r := .tup [.agg [.b false, .sl0, .sl0, .b false, .sl0, .sl0, .b false, .sl0, .sl0, .b false, .sl0, .sl0, .b false, .sl0, .sl0, .b false, .sl0, .sl0, .b false, .sl0, .sl0], .one (.i .i64 4)])
    (il_cons (I_Split (n := 21) (m := 22) (s := s) (ss := [w0, w1, w2, w3, w4, w5, w6]) rfl rfl hw (by omega)) (il_cons (I_fParse (n := 24) (k := 0) (s := w0) rfl rfl (li rfl) h0 z0) (il_cons (I_fParse (n := 26) (k := 1) (s := w1) rfl rfl (li rfl) h1 z1) (il_cons (I_fParse (n := 28) (k := 2) (s := w2) rfl rfl (li rfl) h2 z2) (il_cons (I_fParse (n := 30) (k := 3) (s := w3) rfl rfl (li rfl) h3 z3) (il_cons (I_fParse (n := 32) (k := 4) (s := w4) rfl rfl (li rfl) h4 z4) (il_cons (I_fParse (n := 34) (k := 5) (s := w5) rfl rfl (li rfl) h5 z5) (il_cons (I_fParse (n := 36) (k := 6) (s := w6) rfl rfl (li rfl) h6 z6) (il_cons (I_fValidT0 (kq := [0, 1, 2, 3]) (q := (Qq.mk x0 x1 x2 x3)) ⟨rfl, rfl, rfl, rfl, trivial⟩ (⟨k0.mono (by decide), k1.mono (by decide), k2.mono (by decide), k3.mono (by decide)⟩ : Qq.ok 1000000 (Qq.mk x0 x1 x2 x3)) gc hf) il_nil)))))))))
    (ol_cons (o_lenR (n := 22) (t := 64) ⟨_, Tryz.underlying64⟩ rfl (li rfl)) (ol_cons (o_iaL (k := 0) (l := .i .i64 0) (sz := 1) (qs' := [.val (.string w0)]) (n := 22) (m := 23) Tryz.underlying64 (by kernel_rfl) rfl rfl (fun _ _ _ h => h) (by decide) (by simp) (fun j q hq => by match j, hq with | 0, hq => simp at hq; subst hq; rfl | j + 1, hq => simp at hq)) (ol_cons (o_ldP (n := 23) (l := .ref 24) (t := 9) (by kernel_rfl) rfl (lq rfl)) (ol_cons (o_iaL (k := 1) (l := .i .i64 1) (sz := 1) (qs' := [.val (.string w1)]) (n := 22) (m := 25) Tryz.underlying64 (by kernel_rfl) rfl rfl (fun _ _ _ h => h) (by decide) (by simp) (fun j q hq => by match j, hq with | 0, hq => simp at hq; subst hq; rfl | j + 1, hq => simp at hq)) (ol_cons (o_ldP (n := 25) (l := .ref 26) (t := 9) (by kernel_rfl) rfl (lq rfl)) (ol_cons (o_iaL (k := 2) (l := .i .i64 2) (sz := 1) (qs' := [.val (.string w2)]) (n := 22) (m := 27) Tryz.underlying64 (by kernel_rfl) rfl rfl (fun _ _ _ h => h) (by decide) (by simp) (fun j q hq => by match j, hq with | 0, hq => simp at hq; subst hq; rfl | j + 1, hq => simp at hq)) (ol_cons (o_ldP (n := 27) (l := .ref 28) (t := 9) (by kernel_rfl) rfl (lq rfl)) (ol_cons (o_iaL (k := 3) (l := .i .i64 3) (sz := 1) (qs' := [.val (.string w3)]) (n := 22) (m := 29) Tryz.underlying64 (by kernel_rfl) rfl rfl (fun _ _ _ h => h) (by decide) (by simp) (fun j q hq => by match j, hq with | 0, hq => simp at hq; subst hq; rfl | j + 1, hq => simp at hq)) (ol_cons (o_ldP (n := 29) (l := .ref 30) (t := 9) (by kernel_rfl) rfl (lq rfl)) (ol_cons (o_iaL (k := 4) (l := .i .i64 4) (sz := 1) (qs' := [.val (.string w4)]) (n := 22) (m := 31) Tryz.underlying64 (by kernel_rfl) rfl rfl (fun _ _ _ h => h) (by decide) (by simp) (fun j q hq => by match j, hq with | 0, hq => simp at hq; subst hq; rfl | j + 1, hq => simp at hq)) (ol_cons (o_ldP (n := 31) (l := .ref 32) (t := 9) (by kernel_rfl) rfl (lq rfl)) (ol_cons (o_iaL (k := 5) (l := .i .i64 5) (sz := 1) (qs' := [.val (.string w5)]) (n := 22) (m := 33) Tryz.underlying64 (by kernel_rfl) rfl rfl (fun _ _ _ h => h) (by decide) (by simp) (fun j q hq => by match j, hq with | 0, hq => simp at hq; subst hq; rfl | j + 1, hq => simp at hq)) (ol_cons (o_ldP (n := 33) (l := .ref 34) (t := 9) (by kernel_rfl) rfl (lq rfl)) (ol_cons (o_iaL (k := 6) (l := .i .i64 6) (sz := 1) (qs' := [.val (.string w6)]) (n := 22) (m := 35) Tryz.underlying64 (by kernel_rfl) rfl rfl (fun _ _ _ h => h) (by decide) (by simp) (fun j q hq => by match j, hq with | 0, hq => simp at hq; subst hq; rfl | j + 1, hq => simp at hq)) (ol_cons (o_ldP (n := 35) (l := .ref 36) (t := 9) (by kernel_rfl) rfl (lq rfl)) (ol_nil)))))))))))))))) (by kernel_rfl) Tryz.func15 (by kernel_rfl) ⟨ls (n := 21) rfl (fun _ => none) w, trivial⟩).mono ?_
  rintro e w' ⟨v, rfl, ⟨vs, rfl, h1⟩, h2⟩
  match vs, h1 with
  | [r, cv], h1 =>
    obtain ⟨⟨cs, rfl, k1⟩, k2, _⟩ := h1
    have k2 : cv = _ := k2
    subst k2
    exact ⟨_, rfl, ⟨_, rfl, zero_row (n := 7) k1⟩, h2⟩
def xpD7X (s w0 w1 w2 w3 w4 w5 w6 : ByteArray) (x0 x1 x2 x3 x4 x5 x6 : Fq) : List Fq := [x0, x1, x2, x3, x4, x5, x6]
theorem q_pD7 (s w0 w1 w2 w3 w4 w5 w6 : ByteArray) (x0 x1 x2 x3 x4 x5 x6 : Fq) (w : World) (hw : Lib.splitB (b1 32) 0 (Lib.countB s (b1 32)) s = [w0, w1, w2, w3, w4, w5, w6]) (h0 : FP w0 x0 0) (h1 : FP w1 x1 0) (h2 : FP w2 x2 0) (h3 : FP w3 x3 0) (h4 : FP w4 x4 0) (h5 : FP w5 x5 0) (h6 : FP w6 x6 0) (gq : (Qq.mk x0 x1 x2 x3).good) (z0 : w0.size ≤ 4294967280) (z1 : w1.size ≤ 4294967280) (z2 : w2.size ≤ 4294967280) (z3 : w3.size ≤ 4294967280) (z4 : w4.size ≤ 4294967280) (z5 : w5.size ≤ 4294967280) (z6 : w6.size ≤ 4294967280) (k0 : x0.ok 1000) (k1 : x1.ok 1000) (k2 : x2.ok 1000) (k3 : x3.ok 1000) (k4 : x4.ok 1000) (k5 : x5.ok 1000) (k6 : x6.ok 1000) (hs : s.size ≤ 4294967280) : Calls Tryz.prog 15 #[.string s] w fun e w' => RetOqE w ⟨⟨x0, x1, x2, x3⟩, ⟨x4, x5, x6⟩⟩ 0 e w' := by
  refine (calls_runFn (ρ := frs (xpD7X s w0 w1 w2 w3 w4 w5 w6 x0 x1 x2 x3 x4 x5 x6) ++ [.val (.string s), .row 9 7 [.val (.string w0), .val (.string w1), .val (.string w2), .val (.string w3), .val (.string w4), .val (.string w5), .val (.string w6)], .plc 9 [.val (.string w0)], .val (.string w0), .plc 9 [.val (.string w1)], .val (.string w1), .plc 9 [.val (.string w2)], .val (.string w2), .plc 9 [.val (.string w3)], .val (.string w3), .plc 9 [.val (.string w4)], .val (.string w4), .plc 9 [.val (.string w5)], .val (.string w5), .plc 9 [.val (.string w6)], .val (.string w6)]) (w := w) (fuel := 300) (args := [.one (.ref 21)]) (vs := [.string s]) (r := .tup [row [0, 1, 2, 3, 4, 5, 6], .one (.i .i64 0)])
    (il_cons (I_Split (n := 21) (m := 22) (s := s) (ss := [w0, w1, w2, w3, w4, w5, w6]) rfl rfl hw (by omega)) (il_cons (I_fParse (n := 24) (k := 0) (s := w0) rfl rfl (li rfl) h0 z0) (il_cons (I_fParse (n := 26) (k := 1) (s := w1) rfl rfl (li rfl) h1 z1) (il_cons (I_fParse (n := 28) (k := 2) (s := w2) rfl rfl (li rfl) h2 z2) (il_cons (I_fParse (n := 30) (k := 3) (s := w3) rfl rfl (li rfl) h3 z3) (il_cons (I_fParse (n := 32) (k := 4) (s := w4) rfl rfl (li rfl) h4 z4) (il_cons (I_fParse (n := 34) (k := 5) (s := w5) rfl rfl (li rfl) h5 z5) (il_cons (I_fParse (n := 36) (k := 6) (s := w6) rfl rfl (li rfl) h6 z6) (il_cons (I_fValidT1 (kq := [0, 1, 2, 3]) (q := (Qq.mk x0 x1 x2 x3)) ⟨rfl, rfl, rfl, rfl, trivial⟩ (⟨k0.mono (by decide), k1.mono (by decide), k2.mono (by decide), k3.mono (by decide)⟩ : Qq.ok 1000000 (Qq.mk x0 x1 x2 x3)) gq) il_nil)))))))))
    (ol_cons (o_lenR (n := 22) (t := 64) ⟨_, Tryz.underlying64⟩ rfl (li rfl)) (ol_cons (o_iaL (k := 0) (l := .i .i64 0) (sz := 1) (qs' := [.val (.string w0)]) (n := 22) (m := 23) Tryz.underlying64 (by kernel_rfl) rfl rfl (fun _ _ _ h => h) (by decide) (by simp) (fun j q hq => by match j, hq with | 0, hq => simp at hq; subst hq; rfl | j + 1, hq => simp at hq)) (ol_cons (o_ldP (n := 23) (l := .ref 24) (t := 9) (by kernel_rfl) rfl (lq rfl)) (ol_cons (o_iaL (k := 1) (l := .i .i64 1) (sz := 1) (qs' := [.val (.string w1)]) (n := 22) (m := 25) Tryz.underlying64 (by kernel_rfl) rfl rfl (fun _ _ _ h => h) (by decide) (by simp) (fun j q hq => by match j, hq with | 0, hq => simp at hq; subst hq; rfl | j + 1, hq => simp at hq)) (ol_cons (o_ldP (n := 25) (l := .ref 26) (t := 9) (by kernel_rfl) rfl (lq rfl)) (ol_cons (o_iaL (k := 2) (l := .i .i64 2) (sz := 1) (qs' := [.val (.string w2)]) (n := 22) (m := 27) Tryz.underlying64 (by kernel_rfl) rfl rfl (fun _ _ _ h => h) (by decide) (by simp) (fun j q hq => by match j, hq with | 0, hq => simp at hq; subst hq; rfl | j + 1, hq => simp at hq)) (ol_cons (o_ldP (n := 27) (l := .ref 28) (t := 9) (by kernel_rfl) rfl (lq rfl)) (ol_cons (o_iaL (k := 3) (l := .i .i64 3) (sz := 1) (qs' := [.val (.string w3)]) (n := 22) (m := 29) Tryz.underlying64 (by kernel_rfl) rfl rfl (fun _ _ _ h => h) (by decide) (by simp) (fun j q hq => by match j, hq with | 0, hq => simp at hq; subst hq; rfl | j + 1, hq => simp at hq)) (ol_cons (o_ldP (n := 29) (l := .ref 30) (t := 9) (by kernel_rfl) rfl (lq rfl)) (ol_cons (o_iaL (k := 4) (l := .i .i64 4) (sz := 1) (qs' := [.val (.string w4)]) (n := 22) (m := 31) Tryz.underlying64 (by kernel_rfl) rfl rfl (fun _ _ _ h => h) (by decide) (by simp) (fun j q hq => by match j, hq with | 0, hq => simp at hq; subst hq; rfl | j + 1, hq => simp at hq)) (ol_cons (o_ldP (n := 31) (l := .ref 32) (t := 9) (by kernel_rfl) rfl (lq rfl)) (ol_cons (o_iaL (k := 5) (l := .i .i64 5) (sz := 1) (qs' := [.val (.string w5)]) (n := 22) (m := 33) Tryz.underlying64 (by kernel_rfl) rfl rfl (fun _ _ _ h => h) (by decide) (by simp) (fun j q hq => by match j, hq with | 0, hq => simp at hq; subst hq; rfl | j + 1, hq => simp at hq)) (ol_cons (o_ldP (n := 33) (l := .ref 34) (t := 9) (by kernel_rfl) rfl (lq rfl)) (ol_cons (o_iaL (k := 6) (l := .i .i64 6) (sz := 1) (qs' := [.val (.string w6)]) (n := 22) (m := 35) Tryz.underlying64 (by kernel_rfl) rfl rfl (fun _ _ _ h => h) (by decide) (by simp) (fun j q hq => by match j, hq with | 0, hq => simp at hq; subst hq; rfl | j + 1, hq => simp at hq)) (ol_cons (o_ldP (n := 35) (l := .ref 36) (t := 9) (by kernel_rfl) rfl (lq rfl)) (ol_nil)))))))))))))))) (by kernel_rfl) Tryz.func15 (by kernel_rfl) ⟨ls (n := 21) rfl (fun _ => none) w, trivial⟩).mono ?_
  rintro e w' ⟨v, rfl, ⟨vs, rfl, h1⟩, h2⟩
  match vs, h1 with
  | [r, cv], h1 =>
    obtain ⟨⟨cs, rfl, k1⟩, k2, _⟩ := h1
    have k2 : cv = _ := k2
    subst k2
    exact ⟨_, rfl, (row_isL (xs := xpD7X s w0 w1 w2 w3 w4 w5 w6 x0 x1 x2 x3 x4 x5 x6) (ks := [0, 1, 2, 3, 4, 5, 6]) (vs := [x0, x1, x2, x3, x4, x5, x6]) ⟨rfl, rfl, rfl, rfl, rfl, rfl, rfl, trivial⟩).1 ⟨_, rfl, k1⟩, h2⟩
end Go.Proofs.YthebfmlfgfmlnaaGreatDoor
namespace Go.Proofs.YthebfmlfgfmlnaaGreatDoor
set_option linter.unusedSimpArgs false
set_option linter.unusedVariables false
set_option maxRecDepth 100000
open Go.RowKit
/-- Behind k rounds: where the present part begins, and the parts that are finished. -/
def spSt (s : ByteArray) : Nat → Nat × List ByteArray
  | 0 => (0, [])
  | k + 1 => if k = s.size ∨ by' s k = 32 then (k + 1, (spSt s k).2 ++ [s.extract (spSt s k).1 k]) else spSt s k
theorem spSt_run (s : ByteArray) {a : Nat} {D : List ByteArray} (h : spSt s a = (a, D)) : ∀ j, a + j ≤ s.size → (∀ m, m < j → by' s (a + m) ≠ 32) → spSt s (a + j) = (a, D)
  | 0, _, _ => h
  | j + 1, hj, hm => by
    have ih := spSt_run s h j (by omega) (fun m h => hm m (by omega))
    show spSt s (a + j + 1) = _
    unfold spSt
    rw [if_neg (fun h => h.elim (fun h => by omega) (hm j (by omega)))]
    exact ih
theorem spSt_end (s : ByteArray) : ∀ (n a : Nat) (D : List ByteArray), s.size - a = n → a ≤ s.size → spSt s a = (a, D) → (spSt s (s.size + 1)).2 = D ++ Lib.splitB (b1 32) 0 (Lib.countB (s.extract a s.size) (b1 32)) (s.extract a s.size) := by
  intro n
  induction n using Nat.strongRecOn with
  | _ n ih =>
    intro a D hn ha h
    have hsz : (s.extract a s.size).size = s.size - a := sz_ex (Nat.le_refl _)
    rcases ch_cases 32 (s.extract a s.size) with ⟨i, hi⟩ | hno
    · have h1 := hi.1
      rw [hsz] at h1
      have hb : by' s (a + i) = 32 := by have := hi.2.1; rw [by_tail (by omega)] at this; exact this
      have hr := spSt_run s h i (by omega) (fun m hm => by have := hi.2.2 m hm; rw [by_tail (by omega)] at this; exact this)
      have h2 : spSt s (a + i + 1) = (a + i + 1, D ++ [s.extract a (a + i)]) := by
        show (if a + i = s.size ∨ by' s (a + i) = 32 then _ else _) = _
        rw [if_pos (.inr hb), hr]
      rw [ih (s.size - (a + i + 1)) (by omega) (a + i + 1) _ rfl (by omega) h2]
      have e : (s.extract a s.size).extract (i + 1) (s.extract a s.size).size = s.extract (a + i + 1) s.size := by
        rw [hsz, ex_ex (Nat.le_refl _) (by omega)]
        congr 1; omega
      have e0 : (s.extract a s.size).extract 0 i = s.extract a (a + i) := by rw [ex_ex (Nat.le_refl _) (by omega)]; rfl
      have hc : Lib.splitB (b1 32) 0 (Lib.countB (s.extract a s.size) (b1 32)) (s.extract a s.size) = (s.extract a s.size).extract 0 i :: Lib.splitB (b1 32) 0 (Lib.countB ((s.extract a s.size).extract (i + 1) (s.extract a s.size).size) (b1 32)) ((s.extract a s.size).extract (i + 1) (s.extract a s.size).size) := by
        rw [ch_count hi, Nat.add_comm 1, Lib.splitB_hit (b1 32) 0 _ _ i (ch_index hi)]
        rfl
      rw [hc, e0, e, List.append_assoc]
      rfl
    · have hr := spSt_run s h (s.size - a) (by omega) (fun m hm => by have := hno m (by omega); rw [by_tail (by omega)] at this; exact this)
      rw [show a + (s.size - a) = s.size from by omega] at hr
      rw [ch_count0 hno]
      show (spSt s (s.size + 1)).2 = _
      unfold spSt
      rw [if_pos (.inl rfl), hr]
      rfl
theorem spSt_parts (s : ByteArray) : (spSt s (s.size + 1)).2 = Lib.splitB (b1 32) 0 (Lib.countB s (b1 32)) s := by
  have h := spSt_end s (s.size - 0) 0 [] rfl (Nat.zero_le _) rfl
  rw [show s.extract 0 s.size = s by simp] at h
  exact h
section
variable {w : World} {s : ByteArray} {a k : Nat} {l : List ByteArray}
end
end Go.Proofs.YthebfmlfgfmlnaaGreatDoor
namespace Go.Proofs.YthebfmlfgfmlnaaGreatDoor
set_option linter.unusedSimpArgs false
set_option linter.unusedVariables false
set_option maxRecDepth 100000
open Go.RowKit
theorem fp_valid {s : ByteArray} {x : Fq} {c : Int} (h : FP s x c) (hc : c = 0) : x.valid = true := by
  cases h with
  | num _ _ h0 => exact absurd hc h0
  | den _ _ _ h0 => exact absurd hc h0
  | bad _ _ _ _ => exact absurd hc (by decide)
  | @good t B F a b M N h ha hb hv =>
    cases F with
    | false => simpa [parseV, parseQ] using hv
    | true =>
      have hv' : ¬ N = 1 ∧ (Fq.mk B M N).valid = true := by simpa [parseV] using hv
      simpa [parseQ] using hv'.2
theorem fp_size {s : ByteArray} {x : Fq} (h : FP s x 0) : x.ok 1000 := by
  have := fp_ok h
  exact ⟨by omega, by omega, this.2.2 rfl⟩
theorem good_no {s : ByteArray} (h : goodTo s s.size) : ChNo 32 s := fun k hk e => by
  have := h k hk
  have e : by' s k = 32 := e
  omega
theorem fp_no {s : ByteArray} {x : Fq} {c : Int} (h : FP s x c) (hc : c = 0) : ChNo 32 s := by
  cases h with
  | num _ _ h0 => exact absurd hc h0
  | den _ _ _ h0 => exact absurd hc h0
  | bad _ _ _ _ => exact absurd hc (by decide)
  | @good t B F a b M N h ha hb hv =>
    have ht : ChNo 32 t := by
      have h1 := good_no (parse_good ha).2
      cases F with
      | false => rw [← (h.miss rfl).2.1]; exact h1
      | true =>
        obtain ⟨i, hi, ea, eb⟩ := h.hit rfl
        have h2 := good_no (parse_good (hb rfl)).2
        have hi1 := hi.1
        intro k hk e
        rcases Nat.lt_trichotomy k i with h3 | h3 | h3
        · refine h1 k (by rw [ea, sz_ex (by omega)]; omega) ?_
          rw [ea, by_ex t 0 i k (by omega) (by omega), Nat.zero_add]; exact e
        · subst h3
          have := hi.2.1
          have e : by' t k = 32 := e
          omega
        · refine h2 (k - (i + 1)) (by rw [eb, sz_ex (Nat.le_refl _)]; omega) ?_
          rw [eb, by_tail (by omega), show i + 1 + (k - (i + 1)) = k from by omega]; exact e
    have hr := h.rest
    have hs := h.sign
    cases B with
    | false => have hr : t = s := by simpa using hr
               rw [← hr]; exact ht
    | true =>
      have hr : t = s.extract 1 s.size := by simpa using hr
      have hs := of_decide_eq_true hs
      intro k hk e
      have e : by' s k = 32 := e
      by_cases h0 : k = 0
      · subst h0; have := hs.2; omega
      · refine ht (k - 1) (by rw [hr, sz_ex (Nat.le_refl _)]; omega) ?_
        rw [hr, by_tail (by omega), show 1 + (k - 1) = k from by omega]; exact e
-- parts and joins
theorem joinB_one (x : ByteArray) : joinB [x] = x := by
  apply ByteArray.ext; apply Array.toList_inj.1
  simp [joinB, Lib.join, List.intercalate]
theorem joinB_cons (x y : ByteArray) (l : List ByteArray) : joinB (x :: y :: l) = x ++ (ByteArray.mk #[32] ++ joinB (y :: l)) := by
  apply ByteArray.ext; apply Array.toList_inj.1
  simp [joinB, Lib.join, List.intercalate]
theorem parts_no {u : ByteArray} (h : ChNo 32 u) : parts u = [u] := by
  unfold parts
  rw [ch_count0 h]; rfl
theorem parts_at {u : ByteArray} {i : Nat} (h : ChAt 32 u i) : parts u = u.extract 0 i :: parts (u.extract (i + 1) u.size) := by
  unfold parts
  rw [ch_count h, Nat.add_comm 1, Lib.splitB_hit (b1 32) 0 _ _ i (ch_index h)]
  rfl
theorem parts_join : ∀ (l : List ByteArray), l ≠ [] → (∀ x ∈ l, ChNo 32 x) → parts (joinB l) = l
  | [], h, _ => absurd rfl h
  | [x], _, h => by rw [joinB_one]; exact parts_no (h x (by simp))
  | x :: y :: l, _, h => by
    have ih := parts_join (y :: l) (by simp) (fun z hz => h z (List.mem_cons_of_mem _ hz))
    rw [joinB_cons]
    generalize joinB (y :: l) = r at ih
    have hsz : (x ++ (ByteArray.mk #[32] ++ r)).size = x.size + (1 + r.size) := by rw [ByteArray.size_append, ByteArray.size_append]; rfl
    have hA : ChAt 32 (x ++ (ByteArray.mk #[32] ++ r)) x.size := by
      refine ⟨by omega, ?_, fun k hk => ?_⟩
      · rw [by_app, if_neg (by omega), by_app, if_pos (by show x.size - x.size < 1; omega), Nat.sub_self]; rfl
      · rw [by_app, if_pos hk]; exact h x (by simp) k hk
    rw [parts_at hA, cut_app _ _ _ rfl]
    have e : (x ++ (ByteArray.mk #[32] ++ r)).extract (x.size + 1) (x ++ (ByteArray.mk #[32] ++ r)).size = r := by
      have e1 : x ++ (ByteArray.mk #[32] ++ r) = (x ++ ByteArray.mk #[32]) ++ r := by rw [ByteArray.append_assoc]
      rw [e1]
      exact tail_app _ _ _ (by rw [ByteArray.size_append]; rfl)
    rw [e, ih]
theorem spSt_sizes (s : ByteArray) : ∀ k, k ≤ s.size + 1 → ∀ x ∈ (spSt s k).2, x.size ≤ s.size
  | 0, _, x, hx => by cases hx
  | k + 1, hk, x, hx => by
    have ih := spSt_sizes s k (by omega)
    unfold spSt at hx
    split at hx
    · rcases List.mem_append.1 hx with h | h
      · exact ih x h
      · have h := List.mem_singleton.1 h
        subst h
        rw [ByteArray.size_extract]; omega
    · exact ih x hx
theorem parts_size {s x : ByteArray} (h : x ∈ parts s) : x.size ≤ s.size := by
  unfold parts at h
  rw [← spSt_parts] at h
  exact spSt_sizes s _ (Nat.le_refl _) x h
-- what Decode answers
inductive PD (s : ByteArray) : Pq → Int → Prop
  | form (h : (parts s).length ≠ 7) : PD s .zero 2
  | e0 {w0 w1 w2 w3 w4 w5 w6 x0 c} (h : parts s = [w0, w1, w2, w3, w4, w5, w6]) (h0 : FP w0 x0 c) (hc : c ≠ 0) : PD s .zero c
  | e1 {w0 w1 w2 w3 w4 w5 w6 x0 x1 c} (h : parts s = [w0, w1, w2, w3, w4, w5, w6]) (h0 : FP w0 x0 0) (h1 : FP w1 x1 c) (hc : c ≠ 0) : PD s .zero c
  | e2 {w0 w1 w2 w3 w4 w5 w6 x0 x1 x2 c} (h : parts s = [w0, w1, w2, w3, w4, w5, w6]) (h0 : FP w0 x0 0) (h1 : FP w1 x1 0) (h2 : FP w2 x2 c) (hc : c ≠ 0) : PD s .zero c
  | e3 {w0 w1 w2 w3 w4 w5 w6 x0 x1 x2 x3 c} (h : parts s = [w0, w1, w2, w3, w4, w5, w6]) (h0 : FP w0 x0 0) (h1 : FP w1 x1 0) (h2 : FP w2 x2 0) (h3 : FP w3 x3 c) (hc : c ≠ 0) : PD s .zero c
  | e4 {w0 w1 w2 w3 w4 w5 w6 x0 x1 x2 x3 x4 c} (h : parts s = [w0, w1, w2, w3, w4, w5, w6]) (h0 : FP w0 x0 0) (h1 : FP w1 x1 0) (h2 : FP w2 x2 0) (h3 : FP w3 x3 0) (h4 : FP w4 x4 c) (hc : c ≠ 0) : PD s .zero c
  | e5 {w0 w1 w2 w3 w4 w5 w6 x0 x1 x2 x3 x4 x5 c} (h : parts s = [w0, w1, w2, w3, w4, w5, w6]) (h0 : FP w0 x0 0) (h1 : FP w1 x1 0) (h2 : FP w2 x2 0) (h3 : FP w3 x3 0) (h4 : FP w4 x4 0) (h5 : FP w5 x5 c) (hc : c ≠ 0) : PD s .zero c
  | e6 {w0 w1 w2 w3 w4 w5 w6 x0 x1 x2 x3 x4 x5 x6 c} (h : parts s = [w0, w1, w2, w3, w4, w5, w6]) (h0 : FP w0 x0 0) (h1 : FP w1 x1 0) (h2 : FP w2 x2 0) (h3 : FP w3 x3 0) (h4 : FP w4 x4 0) (h5 : FP w5 x5 0) (h6 : FP w6 x6 c) (hc : c ≠ 0) : PD s .zero c
  | range {w0 w1 w2 w3 w4 w5 w6 x0 x1 x2 x3 x4 x5 x6} (h : parts s = [w0, w1, w2, w3, w4, w5, w6]) (h0 : FP w0 x0 0) (h1 : FP w1 x1 0) (h2 : FP w2 x2 0) (h3 : FP w3 x3 0) (h4 : FP w4 x4 0) (h5 : FP w5 x5 0) (h6 : FP w6 x6 0) (hf : (Qq.mk x0 x1 x2 x3).first ≠ (Fq.ofInt 1)) : PD s .zero 4
  | good {w0 w1 w2 w3 w4 w5 w6 x0 x1 x2 x3 x4 x5 x6} (h : parts s = [w0, w1, w2, w3, w4, w5, w6]) (h0 : FP w0 x0 0) (h1 : FP w1 x1 0) (h2 : FP w2 x2 0) (h3 : FP w3 x3 0) (h4 : FP w4 x4 0) (h5 : FP w5 x5 0) (h6 : FP w6 x6 0) (hf : (Qq.mk x0 x1 x2 x3).first = (Fq.ofInt 1)) : PD s ⟨⟨x0, x1, x2, x3⟩, ⟨x4, x5, x6⟩⟩ 0
theorem parts_text {a : Pq} (g : a.good) (k : a.ok 12) : parts a.text = [a.rot.w.fmt, a.rot.x.fmt, a.rot.y.fmt, a.rot.z.fmt, a.pos.x.fmt, a.pos.y.fmt, a.pos.z.fmt] := by
  have f : ∀ {x : Fq}, x.valid = true → x.ok 12 → ChNo 32 x.fmt := fun h1 h2 => fp_no (fmt_fp h1 h2.p h2.q) rfl
  refine parts_join _ (by simp) (fun x hx => ?_)
  simp only [List.mem_cons, List.not_mem_nil, or_false] at hx
  rcases hx with rfl | rfl | rfl | rfl | rfl | rfl | rfl
  · exact f g.rot.comp.w k.rot.w
  · exact f g.rot.comp.x k.rot.x
  · exact f g.rot.comp.y k.rot.y
  · exact f g.rot.comp.z k.rot.z
  · exact f g.pos.x k.pos.x
  · exact f g.pos.y k.pos.y
  · exact f g.pos.z k.pos.z
theorem pd_text {a : Pq} (g : a.good) (k : a.ok 12) : PD a.text a 0 := by
  have f : ∀ {x : Fq}, x.valid = true → x.ok 12 → FP x.fmt x 0 := fun h1 h2 => fmt_fp h1 h2.p h2.q
  exact .good (parts_text g k) (f g.rot.comp.w k.rot.w) (f g.rot.comp.x k.rot.x) (f g.rot.comp.y k.rot.y) (f g.rot.comp.z k.rot.z) (f g.pos.x k.pos.x) (f g.pos.y k.pos.y) (f g.pos.z k.pos.z) (good_first g.rot)
theorem q_poDecode (s : ByteArray) (p : Pq) (c : Int) (w : World) (h : PD s p c) (hs : s.size ≤ 4294967280) : Calls Tryz.prog 15 #[.string s] w fun e w' => RetOqE w p c e w' := by
  have z : ∀ x, x ∈ parts s → x.size ≤ 4294967280 := fun x hx => Nat.le_trans (parts_size hx) hs
  cases h with
  | form h => exact q_pDF s _ w rfl h hs
  | @e0 w0 w1 w2 w3 w4 w5 w6 x0 c h h0 hc => exact q_pD0 s w0 w1 w2 w3 w4 w5 w6 x0 c w h h0 hc (z w0 (by rw [h]; simp)) hs
  | @e1 w0 w1 w2 w3 w4 w5 w6 x0 x1 c h h0 h1 hc => exact q_pD1 s w0 w1 w2 w3 w4 w5 w6 x0 x1 c w h h0 h1 hc (z w0 (by rw [h]; simp)) (z w1 (by rw [h]; simp)) hs
  | @e2 w0 w1 w2 w3 w4 w5 w6 x0 x1 x2 c h h0 h1 h2 hc => exact q_pD2 s w0 w1 w2 w3 w4 w5 w6 x0 x1 x2 c w h h0 h1 h2 hc (z w0 (by rw [h]; simp)) (z w1 (by rw [h]; simp)) (z w2 (by rw [h]; simp)) hs
  | @e3 w0 w1 w2 w3 w4 w5 w6 x0 x1 x2 x3 c h h0 h1 h2 h3 hc => exact q_pD3 s w0 w1 w2 w3 w4 w5 w6 x0 x1 x2 x3 c w h h0 h1 h2 h3 hc (z w0 (by rw [h]; simp)) (z w1 (by rw [h]; simp)) (z w2 (by rw [h]; simp)) (z w3 (by rw [h]; simp)) hs
  | @e4 w0 w1 w2 w3 w4 w5 w6 x0 x1 x2 x3 x4 c h h0 h1 h2 h3 h4 hc => exact q_pD4 s w0 w1 w2 w3 w4 w5 w6 x0 x1 x2 x3 x4 c w h h0 h1 h2 h3 h4 hc (z w0 (by rw [h]; simp)) (z w1 (by rw [h]; simp)) (z w2 (by rw [h]; simp)) (z w3 (by rw [h]; simp)) (z w4 (by rw [h]; simp)) hs
  | @e5 w0 w1 w2 w3 w4 w5 w6 x0 x1 x2 x3 x4 x5 c h h0 h1 h2 h3 h4 h5 hc => exact q_pD5 s w0 w1 w2 w3 w4 w5 w6 x0 x1 x2 x3 x4 x5 c w h h0 h1 h2 h3 h4 h5 hc (z w0 (by rw [h]; simp)) (z w1 (by rw [h]; simp)) (z w2 (by rw [h]; simp)) (z w3 (by rw [h]; simp)) (z w4 (by rw [h]; simp)) (z w5 (by rw [h]; simp)) hs
  | @e6 w0 w1 w2 w3 w4 w5 w6 x0 x1 x2 x3 x4 x5 x6 c h h0 h1 h2 h3 h4 h5 h6 hc => exact q_pD6 s w0 w1 w2 w3 w4 w5 w6 x0 x1 x2 x3 x4 x5 x6 c w h h0 h1 h2 h3 h4 h5 h6 hc (z w0 (by rw [h]; simp)) (z w1 (by rw [h]; simp)) (z w2 (by rw [h]; simp)) (z w3 (by rw [h]; simp)) (z w4 (by rw [h]; simp)) (z w5 (by rw [h]; simp)) (z w6 (by rw [h]; simp)) hs
  | @range w0 w1 w2 w3 w4 w5 w6 x0 x1 x2 x3 x4 x5 x6 h h0 h1 h2 h3 h4 h5 h6 hf => exact q_pD7R s w0 w1 w2 w3 w4 w5 w6 x0 x1 x2 x3 x4 x5 x6 w h h0 h1 h2 h3 h4 h5 h6 ⟨fp_valid h0 rfl, fp_valid h1 rfl, fp_valid h2 rfl, fp_valid h3 rfl⟩ hf (z w0 (by rw [h]; simp)) (z w1 (by rw [h]; simp)) (z w2 (by rw [h]; simp)) (z w3 (by rw [h]; simp)) (z w4 (by rw [h]; simp)) (z w5 (by rw [h]; simp)) (z w6 (by rw [h]; simp)) (fp_size h0) (fp_size h1) (fp_size h2) (fp_size h3) (fp_size h4) (fp_size h5) (fp_size h6) hs
  | @good w0 w1 w2 w3 w4 w5 w6 x0 x1 x2 x3 x4 x5 x6 h h0 h1 h2 h3 h4 h5 h6 hf => exact q_pD7 s w0 w1 w2 w3 w4 w5 w6 x0 x1 x2 x3 x4 x5 x6 w h h0 h1 h2 h3 h4 h5 h6 (good_of ⟨fp_valid h0 rfl, fp_valid h1 rfl, fp_valid h2 rfl, fp_valid h3 rfl⟩ hf) (z w0 (by rw [h]; simp)) (z w1 (by rw [h]; simp)) (z w2 (by rw [h]; simp)) (z w3 (by rw [h]; simp)) (z w4 (by rw [h]; simp)) (z w5 (by rw [h]; simp)) (z w6 (by rw [h]; simp)) (fp_size h0) (fp_size h1) (fp_size h2) (fp_size h3) (fp_size h4) (fp_size h5) (fp_size h6) hs
theorem I_poDecode {xs : List Fq} {ys : Rho} {kr : List Nat} {s : ByteArray} {p : Pq} {c : Int} {l0 l : Leaf} (h0 : ∀ B w v, l0.holds (frs xs ++ ys) B w v → v = .string s) (ar : AtL xs kr [p.rot.w, p.rot.x, p.rot.y, p.rot.z, p.pos.x, p.pos.y, p.pos.z]) (hl : ∀ B w, l.holds (frs xs ++ ys) B w (.int .i64 c)) (h : PD s p c) (hs : s.size ≤ 4294967280) : OkI xs ys ⟨15, [.one l0], .tup [row kr, .one l]⟩ :=
  ⟨enters Tryz.func15 rfl rfl, fun B w vs hB hv => by
    match vs, hv with
    | [va], hv =>
      have e := h0 _ _ _ hv.1
      subst e
      refine (q_poDecode s p c w h hs).mono ?_
      rintro e w' ⟨v, rfl, h1, h2⟩
      exact ⟨_, rfl, ⟨[v, .int .i64 c], rfl, (row_isL ar).2 h1, hl B w', trivial⟩, h2⟩⟩
end Go.Proofs.YthebfmlfgfmlnaaGreatDoor
