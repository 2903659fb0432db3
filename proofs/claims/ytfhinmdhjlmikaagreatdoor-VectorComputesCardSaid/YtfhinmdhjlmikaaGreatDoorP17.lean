/- What vector.Parse does. What vector.Format does. awake of the laws of vectors. The law that addition and scaling are those of a vector space. The law that vectors are computed as specified. What an argument of type api.Nat is: a row of digits. What an argument of type api.Quat is: four fractions, leading zeros allowed; its rows are no longer than memory. What arguments of the types api.Vec and api.Frac are: rows of fractions, leading zeros allowed. -/
import Derived.Test.YtfhinmdhjlmikaaGreatDoorP16
import Derived.WalkKit
import Derived.ProofKit
import Derived.OpenShut
import Derived.ShutString
import Derived.ChangeOld
import Derived.Below
import Derived.SizedLaws
import Derived.Deep.Strs
namespace Go.Proofs.YtfhinmdhjlmikaaGreatDoor
set_option linter.unusedSimpArgs false
set_option linter.unusedVariables false
set_option maxRecDepth 100000
open Go.RowKit
abbrev RetVqE (W : World) (a : Vq) (c : Int) (e : Ending) (w' : World) : Prop := RetLE W [a.x.raw, a.y.raw, a.z.raw] c e w'
theorem bneq_f {u c : Int} (h : u = c) : (u != c) = false := by simpa using h
theorem bneq_t {u c : Int} (h : u ≠ c) : (u != c) = true := by simpa using h
def xvP1X (s : ByteArray) : List Fq := []
theorem q_vP1 (s : ByteArray) (w : World) (h1 : s.size < 2) (hs : s.size ≤ 4294967280) : Calls Tryz.prog 25 #[.string s] w fun e w' => RetVqE w .zero 2 e w' := by
  refine (calls_runFn (ρ := frs (xvP1X s) ++ [.val (.string s), .val (.int .i64 ((s.size : Nat) : Int))]) (w := w) (fuel := 300) (args := [.one (.ref 0)]) (vs := [.string s]) (r := .tup [.agg [.b false, .sl0, .sl0, .b false, .sl0, .sl0, .b false, .sl0, .sl0], .one (.i .i64 2)])
    (il_nil)
    (ol_cons (o_lenS (n := 0) (m := 1) (t := 9) (by kernel_rfl) rfl rfl) (ol_cons (o_lssK (n := 1) (c := 2) (u := ((s.size : Nat) : Int)) (b := true) (t := 3) rfl (decide_eq_true (by omega))) (ol_nil))) (by kernel_rfl) Tryz.func25 (by kernel_rfl) ⟨ls (n := 0) rfl (fun _ => none) w, trivial⟩).mono ?_
  rintro e w' ⟨v, rfl, ⟨vs, rfl, h1⟩, h2⟩
  match vs, h1 with
  | [r, cv], h1 =>
    obtain ⟨⟨cs, rfl, k1⟩, k2, _⟩ := h1
    have k2 : cv = _ := k2
    subst k2
    exact ⟨_, rfl, ⟨_, rfl, zero_row (n := 3) k1⟩, h2⟩
def xvP2X (s : ByteArray) : List Fq := []
theorem q_vP2 (s : ByteArray) (w : World) (h1 : 2 ≤ s.size) (h2 : by' s 0 ≠ 40) (hs : s.size ≤ 4294967280) : Calls Tryz.prog 25 #[.string s] w fun e w' => RetVqE w .zero 2 e w' := by
  refine (calls_runFn (ρ := frs (xvP2X s) ++ [.val (.string s), .val (.int .i64 ((s.size : Nat) : Int)), .val (.int .u8 ((by' s 0 : Nat) : Int))]) (w := w) (fuel := 300) (args := [.one (.ref 0)]) (vs := [.string s]) (r := .tup [.agg [.b false, .sl0, .sl0, .b false, .sl0, .sl0, .b false, .sl0, .sl0], .one (.i .i64 2)])
    (il_nil)
    (ol_cons (o_lenS (n := 0) (m := 1) (t := 9) (by kernel_rfl) rfl rfl) (ol_cons (o_lssK (n := 1) (c := 2) (u := ((s.size : Nat) : Int)) (b := false) (t := 3) rfl (decide_eq_false (by omega))) (ol_cons (o_idxS (n := 0) (m := 2) (k := 0) (c := 0) (t := 9) (by kernel_rfl) rfl rfl (by omega) rfl) (ol_cons (o_neqK (n := 2) (c := 40) (u := ((by' s 0 : Nat) : Int)) (b := true) (t := 5) rfl (bneq_t (by omega))) (ol_nil))))) (by kernel_rfl) Tryz.func25 (by kernel_rfl) ⟨ls (n := 0) rfl (fun _ => none) w, trivial⟩).mono ?_
  rintro e w' ⟨v, rfl, ⟨vs, rfl, h1⟩, h2⟩
  match vs, h1 with
  | [r, cv], h1 =>
    obtain ⟨⟨cs, rfl, k1⟩, k2, _⟩ := h1
    have k2 : cv = _ := k2
    subst k2
    exact ⟨_, rfl, ⟨_, rfl, zero_row (n := 3) k1⟩, h2⟩
def xvP3X (s : ByteArray) : List Fq := []
theorem q_vP3 (s : ByteArray) (w : World) (h1 : 2 ≤ s.size) (h2 : by' s 0 = 40) (h3 : by' s (s.size - 1) ≠ 41) (hs : s.size ≤ 4294967280) : Calls Tryz.prog 25 #[.string s] w fun e w' => RetVqE w .zero 2 e w' := by
  refine (calls_runFn (ρ := frs (xvP3X s) ++ [.val (.string s), .val (.int .i64 ((s.size : Nat) : Int)), .val (.int .u8 ((by' s 0 : Nat) : Int)), .val (.int .i64 (((s.size : Nat) : Int) - 1)), .val (.int .u8 (((by' s (s.size - 1)) : Nat) : Int))]) (w := w) (fuel := 300) (args := [.one (.ref 0)]) (vs := [.string s]) (r := .tup [.agg [.b false, .sl0, .sl0, .b false, .sl0, .sl0, .b false, .sl0, .sl0], .one (.i .i64 2)])
    (il_nil)
    (ol_cons (o_lenS (n := 0) (m := 1) (t := 9) (by kernel_rfl) rfl rfl) (ol_cons (o_lssK (n := 1) (c := 2) (u := ((s.size : Nat) : Int)) (b := false) (t := 3) rfl (decide_eq_false (by omega))) (ol_cons (o_idxS (n := 0) (m := 2) (k := 0) (c := 0) (t := 9) (by kernel_rfl) rfl rfl (by omega) rfl) (ol_cons (o_neqK (n := 2) (c := 40) (u := ((by' s 0 : Nat) : Int)) (b := false) (t := 5) rfl (bneq_f (by omega))) (ol_cons (o_subK (n := 1) (m := 3) (c := 1) (u := ((s.size : Nat) : Int)) (v := (((s.size : Nat) : Int) - 1)) (t := 3) rfl rfl rfl (by omega) (by omega)) (ol_cons (o_idxR (n := 0) (k := 3) (m := 4) (u := (((s.size : Nat) : Int) - 1)) (b := (by' s (s.size - 1))) (t := 9) (by kernel_rfl) rfl rfl rfl (by omega) (by omega) (congrArg (by' s) (by omega))) (ol_cons (o_neqK (n := 4) (c := 41) (u := (((by' s (s.size - 1)) : Nat) : Int)) (b := true) (t := 5) rfl (bneq_t (by omega))) (ol_nil)))))))) (by kernel_rfl) Tryz.func25 (by kernel_rfl) ⟨ls (n := 0) rfl (fun _ => none) w, trivial⟩).mono ?_
  rintro e w' ⟨v, rfl, ⟨vs, rfl, h1⟩, h2⟩
  match vs, h1 with
  | [r, cv], h1 =>
    obtain ⟨⟨cs, rfl, k1⟩, k2, _⟩ := h1
    have k2 : cv = _ := k2
    subst k2
    exact ⟨_, rfl, ⟨_, rfl, zero_row (n := 3) k1⟩, h2⟩
def xvP4X (s : ByteArray) : List Fq := []
theorem q_vP4 (s : ByteArray) (w : World) (h1 : 2 ≤ s.size) (h2 : by' s 0 = 40) (h3 : by' s (s.size - 1) = 41) (h4 : Lib.countB s (b1 32) ≠ 2) (hs : s.size ≤ 4294967280) : Calls Tryz.prog 25 #[.string s] w fun e w' => RetVqE w .zero 2 e w' := by
  refine (calls_runFn (ρ := frs (xvP4X s) ++ [.val (.string s), .val (.int .i64 ((s.size : Nat) : Int)), .val (.int .u8 ((by' s 0 : Nat) : Int)), .val (.int .i64 (((s.size : Nat) : Int) - 1)), .val (.int .u8 (((by' s (s.size - 1)) : Nat) : Int)), .val (.int .i64 ((Lib.countB s (b1 32) : Nat) : Int))]) (w := w) (fuel := 300) (args := [.one (.ref 0)]) (vs := [.string s]) (r := .tup [.agg [.b false, .sl0, .sl0, .b false, .sl0, .sl0, .b false, .sl0, .sl0], .one (.i .i64 2)])
    (il_cons (I_Count (n := 0) rfl (lr (n := 5) rfl)) il_nil)
    (ol_cons (o_lenS (n := 0) (m := 1) (t := 9) (by kernel_rfl) rfl rfl) (ol_cons (o_lssK (n := 1) (c := 2) (u := ((s.size : Nat) : Int)) (b := false) (t := 3) rfl (decide_eq_false (by omega))) (ol_cons (o_idxS (n := 0) (m := 2) (k := 0) (c := 0) (t := 9) (by kernel_rfl) rfl rfl (by omega) rfl) (ol_cons (o_neqK (n := 2) (c := 40) (u := ((by' s 0 : Nat) : Int)) (b := false) (t := 5) rfl (bneq_f (by omega))) (ol_cons (o_subK (n := 1) (m := 3) (c := 1) (u := ((s.size : Nat) : Int)) (v := (((s.size : Nat) : Int) - 1)) (t := 3) rfl rfl rfl (by omega) (by omega)) (ol_cons (o_idxR (n := 0) (k := 3) (m := 4) (u := (((s.size : Nat) : Int) - 1)) (b := (by' s (s.size - 1))) (t := 9) (by kernel_rfl) rfl rfl rfl (by omega) (by omega) (congrArg (by' s) (by omega))) (ol_cons (o_neqK (n := 4) (c := 41) (u := (((by' s (s.size - 1)) : Nat) : Int)) (b := false) (t := 5) rfl (bneq_f (by omega))) (ol_cons (o_neqK (n := 5) (c := 2) (u := ((Lib.countB s (b1 32) : Nat) : Int)) (b := true) (t := 3) rfl (bneq_t (by omega))) (ol_nil))))))))) (by kernel_rfl) Tryz.func25 (by kernel_rfl) ⟨ls (n := 0) rfl (fun _ => none) w, trivial⟩).mono ?_
  rintro e w' ⟨v, rfl, ⟨vs, rfl, h1⟩, h2⟩
  match vs, h1 with
  | [r, cv], h1 =>
    obtain ⟨⟨cs, rfl, k1⟩, k2, _⟩ := h1
    have k2 : cv = _ := k2
    subst k2
    exact ⟨_, rfl, ⟨_, rfl, zero_row (n := 3) k1⟩, h2⟩
def xvP5X (s : ByteArray) (i j : Nat) (x : Fq) (c : Int) : List Fq := [x]
theorem q_vP5 (s : ByteArray) (i j : Nat) (x : Fq) (c : Int) (w : World) (h : VCut s i j) (hx : FP (s.extract 1 i) x c) (h0 : c ≠ 0) (hs : s.size ≤ 4294967280) : Calls Tryz.prog 25 #[.string s] w fun e w' => RetVqE w .zero c e w' := by
  have hk := vcut_inner h
  obtain ⟨h1, h2, h3, _⟩ := h
  have q1 := hk.1
  have q2 := hk.2.1
  have q3 := hk.2.2.1
  refine (calls_runFn (ρ := frs (xvP5X s i j x c) ++ [.val (.string s), .val (.int .i64 ((s.size : Nat) : Int)), .val (.int .u8 ((by' s 0 : Nat) : Int)), .val (.int .i64 (((s.size : Nat) : Int) - 1)), .val (.int .u8 (((by' s (s.size - 1)) : Nat) : Int)), .val (.string (s.extract 1 (s.size - 1))), .strs [s.extract 1 i, s.extract (i + 1) j, s.extract (j + 1) (s.size - 1)], .strp (s.extract 1 i), .val (.string (s.extract 1 i)), .val (.int .i64 c)]) (w := w) (fuel := 300) (args := [.one (.ref 3)]) (vs := [.string s]) (r := .tup [.agg [.b false, .sl0, .sl0, .b false, .sl0, .sl0, .b false, .sl0, .sl0], .one (.ref 12)])
    (il_cons (I_Count (n := 3) rfl (li (by rw [hk.2.2.2.1]))) (il_cons (I_Split (n := 8) (m := 9) (s := (s.extract 1 (s.size - 1))) (ss := [s.extract 1 i, s.extract (i + 1) j, s.extract (j + 1) (s.size - 1)]) rfl rfl (by rw [hk.2.2.2.2.1]; exact hk.2.2.2.2.2) (by rw [sz_ex (by omega)]; omega)) (il_cons (I_fParse (n := 11) (k := 0) (s := (s.extract 1 i)) rfl rfl (lr (n := 12) rfl) hx (by rw [sz_ex (by omega)]; omega)) il_nil)))
    (ol_cons (o_lenS (n := 3) (m := 4) (t := 9) (by kernel_rfl) rfl rfl) (ol_cons (o_lssK (n := 4) (c := 2) (u := ((s.size : Nat) : Int)) (b := false) (t := 3) rfl (decide_eq_false (by omega))) (ol_cons (o_idxS (n := 3) (m := 5) (k := 0) (c := 0) (t := 9) (by kernel_rfl) rfl rfl (by omega) rfl) (ol_cons (o_neqK (n := 5) (c := 40) (u := ((by' s 0 : Nat) : Int)) (b := false) (t := 5) rfl (bneq_f (by omega))) (ol_cons (o_subK (n := 4) (m := 6) (c := 1) (u := ((s.size : Nat) : Int)) (v := (((s.size : Nat) : Int) - 1)) (t := 3) rfl rfl rfl (by omega) (by omega)) (ol_cons (o_idxR (n := 3) (k := 6) (m := 7) (u := (((s.size : Nat) : Int) - 1)) (b := (by' s (s.size - 1))) (t := 9) (by kernel_rfl) rfl rfl rfl (by omega) (by omega) (congrArg (by' s) (by omega))) (ol_cons (o_neqK (n := 7) (c := 41) (u := (((by' s (s.size - 1)) : Nat) : Int)) (b := false) (t := 5) rfl (bneq_f (by omega))) (ol_cons (o_slS (n := 3) (k := 6) (m := 8) (c := 1) (u := (((s.size : Nat) : Int) - 1)) (z := (s.extract 1 (s.size - 1))) (t := 9) (by kernel_rfl) rfl rfl rfl (by omega) (by omega) (by omega) (congrArg (s.extract 1) (by omega))) (ol_cons (o_iaS (n := 9) (m := 10) (k := 0) (l := [s.extract 1 i, s.extract (i + 1) j, s.extract (j + 1) (s.size - 1)]) (s := s.extract 1 i) (t := 59) rfl rfl Tryz.underlying59 (by kernel_rfl) rfl) (ol_cons (o_ldS (n := 10) (m := 11) (s := (s.extract 1 i)) (t := 9) rfl rfl (by kernel_rfl)) (ol_cons (o_neqK (n := 12) (c := 0) (u := c) (b := true) (t := 40) rfl (bneq_t h0)) (ol_nil)))))))))))) (by kernel_rfl) Tryz.func25 (by kernel_rfl) ⟨ls (n := 3) rfl (fun _ => none) w, trivial⟩).mono ?_
  rintro e w' ⟨v, rfl, ⟨vs, rfl, h1⟩, h2⟩
  match vs, h1 with
  | [r, cv], h1 =>
    obtain ⟨⟨cs, rfl, k1⟩, k2, _⟩ := h1
    obtain ⟨sv, q1, q2⟩ := k2
    have q3 : some (Vp.val (.int .i64 c)) = some sv := q1
    injection q3 with q3
    subst q3
    have k2 : cv = .int .i64 c := q2.1
    subst k2
    exact ⟨_, rfl, ⟨_, rfl, zero_row (n := 3) k1⟩, h2⟩
def xvP6X (s : ByteArray) (i j : Nat) (x y : Fq) (c : Int) : List Fq := [x, y]
theorem q_vP6 (s : ByteArray) (i j : Nat) (x y : Fq) (c : Int) (w : World) (h : VCut s i j) (hx : FP (s.extract 1 i) x 0) (hy : FP (s.extract (i + 1) j) y c) (h0 : c ≠ 0) (hs : s.size ≤ 4294967280) : Calls Tryz.prog 25 #[.string s] w fun e w' => RetVqE w .zero c e w' := by
  have hk := vcut_inner h
  obtain ⟨h1, h2, h3, _⟩ := h
  have q1 := hk.1
  have q2 := hk.2.1
  have q3 := hk.2.2.1
  refine (calls_runFn (ρ := frs (xvP6X s i j x y c) ++ [.val (.string s), .val (.int .i64 ((s.size : Nat) : Int)), .val (.int .u8 ((by' s 0 : Nat) : Int)), .val (.int .i64 (((s.size : Nat) : Int) - 1)), .val (.int .u8 (((by' s (s.size - 1)) : Nat) : Int)), .val (.string (s.extract 1 (s.size - 1))), .strs [s.extract 1 i, s.extract (i + 1) j, s.extract (j + 1) (s.size - 1)], .strp (s.extract 1 i), .val (.string (s.extract 1 i)), .strp (s.extract (i + 1) j), .val (.string (s.extract (i + 1) j)), .val (.int .i64 c)]) (w := w) (fuel := 300) (args := [.one (.ref 6)]) (vs := [.string s]) (r := .tup [.agg [.b false, .sl0, .sl0, .b false, .sl0, .sl0, .b false, .sl0, .sl0], .one (.ref 17)])
    (il_cons (I_Count (n := 6) rfl (li (by rw [hk.2.2.2.1]))) (il_cons (I_Split (n := 11) (m := 12) (s := (s.extract 1 (s.size - 1))) (ss := [s.extract 1 i, s.extract (i + 1) j, s.extract (j + 1) (s.size - 1)]) rfl rfl (by rw [hk.2.2.2.2.1]; exact hk.2.2.2.2.2) (by rw [sz_ex (by omega)]; omega)) (il_cons (I_fParse (n := 14) (k := 0) (s := (s.extract 1 i)) rfl rfl (li rfl) hx (by rw [sz_ex (by omega)]; omega)) (il_cons (I_fParse (n := 16) (k := 1) (s := (s.extract (i + 1) j)) rfl rfl (lr (n := 17) rfl) hy (by rw [sz_ex (by omega)]; omega)) il_nil))))
    (ol_cons (o_lenS (n := 6) (m := 7) (t := 9) (by kernel_rfl) rfl rfl) (ol_cons (o_lssK (n := 7) (c := 2) (u := ((s.size : Nat) : Int)) (b := false) (t := 3) rfl (decide_eq_false (by omega))) (ol_cons (o_idxS (n := 6) (m := 8) (k := 0) (c := 0) (t := 9) (by kernel_rfl) rfl rfl (by omega) rfl) (ol_cons (o_neqK (n := 8) (c := 40) (u := ((by' s 0 : Nat) : Int)) (b := false) (t := 5) rfl (bneq_f (by omega))) (ol_cons (o_subK (n := 7) (m := 9) (c := 1) (u := ((s.size : Nat) : Int)) (v := (((s.size : Nat) : Int) - 1)) (t := 3) rfl rfl rfl (by omega) (by omega)) (ol_cons (o_idxR (n := 6) (k := 9) (m := 10) (u := (((s.size : Nat) : Int) - 1)) (b := (by' s (s.size - 1))) (t := 9) (by kernel_rfl) rfl rfl rfl (by omega) (by omega) (congrArg (by' s) (by omega))) (ol_cons (o_neqK (n := 10) (c := 41) (u := (((by' s (s.size - 1)) : Nat) : Int)) (b := false) (t := 5) rfl (bneq_f (by omega))) (ol_cons (o_slS (n := 6) (k := 9) (m := 11) (c := 1) (u := (((s.size : Nat) : Int) - 1)) (z := (s.extract 1 (s.size - 1))) (t := 9) (by kernel_rfl) rfl rfl rfl (by omega) (by omega) (by omega) (congrArg (s.extract 1) (by omega))) (ol_cons (o_iaS (n := 12) (m := 13) (k := 0) (l := [s.extract 1 i, s.extract (i + 1) j, s.extract (j + 1) (s.size - 1)]) (s := s.extract 1 i) (t := 59) rfl rfl Tryz.underlying59 (by kernel_rfl) rfl) (ol_cons (o_ldS (n := 13) (m := 14) (s := (s.extract 1 i)) (t := 9) rfl rfl (by kernel_rfl)) (ol_cons (o_iaS (n := 12) (m := 15) (k := 1) (l := [s.extract 1 i, s.extract (i + 1) j, s.extract (j + 1) (s.size - 1)]) (s := s.extract (i + 1) j) (t := 59) rfl rfl Tryz.underlying59 (by kernel_rfl) rfl) (ol_cons (o_ldS (n := 15) (m := 16) (s := (s.extract (i + 1) j)) (t := 9) rfl rfl (by kernel_rfl)) (ol_cons (o_neqK (n := 17) (c := 0) (u := c) (b := true) (t := 40) rfl (bneq_t h0)) (ol_nil)))))))))))))) (by kernel_rfl) Tryz.func25 (by kernel_rfl) ⟨ls (n := 6) rfl (fun _ => none) w, trivial⟩).mono ?_
  rintro e w' ⟨v, rfl, ⟨vs, rfl, h1⟩, h2⟩
  match vs, h1 with
  | [r, cv], h1 =>
    obtain ⟨⟨cs, rfl, k1⟩, k2, _⟩ := h1
    obtain ⟨sv, q1, q2⟩ := k2
    have q3 : some (Vp.val (.int .i64 c)) = some sv := q1
    injection q3 with q3
    subst q3
    have k2 : cv = .int .i64 c := q2.1
    subst k2
    exact ⟨_, rfl, ⟨_, rfl, zero_row (n := 3) k1⟩, h2⟩
def xvP7X (s : ByteArray) (i j : Nat) (x y z : Fq) (c : Int) : List Fq := [x, y, z]
theorem q_vP7 (s : ByteArray) (i j : Nat) (x y z : Fq) (c : Int) (w : World) (h : VCut s i j) (hx : FP (s.extract 1 i) x 0) (hy : FP (s.extract (i + 1) j) y 0) (hz : FP (s.extract (j + 1) (s.size - 1)) z c) (h0 : c ≠ 0) (hs : s.size ≤ 4294967280) : Calls Tryz.prog 25 #[.string s] w fun e w' => RetVqE w .zero c e w' := by
  have hk := vcut_inner h
  obtain ⟨h1, h2, h3, _⟩ := h
  have q1 := hk.1
  have q2 := hk.2.1
  have q3 := hk.2.2.1
  refine (calls_runFn (ρ := frs (xvP7X s i j x y z c) ++ [.val (.string s), .val (.int .i64 ((s.size : Nat) : Int)), .val (.int .u8 ((by' s 0 : Nat) : Int)), .val (.int .i64 (((s.size : Nat) : Int) - 1)), .val (.int .u8 (((by' s (s.size - 1)) : Nat) : Int)), .val (.string (s.extract 1 (s.size - 1))), .strs [s.extract 1 i, s.extract (i + 1) j, s.extract (j + 1) (s.size - 1)], .strp (s.extract 1 i), .val (.string (s.extract 1 i)), .strp (s.extract (i + 1) j), .val (.string (s.extract (i + 1) j)), .strp (s.extract (j + 1) (s.size - 1)), .val (.string (s.extract (j + 1) (s.size - 1))), .val (.int .i64 c)]) (w := w) (fuel := 300) (args := [.one (.ref 9)]) (vs := [.string s]) (r := .tup [.agg [.b false, .sl0, .sl0, .b false, .sl0, .sl0, .b false, .sl0, .sl0], .one (.ref 22)])
    (il_cons (I_Count (n := 9) rfl (li (by rw [hk.2.2.2.1]))) (il_cons (I_Split (n := 14) (m := 15) (s := (s.extract 1 (s.size - 1))) (ss := [s.extract 1 i, s.extract (i + 1) j, s.extract (j + 1) (s.size - 1)]) rfl rfl (by rw [hk.2.2.2.2.1]; exact hk.2.2.2.2.2) (by rw [sz_ex (by omega)]; omega)) (il_cons (I_fParse (n := 17) (k := 0) (s := (s.extract 1 i)) rfl rfl (li rfl) hx (by rw [sz_ex (by omega)]; omega)) (il_cons (I_fParse (n := 19) (k := 1) (s := (s.extract (i + 1) j)) rfl rfl (li rfl) hy (by rw [sz_ex (by omega)]; omega)) (il_cons (I_fParse (n := 21) (k := 2) (s := (s.extract (j + 1) (s.size - 1))) rfl rfl (lr (n := 22) rfl) hz (by rw [sz_ex (by omega)]; omega)) il_nil)))))
    (ol_cons (o_lenS (n := 9) (m := 10) (t := 9) (by kernel_rfl) rfl rfl) (ol_cons (o_lssK (n := 10) (c := 2) (u := ((s.size : Nat) : Int)) (b := false) (t := 3) rfl (decide_eq_false (by omega))) (ol_cons (o_idxS (n := 9) (m := 11) (k := 0) (c := 0) (t := 9) (by kernel_rfl) rfl rfl (by omega) rfl) (ol_cons (o_neqK (n := 11) (c := 40) (u := ((by' s 0 : Nat) : Int)) (b := false) (t := 5) rfl (bneq_f (by omega))) (ol_cons (o_subK (n := 10) (m := 12) (c := 1) (u := ((s.size : Nat) : Int)) (v := (((s.size : Nat) : Int) - 1)) (t := 3) rfl rfl rfl (by omega) (by omega)) (ol_cons (o_idxR (n := 9) (k := 12) (m := 13) (u := (((s.size : Nat) : Int) - 1)) (b := (by' s (s.size - 1))) (t := 9) (by kernel_rfl) rfl rfl rfl (by omega) (by omega) (congrArg (by' s) (by omega))) (ol_cons (o_neqK (n := 13) (c := 41) (u := (((by' s (s.size - 1)) : Nat) : Int)) (b := false) (t := 5) rfl (bneq_f (by omega))) (ol_cons (o_slS (n := 9) (k := 12) (m := 14) (c := 1) (u := (((s.size : Nat) : Int) - 1)) (z := (s.extract 1 (s.size - 1))) (t := 9) (by kernel_rfl) rfl rfl rfl (by omega) (by omega) (by omega) (congrArg (s.extract 1) (by omega))) (ol_cons (o_iaS (n := 15) (m := 16) (k := 0) (l := [s.extract 1 i, s.extract (i + 1) j, s.extract (j + 1) (s.size - 1)]) (s := s.extract 1 i) (t := 59) rfl rfl Tryz.underlying59 (by kernel_rfl) rfl) (ol_cons (o_ldS (n := 16) (m := 17) (s := (s.extract 1 i)) (t := 9) rfl rfl (by kernel_rfl)) (ol_cons (o_iaS (n := 15) (m := 18) (k := 1) (l := [s.extract 1 i, s.extract (i + 1) j, s.extract (j + 1) (s.size - 1)]) (s := s.extract (i + 1) j) (t := 59) rfl rfl Tryz.underlying59 (by kernel_rfl) rfl) (ol_cons (o_ldS (n := 18) (m := 19) (s := (s.extract (i + 1) j)) (t := 9) rfl rfl (by kernel_rfl)) (ol_cons (o_iaS (n := 15) (m := 20) (k := 2) (l := [s.extract 1 i, s.extract (i + 1) j, s.extract (j + 1) (s.size - 1)]) (s := s.extract (j + 1) (s.size - 1)) (t := 59) rfl rfl Tryz.underlying59 (by kernel_rfl) rfl) (ol_cons (o_ldS (n := 20) (m := 21) (s := (s.extract (j + 1) (s.size - 1))) (t := 9) rfl rfl (by kernel_rfl)) (ol_cons (o_neqK (n := 22) (c := 0) (u := c) (b := true) (t := 40) rfl (bneq_t h0)) (ol_nil)))))))))))))))) (by kernel_rfl) Tryz.func25 (by kernel_rfl) ⟨ls (n := 9) rfl (fun _ => none) w, trivial⟩).mono ?_
  rintro e w' ⟨v, rfl, ⟨vs, rfl, h1⟩, h2⟩
  match vs, h1 with
  | [r, cv], h1 =>
    obtain ⟨⟨cs, rfl, k1⟩, k2, _⟩ := h1
    obtain ⟨sv, q1, q2⟩ := k2
    have q3 : some (Vp.val (.int .i64 c)) = some sv := q1
    injection q3 with q3
    subst q3
    have k2 : cv = .int .i64 c := q2.1
    subst k2
    exact ⟨_, rfl, ⟨_, rfl, zero_row (n := 3) k1⟩, h2⟩
def xvP8X (s : ByteArray) (i j : Nat) (x y z : Fq) : List Fq := [x, y, z]
theorem q_vP8 (s : ByteArray) (i j : Nat) (x y z : Fq) (w : World) (h : VCut s i j) (hx : FP (s.extract 1 i) x 0) (hy : FP (s.extract (i + 1) j) y 0) (hz : FP (s.extract (j + 1) (s.size - 1)) z 0) (hs : s.size ≤ 4294967280) : Calls Tryz.prog 25 #[.string s] w fun e w' => RetVqE w ⟨x, y, z⟩ 0 e w' := by
  have hk := vcut_inner h
  obtain ⟨h1, h2, h3, _⟩ := h
  have q1 := hk.1
  have q2 := hk.2.1
  have q3 := hk.2.2.1
  refine (calls_runFn (ρ := frs (xvP8X s i j x y z) ++ [.val (.string s), .val (.int .i64 ((s.size : Nat) : Int)), .val (.int .u8 ((by' s 0 : Nat) : Int)), .val (.int .i64 (((s.size : Nat) : Int) - 1)), .val (.int .u8 (((by' s (s.size - 1)) : Nat) : Int)), .val (.string (s.extract 1 (s.size - 1))), .strs [s.extract 1 i, s.extract (i + 1) j, s.extract (j + 1) (s.size - 1)], .strp (s.extract 1 i), .val (.string (s.extract 1 i)), .strp (s.extract (i + 1) j), .val (.string (s.extract (i + 1) j)), .strp (s.extract (j + 1) (s.size - 1)), .val (.string (s.extract (j + 1) (s.size - 1)))]) (w := w) (fuel := 300) (args := [.one (.ref 9)]) (vs := [.string s]) (r := .tup [row [0, 1, 2], .one (.i .i64 0)])
    (il_cons (I_Count (n := 9) rfl (li (by rw [hk.2.2.2.1]))) (il_cons (I_Split (n := 14) (m := 15) (s := (s.extract 1 (s.size - 1))) (ss := [s.extract 1 i, s.extract (i + 1) j, s.extract (j + 1) (s.size - 1)]) rfl rfl (by rw [hk.2.2.2.2.1]; exact hk.2.2.2.2.2) (by rw [sz_ex (by omega)]; omega)) (il_cons (I_fParse (n := 17) (k := 0) (s := (s.extract 1 i)) rfl rfl (li rfl) hx (by rw [sz_ex (by omega)]; omega)) (il_cons (I_fParse (n := 19) (k := 1) (s := (s.extract (i + 1) j)) rfl rfl (li rfl) hy (by rw [sz_ex (by omega)]; omega)) (il_cons (I_fParse (n := 21) (k := 2) (s := (s.extract (j + 1) (s.size - 1))) rfl rfl (li rfl) hz (by rw [sz_ex (by omega)]; omega)) il_nil)))))
    (ol_cons (o_lenS (n := 9) (m := 10) (t := 9) (by kernel_rfl) rfl rfl) (ol_cons (o_lssK (n := 10) (c := 2) (u := ((s.size : Nat) : Int)) (b := false) (t := 3) rfl (decide_eq_false (by omega))) (ol_cons (o_idxS (n := 9) (m := 11) (k := 0) (c := 0) (t := 9) (by kernel_rfl) rfl rfl (by omega) rfl) (ol_cons (o_neqK (n := 11) (c := 40) (u := ((by' s 0 : Nat) : Int)) (b := false) (t := 5) rfl (bneq_f (by omega))) (ol_cons (o_subK (n := 10) (m := 12) (c := 1) (u := ((s.size : Nat) : Int)) (v := (((s.size : Nat) : Int) - 1)) (t := 3) rfl rfl rfl (by omega) (by omega)) (ol_cons (o_idxR (n := 9) (k := 12) (m := 13) (u := (((s.size : Nat) : Int) - 1)) (b := (by' s (s.size - 1))) (t := 9) (by kernel_rfl) rfl rfl rfl (by omega) (by omega) (congrArg (by' s) (by omega))) (ol_cons (o_neqK (n := 13) (c := 41) (u := (((by' s (s.size - 1)) : Nat) : Int)) (b := false) (t := 5) rfl (bneq_f (by omega))) (ol_cons (o_slS (n := 9) (k := 12) (m := 14) (c := 1) (u := (((s.size : Nat) : Int) - 1)) (z := (s.extract 1 (s.size - 1))) (t := 9) (by kernel_rfl) rfl rfl rfl (by omega) (by omega) (by omega) (congrArg (s.extract 1) (by omega))) (ol_cons (o_iaS (n := 15) (m := 16) (k := 0) (l := [s.extract 1 i, s.extract (i + 1) j, s.extract (j + 1) (s.size - 1)]) (s := s.extract 1 i) (t := 59) rfl rfl Tryz.underlying59 (by kernel_rfl) rfl) (ol_cons (o_ldS (n := 16) (m := 17) (s := (s.extract 1 i)) (t := 9) rfl rfl (by kernel_rfl)) (ol_cons (o_iaS (n := 15) (m := 18) (k := 1) (l := [s.extract 1 i, s.extract (i + 1) j, s.extract (j + 1) (s.size - 1)]) (s := s.extract (i + 1) j) (t := 59) rfl rfl Tryz.underlying59 (by kernel_rfl) rfl) (ol_cons (o_ldS (n := 18) (m := 19) (s := (s.extract (i + 1) j)) (t := 9) rfl rfl (by kernel_rfl)) (ol_cons (o_iaS (n := 15) (m := 20) (k := 2) (l := [s.extract 1 i, s.extract (i + 1) j, s.extract (j + 1) (s.size - 1)]) (s := s.extract (j + 1) (s.size - 1)) (t := 59) rfl rfl Tryz.underlying59 (by kernel_rfl) rfl) (ol_cons (o_ldS (n := 20) (m := 21) (s := (s.extract (j + 1) (s.size - 1))) (t := 9) rfl rfl (by kernel_rfl)) (ol_nil))))))))))))))) (by kernel_rfl) Tryz.func25 (by kernel_rfl) ⟨ls (n := 9) rfl (fun _ => none) w, trivial⟩).mono ?_
  rintro e w' ⟨v, rfl, ⟨vs, rfl, h1⟩, h2⟩
  match vs, h1 with
  | [r, cv], h1 =>
    obtain ⟨⟨cs, rfl, k1⟩, k2, _⟩ := h1
    have k2 : cv = _ := k2
    subst k2
    exact ⟨_, rfl, (row_isL (xs := xvP8X s i j x y z) (ks := [0, 1, 2]) (vs := [x, y, z]) ⟨rfl, rfl, rfl, trivial⟩).1 ⟨_, rfl, k1⟩, h2⟩
theorem q_vParse (s : ByteArray) (v : Vq) (c : Int) (w : World) (h : VP s v c) (hs : s.size ≤ 4294967280) : Calls Tryz.prog 25 #[.string s] w fun e w' => RetVqE w v c e w' := by
  cases h with
  | form h =>
    by_cases h1 : s.size < 2
    · exact q_vP1 s w h1 hs
    by_cases h2 : by' s 0 = 40
    · by_cases h3 : by' s (s.size - 1) = 41
      · refine q_vP4 s w (by omega) h2 h3 (fun h4 => ?_) hs
        obtain ⟨i, j, h5⟩ := two_of_count h4
        exact h i j ⟨by omega, h2, h3, h5⟩
      · exact q_vP3 s w (by omega) h2 h3 hs
    · exact q_vP2 s w (by omega) h2 hs
  | e0 h hx h0 => exact q_vP5 s _ _ _ _ w h hx h0 hs
  | e1 h hx hy h0 => exact q_vP6 s _ _ _ _ _ w h hx hy h0 hs
  | e2 h hx hy hz h0 => exact q_vP7 s _ _ _ _ _ _ w h hx hy hz h0 hs
  | good h hx hy hz => exact q_vP8 s _ _ _ _ _ w h hx hy hz hs
end Go.Proofs.YtfhinmdhjlmikaaGreatDoor
namespace Go.Proofs.YtfhinmdhjlmikaaGreatDoor
set_option linter.unusedSimpArgs false
set_option linter.unusedVariables false
set_option maxRecDepth 100000
open Go.RowKit
theorem bsz (l : Array UInt8) : (ByteArray.mk l).size = l.size := rfl
theorem qfmt_size {x : Fq} {d : Nat} (h : x.ok d) : x.fmt.size ≤ 20 * d + 4 := by
  have h1 := fmt_size x.p
  have h2 := fmt_size x.q
  have h3 := h.p
  have h4 := h.q
  unfold Fq.fmt
  split <;> split <;> (try simp only [ByteArray.size_append, bsz, List.size_toArray, List.length_cons, List.length_nil]) <;> omega
def Vq.fmt (a : Vq) : ByteArray := (((((((ByteArray.mk #[40]) ++ a.x.fmt) ++ (ByteArray.mk #[32])) ++ a.y.fmt) ++ (ByteArray.mk #[32])) ++ a.z.fmt) ++ (ByteArray.mk #[41]))
def xvFormatX (a : Vq) : List Fq := [a.x, a.y, a.z]
theorem q_vFormat (va : Value) (a : Vq) (w : World) (ia : IsVq w va a) (ha : a.ok 1000000) : Calls Tryz.prog 28 #[va] w fun e w' => RetV w (.string a.fmt) e w' := by
  have z1 := qfmt_size ha.x
  have z2 := qfmt_size ha.y
  have z3 := qfmt_size ha.z
  refine (calls_runFn (ρ := frs (xvFormatX a) ++ [.val (.string a.x.fmt), .val (.string ((ByteArray.mk #[40]) ++ a.x.fmt)), .val (.string (((ByteArray.mk #[40]) ++ a.x.fmt) ++ (ByteArray.mk #[32]))), .val (.string a.y.fmt), .val (.string ((((ByteArray.mk #[40]) ++ a.x.fmt) ++ (ByteArray.mk #[32])) ++ a.y.fmt)), .val (.string (((((ByteArray.mk #[40]) ++ a.x.fmt) ++ (ByteArray.mk #[32])) ++ a.y.fmt) ++ (ByteArray.mk #[32]))), .val (.string a.z.fmt), .val (.string ((((((ByteArray.mk #[40]) ++ a.x.fmt) ++ (ByteArray.mk #[32])) ++ a.y.fmt) ++ (ByteArray.mk #[32])) ++ a.z.fmt)), .val (.string (((((((ByteArray.mk #[40]) ++ a.x.fmt) ++ (ByteArray.mk #[32])) ++ a.y.fmt) ++ (ByteArray.mk #[32])) ++ a.z.fmt) ++ (ByteArray.mk #[41])))]) (w := w) (fuel := 300) (args := [row [0, 1, 2]]) (vs := [va]) (r := .v (.one (.ref 17)))
    (il_cons (I_fFormat (i := 0) rfl (ls (n := 9) rfl) (ha.x.mono (by decide))) (il_cons (I_fFormat (i := 1) rfl (ls (n := 12) rfl) (ha.y.mono (by decide))) (il_cons (I_fFormat (i := 2) rfl (ls (n := 15) rfl) (ha.z.mono (by decide))) il_nil)))
    (ol_cons (o_catLR (n := 9) (m := 10) (s := (ByteArray.mk #[40])) (z := a.x.fmt) (t := 9) (by kernel_rfl) rfl rfl (by simp only [ByteArray.size_append, bsz, List.size_toArray, List.length_cons, List.length_nil]; omega)) (ol_cons (o_catRL (n := 10) (m := 11) (s := ((ByteArray.mk #[40]) ++ a.x.fmt)) (z := (ByteArray.mk #[32])) (t := 9) (by kernel_rfl) rfl rfl (by simp only [ByteArray.size_append, bsz, List.size_toArray, List.length_cons, List.length_nil]; omega)) (ol_cons (o_catRR (n := 11) (m := 13) (k := 12) (s := (((ByteArray.mk #[40]) ++ a.x.fmt) ++ (ByteArray.mk #[32]))) (z := a.y.fmt) (t := 9) (by kernel_rfl) rfl rfl rfl (by simp only [ByteArray.size_append, bsz, List.size_toArray, List.length_cons, List.length_nil]; omega)) (ol_cons (o_catRL (n := 13) (m := 14) (s := ((((ByteArray.mk #[40]) ++ a.x.fmt) ++ (ByteArray.mk #[32])) ++ a.y.fmt)) (z := (ByteArray.mk #[32])) (t := 9) (by kernel_rfl) rfl rfl (by simp only [ByteArray.size_append, bsz, List.size_toArray, List.length_cons, List.length_nil]; omega)) (ol_cons (o_catRR (n := 14) (m := 16) (k := 15) (s := (((((ByteArray.mk #[40]) ++ a.x.fmt) ++ (ByteArray.mk #[32])) ++ a.y.fmt) ++ (ByteArray.mk #[32]))) (z := a.z.fmt) (t := 9) (by kernel_rfl) rfl rfl rfl (by simp only [ByteArray.size_append, bsz, List.size_toArray, List.length_cons, List.length_nil]; omega)) (ol_cons (o_catRL (n := 16) (m := 17) (s := ((((((ByteArray.mk #[40]) ++ a.x.fmt) ++ (ByteArray.mk #[32])) ++ a.y.fmt) ++ (ByteArray.mk #[32])) ++ a.z.fmt)) (z := (ByteArray.mk #[41])) (t := 9) (by kernel_rfl) rfl rfl (by simp only [ByteArray.size_append, bsz, List.size_toArray, List.length_cons, List.length_nil]; omega)) (ol_nil))))))) (by kernel_rfl) Tryz.func28 (by kernel_rfl) ⟨(row_isL (xs := xvFormatX a) (ks := [0, 1, 2]) (vs := [a.x, a.y, a.z]) ⟨rfl, rfl, rfl, trivial⟩).2 ia, trivial⟩).mono ?_
  rintro e w' ⟨v, rfl, h1, h2⟩
  obtain ⟨sv, q1, q2⟩ := h1
  have q3 : some (Vp.val (.string (((((((ByteArray.mk #[40]) ++ a.x.fmt) ++ (ByteArray.mk #[32])) ++ a.y.fmt) ++ (ByteArray.mk #[32])) ++ a.z.fmt) ++ (ByteArray.mk #[41])))) = some sv := q1
  injection q3 with q3
  subst q3
  have q4 : v = .string (((((((ByteArray.mk #[40]) ++ a.x.fmt) ++ (ByteArray.mk #[32])) ++ a.y.fmt) ++ (ByteArray.mk #[32])) ++ a.z.fmt) ++ (ByteArray.mk #[41])) := q2.1
  exact ⟨by rw [q4]; rfl, h2⟩
end Go.Proofs.YtfhinmdhjlmikaaGreatDoor
namespace Go.Proofs.YtfhinmdhjlmikaaGreatDoor
set_option linter.unusedSimpArgs false
set_option linter.unusedVariables false
set_option maxRecDepth 100000
open Go.RowKit
def s1 : ByteArray := ByteArray.mk #[40, 49, 32, 45, 51, 47, 52, 32, 48, 41]
def s2 : ByteArray := ByteArray.mk #[40, 49, 32, 50, 41]
def V1 : Vq := ⟨Fq.ofInt 1, ⟨true, 3, 4⟩, Fq.ofInt 0⟩
theorem nl12 {N : Nat} (h : N < 100) : nl N ≤ 12 := nl_le_iff.2 (Nat.lt_of_lt_of_le h (by decide))
theorem fm1 : s1.extract 1 2 = (Fq.ofInt 1).fmt := by
  show _ = fmtB 1
  unfold fmtB; rw [if_neg (by decide)]
  decide +kernel
theorem fm2 : s1.extract (2 + 1) 7 = (Fq.mk true 3 4).fmt := by
  show _ = ({ data := #[45] } : ByteArray) ++ (fmtB 3 ++ (({ data := #[47] } : ByteArray) ++ fmtB 4))
  unfold fmtB; rw [if_neg (by decide), if_neg (by decide)]
  decide +kernel
theorem fm3 : s1.extract (7 + 1) (s1.size - 1) = (Fq.ofInt 0).fmt := by
  show _ = fmtB 0
  unfold fmtB; rw [if_pos rfl]
  decide +kernel
theorem vp1 : VP s1 V1 0 := by
  refine .good (i := 2) (j := 7) ⟨by decide, by decide, by decide, by decide, by decide, by decide, by decide, by decide +kernel⟩ ?_ ?_ ?_
  · rw [fm1]; exact fmt_fp (ofInt_valid 1) (nl12 (by decide)) (nl12 (by decide))
  · rw [fm2]; exact fmt_fp (by decide +kernel) (nl12 (by decide)) (nl12 (by decide))
  · rw [fm3]; exact fmt_fp (ofInt_valid 0) (nl12 (by decide)) (nl12 (by decide))
theorem vp2 : VP s2 .zero 2 := by
  refine .form fun i j h => ?_
  obtain ⟨_, _, _, hij, hj, ei, ej, _⟩ := h
  have e : ∀ j, j < 5 → ∀ i, i < j → by' s2 i = (32 : UInt8).toNat → by' s2 j = (32 : UInt8).toNat → False := by decide +kernel
  exact e j hj i hij ei ej
theorem fmV : V1.fmt = s1 := by
  show ((((((_ : ByteArray) ++ (Fq.ofInt 1).fmt) ++ _) ++ (Fq.mk true 3 4).fmt) ++ _) ++ (Fq.ofInt 0).fmt) ++ _ = _
  rw [← fm1, ← fm2, ← fm3]
  decide +kernel
theorem I_vParseL {xs : List Fq} {ys : Rho} {s : ByteArray} {v : Vq} {c : Int} {kr : List Nat} (h : VP s v c) (hs : s.size ≤ 4294967280) (ar : AtL xs kr [v.x, v.y, v.z]) : OkI xs ys ⟨25, [.one (.s s)], .tup [row kr, .one (.i .i64 c)]⟩ :=
  ⟨enters Tryz.func25 rfl rfl, fun B w vs hv => by
    match vs, hv with
    | [va], hv =>
      have e : va = .string s := hv.1
      subst e
      refine (q_vParse s v c w h hs).mono ?_
      rintro e w' ⟨v, rfl, h1, h2⟩
      exact ⟨_, rfl, ⟨[v, .int .i64 c], rfl, (row_isL ar).2 h1, rfl, trivial⟩, h2⟩⟩
theorem I_vFormatL {xs : List Fq} {ys : Rho} {s : ByteArray} {v : Vq} {kr : List Nat} (ar : AtL xs kr [v.x, v.y, v.z]) (h : v.fmt = s) (hv : v.ok 1000000) : OkI xs ys ⟨28, [row kr], .v (.one (.s s))⟩ :=
  ⟨enters Tryz.func28 rfl rfl, fun B w vs hx => by
    match vs, hx with
    | [va], hx =>
      refine (q_vFormat va v w ((row_isL ar).1 hx.1) hv).mono ?_
      rintro e w' ⟨rfl, h2⟩
      exact ⟨_, rfl, by subst h; rfl, h2⟩⟩
theorem o_eqSS {ρ : Rho} {t : TypeId} {s : ByteArray} : (OIns.mk (.bin .eql t) [.one (.s s), .one (.s s)] (.one (.b true))).Ok Tryz.prog ρ := fun B w vs hv => by
  match vs, hv with
  | [v1, v2], hv =>
    have e : v1 = .string s := hv.1
    have e2 : v2 = .string s := hv.2.1
    subst e; subst e2
    exact ⟨.bool true, rfl, fun xo yo => by simp [eqGuard, binOp, Op.stringOp, Sem.run_bind, Result.andThen]⟩
theorem ok_V1 : V1.ok 1000000 := ⟨(ok_int (by decide) (by decide)).mono (by decide), ⟨Nat.le_trans (nl12 (by decide)) (by decide), Nat.le_trans (nl12 (by decide)) (by decide), by decide⟩, (ok_int (by decide) (by decide)).mono (by decide)⟩
def xawakeX  : List Fq := [(Vq.of 1 2 3).x, (Vq.of 1 2 3).y, (Vq.of 1 2 3).z, (Vq.of 4 5 6).x, (Vq.of 4 5 6).y, (Vq.of 4 5 6).z, (Fq.ofInt 1), (Fq.mk true 3 4), (Fq.ofInt 0), Fq.zero, ((Vq.of 1 2 3).cross (Vq.of 4 5 6)).x, ((Vq.of 1 2 3).cross (Vq.of 4 5 6)).y, ((Vq.of 1 2 3).cross (Vq.of 4 5 6)).z, (Vq.of (-3) 6 (-3)).x, (Vq.of (-3) 6 (-3)).y, (Vq.of (-3) 6 (-3)).z, ((Vq.of 1 2 3).dot (Vq.of 4 5 6)), (Fq.ofInt 32)]
theorem q_awake  (w : World)   :
    Calls Tryz.prog 6 #[] w fun e w' => RetV w (.bool true) e w' := by
  refine (calls_runFn (ρ := frs (xawakeX ) ++ []) (w := w) (fuel := 300) (args := []) (vs := []) (r := .v (.one (.b true)))
    (il_cons (I_vO1_2_3 (kr := [0, 1, 2]) ⟨rfl, rfl, rfl, trivial⟩) (il_cons (I_vO4_5_6 (kr := [3, 4, 5]) ⟨rfl, rfl, rfl, trivial⟩) (il_cons (I_vParseL vp1 (by decide) (kr := [6, 7, 8]) ⟨rfl, rfl, rfl, trivial⟩) (il_cons (I_vParseL vp2 (by decide) (kr := [9, 9, 9]) ⟨rfl, rfl, rfl, trivial⟩) (il_cons (I_vCross (ka := [0, 1, 2]) (a := (Vq.of 1 2 3)) (kb := [3, 4, 5]) (b := (Vq.of 4 5 6)) (kr := [10, 11, 12]) ⟨rfl, rfl, rfl, trivial⟩ ⟨rfl, rfl, rfl, trivial⟩ ⟨rfl, rfl, rfl, trivial⟩ ((ok_vof (by decide) (by decide) (by decide) (by decide) (by decide) (by decide)).mono (by decide)) ((ok_vof (by decide) (by decide) (by decide) (by decide) (by decide) (by decide)).mono (by decide))) (il_cons (I_rOm3_6_m3 (kr := [13, 14, 15]) ⟨rfl, rfl, rfl, trivial⟩) (il_cons (I_r4Equal1 (ka := [10, 11, 12]) (a := ((Vq.of 1 2 3).cross (Vq.of 4 5 6))) (kb := [13, 14, 15]) (b := (Vq.of (-3) 6 (-3))) ⟨rfl, rfl, rfl, trivial⟩ ⟨rfl, rfl, rfl, trivial⟩ (((ok_vof (by decide) (by decide) (by decide) (by decide) (by decide) (by decide)).cross (ok_vof (by decide) (by decide) (by decide) (by decide) (by decide) (by decide))).mono (by decide)) ((ok_vof (by decide) (by decide) (by decide) (by decide) (by decide) (by decide)).mono (by decide)) (Vq.same_iff.1 (by decide +kernel))) (il_cons (I_vDot (ka := [0, 1, 2]) (a := (Vq.of 1 2 3)) (kb := [3, 4, 5]) (b := (Vq.of 4 5 6)) (ir := 16) ⟨rfl, rfl, rfl, trivial⟩ ⟨rfl, rfl, rfl, trivial⟩ rfl ((ok_vof (by decide) (by decide) (by decide) (by decide) (by decide) (by decide)).mono (by decide)) ((ok_vof (by decide) (by decide) (by decide) (by decide) (by decide) (by decide)).mono (by decide))) (il_cons (I_rInt (k := 17) rfl (by decide) (by decide)) (il_cons (I_rSame (i := 16) (j := 17) (l := .b true) rfl rfl (lb (Fq.same_iff.2 (Fq.same_iff.1 (by decide +kernel)))) (((ok_vof (by decide) (by decide) (by decide) (by decide) (by decide) (by decide)).dot (ok_vof (by decide) (by decide) (by decide) (by decide) (by decide) (by decide))).mono (by decide)).p (((ok_vof (by decide) (by decide) (by decide) (by decide) (by decide) (by decide)).dot (ok_vof (by decide) (by decide) (by decide) (by decide) (by decide) (by decide))).mono (by decide)).q ((ok_int (u := 32) (by decide) (by decide)).mono (by decide)).p ((ok_int (u := 32) (by decide) (by decide)).mono (by decide)).q) (il_cons (I_vFormatL (v := V1) (kr := [6, 7, 8]) ⟨rfl, rfl, rfl, trivial⟩ fmV ok_V1) il_nil)))))))))))
    (ol_cons (o_eqSS (s := s1) (t := 9)) (ol_nil)) (by kernel_rfl) Tryz.func6 (by kernel_rfl) trivial).mono ?_
  rintro e w' ⟨v, rfl, h1, h2⟩
  exact ⟨congrArg Ending.returned h1, h2⟩
theorem I_awake {xs : List Fq} {ys : Rho}      : OkI xs ys ⟨6, [], .v (.one (.b true))⟩ :=
  ⟨enters Tryz.func6 rfl rfl, fun B w vs h => by
    match vs, h with
    | [], h =>
      refine (q_awake w).mono ?_
      rintro e w' ⟨rfl, h2⟩
      exact ⟨_, rfl, rfl, h2⟩⟩
end Go.Proofs.YtfhinmdhjlmikaaGreatDoor
namespace Go.Proofs.YtfhinmdhjlmikaaGreatDoor
set_option linter.unusedSimpArgs false
set_option linter.unusedVariables false
set_option maxRecDepth 100000
open Go.RowKit
theorem isL_Q {w : World} {x : Value} {q : Fq} (h : IsL w x [q.raw]) : IsQ w x q := (isL_FR h).isQ rfl rfl
end Go.Proofs.YtfhinmdhjlmikaaGreatDoor
namespace Go.Proofs.YtfhinmdhjlmikaaGreatDoor
set_option linter.unusedSimpArgs false
set_option linter.unusedVariables false
set_option maxRecDepth 100000
open Go.RowKit
def xmVectorComputesX (a : Vq) (b : Vq) (k : Fq) : List Fq := [a.x, a.y, a.z, b.x, b.y, b.z, k, (a.add b).x, (a.add b).y, (a.add b).z, (a.sub b).x, (a.sub b).y, (a.sub b).z, (a.scale k).x, (a.scale k).y, (a.scale k).z, (a.dot b), (a.cross b).x, (a.cross b).y, (a.cross b).z, (a.lerp b k).x, (a.lerp b k).y, (a.lerp b k).z]
def xmVectorComputes1X (a : Vq) (b : Vq) (k : Fq) : List Fq := [a.x, a.y, a.z, b.x, b.y, b.z, k, (a.add b).x, (a.add b).y, (a.add b).z, (a.sub b).x, (a.sub b).y, (a.sub b).z, (a.scale k).x, (a.scale k).y, (a.scale k).z, (a.dot b), (a.cross b).x, (a.cross b).y, (a.cross b).z, (a.lerp b k).x, (a.lerp b k).y, (a.lerp b k).z]
theorem q_mVectorComputes (va vb vk : Value) (a : Vq) (b : Vq) (k : Fq) (w : World) (ia : IsVq w va a) (ib : IsVq w vb b) (ik : IsQ w vk k) (ha : a.ok 4) (hb : b.ok 4) (hk : k.ok 4) (ga : a.good) (gb : b.good) (gk : k.valid = true) :
    Calls Tryz.prog 3 #[va, vb, vk] w fun e w' => RetV w (.bool true) e w' := by
  by_cases c0 : a = b
  · refine (calls_runFn (ρ := frs (xmVectorComputesX a b k) ++ []) (w := w) (fuel := 300) (args := [row [0, 1, 2], row [3, 4, 5], fr 6]) (vs := [va, vb, vk]) (r := .v (.one (.b true)))
      (il_cons (I_fitQ (ka := [0, 1, 2]) (a := a) ⟨rfl, rfl, rfl, trivial⟩ (ha.mono (by decide)) ga) (il_cons (I_fitQ (ka := [3, 4, 5]) (a := b) ⟨rfl, rfl, rfl, trivial⟩ (hb.mono (by decide)) gb) (il_cons (I_smallQ (ix := 6) rfl (hk.mono (by decide)) gk) (il_cons (I_vAdd (ka := [0, 1, 2]) (a := a) (kb := [3, 4, 5]) (b := b) (kr := [7, 8, 9]) ⟨rfl, rfl, rfl, trivial⟩ ⟨rfl, rfl, rfl, trivial⟩ ⟨rfl, rfl, rfl, trivial⟩ (ha.mono (by decide)) (hb.mono (by decide))) (il_cons (I_r4Add (ka := [0, 1, 2]) (a := a) (kb := [3, 4, 5]) (b := b) (kr := [7, 8, 9]) ⟨rfl, rfl, rfl, trivial⟩ ⟨rfl, rfl, rfl, trivial⟩ ⟨rfl, rfl, rfl, trivial⟩ (ha.mono (by decide)) (hb.mono (by decide))) (il_cons (I_r4Equal1 (ka := [7, 8, 9]) (a := (a.add b)) (kb := [7, 8, 9]) (b := (a.add b)) ⟨rfl, rfl, rfl, trivial⟩ ⟨rfl, rfl, rfl, trivial⟩ ((ha.add hb).mono (by decide)) ((ha.add hb).mono (by decide)) rfl) (il_cons (I_vSub (ka := [0, 1, 2]) (a := a) (kb := [3, 4, 5]) (b := b) (kr := [10, 11, 12]) ⟨rfl, rfl, rfl, trivial⟩ ⟨rfl, rfl, rfl, trivial⟩ ⟨rfl, rfl, rfl, trivial⟩ (ha.mono (by decide)) (hb.mono (by decide))) (il_cons (I_r4Sub (ka := [0, 1, 2]) (a := a) (kb := [3, 4, 5]) (b := b) (kr := [10, 11, 12]) ⟨rfl, rfl, rfl, trivial⟩ ⟨rfl, rfl, rfl, trivial⟩ ⟨rfl, rfl, rfl, trivial⟩ (ha.mono (by decide)) (hb.mono (by decide))) (il_cons (I_r4Equal1 (ka := [10, 11, 12]) (a := (a.sub b)) (kb := [10, 11, 12]) (b := (a.sub b)) ⟨rfl, rfl, rfl, trivial⟩ ⟨rfl, rfl, rfl, trivial⟩ ((ha.sub hb).mono (by decide)) ((ha.sub hb).mono (by decide)) rfl) (il_cons (I_vScale (ka := [0, 1, 2]) (a := a) (ik := 6) (kr := [13, 14, 15]) ⟨rfl, rfl, rfl, trivial⟩ rfl ⟨rfl, rfl, rfl, trivial⟩ (ha.mono (by decide)) (hk.mono (by decide))) (il_cons (I_r4Scale (ka := [0, 1, 2]) (a := a) (ik := 6) (kr := [13, 14, 15]) ⟨rfl, rfl, rfl, trivial⟩ rfl ⟨rfl, rfl, rfl, trivial⟩ (ha.mono (by decide)) (hk.mono (by decide))) (il_cons (I_r4Equal1 (ka := [13, 14, 15]) (a := (a.scale k)) (kb := [13, 14, 15]) (b := (a.scale k)) ⟨rfl, rfl, rfl, trivial⟩ ⟨rfl, rfl, rfl, trivial⟩ ((ha.scale hk).mono (by decide)) ((ha.scale hk).mono (by decide)) rfl) (il_cons (I_vDot (ka := [0, 1, 2]) (a := a) (kb := [3, 4, 5]) (b := b) (ir := 16) ⟨rfl, rfl, rfl, trivial⟩ ⟨rfl, rfl, rfl, trivial⟩ rfl (ha.mono (by decide)) (hb.mono (by decide))) (il_cons (I_r4Dot (ka := [0, 1, 2]) (a := a) (kb := [3, 4, 5]) (b := b) (ir := 16) ⟨rfl, rfl, rfl, trivial⟩ ⟨rfl, rfl, rfl, trivial⟩ rfl (ha.mono (by decide)) (hb.mono (by decide))) (il_cons (I_rSame (i := 16) (j := 16) (l := .b true) rfl rfl (lb (Fq.same_iff.2 rfl)) ((ha.dot hb).mono (by decide)).p ((ha.dot hb).mono (by decide)).q ((ha.dot hb).mono (by decide)).p ((ha.dot hb).mono (by decide)).q) (il_cons (I_vCross (ka := [0, 1, 2]) (a := a) (kb := [3, 4, 5]) (b := b) (kr := [17, 18, 19]) ⟨rfl, rfl, rfl, trivial⟩ ⟨rfl, rfl, rfl, trivial⟩ ⟨rfl, rfl, rfl, trivial⟩ (ha.mono (by decide)) (hb.mono (by decide))) (il_cons (I_r4Cross (ka := [0, 1, 2]) (a := a) (kb := [3, 4, 5]) (b := b) (kr := [17, 18, 19]) ⟨rfl, rfl, rfl, trivial⟩ ⟨rfl, rfl, rfl, trivial⟩ ⟨rfl, rfl, rfl, trivial⟩ (ha.mono (by decide)) (hb.mono (by decide))) (il_cons (I_r4Equal1 (ka := [17, 18, 19]) (a := (a.cross b)) (kb := [17, 18, 19]) (b := (a.cross b)) ⟨rfl, rfl, rfl, trivial⟩ ⟨rfl, rfl, rfl, trivial⟩ ((ha.cross hb).mono (by decide)) ((ha.cross hb).mono (by decide)) rfl) (il_cons (I_vLerp (ka := [0, 1, 2]) (a := a) (kb := [3, 4, 5]) (b := b) (ik := 6) (kr := [20, 21, 22]) ⟨rfl, rfl, rfl, trivial⟩ ⟨rfl, rfl, rfl, trivial⟩ rfl ⟨rfl, rfl, rfl, trivial⟩ (ha.mono (by decide)) (hb.mono (by decide)) (hk.mono (by decide))) (il_cons (I_r4Lerp (ka := [0, 1, 2]) (a := a) (kb := [3, 4, 5]) (b := b) (ik := 6) (kr := [20, 21, 22]) ⟨rfl, rfl, rfl, trivial⟩ ⟨rfl, rfl, rfl, trivial⟩ rfl ⟨rfl, rfl, rfl, trivial⟩ (ha.mono (by decide)) (hb.mono (by decide)) (hk.mono (by decide))) (il_cons (I_r4Equal1 (ka := [20, 21, 22]) (a := (a.lerp b k)) (kb := [20, 21, 22]) (b := (a.lerp b k)) ⟨rfl, rfl, rfl, trivial⟩ ⟨rfl, rfl, rfl, trivial⟩ ((ha.lerp hb hk).mono (by decide)) ((ha.lerp hb hk).mono (by decide)) rfl) (il_cons (I_vEqual1 (ka := [0, 1, 2]) (a := a) (kb := [3, 4, 5]) (b := b) ⟨rfl, rfl, rfl, trivial⟩ ⟨rfl, rfl, rfl, trivial⟩ (ha.mono (by decide)) (hb.mono (by decide)) c0 ga gb) (il_cons (I_r4Equal1 (ka := [0, 1, 2]) (a := a) (kb := [3, 4, 5]) (b := b) ⟨rfl, rfl, rfl, trivial⟩ ⟨rfl, rfl, rfl, trivial⟩ (ha.mono (by decide)) (hb.mono (by decide)) c0) (il_cons (I_vEqual1 (ka := [0, 1, 2]) (a := a) (kb := [0, 1, 2]) (b := a) ⟨rfl, rfl, rfl, trivial⟩ ⟨rfl, rfl, rfl, trivial⟩ (ha.mono (by decide)) (ha.mono (by decide)) rfl ga ga) (il_cons (I_awake) il_nil)))))))))))))))))))))))))
      ol_nil (by kernel_rfl) Tryz.func3 (by kernel_rfl) ⟨(row_isL (xs := xmVectorComputesX a b k) (ks := [0, 1, 2]) (vs := [a.x, a.y, a.z]) ⟨rfl, rfl, rfl, trivial⟩).2 ia, ⟨(row_isL (xs := xmVectorComputesX a b k) (ks := [3, 4, 5]) (vs := [b.x, b.y, b.z]) ⟨rfl, rfl, rfl, trivial⟩).2 ib, ⟨(fr_isQ (xs := xmVectorComputesX a b k) (k := 6) rfl).2 ik, trivial⟩⟩⟩).mono ?_
    rintro e w' ⟨v, rfl, h1, h2⟩
    exact ⟨congrArg Ending.returned h1, h2⟩
  · refine (calls_runFn (ρ := frs (xmVectorComputes1X a b k) ++ []) (w := w) (fuel := 300) (args := [row [0, 1, 2], row [3, 4, 5], fr 6]) (vs := [va, vb, vk]) (r := .v (.one (.b true)))
      (il_cons (I_fitQ (ka := [0, 1, 2]) (a := a) ⟨rfl, rfl, rfl, trivial⟩ (ha.mono (by decide)) ga) (il_cons (I_fitQ (ka := [3, 4, 5]) (a := b) ⟨rfl, rfl, rfl, trivial⟩ (hb.mono (by decide)) gb) (il_cons (I_smallQ (ix := 6) rfl (hk.mono (by decide)) gk) (il_cons (I_vAdd (ka := [0, 1, 2]) (a := a) (kb := [3, 4, 5]) (b := b) (kr := [7, 8, 9]) ⟨rfl, rfl, rfl, trivial⟩ ⟨rfl, rfl, rfl, trivial⟩ ⟨rfl, rfl, rfl, trivial⟩ (ha.mono (by decide)) (hb.mono (by decide))) (il_cons (I_r4Add (ka := [0, 1, 2]) (a := a) (kb := [3, 4, 5]) (b := b) (kr := [7, 8, 9]) ⟨rfl, rfl, rfl, trivial⟩ ⟨rfl, rfl, rfl, trivial⟩ ⟨rfl, rfl, rfl, trivial⟩ (ha.mono (by decide)) (hb.mono (by decide))) (il_cons (I_r4Equal1 (ka := [7, 8, 9]) (a := (a.add b)) (kb := [7, 8, 9]) (b := (a.add b)) ⟨rfl, rfl, rfl, trivial⟩ ⟨rfl, rfl, rfl, trivial⟩ ((ha.add hb).mono (by decide)) ((ha.add hb).mono (by decide)) rfl) (il_cons (I_vSub (ka := [0, 1, 2]) (a := a) (kb := [3, 4, 5]) (b := b) (kr := [10, 11, 12]) ⟨rfl, rfl, rfl, trivial⟩ ⟨rfl, rfl, rfl, trivial⟩ ⟨rfl, rfl, rfl, trivial⟩ (ha.mono (by decide)) (hb.mono (by decide))) (il_cons (I_r4Sub (ka := [0, 1, 2]) (a := a) (kb := [3, 4, 5]) (b := b) (kr := [10, 11, 12]) ⟨rfl, rfl, rfl, trivial⟩ ⟨rfl, rfl, rfl, trivial⟩ ⟨rfl, rfl, rfl, trivial⟩ (ha.mono (by decide)) (hb.mono (by decide))) (il_cons (I_r4Equal1 (ka := [10, 11, 12]) (a := (a.sub b)) (kb := [10, 11, 12]) (b := (a.sub b)) ⟨rfl, rfl, rfl, trivial⟩ ⟨rfl, rfl, rfl, trivial⟩ ((ha.sub hb).mono (by decide)) ((ha.sub hb).mono (by decide)) rfl) (il_cons (I_vScale (ka := [0, 1, 2]) (a := a) (ik := 6) (kr := [13, 14, 15]) ⟨rfl, rfl, rfl, trivial⟩ rfl ⟨rfl, rfl, rfl, trivial⟩ (ha.mono (by decide)) (hk.mono (by decide))) (il_cons (I_r4Scale (ka := [0, 1, 2]) (a := a) (ik := 6) (kr := [13, 14, 15]) ⟨rfl, rfl, rfl, trivial⟩ rfl ⟨rfl, rfl, rfl, trivial⟩ (ha.mono (by decide)) (hk.mono (by decide))) (il_cons (I_r4Equal1 (ka := [13, 14, 15]) (a := (a.scale k)) (kb := [13, 14, 15]) (b := (a.scale k)) ⟨rfl, rfl, rfl, trivial⟩ ⟨rfl, rfl, rfl, trivial⟩ ((ha.scale hk).mono (by decide)) ((ha.scale hk).mono (by decide)) rfl) (il_cons (I_vDot (ka := [0, 1, 2]) (a := a) (kb := [3, 4, 5]) (b := b) (ir := 16) ⟨rfl, rfl, rfl, trivial⟩ ⟨rfl, rfl, rfl, trivial⟩ rfl (ha.mono (by decide)) (hb.mono (by decide))) (il_cons (I_r4Dot (ka := [0, 1, 2]) (a := a) (kb := [3, 4, 5]) (b := b) (ir := 16) ⟨rfl, rfl, rfl, trivial⟩ ⟨rfl, rfl, rfl, trivial⟩ rfl (ha.mono (by decide)) (hb.mono (by decide))) (il_cons (I_rSame (i := 16) (j := 16) (l := .b true) rfl rfl (lb (Fq.same_iff.2 rfl)) ((ha.dot hb).mono (by decide)).p ((ha.dot hb).mono (by decide)).q ((ha.dot hb).mono (by decide)).p ((ha.dot hb).mono (by decide)).q) (il_cons (I_vCross (ka := [0, 1, 2]) (a := a) (kb := [3, 4, 5]) (b := b) (kr := [17, 18, 19]) ⟨rfl, rfl, rfl, trivial⟩ ⟨rfl, rfl, rfl, trivial⟩ ⟨rfl, rfl, rfl, trivial⟩ (ha.mono (by decide)) (hb.mono (by decide))) (il_cons (I_r4Cross (ka := [0, 1, 2]) (a := a) (kb := [3, 4, 5]) (b := b) (kr := [17, 18, 19]) ⟨rfl, rfl, rfl, trivial⟩ ⟨rfl, rfl, rfl, trivial⟩ ⟨rfl, rfl, rfl, trivial⟩ (ha.mono (by decide)) (hb.mono (by decide))) (il_cons (I_r4Equal1 (ka := [17, 18, 19]) (a := (a.cross b)) (kb := [17, 18, 19]) (b := (a.cross b)) ⟨rfl, rfl, rfl, trivial⟩ ⟨rfl, rfl, rfl, trivial⟩ ((ha.cross hb).mono (by decide)) ((ha.cross hb).mono (by decide)) rfl) (il_cons (I_vLerp (ka := [0, 1, 2]) (a := a) (kb := [3, 4, 5]) (b := b) (ik := 6) (kr := [20, 21, 22]) ⟨rfl, rfl, rfl, trivial⟩ ⟨rfl, rfl, rfl, trivial⟩ rfl ⟨rfl, rfl, rfl, trivial⟩ (ha.mono (by decide)) (hb.mono (by decide)) (hk.mono (by decide))) (il_cons (I_r4Lerp (ka := [0, 1, 2]) (a := a) (kb := [3, 4, 5]) (b := b) (ik := 6) (kr := [20, 21, 22]) ⟨rfl, rfl, rfl, trivial⟩ ⟨rfl, rfl, rfl, trivial⟩ rfl ⟨rfl, rfl, rfl, trivial⟩ (ha.mono (by decide)) (hb.mono (by decide)) (hk.mono (by decide))) (il_cons (I_r4Equal1 (ka := [20, 21, 22]) (a := (a.lerp b k)) (kb := [20, 21, 22]) (b := (a.lerp b k)) ⟨rfl, rfl, rfl, trivial⟩ ⟨rfl, rfl, rfl, trivial⟩ ((ha.lerp hb hk).mono (by decide)) ((ha.lerp hb hk).mono (by decide)) rfl) (il_cons (I_vEqual0 (ka := [0, 1, 2]) (a := a) (kb := [3, 4, 5]) (b := b) ⟨rfl, rfl, rfl, trivial⟩ ⟨rfl, rfl, rfl, trivial⟩ (ha.mono (by decide)) (hb.mono (by decide)) c0 ga gb) (il_cons (I_r4Equal0 (ka := [0, 1, 2]) (a := a) (kb := [3, 4, 5]) (b := b) ⟨rfl, rfl, rfl, trivial⟩ ⟨rfl, rfl, rfl, trivial⟩ (ha.mono (by decide)) (hb.mono (by decide)) c0) (il_cons (I_vEqual1 (ka := [0, 1, 2]) (a := a) (kb := [0, 1, 2]) (b := a) ⟨rfl, rfl, rfl, trivial⟩ ⟨rfl, rfl, rfl, trivial⟩ (ha.mono (by decide)) (ha.mono (by decide)) rfl ga ga) (il_cons (I_awake) il_nil)))))))))))))))))))))))))
      ol_nil (by kernel_rfl) Tryz.func3 (by kernel_rfl) ⟨(row_isL (xs := xmVectorComputes1X a b k) (ks := [0, 1, 2]) (vs := [a.x, a.y, a.z]) ⟨rfl, rfl, rfl, trivial⟩).2 ia, ⟨(row_isL (xs := xmVectorComputes1X a b k) (ks := [3, 4, 5]) (vs := [b.x, b.y, b.z]) ⟨rfl, rfl, rfl, trivial⟩).2 ib, ⟨(fr_isQ (xs := xmVectorComputes1X a b k) (k := 6) rfl).2 ik, trivial⟩⟩⟩).mono ?_
    rintro e w' ⟨v, rfl, h1, h2⟩
    exact ⟨congrArg Ending.returned h1, h2⟩
def xVectorComputes0X (a0 a1 a2 b0 b1 b2 k0 : Rq) : List Fq := []
def xVectorComputes1X (a0 a1 a2 b0 b1 b2 k0 : Rq) : List Fq := []
def xVectorComputes2X (a0 a1 a2 b0 b1 b2 k0 : Rq) : List Fq := []
theorem n_VectorComputes (va vb vk : Value) (a0 a1 a2 b0 b1 b2 k0 : Rq) (w : World) (ia : IsL w va [a0, a1, a2]) (ib : IsL w vb [b0, b1, b2]) (ik : IsL w vk [k0]) (hne : ((fitB a0 a1 a2) && ((fitB b0 b1 b2) && k0.sm)) = false) : Calls Tryz.prog 3 #[va, vb, vk] w fun e w' => RetV w (.bool true) e w' := by
  rcases Bool.eq_false_or_eq_true (fitB a0 a1 a2) with hp0 | hp0
  · rcases Bool.eq_false_or_eq_true (fitB b0 b1 b2) with hp1 | hp1
    · rcases Bool.eq_false_or_eq_true (k0.sm) with hp2 | hp2
      · exact absurd hne (by rw [hp0, hp1, hp2]; decide)
      · refine (calls_runFn (ρ := frs (xVectorComputes0X a0 a1 a2 b0 b1 b2 k0) ++ [.val (.bool a0.s), .dig a0.L a0.p, .dig a0.N a0.q, .val (.bool a1.s), .dig a1.L a1.p, .dig a1.N a1.q, .val (.bool a2.s), .dig a2.L a2.p, .dig a2.N a2.q, .val (.bool b0.s), .dig b0.L b0.p, .dig b0.N b0.q, .val (.bool b1.s), .dig b1.L b1.p, .dig b1.N b1.q, .val (.bool b2.s), .dig b2.L b2.p, .dig b2.N b2.q, .val (.bool k0.s), .dig k0.L k0.p, .dig k0.N k0.q]) (w := w) (fuel := 300) (args := [rowN [0, 3, 6], rowN [9, 12, 15], rowN [18]]) (vs := [va, vb, vk]) (r := .v (.one (.b true)))
          (il_cons (I_fitX (nx := [0, 3, 6]) ⟨⟨rfl, rfl, rfl⟩, ⟨rfl, rfl, rfl⟩, ⟨rfl, rfl, rfl⟩, trivial⟩ hp0) (il_cons (I_fitX (nx := [9, 12, 15]) ⟨⟨rfl, rfl, rfl⟩, ⟨rfl, rfl, rfl⟩, ⟨rfl, rfl, rfl⟩, trivial⟩ hp1) (il_cons (I_smallX (nx := [18]) ⟨⟨rfl, rfl, rfl⟩, trivial⟩ hp2) (il_cons (I_awake) il_nil))))
          ol_nil (by kernel_rfl) Tryz.func3 (by kernel_rfl) ⟨(rowN_isL (ns := [0, 3, 6]) (rs := [a0, a1, a2]) ⟨⟨rfl, rfl, rfl⟩, ⟨rfl, rfl, rfl⟩, ⟨rfl, rfl, rfl⟩, trivial⟩).2 ia, ⟨(rowN_isL (ns := [9, 12, 15]) (rs := [b0, b1, b2]) ⟨⟨rfl, rfl, rfl⟩, ⟨rfl, rfl, rfl⟩, ⟨rfl, rfl, rfl⟩, trivial⟩).2 ib, ⟨(rowN_isL (ns := [18]) (rs := [k0]) ⟨⟨rfl, rfl, rfl⟩, trivial⟩).2 ik, trivial⟩⟩⟩).mono ?_
        rintro e w' ⟨v, rfl, h1, h2⟩
        exact ⟨congrArg Ending.returned h1, h2⟩
    · refine (calls_runFn (ρ := frs (xVectorComputes1X a0 a1 a2 b0 b1 b2 k0) ++ [.val (.bool a0.s), .dig a0.L a0.p, .dig a0.N a0.q, .val (.bool a1.s), .dig a1.L a1.p, .dig a1.N a1.q, .val (.bool a2.s), .dig a2.L a2.p, .dig a2.N a2.q, .val (.bool b0.s), .dig b0.L b0.p, .dig b0.N b0.q, .val (.bool b1.s), .dig b1.L b1.p, .dig b1.N b1.q, .val (.bool b2.s), .dig b2.L b2.p, .dig b2.N b2.q, .val (.bool k0.s), .dig k0.L k0.p, .dig k0.N k0.q]) (w := w) (fuel := 300) (args := [rowN [0, 3, 6], rowN [9, 12, 15], rowN [18]]) (vs := [va, vb, vk]) (r := .v (.one (.b true)))
        (il_cons (I_fitX (nx := [0, 3, 6]) ⟨⟨rfl, rfl, rfl⟩, ⟨rfl, rfl, rfl⟩, ⟨rfl, rfl, rfl⟩, trivial⟩ hp0) (il_cons (I_fitX (nx := [9, 12, 15]) ⟨⟨rfl, rfl, rfl⟩, ⟨rfl, rfl, rfl⟩, ⟨rfl, rfl, rfl⟩, trivial⟩ hp1) (il_cons (I_awake) il_nil)))
        ol_nil (by kernel_rfl) Tryz.func3 (by kernel_rfl) ⟨(rowN_isL (ns := [0, 3, 6]) (rs := [a0, a1, a2]) ⟨⟨rfl, rfl, rfl⟩, ⟨rfl, rfl, rfl⟩, ⟨rfl, rfl, rfl⟩, trivial⟩).2 ia, ⟨(rowN_isL (ns := [9, 12, 15]) (rs := [b0, b1, b2]) ⟨⟨rfl, rfl, rfl⟩, ⟨rfl, rfl, rfl⟩, ⟨rfl, rfl, rfl⟩, trivial⟩).2 ib, ⟨(rowN_isL (ns := [18]) (rs := [k0]) ⟨⟨rfl, rfl, rfl⟩, trivial⟩).2 ik, trivial⟩⟩⟩).mono ?_
      rintro e w' ⟨v, rfl, h1, h2⟩
      exact ⟨congrArg Ending.returned h1, h2⟩
  · refine (calls_runFn (ρ := frs (xVectorComputes2X a0 a1 a2 b0 b1 b2 k0) ++ [.val (.bool a0.s), .dig a0.L a0.p, .dig a0.N a0.q, .val (.bool a1.s), .dig a1.L a1.p, .dig a1.N a1.q, .val (.bool a2.s), .dig a2.L a2.p, .dig a2.N a2.q, .val (.bool b0.s), .dig b0.L b0.p, .dig b0.N b0.q, .val (.bool b1.s), .dig b1.L b1.p, .dig b1.N b1.q, .val (.bool b2.s), .dig b2.L b2.p, .dig b2.N b2.q, .val (.bool k0.s), .dig k0.L k0.p, .dig k0.N k0.q]) (w := w) (fuel := 300) (args := [rowN [0, 3, 6], rowN [9, 12, 15], rowN [18]]) (vs := [va, vb, vk]) (r := .v (.one (.b true)))
      (il_cons (I_fitX (nx := [0, 3, 6]) ⟨⟨rfl, rfl, rfl⟩, ⟨rfl, rfl, rfl⟩, ⟨rfl, rfl, rfl⟩, trivial⟩ hp0) (il_cons (I_awake) il_nil))
      ol_nil (by kernel_rfl) Tryz.func3 (by kernel_rfl) ⟨(rowN_isL (ns := [0, 3, 6]) (rs := [a0, a1, a2]) ⟨⟨rfl, rfl, rfl⟩, ⟨rfl, rfl, rfl⟩, ⟨rfl, rfl, rfl⟩, trivial⟩).2 ia, ⟨(rowN_isL (ns := [9, 12, 15]) (rs := [b0, b1, b2]) ⟨⟨rfl, rfl, rfl⟩, ⟨rfl, rfl, rfl⟩, ⟨rfl, rfl, rfl⟩, trivial⟩).2 ib, ⟨(rowN_isL (ns := [18]) (rs := [k0]) ⟨⟨rfl, rfl, rfl⟩, trivial⟩).2 ik, trivial⟩⟩⟩).mono ?_
    rintro e w' ⟨v, rfl, h1, h2⟩
    exact ⟨congrArg Ending.returned h1, h2⟩
theorem c_VectorComputes (va vb vk : Value) (a0 a1 a2 b0 b1 b2 k0 : Rq) (w : World) (ia : IsL w va [a0, a1, a2]) (ib : IsL w vb [b0, b1, b2]) (ik : IsL w vk [k0]) : Calls Tryz.prog 3 #[va, vb, vk] w fun e w' => RetV w (.bool true) e w' := by
  rcases Bool.eq_false_or_eq_true (((fitB a0 a1 a2) && ((fitB b0 b1 b2) && k0.sm))) with h | h
  · simp only [Bool.and_eq_true] at h
    obtain ⟨fa, fb, fk⟩ := h
    obtain ⟨a, ea0, ea1, ea2, ga, ha⟩ := fit_v fa
    rw [ea0, ea1, ea2] at ia
    obtain ⟨b, eb0, eb1, eb2, gb, hb⟩ := fit_v fb
    rw [eb0, eb1, eb2] at ib
    obtain ⟨k, ek0, gk, hk⟩ := sm_q fk
    rw [ek0] at ik
    exact q_mVectorComputes va vb vk a b k w ia ib (isL_Q ik) ha hb hk ga gb gk
  · exact n_VectorComputes va vb vk a0 a1 a2 b0 b1 b2 k0 w ia ib ik h
end Go.Proofs.YtfhinmdhjlmikaaGreatDoor
namespace Go.Proofs.YtfhinmdhjlmikaaGreatDoor
set_option linter.unusedSimpArgs false
set_option linter.unusedVariables false
set_option maxRecDepth 100000
open Go.RowKit
open Go.ChangeShapes Go.WideShapes Go.ChangeAt Go.RowKit
theorem digits_exist (f : Nat → Nat) (hf : ∀ j, f j < 4294967296) : ∀ L, ∃ N, N < 4294967296 ^ L ∧ ∀ j, j < L → D N j = f j
  | 0 => ⟨0, by simp, fun j h => by omega⟩
  | L + 1 => by
    obtain ⟨N, h1, h2⟩ := digits_exist f hf L
    refine ⟨upd N L (f L), upd_lt (Nat.lt_of_lt_of_le h1 (Nat.pow_le_pow_right (by decide) (Nat.le_succ L))) (Nat.lt_succ_self L) (hf L), fun j hj => ?_⟩
    by_cases e : j = L
    · subst e; exact D_upd_same N j (f j) (hf j)
    · rw [D_upd_other N L (f L) j (hf L) e]; exact h2 j (by omega)
end Go.Proofs.YtfhinmdhjlmikaaGreatDoor
namespace Go.Proofs.YtfhinmdhjlmikaaGreatDoor
set_option linter.unusedSimpArgs false
set_option linter.unusedVariables false
set_option maxRecDepth 100000
open Go.RowKit
open Go.ChangeShapes Go.WideShapes Go.ChangeAt Go.RowKit
section
variable {H : Type} {enc : TypeId × Value → H} {W : World}
def Small (t : TypeId) (d : DataW H) : Prop := ∀ n ∈ d.weights Tryz.prog t, n ≤ 140737488355328
theorem open_natw {fuel : Nat} {u : Value} {x : DataW H × List MemPlace} (hf : DataW.trod enc Tryz.prog W 0 (fun _ => true) true fuel 24 [u] = some x) :
    ∃ a L cap m, u = .slice a L cap ∧ IsR W (.agg #[.slice a L cap]) L m ∧ (Small 24 x.1 → L ≤ 140737488355328) := by
  obtain ⟨y0, n, hy, hl0, h1⟩ := trod_struct1 Tryz.underlying24 hf
  have hc2 : Tryz.prog.cellsOf 22 = 1 := by kernel_rfl
  have hb : Tryz.prog.bytesOf 72 = 4 := by kernel_rfl
  simp [hc2] at h1
  rcases open_ints Tryz.underlying22 Tryz.underlying72 (by kernel_rfl) h1 with ⟨hcs, _⟩ | ⟨x', l, c, zs, hcs, _, hl, hm, hz, hx0, hcell, hwz⟩
  · simp at hcs
    subst hcs
    exact ⟨none, 0, 0, 0, rfl, ⟨none, 0, rfl, Nat.le_refl _, by simp, fun h => by omega⟩, fun _ => Nat.zero_le _⟩
  · simp at hcs
    subst hcs
    obtain ⟨N, hN, hD⟩ := digits_exist (fun j => (zs.getD j 0).toNat) (fun j => by
      have := range_u32 hwz j
      have e : zs.getD j 0 = zs[j]?.getD 0 := by simp
      rw [e]; omega) l
    refine ⟨some x', l, c, N, rfl, ⟨some x', c, rfl, hl, hN, fun h0 => ?_⟩, fun hs => ?_⟩
    · obtain ⟨b, off, spot⟩ := x'
      have hc0 := hcell 0 (by rw [hz]; simp; omega)
      have hspot : spot = none := by simpa [Addr.add] using World.cell?_spot hc0
      subst hspot
      refine ⟨b, off, rfl, fun j hj => ?_⟩
      have h2 := hcell j (by rw [hz]; simp; omega)
      have hadd : (⟨b, off, none⟩ : Addr).add j = ⟨b, off + j, none⟩ := by unfold Addr.add; split <;> simp_all
      rw [hadd] at h2
      rw [h2, hD j hj]
      have := range_u32 hwz j
      have e : zs.getD j 0 = zs[j]?.getD 0 := by simp
      rw [e, Int.toNat_of_nonneg this.1]
    · unfold Small at hs
      rw [hy] at hs
      have h3 := hs (((lits .u32 (zs.take l)).length + (lits .u32 (zs.drop l)).length) * 4) (by
        simp only [DataW.weights, Tryz.underlying24, DataW.weightsEach, List.map_cons, List.map_nil, List.append_nil, hx0, Tryz.underlying22, hb]
        exact List.mem_cons_self)
      have h4 : (lits (H := H) .u32 (zs.take l)).length = l := by
        simp only [lits, List.length_map, List.length_take]
        have : l ≤ zs.length := by rw [hz]; simp; omega
        omega
      omega
theorem open_fracw {fuel : Nat} {u0 u1 u2 : Value} {x : DataW H × List MemPlace} (hf : DataW.trod enc Tryz.prog W 0 (fun _ => true) true fuel 26 [u0, u1, u2] = some x) :
    ∃ (r : Rq) (a b : Option Addr) (c d : Nat), u0 = .bool r.s ∧ u1 = .slice a r.L c ∧ u2 = .slice b r.N d ∧ IsR W (.agg #[.slice a r.L c]) r.L r.p ∧ IsR W (.agg #[.slice b r.N d]) r.N r.q ∧ (Small 26 x.1 → r.L ≤ 140737488355328 ∧ r.N ≤ 140737488355328) := by
  have hcn : Tryz.prog.cellsOf 24 = 1 := by kernel_rfl
  have hcb : Tryz.prog.cellsOf 4 = 1 := by kernel_rfl
  obtain ⟨y0, y1, y2, n, hy, hl0, h0, h1, h2⟩ := Go.Deep.trod_struct3 Tryz.underlying26 hf
  simp [hcn, hcb] at h0 h1 h2
  obtain ⟨s, h3, _⟩ := DataW.trod_bool Tryz.underlying4 h0
  obtain rfl : u0 = .bool s := by simpa using h3
  obtain ⟨a, L, c, m, rfl, i1, l1⟩ := open_natw h1
  obtain ⟨a', N, c', k, rfl, i2, l2⟩ := open_natw h2
  refine ⟨⟨s, L, m, N, k⟩, a, a', c, c', rfl, rfl, rfl, i1, i2, fun hs => ?_⟩
  unfold Small at hs
  rw [hy] at hs
  simp only [DataW.weights, Tryz.underlying26, DataW.weightsEach, List.map_cons, List.map_nil, List.append_nil, List.mem_append] at hs
  exact ⟨l1 (fun n hn => hs n (.inr (.inl hn))), l2 (fun n hn => hs n (.inr (.inr hn)))⟩
end
end Go.Proofs.YtfhinmdhjlmikaaGreatDoor
namespace Go.Proofs.YtfhinmdhjlmikaaGreatDoor
set_option linter.unusedSimpArgs false
set_option linter.unusedVariables false
set_option maxRecDepth 100000
open Go.RowKit
open Go.ChangeShapes Go.WideShapes Go.ChangeAt Go.RowKit
section
variable {H : Type} {enc : TypeId × Value → H} {W : World}
theorem open_vec {v : Value} {d : DataW H} {p : List MemPlace} {base : Nat} (hval : Value.okWide Tryz.prog W .any base 28 v) (h : DataW.Trod enc Tryz.prog W 0 (fun _ => true) true 28 v d p) :
    ∃ r0 r1 r2 : Rq, IsL W v [r0, r1, r2] := by
  obtain ⟨cs, rfl, hcs⟩ := okWide_struct Tryz.underlying28 hval
  have hc : Tryz.prog.cellsOf 28 = 9 := by kernel_rfl
  have hcf : Tryz.prog.cellsOf 26 = 3 := by kernel_rfl
  rw [hc] at hcs
  obtain ⟨l⟩ := cs
  have hl : l.length = 9 := by simpa using hcs
  obtain ⟨fuel, hf⟩ := h
  match l, hl with
  | [u0, u1, u2, u3, u4, u5, u6, u7, u8], _ =>
    obtain ⟨xs, n, _, hx, _, hlen, hg⟩ := DataW.trod_struct Tryz.underlying28 hf
    match xs, hlen with
    | [y0, y1, y2], _ =>
      have h0 := hg 0 _ rfl
      have h1 := hg 1 _ rfl
      have h2 := hg 2 _ rfl
      simp [Value.cells, hcf] at h0 h1 h2
      obtain ⟨r0, a0, b0, c0, d0, rfl, rfl, rfl, i0, j0, _⟩ := open_fracw h0
      obtain ⟨r1, a1, b1, c1, d1, rfl, rfl, rfl, i1, j1, _⟩ := open_fracw h1
      obtain ⟨r2, a2, b2, c2, d2, rfl, rfl, rfl, i2, j2, _⟩ := open_fracw h2
      exact ⟨r0, r1, r2, ⟨_, rfl, a0, c0, b0, d0, _, rfl, i0, j0, a1, c1, b1, d1, _, rfl, i1, j1, a2, c2, b2, d2, _, rfl, i2, j2, rfl⟩⟩
theorem open_frac1 {v : Value} {d : DataW H} {p : List MemPlace} {base : Nat} (hval : Value.okWide Tryz.prog W .any base 26 v) (h : DataW.Trod enc Tryz.prog W 0 (fun _ => true) true 26 v d p) :
    ∃ r0 : Rq, IsL W v [r0] := by
  obtain ⟨cs, rfl, hcs⟩ := okWide_struct Tryz.underlying26 hval
  have hc : Tryz.prog.cellsOf 26 = 3 := by kernel_rfl
  rw [hc] at hcs
  obtain ⟨l⟩ := cs
  have hl : l.length = 3 := by simpa using hcs
  obtain ⟨fuel, hf⟩ := h
  match l, hl with
  | [u0, u1, u2], _ =>
    obtain ⟨r0, a0, b0, c0, d0, rfl, rfl, rfl, i0, j0, _⟩ := open_fracw hf
    exact ⟨r0, ⟨_, rfl, a0, c0, b0, d0, _, rfl, i0, j0, rfl⟩⟩
end
end Go.Proofs.YtfhinmdhjlmikaaGreatDoor
