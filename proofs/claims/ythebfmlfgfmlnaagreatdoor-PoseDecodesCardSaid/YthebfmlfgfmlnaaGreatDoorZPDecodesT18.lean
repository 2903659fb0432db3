/- The law which strings are transforms. -/
import Derived.Test.YthebfmlfgfmlnaaGreatDoorP17
namespace Go.Proofs.YthebfmlfgfmlnaaGreatDoor
set_option linter.unusedSimpArgs false
set_option linter.unusedVariables false
set_option maxRecDepth 100000
open Go.RowKit
def xr4EqualZX (a : Vq) (b : Vq) : List Fq := [a.x, a.y, a.z, b.x, b.y, b.z]
theorem q_r4EqualZ (va vb : Value) (a : Vq) (b : Vq) (w : World) (ia : IsVq w va a) (ib : IsVq w vb b) (e0 : a = ⟨.zero, .zero, .zero⟩) (e1 : b = ⟨.zero, .zero, .zero⟩) :
    Calls Tryz.prog 28 #[va, vb] w fun e w' => RetV w (.bool true) e w' := by
  refine (calls_runFn (ρ := frs (xr4EqualZX a b) ++ []) (w := w) (fuel := 300) (args := [row [0, 1, 2], row [3, 4, 5]]) (vs := [va, vb]) (r := .v (.one (.b true)))
    (il_cons (I_rSame (i := 0) (j := 3) (l := .b true) rfl rfl (lb (Fq.same_iff.2 (by rw [e0, e1]))) (by rw [e0]; exact z0) (by rw [e0]; exact z0) (by rw [e1]; exact z0) (by rw [e1]; exact z0)) (il_cons (I_rSame (i := 1) (j := 4) (l := .b true) rfl rfl (lb (Fq.same_iff.2 (by rw [e0, e1]))) (by rw [e0]; exact z0) (by rw [e0]; exact z0) (by rw [e1]; exact z0) (by rw [e1]; exact z0)) (il_cons (I_rSame (i := 2) (j := 5) (l := .b true) rfl rfl (lb (Fq.same_iff.2 (by rw [e0, e1]))) (by rw [e0]; exact z0) (by rw [e0]; exact z0) (by rw [e1]; exact z0) (by rw [e1]; exact z0)) il_nil)))
    ol_nil (by kernel_rfl) Tryz.func28 (by kernel_rfl) ⟨(row_isL (xs := xr4EqualZX a b) (ks := [0, 1, 2]) (vs := [a.x, a.y, a.z]) ⟨rfl, rfl, rfl, trivial⟩).2 ia, ⟨(row_isL (xs := xr4EqualZX a b) (ks := [3, 4, 5]) (vs := [b.x, b.y, b.z]) ⟨rfl, rfl, rfl, trivial⟩).2 ib, trivial⟩⟩).mono ?_
  rintro e w' ⟨v, rfl, h1, h2⟩
  exact ⟨congrArg Ending.returned h1, h2⟩
theorem I_r4EqualZ {xs : List Fq} {ys : Rho} {ka : List Nat} {kb : List Nat} {a : Vq} {b : Vq}  (aa : AtL xs ka [a.x, a.y, a.z]) (ab : AtL xs kb [b.x, b.y, b.z])  (e0 : a = ⟨.zero, .zero, .zero⟩) (e1 : b = ⟨.zero, .zero, .zero⟩) : OkI xs ys ⟨28, [row ka, row kb], .v (.one (.b true))⟩ :=
  ⟨enters Tryz.func28 rfl rfl, fun B w vs hB h => by
    match vs, h with
    | [va, vb], h =>
      refine (q_r4EqualZ va vb a b w ((row_isL aa).1 h.1) ((row_isL ab).1 h.2.1) e0 e1).mono ?_
      rintro e w' ⟨rfl, h2⟩
      exact ⟨_, rfl, rfl, h2⟩⟩
def xrpEqualZX (a : Pq) (b : Pq) : List Fq := [a.rot.w, a.rot.x, a.rot.y, a.rot.z, a.pos.x, a.pos.y, a.pos.z, b.rot.w, b.rot.x, b.rot.y, b.rot.z, b.pos.x, b.pos.y, b.pos.z]
theorem q_rpEqualZ (va vb : Value) (a : Pq) (b : Pq) (w : World) (ia : IsOq w va a) (ib : IsOq w vb b) (e0 : a = Pq.zero) (e1 : b = Pq.zero) :
    Calls Tryz.prog 17 #[va, vb] w fun e w' => RetV w (.bool true) e w' := by
  refine (calls_runFn (ρ := frs (xrpEqualZX a b) ++ []) (w := w) (fuel := 300) (args := [row [0, 1, 2, 3, 4, 5, 6], row [7, 8, 9, 10, 11, 12, 13]]) (vs := [va, vb]) (r := .v (.one (.b true)))
    (il_cons (I_rEqualZ (ka := [0, 1, 2, 3]) (a := a.rot) (kb := [7, 8, 9, 10]) (b := b.rot) ⟨rfl, rfl, rfl, rfl, trivial⟩ ⟨rfl, rfl, rfl, rfl, trivial⟩ (by rw [e0]; rfl) (by rw [e1]; rfl)) (il_cons (I_r4EqualZ (ka := [4, 5, 6]) (a := a.pos) (kb := [11, 12, 13]) (b := b.pos) ⟨rfl, rfl, rfl, trivial⟩ ⟨rfl, rfl, rfl, trivial⟩ (by rw [e0]; rfl) (by rw [e1]; rfl)) il_nil))
    ol_nil (by kernel_rfl) Tryz.func17 (by kernel_rfl) ⟨(row_isL (xs := xrpEqualZX a b) (ks := [0, 1, 2, 3, 4, 5, 6]) (vs := [a.rot.w, a.rot.x, a.rot.y, a.rot.z, a.pos.x, a.pos.y, a.pos.z]) ⟨rfl, rfl, rfl, rfl, rfl, rfl, rfl, trivial⟩).2 ia, ⟨(row_isL (xs := xrpEqualZX a b) (ks := [7, 8, 9, 10, 11, 12, 13]) (vs := [b.rot.w, b.rot.x, b.rot.y, b.rot.z, b.pos.x, b.pos.y, b.pos.z]) ⟨rfl, rfl, rfl, rfl, rfl, rfl, rfl, trivial⟩).2 ib, trivial⟩⟩).mono ?_
  rintro e w' ⟨v, rfl, h1, h2⟩
  exact ⟨congrArg Ending.returned h1, h2⟩
theorem I_rpEqualZ {xs : List Fq} {ys : Rho} {ka : List Nat} {kb : List Nat} {a : Pq} {b : Pq}  (aa : AtL xs ka [a.rot.w, a.rot.x, a.rot.y, a.rot.z, a.pos.x, a.pos.y, a.pos.z]) (ab : AtL xs kb [b.rot.w, b.rot.x, b.rot.y, b.rot.z, b.pos.x, b.pos.y, b.pos.z])  (e0 : a = Pq.zero) (e1 : b = Pq.zero) : OkI xs ys ⟨17, [row ka, row kb], .v (.one (.b true))⟩ :=
  ⟨enters Tryz.func17 rfl rfl, fun B w vs hB h => by
    match vs, h with
    | [va, vb], h =>
      refine (q_rpEqualZ va vb a b w ((row_isL aa).1 h.1) ((row_isL ab).1 h.2.1) e0 e1).mono ?_
      rintro e w' ⟨rfl, h2⟩
      exact ⟨_, rfl, rfl, h2⟩⟩
def xPD1X (s : ByteArray) : List Fq := []
theorem q_PD1 (s : ByteArray) (w : World) (h : 200 < s.size) : Calls Tryz.prog 5 #[.string s] w fun e w' => RetV w (.bool true) e w' := by
  refine (calls_runFn (ρ := frs (xPD1X s) ++ [.val (.string s), .val (.int .i64 ((s.size : Nat) : Int))]) (w := w) (fuel := 300) (args := [.one (.ref 0)]) (vs := [.string s]) (r := .v (.one (.b true)))
    (il_cons (I_awake) il_nil)
    (ol_cons (o_lenS (n := 0) (m := 1) (t := 9) (by kernel_rfl) rfl rfl) (ol_cons (o_gtrK (n := 1) (c := 200) (b := true) (t := 3) rfl (decide_eq_true (by omega))) (ol_nil))) (by kernel_rfl) Tryz.func5 (by kernel_rfl) ⟨ls (n := 0) rfl (fun _ => none) w, trivial⟩).mono ?_
  rintro e w' ⟨v, rfl, h1, h2⟩
  exact ⟨congrArg Ending.returned h1, h2⟩
def xPD2X (s : ByteArray) (p : Pq) : List Fq := [p.rot.w, p.rot.x, p.rot.y, p.rot.z, p.pos.x, p.pos.y, p.pos.z]
theorem q_PD2 (s : ByteArray) (p : Pq) (w : World) (h : s.size ≤ 200) (h0 : PD s p 0) (gp : p.good) (kp : p.ok 1000) (ht : p.text = s) : Calls Tryz.prog 5 #[.string s] w fun e w' => RetV w (.bool true) e w' := by
  refine (calls_runFn (ρ := frs (xPD2X s p) ++ [.val (.string s), .val (.int .i64 ((s.size : Nat) : Int)), .val (.string p.text)]) (w := w) (fuel := 300) (args := [.one (.ref 21)]) (vs := [.string s]) (r := .v (.one (.b true)))
    (il_cons (I_poDecode (l0 := .ref 21) (s := s) (kr := [0, 1, 2, 3, 4, 5, 6]) (fun _ _ _ h => leaf_val rfl h) ⟨rfl, rfl, rfl, rfl, rfl, rfl, rfl, trivial⟩ (li rfl) h0 (by omega)) (il_cons (I_rpDecode (l0 := .ref 21) (s := s) (kr := [0, 1, 2, 3, 4, 5, 6]) (fun _ _ _ h => leaf_val rfl h) ⟨rfl, rfl, rfl, rfl, rfl, rfl, rfl, trivial⟩ (li rfl) h0 (by omega)) (il_cons (I_rpEqual1 (ka := [0, 1, 2, 3, 4, 5, 6]) (a := p) (kb := [0, 1, 2, 3, 4, 5, 6]) (b := p) ⟨rfl, rfl, rfl, rfl, rfl, rfl, rfl, trivial⟩ ⟨rfl, rfl, rfl, rfl, rfl, rfl, rfl, trivial⟩ (kp.mono (by decide)) (kp.mono (by decide)) rfl) (il_cons (I_poEnc (ks := [0, 1, 2, 3, 4, 5, 6]) (a := p) ⟨rfl, rfl, rfl, rfl, rfl, rfl, rfl, trivial⟩ (ls (n := 23) rfl) (kp.mono (by decide))) (il_cons (I_awake) il_nil)))))
    (ol_cons (o_lenS (n := 21) (m := 22) (t := 9) (by kernel_rfl) rfl rfl) (ol_cons (o_gtrK (n := 22) (c := 200) (b := false) (t := 3) rfl (decide_eq_false (by omega))) (ol_cons (o_eqSR (n := 23) (m := 21) (t := 9) rfl rfl ht) (ol_nil)))) (by kernel_rfl) Tryz.func5 (by kernel_rfl) ⟨ls (n := 21) rfl (fun _ => none) w, trivial⟩).mono ?_
  rintro e w' ⟨v, rfl, h1, h2⟩
  exact ⟨congrArg Ending.returned h1, h2⟩
def xPD3X (s : ByteArray) (c : Int) : List Fq := [Pq.zero.rot.w, Pq.zero.rot.x, Pq.zero.rot.y, Pq.zero.rot.z, Pq.zero.pos.x, Pq.zero.pos.y, Pq.zero.pos.z]
theorem q_PD3 (s : ByteArray) (c : Int) (w : World) (h : s.size ≤ 200) (h0 : PD s Pq.zero c) (hc : c ≠ 0) : Calls Tryz.prog 5 #[.string s] w fun e w' => RetV w (.bool true) e w' := by
  refine (calls_runFn (ρ := frs (xPD3X s c) ++ [.val (.string s), .val (.int .i64 ((s.size : Nat) : Int)), .val (.int .i64 c)]) (w := w) (fuel := 300) (args := [.one (.ref 21)]) (vs := [.string s]) (r := .v (.one (.b true)))
    (il_cons (I_poDecode (l0 := .ref 21) (s := s) (kr := [0, 1, 2, 3, 4, 5, 6]) (fun _ _ _ h => leaf_val rfl h) ⟨rfl, rfl, rfl, rfl, rfl, rfl, rfl, trivial⟩ (lr (n := 23) rfl) h0 (by omega)) (il_cons (I_rpDecode (l0 := .ref 21) (s := s) (kr := [0, 1, 2, 3, 4, 5, 6]) (fun _ _ _ h => leaf_val rfl h) ⟨rfl, rfl, rfl, rfl, rfl, rfl, rfl, trivial⟩ (lr (n := 23) rfl) h0 (by omega)) (il_cons (I_rpEqualZ (ka := [0, 1, 2, 3, 4, 5, 6]) (a := Pq.zero) (kb := [0, 1, 2, 3, 4, 5, 6]) (b := Pq.zero) ⟨rfl, rfl, rfl, rfl, rfl, rfl, rfl, trivial⟩ ⟨rfl, rfl, rfl, rfl, rfl, rfl, rfl, trivial⟩ rfl rfl) (il_cons (I_awake) il_nil))))
    (ol_cons (o_lenS (n := 21) (m := 22) (t := 9) (by kernel_rfl) rfl rfl) (ol_cons (o_gtrK (n := 22) (c := 200) (b := false) (t := 3) rfl (decide_eq_false (by omega))) (ol_cons (o_neqR (n := 23) (m := 23) (t := 39) rfl rfl (bneq_f rfl)) (ol_cons (o_neqK (n := 23) (c := 0) (u := c) (b := true) (t := 39) rfl (bneq_t hc)) (ol_nil))))) (by kernel_rfl) Tryz.func5 (by kernel_rfl) ⟨ls (n := 21) rfl (fun _ => none) w, trivial⟩).mono ?_
  rintro e w' ⟨v, rfl, h1, h2⟩
  exact ⟨congrArg Ending.returned h1, h2⟩
theorem c_PoseDecodes (s : ByteArray) (w : World) : Calls Tryz.prog 5 #[.string s] w fun e w' => RetV w (.bool true) e w' := by
  by_cases h : s.size ≤ 200
  · obtain ⟨p, c, hp⟩ := pd_total s
    by_cases hc : c = 0
    · subst hc
      obtain ⟨gp, kp, ht⟩ := pd_good hp rfl
      exact q_PD2 s p w h hp gp kp ht
    · obtain rfl := pd_zero hp hc
      exact q_PD3 s c w h hp hc
  · exact q_PD1 s w (by omega)
end Go.Proofs.YthebfmlfgfmlnaaGreatDoor
