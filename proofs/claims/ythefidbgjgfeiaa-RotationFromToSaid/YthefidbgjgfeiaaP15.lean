/- Matrices, units, from one vector to another, by the executor. On the way, valid rotations, by the executor. What the laws of rotations are told with, by the executor. The law that rotations form a group. -/
import Derived.Test.YthefidbgjgfeiaaP14
namespace Go.Proofs.Ythefidbgjgfeiaa
set_option linter.unusedSimpArgs false
set_option linter.unusedVariables false
set_option maxRecDepth 100000
open Go.RowKit
theorem ok_vof {x y z : Int} (l1 : -9223372036854775808 ≤ x) (r1 : x < 9223372036854775808) (l2 : -9223372036854775808 ≤ y) (r2 : y < 9223372036854775808) (l3 : -9223372036854775808 ≤ z) (r3 : z < 9223372036854775808) : (Vq.of x y z).ok 2 := ⟨ok_int l1 r1, ok_int l2 r2, ok_int l3 r3⟩
theorem good_first {q : Qq} (g : q.good) : q.first = Fq.ofInt 1 := v_inj g.comp.first (ofInt_valid 1) (by rw [g.one, v_ofInt]; rfl)
theorem good_ne {q : Qq} (g : q.good) : q.first.p ≠ 0 := by rw [good_first g]; decide
def xrUnit0X  : List Fq := [(Fq.ofInt 0), (Fq.ofInt 1)]
theorem q_rUnit0  (w : World)   :
    Calls Try.prog 45 #[.int .i64 (0)] w fun e w' => RetVq w (Vq.of 1 0 0) e w' := by
  refine (calls_runFn (ρ := frs (xrUnit0X ) ++ []) (w := w) (fuel := 300) (args := [.one (.i .i64 0)]) (vs := [.int .i64 (0)]) (r := .v (row [1, 0, 0]))
    (il_cons (I_rInt (k := 0) rfl (by decide) (by decide)) (il_cons (I_rInt (k := 1) rfl (by decide) (by decide)) il_nil))
    ol_nil (by kernel_rfl) Try.func45 (by kernel_rfl) ⟨rfl, trivial⟩).mono ?_
  rintro e w' ⟨v, rfl, h1, h2⟩
  exact ⟨v, rfl, (row_isL (xs := xrUnit0X ) (ks := [1, 0, 0]) (vs := [(Fq.ofInt 1), (Fq.ofInt 0), (Fq.ofInt 0)]) ⟨rfl, rfl, rfl, trivial⟩).1 h1, h2⟩
theorem I_rUnit0 {xs : List Fq} {ys : Rho}   {kr : List Nat}  (ar : AtL xs kr [(Vq.of 1 0 0).x, (Vq.of 1 0 0).y, (Vq.of 1 0 0).z]) : OkI xs ys ⟨45, [.one (.i .i64 0)], .v (row kr)⟩ :=
  ⟨enters Try.func45 rfl rfl, fun B w vs h => by
    match vs, h with
    | [vk], h =>
      have ek : vk = .int .i64 (0) := h.1
      subst ek
      refine (q_rUnit0 w).mono ?_
      rintro e w' ⟨v, rfl, h1, h2⟩
      exact ⟨v, rfl, (row_isL ar).2 h1, h2⟩⟩
def xrUnit1X  : List Fq := [(Fq.ofInt 0), (Fq.ofInt 1)]
theorem q_rUnit1  (w : World)   :
    Calls Try.prog 45 #[.int .i64 (1)] w fun e w' => RetVq w (Vq.of 0 1 0) e w' := by
  refine (calls_runFn (ρ := frs (xrUnit1X ) ++ []) (w := w) (fuel := 300) (args := [.one (.i .i64 1)]) (vs := [.int .i64 (1)]) (r := .v (row [0, 1, 0]))
    (il_cons (I_rInt (k := 0) rfl (by decide) (by decide)) (il_cons (I_rInt (k := 1) rfl (by decide) (by decide)) il_nil))
    ol_nil (by kernel_rfl) Try.func45 (by kernel_rfl) ⟨rfl, trivial⟩).mono ?_
  rintro e w' ⟨v, rfl, h1, h2⟩
  exact ⟨v, rfl, (row_isL (xs := xrUnit1X ) (ks := [0, 1, 0]) (vs := [(Fq.ofInt 0), (Fq.ofInt 1), (Fq.ofInt 0)]) ⟨rfl, rfl, rfl, trivial⟩).1 h1, h2⟩
theorem I_rUnit1 {xs : List Fq} {ys : Rho}   {kr : List Nat}  (ar : AtL xs kr [(Vq.of 0 1 0).x, (Vq.of 0 1 0).y, (Vq.of 0 1 0).z]) : OkI xs ys ⟨45, [.one (.i .i64 1)], .v (row kr)⟩ :=
  ⟨enters Try.func45 rfl rfl, fun B w vs h => by
    match vs, h with
    | [vk], h =>
      have ek : vk = .int .i64 (1) := h.1
      subst ek
      refine (q_rUnit1 w).mono ?_
      rintro e w' ⟨v, rfl, h1, h2⟩
      exact ⟨v, rfl, (row_isL ar).2 h1, h2⟩⟩
theorem turn_ok {a b : Vq} {d e : Nat} (h : a.ok d) (k : b.ok e) (hw : ((a.dot a).add (a.dot b)).p ≠ 0) : (a.turn b).ok (80 * d + 40 * e + 30 + (80 * d + 40 * e + 30)) :=
  (Qq.ok.mk4 (((h.dot h).add (h.dot k)).mono (by omega)) ((h.cross k).x.mono (by omega)) ((h.cross k).y.mono (by omega)) ((h.cross k).z.mono (by omega)) : Qq.ok (80 * d + 40 * e + 30) _).canon (turn_ne hw)
def xfTurnX (a : Vq) (b : Vq) : List Fq := [a.x, a.y, a.z, b.x, b.y, b.z, (a.dot a), (a.dot b), ((a.dot a).add (a.dot b)), (b.dot b), (a.cross b).x, (a.cross b).y, (a.cross b).z, (Qq.mk ((a.dot a).add (a.dot b)) (a.cross b).x (a.cross b).y (a.cross b).z).canon.w, (Qq.mk ((a.dot a).add (a.dot b)) (a.cross b).x (a.cross b).y (a.cross b).z).canon.x, (Qq.mk ((a.dot a).add (a.dot b)) (a.cross b).x (a.cross b).y (a.cross b).z).canon.y, (Qq.mk ((a.dot a).add (a.dot b)) (a.cross b).x (a.cross b).y (a.cross b).z).canon.z]
theorem q_fTurn (va vb : Value) (a : Vq) (b : Vq) (w : World) (ia : IsVq w va a) (ib : IsVq w vb b) (ha : a.ok 10000) (hb : b.ok 10000) (ga : a.good) (gb : b.good) (e0 : (a.dot a) = (b.dot b)) (hn : (a.dot a).p ≠ 0) (hw : ((a.dot a).add (a.dot b)).p ≠ 0) :
    Calls Try.prog 19 #[va, vb] w fun e w' => RetQtE w (a.turn b) 0 e w' := by
  refine (calls_runFn (ρ := frs (xfTurnX a b) ++ [.val (.int .i64 (a.dot a).sgn), .val (.int .i64 ((a.dot a).add (a.dot b)).sgn)]) (w := w) (fuel := 300) (args := [row [0, 1, 2], row [3, 4, 5]]) (vs := [va, vb]) (r := .tup [row [13, 14, 15, 16], .one (.i .i64 0)])
    (il_cons (I_vDot (ka := [0, 1, 2]) (a := a) (kb := [0, 1, 2]) (b := a) (ir := 6) ⟨rfl, rfl, rfl, trivial⟩ ⟨rfl, rfl, rfl, trivial⟩ rfl (ha.mono (by decide)) (ha.mono (by decide))) (il_cons (I_vDot (ka := [0, 1, 2]) (a := a) (kb := [3, 4, 5]) (b := b) (ir := 7) ⟨rfl, rfl, rfl, trivial⟩ ⟨rfl, rfl, rfl, trivial⟩ rfl (ha.mono (by decide)) (hb.mono (by decide))) (il_cons (I_fAdd (i := 6) (j := 7) (k := 8) rfl rfl rfl ((ha.dot ha).mono (by decide)) ((ha.dot hb).mono (by decide))) (il_cons (I_vDot (ka := [3, 4, 5]) (a := b) (kb := [3, 4, 5]) (b := b) (ir := 9) ⟨rfl, rfl, rfl, trivial⟩ ⟨rfl, rfl, rfl, trivial⟩ rfl (hb.mono (by decide)) (hb.mono (by decide))) (il_cons (I_fCmp (i := 6) (j := 9) rfl rfl (li ((o_zero (dot_valid ga ga) (dot_valid gb gb)).2 e0)) ((ha.dot ha).mono (by decide)) ((hb.dot hb).mono (by decide))) (il_cons (I_fSign (i := 6) rfl (lr (n := 51) rfl) ((ha.dot ha).mono (by decide))) (il_cons (I_fSign (i := 8) rfl (lr (n := 52) rfl) (((ha.dot ha).add (ha.dot hb)).mono (by decide))) (il_cons (I_vCross (ka := [0, 1, 2]) (a := a) (kb := [3, 4, 5]) (b := b) (kr := [10, 11, 12]) ⟨rfl, rfl, rfl, trivial⟩ ⟨rfl, rfl, rfl, trivial⟩ ⟨rfl, rfl, rfl, trivial⟩ (ha.mono (by decide)) (hb.mono (by decide))) (il_cons (I_fCanon (iu := 8) (kc := [10, 11, 12]) (c := (a.cross b)) (kr := [13, 14, 15, 16]) rfl ⟨rfl, rfl, rfl, trivial⟩ ⟨rfl, rfl, rfl, rfl, trivial⟩ (((ha.dot ha).add (ha.dot hb)).mono (by decide)) ((ha.cross hb).mono (by decide)) (turn_ne hw)) il_nil)))))))))
    (ol_cons (o_eql (n := 51) (c := 0) (t := 3) rfl (sgn_eq hn)) (ol_cons (o_eql (n := 52) (c := 0) (t := 3) rfl (sgn_eq hw)) (ol_nil))) (by kernel_rfl) Try.func19 (by kernel_rfl) ⟨(row_isL (xs := xfTurnX a b) (ks := [0, 1, 2]) (vs := [a.x, a.y, a.z]) ⟨rfl, rfl, rfl, trivial⟩).2 ia, ⟨(row_isL (xs := xfTurnX a b) (ks := [3, 4, 5]) (vs := [b.x, b.y, b.z]) ⟨rfl, rfl, rfl, trivial⟩).2 ib, trivial⟩⟩).mono ?_
  rintro e w' ⟨v, rfl, ⟨vs, rfl, h1⟩, h2⟩
  match vs, h1 with
  | [r, c], h1 =>
    obtain ⟨⟨cs, rfl, k1⟩, k2, _⟩ := h1
    have k2 : c = _ := k2
    subst k2
    exact ⟨_, rfl, (row_isL (xs := xfTurnX a b) (ks := [13, 14, 15, 16]) (vs := [(Qq.mk ((a.dot a).add (a.dot b)) (a.cross b).x (a.cross b).y (a.cross b).z).canon.w, (Qq.mk ((a.dot a).add (a.dot b)) (a.cross b).x (a.cross b).y (a.cross b).z).canon.x, (Qq.mk ((a.dot a).add (a.dot b)) (a.cross b).x (a.cross b).y (a.cross b).z).canon.y, (Qq.mk ((a.dot a).add (a.dot b)) (a.cross b).x (a.cross b).y (a.cross b).z).canon.z]) ⟨rfl, rfl, rfl, rfl, trivial⟩).1 ⟨_, rfl, k1⟩, h2⟩
theorem I_fTurn {xs : List Fq} {ys : Rho} {ka : List Nat} {kb : List Nat} {a : Vq} {b : Vq} {kr : List Nat} (aa : AtL xs ka [a.x, a.y, a.z]) (ab : AtL xs kb [b.x, b.y, b.z]) (ar : AtL xs kr [(a.turn b).w, (a.turn b).x, (a.turn b).y, (a.turn b).z]) (ha : a.ok 10000) (hb : b.ok 10000) (ga : a.good) (gb : b.good) (e0 : (a.dot a) = (b.dot b)) (hn : (a.dot a).p ≠ 0) (hw : ((a.dot a).add (a.dot b)).p ≠ 0) : OkI xs ys ⟨19, [row ka, row kb], .tup [row kr, .one (.i .i64 0)]⟩ :=
  ⟨enters Try.func19 rfl rfl, fun B w vs h => by
    match vs, h with
    | [va, vb], h =>
      refine (q_fTurn va vb a b w ((row_isL aa).1 h.1) ((row_isL ab).1 h.2.1) ha hb ga gb e0 hn hw).mono ?_
      rintro e w' ⟨v, rfl, h1, h2⟩
      exact ⟨_, rfl, ⟨[v, .int .i64 0], rfl, (row_isL ar).2 h1, rfl, trivial⟩, h2⟩⟩
def xfTurn1X (a : Vq) (b : Vq) : List Fq := [a.x, a.y, a.z, b.x, b.y, b.z, (a.dot a), (a.dot b), ((a.dot a).add (a.dot b)), (b.dot b)]
theorem q_fTurn1 (va vb : Value) (a : Vq) (b : Vq) (w : World) (ia : IsVq w va a) (ib : IsVq w vb b) (ha : a.ok 10000) (hb : b.ok 10000) (ga : a.good) (gb : b.good) (e0 : (a.dot a) ≠ (b.dot b)) :
    Calls Try.prog 19 #[va, vb] w fun e w' => RetQtE w Qq.zero 4 e w' := by
  refine (calls_runFn (ρ := frs (xfTurn1X a b) ++ [.val (.int .i64 ((a.dot a).cmp (b.dot b)))]) (w := w) (fuel := 300) (args := [row [0, 1, 2], row [3, 4, 5]]) (vs := [va, vb]) (r := .tup [.agg [.b false, .sl0, .sl0, .b false, .sl0, .sl0, .b false, .sl0, .sl0, .b false, .sl0, .sl0], .one (.i .i64 4)])
    (il_cons (I_vDot (ka := [0, 1, 2]) (a := a) (kb := [0, 1, 2]) (b := a) (ir := 6) ⟨rfl, rfl, rfl, trivial⟩ ⟨rfl, rfl, rfl, trivial⟩ rfl (ha.mono (by decide)) (ha.mono (by decide))) (il_cons (I_vDot (ka := [0, 1, 2]) (a := a) (kb := [3, 4, 5]) (b := b) (ir := 7) ⟨rfl, rfl, rfl, trivial⟩ ⟨rfl, rfl, rfl, trivial⟩ rfl (ha.mono (by decide)) (hb.mono (by decide))) (il_cons (I_fAdd (i := 6) (j := 7) (k := 8) rfl rfl rfl ((ha.dot ha).mono (by decide)) ((ha.dot hb).mono (by decide))) (il_cons (I_vDot (ka := [3, 4, 5]) (a := b) (kb := [3, 4, 5]) (b := b) (ir := 9) ⟨rfl, rfl, rfl, trivial⟩ ⟨rfl, rfl, rfl, trivial⟩ rfl (hb.mono (by decide)) (hb.mono (by decide))) (il_cons (I_fCmp (i := 6) (j := 9) rfl rfl (lr (n := 30) rfl) ((ha.dot ha).mono (by decide)) ((hb.dot hb).mono (by decide))) il_nil)))))
    (ol_cons (o_neq (n := 30) (c := 0) (t := 3) rfl (ne_neq (mt (o_zero (dot_valid ga ga) (dot_valid gb gb)).1 e0))) (ol_nil)) (by kernel_rfl) Try.func19 (by kernel_rfl) ⟨(row_isL (xs := xfTurn1X a b) (ks := [0, 1, 2]) (vs := [a.x, a.y, a.z]) ⟨rfl, rfl, rfl, trivial⟩).2 ia, ⟨(row_isL (xs := xfTurn1X a b) (ks := [3, 4, 5]) (vs := [b.x, b.y, b.z]) ⟨rfl, rfl, rfl, trivial⟩).2 ib, trivial⟩⟩).mono ?_
  rintro e w' ⟨v, rfl, ⟨vs, rfl, h1⟩, h2⟩
  match vs, h1 with
  | [r, c], h1 =>
    obtain ⟨⟨cs, rfl, k1⟩, k2, _⟩ := h1
    have k2 : c = _ := k2
    subst k2
    exact ⟨_, rfl, ⟨_, rfl, zero_row (n := 4) k1⟩, h2⟩
theorem I_fTurn1 {xs : List Fq} {ys : Rho} {ka : List Nat} {kb : List Nat} {a : Vq} {b : Vq} {kr : List Nat} (aa : AtL xs ka [a.x, a.y, a.z]) (ab : AtL xs kb [b.x, b.y, b.z]) (ar : AtL xs kr [Qq.zero.w, Qq.zero.x, Qq.zero.y, Qq.zero.z]) (ha : a.ok 10000) (hb : b.ok 10000) (ga : a.good) (gb : b.good) (e0 : (a.dot a) ≠ (b.dot b)) : OkI xs ys ⟨19, [row ka, row kb], .tup [row kr, .one (.i .i64 4)]⟩ :=
  ⟨enters Try.func19 rfl rfl, fun B w vs h => by
    match vs, h with
    | [va, vb], h =>
      refine (q_fTurn1 va vb a b w ((row_isL aa).1 h.1) ((row_isL ab).1 h.2.1) ha hb ga gb e0).mono ?_
      rintro e w' ⟨v, rfl, h1, h2⟩
      exact ⟨_, rfl, ⟨[v, .int .i64 4], rfl, (row_isL ar).2 h1, rfl, trivial⟩, h2⟩⟩
def xfTurn2X (a : Vq) (b : Vq) : List Fq := [a.x, a.y, a.z, b.x, b.y, b.z, (a.dot a), (a.dot b), ((a.dot a).add (a.dot b)), (b.dot b)]
theorem q_fTurn2 (va vb : Value) (a : Vq) (b : Vq) (w : World) (ia : IsVq w va a) (ib : IsVq w vb b) (ha : a.ok 10000) (hb : b.ok 10000) (ga : a.good) (gb : b.good) (e0 : (a.dot a) = (b.dot b)) (hn : (a.dot a).p = 0) :
    Calls Try.prog 19 #[va, vb] w fun e w' => RetQtE w Qq.zero 4 e w' := by
  refine (calls_runFn (ρ := frs (xfTurn2X a b) ++ []) (w := w) (fuel := 300) (args := [row [0, 1, 2], row [3, 4, 5]]) (vs := [va, vb]) (r := .tup [.agg [.b false, .sl0, .sl0, .b false, .sl0, .sl0, .b false, .sl0, .sl0, .b false, .sl0, .sl0], .one (.i .i64 4)])
    (il_cons (I_vDot (ka := [0, 1, 2]) (a := a) (kb := [0, 1, 2]) (b := a) (ir := 6) ⟨rfl, rfl, rfl, trivial⟩ ⟨rfl, rfl, rfl, trivial⟩ rfl (ha.mono (by decide)) (ha.mono (by decide))) (il_cons (I_vDot (ka := [0, 1, 2]) (a := a) (kb := [3, 4, 5]) (b := b) (ir := 7) ⟨rfl, rfl, rfl, trivial⟩ ⟨rfl, rfl, rfl, trivial⟩ rfl (ha.mono (by decide)) (hb.mono (by decide))) (il_cons (I_fAdd (i := 6) (j := 7) (k := 8) rfl rfl rfl ((ha.dot ha).mono (by decide)) ((ha.dot hb).mono (by decide))) (il_cons (I_vDot (ka := [3, 4, 5]) (a := b) (kb := [3, 4, 5]) (b := b) (ir := 9) ⟨rfl, rfl, rfl, trivial⟩ ⟨rfl, rfl, rfl, trivial⟩ rfl (hb.mono (by decide)) (hb.mono (by decide))) (il_cons (I_fCmp (i := 6) (j := 9) rfl rfl (li ((o_zero (dot_valid ga ga) (dot_valid gb gb)).2 e0)) ((ha.dot ha).mono (by decide)) ((hb.dot hb).mono (by decide))) (il_cons (I_fSign (i := 6) rfl (li (sgn0 hn)) ((ha.dot ha).mono (by decide))) il_nil))))))
    ol_nil (by kernel_rfl) Try.func19 (by kernel_rfl) ⟨(row_isL (xs := xfTurn2X a b) (ks := [0, 1, 2]) (vs := [a.x, a.y, a.z]) ⟨rfl, rfl, rfl, trivial⟩).2 ia, ⟨(row_isL (xs := xfTurn2X a b) (ks := [3, 4, 5]) (vs := [b.x, b.y, b.z]) ⟨rfl, rfl, rfl, trivial⟩).2 ib, trivial⟩⟩).mono ?_
  rintro e w' ⟨v, rfl, ⟨vs, rfl, h1⟩, h2⟩
  match vs, h1 with
  | [r, c], h1 =>
    obtain ⟨⟨cs, rfl, k1⟩, k2, _⟩ := h1
    have k2 : c = _ := k2
    subst k2
    exact ⟨_, rfl, ⟨_, rfl, zero_row (n := 4) k1⟩, h2⟩
theorem I_fTurn2 {xs : List Fq} {ys : Rho} {ka : List Nat} {kb : List Nat} {a : Vq} {b : Vq} {kr : List Nat} (aa : AtL xs ka [a.x, a.y, a.z]) (ab : AtL xs kb [b.x, b.y, b.z]) (ar : AtL xs kr [Qq.zero.w, Qq.zero.x, Qq.zero.y, Qq.zero.z]) (ha : a.ok 10000) (hb : b.ok 10000) (ga : a.good) (gb : b.good) (e0 : (a.dot a) = (b.dot b)) (hn : (a.dot a).p = 0) : OkI xs ys ⟨19, [row ka, row kb], .tup [row kr, .one (.i .i64 4)]⟩ :=
  ⟨enters Try.func19 rfl rfl, fun B w vs h => by
    match vs, h with
    | [va, vb], h =>
      refine (q_fTurn2 va vb a b w ((row_isL aa).1 h.1) ((row_isL ab).1 h.2.1) ha hb ga gb e0 hn).mono ?_
      rintro e w' ⟨v, rfl, h1, h2⟩
      exact ⟨_, rfl, ⟨[v, .int .i64 4], rfl, (row_isL ar).2 h1, rfl, trivial⟩, h2⟩⟩
def xfTurn3X (a : Vq) (b : Vq) : List Fq := [a.x, a.y, a.z, b.x, b.y, b.z, (a.dot a), (a.dot b), ((a.dot a).add (a.dot b)), (b.dot b)]
theorem q_fTurn3 (va vb : Value) (a : Vq) (b : Vq) (w : World) (ia : IsVq w va a) (ib : IsVq w vb b) (ha : a.ok 10000) (hb : b.ok 10000) (ga : a.good) (gb : b.good) (e0 : (a.dot a) = (b.dot b)) (hn : (a.dot a).p ≠ 0) (hw : ((a.dot a).add (a.dot b)).p = 0) :
    Calls Try.prog 19 #[va, vb] w fun e w' => RetQtE w Qq.zero 4 e w' := by
  refine (calls_runFn (ρ := frs (xfTurn3X a b) ++ [.val (.int .i64 (a.dot a).sgn)]) (w := w) (fuel := 300) (args := [row [0, 1, 2], row [3, 4, 5]]) (vs := [va, vb]) (r := .tup [.agg [.b false, .sl0, .sl0, .b false, .sl0, .sl0, .b false, .sl0, .sl0, .b false, .sl0, .sl0], .one (.i .i64 4)])
    (il_cons (I_vDot (ka := [0, 1, 2]) (a := a) (kb := [0, 1, 2]) (b := a) (ir := 6) ⟨rfl, rfl, rfl, trivial⟩ ⟨rfl, rfl, rfl, trivial⟩ rfl (ha.mono (by decide)) (ha.mono (by decide))) (il_cons (I_vDot (ka := [0, 1, 2]) (a := a) (kb := [3, 4, 5]) (b := b) (ir := 7) ⟨rfl, rfl, rfl, trivial⟩ ⟨rfl, rfl, rfl, trivial⟩ rfl (ha.mono (by decide)) (hb.mono (by decide))) (il_cons (I_fAdd (i := 6) (j := 7) (k := 8) rfl rfl rfl ((ha.dot ha).mono (by decide)) ((ha.dot hb).mono (by decide))) (il_cons (I_vDot (ka := [3, 4, 5]) (a := b) (kb := [3, 4, 5]) (b := b) (ir := 9) ⟨rfl, rfl, rfl, trivial⟩ ⟨rfl, rfl, rfl, trivial⟩ rfl (hb.mono (by decide)) (hb.mono (by decide))) (il_cons (I_fCmp (i := 6) (j := 9) rfl rfl (li ((o_zero (dot_valid ga ga) (dot_valid gb gb)).2 e0)) ((ha.dot ha).mono (by decide)) ((hb.dot hb).mono (by decide))) (il_cons (I_fSign (i := 6) rfl (lr (n := 30) rfl) ((ha.dot ha).mono (by decide))) (il_cons (I_fSign (i := 8) rfl (li (sgn0 hw)) (((ha.dot ha).add (ha.dot hb)).mono (by decide))) il_nil)))))))
    (ol_cons (o_eql (n := 30) (c := 0) (t := 3) rfl (sgn_eq hn)) (ol_nil)) (by kernel_rfl) Try.func19 (by kernel_rfl) ⟨(row_isL (xs := xfTurn3X a b) (ks := [0, 1, 2]) (vs := [a.x, a.y, a.z]) ⟨rfl, rfl, rfl, trivial⟩).2 ia, ⟨(row_isL (xs := xfTurn3X a b) (ks := [3, 4, 5]) (vs := [b.x, b.y, b.z]) ⟨rfl, rfl, rfl, trivial⟩).2 ib, trivial⟩⟩).mono ?_
  rintro e w' ⟨v, rfl, ⟨vs, rfl, h1⟩, h2⟩
  match vs, h1 with
  | [r, c], h1 =>
    obtain ⟨⟨cs, rfl, k1⟩, k2, _⟩ := h1
    have k2 : c = _ := k2
    subst k2
    exact ⟨_, rfl, ⟨_, rfl, zero_row (n := 4) k1⟩, h2⟩
theorem I_fTurn3 {xs : List Fq} {ys : Rho} {ka : List Nat} {kb : List Nat} {a : Vq} {b : Vq} {kr : List Nat} (aa : AtL xs ka [a.x, a.y, a.z]) (ab : AtL xs kb [b.x, b.y, b.z]) (ar : AtL xs kr [Qq.zero.w, Qq.zero.x, Qq.zero.y, Qq.zero.z]) (ha : a.ok 10000) (hb : b.ok 10000) (ga : a.good) (gb : b.good) (e0 : (a.dot a) = (b.dot b)) (hn : (a.dot a).p ≠ 0) (hw : ((a.dot a).add (a.dot b)).p = 0) : OkI xs ys ⟨19, [row ka, row kb], .tup [row kr, .one (.i .i64 4)]⟩ :=
  ⟨enters Try.func19 rfl rfl, fun B w vs h => by
    match vs, h with
    | [va, vb], h =>
      refine (q_fTurn3 va vb a b w ((row_isL aa).1 h.1) ((row_isL ab).1 h.2.1) ha hb ga gb e0 hn hw).mono ?_
      rintro e w' ⟨v, rfl, h1, h2⟩
      exact ⟨_, rfl, ⟨[v, .int .i64 4], rfl, (row_isL ar).2 h1, rfl, trivial⟩, h2⟩⟩
def xrTurnX (a : Vq) (b : Vq) : List Fq := [a.x, a.y, a.z, b.x, b.y, b.z, (a.dot a), (a.dot b), ((a.dot a).add (a.dot b)), (b.dot b), (a.cross b).x, (a.cross b).y, (a.cross b).z, (Qq.mk ((a.dot a).add (a.dot b)) (a.cross b).x (a.cross b).y (a.cross b).z).canon.w, (Qq.mk ((a.dot a).add (a.dot b)) (a.cross b).x (a.cross b).y (a.cross b).z).canon.x, (Qq.mk ((a.dot a).add (a.dot b)) (a.cross b).x (a.cross b).y (a.cross b).z).canon.y, (Qq.mk ((a.dot a).add (a.dot b)) (a.cross b).x (a.cross b).y (a.cross b).z).canon.z]
theorem q_rTurn (va vb : Value) (a : Vq) (b : Vq) (w : World) (ia : IsVq w va a) (ib : IsVq w vb b) (ha : a.ok 10000) (hb : b.ok 10000) (ga : a.good) (gb : b.good) (e0 : (a.dot a) = (b.dot b)) (hn : (a.dot a).p ≠ 0) (hw : ((a.dot a).add (a.dot b)).p ≠ 0) :
    Calls Try.prog 20 #[va, vb] w fun e w' => RetQtE w (a.turn b) 0 e w' := by
  refine (calls_runFn (ρ := frs (xrTurnX a b) ++ [.val (.int .i64 (a.dot a).sgn), .val (.int .i64 ((a.dot a).add (a.dot b)).sgn)]) (w := w) (fuel := 300) (args := [row [0, 1, 2], row [3, 4, 5]]) (vs := [va, vb]) (r := .tup [row [13, 14, 15, 16], .one (.i .i64 0)])
    (il_cons (I_rDot (ka := [0, 1, 2]) (a := a) (kb := [0, 1, 2]) (b := a) (ir := 6) ⟨rfl, rfl, rfl, trivial⟩ ⟨rfl, rfl, rfl, trivial⟩ rfl (ha.mono (by decide)) (ha.mono (by decide))) (il_cons (I_rDot (ka := [0, 1, 2]) (a := a) (kb := [3, 4, 5]) (b := b) (ir := 7) ⟨rfl, rfl, rfl, trivial⟩ ⟨rfl, rfl, rfl, trivial⟩ rfl (ha.mono (by decide)) (hb.mono (by decide))) (il_cons (I_rAdd (i := 6) (j := 7) (k := 8) rfl rfl rfl ((ha.dot ha).mono (by decide)) ((ha.dot hb).mono (by decide))) (il_cons (I_rDot (ka := [3, 4, 5]) (a := b) (kb := [3, 4, 5]) (b := b) (ir := 9) ⟨rfl, rfl, rfl, trivial⟩ ⟨rfl, rfl, rfl, trivial⟩ rfl (hb.mono (by decide)) (hb.mono (by decide))) (il_cons (I_rSame (i := 6) (j := 9) (l := .b true) rfl rfl (lb (Fq.same_iff.2 e0)) ((ha.dot ha).mono (by decide)).p ((ha.dot ha).mono (by decide)).q ((hb.dot hb).mono (by decide)).p ((hb.dot hb).mono (by decide)).q) (il_cons (I_rSign (i := 6) rfl (lr (n := 51) rfl) ((ha.dot ha).mono (by decide))) (il_cons (I_rSign (i := 8) rfl (lr (n := 52) rfl) (((ha.dot ha).add (ha.dot hb)).mono (by decide))) (il_cons (I_rCross (ka := [0, 1, 2]) (a := a) (kb := [3, 4, 5]) (b := b) (kr := [10, 11, 12]) ⟨rfl, rfl, rfl, trivial⟩ ⟨rfl, rfl, rfl, trivial⟩ ⟨rfl, rfl, rfl, trivial⟩ (ha.mono (by decide)) (hb.mono (by decide))) (il_cons (I_rCanon (iu := 8) (kc := [10, 11, 12]) (c := (a.cross b)) (kr := [13, 14, 15, 16]) rfl ⟨rfl, rfl, rfl, trivial⟩ ⟨rfl, rfl, rfl, rfl, trivial⟩ (((ha.dot ha).add (ha.dot hb)).mono (by decide)) ((ha.cross hb).mono (by decide)) (turn_ne hw)) il_nil)))))))))
    (ol_cons (o_eql (n := 51) (c := 0) (t := 3) rfl (sgn_eq hn)) (ol_cons (o_eql (n := 52) (c := 0) (t := 3) rfl (sgn_eq hw)) (ol_nil))) (by kernel_rfl) Try.func20 (by kernel_rfl) ⟨(row_isL (xs := xrTurnX a b) (ks := [0, 1, 2]) (vs := [a.x, a.y, a.z]) ⟨rfl, rfl, rfl, trivial⟩).2 ia, ⟨(row_isL (xs := xrTurnX a b) (ks := [3, 4, 5]) (vs := [b.x, b.y, b.z]) ⟨rfl, rfl, rfl, trivial⟩).2 ib, trivial⟩⟩).mono ?_
  rintro e w' ⟨v, rfl, ⟨vs, rfl, h1⟩, h2⟩
  match vs, h1 with
  | [r, c], h1 =>
    obtain ⟨⟨cs, rfl, k1⟩, k2, _⟩ := h1
    have k2 : c = _ := k2
    subst k2
    exact ⟨_, rfl, (row_isL (xs := xrTurnX a b) (ks := [13, 14, 15, 16]) (vs := [(Qq.mk ((a.dot a).add (a.dot b)) (a.cross b).x (a.cross b).y (a.cross b).z).canon.w, (Qq.mk ((a.dot a).add (a.dot b)) (a.cross b).x (a.cross b).y (a.cross b).z).canon.x, (Qq.mk ((a.dot a).add (a.dot b)) (a.cross b).x (a.cross b).y (a.cross b).z).canon.y, (Qq.mk ((a.dot a).add (a.dot b)) (a.cross b).x (a.cross b).y (a.cross b).z).canon.z]) ⟨rfl, rfl, rfl, rfl, trivial⟩).1 ⟨_, rfl, k1⟩, h2⟩
theorem I_rTurn {xs : List Fq} {ys : Rho} {ka : List Nat} {kb : List Nat} {a : Vq} {b : Vq} {kr : List Nat} (aa : AtL xs ka [a.x, a.y, a.z]) (ab : AtL xs kb [b.x, b.y, b.z]) (ar : AtL xs kr [(a.turn b).w, (a.turn b).x, (a.turn b).y, (a.turn b).z]) (ha : a.ok 10000) (hb : b.ok 10000) (ga : a.good) (gb : b.good) (e0 : (a.dot a) = (b.dot b)) (hn : (a.dot a).p ≠ 0) (hw : ((a.dot a).add (a.dot b)).p ≠ 0) : OkI xs ys ⟨20, [row ka, row kb], .tup [row kr, .one (.i .i64 0)]⟩ :=
  ⟨enters Try.func20 rfl rfl, fun B w vs h => by
    match vs, h with
    | [va, vb], h =>
      refine (q_rTurn va vb a b w ((row_isL aa).1 h.1) ((row_isL ab).1 h.2.1) ha hb ga gb e0 hn hw).mono ?_
      rintro e w' ⟨v, rfl, h1, h2⟩
      exact ⟨_, rfl, ⟨[v, .int .i64 0], rfl, (row_isL ar).2 h1, rfl, trivial⟩, h2⟩⟩
def xrTurn1X (a : Vq) (b : Vq) : List Fq := [a.x, a.y, a.z, b.x, b.y, b.z, (a.dot a), (a.dot b), ((a.dot a).add (a.dot b)), (b.dot b)]
theorem q_rTurn1 (va vb : Value) (a : Vq) (b : Vq) (w : World) (ia : IsVq w va a) (ib : IsVq w vb b) (ha : a.ok 10000) (hb : b.ok 10000) (ga : a.good) (gb : b.good) (e0 : (a.dot a) ≠ (b.dot b)) :
    Calls Try.prog 20 #[va, vb] w fun e w' => RetQtE w Qq.zero 4 e w' := by
  refine (calls_runFn (ρ := frs (xrTurn1X a b) ++ []) (w := w) (fuel := 300) (args := [row [0, 1, 2], row [3, 4, 5]]) (vs := [va, vb]) (r := .tup [.agg [.b false, .sl0, .sl0, .b false, .sl0, .sl0, .b false, .sl0, .sl0, .b false, .sl0, .sl0], .one (.i .i64 4)])
    (il_cons (I_rDot (ka := [0, 1, 2]) (a := a) (kb := [0, 1, 2]) (b := a) (ir := 6) ⟨rfl, rfl, rfl, trivial⟩ ⟨rfl, rfl, rfl, trivial⟩ rfl (ha.mono (by decide)) (ha.mono (by decide))) (il_cons (I_rDot (ka := [0, 1, 2]) (a := a) (kb := [3, 4, 5]) (b := b) (ir := 7) ⟨rfl, rfl, rfl, trivial⟩ ⟨rfl, rfl, rfl, trivial⟩ rfl (ha.mono (by decide)) (hb.mono (by decide))) (il_cons (I_rAdd (i := 6) (j := 7) (k := 8) rfl rfl rfl ((ha.dot ha).mono (by decide)) ((ha.dot hb).mono (by decide))) (il_cons (I_rDot (ka := [3, 4, 5]) (a := b) (kb := [3, 4, 5]) (b := b) (ir := 9) ⟨rfl, rfl, rfl, trivial⟩ ⟨rfl, rfl, rfl, trivial⟩ rfl (hb.mono (by decide)) (hb.mono (by decide))) (il_cons (I_rSame (i := 6) (j := 9) (l := .b false) rfl rfl (lb (same_ne e0)) ((ha.dot ha).mono (by decide)).p ((ha.dot ha).mono (by decide)).q ((hb.dot hb).mono (by decide)).p ((hb.dot hb).mono (by decide)).q) il_nil)))))
    ol_nil (by kernel_rfl) Try.func20 (by kernel_rfl) ⟨(row_isL (xs := xrTurn1X a b) (ks := [0, 1, 2]) (vs := [a.x, a.y, a.z]) ⟨rfl, rfl, rfl, trivial⟩).2 ia, ⟨(row_isL (xs := xrTurn1X a b) (ks := [3, 4, 5]) (vs := [b.x, b.y, b.z]) ⟨rfl, rfl, rfl, trivial⟩).2 ib, trivial⟩⟩).mono ?_
  rintro e w' ⟨v, rfl, ⟨vs, rfl, h1⟩, h2⟩
  match vs, h1 with
  | [r, c], h1 =>
    obtain ⟨⟨cs, rfl, k1⟩, k2, _⟩ := h1
    have k2 : c = _ := k2
    subst k2
    exact ⟨_, rfl, ⟨_, rfl, zero_row (n := 4) k1⟩, h2⟩
theorem I_rTurn1 {xs : List Fq} {ys : Rho} {ka : List Nat} {kb : List Nat} {a : Vq} {b : Vq} {kr : List Nat} (aa : AtL xs ka [a.x, a.y, a.z]) (ab : AtL xs kb [b.x, b.y, b.z]) (ar : AtL xs kr [Qq.zero.w, Qq.zero.x, Qq.zero.y, Qq.zero.z]) (ha : a.ok 10000) (hb : b.ok 10000) (ga : a.good) (gb : b.good) (e0 : (a.dot a) ≠ (b.dot b)) : OkI xs ys ⟨20, [row ka, row kb], .tup [row kr, .one (.i .i64 4)]⟩ :=
  ⟨enters Try.func20 rfl rfl, fun B w vs h => by
    match vs, h with
    | [va, vb], h =>
      refine (q_rTurn1 va vb a b w ((row_isL aa).1 h.1) ((row_isL ab).1 h.2.1) ha hb ga gb e0).mono ?_
      rintro e w' ⟨v, rfl, h1, h2⟩
      exact ⟨_, rfl, ⟨[v, .int .i64 4], rfl, (row_isL ar).2 h1, rfl, trivial⟩, h2⟩⟩
def xrTurn2X (a : Vq) (b : Vq) : List Fq := [a.x, a.y, a.z, b.x, b.y, b.z, (a.dot a), (a.dot b), ((a.dot a).add (a.dot b)), (b.dot b)]
theorem q_rTurn2 (va vb : Value) (a : Vq) (b : Vq) (w : World) (ia : IsVq w va a) (ib : IsVq w vb b) (ha : a.ok 10000) (hb : b.ok 10000) (ga : a.good) (gb : b.good) (e0 : (a.dot a) = (b.dot b)) (hn : (a.dot a).p = 0) :
    Calls Try.prog 20 #[va, vb] w fun e w' => RetQtE w Qq.zero 4 e w' := by
  refine (calls_runFn (ρ := frs (xrTurn2X a b) ++ []) (w := w) (fuel := 300) (args := [row [0, 1, 2], row [3, 4, 5]]) (vs := [va, vb]) (r := .tup [.agg [.b false, .sl0, .sl0, .b false, .sl0, .sl0, .b false, .sl0, .sl0, .b false, .sl0, .sl0], .one (.i .i64 4)])
    (il_cons (I_rDot (ka := [0, 1, 2]) (a := a) (kb := [0, 1, 2]) (b := a) (ir := 6) ⟨rfl, rfl, rfl, trivial⟩ ⟨rfl, rfl, rfl, trivial⟩ rfl (ha.mono (by decide)) (ha.mono (by decide))) (il_cons (I_rDot (ka := [0, 1, 2]) (a := a) (kb := [3, 4, 5]) (b := b) (ir := 7) ⟨rfl, rfl, rfl, trivial⟩ ⟨rfl, rfl, rfl, trivial⟩ rfl (ha.mono (by decide)) (hb.mono (by decide))) (il_cons (I_rAdd (i := 6) (j := 7) (k := 8) rfl rfl rfl ((ha.dot ha).mono (by decide)) ((ha.dot hb).mono (by decide))) (il_cons (I_rDot (ka := [3, 4, 5]) (a := b) (kb := [3, 4, 5]) (b := b) (ir := 9) ⟨rfl, rfl, rfl, trivial⟩ ⟨rfl, rfl, rfl, trivial⟩ rfl (hb.mono (by decide)) (hb.mono (by decide))) (il_cons (I_rSame (i := 6) (j := 9) (l := .b true) rfl rfl (lb (Fq.same_iff.2 e0)) ((ha.dot ha).mono (by decide)).p ((ha.dot ha).mono (by decide)).q ((hb.dot hb).mono (by decide)).p ((hb.dot hb).mono (by decide)).q) (il_cons (I_rSign (i := 6) rfl (li (sgn0 hn)) ((ha.dot ha).mono (by decide))) il_nil))))))
    ol_nil (by kernel_rfl) Try.func20 (by kernel_rfl) ⟨(row_isL (xs := xrTurn2X a b) (ks := [0, 1, 2]) (vs := [a.x, a.y, a.z]) ⟨rfl, rfl, rfl, trivial⟩).2 ia, ⟨(row_isL (xs := xrTurn2X a b) (ks := [3, 4, 5]) (vs := [b.x, b.y, b.z]) ⟨rfl, rfl, rfl, trivial⟩).2 ib, trivial⟩⟩).mono ?_
  rintro e w' ⟨v, rfl, ⟨vs, rfl, h1⟩, h2⟩
  match vs, h1 with
  | [r, c], h1 =>
    obtain ⟨⟨cs, rfl, k1⟩, k2, _⟩ := h1
    have k2 : c = _ := k2
    subst k2
    exact ⟨_, rfl, ⟨_, rfl, zero_row (n := 4) k1⟩, h2⟩
theorem I_rTurn2 {xs : List Fq} {ys : Rho} {ka : List Nat} {kb : List Nat} {a : Vq} {b : Vq} {kr : List Nat} (aa : AtL xs ka [a.x, a.y, a.z]) (ab : AtL xs kb [b.x, b.y, b.z]) (ar : AtL xs kr [Qq.zero.w, Qq.zero.x, Qq.zero.y, Qq.zero.z]) (ha : a.ok 10000) (hb : b.ok 10000) (ga : a.good) (gb : b.good) (e0 : (a.dot a) = (b.dot b)) (hn : (a.dot a).p = 0) : OkI xs ys ⟨20, [row ka, row kb], .tup [row kr, .one (.i .i64 4)]⟩ :=
  ⟨enters Try.func20 rfl rfl, fun B w vs h => by
    match vs, h with
    | [va, vb], h =>
      refine (q_rTurn2 va vb a b w ((row_isL aa).1 h.1) ((row_isL ab).1 h.2.1) ha hb ga gb e0 hn).mono ?_
      rintro e w' ⟨v, rfl, h1, h2⟩
      exact ⟨_, rfl, ⟨[v, .int .i64 4], rfl, (row_isL ar).2 h1, rfl, trivial⟩, h2⟩⟩
def xrTurn3X (a : Vq) (b : Vq) : List Fq := [a.x, a.y, a.z, b.x, b.y, b.z, (a.dot a), (a.dot b), ((a.dot a).add (a.dot b)), (b.dot b)]
theorem q_rTurn3 (va vb : Value) (a : Vq) (b : Vq) (w : World) (ia : IsVq w va a) (ib : IsVq w vb b) (ha : a.ok 10000) (hb : b.ok 10000) (ga : a.good) (gb : b.good) (e0 : (a.dot a) = (b.dot b)) (hn : (a.dot a).p ≠ 0) (hw : ((a.dot a).add (a.dot b)).p = 0) :
    Calls Try.prog 20 #[va, vb] w fun e w' => RetQtE w Qq.zero 4 e w' := by
  refine (calls_runFn (ρ := frs (xrTurn3X a b) ++ [.val (.int .i64 (a.dot a).sgn)]) (w := w) (fuel := 300) (args := [row [0, 1, 2], row [3, 4, 5]]) (vs := [va, vb]) (r := .tup [.agg [.b false, .sl0, .sl0, .b false, .sl0, .sl0, .b false, .sl0, .sl0, .b false, .sl0, .sl0], .one (.i .i64 4)])
    (il_cons (I_rDot (ka := [0, 1, 2]) (a := a) (kb := [0, 1, 2]) (b := a) (ir := 6) ⟨rfl, rfl, rfl, trivial⟩ ⟨rfl, rfl, rfl, trivial⟩ rfl (ha.mono (by decide)) (ha.mono (by decide))) (il_cons (I_rDot (ka := [0, 1, 2]) (a := a) (kb := [3, 4, 5]) (b := b) (ir := 7) ⟨rfl, rfl, rfl, trivial⟩ ⟨rfl, rfl, rfl, trivial⟩ rfl (ha.mono (by decide)) (hb.mono (by decide))) (il_cons (I_rAdd (i := 6) (j := 7) (k := 8) rfl rfl rfl ((ha.dot ha).mono (by decide)) ((ha.dot hb).mono (by decide))) (il_cons (I_rDot (ka := [3, 4, 5]) (a := b) (kb := [3, 4, 5]) (b := b) (ir := 9) ⟨rfl, rfl, rfl, trivial⟩ ⟨rfl, rfl, rfl, trivial⟩ rfl (hb.mono (by decide)) (hb.mono (by decide))) (il_cons (I_rSame (i := 6) (j := 9) (l := .b true) rfl rfl (lb (Fq.same_iff.2 e0)) ((ha.dot ha).mono (by decide)).p ((ha.dot ha).mono (by decide)).q ((hb.dot hb).mono (by decide)).p ((hb.dot hb).mono (by decide)).q) (il_cons (I_rSign (i := 6) rfl (lr (n := 30) rfl) ((ha.dot ha).mono (by decide))) (il_cons (I_rSign (i := 8) rfl (li (sgn0 hw)) (((ha.dot ha).add (ha.dot hb)).mono (by decide))) il_nil)))))))
    (ol_cons (o_eql (n := 30) (c := 0) (t := 3) rfl (sgn_eq hn)) (ol_nil)) (by kernel_rfl) Try.func20 (by kernel_rfl) ⟨(row_isL (xs := xrTurn3X a b) (ks := [0, 1, 2]) (vs := [a.x, a.y, a.z]) ⟨rfl, rfl, rfl, trivial⟩).2 ia, ⟨(row_isL (xs := xrTurn3X a b) (ks := [3, 4, 5]) (vs := [b.x, b.y, b.z]) ⟨rfl, rfl, rfl, trivial⟩).2 ib, trivial⟩⟩).mono ?_
  rintro e w' ⟨v, rfl, ⟨vs, rfl, h1⟩, h2⟩
  match vs, h1 with
  | [r, c], h1 =>
    obtain ⟨⟨cs, rfl, k1⟩, k2, _⟩ := h1
    have k2 : c = _ := k2
    subst k2
    exact ⟨_, rfl, ⟨_, rfl, zero_row (n := 4) k1⟩, h2⟩
theorem I_rTurn3 {xs : List Fq} {ys : Rho} {ka : List Nat} {kb : List Nat} {a : Vq} {b : Vq} {kr : List Nat} (aa : AtL xs ka [a.x, a.y, a.z]) (ab : AtL xs kb [b.x, b.y, b.z]) (ar : AtL xs kr [Qq.zero.w, Qq.zero.x, Qq.zero.y, Qq.zero.z]) (ha : a.ok 10000) (hb : b.ok 10000) (ga : a.good) (gb : b.good) (e0 : (a.dot a) = (b.dot b)) (hn : (a.dot a).p ≠ 0) (hw : ((a.dot a).add (a.dot b)).p = 0) : OkI xs ys ⟨20, [row ka, row kb], .tup [row kr, .one (.i .i64 4)]⟩ :=
  ⟨enters Try.func20 rfl rfl, fun B w vs h => by
    match vs, h with
    | [va, vb], h =>
      refine (q_rTurn3 va vb a b w ((row_isL aa).1 h.1) ((row_isL ab).1 h.2.1) ha hb ga gb e0 hn hw).mono ?_
      rintro e w' ⟨v, rfl, h1, h2⟩
      exact ⟨_, rfl, ⟨[v, .int .i64 4], rfl, (row_isL ar).2 h1, rfl, trivial⟩, h2⟩⟩
end Go.Proofs.Ythefidbgjgfeiaa
namespace Go.Proofs.Ythefidbgjgfeiaa
set_option linter.unusedSimpArgs false
set_option linter.unusedVariables false
set_option maxRecDepth 100000
open Go.RowKit
def xfValidT1X (q : Qq) : List Fq := [q.w, q.x, q.y, q.z, (Fq.ofInt 1)]
def xfValidT11X (q : Qq) : List Fq := [q.w, q.x, q.y, q.z, (Fq.ofInt 1)]
def xfValidT12X (q : Qq) : List Fq := [q.w, q.x, q.y, q.z, (Fq.ofInt 1)]
def xfValidT13X (q : Qq) : List Fq := [q.w, q.x, q.y, q.z, (Fq.ofInt 1)]
theorem q_fValidT1 (vq : Value) (q : Qq) (w : World) (iq : IsQt w vq q) (hq : q.ok 1000000) (gq : q.good) :
    Calls Try.prog 11 #[vq] w fun e w' => RetV w (.bool true) e w' := by
  by_cases c0 : q.w.p = 0
  · by_cases c1 : q.x.p = 0
    · by_cases c2 : q.y.p = 0
      · by_cases c3 : q.z.p = 0
        · exact absurd (by simp [Qq.first, c0, c1, c2, c3]) (good_ne gq)
        · have e1 : q.first = q.z := by simp [Qq.first, c0, c1, c2, c3]
          refine (calls_runFn (ρ := frs (xfValidT1X q) ++ [.val (.int .i64 q.z.sgn)]) (w := w) (fuel := 300) (args := [row [0, 1, 2, 3]]) (vs := [vq]) (r := .v (.one (.b true)))
            (il_cons (I_parts (kq := [0, 1, 2, 3]) (q := q) (kr := [0, 1, 2, 3]) ⟨rfl, rfl, rfl, rfl, trivial⟩ ⟨rfl, rfl, rfl, rfl, trivial⟩ (hq.mono (by decide))) (il_cons (I_fValid (i := 0) (l := .b true) rfl (lb gq.comp.w) (hq.w.mono (by decide))) (il_cons (I_fValid (i := 1) (l := .b true) rfl (lb gq.comp.x) (hq.x.mono (by decide))) (il_cons (I_fValid (i := 2) (l := .b true) rfl (lb gq.comp.y) (hq.y.mono (by decide))) (il_cons (I_fValid (i := 3) (l := .b true) rfl (lb gq.comp.z) (hq.z.mono (by decide))) (il_cons (I_fSign (i := 0) rfl (li (sgn0 c0)) (hq.w.mono (by decide))) (il_cons (I_fSign (i := 1) rfl (li (sgn0 c1)) (hq.x.mono (by decide))) (il_cons (I_fSign (i := 2) rfl (li (sgn0 c2)) (hq.y.mono (by decide))) (il_cons (I_fSign (i := 3) rfl (lr (n := 15) rfl) (hq.z.mono (by decide))) (il_cons (I_fInt (k := 4) rfl (by decide) (by decide)) (il_cons (I_fCmp (i := 3) (j := 4) rfl rfl (li ((o_zero gq.comp.z (ofInt_valid 1)).2 (e1.symm.trans (good_first gq)))) (hq.z.mono (by decide)) ((ok_int (u := 1) (by decide) (by decide)).mono (by decide))) il_nil)))))))))))
            (ol_cons (o_neq (n := 15) (c := 0) (t := 3) rfl (sgn_nq c3)) (ol_nil)) (by kernel_rfl) Try.func11 (by kernel_rfl) ⟨(row_isL (xs := xfValidT1X q) (ks := [0, 1, 2, 3]) (vs := [q.w, q.x, q.y, q.z]) ⟨rfl, rfl, rfl, rfl, trivial⟩).2 iq, trivial⟩).mono ?_
          rintro e w' ⟨v, rfl, h1, h2⟩
          exact ⟨congrArg Ending.returned h1, h2⟩
      · have e1 : q.first = q.y := by simp [Qq.first, c0, c1, c2]
        refine (calls_runFn (ρ := frs (xfValidT11X q) ++ [.val (.int .i64 q.y.sgn)]) (w := w) (fuel := 300) (args := [row [0, 1, 2, 3]]) (vs := [vq]) (r := .v (.one (.b true)))
          (il_cons (I_parts (kq := [0, 1, 2, 3]) (q := q) (kr := [0, 1, 2, 3]) ⟨rfl, rfl, rfl, rfl, trivial⟩ ⟨rfl, rfl, rfl, rfl, trivial⟩ (hq.mono (by decide))) (il_cons (I_fValid (i := 0) (l := .b true) rfl (lb gq.comp.w) (hq.w.mono (by decide))) (il_cons (I_fValid (i := 1) (l := .b true) rfl (lb gq.comp.x) (hq.x.mono (by decide))) (il_cons (I_fValid (i := 2) (l := .b true) rfl (lb gq.comp.y) (hq.y.mono (by decide))) (il_cons (I_fValid (i := 3) (l := .b true) rfl (lb gq.comp.z) (hq.z.mono (by decide))) (il_cons (I_fSign (i := 0) rfl (li (sgn0 c0)) (hq.w.mono (by decide))) (il_cons (I_fSign (i := 1) rfl (li (sgn0 c1)) (hq.x.mono (by decide))) (il_cons (I_fSign (i := 2) rfl (lr (n := 15) rfl) (hq.y.mono (by decide))) (il_cons (I_fInt (k := 4) rfl (by decide) (by decide)) (il_cons (I_fCmp (i := 2) (j := 4) rfl rfl (li ((o_zero gq.comp.y (ofInt_valid 1)).2 (e1.symm.trans (good_first gq)))) (hq.y.mono (by decide)) ((ok_int (u := 1) (by decide) (by decide)).mono (by decide))) il_nil))))))))))
          (ol_cons (o_neq (n := 15) (c := 0) (t := 3) rfl (sgn_nq c2)) (ol_nil)) (by kernel_rfl) Try.func11 (by kernel_rfl) ⟨(row_isL (xs := xfValidT11X q) (ks := [0, 1, 2, 3]) (vs := [q.w, q.x, q.y, q.z]) ⟨rfl, rfl, rfl, rfl, trivial⟩).2 iq, trivial⟩).mono ?_
        rintro e w' ⟨v, rfl, h1, h2⟩
        exact ⟨congrArg Ending.returned h1, h2⟩
    · have e1 : q.first = q.x := by simp [Qq.first, c0, c1]
      refine (calls_runFn (ρ := frs (xfValidT12X q) ++ [.val (.int .i64 q.x.sgn)]) (w := w) (fuel := 300) (args := [row [0, 1, 2, 3]]) (vs := [vq]) (r := .v (.one (.b true)))
        (il_cons (I_parts (kq := [0, 1, 2, 3]) (q := q) (kr := [0, 1, 2, 3]) ⟨rfl, rfl, rfl, rfl, trivial⟩ ⟨rfl, rfl, rfl, rfl, trivial⟩ (hq.mono (by decide))) (il_cons (I_fValid (i := 0) (l := .b true) rfl (lb gq.comp.w) (hq.w.mono (by decide))) (il_cons (I_fValid (i := 1) (l := .b true) rfl (lb gq.comp.x) (hq.x.mono (by decide))) (il_cons (I_fValid (i := 2) (l := .b true) rfl (lb gq.comp.y) (hq.y.mono (by decide))) (il_cons (I_fValid (i := 3) (l := .b true) rfl (lb gq.comp.z) (hq.z.mono (by decide))) (il_cons (I_fSign (i := 0) rfl (li (sgn0 c0)) (hq.w.mono (by decide))) (il_cons (I_fSign (i := 1) rfl (lr (n := 15) rfl) (hq.x.mono (by decide))) (il_cons (I_fInt (k := 4) rfl (by decide) (by decide)) (il_cons (I_fCmp (i := 1) (j := 4) rfl rfl (li ((o_zero gq.comp.x (ofInt_valid 1)).2 (e1.symm.trans (good_first gq)))) (hq.x.mono (by decide)) ((ok_int (u := 1) (by decide) (by decide)).mono (by decide))) il_nil)))))))))
        (ol_cons (o_neq (n := 15) (c := 0) (t := 3) rfl (sgn_nq c1)) (ol_nil)) (by kernel_rfl) Try.func11 (by kernel_rfl) ⟨(row_isL (xs := xfValidT12X q) (ks := [0, 1, 2, 3]) (vs := [q.w, q.x, q.y, q.z]) ⟨rfl, rfl, rfl, rfl, trivial⟩).2 iq, trivial⟩).mono ?_
      rintro e w' ⟨v, rfl, h1, h2⟩
      exact ⟨congrArg Ending.returned h1, h2⟩
  · have e1 : q.first = q.w := by simp [Qq.first, c0]
    refine (calls_runFn (ρ := frs (xfValidT13X q) ++ [.val (.int .i64 q.w.sgn)]) (w := w) (fuel := 300) (args := [row [0, 1, 2, 3]]) (vs := [vq]) (r := .v (.one (.b true)))
      (il_cons (I_parts (kq := [0, 1, 2, 3]) (q := q) (kr := [0, 1, 2, 3]) ⟨rfl, rfl, rfl, rfl, trivial⟩ ⟨rfl, rfl, rfl, rfl, trivial⟩ (hq.mono (by decide))) (il_cons (I_fValid (i := 0) (l := .b true) rfl (lb gq.comp.w) (hq.w.mono (by decide))) (il_cons (I_fValid (i := 1) (l := .b true) rfl (lb gq.comp.x) (hq.x.mono (by decide))) (il_cons (I_fValid (i := 2) (l := .b true) rfl (lb gq.comp.y) (hq.y.mono (by decide))) (il_cons (I_fValid (i := 3) (l := .b true) rfl (lb gq.comp.z) (hq.z.mono (by decide))) (il_cons (I_fSign (i := 0) rfl (lr (n := 15) rfl) (hq.w.mono (by decide))) (il_cons (I_fInt (k := 4) rfl (by decide) (by decide)) (il_cons (I_fCmp (i := 0) (j := 4) rfl rfl (li ((o_zero gq.comp.w (ofInt_valid 1)).2 (e1.symm.trans (good_first gq)))) (hq.w.mono (by decide)) ((ok_int (u := 1) (by decide) (by decide)).mono (by decide))) il_nil))))))))
      (ol_cons (o_neq (n := 15) (c := 0) (t := 3) rfl (sgn_nq c0)) (ol_nil)) (by kernel_rfl) Try.func11 (by kernel_rfl) ⟨(row_isL (xs := xfValidT13X q) (ks := [0, 1, 2, 3]) (vs := [q.w, q.x, q.y, q.z]) ⟨rfl, rfl, rfl, rfl, trivial⟩).2 iq, trivial⟩).mono ?_
    rintro e w' ⟨v, rfl, h1, h2⟩
    exact ⟨congrArg Ending.returned h1, h2⟩
theorem I_fValidT1 {xs : List Fq} {ys : Rho} {kq : List Nat} {q : Qq}  (aq : AtL xs kq [q.w, q.x, q.y, q.z])  (hq : q.ok 1000000) (gq : q.good) : OkI xs ys ⟨11, [row kq], .v (.one (.b true))⟩ :=
  ⟨enters Try.func11 rfl rfl, fun B w vs h => by
    match vs, h with
    | [vq], h =>
      refine (q_fValidT1 vq q w ((row_isL aq).1 h.1) hq gq).mono ?_
      rintro e w' ⟨rfl, h2⟩
      exact ⟨_, rfl, rfl, h2⟩⟩
end Go.Proofs.Ythefidbgjgfeiaa
namespace Go.Proofs.Ythefidbgjgfeiaa
set_option linter.unusedSimpArgs false
set_option linter.unusedVariables false
set_option maxRecDepth 100000
open Go.RowKit
/-- A fraction of two small numbers. -/
def Fq.part (a b : Int) : Fq := Fq.ratio (a.tmod 40) (if b.tmod 20 = 0 then 1 else b.tmod 20)
def Qq.orId (q : Qq) : Qq := if q.first.p = 0 then .id else q.canon
theorem tm_abs (a c : Int) : (a.tmod c).natAbs ≤ a.natAbs := by rw [Int.natAbs_tmod]; exact Nat.mod_le _ _
theorem tm_lo {a c : Int} (l : -128 ≤ a) (r : a ≤ 127) : -128 ≤ a.tmod c := by have := tm_abs a c; omega
theorem tm_hi {a c : Int} (l : -128 ≤ a) (r : a ≤ 127) : a.tmod c ≤ 128 := by have := tm_abs a c; omega
theorem tm_lo6 {a c : Int} (l : -128 ≤ a) (r : a ≤ 127) : -9223372036854775808 ≤ a.tmod c := by have := tm_abs a c; omega
theorem tm_hi6 {a c : Int} (l : -128 ≤ a) (r : a ≤ 127) : a.tmod c < 9223372036854775808 := by have := tm_abs a c; omega
theorem flat_i8 {u : Int} : Flat (.int .i8 u) := ⟨fun _ h => by (cases h), fun _ h => by (cases h), fun _ h => by (cases h)⟩
def AtI (ρ : Rho) : List Nat → List Int → Prop
  | [], [] => True
  | n :: ns, z :: zs => ρ[n]? = some (.val (.int .i8 z)) ∧ AtI ρ ns zs
  | _, _ => False
def intsSV (ns : List Nat) : SV := .agg (ns.map .ref)
section
variable {ρ : Rho} {xs : List Fq} {ys : Rho} {n m k : Nat} {u c v : Int} {l l1 l2 : Leaf} {t s d : TypeId}
theorem eq_eql (h : u = c) : (u == c) = true := by simpa using h
theorem lr8 (hn : ρ[n]? = some (.val (.int .i8 u))) : ∀ B w, (Leaf.ref n).holds ρ B w (.int .i8 u) := fun _ _ => ⟨_, hn, rfl, flat_i8⟩
theorem ints_leaves {B : Blk} {w : World} : ∀ {ns : List Nat} {zs : List Int} {cs : List Value}, AtI ρ ns zs → (LeavesH ρ B w (ns.map .ref) cs ↔ cs = zs.map (Value.int .i8))
  | [], [], cs, _ => by
    constructor
    · intro h; match cs, h with | [], _ => rfl
    · rintro rfl; trivial
  | n :: ns, z :: zs, cs, h => by
    have ih := fun cs => ints_leaves (B := B) (w := w) (cs := cs) h.2
    constructor
    · intro hl
      match cs, hl with
      | c :: cs, hl =>
        obtain ⟨⟨s, h1, h2⟩, h3⟩ := hl
        rw [h.1] at h1; injection h1 with h1; subst h1
        rw [h2.1, (ih cs).1 h3]; rfl
      | [], hl => exact hl.elim
    · rintro rfl
      exact ⟨lr8 h.1 _ _, (ih _).2 rfl⟩
  | [], _ :: _, _, h => h.elim
  | _ :: _, [], _, h => h.elim
theorem ints_holds {B : Blk} {w : World} {x : Value} {ns : List Nat} {zs : List Int} (h : AtI ρ ns zs) : (intsSV ns).holds ρ B w x ↔ x = .agg (zs.map (Value.int .i8)).toArray := by
  constructor
  · rintro ⟨cs, rfl, h1⟩; rw [(ints_leaves h).1 h1]
  · rintro rfl; exact ⟨_, rfl, (ints_leaves h).2 rfl⟩
theorem o_rem (hn : ρ[n]? = some (.val (.int .i8 u))) (hm : ρ[m]? = some (.val (.int .i8 (u.tmod c)))) (l : -128 ≤ u) (r : u ≤ 127) (h0 : 0 < c) (h1 : c < 100) : (OIns.mk (.bin .rem t) [.one (.ref n), .one (.i .i8 c)] (.one (.ref m))).Ok Try.prog ρ := fun B w vs hv => by
  match vs, hv with
  | [v1, v2], hv =>
    obtain ⟨⟨s, g1, g2⟩, g3, _⟩ := hv
    rw [hn] at g1; injection g1 with g1; subst g1
    obtain ⟨rfl, _⟩ := g2
    have e : v2 = .int .i8 c := g3
    subst e
    refine ⟨.int .i8 (u.tmod c), lr8 hm B w, fun xo yo => ?_⟩
    have hc : c ≠ 0 := by omega
    simp [eqGuard, binOp, Op.intDiv, Sem.run_bind, Result.andThen, hc]
theorem o_conv (hs : (match Try.prog.underlying s with | some (.int .i8) => true | _ => false) = true) (hd : (match Try.prog.underlying d with | some (.int .i64) => true | _ => false) = true) (hn : ρ[n]? = some (.val (.int .i8 u))) (hm : ρ[m]? = some (.val (.int .i64 u))) (l : -128 ≤ u) (r : u ≤ 128) : (OIns.mk (.conv s d) [.one (.ref n)] (.one (.ref m))).Ok Try.prog ρ := fun B w vs hv => by
  match vs, hv with
  | [v1], hv =>
    obtain ⟨⟨z, g1, g2⟩, _⟩ := hv
    rw [hn] at g1; injection g1 with g1; subst g1
    obtain ⟨rfl, _⟩ := g2
    refine ⟨.int .i64 u, lr hm B w, ?_⟩
    have es : Try.prog.underlying s = some (.int .i8) := by
      split at hs
      · assumption
      · cases hs
    have ed : Try.prog.underlying d = some (.int .i64) := by
      split at hd
      · assumption
      · cases hd
    have hw : IntKind.i64.wrap u = u := Go.IntWalk.i64_in _ ⟨by omega, by omega⟩
    unfold convert
    rw [Sem.run_bind, run_underlying es]
    simp only [Result.andThen]
    rw [Sem.run_bind, run_underlying ed]
    simp [Result.andThen, Conv.intToInt, hw]
theorem lv_i (h : c = u) : ∀ B w x, (Leaf.i .i64 c).holds ρ B w x → x = .int .i64 u := fun _ _ x hx => by subst h; exact hx
theorem lv_r (hn : ρ[n]? = some (.val (.int .i64 u))) : ∀ B w x, (Leaf.ref n).holds ρ B w x → x = .int .i64 u := fun _ _ x ⟨s, h1, h2⟩ => by
  rw [hn] at h1; injection h1 with h1; subst h1; exact h2.1
theorem I_rRatio (h1 : ∀ B w x, l1.holds (frs xs ++ ys) B w x → x = .int .i64 v) (h2 : ∀ B w x, l2.holds (frs xs ++ ys) B w x → x = .int .i64 u) (lv : -9223372036854775808 ≤ v) (rv : v < 9223372036854775808) (lu : -9223372036854775808 ≤ u) (ru : u < 9223372036854775808) (h0 : u ≠ 0) (hk : xs[k]? = some (.ratio v u)) : OkI xs ys ⟨37, [.one l1, .one l2], .tup [fr k, .one (.i .i64 0)]⟩ :=
  ⟨enters Try.func37 rfl rfl, fun B w vs h => by
    match vs, h with
    | [va, vb], h =>
      have e1 := h1 B w va h.1
      have e2 := h2 B w vb h.2.1
      subst e1; subst e2
      refine (q_rRatio v u w lv rv lu ru h0).mono ?_
      rintro e w' ⟨v, rfl, h1, h2⟩
      exact ⟨_, rfl, ⟨[v, .int .i64 0], rfl, (fr_isQ hk).2 h1, rfl, trivial⟩, h2⟩⟩
end
theorem part_ok {a b : Int} (la : -128 ≤ a) (ra : a ≤ 127) (lb_ : -128 ≤ b) (rb : b ≤ 127) : (Fq.part a b).ok 2 := by
  unfold Fq.part
  split
  · exact Fq.ok_low (nl_abs (tm_lo6 la ra) (tm_hi6 la ra)) (nl_le_iff.2 (by show (1 : Nat) < 4294967296 ^ 2; decide)) (by decide)
  · rename_i h
    exact Fq.ok_low (nl_abs (tm_lo6 la ra) (tm_hi6 la ra)) (nl_abs (tm_lo6 lb_ rb) (tm_hi6 lb_ rb)) (by omega)
theorem part_valid (a b : Int) : (Fq.part a b).valid = true := by
  unfold Fq.part
  split
  · exact low_valid (by decide)
  · rename_i h
    exact low_valid (by omega)
def xFrac1X (a b : Int) : List Fq := [(Fq.ratio (a.tmod 40) 1)]
def xFrac0X (a b : Int) : List Fq := [(Fq.ratio (a.tmod 40) (b.tmod 20))]
theorem q_Frac (a b : Int) (w : World) (la : -128 ≤ a) (ra : a ≤ 127) (lb_ : -128 ≤ b) (rb : b ≤ 127) : Calls Try.prog 9 #[.agg #[.int .i8 a, .int .i8 b]] w fun e w' => RetQ w (Fq.part a b) e w' := by
  by_cases h0 : b.tmod 20 = 0
  · rw [show Fq.part a b = (Fq.ratio (a.tmod 40) 1) by simp [Fq.part, h0]]
    refine (calls_runFn (ρ := frs (xFrac1X a b) ++ [.val (.int .i8 a), .val (.int .i8 b), .val (.int .i8 (b.tmod 20)), .val (.int .i64 (b.tmod 20)), .val (.int .i8 (a.tmod 40)), .val (.int .i64 (a.tmod 40))]) (w := w) (fuel := 300) (args := [.agg [.ref 3, .ref 4]]) (vs := [.agg #[.int .i8 a, .int .i8 b]]) (r := .v (fr 0))
      (il_cons (I_rRatio (k := 0) (lv_r (n := 8) rfl) (lv_i rfl) (tm_lo6 la ra) (tm_hi6 la ra) (by decide) (by decide) (by decide) rfl) il_nil)
      (ol_cons (o_rem (n := 4) (m := 5) (c := 20) (t := 22) rfl rfl lb_ rb (by decide) (by decide)) (ol_cons (o_conv (n := 5) (m := 6) (s := 22) (d := 2) (by kernel_rfl) (by kernel_rfl) rfl rfl (tm_lo lb_ rb) (tm_hi lb_ rb)) (ol_cons (o_eql (n := 6) (c := 0) (t := 2) rfl (eq_eql h0)) (ol_cons (o_rem (n := 3) (m := 7) (c := 40) (t := 22) rfl rfl la ra (by decide) (by decide)) (ol_cons (o_conv (n := 7) (m := 8) (s := 22) (d := 2) (by kernel_rfl) (by kernel_rfl) rfl rfl (tm_lo la ra) (tm_hi la ra)) (ol_nil)))))) (by kernel_rfl) Try.func9 (by kernel_rfl) ⟨⟨[_, _], rfl, lr8 rfl _ _, lr8 rfl _ _, trivial⟩, trivial⟩).mono ?_
    rintro e w' ⟨v, rfl, h1, h2⟩
    exact ⟨v, rfl, (fr_isQ (xs := xFrac1X a b) (k := 0) rfl).1 h1, h2⟩
  · rw [show Fq.part a b = (Fq.ratio (a.tmod 40) (b.tmod 20)) by simp [Fq.part, h0]]
    refine (calls_runFn (ρ := frs (xFrac0X a b) ++ [.val (.int .i8 a), .val (.int .i8 b), .val (.int .i8 (b.tmod 20)), .val (.int .i64 (b.tmod 20)), .val (.int .i8 (a.tmod 40)), .val (.int .i64 (a.tmod 40))]) (w := w) (fuel := 300) (args := [.agg [.ref 3, .ref 4]]) (vs := [.agg #[.int .i8 a, .int .i8 b]]) (r := .v (fr 0))
      (il_cons (I_rRatio (k := 0) (lv_r (n := 8) rfl) (lv_r (n := 6) rfl) (tm_lo6 la ra) (tm_hi6 la ra) (tm_lo6 lb_ rb) (tm_hi6 lb_ rb) h0 rfl) il_nil)
      (ol_cons (o_rem (n := 4) (m := 5) (c := 20) (t := 22) rfl rfl lb_ rb (by decide) (by decide)) (ol_cons (o_conv (n := 5) (m := 6) (s := 22) (d := 2) (by kernel_rfl) (by kernel_rfl) rfl rfl (tm_lo lb_ rb) (tm_hi lb_ rb)) (ol_cons (o_eql (n := 6) (c := 0) (t := 2) rfl (ne_eql h0)) (ol_cons (o_rem (n := 3) (m := 7) (c := 40) (t := 22) rfl rfl la ra (by decide) (by decide)) (ol_cons (o_conv (n := 7) (m := 8) (s := 22) (d := 2) (by kernel_rfl) (by kernel_rfl) rfl rfl (tm_lo la ra) (tm_hi la ra)) (ol_nil)))))) (by kernel_rfl) Try.func9 (by kernel_rfl) ⟨⟨[_, _], rfl, lr8 rfl _ _, lr8 rfl _ _, trivial⟩, trivial⟩).mono ?_
    rintro e w' ⟨v, rfl, h1, h2⟩
    exact ⟨v, rfl, (fr_isQ (xs := xFrac0X a b) (k := 0) rfl).1 h1, h2⟩
theorem I_Frac {xs : List Fq} {ys : Rho} {n m k : Nat} {a b : Int} {x : Fq} (hn : (frs xs ++ ys)[n]? = some (.val (.int .i8 a))) (hm : (frs xs ++ ys)[m]? = some (.val (.int .i8 b))) (hk : xs[k]? = some x) (e : Fq.part a b = x) (la : -128 ≤ a) (ra : a ≤ 127) (lb_ : -128 ≤ b) (rb : b ≤ 127) : OkI xs ys ⟨9, [.agg [.ref n, .ref m]], .v (fr k)⟩ :=
  ⟨enters Try.func9 rfl rfl, fun B w vs h => by
    match vs, h with
    | [va], h =>
      have e1 := (ints_holds (ns := [n, m]) (zs := [a, b]) ⟨hn, hm, trivial⟩).1 h.1
      subst e1; subst e
      refine (q_Frac a b w la ra lb_ rb).mono ?_
      rintro e w' ⟨v, rfl, h1, h2⟩
      exact ⟨v, rfl, (fr_isQ hk).2 h1, h2⟩⟩
def xVecX (a0 b0 a1 b1 a2 b2 : Int) : List Fq := [(Fq.part a0 b0), (Fq.part a1 b1), (Fq.part a2 b2)]
theorem q_Vec (a0 b0 a1 b1 a2 b2 : Int) (w : World) (la0 : -128 ≤ a0) (ra0 : a0 ≤ 127) (lb0 : -128 ≤ b0) (rb0 : b0 ≤ 127) (la1 : -128 ≤ a1) (ra1 : a1 ≤ 127) (lb1 : -128 ≤ b1) (rb1 : b1 ≤ 127) (la2 : -128 ≤ a2) (ra2 : a2 ≤ 127) (lb2 : -128 ≤ b2) (rb2 : b2 ≤ 127) : Calls Try.prog 18 #[.agg #[.int .i8 a0, .int .i8 b0, .int .i8 a1, .int .i8 b1, .int .i8 a2, .int .i8 b2]] w fun e w' => RetVq w (Vq.mk (Fq.part a0 b0) (Fq.part a1 b1) (Fq.part a2 b2)) e w' := by
  refine (calls_runFn (ρ := frs (xVecX a0 b0 a1 b1 a2 b2) ++ [.val (.int .i8 a0), .val (.int .i8 b0), .val (.int .i8 a1), .val (.int .i8 b1), .val (.int .i8 a2), .val (.int .i8 b2)]) (w := w) (fuel := 300) (args := [.agg [.ref 9, .ref 10, .ref 11, .ref 12, .ref 13, .ref 14]]) (vs := [.agg #[.int .i8 a0, .int .i8 b0, .int .i8 a1, .int .i8 b1, .int .i8 a2, .int .i8 b2]]) (r := .v (row [0, 1, 2]))
    (il_cons (I_Frac (n := 9) (m := 10) (k := 0) rfl rfl rfl rfl la0 ra0 lb0 rb0) (il_cons (I_Frac (n := 11) (m := 12) (k := 1) rfl rfl rfl rfl la1 ra1 lb1 rb1) (il_cons (I_Frac (n := 13) (m := 14) (k := 2) rfl rfl rfl rfl la2 ra2 lb2 rb2) il_nil)))
    ol_nil (by kernel_rfl) Try.func18 (by kernel_rfl) ⟨⟨[_, _, _, _, _, _], rfl, lr8 rfl _ _, lr8 rfl _ _, lr8 rfl _ _, lr8 rfl _ _, lr8 rfl _ _, lr8 rfl _ _, trivial⟩, trivial⟩).mono ?_
  rintro e w' ⟨v, rfl, h1, h2⟩
  exact ⟨v, rfl, (row_isL (xs := xVecX a0 b0 a1 b1 a2 b2) (ks := [0, 1, 2]) (vs := [(Fq.part a0 b0), (Fq.part a1 b1), (Fq.part a2 b2)]) ⟨rfl, rfl, rfl, trivial⟩).1 h1, h2⟩
theorem I_Vec {xs : List Fq} {ys : Rho} {ns kr : List Nat} {a0 b0 a1 b1 a2 b2 : Int} {E : Vq} (hn : AtI (frs xs ++ ys) ns [a0, b0, a1, b1, a2, b2]) (ar : AtL xs kr [E.x, E.y, E.z]) (e : (Vq.mk (Fq.part a0 b0) (Fq.part a1 b1) (Fq.part a2 b2)) = E) (la0 : -128 ≤ a0) (ra0 : a0 ≤ 127) (lb0 : -128 ≤ b0) (rb0 : b0 ≤ 127) (la1 : -128 ≤ a1) (ra1 : a1 ≤ 127) (lb1 : -128 ≤ b1) (rb1 : b1 ≤ 127) (la2 : -128 ≤ a2) (ra2 : a2 ≤ 127) (lb2 : -128 ≤ b2) (rb2 : b2 ≤ 127) : OkI xs ys ⟨18, [intsSV ns], .v (row kr)⟩ :=
  ⟨enters Try.func18 rfl rfl, fun B w vs h => by
    match vs, h with
    | [va], h =>
      have e1 := (ints_holds hn).1 h.1
      subst e1; subst e
      refine (q_Vec a0 b0 a1 b1 a2 b2 w la0 ra0 lb0 rb0 la1 ra1 lb1 rb1 la2 ra2 lb2 rb2).mono ?_
      rintro e w' ⟨v, rfl, h1, h2⟩
      exact ⟨v, rfl, (row_isL ar).2 h1, h2⟩⟩
def xQuat0X (a0 b0 a1 b1 a2 b2 a3 b3 : Int) : List Fq := [(Fq.part a0 b0), (Fq.part a1 b1), (Fq.part a2 b2), (Fq.part a3 b3), Qq.zero.w, Qq.zero.x, Qq.zero.y, Qq.zero.z, Qq.id.w, Qq.id.x, Qq.id.y, Qq.id.z]
def xQuat1X (a0 b0 a1 b1 a2 b2 a3 b3 : Int) : List Fq := [(Fq.part a0 b0), (Fq.part a1 b1), (Fq.part a2 b2), (Fq.part a3 b3), (Qq.mk (Fq.part a0 b0) (Fq.part a1 b1) (Fq.part a2 b2) (Fq.part a3 b3)).canon.w, (Qq.mk (Fq.part a0 b0) (Fq.part a1 b1) (Fq.part a2 b2) (Fq.part a3 b3)).canon.x, (Qq.mk (Fq.part a0 b0) (Fq.part a1 b1) (Fq.part a2 b2) (Fq.part a3 b3)).canon.y, (Qq.mk (Fq.part a0 b0) (Fq.part a1 b1) (Fq.part a2 b2) (Fq.part a3 b3)).canon.z]
theorem q_Quat (a0 b0 a1 b1 a2 b2 a3 b3 : Int) (w : World) (la0 : -128 ≤ a0) (ra0 : a0 ≤ 127) (lb0 : -128 ≤ b0) (rb0 : b0 ≤ 127) (la1 : -128 ≤ a1) (ra1 : a1 ≤ 127) (lb1 : -128 ≤ b1) (rb1 : b1 ≤ 127) (la2 : -128 ≤ a2) (ra2 : a2 ≤ 127) (lb2 : -128 ≤ b2) (rb2 : b2 ≤ 127) (la3 : -128 ≤ a3) (ra3 : a3 ≤ 127) (lb3 : -128 ≤ b3) (rb3 : b3 ≤ 127) : Calls Try.prog 15 #[.agg #[.int .i8 a0, .int .i8 b0, .int .i8 a1, .int .i8 b1, .int .i8 a2, .int .i8 b2, .int .i8 a3, .int .i8 b3]] w fun e w' => RetQt w (Qq.orId (Qq.mk (Fq.part a0 b0) (Fq.part a1 b1) (Fq.part a2 b2) (Fq.part a3 b3))) e w' := by
  by_cases h0 : (Qq.mk (Fq.part a0 b0) (Fq.part a1 b1) (Fq.part a2 b2) (Fq.part a3 b3)).first.p = 0
  · rw [show Qq.orId (Qq.mk (Fq.part a0 b0) (Fq.part a1 b1) (Fq.part a2 b2) (Fq.part a3 b3)) = Qq.id by unfold Qq.orId; rw [if_pos h0]]
    refine (calls_runFn (ρ := frs (xQuat0X a0 b0 a1 b1 a2 b2 a3 b3) ++ [.val (.int .i8 a0), .val (.int .i8 b0), .val (.int .i8 a1), .val (.int .i8 b1), .val (.int .i8 a2), .val (.int .i8 b2), .val (.int .i8 a3), .val (.int .i8 b3)]) (w := w) (fuel := 300) (args := [.agg [.ref 36, .ref 37, .ref 38, .ref 39, .ref 40, .ref 41, .ref 42, .ref 43]]) (vs := [.agg #[.int .i8 a0, .int .i8 b0, .int .i8 a1, .int .i8 b1, .int .i8 a2, .int .i8 b2, .int .i8 a3, .int .i8 b3]]) (r := .v (row [8, 9, 10, 11]))
      (il_cons (I_Frac (n := 36) (m := 37) (k := 0) rfl rfl rfl rfl la0 ra0 lb0 rb0) (il_cons (I_Frac (n := 38) (m := 39) (k := 1) rfl rfl rfl rfl la1 ra1 lb1 rb1) (il_cons (I_Frac (n := 40) (m := 41) (k := 2) rfl rfl rfl rfl la2 ra2 lb2 rb2) (il_cons (I_Frac (n := 42) (m := 43) (k := 3) rfl rfl rfl rfl la3 ra3 lb3 rb3) (il_cons (I_rMakeT0 (ip0 := 0) (ip1 := 1) (ip2 := 2) (ip3 := 3) (kr := [4, 5, 6, 7]) rfl rfl rfl rfl ⟨rfl, rfl, rfl, rfl, trivial⟩ ((part_ok la0 ra0 lb0 rb0).mono (by decide)) ((part_ok la1 ra1 lb1 rb1).mono (by decide)) ((part_ok la2 ra2 lb2 rb2).mono (by decide)) ((part_ok la3 ra3 lb3 rb3).mono (by decide)) h0) (il_cons (I_rId (kr := [8, 9, 10, 11]) ⟨rfl, rfl, rfl, rfl, trivial⟩) il_nil))))))
      ol_nil (by kernel_rfl) Try.func15 (by kernel_rfl) ⟨⟨[_, _, _, _, _, _, _, _], rfl, lr8 rfl _ _, lr8 rfl _ _, lr8 rfl _ _, lr8 rfl _ _, lr8 rfl _ _, lr8 rfl _ _, lr8 rfl _ _, lr8 rfl _ _, trivial⟩, trivial⟩).mono ?_
    rintro e w' ⟨v, rfl, h1, h2⟩
    exact ⟨v, rfl, (row_isL (xs := xQuat0X a0 b0 a1 b1 a2 b2 a3 b3) (ks := [8, 9, 10, 11]) (vs := [Qq.id.w, Qq.id.x, Qq.id.y, Qq.id.z]) ⟨rfl, rfl, rfl, rfl, trivial⟩).1 h1, h2⟩
  · rw [show Qq.orId (Qq.mk (Fq.part a0 b0) (Fq.part a1 b1) (Fq.part a2 b2) (Fq.part a3 b3)) = (Qq.mk (Fq.part a0 b0) (Fq.part a1 b1) (Fq.part a2 b2) (Fq.part a3 b3)).canon by unfold Qq.orId; rw [if_neg h0]]
    refine (calls_runFn (ρ := frs (xQuat1X a0 b0 a1 b1 a2 b2 a3 b3) ++ [.val (.int .i8 a0), .val (.int .i8 b0), .val (.int .i8 a1), .val (.int .i8 b1), .val (.int .i8 a2), .val (.int .i8 b2), .val (.int .i8 a3), .val (.int .i8 b3)]) (w := w) (fuel := 300) (args := [.agg [.ref 24, .ref 25, .ref 26, .ref 27, .ref 28, .ref 29, .ref 30, .ref 31]]) (vs := [.agg #[.int .i8 a0, .int .i8 b0, .int .i8 a1, .int .i8 b1, .int .i8 a2, .int .i8 b2, .int .i8 a3, .int .i8 b3]]) (r := .v (row [4, 5, 6, 7]))
      (il_cons (I_Frac (n := 24) (m := 25) (k := 0) rfl rfl rfl rfl la0 ra0 lb0 rb0) (il_cons (I_Frac (n := 26) (m := 27) (k := 1) rfl rfl rfl rfl la1 ra1 lb1 rb1) (il_cons (I_Frac (n := 28) (m := 29) (k := 2) rfl rfl rfl rfl la2 ra2 lb2 rb2) (il_cons (I_Frac (n := 30) (m := 31) (k := 3) rfl rfl rfl rfl la3 ra3 lb3 rb3) (il_cons (I_rMakeT (ip0 := 0) (ip1 := 1) (ip2 := 2) (ip3 := 3) (kr := [4, 5, 6, 7]) rfl rfl rfl rfl ⟨rfl, rfl, rfl, rfl, trivial⟩ ((part_ok la0 ra0 lb0 rb0).mono (by decide)) ((part_ok la1 ra1 lb1 rb1).mono (by decide)) ((part_ok la2 ra2 lb2 rb2).mono (by decide)) ((part_ok la3 ra3 lb3 rb3).mono (by decide)) h0) il_nil)))))
      ol_nil (by kernel_rfl) Try.func15 (by kernel_rfl) ⟨⟨[_, _, _, _, _, _, _, _], rfl, lr8 rfl _ _, lr8 rfl _ _, lr8 rfl _ _, lr8 rfl _ _, lr8 rfl _ _, lr8 rfl _ _, lr8 rfl _ _, lr8 rfl _ _, trivial⟩, trivial⟩).mono ?_
    rintro e w' ⟨v, rfl, h1, h2⟩
    exact ⟨v, rfl, (row_isL (xs := xQuat1X a0 b0 a1 b1 a2 b2 a3 b3) (ks := [4, 5, 6, 7]) (vs := [(Qq.mk (Fq.part a0 b0) (Fq.part a1 b1) (Fq.part a2 b2) (Fq.part a3 b3)).canon.w, (Qq.mk (Fq.part a0 b0) (Fq.part a1 b1) (Fq.part a2 b2) (Fq.part a3 b3)).canon.x, (Qq.mk (Fq.part a0 b0) (Fq.part a1 b1) (Fq.part a2 b2) (Fq.part a3 b3)).canon.y, (Qq.mk (Fq.part a0 b0) (Fq.part a1 b1) (Fq.part a2 b2) (Fq.part a3 b3)).canon.z]) ⟨rfl, rfl, rfl, rfl, trivial⟩).1 h1, h2⟩
theorem I_Quat {xs : List Fq} {ys : Rho} {ns kr : List Nat} {a0 b0 a1 b1 a2 b2 a3 b3 : Int} {E : Qq} (hn : AtI (frs xs ++ ys) ns [a0, b0, a1, b1, a2, b2, a3, b3]) (ar : AtL xs kr [E.w, E.x, E.y, E.z]) (e : (Qq.orId (Qq.mk (Fq.part a0 b0) (Fq.part a1 b1) (Fq.part a2 b2) (Fq.part a3 b3))) = E) (la0 : -128 ≤ a0) (ra0 : a0 ≤ 127) (lb0 : -128 ≤ b0) (rb0 : b0 ≤ 127) (la1 : -128 ≤ a1) (ra1 : a1 ≤ 127) (lb1 : -128 ≤ b1) (rb1 : b1 ≤ 127) (la2 : -128 ≤ a2) (ra2 : a2 ≤ 127) (lb2 : -128 ≤ b2) (rb2 : b2 ≤ 127) (la3 : -128 ≤ a3) (ra3 : a3 ≤ 127) (lb3 : -128 ≤ b3) (rb3 : b3 ≤ 127) : OkI xs ys ⟨15, [intsSV ns], .v (row kr)⟩ :=
  ⟨enters Try.func15 rfl rfl, fun B w vs h => by
    match vs, h with
    | [va], h =>
      have e1 := (ints_holds hn).1 h.1
      subst e1; subst e
      refine (q_Quat a0 b0 a1 b1 a2 b2 a3 b3 w la0 ra0 lb0 rb0 la1 ra1 lb1 rb1 la2 ra2 lb2 rb2 la3 ra3 lb3 rb3).mono ?_
      rintro e w' ⟨v, rfl, h1, h2⟩
      exact ⟨v, rfl, (row_isL ar).2 h1, h2⟩⟩
def xawakeX  : List Fq := [(Fq.ofInt 1), (Fq.ofInt 0), (Qq.mk (Fq.ofInt 1) (Fq.ofInt 0) (Fq.ofInt 0) (Fq.ofInt 1)).canon.w, (Qq.mk (Fq.ofInt 1) (Fq.ofInt 0) (Fq.ofInt 0) (Fq.ofInt 1)).canon.x, (Qq.mk (Fq.ofInt 1) (Fq.ofInt 0) (Fq.ofInt 0) (Fq.ofInt 1)).canon.y, (Qq.mk (Fq.ofInt 1) (Fq.ofInt 0) (Fq.ofInt 0) (Fq.ofInt 1)).canon.z, (Vq.of 1 0 0).x, (Vq.of 1 0 0).y, (Vq.of 1 0 0).z, ((Qq.mk (Fq.ofInt 1) (Fq.ofInt 0) (Fq.ofInt 0) (Fq.ofInt 1)).canon.app (Vq.of 1 0 0)).x, ((Qq.mk (Fq.ofInt 1) (Fq.ofInt 0) (Fq.ofInt 0) (Fq.ofInt 1)).canon.app (Vq.of 1 0 0)).y, ((Qq.mk (Fq.ofInt 1) (Fq.ofInt 0) (Fq.ofInt 0) (Fq.ofInt 1)).canon.app (Vq.of 1 0 0)).z, (Vq.of 0 1 0).x, (Vq.of 0 1 0).y, (Vq.of 0 1 0).z, Qq.id.w, Qq.id.x, Qq.id.y, Qq.id.z]
theorem q_awake  (w : World)   :
    Calls Try.prog 17 #[] w fun e w' => RetV w (.bool true) e w' := by
  refine (calls_runFn (ρ := frs (xawakeX ) ++ []) (w := w) (fuel := 300) (args := []) (vs := []) (r := .v (.one (.b true)))
    (il_cons (I_rInt (k := 0) rfl (by decide) (by decide)) (il_cons (I_rInt (k := 1) rfl (by decide) (by decide)) (il_cons (I_fMakeT (ip0 := 0) (ip1 := 1) (ip2 := 1) (ip3 := 0) (kr := [2, 3, 4, 5]) rfl rfl rfl rfl ⟨rfl, rfl, rfl, rfl, trivial⟩ ((ok_int (u := 1) (by decide) (by decide)).mono (by decide)) ((ok_int (u := 0) (by decide) (by decide)).mono (by decide)) ((ok_int (u := 0) (by decide) (by decide)).mono (by decide)) ((ok_int (u := 1) (by decide) (by decide)).mono (by decide)) (by decide)) (il_cons (I_rUnit0 (kr := [6, 7, 8]) ⟨rfl, rfl, rfl, trivial⟩) (il_cons (I_fApp (kq := [2, 3, 4, 5]) (q := (Qq.mk (Fq.ofInt 1) (Fq.ofInt 0) (Fq.ofInt 0) (Fq.ofInt 1)).canon) (ka := [6, 7, 8]) (a := (Vq.of 1 0 0)) (kr := [9, 10, 11]) ⟨rfl, rfl, rfl, rfl, trivial⟩ ⟨rfl, rfl, rfl, trivial⟩ ⟨rfl, rfl, rfl, trivial⟩ ((canon4_ok (ok_int (u := 1) (by decide) (by decide)) (ok_int (u := 0) (by decide) (by decide)) (ok_int (u := 0) (by decide) (by decide)) (ok_int (u := 1) (by decide) (by decide)) (by decide)).mono (by decide)) ((ok_vof (by decide) (by decide) (by decide) (by decide) (by decide) (by decide)).mono (by decide)) (canon_good ⟨ofInt_valid 1, ofInt_valid 0, ofInt_valid 0, ofInt_valid 1⟩ (by decide))) (il_cons (I_rUnit1 (kr := [12, 13, 14]) ⟨rfl, rfl, rfl, trivial⟩) (il_cons (I_SameVec1 (ka := [9, 10, 11]) (a := ((Qq.mk (Fq.ofInt 1) (Fq.ofInt 0) (Fq.ofInt 0) (Fq.ofInt 1)).canon.app (Vq.of 1 0 0))) (kb := [12, 13, 14]) (b := (Vq.of 0 1 0)) ⟨rfl, rfl, rfl, trivial⟩ ⟨rfl, rfl, rfl, trivial⟩ (((canon4_ok (ok_int (u := 1) (by decide) (by decide)) (ok_int (u := 0) (by decide) (by decide)) (ok_int (u := 0) (by decide) (by decide)) (ok_int (u := 1) (by decide) (by decide)) (by decide)).app (ok_vof (by decide) (by decide) (by decide) (by decide) (by decide) (by decide)) (canon_good ⟨ofInt_valid 1, ofInt_valid 0, ofInt_valid 0, ofInt_valid 1⟩ (by decide))).mono (by decide)) ((ok_vof (by decide) (by decide) (by decide) (by decide) (by decide) (by decide)).mono (by decide)) (by kernel_rfl)) (il_cons (I_fId (kr := [15, 16, 17, 18]) ⟨rfl, rfl, rfl, rfl, trivial⟩) (il_cons (I_fValidT1 (kq := [15, 16, 17, 18]) (q := Qq.id) ⟨rfl, rfl, rfl, rfl, trivial⟩ (ok_id.mono (by decide)) id_good) il_nil)))))))))
    ol_nil (by kernel_rfl) Try.func17 (by kernel_rfl) trivial).mono ?_
  rintro e w' ⟨v, rfl, h1, h2⟩
  exact ⟨congrArg Ending.returned h1, h2⟩
theorem I_awake {xs : List Fq} {ys : Rho}      : OkI xs ys ⟨17, [], .v (.one (.b true))⟩ :=
  ⟨enters Try.func17 rfl rfl, fun B w vs h => by
    match vs, h with
    | [], h =>
      refine (q_awake w).mono ?_
      rintro e w' ⟨rfl, h2⟩
      exact ⟨_, rfl, rfl, h2⟩⟩
end Go.Proofs.Ythefidbgjgfeiaa
namespace Go.Proofs.Ythefidbgjgfeiaa
set_option linter.unusedSimpArgs false
set_option linter.unusedVariables false
set_option maxRecDepth 100000
open Go.RowKit
theorem orId_good {q : Qq} (h : q.comp) : q.orId.good := by
  unfold Qq.orId
  split
  · exact id_good
  · rename_i h0; exact canon_good h h0
theorem orId_ok {q : Qq} (h : q.ok 2) : q.orId.ok 4 := by
  unfold Qq.orId
  split
  · exact ok_id.mono (by decide)
  · rename_i h0; exact h.canon h0
end Go.Proofs.Ythefidbgjgfeiaa
