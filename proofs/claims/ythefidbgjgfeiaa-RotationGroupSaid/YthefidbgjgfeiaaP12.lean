/- Make and canonical of rotations, by the executor. Products, inverses, images, by the executor. Matrices, units, from one vector to another, by the executor. On the way, valid rotations, by the executor. What the laws of rotations are told with, by the executor. The law that rotations form a group. -/
import Derived.Test.YthefidbgjgfeiaaP11
import Derived.WalkKit
import Derived.ProofKit
import Derived.OpenShut
import Derived.ShutString
import Derived.ChangeOld
import Derived.Below
namespace Go.Proofs.Ythefidbgjgfeiaa
set_option linter.unusedSimpArgs false
set_option linter.unusedVariables false
set_option maxRecDepth 100000
open Go.RowKit
theorem canon_eq {q : Qq} (h0 : q.first.p ≠ 0) : q.canon = q.over q.first := by unfold Qq.canon; rw [if_neg h0]
theorem Qq.ok.mk4 {a b c e : Fq} {d : Nat} (h1 : a.ok d) (h2 : b.ok d) (h3 : c.ok d) (h4 : e.ok d) : (Qq.mk a b c e).ok d := ⟨h1, h2, h3, h4⟩
theorem canon4_ok {a b c k : Fq} {d e f g : Nat} (h1 : a.ok d) (h2 : b.ok e) (h3 : c.ok f) (h4 : k.ok g) (h0 : (Qq.mk a b c k).first.p ≠ 0) : (Qq.mk a b c k).canon.ok (d + e + f + g + (d + e + f + g)) := (Qq.ok.mk4 (h1.mono (by omega)) (h2.mono (by omega)) (h3.mono (by omega)) (h4.mono (by omega)) : Qq.ok (d + e + f + g) _).canon h0
def xrFirstX (q : Qq) : List Fq := [q.w, q.x, q.y, q.z]
def xrFirst1X (q : Qq) : List Fq := [q.w, q.x, q.y, q.z]
def xrFirst2X (q : Qq) : List Fq := [q.w, q.x, q.y, q.z]
def xrFirst3X (q : Qq) : List Fq := [q.w, q.x, q.y, q.z]
theorem q_rFirst (vq : Value) (q : Qq) (w : World) (iq : IsQt w vq q) (hq : q.ok 1000000000) :
    Calls Try.prog 38 #[vq] w fun e w' => RetQ w q.first e w' := by
  by_cases c0 : q.w.p = 0
  · by_cases c1 : q.x.p = 0
    · by_cases c2 : q.y.p = 0
      · have e1 : q.first = q.z := by simp [Qq.first, c0, c1, c2]
        rw [e1]
        refine (calls_runFn (ρ := frs (xrFirstX q) ++ []) (w := w) (fuel := 300) (args := [row [0, 1, 2, 3]]) (vs := [vq]) (r := .v (fr 3))
          (il_cons (I_rSign (i := 0) rfl (li (sgn0 c0)) (hq.w.mono (by decide))) (il_cons (I_rSign (i := 1) rfl (li (sgn0 c1)) (hq.x.mono (by decide))) (il_cons (I_rSign (i := 2) rfl (li (sgn0 c2)) (hq.y.mono (by decide))) il_nil)))
          ol_nil (by kernel_rfl) Try.func38 (by kernel_rfl) ⟨(row_isL (xs := xrFirstX q) (ks := [0, 1, 2, 3]) (vs := [q.w, q.x, q.y, q.z]) ⟨rfl, rfl, rfl, rfl, trivial⟩).2 iq, trivial⟩).mono ?_
        rintro e w' ⟨v, rfl, h1, h2⟩
        exact ⟨v, rfl, (fr_isQ (xs := xrFirstX q) (k := 3) rfl).1 h1, h2⟩
      · have e1 : q.first = q.y := by simp [Qq.first, c0, c1, c2]
        rw [e1]
        refine (calls_runFn (ρ := frs (xrFirst1X q) ++ [.val (.int .i64 q.y.sgn)]) (w := w) (fuel := 300) (args := [row [0, 1, 2, 3]]) (vs := [vq]) (r := .v (fr 2))
          (il_cons (I_rSign (i := 0) rfl (li (sgn0 c0)) (hq.w.mono (by decide))) (il_cons (I_rSign (i := 1) rfl (li (sgn0 c1)) (hq.x.mono (by decide))) (il_cons (I_rSign (i := 2) rfl (lr (n := 12) rfl) (hq.y.mono (by decide))) il_nil)))
          (ol_cons (o_neq (n := 12) (c := 0) (t := 3) rfl (sgn_nq c2)) (ol_nil)) (by kernel_rfl) Try.func38 (by kernel_rfl) ⟨(row_isL (xs := xrFirst1X q) (ks := [0, 1, 2, 3]) (vs := [q.w, q.x, q.y, q.z]) ⟨rfl, rfl, rfl, rfl, trivial⟩).2 iq, trivial⟩).mono ?_
        rintro e w' ⟨v, rfl, h1, h2⟩
        exact ⟨v, rfl, (fr_isQ (xs := xrFirst1X q) (k := 2) rfl).1 h1, h2⟩
    · have e1 : q.first = q.x := by simp [Qq.first, c0, c1]
      rw [e1]
      refine (calls_runFn (ρ := frs (xrFirst2X q) ++ [.val (.int .i64 q.x.sgn)]) (w := w) (fuel := 300) (args := [row [0, 1, 2, 3]]) (vs := [vq]) (r := .v (fr 1))
        (il_cons (I_rSign (i := 0) rfl (li (sgn0 c0)) (hq.w.mono (by decide))) (il_cons (I_rSign (i := 1) rfl (lr (n := 12) rfl) (hq.x.mono (by decide))) il_nil))
        (ol_cons (o_neq (n := 12) (c := 0) (t := 3) rfl (sgn_nq c1)) (ol_nil)) (by kernel_rfl) Try.func38 (by kernel_rfl) ⟨(row_isL (xs := xrFirst2X q) (ks := [0, 1, 2, 3]) (vs := [q.w, q.x, q.y, q.z]) ⟨rfl, rfl, rfl, rfl, trivial⟩).2 iq, trivial⟩).mono ?_
      rintro e w' ⟨v, rfl, h1, h2⟩
      exact ⟨v, rfl, (fr_isQ (xs := xrFirst2X q) (k := 1) rfl).1 h1, h2⟩
  · have e1 : q.first = q.w := by simp [Qq.first, c0]
    rw [e1]
    refine (calls_runFn (ρ := frs (xrFirst3X q) ++ [.val (.int .i64 q.w.sgn)]) (w := w) (fuel := 300) (args := [row [0, 1, 2, 3]]) (vs := [vq]) (r := .v (fr 0))
      (il_cons (I_rSign (i := 0) rfl (lr (n := 12) rfl) (hq.w.mono (by decide))) il_nil)
      (ol_cons (o_neq (n := 12) (c := 0) (t := 3) rfl (sgn_nq c0)) (ol_nil)) (by kernel_rfl) Try.func38 (by kernel_rfl) ⟨(row_isL (xs := xrFirst3X q) (ks := [0, 1, 2, 3]) (vs := [q.w, q.x, q.y, q.z]) ⟨rfl, rfl, rfl, rfl, trivial⟩).2 iq, trivial⟩).mono ?_
    rintro e w' ⟨v, rfl, h1, h2⟩
    exact ⟨v, rfl, (fr_isQ (xs := xrFirst3X q) (k := 0) rfl).1 h1, h2⟩
theorem I_rFirst {xs : List Fq} {ys : Rho} {kq : List Nat} {q : Qq} {ir : Nat} (aq : AtL xs kq [q.w, q.x, q.y, q.z]) (ar : xs[ir]? = some q.first) (hq : q.ok 1000000000) : OkI xs ys ⟨38, [row kq], .v (fr ir)⟩ :=
  ⟨enters Try.func38 rfl rfl, fun B w vs h => by
    match vs, h with
    | [vq], h =>
      refine (q_rFirst vq q w ((row_isL aq).1 h.1) hq).mono ?_
      rintro e w' ⟨v, rfl, h1, h2⟩
      exact ⟨v, rfl, (fr_isQ ar).2 h1, h2⟩⟩
def xrOverX (x : Fq) (d : Fq) : List Fq := [x, d, (x.div d)]
theorem q_rOver (vx vd : Value) (x : Fq) (d : Fq) (w : World) (ix : IsQ w vx x) (id : IsQ w vd d) (hx : x.ok 1000000000) (hd : d.ok 1000000000) (h0 : d.p ≠ 0) :
    Calls Try.prog 39 #[vx, vd] w fun e w' => RetQ w (x.div d) e w' := by
  refine (calls_runFn (ρ := frs (xrOverX x d) ++ []) (w := w) (fuel := 300) (args := [fr 0, fr 1]) (vs := [vx, vd]) (r := .v (fr 2))
    (il_cons (I_rDiv (i := 0) (j := 1) (k := 2) rfl rfl rfl (hx.mono (by decide)) (hd.mono (by decide)) h0) il_nil)
    ol_nil (by kernel_rfl) Try.func39 (by kernel_rfl) ⟨(fr_isQ (xs := xrOverX x d) (k := 0) rfl).2 ix, ⟨(fr_isQ (xs := xrOverX x d) (k := 1) rfl).2 id, trivial⟩⟩).mono ?_
  rintro e w' ⟨v, rfl, h1, h2⟩
  exact ⟨v, rfl, (fr_isQ (xs := xrOverX x d) (k := 2) rfl).1 h1, h2⟩
theorem I_rOver {xs : List Fq} {ys : Rho} {ix : Nat} {id : Nat} {x : Fq} {d : Fq} {ir : Nat} (ax : xs[ix]? = some x) (ad : xs[id]? = some d) (ar : xs[ir]? = some (x.div d)) (hx : x.ok 1000000000) (hd : d.ok 1000000000) (h0 : d.p ≠ 0) : OkI xs ys ⟨39, [fr ix, fr id], .v (fr ir)⟩ :=
  ⟨enters Try.func39 rfl rfl, fun B w vs h => by
    match vs, h with
    | [vx, vd], h =>
      refine (q_rOver vx vd x d w ((fr_isQ ax).1 h.1) ((fr_isQ ad).1 h.2.1) hx hd h0).mono ?_
      rintro e w' ⟨v, rfl, h1, h2⟩
      exact ⟨v, rfl, (fr_isQ ar).2 h1, h2⟩⟩
def xrMakeTX (p0 : Fq) (p1 : Fq) (p2 : Fq) (p3 : Fq) : List Fq := [p0, p1, p2, p3, (Qq.mk p0 p1 p2 p3).first, (p0.div (Qq.mk p0 p1 p2 p3).first), (p1.div (Qq.mk p0 p1 p2 p3).first), (p2.div (Qq.mk p0 p1 p2 p3).first), (p3.div (Qq.mk p0 p1 p2 p3).first)]
theorem q_rMakeT (vp0 vp1 vp2 vp3 : Value) (p0 : Fq) (p1 : Fq) (p2 : Fq) (p3 : Fq) (w : World) (ip0 : IsQ w vp0 p0) (ip1 : IsQ w vp1 p1) (ip2 : IsQ w vp2 p2) (ip3 : IsQ w vp3 p3) (hp0 : p0.ok 100000000) (hp1 : p1.ok 100000000) (hp2 : p2.ok 100000000) (hp3 : p3.ok 100000000) (h0 : (Qq.mk p0 p1 p2 p3).first.p ≠ 0) :
    Calls Try.prog 10 #[vp0, vp1, vp2, vp3] w fun e w' => RetQtE w (Qq.mk p0 p1 p2 p3).canon 0 e w' := by
  rw [canon_eq h0]
  refine (calls_runFn (ρ := frs (xrMakeTX p0 p1 p2 p3) ++ [.val (.int .i64 (Qq.mk p0 p1 p2 p3).first.sgn)]) (w := w) (fuel := 300) (args := [fr 0, fr 1, fr 2, fr 3]) (vs := [vp0, vp1, vp2, vp3]) (r := .tup [row [5, 6, 7, 8], .one (.i .i64 0)])
    (il_cons (I_rFirst (kq := [0, 1, 2, 3]) (q := (Qq.mk p0 p1 p2 p3)) (ir := 4) ⟨rfl, rfl, rfl, rfl, trivial⟩ rfl ((Qq.ok.mk4 hp0 hp1 hp2 hp3).mono (by decide))) (il_cons (I_rSign (i := 4) rfl (lr (n := 27) rfl) ((Qq.ok.mk4 hp0 hp1 hp2 hp3).first.mono (by decide))) (il_cons (I_rOver (ix := 0) (id := 4) (ir := 5) rfl rfl rfl (hp0.mono (by decide)) ((Qq.ok.mk4 hp0 hp1 hp2 hp3).first.mono (by decide)) h0) (il_cons (I_rOver (ix := 1) (id := 4) (ir := 6) rfl rfl rfl (hp1.mono (by decide)) ((Qq.ok.mk4 hp0 hp1 hp2 hp3).first.mono (by decide)) h0) (il_cons (I_rOver (ix := 2) (id := 4) (ir := 7) rfl rfl rfl (hp2.mono (by decide)) ((Qq.ok.mk4 hp0 hp1 hp2 hp3).first.mono (by decide)) h0) (il_cons (I_rOver (ix := 3) (id := 4) (ir := 8) rfl rfl rfl (hp3.mono (by decide)) ((Qq.ok.mk4 hp0 hp1 hp2 hp3).first.mono (by decide)) h0) il_nil))))))
    (ol_cons (o_eql (n := 27) (c := 0) (t := 3) rfl (sgn_eq h0)) (ol_nil)) (by kernel_rfl) Try.func10 (by kernel_rfl) ⟨(fr_isQ (xs := xrMakeTX p0 p1 p2 p3) (k := 0) rfl).2 ip0, ⟨(fr_isQ (xs := xrMakeTX p0 p1 p2 p3) (k := 1) rfl).2 ip1, ⟨(fr_isQ (xs := xrMakeTX p0 p1 p2 p3) (k := 2) rfl).2 ip2, ⟨(fr_isQ (xs := xrMakeTX p0 p1 p2 p3) (k := 3) rfl).2 ip3, trivial⟩⟩⟩⟩).mono ?_
  rintro e w' ⟨v, rfl, ⟨vs, rfl, h1⟩, h2⟩
  match vs, h1 with
  | [r, c], h1 =>
    obtain ⟨⟨cs, rfl, k1⟩, k2, _⟩ := h1
    have k2 : c = _ := k2
    subst k2
    exact ⟨_, rfl, (row_isL (xs := xrMakeTX p0 p1 p2 p3) (ks := [5, 6, 7, 8]) (vs := [(p0.div (Qq.mk p0 p1 p2 p3).first), (p1.div (Qq.mk p0 p1 p2 p3).first), (p2.div (Qq.mk p0 p1 p2 p3).first), (p3.div (Qq.mk p0 p1 p2 p3).first)]) ⟨rfl, rfl, rfl, rfl, trivial⟩).1 ⟨_, rfl, k1⟩, h2⟩
theorem I_rMakeT {xs : List Fq} {ys : Rho} {ip0 : Nat} {ip1 : Nat} {ip2 : Nat} {ip3 : Nat} {p0 : Fq} {p1 : Fq} {p2 : Fq} {p3 : Fq} {kr : List Nat} (ap0 : xs[ip0]? = some p0) (ap1 : xs[ip1]? = some p1) (ap2 : xs[ip2]? = some p2) (ap3 : xs[ip3]? = some p3) (ar : AtL xs kr [(Qq.mk p0 p1 p2 p3).canon.w, (Qq.mk p0 p1 p2 p3).canon.x, (Qq.mk p0 p1 p2 p3).canon.y, (Qq.mk p0 p1 p2 p3).canon.z]) (hp0 : p0.ok 100000000) (hp1 : p1.ok 100000000) (hp2 : p2.ok 100000000) (hp3 : p3.ok 100000000) (h0 : (Qq.mk p0 p1 p2 p3).first.p ≠ 0) : OkI xs ys ⟨10, [fr ip0, fr ip1, fr ip2, fr ip3], .tup [row kr, .one (.i .i64 0)]⟩ :=
  ⟨enters Try.func10 rfl rfl, fun B w vs h => by
    match vs, h with
    | [vp0, vp1, vp2, vp3], h =>
      refine (q_rMakeT vp0 vp1 vp2 vp3 p0 p1 p2 p3 w ((fr_isQ ap0).1 h.1) ((fr_isQ ap1).1 h.2.1) ((fr_isQ ap2).1 h.2.2.1) ((fr_isQ ap3).1 h.2.2.2.1) hp0 hp1 hp2 hp3 h0).mono ?_
      rintro e w' ⟨v, rfl, h1, h2⟩
      exact ⟨_, rfl, ⟨[v, .int .i64 0], rfl, (row_isL ar).2 h1, rfl, trivial⟩, h2⟩⟩
def xrMakeT0X (p0 : Fq) (p1 : Fq) (p2 : Fq) (p3 : Fq) : List Fq := [p0, p1, p2, p3, (Qq.mk p0 p1 p2 p3).first]
theorem q_rMakeT0 (vp0 vp1 vp2 vp3 : Value) (p0 : Fq) (p1 : Fq) (p2 : Fq) (p3 : Fq) (w : World) (ip0 : IsQ w vp0 p0) (ip1 : IsQ w vp1 p1) (ip2 : IsQ w vp2 p2) (ip3 : IsQ w vp3 p3) (hp0 : p0.ok 100000000) (hp1 : p1.ok 100000000) (hp2 : p2.ok 100000000) (hp3 : p3.ok 100000000) (h0 : (Qq.mk p0 p1 p2 p3).first.p = 0) :
    Calls Try.prog 10 #[vp0, vp1, vp2, vp3] w fun e w' => RetQtE w Qq.zero 8 e w' := by
  refine (calls_runFn (ρ := frs (xrMakeT0X p0 p1 p2 p3) ++ []) (w := w) (fuel := 300) (args := [fr 0, fr 1, fr 2, fr 3]) (vs := [vp0, vp1, vp2, vp3]) (r := .tup [.agg [.b false, .sl0, .sl0, .b false, .sl0, .sl0, .b false, .sl0, .sl0, .b false, .sl0, .sl0], .one (.i .i64 8)])
    (il_cons (I_rFirst (kq := [0, 1, 2, 3]) (q := (Qq.mk p0 p1 p2 p3)) (ir := 4) ⟨rfl, rfl, rfl, rfl, trivial⟩ rfl ((Qq.ok.mk4 hp0 hp1 hp2 hp3).mono (by decide))) (il_cons (I_rSign (i := 4) rfl (li (sgn0 h0)) ((Qq.ok.mk4 hp0 hp1 hp2 hp3).first.mono (by decide))) il_nil))
    ol_nil (by kernel_rfl) Try.func10 (by kernel_rfl) ⟨(fr_isQ (xs := xrMakeT0X p0 p1 p2 p3) (k := 0) rfl).2 ip0, ⟨(fr_isQ (xs := xrMakeT0X p0 p1 p2 p3) (k := 1) rfl).2 ip1, ⟨(fr_isQ (xs := xrMakeT0X p0 p1 p2 p3) (k := 2) rfl).2 ip2, ⟨(fr_isQ (xs := xrMakeT0X p0 p1 p2 p3) (k := 3) rfl).2 ip3, trivial⟩⟩⟩⟩).mono ?_
  rintro e w' ⟨v, rfl, ⟨vs, rfl, h1⟩, h2⟩
  match vs, h1 with
  | [r, c], h1 =>
    obtain ⟨⟨cs, rfl, k1⟩, k2, _⟩ := h1
    have k2 : c = _ := k2
    subst k2
    exact ⟨_, rfl, ⟨_, rfl, zero_row (n := 4) k1⟩, h2⟩
theorem I_rMakeT0 {xs : List Fq} {ys : Rho} {ip0 : Nat} {ip1 : Nat} {ip2 : Nat} {ip3 : Nat} {p0 : Fq} {p1 : Fq} {p2 : Fq} {p3 : Fq} {kr : List Nat} (ap0 : xs[ip0]? = some p0) (ap1 : xs[ip1]? = some p1) (ap2 : xs[ip2]? = some p2) (ap3 : xs[ip3]? = some p3) (ar : AtL xs kr [Qq.zero.w, Qq.zero.x, Qq.zero.y, Qq.zero.z]) (hp0 : p0.ok 100000000) (hp1 : p1.ok 100000000) (hp2 : p2.ok 100000000) (hp3 : p3.ok 100000000) (h0 : (Qq.mk p0 p1 p2 p3).first.p = 0) : OkI xs ys ⟨10, [fr ip0, fr ip1, fr ip2, fr ip3], .tup [row kr, .one (.i .i64 8)]⟩ :=
  ⟨enters Try.func10 rfl rfl, fun B w vs h => by
    match vs, h with
    | [vp0, vp1, vp2, vp3], h =>
      refine (q_rMakeT0 vp0 vp1 vp2 vp3 p0 p1 p2 p3 w ((fr_isQ ap0).1 h.1) ((fr_isQ ap1).1 h.2.1) ((fr_isQ ap2).1 h.2.2.1) ((fr_isQ ap3).1 h.2.2.2.1) hp0 hp1 hp2 hp3 h0).mono ?_
      rintro e w' ⟨v, rfl, h1, h2⟩
      exact ⟨_, rfl, ⟨[v, .int .i64 8], rfl, (row_isL ar).2 h1, rfl, trivial⟩, h2⟩⟩
def xfMakeTX (p0 : Fq) (p1 : Fq) (p2 : Fq) (p3 : Fq) : List Fq := [p0, p1, p2, p3, (p0.div p3), (p1.div p3), (p2.div p3), (p3.div p3)]
def xfMakeT1X (p0 : Fq) (p1 : Fq) (p2 : Fq) (p3 : Fq) : List Fq := [p0, p1, p2, p3, (p0.div p2), (p1.div p2), (p2.div p2), (p3.div p2)]
def xfMakeT2X (p0 : Fq) (p1 : Fq) (p2 : Fq) (p3 : Fq) : List Fq := [p0, p1, p2, p3, (p0.div p1), (p1.div p1), (p2.div p1), (p3.div p1)]
def xfMakeT3X (p0 : Fq) (p1 : Fq) (p2 : Fq) (p3 : Fq) : List Fq := [p0, p1, p2, p3, (p0.div p0), (p1.div p0), (p2.div p0), (p3.div p0)]
theorem q_fMakeT (vp0 vp1 vp2 vp3 : Value) (p0 : Fq) (p1 : Fq) (p2 : Fq) (p3 : Fq) (w : World) (ip0 : IsQ w vp0 p0) (ip1 : IsQ w vp1 p1) (ip2 : IsQ w vp2 p2) (ip3 : IsQ w vp3 p3) (hp0 : p0.ok 100000000) (hp1 : p1.ok 100000000) (hp2 : p2.ok 100000000) (hp3 : p3.ok 100000000) (h0 : (Qq.mk p0 p1 p2 p3).first.p ≠ 0) :
    Calls Try.prog 8 #[vp0, vp1, vp2, vp3] w fun e w' => RetQtE w (Qq.mk p0 p1 p2 p3).canon 0 e w' := by
  by_cases c0 : p0.p = 0
  · by_cases c1 : p1.p = 0
    · by_cases c2 : p2.p = 0
      · by_cases c3 : p3.p = 0
        · exact absurd (by simp [Qq.first, c0, c1, c2, c3]) h0
        · have e1 : (Qq.mk p0 p1 p2 p3).first = p3 := by simp [Qq.first, c0, c1, c2, c3]
          rw [canon_eq h0, e1]
          refine (calls_runFn (ρ := frs (xfMakeTX p0 p1 p2 p3) ++ [.val (.int .i64 p3.sgn)]) (w := w) (fuel := 300) (args := [fr 0, fr 1, fr 2, fr 3]) (vs := [vp0, vp1, vp2, vp3]) (r := .tup [row [4, 5, 6, 7], .one (.i .i64 0)])
            (il_cons (I_fSign (i := 0) rfl (li (sgn0 c0)) (hp0.mono (by decide))) (il_cons (I_fSign (i := 1) rfl (li (sgn0 c1)) (hp1.mono (by decide))) (il_cons (I_fSign (i := 2) rfl (li (sgn0 c2)) (hp2.mono (by decide))) (il_cons (I_fSign (i := 3) rfl (lr (n := 24) rfl) (hp3.mono (by decide))) (il_cons (I_fDiv (i := 0) (j := 3) (k := 4) rfl rfl rfl (hp0.mono (by decide)) (hp3.mono (by decide)) c3) (il_cons (I_fDiv (i := 1) (j := 3) (k := 5) rfl rfl rfl (hp1.mono (by decide)) (hp3.mono (by decide)) c3) (il_cons (I_fDiv (i := 2) (j := 3) (k := 6) rfl rfl rfl (hp2.mono (by decide)) (hp3.mono (by decide)) c3) (il_cons (I_fDiv (i := 3) (j := 3) (k := 7) rfl rfl rfl (hp3.mono (by decide)) (hp3.mono (by decide)) c3) (il_cons (I_whole (kq := [4, 5, 6, 7]) (q := (Qq.mk (p0.div p3) (p1.div p3) (p2.div p3) (p3.div p3))) (kr := [4, 5, 6, 7]) ⟨rfl, rfl, rfl, rfl, trivial⟩ ⟨rfl, rfl, rfl, rfl, trivial⟩ (⟨(hp0.div hp3 c3).mono (by decide), (hp1.div hp3 c3).mono (by decide), (hp2.div hp3 c3).mono (by decide), (hp3.div hp3 c3).mono (by decide)⟩ : Qq.ok 1000000000 (Qq.mk (p0.div p3) (p1.div p3) (p2.div p3) (p3.div p3)))) il_nil)))))))))
            (ol_cons (o_eql (n := 24) (c := 0) (t := 3) rfl (sgn_eq c3)) (ol_nil)) (by kernel_rfl) Try.func8 (by kernel_rfl) ⟨(fr_isQ (xs := xfMakeTX p0 p1 p2 p3) (k := 0) rfl).2 ip0, ⟨(fr_isQ (xs := xfMakeTX p0 p1 p2 p3) (k := 1) rfl).2 ip1, ⟨(fr_isQ (xs := xfMakeTX p0 p1 p2 p3) (k := 2) rfl).2 ip2, ⟨(fr_isQ (xs := xfMakeTX p0 p1 p2 p3) (k := 3) rfl).2 ip3, trivial⟩⟩⟩⟩).mono ?_
          rintro e w' ⟨v, rfl, ⟨vs, rfl, h1⟩, h2⟩
          match vs, h1 with
          | [r, c], h1 =>
            obtain ⟨⟨cs, rfl, k1⟩, k2, _⟩ := h1
            have k2 : c = _ := k2
            subst k2
            exact ⟨_, rfl, (row_isL (xs := xfMakeTX p0 p1 p2 p3) (ks := [4, 5, 6, 7]) (vs := [(p0.div p3), (p1.div p3), (p2.div p3), (p3.div p3)]) ⟨rfl, rfl, rfl, rfl, trivial⟩).1 ⟨_, rfl, k1⟩, h2⟩
      · have e1 : (Qq.mk p0 p1 p2 p3).first = p2 := by simp [Qq.first, c0, c1, c2]
        rw [canon_eq h0, e1]
        refine (calls_runFn (ρ := frs (xfMakeT1X p0 p1 p2 p3) ++ [.val (.int .i64 p2.sgn)]) (w := w) (fuel := 300) (args := [fr 0, fr 1, fr 2, fr 3]) (vs := [vp0, vp1, vp2, vp3]) (r := .tup [row [4, 5, 6, 7], .one (.i .i64 0)])
          (il_cons (I_fSign (i := 0) rfl (li (sgn0 c0)) (hp0.mono (by decide))) (il_cons (I_fSign (i := 1) rfl (li (sgn0 c1)) (hp1.mono (by decide))) (il_cons (I_fSign (i := 2) rfl (lr (n := 24) rfl) (hp2.mono (by decide))) (il_cons (I_fDiv (i := 0) (j := 2) (k := 4) rfl rfl rfl (hp0.mono (by decide)) (hp2.mono (by decide)) c2) (il_cons (I_fDiv (i := 1) (j := 2) (k := 5) rfl rfl rfl (hp1.mono (by decide)) (hp2.mono (by decide)) c2) (il_cons (I_fDiv (i := 2) (j := 2) (k := 6) rfl rfl rfl (hp2.mono (by decide)) (hp2.mono (by decide)) c2) (il_cons (I_fDiv (i := 3) (j := 2) (k := 7) rfl rfl rfl (hp3.mono (by decide)) (hp2.mono (by decide)) c2) (il_cons (I_whole (kq := [4, 5, 6, 7]) (q := (Qq.mk (p0.div p2) (p1.div p2) (p2.div p2) (p3.div p2))) (kr := [4, 5, 6, 7]) ⟨rfl, rfl, rfl, rfl, trivial⟩ ⟨rfl, rfl, rfl, rfl, trivial⟩ (⟨(hp0.div hp2 c2).mono (by decide), (hp1.div hp2 c2).mono (by decide), (hp2.div hp2 c2).mono (by decide), (hp3.div hp2 c2).mono (by decide)⟩ : Qq.ok 1000000000 (Qq.mk (p0.div p2) (p1.div p2) (p2.div p2) (p3.div p2)))) il_nil))))))))
          (ol_cons (o_eql (n := 24) (c := 0) (t := 3) rfl (sgn_eq c2)) (ol_nil)) (by kernel_rfl) Try.func8 (by kernel_rfl) ⟨(fr_isQ (xs := xfMakeT1X p0 p1 p2 p3) (k := 0) rfl).2 ip0, ⟨(fr_isQ (xs := xfMakeT1X p0 p1 p2 p3) (k := 1) rfl).2 ip1, ⟨(fr_isQ (xs := xfMakeT1X p0 p1 p2 p3) (k := 2) rfl).2 ip2, ⟨(fr_isQ (xs := xfMakeT1X p0 p1 p2 p3) (k := 3) rfl).2 ip3, trivial⟩⟩⟩⟩).mono ?_
        rintro e w' ⟨v, rfl, ⟨vs, rfl, h1⟩, h2⟩
        match vs, h1 with
        | [r, c], h1 =>
          obtain ⟨⟨cs, rfl, k1⟩, k2, _⟩ := h1
          have k2 : c = _ := k2
          subst k2
          exact ⟨_, rfl, (row_isL (xs := xfMakeT1X p0 p1 p2 p3) (ks := [4, 5, 6, 7]) (vs := [(p0.div p2), (p1.div p2), (p2.div p2), (p3.div p2)]) ⟨rfl, rfl, rfl, rfl, trivial⟩).1 ⟨_, rfl, k1⟩, h2⟩
    · have e1 : (Qq.mk p0 p1 p2 p3).first = p1 := by simp [Qq.first, c0, c1]
      rw [canon_eq h0, e1]
      refine (calls_runFn (ρ := frs (xfMakeT2X p0 p1 p2 p3) ++ [.val (.int .i64 p1.sgn)]) (w := w) (fuel := 300) (args := [fr 0, fr 1, fr 2, fr 3]) (vs := [vp0, vp1, vp2, vp3]) (r := .tup [row [4, 5, 6, 7], .one (.i .i64 0)])
        (il_cons (I_fSign (i := 0) rfl (li (sgn0 c0)) (hp0.mono (by decide))) (il_cons (I_fSign (i := 1) rfl (lr (n := 24) rfl) (hp1.mono (by decide))) (il_cons (I_fDiv (i := 0) (j := 1) (k := 4) rfl rfl rfl (hp0.mono (by decide)) (hp1.mono (by decide)) c1) (il_cons (I_fDiv (i := 1) (j := 1) (k := 5) rfl rfl rfl (hp1.mono (by decide)) (hp1.mono (by decide)) c1) (il_cons (I_fDiv (i := 2) (j := 1) (k := 6) rfl rfl rfl (hp2.mono (by decide)) (hp1.mono (by decide)) c1) (il_cons (I_fDiv (i := 3) (j := 1) (k := 7) rfl rfl rfl (hp3.mono (by decide)) (hp1.mono (by decide)) c1) (il_cons (I_whole (kq := [4, 5, 6, 7]) (q := (Qq.mk (p0.div p1) (p1.div p1) (p2.div p1) (p3.div p1))) (kr := [4, 5, 6, 7]) ⟨rfl, rfl, rfl, rfl, trivial⟩ ⟨rfl, rfl, rfl, rfl, trivial⟩ (⟨(hp0.div hp1 c1).mono (by decide), (hp1.div hp1 c1).mono (by decide), (hp2.div hp1 c1).mono (by decide), (hp3.div hp1 c1).mono (by decide)⟩ : Qq.ok 1000000000 (Qq.mk (p0.div p1) (p1.div p1) (p2.div p1) (p3.div p1)))) il_nil)))))))
        (ol_cons (o_eql (n := 24) (c := 0) (t := 3) rfl (sgn_eq c1)) (ol_nil)) (by kernel_rfl) Try.func8 (by kernel_rfl) ⟨(fr_isQ (xs := xfMakeT2X p0 p1 p2 p3) (k := 0) rfl).2 ip0, ⟨(fr_isQ (xs := xfMakeT2X p0 p1 p2 p3) (k := 1) rfl).2 ip1, ⟨(fr_isQ (xs := xfMakeT2X p0 p1 p2 p3) (k := 2) rfl).2 ip2, ⟨(fr_isQ (xs := xfMakeT2X p0 p1 p2 p3) (k := 3) rfl).2 ip3, trivial⟩⟩⟩⟩).mono ?_
      rintro e w' ⟨v, rfl, ⟨vs, rfl, h1⟩, h2⟩
      match vs, h1 with
      | [r, c], h1 =>
        obtain ⟨⟨cs, rfl, k1⟩, k2, _⟩ := h1
        have k2 : c = _ := k2
        subst k2
        exact ⟨_, rfl, (row_isL (xs := xfMakeT2X p0 p1 p2 p3) (ks := [4, 5, 6, 7]) (vs := [(p0.div p1), (p1.div p1), (p2.div p1), (p3.div p1)]) ⟨rfl, rfl, rfl, rfl, trivial⟩).1 ⟨_, rfl, k1⟩, h2⟩
  · have e1 : (Qq.mk p0 p1 p2 p3).first = p0 := by simp [Qq.first, c0]
    rw [canon_eq h0, e1]
    refine (calls_runFn (ρ := frs (xfMakeT3X p0 p1 p2 p3) ++ [.val (.int .i64 p0.sgn)]) (w := w) (fuel := 300) (args := [fr 0, fr 1, fr 2, fr 3]) (vs := [vp0, vp1, vp2, vp3]) (r := .tup [row [4, 5, 6, 7], .one (.i .i64 0)])
      (il_cons (I_fSign (i := 0) rfl (lr (n := 24) rfl) (hp0.mono (by decide))) (il_cons (I_fDiv (i := 0) (j := 0) (k := 4) rfl rfl rfl (hp0.mono (by decide)) (hp0.mono (by decide)) c0) (il_cons (I_fDiv (i := 1) (j := 0) (k := 5) rfl rfl rfl (hp1.mono (by decide)) (hp0.mono (by decide)) c0) (il_cons (I_fDiv (i := 2) (j := 0) (k := 6) rfl rfl rfl (hp2.mono (by decide)) (hp0.mono (by decide)) c0) (il_cons (I_fDiv (i := 3) (j := 0) (k := 7) rfl rfl rfl (hp3.mono (by decide)) (hp0.mono (by decide)) c0) (il_cons (I_whole (kq := [4, 5, 6, 7]) (q := (Qq.mk (p0.div p0) (p1.div p0) (p2.div p0) (p3.div p0))) (kr := [4, 5, 6, 7]) ⟨rfl, rfl, rfl, rfl, trivial⟩ ⟨rfl, rfl, rfl, rfl, trivial⟩ (⟨(hp0.div hp0 c0).mono (by decide), (hp1.div hp0 c0).mono (by decide), (hp2.div hp0 c0).mono (by decide), (hp3.div hp0 c0).mono (by decide)⟩ : Qq.ok 1000000000 (Qq.mk (p0.div p0) (p1.div p0) (p2.div p0) (p3.div p0)))) il_nil))))))
      (ol_cons (o_eql (n := 24) (c := 0) (t := 3) rfl (sgn_eq c0)) (ol_nil)) (by kernel_rfl) Try.func8 (by kernel_rfl) ⟨(fr_isQ (xs := xfMakeT3X p0 p1 p2 p3) (k := 0) rfl).2 ip0, ⟨(fr_isQ (xs := xfMakeT3X p0 p1 p2 p3) (k := 1) rfl).2 ip1, ⟨(fr_isQ (xs := xfMakeT3X p0 p1 p2 p3) (k := 2) rfl).2 ip2, ⟨(fr_isQ (xs := xfMakeT3X p0 p1 p2 p3) (k := 3) rfl).2 ip3, trivial⟩⟩⟩⟩).mono ?_
    rintro e w' ⟨v, rfl, ⟨vs, rfl, h1⟩, h2⟩
    match vs, h1 with
    | [r, c], h1 =>
      obtain ⟨⟨cs, rfl, k1⟩, k2, _⟩ := h1
      have k2 : c = _ := k2
      subst k2
      exact ⟨_, rfl, (row_isL (xs := xfMakeT3X p0 p1 p2 p3) (ks := [4, 5, 6, 7]) (vs := [(p0.div p0), (p1.div p0), (p2.div p0), (p3.div p0)]) ⟨rfl, rfl, rfl, rfl, trivial⟩).1 ⟨_, rfl, k1⟩, h2⟩
theorem I_fMakeT {xs : List Fq} {ys : Rho} {ip0 : Nat} {ip1 : Nat} {ip2 : Nat} {ip3 : Nat} {p0 : Fq} {p1 : Fq} {p2 : Fq} {p3 : Fq} {kr : List Nat} (ap0 : xs[ip0]? = some p0) (ap1 : xs[ip1]? = some p1) (ap2 : xs[ip2]? = some p2) (ap3 : xs[ip3]? = some p3) (ar : AtL xs kr [(Qq.mk p0 p1 p2 p3).canon.w, (Qq.mk p0 p1 p2 p3).canon.x, (Qq.mk p0 p1 p2 p3).canon.y, (Qq.mk p0 p1 p2 p3).canon.z]) (hp0 : p0.ok 100000000) (hp1 : p1.ok 100000000) (hp2 : p2.ok 100000000) (hp3 : p3.ok 100000000) (h0 : (Qq.mk p0 p1 p2 p3).first.p ≠ 0) : OkI xs ys ⟨8, [fr ip0, fr ip1, fr ip2, fr ip3], .tup [row kr, .one (.i .i64 0)]⟩ :=
  ⟨enters Try.func8 rfl rfl, fun B w vs h => by
    match vs, h with
    | [vp0, vp1, vp2, vp3], h =>
      refine (q_fMakeT vp0 vp1 vp2 vp3 p0 p1 p2 p3 w ((fr_isQ ap0).1 h.1) ((fr_isQ ap1).1 h.2.1) ((fr_isQ ap2).1 h.2.2.1) ((fr_isQ ap3).1 h.2.2.2.1) hp0 hp1 hp2 hp3 h0).mono ?_
      rintro e w' ⟨v, rfl, h1, h2⟩
      exact ⟨_, rfl, ⟨[v, .int .i64 0], rfl, (row_isL ar).2 h1, rfl, trivial⟩, h2⟩⟩
def xfCanonX (u : Fq) (c : Vq) : List Fq := [u, c.x, c.y, c.z, (Qq.mk u c.x c.y c.z).canon.w, (Qq.mk u c.x c.y c.z).canon.x, (Qq.mk u c.x c.y c.z).canon.y, (Qq.mk u c.x c.y c.z).canon.z]
theorem q_fCanon (vu vc : Value) (u : Fq) (c : Vq) (w : World) (iu : IsQ w vu u) (ic : IsVq w vc c) (hu : u.ok 100000000) (hc : c.ok 100000000) (h0 : (Qq.mk u c.x c.y c.z).first.p ≠ 0) :
    Calls Try.prog 48 #[vu, vc] w fun e w' => RetQt w (Qq.mk u c.x c.y c.z).canon e w' := by
  refine (calls_runFn (ρ := frs (xfCanonX u c) ++ []) (w := w) (fuel := 300) (args := [fr 0, row [1, 2, 3]]) (vs := [vu, vc]) (r := .v (row [4, 5, 6, 7]))
    (il_cons (I_fMakeT (ip0 := 0) (ip1 := 1) (ip2 := 2) (ip3 := 3) (kr := [4, 5, 6, 7]) rfl rfl rfl rfl ⟨rfl, rfl, rfl, rfl, trivial⟩ (hu.mono (by decide)) (hc.x.mono (by decide)) (hc.y.mono (by decide)) (hc.z.mono (by decide)) h0) il_nil)
    ol_nil (by kernel_rfl) Try.func48 (by kernel_rfl) ⟨(fr_isQ (xs := xfCanonX u c) (k := 0) rfl).2 iu, ⟨(row_isL (xs := xfCanonX u c) (ks := [1, 2, 3]) (vs := [c.x, c.y, c.z]) ⟨rfl, rfl, rfl, trivial⟩).2 ic, trivial⟩⟩).mono ?_
  rintro e w' ⟨v, rfl, h1, h2⟩
  exact ⟨v, rfl, (row_isL (xs := xfCanonX u c) (ks := [4, 5, 6, 7]) (vs := [(Qq.mk u c.x c.y c.z).canon.w, (Qq.mk u c.x c.y c.z).canon.x, (Qq.mk u c.x c.y c.z).canon.y, (Qq.mk u c.x c.y c.z).canon.z]) ⟨rfl, rfl, rfl, rfl, trivial⟩).1 h1, h2⟩
theorem I_fCanon {xs : List Fq} {ys : Rho} {iu : Nat} {kc : List Nat} {u : Fq} {c : Vq} {kr : List Nat} (au : xs[iu]? = some u) (ac : AtL xs kc [c.x, c.y, c.z]) (ar : AtL xs kr [(Qq.mk u c.x c.y c.z).canon.w, (Qq.mk u c.x c.y c.z).canon.x, (Qq.mk u c.x c.y c.z).canon.y, (Qq.mk u c.x c.y c.z).canon.z]) (hu : u.ok 100000000) (hc : c.ok 100000000) (h0 : (Qq.mk u c.x c.y c.z).first.p ≠ 0) : OkI xs ys ⟨48, [fr iu, row kc], .v (row kr)⟩ :=
  ⟨enters Try.func48 rfl rfl, fun B w vs h => by
    match vs, h with
    | [vu, vc], h =>
      refine (q_fCanon vu vc u c w ((fr_isQ au).1 h.1) ((row_isL ac).1 h.2.1) hu hc h0).mono ?_
      rintro e w' ⟨v, rfl, h1, h2⟩
      exact ⟨v, rfl, (row_isL ar).2 h1, h2⟩⟩
end Go.Proofs.Ythefidbgjgfeiaa
namespace Go.Proofs.Ythefidbgjgfeiaa
set_option linter.unusedSimpArgs false
set_option linter.unusedVariables false
set_option maxRecDepth 100000
open Go.RowKit
theorem Qq.ok.inv {q : Qq} {d : Nat} (h : q.ok d) (g : q.good) : q.inv.ok (d + 2 + (d + 2)) := by
  have h0 := conj_ne g
  rw [← inv_eq g.comp] at h0
  exact (Qq.ok.mk4 (h.w.mono (by omega)) (h.x.mul (ok_int (by decide) (by decide))) (h.y.mul (ok_int (by decide) (by decide))) (h.z.mul (ok_int (by decide) (by decide)))).canon h0
theorem inv_ne' {q : Qq} (g : q.good) : (Qq.mk q.w (q.axis.scale (Fq.ofInt (-1))).x (q.axis.scale (Fq.ofInt (-1))).y (q.axis.scale (Fq.ofInt (-1))).z).first.p ≠ 0 := by rw [inv_eq g.comp]; exact conj_ne g
theorem Qq.ok.mulg {p q : Qq} {d e : Nat} (h : p.ok d) (k : q.ok e) (gp : p.good) (gq : q.good) : (p.mul q).ok (44 * (d + e) + 14) := h.mul k (ham_ne gp gq)
theorem Qq.ok.dd {q : Qq} {d : Nat} (h : q.ok d) : q.dd.ok (44 * d + 7) := ((h.w.mul h.w).sub (h.axis.dot h.axis)).mono (by omega)
theorem Qq.ok.nn {q : Qq} {d : Nat} (h : q.ok d) : q.nn.ok (44 * d + 7) := ((h.w.mul h.w).add (h.axis.dot h.axis)).mono (by omega)
theorem Qq.ok.rat {q : Qq} {d : Nat} (h : q.ok d) (g : q.good) : q.rat.ok (44 * d + 9) := ((ok_int (by decide) (by decide)).div h.nn (nn_ne g)).mono (by omega)
theorem Qq.ok.ap1 {q : Qq} {a : Vq} {d e : Nat} (h : q.ok d) (k : a.ok e) : (q.ap1 a).ok (e + 44 * d + 7) := (k.scale h.dd).mono (by omega)
theorem Qq.ok.ap2 {q : Qq} {a : Vq} {d e : Nat} (h : q.ok d) (k : a.ok e) : (q.ap2 a).ok (11 * d + 10 * e + 5) := (h.axis.scale ((ok_int (by decide) (by decide)).mul (h.axis.dot k))).mono (by omega)
theorem Qq.ok.ap3 {q : Qq} {a : Vq} {d e : Nat} (h : q.ok d) (k : a.ok e) : (q.ap3 a).ok (5 * d + 4 * e + 3) := ((h.axis.cross k).scale ((ok_int (by decide) (by decide)).mul h.w)).mono (by omega)
theorem Qq.ok.app {q : Qq} {a : Vq} {d e : Nat} (h : q.ok d) (k : a.ok e) (g : q.good) : (q.app a).ok (300 * (d + e) + 100) := ((((h.ap1 k).add (h.ap2 k)).add (h.ap3 k)).scale (h.rat g)).mono (by omega)
def xfMulTX (p : Qq) (q : Qq) : List Fq := [p.w, p.x, p.y, p.z, q.w, q.x, q.y, q.z, p.axis.x, p.axis.y, p.axis.z, q.axis.x, q.axis.y, q.axis.z, (p.w.mul q.w), (p.axis.dot q.axis), ((p.w.mul q.w).sub (p.axis.dot q.axis)), (q.axis.scale p.w).x, (q.axis.scale p.w).y, (q.axis.scale p.w).z, (p.axis.scale q.w).x, (p.axis.scale q.w).y, (p.axis.scale q.w).z, ((q.axis.scale p.w).add (p.axis.scale q.w)).x, ((q.axis.scale p.w).add (p.axis.scale q.w)).y, ((q.axis.scale p.w).add (p.axis.scale q.w)).z, (p.axis.cross q.axis).x, (p.axis.cross q.axis).y, (p.axis.cross q.axis).z, (((q.axis.scale p.w).add (p.axis.scale q.w)).add (p.axis.cross q.axis)).x, (((q.axis.scale p.w).add (p.axis.scale q.w)).add (p.axis.cross q.axis)).y, (((q.axis.scale p.w).add (p.axis.scale q.w)).add (p.axis.cross q.axis)).z, (Qq.mk ((p.w.mul q.w).sub (p.axis.dot q.axis)) (((q.axis.scale p.w).add (p.axis.scale q.w)).add (p.axis.cross q.axis)).x (((q.axis.scale p.w).add (p.axis.scale q.w)).add (p.axis.cross q.axis)).y (((q.axis.scale p.w).add (p.axis.scale q.w)).add (p.axis.cross q.axis)).z).canon.w, (Qq.mk ((p.w.mul q.w).sub (p.axis.dot q.axis)) (((q.axis.scale p.w).add (p.axis.scale q.w)).add (p.axis.cross q.axis)).x (((q.axis.scale p.w).add (p.axis.scale q.w)).add (p.axis.cross q.axis)).y (((q.axis.scale p.w).add (p.axis.scale q.w)).add (p.axis.cross q.axis)).z).canon.x, (Qq.mk ((p.w.mul q.w).sub (p.axis.dot q.axis)) (((q.axis.scale p.w).add (p.axis.scale q.w)).add (p.axis.cross q.axis)).x (((q.axis.scale p.w).add (p.axis.scale q.w)).add (p.axis.cross q.axis)).y (((q.axis.scale p.w).add (p.axis.scale q.w)).add (p.axis.cross q.axis)).z).canon.y, (Qq.mk ((p.w.mul q.w).sub (p.axis.dot q.axis)) (((q.axis.scale p.w).add (p.axis.scale q.w)).add (p.axis.cross q.axis)).x (((q.axis.scale p.w).add (p.axis.scale q.w)).add (p.axis.cross q.axis)).y (((q.axis.scale p.w).add (p.axis.scale q.w)).add (p.axis.cross q.axis)).z).canon.z]
theorem q_fMulT (vp vq : Value) (p : Qq) (q : Qq) (w : World) (ip : IsQt w vp p) (iq : IsQt w vq q) (hp : p.ok 100000) (hq : q.ok 100000) (gp : p.good) (gq : q.good) :
    Calls Try.prog 28 #[vp, vq] w fun e w' => RetQt w (p.mul q) e w' := by
  refine (calls_runFn (ρ := frs (xfMulTX p q) ++ []) (w := w) (fuel := 300) (args := [row [0, 1, 2, 3], row [4, 5, 6, 7]]) (vs := [vp, vq]) (r := .v (row [32, 33, 34, 35]))
    (il_cons (I_axis (kq := [0, 1, 2, 3]) (q := p) (kr := [8, 9, 10]) ⟨rfl, rfl, rfl, rfl, trivial⟩ ⟨rfl, rfl, rfl, trivial⟩ (hp.mono (by decide))) (il_cons (I_axis (kq := [4, 5, 6, 7]) (q := q) (kr := [11, 12, 13]) ⟨rfl, rfl, rfl, rfl, trivial⟩ ⟨rfl, rfl, rfl, trivial⟩ (hq.mono (by decide))) (il_cons (I_fMul (i := 0) (j := 4) (k := 14) rfl rfl rfl (hp.w.mono (by decide)) (hq.w.mono (by decide))) (il_cons (I_vDot (ka := [8, 9, 10]) (a := p.axis) (kb := [11, 12, 13]) (b := q.axis) (ir := 15) ⟨rfl, rfl, rfl, trivial⟩ ⟨rfl, rfl, rfl, trivial⟩ rfl (hp.axis.mono (by decide)) (hq.axis.mono (by decide))) (il_cons (I_fSub (i := 14) (j := 15) (k := 16) rfl rfl rfl ((hp.w.mul hq.w).mono (by decide)) ((hp.axis.dot hq.axis).mono (by decide))) (il_cons (I_vScale (ka := [11, 12, 13]) (a := q.axis) (ik := 0) (kr := [17, 18, 19]) ⟨rfl, rfl, rfl, trivial⟩ rfl ⟨rfl, rfl, rfl, trivial⟩ (hq.axis.mono (by decide)) (hp.w.mono (by decide))) (il_cons (I_vScale (ka := [8, 9, 10]) (a := p.axis) (ik := 4) (kr := [20, 21, 22]) ⟨rfl, rfl, rfl, trivial⟩ rfl ⟨rfl, rfl, rfl, trivial⟩ (hp.axis.mono (by decide)) (hq.w.mono (by decide))) (il_cons (I_vAdd (ka := [17, 18, 19]) (a := (q.axis.scale p.w)) (kb := [20, 21, 22]) (b := (p.axis.scale q.w)) (kr := [23, 24, 25]) ⟨rfl, rfl, rfl, trivial⟩ ⟨rfl, rfl, rfl, trivial⟩ ⟨rfl, rfl, rfl, trivial⟩ ((hq.axis.scale hp.w).mono (by decide)) ((hp.axis.scale hq.w).mono (by decide))) (il_cons (I_vCross (ka := [8, 9, 10]) (a := p.axis) (kb := [11, 12, 13]) (b := q.axis) (kr := [26, 27, 28]) ⟨rfl, rfl, rfl, trivial⟩ ⟨rfl, rfl, rfl, trivial⟩ ⟨rfl, rfl, rfl, trivial⟩ (hp.axis.mono (by decide)) (hq.axis.mono (by decide))) (il_cons (I_vAdd (ka := [23, 24, 25]) (a := ((q.axis.scale p.w).add (p.axis.scale q.w))) (kb := [26, 27, 28]) (b := (p.axis.cross q.axis)) (kr := [29, 30, 31]) ⟨rfl, rfl, rfl, trivial⟩ ⟨rfl, rfl, rfl, trivial⟩ ⟨rfl, rfl, rfl, trivial⟩ (((hq.axis.scale hp.w).add (hp.axis.scale hq.w)).mono (by decide)) ((hp.axis.cross hq.axis).mono (by decide))) (il_cons (I_fCanon (iu := 16) (kc := [29, 30, 31]) (c := (((q.axis.scale p.w).add (p.axis.scale q.w)).add (p.axis.cross q.axis))) (kr := [32, 33, 34, 35]) rfl ⟨rfl, rfl, rfl, trivial⟩ ⟨rfl, rfl, rfl, rfl, trivial⟩ (((hp.w.mul hq.w).sub (hp.axis.dot hq.axis)).mono (by decide)) ((((hq.axis.scale hp.w).add (hp.axis.scale hq.w)).add (hp.axis.cross hq.axis)).mono (by decide)) (ham_ne gp gq)) il_nil)))))))))))
    ol_nil (by kernel_rfl) Try.func28 (by kernel_rfl) ⟨(row_isL (xs := xfMulTX p q) (ks := [0, 1, 2, 3]) (vs := [p.w, p.x, p.y, p.z]) ⟨rfl, rfl, rfl, rfl, trivial⟩).2 ip, ⟨(row_isL (xs := xfMulTX p q) (ks := [4, 5, 6, 7]) (vs := [q.w, q.x, q.y, q.z]) ⟨rfl, rfl, rfl, rfl, trivial⟩).2 iq, trivial⟩⟩).mono ?_
  rintro e w' ⟨v, rfl, h1, h2⟩
  exact ⟨v, rfl, (row_isL (xs := xfMulTX p q) (ks := [32, 33, 34, 35]) (vs := [(Qq.mk ((p.w.mul q.w).sub (p.axis.dot q.axis)) (((q.axis.scale p.w).add (p.axis.scale q.w)).add (p.axis.cross q.axis)).x (((q.axis.scale p.w).add (p.axis.scale q.w)).add (p.axis.cross q.axis)).y (((q.axis.scale p.w).add (p.axis.scale q.w)).add (p.axis.cross q.axis)).z).canon.w, (Qq.mk ((p.w.mul q.w).sub (p.axis.dot q.axis)) (((q.axis.scale p.w).add (p.axis.scale q.w)).add (p.axis.cross q.axis)).x (((q.axis.scale p.w).add (p.axis.scale q.w)).add (p.axis.cross q.axis)).y (((q.axis.scale p.w).add (p.axis.scale q.w)).add (p.axis.cross q.axis)).z).canon.x, (Qq.mk ((p.w.mul q.w).sub (p.axis.dot q.axis)) (((q.axis.scale p.w).add (p.axis.scale q.w)).add (p.axis.cross q.axis)).x (((q.axis.scale p.w).add (p.axis.scale q.w)).add (p.axis.cross q.axis)).y (((q.axis.scale p.w).add (p.axis.scale q.w)).add (p.axis.cross q.axis)).z).canon.y, (Qq.mk ((p.w.mul q.w).sub (p.axis.dot q.axis)) (((q.axis.scale p.w).add (p.axis.scale q.w)).add (p.axis.cross q.axis)).x (((q.axis.scale p.w).add (p.axis.scale q.w)).add (p.axis.cross q.axis)).y (((q.axis.scale p.w).add (p.axis.scale q.w)).add (p.axis.cross q.axis)).z).canon.z]) ⟨rfl, rfl, rfl, rfl, trivial⟩).1 h1, h2⟩
theorem I_fMulT {xs : List Fq} {ys : Rho} {kp : List Nat} {kq : List Nat} {p : Qq} {q : Qq} {kr : List Nat} (ap : AtL xs kp [p.w, p.x, p.y, p.z]) (aq : AtL xs kq [q.w, q.x, q.y, q.z]) (ar : AtL xs kr [(p.mul q).w, (p.mul q).x, (p.mul q).y, (p.mul q).z]) (hp : p.ok 100000) (hq : q.ok 100000) (gp : p.good) (gq : q.good) : OkI xs ys ⟨28, [row kp, row kq], .v (row kr)⟩ :=
  ⟨enters Try.func28 rfl rfl, fun B w vs h => by
    match vs, h with
    | [vp, vq], h =>
      refine (q_fMulT vp vq p q w ((row_isL ap).1 h.1) ((row_isL aq).1 h.2.1) hp hq gp gq).mono ?_
      rintro e w' ⟨v, rfl, h1, h2⟩
      exact ⟨v, rfl, (row_isL ar).2 h1, h2⟩⟩
def xfInvTX (q : Qq) : List Fq := [q.w, q.x, q.y, q.z, q.axis.x, q.axis.y, q.axis.z, (Fq.ofInt (-1)), (q.axis.scale (Fq.ofInt (-1))).x, (q.axis.scale (Fq.ofInt (-1))).y, (q.axis.scale (Fq.ofInt (-1))).z, (Qq.mk q.w (q.axis.scale (Fq.ofInt (-1))).x (q.axis.scale (Fq.ofInt (-1))).y (q.axis.scale (Fq.ofInt (-1))).z).canon.w, (Qq.mk q.w (q.axis.scale (Fq.ofInt (-1))).x (q.axis.scale (Fq.ofInt (-1))).y (q.axis.scale (Fq.ofInt (-1))).z).canon.x, (Qq.mk q.w (q.axis.scale (Fq.ofInt (-1))).x (q.axis.scale (Fq.ofInt (-1))).y (q.axis.scale (Fq.ofInt (-1))).z).canon.y, (Qq.mk q.w (q.axis.scale (Fq.ofInt (-1))).x (q.axis.scale (Fq.ofInt (-1))).y (q.axis.scale (Fq.ofInt (-1))).z).canon.z]
theorem q_fInvT (vq : Value) (q : Qq) (w : World) (iq : IsQt w vq q) (hq : q.ok 100000) (gq : q.good) :
    Calls Try.prog 29 #[vq] w fun e w' => RetQt w q.inv e w' := by
  refine (calls_runFn (ρ := frs (xfInvTX q) ++ []) (w := w) (fuel := 300) (args := [row [0, 1, 2, 3]]) (vs := [vq]) (r := .v (row [11, 12, 13, 14]))
    (il_cons (I_axis (kq := [0, 1, 2, 3]) (q := q) (kr := [4, 5, 6]) ⟨rfl, rfl, rfl, rfl, trivial⟩ ⟨rfl, rfl, rfl, trivial⟩ (hq.mono (by decide))) (il_cons (I_fInt (k := 7) rfl (by decide) (by decide)) (il_cons (I_vScale (ka := [4, 5, 6]) (a := q.axis) (ik := 7) (kr := [8, 9, 10]) ⟨rfl, rfl, rfl, trivial⟩ rfl ⟨rfl, rfl, rfl, trivial⟩ (hq.axis.mono (by decide)) ((ok_int (u := -1) (by decide) (by decide)).mono (by decide))) (il_cons (I_fCanon (iu := 0) (kc := [8, 9, 10]) (c := (q.axis.scale (Fq.ofInt (-1)))) (kr := [11, 12, 13, 14]) rfl ⟨rfl, rfl, rfl, trivial⟩ ⟨rfl, rfl, rfl, rfl, trivial⟩ (hq.w.mono (by decide)) ((hq.axis.scale (ok_int (u := -1) (by decide) (by decide))).mono (by decide)) (inv_ne' gq)) il_nil))))
    ol_nil (by kernel_rfl) Try.func29 (by kernel_rfl) ⟨(row_isL (xs := xfInvTX q) (ks := [0, 1, 2, 3]) (vs := [q.w, q.x, q.y, q.z]) ⟨rfl, rfl, rfl, rfl, trivial⟩).2 iq, trivial⟩).mono ?_
  rintro e w' ⟨v, rfl, h1, h2⟩
  exact ⟨v, rfl, (row_isL (xs := xfInvTX q) (ks := [11, 12, 13, 14]) (vs := [(Qq.mk q.w (q.axis.scale (Fq.ofInt (-1))).x (q.axis.scale (Fq.ofInt (-1))).y (q.axis.scale (Fq.ofInt (-1))).z).canon.w, (Qq.mk q.w (q.axis.scale (Fq.ofInt (-1))).x (q.axis.scale (Fq.ofInt (-1))).y (q.axis.scale (Fq.ofInt (-1))).z).canon.x, (Qq.mk q.w (q.axis.scale (Fq.ofInt (-1))).x (q.axis.scale (Fq.ofInt (-1))).y (q.axis.scale (Fq.ofInt (-1))).z).canon.y, (Qq.mk q.w (q.axis.scale (Fq.ofInt (-1))).x (q.axis.scale (Fq.ofInt (-1))).y (q.axis.scale (Fq.ofInt (-1))).z).canon.z]) ⟨rfl, rfl, rfl, rfl, trivial⟩).1 h1, h2⟩
theorem I_fInvT {xs : List Fq} {ys : Rho} {kq : List Nat} {q : Qq} {kr : List Nat} (aq : AtL xs kq [q.w, q.x, q.y, q.z]) (ar : AtL xs kr [q.inv.w, q.inv.x, q.inv.y, q.inv.z]) (hq : q.ok 100000) (gq : q.good) : OkI xs ys ⟨29, [row kq], .v (row kr)⟩ :=
  ⟨enters Try.func29 rfl rfl, fun B w vs h => by
    match vs, h with
    | [vq], h =>
      refine (q_fInvT vq q w ((row_isL aq).1 h.1) hq gq).mono ?_
      rintro e w' ⟨v, rfl, h1, h2⟩
      exact ⟨v, rfl, (row_isL ar).2 h1, h2⟩⟩
def xfAppX (q : Qq) (a : Vq) : List Fq := [q.w, q.x, q.y, q.z, a.x, a.y, a.z, q.axis.x, q.axis.y, q.axis.z, (q.w.mul q.w), (q.axis.dot q.axis), (Fq.ofInt 2), ((q.w.mul q.w).sub (q.axis.dot q.axis)), (a.scale ((q.w.mul q.w).sub (q.axis.dot q.axis))).x, (a.scale ((q.w.mul q.w).sub (q.axis.dot q.axis))).y, (a.scale ((q.w.mul q.w).sub (q.axis.dot q.axis))).z, (q.axis.dot a), ((Fq.ofInt 2).mul (q.axis.dot a)), (q.axis.scale ((Fq.ofInt 2).mul (q.axis.dot a))).x, (q.axis.scale ((Fq.ofInt 2).mul (q.axis.dot a))).y, (q.axis.scale ((Fq.ofInt 2).mul (q.axis.dot a))).z, ((a.scale ((q.w.mul q.w).sub (q.axis.dot q.axis))).add (q.axis.scale ((Fq.ofInt 2).mul (q.axis.dot a)))).x, ((a.scale ((q.w.mul q.w).sub (q.axis.dot q.axis))).add (q.axis.scale ((Fq.ofInt 2).mul (q.axis.dot a)))).y, ((a.scale ((q.w.mul q.w).sub (q.axis.dot q.axis))).add (q.axis.scale ((Fq.ofInt 2).mul (q.axis.dot a)))).z, (q.axis.cross a).x, (q.axis.cross a).y, (q.axis.cross a).z, ((Fq.ofInt 2).mul q.w), ((q.axis.cross a).scale ((Fq.ofInt 2).mul q.w)).x, ((q.axis.cross a).scale ((Fq.ofInt 2).mul q.w)).y, ((q.axis.cross a).scale ((Fq.ofInt 2).mul q.w)).z, (((a.scale ((q.w.mul q.w).sub (q.axis.dot q.axis))).add (q.axis.scale ((Fq.ofInt 2).mul (q.axis.dot a)))).add ((q.axis.cross a).scale ((Fq.ofInt 2).mul q.w))).x, (((a.scale ((q.w.mul q.w).sub (q.axis.dot q.axis))).add (q.axis.scale ((Fq.ofInt 2).mul (q.axis.dot a)))).add ((q.axis.cross a).scale ((Fq.ofInt 2).mul q.w))).y, (((a.scale ((q.w.mul q.w).sub (q.axis.dot q.axis))).add (q.axis.scale ((Fq.ofInt 2).mul (q.axis.dot a)))).add ((q.axis.cross a).scale ((Fq.ofInt 2).mul q.w))).z, (Fq.ofInt 1), ((q.w.mul q.w).add (q.axis.dot q.axis)), ((Fq.ofInt 1).div ((q.w.mul q.w).add (q.axis.dot q.axis))), ((((a.scale ((q.w.mul q.w).sub (q.axis.dot q.axis))).add (q.axis.scale ((Fq.ofInt 2).mul (q.axis.dot a)))).add ((q.axis.cross a).scale ((Fq.ofInt 2).mul q.w))).scale ((Fq.ofInt 1).div ((q.w.mul q.w).add (q.axis.dot q.axis)))).x, ((((a.scale ((q.w.mul q.w).sub (q.axis.dot q.axis))).add (q.axis.scale ((Fq.ofInt 2).mul (q.axis.dot a)))).add ((q.axis.cross a).scale ((Fq.ofInt 2).mul q.w))).scale ((Fq.ofInt 1).div ((q.w.mul q.w).add (q.axis.dot q.axis)))).y, ((((a.scale ((q.w.mul q.w).sub (q.axis.dot q.axis))).add (q.axis.scale ((Fq.ofInt 2).mul (q.axis.dot a)))).add ((q.axis.cross a).scale ((Fq.ofInt 2).mul q.w))).scale ((Fq.ofInt 1).div ((q.w.mul q.w).add (q.axis.dot q.axis)))).z]
theorem q_fApp (vq va : Value) (q : Qq) (a : Vq) (w : World) (iq : IsQt w vq q) (ia : IsVq w va a) (hq : q.ok 300000) (ha : a.ok 300000) (gq : q.good) :
    Calls Try.prog 22 #[vq, va] w fun e w' => RetVq w (q.app a) e w' := by
  refine (calls_runFn (ρ := frs (xfAppX q a) ++ []) (w := w) (fuel := 300) (args := [row [0, 1, 2, 3], row [4, 5, 6]]) (vs := [vq, va]) (r := .v (row [38, 39, 40]))
    (il_cons (I_axis (kq := [0, 1, 2, 3]) (q := q) (kr := [7, 8, 9]) ⟨rfl, rfl, rfl, rfl, trivial⟩ ⟨rfl, rfl, rfl, trivial⟩ (hq.mono (by decide))) (il_cons (I_fMul (i := 0) (j := 0) (k := 10) rfl rfl rfl (hq.w.mono (by decide)) (hq.w.mono (by decide))) (il_cons (I_vDot (ka := [7, 8, 9]) (a := q.axis) (kb := [7, 8, 9]) (b := q.axis) (ir := 11) ⟨rfl, rfl, rfl, trivial⟩ ⟨rfl, rfl, rfl, trivial⟩ rfl (hq.axis.mono (by decide)) (hq.axis.mono (by decide))) (il_cons (I_fInt (k := 12) rfl (by decide) (by decide)) (il_cons (I_fSub (i := 10) (j := 11) (k := 13) rfl rfl rfl ((hq.w.mul hq.w).mono (by decide)) ((hq.axis.dot hq.axis).mono (by decide))) (il_cons (I_vScale (ka := [4, 5, 6]) (a := a) (ik := 13) (kr := [14, 15, 16]) ⟨rfl, rfl, rfl, trivial⟩ rfl ⟨rfl, rfl, rfl, trivial⟩ (ha.mono (by decide)) (((hq.w.mul hq.w).sub (hq.axis.dot hq.axis)).mono (by decide))) (il_cons (I_vDot (ka := [7, 8, 9]) (a := q.axis) (kb := [4, 5, 6]) (b := a) (ir := 17) ⟨rfl, rfl, rfl, trivial⟩ ⟨rfl, rfl, rfl, trivial⟩ rfl (hq.axis.mono (by decide)) (ha.mono (by decide))) (il_cons (I_fMul (i := 12) (j := 17) (k := 18) rfl rfl rfl ((ok_int (u := 2) (by decide) (by decide)).mono (by decide)) ((hq.axis.dot ha).mono (by decide))) (il_cons (I_vScale (ka := [7, 8, 9]) (a := q.axis) (ik := 18) (kr := [19, 20, 21]) ⟨rfl, rfl, rfl, trivial⟩ rfl ⟨rfl, rfl, rfl, trivial⟩ (hq.axis.mono (by decide)) (((ok_int (u := 2) (by decide) (by decide)).mul (hq.axis.dot ha)).mono (by decide))) (il_cons (I_vAdd (ka := [14, 15, 16]) (a := (a.scale ((q.w.mul q.w).sub (q.axis.dot q.axis)))) (kb := [19, 20, 21]) (b := (q.axis.scale ((Fq.ofInt 2).mul (q.axis.dot a)))) (kr := [22, 23, 24]) ⟨rfl, rfl, rfl, trivial⟩ ⟨rfl, rfl, rfl, trivial⟩ ⟨rfl, rfl, rfl, trivial⟩ ((ha.scale ((hq.w.mul hq.w).sub (hq.axis.dot hq.axis))).mono (by decide)) ((hq.axis.scale ((ok_int (u := 2) (by decide) (by decide)).mul (hq.axis.dot ha))).mono (by decide))) (il_cons (I_vCross (ka := [7, 8, 9]) (a := q.axis) (kb := [4, 5, 6]) (b := a) (kr := [25, 26, 27]) ⟨rfl, rfl, rfl, trivial⟩ ⟨rfl, rfl, rfl, trivial⟩ ⟨rfl, rfl, rfl, trivial⟩ (hq.axis.mono (by decide)) (ha.mono (by decide))) (il_cons (I_fMul (i := 12) (j := 0) (k := 28) rfl rfl rfl ((ok_int (u := 2) (by decide) (by decide)).mono (by decide)) (hq.w.mono (by decide))) (il_cons (I_vScale (ka := [25, 26, 27]) (a := (q.axis.cross a)) (ik := 28) (kr := [29, 30, 31]) ⟨rfl, rfl, rfl, trivial⟩ rfl ⟨rfl, rfl, rfl, trivial⟩ ((hq.axis.cross ha).mono (by decide)) (((ok_int (u := 2) (by decide) (by decide)).mul hq.w).mono (by decide))) (il_cons (I_vAdd (ka := [22, 23, 24]) (a := ((a.scale ((q.w.mul q.w).sub (q.axis.dot q.axis))).add (q.axis.scale ((Fq.ofInt 2).mul (q.axis.dot a))))) (kb := [29, 30, 31]) (b := ((q.axis.cross a).scale ((Fq.ofInt 2).mul q.w))) (kr := [32, 33, 34]) ⟨rfl, rfl, rfl, trivial⟩ ⟨rfl, rfl, rfl, trivial⟩ ⟨rfl, rfl, rfl, trivial⟩ (((ha.scale ((hq.w.mul hq.w).sub (hq.axis.dot hq.axis))).add (hq.axis.scale ((ok_int (u := 2) (by decide) (by decide)).mul (hq.axis.dot ha)))).mono (by decide)) (((hq.axis.cross ha).scale ((ok_int (u := 2) (by decide) (by decide)).mul hq.w)).mono (by decide))) (il_cons (I_fInt (k := 35) rfl (by decide) (by decide)) (il_cons (I_fAdd (i := 10) (j := 11) (k := 36) rfl rfl rfl ((hq.w.mul hq.w).mono (by decide)) ((hq.axis.dot hq.axis).mono (by decide))) (il_cons (I_fDiv (i := 35) (j := 36) (k := 37) rfl rfl rfl ((ok_int (u := 1) (by decide) (by decide)).mono (by decide)) (((hq.w.mul hq.w).add (hq.axis.dot hq.axis)).mono (by decide)) (nn_ne gq)) (il_cons (I_vScale (ka := [32, 33, 34]) (a := (((a.scale ((q.w.mul q.w).sub (q.axis.dot q.axis))).add (q.axis.scale ((Fq.ofInt 2).mul (q.axis.dot a)))).add ((q.axis.cross a).scale ((Fq.ofInt 2).mul q.w)))) (ik := 37) (kr := [38, 39, 40]) ⟨rfl, rfl, rfl, trivial⟩ rfl ⟨rfl, rfl, rfl, trivial⟩ ((((ha.scale ((hq.w.mul hq.w).sub (hq.axis.dot hq.axis))).add (hq.axis.scale ((ok_int (u := 2) (by decide) (by decide)).mul (hq.axis.dot ha)))).add ((hq.axis.cross ha).scale ((ok_int (u := 2) (by decide) (by decide)).mul hq.w))).mono (by decide)) (((ok_int (u := 1) (by decide) (by decide)).div ((hq.w.mul hq.w).add (hq.axis.dot hq.axis)) (nn_ne gq)).mono (by decide))) il_nil))))))))))))))))))
    ol_nil (by kernel_rfl) Try.func22 (by kernel_rfl) ⟨(row_isL (xs := xfAppX q a) (ks := [0, 1, 2, 3]) (vs := [q.w, q.x, q.y, q.z]) ⟨rfl, rfl, rfl, rfl, trivial⟩).2 iq, ⟨(row_isL (xs := xfAppX q a) (ks := [4, 5, 6]) (vs := [a.x, a.y, a.z]) ⟨rfl, rfl, rfl, trivial⟩).2 ia, trivial⟩⟩).mono ?_
  rintro e w' ⟨v, rfl, h1, h2⟩
  exact ⟨v, rfl, (row_isL (xs := xfAppX q a) (ks := [38, 39, 40]) (vs := [((((a.scale ((q.w.mul q.w).sub (q.axis.dot q.axis))).add (q.axis.scale ((Fq.ofInt 2).mul (q.axis.dot a)))).add ((q.axis.cross a).scale ((Fq.ofInt 2).mul q.w))).scale ((Fq.ofInt 1).div ((q.w.mul q.w).add (q.axis.dot q.axis)))).x, ((((a.scale ((q.w.mul q.w).sub (q.axis.dot q.axis))).add (q.axis.scale ((Fq.ofInt 2).mul (q.axis.dot a)))).add ((q.axis.cross a).scale ((Fq.ofInt 2).mul q.w))).scale ((Fq.ofInt 1).div ((q.w.mul q.w).add (q.axis.dot q.axis)))).y, ((((a.scale ((q.w.mul q.w).sub (q.axis.dot q.axis))).add (q.axis.scale ((Fq.ofInt 2).mul (q.axis.dot a)))).add ((q.axis.cross a).scale ((Fq.ofInt 2).mul q.w))).scale ((Fq.ofInt 1).div ((q.w.mul q.w).add (q.axis.dot q.axis)))).z]) ⟨rfl, rfl, rfl, trivial⟩).1 h1, h2⟩
theorem I_fApp {xs : List Fq} {ys : Rho} {kq : List Nat} {ka : List Nat} {q : Qq} {a : Vq} {kr : List Nat} (aq : AtL xs kq [q.w, q.x, q.y, q.z]) (aa : AtL xs ka [a.x, a.y, a.z]) (ar : AtL xs kr [(q.app a).x, (q.app a).y, (q.app a).z]) (hq : q.ok 300000) (ha : a.ok 300000) (gq : q.good) : OkI xs ys ⟨22, [row kq, row ka], .v (row kr)⟩ :=
  ⟨enters Try.func22 rfl rfl, fun B w vs h => by
    match vs, h with
    | [vq, va], h =>
      refine (q_fApp vq va q a w ((row_isL aq).1 h.1) ((row_isL aa).1 h.2.1) hq ha gq).mono ?_
      rintro e w' ⟨v, rfl, h1, h2⟩
      exact ⟨v, rfl, (row_isL ar).2 h1, h2⟩⟩
end Go.Proofs.Ythefidbgjgfeiaa
namespace Go.Proofs.Ythefidbgjgfeiaa
set_option linter.unusedSimpArgs false
set_option linter.unusedVariables false
set_option maxRecDepth 100000
open Go.RowKit
theorem ok_vof {x y z : Int} (l1 : -9223372036854775808 ≤ x) (r1 : x < 9223372036854775808) (l2 : -9223372036854775808 ≤ y) (r2 : y < 9223372036854775808) (l3 : -9223372036854775808 ≤ z) (r3 : z < 9223372036854775808) : (Vq.of x y z).ok 2 := ⟨ok_int l1 r1, ok_int l2 r2, ok_int l3 r3⟩
theorem good_first {q : Qq} (g : q.good) : q.first = Fq.ofInt 1 := v_inj g.comp.first (ofInt_valid 1) (by rw [g.one, v_ofInt]; rfl)
theorem good_ne {q : Qq} (g : q.good) : q.first.p ≠ 0 := by rw [good_first g]; decide
def xrUnit0X  : List Fq := [(Fq.ofInt 0), (Fq.ofInt 1)]
theorem q_rUnit0  (w : World)   :
    Calls Try.prog 45 #[.int .i64 (0)] w fun e w' => RetVq w (Vq.of 1 0 0) e w' := by
  refine (calls_runFn (ρ := frs (xrUnit0X ) ++ []) (w := w) (fuel := 300) (args := [.one (.i .i64 0)]) (vs := [.int .i64 (0)]) (r := .v (row [1, 0, 0]))
    (il_cons (I_rInt (k := 0) rfl (by decide) (by decide)) (il_cons (I_rInt (k := 1) rfl (by decide) (by decide)) il_nil))
    ol_nil (by kernel_rfl) Try.func45 (by kernel_rfl) ⟨rfl, trivial⟩).mono ?_
  rintro e w' ⟨v, rfl, h1, h2⟩
  exact ⟨v, rfl, (row_isL (xs := xrUnit0X ) (ks := [1, 0, 0]) (vs := [(Fq.ofInt 1), (Fq.ofInt 0), (Fq.ofInt 0)]) ⟨rfl, rfl, rfl, trivial⟩).1 h1, h2⟩
theorem I_rUnit0 {xs : List Fq} {ys : Rho}   {kr : List Nat}  (ar : AtL xs kr [(Vq.of 1 0 0).x, (Vq.of 1 0 0).y, (Vq.of 1 0 0).z]) : OkI xs ys ⟨45, [.one (.i .i64 0)], .v (row kr)⟩ :=
  ⟨enters Try.func45 rfl rfl, fun B w vs h => by
    match vs, h with
    | [vk], h =>
      have ek : vk = .int .i64 (0) := h.1
      subst ek
      refine (q_rUnit0 w).mono ?_
      rintro e w' ⟨v, rfl, h1, h2⟩
      exact ⟨v, rfl, (row_isL ar).2 h1, h2⟩⟩
def xrUnit1X  : List Fq := [(Fq.ofInt 0), (Fq.ofInt 1)]
theorem q_rUnit1  (w : World)   :
    Calls Try.prog 45 #[.int .i64 (1)] w fun e w' => RetVq w (Vq.of 0 1 0) e w' := by
  refine (calls_runFn (ρ := frs (xrUnit1X ) ++ []) (w := w) (fuel := 300) (args := [.one (.i .i64 1)]) (vs := [.int .i64 (1)]) (r := .v (row [0, 1, 0]))
    (il_cons (I_rInt (k := 0) rfl (by decide) (by decide)) (il_cons (I_rInt (k := 1) rfl (by decide) (by decide)) il_nil))
    ol_nil (by kernel_rfl) Try.func45 (by kernel_rfl) ⟨rfl, trivial⟩).mono ?_
  rintro e w' ⟨v, rfl, h1, h2⟩
  exact ⟨v, rfl, (row_isL (xs := xrUnit1X ) (ks := [0, 1, 0]) (vs := [(Fq.ofInt 0), (Fq.ofInt 1), (Fq.ofInt 0)]) ⟨rfl, rfl, rfl, trivial⟩).1 h1, h2⟩
theorem I_rUnit1 {xs : List Fq} {ys : Rho}   {kr : List Nat}  (ar : AtL xs kr [(Vq.of 0 1 0).x, (Vq.of 0 1 0).y, (Vq.of 0 1 0).z]) : OkI xs ys ⟨45, [.one (.i .i64 1)], .v (row kr)⟩ :=
  ⟨enters Try.func45 rfl rfl, fun B w vs h => by
    match vs, h with
    | [vk], h =>
      have ek : vk = .int .i64 (1) := h.1
      subst ek
      refine (q_rUnit1 w).mono ?_
      rintro e w' ⟨v, rfl, h1, h2⟩
      exact ⟨v, rfl, (row_isL ar).2 h1, h2⟩⟩
end Go.Proofs.Ythefidbgjgfeiaa
namespace Go.Proofs.Ythefidbgjgfeiaa
set_option linter.unusedSimpArgs false
set_option linter.unusedVariables false
set_option maxRecDepth 100000
open Go.RowKit
def xfValidT1X (q : Qq) : List Fq := [q.w, q.x, q.y, q.z, (Fq.ofInt 1)]
def xfValidT11X (q : Qq) : List Fq := [q.w, q.x, q.y, q.z, (Fq.ofInt 1)]
def xfValidT12X (q : Qq) : List Fq := [q.w, q.x, q.y, q.z, (Fq.ofInt 1)]
def xfValidT13X (q : Qq) : List Fq := [q.w, q.x, q.y, q.z, (Fq.ofInt 1)]
theorem q_fValidT1 (vq : Value) (q : Qq) (w : World) (iq : IsQt w vq q) (hq : q.ok 100000) (gq : q.good) :
    Calls Try.prog 11 #[vq] w fun e w' => RetV w (.bool true) e w' := by
  by_cases c0 : q.w.p = 0
  · by_cases c1 : q.x.p = 0
    · by_cases c2 : q.y.p = 0
      · by_cases c3 : q.z.p = 0
        · exact absurd (by simp [Qq.first, c0, c1, c2, c3]) (good_ne gq)
        · have e1 : q.first = q.z := by simp [Qq.first, c0, c1, c2, c3]
          refine (calls_runFn (ρ := frs (xfValidT1X q) ++ [.val (.int .i64 q.z.sgn)]) (w := w) (fuel := 300) (args := [row [0, 1, 2, 3]]) (vs := [vq]) (r := .v (.one (.b true)))
            (il_cons (I_parts (kq := [0, 1, 2, 3]) (q := q) (kr := [0, 1, 2, 3]) ⟨rfl, rfl, rfl, rfl, trivial⟩ ⟨rfl, rfl, rfl, rfl, trivial⟩ (hq.mono (by decide))) (il_cons (I_fValid (i := 0) (l := .b true) rfl (lb gq.comp.w) (hq.w.mono (by decide))) (il_cons (I_fValid (i := 1) (l := .b true) rfl (lb gq.comp.x) (hq.x.mono (by decide))) (il_cons (I_fValid (i := 2) (l := .b true) rfl (lb gq.comp.y) (hq.y.mono (by decide))) (il_cons (I_fValid (i := 3) (l := .b true) rfl (lb gq.comp.z) (hq.z.mono (by decide))) (il_cons (I_fSign (i := 0) rfl (li (sgn0 c0)) (hq.w.mono (by decide))) (il_cons (I_fSign (i := 1) rfl (li (sgn0 c1)) (hq.x.mono (by decide))) (il_cons (I_fSign (i := 2) rfl (li (sgn0 c2)) (hq.y.mono (by decide))) (il_cons (I_fSign (i := 3) rfl (lr (n := 15) rfl) (hq.z.mono (by decide))) (il_cons (I_fInt (k := 4) rfl (by decide) (by decide)) (il_cons (I_fCmp (i := 3) (j := 4) rfl rfl (li ((o_zero gq.comp.z (ofInt_valid 1)).2 (e1.symm.trans (good_first gq)))) (hq.z.mono (by decide)) ((ok_int (u := 1) (by decide) (by decide)).mono (by decide))) il_nil)))))))))))
            (ol_cons (o_neq (n := 15) (c := 0) (t := 3) rfl (sgn_nq c3)) (ol_nil)) (by kernel_rfl) Try.func11 (by kernel_rfl) ⟨(row_isL (xs := xfValidT1X q) (ks := [0, 1, 2, 3]) (vs := [q.w, q.x, q.y, q.z]) ⟨rfl, rfl, rfl, rfl, trivial⟩).2 iq, trivial⟩).mono ?_
          rintro e w' ⟨v, rfl, h1, h2⟩
          exact ⟨congrArg Ending.returned h1, h2⟩
      · have e1 : q.first = q.y := by simp [Qq.first, c0, c1, c2]
        refine (calls_runFn (ρ := frs (xfValidT11X q) ++ [.val (.int .i64 q.y.sgn)]) (w := w) (fuel := 300) (args := [row [0, 1, 2, 3]]) (vs := [vq]) (r := .v (.one (.b true)))
          (il_cons (I_parts (kq := [0, 1, 2, 3]) (q := q) (kr := [0, 1, 2, 3]) ⟨rfl, rfl, rfl, rfl, trivial⟩ ⟨rfl, rfl, rfl, rfl, trivial⟩ (hq.mono (by decide))) (il_cons (I_fValid (i := 0) (l := .b true) rfl (lb gq.comp.w) (hq.w.mono (by decide))) (il_cons (I_fValid (i := 1) (l := .b true) rfl (lb gq.comp.x) (hq.x.mono (by decide))) (il_cons (I_fValid (i := 2) (l := .b true) rfl (lb gq.comp.y) (hq.y.mono (by decide))) (il_cons (I_fValid (i := 3) (l := .b true) rfl (lb gq.comp.z) (hq.z.mono (by decide))) (il_cons (I_fSign (i := 0) rfl (li (sgn0 c0)) (hq.w.mono (by decide))) (il_cons (I_fSign (i := 1) rfl (li (sgn0 c1)) (hq.x.mono (by decide))) (il_cons (I_fSign (i := 2) rfl (lr (n := 15) rfl) (hq.y.mono (by decide))) (il_cons (I_fInt (k := 4) rfl (by decide) (by decide)) (il_cons (I_fCmp (i := 2) (j := 4) rfl rfl (li ((o_zero gq.comp.y (ofInt_valid 1)).2 (e1.symm.trans (good_first gq)))) (hq.y.mono (by decide)) ((ok_int (u := 1) (by decide) (by decide)).mono (by decide))) il_nil))))))))))
          (ol_cons (o_neq (n := 15) (c := 0) (t := 3) rfl (sgn_nq c2)) (ol_nil)) (by kernel_rfl) Try.func11 (by kernel_rfl) ⟨(row_isL (xs := xfValidT11X q) (ks := [0, 1, 2, 3]) (vs := [q.w, q.x, q.y, q.z]) ⟨rfl, rfl, rfl, rfl, trivial⟩).2 iq, trivial⟩).mono ?_
        rintro e w' ⟨v, rfl, h1, h2⟩
        exact ⟨congrArg Ending.returned h1, h2⟩
    · have e1 : q.first = q.x := by simp [Qq.first, c0, c1]
      refine (calls_runFn (ρ := frs (xfValidT12X q) ++ [.val (.int .i64 q.x.sgn)]) (w := w) (fuel := 300) (args := [row [0, 1, 2, 3]]) (vs := [vq]) (r := .v (.one (.b true)))
        (il_cons (I_parts (kq := [0, 1, 2, 3]) (q := q) (kr := [0, 1, 2, 3]) ⟨rfl, rfl, rfl, rfl, trivial⟩ ⟨rfl, rfl, rfl, rfl, trivial⟩ (hq.mono (by decide))) (il_cons (I_fValid (i := 0) (l := .b true) rfl (lb gq.comp.w) (hq.w.mono (by decide))) (il_cons (I_fValid (i := 1) (l := .b true) rfl (lb gq.comp.x) (hq.x.mono (by decide))) (il_cons (I_fValid (i := 2) (l := .b true) rfl (lb gq.comp.y) (hq.y.mono (by decide))) (il_cons (I_fValid (i := 3) (l := .b true) rfl (lb gq.comp.z) (hq.z.mono (by decide))) (il_cons (I_fSign (i := 0) rfl (li (sgn0 c0)) (hq.w.mono (by decide))) (il_cons (I_fSign (i := 1) rfl (lr (n := 15) rfl) (hq.x.mono (by decide))) (il_cons (I_fInt (k := 4) rfl (by decide) (by decide)) (il_cons (I_fCmp (i := 1) (j := 4) rfl rfl (li ((o_zero gq.comp.x (ofInt_valid 1)).2 (e1.symm.trans (good_first gq)))) (hq.x.mono (by decide)) ((ok_int (u := 1) (by decide) (by decide)).mono (by decide))) il_nil)))))))))
        (ol_cons (o_neq (n := 15) (c := 0) (t := 3) rfl (sgn_nq c1)) (ol_nil)) (by kernel_rfl) Try.func11 (by kernel_rfl) ⟨(row_isL (xs := xfValidT12X q) (ks := [0, 1, 2, 3]) (vs := [q.w, q.x, q.y, q.z]) ⟨rfl, rfl, rfl, rfl, trivial⟩).2 iq, trivial⟩).mono ?_
      rintro e w' ⟨v, rfl, h1, h2⟩
      exact ⟨congrArg Ending.returned h1, h2⟩
  · have e1 : q.first = q.w := by simp [Qq.first, c0]
    refine (calls_runFn (ρ := frs (xfValidT13X q) ++ [.val (.int .i64 q.w.sgn)]) (w := w) (fuel := 300) (args := [row [0, 1, 2, 3]]) (vs := [vq]) (r := .v (.one (.b true)))
      (il_cons (I_parts (kq := [0, 1, 2, 3]) (q := q) (kr := [0, 1, 2, 3]) ⟨rfl, rfl, rfl, rfl, trivial⟩ ⟨rfl, rfl, rfl, rfl, trivial⟩ (hq.mono (by decide))) (il_cons (I_fValid (i := 0) (l := .b true) rfl (lb gq.comp.w) (hq.w.mono (by decide))) (il_cons (I_fValid (i := 1) (l := .b true) rfl (lb gq.comp.x) (hq.x.mono (by decide))) (il_cons (I_fValid (i := 2) (l := .b true) rfl (lb gq.comp.y) (hq.y.mono (by decide))) (il_cons (I_fValid (i := 3) (l := .b true) rfl (lb gq.comp.z) (hq.z.mono (by decide))) (il_cons (I_fSign (i := 0) rfl (lr (n := 15) rfl) (hq.w.mono (by decide))) (il_cons (I_fInt (k := 4) rfl (by decide) (by decide)) (il_cons (I_fCmp (i := 0) (j := 4) rfl rfl (li ((o_zero gq.comp.w (ofInt_valid 1)).2 (e1.symm.trans (good_first gq)))) (hq.w.mono (by decide)) ((ok_int (u := 1) (by decide) (by decide)).mono (by decide))) il_nil))))))))
      (ol_cons (o_neq (n := 15) (c := 0) (t := 3) rfl (sgn_nq c0)) (ol_nil)) (by kernel_rfl) Try.func11 (by kernel_rfl) ⟨(row_isL (xs := xfValidT13X q) (ks := [0, 1, 2, 3]) (vs := [q.w, q.x, q.y, q.z]) ⟨rfl, rfl, rfl, rfl, trivial⟩).2 iq, trivial⟩).mono ?_
    rintro e w' ⟨v, rfl, h1, h2⟩
    exact ⟨congrArg Ending.returned h1, h2⟩
theorem I_fValidT1 {xs : List Fq} {ys : Rho} {kq : List Nat} {q : Qq}  (aq : AtL xs kq [q.w, q.x, q.y, q.z])  (hq : q.ok 100000) (gq : q.good) : OkI xs ys ⟨11, [row kq], .v (.one (.b true))⟩ :=
  ⟨enters Try.func11 rfl rfl, fun B w vs h => by
    match vs, h with
    | [vq], h =>
      refine (q_fValidT1 vq q w ((row_isL aq).1 h.1) hq gq).mono ?_
      rintro e w' ⟨rfl, h2⟩
      exact ⟨_, rfl, rfl, h2⟩⟩
end Go.Proofs.Ythefidbgjgfeiaa
namespace Go.Proofs.Ythefidbgjgfeiaa
set_option linter.unusedSimpArgs false
set_option linter.unusedVariables false
set_option maxRecDepth 100000
open Go.RowKit
/-- A fraction of two small numbers. -/
def Fq.part (a b : Int) : Fq := Fq.ratio (a.tmod 40) (if b.tmod 20 = 0 then 1 else b.tmod 20)
def Qq.orId (q : Qq) : Qq := if q.first.p = 0 then .id else q.canon
theorem tm_abs (a c : Int) : (a.tmod c).natAbs ≤ a.natAbs := by rw [Int.natAbs_tmod]; exact Nat.mod_le _ _
theorem tm_lo {a c : Int} (l : -128 ≤ a) (r : a ≤ 127) : -128 ≤ a.tmod c := by have := tm_abs a c; omega
theorem tm_hi {a c : Int} (l : -128 ≤ a) (r : a ≤ 127) : a.tmod c ≤ 128 := by have := tm_abs a c; omega
theorem tm_lo6 {a c : Int} (l : -128 ≤ a) (r : a ≤ 127) : -9223372036854775808 ≤ a.tmod c := by have := tm_abs a c; omega
theorem tm_hi6 {a c : Int} (l : -128 ≤ a) (r : a ≤ 127) : a.tmod c < 9223372036854775808 := by have := tm_abs a c; omega
theorem flat_i8 {u : Int} : Flat (.int .i8 u) := ⟨fun _ h => by (cases h), fun _ h => by (cases h), fun _ h => by (cases h)⟩
def AtI (ρ : Rho) : List Nat → List Int → Prop
  | [], [] => True
  | n :: ns, z :: zs => ρ[n]? = some (.val (.int .i8 z)) ∧ AtI ρ ns zs
  | _, _ => False
def intsSV (ns : List Nat) : SV := .agg (ns.map .ref)
section
variable {ρ : Rho} {xs : List Fq} {ys : Rho} {n m k : Nat} {u c v : Int} {l l1 l2 : Leaf} {t s d : TypeId}
theorem eq_eql (h : u = c) : (u == c) = true := by simpa using h
theorem lr8 (hn : ρ[n]? = some (.val (.int .i8 u))) : ∀ B w, (Leaf.ref n).holds ρ B w (.int .i8 u) := fun _ _ => ⟨_, hn, rfl, flat_i8⟩
theorem ints_leaves {B : Blk} {w : World} : ∀ {ns : List Nat} {zs : List Int} {cs : List Value}, AtI ρ ns zs → (LeavesH ρ B w (ns.map .ref) cs ↔ cs = zs.map (Value.int .i8))
  | [], [], cs, _ => by
    constructor
    · intro h; match cs, h with | [], _ => rfl
    · rintro rfl; trivial
  | n :: ns, z :: zs, cs, h => by
    have ih := fun cs => ints_leaves (B := B) (w := w) (cs := cs) h.2
    constructor
    · intro hl
      match cs, hl with
      | c :: cs, hl =>
        obtain ⟨⟨s, h1, h2⟩, h3⟩ := hl
        rw [h.1] at h1; injection h1 with h1; subst h1
        rw [h2.1, (ih cs).1 h3]; rfl
      | [], hl => exact hl.elim
    · rintro rfl
      exact ⟨lr8 h.1 _ _, (ih _).2 rfl⟩
  | [], _ :: _, _, h => h.elim
  | _ :: _, [], _, h => h.elim
theorem ints_holds {B : Blk} {w : World} {x : Value} {ns : List Nat} {zs : List Int} (h : AtI ρ ns zs) : (intsSV ns).holds ρ B w x ↔ x = .agg (zs.map (Value.int .i8)).toArray := by
  constructor
  · rintro ⟨cs, rfl, h1⟩; rw [(ints_leaves h).1 h1]
  · rintro rfl; exact ⟨_, rfl, (ints_leaves h).2 rfl⟩
theorem o_rem (hn : ρ[n]? = some (.val (.int .i8 u))) (hm : ρ[m]? = some (.val (.int .i8 (u.tmod c)))) (l : -128 ≤ u) (r : u ≤ 127) (h0 : 0 < c) (h1 : c < 100) : (OIns.mk (.bin .rem t) [.one (.ref n), .one (.i .i8 c)] (.one (.ref m))).Ok Try.prog ρ := fun B w vs hv => by
  match vs, hv with
  | [v1, v2], hv =>
    obtain ⟨⟨s, g1, g2⟩, g3, _⟩ := hv
    rw [hn] at g1; injection g1 with g1; subst g1
    obtain ⟨rfl, _⟩ := g2
    have e : v2 = .int .i8 c := g3
    subst e
    refine ⟨.int .i8 (u.tmod c), lr8 hm B w, fun xo yo => ?_⟩
    have hc : c ≠ 0 := by omega
    simp [eqGuard, binOp, Op.intDiv, Sem.run_bind, Result.andThen, hc]
theorem o_conv (hs : (match Try.prog.underlying s with | some (.int .i8) => true | _ => false) = true) (hd : (match Try.prog.underlying d with | some (.int .i64) => true | _ => false) = true) (hn : ρ[n]? = some (.val (.int .i8 u))) (hm : ρ[m]? = some (.val (.int .i64 u))) (l : -128 ≤ u) (r : u ≤ 128) : (OIns.mk (.conv s d) [.one (.ref n)] (.one (.ref m))).Ok Try.prog ρ := fun B w vs hv => by
  match vs, hv with
  | [v1], hv =>
    obtain ⟨⟨z, g1, g2⟩, _⟩ := hv
    rw [hn] at g1; injection g1 with g1; subst g1
    obtain ⟨rfl, _⟩ := g2
    refine ⟨.int .i64 u, lr hm B w, ?_⟩
    have es : Try.prog.underlying s = some (.int .i8) := by
      split at hs
      · assumption
      · cases hs
    have ed : Try.prog.underlying d = some (.int .i64) := by
      split at hd
      · assumption
      · cases hd
    have hw : IntKind.i64.wrap u = u := Go.IntWalk.i64_in _ ⟨by omega, by omega⟩
    unfold convert
    rw [Sem.run_bind, run_underlying es]
    simp only [Result.andThen]
    rw [Sem.run_bind, run_underlying ed]
    simp [Result.andThen, Conv.intToInt, hw]
theorem lv_i (h : c = u) : ∀ B w x, (Leaf.i .i64 c).holds ρ B w x → x = .int .i64 u := fun _ _ x hx => by subst h; exact hx
theorem lv_r (hn : ρ[n]? = some (.val (.int .i64 u))) : ∀ B w x, (Leaf.ref n).holds ρ B w x → x = .int .i64 u := fun _ _ x ⟨s, h1, h2⟩ => by
  rw [hn] at h1; injection h1 with h1; subst h1; exact h2.1
theorem I_rRatio (h1 : ∀ B w x, l1.holds (frs xs ++ ys) B w x → x = .int .i64 v) (h2 : ∀ B w x, l2.holds (frs xs ++ ys) B w x → x = .int .i64 u) (lv : -9223372036854775808 ≤ v) (rv : v < 9223372036854775808) (lu : -9223372036854775808 ≤ u) (ru : u < 9223372036854775808) (h0 : u ≠ 0) (hk : xs[k]? = some (.ratio v u)) : OkI xs ys ⟨37, [.one l1, .one l2], .tup [fr k, .one (.i .i64 0)]⟩ :=
  ⟨enters Try.func37 rfl rfl, fun B w vs h => by
    match vs, h with
    | [va, vb], h =>
      have e1 := h1 B w va h.1
      have e2 := h2 B w vb h.2.1
      subst e1; subst e2
      refine (q_rRatio v u w lv rv lu ru h0).mono ?_
      rintro e w' ⟨v, rfl, h1, h2⟩
      exact ⟨_, rfl, ⟨[v, .int .i64 0], rfl, (fr_isQ hk).2 h1, rfl, trivial⟩, h2⟩⟩
end
theorem part_ok {a b : Int} (la : -128 ≤ a) (ra : a ≤ 127) (lb_ : -128 ≤ b) (rb : b ≤ 127) : (Fq.part a b).ok 2 := by
  unfold Fq.part
  split
  · exact Fq.ok_low (nl_abs (tm_lo6 la ra) (tm_hi6 la ra)) (nl_le_iff.2 (by show (1 : Nat) < 4294967296 ^ 2; decide)) (by decide)
  · rename_i h
    exact Fq.ok_low (nl_abs (tm_lo6 la ra) (tm_hi6 la ra)) (nl_abs (tm_lo6 lb_ rb) (tm_hi6 lb_ rb)) (by omega)
theorem part_valid (a b : Int) : (Fq.part a b).valid = true := by
  unfold Fq.part
  split
  · exact low_valid (by decide)
  · rename_i h
    exact low_valid (by omega)
def xFrac1X (a b : Int) : List Fq := [(Fq.ratio (a.tmod 40) 1)]
def xFrac0X (a b : Int) : List Fq := [(Fq.ratio (a.tmod 40) (b.tmod 20))]
theorem q_Frac (a b : Int) (w : World) (la : -128 ≤ a) (ra : a ≤ 127) (lb_ : -128 ≤ b) (rb : b ≤ 127) : Calls Try.prog 9 #[.agg #[.int .i8 a, .int .i8 b]] w fun e w' => RetQ w (Fq.part a b) e w' := by
  by_cases h0 : b.tmod 20 = 0
  · rw [show Fq.part a b = (Fq.ratio (a.tmod 40) 1) by simp [Fq.part, h0]]
    refine (calls_runFn (ρ := frs (xFrac1X a b) ++ [.val (.int .i8 a), .val (.int .i8 b), .val (.int .i8 (b.tmod 20)), .val (.int .i64 (b.tmod 20)), .val (.int .i8 (a.tmod 40)), .val (.int .i64 (a.tmod 40))]) (w := w) (fuel := 300) (args := [.agg [.ref 3, .ref 4]]) (vs := [.agg #[.int .i8 a, .int .i8 b]]) (r := .v (fr 0))
      (il_cons (I_rRatio (k := 0) (lv_r (n := 8) rfl) (lv_i rfl) (tm_lo6 la ra) (tm_hi6 la ra) (by decide) (by decide) (by decide) rfl) il_nil)
      (ol_cons (o_rem (n := 4) (m := 5) (c := 20) (t := 22) rfl rfl lb_ rb (by decide) (by decide)) (ol_cons (o_conv (n := 5) (m := 6) (s := 22) (d := 2) (by kernel_rfl) (by kernel_rfl) rfl rfl (tm_lo lb_ rb) (tm_hi lb_ rb)) (ol_cons (o_eql (n := 6) (c := 0) (t := 2) rfl (eq_eql h0)) (ol_cons (o_rem (n := 3) (m := 7) (c := 40) (t := 22) rfl rfl la ra (by decide) (by decide)) (ol_cons (o_conv (n := 7) (m := 8) (s := 22) (d := 2) (by kernel_rfl) (by kernel_rfl) rfl rfl (tm_lo la ra) (tm_hi la ra)) (ol_nil)))))) (by kernel_rfl) Try.func9 (by kernel_rfl) ⟨⟨[_, _], rfl, lr8 rfl _ _, lr8 rfl _ _, trivial⟩, trivial⟩).mono ?_
    rintro e w' ⟨v, rfl, h1, h2⟩
    exact ⟨v, rfl, (fr_isQ (xs := xFrac1X a b) (k := 0) rfl).1 h1, h2⟩
  · rw [show Fq.part a b = (Fq.ratio (a.tmod 40) (b.tmod 20)) by simp [Fq.part, h0]]
    refine (calls_runFn (ρ := frs (xFrac0X a b) ++ [.val (.int .i8 a), .val (.int .i8 b), .val (.int .i8 (b.tmod 20)), .val (.int .i64 (b.tmod 20)), .val (.int .i8 (a.tmod 40)), .val (.int .i64 (a.tmod 40))]) (w := w) (fuel := 300) (args := [.agg [.ref 3, .ref 4]]) (vs := [.agg #[.int .i8 a, .int .i8 b]]) (r := .v (fr 0))
      (il_cons (I_rRatio (k := 0) (lv_r (n := 8) rfl) (lv_r (n := 6) rfl) (tm_lo6 la ra) (tm_hi6 la ra) (tm_lo6 lb_ rb) (tm_hi6 lb_ rb) h0 rfl) il_nil)
      (ol_cons (o_rem (n := 4) (m := 5) (c := 20) (t := 22) rfl rfl lb_ rb (by decide) (by decide)) (ol_cons (o_conv (n := 5) (m := 6) (s := 22) (d := 2) (by kernel_rfl) (by kernel_rfl) rfl rfl (tm_lo lb_ rb) (tm_hi lb_ rb)) (ol_cons (o_eql (n := 6) (c := 0) (t := 2) rfl (ne_eql h0)) (ol_cons (o_rem (n := 3) (m := 7) (c := 40) (t := 22) rfl rfl la ra (by decide) (by decide)) (ol_cons (o_conv (n := 7) (m := 8) (s := 22) (d := 2) (by kernel_rfl) (by kernel_rfl) rfl rfl (tm_lo la ra) (tm_hi la ra)) (ol_nil)))))) (by kernel_rfl) Try.func9 (by kernel_rfl) ⟨⟨[_, _], rfl, lr8 rfl _ _, lr8 rfl _ _, trivial⟩, trivial⟩).mono ?_
    rintro e w' ⟨v, rfl, h1, h2⟩
    exact ⟨v, rfl, (fr_isQ (xs := xFrac0X a b) (k := 0) rfl).1 h1, h2⟩
theorem I_Frac {xs : List Fq} {ys : Rho} {n m k : Nat} {a b : Int} {x : Fq} (hn : (frs xs ++ ys)[n]? = some (.val (.int .i8 a))) (hm : (frs xs ++ ys)[m]? = some (.val (.int .i8 b))) (hk : xs[k]? = some x) (e : Fq.part a b = x) (la : -128 ≤ a) (ra : a ≤ 127) (lb_ : -128 ≤ b) (rb : b ≤ 127) : OkI xs ys ⟨9, [.agg [.ref n, .ref m]], .v (fr k)⟩ :=
  ⟨enters Try.func9 rfl rfl, fun B w vs h => by
    match vs, h with
    | [va], h =>
      have e1 := (ints_holds (ns := [n, m]) (zs := [a, b]) ⟨hn, hm, trivial⟩).1 h.1
      subst e1; subst e
      refine (q_Frac a b w la ra lb_ rb).mono ?_
      rintro e w' ⟨v, rfl, h1, h2⟩
      exact ⟨v, rfl, (fr_isQ hk).2 h1, h2⟩⟩
def xQuat0X (a0 b0 a1 b1 a2 b2 a3 b3 : Int) : List Fq := [(Fq.part a0 b0), (Fq.part a1 b1), (Fq.part a2 b2), (Fq.part a3 b3), Qq.zero.w, Qq.zero.x, Qq.zero.y, Qq.zero.z, Qq.id.w, Qq.id.x, Qq.id.y, Qq.id.z]
def xQuat1X (a0 b0 a1 b1 a2 b2 a3 b3 : Int) : List Fq := [(Fq.part a0 b0), (Fq.part a1 b1), (Fq.part a2 b2), (Fq.part a3 b3), (Qq.mk (Fq.part a0 b0) (Fq.part a1 b1) (Fq.part a2 b2) (Fq.part a3 b3)).canon.w, (Qq.mk (Fq.part a0 b0) (Fq.part a1 b1) (Fq.part a2 b2) (Fq.part a3 b3)).canon.x, (Qq.mk (Fq.part a0 b0) (Fq.part a1 b1) (Fq.part a2 b2) (Fq.part a3 b3)).canon.y, (Qq.mk (Fq.part a0 b0) (Fq.part a1 b1) (Fq.part a2 b2) (Fq.part a3 b3)).canon.z]
theorem q_Quat (a0 b0 a1 b1 a2 b2 a3 b3 : Int) (w : World) (la0 : -128 ≤ a0) (ra0 : a0 ≤ 127) (lb0 : -128 ≤ b0) (rb0 : b0 ≤ 127) (la1 : -128 ≤ a1) (ra1 : a1 ≤ 127) (lb1 : -128 ≤ b1) (rb1 : b1 ≤ 127) (la2 : -128 ≤ a2) (ra2 : a2 ≤ 127) (lb2 : -128 ≤ b2) (rb2 : b2 ≤ 127) (la3 : -128 ≤ a3) (ra3 : a3 ≤ 127) (lb3 : -128 ≤ b3) (rb3 : b3 ≤ 127) : Calls Try.prog 15 #[.agg #[.int .i8 a0, .int .i8 b0, .int .i8 a1, .int .i8 b1, .int .i8 a2, .int .i8 b2, .int .i8 a3, .int .i8 b3]] w fun e w' => RetQt w (Qq.orId (Qq.mk (Fq.part a0 b0) (Fq.part a1 b1) (Fq.part a2 b2) (Fq.part a3 b3))) e w' := by
  by_cases h0 : (Qq.mk (Fq.part a0 b0) (Fq.part a1 b1) (Fq.part a2 b2) (Fq.part a3 b3)).first.p = 0
  · rw [show Qq.orId (Qq.mk (Fq.part a0 b0) (Fq.part a1 b1) (Fq.part a2 b2) (Fq.part a3 b3)) = Qq.id by unfold Qq.orId; rw [if_pos h0]]
    refine (calls_runFn (ρ := frs (xQuat0X a0 b0 a1 b1 a2 b2 a3 b3) ++ [.val (.int .i8 a0), .val (.int .i8 b0), .val (.int .i8 a1), .val (.int .i8 b1), .val (.int .i8 a2), .val (.int .i8 b2), .val (.int .i8 a3), .val (.int .i8 b3)]) (w := w) (fuel := 300) (args := [.agg [.ref 36, .ref 37, .ref 38, .ref 39, .ref 40, .ref 41, .ref 42, .ref 43]]) (vs := [.agg #[.int .i8 a0, .int .i8 b0, .int .i8 a1, .int .i8 b1, .int .i8 a2, .int .i8 b2, .int .i8 a3, .int .i8 b3]]) (r := .v (row [8, 9, 10, 11]))
      (il_cons (I_Frac (n := 36) (m := 37) (k := 0) rfl rfl rfl rfl la0 ra0 lb0 rb0) (il_cons (I_Frac (n := 38) (m := 39) (k := 1) rfl rfl rfl rfl la1 ra1 lb1 rb1) (il_cons (I_Frac (n := 40) (m := 41) (k := 2) rfl rfl rfl rfl la2 ra2 lb2 rb2) (il_cons (I_Frac (n := 42) (m := 43) (k := 3) rfl rfl rfl rfl la3 ra3 lb3 rb3) (il_cons (I_rMakeT0 (ip0 := 0) (ip1 := 1) (ip2 := 2) (ip3 := 3) (kr := [4, 5, 6, 7]) rfl rfl rfl rfl ⟨rfl, rfl, rfl, rfl, trivial⟩ ((part_ok la0 ra0 lb0 rb0).mono (by decide)) ((part_ok la1 ra1 lb1 rb1).mono (by decide)) ((part_ok la2 ra2 lb2 rb2).mono (by decide)) ((part_ok la3 ra3 lb3 rb3).mono (by decide)) h0) (il_cons (I_rId (kr := [8, 9, 10, 11]) ⟨rfl, rfl, rfl, rfl, trivial⟩) il_nil))))))
      ol_nil (by kernel_rfl) Try.func15 (by kernel_rfl) ⟨⟨[_, _, _, _, _, _, _, _], rfl, lr8 rfl _ _, lr8 rfl _ _, lr8 rfl _ _, lr8 rfl _ _, lr8 rfl _ _, lr8 rfl _ _, lr8 rfl _ _, lr8 rfl _ _, trivial⟩, trivial⟩).mono ?_
    rintro e w' ⟨v, rfl, h1, h2⟩
    exact ⟨v, rfl, (row_isL (xs := xQuat0X a0 b0 a1 b1 a2 b2 a3 b3) (ks := [8, 9, 10, 11]) (vs := [Qq.id.w, Qq.id.x, Qq.id.y, Qq.id.z]) ⟨rfl, rfl, rfl, rfl, trivial⟩).1 h1, h2⟩
  · rw [show Qq.orId (Qq.mk (Fq.part a0 b0) (Fq.part a1 b1) (Fq.part a2 b2) (Fq.part a3 b3)) = (Qq.mk (Fq.part a0 b0) (Fq.part a1 b1) (Fq.part a2 b2) (Fq.part a3 b3)).canon by unfold Qq.orId; rw [if_neg h0]]
    refine (calls_runFn (ρ := frs (xQuat1X a0 b0 a1 b1 a2 b2 a3 b3) ++ [.val (.int .i8 a0), .val (.int .i8 b0), .val (.int .i8 a1), .val (.int .i8 b1), .val (.int .i8 a2), .val (.int .i8 b2), .val (.int .i8 a3), .val (.int .i8 b3)]) (w := w) (fuel := 300) (args := [.agg [.ref 24, .ref 25, .ref 26, .ref 27, .ref 28, .ref 29, .ref 30, .ref 31]]) (vs := [.agg #[.int .i8 a0, .int .i8 b0, .int .i8 a1, .int .i8 b1, .int .i8 a2, .int .i8 b2, .int .i8 a3, .int .i8 b3]]) (r := .v (row [4, 5, 6, 7]))
      (il_cons (I_Frac (n := 24) (m := 25) (k := 0) rfl rfl rfl rfl la0 ra0 lb0 rb0) (il_cons (I_Frac (n := 26) (m := 27) (k := 1) rfl rfl rfl rfl la1 ra1 lb1 rb1) (il_cons (I_Frac (n := 28) (m := 29) (k := 2) rfl rfl rfl rfl la2 ra2 lb2 rb2) (il_cons (I_Frac (n := 30) (m := 31) (k := 3) rfl rfl rfl rfl la3 ra3 lb3 rb3) (il_cons (I_rMakeT (ip0 := 0) (ip1 := 1) (ip2 := 2) (ip3 := 3) (kr := [4, 5, 6, 7]) rfl rfl rfl rfl ⟨rfl, rfl, rfl, rfl, trivial⟩ ((part_ok la0 ra0 lb0 rb0).mono (by decide)) ((part_ok la1 ra1 lb1 rb1).mono (by decide)) ((part_ok la2 ra2 lb2 rb2).mono (by decide)) ((part_ok la3 ra3 lb3 rb3).mono (by decide)) h0) il_nil)))))
      ol_nil (by kernel_rfl) Try.func15 (by kernel_rfl) ⟨⟨[_, _, _, _, _, _, _, _], rfl, lr8 rfl _ _, lr8 rfl _ _, lr8 rfl _ _, lr8 rfl _ _, lr8 rfl _ _, lr8 rfl _ _, lr8 rfl _ _, lr8 rfl _ _, trivial⟩, trivial⟩).mono ?_
    rintro e w' ⟨v, rfl, h1, h2⟩
    exact ⟨v, rfl, (row_isL (xs := xQuat1X a0 b0 a1 b1 a2 b2 a3 b3) (ks := [4, 5, 6, 7]) (vs := [(Qq.mk (Fq.part a0 b0) (Fq.part a1 b1) (Fq.part a2 b2) (Fq.part a3 b3)).canon.w, (Qq.mk (Fq.part a0 b0) (Fq.part a1 b1) (Fq.part a2 b2) (Fq.part a3 b3)).canon.x, (Qq.mk (Fq.part a0 b0) (Fq.part a1 b1) (Fq.part a2 b2) (Fq.part a3 b3)).canon.y, (Qq.mk (Fq.part a0 b0) (Fq.part a1 b1) (Fq.part a2 b2) (Fq.part a3 b3)).canon.z]) ⟨rfl, rfl, rfl, rfl, trivial⟩).1 h1, h2⟩
theorem I_Quat {xs : List Fq} {ys : Rho} {ns kr : List Nat} {a0 b0 a1 b1 a2 b2 a3 b3 : Int} {E : Qq} (hn : AtI (frs xs ++ ys) ns [a0, b0, a1, b1, a2, b2, a3, b3]) (ar : AtL xs kr [E.w, E.x, E.y, E.z]) (e : (Qq.orId (Qq.mk (Fq.part a0 b0) (Fq.part a1 b1) (Fq.part a2 b2) (Fq.part a3 b3))) = E) (la0 : -128 ≤ a0) (ra0 : a0 ≤ 127) (lb0 : -128 ≤ b0) (rb0 : b0 ≤ 127) (la1 : -128 ≤ a1) (ra1 : a1 ≤ 127) (lb1 : -128 ≤ b1) (rb1 : b1 ≤ 127) (la2 : -128 ≤ a2) (ra2 : a2 ≤ 127) (lb2 : -128 ≤ b2) (rb2 : b2 ≤ 127) (la3 : -128 ≤ a3) (ra3 : a3 ≤ 127) (lb3 : -128 ≤ b3) (rb3 : b3 ≤ 127) : OkI xs ys ⟨15, [intsSV ns], .v (row kr)⟩ :=
  ⟨enters Try.func15 rfl rfl, fun B w vs h => by
    match vs, h with
    | [va], h =>
      have e1 := (ints_holds hn).1 h.1
      subst e1; subst e
      refine (q_Quat a0 b0 a1 b1 a2 b2 a3 b3 w la0 ra0 lb0 rb0 la1 ra1 lb1 rb1 la2 ra2 lb2 rb2 la3 ra3 lb3 rb3).mono ?_
      rintro e w' ⟨v, rfl, h1, h2⟩
      exact ⟨v, rfl, (row_isL ar).2 h1, h2⟩⟩
def xawakeX  : List Fq := [(Fq.ofInt 1), (Fq.ofInt 0), (Qq.mk (Fq.ofInt 1) (Fq.ofInt 0) (Fq.ofInt 0) (Fq.ofInt 1)).canon.w, (Qq.mk (Fq.ofInt 1) (Fq.ofInt 0) (Fq.ofInt 0) (Fq.ofInt 1)).canon.x, (Qq.mk (Fq.ofInt 1) (Fq.ofInt 0) (Fq.ofInt 0) (Fq.ofInt 1)).canon.y, (Qq.mk (Fq.ofInt 1) (Fq.ofInt 0) (Fq.ofInt 0) (Fq.ofInt 1)).canon.z, (Vq.of 1 0 0).x, (Vq.of 1 0 0).y, (Vq.of 1 0 0).z, ((Qq.mk (Fq.ofInt 1) (Fq.ofInt 0) (Fq.ofInt 0) (Fq.ofInt 1)).canon.app (Vq.of 1 0 0)).x, ((Qq.mk (Fq.ofInt 1) (Fq.ofInt 0) (Fq.ofInt 0) (Fq.ofInt 1)).canon.app (Vq.of 1 0 0)).y, ((Qq.mk (Fq.ofInt 1) (Fq.ofInt 0) (Fq.ofInt 0) (Fq.ofInt 1)).canon.app (Vq.of 1 0 0)).z, (Vq.of 0 1 0).x, (Vq.of 0 1 0).y, (Vq.of 0 1 0).z, Qq.id.w, Qq.id.x, Qq.id.y, Qq.id.z]
theorem q_awake  (w : World)   :
    Calls Try.prog 17 #[] w fun e w' => RetV w (.bool true) e w' := by
  refine (calls_runFn (ρ := frs (xawakeX ) ++ []) (w := w) (fuel := 300) (args := []) (vs := []) (r := .v (.one (.b true)))
    (il_cons (I_rInt (k := 0) rfl (by decide) (by decide)) (il_cons (I_rInt (k := 1) rfl (by decide) (by decide)) (il_cons (I_fMakeT (ip0 := 0) (ip1 := 1) (ip2 := 1) (ip3 := 0) (kr := [2, 3, 4, 5]) rfl rfl rfl rfl ⟨rfl, rfl, rfl, rfl, trivial⟩ ((ok_int (u := 1) (by decide) (by decide)).mono (by decide)) ((ok_int (u := 0) (by decide) (by decide)).mono (by decide)) ((ok_int (u := 0) (by decide) (by decide)).mono (by decide)) ((ok_int (u := 1) (by decide) (by decide)).mono (by decide)) (by decide)) (il_cons (I_rUnit0 (kr := [6, 7, 8]) ⟨rfl, rfl, rfl, trivial⟩) (il_cons (I_fApp (kq := [2, 3, 4, 5]) (q := (Qq.mk (Fq.ofInt 1) (Fq.ofInt 0) (Fq.ofInt 0) (Fq.ofInt 1)).canon) (ka := [6, 7, 8]) (a := (Vq.of 1 0 0)) (kr := [9, 10, 11]) ⟨rfl, rfl, rfl, rfl, trivial⟩ ⟨rfl, rfl, rfl, trivial⟩ ⟨rfl, rfl, rfl, trivial⟩ ((canon4_ok (ok_int (u := 1) (by decide) (by decide)) (ok_int (u := 0) (by decide) (by decide)) (ok_int (u := 0) (by decide) (by decide)) (ok_int (u := 1) (by decide) (by decide)) (by decide)).mono (by decide)) ((ok_vof (by decide) (by decide) (by decide) (by decide) (by decide) (by decide)).mono (by decide)) (canon_good ⟨ofInt_valid 1, ofInt_valid 0, ofInt_valid 0, ofInt_valid 1⟩ (by decide))) (il_cons (I_rUnit1 (kr := [12, 13, 14]) ⟨rfl, rfl, rfl, trivial⟩) (il_cons (I_SameVec1 (ka := [9, 10, 11]) (a := ((Qq.mk (Fq.ofInt 1) (Fq.ofInt 0) (Fq.ofInt 0) (Fq.ofInt 1)).canon.app (Vq.of 1 0 0))) (kb := [12, 13, 14]) (b := (Vq.of 0 1 0)) ⟨rfl, rfl, rfl, trivial⟩ ⟨rfl, rfl, rfl, trivial⟩ (((canon4_ok (ok_int (u := 1) (by decide) (by decide)) (ok_int (u := 0) (by decide) (by decide)) (ok_int (u := 0) (by decide) (by decide)) (ok_int (u := 1) (by decide) (by decide)) (by decide)).app (ok_vof (by decide) (by decide) (by decide) (by decide) (by decide) (by decide)) (canon_good ⟨ofInt_valid 1, ofInt_valid 0, ofInt_valid 0, ofInt_valid 1⟩ (by decide))).mono (by decide)) ((ok_vof (by decide) (by decide) (by decide) (by decide) (by decide) (by decide)).mono (by decide)) (by kernel_rfl)) (il_cons (I_fId (kr := [15, 16, 17, 18]) ⟨rfl, rfl, rfl, rfl, trivial⟩) (il_cons (I_fValidT1 (kq := [15, 16, 17, 18]) (q := Qq.id) ⟨rfl, rfl, rfl, rfl, trivial⟩ (ok_id.mono (by decide)) id_good) il_nil)))))))))
    ol_nil (by kernel_rfl) Try.func17 (by kernel_rfl) trivial).mono ?_
  rintro e w' ⟨v, rfl, h1, h2⟩
  exact ⟨congrArg Ending.returned h1, h2⟩
theorem I_awake {xs : List Fq} {ys : Rho}      : OkI xs ys ⟨17, [], .v (.one (.b true))⟩ :=
  ⟨enters Try.func17 rfl rfl, fun B w vs h => by
    match vs, h with
    | [], h =>
      refine (q_awake w).mono ?_
      rintro e w' ⟨rfl, h2⟩
      exact ⟨_, rfl, rfl, h2⟩⟩
end Go.Proofs.Ythefidbgjgfeiaa
namespace Go.Proofs.Ythefidbgjgfeiaa
set_option linter.unusedSimpArgs false
set_option linter.unusedVariables false
set_option maxRecDepth 100000
open Go.RowKit
theorem orId_good {q : Qq} (h : q.comp) : q.orId.good := by
  unfold Qq.orId
  split
  · exact id_good
  · rename_i h0; exact canon_good h h0
theorem orId_ok {q : Qq} (h : q.ok 2) : q.orId.ok 4 := by
  unfold Qq.orId
  split
  · exact ok_id.mono (by decide)
  · rename_i h0; exact h.canon h0
def xRotationGroupX (P Q R : Qq) (a0n a0d a1n a1d a2n a2d a3n a3d b0n b0d b1n b1d b2n b2d b3n b3d c0n c0d c1n c1d c2n c2d c3n c3d : Int) : List Fq := [P.w, P.x, P.y, P.z, Q.w, Q.x, Q.y, Q.z, R.w, R.x, R.y, R.z, Qq.id.w, Qq.id.x, Qq.id.y, Qq.id.z, (P.mul Q).w, (P.mul Q).x, (P.mul Q).y, (P.mul Q).z, P.inv.w, P.inv.x, P.inv.y, P.inv.z, ((P.mul Q).mul R).w, ((P.mul Q).mul R).x, ((P.mul Q).mul R).y, ((P.mul Q).mul R).z, (Q.mul R).w, (Q.mul R).x, (Q.mul R).y, (Q.mul R).z, (P.mul (Q.mul R)).w, (P.mul (Q.mul R)).x, (P.mul (Q.mul R)).y, (P.mul (Q.mul R)).z, (P.mul Qq.id).w, (P.mul Qq.id).x, (P.mul Qq.id).y, (P.mul Qq.id).z, (Qq.id.mul P).w, (Qq.id.mul P).x, (Qq.id.mul P).y, (Qq.id.mul P).z, (P.mul P.inv).w, (P.mul P.inv).x, (P.mul P.inv).y, (P.mul P.inv).z]
theorem c_RotationGroup (a0n a0d a1n a1d a2n a2d a3n a3d b0n b0d b1n b1d b2n b2d b3n b3d c0n c0d c1n c1d c2n c2d c3n c3d : Int) (w : World) (la0n : -128 ≤ a0n) (ra0n : a0n ≤ 127) (la0d : -128 ≤ a0d) (ra0d : a0d ≤ 127) (la1n : -128 ≤ a1n) (ra1n : a1n ≤ 127) (la1d : -128 ≤ a1d) (ra1d : a1d ≤ 127) (la2n : -128 ≤ a2n) (ra2n : a2n ≤ 127) (la2d : -128 ≤ a2d) (ra2d : a2d ≤ 127) (la3n : -128 ≤ a3n) (ra3n : a3n ≤ 127) (la3d : -128 ≤ a3d) (ra3d : a3d ≤ 127) (lb0n : -128 ≤ b0n) (rb0n : b0n ≤ 127) (lb0d : -128 ≤ b0d) (rb0d : b0d ≤ 127) (lb1n : -128 ≤ b1n) (rb1n : b1n ≤ 127) (lb1d : -128 ≤ b1d) (rb1d : b1d ≤ 127) (lb2n : -128 ≤ b2n) (rb2n : b2n ≤ 127) (lb2d : -128 ≤ b2d) (rb2d : b2d ≤ 127) (lb3n : -128 ≤ b3n) (rb3n : b3n ≤ 127) (lb3d : -128 ≤ b3d) (rb3d : b3d ≤ 127) (lc0n : -128 ≤ c0n) (rc0n : c0n ≤ 127) (lc0d : -128 ≤ c0d) (rc0d : c0d ≤ 127) (lc1n : -128 ≤ c1n) (rc1n : c1n ≤ 127) (lc1d : -128 ≤ c1d) (rc1d : c1d ≤ 127) (lc2n : -128 ≤ c2n) (rc2n : c2n ≤ 127) (lc2d : -128 ≤ c2d) (rc2d : c2d ≤ 127) (lc3n : -128 ≤ c3n) (rc3n : c3n ≤ 127) (lc3d : -128 ≤ c3d) (rc3d : c3d ≤ 127) : Calls Try.prog 6 #[.agg #[.int .i8 a0n, .int .i8 a0d, .int .i8 a1n, .int .i8 a1d, .int .i8 a2n, .int .i8 a2d, .int .i8 a3n, .int .i8 a3d], .agg #[.int .i8 b0n, .int .i8 b0d, .int .i8 b1n, .int .i8 b1d, .int .i8 b2n, .int .i8 b2d, .int .i8 b3n, .int .i8 b3d], .agg #[.int .i8 c0n, .int .i8 c0d, .int .i8 c1n, .int .i8 c1d, .int .i8 c2n, .int .i8 c2d, .int .i8 c3n, .int .i8 c3d]] w fun e w' => RetV w (.bool true) e w' := by
  obtain ⟨P, eP⟩ : ∃ E, Qq.orId (Qq.mk (Fq.part a0n a0d) (Fq.part a1n a1d) (Fq.part a2n a2d) (Fq.part a3n a3d)) = E := ⟨_, rfl⟩
  have gP : P.good := by rw [← eP]; exact orId_good ⟨part_valid _ _, part_valid _ _, part_valid _ _, part_valid _ _⟩
  have kP : P.ok 4 := by rw [← eP]; exact orId_ok (Qq.ok.mk4 (part_ok la0n ra0n la0d ra0d) (part_ok la1n ra1n la1d ra1d) (part_ok la2n ra2n la2d ra2d) (part_ok la3n ra3n la3d ra3d))
  obtain ⟨Q, eQ⟩ : ∃ E, Qq.orId (Qq.mk (Fq.part b0n b0d) (Fq.part b1n b1d) (Fq.part b2n b2d) (Fq.part b3n b3d)) = E := ⟨_, rfl⟩
  have gQ : Q.good := by rw [← eQ]; exact orId_good ⟨part_valid _ _, part_valid _ _, part_valid _ _, part_valid _ _⟩
  have kQ : Q.ok 4 := by rw [← eQ]; exact orId_ok (Qq.ok.mk4 (part_ok lb0n rb0n lb0d rb0d) (part_ok lb1n rb1n lb1d rb1d) (part_ok lb2n rb2n lb2d rb2d) (part_ok lb3n rb3n lb3d rb3d))
  obtain ⟨R, eR⟩ : ∃ E, Qq.orId (Qq.mk (Fq.part c0n c0d) (Fq.part c1n c1d) (Fq.part c2n c2d) (Fq.part c3n c3d)) = E := ⟨_, rfl⟩
  have gR : R.good := by rw [← eR]; exact orId_good ⟨part_valid _ _, part_valid _ _, part_valid _ _, part_valid _ _⟩
  have kR : R.ok 4 := by rw [← eR]; exact orId_ok (Qq.ok.mk4 (part_ok lc0n rc0n lc0d rc0d) (part_ok lc1n rc1n lc1d rc1d) (part_ok lc2n rc2n lc2d rc2d) (part_ok lc3n rc3n lc3d rc3d))
  refine (calls_runFn (ρ := frs (xRotationGroupX P Q R a0n a0d a1n a1d a2n a2d a3n a3d b0n b0d b1n b1d b2n b2d b3n b3d c0n c0d c1n c1d c2n c2d c3n c3d) ++ [.val (.int .i8 a0n), .val (.int .i8 a0d), .val (.int .i8 a1n), .val (.int .i8 a1d), .val (.int .i8 a2n), .val (.int .i8 a2d), .val (.int .i8 a3n), .val (.int .i8 a3d), .val (.int .i8 b0n), .val (.int .i8 b0d), .val (.int .i8 b1n), .val (.int .i8 b1d), .val (.int .i8 b2n), .val (.int .i8 b2d), .val (.int .i8 b3n), .val (.int .i8 b3d), .val (.int .i8 c0n), .val (.int .i8 c0d), .val (.int .i8 c1n), .val (.int .i8 c1d), .val (.int .i8 c2n), .val (.int .i8 c2d), .val (.int .i8 c3n), .val (.int .i8 c3d)]) (w := w) (fuel := 300) (args := [.agg [.ref 144, .ref 145, .ref 146, .ref 147, .ref 148, .ref 149, .ref 150, .ref 151], .agg [.ref 152, .ref 153, .ref 154, .ref 155, .ref 156, .ref 157, .ref 158, .ref 159], .agg [.ref 160, .ref 161, .ref 162, .ref 163, .ref 164, .ref 165, .ref 166, .ref 167]]) (vs := [.agg #[.int .i8 a0n, .int .i8 a0d, .int .i8 a1n, .int .i8 a1d, .int .i8 a2n, .int .i8 a2d, .int .i8 a3n, .int .i8 a3d], .agg #[.int .i8 b0n, .int .i8 b0d, .int .i8 b1n, .int .i8 b1d, .int .i8 b2n, .int .i8 b2d, .int .i8 b3n, .int .i8 b3d], .agg #[.int .i8 c0n, .int .i8 c0d, .int .i8 c1n, .int .i8 c1d, .int .i8 c2n, .int .i8 c2d, .int .i8 c3n, .int .i8 c3d]]) (r := .v (.one (.b true)))
    (il_cons (I_Quat (ns := [144, 145, 146, 147, 148, 149, 150, 151]) (kr := [0, 1, 2, 3]) (⟨rfl, rfl, rfl, rfl, rfl, rfl, rfl, rfl, trivial⟩) ⟨rfl, rfl, rfl, rfl, trivial⟩ eP la0n ra0n la0d ra0d la1n ra1n la1d ra1d la2n ra2n la2d ra2d la3n ra3n la3d ra3d) (il_cons (I_Quat (ns := [152, 153, 154, 155, 156, 157, 158, 159]) (kr := [4, 5, 6, 7]) (⟨rfl, rfl, rfl, rfl, rfl, rfl, rfl, rfl, trivial⟩) ⟨rfl, rfl, rfl, rfl, trivial⟩ eQ lb0n rb0n lb0d rb0d lb1n rb1n lb1d rb1d lb2n rb2n lb2d rb2d lb3n rb3n lb3d rb3d) (il_cons (I_Quat (ns := [160, 161, 162, 163, 164, 165, 166, 167]) (kr := [8, 9, 10, 11]) (⟨rfl, rfl, rfl, rfl, rfl, rfl, rfl, rfl, trivial⟩) ⟨rfl, rfl, rfl, rfl, trivial⟩ eR lc0n rc0n lc0d rc0d lc1n rc1n lc1d rc1d lc2n rc2n lc2d rc2d lc3n rc3n lc3d rc3d) (il_cons (I_fId (kr := [12, 13, 14, 15]) ⟨rfl, rfl, rfl, rfl, trivial⟩) (il_cons (I_fMulT (kp := [0, 1, 2, 3]) (p := P) (kq := [4, 5, 6, 7]) (q := Q) (kr := [16, 17, 18, 19]) ⟨rfl, rfl, rfl, rfl, trivial⟩ ⟨rfl, rfl, rfl, rfl, trivial⟩ ⟨rfl, rfl, rfl, rfl, trivial⟩ (kP.mono (by decide)) (kQ.mono (by decide)) gP gQ) (il_cons (I_fValidT1 (kq := [16, 17, 18, 19]) (q := (P.mul Q)) ⟨rfl, rfl, rfl, rfl, trivial⟩ ((kP.mulg kQ gP gQ).mono (by decide)) (mul_good gP gQ)) (il_cons (I_fInvT (kq := [0, 1, 2, 3]) (q := P) (kr := [20, 21, 22, 23]) ⟨rfl, rfl, rfl, rfl, trivial⟩ ⟨rfl, rfl, rfl, rfl, trivial⟩ (kP.mono (by decide)) gP) (il_cons (I_fValidT1 (kq := [20, 21, 22, 23]) (q := P.inv) ⟨rfl, rfl, rfl, rfl, trivial⟩ ((kP.inv gP).mono (by decide)) (inv_good gP)) (il_cons (I_fMulT (kp := [16, 17, 18, 19]) (p := (P.mul Q)) (kq := [8, 9, 10, 11]) (q := R) (kr := [24, 25, 26, 27]) ⟨rfl, rfl, rfl, rfl, trivial⟩ ⟨rfl, rfl, rfl, rfl, trivial⟩ ⟨rfl, rfl, rfl, rfl, trivial⟩ ((kP.mulg kQ gP gQ).mono (by decide)) (kR.mono (by decide)) (mul_good gP gQ) gR) (il_cons (I_fMulT (kp := [4, 5, 6, 7]) (p := Q) (kq := [8, 9, 10, 11]) (q := R) (kr := [28, 29, 30, 31]) ⟨rfl, rfl, rfl, rfl, trivial⟩ ⟨rfl, rfl, rfl, rfl, trivial⟩ ⟨rfl, rfl, rfl, rfl, trivial⟩ (kQ.mono (by decide)) (kR.mono (by decide)) gQ gR) (il_cons (I_fMulT (kp := [0, 1, 2, 3]) (p := P) (kq := [28, 29, 30, 31]) (q := (Q.mul R)) (kr := [32, 33, 34, 35]) ⟨rfl, rfl, rfl, rfl, trivial⟩ ⟨rfl, rfl, rfl, rfl, trivial⟩ ⟨rfl, rfl, rfl, rfl, trivial⟩ (kP.mono (by decide)) ((kQ.mulg kR gQ gR).mono (by decide)) gP (mul_good gQ gR)) (il_cons (I_fEqual1 (ka := [24, 25, 26, 27]) (a := ((P.mul Q).mul R)) (kb := [32, 33, 34, 35]) (b := (P.mul (Q.mul R))) ⟨rfl, rfl, rfl, rfl, trivial⟩ ⟨rfl, rfl, rfl, rfl, trivial⟩ (((kP.mulg kQ gP gQ).mulg kR (mul_good gP gQ) gR).mono (by decide)) ((kP.mulg (kQ.mulg kR gQ gR) gP (mul_good gQ gR)).mono (by decide)) (g_assoc gP gQ gR) (mul_good (mul_good gP gQ) gR).comp (mul_good gP (mul_good gQ gR)).comp) (il_cons (I_fMulT (kp := [0, 1, 2, 3]) (p := P) (kq := [12, 13, 14, 15]) (q := Qq.id) (kr := [36, 37, 38, 39]) ⟨rfl, rfl, rfl, rfl, trivial⟩ ⟨rfl, rfl, rfl, rfl, trivial⟩ ⟨rfl, rfl, rfl, rfl, trivial⟩ (kP.mono (by decide)) (ok_id.mono (by decide)) gP id_good) (il_cons (I_fEqual1 (ka := [36, 37, 38, 39]) (a := (P.mul Qq.id)) (kb := [0, 1, 2, 3]) (b := P) ⟨rfl, rfl, rfl, rfl, trivial⟩ ⟨rfl, rfl, rfl, rfl, trivial⟩ ((kP.mulg ok_id gP id_good).mono (by decide)) (kP.mono (by decide)) (g_one gP) (mul_good gP id_good).comp gP.comp) (il_cons (I_fMulT (kp := [12, 13, 14, 15]) (p := Qq.id) (kq := [0, 1, 2, 3]) (q := P) (kr := [40, 41, 42, 43]) ⟨rfl, rfl, rfl, rfl, trivial⟩ ⟨rfl, rfl, rfl, rfl, trivial⟩ ⟨rfl, rfl, rfl, rfl, trivial⟩ (ok_id.mono (by decide)) (kP.mono (by decide)) id_good gP) (il_cons (I_fEqual1 (ka := [40, 41, 42, 43]) (a := (Qq.id.mul P)) (kb := [0, 1, 2, 3]) (b := P) ⟨rfl, rfl, rfl, rfl, trivial⟩ ⟨rfl, rfl, rfl, rfl, trivial⟩ ((ok_id.mulg kP id_good gP).mono (by decide)) (kP.mono (by decide)) (g_one' gP) (mul_good id_good gP).comp gP.comp) (il_cons (I_fMulT (kp := [0, 1, 2, 3]) (p := P) (kq := [20, 21, 22, 23]) (q := P.inv) (kr := [44, 45, 46, 47]) ⟨rfl, rfl, rfl, rfl, trivial⟩ ⟨rfl, rfl, rfl, rfl, trivial⟩ ⟨rfl, rfl, rfl, rfl, trivial⟩ (kP.mono (by decide)) ((kP.inv gP).mono (by decide)) gP (inv_good gP)) (il_cons (I_fEqual1 (ka := [44, 45, 46, 47]) (a := (P.mul P.inv)) (kb := [12, 13, 14, 15]) (b := Qq.id) ⟨rfl, rfl, rfl, rfl, trivial⟩ ⟨rfl, rfl, rfl, rfl, trivial⟩ ((kP.mulg (kP.inv gP) gP (inv_good gP)).mono (by decide)) (ok_id.mono (by decide)) (g_inv gP) (mul_good gP (inv_good gP)).comp id_good.comp) (il_cons (I_awake ) il_nil)))))))))))))))))))
    ol_nil (by kernel_rfl) Try.func6 (by kernel_rfl) ⟨⟨[_, _, _, _, _, _, _, _], rfl, lr8 rfl _ _, lr8 rfl _ _, lr8 rfl _ _, lr8 rfl _ _, lr8 rfl _ _, lr8 rfl _ _, lr8 rfl _ _, lr8 rfl _ _, trivial⟩, ⟨⟨[_, _, _, _, _, _, _, _], rfl, lr8 rfl _ _, lr8 rfl _ _, lr8 rfl _ _, lr8 rfl _ _, lr8 rfl _ _, lr8 rfl _ _, lr8 rfl _ _, lr8 rfl _ _, trivial⟩, ⟨⟨[_, _, _, _, _, _, _, _], rfl, lr8 rfl _ _, lr8 rfl _ _, lr8 rfl _ _, lr8 rfl _ _, lr8 rfl _ _, lr8 rfl _ _, lr8 rfl _ _, lr8 rfl _ _, trivial⟩, trivial⟩⟩⟩).mono ?_
  rintro e w' ⟨v, rfl, h1, h2⟩
  exact ⟨congrArg Ending.returned h1, h2⟩
end Go.Proofs.Ythefidbgjgfeiaa
