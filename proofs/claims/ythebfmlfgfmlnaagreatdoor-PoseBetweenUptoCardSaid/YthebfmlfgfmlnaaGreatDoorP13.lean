/- Make and canonical of rotations, by the executor. Products, inverses, images, by the executor. Matrices, units, from one vector to another, by the executor. -/
import Derived.Test.YthebfmlfgfmlnaaGreatDoorP12
namespace Go.Proofs.YthebfmlfgfmlnaaGreatDoor
set_option linter.unusedSimpArgs false
set_option linter.unusedVariables false
set_option maxRecDepth 100000
open Go.RowKit
theorem canon_eq {q : Qq} (h0 : q.first.p ≠ 0) : q.canon = q.over q.first := by unfold Qq.canon; rw [if_neg h0]
theorem Qq.ok.mk4 {a b c e : Fq} {d : Nat} (h1 : a.ok d) (h2 : b.ok d) (h3 : c.ok d) (h4 : e.ok d) : (Qq.mk a b c e).ok d := ⟨h1, h2, h3, h4⟩
theorem canonC_ok {u : Fq} {c : Vq} {d e : Nat} (h1 : u.ok d) (h2 : c.ok e) (h0 : (Qq.mk u c.x c.y c.z).first.p ≠ 0) : (Qq.mk u c.x c.y c.z).canon.ok (d + e + (d + e)) := (Qq.ok.mk4 (h1.mono (by omega)) (h2.x.mono (by omega)) (h2.y.mono (by omega)) (h2.z.mono (by omega)) : Qq.ok (d + e) _).canon h0
def xrFirstX (q : Qq) : List Fq := [q.w, q.x, q.y, q.z]
def xrFirst1X (q : Qq) : List Fq := [q.w, q.x, q.y, q.z]
def xrFirst2X (q : Qq) : List Fq := [q.w, q.x, q.y, q.z]
def xrFirst3X (q : Qq) : List Fq := [q.w, q.x, q.y, q.z]
theorem q_rFirst (vq : Value) (q : Qq) (w : World) (iq : IsQt w vq q) (hq : q.ok 1000000000) :
    Calls Tryz.prog 88 #[vq] w fun e w' => RetQ w q.first e w' := by
  by_cases c0 : q.w.p = 0
  · by_cases c1 : q.x.p = 0
    · by_cases c2 : q.y.p = 0
      · have e1 : q.first = q.z := by simp [Qq.first, c0, c1, c2]
        rw [e1]
        refine (calls_runFn (ρ := frs (xrFirstX q) ++ []) (w := w) (fuel := 300) (args := [row [0, 1, 2, 3]]) (vs := [vq]) (r := .v (fr 3))
          (il_cons (I_rSign (i := 0) rfl (li (sgn0 c0)) (hq.w.mono (by decide))) (il_cons (I_rSign (i := 1) rfl (li (sgn0 c1)) (hq.x.mono (by decide))) (il_cons (I_rSign (i := 2) rfl (li (sgn0 c2)) (hq.y.mono (by decide))) il_nil)))
          ol_nil (by kernel_rfl) Tryz.func88 (by kernel_rfl) ⟨(row_isL (xs := xrFirstX q) (ks := [0, 1, 2, 3]) (vs := [q.w, q.x, q.y, q.z]) ⟨rfl, rfl, rfl, rfl, trivial⟩).2 iq, trivial⟩).mono ?_
        rintro e w' ⟨v, rfl, h1, h2⟩
        exact ⟨v, rfl, (fr_isQ (xs := xrFirstX q) (k := 3) rfl).1 h1, h2⟩
      · have e1 : q.first = q.y := by simp [Qq.first, c0, c1, c2]
        rw [e1]
        refine (calls_runFn (ρ := frs (xrFirst1X q) ++ [.val (.int .i64 q.y.sgn)]) (w := w) (fuel := 300) (args := [row [0, 1, 2, 3]]) (vs := [vq]) (r := .v (fr 2))
          (il_cons (I_rSign (i := 0) rfl (li (sgn0 c0)) (hq.w.mono (by decide))) (il_cons (I_rSign (i := 1) rfl (li (sgn0 c1)) (hq.x.mono (by decide))) (il_cons (I_rSign (i := 2) rfl (lr (n := 12) rfl) (hq.y.mono (by decide))) il_nil)))
          (ol_cons (o_neq (n := 12) (c := 0) (t := 3) rfl (sgn_nq c2)) (ol_nil)) (by kernel_rfl) Tryz.func88 (by kernel_rfl) ⟨(row_isL (xs := xrFirst1X q) (ks := [0, 1, 2, 3]) (vs := [q.w, q.x, q.y, q.z]) ⟨rfl, rfl, rfl, rfl, trivial⟩).2 iq, trivial⟩).mono ?_
        rintro e w' ⟨v, rfl, h1, h2⟩
        exact ⟨v, rfl, (fr_isQ (xs := xrFirst1X q) (k := 2) rfl).1 h1, h2⟩
    · have e1 : q.first = q.x := by simp [Qq.first, c0, c1]
      rw [e1]
      refine (calls_runFn (ρ := frs (xrFirst2X q) ++ [.val (.int .i64 q.x.sgn)]) (w := w) (fuel := 300) (args := [row [0, 1, 2, 3]]) (vs := [vq]) (r := .v (fr 1))
        (il_cons (I_rSign (i := 0) rfl (li (sgn0 c0)) (hq.w.mono (by decide))) (il_cons (I_rSign (i := 1) rfl (lr (n := 12) rfl) (hq.x.mono (by decide))) il_nil))
        (ol_cons (o_neq (n := 12) (c := 0) (t := 3) rfl (sgn_nq c1)) (ol_nil)) (by kernel_rfl) Tryz.func88 (by kernel_rfl) ⟨(row_isL (xs := xrFirst2X q) (ks := [0, 1, 2, 3]) (vs := [q.w, q.x, q.y, q.z]) ⟨rfl, rfl, rfl, rfl, trivial⟩).2 iq, trivial⟩).mono ?_
      rintro e w' ⟨v, rfl, h1, h2⟩
      exact ⟨v, rfl, (fr_isQ (xs := xrFirst2X q) (k := 1) rfl).1 h1, h2⟩
  · have e1 : q.first = q.w := by simp [Qq.first, c0]
    rw [e1]
    refine (calls_runFn (ρ := frs (xrFirst3X q) ++ [.val (.int .i64 q.w.sgn)]) (w := w) (fuel := 300) (args := [row [0, 1, 2, 3]]) (vs := [vq]) (r := .v (fr 0))
      (il_cons (I_rSign (i := 0) rfl (lr (n := 12) rfl) (hq.w.mono (by decide))) il_nil)
      (ol_cons (o_neq (n := 12) (c := 0) (t := 3) rfl (sgn_nq c0)) (ol_nil)) (by kernel_rfl) Tryz.func88 (by kernel_rfl) ⟨(row_isL (xs := xrFirst3X q) (ks := [0, 1, 2, 3]) (vs := [q.w, q.x, q.y, q.z]) ⟨rfl, rfl, rfl, rfl, trivial⟩).2 iq, trivial⟩).mono ?_
    rintro e w' ⟨v, rfl, h1, h2⟩
    exact ⟨v, rfl, (fr_isQ (xs := xrFirst3X q) (k := 0) rfl).1 h1, h2⟩
theorem I_rFirst {xs : List Fq} {ys : Rho} {kq : List Nat} {q : Qq} {ir : Nat} (aq : AtL xs kq [q.w, q.x, q.y, q.z]) (ar : xs[ir]? = some q.first) (hq : q.ok 1000000000) : OkI xs ys ⟨88, [row kq], .v (fr ir)⟩ :=
  ⟨enters Tryz.func88 rfl rfl, fun B w vs hB h => by
    match vs, h with
    | [vq], h =>
      refine (q_rFirst vq q w ((row_isL aq).1 h.1) hq).mono ?_
      rintro e w' ⟨v, rfl, h1, h2⟩
      exact ⟨v, rfl, (fr_isQ ar).2 h1, h2⟩⟩
def xrOverX (x : Fq) (d : Fq) : List Fq := [x, d, (x.div d)]
theorem q_rOver (vx vd : Value) (x : Fq) (d : Fq) (w : World) (ix : IsQ w vx x) (id : IsQ w vd d) (hx : x.ok 1000000000) (hd : d.ok 1000000000) (h0 : d.p ≠ 0) :
    Calls Tryz.prog 127 #[vx, vd] w fun e w' => RetQ w (x.div d) e w' := by
  refine (calls_runFn (ρ := frs (xrOverX x d) ++ []) (w := w) (fuel := 300) (args := [fr 0, fr 1]) (vs := [vx, vd]) (r := .v (fr 2))
    (il_cons (I_rDiv (i := 0) (j := 1) (k := 2) rfl rfl rfl (hx.mono (by decide)) (hd.mono (by decide)) h0) il_nil)
    ol_nil (by kernel_rfl) Tryz.func127 (by kernel_rfl) ⟨(fr_isQ (xs := xrOverX x d) (k := 0) rfl).2 ix, ⟨(fr_isQ (xs := xrOverX x d) (k := 1) rfl).2 id, trivial⟩⟩).mono ?_
  rintro e w' ⟨v, rfl, h1, h2⟩
  exact ⟨v, rfl, (fr_isQ (xs := xrOverX x d) (k := 2) rfl).1 h1, h2⟩
theorem I_rOver {xs : List Fq} {ys : Rho} {ix : Nat} {id : Nat} {x : Fq} {d : Fq} {ir : Nat} (ax : xs[ix]? = some x) (ad : xs[id]? = some d) (ar : xs[ir]? = some (x.div d)) (hx : x.ok 1000000000) (hd : d.ok 1000000000) (h0 : d.p ≠ 0) : OkI xs ys ⟨127, [fr ix, fr id], .v (fr ir)⟩ :=
  ⟨enters Tryz.func127 rfl rfl, fun B w vs hB h => by
    match vs, h with
    | [vx, vd], h =>
      refine (q_rOver vx vd x d w ((fr_isQ ax).1 h.1) ((fr_isQ ad).1 h.2.1) hx hd h0).mono ?_
      rintro e w' ⟨v, rfl, h1, h2⟩
      exact ⟨v, rfl, (fr_isQ ar).2 h1, h2⟩⟩
def xrMakeTX (p0 : Fq) (p1 : Fq) (p2 : Fq) (p3 : Fq) : List Fq := [p0, p1, p2, p3, (Qq.mk p0 p1 p2 p3).first, (p0.div (Qq.mk p0 p1 p2 p3).first), (p1.div (Qq.mk p0 p1 p2 p3).first), (p2.div (Qq.mk p0 p1 p2 p3).first), (p3.div (Qq.mk p0 p1 p2 p3).first)]
theorem q_rMakeT (vp0 vp1 vp2 vp3 : Value) (p0 : Fq) (p1 : Fq) (p2 : Fq) (p3 : Fq) (w : World) (ip0 : IsQ w vp0 p0) (ip1 : IsQ w vp1 p1) (ip2 : IsQ w vp2 p2) (ip3 : IsQ w vp3 p3) (hp0 : p0.ok 100000000) (hp1 : p1.ok 100000000) (hp2 : p2.ok 100000000) (hp3 : p3.ok 100000000) (h0 : (Qq.mk p0 p1 p2 p3).first.p ≠ 0) :
    Calls Tryz.prog 161 #[vp0, vp1, vp2, vp3] w fun e w' => RetQtE w (Qq.mk p0 p1 p2 p3).canon 0 e w' := by
  rw [canon_eq h0]
  refine (calls_runFn (ρ := frs (xrMakeTX p0 p1 p2 p3) ++ [.val (.int .i64 (Qq.mk p0 p1 p2 p3).first.sgn)]) (w := w) (fuel := 300) (args := [fr 0, fr 1, fr 2, fr 3]) (vs := [vp0, vp1, vp2, vp3]) (r := .tup [row [5, 6, 7, 8], .one (.i .i64 0)])
    (il_cons (I_rFirst (kq := [0, 1, 2, 3]) (q := (Qq.mk p0 p1 p2 p3)) (ir := 4) ⟨rfl, rfl, rfl, rfl, trivial⟩ rfl ((Qq.ok.mk4 hp0 hp1 hp2 hp3).mono (by decide))) (il_cons (I_rSign (i := 4) rfl (lr (n := 27) rfl) ((Qq.ok.mk4 hp0 hp1 hp2 hp3).first.mono (by decide))) (il_cons (I_rOver (ix := 0) (id := 4) (ir := 5) rfl rfl rfl (hp0.mono (by decide)) ((Qq.ok.mk4 hp0 hp1 hp2 hp3).first.mono (by decide)) h0) (il_cons (I_rOver (ix := 1) (id := 4) (ir := 6) rfl rfl rfl (hp1.mono (by decide)) ((Qq.ok.mk4 hp0 hp1 hp2 hp3).first.mono (by decide)) h0) (il_cons (I_rOver (ix := 2) (id := 4) (ir := 7) rfl rfl rfl (hp2.mono (by decide)) ((Qq.ok.mk4 hp0 hp1 hp2 hp3).first.mono (by decide)) h0) (il_cons (I_rOver (ix := 3) (id := 4) (ir := 8) rfl rfl rfl (hp3.mono (by decide)) ((Qq.ok.mk4 hp0 hp1 hp2 hp3).first.mono (by decide)) h0) il_nil))))))
    (ol_cons (o_eql (n := 27) (c := 0) (t := 3) rfl (sgn_eq h0)) (ol_nil)) (by kernel_rfl) Tryz.func161 (by kernel_rfl) ⟨(fr_isQ (xs := xrMakeTX p0 p1 p2 p3) (k := 0) rfl).2 ip0, ⟨(fr_isQ (xs := xrMakeTX p0 p1 p2 p3) (k := 1) rfl).2 ip1, ⟨(fr_isQ (xs := xrMakeTX p0 p1 p2 p3) (k := 2) rfl).2 ip2, ⟨(fr_isQ (xs := xrMakeTX p0 p1 p2 p3) (k := 3) rfl).2 ip3, trivial⟩⟩⟩⟩).mono ?_
  rintro e w' ⟨v, rfl, ⟨vs, rfl, h1⟩, h2⟩
  match vs, h1 with
  | [r, c], h1 =>
    obtain ⟨⟨cs, rfl, k1⟩, k2, _⟩ := h1
    have k2 : c = _ := k2
    subst k2
    exact ⟨_, rfl, (row_isL (xs := xrMakeTX p0 p1 p2 p3) (ks := [5, 6, 7, 8]) (vs := [(p0.div (Qq.mk p0 p1 p2 p3).first), (p1.div (Qq.mk p0 p1 p2 p3).first), (p2.div (Qq.mk p0 p1 p2 p3).first), (p3.div (Qq.mk p0 p1 p2 p3).first)]) ⟨rfl, rfl, rfl, rfl, trivial⟩).1 ⟨_, rfl, k1⟩, h2⟩
theorem I_rMakeT {xs : List Fq} {ys : Rho} {ip0 : Nat} {ip1 : Nat} {ip2 : Nat} {ip3 : Nat} {p0 : Fq} {p1 : Fq} {p2 : Fq} {p3 : Fq} {kr : List Nat} (ap0 : xs[ip0]? = some p0) (ap1 : xs[ip1]? = some p1) (ap2 : xs[ip2]? = some p2) (ap3 : xs[ip3]? = some p3) (ar : AtL xs kr [(Qq.mk p0 p1 p2 p3).canon.w, (Qq.mk p0 p1 p2 p3).canon.x, (Qq.mk p0 p1 p2 p3).canon.y, (Qq.mk p0 p1 p2 p3).canon.z]) (hp0 : p0.ok 100000000) (hp1 : p1.ok 100000000) (hp2 : p2.ok 100000000) (hp3 : p3.ok 100000000) (h0 : (Qq.mk p0 p1 p2 p3).first.p ≠ 0) : OkI xs ys ⟨161, [fr ip0, fr ip1, fr ip2, fr ip3], .tup [row kr, .one (.i .i64 0)]⟩ :=
  ⟨enters Tryz.func161 rfl rfl, fun B w vs hB h => by
    match vs, h with
    | [vp0, vp1, vp2, vp3], h =>
      refine (q_rMakeT vp0 vp1 vp2 vp3 p0 p1 p2 p3 w ((fr_isQ ap0).1 h.1) ((fr_isQ ap1).1 h.2.1) ((fr_isQ ap2).1 h.2.2.1) ((fr_isQ ap3).1 h.2.2.2.1) hp0 hp1 hp2 hp3 h0).mono ?_
      rintro e w' ⟨v, rfl, h1, h2⟩
      exact ⟨_, rfl, ⟨[v, .int .i64 0], rfl, (row_isL ar).2 h1, rfl, trivial⟩, h2⟩⟩
def xfMakeTX (p0 : Fq) (p1 : Fq) (p2 : Fq) (p3 : Fq) : List Fq := [p0, p1, p2, p3, (p0.div p3), (p1.div p3), (p2.div p3), (p3.div p3)]
def xfMakeT1X (p0 : Fq) (p1 : Fq) (p2 : Fq) (p3 : Fq) : List Fq := [p0, p1, p2, p3, (p0.div p2), (p1.div p2), (p2.div p2), (p3.div p2)]
def xfMakeT2X (p0 : Fq) (p1 : Fq) (p2 : Fq) (p3 : Fq) : List Fq := [p0, p1, p2, p3, (p0.div p1), (p1.div p1), (p2.div p1), (p3.div p1)]
def xfMakeT3X (p0 : Fq) (p1 : Fq) (p2 : Fq) (p3 : Fq) : List Fq := [p0, p1, p2, p3, (p0.div p0), (p1.div p0), (p2.div p0), (p3.div p0)]
theorem q_fMakeT (vp0 vp1 vp2 vp3 : Value) (p0 : Fq) (p1 : Fq) (p2 : Fq) (p3 : Fq) (w : World) (ip0 : IsQ w vp0 p0) (ip1 : IsQ w vp1 p1) (ip2 : IsQ w vp2 p2) (ip3 : IsQ w vp3 p3) (hp0 : p0.ok 100000000) (hp1 : p1.ok 100000000) (hp2 : p2.ok 100000000) (hp3 : p3.ok 100000000) (h0 : (Qq.mk p0 p1 p2 p3).first.p ≠ 0) :
    Calls Tryz.prog 158 #[vp0, vp1, vp2, vp3] w fun e w' => RetQtE w (Qq.mk p0 p1 p2 p3).canon 0 e w' := by
  by_cases c0 : p0.p = 0
  · by_cases c1 : p1.p = 0
    · by_cases c2 : p2.p = 0
      · by_cases c3 : p3.p = 0
        · exact absurd (by simp [Qq.first, c0, c1, c2, c3]) h0
        · have e1 : (Qq.mk p0 p1 p2 p3).first = p3 := by simp [Qq.first, c0, c1, c2, c3]
          rw [canon_eq h0, e1]
          refine (calls_runFn (ρ := frs (xfMakeTX p0 p1 p2 p3) ++ [.val (.int .i64 p3.sgn)]) (w := w) (fuel := 300) (args := [fr 0, fr 1, fr 2, fr 3]) (vs := [vp0, vp1, vp2, vp3]) (r := .tup [row [4, 5, 6, 7], .one (.i .i64 0)])
            (il_cons (I_fSign (i := 0) rfl (li (sgn0 c0)) (hp0.mono (by decide))) (il_cons (I_fSign (i := 1) rfl (li (sgn0 c1)) (hp1.mono (by decide))) (il_cons (I_fSign (i := 2) rfl (li (sgn0 c2)) (hp2.mono (by decide))) (il_cons (I_fSign (i := 3) rfl (lr (n := 24) rfl) (hp3.mono (by decide))) (il_cons (I_fDiv (i := 0) (j := 3) (k := 4) rfl rfl rfl (hp0.mono (by decide)) (hp3.mono (by decide)) c3) (il_cons (I_fDiv (i := 1) (j := 3) (k := 5) rfl rfl rfl (hp1.mono (by decide)) (hp3.mono (by decide)) c3) (il_cons (I_fDiv (i := 2) (j := 3) (k := 6) rfl rfl rfl (hp2.mono (by decide)) (hp3.mono (by decide)) c3) (il_cons (I_fDiv (i := 3) (j := 3) (k := 7) rfl rfl rfl (hp3.mono (by decide)) (hp3.mono (by decide)) c3) (il_cons (I_whole (kq := [4, 5, 6, 7]) (q := (Qq.mk (p0.div p3) (p1.div p3) (p2.div p3) (p3.div p3))) (kr := [4, 5, 6, 7]) ⟨rfl, rfl, rfl, rfl, trivial⟩ ⟨rfl, rfl, rfl, rfl, trivial⟩ (⟨(hp0.div hp3 c3).mono (by decide), (hp1.div hp3 c3).mono (by decide), (hp2.div hp3 c3).mono (by decide), (hp3.div hp3 c3).mono (by decide)⟩ : Qq.ok 1000000000 (Qq.mk (p0.div p3) (p1.div p3) (p2.div p3) (p3.div p3)))) il_nil)))))))))
            (ol_cons (o_eql (n := 24) (c := 0) (t := 3) rfl (sgn_eq c3)) (ol_nil)) (by kernel_rfl) Tryz.func158 (by kernel_rfl) ⟨(fr_isQ (xs := xfMakeTX p0 p1 p2 p3) (k := 0) rfl).2 ip0, ⟨(fr_isQ (xs := xfMakeTX p0 p1 p2 p3) (k := 1) rfl).2 ip1, ⟨(fr_isQ (xs := xfMakeTX p0 p1 p2 p3) (k := 2) rfl).2 ip2, ⟨(fr_isQ (xs := xfMakeTX p0 p1 p2 p3) (k := 3) rfl).2 ip3, trivial⟩⟩⟩⟩).mono ?_
          rintro e w' ⟨v, rfl, ⟨vs, rfl, h1⟩, h2⟩
          match vs, h1 with
          | [r, c], h1 =>
            obtain ⟨⟨cs, rfl, k1⟩, k2, _⟩ := h1
            have k2 : c = _ := k2
            subst k2
            exact ⟨_, rfl, (row_isL (xs := xfMakeTX p0 p1 p2 p3) (ks := [4, 5, 6, 7]) (vs := [(p0.div p3), (p1.div p3), (p2.div p3), (p3.div p3)]) ⟨rfl, rfl, rfl, rfl, trivial⟩).1 ⟨_, rfl, k1⟩, h2⟩
      · have e1 : (Qq.mk p0 p1 p2 p3).first = p2 := by simp [Qq.first, c0, c1, c2]
        rw [canon_eq h0, e1]
        refine (calls_runFn (ρ := frs (xfMakeT1X p0 p1 p2 p3) ++ [.val (.int .i64 p2.sgn)]) (w := w) (fuel := 300) (args := [fr 0, fr 1, fr 2, fr 3]) (vs := [vp0, vp1, vp2, vp3]) (r := .tup [row [4, 5, 6, 7], .one (.i .i64 0)])
          (il_cons (I_fSign (i := 0) rfl (li (sgn0 c0)) (hp0.mono (by decide))) (il_cons (I_fSign (i := 1) rfl (li (sgn0 c1)) (hp1.mono (by decide))) (il_cons (I_fSign (i := 2) rfl (lr (n := 24) rfl) (hp2.mono (by decide))) (il_cons (I_fDiv (i := 0) (j := 2) (k := 4) rfl rfl rfl (hp0.mono (by decide)) (hp2.mono (by decide)) c2) (il_cons (I_fDiv (i := 1) (j := 2) (k := 5) rfl rfl rfl (hp1.mono (by decide)) (hp2.mono (by decide)) c2) (il_cons (I_fDiv (i := 2) (j := 2) (k := 6) rfl rfl rfl (hp2.mono (by decide)) (hp2.mono (by decide)) c2) (il_cons (I_fDiv (i := 3) (j := 2) (k := 7) rfl rfl rfl (hp3.mono (by decide)) (hp2.mono (by decide)) c2) (il_cons (I_whole (kq := [4, 5, 6, 7]) (q := (Qq.mk (p0.div p2) (p1.div p2) (p2.div p2) (p3.div p2))) (kr := [4, 5, 6, 7]) ⟨rfl, rfl, rfl, rfl, trivial⟩ ⟨rfl, rfl, rfl, rfl, trivial⟩ (⟨(hp0.div hp2 c2).mono (by decide), (hp1.div hp2 c2).mono (by decide), (hp2.div hp2 c2).mono (by decide), (hp3.div hp2 c2).mono (by decide)⟩ : Qq.ok 1000000000 (Qq.mk (p0.div p2) (p1.div p2) (p2.div p2) (p3.div p2)))) il_nil))))))))
          (ol_cons (o_eql (n := 24) (c := 0) (t := 3) rfl (sgn_eq c2)) (ol_nil)) (by kernel_rfl) Tryz.func158 (by kernel_rfl) ⟨(fr_isQ (xs := xfMakeT1X p0 p1 p2 p3) (k := 0) rfl).2 ip0, ⟨(fr_isQ (xs := xfMakeT1X p0 p1 p2 p3) (k := 1) rfl).2 ip1, ⟨(fr_isQ (xs := xfMakeT1X p0 p1 p2 p3) (k := 2) rfl).2 ip2, ⟨(fr_isQ (xs := xfMakeT1X p0 p1 p2 p3) (k := 3) rfl).2 ip3, trivial⟩⟩⟩⟩).mono ?_
        rintro e w' ⟨v, rfl, ⟨vs, rfl, h1⟩, h2⟩
        match vs, h1 with
        | [r, c], h1 =>
          obtain ⟨⟨cs, rfl, k1⟩, k2, _⟩ := h1
          have k2 : c = _ := k2
          subst k2
          exact ⟨_, rfl, (row_isL (xs := xfMakeT1X p0 p1 p2 p3) (ks := [4, 5, 6, 7]) (vs := [(p0.div p2), (p1.div p2), (p2.div p2), (p3.div p2)]) ⟨rfl, rfl, rfl, rfl, trivial⟩).1 ⟨_, rfl, k1⟩, h2⟩
    · have e1 : (Qq.mk p0 p1 p2 p3).first = p1 := by simp [Qq.first, c0, c1]
      rw [canon_eq h0, e1]
      refine (calls_runFn (ρ := frs (xfMakeT2X p0 p1 p2 p3) ++ [.val (.int .i64 p1.sgn)]) (w := w) (fuel := 300) (args := [fr 0, fr 1, fr 2, fr 3]) (vs := [vp0, vp1, vp2, vp3]) (r := .tup [row [4, 5, 6, 7], .one (.i .i64 0)])
        (il_cons (I_fSign (i := 0) rfl (li (sgn0 c0)) (hp0.mono (by decide))) (il_cons (I_fSign (i := 1) rfl (lr (n := 24) rfl) (hp1.mono (by decide))) (il_cons (I_fDiv (i := 0) (j := 1) (k := 4) rfl rfl rfl (hp0.mono (by decide)) (hp1.mono (by decide)) c1) (il_cons (I_fDiv (i := 1) (j := 1) (k := 5) rfl rfl rfl (hp1.mono (by decide)) (hp1.mono (by decide)) c1) (il_cons (I_fDiv (i := 2) (j := 1) (k := 6) rfl rfl rfl (hp2.mono (by decide)) (hp1.mono (by decide)) c1) (il_cons (I_fDiv (i := 3) (j := 1) (k := 7) rfl rfl rfl (hp3.mono (by decide)) (hp1.mono (by decide)) c1) (il_cons (I_whole (kq := [4, 5, 6, 7]) (q := (Qq.mk (p0.div p1) (p1.div p1) (p2.div p1) (p3.div p1))) (kr := [4, 5, 6, 7]) ⟨rfl, rfl, rfl, rfl, trivial⟩ ⟨rfl, rfl, rfl, rfl, trivial⟩ (⟨(hp0.div hp1 c1).mono (by decide), (hp1.div hp1 c1).mono (by decide), (hp2.div hp1 c1).mono (by decide), (hp3.div hp1 c1).mono (by decide)⟩ : Qq.ok 1000000000 (Qq.mk (p0.div p1) (p1.div p1) (p2.div p1) (p3.div p1)))) il_nil)))))))
        (ol_cons (o_eql (n := 24) (c := 0) (t := 3) rfl (sgn_eq c1)) (ol_nil)) (by kernel_rfl) Tryz.func158 (by kernel_rfl) ⟨(fr_isQ (xs := xfMakeT2X p0 p1 p2 p3) (k := 0) rfl).2 ip0, ⟨(fr_isQ (xs := xfMakeT2X p0 p1 p2 p3) (k := 1) rfl).2 ip1, ⟨(fr_isQ (xs := xfMakeT2X p0 p1 p2 p3) (k := 2) rfl).2 ip2, ⟨(fr_isQ (xs := xfMakeT2X p0 p1 p2 p3) (k := 3) rfl).2 ip3, trivial⟩⟩⟩⟩).mono ?_
      rintro e w' ⟨v, rfl, ⟨vs, rfl, h1⟩, h2⟩
      match vs, h1 with
      | [r, c], h1 =>
        obtain ⟨⟨cs, rfl, k1⟩, k2, _⟩ := h1
        have k2 : c = _ := k2
        subst k2
        exact ⟨_, rfl, (row_isL (xs := xfMakeT2X p0 p1 p2 p3) (ks := [4, 5, 6, 7]) (vs := [(p0.div p1), (p1.div p1), (p2.div p1), (p3.div p1)]) ⟨rfl, rfl, rfl, rfl, trivial⟩).1 ⟨_, rfl, k1⟩, h2⟩
  · have e1 : (Qq.mk p0 p1 p2 p3).first = p0 := by simp [Qq.first, c0]
    rw [canon_eq h0, e1]
    refine (calls_runFn (ρ := frs (xfMakeT3X p0 p1 p2 p3) ++ [.val (.int .i64 p0.sgn)]) (w := w) (fuel := 300) (args := [fr 0, fr 1, fr 2, fr 3]) (vs := [vp0, vp1, vp2, vp3]) (r := .tup [row [4, 5, 6, 7], .one (.i .i64 0)])
      (il_cons (I_fSign (i := 0) rfl (lr (n := 24) rfl) (hp0.mono (by decide))) (il_cons (I_fDiv (i := 0) (j := 0) (k := 4) rfl rfl rfl (hp0.mono (by decide)) (hp0.mono (by decide)) c0) (il_cons (I_fDiv (i := 1) (j := 0) (k := 5) rfl rfl rfl (hp1.mono (by decide)) (hp0.mono (by decide)) c0) (il_cons (I_fDiv (i := 2) (j := 0) (k := 6) rfl rfl rfl (hp2.mono (by decide)) (hp0.mono (by decide)) c0) (il_cons (I_fDiv (i := 3) (j := 0) (k := 7) rfl rfl rfl (hp3.mono (by decide)) (hp0.mono (by decide)) c0) (il_cons (I_whole (kq := [4, 5, 6, 7]) (q := (Qq.mk (p0.div p0) (p1.div p0) (p2.div p0) (p3.div p0))) (kr := [4, 5, 6, 7]) ⟨rfl, rfl, rfl, rfl, trivial⟩ ⟨rfl, rfl, rfl, rfl, trivial⟩ (⟨(hp0.div hp0 c0).mono (by decide), (hp1.div hp0 c0).mono (by decide), (hp2.div hp0 c0).mono (by decide), (hp3.div hp0 c0).mono (by decide)⟩ : Qq.ok 1000000000 (Qq.mk (p0.div p0) (p1.div p0) (p2.div p0) (p3.div p0)))) il_nil))))))
      (ol_cons (o_eql (n := 24) (c := 0) (t := 3) rfl (sgn_eq c0)) (ol_nil)) (by kernel_rfl) Tryz.func158 (by kernel_rfl) ⟨(fr_isQ (xs := xfMakeT3X p0 p1 p2 p3) (k := 0) rfl).2 ip0, ⟨(fr_isQ (xs := xfMakeT3X p0 p1 p2 p3) (k := 1) rfl).2 ip1, ⟨(fr_isQ (xs := xfMakeT3X p0 p1 p2 p3) (k := 2) rfl).2 ip2, ⟨(fr_isQ (xs := xfMakeT3X p0 p1 p2 p3) (k := 3) rfl).2 ip3, trivial⟩⟩⟩⟩).mono ?_
    rintro e w' ⟨v, rfl, ⟨vs, rfl, h1⟩, h2⟩
    match vs, h1 with
    | [r, c], h1 =>
      obtain ⟨⟨cs, rfl, k1⟩, k2, _⟩ := h1
      have k2 : c = _ := k2
      subst k2
      exact ⟨_, rfl, (row_isL (xs := xfMakeT3X p0 p1 p2 p3) (ks := [4, 5, 6, 7]) (vs := [(p0.div p0), (p1.div p0), (p2.div p0), (p3.div p0)]) ⟨rfl, rfl, rfl, rfl, trivial⟩).1 ⟨_, rfl, k1⟩, h2⟩
theorem I_fMakeT {xs : List Fq} {ys : Rho} {ip0 : Nat} {ip1 : Nat} {ip2 : Nat} {ip3 : Nat} {p0 : Fq} {p1 : Fq} {p2 : Fq} {p3 : Fq} {kr : List Nat} (ap0 : xs[ip0]? = some p0) (ap1 : xs[ip1]? = some p1) (ap2 : xs[ip2]? = some p2) (ap3 : xs[ip3]? = some p3) (ar : AtL xs kr [(Qq.mk p0 p1 p2 p3).canon.w, (Qq.mk p0 p1 p2 p3).canon.x, (Qq.mk p0 p1 p2 p3).canon.y, (Qq.mk p0 p1 p2 p3).canon.z]) (hp0 : p0.ok 100000000) (hp1 : p1.ok 100000000) (hp2 : p2.ok 100000000) (hp3 : p3.ok 100000000) (h0 : (Qq.mk p0 p1 p2 p3).first.p ≠ 0) : OkI xs ys ⟨158, [fr ip0, fr ip1, fr ip2, fr ip3], .tup [row kr, .one (.i .i64 0)]⟩ :=
  ⟨enters Tryz.func158 rfl rfl, fun B w vs hB h => by
    match vs, h with
    | [vp0, vp1, vp2, vp3], h =>
      refine (q_fMakeT vp0 vp1 vp2 vp3 p0 p1 p2 p3 w ((fr_isQ ap0).1 h.1) ((fr_isQ ap1).1 h.2.1) ((fr_isQ ap2).1 h.2.2.1) ((fr_isQ ap3).1 h.2.2.2.1) hp0 hp1 hp2 hp3 h0).mono ?_
      rintro e w' ⟨v, rfl, h1, h2⟩
      exact ⟨_, rfl, ⟨[v, .int .i64 0], rfl, (row_isL ar).2 h1, rfl, trivial⟩, h2⟩⟩
def xrCanonX (u : Fq) (c : Vq) : List Fq := [u, c.x, c.y, c.z, (Qq.mk u c.x c.y c.z).canon.w, (Qq.mk u c.x c.y c.z).canon.x, (Qq.mk u c.x c.y c.z).canon.y, (Qq.mk u c.x c.y c.z).canon.z]
theorem q_rCanon (vu vc : Value) (u : Fq) (c : Vq) (w : World) (iu : IsQ w vu u) (ic : IsVq w vc c) (hu : u.ok 100000000) (hc : c.ok 100000000) (h0 : (Qq.mk u c.x c.y c.z).first.p ≠ 0) :
    Calls Tryz.prog 128 #[vu, vc] w fun e w' => RetQt w (Qq.mk u c.x c.y c.z).canon e w' := by
  refine (calls_runFn (ρ := frs (xrCanonX u c) ++ []) (w := w) (fuel := 300) (args := [fr 0, row [1, 2, 3]]) (vs := [vu, vc]) (r := .v (row [4, 5, 6, 7]))
    (il_cons (I_rMakeT (ip0 := 0) (ip1 := 1) (ip2 := 2) (ip3 := 3) (kr := [4, 5, 6, 7]) rfl rfl rfl rfl ⟨rfl, rfl, rfl, rfl, trivial⟩ (hu.mono (by decide)) (hc.x.mono (by decide)) (hc.y.mono (by decide)) (hc.z.mono (by decide)) h0) il_nil)
    ol_nil (by kernel_rfl) Tryz.func128 (by kernel_rfl) ⟨(fr_isQ (xs := xrCanonX u c) (k := 0) rfl).2 iu, ⟨(row_isL (xs := xrCanonX u c) (ks := [1, 2, 3]) (vs := [c.x, c.y, c.z]) ⟨rfl, rfl, rfl, trivial⟩).2 ic, trivial⟩⟩).mono ?_
  rintro e w' ⟨v, rfl, h1, h2⟩
  exact ⟨v, rfl, (row_isL (xs := xrCanonX u c) (ks := [4, 5, 6, 7]) (vs := [(Qq.mk u c.x c.y c.z).canon.w, (Qq.mk u c.x c.y c.z).canon.x, (Qq.mk u c.x c.y c.z).canon.y, (Qq.mk u c.x c.y c.z).canon.z]) ⟨rfl, rfl, rfl, rfl, trivial⟩).1 h1, h2⟩
theorem I_rCanon {xs : List Fq} {ys : Rho} {iu : Nat} {kc : List Nat} {u : Fq} {c : Vq} {kr : List Nat} (au : xs[iu]? = some u) (ac : AtL xs kc [c.x, c.y, c.z]) (ar : AtL xs kr [(Qq.mk u c.x c.y c.z).canon.w, (Qq.mk u c.x c.y c.z).canon.x, (Qq.mk u c.x c.y c.z).canon.y, (Qq.mk u c.x c.y c.z).canon.z]) (hu : u.ok 100000000) (hc : c.ok 100000000) (h0 : (Qq.mk u c.x c.y c.z).first.p ≠ 0) : OkI xs ys ⟨128, [fr iu, row kc], .v (row kr)⟩ :=
  ⟨enters Tryz.func128 rfl rfl, fun B w vs hB h => by
    match vs, h with
    | [vu, vc], h =>
      refine (q_rCanon vu vc u c w ((fr_isQ au).1 h.1) ((row_isL ac).1 h.2.1) hu hc h0).mono ?_
      rintro e w' ⟨v, rfl, h1, h2⟩
      exact ⟨v, rfl, (row_isL ar).2 h1, h2⟩⟩
def xfCanonX (u : Fq) (c : Vq) : List Fq := [u, c.x, c.y, c.z, (Qq.mk u c.x c.y c.z).canon.w, (Qq.mk u c.x c.y c.z).canon.x, (Qq.mk u c.x c.y c.z).canon.y, (Qq.mk u c.x c.y c.z).canon.z]
theorem q_fCanon (vu vc : Value) (u : Fq) (c : Vq) (w : World) (iu : IsQ w vu u) (ic : IsVq w vc c) (hu : u.ok 100000000) (hc : c.ok 100000000) (h0 : (Qq.mk u c.x c.y c.z).first.p ≠ 0) :
    Calls Tryz.prog 118 #[vu, vc] w fun e w' => RetQt w (Qq.mk u c.x c.y c.z).canon e w' := by
  refine (calls_runFn (ρ := frs (xfCanonX u c) ++ []) (w := w) (fuel := 300) (args := [fr 0, row [1, 2, 3]]) (vs := [vu, vc]) (r := .v (row [4, 5, 6, 7]))
    (il_cons (I_fMakeT (ip0 := 0) (ip1 := 1) (ip2 := 2) (ip3 := 3) (kr := [4, 5, 6, 7]) rfl rfl rfl rfl ⟨rfl, rfl, rfl, rfl, trivial⟩ (hu.mono (by decide)) (hc.x.mono (by decide)) (hc.y.mono (by decide)) (hc.z.mono (by decide)) h0) il_nil)
    ol_nil (by kernel_rfl) Tryz.func118 (by kernel_rfl) ⟨(fr_isQ (xs := xfCanonX u c) (k := 0) rfl).2 iu, ⟨(row_isL (xs := xfCanonX u c) (ks := [1, 2, 3]) (vs := [c.x, c.y, c.z]) ⟨rfl, rfl, rfl, trivial⟩).2 ic, trivial⟩⟩).mono ?_
  rintro e w' ⟨v, rfl, h1, h2⟩
  exact ⟨v, rfl, (row_isL (xs := xfCanonX u c) (ks := [4, 5, 6, 7]) (vs := [(Qq.mk u c.x c.y c.z).canon.w, (Qq.mk u c.x c.y c.z).canon.x, (Qq.mk u c.x c.y c.z).canon.y, (Qq.mk u c.x c.y c.z).canon.z]) ⟨rfl, rfl, rfl, rfl, trivial⟩).1 h1, h2⟩
theorem I_fCanon {xs : List Fq} {ys : Rho} {iu : Nat} {kc : List Nat} {u : Fq} {c : Vq} {kr : List Nat} (au : xs[iu]? = some u) (ac : AtL xs kc [c.x, c.y, c.z]) (ar : AtL xs kr [(Qq.mk u c.x c.y c.z).canon.w, (Qq.mk u c.x c.y c.z).canon.x, (Qq.mk u c.x c.y c.z).canon.y, (Qq.mk u c.x c.y c.z).canon.z]) (hu : u.ok 100000000) (hc : c.ok 100000000) (h0 : (Qq.mk u c.x c.y c.z).first.p ≠ 0) : OkI xs ys ⟨118, [fr iu, row kc], .v (row kr)⟩ :=
  ⟨enters Tryz.func118 rfl rfl, fun B w vs hB h => by
    match vs, h with
    | [vu, vc], h =>
      refine (q_fCanon vu vc u c w ((fr_isQ au).1 h.1) ((row_isL ac).1 h.2.1) hu hc h0).mono ?_
      rintro e w' ⟨v, rfl, h1, h2⟩
      exact ⟨v, rfl, (row_isL ar).2 h1, h2⟩⟩
end Go.Proofs.YthebfmlfgfmlnaaGreatDoor
namespace Go.Proofs.YthebfmlfgfmlnaaGreatDoor
set_option linter.unusedSimpArgs false
set_option linter.unusedVariables false
set_option maxRecDepth 100000
open Go.RowKit
theorem Qq.ok.inv {q : Qq} {d : Nat} (h : q.ok d) (g : q.good) : q.inv.ok (d + 2 + (d + 2)) := by
  have h0 := conj_ne g
  rw [← inv_eq g.comp] at h0
  exact (Qq.ok.mk4 (h.w.mono (by omega)) (h.x.mul (ok_int (by decide) (by decide))) (h.y.mul (ok_int (by decide) (by decide))) (h.z.mul (ok_int (by decide) (by decide)))).canon h0
theorem inv_ne' {q : Qq} (g : q.good) : (Qq.mk q.w (q.axis.scale (Fq.ofInt (-1))).x (q.axis.scale (Fq.ofInt (-1))).y (q.axis.scale (Fq.ofInt (-1))).z).first.p ≠ 0 := by rw [inv_eq g.comp]; exact conj_ne g
theorem Qq.ok.mulg {p q : Qq} {d e : Nat} (h : p.ok d) (k : q.ok e) (gp : p.good) (gq : q.good) : (p.mul q).ok (44 * (d + e) + 14) := h.mul k (ham_ne gp gq)
theorem Qq.ok.dd {q : Qq} {d : Nat} (h : q.ok d) : q.dd.ok (44 * d + 7) := ((h.w.mul h.w).sub (h.axis.dot h.axis)).mono (by omega)
theorem Qq.ok.nn {q : Qq} {d : Nat} (h : q.ok d) : q.nn.ok (44 * d + 7) := ((h.w.mul h.w).add (h.axis.dot h.axis)).mono (by omega)
theorem Qq.ok.rat {q : Qq} {d : Nat} (h : q.ok d) (g : q.good) : q.rat.ok (44 * d + 9) := ((ok_int (by decide) (by decide)).div h.nn (nn_ne g)).mono (by omega)
theorem Qq.ok.ap1 {q : Qq} {a : Vq} {d e : Nat} (h : q.ok d) (k : a.ok e) : (q.ap1 a).ok (e + 44 * d + 7) := (k.scale h.dd).mono (by omega)
theorem Qq.ok.ap2 {q : Qq} {a : Vq} {d e : Nat} (h : q.ok d) (k : a.ok e) : (q.ap2 a).ok (11 * d + 10 * e + 5) := (h.axis.scale ((ok_int (by decide) (by decide)).mul (h.axis.dot k))).mono (by omega)
theorem Qq.ok.ap3 {q : Qq} {a : Vq} {d e : Nat} (h : q.ok d) (k : a.ok e) : (q.ap3 a).ok (5 * d + 4 * e + 3) := ((h.axis.cross k).scale ((ok_int (by decide) (by decide)).mul h.w)).mono (by omega)
theorem Qq.ok.app {q : Qq} {a : Vq} {d e : Nat} (h : q.ok d) (k : a.ok e) (g : q.good) : (q.app a).ok (300 * (d + e) + 100) := ((((h.ap1 k).add (h.ap2 k)).add (h.ap3 k)).scale (h.rat g)).mono (by omega)
theorem Qq.ok.app' {q : Qq} {a : Vq} {d e : Nat} (h : q.ok d) (k : a.ok e) (g : q.good) : (q.app' a).ok (300 * (d + e) + 100) := (((h.ap1 k).add ((h.ap2 k).add (h.ap3 k))).scale (h.rat g)).mono (by omega)
def xfMulTX (p : Qq) (q : Qq) : List Fq := [p.w, p.x, p.y, p.z, q.w, q.x, q.y, q.z, p.axis.x, p.axis.y, p.axis.z, q.axis.x, q.axis.y, q.axis.z, (p.w.mul q.w), (p.axis.dot q.axis), ((p.w.mul q.w).sub (p.axis.dot q.axis)), (q.axis.scale p.w).x, (q.axis.scale p.w).y, (q.axis.scale p.w).z, (p.axis.scale q.w).x, (p.axis.scale q.w).y, (p.axis.scale q.w).z, ((q.axis.scale p.w).add (p.axis.scale q.w)).x, ((q.axis.scale p.w).add (p.axis.scale q.w)).y, ((q.axis.scale p.w).add (p.axis.scale q.w)).z, (p.axis.cross q.axis).x, (p.axis.cross q.axis).y, (p.axis.cross q.axis).z, (((q.axis.scale p.w).add (p.axis.scale q.w)).add (p.axis.cross q.axis)).x, (((q.axis.scale p.w).add (p.axis.scale q.w)).add (p.axis.cross q.axis)).y, (((q.axis.scale p.w).add (p.axis.scale q.w)).add (p.axis.cross q.axis)).z, (Qq.mk ((p.w.mul q.w).sub (p.axis.dot q.axis)) (((q.axis.scale p.w).add (p.axis.scale q.w)).add (p.axis.cross q.axis)).x (((q.axis.scale p.w).add (p.axis.scale q.w)).add (p.axis.cross q.axis)).y (((q.axis.scale p.w).add (p.axis.scale q.w)).add (p.axis.cross q.axis)).z).canon.w, (Qq.mk ((p.w.mul q.w).sub (p.axis.dot q.axis)) (((q.axis.scale p.w).add (p.axis.scale q.w)).add (p.axis.cross q.axis)).x (((q.axis.scale p.w).add (p.axis.scale q.w)).add (p.axis.cross q.axis)).y (((q.axis.scale p.w).add (p.axis.scale q.w)).add (p.axis.cross q.axis)).z).canon.x, (Qq.mk ((p.w.mul q.w).sub (p.axis.dot q.axis)) (((q.axis.scale p.w).add (p.axis.scale q.w)).add (p.axis.cross q.axis)).x (((q.axis.scale p.w).add (p.axis.scale q.w)).add (p.axis.cross q.axis)).y (((q.axis.scale p.w).add (p.axis.scale q.w)).add (p.axis.cross q.axis)).z).canon.y, (Qq.mk ((p.w.mul q.w).sub (p.axis.dot q.axis)) (((q.axis.scale p.w).add (p.axis.scale q.w)).add (p.axis.cross q.axis)).x (((q.axis.scale p.w).add (p.axis.scale q.w)).add (p.axis.cross q.axis)).y (((q.axis.scale p.w).add (p.axis.scale q.w)).add (p.axis.cross q.axis)).z).canon.z]
theorem q_fMulT (vp vq : Value) (p : Qq) (q : Qq) (w : World) (ip : IsQt w vp p) (iq : IsQt w vq q) (hp : p.ok 100000) (hq : q.ok 100000) (gp : p.good) (gq : q.good) :
    Calls Tryz.prog 62 #[vp, vq] w fun e w' => RetQt w (p.mul q) e w' := by
  refine (calls_runFn (ρ := frs (xfMulTX p q) ++ []) (w := w) (fuel := 300) (args := [row [0, 1, 2, 3], row [4, 5, 6, 7]]) (vs := [vp, vq]) (r := .v (row [32, 33, 34, 35]))
    (il_cons (I_axis (kq := [0, 1, 2, 3]) (q := p) (kr := [8, 9, 10]) ⟨rfl, rfl, rfl, rfl, trivial⟩ ⟨rfl, rfl, rfl, trivial⟩ (hp.mono (by decide))) (il_cons (I_axis (kq := [4, 5, 6, 7]) (q := q) (kr := [11, 12, 13]) ⟨rfl, rfl, rfl, rfl, trivial⟩ ⟨rfl, rfl, rfl, trivial⟩ (hq.mono (by decide))) (il_cons (I_fMul (i := 0) (j := 4) (k := 14) rfl rfl rfl (hp.w.mono (by decide)) (hq.w.mono (by decide))) (il_cons (I_vDot (ka := [8, 9, 10]) (a := p.axis) (kb := [11, 12, 13]) (b := q.axis) (ir := 15) ⟨rfl, rfl, rfl, trivial⟩ ⟨rfl, rfl, rfl, trivial⟩ rfl (hp.axis.mono (by decide)) (hq.axis.mono (by decide))) (il_cons (I_fSub (i := 14) (j := 15) (k := 16) rfl rfl rfl ((hp.w.mul hq.w).mono (by decide)) ((hp.axis.dot hq.axis).mono (by decide))) (il_cons (I_vScale (ka := [11, 12, 13]) (a := q.axis) (ik := 0) (kr := [17, 18, 19]) ⟨rfl, rfl, rfl, trivial⟩ rfl ⟨rfl, rfl, rfl, trivial⟩ (hq.axis.mono (by decide)) (hp.w.mono (by decide))) (il_cons (I_vScale (ka := [8, 9, 10]) (a := p.axis) (ik := 4) (kr := [20, 21, 22]) ⟨rfl, rfl, rfl, trivial⟩ rfl ⟨rfl, rfl, rfl, trivial⟩ (hp.axis.mono (by decide)) (hq.w.mono (by decide))) (il_cons (I_vAdd (ka := [17, 18, 19]) (a := (q.axis.scale p.w)) (kb := [20, 21, 22]) (b := (p.axis.scale q.w)) (kr := [23, 24, 25]) ⟨rfl, rfl, rfl, trivial⟩ ⟨rfl, rfl, rfl, trivial⟩ ⟨rfl, rfl, rfl, trivial⟩ ((hq.axis.scale hp.w).mono (by decide)) ((hp.axis.scale hq.w).mono (by decide))) (il_cons (I_vCross (ka := [8, 9, 10]) (a := p.axis) (kb := [11, 12, 13]) (b := q.axis) (kr := [26, 27, 28]) ⟨rfl, rfl, rfl, trivial⟩ ⟨rfl, rfl, rfl, trivial⟩ ⟨rfl, rfl, rfl, trivial⟩ (hp.axis.mono (by decide)) (hq.axis.mono (by decide))) (il_cons (I_vAdd (ka := [23, 24, 25]) (a := ((q.axis.scale p.w).add (p.axis.scale q.w))) (kb := [26, 27, 28]) (b := (p.axis.cross q.axis)) (kr := [29, 30, 31]) ⟨rfl, rfl, rfl, trivial⟩ ⟨rfl, rfl, rfl, trivial⟩ ⟨rfl, rfl, rfl, trivial⟩ (((hq.axis.scale hp.w).add (hp.axis.scale hq.w)).mono (by decide)) ((hp.axis.cross hq.axis).mono (by decide))) (il_cons (I_fCanon (iu := 16) (kc := [29, 30, 31]) (c := (((q.axis.scale p.w).add (p.axis.scale q.w)).add (p.axis.cross q.axis))) (kr := [32, 33, 34, 35]) rfl ⟨rfl, rfl, rfl, trivial⟩ ⟨rfl, rfl, rfl, rfl, trivial⟩ (((hp.w.mul hq.w).sub (hp.axis.dot hq.axis)).mono (by decide)) ((((hq.axis.scale hp.w).add (hp.axis.scale hq.w)).add (hp.axis.cross hq.axis)).mono (by decide)) (ham_ne gp gq)) il_nil)))))))))))
    ol_nil (by kernel_rfl) Tryz.func62 (by kernel_rfl) ⟨(row_isL (xs := xfMulTX p q) (ks := [0, 1, 2, 3]) (vs := [p.w, p.x, p.y, p.z]) ⟨rfl, rfl, rfl, rfl, trivial⟩).2 ip, ⟨(row_isL (xs := xfMulTX p q) (ks := [4, 5, 6, 7]) (vs := [q.w, q.x, q.y, q.z]) ⟨rfl, rfl, rfl, rfl, trivial⟩).2 iq, trivial⟩⟩).mono ?_
  rintro e w' ⟨v, rfl, h1, h2⟩
  exact ⟨v, rfl, (row_isL (xs := xfMulTX p q) (ks := [32, 33, 34, 35]) (vs := [(Qq.mk ((p.w.mul q.w).sub (p.axis.dot q.axis)) (((q.axis.scale p.w).add (p.axis.scale q.w)).add (p.axis.cross q.axis)).x (((q.axis.scale p.w).add (p.axis.scale q.w)).add (p.axis.cross q.axis)).y (((q.axis.scale p.w).add (p.axis.scale q.w)).add (p.axis.cross q.axis)).z).canon.w, (Qq.mk ((p.w.mul q.w).sub (p.axis.dot q.axis)) (((q.axis.scale p.w).add (p.axis.scale q.w)).add (p.axis.cross q.axis)).x (((q.axis.scale p.w).add (p.axis.scale q.w)).add (p.axis.cross q.axis)).y (((q.axis.scale p.w).add (p.axis.scale q.w)).add (p.axis.cross q.axis)).z).canon.x, (Qq.mk ((p.w.mul q.w).sub (p.axis.dot q.axis)) (((q.axis.scale p.w).add (p.axis.scale q.w)).add (p.axis.cross q.axis)).x (((q.axis.scale p.w).add (p.axis.scale q.w)).add (p.axis.cross q.axis)).y (((q.axis.scale p.w).add (p.axis.scale q.w)).add (p.axis.cross q.axis)).z).canon.y, (Qq.mk ((p.w.mul q.w).sub (p.axis.dot q.axis)) (((q.axis.scale p.w).add (p.axis.scale q.w)).add (p.axis.cross q.axis)).x (((q.axis.scale p.w).add (p.axis.scale q.w)).add (p.axis.cross q.axis)).y (((q.axis.scale p.w).add (p.axis.scale q.w)).add (p.axis.cross q.axis)).z).canon.z]) ⟨rfl, rfl, rfl, rfl, trivial⟩).1 h1, h2⟩
theorem I_fMulT {xs : List Fq} {ys : Rho} {kp : List Nat} {kq : List Nat} {p : Qq} {q : Qq} {kr : List Nat} (ap : AtL xs kp [p.w, p.x, p.y, p.z]) (aq : AtL xs kq [q.w, q.x, q.y, q.z]) (ar : AtL xs kr [(p.mul q).w, (p.mul q).x, (p.mul q).y, (p.mul q).z]) (hp : p.ok 100000) (hq : q.ok 100000) (gp : p.good) (gq : q.good) : OkI xs ys ⟨62, [row kp, row kq], .v (row kr)⟩ :=
  ⟨enters Tryz.func62 rfl rfl, fun B w vs hB h => by
    match vs, h with
    | [vp, vq], h =>
      refine (q_fMulT vp vq p q w ((row_isL ap).1 h.1) ((row_isL aq).1 h.2.1) hp hq gp gq).mono ?_
      rintro e w' ⟨v, rfl, h1, h2⟩
      exact ⟨v, rfl, (row_isL ar).2 h1, h2⟩⟩
def xrMulTX (p : Qq) (q : Qq) : List Fq := [p.w, p.x, p.y, p.z, q.w, q.x, q.y, q.z, p.axis.x, p.axis.y, p.axis.z, q.axis.x, q.axis.y, q.axis.z, (p.w.mul q.w), (p.axis.dot q.axis), ((p.w.mul q.w).sub (p.axis.dot q.axis)), (q.axis.scale p.w).x, (q.axis.scale p.w).y, (q.axis.scale p.w).z, (p.axis.scale q.w).x, (p.axis.scale q.w).y, (p.axis.scale q.w).z, ((q.axis.scale p.w).add (p.axis.scale q.w)).x, ((q.axis.scale p.w).add (p.axis.scale q.w)).y, ((q.axis.scale p.w).add (p.axis.scale q.w)).z, (p.axis.cross q.axis).x, (p.axis.cross q.axis).y, (p.axis.cross q.axis).z, (((q.axis.scale p.w).add (p.axis.scale q.w)).add (p.axis.cross q.axis)).x, (((q.axis.scale p.w).add (p.axis.scale q.w)).add (p.axis.cross q.axis)).y, (((q.axis.scale p.w).add (p.axis.scale q.w)).add (p.axis.cross q.axis)).z, (Qq.mk ((p.w.mul q.w).sub (p.axis.dot q.axis)) (((q.axis.scale p.w).add (p.axis.scale q.w)).add (p.axis.cross q.axis)).x (((q.axis.scale p.w).add (p.axis.scale q.w)).add (p.axis.cross q.axis)).y (((q.axis.scale p.w).add (p.axis.scale q.w)).add (p.axis.cross q.axis)).z).canon.w, (Qq.mk ((p.w.mul q.w).sub (p.axis.dot q.axis)) (((q.axis.scale p.w).add (p.axis.scale q.w)).add (p.axis.cross q.axis)).x (((q.axis.scale p.w).add (p.axis.scale q.w)).add (p.axis.cross q.axis)).y (((q.axis.scale p.w).add (p.axis.scale q.w)).add (p.axis.cross q.axis)).z).canon.x, (Qq.mk ((p.w.mul q.w).sub (p.axis.dot q.axis)) (((q.axis.scale p.w).add (p.axis.scale q.w)).add (p.axis.cross q.axis)).x (((q.axis.scale p.w).add (p.axis.scale q.w)).add (p.axis.cross q.axis)).y (((q.axis.scale p.w).add (p.axis.scale q.w)).add (p.axis.cross q.axis)).z).canon.y, (Qq.mk ((p.w.mul q.w).sub (p.axis.dot q.axis)) (((q.axis.scale p.w).add (p.axis.scale q.w)).add (p.axis.cross q.axis)).x (((q.axis.scale p.w).add (p.axis.scale q.w)).add (p.axis.cross q.axis)).y (((q.axis.scale p.w).add (p.axis.scale q.w)).add (p.axis.cross q.axis)).z).canon.z]
theorem q_rMulT (vp vq : Value) (p : Qq) (q : Qq) (w : World) (ip : IsQt w vp p) (iq : IsQt w vq q) (hp : p.ok 100000) (hq : q.ok 100000) (gp : p.good) (gq : q.good) :
    Calls Tryz.prog 73 #[vp, vq] w fun e w' => RetQt w (p.mul q) e w' := by
  refine (calls_runFn (ρ := frs (xrMulTX p q) ++ []) (w := w) (fuel := 300) (args := [row [0, 1, 2, 3], row [4, 5, 6, 7]]) (vs := [vp, vq]) (r := .v (row [32, 33, 34, 35]))
    (il_cons (I_part (kq := [0, 1, 2, 3]) (q := p) (kr := [8, 9, 10]) ⟨rfl, rfl, rfl, rfl, trivial⟩ ⟨rfl, rfl, rfl, trivial⟩ (hp.mono (by decide))) (il_cons (I_part (kq := [4, 5, 6, 7]) (q := q) (kr := [11, 12, 13]) ⟨rfl, rfl, rfl, rfl, trivial⟩ ⟨rfl, rfl, rfl, trivial⟩ (hq.mono (by decide))) (il_cons (I_rMul (i := 0) (j := 4) (k := 14) rfl rfl rfl (hp.w.mono (by decide)) (hq.w.mono (by decide))) (il_cons (I_rDot (ka := [8, 9, 10]) (a := p.axis) (kb := [11, 12, 13]) (b := q.axis) (ir := 15) ⟨rfl, rfl, rfl, trivial⟩ ⟨rfl, rfl, rfl, trivial⟩ rfl (hp.axis.mono (by decide)) (hq.axis.mono (by decide))) (il_cons (I_rSub (i := 14) (j := 15) (k := 16) rfl rfl rfl ((hp.w.mul hq.w).mono (by decide)) ((hp.axis.dot hq.axis).mono (by decide))) (il_cons (I_rScale (ka := [11, 12, 13]) (a := q.axis) (ik := 0) (kr := [17, 18, 19]) ⟨rfl, rfl, rfl, trivial⟩ rfl ⟨rfl, rfl, rfl, trivial⟩ (hq.axis.mono (by decide)) (hp.w.mono (by decide))) (il_cons (I_rScale (ka := [8, 9, 10]) (a := p.axis) (ik := 4) (kr := [20, 21, 22]) ⟨rfl, rfl, rfl, trivial⟩ rfl ⟨rfl, rfl, rfl, trivial⟩ (hp.axis.mono (by decide)) (hq.w.mono (by decide))) (il_cons (I_rSum (ka := [17, 18, 19]) (a := (q.axis.scale p.w)) (kb := [20, 21, 22]) (b := (p.axis.scale q.w)) (kr := [23, 24, 25]) ⟨rfl, rfl, rfl, trivial⟩ ⟨rfl, rfl, rfl, trivial⟩ ⟨rfl, rfl, rfl, trivial⟩ ((hq.axis.scale hp.w).mono (by decide)) ((hp.axis.scale hq.w).mono (by decide))) (il_cons (I_rCross (ka := [8, 9, 10]) (a := p.axis) (kb := [11, 12, 13]) (b := q.axis) (kr := [26, 27, 28]) ⟨rfl, rfl, rfl, trivial⟩ ⟨rfl, rfl, rfl, trivial⟩ ⟨rfl, rfl, rfl, trivial⟩ (hp.axis.mono (by decide)) (hq.axis.mono (by decide))) (il_cons (I_rSum (ka := [23, 24, 25]) (a := ((q.axis.scale p.w).add (p.axis.scale q.w))) (kb := [26, 27, 28]) (b := (p.axis.cross q.axis)) (kr := [29, 30, 31]) ⟨rfl, rfl, rfl, trivial⟩ ⟨rfl, rfl, rfl, trivial⟩ ⟨rfl, rfl, rfl, trivial⟩ (((hq.axis.scale hp.w).add (hp.axis.scale hq.w)).mono (by decide)) ((hp.axis.cross hq.axis).mono (by decide))) (il_cons (I_rCanon (iu := 16) (kc := [29, 30, 31]) (c := (((q.axis.scale p.w).add (p.axis.scale q.w)).add (p.axis.cross q.axis))) (kr := [32, 33, 34, 35]) rfl ⟨rfl, rfl, rfl, trivial⟩ ⟨rfl, rfl, rfl, rfl, trivial⟩ (((hp.w.mul hq.w).sub (hp.axis.dot hq.axis)).mono (by decide)) ((((hq.axis.scale hp.w).add (hp.axis.scale hq.w)).add (hp.axis.cross hq.axis)).mono (by decide)) (ham_ne gp gq)) il_nil)))))))))))
    ol_nil (by kernel_rfl) Tryz.func73 (by kernel_rfl) ⟨(row_isL (xs := xrMulTX p q) (ks := [0, 1, 2, 3]) (vs := [p.w, p.x, p.y, p.z]) ⟨rfl, rfl, rfl, rfl, trivial⟩).2 ip, ⟨(row_isL (xs := xrMulTX p q) (ks := [4, 5, 6, 7]) (vs := [q.w, q.x, q.y, q.z]) ⟨rfl, rfl, rfl, rfl, trivial⟩).2 iq, trivial⟩⟩).mono ?_
  rintro e w' ⟨v, rfl, h1, h2⟩
  exact ⟨v, rfl, (row_isL (xs := xrMulTX p q) (ks := [32, 33, 34, 35]) (vs := [(Qq.mk ((p.w.mul q.w).sub (p.axis.dot q.axis)) (((q.axis.scale p.w).add (p.axis.scale q.w)).add (p.axis.cross q.axis)).x (((q.axis.scale p.w).add (p.axis.scale q.w)).add (p.axis.cross q.axis)).y (((q.axis.scale p.w).add (p.axis.scale q.w)).add (p.axis.cross q.axis)).z).canon.w, (Qq.mk ((p.w.mul q.w).sub (p.axis.dot q.axis)) (((q.axis.scale p.w).add (p.axis.scale q.w)).add (p.axis.cross q.axis)).x (((q.axis.scale p.w).add (p.axis.scale q.w)).add (p.axis.cross q.axis)).y (((q.axis.scale p.w).add (p.axis.scale q.w)).add (p.axis.cross q.axis)).z).canon.x, (Qq.mk ((p.w.mul q.w).sub (p.axis.dot q.axis)) (((q.axis.scale p.w).add (p.axis.scale q.w)).add (p.axis.cross q.axis)).x (((q.axis.scale p.w).add (p.axis.scale q.w)).add (p.axis.cross q.axis)).y (((q.axis.scale p.w).add (p.axis.scale q.w)).add (p.axis.cross q.axis)).z).canon.y, (Qq.mk ((p.w.mul q.w).sub (p.axis.dot q.axis)) (((q.axis.scale p.w).add (p.axis.scale q.w)).add (p.axis.cross q.axis)).x (((q.axis.scale p.w).add (p.axis.scale q.w)).add (p.axis.cross q.axis)).y (((q.axis.scale p.w).add (p.axis.scale q.w)).add (p.axis.cross q.axis)).z).canon.z]) ⟨rfl, rfl, rfl, rfl, trivial⟩).1 h1, h2⟩
theorem I_rMulT {xs : List Fq} {ys : Rho} {kp : List Nat} {kq : List Nat} {p : Qq} {q : Qq} {kr : List Nat} (ap : AtL xs kp [p.w, p.x, p.y, p.z]) (aq : AtL xs kq [q.w, q.x, q.y, q.z]) (ar : AtL xs kr [(p.mul q).w, (p.mul q).x, (p.mul q).y, (p.mul q).z]) (hp : p.ok 100000) (hq : q.ok 100000) (gp : p.good) (gq : q.good) : OkI xs ys ⟨73, [row kp, row kq], .v (row kr)⟩ :=
  ⟨enters Tryz.func73 rfl rfl, fun B w vs hB h => by
    match vs, h with
    | [vp, vq], h =>
      refine (q_rMulT vp vq p q w ((row_isL ap).1 h.1) ((row_isL aq).1 h.2.1) hp hq gp gq).mono ?_
      rintro e w' ⟨v, rfl, h1, h2⟩
      exact ⟨v, rfl, (row_isL ar).2 h1, h2⟩⟩
def xfInvTX (q : Qq) : List Fq := [q.w, q.x, q.y, q.z, q.axis.x, q.axis.y, q.axis.z, (Fq.ofInt (-1)), (q.axis.scale (Fq.ofInt (-1))).x, (q.axis.scale (Fq.ofInt (-1))).y, (q.axis.scale (Fq.ofInt (-1))).z, (Qq.mk q.w (q.axis.scale (Fq.ofInt (-1))).x (q.axis.scale (Fq.ofInt (-1))).y (q.axis.scale (Fq.ofInt (-1))).z).canon.w, (Qq.mk q.w (q.axis.scale (Fq.ofInt (-1))).x (q.axis.scale (Fq.ofInt (-1))).y (q.axis.scale (Fq.ofInt (-1))).z).canon.x, (Qq.mk q.w (q.axis.scale (Fq.ofInt (-1))).x (q.axis.scale (Fq.ofInt (-1))).y (q.axis.scale (Fq.ofInt (-1))).z).canon.y, (Qq.mk q.w (q.axis.scale (Fq.ofInt (-1))).x (q.axis.scale (Fq.ofInt (-1))).y (q.axis.scale (Fq.ofInt (-1))).z).canon.z]
theorem q_fInvT (vq : Value) (q : Qq) (w : World) (iq : IsQt w vq q) (hq : q.ok 100000) (gq : q.good) :
    Calls Tryz.prog 119 #[vq] w fun e w' => RetQt w q.inv e w' := by
  refine (calls_runFn (ρ := frs (xfInvTX q) ++ []) (w := w) (fuel := 300) (args := [row [0, 1, 2, 3]]) (vs := [vq]) (r := .v (row [11, 12, 13, 14]))
    (il_cons (I_axis (kq := [0, 1, 2, 3]) (q := q) (kr := [4, 5, 6]) ⟨rfl, rfl, rfl, rfl, trivial⟩ ⟨rfl, rfl, rfl, trivial⟩ (hq.mono (by decide))) (il_cons (I_fInt (k := 7) rfl (by decide) (by decide)) (il_cons (I_vScale (ka := [4, 5, 6]) (a := q.axis) (ik := 7) (kr := [8, 9, 10]) ⟨rfl, rfl, rfl, trivial⟩ rfl ⟨rfl, rfl, rfl, trivial⟩ (hq.axis.mono (by decide)) ((ok_int (u := -1) (by decide) (by decide)).mono (by decide))) (il_cons (I_fCanon (iu := 0) (kc := [8, 9, 10]) (c := (q.axis.scale (Fq.ofInt (-1)))) (kr := [11, 12, 13, 14]) rfl ⟨rfl, rfl, rfl, trivial⟩ ⟨rfl, rfl, rfl, rfl, trivial⟩ (hq.w.mono (by decide)) ((hq.axis.scale (ok_int (u := -1) (by decide) (by decide))).mono (by decide)) (inv_ne' gq)) il_nil))))
    ol_nil (by kernel_rfl) Tryz.func119 (by kernel_rfl) ⟨(row_isL (xs := xfInvTX q) (ks := [0, 1, 2, 3]) (vs := [q.w, q.x, q.y, q.z]) ⟨rfl, rfl, rfl, rfl, trivial⟩).2 iq, trivial⟩).mono ?_
  rintro e w' ⟨v, rfl, h1, h2⟩
  exact ⟨v, rfl, (row_isL (xs := xfInvTX q) (ks := [11, 12, 13, 14]) (vs := [(Qq.mk q.w (q.axis.scale (Fq.ofInt (-1))).x (q.axis.scale (Fq.ofInt (-1))).y (q.axis.scale (Fq.ofInt (-1))).z).canon.w, (Qq.mk q.w (q.axis.scale (Fq.ofInt (-1))).x (q.axis.scale (Fq.ofInt (-1))).y (q.axis.scale (Fq.ofInt (-1))).z).canon.x, (Qq.mk q.w (q.axis.scale (Fq.ofInt (-1))).x (q.axis.scale (Fq.ofInt (-1))).y (q.axis.scale (Fq.ofInt (-1))).z).canon.y, (Qq.mk q.w (q.axis.scale (Fq.ofInt (-1))).x (q.axis.scale (Fq.ofInt (-1))).y (q.axis.scale (Fq.ofInt (-1))).z).canon.z]) ⟨rfl, rfl, rfl, rfl, trivial⟩).1 h1, h2⟩
theorem I_fInvT {xs : List Fq} {ys : Rho} {kq : List Nat} {q : Qq} {kr : List Nat} (aq : AtL xs kq [q.w, q.x, q.y, q.z]) (ar : AtL xs kr [q.inv.w, q.inv.x, q.inv.y, q.inv.z]) (hq : q.ok 100000) (gq : q.good) : OkI xs ys ⟨119, [row kq], .v (row kr)⟩ :=
  ⟨enters Tryz.func119 rfl rfl, fun B w vs hB h => by
    match vs, h with
    | [vq], h =>
      refine (q_fInvT vq q w ((row_isL aq).1 h.1) hq gq).mono ?_
      rintro e w' ⟨v, rfl, h1, h2⟩
      exact ⟨v, rfl, (row_isL ar).2 h1, h2⟩⟩
def xrInvTX (q : Qq) : List Fq := [q.w, q.x, q.y, q.z, q.x.neg, q.y.neg, q.z.neg, (Qq.mk q.w (Vq.mk q.x.neg q.y.neg q.z.neg).x (Vq.mk q.x.neg q.y.neg q.z.neg).y (Vq.mk q.x.neg q.y.neg q.z.neg).z).canon.w, (Qq.mk q.w (Vq.mk q.x.neg q.y.neg q.z.neg).x (Vq.mk q.x.neg q.y.neg q.z.neg).y (Vq.mk q.x.neg q.y.neg q.z.neg).z).canon.x, (Qq.mk q.w (Vq.mk q.x.neg q.y.neg q.z.neg).x (Vq.mk q.x.neg q.y.neg q.z.neg).y (Vq.mk q.x.neg q.y.neg q.z.neg).z).canon.y, (Qq.mk q.w (Vq.mk q.x.neg q.y.neg q.z.neg).x (Vq.mk q.x.neg q.y.neg q.z.neg).y (Vq.mk q.x.neg q.y.neg q.z.neg).z).canon.z]
theorem q_rInvT (vq : Value) (q : Qq) (w : World) (iq : IsQt w vq q) (hq : q.ok 100000) (gq : q.good) :
    Calls Tryz.prog 74 #[vq] w fun e w' => RetQt w q.inv e w' := by
  rw [inv_inv' gq.comp]
  refine (calls_runFn (ρ := frs (xrInvTX q) ++ []) (w := w) (fuel := 300) (args := [row [0, 1, 2, 3]]) (vs := [vq]) (r := .v (row [7, 8, 9, 10]))
    (il_cons (I_rNeg (i := 1) (k := 4) rfl rfl (hq.x.mono (by decide))) (il_cons (I_rNeg (i := 2) (k := 5) rfl rfl (hq.y.mono (by decide))) (il_cons (I_rNeg (i := 3) (k := 6) rfl rfl (hq.z.mono (by decide))) (il_cons (I_rCanon (iu := 0) (kc := [4, 5, 6]) (c := (Vq.mk q.x.neg q.y.neg q.z.neg)) (kr := [7, 8, 9, 10]) rfl ⟨rfl, rfl, rfl, trivial⟩ ⟨rfl, rfl, rfl, rfl, trivial⟩ (hq.w.mono (by decide)) (⟨hq.x.neg.mono (by decide), hq.y.neg.mono (by decide), hq.z.neg.mono (by decide)⟩ : Vq.ok 100000000 (Vq.mk q.x.neg q.y.neg q.z.neg)) (conj_ne gq)) il_nil))))
    ol_nil (by kernel_rfl) Tryz.func74 (by kernel_rfl) ⟨(row_isL (xs := xrInvTX q) (ks := [0, 1, 2, 3]) (vs := [q.w, q.x, q.y, q.z]) ⟨rfl, rfl, rfl, rfl, trivial⟩).2 iq, trivial⟩).mono ?_
  rintro e w' ⟨v, rfl, h1, h2⟩
  exact ⟨v, rfl, (row_isL (xs := xrInvTX q) (ks := [7, 8, 9, 10]) (vs := [(Qq.mk q.w (Vq.mk q.x.neg q.y.neg q.z.neg).x (Vq.mk q.x.neg q.y.neg q.z.neg).y (Vq.mk q.x.neg q.y.neg q.z.neg).z).canon.w, (Qq.mk q.w (Vq.mk q.x.neg q.y.neg q.z.neg).x (Vq.mk q.x.neg q.y.neg q.z.neg).y (Vq.mk q.x.neg q.y.neg q.z.neg).z).canon.x, (Qq.mk q.w (Vq.mk q.x.neg q.y.neg q.z.neg).x (Vq.mk q.x.neg q.y.neg q.z.neg).y (Vq.mk q.x.neg q.y.neg q.z.neg).z).canon.y, (Qq.mk q.w (Vq.mk q.x.neg q.y.neg q.z.neg).x (Vq.mk q.x.neg q.y.neg q.z.neg).y (Vq.mk q.x.neg q.y.neg q.z.neg).z).canon.z]) ⟨rfl, rfl, rfl, rfl, trivial⟩).1 h1, h2⟩
theorem I_rInvT {xs : List Fq} {ys : Rho} {kq : List Nat} {q : Qq} {kr : List Nat} (aq : AtL xs kq [q.w, q.x, q.y, q.z]) (ar : AtL xs kr [q.inv.w, q.inv.x, q.inv.y, q.inv.z]) (hq : q.ok 100000) (gq : q.good) : OkI xs ys ⟨74, [row kq], .v (row kr)⟩ :=
  ⟨enters Tryz.func74 rfl rfl, fun B w vs hB h => by
    match vs, h with
    | [vq], h =>
      refine (q_rInvT vq q w ((row_isL aq).1 h.1) hq gq).mono ?_
      rintro e w' ⟨v, rfl, h1, h2⟩
      exact ⟨v, rfl, (row_isL ar).2 h1, h2⟩⟩
def xfAppX (q : Qq) (a : Vq) : List Fq := [q.w, q.x, q.y, q.z, a.x, a.y, a.z, q.axis.x, q.axis.y, q.axis.z, (q.w.mul q.w), (q.axis.dot q.axis), (Fq.ofInt 2), ((q.w.mul q.w).sub (q.axis.dot q.axis)), (a.scale ((q.w.mul q.w).sub (q.axis.dot q.axis))).x, (a.scale ((q.w.mul q.w).sub (q.axis.dot q.axis))).y, (a.scale ((q.w.mul q.w).sub (q.axis.dot q.axis))).z, (q.axis.dot a), ((Fq.ofInt 2).mul (q.axis.dot a)), (q.axis.scale ((Fq.ofInt 2).mul (q.axis.dot a))).x, (q.axis.scale ((Fq.ofInt 2).mul (q.axis.dot a))).y, (q.axis.scale ((Fq.ofInt 2).mul (q.axis.dot a))).z, ((a.scale ((q.w.mul q.w).sub (q.axis.dot q.axis))).add (q.axis.scale ((Fq.ofInt 2).mul (q.axis.dot a)))).x, ((a.scale ((q.w.mul q.w).sub (q.axis.dot q.axis))).add (q.axis.scale ((Fq.ofInt 2).mul (q.axis.dot a)))).y, ((a.scale ((q.w.mul q.w).sub (q.axis.dot q.axis))).add (q.axis.scale ((Fq.ofInt 2).mul (q.axis.dot a)))).z, (q.axis.cross a).x, (q.axis.cross a).y, (q.axis.cross a).z, ((Fq.ofInt 2).mul q.w), ((q.axis.cross a).scale ((Fq.ofInt 2).mul q.w)).x, ((q.axis.cross a).scale ((Fq.ofInt 2).mul q.w)).y, ((q.axis.cross a).scale ((Fq.ofInt 2).mul q.w)).z, (((a.scale ((q.w.mul q.w).sub (q.axis.dot q.axis))).add (q.axis.scale ((Fq.ofInt 2).mul (q.axis.dot a)))).add ((q.axis.cross a).scale ((Fq.ofInt 2).mul q.w))).x, (((a.scale ((q.w.mul q.w).sub (q.axis.dot q.axis))).add (q.axis.scale ((Fq.ofInt 2).mul (q.axis.dot a)))).add ((q.axis.cross a).scale ((Fq.ofInt 2).mul q.w))).y, (((a.scale ((q.w.mul q.w).sub (q.axis.dot q.axis))).add (q.axis.scale ((Fq.ofInt 2).mul (q.axis.dot a)))).add ((q.axis.cross a).scale ((Fq.ofInt 2).mul q.w))).z, (Fq.ofInt 1), ((q.w.mul q.w).add (q.axis.dot q.axis)), ((Fq.ofInt 1).div ((q.w.mul q.w).add (q.axis.dot q.axis))), ((((a.scale ((q.w.mul q.w).sub (q.axis.dot q.axis))).add (q.axis.scale ((Fq.ofInt 2).mul (q.axis.dot a)))).add ((q.axis.cross a).scale ((Fq.ofInt 2).mul q.w))).scale ((Fq.ofInt 1).div ((q.w.mul q.w).add (q.axis.dot q.axis)))).x, ((((a.scale ((q.w.mul q.w).sub (q.axis.dot q.axis))).add (q.axis.scale ((Fq.ofInt 2).mul (q.axis.dot a)))).add ((q.axis.cross a).scale ((Fq.ofInt 2).mul q.w))).scale ((Fq.ofInt 1).div ((q.w.mul q.w).add (q.axis.dot q.axis)))).y, ((((a.scale ((q.w.mul q.w).sub (q.axis.dot q.axis))).add (q.axis.scale ((Fq.ofInt 2).mul (q.axis.dot a)))).add ((q.axis.cross a).scale ((Fq.ofInt 2).mul q.w))).scale ((Fq.ofInt 1).div ((q.w.mul q.w).add (q.axis.dot q.axis)))).z]
theorem q_fApp (vq va : Value) (q : Qq) (a : Vq) (w : World) (iq : IsQt w vq q) (ia : IsVq w va a) (hq : q.ok 300000) (ha : a.ok 300000) (gq : q.good) :
    Calls Tryz.prog 120 #[vq, va] w fun e w' => RetVq w (q.app a) e w' := by
  refine (calls_runFn (ρ := frs (xfAppX q a) ++ []) (w := w) (fuel := 300) (args := [row [0, 1, 2, 3], row [4, 5, 6]]) (vs := [vq, va]) (r := .v (row [38, 39, 40]))
    (il_cons (I_axis (kq := [0, 1, 2, 3]) (q := q) (kr := [7, 8, 9]) ⟨rfl, rfl, rfl, rfl, trivial⟩ ⟨rfl, rfl, rfl, trivial⟩ (hq.mono (by decide))) (il_cons (I_fMul (i := 0) (j := 0) (k := 10) rfl rfl rfl (hq.w.mono (by decide)) (hq.w.mono (by decide))) (il_cons (I_vDot (ka := [7, 8, 9]) (a := q.axis) (kb := [7, 8, 9]) (b := q.axis) (ir := 11) ⟨rfl, rfl, rfl, trivial⟩ ⟨rfl, rfl, rfl, trivial⟩ rfl (hq.axis.mono (by decide)) (hq.axis.mono (by decide))) (il_cons (I_fInt (k := 12) rfl (by decide) (by decide)) (il_cons (I_fSub (i := 10) (j := 11) (k := 13) rfl rfl rfl ((hq.w.mul hq.w).mono (by decide)) ((hq.axis.dot hq.axis).mono (by decide))) (il_cons (I_vScale (ka := [4, 5, 6]) (a := a) (ik := 13) (kr := [14, 15, 16]) ⟨rfl, rfl, rfl, trivial⟩ rfl ⟨rfl, rfl, rfl, trivial⟩ (ha.mono (by decide)) (((hq.w.mul hq.w).sub (hq.axis.dot hq.axis)).mono (by decide))) (il_cons (I_vDot (ka := [7, 8, 9]) (a := q.axis) (kb := [4, 5, 6]) (b := a) (ir := 17) ⟨rfl, rfl, rfl, trivial⟩ ⟨rfl, rfl, rfl, trivial⟩ rfl (hq.axis.mono (by decide)) (ha.mono (by decide))) (il_cons (I_fMul (i := 12) (j := 17) (k := 18) rfl rfl rfl ((ok_int (u := 2) (by decide) (by decide)).mono (by decide)) ((hq.axis.dot ha).mono (by decide))) (il_cons (I_vScale (ka := [7, 8, 9]) (a := q.axis) (ik := 18) (kr := [19, 20, 21]) ⟨rfl, rfl, rfl, trivial⟩ rfl ⟨rfl, rfl, rfl, trivial⟩ (hq.axis.mono (by decide)) (((ok_int (u := 2) (by decide) (by decide)).mul (hq.axis.dot ha)).mono (by decide))) (il_cons (I_vAdd (ka := [14, 15, 16]) (a := (a.scale ((q.w.mul q.w).sub (q.axis.dot q.axis)))) (kb := [19, 20, 21]) (b := (q.axis.scale ((Fq.ofInt 2).mul (q.axis.dot a)))) (kr := [22, 23, 24]) ⟨rfl, rfl, rfl, trivial⟩ ⟨rfl, rfl, rfl, trivial⟩ ⟨rfl, rfl, rfl, trivial⟩ ((ha.scale ((hq.w.mul hq.w).sub (hq.axis.dot hq.axis))).mono (by decide)) ((hq.axis.scale ((ok_int (u := 2) (by decide) (by decide)).mul (hq.axis.dot ha))).mono (by decide))) (il_cons (I_vCross (ka := [7, 8, 9]) (a := q.axis) (kb := [4, 5, 6]) (b := a) (kr := [25, 26, 27]) ⟨rfl, rfl, rfl, trivial⟩ ⟨rfl, rfl, rfl, trivial⟩ ⟨rfl, rfl, rfl, trivial⟩ (hq.axis.mono (by decide)) (ha.mono (by decide))) (il_cons (I_fMul (i := 12) (j := 0) (k := 28) rfl rfl rfl ((ok_int (u := 2) (by decide) (by decide)).mono (by decide)) (hq.w.mono (by decide))) (il_cons (I_vScale (ka := [25, 26, 27]) (a := (q.axis.cross a)) (ik := 28) (kr := [29, 30, 31]) ⟨rfl, rfl, rfl, trivial⟩ rfl ⟨rfl, rfl, rfl, trivial⟩ ((hq.axis.cross ha).mono (by decide)) (((ok_int (u := 2) (by decide) (by decide)).mul hq.w).mono (by decide))) (il_cons (I_vAdd (ka := [22, 23, 24]) (a := ((a.scale ((q.w.mul q.w).sub (q.axis.dot q.axis))).add (q.axis.scale ((Fq.ofInt 2).mul (q.axis.dot a))))) (kb := [29, 30, 31]) (b := ((q.axis.cross a).scale ((Fq.ofInt 2).mul q.w))) (kr := [32, 33, 34]) ⟨rfl, rfl, rfl, trivial⟩ ⟨rfl, rfl, rfl, trivial⟩ ⟨rfl, rfl, rfl, trivial⟩ (((ha.scale ((hq.w.mul hq.w).sub (hq.axis.dot hq.axis))).add (hq.axis.scale ((ok_int (u := 2) (by decide) (by decide)).mul (hq.axis.dot ha)))).mono (by decide)) (((hq.axis.cross ha).scale ((ok_int (u := 2) (by decide) (by decide)).mul hq.w)).mono (by decide))) (il_cons (I_fInt (k := 35) rfl (by decide) (by decide)) (il_cons (I_fAdd (i := 10) (j := 11) (k := 36) rfl rfl rfl ((hq.w.mul hq.w).mono (by decide)) ((hq.axis.dot hq.axis).mono (by decide))) (il_cons (I_fDiv (i := 35) (j := 36) (k := 37) rfl rfl rfl ((ok_int (u := 1) (by decide) (by decide)).mono (by decide)) (((hq.w.mul hq.w).add (hq.axis.dot hq.axis)).mono (by decide)) (nn_ne gq)) (il_cons (I_vScale (ka := [32, 33, 34]) (a := (((a.scale ((q.w.mul q.w).sub (q.axis.dot q.axis))).add (q.axis.scale ((Fq.ofInt 2).mul (q.axis.dot a)))).add ((q.axis.cross a).scale ((Fq.ofInt 2).mul q.w)))) (ik := 37) (kr := [38, 39, 40]) ⟨rfl, rfl, rfl, trivial⟩ rfl ⟨rfl, rfl, rfl, trivial⟩ ((((ha.scale ((hq.w.mul hq.w).sub (hq.axis.dot hq.axis))).add (hq.axis.scale ((ok_int (u := 2) (by decide) (by decide)).mul (hq.axis.dot ha)))).add ((hq.axis.cross ha).scale ((ok_int (u := 2) (by decide) (by decide)).mul hq.w))).mono (by decide)) (((ok_int (u := 1) (by decide) (by decide)).div ((hq.w.mul hq.w).add (hq.axis.dot hq.axis)) (nn_ne gq)).mono (by decide))) il_nil))))))))))))))))))
    ol_nil (by kernel_rfl) Tryz.func120 (by kernel_rfl) ⟨(row_isL (xs := xfAppX q a) (ks := [0, 1, 2, 3]) (vs := [q.w, q.x, q.y, q.z]) ⟨rfl, rfl, rfl, rfl, trivial⟩).2 iq, ⟨(row_isL (xs := xfAppX q a) (ks := [4, 5, 6]) (vs := [a.x, a.y, a.z]) ⟨rfl, rfl, rfl, trivial⟩).2 ia, trivial⟩⟩).mono ?_
  rintro e w' ⟨v, rfl, h1, h2⟩
  exact ⟨v, rfl, (row_isL (xs := xfAppX q a) (ks := [38, 39, 40]) (vs := [((((a.scale ((q.w.mul q.w).sub (q.axis.dot q.axis))).add (q.axis.scale ((Fq.ofInt 2).mul (q.axis.dot a)))).add ((q.axis.cross a).scale ((Fq.ofInt 2).mul q.w))).scale ((Fq.ofInt 1).div ((q.w.mul q.w).add (q.axis.dot q.axis)))).x, ((((a.scale ((q.w.mul q.w).sub (q.axis.dot q.axis))).add (q.axis.scale ((Fq.ofInt 2).mul (q.axis.dot a)))).add ((q.axis.cross a).scale ((Fq.ofInt 2).mul q.w))).scale ((Fq.ofInt 1).div ((q.w.mul q.w).add (q.axis.dot q.axis)))).y, ((((a.scale ((q.w.mul q.w).sub (q.axis.dot q.axis))).add (q.axis.scale ((Fq.ofInt 2).mul (q.axis.dot a)))).add ((q.axis.cross a).scale ((Fq.ofInt 2).mul q.w))).scale ((Fq.ofInt 1).div ((q.w.mul q.w).add (q.axis.dot q.axis)))).z]) ⟨rfl, rfl, rfl, trivial⟩).1 h1, h2⟩
theorem I_fApp {xs : List Fq} {ys : Rho} {kq : List Nat} {ka : List Nat} {q : Qq} {a : Vq} {kr : List Nat} (aq : AtL xs kq [q.w, q.x, q.y, q.z]) (aa : AtL xs ka [a.x, a.y, a.z]) (ar : AtL xs kr [(q.app a).x, (q.app a).y, (q.app a).z]) (hq : q.ok 300000) (ha : a.ok 300000) (gq : q.good) : OkI xs ys ⟨120, [row kq, row ka], .v (row kr)⟩ :=
  ⟨enters Tryz.func120 rfl rfl, fun B w vs hB h => by
    match vs, h with
    | [vq, va], h =>
      refine (q_fApp vq va q a w ((row_isL aq).1 h.1) ((row_isL aa).1 h.2.1) hq ha gq).mono ?_
      rintro e w' ⟨v, rfl, h1, h2⟩
      exact ⟨v, rfl, (row_isL ar).2 h1, h2⟩⟩
end Go.Proofs.YthebfmlfgfmlnaaGreatDoor
namespace Go.Proofs.YthebfmlfgfmlnaaGreatDoor
set_option linter.unusedSimpArgs false
set_option linter.unusedVariables false
set_option maxRecDepth 100000
open Go.RowKit
theorem ok_vof {x y z : Int} (l1 : -9223372036854775808 ≤ x) (r1 : x < 9223372036854775808) (l2 : -9223372036854775808 ≤ y) (r2 : y < 9223372036854775808) (l3 : -9223372036854775808 ≤ z) (r3 : z < 9223372036854775808) : (Vq.of x y z).ok 2 := ⟨ok_int l1 r1, ok_int l2 r2, ok_int l3 r3⟩
theorem good_first {q : Qq} (g : q.good) : q.first = Fq.ofInt 1 := v_inj g.comp.first (ofInt_valid 1) (by rw [g.one, v_ofInt]; rfl)
theorem good_ne {q : Qq} (g : q.good) : q.first.p ≠ 0 := by rw [good_first g]; decide
theorem way_ok {p q : Qq} {t : Fq} {d e f : Nat} (h : p.ok d) (k : q.ok e) (l : t.ok f) (gp : p.good) (gq : q.good) (vt : t.valid = true) : (p.way (p.inv.mul q) t).ok (44 * (d + ((44 * (d + 2 + (d + 2) + e) + 14 + f + 2) + (44 * (d + 2 + (d + 2) + e) + 14 + f + 2))) + 14) := by
  have D := (h.inv gp).mulg k (inv_good gp) gq
  have S := D.axis.scale l
  exact h.mulg ((Qq.ok.mk4 ((ok_int (by decide) (by decide)).mono (by omega)) (S.x.mono (by omega)) (S.y.mono (by omega)) (S.z.mono (by omega)) : Qq.ok (44 * (d + 2 + (d + 2) + e) + 14 + f + 2) _).canon part_ne) gp (canon_good (part_comp (mul_good (inv_good gp) gq).comp vt) part_ne)
end Go.Proofs.YthebfmlfgfmlnaaGreatDoor
