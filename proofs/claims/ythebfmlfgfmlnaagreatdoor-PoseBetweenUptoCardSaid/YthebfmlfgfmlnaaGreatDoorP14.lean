/- On the way, valid rotations, by the executor. -/
import Derived.Test.YthebfmlfgfmlnaaGreatDoorP13
namespace Go.Proofs.YthebfmlfgfmlnaaGreatDoor
set_option linter.unusedSimpArgs false
set_option linter.unusedVariables false
set_option maxRecDepth 100000
open Go.RowKit
theorem good_of {q : Qq} (c : q.comp) (h : q.first = Fq.ofInt 1) : q.good := ⟨c, by rw [h, v_ofInt]; rfl⟩
def xfBtw1X (p : Qq) (q : Qq) (m : Fq) : List Fq := [p.w, p.x, p.y, p.z, q.w, q.x, q.y, q.z, m, p.inv.w, p.inv.x, p.inv.y, p.inv.z, (p.inv.mul q).w, (p.inv.mul q).x, (p.inv.mul q).y, (p.inv.mul q).z, (Fq.ofInt 1), (p.inv.mul q).axis.x, (p.inv.mul q).axis.y, (p.inv.mul q).axis.z, ((p.inv.mul q).axis.scale m).x, ((p.inv.mul q).axis.scale m).y, ((p.inv.mul q).axis.scale m).z, (Qq.mk (Fq.ofInt 1) ((p.inv.mul q).axis.scale m).x ((p.inv.mul q).axis.scale m).y ((p.inv.mul q).axis.scale m).z).canon.w, (Qq.mk (Fq.ofInt 1) ((p.inv.mul q).axis.scale m).x ((p.inv.mul q).axis.scale m).y ((p.inv.mul q).axis.scale m).z).canon.x, (Qq.mk (Fq.ofInt 1) ((p.inv.mul q).axis.scale m).x ((p.inv.mul q).axis.scale m).y ((p.inv.mul q).axis.scale m).z).canon.y, (Qq.mk (Fq.ofInt 1) ((p.inv.mul q).axis.scale m).x ((p.inv.mul q).axis.scale m).y ((p.inv.mul q).axis.scale m).z).canon.z, (p.mul (Qq.mk (Fq.ofInt 1) ((p.inv.mul q).axis.scale m).x ((p.inv.mul q).axis.scale m).y ((p.inv.mul q).axis.scale m).z).canon).w, (p.mul (Qq.mk (Fq.ofInt 1) ((p.inv.mul q).axis.scale m).x ((p.inv.mul q).axis.scale m).y ((p.inv.mul q).axis.scale m).z).canon).x, (p.mul (Qq.mk (Fq.ofInt 1) ((p.inv.mul q).axis.scale m).x ((p.inv.mul q).axis.scale m).y ((p.inv.mul q).axis.scale m).z).canon).y, (p.mul (Qq.mk (Fq.ofInt 1) ((p.inv.mul q).axis.scale m).x ((p.inv.mul q).axis.scale m).y ((p.inv.mul q).axis.scale m).z).canon).z]
theorem q_fBtw1 (vp vq vm : Value) (p : Qq) (q : Qq) (m : Fq) (w : World) (ip : IsQt w vp p) (iq : IsQt w vq q) (im : IsQ w vm m) (hp : p.ok 100) (hq : q.ok 100) (hm : m.ok 100) (gp : p.good) (gq : q.good) (gm : m.valid = true) (hw : (p.inv.mul q).w.p ≠ 0) :
    Calls Tryz.prog 78 #[vp, vq, vm] w fun e w' => RetQtE w (p.way (p.inv.mul q) m) 0 e w' := by
  refine (calls_runFn (ρ := frs (xfBtw1X p q m) ++ []) (w := w) (fuel := 300) (args := [row [0, 1, 2, 3], row [4, 5, 6, 7], fr 8]) (vs := [vp, vq, vm]) (r := .tup [row [28, 29, 30, 31], .one (.i .i64 0)])
    (il_cons (I_fInvT (kq := [0, 1, 2, 3]) (q := p) (kr := [9, 10, 11, 12]) ⟨rfl, rfl, rfl, rfl, trivial⟩ ⟨rfl, rfl, rfl, rfl, trivial⟩ (hp.mono (by decide)) gp) (il_cons (I_fMulT (kp := [9, 10, 11, 12]) (p := p.inv) (kq := [4, 5, 6, 7]) (q := q) (kr := [13, 14, 15, 16]) ⟨rfl, rfl, rfl, rfl, trivial⟩ ⟨rfl, rfl, rfl, rfl, trivial⟩ ⟨rfl, rfl, rfl, rfl, trivial⟩ ((hp.inv gp).mono (by decide)) (hq.mono (by decide)) (inv_good gp) gq) (il_cons (I_Half0 (kq := [13, 14, 15, 16]) (q := (p.inv.mul q)) ⟨rfl, rfl, rfl, rfl, trivial⟩ (((hp.inv gp).mulg hq (inv_good gp) gq).mono (by decide)) hw) (il_cons (I_fInt (k := 17) rfl (by decide) (by decide)) (il_cons (I_axis (kq := [13, 14, 15, 16]) (q := (p.inv.mul q)) (kr := [18, 19, 20]) ⟨rfl, rfl, rfl, rfl, trivial⟩ ⟨rfl, rfl, rfl, trivial⟩ (((hp.inv gp).mulg hq (inv_good gp) gq).mono (by decide))) (il_cons (I_vScale (ka := [18, 19, 20]) (a := (p.inv.mul q).axis) (ik := 8) (kr := [21, 22, 23]) ⟨rfl, rfl, rfl, trivial⟩ rfl ⟨rfl, rfl, rfl, trivial⟩ (((hp.inv gp).mulg hq (inv_good gp) gq).axis.mono (by decide)) (hm.mono (by decide))) (il_cons (I_fCanon (iu := 17) (kc := [21, 22, 23]) (c := ((p.inv.mul q).axis.scale m)) (kr := [24, 25, 26, 27]) rfl ⟨rfl, rfl, rfl, trivial⟩ ⟨rfl, rfl, rfl, rfl, trivial⟩ ((ok_int (u := 1) (by decide) (by decide)).mono (by decide)) ((((hp.inv gp).mulg hq (inv_good gp) gq).axis.scale hm).mono (by decide)) part_ne) (il_cons (I_fMulT (kp := [0, 1, 2, 3]) (p := p) (kq := [24, 25, 26, 27]) (q := (Qq.mk (Fq.ofInt 1) ((p.inv.mul q).axis.scale m).x ((p.inv.mul q).axis.scale m).y ((p.inv.mul q).axis.scale m).z).canon) (kr := [28, 29, 30, 31]) ⟨rfl, rfl, rfl, rfl, trivial⟩ ⟨rfl, rfl, rfl, rfl, trivial⟩ ⟨rfl, rfl, rfl, rfl, trivial⟩ (hp.mono (by decide)) ((canonC_ok (ok_int (u := 1) (by decide) (by decide)) (((hp.inv gp).mulg hq (inv_good gp) gq).axis.scale hm) part_ne).mono (by decide)) gp (canon_good (part_comp (mul_good (inv_good gp) gq).comp gm) part_ne)) il_nil))))))))
    ol_nil (by kernel_rfl) Tryz.func78 (by kernel_rfl) ⟨(row_isL (xs := xfBtw1X p q m) (ks := [0, 1, 2, 3]) (vs := [p.w, p.x, p.y, p.z]) ⟨rfl, rfl, rfl, rfl, trivial⟩).2 ip, ⟨(row_isL (xs := xfBtw1X p q m) (ks := [4, 5, 6, 7]) (vs := [q.w, q.x, q.y, q.z]) ⟨rfl, rfl, rfl, rfl, trivial⟩).2 iq, ⟨(fr_isQ (xs := xfBtw1X p q m) (k := 8) rfl).2 im, trivial⟩⟩⟩).mono ?_
  rintro e w' ⟨v, rfl, ⟨vs, rfl, h1⟩, h2⟩
  match vs, h1 with
  | [r, c], h1 =>
    obtain ⟨⟨cs, rfl, k1⟩, k2, _⟩ := h1
    have k2 : c = _ := k2
    subst k2
    exact ⟨_, rfl, (row_isL (xs := xfBtw1X p q m) (ks := [28, 29, 30, 31]) (vs := [(p.mul (Qq.mk (Fq.ofInt 1) ((p.inv.mul q).axis.scale m).x ((p.inv.mul q).axis.scale m).y ((p.inv.mul q).axis.scale m).z).canon).w, (p.mul (Qq.mk (Fq.ofInt 1) ((p.inv.mul q).axis.scale m).x ((p.inv.mul q).axis.scale m).y ((p.inv.mul q).axis.scale m).z).canon).x, (p.mul (Qq.mk (Fq.ofInt 1) ((p.inv.mul q).axis.scale m).x ((p.inv.mul q).axis.scale m).y ((p.inv.mul q).axis.scale m).z).canon).y, (p.mul (Qq.mk (Fq.ofInt 1) ((p.inv.mul q).axis.scale m).x ((p.inv.mul q).axis.scale m).y ((p.inv.mul q).axis.scale m).z).canon).z]) ⟨rfl, rfl, rfl, rfl, trivial⟩).1 ⟨_, rfl, k1⟩, h2⟩
theorem I_fBtw1 {xs : List Fq} {ys : Rho} {kp : List Nat} {kq : List Nat} {im : Nat} {p : Qq} {q : Qq} {m : Fq} {kr : List Nat} (ap : AtL xs kp [p.w, p.x, p.y, p.z]) (aq : AtL xs kq [q.w, q.x, q.y, q.z]) (am : xs[im]? = some m) (ar : AtL xs kr [(p.way (p.inv.mul q) m).w, (p.way (p.inv.mul q) m).x, (p.way (p.inv.mul q) m).y, (p.way (p.inv.mul q) m).z]) (hp : p.ok 100) (hq : q.ok 100) (hm : m.ok 100) (gp : p.good) (gq : q.good) (gm : m.valid = true) (hw : (p.inv.mul q).w.p ≠ 0) : OkI xs ys ⟨78, [row kp, row kq, fr im], .tup [row kr, .one (.i .i64 0)]⟩ :=
  ⟨enters Tryz.func78 rfl rfl, fun B w vs hB h => by
    match vs, h with
    | [vp, vq, vm], h =>
      refine (q_fBtw1 vp vq vm p q m w ((row_isL ap).1 h.1) ((row_isL aq).1 h.2.1) ((fr_isQ am).1 h.2.2.1) hp hq hm gp gq gm hw).mono ?_
      rintro e w' ⟨v, rfl, h1, h2⟩
      exact ⟨_, rfl, ⟨[v, .int .i64 0], rfl, (row_isL ar).2 h1, rfl, trivial⟩, h2⟩⟩
def xfBtw2X (p : Qq) (q : Qq) (m : Fq) : List Fq := [p.w, p.x, p.y, p.z, q.w, q.x, q.y, q.z, m, p.inv.w, p.inv.x, p.inv.y, p.inv.z, (p.inv.mul q).w, (p.inv.mul q).x, (p.inv.mul q).y, (p.inv.mul q).z, Qq.id.w, Qq.id.x, Qq.id.y, Qq.id.z, (p.mul Qq.id).w, (p.mul Qq.id).x, (p.mul Qq.id).y, (p.mul Qq.id).z]
theorem q_fBtw2 (vp vq vm : Value) (p : Qq) (q : Qq) (m : Fq) (w : World) (ip : IsQt w vp p) (iq : IsQt w vq q) (im : IsQ w vm m) (hp : p.ok 100) (hq : q.ok 100) (hm : m.ok 100) (gp : p.good) (gq : q.good) (gm : m.valid = true) (hw : (p.inv.mul q).w.p = 0) (h0 : m.p = 0) :
    Calls Tryz.prog 78 #[vp, vq, vm] w fun e w' => RetQtE w p 0 e w' := by
  rw [show RetQtE w p 0 = RetQtE w (p.mul Qq.id) 0 by rw [g_one gp]]
  refine (calls_runFn (ρ := frs (xfBtw2X p q m) ++ []) (w := w) (fuel := 300) (args := [row [0, 1, 2, 3], row [4, 5, 6, 7], fr 8]) (vs := [vp, vq, vm]) (r := .tup [row [21, 22, 23, 24], .one (.i .i64 0)])
    (il_cons (I_fInvT (kq := [0, 1, 2, 3]) (q := p) (kr := [9, 10, 11, 12]) ⟨rfl, rfl, rfl, rfl, trivial⟩ ⟨rfl, rfl, rfl, rfl, trivial⟩ (hp.mono (by decide)) gp) (il_cons (I_fMulT (kp := [9, 10, 11, 12]) (p := p.inv) (kq := [4, 5, 6, 7]) (q := q) (kr := [13, 14, 15, 16]) ⟨rfl, rfl, rfl, rfl, trivial⟩ ⟨rfl, rfl, rfl, rfl, trivial⟩ ⟨rfl, rfl, rfl, rfl, trivial⟩ ((hp.inv gp).mono (by decide)) (hq.mono (by decide)) (inv_good gp) gq) (il_cons (I_Half1 (kq := [13, 14, 15, 16]) (q := (p.inv.mul q)) ⟨rfl, rfl, rfl, rfl, trivial⟩ (((hp.inv gp).mulg hq (inv_good gp) gq).mono (by decide)) hw) (il_cons (I_fSign (i := 8) rfl (li (sgn0 h0)) (hm.mono (by decide))) (il_cons (I_fId (kr := [17, 18, 19, 20]) ⟨rfl, rfl, rfl, rfl, trivial⟩) (il_cons (I_fMulT (kp := [0, 1, 2, 3]) (p := p) (kq := [17, 18, 19, 20]) (q := Qq.id) (kr := [21, 22, 23, 24]) ⟨rfl, rfl, rfl, rfl, trivial⟩ ⟨rfl, rfl, rfl, rfl, trivial⟩ ⟨rfl, rfl, rfl, rfl, trivial⟩ (hp.mono (by decide)) (ok_id.mono (by decide)) gp id_good) il_nil))))))
    ol_nil (by kernel_rfl) Tryz.func78 (by kernel_rfl) ⟨(row_isL (xs := xfBtw2X p q m) (ks := [0, 1, 2, 3]) (vs := [p.w, p.x, p.y, p.z]) ⟨rfl, rfl, rfl, rfl, trivial⟩).2 ip, ⟨(row_isL (xs := xfBtw2X p q m) (ks := [4, 5, 6, 7]) (vs := [q.w, q.x, q.y, q.z]) ⟨rfl, rfl, rfl, rfl, trivial⟩).2 iq, ⟨(fr_isQ (xs := xfBtw2X p q m) (k := 8) rfl).2 im, trivial⟩⟩⟩).mono ?_
  rintro e w' ⟨v, rfl, ⟨vs, rfl, h1⟩, h2⟩
  match vs, h1 with
  | [r, c], h1 =>
    obtain ⟨⟨cs, rfl, k1⟩, k2, _⟩ := h1
    have k2 : c = _ := k2
    subst k2
    exact ⟨_, rfl, (row_isL (xs := xfBtw2X p q m) (ks := [21, 22, 23, 24]) (vs := [(p.mul Qq.id).w, (p.mul Qq.id).x, (p.mul Qq.id).y, (p.mul Qq.id).z]) ⟨rfl, rfl, rfl, rfl, trivial⟩).1 ⟨_, rfl, k1⟩, h2⟩
theorem I_fBtw2 {xs : List Fq} {ys : Rho} {kp : List Nat} {kq : List Nat} {im : Nat} {p : Qq} {q : Qq} {m : Fq} {kr : List Nat} (ap : AtL xs kp [p.w, p.x, p.y, p.z]) (aq : AtL xs kq [q.w, q.x, q.y, q.z]) (am : xs[im]? = some m) (ar : AtL xs kr [p.w, p.x, p.y, p.z]) (hp : p.ok 100) (hq : q.ok 100) (hm : m.ok 100) (gp : p.good) (gq : q.good) (gm : m.valid = true) (hw : (p.inv.mul q).w.p = 0) (h0 : m.p = 0) : OkI xs ys ⟨78, [row kp, row kq, fr im], .tup [row kr, .one (.i .i64 0)]⟩ :=
  ⟨enters Tryz.func78 rfl rfl, fun B w vs hB h => by
    match vs, h with
    | [vp, vq, vm], h =>
      refine (q_fBtw2 vp vq vm p q m w ((row_isL ap).1 h.1) ((row_isL aq).1 h.2.1) ((fr_isQ am).1 h.2.2.1) hp hq hm gp gq gm hw h0).mono ?_
      rintro e w' ⟨v, rfl, h1, h2⟩
      exact ⟨_, rfl, ⟨[v, .int .i64 0], rfl, (row_isL ar).2 h1, rfl, trivial⟩, h2⟩⟩
def xfBtw3X (p : Qq) (q : Qq) (m : Fq) : List Fq := [p.w, p.x, p.y, p.z, q.w, q.x, q.y, q.z, m, p.inv.w, p.inv.x, p.inv.y, p.inv.z, (p.inv.mul q).w, (p.inv.mul q).x, (p.inv.mul q).y, (p.inv.mul q).z, (Fq.ofInt 1), Qq.id.w, Qq.id.x, Qq.id.y, Qq.id.z, (q.mul Qq.id).w, (q.mul Qq.id).x, (q.mul Qq.id).y, (q.mul Qq.id).z]
theorem q_fBtw3 (vp vq vm : Value) (p : Qq) (q : Qq) (m : Fq) (w : World) (ip : IsQt w vp p) (iq : IsQt w vq q) (im : IsQ w vm m) (hp : p.ok 100) (hq : q.ok 100) (hm : m.ok 100) (gp : p.good) (gq : q.good) (gm : m.valid = true) (hw : (p.inv.mul q).w.p = 0) (h0 : m.p ≠ 0) (h1 : m = (Fq.ofInt 1)) :
    Calls Tryz.prog 78 #[vp, vq, vm] w fun e w' => RetQtE w q 0 e w' := by
  rw [show RetQtE w q 0 = RetQtE w (q.mul Qq.id) 0 by rw [g_one gq]]
  refine (calls_runFn (ρ := frs (xfBtw3X p q m) ++ [.val (.int .i64 m.sgn)]) (w := w) (fuel := 300) (args := [row [0, 1, 2, 3], row [4, 5, 6, 7], fr 8]) (vs := [vp, vq, vm]) (r := .tup [row [22, 23, 24, 25], .one (.i .i64 0)])
    (il_cons (I_fInvT (kq := [0, 1, 2, 3]) (q := p) (kr := [9, 10, 11, 12]) ⟨rfl, rfl, rfl, rfl, trivial⟩ ⟨rfl, rfl, rfl, rfl, trivial⟩ (hp.mono (by decide)) gp) (il_cons (I_fMulT (kp := [9, 10, 11, 12]) (p := p.inv) (kq := [4, 5, 6, 7]) (q := q) (kr := [13, 14, 15, 16]) ⟨rfl, rfl, rfl, rfl, trivial⟩ ⟨rfl, rfl, rfl, rfl, trivial⟩ ⟨rfl, rfl, rfl, rfl, trivial⟩ ((hp.inv gp).mono (by decide)) (hq.mono (by decide)) (inv_good gp) gq) (il_cons (I_Half1 (kq := [13, 14, 15, 16]) (q := (p.inv.mul q)) ⟨rfl, rfl, rfl, rfl, trivial⟩ (((hp.inv gp).mulg hq (inv_good gp) gq).mono (by decide)) hw) (il_cons (I_fSign (i := 8) rfl (lr (n := 78) rfl) (hm.mono (by decide))) (il_cons (I_fInt (k := 17) rfl (by decide) (by decide)) (il_cons (I_fCmp (i := 8) (j := 17) rfl rfl (li ((o_zero gm (ofInt_valid 1)).2 h1)) (hm.mono (by decide)) ((ok_int (u := 1) (by decide) (by decide)).mono (by decide))) (il_cons (I_fId (kr := [18, 19, 20, 21]) ⟨rfl, rfl, rfl, rfl, trivial⟩) (il_cons (I_fMulT (kp := [4, 5, 6, 7]) (p := q) (kq := [18, 19, 20, 21]) (q := Qq.id) (kr := [22, 23, 24, 25]) ⟨rfl, rfl, rfl, rfl, trivial⟩ ⟨rfl, rfl, rfl, rfl, trivial⟩ ⟨rfl, rfl, rfl, rfl, trivial⟩ (hq.mono (by decide)) (ok_id.mono (by decide)) gq id_good) il_nil))))))))
    (ol_cons (o_eql (n := 78) (c := 0) (t := 3) rfl (sgn_eq h0)) (ol_nil)) (by kernel_rfl) Tryz.func78 (by kernel_rfl) ⟨(row_isL (xs := xfBtw3X p q m) (ks := [0, 1, 2, 3]) (vs := [p.w, p.x, p.y, p.z]) ⟨rfl, rfl, rfl, rfl, trivial⟩).2 ip, ⟨(row_isL (xs := xfBtw3X p q m) (ks := [4, 5, 6, 7]) (vs := [q.w, q.x, q.y, q.z]) ⟨rfl, rfl, rfl, rfl, trivial⟩).2 iq, ⟨(fr_isQ (xs := xfBtw3X p q m) (k := 8) rfl).2 im, trivial⟩⟩⟩).mono ?_
  rintro e w' ⟨v, rfl, ⟨vs, rfl, h1⟩, h2⟩
  match vs, h1 with
  | [r, c], h1 =>
    obtain ⟨⟨cs, rfl, k1⟩, k2, _⟩ := h1
    have k2 : c = _ := k2
    subst k2
    exact ⟨_, rfl, (row_isL (xs := xfBtw3X p q m) (ks := [22, 23, 24, 25]) (vs := [(q.mul Qq.id).w, (q.mul Qq.id).x, (q.mul Qq.id).y, (q.mul Qq.id).z]) ⟨rfl, rfl, rfl, rfl, trivial⟩).1 ⟨_, rfl, k1⟩, h2⟩
theorem I_fBtw3 {xs : List Fq} {ys : Rho} {kp : List Nat} {kq : List Nat} {im : Nat} {p : Qq} {q : Qq} {m : Fq} {kr : List Nat} (ap : AtL xs kp [p.w, p.x, p.y, p.z]) (aq : AtL xs kq [q.w, q.x, q.y, q.z]) (am : xs[im]? = some m) (ar : AtL xs kr [q.w, q.x, q.y, q.z]) (hp : p.ok 100) (hq : q.ok 100) (hm : m.ok 100) (gp : p.good) (gq : q.good) (gm : m.valid = true) (hw : (p.inv.mul q).w.p = 0) (h0 : m.p ≠ 0) (h1 : m = (Fq.ofInt 1)) : OkI xs ys ⟨78, [row kp, row kq, fr im], .tup [row kr, .one (.i .i64 0)]⟩ :=
  ⟨enters Tryz.func78 rfl rfl, fun B w vs hB h => by
    match vs, h with
    | [vp, vq, vm], h =>
      refine (q_fBtw3 vp vq vm p q m w ((row_isL ap).1 h.1) ((row_isL aq).1 h.2.1) ((fr_isQ am).1 h.2.2.1) hp hq hm gp gq gm hw h0 h1).mono ?_
      rintro e w' ⟨v, rfl, h1, h2⟩
      exact ⟨_, rfl, ⟨[v, .int .i64 0], rfl, (row_isL ar).2 h1, rfl, trivial⟩, h2⟩⟩
def xfBtw4X (p : Qq) (q : Qq) (m : Fq) : List Fq := [p.w, p.x, p.y, p.z, q.w, q.x, q.y, q.z, m, p.inv.w, p.inv.x, p.inv.y, p.inv.z, (p.inv.mul q).w, (p.inv.mul q).x, (p.inv.mul q).y, (p.inv.mul q).z, (Fq.ofInt 1)]
theorem q_fBtw4 (vp vq vm : Value) (p : Qq) (q : Qq) (m : Fq) (w : World) (ip : IsQt w vp p) (iq : IsQt w vq q) (im : IsQ w vm m) (hp : p.ok 100) (hq : q.ok 100) (hm : m.ok 100) (gp : p.good) (gq : q.good) (gm : m.valid = true) (hw : (p.inv.mul q).w.p = 0) (h0 : m.p ≠ 0) (h1 : m ≠ (Fq.ofInt 1)) :
    Calls Tryz.prog 78 #[vp, vq, vm] w fun e w' => RetQtE w Qq.zero 4 e w' := by
  refine (calls_runFn (ρ := frs (xfBtw4X p q m) ++ [.val (.int .i64 m.sgn), .val (.int .i64 (m.cmp (Fq.ofInt 1)))]) (w := w) (fuel := 300) (args := [row [0, 1, 2, 3], row [4, 5, 6, 7], fr 8]) (vs := [vp, vq, vm]) (r := .tup [.agg [.b false, .sl0, .sl0, .b false, .sl0, .sl0, .b false, .sl0, .sl0, .b false, .sl0, .sl0], .one (.i .i64 4)])
    (il_cons (I_fInvT (kq := [0, 1, 2, 3]) (q := p) (kr := [9, 10, 11, 12]) ⟨rfl, rfl, rfl, rfl, trivial⟩ ⟨rfl, rfl, rfl, rfl, trivial⟩ (hp.mono (by decide)) gp) (il_cons (I_fMulT (kp := [9, 10, 11, 12]) (p := p.inv) (kq := [4, 5, 6, 7]) (q := q) (kr := [13, 14, 15, 16]) ⟨rfl, rfl, rfl, rfl, trivial⟩ ⟨rfl, rfl, rfl, rfl, trivial⟩ ⟨rfl, rfl, rfl, rfl, trivial⟩ ((hp.inv gp).mono (by decide)) (hq.mono (by decide)) (inv_good gp) gq) (il_cons (I_Half1 (kq := [13, 14, 15, 16]) (q := (p.inv.mul q)) ⟨rfl, rfl, rfl, rfl, trivial⟩ (((hp.inv gp).mulg hq (inv_good gp) gq).mono (by decide)) hw) (il_cons (I_fSign (i := 8) rfl (lr (n := 54) rfl) (hm.mono (by decide))) (il_cons (I_fInt (k := 17) rfl (by decide) (by decide)) (il_cons (I_fCmp (i := 8) (j := 17) rfl rfl (lr (n := 55) rfl) (hm.mono (by decide)) ((ok_int (u := 1) (by decide) (by decide)).mono (by decide))) il_nil))))))
    (ol_cons (o_eql (n := 54) (c := 0) (t := 3) rfl (sgn_eq h0)) (ol_cons (o_eql (n := 55) (c := 0) (t := 3) rfl (ne_eql (mt (o_zero gm (ofInt_valid 1)).1 h1))) (ol_nil))) (by kernel_rfl) Tryz.func78 (by kernel_rfl) ⟨(row_isL (xs := xfBtw4X p q m) (ks := [0, 1, 2, 3]) (vs := [p.w, p.x, p.y, p.z]) ⟨rfl, rfl, rfl, rfl, trivial⟩).2 ip, ⟨(row_isL (xs := xfBtw4X p q m) (ks := [4, 5, 6, 7]) (vs := [q.w, q.x, q.y, q.z]) ⟨rfl, rfl, rfl, rfl, trivial⟩).2 iq, ⟨(fr_isQ (xs := xfBtw4X p q m) (k := 8) rfl).2 im, trivial⟩⟩⟩).mono ?_
  rintro e w' ⟨v, rfl, ⟨vs, rfl, h1⟩, h2⟩
  match vs, h1 with
  | [r, c], h1 =>
    obtain ⟨⟨cs, rfl, k1⟩, k2, _⟩ := h1
    have k2 : c = _ := k2
    subst k2
    exact ⟨_, rfl, ⟨_, rfl, zero_row (n := 4) k1⟩, h2⟩
theorem I_fBtw4 {xs : List Fq} {ys : Rho} {kp : List Nat} {kq : List Nat} {im : Nat} {p : Qq} {q : Qq} {m : Fq} {kr : List Nat} (ap : AtL xs kp [p.w, p.x, p.y, p.z]) (aq : AtL xs kq [q.w, q.x, q.y, q.z]) (am : xs[im]? = some m) (ar : AtL xs kr [Qq.zero.w, Qq.zero.x, Qq.zero.y, Qq.zero.z]) (hp : p.ok 100) (hq : q.ok 100) (hm : m.ok 100) (gp : p.good) (gq : q.good) (gm : m.valid = true) (hw : (p.inv.mul q).w.p = 0) (h0 : m.p ≠ 0) (h1 : m ≠ (Fq.ofInt 1)) : OkI xs ys ⟨78, [row kp, row kq, fr im], .tup [row kr, .one (.i .i64 4)]⟩ :=
  ⟨enters Tryz.func78 rfl rfl, fun B w vs hB h => by
    match vs, h with
    | [vp, vq, vm], h =>
      refine (q_fBtw4 vp vq vm p q m w ((row_isL ap).1 h.1) ((row_isL aq).1 h.2.1) ((fr_isQ am).1 h.2.2.1) hp hq hm gp gq gm hw h0 h1).mono ?_
      rintro e w' ⟨v, rfl, h1, h2⟩
      exact ⟨_, rfl, ⟨[v, .int .i64 4], rfl, (row_isL ar).2 h1, rfl, trivial⟩, h2⟩⟩
def xrBtw1X (p : Qq) (q : Qq) (m : Fq) : List Fq := [p.w, p.x, p.y, p.z, q.w, q.x, q.y, q.z, m, p.inv.w, p.inv.x, p.inv.y, p.inv.z, (p.inv.mul q).w, (p.inv.mul q).x, (p.inv.mul q).y, (p.inv.mul q).z, (Fq.ofInt 1), (p.inv.mul q).axis.x, (p.inv.mul q).axis.y, (p.inv.mul q).axis.z, ((p.inv.mul q).axis.scale m).x, ((p.inv.mul q).axis.scale m).y, ((p.inv.mul q).axis.scale m).z, (Qq.mk (Fq.ofInt 1) ((p.inv.mul q).axis.scale m).x ((p.inv.mul q).axis.scale m).y ((p.inv.mul q).axis.scale m).z).canon.w, (Qq.mk (Fq.ofInt 1) ((p.inv.mul q).axis.scale m).x ((p.inv.mul q).axis.scale m).y ((p.inv.mul q).axis.scale m).z).canon.x, (Qq.mk (Fq.ofInt 1) ((p.inv.mul q).axis.scale m).x ((p.inv.mul q).axis.scale m).y ((p.inv.mul q).axis.scale m).z).canon.y, (Qq.mk (Fq.ofInt 1) ((p.inv.mul q).axis.scale m).x ((p.inv.mul q).axis.scale m).y ((p.inv.mul q).axis.scale m).z).canon.z, (p.mul (Qq.mk (Fq.ofInt 1) ((p.inv.mul q).axis.scale m).x ((p.inv.mul q).axis.scale m).y ((p.inv.mul q).axis.scale m).z).canon).w, (p.mul (Qq.mk (Fq.ofInt 1) ((p.inv.mul q).axis.scale m).x ((p.inv.mul q).axis.scale m).y ((p.inv.mul q).axis.scale m).z).canon).x, (p.mul (Qq.mk (Fq.ofInt 1) ((p.inv.mul q).axis.scale m).x ((p.inv.mul q).axis.scale m).y ((p.inv.mul q).axis.scale m).z).canon).y, (p.mul (Qq.mk (Fq.ofInt 1) ((p.inv.mul q).axis.scale m).x ((p.inv.mul q).axis.scale m).y ((p.inv.mul q).axis.scale m).z).canon).z]
theorem q_rBtw1 (vp vq vm : Value) (p : Qq) (q : Qq) (m : Fq) (w : World) (ip : IsQt w vp p) (iq : IsQt w vq q) (im : IsQ w vm m) (hp : p.ok 100) (hq : q.ok 100) (hm : m.ok 100) (gp : p.good) (gq : q.good) (gm : m.valid = true) (hw : (p.inv.mul q).w.p ≠ 0) :
    Calls Tryz.prog 80 #[vp, vq, vm] w fun e w' => RetQtE w (p.way (p.inv.mul q) m) 0 e w' := by
  refine (calls_runFn (ρ := frs (xrBtw1X p q m) ++ []) (w := w) (fuel := 300) (args := [row [0, 1, 2, 3], row [4, 5, 6, 7], fr 8]) (vs := [vp, vq, vm]) (r := .tup [row [28, 29, 30, 31], .one (.i .i64 0)])
    (il_cons (I_rInvT (kq := [0, 1, 2, 3]) (q := p) (kr := [9, 10, 11, 12]) ⟨rfl, rfl, rfl, rfl, trivial⟩ ⟨rfl, rfl, rfl, rfl, trivial⟩ (hp.mono (by decide)) gp) (il_cons (I_rMulT (kp := [9, 10, 11, 12]) (p := p.inv) (kq := [4, 5, 6, 7]) (q := q) (kr := [13, 14, 15, 16]) ⟨rfl, rfl, rfl, rfl, trivial⟩ ⟨rfl, rfl, rfl, rfl, trivial⟩ ⟨rfl, rfl, rfl, rfl, trivial⟩ ((hp.inv gp).mono (by decide)) (hq.mono (by decide)) (inv_good gp) gq) (il_cons (I_rHalf0 (kq := [13, 14, 15, 16]) (q := (p.inv.mul q)) ⟨rfl, rfl, rfl, rfl, trivial⟩ (((hp.inv gp).mulg hq (inv_good gp) gq).mono (by decide)) hw) (il_cons (I_rInt (k := 17) rfl (by decide) (by decide)) (il_cons (I_part (kq := [13, 14, 15, 16]) (q := (p.inv.mul q)) (kr := [18, 19, 20]) ⟨rfl, rfl, rfl, rfl, trivial⟩ ⟨rfl, rfl, rfl, trivial⟩ (((hp.inv gp).mulg hq (inv_good gp) gq).mono (by decide))) (il_cons (I_rScale (ka := [18, 19, 20]) (a := (p.inv.mul q).axis) (ik := 8) (kr := [21, 22, 23]) ⟨rfl, rfl, rfl, trivial⟩ rfl ⟨rfl, rfl, rfl, trivial⟩ (((hp.inv gp).mulg hq (inv_good gp) gq).axis.mono (by decide)) (hm.mono (by decide))) (il_cons (I_rCanon (iu := 17) (kc := [21, 22, 23]) (c := ((p.inv.mul q).axis.scale m)) (kr := [24, 25, 26, 27]) rfl ⟨rfl, rfl, rfl, trivial⟩ ⟨rfl, rfl, rfl, rfl, trivial⟩ ((ok_int (u := 1) (by decide) (by decide)).mono (by decide)) ((((hp.inv gp).mulg hq (inv_good gp) gq).axis.scale hm).mono (by decide)) part_ne) (il_cons (I_rMulT (kp := [0, 1, 2, 3]) (p := p) (kq := [24, 25, 26, 27]) (q := (Qq.mk (Fq.ofInt 1) ((p.inv.mul q).axis.scale m).x ((p.inv.mul q).axis.scale m).y ((p.inv.mul q).axis.scale m).z).canon) (kr := [28, 29, 30, 31]) ⟨rfl, rfl, rfl, rfl, trivial⟩ ⟨rfl, rfl, rfl, rfl, trivial⟩ ⟨rfl, rfl, rfl, rfl, trivial⟩ (hp.mono (by decide)) ((canonC_ok (ok_int (u := 1) (by decide) (by decide)) (((hp.inv gp).mulg hq (inv_good gp) gq).axis.scale hm) part_ne).mono (by decide)) gp (canon_good (part_comp (mul_good (inv_good gp) gq).comp gm) part_ne)) il_nil))))))))
    ol_nil (by kernel_rfl) Tryz.func80 (by kernel_rfl) ⟨(row_isL (xs := xrBtw1X p q m) (ks := [0, 1, 2, 3]) (vs := [p.w, p.x, p.y, p.z]) ⟨rfl, rfl, rfl, rfl, trivial⟩).2 ip, ⟨(row_isL (xs := xrBtw1X p q m) (ks := [4, 5, 6, 7]) (vs := [q.w, q.x, q.y, q.z]) ⟨rfl, rfl, rfl, rfl, trivial⟩).2 iq, ⟨(fr_isQ (xs := xrBtw1X p q m) (k := 8) rfl).2 im, trivial⟩⟩⟩).mono ?_
  rintro e w' ⟨v, rfl, ⟨vs, rfl, h1⟩, h2⟩
  match vs, h1 with
  | [r, c], h1 =>
    obtain ⟨⟨cs, rfl, k1⟩, k2, _⟩ := h1
    have k2 : c = _ := k2
    subst k2
    exact ⟨_, rfl, (row_isL (xs := xrBtw1X p q m) (ks := [28, 29, 30, 31]) (vs := [(p.mul (Qq.mk (Fq.ofInt 1) ((p.inv.mul q).axis.scale m).x ((p.inv.mul q).axis.scale m).y ((p.inv.mul q).axis.scale m).z).canon).w, (p.mul (Qq.mk (Fq.ofInt 1) ((p.inv.mul q).axis.scale m).x ((p.inv.mul q).axis.scale m).y ((p.inv.mul q).axis.scale m).z).canon).x, (p.mul (Qq.mk (Fq.ofInt 1) ((p.inv.mul q).axis.scale m).x ((p.inv.mul q).axis.scale m).y ((p.inv.mul q).axis.scale m).z).canon).y, (p.mul (Qq.mk (Fq.ofInt 1) ((p.inv.mul q).axis.scale m).x ((p.inv.mul q).axis.scale m).y ((p.inv.mul q).axis.scale m).z).canon).z]) ⟨rfl, rfl, rfl, rfl, trivial⟩).1 ⟨_, rfl, k1⟩, h2⟩
theorem I_rBtw1 {xs : List Fq} {ys : Rho} {kp : List Nat} {kq : List Nat} {im : Nat} {p : Qq} {q : Qq} {m : Fq} {kr : List Nat} (ap : AtL xs kp [p.w, p.x, p.y, p.z]) (aq : AtL xs kq [q.w, q.x, q.y, q.z]) (am : xs[im]? = some m) (ar : AtL xs kr [(p.way (p.inv.mul q) m).w, (p.way (p.inv.mul q) m).x, (p.way (p.inv.mul q) m).y, (p.way (p.inv.mul q) m).z]) (hp : p.ok 100) (hq : q.ok 100) (hm : m.ok 100) (gp : p.good) (gq : q.good) (gm : m.valid = true) (hw : (p.inv.mul q).w.p ≠ 0) : OkI xs ys ⟨80, [row kp, row kq, fr im], .tup [row kr, .one (.i .i64 0)]⟩ :=
  ⟨enters Tryz.func80 rfl rfl, fun B w vs hB h => by
    match vs, h with
    | [vp, vq, vm], h =>
      refine (q_rBtw1 vp vq vm p q m w ((row_isL ap).1 h.1) ((row_isL aq).1 h.2.1) ((fr_isQ am).1 h.2.2.1) hp hq hm gp gq gm hw).mono ?_
      rintro e w' ⟨v, rfl, h1, h2⟩
      exact ⟨_, rfl, ⟨[v, .int .i64 0], rfl, (row_isL ar).2 h1, rfl, trivial⟩, h2⟩⟩
def xrBtw2X (p : Qq) (q : Qq) (m : Fq) : List Fq := [p.w, p.x, p.y, p.z, q.w, q.x, q.y, q.z, m, p.inv.w, p.inv.x, p.inv.y, p.inv.z, (p.inv.mul q).w, (p.inv.mul q).x, (p.inv.mul q).y, (p.inv.mul q).z]
theorem q_rBtw2 (vp vq vm : Value) (p : Qq) (q : Qq) (m : Fq) (w : World) (ip : IsQt w vp p) (iq : IsQt w vq q) (im : IsQ w vm m) (hp : p.ok 100) (hq : q.ok 100) (hm : m.ok 100) (gp : p.good) (gq : q.good) (gm : m.valid = true) (hw : (p.inv.mul q).w.p = 0) (h0 : m.p = 0) :
    Calls Tryz.prog 80 #[vp, vq, vm] w fun e w' => RetQtE w p 0 e w' := by
  refine (calls_runFn (ρ := frs (xrBtw2X p q m) ++ []) (w := w) (fuel := 300) (args := [row [0, 1, 2, 3], row [4, 5, 6, 7], fr 8]) (vs := [vp, vq, vm]) (r := .tup [row [0, 1, 2, 3], .one (.i .i64 0)])
    (il_cons (I_rInvT (kq := [0, 1, 2, 3]) (q := p) (kr := [9, 10, 11, 12]) ⟨rfl, rfl, rfl, rfl, trivial⟩ ⟨rfl, rfl, rfl, rfl, trivial⟩ (hp.mono (by decide)) gp) (il_cons (I_rMulT (kp := [9, 10, 11, 12]) (p := p.inv) (kq := [4, 5, 6, 7]) (q := q) (kr := [13, 14, 15, 16]) ⟨rfl, rfl, rfl, rfl, trivial⟩ ⟨rfl, rfl, rfl, rfl, trivial⟩ ⟨rfl, rfl, rfl, rfl, trivial⟩ ((hp.inv gp).mono (by decide)) (hq.mono (by decide)) (inv_good gp) gq) (il_cons (I_rHalf1 (kq := [13, 14, 15, 16]) (q := (p.inv.mul q)) ⟨rfl, rfl, rfl, rfl, trivial⟩ (((hp.inv gp).mulg hq (inv_good gp) gq).mono (by decide)) hw) (il_cons (I_rSign (i := 8) rfl (li (sgn0 h0)) (hm.mono (by decide))) il_nil))))
    ol_nil (by kernel_rfl) Tryz.func80 (by kernel_rfl) ⟨(row_isL (xs := xrBtw2X p q m) (ks := [0, 1, 2, 3]) (vs := [p.w, p.x, p.y, p.z]) ⟨rfl, rfl, rfl, rfl, trivial⟩).2 ip, ⟨(row_isL (xs := xrBtw2X p q m) (ks := [4, 5, 6, 7]) (vs := [q.w, q.x, q.y, q.z]) ⟨rfl, rfl, rfl, rfl, trivial⟩).2 iq, ⟨(fr_isQ (xs := xrBtw2X p q m) (k := 8) rfl).2 im, trivial⟩⟩⟩).mono ?_
  rintro e w' ⟨v, rfl, ⟨vs, rfl, h1⟩, h2⟩
  match vs, h1 with
  | [r, c], h1 =>
    obtain ⟨⟨cs, rfl, k1⟩, k2, _⟩ := h1
    have k2 : c = _ := k2
    subst k2
    exact ⟨_, rfl, (row_isL (xs := xrBtw2X p q m) (ks := [0, 1, 2, 3]) (vs := [p.w, p.x, p.y, p.z]) ⟨rfl, rfl, rfl, rfl, trivial⟩).1 ⟨_, rfl, k1⟩, h2⟩
theorem I_rBtw2 {xs : List Fq} {ys : Rho} {kp : List Nat} {kq : List Nat} {im : Nat} {p : Qq} {q : Qq} {m : Fq} {kr : List Nat} (ap : AtL xs kp [p.w, p.x, p.y, p.z]) (aq : AtL xs kq [q.w, q.x, q.y, q.z]) (am : xs[im]? = some m) (ar : AtL xs kr [p.w, p.x, p.y, p.z]) (hp : p.ok 100) (hq : q.ok 100) (hm : m.ok 100) (gp : p.good) (gq : q.good) (gm : m.valid = true) (hw : (p.inv.mul q).w.p = 0) (h0 : m.p = 0) : OkI xs ys ⟨80, [row kp, row kq, fr im], .tup [row kr, .one (.i .i64 0)]⟩ :=
  ⟨enters Tryz.func80 rfl rfl, fun B w vs hB h => by
    match vs, h with
    | [vp, vq, vm], h =>
      refine (q_rBtw2 vp vq vm p q m w ((row_isL ap).1 h.1) ((row_isL aq).1 h.2.1) ((fr_isQ am).1 h.2.2.1) hp hq hm gp gq gm hw h0).mono ?_
      rintro e w' ⟨v, rfl, h1, h2⟩
      exact ⟨_, rfl, ⟨[v, .int .i64 0], rfl, (row_isL ar).2 h1, rfl, trivial⟩, h2⟩⟩
def xrBtw3X (p : Qq) (q : Qq) (m : Fq) : List Fq := [p.w, p.x, p.y, p.z, q.w, q.x, q.y, q.z, m, p.inv.w, p.inv.x, p.inv.y, p.inv.z, (p.inv.mul q).w, (p.inv.mul q).x, (p.inv.mul q).y, (p.inv.mul q).z, (Fq.ofInt 1)]
theorem q_rBtw3 (vp vq vm : Value) (p : Qq) (q : Qq) (m : Fq) (w : World) (ip : IsQt w vp p) (iq : IsQt w vq q) (im : IsQ w vm m) (hp : p.ok 100) (hq : q.ok 100) (hm : m.ok 100) (gp : p.good) (gq : q.good) (gm : m.valid = true) (hw : (p.inv.mul q).w.p = 0) (h0 : m.p ≠ 0) (h1 : m = (Fq.ofInt 1)) :
    Calls Tryz.prog 80 #[vp, vq, vm] w fun e w' => RetQtE w q 0 e w' := by
  refine (calls_runFn (ρ := frs (xrBtw3X p q m) ++ [.val (.int .i64 m.sgn)]) (w := w) (fuel := 300) (args := [row [0, 1, 2, 3], row [4, 5, 6, 7], fr 8]) (vs := [vp, vq, vm]) (r := .tup [row [4, 5, 6, 7], .one (.i .i64 0)])
    (il_cons (I_rInvT (kq := [0, 1, 2, 3]) (q := p) (kr := [9, 10, 11, 12]) ⟨rfl, rfl, rfl, rfl, trivial⟩ ⟨rfl, rfl, rfl, rfl, trivial⟩ (hp.mono (by decide)) gp) (il_cons (I_rMulT (kp := [9, 10, 11, 12]) (p := p.inv) (kq := [4, 5, 6, 7]) (q := q) (kr := [13, 14, 15, 16]) ⟨rfl, rfl, rfl, rfl, trivial⟩ ⟨rfl, rfl, rfl, rfl, trivial⟩ ⟨rfl, rfl, rfl, rfl, trivial⟩ ((hp.inv gp).mono (by decide)) (hq.mono (by decide)) (inv_good gp) gq) (il_cons (I_rHalf1 (kq := [13, 14, 15, 16]) (q := (p.inv.mul q)) ⟨rfl, rfl, rfl, rfl, trivial⟩ (((hp.inv gp).mulg hq (inv_good gp) gq).mono (by decide)) hw) (il_cons (I_rSign (i := 8) rfl (lr (n := 54) rfl) (hm.mono (by decide))) (il_cons (I_rInt (k := 17) rfl (by decide) (by decide)) (il_cons (I_rSame (i := 8) (j := 17) (l := .b true) rfl rfl (lb (Fq.same_iff.2 h1)) (hm.mono (by decide)).p (hm.mono (by decide)).q ((ok_int (u := 1) (by decide) (by decide)).mono (by decide)).p ((ok_int (u := 1) (by decide) (by decide)).mono (by decide)).q) il_nil))))))
    (ol_cons (o_eql (n := 54) (c := 0) (t := 3) rfl (sgn_eq h0)) (ol_nil)) (by kernel_rfl) Tryz.func80 (by kernel_rfl) ⟨(row_isL (xs := xrBtw3X p q m) (ks := [0, 1, 2, 3]) (vs := [p.w, p.x, p.y, p.z]) ⟨rfl, rfl, rfl, rfl, trivial⟩).2 ip, ⟨(row_isL (xs := xrBtw3X p q m) (ks := [4, 5, 6, 7]) (vs := [q.w, q.x, q.y, q.z]) ⟨rfl, rfl, rfl, rfl, trivial⟩).2 iq, ⟨(fr_isQ (xs := xrBtw3X p q m) (k := 8) rfl).2 im, trivial⟩⟩⟩).mono ?_
  rintro e w' ⟨v, rfl, ⟨vs, rfl, h1⟩, h2⟩
  match vs, h1 with
  | [r, c], h1 =>
    obtain ⟨⟨cs, rfl, k1⟩, k2, _⟩ := h1
    have k2 : c = _ := k2
    subst k2
    exact ⟨_, rfl, (row_isL (xs := xrBtw3X p q m) (ks := [4, 5, 6, 7]) (vs := [q.w, q.x, q.y, q.z]) ⟨rfl, rfl, rfl, rfl, trivial⟩).1 ⟨_, rfl, k1⟩, h2⟩
theorem I_rBtw3 {xs : List Fq} {ys : Rho} {kp : List Nat} {kq : List Nat} {im : Nat} {p : Qq} {q : Qq} {m : Fq} {kr : List Nat} (ap : AtL xs kp [p.w, p.x, p.y, p.z]) (aq : AtL xs kq [q.w, q.x, q.y, q.z]) (am : xs[im]? = some m) (ar : AtL xs kr [q.w, q.x, q.y, q.z]) (hp : p.ok 100) (hq : q.ok 100) (hm : m.ok 100) (gp : p.good) (gq : q.good) (gm : m.valid = true) (hw : (p.inv.mul q).w.p = 0) (h0 : m.p ≠ 0) (h1 : m = (Fq.ofInt 1)) : OkI xs ys ⟨80, [row kp, row kq, fr im], .tup [row kr, .one (.i .i64 0)]⟩ :=
  ⟨enters Tryz.func80 rfl rfl, fun B w vs hB h => by
    match vs, h with
    | [vp, vq, vm], h =>
      refine (q_rBtw3 vp vq vm p q m w ((row_isL ap).1 h.1) ((row_isL aq).1 h.2.1) ((fr_isQ am).1 h.2.2.1) hp hq hm gp gq gm hw h0 h1).mono ?_
      rintro e w' ⟨v, rfl, h1, h2⟩
      exact ⟨_, rfl, ⟨[v, .int .i64 0], rfl, (row_isL ar).2 h1, rfl, trivial⟩, h2⟩⟩
def xrBtw4X (p : Qq) (q : Qq) (m : Fq) : List Fq := [p.w, p.x, p.y, p.z, q.w, q.x, q.y, q.z, m, p.inv.w, p.inv.x, p.inv.y, p.inv.z, (p.inv.mul q).w, (p.inv.mul q).x, (p.inv.mul q).y, (p.inv.mul q).z, (Fq.ofInt 1)]
theorem q_rBtw4 (vp vq vm : Value) (p : Qq) (q : Qq) (m : Fq) (w : World) (ip : IsQt w vp p) (iq : IsQt w vq q) (im : IsQ w vm m) (hp : p.ok 100) (hq : q.ok 100) (hm : m.ok 100) (gp : p.good) (gq : q.good) (gm : m.valid = true) (hw : (p.inv.mul q).w.p = 0) (h0 : m.p ≠ 0) (h1 : m ≠ (Fq.ofInt 1)) :
    Calls Tryz.prog 80 #[vp, vq, vm] w fun e w' => RetQtE w Qq.zero 4 e w' := by
  refine (calls_runFn (ρ := frs (xrBtw4X p q m) ++ [.val (.int .i64 m.sgn)]) (w := w) (fuel := 300) (args := [row [0, 1, 2, 3], row [4, 5, 6, 7], fr 8]) (vs := [vp, vq, vm]) (r := .tup [.agg [.b false, .sl0, .sl0, .b false, .sl0, .sl0, .b false, .sl0, .sl0, .b false, .sl0, .sl0], .one (.i .i64 4)])
    (il_cons (I_rInvT (kq := [0, 1, 2, 3]) (q := p) (kr := [9, 10, 11, 12]) ⟨rfl, rfl, rfl, rfl, trivial⟩ ⟨rfl, rfl, rfl, rfl, trivial⟩ (hp.mono (by decide)) gp) (il_cons (I_rMulT (kp := [9, 10, 11, 12]) (p := p.inv) (kq := [4, 5, 6, 7]) (q := q) (kr := [13, 14, 15, 16]) ⟨rfl, rfl, rfl, rfl, trivial⟩ ⟨rfl, rfl, rfl, rfl, trivial⟩ ⟨rfl, rfl, rfl, rfl, trivial⟩ ((hp.inv gp).mono (by decide)) (hq.mono (by decide)) (inv_good gp) gq) (il_cons (I_rHalf1 (kq := [13, 14, 15, 16]) (q := (p.inv.mul q)) ⟨rfl, rfl, rfl, rfl, trivial⟩ (((hp.inv gp).mulg hq (inv_good gp) gq).mono (by decide)) hw) (il_cons (I_rSign (i := 8) rfl (lr (n := 54) rfl) (hm.mono (by decide))) (il_cons (I_rInt (k := 17) rfl (by decide) (by decide)) (il_cons (I_rSame (i := 8) (j := 17) (l := .b false) rfl rfl (lb (same_ne h1)) (hm.mono (by decide)).p (hm.mono (by decide)).q ((ok_int (u := 1) (by decide) (by decide)).mono (by decide)).p ((ok_int (u := 1) (by decide) (by decide)).mono (by decide)).q) il_nil))))))
    (ol_cons (o_eql (n := 54) (c := 0) (t := 3) rfl (sgn_eq h0)) (ol_nil)) (by kernel_rfl) Tryz.func80 (by kernel_rfl) ⟨(row_isL (xs := xrBtw4X p q m) (ks := [0, 1, 2, 3]) (vs := [p.w, p.x, p.y, p.z]) ⟨rfl, rfl, rfl, rfl, trivial⟩).2 ip, ⟨(row_isL (xs := xrBtw4X p q m) (ks := [4, 5, 6, 7]) (vs := [q.w, q.x, q.y, q.z]) ⟨rfl, rfl, rfl, rfl, trivial⟩).2 iq, ⟨(fr_isQ (xs := xrBtw4X p q m) (k := 8) rfl).2 im, trivial⟩⟩⟩).mono ?_
  rintro e w' ⟨v, rfl, ⟨vs, rfl, h1⟩, h2⟩
  match vs, h1 with
  | [r, c], h1 =>
    obtain ⟨⟨cs, rfl, k1⟩, k2, _⟩ := h1
    have k2 : c = _ := k2
    subst k2
    exact ⟨_, rfl, ⟨_, rfl, zero_row (n := 4) k1⟩, h2⟩
theorem I_rBtw4 {xs : List Fq} {ys : Rho} {kp : List Nat} {kq : List Nat} {im : Nat} {p : Qq} {q : Qq} {m : Fq} {kr : List Nat} (ap : AtL xs kp [p.w, p.x, p.y, p.z]) (aq : AtL xs kq [q.w, q.x, q.y, q.z]) (am : xs[im]? = some m) (ar : AtL xs kr [Qq.zero.w, Qq.zero.x, Qq.zero.y, Qq.zero.z]) (hp : p.ok 100) (hq : q.ok 100) (hm : m.ok 100) (gp : p.good) (gq : q.good) (gm : m.valid = true) (hw : (p.inv.mul q).w.p = 0) (h0 : m.p ≠ 0) (h1 : m ≠ (Fq.ofInt 1)) : OkI xs ys ⟨80, [row kp, row kq, fr im], .tup [row kr, .one (.i .i64 4)]⟩ :=
  ⟨enters Tryz.func80 rfl rfl, fun B w vs hB h => by
    match vs, h with
    | [vp, vq, vm], h =>
      refine (q_rBtw4 vp vq vm p q m w ((row_isL ap).1 h.1) ((row_isL aq).1 h.2.1) ((fr_isQ am).1 h.2.2.1) hp hq hm gp gq gm hw h0 h1).mono ?_
      rintro e w' ⟨v, rfl, h1, h2⟩
      exact ⟨_, rfl, ⟨[v, .int .i64 4], rfl, (row_isL ar).2 h1, rfl, trivial⟩, h2⟩⟩
def xfValidT1X (q : Qq) : List Fq := [q.w, q.x, q.y, q.z, (Fq.ofInt 1)]
def xfValidT11X (q : Qq) : List Fq := [q.w, q.x, q.y, q.z, (Fq.ofInt 1)]
def xfValidT12X (q : Qq) : List Fq := [q.w, q.x, q.y, q.z, (Fq.ofInt 1)]
def xfValidT13X (q : Qq) : List Fq := [q.w, q.x, q.y, q.z, (Fq.ofInt 1)]
theorem q_fValidT1 (vq : Value) (q : Qq) (w : World) (iq : IsQt w vq q) (hq : q.ok 1000000) (gq : q.good) :
    Calls Tryz.prog 41 #[vq] w fun e w' => RetV w (.bool true) e w' := by
  by_cases c0 : q.w.p = 0
  · by_cases c1 : q.x.p = 0
    · by_cases c2 : q.y.p = 0
      · by_cases c3 : q.z.p = 0
        · exact absurd (by simp [Qq.first, c0, c1, c2, c3]) (good_ne gq)
        · have e1 : q.first = q.z := by simp [Qq.first, c0, c1, c2, c3]
          refine (calls_runFn (ρ := frs (xfValidT1X q) ++ [.val (.int .i64 q.z.sgn)]) (w := w) (fuel := 300) (args := [row [0, 1, 2, 3]]) (vs := [vq]) (r := .v (.one (.b true)))
            (il_cons (I_parts (kq := [0, 1, 2, 3]) (q := q) (kr := [0, 1, 2, 3]) ⟨rfl, rfl, rfl, rfl, trivial⟩ ⟨rfl, rfl, rfl, rfl, trivial⟩ (hq.mono (by decide))) (il_cons (I_fValid (i := 0) (l := .b true) rfl (lb gq.comp.w) (hq.w.mono (by decide))) (il_cons (I_fValid (i := 1) (l := .b true) rfl (lb gq.comp.x) (hq.x.mono (by decide))) (il_cons (I_fValid (i := 2) (l := .b true) rfl (lb gq.comp.y) (hq.y.mono (by decide))) (il_cons (I_fValid (i := 3) (l := .b true) rfl (lb gq.comp.z) (hq.z.mono (by decide))) (il_cons (I_fSign (i := 0) rfl (li (sgn0 c0)) (hq.w.mono (by decide))) (il_cons (I_fSign (i := 1) rfl (li (sgn0 c1)) (hq.x.mono (by decide))) (il_cons (I_fSign (i := 2) rfl (li (sgn0 c2)) (hq.y.mono (by decide))) (il_cons (I_fSign (i := 3) rfl (lr (n := 15) rfl) (hq.z.mono (by decide))) (il_cons (I_fInt (k := 4) rfl (by decide) (by decide)) (il_cons (I_fCmp (i := 3) (j := 4) rfl rfl (li ((o_zero gq.comp.z (ofInt_valid 1)).2 (e1.symm.trans (good_first gq)))) (hq.z.mono (by decide)) ((ok_int (u := 1) (by decide) (by decide)).mono (by decide))) il_nil)))))))))))
            (ol_cons (o_neq (n := 15) (c := 0) (t := 3) rfl (sgn_nq c3)) (ol_nil)) (by kernel_rfl) Tryz.func41 (by kernel_rfl) ⟨(row_isL (xs := xfValidT1X q) (ks := [0, 1, 2, 3]) (vs := [q.w, q.x, q.y, q.z]) ⟨rfl, rfl, rfl, rfl, trivial⟩).2 iq, trivial⟩).mono ?_
          rintro e w' ⟨v, rfl, h1, h2⟩
          exact ⟨congrArg Ending.returned h1, h2⟩
      · have e1 : q.first = q.y := by simp [Qq.first, c0, c1, c2]
        refine (calls_runFn (ρ := frs (xfValidT11X q) ++ [.val (.int .i64 q.y.sgn)]) (w := w) (fuel := 300) (args := [row [0, 1, 2, 3]]) (vs := [vq]) (r := .v (.one (.b true)))
          (il_cons (I_parts (kq := [0, 1, 2, 3]) (q := q) (kr := [0, 1, 2, 3]) ⟨rfl, rfl, rfl, rfl, trivial⟩ ⟨rfl, rfl, rfl, rfl, trivial⟩ (hq.mono (by decide))) (il_cons (I_fValid (i := 0) (l := .b true) rfl (lb gq.comp.w) (hq.w.mono (by decide))) (il_cons (I_fValid (i := 1) (l := .b true) rfl (lb gq.comp.x) (hq.x.mono (by decide))) (il_cons (I_fValid (i := 2) (l := .b true) rfl (lb gq.comp.y) (hq.y.mono (by decide))) (il_cons (I_fValid (i := 3) (l := .b true) rfl (lb gq.comp.z) (hq.z.mono (by decide))) (il_cons (I_fSign (i := 0) rfl (li (sgn0 c0)) (hq.w.mono (by decide))) (il_cons (I_fSign (i := 1) rfl (li (sgn0 c1)) (hq.x.mono (by decide))) (il_cons (I_fSign (i := 2) rfl (lr (n := 15) rfl) (hq.y.mono (by decide))) (il_cons (I_fInt (k := 4) rfl (by decide) (by decide)) (il_cons (I_fCmp (i := 2) (j := 4) rfl rfl (li ((o_zero gq.comp.y (ofInt_valid 1)).2 (e1.symm.trans (good_first gq)))) (hq.y.mono (by decide)) ((ok_int (u := 1) (by decide) (by decide)).mono (by decide))) il_nil))))))))))
          (ol_cons (o_neq (n := 15) (c := 0) (t := 3) rfl (sgn_nq c2)) (ol_nil)) (by kernel_rfl) Tryz.func41 (by kernel_rfl) ⟨(row_isL (xs := xfValidT11X q) (ks := [0, 1, 2, 3]) (vs := [q.w, q.x, q.y, q.z]) ⟨rfl, rfl, rfl, rfl, trivial⟩).2 iq, trivial⟩).mono ?_
        rintro e w' ⟨v, rfl, h1, h2⟩
        exact ⟨congrArg Ending.returned h1, h2⟩
    · have e1 : q.first = q.x := by simp [Qq.first, c0, c1]
      refine (calls_runFn (ρ := frs (xfValidT12X q) ++ [.val (.int .i64 q.x.sgn)]) (w := w) (fuel := 300) (args := [row [0, 1, 2, 3]]) (vs := [vq]) (r := .v (.one (.b true)))
        (il_cons (I_parts (kq := [0, 1, 2, 3]) (q := q) (kr := [0, 1, 2, 3]) ⟨rfl, rfl, rfl, rfl, trivial⟩ ⟨rfl, rfl, rfl, rfl, trivial⟩ (hq.mono (by decide))) (il_cons (I_fValid (i := 0) (l := .b true) rfl (lb gq.comp.w) (hq.w.mono (by decide))) (il_cons (I_fValid (i := 1) (l := .b true) rfl (lb gq.comp.x) (hq.x.mono (by decide))) (il_cons (I_fValid (i := 2) (l := .b true) rfl (lb gq.comp.y) (hq.y.mono (by decide))) (il_cons (I_fValid (i := 3) (l := .b true) rfl (lb gq.comp.z) (hq.z.mono (by decide))) (il_cons (I_fSign (i := 0) rfl (li (sgn0 c0)) (hq.w.mono (by decide))) (il_cons (I_fSign (i := 1) rfl (lr (n := 15) rfl) (hq.x.mono (by decide))) (il_cons (I_fInt (k := 4) rfl (by decide) (by decide)) (il_cons (I_fCmp (i := 1) (j := 4) rfl rfl (li ((o_zero gq.comp.x (ofInt_valid 1)).2 (e1.symm.trans (good_first gq)))) (hq.x.mono (by decide)) ((ok_int (u := 1) (by decide) (by decide)).mono (by decide))) il_nil)))))))))
        (ol_cons (o_neq (n := 15) (c := 0) (t := 3) rfl (sgn_nq c1)) (ol_nil)) (by kernel_rfl) Tryz.func41 (by kernel_rfl) ⟨(row_isL (xs := xfValidT12X q) (ks := [0, 1, 2, 3]) (vs := [q.w, q.x, q.y, q.z]) ⟨rfl, rfl, rfl, rfl, trivial⟩).2 iq, trivial⟩).mono ?_
      rintro e w' ⟨v, rfl, h1, h2⟩
      exact ⟨congrArg Ending.returned h1, h2⟩
  · have e1 : q.first = q.w := by simp [Qq.first, c0]
    refine (calls_runFn (ρ := frs (xfValidT13X q) ++ [.val (.int .i64 q.w.sgn)]) (w := w) (fuel := 300) (args := [row [0, 1, 2, 3]]) (vs := [vq]) (r := .v (.one (.b true)))
      (il_cons (I_parts (kq := [0, 1, 2, 3]) (q := q) (kr := [0, 1, 2, 3]) ⟨rfl, rfl, rfl, rfl, trivial⟩ ⟨rfl, rfl, rfl, rfl, trivial⟩ (hq.mono (by decide))) (il_cons (I_fValid (i := 0) (l := .b true) rfl (lb gq.comp.w) (hq.w.mono (by decide))) (il_cons (I_fValid (i := 1) (l := .b true) rfl (lb gq.comp.x) (hq.x.mono (by decide))) (il_cons (I_fValid (i := 2) (l := .b true) rfl (lb gq.comp.y) (hq.y.mono (by decide))) (il_cons (I_fValid (i := 3) (l := .b true) rfl (lb gq.comp.z) (hq.z.mono (by decide))) (il_cons (I_fSign (i := 0) rfl (lr (n := 15) rfl) (hq.w.mono (by decide))) (il_cons (I_fInt (k := 4) rfl (by decide) (by decide)) (il_cons (I_fCmp (i := 0) (j := 4) rfl rfl (li ((o_zero gq.comp.w (ofInt_valid 1)).2 (e1.symm.trans (good_first gq)))) (hq.w.mono (by decide)) ((ok_int (u := 1) (by decide) (by decide)).mono (by decide))) il_nil))))))))
      (ol_cons (o_neq (n := 15) (c := 0) (t := 3) rfl (sgn_nq c0)) (ol_nil)) (by kernel_rfl) Tryz.func41 (by kernel_rfl) ⟨(row_isL (xs := xfValidT13X q) (ks := [0, 1, 2, 3]) (vs := [q.w, q.x, q.y, q.z]) ⟨rfl, rfl, rfl, rfl, trivial⟩).2 iq, trivial⟩).mono ?_
    rintro e w' ⟨v, rfl, h1, h2⟩
    exact ⟨congrArg Ending.returned h1, h2⟩
theorem I_fValidT1 {xs : List Fq} {ys : Rho} {kq : List Nat} {q : Qq}  (aq : AtL xs kq [q.w, q.x, q.y, q.z])  (hq : q.ok 1000000) (gq : q.good) : OkI xs ys ⟨41, [row kq], .v (.one (.b true))⟩ :=
  ⟨enters Tryz.func41 rfl rfl, fun B w vs hB h => by
    match vs, h with
    | [vq], h =>
      refine (q_fValidT1 vq q w ((row_isL aq).1 h.1) hq gq).mono ?_
      rintro e w' ⟨rfl, h2⟩
      exact ⟨_, rfl, rfl, h2⟩⟩
def xfValidT0X (q : Qq) : List Fq := [q.w, q.x, q.y, q.z]
def xfValidT01X (q : Qq) : List Fq := [q.w, q.x, q.y, q.z, (Fq.ofInt 1)]
def xfValidT02X (q : Qq) : List Fq := [q.w, q.x, q.y, q.z, (Fq.ofInt 1)]
def xfValidT03X (q : Qq) : List Fq := [q.w, q.x, q.y, q.z, (Fq.ofInt 1)]
def xfValidT04X (q : Qq) : List Fq := [q.w, q.x, q.y, q.z, (Fq.ofInt 1)]
theorem q_fValidT0 (vq : Value) (q : Qq) (w : World) (iq : IsQt w vq q) (hq : q.ok 1000000) (gc : q.comp) (hf : q.first ≠ (Fq.ofInt 1)) :
    Calls Tryz.prog 41 #[vq] w fun e w' => RetV w (.bool false) e w' := by
  by_cases c0 : q.w.p = 0
  · by_cases c1 : q.x.p = 0
    · by_cases c2 : q.y.p = 0
      · by_cases c3 : q.z.p = 0
        · refine (calls_runFn (ρ := frs (xfValidT0X q) ++ []) (w := w) (fuel := 300) (args := [row [0, 1, 2, 3]]) (vs := [vq]) (r := .v (.one (.b false)))
            (il_cons (I_parts (kq := [0, 1, 2, 3]) (q := q) (kr := [0, 1, 2, 3]) ⟨rfl, rfl, rfl, rfl, trivial⟩ ⟨rfl, rfl, rfl, rfl, trivial⟩ (hq.mono (by decide))) (il_cons (I_fValid (i := 0) (l := .b true) rfl (lb gc.w) (hq.w.mono (by decide))) (il_cons (I_fValid (i := 1) (l := .b true) rfl (lb gc.x) (hq.x.mono (by decide))) (il_cons (I_fValid (i := 2) (l := .b true) rfl (lb gc.y) (hq.y.mono (by decide))) (il_cons (I_fValid (i := 3) (l := .b true) rfl (lb gc.z) (hq.z.mono (by decide))) (il_cons (I_fSign (i := 0) rfl (li (sgn0 c0)) (hq.w.mono (by decide))) (il_cons (I_fSign (i := 1) rfl (li (sgn0 c1)) (hq.x.mono (by decide))) (il_cons (I_fSign (i := 2) rfl (li (sgn0 c2)) (hq.y.mono (by decide))) (il_cons (I_fSign (i := 3) rfl (li (sgn0 c3)) (hq.z.mono (by decide))) il_nil)))))))))
            ol_nil (by kernel_rfl) Tryz.func41 (by kernel_rfl) ⟨(row_isL (xs := xfValidT0X q) (ks := [0, 1, 2, 3]) (vs := [q.w, q.x, q.y, q.z]) ⟨rfl, rfl, rfl, rfl, trivial⟩).2 iq, trivial⟩).mono ?_
          rintro e w' ⟨v, rfl, h1, h2⟩
          exact ⟨congrArg Ending.returned h1, h2⟩
        · have e1 : q.first = q.z := by simp [Qq.first, c0, c1, c2, c3]
          refine (calls_runFn (ρ := frs (xfValidT01X q) ++ [.val (.int .i64 q.z.sgn), .val (.int .i64 (q.z.cmp (Fq.ofInt 1)))]) (w := w) (fuel := 300) (args := [row [0, 1, 2, 3]]) (vs := [vq]) (r := .v (.one (.b false)))
            (il_cons (I_parts (kq := [0, 1, 2, 3]) (q := q) (kr := [0, 1, 2, 3]) ⟨rfl, rfl, rfl, rfl, trivial⟩ ⟨rfl, rfl, rfl, rfl, trivial⟩ (hq.mono (by decide))) (il_cons (I_fValid (i := 0) (l := .b true) rfl (lb gc.w) (hq.w.mono (by decide))) (il_cons (I_fValid (i := 1) (l := .b true) rfl (lb gc.x) (hq.x.mono (by decide))) (il_cons (I_fValid (i := 2) (l := .b true) rfl (lb gc.y) (hq.y.mono (by decide))) (il_cons (I_fValid (i := 3) (l := .b true) rfl (lb gc.z) (hq.z.mono (by decide))) (il_cons (I_fSign (i := 0) rfl (li (sgn0 c0)) (hq.w.mono (by decide))) (il_cons (I_fSign (i := 1) rfl (li (sgn0 c1)) (hq.x.mono (by decide))) (il_cons (I_fSign (i := 2) rfl (li (sgn0 c2)) (hq.y.mono (by decide))) (il_cons (I_fSign (i := 3) rfl (lr (n := 15) rfl) (hq.z.mono (by decide))) (il_cons (I_fInt (k := 4) rfl (by decide) (by decide)) (il_cons (I_fCmp (i := 3) (j := 4) rfl rfl (lr (n := 16) rfl) (hq.z.mono (by decide)) ((ok_int (u := 1) (by decide) (by decide)).mono (by decide))) il_nil)))))))))))
            (ol_cons (o_neq (n := 15) (c := 0) (t := 3) rfl (sgn_nq c3)) (ol_cons (o_eql (n := 16) (c := 0) (t := 3) rfl (ne_eql (mt (o_zero gc.z (ofInt_valid 1)).1 (fun h => hf (e1.trans h))))) (ol_nil))) (by kernel_rfl) Tryz.func41 (by kernel_rfl) ⟨(row_isL (xs := xfValidT01X q) (ks := [0, 1, 2, 3]) (vs := [q.w, q.x, q.y, q.z]) ⟨rfl, rfl, rfl, rfl, trivial⟩).2 iq, trivial⟩).mono ?_
          rintro e w' ⟨v, rfl, h1, h2⟩
          exact ⟨congrArg Ending.returned h1, h2⟩
      · have e1 : q.first = q.y := by simp [Qq.first, c0, c1, c2]
        refine (calls_runFn (ρ := frs (xfValidT02X q) ++ [.val (.int .i64 q.y.sgn), .val (.int .i64 (q.y.cmp (Fq.ofInt 1)))]) (w := w) (fuel := 300) (args := [row [0, 1, 2, 3]]) (vs := [vq]) (r := .v (.one (.b false)))
          (il_cons (I_parts (kq := [0, 1, 2, 3]) (q := q) (kr := [0, 1, 2, 3]) ⟨rfl, rfl, rfl, rfl, trivial⟩ ⟨rfl, rfl, rfl, rfl, trivial⟩ (hq.mono (by decide))) (il_cons (I_fValid (i := 0) (l := .b true) rfl (lb gc.w) (hq.w.mono (by decide))) (il_cons (I_fValid (i := 1) (l := .b true) rfl (lb gc.x) (hq.x.mono (by decide))) (il_cons (I_fValid (i := 2) (l := .b true) rfl (lb gc.y) (hq.y.mono (by decide))) (il_cons (I_fValid (i := 3) (l := .b true) rfl (lb gc.z) (hq.z.mono (by decide))) (il_cons (I_fSign (i := 0) rfl (li (sgn0 c0)) (hq.w.mono (by decide))) (il_cons (I_fSign (i := 1) rfl (li (sgn0 c1)) (hq.x.mono (by decide))) (il_cons (I_fSign (i := 2) rfl (lr (n := 15) rfl) (hq.y.mono (by decide))) (il_cons (I_fInt (k := 4) rfl (by decide) (by decide)) (il_cons (I_fCmp (i := 2) (j := 4) rfl rfl (lr (n := 16) rfl) (hq.y.mono (by decide)) ((ok_int (u := 1) (by decide) (by decide)).mono (by decide))) il_nil))))))))))
          (ol_cons (o_neq (n := 15) (c := 0) (t := 3) rfl (sgn_nq c2)) (ol_cons (o_eql (n := 16) (c := 0) (t := 3) rfl (ne_eql (mt (o_zero gc.y (ofInt_valid 1)).1 (fun h => hf (e1.trans h))))) (ol_nil))) (by kernel_rfl) Tryz.func41 (by kernel_rfl) ⟨(row_isL (xs := xfValidT02X q) (ks := [0, 1, 2, 3]) (vs := [q.w, q.x, q.y, q.z]) ⟨rfl, rfl, rfl, rfl, trivial⟩).2 iq, trivial⟩).mono ?_
        rintro e w' ⟨v, rfl, h1, h2⟩
        exact ⟨congrArg Ending.returned h1, h2⟩
    · have e1 : q.first = q.x := by simp [Qq.first, c0, c1]
      refine (calls_runFn (ρ := frs (xfValidT03X q) ++ [.val (.int .i64 q.x.sgn), .val (.int .i64 (q.x.cmp (Fq.ofInt 1)))]) (w := w) (fuel := 300) (args := [row [0, 1, 2, 3]]) (vs := [vq]) (r := .v (.one (.b false)))
        (il_cons (I_parts (kq := [0, 1, 2, 3]) (q := q) (kr := [0, 1, 2, 3]) ⟨rfl, rfl, rfl, rfl, trivial⟩ ⟨rfl, rfl, rfl, rfl, trivial⟩ (hq.mono (by decide))) (il_cons (I_fValid (i := 0) (l := .b true) rfl (lb gc.w) (hq.w.mono (by decide))) (il_cons (I_fValid (i := 1) (l := .b true) rfl (lb gc.x) (hq.x.mono (by decide))) (il_cons (I_fValid (i := 2) (l := .b true) rfl (lb gc.y) (hq.y.mono (by decide))) (il_cons (I_fValid (i := 3) (l := .b true) rfl (lb gc.z) (hq.z.mono (by decide))) (il_cons (I_fSign (i := 0) rfl (li (sgn0 c0)) (hq.w.mono (by decide))) (il_cons (I_fSign (i := 1) rfl (lr (n := 15) rfl) (hq.x.mono (by decide))) (il_cons (I_fInt (k := 4) rfl (by decide) (by decide)) (il_cons (I_fCmp (i := 1) (j := 4) rfl rfl (lr (n := 16) rfl) (hq.x.mono (by decide)) ((ok_int (u := 1) (by decide) (by decide)).mono (by decide))) il_nil)))))))))
        (ol_cons (o_neq (n := 15) (c := 0) (t := 3) rfl (sgn_nq c1)) (ol_cons (o_eql (n := 16) (c := 0) (t := 3) rfl (ne_eql (mt (o_zero gc.x (ofInt_valid 1)).1 (fun h => hf (e1.trans h))))) (ol_nil))) (by kernel_rfl) Tryz.func41 (by kernel_rfl) ⟨(row_isL (xs := xfValidT03X q) (ks := [0, 1, 2, 3]) (vs := [q.w, q.x, q.y, q.z]) ⟨rfl, rfl, rfl, rfl, trivial⟩).2 iq, trivial⟩).mono ?_
      rintro e w' ⟨v, rfl, h1, h2⟩
      exact ⟨congrArg Ending.returned h1, h2⟩
  · have e1 : q.first = q.w := by simp [Qq.first, c0]
    refine (calls_runFn (ρ := frs (xfValidT04X q) ++ [.val (.int .i64 q.w.sgn), .val (.int .i64 (q.w.cmp (Fq.ofInt 1)))]) (w := w) (fuel := 300) (args := [row [0, 1, 2, 3]]) (vs := [vq]) (r := .v (.one (.b false)))
      (il_cons (I_parts (kq := [0, 1, 2, 3]) (q := q) (kr := [0, 1, 2, 3]) ⟨rfl, rfl, rfl, rfl, trivial⟩ ⟨rfl, rfl, rfl, rfl, trivial⟩ (hq.mono (by decide))) (il_cons (I_fValid (i := 0) (l := .b true) rfl (lb gc.w) (hq.w.mono (by decide))) (il_cons (I_fValid (i := 1) (l := .b true) rfl (lb gc.x) (hq.x.mono (by decide))) (il_cons (I_fValid (i := 2) (l := .b true) rfl (lb gc.y) (hq.y.mono (by decide))) (il_cons (I_fValid (i := 3) (l := .b true) rfl (lb gc.z) (hq.z.mono (by decide))) (il_cons (I_fSign (i := 0) rfl (lr (n := 15) rfl) (hq.w.mono (by decide))) (il_cons (I_fInt (k := 4) rfl (by decide) (by decide)) (il_cons (I_fCmp (i := 0) (j := 4) rfl rfl (lr (n := 16) rfl) (hq.w.mono (by decide)) ((ok_int (u := 1) (by decide) (by decide)).mono (by decide))) il_nil))))))))
      (ol_cons (o_neq (n := 15) (c := 0) (t := 3) rfl (sgn_nq c0)) (ol_cons (o_eql (n := 16) (c := 0) (t := 3) rfl (ne_eql (mt (o_zero gc.w (ofInt_valid 1)).1 (fun h => hf (e1.trans h))))) (ol_nil))) (by kernel_rfl) Tryz.func41 (by kernel_rfl) ⟨(row_isL (xs := xfValidT04X q) (ks := [0, 1, 2, 3]) (vs := [q.w, q.x, q.y, q.z]) ⟨rfl, rfl, rfl, rfl, trivial⟩).2 iq, trivial⟩).mono ?_
    rintro e w' ⟨v, rfl, h1, h2⟩
    exact ⟨congrArg Ending.returned h1, h2⟩
theorem I_fValidT0 {xs : List Fq} {ys : Rho} {kq : List Nat} {q : Qq}  (aq : AtL xs kq [q.w, q.x, q.y, q.z])  (hq : q.ok 1000000) (gc : q.comp) (hf : q.first ≠ (Fq.ofInt 1)) : OkI xs ys ⟨41, [row kq], .v (.one (.b false))⟩ :=
  ⟨enters Tryz.func41 rfl rfl, fun B w vs hB h => by
    match vs, h with
    | [vq], h =>
      refine (q_fValidT0 vq q w ((row_isL aq).1 h.1) hq gc hf).mono ?_
      rintro e w' ⟨rfl, h2⟩
      exact ⟨_, rfl, rfl, h2⟩⟩
def xrValidT1X (q : Qq) : List Fq := [q.w, q.x, q.y, q.z, q.first, (Fq.ofInt 1)]
theorem q_rValidT1 (vq : Value) (q : Qq) (w : World) (iq : IsQt w vq q) (hq : q.ok 1000000) (gq : q.good) :
    Calls Tryz.prog 43 #[vq] w fun e w' => RetV w (.bool true) e w' := by
  refine (calls_runFn (ρ := frs (xrValidT1X q) ++ []) (w := w) (fuel := 300) (args := [row [0, 1, 2, 3]]) (vs := [vq]) (r := .v (.one (.b true)))
    (il_cons (I_rValid (i := 0) (l := .b true) rfl (lb gq.comp.w) (hq.w.mono (by decide))) (il_cons (I_rValid (i := 1) (l := .b true) rfl (lb gq.comp.x) (hq.x.mono (by decide))) (il_cons (I_rValid (i := 2) (l := .b true) rfl (lb gq.comp.y) (hq.y.mono (by decide))) (il_cons (I_rValid (i := 3) (l := .b true) rfl (lb gq.comp.z) (hq.z.mono (by decide))) (il_cons (I_rFirst (kq := [0, 1, 2, 3]) (q := q) (ir := 4) ⟨rfl, rfl, rfl, rfl, trivial⟩ rfl (hq.mono (by decide))) (il_cons (I_rInt (k := 5) rfl (by decide) (by decide)) (il_cons (I_rSame (i := 4) (j := 5) (l := .b true) rfl rfl (lb (Fq.same_iff.2 (good_first gq))) (hq.first.mono (by decide)).p (hq.first.mono (by decide)).q ((ok_int (u := 1) (by decide) (by decide)).mono (by decide)).p ((ok_int (u := 1) (by decide) (by decide)).mono (by decide)).q) il_nil)))))))
    ol_nil (by kernel_rfl) Tryz.func43 (by kernel_rfl) ⟨(row_isL (xs := xrValidT1X q) (ks := [0, 1, 2, 3]) (vs := [q.w, q.x, q.y, q.z]) ⟨rfl, rfl, rfl, rfl, trivial⟩).2 iq, trivial⟩).mono ?_
  rintro e w' ⟨v, rfl, h1, h2⟩
  exact ⟨congrArg Ending.returned h1, h2⟩
theorem I_rValidT1 {xs : List Fq} {ys : Rho} {kq : List Nat} {q : Qq}  (aq : AtL xs kq [q.w, q.x, q.y, q.z])  (hq : q.ok 1000000) (gq : q.good) : OkI xs ys ⟨43, [row kq], .v (.one (.b true))⟩ :=
  ⟨enters Tryz.func43 rfl rfl, fun B w vs hB h => by
    match vs, h with
    | [vq], h =>
      refine (q_rValidT1 vq q w ((row_isL aq).1 h.1) hq gq).mono ?_
      rintro e w' ⟨rfl, h2⟩
      exact ⟨_, rfl, rfl, h2⟩⟩
def xrValidT0X (q : Qq) : List Fq := [q.w, q.x, q.y, q.z, q.first, (Fq.ofInt 1)]
theorem q_rValidT0 (vq : Value) (q : Qq) (w : World) (iq : IsQt w vq q) (hq : q.ok 1000000) (gc : q.comp) (hf : q.first ≠ (Fq.ofInt 1)) :
    Calls Tryz.prog 43 #[vq] w fun e w' => RetV w (.bool false) e w' := by
  refine (calls_runFn (ρ := frs (xrValidT0X q) ++ []) (w := w) (fuel := 300) (args := [row [0, 1, 2, 3]]) (vs := [vq]) (r := .v (.one (.b false)))
    (il_cons (I_rValid (i := 0) (l := .b true) rfl (lb gc.w) (hq.w.mono (by decide))) (il_cons (I_rValid (i := 1) (l := .b true) rfl (lb gc.x) (hq.x.mono (by decide))) (il_cons (I_rValid (i := 2) (l := .b true) rfl (lb gc.y) (hq.y.mono (by decide))) (il_cons (I_rValid (i := 3) (l := .b true) rfl (lb gc.z) (hq.z.mono (by decide))) (il_cons (I_rFirst (kq := [0, 1, 2, 3]) (q := q) (ir := 4) ⟨rfl, rfl, rfl, rfl, trivial⟩ rfl (hq.mono (by decide))) (il_cons (I_rInt (k := 5) rfl (by decide) (by decide)) (il_cons (I_rSame (i := 4) (j := 5) (l := .b false) rfl rfl (lb (same_ne hf)) (hq.first.mono (by decide)).p (hq.first.mono (by decide)).q ((ok_int (u := 1) (by decide) (by decide)).mono (by decide)).p ((ok_int (u := 1) (by decide) (by decide)).mono (by decide)).q) il_nil)))))))
    ol_nil (by kernel_rfl) Tryz.func43 (by kernel_rfl) ⟨(row_isL (xs := xrValidT0X q) (ks := [0, 1, 2, 3]) (vs := [q.w, q.x, q.y, q.z]) ⟨rfl, rfl, rfl, rfl, trivial⟩).2 iq, trivial⟩).mono ?_
  rintro e w' ⟨v, rfl, h1, h2⟩
  exact ⟨congrArg Ending.returned h1, h2⟩
theorem I_rValidT0 {xs : List Fq} {ys : Rho} {kq : List Nat} {q : Qq}  (aq : AtL xs kq [q.w, q.x, q.y, q.z])  (hq : q.ok 1000000) (gc : q.comp) (hf : q.first ≠ (Fq.ofInt 1)) : OkI xs ys ⟨43, [row kq], .v (.one (.b false))⟩ :=
  ⟨enters Tryz.func43 rfl rfl, fun B w vs hB h => by
    match vs, h with
    | [vq], h =>
      refine (q_rValidT0 vq q w ((row_isL aq).1 h.1) hq gc hf).mono ?_
      rintro e w' ⟨rfl, h2⟩
      exact ⟨_, rfl, rfl, h2⟩⟩
end Go.Proofs.YthebfmlfgfmlnaaGreatDoor
