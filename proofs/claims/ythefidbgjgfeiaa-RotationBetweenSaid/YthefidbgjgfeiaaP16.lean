/- On the way, valid rotations, by the executor. What the laws of rotations are told with, by the executor. The law that rotations form a group. What an argument of type api.Nat is: a row of digits. What an argument that is an array of small numbers is. -/
import Derived.Test.YthefidbgjgfeiaaP15
import Derived.WalkKit
import Derived.ProofKit
import Derived.OpenShut
import Derived.ShutString
import Derived.ChangeOld
import Derived.Below
namespace Go.Proofs.Ythefidbgjgfeiaa
set_option linter.unusedSimpArgs false
set_option linter.unusedVariables false
set_option maxRecDepth 100000
open Go.RowKit
theorem good_of {q : Qq} (c : q.comp) (h : q.first = Fq.ofInt 1) : q.good := ⟨c, by rw [h, v_ofInt]; rfl⟩
def xfBtw1X (p : Qq) (q : Qq) (m : Fq) : List Fq := [p.w, p.x, p.y, p.z, q.w, q.x, q.y, q.z, m, p.inv.w, p.inv.x, p.inv.y, p.inv.z, (p.inv.mul q).w, (p.inv.mul q).x, (p.inv.mul q).y, (p.inv.mul q).z, (Fq.ofInt 1), (p.inv.mul q).axis.x, (p.inv.mul q).axis.y, (p.inv.mul q).axis.z, ((p.inv.mul q).axis.scale m).x, ((p.inv.mul q).axis.scale m).y, ((p.inv.mul q).axis.scale m).z, (Qq.mk (Fq.ofInt 1) ((p.inv.mul q).axis.scale m).x ((p.inv.mul q).axis.scale m).y ((p.inv.mul q).axis.scale m).z).canon.w, (Qq.mk (Fq.ofInt 1) ((p.inv.mul q).axis.scale m).x ((p.inv.mul q).axis.scale m).y ((p.inv.mul q).axis.scale m).z).canon.x, (Qq.mk (Fq.ofInt 1) ((p.inv.mul q).axis.scale m).x ((p.inv.mul q).axis.scale m).y ((p.inv.mul q).axis.scale m).z).canon.y, (Qq.mk (Fq.ofInt 1) ((p.inv.mul q).axis.scale m).x ((p.inv.mul q).axis.scale m).y ((p.inv.mul q).axis.scale m).z).canon.z, (p.mul (Qq.mk (Fq.ofInt 1) ((p.inv.mul q).axis.scale m).x ((p.inv.mul q).axis.scale m).y ((p.inv.mul q).axis.scale m).z).canon).w, (p.mul (Qq.mk (Fq.ofInt 1) ((p.inv.mul q).axis.scale m).x ((p.inv.mul q).axis.scale m).y ((p.inv.mul q).axis.scale m).z).canon).x, (p.mul (Qq.mk (Fq.ofInt 1) ((p.inv.mul q).axis.scale m).x ((p.inv.mul q).axis.scale m).y ((p.inv.mul q).axis.scale m).z).canon).y, (p.mul (Qq.mk (Fq.ofInt 1) ((p.inv.mul q).axis.scale m).x ((p.inv.mul q).axis.scale m).y ((p.inv.mul q).axis.scale m).z).canon).z]
theorem q_fBtw1 (vp vq vm : Value) (p : Qq) (q : Qq) (m : Fq) (w : World) (ip : IsQt w vp p) (iq : IsQt w vq q) (im : IsQ w vm m) (hp : p.ok 100) (hq : q.ok 100) (hm : m.ok 100) (gp : p.good) (gq : q.good) (gm : m.valid = true) (hw : (p.inv.mul q).w.p ≠ 0) :
    Calls Try.prog 31 #[vp, vq, vm] w fun e w' => RetQtE w (p.way (p.inv.mul q) m) 0 e w' := by
  refine (calls_runFn (ρ := frs (xfBtw1X p q m) ++ []) (w := w) (fuel := 300) (args := [row [0, 1, 2, 3], row [4, 5, 6, 7], fr 8]) (vs := [vp, vq, vm]) (r := .tup [row [28, 29, 30, 31], .one (.i .i64 0)])
    (il_cons (I_fInvT (kq := [0, 1, 2, 3]) (q := p) (kr := [9, 10, 11, 12]) ⟨rfl, rfl, rfl, rfl, trivial⟩ ⟨rfl, rfl, rfl, rfl, trivial⟩ (hp.mono (by decide)) gp) (il_cons (I_fMulT (kp := [9, 10, 11, 12]) (p := p.inv) (kq := [4, 5, 6, 7]) (q := q) (kr := [13, 14, 15, 16]) ⟨rfl, rfl, rfl, rfl, trivial⟩ ⟨rfl, rfl, rfl, rfl, trivial⟩ ⟨rfl, rfl, rfl, rfl, trivial⟩ ((hp.inv gp).mono (by decide)) (hq.mono (by decide)) (inv_good gp) gq) (il_cons (I_Half0 (kq := [13, 14, 15, 16]) (q := (p.inv.mul q)) ⟨rfl, rfl, rfl, rfl, trivial⟩ (((hp.inv gp).mulg hq (inv_good gp) gq).mono (by decide)) hw) (il_cons (I_fInt (k := 17) rfl (by decide) (by decide)) (il_cons (I_axis (kq := [13, 14, 15, 16]) (q := (p.inv.mul q)) (kr := [18, 19, 20]) ⟨rfl, rfl, rfl, rfl, trivial⟩ ⟨rfl, rfl, rfl, trivial⟩ (((hp.inv gp).mulg hq (inv_good gp) gq).mono (by decide))) (il_cons (I_vScale (ka := [18, 19, 20]) (a := (p.inv.mul q).axis) (ik := 8) (kr := [21, 22, 23]) ⟨rfl, rfl, rfl, trivial⟩ rfl ⟨rfl, rfl, rfl, trivial⟩ (((hp.inv gp).mulg hq (inv_good gp) gq).axis.mono (by decide)) (hm.mono (by decide))) (il_cons (I_fCanon (iu := 17) (kc := [21, 22, 23]) (c := ((p.inv.mul q).axis.scale m)) (kr := [24, 25, 26, 27]) rfl ⟨rfl, rfl, rfl, trivial⟩ ⟨rfl, rfl, rfl, rfl, trivial⟩ ((ok_int (u := 1) (by decide) (by decide)).mono (by decide)) ((((hp.inv gp).mulg hq (inv_good gp) gq).axis.scale hm).mono (by decide)) part_ne) (il_cons (I_fMulT (kp := [0, 1, 2, 3]) (p := p) (kq := [24, 25, 26, 27]) (q := (Qq.mk (Fq.ofInt 1) ((p.inv.mul q).axis.scale m).x ((p.inv.mul q).axis.scale m).y ((p.inv.mul q).axis.scale m).z).canon) (kr := [28, 29, 30, 31]) ⟨rfl, rfl, rfl, rfl, trivial⟩ ⟨rfl, rfl, rfl, rfl, trivial⟩ ⟨rfl, rfl, rfl, rfl, trivial⟩ (hp.mono (by decide)) ((canonC_ok (ok_int (u := 1) (by decide) (by decide)) (((hp.inv gp).mulg hq (inv_good gp) gq).axis.scale hm) part_ne).mono (by decide)) gp (canon_good (part_comp (mul_good (inv_good gp) gq).comp gm) part_ne)) il_nil))))))))
    ol_nil (by kernel_rfl) Try.func31 (by kernel_rfl) ⟨(row_isL (xs := xfBtw1X p q m) (ks := [0, 1, 2, 3]) (vs := [p.w, p.x, p.y, p.z]) ⟨rfl, rfl, rfl, rfl, trivial⟩).2 ip, ⟨(row_isL (xs := xfBtw1X p q m) (ks := [4, 5, 6, 7]) (vs := [q.w, q.x, q.y, q.z]) ⟨rfl, rfl, rfl, rfl, trivial⟩).2 iq, ⟨(fr_isQ (xs := xfBtw1X p q m) (k := 8) rfl).2 im, trivial⟩⟩⟩).mono ?_
  rintro e w' ⟨v, rfl, ⟨vs, rfl, h1⟩, h2⟩
  match vs, h1 with
  | [r, c], h1 =>
    obtain ⟨⟨cs, rfl, k1⟩, k2, _⟩ := h1
    have k2 : c = _ := k2
    subst k2
    exact ⟨_, rfl, (row_isL (xs := xfBtw1X p q m) (ks := [28, 29, 30, 31]) (vs := [(p.mul (Qq.mk (Fq.ofInt 1) ((p.inv.mul q).axis.scale m).x ((p.inv.mul q).axis.scale m).y ((p.inv.mul q).axis.scale m).z).canon).w, (p.mul (Qq.mk (Fq.ofInt 1) ((p.inv.mul q).axis.scale m).x ((p.inv.mul q).axis.scale m).y ((p.inv.mul q).axis.scale m).z).canon).x, (p.mul (Qq.mk (Fq.ofInt 1) ((p.inv.mul q).axis.scale m).x ((p.inv.mul q).axis.scale m).y ((p.inv.mul q).axis.scale m).z).canon).y, (p.mul (Qq.mk (Fq.ofInt 1) ((p.inv.mul q).axis.scale m).x ((p.inv.mul q).axis.scale m).y ((p.inv.mul q).axis.scale m).z).canon).z]) ⟨rfl, rfl, rfl, rfl, trivial⟩).1 ⟨_, rfl, k1⟩, h2⟩
theorem I_fBtw1 {xs : List Fq} {ys : Rho} {kp : List Nat} {kq : List Nat} {im : Nat} {p : Qq} {q : Qq} {m : Fq} {kr : List Nat} (ap : AtL xs kp [p.w, p.x, p.y, p.z]) (aq : AtL xs kq [q.w, q.x, q.y, q.z]) (am : xs[im]? = some m) (ar : AtL xs kr [(p.way (p.inv.mul q) m).w, (p.way (p.inv.mul q) m).x, (p.way (p.inv.mul q) m).y, (p.way (p.inv.mul q) m).z]) (hp : p.ok 100) (hq : q.ok 100) (hm : m.ok 100) (gp : p.good) (gq : q.good) (gm : m.valid = true) (hw : (p.inv.mul q).w.p ≠ 0) : OkI xs ys ⟨31, [row kp, row kq, fr im], .tup [row kr, .one (.i .i64 0)]⟩ :=
  ⟨enters Try.func31 rfl rfl, fun B w vs h => by
    match vs, h with
    | [vp, vq, vm], h =>
      refine (q_fBtw1 vp vq vm p q m w ((row_isL ap).1 h.1) ((row_isL aq).1 h.2.1) ((fr_isQ am).1 h.2.2.1) hp hq hm gp gq gm hw).mono ?_
      rintro e w' ⟨v, rfl, h1, h2⟩
      exact ⟨_, rfl, ⟨[v, .int .i64 0], rfl, (row_isL ar).2 h1, rfl, trivial⟩, h2⟩⟩
def xfBtw2X (p : Qq) (q : Qq) (m : Fq) : List Fq := [p.w, p.x, p.y, p.z, q.w, q.x, q.y, q.z, m, p.inv.w, p.inv.x, p.inv.y, p.inv.z, (p.inv.mul q).w, (p.inv.mul q).x, (p.inv.mul q).y, (p.inv.mul q).z, Qq.id.w, Qq.id.x, Qq.id.y, Qq.id.z, (p.mul Qq.id).w, (p.mul Qq.id).x, (p.mul Qq.id).y, (p.mul Qq.id).z]
theorem q_fBtw2 (vp vq vm : Value) (p : Qq) (q : Qq) (m : Fq) (w : World) (ip : IsQt w vp p) (iq : IsQt w vq q) (im : IsQ w vm m) (hp : p.ok 100) (hq : q.ok 100) (hm : m.ok 100) (gp : p.good) (gq : q.good) (gm : m.valid = true) (hw : (p.inv.mul q).w.p = 0) (h0 : m.p = 0) :
    Calls Try.prog 31 #[vp, vq, vm] w fun e w' => RetQtE w p 0 e w' := by
  rw [show RetQtE w p 0 = RetQtE w (p.mul Qq.id) 0 by rw [g_one gp]]
  refine (calls_runFn (ρ := frs (xfBtw2X p q m) ++ []) (w := w) (fuel := 300) (args := [row [0, 1, 2, 3], row [4, 5, 6, 7], fr 8]) (vs := [vp, vq, vm]) (r := .tup [row [21, 22, 23, 24], .one (.i .i64 0)])
    (il_cons (I_fInvT (kq := [0, 1, 2, 3]) (q := p) (kr := [9, 10, 11, 12]) ⟨rfl, rfl, rfl, rfl, trivial⟩ ⟨rfl, rfl, rfl, rfl, trivial⟩ (hp.mono (by decide)) gp) (il_cons (I_fMulT (kp := [9, 10, 11, 12]) (p := p.inv) (kq := [4, 5, 6, 7]) (q := q) (kr := [13, 14, 15, 16]) ⟨rfl, rfl, rfl, rfl, trivial⟩ ⟨rfl, rfl, rfl, rfl, trivial⟩ ⟨rfl, rfl, rfl, rfl, trivial⟩ ((hp.inv gp).mono (by decide)) (hq.mono (by decide)) (inv_good gp) gq) (il_cons (I_Half1 (kq := [13, 14, 15, 16]) (q := (p.inv.mul q)) ⟨rfl, rfl, rfl, rfl, trivial⟩ (((hp.inv gp).mulg hq (inv_good gp) gq).mono (by decide)) hw) (il_cons (I_fSign (i := 8) rfl (li (sgn0 h0)) (hm.mono (by decide))) (il_cons (I_fId (kr := [17, 18, 19, 20]) ⟨rfl, rfl, rfl, rfl, trivial⟩) (il_cons (I_fMulT (kp := [0, 1, 2, 3]) (p := p) (kq := [17, 18, 19, 20]) (q := Qq.id) (kr := [21, 22, 23, 24]) ⟨rfl, rfl, rfl, rfl, trivial⟩ ⟨rfl, rfl, rfl, rfl, trivial⟩ ⟨rfl, rfl, rfl, rfl, trivial⟩ (hp.mono (by decide)) (ok_id.mono (by decide)) gp id_good) il_nil))))))
    ol_nil (by kernel_rfl) Try.func31 (by kernel_rfl) ⟨(row_isL (xs := xfBtw2X p q m) (ks := [0, 1, 2, 3]) (vs := [p.w, p.x, p.y, p.z]) ⟨rfl, rfl, rfl, rfl, trivial⟩).2 ip, ⟨(row_isL (xs := xfBtw2X p q m) (ks := [4, 5, 6, 7]) (vs := [q.w, q.x, q.y, q.z]) ⟨rfl, rfl, rfl, rfl, trivial⟩).2 iq, ⟨(fr_isQ (xs := xfBtw2X p q m) (k := 8) rfl).2 im, trivial⟩⟩⟩).mono ?_
  rintro e w' ⟨v, rfl, ⟨vs, rfl, h1⟩, h2⟩
  match vs, h1 with
  | [r, c], h1 =>
    obtain ⟨⟨cs, rfl, k1⟩, k2, _⟩ := h1
    have k2 : c = _ := k2
    subst k2
    exact ⟨_, rfl, (row_isL (xs := xfBtw2X p q m) (ks := [21, 22, 23, 24]) (vs := [(p.mul Qq.id).w, (p.mul Qq.id).x, (p.mul Qq.id).y, (p.mul Qq.id).z]) ⟨rfl, rfl, rfl, rfl, trivial⟩).1 ⟨_, rfl, k1⟩, h2⟩
theorem I_fBtw2 {xs : List Fq} {ys : Rho} {kp : List Nat} {kq : List Nat} {im : Nat} {p : Qq} {q : Qq} {m : Fq} {kr : List Nat} (ap : AtL xs kp [p.w, p.x, p.y, p.z]) (aq : AtL xs kq [q.w, q.x, q.y, q.z]) (am : xs[im]? = some m) (ar : AtL xs kr [p.w, p.x, p.y, p.z]) (hp : p.ok 100) (hq : q.ok 100) (hm : m.ok 100) (gp : p.good) (gq : q.good) (gm : m.valid = true) (hw : (p.inv.mul q).w.p = 0) (h0 : m.p = 0) : OkI xs ys ⟨31, [row kp, row kq, fr im], .tup [row kr, .one (.i .i64 0)]⟩ :=
  ⟨enters Try.func31 rfl rfl, fun B w vs h => by
    match vs, h with
    | [vp, vq, vm], h =>
      refine (q_fBtw2 vp vq vm p q m w ((row_isL ap).1 h.1) ((row_isL aq).1 h.2.1) ((fr_isQ am).1 h.2.2.1) hp hq hm gp gq gm hw h0).mono ?_
      rintro e w' ⟨v, rfl, h1, h2⟩
      exact ⟨_, rfl, ⟨[v, .int .i64 0], rfl, (row_isL ar).2 h1, rfl, trivial⟩, h2⟩⟩
def xfBtw3X (p : Qq) (q : Qq) (m : Fq) : List Fq := [p.w, p.x, p.y, p.z, q.w, q.x, q.y, q.z, m, p.inv.w, p.inv.x, p.inv.y, p.inv.z, (p.inv.mul q).w, (p.inv.mul q).x, (p.inv.mul q).y, (p.inv.mul q).z, (Fq.ofInt 1), Qq.id.w, Qq.id.x, Qq.id.y, Qq.id.z, (q.mul Qq.id).w, (q.mul Qq.id).x, (q.mul Qq.id).y, (q.mul Qq.id).z]
theorem q_fBtw3 (vp vq vm : Value) (p : Qq) (q : Qq) (m : Fq) (w : World) (ip : IsQt w vp p) (iq : IsQt w vq q) (im : IsQ w vm m) (hp : p.ok 100) (hq : q.ok 100) (hm : m.ok 100) (gp : p.good) (gq : q.good) (gm : m.valid = true) (hw : (p.inv.mul q).w.p = 0) (h0 : m.p ≠ 0) (h1 : m = (Fq.ofInt 1)) :
    Calls Try.prog 31 #[vp, vq, vm] w fun e w' => RetQtE w q 0 e w' := by
  rw [show RetQtE w q 0 = RetQtE w (q.mul Qq.id) 0 by rw [g_one gq]]
  refine (calls_runFn (ρ := frs (xfBtw3X p q m) ++ [.val (.int .i64 m.sgn)]) (w := w) (fuel := 300) (args := [row [0, 1, 2, 3], row [4, 5, 6, 7], fr 8]) (vs := [vp, vq, vm]) (r := .tup [row [22, 23, 24, 25], .one (.i .i64 0)])
    (il_cons (I_fInvT (kq := [0, 1, 2, 3]) (q := p) (kr := [9, 10, 11, 12]) ⟨rfl, rfl, rfl, rfl, trivial⟩ ⟨rfl, rfl, rfl, rfl, trivial⟩ (hp.mono (by decide)) gp) (il_cons (I_fMulT (kp := [9, 10, 11, 12]) (p := p.inv) (kq := [4, 5, 6, 7]) (q := q) (kr := [13, 14, 15, 16]) ⟨rfl, rfl, rfl, rfl, trivial⟩ ⟨rfl, rfl, rfl, rfl, trivial⟩ ⟨rfl, rfl, rfl, rfl, trivial⟩ ((hp.inv gp).mono (by decide)) (hq.mono (by decide)) (inv_good gp) gq) (il_cons (I_Half1 (kq := [13, 14, 15, 16]) (q := (p.inv.mul q)) ⟨rfl, rfl, rfl, rfl, trivial⟩ (((hp.inv gp).mulg hq (inv_good gp) gq).mono (by decide)) hw) (il_cons (I_fSign (i := 8) rfl (lr (n := 78) rfl) (hm.mono (by decide))) (il_cons (I_fInt (k := 17) rfl (by decide) (by decide)) (il_cons (I_fCmp (i := 8) (j := 17) rfl rfl (li ((o_zero gm (ofInt_valid 1)).2 h1)) (hm.mono (by decide)) ((ok_int (u := 1) (by decide) (by decide)).mono (by decide))) (il_cons (I_fId (kr := [18, 19, 20, 21]) ⟨rfl, rfl, rfl, rfl, trivial⟩) (il_cons (I_fMulT (kp := [4, 5, 6, 7]) (p := q) (kq := [18, 19, 20, 21]) (q := Qq.id) (kr := [22, 23, 24, 25]) ⟨rfl, rfl, rfl, rfl, trivial⟩ ⟨rfl, rfl, rfl, rfl, trivial⟩ ⟨rfl, rfl, rfl, rfl, trivial⟩ (hq.mono (by decide)) (ok_id.mono (by decide)) gq id_good) il_nil))))))))
    (ol_cons (o_eql (n := 78) (c := 0) (t := 3) rfl (sgn_eq h0)) (ol_nil)) (by kernel_rfl) Try.func31 (by kernel_rfl) ⟨(row_isL (xs := xfBtw3X p q m) (ks := [0, 1, 2, 3]) (vs := [p.w, p.x, p.y, p.z]) ⟨rfl, rfl, rfl, rfl, trivial⟩).2 ip, ⟨(row_isL (xs := xfBtw3X p q m) (ks := [4, 5, 6, 7]) (vs := [q.w, q.x, q.y, q.z]) ⟨rfl, rfl, rfl, rfl, trivial⟩).2 iq, ⟨(fr_isQ (xs := xfBtw3X p q m) (k := 8) rfl).2 im, trivial⟩⟩⟩).mono ?_
  rintro e w' ⟨v, rfl, ⟨vs, rfl, h1⟩, h2⟩
  match vs, h1 with
  | [r, c], h1 =>
    obtain ⟨⟨cs, rfl, k1⟩, k2, _⟩ := h1
    have k2 : c = _ := k2
    subst k2
    exact ⟨_, rfl, (row_isL (xs := xfBtw3X p q m) (ks := [22, 23, 24, 25]) (vs := [(q.mul Qq.id).w, (q.mul Qq.id).x, (q.mul Qq.id).y, (q.mul Qq.id).z]) ⟨rfl, rfl, rfl, rfl, trivial⟩).1 ⟨_, rfl, k1⟩, h2⟩
theorem I_fBtw3 {xs : List Fq} {ys : Rho} {kp : List Nat} {kq : List Nat} {im : Nat} {p : Qq} {q : Qq} {m : Fq} {kr : List Nat} (ap : AtL xs kp [p.w, p.x, p.y, p.z]) (aq : AtL xs kq [q.w, q.x, q.y, q.z]) (am : xs[im]? = some m) (ar : AtL xs kr [q.w, q.x, q.y, q.z]) (hp : p.ok 100) (hq : q.ok 100) (hm : m.ok 100) (gp : p.good) (gq : q.good) (gm : m.valid = true) (hw : (p.inv.mul q).w.p = 0) (h0 : m.p ≠ 0) (h1 : m = (Fq.ofInt 1)) : OkI xs ys ⟨31, [row kp, row kq, fr im], .tup [row kr, .one (.i .i64 0)]⟩ :=
  ⟨enters Try.func31 rfl rfl, fun B w vs h => by
    match vs, h with
    | [vp, vq, vm], h =>
      refine (q_fBtw3 vp vq vm p q m w ((row_isL ap).1 h.1) ((row_isL aq).1 h.2.1) ((fr_isQ am).1 h.2.2.1) hp hq hm gp gq gm hw h0 h1).mono ?_
      rintro e w' ⟨v, rfl, h1, h2⟩
      exact ⟨_, rfl, ⟨[v, .int .i64 0], rfl, (row_isL ar).2 h1, rfl, trivial⟩, h2⟩⟩
def xfBtw4X (p : Qq) (q : Qq) (m : Fq) : List Fq := [p.w, p.x, p.y, p.z, q.w, q.x, q.y, q.z, m, p.inv.w, p.inv.x, p.inv.y, p.inv.z, (p.inv.mul q).w, (p.inv.mul q).x, (p.inv.mul q).y, (p.inv.mul q).z, (Fq.ofInt 1)]
theorem q_fBtw4 (vp vq vm : Value) (p : Qq) (q : Qq) (m : Fq) (w : World) (ip : IsQt w vp p) (iq : IsQt w vq q) (im : IsQ w vm m) (hp : p.ok 100) (hq : q.ok 100) (hm : m.ok 100) (gp : p.good) (gq : q.good) (gm : m.valid = true) (hw : (p.inv.mul q).w.p = 0) (h0 : m.p ≠ 0) (h1 : m ≠ (Fq.ofInt 1)) :
    Calls Try.prog 31 #[vp, vq, vm] w fun e w' => RetQtE w Qq.zero 4 e w' := by
  refine (calls_runFn (ρ := frs (xfBtw4X p q m) ++ [.val (.int .i64 m.sgn), .val (.int .i64 (m.cmp (Fq.ofInt 1)))]) (w := w) (fuel := 300) (args := [row [0, 1, 2, 3], row [4, 5, 6, 7], fr 8]) (vs := [vp, vq, vm]) (r := .tup [.agg [.b false, .sl0, .sl0, .b false, .sl0, .sl0, .b false, .sl0, .sl0, .b false, .sl0, .sl0], .one (.i .i64 4)])
    (il_cons (I_fInvT (kq := [0, 1, 2, 3]) (q := p) (kr := [9, 10, 11, 12]) ⟨rfl, rfl, rfl, rfl, trivial⟩ ⟨rfl, rfl, rfl, rfl, trivial⟩ (hp.mono (by decide)) gp) (il_cons (I_fMulT (kp := [9, 10, 11, 12]) (p := p.inv) (kq := [4, 5, 6, 7]) (q := q) (kr := [13, 14, 15, 16]) ⟨rfl, rfl, rfl, rfl, trivial⟩ ⟨rfl, rfl, rfl, rfl, trivial⟩ ⟨rfl, rfl, rfl, rfl, trivial⟩ ((hp.inv gp).mono (by decide)) (hq.mono (by decide)) (inv_good gp) gq) (il_cons (I_Half1 (kq := [13, 14, 15, 16]) (q := (p.inv.mul q)) ⟨rfl, rfl, rfl, rfl, trivial⟩ (((hp.inv gp).mulg hq (inv_good gp) gq).mono (by decide)) hw) (il_cons (I_fSign (i := 8) rfl (lr (n := 54) rfl) (hm.mono (by decide))) (il_cons (I_fInt (k := 17) rfl (by decide) (by decide)) (il_cons (I_fCmp (i := 8) (j := 17) rfl rfl (lr (n := 55) rfl) (hm.mono (by decide)) ((ok_int (u := 1) (by decide) (by decide)).mono (by decide))) il_nil))))))
    (ol_cons (o_eql (n := 54) (c := 0) (t := 3) rfl (sgn_eq h0)) (ol_cons (o_eql (n := 55) (c := 0) (t := 3) rfl (ne_eql (mt (o_zero gm (ofInt_valid 1)).1 h1))) (ol_nil))) (by kernel_rfl) Try.func31 (by kernel_rfl) ⟨(row_isL (xs := xfBtw4X p q m) (ks := [0, 1, 2, 3]) (vs := [p.w, p.x, p.y, p.z]) ⟨rfl, rfl, rfl, rfl, trivial⟩).2 ip, ⟨(row_isL (xs := xfBtw4X p q m) (ks := [4, 5, 6, 7]) (vs := [q.w, q.x, q.y, q.z]) ⟨rfl, rfl, rfl, rfl, trivial⟩).2 iq, ⟨(fr_isQ (xs := xfBtw4X p q m) (k := 8) rfl).2 im, trivial⟩⟩⟩).mono ?_
  rintro e w' ⟨v, rfl, ⟨vs, rfl, h1⟩, h2⟩
  match vs, h1 with
  | [r, c], h1 =>
    obtain ⟨⟨cs, rfl, k1⟩, k2, _⟩ := h1
    have k2 : c = _ := k2
    subst k2
    exact ⟨_, rfl, ⟨_, rfl, zero_row (n := 4) k1⟩, h2⟩
theorem I_fBtw4 {xs : List Fq} {ys : Rho} {kp : List Nat} {kq : List Nat} {im : Nat} {p : Qq} {q : Qq} {m : Fq} {kr : List Nat} (ap : AtL xs kp [p.w, p.x, p.y, p.z]) (aq : AtL xs kq [q.w, q.x, q.y, q.z]) (am : xs[im]? = some m) (ar : AtL xs kr [Qq.zero.w, Qq.zero.x, Qq.zero.y, Qq.zero.z]) (hp : p.ok 100) (hq : q.ok 100) (hm : m.ok 100) (gp : p.good) (gq : q.good) (gm : m.valid = true) (hw : (p.inv.mul q).w.p = 0) (h0 : m.p ≠ 0) (h1 : m ≠ (Fq.ofInt 1)) : OkI xs ys ⟨31, [row kp, row kq, fr im], .tup [row kr, .one (.i .i64 4)]⟩ :=
  ⟨enters Try.func31 rfl rfl, fun B w vs h => by
    match vs, h with
    | [vp, vq, vm], h =>
      refine (q_fBtw4 vp vq vm p q m w ((row_isL ap).1 h.1) ((row_isL aq).1 h.2.1) ((fr_isQ am).1 h.2.2.1) hp hq hm gp gq gm hw h0 h1).mono ?_
      rintro e w' ⟨v, rfl, h1, h2⟩
      exact ⟨_, rfl, ⟨[v, .int .i64 4], rfl, (row_isL ar).2 h1, rfl, trivial⟩, h2⟩⟩
def xrBtw1X (p : Qq) (q : Qq) (m : Fq) : List Fq := [p.w, p.x, p.y, p.z, q.w, q.x, q.y, q.z, m, p.inv.w, p.inv.x, p.inv.y, p.inv.z, (p.inv.mul q).w, (p.inv.mul q).x, (p.inv.mul q).y, (p.inv.mul q).z, (Fq.ofInt 1), (p.inv.mul q).axis.x, (p.inv.mul q).axis.y, (p.inv.mul q).axis.z, ((p.inv.mul q).axis.scale m).x, ((p.inv.mul q).axis.scale m).y, ((p.inv.mul q).axis.scale m).z, (Qq.mk (Fq.ofInt 1) ((p.inv.mul q).axis.scale m).x ((p.inv.mul q).axis.scale m).y ((p.inv.mul q).axis.scale m).z).canon.w, (Qq.mk (Fq.ofInt 1) ((p.inv.mul q).axis.scale m).x ((p.inv.mul q).axis.scale m).y ((p.inv.mul q).axis.scale m).z).canon.x, (Qq.mk (Fq.ofInt 1) ((p.inv.mul q).axis.scale m).x ((p.inv.mul q).axis.scale m).y ((p.inv.mul q).axis.scale m).z).canon.y, (Qq.mk (Fq.ofInt 1) ((p.inv.mul q).axis.scale m).x ((p.inv.mul q).axis.scale m).y ((p.inv.mul q).axis.scale m).z).canon.z, (p.mul (Qq.mk (Fq.ofInt 1) ((p.inv.mul q).axis.scale m).x ((p.inv.mul q).axis.scale m).y ((p.inv.mul q).axis.scale m).z).canon).w, (p.mul (Qq.mk (Fq.ofInt 1) ((p.inv.mul q).axis.scale m).x ((p.inv.mul q).axis.scale m).y ((p.inv.mul q).axis.scale m).z).canon).x, (p.mul (Qq.mk (Fq.ofInt 1) ((p.inv.mul q).axis.scale m).x ((p.inv.mul q).axis.scale m).y ((p.inv.mul q).axis.scale m).z).canon).y, (p.mul (Qq.mk (Fq.ofInt 1) ((p.inv.mul q).axis.scale m).x ((p.inv.mul q).axis.scale m).y ((p.inv.mul q).axis.scale m).z).canon).z]
theorem q_rBtw1 (vp vq vm : Value) (p : Qq) (q : Qq) (m : Fq) (w : World) (ip : IsQt w vp p) (iq : IsQt w vq q) (im : IsQ w vm m) (hp : p.ok 100) (hq : q.ok 100) (hm : m.ok 100) (gp : p.good) (gq : q.good) (gm : m.valid = true) (hw : (p.inv.mul q).w.p ≠ 0) :
    Calls Try.prog 32 #[vp, vq, vm] w fun e w' => RetQtE w (p.way (p.inv.mul q) m) 0 e w' := by
  refine (calls_runFn (ρ := frs (xrBtw1X p q m) ++ []) (w := w) (fuel := 300) (args := [row [0, 1, 2, 3], row [4, 5, 6, 7], fr 8]) (vs := [vp, vq, vm]) (r := .tup [row [28, 29, 30, 31], .one (.i .i64 0)])
    (il_cons (I_rInvT (kq := [0, 1, 2, 3]) (q := p) (kr := [9, 10, 11, 12]) ⟨rfl, rfl, rfl, rfl, trivial⟩ ⟨rfl, rfl, rfl, rfl, trivial⟩ (hp.mono (by decide)) gp) (il_cons (I_rMulT (kp := [9, 10, 11, 12]) (p := p.inv) (kq := [4, 5, 6, 7]) (q := q) (kr := [13, 14, 15, 16]) ⟨rfl, rfl, rfl, rfl, trivial⟩ ⟨rfl, rfl, rfl, rfl, trivial⟩ ⟨rfl, rfl, rfl, rfl, trivial⟩ ((hp.inv gp).mono (by decide)) (hq.mono (by decide)) (inv_good gp) gq) (il_cons (I_rHalf0 (kq := [13, 14, 15, 16]) (q := (p.inv.mul q)) ⟨rfl, rfl, rfl, rfl, trivial⟩ (((hp.inv gp).mulg hq (inv_good gp) gq).mono (by decide)) hw) (il_cons (I_rInt (k := 17) rfl (by decide) (by decide)) (il_cons (I_part (kq := [13, 14, 15, 16]) (q := (p.inv.mul q)) (kr := [18, 19, 20]) ⟨rfl, rfl, rfl, rfl, trivial⟩ ⟨rfl, rfl, rfl, trivial⟩ (((hp.inv gp).mulg hq (inv_good gp) gq).mono (by decide))) (il_cons (I_rScale (ka := [18, 19, 20]) (a := (p.inv.mul q).axis) (ik := 8) (kr := [21, 22, 23]) ⟨rfl, rfl, rfl, trivial⟩ rfl ⟨rfl, rfl, rfl, trivial⟩ (((hp.inv gp).mulg hq (inv_good gp) gq).axis.mono (by decide)) (hm.mono (by decide))) (il_cons (I_rCanon (iu := 17) (kc := [21, 22, 23]) (c := ((p.inv.mul q).axis.scale m)) (kr := [24, 25, 26, 27]) rfl ⟨rfl, rfl, rfl, trivial⟩ ⟨rfl, rfl, rfl, rfl, trivial⟩ ((ok_int (u := 1) (by decide) (by decide)).mono (by decide)) ((((hp.inv gp).mulg hq (inv_good gp) gq).axis.scale hm).mono (by decide)) part_ne) (il_cons (I_rMulT (kp := [0, 1, 2, 3]) (p := p) (kq := [24, 25, 26, 27]) (q := (Qq.mk (Fq.ofInt 1) ((p.inv.mul q).axis.scale m).x ((p.inv.mul q).axis.scale m).y ((p.inv.mul q).axis.scale m).z).canon) (kr := [28, 29, 30, 31]) ⟨rfl, rfl, rfl, rfl, trivial⟩ ⟨rfl, rfl, rfl, rfl, trivial⟩ ⟨rfl, rfl, rfl, rfl, trivial⟩ (hp.mono (by decide)) ((canonC_ok (ok_int (u := 1) (by decide) (by decide)) (((hp.inv gp).mulg hq (inv_good gp) gq).axis.scale hm) part_ne).mono (by decide)) gp (canon_good (part_comp (mul_good (inv_good gp) gq).comp gm) part_ne)) il_nil))))))))
    ol_nil (by kernel_rfl) Try.func32 (by kernel_rfl) ⟨(row_isL (xs := xrBtw1X p q m) (ks := [0, 1, 2, 3]) (vs := [p.w, p.x, p.y, p.z]) ⟨rfl, rfl, rfl, rfl, trivial⟩).2 ip, ⟨(row_isL (xs := xrBtw1X p q m) (ks := [4, 5, 6, 7]) (vs := [q.w, q.x, q.y, q.z]) ⟨rfl, rfl, rfl, rfl, trivial⟩).2 iq, ⟨(fr_isQ (xs := xrBtw1X p q m) (k := 8) rfl).2 im, trivial⟩⟩⟩).mono ?_
  rintro e w' ⟨v, rfl, ⟨vs, rfl, h1⟩, h2⟩
  match vs, h1 with
  | [r, c], h1 =>
    obtain ⟨⟨cs, rfl, k1⟩, k2, _⟩ := h1
    have k2 : c = _ := k2
    subst k2
    exact ⟨_, rfl, (row_isL (xs := xrBtw1X p q m) (ks := [28, 29, 30, 31]) (vs := [(p.mul (Qq.mk (Fq.ofInt 1) ((p.inv.mul q).axis.scale m).x ((p.inv.mul q).axis.scale m).y ((p.inv.mul q).axis.scale m).z).canon).w, (p.mul (Qq.mk (Fq.ofInt 1) ((p.inv.mul q).axis.scale m).x ((p.inv.mul q).axis.scale m).y ((p.inv.mul q).axis.scale m).z).canon).x, (p.mul (Qq.mk (Fq.ofInt 1) ((p.inv.mul q).axis.scale m).x ((p.inv.mul q).axis.scale m).y ((p.inv.mul q).axis.scale m).z).canon).y, (p.mul (Qq.mk (Fq.ofInt 1) ((p.inv.mul q).axis.scale m).x ((p.inv.mul q).axis.scale m).y ((p.inv.mul q).axis.scale m).z).canon).z]) ⟨rfl, rfl, rfl, rfl, trivial⟩).1 ⟨_, rfl, k1⟩, h2⟩
theorem I_rBtw1 {xs : List Fq} {ys : Rho} {kp : List Nat} {kq : List Nat} {im : Nat} {p : Qq} {q : Qq} {m : Fq} {kr : List Nat} (ap : AtL xs kp [p.w, p.x, p.y, p.z]) (aq : AtL xs kq [q.w, q.x, q.y, q.z]) (am : xs[im]? = some m) (ar : AtL xs kr [(p.way (p.inv.mul q) m).w, (p.way (p.inv.mul q) m).x, (p.way (p.inv.mul q) m).y, (p.way (p.inv.mul q) m).z]) (hp : p.ok 100) (hq : q.ok 100) (hm : m.ok 100) (gp : p.good) (gq : q.good) (gm : m.valid = true) (hw : (p.inv.mul q).w.p ≠ 0) : OkI xs ys ⟨32, [row kp, row kq, fr im], .tup [row kr, .one (.i .i64 0)]⟩ :=
  ⟨enters Try.func32 rfl rfl, fun B w vs h => by
    match vs, h with
    | [vp, vq, vm], h =>
      refine (q_rBtw1 vp vq vm p q m w ((row_isL ap).1 h.1) ((row_isL aq).1 h.2.1) ((fr_isQ am).1 h.2.2.1) hp hq hm gp gq gm hw).mono ?_
      rintro e w' ⟨v, rfl, h1, h2⟩
      exact ⟨_, rfl, ⟨[v, .int .i64 0], rfl, (row_isL ar).2 h1, rfl, trivial⟩, h2⟩⟩
def xrBtw2X (p : Qq) (q : Qq) (m : Fq) : List Fq := [p.w, p.x, p.y, p.z, q.w, q.x, q.y, q.z, m, p.inv.w, p.inv.x, p.inv.y, p.inv.z, (p.inv.mul q).w, (p.inv.mul q).x, (p.inv.mul q).y, (p.inv.mul q).z]
theorem q_rBtw2 (vp vq vm : Value) (p : Qq) (q : Qq) (m : Fq) (w : World) (ip : IsQt w vp p) (iq : IsQt w vq q) (im : IsQ w vm m) (hp : p.ok 100) (hq : q.ok 100) (hm : m.ok 100) (gp : p.good) (gq : q.good) (gm : m.valid = true) (hw : (p.inv.mul q).w.p = 0) (h0 : m.p = 0) :
    Calls Try.prog 32 #[vp, vq, vm] w fun e w' => RetQtE w p 0 e w' := by
  refine (calls_runFn (ρ := frs (xrBtw2X p q m) ++ []) (w := w) (fuel := 300) (args := [row [0, 1, 2, 3], row [4, 5, 6, 7], fr 8]) (vs := [vp, vq, vm]) (r := .tup [row [0, 1, 2, 3], .one (.i .i64 0)])
    (il_cons (I_rInvT (kq := [0, 1, 2, 3]) (q := p) (kr := [9, 10, 11, 12]) ⟨rfl, rfl, rfl, rfl, trivial⟩ ⟨rfl, rfl, rfl, rfl, trivial⟩ (hp.mono (by decide)) gp) (il_cons (I_rMulT (kp := [9, 10, 11, 12]) (p := p.inv) (kq := [4, 5, 6, 7]) (q := q) (kr := [13, 14, 15, 16]) ⟨rfl, rfl, rfl, rfl, trivial⟩ ⟨rfl, rfl, rfl, rfl, trivial⟩ ⟨rfl, rfl, rfl, rfl, trivial⟩ ((hp.inv gp).mono (by decide)) (hq.mono (by decide)) (inv_good gp) gq) (il_cons (I_rHalf1 (kq := [13, 14, 15, 16]) (q := (p.inv.mul q)) ⟨rfl, rfl, rfl, rfl, trivial⟩ (((hp.inv gp).mulg hq (inv_good gp) gq).mono (by decide)) hw) (il_cons (I_rSign (i := 8) rfl (li (sgn0 h0)) (hm.mono (by decide))) il_nil))))
    ol_nil (by kernel_rfl) Try.func32 (by kernel_rfl) ⟨(row_isL (xs := xrBtw2X p q m) (ks := [0, 1, 2, 3]) (vs := [p.w, p.x, p.y, p.z]) ⟨rfl, rfl, rfl, rfl, trivial⟩).2 ip, ⟨(row_isL (xs := xrBtw2X p q m) (ks := [4, 5, 6, 7]) (vs := [q.w, q.x, q.y, q.z]) ⟨rfl, rfl, rfl, rfl, trivial⟩).2 iq, ⟨(fr_isQ (xs := xrBtw2X p q m) (k := 8) rfl).2 im, trivial⟩⟩⟩).mono ?_
  rintro e w' ⟨v, rfl, ⟨vs, rfl, h1⟩, h2⟩
  match vs, h1 with
  | [r, c], h1 =>
    obtain ⟨⟨cs, rfl, k1⟩, k2, _⟩ := h1
    have k2 : c = _ := k2
    subst k2
    exact ⟨_, rfl, (row_isL (xs := xrBtw2X p q m) (ks := [0, 1, 2, 3]) (vs := [p.w, p.x, p.y, p.z]) ⟨rfl, rfl, rfl, rfl, trivial⟩).1 ⟨_, rfl, k1⟩, h2⟩
theorem I_rBtw2 {xs : List Fq} {ys : Rho} {kp : List Nat} {kq : List Nat} {im : Nat} {p : Qq} {q : Qq} {m : Fq} {kr : List Nat} (ap : AtL xs kp [p.w, p.x, p.y, p.z]) (aq : AtL xs kq [q.w, q.x, q.y, q.z]) (am : xs[im]? = some m) (ar : AtL xs kr [p.w, p.x, p.y, p.z]) (hp : p.ok 100) (hq : q.ok 100) (hm : m.ok 100) (gp : p.good) (gq : q.good) (gm : m.valid = true) (hw : (p.inv.mul q).w.p = 0) (h0 : m.p = 0) : OkI xs ys ⟨32, [row kp, row kq, fr im], .tup [row kr, .one (.i .i64 0)]⟩ :=
  ⟨enters Try.func32 rfl rfl, fun B w vs h => by
    match vs, h with
    | [vp, vq, vm], h =>
      refine (q_rBtw2 vp vq vm p q m w ((row_isL ap).1 h.1) ((row_isL aq).1 h.2.1) ((fr_isQ am).1 h.2.2.1) hp hq hm gp gq gm hw h0).mono ?_
      rintro e w' ⟨v, rfl, h1, h2⟩
      exact ⟨_, rfl, ⟨[v, .int .i64 0], rfl, (row_isL ar).2 h1, rfl, trivial⟩, h2⟩⟩
def xrBtw3X (p : Qq) (q : Qq) (m : Fq) : List Fq := [p.w, p.x, p.y, p.z, q.w, q.x, q.y, q.z, m, p.inv.w, p.inv.x, p.inv.y, p.inv.z, (p.inv.mul q).w, (p.inv.mul q).x, (p.inv.mul q).y, (p.inv.mul q).z, (Fq.ofInt 1)]
theorem q_rBtw3 (vp vq vm : Value) (p : Qq) (q : Qq) (m : Fq) (w : World) (ip : IsQt w vp p) (iq : IsQt w vq q) (im : IsQ w vm m) (hp : p.ok 100) (hq : q.ok 100) (hm : m.ok 100) (gp : p.good) (gq : q.good) (gm : m.valid = true) (hw : (p.inv.mul q).w.p = 0) (h0 : m.p ≠ 0) (h1 : m = (Fq.ofInt 1)) :
    Calls Try.prog 32 #[vp, vq, vm] w fun e w' => RetQtE w q 0 e w' := by
  refine (calls_runFn (ρ := frs (xrBtw3X p q m) ++ [.val (.int .i64 m.sgn)]) (w := w) (fuel := 300) (args := [row [0, 1, 2, 3], row [4, 5, 6, 7], fr 8]) (vs := [vp, vq, vm]) (r := .tup [row [4, 5, 6, 7], .one (.i .i64 0)])
    (il_cons (I_rInvT (kq := [0, 1, 2, 3]) (q := p) (kr := [9, 10, 11, 12]) ⟨rfl, rfl, rfl, rfl, trivial⟩ ⟨rfl, rfl, rfl, rfl, trivial⟩ (hp.mono (by decide)) gp) (il_cons (I_rMulT (kp := [9, 10, 11, 12]) (p := p.inv) (kq := [4, 5, 6, 7]) (q := q) (kr := [13, 14, 15, 16]) ⟨rfl, rfl, rfl, rfl, trivial⟩ ⟨rfl, rfl, rfl, rfl, trivial⟩ ⟨rfl, rfl, rfl, rfl, trivial⟩ ((hp.inv gp).mono (by decide)) (hq.mono (by decide)) (inv_good gp) gq) (il_cons (I_rHalf1 (kq := [13, 14, 15, 16]) (q := (p.inv.mul q)) ⟨rfl, rfl, rfl, rfl, trivial⟩ (((hp.inv gp).mulg hq (inv_good gp) gq).mono (by decide)) hw) (il_cons (I_rSign (i := 8) rfl (lr (n := 54) rfl) (hm.mono (by decide))) (il_cons (I_rInt (k := 17) rfl (by decide) (by decide)) (il_cons (I_rSame (i := 8) (j := 17) (l := .b true) rfl rfl (lb (Fq.same_iff.2 h1)) (hm.mono (by decide)).p (hm.mono (by decide)).q ((ok_int (u := 1) (by decide) (by decide)).mono (by decide)).p ((ok_int (u := 1) (by decide) (by decide)).mono (by decide)).q) il_nil))))))
    (ol_cons (o_eql (n := 54) (c := 0) (t := 3) rfl (sgn_eq h0)) (ol_nil)) (by kernel_rfl) Try.func32 (by kernel_rfl) ⟨(row_isL (xs := xrBtw3X p q m) (ks := [0, 1, 2, 3]) (vs := [p.w, p.x, p.y, p.z]) ⟨rfl, rfl, rfl, rfl, trivial⟩).2 ip, ⟨(row_isL (xs := xrBtw3X p q m) (ks := [4, 5, 6, 7]) (vs := [q.w, q.x, q.y, q.z]) ⟨rfl, rfl, rfl, rfl, trivial⟩).2 iq, ⟨(fr_isQ (xs := xrBtw3X p q m) (k := 8) rfl).2 im, trivial⟩⟩⟩).mono ?_
  rintro e w' ⟨v, rfl, ⟨vs, rfl, h1⟩, h2⟩
  match vs, h1 with
  | [r, c], h1 =>
    obtain ⟨⟨cs, rfl, k1⟩, k2, _⟩ := h1
    have k2 : c = _ := k2
    subst k2
    exact ⟨_, rfl, (row_isL (xs := xrBtw3X p q m) (ks := [4, 5, 6, 7]) (vs := [q.w, q.x, q.y, q.z]) ⟨rfl, rfl, rfl, rfl, trivial⟩).1 ⟨_, rfl, k1⟩, h2⟩
theorem I_rBtw3 {xs : List Fq} {ys : Rho} {kp : List Nat} {kq : List Nat} {im : Nat} {p : Qq} {q : Qq} {m : Fq} {kr : List Nat} (ap : AtL xs kp [p.w, p.x, p.y, p.z]) (aq : AtL xs kq [q.w, q.x, q.y, q.z]) (am : xs[im]? = some m) (ar : AtL xs kr [q.w, q.x, q.y, q.z]) (hp : p.ok 100) (hq : q.ok 100) (hm : m.ok 100) (gp : p.good) (gq : q.good) (gm : m.valid = true) (hw : (p.inv.mul q).w.p = 0) (h0 : m.p ≠ 0) (h1 : m = (Fq.ofInt 1)) : OkI xs ys ⟨32, [row kp, row kq, fr im], .tup [row kr, .one (.i .i64 0)]⟩ :=
  ⟨enters Try.func32 rfl rfl, fun B w vs h => by
    match vs, h with
    | [vp, vq, vm], h =>
      refine (q_rBtw3 vp vq vm p q m w ((row_isL ap).1 h.1) ((row_isL aq).1 h.2.1) ((fr_isQ am).1 h.2.2.1) hp hq hm gp gq gm hw h0 h1).mono ?_
      rintro e w' ⟨v, rfl, h1, h2⟩
      exact ⟨_, rfl, ⟨[v, .int .i64 0], rfl, (row_isL ar).2 h1, rfl, trivial⟩, h2⟩⟩
def xrBtw4X (p : Qq) (q : Qq) (m : Fq) : List Fq := [p.w, p.x, p.y, p.z, q.w, q.x, q.y, q.z, m, p.inv.w, p.inv.x, p.inv.y, p.inv.z, (p.inv.mul q).w, (p.inv.mul q).x, (p.inv.mul q).y, (p.inv.mul q).z, (Fq.ofInt 1)]
theorem q_rBtw4 (vp vq vm : Value) (p : Qq) (q : Qq) (m : Fq) (w : World) (ip : IsQt w vp p) (iq : IsQt w vq q) (im : IsQ w vm m) (hp : p.ok 100) (hq : q.ok 100) (hm : m.ok 100) (gp : p.good) (gq : q.good) (gm : m.valid = true) (hw : (p.inv.mul q).w.p = 0) (h0 : m.p ≠ 0) (h1 : m ≠ (Fq.ofInt 1)) :
    Calls Try.prog 32 #[vp, vq, vm] w fun e w' => RetQtE w Qq.zero 4 e w' := by
  refine (calls_runFn (ρ := frs (xrBtw4X p q m) ++ [.val (.int .i64 m.sgn)]) (w := w) (fuel := 300) (args := [row [0, 1, 2, 3], row [4, 5, 6, 7], fr 8]) (vs := [vp, vq, vm]) (r := .tup [.agg [.b false, .sl0, .sl0, .b false, .sl0, .sl0, .b false, .sl0, .sl0, .b false, .sl0, .sl0], .one (.i .i64 4)])
    (il_cons (I_rInvT (kq := [0, 1, 2, 3]) (q := p) (kr := [9, 10, 11, 12]) ⟨rfl, rfl, rfl, rfl, trivial⟩ ⟨rfl, rfl, rfl, rfl, trivial⟩ (hp.mono (by decide)) gp) (il_cons (I_rMulT (kp := [9, 10, 11, 12]) (p := p.inv) (kq := [4, 5, 6, 7]) (q := q) (kr := [13, 14, 15, 16]) ⟨rfl, rfl, rfl, rfl, trivial⟩ ⟨rfl, rfl, rfl, rfl, trivial⟩ ⟨rfl, rfl, rfl, rfl, trivial⟩ ((hp.inv gp).mono (by decide)) (hq.mono (by decide)) (inv_good gp) gq) (il_cons (I_rHalf1 (kq := [13, 14, 15, 16]) (q := (p.inv.mul q)) ⟨rfl, rfl, rfl, rfl, trivial⟩ (((hp.inv gp).mulg hq (inv_good gp) gq).mono (by decide)) hw) (il_cons (I_rSign (i := 8) rfl (lr (n := 54) rfl) (hm.mono (by decide))) (il_cons (I_rInt (k := 17) rfl (by decide) (by decide)) (il_cons (I_rSame (i := 8) (j := 17) (l := .b false) rfl rfl (lb (same_ne h1)) (hm.mono (by decide)).p (hm.mono (by decide)).q ((ok_int (u := 1) (by decide) (by decide)).mono (by decide)).p ((ok_int (u := 1) (by decide) (by decide)).mono (by decide)).q) il_nil))))))
    (ol_cons (o_eql (n := 54) (c := 0) (t := 3) rfl (sgn_eq h0)) (ol_nil)) (by kernel_rfl) Try.func32 (by kernel_rfl) ⟨(row_isL (xs := xrBtw4X p q m) (ks := [0, 1, 2, 3]) (vs := [p.w, p.x, p.y, p.z]) ⟨rfl, rfl, rfl, rfl, trivial⟩).2 ip, ⟨(row_isL (xs := xrBtw4X p q m) (ks := [4, 5, 6, 7]) (vs := [q.w, q.x, q.y, q.z]) ⟨rfl, rfl, rfl, rfl, trivial⟩).2 iq, ⟨(fr_isQ (xs := xrBtw4X p q m) (k := 8) rfl).2 im, trivial⟩⟩⟩).mono ?_
  rintro e w' ⟨v, rfl, ⟨vs, rfl, h1⟩, h2⟩
  match vs, h1 with
  | [r, c], h1 =>
    obtain ⟨⟨cs, rfl, k1⟩, k2, _⟩ := h1
    have k2 : c = _ := k2
    subst k2
    exact ⟨_, rfl, ⟨_, rfl, zero_row (n := 4) k1⟩, h2⟩
theorem I_rBtw4 {xs : List Fq} {ys : Rho} {kp : List Nat} {kq : List Nat} {im : Nat} {p : Qq} {q : Qq} {m : Fq} {kr : List Nat} (ap : AtL xs kp [p.w, p.x, p.y, p.z]) (aq : AtL xs kq [q.w, q.x, q.y, q.z]) (am : xs[im]? = some m) (ar : AtL xs kr [Qq.zero.w, Qq.zero.x, Qq.zero.y, Qq.zero.z]) (hp : p.ok 100) (hq : q.ok 100) (hm : m.ok 100) (gp : p.good) (gq : q.good) (gm : m.valid = true) (hw : (p.inv.mul q).w.p = 0) (h0 : m.p ≠ 0) (h1 : m ≠ (Fq.ofInt 1)) : OkI xs ys ⟨32, [row kp, row kq, fr im], .tup [row kr, .one (.i .i64 4)]⟩ :=
  ⟨enters Try.func32 rfl rfl, fun B w vs h => by
    match vs, h with
    | [vp, vq, vm], h =>
      refine (q_rBtw4 vp vq vm p q m w ((row_isL ap).1 h.1) ((row_isL aq).1 h.2.1) ((fr_isQ am).1 h.2.2.1) hp hq hm gp gq gm hw h0 h1).mono ?_
      rintro e w' ⟨v, rfl, h1, h2⟩
      exact ⟨_, rfl, ⟨[v, .int .i64 4], rfl, (row_isL ar).2 h1, rfl, trivial⟩, h2⟩⟩
def xfValidT1X (q : Qq) : List Fq := [q.w, q.x, q.y, q.z, (Fq.ofInt 1)]
def xfValidT11X (q : Qq) : List Fq := [q.w, q.x, q.y, q.z, (Fq.ofInt 1)]
def xfValidT12X (q : Qq) : List Fq := [q.w, q.x, q.y, q.z, (Fq.ofInt 1)]
def xfValidT13X (q : Qq) : List Fq := [q.w, q.x, q.y, q.z, (Fq.ofInt 1)]
theorem q_fValidT1 (vq : Value) (q : Qq) (w : World) (iq : IsQt w vq q) (hq : q.ok 1000000) (gq : q.good) :
    Calls Try.prog 11 #[vq] w fun e w' => RetV w (.bool true) e w' := by
  by_cases c0 : q.w.p = 0
  · by_cases c1 : q.x.p = 0
    · by_cases c2 : q.y.p = 0
      · by_cases c3 : q.z.p = 0
        · exact absurd (by simp [Qq.first, c0, c1, c2, c3]) (good_ne gq)
        · have e1 : q.first = q.z := by simp [Qq.first, c0, c1, c2, c3]
          refine (calls_runFn (ρ := frs (xfValidT1X q) ++ [.val (.int .i64 q.z.sgn)]) (w := w) (fuel := 300) (args := [row [0, 1, 2, 3]]) (vs := [vq]) (r := .v (.one (.b true)))
            (il_cons (I_parts (kq := [0, 1, 2, 3]) (q := q) (kr := [0, 1, 2, 3]) ⟨rfl, rfl, rfl, rfl, trivial⟩ ⟨rfl, rfl, rfl, rfl, trivial⟩ (hq.mono (by decide))) (il_cons (I_fValid (i := 0) (l := .b true) rfl (lb gq.comp.w) (hq.w.mono (by decide))) (il_cons (I_fValid (i := 1) (l := .b true) rfl (lb gq.comp.x) (hq.x.mono (by decide))) (il_cons (I_fValid (i := 2) (l := .b true) rfl (lb gq.comp.y) (hq.y.mono (by decide))) (il_cons (I_fValid (i := 3) (l := .b true) rfl (lb gq.comp.z) (hq.z.mono (by decide))) (il_cons (I_fSign (i := 0) rfl (li (sgn0 c0)) (hq.w.mono (by decide))) (il_cons (I_fSign (i := 1) rfl (li (sgn0 c1)) (hq.x.mono (by decide))) (il_cons (I_fSign (i := 2) rfl (li (sgn0 c2)) (hq.y.mono (by decide))) (il_cons (I_fSign (i := 3) rfl (lr (n := 15) rfl) (hq.z.mono (by decide))) (il_cons (I_fInt (k := 4) rfl (by decide) (by decide)) (il_cons (I_fCmp (i := 3) (j := 4) rfl rfl (li ((o_zero gq.comp.z (ofInt_valid 1)).2 (e1.symm.trans (good_first gq)))) (hq.z.mono (by decide)) ((ok_int (u := 1) (by decide) (by decide)).mono (by decide))) il_nil)))))))))))
            (ol_cons (o_neq (n := 15) (c := 0) (t := 3) rfl (sgn_nq c3)) (ol_nil)) (by kernel_rfl) Try.func11 (by kernel_rfl) ⟨(row_isL (xs := xfValidT1X q) (ks := [0, 1, 2, 3]) (vs := [q.w, q.x, q.y, q.z]) ⟨rfl, rfl, rfl, rfl, trivial⟩).2 iq, trivial⟩).mono ?_
          rintro e w' ⟨v, rfl, h1, h2⟩
          exact ⟨congrArg Ending.returned h1, h2⟩
      · have e1 : q.first = q.y := by simp [Qq.first, c0, c1, c2]
        refine (calls_runFn (ρ := frs (xfValidT11X q) ++ [.val (.int .i64 q.y.sgn)]) (w := w) (fuel := 300) (args := [row [0, 1, 2, 3]]) (vs := [vq]) (r := .v (.one (.b true)))
          (il_cons (I_parts (kq := [0, 1, 2, 3]) (q := q) (kr := [0, 1, 2, 3]) ⟨rfl, rfl, rfl, rfl, trivial⟩ ⟨rfl, rfl, rfl, rfl, trivial⟩ (hq.mono (by decide))) (il_cons (I_fValid (i := 0) (l := .b true) rfl (lb gq.comp.w) (hq.w.mono (by decide))) (il_cons (I_fValid (i := 1) (l := .b true) rfl (lb gq.comp.x) (hq.x.mono (by decide))) (il_cons (I_fValid (i := 2) (l := .b true) rfl (lb gq.comp.y) (hq.y.mono (by decide))) (il_cons (I_fValid (i := 3) (l := .b true) rfl (lb gq.comp.z) (hq.z.mono (by decide))) (il_cons (I_fSign (i := 0) rfl (li (sgn0 c0)) (hq.w.mono (by decide))) (il_cons (I_fSign (i := 1) rfl (li (sgn0 c1)) (hq.x.mono (by decide))) (il_cons (I_fSign (i := 2) rfl (lr (n := 15) rfl) (hq.y.mono (by decide))) (il_cons (I_fInt (k := 4) rfl (by decide) (by decide)) (il_cons (I_fCmp (i := 2) (j := 4) rfl rfl (li ((o_zero gq.comp.y (ofInt_valid 1)).2 (e1.symm.trans (good_first gq)))) (hq.y.mono (by decide)) ((ok_int (u := 1) (by decide) (by decide)).mono (by decide))) il_nil))))))))))
          (ol_cons (o_neq (n := 15) (c := 0) (t := 3) rfl (sgn_nq c2)) (ol_nil)) (by kernel_rfl) Try.func11 (by kernel_rfl) ⟨(row_isL (xs := xfValidT11X q) (ks := [0, 1, 2, 3]) (vs := [q.w, q.x, q.y, q.z]) ⟨rfl, rfl, rfl, rfl, trivial⟩).2 iq, trivial⟩).mono ?_
        rintro e w' ⟨v, rfl, h1, h2⟩
        exact ⟨congrArg Ending.returned h1, h2⟩
    · have e1 : q.first = q.x := by simp [Qq.first, c0, c1]
      refine (calls_runFn (ρ := frs (xfValidT12X q) ++ [.val (.int .i64 q.x.sgn)]) (w := w) (fuel := 300) (args := [row [0, 1, 2, 3]]) (vs := [vq]) (r := .v (.one (.b true)))
        (il_cons (I_parts (kq := [0, 1, 2, 3]) (q := q) (kr := [0, 1, 2, 3]) ⟨rfl, rfl, rfl, rfl, trivial⟩ ⟨rfl, rfl, rfl, rfl, trivial⟩ (hq.mono (by decide))) (il_cons (I_fValid (i := 0) (l := .b true) rfl (lb gq.comp.w) (hq.w.mono (by decide))) (il_cons (I_fValid (i := 1) (l := .b true) rfl (lb gq.comp.x) (hq.x.mono (by decide))) (il_cons (I_fValid (i := 2) (l := .b true) rfl (lb gq.comp.y) (hq.y.mono (by decide))) (il_cons (I_fValid (i := 3) (l := .b true) rfl (lb gq.comp.z) (hq.z.mono (by decide))) (il_cons (I_fSign (i := 0) rfl (li (sgn0 c0)) (hq.w.mono (by decide))) (il_cons (I_fSign (i := 1) rfl (lr (n := 15) rfl) (hq.x.mono (by decide))) (il_cons (I_fInt (k := 4) rfl (by decide) (by decide)) (il_cons (I_fCmp (i := 1) (j := 4) rfl rfl (li ((o_zero gq.comp.x (ofInt_valid 1)).2 (e1.symm.trans (good_first gq)))) (hq.x.mono (by decide)) ((ok_int (u := 1) (by decide) (by decide)).mono (by decide))) il_nil)))))))))
        (ol_cons (o_neq (n := 15) (c := 0) (t := 3) rfl (sgn_nq c1)) (ol_nil)) (by kernel_rfl) Try.func11 (by kernel_rfl) ⟨(row_isL (xs := xfValidT12X q) (ks := [0, 1, 2, 3]) (vs := [q.w, q.x, q.y, q.z]) ⟨rfl, rfl, rfl, rfl, trivial⟩).2 iq, trivial⟩).mono ?_
      rintro e w' ⟨v, rfl, h1, h2⟩
      exact ⟨congrArg Ending.returned h1, h2⟩
  · have e1 : q.first = q.w := by simp [Qq.first, c0]
    refine (calls_runFn (ρ := frs (xfValidT13X q) ++ [.val (.int .i64 q.w.sgn)]) (w := w) (fuel := 300) (args := [row [0, 1, 2, 3]]) (vs := [vq]) (r := .v (.one (.b true)))
      (il_cons (I_parts (kq := [0, 1, 2, 3]) (q := q) (kr := [0, 1, 2, 3]) ⟨rfl, rfl, rfl, rfl, trivial⟩ ⟨rfl, rfl, rfl, rfl, trivial⟩ (hq.mono (by decide))) (il_cons (I_fValid (i := 0) (l := .b true) rfl (lb gq.comp.w) (hq.w.mono (by decide))) (il_cons (I_fValid (i := 1) (l := .b true) rfl (lb gq.comp.x) (hq.x.mono (by decide))) (il_cons (I_fValid (i := 2) (l := .b true) rfl (lb gq.comp.y) (hq.y.mono (by decide))) (il_cons (I_fValid (i := 3) (l := .b true) rfl (lb gq.comp.z) (hq.z.mono (by decide))) (il_cons (I_fSign (i := 0) rfl (lr (n := 15) rfl) (hq.w.mono (by decide))) (il_cons (I_fInt (k := 4) rfl (by decide) (by decide)) (il_cons (I_fCmp (i := 0) (j := 4) rfl rfl (li ((o_zero gq.comp.w (ofInt_valid 1)).2 (e1.symm.trans (good_first gq)))) (hq.w.mono (by decide)) ((ok_int (u := 1) (by decide) (by decide)).mono (by decide))) il_nil))))))))
      (ol_cons (o_neq (n := 15) (c := 0) (t := 3) rfl (sgn_nq c0)) (ol_nil)) (by kernel_rfl) Try.func11 (by kernel_rfl) ⟨(row_isL (xs := xfValidT13X q) (ks := [0, 1, 2, 3]) (vs := [q.w, q.x, q.y, q.z]) ⟨rfl, rfl, rfl, rfl, trivial⟩).2 iq, trivial⟩).mono ?_
    rintro e w' ⟨v, rfl, h1, h2⟩
    exact ⟨congrArg Ending.returned h1, h2⟩
theorem I_fValidT1 {xs : List Fq} {ys : Rho} {kq : List Nat} {q : Qq}  (aq : AtL xs kq [q.w, q.x, q.y, q.z])  (hq : q.ok 1000000) (gq : q.good) : OkI xs ys ⟨11, [row kq], .v (.one (.b true))⟩ :=
  ⟨enters Try.func11 rfl rfl, fun B w vs h => by
    match vs, h with
    | [vq], h =>
      refine (q_fValidT1 vq q w ((row_isL aq).1 h.1) hq gq).mono ?_
      rintro e w' ⟨rfl, h2⟩
      exact ⟨_, rfl, rfl, h2⟩⟩
def xfValidT0X (q : Qq) : List Fq := [q.w, q.x, q.y, q.z]
def xfValidT01X (q : Qq) : List Fq := [q.w, q.x, q.y, q.z, (Fq.ofInt 1)]
def xfValidT02X (q : Qq) : List Fq := [q.w, q.x, q.y, q.z, (Fq.ofInt 1)]
def xfValidT03X (q : Qq) : List Fq := [q.w, q.x, q.y, q.z, (Fq.ofInt 1)]
def xfValidT04X (q : Qq) : List Fq := [q.w, q.x, q.y, q.z, (Fq.ofInt 1)]
theorem q_fValidT0 (vq : Value) (q : Qq) (w : World) (iq : IsQt w vq q) (hq : q.ok 1000000) (gc : q.comp) (hf : q.first ≠ (Fq.ofInt 1)) :
    Calls Try.prog 11 #[vq] w fun e w' => RetV w (.bool false) e w' := by
  by_cases c0 : q.w.p = 0
  · by_cases c1 : q.x.p = 0
    · by_cases c2 : q.y.p = 0
      · by_cases c3 : q.z.p = 0
        · refine (calls_runFn (ρ := frs (xfValidT0X q) ++ []) (w := w) (fuel := 300) (args := [row [0, 1, 2, 3]]) (vs := [vq]) (r := .v (.one (.b false)))
            (il_cons (I_parts (kq := [0, 1, 2, 3]) (q := q) (kr := [0, 1, 2, 3]) ⟨rfl, rfl, rfl, rfl, trivial⟩ ⟨rfl, rfl, rfl, rfl, trivial⟩ (hq.mono (by decide))) (il_cons (I_fValid (i := 0) (l := .b true) rfl (lb gc.w) (hq.w.mono (by decide))) (il_cons (I_fValid (i := 1) (l := .b true) rfl (lb gc.x) (hq.x.mono (by decide))) (il_cons (I_fValid (i := 2) (l := .b true) rfl (lb gc.y) (hq.y.mono (by decide))) (il_cons (I_fValid (i := 3) (l := .b true) rfl (lb gc.z) (hq.z.mono (by decide))) (il_cons (I_fSign (i := 0) rfl (li (sgn0 c0)) (hq.w.mono (by decide))) (il_cons (I_fSign (i := 1) rfl (li (sgn0 c1)) (hq.x.mono (by decide))) (il_cons (I_fSign (i := 2) rfl (li (sgn0 c2)) (hq.y.mono (by decide))) (il_cons (I_fSign (i := 3) rfl (li (sgn0 c3)) (hq.z.mono (by decide))) il_nil)))))))))
            ol_nil (by kernel_rfl) Try.func11 (by kernel_rfl) ⟨(row_isL (xs := xfValidT0X q) (ks := [0, 1, 2, 3]) (vs := [q.w, q.x, q.y, q.z]) ⟨rfl, rfl, rfl, rfl, trivial⟩).2 iq, trivial⟩).mono ?_
          rintro e w' ⟨v, rfl, h1, h2⟩
          exact ⟨congrArg Ending.returned h1, h2⟩
        · have e1 : q.first = q.z := by simp [Qq.first, c0, c1, c2, c3]
          refine (calls_runFn (ρ := frs (xfValidT01X q) ++ [.val (.int .i64 q.z.sgn), .val (.int .i64 (q.z.cmp (Fq.ofInt 1)))]) (w := w) (fuel := 300) (args := [row [0, 1, 2, 3]]) (vs := [vq]) (r := .v (.one (.b false)))
            (il_cons (I_parts (kq := [0, 1, 2, 3]) (q := q) (kr := [0, 1, 2, 3]) ⟨rfl, rfl, rfl, rfl, trivial⟩ ⟨rfl, rfl, rfl, rfl, trivial⟩ (hq.mono (by decide))) (il_cons (I_fValid (i := 0) (l := .b true) rfl (lb gc.w) (hq.w.mono (by decide))) (il_cons (I_fValid (i := 1) (l := .b true) rfl (lb gc.x) (hq.x.mono (by decide))) (il_cons (I_fValid (i := 2) (l := .b true) rfl (lb gc.y) (hq.y.mono (by decide))) (il_cons (I_fValid (i := 3) (l := .b true) rfl (lb gc.z) (hq.z.mono (by decide))) (il_cons (I_fSign (i := 0) rfl (li (sgn0 c0)) (hq.w.mono (by decide))) (il_cons (I_fSign (i := 1) rfl (li (sgn0 c1)) (hq.x.mono (by decide))) (il_cons (I_fSign (i := 2) rfl (li (sgn0 c2)) (hq.y.mono (by decide))) (il_cons (I_fSign (i := 3) rfl (lr (n := 15) rfl) (hq.z.mono (by decide))) (il_cons (I_fInt (k := 4) rfl (by decide) (by decide)) (il_cons (I_fCmp (i := 3) (j := 4) rfl rfl (lr (n := 16) rfl) (hq.z.mono (by decide)) ((ok_int (u := 1) (by decide) (by decide)).mono (by decide))) il_nil)))))))))))
            (ol_cons (o_neq (n := 15) (c := 0) (t := 3) rfl (sgn_nq c3)) (ol_cons (o_eql (n := 16) (c := 0) (t := 3) rfl (ne_eql (mt (o_zero gc.z (ofInt_valid 1)).1 (fun h => hf (e1.trans h))))) (ol_nil))) (by kernel_rfl) Try.func11 (by kernel_rfl) ⟨(row_isL (xs := xfValidT01X q) (ks := [0, 1, 2, 3]) (vs := [q.w, q.x, q.y, q.z]) ⟨rfl, rfl, rfl, rfl, trivial⟩).2 iq, trivial⟩).mono ?_
          rintro e w' ⟨v, rfl, h1, h2⟩
          exact ⟨congrArg Ending.returned h1, h2⟩
      · have e1 : q.first = q.y := by simp [Qq.first, c0, c1, c2]
        refine (calls_runFn (ρ := frs (xfValidT02X q) ++ [.val (.int .i64 q.y.sgn), .val (.int .i64 (q.y.cmp (Fq.ofInt 1)))]) (w := w) (fuel := 300) (args := [row [0, 1, 2, 3]]) (vs := [vq]) (r := .v (.one (.b false)))
          (il_cons (I_parts (kq := [0, 1, 2, 3]) (q := q) (kr := [0, 1, 2, 3]) ⟨rfl, rfl, rfl, rfl, trivial⟩ ⟨rfl, rfl, rfl, rfl, trivial⟩ (hq.mono (by decide))) (il_cons (I_fValid (i := 0) (l := .b true) rfl (lb gc.w) (hq.w.mono (by decide))) (il_cons (I_fValid (i := 1) (l := .b true) rfl (lb gc.x) (hq.x.mono (by decide))) (il_cons (I_fValid (i := 2) (l := .b true) rfl (lb gc.y) (hq.y.mono (by decide))) (il_cons (I_fValid (i := 3) (l := .b true) rfl (lb gc.z) (hq.z.mono (by decide))) (il_cons (I_fSign (i := 0) rfl (li (sgn0 c0)) (hq.w.mono (by decide))) (il_cons (I_fSign (i := 1) rfl (li (sgn0 c1)) (hq.x.mono (by decide))) (il_cons (I_fSign (i := 2) rfl (lr (n := 15) rfl) (hq.y.mono (by decide))) (il_cons (I_fInt (k := 4) rfl (by decide) (by decide)) (il_cons (I_fCmp (i := 2) (j := 4) rfl rfl (lr (n := 16) rfl) (hq.y.mono (by decide)) ((ok_int (u := 1) (by decide) (by decide)).mono (by decide))) il_nil))))))))))
          (ol_cons (o_neq (n := 15) (c := 0) (t := 3) rfl (sgn_nq c2)) (ol_cons (o_eql (n := 16) (c := 0) (t := 3) rfl (ne_eql (mt (o_zero gc.y (ofInt_valid 1)).1 (fun h => hf (e1.trans h))))) (ol_nil))) (by kernel_rfl) Try.func11 (by kernel_rfl) ⟨(row_isL (xs := xfValidT02X q) (ks := [0, 1, 2, 3]) (vs := [q.w, q.x, q.y, q.z]) ⟨rfl, rfl, rfl, rfl, trivial⟩).2 iq, trivial⟩).mono ?_
        rintro e w' ⟨v, rfl, h1, h2⟩
        exact ⟨congrArg Ending.returned h1, h2⟩
    · have e1 : q.first = q.x := by simp [Qq.first, c0, c1]
      refine (calls_runFn (ρ := frs (xfValidT03X q) ++ [.val (.int .i64 q.x.sgn), .val (.int .i64 (q.x.cmp (Fq.ofInt 1)))]) (w := w) (fuel := 300) (args := [row [0, 1, 2, 3]]) (vs := [vq]) (r := .v (.one (.b false)))
        (il_cons (I_parts (kq := [0, 1, 2, 3]) (q := q) (kr := [0, 1, 2, 3]) ⟨rfl, rfl, rfl, rfl, trivial⟩ ⟨rfl, rfl, rfl, rfl, trivial⟩ (hq.mono (by decide))) (il_cons (I_fValid (i := 0) (l := .b true) rfl (lb gc.w) (hq.w.mono (by decide))) (il_cons (I_fValid (i := 1) (l := .b true) rfl (lb gc.x) (hq.x.mono (by decide))) (il_cons (I_fValid (i := 2) (l := .b true) rfl (lb gc.y) (hq.y.mono (by decide))) (il_cons (I_fValid (i := 3) (l := .b true) rfl (lb gc.z) (hq.z.mono (by decide))) (il_cons (I_fSign (i := 0) rfl (li (sgn0 c0)) (hq.w.mono (by decide))) (il_cons (I_fSign (i := 1) rfl (lr (n := 15) rfl) (hq.x.mono (by decide))) (il_cons (I_fInt (k := 4) rfl (by decide) (by decide)) (il_cons (I_fCmp (i := 1) (j := 4) rfl rfl (lr (n := 16) rfl) (hq.x.mono (by decide)) ((ok_int (u := 1) (by decide) (by decide)).mono (by decide))) il_nil)))))))))
        (ol_cons (o_neq (n := 15) (c := 0) (t := 3) rfl (sgn_nq c1)) (ol_cons (o_eql (n := 16) (c := 0) (t := 3) rfl (ne_eql (mt (o_zero gc.x (ofInt_valid 1)).1 (fun h => hf (e1.trans h))))) (ol_nil))) (by kernel_rfl) Try.func11 (by kernel_rfl) ⟨(row_isL (xs := xfValidT03X q) (ks := [0, 1, 2, 3]) (vs := [q.w, q.x, q.y, q.z]) ⟨rfl, rfl, rfl, rfl, trivial⟩).2 iq, trivial⟩).mono ?_
      rintro e w' ⟨v, rfl, h1, h2⟩
      exact ⟨congrArg Ending.returned h1, h2⟩
  · have e1 : q.first = q.w := by simp [Qq.first, c0]
    refine (calls_runFn (ρ := frs (xfValidT04X q) ++ [.val (.int .i64 q.w.sgn), .val (.int .i64 (q.w.cmp (Fq.ofInt 1)))]) (w := w) (fuel := 300) (args := [row [0, 1, 2, 3]]) (vs := [vq]) (r := .v (.one (.b false)))
      (il_cons (I_parts (kq := [0, 1, 2, 3]) (q := q) (kr := [0, 1, 2, 3]) ⟨rfl, rfl, rfl, rfl, trivial⟩ ⟨rfl, rfl, rfl, rfl, trivial⟩ (hq.mono (by decide))) (il_cons (I_fValid (i := 0) (l := .b true) rfl (lb gc.w) (hq.w.mono (by decide))) (il_cons (I_fValid (i := 1) (l := .b true) rfl (lb gc.x) (hq.x.mono (by decide))) (il_cons (I_fValid (i := 2) (l := .b true) rfl (lb gc.y) (hq.y.mono (by decide))) (il_cons (I_fValid (i := 3) (l := .b true) rfl (lb gc.z) (hq.z.mono (by decide))) (il_cons (I_fSign (i := 0) rfl (lr (n := 15) rfl) (hq.w.mono (by decide))) (il_cons (I_fInt (k := 4) rfl (by decide) (by decide)) (il_cons (I_fCmp (i := 0) (j := 4) rfl rfl (lr (n := 16) rfl) (hq.w.mono (by decide)) ((ok_int (u := 1) (by decide) (by decide)).mono (by decide))) il_nil))))))))
      (ol_cons (o_neq (n := 15) (c := 0) (t := 3) rfl (sgn_nq c0)) (ol_cons (o_eql (n := 16) (c := 0) (t := 3) rfl (ne_eql (mt (o_zero gc.w (ofInt_valid 1)).1 (fun h => hf (e1.trans h))))) (ol_nil))) (by kernel_rfl) Try.func11 (by kernel_rfl) ⟨(row_isL (xs := xfValidT04X q) (ks := [0, 1, 2, 3]) (vs := [q.w, q.x, q.y, q.z]) ⟨rfl, rfl, rfl, rfl, trivial⟩).2 iq, trivial⟩).mono ?_
    rintro e w' ⟨v, rfl, h1, h2⟩
    exact ⟨congrArg Ending.returned h1, h2⟩
def xrValidT1X (q : Qq) : List Fq := [q.w, q.x, q.y, q.z, q.first, (Fq.ofInt 1)]
theorem q_rValidT1 (vq : Value) (q : Qq) (w : World) (iq : IsQt w vq q) (hq : q.ok 1000000) (gq : q.good) :
    Calls Try.prog 12 #[vq] w fun e w' => RetV w (.bool true) e w' := by
  refine (calls_runFn (ρ := frs (xrValidT1X q) ++ []) (w := w) (fuel := 300) (args := [row [0, 1, 2, 3]]) (vs := [vq]) (r := .v (.one (.b true)))
    (il_cons (I_rValid (i := 0) (l := .b true) rfl (lb gq.comp.w) (hq.w.mono (by decide))) (il_cons (I_rValid (i := 1) (l := .b true) rfl (lb gq.comp.x) (hq.x.mono (by decide))) (il_cons (I_rValid (i := 2) (l := .b true) rfl (lb gq.comp.y) (hq.y.mono (by decide))) (il_cons (I_rValid (i := 3) (l := .b true) rfl (lb gq.comp.z) (hq.z.mono (by decide))) (il_cons (I_rFirst (kq := [0, 1, 2, 3]) (q := q) (ir := 4) ⟨rfl, rfl, rfl, rfl, trivial⟩ rfl (hq.mono (by decide))) (il_cons (I_rInt (k := 5) rfl (by decide) (by decide)) (il_cons (I_rSame (i := 4) (j := 5) (l := .b true) rfl rfl (lb (Fq.same_iff.2 (good_first gq))) (hq.first.mono (by decide)).p (hq.first.mono (by decide)).q ((ok_int (u := 1) (by decide) (by decide)).mono (by decide)).p ((ok_int (u := 1) (by decide) (by decide)).mono (by decide)).q) il_nil)))))))
    ol_nil (by kernel_rfl) Try.func12 (by kernel_rfl) ⟨(row_isL (xs := xrValidT1X q) (ks := [0, 1, 2, 3]) (vs := [q.w, q.x, q.y, q.z]) ⟨rfl, rfl, rfl, rfl, trivial⟩).2 iq, trivial⟩).mono ?_
  rintro e w' ⟨v, rfl, h1, h2⟩
  exact ⟨congrArg Ending.returned h1, h2⟩
def xrValidT0X (q : Qq) : List Fq := [q.w, q.x, q.y, q.z, q.first, (Fq.ofInt 1)]
theorem q_rValidT0 (vq : Value) (q : Qq) (w : World) (iq : IsQt w vq q) (hq : q.ok 1000000) (gc : q.comp) (hf : q.first ≠ (Fq.ofInt 1)) :
    Calls Try.prog 12 #[vq] w fun e w' => RetV w (.bool false) e w' := by
  refine (calls_runFn (ρ := frs (xrValidT0X q) ++ []) (w := w) (fuel := 300) (args := [row [0, 1, 2, 3]]) (vs := [vq]) (r := .v (.one (.b false)))
    (il_cons (I_rValid (i := 0) (l := .b true) rfl (lb gc.w) (hq.w.mono (by decide))) (il_cons (I_rValid (i := 1) (l := .b true) rfl (lb gc.x) (hq.x.mono (by decide))) (il_cons (I_rValid (i := 2) (l := .b true) rfl (lb gc.y) (hq.y.mono (by decide))) (il_cons (I_rValid (i := 3) (l := .b true) rfl (lb gc.z) (hq.z.mono (by decide))) (il_cons (I_rFirst (kq := [0, 1, 2, 3]) (q := q) (ir := 4) ⟨rfl, rfl, rfl, rfl, trivial⟩ rfl (hq.mono (by decide))) (il_cons (I_rInt (k := 5) rfl (by decide) (by decide)) (il_cons (I_rSame (i := 4) (j := 5) (l := .b false) rfl rfl (lb (same_ne hf)) (hq.first.mono (by decide)).p (hq.first.mono (by decide)).q ((ok_int (u := 1) (by decide) (by decide)).mono (by decide)).p ((ok_int (u := 1) (by decide) (by decide)).mono (by decide)).q) il_nil)))))))
    ol_nil (by kernel_rfl) Try.func12 (by kernel_rfl) ⟨(row_isL (xs := xrValidT0X q) (ks := [0, 1, 2, 3]) (vs := [q.w, q.x, q.y, q.z]) ⟨rfl, rfl, rfl, rfl, trivial⟩).2 iq, trivial⟩).mono ?_
  rintro e w' ⟨v, rfl, h1, h2⟩
  exact ⟨congrArg Ending.returned h1, h2⟩
end Go.Proofs.Ythefidbgjgfeiaa
namespace Go.Proofs.Ythefidbgjgfeiaa
set_option linter.unusedSimpArgs false
set_option linter.unusedVariables false
set_option maxRecDepth 100000
open Go.RowKit
/-- A fraction of two small numbers. -/
def Fq.part (a b : Int) : Fq := Fq.ratio (a.tmod 40) (if b.tmod 20 = 0 then 1 else b.tmod 20)
def Qq.orId (q : Qq) : Qq := if q.first.p = 0 then .id else q.canon
theorem tm_abs (a c : Int) : (a.tmod c).natAbs ≤ a.natAbs := by rw [Int.natAbs_tmod]; exact Nat.mod_le _ _
theorem tm_lo {a c : Int} (l : -128 ≤ a) (r : a ≤ 127) : -128 ≤ a.tmod c := by have := tm_abs a c; omega
theorem tm_hi {a c : Int} (l : -128 ≤ a) (r : a ≤ 127) : a.tmod c ≤ 128 := by have := tm_abs a c; omega
theorem tm_lo6 {a c : Int} (l : -128 ≤ a) (r : a ≤ 127) : -9223372036854775808 ≤ a.tmod c := by have := tm_abs a c; omega
theorem tm_hi6 {a c : Int} (l : -128 ≤ a) (r : a ≤ 127) : a.tmod c < 9223372036854775808 := by have := tm_abs a c; omega
theorem flat_i8 {u : Int} : Flat (.int .i8 u) := ⟨fun _ h => by (cases h), fun _ h => by (cases h), fun _ h => by (cases h)⟩
def AtI (ρ : Rho) : List Nat → List Int → Prop
  | [], [] => True
  | n :: ns, z :: zs => ρ[n]? = some (.val (.int .i8 z)) ∧ AtI ρ ns zs
  | _, _ => False
def intsSV (ns : List Nat) : SV := .agg (ns.map .ref)
section
variable {ρ : Rho} {xs : List Fq} {ys : Rho} {n m k : Nat} {u c v : Int} {l l1 l2 : Leaf} {t s d : TypeId}
theorem eq_eql (h : u = c) : (u == c) = true := by simpa using h
theorem lr8 (hn : ρ[n]? = some (.val (.int .i8 u))) : ∀ B w, (Leaf.ref n).holds ρ B w (.int .i8 u) := fun _ _ => ⟨_, hn, rfl, flat_i8⟩
theorem ints_leaves {B : Blk} {w : World} : ∀ {ns : List Nat} {zs : List Int} {cs : List Value}, AtI ρ ns zs → (LeavesH ρ B w (ns.map .ref) cs ↔ cs = zs.map (Value.int .i8))
  | [], [], cs, _ => by
    constructor
    · intro h; match cs, h with | [], _ => rfl
    · rintro rfl; trivial
  | n :: ns, z :: zs, cs, h => by
    have ih := fun cs => ints_leaves (B := B) (w := w) (cs := cs) h.2
    constructor
    · intro hl
      match cs, hl with
      | c :: cs, hl =>
        obtain ⟨⟨s, h1, h2⟩, h3⟩ := hl
        rw [h.1] at h1; injection h1 with h1; subst h1
        rw [h2.1, (ih cs).1 h3]; rfl
      | [], hl => exact hl.elim
    · rintro rfl
      exact ⟨lr8 h.1 _ _, (ih _).2 rfl⟩
  | [], _ :: _, _, h => h.elim
  | _ :: _, [], _, h => h.elim
theorem ints_holds {B : Blk} {w : World} {x : Value} {ns : List Nat} {zs : List Int} (h : AtI ρ ns zs) : (intsSV ns).holds ρ B w x ↔ x = .agg (zs.map (Value.int .i8)).toArray := by
  constructor
  · rintro ⟨cs, rfl, h1⟩; rw [(ints_leaves h).1 h1]
  · rintro rfl; exact ⟨_, rfl, (ints_leaves h).2 rfl⟩
theorem o_rem (hn : ρ[n]? = some (.val (.int .i8 u))) (hm : ρ[m]? = some (.val (.int .i8 (u.tmod c)))) (l : -128 ≤ u) (r : u ≤ 127) (h0 : 0 < c) (h1 : c < 100) : (OIns.mk (.bin .rem t) [.one (.ref n), .one (.i .i8 c)] (.one (.ref m))).Ok Try.prog ρ := fun B w vs hv => by
  match vs, hv with
  | [v1, v2], hv =>
    obtain ⟨⟨s, g1, g2⟩, g3, _⟩ := hv
    rw [hn] at g1; injection g1 with g1; subst g1
    obtain ⟨rfl, _⟩ := g2
    have e : v2 = .int .i8 c := g3
    subst e
    refine ⟨.int .i8 (u.tmod c), lr8 hm B w, fun xo yo => ?_⟩
    have hc : c ≠ 0 := by omega
    simp [eqGuard, binOp, Op.intDiv, Sem.run_bind, Result.andThen, hc]
theorem o_conv (hs : (match Try.prog.underlying s with | some (.int .i8) => true | _ => false) = true) (hd : (match Try.prog.underlying d with | some (.int .i64) => true | _ => false) = true) (hn : ρ[n]? = some (.val (.int .i8 u))) (hm : ρ[m]? = some (.val (.int .i64 u))) (l : -128 ≤ u) (r : u ≤ 128) : (OIns.mk (.conv s d) [.one (.ref n)] (.one (.ref m))).Ok Try.prog ρ := fun B w vs hv => by
  match vs, hv with
  | [v1], hv =>
    obtain ⟨⟨z, g1, g2⟩, _⟩ := hv
    rw [hn] at g1; injection g1 with g1; subst g1
    obtain ⟨rfl, _⟩ := g2
    refine ⟨.int .i64 u, lr hm B w, ?_⟩
    have es : Try.prog.underlying s = some (.int .i8) := by
      split at hs
      · assumption
      · cases hs
    have ed : Try.prog.underlying d = some (.int .i64) := by
      split at hd
      · assumption
      · cases hd
    have hw : IntKind.i64.wrap u = u := Go.IntWalk.i64_in _ ⟨by omega, by omega⟩
    unfold convert
    rw [Sem.run_bind, run_underlying es]
    simp only [Result.andThen]
    rw [Sem.run_bind, run_underlying ed]
    simp [Result.andThen, Conv.intToInt, hw]
theorem lv_i (h : c = u) : ∀ B w x, (Leaf.i .i64 c).holds ρ B w x → x = .int .i64 u := fun _ _ x hx => by subst h; exact hx
theorem lv_r (hn : ρ[n]? = some (.val (.int .i64 u))) : ∀ B w x, (Leaf.ref n).holds ρ B w x → x = .int .i64 u := fun _ _ x ⟨s, h1, h2⟩ => by
  rw [hn] at h1; injection h1 with h1; subst h1; exact h2.1
theorem I_rRatio (h1 : ∀ B w x, l1.holds (frs xs ++ ys) B w x → x = .int .i64 v) (h2 : ∀ B w x, l2.holds (frs xs ++ ys) B w x → x = .int .i64 u) (lv : -9223372036854775808 ≤ v) (rv : v < 9223372036854775808) (lu : -9223372036854775808 ≤ u) (ru : u < 9223372036854775808) (h0 : u ≠ 0) (hk : xs[k]? = some (.ratio v u)) : OkI xs ys ⟨37, [.one l1, .one l2], .tup [fr k, .one (.i .i64 0)]⟩ :=
  ⟨enters Try.func37 rfl rfl, fun B w vs h => by
    match vs, h with
    | [va, vb], h =>
      have e1 := h1 B w va h.1
      have e2 := h2 B w vb h.2.1
      subst e1; subst e2
      refine (q_rRatio v u w lv rv lu ru h0).mono ?_
      rintro e w' ⟨v, rfl, h1, h2⟩
      exact ⟨_, rfl, ⟨[v, .int .i64 0], rfl, (fr_isQ hk).2 h1, rfl, trivial⟩, h2⟩⟩
end
theorem part_ok {a b : Int} (la : -128 ≤ a) (ra : a ≤ 127) (lb_ : -128 ≤ b) (rb : b ≤ 127) : (Fq.part a b).ok 2 := by
  unfold Fq.part
  split
  · exact Fq.ok_low (nl_abs (tm_lo6 la ra) (tm_hi6 la ra)) (nl_le_iff.2 (by show (1 : Nat) < 4294967296 ^ 2; decide)) (by decide)
  · rename_i h
    exact Fq.ok_low (nl_abs (tm_lo6 la ra) (tm_hi6 la ra)) (nl_abs (tm_lo6 lb_ rb) (tm_hi6 lb_ rb)) (by omega)
theorem part_valid (a b : Int) : (Fq.part a b).valid = true := by
  unfold Fq.part
  split
  · exact low_valid (by decide)
  · rename_i h
    exact low_valid (by omega)
def xFrac1X (a b : Int) : List Fq := [(Fq.ratio (a.tmod 40) 1)]
def xFrac0X (a b : Int) : List Fq := [(Fq.ratio (a.tmod 40) (b.tmod 20))]
theorem q_Frac (a b : Int) (w : World) (la : -128 ≤ a) (ra : a ≤ 127) (lb_ : -128 ≤ b) (rb : b ≤ 127) : Calls Try.prog 9 #[.agg #[.int .i8 a, .int .i8 b]] w fun e w' => RetQ w (Fq.part a b) e w' := by
  by_cases h0 : b.tmod 20 = 0
  · rw [show Fq.part a b = (Fq.ratio (a.tmod 40) 1) by simp [Fq.part, h0]]
    refine (calls_runFn (ρ := frs (xFrac1X a b) ++ [.val (.int .i8 a), .val (.int .i8 b), .val (.int .i8 (b.tmod 20)), .val (.int .i64 (b.tmod 20)), .val (.int .i8 (a.tmod 40)), .val (.int .i64 (a.tmod 40))]) (w := w) (fuel := 300) (args := [.agg [.ref 3, .ref 4]]) (vs := [.agg #[.int .i8 a, .int .i8 b]]) (r := .v (fr 0))
      (il_cons (I_rRatio (k := 0) (lv_r (n := 8) rfl) (lv_i rfl) (tm_lo6 la ra) (tm_hi6 la ra) (by decide) (by decide) (by decide) rfl) il_nil)
      (ol_cons (o_rem (n := 4) (m := 5) (c := 20) (t := 22) rfl rfl lb_ rb (by decide) (by decide)) (ol_cons (o_conv (n := 5) (m := 6) (s := 22) (d := 2) (by kernel_rfl) (by kernel_rfl) rfl rfl (tm_lo lb_ rb) (tm_hi lb_ rb)) (ol_cons (o_eql (n := 6) (c := 0) (t := 2) rfl (eq_eql h0)) (ol_cons (o_rem (n := 3) (m := 7) (c := 40) (t := 22) rfl rfl la ra (by decide) (by decide)) (ol_cons (o_conv (n := 7) (m := 8) (s := 22) (d := 2) (by kernel_rfl) (by kernel_rfl) rfl rfl (tm_lo la ra) (tm_hi la ra)) (ol_nil)))))) (by kernel_rfl) Try.func9 (by kernel_rfl) ⟨⟨[_, _], rfl, lr8 rfl _ _, lr8 rfl _ _, trivial⟩, trivial⟩).mono ?_
    rintro e w' ⟨v, rfl, h1, h2⟩
    exact ⟨v, rfl, (fr_isQ (xs := xFrac1X a b) (k := 0) rfl).1 h1, h2⟩
  · rw [show Fq.part a b = (Fq.ratio (a.tmod 40) (b.tmod 20)) by simp [Fq.part, h0]]
    refine (calls_runFn (ρ := frs (xFrac0X a b) ++ [.val (.int .i8 a), .val (.int .i8 b), .val (.int .i8 (b.tmod 20)), .val (.int .i64 (b.tmod 20)), .val (.int .i8 (a.tmod 40)), .val (.int .i64 (a.tmod 40))]) (w := w) (fuel := 300) (args := [.agg [.ref 3, .ref 4]]) (vs := [.agg #[.int .i8 a, .int .i8 b]]) (r := .v (fr 0))
      (il_cons (I_rRatio (k := 0) (lv_r (n := 8) rfl) (lv_r (n := 6) rfl) (tm_lo6 la ra) (tm_hi6 la ra) (tm_lo6 lb_ rb) (tm_hi6 lb_ rb) h0 rfl) il_nil)
      (ol_cons (o_rem (n := 4) (m := 5) (c := 20) (t := 22) rfl rfl lb_ rb (by decide) (by decide)) (ol_cons (o_conv (n := 5) (m := 6) (s := 22) (d := 2) (by kernel_rfl) (by kernel_rfl) rfl rfl (tm_lo lb_ rb) (tm_hi lb_ rb)) (ol_cons (o_eql (n := 6) (c := 0) (t := 2) rfl (ne_eql h0)) (ol_cons (o_rem (n := 3) (m := 7) (c := 40) (t := 22) rfl rfl la ra (by decide) (by decide)) (ol_cons (o_conv (n := 7) (m := 8) (s := 22) (d := 2) (by kernel_rfl) (by kernel_rfl) rfl rfl (tm_lo la ra) (tm_hi la ra)) (ol_nil)))))) (by kernel_rfl) Try.func9 (by kernel_rfl) ⟨⟨[_, _], rfl, lr8 rfl _ _, lr8 rfl _ _, trivial⟩, trivial⟩).mono ?_
    rintro e w' ⟨v, rfl, h1, h2⟩
    exact ⟨v, rfl, (fr_isQ (xs := xFrac0X a b) (k := 0) rfl).1 h1, h2⟩
theorem I_Frac {xs : List Fq} {ys : Rho} {n m k : Nat} {a b : Int} {x : Fq} (hn : (frs xs ++ ys)[n]? = some (.val (.int .i8 a))) (hm : (frs xs ++ ys)[m]? = some (.val (.int .i8 b))) (hk : xs[k]? = some x) (e : Fq.part a b = x) (la : -128 ≤ a) (ra : a ≤ 127) (lb_ : -128 ≤ b) (rb : b ≤ 127) : OkI xs ys ⟨9, [.agg [.ref n, .ref m]], .v (fr k)⟩ :=
  ⟨enters Try.func9 rfl rfl, fun B w vs h => by
    match vs, h with
    | [va], h =>
      have e1 := (ints_holds (ns := [n, m]) (zs := [a, b]) ⟨hn, hm, trivial⟩).1 h.1
      subst e1; subst e
      refine (q_Frac a b w la ra lb_ rb).mono ?_
      rintro e w' ⟨v, rfl, h1, h2⟩
      exact ⟨v, rfl, (fr_isQ hk).2 h1, h2⟩⟩
def xQuat0X (a0 b0 a1 b1 a2 b2 a3 b3 : Int) : List Fq := [(Fq.part a0 b0), (Fq.part a1 b1), (Fq.part a2 b2), (Fq.part a3 b3), Qq.zero.w, Qq.zero.x, Qq.zero.y, Qq.zero.z, Qq.id.w, Qq.id.x, Qq.id.y, Qq.id.z]
def xQuat1X (a0 b0 a1 b1 a2 b2 a3 b3 : Int) : List Fq := [(Fq.part a0 b0), (Fq.part a1 b1), (Fq.part a2 b2), (Fq.part a3 b3), (Qq.mk (Fq.part a0 b0) (Fq.part a1 b1) (Fq.part a2 b2) (Fq.part a3 b3)).canon.w, (Qq.mk (Fq.part a0 b0) (Fq.part a1 b1) (Fq.part a2 b2) (Fq.part a3 b3)).canon.x, (Qq.mk (Fq.part a0 b0) (Fq.part a1 b1) (Fq.part a2 b2) (Fq.part a3 b3)).canon.y, (Qq.mk (Fq.part a0 b0) (Fq.part a1 b1) (Fq.part a2 b2) (Fq.part a3 b3)).canon.z]
theorem q_Quat (a0 b0 a1 b1 a2 b2 a3 b3 : Int) (w : World) (la0 : -128 ≤ a0) (ra0 : a0 ≤ 127) (lb0 : -128 ≤ b0) (rb0 : b0 ≤ 127) (la1 : -128 ≤ a1) (ra1 : a1 ≤ 127) (lb1 : -128 ≤ b1) (rb1 : b1 ≤ 127) (la2 : -128 ≤ a2) (ra2 : a2 ≤ 127) (lb2 : -128 ≤ b2) (rb2 : b2 ≤ 127) (la3 : -128 ≤ a3) (ra3 : a3 ≤ 127) (lb3 : -128 ≤ b3) (rb3 : b3 ≤ 127) : Calls Try.prog 15 #[.agg #[.int .i8 a0, .int .i8 b0, .int .i8 a1, .int .i8 b1, .int .i8 a2, .int .i8 b2, .int .i8 a3, .int .i8 b3]] w fun e w' => RetQt w (Qq.orId (Qq.mk (Fq.part a0 b0) (Fq.part a1 b1) (Fq.part a2 b2) (Fq.part a3 b3))) e w' := by
  by_cases h0 : (Qq.mk (Fq.part a0 b0) (Fq.part a1 b1) (Fq.part a2 b2) (Fq.part a3 b3)).first.p = 0
  · rw [show Qq.orId (Qq.mk (Fq.part a0 b0) (Fq.part a1 b1) (Fq.part a2 b2) (Fq.part a3 b3)) = Qq.id by unfold Qq.orId; rw [if_pos h0]]
    refine (calls_runFn (ρ := frs (xQuat0X a0 b0 a1 b1 a2 b2 a3 b3) ++ [.val (.int .i8 a0), .val (.int .i8 b0), .val (.int .i8 a1), .val (.int .i8 b1), .val (.int .i8 a2), .val (.int .i8 b2), .val (.int .i8 a3), .val (.int .i8 b3)]) (w := w) (fuel := 300) (args := [.agg [.ref 36, .ref 37, .ref 38, .ref 39, .ref 40, .ref 41, .ref 42, .ref 43]]) (vs := [.agg #[.int .i8 a0, .int .i8 b0, .int .i8 a1, .int .i8 b1, .int .i8 a2, .int .i8 b2, .int .i8 a3, .int .i8 b3]]) (r := .v (row [8, 9, 10, 11]))
      (il_cons (I_Frac (n := 36) (m := 37) (k := 0) rfl rfl rfl rfl la0 ra0 lb0 rb0) (il_cons (I_Frac (n := 38) (m := 39) (k := 1) rfl rfl rfl rfl la1 ra1 lb1 rb1) (il_cons (I_Frac (n := 40) (m := 41) (k := 2) rfl rfl rfl rfl la2 ra2 lb2 rb2) (il_cons (I_Frac (n := 42) (m := 43) (k := 3) rfl rfl rfl rfl la3 ra3 lb3 rb3) (il_cons (I_rMakeT0 (ip0 := 0) (ip1 := 1) (ip2 := 2) (ip3 := 3) (kr := [4, 5, 6, 7]) rfl rfl rfl rfl ⟨rfl, rfl, rfl, rfl, trivial⟩ ((part_ok la0 ra0 lb0 rb0).mono (by decide)) ((part_ok la1 ra1 lb1 rb1).mono (by decide)) ((part_ok la2 ra2 lb2 rb2).mono (by decide)) ((part_ok la3 ra3 lb3 rb3).mono (by decide)) h0) (il_cons (I_rId (kr := [8, 9, 10, 11]) ⟨rfl, rfl, rfl, rfl, trivial⟩) il_nil))))))
      ol_nil (by kernel_rfl) Try.func15 (by kernel_rfl) ⟨⟨[_, _, _, _, _, _, _, _], rfl, lr8 rfl _ _, lr8 rfl _ _, lr8 rfl _ _, lr8 rfl _ _, lr8 rfl _ _, lr8 rfl _ _, lr8 rfl _ _, lr8 rfl _ _, trivial⟩, trivial⟩).mono ?_
    rintro e w' ⟨v, rfl, h1, h2⟩
    exact ⟨v, rfl, (row_isL (xs := xQuat0X a0 b0 a1 b1 a2 b2 a3 b3) (ks := [8, 9, 10, 11]) (vs := [Qq.id.w, Qq.id.x, Qq.id.y, Qq.id.z]) ⟨rfl, rfl, rfl, rfl, trivial⟩).1 h1, h2⟩
  · rw [show Qq.orId (Qq.mk (Fq.part a0 b0) (Fq.part a1 b1) (Fq.part a2 b2) (Fq.part a3 b3)) = (Qq.mk (Fq.part a0 b0) (Fq.part a1 b1) (Fq.part a2 b2) (Fq.part a3 b3)).canon by unfold Qq.orId; rw [if_neg h0]]
    refine (calls_runFn (ρ := frs (xQuat1X a0 b0 a1 b1 a2 b2 a3 b3) ++ [.val (.int .i8 a0), .val (.int .i8 b0), .val (.int .i8 a1), .val (.int .i8 b1), .val (.int .i8 a2), .val (.int .i8 b2), .val (.int .i8 a3), .val (.int .i8 b3)]) (w := w) (fuel := 300) (args := [.agg [.ref 24, .ref 25, .ref 26, .ref 27, .ref 28, .ref 29, .ref 30, .ref 31]]) (vs := [.agg #[.int .i8 a0, .int .i8 b0, .int .i8 a1, .int .i8 b1, .int .i8 a2, .int .i8 b2, .int .i8 a3, .int .i8 b3]]) (r := .v (row [4, 5, 6, 7]))
      (il_cons (I_Frac (n := 24) (m := 25) (k := 0) rfl rfl rfl rfl la0 ra0 lb0 rb0) (il_cons (I_Frac (n := 26) (m := 27) (k := 1) rfl rfl rfl rfl la1 ra1 lb1 rb1) (il_cons (I_Frac (n := 28) (m := 29) (k := 2) rfl rfl rfl rfl la2 ra2 lb2 rb2) (il_cons (I_Frac (n := 30) (m := 31) (k := 3) rfl rfl rfl rfl la3 ra3 lb3 rb3) (il_cons (I_rMakeT (ip0 := 0) (ip1 := 1) (ip2 := 2) (ip3 := 3) (kr := [4, 5, 6, 7]) rfl rfl rfl rfl ⟨rfl, rfl, rfl, rfl, trivial⟩ ((part_ok la0 ra0 lb0 rb0).mono (by decide)) ((part_ok la1 ra1 lb1 rb1).mono (by decide)) ((part_ok la2 ra2 lb2 rb2).mono (by decide)) ((part_ok la3 ra3 lb3 rb3).mono (by decide)) h0) il_nil)))))
      ol_nil (by kernel_rfl) Try.func15 (by kernel_rfl) ⟨⟨[_, _, _, _, _, _, _, _], rfl, lr8 rfl _ _, lr8 rfl _ _, lr8 rfl _ _, lr8 rfl _ _, lr8 rfl _ _, lr8 rfl _ _, lr8 rfl _ _, lr8 rfl _ _, trivial⟩, trivial⟩).mono ?_
    rintro e w' ⟨v, rfl, h1, h2⟩
    exact ⟨v, rfl, (row_isL (xs := xQuat1X a0 b0 a1 b1 a2 b2 a3 b3) (ks := [4, 5, 6, 7]) (vs := [(Qq.mk (Fq.part a0 b0) (Fq.part a1 b1) (Fq.part a2 b2) (Fq.part a3 b3)).canon.w, (Qq.mk (Fq.part a0 b0) (Fq.part a1 b1) (Fq.part a2 b2) (Fq.part a3 b3)).canon.x, (Qq.mk (Fq.part a0 b0) (Fq.part a1 b1) (Fq.part a2 b2) (Fq.part a3 b3)).canon.y, (Qq.mk (Fq.part a0 b0) (Fq.part a1 b1) (Fq.part a2 b2) (Fq.part a3 b3)).canon.z]) ⟨rfl, rfl, rfl, rfl, trivial⟩).1 h1, h2⟩
theorem I_Quat {xs : List Fq} {ys : Rho} {ns kr : List Nat} {a0 b0 a1 b1 a2 b2 a3 b3 : Int} {E : Qq} (hn : AtI (frs xs ++ ys) ns [a0, b0, a1, b1, a2, b2, a3, b3]) (ar : AtL xs kr [E.w, E.x, E.y, E.z]) (e : (Qq.orId (Qq.mk (Fq.part a0 b0) (Fq.part a1 b1) (Fq.part a2 b2) (Fq.part a3 b3))) = E) (la0 : -128 ≤ a0) (ra0 : a0 ≤ 127) (lb0 : -128 ≤ b0) (rb0 : b0 ≤ 127) (la1 : -128 ≤ a1) (ra1 : a1 ≤ 127) (lb1 : -128 ≤ b1) (rb1 : b1 ≤ 127) (la2 : -128 ≤ a2) (ra2 : a2 ≤ 127) (lb2 : -128 ≤ b2) (rb2 : b2 ≤ 127) (la3 : -128 ≤ a3) (ra3 : a3 ≤ 127) (lb3 : -128 ≤ b3) (rb3 : b3 ≤ 127) : OkI xs ys ⟨15, [intsSV ns], .v (row kr)⟩ :=
  ⟨enters Try.func15 rfl rfl, fun B w vs h => by
    match vs, h with
    | [va], h =>
      have e1 := (ints_holds hn).1 h.1
      subst e1; subst e
      refine (q_Quat a0 b0 a1 b1 a2 b2 a3 b3 w la0 ra0 lb0 rb0 la1 ra1 lb1 rb1 la2 ra2 lb2 rb2 la3 ra3 lb3 rb3).mono ?_
      rintro e w' ⟨v, rfl, h1, h2⟩
      exact ⟨v, rfl, (row_isL ar).2 h1, h2⟩⟩
def xawakeX  : List Fq := [(Fq.ofInt 1), (Fq.ofInt 0), (Qq.mk (Fq.ofInt 1) (Fq.ofInt 0) (Fq.ofInt 0) (Fq.ofInt 1)).canon.w, (Qq.mk (Fq.ofInt 1) (Fq.ofInt 0) (Fq.ofInt 0) (Fq.ofInt 1)).canon.x, (Qq.mk (Fq.ofInt 1) (Fq.ofInt 0) (Fq.ofInt 0) (Fq.ofInt 1)).canon.y, (Qq.mk (Fq.ofInt 1) (Fq.ofInt 0) (Fq.ofInt 0) (Fq.ofInt 1)).canon.z, (Vq.of 1 0 0).x, (Vq.of 1 0 0).y, (Vq.of 1 0 0).z, ((Qq.mk (Fq.ofInt 1) (Fq.ofInt 0) (Fq.ofInt 0) (Fq.ofInt 1)).canon.app (Vq.of 1 0 0)).x, ((Qq.mk (Fq.ofInt 1) (Fq.ofInt 0) (Fq.ofInt 0) (Fq.ofInt 1)).canon.app (Vq.of 1 0 0)).y, ((Qq.mk (Fq.ofInt 1) (Fq.ofInt 0) (Fq.ofInt 0) (Fq.ofInt 1)).canon.app (Vq.of 1 0 0)).z, (Vq.of 0 1 0).x, (Vq.of 0 1 0).y, (Vq.of 0 1 0).z, Qq.id.w, Qq.id.x, Qq.id.y, Qq.id.z]
theorem q_awake  (w : World)   :
    Calls Try.prog 17 #[] w fun e w' => RetV w (.bool true) e w' := by
  refine (calls_runFn (ρ := frs (xawakeX ) ++ []) (w := w) (fuel := 300) (args := []) (vs := []) (r := .v (.one (.b true)))
    (il_cons (I_rInt (k := 0) rfl (by decide) (by decide)) (il_cons (I_rInt (k := 1) rfl (by decide) (by decide)) (il_cons (I_fMakeT (ip0 := 0) (ip1 := 1) (ip2 := 1) (ip3 := 0) (kr := [2, 3, 4, 5]) rfl rfl rfl rfl ⟨rfl, rfl, rfl, rfl, trivial⟩ ((ok_int (u := 1) (by decide) (by decide)).mono (by decide)) ((ok_int (u := 0) (by decide) (by decide)).mono (by decide)) ((ok_int (u := 0) (by decide) (by decide)).mono (by decide)) ((ok_int (u := 1) (by decide) (by decide)).mono (by decide)) (by decide)) (il_cons (I_rUnit0 (kr := [6, 7, 8]) ⟨rfl, rfl, rfl, trivial⟩) (il_cons (I_fApp (kq := [2, 3, 4, 5]) (q := (Qq.mk (Fq.ofInt 1) (Fq.ofInt 0) (Fq.ofInt 0) (Fq.ofInt 1)).canon) (ka := [6, 7, 8]) (a := (Vq.of 1 0 0)) (kr := [9, 10, 11]) ⟨rfl, rfl, rfl, rfl, trivial⟩ ⟨rfl, rfl, rfl, trivial⟩ ⟨rfl, rfl, rfl, trivial⟩ ((canon4_ok (ok_int (u := 1) (by decide) (by decide)) (ok_int (u := 0) (by decide) (by decide)) (ok_int (u := 0) (by decide) (by decide)) (ok_int (u := 1) (by decide) (by decide)) (by decide)).mono (by decide)) ((ok_vof (by decide) (by decide) (by decide) (by decide) (by decide) (by decide)).mono (by decide)) (canon_good ⟨ofInt_valid 1, ofInt_valid 0, ofInt_valid 0, ofInt_valid 1⟩ (by decide))) (il_cons (I_rUnit1 (kr := [12, 13, 14]) ⟨rfl, rfl, rfl, trivial⟩) (il_cons (I_SameVec1 (ka := [9, 10, 11]) (a := ((Qq.mk (Fq.ofInt 1) (Fq.ofInt 0) (Fq.ofInt 0) (Fq.ofInt 1)).canon.app (Vq.of 1 0 0))) (kb := [12, 13, 14]) (b := (Vq.of 0 1 0)) ⟨rfl, rfl, rfl, trivial⟩ ⟨rfl, rfl, rfl, trivial⟩ (((canon4_ok (ok_int (u := 1) (by decide) (by decide)) (ok_int (u := 0) (by decide) (by decide)) (ok_int (u := 0) (by decide) (by decide)) (ok_int (u := 1) (by decide) (by decide)) (by decide)).app (ok_vof (by decide) (by decide) (by decide) (by decide) (by decide) (by decide)) (canon_good ⟨ofInt_valid 1, ofInt_valid 0, ofInt_valid 0, ofInt_valid 1⟩ (by decide))).mono (by decide)) ((ok_vof (by decide) (by decide) (by decide) (by decide) (by decide) (by decide)).mono (by decide)) (by kernel_rfl)) (il_cons (I_fId (kr := [15, 16, 17, 18]) ⟨rfl, rfl, rfl, rfl, trivial⟩) (il_cons (I_fValidT1 (kq := [15, 16, 17, 18]) (q := Qq.id) ⟨rfl, rfl, rfl, rfl, trivial⟩ (ok_id.mono (by decide)) id_good) il_nil)))))))))
    ol_nil (by kernel_rfl) Try.func17 (by kernel_rfl) trivial).mono ?_
  rintro e w' ⟨v, rfl, h1, h2⟩
  exact ⟨congrArg Ending.returned h1, h2⟩
theorem I_awake {xs : List Fq} {ys : Rho}      : OkI xs ys ⟨17, [], .v (.one (.b true))⟩ :=
  ⟨enters Try.func17 rfl rfl, fun B w vs h => by
    match vs, h with
    | [], h =>
      refine (q_awake w).mono ?_
      rintro e w' ⟨rfl, h2⟩
      exact ⟨_, rfl, rfl, h2⟩⟩
end Go.Proofs.Ythefidbgjgfeiaa
namespace Go.Proofs.Ythefidbgjgfeiaa
set_option linter.unusedSimpArgs false
set_option linter.unusedVariables false
set_option maxRecDepth 100000
open Go.RowKit
theorem orId_good {q : Qq} (h : q.comp) : q.orId.good := by
  unfold Qq.orId
  split
  · exact id_good
  · rename_i h0; exact canon_good h h0
theorem orId_ok {q : Qq} (h : q.ok 2) : q.orId.ok 4 := by
  unfold Qq.orId
  split
  · exact ok_id.mono (by decide)
  · rename_i h0; exact h.canon h0
end Go.Proofs.Ythefidbgjgfeiaa
namespace Go.Proofs.Ythefidbgjgfeiaa
set_option linter.unusedSimpArgs false
set_option linter.unusedVariables false
set_option maxRecDepth 100000
open Go.RowKit
open Go.ChangeShapes Go.WideShapes Go.ChangeAt Go.RowKit
theorem digits_exist (f : Nat → Nat) (hf : ∀ j, f j < 4294967296) : ∀ L, ∃ N, N < 4294967296 ^ L ∧ ∀ j, j < L → D N j = f j
  | 0 => ⟨0, by simp, fun j h => by omega⟩
  | L + 1 => by
    obtain ⟨N, h1, h2⟩ := digits_exist f hf L
    refine ⟨upd N L (f L), upd_lt (Nat.lt_of_lt_of_le h1 (Nat.pow_le_pow_right (by decide) (Nat.le_succ L))) (Nat.lt_succ_self L) (hf L), fun j hj => ?_⟩
    by_cases e : j = L
    · subst e; exact D_upd_same N j (f j) (hf j)
    · rw [D_upd_other N L (f L) j (hf L) e]; exact h2 j (by omega)
end Go.Proofs.Ythefidbgjgfeiaa
namespace Go.Proofs.Ythefidbgjgfeiaa
set_option linter.unusedSimpArgs false
set_option linter.unusedVariables false
set_option maxRecDepth 100000
open Go.RowKit
open Go.ChangeShapes Go.WideShapes Go.ChangeAt Go.RowKit
def SmallCells (cs : List Value) : Prop := ∀ u ∈ cs, ∃ z : Int, u = .int .i8 z ∧ -128 ≤ z ∧ z ≤ 127
section
variable {H : Type} {enc : TypeId × Value → H} {W : World}
theorem small_cell {fuel : Nat} {cs : List Value} {x : DataW H × List MemPlace} (h : DataW.trod enc Try.prog W 0 (fun _ => true) true fuel 22 cs = some x) (hl : cs.length = 1) : SmallCells cs := by
  match cs, hl with
  | [u], _ =>
    obtain ⟨z, g, _, hw⟩ := DataW.trod_int Try.underlying22 h
    simp only [Lit.wf, Bool.and_eq_true, decide_eq_true_eq] at hw
    have h1 : IntKind.i8.min = -128 := by decide +kernel
    have h2 : IntKind.i8.max = 127 := by decide +kernel
    intro v hv
    simp only [List.mem_singleton] at hv
    subst hv
    exact ⟨z, by simpa using g, by omega, by omega⟩
theorem small_array {t e : TypeId} {n c : Nat} (ht : Try.prog.underlying t = some (.array n e)) (hce : Try.prog.cellsOf e = c) (hct : Try.prog.cellsOf t = n * c)
    (he : ∀ fuel (cs : List Value) x, DataW.trod enc Try.prog W 0 (fun _ => true) true fuel e cs = some x → cs.length = c → SmallCells cs) {fuel : Nat} {cs : List Value} {x : DataW H × List MemPlace}
    (h : DataW.trod enc Try.prog W 0 (fun _ => true) true fuel t cs = some x) : SmallCells cs := by
  obtain ⟨xs, m, _, _, hlen, hxs, hg⟩ := DataW.trod_array ht h
  rw [hct] at hlen
  rw [hce] at hg
  intro u hu
  obtain ⟨k, hk, rfl⟩ := List.getElem_of_mem hu
  have hc0 : 0 < c := by
    rcases Nat.eq_zero_or_pos c with h | h
    · rw [h, Nat.mul_zero] at hlen; omega
    · exact h
  have hi : k / c < n := (Nat.div_lt_iff_lt_mul hc0).2 (by rw [← hlen]; exact hk)
  have h1 := hg (k / c) hi
  rw [List.getElem?_eq_getElem (by rw [hxs]; exact hi)] at h1
  have hm := Nat.div_add_mod k c
  have hj := Nat.mod_lt k hc0
  have hnc : k / c * c + c ≤ n * c := by rw [← Nat.succ_mul]; exact Nat.mul_le_mul_right c hi
  have hkc : k / c * c + k % c = k := by rw [Nat.mul_comm]; exact hm
  refine he _ _ _ h1 (by simp; omega) _ ?_
  refine List.mem_iff_getElem?.2 ⟨k % c, ?_⟩
  rw [List.getElem?_take, if_pos hj, List.getElem?_drop, hkc]
  exact List.getElem?_eq_getElem hk
theorem open_small {t : TypeId} {n : Nat} {v : Value} {d : DataW H} {p : List MemPlace} {base : Nat} (ht : ∃ k e, Try.prog.underlying t = some (.array k e)) (hn : Try.prog.cellsOf t = n)
    (he : ∀ fuel (cs : List Value) x, DataW.trod enc Try.prog W 0 (fun _ => true) true fuel t cs = some x → SmallCells cs)
    (hval : Value.okWide Try.prog W .any base t v) (h : DataW.Trod enc Try.prog W 0 (fun _ => true) true t v d p) : ∃ cs : List Value, v = .agg cs.toArray ∧ cs.length = n ∧ SmallCells cs := by
  obtain ⟨k, e, hu⟩ := ht
  unfold Value.okWide at hval
  rw [hu] at hval
  obtain ⟨cs, rfl, hcs, _⟩ := hval
  obtain ⟨fuel, hf⟩ := h
  exact ⟨cs.toList, by simp, by simp [hcs, hn], he _ _ _ (by simpa [Value.cells] using hf)⟩
theorem small_part {fuel : Nat} {cs : List Value} {x : DataW H × List MemPlace} (h : DataW.trod enc Try.prog W 0 (fun _ => true) true fuel 24 cs = some x) : SmallCells cs :=
  small_array (c := 1) (n := 2) Try.underlying24 (by kernel_rfl) (by kernel_rfl) (fun _ _ _ h hl => small_cell h hl) h
theorem small_part4 {fuel : Nat} {cs : List Value} {x : DataW H × List MemPlace} (h : DataW.trod enc Try.prog W 0 (fun _ => true) true fuel 25 cs = some x) : SmallCells cs :=
  small_array (c := 2) (n := 4) Try.underlying25 (by kernel_rfl) (by kernel_rfl) (fun _ _ _ h _ => small_part h) h
theorem open_small_part {v : Value} {d : DataW H} {p : List MemPlace} {base : Nat} (hval : Value.okWide Try.prog W .any base 24 v) (h : DataW.Trod enc Try.prog W 0 (fun _ => true) true 24 v d p) :
    ∃ z0 z1 : Int, v = .agg #[.int .i8 z0, .int .i8 z1] ∧ (-128 ≤ z0 ∧ z0 ≤ 127) ∧ (-128 ≤ z1 ∧ z1 ≤ 127) := by
  obtain ⟨cs, rfl, hl, hs⟩ := open_small (n := 2) ⟨_, _, Try.underlying24⟩ (by kernel_rfl) (fun _ _ _ h => small_part h) hval h
  match cs, hl with
  | [uz0, uz1], _ =>
    obtain ⟨z0, ez0, bz0⟩ := hs uz0 (by simp)
    obtain ⟨z1, ez1, bz1⟩ := hs uz1 (by simp)
    subst ez0 ez1
    exact ⟨z0, z1, rfl, bz0, bz1⟩
theorem open_small_part4 {v : Value} {d : DataW H} {p : List MemPlace} {base : Nat} (hval : Value.okWide Try.prog W .any base 25 v) (h : DataW.Trod enc Try.prog W 0 (fun _ => true) true 25 v d p) :
    ∃ z0 z1 z2 z3 z4 z5 z6 z7 : Int, v = .agg #[.int .i8 z0, .int .i8 z1, .int .i8 z2, .int .i8 z3, .int .i8 z4, .int .i8 z5, .int .i8 z6, .int .i8 z7] ∧ (-128 ≤ z0 ∧ z0 ≤ 127) ∧ (-128 ≤ z1 ∧ z1 ≤ 127) ∧ (-128 ≤ z2 ∧ z2 ≤ 127) ∧ (-128 ≤ z3 ∧ z3 ≤ 127) ∧ (-128 ≤ z4 ∧ z4 ≤ 127) ∧ (-128 ≤ z5 ∧ z5 ≤ 127) ∧ (-128 ≤ z6 ∧ z6 ≤ 127) ∧ (-128 ≤ z7 ∧ z7 ≤ 127) := by
  obtain ⟨cs, rfl, hl, hs⟩ := open_small (n := 8) ⟨_, _, Try.underlying25⟩ (by kernel_rfl) (fun _ _ _ h => small_part4 h) hval h
  match cs, hl with
  | [uz0, uz1, uz2, uz3, uz4, uz5, uz6, uz7], _ =>
    obtain ⟨z0, ez0, bz0⟩ := hs uz0 (by simp)
    obtain ⟨z1, ez1, bz1⟩ := hs uz1 (by simp)
    obtain ⟨z2, ez2, bz2⟩ := hs uz2 (by simp)
    obtain ⟨z3, ez3, bz3⟩ := hs uz3 (by simp)
    obtain ⟨z4, ez4, bz4⟩ := hs uz4 (by simp)
    obtain ⟨z5, ez5, bz5⟩ := hs uz5 (by simp)
    obtain ⟨z6, ez6, bz6⟩ := hs uz6 (by simp)
    obtain ⟨z7, ez7, bz7⟩ := hs uz7 (by simp)
    subst ez0 ez1 ez2 ez3 ez4 ez5 ez6 ez7
    exact ⟨z0, z1, z2, z3, z4, z5, z6, z7, rfl, bz0, bz1, bz2, bz3, bz4, bz5, bz6, bz7⟩
end
end Go.Proofs.Ythefidbgjgfeiaa
