/- Products, inverses, images, by the executor. Matrices, units, from one vector to another, by the executor. On the way, valid rotations, by the executor. What the laws of rotations are told with, by the executor. -/
import Derived.Test.YthefidbgjgfeiaaGreatP14
namespace Go.Proofs.YthefidbgjgfeiaaGreat
set_option linter.unusedSimpArgs false
set_option linter.unusedVariables false
set_option maxRecDepth 100000
open Go.RowKit
theorem Qq.ok.inv {q : Qq} {d : Nat} (h : q.ok d) (g : q.good) : q.inv.ok (d + 2 + (d + 2)) := by
  have h0 := conj_ne g
  rw [← inv_eq g.comp] at h0
  exact (Qq.ok.mk4 (h.w.mono (by omega)) (h.x.mul (ok_int (by decide) (by decide))) (h.y.mul (ok_int (by decide) (by decide))) (h.z.mul (ok_int (by decide) (by decide)))).canon h0
theorem inv_ne' {q : Qq} (g : q.good) : (Qq.mk q.w (q.axis.scale (Fq.ofInt (-1))).x (q.axis.scale (Fq.ofInt (-1))).y (q.axis.scale (Fq.ofInt (-1))).z).first.p ≠ 0 := by rw [inv_eq g.comp]; exact conj_ne g
theorem Qq.ok.mulg {p q : Qq} {d e : Nat} (h : p.ok d) (k : q.ok e) (gp : p.good) (gq : q.good) : (p.mul q).ok (44 * (d + e) + 14) := h.mul k (ham_ne gp gq)
theorem Qq.ok.dd {q : Qq} {d : Nat} (h : q.ok d) : q.dd.ok (44 * d + 7) := ((h.w.mul h.w).sub (h.axis.dot h.axis)).mono (by omega)
theorem Qq.ok.nn {q : Qq} {d : Nat} (h : q.ok d) : q.nn.ok (44 * d + 7) := ((h.w.mul h.w).add (h.axis.dot h.axis)).mono (by omega)
theorem Qq.ok.rat {q : Qq} {d : Nat} (h : q.ok d) (g : q.good) : q.rat.ok (44 * d + 9) := ((ok_int (by decide) (by decide)).div h.nn (nn_ne g)).mono (by omega)
theorem Qq.ok.ap1 {q : Qq} {a : Vq} {d e : Nat} (h : q.ok d) (k : a.ok e) : (q.ap1 a).ok (e + 44 * d + 7) := (k.scale h.dd).mono (by omega)
theorem Qq.ok.ap2 {q : Qq} {a : Vq} {d e : Nat} (h : q.ok d) (k : a.ok e) : (q.ap2 a).ok (11 * d + 10 * e + 5) := (h.axis.scale ((ok_int (by decide) (by decide)).mul (h.axis.dot k))).mono (by omega)
theorem Qq.ok.ap3 {q : Qq} {a : Vq} {d e : Nat} (h : q.ok d) (k : a.ok e) : (q.ap3 a).ok (5 * d + 4 * e + 3) := ((h.axis.cross k).scale ((ok_int (by decide) (by decide)).mul h.w)).mono (by omega)
theorem Qq.ok.app {q : Qq} {a : Vq} {d e : Nat} (h : q.ok d) (k : a.ok e) (g : q.good) : (q.app a).ok (300 * (d + e) + 100) := ((((h.ap1 k).add (h.ap2 k)).add (h.ap3 k)).scale (h.rat g)).mono (by omega)
theorem Qq.ok.app' {q : Qq} {a : Vq} {d e : Nat} (h : q.ok d) (k : a.ok e) (g : q.good) : (q.app' a).ok (300 * (d + e) + 100) := (((h.ap1 k).add ((h.ap2 k).add (h.ap3 k))).scale (h.rat g)).mono (by omega)
def xfMulTX (p : Qq) (q : Qq) : List Fq := [p.w, p.x, p.y, p.z, q.w, q.x, q.y, q.z, p.axis.x, p.axis.y, p.axis.z, q.axis.x, q.axis.y, q.axis.z, (p.w.mul q.w), (p.axis.dot q.axis), ((p.w.mul q.w).sub (p.axis.dot q.axis)), (q.axis.scale p.w).x, (q.axis.scale p.w).y, (q.axis.scale p.w).z, (p.axis.scale q.w).x, (p.axis.scale q.w).y, (p.axis.scale q.w).z, ((q.axis.scale p.w).add (p.axis.scale q.w)).x, ((q.axis.scale p.w).add (p.axis.scale q.w)).y, ((q.axis.scale p.w).add (p.axis.scale q.w)).z, (p.axis.cross q.axis).x, (p.axis.cross q.axis).y, (p.axis.cross q.axis).z, (((q.axis.scale p.w).add (p.axis.scale q.w)).add (p.axis.cross q.axis)).x, (((q.axis.scale p.w).add (p.axis.scale q.w)).add (p.axis.cross q.axis)).y, (((q.axis.scale p.w).add (p.axis.scale q.w)).add (p.axis.cross q.axis)).z, (Qq.mk ((p.w.mul q.w).sub (p.axis.dot q.axis)) (((q.axis.scale p.w).add (p.axis.scale q.w)).add (p.axis.cross q.axis)).x (((q.axis.scale p.w).add (p.axis.scale q.w)).add (p.axis.cross q.axis)).y (((q.axis.scale p.w).add (p.axis.scale q.w)).add (p.axis.cross q.axis)).z).canon.w, (Qq.mk ((p.w.mul q.w).sub (p.axis.dot q.axis)) (((q.axis.scale p.w).add (p.axis.scale q.w)).add (p.axis.cross q.axis)).x (((q.axis.scale p.w).add (p.axis.scale q.w)).add (p.axis.cross q.axis)).y (((q.axis.scale p.w).add (p.axis.scale q.w)).add (p.axis.cross q.axis)).z).canon.x, (Qq.mk ((p.w.mul q.w).sub (p.axis.dot q.axis)) (((q.axis.scale p.w).add (p.axis.scale q.w)).add (p.axis.cross q.axis)).x (((q.axis.scale p.w).add (p.axis.scale q.w)).add (p.axis.cross q.axis)).y (((q.axis.scale p.w).add (p.axis.scale q.w)).add (p.axis.cross q.axis)).z).canon.y, (Qq.mk ((p.w.mul q.w).sub (p.axis.dot q.axis)) (((q.axis.scale p.w).add (p.axis.scale q.w)).add (p.axis.cross q.axis)).x (((q.axis.scale p.w).add (p.axis.scale q.w)).add (p.axis.cross q.axis)).y (((q.axis.scale p.w).add (p.axis.scale q.w)).add (p.axis.cross q.axis)).z).canon.z]
theorem q_fMulT (vp vq : Value) (p : Qq) (q : Qq) (w : World) (ip : IsQt w vp p) (iq : IsQt w vq q) (hp : p.ok 100000) (hq : q.ok 100000) (gp : p.good) (gq : q.good) :
    Calls Tryz.prog 11 #[vp, vq] w fun e w' => RetQt w (p.mul q) e w' := by
  refine (calls_runFn (ρ := frs (xfMulTX p q) ++ []) (w := w) (fuel := 300) (args := [row [0, 1, 2, 3], row [4, 5, 6, 7]]) (vs := [vp, vq]) (r := .v (row [32, 33, 34, 35]))
    (il_cons (I_axis (kq := [0, 1, 2, 3]) (q := p) (kr := [8, 9, 10]) ⟨rfl, rfl, rfl, rfl, trivial⟩ ⟨rfl, rfl, rfl, trivial⟩ (hp.mono (by decide))) (il_cons (I_axis (kq := [4, 5, 6, 7]) (q := q) (kr := [11, 12, 13]) ⟨rfl, rfl, rfl, rfl, trivial⟩ ⟨rfl, rfl, rfl, trivial⟩ (hq.mono (by decide))) (il_cons (I_fMul (i := 0) (j := 4) (k := 14) rfl rfl rfl (hp.w.mono (by decide)) (hq.w.mono (by decide))) (il_cons (I_vDot (ka := [8, 9, 10]) (a := p.axis) (kb := [11, 12, 13]) (b := q.axis) (ir := 15) ⟨rfl, rfl, rfl, trivial⟩ ⟨rfl, rfl, rfl, trivial⟩ rfl (hp.axis.mono (by decide)) (hq.axis.mono (by decide))) (il_cons (I_fSub (i := 14) (j := 15) (k := 16) rfl rfl rfl ((hp.w.mul hq.w).mono (by decide)) ((hp.axis.dot hq.axis).mono (by decide))) (il_cons (I_vScale (ka := [11, 12, 13]) (a := q.axis) (ik := 0) (kr := [17, 18, 19]) ⟨rfl, rfl, rfl, trivial⟩ rfl ⟨rfl, rfl, rfl, trivial⟩ (hq.axis.mono (by decide)) (hp.w.mono (by decide))) (il_cons (I_vScale (ka := [8, 9, 10]) (a := p.axis) (ik := 4) (kr := [20, 21, 22]) ⟨rfl, rfl, rfl, trivial⟩ rfl ⟨rfl, rfl, rfl, trivial⟩ (hp.axis.mono (by decide)) (hq.w.mono (by decide))) (il_cons (I_vAdd (ka := [17, 18, 19]) (a := (q.axis.scale p.w)) (kb := [20, 21, 22]) (b := (p.axis.scale q.w)) (kr := [23, 24, 25]) ⟨rfl, rfl, rfl, trivial⟩ ⟨rfl, rfl, rfl, trivial⟩ ⟨rfl, rfl, rfl, trivial⟩ ((hq.axis.scale hp.w).mono (by decide)) ((hp.axis.scale hq.w).mono (by decide))) (il_cons (I_vCross (ka := [8, 9, 10]) (a := p.axis) (kb := [11, 12, 13]) (b := q.axis) (kr := [26, 27, 28]) ⟨rfl, rfl, rfl, trivial⟩ ⟨rfl, rfl, rfl, trivial⟩ ⟨rfl, rfl, rfl, trivial⟩ (hp.axis.mono (by decide)) (hq.axis.mono (by decide))) (il_cons (I_vAdd (ka := [23, 24, 25]) (a := ((q.axis.scale p.w).add (p.axis.scale q.w))) (kb := [26, 27, 28]) (b := (p.axis.cross q.axis)) (kr := [29, 30, 31]) ⟨rfl, rfl, rfl, trivial⟩ ⟨rfl, rfl, rfl, trivial⟩ ⟨rfl, rfl, rfl, trivial⟩ (((hq.axis.scale hp.w).add (hp.axis.scale hq.w)).mono (by decide)) ((hp.axis.cross hq.axis).mono (by decide))) (il_cons (I_fCanon (iu := 16) (kc := [29, 30, 31]) (c := (((q.axis.scale p.w).add (p.axis.scale q.w)).add (p.axis.cross q.axis))) (kr := [32, 33, 34, 35]) rfl ⟨rfl, rfl, rfl, trivial⟩ ⟨rfl, rfl, rfl, rfl, trivial⟩ (((hp.w.mul hq.w).sub (hp.axis.dot hq.axis)).mono (by decide)) ((((hq.axis.scale hp.w).add (hp.axis.scale hq.w)).add (hp.axis.cross hq.axis)).mono (by decide)) (ham_ne gp gq)) il_nil)))))))))))
    ol_nil (by kernel_rfl) Tryz.func11 (by kernel_rfl) ⟨(row_isL (xs := xfMulTX p q) (ks := [0, 1, 2, 3]) (vs := [p.w, p.x, p.y, p.z]) ⟨rfl, rfl, rfl, rfl, trivial⟩).2 ip, ⟨(row_isL (xs := xfMulTX p q) (ks := [4, 5, 6, 7]) (vs := [q.w, q.x, q.y, q.z]) ⟨rfl, rfl, rfl, rfl, trivial⟩).2 iq, trivial⟩⟩).mono ?_
  rintro e w' ⟨v, rfl, h1, h2⟩
  exact ⟨v, rfl, (row_isL (xs := xfMulTX p q) (ks := [32, 33, 34, 35]) (vs := [(Qq.mk ((p.w.mul q.w).sub (p.axis.dot q.axis)) (((q.axis.scale p.w).add (p.axis.scale q.w)).add (p.axis.cross q.axis)).x (((q.axis.scale p.w).add (p.axis.scale q.w)).add (p.axis.cross q.axis)).y (((q.axis.scale p.w).add (p.axis.scale q.w)).add (p.axis.cross q.axis)).z).canon.w, (Qq.mk ((p.w.mul q.w).sub (p.axis.dot q.axis)) (((q.axis.scale p.w).add (p.axis.scale q.w)).add (p.axis.cross q.axis)).x (((q.axis.scale p.w).add (p.axis.scale q.w)).add (p.axis.cross q.axis)).y (((q.axis.scale p.w).add (p.axis.scale q.w)).add (p.axis.cross q.axis)).z).canon.x, (Qq.mk ((p.w.mul q.w).sub (p.axis.dot q.axis)) (((q.axis.scale p.w).add (p.axis.scale q.w)).add (p.axis.cross q.axis)).x (((q.axis.scale p.w).add (p.axis.scale q.w)).add (p.axis.cross q.axis)).y (((q.axis.scale p.w).add (p.axis.scale q.w)).add (p.axis.cross q.axis)).z).canon.y, (Qq.mk ((p.w.mul q.w).sub (p.axis.dot q.axis)) (((q.axis.scale p.w).add (p.axis.scale q.w)).add (p.axis.cross q.axis)).x (((q.axis.scale p.w).add (p.axis.scale q.w)).add (p.axis.cross q.axis)).y (((q.axis.scale p.w).add (p.axis.scale q.w)).add (p.axis.cross q.axis)).z).canon.z]) ⟨rfl, rfl, rfl, rfl, trivial⟩).1 h1, h2⟩
theorem I_fMulT {xs : List Fq} {ys : Rho} {kp : List Nat} {kq : List Nat} {p : Qq} {q : Qq} {kr : List Nat} (ap : AtL xs kp [p.w, p.x, p.y, p.z]) (aq : AtL xs kq [q.w, q.x, q.y, q.z]) (ar : AtL xs kr [(p.mul q).w, (p.mul q).x, (p.mul q).y, (p.mul q).z]) (hp : p.ok 100000) (hq : q.ok 100000) (gp : p.good) (gq : q.good) : OkI xs ys ⟨11, [row kp, row kq], .v (row kr)⟩ :=
  ⟨enters Tryz.func11 rfl rfl, fun B w vs h => by
    match vs, h with
    | [vp, vq], h =>
      refine (q_fMulT vp vq p q w ((row_isL ap).1 h.1) ((row_isL aq).1 h.2.1) hp hq gp gq).mono ?_
      rintro e w' ⟨v, rfl, h1, h2⟩
      exact ⟨v, rfl, (row_isL ar).2 h1, h2⟩⟩
def xrMulTX (p : Qq) (q : Qq) : List Fq := [p.w, p.x, p.y, p.z, q.w, q.x, q.y, q.z, p.axis.x, p.axis.y, p.axis.z, q.axis.x, q.axis.y, q.axis.z, (p.w.mul q.w), (p.axis.dot q.axis), ((p.w.mul q.w).sub (p.axis.dot q.axis)), (q.axis.scale p.w).x, (q.axis.scale p.w).y, (q.axis.scale p.w).z, (p.axis.scale q.w).x, (p.axis.scale q.w).y, (p.axis.scale q.w).z, ((q.axis.scale p.w).add (p.axis.scale q.w)).x, ((q.axis.scale p.w).add (p.axis.scale q.w)).y, ((q.axis.scale p.w).add (p.axis.scale q.w)).z, (p.axis.cross q.axis).x, (p.axis.cross q.axis).y, (p.axis.cross q.axis).z, (((q.axis.scale p.w).add (p.axis.scale q.w)).add (p.axis.cross q.axis)).x, (((q.axis.scale p.w).add (p.axis.scale q.w)).add (p.axis.cross q.axis)).y, (((q.axis.scale p.w).add (p.axis.scale q.w)).add (p.axis.cross q.axis)).z, (Qq.mk ((p.w.mul q.w).sub (p.axis.dot q.axis)) (((q.axis.scale p.w).add (p.axis.scale q.w)).add (p.axis.cross q.axis)).x (((q.axis.scale p.w).add (p.axis.scale q.w)).add (p.axis.cross q.axis)).y (((q.axis.scale p.w).add (p.axis.scale q.w)).add (p.axis.cross q.axis)).z).canon.w, (Qq.mk ((p.w.mul q.w).sub (p.axis.dot q.axis)) (((q.axis.scale p.w).add (p.axis.scale q.w)).add (p.axis.cross q.axis)).x (((q.axis.scale p.w).add (p.axis.scale q.w)).add (p.axis.cross q.axis)).y (((q.axis.scale p.w).add (p.axis.scale q.w)).add (p.axis.cross q.axis)).z).canon.x, (Qq.mk ((p.w.mul q.w).sub (p.axis.dot q.axis)) (((q.axis.scale p.w).add (p.axis.scale q.w)).add (p.axis.cross q.axis)).x (((q.axis.scale p.w).add (p.axis.scale q.w)).add (p.axis.cross q.axis)).y (((q.axis.scale p.w).add (p.axis.scale q.w)).add (p.axis.cross q.axis)).z).canon.y, (Qq.mk ((p.w.mul q.w).sub (p.axis.dot q.axis)) (((q.axis.scale p.w).add (p.axis.scale q.w)).add (p.axis.cross q.axis)).x (((q.axis.scale p.w).add (p.axis.scale q.w)).add (p.axis.cross q.axis)).y (((q.axis.scale p.w).add (p.axis.scale q.w)).add (p.axis.cross q.axis)).z).canon.z]
theorem q_rMulT (vp vq : Value) (p : Qq) (q : Qq) (w : World) (ip : IsQt w vp p) (iq : IsQt w vq q) (hp : p.ok 100000) (hq : q.ok 100000) (gp : p.good) (gq : q.good) :
    Calls Tryz.prog 12 #[vp, vq] w fun e w' => RetQt w (p.mul q) e w' := by
  refine (calls_runFn (ρ := frs (xrMulTX p q) ++ []) (w := w) (fuel := 300) (args := [row [0, 1, 2, 3], row [4, 5, 6, 7]]) (vs := [vp, vq]) (r := .v (row [32, 33, 34, 35]))
    (il_cons (I_part (kq := [0, 1, 2, 3]) (q := p) (kr := [8, 9, 10]) ⟨rfl, rfl, rfl, rfl, trivial⟩ ⟨rfl, rfl, rfl, trivial⟩ (hp.mono (by decide))) (il_cons (I_part (kq := [4, 5, 6, 7]) (q := q) (kr := [11, 12, 13]) ⟨rfl, rfl, rfl, rfl, trivial⟩ ⟨rfl, rfl, rfl, trivial⟩ (hq.mono (by decide))) (il_cons (I_rMul (i := 0) (j := 4) (k := 14) rfl rfl rfl (hp.w.mono (by decide)) (hq.w.mono (by decide))) (il_cons (I_rDot (ka := [8, 9, 10]) (a := p.axis) (kb := [11, 12, 13]) (b := q.axis) (ir := 15) ⟨rfl, rfl, rfl, trivial⟩ ⟨rfl, rfl, rfl, trivial⟩ rfl (hp.axis.mono (by decide)) (hq.axis.mono (by decide))) (il_cons (I_rSub (i := 14) (j := 15) (k := 16) rfl rfl rfl ((hp.w.mul hq.w).mono (by decide)) ((hp.axis.dot hq.axis).mono (by decide))) (il_cons (I_rScale (ka := [11, 12, 13]) (a := q.axis) (ik := 0) (kr := [17, 18, 19]) ⟨rfl, rfl, rfl, trivial⟩ rfl ⟨rfl, rfl, rfl, trivial⟩ (hq.axis.mono (by decide)) (hp.w.mono (by decide))) (il_cons (I_rScale (ka := [8, 9, 10]) (a := p.axis) (ik := 4) (kr := [20, 21, 22]) ⟨rfl, rfl, rfl, trivial⟩ rfl ⟨rfl, rfl, rfl, trivial⟩ (hp.axis.mono (by decide)) (hq.w.mono (by decide))) (il_cons (I_rSum (ka := [17, 18, 19]) (a := (q.axis.scale p.w)) (kb := [20, 21, 22]) (b := (p.axis.scale q.w)) (kr := [23, 24, 25]) ⟨rfl, rfl, rfl, trivial⟩ ⟨rfl, rfl, rfl, trivial⟩ ⟨rfl, rfl, rfl, trivial⟩ ((hq.axis.scale hp.w).mono (by decide)) ((hp.axis.scale hq.w).mono (by decide))) (il_cons (I_rCross (ka := [8, 9, 10]) (a := p.axis) (kb := [11, 12, 13]) (b := q.axis) (kr := [26, 27, 28]) ⟨rfl, rfl, rfl, trivial⟩ ⟨rfl, rfl, rfl, trivial⟩ ⟨rfl, rfl, rfl, trivial⟩ (hp.axis.mono (by decide)) (hq.axis.mono (by decide))) (il_cons (I_rSum (ka := [23, 24, 25]) (a := ((q.axis.scale p.w).add (p.axis.scale q.w))) (kb := [26, 27, 28]) (b := (p.axis.cross q.axis)) (kr := [29, 30, 31]) ⟨rfl, rfl, rfl, trivial⟩ ⟨rfl, rfl, rfl, trivial⟩ ⟨rfl, rfl, rfl, trivial⟩ (((hq.axis.scale hp.w).add (hp.axis.scale hq.w)).mono (by decide)) ((hp.axis.cross hq.axis).mono (by decide))) (il_cons (I_rCanon (iu := 16) (kc := [29, 30, 31]) (c := (((q.axis.scale p.w).add (p.axis.scale q.w)).add (p.axis.cross q.axis))) (kr := [32, 33, 34, 35]) rfl ⟨rfl, rfl, rfl, trivial⟩ ⟨rfl, rfl, rfl, rfl, trivial⟩ (((hp.w.mul hq.w).sub (hp.axis.dot hq.axis)).mono (by decide)) ((((hq.axis.scale hp.w).add (hp.axis.scale hq.w)).add (hp.axis.cross hq.axis)).mono (by decide)) (ham_ne gp gq)) il_nil)))))))))))
    ol_nil (by kernel_rfl) Tryz.func12 (by kernel_rfl) ⟨(row_isL (xs := xrMulTX p q) (ks := [0, 1, 2, 3]) (vs := [p.w, p.x, p.y, p.z]) ⟨rfl, rfl, rfl, rfl, trivial⟩).2 ip, ⟨(row_isL (xs := xrMulTX p q) (ks := [4, 5, 6, 7]) (vs := [q.w, q.x, q.y, q.z]) ⟨rfl, rfl, rfl, rfl, trivial⟩).2 iq, trivial⟩⟩).mono ?_
  rintro e w' ⟨v, rfl, h1, h2⟩
  exact ⟨v, rfl, (row_isL (xs := xrMulTX p q) (ks := [32, 33, 34, 35]) (vs := [(Qq.mk ((p.w.mul q.w).sub (p.axis.dot q.axis)) (((q.axis.scale p.w).add (p.axis.scale q.w)).add (p.axis.cross q.axis)).x (((q.axis.scale p.w).add (p.axis.scale q.w)).add (p.axis.cross q.axis)).y (((q.axis.scale p.w).add (p.axis.scale q.w)).add (p.axis.cross q.axis)).z).canon.w, (Qq.mk ((p.w.mul q.w).sub (p.axis.dot q.axis)) (((q.axis.scale p.w).add (p.axis.scale q.w)).add (p.axis.cross q.axis)).x (((q.axis.scale p.w).add (p.axis.scale q.w)).add (p.axis.cross q.axis)).y (((q.axis.scale p.w).add (p.axis.scale q.w)).add (p.axis.cross q.axis)).z).canon.x, (Qq.mk ((p.w.mul q.w).sub (p.axis.dot q.axis)) (((q.axis.scale p.w).add (p.axis.scale q.w)).add (p.axis.cross q.axis)).x (((q.axis.scale p.w).add (p.axis.scale q.w)).add (p.axis.cross q.axis)).y (((q.axis.scale p.w).add (p.axis.scale q.w)).add (p.axis.cross q.axis)).z).canon.y, (Qq.mk ((p.w.mul q.w).sub (p.axis.dot q.axis)) (((q.axis.scale p.w).add (p.axis.scale q.w)).add (p.axis.cross q.axis)).x (((q.axis.scale p.w).add (p.axis.scale q.w)).add (p.axis.cross q.axis)).y (((q.axis.scale p.w).add (p.axis.scale q.w)).add (p.axis.cross q.axis)).z).canon.z]) ⟨rfl, rfl, rfl, rfl, trivial⟩).1 h1, h2⟩
theorem I_rMulT {xs : List Fq} {ys : Rho} {kp : List Nat} {kq : List Nat} {p : Qq} {q : Qq} {kr : List Nat} (ap : AtL xs kp [p.w, p.x, p.y, p.z]) (aq : AtL xs kq [q.w, q.x, q.y, q.z]) (ar : AtL xs kr [(p.mul q).w, (p.mul q).x, (p.mul q).y, (p.mul q).z]) (hp : p.ok 100000) (hq : q.ok 100000) (gp : p.good) (gq : q.good) : OkI xs ys ⟨12, [row kp, row kq], .v (row kr)⟩ :=
  ⟨enters Tryz.func12 rfl rfl, fun B w vs h => by
    match vs, h with
    | [vp, vq], h =>
      refine (q_rMulT vp vq p q w ((row_isL ap).1 h.1) ((row_isL aq).1 h.2.1) hp hq gp gq).mono ?_
      rintro e w' ⟨v, rfl, h1, h2⟩
      exact ⟨v, rfl, (row_isL ar).2 h1, h2⟩⟩
def xfInvTX (q : Qq) : List Fq := [q.w, q.x, q.y, q.z, q.axis.x, q.axis.y, q.axis.z, (Fq.ofInt (-1)), (q.axis.scale (Fq.ofInt (-1))).x, (q.axis.scale (Fq.ofInt (-1))).y, (q.axis.scale (Fq.ofInt (-1))).z, (Qq.mk q.w (q.axis.scale (Fq.ofInt (-1))).x (q.axis.scale (Fq.ofInt (-1))).y (q.axis.scale (Fq.ofInt (-1))).z).canon.w, (Qq.mk q.w (q.axis.scale (Fq.ofInt (-1))).x (q.axis.scale (Fq.ofInt (-1))).y (q.axis.scale (Fq.ofInt (-1))).z).canon.x, (Qq.mk q.w (q.axis.scale (Fq.ofInt (-1))).x (q.axis.scale (Fq.ofInt (-1))).y (q.axis.scale (Fq.ofInt (-1))).z).canon.y, (Qq.mk q.w (q.axis.scale (Fq.ofInt (-1))).x (q.axis.scale (Fq.ofInt (-1))).y (q.axis.scale (Fq.ofInt (-1))).z).canon.z]
theorem q_fInvT (vq : Value) (q : Qq) (w : World) (iq : IsQt w vq q) (hq : q.ok 100000) (gq : q.good) :
    Calls Tryz.prog 13 #[vq] w fun e w' => RetQt w q.inv e w' := by
  refine (calls_runFn (ρ := frs (xfInvTX q) ++ []) (w := w) (fuel := 300) (args := [row [0, 1, 2, 3]]) (vs := [vq]) (r := .v (row [11, 12, 13, 14]))
    (il_cons (I_axis (kq := [0, 1, 2, 3]) (q := q) (kr := [4, 5, 6]) ⟨rfl, rfl, rfl, rfl, trivial⟩ ⟨rfl, rfl, rfl, trivial⟩ (hq.mono (by decide))) (il_cons (I_fInt (k := 7) rfl (by decide) (by decide)) (il_cons (I_vScale (ka := [4, 5, 6]) (a := q.axis) (ik := 7) (kr := [8, 9, 10]) ⟨rfl, rfl, rfl, trivial⟩ rfl ⟨rfl, rfl, rfl, trivial⟩ (hq.axis.mono (by decide)) ((ok_int (u := -1) (by decide) (by decide)).mono (by decide))) (il_cons (I_fCanon (iu := 0) (kc := [8, 9, 10]) (c := (q.axis.scale (Fq.ofInt (-1)))) (kr := [11, 12, 13, 14]) rfl ⟨rfl, rfl, rfl, trivial⟩ ⟨rfl, rfl, rfl, rfl, trivial⟩ (hq.w.mono (by decide)) ((hq.axis.scale (ok_int (u := -1) (by decide) (by decide))).mono (by decide)) (inv_ne' gq)) il_nil))))
    ol_nil (by kernel_rfl) Tryz.func13 (by kernel_rfl) ⟨(row_isL (xs := xfInvTX q) (ks := [0, 1, 2, 3]) (vs := [q.w, q.x, q.y, q.z]) ⟨rfl, rfl, rfl, rfl, trivial⟩).2 iq, trivial⟩).mono ?_
  rintro e w' ⟨v, rfl, h1, h2⟩
  exact ⟨v, rfl, (row_isL (xs := xfInvTX q) (ks := [11, 12, 13, 14]) (vs := [(Qq.mk q.w (q.axis.scale (Fq.ofInt (-1))).x (q.axis.scale (Fq.ofInt (-1))).y (q.axis.scale (Fq.ofInt (-1))).z).canon.w, (Qq.mk q.w (q.axis.scale (Fq.ofInt (-1))).x (q.axis.scale (Fq.ofInt (-1))).y (q.axis.scale (Fq.ofInt (-1))).z).canon.x, (Qq.mk q.w (q.axis.scale (Fq.ofInt (-1))).x (q.axis.scale (Fq.ofInt (-1))).y (q.axis.scale (Fq.ofInt (-1))).z).canon.y, (Qq.mk q.w (q.axis.scale (Fq.ofInt (-1))).x (q.axis.scale (Fq.ofInt (-1))).y (q.axis.scale (Fq.ofInt (-1))).z).canon.z]) ⟨rfl, rfl, rfl, rfl, trivial⟩).1 h1, h2⟩
theorem I_fInvT {xs : List Fq} {ys : Rho} {kq : List Nat} {q : Qq} {kr : List Nat} (aq : AtL xs kq [q.w, q.x, q.y, q.z]) (ar : AtL xs kr [q.inv.w, q.inv.x, q.inv.y, q.inv.z]) (hq : q.ok 100000) (gq : q.good) : OkI xs ys ⟨13, [row kq], .v (row kr)⟩ :=
  ⟨enters Tryz.func13 rfl rfl, fun B w vs h => by
    match vs, h with
    | [vq], h =>
      refine (q_fInvT vq q w ((row_isL aq).1 h.1) hq gq).mono ?_
      rintro e w' ⟨v, rfl, h1, h2⟩
      exact ⟨v, rfl, (row_isL ar).2 h1, h2⟩⟩
def xrInvTX (q : Qq) : List Fq := [q.w, q.x, q.y, q.z, q.x.neg, q.y.neg, q.z.neg, (Qq.mk q.w (Vq.mk q.x.neg q.y.neg q.z.neg).x (Vq.mk q.x.neg q.y.neg q.z.neg).y (Vq.mk q.x.neg q.y.neg q.z.neg).z).canon.w, (Qq.mk q.w (Vq.mk q.x.neg q.y.neg q.z.neg).x (Vq.mk q.x.neg q.y.neg q.z.neg).y (Vq.mk q.x.neg q.y.neg q.z.neg).z).canon.x, (Qq.mk q.w (Vq.mk q.x.neg q.y.neg q.z.neg).x (Vq.mk q.x.neg q.y.neg q.z.neg).y (Vq.mk q.x.neg q.y.neg q.z.neg).z).canon.y, (Qq.mk q.w (Vq.mk q.x.neg q.y.neg q.z.neg).x (Vq.mk q.x.neg q.y.neg q.z.neg).y (Vq.mk q.x.neg q.y.neg q.z.neg).z).canon.z]
theorem q_rInvT (vq : Value) (q : Qq) (w : World) (iq : IsQt w vq q) (hq : q.ok 100000) (gq : q.good) :
    Calls Tryz.prog 14 #[vq] w fun e w' => RetQt w q.inv e w' := by
  rw [inv_inv' gq.comp]
  refine (calls_runFn (ρ := frs (xrInvTX q) ++ []) (w := w) (fuel := 300) (args := [row [0, 1, 2, 3]]) (vs := [vq]) (r := .v (row [7, 8, 9, 10]))
    (il_cons (I_rNeg (i := 1) (k := 4) rfl rfl (hq.x.mono (by decide))) (il_cons (I_rNeg (i := 2) (k := 5) rfl rfl (hq.y.mono (by decide))) (il_cons (I_rNeg (i := 3) (k := 6) rfl rfl (hq.z.mono (by decide))) (il_cons (I_rCanon (iu := 0) (kc := [4, 5, 6]) (c := (Vq.mk q.x.neg q.y.neg q.z.neg)) (kr := [7, 8, 9, 10]) rfl ⟨rfl, rfl, rfl, trivial⟩ ⟨rfl, rfl, rfl, rfl, trivial⟩ (hq.w.mono (by decide)) (⟨hq.x.neg.mono (by decide), hq.y.neg.mono (by decide), hq.z.neg.mono (by decide)⟩ : Vq.ok 100000000 (Vq.mk q.x.neg q.y.neg q.z.neg)) (conj_ne gq)) il_nil))))
    ol_nil (by kernel_rfl) Tryz.func14 (by kernel_rfl) ⟨(row_isL (xs := xrInvTX q) (ks := [0, 1, 2, 3]) (vs := [q.w, q.x, q.y, q.z]) ⟨rfl, rfl, rfl, rfl, trivial⟩).2 iq, trivial⟩).mono ?_
  rintro e w' ⟨v, rfl, h1, h2⟩
  exact ⟨v, rfl, (row_isL (xs := xrInvTX q) (ks := [7, 8, 9, 10]) (vs := [(Qq.mk q.w (Vq.mk q.x.neg q.y.neg q.z.neg).x (Vq.mk q.x.neg q.y.neg q.z.neg).y (Vq.mk q.x.neg q.y.neg q.z.neg).z).canon.w, (Qq.mk q.w (Vq.mk q.x.neg q.y.neg q.z.neg).x (Vq.mk q.x.neg q.y.neg q.z.neg).y (Vq.mk q.x.neg q.y.neg q.z.neg).z).canon.x, (Qq.mk q.w (Vq.mk q.x.neg q.y.neg q.z.neg).x (Vq.mk q.x.neg q.y.neg q.z.neg).y (Vq.mk q.x.neg q.y.neg q.z.neg).z).canon.y, (Qq.mk q.w (Vq.mk q.x.neg q.y.neg q.z.neg).x (Vq.mk q.x.neg q.y.neg q.z.neg).y (Vq.mk q.x.neg q.y.neg q.z.neg).z).canon.z]) ⟨rfl, rfl, rfl, rfl, trivial⟩).1 h1, h2⟩
theorem I_rInvT {xs : List Fq} {ys : Rho} {kq : List Nat} {q : Qq} {kr : List Nat} (aq : AtL xs kq [q.w, q.x, q.y, q.z]) (ar : AtL xs kr [q.inv.w, q.inv.x, q.inv.y, q.inv.z]) (hq : q.ok 100000) (gq : q.good) : OkI xs ys ⟨14, [row kq], .v (row kr)⟩ :=
  ⟨enters Tryz.func14 rfl rfl, fun B w vs h => by
    match vs, h with
    | [vq], h =>
      refine (q_rInvT vq q w ((row_isL aq).1 h.1) hq gq).mono ?_
      rintro e w' ⟨v, rfl, h1, h2⟩
      exact ⟨v, rfl, (row_isL ar).2 h1, h2⟩⟩
def xfAppX (q : Qq) (a : Vq) : List Fq := [q.w, q.x, q.y, q.z, a.x, a.y, a.z, q.axis.x, q.axis.y, q.axis.z, (q.w.mul q.w), (q.axis.dot q.axis), (Fq.ofInt 2), ((q.w.mul q.w).sub (q.axis.dot q.axis)), (a.scale ((q.w.mul q.w).sub (q.axis.dot q.axis))).x, (a.scale ((q.w.mul q.w).sub (q.axis.dot q.axis))).y, (a.scale ((q.w.mul q.w).sub (q.axis.dot q.axis))).z, (q.axis.dot a), ((Fq.ofInt 2).mul (q.axis.dot a)), (q.axis.scale ((Fq.ofInt 2).mul (q.axis.dot a))).x, (q.axis.scale ((Fq.ofInt 2).mul (q.axis.dot a))).y, (q.axis.scale ((Fq.ofInt 2).mul (q.axis.dot a))).z, ((a.scale ((q.w.mul q.w).sub (q.axis.dot q.axis))).add (q.axis.scale ((Fq.ofInt 2).mul (q.axis.dot a)))).x, ((a.scale ((q.w.mul q.w).sub (q.axis.dot q.axis))).add (q.axis.scale ((Fq.ofInt 2).mul (q.axis.dot a)))).y, ((a.scale ((q.w.mul q.w).sub (q.axis.dot q.axis))).add (q.axis.scale ((Fq.ofInt 2).mul (q.axis.dot a)))).z, (q.axis.cross a).x, (q.axis.cross a).y, (q.axis.cross a).z, ((Fq.ofInt 2).mul q.w), ((q.axis.cross a).scale ((Fq.ofInt 2).mul q.w)).x, ((q.axis.cross a).scale ((Fq.ofInt 2).mul q.w)).y, ((q.axis.cross a).scale ((Fq.ofInt 2).mul q.w)).z, (((a.scale ((q.w.mul q.w).sub (q.axis.dot q.axis))).add (q.axis.scale ((Fq.ofInt 2).mul (q.axis.dot a)))).add ((q.axis.cross a).scale ((Fq.ofInt 2).mul q.w))).x, (((a.scale ((q.w.mul q.w).sub (q.axis.dot q.axis))).add (q.axis.scale ((Fq.ofInt 2).mul (q.axis.dot a)))).add ((q.axis.cross a).scale ((Fq.ofInt 2).mul q.w))).y, (((a.scale ((q.w.mul q.w).sub (q.axis.dot q.axis))).add (q.axis.scale ((Fq.ofInt 2).mul (q.axis.dot a)))).add ((q.axis.cross a).scale ((Fq.ofInt 2).mul q.w))).z, (Fq.ofInt 1), ((q.w.mul q.w).add (q.axis.dot q.axis)), ((Fq.ofInt 1).div ((q.w.mul q.w).add (q.axis.dot q.axis))), ((((a.scale ((q.w.mul q.w).sub (q.axis.dot q.axis))).add (q.axis.scale ((Fq.ofInt 2).mul (q.axis.dot a)))).add ((q.axis.cross a).scale ((Fq.ofInt 2).mul q.w))).scale ((Fq.ofInt 1).div ((q.w.mul q.w).add (q.axis.dot q.axis)))).x, ((((a.scale ((q.w.mul q.w).sub (q.axis.dot q.axis))).add (q.axis.scale ((Fq.ofInt 2).mul (q.axis.dot a)))).add ((q.axis.cross a).scale ((Fq.ofInt 2).mul q.w))).scale ((Fq.ofInt 1).div ((q.w.mul q.w).add (q.axis.dot q.axis)))).y, ((((a.scale ((q.w.mul q.w).sub (q.axis.dot q.axis))).add (q.axis.scale ((Fq.ofInt 2).mul (q.axis.dot a)))).add ((q.axis.cross a).scale ((Fq.ofInt 2).mul q.w))).scale ((Fq.ofInt 1).div ((q.w.mul q.w).add (q.axis.dot q.axis)))).z]
theorem q_fApp (vq va : Value) (q : Qq) (a : Vq) (w : World) (iq : IsQt w vq q) (ia : IsVq w va a) (hq : q.ok 300000) (ha : a.ok 300000) (gq : q.good) :
    Calls Tryz.prog 15 #[vq, va] w fun e w' => RetVq w (q.app a) e w' := by
  refine (calls_runFn (ρ := frs (xfAppX q a) ++ []) (w := w) (fuel := 300) (args := [row [0, 1, 2, 3], row [4, 5, 6]]) (vs := [vq, va]) (r := .v (row [38, 39, 40]))
    (il_cons (I_axis (kq := [0, 1, 2, 3]) (q := q) (kr := [7, 8, 9]) ⟨rfl, rfl, rfl, rfl, trivial⟩ ⟨rfl, rfl, rfl, trivial⟩ (hq.mono (by decide))) (il_cons (I_fMul (i := 0) (j := 0) (k := 10) rfl rfl rfl (hq.w.mono (by decide)) (hq.w.mono (by decide))) (il_cons (I_vDot (ka := [7, 8, 9]) (a := q.axis) (kb := [7, 8, 9]) (b := q.axis) (ir := 11) ⟨rfl, rfl, rfl, trivial⟩ ⟨rfl, rfl, rfl, trivial⟩ rfl (hq.axis.mono (by decide)) (hq.axis.mono (by decide))) (il_cons (I_fInt (k := 12) rfl (by decide) (by decide)) (il_cons (I_fSub (i := 10) (j := 11) (k := 13) rfl rfl rfl ((hq.w.mul hq.w).mono (by decide)) ((hq.axis.dot hq.axis).mono (by decide))) (il_cons (I_vScale (ka := [4, 5, 6]) (a := a) (ik := 13) (kr := [14, 15, 16]) ⟨rfl, rfl, rfl, trivial⟩ rfl ⟨rfl, rfl, rfl, trivial⟩ (ha.mono (by decide)) (((hq.w.mul hq.w).sub (hq.axis.dot hq.axis)).mono (by decide))) (il_cons (I_vDot (ka := [7, 8, 9]) (a := q.axis) (kb := [4, 5, 6]) (b := a) (ir := 17) ⟨rfl, rfl, rfl, trivial⟩ ⟨rfl, rfl, rfl, trivial⟩ rfl (hq.axis.mono (by decide)) (ha.mono (by decide))) (il_cons (I_fMul (i := 12) (j := 17) (k := 18) rfl rfl rfl ((ok_int (u := 2) (by decide) (by decide)).mono (by decide)) ((hq.axis.dot ha).mono (by decide))) (il_cons (I_vScale (ka := [7, 8, 9]) (a := q.axis) (ik := 18) (kr := [19, 20, 21]) ⟨rfl, rfl, rfl, trivial⟩ rfl ⟨rfl, rfl, rfl, trivial⟩ (hq.axis.mono (by decide)) (((ok_int (u := 2) (by decide) (by decide)).mul (hq.axis.dot ha)).mono (by decide))) (il_cons (I_vAdd (ka := [14, 15, 16]) (a := (a.scale ((q.w.mul q.w).sub (q.axis.dot q.axis)))) (kb := [19, 20, 21]) (b := (q.axis.scale ((Fq.ofInt 2).mul (q.axis.dot a)))) (kr := [22, 23, 24]) ⟨rfl, rfl, rfl, trivial⟩ ⟨rfl, rfl, rfl, trivial⟩ ⟨rfl, rfl, rfl, trivial⟩ ((ha.scale ((hq.w.mul hq.w).sub (hq.axis.dot hq.axis))).mono (by decide)) ((hq.axis.scale ((ok_int (u := 2) (by decide) (by decide)).mul (hq.axis.dot ha))).mono (by decide))) (il_cons (I_vCross (ka := [7, 8, 9]) (a := q.axis) (kb := [4, 5, 6]) (b := a) (kr := [25, 26, 27]) ⟨rfl, rfl, rfl, trivial⟩ ⟨rfl, rfl, rfl, trivial⟩ ⟨rfl, rfl, rfl, trivial⟩ (hq.axis.mono (by decide)) (ha.mono (by decide))) (il_cons (I_fMul (i := 12) (j := 0) (k := 28) rfl rfl rfl ((ok_int (u := 2) (by decide) (by decide)).mono (by decide)) (hq.w.mono (by decide))) (il_cons (I_vScale (ka := [25, 26, 27]) (a := (q.axis.cross a)) (ik := 28) (kr := [29, 30, 31]) ⟨rfl, rfl, rfl, trivial⟩ rfl ⟨rfl, rfl, rfl, trivial⟩ ((hq.axis.cross ha).mono (by decide)) (((ok_int (u := 2) (by decide) (by decide)).mul hq.w).mono (by decide))) (il_cons (I_vAdd (ka := [22, 23, 24]) (a := ((a.scale ((q.w.mul q.w).sub (q.axis.dot q.axis))).add (q.axis.scale ((Fq.ofInt 2).mul (q.axis.dot a))))) (kb := [29, 30, 31]) (b := ((q.axis.cross a).scale ((Fq.ofInt 2).mul q.w))) (kr := [32, 33, 34]) ⟨rfl, rfl, rfl, trivial⟩ ⟨rfl, rfl, rfl, trivial⟩ ⟨rfl, rfl, rfl, trivial⟩ (((ha.scale ((hq.w.mul hq.w).sub (hq.axis.dot hq.axis))).add (hq.axis.scale ((ok_int (u := 2) (by decide) (by decide)).mul (hq.axis.dot ha)))).mono (by decide)) (((hq.axis.cross ha).scale ((ok_int (u := 2) (by decide) (by decide)).mul hq.w)).mono (by decide))) (il_cons (I_fInt (k := 35) rfl (by decide) (by decide)) (il_cons (I_fAdd (i := 10) (j := 11) (k := 36) rfl rfl rfl ((hq.w.mul hq.w).mono (by decide)) ((hq.axis.dot hq.axis).mono (by decide))) (il_cons (I_fDiv (i := 35) (j := 36) (k := 37) rfl rfl rfl ((ok_int (u := 1) (by decide) (by decide)).mono (by decide)) (((hq.w.mul hq.w).add (hq.axis.dot hq.axis)).mono (by decide)) (nn_ne gq)) (il_cons (I_vScale (ka := [32, 33, 34]) (a := (((a.scale ((q.w.mul q.w).sub (q.axis.dot q.axis))).add (q.axis.scale ((Fq.ofInt 2).mul (q.axis.dot a)))).add ((q.axis.cross a).scale ((Fq.ofInt 2).mul q.w)))) (ik := 37) (kr := [38, 39, 40]) ⟨rfl, rfl, rfl, trivial⟩ rfl ⟨rfl, rfl, rfl, trivial⟩ ((((ha.scale ((hq.w.mul hq.w).sub (hq.axis.dot hq.axis))).add (hq.axis.scale ((ok_int (u := 2) (by decide) (by decide)).mul (hq.axis.dot ha)))).add ((hq.axis.cross ha).scale ((ok_int (u := 2) (by decide) (by decide)).mul hq.w))).mono (by decide)) (((ok_int (u := 1) (by decide) (by decide)).div ((hq.w.mul hq.w).add (hq.axis.dot hq.axis)) (nn_ne gq)).mono (by decide))) il_nil))))))))))))))))))
    ol_nil (by kernel_rfl) Tryz.func15 (by kernel_rfl) ⟨(row_isL (xs := xfAppX q a) (ks := [0, 1, 2, 3]) (vs := [q.w, q.x, q.y, q.z]) ⟨rfl, rfl, rfl, rfl, trivial⟩).2 iq, ⟨(row_isL (xs := xfAppX q a) (ks := [4, 5, 6]) (vs := [a.x, a.y, a.z]) ⟨rfl, rfl, rfl, trivial⟩).2 ia, trivial⟩⟩).mono ?_
  rintro e w' ⟨v, rfl, h1, h2⟩
  exact ⟨v, rfl, (row_isL (xs := xfAppX q a) (ks := [38, 39, 40]) (vs := [((((a.scale ((q.w.mul q.w).sub (q.axis.dot q.axis))).add (q.axis.scale ((Fq.ofInt 2).mul (q.axis.dot a)))).add ((q.axis.cross a).scale ((Fq.ofInt 2).mul q.w))).scale ((Fq.ofInt 1).div ((q.w.mul q.w).add (q.axis.dot q.axis)))).x, ((((a.scale ((q.w.mul q.w).sub (q.axis.dot q.axis))).add (q.axis.scale ((Fq.ofInt 2).mul (q.axis.dot a)))).add ((q.axis.cross a).scale ((Fq.ofInt 2).mul q.w))).scale ((Fq.ofInt 1).div ((q.w.mul q.w).add (q.axis.dot q.axis)))).y, ((((a.scale ((q.w.mul q.w).sub (q.axis.dot q.axis))).add (q.axis.scale ((Fq.ofInt 2).mul (q.axis.dot a)))).add ((q.axis.cross a).scale ((Fq.ofInt 2).mul q.w))).scale ((Fq.ofInt 1).div ((q.w.mul q.w).add (q.axis.dot q.axis)))).z]) ⟨rfl, rfl, rfl, trivial⟩).1 h1, h2⟩
theorem I_fApp {xs : List Fq} {ys : Rho} {kq : List Nat} {ka : List Nat} {q : Qq} {a : Vq} {kr : List Nat} (aq : AtL xs kq [q.w, q.x, q.y, q.z]) (aa : AtL xs ka [a.x, a.y, a.z]) (ar : AtL xs kr [(q.app a).x, (q.app a).y, (q.app a).z]) (hq : q.ok 300000) (ha : a.ok 300000) (gq : q.good) : OkI xs ys ⟨15, [row kq, row ka], .v (row kr)⟩ :=
  ⟨enters Tryz.func15 rfl rfl, fun B w vs h => by
    match vs, h with
    | [vq, va], h =>
      refine (q_fApp vq va q a w ((row_isL aq).1 h.1) ((row_isL aa).1 h.2.1) hq ha gq).mono ?_
      rintro e w' ⟨v, rfl, h1, h2⟩
      exact ⟨v, rfl, (row_isL ar).2 h1, h2⟩⟩
def xrAppX (q : Qq) (a : Vq) : List Fq := [q.w, q.x, q.y, q.z, a.x, a.y, a.z, q.axis.x, q.axis.y, q.axis.z, (q.axis.dot q.axis), (q.w.mul q.w), (Fq.ofInt 2), ((q.w.mul q.w).sub (q.axis.dot q.axis)), (a.scale ((q.w.mul q.w).sub (q.axis.dot q.axis))).x, (a.scale ((q.w.mul q.w).sub (q.axis.dot q.axis))).y, (a.scale ((q.w.mul q.w).sub (q.axis.dot q.axis))).z, (q.axis.dot a), ((Fq.ofInt 2).mul (q.axis.dot a)), (q.axis.scale ((Fq.ofInt 2).mul (q.axis.dot a))).x, (q.axis.scale ((Fq.ofInt 2).mul (q.axis.dot a))).y, (q.axis.scale ((Fq.ofInt 2).mul (q.axis.dot a))).z, (q.axis.cross a).x, (q.axis.cross a).y, (q.axis.cross a).z, ((Fq.ofInt 2).mul q.w), ((q.axis.cross a).scale ((Fq.ofInt 2).mul q.w)).x, ((q.axis.cross a).scale ((Fq.ofInt 2).mul q.w)).y, ((q.axis.cross a).scale ((Fq.ofInt 2).mul q.w)).z, ((q.axis.scale ((Fq.ofInt 2).mul (q.axis.dot a))).add ((q.axis.cross a).scale ((Fq.ofInt 2).mul q.w))).x, ((q.axis.scale ((Fq.ofInt 2).mul (q.axis.dot a))).add ((q.axis.cross a).scale ((Fq.ofInt 2).mul q.w))).y, ((q.axis.scale ((Fq.ofInt 2).mul (q.axis.dot a))).add ((q.axis.cross a).scale ((Fq.ofInt 2).mul q.w))).z, ((a.scale ((q.w.mul q.w).sub (q.axis.dot q.axis))).add ((q.axis.scale ((Fq.ofInt 2).mul (q.axis.dot a))).add ((q.axis.cross a).scale ((Fq.ofInt 2).mul q.w)))).x, ((a.scale ((q.w.mul q.w).sub (q.axis.dot q.axis))).add ((q.axis.scale ((Fq.ofInt 2).mul (q.axis.dot a))).add ((q.axis.cross a).scale ((Fq.ofInt 2).mul q.w)))).y, ((a.scale ((q.w.mul q.w).sub (q.axis.dot q.axis))).add ((q.axis.scale ((Fq.ofInt 2).mul (q.axis.dot a))).add ((q.axis.cross a).scale ((Fq.ofInt 2).mul q.w)))).z, (Fq.ofInt 1), ((q.w.mul q.w).add (q.axis.dot q.axis)), ((Fq.ofInt 1).div ((q.w.mul q.w).add (q.axis.dot q.axis))), (((a.scale ((q.w.mul q.w).sub (q.axis.dot q.axis))).add ((q.axis.scale ((Fq.ofInt 2).mul (q.axis.dot a))).add ((q.axis.cross a).scale ((Fq.ofInt 2).mul q.w)))).scale ((Fq.ofInt 1).div ((q.w.mul q.w).add (q.axis.dot q.axis)))).x, (((a.scale ((q.w.mul q.w).sub (q.axis.dot q.axis))).add ((q.axis.scale ((Fq.ofInt 2).mul (q.axis.dot a))).add ((q.axis.cross a).scale ((Fq.ofInt 2).mul q.w)))).scale ((Fq.ofInt 1).div ((q.w.mul q.w).add (q.axis.dot q.axis)))).y, (((a.scale ((q.w.mul q.w).sub (q.axis.dot q.axis))).add ((q.axis.scale ((Fq.ofInt 2).mul (q.axis.dot a))).add ((q.axis.cross a).scale ((Fq.ofInt 2).mul q.w)))).scale ((Fq.ofInt 1).div ((q.w.mul q.w).add (q.axis.dot q.axis)))).z]
theorem q_rApp (vq va : Value) (q : Qq) (a : Vq) (w : World) (iq : IsQt w vq q) (ia : IsVq w va a) (hq : q.ok 300000) (ha : a.ok 300000) (gq : q.good) :
    Calls Tryz.prog 8 #[vq, va] w fun e w' => RetVq w (q.app' a) e w' := by
  refine (calls_runFn (ρ := frs (xrAppX q a) ++ []) (w := w) (fuel := 300) (args := [row [0, 1, 2, 3], row [4, 5, 6]]) (vs := [vq, va]) (r := .v (row [38, 39, 40]))
    (il_cons (I_part (kq := [0, 1, 2, 3]) (q := q) (kr := [7, 8, 9]) ⟨rfl, rfl, rfl, rfl, trivial⟩ ⟨rfl, rfl, rfl, trivial⟩ (hq.mono (by decide))) (il_cons (I_rDot (ka := [7, 8, 9]) (a := q.axis) (kb := [7, 8, 9]) (b := q.axis) (ir := 10) ⟨rfl, rfl, rfl, trivial⟩ ⟨rfl, rfl, rfl, trivial⟩ rfl (hq.axis.mono (by decide)) (hq.axis.mono (by decide))) (il_cons (I_rMul (i := 0) (j := 0) (k := 11) rfl rfl rfl (hq.w.mono (by decide)) (hq.w.mono (by decide))) (il_cons (I_rInt (k := 12) rfl (by decide) (by decide)) (il_cons (I_rSub (i := 11) (j := 10) (k := 13) rfl rfl rfl ((hq.w.mul hq.w).mono (by decide)) ((hq.axis.dot hq.axis).mono (by decide))) (il_cons (I_rScale (ka := [4, 5, 6]) (a := a) (ik := 13) (kr := [14, 15, 16]) ⟨rfl, rfl, rfl, trivial⟩ rfl ⟨rfl, rfl, rfl, trivial⟩ (ha.mono (by decide)) (((hq.w.mul hq.w).sub (hq.axis.dot hq.axis)).mono (by decide))) (il_cons (I_rDot (ka := [7, 8, 9]) (a := q.axis) (kb := [4, 5, 6]) (b := a) (ir := 17) ⟨rfl, rfl, rfl, trivial⟩ ⟨rfl, rfl, rfl, trivial⟩ rfl (hq.axis.mono (by decide)) (ha.mono (by decide))) (il_cons (I_rMul (i := 12) (j := 17) (k := 18) rfl rfl rfl ((ok_int (u := 2) (by decide) (by decide)).mono (by decide)) ((hq.axis.dot ha).mono (by decide))) (il_cons (I_rScale (ka := [7, 8, 9]) (a := q.axis) (ik := 18) (kr := [19, 20, 21]) ⟨rfl, rfl, rfl, trivial⟩ rfl ⟨rfl, rfl, rfl, trivial⟩ (hq.axis.mono (by decide)) (((ok_int (u := 2) (by decide) (by decide)).mul (hq.axis.dot ha)).mono (by decide))) (il_cons (I_rCross (ka := [7, 8, 9]) (a := q.axis) (kb := [4, 5, 6]) (b := a) (kr := [22, 23, 24]) ⟨rfl, rfl, rfl, trivial⟩ ⟨rfl, rfl, rfl, trivial⟩ ⟨rfl, rfl, rfl, trivial⟩ (hq.axis.mono (by decide)) (ha.mono (by decide))) (il_cons (I_rMul (i := 12) (j := 0) (k := 25) rfl rfl rfl ((ok_int (u := 2) (by decide) (by decide)).mono (by decide)) (hq.w.mono (by decide))) (il_cons (I_rScale (ka := [22, 23, 24]) (a := (q.axis.cross a)) (ik := 25) (kr := [26, 27, 28]) ⟨rfl, rfl, rfl, trivial⟩ rfl ⟨rfl, rfl, rfl, trivial⟩ ((hq.axis.cross ha).mono (by decide)) (((ok_int (u := 2) (by decide) (by decide)).mul hq.w).mono (by decide))) (il_cons (I_rSum (ka := [19, 20, 21]) (a := (q.axis.scale ((Fq.ofInt 2).mul (q.axis.dot a)))) (kb := [26, 27, 28]) (b := ((q.axis.cross a).scale ((Fq.ofInt 2).mul q.w))) (kr := [29, 30, 31]) ⟨rfl, rfl, rfl, trivial⟩ ⟨rfl, rfl, rfl, trivial⟩ ⟨rfl, rfl, rfl, trivial⟩ ((hq.axis.scale ((ok_int (u := 2) (by decide) (by decide)).mul (hq.axis.dot ha))).mono (by decide)) (((hq.axis.cross ha).scale ((ok_int (u := 2) (by decide) (by decide)).mul hq.w)).mono (by decide))) (il_cons (I_rSum (ka := [14, 15, 16]) (a := (a.scale ((q.w.mul q.w).sub (q.axis.dot q.axis)))) (kb := [29, 30, 31]) (b := ((q.axis.scale ((Fq.ofInt 2).mul (q.axis.dot a))).add ((q.axis.cross a).scale ((Fq.ofInt 2).mul q.w)))) (kr := [32, 33, 34]) ⟨rfl, rfl, rfl, trivial⟩ ⟨rfl, rfl, rfl, trivial⟩ ⟨rfl, rfl, rfl, trivial⟩ ((ha.scale ((hq.w.mul hq.w).sub (hq.axis.dot hq.axis))).mono (by decide)) (((hq.axis.scale ((ok_int (u := 2) (by decide) (by decide)).mul (hq.axis.dot ha))).add ((hq.axis.cross ha).scale ((ok_int (u := 2) (by decide) (by decide)).mul hq.w))).mono (by decide))) (il_cons (I_rInt (k := 35) rfl (by decide) (by decide)) (il_cons (I_rAdd (i := 11) (j := 10) (k := 36) rfl rfl rfl ((hq.w.mul hq.w).mono (by decide)) ((hq.axis.dot hq.axis).mono (by decide))) (il_cons (I_rOver (ix := 35) (id := 36) (ir := 37) rfl rfl rfl ((ok_int (u := 1) (by decide) (by decide)).mono (by decide)) (((hq.w.mul hq.w).add (hq.axis.dot hq.axis)).mono (by decide)) (nn_ne gq)) (il_cons (I_rScale (ka := [32, 33, 34]) (a := ((a.scale ((q.w.mul q.w).sub (q.axis.dot q.axis))).add ((q.axis.scale ((Fq.ofInt 2).mul (q.axis.dot a))).add ((q.axis.cross a).scale ((Fq.ofInt 2).mul q.w))))) (ik := 37) (kr := [38, 39, 40]) ⟨rfl, rfl, rfl, trivial⟩ rfl ⟨rfl, rfl, rfl, trivial⟩ (((ha.scale ((hq.w.mul hq.w).sub (hq.axis.dot hq.axis))).add ((hq.axis.scale ((ok_int (u := 2) (by decide) (by decide)).mul (hq.axis.dot ha))).add ((hq.axis.cross ha).scale ((ok_int (u := 2) (by decide) (by decide)).mul hq.w)))).mono (by decide)) (((ok_int (u := 1) (by decide) (by decide)).div ((hq.w.mul hq.w).add (hq.axis.dot hq.axis)) (nn_ne gq)).mono (by decide))) il_nil))))))))))))))))))
    ol_nil (by kernel_rfl) Tryz.func8 (by kernel_rfl) ⟨(row_isL (xs := xrAppX q a) (ks := [0, 1, 2, 3]) (vs := [q.w, q.x, q.y, q.z]) ⟨rfl, rfl, rfl, rfl, trivial⟩).2 iq, ⟨(row_isL (xs := xrAppX q a) (ks := [4, 5, 6]) (vs := [a.x, a.y, a.z]) ⟨rfl, rfl, rfl, trivial⟩).2 ia, trivial⟩⟩).mono ?_
  rintro e w' ⟨v, rfl, h1, h2⟩
  exact ⟨v, rfl, (row_isL (xs := xrAppX q a) (ks := [38, 39, 40]) (vs := [(((a.scale ((q.w.mul q.w).sub (q.axis.dot q.axis))).add ((q.axis.scale ((Fq.ofInt 2).mul (q.axis.dot a))).add ((q.axis.cross a).scale ((Fq.ofInt 2).mul q.w)))).scale ((Fq.ofInt 1).div ((q.w.mul q.w).add (q.axis.dot q.axis)))).x, (((a.scale ((q.w.mul q.w).sub (q.axis.dot q.axis))).add ((q.axis.scale ((Fq.ofInt 2).mul (q.axis.dot a))).add ((q.axis.cross a).scale ((Fq.ofInt 2).mul q.w)))).scale ((Fq.ofInt 1).div ((q.w.mul q.w).add (q.axis.dot q.axis)))).y, (((a.scale ((q.w.mul q.w).sub (q.axis.dot q.axis))).add ((q.axis.scale ((Fq.ofInt 2).mul (q.axis.dot a))).add ((q.axis.cross a).scale ((Fq.ofInt 2).mul q.w)))).scale ((Fq.ofInt 1).div ((q.w.mul q.w).add (q.axis.dot q.axis)))).z]) ⟨rfl, rfl, rfl, trivial⟩).1 h1, h2⟩
theorem I_rApp {xs : List Fq} {ys : Rho} {kq : List Nat} {ka : List Nat} {q : Qq} {a : Vq} {kr : List Nat} (aq : AtL xs kq [q.w, q.x, q.y, q.z]) (aa : AtL xs ka [a.x, a.y, a.z]) (ar : AtL xs kr [(q.app' a).x, (q.app' a).y, (q.app' a).z]) (hq : q.ok 300000) (ha : a.ok 300000) (gq : q.good) : OkI xs ys ⟨8, [row kq, row ka], .v (row kr)⟩ :=
  ⟨enters Tryz.func8 rfl rfl, fun B w vs h => by
    match vs, h with
    | [vq, va], h =>
      refine (q_rApp vq va q a w ((row_isL aq).1 h.1) ((row_isL aa).1 h.2.1) hq ha gq).mono ?_
      rintro e w' ⟨v, rfl, h1, h2⟩
      exact ⟨v, rfl, (row_isL ar).2 h1, h2⟩⟩
end Go.Proofs.YthefidbgjgfeiaaGreat
namespace Go.Proofs.YthefidbgjgfeiaaGreat
set_option linter.unusedSimpArgs false
set_option linter.unusedVariables false
set_option maxRecDepth 100000
open Go.RowKit
theorem ok_vof {x y z : Int} (l1 : -9223372036854775808 ≤ x) (r1 : x < 9223372036854775808) (l2 : -9223372036854775808 ≤ y) (r2 : y < 9223372036854775808) (l3 : -9223372036854775808 ≤ z) (r3 : z < 9223372036854775808) : (Vq.of x y z).ok 2 := ⟨ok_int l1 r1, ok_int l2 r2, ok_int l3 r3⟩
theorem good_first {q : Qq} (g : q.good) : q.first = Fq.ofInt 1 := v_inj g.comp.first (ofInt_valid 1) (by rw [g.one, v_ofInt]; rfl)
theorem good_ne {q : Qq} (g : q.good) : q.first.p ≠ 0 := by rw [good_first g]; decide
def xrUnit0X  : List Fq := [(Fq.ofInt 0), (Fq.ofInt 1)]
theorem q_rUnit0  (w : World)   :
    Calls Tryz.prog 9 #[.int .i64 (0)] w fun e w' => RetVq w (Vq.of 1 0 0) e w' := by
  refine (calls_runFn (ρ := frs (xrUnit0X ) ++ []) (w := w) (fuel := 300) (args := [.one (.i .i64 0)]) (vs := [.int .i64 (0)]) (r := .v (row [1, 0, 0]))
    (il_cons (I_rInt (k := 0) rfl (by decide) (by decide)) (il_cons (I_rInt (k := 1) rfl (by decide) (by decide)) il_nil))
    ol_nil (by kernel_rfl) Tryz.func9 (by kernel_rfl) ⟨rfl, trivial⟩).mono ?_
  rintro e w' ⟨v, rfl, h1, h2⟩
  exact ⟨v, rfl, (row_isL (xs := xrUnit0X ) (ks := [1, 0, 0]) (vs := [(Fq.ofInt 1), (Fq.ofInt 0), (Fq.ofInt 0)]) ⟨rfl, rfl, rfl, trivial⟩).1 h1, h2⟩
theorem I_rUnit0 {xs : List Fq} {ys : Rho}   {kr : List Nat}  (ar : AtL xs kr [(Vq.of 1 0 0).x, (Vq.of 1 0 0).y, (Vq.of 1 0 0).z]) : OkI xs ys ⟨9, [.one (.i .i64 0)], .v (row kr)⟩ :=
  ⟨enters Tryz.func9 rfl rfl, fun B w vs h => by
    match vs, h with
    | [vk], h =>
      have ek : vk = .int .i64 (0) := h.1
      subst ek
      refine (q_rUnit0 w).mono ?_
      rintro e w' ⟨v, rfl, h1, h2⟩
      exact ⟨v, rfl, (row_isL ar).2 h1, h2⟩⟩
def xrUnit1X  : List Fq := [(Fq.ofInt 0), (Fq.ofInt 1)]
theorem q_rUnit1  (w : World)   :
    Calls Tryz.prog 9 #[.int .i64 (1)] w fun e w' => RetVq w (Vq.of 0 1 0) e w' := by
  refine (calls_runFn (ρ := frs (xrUnit1X ) ++ []) (w := w) (fuel := 300) (args := [.one (.i .i64 1)]) (vs := [.int .i64 (1)]) (r := .v (row [0, 1, 0]))
    (il_cons (I_rInt (k := 0) rfl (by decide) (by decide)) (il_cons (I_rInt (k := 1) rfl (by decide) (by decide)) il_nil))
    ol_nil (by kernel_rfl) Tryz.func9 (by kernel_rfl) ⟨rfl, trivial⟩).mono ?_
  rintro e w' ⟨v, rfl, h1, h2⟩
  exact ⟨v, rfl, (row_isL (xs := xrUnit1X ) (ks := [0, 1, 0]) (vs := [(Fq.ofInt 0), (Fq.ofInt 1), (Fq.ofInt 0)]) ⟨rfl, rfl, rfl, trivial⟩).1 h1, h2⟩
theorem I_rUnit1 {xs : List Fq} {ys : Rho}   {kr : List Nat}  (ar : AtL xs kr [(Vq.of 0 1 0).x, (Vq.of 0 1 0).y, (Vq.of 0 1 0).z]) : OkI xs ys ⟨9, [.one (.i .i64 1)], .v (row kr)⟩ :=
  ⟨enters Tryz.func9 rfl rfl, fun B w vs h => by
    match vs, h with
    | [vk], h =>
      have ek : vk = .int .i64 (1) := h.1
      subst ek
      refine (q_rUnit1 w).mono ?_
      rintro e w' ⟨v, rfl, h1, h2⟩
      exact ⟨v, rfl, (row_isL ar).2 h1, h2⟩⟩
def xrUnit2X  : List Fq := [(Fq.ofInt 0), (Fq.ofInt 1)]
theorem q_rUnit2  (w : World)   :
    Calls Tryz.prog 9 #[.int .i64 (2)] w fun e w' => RetVq w (Vq.of 0 0 1) e w' := by
  refine (calls_runFn (ρ := frs (xrUnit2X ) ++ []) (w := w) (fuel := 300) (args := [.one (.i .i64 2)]) (vs := [.int .i64 (2)]) (r := .v (row [0, 0, 1]))
    (il_cons (I_rInt (k := 0) rfl (by decide) (by decide)) (il_cons (I_rInt (k := 1) rfl (by decide) (by decide)) il_nil))
    ol_nil (by kernel_rfl) Tryz.func9 (by kernel_rfl) ⟨rfl, trivial⟩).mono ?_
  rintro e w' ⟨v, rfl, h1, h2⟩
  exact ⟨v, rfl, (row_isL (xs := xrUnit2X ) (ks := [0, 0, 1]) (vs := [(Fq.ofInt 0), (Fq.ofInt 0), (Fq.ofInt 1)]) ⟨rfl, rfl, rfl, trivial⟩).1 h1, h2⟩
theorem I_rUnit2 {xs : List Fq} {ys : Rho}   {kr : List Nat}  (ar : AtL xs kr [(Vq.of 0 0 1).x, (Vq.of 0 0 1).y, (Vq.of 0 0 1).z]) : OkI xs ys ⟨9, [.one (.i .i64 2)], .v (row kr)⟩ :=
  ⟨enters Tryz.func9 rfl rfl, fun B w vs h => by
    match vs, h with
    | [vk], h =>
      have ek : vk = .int .i64 (2) := h.1
      subst ek
      refine (q_rUnit2 w).mono ?_
      rintro e w' ⟨v, rfl, h1, h2⟩
      exact ⟨v, rfl, (row_isL ar).2 h1, h2⟩⟩
end Go.Proofs.YthefidbgjgfeiaaGreat
namespace Go.Proofs.YthefidbgjgfeiaaGreat
set_option linter.unusedSimpArgs false
set_option linter.unusedVariables false
set_option maxRecDepth 100000
open Go.RowKit
def xfValidT1X (q : Qq) : List Fq := [q.w, q.x, q.y, q.z, (Fq.ofInt 1)]
def xfValidT11X (q : Qq) : List Fq := [q.w, q.x, q.y, q.z, (Fq.ofInt 1)]
def xfValidT12X (q : Qq) : List Fq := [q.w, q.x, q.y, q.z, (Fq.ofInt 1)]
def xfValidT13X (q : Qq) : List Fq := [q.w, q.x, q.y, q.z, (Fq.ofInt 1)]
theorem q_fValidT1 (vq : Value) (q : Qq) (w : World) (iq : IsQt w vq q) (hq : q.ok 1000000) (gq : q.good) :
    Calls Tryz.prog 52 #[vq] w fun e w' => RetV w (.bool true) e w' := by
  by_cases c0 : q.w.p = 0
  · by_cases c1 : q.x.p = 0
    · by_cases c2 : q.y.p = 0
      · by_cases c3 : q.z.p = 0
        · exact absurd (by simp [Qq.first, c0, c1, c2, c3]) (good_ne gq)
        · have e1 : q.first = q.z := by simp [Qq.first, c0, c1, c2, c3]
          refine (calls_runFn (ρ := frs (xfValidT1X q) ++ [.val (.int .i64 q.z.sgn)]) (w := w) (fuel := 300) (args := [row [0, 1, 2, 3]]) (vs := [vq]) (r := .v (.one (.b true)))
            (il_cons (I_parts (kq := [0, 1, 2, 3]) (q := q) (kr := [0, 1, 2, 3]) ⟨rfl, rfl, rfl, rfl, trivial⟩ ⟨rfl, rfl, rfl, rfl, trivial⟩ (hq.mono (by decide))) (il_cons (I_fValid (i := 0) (l := .b true) rfl (lb gq.comp.w) (hq.w.mono (by decide))) (il_cons (I_fValid (i := 1) (l := .b true) rfl (lb gq.comp.x) (hq.x.mono (by decide))) (il_cons (I_fValid (i := 2) (l := .b true) rfl (lb gq.comp.y) (hq.y.mono (by decide))) (il_cons (I_fValid (i := 3) (l := .b true) rfl (lb gq.comp.z) (hq.z.mono (by decide))) (il_cons (I_fSign (i := 0) rfl (li (sgn0 c0)) (hq.w.mono (by decide))) (il_cons (I_fSign (i := 1) rfl (li (sgn0 c1)) (hq.x.mono (by decide))) (il_cons (I_fSign (i := 2) rfl (li (sgn0 c2)) (hq.y.mono (by decide))) (il_cons (I_fSign (i := 3) rfl (lr (n := 15) rfl) (hq.z.mono (by decide))) (il_cons (I_fInt (k := 4) rfl (by decide) (by decide)) (il_cons (I_fCmp (i := 3) (j := 4) rfl rfl (li ((o_zero gq.comp.z (ofInt_valid 1)).2 (e1.symm.trans (good_first gq)))) (hq.z.mono (by decide)) ((ok_int (u := 1) (by decide) (by decide)).mono (by decide))) il_nil)))))))))))
            (ol_cons (o_neq (n := 15) (c := 0) (t := 3) rfl (sgn_nq c3)) (ol_nil)) (by kernel_rfl) Tryz.func52 (by kernel_rfl) ⟨(row_isL (xs := xfValidT1X q) (ks := [0, 1, 2, 3]) (vs := [q.w, q.x, q.y, q.z]) ⟨rfl, rfl, rfl, rfl, trivial⟩).2 iq, trivial⟩).mono ?_
          rintro e w' ⟨v, rfl, h1, h2⟩
          exact ⟨congrArg Ending.returned h1, h2⟩
      · have e1 : q.first = q.y := by simp [Qq.first, c0, c1, c2]
        refine (calls_runFn (ρ := frs (xfValidT11X q) ++ [.val (.int .i64 q.y.sgn)]) (w := w) (fuel := 300) (args := [row [0, 1, 2, 3]]) (vs := [vq]) (r := .v (.one (.b true)))
          (il_cons (I_parts (kq := [0, 1, 2, 3]) (q := q) (kr := [0, 1, 2, 3]) ⟨rfl, rfl, rfl, rfl, trivial⟩ ⟨rfl, rfl, rfl, rfl, trivial⟩ (hq.mono (by decide))) (il_cons (I_fValid (i := 0) (l := .b true) rfl (lb gq.comp.w) (hq.w.mono (by decide))) (il_cons (I_fValid (i := 1) (l := .b true) rfl (lb gq.comp.x) (hq.x.mono (by decide))) (il_cons (I_fValid (i := 2) (l := .b true) rfl (lb gq.comp.y) (hq.y.mono (by decide))) (il_cons (I_fValid (i := 3) (l := .b true) rfl (lb gq.comp.z) (hq.z.mono (by decide))) (il_cons (I_fSign (i := 0) rfl (li (sgn0 c0)) (hq.w.mono (by decide))) (il_cons (I_fSign (i := 1) rfl (li (sgn0 c1)) (hq.x.mono (by decide))) (il_cons (I_fSign (i := 2) rfl (lr (n := 15) rfl) (hq.y.mono (by decide))) (il_cons (I_fInt (k := 4) rfl (by decide) (by decide)) (il_cons (I_fCmp (i := 2) (j := 4) rfl rfl (li ((o_zero gq.comp.y (ofInt_valid 1)).2 (e1.symm.trans (good_first gq)))) (hq.y.mono (by decide)) ((ok_int (u := 1) (by decide) (by decide)).mono (by decide))) il_nil))))))))))
          (ol_cons (o_neq (n := 15) (c := 0) (t := 3) rfl (sgn_nq c2)) (ol_nil)) (by kernel_rfl) Tryz.func52 (by kernel_rfl) ⟨(row_isL (xs := xfValidT11X q) (ks := [0, 1, 2, 3]) (vs := [q.w, q.x, q.y, q.z]) ⟨rfl, rfl, rfl, rfl, trivial⟩).2 iq, trivial⟩).mono ?_
        rintro e w' ⟨v, rfl, h1, h2⟩
        exact ⟨congrArg Ending.returned h1, h2⟩
    · have e1 : q.first = q.x := by simp [Qq.first, c0, c1]
      refine (calls_runFn (ρ := frs (xfValidT12X q) ++ [.val (.int .i64 q.x.sgn)]) (w := w) (fuel := 300) (args := [row [0, 1, 2, 3]]) (vs := [vq]) (r := .v (.one (.b true)))
        (il_cons (I_parts (kq := [0, 1, 2, 3]) (q := q) (kr := [0, 1, 2, 3]) ⟨rfl, rfl, rfl, rfl, trivial⟩ ⟨rfl, rfl, rfl, rfl, trivial⟩ (hq.mono (by decide))) (il_cons (I_fValid (i := 0) (l := .b true) rfl (lb gq.comp.w) (hq.w.mono (by decide))) (il_cons (I_fValid (i := 1) (l := .b true) rfl (lb gq.comp.x) (hq.x.mono (by decide))) (il_cons (I_fValid (i := 2) (l := .b true) rfl (lb gq.comp.y) (hq.y.mono (by decide))) (il_cons (I_fValid (i := 3) (l := .b true) rfl (lb gq.comp.z) (hq.z.mono (by decide))) (il_cons (I_fSign (i := 0) rfl (li (sgn0 c0)) (hq.w.mono (by decide))) (il_cons (I_fSign (i := 1) rfl (lr (n := 15) rfl) (hq.x.mono (by decide))) (il_cons (I_fInt (k := 4) rfl (by decide) (by decide)) (il_cons (I_fCmp (i := 1) (j := 4) rfl rfl (li ((o_zero gq.comp.x (ofInt_valid 1)).2 (e1.symm.trans (good_first gq)))) (hq.x.mono (by decide)) ((ok_int (u := 1) (by decide) (by decide)).mono (by decide))) il_nil)))))))))
        (ol_cons (o_neq (n := 15) (c := 0) (t := 3) rfl (sgn_nq c1)) (ol_nil)) (by kernel_rfl) Tryz.func52 (by kernel_rfl) ⟨(row_isL (xs := xfValidT12X q) (ks := [0, 1, 2, 3]) (vs := [q.w, q.x, q.y, q.z]) ⟨rfl, rfl, rfl, rfl, trivial⟩).2 iq, trivial⟩).mono ?_
      rintro e w' ⟨v, rfl, h1, h2⟩
      exact ⟨congrArg Ending.returned h1, h2⟩
  · have e1 : q.first = q.w := by simp [Qq.first, c0]
    refine (calls_runFn (ρ := frs (xfValidT13X q) ++ [.val (.int .i64 q.w.sgn)]) (w := w) (fuel := 300) (args := [row [0, 1, 2, 3]]) (vs := [vq]) (r := .v (.one (.b true)))
      (il_cons (I_parts (kq := [0, 1, 2, 3]) (q := q) (kr := [0, 1, 2, 3]) ⟨rfl, rfl, rfl, rfl, trivial⟩ ⟨rfl, rfl, rfl, rfl, trivial⟩ (hq.mono (by decide))) (il_cons (I_fValid (i := 0) (l := .b true) rfl (lb gq.comp.w) (hq.w.mono (by decide))) (il_cons (I_fValid (i := 1) (l := .b true) rfl (lb gq.comp.x) (hq.x.mono (by decide))) (il_cons (I_fValid (i := 2) (l := .b true) rfl (lb gq.comp.y) (hq.y.mono (by decide))) (il_cons (I_fValid (i := 3) (l := .b true) rfl (lb gq.comp.z) (hq.z.mono (by decide))) (il_cons (I_fSign (i := 0) rfl (lr (n := 15) rfl) (hq.w.mono (by decide))) (il_cons (I_fInt (k := 4) rfl (by decide) (by decide)) (il_cons (I_fCmp (i := 0) (j := 4) rfl rfl (li ((o_zero gq.comp.w (ofInt_valid 1)).2 (e1.symm.trans (good_first gq)))) (hq.w.mono (by decide)) ((ok_int (u := 1) (by decide) (by decide)).mono (by decide))) il_nil))))))))
      (ol_cons (o_neq (n := 15) (c := 0) (t := 3) rfl (sgn_nq c0)) (ol_nil)) (by kernel_rfl) Tryz.func52 (by kernel_rfl) ⟨(row_isL (xs := xfValidT13X q) (ks := [0, 1, 2, 3]) (vs := [q.w, q.x, q.y, q.z]) ⟨rfl, rfl, rfl, rfl, trivial⟩).2 iq, trivial⟩).mono ?_
    rintro e w' ⟨v, rfl, h1, h2⟩
    exact ⟨congrArg Ending.returned h1, h2⟩
theorem I_fValidT1 {xs : List Fq} {ys : Rho} {kq : List Nat} {q : Qq}  (aq : AtL xs kq [q.w, q.x, q.y, q.z])  (hq : q.ok 1000000) (gq : q.good) : OkI xs ys ⟨52, [row kq], .v (.one (.b true))⟩ :=
  ⟨enters Tryz.func52 rfl rfl, fun B w vs h => by
    match vs, h with
    | [vq], h =>
      refine (q_fValidT1 vq q w ((row_isL aq).1 h.1) hq gq).mono ?_
      rintro e w' ⟨rfl, h2⟩
      exact ⟨_, rfl, rfl, h2⟩⟩
end Go.Proofs.YthefidbgjgfeiaaGreat
namespace Go.Proofs.YthefidbgjgfeiaaGreat
set_option linter.unusedSimpArgs false
set_option linter.unusedVariables false
set_option maxRecDepth 100000
open Go.RowKit
/-- A fraction of two small numbers. -/
def Fq.part (a b : Int) : Fq := Fq.ratio (a.tmod 40) (if b.tmod 20 = 0 then 1 else b.tmod 20)
def Qq.orId (q : Qq) : Qq := if q.first.p = 0 then .id else q.canon
theorem tm_abs (a c : Int) : (a.tmod c).natAbs ≤ a.natAbs := by rw [Int.natAbs_tmod]; exact Nat.mod_le _ _
theorem tm_lo {a c : Int} (l : -128 ≤ a) (r : a ≤ 127) : -128 ≤ a.tmod c := by have := tm_abs a c; omega
theorem tm_hi {a c : Int} (l : -128 ≤ a) (r : a ≤ 127) : a.tmod c ≤ 128 := by have := tm_abs a c; omega
theorem tm_lo6 {a c : Int} (l : -128 ≤ a) (r : a ≤ 127) : -9223372036854775808 ≤ a.tmod c := by have := tm_abs a c; omega
theorem tm_hi6 {a c : Int} (l : -128 ≤ a) (r : a ≤ 127) : a.tmod c < 9223372036854775808 := by have := tm_abs a c; omega
theorem flat_i8 {u : Int} : Flat (.int .i8 u) := ⟨fun _ h => by (cases h), fun _ h => by (cases h), fun _ h => by (cases h)⟩
def AtI (ρ : Rho) : List Nat → List Int → Prop
  | [], [] => True
  | n :: ns, z :: zs => ρ[n]? = some (.val (.int .i8 z)) ∧ AtI ρ ns zs
  | _, _ => False
def intsSV (ns : List Nat) : SV := .agg (ns.map .ref)
section
variable {ρ : Rho} {xs : List Fq} {ys : Rho} {n m k : Nat} {u c v : Int} {l l1 l2 : Leaf} {t s d : TypeId}
theorem eq_eql (h : u = c) : (u == c) = true := by simpa using h
theorem lr8 (hn : ρ[n]? = some (.val (.int .i8 u))) : ∀ B w, (Leaf.ref n).holds ρ B w (.int .i8 u) := fun _ _ => ⟨_, hn, rfl, flat_i8⟩
theorem ints_leaves {B : Blk} {w : World} : ∀ {ns : List Nat} {zs : List Int} {cs : List Value}, AtI ρ ns zs → (LeavesH ρ B w (ns.map .ref) cs ↔ cs = zs.map (Value.int .i8))
  | [], [], cs, _ => by
    constructor
    · intro h; match cs, h with | [], _ => rfl
    · rintro rfl; trivial
  | n :: ns, z :: zs, cs, h => by
    have ih := fun cs => ints_leaves (B := B) (w := w) (cs := cs) h.2
    constructor
    · intro hl
      match cs, hl with
      | c :: cs, hl =>
        obtain ⟨⟨s, h1, h2⟩, h3⟩ := hl
        rw [h.1] at h1; injection h1 with h1; subst h1
        rw [h2.1, (ih cs).1 h3]; rfl
      | [], hl => exact hl.elim
    · rintro rfl
      exact ⟨lr8 h.1 _ _, (ih _).2 rfl⟩
  | [], _ :: _, _, h => h.elim
  | _ :: _, [], _, h => h.elim
theorem ints_holds {B : Blk} {w : World} {x : Value} {ns : List Nat} {zs : List Int} (h : AtI ρ ns zs) : (intsSV ns).holds ρ B w x ↔ x = .agg (zs.map (Value.int .i8)).toArray := by
  constructor
  · rintro ⟨cs, rfl, h1⟩; rw [(ints_leaves h).1 h1]
  · rintro rfl; exact ⟨_, rfl, (ints_leaves h).2 rfl⟩
theorem o_rem (hn : ρ[n]? = some (.val (.int .i8 u))) (hm : ρ[m]? = some (.val (.int .i8 (u.tmod c)))) (l : -128 ≤ u) (r : u ≤ 127) (h0 : 0 < c) (h1 : c < 100) : (OIns.mk (.bin .rem t) [.one (.ref n), .one (.i .i8 c)] (.one (.ref m))).Ok Tryz.prog ρ := fun B w vs hv => by
  match vs, hv with
  | [v1, v2], hv =>
    obtain ⟨⟨s, g1, g2⟩, g3, _⟩ := hv
    rw [hn] at g1; injection g1 with g1; subst g1
    obtain ⟨rfl, _⟩ := g2
    have e : v2 = .int .i8 c := g3
    subst e
    refine ⟨.int .i8 (u.tmod c), lr8 hm B w, fun xo yo => ?_⟩
    have hc : c ≠ 0 := by omega
    simp [eqGuard, binOp, Op.intDiv, Sem.run_bind, Result.andThen, hc]
theorem o_conv (hs : (match Tryz.prog.underlying s with | some (.int .i8) => true | _ => false) = true) (hd : (match Tryz.prog.underlying d with | some (.int .i64) => true | _ => false) = true) (hn : ρ[n]? = some (.val (.int .i8 u))) (hm : ρ[m]? = some (.val (.int .i64 u))) (l : -128 ≤ u) (r : u ≤ 128) : (OIns.mk (.conv s d) [.one (.ref n)] (.one (.ref m))).Ok Tryz.prog ρ := fun B w vs hv => by
  match vs, hv with
  | [v1], hv =>
    obtain ⟨⟨z, g1, g2⟩, _⟩ := hv
    rw [hn] at g1; injection g1 with g1; subst g1
    obtain ⟨rfl, _⟩ := g2
    refine ⟨.int .i64 u, lr hm B w, ?_⟩
    have es : Tryz.prog.underlying s = some (.int .i8) := by
      split at hs
      · assumption
      · cases hs
    have ed : Tryz.prog.underlying d = some (.int .i64) := by
      split at hd
      · assumption
      · cases hd
    have hw : IntKind.i64.wrap u = u := Go.IntWalk.i64_in _ ⟨by omega, by omega⟩
    unfold convert
    rw [Sem.run_bind, run_underlying es]
    simp only [Result.andThen]
    rw [Sem.run_bind, run_underlying ed]
    simp [Result.andThen, Conv.intToInt, hw]
theorem lv_i (h : c = u) : ∀ B w x, (Leaf.i .i64 c).holds ρ B w x → x = .int .i64 u := fun _ _ x hx => by subst h; exact hx
theorem lv_r (hn : ρ[n]? = some (.val (.int .i64 u))) : ∀ B w x, (Leaf.ref n).holds ρ B w x → x = .int .i64 u := fun _ _ x ⟨s, h1, h2⟩ => by
  rw [hn] at h1; injection h1 with h1; subst h1; exact h2.1
theorem I_rRatio (h1 : ∀ B w x, l1.holds (frs xs ++ ys) B w x → x = .int .i64 v) (h2 : ∀ B w x, l2.holds (frs xs ++ ys) B w x → x = .int .i64 u) (lv : -9223372036854775808 ≤ v) (rv : v < 9223372036854775808) (lu : -9223372036854775808 ≤ u) (ru : u < 9223372036854775808) (h0 : u ≠ 0) (hk : xs[k]? = some (.ratio v u)) : OkI xs ys ⟨54, [.one l1, .one l2], .tup [fr k, .one (.i .i64 0)]⟩ :=
  ⟨enters Tryz.func54 rfl rfl, fun B w vs h => by
    match vs, h with
    | [va, vb], h =>
      have e1 := h1 B w va h.1
      have e2 := h2 B w vb h.2.1
      subst e1; subst e2
      refine (q_rRatio v u w lv rv lu ru h0).mono ?_
      rintro e w' ⟨v, rfl, h1, h2⟩
      exact ⟨_, rfl, ⟨[v, .int .i64 0], rfl, (fr_isQ hk).2 h1, rfl, trivial⟩, h2⟩⟩
end
theorem part_ok {a b : Int} (la : -128 ≤ a) (ra : a ≤ 127) (lb_ : -128 ≤ b) (rb : b ≤ 127) : (Fq.part a b).ok 2 := by
  unfold Fq.part
  split
  · exact Fq.ok_low (nl_abs (tm_lo6 la ra) (tm_hi6 la ra)) (nl_le_iff.2 (by show (1 : Nat) < 4294967296 ^ 2; decide)) (by decide)
  · rename_i h
    exact Fq.ok_low (nl_abs (tm_lo6 la ra) (tm_hi6 la ra)) (nl_abs (tm_lo6 lb_ rb) (tm_hi6 lb_ rb)) (by omega)
theorem part_valid (a b : Int) : (Fq.part a b).valid = true := by
  unfold Fq.part
  split
  · exact low_valid (by decide)
  · rename_i h
    exact low_valid (by omega)
def xFrac1X (a b : Int) : List Fq := [(Fq.ratio (a.tmod 40) 1)]
def xFrac0X (a b : Int) : List Fq := [(Fq.ratio (a.tmod 40) (b.tmod 20))]
theorem q_Frac (a b : Int) (w : World) (la : -128 ≤ a) (ra : a ≤ 127) (lb_ : -128 ≤ b) (rb : b ≤ 127) : Calls Tryz.prog 22 #[.agg #[.int .i8 a, .int .i8 b]] w fun e w' => RetQ w (Fq.part a b) e w' := by
  by_cases h0 : b.tmod 20 = 0
  · rw [show Fq.part a b = (Fq.ratio (a.tmod 40) 1) by simp [Fq.part, h0]]
    refine (calls_runFn (ρ := frs (xFrac1X a b) ++ [.val (.int .i8 a), .val (.int .i8 b), .val (.int .i8 (b.tmod 20)), .val (.int .i64 (b.tmod 20)), .val (.int .i8 (a.tmod 40)), .val (.int .i64 (a.tmod 40))]) (w := w) (fuel := 300) (args := [.agg [.ref 3, .ref 4]]) (vs := [.agg #[.int .i8 a, .int .i8 b]]) (r := .v (fr 0))
      (il_cons (I_rRatio (k := 0) (lv_r (n := 8) rfl) (lv_i rfl) (tm_lo6 la ra) (tm_hi6 la ra) (by decide) (by decide) (by decide) rfl) il_nil)
      (ol_cons (o_rem (n := 4) (m := 5) (c := 20) (t := 22) rfl rfl lb_ rb (by decide) (by decide)) (ol_cons (o_conv (n := 5) (m := 6) (s := 22) (d := 2) (by kernel_rfl) (by kernel_rfl) rfl rfl (tm_lo lb_ rb) (tm_hi lb_ rb)) (ol_cons (o_eql (n := 6) (c := 0) (t := 2) rfl (eq_eql h0)) (ol_cons (o_rem (n := 3) (m := 7) (c := 40) (t := 22) rfl rfl la ra (by decide) (by decide)) (ol_cons (o_conv (n := 7) (m := 8) (s := 22) (d := 2) (by kernel_rfl) (by kernel_rfl) rfl rfl (tm_lo la ra) (tm_hi la ra)) (ol_nil)))))) (by kernel_rfl) Tryz.func22 (by kernel_rfl) ⟨⟨[_, _], rfl, lr8 rfl _ _, lr8 rfl _ _, trivial⟩, trivial⟩).mono ?_
    rintro e w' ⟨v, rfl, h1, h2⟩
    exact ⟨v, rfl, (fr_isQ (xs := xFrac1X a b) (k := 0) rfl).1 h1, h2⟩
  · rw [show Fq.part a b = (Fq.ratio (a.tmod 40) (b.tmod 20)) by simp [Fq.part, h0]]
    refine (calls_runFn (ρ := frs (xFrac0X a b) ++ [.val (.int .i8 a), .val (.int .i8 b), .val (.int .i8 (b.tmod 20)), .val (.int .i64 (b.tmod 20)), .val (.int .i8 (a.tmod 40)), .val (.int .i64 (a.tmod 40))]) (w := w) (fuel := 300) (args := [.agg [.ref 3, .ref 4]]) (vs := [.agg #[.int .i8 a, .int .i8 b]]) (r := .v (fr 0))
      (il_cons (I_rRatio (k := 0) (lv_r (n := 8) rfl) (lv_r (n := 6) rfl) (tm_lo6 la ra) (tm_hi6 la ra) (tm_lo6 lb_ rb) (tm_hi6 lb_ rb) h0 rfl) il_nil)
      (ol_cons (o_rem (n := 4) (m := 5) (c := 20) (t := 22) rfl rfl lb_ rb (by decide) (by decide)) (ol_cons (o_conv (n := 5) (m := 6) (s := 22) (d := 2) (by kernel_rfl) (by kernel_rfl) rfl rfl (tm_lo lb_ rb) (tm_hi lb_ rb)) (ol_cons (o_eql (n := 6) (c := 0) (t := 2) rfl (ne_eql h0)) (ol_cons (o_rem (n := 3) (m := 7) (c := 40) (t := 22) rfl rfl la ra (by decide) (by decide)) (ol_cons (o_conv (n := 7) (m := 8) (s := 22) (d := 2) (by kernel_rfl) (by kernel_rfl) rfl rfl (tm_lo la ra) (tm_hi la ra)) (ol_nil)))))) (by kernel_rfl) Tryz.func22 (by kernel_rfl) ⟨⟨[_, _], rfl, lr8 rfl _ _, lr8 rfl _ _, trivial⟩, trivial⟩).mono ?_
    rintro e w' ⟨v, rfl, h1, h2⟩
    exact ⟨v, rfl, (fr_isQ (xs := xFrac0X a b) (k := 0) rfl).1 h1, h2⟩
theorem I_Frac {xs : List Fq} {ys : Rho} {n m k : Nat} {a b : Int} {x : Fq} (hn : (frs xs ++ ys)[n]? = some (.val (.int .i8 a))) (hm : (frs xs ++ ys)[m]? = some (.val (.int .i8 b))) (hk : xs[k]? = some x) (e : Fq.part a b = x) (la : -128 ≤ a) (ra : a ≤ 127) (lb_ : -128 ≤ b) (rb : b ≤ 127) : OkI xs ys ⟨22, [.agg [.ref n, .ref m]], .v (fr k)⟩ :=
  ⟨enters Tryz.func22 rfl rfl, fun B w vs h => by
    match vs, h with
    | [va], h =>
      have e1 := (ints_holds (ns := [n, m]) (zs := [a, b]) ⟨hn, hm, trivial⟩).1 h.1
      subst e1; subst e
      refine (q_Frac a b w la ra lb_ rb).mono ?_
      rintro e w' ⟨v, rfl, h1, h2⟩
      exact ⟨v, rfl, (fr_isQ hk).2 h1, h2⟩⟩
def xVecX (a0 b0 a1 b1 a2 b2 : Int) : List Fq := [(Fq.part a0 b0), (Fq.part a1 b1), (Fq.part a2 b2)]
theorem q_Vec (a0 b0 a1 b1 a2 b2 : Int) (w : World) (la0 : -128 ≤ a0) (ra0 : a0 ≤ 127) (lb0 : -128 ≤ b0) (rb0 : b0 ≤ 127) (la1 : -128 ≤ a1) (ra1 : a1 ≤ 127) (lb1 : -128 ≤ b1) (rb1 : b1 ≤ 127) (la2 : -128 ≤ a2) (ra2 : a2 ≤ 127) (lb2 : -128 ≤ b2) (rb2 : b2 ≤ 127) : Calls Tryz.prog 5 #[.agg #[.int .i8 a0, .int .i8 b0, .int .i8 a1, .int .i8 b1, .int .i8 a2, .int .i8 b2]] w fun e w' => RetVq w (Vq.mk (Fq.part a0 b0) (Fq.part a1 b1) (Fq.part a2 b2)) e w' := by
  refine (calls_runFn (ρ := frs (xVecX a0 b0 a1 b1 a2 b2) ++ [.val (.int .i8 a0), .val (.int .i8 b0), .val (.int .i8 a1), .val (.int .i8 b1), .val (.int .i8 a2), .val (.int .i8 b2)]) (w := w) (fuel := 300) (args := [.agg [.ref 9, .ref 10, .ref 11, .ref 12, .ref 13, .ref 14]]) (vs := [.agg #[.int .i8 a0, .int .i8 b0, .int .i8 a1, .int .i8 b1, .int .i8 a2, .int .i8 b2]]) (r := .v (row [0, 1, 2]))
    (il_cons (I_Frac (n := 9) (m := 10) (k := 0) rfl rfl rfl rfl la0 ra0 lb0 rb0) (il_cons (I_Frac (n := 11) (m := 12) (k := 1) rfl rfl rfl rfl la1 ra1 lb1 rb1) (il_cons (I_Frac (n := 13) (m := 14) (k := 2) rfl rfl rfl rfl la2 ra2 lb2 rb2) il_nil)))
    ol_nil (by kernel_rfl) Tryz.func5 (by kernel_rfl) ⟨⟨[_, _, _, _, _, _], rfl, lr8 rfl _ _, lr8 rfl _ _, lr8 rfl _ _, lr8 rfl _ _, lr8 rfl _ _, lr8 rfl _ _, trivial⟩, trivial⟩).mono ?_
  rintro e w' ⟨v, rfl, h1, h2⟩
  exact ⟨v, rfl, (row_isL (xs := xVecX a0 b0 a1 b1 a2 b2) (ks := [0, 1, 2]) (vs := [(Fq.part a0 b0), (Fq.part a1 b1), (Fq.part a2 b2)]) ⟨rfl, rfl, rfl, trivial⟩).1 h1, h2⟩
theorem I_Vec {xs : List Fq} {ys : Rho} {ns kr : List Nat} {a0 b0 a1 b1 a2 b2 : Int} {E : Vq} (hn : AtI (frs xs ++ ys) ns [a0, b0, a1, b1, a2, b2]) (ar : AtL xs kr [E.x, E.y, E.z]) (e : (Vq.mk (Fq.part a0 b0) (Fq.part a1 b1) (Fq.part a2 b2)) = E) (la0 : -128 ≤ a0) (ra0 : a0 ≤ 127) (lb0 : -128 ≤ b0) (rb0 : b0 ≤ 127) (la1 : -128 ≤ a1) (ra1 : a1 ≤ 127) (lb1 : -128 ≤ b1) (rb1 : b1 ≤ 127) (la2 : -128 ≤ a2) (ra2 : a2 ≤ 127) (lb2 : -128 ≤ b2) (rb2 : b2 ≤ 127) : OkI xs ys ⟨5, [intsSV ns], .v (row kr)⟩ :=
  ⟨enters Tryz.func5 rfl rfl, fun B w vs h => by
    match vs, h with
    | [va], h =>
      have e1 := (ints_holds hn).1 h.1
      subst e1; subst e
      refine (q_Vec a0 b0 a1 b1 a2 b2 w la0 ra0 lb0 rb0 la1 ra1 lb1 rb1 la2 ra2 lb2 rb2).mono ?_
      rintro e w' ⟨v, rfl, h1, h2⟩
      exact ⟨v, rfl, (row_isL ar).2 h1, h2⟩⟩
def xQuat0X (a0 b0 a1 b1 a2 b2 a3 b3 : Int) : List Fq := [(Fq.part a0 b0), (Fq.part a1 b1), (Fq.part a2 b2), (Fq.part a3 b3), Qq.zero.w, Qq.zero.x, Qq.zero.y, Qq.zero.z, Qq.id.w, Qq.id.x, Qq.id.y, Qq.id.z]
def xQuat1X (a0 b0 a1 b1 a2 b2 a3 b3 : Int) : List Fq := [(Fq.part a0 b0), (Fq.part a1 b1), (Fq.part a2 b2), (Fq.part a3 b3), (Qq.mk (Fq.part a0 b0) (Fq.part a1 b1) (Fq.part a2 b2) (Fq.part a3 b3)).canon.w, (Qq.mk (Fq.part a0 b0) (Fq.part a1 b1) (Fq.part a2 b2) (Fq.part a3 b3)).canon.x, (Qq.mk (Fq.part a0 b0) (Fq.part a1 b1) (Fq.part a2 b2) (Fq.part a3 b3)).canon.y, (Qq.mk (Fq.part a0 b0) (Fq.part a1 b1) (Fq.part a2 b2) (Fq.part a3 b3)).canon.z]
theorem q_Quat (a0 b0 a1 b1 a2 b2 a3 b3 : Int) (w : World) (la0 : -128 ≤ a0) (ra0 : a0 ≤ 127) (lb0 : -128 ≤ b0) (rb0 : b0 ≤ 127) (la1 : -128 ≤ a1) (ra1 : a1 ≤ 127) (lb1 : -128 ≤ b1) (rb1 : b1 ≤ 127) (la2 : -128 ≤ a2) (ra2 : a2 ≤ 127) (lb2 : -128 ≤ b2) (rb2 : b2 ≤ 127) (la3 : -128 ≤ a3) (ra3 : a3 ≤ 127) (lb3 : -128 ≤ b3) (rb3 : b3 ≤ 127) : Calls Tryz.prog 4 #[.agg #[.int .i8 a0, .int .i8 b0, .int .i8 a1, .int .i8 b1, .int .i8 a2, .int .i8 b2, .int .i8 a3, .int .i8 b3]] w fun e w' => RetQt w (Qq.orId (Qq.mk (Fq.part a0 b0) (Fq.part a1 b1) (Fq.part a2 b2) (Fq.part a3 b3))) e w' := by
  by_cases h0 : (Qq.mk (Fq.part a0 b0) (Fq.part a1 b1) (Fq.part a2 b2) (Fq.part a3 b3)).first.p = 0
  · rw [show Qq.orId (Qq.mk (Fq.part a0 b0) (Fq.part a1 b1) (Fq.part a2 b2) (Fq.part a3 b3)) = Qq.id by unfold Qq.orId; rw [if_pos h0]]
    refine (calls_runFn (ρ := frs (xQuat0X a0 b0 a1 b1 a2 b2 a3 b3) ++ [.val (.int .i8 a0), .val (.int .i8 b0), .val (.int .i8 a1), .val (.int .i8 b1), .val (.int .i8 a2), .val (.int .i8 b2), .val (.int .i8 a3), .val (.int .i8 b3)]) (w := w) (fuel := 300) (args := [.agg [.ref 36, .ref 37, .ref 38, .ref 39, .ref 40, .ref 41, .ref 42, .ref 43]]) (vs := [.agg #[.int .i8 a0, .int .i8 b0, .int .i8 a1, .int .i8 b1, .int .i8 a2, .int .i8 b2, .int .i8 a3, .int .i8 b3]]) (r := .v (row [8, 9, 10, 11]))
      (il_cons (I_Frac (n := 36) (m := 37) (k := 0) rfl rfl rfl rfl la0 ra0 lb0 rb0) (il_cons (I_Frac (n := 38) (m := 39) (k := 1) rfl rfl rfl rfl la1 ra1 lb1 rb1) (il_cons (I_Frac (n := 40) (m := 41) (k := 2) rfl rfl rfl rfl la2 ra2 lb2 rb2) (il_cons (I_Frac (n := 42) (m := 43) (k := 3) rfl rfl rfl rfl la3 ra3 lb3 rb3) (il_cons (I_rMakeT0 (ip0 := 0) (ip1 := 1) (ip2 := 2) (ip3 := 3) (kr := [4, 5, 6, 7]) rfl rfl rfl rfl ⟨rfl, rfl, rfl, rfl, trivial⟩ ((part_ok la0 ra0 lb0 rb0).mono (by decide)) ((part_ok la1 ra1 lb1 rb1).mono (by decide)) ((part_ok la2 ra2 lb2 rb2).mono (by decide)) ((part_ok la3 ra3 lb3 rb3).mono (by decide)) h0) (il_cons (I_rId (kr := [8, 9, 10, 11]) ⟨rfl, rfl, rfl, rfl, trivial⟩) il_nil))))))
      ol_nil (by kernel_rfl) Tryz.func4 (by kernel_rfl) ⟨⟨[_, _, _, _, _, _, _, _], rfl, lr8 rfl _ _, lr8 rfl _ _, lr8 rfl _ _, lr8 rfl _ _, lr8 rfl _ _, lr8 rfl _ _, lr8 rfl _ _, lr8 rfl _ _, trivial⟩, trivial⟩).mono ?_
    rintro e w' ⟨v, rfl, h1, h2⟩
    exact ⟨v, rfl, (row_isL (xs := xQuat0X a0 b0 a1 b1 a2 b2 a3 b3) (ks := [8, 9, 10, 11]) (vs := [Qq.id.w, Qq.id.x, Qq.id.y, Qq.id.z]) ⟨rfl, rfl, rfl, rfl, trivial⟩).1 h1, h2⟩
  · rw [show Qq.orId (Qq.mk (Fq.part a0 b0) (Fq.part a1 b1) (Fq.part a2 b2) (Fq.part a3 b3)) = (Qq.mk (Fq.part a0 b0) (Fq.part a1 b1) (Fq.part a2 b2) (Fq.part a3 b3)).canon by unfold Qq.orId; rw [if_neg h0]]
    refine (calls_runFn (ρ := frs (xQuat1X a0 b0 a1 b1 a2 b2 a3 b3) ++ [.val (.int .i8 a0), .val (.int .i8 b0), .val (.int .i8 a1), .val (.int .i8 b1), .val (.int .i8 a2), .val (.int .i8 b2), .val (.int .i8 a3), .val (.int .i8 b3)]) (w := w) (fuel := 300) (args := [.agg [.ref 24, .ref 25, .ref 26, .ref 27, .ref 28, .ref 29, .ref 30, .ref 31]]) (vs := [.agg #[.int .i8 a0, .int .i8 b0, .int .i8 a1, .int .i8 b1, .int .i8 a2, .int .i8 b2, .int .i8 a3, .int .i8 b3]]) (r := .v (row [4, 5, 6, 7]))
      (il_cons (I_Frac (n := 24) (m := 25) (k := 0) rfl rfl rfl rfl la0 ra0 lb0 rb0) (il_cons (I_Frac (n := 26) (m := 27) (k := 1) rfl rfl rfl rfl la1 ra1 lb1 rb1) (il_cons (I_Frac (n := 28) (m := 29) (k := 2) rfl rfl rfl rfl la2 ra2 lb2 rb2) (il_cons (I_Frac (n := 30) (m := 31) (k := 3) rfl rfl rfl rfl la3 ra3 lb3 rb3) (il_cons (I_rMakeT (ip0 := 0) (ip1 := 1) (ip2 := 2) (ip3 := 3) (kr := [4, 5, 6, 7]) rfl rfl rfl rfl ⟨rfl, rfl, rfl, rfl, trivial⟩ ((part_ok la0 ra0 lb0 rb0).mono (by decide)) ((part_ok la1 ra1 lb1 rb1).mono (by decide)) ((part_ok la2 ra2 lb2 rb2).mono (by decide)) ((part_ok la3 ra3 lb3 rb3).mono (by decide)) h0) il_nil)))))
      ol_nil (by kernel_rfl) Tryz.func4 (by kernel_rfl) ⟨⟨[_, _, _, _, _, _, _, _], rfl, lr8 rfl _ _, lr8 rfl _ _, lr8 rfl _ _, lr8 rfl _ _, lr8 rfl _ _, lr8 rfl _ _, lr8 rfl _ _, lr8 rfl _ _, trivial⟩, trivial⟩).mono ?_
    rintro e w' ⟨v, rfl, h1, h2⟩
    exact ⟨v, rfl, (row_isL (xs := xQuat1X a0 b0 a1 b1 a2 b2 a3 b3) (ks := [4, 5, 6, 7]) (vs := [(Qq.mk (Fq.part a0 b0) (Fq.part a1 b1) (Fq.part a2 b2) (Fq.part a3 b3)).canon.w, (Qq.mk (Fq.part a0 b0) (Fq.part a1 b1) (Fq.part a2 b2) (Fq.part a3 b3)).canon.x, (Qq.mk (Fq.part a0 b0) (Fq.part a1 b1) (Fq.part a2 b2) (Fq.part a3 b3)).canon.y, (Qq.mk (Fq.part a0 b0) (Fq.part a1 b1) (Fq.part a2 b2) (Fq.part a3 b3)).canon.z]) ⟨rfl, rfl, rfl, rfl, trivial⟩).1 h1, h2⟩
theorem I_Quat {xs : List Fq} {ys : Rho} {ns kr : List Nat} {a0 b0 a1 b1 a2 b2 a3 b3 : Int} {E : Qq} (hn : AtI (frs xs ++ ys) ns [a0, b0, a1, b1, a2, b2, a3, b3]) (ar : AtL xs kr [E.w, E.x, E.y, E.z]) (e : (Qq.orId (Qq.mk (Fq.part a0 b0) (Fq.part a1 b1) (Fq.part a2 b2) (Fq.part a3 b3))) = E) (la0 : -128 ≤ a0) (ra0 : a0 ≤ 127) (lb0 : -128 ≤ b0) (rb0 : b0 ≤ 127) (la1 : -128 ≤ a1) (ra1 : a1 ≤ 127) (lb1 : -128 ≤ b1) (rb1 : b1 ≤ 127) (la2 : -128 ≤ a2) (ra2 : a2 ≤ 127) (lb2 : -128 ≤ b2) (rb2 : b2 ≤ 127) (la3 : -128 ≤ a3) (ra3 : a3 ≤ 127) (lb3 : -128 ≤ b3) (rb3 : b3 ≤ 127) : OkI xs ys ⟨4, [intsSV ns], .v (row kr)⟩ :=
  ⟨enters Tryz.func4 rfl rfl, fun B w vs h => by
    match vs, h with
    | [va], h =>
      have e1 := (ints_holds hn).1 h.1
      subst e1; subst e
      refine (q_Quat a0 b0 a1 b1 a2 b2 a3 b3 w la0 ra0 lb0 rb0 la1 ra1 lb1 rb1 la2 ra2 lb2 rb2 la3 ra3 lb3 rb3).mono ?_
      rintro e w' ⟨v, rfl, h1, h2⟩
      exact ⟨v, rfl, (row_isL ar).2 h1, h2⟩⟩
def xawakeX  : List Fq := [(Fq.ofInt 1), (Fq.ofInt 0), (Qq.mk (Fq.ofInt 1) (Fq.ofInt 0) (Fq.ofInt 0) (Fq.ofInt 1)).canon.w, (Qq.mk (Fq.ofInt 1) (Fq.ofInt 0) (Fq.ofInt 0) (Fq.ofInt 1)).canon.x, (Qq.mk (Fq.ofInt 1) (Fq.ofInt 0) (Fq.ofInt 0) (Fq.ofInt 1)).canon.y, (Qq.mk (Fq.ofInt 1) (Fq.ofInt 0) (Fq.ofInt 0) (Fq.ofInt 1)).canon.z, (Vq.of 1 0 0).x, (Vq.of 1 0 0).y, (Vq.of 1 0 0).z, ((Qq.mk (Fq.ofInt 1) (Fq.ofInt 0) (Fq.ofInt 0) (Fq.ofInt 1)).canon.app (Vq.of 1 0 0)).x, ((Qq.mk (Fq.ofInt 1) (Fq.ofInt 0) (Fq.ofInt 0) (Fq.ofInt 1)).canon.app (Vq.of 1 0 0)).y, ((Qq.mk (Fq.ofInt 1) (Fq.ofInt 0) (Fq.ofInt 0) (Fq.ofInt 1)).canon.app (Vq.of 1 0 0)).z, (Vq.of 0 1 0).x, (Vq.of 0 1 0).y, (Vq.of 0 1 0).z, Qq.id.w, Qq.id.x, Qq.id.y, Qq.id.z]
theorem q_awake  (w : World)   :
    Calls Tryz.prog 20 #[] w fun e w' => RetV w (.bool true) e w' := by
  refine (calls_runFn (ρ := frs (xawakeX ) ++ []) (w := w) (fuel := 300) (args := []) (vs := []) (r := .v (.one (.b true)))
    (il_cons (I_rInt (k := 0) rfl (by decide) (by decide)) (il_cons (I_rInt (k := 1) rfl (by decide) (by decide)) (il_cons (I_fMakeT (ip0 := 0) (ip1 := 1) (ip2 := 1) (ip3 := 0) (kr := [2, 3, 4, 5]) rfl rfl rfl rfl ⟨rfl, rfl, rfl, rfl, trivial⟩ ((ok_int (u := 1) (by decide) (by decide)).mono (by decide)) ((ok_int (u := 0) (by decide) (by decide)).mono (by decide)) ((ok_int (u := 0) (by decide) (by decide)).mono (by decide)) ((ok_int (u := 1) (by decide) (by decide)).mono (by decide)) (by decide)) (il_cons (I_rUnit0 (kr := [6, 7, 8]) ⟨rfl, rfl, rfl, trivial⟩) (il_cons (I_fApp (kq := [2, 3, 4, 5]) (q := (Qq.mk (Fq.ofInt 1) (Fq.ofInt 0) (Fq.ofInt 0) (Fq.ofInt 1)).canon) (ka := [6, 7, 8]) (a := (Vq.of 1 0 0)) (kr := [9, 10, 11]) ⟨rfl, rfl, rfl, rfl, trivial⟩ ⟨rfl, rfl, rfl, trivial⟩ ⟨rfl, rfl, rfl, trivial⟩ ((canon4_ok (ok_int (u := 1) (by decide) (by decide)) (ok_int (u := 0) (by decide) (by decide)) (ok_int (u := 0) (by decide) (by decide)) (ok_int (u := 1) (by decide) (by decide)) (by decide)).mono (by decide)) ((ok_vof (by decide) (by decide) (by decide) (by decide) (by decide) (by decide)).mono (by decide)) (canon_good ⟨ofInt_valid 1, ofInt_valid 0, ofInt_valid 0, ofInt_valid 1⟩ (by decide))) (il_cons (I_rUnit1 (kr := [12, 13, 14]) ⟨rfl, rfl, rfl, trivial⟩) (il_cons (I_SameVec1 (ka := [9, 10, 11]) (a := ((Qq.mk (Fq.ofInt 1) (Fq.ofInt 0) (Fq.ofInt 0) (Fq.ofInt 1)).canon.app (Vq.of 1 0 0))) (kb := [12, 13, 14]) (b := (Vq.of 0 1 0)) ⟨rfl, rfl, rfl, trivial⟩ ⟨rfl, rfl, rfl, trivial⟩ (((canon4_ok (ok_int (u := 1) (by decide) (by decide)) (ok_int (u := 0) (by decide) (by decide)) (ok_int (u := 0) (by decide) (by decide)) (ok_int (u := 1) (by decide) (by decide)) (by decide)).app (ok_vof (by decide) (by decide) (by decide) (by decide) (by decide) (by decide)) (canon_good ⟨ofInt_valid 1, ofInt_valid 0, ofInt_valid 0, ofInt_valid 1⟩ (by decide))).mono (by decide)) ((ok_vof (by decide) (by decide) (by decide) (by decide) (by decide) (by decide)).mono (by decide)) (by kernel_rfl)) (il_cons (I_fId (kr := [15, 16, 17, 18]) ⟨rfl, rfl, rfl, rfl, trivial⟩) (il_cons (I_fValidT1 (kq := [15, 16, 17, 18]) (q := Qq.id) ⟨rfl, rfl, rfl, rfl, trivial⟩ (ok_id.mono (by decide)) id_good) il_nil)))))))))
    ol_nil (by kernel_rfl) Tryz.func20 (by kernel_rfl) trivial).mono ?_
  rintro e w' ⟨v, rfl, h1, h2⟩
  exact ⟨congrArg Ending.returned h1, h2⟩
theorem I_awake {xs : List Fq} {ys : Rho}      : OkI xs ys ⟨20, [], .v (.one (.b true))⟩ :=
  ⟨enters Tryz.func20 rfl rfl, fun B w vs h => by
    match vs, h with
    | [], h =>
      refine (q_awake w).mono ?_
      rintro e w' ⟨rfl, h2⟩
      exact ⟨_, rfl, rfl, h2⟩⟩
end Go.Proofs.YthefidbgjgfeiaaGreat
