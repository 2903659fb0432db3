/- What an argument of type api.Nat is: a row of digits. What arguments of the types api.Pose, api.Vec, api.Frac are: rows of fractions, leading zeros allowed, no longer than the argument's bulk. -/
import Derived.Test.YthebfmlfgfmlnaaGreatDoorP16
import Derived.WalkKit
import Derived.ProofKit
import Derived.OpenShut
import Derived.ShutString
import Derived.ChangeOld
import Derived.Below
import Derived.Test.YthebfmlfgfmlnaaGreatDoorRows
import Derived.SizedLaws
import Derived.Deep.Strs
namespace Go.Proofs.YthebfmlfgfmlnaaGreatDoor
set_option linter.unusedSimpArgs false
set_option linter.unusedVariables false
set_option maxRecDepth 100000
open Go.RowKit
open Go.ChangeShapes Go.WideShapes Go.ChangeAt Go.RowKit
theorem digits_exist (f : Nat → Nat) (hf : ∀ j, f j < 4294967296) : ∀ L, ∃ N, N < 4294967296 ^ L ∧ ∀ j, j < L → D N j = f j
  | 0 => ⟨0, by simp, fun j h => by omega⟩
  | L + 1 => by
    obtain ⟨N, h1, h2⟩ := digits_exist f hf L
    refine ⟨upd N L (f L), upd_lt (Nat.lt_of_lt_of_le h1 (Nat.pow_le_pow_right (by decide) (Nat.le_succ L))) (Nat.lt_succ_self L) (hf L), fun j hj => ?_⟩
    by_cases e : j = L
    · subst e; exact D_upd_same N j (f j) (hf j)
    · rw [D_upd_other N L (f L) j (hf L) e]; exact h2 j (by omega)
end Go.Proofs.YthebfmlfgfmlnaaGreatDoor
namespace Go.Proofs.YthebfmlfgfmlnaaGreatDoor
set_option linter.unusedSimpArgs false
set_option linter.unusedVariables false
set_option maxRecDepth 100000
open Go.RowKit
open Go.ChangeShapes Go.WideShapes Go.ChangeAt Go.RowKit
section
variable {H : Type} {enc : TypeId × Value → H} {W : World}
theorem bulk_one (d : DataW H) : 1 ≤ Rows.uptoBulk d := by
  cases d with
  | lit l => cases l <;> simp [Rows.uptoBulk]
  | nil => simp [Rows.uptoBulk]
  | ptr d => simp [Rows.uptoBulk]
  | slice elems spare => simp [Rows.uptoBulk]
  | agg parts => simp [Rows.uptoBulk]
  | iface t d => simp [Rows.uptoBulk]
  | map entries => simp [Rows.uptoBulk]
  | held h => simp [Rows.uptoBulk]
theorem bulk_len : ∀ l : List (DataW H), l.length ≤ Rows.uptoBulkAll l
  | [] => Nat.zero_le _
  | d :: l => by have := bulk_one d; have := bulk_len l; simp only [Rows.uptoBulkAll, List.length_cons]; omega
theorem open_natu {fuel : Nat} {u : Value} {x : DataW H × List MemPlace} (hf : DataW.trod enc Tryz.prog W 0 (fun _ => true) true fuel 24 [u] = some x) :
    ∃ a L cap m, u = .slice a L cap ∧ IsR W (.agg #[.slice a L cap]) L m ∧ L ≤ Rows.uptoBulk x.1 := by
  obtain ⟨y0, n, hy, hl0, h1⟩ := trod_struct1 Tryz.underlying24 hf
  have hc2 : Tryz.prog.cellsOf 22 = 1 := by kernel_rfl
  simp [hc2] at h1
  rcases open_ints Tryz.underlying22 Tryz.underlying37 (by kernel_rfl) h1 with ⟨hcs, _⟩ | ⟨x', l, c, zs, hcs, _, hl, hm, hz, hx0, hcell, hwz⟩
  · simp at hcs
    subst hcs
    exact ⟨none, 0, 0, 0, rfl, ⟨none, 0, rfl, Nat.le_refl _, by simp, fun h => by omega⟩, Nat.zero_le _⟩
  · simp at hcs
    subst hcs
    obtain ⟨N, hN, hD⟩ := digits_exist (fun j => (zs.getD j 0).toNat) (fun j => by
      have := range_u32 hwz j
      have e : zs.getD j 0 = zs[j]?.getD 0 := by simp
      rw [e]; omega) l
    refine ⟨some x', l, c, N, rfl, ⟨some x', c, rfl, hl, hN, fun h0 => ?_⟩, ?_⟩
    · obtain ⟨b, off, spot⟩ := x'
      have hc0 := hcell 0 (by rw [hz]; simp; omega)
      have hspot : spot = none := by simpa [Addr.add] using World.cell?_spot hc0
      subst hspot
      refine ⟨b, off, rfl, fun j hj => ?_⟩
      have h2 := hcell j (by rw [hz]; simp; omega)
      have hadd : (⟨b, off, none⟩ : Addr).add j = ⟨b, off + j, none⟩ := by unfold Addr.add; split <;> simp_all
      rw [hadd] at h2
      rw [h2, hD j hj]
      have := range_u32 hwz j
      have e : zs.getD j 0 = zs[j]?.getD 0 := by simp
      rw [e, Int.toNat_of_nonneg this.1]
    · have h4 : (lits (H := H) .u32 (zs.take l)).length = l := by
        simp only [lits, List.length_map, List.length_take]
        have : l ≤ zs.length := by rw [hz]; simp; omega
        omega
      have h5 := bulk_len (lits (H := H) .u32 (zs.take l))
      rw [hy]
      simp only [Rows.uptoBulk, Rows.uptoBulkAll, hx0]
      omega
theorem open_fracu {fuel : Nat} {u0 u1 u2 : Value} {x : DataW H × List MemPlace} (hf : DataW.trod enc Tryz.prog W 0 (fun _ => true) true fuel 26 [u0, u1, u2] = some x) :
    ∃ (r : Rq) (a b : Option Addr) (c d : Nat), u0 = .bool r.s ∧ u1 = .slice a r.L c ∧ u2 = .slice b r.N d ∧ IsR W (.agg #[.slice a r.L c]) r.L r.p ∧ IsR W (.agg #[.slice b r.N d]) r.N r.q ∧ r.L ≤ Rows.uptoBulk x.1 ∧ r.N ≤ Rows.uptoBulk x.1 := by
  have hcn : Tryz.prog.cellsOf 24 = 1 := by kernel_rfl
  have hcb : Tryz.prog.cellsOf 4 = 1 := by kernel_rfl
  obtain ⟨y0, y1, y2, n, hy, hl0, h0, h1, h2⟩ := Go.Deep.trod_struct3 Tryz.underlying26 hf
  simp [hcn, hcb] at h0 h1 h2
  obtain ⟨s, h3, _⟩ := DataW.trod_bool Tryz.underlying4 h0
  obtain rfl : u0 = .bool s := by simpa using h3
  obtain ⟨a, L, c, m, rfl, i1, l1⟩ := open_natu h1
  obtain ⟨a', N, c', k, rfl, i2, l2⟩ := open_natu h2
  have hk : Rows.uptoBulk y1.1 ≤ Rows.uptoBulk x.1 ∧ Rows.uptoBulk y2.1 ≤ Rows.uptoBulk x.1 := by rw [hy]; simp only [Rows.uptoBulk, Rows.uptoBulkAll]; omega
  exact ⟨⟨s, L, m, N, k⟩, a, a', c, c', rfl, rfl, rfl, i1, i2, Nat.le_trans l1 hk.1, Nat.le_trans l2 hk.2⟩
theorem open_quatu {fuel : Nat} {l : List Value} {x : DataW H × List MemPlace} (hl : l.length = 12) (hf : DataW.trod enc Tryz.prog W 0 (fun _ => true) true fuel 28 l = some x) :
    ∃ r0 r1 r2 r3 : Rq, CellsR W [r0, r1, r2, r3] l ∧ (r0.L ≤ Rows.uptoBulk x.1 ∧ r0.N ≤ Rows.uptoBulk x.1) ∧ (r1.L ≤ Rows.uptoBulk x.1 ∧ r1.N ≤ Rows.uptoBulk x.1) ∧ (r2.L ≤ Rows.uptoBulk x.1 ∧ r2.N ≤ Rows.uptoBulk x.1) ∧ (r3.L ≤ Rows.uptoBulk x.1 ∧ r3.N ≤ Rows.uptoBulk x.1) := by
  have hcf : Tryz.prog.cellsOf 26 = 3 := by kernel_rfl
  match l, hl with
  | [u0, u1, u2, u3, u4, u5, u6, u7, u8, u9, u10, u11], _ =>
    obtain ⟨xs, n, _, hx, _, hlen, hg⟩ := DataW.trod_struct Tryz.underlying28 hf
    match xs, hlen with
    | [y0, y1, y2, y3], _ =>
      have h0 := hg 0 _ rfl
      have h1 := hg 1 _ rfl
      have h2 := hg 2 _ rfl
      have h3 := hg 3 _ rfl
      simp [Value.cells, hcf] at h0 h1 h2 h3
      obtain ⟨r0, a0, b0, c0, d0, rfl, rfl, rfl, i0, j0, s0, t0⟩ := open_fracu h0
      obtain ⟨r1, a1, b1, c1, d1, rfl, rfl, rfl, i1, j1, s1, t1⟩ := open_fracu h1
      obtain ⟨r2, a2, b2, c2, d2, rfl, rfl, rfl, i2, j2, s2, t2⟩ := open_fracu h2
      obtain ⟨r3, a3, b3, c3, d3, rfl, rfl, rfl, i3, j3, s3, t3⟩ := open_fracu h3
      have hb : x.1 = _ := congrArg Prod.fst hx
      simp only [List.map_cons, List.map_nil] at hb
      have hk : Rows.uptoBulk y0.1 ≤ Rows.uptoBulk x.1 ∧ Rows.uptoBulk y1.1 ≤ Rows.uptoBulk x.1 ∧ Rows.uptoBulk y2.1 ≤ Rows.uptoBulk x.1 ∧ Rows.uptoBulk y3.1 ≤ Rows.uptoBulk x.1 := by rw [hb]; simp only [Rows.uptoBulk, Rows.uptoBulkAll]; omega
      exact ⟨r0, r1, r2, r3, ⟨a0, c0, b0, d0, _, rfl, i0, j0, a1, c1, b1, d1, _, rfl, i1, j1, a2, c2, b2, d2, _, rfl, i2, j2, a3, c3, b3, d3, _, rfl, i3, j3, rfl⟩, ⟨by omega, by omega⟩, ⟨by omega, by omega⟩, ⟨by omega, by omega⟩, ⟨by omega, by omega⟩⟩
theorem open_vecu {fuel : Nat} {l : List Value} {x : DataW H × List MemPlace} (hl : l.length = 9) (hf : DataW.trod enc Tryz.prog W 0 (fun _ => true) true fuel 30 l = some x) :
    ∃ r0 r1 r2 : Rq, CellsR W [r0, r1, r2] l ∧ (r0.L ≤ Rows.uptoBulk x.1 ∧ r0.N ≤ Rows.uptoBulk x.1) ∧ (r1.L ≤ Rows.uptoBulk x.1 ∧ r1.N ≤ Rows.uptoBulk x.1) ∧ (r2.L ≤ Rows.uptoBulk x.1 ∧ r2.N ≤ Rows.uptoBulk x.1) := by
  have hcf : Tryz.prog.cellsOf 26 = 3 := by kernel_rfl
  match l, hl with
  | [u0, u1, u2, u3, u4, u5, u6, u7, u8], _ =>
    obtain ⟨xs, n, _, hx, _, hlen, hg⟩ := DataW.trod_struct Tryz.underlying30 hf
    match xs, hlen with
    | [y0, y1, y2], _ =>
      have h0 := hg 0 _ rfl
      have h1 := hg 1 _ rfl
      have h2 := hg 2 _ rfl
      simp [Value.cells, hcf] at h0 h1 h2
      obtain ⟨r0, a0, b0, c0, d0, rfl, rfl, rfl, i0, j0, s0, t0⟩ := open_fracu h0
      obtain ⟨r1, a1, b1, c1, d1, rfl, rfl, rfl, i1, j1, s1, t1⟩ := open_fracu h1
      obtain ⟨r2, a2, b2, c2, d2, rfl, rfl, rfl, i2, j2, s2, t2⟩ := open_fracu h2
      have hb : x.1 = _ := congrArg Prod.fst hx
      simp only [List.map_cons, List.map_nil] at hb
      have hk : Rows.uptoBulk y0.1 ≤ Rows.uptoBulk x.1 ∧ Rows.uptoBulk y1.1 ≤ Rows.uptoBulk x.1 ∧ Rows.uptoBulk y2.1 ≤ Rows.uptoBulk x.1 := by rw [hb]; simp only [Rows.uptoBulk, Rows.uptoBulkAll]; omega
      exact ⟨r0, r1, r2, ⟨a0, c0, b0, d0, _, rfl, i0, j0, a1, c1, b1, d1, _, rfl, i1, j1, a2, c2, b2, d2, _, rfl, i2, j2, rfl⟩, ⟨by omega, by omega⟩, ⟨by omega, by omega⟩, ⟨by omega, by omega⟩⟩
theorem cellsR_app : ∀ {l l' : List Rq} {cs cs' : List Value}, CellsR W l cs → CellsR W l' cs' → CellsR W (l ++ l') (cs ++ cs')
  | [], _, cs, _, h, h' => by have h : cs = [] := h; subst h; exact h'
  | r :: l, l', cs, cs', h, h' => by
    obtain ⟨a, c, b, d, cs1, rfl, i1, i2, h3⟩ := h
    exact ⟨a, c, b, d, cs1 ++ cs', rfl, i1, i2, cellsR_app h3 h'⟩
theorem open_pose {v : Value} {d : DataW H} {p : List MemPlace} {base : Nat} (hval : Value.okWide Tryz.prog W .any base 32 v) (h : DataW.Trod enc Tryz.prog W 0 (fun _ => true) true 32 v d p) :
    ∃ r0 r1 r2 r3 r4 r5 r6 : Rq, IsL W v [r0, r1, r2, r3, r4, r5, r6] ∧ (r0.L ≤ Rows.uptoBulk d ∧ r0.N ≤ Rows.uptoBulk d) ∧ (r1.L ≤ Rows.uptoBulk d ∧ r1.N ≤ Rows.uptoBulk d) ∧ (r2.L ≤ Rows.uptoBulk d ∧ r2.N ≤ Rows.uptoBulk d) ∧ (r3.L ≤ Rows.uptoBulk d ∧ r3.N ≤ Rows.uptoBulk d) ∧ (r4.L ≤ Rows.uptoBulk d ∧ r4.N ≤ Rows.uptoBulk d) ∧ (r5.L ≤ Rows.uptoBulk d ∧ r5.N ≤ Rows.uptoBulk d) ∧ (r6.L ≤ Rows.uptoBulk d ∧ r6.N ≤ Rows.uptoBulk d) := by
  obtain ⟨cs, rfl, hcs⟩ := okWide_struct Tryz.underlying32 hval
  have hc : Tryz.prog.cellsOf 32 = 21 := by kernel_rfl
  rw [hc] at hcs
  obtain ⟨l⟩ := cs
  have hl : l.length = 21 := by simpa using hcs
  obtain ⟨fuel, hf⟩ := h
  have hcq : Tryz.prog.cellsOf 28 = 12 := by kernel_rfl
  have hcv : Tryz.prog.cellsOf 30 = 9 := by kernel_rfl
  obtain ⟨xs, n, _, hx, _, hlen, hg⟩ := DataW.trod_struct Tryz.underlying32 hf
  match xs, hlen with
  | [y0, y1], _ =>
    have h0 := hg 0 _ rfl
    have h1 := hg 1 _ rfl
    simp [Value.cells, hcq, hcv] at h0 h1
    obtain ⟨r0, r1, r2, r3, k0, s0, s1, s2, s3⟩ := open_quatu (by simp; omega) h0
    obtain ⟨r4, r5, r6, k1, s4, s5, s6⟩ := open_vecu (by simp; omega) h1
    have hb : d = _ := congrArg Prod.fst hx
    simp only [List.map_cons, List.map_nil] at hb
    have hk : Rows.uptoBulk y0.1 ≤ Rows.uptoBulk d ∧ Rows.uptoBulk y1.1 ≤ Rows.uptoBulk d := by rw [hb]; simp only [Rows.uptoBulk, Rows.uptoBulkAll]; omega
    refine ⟨r0, r1, r2, r3, r4, r5, r6, ⟨l, rfl, ?_⟩, ⟨by omega, by omega⟩, ⟨by omega, by omega⟩, ⟨by omega, by omega⟩, ⟨by omega, by omega⟩, ⟨by omega, by omega⟩, ⟨by omega, by omega⟩, ⟨by omega, by omega⟩⟩
    have h := cellsR_app k0 k1
    have e : l.take 12 ++ (l.drop 12).take 9 = l := by rw [List.take_of_length_le (show (l.drop 12).length ≤ 9 by simp; omega), List.take_append_drop]
    rw [e] at h
    exact h
theorem open_pose0 {v : Value} {d : DataW H} {p : List MemPlace} {base : Nat} (hval : Value.okWide Tryz.prog W .any base 32 v) (h : DataW.Trod enc Tryz.prog W 0 (fun _ => true) true 32 v d p) :
    ∃ r0 r1 r2 r3 r4 r5 r6 : Rq, IsL W v [r0, r1, r2, r3, r4, r5, r6] := by
  obtain ⟨r0, r1, r2, r3, r4, r5, r6, h, _⟩ := open_pose hval h
  exact ⟨r0, r1, r2, r3, r4, r5, r6, h⟩
end
end Go.Proofs.YthebfmlfgfmlnaaGreatDoor
