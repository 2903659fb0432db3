/- The contract of natural.Format. -/
import Derived.Test.YthpndmamegfbkaaO3
namespace Go.Proofs.Ythpndmamegfbkaa
set_option linter.unusedSimpArgs false
set_option linter.unusedVariables false
open Go.RowKit
/-- What is left to print: V chunks away, r of the chunk at hand with p places. -/
theorem chunk_step {V r p : Nat} (h : ¬ (r = 0 ∧ V = 0)) (hp : 0 < p) : V * 10 ^ p + r ≠ 0 ∧ (V * 10 ^ p + r) % 10 = r % 10 ∧ (V * 10 ^ p + r) / 10 = V * 10 ^ (p - 1) + r / 10 := by
  obtain ⟨q, rfl⟩ : ∃ q, p = q + 1 := ⟨p - 1, by omega⟩
  have h10 : 0 < 10 ^ q := Nat.pow_pos (by decide)
  rw [Nat.pow_succ, Nat.add_sub_cancel]
  refine ⟨fun h0 => h ?_, ?_, ?_⟩
  · have h1 : r = 0 := by omega
    have h2 : V * (10 ^ q * 10) = 0 := by omega
    rcases Nat.mul_eq_zero.1 h2 with h3 | h3
    · exact ⟨h1, h3⟩
    · omega
  · rw [← Nat.mul_assoc, Nat.mul_comm, Nat.mul_add_mod]
  · rw [← Nat.mul_assoc, Nat.mul_comm, Nat.mul_add_div (by decide)]
def Fits (r p : Nat) : Prop := r < 10 ^ p
def fmtB (N : Nat) : ByteArray := if N = 0 then ⟨#[48]⟩ else ⟨(decB N).reverse.toArray⟩
set_option maxRecDepth 100000 in
theorem c_natural_Format (va : Value) (N : Nat) (w : World) (ha : IsN w va N) (hm : nl N ≤ 1000000000000) :
    Calls Try.prog 26 #[va] w fun e w' => RetV w (.string (fmtB N)) e w' := by
  obtain ⟨a, ca, rfl, hca, ra⟩ := ha
  have hw : Below w.heap.size w (w.alloc (.cells #[.slice a (nl N) ca] 24)) := (Below.refl _ _).alloc (Nat.le_refl _) _
  have ra0 := ra.mono hw
  have hlen := decB_bound N
  go_enter Try.func26, Try.ntmps26
  go_wp2_with fail
  refine (c_norm a (nl N) ca N _ (by omega) hca ra0).mono ?_
  rintro e w1 ⟨rfl, rfl⟩
  go_upto_region 2 with (fail)
  go_cut [3, 4] (fun s3 s4 wx => s3 = .slice a (nl N) (nl N) ∧ s4 = .slice none 0 0 ∧ Below w.heap.size w wx ∧ Rw wx a (nl N) N)
  case first =>
    go_wp2_with fail
    go_meet
    case rel => exact ⟨rfl, rfl, hw, ra0.norm⟩
  case rest =>
    obtain ⟨rfl, rfl, hb0, ra1⟩ := hcut
    clear hw ra0 ra
    have hsafe := Safe.of_low ra1
    go_wp2_with fail
    go_loopw [3, 4] (fun s3 s4 wr => ∃ V x l, s3 = .slice x (nl V) (nl V) ∧ V ≤ N ∧ Rw wr x (nl V) V ∧ Safe wr wc.heap.size x (nl V) ∧ BR wr wc.heap.size s4 l ∧ Hid (decB N = l ++ decB V) ∧ Below wc.heap.size wc wr ∧ wc.heap.size ≤ wr.heap.size)
      (fun s3 _ wr => valOf wr (.agg #[s3]))
    case atStart => exact ⟨N, a, [], rfl, Nat.le_refl _, ra1, hsafe, BR.nil _ _, Lib.hid (by simp), Below.refl _ _, Nat.le_refl _⟩
    case round =>
      obtain ⟨V, x, l, rfl, hVN, hrx, hsx, hbl, HL, hbr, hsz⟩ := hrel
      have hnv := nl_mono hVN
      by_cases hV : V = 0
      · subst hV
        obtain ⟨y, cy, rfl, hcy, hys⟩ := hbl.open
        rw [decB_zero, List.append_nil] at HL
        simp only [nl_zero]
        by_cases hl0 : l = []
        · subst hl0
          have hN0 : N = 0 := Classical.byContradiction fun h => by have := HL.out; rw [decB_pos h] at this; cases this
          subst hN0
          go_wp2
          go_ret
          exact ⟨by unfold fmtB; simp, hb0.trans (hbr.mono hb0.size)⟩
        · have hlp : 0 < l.length := List.length_pos_iff.2 hl0
          have hN0 : N ≠ 0 := fun h => hl0 (by have := HL.out; rw [h, decB_zero] at this; exact this.symm)
          have HN0 := Lib.hid hN0
          have hl10 : l.length ≤ 10 * nl N := by rw [← HL.out]; exact hlen
          clear hl0 hN0 hrx hsx
          obtain ⟨g1, rfl, hg1, hg1s, hcells⟩ := hys hlp
          have hmade := OwnB.made wr l.length
          rw [← rvAt_zero] at hmade
          have hbm : Below wr.heap.size wr (wr.alloc (zrow8 l.length)) := (Below.refl _ _).alloc (Nat.le_refl _) _
          go_wp2_with (at_make; refine wpList_make_bytes rfl _ _ rfl _ _ _ _ l.length rfl rfl rfl rfl (by omega) ?_)
          go_loopw [50] (fun s50 wq => ∃ i, i ≤ l.length ∧ s50 = .int .i64 (i : Nat) ∧ OwnB wq wr.heap.size (rvAt l i) ∧ Below wr.heap.size wr wq)
            (fun i _ => l.length - (intOf i).toNat)
          case atStart => exact ⟨0, Nat.zero_le _, rfl, hmade, hbm⟩
          case round =>
            obtain ⟨i, hi, rfl, how, hbw⟩ := hrel
            have hcw : ∀ j (hj : j < l.length), wr.cell? ⟨g1, j, none⟩ = some (.int .u8 ((l[j]'hj).toNat : Int)) := fun j hj => (hbw.cell (p := ⟨g1, j, none⟩) hg1s).trans (hcells j hj)
            by_cases hlt : i < l.length
            · have c1 := hcw i hlt
              have e1 : ((l.length : Int) - 1 - (i : Int)) = ((l.length - 1 - i : Nat) : Int) := by omega
              have c2 := how.cell (p := l.length - 1 - i) (by rw [rvAt_len l i hi]; omega)
              have f2 := how.frozen (l.length - 1 - i)
              have hst := how.store (p := l.length - 1 - i) (b := l[i]'hlt)
              rw [rvAt_step l i hlt] at hst
              have hbs := hbw.setCell (p := ⟨_, l.length - 1 - i, none⟩) (Nat.le_refl _) (.int .u8 ((l[i]'hlt).toNat : Int))
              have HST := Lib.hid hst
              clear hst
              go_wp2_with fail
              go_roundw
              case rel => exact ⟨i + 1, by omega, by go_num, HST.out, hbs⟩
              case measure => simp [intOf]; omega
            · obtain rfl : i = l.length := by omega
              rw [rvAt_end] at how
              have hconv := run_convert_bytes_back (P := Try.prog) wr 61 9 5 ⟨_, 0, none⟩ l.length l.reverse Try.underlying61 Try.underlying5 Try.underlying9 (fun j hj => by
                have hadd : ∀ g, (⟨g, 0, none⟩ : Addr).add j = ⟨g, j, none⟩ := fun g => by unfold Addr.add; split <;> simp_all
                rw [hadd]; exact how.cell hj)
              rw [List.length_reverse] at hconv
              go_wp2
              go_ret
              exact ⟨by unfold fmtB; rw [if_neg HN0.out, HL.out]; rfl, hb0.trans ((hbr.mono hb0.size).trans (hbw.mono (Nat.le_trans hb0.size hsz)))⟩
      · have hpos := nl_pos hV
        go_wp2_with fail
        refine (c_short x (nl V) (nl V) V 1000000000 wr hrx (by omega) (by decide) (by decide)).mono ?_
        rintro e w2 ⟨g, rfl, hg, ho, hb2⟩
        go_wp2_with fail
        refine (c_norm _ (nl V) (nl V) (V / 1000000000) w2 (by omega) (Nat.le_refl _) ho.rw').mono ?_
        rintro e w3 ⟨rfl, rfl⟩
        have ho' := ho.rw'.norm
        have hso : Safe w2 wc.heap.size (some ⟨g, 0, none⟩) (nl (V / 1000000000)) := Safe.of_own ho
        have hgb : wr.grownBy w2 none := ⟨hb2.os, hb2.tape, hb2.output, hb2.size, fun k hk _ => hb2.block k hk⟩
        have hbl2 := hbl.keep hgb
        have hbr2 := hbr.trans (hb2.mono hsz)
        have hsz2 : wc.heap.size ≤ w2.heap.size := Nat.le_trans hsz hb2.size
        have hdm : V / 1000000000 * 10 ^ 9 + V % 1000000000 = V := by have := Nat.div_add_mod V 1000000000; omega
        have hrl : V % 1000000000 < 10 ^ 9 := Nat.mod_lt _ (by decide)
        have hVlt : V / 1000000000 < V := by omega
        have HV := Lib.hid (IsN.valOf (v := .agg #[.slice x (nl V) (nl V)]) ⟨x, nl V, rfl, Nat.le_refl _, hrx⟩)
        rw [← hdm] at HL
        clear hdm hgb hbl hbr hrx hsx ho
        have HLT := Lib.hid hVlt
        have hVN' : V / 1000000000 ≤ N := by omega
        generalize V / 1000000000 = M at *
        have hcast : ((V : Int) % 1000000000) = ((V % 1000000000 : Nat) : Int) := by omega
        have HC := Lib.hid hcast
        clear hcast
        have hlM : nl M ≤ nl N := nl_mono hVN'
        go_wp2_with fail
        go_loopw [4, 6, 23] (fun s4 s6 s23 wq => ∃ i r l, i ≤ 9 ∧ s23 = .int .i64 (i : Nat) ∧ s6 = .int .u32 (r : Nat) ∧ Fits r (9 - i) ∧ r ≤ 999999999 ∧ BR wq wc.heap.size s4 l ∧ Hid (decB N = l ++ decB (M * 10 ^ (9 - i) + r)) ∧
            Below wc.heap.size wc wq ∧ wc.heap.size ≤ wq.heap.size ∧ Rw wq (some ⟨g, 0, none⟩) (nl M) M ∧ Safe wq wc.heap.size (some ⟨g, 0, none⟩) (nl M))
          (fun _ _ i _ => 9 - (intOf i).toNat)
        case atStart => exact ⟨0, V % 1000000000, l, by omega, rfl, by rw [HC.out], hrl, by omega, hbl2, HL, hbr2, hsz2, ho', hso⟩
        case round =>
          obtain ⟨i, r, l1, hi, rfl, rfl, hri, hr9, hbl1, HL1, hbq, hsq, hrq, hsfq⟩ := hrel
          have hmeas : IsN wr (.agg #[.slice (some ⟨g, 0, none⟩) (nl M) (nl M)]) M := ⟨_, _, rfl, Nat.le_refl _, hrq⟩
          have HM := Lib.hid hmeas.valOf
          clear hmeas
          by_cases hi9 : i < 9
          · by_cases hbrk : r = 0 ∧ M = 0
            · obtain ⟨h1, h2⟩ := hbrk
              subst h1
              have HL2 : Hid (decB N = l1 ++ decB M) := by
                have := HL1.out
                rw [h2, Nat.zero_mul, Nat.add_zero] at this
                rw [h2]; exact Lib.hid this
              have hz : (((nl M : Nat) : Int) == 0) = true := by rw [h2, nl_zero]; rfl
              clear h2 HL1
              go_wp2_with fail
              go_roundw
              case rel => exact ⟨M, some ⟨g, 0, none⟩, l1, rfl, hVN', hrq, hsfq, hbl1, HL2, hbq, hsq⟩
              case measure => rw [HM.out, HV.out]; exact HLT.out
            · obtain ⟨k1, k2, k3⟩ := chunk_step (p := 9 - i) hbrk (by omega)
              have HL3 : Hid (decB N = (l1 ++ [UInt8.ofNat (48 + r % 10)]) ++ decB (M * 10 ^ (9 - (i + 1)) + r / 10)) := by
                have h := HL1.out
                rw [decB_pos k1, k2, k3] at h
                show _ = _
                rw [h, show 9 - i - 1 = 9 - (i + 1) by omega]; simp
              have hri' : Fits (r / 10) (9 - (i + 1)) := by
                have h : r < 10 ^ (9 - i) := hri
                rw [show 9 - i = 9 - (i + 1) + 1 by omega, Nat.pow_succ] at h
                show r / 10 < 10 ^ (9 - (i + 1))
                rw [Nat.div_lt_iff_lt_mul (by decide)]; exact h
              have hbyte : Hid (48 + (r : Int) % 10 = ((UInt8.ofNat (48 + r % 10)).toNat : Int)) := by
                show _ = _
                rw [UInt8.toNat_ofNat']
                omega
              have hl10 : l1.length ≤ 10 * nl N := by
                have h := congrArg List.length HL1.out
                rw [List.length_append] at h
                omega
              obtain ⟨y1, cy1, rfl, hcy1, hys1⟩ := hbl1.open
              clear k1 k2 k3 hri HL1 hys1
              generalize UInt8.ofNat (48 + r % 10) = b at *
              by_cases hr0 : r = 0
              · have hz1 : ((r : Int) == 0) = true := by rw [hr0]; rfl
                have hM0 : nl M ≠ 0 := fun h => hbrk ⟨hr0, by have := lt_nl M; rw [h] at this; omega⟩
                have hz2 : (((nl M : Nat) : Int) == 0) = false := by rw [beq_eq_false_iff_ne]; omega
                clear hr0 hbrk
                go_wp2_with (at_builtin; refine wpList_append_one rfl _ _ rfl wc.heap.size (.slice y1 l1.length cy1) l1 b _ hbyte.out rfl hbl1 hsq rfl (by omega) ?_)
                intro v' w' hbl2 hbb hss hgg
                obtain ⟨hs2, hr2⟩ := hsfq.append hrq hbl1 hgg
                clear hgg
                go_wp2_with fail
                go_roundw
                case rel => exact ⟨i + 1, r / 10, l1 ++ [b], by omega, by go_num, congrArg (Value.int .u32) (by omega), hri', by omega, hbl2, HL3, hbq.trans hbb, hss, hr2, hs2⟩
                case measure => simp [intOf]; omega
              · have hz1 : ((r : Int) == 0) = false := by rw [beq_eq_false_iff_ne]; omega
                clear hr0 hbrk
                go_wp2_with (at_builtin; refine wpList_append_one rfl _ _ rfl wc.heap.size (.slice y1 l1.length cy1) l1 b _ hbyte.out rfl hbl1 hsq rfl (by omega) ?_)
                intro v' w' hbl2 hbb hss hgg
                obtain ⟨hs2, hr2⟩ := hsfq.append hrq hbl1 hgg
                clear hgg
                go_wp2_with fail
                go_roundw
                case rel => exact ⟨i + 1, r / 10, l1 ++ [b], by omega, by go_num, congrArg (Value.int .u32) (by omega), hri', by omega, hbl2, HL3, hbq.trans hbb, hss, hr2, hs2⟩
                case measure => simp [intOf]; omega
          · obtain rfl : i = 9 := by omega
            have hr0 : r = 0 := by have h : r < 10 ^ (9 - 9) := hri; simpa using h
            have HL2 : Hid (decB N = l1 ++ decB M) := by
              have := HL1.out
              rw [show 9 - 9 = 0 by omega, hr0, Nat.pow_zero, Nat.mul_one, Nat.add_zero] at this
              exact Lib.hid this
            clear hr0 HL1 hri
            go_wp2_with fail
            go_roundw
            case rel => exact ⟨M, some ⟨g, 0, none⟩, l1, rfl, hVN', hrq, hsfq, hbl1, HL2, hbq, hsq⟩
            case measure => rw [HM.out, HV.out]; exact HLT.out
end Go.Proofs.Ythpndmamegfbkaa
