/- The reference's Format. -/
import Derived.Test.YthpndmamegfbkaaS7
namespace Go.Proofs.Ythpndmamegfbkaa
set_option linter.unusedSimpArgs false
set_option linter.unusedVariables false
open Go.RowKit
theorem VarI.set {w : World} {g L c c' N : Nat} {a a' : Option Addr} (h : VarB w g a L c) (hn : IsN w (.agg #[.slice a' (nl N) c']) N) : VarI (w.setCell ⟨g, 0, none⟩ (.slice a' (nl N) c')) g N := ⟨a', c', h.set, hn.setVar h⟩
theorem cat_bytes (b : UInt8) (l : List UInt8) : (ByteArray.mk #[b]) ++ (ByteArray.mk l.toArray) = ByteArray.mk (b :: l).toArray := by
  apply ByteArray.ext
  simp
set_option maxRecDepth 100000 in
set_option maxHeartbeats 2000000 in
theorem c_ref_Format (va : Value) (N : Nat) (w : World) (ha : IsN w va N) (hm : nl N ≤ 1000000000000) :
    Calls Try.prog 27 #[va] w fun e w' => RetV w (.string (fmtB N)) e w' := by
  obtain ⟨a, ca, rfl, hca, ra⟩ := ha
  obtain ⟨k0, k1⟩ := box1 (L := nl N) (c := ca) (N := N) ⟨a, ca, rfl, hca, ra⟩
  by_cases h0 : N = 0
  · have e1 : nl N = 0 := nl_eq_zero.2 h0
    have e2 : fmtB N = ⟨#[48]⟩ := by unfold fmtB; rw [if_pos h0]
    have HE2 := Lib.hid e2
    rw [e1] at k0 k1 ⊢
    clear e1 e2 ra hm hca
    obtain ⟨y1, d1, q1, i1⟩ := k1
    have c1 := q1.cell
    go_enter Try.func27, Try.ntmps27
    go_wp2
    go_ret
    exact ⟨by rw [HE2.out]; rfl, k0⟩
  · have hp := nl_pos h0
    have hne : (((nl N : Nat) : Int) == 0) = false := by rw [beq_eq_false_iff_ne]; omega
    have HN0 := Lib.hid h0
    clear h0 hca ra
    have k1' := k1
    obtain ⟨y1, d1, q1, i1⟩ := k1'
    have c1 := q1.cell
    go_enter Try.func27, Try.ntmps27
    go_upto_region 3 with (fail)
    go_cut [1, 3] (fun s1 s3 wx => s1 = .pointer (some ⟨w.heap.size, 0, none⟩) ∧ s3 = .string ⟨#[]⟩ ∧ VarI wx w.heap.size N ∧ Below w.heap.size w wx)
    case first =>
      go_wp2_with fail
      go_meet
      case rel => exact ⟨rfl, rfl, k1, k0⟩
    case rest =>
      clear c1 q1 i1 k1 k0 hne
      obtain ⟨rfl, rfl, V1, hb1⟩ := hcut
      go_wp2_with fail
      go_loopw [3] (fun s3 wr => ∃ (V : Nat) (l : List UInt8) (S : ByteArray), s3 = .string S ∧ Hid (S = ⟨l.reverse.toArray⟩) ∧ V ≤ N ∧ Hid (decB N = l ++ decB V) ∧ VarI wr w.heap.size V ∧ Below w.heap.size w wr) (fun _ wr => valI wr w.heap.size)
      case atStart => exact ⟨N, [], ⟨#[]⟩, rfl, Lib.hid rfl, Nat.le_refl _, Lib.hid (by simp), V1, hb1⟩
      case round =>
        clear V1 hb1
        rename World => wo
        obtain ⟨V, l, S, rfl, HS, hVN, HL, V1, hb1⟩ := hrel
        have hnv := nl_mono hVN
        have hval := V1.val
        obtain ⟨a1, ca1, q1, i1⟩ := V1
        have c1 := q1.cell
        by_cases hV : V = 0
        · subst hV
          rw [decB_zero, List.append_nil] at HL
          rw [nl_zero] at c1
          go_wp2
          go_ret
          exact ⟨by rw [HS.out]; unfold fmtB; rw [if_neg HN0.out, HL.out]; rfl, hb1⟩
        · have hpos := nl_pos hV
          have HV0 := Lib.hid hV
          clear hV
          obtain ⟨_, _, e1, hcap, rx⟩ := i1
          simp only [Value.agg.injEq, Array.mk.injEq, List.cons.injEq, Value.slice.injEq, and_true, true_and] at e1
          obtain ⟨rfl, rfl⟩ := e1
          have hown := OwnR.made wo (nl V)
          have hbm := bel1 wo (zrow (nl V))
          go_upto_region 6 with (fail)
          go_cut [5] (fun s5 wx => s5 = .slice (some ⟨wo.heap.size, 0, none⟩) (nl V) (nl V) ∧ OwnR wx wo.heap.size (nl V) 0 ∧ Below wo.heap.size wo wx)
          case first =>
            go_wp2_with (at_make; refine wpList_make_dig rfl _ _ rfl _ _ _ _ (nl V) rfl rfl (by omega) (by omega) (by omega) ?_)
            go_meet
            case rel => exact ⟨rfl, hown, hbm⟩
          case rest =>
          obtain ⟨rfl, hown, hbm⟩ := hcut
          clear c1
          have c1 := (q1.mono hbm q1.lt).cell
          go_wp2_with fail
          go_loopw [4, 6] (fun s4 s6 wq => ∃ k c : Nat, k ≤ nl V ∧ s6 = .int .i64 ((k : Int) - 1) ∧ s4 = .int .u64 (c : Int) ∧ c ≤ 9 ∧ Hid (c = V / 4294967296 ^ k % 10) ∧ OwnR wq wo.heap.size (nl V) (shortAt V 10 k) ∧ Below wo.heap.size wo wq) (fun _ s6 _ => (intOf s6 + 1).toNat)
          case atStart => exact ⟨nl V, 0, Nat.le_refl _, rfl, rfl, by omega, Lib.hid (by rw [Nat.div_eq_of_lt (lt_nl V)]), by unfold shortAt; rw [Nat.div_eq_of_lt (lt_nl V)]; simpa using hown, hbm⟩
          case round =>
            clear c1 hown hbm
            obtain ⟨k, c, hk, rfl, rfl, hc9, HC, ho, hbq⟩ := hrel
            have c1 := (q1.mono hbq q1.lt).cell
            cases k with
            | zero =>
              have e1 : shortAt V 10 0 = V / 10 := by simp [shortAt]
              rw [e1] at ho
              have hcV : c = V % 10 := by have := HC.out; rwa [Nat.pow_zero, Nat.div_one] at this
              have HCV := Lib.hid hcV
              clear e1 hcV
              obtain ⟨b, hb⟩ : ∃ b : UInt8, Hid (b = UInt8.ofNat (48 + c)) := ⟨_, Lib.hid rfl⟩
              have hbn : b.toNat = 48 + c := by rw [hb.out, UInt8.toNat_ofNat']; omega
              have hb48 : (48 : Int) + (c : Int) = ((b.toNat : Nat) : Int) := by omega
              have hb256 : b.toNat ≤ 255 := by omega
              have hconv := run_convert_bytes_back (P := Try.prog) (wr.alloc (.cells #[.int .u8 ((b.toNat : Nat) : Int)] 5)) 61 9 5 ⟨wr.heap.size, 0, none⟩ 1 [b] Try.underlying61 Try.underlying5 Try.underlying9 (fun j hj => by
                have : j = 0 := by simpa using hj
                subst this
                simp [Addr.add])
              obtain ⟨S2, hS2⟩ : ∃ S2 : ByteArray, Hid (S2 = ByteArray.mk #[b] ++ S) := ⟨_, Lib.hid rfl⟩
              have hcat : ByteArray.mk #[b] ++ S = S2 := hS2.out.symm
              clear hbn
              have HCAT := Lib.hid (show S2 = ByteArray.mk (l ++ [b]).reverse.toArray by rw [hS2.out, HS.out, cat_bytes]; simp)
              simp only [List.length_cons, List.length_nil, Nat.zero_add] at hconv
              have hSz : S.size ≤ 10000000000000 := by
                have h1 : S.size = l.length := by rw [HS.out]; simp [ByteArray.size]
                have h2 : (decB N).length = l.length + (decB V).length := by rw [HL.out, List.length_append]
                have h3 := decB_bound N
                omega
              go_wp2_with fail
              refine (c_Trim _ (nl V) (nl V) (V / 10) _ (ho.rw'.mono (bel1 _ _)) (by omega)).mono ?_
              rintro e w2 ⟨v2, rfl, nn, bb⟩
              obtain ⟨V2, hV2⟩ : ∃ M : Nat, Hid (M = V / 10) := ⟨_, Lib.hid rfl⟩
              rw [← hV2.out] at nn
              obtain ⟨x2, c2, rfl, hc2, hx2⟩ := nn
              have hB := hbq.trans (((bel1 wr _).trans (bb.mono (bel1 wr _).size)).mono hbq.size)
              have q2 := q1.mono hB q1.lt
              have cc2 := q2.cell
              have ff2 := q2.frozen
              have V1 := VarI.set q2 (NewN.isN (base := 0) (w := w2) (N := V2) (by exact NewN.weaken ⟨x2, c2, rfl, hc2, hx2⟩ (Nat.zero_le _)))
              have hval2 := V1.val
              have hBB := (hb1.trans (hB.mono hb1.size)).setCell (p := ⟨w.heap.size, 0, none⟩) (Nat.le_refl _) (.slice x2 (nl V2) c2)
              have hlt2 : V2 < V := by have := hV2.out; have := HV0.out; omega
              have HDL := Lib.hid (show decB N = (l ++ [b]) ++ decB V2 by rw [HL.out, decB_pos HV0.out, List.append_assoc, hV2.out, hb.out, HCV.out]; rfl)
              clear hx2 hc2 hconv ho
              go_wp2_with fail
              go_roundw
              case rel => exact ⟨V2, l ++ [b], S2, rfl, HCAT, by omega, HDL, V1, hBB⟩
              case measure => rw [hval, hval2]; exact hlt2
            | succ k =>
              have hx1 : V / 4294967296 ^ (k + 1) % 10 = c := HC.out.symm
              have hstep := shortAt_step V 10 k (by decide)
              rw [hx1] at hstep
              obtain ⟨X, hX⟩ : ∃ X : Nat, Hid (X = c * 4294967296 + D V k) := ⟨_, Lib.hid rfl⟩
              rw [← hX.out] at hstep
              obtain ⟨Y, hY⟩ : ∃ Y : Nat, Hid (Y = X / 10) := ⟨_, Lib.hid rfl⟩
              obtain ⟨Z, hZ⟩ : ∃ Z : Nat, Hid (Z = X % 10) := ⟨_, Lib.hid rfl⟩
              have hdk := D_lt V k
              have hXs : (c : Int) * 4294967296 + ((D V k : Nat) : Int) = (X : Int) := by have := hX.out; omega
              have hXb : X ≤ 42949672960 := by have := hX.out; omega
              have hXq : (X : Int) / 10 = (Y : Int) := by have := hY.out; omega
              have hXr : (X : Int) % 10 = (Z : Int) := by have := hZ.out; omega
              have hY32 : Y < 4294967296 := by rw [hY.out]; exact hstep.2.2
              have hYb : Y ≤ 4294967295 := by omega
              have hZb : Z ≤ 9 := by have := hZ.out; omega
              have hst := ho.store (p := k) (e := Y) (by omega) hY32
              rw [hY.out, hstep.1] at hst
              rw [← hY.out] at hst
              have HZ := Lib.hid (show Z = V / 4294967296 ^ k % 10 by rw [hZ.out]; exact hstep.2.1)
              have c4 := ho.cell (p := k) (by omega)
              have f4 := ho.frozen k
              have rq := rx.mono (hbq.mono (Nat.le_refl _))
              obtain ⟨b1, o1, rfl, h1⟩ := rq.cells (by omega)
              have d1 := h1 k (by omega)
              have e : (((k + 1 : Nat) : Int) - 1) = (k : Int) := by omega
              simp only [e]
              have HST := Lib.hid hst
              clear e hx1 hstep hst hY32
              have hbs := hbq.setCell (p := ⟨wo.heap.size, k, none⟩) (Nat.le_refl _) (.int .u32 (Y : Int))
              go_wp2_with fail
              go_roundw
              case rel => exact ⟨k, Z, by omega, by go_num, by first | rfl | rw [hXr], hZb, HZ, HST.out, hbs⟩
              case measure => simp [intOf] <;> omega
end Go.Proofs.Ythpndmamegfbkaa
