/- The contract of natural.Parse. -/
import Derived.Test.YthpndmamegfbkaaP1
import Derived.Deep.CutBlock
namespace Go.Proofs.Ythpndmamegfbkaa
set_option linter.unusedSimpArgs false
set_option linter.unusedVariables false
open Go.RowKit
/-- Byte i of s. -/
def by' (s : ByteArray) (i : Nat) : Nat := if h : i < s.size then (s[i]'h).toNat else 0
theorem by_eq {s : ByteArray} {i : Nat} (h : i < s.size) : (s[i]'h).toNat = by' s i := by unfold by'; rw [dif_pos h]
def parseVal (s : ByteArray) : Nat → Nat
  | 0 => 0
  | k + 1 => 10 * parseVal s k + (by' s k - 48)
def goodTo (s : ByteArray) (k : Nat) : Prop := ∀ j, j < k → 48 ≤ by' s j ∧ by' s j ≤ 57
def RetP (W : World) (N : Nat) (c : Int) (e : Ending) (w' : World) : Prop := ∃ v, e = .returned (.tuple #[v, .int .i64 c]) ∧ NewN W.heap.size w' v N ∧ Below W.heap.size W w'
/-- What Parse returns for s: the number N, the error c. -/
structure ParseIs (s : ByteArray) (N : Nat) (c : Int) : Prop where
  short : s.size = 0 → N = 0 ∧ c = 1
  long : 400 < s.size → N = 0 ∧ c = 3
  zero : 1 < s.size → s.size ≤ 400 → by' s 0 = 48 → N = 0 ∧ c = 2
  bad : 0 < s.size → s.size ≤ 400 → ¬ goodTo s s.size → N = 0 ∧ c = 2
  good : 0 < s.size → s.size ≤ 400 → (by' s 0 = 48 → s.size = 1) → goodTo s s.size → N = parseVal s s.size ∧ c = 0
theorem parse_total (s : ByteArray) : ∃ N c, ParseIs s N c := by
  by_cases h0 : s.size = 0
  · exact ⟨0, 1, fun _ => ⟨rfl, rfl⟩, fun h => by omega, fun h => by omega, fun h => by omega, fun h => by omega⟩
  · by_cases h1 : 400 < s.size
    · exact ⟨0, 3, fun h => by omega, fun _ => ⟨rfl, rfl⟩, fun _ h => by omega, fun _ h => by omega, fun _ h => by omega⟩
    · by_cases h2 : (1 < s.size ∧ by' s 0 = 48) ∨ ¬ goodTo s s.size
      · refine ⟨0, 2, fun h => by omega, fun h => by omega, fun _ _ _ => ⟨rfl, rfl⟩, fun _ _ _ => ⟨rfl, rfl⟩, fun _ _ hz hg => ?_⟩
        rcases h2 with ⟨h3, h4⟩ | h2
        · have := hz h4; omega
        · exact absurd hg h2
      · have h3 : ¬ (1 < s.size ∧ by' s 0 = 48) := fun h => h2 (.inl h)
        have h4 : goodTo s s.size := Classical.byContradiction fun h => h2 (.inr h)
        exact ⟨parseVal s s.size, 0, fun h => by omega, fun h => by omega, fun a _ b => absurd ⟨a, b⟩ h3, fun _ _ h => absurd h4 h, fun _ _ _ _ => ⟨rfl, rfl⟩⟩
theorem start1 (w : World) : Below w.heap.size w (w.alloc (.cells #[.slice none 0 0] 24)) ∧ VarB (w.alloc (.cells #[.slice none 0 0] 24)) w.heap.size none 0 0 :=
  ⟨(Below.refl _ _).alloc (Nat.le_refl _) _, VarB.made w none 0 0⟩
theorem isEmpty_false {s : ByteArray} (h : s.size ≠ 0) : s.toList.isEmpty = false := by
  rw [ByteArray.toList_eq]
  cases hs : s.data.toList with
  | nil =>
    exfalso; apply h
    have := congrArg List.length hs
    rw [Array.length_toList] at this
    exact this
  | cons _ _ => rfl
theorem isEmpty_true {s : ByteArray} (h : s.size = 0) : s.toList.isEmpty = true := by
  rw [ByteArray.toList_eq]
  have : s.data.toList = [] := List.eq_nil_of_length_eq_zero (by rw [Array.length_toList]; exact h)
  rw [this]; rfl
theorem c_Parse_short (s : ByteArray) (w : World) (h0 : s.size = 0) : Calls Try.prog 24 #[.string s] w fun e w' => RetP w 0 1 e w' := by
  obtain ⟨hb, v2⟩ := start1 w
  have he := isEmpty_true h0
  have c2 := v2.cell
  have f2 := v2.frozen
  go_enter Try.func24, Try.ntmps24
  go_wp2
  exact bodyPost_ret (res_nat2 rfl _ _ w.heap.size (.slice none 0 0) (.int .i64 1) rfl rfl (by simp [go_sem])) rfl ⟨_, rfl, NewN.of_zero, by first | exact hb | exact hb.setCell (Nat.le_refl _) _⟩
theorem c_Parse_long (s : ByteArray) (w : World) (h0 : 400 < s.size) : Calls Try.prog 24 #[.string s] w fun e w' => RetP w 0 3 e w' := by
  obtain ⟨hb, v2⟩ := start1 w
  have he := isEmpty_false (s := s) (by omega)
  have hl : (400 : Int) < (s.size : Int) := by omega
  go_enter Try.func24, Try.ntmps24
  go_wp2
  exact bodyPost_ret (res_nat2 rfl _ _ w.heap.size (.slice none 0 0) (.int .i64 3) rfl rfl (by simp [go_sem])) rfl ⟨_, rfl, NewN.of_zero, by first | exact hb | exact hb.setCell (Nat.le_refl _) _⟩
theorem c_Parse_zero (s : ByteArray) (w : World) (h0 : 1 < s.size) (h1 : s.size ≤ 400) (hz : by' s 0 = 48) : Calls Try.prog 24 #[.string s] w fun e w' => RetP w 0 2 e w' := by
  obtain ⟨hb, v2⟩ := start1 w
  have he := isEmpty_false (s := s) (by omega)
  have hl : ¬ (400 : Int) < (s.size : Int) := by omega
  have hp : 0 < s.size := by omega
  have hz' : (((s[0]'hp).toNat : Nat) : Int) = 48 := by rw [by_eq, hz]; rfl
  have h0' : (1 : Int) < (s.size : Int) := by omega
  go_enter Try.func24, Try.ntmps24
  go_wp2
  exact bodyPost_ret (res_nat2 rfl _ _ w.heap.size (.slice none 0 0) (.int .i64 2) rfl rfl (by simp [go_sem])) rfl ⟨_, rfl, NewN.of_zero, by first | exact hb | exact hb.setCell (Nat.le_refl _) _⟩
theorem GR.newN {w w' : World} {base L c N : Nat} {a : Option Addr} (h : GR w base (.slice a L c) L N) (hb : Below w.heap.size w w') : NewN base w' (.agg #[.slice a (nl N) (nl N)]) N := by
  obtain ⟨a', c', e, hLc, hrw, hown⟩ := h.open
  cases e
  have hl : nl N ≤ L := nl_le_iff.2 h.1
  refine ⟨a, nl N, rfl, Nat.le_refl _, fun hL => ?_⟩
  obtain ⟨g, rfl, hg, hgs, hf⟩ := hown (by omega)
  obtain ⟨b, o, e, hd⟩ := hrw.cells (by omega)
  cases e
  exact ⟨g, 0, rfl, hg, fun j hj => (hb.cell (p := ⟨g, 0 + j, none⟩) hgs).trans (hd j (by omega)), fun j hj => (hb.frozen (p := ⟨g, 0 + j, none⟩) hgs).trans (hf _)⟩
set_option maxHeartbeats 1000000 in
theorem c_Parse_loop (s : ByteArray) (w : World) (N : Nat) (c : Int) (h0 : 0 < s.size) (h1 : s.size ≤ 400) (hz : by' s 0 = 48 → s.size = 1) (hgood : goodTo s s.size → N = parseVal s s.size ∧ c = 0) (hbad : ¬ goodTo s s.size → N = 0 ∧ c = 2) :
    Calls Try.prog 24 #[.string s] w fun e w' => RetP w N c e w' := by
  obtain ⟨hb, v2⟩ := start1 w
  have he := isEmpty_false (s := s) (by omega)
  have hl : ¬ (400 : Int) < (s.size : Int) := by omega
  have HG := Lib.hid hgood
  have HB := Lib.hid hbad
  clear hgood hbad
  go_enter Try.func24, Try.ntmps24
  go_upto_block 0 with (fail)
  go_cut [3] (fun s3 wx => s3 = .int .i64 0 ∧ Below w.heap.size w wx ∧ VarB wx w.heap.size none 0 0)
  case first =>
    by_cases hz0 : by' s 0 = 48
    · have hs1 := hz hz0
      have hz' : (((s[0]'h0).toNat : Nat) : Int) = 48 := by rw [by_eq, hz0]; rfl
      have h0' : ¬ (1 : Int) < (s.size : Int) := by omega
      clear hz hz0
      go_wp2_with fail
      go_meet
      case rel => exact ⟨rfl, hb, v2⟩
    · have hz' : ¬ (((s[0]'h0).toNat : Nat) : Int) = 48 := by rw [by_eq]; omega
      clear hz hz0
      go_wp2_with fail
      go_meet
      case rel => exact ⟨rfl, hb, v2⟩
  case rest =>
    obtain ⟨rfl, hb0, v0⟩ := hcut
    clear hb v2 hz
    go_wp2_with fail
    go_loopw [4, 30] (fun s4 s30 wr => ∃ k L, k ≤ s.size ∧ L ≤ k ∧ s30 = .int .i64 (k : Nat) ∧ Hid (goodTo s k) ∧ GR wr (w.heap.size + 1) s4 L (parseVal s k) ∧ Below (w.heap.size + 1) wc wr ∧ w.heap.size + 1 ≤ wr.heap.size)
      (fun _ i _ => s.size - (intOf i).toNat)
    case atStart => exact ⟨0, 0, Nat.zero_le _, Nat.le_refl _, rfl, Lib.hid (fun j h => by omega), GR.nil _ _, Below.refl _ _, v0.lt⟩
    case round =>
      obtain ⟨k, L, hk, hL, rfl, HR, hgr, hbr, hsz⟩ := hrel
      have vr := v0.mono hbr (Nat.lt_succ_self _)
      have cr := vr.cell
      have fr := vr.frozen
      by_cases hlt : k < s.size
      · by_cases hlo : by' s k < 48
        · have hx : (((s[k]'hlt).toNat : Nat) : Int) < 48 := by rw [by_eq]; omega
          obtain ⟨rfl, rfl⟩ := HB.out (fun h => by have := (h k hlt).1; omega)
          clear HB HG HR
          go_wp2
          exact bodyPost_ret (res_nat2 rfl _ _ w.heap.size (.slice none 0 0) (.int .i64 2) rfl rfl vr.set.cell) rfl ⟨_, rfl, NewN.of_zero, (hb0.trans (hbr.mono (by omega))).setCell (Nat.le_refl _) _⟩
        · by_cases hhi : 57 < by' s k
          · have hx : ¬ (((s[k]'hlt).toNat : Nat) : Int) < 48 := by rw [by_eq]; omega
            have hy : (57 : Int) < (((s[k]'hlt).toNat : Nat) : Int) := by rw [by_eq]; omega
            obtain ⟨rfl, rfl⟩ := HB.out (fun h => by have := (h k hlt).2; omega)
            clear HB HG HR
            go_wp2
            exact bodyPost_ret (res_nat2 rfl _ _ w.heap.size (.slice none 0 0) (.int .i64 2) rfl rfl vr.set.cell) rfl ⟨_, rfl, NewN.of_zero, (hb0.trans (hbr.mono (by omega))).setCell (Nat.le_refl _) _⟩
          · have hx : ¬ (((s[k]'hlt).toNat : Nat) : Int) < 48 := by rw [by_eq]; omega
            have hy : ¬ (57 : Int) < (((s[k]'hlt).toNat : Nat) : Int) := by rw [by_eq]; omega
            obtain ⟨a, c', rfl, hLc, hrw, hown⟩ := hgr.open
            have hB : (((s[k]'hlt).toNat : Nat) : Int) - 48 = ((by' s k - 48 : Nat) : Int) := by rw [by_eq]; omega
            have hd9 : by' s k - 48 ≤ 9 := by omega
            have HD := Lib.hid (show goodTo s (k + 1) from fun j hj => by
              rcases Nat.lt_or_ge j k with h | h
              · exact HR.out j h
              · rw [show j = k by omega]; omega)
            have HP := Lib.hid (show parseVal s (k + 1) = 10 * parseVal s k + (by' s k - 48) from rfl)
            clear hlo hhi
            generalize hdd : by' s k - 48 = d at *
            clear hdd
            have hL6 : L ≤ 400 := by omega
            generalize parseVal s k = V at *
            go_wp2_with fail
            go_loopw [6, 51] (fun s6 s51 wq => ∃ i, i ≤ L ∧ s51 = .int .i64 (i : Nat) ∧ s6 = .int .u64 ((maC V d i : Nat) : Int) ∧ GR wq (w.heap.size + 1) (.slice a L c') L (maAt V d i) ∧ Below (w.heap.size + 1) wc wq ∧ w.heap.size + 1 ≤ wq.heap.size)
              (fun _ i _ => L - (intOf i).toNat)
            case atStart => exact ⟨0, Nat.zero_le _, rfl, by rw [maC_zero], by rw [maAt_zero]; exact hgr, hbr, hsz⟩
            case round =>
              obtain ⟨i, hi, rfl, rfl, hgq, hbq, hsq⟩ := hrel
              have hcl := maC_le V d i hd9
              by_cases hlt2 : i < L
              · obtain ⟨g, rfl, hg, hgs, hf⟩ := hown (by omega)
                obtain ⟨st1, st2, st3⟩ := ma_step V d i
                obtain ⟨a2, c2, e2, hLc2, hrw2, hown2⟩ := hgq.open
                cases e2
                obtain ⟨g', e3, _, _, hf2⟩ := hown2 (by omega)
                cases e3
                obtain ⟨b1, o1, e4, hdg⟩ := hrw2.cells (by omega)
                cases e4
                have c1 := hdg i hlt2
                rw [st3, Nat.zero_add] at c1
                have f1 := hf2 i
                have hdx := D_lt V i
                have htl : (D V i * 10 + maC V d i) % 4294967296 < 4294967296 := Nat.mod_lt _ (by decide)
                have hst := hgq.store (p := i) hlt2 htl
                rw [st1] at hst
                have ST2 := Lib.hid st2
                have HST := Lib.hid hst
                have hbs := hbq.setCell (p := ⟨g, i, none⟩) hg (.int .u32 (((D V i * 10 + maC V d i) % 4294967296 : Nat) : Int))
                clear st1 st2 st3 hst
                go_wp2_with fail
                have q1 : ((D V i : Nat) : Int) * 10 + ((maC V d i : Nat) : Int) = ((D V i * 10 + maC V d i : Nat) : Int) := by omega
                have q2 : ((D V i * 10 + maC V d i : Nat) : Int) % 4294967296 = (((D V i * 10 + maC V d i) % 4294967296 : Nat) : Int) := by omega
                have q3 : ((D V i * 10 + maC V d i : Nat) : Int) / 4294967296 = (((D V i * 10 + maC V d i) / 4294967296 : Nat) : Int) := by omega
                rw [q1, q2, q3]
                go_roundw
                case rel => exact ⟨i + 1, by omega, by go_num, by rw [ST2.out], HST.out, hbs, by simpa using hsq⟩
                case measure => simp [intOf]; omega
              · obtain rfl : i = L := by omega
                have hend := ma_end V d i hgr.1
                by_cases hc0 : maC V d i = 0
                · rw [hc0, Nat.zero_mul, Nat.add_zero] at hend
                  rw [hend] at hgq
                  have hc0' : ¬ (0 : Int) < ((maC V d i : Nat) : Int) := by omega
                  clear hend hc0
                  go_wp2_with fail
                  go_roundw
                  case rel => exact ⟨k + 1, i, by omega, by omega, by go_num, HD, by rw [HP.out]; exact hgq, hbq, hsq⟩
                  case measure => simp [intOf]; omega
                · have hc0' : (0 : Int) < ((maC V d i : Nat) : Int) := by omega
                  have HE := Lib.hid hend
                  clear hend hc0
                  go_wp2_with (at_builtin; refine wpList_append_digit rfl _ _ rfl (w.heap.size + 1) (.slice a i c') i (maAt V d i) (maC V d i) rfl hgq hsq rfl (by omega) (by omega) ?_)
                  intro v' w' hg' hb' hs'
                  rw [HE.out] at hg'
                  go_wp2_with fail
                  go_roundw
                  case rel => exact ⟨k + 1, i + 1, by omega, by omega, by go_num, HD, by rw [HP.out]; exact hg', hbq.trans hb', hs'⟩
                  case measure => simp [intOf]; omega
      · obtain rfl : k = s.size := by omega
        obtain ⟨rfl, rfl⟩ := HG.out HR.out
        obtain ⟨a, c', rfl, hLc, hrw, hown⟩ := hgr.open
        clear HB HG HR
        go_wp2_with fail
        refine (c_made a L c' (parseVal s s.size) _ (by omega) hLc hrw).mono ?_
        rintro e w2 ⟨rfl, hb2⟩
        have v2 := vr.mono hb2 vr.lt
        have c2 := v2.cell
        have f2 := v2.frozen
        have hn := (hgr.newN hb2).setVar (u := .slice a (nl (parseVal s s.size)) (nl (parseVal s s.size))) v2
        go_wp2
        exact bodyPost_ret (res_nat2 rfl _ _ w.heap.size _ (.int .i64 0) rfl rfl v2.set.cell) rfl ⟨_, rfl, hn.weaken (Nat.le_succ _), ((hb0.trans (hbr.mono (by omega))).trans (hb2.mono (by omega))).setCell (Nat.le_refl _) _⟩
theorem c_natural_Parse (s : ByteArray) (w : World) (N : Nat) (c : Int) (h : ParseIs s N c) : Calls Try.prog 24 #[.string s] w fun e w' => RetP w N c e w' := by
  by_cases h0 : s.size = 0
  · obtain ⟨rfl, rfl⟩ := h.short h0; exact c_Parse_short s w h0
  · by_cases h1 : 400 < s.size
    · obtain ⟨rfl, rfl⟩ := h.long h1; exact c_Parse_long s w h1
    · by_cases h2 : 1 < s.size ∧ by' s 0 = 48
      · obtain ⟨rfl, rfl⟩ := h.zero h2.1 (by omega) h2.2; exact c_Parse_zero s w h2.1 (by omega) h2.2
      · have hz : by' s 0 = 48 → s.size = 1 := fun e => by
          rcases Nat.lt_or_ge 1 s.size with h' | h'
          · exact absurd ⟨h', e⟩ h2
          · omega
        exact c_Parse_loop s w N c (by omega) (by omega) hz (h.good (by omega) (by omega) hz) (h.bad (by omega) (by omega))
end Go.Proofs.Ythpndmamegfbkaa
