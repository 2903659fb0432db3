/- awake: the chapter's examples. -/
import Derived.Test.YthpndmamegfbkaaS2
namespace Go.Proofs.Ythpndmamegfbkaa
set_option linter.unusedSimpArgs false
set_option linter.unusedVariables false
open Go.RowKit
theorem nl_is {N L : Nat} (h1 : N < 4294967296 ^ (L + 1)) (h2 : 4294967296 ^ L ≤ N) : nl N = L + 1 := by
  have a := nl_le_iff.2 h1
  rcases Nat.lt_or_ge L (nl N) with h | h
  · omega
  · have := nl_le_iff.1 h
    omega
theorem nlb {N : Nat} (h : N < 4294967296 ^ 4) : nl N ≤ 1000000000000 := Nat.le_trans (nl_le_iff.2 h) (by decide)
theorem lit1 (w : World) (g : Nat) (hg : g = w.heap.size) (x : Nat) (x0 : Int) (e : x0 = (x : Int)) (h : 0 < x) (hx : x < 4294967296) :
    Calls Try.prog 29 #[.slice (some ⟨g, 0, none⟩) 1 1] (w.alloc (.cells #[.int .u32 x0] 42)) fun e w' => RetNew w x e w' := by
  subst e; subst hg
  exact lit_call (own1 w x hx) (by decide) (nl_is (L := 0) (by simpa using hx) (by rw [Nat.pow_zero]; exact h))
theorem lit2 (w : World) (g : Nat) (hg : g = w.heap.size) (x y N : Nat) (x0 y0 : Int) (ex : x0 = (x : Int)) (ey : y0 = (y : Int)) (hx : x < 4294967296) (h : 0 < y) (hy : y < 4294967296) (hN : N = x + 4294967296 * y) :
    Calls Try.prog 29 #[.slice (some ⟨g, 0, none⟩) 2 2] (w.alloc (.cells #[.int .u32 x0, .int .u32 y0] 42)) fun e w' => RetNew w N e w' := by
  subst ex; subst ey; subst hg; subst hN
  exact lit_call (own2 w x y hx hy) (by decide) (nl_is (L := 1) (by omega) (by omega))
theorem fmt_example : fmtB 4294967296 = { data := #[52, 50, 57, 52, 57, 54, 55, 50, 57, 54] } := by
  unfold fmtB
  rw [if_neg (by decide)]
  have h : ∀ {N : Nat} {l : List UInt8}, decB (N / 10) = l → N ≠ 0 → decB N = UInt8.ofNat (48 + N % 10) :: l := fun e hn => by rw [decB_pos hn, e]
  have e : decB 4294967296 = [54, 57, 50, 55, 54, 57, 52, 57, 50, 52] := by
    refine h (l := [57, 50, 55, 54, 57, 52, 57, 50, 52]) (h (l := [50, 55, 54, 57, 52, 57, 50, 52]) (h (l := [55, 54, 57, 52, 57, 50, 52]) (h (l := [54, 57, 52, 57, 50, 52]) (h (l := [57, 52, 57, 50, 52]) (h (l := [52, 57, 50, 52]) (h (l := [57, 50, 52]) (h (l := [50, 52]) (h (l := [52]) (h (l := []) decB_zero (by decide)) (by decide)) (by decide)) (by decide)) (by decide)) (by decide)) (by decide)) (by decide)) (by decide)) (by decide)
  rw [e]
  rfl
theorem parse_a : ParseIs { data := #[48, 48, 55] } 0 2 := ⟨fun h => absurd h (by decide), fun h => absurd h (by decide), fun _ _ _ => ⟨rfl, rfl⟩, fun _ _ _ => ⟨rfl, rfl⟩, fun _ _ h _ => absurd (h (by decide)) (by decide)⟩
theorem parse_b : ParseIs { data := #[49, 56, 52, 52, 54, 55, 52, 52, 48, 55, 51, 55, 48, 57, 53, 53, 49, 54, 49, 54] } 18446744073709551616 0 := ⟨fun h => absurd h (by decide), fun h => absurd h (by decide), fun _ _ h => absurd h (by decide), fun _ _ h => absurd (by decide : ∀ j, j < 20 → _) h, fun _ _ _ _ => ⟨by decide, rfl⟩⟩
theorem VarI.of {w : World} {g c N : Nat} {a : Option Addr} (h : VarB w g a (nl N) c) (hn : IsN w (.agg #[.slice a (nl N) c]) N) : VarI w g N := ⟨a, c, h, hn⟩
def awTab (g1 g2 g3 g7 g9 : Nat) : List (Nat × Tmp × Sp) :=
   [(0, 38, .nat (4294967295)),
    (1, 39, .row 1 (1)),
    (2, 40, .nat (1)),
    (3, 41, .nat (4294967296)),
    (4, 42, .row 2 (4294967296)),
    (5, 43, .nat (4294967296)),
    (6, 44, .val (Value.bool true)),
    (7, 45, .val (Value.bool true)),
    (8, 46, .nat (4294967295)),
    (9, 47, .nat (4294967295)),
    (10, 48, .nat (18446744065119617025)),
    (11, 49, .row 2 (18446744065119617025)),
    (12, 50, .nat (18446744065119617025)),
    (13, 51, .val (Value.bool true)),
    (14, 52, .val (Value.bool true)),
    (15, 53, .val (Value.bool true)),
    (16, 54, .nat (3)),
    (17, 55, .row 1 (3)),
    (18, 56, .nat (3)),
    (19, 57, .val (Value.bool true)),
    (20, 58, .val (Value.bool true)),
    (21, 59, .val (Value.bool true)),
    (22, 60, .nat (2)),
    (23, 61, .row 1 (2)),
    (24, 62, .nat (2)),
    (25, 63, .val (Value.bool true)),
    (26, 64, .val (Value.bool true)),
    (27, 65, .val (Value.bool true)),
    (28, 66, .val (Value.int IntKind.i64 0)),
    (29, 67, .val (Value.bool true)),
    (30, 68, .val (Value.bool true)),
    (31, 69, .val (Value.bool true)),
    (32, 70, .val (Value.int IntKind.i64 2)),
    (33, 71, .val (Value.bool true)),
    (34, 72, .val (Value.bool true)),
    (35, 73, .val (Value.bool true)),
    (36, 74, .nat (18446744073709551616)),
    (37, 75, .row 3 (18446744073709551616)),
    (38, 76, .nat (18446744073709551616)),
    (39, 77, .val (Value.bool true)),
    (40, 78, .val (Value.bool true)),
    (41, 79, .val (Value.bool true)),
    (42, 80, .val (Value.int IntKind.i64 0)),
    (43, 81, .val (Value.bool true)),
    (44, 82, .val (Value.bool true)),
    (45, 83, .val (Value.bool true)),
    (46, 84, .nat (4294967295)),
    (47, 85, .nat (4294967295)),
    (48, 86, .val (Value.bool true)),
    (49, 87, .val (Value.bool true)),
    (50, 88, .val (Value.bool true)),
    (51, 89, .val (Value.bool true)),
    (52, 90, .val (Value.bool true)),
    (53, 91, .val (Value.bool true)),
    (54, 92, .row 1 (84)),
    (55, 93, .nat (84)),
    (56, 94, .row 1 (36)),
    (57, 95, .nat (36)),
    (58, 96, .nat (12)),
    (59, 97, .row 1 (12)),
    (60, 98, .nat (12)),
    (61, 99, .val (Value.bool true)),
    (62, 100, .val (Value.bool true)),
    (63, 101, .val (Value.bool true)),
    (64, 102, .row 1 (255)),
    (65, 103, .nat (255)),
    (66, 104, .val (Value.int IntKind.i64 8)),
    (67, 105, .val (Value.bool true)),
    (68, 106, .val (Value.bool true)),
    (69, 107, .val (Value.bool true)),
    (70, 108, .row 2 (4294967296)),
    (71, 109, .nat (4294967296)),
    (72, 110, .val (Value.string { data := #[52, 50, 57, 52, 57, 54, 55, 50, 57, 54] })),
    (73, 111, .val (Value.bool true)),
    (74, 112, .val (Value.bool true)),
    (75, 113, .val (Value.bool true)),
    (76, 114, .nat (4294967296)),
    (77, 115, .row 2 (4294967296)),
    (78, 116, .nat (4294967296)),
    (79, 117, .val (Value.bool true)),
    (80, 118, .val (Value.bool true)),
    (81, 0, .val (Value.bool true))]
set_option maxRecDepth 100000 in
set_option maxHeartbeats 4000000 in
theorem c_awake_end (w : World) (a : Act) (g1 g2 g3 g7 g9 : Nat) (V1 : VarI w g1 4294967295) (V2 : VarI w g2 3) (V3 : VarI w g3 2) (V7 : VarI w g7 18446744073709551616) (V9 : VarI w g9 4294967295)
    {ops : Array Oper} {Q : Exit → Act → World → Prop} (hops : opsOf Try.f13 6 = ops) (hs : a.tmps.size = 119)
    (k1 : a.tmps[1]? = some (Value.pointer (some ⟨g1, 0, none⟩))) (k2 : a.tmps[2]? = some (Value.pointer (some ⟨g2, 0, none⟩))) (k3 : a.tmps[3]? = some (Value.pointer (some ⟨g3, 0, none⟩))) (k4 : a.tmps[4]? = some (Value.int IntKind.i64 0)) (k6 : a.tmps[6]? = some (Value.int IntKind.i64 2))
    (k7 : a.tmps[7]? = some (Value.pointer (some ⟨g7, 0, none⟩))) (k8 : a.tmps[8]? = some (Value.int IntKind.i64 0)) (k9 : a.tmps[9]? = some (Value.pointer (some ⟨g9, 0, none⟩))) (k10 : a.tmps[10]? = some (Value.bool true))
    (hQ : ∀ a' w', Below w.heap.size w w' → a'.defers = a.defers → a'.tmps.size = 119 → a'.tmps[0]? = some (Value.bool true) → Q .normal a' w') : (Code.region 6 ops true).wp Try.prog Q a w := by
  refine wp_tab Try.f13 6 (awTab g1 g2 g3 g7 g9) hops (by kernel_rfl) (by kernel_rfl) (by rw [hs]; kernel_rfl) (by kernel_rfl) ?_ ?_
  · refine ⟨fun a' w' F => ⟨_, rfl, wanted_none rfl, arm_load rfl (F.keep 1 (Value.pointer (some ⟨g1, 0, none⟩)) (by kernel_rfl) k1).is (V1.mono F.below)⟩, ?_⟩
    refine ⟨fun a' w' F => ⟨_, rfl, wanted_none rfl, arm_own1 (n := 1) rfl rfl (by decide)⟩, ?_⟩
    refine ⟨fun a' w' F => ⟨_, rfl, wanted_none rfl, arm_nat rfl (F.at' 1 39 _ rfl (by kernel_rfl)).is (by decide) (nl_is (L := 0) (by decide) (by decide))⟩, ?_⟩
    refine ⟨fun a' w' F => ⟨_, rfl, wanted_none rfl, arm_Add rfl (F.at' 0 38 _ rfl (by kernel_rfl)).is (F.at' 2 40 _ rfl (by kernel_rfl)).is (nlb (by decide)) (nlb (by decide)) (by decide)⟩, ?_⟩
    refine ⟨fun a' w' F => ⟨_, rfl, wanted_none rfl, arm_own2 (m := 0) (n := 1) rfl 4294967296 rfl rfl (by decide) (by decide) rfl⟩, ?_⟩
    refine ⟨fun a' w' F => ⟨_, rfl, wanted_none rfl, arm_nat rfl (F.at' 4 42 _ rfl (by kernel_rfl)).is (by decide) (nl_is (L := 1) (by decide) (by decide))⟩, ?_⟩
    refine ⟨fun a' w' F => ⟨_, rfl, wanted_none rfl, arm_Same rfl (F.at' 3 41 _ rfl (by kernel_rfl)).is (F.at' 5 43 _ rfl (by kernel_rfl)).is (nlb (by decide)) (nlb (by decide)) (rfl)⟩, ?_⟩
    refine ⟨fun a' w' F => ⟨_, rfl, wanted_none rfl, arm_move (.inl rfl) (F.at' 6 44 _ rfl (by kernel_rfl)).is⟩, ?_⟩
    refine ⟨fun a' w' F => ⟨_, rfl, wanted_some rfl rfl (F.at' 7 45 _ rfl (by kernel_rfl)), arm_load rfl (F.keep 1 (Value.pointer (some ⟨g1, 0, none⟩)) (by kernel_rfl) k1).is (V1.mono F.below)⟩, ?_⟩
    refine ⟨fun a' w' F => ⟨_, rfl, wanted_some rfl rfl (F.at' 7 45 _ rfl (by kernel_rfl)), arm_load rfl (F.keep 1 (Value.pointer (some ⟨g1, 0, none⟩)) (by kernel_rfl) k1).is (V1.mono F.below)⟩, ?_⟩
    refine ⟨fun a' w' F => ⟨_, rfl, wanted_some rfl rfl (F.at' 7 45 _ rfl (by kernel_rfl)), arm_Mul rfl (F.at' 8 46 _ rfl (by kernel_rfl)).is (F.at' 9 47 _ rfl (by kernel_rfl)).is (nlb (by decide)) (nlb (by decide)) (by decide)⟩, ?_⟩
    refine ⟨fun a' w' F => ⟨_, rfl, wanted_some rfl rfl (F.at' 7 45 _ rfl (by kernel_rfl)), arm_own2 (m := 1) (n := 4294967294) rfl 18446744065119617025 rfl rfl (by decide) (by decide) rfl⟩, ?_⟩
    refine ⟨fun a' w' F => ⟨_, rfl, wanted_some rfl rfl (F.at' 7 45 _ rfl (by kernel_rfl)), arm_nat rfl (F.at' 11 49 _ rfl (by kernel_rfl)).is (by decide) (nl_is (L := 1) (by decide) (by decide))⟩, ?_⟩
    refine ⟨fun a' w' F => ⟨_, rfl, wanted_some rfl rfl (F.at' 7 45 _ rfl (by kernel_rfl)), arm_Same rfl (F.at' 10 48 _ rfl (by kernel_rfl)).is (F.at' 12 50 _ rfl (by kernel_rfl)).is (nlb (by decide)) (nlb (by decide)) (rfl)⟩, ?_⟩
    refine ⟨fun a' w' F => ⟨_, rfl, wanted_none rfl, arm_pick rfl (F.at' 7 45 _ rfl (by kernel_rfl)).is (fun _ => (F.at' 13 51 _ rfl (by kernel_rfl)).is) (fun h => by cases h)⟩, ?_⟩
    refine ⟨fun a' w' F => ⟨_, rfl, wanted_none rfl, arm_move (.inl rfl) (F.at' 14 52 _ rfl (by kernel_rfl)).is⟩, ?_⟩
    refine ⟨fun a' w' F => ⟨_, rfl, wanted_some rfl rfl (F.at' 15 53 _ rfl (by kernel_rfl)), arm_load rfl (F.keep 2 (Value.pointer (some ⟨g2, 0, none⟩)) (by kernel_rfl) k2).is (V2.mono F.below)⟩, ?_⟩
    refine ⟨fun a' w' F => ⟨_, rfl, wanted_some rfl rfl (F.at' 15 53 _ rfl (by kernel_rfl)), arm_own1 (n := 3) rfl rfl (by decide)⟩, ?_⟩
    refine ⟨fun a' w' F => ⟨_, rfl, wanted_some rfl rfl (F.at' 15 53 _ rfl (by kernel_rfl)), arm_nat rfl (F.at' 17 55 _ rfl (by kernel_rfl)).is (by decide) (nl_is (L := 0) (by decide) (by decide))⟩, ?_⟩
    refine ⟨fun a' w' F => ⟨_, rfl, wanted_some rfl rfl (F.at' 15 53 _ rfl (by kernel_rfl)), arm_Same rfl (F.at' 16 54 _ rfl (by kernel_rfl)).is (F.at' 18 56 _ rfl (by kernel_rfl)).is (nlb (by decide)) (nlb (by decide)) (rfl)⟩, ?_⟩
    refine ⟨fun a' w' F => ⟨_, rfl, wanted_none rfl, arm_pick rfl (F.at' 15 53 _ rfl (by kernel_rfl)).is (fun _ => (F.at' 19 57 _ rfl (by kernel_rfl)).is) (fun h => by cases h)⟩, ?_⟩
    refine ⟨fun a' w' F => ⟨_, rfl, wanted_none rfl, arm_move (.inl rfl) (F.at' 20 58 _ rfl (by kernel_rfl)).is⟩, ?_⟩
    refine ⟨fun a' w' F => ⟨_, rfl, wanted_some rfl rfl (F.at' 21 59 _ rfl (by kernel_rfl)), arm_load rfl (F.keep 3 (Value.pointer (some ⟨g3, 0, none⟩)) (by kernel_rfl) k3).is (V3.mono F.below)⟩, ?_⟩
    refine ⟨fun a' w' F => ⟨_, rfl, wanted_some rfl rfl (F.at' 21 59 _ rfl (by kernel_rfl)), arm_own1 (n := 2) rfl rfl (by decide)⟩, ?_⟩
    refine ⟨fun a' w' F => ⟨_, rfl, wanted_some rfl rfl (F.at' 21 59 _ rfl (by kernel_rfl)), arm_nat rfl (F.at' 23 61 _ rfl (by kernel_rfl)).is (by decide) (nl_is (L := 0) (by decide) (by decide))⟩, ?_⟩
    refine ⟨fun a' w' F => ⟨_, rfl, wanted_some rfl rfl (F.at' 21 59 _ rfl (by kernel_rfl)), arm_Same rfl (F.at' 22 60 _ rfl (by kernel_rfl)).is (F.at' 24 62 _ rfl (by kernel_rfl)).is (nlb (by decide)) (nlb (by decide)) (rfl)⟩, ?_⟩
    refine ⟨fun a' w' F => ⟨_, rfl, wanted_none rfl, arm_pick rfl (F.at' 21 59 _ rfl (by kernel_rfl)).is (fun _ => (F.at' 25 63 _ rfl (by kernel_rfl)).is) (fun h => by cases h)⟩, ?_⟩
    refine ⟨fun a' w' F => ⟨_, rfl, wanted_none rfl, arm_move (.inl rfl) (F.at' 26 64 _ rfl (by kernel_rfl)).is⟩, ?_⟩
    refine ⟨fun a' w' F => ⟨_, rfl, wanted_some rfl rfl (F.at' 27 65 _ rfl (by kernel_rfl)), arm_move (.inl rfl) (F.keep 4 (Value.int IntKind.i64 0) (by kernel_rfl) k4).is⟩, ?_⟩
    refine ⟨fun a' w' F => ⟨_, rfl, wanted_some rfl rfl (F.at' 27 65 _ rfl (by kernel_rfl)), arm_bin rfl (F.at' 28 66 _ rfl (by kernel_rfl)).is Is.const (fun _ => rfl) (fun _ => rfl)⟩, ?_⟩
    refine ⟨fun a' w' F => ⟨_, rfl, wanted_none rfl, arm_pick rfl (F.at' 27 65 _ rfl (by kernel_rfl)).is (fun _ => (F.at' 29 67 _ rfl (by kernel_rfl)).is) (fun h => by cases h)⟩, ?_⟩
    refine ⟨fun a' w' F => ⟨_, rfl, wanted_none rfl, arm_move (.inl rfl) (F.at' 30 68 _ rfl (by kernel_rfl)).is⟩, ?_⟩
    refine ⟨fun a' w' F => ⟨_, rfl, wanted_some rfl rfl (F.at' 31 69 _ rfl (by kernel_rfl)), arm_move (.inl rfl) (F.keep 6 (Value.int IntKind.i64 2) (by kernel_rfl) k6).is⟩, ?_⟩
    refine ⟨fun a' w' F => ⟨_, rfl, wanted_some rfl rfl (F.at' 31 69 _ rfl (by kernel_rfl)), arm_bin rfl (F.at' 32 70 _ rfl (by kernel_rfl)).is Is.const (fun _ => rfl) (fun _ => rfl)⟩, ?_⟩
    refine ⟨fun a' w' F => ⟨_, rfl, wanted_none rfl, arm_pick rfl (F.at' 31 69 _ rfl (by kernel_rfl)).is (fun _ => (F.at' 33 71 _ rfl (by kernel_rfl)).is) (fun h => by cases h)⟩, ?_⟩
    refine ⟨fun a' w' F => ⟨_, rfl, wanted_none rfl, arm_move (.inl rfl) (F.at' 34 72 _ rfl (by kernel_rfl)).is⟩, ?_⟩
    refine ⟨fun a' w' F => ⟨_, rfl, wanted_some rfl rfl (F.at' 35 73 _ rfl (by kernel_rfl)), arm_load rfl (F.keep 7 (Value.pointer (some ⟨g7, 0, none⟩)) (by kernel_rfl) k7).is (V7.mono F.below)⟩, ?_⟩
    refine ⟨fun a' w' F => ⟨_, rfl, wanted_some rfl rfl (F.at' 35 73 _ rfl (by kernel_rfl)), arm_own3 (m := 0) (n := 0) (k := 1) rfl 18446744073709551616 rfl rfl rfl (by decide) (by decide) (by decide) rfl⟩, ?_⟩
    refine ⟨fun a' w' F => ⟨_, rfl, wanted_some rfl rfl (F.at' 35 73 _ rfl (by kernel_rfl)), arm_nat rfl (F.at' 37 75 _ rfl (by kernel_rfl)).is (by decide) (nl_is (L := 2) (by decide) (by decide))⟩, ?_⟩
    refine ⟨fun a' w' F => ⟨_, rfl, wanted_some rfl rfl (F.at' 35 73 _ rfl (by kernel_rfl)), arm_Same rfl (F.at' 36 74 _ rfl (by kernel_rfl)).is (F.at' 38 76 _ rfl (by kernel_rfl)).is (nlb (by decide)) (nlb (by decide)) (rfl)⟩, ?_⟩
    refine ⟨fun a' w' F => ⟨_, rfl, wanted_none rfl, arm_pick rfl (F.at' 35 73 _ rfl (by kernel_rfl)).is (fun _ => (F.at' 39 77 _ rfl (by kernel_rfl)).is) (fun h => by cases h)⟩, ?_⟩
    refine ⟨fun a' w' F => ⟨_, rfl, wanted_none rfl, arm_move (.inl rfl) (F.at' 40 78 _ rfl (by kernel_rfl)).is⟩, ?_⟩
    refine ⟨fun a' w' F => ⟨_, rfl, wanted_some rfl rfl (F.at' 41 79 _ rfl (by kernel_rfl)), arm_move (.inl rfl) (F.keep 8 (Value.int IntKind.i64 0) (by kernel_rfl) k8).is⟩, ?_⟩
    refine ⟨fun a' w' F => ⟨_, rfl, wanted_some rfl rfl (F.at' 41 79 _ rfl (by kernel_rfl)), arm_bin rfl (F.at' 42 80 _ rfl (by kernel_rfl)).is Is.const (fun _ => rfl) (fun _ => rfl)⟩, ?_⟩
    refine ⟨fun a' w' F => ⟨_, rfl, wanted_none rfl, arm_pick rfl (F.at' 41 79 _ rfl (by kernel_rfl)).is (fun _ => (F.at' 43 81 _ rfl (by kernel_rfl)).is) (fun h => by cases h)⟩, ?_⟩
    refine ⟨fun a' w' F => ⟨_, rfl, wanted_none rfl, arm_move (.inl rfl) (F.at' 44 82 _ rfl (by kernel_rfl)).is⟩, ?_⟩
    refine ⟨fun a' w' F => ⟨_, rfl, wanted_some rfl rfl (F.at' 45 83 _ rfl (by kernel_rfl)), arm_load rfl (F.keep 9 (Value.pointer (some ⟨g9, 0, none⟩)) (by kernel_rfl) k9).is (V9.mono F.below)⟩, ?_⟩
    refine ⟨fun a' w' F => ⟨_, rfl, wanted_some rfl rfl (F.at' 45 83 _ rfl (by kernel_rfl)), arm_load rfl (F.keep 1 (Value.pointer (some ⟨g1, 0, none⟩)) (by kernel_rfl) k1).is (V1.mono F.below)⟩, ?_⟩
    refine ⟨fun a' w' F => ⟨_, rfl, wanted_some rfl rfl (F.at' 45 83 _ rfl (by kernel_rfl)), arm_Same rfl (F.at' 46 84 _ rfl (by kernel_rfl)).is (F.at' 47 85 _ rfl (by kernel_rfl)).is (nlb (by decide)) (nlb (by decide)) (rfl)⟩, ?_⟩
    refine ⟨fun a' w' F => ⟨_, rfl, wanted_none rfl, arm_pick rfl (F.at' 45 83 _ rfl (by kernel_rfl)).is (fun _ => (F.at' 48 86 _ rfl (by kernel_rfl)).is) (fun h => by cases h)⟩, ?_⟩
    refine ⟨fun a' w' F => ⟨_, rfl, wanted_none rfl, arm_move (.inl rfl) (F.at' 49 87 _ rfl (by kernel_rfl)).is⟩, ?_⟩
    refine ⟨fun a' w' F => ⟨_, rfl, wanted_some rfl rfl (F.at' 50 88 _ rfl (by kernel_rfl)), arm_move (.inl rfl) (F.keep 10 (Value.bool true) (by kernel_rfl) k10).is⟩, ?_⟩
    refine ⟨fun a' w' F => ⟨_, rfl, wanted_none rfl, arm_pick rfl (F.at' 50 88 _ rfl (by kernel_rfl)).is (fun _ => (F.at' 51 89 _ rfl (by kernel_rfl)).is) (fun h => by cases h)⟩, ?_⟩
    refine ⟨fun a' w' F => ⟨_, rfl, wanted_none rfl, arm_move (.inl rfl) (F.at' 52 90 _ rfl (by kernel_rfl)).is⟩, ?_⟩
    refine ⟨fun a' w' F => ⟨_, rfl, wanted_some rfl rfl (F.at' 53 91 _ rfl (by kernel_rfl)), arm_own1 (n := 84) rfl rfl (by decide)⟩, ?_⟩
    refine ⟨fun a' w' F => ⟨_, rfl, wanted_some rfl rfl (F.at' 53 91 _ rfl (by kernel_rfl)), arm_nat rfl (F.at' 54 92 _ rfl (by kernel_rfl)).is (by decide) (nl_is (L := 0) (by decide) (by decide))⟩, ?_⟩
    refine ⟨fun a' w' F => ⟨_, rfl, wanted_some rfl rfl (F.at' 53 91 _ rfl (by kernel_rfl)), arm_own1 (n := 36) rfl rfl (by decide)⟩, ?_⟩
    refine ⟨fun a' w' F => ⟨_, rfl, wanted_some rfl rfl (F.at' 53 91 _ rfl (by kernel_rfl)), arm_nat rfl (F.at' 56 94 _ rfl (by kernel_rfl)).is (by decide) (nl_is (L := 0) (by decide) (by decide))⟩, ?_⟩
    refine ⟨fun a' w' F => ⟨_, rfl, wanted_some rfl rfl (F.at' 53 91 _ rfl (by kernel_rfl)), arm_Gcd rfl (F.at' 55 93 _ rfl (by kernel_rfl)).is (F.at' 57 95 _ rfl (by kernel_rfl)).is (nlb (by decide)) (nlb (by decide)) (by decide)⟩, ?_⟩
    refine ⟨fun a' w' F => ⟨_, rfl, wanted_some rfl rfl (F.at' 53 91 _ rfl (by kernel_rfl)), arm_own1 (n := 12) rfl rfl (by decide)⟩, ?_⟩
    refine ⟨fun a' w' F => ⟨_, rfl, wanted_some rfl rfl (F.at' 53 91 _ rfl (by kernel_rfl)), arm_nat rfl (F.at' 59 97 _ rfl (by kernel_rfl)).is (by decide) (nl_is (L := 0) (by decide) (by decide))⟩, ?_⟩
    refine ⟨fun a' w' F => ⟨_, rfl, wanted_some rfl rfl (F.at' 53 91 _ rfl (by kernel_rfl)), arm_Same rfl (F.at' 58 96 _ rfl (by kernel_rfl)).is (F.at' 60 98 _ rfl (by kernel_rfl)).is (nlb (by decide)) (nlb (by decide)) (rfl)⟩, ?_⟩
    refine ⟨fun a' w' F => ⟨_, rfl, wanted_none rfl, arm_pick rfl (F.at' 53 91 _ rfl (by kernel_rfl)).is (fun _ => (F.at' 61 99 _ rfl (by kernel_rfl)).is) (fun h => by cases h)⟩, ?_⟩
    refine ⟨fun a' w' F => ⟨_, rfl, wanted_none rfl, arm_move (.inl rfl) (F.at' 62 100 _ rfl (by kernel_rfl)).is⟩, ?_⟩
    refine ⟨fun a' w' F => ⟨_, rfl, wanted_some rfl rfl (F.at' 63 101 _ rfl (by kernel_rfl)), arm_own1 (n := 255) rfl rfl (by decide)⟩, ?_⟩
    refine ⟨fun a' w' F => ⟨_, rfl, wanted_some rfl rfl (F.at' 63 101 _ rfl (by kernel_rfl)), arm_nat rfl (F.at' 64 102 _ rfl (by kernel_rfl)).is (by decide) (nl_is (L := 0) (by decide) (by decide))⟩, ?_⟩
    refine ⟨fun a' w' F => ⟨_, rfl, wanted_some rfl rfl (F.at' 63 101 _ rfl (by kernel_rfl)), arm_Bits rfl (F.at' 65 103 _ rfl (by kernel_rfl)).is (nlb (by decide)) rfl⟩, ?_⟩
    refine ⟨fun a' w' F => ⟨_, rfl, wanted_some rfl rfl (F.at' 63 101 _ rfl (by kernel_rfl)), arm_bin rfl (F.at' 66 104 _ rfl (by kernel_rfl)).is Is.const (fun _ => rfl) (fun _ => rfl)⟩, ?_⟩
    refine ⟨fun a' w' F => ⟨_, rfl, wanted_none rfl, arm_pick rfl (F.at' 63 101 _ rfl (by kernel_rfl)).is (fun _ => (F.at' 67 105 _ rfl (by kernel_rfl)).is) (fun h => by cases h)⟩, ?_⟩
    refine ⟨fun a' w' F => ⟨_, rfl, wanted_none rfl, arm_move (.inl rfl) (F.at' 68 106 _ rfl (by kernel_rfl)).is⟩, ?_⟩
    refine ⟨fun a' w' F => ⟨_, rfl, wanted_some rfl rfl (F.at' 69 107 _ rfl (by kernel_rfl)), arm_own2 (m := 0) (n := 1) rfl 4294967296 rfl rfl (by decide) (by decide) rfl⟩, ?_⟩
    refine ⟨fun a' w' F => ⟨_, rfl, wanted_some rfl rfl (F.at' 69 107 _ rfl (by kernel_rfl)), arm_nat rfl (F.at' 70 108 _ rfl (by kernel_rfl)).is (by decide) (nl_is (L := 1) (by decide) (by decide))⟩, ?_⟩
    refine ⟨fun a' w' F => ⟨_, rfl, wanted_some rfl rfl (F.at' 69 107 _ rfl (by kernel_rfl)), arm_Format rfl (F.at' 71 109 _ rfl (by kernel_rfl)).is (nlb (by decide)) fmt_example⟩, ?_⟩
    refine ⟨fun a' w' F => ⟨_, rfl, wanted_some rfl rfl (F.at' 69 107 _ rfl (by kernel_rfl)), arm_bin rfl (F.at' 72 110 _ rfl (by kernel_rfl)).is Is.const (fun _ => rfl) (fun _ => by go_simp)⟩, ?_⟩
    refine ⟨fun a' w' F => ⟨_, rfl, wanted_none rfl, arm_pick rfl (F.at' 69 107 _ rfl (by kernel_rfl)).is (fun _ => (F.at' 73 111 _ rfl (by kernel_rfl)).is) (fun h => by cases h)⟩, ?_⟩
    refine ⟨fun a' w' F => ⟨_, rfl, wanted_none rfl, arm_move (.inl rfl) (F.at' 74 112 _ rfl (by kernel_rfl)).is⟩, ?_⟩
    refine ⟨fun a' w' F => ⟨_, rfl, wanted_some rfl rfl (F.at' 75 113 _ rfl (by kernel_rfl)), arm_Of rfl (n := 4294967296) rfl (by decide)⟩, ?_⟩
    refine ⟨fun a' w' F => ⟨_, rfl, wanted_some rfl rfl (F.at' 75 113 _ rfl (by kernel_rfl)), arm_own2 (m := 0) (n := 1) rfl 4294967296 rfl rfl (by decide) (by decide) rfl⟩, ?_⟩
    refine ⟨fun a' w' F => ⟨_, rfl, wanted_some rfl rfl (F.at' 75 113 _ rfl (by kernel_rfl)), arm_nat rfl (F.at' 77 115 _ rfl (by kernel_rfl)).is (by decide) (nl_is (L := 1) (by decide) (by decide))⟩, ?_⟩
    refine ⟨fun a' w' F => ⟨_, rfl, wanted_some rfl rfl (F.at' 75 113 _ rfl (by kernel_rfl)), arm_Same rfl (F.at' 76 114 _ rfl (by kernel_rfl)).is (F.at' 78 116 _ rfl (by kernel_rfl)).is (nlb (by decide)) (nlb (by decide)) (rfl)⟩, ?_⟩
    refine ⟨fun a' w' F => ⟨_, rfl, wanted_none rfl, arm_pick rfl (F.at' 75 113 _ rfl (by kernel_rfl)).is (fun _ => (F.at' 79 117 _ rfl (by kernel_rfl)).is) (fun h => by cases h)⟩, ?_⟩
    refine ⟨fun a' w' F => ⟨_, rfl, wanted_none rfl, arm_move (.inr rfl) (F.at' 80 118 _ rfl (by kernel_rfl)).is⟩, ?_⟩
    exact trivial
  · intro a' w' F
    obtain ⟨v, h1, h2⟩ := F.at' 81 0 _ rfl
    have h3 : v = Value.bool true := h2
    subst h3
    exact hQ a' w' F.below F.defers (F.size.trans hs) h1
end Go.Proofs.Ythpndmamegfbkaa
