/- The reference's Format as an operation. The reference's small: one digit more. -/
import Derived.Test.YthpndmamegfbkaaEC
namespace Go.Proofs.Ythpndmamegfbkaa
set_option linter.unusedSimpArgs false
set_option linter.unusedVariables false
open Go.RowKit
section
variable {P : Program} {Q : Exit → Act → World → Prop}
/-- As wp_tab, for a region that keeps the order of its text. -/
theorem wp_tabF (f : Func) (r : Nat) (D : List (Nat × Tmp × Sp)) {id : Nat} {ops' : Array Oper} {a : Act} {w : World} (hops : opsOf f r = ops')
    (hlin : Region.linearise.go .any (opsOf f r) D.length 0 (Array.replicate D.length false) [] = List.range D.length)
    (hlen : (opsOf f r).size = D.length) (hok : tabOk .any (opsOf f r) (entries D) 0 (Array.replicate D.length false) a.tmps.size = true)
    (hdone : Region.ready .any (opsOf f r) (markAll ((entries D).map (·.1)) (Array.replicate D.length false)) = [])
    (steps : EachX (fun x => ∀ (a' : Act) (w' : World), Found .any (opsOf f r) D x.1 w a a' w' → ∃ o, (opsOf f r)[x.1]? = some o ∧ Region.wanted o (yielded (opsOf f r) a'.tmps) = true ∧ Arm P Q o a' w' x.2.2) D)
    (hrest : ∀ a' w', Made' D w a a' w' → Q .normal a' w') : (Code.region id ops' false).wp P Q a w := by
  subst hops
  refine wp_region ?_
  rw [hlen, ← hlin]
  refine wpAny_sound _ _ _ _ _ ?_
  have hcon : ∀ t, ((entries D).map (·.2)).contains t = false → t ∉ (entries D).map (·.2) := fun t h hm => by
    rw [List.contains_iff_mem.2 hm] at h; cases h
  have hmem : ∀ (i : Nat) (t : Tmp) (s : Sp), D[i]? = some (i, t, s) → (i, t, s) ∈ D := fun i t s h => List.mem_of_getElem? h
  have main := wpAny_tab (P := P) (Q := Q) (fuel := 0) D 0 (l := Array.replicate D.length false) (a := a) (w := w) a.tmps.size rfl hok
    (fun x hx a' w' hb hout hin => steps.mem x hx a' w' ⟨hb, fun t h => hout t (hcon t h), fun i t s h1 h2 => hin i t s (hmem i t s h1) (List.contains_iff_mem.1 h2)⟩)
    (fun a' w' hb hsz hdf hout hin => wpAny_done hdone (hrest a' w' ⟨hb, hsz, hdf, fun t h => hout t (hcon t h), fun i t s h => hin i t s (hmem i t s h)⟩) 0)
  rw [Nat.zero_add] at main
  exact main
end
section
variable {Q : Exit → Act → World → Prop} {o : Oper} {a : Act} {w : World} {x y : Operand} {m n : Nat} {tt : Array TypeId}
theorem arm_rFormat (ho : o.op = .call { callee := .value (.func 27), args := #[x], argTypes := tt }) (hx : Is a w x (.nat m)) (hm : nl m ≤ 1000000000000) {s : ByteArray} (hs : fmtB m = s) : Arm Try.prog Q o a w (.val (.string s)) := by
  subst hs
  exact arm_one ho (enters Try.func27 rfl rfl) hx (R := fun w => RetV w (.string (fmtB m))) (fun va w h1 => c_ref_Format va m w h1 hm) (fun _ _ h => ofV h)
end
end Go.Proofs.Ythpndmamegfbkaa
namespace Go.Proofs.Ythpndmamegfbkaa
set_option linter.unusedSimpArgs false
set_option linter.unusedVariables false
open Go.RowKit
def smallTab (w : World) (m k d M S : Nat) : List (Nat × Tmp × Sp) :=
   [(0, 7, .nat (m)),
    (1, 8, .val (Value.int IntKind.u64 ((k : Nat)))),
    (2, 9, .nat (k)),
    (3, 10, .nat (M)),
    (4, 11, .val (Value.int IntKind.u64 ((d : Nat)))),
    (5, 12, .nat (d)),
    (6, 13, .new w.heap.size S)]
set_option maxRecDepth 100000 in
set_option maxHeartbeats 1000000 in
theorem c_small (va : Value) (m k d : Nat) (w : World) (ha : IsN w va m) (hm : nl m ≤ 100000000000) (hk : k < 4294967296) (hd : d < 4294967296) :
    Calls Try.prog 50 #[va, .int .u64 (k : Int), .int .u64 (d : Int)] w fun e w' => RetNew w (m * k + d) e w' := by
  obtain ⟨a, ca, rfl, hca, ra⟩ := ha
  obtain ⟨k0, k1⟩ := box1 (L := nl m) (c := ca) (N := m) ⟨a, ca, rfl, hca, ra⟩
  have k3 := bel1 (w.alloc (.cells #[.slice a (nl m) ca] 24)) (.cells #[.slice none 0 0] 24)
  have k4 := VarB.made (w.alloc (.cells #[.slice a (nl m) ca] 24)) none 0 0
  rw [World.size_alloc] at k4
  obtain ⟨M, hM⟩ : ∃ M : Nat, Hid (M = m * k) := ⟨_, Lib.hid rfl⟩
  obtain ⟨S, hS⟩ : ∃ S : Nat, Hid (S = M + d) := ⟨_, Lib.hid rfl⟩
  have hk' : nl k ≤ 1000000000000 := nlb (by have : (4294967296 : Nat) ≤ 4294967296 ^ 4 := by decide
                                             omega)
  have hd' : nl d ≤ 1000000000000 := nlb (by have : (4294967296 : Nat) ≤ 4294967296 ^ 4 := by decide
                                             omega)
  have hm' : nl m ≤ 1000000000000 := by omega
  have hM' : nl M ≤ 1000000000000 := by
    have h1 := sm_mul (sm_nl hm) (show k < 4294967296 ^ 1 by rw [Nat.pow_one]; exact hk)
    rw [← hM.out] at h1
    exact Nat.le_trans (nl_le_iff.2 h1) (by decide)
  have hres : m * k + d = S := by rw [hS.out, hM.out]
  rw [hres]
  clear hres
  go_enter Try.func50, Try.ntmps50
  go_upto_region 0 with (fail)
  go_cut [3, 6] (fun s3 s6 wx => s3 = .pointer (some ⟨w.heap.size, 0, none⟩) ∧ s6 = .pointer (some ⟨w.heap.size + 1, 0, none⟩) ∧ VarI wx w.heap.size m ∧ VarB wx (w.heap.size + 1) none 0 0 ∧ Below w.heap.size w wx)
  case first =>
    go_wp2_with fail
    go_meet
    case rel => exact ⟨rfl, rfl, VarR.mono k1 k3, k4, k0.trans (k3.mono k0.size)⟩
  case rest =>
    obtain ⟨rfl, rfl, Va, vr, hb1⟩ := hcut
    clear k0 k1 k3 k4 ra hca
    go_upto_region 1 with (fail)
    refine wp_tabK Try.f50 1 (smallTab w m k d M S) (fun _ => false) 4 1 (by kernel_rfl) (by kernel_rfl) (by kernel_rfl) (by kernel_rfl) (EachX.of_all (fun _ h => by cases h) _) ?_ ?_
    · refine ⟨fun a' w' F => ⟨_, rfl, wanted_none rfl, (arm_load rfl (F.keep 3 (Value.pointer (some ⟨w.heap.size, 0, none⟩)) (by kernel_rfl) rfl).is (Va.mono F.below)).b⟩, ?_⟩
      refine ⟨fun a' w' F => ⟨_, rfl, wanted_none rfl, (arm_move (.inl rfl) (F.keep 1 (Value.int IntKind.u64 ((k : Nat))) (by kernel_rfl) rfl).is).b⟩, ?_⟩
      refine ⟨fun a' w' F => ⟨_, rfl, wanted_none rfl, (arm_rOf (n := k) rfl (F.at' 1 8 _ rfl (by kernel_rfl)).is (by omega)).b⟩, ?_⟩
      refine ⟨fun a' w' F => ⟨_, rfl, wanted_none rfl, (arm_rMul rfl (F.at' 0 7 _ rfl (by kernel_rfl)).is (F.at' 2 9 _ rfl (by kernel_rfl)).is hm' hk' hM.out.symm).b⟩, ?_⟩
      refine ⟨fun a' w' F => ⟨_, rfl, wanted_none rfl, (arm_move (.inl rfl) (F.keep 2 (Value.int IntKind.u64 ((d : Nat))) (by kernel_rfl) rfl).is).b⟩, ?_⟩
      refine ⟨fun a' w' F => ⟨_, rfl, wanted_none rfl, (arm_rOf (n := d) rfl (F.at' 4 11 _ rfl (by kernel_rfl)).is (by omega)).b⟩, ?_⟩
      refine ⟨fun a' w' F => ⟨_, rfl, wanted_none rfl, (arm_rAddN (Nat.le_trans hb1.size F.below.size) rfl (F.at' 3 10 _ rfl (by kernel_rfl)).is (F.at' 5 12 _ rfl (by kernel_rfl)).is hM' hd' hS.out.symm).b⟩, ?_⟩
      exact trivial
    intro gp wp bp G Gs
    obtain ⟨v6, e6, n6⟩ : ∃ v, gp 6 = v ∧ NewN w.heap.size wp v S := ⟨_, rfl, G 6 13 _ rfl⟩
    obtain ⟨x6, c6, rfl, hc6, hx6⟩ := n6
    have n6 : NewN w.heap.size wp (.agg #[.slice x6 (nl S) c6]) S := ⟨x6, c6, rfl, hc6, hx6⟩
    have vr2 := vr.mono bp vr.lt
    clear G Gs hc6 hx6
    simp only [smallTab]
    simp only [putD, entries, List.map_cons, List.map_nil, List.foldl_cons, List.foldl_nil, Act.put, List.setIfInBounds_toArray, List.set_cons_zero, List.set_cons_succ, e6]
    refine wpAny_store (j := 7) (by kernel_rfl) rfl rfl rfl rfl rfl rfl ⟨_, _, _, rfl⟩ vr2 ?_
    refine wpAny_done (by kernel_rfl) ?_ _
    have hB := (hb1.trans (bp.mono hb1.size)).setCell (p := ⟨w.heap.size + 1, 0, none⟩) (Nat.le_succ _) (.slice x6 (nl S) c6)
    have n7 := n6.setVar (u := .slice x6 (nl S) c6) vr2
    go_wp2
    exact bodyPost_ret (res_nat rfl _ _ (w.heap.size + 1) _ rfl vr2.set.cell) rfl ⟨_, rfl, n7, hB⟩
end Go.Proofs.Ythpndmamegfbkaa
