/- The calls of package strings, of fraction's texts, for the executor. What vector.Parse does. What vector.Format does. awake of the laws of vectors. What an argument of type api.Nat is: a row of digits. What an argument of type api.Quat is: four fractions, leading zeros allowed; its rows are no longer than memory. What arguments of the types api.Vec and api.Frac are: rows of fractions, leading zeros allowed. -/
import Derived.Test.YtacccgeppcfncaaDoorP16
import Derived.WalkKit
import Derived.ProofKit
import Derived.OpenShut
import Derived.ShutString
import Derived.ChangeOld
import Derived.Below
import Derived.SizedLaws
import Derived.Deep.Strs
namespace Go.Proofs
open Go.Shelf
def Tryd.lays138_ren : Go.Shelf.Ren := ⟨fun | 138 => 35 | 195 => 62 | 218 => 63 | 143 => 64 | 219 => 86 | 217 => 100 | 225 => 101 | 224 => 102 | 267 => 103 | 266 => 111 | 314 => 112 | n => n, fun | 9 => 9 | 3 => 3 | 4 => 4 | 5 => 5 | 0 => 0 | 46 => 94 | 146 => 102 | 51 => 89 | n => n, fun | 1 => 0 | n => n⟩
theorem Tryd.lays138 : Go.Proofs.Lays.n138 Tryd.prog Tryd.lays138_ren := {
  mixed := by kernel_rfl
  f138 := Tryd.func35.trans (congrArg some (by kernel_rfl))
  f143 := Tryd.func64.trans (congrArg some (by kernel_rfl))
  f195 := Tryd.func62.trans (congrArg some (by kernel_rfl))
  f217 := Tryd.func100.trans (congrArg some (by kernel_rfl))
  f218 := Tryd.func63.trans (congrArg some (by kernel_rfl))
  f219 := Tryd.func86.trans (congrArg some (by kernel_rfl))
  f224 := Tryd.func102.trans (congrArg some (by kernel_rfl))
  f225 := Tryd.func101.trans (congrArg some (by kernel_rfl))
  f266 := Tryd.func111.trans (congrArg some (by kernel_rfl))
  f267 := Tryd.func103.trans (congrArg some (by kernel_rfl))
  f314 := Tryd.func112.trans (congrArg some (by kernel_rfl))
  t0 := Tryd.underlying0
  a0 := Tryd.isAgg0
  z0 := Tryd.sizeOf0
  v0 := Tryd.zeroValue0
  t3 := Tryd.underlying3
  a3 := Tryd.isAgg3
  z3 := Tryd.sizeOf3
  v3 := Tryd.zeroValue3
  t4 := Tryd.underlying4
  a4 := Tryd.isAgg4
  z4 := Tryd.sizeOf4
  v4 := Tryd.zeroValue4
  t5 := Tryd.underlying5
  a5 := Tryd.isAgg5
  z5 := Tryd.sizeOf5
  v5 := Tryd.zeroValue5
  t9 := Tryd.underlying9
  a9 := Tryd.isAgg9
  z9 := Tryd.sizeOf9
  v9 := Tryd.zeroValue9
  t46 := Tryd.underlying94
  a46 := Tryd.isAgg94
  z46 := Tryd.sizeOf94
  v46 := Tryd.zeroValue94
  t51 := Tryd.underlying89
  a51 := Tryd.isAgg89
  z51 := Tryd.sizeOf89
  v51 := Tryd.zeroValue89
  t146 := Tryd.underlying102
  a146 := Tryd.isAgg102
  z146 := Tryd.sizeOf102
  v146 := Tryd.zeroValue102
  g1 := by kernel_rfl }
def Tryd.lays146_ren : Go.Shelf.Ren := ⟨fun | 146 => 36 | 221 => 65 | 268 => 87 | 138 => 35 | 143 => 64 | 195 => 62 | 197 => 104 | 218 => 63 | 219 => 86 | 260 => 113 | 217 => 100 | 225 => 101 | 224 => 102 | 267 => 103 | 266 => 111 | 314 => 112 | n => n, fun | 9 => 9 | 31 => 50 | 3 => 3 | 4 => 4 | 0 => 0 | 105 => 107 | 21 => 21 | 5 => 5 | 46 => 94 | 119 => 117 | 139 => 120 | 138 => 119 | 146 => 102 | 51 => 89 | n => n, fun | 1 => 0 | 3 => 2 | 4 => 3 | n => n⟩
theorem Tryd.lays146 : Go.Proofs.Lays.n146 Tryd.prog Tryd.lays146_ren := {
  mixed := by kernel_rfl
  f138 := Tryd.func35.trans (congrArg some (by kernel_rfl))
  f143 := Tryd.func64.trans (congrArg some (by kernel_rfl))
  f146 := Tryd.func36.trans (congrArg some (by kernel_rfl))
  f195 := Tryd.func62.trans (congrArg some (by kernel_rfl))
  f197 := Tryd.func104.trans (congrArg some (by kernel_rfl))
  f217 := Tryd.func100.trans (congrArg some (by kernel_rfl))
  f218 := Tryd.func63.trans (congrArg some (by kernel_rfl))
  f219 := Tryd.func86.trans (congrArg some (by kernel_rfl))
  f221 := Tryd.func65.trans (congrArg some (by kernel_rfl))
  f224 := Tryd.func102.trans (congrArg some (by kernel_rfl))
  f225 := Tryd.func101.trans (congrArg some (by kernel_rfl))
  f260 := Tryd.func113.trans (congrArg some (by kernel_rfl))
  f266 := Tryd.func111.trans (congrArg some (by kernel_rfl))
  f267 := Tryd.func103.trans (congrArg some (by kernel_rfl))
  f268 := Tryd.func87.trans (congrArg some (by kernel_rfl))
  f314 := Tryd.func112.trans (congrArg some (by kernel_rfl))
  t0 := Tryd.underlying0
  a0 := Tryd.isAgg0
  z0 := Tryd.sizeOf0
  v0 := Tryd.zeroValue0
  t3 := Tryd.underlying3
  a3 := Tryd.isAgg3
  z3 := Tryd.sizeOf3
  v3 := Tryd.zeroValue3
  t4 := Tryd.underlying4
  a4 := Tryd.isAgg4
  z4 := Tryd.sizeOf4
  v4 := Tryd.zeroValue4
  t5 := Tryd.underlying5
  a5 := Tryd.isAgg5
  z5 := Tryd.sizeOf5
  v5 := Tryd.zeroValue5
  t9 := Tryd.underlying9
  a9 := Tryd.isAgg9
  z9 := Tryd.sizeOf9
  v9 := Tryd.zeroValue9
  t21 := Tryd.underlying21
  a21 := Tryd.isAgg21
  z21 := Tryd.sizeOf21
  v21 := Tryd.zeroValue21
  t31 := Tryd.underlying50
  a31 := Tryd.isAgg50
  z31 := Tryd.sizeOf50
  v31 := Tryd.zeroValue50
  t46 := Tryd.underlying94
  a46 := Tryd.isAgg94
  z46 := Tryd.sizeOf94
  v46 := Tryd.zeroValue94
  t51 := Tryd.underlying89
  a51 := Tryd.isAgg89
  z51 := Tryd.sizeOf89
  v51 := Tryd.zeroValue89
  t105 := Tryd.underlying107
  a105 := Tryd.isAgg107
  z105 := Tryd.sizeOf107
  v105 := Tryd.zeroValue107
  t119 := Tryd.underlying117
  a119 := Tryd.isAgg117
  z119 := Tryd.sizeOf117
  t138 := Tryd.underlying119
  a138 := Tryd.isAgg119
  z138 := Tryd.sizeOf119
  v138 := Tryd.zeroValue119
  t139 := Tryd.underlying120
  a139 := Tryd.isAgg120
  z139 := Tryd.sizeOf120
  v139 := Tryd.zeroValue120
  t146 := Tryd.underlying102
  a146 := Tryd.isAgg102
  z146 := Tryd.sizeOf102
  v146 := Tryd.zeroValue102
  g1 := by kernel_rfl
  g3 := by kernel_rfl
  g4 := by kernel_rfl }
end Go.Proofs
namespace Go.Proofs.YtacccgeppcfncaaDoor
set_option linter.unusedSimpArgs false
set_option linter.unusedVariables false
set_option maxRecDepth 100000
open Go.RowKit
theorem c_Count1 (s : ByteArray) (c : UInt8) (w : World) : Calls Tryd.prog 35 #[.string s, .string (b1 c)] w fun e w' => e = .returned (.int .i64 (Lib.countByte s.data.toList c)) ∧ w' = w := Any.strings_Count_one Tryd.lays138 s c w
theorem c_Split1 (s : ByteArray) (c : UInt8) (w : World) (hs : s.size < 4294967281) : Calls Tryd.prog 36 #[.string s, .string (b1 c)] w fun e w' =>
    e = .returned (.slice (some ⟨w.heap.size, 0, none⟩) (Lib.countB s (b1 c) + 1) (Lib.countB s (b1 c) + 1)) ∧ w' = w.alloc (.cells ((Lib.splitB (b1 c) 0 (Lib.countB s (b1 c)) s).map Value.string).toArray strT) :=
  Any.strings_Split_one Tryd.lays146 (by kernel_rfl) s c w hs
section
variable {xs : List Fq} {ys : Rho} {n m k i : Nat} {x : Fq} {s : ByteArray} {c : UInt8} {l : Leaf} {e : Int} {ss : List ByteArray}
theorem I_Count (hn : (frs xs ++ ys)[n]? = some (.val (.string s))) (hl : ∀ B w, l.holds (frs xs ++ ys) B w (.int .i64 (Lib.countB s (b1 c) : Int))) : OkI xs ys ⟨35, [.one (.ref n), .one (.s (b1 c))], .v (.one l)⟩ :=
  ⟨enters Tryd.func35 rfl rfl, fun B w vs h => by
    match vs, h with
    | [va, vb], h =>
      have e1 := leaf_val (B := B) hn h.1
      have e2 : vb = .string (b1 c) := h.2.1
      subst e1; subst e2
      refine (c_Count1 s c w).mono ?_
      rintro e w' ⟨rfl, rfl⟩
      refine ⟨_, rfl, ?_, Below.refl _ _⟩
      have e3 : (Lib.countByte s.data.toList c) = Lib.countB s (b1 c) := (Lib.count_one c s.data.toList).symm
      rw [e3]
      exact hl B w'⟩
theorem I_Split (hn : (frs xs ++ ys)[n]? = some (.val (.string s))) (hm : (frs xs ++ ys)[m]? = some (.strs ss)) (hl : Lib.splitB (b1 c) 0 (Lib.countB s (b1 c)) s = ss) (hs : s.size < 4294967281) : OkI xs ys ⟨36, [.one (.ref n), .one (.s (b1 c))], .v (.one (.ref m))⟩ :=
  ⟨enters Tryd.func36 rfl rfl, fun B w vs h => by
    match vs, h with
    | [va, vb], h =>
      have e1 := leaf_val (B := B) hn h.1
      have e2 : vb = .string (b1 c) := h.2.1
      subst e1; subst e2
      refine (c_Split1 s c w hs).mono ?_
      rintro e w' ⟨rfl, rfl⟩
      have hlen := Lib.splitB_all (b1 c) (Nat.le_refl 1) 0 _ s rfl
      rw [hl] at hlen
      rw [hl]
      refine ⟨_, rfl, ⟨_, hm, w.heap.size, 0, _, _, by rw [hlen], heap_alloc_new w _, fun j z hj => ?_⟩, bel1 w _⟩
      simp [hj]⟩
theorem instP {f : FuncId} (hen : Ent' f) (hc : ∀ w, Calls Tryd.prog f #[.string s] w (fun a w' => RetQE w x e a w')) (hn : (frs xs ++ ys)[n]? = some (.val (.string s))) (hk : xs[k]? = some x) (hl : ∀ B w, l.holds (frs xs ++ ys) B w (.int .i64 e)) : OkI xs ys ⟨f, [.one (.ref n)], .tup [fr k, .one l]⟩ :=
  ⟨hen, fun B w vs h => by
    match vs, h with
    | [va], h =>
      have e1 := leaf_val (B := B) hn h.1
      subst e1
      refine (hc w).mono ?_
      rintro a w' ⟨v, rfl, h1, h2⟩
      exact ⟨_, rfl, ⟨[v, .int .i64 e], rfl, (fr_isQ hk).2 h1, hl B w', trivial⟩, h2⟩⟩
theorem I_fParse (hn : (frs xs ++ ys)[n]? = some (.val (.string s))) (hk : xs[k]? = some x) (hl : ∀ B w, l.holds (frs xs ++ ys) B w (.int .i64 e)) (h : FP s x e) (hs : s.size ≤ 4294967280) : OkI xs ys ⟨37, [.one (.ref n)], .tup [fr k, .one l]⟩ :=
  instP (enters Tryd.func37 rfl rfl) (fun w => q_fParse s x e w h hs) hn hk hl
theorem I_fFormat (hi : xs[i]? = some x) (hl : ∀ B w, l.holds (frs xs ++ ys) B w (.string x.fmt)) (ox : x.ok 1000000000) : OkI xs ys ⟨39, [fr i], .v (.one l)⟩ :=
  inst1V (enters Tryd.func39 rfl rfl) (fun va w h1 => q_fFormat va x w h1 ox) hi hl
end
end Go.Proofs.YtacccgeppcfncaaDoor
namespace Go.Proofs.YtacccgeppcfncaaDoor
set_option linter.unusedSimpArgs false
set_option linter.unusedVariables false
set_option maxRecDepth 100000
open Go.RowKit
abbrev RetVqE (W : World) (a : Vq) (c : Int) (e : Ending) (w' : World) : Prop := RetLE W [a.x.raw, a.y.raw, a.z.raw] c e w'
theorem bneq_f {u c : Int} (h : u = c) : (u != c) = false := by simpa using h
theorem bneq_t {u c : Int} (h : u ≠ c) : (u != c) = true := by simpa using h
def xvP1X (s : ByteArray) : List Fq := []
theorem q_vP1 (s : ByteArray) (w : World) (h1 : s.size < 2) (hs : s.size ≤ 4294967280) : Calls Tryd.prog 13 #[.string s] w fun e w' => RetVqE w .zero 2 e w' := by
  refine (calls_runFn (ρ := frs (xvP1X s) ++ [.val (.string s), .val (.int .i64 ((s.size : Nat) : Int))]) (w := w) (fuel := 300) (args := [.one (.ref 0)]) (vs := [.string s]) (r := .tup [.agg [.b false, .sl0, .sl0, .b false, .sl0, .sl0, .b false, .sl0, .sl0], .one (.i .i64 2)])
    (il_nil)
    (ol_cons (o_lenS (n := 0) (m := 1) (t := 9) (by kernel_rfl) rfl rfl) (ol_cons (o_lssK (n := 1) (c := 2) (u := ((s.size : Nat) : Int)) (b := true) (t := 3) rfl (decide_eq_true (by omega))) (ol_nil))) (by kernel_rfl) Tryd.func13 (by kernel_rfl) ⟨ls (n := 0) rfl (fun _ => none) w, trivial⟩).mono ?_
  rintro e w' ⟨v, rfl, ⟨vs, rfl, h1⟩, h2⟩
  match vs, h1 with
  | [r, cv], h1 =>
    obtain ⟨⟨cs, rfl, k1⟩, k2, _⟩ := h1
    have k2 : cv = _ := k2
    subst k2
    exact ⟨_, rfl, ⟨_, rfl, zero_row (n := 3) k1⟩, h2⟩
def xvP2X (s : ByteArray) : List Fq := []
theorem q_vP2 (s : ByteArray) (w : World) (h1 : 2 ≤ s.size) (h2 : by' s 0 ≠ 40) (hs : s.size ≤ 4294967280) : Calls Tryd.prog 13 #[.string s] w fun e w' => RetVqE w .zero 2 e w' := by
  refine (calls_runFn (ρ := frs (xvP2X s) ++ [.val (.string s), .val (.int .i64 ((s.size : Nat) : Int)), .val (.int .u8 ((by' s 0 : Nat) : Int))]) (w := w) (fuel := 300) (args := [.one (.ref 0)]) (vs := [.string s]) (r := .tup [.agg [.b false, .sl0, .sl0, .b false, .sl0, .sl0, .b false, .sl0, .sl0], .one (.i .i64 2)])
    (il_nil)
    (ol_cons (o_lenS (n := 0) (m := 1) (t := 9) (by kernel_rfl) rfl rfl) (ol_cons (o_lssK (n := 1) (c := 2) (u := ((s.size : Nat) : Int)) (b := false) (t := 3) rfl (decide_eq_false (by omega))) (ol_cons (o_idxS (n := 0) (m := 2) (k := 0) (c := 0) (t := 9) (by kernel_rfl) rfl rfl (by omega) rfl) (ol_cons (o_neqK (n := 2) (c := 40) (u := ((by' s 0 : Nat) : Int)) (b := true) (t := 5) rfl (bneq_t (by omega))) (ol_nil))))) (by kernel_rfl) Tryd.func13 (by kernel_rfl) ⟨ls (n := 0) rfl (fun _ => none) w, trivial⟩).mono ?_
  rintro e w' ⟨v, rfl, ⟨vs, rfl, h1⟩, h2⟩
  match vs, h1 with
  | [r, cv], h1 =>
    obtain ⟨⟨cs, rfl, k1⟩, k2, _⟩ := h1
    have k2 : cv = _ := k2
    subst k2
    exact ⟨_, rfl, ⟨_, rfl, zero_row (n := 3) k1⟩, h2⟩
def xvP3X (s : ByteArray) : List Fq := []
theorem q_vP3 (s : ByteArray) (w : World) (h1 : 2 ≤ s.size) (h2 : by' s 0 = 40) (h3 : by' s (s.size - 1) ≠ 41) (hs : s.size ≤ 4294967280) : Calls Tryd.prog 13 #[.string s] w fun e w' => RetVqE w .zero 2 e w' := by
  refine (calls_runFn (ρ := frs (xvP3X s) ++ [.val (.string s), .val (.int .i64 ((s.size : Nat) : Int)), .val (.int .u8 ((by' s 0 : Nat) : Int)), .val (.int .i64 (((s.size : Nat) : Int) - 1)), .val (.int .u8 (((by' s (s.size - 1)) : Nat) : Int))]) (w := w) (fuel := 300) (args := [.one (.ref 0)]) (vs := [.string s]) (r := .tup [.agg [.b false, .sl0, .sl0, .b false, .sl0, .sl0, .b false, .sl0, .sl0], .one (.i .i64 2)])
    (il_nil)
    (ol_cons (o_lenS (n := 0) (m := 1) (t := 9) (by kernel_rfl) rfl rfl) (ol_cons (o_lssK (n := 1) (c := 2) (u := ((s.size : Nat) : Int)) (b := false) (t := 3) rfl (decide_eq_false (by omega))) (ol_cons (o_idxS (n := 0) (m := 2) (k := 0) (c := 0) (t := 9) (by kernel_rfl) rfl rfl (by omega) rfl) (ol_cons (o_neqK (n := 2) (c := 40) (u := ((by' s 0 : Nat) : Int)) (b := false) (t := 5) rfl (bneq_f (by omega))) (ol_cons (o_subK (n := 1) (m := 3) (c := 1) (u := ((s.size : Nat) : Int)) (v := (((s.size : Nat) : Int) - 1)) (t := 3) rfl rfl rfl (by omega) (by omega)) (ol_cons (o_idxR (n := 0) (k := 3) (m := 4) (u := (((s.size : Nat) : Int) - 1)) (b := (by' s (s.size - 1))) (t := 9) (by kernel_rfl) rfl rfl rfl (by omega) (by omega) (congrArg (by' s) (by omega))) (ol_cons (o_neqK (n := 4) (c := 41) (u := (((by' s (s.size - 1)) : Nat) : Int)) (b := true) (t := 5) rfl (bneq_t (by omega))) (ol_nil)))))))) (by kernel_rfl) Tryd.func13 (by kernel_rfl) ⟨ls (n := 0) rfl (fun _ => none) w, trivial⟩).mono ?_
  rintro e w' ⟨v, rfl, ⟨vs, rfl, h1⟩, h2⟩
  match vs, h1 with
  | [r, cv], h1 =>
    obtain ⟨⟨cs, rfl, k1⟩, k2, _⟩ := h1
    have k2 : cv = _ := k2
    subst k2
    exact ⟨_, rfl, ⟨_, rfl, zero_row (n := 3) k1⟩, h2⟩
def xvP4X (s : ByteArray) : List Fq := []
theorem q_vP4 (s : ByteArray) (w : World) (h1 : 2 ≤ s.size) (h2 : by' s 0 = 40) (h3 : by' s (s.size - 1) = 41) (h4 : Lib.countB s (b1 32) ≠ 2) (hs : s.size ≤ 4294967280) : Calls Tryd.prog 13 #[.string s] w fun e w' => RetVqE w .zero 2 e w' := by
  refine (calls_runFn (ρ := frs (xvP4X s) ++ [.val (.string s), .val (.int .i64 ((s.size : Nat) : Int)), .val (.int .u8 ((by' s 0 : Nat) : Int)), .val (.int .i64 (((s.size : Nat) : Int) - 1)), .val (.int .u8 (((by' s (s.size - 1)) : Nat) : Int)), .val (.int .i64 ((Lib.countB s (b1 32) : Nat) : Int))]) (w := w) (fuel := 300) (args := [.one (.ref 0)]) (vs := [.string s]) (r := .tup [.agg [.b false, .sl0, .sl0, .b false, .sl0, .sl0, .b false, .sl0, .sl0], .one (.i .i64 2)])
    (il_cons (I_Count (n := 0) rfl (lr (n := 5) rfl)) il_nil)
    (ol_cons (o_lenS (n := 0) (m := 1) (t := 9) (by kernel_rfl) rfl rfl) (ol_cons (o_lssK (n := 1) (c := 2) (u := ((s.size : Nat) : Int)) (b := false) (t := 3) rfl (decide_eq_false (by omega))) (ol_cons (o_idxS (n := 0) (m := 2) (k := 0) (c := 0) (t := 9) (by kernel_rfl) rfl rfl (by omega) rfl) (ol_cons (o_neqK (n := 2) (c := 40) (u := ((by' s 0 : Nat) : Int)) (b := false) (t := 5) rfl (bneq_f (by omega))) (ol_cons (o_subK (n := 1) (m := 3) (c := 1) (u := ((s.size : Nat) : Int)) (v := (((s.size : Nat) : Int) - 1)) (t := 3) rfl rfl rfl (by omega) (by omega)) (ol_cons (o_idxR (n := 0) (k := 3) (m := 4) (u := (((s.size : Nat) : Int) - 1)) (b := (by' s (s.size - 1))) (t := 9) (by kernel_rfl) rfl rfl rfl (by omega) (by omega) (congrArg (by' s) (by omega))) (ol_cons (o_neqK (n := 4) (c := 41) (u := (((by' s (s.size - 1)) : Nat) : Int)) (b := false) (t := 5) rfl (bneq_f (by omega))) (ol_cons (o_neqK (n := 5) (c := 2) (u := ((Lib.countB s (b1 32) : Nat) : Int)) (b := true) (t := 3) rfl (bneq_t (by omega))) (ol_nil))))))))) (by kernel_rfl) Tryd.func13 (by kernel_rfl) ⟨ls (n := 0) rfl (fun _ => none) w, trivial⟩).mono ?_
  rintro e w' ⟨v, rfl, ⟨vs, rfl, h1⟩, h2⟩
  match vs, h1 with
  | [r, cv], h1 =>
    obtain ⟨⟨cs, rfl, k1⟩, k2, _⟩ := h1
    have k2 : cv = _ := k2
    subst k2
    exact ⟨_, rfl, ⟨_, rfl, zero_row (n := 3) k1⟩, h2⟩
def xvP5X (s : ByteArray) (i j : Nat) (x : Fq) (c : Int) : List Fq := [x]
theorem q_vP5 (s : ByteArray) (i j : Nat) (x : Fq) (c : Int) (w : World) (h : VCut s i j) (hx : FP (s.extract 1 i) x c) (h0 : c ≠ 0) (hs : s.size ≤ 4294967280) : Calls Tryd.prog 13 #[.string s] w fun e w' => RetVqE w .zero c e w' := by
  have hk := vcut_inner h
  obtain ⟨h1, h2, h3, _⟩ := h
  have q1 := hk.1
  have q2 := hk.2.1
  have q3 := hk.2.2.1
  refine (calls_runFn (ρ := frs (xvP5X s i j x c) ++ [.val (.string s), .val (.int .i64 ((s.size : Nat) : Int)), .val (.int .u8 ((by' s 0 : Nat) : Int)), .val (.int .i64 (((s.size : Nat) : Int) - 1)), .val (.int .u8 (((by' s (s.size - 1)) : Nat) : Int)), .val (.string (s.extract 1 (s.size - 1))), .strs [s.extract 1 i, s.extract (i + 1) j, s.extract (j + 1) (s.size - 1)], .strp (s.extract 1 i), .val (.string (s.extract 1 i)), .val (.int .i64 c)]) (w := w) (fuel := 300) (args := [.one (.ref 3)]) (vs := [.string s]) (r := .tup [.agg [.b false, .sl0, .sl0, .b false, .sl0, .sl0, .b false, .sl0, .sl0], .one (.ref 12)])
    (il_cons (I_Count (n := 3) rfl (li (by rw [hk.2.2.2.1]))) (il_cons (I_Split (n := 8) (m := 9) (s := (s.extract 1 (s.size - 1))) (ss := [s.extract 1 i, s.extract (i + 1) j, s.extract (j + 1) (s.size - 1)]) rfl rfl (by rw [hk.2.2.2.2.1]; exact hk.2.2.2.2.2) (by rw [sz_ex (by omega)]; omega)) (il_cons (I_fParse (n := 11) (k := 0) (s := (s.extract 1 i)) rfl rfl (lr (n := 12) rfl) hx (by rw [sz_ex (by omega)]; omega)) il_nil)))
    (ol_cons (o_lenS (n := 3) (m := 4) (t := 9) (by kernel_rfl) rfl rfl) (ol_cons (o_lssK (n := 4) (c := 2) (u := ((s.size : Nat) : Int)) (b := false) (t := 3) rfl (decide_eq_false (by omega))) (ol_cons (o_idxS (n := 3) (m := 5) (k := 0) (c := 0) (t := 9) (by kernel_rfl) rfl rfl (by omega) rfl) (ol_cons (o_neqK (n := 5) (c := 40) (u := ((by' s 0 : Nat) : Int)) (b := false) (t := 5) rfl (bneq_f (by omega))) (ol_cons (o_subK (n := 4) (m := 6) (c := 1) (u := ((s.size : Nat) : Int)) (v := (((s.size : Nat) : Int) - 1)) (t := 3) rfl rfl rfl (by omega) (by omega)) (ol_cons (o_idxR (n := 3) (k := 6) (m := 7) (u := (((s.size : Nat) : Int) - 1)) (b := (by' s (s.size - 1))) (t := 9) (by kernel_rfl) rfl rfl rfl (by omega) (by omega) (congrArg (by' s) (by omega))) (ol_cons (o_neqK (n := 7) (c := 41) (u := (((by' s (s.size - 1)) : Nat) : Int)) (b := false) (t := 5) rfl (bneq_f (by omega))) (ol_cons (o_slS (n := 3) (k := 6) (m := 8) (c := 1) (u := (((s.size : Nat) : Int) - 1)) (z := (s.extract 1 (s.size - 1))) (t := 9) (by kernel_rfl) rfl rfl rfl (by omega) (by omega) (by omega) (congrArg (s.extract 1) (by omega))) (ol_cons (o_iaS (n := 9) (m := 10) (k := 0) (l := [s.extract 1 i, s.extract (i + 1) j, s.extract (j + 1) (s.size - 1)]) (s := s.extract 1 i) (t := 50) rfl rfl Tryd.underlying50 (by kernel_rfl) rfl) (ol_cons (o_ldS (n := 10) (m := 11) (s := (s.extract 1 i)) (t := 9) rfl rfl (by kernel_rfl)) (ol_cons (o_neqK (n := 12) (c := 0) (u := c) (b := true) (t := 33) rfl (bneq_t h0)) (ol_nil)))))))))))) (by kernel_rfl) Tryd.func13 (by kernel_rfl) ⟨ls (n := 3) rfl (fun _ => none) w, trivial⟩).mono ?_
  rintro e w' ⟨v, rfl, ⟨vs, rfl, h1⟩, h2⟩
  match vs, h1 with
  | [r, cv], h1 =>
    obtain ⟨⟨cs, rfl, k1⟩, k2, _⟩ := h1
    obtain ⟨sv, q1, q2⟩ := k2
    have q3 : some (Vp.val (.int .i64 c)) = some sv := q1
    injection q3 with q3
    subst q3
    have k2 : cv = .int .i64 c := q2.1
    subst k2
    exact ⟨_, rfl, ⟨_, rfl, zero_row (n := 3) k1⟩, h2⟩
def xvP6X (s : ByteArray) (i j : Nat) (x y : Fq) (c : Int) : List Fq := [x, y]
theorem q_vP6 (s : ByteArray) (i j : Nat) (x y : Fq) (c : Int) (w : World) (h : VCut s i j) (hx : FP (s.extract 1 i) x 0) (hy : FP (s.extract (i + 1) j) y c) (h0 : c ≠ 0) (hs : s.size ≤ 4294967280) : Calls Tryd.prog 13 #[.string s] w fun e w' => RetVqE w .zero c e w' := by
  have hk := vcut_inner h
  obtain ⟨h1, h2, h3, _⟩ := h
  have q1 := hk.1
  have q2 := hk.2.1
  have q3 := hk.2.2.1
  refine (calls_runFn (ρ := frs (xvP6X s i j x y c) ++ [.val (.string s), .val (.int .i64 ((s.size : Nat) : Int)), .val (.int .u8 ((by' s 0 : Nat) : Int)), .val (.int .i64 (((s.size : Nat) : Int) - 1)), .val (.int .u8 (((by' s (s.size - 1)) : Nat) : Int)), .val (.string (s.extract 1 (s.size - 1))), .strs [s.extract 1 i, s.extract (i + 1) j, s.extract (j + 1) (s.size - 1)], .strp (s.extract 1 i), .val (.string (s.extract 1 i)), .strp (s.extract (i + 1) j), .val (.string (s.extract (i + 1) j)), .val (.int .i64 c)]) (w := w) (fuel := 300) (args := [.one (.ref 6)]) (vs := [.string s]) (r := .tup [.agg [.b false, .sl0, .sl0, .b false, .sl0, .sl0, .b false, .sl0, .sl0], .one (.ref 17)])
    (il_cons (I_Count (n := 6) rfl (li (by rw [hk.2.2.2.1]))) (il_cons (I_Split (n := 11) (m := 12) (s := (s.extract 1 (s.size - 1))) (ss := [s.extract 1 i, s.extract (i + 1) j, s.extract (j + 1) (s.size - 1)]) rfl rfl (by rw [hk.2.2.2.2.1]; exact hk.2.2.2.2.2) (by rw [sz_ex (by omega)]; omega)) (il_cons (I_fParse (n := 14) (k := 0) (s := (s.extract 1 i)) rfl rfl (li rfl) hx (by rw [sz_ex (by omega)]; omega)) (il_cons (I_fParse (n := 16) (k := 1) (s := (s.extract (i + 1) j)) rfl rfl (lr (n := 17) rfl) hy (by rw [sz_ex (by omega)]; omega)) il_nil))))
    (ol_cons (o_lenS (n := 6) (m := 7) (t := 9) (by kernel_rfl) rfl rfl) (ol_cons (o_lssK (n := 7) (c := 2) (u := ((s.size : Nat) : Int)) (b := false) (t := 3) rfl (decide_eq_false (by omega))) (ol_cons (o_idxS (n := 6) (m := 8) (k := 0) (c := 0) (t := 9) (by kernel_rfl) rfl rfl (by omega) rfl) (ol_cons (o_neqK (n := 8) (c := 40) (u := ((by' s 0 : Nat) : Int)) (b := false) (t := 5) rfl (bneq_f (by omega))) (ol_cons (o_subK (n := 7) (m := 9) (c := 1) (u := ((s.size : Nat) : Int)) (v := (((s.size : Nat) : Int) - 1)) (t := 3) rfl rfl rfl (by omega) (by omega)) (ol_cons (o_idxR (n := 6) (k := 9) (m := 10) (u := (((s.size : Nat) : Int) - 1)) (b := (by' s (s.size - 1))) (t := 9) (by kernel_rfl) rfl rfl rfl (by omega) (by omega) (congrArg (by' s) (by omega))) (ol_cons (o_neqK (n := 10) (c := 41) (u := (((by' s (s.size - 1)) : Nat) : Int)) (b := false) (t := 5) rfl (bneq_f (by omega))) (ol_cons (o_slS (n := 6) (k := 9) (m := 11) (c := 1) (u := (((s.size : Nat) : Int) - 1)) (z := (s.extract 1 (s.size - 1))) (t := 9) (by kernel_rfl) rfl rfl rfl (by omega) (by omega) (by omega) (congrArg (s.extract 1) (by omega))) (ol_cons (o_iaS (n := 12) (m := 13) (k := 0) (l := [s.extract 1 i, s.extract (i + 1) j, s.extract (j + 1) (s.size - 1)]) (s := s.extract 1 i) (t := 50) rfl rfl Tryd.underlying50 (by kernel_rfl) rfl) (ol_cons (o_ldS (n := 13) (m := 14) (s := (s.extract 1 i)) (t := 9) rfl rfl (by kernel_rfl)) (ol_cons (o_iaS (n := 12) (m := 15) (k := 1) (l := [s.extract 1 i, s.extract (i + 1) j, s.extract (j + 1) (s.size - 1)]) (s := s.extract (i + 1) j) (t := 50) rfl rfl Tryd.underlying50 (by kernel_rfl) rfl) (ol_cons (o_ldS (n := 15) (m := 16) (s := (s.extract (i + 1) j)) (t := 9) rfl rfl (by kernel_rfl)) (ol_cons (o_neqK (n := 17) (c := 0) (u := c) (b := true) (t := 33) rfl (bneq_t h0)) (ol_nil)))))))))))))) (by kernel_rfl) Tryd.func13 (by kernel_rfl) ⟨ls (n := 6) rfl (fun _ => none) w, trivial⟩).mono ?_
  rintro e w' ⟨v, rfl, ⟨vs, rfl, h1⟩, h2⟩
  match vs, h1 with
  | [r, cv], h1 =>
    obtain ⟨⟨cs, rfl, k1⟩, k2, _⟩ := h1
    obtain ⟨sv, q1, q2⟩ := k2
    have q3 : some (Vp.val (.int .i64 c)) = some sv := q1
    injection q3 with q3
    subst q3
    have k2 : cv = .int .i64 c := q2.1
    subst k2
    exact ⟨_, rfl, ⟨_, rfl, zero_row (n := 3) k1⟩, h2⟩
def xvP7X (s : ByteArray) (i j : Nat) (x y z : Fq) (c : Int) : List Fq := [x, y, z]
theorem q_vP7 (s : ByteArray) (i j : Nat) (x y z : Fq) (c : Int) (w : World) (h : VCut s i j) (hx : FP (s.extract 1 i) x 0) (hy : FP (s.extract (i + 1) j) y 0) (hz : FP (s.extract (j + 1) (s.size - 1)) z c) (h0 : c ≠ 0) (hs : s.size ≤ 4294967280) : Calls Tryd.prog 13 #[.string s] w fun e w' => RetVqE w .zero c e w' := by
  have hk := vcut_inner h
  obtain ⟨h1, h2, h3, _⟩ := h
  have q1 := hk.1
  have q2 := hk.2.1
  have q3 := hk.2.2.1
  refine (calls_runFn (ρ := frs (xvP7X s i j x y z c) ++ [.val (.string s), .val (.int .i64 ((s.size : Nat) : Int)), .val (.int .u8 ((by' s 0 : Nat) : Int)), .val (.int .i64 (((s.size : Nat) : Int) - 1)), .val (.int .u8 (((by' s (s.size - 1)) : Nat) : Int)), .val (.string (s.extract 1 (s.size - 1))), .strs [s.extract 1 i, s.extract (i + 1) j, s.extract (j + 1) (s.size - 1)], .strp (s.extract 1 i), .val (.string (s.extract 1 i)), .strp (s.extract (i + 1) j), .val (.string (s.extract (i + 1) j)), .strp (s.extract (j + 1) (s.size - 1)), .val (.string (s.extract (j + 1) (s.size - 1))), .val (.int .i64 c)]) (w := w) (fuel := 300) (args := [.one (.ref 9)]) (vs := [.string s]) (r := .tup [.agg [.b false, .sl0, .sl0, .b false, .sl0, .sl0, .b false, .sl0, .sl0], .one (.ref 22)])
    (il_cons (I_Count (n := 9) rfl (li (by rw [hk.2.2.2.1]))) (il_cons (I_Split (n := 14) (m := 15) (s := (s.extract 1 (s.size - 1))) (ss := [s.extract 1 i, s.extract (i + 1) j, s.extract (j + 1) (s.size - 1)]) rfl rfl (by rw [hk.2.2.2.2.1]; exact hk.2.2.2.2.2) (by rw [sz_ex (by omega)]; omega)) (il_cons (I_fParse (n := 17) (k := 0) (s := (s.extract 1 i)) rfl rfl (li rfl) hx (by rw [sz_ex (by omega)]; omega)) (il_cons (I_fParse (n := 19) (k := 1) (s := (s.extract (i + 1) j)) rfl rfl (li rfl) hy (by rw [sz_ex (by omega)]; omega)) (il_cons (I_fParse (n := 21) (k := 2) (s := (s.extract (j + 1) (s.size - 1))) rfl rfl (lr (n := 22) rfl) hz (by rw [sz_ex (by omega)]; omega)) il_nil)))))
    (ol_cons (o_lenS (n := 9) (m := 10) (t := 9) (by kernel_rfl) rfl rfl) (ol_cons (o_lssK (n := 10) (c := 2) (u := ((s.size : Nat) : Int)) (b := false) (t := 3) rfl (decide_eq_false (by omega))) (ol_cons (o_idxS (n := 9) (m := 11) (k := 0) (c := 0) (t := 9) (by kernel_rfl) rfl rfl (by omega) rfl) (ol_cons (o_neqK (n := 11) (c := 40) (u := ((by' s 0 : Nat) : Int)) (b := false) (t := 5) rfl (bneq_f (by omega))) (ol_cons (o_subK (n := 10) (m := 12) (c := 1) (u := ((s.size : Nat) : Int)) (v := (((s.size : Nat) : Int) - 1)) (t := 3) rfl rfl rfl (by omega) (by omega)) (ol_cons (o_idxR (n := 9) (k := 12) (m := 13) (u := (((s.size : Nat) : Int) - 1)) (b := (by' s (s.size - 1))) (t := 9) (by kernel_rfl) rfl rfl rfl (by omega) (by omega) (congrArg (by' s) (by omega))) (ol_cons (o_neqK (n := 13) (c := 41) (u := (((by' s (s.size - 1)) : Nat) : Int)) (b := false) (t := 5) rfl (bneq_f (by omega))) (ol_cons (o_slS (n := 9) (k := 12) (m := 14) (c := 1) (u := (((s.size : Nat) : Int) - 1)) (z := (s.extract 1 (s.size - 1))) (t := 9) (by kernel_rfl) rfl rfl rfl (by omega) (by omega) (by omega) (congrArg (s.extract 1) (by omega))) (ol_cons (o_iaS (n := 15) (m := 16) (k := 0) (l := [s.extract 1 i, s.extract (i + 1) j, s.extract (j + 1) (s.size - 1)]) (s := s.extract 1 i) (t := 50) rfl rfl Tryd.underlying50 (by kernel_rfl) rfl) (ol_cons (o_ldS (n := 16) (m := 17) (s := (s.extract 1 i)) (t := 9) rfl rfl (by kernel_rfl)) (ol_cons (o_iaS (n := 15) (m := 18) (k := 1) (l := [s.extract 1 i, s.extract (i + 1) j, s.extract (j + 1) (s.size - 1)]) (s := s.extract (i + 1) j) (t := 50) rfl rfl Tryd.underlying50 (by kernel_rfl) rfl) (ol_cons (o_ldS (n := 18) (m := 19) (s := (s.extract (i + 1) j)) (t := 9) rfl rfl (by kernel_rfl)) (ol_cons (o_iaS (n := 15) (m := 20) (k := 2) (l := [s.extract 1 i, s.extract (i + 1) j, s.extract (j + 1) (s.size - 1)]) (s := s.extract (j + 1) (s.size - 1)) (t := 50) rfl rfl Tryd.underlying50 (by kernel_rfl) rfl) (ol_cons (o_ldS (n := 20) (m := 21) (s := (s.extract (j + 1) (s.size - 1))) (t := 9) rfl rfl (by kernel_rfl)) (ol_cons (o_neqK (n := 22) (c := 0) (u := c) (b := true) (t := 33) rfl (bneq_t h0)) (ol_nil)))))))))))))))) (by kernel_rfl) Tryd.func13 (by kernel_rfl) ⟨ls (n := 9) rfl (fun _ => none) w, trivial⟩).mono ?_
  rintro e w' ⟨v, rfl, ⟨vs, rfl, h1⟩, h2⟩
  match vs, h1 with
  | [r, cv], h1 =>
    obtain ⟨⟨cs, rfl, k1⟩, k2, _⟩ := h1
    obtain ⟨sv, q1, q2⟩ := k2
    have q3 : some (Vp.val (.int .i64 c)) = some sv := q1
    injection q3 with q3
    subst q3
    have k2 : cv = .int .i64 c := q2.1
    subst k2
    exact ⟨_, rfl, ⟨_, rfl, zero_row (n := 3) k1⟩, h2⟩
def xvP8X (s : ByteArray) (i j : Nat) (x y z : Fq) : List Fq := [x, y, z]
theorem q_vP8 (s : ByteArray) (i j : Nat) (x y z : Fq) (w : World) (h : VCut s i j) (hx : FP (s.extract 1 i) x 0) (hy : FP (s.extract (i + 1) j) y 0) (hz : FP (s.extract (j + 1) (s.size - 1)) z 0) (hs : s.size ≤ 4294967280) : Calls Tryd.prog 13 #[.string s] w fun e w' => RetVqE w ⟨x, y, z⟩ 0 e w' := by
  have hk := vcut_inner h
  obtain ⟨h1, h2, h3, _⟩ := h
  have q1 := hk.1
  have q2 := hk.2.1
  have q3 := hk.2.2.1
  refine (calls_runFn (ρ := frs (xvP8X s i j x y z) ++ [.val (.string s), .val (.int .i64 ((s.size : Nat) : Int)), .val (.int .u8 ((by' s 0 : Nat) : Int)), .val (.int .i64 (((s.size : Nat) : Int) - 1)), .val (.int .u8 (((by' s (s.size - 1)) : Nat) : Int)), .val (.string (s.extract 1 (s.size - 1))), .strs [s.extract 1 i, s.extract (i + 1) j, s.extract (j + 1) (s.size - 1)], .strp (s.extract 1 i), .val (.string (s.extract 1 i)), .strp (s.extract (i + 1) j), .val (.string (s.extract (i + 1) j)), .strp (s.extract (j + 1) (s.size - 1)), .val (.string (s.extract (j + 1) (s.size - 1)))]) (w := w) (fuel := 300) (args := [.one (.ref 9)]) (vs := [.string s]) (r := .tup [row [0, 1, 2], .one (.i .i64 0)])
    (il_cons (I_Count (n := 9) rfl (li (by rw [hk.2.2.2.1]))) (il_cons (I_Split (n := 14) (m := 15) (s := (s.extract 1 (s.size - 1))) (ss := [s.extract 1 i, s.extract (i + 1) j, s.extract (j + 1) (s.size - 1)]) rfl rfl (by rw [hk.2.2.2.2.1]; exact hk.2.2.2.2.2) (by rw [sz_ex (by omega)]; omega)) (il_cons (I_fParse (n := 17) (k := 0) (s := (s.extract 1 i)) rfl rfl (li rfl) hx (by rw [sz_ex (by omega)]; omega)) (il_cons (I_fParse (n := 19) (k := 1) (s := (s.extract (i + 1) j)) rfl rfl (li rfl) hy (by rw [sz_ex (by omega)]; omega)) (il_cons (I_fParse (n := 21) (k := 2) (s := (s.extract (j + 1) (s.size - 1))) rfl rfl (li rfl) hz (by rw [sz_ex (by omega)]; omega)) il_nil)))))
    (ol_cons (o_lenS (n := 9) (m := 10) (t := 9) (by kernel_rfl) rfl rfl) (ol_cons (o_lssK (n := 10) (c := 2) (u := ((s.size : Nat) : Int)) (b := false) (t := 3) rfl (decide_eq_false (by omega))) (ol_cons (o_idxS (n := 9) (m := 11) (k := 0) (c := 0) (t := 9) (by kernel_rfl) rfl rfl (by omega) rfl) (ol_cons (o_neqK (n := 11) (c := 40) (u := ((by' s 0 : Nat) : Int)) (b := false) (t := 5) rfl (bneq_f (by omega))) (ol_cons (o_subK (n := 10) (m := 12) (c := 1) (u := ((s.size : Nat) : Int)) (v := (((s.size : Nat) : Int) - 1)) (t := 3) rfl rfl rfl (by omega) (by omega)) (ol_cons (o_idxR (n := 9) (k := 12) (m := 13) (u := (((s.size : Nat) : Int) - 1)) (b := (by' s (s.size - 1))) (t := 9) (by kernel_rfl) rfl rfl rfl (by omega) (by omega) (congrArg (by' s) (by omega))) (ol_cons (o_neqK (n := 13) (c := 41) (u := (((by' s (s.size - 1)) : Nat) : Int)) (b := false) (t := 5) rfl (bneq_f (by omega))) (ol_cons (o_slS (n := 9) (k := 12) (m := 14) (c := 1) (u := (((s.size : Nat) : Int) - 1)) (z := (s.extract 1 (s.size - 1))) (t := 9) (by kernel_rfl) rfl rfl rfl (by omega) (by omega) (by omega) (congrArg (s.extract 1) (by omega))) (ol_cons (o_iaS (n := 15) (m := 16) (k := 0) (l := [s.extract 1 i, s.extract (i + 1) j, s.extract (j + 1) (s.size - 1)]) (s := s.extract 1 i) (t := 50) rfl rfl Tryd.underlying50 (by kernel_rfl) rfl) (ol_cons (o_ldS (n := 16) (m := 17) (s := (s.extract 1 i)) (t := 9) rfl rfl (by kernel_rfl)) (ol_cons (o_iaS (n := 15) (m := 18) (k := 1) (l := [s.extract 1 i, s.extract (i + 1) j, s.extract (j + 1) (s.size - 1)]) (s := s.extract (i + 1) j) (t := 50) rfl rfl Tryd.underlying50 (by kernel_rfl) rfl) (ol_cons (o_ldS (n := 18) (m := 19) (s := (s.extract (i + 1) j)) (t := 9) rfl rfl (by kernel_rfl)) (ol_cons (o_iaS (n := 15) (m := 20) (k := 2) (l := [s.extract 1 i, s.extract (i + 1) j, s.extract (j + 1) (s.size - 1)]) (s := s.extract (j + 1) (s.size - 1)) (t := 50) rfl rfl Tryd.underlying50 (by kernel_rfl) rfl) (ol_cons (o_ldS (n := 20) (m := 21) (s := (s.extract (j + 1) (s.size - 1))) (t := 9) rfl rfl (by kernel_rfl)) (ol_nil))))))))))))))) (by kernel_rfl) Tryd.func13 (by kernel_rfl) ⟨ls (n := 9) rfl (fun _ => none) w, trivial⟩).mono ?_
  rintro e w' ⟨v, rfl, ⟨vs, rfl, h1⟩, h2⟩
  match vs, h1 with
  | [r, cv], h1 =>
    obtain ⟨⟨cs, rfl, k1⟩, k2, _⟩ := h1
    have k2 : cv = _ := k2
    subst k2
    exact ⟨_, rfl, (row_isL (xs := xvP8X s i j x y z) (ks := [0, 1, 2]) (vs := [x, y, z]) ⟨rfl, rfl, rfl, trivial⟩).1 ⟨_, rfl, k1⟩, h2⟩
theorem q_vParse (s : ByteArray) (v : Vq) (c : Int) (w : World) (h : VP s v c) (hs : s.size ≤ 4294967280) : Calls Tryd.prog 13 #[.string s] w fun e w' => RetVqE w v c e w' := by
  cases h with
  | form h =>
    by_cases h1 : s.size < 2
    · exact q_vP1 s w h1 hs
    by_cases h2 : by' s 0 = 40
    · by_cases h3 : by' s (s.size - 1) = 41
      · refine q_vP4 s w (by omega) h2 h3 (fun h4 => ?_) hs
        obtain ⟨i, j, h5⟩ := two_of_count h4
        exact h i j ⟨by omega, h2, h3, h5⟩
      · exact q_vP3 s w (by omega) h2 h3 hs
    · exact q_vP2 s w (by omega) h2 hs
  | e0 h hx h0 => exact q_vP5 s _ _ _ _ w h hx h0 hs
  | e1 h hx hy h0 => exact q_vP6 s _ _ _ _ _ w h hx hy h0 hs
  | e2 h hx hy hz h0 => exact q_vP7 s _ _ _ _ _ _ w h hx hy hz h0 hs
  | good h hx hy hz => exact q_vP8 s _ _ _ _ _ w h hx hy hz hs
end Go.Proofs.YtacccgeppcfncaaDoor
namespace Go.Proofs.YtacccgeppcfncaaDoor
set_option linter.unusedSimpArgs false
set_option linter.unusedVariables false
set_option maxRecDepth 100000
open Go.RowKit
theorem bsz (l : Array UInt8) : (ByteArray.mk l).size = l.size := rfl
theorem qfmt_size {x : Fq} {d : Nat} (h : x.ok d) : x.fmt.size ≤ 20 * d + 4 := by
  have h1 := fmt_size x.p
  have h2 := fmt_size x.q
  have h3 := h.p
  have h4 := h.q
  unfold Fq.fmt
  split <;> split <;> (try simp only [ByteArray.size_append, bsz, List.size_toArray, List.length_cons, List.length_nil]) <;> omega
def Vq.fmt (a : Vq) : ByteArray := (((((((ByteArray.mk #[40]) ++ a.x.fmt) ++ (ByteArray.mk #[32])) ++ a.y.fmt) ++ (ByteArray.mk #[32])) ++ a.z.fmt) ++ (ByteArray.mk #[41]))
def xvFormatX (a : Vq) : List Fq := [a.x, a.y, a.z]
theorem q_vFormat (va : Value) (a : Vq) (w : World) (ia : IsVq w va a) (ha : a.ok 1000000) : Calls Tryd.prog 15 #[va] w fun e w' => RetV w (.string a.fmt) e w' := by
  have z1 := qfmt_size ha.x
  have z2 := qfmt_size ha.y
  have z3 := qfmt_size ha.z
  refine (calls_runFn (ρ := frs (xvFormatX a) ++ [.val (.string a.x.fmt), .val (.string ((ByteArray.mk #[40]) ++ a.x.fmt)), .val (.string (((ByteArray.mk #[40]) ++ a.x.fmt) ++ (ByteArray.mk #[32]))), .val (.string a.y.fmt), .val (.string ((((ByteArray.mk #[40]) ++ a.x.fmt) ++ (ByteArray.mk #[32])) ++ a.y.fmt)), .val (.string (((((ByteArray.mk #[40]) ++ a.x.fmt) ++ (ByteArray.mk #[32])) ++ a.y.fmt) ++ (ByteArray.mk #[32]))), .val (.string a.z.fmt), .val (.string ((((((ByteArray.mk #[40]) ++ a.x.fmt) ++ (ByteArray.mk #[32])) ++ a.y.fmt) ++ (ByteArray.mk #[32])) ++ a.z.fmt)), .val (.string (((((((ByteArray.mk #[40]) ++ a.x.fmt) ++ (ByteArray.mk #[32])) ++ a.y.fmt) ++ (ByteArray.mk #[32])) ++ a.z.fmt) ++ (ByteArray.mk #[41])))]) (w := w) (fuel := 300) (args := [row [0, 1, 2]]) (vs := [va]) (r := .v (.one (.ref 17)))
    (il_cons (I_fFormat (i := 0) rfl (ls (n := 9) rfl) (ha.x.mono (by decide))) (il_cons (I_fFormat (i := 1) rfl (ls (n := 12) rfl) (ha.y.mono (by decide))) (il_cons (I_fFormat (i := 2) rfl (ls (n := 15) rfl) (ha.z.mono (by decide))) il_nil)))
    (ol_cons (o_catLR (n := 9) (m := 10) (s := (ByteArray.mk #[40])) (z := a.x.fmt) (t := 9) (by kernel_rfl) rfl rfl (by simp only [ByteArray.size_append, bsz, List.size_toArray, List.length_cons, List.length_nil]; omega)) (ol_cons (o_catRL (n := 10) (m := 11) (s := ((ByteArray.mk #[40]) ++ a.x.fmt)) (z := (ByteArray.mk #[32])) (t := 9) (by kernel_rfl) rfl rfl (by simp only [ByteArray.size_append, bsz, List.size_toArray, List.length_cons, List.length_nil]; omega)) (ol_cons (o_catRR (n := 11) (m := 13) (k := 12) (s := (((ByteArray.mk #[40]) ++ a.x.fmt) ++ (ByteArray.mk #[32]))) (z := a.y.fmt) (t := 9) (by kernel_rfl) rfl rfl rfl (by simp only [ByteArray.size_append, bsz, List.size_toArray, List.length_cons, List.length_nil]; omega)) (ol_cons (o_catRL (n := 13) (m := 14) (s := ((((ByteArray.mk #[40]) ++ a.x.fmt) ++ (ByteArray.mk #[32])) ++ a.y.fmt)) (z := (ByteArray.mk #[32])) (t := 9) (by kernel_rfl) rfl rfl (by simp only [ByteArray.size_append, bsz, List.size_toArray, List.length_cons, List.length_nil]; omega)) (ol_cons (o_catRR (n := 14) (m := 16) (k := 15) (s := (((((ByteArray.mk #[40]) ++ a.x.fmt) ++ (ByteArray.mk #[32])) ++ a.y.fmt) ++ (ByteArray.mk #[32]))) (z := a.z.fmt) (t := 9) (by kernel_rfl) rfl rfl rfl (by simp only [ByteArray.size_append, bsz, List.size_toArray, List.length_cons, List.length_nil]; omega)) (ol_cons (o_catRL (n := 16) (m := 17) (s := ((((((ByteArray.mk #[40]) ++ a.x.fmt) ++ (ByteArray.mk #[32])) ++ a.y.fmt) ++ (ByteArray.mk #[32])) ++ a.z.fmt)) (z := (ByteArray.mk #[41])) (t := 9) (by kernel_rfl) rfl rfl (by simp only [ByteArray.size_append, bsz, List.size_toArray, List.length_cons, List.length_nil]; omega)) (ol_nil))))))) (by kernel_rfl) Tryd.func15 (by kernel_rfl) ⟨(row_isL (xs := xvFormatX a) (ks := [0, 1, 2]) (vs := [a.x, a.y, a.z]) ⟨rfl, rfl, rfl, trivial⟩).2 ia, trivial⟩).mono ?_
  rintro e w' ⟨v, rfl, h1, h2⟩
  obtain ⟨sv, q1, q2⟩ := h1
  have q3 : some (Vp.val (.string (((((((ByteArray.mk #[40]) ++ a.x.fmt) ++ (ByteArray.mk #[32])) ++ a.y.fmt) ++ (ByteArray.mk #[32])) ++ a.z.fmt) ++ (ByteArray.mk #[41])))) = some sv := q1
  injection q3 with q3
  subst q3
  have q4 : v = .string (((((((ByteArray.mk #[40]) ++ a.x.fmt) ++ (ByteArray.mk #[32])) ++ a.y.fmt) ++ (ByteArray.mk #[32])) ++ a.z.fmt) ++ (ByteArray.mk #[41])) := q2.1
  exact ⟨by rw [q4]; rfl, h2⟩
end Go.Proofs.YtacccgeppcfncaaDoor
namespace Go.Proofs.YtacccgeppcfncaaDoor
set_option linter.unusedSimpArgs false
set_option linter.unusedVariables false
set_option maxRecDepth 100000
open Go.RowKit
def s1 : ByteArray := ByteArray.mk #[40, 49, 32, 45, 51, 47, 52, 32, 48, 41]
def s2 : ByteArray := ByteArray.mk #[40, 49, 32, 50, 41]
def V1 : Vq := ⟨Fq.ofInt 1, ⟨true, 3, 4⟩, Fq.ofInt 0⟩
theorem nl12 {N : Nat} (h : N < 100) : nl N ≤ 12 := nl_le_iff.2 (Nat.lt_of_lt_of_le h (by decide))
theorem fm1 : s1.extract 1 2 = (Fq.ofInt 1).fmt := by
  show _ = fmtB 1
  unfold fmtB; rw [if_neg (by decide)]
  decide +kernel
theorem fm2 : s1.extract (2 + 1) 7 = (Fq.mk true 3 4).fmt := by
  show _ = ({ data := #[45] } : ByteArray) ++ (fmtB 3 ++ (({ data := #[47] } : ByteArray) ++ fmtB 4))
  unfold fmtB; rw [if_neg (by decide), if_neg (by decide)]
  decide +kernel
theorem fm3 : s1.extract (7 + 1) (s1.size - 1) = (Fq.ofInt 0).fmt := by
  show _ = fmtB 0
  unfold fmtB; rw [if_pos rfl]
  decide +kernel
theorem vp1 : VP s1 V1 0 := by
  refine .good (i := 2) (j := 7) ⟨by decide, by decide, by decide, by decide, by decide, by decide, by decide, by decide +kernel⟩ ?_ ?_ ?_
  · rw [fm1]; exact fmt_fp (ofInt_valid 1) (nl12 (by decide)) (nl12 (by decide))
  · rw [fm2]; exact fmt_fp (by decide +kernel) (nl12 (by decide)) (nl12 (by decide))
  · rw [fm3]; exact fmt_fp (ofInt_valid 0) (nl12 (by decide)) (nl12 (by decide))
theorem vp2 : VP s2 .zero 2 := by
  refine .form fun i j h => ?_
  obtain ⟨_, _, _, hij, hj, ei, ej, _⟩ := h
  have e : ∀ j, j < 5 → ∀ i, i < j → by' s2 i = (32 : UInt8).toNat → by' s2 j = (32 : UInt8).toNat → False := by decide +kernel
  exact e j hj i hij ei ej
theorem fmV : V1.fmt = s1 := by
  show ((((((_ : ByteArray) ++ (Fq.ofInt 1).fmt) ++ _) ++ (Fq.mk true 3 4).fmt) ++ _) ++ (Fq.ofInt 0).fmt) ++ _ = _
  rw [← fm1, ← fm2, ← fm3]
  decide +kernel
theorem I_vParseL {xs : List Fq} {ys : Rho} {s : ByteArray} {v : Vq} {c : Int} {kr : List Nat} (h : VP s v c) (hs : s.size ≤ 4294967280) (ar : AtL xs kr [v.x, v.y, v.z]) : OkI xs ys ⟨13, [.one (.s s)], .tup [row kr, .one (.i .i64 c)]⟩ :=
  ⟨enters Tryd.func13 rfl rfl, fun B w vs hv => by
    match vs, hv with
    | [va], hv =>
      have e : va = .string s := hv.1
      subst e
      refine (q_vParse s v c w h hs).mono ?_
      rintro e w' ⟨v, rfl, h1, h2⟩
      exact ⟨_, rfl, ⟨[v, .int .i64 c], rfl, (row_isL ar).2 h1, rfl, trivial⟩, h2⟩⟩
theorem I_vFormatL {xs : List Fq} {ys : Rho} {s : ByteArray} {v : Vq} {kr : List Nat} (ar : AtL xs kr [v.x, v.y, v.z]) (h : v.fmt = s) (hv : v.ok 1000000) : OkI xs ys ⟨15, [row kr], .v (.one (.s s))⟩ :=
  ⟨enters Tryd.func15 rfl rfl, fun B w vs hx => by
    match vs, hx with
    | [va], hx =>
      refine (q_vFormat va v w ((row_isL ar).1 hx.1) hv).mono ?_
      rintro e w' ⟨rfl, h2⟩
      exact ⟨_, rfl, by subst h; rfl, h2⟩⟩
theorem o_eqSS {ρ : Rho} {t : TypeId} {s : ByteArray} : (OIns.mk (.bin .eql t) [.one (.s s), .one (.s s)] (.one (.b true))).Ok Tryd.prog ρ := fun B w vs hv => by
  match vs, hv with
  | [v1, v2], hv =>
    have e : v1 = .string s := hv.1
    have e2 : v2 = .string s := hv.2.1
    subst e; subst e2
    exact ⟨.bool true, rfl, fun xo yo => by simp [eqGuard, binOp, Op.stringOp, Sem.run_bind, Result.andThen]⟩
theorem ok_V1 : V1.ok 1000000 := ⟨(ok_int (by decide) (by decide)).mono (by decide), ⟨Nat.le_trans (nl12 (by decide)) (by decide), Nat.le_trans (nl12 (by decide)) (by decide), by decide⟩, (ok_int (by decide) (by decide)).mono (by decide)⟩
def xawakeX  : List Fq := [(Vq.of 1 2 3).x, (Vq.of 1 2 3).y, (Vq.of 1 2 3).z, (Vq.of 4 5 6).x, (Vq.of 4 5 6).y, (Vq.of 4 5 6).z, (Fq.ofInt 1), (Fq.mk true 3 4), (Fq.ofInt 0), Fq.zero, ((Vq.of 1 2 3).cross (Vq.of 4 5 6)).x, ((Vq.of 1 2 3).cross (Vq.of 4 5 6)).y, ((Vq.of 1 2 3).cross (Vq.of 4 5 6)).z, (Vq.of (-3) 6 (-3)).x, (Vq.of (-3) 6 (-3)).y, (Vq.of (-3) 6 (-3)).z, ((Vq.of 1 2 3).dot (Vq.of 4 5 6)), (Fq.ofInt 32)]
theorem q_awake  (w : World)   :
    Calls Tryd.prog 12 #[] w fun e w' => RetV w (.bool true) e w' := by
  refine (calls_runFn (ρ := frs (xawakeX ) ++ []) (w := w) (fuel := 300) (args := []) (vs := []) (r := .v (.one (.b true)))
    (il_cons (I_vO1_2_3 (kr := [0, 1, 2]) ⟨rfl, rfl, rfl, trivial⟩) (il_cons (I_vO4_5_6 (kr := [3, 4, 5]) ⟨rfl, rfl, rfl, trivial⟩) (il_cons (I_vParseL vp1 (by decide) (kr := [6, 7, 8]) ⟨rfl, rfl, rfl, trivial⟩) (il_cons (I_vParseL vp2 (by decide) (kr := [9, 9, 9]) ⟨rfl, rfl, rfl, trivial⟩) (il_cons (I_vCross (ka := [0, 1, 2]) (a := (Vq.of 1 2 3)) (kb := [3, 4, 5]) (b := (Vq.of 4 5 6)) (kr := [10, 11, 12]) ⟨rfl, rfl, rfl, trivial⟩ ⟨rfl, rfl, rfl, trivial⟩ ⟨rfl, rfl, rfl, trivial⟩ ((ok_vof (by decide) (by decide) (by decide) (by decide) (by decide) (by decide)).mono (by decide)) ((ok_vof (by decide) (by decide) (by decide) (by decide) (by decide) (by decide)).mono (by decide))) (il_cons (I_rOm3_6_m3 (kr := [13, 14, 15]) ⟨rfl, rfl, rfl, trivial⟩) (il_cons (I_r4Equal1 (ka := [10, 11, 12]) (a := ((Vq.of 1 2 3).cross (Vq.of 4 5 6))) (kb := [13, 14, 15]) (b := (Vq.of (-3) 6 (-3))) ⟨rfl, rfl, rfl, trivial⟩ ⟨rfl, rfl, rfl, trivial⟩ (((ok_vof (by decide) (by decide) (by decide) (by decide) (by decide) (by decide)).cross (ok_vof (by decide) (by decide) (by decide) (by decide) (by decide) (by decide))).mono (by decide)) ((ok_vof (by decide) (by decide) (by decide) (by decide) (by decide) (by decide)).mono (by decide)) (Vq.same_iff.1 (by decide +kernel))) (il_cons (I_vDot (ka := [0, 1, 2]) (a := (Vq.of 1 2 3)) (kb := [3, 4, 5]) (b := (Vq.of 4 5 6)) (ir := 16) ⟨rfl, rfl, rfl, trivial⟩ ⟨rfl, rfl, rfl, trivial⟩ rfl ((ok_vof (by decide) (by decide) (by decide) (by decide) (by decide) (by decide)).mono (by decide)) ((ok_vof (by decide) (by decide) (by decide) (by decide) (by decide) (by decide)).mono (by decide))) (il_cons (I_rInt (k := 17) rfl (by decide) (by decide)) (il_cons (I_rSame (i := 16) (j := 17) (l := .b true) rfl rfl (lb (Fq.same_iff.2 (Fq.same_iff.1 (by decide +kernel)))) (((ok_vof (by decide) (by decide) (by decide) (by decide) (by decide) (by decide)).dot (ok_vof (by decide) (by decide) (by decide) (by decide) (by decide) (by decide))).mono (by decide)).p (((ok_vof (by decide) (by decide) (by decide) (by decide) (by decide) (by decide)).dot (ok_vof (by decide) (by decide) (by decide) (by decide) (by decide) (by decide))).mono (by decide)).q ((ok_int (u := 32) (by decide) (by decide)).mono (by decide)).p ((ok_int (u := 32) (by decide) (by decide)).mono (by decide)).q) (il_cons (I_vFormatL (v := V1) (kr := [6, 7, 8]) ⟨rfl, rfl, rfl, trivial⟩ fmV ok_V1) il_nil)))))))))))
    (ol_cons (o_eqSS (s := s1) (t := 9)) (ol_nil)) (by kernel_rfl) Tryd.func12 (by kernel_rfl) trivial).mono ?_
  rintro e w' ⟨v, rfl, h1, h2⟩
  exact ⟨congrArg Ending.returned h1, h2⟩
theorem I_awake {xs : List Fq} {ys : Rho}      : OkI xs ys ⟨12, [], .v (.one (.b true))⟩ :=
  ⟨enters Tryd.func12 rfl rfl, fun B w vs h => by
    match vs, h with
    | [], h =>
      refine (q_awake w).mono ?_
      rintro e w' ⟨rfl, h2⟩
      exact ⟨_, rfl, rfl, h2⟩⟩
end Go.Proofs.YtacccgeppcfncaaDoor
namespace Go.Proofs.YtacccgeppcfncaaDoor
set_option linter.unusedSimpArgs false
set_option linter.unusedVariables false
set_option maxRecDepth 100000
open Go.RowKit
open Go.ChangeShapes Go.WideShapes Go.ChangeAt Go.RowKit
theorem digits_exist (f : Nat → Nat) (hf : ∀ j, f j < 4294967296) : ∀ L, ∃ N, N < 4294967296 ^ L ∧ ∀ j, j < L → D N j = f j
  | 0 => ⟨0, by simp, fun j h => by omega⟩
  | L + 1 => by
    obtain ⟨N, h1, h2⟩ := digits_exist f hf L
    refine ⟨upd N L (f L), upd_lt (Nat.lt_of_lt_of_le h1 (Nat.pow_le_pow_right (by decide) (Nat.le_succ L))) (Nat.lt_succ_self L) (hf L), fun j hj => ?_⟩
    by_cases e : j = L
    · subst e; exact D_upd_same N j (f j) (hf j)
    · rw [D_upd_other N L (f L) j (hf L) e]; exact h2 j (by omega)
end Go.Proofs.YtacccgeppcfncaaDoor
namespace Go.Proofs.YtacccgeppcfncaaDoor
set_option linter.unusedSimpArgs false
set_option linter.unusedVariables false
set_option maxRecDepth 100000
open Go.RowKit
open Go.ChangeShapes Go.WideShapes Go.ChangeAt Go.RowKit
section
variable {H : Type} {enc : TypeId × Value → H} {W : World}
def Small (t : TypeId) (d : DataW H) : Prop := ∀ n ∈ d.weights Tryd.prog t, n ≤ 140737488355328
theorem open_natw {fuel : Nat} {u : Value} {x : DataW H × List MemPlace} (hf : DataW.trod enc Tryd.prog W 0 (fun _ => true) true fuel 24 [u] = some x) :
    ∃ a L cap m, u = .slice a L cap ∧ IsR W (.agg #[.slice a L cap]) L m ∧ (Small 24 x.1 → L ≤ 140737488355328) := by
  obtain ⟨y0, n, hy, hl0, h1⟩ := trod_struct1 Tryd.underlying24 hf
  have hc2 : Tryd.prog.cellsOf 22 = 1 := by kernel_rfl
  have hb : Tryd.prog.bytesOf 89 = 4 := by kernel_rfl
  simp [hc2] at h1
  rcases open_ints Tryd.underlying22 Tryd.underlying89 (by kernel_rfl) h1 with ⟨hcs, _⟩ | ⟨x', l, c, zs, hcs, _, hl, hm, hz, hx0, hcell, hwz⟩
  · simp at hcs
    subst hcs
    exact ⟨none, 0, 0, 0, rfl, ⟨none, 0, rfl, Nat.le_refl _, by simp, fun h => by omega⟩, fun _ => Nat.zero_le _⟩
  · simp at hcs
    subst hcs
    obtain ⟨N, hN, hD⟩ := digits_exist (fun j => (zs.getD j 0).toNat) (fun j => by
      have := range_u32 hwz j
      have e : zs.getD j 0 = zs[j]?.getD 0 := by simp
      rw [e]; omega) l
    refine ⟨some x', l, c, N, rfl, ⟨some x', c, rfl, hl, hN, fun h0 => ?_⟩, fun hs => ?_⟩
    · obtain ⟨b, off, spot⟩ := x'
      have hc0 := hcell 0 (by rw [hz]; simp; omega)
      have hspot : spot = none := by simpa [Addr.add] using World.cell?_spot hc0
      subst hspot
      refine ⟨b, off, rfl, fun j hj => ?_⟩
      have h2 := hcell j (by rw [hz]; simp; omega)
      have hadd : (⟨b, off, none⟩ : Addr).add j = ⟨b, off + j, none⟩ := by unfold Addr.add; split <;> simp_all
      rw [hadd] at h2
      rw [h2, hD j hj]
      have := range_u32 hwz j
      have e : zs.getD j 0 = zs[j]?.getD 0 := by simp
      rw [e, Int.toNat_of_nonneg this.1]
    · unfold Small at hs
      rw [hy] at hs
      have h3 := hs (((lits .u32 (zs.take l)).length + (lits .u32 (zs.drop l)).length) * 4) (by
        simp only [DataW.weights, Tryd.underlying24, DataW.weightsEach, List.map_cons, List.map_nil, List.append_nil, hx0, Tryd.underlying22, hb]
        exact List.mem_cons_self)
      have h4 : (lits (H := H) .u32 (zs.take l)).length = l := by
        simp only [lits, List.length_map, List.length_take]
        have : l ≤ zs.length := by rw [hz]; simp; omega
        omega
      omega
theorem open_fracw {fuel : Nat} {u0 u1 u2 : Value} {x : DataW H × List MemPlace} (hf : DataW.trod enc Tryd.prog W 0 (fun _ => true) true fuel 26 [u0, u1, u2] = some x) :
    ∃ (r : Rq) (a b : Option Addr) (c d : Nat), u0 = .bool r.s ∧ u1 = .slice a r.L c ∧ u2 = .slice b r.N d ∧ IsR W (.agg #[.slice a r.L c]) r.L r.p ∧ IsR W (.agg #[.slice b r.N d]) r.N r.q ∧ (Small 26 x.1 → r.L ≤ 140737488355328 ∧ r.N ≤ 140737488355328) := by
  have hcn : Tryd.prog.cellsOf 24 = 1 := by kernel_rfl
  have hcb : Tryd.prog.cellsOf 4 = 1 := by kernel_rfl
  obtain ⟨y0, y1, y2, n, hy, hl0, h0, h1, h2⟩ := Go.Deep.trod_struct3 Tryd.underlying26 hf
  simp [hcn, hcb] at h0 h1 h2
  obtain ⟨s, h3, _⟩ := DataW.trod_bool Tryd.underlying4 h0
  obtain rfl : u0 = .bool s := by simpa using h3
  obtain ⟨a, L, c, m, rfl, i1, l1⟩ := open_natw h1
  obtain ⟨a', N, c', k, rfl, i2, l2⟩ := open_natw h2
  refine ⟨⟨s, L, m, N, k⟩, a, a', c, c', rfl, rfl, rfl, i1, i2, fun hs => ?_⟩
  unfold Small at hs
  rw [hy] at hs
  simp only [DataW.weights, Tryd.underlying26, DataW.weightsEach, List.map_cons, List.map_nil, List.append_nil, List.mem_append] at hs
  exact ⟨l1 (fun n hn => hs n (.inr (.inl hn))), l2 (fun n hn => hs n (.inr (.inr hn)))⟩
end
end Go.Proofs.YtacccgeppcfncaaDoor
namespace Go.Proofs.YtacccgeppcfncaaDoor
set_option linter.unusedSimpArgs false
set_option linter.unusedVariables false
set_option maxRecDepth 100000
open Go.RowKit
open Go.ChangeShapes Go.WideShapes Go.ChangeAt Go.RowKit
section
variable {H : Type} {enc : TypeId × Value → H} {W : World}
theorem open_vec {v : Value} {d : DataW H} {p : List MemPlace} {base : Nat} (hval : Value.okWide Tryd.prog W .any base 28 v) (h : DataW.Trod enc Tryd.prog W 0 (fun _ => true) true 28 v d p) :
    ∃ r0 r1 r2 : Rq, IsL W v [r0, r1, r2] := by
  obtain ⟨cs, rfl, hcs⟩ := okWide_struct Tryd.underlying28 hval
  have hc : Tryd.prog.cellsOf 28 = 9 := by kernel_rfl
  have hcf : Tryd.prog.cellsOf 26 = 3 := by kernel_rfl
  rw [hc] at hcs
  obtain ⟨l⟩ := cs
  have hl : l.length = 9 := by simpa using hcs
  obtain ⟨fuel, hf⟩ := h
  match l, hl with
  | [u0, u1, u2, u3, u4, u5, u6, u7, u8], _ =>
    obtain ⟨xs, n, _, hx, _, hlen, hg⟩ := DataW.trod_struct Tryd.underlying28 hf
    match xs, hlen with
    | [y0, y1, y2], _ =>
      have h0 := hg 0 _ rfl
      have h1 := hg 1 _ rfl
      have h2 := hg 2 _ rfl
      simp [Value.cells, hcf] at h0 h1 h2
      obtain ⟨r0, a0, b0, c0, d0, rfl, rfl, rfl, i0, j0, _⟩ := open_fracw h0
      obtain ⟨r1, a1, b1, c1, d1, rfl, rfl, rfl, i1, j1, _⟩ := open_fracw h1
      obtain ⟨r2, a2, b2, c2, d2, rfl, rfl, rfl, i2, j2, _⟩ := open_fracw h2
      exact ⟨r0, r1, r2, ⟨_, rfl, a0, c0, b0, d0, _, rfl, i0, j0, a1, c1, b1, d1, _, rfl, i1, j1, a2, c2, b2, d2, _, rfl, i2, j2, rfl⟩⟩
theorem open_frac1 {v : Value} {d : DataW H} {p : List MemPlace} {base : Nat} (hval : Value.okWide Tryd.prog W .any base 26 v) (h : DataW.Trod enc Tryd.prog W 0 (fun _ => true) true 26 v d p) :
    ∃ r0 : Rq, IsL W v [r0] := by
  obtain ⟨cs, rfl, hcs⟩ := okWide_struct Tryd.underlying26 hval
  have hc : Tryd.prog.cellsOf 26 = 3 := by kernel_rfl
  rw [hc] at hcs
  obtain ⟨l⟩ := cs
  have hl : l.length = 3 := by simpa using hcs
  obtain ⟨fuel, hf⟩ := h
  match l, hl with
  | [u0, u1, u2], _ =>
    obtain ⟨r0, a0, b0, c0, d0, rfl, rfl, rfl, i0, j0, _⟩ := open_fracw hf
    exact ⟨r0, ⟨_, rfl, a0, c0, b0, d0, _, rfl, i0, j0, rfl⟩⟩
end
end Go.Proofs.YtacccgeppcfncaaDoor
