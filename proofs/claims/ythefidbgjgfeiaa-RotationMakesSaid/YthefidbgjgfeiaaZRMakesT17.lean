/- The law which rotations are made of which components, and which are valid. What an argument of type api.Quat is: four fractions, leading zeros allowed; its rows are no longer than memory. -/
import Derived.Test.YthefidbgjgfeiaaP16
import Derived.SizedLaws
import Derived.Deep.Strs
namespace Go.Proofs.Ythefidbgjgfeiaa
set_option linter.unusedSimpArgs false
set_option linter.unusedVariables false
set_option maxRecDepth 100000
open Go.RowKit
/-- Rows of fractions whose numbers may have leading zeros. -/
def leafsN : List Nat → List Leaf
  | [] => []
  | n :: ns => .ref n :: .ref (n + 1) :: .ref (n + 2) :: leafsN ns
def rowN (ns : List Nat) : SV := .agg (leafsN ns)
def AtR (ρ : Rho) : List Nat → List Rq → Prop
  | [], [] => True
  | n :: ns, r :: rs => (ρ[n]? = some (.val (.bool r.s)) ∧ ρ[n + 1]? = some (.dig r.L r.p) ∧ ρ[n + 2]? = some (.dig r.N r.q)) ∧ AtR ρ ns rs
  | _, _ => False
/-- A fraction in valid form. -/
def Rq.vld (r : Rq) : Bool := decide (nl r.p = r.L ∧ nl r.q = r.N) && (Fq.mk r.s r.p r.q).valid
section
variable {ρ : Rho} {xs : List Fq} {ys : Rho} {n m k : Nat} {u v : Int} {l : Leaf} {t : TypeId} {B : Blk} {w : World} {r : Rq}
theorem leafB {s : Bool} {x : Value} (h : ρ[n]? = some (.val (.bool s))) : (Leaf.ref n).holds ρ B w x ↔ x = .bool s := by
  constructor
  · rintro ⟨t, h1, h2⟩
    rw [h] at h1; injection h1 with h1; subst h1; exact h2.1
  · rintro rfl
    exact ⟨_, h, rfl, flat_bool⟩
theorem leafD {L N : Nat} {x : Value} (h : ρ[n]? = some (.dig L N)) : (Leaf.ref n).holds ρ B w x ↔ IsR w (.agg #[x]) L N := by
  constructor
  · rintro ⟨t, h1, h2⟩
    rw [h] at h1; injection h1 with h1; subst h1; exact h2
  · intro h2; exact ⟨_, h, h2⟩
theorem rowN_holds : ∀ {ns : List Nat} {rs : List Rq} {cs : List Value}, AtR ρ ns rs → (LeavesH ρ B w (leafsN ns) cs ↔ CellsR w rs cs)
  | [], [], cs, _ => by
    constructor
    · intro h; match cs, h with | [], _ => rfl
    · intro h; have h : cs = [] := h; subst h; trivial
  | n :: ns, r :: rs, cs, h => by
    obtain ⟨⟨h1, h2, h3⟩, h4⟩ := h
    have ih := fun cs => rowN_holds (ns := ns) (rs := rs) (cs := cs) h4
    constructor
    · intro hl
      match cs, hl with
      | u1 :: u2 :: u3 :: cs', hl =>
        obtain ⟨g1, g2, g3, g4⟩ := hl
        have e1 := (leafB h1).1 g1
        have e2 := (leafD h2).1 g2
        have e3 := (leafD h3).1 g3
        obtain ⟨a, c, rfl⟩ := isR_slice e2
        obtain ⟨b, d, rfl⟩ := isR_slice e3
        subst e1
        exact ⟨a, c, b, d, cs', rfl, e2, e3, (ih cs').1 g4⟩
      | [], hl => exact hl.elim
      | [_], hl => exact hl.2.elim
      | [_, _], hl => exact hl.2.2.elim
    · rintro ⟨a, c, b, d, cs', rfl, i1, i2, i3⟩
      exact ⟨(leafB h1).2 rfl, (leafD h2).2 i1, (leafD h3).2 i2, (ih cs').2 i3⟩
  | [], _ :: _, _, h => h.elim
  | _ :: _, [], _, h => h.elim
theorem rowN_isL {ns : List Nat} {rs : List Rq} {x : Value} (h : AtR ρ ns rs) : (rowN ns).holds ρ B w x ↔ IsL w x rs := by
  constructor
  · rintro ⟨cs, rfl, h1⟩; exact ⟨cs, rfl, (rowN_holds h).1 h1⟩
  · rintro ⟨cs, rfl, h1⟩; exact ⟨cs, rfl, (rowN_holds h).2 h1⟩
theorem isL_FR {x : Value} (h : IsL w x [r]) : IsFR w x r.s r.L r.p r.N r.q := by
  obtain ⟨cs, rfl, a, c, b, d, cs', rfl, i1, i2, e⟩ := h
  have e : cs' = [] := e
  subst e
  exact ⟨a, c, b, d, rfl, i1, i2⟩
theorem vld_raw (h : r.vld = true) : r = (Fq.mk r.s r.p r.q).raw ∧ (Fq.mk r.s r.p r.q).valid = true := by
  unfold Rq.vld at h
  simp only [Bool.and_eq_true, decide_eq_true_eq] at h
  obtain ⟨⟨h1, h2⟩, h3⟩ := h
  refine ⟨?_, h3⟩
  obtain ⟨s, L, p, N, q⟩ := r
  simp only at h1 h2
  subst h1; subst h2; rfl
theorem q_fValidX (x : Value) (w : World) (h : IsL w x [r]) (hL : r.L ≤ 1000000) (hN : r.N ≤ 1000000) : Calls Try.prog 41 #[x] w fun e w' => RetV w (.bool r.vld) e w' := by
  have hf := isL_FR h
  by_cases hc : nl r.p = r.L ∧ nl r.q = r.N
  · have e : r.vld = (Fq.mk r.s r.p r.q).valid := by unfold Rq.vld; simp [hc]
    rw [e]
    exact q_fValid x ⟨r.s, r.p, r.q⟩ w (hf.isQ hc.1 hc.2) (by show nl r.p ≤ _; omega) (by show nl r.q ≤ _; omega)
  · have e : r.vld = false := by unfold Rq.vld; simp [hc]
    rw [e]
    exact q_fValidR x r.s r.L r.p r.N r.q w hf hL hN hc
theorem q_rValidX (x : Value) (w : World) (h : IsL w x [r]) (hL : r.L ≤ 1000000) (hN : r.N ≤ 1000000) : Calls Try.prog 44 #[x] w fun e w' => RetV w (.bool r.vld) e w' := by
  have hf := isL_FR h
  by_cases hc : nl r.p = r.L ∧ nl r.q = r.N
  · have e : r.vld = (Fq.mk r.s r.p r.q).valid := by unfold Rq.vld; simp [hc]
    rw [e]
    exact q_rValid x ⟨r.s, r.p, r.q⟩ w (hf.isQ hc.1 hc.2) (by show nl r.p ≤ _; omega) (by show nl r.q ≤ _; omega)
  · have e : r.vld = false := by unfold Rq.vld; simp [hc]
    rw [e]
    exact q_rValidR x r.s r.L r.p r.N r.q w hf hL hN hc
theorem instX {f : FuncId} {b d : Bool} (hen : Ent' f) (hc : ∀ x w, IsL w x [r] → Calls Try.prog f #[x] w (fun e w' => RetV w (.bool b) e w')) (hr : AtR (frs xs ++ ys) [n] [r]) (h : b = d) : OkI xs ys ⟨f, [rowN [n]], .v (.one (.b d))⟩ :=
  ⟨hen, fun B w vs hv => by
    match vs, hv with
    | [va], hv =>
      refine (hc va w ((rowN_isL hr).1 hv.1)).mono ?_
      rintro e w' ⟨rfl, h2⟩
      exact ⟨_, rfl, by subst h; rfl, h2⟩⟩
theorem I_fValidX {d : Bool} (hr : AtR (frs xs ++ ys) [n] [r]) (h : r.vld = d) (hL : r.L ≤ 1000000) (hN : r.N ≤ 1000000) : OkI xs ys ⟨41, [rowN [n]], .v (.one (.b d))⟩ :=
  instX (enters Try.func41 rfl rfl) (fun x w hx => q_fValidX x w hx hL hN) hr h
theorem I_rValidX {d : Bool} (hr : AtR (frs xs ++ ys) [n] [r]) (h : r.vld = d) (hL : r.L ≤ 1000000) (hN : r.N ≤ 1000000) : OkI xs ys ⟨44, [rowN [n]], .v (.one (.b d))⟩ :=
  instX (enters Try.func44 rfl rfl) (fun x w hx => q_rValidX x w hx hL hN) hr h
/-- Lengths and sums of them. -/
theorem o_len {L N : Nat} (ht : ∃ e, Try.prog.underlying t = some (.slice e)) (hn : ρ[n]? = some (.dig L N)) (hm : ρ[m]? = some (.val (.int .i64 (L : Int)))) : (OIns.mk (.len t) [.one (.ref n)] (.one (.ref m))).Ok Try.prog ρ := fun B w vs hv => by
  match vs, hv with
  | [v1], hv =>
    obtain ⟨a, c, rfl⟩ := isR_slice ((leafD (B := B) (w := w) hn).1 hv.1)
    obtain ⟨e, he⟩ := ht
    refine ⟨.int .i64 (L : Int), lr hm B w, fun ts ty h0 => ?_⟩
    simp [Builtin.len_, h0, Sem.run_bind, run_underlying he, Result.andThen, goInt]
theorem o_plus (hn : ρ[n]? = some (.val (.int .i64 u))) (hm : ρ[m]? = some (.val (.int .i64 v))) (hk : ρ[k]? = some (.val (.int .i64 (u + v)))) (h1 : -9223372036854775808 ≤ u + v) (h2 : u + v ≤ 9223372036854775807) : (OIns.mk (.bin .add t) [.one (.ref n), .one (.ref m)] (.one (.ref k))).Ok Try.prog ρ := fun B w vs hv => by
  match vs, hv with
  | [v1, v2], hv =>
    obtain ⟨⟨s, g1, g2⟩, ⟨s', g3, g4⟩, _⟩ := hv
    rw [hn] at g1; injection g1 with g1; subst g1
    rw [hm] at g3; injection g3 with g3; subst g3
    obtain ⟨rfl, _⟩ := g2
    obtain ⟨rfl, _⟩ := g4
    refine ⟨.int .i64 (u + v), lr hk B w, fun xo yo => ?_⟩
    simp [eqGuard, binOp, Op.intArith, Sem.run_bind, Result.andThen, Go.IntWalk.i64_in _ ⟨h1, h2⟩]
theorem o_leq {c : Int} {b : Bool} (hn : ρ[n]? = some (.val (.int .i64 u))) (h : decide (u ≤ c) = b) : (OIns.mk (.bin .leq t) [.one (.ref n), .one (.i .i64 c)] (.one (.b b))).Ok Try.prog ρ := fun B w vs hv => by
  match vs, hv with
  | [v1, v2], hv =>
    obtain ⟨⟨s, h1, h2⟩, h3, _⟩ := hv
    rw [hn] at h1; injection h1 with h1; subst h1
    obtain ⟨rfl, _⟩ := h2
    have e : v2 = .int .i64 c := h3
    subst e
    exact ⟨.bool b, rfl, fun xo yo => by rw [← h]; simp [eqGuard, binOp, Op.intCmp, Sem.run_bind, Result.andThen]⟩
end
section
variable {ρ : Rho} {xs : List Fq} {ys : Rho} {n : Nat} {b : Bool} {t : TypeId} {B : Blk} {w : World}
theorem lrb (hn : ρ[n]? = some (.val (.bool b))) : ∀ B w, (Leaf.ref n).holds ρ B w (.bool b) := fun _ _ => ⟨_, hn, rfl, flat_bool⟩
theorem bool_under (ht : isBoolB Try.prog t = true) : Try.prog.underlying t = some .bool := by
  unfold isBoolB at ht
  split at ht
  · assumption
  · cases ht
/-- A truth value compared with itself. -/
theorem o_beq (ht : isBoolB Try.prog t = true) (hn : ρ[n]? = some (.val (.bool b))) : (OIns.mk (.bin .eql t) [.one (.ref n), .one (.ref n)] (.one (.b true))).Ok Try.prog ρ := fun B w vs hv => by
  match vs, hv with
  | [v1, v2], hv =>
    obtain ⟨h1, h2, _⟩ := hv
    have e1 := (leafB (B := B) (w := w) hn).1 h1
    have e2 := (leafB (B := B) (w := w) hn).1 h2
    subst e1; subst e2
    have he : (Op.equal t (.bool b) (.bool b)).run Try.prog w = .ok (b == b) w := by
      unfold Op.equal Op.maxDepth Op.equalIn
      rw [Sem.run_bind, run_underlying (bool_under ht)]; rfl
    exact ⟨.bool true, rfl, fun xo yo => by simp [eqGuard, binOp, Sem.run_bind, he, Result.andThen]⟩
theorem o_bne (ht : isBoolB Try.prog t = true) (hn : ρ[n]? = some (.val (.bool b))) : (OIns.mk (.bin .neq t) [.one (.ref n), .one (.ref n)] (.one (.b false))).Ok Try.prog ρ := fun B w vs hv => by
  match vs, hv with
  | [v1, v2], hv =>
    obtain ⟨h1, h2, _⟩ := hv
    have e1 := (leafB (B := B) (w := w) hn).1 h1
    have e2 := (leafB (B := B) (w := w) hn).1 h2
    subst e1; subst e2
    have he : (Op.equal t (.bool b) (.bool b)).run Try.prog w = .ok (b == b) w := by
      unfold Op.equal Op.maxDepth Op.equalIn
      rw [Sem.run_bind, run_underlying (bool_under ht)]; rfl
    exact ⟨.bool false, rfl, fun xo yo => by simp [eqGuard, binOp, Sem.run_bind, he, Result.andThen]⟩
end
def rawQ (r0 r1 r2 r3 : Rq) : Bool := (r0.vld && (r1.vld && (r2.vld && r3.vld))) && (Qq.mk ⟨r0.s, r0.p, r0.q⟩ ⟨r1.s, r1.p, r1.q⟩ ⟨r2.s, r2.p, r2.q⟩ ⟨r3.s, r3.p, r3.q⟩).first.same (Fq.ofInt 1)
theorem vld_nl {r : Rq} (h : r.vld = true) : nl r.p = r.L ∧ nl r.q = r.N := by
  unfold Rq.vld at h
  simp only [Bool.and_eq_true, decide_eq_true_eq] at h
  exact h.1
def xpartsYthefidbgjgfeiaa (r0 r1 r2 r3 : Rq) : List Fq := []
theorem q_partsX (x : Value) (r0 r1 r2 r3 : Rq) (w : World) (h : IsL w x [r0, r1, r2, r3]) : Calls Try.prog 40 #[x] w fun e w' => RetL w [r0, r1, r2, r3] e w' := by
  refine (calls_runFn (ρ := frs (xpartsYthefidbgjgfeiaa r0 r1 r2 r3) ++ [.val (.bool r0.s), .dig r0.L r0.p, .dig r0.N r0.q, .val (.bool r1.s), .dig r1.L r1.p, .dig r1.N r1.q, .val (.bool r2.s), .dig r2.L r2.p, .dig r2.N r2.q, .val (.bool r3.s), .dig r3.L r3.p, .dig r3.N r3.q]) (w := w) (fuel := 300) (args := [rowN [0, 3, 6, 9]]) (vs := [x]) (r := .v (rowN [0, 3, 6, 9]))
    (il_nil) ol_nil (by kernel_rfl) Try.func40 (by kernel_rfl) ⟨(rowN_isL (ns := [0, 3, 6, 9]) (rs := [r0, r1, r2, r3]) ⟨⟨rfl, rfl, rfl⟩, ⟨rfl, rfl, rfl⟩, ⟨rfl, rfl, rfl⟩, ⟨rfl, rfl, rfl⟩, trivial⟩).2 h, trivial⟩).mono ?_
  rintro e w' ⟨v, rfl, h1, h2⟩
  exact ⟨v, rfl, (rowN_isL (ns := [0, 3, 6, 9]) (rs := [r0, r1, r2, r3]) ⟨⟨rfl, rfl, rfl⟩, ⟨rfl, rfl, rfl⟩, ⟨rfl, rfl, rfl⟩, ⟨rfl, rfl, rfl⟩, trivial⟩).1 h1, h2⟩
theorem I_partsX {xs : List Fq} {ys : Rho} {ns : List Nat} {r0 r1 r2 r3 : Rq} (hr : AtR (frs xs ++ ys) ns [r0, r1, r2, r3]) : OkI xs ys ⟨40, [rowN ns], .v (rowN ns)⟩ :=
  ⟨enters Try.func40 rfl rfl, fun B w vs h => by
    match vs, h with
    | [va], h =>
      refine (q_partsX va r0 r1 r2 r3 w ((rowN_isL hr).1 h.1)).mono ?_
      rintro e w' ⟨v, rfl, h1, h2⟩
      exact ⟨v, rfl, (rowN_isL hr).2 h1, h2⟩⟩
def xfValidN0X (r0 r1 r2 r3 : Rq) : List Fq := []
def xfValidN1X (r0 r1 r2 r3 : Rq) : List Fq := []
def xfValidN2X (r0 r1 r2 r3 : Rq) : List Fq := []
def xfValidN3X (r0 r1 r2 r3 : Rq) : List Fq := []
theorem q_fValidN (x : Value) (r0 r1 r2 r3 : Rq) (w : World) (h : IsL w x [r0, r1, r2, r3]) (lr0 : r0.L ≤ 1000000) (nr0 : r0.N ≤ 1000000) (lr1 : r1.L ≤ 1000000) (nr1 : r1.N ≤ 1000000) (lr2 : r2.L ≤ 1000000) (nr2 : r2.N ≤ 1000000) (lr3 : r3.L ≤ 1000000) (nr3 : r3.N ≤ 1000000) (hne : (r0.vld && (r1.vld && (r2.vld && r3.vld))) = false) : Calls Try.prog 11 #[x] w fun e w' => RetV w (.bool false) e w' := by
  rcases Bool.eq_false_or_eq_true (r0.vld) with c0 | c0
  · rcases Bool.eq_false_or_eq_true (r1.vld) with c1 | c1
    · rcases Bool.eq_false_or_eq_true (r2.vld) with c2 | c2
      · rcases Bool.eq_false_or_eq_true (r3.vld) with c3 | c3
        · exact absurd hne (by rw [c0, c1, c2, c3]; decide)
        · refine (calls_runFn (ρ := frs (xfValidN0X r0 r1 r2 r3) ++ [.val (.bool r0.s), .dig r0.L r0.p, .dig r0.N r0.q, .val (.bool r1.s), .dig r1.L r1.p, .dig r1.N r1.q, .val (.bool r2.s), .dig r2.L r2.p, .dig r2.N r2.q, .val (.bool r3.s), .dig r3.L r3.p, .dig r3.N r3.q]) (w := w) (fuel := 300) (args := [rowN [0, 3, 6, 9]]) (vs := [x]) (r := .v (.one (.b false)))
            (il_cons (I_partsX (ns := [0, 3, 6, 9]) ⟨⟨rfl, rfl, rfl⟩, ⟨rfl, rfl, rfl⟩, ⟨rfl, rfl, rfl⟩, ⟨rfl, rfl, rfl⟩, trivial⟩) (il_cons (I_fValidX (n := 0) (r := r0) (d := true) ⟨⟨rfl, rfl, rfl⟩, trivial⟩ c0 lr0 nr0) (il_cons (I_fValidX (n := 3) (r := r1) (d := true) ⟨⟨rfl, rfl, rfl⟩, trivial⟩ c1 lr1 nr1) (il_cons (I_fValidX (n := 6) (r := r2) (d := true) ⟨⟨rfl, rfl, rfl⟩, trivial⟩ c2 lr2 nr2) (il_cons (I_fValidX (n := 9) (r := r3) (d := false) ⟨⟨rfl, rfl, rfl⟩, trivial⟩ c3 lr3 nr3) (il_nil)))))) ol_nil (by kernel_rfl) Try.func11 (by kernel_rfl) ⟨(rowN_isL (ns := [0, 3, 6, 9]) (rs := [r0, r1, r2, r3]) ⟨⟨rfl, rfl, rfl⟩, ⟨rfl, rfl, rfl⟩, ⟨rfl, rfl, rfl⟩, ⟨rfl, rfl, rfl⟩, trivial⟩).2 h, trivial⟩).mono ?_
          rintro e w' ⟨v, rfl, h1, h2⟩
          exact ⟨congrArg Ending.returned h1, h2⟩
      · refine (calls_runFn (ρ := frs (xfValidN1X r0 r1 r2 r3) ++ [.val (.bool r0.s), .dig r0.L r0.p, .dig r0.N r0.q, .val (.bool r1.s), .dig r1.L r1.p, .dig r1.N r1.q, .val (.bool r2.s), .dig r2.L r2.p, .dig r2.N r2.q, .val (.bool r3.s), .dig r3.L r3.p, .dig r3.N r3.q]) (w := w) (fuel := 300) (args := [rowN [0, 3, 6, 9]]) (vs := [x]) (r := .v (.one (.b false)))
          (il_cons (I_partsX (ns := [0, 3, 6, 9]) ⟨⟨rfl, rfl, rfl⟩, ⟨rfl, rfl, rfl⟩, ⟨rfl, rfl, rfl⟩, ⟨rfl, rfl, rfl⟩, trivial⟩) (il_cons (I_fValidX (n := 0) (r := r0) (d := true) ⟨⟨rfl, rfl, rfl⟩, trivial⟩ c0 lr0 nr0) (il_cons (I_fValidX (n := 3) (r := r1) (d := true) ⟨⟨rfl, rfl, rfl⟩, trivial⟩ c1 lr1 nr1) (il_cons (I_fValidX (n := 6) (r := r2) (d := false) ⟨⟨rfl, rfl, rfl⟩, trivial⟩ c2 lr2 nr2) (il_nil))))) ol_nil (by kernel_rfl) Try.func11 (by kernel_rfl) ⟨(rowN_isL (ns := [0, 3, 6, 9]) (rs := [r0, r1, r2, r3]) ⟨⟨rfl, rfl, rfl⟩, ⟨rfl, rfl, rfl⟩, ⟨rfl, rfl, rfl⟩, ⟨rfl, rfl, rfl⟩, trivial⟩).2 h, trivial⟩).mono ?_
        rintro e w' ⟨v, rfl, h1, h2⟩
        exact ⟨congrArg Ending.returned h1, h2⟩
    · refine (calls_runFn (ρ := frs (xfValidN2X r0 r1 r2 r3) ++ [.val (.bool r0.s), .dig r0.L r0.p, .dig r0.N r0.q, .val (.bool r1.s), .dig r1.L r1.p, .dig r1.N r1.q, .val (.bool r2.s), .dig r2.L r2.p, .dig r2.N r2.q, .val (.bool r3.s), .dig r3.L r3.p, .dig r3.N r3.q]) (w := w) (fuel := 300) (args := [rowN [0, 3, 6, 9]]) (vs := [x]) (r := .v (.one (.b false)))
        (il_cons (I_partsX (ns := [0, 3, 6, 9]) ⟨⟨rfl, rfl, rfl⟩, ⟨rfl, rfl, rfl⟩, ⟨rfl, rfl, rfl⟩, ⟨rfl, rfl, rfl⟩, trivial⟩) (il_cons (I_fValidX (n := 0) (r := r0) (d := true) ⟨⟨rfl, rfl, rfl⟩, trivial⟩ c0 lr0 nr0) (il_cons (I_fValidX (n := 3) (r := r1) (d := false) ⟨⟨rfl, rfl, rfl⟩, trivial⟩ c1 lr1 nr1) (il_nil)))) ol_nil (by kernel_rfl) Try.func11 (by kernel_rfl) ⟨(rowN_isL (ns := [0, 3, 6, 9]) (rs := [r0, r1, r2, r3]) ⟨⟨rfl, rfl, rfl⟩, ⟨rfl, rfl, rfl⟩, ⟨rfl, rfl, rfl⟩, ⟨rfl, rfl, rfl⟩, trivial⟩).2 h, trivial⟩).mono ?_
      rintro e w' ⟨v, rfl, h1, h2⟩
      exact ⟨congrArg Ending.returned h1, h2⟩
  · refine (calls_runFn (ρ := frs (xfValidN3X r0 r1 r2 r3) ++ [.val (.bool r0.s), .dig r0.L r0.p, .dig r0.N r0.q, .val (.bool r1.s), .dig r1.L r1.p, .dig r1.N r1.q, .val (.bool r2.s), .dig r2.L r2.p, .dig r2.N r2.q, .val (.bool r3.s), .dig r3.L r3.p, .dig r3.N r3.q]) (w := w) (fuel := 300) (args := [rowN [0, 3, 6, 9]]) (vs := [x]) (r := .v (.one (.b false)))
      (il_cons (I_partsX (ns := [0, 3, 6, 9]) ⟨⟨rfl, rfl, rfl⟩, ⟨rfl, rfl, rfl⟩, ⟨rfl, rfl, rfl⟩, ⟨rfl, rfl, rfl⟩, trivial⟩) (il_cons (I_fValidX (n := 0) (r := r0) (d := false) ⟨⟨rfl, rfl, rfl⟩, trivial⟩ c0 lr0 nr0) (il_nil))) ol_nil (by kernel_rfl) Try.func11 (by kernel_rfl) ⟨(rowN_isL (ns := [0, 3, 6, 9]) (rs := [r0, r1, r2, r3]) ⟨⟨rfl, rfl, rfl⟩, ⟨rfl, rfl, rfl⟩, ⟨rfl, rfl, rfl⟩, ⟨rfl, rfl, rfl⟩, trivial⟩).2 h, trivial⟩).mono ?_
    rintro e w' ⟨v, rfl, h1, h2⟩
    exact ⟨congrArg Ending.returned h1, h2⟩
def xrValidN0X (r0 r1 r2 r3 : Rq) : List Fq := []
def xrValidN1X (r0 r1 r2 r3 : Rq) : List Fq := []
def xrValidN2X (r0 r1 r2 r3 : Rq) : List Fq := []
def xrValidN3X (r0 r1 r2 r3 : Rq) : List Fq := []
theorem q_rValidN (x : Value) (r0 r1 r2 r3 : Rq) (w : World) (h : IsL w x [r0, r1, r2, r3]) (lr0 : r0.L ≤ 1000000) (nr0 : r0.N ≤ 1000000) (lr1 : r1.L ≤ 1000000) (nr1 : r1.N ≤ 1000000) (lr2 : r2.L ≤ 1000000) (nr2 : r2.N ≤ 1000000) (lr3 : r3.L ≤ 1000000) (nr3 : r3.N ≤ 1000000) (hne : (r0.vld && (r1.vld && (r2.vld && r3.vld))) = false) : Calls Try.prog 12 #[x] w fun e w' => RetV w (.bool false) e w' := by
  rcases Bool.eq_false_or_eq_true (r0.vld) with c0 | c0
  · rcases Bool.eq_false_or_eq_true (r1.vld) with c1 | c1
    · rcases Bool.eq_false_or_eq_true (r2.vld) with c2 | c2
      · rcases Bool.eq_false_or_eq_true (r3.vld) with c3 | c3
        · exact absurd hne (by rw [c0, c1, c2, c3]; decide)
        · refine (calls_runFn (ρ := frs (xrValidN0X r0 r1 r2 r3) ++ [.val (.bool r0.s), .dig r0.L r0.p, .dig r0.N r0.q, .val (.bool r1.s), .dig r1.L r1.p, .dig r1.N r1.q, .val (.bool r2.s), .dig r2.L r2.p, .dig r2.N r2.q, .val (.bool r3.s), .dig r3.L r3.p, .dig r3.N r3.q]) (w := w) (fuel := 300) (args := [rowN [0, 3, 6, 9]]) (vs := [x]) (r := .v (.one (.b false)))
            (il_cons (I_rValidX (n := 0) (r := r0) (d := true) ⟨⟨rfl, rfl, rfl⟩, trivial⟩ c0 lr0 nr0) (il_cons (I_rValidX (n := 3) (r := r1) (d := true) ⟨⟨rfl, rfl, rfl⟩, trivial⟩ c1 lr1 nr1) (il_cons (I_rValidX (n := 6) (r := r2) (d := true) ⟨⟨rfl, rfl, rfl⟩, trivial⟩ c2 lr2 nr2) (il_cons (I_rValidX (n := 9) (r := r3) (d := false) ⟨⟨rfl, rfl, rfl⟩, trivial⟩ c3 lr3 nr3) (il_nil))))) ol_nil (by kernel_rfl) Try.func12 (by kernel_rfl) ⟨(rowN_isL (ns := [0, 3, 6, 9]) (rs := [r0, r1, r2, r3]) ⟨⟨rfl, rfl, rfl⟩, ⟨rfl, rfl, rfl⟩, ⟨rfl, rfl, rfl⟩, ⟨rfl, rfl, rfl⟩, trivial⟩).2 h, trivial⟩).mono ?_
          rintro e w' ⟨v, rfl, h1, h2⟩
          exact ⟨congrArg Ending.returned h1, h2⟩
      · refine (calls_runFn (ρ := frs (xrValidN1X r0 r1 r2 r3) ++ [.val (.bool r0.s), .dig r0.L r0.p, .dig r0.N r0.q, .val (.bool r1.s), .dig r1.L r1.p, .dig r1.N r1.q, .val (.bool r2.s), .dig r2.L r2.p, .dig r2.N r2.q, .val (.bool r3.s), .dig r3.L r3.p, .dig r3.N r3.q]) (w := w) (fuel := 300) (args := [rowN [0, 3, 6, 9]]) (vs := [x]) (r := .v (.one (.b false)))
          (il_cons (I_rValidX (n := 0) (r := r0) (d := true) ⟨⟨rfl, rfl, rfl⟩, trivial⟩ c0 lr0 nr0) (il_cons (I_rValidX (n := 3) (r := r1) (d := true) ⟨⟨rfl, rfl, rfl⟩, trivial⟩ c1 lr1 nr1) (il_cons (I_rValidX (n := 6) (r := r2) (d := false) ⟨⟨rfl, rfl, rfl⟩, trivial⟩ c2 lr2 nr2) (il_nil)))) ol_nil (by kernel_rfl) Try.func12 (by kernel_rfl) ⟨(rowN_isL (ns := [0, 3, 6, 9]) (rs := [r0, r1, r2, r3]) ⟨⟨rfl, rfl, rfl⟩, ⟨rfl, rfl, rfl⟩, ⟨rfl, rfl, rfl⟩, ⟨rfl, rfl, rfl⟩, trivial⟩).2 h, trivial⟩).mono ?_
        rintro e w' ⟨v, rfl, h1, h2⟩
        exact ⟨congrArg Ending.returned h1, h2⟩
    · refine (calls_runFn (ρ := frs (xrValidN2X r0 r1 r2 r3) ++ [.val (.bool r0.s), .dig r0.L r0.p, .dig r0.N r0.q, .val (.bool r1.s), .dig r1.L r1.p, .dig r1.N r1.q, .val (.bool r2.s), .dig r2.L r2.p, .dig r2.N r2.q, .val (.bool r3.s), .dig r3.L r3.p, .dig r3.N r3.q]) (w := w) (fuel := 300) (args := [rowN [0, 3, 6, 9]]) (vs := [x]) (r := .v (.one (.b false)))
        (il_cons (I_rValidX (n := 0) (r := r0) (d := true) ⟨⟨rfl, rfl, rfl⟩, trivial⟩ c0 lr0 nr0) (il_cons (I_rValidX (n := 3) (r := r1) (d := false) ⟨⟨rfl, rfl, rfl⟩, trivial⟩ c1 lr1 nr1) (il_nil))) ol_nil (by kernel_rfl) Try.func12 (by kernel_rfl) ⟨(rowN_isL (ns := [0, 3, 6, 9]) (rs := [r0, r1, r2, r3]) ⟨⟨rfl, rfl, rfl⟩, ⟨rfl, rfl, rfl⟩, ⟨rfl, rfl, rfl⟩, ⟨rfl, rfl, rfl⟩, trivial⟩).2 h, trivial⟩).mono ?_
      rintro e w' ⟨v, rfl, h1, h2⟩
      exact ⟨congrArg Ending.returned h1, h2⟩
  · refine (calls_runFn (ρ := frs (xrValidN3X r0 r1 r2 r3) ++ [.val (.bool r0.s), .dig r0.L r0.p, .dig r0.N r0.q, .val (.bool r1.s), .dig r1.L r1.p, .dig r1.N r1.q, .val (.bool r2.s), .dig r2.L r2.p, .dig r2.N r2.q, .val (.bool r3.s), .dig r3.L r3.p, .dig r3.N r3.q]) (w := w) (fuel := 300) (args := [rowN [0, 3, 6, 9]]) (vs := [x]) (r := .v (.one (.b false)))
      (il_cons (I_rValidX (n := 0) (r := r0) (d := false) ⟨⟨rfl, rfl, rfl⟩, trivial⟩ c0 lr0 nr0) (il_nil)) ol_nil (by kernel_rfl) Try.func12 (by kernel_rfl) ⟨(rowN_isL (ns := [0, 3, 6, 9]) (rs := [r0, r1, r2, r3]) ⟨⟨rfl, rfl, rfl⟩, ⟨rfl, rfl, rfl⟩, ⟨rfl, rfl, rfl⟩, ⟨rfl, rfl, rfl⟩, trivial⟩).2 h, trivial⟩).mono ?_
    rintro e w' ⟨v, rfl, h1, h2⟩
    exact ⟨congrArg Ending.returned h1, h2⟩
theorem q_fValidB (vq : Value) (q : Qq) (w : World) (iq : IsQt w vq q) (hq : q.ok 1000000) (gc : q.comp) : Calls Try.prog 11 #[vq] w fun e w' => RetV w (.bool (q.first.same (Fq.ofInt 1))) e w' := by
  by_cases h : q.first = Fq.ofInt 1
  · rw [Fq.same_iff.2 h]; exact q_fValidT1 vq q w iq hq (good_of gc h)
  · rw [same_ne h]; exact q_fValidT0 vq q w iq hq gc h
theorem q_fValidR4 (x : Value) (r0 r1 r2 r3 : Rq) (w : World) (h : IsL w x [r0, r1, r2, r3]) (lr0 : r0.L ≤ 1000000) (nr0 : r0.N ≤ 1000000) (lr1 : r1.L ≤ 1000000) (nr1 : r1.N ≤ 1000000) (lr2 : r2.L ≤ 1000000) (nr2 : r2.N ≤ 1000000) (lr3 : r3.L ≤ 1000000) (nr3 : r3.N ≤ 1000000) : Calls Try.prog 11 #[x] w fun e w' => RetV w (.bool (rawQ r0 r1 r2 r3)) e w' := by
  rcases Bool.eq_false_or_eq_true (r0.vld && (r1.vld && (r2.vld && r3.vld))) with hv | hv
  · unfold rawQ
    rw [hv, Bool.true_and]
    simp only [Bool.and_eq_true] at hv
    obtain ⟨h0, h1, h2, h3⟩ := hv
    have k0 := vld_nl h0; have k1 := vld_nl h1; have k2 := vld_nl h2; have k3 := vld_nl h3
    have m0 := vld_raw h0; have m1 := vld_raw h1; have m2 := vld_raw h2; have m3 := vld_raw h3
    refine q_fValidB x (Qq.mk ⟨r0.s, r0.p, r0.q⟩ ⟨r1.s, r1.p, r1.q⟩ ⟨r2.s, r2.p, r2.q⟩ ⟨r3.s, r3.p, r3.q⟩) w (by have h' := h; rw [m0.1, m1.1, m2.1, m3.1] at h'; exact h') ⟨⟨?_, ?_, Fq.valid.n m0.2⟩, ⟨?_, ?_, Fq.valid.n m1.2⟩, ⟨?_, ?_, Fq.valid.n m2.2⟩, ⟨?_, ?_, Fq.valid.n m3.2⟩⟩ ⟨m0.2, m1.2, m2.2, m3.2⟩
    · show nl r0.p ≤ _; omega
    · show nl r0.q ≤ _; omega
    · show nl r1.p ≤ _; omega
    · show nl r1.q ≤ _; omega
    · show nl r2.p ≤ _; omega
    · show nl r2.q ≤ _; omega
    · show nl r3.p ≤ _; omega
    · show nl r3.q ≤ _; omega
  · unfold rawQ
    rw [hv, Bool.false_and]
    exact q_fValidN x r0 r1 r2 r3 w h lr0 nr0 lr1 nr1 lr2 nr2 lr3 nr3 hv
theorem I_fValidB {xs : List Fq} {ys : Rho} {kq : List Nat} {n : Nat} {q : Qq} (aq : AtL xs kq [q.w, q.x, q.y, q.z]) (hn : (frs xs ++ ys)[n]? = some (.val (.bool (q.first.same (Fq.ofInt 1))))) (hq : q.ok 1000000) (gc : q.comp) : OkI xs ys ⟨11, [row kq], .v (.one (.ref n))⟩ :=
  ⟨enters Try.func11 rfl rfl, fun B w vs h => by
    match vs, h with
    | [va], h =>
      refine (q_fValidB va q w ((row_isL aq).1 h.1) hq gc).mono ?_
      rintro e w' ⟨rfl, h2⟩
      exact ⟨_, rfl, lrb hn B w', h2⟩⟩
theorem I_fValidR4 {xs : List Fq} {ys : Rho} {ns : List Nat} {n : Nat} {r0 r1 r2 r3 : Rq} (hr : AtR (frs xs ++ ys) ns [r0, r1, r2, r3]) (hn : (frs xs ++ ys)[n]? = some (.val (.bool (rawQ r0 r1 r2 r3)))) (lr0 : r0.L ≤ 1000000) (nr0 : r0.N ≤ 1000000) (lr1 : r1.L ≤ 1000000) (nr1 : r1.N ≤ 1000000) (lr2 : r2.L ≤ 1000000) (nr2 : r2.N ≤ 1000000) (lr3 : r3.L ≤ 1000000) (nr3 : r3.N ≤ 1000000) : OkI xs ys ⟨11, [rowN ns], .v (.one (.ref n))⟩ :=
  ⟨enters Try.func11 rfl rfl, fun B w vs h => by
    match vs, h with
    | [va], h =>
      refine (q_fValidR4 va r0 r1 r2 r3 w ((rowN_isL hr).1 h.1) lr0 nr0 lr1 nr1 lr2 nr2 lr3 nr3).mono ?_
      rintro e w' ⟨rfl, h2⟩
      exact ⟨_, rfl, lrb hn B w', h2⟩⟩
theorem q_rValidB (vq : Value) (q : Qq) (w : World) (iq : IsQt w vq q) (hq : q.ok 1000000) (gc : q.comp) : Calls Try.prog 12 #[vq] w fun e w' => RetV w (.bool (q.first.same (Fq.ofInt 1))) e w' := by
  by_cases h : q.first = Fq.ofInt 1
  · rw [Fq.same_iff.2 h]; exact q_rValidT1 vq q w iq hq (good_of gc h)
  · rw [same_ne h]; exact q_rValidT0 vq q w iq hq gc h
theorem q_rValidR4 (x : Value) (r0 r1 r2 r3 : Rq) (w : World) (h : IsL w x [r0, r1, r2, r3]) (lr0 : r0.L ≤ 1000000) (nr0 : r0.N ≤ 1000000) (lr1 : r1.L ≤ 1000000) (nr1 : r1.N ≤ 1000000) (lr2 : r2.L ≤ 1000000) (nr2 : r2.N ≤ 1000000) (lr3 : r3.L ≤ 1000000) (nr3 : r3.N ≤ 1000000) : Calls Try.prog 12 #[x] w fun e w' => RetV w (.bool (rawQ r0 r1 r2 r3)) e w' := by
  rcases Bool.eq_false_or_eq_true (r0.vld && (r1.vld && (r2.vld && r3.vld))) with hv | hv
  · unfold rawQ
    rw [hv, Bool.true_and]
    simp only [Bool.and_eq_true] at hv
    obtain ⟨h0, h1, h2, h3⟩ := hv
    have k0 := vld_nl h0; have k1 := vld_nl h1; have k2 := vld_nl h2; have k3 := vld_nl h3
    have m0 := vld_raw h0; have m1 := vld_raw h1; have m2 := vld_raw h2; have m3 := vld_raw h3
    refine q_rValidB x (Qq.mk ⟨r0.s, r0.p, r0.q⟩ ⟨r1.s, r1.p, r1.q⟩ ⟨r2.s, r2.p, r2.q⟩ ⟨r3.s, r3.p, r3.q⟩) w (by have h' := h; rw [m0.1, m1.1, m2.1, m3.1] at h'; exact h') ⟨⟨?_, ?_, Fq.valid.n m0.2⟩, ⟨?_, ?_, Fq.valid.n m1.2⟩, ⟨?_, ?_, Fq.valid.n m2.2⟩, ⟨?_, ?_, Fq.valid.n m3.2⟩⟩ ⟨m0.2, m1.2, m2.2, m3.2⟩
    · show nl r0.p ≤ _; omega
    · show nl r0.q ≤ _; omega
    · show nl r1.p ≤ _; omega
    · show nl r1.q ≤ _; omega
    · show nl r2.p ≤ _; omega
    · show nl r2.q ≤ _; omega
    · show nl r3.p ≤ _; omega
    · show nl r3.q ≤ _; omega
  · unfold rawQ
    rw [hv, Bool.false_and]
    exact q_rValidN x r0 r1 r2 r3 w h lr0 nr0 lr1 nr1 lr2 nr2 lr3 nr3 hv
theorem I_rValidB {xs : List Fq} {ys : Rho} {kq : List Nat} {n : Nat} {q : Qq} (aq : AtL xs kq [q.w, q.x, q.y, q.z]) (hn : (frs xs ++ ys)[n]? = some (.val (.bool (q.first.same (Fq.ofInt 1))))) (hq : q.ok 1000000) (gc : q.comp) : OkI xs ys ⟨12, [row kq], .v (.one (.ref n))⟩ :=
  ⟨enters Try.func12 rfl rfl, fun B w vs h => by
    match vs, h with
    | [va], h =>
      refine (q_rValidB va q w ((row_isL aq).1 h.1) hq gc).mono ?_
      rintro e w' ⟨rfl, h2⟩
      exact ⟨_, rfl, lrb hn B w', h2⟩⟩
theorem I_rValidR4 {xs : List Fq} {ys : Rho} {ns : List Nat} {n : Nat} {r0 r1 r2 r3 : Rq} (hr : AtR (frs xs ++ ys) ns [r0, r1, r2, r3]) (hn : (frs xs ++ ys)[n]? = some (.val (.bool (rawQ r0 r1 r2 r3)))) (lr0 : r0.L ≤ 1000000) (nr0 : r0.N ≤ 1000000) (lr1 : r1.L ≤ 1000000) (nr1 : r1.N ≤ 1000000) (lr2 : r2.L ≤ 1000000) (nr2 : r2.N ≤ 1000000) (lr3 : r3.L ≤ 1000000) (nr3 : r3.N ≤ 1000000) : OkI xs ys ⟨12, [rowN ns], .v (.one (.ref n))⟩ :=
  ⟨enters Try.func12 rfl rfl, fun B w vs h => by
    match vs, h with
    | [va], h =>
      refine (q_rValidR4 va r0 r1 r2 r3 w ((rowN_isL hr).1 h.1) lr0 nr0 lr1 nr1 lr2 nr2 lr3 nr3).mono ?_
      rintro e w' ⟨rfl, h2⟩
      exact ⟨_, rfl, lrb hn B w', h2⟩⟩
theorem q_fEqualB (va vb : Value) (a b : Qq) (w : World) (ia : IsQt w va a) (ib : IsQt w vb b) (ha : a.ok 100000000) (hb : b.ok 100000000) (ga : a.comp) (gb : b.comp) : Calls Try.prog 14 #[va, vb] w fun e w' => RetV w (.bool (a.same b)) e w' := by
  by_cases h : a = b
  · rw [Qq.same_iff.2 h]; exact q_fEqual1 va vb a b w ia ib ha hb h ga gb
  · rw [Bool.eq_false_iff.2 (mt Qq.same_iff.1 h)]; exact q_fEqual0 va vb a b w ia ib ha hb h ga gb
theorem I_fEqualB {xs : List Fq} {ys : Rho} {ka kb : List Nat} {n : Nat} {a b : Qq} (aa : AtL xs ka [a.w, a.x, a.y, a.z]) (ab : AtL xs kb [b.w, b.x, b.y, b.z]) (hn : (frs xs ++ ys)[n]? = some (.val (.bool (a.same b)))) (ha : a.ok 100000000) (hb : b.ok 100000000) (ga : a.comp) (gb : b.comp) : OkI xs ys ⟨14, [row ka, row kb], .v (.one (.ref n))⟩ :=
  ⟨enters Try.func14 rfl rfl, fun B w vs h => by
    match vs, h with
    | [va, vb], h =>
      refine (q_fEqualB va vb a b w ((row_isL aa).1 h.1) ((row_isL ab).1 h.2.1) ha hb ga gb).mono ?_
      rintro e w' ⟨rfl, h2⟩
      exact ⟨_, rfl, lrb hn B w', h2⟩⟩
theorem q_rEqualB (va vb : Value) (a b : Qq) (w : World) (ia : IsQt w va a) (ib : IsQt w vb b) (ha : a.ok 1000000000) (hb : b.ok 1000000000) : Calls Try.prog 13 #[va, vb] w fun e w' => RetV w (.bool (a.same b)) e w' := by
  by_cases h : a = b
  · rw [Qq.same_iff.2 h]; exact q_rEqual1 va vb a b w ia ib ha hb h
  · rw [Bool.eq_false_iff.2 (mt Qq.same_iff.1 h)]; exact q_rEqual0 va vb a b w ia ib ha hb h
theorem I_rEqualB {xs : List Fq} {ys : Rho} {ka kb : List Nat} {n : Nat} {a b : Qq} (aa : AtL xs ka [a.w, a.x, a.y, a.z]) (ab : AtL xs kb [b.w, b.x, b.y, b.z]) (hn : (frs xs ++ ys)[n]? = some (.val (.bool (a.same b)))) (ha : a.ok 1000000000) (hb : b.ok 1000000000) : OkI xs ys ⟨13, [row ka, row kb], .v (.one (.ref n))⟩ :=
  ⟨enters Try.func13 rfl rfl, fun B w vs h => by
    match vs, h with
    | [va, vb], h =>
      refine (q_rEqualB va vb a b w ((row_isL aa).1 h.1) ((row_isL ab).1 h.2.1) ha hb).mono ?_
      rintro e w' ⟨rfl, h2⟩
      exact ⟨_, rfl, lrb hn B w', h2⟩⟩
def xMakes0X (F0 F1 F2 F3 : Fq) (P : Qq) (r0 r1 r2 r3 : Rq) (p0n p0d p1n p1d p2n p2d p3n p3d : Int) : List Fq := [F0, F1, F2, F3, Qq.zero.w, Qq.zero.x, Qq.zero.y, Qq.zero.z, P.w, P.x, P.y, P.z, Qq.id.w, Qq.id.x, Qq.id.y, Qq.id.z]
def xMakes1X (F0 F1 F2 F3 : Fq) (P : Qq) (r0 r1 r2 r3 : Rq) (p0n p0d p1n p1d p2n p2d p3n p3d : Int) : List Fq := [F0, F1, F2, F3, Qq.zero.w, Qq.zero.x, Qq.zero.y, Qq.zero.z, P.w, P.x, P.y, P.z, Qq.id.w, Qq.id.x, Qq.id.y, Qq.id.z]
def xMakes2X (F0 F1 F2 F3 : Fq) (P : Qq) (r0 r1 r2 r3 : Rq) (p0n p0d p1n p1d p2n p2d p3n p3d : Int) : List Fq := [F0, F1, F2, F3, (Qq.mk F0 F1 F2 F3).canon.w, (Qq.mk F0 F1 F2 F3).canon.x, (Qq.mk F0 F1 F2 F3).canon.y, (Qq.mk F0 F1 F2 F3).canon.z, P.w, P.x, P.y, P.z, Qq.id.w, Qq.id.x, Qq.id.y, Qq.id.z]
def xMakes3X (F0 F1 F2 F3 : Fq) (P : Qq) (r0 r1 r2 r3 : Rq) (p0n p0d p1n p1d p2n p2d p3n p3d : Int) : List Fq := [F0, F1, F2, F3, (Qq.mk F0 F1 F2 F3).canon.w, (Qq.mk F0 F1 F2 F3).canon.x, (Qq.mk F0 F1 F2 F3).canon.y, (Qq.mk F0 F1 F2 F3).canon.z, P.w, P.x, P.y, P.z, Qq.id.w, Qq.id.x, Qq.id.y, Qq.id.z]
set_option maxHeartbeats 4000000 in
theorem c_RotationMakes (p0n p0d p1n p1d p2n p2d p3n p3d : Int) (x : Value) (r0 r1 r2 r3 : Rq) (w : World) (lp0n : -128 ≤ p0n) (rp0n : p0n ≤ 127) (lp0d : -128 ≤ p0d) (rp0d : p0d ≤ 127) (lp1n : -128 ≤ p1n) (rp1n : p1n ≤ 127) (lp1d : -128 ≤ p1d) (rp1d : p1d ≤ 127) (lp2n : -128 ≤ p2n) (rp2n : p2n ≤ 127) (lp2d : -128 ≤ p2d) (rp2d : p2d ≤ 127) (lp3n : -128 ≤ p3n) (rp3n : p3n ≤ 127) (lp3d : -128 ≤ p3d) (rp3d : p3d ≤ 127) (lr0 : r0.L ≤ 140737488355328) (nr0 : r0.N ≤ 140737488355328) (lr1 : r1.L ≤ 140737488355328) (nr1 : r1.N ≤ 140737488355328) (lr2 : r2.L ≤ 140737488355328) (nr2 : r2.N ≤ 140737488355328) (lr3 : r3.L ≤ 140737488355328) (nr3 : r3.N ≤ 140737488355328) (h : IsL w x [r0, r1, r2, r3]) : Calls Try.prog 3 #[.agg #[.int .i8 p0n, .int .i8 p0d, .int .i8 p1n, .int .i8 p1d, .int .i8 p2n, .int .i8 p2d, .int .i8 p3n, .int .i8 p3d], x] w fun e w' => RetV w (.bool true) e w' := by
  obtain ⟨F0, eF0⟩ : ∃ E, Fq.part p0n p0d = E := ⟨_, rfl⟩
  have vF0 : F0.valid = true := by rw [← eF0]; exact part_valid _ _
  have kF0 : F0.ok 2 := by rw [← eF0]; exact part_ok lp0n rp0n lp0d rp0d
  obtain ⟨F1, eF1⟩ : ∃ E, Fq.part p1n p1d = E := ⟨_, rfl⟩
  have vF1 : F1.valid = true := by rw [← eF1]; exact part_valid _ _
  have kF1 : F1.ok 2 := by rw [← eF1]; exact part_ok lp1n rp1n lp1d rp1d
  obtain ⟨F2, eF2⟩ : ∃ E, Fq.part p2n p2d = E := ⟨_, rfl⟩
  have vF2 : F2.valid = true := by rw [← eF2]; exact part_valid _ _
  have kF2 : F2.ok 2 := by rw [← eF2]; exact part_ok lp2n rp2n lp2d rp2d
  obtain ⟨F3, eF3⟩ : ∃ E, Fq.part p3n p3d = E := ⟨_, rfl⟩
  have vF3 : F3.valid = true := by rw [← eF3]; exact part_valid _ _
  have kF3 : F3.ok 2 := by rw [← eF3]; exact part_ok lp3n rp3n lp3d rp3d
  have gC : (Qq.mk F0 F1 F2 F3).comp := ⟨vF0, vF1, vF2, vF3⟩
  obtain ⟨P, eP⟩ : ∃ E, Qq.orId (Qq.mk (Fq.part p0n p0d) (Fq.part p1n p1d) (Fq.part p2n p2d) (Fq.part p3n p3d)) = E := ⟨_, rfl⟩
  have gP : P.good := by rw [← eP, eF0, eF1, eF2, eF3]; exact orId_good gC
  have kP : P.ok 4 := by rw [← eP, eF0, eF1, eF2, eF3]; exact orId_ok (Qq.ok.mk4 kF0 kF1 kF2 kF3)
  by_cases c0 : (Qq.mk F0 F1 F2 F3).first.p = 0
  · rcases Bool.eq_false_or_eq_true (decide ((((((((((r0.L : Nat) : Int) + ((r0.N : Nat) : Int)) + ((r1.L : Nat) : Int)) + ((r1.N : Nat) : Int)) + ((r2.L : Nat) : Int)) + ((r2.N : Nat) : Int)) + ((r3.L : Nat) : Int)) + ((r3.N : Nat) : Int)) ≤ 8)) with c1 | c1
    · have c9 := of_decide_eq_true c1
      have br0L : r0.L ≤ 1000000 := by omega
      have br0N : r0.N ≤ 1000000 := by omega
      have br1L : r1.L ≤ 1000000 := by omega
      have br1N : r1.N ≤ 1000000 := by omega
      have br2L : r2.L ≤ 1000000 := by omega
      have br2N : r2.N ≤ 1000000 := by omega
      have br3L : r3.L ≤ 1000000 := by omega
      have br3N : r3.N ≤ 1000000 := by omega
      clear c9
      refine (calls_runFn (ρ := frs (xMakes0X F0 F1 F2 F3 P r0 r1 r2 r3 p0n p0d p1n p1d p2n p2d p3n p3d) ++ [.val (.bool r0.s), .dig r0.L r0.p, .dig r0.N r0.q, .val (.bool r1.s), .dig r1.L r1.p, .dig r1.N r1.q, .val (.bool r2.s), .dig r2.L r2.p, .dig r2.N r2.q, .val (.bool r3.s), .dig r3.L r3.p, .dig r3.N r3.q, .val (.int .i8 p0n), .val (.int .i8 p0d), .val (.int .i8 p1n), .val (.int .i8 p1d), .val (.int .i8 p2n), .val (.int .i8 p2d), .val (.int .i8 p3n), .val (.int .i8 p3d), .val (.bool ((Qq.mk F0 F1 F2 F3).first.same (Fq.ofInt 1))), .val (.int .i64 ((r0.L : Nat) : Int)), .val (.int .i64 ((r0.N : Nat) : Int)), .val (.int .i64 (((r0.L : Nat) : Int) + ((r0.N : Nat) : Int))), .val (.int .i64 ((r1.L : Nat) : Int)), .val (.int .i64 ((((r0.L : Nat) : Int) + ((r0.N : Nat) : Int)) + ((r1.L : Nat) : Int))), .val (.int .i64 ((r1.N : Nat) : Int)), .val (.int .i64 (((((r0.L : Nat) : Int) + ((r0.N : Nat) : Int)) + ((r1.L : Nat) : Int)) + ((r1.N : Nat) : Int))), .val (.int .i64 ((r2.L : Nat) : Int)), .val (.int .i64 ((((((r0.L : Nat) : Int) + ((r0.N : Nat) : Int)) + ((r1.L : Nat) : Int)) + ((r1.N : Nat) : Int)) + ((r2.L : Nat) : Int))), .val (.int .i64 ((r2.N : Nat) : Int)), .val (.int .i64 (((((((r0.L : Nat) : Int) + ((r0.N : Nat) : Int)) + ((r1.L : Nat) : Int)) + ((r1.N : Nat) : Int)) + ((r2.L : Nat) : Int)) + ((r2.N : Nat) : Int))), .val (.int .i64 ((r3.L : Nat) : Int)), .val (.int .i64 ((((((((r0.L : Nat) : Int) + ((r0.N : Nat) : Int)) + ((r1.L : Nat) : Int)) + ((r1.N : Nat) : Int)) + ((r2.L : Nat) : Int)) + ((r2.N : Nat) : Int)) + ((r3.L : Nat) : Int))), .val (.int .i64 ((r3.N : Nat) : Int)), .val (.int .i64 (((((((((r0.L : Nat) : Int) + ((r0.N : Nat) : Int)) + ((r1.L : Nat) : Int)) + ((r1.N : Nat) : Int)) + ((r2.L : Nat) : Int)) + ((r2.N : Nat) : Int)) + ((r3.L : Nat) : Int)) + ((r3.N : Nat) : Int))), .val (.bool (rawQ r0 r1 r2 r3)), .val (.bool (P.same Qq.id))]) (w := w) (fuel := 300) (args := [.agg [.ref 60, .ref 61, .ref 62, .ref 63, .ref 64, .ref 65, .ref 66, .ref 67], rowN [48, 51, 54, 57]]) (vs := [.agg #[.int .i8 p0n, .int .i8 p0d, .int .i8 p1n, .int .i8 p1d, .int .i8 p2n, .int .i8 p2d, .int .i8 p3n, .int .i8 p3d], x]) (r := .v (.one (.b true)))
        (il_cons (I_Frac (n := 60) (m := 61) (k := 0) rfl rfl rfl eF0 lp0n rp0n lp0d rp0d) (il_cons (I_Frac (n := 62) (m := 63) (k := 1) rfl rfl rfl eF1 lp1n rp1n lp1d rp1d) (il_cons (I_Frac (n := 64) (m := 65) (k := 2) rfl rfl rfl eF2 lp2n rp2n lp2d rp2d) (il_cons (I_Frac (n := 66) (m := 67) (k := 3) rfl rfl rfl eF3 lp3n rp3n lp3d rp3d) (il_cons (I_fMakeT0 (ip0 := 0) (ip1 := 1) (ip2 := 2) (ip3 := 3) (kr := [4, 5, 6, 7]) rfl rfl rfl rfl ⟨rfl, rfl, rfl, rfl, trivial⟩ (kF0.mono (by decide)) (kF1.mono (by decide)) (kF2.mono (by decide)) (kF3.mono (by decide)) c0) (il_cons (I_rMakeT0 (ip0 := 0) (ip1 := 1) (ip2 := 2) (ip3 := 3) (kr := [4, 5, 6, 7]) rfl rfl rfl rfl ⟨rfl, rfl, rfl, rfl, trivial⟩ (kF0.mono (by decide)) (kF1.mono (by decide)) (kF2.mono (by decide)) (kF3.mono (by decide)) c0) (il_cons (I_fValidB (kq := [0, 1, 2, 3]) (n := 68) (q := (Qq.mk F0 F1 F2 F3)) ⟨rfl, rfl, rfl, rfl, trivial⟩ rfl (⟨kF0.mono (by decide), kF1.mono (by decide), kF2.mono (by decide), kF3.mono (by decide)⟩ : Qq.ok 1000000 (Qq.mk F0 F1 F2 F3)) gC) (il_cons (I_rValidB (kq := [0, 1, 2, 3]) (n := 68) (q := (Qq.mk F0 F1 F2 F3)) ⟨rfl, rfl, rfl, rfl, trivial⟩ rfl (⟨kF0.mono (by decide), kF1.mono (by decide), kF2.mono (by decide), kF3.mono (by decide)⟩ : Qq.ok 1000000 (Qq.mk F0 F1 F2 F3)) gC) (il_cons (I_fValidR4 (ns := [48, 51, 54, 57]) (n := 84) ⟨⟨rfl, rfl, rfl⟩, ⟨rfl, rfl, rfl⟩, ⟨rfl, rfl, rfl⟩, ⟨rfl, rfl, rfl⟩, trivial⟩ rfl br0L br0N br1L br1N br2L br2N br3L br3N) (il_cons (I_rValidR4 (ns := [48, 51, 54, 57]) (n := 84) ⟨⟨rfl, rfl, rfl⟩, ⟨rfl, rfl, rfl⟩, ⟨rfl, rfl, rfl⟩, ⟨rfl, rfl, rfl⟩, trivial⟩ rfl br0L br0N br1L br1N br2L br2N br3L br3N) (il_cons (I_rEqualZ (ka := [4, 5, 6, 7]) (a := Qq.zero) (kb := [4, 5, 6, 7]) (b := Qq.zero) ⟨rfl, rfl, rfl, rfl, trivial⟩ ⟨rfl, rfl, rfl, rfl, trivial⟩ rfl rfl) (il_cons (I_Quat (ns := [60, 61, 62, 63, 64, 65, 66, 67]) (kr := [8, 9, 10, 11]) (⟨rfl, rfl, rfl, rfl, rfl, rfl, rfl, rfl, trivial⟩) ⟨rfl, rfl, rfl, rfl, trivial⟩ eP lp0n rp0n lp0d rp0d lp1n rp1n lp1d rp1d lp2n rp2n lp2d rp2d lp3n rp3n lp3d rp3d) (il_cons (I_rId (kr := [12, 13, 14, 15]) ⟨rfl, rfl, rfl, rfl, trivial⟩) (il_cons (I_fEqualB (ka := [8, 9, 10, 11]) (kb := [12, 13, 14, 15]) (n := 85) (a := P) (b := Qq.id) ⟨rfl, rfl, rfl, rfl, trivial⟩ ⟨rfl, rfl, rfl, rfl, trivial⟩ rfl (kP.mono (by decide)) (ok_id.mono (by decide)) gP.comp id_good.comp) (il_cons (I_rEqualB (ka := [8, 9, 10, 11]) (kb := [12, 13, 14, 15]) (n := 85) (a := P) (b := Qq.id) ⟨rfl, rfl, rfl, rfl, trivial⟩ ⟨rfl, rfl, rfl, rfl, trivial⟩ rfl (kP.mono (by decide)) (ok_id.mono (by decide))) (il_cons (I_awake ) il_nil))))))))))))))))
        (ol_cons (o_bne (n := 68) (t := 4) (by kernel_rfl) rfl) (ol_cons (o_len (n := 49) (m := 69) (t := 26) ⟨_, Try.underlying26⟩ rfl rfl) (ol_cons (o_len (n := 50) (m := 70) (t := 26) ⟨_, Try.underlying26⟩ rfl rfl) (ol_cons (o_plus (n := 69) (m := 70) (k := 71) (t := 3) rfl rfl rfl (by omega) (by omega)) (ol_cons (o_len (n := 52) (m := 72) (t := 26) ⟨_, Try.underlying26⟩ rfl rfl) (ol_cons (o_plus (n := 71) (m := 72) (k := 73) (t := 3) rfl rfl rfl (by omega) (by omega)) (ol_cons (o_len (n := 53) (m := 74) (t := 26) ⟨_, Try.underlying26⟩ rfl rfl) (ol_cons (o_plus (n := 73) (m := 74) (k := 75) (t := 3) rfl rfl rfl (by omega) (by omega)) (ol_cons (o_len (n := 55) (m := 76) (t := 26) ⟨_, Try.underlying26⟩ rfl rfl) (ol_cons (o_plus (n := 75) (m := 76) (k := 77) (t := 3) rfl rfl rfl (by omega) (by omega)) (ol_cons (o_len (n := 56) (m := 78) (t := 26) ⟨_, Try.underlying26⟩ rfl rfl) (ol_cons (o_plus (n := 77) (m := 78) (k := 79) (t := 3) rfl rfl rfl (by omega) (by omega)) (ol_cons (o_len (n := 58) (m := 80) (t := 26) ⟨_, Try.underlying26⟩ rfl rfl) (ol_cons (o_plus (n := 79) (m := 80) (k := 81) (t := 3) rfl rfl rfl (by omega) (by omega)) (ol_cons (o_len (n := 59) (m := 82) (t := 26) ⟨_, Try.underlying26⟩ rfl rfl) (ol_cons (o_plus (n := 81) (m := 82) (k := 83) (t := 3) rfl rfl rfl (by omega) (by omega)) (ol_cons (o_leq (n := 83) (c := 8) (t := 3) rfl c1) (ol_cons (o_bne (n := 84) (t := 4) (by kernel_rfl) rfl) (ol_cons (o_beq (n := 85) (t := 4) (by kernel_rfl) rfl) (ol_nil)))))))))))))))))))) (by kernel_rfl) Try.func3 (by kernel_rfl) ⟨⟨[_, _, _, _, _, _, _, _], rfl, lr8 rfl _ _, lr8 rfl _ _, lr8 rfl _ _, lr8 rfl _ _, lr8 rfl _ _, lr8 rfl _ _, lr8 rfl _ _, lr8 rfl _ _, trivial⟩, (rowN_isL (ns := [48, 51, 54, 57]) (rs := [r0, r1, r2, r3]) ⟨⟨rfl, rfl, rfl⟩, ⟨rfl, rfl, rfl⟩, ⟨rfl, rfl, rfl⟩, ⟨rfl, rfl, rfl⟩, trivial⟩).2 h, trivial⟩).mono ?_
      rintro e w' ⟨v, rfl, h1, h2⟩
      exact ⟨congrArg Ending.returned h1, h2⟩
    · refine (calls_runFn (ρ := frs (xMakes1X F0 F1 F2 F3 P r0 r1 r2 r3 p0n p0d p1n p1d p2n p2d p3n p3d) ++ [.val (.bool r0.s), .dig r0.L r0.p, .dig r0.N r0.q, .val (.bool r1.s), .dig r1.L r1.p, .dig r1.N r1.q, .val (.bool r2.s), .dig r2.L r2.p, .dig r2.N r2.q, .val (.bool r3.s), .dig r3.L r3.p, .dig r3.N r3.q, .val (.int .i8 p0n), .val (.int .i8 p0d), .val (.int .i8 p1n), .val (.int .i8 p1d), .val (.int .i8 p2n), .val (.int .i8 p2d), .val (.int .i8 p3n), .val (.int .i8 p3d), .val (.bool ((Qq.mk F0 F1 F2 F3).first.same (Fq.ofInt 1))), .val (.int .i64 ((r0.L : Nat) : Int)), .val (.int .i64 ((r0.N : Nat) : Int)), .val (.int .i64 (((r0.L : Nat) : Int) + ((r0.N : Nat) : Int))), .val (.int .i64 ((r1.L : Nat) : Int)), .val (.int .i64 ((((r0.L : Nat) : Int) + ((r0.N : Nat) : Int)) + ((r1.L : Nat) : Int))), .val (.int .i64 ((r1.N : Nat) : Int)), .val (.int .i64 (((((r0.L : Nat) : Int) + ((r0.N : Nat) : Int)) + ((r1.L : Nat) : Int)) + ((r1.N : Nat) : Int))), .val (.int .i64 ((r2.L : Nat) : Int)), .val (.int .i64 ((((((r0.L : Nat) : Int) + ((r0.N : Nat) : Int)) + ((r1.L : Nat) : Int)) + ((r1.N : Nat) : Int)) + ((r2.L : Nat) : Int))), .val (.int .i64 ((r2.N : Nat) : Int)), .val (.int .i64 (((((((r0.L : Nat) : Int) + ((r0.N : Nat) : Int)) + ((r1.L : Nat) : Int)) + ((r1.N : Nat) : Int)) + ((r2.L : Nat) : Int)) + ((r2.N : Nat) : Int))), .val (.int .i64 ((r3.L : Nat) : Int)), .val (.int .i64 ((((((((r0.L : Nat) : Int) + ((r0.N : Nat) : Int)) + ((r1.L : Nat) : Int)) + ((r1.N : Nat) : Int)) + ((r2.L : Nat) : Int)) + ((r2.N : Nat) : Int)) + ((r3.L : Nat) : Int))), .val (.int .i64 ((r3.N : Nat) : Int)), .val (.int .i64 (((((((((r0.L : Nat) : Int) + ((r0.N : Nat) : Int)) + ((r1.L : Nat) : Int)) + ((r1.N : Nat) : Int)) + ((r2.L : Nat) : Int)) + ((r2.N : Nat) : Int)) + ((r3.L : Nat) : Int)) + ((r3.N : Nat) : Int))), .val (.bool (P.same Qq.id))]) (w := w) (fuel := 300) (args := [.agg [.ref 60, .ref 61, .ref 62, .ref 63, .ref 64, .ref 65, .ref 66, .ref 67], rowN [48, 51, 54, 57]]) (vs := [.agg #[.int .i8 p0n, .int .i8 p0d, .int .i8 p1n, .int .i8 p1d, .int .i8 p2n, .int .i8 p2d, .int .i8 p3n, .int .i8 p3d], x]) (r := .v (.one (.b true)))
        (il_cons (I_Frac (n := 60) (m := 61) (k := 0) rfl rfl rfl eF0 lp0n rp0n lp0d rp0d) (il_cons (I_Frac (n := 62) (m := 63) (k := 1) rfl rfl rfl eF1 lp1n rp1n lp1d rp1d) (il_cons (I_Frac (n := 64) (m := 65) (k := 2) rfl rfl rfl eF2 lp2n rp2n lp2d rp2d) (il_cons (I_Frac (n := 66) (m := 67) (k := 3) rfl rfl rfl eF3 lp3n rp3n lp3d rp3d) (il_cons (I_fMakeT0 (ip0 := 0) (ip1 := 1) (ip2 := 2) (ip3 := 3) (kr := [4, 5, 6, 7]) rfl rfl rfl rfl ⟨rfl, rfl, rfl, rfl, trivial⟩ (kF0.mono (by decide)) (kF1.mono (by decide)) (kF2.mono (by decide)) (kF3.mono (by decide)) c0) (il_cons (I_rMakeT0 (ip0 := 0) (ip1 := 1) (ip2 := 2) (ip3 := 3) (kr := [4, 5, 6, 7]) rfl rfl rfl rfl ⟨rfl, rfl, rfl, rfl, trivial⟩ (kF0.mono (by decide)) (kF1.mono (by decide)) (kF2.mono (by decide)) (kF3.mono (by decide)) c0) (il_cons (I_fValidB (kq := [0, 1, 2, 3]) (n := 68) (q := (Qq.mk F0 F1 F2 F3)) ⟨rfl, rfl, rfl, rfl, trivial⟩ rfl (⟨kF0.mono (by decide), kF1.mono (by decide), kF2.mono (by decide), kF3.mono (by decide)⟩ : Qq.ok 1000000 (Qq.mk F0 F1 F2 F3)) gC) (il_cons (I_rValidB (kq := [0, 1, 2, 3]) (n := 68) (q := (Qq.mk F0 F1 F2 F3)) ⟨rfl, rfl, rfl, rfl, trivial⟩ rfl (⟨kF0.mono (by decide), kF1.mono (by decide), kF2.mono (by decide), kF3.mono (by decide)⟩ : Qq.ok 1000000 (Qq.mk F0 F1 F2 F3)) gC) (il_cons (I_rEqualZ (ka := [4, 5, 6, 7]) (a := Qq.zero) (kb := [4, 5, 6, 7]) (b := Qq.zero) ⟨rfl, rfl, rfl, rfl, trivial⟩ ⟨rfl, rfl, rfl, rfl, trivial⟩ rfl rfl) (il_cons (I_Quat (ns := [60, 61, 62, 63, 64, 65, 66, 67]) (kr := [8, 9, 10, 11]) (⟨rfl, rfl, rfl, rfl, rfl, rfl, rfl, rfl, trivial⟩) ⟨rfl, rfl, rfl, rfl, trivial⟩ eP lp0n rp0n lp0d rp0d lp1n rp1n lp1d rp1d lp2n rp2n lp2d rp2d lp3n rp3n lp3d rp3d) (il_cons (I_rId (kr := [12, 13, 14, 15]) ⟨rfl, rfl, rfl, rfl, trivial⟩) (il_cons (I_fEqualB (ka := [8, 9, 10, 11]) (kb := [12, 13, 14, 15]) (n := 84) (a := P) (b := Qq.id) ⟨rfl, rfl, rfl, rfl, trivial⟩ ⟨rfl, rfl, rfl, rfl, trivial⟩ rfl (kP.mono (by decide)) (ok_id.mono (by decide)) gP.comp id_good.comp) (il_cons (I_rEqualB (ka := [8, 9, 10, 11]) (kb := [12, 13, 14, 15]) (n := 84) (a := P) (b := Qq.id) ⟨rfl, rfl, rfl, rfl, trivial⟩ ⟨rfl, rfl, rfl, rfl, trivial⟩ rfl (kP.mono (by decide)) (ok_id.mono (by decide))) (il_cons (I_awake ) il_nil))))))))))))))
        (ol_cons (o_bne (n := 68) (t := 4) (by kernel_rfl) rfl) (ol_cons (o_len (n := 49) (m := 69) (t := 26) ⟨_, Try.underlying26⟩ rfl rfl) (ol_cons (o_len (n := 50) (m := 70) (t := 26) ⟨_, Try.underlying26⟩ rfl rfl) (ol_cons (o_plus (n := 69) (m := 70) (k := 71) (t := 3) rfl rfl rfl (by omega) (by omega)) (ol_cons (o_len (n := 52) (m := 72) (t := 26) ⟨_, Try.underlying26⟩ rfl rfl) (ol_cons (o_plus (n := 71) (m := 72) (k := 73) (t := 3) rfl rfl rfl (by omega) (by omega)) (ol_cons (o_len (n := 53) (m := 74) (t := 26) ⟨_, Try.underlying26⟩ rfl rfl) (ol_cons (o_plus (n := 73) (m := 74) (k := 75) (t := 3) rfl rfl rfl (by omega) (by omega)) (ol_cons (o_len (n := 55) (m := 76) (t := 26) ⟨_, Try.underlying26⟩ rfl rfl) (ol_cons (o_plus (n := 75) (m := 76) (k := 77) (t := 3) rfl rfl rfl (by omega) (by omega)) (ol_cons (o_len (n := 56) (m := 78) (t := 26) ⟨_, Try.underlying26⟩ rfl rfl) (ol_cons (o_plus (n := 77) (m := 78) (k := 79) (t := 3) rfl rfl rfl (by omega) (by omega)) (ol_cons (o_len (n := 58) (m := 80) (t := 26) ⟨_, Try.underlying26⟩ rfl rfl) (ol_cons (o_plus (n := 79) (m := 80) (k := 81) (t := 3) rfl rfl rfl (by omega) (by omega)) (ol_cons (o_len (n := 59) (m := 82) (t := 26) ⟨_, Try.underlying26⟩ rfl rfl) (ol_cons (o_plus (n := 81) (m := 82) (k := 83) (t := 3) rfl rfl rfl (by omega) (by omega)) (ol_cons (o_leq (n := 83) (c := 8) (t := 3) rfl c1) (ol_cons (o_beq (n := 84) (t := 4) (by kernel_rfl) rfl) (ol_nil))))))))))))))))))) (by kernel_rfl) Try.func3 (by kernel_rfl) ⟨⟨[_, _, _, _, _, _, _, _], rfl, lr8 rfl _ _, lr8 rfl _ _, lr8 rfl _ _, lr8 rfl _ _, lr8 rfl _ _, lr8 rfl _ _, lr8 rfl _ _, lr8 rfl _ _, trivial⟩, (rowN_isL (ns := [48, 51, 54, 57]) (rs := [r0, r1, r2, r3]) ⟨⟨rfl, rfl, rfl⟩, ⟨rfl, rfl, rfl⟩, ⟨rfl, rfl, rfl⟩, ⟨rfl, rfl, rfl⟩, trivial⟩).2 h, trivial⟩).mono ?_
      rintro e w' ⟨v, rfl, h1, h2⟩
      exact ⟨congrArg Ending.returned h1, h2⟩
  · rcases Bool.eq_false_or_eq_true (decide ((((((((((r0.L : Nat) : Int) + ((r0.N : Nat) : Int)) + ((r1.L : Nat) : Int)) + ((r1.N : Nat) : Int)) + ((r2.L : Nat) : Int)) + ((r2.N : Nat) : Int)) + ((r3.L : Nat) : Int)) + ((r3.N : Nat) : Int)) ≤ 8)) with c1 | c1
    · have c9 := of_decide_eq_true c1
      have br0L : r0.L ≤ 1000000 := by omega
      have br0N : r0.N ≤ 1000000 := by omega
      have br1L : r1.L ≤ 1000000 := by omega
      have br1N : r1.N ≤ 1000000 := by omega
      have br2L : r2.L ≤ 1000000 := by omega
      have br2N : r2.N ≤ 1000000 := by omega
      have br3L : r3.L ≤ 1000000 := by omega
      have br3N : r3.N ≤ 1000000 := by omega
      clear c9
      refine (calls_runFn (ρ := frs (xMakes2X F0 F1 F2 F3 P r0 r1 r2 r3 p0n p0d p1n p1d p2n p2d p3n p3d) ++ [.val (.bool r0.s), .dig r0.L r0.p, .dig r0.N r0.q, .val (.bool r1.s), .dig r1.L r1.p, .dig r1.N r1.q, .val (.bool r2.s), .dig r2.L r2.p, .dig r2.N r2.q, .val (.bool r3.s), .dig r3.L r3.p, .dig r3.N r3.q, .val (.int .i8 p0n), .val (.int .i8 p0d), .val (.int .i8 p1n), .val (.int .i8 p1d), .val (.int .i8 p2n), .val (.int .i8 p2d), .val (.int .i8 p3n), .val (.int .i8 p3d), .val (.bool ((Qq.mk F0 F1 F2 F3).first.same (Fq.ofInt 1))), .val (.int .i64 ((r0.L : Nat) : Int)), .val (.int .i64 ((r0.N : Nat) : Int)), .val (.int .i64 (((r0.L : Nat) : Int) + ((r0.N : Nat) : Int))), .val (.int .i64 ((r1.L : Nat) : Int)), .val (.int .i64 ((((r0.L : Nat) : Int) + ((r0.N : Nat) : Int)) + ((r1.L : Nat) : Int))), .val (.int .i64 ((r1.N : Nat) : Int)), .val (.int .i64 (((((r0.L : Nat) : Int) + ((r0.N : Nat) : Int)) + ((r1.L : Nat) : Int)) + ((r1.N : Nat) : Int))), .val (.int .i64 ((r2.L : Nat) : Int)), .val (.int .i64 ((((((r0.L : Nat) : Int) + ((r0.N : Nat) : Int)) + ((r1.L : Nat) : Int)) + ((r1.N : Nat) : Int)) + ((r2.L : Nat) : Int))), .val (.int .i64 ((r2.N : Nat) : Int)), .val (.int .i64 (((((((r0.L : Nat) : Int) + ((r0.N : Nat) : Int)) + ((r1.L : Nat) : Int)) + ((r1.N : Nat) : Int)) + ((r2.L : Nat) : Int)) + ((r2.N : Nat) : Int))), .val (.int .i64 ((r3.L : Nat) : Int)), .val (.int .i64 ((((((((r0.L : Nat) : Int) + ((r0.N : Nat) : Int)) + ((r1.L : Nat) : Int)) + ((r1.N : Nat) : Int)) + ((r2.L : Nat) : Int)) + ((r2.N : Nat) : Int)) + ((r3.L : Nat) : Int))), .val (.int .i64 ((r3.N : Nat) : Int)), .val (.int .i64 (((((((((r0.L : Nat) : Int) + ((r0.N : Nat) : Int)) + ((r1.L : Nat) : Int)) + ((r1.N : Nat) : Int)) + ((r2.L : Nat) : Int)) + ((r2.N : Nat) : Int)) + ((r3.L : Nat) : Int)) + ((r3.N : Nat) : Int))), .val (.bool (rawQ r0 r1 r2 r3)), .val (.bool (P.same Qq.id))]) (w := w) (fuel := 300) (args := [.agg [.ref 60, .ref 61, .ref 62, .ref 63, .ref 64, .ref 65, .ref 66, .ref 67], rowN [48, 51, 54, 57]]) (vs := [.agg #[.int .i8 p0n, .int .i8 p0d, .int .i8 p1n, .int .i8 p1d, .int .i8 p2n, .int .i8 p2d, .int .i8 p3n, .int .i8 p3d], x]) (r := .v (.one (.b true)))
        (il_cons (I_Frac (n := 60) (m := 61) (k := 0) rfl rfl rfl eF0 lp0n rp0n lp0d rp0d) (il_cons (I_Frac (n := 62) (m := 63) (k := 1) rfl rfl rfl eF1 lp1n rp1n lp1d rp1d) (il_cons (I_Frac (n := 64) (m := 65) (k := 2) rfl rfl rfl eF2 lp2n rp2n lp2d rp2d) (il_cons (I_Frac (n := 66) (m := 67) (k := 3) rfl rfl rfl eF3 lp3n rp3n lp3d rp3d) (il_cons (I_fMakeT (ip0 := 0) (ip1 := 1) (ip2 := 2) (ip3 := 3) (kr := [4, 5, 6, 7]) rfl rfl rfl rfl ⟨rfl, rfl, rfl, rfl, trivial⟩ (kF0.mono (by decide)) (kF1.mono (by decide)) (kF2.mono (by decide)) (kF3.mono (by decide)) c0) (il_cons (I_rMakeT (ip0 := 0) (ip1 := 1) (ip2 := 2) (ip3 := 3) (kr := [4, 5, 6, 7]) rfl rfl rfl rfl ⟨rfl, rfl, rfl, rfl, trivial⟩ (kF0.mono (by decide)) (kF1.mono (by decide)) (kF2.mono (by decide)) (kF3.mono (by decide)) c0) (il_cons (I_fValidB (kq := [0, 1, 2, 3]) (n := 68) (q := (Qq.mk F0 F1 F2 F3)) ⟨rfl, rfl, rfl, rfl, trivial⟩ rfl (⟨kF0.mono (by decide), kF1.mono (by decide), kF2.mono (by decide), kF3.mono (by decide)⟩ : Qq.ok 1000000 (Qq.mk F0 F1 F2 F3)) gC) (il_cons (I_rValidB (kq := [0, 1, 2, 3]) (n := 68) (q := (Qq.mk F0 F1 F2 F3)) ⟨rfl, rfl, rfl, rfl, trivial⟩ rfl (⟨kF0.mono (by decide), kF1.mono (by decide), kF2.mono (by decide), kF3.mono (by decide)⟩ : Qq.ok 1000000 (Qq.mk F0 F1 F2 F3)) gC) (il_cons (I_fValidR4 (ns := [48, 51, 54, 57]) (n := 84) ⟨⟨rfl, rfl, rfl⟩, ⟨rfl, rfl, rfl⟩, ⟨rfl, rfl, rfl⟩, ⟨rfl, rfl, rfl⟩, trivial⟩ rfl br0L br0N br1L br1N br2L br2N br3L br3N) (il_cons (I_rValidR4 (ns := [48, 51, 54, 57]) (n := 84) ⟨⟨rfl, rfl, rfl⟩, ⟨rfl, rfl, rfl⟩, ⟨rfl, rfl, rfl⟩, ⟨rfl, rfl, rfl⟩, trivial⟩ rfl br0L br0N br1L br1N br2L br2N br3L br3N) (il_cons (I_rEqual1 (ka := [4, 5, 6, 7]) (a := (Qq.mk F0 F1 F2 F3).canon) (kb := [4, 5, 6, 7]) (b := (Qq.mk F0 F1 F2 F3).canon) ⟨rfl, rfl, rfl, rfl, trivial⟩ ⟨rfl, rfl, rfl, rfl, trivial⟩ ((canon4_ok kF0 kF1 kF2 kF3 c0).mono (by decide)) ((canon4_ok kF0 kF1 kF2 kF3 c0).mono (by decide)) rfl) (il_cons (I_fValidT1 (kq := [4, 5, 6, 7]) (q := (Qq.mk F0 F1 F2 F3).canon) ⟨rfl, rfl, rfl, rfl, trivial⟩ ((canon4_ok kF0 kF1 kF2 kF3 c0).mono (by decide)) (canon_good gC c0)) (il_cons (I_fEqual1 (ka := [4, 5, 6, 7]) (a := (Qq.mk F0 F1 F2 F3).canon) (kb := [4, 5, 6, 7]) (b := (Qq.mk F0 F1 F2 F3).canon) ⟨rfl, rfl, rfl, rfl, trivial⟩ ⟨rfl, rfl, rfl, rfl, trivial⟩ ((canon4_ok kF0 kF1 kF2 kF3 c0).mono (by decide)) ((canon4_ok kF0 kF1 kF2 kF3 c0).mono (by decide)) rfl (canon_good gC c0).comp (canon_good gC c0).comp) (il_cons (I_Quat (ns := [60, 61, 62, 63, 64, 65, 66, 67]) (kr := [8, 9, 10, 11]) (⟨rfl, rfl, rfl, rfl, rfl, rfl, rfl, rfl, trivial⟩) ⟨rfl, rfl, rfl, rfl, trivial⟩ eP lp0n rp0n lp0d rp0d lp1n rp1n lp1d rp1d lp2n rp2n lp2d rp2d lp3n rp3n lp3d rp3d) (il_cons (I_rId (kr := [12, 13, 14, 15]) ⟨rfl, rfl, rfl, rfl, trivial⟩) (il_cons (I_fEqualB (ka := [8, 9, 10, 11]) (kb := [12, 13, 14, 15]) (n := 85) (a := P) (b := Qq.id) ⟨rfl, rfl, rfl, rfl, trivial⟩ ⟨rfl, rfl, rfl, rfl, trivial⟩ rfl (kP.mono (by decide)) (ok_id.mono (by decide)) gP.comp id_good.comp) (il_cons (I_rEqualB (ka := [8, 9, 10, 11]) (kb := [12, 13, 14, 15]) (n := 85) (a := P) (b := Qq.id) ⟨rfl, rfl, rfl, rfl, trivial⟩ ⟨rfl, rfl, rfl, rfl, trivial⟩ rfl (kP.mono (by decide)) (ok_id.mono (by decide))) (il_cons (I_awake ) il_nil))))))))))))))))))
        (ol_cons (o_bne (n := 68) (t := 4) (by kernel_rfl) rfl) (ol_cons (o_len (n := 49) (m := 69) (t := 26) ⟨_, Try.underlying26⟩ rfl rfl) (ol_cons (o_len (n := 50) (m := 70) (t := 26) ⟨_, Try.underlying26⟩ rfl rfl) (ol_cons (o_plus (n := 69) (m := 70) (k := 71) (t := 3) rfl rfl rfl (by omega) (by omega)) (ol_cons (o_len (n := 52) (m := 72) (t := 26) ⟨_, Try.underlying26⟩ rfl rfl) (ol_cons (o_plus (n := 71) (m := 72) (k := 73) (t := 3) rfl rfl rfl (by omega) (by omega)) (ol_cons (o_len (n := 53) (m := 74) (t := 26) ⟨_, Try.underlying26⟩ rfl rfl) (ol_cons (o_plus (n := 73) (m := 74) (k := 75) (t := 3) rfl rfl rfl (by omega) (by omega)) (ol_cons (o_len (n := 55) (m := 76) (t := 26) ⟨_, Try.underlying26⟩ rfl rfl) (ol_cons (o_plus (n := 75) (m := 76) (k := 77) (t := 3) rfl rfl rfl (by omega) (by omega)) (ol_cons (o_len (n := 56) (m := 78) (t := 26) ⟨_, Try.underlying26⟩ rfl rfl) (ol_cons (o_plus (n := 77) (m := 78) (k := 79) (t := 3) rfl rfl rfl (by omega) (by omega)) (ol_cons (o_len (n := 58) (m := 80) (t := 26) ⟨_, Try.underlying26⟩ rfl rfl) (ol_cons (o_plus (n := 79) (m := 80) (k := 81) (t := 3) rfl rfl rfl (by omega) (by omega)) (ol_cons (o_len (n := 59) (m := 82) (t := 26) ⟨_, Try.underlying26⟩ rfl rfl) (ol_cons (o_plus (n := 81) (m := 82) (k := 83) (t := 3) rfl rfl rfl (by omega) (by omega)) (ol_cons (o_leq (n := 83) (c := 8) (t := 3) rfl c1) (ol_cons (o_bne (n := 84) (t := 4) (by kernel_rfl) rfl) (ol_cons (o_beq (n := 85) (t := 4) (by kernel_rfl) rfl) (ol_nil)))))))))))))))))))) (by kernel_rfl) Try.func3 (by kernel_rfl) ⟨⟨[_, _, _, _, _, _, _, _], rfl, lr8 rfl _ _, lr8 rfl _ _, lr8 rfl _ _, lr8 rfl _ _, lr8 rfl _ _, lr8 rfl _ _, lr8 rfl _ _, lr8 rfl _ _, trivial⟩, (rowN_isL (ns := [48, 51, 54, 57]) (rs := [r0, r1, r2, r3]) ⟨⟨rfl, rfl, rfl⟩, ⟨rfl, rfl, rfl⟩, ⟨rfl, rfl, rfl⟩, ⟨rfl, rfl, rfl⟩, trivial⟩).2 h, trivial⟩).mono ?_
      rintro e w' ⟨v, rfl, h1, h2⟩
      exact ⟨congrArg Ending.returned h1, h2⟩
    · refine (calls_runFn (ρ := frs (xMakes3X F0 F1 F2 F3 P r0 r1 r2 r3 p0n p0d p1n p1d p2n p2d p3n p3d) ++ [.val (.bool r0.s), .dig r0.L r0.p, .dig r0.N r0.q, .val (.bool r1.s), .dig r1.L r1.p, .dig r1.N r1.q, .val (.bool r2.s), .dig r2.L r2.p, .dig r2.N r2.q, .val (.bool r3.s), .dig r3.L r3.p, .dig r3.N r3.q, .val (.int .i8 p0n), .val (.int .i8 p0d), .val (.int .i8 p1n), .val (.int .i8 p1d), .val (.int .i8 p2n), .val (.int .i8 p2d), .val (.int .i8 p3n), .val (.int .i8 p3d), .val (.bool ((Qq.mk F0 F1 F2 F3).first.same (Fq.ofInt 1))), .val (.int .i64 ((r0.L : Nat) : Int)), .val (.int .i64 ((r0.N : Nat) : Int)), .val (.int .i64 (((r0.L : Nat) : Int) + ((r0.N : Nat) : Int))), .val (.int .i64 ((r1.L : Nat) : Int)), .val (.int .i64 ((((r0.L : Nat) : Int) + ((r0.N : Nat) : Int)) + ((r1.L : Nat) : Int))), .val (.int .i64 ((r1.N : Nat) : Int)), .val (.int .i64 (((((r0.L : Nat) : Int) + ((r0.N : Nat) : Int)) + ((r1.L : Nat) : Int)) + ((r1.N : Nat) : Int))), .val (.int .i64 ((r2.L : Nat) : Int)), .val (.int .i64 ((((((r0.L : Nat) : Int) + ((r0.N : Nat) : Int)) + ((r1.L : Nat) : Int)) + ((r1.N : Nat) : Int)) + ((r2.L : Nat) : Int))), .val (.int .i64 ((r2.N : Nat) : Int)), .val (.int .i64 (((((((r0.L : Nat) : Int) + ((r0.N : Nat) : Int)) + ((r1.L : Nat) : Int)) + ((r1.N : Nat) : Int)) + ((r2.L : Nat) : Int)) + ((r2.N : Nat) : Int))), .val (.int .i64 ((r3.L : Nat) : Int)), .val (.int .i64 ((((((((r0.L : Nat) : Int) + ((r0.N : Nat) : Int)) + ((r1.L : Nat) : Int)) + ((r1.N : Nat) : Int)) + ((r2.L : Nat) : Int)) + ((r2.N : Nat) : Int)) + ((r3.L : Nat) : Int))), .val (.int .i64 ((r3.N : Nat) : Int)), .val (.int .i64 (((((((((r0.L : Nat) : Int) + ((r0.N : Nat) : Int)) + ((r1.L : Nat) : Int)) + ((r1.N : Nat) : Int)) + ((r2.L : Nat) : Int)) + ((r2.N : Nat) : Int)) + ((r3.L : Nat) : Int)) + ((r3.N : Nat) : Int))), .val (.bool (P.same Qq.id))]) (w := w) (fuel := 300) (args := [.agg [.ref 60, .ref 61, .ref 62, .ref 63, .ref 64, .ref 65, .ref 66, .ref 67], rowN [48, 51, 54, 57]]) (vs := [.agg #[.int .i8 p0n, .int .i8 p0d, .int .i8 p1n, .int .i8 p1d, .int .i8 p2n, .int .i8 p2d, .int .i8 p3n, .int .i8 p3d], x]) (r := .v (.one (.b true)))
        (il_cons (I_Frac (n := 60) (m := 61) (k := 0) rfl rfl rfl eF0 lp0n rp0n lp0d rp0d) (il_cons (I_Frac (n := 62) (m := 63) (k := 1) rfl rfl rfl eF1 lp1n rp1n lp1d rp1d) (il_cons (I_Frac (n := 64) (m := 65) (k := 2) rfl rfl rfl eF2 lp2n rp2n lp2d rp2d) (il_cons (I_Frac (n := 66) (m := 67) (k := 3) rfl rfl rfl eF3 lp3n rp3n lp3d rp3d) (il_cons (I_fMakeT (ip0 := 0) (ip1 := 1) (ip2 := 2) (ip3 := 3) (kr := [4, 5, 6, 7]) rfl rfl rfl rfl ⟨rfl, rfl, rfl, rfl, trivial⟩ (kF0.mono (by decide)) (kF1.mono (by decide)) (kF2.mono (by decide)) (kF3.mono (by decide)) c0) (il_cons (I_rMakeT (ip0 := 0) (ip1 := 1) (ip2 := 2) (ip3 := 3) (kr := [4, 5, 6, 7]) rfl rfl rfl rfl ⟨rfl, rfl, rfl, rfl, trivial⟩ (kF0.mono (by decide)) (kF1.mono (by decide)) (kF2.mono (by decide)) (kF3.mono (by decide)) c0) (il_cons (I_fValidB (kq := [0, 1, 2, 3]) (n := 68) (q := (Qq.mk F0 F1 F2 F3)) ⟨rfl, rfl, rfl, rfl, trivial⟩ rfl (⟨kF0.mono (by decide), kF1.mono (by decide), kF2.mono (by decide), kF3.mono (by decide)⟩ : Qq.ok 1000000 (Qq.mk F0 F1 F2 F3)) gC) (il_cons (I_rValidB (kq := [0, 1, 2, 3]) (n := 68) (q := (Qq.mk F0 F1 F2 F3)) ⟨rfl, rfl, rfl, rfl, trivial⟩ rfl (⟨kF0.mono (by decide), kF1.mono (by decide), kF2.mono (by decide), kF3.mono (by decide)⟩ : Qq.ok 1000000 (Qq.mk F0 F1 F2 F3)) gC) (il_cons (I_rEqual1 (ka := [4, 5, 6, 7]) (a := (Qq.mk F0 F1 F2 F3).canon) (kb := [4, 5, 6, 7]) (b := (Qq.mk F0 F1 F2 F3).canon) ⟨rfl, rfl, rfl, rfl, trivial⟩ ⟨rfl, rfl, rfl, rfl, trivial⟩ ((canon4_ok kF0 kF1 kF2 kF3 c0).mono (by decide)) ((canon4_ok kF0 kF1 kF2 kF3 c0).mono (by decide)) rfl) (il_cons (I_fValidT1 (kq := [4, 5, 6, 7]) (q := (Qq.mk F0 F1 F2 F3).canon) ⟨rfl, rfl, rfl, rfl, trivial⟩ ((canon4_ok kF0 kF1 kF2 kF3 c0).mono (by decide)) (canon_good gC c0)) (il_cons (I_fEqual1 (ka := [4, 5, 6, 7]) (a := (Qq.mk F0 F1 F2 F3).canon) (kb := [4, 5, 6, 7]) (b := (Qq.mk F0 F1 F2 F3).canon) ⟨rfl, rfl, rfl, rfl, trivial⟩ ⟨rfl, rfl, rfl, rfl, trivial⟩ ((canon4_ok kF0 kF1 kF2 kF3 c0).mono (by decide)) ((canon4_ok kF0 kF1 kF2 kF3 c0).mono (by decide)) rfl (canon_good gC c0).comp (canon_good gC c0).comp) (il_cons (I_Quat (ns := [60, 61, 62, 63, 64, 65, 66, 67]) (kr := [8, 9, 10, 11]) (⟨rfl, rfl, rfl, rfl, rfl, rfl, rfl, rfl, trivial⟩) ⟨rfl, rfl, rfl, rfl, trivial⟩ eP lp0n rp0n lp0d rp0d lp1n rp1n lp1d rp1d lp2n rp2n lp2d rp2d lp3n rp3n lp3d rp3d) (il_cons (I_rId (kr := [12, 13, 14, 15]) ⟨rfl, rfl, rfl, rfl, trivial⟩) (il_cons (I_fEqualB (ka := [8, 9, 10, 11]) (kb := [12, 13, 14, 15]) (n := 84) (a := P) (b := Qq.id) ⟨rfl, rfl, rfl, rfl, trivial⟩ ⟨rfl, rfl, rfl, rfl, trivial⟩ rfl (kP.mono (by decide)) (ok_id.mono (by decide)) gP.comp id_good.comp) (il_cons (I_rEqualB (ka := [8, 9, 10, 11]) (kb := [12, 13, 14, 15]) (n := 84) (a := P) (b := Qq.id) ⟨rfl, rfl, rfl, rfl, trivial⟩ ⟨rfl, rfl, rfl, rfl, trivial⟩ rfl (kP.mono (by decide)) (ok_id.mono (by decide))) (il_cons (I_awake ) il_nil))))))))))))))))
        (ol_cons (o_bne (n := 68) (t := 4) (by kernel_rfl) rfl) (ol_cons (o_len (n := 49) (m := 69) (t := 26) ⟨_, Try.underlying26⟩ rfl rfl) (ol_cons (o_len (n := 50) (m := 70) (t := 26) ⟨_, Try.underlying26⟩ rfl rfl) (ol_cons (o_plus (n := 69) (m := 70) (k := 71) (t := 3) rfl rfl rfl (by omega) (by omega)) (ol_cons (o_len (n := 52) (m := 72) (t := 26) ⟨_, Try.underlying26⟩ rfl rfl) (ol_cons (o_plus (n := 71) (m := 72) (k := 73) (t := 3) rfl rfl rfl (by omega) (by omega)) (ol_cons (o_len (n := 53) (m := 74) (t := 26) ⟨_, Try.underlying26⟩ rfl rfl) (ol_cons (o_plus (n := 73) (m := 74) (k := 75) (t := 3) rfl rfl rfl (by omega) (by omega)) (ol_cons (o_len (n := 55) (m := 76) (t := 26) ⟨_, Try.underlying26⟩ rfl rfl) (ol_cons (o_plus (n := 75) (m := 76) (k := 77) (t := 3) rfl rfl rfl (by omega) (by omega)) (ol_cons (o_len (n := 56) (m := 78) (t := 26) ⟨_, Try.underlying26⟩ rfl rfl) (ol_cons (o_plus (n := 77) (m := 78) (k := 79) (t := 3) rfl rfl rfl (by omega) (by omega)) (ol_cons (o_len (n := 58) (m := 80) (t := 26) ⟨_, Try.underlying26⟩ rfl rfl) (ol_cons (o_plus (n := 79) (m := 80) (k := 81) (t := 3) rfl rfl rfl (by omega) (by omega)) (ol_cons (o_len (n := 59) (m := 82) (t := 26) ⟨_, Try.underlying26⟩ rfl rfl) (ol_cons (o_plus (n := 81) (m := 82) (k := 83) (t := 3) rfl rfl rfl (by omega) (by omega)) (ol_cons (o_leq (n := 83) (c := 8) (t := 3) rfl c1) (ol_cons (o_beq (n := 84) (t := 4) (by kernel_rfl) rfl) (ol_nil))))))))))))))))))) (by kernel_rfl) Try.func3 (by kernel_rfl) ⟨⟨[_, _, _, _, _, _, _, _], rfl, lr8 rfl _ _, lr8 rfl _ _, lr8 rfl _ _, lr8 rfl _ _, lr8 rfl _ _, lr8 rfl _ _, lr8 rfl _ _, lr8 rfl _ _, trivial⟩, (rowN_isL (ns := [48, 51, 54, 57]) (rs := [r0, r1, r2, r3]) ⟨⟨rfl, rfl, rfl⟩, ⟨rfl, rfl, rfl⟩, ⟨rfl, rfl, rfl⟩, ⟨rfl, rfl, rfl⟩, trivial⟩).2 h, trivial⟩).mono ?_
      rintro e w' ⟨v, rfl, h1, h2⟩
      exact ⟨congrArg Ending.returned h1, h2⟩
end Go.Proofs.Ythefidbgjgfeiaa
namespace Go.Proofs.Ythefidbgjgfeiaa
set_option linter.unusedSimpArgs false
set_option linter.unusedVariables false
set_option maxRecDepth 100000
open Go.RowKit
open Go.ChangeShapes Go.WideShapes Go.ChangeAt Go.RowKit
section
variable {H : Type} {enc : TypeId × Value → H} {W : World}
def Small (t : TypeId) (d : DataW H) : Prop := ∀ n ∈ d.weights Try.prog t, n ≤ 140737488355328
theorem open_natw {fuel : Nat} {u : Value} {x : DataW H × List MemPlace} (hf : DataW.trod enc Try.prog W 0 (fun _ => true) true fuel 28 [u] = some x) :
    ∃ a L cap m, u = .slice a L cap ∧ IsR W (.agg #[.slice a L cap]) L m ∧ (Small 28 x.1 → L ≤ 140737488355328) := by
  obtain ⟨y0, n, hy, hl0, h1⟩ := trod_struct1 Try.underlying28 hf
  have hc2 : Try.prog.cellsOf 26 = 1 := by kernel_rfl
  have hb : Try.prog.bytesOf 99 = 4 := by kernel_rfl
  simp [hc2] at h1
  rcases open_ints Try.underlying26 Try.underlying99 (by kernel_rfl) h1 with ⟨hcs, _⟩ | ⟨x', l, c, zs, hcs, _, hl, hm, hz, hx0, hcell, hwz⟩
  · simp at hcs
    subst hcs
    exact ⟨none, 0, 0, 0, rfl, ⟨none, 0, rfl, Nat.le_refl _, by simp, fun h => by omega⟩, fun _ => Nat.zero_le _⟩
  · simp at hcs
    subst hcs
    obtain ⟨N, hN, hD⟩ := digits_exist (fun j => (zs.getD j 0).toNat) (fun j => by
      have := range_u32 hwz j
      have e : zs.getD j 0 = zs[j]?.getD 0 := by simp
      rw [e]; omega) l
    refine ⟨some x', l, c, N, rfl, ⟨some x', c, rfl, hl, hN, fun h0 => ?_⟩, fun hs => ?_⟩
    · obtain ⟨b, off, spot⟩ := x'
      have hc0 := hcell 0 (by rw [hz]; simp; omega)
      have hspot : spot = none := by simpa [Addr.add] using World.cell?_spot hc0
      subst hspot
      refine ⟨b, off, rfl, fun j hj => ?_⟩
      have h2 := hcell j (by rw [hz]; simp; omega)
      have hadd : (⟨b, off, none⟩ : Addr).add j = ⟨b, off + j, none⟩ := by unfold Addr.add; split <;> simp_all
      rw [hadd] at h2
      rw [h2, hD j hj]
      have := range_u32 hwz j
      have e : zs.getD j 0 = zs[j]?.getD 0 := by simp
      rw [e, Int.toNat_of_nonneg this.1]
    · unfold Small at hs
      rw [hy] at hs
      have h3 := hs (((lits .u32 (zs.take l)).length + (lits .u32 (zs.drop l)).length) * 4) (by
        simp only [DataW.weights, Try.underlying28, DataW.weightsEach, List.map_cons, List.map_nil, List.append_nil, hx0, Try.underlying26, hb]
        exact List.mem_cons_self)
      have h4 : (lits (H := H) .u32 (zs.take l)).length = l := by
        simp only [lits, List.length_map, List.length_take]
        have : l ≤ zs.length := by rw [hz]; simp; omega
        omega
      omega
theorem open_fracw {fuel : Nat} {u0 u1 u2 : Value} {x : DataW H × List MemPlace} (hf : DataW.trod enc Try.prog W 0 (fun _ => true) true fuel 30 [u0, u1, u2] = some x) :
    ∃ (r : Rq) (a b : Option Addr) (c d : Nat), u0 = .bool r.s ∧ u1 = .slice a r.L c ∧ u2 = .slice b r.N d ∧ IsR W (.agg #[.slice a r.L c]) r.L r.p ∧ IsR W (.agg #[.slice b r.N d]) r.N r.q ∧ (Small 30 x.1 → r.L ≤ 140737488355328 ∧ r.N ≤ 140737488355328) := by
  have hcn : Try.prog.cellsOf 28 = 1 := by kernel_rfl
  have hcb : Try.prog.cellsOf 4 = 1 := by kernel_rfl
  obtain ⟨y0, y1, y2, n, hy, hl0, h0, h1, h2⟩ := Go.Deep.trod_struct3 Try.underlying30 hf
  simp [hcn, hcb] at h0 h1 h2
  obtain ⟨s, h3, _⟩ := DataW.trod_bool Try.underlying4 h0
  obtain rfl : u0 = .bool s := by simpa using h3
  obtain ⟨a, L, c, m, rfl, i1, l1⟩ := open_natw h1
  obtain ⟨a', N, c', k, rfl, i2, l2⟩ := open_natw h2
  refine ⟨⟨s, L, m, N, k⟩, a, a', c, c', rfl, rfl, rfl, i1, i2, fun hs => ?_⟩
  unfold Small at hs
  rw [hy] at hs
  simp only [DataW.weights, Try.underlying30, DataW.weightsEach, List.map_cons, List.map_nil, List.append_nil, List.mem_append] at hs
  exact ⟨l1 (fun n hn => hs n (.inr (.inl hn))), l2 (fun n hn => hs n (.inr (.inr hn)))⟩
theorem open_quat {v : Value} {d : DataW H} {p : List MemPlace} {base : Nat} (hval : Value.okWide Try.prog W .any base 32 v) (h : DataW.Trod enc Try.prog W 0 (fun _ => true) true 32 v d p) (hs : Small 32 d) :
    ∃ r0 r1 r2 r3 : Rq, IsL W v [r0, r1, r2, r3] ∧ (r0.L ≤ 140737488355328 ∧ r0.N ≤ 140737488355328) ∧ (r1.L ≤ 140737488355328 ∧ r1.N ≤ 140737488355328) ∧ (r2.L ≤ 140737488355328 ∧ r2.N ≤ 140737488355328) ∧ (r3.L ≤ 140737488355328 ∧ r3.N ≤ 140737488355328) := by
  obtain ⟨cs, rfl, hcs⟩ := okWide_struct Try.underlying32 hval
  have hc : Try.prog.cellsOf 32 = 12 := by kernel_rfl
  have hcf : Try.prog.cellsOf 30 = 3 := by kernel_rfl
  rw [hc] at hcs
  obtain ⟨l⟩ := cs
  have hl : l.length = 12 := by simpa using hcs
  obtain ⟨fuel, hf⟩ := h
  match l, hl with
  | [u0, u1, u2, u3, u4, u5, u6, u7, u8, u9, ua, ub], _ =>
    obtain ⟨xs, n, _, hx, _, hlen, hg⟩ := DataW.trod_struct Try.underlying32 hf
    match xs, hlen with
    | [y0, y1, y2, y3], _ =>
      have h0 := hg 0 _ rfl
      have h1 := hg 1 _ rfl
      have h2 := hg 2 _ rfl
      have h3 := hg 3 _ rfl
      simp [Value.cells, hcf] at h0 h1 h2 h3
      obtain ⟨r0, a0, b0, c0, d0, rfl, rfl, rfl, i0, j0, s0⟩ := open_fracw h0
      obtain ⟨r1, a1, b1, c1, d1, rfl, rfl, rfl, i1, j1, s1⟩ := open_fracw h1
      obtain ⟨r2, a2, b2, c2, d2, rfl, rfl, rfl, i2, j2, s2⟩ := open_fracw h2
      obtain ⟨r3, a3, b3, c3, d3, rfl, rfl, rfl, i3, j3, s3⟩ := open_fracw h3
      unfold Small at hs
      simp only [Prod.mk.injEq] at hx
      rw [hx.1] at hs
      simp only [DataW.weights, Try.underlying32, DataW.weightsEach, List.map_cons, List.map_nil, List.append_nil, List.mem_append] at hs
      exact ⟨r0, r1, r2, r3, ⟨_, rfl, a0, c0, b0, d0, _, rfl, i0, j0, a1, c1, b1, d1, _, rfl, i1, j1, a2, c2, b2, d2, _, rfl, i2, j2, a3, c3, b3, d3, _, rfl, i3, j3, rfl⟩,
        s0 (fun n hn => hs n (.inl hn)), s1 (fun n hn => hs n (.inr (.inl hn))), s2 (fun n hn => hs n (.inr (.inr (.inl hn)))), s3 (fun n hn => hs n (.inr (.inr (.inr hn))))⟩
end
end Go.Proofs.Ythefidbgjgfeiaa
