/- Package fraction and its reference, by the executor. -/
import Derived.Test.YthebfmlfgfmlnaaGreatDoorP09
namespace Go.Proofs.YthebfmlfgfmlnaaGreatDoor
set_option linter.unusedSimpArgs false
set_option linter.unusedVariables false
set_option maxRecDepth 100000
open Go.RowKit
/-- Agreement in all fields. -/
def Fq.same (x y : Fq) : Bool := x.s == y.s && (decide (x.p = y.p) && decide (x.q = y.q))
theorem Fq.same_iff {x y : Fq} : x.same y = true ↔ x = y := by
  obtain ⟨a, b, c⟩ := x; obtain ⟨a', b', c'⟩ := y
  simp [Fq.same]
theorem bsz (l : Array UInt8) : (ByteArray.mk l).size = l.size := rfl
/-- A natural number, a fraction, as unknowns. -/
def nt (n : Nat) : SV := .agg [.ref n]
def q3 (i j k : Nat) : SV := .agg [.ref i, .ref j, .ref k]
theorem nl_addN {m n d e : Nat} (hm : nl m ≤ d) (hn : nl n ≤ e) : nl (m + n) ≤ d + e + 1 := nl_le_iff.2 (sm_add (nl_le_iff.1 hm) (nl_le_iff.1 hn))
theorem nl_subN {m n d : Nat} (hm : nl m ≤ d) : nl (m - n) ≤ d := Nat.le_trans (nl_mono (Nat.sub_le _ _)) hm
theorem nl_divN {m n d : Nat} (hm : nl m ≤ d) : nl (m / n) ≤ d := Nat.le_trans (nl_mono (Nat.div_le_self _ _)) hm
theorem nl_gcdN {m n d e : Nat} (hm : nl m ≤ d) (hn : nl n ≤ e) : nl (Nat.gcd m n) ≤ d + e := by
  by_cases h : n = 0
  · subst h; rw [Nat.gcd_zero_right]; omega
  · have := nl_mono (Nat.gcd_le_right m (Nat.pos_of_ne_zero h)); omega
theorem nl_one : nl 1 ≤ 1 := nl_le_iff.2 (by decide)
theorem abs_lt {v : Int} (lv : -9223372036854775808 ≤ v) (rv : v < 9223372036854775808) : v.natAbs < 18446744073709551616 := by omega
theorem beq_t {a b : Bool} (h : a = b) : (a == b) = true := by simpa using h
theorem beq_f {a b : Bool} (h : a ≠ b) : (a == b) = false := by simpa using h
theorem le_t {m n : Nat} (h : ¬ m < n) : decide (n ≤ m) = true := decide_eq_true (by omega)
theorem le_f {m n : Nat} (h : m < n) : decide (n ≤ m) = false := decide_eq_false (by omega)
theorem cmp_cs (m n : Nat) : (m < n ∧ cmpI m n = -1) ∨ (n < m ∧ cmpI m n = 1) ∨ (m = n ∧ cmpI m n = 0) := by
  rcases Nat.lt_trichotomy m n with h | h | h
  · exact .inl ⟨h, cmpI_lt h⟩
  · exact .inr (.inr ⟨h, cmpI_eq h⟩)
  · exact .inr (.inl ⟨h, cmpI_gt h⟩)
theorem cmp_ne_t {m n : Nat} (h : m ≠ n) : (cmpI m n != 0) = true := bneq_t (by have := cmp_cs m n; omega)
theorem cmp_ne_f {m n : Nat} (h : m = n) : (cmpI m n != 0) = false := bneq_f (by have := cmp_cs m n; omega)
theorem lowz {m n : Nat} (h0 : n ≠ 0) : m / Nat.gcd m n = 0 ↔ m = 0 := by
  have hg := Nat.gcd_pos_of_pos_right m (Nat.pos_of_ne_zero h0)
  rw [Nat.div_eq_zero_iff]
  constructor
  · rintro (h | h)
    · omega
    · rcases Nat.eq_zero_or_pos m with h2 | h2
      · exact h2
      · have := Nat.gcd_le_left n h2; omega
  · rintro rfl; exact .inr hg
section
variable {ρ : Rho} {B : Blk} {w : World} {v : Value} {i j k l' n : Nat} {l r : Leaf} {m z z' : Nat} {f : FuncId} {s b : Bool} {x y u : Fq} {t : TypeId} {c : Int} {p q a d : Nat} {S : Bool} {P Q P0 Q0 : Nat} {S0 : Bool}
theorem nt_isR {L N : Nat} (h : ρ[n]? = some (.dig L N)) : (nt n).holds ρ B w v ↔ IsR w v L N := by
  constructor
  · rintro ⟨vs, rfl, h1⟩
    match vs, h1 with
    | [x], h1 => exact (leafD h).1 h1.1
  · intro h1
    obtain ⟨a, c, rfl, h2⟩ := h1
    exact ⟨[_], rfl, (leafD h).2 ⟨a, c, rfl, h2⟩, trivial⟩
theorem nt_isN {N : Nat} (h : ρ[n]? = some (.dig (nl N) N)) : (nt n).holds ρ B w v ↔ IsN w v N := nt_isR h
theorem inFR {L N : Nat} (h : IsFR w v s L p N q) (hl : ∀ B w, l.holds ρ B w (.bool s)) (hj : ρ[j]? = some (.dig L p)) (hk : ρ[k]? = some (.dig N q)) : (SV.agg [l, .ref j, .ref k]).holds ρ B w v := by
  obtain ⟨a, c, b, d, rfl, h1, h2⟩ := h
  exact ⟨[_, _, _], rfl, hl B w, (leafD hj).2 h1, (leafD hk).2 h2, trivial⟩
theorem inF (h : IsF w v s p q) (hl : ∀ B w, l.holds ρ B w (.bool s)) (hj : ρ[j]? = some (.dig (nl p) p)) (hk : ρ[k]? = some (.dig (nl q) q)) : (SV.agg [l, .ref j, .ref k]).holds ρ B w v := inFR (s := s) (L := nl p) (N := nl q) h hl hj hk
theorem outF (h : (SV.agg [l, .ref j, .ref k]).holds ρ B w v) (hl : ∀ B w x, l.holds ρ B w x → x = .bool S0) (hp : ρ[j]? = some (.dig (nl P0) P0)) (hq : ρ[k]? = some (.dig (nl Q0) Q0)) (eS : S0 = S) (eP : P0 = P) (eQ : Q0 = Q) : IsF w v S P Q := by
  subst eS; subst eP; subst eQ
  obtain ⟨vs, rfl, h1⟩ := h
  match vs, h1 with
  | [x, y, z], h1 =>
    have e1 := hl _ _ _ h1.1
    subst e1
    have h2 := (leafD hp).1 h1.2.1
    have h3 := (leafD hq).1 h1.2.2.1
    have hs : ∀ {x : Value} {L N : Nat}, IsR w (.agg #[x]) L N → ∃ a c, x = .slice a L c := fun {x L N} h => by
      obtain ⟨a, c, e, _⟩ := h
      injection e with e
      have := congrArg (fun x : Array Value => x[0]?) e
      exact ⟨a, c, by simpa using this⟩
    obtain ⟨a, c, rfl⟩ := hs h2
    obtain ⟨b, d, rfl⟩ := hs h3
    exact ⟨a, c, b, d, rfl, h2, h3⟩
theorem outZ (h : (SV.agg [.b false, .sl0, .sl0]).holds ρ B w v) : IsF w v false 0 0 := by
  obtain ⟨vs, rfl, h1⟩ := h
  match vs, h1 with
  | [x, y, z], h1 =>
    obtain ⟨e1, e2, e3, _⟩ := h1
    have e1 : x = .bool false := e1
    have e2 : y = .slice none 0 0 := e2
    have e3 : z = .slice none 0 0 := e3
    subst e1; subst e2; subst e3
    have h0 : IsN w (.agg #[.slice none 0 0]) 0 := ⟨none, 0, by rw [nl_zero], by rw [nl_zero]; omega, by rw [nl_zero]; decide, fun h => by rw [nl_zero] at h; omega⟩
    exact ⟨none, 0, none, 0, by rw [nl_zero], by rw [nl_zero]; exact h0, by rw [nl_zero]; exact h0⟩
theorem outT {A : SV} (h : (AV.tup [A, .one l]).holds ρ B w v) (hl : ∀ B w x, l.holds ρ B w x → x = .int .i64 c) : ∃ u, v = .tuple #[u, .int .i64 c] ∧ A.holds ρ B w u := by
  obtain ⟨vs, rfl, h1⟩ := h
  match vs, h1 with
  | [x, y], h1 =>
    have e := hl _ _ _ h1.2.1
    subst e
    exact ⟨x, rfl, h1.1⟩
theorem out2 {a b : Bool} (h : (SV.agg [l, r]).holds ρ B w v) (hl : ∀ B w x, l.holds ρ B w x → x = .bool a) (hr : ∀ B w x, r.holds ρ B w x → x = .bool b) : v = .agg #[.bool a, .bool b] := by
  obtain ⟨vs, rfl, h1⟩ := h
  match vs, h1 with
  | [x, y], h1 =>
    obtain rfl := hl _ _ _ h1.1
    obtain rfl := hr _ _ _ h1.2.1
    rfl
/-- These three unknowns (the first may be known) are the fraction x. -/
def FAt (ρ : Rho) (l : Leaf) (a b : Nat) (x : Fq) : Prop := (∀ B w, l.holds ρ B w (.bool x.s)) ∧ (∀ B w v, l.holds ρ B w v → v = .bool x.s) ∧ ρ[a]? = some (.dig (nl x.p) x.p) ∧ ρ[b]? = some (.dig (nl x.q) x.q)
theorem fat_mk {a b : Nat} (h1 : ∀ B w, l.holds ρ B w (.bool x.s)) (h2 : ∀ B w v, l.holds ρ B w v → v = .bool x.s) (h3 : ρ[a]? = some (.dig (nl x.p) x.p)) (h4 : ρ[b]? = some (.dig (nl x.q) x.q)) : FAt ρ l a b x := ⟨h1, h2, h3, h4⟩
theorem FAt.isQ {a b : Nat} (h : FAt ρ l a b x) (hv : (SV.agg [l, .ref a, .ref b]).holds ρ B w v) : IsQ w v x := outF hv h.2.1 h.2.2.1 h.2.2.2 rfl rfl rfl
theorem FAt.into {a b : Nat} (h : FAt ρ l a b x) (hv : IsQ w v x) : (SV.agg [l, .ref a, .ref b]).holds ρ B w v := inF hv h.1 h.2.2.1 h.2.2.2
theorem bl2 {b c : Bool} (h : b = c) : ∀ B w x, (Leaf.b c).holds ρ B w x → x = .bool b := fun _ _ _ e => by subst h; exact e
theorem i2N (hen : Ent' f) (hc : ∀ va vb w, IsN w va m → IsN w vb n → Calls Tryz.prog f #[va, vb] w (fun e w' => RetN w z e w')) (hi : ρ[i]? = some (.dig (nl m) m)) (hj : ρ[j]? = some (.dig (nl n) n)) (hk : ρ[k]? = some (.dig (nl z) z)) : Inst.Ok Tryz.prog ρ ⟨f, [nt i, nt j], .v (nt k)⟩ :=
  ⟨hen, fun B w vs hB h => by
    match vs, h with
    | [va, vb], h =>
      refine (hc va vb w ((nt_isN hi).1 h.1) ((nt_isN hj).1 h.2.1)).mono ?_
      rintro e w' ⟨v, rfl, h1, h2⟩
      exact ⟨v, rfl, (nt_isN hk).2 h1, h2⟩⟩
theorem i1V {u : Value} (hen : Ent' f) (hc : ∀ va w, IsN w va m → Calls Tryz.prog f #[va] w (fun e w' => RetV w u e w')) (hi : ρ[i]? = some (.dig (nl m) m)) (hl : ∀ B w, l.holds ρ B w u) : Inst.Ok Tryz.prog ρ ⟨f, [nt i], .v (.one l)⟩ :=
  ⟨hen, fun B w vs hB h => by
    match vs, h with
    | [va], h =>
      refine (hc va w ((nt_isN hi).1 h.1)).mono ?_
      rintro e w' ⟨rfl, h2⟩
      exact ⟨_, rfl, hl B w', h2⟩⟩
theorem i2V {u : Value} (hen : Ent' f) (hc : ∀ va vb w, IsN w va m → IsN w vb n → Calls Tryz.prog f #[va, vb] w (fun e w' => RetV w u e w')) (hi : ρ[i]? = some (.dig (nl m) m)) (hj : ρ[j]? = some (.dig (nl n) n)) (hl : ∀ B w, l.holds ρ B w u) : Inst.Ok Tryz.prog ρ ⟨f, [nt i, nt j], .v (.one l)⟩ :=
  ⟨hen, fun B w vs hB h => by
    match vs, h with
    | [va, vb], h =>
      refine (hc va vb w ((nt_isN hi).1 h.1) ((nt_isN hj).1 h.2.1)).mono ?_
      rintro e w' ⟨rfl, h2⟩
      exact ⟨_, rfl, hl B w', h2⟩⟩
theorem i1QQ {a b a' b' : Nat} (hen : Ent' f) (hc : ∀ va w, IsQ w va x → Calls Tryz.prog f #[va] w (fun e w' => RetQ w u e w')) (hx : FAt ρ l a b x) (hr : FAt ρ r a' b' u) : Inst.Ok Tryz.prog ρ ⟨f, [.agg [l, .ref a, .ref b]], .v (.agg [r, .ref a', .ref b'])⟩ :=
  ⟨hen, fun B w vs hB h => by
    match vs, h with
    | [va], h =>
      refine (hc va w (hx.isQ h.1)).mono ?_
      rintro e w' ⟨v, rfl, h1, h2⟩
      exact ⟨v, rfl, hr.into h1, h2⟩⟩
theorem i2QQ {a b a' b' c d : Nat} {l2 : Leaf} (hen : Ent' f) (hc : ∀ va vb w, IsQ w va x → IsQ w vb y → Calls Tryz.prog f #[va, vb] w (fun e w' => RetQ w u e w')) (hx : FAt ρ l a b x) (hy : FAt ρ l2 c d y) (hr : FAt ρ r a' b' u) : Inst.Ok Tryz.prog ρ ⟨f, [.agg [l, .ref a, .ref b], .agg [l2, .ref c, .ref d]], .v (.agg [r, .ref a', .ref b'])⟩ :=
  ⟨hen, fun B w vs hB h => by
    match vs, h with
    | [va, vb], h =>
      refine (hc va vb w (hx.isQ h.1) (hy.isQ h.2.1)).mono ?_
      rintro e w' ⟨v, rfl, h1, h2⟩
      exact ⟨v, rfl, hr.into h1, h2⟩⟩
theorem i1QV {a b : Nat} {u : Value} (hen : Ent' f) (hc : ∀ va w, IsQ w va x → Calls Tryz.prog f #[va] w (fun e w' => RetV w u e w')) (hx : FAt ρ l a b x) (hl : ∀ B w, r.holds ρ B w u) : Inst.Ok Tryz.prog ρ ⟨f, [.agg [l, .ref a, .ref b]], .v (.one r)⟩ :=
  ⟨hen, fun B w vs hB h => by
    match vs, h with
    | [va], h =>
      refine (hc va w (hx.isQ h.1)).mono ?_
      rintro e w' ⟨rfl, h2⟩
      exact ⟨_, rfl, hl B w', h2⟩⟩
theorem RetNew.toN {W w' : World} {e : Ending} (h : RetNew W n e w') : RetN W n e w' := by obtain ⟨v, h1, h2, h3⟩ := h; exact ⟨v, h1, h2.isN, h3⟩
theorem RetSub.out {W w' : World} {m n : Nat} {e : Ending} (h : RetSub W m n e w') : ∃ v, e = .returned (.tuple #[v, .bool (decide (n ≤ m))]) ∧ IsN w' v (m - n) ∧ Below W.heap.size W w' := by obtain ⟨v, h1, h2, h3⟩ := h; exact ⟨v, h1, h2.isN, h3⟩
theorem RetDiv.out {W w' : World} {q r : Nat} {c : Int} {e : Ending} (h : RetDiv W q r c e w') : ∃ a b, e = .returned (.tuple #[a, b, .int .i64 c]) ∧ IsN w' a q ∧ IsN w' b r ∧ Below W.heap.size W w' := by obtain ⟨a, b, h1, h2, h3, h4⟩ := h; exact ⟨a, b, h1, h2.isN, h3.isN, h4⟩
theorem RetP.out {W w' : World} {N : Nat} {c : Int} {e : Ending} (h : RetP W N c e w') : ∃ v, e = .returned (.tuple #[v, .int .i64 c]) ∧ IsN w' v N ∧ Below W.heap.size W w' := by obtain ⟨v, h1, h2, h3⟩ := h; exact ⟨v, h1, h2.isN, h3⟩
theorem iSub (hen : Ent' f) (hc : ∀ va vb w, IsN w va m → IsN w vb n → Calls Tryz.prog f #[va, vb] w (fun e w' => RetSub w m n e w')) (hi : ρ[i]? = some (.dig (nl m) m)) (hj : ρ[j]? = some (.dig (nl n) n)) (hk : ρ[k]? = some (.dig (nl (m - n)) (m - n))) (hb : decide (n ≤ m) = b) : Inst.Ok Tryz.prog ρ ⟨f, [nt i, nt j], .tup [nt k, .one (.b b)]⟩ :=
  ⟨hen, fun B w vs hB h => by
    match vs, h with
    | [va, vb], h =>
      refine (hc va vb w ((nt_isN hi).1 h.1) ((nt_isN hj).1 h.2.1)).mono ?_
      intro e w' hr
      obtain ⟨v, rfl, h1, h2⟩ := hr.out
      subst hb
      exact ⟨_, rfl, ⟨[v, .bool _], rfl, (nt_isN hk).2 h1, rfl, trivial⟩, h2⟩⟩
theorem iDiv (hen : Ent' f) (hc : ∀ va vb w, IsN w va m → IsN w vb n → Calls Tryz.prog f #[va, vb] w (fun e w' => RetDiv w (m / n) (m % n) 0 e w')) (hi : ρ[i]? = some (.dig (nl m) m)) (hj : ρ[j]? = some (.dig (nl n) n)) (hk : ρ[k]? = some (.dig (nl (m / n)) (m / n))) (hl : ρ[l']? = some (.dig (nl (m % n)) (m % n))) : Inst.Ok Tryz.prog ρ ⟨f, [nt i, nt j], .tup [nt k, nt l', .one (.i .i64 0)]⟩ :=
  ⟨hen, fun B w vs hB h => by
    match vs, h with
    | [va, vb], h =>
      refine (hc va vb w ((nt_isN hi).1 h.1) ((nt_isN hj).1 h.2.1)).mono ?_
      intro e w' hr
      obtain ⟨x, y, rfl, h1, h3, h2⟩ := hr.out
      exact ⟨_, rfl, ⟨[x, y, .int .i64 0], rfl, (nt_isN hk).2 h1, (nt_isN hl).2 h3, rfl, trivial⟩, h2⟩⟩
theorem iP {st : ByteArray} {N : Nat} (hen : Ent' f) (hc : ∀ w, Calls Tryz.prog f #[.string st] w (fun e w' => RetP w N c e w')) (hi : ρ[i]? = some (.val (.string st))) (hk : ρ[k]? = some (.dig (nl N) N)) (hl : ∀ B w, l.holds ρ B w (.int .i64 c)) : Inst.Ok Tryz.prog ρ ⟨f, [.one (.ref i)], .tup [nt k, .one l]⟩ :=
  ⟨hen, fun B w vs hB h => by
    match vs, h with
    | [va], h =>
      obtain rfl := leaf_val hi h.1
      refine (hc w).mono ?_
      intro e w' hr
      obtain ⟨x, rfl, h1, h2⟩ := hr.out
      exact ⟨_, rfl, ⟨[x, .int .i64 c], rfl, (nt_isN hk).2 h1, hl B w', trivial⟩, h2⟩⟩
theorem iOf {N : Nat} (hen : Ent' f) (hc : ∀ w, Calls Tryz.prog f #[.int .u64 (N : Int)] w (fun e w' => RetN w N e w')) (hl : ∀ B w x, l.holds ρ B w x → x = .int .u64 (N : Int)) (hk : ρ[k]? = some (.dig (nl N) N)) : Inst.Ok Tryz.prog ρ ⟨f, [.one l], .v (nt k)⟩ :=
  ⟨hen, fun B w vs hB h => by
    match vs, h with
    | [va], h =>
      obtain rfl := hl _ _ _ h.1
      refine (hc w).mono ?_
      rintro e w' ⟨v, rfl, h1, h2⟩
      exact ⟨v, rfl, (nt_isN hk).2 h1, h2⟩⟩
theorem iVR {L N : Nat} (hen : Ent' f) (hc : ∀ va w, IsR w va L N → Calls Tryz.prog f #[va] w (fun e w' => RetV w (.bool (decide (nl N = L))) e w')) (hi : ρ[i]? = some (.dig L N)) (hb : decide (nl N = L) = b) : Inst.Ok Tryz.prog ρ ⟨f, [nt i], .v (.one (.b b))⟩ :=
  ⟨hen, fun B w vs hB h => by
    match vs, h with
    | [va], h =>
      refine (hc va w ((nt_isR hi).1 h.1)).mono ?_
      rintro e w' ⟨rfl, h2⟩
      exact ⟨_, rfl, by subst hb; rfl, h2⟩⟩
end
section
variable {ρ : Rho} {i j k l n m : Nat} {b : Bool} {r : Leaf} {c : Int} {st : ByteArray} {N L : Nat} {t : TypeId} {v : Int}
theorem I_nMul (hi : ρ[i]? = some (.dig (nl m) m)) (hj : ρ[j]? = some (.dig (nl n) n)) (hk : ρ[k]? = some (.dig (nl (m * n)) (m * n))) (hm : nl m ≤ 1000000000000) (hn : nl n ≤ 1000000000000) : Inst.Ok Tryz.prog ρ ⟨153, [nt i, nt j], .v (nt k)⟩ :=
  i2N (enters Tryz.func153 rfl rfl) (fun va vb w h1 h2 => (c_natural_Mul va vb m n w h1 h2 hm hn).mono fun _ _ h => h.toN) hi hj hk
theorem I_nGcd (hi : ρ[i]? = some (.dig (nl m) m)) (hj : ρ[j]? = some (.dig (nl n) n)) (hk : ρ[k]? = some (.dig (nl (Nat.gcd m n)) (Nat.gcd m n))) (hm : nl m ≤ 1000000000000) (hn : nl n ≤ 1000000000000) : Inst.Ok Tryz.prog ρ ⟨137, [nt i, nt j], .v (nt k)⟩ :=
  i2N (enters Tryz.func137 rfl rfl) (fun va vb w h1 h2 => (c_natural_Gcd va vb m n w h1 h2 hm hn).mono fun _ _ h => h.toN) hi hj hk
theorem I_mGcd (hi : ρ[i]? = some (.dig (nl m) m)) (hj : ρ[j]? = some (.dig (nl n) n)) (hk : ρ[k]? = some (.dig (nl (Nat.gcd m n)) (Nat.gcd m n))) (hm : nl m ≤ 100000000000) (hn : nl n ≤ 100000000000) : Inst.Ok Tryz.prog ρ ⟨103, [nt i, nt j], .v (nt k)⟩ :=
  i2N (enters Tryz.func103 rfl rfl) (fun va vb w h1 h2 => c_ref_Gcd va vb m n w h1 h2 hm hn) hi hj hk
theorem I_nAdd (hi : ρ[i]? = some (.dig (nl m) m)) (hj : ρ[j]? = some (.dig (nl n) n)) (hk : ρ[k]? = some (.dig (nl (m + n)) (m + n))) (hm : nl m ≤ 1000000000000) (hn : nl n ≤ 1000000000000) : Inst.Ok Tryz.prog ρ ⟨155, [nt i, nt j], .v (nt k)⟩ :=
  i2N (enters Tryz.func155 rfl rfl) (fun va vb w h1 h2 => (c_natural_Add va vb m n w h1 h2 hm hn).mono fun _ _ h => h.toN) hi hj hk
theorem I_nAdd0 (hi : ρ[i]? = some (.dig (nl m) m)) (hk : ρ[k]? = some (.dig (nl m) m)) (hm : nl m ≤ 1000000000000) : Inst.Ok Tryz.prog ρ ⟨155, [nt i, .agg [.sl0]], .v (nt k)⟩ :=
  ⟨enters Tryz.func155 rfl rfl, fun B w vs hB h => by
    match vs, h with
    | [va, vb], h =>
      obtain ⟨us, rfl, h3⟩ := h.2.1
      match us, h3 with
      | [x], h3 =>
        have e : x = .slice none 0 0 := h3.1
        subst e
        have h0 : IsN w (.agg #[.slice none 0 0]) 0 := ⟨none, 0, by rw [nl_zero], by rw [nl_zero]; omega, by rw [nl_zero]; decide, fun h => by rw [nl_zero] at h; omega⟩
        refine (c_natural_Add va _ m 0 w ((nt_isN hi).1 h.1) h0 hm (by rw [nl_zero]; decide)).mono ?_
        intro e w' hr
        obtain ⟨v, rfl, h1, h2⟩ := hr.toN
        exact ⟨v, rfl, (nt_isN hk).2 h1, h2⟩⟩
theorem I_nSub (hi : ρ[i]? = some (.dig (nl m) m)) (hj : ρ[j]? = some (.dig (nl n) n)) (hk : ρ[k]? = some (.dig (nl (m - n)) (m - n))) (hb : decide (n ≤ m) = b) (hm : nl m ≤ 1000000000000) (hn : nl n ≤ 1000000000000) : Inst.Ok Tryz.prog ρ ⟨156, [nt i, nt j], .tup [nt k, .one (.b b)]⟩ :=
  iSub (enters Tryz.func156 rfl rfl) (fun va vb w h1 h2 => c_natural_Sub va vb m n w h1 h2 hm hn) hi hj hk hb
theorem I_nDiv (hi : ρ[i]? = some (.dig (nl m) m)) (hj : ρ[j]? = some (.dig (nl n) n)) (hk : ρ[k]? = some (.dig (nl (m / n)) (m / n))) (hl : ρ[l]? = some (.dig (nl (m % n)) (m % n))) (hm : nl m ≤ 1000000000000) (hn : nl n ≤ 1000000000000) (h0 : n ≠ 0) : Inst.Ok Tryz.prog ρ ⟨162, [nt i, nt j], .tup [nt k, nt l, .one (.i .i64 0)]⟩ :=
  iDiv (enters Tryz.func162 rfl rfl) (fun va vb w h1 h2 => c_natural_DivMod va vb m n w h1 h2 hm hn h0) hi hj hk hl
theorem I_nCmp (hi : ρ[i]? = some (.dig (nl m) m)) (hj : ρ[j]? = some (.dig (nl n) n)) (hl : ∀ B w, r.holds ρ B w (.int .i64 (cmpI m n))) (hm : nl m ≤ 1000000000000) (hn : nl n ≤ 1000000000000) : Inst.Ok Tryz.prog ρ ⟨140, [nt i, nt j], .v (.one r)⟩ :=
  i2V (enters Tryz.func140 rfl rfl) (fun va vb w h1 h2 => c_natural_Cmp va vb m n w h1 h2 (by omega) (by omega)) hi hj hl
theorem I_mSame (hi : ρ[i]? = some (.dig (nl m) m)) (hj : ρ[j]? = some (.dig (nl n) n)) (hb : decide (m = n) = b) (hm : nl m ≤ 1000000000000) (hn : nl n ≤ 1000000000000) : Inst.Ok Tryz.prog ρ ⟨54, [nt i, nt j], .v (.one (.b b))⟩ :=
  i2V (enters Tryz.func54 rfl rfl) (fun va vb w h1 h2 => c_ref_Same va vb m n w h1 h2 hm hn) hi hj (lb hb)
theorem I_nOf (hk : ρ[k]? = some (.dig (nl N) N)) (hN : N < 18446744073709551616) : Inst.Ok Tryz.prog ρ ⟨98, [.one (.i .u64 (N : Int))], .v (nt k)⟩ :=
  iOf (enters Tryz.func98 rfl rfl) (fun w => (c_natural_Of N w hN).mono fun _ _ h => h.toN) (fun _ _ _ h => h) hk
theorem I_mOf (hk : ρ[k]? = some (.dig (nl N) N)) (hN : N < 18446744073709551616) : Inst.Ok Tryz.prog ρ ⟨82, [.one (.i .u64 (N : Int))], .v (nt k)⟩ :=
  iOf (enters Tryz.func82 rfl rfl) (fun w => (c_ref_Of N w hN).mono fun _ _ h => h.toN) (fun _ _ _ h => h) hk
theorem I_mOfR (hi : ρ[i]? = some (.val (.int .u64 (N : Int)))) (hk : ρ[k]? = some (.dig (nl N) N)) (hN : N < 18446744073709551616) : Inst.Ok Tryz.prog ρ ⟨82, [.one (.ref i)], .v (nt k)⟩ :=
  iOf (enters Tryz.func82 rfl rfl) (fun w => (c_ref_Of N w hN).mono fun _ _ h => h.toN) (fun _ _ _ h => leaf_val hi h) hk
theorem I_nFmt (hi : ρ[i]? = some (.dig (nl m) m)) (hl : ∀ B w, r.holds ρ B w (.string (fmtB m))) (hm : nl m ≤ 1000000000000) : Inst.Ok Tryz.prog ρ ⟨89, [nt i], .v (.one r)⟩ :=
  i1V (enters Tryz.func89 rfl rfl) (fun va w h1 => c_natural_Format va m w h1 hm) hi hl
theorem I_nParse (hi : ρ[i]? = some (.val (.string st))) (hk : ρ[k]? = some (.dig (nl N) N)) (hl : ∀ B w, r.holds ρ B w (.int .i64 c)) (h : ParseIs st N c) : Inst.Ok Tryz.prog ρ ⟨97, [.one (.ref i)], .tup [nt k, .one r]⟩ :=
  iP (enters Tryz.func97 rfl rfl) (fun w => c_natural_Parse st w N c h) hi hk hl
theorem I_nValidR (hi : ρ[i]? = some (.dig L N)) (hb : decide (nl N = L) = b) (hL : L ≤ 1000000000000) : Inst.Ok Tryz.prog ρ ⟨134, [nt i], .v (.one (.b b))⟩ :=
  iVR (enters Tryz.func134 rfl rfl) (fun va w h1 => (c_natural_Valid va L N w h1 (by omega)).mono fun e w' h => ⟨h.1.trans (by rw [decide_eq_decide.2 (eq_comm)]), h.2⟩) hi hb
theorem I_mValidR (hi : ρ[i]? = some (.dig L N)) (hb : decide (nl N = L) = b) (hL : L ≤ 1000000000000) : Inst.Ok Tryz.prog ρ ⟨129, [nt i], .v (.one (.b b))⟩ :=
  iVR (enters Tryz.func129 rfl rfl) (fun va w h1 => c_ref_Valid va L N w h1 (by omega)) hi hb
theorem I_nValid (hi : ρ[i]? = some (.dig (nl N) N)) (_h : (0 : Nat) = 0) (hL : nl N ≤ 1000000000000) : Inst.Ok Tryz.prog ρ ⟨134, [nt i], .v (.one (.b true))⟩ := I_nValidR hi (decide_eq_true rfl) hL
theorem I_mValid (hi : ρ[i]? = some (.dig (nl N) N)) (_h : (0 : Nat) = 0) (hL : nl N ≤ 1000000000000) : Inst.Ok Tryz.prog ρ ⟨129, [nt i], .v (.one (.b true))⟩ := I_mValidR hi (decide_eq_true rfl) hL
theorem I_isZero (hi : ρ[i]? = some (.dig (nl m) m)) (hb : decide (m = 0) = b) (hm : nl m ≤ 1000000000000) : Inst.Ok Tryz.prog ρ ⟨135, [nt i], .v (.one (.b b))⟩ :=
  i1V (enters Tryz.func135 rfl rfl) (fun va w h1 => c_isZero va m w h1 hm) hi (lb hb)
theorem I_zero (hi : ρ[i]? = some (.dig (nl m) m)) (hb : decide (m = 0) = b) (hm : nl m ≤ 1000000000000) : Inst.Ok Tryz.prog ρ ⟨102, [nt i], .v (.one (.b b))⟩ :=
  i1V (enters Tryz.func102 rfl rfl) (fun va w h1 => c_zero va m w h1 hm) hi (lb hb)
theorem I_mag (hi : ρ[i]? = some (.val (.int .i64 v))) (hk : ρ[k]? = some (.dig (nl v.natAbs) v.natAbs)) (lv : -9223372036854775808 ≤ v) (rv : v < 9223372036854775808) : Inst.Ok Tryz.prog ρ ⟨121, [.one (.ref i)], .v (nt k)⟩ :=
  ⟨enters Tryz.func121 rfl rfl, fun B w vs hB h => by
    match vs, h with
    | [va], h =>
      obtain rfl := leaf_val hi h.1
      refine (c_mag v w lv rv).mono ?_
      rintro e w' ⟨x, rfl, h1, h2⟩
      exact ⟨x, rfl, (nt_isN hk).2 h1, h2⟩⟩
theorem I_size (hi : ρ[i]? = some (.val (.int .i64 v))) (hk : ρ[k]? = some (.val (.int .u64 (v.natAbs : Int)))) (lv : -9223372036854775808 ≤ v) (rv : v < 9223372036854775808) : Inst.Ok Tryz.prog ρ ⟨83, [.one (.ref i)], .v (.one (.ref k))⟩ :=
  ⟨enters Tryz.func83 rfl rfl, fun B w vs hB h => by
    match vs, h with
    | [va], h =>
      obtain rfl := leaf_val hi h.1
      refine (c_size v w lv rv).mono ?_
      rintro e w' ⟨rfl, h2⟩
      exact ⟨_, rfl, leaf_mk hk (flat_ik (by decide)), h2⟩⟩
theorem o_lssV {ik : IntKind} {u : Int} (hn : ρ[n]? = some (.val (.int ik u))) (hl : ∀ B w, r.holds ρ B w (.bool (decide (u < c)))) : (OIns.mk (.bin .lss t) [.one (.ref n), .one (.i ik c)] (.one r)).Ok Tryz.prog ρ := fun B w vs hv => by
  match vs, hv with
  | [v1, v2], hv =>
    have e := leaf_val (B := B) hn hv.1
    have e2 : v2 = .int ik c := hv.2.1
    subst e; subst e2
    exact ⟨_, hl B w, fun xo yo => by simp [eqGuard, binOp, Op.intCmp, Sem.run_bind, Result.andThen]⟩
theorem o_eqlSS (a b c d : Bool) : (OIns.mk (.bin .eql 136) [.agg [.b a, .b b], .agg [.b c, .b d]] (.one (.b (a == c && b == d)))).Ok Tryz.prog ρ := fun B w vs hv => by
  match vs, hv with
  | [v1, v2], hv =>
    obtain rfl := out2 hv.1 (bl _) (bl _)
    obtain rfl := out2 hv.2.1 (bl _) (bl _)
    exact ⟨_, rfl, fun xo yo => by rw [Sem.run_bind, guard_eqSS]; exact run_eqSS a b c d w⟩
theorem o_neqSS (a b c d : Bool) : (OIns.mk (.bin .neq 136) [.agg [.b a, .b b], .agg [.b c, .b d]] (.one (.b (!(a == c && b == d))))).Ok Tryz.prog ρ := fun B w vs hv => by
  match vs, hv with
  | [v1, v2], hv =>
    obtain rfl := out2 hv.1 (bl _) (bl _)
    obtain rfl := out2 hv.2.1 (bl _) (bl _)
    exact ⟨_, rfl, fun xo yo => by rw [Sem.run_bind, guard_neSS]; exact run_neSS a b c d w⟩
end
theorem q_low (s : Bool) (va vb : Value) (m n : Nat) (w : World) (ha : IsN w va m) (hb : IsN w vb n) (hm : nl m ≤ 10000000000) (hn : nl n ≤ 10000000000) (h0 : n ≠ 0) :
    Calls Tryz.prog 154 #[.bool s, va, vb] w fun e w' => RetQ w (Fq.low s m n) e w' := by
  rcases Bool.eq_false_or_eq_true (s) with c0 | c0
  · by_cases c1 : (m / (Nat.gcd m n)) = 0
    · refine (calls_runFn (ρ := [.dig (nl m) m, .dig (nl n) n, .dig (nl (Nat.gcd m n)) (Nat.gcd m n), .dig (nl (m / (Nat.gcd m n))) (m / (Nat.gcd m n)), .dig (nl (m % (Nat.gcd m n))) (m % (Nat.gcd m n)), .dig (nl (n / (Nat.gcd m n))) (n / (Nat.gcd m n)), .dig (nl (n % (Nat.gcd m n))) (n % (Nat.gcd m n))]) (w := w) (fuel := 300) (args := [.one (.b true), nt 0, nt 1]) (vs := [.bool s, va, vb]) (r := .v (.agg [.b false, .ref 3, .ref 5]))
        (il_cons (I_nGcd (i := 0) (j := 1) (k := 2) rfl rfl rfl (Nat.le_trans hm (by decide)) (Nat.le_trans hn (by decide))) (il_cons (I_nDiv (i := 0) (j := 2) (k := 3) (l := 4) rfl rfl rfl rfl (Nat.le_trans hm (by decide)) (Nat.le_trans (nl_gcdN hm hn) (by decide)) (Nat.gcd_ne_zero_right h0)) (il_cons (I_nDiv (i := 1) (j := 2) (k := 5) (l := 6) rfl rfl rfl rfl (Nat.le_trans hn (by decide)) (Nat.le_trans (nl_gcdN hm hn) (by decide)) (Nat.gcd_ne_zero_right h0)) (il_cons (I_isZero (i := 3) rfl (decide_eq_true c1) (Nat.le_trans (nl_divN hm) (by decide))) il_nil))))
        ol_nil (by kernel_rfl) Tryz.func154 (by kernel_rfl) ⟨congrArg Value.bool c0, ⟨(nt_isN rfl).2 ha, ⟨(nt_isN rfl).2 hb, trivial⟩⟩⟩).mono ?_
      rintro e w' ⟨v, rfl, h1, h2⟩
      exact ⟨v, rfl, outF h1 (bl false) rfl rfl (by simp [Fq.low, lowS, c0, (lowz h0).1 c1]) (rfl) (rfl), h2⟩
    · refine (calls_runFn (ρ := [.dig (nl m) m, .dig (nl n) n, .dig (nl (Nat.gcd m n)) (Nat.gcd m n), .dig (nl (m / (Nat.gcd m n))) (m / (Nat.gcd m n)), .dig (nl (m % (Nat.gcd m n))) (m % (Nat.gcd m n)), .dig (nl (n / (Nat.gcd m n))) (n / (Nat.gcd m n)), .dig (nl (n % (Nat.gcd m n))) (n % (Nat.gcd m n))]) (w := w) (fuel := 300) (args := [.one (.b true), nt 0, nt 1]) (vs := [.bool s, va, vb]) (r := .v (.agg [.b true, .ref 3, .ref 5]))
        (il_cons (I_nGcd (i := 0) (j := 1) (k := 2) rfl rfl rfl (Nat.le_trans hm (by decide)) (Nat.le_trans hn (by decide))) (il_cons (I_nDiv (i := 0) (j := 2) (k := 3) (l := 4) rfl rfl rfl rfl (Nat.le_trans hm (by decide)) (Nat.le_trans (nl_gcdN hm hn) (by decide)) (Nat.gcd_ne_zero_right h0)) (il_cons (I_nDiv (i := 1) (j := 2) (k := 5) (l := 6) rfl rfl rfl rfl (Nat.le_trans hn (by decide)) (Nat.le_trans (nl_gcdN hm hn) (by decide)) (Nat.gcd_ne_zero_right h0)) (il_cons (I_isZero (i := 3) rfl (decide_eq_false c1) (Nat.le_trans (nl_divN hm) (by decide))) il_nil))))
        ol_nil (by kernel_rfl) Tryz.func154 (by kernel_rfl) ⟨congrArg Value.bool c0, ⟨(nt_isN rfl).2 ha, ⟨(nt_isN rfl).2 hb, trivial⟩⟩⟩).mono ?_
      rintro e w' ⟨v, rfl, h1, h2⟩
      exact ⟨v, rfl, outF h1 (bl true) rfl rfl (by simp [Fq.low, lowS, c0, mt (lowz h0).2 c1]) (rfl) (rfl), h2⟩
  · refine (calls_runFn (ρ := [.dig (nl m) m, .dig (nl n) n, .dig (nl (Nat.gcd m n)) (Nat.gcd m n), .dig (nl (m / (Nat.gcd m n))) (m / (Nat.gcd m n)), .dig (nl (m % (Nat.gcd m n))) (m % (Nat.gcd m n)), .dig (nl (n / (Nat.gcd m n))) (n / (Nat.gcd m n)), .dig (nl (n % (Nat.gcd m n))) (n % (Nat.gcd m n))]) (w := w) (fuel := 300) (args := [.one (.b false), nt 0, nt 1]) (vs := [.bool s, va, vb]) (r := .v (.agg [.b false, .ref 3, .ref 5]))
      (il_cons (I_nGcd (i := 0) (j := 1) (k := 2) rfl rfl rfl (Nat.le_trans hm (by decide)) (Nat.le_trans hn (by decide))) (il_cons (I_nDiv (i := 0) (j := 2) (k := 3) (l := 4) rfl rfl rfl rfl (Nat.le_trans hm (by decide)) (Nat.le_trans (nl_gcdN hm hn) (by decide)) (Nat.gcd_ne_zero_right h0)) (il_cons (I_nDiv (i := 1) (j := 2) (k := 5) (l := 6) rfl rfl rfl rfl (Nat.le_trans hn (by decide)) (Nat.le_trans (nl_gcdN hm hn) (by decide)) (Nat.gcd_ne_zero_right h0)) il_nil)))
      ol_nil (by kernel_rfl) Tryz.func154 (by kernel_rfl) ⟨congrArg Value.bool c0, ⟨(nt_isN rfl).2 ha, ⟨(nt_isN rfl).2 hb, trivial⟩⟩⟩).mono ?_
    rintro e w' ⟨v, rfl, h1, h2⟩
    exact ⟨v, rfl, outF h1 (bl false) rfl rfl (by simp [Fq.low, lowS, c0]) (rfl) (rfl), h2⟩
theorem I_low {ρ : Rho} {S : Bool} {l : Leaf} {i j x y z m n : Nat} (hl : ∀ B w v, l.holds ρ B w v → v = .bool S) (hi : ρ[i]? = some (.dig (nl m) m)) (hj : ρ[j]? = some (.dig (nl n) n)) (hx : ρ[x]? = some (.val (.bool (Fq.low S m n).s))) (hy : ρ[y]? = some (.dig (nl (Fq.low S m n).p) (Fq.low S m n).p)) (hz : ρ[z]? = some (.dig (nl (Fq.low S m n).q) (Fq.low S m n).q)) (hm : nl m ≤ 10000000000) (hn : nl n ≤ 10000000000) (h0 : n ≠ 0) : Inst.Ok Tryz.prog ρ ⟨154, [.one l, nt i, nt j], .v (.agg [.ref x, .ref y, .ref z])⟩ :=
  ⟨enters Tryz.func154 rfl rfl, fun B w vs hB h => by
    match vs, h with
    | [v1, v2, v3], h =>
      obtain rfl := hl _ _ _ h.1
      refine (q_low S v2 v3 m n w ((nt_isN hi).1 h.2.1) ((nt_isN hj).1 h.2.2.1) hm hn h0).mono ?_
      rintro e w' ⟨v, rfl, h1, h2⟩
      exact ⟨v, rfl, inF h1 (lrb hx) hy hz, h2⟩⟩
theorem q_fNeg (va : Value) (x : Fq) (w : World) (ha : IsQ w va x) (h : x.ok 1000000000) :
    Calls Tryz.prog 152 #[va] w fun e w' => RetQ w x.neg e w' := by
  rcases Bool.eq_false_or_eq_true (x.s) with c0 | c0
  · refine (calls_runFn (ρ := [.dig (nl x.p) x.p, .dig (nl x.q) x.q]) (w := w) (fuel := 300) (args := [.agg [.b true, .ref 0, .ref 1]]) (vs := [va]) (r := .v (.agg [.b false, .ref 0, .ref 1]))
      (il_cons (I_nAdd0 (i := 0) (k := 0) rfl rfl (Nat.le_trans h.p (by decide))) (il_cons (I_nAdd0 (i := 1) (k := 1) rfl rfl (Nat.le_trans h.q (by decide))) il_nil))
      ol_nil (by kernel_rfl) Tryz.func152 (by kernel_rfl) ⟨(inF ha (lb c0) rfl rfl), trivial⟩).mono ?_
    rintro e w' ⟨v, rfl, h1, h2⟩
    exact ⟨v, rfl, outF h1 (bl false) rfl rfl (by simp [Fq.low, lowS, lowP, lowQ, Fq.add, Fq.mul, Fq.div, Fq.neg, Fq.zero, Fq.sgn, addG, addM, c0]) (rfl) (rfl), h2⟩
  · by_cases c1 : x.p = 0
    · refine (calls_runFn (ρ := [.dig (nl x.p) x.p, .dig (nl x.q) x.q]) (w := w) (fuel := 300) (args := [.agg [.b false, .ref 0, .ref 1]]) (vs := [va]) (r := .v (.agg [.b false, .ref 0, .ref 1]))
        (il_cons (I_isZero (i := 0) rfl (decide_eq_true c1) (Nat.le_trans h.p (by decide))) (il_cons (I_nAdd0 (i := 0) (k := 0) rfl rfl (Nat.le_trans h.p (by decide))) (il_cons (I_nAdd0 (i := 1) (k := 1) rfl rfl (Nat.le_trans h.q (by decide))) il_nil)))
        ol_nil (by kernel_rfl) Tryz.func152 (by kernel_rfl) ⟨(inF ha (lb c0) rfl rfl), trivial⟩).mono ?_
      rintro e w' ⟨v, rfl, h1, h2⟩
      exact ⟨v, rfl, outF h1 (bl false) rfl rfl (by simp [Fq.low, lowS, lowP, lowQ, Fq.add, Fq.mul, Fq.div, Fq.neg, Fq.zero, Fq.sgn, addG, addM, c0, c1]) (rfl) (rfl), h2⟩
    · refine (calls_runFn (ρ := [.dig (nl x.p) x.p, .dig (nl x.q) x.q]) (w := w) (fuel := 300) (args := [.agg [.b false, .ref 0, .ref 1]]) (vs := [va]) (r := .v (.agg [.b true, .ref 0, .ref 1]))
        (il_cons (I_isZero (i := 0) rfl (decide_eq_false c1) (Nat.le_trans h.p (by decide))) (il_cons (I_nAdd0 (i := 0) (k := 0) rfl rfl (Nat.le_trans h.p (by decide))) (il_cons (I_nAdd0 (i := 1) (k := 1) rfl rfl (Nat.le_trans h.q (by decide))) il_nil)))
        ol_nil (by kernel_rfl) Tryz.func152 (by kernel_rfl) ⟨(inF ha (lb c0) rfl rfl), trivial⟩).mono ?_
      rintro e w' ⟨v, rfl, h1, h2⟩
      exact ⟨v, rfl, outF h1 (bl true) rfl rfl (by simp [Fq.low, lowS, lowP, lowQ, Fq.add, Fq.mul, Fq.div, Fq.neg, Fq.zero, Fq.sgn, addG, addM, c0, c1]) (rfl) (rfl), h2⟩
theorem J_fNeg {ρ : Rho} {x : Fq} {a b a' b' : Nat} {l l' : Leaf} (hx : FAt ρ l a b x) (hr : FAt ρ l' a' b' x.neg) (h : x.ok 1000000000) : Inst.Ok Tryz.prog ρ ⟨152, [.agg [l, .ref a, .ref b]], .v (.agg [l', .ref a', .ref b'])⟩ :=
  i1QQ (enters Tryz.func152 rfl rfl) (fun va w ha => q_fNeg va x w ha h) hx hr
theorem q_fMul (va vb : Value) (x y : Fq) (w : World) (ha : IsQ w va x) (hb : IsQ w vb y) (h : x.ok 1000000000) (k : y.ok 1000000000) :
    Calls Tryz.prog 115 #[va, vb] w fun e w' => RetQ w (x.mul y) e w' := by
  refine (calls_runFn (ρ := [.val (.bool x.s), .dig (nl x.p) x.p, .dig (nl x.q) x.q, .val (.bool y.s), .dig (nl y.p) y.p, .dig (nl y.q) y.q, .val (.bool (x.s != y.s)), .dig (nl (x.p * y.p)) (x.p * y.p), .dig (nl (x.q * y.q)) (x.q * y.q), .val (.bool (Fq.low (x.s != y.s) (x.p * y.p) (x.q * y.q)).s), .dig (nl (Fq.low (x.s != y.s) (x.p * y.p) (x.q * y.q)).p) (Fq.low (x.s != y.s) (x.p * y.p) (x.q * y.q)).p, .dig (nl (Fq.low (x.s != y.s) (x.p * y.p) (x.q * y.q)).q) (Fq.low (x.s != y.s) (x.p * y.p) (x.q * y.q)).q]) (w := w) (fuel := 300) (args := [q3 0 1 2, q3 3 4 5]) (vs := [va, vb]) (r := .v (q3 9 10 11))
    (il_cons (I_nMul (i := 1) (j := 4) (k := 7) rfl rfl rfl (Nat.le_trans h.p (by decide)) (Nat.le_trans k.p (by decide))) (il_cons (I_nMul (i := 2) (j := 5) (k := 8) rfl rfl rfl (Nat.le_trans h.q (by decide)) (Nat.le_trans k.q (by decide))) (il_cons (I_low (i := 7) (j := 8) (x := 9) (y := 10) (z := 11) (br (n := 6) rfl) rfl rfl rfl rfl rfl (Nat.le_trans (nl_mul2 h.p k.p) (by decide)) (Nat.le_trans (nl_mul2 h.q k.q) (by decide)) (Nat.mul_ne_zero h.n k.n)) il_nil)))
    (ol_cons (o_bne (t := 4) (by kernel_rfl) (br (n := 0) rfl) (br (n := 3) rfl) (lrb (n := 6) rfl)) (ol_nil)) (by kernel_rfl) Tryz.func115 (by kernel_rfl) ⟨(inF ha (lrb (n := 0) rfl) rfl rfl), ⟨(inF hb (lrb (n := 3) rfl) rfl rfl), trivial⟩⟩).mono ?_
  rintro e w' ⟨v, rfl, h1, h2⟩
  exact ⟨v, rfl, outF h1 (br (n := 9) rfl) rfl rfl (by simp [Fq.low, lowS, lowP, lowQ, Fq.add, Fq.mul, Fq.div, Fq.neg, Fq.zero, Fq.sgn, addG, addM]) (by simp [Fq.low, lowS, lowP, lowQ, Fq.add, Fq.mul, Fq.div, Fq.neg, Fq.zero, Fq.sgn, addG, addM]) (by simp [Fq.low, lowS, lowP, lowQ, Fq.add, Fq.mul, Fq.div, Fq.neg, Fq.zero, Fq.sgn, addG, addM]), h2⟩
theorem q_fAdd (va vb : Value) (x y : Fq) (w : World) (ha : IsQ w va x) (hb : IsQ w vb y) (h : x.ok 1000000000) (k : y.ok 1000000000) :
    Calls Tryz.prog 108 #[va, vb] w fun e w' => RetQ w (x.add y) e w' := by
  by_cases c0 : x.s = y.s
  · refine (calls_runFn (ρ := [.val (.bool x.s), .dig (nl x.p) x.p, .dig (nl x.q) x.q, .val (.bool y.s), .dig (nl y.p) y.p, .dig (nl y.q) y.q, .dig (nl (x.p * y.q)) (x.p * y.q), .dig (nl (y.p * x.q)) (y.p * x.q), .dig (nl (x.q * y.q)) (x.q * y.q), .dig (nl ((x.p * y.q) + (y.p * x.q))) ((x.p * y.q) + (y.p * x.q)), .val (.bool (Fq.low x.s ((x.p * y.q) + (y.p * x.q)) (x.q * y.q)).s), .dig (nl (Fq.low x.s ((x.p * y.q) + (y.p * x.q)) (x.q * y.q)).p) (Fq.low x.s ((x.p * y.q) + (y.p * x.q)) (x.q * y.q)).p, .dig (nl (Fq.low x.s ((x.p * y.q) + (y.p * x.q)) (x.q * y.q)).q) (Fq.low x.s ((x.p * y.q) + (y.p * x.q)) (x.q * y.q)).q]) (w := w) (fuel := 300) (args := [q3 0 1 2, q3 3 4 5]) (vs := [va, vb]) (r := .v (q3 10 11 12))
      (il_cons (I_nMul (i := 1) (j := 5) (k := 6) rfl rfl rfl (Nat.le_trans h.p (by decide)) (Nat.le_trans k.q (by decide))) (il_cons (I_nMul (i := 4) (j := 2) (k := 7) rfl rfl rfl (Nat.le_trans k.p (by decide)) (Nat.le_trans h.q (by decide))) (il_cons (I_nMul (i := 2) (j := 5) (k := 8) rfl rfl rfl (Nat.le_trans h.q (by decide)) (Nat.le_trans k.q (by decide))) (il_cons (I_nAdd (i := 6) (j := 7) (k := 9) rfl rfl rfl (Nat.le_trans (nl_mul2 h.p k.q) (by decide)) (Nat.le_trans (nl_mul2 k.p h.q) (by decide))) (il_cons (I_low (i := 9) (j := 8) (x := 10) (y := 11) (z := 12) (br (n := 0) rfl) rfl rfl rfl rfl rfl (Nat.le_trans (nl_addN (nl_mul2 h.p k.q) (nl_mul2 k.p h.q)) (by decide)) (Nat.le_trans (nl_mul2 h.q k.q) (by decide)) (Nat.mul_ne_zero h.n k.n)) il_nil)))))
      (ol_cons (o_beq (t := 4) (by kernel_rfl) (br (n := 0) rfl) (br (n := 3) rfl) (lb (beq_t c0))) (ol_nil)) (by kernel_rfl) Tryz.func108 (by kernel_rfl) ⟨(inF ha (lrb (n := 0) rfl) rfl rfl), ⟨(inF hb (lrb (n := 3) rfl) rfl rfl), trivial⟩⟩).mono ?_
    rintro e w' ⟨v, rfl, h1, h2⟩
    exact ⟨v, rfl, outF h1 (br (n := 10) rfl) rfl rfl (by simp only [Fq.add, Fq.low, addG, addM, if_pos c0]) (by simp only [Fq.add, Fq.low, addG, addM, if_pos c0]) (by simp only [Fq.add, Fq.low, addG, addM, if_pos c0]), h2⟩
  · by_cases c1 : (x.p * y.q) < (y.p * x.q)
    · by_cases c2 : (y.p * x.q) < (x.p * y.q)
      · exact absurd c2 (Nat.lt_asymm c1)
      · refine (calls_runFn (ρ := [.val (.bool x.s), .dig (nl x.p) x.p, .dig (nl x.q) x.q, .val (.bool y.s), .dig (nl y.p) y.p, .dig (nl y.q) y.q, .dig (nl (x.p * y.q)) (x.p * y.q), .dig (nl (y.p * x.q)) (y.p * x.q), .dig (nl (x.q * y.q)) (x.q * y.q), .dig (nl ((x.p * y.q) - (y.p * x.q))) ((x.p * y.q) - (y.p * x.q)), .dig (nl ((y.p * x.q) - (x.p * y.q))) ((y.p * x.q) - (x.p * y.q)), .val (.bool (Fq.low y.s ((y.p * x.q) - (x.p * y.q)) (x.q * y.q)).s), .dig (nl (Fq.low y.s ((y.p * x.q) - (x.p * y.q)) (x.q * y.q)).p) (Fq.low y.s ((y.p * x.q) - (x.p * y.q)) (x.q * y.q)).p, .dig (nl (Fq.low y.s ((y.p * x.q) - (x.p * y.q)) (x.q * y.q)).q) (Fq.low y.s ((y.p * x.q) - (x.p * y.q)) (x.q * y.q)).q]) (w := w) (fuel := 300) (args := [q3 0 1 2, q3 3 4 5]) (vs := [va, vb]) (r := .v (q3 11 12 13))
          (il_cons (I_nMul (i := 1) (j := 5) (k := 6) rfl rfl rfl (Nat.le_trans h.p (by decide)) (Nat.le_trans k.q (by decide))) (il_cons (I_nMul (i := 4) (j := 2) (k := 7) rfl rfl rfl (Nat.le_trans k.p (by decide)) (Nat.le_trans h.q (by decide))) (il_cons (I_nMul (i := 2) (j := 5) (k := 8) rfl rfl rfl (Nat.le_trans h.q (by decide)) (Nat.le_trans k.q (by decide))) (il_cons (I_nSub (i := 6) (j := 7) (k := 9) rfl rfl rfl (le_f c1) (Nat.le_trans (nl_mul2 h.p k.q) (by decide)) (Nat.le_trans (nl_mul2 k.p h.q) (by decide))) (il_cons (I_nSub (i := 7) (j := 6) (k := 10) rfl rfl rfl (le_t c2) (Nat.le_trans (nl_mul2 k.p h.q) (by decide)) (Nat.le_trans (nl_mul2 h.p k.q) (by decide))) (il_cons (I_low (i := 10) (j := 8) (x := 11) (y := 12) (z := 13) (br (n := 3) rfl) rfl rfl rfl rfl rfl (Nat.le_trans (nl_subN (nl_mul2 k.p h.q)) (by decide)) (Nat.le_trans (nl_mul2 h.q k.q) (by decide)) (Nat.mul_ne_zero h.n k.n)) il_nil))))))
          (ol_cons (o_beq (t := 4) (by kernel_rfl) (br (n := 0) rfl) (br (n := 3) rfl) (lb (beq_f c0))) (ol_nil)) (by kernel_rfl) Tryz.func108 (by kernel_rfl) ⟨(inF ha (lrb (n := 0) rfl) rfl rfl), ⟨(inF hb (lrb (n := 3) rfl) rfl rfl), trivial⟩⟩).mono ?_
        rintro e w' ⟨v, rfl, h1, h2⟩
        exact ⟨v, rfl, outF h1 (br (n := 11) rfl) rfl rfl (by simp only [Fq.add, Fq.low, addG, addM, if_neg c0, if_neg (Nat.not_le.2 c1)]) (by simp only [Fq.add, Fq.low, addG, addM, if_neg c0, if_neg (Nat.not_le.2 c1)]) (by simp only [Fq.add, Fq.low, addG, addM, if_neg c0, if_neg (Nat.not_le.2 c1)]), h2⟩
    · refine (calls_runFn (ρ := [.val (.bool x.s), .dig (nl x.p) x.p, .dig (nl x.q) x.q, .val (.bool y.s), .dig (nl y.p) y.p, .dig (nl y.q) y.q, .dig (nl (x.p * y.q)) (x.p * y.q), .dig (nl (y.p * x.q)) (y.p * x.q), .dig (nl (x.q * y.q)) (x.q * y.q), .dig (nl ((x.p * y.q) - (y.p * x.q))) ((x.p * y.q) - (y.p * x.q)), .val (.bool (Fq.low x.s ((x.p * y.q) - (y.p * x.q)) (x.q * y.q)).s), .dig (nl (Fq.low x.s ((x.p * y.q) - (y.p * x.q)) (x.q * y.q)).p) (Fq.low x.s ((x.p * y.q) - (y.p * x.q)) (x.q * y.q)).p, .dig (nl (Fq.low x.s ((x.p * y.q) - (y.p * x.q)) (x.q * y.q)).q) (Fq.low x.s ((x.p * y.q) - (y.p * x.q)) (x.q * y.q)).q]) (w := w) (fuel := 300) (args := [q3 0 1 2, q3 3 4 5]) (vs := [va, vb]) (r := .v (q3 10 11 12))
        (il_cons (I_nMul (i := 1) (j := 5) (k := 6) rfl rfl rfl (Nat.le_trans h.p (by decide)) (Nat.le_trans k.q (by decide))) (il_cons (I_nMul (i := 4) (j := 2) (k := 7) rfl rfl rfl (Nat.le_trans k.p (by decide)) (Nat.le_trans h.q (by decide))) (il_cons (I_nMul (i := 2) (j := 5) (k := 8) rfl rfl rfl (Nat.le_trans h.q (by decide)) (Nat.le_trans k.q (by decide))) (il_cons (I_nSub (i := 6) (j := 7) (k := 9) rfl rfl rfl (le_t c1) (Nat.le_trans (nl_mul2 h.p k.q) (by decide)) (Nat.le_trans (nl_mul2 k.p h.q) (by decide))) (il_cons (I_low (i := 9) (j := 8) (x := 10) (y := 11) (z := 12) (br (n := 0) rfl) rfl rfl rfl rfl rfl (Nat.le_trans (nl_subN (nl_mul2 h.p k.q)) (by decide)) (Nat.le_trans (nl_mul2 h.q k.q) (by decide)) (Nat.mul_ne_zero h.n k.n)) il_nil)))))
        (ol_cons (o_beq (t := 4) (by kernel_rfl) (br (n := 0) rfl) (br (n := 3) rfl) (lb (beq_f c0))) (ol_nil)) (by kernel_rfl) Tryz.func108 (by kernel_rfl) ⟨(inF ha (lrb (n := 0) rfl) rfl rfl), ⟨(inF hb (lrb (n := 3) rfl) rfl rfl), trivial⟩⟩).mono ?_
      rintro e w' ⟨v, rfl, h1, h2⟩
      exact ⟨v, rfl, outF h1 (br (n := 10) rfl) rfl rfl (by simp only [Fq.add, Fq.low, addG, addM, if_neg c0, if_pos (Nat.le_of_not_lt c1)]) (by simp only [Fq.add, Fq.low, addG, addM, if_neg c0, if_pos (Nat.le_of_not_lt c1)]) (by simp only [Fq.add, Fq.low, addG, addM, if_neg c0, if_pos (Nat.le_of_not_lt c1)]), h2⟩
theorem J_fAdd {ρ : Rho} {x y : Fq} {a b c d a' b' : Nat} {l m l' : Leaf} (hx : FAt ρ l a b x) (hy : FAt ρ m c d y) (hr : FAt ρ l' a' b' (x.add y)) (h : x.ok 1000000000) (k : y.ok 1000000000) : Inst.Ok Tryz.prog ρ ⟨108, [.agg [l, .ref a, .ref b], .agg [m, .ref c, .ref d]], .v (.agg [l', .ref a', .ref b'])⟩ :=
  i2QQ (enters Tryz.func108 rfl rfl) (fun va vb w ha hb => q_fAdd va vb x y w ha hb h k) hx hy hr
theorem q_fSub (va vb : Value) (x y : Fq) (w : World) (ha : IsQ w va x) (hb : IsQ w vb y) (h : x.ok 1000000000) (k : y.ok 1000000000) :
    Calls Tryz.prog 106 #[va, vb] w fun e w' => RetQ w (x.sub y) e w' := by
  refine (calls_runFn (ρ := [.val (.bool x.s), .dig (nl x.p) x.p, .dig (nl x.q) x.q, .val (.bool y.s), .dig (nl y.p) y.p, .dig (nl y.q) y.q, .val (.bool y.neg.s), .dig (nl y.neg.p) y.neg.p, .dig (nl y.neg.q) y.neg.q, .val (.bool (x.add y.neg).s), .dig (nl (x.add y.neg).p) (x.add y.neg).p, .dig (nl (x.add y.neg).q) (x.add y.neg).q]) (w := w) (fuel := 300) (args := [q3 0 1 2, q3 3 4 5]) (vs := [va, vb]) (r := .v (q3 9 10 11))
    (il_cons (J_fNeg (fat_mk (l := .ref 3) (a := 4) (b := 5) (x := y) (lrb (n := 3) rfl) (br (n := 3) rfl) rfl rfl) (fat_mk (l := .ref 6) (a := 7) (b := 8) (x := y.neg) (lrb (n := 6) rfl) (br (n := 6) rfl) rfl rfl) k) (il_cons (J_fAdd (fat_mk (l := .ref 0) (a := 1) (b := 2) (x := x) (lrb (n := 0) rfl) (br (n := 0) rfl) rfl rfl) (fat_mk (l := .ref 6) (a := 7) (b := 8) (x := y.neg) (lrb (n := 6) rfl) (br (n := 6) rfl) rfl rfl) (fat_mk (l := .ref 9) (a := 10) (b := 11) (x := (x.add y.neg)) (lrb (n := 9) rfl) (br (n := 9) rfl) rfl rfl) h k.neg) il_nil))
    ol_nil (by kernel_rfl) Tryz.func106 (by kernel_rfl) ⟨(inF ha (lrb (n := 0) rfl) rfl rfl), ⟨(inF hb (lrb (n := 3) rfl) rfl rfl), trivial⟩⟩).mono ?_
  rintro e w' ⟨v, rfl, h1, h2⟩
  exact ⟨v, rfl, outF h1 (br (n := 9) rfl) rfl rfl (rfl) (rfl) (rfl), h2⟩
theorem J_fSub {ρ : Rho} {x y : Fq} {a b c d a' b' : Nat} {l m l' : Leaf} (hx : FAt ρ l a b x) (hy : FAt ρ m c d y) (hr : FAt ρ l' a' b' (x.sub y)) (h : x.ok 1000000000) (k : y.ok 1000000000) : Inst.Ok Tryz.prog ρ ⟨106, [.agg [l, .ref a, .ref b], .agg [m, .ref c, .ref d]], .v (.agg [l', .ref a', .ref b'])⟩ :=
  i2QQ (enters Tryz.func106 rfl rfl) (fun va vb w ha hb => q_fSub va vb x y w ha hb h k) hx hy hr
theorem q_fDiv (va vb : Value) (x y : Fq) (w : World) (ha : IsQ w va x) (hb : IsQ w vb y) (h : x.ok 1000000000) (k : y.ok 1000000000) (h0 : y.p ≠ 0) :
    Calls Tryz.prog 159 #[va, vb] w fun e w' => RetQE w (x.div y) 0 e w' := by
  refine (calls_runFn (ρ := [.val (.bool x.s), .dig (nl x.p) x.p, .dig (nl x.q) x.q, .val (.bool y.s), .dig (nl y.p) y.p, .dig (nl y.q) y.q, .val (.bool (x.s != y.s)), .dig (nl (x.p * y.q)) (x.p * y.q), .dig (nl (x.q * y.p)) (x.q * y.p), .val (.bool (Fq.low (x.s != y.s) (x.p * y.q) (x.q * y.p)).s), .dig (nl (Fq.low (x.s != y.s) (x.p * y.q) (x.q * y.p)).p) (Fq.low (x.s != y.s) (x.p * y.q) (x.q * y.p)).p, .dig (nl (Fq.low (x.s != y.s) (x.p * y.q) (x.q * y.p)).q) (Fq.low (x.s != y.s) (x.p * y.q) (x.q * y.p)).q]) (w := w) (fuel := 300) (args := [q3 0 1 2, q3 3 4 5]) (vs := [va, vb]) (r := .tup [q3 9 10 11, .one (.i .i64 0)])
    (il_cons (I_isZero (i := 4) rfl (decide_eq_false h0) (Nat.le_trans k.p (by decide))) (il_cons (I_nMul (i := 1) (j := 5) (k := 7) rfl rfl rfl (Nat.le_trans h.p (by decide)) (Nat.le_trans k.q (by decide))) (il_cons (I_nMul (i := 2) (j := 4) (k := 8) rfl rfl rfl (Nat.le_trans h.q (by decide)) (Nat.le_trans k.p (by decide))) (il_cons (I_low (i := 7) (j := 8) (x := 9) (y := 10) (z := 11) (br (n := 6) rfl) rfl rfl rfl rfl rfl (Nat.le_trans (nl_mul2 h.p k.q) (by decide)) (Nat.le_trans (nl_mul2 h.q k.p) (by decide)) (Nat.mul_ne_zero h.n h0)) il_nil))))
    (ol_cons (o_bne (t := 4) (by kernel_rfl) (br (n := 0) rfl) (br (n := 3) rfl) (lrb (n := 6) rfl)) (ol_nil)) (by kernel_rfl) Tryz.func159 (by kernel_rfl) ⟨(inF ha (lrb (n := 0) rfl) rfl rfl), ⟨(inF hb (lrb (n := 3) rfl) rfl rfl), trivial⟩⟩).mono ?_
  rintro e w' ⟨v, rfl, h1, h2⟩
  obtain ⟨u, rfl, h3⟩ := outT h1 (fun _ _ _ h => h)
  exact ⟨u, rfl, outF h3 (br (n := 9) rfl) rfl rfl (by simp [Fq.low, lowS, lowP, lowQ, Fq.add, Fq.mul, Fq.div, Fq.neg, Fq.zero, Fq.sgn, addG, addM]) (by simp [Fq.low, lowS, lowP, lowQ, Fq.add, Fq.mul, Fq.div, Fq.neg, Fq.zero, Fq.sgn, addG, addM]) (by simp [Fq.low, lowS, lowP, lowQ, Fq.add, Fq.mul, Fq.div, Fq.neg, Fq.zero, Fq.sgn, addG, addM]), h2⟩
theorem q_mark (va : Value) (x : Fq) (w : World) (ha : IsQ w va x) (hp : nl x.p ≤ 1000000000000) (v : Bool) (hv : decide (x.p = 0) = v) :
    Calls Tryz.prog 136 #[va] w fun e w' => RetV w (.agg #[.bool x.s, .bool v]) e w' := by
  by_cases c0 : x.p = 0
  · refine (calls_runFn (ρ := [.val (.bool x.s), .dig (nl x.p) x.p, .dig (nl x.q) x.q]) (w := w) (fuel := 300) (args := [q3 0 1 2]) (vs := [va]) (r := .v (.agg [.ref 0, .b true]))
      (il_cons (I_isZero (i := 1) rfl (decide_eq_true c0) hp) il_nil)
      ol_nil (by kernel_rfl) Tryz.func136 (by kernel_rfl) ⟨(inF ha (lrb (n := 0) rfl) rfl rfl), trivial⟩).mono ?_
    rintro e w' ⟨v', rfl, h1, h2⟩
    have h1 := out2 h1 (br (n := 0) rfl) (bl true)
    subst h1
    exact ⟨by rw [← hv]; simp [c0], h2⟩
  · refine (calls_runFn (ρ := [.val (.bool x.s), .dig (nl x.p) x.p, .dig (nl x.q) x.q]) (w := w) (fuel := 300) (args := [q3 0 1 2]) (vs := [va]) (r := .v (.agg [.ref 0, .b false]))
      (il_cons (I_isZero (i := 1) rfl (decide_eq_false c0) hp) il_nil)
      ol_nil (by kernel_rfl) Tryz.func136 (by kernel_rfl) ⟨(inF ha (lrb (n := 0) rfl) rfl rfl), trivial⟩).mono ?_
    rintro e w' ⟨v', rfl, h1, h2⟩
    have h1 := out2 h1 (br (n := 0) rfl) (bl false)
    subst h1
    exact ⟨by rw [← hv]; simp [c0], h2⟩
theorem J_mark {ρ : Rho} {x : Fq} {a b : Nat} {l r : Leaf} {v : Bool} (hx : FAt ρ l a b x) (hr : ∀ B w, r.holds ρ B w (.bool x.s)) (hv : decide (x.p = 0) = v) (hp : nl x.p ≤ 1000000000000) : Inst.Ok Tryz.prog ρ ⟨136, [.agg [l, .ref a, .ref b]], .v (.agg [r, .b v])⟩ :=
  ⟨enters Tryz.func136 rfl rfl, fun B w vs hB h => by
    match vs, h with
    | [va], h =>
      refine (q_mark va x w (hx.isQ h.1) hp v hv).mono ?_
      rintro e w' ⟨rfl, h2⟩
      exact ⟨_, rfl, ⟨[.bool x.s, .bool v], rfl, hr B w', rfl, trivial⟩, h2⟩⟩
theorem q_fSign (va : Value) (x : Fq) (w : World) (ha : IsQ w va x) (h : x.ok 1000000000000) :
    Calls Tryz.prog 86 #[va] w fun e w' => RetV w (.int .i64 x.sgn) e w' := by
  by_cases c0 : x.p = 0
  · rcases Bool.eq_false_or_eq_true (x.s) with c1 | c1
    · refine (calls_runFn (ρ := [.dig (nl x.p) x.p, .dig (nl x.q) x.q]) (w := w) (fuel := 300) (args := [.agg [.b true, .ref 0, .ref 1]]) (vs := [va]) (r := .v (.one (.i .i64 0)))
        (il_cons (J_mark (fat_mk (l := .b true) (a := 0) (b := 1) (x := x) (lb c1) (bl2 c1) rfl rfl) (lb c1) (decide_eq_true c0) h.p) il_nil)
        (ol_cons (o_eqlSS true true false true) (ol_cons (o_eqlSS true true true true) (ol_nil))) (by kernel_rfl) Tryz.func86 (by kernel_rfl) ⟨(inF ha (lb c1) rfl rfl), trivial⟩).mono ?_
      rintro e w' ⟨v, rfl, h1, h2⟩
      have h1 := h1
      have h1 : v = _ := h1; subst h1
      exact ⟨by simp [Fq.sgn, c0, c1], h2⟩
    · refine (calls_runFn (ρ := [.dig (nl x.p) x.p, .dig (nl x.q) x.q]) (w := w) (fuel := 300) (args := [.agg [.b false, .ref 0, .ref 1]]) (vs := [va]) (r := .v (.one (.i .i64 0)))
        (il_cons (J_mark (fat_mk (l := .b false) (a := 0) (b := 1) (x := x) (lb c1) (bl2 c1) rfl rfl) (lb c1) (decide_eq_true c0) h.p) il_nil)
        (ol_cons (o_eqlSS false true false true) (ol_nil)) (by kernel_rfl) Tryz.func86 (by kernel_rfl) ⟨(inF ha (lb c1) rfl rfl), trivial⟩).mono ?_
      rintro e w' ⟨v, rfl, h1, h2⟩
      have h1 := h1
      have h1 : v = _ := h1; subst h1
      exact ⟨by simp [Fq.sgn, c0, c1], h2⟩
  · rcases Bool.eq_false_or_eq_true (x.s) with c1 | c1
    · refine (calls_runFn (ρ := [.dig (nl x.p) x.p, .dig (nl x.q) x.q]) (w := w) (fuel := 300) (args := [.agg [.b true, .ref 0, .ref 1]]) (vs := [va]) (r := .v (.one (.i .i64 (-1))))
        (il_cons (J_mark (fat_mk (l := .b true) (a := 0) (b := 1) (x := x) (lb c1) (bl2 c1) rfl rfl) (lb c1) (decide_eq_false c0) h.p) il_nil)
        (ol_cons (o_eqlSS true false false true) (ol_cons (o_eqlSS true false true true) (ol_cons (o_eqlSS true false true false) (ol_nil)))) (by kernel_rfl) Tryz.func86 (by kernel_rfl) ⟨(inF ha (lb c1) rfl rfl), trivial⟩).mono ?_
      rintro e w' ⟨v, rfl, h1, h2⟩
      have h1 := h1
      have h1 : v = _ := h1; subst h1
      exact ⟨by simp [Fq.sgn, c0, c1], h2⟩
    · refine (calls_runFn (ρ := [.dig (nl x.p) x.p, .dig (nl x.q) x.q]) (w := w) (fuel := 300) (args := [.agg [.b false, .ref 0, .ref 1]]) (vs := [va]) (r := .v (.one (.i .i64 1)))
        (il_cons (J_mark (fat_mk (l := .b false) (a := 0) (b := 1) (x := x) (lb c1) (bl2 c1) rfl rfl) (lb c1) (decide_eq_false c0) h.p) il_nil)
        (ol_cons (o_eqlSS false false false true) (ol_cons (o_eqlSS false false true true) (ol_cons (o_eqlSS false false true false) (ol_nil)))) (by kernel_rfl) Tryz.func86 (by kernel_rfl) ⟨(inF ha (lb c1) rfl rfl), trivial⟩).mono ?_
      rintro e w' ⟨v, rfl, h1, h2⟩
      have h1 := h1
      have h1 : v = _ := h1; subst h1
      exact ⟨by simp [Fq.sgn, c0, c1], h2⟩
theorem J_fSign {ρ : Rho} {x : Fq} {a b : Nat} {l r : Leaf} (hx : FAt ρ l a b x) (hl : ∀ B w, r.holds ρ B w (.int .i64 x.sgn)) (h : x.ok 1000000000000) : Inst.Ok Tryz.prog ρ ⟨86, [.agg [l, .ref a, .ref b]], .v (.one r)⟩ :=
  i1QV (enters Tryz.func86 rfl rfl) (fun va w ha => q_fSign va x w ha h) hx hl
theorem q_fCmp (va vb : Value) (x y : Fq) (w : World) (ha : IsQ w va x) (hb : IsQ w vb y) (h : x.ok 1000000000) (k : y.ok 1000000000) :
    Calls Tryz.prog 87 #[va, vb] w fun e w' => RetV w (.int .i64 (x.cmp y)) e w' := by
  refine (calls_runFn (ρ := [.val (.bool x.s), .dig (nl x.p) x.p, .dig (nl x.q) x.q, .val (.bool y.s), .dig (nl y.p) y.p, .dig (nl y.q) y.q, .val (.bool (x.sub y).s), .dig (nl (x.sub y).p) (x.sub y).p, .dig (nl (x.sub y).q) (x.sub y).q, .val (.int .i64 (x.sub y).sgn)]) (w := w) (fuel := 300) (args := [q3 0 1 2, q3 3 4 5]) (vs := [va, vb]) (r := .v (.one (.ref 9)))
    (il_cons (J_fSub (fat_mk (l := .ref 0) (a := 1) (b := 2) (x := x) (lrb (n := 0) rfl) (br (n := 0) rfl) rfl rfl) (fat_mk (l := .ref 3) (a := 4) (b := 5) (x := y) (lrb (n := 3) rfl) (br (n := 3) rfl) rfl rfl) (fat_mk (l := .ref 6) (a := 7) (b := 8) (x := (x.sub y)) (lrb (n := 6) rfl) (br (n := 6) rfl) rfl rfl) h k) (il_cons (J_fSign (fat_mk (l := .ref 6) (a := 7) (b := 8) (x := (x.sub y)) (lrb (n := 6) rfl) (br (n := 6) rfl) rfl rfl) (lr (n := 9) rfl) ((h.sub k).mono (by decide))) il_nil))
    ol_nil (by kernel_rfl) Tryz.func87 (by kernel_rfl) ⟨(inF ha (lrb (n := 0) rfl) rfl rfl), ⟨(inF hb (lrb (n := 3) rfl) rfl rfl), trivial⟩⟩).mono ?_
  rintro e w' ⟨v, rfl, h1, h2⟩
  have h1 := (leaf_val rfl h1)
  subst h1
  exact ⟨rfl, h2⟩
theorem q_fInt (v : Int) (w : World) (lv : -9223372036854775808 ≤ v) (rv : v < 9223372036854775808) :
    Calls Tryz.prog 68 #[.int .i64 v] w fun e w' => RetQ w (Fq.ofInt v) e w' := by
  refine (calls_runFn (ρ := [.val (.int .i64 v), .val (.bool (decide (v < 0))), .dig (nl v.natAbs) v.natAbs, .dig (nl 1) 1]) (w := w) (fuel := 300) (args := [.one (.ref 0)]) (vs := [.int .i64 v]) (r := .v (q3 1 2 3))
    (il_cons (I_mag (i := 0) (k := 2) rfl rfl lv rv) (il_cons (I_nOf (k := 3) rfl (by decide)) il_nil))
    (ol_cons (o_lssV (n := 0) (c := 0) (t := 2) rfl (lrb (n := 1) rfl)) (ol_nil)) (by kernel_rfl) Tryz.func68 (by kernel_rfl) ⟨leaf_mk (n := 0) rfl flat_int, trivial⟩).mono ?_
  rintro e w' ⟨v, rfl, h1, h2⟩
  exact ⟨v, rfl, outF h1 (br (n := 1) rfl) rfl rfl (by simp [Fq.ofInt]) (rfl) (rfl), h2⟩
theorem q_rSign (va : Value) (x : Fq) (w : World) (ha : IsQ w va x) (h : x.ok 1000000000000) :
    Calls Tryz.prog 132 #[va] w fun e w' => RetV w (.int .i64 x.sgn) e w' := by
  by_cases c0 : x.p = 0
  · refine (calls_runFn (ρ := [.val (.bool x.s), .dig (nl x.p) x.p, .dig (nl x.q) x.q]) (w := w) (fuel := 300) (args := [q3 0 1 2]) (vs := [va]) (r := .v (.one (.i .i64 0)))
      (il_cons (I_zero (i := 1) rfl (decide_eq_true c0) h.p) il_nil)
      ol_nil (by kernel_rfl) Tryz.func132 (by kernel_rfl) ⟨(inF ha (lrb (n := 0) rfl) rfl rfl), trivial⟩).mono ?_
    rintro e w' ⟨v, rfl, h1, h2⟩
    have h1 := h1
    have h1 : v = _ := h1; subst h1
    exact ⟨by simp [Fq.sgn, c0], h2⟩
  · rcases Bool.eq_false_or_eq_true (x.s) with c1 | c1
    · refine (calls_runFn (ρ := [.dig (nl x.p) x.p, .dig (nl x.q) x.q]) (w := w) (fuel := 300) (args := [.agg [.b true, .ref 0, .ref 1]]) (vs := [va]) (r := .v (.one (.i .i64 (-1))))
        (il_cons (I_zero (i := 0) rfl (decide_eq_false c0) h.p) il_nil)
        ol_nil (by kernel_rfl) Tryz.func132 (by kernel_rfl) ⟨(inF ha (lb c1) rfl rfl), trivial⟩).mono ?_
      rintro e w' ⟨v, rfl, h1, h2⟩
      have h1 := h1
      have h1 : v = _ := h1; subst h1
      exact ⟨by simp [Fq.sgn, c0, c1], h2⟩
    · refine (calls_runFn (ρ := [.dig (nl x.p) x.p, .dig (nl x.q) x.q]) (w := w) (fuel := 300) (args := [.agg [.b false, .ref 0, .ref 1]]) (vs := [va]) (r := .v (.one (.i .i64 1)))
        (il_cons (I_zero (i := 0) rfl (decide_eq_false c0) h.p) il_nil)
        ol_nil (by kernel_rfl) Tryz.func132 (by kernel_rfl) ⟨(inF ha (lb c1) rfl rfl), trivial⟩).mono ?_
      rintro e w' ⟨v, rfl, h1, h2⟩
      have h1 := h1
      have h1 : v = _ := h1; subst h1
      exact ⟨by simp [Fq.sgn, c0, c1], h2⟩
theorem q_rInt (v : Int) (w : World) (lv : -9223372036854775808 ≤ v) (rv : v < 9223372036854775808) :
    Calls Tryz.prog 38 #[.int .i64 v] w fun e w' => RetQ w (Fq.ofInt v) e w' := by
  refine (calls_runFn (ρ := [.val (.int .i64 v), .val (.bool (decide (v < 0))), .val (.int .u64 (v.natAbs : Int)), .dig (nl v.natAbs) v.natAbs, .dig (nl 1) 1]) (w := w) (fuel := 300) (args := [.one (.ref 0)]) (vs := [.int .i64 v]) (r := .v (q3 1 3 4))
    (il_cons (I_size (i := 0) (k := 2) rfl rfl lv rv) (il_cons (I_mOfR (i := 2) (k := 3) rfl rfl (abs_lt lv rv)) (il_cons (I_mOf (k := 4) rfl (by decide)) il_nil)))
    (ol_cons (o_lssV (n := 0) (c := 0) (t := 2) rfl (lrb (n := 1) rfl)) (ol_nil)) (by kernel_rfl) Tryz.func38 (by kernel_rfl) ⟨leaf_mk (n := 0) rfl flat_int, trivial⟩).mono ?_
  rintro e w' ⟨v, rfl, h1, h2⟩
  exact ⟨v, rfl, outF h1 (br (n := 1) rfl) rfl rfl (by simp [Fq.ofInt]) (rfl) (rfl), h2⟩
theorem q_one (va : Value) (m : Nat) (w : World) (h : (Vp.row 24 1 [.dig (nl m) m]).p w va) (hm : nl m ≤ 1000000000000) :
    Calls Tryz.prog 90 #[va] w fun e w' => RetV w (.bool (decide (m = 1))) e w' := by
  by_cases c0 : m = 1
  · refine (calls_runFn (ρ := [.row 24 1 [.dig (nl m) m], .plc 24 [.dig (nl m) m], .dig (nl m) m, .dig (nl 1) 1, .val (.int .i64 (cmpI m 1))]) (w := w) (fuel := 300) (args := [.one (.ref 0)]) (vs := [va]) (r := .v (.one (.b true)))
      (il_cons (I_nOf (k := 3) rfl (by decide)) (il_cons (I_nCmp (i := 2) (j := 3) rfl rfl (lr (n := 4) rfl) hm (Nat.le_trans nl_one (by decide))) il_nil))
      (ol_cons (o_lenR (n := 0) (t := 141) ⟨_, Tryz.underlying141⟩ rfl (li rfl)) (ol_cons (o_iaL (k := 0) (l := .i .i64 0) (sz := 1) (qs' := [.dig (nl m) m]) (n := 0) (m := 1) Tryz.underlying141 (by kernel_rfl) rfl rfl (fun _ _ _ h => h) (by decide) (by simp) (fun j q hq => by match j, hq with | 0, hq => simp at hq; subst hq; rfl | j + 1, hq => simp at hq)) (ol_cons (o_ldA (n := 1) (ls := [.ref 2]) (t := 24) (by kernel_rfl) (by kernel_rfl) rfl ⟨lq rfl, trivial⟩) (ol_cons (o_neqK (n := 4) (c := 0) (t := 3) rfl (cmp_ne_f c0)) (ol_nil))))) (by kernel_rfl) Tryz.func90 (by kernel_rfl) ⟨⟨_, rfl, h, fun _ _ _ hx => by cases hx⟩, trivial⟩).mono ?_
    rintro e w' ⟨v, rfl, h1, h2⟩
    have h1 := h1
    have h1 : v = _ := h1; subst h1
    exact ⟨by simp [Bool.decide_eq_true, c0], h2⟩
  · refine (calls_runFn (ρ := [.row 24 1 [.dig (nl m) m], .plc 24 [.dig (nl m) m], .dig (nl m) m, .dig (nl 1) 1, .val (.int .i64 (cmpI m 1))]) (w := w) (fuel := 300) (args := [.one (.ref 0)]) (vs := [va]) (r := .v (.one (.b false)))
      (il_cons (I_nOf (k := 3) rfl (by decide)) (il_cons (I_nCmp (i := 2) (j := 3) rfl rfl (lr (n := 4) rfl) hm (Nat.le_trans nl_one (by decide))) il_nil))
      (ol_cons (o_lenR (n := 0) (t := 141) ⟨_, Tryz.underlying141⟩ rfl (li rfl)) (ol_cons (o_iaL (k := 0) (l := .i .i64 0) (sz := 1) (qs' := [.dig (nl m) m]) (n := 0) (m := 1) Tryz.underlying141 (by kernel_rfl) rfl rfl (fun _ _ _ h => h) (by decide) (by simp) (fun j q hq => by match j, hq with | 0, hq => simp at hq; subst hq; rfl | j + 1, hq => simp at hq)) (ol_cons (o_ldA (n := 1) (ls := [.ref 2]) (t := 24) (by kernel_rfl) (by kernel_rfl) rfl ⟨lq rfl, trivial⟩) (ol_cons (o_neqK (n := 4) (c := 0) (t := 3) rfl (cmp_ne_t c0)) (ol_nil))))) (by kernel_rfl) Tryz.func90 (by kernel_rfl) ⟨⟨_, rfl, h, fun _ _ _ hx => by cases hx⟩, trivial⟩).mono ?_
    rintro e w' ⟨v, rfl, h1, h2⟩
    have h1 := h1
    have h1 : v = _ := h1; subst h1
    exact ⟨by simp [Bool.decide_eq_true, c0], h2⟩
theorem I_one {ρ : Rho} {n m : Nat} {b : Bool} (hn : ρ[n]? = some (.row 24 1 [.dig (nl m) m])) (hb : decide (m = 1) = b) (hm : nl m ≤ 1000000000000) : Inst.Ok Tryz.prog ρ ⟨90, [.one (.ref n)], .v (.one (.b b))⟩ :=
  ⟨enters Tryz.func90 rfl rfl, fun B w vs hB h => by
    match vs, h with
    | [va], h =>
      obtain ⟨⟨q, h1, h2, _⟩, _⟩ := h
      rw [hn] at h1; injection h1 with h1; subst h1
      refine (q_one va m w h2 hm).mono ?_
      rintro e w' ⟨rfl, h2⟩
      exact ⟨_, rfl, by subst hb; rfl, h2⟩⟩
theorem q_fValidR (va : Value) (s : Bool) (L p N q : Nat) (w : World) (ha : IsFR w va s L p N q) (hL : L ≤ 1000000) (hN : N ≤ 1000000) (hne : ¬(nl p = L ∧ nl q = N)) :
    Calls Tryz.prog 85 #[va] w fun e w' => RetV w (.bool false) e w' := by
  by_cases c0 : nl p = L
  · by_cases c1 : nl q = N
    · exact absurd ⟨c0, c1⟩ hne
    · refine (calls_runFn (ρ := [.val (.bool s), .dig L p, .dig N q]) (w := w) (fuel := 300) (args := [q3 0 1 2]) (vs := [va]) (r := .v (.one (.b false)))
        (il_cons (I_nValidR (i := 1) (b := true) rfl (decide_eq_true c0) (Nat.le_trans hL (by decide))) (il_cons (I_nValidR (i := 2) (b := false) rfl (decide_eq_false c1) (Nat.le_trans hN (by decide))) il_nil))
        ol_nil (by kernel_rfl) Tryz.func85 (by kernel_rfl) ⟨(inFR ha (lrb (n := 0) rfl) rfl rfl), trivial⟩).mono ?_
      rintro e w' ⟨v, rfl, h1, h2⟩
      have h1 := h1
      have h1 : v = _ := h1; subst h1
      exact ⟨rfl, h2⟩
  · refine (calls_runFn (ρ := [.val (.bool s), .dig L p, .dig N q]) (w := w) (fuel := 300) (args := [q3 0 1 2]) (vs := [va]) (r := .v (.one (.b false)))
      (il_cons (I_nValidR (i := 1) (b := false) rfl (decide_eq_false c0) (Nat.le_trans hL (by decide))) il_nil)
      ol_nil (by kernel_rfl) Tryz.func85 (by kernel_rfl) ⟨(inFR ha (lrb (n := 0) rfl) rfl rfl), trivial⟩).mono ?_
    rintro e w' ⟨v, rfl, h1, h2⟩
    have h1 := h1
    have h1 : v = _ := h1; subst h1
    exact ⟨rfl, h2⟩
theorem q_fValid (va : Value) (x : Fq) (w : World) (ha : IsQ w va x) (hp : nl x.p ≤ 1000000) (hq : nl x.q ≤ 1000000) :
    Calls Tryz.prog 85 #[va] w fun e w' => RetV w (.bool x.valid) e w' := by
  by_cases c0 : x.q = 0
  · refine (calls_runFn (ρ := [.val (.bool x.s), .dig (nl x.p) x.p, .dig (nl x.q) x.q]) (w := w) (fuel := 300) (args := [q3 0 1 2]) (vs := [va]) (r := .v (.one (.b false)))
      (il_cons (I_nValid (i := 1) rfl rfl (Nat.le_trans hp (by decide))) (il_cons (I_nValid (i := 2) rfl rfl (Nat.le_trans hq (by decide))) (il_cons (I_isZero (i := 2) rfl (decide_eq_true c0) (Nat.le_trans hq (by decide))) il_nil)))
      ol_nil (by kernel_rfl) Tryz.func85 (by kernel_rfl) ⟨(inF ha (lrb (n := 0) rfl) rfl rfl), trivial⟩).mono ?_
    rintro e w' ⟨v, rfl, h1, h2⟩
    have h1 := h1
    have h1 : v = _ := h1; subst h1
    exact ⟨by simp [Fq.valid, c0], h2⟩
  · by_cases c1 : x.p = 0
    · rcases Bool.eq_false_or_eq_true (x.s) with c2 | c2
      · refine (calls_runFn (ρ := [.dig (nl x.p) x.p, .dig (nl x.q) x.q]) (w := w) (fuel := 300) (args := [.agg [.b true, .ref 0, .ref 1]]) (vs := [va]) (r := .v (.one (.b false)))
          (il_cons (I_nValid (i := 0) rfl rfl (Nat.le_trans hp (by decide))) (il_cons (I_nValid (i := 1) rfl rfl (Nat.le_trans hq (by decide))) (il_cons (I_isZero (i := 1) rfl (decide_eq_false c0) (Nat.le_trans hq (by decide))) (il_cons (J_mark (fat_mk (l := .b true) (a := 0) (b := 1) (x := x) (lb c2) (bl2 c2) rfl rfl) (lb c2) (decide_eq_true c1) (Nat.le_trans hp (by decide))) il_nil))))
          (ol_cons (o_neqSS true true true true) (ol_nil)) (by kernel_rfl) Tryz.func85 (by kernel_rfl) ⟨(inF ha (lb c2) rfl rfl), trivial⟩).mono ?_
        rintro e w' ⟨v, rfl, h1, h2⟩
        have h1 := h1
        have h1 : v = _ := h1; subst h1
        exact ⟨by simp [Fq.valid, c0, c1, c2], h2⟩
      · by_cases c3 : (Nat.gcd x.p x.q) = 1
        · refine (calls_runFn (ρ := [.dig (nl x.p) x.p, .dig (nl x.q) x.q, .dig (nl (Nat.gcd x.p x.q)) (Nat.gcd x.p x.q), .row 24 1 [.dig (nl (Nat.gcd x.p x.q)) (Nat.gcd x.p x.q)]]) (w := w) (fuel := 300) (args := [.agg [.b false, .ref 0, .ref 1]]) (vs := [va]) (r := .v (.one (.b true)))
            (il_cons (I_nValid (i := 0) rfl rfl (Nat.le_trans hp (by decide))) (il_cons (I_nValid (i := 1) rfl rfl (Nat.le_trans hq (by decide))) (il_cons (I_isZero (i := 1) rfl (decide_eq_false c0) (Nat.le_trans hq (by decide))) (il_cons (J_mark (fat_mk (l := .b false) (a := 0) (b := 1) (x := x) (lb c2) (bl2 c2) rfl rfl) (lb c2) (decide_eq_true c1) (Nat.le_trans hp (by decide))) (il_cons (I_nGcd (i := 0) (j := 1) (k := 2) rfl rfl rfl (Nat.le_trans hp (by decide)) (Nat.le_trans hq (by decide))) (il_cons (I_one (n := 3) rfl (decide_eq_true c3) (Nat.le_trans (nl_gcdN hp hq) (by decide))) il_nil))))))
            (ol_cons (o_neqSS false true true true) (ol_cons (o_bs (m := 3) (ss := [nt 2]) (N := 1) (sz := 1) (z := [.sl0]) (qs := [.dig (nl (Nat.gcd x.p x.q)) (Nat.gcd x.p x.q)]) (ix := [0]) (ls := [.ref 2]) Tryz.underlying141 (by kernel_rfl) (by kernel_rfl) (by decide) (by decide) (by decide) rfl (by kernel_rfl) ⟨ql_dig rfl, trivial⟩ rfl) (ol_nil))) (by kernel_rfl) Tryz.func85 (by kernel_rfl) ⟨(inF ha (lb c2) rfl rfl), trivial⟩).mono ?_
          rintro e w' ⟨v, rfl, h1, h2⟩
          have h1 := h1
          have h1 : v = _ := h1; subst h1
          exact ⟨by rw [c1, Nat.gcd_zero_left] at c3; simp [Fq.valid, c0, c1, c2, c3], h2⟩
        · refine (calls_runFn (ρ := [.dig (nl x.p) x.p, .dig (nl x.q) x.q, .dig (nl (Nat.gcd x.p x.q)) (Nat.gcd x.p x.q), .row 24 1 [.dig (nl (Nat.gcd x.p x.q)) (Nat.gcd x.p x.q)]]) (w := w) (fuel := 300) (args := [.agg [.b false, .ref 0, .ref 1]]) (vs := [va]) (r := .v (.one (.b false)))
            (il_cons (I_nValid (i := 0) rfl rfl (Nat.le_trans hp (by decide))) (il_cons (I_nValid (i := 1) rfl rfl (Nat.le_trans hq (by decide))) (il_cons (I_isZero (i := 1) rfl (decide_eq_false c0) (Nat.le_trans hq (by decide))) (il_cons (J_mark (fat_mk (l := .b false) (a := 0) (b := 1) (x := x) (lb c2) (bl2 c2) rfl rfl) (lb c2) (decide_eq_true c1) (Nat.le_trans hp (by decide))) (il_cons (I_nGcd (i := 0) (j := 1) (k := 2) rfl rfl rfl (Nat.le_trans hp (by decide)) (Nat.le_trans hq (by decide))) (il_cons (I_one (n := 3) rfl (decide_eq_false c3) (Nat.le_trans (nl_gcdN hp hq) (by decide))) il_nil))))))
            (ol_cons (o_neqSS false true true true) (ol_cons (o_bs (m := 3) (ss := [nt 2]) (N := 1) (sz := 1) (z := [.sl0]) (qs := [.dig (nl (Nat.gcd x.p x.q)) (Nat.gcd x.p x.q)]) (ix := [0]) (ls := [.ref 2]) Tryz.underlying141 (by kernel_rfl) (by kernel_rfl) (by decide) (by decide) (by decide) rfl (by kernel_rfl) ⟨ql_dig rfl, trivial⟩ rfl) (ol_nil))) (by kernel_rfl) Tryz.func85 (by kernel_rfl) ⟨(inF ha (lb c2) rfl rfl), trivial⟩).mono ?_
          rintro e w' ⟨v, rfl, h1, h2⟩
          have h1 := h1
          have h1 : v = _ := h1; subst h1
          exact ⟨by rw [c1, Nat.gcd_zero_left] at c3; simp [Fq.valid, c0, c1, c2, c3], h2⟩
    · rcases Bool.eq_false_or_eq_true (x.s) with c2 | c2
      · by_cases c3 : (Nat.gcd x.p x.q) = 1
        · refine (calls_runFn (ρ := [.dig (nl x.p) x.p, .dig (nl x.q) x.q, .dig (nl (Nat.gcd x.p x.q)) (Nat.gcd x.p x.q), .row 24 1 [.dig (nl (Nat.gcd x.p x.q)) (Nat.gcd x.p x.q)]]) (w := w) (fuel := 300) (args := [.agg [.b true, .ref 0, .ref 1]]) (vs := [va]) (r := .v (.one (.b true)))
            (il_cons (I_nValid (i := 0) rfl rfl (Nat.le_trans hp (by decide))) (il_cons (I_nValid (i := 1) rfl rfl (Nat.le_trans hq (by decide))) (il_cons (I_isZero (i := 1) rfl (decide_eq_false c0) (Nat.le_trans hq (by decide))) (il_cons (J_mark (fat_mk (l := .b true) (a := 0) (b := 1) (x := x) (lb c2) (bl2 c2) rfl rfl) (lb c2) (decide_eq_false c1) (Nat.le_trans hp (by decide))) (il_cons (I_nGcd (i := 0) (j := 1) (k := 2) rfl rfl rfl (Nat.le_trans hp (by decide)) (Nat.le_trans hq (by decide))) (il_cons (I_one (n := 3) rfl (decide_eq_true c3) (Nat.le_trans (nl_gcdN hp hq) (by decide))) il_nil))))))
            (ol_cons (o_neqSS true false true true) (ol_cons (o_bs (m := 3) (ss := [nt 2]) (N := 1) (sz := 1) (z := [.sl0]) (qs := [.dig (nl (Nat.gcd x.p x.q)) (Nat.gcd x.p x.q)]) (ix := [0]) (ls := [.ref 2]) Tryz.underlying141 (by kernel_rfl) (by kernel_rfl) (by decide) (by decide) (by decide) rfl (by kernel_rfl) ⟨ql_dig rfl, trivial⟩ rfl) (ol_nil))) (by kernel_rfl) Tryz.func85 (by kernel_rfl) ⟨(inF ha (lb c2) rfl rfl), trivial⟩).mono ?_
          rintro e w' ⟨v, rfl, h1, h2⟩
          have h1 := h1
          have h1 : v = _ := h1; subst h1
          exact ⟨by simp [Fq.valid, c0, c1, c2, c3], h2⟩
        · refine (calls_runFn (ρ := [.dig (nl x.p) x.p, .dig (nl x.q) x.q, .dig (nl (Nat.gcd x.p x.q)) (Nat.gcd x.p x.q), .row 24 1 [.dig (nl (Nat.gcd x.p x.q)) (Nat.gcd x.p x.q)]]) (w := w) (fuel := 300) (args := [.agg [.b true, .ref 0, .ref 1]]) (vs := [va]) (r := .v (.one (.b false)))
            (il_cons (I_nValid (i := 0) rfl rfl (Nat.le_trans hp (by decide))) (il_cons (I_nValid (i := 1) rfl rfl (Nat.le_trans hq (by decide))) (il_cons (I_isZero (i := 1) rfl (decide_eq_false c0) (Nat.le_trans hq (by decide))) (il_cons (J_mark (fat_mk (l := .b true) (a := 0) (b := 1) (x := x) (lb c2) (bl2 c2) rfl rfl) (lb c2) (decide_eq_false c1) (Nat.le_trans hp (by decide))) (il_cons (I_nGcd (i := 0) (j := 1) (k := 2) rfl rfl rfl (Nat.le_trans hp (by decide)) (Nat.le_trans hq (by decide))) (il_cons (I_one (n := 3) rfl (decide_eq_false c3) (Nat.le_trans (nl_gcdN hp hq) (by decide))) il_nil))))))
            (ol_cons (o_neqSS true false true true) (ol_cons (o_bs (m := 3) (ss := [nt 2]) (N := 1) (sz := 1) (z := [.sl0]) (qs := [.dig (nl (Nat.gcd x.p x.q)) (Nat.gcd x.p x.q)]) (ix := [0]) (ls := [.ref 2]) Tryz.underlying141 (by kernel_rfl) (by kernel_rfl) (by decide) (by decide) (by decide) rfl (by kernel_rfl) ⟨ql_dig rfl, trivial⟩ rfl) (ol_nil))) (by kernel_rfl) Tryz.func85 (by kernel_rfl) ⟨(inF ha (lb c2) rfl rfl), trivial⟩).mono ?_
          rintro e w' ⟨v, rfl, h1, h2⟩
          have h1 := h1
          have h1 : v = _ := h1; subst h1
          exact ⟨by simp [Fq.valid, c0, c1, c2, c3], h2⟩
      · by_cases c3 : (Nat.gcd x.p x.q) = 1
        · refine (calls_runFn (ρ := [.dig (nl x.p) x.p, .dig (nl x.q) x.q, .dig (nl (Nat.gcd x.p x.q)) (Nat.gcd x.p x.q), .row 24 1 [.dig (nl (Nat.gcd x.p x.q)) (Nat.gcd x.p x.q)]]) (w := w) (fuel := 300) (args := [.agg [.b false, .ref 0, .ref 1]]) (vs := [va]) (r := .v (.one (.b true)))
            (il_cons (I_nValid (i := 0) rfl rfl (Nat.le_trans hp (by decide))) (il_cons (I_nValid (i := 1) rfl rfl (Nat.le_trans hq (by decide))) (il_cons (I_isZero (i := 1) rfl (decide_eq_false c0) (Nat.le_trans hq (by decide))) (il_cons (J_mark (fat_mk (l := .b false) (a := 0) (b := 1) (x := x) (lb c2) (bl2 c2) rfl rfl) (lb c2) (decide_eq_false c1) (Nat.le_trans hp (by decide))) (il_cons (I_nGcd (i := 0) (j := 1) (k := 2) rfl rfl rfl (Nat.le_trans hp (by decide)) (Nat.le_trans hq (by decide))) (il_cons (I_one (n := 3) rfl (decide_eq_true c3) (Nat.le_trans (nl_gcdN hp hq) (by decide))) il_nil))))))
            (ol_cons (o_neqSS false false true true) (ol_cons (o_bs (m := 3) (ss := [nt 2]) (N := 1) (sz := 1) (z := [.sl0]) (qs := [.dig (nl (Nat.gcd x.p x.q)) (Nat.gcd x.p x.q)]) (ix := [0]) (ls := [.ref 2]) Tryz.underlying141 (by kernel_rfl) (by kernel_rfl) (by decide) (by decide) (by decide) rfl (by kernel_rfl) ⟨ql_dig rfl, trivial⟩ rfl) (ol_nil))) (by kernel_rfl) Tryz.func85 (by kernel_rfl) ⟨(inF ha (lb c2) rfl rfl), trivial⟩).mono ?_
          rintro e w' ⟨v, rfl, h1, h2⟩
          have h1 := h1
          have h1 : v = _ := h1; subst h1
          exact ⟨by simp [Fq.valid, c0, c1, c2, c3], h2⟩
        · refine (calls_runFn (ρ := [.dig (nl x.p) x.p, .dig (nl x.q) x.q, .dig (nl (Nat.gcd x.p x.q)) (Nat.gcd x.p x.q), .row 24 1 [.dig (nl (Nat.gcd x.p x.q)) (Nat.gcd x.p x.q)]]) (w := w) (fuel := 300) (args := [.agg [.b false, .ref 0, .ref 1]]) (vs := [va]) (r := .v (.one (.b false)))
            (il_cons (I_nValid (i := 0) rfl rfl (Nat.le_trans hp (by decide))) (il_cons (I_nValid (i := 1) rfl rfl (Nat.le_trans hq (by decide))) (il_cons (I_isZero (i := 1) rfl (decide_eq_false c0) (Nat.le_trans hq (by decide))) (il_cons (J_mark (fat_mk (l := .b false) (a := 0) (b := 1) (x := x) (lb c2) (bl2 c2) rfl rfl) (lb c2) (decide_eq_false c1) (Nat.le_trans hp (by decide))) (il_cons (I_nGcd (i := 0) (j := 1) (k := 2) rfl rfl rfl (Nat.le_trans hp (by decide)) (Nat.le_trans hq (by decide))) (il_cons (I_one (n := 3) rfl (decide_eq_false c3) (Nat.le_trans (nl_gcdN hp hq) (by decide))) il_nil))))))
            (ol_cons (o_neqSS false false true true) (ol_cons (o_bs (m := 3) (ss := [nt 2]) (N := 1) (sz := 1) (z := [.sl0]) (qs := [.dig (nl (Nat.gcd x.p x.q)) (Nat.gcd x.p x.q)]) (ix := [0]) (ls := [.ref 2]) Tryz.underlying141 (by kernel_rfl) (by kernel_rfl) (by decide) (by decide) (by decide) rfl (by kernel_rfl) ⟨ql_dig rfl, trivial⟩ rfl) (ol_nil))) (by kernel_rfl) Tryz.func85 (by kernel_rfl) ⟨(inF ha (lb c2) rfl rfl), trivial⟩).mono ?_
          rintro e w' ⟨v, rfl, h1, h2⟩
          have h1 := h1
          have h1 : v = _ := h1; subst h1
          exact ⟨by simp [Fq.valid, c0, c1, c2, c3], h2⟩
theorem q_rValidR (va : Value) (s : Bool) (L p N q : Nat) (w : World) (ha : IsFR w va s L p N q) (hL : L ≤ 1000000) (hN : N ≤ 1000000) (hne : ¬(nl p = L ∧ nl q = N)) :
    Calls Tryz.prog 77 #[va] w fun e w' => RetV w (.bool false) e w' := by
  by_cases c0 : nl p = L
  · by_cases c1 : nl q = N
    · exact absurd ⟨c0, c1⟩ hne
    · refine (calls_runFn (ρ := [.val (.bool s), .dig L p, .dig N q]) (w := w) (fuel := 300) (args := [q3 0 1 2]) (vs := [va]) (r := .v (.one (.b false)))
        (il_cons (I_mValidR (i := 1) (b := true) rfl (decide_eq_true c0) (Nat.le_trans hL (by decide))) (il_cons (I_mValidR (i := 2) (b := false) rfl (decide_eq_false c1) (Nat.le_trans hN (by decide))) il_nil))
        ol_nil (by kernel_rfl) Tryz.func77 (by kernel_rfl) ⟨(inFR ha (lrb (n := 0) rfl) rfl rfl), trivial⟩).mono ?_
      rintro e w' ⟨v, rfl, h1, h2⟩
      have h1 := h1
      have h1 : v = _ := h1; subst h1
      exact ⟨rfl, h2⟩
  · refine (calls_runFn (ρ := [.val (.bool s), .dig L p, .dig N q]) (w := w) (fuel := 300) (args := [q3 0 1 2]) (vs := [va]) (r := .v (.one (.b false)))
      (il_cons (I_mValidR (i := 1) (b := false) rfl (decide_eq_false c0) (Nat.le_trans hL (by decide))) il_nil)
      ol_nil (by kernel_rfl) Tryz.func77 (by kernel_rfl) ⟨(inFR ha (lrb (n := 0) rfl) rfl rfl), trivial⟩).mono ?_
    rintro e w' ⟨v, rfl, h1, h2⟩
    have h1 := h1
    have h1 : v = _ := h1; subst h1
    exact ⟨rfl, h2⟩
theorem q_rValid (va : Value) (x : Fq) (w : World) (ha : IsQ w va x) (hp : nl x.p ≤ 1000000) (hq : nl x.q ≤ 1000000) :
    Calls Tryz.prog 77 #[va] w fun e w' => RetV w (.bool x.valid) e w' := by
  by_cases c0 : x.q = 0
  · refine (calls_runFn (ρ := [.val (.bool x.s), .dig (nl x.p) x.p, .dig (nl x.q) x.q]) (w := w) (fuel := 300) (args := [q3 0 1 2]) (vs := [va]) (r := .v (.one (.b false)))
      (il_cons (I_mValid (i := 1) rfl rfl (Nat.le_trans hp (by decide))) (il_cons (I_mValid (i := 2) rfl rfl (Nat.le_trans hq (by decide))) (il_cons (I_zero (i := 2) rfl (decide_eq_true c0) (Nat.le_trans hq (by decide))) il_nil)))
      ol_nil (by kernel_rfl) Tryz.func77 (by kernel_rfl) ⟨(inF ha (lrb (n := 0) rfl) rfl rfl), trivial⟩).mono ?_
    rintro e w' ⟨v, rfl, h1, h2⟩
    have h1 := h1
    have h1 : v = _ := h1; subst h1
    exact ⟨by simp [Fq.valid, c0], h2⟩
  · rcases Bool.eq_false_or_eq_true (x.s) with c1 | c1
    · by_cases c2 : x.p = 0
      · refine (calls_runFn (ρ := [.dig (nl x.p) x.p, .dig (nl x.q) x.q]) (w := w) (fuel := 300) (args := [.agg [.b true, .ref 0, .ref 1]]) (vs := [va]) (r := .v (.one (.b false)))
          (il_cons (I_mValid (i := 0) rfl rfl (Nat.le_trans hp (by decide))) (il_cons (I_mValid (i := 1) rfl rfl (Nat.le_trans hq (by decide))) (il_cons (I_zero (i := 1) rfl (decide_eq_false c0) (Nat.le_trans hq (by decide))) (il_cons (I_zero (i := 0) rfl (decide_eq_true c2) (Nat.le_trans hp (by decide))) il_nil))))
          ol_nil (by kernel_rfl) Tryz.func77 (by kernel_rfl) ⟨(inF ha (lb c1) rfl rfl), trivial⟩).mono ?_
        rintro e w' ⟨v, rfl, h1, h2⟩
        have h1 := h1
        have h1 : v = _ := h1; subst h1
        exact ⟨by simp [Fq.valid, c0, c1, c2], h2⟩
      · by_cases c3 : (Nat.gcd x.p x.q) = 1
        · refine (calls_runFn (ρ := [.dig (nl x.p) x.p, .dig (nl x.q) x.q, .dig (nl (Nat.gcd x.p x.q)) (Nat.gcd x.p x.q), .dig (nl 1) 1]) (w := w) (fuel := 300) (args := [.agg [.b true, .ref 0, .ref 1]]) (vs := [va]) (r := .v (.one (.b true)))
            (il_cons (I_mValid (i := 0) rfl rfl (Nat.le_trans hp (by decide))) (il_cons (I_mValid (i := 1) rfl rfl (Nat.le_trans hq (by decide))) (il_cons (I_zero (i := 1) rfl (decide_eq_false c0) (Nat.le_trans hq (by decide))) (il_cons (I_zero (i := 0) rfl (decide_eq_false c2) (Nat.le_trans hp (by decide))) (il_cons (I_mGcd (i := 0) (j := 1) (k := 2) rfl rfl rfl (Nat.le_trans hp (by decide)) (Nat.le_trans hq (by decide))) (il_cons (I_mOf (k := 3) rfl (by decide)) (il_cons (I_mSame (i := 2) (j := 3) rfl rfl (decide_eq_true c3) (Nat.le_trans (nl_gcdN hp hq) (by decide)) (Nat.le_trans nl_one (by decide))) il_nil)))))))
            ol_nil (by kernel_rfl) Tryz.func77 (by kernel_rfl) ⟨(inF ha (lb c1) rfl rfl), trivial⟩).mono ?_
          rintro e w' ⟨v, rfl, h1, h2⟩
          have h1 := h1
          have h1 : v = _ := h1; subst h1
          exact ⟨by simp [Fq.valid, c0, c1, c2, c3], h2⟩
        · refine (calls_runFn (ρ := [.dig (nl x.p) x.p, .dig (nl x.q) x.q, .dig (nl (Nat.gcd x.p x.q)) (Nat.gcd x.p x.q), .dig (nl 1) 1]) (w := w) (fuel := 300) (args := [.agg [.b true, .ref 0, .ref 1]]) (vs := [va]) (r := .v (.one (.b false)))
            (il_cons (I_mValid (i := 0) rfl rfl (Nat.le_trans hp (by decide))) (il_cons (I_mValid (i := 1) rfl rfl (Nat.le_trans hq (by decide))) (il_cons (I_zero (i := 1) rfl (decide_eq_false c0) (Nat.le_trans hq (by decide))) (il_cons (I_zero (i := 0) rfl (decide_eq_false c2) (Nat.le_trans hp (by decide))) (il_cons (I_mGcd (i := 0) (j := 1) (k := 2) rfl rfl rfl (Nat.le_trans hp (by decide)) (Nat.le_trans hq (by decide))) (il_cons (I_mOf (k := 3) rfl (by decide)) (il_cons (I_mSame (i := 2) (j := 3) rfl rfl (decide_eq_false c3) (Nat.le_trans (nl_gcdN hp hq) (by decide)) (Nat.le_trans nl_one (by decide))) il_nil)))))))
            ol_nil (by kernel_rfl) Tryz.func77 (by kernel_rfl) ⟨(inF ha (lb c1) rfl rfl), trivial⟩).mono ?_
          rintro e w' ⟨v, rfl, h1, h2⟩
          have h1 := h1
          have h1 : v = _ := h1; subst h1
          exact ⟨by simp [Fq.valid, c0, c1, c2, c3], h2⟩
    · by_cases c2 : (Nat.gcd x.p x.q) = 1
      · refine (calls_runFn (ρ := [.dig (nl x.p) x.p, .dig (nl x.q) x.q, .dig (nl (Nat.gcd x.p x.q)) (Nat.gcd x.p x.q), .dig (nl 1) 1]) (w := w) (fuel := 300) (args := [.agg [.b false, .ref 0, .ref 1]]) (vs := [va]) (r := .v (.one (.b true)))
          (il_cons (I_mValid (i := 0) rfl rfl (Nat.le_trans hp (by decide))) (il_cons (I_mValid (i := 1) rfl rfl (Nat.le_trans hq (by decide))) (il_cons (I_zero (i := 1) rfl (decide_eq_false c0) (Nat.le_trans hq (by decide))) (il_cons (I_mGcd (i := 0) (j := 1) (k := 2) rfl rfl rfl (Nat.le_trans hp (by decide)) (Nat.le_trans hq (by decide))) (il_cons (I_mOf (k := 3) rfl (by decide)) (il_cons (I_mSame (i := 2) (j := 3) rfl rfl (decide_eq_true c2) (Nat.le_trans (nl_gcdN hp hq) (by decide)) (Nat.le_trans nl_one (by decide))) il_nil))))))
          ol_nil (by kernel_rfl) Tryz.func77 (by kernel_rfl) ⟨(inF ha (lb c1) rfl rfl), trivial⟩).mono ?_
        rintro e w' ⟨v, rfl, h1, h2⟩
        have h1 := h1
        have h1 : v = _ := h1; subst h1
        exact ⟨by simp [Fq.valid, c0, c1, c2], h2⟩
      · refine (calls_runFn (ρ := [.dig (nl x.p) x.p, .dig (nl x.q) x.q, .dig (nl (Nat.gcd x.p x.q)) (Nat.gcd x.p x.q), .dig (nl 1) 1]) (w := w) (fuel := 300) (args := [.agg [.b false, .ref 0, .ref 1]]) (vs := [va]) (r := .v (.one (.b false)))
          (il_cons (I_mValid (i := 0) rfl rfl (Nat.le_trans hp (by decide))) (il_cons (I_mValid (i := 1) rfl rfl (Nat.le_trans hq (by decide))) (il_cons (I_zero (i := 1) rfl (decide_eq_false c0) (Nat.le_trans hq (by decide))) (il_cons (I_mGcd (i := 0) (j := 1) (k := 2) rfl rfl rfl (Nat.le_trans hp (by decide)) (Nat.le_trans hq (by decide))) (il_cons (I_mOf (k := 3) rfl (by decide)) (il_cons (I_mSame (i := 2) (j := 3) rfl rfl (decide_eq_false c2) (Nat.le_trans (nl_gcdN hp hq) (by decide)) (Nat.le_trans nl_one (by decide))) il_nil))))))
          ol_nil (by kernel_rfl) Tryz.func77 (by kernel_rfl) ⟨(inF ha (lb c1) rfl rfl), trivial⟩).mono ?_
        rintro e w' ⟨v, rfl, h1, h2⟩
        have h1 := h1
        have h1 : v = _ := h1; subst h1
        exact ⟨by simp [Fq.valid, c0, c1, c2], h2⟩
theorem q_SameB (va vb : Value) (x y : Fq) (w : World) (ha : IsQ w va x) (hb : IsQ w vb y) (hp : nl x.p ≤ 1000000000000) (hq : nl x.q ≤ 1000000000000) (kp : nl y.p ≤ 1000000000000) (kq : nl y.q ≤ 1000000000000) :
    Calls Tryz.prog 21 #[va, vb] w fun e w' => RetV w (.bool (x.same y)) e w' := by
  by_cases c0 : x.s = y.s
  · by_cases c1 : x.p = y.p
    · by_cases c2 : x.q = y.q
      · refine (calls_runFn (ρ := [.val (.bool x.s), .dig (nl x.p) x.p, .dig (nl x.q) x.q, .val (.bool y.s), .dig (nl y.p) y.p, .dig (nl y.q) y.q]) (w := w) (fuel := 300) (args := [q3 0 1 2, q3 3 4 5]) (vs := [va, vb]) (r := .v (.one (.b true)))
          (il_cons (I_mSame (i := 1) (j := 4) rfl rfl (decide_eq_true c1) hp kp) (il_cons (I_mSame (i := 2) (j := 5) rfl rfl (decide_eq_true c2) hq kq) il_nil))
          (ol_cons (o_beq (t := 4) (by kernel_rfl) (br (n := 0) rfl) (br (n := 3) rfl) (lb (beq_t c0))) (ol_nil)) (by kernel_rfl) Tryz.func21 (by kernel_rfl) ⟨(inF ha (lrb (n := 0) rfl) rfl rfl), ⟨(inF hb (lrb (n := 3) rfl) rfl rfl), trivial⟩⟩).mono ?_
        rintro e w' ⟨v, rfl, h1, h2⟩
        have h1 := h1
        have h1 : v = _ := h1; subst h1
        exact ⟨by simp [Fq.same, c0, c1, c2], h2⟩
      · refine (calls_runFn (ρ := [.val (.bool x.s), .dig (nl x.p) x.p, .dig (nl x.q) x.q, .val (.bool y.s), .dig (nl y.p) y.p, .dig (nl y.q) y.q]) (w := w) (fuel := 300) (args := [q3 0 1 2, q3 3 4 5]) (vs := [va, vb]) (r := .v (.one (.b false)))
          (il_cons (I_mSame (i := 1) (j := 4) rfl rfl (decide_eq_true c1) hp kp) (il_cons (I_mSame (i := 2) (j := 5) rfl rfl (decide_eq_false c2) hq kq) il_nil))
          (ol_cons (o_beq (t := 4) (by kernel_rfl) (br (n := 0) rfl) (br (n := 3) rfl) (lb (beq_t c0))) (ol_nil)) (by kernel_rfl) Tryz.func21 (by kernel_rfl) ⟨(inF ha (lrb (n := 0) rfl) rfl rfl), ⟨(inF hb (lrb (n := 3) rfl) rfl rfl), trivial⟩⟩).mono ?_
        rintro e w' ⟨v, rfl, h1, h2⟩
        have h1 := h1
        have h1 : v = _ := h1; subst h1
        exact ⟨by simp [Fq.same, c0, c1, c2], h2⟩
    · refine (calls_runFn (ρ := [.val (.bool x.s), .dig (nl x.p) x.p, .dig (nl x.q) x.q, .val (.bool y.s), .dig (nl y.p) y.p, .dig (nl y.q) y.q]) (w := w) (fuel := 300) (args := [q3 0 1 2, q3 3 4 5]) (vs := [va, vb]) (r := .v (.one (.b false)))
        (il_cons (I_mSame (i := 1) (j := 4) rfl rfl (decide_eq_false c1) hp kp) il_nil)
        (ol_cons (o_beq (t := 4) (by kernel_rfl) (br (n := 0) rfl) (br (n := 3) rfl) (lb (beq_t c0))) (ol_nil)) (by kernel_rfl) Tryz.func21 (by kernel_rfl) ⟨(inF ha (lrb (n := 0) rfl) rfl rfl), ⟨(inF hb (lrb (n := 3) rfl) rfl rfl), trivial⟩⟩).mono ?_
      rintro e w' ⟨v, rfl, h1, h2⟩
      have h1 := h1
      have h1 : v = _ := h1; subst h1
      exact ⟨by simp [Fq.same, c0, c1], h2⟩
  · refine (calls_runFn (ρ := [.val (.bool x.s), .dig (nl x.p) x.p, .dig (nl x.q) x.q, .val (.bool y.s), .dig (nl y.p) y.p, .dig (nl y.q) y.q]) (w := w) (fuel := 300) (args := [q3 0 1 2, q3 3 4 5]) (vs := [va, vb]) (r := .v (.one (.b false)))
      (il_nil)
      (ol_cons (o_beq (t := 4) (by kernel_rfl) (br (n := 0) rfl) (br (n := 3) rfl) (lb (beq_f c0))) (ol_nil)) (by kernel_rfl) Tryz.func21 (by kernel_rfl) ⟨(inF ha (lrb (n := 0) rfl) rfl rfl), ⟨(inF hb (lrb (n := 3) rfl) rfl rfl), trivial⟩⟩).mono ?_
    rintro e w' ⟨v, rfl, h1, h2⟩
    have h1 := h1
    have h1 : v = _ := h1; subst h1
    exact ⟨by simp [Fq.same, c0], h2⟩
end Go.Proofs.YthebfmlfgfmlnaaGreatDoor
