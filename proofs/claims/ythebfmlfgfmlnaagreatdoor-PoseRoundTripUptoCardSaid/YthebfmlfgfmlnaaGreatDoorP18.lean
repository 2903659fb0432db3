/- Texts of poses: what Decode answers, in plain terms; texts and poses are inverse to each other. Which poses are valid, as they come in. The plain law of poses: they form a group that acts on points and keeps distances. awake of the laws of poses. What an argument of type api.Nat is: a row of digits. What arguments of the types api.Pose, api.Vec, api.Frac are: rows of fractions, leading zeros allowed, no longer than the argument's bulk. -/
import Derived.Test.YthebfmlfgfmlnaaGreatDoorP17
import Derived.WalkKit
import Derived.ProofKit
import Derived.OpenShut
import Derived.ShutString
import Derived.ChangeOld
import Derived.Below
import Derived.Test.YthebfmlfgfmlnaaGreatDoorRows
import Derived.SizedLaws
import Derived.Deep.Strs
namespace Go.Proofs.YthebfmlfgfmlnaaGreatDoor
set_option linter.unusedSimpArgs false
set_option linter.unusedVariables false
set_option maxRecDepth 100000
open Go.RowKit
theorem fp_valid {s : ByteArray} {x : Fq} {c : Int} (h : FP s x c) (hc : c = 0) : x.valid = true := by
  cases h with
  | num _ _ h0 => exact absurd hc h0
  | den _ _ _ h0 => exact absurd hc h0
  | bad _ _ _ _ => exact absurd hc (by decide)
  | @good t B F a b M N h ha hb hv =>
    cases F with
    | false => simpa [parseV, parseQ] using hv
    | true =>
      have hv' : ¬ N = 1 ∧ (Fq.mk B M N).valid = true := by simpa [parseV] using hv
      simpa [parseQ] using hv'.2
theorem fp_size {s : ByteArray} {x : Fq} (h : FP s x 0) : x.ok 1000 := by
  have := fp_ok h
  exact ⟨by omega, by omega, this.2.2 rfl⟩
theorem good_no {s : ByteArray} (h : goodTo s s.size) : ChNo 32 s := fun k hk e => by
  have := h k hk
  have e : by' s k = 32 := e
  omega
theorem fp_no {s : ByteArray} {x : Fq} {c : Int} (h : FP s x c) (hc : c = 0) : ChNo 32 s := by
  cases h with
  | num _ _ h0 => exact absurd hc h0
  | den _ _ _ h0 => exact absurd hc h0
  | bad _ _ _ _ => exact absurd hc (by decide)
  | @good t B F a b M N h ha hb hv =>
    have ht : ChNo 32 t := by
      have h1 := good_no (parse_good ha).2
      cases F with
      | false => rw [← (h.miss rfl).2.1]; exact h1
      | true =>
        obtain ⟨i, hi, ea, eb⟩ := h.hit rfl
        have h2 := good_no (parse_good (hb rfl)).2
        have hi1 := hi.1
        intro k hk e
        rcases Nat.lt_trichotomy k i with h3 | h3 | h3
        · refine h1 k (by rw [ea, sz_ex (by omega)]; omega) ?_
          rw [ea, by_ex t 0 i k (by omega) (by omega), Nat.zero_add]; exact e
        · subst h3
          have := hi.2.1
          have e : by' t k = 32 := e
          omega
        · refine h2 (k - (i + 1)) (by rw [eb, sz_ex (Nat.le_refl _)]; omega) ?_
          rw [eb, by_tail (by omega), show i + 1 + (k - (i + 1)) = k from by omega]; exact e
    have hr := h.rest
    have hs := h.sign
    cases B with
    | false => have hr : t = s := by simpa using hr
               rw [← hr]; exact ht
    | true =>
      have hr : t = s.extract 1 s.size := by simpa using hr
      have hs := of_decide_eq_true hs
      intro k hk e
      have e : by' s k = 32 := e
      by_cases h0 : k = 0
      · subst h0; have := hs.2; omega
      · refine ht (k - 1) (by rw [hr, sz_ex (Nat.le_refl _)]; omega) ?_
        rw [hr, by_tail (by omega), show 1 + (k - 1) = k from by omega]; exact e
-- parts and joins
theorem joinB_one (x : ByteArray) : joinB [x] = x := by
  apply ByteArray.ext; apply Array.toList_inj.1
  simp [joinB, Lib.join, List.intercalate]
theorem joinB_cons (x y : ByteArray) (l : List ByteArray) : joinB (x :: y :: l) = x ++ (ByteArray.mk #[32] ++ joinB (y :: l)) := by
  apply ByteArray.ext; apply Array.toList_inj.1
  simp [joinB, Lib.join, List.intercalate]
theorem parts_no {u : ByteArray} (h : ChNo 32 u) : parts u = [u] := by
  unfold parts
  rw [ch_count0 h]; rfl
theorem parts_at {u : ByteArray} {i : Nat} (h : ChAt 32 u i) : parts u = u.extract 0 i :: parts (u.extract (i + 1) u.size) := by
  unfold parts
  rw [ch_count h, Nat.add_comm 1, Lib.splitB_hit (b1 32) 0 _ _ i (ch_index h)]
  rfl
theorem parts_join : ∀ (l : List ByteArray), l ≠ [] → (∀ x ∈ l, ChNo 32 x) → parts (joinB l) = l
  | [], h, _ => absurd rfl h
  | [x], _, h => by rw [joinB_one]; exact parts_no (h x (by simp))
  | x :: y :: l, _, h => by
    have ih := parts_join (y :: l) (by simp) (fun z hz => h z (List.mem_cons_of_mem _ hz))
    rw [joinB_cons]
    generalize joinB (y :: l) = r at ih
    have hsz : (x ++ (ByteArray.mk #[32] ++ r)).size = x.size + (1 + r.size) := by rw [ByteArray.size_append, ByteArray.size_append]; rfl
    have hA : ChAt 32 (x ++ (ByteArray.mk #[32] ++ r)) x.size := by
      refine ⟨by omega, ?_, fun k hk => ?_⟩
      · rw [by_app, if_neg (by omega), by_app, if_pos (by show x.size - x.size < 1; omega), Nat.sub_self]; rfl
      · rw [by_app, if_pos hk]; exact h x (by simp) k hk
    rw [parts_at hA, cut_app _ _ _ rfl]
    have e : (x ++ (ByteArray.mk #[32] ++ r)).extract (x.size + 1) (x ++ (ByteArray.mk #[32] ++ r)).size = r := by
      have e1 : x ++ (ByteArray.mk #[32] ++ r) = (x ++ ByteArray.mk #[32]) ++ r := by rw [ByteArray.append_assoc]
      rw [e1]
      exact tail_app _ _ _ (by rw [ByteArray.size_append]; rfl)
    rw [e, ih]
theorem spSt_sizes (s : ByteArray) : ∀ k, k ≤ s.size + 1 → ∀ x ∈ (spSt s k).2, x.size ≤ s.size
  | 0, _, x, hx => by cases hx
  | k + 1, hk, x, hx => by
    have ih := spSt_sizes s k (by omega)
    unfold spSt at hx
    split at hx
    · rcases List.mem_append.1 hx with h | h
      · exact ih x h
      · have h := List.mem_singleton.1 h
        subst h
        rw [ByteArray.size_extract]; omega
    · exact ih x hx
theorem parts_size {s x : ByteArray} (h : x ∈ parts s) : x.size ≤ s.size := by
  unfold parts at h
  rw [← spSt_parts] at h
  exact spSt_sizes s _ (Nat.le_refl _) x h
-- what Decode answers
inductive PD (s : ByteArray) : Pq → Int → Prop
  | form (h : (parts s).length ≠ 7) : PD s .zero 2
  | e0 {w0 w1 w2 w3 w4 w5 w6 x0 c} (h : parts s = [w0, w1, w2, w3, w4, w5, w6]) (h0 : FP w0 x0 c) (hc : c ≠ 0) : PD s .zero c
  | e1 {w0 w1 w2 w3 w4 w5 w6 x0 x1 c} (h : parts s = [w0, w1, w2, w3, w4, w5, w6]) (h0 : FP w0 x0 0) (h1 : FP w1 x1 c) (hc : c ≠ 0) : PD s .zero c
  | e2 {w0 w1 w2 w3 w4 w5 w6 x0 x1 x2 c} (h : parts s = [w0, w1, w2, w3, w4, w5, w6]) (h0 : FP w0 x0 0) (h1 : FP w1 x1 0) (h2 : FP w2 x2 c) (hc : c ≠ 0) : PD s .zero c
  | e3 {w0 w1 w2 w3 w4 w5 w6 x0 x1 x2 x3 c} (h : parts s = [w0, w1, w2, w3, w4, w5, w6]) (h0 : FP w0 x0 0) (h1 : FP w1 x1 0) (h2 : FP w2 x2 0) (h3 : FP w3 x3 c) (hc : c ≠ 0) : PD s .zero c
  | e4 {w0 w1 w2 w3 w4 w5 w6 x0 x1 x2 x3 x4 c} (h : parts s = [w0, w1, w2, w3, w4, w5, w6]) (h0 : FP w0 x0 0) (h1 : FP w1 x1 0) (h2 : FP w2 x2 0) (h3 : FP w3 x3 0) (h4 : FP w4 x4 c) (hc : c ≠ 0) : PD s .zero c
  | e5 {w0 w1 w2 w3 w4 w5 w6 x0 x1 x2 x3 x4 x5 c} (h : parts s = [w0, w1, w2, w3, w4, w5, w6]) (h0 : FP w0 x0 0) (h1 : FP w1 x1 0) (h2 : FP w2 x2 0) (h3 : FP w3 x3 0) (h4 : FP w4 x4 0) (h5 : FP w5 x5 c) (hc : c ≠ 0) : PD s .zero c
  | e6 {w0 w1 w2 w3 w4 w5 w6 x0 x1 x2 x3 x4 x5 x6 c} (h : parts s = [w0, w1, w2, w3, w4, w5, w6]) (h0 : FP w0 x0 0) (h1 : FP w1 x1 0) (h2 : FP w2 x2 0) (h3 : FP w3 x3 0) (h4 : FP w4 x4 0) (h5 : FP w5 x5 0) (h6 : FP w6 x6 c) (hc : c ≠ 0) : PD s .zero c
  | range {w0 w1 w2 w3 w4 w5 w6 x0 x1 x2 x3 x4 x5 x6} (h : parts s = [w0, w1, w2, w3, w4, w5, w6]) (h0 : FP w0 x0 0) (h1 : FP w1 x1 0) (h2 : FP w2 x2 0) (h3 : FP w3 x3 0) (h4 : FP w4 x4 0) (h5 : FP w5 x5 0) (h6 : FP w6 x6 0) (hf : (Qq.mk x0 x1 x2 x3).first ≠ (Fq.ofInt 1)) : PD s .zero 4
  | good {w0 w1 w2 w3 w4 w5 w6 x0 x1 x2 x3 x4 x5 x6} (h : parts s = [w0, w1, w2, w3, w4, w5, w6]) (h0 : FP w0 x0 0) (h1 : FP w1 x1 0) (h2 : FP w2 x2 0) (h3 : FP w3 x3 0) (h4 : FP w4 x4 0) (h5 : FP w5 x5 0) (h6 : FP w6 x6 0) (hf : (Qq.mk x0 x1 x2 x3).first = (Fq.ofInt 1)) : PD s ⟨⟨x0, x1, x2, x3⟩, ⟨x4, x5, x6⟩⟩ 0
theorem parts_text {a : Pq} (g : a.good) (k : a.ok 12) : parts a.text = [a.rot.w.fmt, a.rot.x.fmt, a.rot.y.fmt, a.rot.z.fmt, a.pos.x.fmt, a.pos.y.fmt, a.pos.z.fmt] := by
  have f : ∀ {x : Fq}, x.valid = true → x.ok 12 → ChNo 32 x.fmt := fun h1 h2 => fp_no (fmt_fp h1 h2.p h2.q) rfl
  refine parts_join _ (by simp) (fun x hx => ?_)
  simp only [List.mem_cons, List.not_mem_nil, or_false] at hx
  rcases hx with rfl | rfl | rfl | rfl | rfl | rfl | rfl
  · exact f g.rot.comp.w k.rot.w
  · exact f g.rot.comp.x k.rot.x
  · exact f g.rot.comp.y k.rot.y
  · exact f g.rot.comp.z k.rot.z
  · exact f g.pos.x k.pos.x
  · exact f g.pos.y k.pos.y
  · exact f g.pos.z k.pos.z
theorem pd_text {a : Pq} (g : a.good) (k : a.ok 12) : PD a.text a 0 := by
  have f : ∀ {x : Fq}, x.valid = true → x.ok 12 → FP x.fmt x 0 := fun h1 h2 => fmt_fp h1 h2.p h2.q
  exact .good (parts_text g k) (f g.rot.comp.w k.rot.w) (f g.rot.comp.x k.rot.x) (f g.rot.comp.y k.rot.y) (f g.rot.comp.z k.rot.z) (f g.pos.x k.pos.x) (f g.pos.y k.pos.y) (f g.pos.z k.pos.z) (good_first g.rot)
theorem q_poDecode (s : ByteArray) (p : Pq) (c : Int) (w : World) (h : PD s p c) (hs : s.size ≤ 4294967280) : Calls Tryz.prog 15 #[.string s] w fun e w' => RetOqE w p c e w' := by
  have z : ∀ x, x ∈ parts s → x.size ≤ 4294967280 := fun x hx => Nat.le_trans (parts_size hx) hs
  cases h with
  | form h => exact q_pDF s _ w rfl h hs
  | @e0 w0 w1 w2 w3 w4 w5 w6 x0 c h h0 hc => exact q_pD0 s w0 w1 w2 w3 w4 w5 w6 x0 c w h h0 hc (z w0 (by rw [h]; simp)) hs
  | @e1 w0 w1 w2 w3 w4 w5 w6 x0 x1 c h h0 h1 hc => exact q_pD1 s w0 w1 w2 w3 w4 w5 w6 x0 x1 c w h h0 h1 hc (z w0 (by rw [h]; simp)) (z w1 (by rw [h]; simp)) hs
  | @e2 w0 w1 w2 w3 w4 w5 w6 x0 x1 x2 c h h0 h1 h2 hc => exact q_pD2 s w0 w1 w2 w3 w4 w5 w6 x0 x1 x2 c w h h0 h1 h2 hc (z w0 (by rw [h]; simp)) (z w1 (by rw [h]; simp)) (z w2 (by rw [h]; simp)) hs
  | @e3 w0 w1 w2 w3 w4 w5 w6 x0 x1 x2 x3 c h h0 h1 h2 h3 hc => exact q_pD3 s w0 w1 w2 w3 w4 w5 w6 x0 x1 x2 x3 c w h h0 h1 h2 h3 hc (z w0 (by rw [h]; simp)) (z w1 (by rw [h]; simp)) (z w2 (by rw [h]; simp)) (z w3 (by rw [h]; simp)) hs
  | @e4 w0 w1 w2 w3 w4 w5 w6 x0 x1 x2 x3 x4 c h h0 h1 h2 h3 h4 hc => exact q_pD4 s w0 w1 w2 w3 w4 w5 w6 x0 x1 x2 x3 x4 c w h h0 h1 h2 h3 h4 hc (z w0 (by rw [h]; simp)) (z w1 (by rw [h]; simp)) (z w2 (by rw [h]; simp)) (z w3 (by rw [h]; simp)) (z w4 (by rw [h]; simp)) hs
  | @e5 w0 w1 w2 w3 w4 w5 w6 x0 x1 x2 x3 x4 x5 c h h0 h1 h2 h3 h4 h5 hc => exact q_pD5 s w0 w1 w2 w3 w4 w5 w6 x0 x1 x2 x3 x4 x5 c w h h0 h1 h2 h3 h4 h5 hc (z w0 (by rw [h]; simp)) (z w1 (by rw [h]; simp)) (z w2 (by rw [h]; simp)) (z w3 (by rw [h]; simp)) (z w4 (by rw [h]; simp)) (z w5 (by rw [h]; simp)) hs
  | @e6 w0 w1 w2 w3 w4 w5 w6 x0 x1 x2 x3 x4 x5 x6 c h h0 h1 h2 h3 h4 h5 h6 hc => exact q_pD6 s w0 w1 w2 w3 w4 w5 w6 x0 x1 x2 x3 x4 x5 x6 c w h h0 h1 h2 h3 h4 h5 h6 hc (z w0 (by rw [h]; simp)) (z w1 (by rw [h]; simp)) (z w2 (by rw [h]; simp)) (z w3 (by rw [h]; simp)) (z w4 (by rw [h]; simp)) (z w5 (by rw [h]; simp)) (z w6 (by rw [h]; simp)) hs
  | @range w0 w1 w2 w3 w4 w5 w6 x0 x1 x2 x3 x4 x5 x6 h h0 h1 h2 h3 h4 h5 h6 hf => exact q_pD7R s w0 w1 w2 w3 w4 w5 w6 x0 x1 x2 x3 x4 x5 x6 w h h0 h1 h2 h3 h4 h5 h6 ⟨fp_valid h0 rfl, fp_valid h1 rfl, fp_valid h2 rfl, fp_valid h3 rfl⟩ hf (z w0 (by rw [h]; simp)) (z w1 (by rw [h]; simp)) (z w2 (by rw [h]; simp)) (z w3 (by rw [h]; simp)) (z w4 (by rw [h]; simp)) (z w5 (by rw [h]; simp)) (z w6 (by rw [h]; simp)) (fp_size h0) (fp_size h1) (fp_size h2) (fp_size h3) (fp_size h4) (fp_size h5) (fp_size h6) hs
  | @good w0 w1 w2 w3 w4 w5 w6 x0 x1 x2 x3 x4 x5 x6 h h0 h1 h2 h3 h4 h5 h6 hf => exact q_pD7 s w0 w1 w2 w3 w4 w5 w6 x0 x1 x2 x3 x4 x5 x6 w h h0 h1 h2 h3 h4 h5 h6 (good_of ⟨fp_valid h0 rfl, fp_valid h1 rfl, fp_valid h2 rfl, fp_valid h3 rfl⟩ hf) (z w0 (by rw [h]; simp)) (z w1 (by rw [h]; simp)) (z w2 (by rw [h]; simp)) (z w3 (by rw [h]; simp)) (z w4 (by rw [h]; simp)) (z w5 (by rw [h]; simp)) (z w6 (by rw [h]; simp)) (fp_size h0) (fp_size h1) (fp_size h2) (fp_size h3) (fp_size h4) (fp_size h5) (fp_size h6) hs
theorem I_poDecode {xs : List Fq} {ys : Rho} {kr : List Nat} {s : ByteArray} {p : Pq} {c : Int} {l0 l : Leaf} (h0 : ∀ B w v, l0.holds (frs xs ++ ys) B w v → v = .string s) (ar : AtL xs kr [p.rot.w, p.rot.x, p.rot.y, p.rot.z, p.pos.x, p.pos.y, p.pos.z]) (hl : ∀ B w, l.holds (frs xs ++ ys) B w (.int .i64 c)) (h : PD s p c) (hs : s.size ≤ 4294967280) : OkI xs ys ⟨15, [.one l0], .tup [row kr, .one l]⟩ :=
  ⟨enters Tryz.func15 rfl rfl, fun B w vs hB hv => by
    match vs, hv with
    | [va], hv =>
      have e := h0 _ _ _ hv.1
      subst e
      refine (q_poDecode s p c w h hs).mono ?_
      rintro e w' ⟨v, rfl, h1, h2⟩
      exact ⟨_, rfl, ⟨[v, .int .i64 c], rfl, (row_isL ar).2 h1, hl B w', trivial⟩, h2⟩⟩
end Go.Proofs.YthebfmlfgfmlnaaGreatDoor
namespace Go.Proofs.YthebfmlfgfmlnaaGreatDoor
set_option linter.unusedSimpArgs false
set_option linter.unusedVariables false
set_option maxRecDepth 100000
open Go.RowKit
/-- The parts are valid, the first that is not zero is one. -/
def rawQ (r0 r1 r2 r3 : Rq) : Bool := (r0.vld && (r1.vld && (r2.vld && r3.vld))) && (Qq.mk ⟨r0.s, r0.p, r0.q⟩ ⟨r1.s, r1.p, r1.q⟩ ⟨r2.s, r2.p, r2.q⟩ ⟨r3.s, r3.p, r3.q⟩).first.same (Fq.ofInt 1)
def xpartsYthebfmlfgfmlnaaGreatDoor (r0 r1 r2 r3 : Rq) : List Fq := []
theorem q_partsX (x : Value) (r0 r1 r2 r3 : Rq) (w : World) (h : IsL w x [r0, r1, r2, r3]) : Calls Tryz.prog 84 #[x] w fun e w' => RetL w [r0, r1, r2, r3] e w' := by
  refine (calls_runFn (ρ := frs (xpartsYthebfmlfgfmlnaaGreatDoor r0 r1 r2 r3) ++ [.val (.bool r0.s), .dig r0.L r0.p, .dig r0.N r0.q, .val (.bool r1.s), .dig r1.L r1.p, .dig r1.N r1.q, .val (.bool r2.s), .dig r2.L r2.p, .dig r2.N r2.q, .val (.bool r3.s), .dig r3.L r3.p, .dig r3.N r3.q]) (w := w) (fuel := 300) (args := [rowN [0, 3, 6, 9]]) (vs := [x]) (r := .v (rowN [0, 3, 6, 9]))
    (il_nil) ol_nil (by kernel_rfl) Tryz.func84 (by kernel_rfl) ⟨(rowN_isL (ns := [0, 3, 6, 9]) (rs := [r0, r1, r2, r3]) ⟨⟨rfl, rfl, rfl⟩, ⟨rfl, rfl, rfl⟩, ⟨rfl, rfl, rfl⟩, ⟨rfl, rfl, rfl⟩, trivial⟩).2 h, trivial⟩).mono ?_
  rintro e w' ⟨v, rfl, h1, h2⟩
  exact ⟨v, rfl, (rowN_isL (ns := [0, 3, 6, 9]) (rs := [r0, r1, r2, r3]) ⟨⟨rfl, rfl, rfl⟩, ⟨rfl, rfl, rfl⟩, ⟨rfl, rfl, rfl⟩, ⟨rfl, rfl, rfl⟩, trivial⟩).1 h1, h2⟩
theorem I_partsX {xs : List Fq} {ys : Rho} {ns : List Nat} {r0 r1 r2 r3 : Rq} (hr : AtR (frs xs ++ ys) ns [r0, r1, r2, r3]) : OkI xs ys ⟨84, [rowN ns], .v (rowN ns)⟩ :=
  ⟨enters Tryz.func84 rfl rfl, fun B w vs hB h => by
    match vs, h with
    | [va], h =>
      refine (q_partsX va r0 r1 r2 r3 w ((rowN_isL hr).1 h.1)).mono ?_
      rintro e w' ⟨v, rfl, h1, h2⟩
      exact ⟨v, rfl, (rowN_isL hr).2 h1, h2⟩⟩
def xfValidN0X (r0 r1 r2 r3 : Rq) : List Fq := []
def xfValidN1X (r0 r1 r2 r3 : Rq) : List Fq := []
def xfValidN2X (r0 r1 r2 r3 : Rq) : List Fq := []
def xfValidN3X (r0 r1 r2 r3 : Rq) : List Fq := []
theorem q_fValidN (x : Value) (r0 r1 r2 r3 : Rq) (w : World) (h : IsL w x [r0, r1, r2, r3]) (lr0 : r0.L ≤ 1000000) (nr0 : r0.N ≤ 1000000) (lr1 : r1.L ≤ 1000000) (nr1 : r1.N ≤ 1000000) (lr2 : r2.L ≤ 1000000) (nr2 : r2.N ≤ 1000000) (lr3 : r3.L ≤ 1000000) (nr3 : r3.N ≤ 1000000) (hne : (r0.vld && (r1.vld && (r2.vld && r3.vld))) = false) : Calls Tryz.prog 41 #[x] w fun e w' => RetV w (.bool false) e w' := by
  rcases Bool.eq_false_or_eq_true (r0.vld) with c0 | c0
  · rcases Bool.eq_false_or_eq_true (r1.vld) with c1 | c1
    · rcases Bool.eq_false_or_eq_true (r2.vld) with c2 | c2
      · rcases Bool.eq_false_or_eq_true (r3.vld) with c3 | c3
        · exact absurd hne (by rw [c0, c1, c2, c3]; decide)
        · refine (calls_runFn (ρ := frs (xfValidN0X r0 r1 r2 r3) ++ [.val (.bool r0.s), .dig r0.L r0.p, .dig r0.N r0.q, .val (.bool r1.s), .dig r1.L r1.p, .dig r1.N r1.q, .val (.bool r2.s), .dig r2.L r2.p, .dig r2.N r2.q, .val (.bool r3.s), .dig r3.L r3.p, .dig r3.N r3.q]) (w := w) (fuel := 300) (args := [rowN [0, 3, 6, 9]]) (vs := [x]) (r := .v (.one (.b false)))
            (il_cons (I_partsX (ns := [0, 3, 6, 9]) ⟨⟨rfl, rfl, rfl⟩, ⟨rfl, rfl, rfl⟩, ⟨rfl, rfl, rfl⟩, ⟨rfl, rfl, rfl⟩, trivial⟩) (il_cons (I_fValidX (n := 0) (r := r0) (d := true) ⟨⟨rfl, rfl, rfl⟩, trivial⟩ c0 lr0 nr0) (il_cons (I_fValidX (n := 3) (r := r1) (d := true) ⟨⟨rfl, rfl, rfl⟩, trivial⟩ c1 lr1 nr1) (il_cons (I_fValidX (n := 6) (r := r2) (d := true) ⟨⟨rfl, rfl, rfl⟩, trivial⟩ c2 lr2 nr2) (il_cons (I_fValidX (n := 9) (r := r3) (d := false) ⟨⟨rfl, rfl, rfl⟩, trivial⟩ c3 lr3 nr3) (il_nil)))))) ol_nil (by kernel_rfl) Tryz.func41 (by kernel_rfl) ⟨(rowN_isL (ns := [0, 3, 6, 9]) (rs := [r0, r1, r2, r3]) ⟨⟨rfl, rfl, rfl⟩, ⟨rfl, rfl, rfl⟩, ⟨rfl, rfl, rfl⟩, ⟨rfl, rfl, rfl⟩, trivial⟩).2 h, trivial⟩).mono ?_
          rintro e w' ⟨v, rfl, h1, h2⟩
          exact ⟨congrArg Ending.returned h1, h2⟩
      · refine (calls_runFn (ρ := frs (xfValidN1X r0 r1 r2 r3) ++ [.val (.bool r0.s), .dig r0.L r0.p, .dig r0.N r0.q, .val (.bool r1.s), .dig r1.L r1.p, .dig r1.N r1.q, .val (.bool r2.s), .dig r2.L r2.p, .dig r2.N r2.q, .val (.bool r3.s), .dig r3.L r3.p, .dig r3.N r3.q]) (w := w) (fuel := 300) (args := [rowN [0, 3, 6, 9]]) (vs := [x]) (r := .v (.one (.b false)))
          (il_cons (I_partsX (ns := [0, 3, 6, 9]) ⟨⟨rfl, rfl, rfl⟩, ⟨rfl, rfl, rfl⟩, ⟨rfl, rfl, rfl⟩, ⟨rfl, rfl, rfl⟩, trivial⟩) (il_cons (I_fValidX (n := 0) (r := r0) (d := true) ⟨⟨rfl, rfl, rfl⟩, trivial⟩ c0 lr0 nr0) (il_cons (I_fValidX (n := 3) (r := r1) (d := true) ⟨⟨rfl, rfl, rfl⟩, trivial⟩ c1 lr1 nr1) (il_cons (I_fValidX (n := 6) (r := r2) (d := false) ⟨⟨rfl, rfl, rfl⟩, trivial⟩ c2 lr2 nr2) (il_nil))))) ol_nil (by kernel_rfl) Tryz.func41 (by kernel_rfl) ⟨(rowN_isL (ns := [0, 3, 6, 9]) (rs := [r0, r1, r2, r3]) ⟨⟨rfl, rfl, rfl⟩, ⟨rfl, rfl, rfl⟩, ⟨rfl, rfl, rfl⟩, ⟨rfl, rfl, rfl⟩, trivial⟩).2 h, trivial⟩).mono ?_
        rintro e w' ⟨v, rfl, h1, h2⟩
        exact ⟨congrArg Ending.returned h1, h2⟩
    · refine (calls_runFn (ρ := frs (xfValidN2X r0 r1 r2 r3) ++ [.val (.bool r0.s), .dig r0.L r0.p, .dig r0.N r0.q, .val (.bool r1.s), .dig r1.L r1.p, .dig r1.N r1.q, .val (.bool r2.s), .dig r2.L r2.p, .dig r2.N r2.q, .val (.bool r3.s), .dig r3.L r3.p, .dig r3.N r3.q]) (w := w) (fuel := 300) (args := [rowN [0, 3, 6, 9]]) (vs := [x]) (r := .v (.one (.b false)))
        (il_cons (I_partsX (ns := [0, 3, 6, 9]) ⟨⟨rfl, rfl, rfl⟩, ⟨rfl, rfl, rfl⟩, ⟨rfl, rfl, rfl⟩, ⟨rfl, rfl, rfl⟩, trivial⟩) (il_cons (I_fValidX (n := 0) (r := r0) (d := true) ⟨⟨rfl, rfl, rfl⟩, trivial⟩ c0 lr0 nr0) (il_cons (I_fValidX (n := 3) (r := r1) (d := false) ⟨⟨rfl, rfl, rfl⟩, trivial⟩ c1 lr1 nr1) (il_nil)))) ol_nil (by kernel_rfl) Tryz.func41 (by kernel_rfl) ⟨(rowN_isL (ns := [0, 3, 6, 9]) (rs := [r0, r1, r2, r3]) ⟨⟨rfl, rfl, rfl⟩, ⟨rfl, rfl, rfl⟩, ⟨rfl, rfl, rfl⟩, ⟨rfl, rfl, rfl⟩, trivial⟩).2 h, trivial⟩).mono ?_
      rintro e w' ⟨v, rfl, h1, h2⟩
      exact ⟨congrArg Ending.returned h1, h2⟩
  · refine (calls_runFn (ρ := frs (xfValidN3X r0 r1 r2 r3) ++ [.val (.bool r0.s), .dig r0.L r0.p, .dig r0.N r0.q, .val (.bool r1.s), .dig r1.L r1.p, .dig r1.N r1.q, .val (.bool r2.s), .dig r2.L r2.p, .dig r2.N r2.q, .val (.bool r3.s), .dig r3.L r3.p, .dig r3.N r3.q]) (w := w) (fuel := 300) (args := [rowN [0, 3, 6, 9]]) (vs := [x]) (r := .v (.one (.b false)))
      (il_cons (I_partsX (ns := [0, 3, 6, 9]) ⟨⟨rfl, rfl, rfl⟩, ⟨rfl, rfl, rfl⟩, ⟨rfl, rfl, rfl⟩, ⟨rfl, rfl, rfl⟩, trivial⟩) (il_cons (I_fValidX (n := 0) (r := r0) (d := false) ⟨⟨rfl, rfl, rfl⟩, trivial⟩ c0 lr0 nr0) (il_nil))) ol_nil (by kernel_rfl) Tryz.func41 (by kernel_rfl) ⟨(rowN_isL (ns := [0, 3, 6, 9]) (rs := [r0, r1, r2, r3]) ⟨⟨rfl, rfl, rfl⟩, ⟨rfl, rfl, rfl⟩, ⟨rfl, rfl, rfl⟩, ⟨rfl, rfl, rfl⟩, trivial⟩).2 h, trivial⟩).mono ?_
    rintro e w' ⟨v, rfl, h1, h2⟩
    exact ⟨congrArg Ending.returned h1, h2⟩
theorem q_fValidB (vq : Value) (q : Qq) (w : World) (iq : IsQt w vq q) (hq : q.ok 1000000) (gc : q.comp) : Calls Tryz.prog 41 #[vq] w fun e w' => RetV w (.bool (q.first.same (Fq.ofInt 1))) e w' := by
  by_cases h : q.first = Fq.ofInt 1
  · rw [Fq.same_iff.2 h]; exact q_fValidT1 vq q w iq hq (good_of gc h)
  · rw [same_ne h]; exact q_fValidT0 vq q w iq hq gc h
theorem q_fValidR4 (x : Value) (r0 r1 r2 r3 : Rq) (w : World) (h : IsL w x [r0, r1, r2, r3]) (lr0 : r0.L ≤ 1000000) (nr0 : r0.N ≤ 1000000) (lr1 : r1.L ≤ 1000000) (nr1 : r1.N ≤ 1000000) (lr2 : r2.L ≤ 1000000) (nr2 : r2.N ≤ 1000000) (lr3 : r3.L ≤ 1000000) (nr3 : r3.N ≤ 1000000) : Calls Tryz.prog 41 #[x] w fun e w' => RetV w (.bool (rawQ r0 r1 r2 r3)) e w' := by
  rcases Bool.eq_false_or_eq_true (r0.vld && (r1.vld && (r2.vld && r3.vld))) with hv | hv
  · unfold rawQ
    rw [hv, Bool.true_and]
    simp only [Bool.and_eq_true] at hv
    obtain ⟨h0, h1, h2, h3⟩ := hv
    have k0 := vld_nl h0; have k1 := vld_nl h1; have k2 := vld_nl h2; have k3 := vld_nl h3
    have m0 := vld_raw h0; have m1 := vld_raw h1; have m2 := vld_raw h2; have m3 := vld_raw h3
    refine q_fValidB x (Qq.mk ⟨r0.s, r0.p, r0.q⟩ ⟨r1.s, r1.p, r1.q⟩ ⟨r2.s, r2.p, r2.q⟩ ⟨r3.s, r3.p, r3.q⟩) w (by have h' := h; rw [m0.1, m1.1, m2.1, m3.1] at h'; exact h') ⟨⟨?_, ?_, Fq.valid.n m0.2⟩, ⟨?_, ?_, Fq.valid.n m1.2⟩, ⟨?_, ?_, Fq.valid.n m2.2⟩, ⟨?_, ?_, Fq.valid.n m3.2⟩⟩ ⟨m0.2, m1.2, m2.2, m3.2⟩
    · show nl r0.p ≤ _; omega
    · show nl r0.q ≤ _; omega
    · show nl r1.p ≤ _; omega
    · show nl r1.q ≤ _; omega
    · show nl r2.p ≤ _; omega
    · show nl r2.q ≤ _; omega
    · show nl r3.p ≤ _; omega
    · show nl r3.q ≤ _; omega
  · unfold rawQ
    rw [hv, Bool.false_and]
    exact q_fValidN x r0 r1 r2 r3 w h lr0 nr0 lr1 nr1 lr2 nr2 lr3 nr3 hv
def rawV (r0 r1 r2 : Rq) : Bool := r0.vld && (r1.vld && r2.vld)
def rawO (r0 r1 r2 r3 r4 r5 r6 : Rq) : Bool := rawQ r0 r1 r2 r3 && rawV r4 r5 r6
def xvValidR0X (r0 r1 r2 : Rq) : List Fq := []
def xvValidR1X (r0 r1 r2 : Rq) : List Fq := []
def xvValidR2X (r0 r1 r2 : Rq) : List Fq := []
def xvValidR3X (r0 r1 r2 : Rq) : List Fq := []
theorem q_vValidR (x : Value) (r0 r1 r2 : Rq) (w : World) (h : IsL w x [r0, r1, r2]) (lr0 : r0.L ≤ 1000000) (nr0 : r0.N ≤ 1000000) (lr1 : r1.L ≤ 1000000) (nr1 : r1.N ≤ 1000000) (lr2 : r2.L ≤ 1000000) (nr2 : r2.N ≤ 1000000) : Calls Tryz.prog 42 #[x] w fun e w' => RetV w (.bool (rawV r0 r1 r2)) e w' := by
  rcases Bool.eq_false_or_eq_true (r0.vld) with c0 | c0
  · rcases Bool.eq_false_or_eq_true (r1.vld) with c1 | c1
    · rcases Bool.eq_false_or_eq_true (r2.vld) with c2 | c2
      · refine (calls_runFn (ρ := frs (xvValidR0X r0 r1 r2) ++ [.val (.bool r0.s), .dig r0.L r0.p, .dig r0.N r0.q, .val (.bool r1.s), .dig r1.L r1.p, .dig r1.N r1.q, .val (.bool r2.s), .dig r2.L r2.p, .dig r2.N r2.q]) (w := w) (fuel := 300) (args := [rowN [0, 3, 6]]) (vs := [x]) (r := .v (.one (.b true)))
          (il_cons (I_fValidX (n := 0) (r := r0) (d := true) ⟨⟨rfl, rfl, rfl⟩, trivial⟩ c0 lr0 nr0) (il_cons (I_fValidX (n := 3) (r := r1) (d := true) ⟨⟨rfl, rfl, rfl⟩, trivial⟩ c1 lr1 nr1) (il_cons (I_fValidX (n := 6) (r := r2) (d := true) ⟨⟨rfl, rfl, rfl⟩, trivial⟩ c2 lr2 nr2) il_nil)))
          ol_nil (by kernel_rfl) Tryz.func42 (by kernel_rfl) ⟨(rowN_isL (ns := [0, 3, 6]) (rs := [r0, r1, r2]) ⟨⟨rfl, rfl, rfl⟩, ⟨rfl, rfl, rfl⟩, ⟨rfl, rfl, rfl⟩, trivial⟩).2 h, trivial⟩).mono ?_
        rintro e w' ⟨v, rfl, h1, h2⟩
        have h1 : v = .bool _ := h1
        subst h1
        exact ⟨by simp [rawV, c0, c1, c2], h2⟩
      · refine (calls_runFn (ρ := frs (xvValidR1X r0 r1 r2) ++ [.val (.bool r0.s), .dig r0.L r0.p, .dig r0.N r0.q, .val (.bool r1.s), .dig r1.L r1.p, .dig r1.N r1.q, .val (.bool r2.s), .dig r2.L r2.p, .dig r2.N r2.q]) (w := w) (fuel := 300) (args := [rowN [0, 3, 6]]) (vs := [x]) (r := .v (.one (.b false)))
          (il_cons (I_fValidX (n := 0) (r := r0) (d := true) ⟨⟨rfl, rfl, rfl⟩, trivial⟩ c0 lr0 nr0) (il_cons (I_fValidX (n := 3) (r := r1) (d := true) ⟨⟨rfl, rfl, rfl⟩, trivial⟩ c1 lr1 nr1) (il_cons (I_fValidX (n := 6) (r := r2) (d := false) ⟨⟨rfl, rfl, rfl⟩, trivial⟩ c2 lr2 nr2) il_nil)))
          ol_nil (by kernel_rfl) Tryz.func42 (by kernel_rfl) ⟨(rowN_isL (ns := [0, 3, 6]) (rs := [r0, r1, r2]) ⟨⟨rfl, rfl, rfl⟩, ⟨rfl, rfl, rfl⟩, ⟨rfl, rfl, rfl⟩, trivial⟩).2 h, trivial⟩).mono ?_
        rintro e w' ⟨v, rfl, h1, h2⟩
        have h1 : v = .bool _ := h1
        subst h1
        exact ⟨by simp [rawV, c0, c1, c2], h2⟩
    · refine (calls_runFn (ρ := frs (xvValidR2X r0 r1 r2) ++ [.val (.bool r0.s), .dig r0.L r0.p, .dig r0.N r0.q, .val (.bool r1.s), .dig r1.L r1.p, .dig r1.N r1.q, .val (.bool r2.s), .dig r2.L r2.p, .dig r2.N r2.q]) (w := w) (fuel := 300) (args := [rowN [0, 3, 6]]) (vs := [x]) (r := .v (.one (.b false)))
        (il_cons (I_fValidX (n := 0) (r := r0) (d := true) ⟨⟨rfl, rfl, rfl⟩, trivial⟩ c0 lr0 nr0) (il_cons (I_fValidX (n := 3) (r := r1) (d := false) ⟨⟨rfl, rfl, rfl⟩, trivial⟩ c1 lr1 nr1) il_nil))
        ol_nil (by kernel_rfl) Tryz.func42 (by kernel_rfl) ⟨(rowN_isL (ns := [0, 3, 6]) (rs := [r0, r1, r2]) ⟨⟨rfl, rfl, rfl⟩, ⟨rfl, rfl, rfl⟩, ⟨rfl, rfl, rfl⟩, trivial⟩).2 h, trivial⟩).mono ?_
      rintro e w' ⟨v, rfl, h1, h2⟩
      have h1 : v = .bool _ := h1
      subst h1
      exact ⟨by simp [rawV, c0, c1], h2⟩
  · refine (calls_runFn (ρ := frs (xvValidR3X r0 r1 r2) ++ [.val (.bool r0.s), .dig r0.L r0.p, .dig r0.N r0.q, .val (.bool r1.s), .dig r1.L r1.p, .dig r1.N r1.q, .val (.bool r2.s), .dig r2.L r2.p, .dig r2.N r2.q]) (w := w) (fuel := 300) (args := [rowN [0, 3, 6]]) (vs := [x]) (r := .v (.one (.b false)))
      (il_cons (I_fValidX (n := 0) (r := r0) (d := false) ⟨⟨rfl, rfl, rfl⟩, trivial⟩ c0 lr0 nr0) il_nil)
      ol_nil (by kernel_rfl) Tryz.func42 (by kernel_rfl) ⟨(rowN_isL (ns := [0, 3, 6]) (rs := [r0, r1, r2]) ⟨⟨rfl, rfl, rfl⟩, ⟨rfl, rfl, rfl⟩, ⟨rfl, rfl, rfl⟩, trivial⟩).2 h, trivial⟩).mono ?_
    rintro e w' ⟨v, rfl, h1, h2⟩
    have h1 : v = .bool _ := h1
    subst h1
    exact ⟨by simp [rawV, c0], h2⟩
theorem I_vValidR {xs : List Fq} {ys : Rho} {ns : List Nat} {r0 r1 r2 : Rq} {d : Bool} (hr : AtR (frs xs ++ ys) ns [r0, r1, r2]) (hd : rawV r0 r1 r2 = d) (lr0 : r0.L ≤ 1000000) (nr0 : r0.N ≤ 1000000) (lr1 : r1.L ≤ 1000000) (nr1 : r1.N ≤ 1000000) (lr2 : r2.L ≤ 1000000) (nr2 : r2.N ≤ 1000000) : OkI xs ys ⟨42, [rowN ns], .v (.one (.b d))⟩ :=
  ⟨enters Tryz.func42 rfl rfl, fun B w vs hB h => by
    match vs, h with
    | [x], h =>
      refine (q_vValidR x r0 r1 r2 w ((rowN_isL hr).1 h.1) lr0 nr0 lr1 nr1 lr2 nr2).mono ?_
      rintro e w' ⟨rfl, h2⟩
      exact ⟨_, rfl, by subst hd; rfl, h2⟩⟩
theorem I_fValidRB {xs : List Fq} {ys : Rho} {ns : List Nat} {r0 r1 r2 r3 : Rq} {d : Bool} (hr : AtR (frs xs ++ ys) ns [r0, r1, r2, r3]) (hd : rawQ r0 r1 r2 r3 = d) (lr0 : r0.L ≤ 1000000) (nr0 : r0.N ≤ 1000000) (lr1 : r1.L ≤ 1000000) (nr1 : r1.N ≤ 1000000) (lr2 : r2.L ≤ 1000000) (nr2 : r2.N ≤ 1000000) (lr3 : r3.L ≤ 1000000) (nr3 : r3.N ≤ 1000000) : OkI xs ys ⟨41, [rowN ns], .v (.one (.b d))⟩ :=
  ⟨enters Tryz.func41 rfl rfl, fun B w vs hB h => by
    match vs, h with
    | [va], h =>
      refine (q_fValidR4 va r0 r1 r2 r3 w ((rowN_isL hr).1 h.1) lr0 nr0 lr1 nr1 lr2 nr2 lr3 nr3).mono ?_
      rintro e w' ⟨rfl, h2⟩
      exact ⟨_, rfl, by subst hd; rfl, h2⟩⟩
def xpoValidR0X (r0 r1 r2 r3 r4 r5 r6 : Rq) : List Fq := []
def xpoValidR1X (r0 r1 r2 r3 r4 r5 r6 : Rq) : List Fq := []
def xpoValidR2X (r0 r1 r2 r3 r4 r5 r6 : Rq) : List Fq := []
theorem q_poValidR (x : Value) (r0 r1 r2 r3 r4 r5 r6 : Rq) (w : World) (h : IsL w x [r0, r1, r2, r3, r4, r5, r6]) (lr0 : r0.L ≤ 1000000) (nr0 : r0.N ≤ 1000000) (lr1 : r1.L ≤ 1000000) (nr1 : r1.N ≤ 1000000) (lr2 : r2.L ≤ 1000000) (nr2 : r2.N ≤ 1000000) (lr3 : r3.L ≤ 1000000) (nr3 : r3.N ≤ 1000000) (lr4 : r4.L ≤ 1000000) (nr4 : r4.N ≤ 1000000) (lr5 : r5.L ≤ 1000000) (nr5 : r5.N ≤ 1000000) (lr6 : r6.L ≤ 1000000) (nr6 : r6.N ≤ 1000000) : Calls Tryz.prog 11 #[x] w fun e w' => RetV w (.bool (rawO r0 r1 r2 r3 r4 r5 r6)) e w' := by
  rcases Bool.eq_false_or_eq_true (rawQ r0 r1 r2 r3) with c0 | c0
  · rcases Bool.eq_false_or_eq_true (rawV r4 r5 r6) with c1 | c1
    · refine (calls_runFn (ρ := frs (xpoValidR0X r0 r1 r2 r3 r4 r5 r6) ++ [.val (.bool r0.s), .dig r0.L r0.p, .dig r0.N r0.q, .val (.bool r1.s), .dig r1.L r1.p, .dig r1.N r1.q, .val (.bool r2.s), .dig r2.L r2.p, .dig r2.N r2.q, .val (.bool r3.s), .dig r3.L r3.p, .dig r3.N r3.q, .val (.bool r4.s), .dig r4.L r4.p, .dig r4.N r4.q, .val (.bool r5.s), .dig r5.L r5.p, .dig r5.N r5.q, .val (.bool r6.s), .dig r6.L r6.p, .dig r6.N r6.q]) (w := w) (fuel := 300) (args := [rowN [0, 3, 6, 9, 12, 15, 18]]) (vs := [x]) (r := .v (.one (.b true)))
        (il_cons (I_fValidRB (ns := [0, 3, 6, 9]) (d := true) ⟨⟨rfl, rfl, rfl⟩, ⟨rfl, rfl, rfl⟩, ⟨rfl, rfl, rfl⟩, ⟨rfl, rfl, rfl⟩, trivial⟩ c0 lr0 nr0 lr1 nr1 lr2 nr2 lr3 nr3) (il_cons (I_vValidR (ns := [12, 15, 18]) (d := true) ⟨⟨rfl, rfl, rfl⟩, ⟨rfl, rfl, rfl⟩, ⟨rfl, rfl, rfl⟩, trivial⟩ c1 lr4 nr4 lr5 nr5 lr6 nr6) il_nil))
        ol_nil (by kernel_rfl) Tryz.func11 (by kernel_rfl) ⟨(rowN_isL (ns := [0, 3, 6, 9, 12, 15, 18]) (rs := [r0, r1, r2, r3, r4, r5, r6]) ⟨⟨rfl, rfl, rfl⟩, ⟨rfl, rfl, rfl⟩, ⟨rfl, rfl, rfl⟩, ⟨rfl, rfl, rfl⟩, ⟨rfl, rfl, rfl⟩, ⟨rfl, rfl, rfl⟩, ⟨rfl, rfl, rfl⟩, trivial⟩).2 h, trivial⟩).mono ?_
      rintro e w' ⟨v, rfl, h1, h2⟩
      have h1 : v = .bool _ := h1
      subst h1
      exact ⟨by simp [rawO, c0, c1], h2⟩
    · refine (calls_runFn (ρ := frs (xpoValidR1X r0 r1 r2 r3 r4 r5 r6) ++ [.val (.bool r0.s), .dig r0.L r0.p, .dig r0.N r0.q, .val (.bool r1.s), .dig r1.L r1.p, .dig r1.N r1.q, .val (.bool r2.s), .dig r2.L r2.p, .dig r2.N r2.q, .val (.bool r3.s), .dig r3.L r3.p, .dig r3.N r3.q, .val (.bool r4.s), .dig r4.L r4.p, .dig r4.N r4.q, .val (.bool r5.s), .dig r5.L r5.p, .dig r5.N r5.q, .val (.bool r6.s), .dig r6.L r6.p, .dig r6.N r6.q]) (w := w) (fuel := 300) (args := [rowN [0, 3, 6, 9, 12, 15, 18]]) (vs := [x]) (r := .v (.one (.b false)))
        (il_cons (I_fValidRB (ns := [0, 3, 6, 9]) (d := true) ⟨⟨rfl, rfl, rfl⟩, ⟨rfl, rfl, rfl⟩, ⟨rfl, rfl, rfl⟩, ⟨rfl, rfl, rfl⟩, trivial⟩ c0 lr0 nr0 lr1 nr1 lr2 nr2 lr3 nr3) (il_cons (I_vValidR (ns := [12, 15, 18]) (d := false) ⟨⟨rfl, rfl, rfl⟩, ⟨rfl, rfl, rfl⟩, ⟨rfl, rfl, rfl⟩, trivial⟩ c1 lr4 nr4 lr5 nr5 lr6 nr6) il_nil))
        ol_nil (by kernel_rfl) Tryz.func11 (by kernel_rfl) ⟨(rowN_isL (ns := [0, 3, 6, 9, 12, 15, 18]) (rs := [r0, r1, r2, r3, r4, r5, r6]) ⟨⟨rfl, rfl, rfl⟩, ⟨rfl, rfl, rfl⟩, ⟨rfl, rfl, rfl⟩, ⟨rfl, rfl, rfl⟩, ⟨rfl, rfl, rfl⟩, ⟨rfl, rfl, rfl⟩, ⟨rfl, rfl, rfl⟩, trivial⟩).2 h, trivial⟩).mono ?_
      rintro e w' ⟨v, rfl, h1, h2⟩
      have h1 : v = .bool _ := h1
      subst h1
      exact ⟨by simp [rawO, c0, c1], h2⟩
  · refine (calls_runFn (ρ := frs (xpoValidR2X r0 r1 r2 r3 r4 r5 r6) ++ [.val (.bool r0.s), .dig r0.L r0.p, .dig r0.N r0.q, .val (.bool r1.s), .dig r1.L r1.p, .dig r1.N r1.q, .val (.bool r2.s), .dig r2.L r2.p, .dig r2.N r2.q, .val (.bool r3.s), .dig r3.L r3.p, .dig r3.N r3.q, .val (.bool r4.s), .dig r4.L r4.p, .dig r4.N r4.q, .val (.bool r5.s), .dig r5.L r5.p, .dig r5.N r5.q, .val (.bool r6.s), .dig r6.L r6.p, .dig r6.N r6.q]) (w := w) (fuel := 300) (args := [rowN [0, 3, 6, 9, 12, 15, 18]]) (vs := [x]) (r := .v (.one (.b false)))
      (il_cons (I_fValidRB (ns := [0, 3, 6, 9]) (d := false) ⟨⟨rfl, rfl, rfl⟩, ⟨rfl, rfl, rfl⟩, ⟨rfl, rfl, rfl⟩, ⟨rfl, rfl, rfl⟩, trivial⟩ c0 lr0 nr0 lr1 nr1 lr2 nr2 lr3 nr3) il_nil)
      ol_nil (by kernel_rfl) Tryz.func11 (by kernel_rfl) ⟨(rowN_isL (ns := [0, 3, 6, 9, 12, 15, 18]) (rs := [r0, r1, r2, r3, r4, r5, r6]) ⟨⟨rfl, rfl, rfl⟩, ⟨rfl, rfl, rfl⟩, ⟨rfl, rfl, rfl⟩, ⟨rfl, rfl, rfl⟩, ⟨rfl, rfl, rfl⟩, ⟨rfl, rfl, rfl⟩, ⟨rfl, rfl, rfl⟩, trivial⟩).2 h, trivial⟩).mono ?_
    rintro e w' ⟨v, rfl, h1, h2⟩
    have h1 : v = .bool _ := h1
    subst h1
    exact ⟨by simp [rawO, c0], h2⟩
end Go.Proofs.YthebfmlfgfmlnaaGreatDoor
namespace Go.Proofs.YthebfmlfgfmlnaaGreatDoor
set_option linter.unusedSimpArgs false
set_option linter.unusedVariables false
set_option maxRecDepth 100000
open Go.RowKit
def VR.add (a b : VR) : VR := ⟨a.x + b.x, a.y + b.y, a.z + b.z⟩
def VR.sub (a b : VR) : VR := ⟨a.x - b.x, a.y - b.y, a.z - b.z⟩
theorem VR.app_add (q : QR) (u v : VR) : q.app (u.add v) = (q.app u).add (q.app v) := by unfold QR.app QR.rot VR.add VR.smul; ext <;> simp only <;> grind
theorem VR.app_sub (q : QR) (u v : VR) : q.app (u.sub v) = (q.app u).sub (q.app v) := by unfold QR.app QR.rot VR.sub VR.smul; ext <;> simp only <;> grind
section
variable {p q : Qq} {x y v u : Vq} {a b c : Pq}
theorem add_r (hx : x.good) (hy : y.good) : (x.add y).r = x.r.add y.r := by
  have h := add_v hx hy
  unfold VR.add Vq.r; ext <;> simp only [h]
theorem sub_r (hx : x.good) (hy : y.good) : (x.sub y).r = x.r.sub y.r := by
  have h := sub_v hx hy
  unfold VR.sub Vq.r; ext <;> simp only [h]
theorem r_add (h : q.good) (hx : x.good) (hy : y.good) : q.app (x.add y) = (q.app x).add (q.app y) :=
  Vq.inj_r (app_good h (hx.add hy)) ((app_good h hx).add (app_good h hy)) (by
    rw [app_r h (hx.add hy), add_r hx hy, VR.app_add, add_r (app_good h hx) (app_good h hy), app_r h hx, app_r h hy])
theorem r_sub (h : q.good) (hx : x.good) (hy : y.good) : q.app (x.sub y) = (q.app x).sub (q.app y) :=
  Vq.inj_r (app_good h (hx.sub hy)) ((app_good h hx).sub (app_good h hy)) (by
    rw [app_r h (hx.sub hy), sub_r hx hy, VR.app_sub, sub_r (app_good h hx) (app_good h hy), app_r h hx, app_r h hy])
theorem r_id (hx : x.good) : Qq.id.app x = x := Vq.inj_r (app_good id_good hx) hx (by rw [app_r id_good hx, id_r, app_one])
theorem v_opp (hx : x.good) : x.add (x.scale (Fq.ofInt (-1))) = Vq.of 0 0 0 := by
  have h1 := scale_v hx (ofInt_valid (-1))
  have h2 := add_v hx (hx.scale (ofInt_valid (-1)))
  have h3 := of_v 0 0 0
  have h4 := v_ofInt (-1)
  exact Vq.inj (hx.add (hx.scale (ofInt_valid _))) (Vq.good.of 0 0 0) (by grind) (by grind) (by grind)
theorem r_zero (h : q.good) : q.app (Vq.of 0 0 0) = Vq.of 0 0 0 := by
  have g := Vq.good.of 0 0 0
  have h1 := r_add h g g
  rw [s_zero g] at h1
  have h2 := s_back (app_good h g) (app_good h g)
  rw [← h1] at h2
  have h3 := sub_v (app_good h g) (app_good h g)
  have h4 := of_v 0 0 0
  rw [← h2]
  exact Vq.inj ((app_good h g).sub (app_good h g)) g (by grind) (by grind) (by grind)
theorem r_forth (h : q.good) (hx : x.good) : q.app (q.inv.app x) = x := by rw [← r_mul h (inv_good h) hx, g_inv h, r_id hx]
theorem s_zero' (hx : x.good) : (Vq.of 0 0 0).add x = x := by rw [s_comm (Vq.good.of 0 0 0) hx, s_zero hx]
theorem Pq.ext' (h : a.rot = b.rot) (k : a.pos = b.pos) : a = b := by cases a; cases b; simp only at h k; subst h; subst k; rfl
theorem conj_m (a : QR) (h : a.nrm ≠ 0) : Sim QR.one (a.conj.mul a) := ⟨a.nrm, h, by unfold QR.mul QR.conj QR.one QR.smul QR.nrm; ext <;> simp only <;> grind⟩
theorem g_inv' (h : q.good) : q.inv.mul q = Qq.id := by
  refine good_inj (mul_good (inv_good h) h) id_good ?_
  have h1 := (mul_sim (inv_good h) h).symm.trans (((inv_sim h).symm).mul (Sim.refl q.r))
  rw [id_r]
  exact h1.trans (conj_m q.r (good_nrm h)).symm
-- the action
theorem o_act (ga : a.good) (gb : b.good) (gv : v.good) : (a.mul b).app v = a.app (b.app v) := by
  show ((a.rot.mul b.rot).app v).add ((a.rot.app b.pos).add a.pos) = (a.rot.app ((b.rot.app v).add b.pos)).add a.pos
  rw [r_mul ga.rot gb.rot gv, r_add ga.rot (app_good gb.rot gv) gb.pos, s_assoc (app_good ga.rot (app_good gb.rot gv)) (app_good ga.rot gb.pos) ga.pos]
theorem o_assoc (ga : a.good) (gb : b.good) (gc : c.good) : (a.mul b).mul c = a.mul (b.mul c) :=
  Pq.ext' (g_assoc ga.rot gb.rot gc.rot) (o_act ga gb gc.pos)
theorem o_idv (gv : v.good) : Pq.id.app v = v := by
  show (Qq.id.app v).add (Vq.of 0 0 0) = v
  rw [r_id gv, s_zero gv]
theorem o_one (ga : a.good) : a.mul Pq.id = a := Pq.ext' (g_one ga.rot) (by
  show (a.rot.app (Vq.of 0 0 0)).add a.pos = a.pos
  rw [r_zero ga.rot, s_zero' ga.pos])
theorem o_one' (ga : a.good) : Pq.id.mul a = a := Pq.ext' (g_one' ga.rot) (o_idv ga.pos)
theorem o_inv (ga : a.good) : a.mul a.inv = Pq.id := Pq.ext' (g_inv ga.rot) (by
  show (a.rot.app (a.rot.inv.app (a.pos.scale (Fq.ofInt (-1))))).add a.pos = Vq.of 0 0 0
  have g := ga.pos.scale (ofInt_valid (-1))
  rw [r_forth ga.rot g, s_comm g ga.pos, v_opp ga.pos])
theorem o_undo (ga : a.good) (gv : v.good) : a.inv.app (a.app v) = v := by
  show (a.rot.inv.app ((a.rot.app v).add a.pos)).add (a.rot.inv.app (a.pos.scale (Fq.ofInt (-1)))) = v
  have g := ga.pos.scale (ofInt_valid (-1))
  have gi := inv_good ga.rot
  rw [r_add gi (app_good ga.rot gv) ga.pos, s_assoc (app_good gi (app_good ga.rot gv)) (app_good gi ga.pos) (app_good gi g), ← r_add gi ga.pos g, v_opp ga.pos, r_zero gi, r_back ga.rot gv, s_zero gv]
theorem o_inv' (ga : a.good) : a.inv.mul a = Pq.id := Pq.ext' (g_inv' ga.rot) (by
  show (a.rot.inv.app a.pos).add (a.rot.inv.app (a.pos.scale (Fq.ofInt (-1)))) = Vq.of 0 0 0
  have g := ga.pos.scale (ofInt_valid (-1))
  have gi := inv_good ga.rot
  rw [← r_add gi ga.pos g, v_opp ga.pos, r_zero gi])
theorem o_rigid (ga : a.good) (gu : u.good) (gv : v.good) : a.sq u v = (u.sub v).dot (u.sub v) := by
  have e : (a.app u).sub (a.app v) = a.rot.app (u.sub v) := by
    rw [r_sub ga.rot gu gv]
    have g1 := app_good ga.rot gu
    have g2 := app_good ga.rot gv
    have h1 := add_v g1 ga.pos
    have h2 := add_v g2 ga.pos
    have h3 := sub_v (g1.add ga.pos) (g2.add ga.pos)
    have h4 := sub_v g1 g2
    show ((a.rot.app u).add a.pos).sub ((a.rot.app v).add a.pos) = _
    exact Vq.inj ((g1.add ga.pos).sub (g2.add ga.pos)) (g1.sub g2) (by grind) (by grind) (by grind)
  unfold Pq.sq
  rw [e, r_dot ga.rot (gu.sub gv) (gu.sub gv)]
end
end Go.Proofs.YthebfmlfgfmlnaaGreatDoor
namespace Go.Proofs.YthebfmlfgfmlnaaGreatDoor
set_option linter.unusedSimpArgs false
set_option linter.unusedVariables false
set_option maxRecDepth 100000
open Go.RowKit
/-- The pose of the examples. -/
def Turn : Pq := ⟨⟨Fq.ofInt 1, Fq.ofInt 0, Fq.ofInt 0, Fq.ofInt 1⟩, Vq.of 1 2 3⟩
def Turn2 : Pq := ⟨⟨Fq.ofInt 0, Fq.ofInt 0, Fq.ofInt 0, Fq.ofInt 1⟩, Vq.of (-1) 3 6⟩
def TurnI : Pq := ⟨⟨Fq.ofInt 1, Fq.ofInt 0, Fq.ofInt 0, Fq.ofInt (-1)⟩, Vq.of (-2) 1 (-3)⟩
def Turn3 : Pq := ⟨⟨Fq.ofInt 2, Fq.ofInt 0, Fq.ofInt 0, Fq.ofInt 1⟩, Vq.of 1 2 3⟩
theorem ok_i {u : Int} (l : -9223372036854775808 ≤ u) (r : u < 9223372036854775808) : (Fq.ofInt u).ok 4 := (ok_int l r).mono (by decide)
theorem ok_Turn : Turn.ok 4 := ⟨⟨ok_i (by decide) (by decide), ok_i (by decide) (by decide), ok_i (by decide) (by decide), ok_i (by decide) (by decide)⟩, ⟨ok_i (by decide) (by decide), ok_i (by decide) (by decide), ok_i (by decide) (by decide)⟩⟩
theorem ok_Turn2 : Turn2.ok 4 := ⟨⟨ok_i (by decide) (by decide), ok_i (by decide) (by decide), ok_i (by decide) (by decide), ok_i (by decide) (by decide)⟩, ⟨ok_i (by decide) (by decide), ok_i (by decide) (by decide), ok_i (by decide) (by decide)⟩⟩
theorem ok_TurnI : TurnI.ok 4 := ⟨⟨ok_i (by decide) (by decide), ok_i (by decide) (by decide), ok_i (by decide) (by decide), ok_i (by decide) (by decide)⟩, ⟨ok_i (by decide) (by decide), ok_i (by decide) (by decide), ok_i (by decide) (by decide)⟩⟩
theorem ok_Turn3 : Turn3.ok 4 := ⟨⟨ok_i (by decide) (by decide), ok_i (by decide) (by decide), ok_i (by decide) (by decide), ok_i (by decide) (by decide)⟩, ⟨ok_i (by decide) (by decide), ok_i (by decide) (by decide), ok_i (by decide) (by decide)⟩⟩
theorem good_Turn : Turn.good := ⟨good_of ⟨ofInt_valid _, ofInt_valid _, ofInt_valid _, ofInt_valid _⟩ rfl, Vq.good.of 1 2 3⟩
theorem fm0 : (Fq.ofInt 0).fmt = ByteArray.mk #[48] := by show fmtB 0 = _; unfold fmtB; rw [if_pos rfl]
theorem fm1 : (Fq.ofInt 1).fmt = ByteArray.mk #[49] := by show fmtB 1 = _; unfold fmtB; rw [if_neg (by decide)]; decide +kernel
theorem fm2 : (Fq.ofInt 2).fmt = ByteArray.mk #[50] := by show fmtB 2 = _; unfold fmtB; rw [if_neg (by decide)]; decide +kernel
theorem fm3 : (Fq.ofInt 3).fmt = ByteArray.mk #[51] := by show fmtB 3 = _; unfold fmtB; rw [if_neg (by decide)]; decide +kernel
theorem fm6 : (Fq.ofInt 6).fmt = ByteArray.mk #[54] := by show fmtB 6 = _; unfold fmtB; rw [if_neg (by decide)]; decide +kernel
theorem fmm1 : (Fq.ofInt (-1)).fmt = ByteArray.mk #[45, 49] := by show ({ data := #[45] } : ByteArray) ++ fmtB 1 = _; unfold fmtB; rw [if_neg (by decide)]; decide +kernel
theorem fmm2 : (Fq.ofInt (-2)).fmt = ByteArray.mk #[45, 50] := by show ({ data := #[45] } : ByteArray) ++ fmtB 2 = _; unfold fmtB; rw [if_neg (by decide)]; decide +kernel
theorem fmm3 : (Fq.ofInt (-3)).fmt = ByteArray.mk #[45, 51] := by show ({ data := #[45] } : ByteArray) ++ fmtB 3 = _; unfold fmtB; rw [if_neg (by decide)]; decide +kernel
def tB : ByteArray := ByteArray.mk #[49, 32, 48, 32, 48, 32, 49, 32, 49, 32, 50, 32, 51]
def t2B : ByteArray := ByteArray.mk #[48, 32, 48, 32, 48, 32, 49, 32, 45, 49, 32, 51, 32, 54]
def tIB : ByteArray := ByteArray.mk #[49, 32, 48, 32, 48, 32, 45, 49, 32, 45, 50, 32, 49, 32, 45, 51]
def tSB : ByteArray := ByteArray.mk #[49, 32, 48, 32, 48, 32, 49, 32, 49, 32, 50]
def t3B : ByteArray := ByteArray.mk #[50, 32, 48, 32, 48, 32, 49, 32, 49, 32, 50, 32, 51]
theorem tx : Turn.text = tB := by
  show joinB [(Fq.ofInt 1).fmt, (Fq.ofInt 0).fmt, (Fq.ofInt 0).fmt, (Fq.ofInt 1).fmt, (Fq.ofInt 1).fmt, (Fq.ofInt 2).fmt, (Fq.ofInt 3).fmt] = _
  rw [fm0, fm1, fm2, fm3]; decide +kernel
theorem m2 : Turn.mul Turn = Turn2 := Pq.ext' (Qq.same_iff.1 (by decide +kernel)) (Vq.same_iff.1 (by decide +kernel))
theorem mI : Turn.inv = TurnI := Pq.ext' (Qq.same_iff.1 (by decide +kernel)) (Vq.same_iff.1 (by decide +kernel))
theorem tx2 : (Turn.mul Turn).text = t2B := by
  rw [m2]
  show joinB [(Fq.ofInt 0).fmt, (Fq.ofInt 0).fmt, (Fq.ofInt 0).fmt, (Fq.ofInt 1).fmt, (Fq.ofInt (-1)).fmt, (Fq.ofInt 3).fmt, (Fq.ofInt 6).fmt] = _
  rw [fm0, fm1, fmm1, fm3, fm6]; decide +kernel
theorem txI : Turn.inv.text = tIB := by
  rw [mI]
  show joinB [(Fq.ofInt 1).fmt, (Fq.ofInt 0).fmt, (Fq.ofInt 0).fmt, (Fq.ofInt (-1)).fmt, (Fq.ofInt (-2)).fmt, (Fq.ofInt 1).fmt, (Fq.ofInt (-3)).fmt] = _
  rw [fm0, fm1, fmm1, fmm2, fmm3]; decide +kernel
theorem pdT : PD tB Turn 0 := by rw [← tx]; exact pd_text good_Turn (ok_Turn.mono (by decide))
theorem pdS : PD tSB .zero 2 := .form (by decide +kernel)
theorem pd3 : PD t3B .zero 4 := by
  have f : ∀ {x : Fq}, x.valid = true → x.ok 4 → FP x.fmt x 0 := fun h1 h2 => fmt_fp h1 (Nat.le_trans h2.p (by decide)) (Nat.le_trans h2.q (by decide))
  have e : parts t3B = [(Fq.ofInt 2).fmt, (Fq.ofInt 0).fmt, (Fq.ofInt 0).fmt, (Fq.ofInt 1).fmt, (Fq.ofInt 1).fmt, (Fq.ofInt 2).fmt, (Fq.ofInt 3).fmt] := by rw [fm0, fm1, fm2, fm3]; decide +kernel
  exact .range e (f (ofInt_valid _) ok_Turn3.rot.w) (f (ofInt_valid _) ok_Turn3.rot.x) (f (ofInt_valid _) ok_Turn3.rot.y) (f (ofInt_valid _) ok_Turn3.rot.z) (f (ofInt_valid _) ok_Turn3.pos.x) (f (ofInt_valid _) ok_Turn3.pos.y) (f (ofInt_valid _) ok_Turn3.pos.z) (fun h => absurd (Fq.same_iff.2 h) (by decide +kernel))
theorem o_eqSS {ρ : Rho} {t : TypeId} {s : ByteArray} : (OIns.mk (.bin .eql t) [.one (.s s), .one (.s s)] (.one (.b true))).Ok Tryz.prog ρ := fun B w vs hv => by
  match vs, hv with
  | [v1, v2], hv =>
    have e : v1 = .string s := hv.1
    have e2 : v2 = .string s := hv.2.1
    subst e; subst e2
    exact ⟨.bool true, rfl, fun xo yo => by simp [eqGuard, binOp, Op.stringOp, Sem.run_bind, Result.andThen]⟩
theorem o_eqSR {ρ : Rho} {t : TypeId} {s z : ByteArray} {n m : Nat} (hn : ρ[n]? = some (.val (.string s))) (hm : ρ[m]? = some (.val (.string z))) (h : s = z) : (OIns.mk (.bin .eql t) [.one (.ref n), .one (.ref m)] (.one (.b true))).Ok Tryz.prog ρ := fun B w vs hv => by
  match vs, hv with
  | [v1, v2], hv =>
    have e := leaf_val (B := B) hn hv.1
    have e2 := leaf_val (B := B) hm hv.2.1
    subst e; subst e2; subst h
    exact ⟨.bool true, rfl, fun xo yo => by simp [eqGuard, binOp, Op.stringOp, Sem.run_bind, Result.andThen]⟩
theorem lS {ρ : Rho} {a b : ByteArray} (h : a = b) : ∀ B w, (Leaf.s b).holds ρ B w (.string a) := fun _ _ => by subst h; rfl
theorem z7 : nl 0 ≤ 1000000 := by rw [nl_zero]; decide
theorem zvld : Fq.zero.raw.vld = false := by simp [Rq.vld, Fq.raw, Fq.zero, Fq.valid]
theorem I_poValidZ {xs : List Fq} {ys : Rho} : OkI xs ys ⟨11, [.agg [.b false, .sl0, .sl0, .b false, .sl0, .sl0, .b false, .sl0, .sl0, .b false, .sl0, .sl0, .b false, .sl0, .sl0, .b false, .sl0, .sl0, .b false, .sl0, .sl0]], .v (.one (.b false))⟩ :=
  ⟨enters Tryz.func11 rfl rfl, fun B w vs hB h => by
    match vs, h with
    | [x], h =>
      obtain ⟨cs, rfl, k⟩ := h.1
      have hz := zero_row (n := 7) k
      refine (q_poValidR (.agg cs.toArray) Fq.zero.raw Fq.zero.raw Fq.zero.raw Fq.zero.raw Fq.zero.raw Fq.zero.raw Fq.zero.raw w ⟨_, rfl, hz⟩ z7 z7 z7 z7 z7 z7 z7 z7 z7 z7 z7 z7 z7 z7).mono ?_
      rintro e w' ⟨rfl, h2⟩
      exact ⟨_, rfl, by rw [show rawO Fq.zero.raw Fq.zero.raw Fq.zero.raw Fq.zero.raw Fq.zero.raw Fq.zero.raw Fq.zero.raw = false from by unfold rawO rawQ; rw [show Fq.zero.raw.vld = false from zvld]; rfl]; rfl, h2⟩⟩
def xturnPX  : List Fq := [(Fq.ofInt 1), (Fq.ofInt 0), (Vq.of 1 2 3).x, (Vq.of 1 2 3).y, (Vq.of 1 2 3).z]
theorem q_turnP  (w : World)   :
    Calls Tryz.prog 39 #[] w fun e w' => RetOq w Turn e w' := by
  refine (calls_runFn (ρ := frs (xturnPX ) ++ []) (w := w) (fuel := 300) (args := []) (vs := []) (r := .v (row [0, 1, 1, 0, 2, 3, 4]))
    (il_cons (I_rInt (k := 0) rfl (by decide) (by decide)) (il_cons (I_rInt (k := 1) rfl (by decide) (by decide)) (il_cons (I_rO1_2_3 (kr := [2, 3, 4]) ⟨rfl, rfl, rfl, trivial⟩) il_nil)))
    ol_nil (by kernel_rfl) Tryz.func39 (by kernel_rfl) trivial).mono ?_
  rintro e w' ⟨v, rfl, h1, h2⟩
  exact ⟨v, rfl, (row_isL (xs := xturnPX ) (ks := [0, 1, 1, 0, 2, 3, 4]) (vs := [(Fq.ofInt 1), (Fq.ofInt 0), (Fq.ofInt 0), (Fq.ofInt 1), (Vq.of 1 2 3).x, (Vq.of 1 2 3).y, (Vq.of 1 2 3).z]) ⟨rfl, rfl, rfl, rfl, rfl, rfl, rfl, trivial⟩).1 h1, h2⟩
theorem I_turnP {xs : List Fq} {ys : Rho}   {kr : List Nat}  (ar : AtL xs kr [Turn.rot.w, Turn.rot.x, Turn.rot.y, Turn.rot.z, Turn.pos.x, Turn.pos.y, Turn.pos.z]) : OkI xs ys ⟨39, [], .v (row kr)⟩ :=
  ⟨enters Tryz.func39 rfl rfl, fun B w vs hB h => by
    match vs, h with
    | [], h =>
      refine (q_turnP w).mono ?_
      rintro e w' ⟨v, rfl, h1, h2⟩
      exact ⟨v, rfl, (row_isL ar).2 h1, h2⟩⟩
def xawakeX  : List Fq := [Turn.rot.w, Turn.rot.x, Turn.rot.y, Turn.rot.z, Turn.pos.x, Turn.pos.y, Turn.pos.z, Pq.zero.rot.w, Pq.zero.rot.x, Pq.zero.rot.y, Pq.zero.rot.z, Pq.zero.pos.x, Pq.zero.pos.y, Pq.zero.pos.z, (Vq.of 1 0 0).x, (Vq.of 1 0 0).y, (Vq.of 1 0 0).z, (Turn.app (Vq.of 1 0 0)).x, (Turn.app (Vq.of 1 0 0)).y, (Turn.app (Vq.of 1 0 0)).z, (Vq.of 1 3 3).x, (Vq.of 1 3 3).y, (Vq.of 1 3 3).z, (Turn.mul Turn).rot.w, (Turn.mul Turn).rot.x, (Turn.mul Turn).rot.y, (Turn.mul Turn).rot.z, (Turn.mul Turn).pos.x, (Turn.mul Turn).pos.y, (Turn.mul Turn).pos.z, Turn.inv.rot.w, Turn.inv.rot.x, Turn.inv.rot.y, Turn.inv.rot.z, Turn.inv.pos.x, Turn.inv.pos.y, Turn.inv.pos.z]
theorem q_awake  (w : World)   :
    Calls Tryz.prog 10 #[] w fun e w' => RetV w (.bool true) e w' := by
  refine (calls_runFn (ρ := frs (xawakeX ) ++ []) (w := w) (fuel := 300) (args := []) (vs := []) (r := .v (.one (.b true)))
    (il_cons (I_turnP (kr := [0, 1, 2, 3, 4, 5, 6]) ⟨rfl, rfl, rfl, rfl, rfl, rfl, rfl, trivial⟩) (il_cons (I_poDecode (l0 := .s tB) (s := tB) (kr := [0, 1, 2, 3, 4, 5, 6]) (fun _ _ _ h => h) ⟨rfl, rfl, rfl, rfl, rfl, rfl, rfl, trivial⟩ (li rfl) pdT (by decide)) (il_cons (I_poDecode (l0 := .s tSB) (s := tSB) (kr := [7, 8, 9, 10, 11, 12, 13]) (fun _ _ _ h => h) ⟨rfl, rfl, rfl, rfl, rfl, rfl, rfl, trivial⟩ (li rfl) pdS (by decide)) (il_cons (I_poDecode (l0 := .s t3B) (s := t3B) (kr := [7, 8, 9, 10, 11, 12, 13]) (fun _ _ _ h => h) ⟨rfl, rfl, rfl, rfl, rfl, rfl, rfl, trivial⟩ (li rfl) pd3 (by decide)) (il_cons (I_rO1_0_0 (kr := [14, 15, 16]) ⟨rfl, rfl, rfl, trivial⟩) (il_cons (I_poApp (ka := [0, 1, 2, 3, 4, 5, 6]) (a := Turn) (kx := [14, 15, 16]) (x := (Vq.of 1 0 0)) (kr := [17, 18, 19]) ⟨rfl, rfl, rfl, rfl, rfl, rfl, rfl, trivial⟩ ⟨rfl, rfl, rfl, trivial⟩ ⟨rfl, rfl, rfl, trivial⟩ (ok_Turn.mono (by decide)) ((ok_vof (by decide) (by decide) (by decide) (by decide) (by decide) (by decide)).mono (by decide)) good_Turn (Vq.good.of 1 0 0)) (il_cons (I_rO1_3_3 (kr := [20, 21, 22]) ⟨rfl, rfl, rfl, trivial⟩) (il_cons (I_r4Equal1 (ka := [17, 18, 19]) (a := (Turn.app (Vq.of 1 0 0))) (kb := [20, 21, 22]) (b := (Vq.of 1 3 3)) ⟨rfl, rfl, rfl, trivial⟩ ⟨rfl, rfl, rfl, trivial⟩ ((ok_Turn.app (ok_vof (by decide) (by decide) (by decide) (by decide) (by decide) (by decide)) good_Turn).mono (by decide)) ((ok_vof (by decide) (by decide) (by decide) (by decide) (by decide) (by decide)).mono (by decide)) (Vq.same_iff.1 (by decide +kernel))) (il_cons (I_poMul (ka := [0, 1, 2, 3, 4, 5, 6]) (a := Turn) (kb := [0, 1, 2, 3, 4, 5, 6]) (b := Turn) (kr := [23, 24, 25, 26, 27, 28, 29]) ⟨rfl, rfl, rfl, rfl, rfl, rfl, rfl, trivial⟩ ⟨rfl, rfl, rfl, rfl, rfl, rfl, rfl, trivial⟩ ⟨rfl, rfl, rfl, rfl, rfl, rfl, rfl, trivial⟩ (ok_Turn.mono (by decide)) (ok_Turn.mono (by decide)) good_Turn good_Turn) (il_cons (I_poEnc (ks := [23, 24, 25, 26, 27, 28, 29]) (a := (Turn.mul Turn)) ⟨rfl, rfl, rfl, rfl, rfl, rfl, rfl, trivial⟩ (lS tx2) (by rw [m2]; exact ok_Turn2.mono (by decide))) (il_cons (I_poInv (ka := [0, 1, 2, 3, 4, 5, 6]) (a := Turn) (kr := [30, 31, 32, 33, 34, 35, 36]) ⟨rfl, rfl, rfl, rfl, rfl, rfl, rfl, trivial⟩ ⟨rfl, rfl, rfl, rfl, rfl, rfl, rfl, trivial⟩ (ok_Turn.mono (by decide)) good_Turn) (il_cons (I_poEnc (ks := [30, 31, 32, 33, 34, 35, 36]) (a := Turn.inv) ⟨rfl, rfl, rfl, rfl, rfl, rfl, rfl, trivial⟩ (lS txI) (by rw [mI]; exact ok_TurnI.mono (by decide))) (il_cons (I_poEnc (ks := [0, 1, 2, 3, 4, 5, 6]) (a := Turn) ⟨rfl, rfl, rfl, rfl, rfl, rfl, rfl, trivial⟩ (lS tx) (ok_Turn.mono (by decide))) (il_cons (I_poEqual1 (ka := [0, 1, 2, 3, 4, 5, 6]) (a := Turn) (kb := [0, 1, 2, 3, 4, 5, 6]) (b := Turn) ⟨rfl, rfl, rfl, rfl, rfl, rfl, rfl, trivial⟩ ⟨rfl, rfl, rfl, rfl, rfl, rfl, rfl, trivial⟩ (ok_Turn.mono (by decide)) (ok_Turn.mono (by decide)) rfl good_Turn good_Turn) (il_cons (I_poValidZ) il_nil)))))))))))))))
    (ol_cons (o_eqSS (s := ByteArray.mk #[48, 32, 48, 32, 48, 32, 49, 32, 45, 49, 32, 51, 32, 54]) (t := 9)) (ol_cons (o_eqSS (s := ByteArray.mk #[49, 32, 48, 32, 48, 32, 45, 49, 32, 45, 50, 32, 49, 32, 45, 51]) (t := 9)) (ol_cons (o_eqSS (s := ByteArray.mk #[49, 32, 48, 32, 48, 32, 49, 32, 49, 32, 50, 32, 51]) (t := 9)) (ol_nil)))) (by kernel_rfl) Tryz.func10 (by kernel_rfl) trivial).mono ?_
  rintro e w' ⟨v, rfl, h1, h2⟩
  exact ⟨congrArg Ending.returned h1, h2⟩
theorem I_awake {xs : List Fq} {ys : Rho}      : OkI xs ys ⟨10, [], .v (.one (.b true))⟩ :=
  ⟨enters Tryz.func10 rfl rfl, fun B w vs hB h => by
    match vs, h with
    | [], h =>
      refine (q_awake w).mono ?_
      rintro e w' ⟨rfl, h2⟩
      exact ⟨_, rfl, rfl, h2⟩⟩
end Go.Proofs.YthebfmlfgfmlnaaGreatDoor
namespace Go.Proofs.YthebfmlfgfmlnaaGreatDoor
set_option linter.unusedSimpArgs false
set_option linter.unusedVariables false
set_option maxRecDepth 100000
open Go.RowKit
open Go.ChangeShapes Go.WideShapes Go.ChangeAt Go.RowKit
theorem digits_exist (f : Nat → Nat) (hf : ∀ j, f j < 4294967296) : ∀ L, ∃ N, N < 4294967296 ^ L ∧ ∀ j, j < L → D N j = f j
  | 0 => ⟨0, by simp, fun j h => by omega⟩
  | L + 1 => by
    obtain ⟨N, h1, h2⟩ := digits_exist f hf L
    refine ⟨upd N L (f L), upd_lt (Nat.lt_of_lt_of_le h1 (Nat.pow_le_pow_right (by decide) (Nat.le_succ L))) (Nat.lt_succ_self L) (hf L), fun j hj => ?_⟩
    by_cases e : j = L
    · subst e; exact D_upd_same N j (f j) (hf j)
    · rw [D_upd_other N L (f L) j (hf L) e]; exact h2 j (by omega)
end Go.Proofs.YthebfmlfgfmlnaaGreatDoor
namespace Go.Proofs.YthebfmlfgfmlnaaGreatDoor
set_option linter.unusedSimpArgs false
set_option linter.unusedVariables false
set_option maxRecDepth 100000
open Go.RowKit
open Go.ChangeShapes Go.WideShapes Go.ChangeAt Go.RowKit
section
variable {H : Type} {enc : TypeId × Value → H} {W : World}
theorem bulk_one (d : DataW H) : 1 ≤ Rows.uptoBulk d := by
  cases d with
  | lit l => cases l <;> simp [Rows.uptoBulk]
  | nil => simp [Rows.uptoBulk]
  | ptr d => simp [Rows.uptoBulk]
  | slice elems spare => simp [Rows.uptoBulk]
  | agg parts => simp [Rows.uptoBulk]
  | iface t d => simp [Rows.uptoBulk]
  | map entries => simp [Rows.uptoBulk]
  | held h => simp [Rows.uptoBulk]
theorem bulk_len : ∀ l : List (DataW H), l.length ≤ Rows.uptoBulkAll l
  | [] => Nat.zero_le _
  | d :: l => by have := bulk_one d; have := bulk_len l; simp only [Rows.uptoBulkAll, List.length_cons]; omega
theorem open_natu {fuel : Nat} {u : Value} {x : DataW H × List MemPlace} (hf : DataW.trod enc Tryz.prog W 0 (fun _ => true) true fuel 24 [u] = some x) :
    ∃ a L cap m, u = .slice a L cap ∧ IsR W (.agg #[.slice a L cap]) L m ∧ L ≤ Rows.uptoBulk x.1 := by
  obtain ⟨y0, n, hy, hl0, h1⟩ := trod_struct1 Tryz.underlying24 hf
  have hc2 : Tryz.prog.cellsOf 22 = 1 := by kernel_rfl
  simp [hc2] at h1
  rcases open_ints Tryz.underlying22 Tryz.underlying37 (by kernel_rfl) h1 with ⟨hcs, _⟩ | ⟨x', l, c, zs, hcs, _, hl, hm, hz, hx0, hcell, hwz⟩
  · simp at hcs
    subst hcs
    exact ⟨none, 0, 0, 0, rfl, ⟨none, 0, rfl, Nat.le_refl _, by simp, fun h => by omega⟩, Nat.zero_le _⟩
  · simp at hcs
    subst hcs
    obtain ⟨N, hN, hD⟩ := digits_exist (fun j => (zs.getD j 0).toNat) (fun j => by
      have := range_u32 hwz j
      have e : zs.getD j 0 = zs[j]?.getD 0 := by simp
      rw [e]; omega) l
    refine ⟨some x', l, c, N, rfl, ⟨some x', c, rfl, hl, hN, fun h0 => ?_⟩, ?_⟩
    · obtain ⟨b, off, spot⟩ := x'
      have hc0 := hcell 0 (by rw [hz]; simp; omega)
      have hspot : spot = none := by simpa [Addr.add] using World.cell?_spot hc0
      subst hspot
      refine ⟨b, off, rfl, fun j hj => ?_⟩
      have h2 := hcell j (by rw [hz]; simp; omega)
      have hadd : (⟨b, off, none⟩ : Addr).add j = ⟨b, off + j, none⟩ := by unfold Addr.add; split <;> simp_all
      rw [hadd] at h2
      rw [h2, hD j hj]
      have := range_u32 hwz j
      have e : zs.getD j 0 = zs[j]?.getD 0 := by simp
      rw [e, Int.toNat_of_nonneg this.1]
    · have h4 : (lits (H := H) .u32 (zs.take l)).length = l := by
        simp only [lits, List.length_map, List.length_take]
        have : l ≤ zs.length := by rw [hz]; simp; omega
        omega
      have h5 := bulk_len (lits (H := H) .u32 (zs.take l))
      rw [hy]
      simp only [Rows.uptoBulk, Rows.uptoBulkAll, hx0]
      omega
theorem open_fracu {fuel : Nat} {u0 u1 u2 : Value} {x : DataW H × List MemPlace} (hf : DataW.trod enc Tryz.prog W 0 (fun _ => true) true fuel 26 [u0, u1, u2] = some x) :
    ∃ (r : Rq) (a b : Option Addr) (c d : Nat), u0 = .bool r.s ∧ u1 = .slice a r.L c ∧ u2 = .slice b r.N d ∧ IsR W (.agg #[.slice a r.L c]) r.L r.p ∧ IsR W (.agg #[.slice b r.N d]) r.N r.q ∧ r.L ≤ Rows.uptoBulk x.1 ∧ r.N ≤ Rows.uptoBulk x.1 := by
  have hcn : Tryz.prog.cellsOf 24 = 1 := by kernel_rfl
  have hcb : Tryz.prog.cellsOf 4 = 1 := by kernel_rfl
  obtain ⟨y0, y1, y2, n, hy, hl0, h0, h1, h2⟩ := Go.Deep.trod_struct3 Tryz.underlying26 hf
  simp [hcn, hcb] at h0 h1 h2
  obtain ⟨s, h3, _⟩ := DataW.trod_bool Tryz.underlying4 h0
  obtain rfl : u0 = .bool s := by simpa using h3
  obtain ⟨a, L, c, m, rfl, i1, l1⟩ := open_natu h1
  obtain ⟨a', N, c', k, rfl, i2, l2⟩ := open_natu h2
  have hk : Rows.uptoBulk y1.1 ≤ Rows.uptoBulk x.1 ∧ Rows.uptoBulk y2.1 ≤ Rows.uptoBulk x.1 := by rw [hy]; simp only [Rows.uptoBulk, Rows.uptoBulkAll]; omega
  exact ⟨⟨s, L, m, N, k⟩, a, a', c, c', rfl, rfl, rfl, i1, i2, Nat.le_trans l1 hk.1, Nat.le_trans l2 hk.2⟩
theorem open_quatu {fuel : Nat} {l : List Value} {x : DataW H × List MemPlace} (hl : l.length = 12) (hf : DataW.trod enc Tryz.prog W 0 (fun _ => true) true fuel 28 l = some x) :
    ∃ r0 r1 r2 r3 : Rq, CellsR W [r0, r1, r2, r3] l ∧ (r0.L ≤ Rows.uptoBulk x.1 ∧ r0.N ≤ Rows.uptoBulk x.1) ∧ (r1.L ≤ Rows.uptoBulk x.1 ∧ r1.N ≤ Rows.uptoBulk x.1) ∧ (r2.L ≤ Rows.uptoBulk x.1 ∧ r2.N ≤ Rows.uptoBulk x.1) ∧ (r3.L ≤ Rows.uptoBulk x.1 ∧ r3.N ≤ Rows.uptoBulk x.1) := by
  have hcf : Tryz.prog.cellsOf 26 = 3 := by kernel_rfl
  match l, hl with
  | [u0, u1, u2, u3, u4, u5, u6, u7, u8, u9, u10, u11], _ =>
    obtain ⟨xs, n, _, hx, _, hlen, hg⟩ := DataW.trod_struct Tryz.underlying28 hf
    match xs, hlen with
    | [y0, y1, y2, y3], _ =>
      have h0 := hg 0 _ rfl
      have h1 := hg 1 _ rfl
      have h2 := hg 2 _ rfl
      have h3 := hg 3 _ rfl
      simp [Value.cells, hcf] at h0 h1 h2 h3
      obtain ⟨r0, a0, b0, c0, d0, rfl, rfl, rfl, i0, j0, s0, t0⟩ := open_fracu h0
      obtain ⟨r1, a1, b1, c1, d1, rfl, rfl, rfl, i1, j1, s1, t1⟩ := open_fracu h1
      obtain ⟨r2, a2, b2, c2, d2, rfl, rfl, rfl, i2, j2, s2, t2⟩ := open_fracu h2
      obtain ⟨r3, a3, b3, c3, d3, rfl, rfl, rfl, i3, j3, s3, t3⟩ := open_fracu h3
      have hb : x.1 = _ := congrArg Prod.fst hx
      simp only [List.map_cons, List.map_nil] at hb
      have hk : Rows.uptoBulk y0.1 ≤ Rows.uptoBulk x.1 ∧ Rows.uptoBulk y1.1 ≤ Rows.uptoBulk x.1 ∧ Rows.uptoBulk y2.1 ≤ Rows.uptoBulk x.1 ∧ Rows.uptoBulk y3.1 ≤ Rows.uptoBulk x.1 := by rw [hb]; simp only [Rows.uptoBulk, Rows.uptoBulkAll]; omega
      exact ⟨r0, r1, r2, r3, ⟨a0, c0, b0, d0, _, rfl, i0, j0, a1, c1, b1, d1, _, rfl, i1, j1, a2, c2, b2, d2, _, rfl, i2, j2, a3, c3, b3, d3, _, rfl, i3, j3, rfl⟩, ⟨by omega, by omega⟩, ⟨by omega, by omega⟩, ⟨by omega, by omega⟩, ⟨by omega, by omega⟩⟩
theorem open_vecu {fuel : Nat} {l : List Value} {x : DataW H × List MemPlace} (hl : l.length = 9) (hf : DataW.trod enc Tryz.prog W 0 (fun _ => true) true fuel 30 l = some x) :
    ∃ r0 r1 r2 : Rq, CellsR W [r0, r1, r2] l ∧ (r0.L ≤ Rows.uptoBulk x.1 ∧ r0.N ≤ Rows.uptoBulk x.1) ∧ (r1.L ≤ Rows.uptoBulk x.1 ∧ r1.N ≤ Rows.uptoBulk x.1) ∧ (r2.L ≤ Rows.uptoBulk x.1 ∧ r2.N ≤ Rows.uptoBulk x.1) := by
  have hcf : Tryz.prog.cellsOf 26 = 3 := by kernel_rfl
  match l, hl with
  | [u0, u1, u2, u3, u4, u5, u6, u7, u8], _ =>
    obtain ⟨xs, n, _, hx, _, hlen, hg⟩ := DataW.trod_struct Tryz.underlying30 hf
    match xs, hlen with
    | [y0, y1, y2], _ =>
      have h0 := hg 0 _ rfl
      have h1 := hg 1 _ rfl
      have h2 := hg 2 _ rfl
      simp [Value.cells, hcf] at h0 h1 h2
      obtain ⟨r0, a0, b0, c0, d0, rfl, rfl, rfl, i0, j0, s0, t0⟩ := open_fracu h0
      obtain ⟨r1, a1, b1, c1, d1, rfl, rfl, rfl, i1, j1, s1, t1⟩ := open_fracu h1
      obtain ⟨r2, a2, b2, c2, d2, rfl, rfl, rfl, i2, j2, s2, t2⟩ := open_fracu h2
      have hb : x.1 = _ := congrArg Prod.fst hx
      simp only [List.map_cons, List.map_nil] at hb
      have hk : Rows.uptoBulk y0.1 ≤ Rows.uptoBulk x.1 ∧ Rows.uptoBulk y1.1 ≤ Rows.uptoBulk x.1 ∧ Rows.uptoBulk y2.1 ≤ Rows.uptoBulk x.1 := by rw [hb]; simp only [Rows.uptoBulk, Rows.uptoBulkAll]; omega
      exact ⟨r0, r1, r2, ⟨a0, c0, b0, d0, _, rfl, i0, j0, a1, c1, b1, d1, _, rfl, i1, j1, a2, c2, b2, d2, _, rfl, i2, j2, rfl⟩, ⟨by omega, by omega⟩, ⟨by omega, by omega⟩, ⟨by omega, by omega⟩⟩
theorem open_vec1 {v : Value} {d : DataW H} {p : List MemPlace} {base : Nat} (hval : Value.okWide Tryz.prog W .any base 30 v) (h : DataW.Trod enc Tryz.prog W 0 (fun _ => true) true 30 v d p) :
    ∃ r0 r1 r2 : Rq, IsL W v [r0, r1, r2] ∧ (r0.L ≤ Rows.uptoBulk d ∧ r0.N ≤ Rows.uptoBulk d) ∧ (r1.L ≤ Rows.uptoBulk d ∧ r1.N ≤ Rows.uptoBulk d) ∧ (r2.L ≤ Rows.uptoBulk d ∧ r2.N ≤ Rows.uptoBulk d) := by
  obtain ⟨cs, rfl, hcs⟩ := okWide_struct Tryz.underlying30 hval
  have hc : Tryz.prog.cellsOf 30 = 9 := by kernel_rfl
  rw [hc] at hcs
  obtain ⟨l⟩ := cs
  have hl : l.length = 9 := by simpa using hcs
  obtain ⟨fuel, hf⟩ := h
  obtain ⟨r0, r1, r2, hr, hb⟩ := open_vecu hl hf
  exact ⟨r0, r1, r2, ⟨l, rfl, hr⟩, hb⟩
theorem open_fr1 {v : Value} {d : DataW H} {p : List MemPlace} {base : Nat} (hval : Value.okWide Tryz.prog W .any base 26 v) (h : DataW.Trod enc Tryz.prog W 0 (fun _ => true) true 26 v d p) :
    ∃ r0 : Rq, IsL W v [r0] ∧ (r0.L ≤ Rows.uptoBulk d ∧ r0.N ≤ Rows.uptoBulk d) := by
  obtain ⟨cs, rfl, hcs⟩ := okWide_struct Tryz.underlying26 hval
  have hc : Tryz.prog.cellsOf 26 = 3 := by kernel_rfl
  rw [hc] at hcs
  obtain ⟨l⟩ := cs
  have hl : l.length = 3 := by simpa using hcs
  obtain ⟨fuel, hf⟩ := h
  match l, hl with
  | [u0, u1, u2], _ =>
    obtain ⟨r0, a0, b0, c0, d0, rfl, rfl, rfl, i0, j0, s0, t0⟩ := open_fracu hf
    exact ⟨r0, ⟨_, rfl, a0, c0, b0, d0, _, rfl, i0, j0, rfl⟩, ⟨s0, t0⟩⟩
theorem cellsR_app : ∀ {l l' : List Rq} {cs cs' : List Value}, CellsR W l cs → CellsR W l' cs' → CellsR W (l ++ l') (cs ++ cs')
  | [], _, cs, _, h, h' => by have h : cs = [] := h; subst h; exact h'
  | r :: l, l', cs, cs', h, h' => by
    obtain ⟨a, c, b, d, cs1, rfl, i1, i2, h3⟩ := h
    exact ⟨a, c, b, d, cs1 ++ cs', rfl, i1, i2, cellsR_app h3 h'⟩
theorem open_pose {v : Value} {d : DataW H} {p : List MemPlace} {base : Nat} (hval : Value.okWide Tryz.prog W .any base 32 v) (h : DataW.Trod enc Tryz.prog W 0 (fun _ => true) true 32 v d p) :
    ∃ r0 r1 r2 r3 r4 r5 r6 : Rq, IsL W v [r0, r1, r2, r3, r4, r5, r6] ∧ (r0.L ≤ Rows.uptoBulk d ∧ r0.N ≤ Rows.uptoBulk d) ∧ (r1.L ≤ Rows.uptoBulk d ∧ r1.N ≤ Rows.uptoBulk d) ∧ (r2.L ≤ Rows.uptoBulk d ∧ r2.N ≤ Rows.uptoBulk d) ∧ (r3.L ≤ Rows.uptoBulk d ∧ r3.N ≤ Rows.uptoBulk d) ∧ (r4.L ≤ Rows.uptoBulk d ∧ r4.N ≤ Rows.uptoBulk d) ∧ (r5.L ≤ Rows.uptoBulk d ∧ r5.N ≤ Rows.uptoBulk d) ∧ (r6.L ≤ Rows.uptoBulk d ∧ r6.N ≤ Rows.uptoBulk d) := by
  obtain ⟨cs, rfl, hcs⟩ := okWide_struct Tryz.underlying32 hval
  have hc : Tryz.prog.cellsOf 32 = 21 := by kernel_rfl
  rw [hc] at hcs
  obtain ⟨l⟩ := cs
  have hl : l.length = 21 := by simpa using hcs
  obtain ⟨fuel, hf⟩ := h
  have hcq : Tryz.prog.cellsOf 28 = 12 := by kernel_rfl
  have hcv : Tryz.prog.cellsOf 30 = 9 := by kernel_rfl
  obtain ⟨xs, n, _, hx, _, hlen, hg⟩ := DataW.trod_struct Tryz.underlying32 hf
  match xs, hlen with
  | [y0, y1], _ =>
    have h0 := hg 0 _ rfl
    have h1 := hg 1 _ rfl
    simp [Value.cells, hcq, hcv] at h0 h1
    obtain ⟨r0, r1, r2, r3, k0, s0, s1, s2, s3⟩ := open_quatu (by simp; omega) h0
    obtain ⟨r4, r5, r6, k1, s4, s5, s6⟩ := open_vecu (by simp; omega) h1
    have hb : d = _ := congrArg Prod.fst hx
    simp only [List.map_cons, List.map_nil] at hb
    have hk : Rows.uptoBulk y0.1 ≤ Rows.uptoBulk d ∧ Rows.uptoBulk y1.1 ≤ Rows.uptoBulk d := by rw [hb]; simp only [Rows.uptoBulk, Rows.uptoBulkAll]; omega
    refine ⟨r0, r1, r2, r3, r4, r5, r6, ⟨l, rfl, ?_⟩, ⟨by omega, by omega⟩, ⟨by omega, by omega⟩, ⟨by omega, by omega⟩, ⟨by omega, by omega⟩, ⟨by omega, by omega⟩, ⟨by omega, by omega⟩, ⟨by omega, by omega⟩⟩
    have h := cellsR_app k0 k1
    have e : l.take 12 ++ (l.drop 12).take 9 = l := by rw [List.take_of_length_le (show (l.drop 12).length ≤ 9 by simp; omega), List.take_append_drop]
    rw [e] at h
    exact h
end
end Go.Proofs.YthebfmlfgfmlnaaGreatDoor
