/- An executor: loops whose number of rounds is not known. An executor: what is known of unknowns; rows; operations on numbers, truth values and rows. An executor: strings, rows of strings. magnitude of package fraction, size of the reference. mark, Sign of package fraction; Sign of the reference. Cmp, Lerp, Int, Ratio; copied. Valid, of package fraction and of the reference. strings.Cut at a slash, strings.CutPrefix at a minus. Format of package fraction and of the reference. Parse of package fraction. -/
import Derived.Test.YthebfmlfgfmlnaaGreatDoorP08
import Derived.Shelf.Strings.Split
import Derived.Shelf.Strings.Search3
import Derived.Shelf.Strings.Count
import Derived.Lib.IndexBytes
import Derived.Lib.Bytealg
import Derived.Lib.Strings
namespace Go.Proofs.YthebfmlfgfmlnaaGreatDoor
set_option linter.unusedSimpArgs false
set_option linter.unusedVariables false
set_option maxRecDepth 100000
open Go.RowKit
/-- What is known, said with other unknowns: those below N stay, the others are given by σ; places and variables may be left out. -/
def Leaf.cv (N V : Nat) (σ : List (Nat × Leaf)) (l l' : Leaf) : Bool :=
  match l' with
  | .ref n => if n < N then decide (l = .ref n) else σ.contains (n, l) && (match l with | .own _ _ => false | _ => true)
  | .ptr x o => decide (l = .ptr x o) && decide (x < V)
  | .own k m => if m < N then decide (l = .own k m) else σ.contains (m, l) && (match l with | .own k' _ => decide (k' = k) | _ => false)
  | _ => decide (l = l')
def leavesCv (N V : Nat) (σ : List (Nat × Leaf)) : List Leaf → List Leaf → Bool
  | [], [] => true
  | l :: ls, k :: ks => l.cv N V σ k && leavesCv N V σ ls ks
  | _, _ => false
def SV.cv (N V : Nat) (σ : List (Nat × Leaf)) : SV → SV → Bool
  | .one l, .one k => l.cv N V σ k
  | .agg ls, .agg ks => leavesCv N V σ ls ks
  | _, _ => false
def svsCv (N V : Nat) (σ : List (Nat × Leaf)) : List SV → List SV → Bool
  | [], [] => true
  | l :: ls, k :: ks => l.cv N V σ k && svsCv N V σ ls ks
  | _, _ => false
def AV.cv (N V : Nat) (σ : List (Nat × Leaf)) : AV → AV → Bool
  | .v l, .v k => l.cv N V σ k
  | .tup ls, .tup ks => svsCv N V σ ls ks
  | .any, .any => true
  | _, _ => false
def slotsCv (N V : Nat) (σ : List (Nat × Leaf)) : List (Option AV) → List (Option AV) → Bool
  | _, [] => true
  | _ :: cs, none :: ds => slotsCv N V σ cs ds
  | some c :: cs, some d :: ds => c.cv N V σ d && slotsCv N V σ cs ds
  | _, _ => false
def cellsCv (N V : Nat) (σ : List (Nat × Leaf)) : List (Option Leaf) → List (Option Leaf) → Bool
  | [], [] => true
  | _ :: cs, none :: ds => cellsCv N V σ cs ds
  | some c :: cs, some d :: ds => c.cv N V σ d && cellsCv N V σ cs ds
  | _, _ => false
def varsCv (N V : Nat) (σ : List (Nat × Leaf)) : List (TypeId × List (Option Leaf)) → List (TypeId × List (Option Leaf)) → Bool
  | _, [] => true
  | (t, cs) :: r, (t', ds) :: r' => decide (t = t') && (cellsCv N V σ cs ds && varsCv N V σ r r')
  | _, _ => false
def MS.cv (N : Nat) (σ : List (Nat × Leaf)) (s s' : MS) : Bool := slotsCv N s'.vars.length σ s.slots s'.slots && varsCv N s'.vars.length σ s.vars s'.vars
section
variable {ρ ρ' : Rho} {B : Blk} {a : Act} {w w0 : World} {nt N V : Nat} {σ : List (Nat × Leaf)} {s s' : MS} {v : Value}
def cutB (V : Nat) (B : Blk) : Blk := fun x => if x < V ∨ OW ≤ x then B x else none
/-- A leaf of the same kind about another unknown. -/
def Leaf.like : Leaf → Nat → Leaf
  | .own k _, n => .own k n
  | _, n => .ref n
theorem cutB_own {x : Nat} (h : OW ≤ x) : cutB V B x = B x := by unfold cutB; rw [if_pos (.inr h)]
def SigOk (ρ ρ' : Rho) (σ : List (Nat × Leaf)) : Prop := ∀ q ∈ σ, ∀ B B' w v, (∀ x g, B' x = some g → B x = some g) → (∀ x, OW ≤ x → B' x = B x) → q.2.holds ρ B w v → (Leaf.like q.2 q.1).holds ρ' B' w v
theorem cutB_some {x g : Nat} (h : cutB V B x = some g) : B x = some g := by
  unfold cutB at h
  split at h
  · exact h
  · cases h
theorem Leaf.cv_holds (hc : ∀ n, n < N → ρ[n]? = ρ'[n]?) (hσ : SigOk ρ ρ' σ) {l l' : Leaf} (h : l.cv N V σ l' = true) (hl : l.holds ρ B w v) : l'.holds ρ' (cutB V B) w v := by
  cases l' with
  | ref n =>
    simp only [Leaf.cv] at h
    split at h
    · rename_i hn
      have h := of_decide_eq_true h
      subst h
      obtain ⟨q, h1, h2, h3⟩ := hl
      exact ⟨q, by rw [← hc n hn]; exact h1, h2, fun g hg x hx => h3 g hg x (cutB_some hx)⟩
    · simp only [Bool.and_eq_true] at h
      have h1 := hσ (n, l) (List.contains_iff_mem.1 h.1) _ (cutB V B) _ _ (fun _ _ h => cutB_some h) (fun _ h => cutB_own h) hl
      cases l with
      | own k m => simp at h
      | _ => exact h1
  | own k m =>
    simp only [Leaf.cv] at h
    split at h
    · rename_i hn
      have h := of_decide_eq_true h
      subst h
      obtain ⟨q, h1, h2, h3, h4⟩ := hl
      exact ⟨q, by rw [← hc m hn]; exact h1, h2, fun g hg x hx => h3 g hg x (cutB_some hx), fun g hg => by rw [cutB_own (by omega)]; exact h4 g hg⟩
    · simp only [Bool.and_eq_true] at h
      have h1 := hσ (m, l) (List.contains_iff_mem.1 h.1) _ (cutB V B) _ _ (fun _ _ h => cutB_some h) (fun _ h => cutB_own h) hl
      cases l with
      | own k' m' =>
        have h2 : k' = k := by simpa using h.2
        subst h2
        exact h1
      | _ => simp at h
  | ptr x o =>
    simp only [Leaf.cv, Bool.and_eq_true, decide_eq_true_eq] at h
    obtain ⟨rfl, hx⟩ := h
    obtain ⟨g, h1, h2⟩ := hl
    exact ⟨g, by show (if x < V ∨ OW ≤ x then B x else none) = _; rw [if_pos (.inl hx)]; exact h1, h2⟩
  | _ =>
    simp only [Leaf.cv, decide_eq_true_eq] at h
    subst h
    exact hl
theorem leavesCv_holds (hc : ∀ n, n < N → ρ[n]? = ρ'[n]?) (hσ : SigOk ρ ρ' σ) : ∀ {l l' : List Leaf} {vs : List Value}, leavesCv N V σ l l' = true → LeavesH ρ B w l vs → LeavesH ρ' (cutB V B) w l' vs
  | [], [], [], _, _ => trivial
  | _ :: _, _ :: _, _ :: _, h, hl => by
    simp only [leavesCv, Bool.and_eq_true] at h
    exact ⟨Leaf.cv_holds hc hσ h.1 hl.1, leavesCv_holds hc hσ h.2 hl.2⟩
  | [], [], _ :: _, _, h => h.elim
  | [], _ :: _, _, h, _ => by simp [leavesCv] at h
  | _ :: _, [], _, h, _ => by simp [leavesCv] at h
  | _ :: _, _ :: _, [], _, h => h.elim
theorem SV.cv_holds (hc : ∀ n, n < N → ρ[n]? = ρ'[n]?) (hσ : SigOk ρ ρ' σ) {l l' : SV} (h : l.cv N V σ l' = true) (hl : l.holds ρ B w v) : l'.holds ρ' (cutB V B) w v := by
  cases l <;> cases l' <;> simp only [SV.cv] at h
  · exact Leaf.cv_holds hc hσ h hl
  · cases h
  · cases h
  · obtain ⟨vs, e, hl⟩ := hl; exact ⟨vs, e, leavesCv_holds hc hσ h hl⟩
theorem svsCv_holds (hc : ∀ n, n < N → ρ[n]? = ρ'[n]?) (hσ : SigOk ρ ρ' σ) : ∀ {l l' : List SV} {vs : List Value}, svsCv N V σ l l' = true → SVsH ρ B w l vs → SVsH ρ' (cutB V B) w l' vs
  | [], [], [], _, _ => trivial
  | _ :: _, _ :: _, _ :: _, h, hl => by
    simp only [svsCv, Bool.and_eq_true] at h
    exact ⟨SV.cv_holds hc hσ h.1 hl.1, svsCv_holds hc hσ h.2 hl.2⟩
  | [], [], _ :: _, _, h => h.elim
  | [], _ :: _, _, h, _ => by simp [svsCv] at h
  | _ :: _, [], _, h, _ => by simp [svsCv] at h
  | _ :: _, _ :: _, [], _, h => h.elim
theorem AV.cv_holds (hc : ∀ n, n < N → ρ[n]? = ρ'[n]?) (hσ : SigOk ρ ρ' σ) {l l' : AV} (h : l.cv N V σ l' = true) (hl : l.holds ρ B w v) : l'.holds ρ' (cutB V B) w v := by
  cases l <;> cases l' <;> simp only [AV.cv] at h <;> try (cases h)
  · exact SV.cv_holds hc hσ h hl
  · obtain ⟨vs, e, hl⟩ := hl; exact ⟨vs, e, svsCv_holds hc hσ h hl⟩
  · exact hl
theorem slotsCv_get : ∀ {cs ds : List (Option AV)} {i : Nat} {d : AV}, slotsCv N V σ cs ds = true → ds[i]? = some (some d) → ∃ c, cs[i]? = some (some c) ∧ c.cv N V σ d = true
  | _, [], _, _, _, h => by simp at h
  | _ :: cs, none :: ds, 0, _, _, h => by simp at h
  | _ :: cs, none :: ds, i + 1, d, h, hd => by
    simp only [slotsCv] at h
    obtain ⟨c, h1, h2⟩ := slotsCv_get (cs := cs) (ds := ds) (i := i) (d := d) h (by simpa using hd)
    exact ⟨c, by simpa using h1, h2⟩
  | some c :: cs, some d' :: ds, 0, d, h, hd => by
    simp only [slotsCv, Bool.and_eq_true] at h
    simp at hd; subst hd
    exact ⟨c, rfl, h.1⟩
  | some c :: cs, some d' :: ds, i + 1, d, h, hd => by
    simp only [slotsCv, Bool.and_eq_true] at h
    obtain ⟨c, h1, h2⟩ := slotsCv_get (cs := cs) (ds := ds) (i := i) (d := d) h.2 (by simpa using hd)
    exact ⟨c, by simpa using h1, h2⟩
  | [], none :: ds, _, _, h, _ => by simp [slotsCv] at h
  | [], some _ :: ds, _, _, h, _ => by simp [slotsCv] at h
  | none :: _, some _ :: _, _, _, h, _ => by simp [slotsCv] at h
theorem cellsCv_get : ∀ {cs ds : List (Option Leaf)} {i : Nat} {d : Leaf}, cellsCv N V σ cs ds = true → ds[i]? = some (some d) → ∃ c, cs[i]? = some (some c) ∧ c.cv N V σ d = true
  | [], [], _, _, _, h => by simp at h
  | _ :: cs, none :: ds, 0, _, _, h => by simp at h
  | _ :: cs, none :: ds, i + 1, d, h, hd => by
    simp only [cellsCv] at h
    obtain ⟨c, h1, h2⟩ := cellsCv_get (cs := cs) (ds := ds) (i := i) (d := d) h (by simpa using hd)
    exact ⟨c, by simpa using h1, h2⟩
  | some c :: cs, some d' :: ds, 0, d, h, hd => by
    simp only [cellsCv, Bool.and_eq_true] at h
    simp at hd; subst hd
    exact ⟨c, rfl, h.1⟩
  | some c :: cs, some d' :: ds, i + 1, d, h, hd => by
    simp only [cellsCv, Bool.and_eq_true] at h
    obtain ⟨c, h1, h2⟩ := cellsCv_get (cs := cs) (ds := ds) (i := i) (d := d) h.2 (by simpa using hd)
    exact ⟨c, by simpa using h1, h2⟩
  | [], none :: ds, _, _, h, _ => by simp [cellsCv] at h
  | [], some _ :: ds, _, _, h, _ => by simp [cellsCv] at h
  | none :: _, some _ :: _, _, _, h, _ => by simp [cellsCv] at h
  | _ :: _, [], _, _, h, _ => by simp [cellsCv] at h
theorem cellsCv_len : ∀ {cs ds : List (Option Leaf)}, cellsCv N V σ cs ds = true → cs.length = ds.length
  | [], [], _ => rfl
  | _ :: cs, none :: ds, h => by simp only [cellsCv] at h; simp [cellsCv_len h]
  | some _ :: cs, some _ :: ds, h => by simp only [cellsCv, Bool.and_eq_true] at h; simp [cellsCv_len h.2]
  | [], none :: ds, h => by simp [cellsCv] at h
  | [], some _ :: ds, h => by simp [cellsCv] at h
  | none :: _, some _ :: _, h => by simp [cellsCv] at h
  | _ :: _, [], h => by simp [cellsCv] at h
theorem varsCv_get : ∀ {cs ds : List (TypeId × List (Option Leaf))} {i : Nat} {d : TypeId × List (Option Leaf)}, varsCv N V σ cs ds = true → ds[i]? = some d → ∃ c, cs[i]? = some (d.1, c) ∧ cellsCv N V σ c d.2 = true
  | _, [], _, _, _, h => by simp at h
  | (t, c) :: cs, (t', d') :: ds, 0, d, h, hd => by
    simp only [varsCv, Bool.and_eq_true, decide_eq_true_eq] at h
    simp at hd; subst hd
    exact ⟨c, by simp [h.1], h.2.1⟩
  | (t, c) :: cs, (t', d') :: ds, i + 1, d, h, hd => by
    simp only [varsCv, Bool.and_eq_true, decide_eq_true_eq] at h
    obtain ⟨c, h1, h2⟩ := varsCv_get (cs := cs) (ds := ds) (i := i) (d := d) h.2.2 (by simpa using hd)
    exact ⟨c, by simpa using h1, h2⟩
  | [], _ :: _, _, _, h, _ => by simp [varsCv] at h
theorem MSt.conv (hc : ∀ n, n < N → ρ[n]? = ρ'[n]?) (hσ : SigOk ρ ρ' σ) (h : s.cv N σ s' = true) (hs : MSt ρ w0 nt s a w) : MSt ρ' w0 nt s' a w := by
  unfold MS.cv at h
  simp only [Bool.and_eq_true] at h
  obtain ⟨hS, hV⟩ := h
  obtain ⟨B, hi, hk, hv⟩ := hs
  have htab : ∀ v, v < s'.vars.length → (vtOf s')[v]? = (vtOf s)[v]? := fun v hv => by
    obtain ⟨c, h1, h2⟩ := varsCv_get hV (List.getElem?_eq_getElem hv)
    unfold vtOf
    rw [List.getElem?_map, List.getElem?_map, List.getElem?_eq_getElem hv, h1]
    simp [cellsCv_len h2]
  have hcut : ∀ x g, x < OW → cutB s'.vars.length B x = some g → x < s'.vars.length ∧ B x = some g := fun x g hl h => by
    unfold cutB at h
    split at h
    · rename_i h1
      exact ⟨by rcases h1 with h1 | h1 <;> omega, h⟩
    · cases h
  refine ⟨cutB s'.vars.length B, ⟨fun v g hl hg => ?_, fun v g hl hg => hi.own v g hl (cutB_some hg), fun v v' g h1 h2 => hi.inj v v' g (cutB_some h1) (cutB_some h2), hi.below, hi.size, hi.dfr⟩, fun x c hx => ?_, fun v hl h => ?_⟩
  · obtain ⟨h1, h2⟩ := hcut v g hl hg
    obtain ⟨h3, cs, ty, h4, h5⟩ := hi.blk v g hl h2
    exact ⟨h3, cs, ty, by rw [htab v h1]; exact h4, h5⟩
  · unfold msGet at hx
    by_cases hx1 : x < 100000
    · rw [if_pos hx1] at hx
      have hd : s'.slots[x]? = some (some c) := by
        cases e : s'.slots[x]? with
        | none => rw [e] at hx; cases hx
        | some d => rw [e] at hx; simp at hx; rw [hx]
      obtain ⟨c0, h1, h2⟩ := slotsCv_get hS hd
      have := hk x c0 (by unfold msGet; rw [if_pos hx1, h1])
      unfold LocH at this ⊢
      rw [if_pos hx1] at this ⊢
      obtain ⟨u, h3, h4⟩ := this
      exact ⟨u, h3, AV.cv_holds hc hσ h2 h4⟩
    · rw [if_neg hx1] at hx
      have : ∃ d l, s'.vars[x / 100000 - 1]? = some d ∧ d.2[x % 100000]? = some (some l) ∧ c = .v (.one l) := by
        cases e : s'.vars[x / 100000 - 1]? with
        | none => rw [e] at hx; simp at hx
        | some d =>
          rw [e] at hx
          cases e2 : d.2[x % 100000]? with
          | none => simp [e2] at hx
          | some l =>
            cases l with
            | none => simp [e2] at hx
            | some l => simp [e2] at hx; exact ⟨d, l, rfl, e2, hx.symm⟩
      obtain ⟨d, l, hd, hl, rfl⟩ := this
      obtain ⟨c, h1, h2⟩ := varsCv_get hV hd
      obtain ⟨l0, h3, h4⟩ := cellsCv_get h2 hl
      have := hk x (.v (.one l0)) (by unfold msGet; rw [if_neg hx1, h1]; simp [h3])
      unfold LocH at this ⊢
      rw [if_neg hx1] at this ⊢
      obtain ⟨g, cs, ty, u, h5, h6, h7, h8⟩ := this
      have hlt : x / 100000 - 1 < s'.vars.length := (List.getElem?_eq_some_iff.1 hd).1
      exact ⟨g, cs, ty, u, by unfold cutB; rw [if_pos (.inl hlt)]; exact h5, h6, h7, Leaf.cv_holds hc hσ h4 h8⟩
  · cases e : cutB s'.vars.length B v with
    | none => exact absurd e h
    | some g => exact (hcut v g hl e).1
end
/-- A loop of which it is asked that it leads from s to s2. -/
structure LOb where
  b : Code
  s : MS
  e : Ex
  s2 : MS
abbrev Los := List (Option (MS × Ex × MS))
/-- Some places are known. -/
def mkMS (n : Nat) (l : List (Nat × AV)) (vs : List (TypeId × List (Option Leaf))) : MS := ⟨(List.range n).map fun i => l.lookup i, vs⟩
/-- As exec; what is asked of loops is taken from a list: where they begin, how they end (none: the loop is unrolled). -/
def execL (p : Program) (C : List Inst) (L : List OIns) (nt : Nat) : Nat → Code → MS → Los → Option (Ex × MS × Los × List LOb)
  | 0, _, _, _ => none
  | n + 1, c, s, lo => match c with
    | .skip => some (.nrm, s, lo, [])
    | .region id ops draw => (regZ p C L nt id ops draw s).map fun s => (.nrm, s, lo, [])
    | .seq a b => match execL p C L nt n a s lo with
      | some (.nrm, s1, lo1, o1) => match execL p C L nt n b s1 lo1 with
        | some (e, s2, lo2, o2) => some (e, s2, lo2, o1 ++ o2)
        | none => none
      | r => r
    | .cond c x y => match evL (msGet s) c with
      | some (.b true) => execL p C L nt n x s lo
      | some (.b false) => execL p C L nt n y s lo
      | _ => none
    | .block id b => match execL p C L nt n b s lo with
      | some (.ext i, s1, lo1, o1) => if i = id then some (.nrm, s1, lo1, o1) else some (.ext i, s1, lo1, o1)
      | r => r
    | .loop b => match lo with
      | some (s0, e, s2) :: lo1 => if s.cv 1000000 [] s0 ∧ e ≠ .nrm then some (e, s2, lo1, [⟨b, s0, e, s2⟩]) else none
      | none :: lo1 => (exec p C L nt n (.loop b) s).map fun r => (r.1, r.2, lo1, [])
      | [] => (exec p C L nt n (.loop b) s).map fun r => (r.1, r.2, [], [])
    | .exit id => some (.ext id, s, lo, [])
    | .ret => some (.ret, s, lo, [])
    | _ => none
def loopsOf : Code → List Code
  | .seq a b => loopsOf a ++ loopsOf b
  | .cond _ x y => loopsOf x ++ loopsOf y
  | .block _ b => loopsOf b
  | .loop b => b :: loopsOf b
  | _ => []
/-- The body of the k-th loop of a function. -/
def loopAt (fn : Func) (k : Nat) : Code := match fn.body with | some c => (loopsOf c)[k]?.getD .skip | none => .skip
/-- A piece of code leads from s to s2. -/
def BodyOk (p : Program) (ρ : Rho) (w0 : World) (nt : Nat) (b : Code) (s : MS) (e : Ex) (s2 : MS) : Prop :=
  ∀ (a : Act) (w : World) (Q : Exit → Act → World → Prop), MSt ρ w0 nt s a w → (∀ a' w', MSt ρ w0 nt s2 a' w' → Q e.exit a' w') → b.wp p Q a w
def LOb.Ok (p : Program) (ρ : Rho) (w0 : World) (nt : Nat) (o : LOb) : Prop := BodyOk p ρ w0 nt (.loop o.b) o.s o.e o.s2
section
variable {p : Program} {ρ : Rho} {a : Act} {w w0 : World} {C : List Inst} {L : List OIns} {nt : Nat} {Q : Exit → Act → World → Prop}
theorem execL_sound (hC : ∀ i ∈ C, i.Ok0 p ρ w0) (hO : ∀ i ∈ L, i.Ok p ρ) (hm : p.follows .mixedOrders = true) : ∀ {n : Nat} {c : Code} {s s' : MS} {e : Ex} {lo lo' : Los} {obs : List LOb}, execL p C L nt n c s lo = some (e, s', lo', obs) →
    (∀ o ∈ obs, o.Ok p ρ w0 nt) → BodyOk p ρ w0 nt c s e s'
  | 0, _, _, _, _, _, _, _, h, _ => by simp [execL] at h
  | n + 1, c, s, s', e, lo, lo', obs, h, ho => by
    intro a w Q hs hQ
    cases c with
    | skip =>
      simp [execL] at h; obtain ⟨rfl, rfl, rfl, rfl⟩ := h
      exact wp_skip (hQ a w hs)
    | region id ops draw =>
      simp only [execL] at h
      cases hr : regZ p C L nt id ops draw s with
      | none => rw [hr] at h; cases h
      | some s1 =>
        rw [hr] at h; simp at h; obtain ⟨rfl, rfl, rfl, rfl⟩ := h
        exact regZ_sound hC hO hm hr hs hQ
    | seq x y =>
      simp only [execL] at h
      split at h
      · rename_i s1 lo1 o1 h1
        split at h
        · rename_i e2 s2 lo2 o2 h2
          simp at h; obtain ⟨rfl, rfl, rfl, rfl⟩ := h
          refine wp_seq (execL_sound hC hO hm h1 (fun o hh => ho o (List.mem_append.2 (.inl hh))) a w _ hs (fun a' w' hs' => ?_))
          exact execL_sound hC hO hm h2 (fun o hh => ho o (List.mem_append.2 (.inr hh))) a' w' Q hs' hQ
        · cases h
      · rename_i hne
        refine wp_seq (execL_sound hC hO hm h ho a w _ hs (fun a' w' hs' => ?_))
        cases e with
        | nrm => exact absurd h (hne s' lo' obs)
        | ext id => exact hQ a' w' hs'
        | ret => exact hQ a' w' hs'
    | cond k x y =>
      simp only [execL] at h
      split at h
      · rename_i hk
        obtain ⟨B, hb⟩ := evL_ms hs hk
        exact wp_cond_true hb (execL_sound hC hO hm h ho a w Q hs hQ)
      · rename_i hk
        obtain ⟨B, hb⟩ := evL_ms hs hk
        exact wp_cond_false hb (execL_sound hC hO hm h ho a w Q hs hQ)
      · cases h
    | block id b =>
      simp only [execL] at h
      split at h
      · rename_i i s1 lo1 o1 h1
        split at h
        · rename_i hi
          simp at h; obtain ⟨rfl, rfl, rfl, rfl⟩ := h
          refine wp_block (execL_sound hC hO hm h1 ho a w _ hs (fun a' w' hs' => ?_))
          show if i = id then _ else _
          rw [if_pos hi]; exact hQ a' w' hs'
        · rename_i hi
          simp at h; obtain ⟨rfl, rfl, rfl, rfl⟩ := h
          refine wp_block (execL_sound hC hO hm h1 ho a w _ hs (fun a' w' hs' => ?_))
          show if i = id then _ else _
          rw [if_neg hi]; exact hQ a' w' hs'
      · rename_i hne
        refine wp_block (execL_sound hC hO hm h ho a w _ hs (fun a' w' hs' => ?_))
        cases e with
        | nrm => exact hQ a' w' hs'
        | ext id => exact absurd h (hne id s' lo' obs)
        | ret => exact hQ a' w' hs'
    | loop b =>
      simp only [execL] at h
      split at h
      · rename_i s0 e2 s2 lo1
        split at h
        · rename_i hc
          simp at h; obtain ⟨rfl, rfl, rfl, rfl⟩ := h
          exact ho ⟨b, s0, e2, s2⟩ (by simp) a w Q (MSt.conv (fun _ _ => rfl) (fun q h => by cases h) hc.1 hs) hQ
        · cases h
      · rename_i lo1
        cases hr : exec p C L nt n (.loop b) s with
        | none => rw [hr] at h; cases h
        | some r =>
          rw [hr] at h; simp at h; obtain ⟨rfl, rfl, rfl, rfl⟩ := h
          exact exec_sound hC hO hm (e := r.1) (s' := r.2) hr hs hQ
      · cases hr : exec p C L nt n (.loop b) s with
        | none => rw [hr] at h; cases h
        | some r =>
          rw [hr] at h; simp at h; obtain ⟨rfl, rfl, rfl, rfl⟩ := h
          exact exec_sound hC hO hm (e := r.1) (s' := r.2) hr hs hQ
    | exit id =>
      simp [execL] at h; obtain ⟨rfl, rfl, rfl, rfl⟩ := h
      exact wp_exit (hQ a w hs)
    | ret =>
      simp [execL] at h; obtain ⟨rfl, rfl, rfl, rfl⟩ := h
      exact wp_ret (hQ a w hs)
    | _ => simp [execL] at h
termination_by n => n
/-- A piece of code leads from s, with the unknowns ρ, to s2, with the unknowns ρ'. -/
def StepTo (p : Program) (w0 : World) (nt : Nat) (b : Code) (ρ : Rho) (s : MS) (e : Ex) (ρ' : Rho) (s2 : MS) : Prop :=
  ∀ (a : Act) (w : World) (Q : Exit → Act → World → Prop), MSt ρ w0 nt s a w → (∀ a' w', MSt ρ' w0 nt s2 a' w' → Q e.exit a' w') → b.wp p Q a w
/-- What is reckoned leads there. -/
def chk (p : Program) (C : List Inst) (L : List OIns) (nt n : Nat) (c : Code) (s : MS) (lo : Los) (e : Ex) (N : Nat) (σ : List (Nat × Leaf)) (s2 : MS) : Option (List LOb) :=
  match execL p C L nt n c s lo with
  | some (e', T, _, obs) => if e' = e ∧ T.cv N σ s2 then some obs else none
  | none => none
theorem chk_sound {ρ' : Rho} {C : List Inst} {L : List OIns} (hC : ∀ i ∈ C, i.Ok0 p ρ w0) (hO : ∀ i ∈ L, i.Ok p ρ) (hm : p.follows .mixedOrders = true) {n N : Nat} {c : Code} {s s2 : MS} {e : Ex} {lo : Los} {σ : List (Nat × Leaf)} {obs : List LOb}
    (h : chk p C L nt n c s lo e N σ s2 = some obs) (ho : ∀ o ∈ obs, o.Ok p ρ w0 nt) (hc : ∀ n, n < N → ρ[n]? = ρ'[n]?) (hσ : SigOk ρ ρ' σ) : StepTo p w0 nt c ρ s e ρ' s2 := by
  intro a w Q hs hQ
  unfold chk at h
  split at h
  · rename_i e' T lo' obs' he
    split at h
    · rename_i hk
      simp at h; subst h
      obtain ⟨rfl, hk⟩ := hk
      exact execL_sound hC hO hm he ho a w Q hs (fun a' w' hT => hQ a' w' (MSt.conv hc hσ hk hT))
    · cases h
  · cases h
/-- A loop round by round: what is known at the beginning of round k. -/
theorem loop_rounds {b : Code} {s s' : MS} {e : Ex} (N : Nat) (ρs : Nat → Rho) (S : Nat → MS) (h0 : ∀ a w, MSt ρ w0 nt s a w → MSt (ρs 0) w0 nt (S 0) a w)
    (hr : ∀ k, k < N → StepTo p w0 nt b (ρs k) (S k) .nrm (ρs (k + 1)) (S (k + 1))) (hN : StepTo p w0 nt b (ρs N) (S N) e ρ s') (he : e ≠ .nrm) : LOb.Ok p ρ w0 nt ⟨b, s, e, s'⟩ := by
  intro a w Q hs hQ
  refine wp_loop_rounds (fun k a w => MSt (ρs k) w0 nt (S k) a w) N (h0 a w hs) (fun k a w hk hI => ?_)
  by_cases hkN : k < N
  · exact hr k hkN a w _ hI (fun a' w' hT => ⟨hkN, hT⟩)
  · obtain rfl : k = N := by omega
    refine hN a w _ hI (fun a' w' hT => ?_)
    cases e with
    | nrm => exact absurd rfl he
    | ext id => exact hQ a' w' hT
    | ret => exact hQ a' w' hT
end
/-- The answer of a function with such loops. -/
def runFnL (p : Program) (C : List Inst) (L : List OIns) (fn : Func) (args : List SV) (fuel : Nat) (lo : Los) : Option (AV × List LOb) :=
  if args.length ≤ fn.ntmps ∧ fn.ntmps ≤ 100000 then
    match fn.body with
    | some c => match execL p C L fn.ntmps fuel c ⟨startS args fn.ntmps, []⟩ lo with
      | some (.ext _, _, _, _) => none
      | some (_, s, _, obs) => match resA p s fn.results.toList with
        | some r => if r.noPtr then some (r, obs) else none
        | none => none
      | none => none
    | none => none
  else none
section
variable {p : Program} {ρ : Rho} {w : World} {C : List Inst} {L : List OIns}
theorem start_ms {args : List SV} {vs : List Value} {nt : Nat} (hn : args.length ≤ nt) (ha : SVsH ρ (fun _ => none) w args vs) : MSt ρ w nt ⟨startS args nt, []⟩ { tmps := vs.toArray ++ Array.replicate (nt - vs.toArray.size) undef, defers := [] } w := by
  have hl := ha.len
  refine ⟨fun _ => none, ⟨fun v g _ hg => (by cases hg), fun v g _ hg => (by cases hg), fun v v' g hg => (by cases hg), Below.refl _ _, by simp; omega, rfl⟩, fun x k hx => ?_, fun v _ hv => absurd rfl hv⟩
  unfold msGet at hx
  split at hx
  · rename_i hx1
    unfold LocH
    rw [if_pos hx1]
    simp only at hx
    unfold startS at hx
    by_cases hxa : x < args.length
    · rw [List.getElem?_append_left (by simpa using hxa), List.getElem?_map, List.getElem?_eq_getElem hxa] at hx
      simp at hx; subst hx
      obtain ⟨v, h1, h2⟩ := ha.get (List.getElem?_eq_getElem hxa)
      refine ⟨v, ?_, h2⟩
      simp only
      rw [Array.getElem?_append_left (by simp; omega)]
      simpa using h1
    · rw [List.getElem?_append_right (by simp; omega)] at hx
      simp only [List.getElem?_replicate] at hx
      split at hx
      · rename_i hq
        split at hq
        · simp at hq; subst hq; cases hx
        · cases hq
      · cases hx
  · simp at hx
theorem calls_runFnL (hC : ∀ i ∈ C, i.Ok0 p ρ w) (hO : ∀ i ∈ L, i.Ok p ρ) (hm : p.follows .mixedOrders = true) {f : FuncId} {fn : Func} (hf : p.funcs[f]? = some fn) {args : List SV} {vs : List Value} {fuel : Nat} {lo : Los} {r : AV} {obs : List LOb}
    (h : runFnL p C L fn args fuel lo = some (r, obs)) (hl : ∀ o ∈ obs, o.Ok p ρ w fn.ntmps) (ha : SVsH ρ (fun _ => none) w args vs) : Calls p f vs.toArray w (fun e w' => ∃ v, e = .returned v ∧ r.holds ρ (fun _ => none) w' v ∧ Below w.heap.size w w') := by
  unfold runFnL at h
  split at h
  · rename_i hn
    split at h
    · rename_i c hb
      have hst := start_ms hn.1 ha
      have hret : ∀ {s : MS} {e : Ex} {lo' : Los} {obs' : List LOb}, execL p C L fn.ntmps fuel c ⟨startS args fn.ntmps, []⟩ lo = some (e, s, lo', obs') → e = .nrm ∨ e = .ret → (match resA p s fn.results.toList with | some r => if r.noPtr then some (r, obs') else none | none => none) = some (r, obs) →
          Calls p f vs.toArray w (fun e w' => ∃ v, e = .returned v ∧ r.holds ρ (fun _ => none) w' v ∧ Below w.heap.size w w') := by
        intro s e lo' obs' he hor hr
        split at hr
        · rename_i r' hr'
          split at hr
          · rename_i hnp
            simp at hr; obtain ⟨rfl, rfl⟩ := hr
            refine calls_of_wp hf hb (execL_sound hC hO hm he hl _ _ _ hst (fun a' w' hs' => ?_))
            obtain ⟨B, hi, hv, _⟩ := hs'
            obtain ⟨v, h1, h2⟩ := resA_run (p := p) hv hr'
            rcases hor with rfl | rfl
            · exact ⟨hi.dfr, v, h1, v, rfl, h2.free hnp, hi.below⟩
            · exact ⟨hi.dfr, v, h1, v, rfl, h2.free hnp, hi.below⟩
          · cases hr
        · cases hr
      split at h
      · cases h
      · rename_i e s lo' obs' he hx
        have hor : e = .nrm ∨ e = .ret := by
          cases e with
          | nrm => exact .inl rfl
          | ret => exact .inr rfl
          | ext id => exact (he id rfl).elim
        exact hret hx hor h
      · cases h
    · cases h
  · cases h
theorem lo_nil {nt : Nat} : ∀ o ∈ ([] : List LOb), o.Ok p ρ w nt := fun o h => by cases h
theorem lo_cons {nt : Nat} {o : LOb} {l : List LOb} (h : o.Ok p ρ w nt) (r : ∀ o ∈ l, o.Ok p ρ w nt) : ∀ j ∈ o :: l, j.Ok p ρ w nt := fun j hj => by
  rcases List.mem_cons.1 hj with rfl | hj
  · exact h
  · exact r j hj
theorem sig_nil {ρ' : Rho} : SigOk ρ ρ' [] := fun q h => by cases h
theorem sig_cons {ρ' : Rho} {q : Nat × Leaf} {σ : List (Nat × Leaf)} (h : ∀ B B' w v, (∀ x g, B' x = some g → B x = some g) → (∀ x, OW ≤ x → B' x = B x) → q.2.holds ρ B w v → (Leaf.like q.2 q.1).holds ρ' B' w v) (r : SigOk ρ ρ' σ) : SigOk ρ ρ' (q :: σ) := fun j hj => by
  rcases List.mem_cons.1 hj with rfl | hj
  · exact h
  · exact r j hj
/-- An unknown is one of the others. -/
theorem sg_ref {ρ' : Rho} {n m : Nat} {x : Vp} (h1 : ρ[m]? = some x) (h2 : ρ'[n]? = some x) : ∀ B B' w v, (∀ x g, B' x = some g → B x = some g) → (∀ x, OW ≤ x → B' x = B x) → (Leaf.ref m).holds ρ B w v → (Leaf.like (.ref m) n).holds ρ' B' w v := fun _ _ _ _ hB _ ⟨q, h3, h4, h5⟩ => ⟨q, by rw [h2, ← h1]; exact h3, h4, fun g hg x hx => h5 g hg x (hB x g hx)⟩
theorem sg_own {ρ' : Rho} {n m k : Nat} {x : Vp} (h1 : ρ[m]? = some x) (h2 : ρ'[n]? = some x) : ∀ B B' w v, (∀ x g, B' x = some g → B x = some g) → (∀ x, OW ≤ x → B' x = B x) → (Leaf.own k m).holds ρ B w v → (Leaf.like (.own k m) n).holds ρ' B' w v := fun _ _ _ _ hB hO ⟨q, h3, h4, h5, h6⟩ => ⟨q, by rw [h2, ← h1]; exact h3, h4, fun g hg x hx => h5 g hg x (hB x g hx), fun g hg => by rw [hO _ (Nat.le_add_right _ _)]; exact h6 g hg⟩
theorem sg_val {ρ' : Rho} {n : Nat} {l : Leaf} {u : Value} (h2 : ρ'[n]? = some (.val u)) (ho : l.noPtr = true) (hl : ∀ B w v, l.holds ρ B w v → v = u ∧ Flat v) : ∀ B B' w v, (∀ x g, B' x = some g → B x = some g) → (∀ x, OW ≤ x → B' x = B x) → l.holds ρ B w v → (Leaf.like l n).holds ρ' B' w v := fun B _ w v _ _ h => by
  cases l with
  | own k m => simp [Leaf.noPtr] at ho
  | _ => exact ⟨_, h2, hl B w v h, fun _ h => h.elim⟩
end
end Go.Proofs.YthebfmlfgfmlnaaGreatDoor
namespace Go.Proofs.YthebfmlfgfmlnaaGreatDoor
set_option linter.unusedSimpArgs false
set_option linter.unusedVariables false
set_option maxRecDepth 100000
open Go.RowKit
abbrev Ent' (f : FuncId) : Prop := ∀ (vs : Array Value) (w : World), (callFunc f vs).run Tryz.prog w = .ok (.enter f vs) w
theorem il_nil {ρ : Rho} {w : World} : ∀ i ∈ ([] : List Inst), i.Ok0 Tryz.prog ρ w := fun i h => by cases h
theorem il_cons {ρ : Rho} {w : World} {i : Inst} {l : List Inst} (h : i.Ok Tryz.prog ρ) (r : ∀ i ∈ l, i.Ok0 Tryz.prog ρ w) : ∀ j ∈ i :: l, j.Ok0 Tryz.prog ρ w := fun j hj => by
  rcases List.mem_cons.1 hj with rfl | hj
  · exact h.to0 w
  · exact r j hj
theorem ol_nil {ρ : Rho} : ∀ i ∈ ([] : List OIns), i.Ok Tryz.prog ρ := fun i h => by cases h
theorem ol_cons {ρ : Rho} {i : OIns} {l : List OIns} (h : i.Ok Tryz.prog ρ) (r : ∀ i ∈ l, i.Ok Tryz.prog ρ) : ∀ j ∈ i :: l, j.Ok Tryz.prog ρ := fun j hj => by
  rcases List.mem_cons.1 hj with rfl | hj
  · exact h
  · exact r j hj
section
variable {ρ : Rho} {n m k : Nat} {u v c : Int} {b d : Bool} {l : Leaf} {t : TypeId} {B : Blk} {w : World} {ik : IntKind} {x : Value}
theorem flat_int : Flat (.int .i64 u) := ⟨fun _ h => by (cases h), fun _ h => by (cases h), fun _ h => by (cases h)⟩
theorem flat_bool : Flat (.bool b) := ⟨fun _ h => by (cases h), fun _ h => by (cases h), fun _ h => by (cases h)⟩
theorem flat_str {s : ByteArray} : Flat (.string s) := ⟨fun _ h => by (cases h), fun _ h => by (cases h), fun _ h => by (cases h)⟩
theorem flat_ik (h : ik ≠ .u32) : Flat (.int ik u) := ⟨fun _ h => by (cases h), fun _ h => by (cases h), fun n e => by injection e with e1 e2; exact h e1⟩
theorem flat_slice {a : Option Addr} {L cp : Nat} : Flat (.slice a L cp) := ⟨fun _ h => by (cases h), fun _ h => by (cases h), fun _ h => by (cases h)⟩
theorem flat_ptr {a : Option Addr} : Flat (.pointer a) := ⟨fun _ h => by (cases h), fun _ h => by (cases h), fun _ h => by (cases h)⟩
theorem leaf_val {v x : Value} (hn : ρ[n]? = some (.val v)) (h : (Leaf.ref n).holds ρ B w x) : x = v := by
  obtain ⟨s, h1, h2⟩ := h
  rw [hn] at h1; injection h1 with h1; subst h1; exact h2.1.1
theorem leaf_mk {v : Value} (hn : ρ[n]? = some (.val v)) (hf : Flat v) : (Leaf.ref n).holds ρ B w v := ⟨_, hn, ⟨rfl, hf⟩, fun _ h => h.elim⟩
/-- A leaf that holds a number, a truth value, a text. -/
theorem li (h : u = c) : ∀ B w, (Leaf.i .i64 c).holds ρ B w (.int .i64 u) := fun _ _ => by subst h; rfl
theorem lb (h : b = d) : ∀ B w, (Leaf.b d).holds ρ B w (.bool b) := fun _ _ => by subst h; rfl
theorem lr (hn : ρ[n]? = some (.val (.int .i64 u))) : ∀ B w, (Leaf.ref n).holds ρ B w (.int .i64 u) := fun _ _ => leaf_mk hn flat_int
theorem lrb (hn : ρ[n]? = some (.val (.bool b))) : ∀ B w, (Leaf.ref n).holds ρ B w (.bool b) := fun _ _ => leaf_mk hn flat_bool
theorem ls {s : ByteArray} (hn : ρ[n]? = some (.val (.string s))) : ∀ B w, (Leaf.ref n).holds ρ B w (.string s) := fun _ _ => leaf_mk hn flat_str
theorem leafB {s : Bool} {x : Value} (h : ρ[n]? = some (.val (.bool s))) : (Leaf.ref n).holds ρ B w x ↔ x = .bool s :=
  ⟨leaf_val h, fun e => by subst e; exact leaf_mk h flat_bool⟩
theorem leafD {L N : Nat} {x : Value} (h : ρ[n]? = some (.dig L N)) : (Leaf.ref n).holds ρ B w x ↔ IsR w (.agg #[x]) L N := by
  constructor
  · rintro ⟨t, h1, h2, _⟩
    rw [h] at h1; injection h1 with h1; subst h1; exact h2
  · intro h2; exact ⟨_, h, h2, fun _ h => h.elim⟩
/-- Comparisons of a number of any kind with a constant; one less. -/
theorem o_eqlK (hn : ρ[n]? = some (.val (.int ik u))) (h : (u == c) = b) : (OIns.mk (.bin .eql t) [.one (.ref n), .one (.i ik c)] (.one (.b b))).Ok Tryz.prog ρ := fun B w vs hv => by
  match vs, hv with
  | [v1, v2], hv =>
    have e := leaf_val (B := B) hn hv.1
    have e2 : v2 = .int ik c := hv.2.1
    subst e; subst e2
    exact ⟨.bool b, rfl, fun xo yo => by simp [eqGuard, binOp, Op.intCmp, Sem.run_bind, Result.andThen, h]⟩
theorem o_neqK (hn : ρ[n]? = some (.val (.int ik u))) (h : (u != c) = b) : (OIns.mk (.bin .neq t) [.one (.ref n), .one (.i ik c)] (.one (.b b))).Ok Tryz.prog ρ := fun B w vs hv => by
  match vs, hv with
  | [v1, v2], hv =>
    have e := leaf_val (B := B) hn hv.1
    have e2 : v2 = .int ik c := hv.2.1
    subst e; subst e2
    exact ⟨.bool b, rfl, fun xo yo => by simp [eqGuard, binOp, Op.intCmp, Sem.run_bind, Result.andThen, h]⟩
theorem o_leqK (hn : ρ[n]? = some (.val (.int ik u))) (h : (decide (u ≤ c)) = b) : (OIns.mk (.bin .leq t) [.one (.ref n), .one (.i ik c)] (.one (.b b))).Ok Tryz.prog ρ := fun B w vs hv => by
  match vs, hv with
  | [v1, v2], hv =>
    have e := leaf_val (B := B) hn hv.1
    have e2 : v2 = .int ik c := hv.2.1
    subst e; subst e2
    exact ⟨.bool b, rfl, fun xo yo => by rw [← h]; simp [eqGuard, binOp, Op.intCmp, Sem.run_bind, Result.andThen]⟩
theorem o_gtrK (hn : ρ[n]? = some (.val (.int ik u))) (h : (decide (c < u)) = b) : (OIns.mk (.bin .gtr t) [.one (.ref n), .one (.i ik c)] (.one (.b b))).Ok Tryz.prog ρ := fun B w vs hv => by
  match vs, hv with
  | [v1, v2], hv =>
    have e := leaf_val (B := B) hn hv.1
    have e2 : v2 = .int ik c := hv.2.1
    subst e; subst e2
    exact ⟨.bool b, rfl, fun xo yo => by rw [← h]; simp [eqGuard, binOp, Op.intCmp, Sem.run_bind, Result.andThen]⟩
theorem o_eql (hn : ρ[n]? = some (.val (.int .i64 u))) (h : (u == c) = b) : (OIns.mk (.bin .eql t) [.one (.ref n), .one (.i .i64 c)] (.one (.b b))).Ok Tryz.prog ρ := o_eqlK hn h
theorem o_neq (hn : ρ[n]? = some (.val (.int .i64 u))) (h : (u != c) = b) : (OIns.mk (.bin .neq t) [.one (.ref n), .one (.i .i64 c)] (.one (.b b))).Ok Tryz.prog ρ := o_neqK hn h
theorem o_addK (hn : ρ[n]? = some (.val (.int .i64 u))) (hm : ρ[m]? = some (.val (.int .i64 v))) (hv : v = u + c) (h1 : -9223372036854775808 ≤ u + c) (h2 : u + c ≤ 9223372036854775807) : (OIns.mk (.bin .add t) [.one (.ref n), .one (.i .i64 c)] (.one (.ref m))).Ok Tryz.prog ρ := fun B w vs hv' => by
  match vs, hv' with
  | [v1, v2], hv' =>
    have e := leaf_val (B := B) hn hv'.1
    have e2 : v2 = .int .i64 c := hv'.2.1
    subst e; subst e2; subst hv
    refine ⟨.int .i64 (u + c), leaf_mk (B := B) hm flat_int, fun xo yo => ?_⟩
    simp [eqGuard, binOp, Op.intArith, Sem.run_bind, Result.andThen, Go.IntWalk.i64_in _ ⟨h1, h2⟩]
/-- Comparisons of two unknown numbers. -/
theorem o_lssR (hn : ρ[n]? = some (.val (.int ik u))) (hm : ρ[m]? = some (.val (.int ik v))) (h : (decide (u < v)) = b) : (OIns.mk (.bin .lss t) [.one (.ref n), .one (.ref m)] (.one (.b b))).Ok Tryz.prog ρ := fun B w vs hv => by
  match vs, hv with
  | [v1, v2], hv =>
    have e := leaf_val (B := B) hn hv.1
    have e2 := leaf_val (B := B) hm hv.2.1
    subst e; subst e2
    exact ⟨.bool b, rfl, fun xo yo => by rw [← h]; simp [eqGuard, binOp, Op.intCmp, Sem.run_bind, Result.andThen]⟩
theorem o_eqlR (hn : ρ[n]? = some (.val (.int ik u))) (hm : ρ[m]? = some (.val (.int ik v))) (h : (u == v) = b) : (OIns.mk (.bin .eql t) [.one (.ref n), .one (.ref m)] (.one (.b b))).Ok Tryz.prog ρ := fun B w vs hv => by
  match vs, hv with
  | [v1, v2], hv =>
    have e := leaf_val (B := B) hn hv.1
    have e2 := leaf_val (B := B) hm hv.2.1
    subst e; subst e2
    exact ⟨.bool b, rfl, fun xo yo => by simp [eqGuard, binOp, Op.intCmp, Sem.run_bind, Result.andThen, h]⟩
theorem o_neqR (hn : ρ[n]? = some (.val (.int ik u))) (hm : ρ[m]? = some (.val (.int ik v))) (h : (u != v) = b) : (OIns.mk (.bin .neq t) [.one (.ref n), .one (.ref m)] (.one (.b b))).Ok Tryz.prog ρ := fun B w vs hv => by
  match vs, hv with
  | [v1, v2], hv =>
    have e := leaf_val (B := B) hn hv.1
    have e2 := leaf_val (B := B) hm hv.2.1
    subst e; subst e2
    exact ⟨.bool b, rfl, fun xo yo => by simp [eqGuard, binOp, Op.intCmp, Sem.run_bind, Result.andThen, h]⟩
/-- The length of a row of digits. -/
theorem o_len {L N : Nat} (ht : ∃ e, Tryz.prog.underlying t = some (.slice e)) (hn : ρ[n]? = some (.dig L N)) (hm : ρ[m]? = some (.val (.int .i64 (L : Int)))) : (OIns.mk (.len t) [.one (.ref n)] (.one (.ref m))).Ok Tryz.prog ρ := fun B w vs hv => by
  match vs, hv with
  | [v1], hv =>
    obtain ⟨a, c, e, _⟩ := (leafD (B := B) (w := w) hn).1 hv.1
    obtain rfl : v1 = .slice a L c := by
      injection e with e
      have := congrArg (fun x : Array Value => x[0]?) e
      simpa using this
    obtain ⟨e, he⟩ := ht
    refine ⟨.int .i64 (L : Int), lr hm B w, fun ts ty h0 => ?_⟩
    simp [Builtin.len_, h0, Sem.run_bind, run_underlying he, Result.andThen, goInt]
theorem bneq_f {u c : Int} (h : u = c) : (u != c) = false := by simpa using h
theorem bneq_t {u c : Int} (h : u ≠ c) : (u != c) = true := by simpa using h
theorem beql_t {u c : Int} (h : u = c) : (u == c) = true := by simpa using h
theorem beql_f {u c : Int} (h : u ≠ c) : (u == c) = false := by simpa using h
/-- Truth values. -/
theorem bool_under (ht : isBoolB Tryz.prog t = true) : Tryz.prog.underlying t = some .bool := by
  unfold isBoolB at ht
  split at ht
  · assumption
  · cases ht
theorem run_eqTr (ht : isBoolB Tryz.prog t = true) (b c : Bool) : (Op.equal t (.bool b) (.bool c)).run Tryz.prog w = .ok (b == c) w := by
  unfold Op.equal Op.maxDepth Op.equalIn
  rw [Sem.run_bind, run_underlying (bool_under ht)]; rfl
/-- Two truth values, each known as a leaf, compared: what comes out is known (d), or an unknown. -/
theorem o_beq {y : Leaf} {c : Bool} {z : Leaf} (ht : isBoolB Tryz.prog t = true) (hx : ∀ B w x, l.holds ρ B w x → x = .bool b) (hy : ∀ B w x, y.holds ρ B w x → x = .bool c) (hz : ∀ B w, z.holds ρ B w (.bool (b == c))) : (OIns.mk (.bin .eql t) [.one l, .one y] (.one z)).Ok Tryz.prog ρ := fun B w vs hv => by
  match vs, hv with
  | [v1, v2], hv =>
    have e1 := hx _ _ _ hv.1
    have e2 := hy _ _ _ hv.2.1
    subst e1; subst e2
    exact ⟨.bool (b == c), hz B w, fun xo yo => by simp [eqGuard, binOp, Sem.run_bind, run_eqTr ht, Result.andThen]⟩
theorem o_bne {y : Leaf} {c : Bool} {z : Leaf} (ht : isBoolB Tryz.prog t = true) (hx : ∀ B w x, l.holds ρ B w x → x = .bool b) (hy : ∀ B w x, y.holds ρ B w x → x = .bool c) (hz : ∀ B w, z.holds ρ B w (.bool (b != c))) : (OIns.mk (.bin .neq t) [.one l, .one y] (.one z)).Ok Tryz.prog ρ := fun B w vs hv => by
  match vs, hv with
  | [v1, v2], hv =>
    have e1 := hx _ _ _ hv.1
    have e2 := hy _ _ _ hv.2.1
    subst e1; subst e2
    exact ⟨.bool (b != c), hz B w, fun xo yo => by simp [eqGuard, binOp, Sem.run_bind, run_eqTr ht, Result.andThen]; cases b <;> cases c <;> rfl⟩
theorem bl (b : Bool) : ∀ B w x, (Leaf.b b).holds ρ B w x → x = .bool b := fun _ _ _ h => h
theorem br (hn : ρ[n]? = some (.val (.bool b))) : ∀ B w x, (Leaf.ref n).holds ρ B w x → x = .bool b := fun _ _ _ h => leaf_val hn h
end
/-- A row of parts: what its cells are. -/
def Vp.row (T : TypeId) (n : Nat) (qs : List Vp) : Vp := ⟨fun w v => (qs = [] ∧ n = 0 ∧ v = .slice none 0 0) ∨ ∃ b o c cs, v = .slice (some ⟨b, o, none⟩) n c ∧ n ≤ c ∧ w.heap[b]? = some (.cells cs T (0, 0)) ∧ ∀ j q, qs[j]? = some q → ∃ u, cs[o + j]? = some u ∧ q.p w u ∧ ∀ g, ¬ q.fp u g,
  fun v g => ∃ o n c, v = .slice (some ⟨g, o, none⟩) n c,
  fun w w' X v h k hX => h.imp id fun ⟨b, o, c, cs, e, hn, hb, hq⟩ => ⟨b, o, c, cs, e, hn, by rw [k.blk b (Array.getElem?_eq_some_iff.1 hb).1 (hX b ⟨o, n, c, e⟩)]; exact hb, fun j q hj => by
    obtain ⟨u, h1, h2, h3⟩ := hq j q hj
    exact ⟨u, h1, q.ch w w' X u h2 k (fun g hg => absurd hg (h3 g)), h3⟩⟩,
  fun w v g h ⟨o', n', c', e'⟩ => by
    rcases h with ⟨_, _, e⟩ | ⟨b, o, c, cs, e, _, hb, _⟩
    · rw [e] at e'; cases e'
    · rw [e] at e'; injection e' with e1 _ _; injection e1 with e1; injection e1 with e1 _ _; subst e1
      exact (Array.getElem?_eq_some_iff.1 hb).1,
  fun w v h => by
    rcases h with ⟨_, _, e⟩ | ⟨b, o, c, cs, e, _⟩ <;> subst e <;> exact flat_slice⟩
/-- A place in such a row. -/
def Vp.plc (T : TypeId) (qs : List Vp) : Vp := ⟨fun w v => ∃ b o cs, v = .pointer (some ⟨b, o, none⟩) ∧ w.heap[b]? = some (.cells cs T (0, 0)) ∧ ∀ j q, qs[j]? = some q → ∃ u, cs[o + j]? = some u ∧ q.p w u ∧ ∀ g, ¬ q.fp u g,
  fun v g => ∃ o, v = .pointer (some ⟨g, o, none⟩),
  fun w w' X v ⟨b, o, cs, e, hb, hq⟩ k hX => ⟨b, o, cs, e, by rw [k.blk b (Array.getElem?_eq_some_iff.1 hb).1 (hX b ⟨o, e⟩)]; exact hb, fun j q hj => by
    obtain ⟨u, h1, h2, h3⟩ := hq j q hj
    exact ⟨u, h1, q.ch w w' X u h2 k (fun g hg => absurd hg (h3 g)), h3⟩⟩,
  fun w v g ⟨b, o, cs, e, hb, _⟩ ⟨o', e'⟩ => by
    rw [e] at e'; injection e' with e1; injection e1 with e1; injection e1 with e1 _ _; subst e1
    exact (Array.getElem?_eq_some_iff.1 hb).1,
  fun w v ⟨b, o, cs, e, _⟩ => by subst e; exact flat_ptr⟩
section
variable {ρ : Rho} {n m k L : Nat} {t T e : TypeId} {B : Blk} {w : World} {qs : List Vp} {u : Int}
theorem row_len {v : Value} (h : (Vp.row T L qs).p w v) : ∃ a c, v = .slice a L c := by
  rcases h with ⟨_, rfl, e⟩ | ⟨b, o, c, cs, e, _⟩
  · exact ⟨_, _, e⟩
  · exact ⟨_, _, e⟩
theorem o_lenR (ht : ∃ e, Tryz.prog.underlying t = some (.slice e)) (hn : ρ[n]? = some (.row T L qs)) {l : Leaf} (hl : ∀ B w, l.holds ρ B w (.int .i64 (L : Int))) : (OIns.mk (.len t) [.one (.ref n)] (.one l)).Ok Tryz.prog ρ := fun B w vs hv => by
  match vs, hv with
  | [v1], hv =>
    obtain ⟨s, h1, h2, _⟩ := hv.1
    rw [hn] at h1; injection h1 with h1; subst h1
    obtain ⟨a, c, rfl⟩ := row_len h2
    obtain ⟨e, he⟩ := ht
    refine ⟨.int .i64 (L : Int), hl B w, fun ts ty h0 => ?_⟩
    simp [Builtin.len_, h0, Sem.run_bind, run_underlying he, Result.andThen, goInt]
/-- The place of the k-th part. -/
theorem o_iaL {l : Leaf} {sz : Nat} {qs' : List Vp} (ht : Tryz.prog.underlying t = some (.slice e)) (hz : szB Tryz.prog e = some sz) (hn : ρ[n]? = some (.row T L qs)) (hm : ρ[m]? = some (.plc T qs')) (hl : ∀ B w x, l.holds ρ B w x → x = .int .i64 (k : Int)) (hk : k < L) (hq0 : qs ≠ [])
    (hq : ∀ (j : Nat) (q : Vp), qs'[j]? = some q → qs[k * sz + j]? = some q) : (OIns.mk (.ia t) [.one (.ref n), .one l] (.one (.ref m))).Ok Tryz.prog ρ := fun B w vs hv => by
  match vs, hv with
  | [v1, v2], hv =>
    obtain ⟨s, h1, h2, h3⟩ := hv.1
    rw [hn] at h1; injection h1 with h1; subst h1
    have e2 := hl _ _ _ hv.2.1
    subst e2
    rcases h2 with ⟨h, _⟩ | ⟨b, o, c, cs, rfl, hc, hb, h4⟩
    · exact absurd h hq0
    · refine ⟨.pointer (some ⟨b, o + k * sz, none⟩), ⟨_, hm, ⟨b, o + k * sz, cs, rfl, hb, fun j q hj => ?_⟩, fun g ⟨o', e'⟩ => ?_⟩, ?_⟩
      · obtain ⟨u, k1, k2⟩ := h4 _ q (hq j q hj)
        exact ⟨u, by rw [Nat.add_assoc]; exact k1, k2⟩
      · injection e' with e1; injection e1 with e1; injection e1 with e1 _ _; subst e1
        exact h3 _ ⟨_, _, _, rfl⟩
      · simp [Instr.indexAt, asIntOf, Sem.run_bind, run_underlying ht, run_size hz, Result.andThen, hk, add_off]
/-- The place of a field: the later cells. -/
def fldB (p : Program) (t : TypeId) (f : Nat) : Option (Nat × Nat) := match p.underlying t with
  | some (.struct fs) => match fs[f]? with
    | some fd => (szB p fd.type).map fun n => (fd.offset, n)
    | none => none
  | _ => none
theorem o_fa {f off sz : Nat} {qs' : List Vp} (ht : fldB Tryz.prog t f = some (off, sz + 1)) (hn : ρ[n]? = some (.plc T qs)) (hm : ρ[m]? = some (.plc T qs')) (hq : ∀ (j : Nat) (q : Vp), qs'[j]? = some q → qs[off + j]? = some q) : (OIns.mk (.fa t f) [.one (.ref n)] (.one (.ref m))).Ok Tryz.prog ρ := fun B w vs hv => by
  match vs, hv with
  | [v1], hv =>
    obtain ⟨s, h1, h2, h3⟩ := hv.1
    rw [hn] at h1; injection h1 with h1; subst h1
    obtain ⟨b, o, cs, rfl, hb, h4⟩ := h2
    unfold fldB at ht
    split at ht
    · rename_i fs hu
      split at ht
      · rename_i fd hf
        cases hz : szB Tryz.prog fd.type with
        | none => rw [hz] at ht; cases ht
        | some k =>
          rw [hz] at ht
          simp only [Option.map_some, Option.some.injEq, Prod.mk.injEq] at ht
          obtain ⟨rfl, rfl⟩ := ht
          refine ⟨.pointer (some ⟨b, o + fd.offset, none⟩), ⟨_, hm, ⟨b, o + fd.offset, cs, rfl, hb, fun j q hj => ?_⟩, fun g ⟨o', e'⟩ => ?_⟩, ?_⟩
          · obtain ⟨u, k1, k2⟩ := h4 _ q (hq j q hj)
            exact ⟨u, by rw [Nat.add_assoc]; exact k1, k2⟩
          · injection e' with e1; injection e1 with e1; injection e1 with e1 _ _; subst e1
            exact h3 _ ⟨_, rfl⟩
          · simp [Instr.fieldAt, Instr.sureAddr, fieldPlace, Sem.run_bind, run_underlying hu, hf, run_size hz, Result.andThen, add_off]
      · cases ht
    · cases ht
/-- What lies at a place: one cell, several cells. -/
theorem o_ldP {q : Vp} {l : Leaf} (ht : aggB Tryz.prog t = some false) (hn : ρ[n]? = some (.plc T (q :: qs))) (hl : ∀ B w x, q.p w x → (∀ g, ¬ q.fp x g) → l.holds ρ B w x) : (OIns.mk (.ld t) [.one (.ref n)] (.one l)).Ok Tryz.prog ρ := fun B w vs hv => by
  match vs, hv with
  | [v1], hv =>
    obtain ⟨s, h1, h2, _⟩ := hv.1
    rw [hn] at h1; injection h1 with h1; subst h1
    obtain ⟨b, o, cs, rfl, hb, h4⟩ := h2
    obtain ⟨u, k1, k2, k3⟩ := h4 0 q rfl
    refine ⟨u, hl B w u k2 k3, ?_⟩
    have := run_loadc (p := Tryz.prog) (w := w) (ad := ⟨b, o, none⟩) (v := u) (by rw [cell_at hb]; exact k1)
    simp [Instr.loadAt, Instr.sureAddr, loadVar, Sem.run_bind, run_agg ht, this, Result.andThen]
theorem lq {q : Vp} (h : ρ[m]? = some q) : ∀ B w x, q.p w x → (∀ g, ¬ q.fp x g) → (Leaf.ref m).holds ρ B w x := fun _ _ _ h1 h2 => ⟨q, h, h1, fun g hg => absurd hg (h2 g)⟩
/-- Leaves that hold what these properties say; the other way round. -/
def LQ (ρ : Rho) : List Leaf → List Vp → Prop
  | [], _ => True
  | l :: ls, q :: qs => (∀ B w x, q.p w x → (∀ g, ¬ q.fp x g) → l.holds ρ B w x) ∧ LQ ρ ls qs
  | _ :: _, [] => False
def QL (ρ : Rho) : List Leaf → List Vp → Prop
  | [], [] => True
  | l :: ls, q :: qs => (∀ B w x, l.holds ρ B w x → q.p w x ∧ ∀ g, ¬ q.fp x g) ∧ QL ρ ls qs
  | _, _ => False
theorem ql_val {u : Value} (h : ρ[m]? = some (.val u)) : ∀ B w x, (Leaf.ref m).holds ρ B w x → (Vp.val u).p w x ∧ ∀ g, ¬ (Vp.val u).fp x g := fun _ _ _ ⟨q, h1, h2, _⟩ => by
  rw [h] at h1; injection h1 with h1; subst h1; exact ⟨h2, fun _ h => h⟩
theorem ql_dig {L N : Nat} (h : ρ[m]? = some (.dig L N)) : ∀ B w x, (Leaf.ref m).holds ρ B w x → (Vp.dig L N).p w x ∧ ∀ g, ¬ (Vp.dig L N).fp x g := fun _ _ _ ⟨q, h1, h2, _⟩ => by
  rw [h] at h1; injection h1 with h1; subst h1; exact ⟨h2, fun _ h => h⟩
theorem LQ.holds : ∀ {ls : List Leaf} {qs : List Vp} {cs : Array Value} {o : Nat}, LQ ρ ls qs → (∀ (j : Nat) (q : Vp), qs[j]? = some q → ∃ u, cs[o + j]? = some u ∧ q.p w u ∧ ∀ g, ¬ q.fp u g) →
    ∃ vs : List Value, LeavesH ρ B w ls vs ∧ ∀ (j : Nat) (v : Value), vs[j]? = some v → cs[o + j]? = some v
  | [], _, _, _, _, _ => ⟨[], trivial, fun _ _ h => by simp at h⟩
  | l :: ls, q :: qs, cs, o, h, hq => by
    obtain ⟨u, k1, k2, k3⟩ := hq 0 q rfl
    obtain ⟨vs, e1, e2⟩ := LQ.holds (ls := ls) (qs := qs) (cs := cs) (o := o + 1) h.2 (fun j q hj => by
      obtain ⟨u, k1, k2⟩ := hq (j + 1) q (by simpa using hj)
      exact ⟨u, by rw [show o + 1 + j = o + (j + 1) from by omega]; exact k1, k2⟩)
    refine ⟨u :: vs, ⟨h.1 B w u k2 k3, e1⟩, fun j v hj => ?_⟩
    match j with
    | 0 => simp at hj; subst hj; exact k1
    | j + 1 => have := e2 j v (by simpa using hj); rwa [show o + 1 + j = o + (j + 1) from by omega] at this
  | _ :: _, [], _, _, h, _ => h.elim
theorem QL.get : ∀ {ls : List Leaf} {qs : List Vp} {vs : List Value} {j : Nat} {q : Vp}, QL ρ ls qs → LeavesH ρ B w ls vs → qs[j]? = some q → ∃ u, vs[j]? = some u ∧ q.p w u ∧ ∀ g, ¬ q.fp u g
  | [], [], _, _, _, _, _, h => by simp at h
  | _ :: _, _ :: _, v :: _, 0, _, h, hl, hq => by simp at hq; subst hq; exact ⟨v, rfl, h.1 B w v hl.1⟩
  | _ :: ls, _ :: qs, _ :: vs, j + 1, q, h, hl, hq => by
    obtain ⟨u, k1, k2⟩ := QL.get (ls := ls) (qs := qs) (vs := vs) (j := j) h.2 hl.2 (by simpa using hq)
    exact ⟨u, by simpa using k1, k2⟩
  | _ :: _, _ :: _, [], _, _, _, hl, _ => hl.elim
  | [], _ :: _, _, _, _, h, _, _ => h.elim
  | _ :: _, [], _, _, _, h, _, _ => h.elim
theorem o_ldA {ls : List Leaf} (ht : aggB Tryz.prog t = some true) (hz : szB Tryz.prog t = some ls.length) (hn : ρ[n]? = some (.plc T qs)) (hl : LQ ρ ls qs) : (OIns.mk (.ld t) [.one (.ref n)] (.agg ls)).Ok Tryz.prog ρ := fun B w vs hv => by
  match vs, hv with
  | [v1], hv =>
    obtain ⟨s, h1, h2, _⟩ := hv.1
    rw [hn] at h1; injection h1 with h1; subst h1
    obtain ⟨b, o, cs, rfl, hb, h4⟩ := h2
    obtain ⟨us, e1, e2⟩ := hl.holds (B := B) h4
    refine ⟨.agg us.toArray, ⟨us, rfl, e1⟩, ?_⟩
    have := run_loadFrom (p := Tryz.prog) (o := o) hb us 0 #[] (fun k u hu => by rw [Nat.zero_add]; exact e2 k u hu)
    rw [e1.len] at this
    simp [Instr.loadAt, Instr.sureAddr, loadVar, loadCells, Sem.run_bind, run_agg ht, run_size hz, this, Result.andThen]
def zrep (z : List Leaf) (n : Nat) : List Leaf := (List.range n).map fun i => z.getD (i % z.length) .sl0
/-- A slice of parts. -/
theorem o_bs {ss : List SV} {ix : List Nat} {z ls : List Leaf} {sz N : Nat} (ht : Tryz.prog.underlying t = some (.slice e)) (hz : szB Tryz.prog e = some sz) (hzl : zeroL Tryz.prog e = some z) (hle : N * sz ≤ 2 ^ 24) (hpos : N * sz ≠ 0) (hz0 : z.length ≠ 0) (hix : ix.length = ss.length)
    (hf : fillA (fun i => some (i * sz, sz)) (zrep z (N * sz)) (ix.zip ss) = some ls) (hq : QL ρ ls qs) (hm : ρ[m]? = some (.row e N qs)) : (OIns.mk (.bs t N ix) ss (.one (.ref m))).Ok Tryz.prog ρ := fun B w vs hv hB => by
  obtain ⟨zv, hz1, hz2⟩ := zeroL_holds (p := Tryz.prog) (ρ := ρ) (B := B) (w := w) hzl
  have hlen : vs.length = ss.length := hv.len
  have hzlen : zv.cells.size = z.length := by have := hz2.len; simpa using this
  have h0 : LeavesH ρ B w (zrep z (N * sz)) ((Array.range (N * sz)).map (zv.cells[· % zv.cells.size]!)).toList := by
    refine LeavesH.mk (by simp [zrep]) (fun k l v h1 h2 => ?_)
    have hk : k < N * sz := by have := (List.getElem?_eq_some_iff.1 h1).1; simpa [zrep] using this
    have hk2 : k % z.length < z.length := Nat.mod_lt _ (by omega)
    simp only [zrep, List.getElem?_map, List.getElem?_range hk, Option.map_some, Option.some.injEq] at h1
    obtain ⟨v', h3, h4⟩ := hz2.get (List.getElem?_eq_getElem hk2)
    rw [List.getD_eq_getElem?_getD, List.getElem?_eq_getElem hk2, Option.getD_some] at h1
    subst h1
    have h5 : v = v' := by
      simp only [Array.toList_map, List.getElem?_map, Array.toList_range, List.getElem?_range hk, Option.map_some, Option.some.injEq, hzlen] at h2
      rw [Array.getElem?_toList] at h3
      rw [← h2]
      have hk3 : k % z.length < zv.cells.size := by omega
      rw [getElem!_pos zv.cells _ hk3]
      rw [Array.getElem?_eq_getElem hk3] at h3
      exact Option.some.inj h3
    subst h5
    exact h4
  have hzip1 : (ix.zip vs).map (·.1) = (ix.zip ss).map (·.1) := by rw [List.map_fst_zip (by omega), List.map_fst_zip (by omega)]
  have hzip2 : SVsH ρ B w ((ix.zip ss).map (·.2)) ((ix.zip vs).map (·.2)) := by rw [List.map_snd_zip (by omega), List.map_snd_zip (by omega)]; exact hv
  obtain ⟨out, ho1, ho2⟩ := fill_holds hf hzip1 hzip2 h0
  refine ⟨.slice (some ⟨w.heap.size, 0, none⟩) N N, w.alloc (.cells out e), ⟨_, hm, .inr ⟨w.heap.size, 0, N, out, rfl, Nat.le_refl _, heap_alloc_new w _, fun j q hj => ?_⟩, fun g ⟨o', n', c', e'⟩ x hx => ?_⟩, ?_, bel1 w _⟩
  · obtain ⟨u, k1, k2, k3⟩ := hq.get ho2 hj
    exact ⟨u, by rw [Nat.zero_add, ← Array.getElem?_toList]; exact k1, q.ch _ _ _ _ k2 (.below (bel1 w _)) (fun _ _ h => h), k3⟩
  · injection e' with e1; injection e1 with e1; injection e1 with e1 _ _; subst e1
    have := hB x _ hx; omega
  · unfold Instr.buildSlice
    simp only [Sem.run_bind, run_underlying ht, run_size hz, Result.andThen]
    rw [if_neg (by omega), if_neg hpos]
    simp only [Sem.run_bind, hz1, Result.andThen, Sem.run_pure, List.toList_toArray]
    rw [ho1]
    rfl
end
end Go.Proofs.YthebfmlfgfmlnaaGreatDoor
namespace Go.Proofs
open Go.Shelf Go.RowKit Go.Lib
variable {P : Program} {ρ : Ren}
/-- strings.Split at one byte: it needs nothing of the package's variables. -/
theorem Any.strings_Split_one (L : Lays.n146 P ρ) (hi9 : (P.info? (ρ.t 9)).map (fun i => (i.zero, i.size, i.bytes)) = some (some (.string ByteArray.empty), 1, 16)) (s : ByteArray) (b : UInt8) (w : World) (hs : s.size < 4294967281) :
    Calls P (ρ.f 146) #[.string s, .string ⟨#[b]⟩] w fun e w' =>
      e = .returned (.slice (some ⟨w.heap.size, 0, none⟩) (Lib.countB s ⟨#[b]⟩ + 1) (Lib.countB s ⟨#[b]⟩ + 1)) ∧ w' = w.alloc (.cells ((Lib.splitB ⟨#[b]⟩ 0 (Lib.countB s ⟨#[b]⟩) s).map Value.string).toArray (ρ.t 9)) := by
  have h1 : 1 ≤ (⟨#[b]⟩ : ByteArray).size := Nat.le_refl 1
  have hle := Lib.countB_le ⟨#[b]⟩ h1 s.size s (Nat.le_refl _)
  have hlen := Lib.splitB_all ⟨#[b]⟩ h1 0 _ s rfl
  have hI : ∀ (x : ByteArray) (c : Array Value), x.size ≤ s.size → Calls P (ρ.f 143) #[.string x, .string ⟨#[b]⟩] (w.alloc (.cells c (ρ.t 9))) fun e w' => e = .returned (.int .i64 (Lib.indexB x ⟨#[b]⟩)) ∧ w' = w.alloc (.cells c (ρ.t 9)) := by
    intro x c _
    refine (Any.strings_Index_one { L with } x b _).mono fun e w' ⟨he, hw⟩ => ⟨?_, hw⟩
    rw [he]
    show _ = Ending.returned (Value.int .i64 (Lib.index x.data.toList [b]))
    rw [Lib.index_one]
  have hC : Calls P (ρ.f 138) #[.string s, .string ⟨#[b]⟩] w fun e w' => e = .returned (.int .i64 (Lib.countB s ⟨#[b]⟩)) ∧ w' = w := by
    refine (Any.strings_Count_one { L with } s b w).mono fun e w' ⟨he, hw⟩ => ⟨?_, hw⟩
    rw [he]
    show _ = Ending.returned (Value.int .i64 ((Lib.count s.data.toList [b] : Nat) : Int))
    rw [Lib.count_one]
    rfl
  have c := Any.strings_genSplit_core { L with } hi9 s ⟨#[b]⟩ 0 (-1) (Lib.countB s ⟨#[b]⟩ + 1) w hs h1 (Nat.zero_le _) hI hC (by decide) (by decide) (by rw [if_pos (by decide)]; omega)
  rw [Nat.add_sub_cancel, hlen] at c
  have e2 : Lib.cellsOf (Lib.splitB ⟨#[b]⟩ 0 (Lib.countB s ⟨#[b]⟩) s) (Lib.countB s ⟨#[b]⟩ + 1) = ((Lib.splitB ⟨#[b]⟩ 0 (Lib.countB s ⟨#[b]⟩) s).map Value.string).toArray := by rw [← hlen]; exact Lib.cellsOf_full _
  rw [e2] at c
  clear hI hC e2 hlen hle
  have t3 := L.t3; have t9 := L.t9; have t31 := L.t31
  have a3 := L.a3; have a9 := L.a9; have a31 := L.a31
  have z3 := L.z3; have v3 := L.v3; have z9 := L.z9; have v9 := L.v9; have z31 := L.z31; have v31 := L.v31
  have e221 : ∀ args w, (callFunc (ρ.f 221) args).run P w = .ok (.enter (ρ.f 221) args) w := enters_of L.f221 (by kernel_rfl) rfl
  go_enter L.f146, Body.n146_ntmps ρ
  go_wp2_with (go_at_fn (ρ.f 221); refine c.mono ?_; rintro e w' ⟨rfl, hw⟩; rw [hw])
  go_ret
  exact ⟨rfl, rfl⟩
end Go.Proofs
namespace Go.Proofs.YthebfmlfgfmlnaaGreatDoor
set_option linter.unusedSimpArgs false
set_option linter.unusedVariables false
set_option maxRecDepth 100000
open Go.RowKit
/-- A row of strings. -/
def Vp.strs (l : List ByteArray) : Vp := .row strT l.length (l.map fun s => .val (.string s))
section
variable {ρ : Rho} {xs : List Fq} {ys : Rho} {n m k : Nat} {u v c : Int} {b : Bool} {s z : ByteArray} {t : TypeId} {B : Blk} {w : World} {l : List ByteArray} {ik : IntKind} {x : Value}
def isStrB (p : Program) (t : TypeId) : Bool := match p.underlying t with | some .string => true | _ => false
theorem str_under (ht : isStrB Tryz.prog t = true) : Tryz.prog.underlying t = some .string := by
  unfold isStrB at ht
  split at ht
  · assumption
  · cases ht
theorem o_lenS (ht : isStrB Tryz.prog t = true) (hn : ρ[n]? = some (.val (.string s))) (hm : ρ[m]? = some (.val (.int .i64 (s.size : Int)))) : (OIns.mk (.len t) [.one (.ref n)] (.one (.ref m))).Ok Tryz.prog ρ := fun B w vs hv => by
  match vs, hv with
  | [v1], hv =>
    have e := leaf_val (B := B) hn hv.1
    subst e
    refine ⟨.int .i64 (s.size : Int), leaf_mk (B := B) hm flat_int, fun ts ty h0 => ?_⟩
    simp [Builtin.len_, h0, Sem.run_bind, run_underlying (str_under ht), Result.andThen, goInt]
/-- A byte of a string. -/
theorem o_idxS (ht : isStrB Tryz.prog t = true) (hn : ρ[n]? = some (.val (.string s))) (hm : ρ[m]? = some (.val (.int .u8 (by' s k : Int)))) (hk : k < s.size) (hc : c = (k : Int)) : (OIns.mk (.idx t) [.one (.ref n), .one (.i .i64 c)] (.one (.ref m))).Ok Tryz.prog ρ := fun B w vs hv => by
  match vs, hv with
  | [v1, v2], hv =>
    have e := leaf_val (B := B) hn hv.1
    subst e; subst hc
    have e2 : v2 = .int .i64 (k : Int) := hv.2.1
    subst e2
    refine ⟨.int .u8 (by' s k : Int), leaf_mk (B := B) hm (flat_ik (by decide)), ?_⟩
    have h1 : s[k]? = some s[k] := by simp [hk]
    simp [Instr.index, asIntOf, Sem.run_bind, run_underlying (str_under ht), Result.andThen, h1, by', hk]
theorem o_idxR (ht : isStrB Tryz.prog t = true) (hn : ρ[n]? = some (.val (.string s))) (hi : ρ[k]? = some (.val (.int .i64 u))) {b : Nat} (hm : ρ[m]? = some (.val (.int .u8 (b : Int)))) (h0 : 0 ≤ u) (hk : u.toNat < s.size) (hb : by' s u.toNat = b) : (OIns.mk (.idx t) [.one (.ref n), .one (.ref k)] (.one (.ref m))).Ok Tryz.prog ρ := fun B w vs hv => by
  match vs, hv with
  | [v1, v2], hv =>
    have e := leaf_val (B := B) hn hv.1
    have e2 := leaf_val (B := B) hi hv.2.1
    subst e; subst e2; subst hb
    refine ⟨.int .u8 (by' s u.toNat : Int), leaf_mk (B := B) hm (flat_ik (by decide)), ?_⟩
    have h1 : s[u.toNat]? = some s[u.toNat] := by simp [hk]
    simp [Instr.index, asIntOf, Sem.run_bind, run_underlying (str_under ht), Result.andThen, h1, by', hk, h0]
/-- Strings put together. -/
theorem run_cat (ht : isStrB Tryz.prog t = true) {s z : ByteArray} (h : ((s.size + z.size : Nat) : Int) ≤ 9223372036854775807) (xo yo : Operand) : ((do eqGuard .add t xo yo (.string s) (.string z); binOp .add t (.string s) (.string z) : Sem Value)).run Tryz.prog w = .ok (.string (s ++ z)) w := by
  have h1 : ¬ ((s.size + z.size : Nat) : Int) > IntKind.i64.max := by
    have : IntKind.i64.max = 9223372036854775807 := by decide
    omega
  simp only [eqGuard, binOp, Op.stringOp, Sem.run_bind, Result.andThen]
  rw [if_neg h1]
  rfl
theorem o_catLR (ht : isStrB Tryz.prog t = true) (hn : ρ[n]? = some (.val (.string z))) (hm : ρ[m]? = some (.val (.string (s ++ z)))) (h : ((s.size + z.size : Nat) : Int) ≤ 9223372036854775807) : (OIns.mk (.bin .add t) [.one (.s s), .one (.ref n)] (.one (.ref m))).Ok Tryz.prog ρ := fun B w vs hv => by
  match vs, hv with
  | [v1, v2], hv =>
    have e : v1 = .string s := hv.1
    have e2 := leaf_val (B := B) hn hv.2.1
    subst e; subst e2
    exact ⟨_, leaf_mk (B := B) hm flat_str, fun xo yo => run_cat ht h xo yo⟩
theorem o_catRR (ht : isStrB Tryz.prog t = true) (hn : ρ[n]? = some (.val (.string s))) (hk : ρ[k]? = some (.val (.string z))) (hm : ρ[m]? = some (.val (.string (s ++ z)))) (h : ((s.size + z.size : Nat) : Int) ≤ 9223372036854775807) : (OIns.mk (.bin .add t) [.one (.ref n), .one (.ref k)] (.one (.ref m))).Ok Tryz.prog ρ := fun B w vs hv => by
  match vs, hv with
  | [v1, v2], hv =>
    have e := leaf_val (B := B) hn hv.1
    have e2 := leaf_val (B := B) hk hv.2.1
    subst e; subst e2
    exact ⟨_, leaf_mk (B := B) hm flat_str, fun xo yo => run_cat ht h xo yo⟩
end
end Go.Proofs.YthebfmlfgfmlnaaGreatDoor
namespace Go.Proofs.YthebfmlfgfmlnaaGreatDoor
set_option linter.unusedSimpArgs false
set_option linter.unusedVariables false
set_option maxRecDepth 100000
open Go.RowKit
theorem wrap_mag (v : Int) (h1 : -9223372036854775808 ≤ v) (hv : v < 0) : IntKind.u64.wrap (-IntKind.u64.wrap v) = ((v.natAbs : Nat) : Int) := by
  simp only [IntKind.wrap, IntKind.signed, IntKind.bits, Bool.false_and, Bool.false_eq_true, if_false]
  omega
theorem c_mag (v : Int) (w : World) (h1 : -9223372036854775808 ≤ v) (h2 : v < 9223372036854775808) :
    Calls Tryz.prog 121 #[.int .i64 v] w fun e w' => RetN w v.natAbs e w' := by
  obtain ⟨m0, k0⟩ := resN (w := w)
  have c0 := k0.cell
  have f0 := k0.frozen
  have fin : ∀ e w9, RetNew (w.alloc (.cells #[.slice none 0 0] 24)) v.natAbs e w9 → ∃ a c, e = .returned (.agg #[.slice a (nl v.natAbs) c]) ∧ IsN w9 (.agg #[.slice a (nl v.natAbs) c]) v.natAbs ∧ VarB w9 w.heap.size none 0 0 ∧ Below w.heap.size w w9 := by
    rintro e w9 ⟨x, rfl, nx, hb⟩
    have nx := nx.isN
    obtain ⟨a, c, rfl⟩ := nx.shape
    exact ⟨a, c, rfl, nx, k0.mono hb k0.lt, m0.trans (hb.mono m0.size)⟩
  go_enter Tryz.func121, Tryz.ntmps121
  by_cases hv : v < 0
  · have e0 := wrap_mag v h1 hv
    have E0 := Lib.hid e0
    clear e0
    go_wp2_with fail
    rw [E0.out]
    refine (c_natural_Of v.natAbs _ (by omega)).mono ?_
    rintro e w9 h9
    obtain ⟨a, c, rfl, nx, k9, hb⟩ := fin e w9 h9
    have c9 := k9.cell
    have f9 := k9.frozen
    clear c0 f0 fin h9
    go_wp2
    exact bodyPost_ret (res_N rfl rfl k9.set) rfl ⟨_, rfl, nx.setVar k9, hb.setCell (p := ⟨w.heap.size, 0, none⟩) (Nat.le_refl _) _⟩
  · obtain ⟨n, hn⟩ : ∃ n : Nat, Hid (v = (n : Int)) := ⟨v.natAbs, Lib.hid (by omega)⟩
    have hnn : Hid (v.natAbs = n) := Lib.hid (by have := hn.out; omega)
    go_wp2_with fail
    rw [show v = ((v.natAbs : Nat) : Int) from by omega]
    refine (c_natural_Of v.natAbs _ (by omega)).mono ?_
    rintro e w9 h9
    obtain ⟨a, c, rfl, nx, k9, hb⟩ := fin e w9 h9
    have c9 := k9.cell
    have f9 := k9.frozen
    clear c0 f0 fin h9
    go_wp2
    exact bodyPost_ret (res_N rfl rfl k9.set) rfl ⟨_, rfl, nx.setVar k9, hb.setCell (p := ⟨w.heap.size, 0, none⟩) (Nat.le_refl _) _⟩
theorem c_size (v : Int) (w : World) (h1 : -9223372036854775808 ≤ v) (h2 : v < 9223372036854775808) :
    Calls Tryz.prog 83 #[.int .i64 v] w fun e w' => RetV w (.int .u64 (v.natAbs : Int)) e w' := by
  go_enter Tryz.func83, Tryz.ntmps83
  by_cases hv : v < 0
  · go_wp2
    go_ret
    refine ⟨?_, Below.refl _ _⟩
    simp only [Array.getD_eq_getD_getElem?, List.getElem?_toArray, List.getElem?_cons_succ, List.getElem?_cons_zero, Option.getD_some, Ending.returned.injEq, Value.int.injEq, true_and, IntKind.wrap, IntKind.signed, IntKind.bits, Bool.false_and, Bool.false_eq_true, if_false, if_true]
    omega
  · go_wp2
    go_ret
    refine ⟨?_, Below.refl _ _⟩
    simp only [Array.getD_eq_getD_getElem?, List.getElem?_toArray, List.getElem?_cons_succ, List.getElem?_cons_zero, Option.getD_some, Ending.returned.injEq, Value.int.injEq, true_and]
    omega
end Go.Proofs.YthebfmlfgfmlnaaGreatDoor
namespace Go.Proofs.YthebfmlfgfmlnaaGreatDoor
set_option linter.unusedSimpArgs false
set_option linter.unusedVariables false
set_option maxRecDepth 100000
open Go.RowKit
/-- Block g is a variable of type signed. -/
def VarS (w : World) (g : Nat) (a b : Bool) : Prop := w.heap[g]? = some (.cells #[.bool a, .bool b] 136 (0, 0))
theorem VarS.lt {w : World} {g : Nat} {a b : Bool} (h : VarS w g a b) : g < w.heap.size := (Array.getElem?_eq_some_iff.1 h).1
theorem VarS.mono {w w' : World} {g B : Nat} {a b : Bool} (h : VarS w g a b) (hb : Below B w w') (hB : g < B) : VarS w' g a b := (hb.block g hB).trans h
theorem VarS.cell1 {w : World} {g : Nat} {a b : Bool} (h : VarS w g a b) : w.cell? ⟨g, 1, none⟩ = some (.bool b) := by rw [cell_of_row w g 1 _ _ (0, 0) h]; rfl
theorem VarS.own {w : World} {g : Nat} {a b : Bool} (h : VarS w g a b) : Own w g := ⟨_, _, h, fun k n => by
  match k with
  | 0 => intro h; cases h
  | 1 => intro h; cases h
  | k + 2 => intro h; simp at h⟩
theorem VarS.upd {w w' : World} {g g' : Nat} {a b : Bool} (h : VarS w g' a b) (_ : Own w g) (u : Upd w g w') (hn : g' ≠ g) : VarS w' g' a b := (u.block g' hn).trans h
theorem VarS.any {w : World} {g : Nat} {a b : Bool} (h : VarS w g a b) : ∃ a b, VarS w g a b := ⟨_, _, h⟩
section
variable {Q : Exit → Act → World → Prop} {md : Region.Mode} {ops : Array Oper} {o : Oper} {a : Act} {w : World} {j fuel : Nat} {listed : Array Bool} {x y : Operand} {g : Nat} {s t : Bool}
end
theorem run_eqSS (a b c d : Bool) (w : World) : (binOp BinOp.eql 136 (.agg #[.bool a, .bool b]) (.agg #[.bool c, .bool d])).run Tryz.prog w = .ok (.bool (a == c && b == d)) w := by
  cases a <;> cases b <;> cases c <;> cases d <;> go_simp
theorem run_neSS (a b c d : Bool) (w : World) : (binOp BinOp.neq 136 (.agg #[.bool a, .bool b]) (.agg #[.bool c, .bool d])).run Tryz.prog w = .ok (.bool (!(a == c && b == d))) w := by
  cases a <;> cases b <;> cases c <;> cases d <;> go_simp
theorem guard_eqSS {x y : Operand} (a b c d : Bool) (w : World) : (eqGuard BinOp.eql 136 x y (.agg #[.bool a, .bool b]) (.agg #[.bool c, .bool d])).run Tryz.prog w = .ok () w := by go_simp
theorem guard_neSS {x y : Operand} (a b c d : Bool) (w : World) : (eqGuard BinOp.neq 136 x y (.agg #[.bool a, .bool b]) (.agg #[.bool c, .bool d])).run Tryz.prog w = .ok () w := by go_simp
end Go.Proofs.YthebfmlfgfmlnaaGreatDoor
namespace Go.Proofs.YthebfmlfgfmlnaaGreatDoor
set_option linter.unusedSimpArgs false
set_option linter.unusedVariables false
set_option maxRecDepth 100000
open Go.RowKit
/-- The fraction of an integer; of two. -/
def Fq.ofInt (v : Int) : Fq := ⟨decide (v < 0), v.natAbs, 1⟩
theorem nl_abs {v : Int} (lv : -9223372036854775808 ≤ v) (rv : v < 9223372036854775808) : nl v.natAbs ≤ 2 := nl_le_iff.2 (by show v.natAbs < 18446744073709551616; omega)
end Go.Proofs.YthebfmlfgfmlnaaGreatDoor
namespace Go.Proofs.YthebfmlfgfmlnaaGreatDoor
set_option linter.unusedSimpArgs false
set_option linter.unusedVariables false
set_option maxRecDepth 100000
open Go.RowKit
/-- A fraction of rows: leading zeros allowed. -/
def IsFR (w : World) (v : Value) (s : Bool) (L p N q : Nat) : Prop := ∃ a c b d, v = .agg #[.bool s, .slice a L c, .slice b N d] ∧ IsR w (.agg #[.slice a L c]) L p ∧ IsR w (.agg #[.slice b N d]) N q
theorem IsFR.mono {w w' : World} {v : Value} {s : Bool} {L p N q : Nat} (h : IsFR w v s L p N q) (hb : Below w.heap.size w w') : IsFR w' v s L p N q := by
  obtain ⟨a, c, b, d, rfl, h1, h2⟩ := h; exact ⟨a, c, b, d, rfl, h1.mono hb, h2.mono hb⟩
theorem IsFR.isQ {w : World} {v : Value} {s : Bool} {L p N q : Nat} (h : IsFR w v s L p N q) (hL : nl p = L) (hN : nl q = N) : IsQ w v ⟨s, p, q⟩ := by
  subst hL; subst hN; exact h
def VarFR (w : World) (g : Nat) (s : Bool) (L p N q : Nat) : Prop := ∃ a c b d, VarFB w g s a L c b N d ∧ IsR w (.agg #[.slice a L c]) L p ∧ IsR w (.agg #[.slice b N d]) N q
theorem VarFR.lt {w : World} {g L p N q : Nat} {s : Bool} (h : VarFR w g s L p N q) : g < w.heap.size := by obtain ⟨_, _, _, _, h, _⟩ := h; exact h.lt
theorem VarFR.mono {w w' : World} {g L p N q : Nat} {s : Bool} (h : VarFR w g s L p N q) (hb : Below w.heap.size w w') : VarFR w' g s L p N q := by
  obtain ⟨a, c, b, d, h0, h1, h2⟩ := h; exact ⟨a, c, b, d, h0.mono hb h0.lt, h1.mono hb, h2.mono hb⟩
theorem VarFR.upd {w w' : World} {g g' L p N q : Nat} {s : Bool} (h : VarFR w g' s L p N q) (o : Own w g) (u : Upd w g w') (hn : g' ≠ g) : VarFR w' g' s L p N q := by
  obtain ⟨x, cx, y, cy, h0, h1, h2⟩ := h; exact ⟨x, cx, y, cy, h0.upd o u hn, h1.upd o u, h2.upd o u⟩
section
variable {Q : Exit → Act → World → Prop} {o : Oper} {a : Act} {w : World} {x y : Operand} {g L p N q m : Nat} {s : Bool} {tt : Array TypeId}
end
/-- Which fractions are valid. -/
def Fq.valid (x : Fq) : Bool := decide (x.q ≠ 0 ∧ ¬(x.s = true ∧ x.p = 0) ∧ Nat.gcd x.p x.q = 1)
end Go.Proofs.YthebfmlfgfmlnaaGreatDoor
namespace Go.Proofs.YthebfmlfgfmlnaaGreatDoor
set_option linter.unusedSimpArgs false
set_option linter.unusedVariables false
set_option maxRecDepth 100000
open Go.RowKit
/-- The first slash stands at i. -/
def slashAt (s : ByteArray) (i : Nat) : Prop := i < s.size ∧ by' s i = 47 ∧ ∀ j, j < i → by' s j ≠ 47
def noSlash (s : ByteArray) : Prop := ∀ j, j < s.size → by' s j ≠ 47
theorem slash_cases (s : ByteArray) : (∃ i, slashAt s i) ∨ noSlash s := by
  by_cases h : ∃ i, i < s.size ∧ by' s i = 47
  · refine .inl ?_
    obtain ⟨i, hi⟩ := h
    induction i using Nat.strongRecOn with
    | ind i ih =>
      by_cases h2 : ∃ j, j < i ∧ by' s j = 47
      · obtain ⟨j, h3, h4⟩ := h2; exact ih j h3 ⟨by omega, h4⟩
      · exact ⟨i, hi.1, hi.2, fun j hj he => h2 ⟨j, hj, he⟩⟩
  · exact .inr (fun j hj he => h ⟨j, hj, he⟩)
theorem idx_hit : ∀ (l : List UInt8) (i : Nat) (c : UInt8), l[i]? = some c → (∀ j, j < i → l[j]? ≠ some c) → Lib.indexByte l c = (i : Int)
  | [], i, c, h, _ => by simp at h
  | b :: l, 0, c, h, _ => by
    have hb : b = c := by simpa using h
    subst hb
    unfold Lib.indexByte
    simp
  | b :: l, i + 1, c, h, hn => by
    have hb : (b == c) = false := by
      have := hn 0 (by omega)
      simpa using this
    have ih := idx_hit l i c (by simpa using h) (fun j hj => by have := hn (j + 1) (by omega); simpa using this)
    unfold Lib.indexByte
    rw [hb, ih]
    have : ((i : Int) == -1) = false := by simp
    simp [this]
theorem idx_miss : ∀ (l : List UInt8) (c : UInt8), (∀ j : Nat, l[j]? ≠ some c) → Lib.indexByte l c = -1
  | [], c, _ => rfl
  | b :: l, c, hn => by
    have hb : (b == c) = false := by
      have := hn 0
      simpa using this
    have ih := idx_miss l c (fun j => by have := hn (j + 1); simpa using this)
    unfold Lib.indexByte
    rw [hb, ih]
    rfl
theorem list_at (s : ByteArray) (j : Nat) (hj : j < s.size) (c : UInt8) : s.data.toList[j]? = some c ↔ by' s j = c.toNat := by
  have h1 : s.data.toList[j]? = some s[j] := by
    rw [Array.getElem?_toList]
    exact Array.getElem?_eq_getElem (h := hj)
  rw [h1]
  unfold by'
  rw [dif_pos hj, Option.some.injEq]
  exact ⟨fun h => by rw [h], fun h => UInt8.toNat_inj.1 h⟩
theorem slash_index {s : ByteArray} {i : Nat} (h : slashAt s i) : Lib.indexByte s.data.toList 47 = (i : Int) :=
  idx_hit _ i 47 ((list_at s i h.1 47).2 h.2.1) (fun j hj he => h.2.2 j hj ((list_at s j (by have := h.1; omega) 47).1 he))
theorem noSlash_index {s : ByteArray} (h : noSlash s) : Lib.indexByte s.data.toList 47 = -1 :=
  idx_miss _ 47 (fun j he => by
    have hj : j < s.size := by
      have : j < s.data.toList.length := (List.getElem?_eq_some_iff.1 he).1
      simpa using this
    exact h j hj ((list_at s j hj 47).1 he))
theorem c_IndexByte (s : ByteArray) (w : World) : Calls Tryz.prog 181 #[.string s, .int .u8 47] w fun e w' => e = .returned (.int .i64 (Lib.indexByte s.data.toList 47)) ∧ w' = w := by
  go_enter Tryz.func181, Tryz.ntmps181
  go_wp2
  rw [run_callFunc_extern Tryz.func186 (by kernel_rfl) (by kernel_rfl) (by kernel_rfl) (e := Extern.BytealgIndexByte.indexByte) (by kernel_rfl), Lib.run_indexByteString]
  simp only [Result.andThen]
  rw [Oper.upon_value]
  go_wp2
  go_ret
  exact ⟨rfl, rfl⟩
theorem c_IndexSlash (s : ByteArray) (w : World) (hs : s.size ≤ 4294967280) : Calls Tryz.prog 170 #[.string s, .string { data := #[47] }] w fun e w' => e = .returned (.int .i64 (Lib.indexByte s.data.toList 47)) ∧ w' = w := by
  go_enter Tryz.func170, Tryz.ntmps170
  by_cases he : ([47] == s.toList) = true
  · have hx : Lib.indexByte s.data.toList 47 = 0 := by
      have h2 : s.data.toList = [47] := by
        have h1 : [47] = s.toList := by simpa using he
        rw [Lib.toList_data] at h1; exact h1.symm
      rw [h2]; rfl
    rw [hx]
    go_wp2
    go_ret
    exact ⟨rfl, rfl⟩
  · have he' : ([47] == s.toList) = false := by simpa using he
    go_wp2_with fail
    refine (c_IndexByte s w).mono ?_
    rintro e w1 ⟨rfl, rfl⟩
    go_wp2
    go_ret
    exact ⟨rfl, rfl⟩
theorem c_sCut_hit (s : ByteArray) (i : Nat) (w : World) (hs : s.size ≤ 4294967280) (h : slashAt s i) : Calls Tryz.prog 147 #[.string s, .string { data := #[47] }] w fun e w' => e = .returned (.tuple #[.string (s.extract 0 i), .string (s.extract (i + 1) s.size), .bool true]) ∧ ∃ n, w' = w.drewN n := by
  have hx := slash_index h
  have hi : i < s.size := h.1
  have c1 : (0 : Int) ≤ (i : Int) := by omega
  have c2 : (i : Int) ≤ (s.size : Int) := by omega
  have c3 : (0 : Int) ≤ (i : Int) + 1 := by omega
  have c4 : (i : Int) + 1 ≤ (s.size : Int) := by omega
  go_enter Tryz.func147, Tryz.ntmps147
  go_wp2_with fail
  refine (c_IndexSlash s w hs).mono ?_
  rintro e w1 ⟨rfl, rfl⟩
  rw [hx]
  go_wp2_with fail
  go_region
  go_wp2
  go_ret3
  exact ⟨rfl, 1, rfl⟩
theorem c_sCut_miss (s : ByteArray) (w : World) (hs : s.size ≤ 4294967280) (h : noSlash s) : Calls Tryz.prog 147 #[.string s, .string { data := #[47] }] w fun e w' => e = .returned (.tuple #[.string s, .string { data := #[] }, .bool false]) ∧ ∃ n, w' = w.drewN n := by
  have hx := noSlash_index h
  go_enter Tryz.func147, Tryz.ntmps147
  go_wp2_with fail
  refine (c_IndexSlash s w hs).mono ?_
  rintro e w1 ⟨rfl, rfl⟩
  rw [hx]
  go_wp2
  go_ret3
  exact ⟨rfl, 0, rfl⟩
theorem c_Cut {s a b : ByteArray} {t : Bool} (w : World) (h : Calls Tryz.prog 147 #[.string s, .string { data := #[47] }] w fun e w' => e = .returned (.tuple #[.string a, .string b, .bool t]) ∧ ∃ n, w' = w.drewN n) :
    Calls Tryz.prog 96 #[.string s, .string { data := #[47] }] w fun e w' => e = .returned (.tuple #[.string a, .string b, .bool t]) ∧ Below w.heap.size w w' := by
  go_enter Tryz.func96, Tryz.ntmps96
  go_wp2_with fail
  refine h.mono ?_
  rintro e w1 ⟨rfl, n, rfl⟩
  go_wp2
  go_ret3
  exact ⟨rfl, bel_drewN (Below.refl _ _) n⟩
theorem c_HasPrefix (s : ByteArray) (w : World) : Calls Tryz.prog 171 #[.string s, .string { data := #[45] }] w fun e w' => e = .returned (.bool (decide (0 < s.size ∧ by' s 0 = 45))) ∧ w' = w := by
  go_enter Tryz.func171, Tryz.ntmps171
  by_cases h0 : 0 < s.size
  · have c1 : (1 : Int) ≤ (s.size : Int) := by omega
    have hx : ((s.extract 0 1).toList == [45]) = decide (0 < s.size ∧ by' s 0 = 45) := by
      rw [Lib.extract_toList]
      have h1 := list_at s 0 h0 45
      have h2 : ((s.data.toList.drop 0).take (1 - 0)) = [s[0]'h0] := by
        have h3 : 0 < s.data.toList.length := by rw [← Lib.size_eq]; exact h0
        rw [List.drop_zero]
        rw [show (1 : Nat) - 0 = 1 from rfl]
        cases hl : s.data.toList with
        | nil => rw [hl] at h3; cases h3
        | cons b l =>
          have : s.data.toList[0]? = some (s[0]'h0) := by rw [Array.getElem?_toList]; exact Array.getElem?_eq_getElem (h := h0)
          rw [hl] at this
          simp at this
          simp [this]
      rw [h2]
      rw [Bool.eq_iff_iff]
      have h4 : by' s 0 = (s[0]'h0).toNat := by unfold by'; rw [dif_pos h0]
      simp only [beq_iff_eq, List.cons.injEq, and_true, decide_eq_true_eq, h0, true_and, h4]
      exact ⟨fun h => by rw [h]; rfl, fun h => UInt8.toNat_inj.1 h⟩
    generalize decide (0 < s.size ∧ by' s 0 = 45) = t at hx ⊢
    go_wp2
    go_ret
    exact ⟨by first | rfl | simp_all, rfl⟩
  · have hx : decide (0 < s.size ∧ by' s 0 = 45) = false := decide_eq_false (fun h => h0 h.1)
    have c1 : ¬ (1 : Int) ≤ (s.size : Int) := by omega
    rw [hx]
    go_wp2
    go_ret
    exact ⟨rfl, rfl⟩
theorem c_CutPrefix (s t : ByteArray) (b : Bool) (w : World) (hb : decide (0 < s.size ∧ by' s 0 = 45) = b) (ht : t = if b then s.extract 1 s.size else s) : Calls Tryz.prog 95 #[.string s, .string { data := #[45] }] w fun e w' => e = .returned (.tuple #[.string t, .bool b]) ∧ Below w.heap.size w w' := by
  have key : Calls Tryz.prog 146 #[.string s, .string { data := #[45] }] w fun e w' => e = .returned (.tuple #[.string t, .bool b]) ∧ w' = w := by
    have HB := Lib.hid hb
    cases b with
    | true =>
      have hs : (1 : Int) ≤ (s.size : Int) := by have := (of_decide_eq_true hb).1; omega
      simp only [if_true] at ht
      have HT := Lib.hid ht
      clear hb ht
      go_enter Tryz.func146, Tryz.ntmps146
      go_wp2_with fail
      refine (c_HasPrefix s w).mono ?_
      rintro e w1 ⟨rfl, rfl⟩
      rw [HB.out]
      go_wp2
      go_ret2
      exact ⟨by rw [HT.out]; rfl, rfl⟩
    | false =>
      simp only [Bool.false_eq_true, if_false] at ht
      subst ht
      clear hb
      go_enter Tryz.func146, Tryz.ntmps146
      go_wp2_with fail
      refine (c_HasPrefix _ w).mono ?_
      rintro e w1 ⟨rfl, rfl⟩
      rw [HB.out]
      go_wp2
      go_ret2
      exact ⟨rfl, rfl⟩
  clear hb ht
  go_enter Tryz.func95, Tryz.ntmps95
  go_wp2_with fail
  refine key.mono ?_
  rintro e w1 ⟨rfl, rfl⟩
  go_wp2
  go_ret2
  exact ⟨rfl, Below.refl _ _⟩
end Go.Proofs.YthebfmlfgfmlnaaGreatDoor
namespace Go.Proofs.YthebfmlfgfmlnaaGreatDoor
set_option linter.unusedSimpArgs false
set_option linter.unusedVariables false
set_option maxRecDepth 100000
open Go.RowKit
/-- The text of a fraction. -/
def Fq.fmt (x : Fq) : ByteArray := if x.s then ({ data := #[45] } : ByteArray) ++ (if x.q = 1 then fmtB x.p else fmtB x.p ++ (({ data := #[47] } : ByteArray) ++ fmtB x.q)) else (if x.q = 1 then fmtB x.p else fmtB x.p ++ (({ data := #[47] } : ByteArray) ++ fmtB x.q))
theorem fmt_size (N : Nat) : (fmtB N).size ≤ 10 * nl N + 1 := by
  by_cases h0 : N = 0
  · subst h0; have e : fmtB 0 = ⟨#[48]⟩ := by unfold fmtB; rw [if_pos rfl]
    rw [e]; show 1 ≤ _; omega
  · have e : fmtB N = ⟨(decB N).reverse.toArray⟩ := by unfold fmtB; rw [if_neg h0]
    have hsz : (fmtB N).size = (decB N).length := by rw [e]; simp [ByteArray.size]
    have := decB_bound N
    omega
end Go.Proofs.YthebfmlfgfmlnaaGreatDoor
namespace Go.Proofs.YthebfmlfgfmlnaaGreatDoor
set_option linter.unusedSimpArgs false
set_option linter.unusedVariables false
set_option maxRecDepth 100000
open Go.RowKit
theorem pv_lt (s : ByteArray) (k : Nat) (hg : goodTo s k) : parseVal s k < 10 ^ k := by
  induction k with
  | zero => show 0 < 1; omega
  | succ k ih =>
    have h1 := ih (fun j hj => hg j (by omega))
    have h2 := hg k (by omega)
    show 10 * parseVal s k + (by' s k - 48) < 10 ^ (k + 1)
    rw [Nat.pow_succ]; omega
theorem parse_nlU {s : ByteArray} {N : Nat} {c : Int} (h : ParseIs s N c) : nl N ≤ 400 := by
  have h0 : nl 0 ≤ 400 := by rw [nl_zero]; omega
  by_cases h1 : s.size = 0
  · rw [(h.short h1).1]; exact h0
  · by_cases h2 : 400 < s.size
    · rw [(h.long h2).1]; exact h0
    · by_cases h3 : goodTo s s.size
      · by_cases h4 : by' s 0 = 48 → s.size = 1
        · rw [(h.good (by omega) (by omega) h4 h3).1]
          have key : ∀ k, s.size ≤ k → parseVal s s.size < 4294967296 ^ k := fun k hk => Nat.lt_of_lt_of_le (pv_lt s s.size h3) (Nat.le_trans (Nat.pow_le_pow_right (by decide) hk) (Nat.pow_le_pow_left (by decide) k))
          exact nl_le_iff.2 (key 400 (by omega))
        · have h5 : by' s 0 = 48 ∧ s.size ≠ 1 := by
            constructor
            · exact Classical.byContradiction fun h => h4 (fun h' => absurd h' h)
            · exact fun h => h4 (fun _ => h)
          rw [(h.zero (by omega) (by omega) h5.1).1]; exact h0
      · rw [(h.bad (by omega) (by omega) h3).1]; exact h0
/-- How a text falls into sign, numerator, slash, denominator. -/
structure Pieces (s t : ByteArray) (B F : Bool) (a b : ByteArray) : Prop where
  sign : decide (0 < s.size ∧ by' s 0 = 45) = B
  rest : t = if B then s.extract 1 s.size else s
  hit : F = true → ∃ i, slashAt t i ∧ a = t.extract 0 i ∧ b = t.extract (i + 1) t.size
  miss : F = false → noSlash t ∧ a = t ∧ b = { data := #[] }
theorem pieces_total (s : ByteArray) : ∃ t B F a b, Pieces s t B F a b := by
  obtain ⟨t, ht⟩ : ∃ t, t = if decide (0 < s.size ∧ by' s 0 = 45) then s.extract 1 s.size else s := ⟨_, rfl⟩
  rcases slash_cases t with ⟨i, hi⟩ | hn
  · exact ⟨t, _, true, _, _, rfl, ht, fun _ => ⟨i, hi, rfl, rfl⟩, fun h => (by cases h)⟩
  · exact ⟨t, _, false, _, _, rfl, ht, fun h => (by cases h), fun _ => ⟨hn, rfl, rfl⟩⟩
/-- The denominator; whether a fraction of these parts is accepted. -/
def parseQ (F : Bool) (N : Nat) : Nat := if F then N else 1
def parseV (B F : Bool) (M N : Nat) : Bool := if F then !decide (N = 1) && (Fq.mk B M N).valid else (Fq.mk B M 1).valid
/-- What a text is read as. -/
inductive FP (s : ByteArray) : Fq → Int → Prop
  | num {t B F a b M c} (h : Pieces s t B F a b) (ha : ParseIs a M c) (h0 : c ≠ 0) : FP s .zero c
  | den {t B a b M N c} (h : Pieces s t B true a b) (ha : ParseIs a M 0) (hb : ParseIs b N c) (h0 : c ≠ 0) : FP s .zero c
  | bad {t B F a b M N} (h : Pieces s t B F a b) (ha : ParseIs a M 0) (hb : F = true → ParseIs b N 0) (hv : parseV B F M N = false) : FP s .zero 2
  | good {t B F a b M N} (h : Pieces s t B F a b) (ha : ParseIs a M 0) (hb : F = true → ParseIs b N 0) (hv : parseV B F M N = true) : FP s ⟨B, M, parseQ F N⟩ 0
theorem fp_total (s : ByteArray) : ∃ x c, FP s x c := by
  obtain ⟨t, B, F, a, b, h⟩ := pieces_total s
  obtain ⟨M, c, ha⟩ := parse_total a
  obtain ⟨N, d, hb⟩ := parse_total b
  by_cases h0 : c = 0
  · subst h0
    by_cases h1 : F = true → d = 0
    · have hb' : F = true → ParseIs b N 0 := fun hF => by rw [← h1 hF]; exact hb
      cases hv : parseV B F M N
      · exact ⟨_, _, .bad h ha hb' hv⟩
      · exact ⟨_, _, .good h ha hb' hv⟩
    · have hF : F = true := Classical.byContradiction fun hF => h1 (fun h => absurd h hF)
      subst hF
      exact ⟨_, _, .den h ha hb (fun h => h1 (fun _ => h))⟩
  · exact ⟨_, _, .num h ha h0⟩
theorem cut_piece {s t a b : ByteArray} {B F : Bool} (h : Pieces s t B F a b) (w : World) (hs : t.size ≤ 4294967280) : Calls Tryz.prog 96 #[.string t, .string { data := #[47] }] w fun e w' => e = .returned (.tuple #[.string a, .string b, .bool F]) ∧ Below w.heap.size w w' := by
  cases F with
  | true => obtain ⟨i, h1, rfl, rfl⟩ := h.hit rfl; exact c_Cut w (c_sCut_hit t i w hs h1)
  | false => obtain ⟨h1, rfl, rfl⟩ := h.miss rfl; exact c_Cut w (c_sCut_miss _ w hs h1)
theorem pieces_size {s t a b : ByteArray} {B F : Bool} (h : Pieces s t B F a b) : t.size ≤ s.size := by
  rw [h.rest]
  cases B
  · simp
  · simp only [if_true, ByteArray.size_extract]; omega
end Go.Proofs.YthebfmlfgfmlnaaGreatDoor
