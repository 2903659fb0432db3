/- An executor: functions. Sub of package fraction; Mul of the reference. -/
import Derived.Test.YthefidbgjgfeiaaGreatP08
namespace Go.Proofs.YthefidbgjgfeiaaGreat
set_option linter.unusedSimpArgs false
set_option linter.unusedVariables false
set_option maxRecDepth 100000
open Go.RowKit
def resA1 (p : Program) (s : MS) : ResultVar → Option SV
  | .tmp t => evS (msGet s) (.tmp t)
  | .cell t ty => match pureV p [] (msGet s) (.load ty (.tmp t)) with
    | some (.v x, _) => some x
    | _ => none
def resAs (p : Program) (s : MS) : List ResultVar → Option (List SV)
  | [] => some []
  | r :: rs => match resA1 p s r, resAs p s rs with
    | some x, some xs => some (x :: xs)
    | _, _ => none
def resA (p : Program) (s : MS) (rs : List ResultVar) : Option AV :=
  match resAs p s rs with
  | some [x] => some (.v x)
  | some xs => some (.tup xs)
  | none => none
def Leaf.noPtr : Leaf → Bool
  | .ptr _ _ => false
  | _ => true
def SV.noPtr : SV → Bool
  | .one l => l.noPtr
  | .agg ls => ls.all Leaf.noPtr
def AV.noPtr : AV → Bool
  | .v s => s.noPtr
  | .tup xs => xs.all SV.noPtr
  | .any => true
def startS (args : List SV) (n : Nat) : List (Option AV) := args.map (fun s => some (.v s)) ++ List.replicate (n - args.length) none
/-- The answer of a function. -/
def runFn (p : Program) (C : List Inst) (L : List OIns) (fn : Func) (args : List SV) (fuel : Nat) : Option AV :=
  if args.length ≤ fn.ntmps ∧ fn.ntmps ≤ 100000 then
    match fn.body with
    | some c => match exec p C L fn.ntmps fuel c ⟨startS args fn.ntmps, []⟩ with
      | some (.ext _, _) => none
      | some (_, s) => match resA p s fn.results.toList with
        | some r => if r.noPtr then some r else none
        | none => none
      | none => none
    | none => none
  else none
def resM (tmps : Array Value) : ResultVar → Sem Value
  | .tmp t => pure (tmps.getD t undef)
  | .cell t ty => do loadVar ty (← asAddr (tmps.getD t undef))
theorem results_eq (fn : Func) (tmps : Array Value) : results fn tmps = (do let vs ← fn.results.mapM (resM tmps); pure (if h : vs.size = 1 then vs[0] else .tuple vs)) := by
  unfold results
  congr 1
section
variable {p : Program} {ρ : Rho} {B : Blk} {a : Act} {w w0 : World} {C : List Inst} {L : List OIns} {nt : Nat}
theorem Leaf.holds.free {l : Leaf} {v : Value} {B' : Blk} (h : l.holds ρ B w v) (hn : l.noPtr = true) : l.holds ρ B' w v := by
  cases l <;> first | exact h | (simp [Leaf.noPtr] at hn)
theorem LeavesH.free {B' : Blk} : ∀ {ls : List Leaf} {vs : List Value}, LeavesH ρ B w ls vs → ls.all Leaf.noPtr = true → LeavesH ρ B' w ls vs
  | [], [], _, _ => trivial
  | _ :: _, _ :: _, h, hn => by
    simp only [List.all_cons, Bool.and_eq_true] at hn
    exact ⟨h.1.free hn.1, LeavesH.free h.2 hn.2⟩
  | [], _ :: _, h, _ => h.elim
  | _ :: _, [], h, _ => h.elim
theorem SV.holds.free {s : SV} {v : Value} {B' : Blk} (h : s.holds ρ B w v) (hn : s.noPtr = true) : s.holds ρ B' w v := by
  cases s with
  | one l => exact Leaf.holds.free h hn
  | agg ls => obtain ⟨vs, e, h⟩ := h; exact ⟨vs, e, h.free hn⟩
theorem SVsH.free {B' : Blk} : ∀ {ls : List SV} {vs : List Value}, SVsH ρ B w ls vs → ls.all SV.noPtr = true → SVsH ρ B' w ls vs
  | [], [], _, _ => trivial
  | _ :: _, _ :: _, h, hn => by
    simp only [List.all_cons, Bool.and_eq_true] at hn
    exact ⟨h.1.free hn.1, SVsH.free h.2 hn.2⟩
  | [], _ :: _, h, _ => h.elim
  | _ :: _, [], h, _ => h.elim
theorem AV.holds.free {s : AV} {v : Value} {B' : Blk} (h : s.holds ρ B w v) (hn : s.noPtr = true) : s.holds ρ B' w v := by
  cases s with
  | v s => exact SV.holds.free h hn
  | tup xs => obtain ⟨vs, e, h⟩ := h; exact ⟨vs, e, h.free hn⟩
  | any => exact h
theorem asAddr_of {v : Value} {ad : Addr} (h : v = .pointer (some ad)) : (asAddr v).run p w = .ok ad w := by subst h; rfl
theorem resAs_run {s : MS} (hv : ∀ x c, msGet s x = some c → LocH ρ B a w x c) : ∀ {rs : List ResultVar} {xs : List SV}, resAs p s rs = some xs →
    ∃ vs : List Value, (rs.mapM (resM a.tmps)).run p w = .ok vs w ∧ SVsH ρ B w xs vs
  | [], xs, h => by simp [resAs] at h; subst h; exact ⟨[], by simp, trivial⟩
  | r :: rs, xs, h => by
    simp only [resAs] at h
    split at h
    · rename_i x xs' h1 h2
      simp at h; subst h
      obtain ⟨vs, h3, h4⟩ := resAs_run hv h2
      have one : ∃ v, (resM a.tmps r).run p w = .ok v w ∧ x.holds ρ B w v := by
        cases r with
        | tmp t => exact ⟨a.tmps.getD t undef, rfl, evS_k (x := .tmp t) (fun y _ c hc => hv y c hc) h1⟩
        | cell t ty =>
          simp only [resA1] at h1
          split at h1
          · rename_i y rd hp
            injection h1 with h1; subst h1
            obtain ⟨ad, u, e1, e2, e3⟩ := load_var (p := p) hp (fun y _ c hc => hv y c hc) (fun y _ c hc => hv y c hc)
            refine ⟨u, ?_, e3⟩
            have e1' : a.tmps.getD t undef = .pointer (some ad) := e1
            simp only [resM, Sem.run_bind, asAddr_of e1', Result.andThen, e2]
          · cases h1
      obtain ⟨v, h5, h6⟩ := one
      refine ⟨v :: vs, ?_, h6, h4⟩
      simp only [List.mapM_cons, Sem.run_bind, Sem.run_pure]
      rw [h5]
      simp only [Result.andThen]
      rw [h3]
    · cases h
theorem resA_run {s : MS} (hv : ∀ x c, msGet s x = some c → LocH ρ B a w x c) {fn : Func} {r : AV} (h : resA p s fn.results.toList = some r) : ∃ v, (results fn a.tmps).run p w = .ok v w ∧ r.holds ρ B w v := by
  have arr : ∀ vs : List Value, (fn.results.toList.mapM (resM a.tmps)).run p w = .ok vs w →
      (results fn a.tmps).run p w = .ok (if h : vs.toArray.size = 1 then vs.toArray[0] else .tuple vs.toArray) w := by
    intro vs hvs
    rw [results_eq, Sem.run_bind]
    have : ∀ (f : ResultVar → Sem Value) (xs : Array ResultVar), (xs.toList.mapM f).run p w = .ok vs w → (xs.mapM f).run p w = .ok vs.toArray w := by
      intro f xs hx
      obtain ⟨l⟩ := xs
      simp only [List.mapM_toArray, map_eq_pure_bind, Sem.run_bind, hx, Result.andThen, Sem.run_pure]
    rw [this _ _ hvs]; rfl
  unfold resA at h
  split at h
  · rename_i x hx
    injection h with h; subst h
    obtain ⟨vs, h1, h2⟩ := resAs_run hv hx
    match vs, h2 with
    | [v], h2 => exact ⟨v, by rw [arr _ h1]; rfl, h2.1⟩
  · rename_i xs hne hx
    injection h with h; subst h
    obtain ⟨vs, h1, h2⟩ := resAs_run hv hx
    refine ⟨.tuple vs.toArray, ?_, vs, rfl, h2⟩
    rw [arr _ h1, dif_neg]
    intro h3
    match vs, xs, h2 with
    | [], [], _ => simp at h3
    | [_], [y], _ => exact hne y rfl
    | _ :: _ :: _, _, _ => simp at h3
  · cases h
theorem SVsH.len : ∀ {ls : List SV} {vs : List Value}, SVsH ρ B w ls vs → vs.length = ls.length
  | [], [], _ => rfl
  | _ :: _, _ :: _, h => by simp [h.2.len]
  | [], _ :: _, h => h.elim
  | _ :: _, [], h => h.elim
/-- A function answers what the executor reckons. -/
theorem calls_runFn (hC : ∀ i ∈ C, i.Ok p ρ) (hO : ∀ i ∈ L, i.Ok p ρ) (hm : p.follows .mixedOrders = true) {f : FuncId} {fn : Func} (hf : p.funcs[f]? = some fn) {args : List SV} {vs : List Value} {fuel : Nat} {r : AV}
    (h : runFn p C L fn args fuel = some r) (ha : SVsH ρ (fun _ => none) w args vs) : Calls p f vs.toArray w (fun e w' => ∃ v, e = .returned v ∧ r.holds ρ (fun _ => none) w' v ∧ Below w.heap.size w w') := by
  unfold runFn at h
  split at h
  · rename_i hn
    split at h
    · rename_i c hb
      have hl := ha.len
      have hst : MSt ρ w fn.ntmps ⟨startS args fn.ntmps, []⟩ { tmps := vs.toArray ++ Array.replicate (fn.ntmps - vs.toArray.size) undef, defers := [] } w := by
        refine ⟨fun _ => none, ⟨fun v g hg => (by cases hg), fun v v' g hg => (by cases hg), Below.refl _ _, by simp; omega, rfl⟩, fun x k hx => ?_, fun v hv => absurd rfl hv⟩
        unfold msGet at hx
        split at hx
        · rename_i hx1
          unfold LocH
          rw [if_pos hx1]
          simp only at hx
          unfold startS at hx
          by_cases hxa : x < args.length
          · rw [List.getElem?_append_left (by simpa using hxa), List.getElem?_map, List.getElem?_eq_getElem hxa] at hx
            simp at hx; subst hx
            obtain ⟨v, h1, h2⟩ := ha.get (List.getElem?_eq_getElem hxa)
            refine ⟨v, ?_, h2⟩
            simp only
            rw [Array.getElem?_append_left (by simp; omega)]
            simpa using h1
          · rw [List.getElem?_append_right (by simp; omega)] at hx
            simp only [List.getElem?_replicate] at hx
            split at hx
            · rename_i hq
              split at hq
              · simp at hq; subst hq; cases hx
              · cases hq
            · cases hx
        · simp at hx
      have hret : ∀ {s : MS} {e : Ex}, exec p C L fn.ntmps fuel c ⟨startS args fn.ntmps, []⟩ = some (e, s) → e = .nrm ∨ e = .ret → (match resA p s fn.results.toList with | some r => if r.noPtr then some r else none | none => none) = some r →
          Calls p f vs.toArray w (fun e w' => ∃ v, e = .returned v ∧ r.holds ρ (fun _ => none) w' v ∧ Below w.heap.size w w') := by
        intro s e he hor hr
        split at hr
        · rename_i r' hr'
          split at hr
          · rename_i hnp
            injection hr with hr; subst hr
            refine calls_of_wp hf hb (exec_sound hC hO hm he hst (fun a' w' hs' => ?_))
            obtain ⟨B, hi, hv, _⟩ := hs'
            obtain ⟨v, h1, h2⟩ := resA_run (p := p) hv hr'
            rcases hor with rfl | rfl
            · exact ⟨hi.dfr, v, h1, v, rfl, h2.free hnp, hi.below⟩
            · exact ⟨hi.dfr, v, h1, v, rfl, h2.free hnp, hi.below⟩
          · cases hr
        · cases hr
      split at h
      · cases h
      · rename_i e s he hx
        have hor : e = .nrm ∨ e = .ret := by
          cases e with
          | nrm => exact .inl rfl
          | ret => exact .inr rfl
          | ext id => exact (he id rfl).elim
        exact hret hx hor h
      · cases h
    · cases h
  · cases h
end
end Go.Proofs.YthefidbgjgfeiaaGreat
namespace Go.Proofs.YthefidbgjgfeiaaGreat
set_option linter.unusedSimpArgs false
set_option linter.unusedVariables false
set_option maxRecDepth 100000
open Go.RowKit
def fSubT0 (x : Fq) (y : Fq) : List (Nat × Tmp × Sp) :=
   [(0, 5, .fq x),
    (1, 6, .fq y),
    (2, 7, .fq y.neg),
    (3, 8, .fq (x.add y.neg))]
set_option maxHeartbeats 4000000 in
theorem q_fSub (va vb : Value) (x y : Fq) (w : World) (ha : IsQ w va x) (hb : IsQ w vb y) (h : x.ok 1000000000) (k : y.ok 1000000000) :
    Calls Tryz.prog 36 #[va, vb] w fun e w' => RetQ w (x.sub y) e w' := by
  obtain ⟨a0, c0, b0, d0, rfl, m0, k0⟩ := boxF ha
  obtain ⟨a1, c1, b1, d1, rfl, m1, k1⟩ := boxF (hb.mono m0)
  rw [World.size_alloc ] at k1
  have n1 := m0.trans (m1.mono m0.size)
  obtain ⟨m2, k2⟩ := resF (w := ((w.alloc (.cells #[.bool x.s, .slice a0 (nl x.p) c0, .slice b0 (nl x.q) d0] 31)).alloc (.cells #[.bool y.s, .slice a1 (nl y.p) c1, .slice b1 (nl y.q) d1] 31)))
  rw [World.size_alloc, World.size_alloc ] at k2
  have n2 := n1.trans (m2.mono n1.size)
  clear ha hb
  go_enter Tryz.func36, Tryz.ntmps36
  go_upto_region 0 with (fail)
  go_cut [2, 3, 4] (fun s_2 s_3 s_4 wx => s_2 = Value.pointer (some ⟨w.heap.size, 0, none⟩) ∧ s_3 = Value.pointer (some ⟨w.heap.size + 1, 0, none⟩) ∧ s_4 = Value.pointer (some ⟨w.heap.size + 2, 0, none⟩) ∧ VarQ wx w.heap.size x ∧ VarQ wx (w.heap.size + 1) y ∧ VarFB wx (w.heap.size + 2) false none 0 0 none 0 0 ∧ Below w.heap.size w wx)
  case first =>
    go_wp2_with fail
    go_meet
    case rel => exact ⟨rfl, rfl, rfl, ((k0.mono m1).mono m2), (k1.mono m2), k2, n2⟩
  case rest =>
  clear m0 k0 m1 k1 m2 k2 n1 n2
  obtain ⟨rfl, rfl, rfl, V0, V1, V2, hb1⟩ := hcut
  go_upto_region 1 with (fail)
  go_cut [] (fun wx => VarQ wx w.heap.size x ∧ VarQ wx (w.heap.size + 1) y ∧ VarQ wx (w.heap.size + 2) (x.add y.neg) ∧ Below w.heap.size w wx)
  case first =>
    refine wp_tabG Tryz.f36 1 (fSubT0 x y) [] (fun _ => false) 4 1 (by kernel_rfl) (by kernel_rfl) (by kernel_rfl) (by kernel_rfl) (by kernel_rfl) (EachX.of_all (fun _ h => by cases h) _) ?_ ?_
    · refine ⟨fun _ _ F => gR rfl rfl (arm_loadF rfl (F.k 2 (Value.pointer (some ⟨w.heap.size, 0, none⟩))) (V0.mono F.below)).b, ?_⟩
      refine ⟨fun _ _ F => gR rfl rfl (arm_loadF rfl (F.k 3 (Value.pointer (some ⟨w.heap.size + 1, 0, none⟩))) (V1.mono F.below)).b, ?_⟩
      refine ⟨fun _ _ F => gR rfl rfl (arm_C1 rfl (enters Tryz.func64 rfl rfl) (F.f 1 rfl) (fun va w h1 => q_fNeg va y w h1 k) (fun _ _ h => ofQ h)).b, ?_⟩
      refine ⟨fun _ _ F => gR rfl rfl (arm_C2 rfl (enters Tryz.func47 rfl rfl) (F.f 0 rfl) (F.f 2 rfl) (fun va vb w h1 h2 => q_fAdd va vb x y.neg w h1 h2 h k.neg) (fun _ _ h => ofQ h)).b, ?_⟩
      exact trivial
    intro E' hE gp wp bp G Gs
    obtain rfl : E' = [] := by simpa [subs] using hE
    have n_3 : (Sp.fq (x.add y.neg)).p wp (gp 3) := G 3 8 _ (by simp) rfl
    clear G Gs hE
    simp only [fSubT0]
    simp only [qA, setD, qZ, qS]
    have T0 := (V2.mono bp V2.lt)
    refine wpAny_storeFr (j := 4) (by kernel_rfl) rfl rfl rfl rfl rfl n_3 T0.any ?_
    intro w0 u0 v0
    have O0 := T0.own
    refine wpAny_done (by kernel_rfl) ?_ _
    go_wp2_with fail
    go_meet
    case rel => exact ⟨((V0.mono bp).upd O0 u0 (by omega)), ((V1.mono bp).upd O0 u0 (by omega)), v0, (Upd.below (hb1.trans (bp.mono hb1.size)) u0 (by omega))⟩
  case rest =>
  clear V0 V1 V2 hb1
  obtain ⟨V0, V1, V2, hb1⟩ := hcut
  obtain ⟨r1, r2, r3, r4, rV, rn, rm⟩ := V2
  have c0 := rV.cell0
  have c1 := rV.cell1
  have c2 := rV.cell2
  go_wp2
  exact bodyPost_ret (res_F rfl rfl rV) rfl ⟨_, rfl, ⟨r1, r2, r3, r4, rfl, rn, rm⟩, hb1⟩
def rMulT0 (w : World) (x : Fq) (y : Fq) (X : Nat) (Dn : Nat) (base : Nat) : List (Nat × Tmp × Sp) :=
   [(0, 8, .val (Value.pointer (some ⟨w.heap.size, 0, none⟩))),
    (1, 9, .val (Value.bool x.s)),
    (2, 10, .val (Value.pointer (some ⟨w.heap.size + 1, 0, none⟩))),
    (3, 11, .val (Value.bool y.s)),
    (4, 12, .val (Value.bool (x.s != y.s))),
    (5, 13, .val (Value.pointer (some ⟨w.heap.size, 1, none⟩))),
    (6, 14, .nat (x.p)),
    (7, 15, .val (Value.pointer (some ⟨w.heap.size + 1, 1, none⟩))),
    (8, 16, .nat (y.p)),
    (9, 17, .nat (X)),
    (10, 18, .val (Value.pointer (some ⟨w.heap.size, 2, none⟩))),
    (11, 19, .nat (x.q)),
    (12, 20, .val (Value.pointer (some ⟨w.heap.size + 1, 2, none⟩))),
    (13, 21, .nat (y.q)),
    (14, 22, .nat (Dn)),
    (15, 23, .pair (.fq (Fq.low (x.s != y.s) X Dn)) (.val (Value.int IntKind.i64 0))),
    (16, 7, .pair (.fq (Fq.low (x.s != y.s) X Dn)) (.val (Value.int IntKind.i64 0))),
    (17, 24, .fq (Fq.low (x.s != y.s) X Dn)),
    (18, 25, .val (Value.int IntKind.i64 0)),
    (19, 5, .varF base)]
def rMulT1 (x : Fq) (y : Fq) (X : Nat) (Dn : Nat) : List (Nat × Tmp × Sp) :=
   [(0, 26, .fq (Fq.low (x.s != y.s) X Dn))]
set_option maxHeartbeats 4000000 in
theorem q_rMul (va vb : Value) (x y : Fq) (w : World) (ha : IsQ w va x) (hb : IsQ w vb y) (h : x.ok 1000000000) (k : y.ok 1000000000) :
    Calls Tryz.prog 27 #[va, vb] w fun e w' => RetQ w (x.mul y) e w' := by
  have b_xp : nl x.p ≤ 1000000000000 := Nat.le_trans h.p (by decide)
  have b_xq : nl x.q ≤ 1000000000000 := Nat.le_trans h.q (by decide)
  have b_yp : nl y.p ≤ 1000000000000 := Nat.le_trans k.p (by decide)
  have b_yq : nl y.q ≤ 1000000000000 := Nat.le_trans k.q (by decide)
  obtain ⟨X, hX⟩ : ∃ N : Nat, Hid (N = x.p * y.p) := ⟨_, Lib.hid rfl⟩
  obtain ⟨Dn, hDn⟩ : ∃ N : Nat, Hid (N = x.q * y.q) := ⟨_, Lib.hid rfl⟩
  have hXb : nl X ≤ 10000000000 := by rw [hX.out]; exact Nat.le_trans (nl_mul2 h.p k.p) (by decide)
  have hDb : nl Dn ≤ 10000000000 := by rw [hDn.out]; exact Nat.le_trans (nl_mul2 h.q k.q) (by decide)
  have HD0 : Hid (Dn ≠ 0) := Lib.hid (by rw [hDn.out]; exact Nat.mul_ne_zero h.n k.n)
  show Calls Tryz.prog 27 #[va, vb] w fun e w' => RetQ w (Fq.low (x.s != y.s) (x.p * y.p) (x.q * y.q)) e w'
  rw [← hX.out, ← hDn.out]
  obtain ⟨a0, c0, b0, d0, rfl, m0, k0⟩ := boxF ha
  obtain ⟨a1, c1, b1, d1, rfl, m1, k1⟩ := boxF (hb.mono m0)
  rw [World.size_alloc ] at k1
  have n1 := m0.trans (m1.mono m0.size)
  obtain ⟨m2, k2⟩ := resF (w := ((w.alloc (.cells #[.bool x.s, .slice a0 (nl x.p) c0, .slice b0 (nl x.q) d0] 31)).alloc (.cells #[.bool y.s, .slice a1 (nl y.p) c1, .slice b1 (nl y.q) d1] 31)))
  rw [World.size_alloc, World.size_alloc ] at k2
  have n2 := n1.trans (m2.mono n1.size)
  clear ha hb
  go_enter Tryz.func27, Tryz.ntmps27
  go_upto_region 0 with (fail)
  go_cut [2, 3, 4] (fun s_2 s_3 s_4 wx => s_2 = Value.pointer (some ⟨w.heap.size, 0, none⟩) ∧ s_3 = Value.pointer (some ⟨w.heap.size + 1, 0, none⟩) ∧ s_4 = Value.pointer (some ⟨w.heap.size + 2, 0, none⟩) ∧ VarQ wx w.heap.size x ∧ VarQ wx (w.heap.size + 1) y ∧ VarFB wx (w.heap.size + 2) false none 0 0 none 0 0 ∧ Below w.heap.size w wx)
  case first =>
    go_wp2_with fail
    go_meet
    case rel => exact ⟨rfl, rfl, rfl, ((k0.mono m1).mono m2), (k1.mono m2), k2, n2⟩
  case rest =>
  clear m0 k0 m1 k1 m2 k2 n1 n2
  obtain ⟨rfl, rfl, rfl, V0, V1, V2, hb1⟩ := hcut
  go_upto_region 1 with (fail)
  go_cut [5] (fun s_5 wx => ∃ g5, s_5 = Value.pointer (some ⟨g5, 0, none⟩) ∧ w.heap.size + 3 ≤ g5 ∧ VarQ wx g5 (Fq.low (x.s != y.s) X Dn) ∧ VarQ wx w.heap.size x ∧ VarQ wx (w.heap.size + 1) y ∧ VarFB wx (w.heap.size + 2) false none 0 0 none 0 0 ∧ Below w.heap.size w wx)
  case first =>
    obtain ⟨base, hbase0⟩ : ∃ b : Nat, Hid (b = wc.heap.size) := ⟨_, Lib.hid rfl⟩
    have hbase : base ≤ wc.heap.size := by rw [hbase0.out]; exact Nat.le_refl _
    have hbw : w.heap.size + 3 ≤ base := by have := hb1.size; have h1 := V2.lt; rw [hbase0.out]; omega
    have l_V0 : w.heap.size < base := by rw [hbase0.out]; exact V0.lt
    have l_V1 : w.heap.size + 1 < base := by rw [hbase0.out]; exact V1.lt
    have l_V2 : w.heap.size + 2 < base := by rw [hbase0.out]; exact V2.lt
    refine wp_tabG Tryz.f27 1 (rMulT0 w x y X Dn base) [18] (fun i => i == 19) 9 2 (by kernel_rfl) (by kernel_rfl) (by kernel_rfl) (by kernel_rfl) (by kernel_rfl) ⟨fun h => (by cases h), ⟨fun h => (by cases h), ⟨fun h => (by cases h), ⟨fun h => (by cases h), ⟨fun h => (by cases h), ⟨fun h => (by cases h), ⟨fun h => (by cases h), ⟨fun h => (by cases h), ⟨fun h => (by cases h), ⟨fun h => (by cases h), ⟨fun h => (by cases h), ⟨fun h => (by cases h), ⟨fun h => (by cases h), ⟨fun h => (by cases h), ⟨fun h => (by cases h), ⟨fun h => (by cases h), ⟨fun h => (by cases h), ⟨fun h => (by cases h), ⟨fun h => (by cases h), ⟨fun _ w v h => Sp.varF_lt h, trivial⟩⟩⟩⟩⟩⟩⟩⟩⟩⟩⟩⟩⟩⟩⟩⟩⟩⟩⟩⟩ ?_ ?_
    · refine ⟨fun _ _ F => gR rfl rfl (arm_fieldF rfl (F.k 2 (Value.pointer (some ⟨w.heap.size, 0, none⟩))) (run_field0 _)).b, ?_⟩
      refine ⟨fun _ _ F => gR rfl rfl (arm_loadS rfl (F.f 0 rfl) (V0.mono F.below)).b, ?_⟩
      refine ⟨fun _ _ F => gR rfl rfl (arm_fieldF rfl (F.k 3 (Value.pointer (some ⟨w.heap.size + 1, 0, none⟩))) (run_field0 _)).b, ?_⟩
      refine ⟨fun _ _ F => gR rfl rfl (arm_loadS rfl (F.f 2 rfl) (V1.mono F.below)).b, ?_⟩
      refine ⟨fun _ _ F => gR rfl rfl (arm_bin rfl (F.f 1 rfl) (F.f 3 rfl) (fun _ => rfl) (fun w => run_neB _ _ w)).b, ?_⟩
      refine ⟨fun _ _ F => gR rfl rfl (arm_fieldF rfl (F.k 2 (Value.pointer (some ⟨w.heap.size, 0, none⟩))) (run_field1 _)).b, ?_⟩
      refine ⟨fun _ _ F => gR rfl rfl (arm_load1 rfl (F.f 5 rfl) (V0.mono F.below)).b, ?_⟩
      refine ⟨fun _ _ F => gR rfl rfl (arm_fieldF rfl (F.k 3 (Value.pointer (some ⟨w.heap.size + 1, 0, none⟩))) (run_field1 _)).b, ?_⟩
      refine ⟨fun _ _ F => gR rfl rfl (arm_load1 rfl (F.f 7 rfl) (V1.mono F.below)).b, ?_⟩
      refine ⟨fun _ _ F => gR rfl rfl (arm_C2 rfl (enters Tryz.func57 rfl rfl) (F.f 6 rfl) (F.f 8 rfl) (fun va vb w h1 h2 => c_ref_Mul va vb x.p y.p w h1 h2 b_xp b_yp) (fun _ _ h => by rw [hX.out]; exact ofNew h)).b, ?_⟩
      refine ⟨fun _ _ F => gR rfl rfl (arm_fieldF rfl (F.k 2 (Value.pointer (some ⟨w.heap.size, 0, none⟩))) (run_field2 _)).b, ?_⟩
      refine ⟨fun _ _ F => gR rfl rfl (arm_load2 rfl (F.f 10 rfl) (V0.mono F.below)).b, ?_⟩
      refine ⟨fun _ _ F => gR rfl rfl (arm_fieldF rfl (F.k 3 (Value.pointer (some ⟨w.heap.size + 1, 0, none⟩))) (run_field2 _)).b, ?_⟩
      refine ⟨fun _ _ F => gR rfl rfl (arm_load2 rfl (F.f 12 rfl) (V1.mono F.below)).b, ?_⟩
      refine ⟨fun _ _ F => gR rfl rfl (arm_C2 rfl (enters Tryz.func57 rfl rfl) (F.f 11 rfl) (F.f 13 rfl) (fun va vb w h1 h2 => c_ref_Mul va vb x.q y.q w h1 h2 b_xq b_yq) (fun _ _ h => by rw [hDn.out]; exact ofNew h)).b, ?_⟩
      refine ⟨fun _ _ F => gR rfl rfl (arm_C3 rfl (enters Tryz.func56 rfl rfl) (F.f 4 rfl) (F.f 9 rfl) (F.f 14 rfl) (fun va vb vc w h1 h2 h3 => by have e_va : va = _ := h1; subst e_va; exact q_rMake (x.s != y.s) vb vc X Dn w h2 h3 (by omega) (by omega) HD0.out) (fun _ _ h => ofQE h)).b, ?_⟩
      refine ⟨fun _ _ F => gR rfl rfl (arm_move (.inl rfl) (F.f 15 rfl)).b, ?_⟩
      refine ⟨fun _ _ F => gR rfl rfl (arm_pair0 rfl (F.f 16 rfl)).b, ?_⟩
      refine ⟨fun _ _ F => gR rfl rfl (arm_pair1 rfl (F.f 16 rfl)).b, ?_⟩
      refine ⟨fun _ _ F => gR rfl rfl (arm_allocF rfl (Nat.le_trans hbase F.below.size)), ?_⟩
      exact trivial
    intro E' hE gp wp bp G Gs
    simp only [subs, List.map_cons, List.map_nil, List.nil_append, List.cons_append, List.mem_cons, List.not_mem_nil, or_false, List.append_nil] at hE
    rcases hE with rfl | rfl
    · obtain ⟨g5, e_19, lg_19, hv_19⟩ := G 19 5 _ (by simp) rfl
      have n_17 : (Sp.fq (Fq.low (x.s != y.s) X Dn)).p wp (gp 17) := G 17 24 _ (by simp) rfl
      have e_18 : gp 18 = Value.int IntKind.i64 0 := G 18 25 _ (by simp) rfl
      clear G Gs
      simp only [rMulT0]
      simp only [qA, setD, qZ, qS, e_19, e_18]
      have T0 := hv_19
      refine wpAny_storeFr (j := 20) (by kernel_rfl) rfl rfl rfl rfl rfl n_17 T0.any ?_
      intro w0 u0 v0
      have O0 := T0.own
      refine wpAny_takeD (i := 21) (d := some 6) (v := Value.int IntKind.i64 0) rfl rfl (by kernel_rfl) (by kernel_rfl) (by kernel_rfl) (fun _ _ _ h => h) (Or.inl ⟨by rfl, fun w => by rfl⟩) ?_
      try simp only [qP, qZ, qS]
      refine wpAny_done (by kernel_rfl) ?_ _
      go_wp2_with fail
      go_meet
      case rel => exact ⟨g5, rfl, (by omega), v0, ((V0.mono bp).upd O0 u0 (by omega)), ((V1.mono bp).upd O0 u0 (by omega)), ((V2.mono bp V2.lt).upd O0 u0 (by omega)), (Upd.below (hb1.trans (bp.mono hb1.size)) u0 (by omega))⟩
    · obtain ⟨g5, e_19, lg_19, hv_19⟩ := G 19 5 _ (by simp) rfl
      obtain ⟨x_16_0, x_16_1, e_16, n_16_0, rfl⟩ := G 16 7 _ (by simp) rfl
      have n_17 : (Sp.fq (Fq.low (x.s != y.s) X Dn)).p wp (gp 17) := G 17 24 _ (by simp) rfl
      clear G Gs
      simp only [rMulT0]
      simp only [qA, setD, qZ, qS, e_19, e_16]
      refine wpAny_takeD (i := 18) (d := some 25) (v := Value.int IntKind.i64 0) rfl rfl (by kernel_rfl) (by kernel_rfl) (by kernel_rfl) (fun _ _ _ h => h) (Or.inl ⟨by rfl, fun w => by rfl⟩) ?_
      try simp only [qP, qZ, qS]
      have T0 := hv_19
      refine wpAny_storeFr (j := 20) (by kernel_rfl) rfl rfl rfl rfl rfl n_17 T0.any ?_
      intro w0 u0 v0
      have O0 := T0.own
      refine wpAny_takeD (i := 21) (d := some 6) (v := Value.int IntKind.i64 0) rfl rfl (by kernel_rfl) (by kernel_rfl) (by kernel_rfl) (fun _ _ _ h => h) (Or.inl ⟨by rfl, fun w => by rfl⟩) ?_
      try simp only [qP, qZ, qS]
      refine wpAny_done (by kernel_rfl) ?_ _
      go_wp2_with fail
      go_meet
      case rel => exact ⟨g5, rfl, (by omega), v0, ((V0.mono bp).upd O0 u0 (by omega)), ((V1.mono bp).upd O0 u0 (by omega)), ((V2.mono bp V2.lt).upd O0 u0 (by omega)), (Upd.below (hb1.trans (bp.mono hb1.size)) u0 (by omega))⟩
  case rest =>
  clear V0 V1 V2 hb1
  obtain ⟨g5, rfl, lg5, V5, V0, V1, V2, hb1⟩ := hcut
  go_upto_region 2 with (fail)
  go_cut [] (fun wx => VarQ wx w.heap.size x ∧ VarQ wx (w.heap.size + 1) y ∧ VarQ wx (w.heap.size + 2) (Fq.low (x.s != y.s) X Dn) ∧ VarQ wx g5 (Fq.low (x.s != y.s) X Dn) ∧ Below w.heap.size w wx)
  case first =>
    refine wp_tabGF Tryz.f27 2 (rMulT1 x y X Dn) [] (fun _ => false) 2 1 (by kernel_rfl) (by kernel_rfl) (by kernel_rfl) (by kernel_rfl) (by kernel_rfl) (EachX.of_all (fun _ h => by cases h) _) ?_ ?_
    · refine ⟨fun _ _ F => gR rfl rfl (arm_loadF rfl (F.k 5 (Value.pointer (some ⟨g5, 0, none⟩))) (V5.mono F.below)).b, ?_⟩
      exact trivial
    intro E' hE gp wp bp G Gs
    obtain rfl : E' = [] := by simpa [subs] using hE
    have n_0 : (Sp.fq (Fq.low (x.s != y.s) X Dn)).p wp (gp 0) := G 0 26 _ (by simp) rfl
    clear G Gs hE
    simp only [rMulT1]
    simp only [qA, setD, qZ, qS]
    have T0 := (V2.mono bp V2.lt)
    refine wpAny_storeFr (j := 1) (by kernel_rfl) rfl rfl rfl rfl rfl n_0 T0.any ?_
    intro w0 u0 v0
    have O0 := T0.own
    refine wpAny_done (by kernel_rfl) ?_ _
    go_wp2_with fail
    go_meet
    case rel => exact ⟨((V0.mono bp).upd O0 u0 (by omega)), ((V1.mono bp).upd O0 u0 (by omega)), v0, ((V5.mono bp).upd O0 u0 (by omega)), (Upd.below (hb1.trans (bp.mono hb1.size)) u0 (by omega))⟩
  case rest =>
  clear V0 V1 V2 V5 hb1
  obtain ⟨V0, V1, V2, V5, hb1⟩ := hcut
  obtain ⟨r1, r2, r3, r4, rV, rn, rm⟩ := V2
  have c0 := rV.cell0
  have c1 := rV.cell1
  have c2 := rV.cell2
  go_wp2
  exact bodyPost_ret (res_F rfl rfl rV) rfl ⟨_, rfl, ⟨r1, r2, r3, r4, rfl, rn, rm⟩, hb1⟩
end Go.Proofs.YthefidbgjgfeiaaGreat
