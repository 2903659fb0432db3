/- The law that a transform is decoded from its text as it was. -/
import Derived.Test.YthebfmlfgfmlnaaGreatDoorP18
namespace Go.Proofs.YthebfmlfgfmlnaaGreatDoor
set_option linter.unusedSimpArgs false
set_option linter.unusedVariables false
set_option maxRecDepth 100000
open Go.RowKit
theorem text_size {a : Pq} (h : a.ok 12) : a.text.size ≤ 4294967280 := by
  have z0 := qfmt_size h.rot.w
  have z1 := qfmt_size h.rot.x
  have z2 := qfmt_size h.rot.y
  have z3 := qfmt_size h.rot.z
  have z4 := qfmt_size h.pos.x
  have z5 := qfmt_size h.pos.y
  have z6 := qfmt_size h.pos.z
  show (joinB [_, _, _, _, _, _, _]).size ≤ _
  simp only [joinB, ByteArray.size, List.size_toArray, List.map_cons, List.map_nil, Lib.join, List.intercalate, List.intersperse, List.flatten_cons, List.flatten_nil, List.length_append, List.length_cons, List.length_nil, Array.length_toList] at *
  omega
def xmPoseRoundTripX (a : Pq) : List Fq := [a.rot.w, a.rot.x, a.rot.y, a.rot.z, a.pos.x, a.pos.y, a.pos.z]
theorem q_mPoseRoundTrip (va : Value) (a : Pq) (w : World) (ia : IsOq w va a) (ha : a.ok 4) (ga : a.good) (sa : a.lim 99 = true) :
    Calls Tryz.prog 4 #[va] w fun e w' => RetV w (.bool true) e w' := by
  refine (calls_runFn (ρ := frs (xmPoseRoundTripX a) ++ [.val (.string a.text)]) (w := w) (fuel := 300) (args := [row [0, 1, 2, 3, 4, 5, 6]]) (vs := [va]) (r := .v (.one (.b true)))
    (il_cons (I_Small99Q (ks := [0, 1, 2, 3, 4, 5, 6]) (a := a) ⟨rfl, rfl, rfl, rfl, rfl, rfl, rfl, trivial⟩ sa ha) (il_cons (I_poEnc (ks := [0, 1, 2, 3, 4, 5, 6]) (a := a) ⟨rfl, rfl, rfl, rfl, rfl, rfl, rfl, trivial⟩ (ls (n := 21) rfl) (ha.mono (by decide))) (il_cons (I_poDecode (l0 := .ref 21) (s := a.text) (kr := [0, 1, 2, 3, 4, 5, 6]) (fun _ _ _ h => leaf_val rfl h) ⟨rfl, rfl, rfl, rfl, rfl, rfl, rfl, trivial⟩ (li rfl) (pd_text ga (ha.mono (by decide))) (text_size (ha.mono (by decide)))) (il_cons (I_rpEnc (ks := [0, 1, 2, 3, 4, 5, 6]) (a := a) ⟨rfl, rfl, rfl, rfl, rfl, rfl, rfl, trivial⟩ (ls (n := 21) rfl) (ha.mono (by decide))) (il_cons (I_rpEqual1 (ka := [0, 1, 2, 3, 4, 5, 6]) (a := a) (kb := [0, 1, 2, 3, 4, 5, 6]) (b := a) ⟨rfl, rfl, rfl, rfl, rfl, rfl, rfl, trivial⟩ ⟨rfl, rfl, rfl, rfl, rfl, rfl, rfl, trivial⟩ (ha.mono (by decide)) (ha.mono (by decide)) rfl) (il_cons (I_awake) il_nil))))))
    (ol_cons (o_eqSR (n := 21) (m := 21) (t := 9) rfl rfl rfl) (ol_nil)) (by kernel_rfl) Tryz.func4 (by kernel_rfl) ⟨(row_isL (xs := xmPoseRoundTripX a) (ks := [0, 1, 2, 3, 4, 5, 6]) (vs := [a.rot.w, a.rot.x, a.rot.y, a.rot.z, a.pos.x, a.pos.y, a.pos.z]) ⟨rfl, rfl, rfl, rfl, rfl, rfl, rfl, trivial⟩).2 ia, trivial⟩).mono ?_
  rintro e w' ⟨v, rfl, h1, h2⟩
  exact ⟨congrArg Ending.returned h1, h2⟩
def xPoseRoundTrip0X (a0 a1 a2 a3 a4 a5 a6 : Rq) : List Fq := []
theorem n_PoseRoundTrip (va : Value) (a0 a1 a2 a3 a4 a5 a6 : Rq) (w : World) (ia : IsL w va [a0, a1, a2, a3, a4, a5, a6]) (la0 : a0.L ≤ 1100000) (na0 : a0.N ≤ 1100000) (la1 : a1.L ≤ 1100000) (na1 : a1.N ≤ 1100000) (la2 : a2.L ≤ 1100000) (na2 : a2.N ≤ 1100000) (la3 : a3.L ≤ 1100000) (na3 : a3.N ≤ 1100000) (la4 : a4.L ≤ 1100000) (na4 : a4.N ≤ 1100000) (la5 : a5.L ≤ 1100000) (na5 : a5.N ≤ 1100000) (la6 : a6.L ≤ 1100000) (na6 : a6.N ≤ 1100000) (hne : poseB 99 a0 a1 a2 a3 a4 a5 a6 = false) : Calls Tryz.prog 4 #[va] w fun e w' => RetV w (.bool true) e w' := by
  rcases Bool.eq_false_or_eq_true (poseB 99 a0 a1 a2 a3 a4 a5 a6) with hp0 | hp0
  · exact absurd hne (by rw [hp0]; decide)
  · refine (calls_runFn (ρ := frs (xPoseRoundTrip0X a0 a1 a2 a3 a4 a5 a6) ++ [.val (.bool a0.s), .dig a0.L a0.p, .dig a0.N a0.q, .val (.bool a1.s), .dig a1.L a1.p, .dig a1.N a1.q, .val (.bool a2.s), .dig a2.L a2.p, .dig a2.N a2.q, .val (.bool a3.s), .dig a3.L a3.p, .dig a3.N a3.q, .val (.bool a4.s), .dig a4.L a4.p, .dig a4.N a4.q, .val (.bool a5.s), .dig a5.L a5.p, .dig a5.N a5.q, .val (.bool a6.s), .dig a6.L a6.p, .dig a6.N a6.q]) (w := w) (fuel := 300) (args := [rowN [0, 3, 6, 9, 12, 15, 18]]) (vs := [va]) (r := .v (.one (.b true)))
      (il_cons (I_Small99 (ns := [0, 3, 6, 9, 12, 15, 18]) ⟨⟨rfl, rfl, rfl⟩, ⟨rfl, rfl, rfl⟩, ⟨rfl, rfl, rfl⟩, ⟨rfl, rfl, rfl⟩, ⟨rfl, rfl, rfl⟩, ⟨rfl, rfl, rfl⟩, ⟨rfl, rfl, rfl⟩, trivial⟩ hp0 la0 na0 la1 na1 la2 na2 la3 na3 la4 na4 la5 na5 la6 na6) (il_cons (I_awake) il_nil))
      ol_nil (by kernel_rfl) Tryz.func4 (by kernel_rfl) ⟨(rowN_isL (ns := [0, 3, 6, 9, 12, 15, 18]) (rs := [a0, a1, a2, a3, a4, a5, a6]) ⟨⟨rfl, rfl, rfl⟩, ⟨rfl, rfl, rfl⟩, ⟨rfl, rfl, rfl⟩, ⟨rfl, rfl, rfl⟩, ⟨rfl, rfl, rfl⟩, ⟨rfl, rfl, rfl⟩, ⟨rfl, rfl, rfl⟩, trivial⟩).2 ia, trivial⟩).mono ?_
    rintro e w' ⟨v, rfl, h1, h2⟩
    exact ⟨congrArg Ending.returned h1, h2⟩
theorem c_PoseRoundTrip (va : Value) (a0 a1 a2 a3 a4 a5 a6 : Rq) (w : World) (ia : IsL w va [a0, a1, a2, a3, a4, a5, a6]) (la0 : a0.L ≤ 1100000) (na0 : a0.N ≤ 1100000) (la1 : a1.L ≤ 1100000) (na1 : a1.N ≤ 1100000) (la2 : a2.L ≤ 1100000) (na2 : a2.N ≤ 1100000) (la3 : a3.L ≤ 1100000) (na3 : a3.N ≤ 1100000) (la4 : a4.L ≤ 1100000) (na4 : a4.N ≤ 1100000) (la5 : a5.L ≤ 1100000) (na5 : a5.N ≤ 1100000) (la6 : a6.L ≤ 1100000) (na6 : a6.N ≤ 1100000) : Calls Tryz.prog 4 #[va] w fun e w' => RetV w (.bool true) e w' := by
  rcases Bool.eq_false_or_eq_true (poseB 99 a0 a1 a2 a3 a4 a5 a6) with h | h
  · have fa := h
    obtain ⟨a, ea0, ea1, ea2, ea3, ea4, ea5, ea6, ga, ha, sa⟩ := poseB_v fa
    rw [ea0, ea1, ea2, ea3, ea4, ea5, ea6] at ia
    exact q_mPoseRoundTrip va a w ia ha ga sa
  · exact n_PoseRoundTrip va a0 a1 a2 a3 a4 a5 a6 w ia la0 na0 la1 na1 la2 na2 la3 na3 la4 na4 la5 na5 la6 na6 h
end Go.Proofs.YthebfmlfgfmlnaaGreatDoor
