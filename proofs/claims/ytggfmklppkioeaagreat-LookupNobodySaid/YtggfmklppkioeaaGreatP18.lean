/- Trees of frames: names and steps of the statements; no tree. The transform of an edge of no tree. Trees of frames: a step of the statements is done to a tree. slices.Sorted(maps.Keys(m)): the shelf's contracts, laid (printed by the kit's lay-iter.mjs, names set for the templates). Trees of frames: Frames: the keys of a set in ascending order. Trees of frames: the example that is tried first; nobody. Rows of the call's own; rows of steps; what steps leave of the parents. Trees of frames: Edge. Trees of frames: Span. Trees of frames: Links. Trees of frames: plain facts of the rows of links, of roots. slices.Contains at texts; the frames that a tree knows. The ancestors of a frame, as an iterator. -/
import Derived.Test.YtggfmklppkioeaaGreatP17
import Derived.Laws.ResultCell
import Derived.Shelf.SlIter.Nil
import Derived.Shelf.SortM.Plain
import Derived.Shelf.SortM.SortNone
import Derived.Ground.GgzProg
import Derived.Ground.SlgmProg
import Derived.Deep.Cut
import Derived.RangeFuncNested
import Derived.RangeFuncBound
import Derived.RangeFuncCalls
import Derived.RangeFuncLeaves
import Derived.RangeFuncBox
import Derived.Shelf.Abstract
import Derived.Shelf.RegionOpen
import Derived.OwnWalkIn
import Derived.TacticsInMore
import Derived.LoopNIn
import Derived.LoopIn
import Derived.Sort.LoopGhostIn
import Derived.Maps.AppendAt
namespace Go.Proofs.YtggfmklppkioeaaGreat
set_option linter.unusedSimpArgs false
set_option linter.unusedVariables false
set_option maxRecDepth 100000
open Go.RowKit
def qT:ByteArray:=ByteArray.mk #[102,103,104,105,106,107,108,109,110,111,112,113,114,115,116,117,118,119,120,121,122,97,98,99,100,101,65,66,67,68,69,70]
def nM (n:Int):Nm:=if n % 31=30 then qR else qT.extract (n % 31).toNat ((n % 31).toNat+1)
theorem run_slS {t:TypeId} {s:ByteArray} {c u:Int} {w:World} (ht:rE Tryz.prog t=true) (h0:0≤c) (h1:c≤u) (h2:u≤s.size):(Instr.slice t (.string s) (some (.int .i64 c)) (some (.int .i64 u)) none).run Tryz.prog w= .ok (.string (s.extract c.toNat u.toNat)) w:=by
 have h3:0≤u:=by omega
 have h4:c≤(u.toNat:Int):=by omega
 have h5:c≤max u 0:=by omega
 simp[Instr.slice,Instr.sliceBounds,Instr.sliceBound,asIntOf,Sem.run_bind,run_underlying (yO ht),Result.andThen,h0,h1,h2,h3,h4,h5]
theorem qU {P:Program} {fn:Func} {p u:Tmp} {ty:TypeId} (h:fn.results=#[.cell p ty,.tmp u]) (tmps:Array Value) (w:World) (g:Nat) (t:TypeId) (cs:Array Value) (fr:Nat×Nat) (d:TypeDesc)
  (hp:tmps.getD p undef= .pointer (some ⟨g,0,none⟩)) (hg:w.heap[g]? =some (.cells cs t fr))
  (hu:P.underlying ty=some d) (hd:(match d with | .struct _ | .array _ _=>true | _=>false)=true) (hi:(P.info? ty).map (·.size)=some cs.size):
  (results fn tmps).run P w= .ok (.tuple #[.agg cs,tmps.getD u undef]) w:=by
 rw[results_cell_tmp h,hp]
 simp[asAddr,Result.andThen,run_loadVar_row w g t ty cs fr d hg hu hd hi]
theorem q_Name {w:World} (n:Int) (h:0≤n∧n<256):Calls Tryz.prog 39 #[.int .u8 n] w fun e w'=>e= .returned (.string (nM n))∧w'=w:=by
 obtain⟨m,hm⟩:∃m,m=n.tmod 31:=⟨_,rfl⟩
 have hm2:n % 31=m:=by rw[hm,Int.tmod_eq_emod_of_nonneg h.1]
 have hm0:0≤m:=by omega
 have hm1:m<31:=by omega
 have hm':=hm.symm
 have HN:=Lib.hid (show nM n=if m=30 then qR else qT.extract m.toNat (m.toNat+1)by unfold nM;rw[hm2])
 clear hm hm2
 by_cases c:m=30
 ·have HQ:=Lib.hid (show nM n=qR by rw[HN.out,if_pos c])
  subst c
  clear HN h
  go_enter Tryz.func39,Tryz.ntmps39
  go_wp2
  go_ret
  rw[HQ.out]
  exact⟨rfl,rfl⟩
 ·have HQ:=Lib.hid (show nM n=qT.extract m.toNat (m.toNat+1)by rw[HN.out,if_neg c])
  have c':(m==30)=false:=beq_eq_false_iff_ne.2 c
  have hm3:m+1≤32:=by omega
  have ht:(m+1).toNat=m.toNat+1:=by omega
  have hsl:(Instr.slice 9 (.string (ByteArray.mk #[102,103,104,105,106,107,108,109,110,111,112,113,114,115,116,117,118,119,120,121,122,97,98,99,100,101,65,66,67,68,69,70])) (some (.int .i64 m)) (some (.int .i64 (m+1))) none).run Tryz.prog w= .ok (.string (qT.extract m.toNat (m.toNat+1))) w:=by
   rw[←ht]
   exact run_slS (s:=qT) (by kernel_rfl) hm0 (by omega) (by have:(qT.size:Int)=32:=rfl;omega)
  clear HN c h hm3 ht
  go_enter Tryz.func39,Tryz.ntmps39
  go_wp2
  go_ret
  rw[HQ.out]
  exact⟨rfl,rfl⟩
section
variable {w:World} {c p:Nm} {a:Int} {v:Value}
end
def zero21:List Leaf:=[.b false,.sl0,.sl0,.b false,.sl0,.sl0,.b false,.sl0,.sl0,.b false,.sl0,.sl0,.b false,.sl0,.sl0,.b false,.sl0,.sl0,.b false,.sl0,.sl0]
def aw:List Value:=[.bool false,.slice none 0 0,.slice none 0 0,.bool false,.slice none 0 0,.slice none 0 0,.bool false,.slice none 0 0,.slice none 0 0,.bool false,.slice none 0 0,.slice none 0 0,.bool false,.slice none 0 0,.slice none 0 0,.bool false,.slice none 0 0,.slice none 0 0,.bool false,.slice none 0 0,.slice none 0 0]
theorem uy {ρ:Rho} {B:Blk} {w:World}:aB ρ B w zero21 aw:=⟨rfl,rfl,rfl,rfl,rfl,rfl,rfl,rfl,rfl,rfl,rfl,rfl,rfl,rfl,rfl,rfl,rfl,rfl,rfl,rfl,rfl,trivial⟩
section
open Classical
theorem TPost.cell {w w':World} {t m B:Nat} {E E':List Ch} (h:TPost w t m E w' E') (hB:B∉fpT t m E) (hl:B<w.heap.size) (j:Nat):w'.cell? ⟨B,j,none⟩=w.cell? ⟨B,j,none⟩:=World.cell?_of_block (h.kp.block B hl hB)
structure DoC (w w1:World) (t m B:Nat) (E:List Ch) (k c p a x u:Int):Prop where
 eq:w.alloc (.cells #[.int .u8 k,.int .u8 c,.int .u8 p,.int .i16 a,.int .i8 x,.int .u8 u] 67)=w1
 hB:w.heap.size=B
 tm:TM w1 t m E
 pre:∀(w2 w3:World) (E':List Ch),Below w1.heap.size w1 w2→TPost w2 t m E w3 E'→TPost w t m E w3 E'
 cel:∀(w2 w3:World) (E':List Ch),Below w1.heap.size w1 w2→TPost w2 t m E w3 E'→∀j v,w1.cell? ⟨B,j,none⟩=some v→w3.cell? ⟨B,j,none⟩=some v
 cel2:∀(w2:World),Below w1.heap.size w1 w2→∀j v,w1.cell? ⟨B,j,none⟩=some v→w2.cell? ⟨B,j,none⟩=some v
 f0:w1.cell? ⟨B,0,none⟩=some (.int .u8 k)
 f1:w1.cell? ⟨B,1,none⟩=some (.int .u8 c)
 f2:w1.cell? ⟨B,2,none⟩=some (.int .u8 p)
 f3:w1.cell? ⟨B,3,none⟩=some (.int .i16 a)
 f4:w1.cell? ⟨B,4,none⟩=some (.int .i8 x)
 f5:w1.cell? ⟨B,5,none⟩=some (.int .u8 u)
end
section
open Go.RowKit Go.Maps Go.Sort Go.Shelf
def Tryz.keysB_ren:Go.Shelf.Ren:=⟨fun | 7=>88 | 10=>152 | n=>n,fun | 23=>150 | 26=>9 | 3=>4 | 28=>148 | 0=>0 | 27=>147 | 33=>166 | 4=>4 | n=>n,fun | n=>n⟩
theorem Tryz.keysB:Go.Proofs.SlLaysZ.n7 Tryz.prog Tryz.keysB_ren:= {
 mixed:=by kernel_rfl
 f7:=⟨Tryz.f88.name,by decide,Tryz.func88.trans (congrArg some (by kernel_rfl))⟩
 f10:=⟨Tryz.f152.name,by decide,Tryz.func152.trans (congrArg some (by kernel_rfl))⟩
 t0:=Tryz.underlying0
 a0:=Tryz.isAgg0
 z0:=Tryz.sizeOf0
 v0:=Tryz.zeroValue0
 t4:=Tryz.underlying4
 a4:=Tryz.isAgg4
 z4:=Tryz.sizeOf4
 v4:=Tryz.zeroValue4
 t23:=Tryz.underlying150
 a23:=Tryz.isAgg150
 z23:=Tryz.sizeOf150
 v23:=Tryz.zeroValue150
 t26:=Tryz.underlying9
 a26:=Tryz.isAgg9
 z26:=Tryz.sizeOf9
 v26:=Tryz.zeroValue9
 t27:=Tryz.underlying147
 a27:=Tryz.isAgg147
 z27:=Tryz.sizeOf147
 v27:=Tryz.zeroValue147
 t28:=Tryz.underlying148
 a28:=Tryz.isAgg148
 z28:=Tryz.sizeOf148
 v28:=Tryz.zeroValue148
 t33:=Tryz.underlying166
 a33:=Tryz.isAgg166
 z33:=Tryz.sizeOf166
 v33:=Tryz.zeroValue166}
def Tryz.sortedS_ren:Go.Shelf.Ren:=⟨fun | 6=>87 | 8=>150 | 9=>151 | 11=>205 | 13=>174 | 12=>206 | 23=>232 | 24=>233 | 14=>246 | 15=>247 | 16=>248 | 17=>249 | 18=>250 | 19=>251 | 20=>252 | 21=>253 | 22=>254 | 25=>282 | 26=>274 | 27=>275 | 28=>283 | 29=>284 | 30=>285 | 31=>303 | n=>n,fun | 26=>9 | 28=>148 | 24=>68 | 0=>0 | 3=>3 | 37=>234 | 48=>237 | 50=>178 | 4=>4 | 40=>273 | 39=>272 | 45=>277 | 5=>5 | 9=>9 | 51=>299 | 55=>303 | 57=>309 | 58=>310 | 33=>166 | n=>n,fun | n=>n⟩
theorem Tryz.sortedS:Go.Proofs.SlLaysZ.n6 Tryz.prog Tryz.sortedS_ren:= {
 mixed:=by kernel_rfl
 f6:=⟨Tryz.f87.name,by decide,Tryz.func87.trans (congrArg some (by kernel_rfl))⟩
 f8:=⟨Tryz.f150.name,by decide,Tryz.func150.trans (congrArg some (by kernel_rfl))⟩
 f11:=⟨Tryz.f205.name,by decide,Tryz.func205.trans (congrArg some (by kernel_rfl))⟩
 t0:=Tryz.underlying0
 a0:=Tryz.isAgg0
 z0:=Tryz.sizeOf0
 v0:=Tryz.zeroValue0
 t24:=Tryz.underlying68
 a24:=Tryz.isAgg68
 z24:=Tryz.sizeOf68
 v24:=Tryz.zeroValue68
 t26:=Tryz.underlying9
 a26:=Tryz.isAgg9
 z26:=Tryz.sizeOf9
 v26:=Tryz.zeroValue9
 t28:=Tryz.underlying148
 a28:=Tryz.isAgg148
 z28:=Tryz.sizeOf148
 v28:=Tryz.zeroValue148
 i26:=by kernel_rfl}
def Tryz.sortS_ren:Go.Shelf.Ren:=⟨fun | 6=>151 | 8=>174 | 9=>206 | 19=>232 | 20=>233 | 21=>246 | 22=>247 | 23=>248 | 24=>249 | 25=>250 | 26=>251 | 27=>252 | 28=>253 | 29=>254 | 36=>282 | 31=>274 | 32=>275 | 37=>283 | 38=>284 | 39=>285 | 41=>303 | n=>n,fun | 27=>68 | 29=>9 | 3=>3 | 32=>234 | 26=>68 | 0=>0 | 44=>237 | 46=>178 | 4=>4 | 36=>273 | 35=>272 | 41=>277 | 5=>5 | 9=>9 | 53=>299 | 57=>303 | 63=>309 | 64=>310 | n=>n,fun | n=>n⟩
theorem Tryz.sortS:Go.Proofs.SlLaysM.n6 Tryz.prog Tryz.sortS_ren:= {
 mixed:=by kernel_rfl
 f6:=⟨Tryz.f151.name,by decide,Tryz.func151.trans (congrArg some (by kernel_rfl))⟩
 f8:=Tryz.func174.trans (congrArg some (by kernel_rfl))
 f9:=⟨Tryz.f206.name,by decide,Tryz.func206.trans (congrArg some (by kernel_rfl))⟩
 f19:=Tryz.func232.trans (congrArg some (by kernel_rfl))
 f20:=Tryz.func233.trans (congrArg some (by kernel_rfl))
 f21:=⟨Tryz.f246.name,by decide,Tryz.func246.trans (congrArg some (by kernel_rfl))⟩
 f22:=⟨Tryz.f247.name,by decide,Tryz.func247.trans (congrArg some (by kernel_rfl))⟩
 f23:=⟨Tryz.f248.name,by decide,Tryz.func248.trans (congrArg some (by kernel_rfl))⟩
 f24:=⟨Tryz.f249.name,by decide,Tryz.func249.trans (congrArg some (by kernel_rfl))⟩
 f25:=⟨Tryz.f250.name,by decide,Tryz.func250.trans (congrArg some (by kernel_rfl))⟩
 f26:=⟨Tryz.f251.name,by decide,Tryz.func251.trans (congrArg some (by kernel_rfl))⟩
 f27:=⟨Tryz.f252.name,by decide,Tryz.func252.trans (congrArg some (by kernel_rfl))⟩
 f28:=⟨Tryz.f253.name,by decide,Tryz.func253.trans (congrArg some (by kernel_rfl))⟩
 f29:=⟨Tryz.f254.name,by decide,Tryz.func254.trans (congrArg some (by kernel_rfl))⟩
 f31:=Tryz.func274.trans (congrArg some (by kernel_rfl))
 f32:=Tryz.func275.trans (congrArg some (by kernel_rfl))
 f36:=⟨Tryz.f282.name,by decide,Tryz.func282.trans (congrArg some (by kernel_rfl))⟩
 f37:=⟨Tryz.f283.name,by decide,Tryz.func283.trans (congrArg some (by kernel_rfl))⟩
 f38:=⟨Tryz.f284.name,by decide,Tryz.func284.trans (congrArg some (by kernel_rfl))⟩
 f39:=⟨Tryz.f285.name,by decide,Tryz.func285.trans (congrArg some (by kernel_rfl))⟩
 f41:=⟨Tryz.f303.name,by decide,Tryz.func303.trans (congrArg some (by kernel_rfl))⟩
 t0:=Tryz.underlying0
 a0:=Tryz.isAgg0
 z0:=Tryz.sizeOf0
 v0:=Tryz.zeroValue0
 t3:=Tryz.underlying3
 a3:=Tryz.isAgg3
 z3:=Tryz.sizeOf3
 v3:=Tryz.zeroValue3
 t4:=Tryz.underlying4
 a4:=Tryz.isAgg4
 z4:=Tryz.sizeOf4
 v4:=Tryz.zeroValue4
 t5:=Tryz.underlying5
 a5:=Tryz.isAgg5
 z5:=Tryz.sizeOf5
 v5:=Tryz.zeroValue5
 t9:=Tryz.underlying9
 a9:=Tryz.isAgg9
 z9:=Tryz.sizeOf9
 v9:=Tryz.zeroValue9
 t26:=Tryz.underlying68
 a26:=Tryz.isAgg68
 z26:=Tryz.sizeOf68
 v26:=Tryz.zeroValue68
 t27:=Tryz.underlying68
 a27:=Tryz.isAgg68
 z27:=Tryz.sizeOf68
 v27:=Tryz.zeroValue68
 t29:=Tryz.underlying9
 a29:=Tryz.isAgg9
 z29:=Tryz.sizeOf9
 v29:=Tryz.zeroValue9
 t32:=Tryz.underlying234
 a32:=Tryz.isAgg234
 z32:=Tryz.sizeOf234
 v32:=Tryz.zeroValue234
 t35:=Tryz.underlying272
 a35:=Tryz.isAgg272
 z35:=Tryz.sizeOf272
 v35:=Tryz.zeroValue272
 t36:=Tryz.underlying273
 a36:=Tryz.isAgg273
 z36:=Tryz.sizeOf273
 v36:=Tryz.zeroValue273
 t41:=Tryz.underlying277
 a41:=Tryz.isAgg277
 z41:=Tryz.sizeOf277
 v41:=Tryz.zeroValue277
 t44:=Tryz.underlying237
 a44:=Tryz.isAgg237
 z44:=Tryz.sizeOf237
 v44:=Tryz.zeroValue237
 t46:=Tryz.underlying178
 a46:=Tryz.isAgg178
 z46:=Tryz.sizeOf178
 v46:=Tryz.zeroValue178
 t53:=Tryz.underlying299
 a53:=Tryz.isAgg299
 z53:=Tryz.sizeOf299
 v53:=Tryz.zeroValue299
 t57:=Tryz.underlying303
 a57:=Tryz.isAgg303
 z57:=Tryz.sizeOf303
 v57:=Tryz.zeroValue303
 t63:=Tryz.underlying309
 a63:=Tryz.isAgg309
 z63:=Tryz.sizeOf309
 v63:=Tryz.zeroValue309
 t64:=Tryz.underlying310
 a64:=Tryz.isAgg310
 z64:=Tryz.sizeOf310
 v64:=Tryz.zeroValue310}
theorem Tryz.sortsS (m:Nat):AnyZ.SortsIn Tryz.prog Tryz.sortedS_ren Fence.wide m:=
 ⟨fun blk off cap ss W hH hblk hsz=>callsIn_wide.2 (AnyM.slices_Sort_string Tryz.sortS blk off cap ss W hH hblk hsz),
  fun p cap W=>callsIn_wide.2 (AnyM.slices_Sort_string_none Tryz.sortS p cap W)⟩
theorem Tryz.maps_Keys_B (mb:Option Nat) (W:World):CallsIn Fence.wide 5 Tryz.prog 88 #[.map mb] W fun e w'=>e= .returned (.func (.func 152) #[] #[.pointer (some ⟨W.heap.size,0,none⟩)])∧w'=W.alloc (.cells #[.map mb] 150):=
 AnyZ.keys_in Tryz.keysB Fence.wide 5 trivial rfl mb W
set_option maxHeartbeats 1000000 in
theorem Tryz.slices_Sorted_keys_B {H:Type} (b nn:Nat) (D0:DataW H) (R:Value→Option (DataW H×List MemPlace)) (w:World) (hown:w.ownsMap Tryz.prog 9 R b nn D0) (hmax:Maps.size D0≤maxLen) (hbytes:Maps.size D0*16≤140737488355328):
  CallsIn Fence.wide 5 Tryz.prog 87 #[.func (.func 152) #[] #[.pointer (some ⟨w.heap.size,0,none⟩)]] (w.alloc (.cells #[.map (some b)] 150)) fun e w'=>∃(v:Value) (ss:List (List UInt8)),e= .returned v∧ss.Perm (strKeys D0)∧
   w'.ownsRow (w.alloc (.cells #[.map (some b)] 150)).heap.size 9 1 v ss.length ((ss.mergeSort (fun x y=>decide (x≤y))).map encStr)∧(v= .slice none 0 0↔ss=[])∧Below (w.alloc (.cells #[.map (some b)] 150)).heap.size (w.alloc (.cells #[.map (some b)] 150)) w':=by
 have hbl:=hown.lt
 have hseq:SeqGives Fence.wide 2 Tryz.prog 152 #[.pointer (some ⟨w.heap.size,0,none⟩)] encStr (fun ss=>ss.Perm (strKeys D0)) (Maps.size D0) (w.alloc (.cells #[.map (some b)] 150)):=
  AnyZ.keys_gives (ρ:=Tryz.keysB_ren) {Tryz.keysB with} Fence.wide _ trivial rfl (by omega) w.heap.size b nn D0 _ (by simp) (by simp) (by
   obtain⟨es,clock,hb,Ft,hs,hD⟩:=hown
   exact⟨es,clock,(Below.heap_alloc _ _ b hbl).trans hb,Ft,hs,hD⟩)
 exact AnyZ.sorted_in Tryz.sortedS Fence.wide 5 trivial trivial trivial trivial rfl (by omega) (Tryz.sortsS _) (enters_of Tryz.func151 (by kernel_rfl) rfl) 152 #[.pointer (some ⟨w.heap.size,0,none⟩)] trivial (enters_of Tryz.func152 (by kernel_rfl) rfl) _ _ hmax hbytes _ hseq
def Tryz.keysL_ren:Go.Shelf.Ren:=⟨fun | 7=>91 | 10=>154 | n=>n,fun | 23=>142 | 26=>9 | 3=>158 | 28=>148 | 0=>0 | 27=>147 | 33=>166 | 4=>4 | n=>n,fun | n=>n⟩
theorem Tryz.keysL:Go.Proofs.SlLaysZ.n7 Tryz.prog Tryz.keysL_ren:= {
 mixed:=by kernel_rfl
 f7:=⟨Tryz.f91.name,by decide,Tryz.func91.trans (congrArg some (by kernel_rfl))⟩
 f10:=⟨Tryz.f154.name,by decide,Tryz.func154.trans (congrArg some (by kernel_rfl))⟩
 t0:=Tryz.underlying0
 a0:=Tryz.isAgg0
 z0:=Tryz.sizeOf0
 v0:=Tryz.zeroValue0
 t4:=Tryz.underlying4
 a4:=Tryz.isAgg4
 z4:=Tryz.sizeOf4
 v4:=Tryz.zeroValue4
 t23:=Tryz.underlying142
 a23:=Tryz.isAgg142
 z23:=Tryz.sizeOf142
 v23:=Tryz.zeroValue142
 t26:=Tryz.underlying9
 a26:=Tryz.isAgg9
 z26:=Tryz.sizeOf9
 v26:=Tryz.zeroValue9
 t27:=Tryz.underlying147
 a27:=Tryz.isAgg147
 z27:=Tryz.sizeOf147
 v27:=Tryz.zeroValue147
 t28:=Tryz.underlying148
 a28:=Tryz.isAgg148
 z28:=Tryz.sizeOf148
 v28:=Tryz.zeroValue148
 t33:=Tryz.underlying166
 a33:=Tryz.isAgg166
 z33:=Tryz.sizeOf166
 v33:=Tryz.zeroValue166}
theorem Tryz.maps_Keys_L (mb:Option Nat) (W:World):CallsIn Fence.wide 5 Tryz.prog 91 #[.map mb] W fun e w'=>e= .returned (.func (.func 154) #[] #[.pointer (some ⟨W.heap.size,0,none⟩)])∧w'=W.alloc (.cells #[.map mb] 142):=
 AnyZ.keys_in Tryz.keysL Fence.wide 5 trivial rfl mb W
set_option maxHeartbeats 1000000 in
theorem Tryz.slices_Sorted_keys_L {H:Type} (b nn:Nat) (D0:DataW H) (R:Value→Option (DataW H×List MemPlace)) (w:World) (hown:w.ownsMap Tryz.prog 9 R b nn D0) (hmax:Maps.size D0≤maxLen) (hbytes:Maps.size D0*16≤140737488355328):
  CallsIn Fence.wide 5 Tryz.prog 87 #[.func (.func 154) #[] #[.pointer (some ⟨w.heap.size,0,none⟩)]] (w.alloc (.cells #[.map (some b)] 142)) fun e w'=>∃(v:Value) (ss:List (List UInt8)),e= .returned v∧ss.Perm (strKeys D0)∧
   w'.ownsRow (w.alloc (.cells #[.map (some b)] 142)).heap.size 9 1 v ss.length ((ss.mergeSort (fun x y=>decide (x≤y))).map encStr)∧(v= .slice none 0 0↔ss=[])∧Below (w.alloc (.cells #[.map (some b)] 142)).heap.size (w.alloc (.cells #[.map (some b)] 142)) w':=by
 have hbl:=hown.lt
 have hseq:SeqGives Fence.wide 2 Tryz.prog 154 #[.pointer (some ⟨w.heap.size,0,none⟩)] encStr (fun ss=>ss.Perm (strKeys D0)) (Maps.size D0) (w.alloc (.cells #[.map (some b)] 142)):=
  AnyZ.keys_gives (ρ:=Tryz.keysL_ren) {Tryz.keysL with} Fence.wide _ trivial rfl (by omega) w.heap.size b nn D0 _ (by simp) (by simp) (by
   obtain⟨es,clock,hb,Ft,hs,hD⟩:=hown
   exact⟨es,clock,(Below.heap_alloc _ _ b hbl).trans hb,Ft,hs,hD⟩)
 exact AnyZ.sorted_in Tryz.sortedS Fence.wide 5 trivial trivial trivial trivial rfl (by omega) (Tryz.sortsS _) (enters_of Tryz.func151 (by kernel_rfl) rfl) 154 #[.pointer (some ⟨w.heap.size,0,none⟩)] trivial (enters_of Tryz.func154 (by kernel_rfl) rfl) _ _ hmax hbytes _ hseq
end
section
open Go.MapKept Go.WideShapes
abbrev Re0:Value→Option (DataW Unit×List MemPlace):=fun _=>some (.lit (.bool true),[])
theorem da.owns {P:Program} {k:TypeId} {w:World} {b:Nat} {l:List (ByteArray×Value)} (h:da w b l) (hk:P.underlying k=some .string) (hs:l.length≤maxLen) (hn:∀p∈l,p.1.size≤maxLen):
  ∃D:DataW Unit,w.ownsMap P k Re0 b l.length D∧(strKeys D).Perm (l.map fun p=>p.1.data.toList)∧Maps.size D=l.length:=by
 obtain⟨es,clock,hb,hst,he⟩:=h
 have hlen:es.size=l.length:=by have:=congrArg List.length he;simpa using this
 have hrd:∀x∈es.toList,∃p∈l,x.key= .string p.1∧Go.WideElems.rd P k Re0 x=some (.string p.1.data.toList,.lit (.bool true)):=fun x hx=>by
  obtain⟨j,hj,e⟩:=List.getElem_of_mem hx
  obtain⟨p,h1,h2,_⟩:=jh he (j:=j) (e:=x) (by rw[List.getElem?_eq_getElem hj,e])
  refine⟨p,List.mem_of_getElem? h1,h2,?_⟩
  have h3:=hn p (List.mem_of_getElem? h1)
  have h4:p.1.data.size≤maxLen:=h3
  simp[Go.WideElems.rd,keyOf,hk,mapKey,h2,Re0,h3]
 have hf:Go.WideElems.Fit P k Re0 es clock:=⟨by omega,hst,fun x hx=>by obtain⟨p,_,_,h⟩:=hrd x hx;exact⟨_,h⟩⟩
 refine⟨.map ((es.toList.map (Go.WideElems.rg P k Re0)).foldr DataW.insert []),⟨es,clock,hb,hf,by omega,rfl⟩,?_,?_⟩
 ·have h1:=(sorted_perm (es.toList.map (Go.WideElems.rg P k Re0))).map (fun p=>strOf p.1)
  refine List.Perm.trans h1 ?_
  rw[List.map_map]
  have e:es.toList.map ((fun p=>strOf p.1)∘ Go.WideElems.rg P k Re0)=l.map fun p=>p.1.data.toList:=by
   apply List.ext_getElem?
   intro j
   rw[List.getElem?_map,List.getElem?_map]
   have hg:=lT he j
   cases h2:es.toList[j]? with
   | none=>
    rw[h2]at hg
    cases h3:l[j]? with
    | none=>rfl
    | some p=>rw[h3]at hg;cases hg
   | some x=>
    obtain⟨p,h3,h4,_⟩:=jh he h2
    obtain⟨p',_,h5,h6⟩:=hrd x (List.mem_of_getElem? h2)
    rw[h4]at h5;injection h5 with h5
    rw[h3]
    simp[Go.WideElems.rg,h6,strOf,h5]
  rw[e]
 ·show((es.toList.map (Go.WideElems.rg P k Re0)).foldr DataW.insert []).length=_
  rw[length_sorted,List.length_map,Array.length_toList,hlen]
def txt (x:List UInt8):Nm:=⟨x.toArray⟩
theorem txt_of (c:Nm):txt c.data.toList=c:=by simp[txt]
theorem of_txt (x:List UInt8):(txt x).data.toList=x:=by simp[txt]
abbrev wO (a b:Nm):Prop:=a.data.toList≤b.data.toList
theorem nN {l:List (ByteArray×Value)} {D:DataW Unit} {ss:List (List UInt8)} (hl:(l.map (·.1)).Nodup) (hp:(strKeys D).Perm (l.map fun p=>p.1.data.toList)) (hss:ss.Perm (strKeys D)):
  ∃L:List Nm,((ss.mergeSort (fun x y=>decide (x≤y))).map encStr)=L.map Value.string∧L.length=ss.length∧L.Perm (l.map (·.1))∧L.Nodup∧L.Pairwise wO:=by
 have hpm:(ss.mergeSort (fun x y=>decide (x≤y))).Perm ss:=List.mergeSort_perm ..
 have hpp:((ss.mergeSort (fun x y=>decide (x≤y))).map txt).Perm (l.map (·.1)):=by
  have h1:=(hpm.trans (hss.trans hp)).map txt
  rw[List.map_map]at h1
  have e:(l.map (txt ∘ fun p=>p.1.data.toList))=l.map (·.1):=List.map_congr_left (fun p _=>txt_of p.1)
  rwa [e]at h1
 refine⟨(ss.mergeSort (fun x y=>decide (x≤y))).map txt,?_,by simp,hpp,hpp.nodup_iff.2 hl,?_⟩
 ·rw[List.map_map];rfl
 ·rw[List.pairwise_map]
  have h2:(ss.mergeSort (fun x y=>decide (x≤y))).Pairwise (fun a b=>leB a b=true):=List.pairwise_mergeSort (fun a b c h1 h2=>by simp only[leB,decide_eq_true_eq]at *;exact List.le_trans h1 h2) (fun a b=>by simp only[leB,Bool.or_eq_true,decide_eq_true_eq];exact List.le_total a b) ss
  refine h2.imp (fun {a b} h=> ?_)
  show(txt a).data.toList≤(txt b).data.toList
  rw[of_txt,of_txt]
  simpa [leB]using h
abbrev bc (w:World) (b0:Nat) (v:Value) (L:List Nm):Prop:=w.ownsRow b0 9 1 v L.length (L.map Value.string)
theorem q_keysB {w:World} {b:Nat} {l:List Nm} (h:fS w b l) (hs:l.length≤1000000) (hn:∀x∈l,x.size≤maxLen):
  (Calls Tryz.prog 88 #[.map (some b)] w fun e w'=>e= .returned (.func (.func 152) #[] #[.pointer (some ⟨w.heap.size,0,none⟩)])∧w'=w.alloc (.cells #[.map (some b)] 150))∧
  Calls Tryz.prog 87 #[.func (.func 152) #[] #[.pointer (some ⟨w.heap.size,0,none⟩)]] (w.alloc (.cells #[.map (some b)] 150)) fun e w'=>∃v L,e= .returned v∧bc w' w.heap.size v L∧L.Perm l∧L.Nodup∧L.Pairwise wO∧(v= .slice none 0 0↔L=[])∧Below w.heap.size w w':=by
 have hmx:(1000000:Nat)≤maxLen:=by unfold maxLen;omega
 obtain⟨D,hD,hp,hz⟩:=da.owns (P:=Tryz.prog) (k:=9) h (by kernel_rfl) (by rw[List.length_map];omega) (fun p hp=>by obtain⟨c,hc,rfl⟩:=List.mem_map.1 hp;exact hn c hc)
 rw[List.length_map]at hD hz
 refine⟨callsIn_wide.1 (Tryz.maps_Keys_B (some b) w),(callsIn_wide.1 (Tryz.slices_Sorted_keys_B b l.length D Re0 w hD (by omega) (by omega))).mono ?_⟩
 rintro e w' ⟨v,ss,rfl,hS,hrow,hnil,hb⟩
 obtain⟨L,h1,h2,h3,h4,h5⟩:=nN (da.nodup h) hp hS
 rw[List.map_map]at h3
 have e:(l.map ((fun p:ByteArray×Value=>p.1)∘ fun c=>(c,Value.bool true)))=l:=by simp[Function.comp_def]
 rw[e]at h3
 refine⟨v,L,rfl,?_,h3,h4,h5,?_,((Below.refl _ w).alloc (Nat.le_refl _) _).trans (hb.mono (by rw[asz];omega))⟩
 ·show w'.ownsRow w.heap.size 9 1 v L.length (L.map Value.string)
  rw[←h1,h2]
  exact ownsRow_base_a hrow (by rw[asz];omega)
 ·rw[hnil]
  constructor
  ·intro h;apply List.eq_nil_of_length_eq_zero;rw[h2,h];rfl
  ·intro h;apply List.eq_nil_of_length_eq_zero;rw[←h2,h];rfl
theorem q_Frames {w:World} {t m:Nat} {E:List Ch} (h:TM w t m E) (hS:TSm (trE E)) (hN:∀x,aO (trE E) x→x.size≤maxLen):Calls Tryz.prog 33 #[ptB t] w fun e w'=>∃v L,e= .returned v∧bc w' w.heap.size v L∧(∀x,x∈L↔aO (trE E) x)∧L.Nodup∧L.Pairwise wO∧(v= .slice none 0 0↔L=[])∧L.length≤24∧Below w.heap.size w w':=by
 have hkn:=lV h
 have H:=Lib.hid (And.intro hS hN)
 clear h hS hN
 go_enter Tryz.func33,Tryz.ntmps33
 go_wp2_with (first
  | (go_at_call 89;refine hkn.mono ?_;rintro e w1 ⟨b,l,rfl,hM,hbl,hl,hb⟩;have hc:l.length≤24:=(by obtain⟨⟨⟨n,h1,h2⟩,_⟩,_⟩:=H.out;rw[bV.uniq ⟨l,hM.nodup,fun x=>(hl x).trans ji,rfl⟩ h2];exact h1);obtain⟨hk1,hk2⟩:=q_keysB hM (by omega) (fun x hx=>H.out.2 x (ji.1 ((hl x).1 hx)));have HB:=Lib.hid (And.intro hb (And.intro hl hc));clear hb hl hc hM hbl)
  | (go_at_call 88;refine hk1.mono ?_;rintro e w2 ⟨rfl,rfl⟩)
  | (go_at_call 87;refine hk2.mono ?_;rintro e w3 ⟨v,L,rfl,hrow,hp,hnd,hso,hnil,hb3⟩;have HR:=Lib.hid (And.intro hrow (And.intro hp (And.intro hnd (And.intro hso (And.intro hnil hb3)))));clear hrow hp hnd hso hnil hb3))
 go_ret
 obtain⟨hrow,hp,hnd,hso,hnil,hb3⟩:=HR.out
 obtain⟨hb,hl,hc⟩:=HB.out
 exact⟨v,L,rfl,ownsRow_base_a hrow hb.size,fun x=>(hp.mem_iff).trans ((hl x).trans ji),hnd,hso,hnil,by rw[hp.length_eq];exact hc,hb.trans (hb3.mono hb.size)⟩
end
section
open Classical
theorem TInv.new {w w1:World} {t m:Nat} (h:TM w1 t m []) (ht:w.heap.size≤t) (hm:w.heap.size≤m) (hb:Below w.heap.size w w1):TInv w w1 t m []:=
 ⟨h,.nil,fun g hg=>by
  simp only[fpT,List.flatMap_nil,List.mem_cons,List.not_mem_nil,or_false]at hg
  rcases hg with rfl | rfl
  ·exact ht
  ·exact hm,hb⟩
theorem TInv.att {w0 w w':World} {t m:Nat} {E E':List Ch} {R':Tr} {c p:Nm} {f e:Int} (h:TInv w0 w t m E) (k:TPost w t m E w' E') (r:REq (trE E') R') (d:AttS dB (trE E) c p f R' e):TInv w0 w' t m E':=
 h.next (s:=⟨0,c,p,f,Pq.id⟩) (e:=e) k r (by unfold DoS;exact d) Pq.ok.id
theorem mZ {a b:UInt8} (h:a≠b):nm1 a≠nm1 b:=fun e=>h (by
 have:=congrArg ByteArray.data e
 simpa [nm1]using this)
theorem isNm1 {a:UInt8} (h:pK a):dB (nm1 a):=⟨a,h,rfl⟩
abbrev nA:Nm:=nm1 97
abbrev nB:Nm:=nm1 98
theorem nAB:nA≠nB:=mZ (by decide)
theorem iA:dB nA:=isNm1 (.inl ⟨by decide,by decide⟩)
theorem iB:dB nB:=isNm1 (.inl ⟨by decide,by decide⟩)
theorem zT {w:World} {t m:Nat} {E:List Ch} {c p:Nm} {a:Int} (h:TM w t m E) (hp:par (trE E) a c=some p):Calls Tryz.prog 34 #[ptB t,.string c,.int .i64 a] w fun e w'=>e= .returned (.tuple #[.string p,.bool true])∧w'=w:=by
 have h1:=uk h c a
 unfold par at hp
 rw[←h.tAt]at hp
 cases hl:atE E c a with
 | none=>rw[hl]at hp;cases hp
 | some l=>
  rw[hl]at hp h1
  have e:l.x.par=p:=by injection hp
  rw[←e]
  exact h1
theorem zU {w:World} {t m:Nat} {E:List Ch} {c:Nm} {a:Int} (h:TM w t m E) (hp:par (trE E) a c=none):Calls Tryz.prog 34 #[ptB t,.string c,.int .i64 a] w fun e w'=>e= .returned (.tuple #[.string ByteArray.empty,.bool false])∧w'=w:=by
 have h1:=uk h c a
 unfold par at hp
 rw[←h.tAt]at hp
 cases hl:atE E c a with
 | none=>rw[hl]at h1;exact h1
 | some l=>rw[hl]at hp;cases hp
end
section
open Classical
section
variable {w w':World} {b sz n j:Nat} {T:TypeId} {v u:Value} {xs:List Value} {ad:Option Addr} {cap:Nat}
theorem dH (h:w.ownsRow b T sz v n xs) (k:∀g,v.ownBlock=some g→w'.heap[g]? =w.heap[g]?):w'.ownsRow b T sz v n xs:=
 ⟨h.1,h.2.imp id fun⟨g,cap,cur,e,hb,hg,hr⟩=>⟨g,cap,cur,e,hb,by rw[k g (by rw[e];rfl)];exact hg,hr⟩⟩
theorem cE (h:w.ownsRow b T sz v n xs) {g:Nat} (hg:v.ownBlock=some g):b≤g∧g<w.heap.size:=by
 rcases h.2 with⟨rfl,_⟩ | ⟨g',cap,cur,rfl,hb,hc,_⟩
 ·cases hg
 ·have e:g'=g:=Option.some.inj hg
  subst e
  exact⟨hb,(Array.getElem?_eq_some_iff.1 hc).1⟩
theorem ft (h:w.ownsRow b T sz v n xs):∃ad cap,v= .slice ad n cap:=by
 rcases h.2 with⟨rfl,rfl⟩ | ⟨g',cap,cur,rfl,_⟩
 ·exact⟨_,_,rfl⟩
 ·exact⟨_,_,rfl⟩
theorem jj (h:w.ownsRow b T sz (.slice ad n cap) n xs) (hj:xs[j]? =some u):∃g,ad=some ⟨g,0,none⟩∧w.cell? ⟨g,j,none⟩=some u:=by
 rcases h.2 with⟨e,rfl⟩ | ⟨g',cap',cur,e,_⟩
 ·have:xs=[]:=List.eq_nil_of_length_eq_zero (by rw[h.1];omega)
  subst this;cases hj
 ·injection e with e1 _ _
  subst e1
  have:=h.cells (g:=g') rfl j u hj
  rw[cJ,Nat.zero_add]at this
  exact⟨g',rfl,this⟩
theorem de.keep (h:de w T sz v n xs) (k:∀g,v.ownBlock=some g→w'.heap[g]? =w.heap[g]?):de w' T sz v n xs:=
 ⟨dH h.1 k,fun g hg=>by
  obtain⟨cs,t,h1,h2⟩:=h.2 g hg
  exact⟨cs,t,by rw[k g hg];exact h1,h2⟩⟩
theorem run_appK {p:Program} {t ty e:TypeId} {bytes:Nat} (ht:p.underlying t=some (.slice e)) (hB:appB p e sz bytes=true) (ho:de w e sz v n xs) {a:Addr} {m c:Nat} {news:List Value} (hl:news.length=m*sz) (hnews:∀j u,news[j]? =some u→w.cell? (a.add j)=some u) (h1:∀u∈news,u.oneCell'=true) (hnu:∀u∈news,noU u)
  (hm:0<m) (hb:(n+m)*bytes≤140737488355328) (hn:n+m≤1000000000000000):
  ∃v' w',(Builtin.append_ #[t,t] ty #[v,.slice (some a) m c]).run p w= .ok v' w'∧w.grownBy w' v.ownBlock∧(∀g,v'.ownBlock=some g→v.ownBlock=some g∨w.heap.size≤g)∧de w' e sz v' (n+m) (xs++news):=by
 unfold appB at hB
 split at hB
 ·rename_i ti hi
  simp only[Bool.and_eq_true,beq_iff_eq,decide_eq_true_eq]at hB
  obtain⟨hz,h3,h4,h5⟩:=hB
  split at hz
  ·rename_i z hz'
   simp only[Bool.and_eq_true,beq_iff_eq]at hz
   subst h3;subst h4
   obtain⟨v',w',k1,k2,_,k4,k5⟩:=rZ (ty:=ty) (c:=c) ht hi hz' hz.1 h5 (fun u hu n e=>by
    have:=List.all_eq_true.1 hz.2 u hu
    subst e;exact Bool.noConfusion (show false=true from this)) ho hl hnews h1 hnu hm hb hn
   exact⟨v',w',k1,k2,k4,k5⟩
  ·cases hz
 ·cases hB
end
theorem j3 {P:Program} {ops:Array Oper} {rest:List Oper} {o:Oper} {a:Act} {w w':World} {v v':Value} {Q:Exit→Act→World→Prop} {s x:Operand} {t:TypeId} (hgd:o.guard=none)
  (ho:o.op= .call {callee:=.builtin .append,args:=#[s,x],argTypes:=#[t,t]}) {y:Value} (hs:a.eval s=v) (hx:a.eval x=y) (hr:(Builtin.append_ #[t,t] o.type #[v,y]).run P w= .ok v' w') (h:wpList P ops Q rest (a.put o.dst v') w'):wpList P ops Q (o::rest) a w:=
 ag hgd (by
  unfold execOp
  simp only[ho,resolve,invoke,builtin,Sem.run_bind,Sem.run_pure,Result.andThen_ok,List.map_toArray,List.map_cons,List.map_nil,hs,hx,hr]) h
theorem aG {B:Nat} {a:World}:∀(vs:List Value) (o:Nat) (w:World) {b:Nat},Below B a w→B≤b→Below B a (w.setCells b o vs)
 | [],_,_,_,h,_=>h
 | v::r,o,w,b,h,hb=>by
  rw[World.setCells]
  exact aG r (o+1) _ (h.setCell (p:=⟨b,o,none⟩) hb v) hb
theorem pO.row {w:World} {v:Value} {R:List Stp} (h:pO w v R):∃ad c,v= .slice ad R.length c∧∀i s,R[i]? =some s→∃b o,ad=some ⟨b,o,none⟩∧b<w.heap.size∧w.rangeAt b (o+i*6) s.cs:=by
 rcases h with⟨rfl,a,c,rfl⟩ | ⟨b,o,c,rfl,_,hb,hq⟩
 ·exact⟨a,c,rfl,fun i s hi=>by cases i<;>cases hi⟩
 ·exact⟨_,c,rfl,fun i s hi=>⟨b,o,rfl,hb,fun j u hu=>by rw[Nat.add_assoc];exact hq i s hi j u hu⟩⟩
theorem m7 {w:World} {B:Nat} {cs:Array Value} {T:TypeId} (h:w.heap[B]? =some (.cells cs T (0,0))):w.there B 0 cs.size:=fun j hj=>by
 refine⟨?_,by simp[World.frozen?,h]⟩
 rw[aT h,Nat.zero_add,Array.getElem?_eq_getElem hj];rfl
noncomputable def pOf (R:Tr) (a:Int) (c:Nm):Nm:=(par R a c).getD ByteArray.empty
theorem zV {w:World} {t m:Nat} {E:List Ch} (h:TM w t m E) (c:Nm) (a:Int):Calls Tryz.prog 34 #[ptB t,.string c,.int .i64 a] w fun e w'=>e= .returned (.tuple #[.string (pOf (trE E) a c),.bool (par (trE E) a c).isSome])∧w'=w:=by
 cases hp:par (trE E) a c with
 | some p=>unfold pOf;rw[hp];exact zT h hp
 | none=>unfold pOf;rw[hp];exact zU h hp
theorem DoS.par {R R':Tr} {s:Ax} {e a:Int} (hR:TOk R) (d:DoS R s R' e) (ha:a<s.a) (h0:0≤a) (c:Nm):par R' a c=par R a c:=by
 unfold DoS at d
 split at d
 ·cases d with
  | ok e h h1 h2=>
   subst e
   rw[xY hR.row h,if_neg (fun hh=>by have:=hh.2.2.1;omega)]
  | _=>rfl
 ·split at d
  ·cases d with
   | ok e h hs=>subst e;refine pC ?_ ?_ ?_ a c<;>rfl
   | _=>rfl
  ·split at d
   ·cases d with
    | ok e h hs ht hp=>subst e;refine pC ?_ ?_ ?_ a c<;>rfl
    | _=>rfl
   ·cases d with
    | ok hn _ _ _ _ _ _ _ _=>
     rw[oq]
     split
     ·cases hp:Go.Proofs.YtggfmklppkioeaaGreat.par R a c with
      | some z=>rfl
      | none=>simp only;rw[if_neg (by omega)]
     ·rfl
    | _=>rfl
theorem TPost.trans {w w' w'':World} {t m:Nat} {E E' E'':List Ch} (h:TPost w t m E w' E') (k:TPost w' t m E' w'' E''):TPost w t m E w'' E'':=
 ⟨k.tm,⟨k.kp.os.trans h.kp.os,k.kp.tape.trans h.kp.tape,k.kp.output.trans h.kp.output,Nat.le_trans h.kp.size k.kp.size,fun g hg hn=>(k.kp.block g (Nat.lt_of_lt_of_le hg h.kp.size) (fun hm=>(h.fp g hm).elim hn (fun h2=>absurd hg (Nat.not_lt.2 h2)))).trans (h.kp.block g hg hn)⟩,
  fun g hg=>(k.fp g hg).elim (h.fp g) (fun h2=>.inr (Nat.le_trans h.kp.size h2))⟩
theorem Sane.short {R:Tr} (h:Sane R) {x:Nm} (hx:aO R x):x.size≤maxLen:=by
 obtain⟨q,hq,h1 | h1⟩:=hx
 ·obtain⟨a,_,e⟩:=(h.nm q hq).1
  rw[←h1,e];unfold maxLen;exact Nat.le_trans (show(nm1 a).size≤1 from by simp[nm1,ByteArray.size]) (by decide)
 ·obtain⟨a,_,e⟩:=(h.nm q hq).2
  rw[←h1,e];unfold maxLen;exact Nat.le_trans (show(nm1 a).size≤1 from by simp[nm1,ByteArray.size]) (by decide)
end
theorem uz {w:World}:∀ {xs:List Fq} {cs:List Value},cs.length=3*xs.length→(∀(j:Nat) (q:Vp),(frs xs)[j]? =some q→∃u,cs[j]? =some u∧q.p w u)→bx w (xs.map Fq.raw) cs
 | [],cs,hl,_=>by
  have:cs=[]:=List.eq_nil_of_length_eq_zero (by simpa using hl)
  exact this
 | x::xs,cs,hl,h=>by
  match cs,hl with
  | c0::c1::c2::cs,hl=>
   obtain⟨u0,e0,k0⟩:=h 0 _ rfl
   obtain⟨u1,e1,k1⟩:=h 1 _ rfl
   obtain⟨u2,e2,k2⟩:=h 2 _ rfl
   injection e0 with e0;injection e1 with e1;injection e2 with e2
   subst e0;subst e1;subst e2
   have k0:c0= .bool x.s:=k0.1
   subst k0
   have k1:IsR w (.agg #[c1]) (nl x.p) x.p:=k1
   have k2:IsR w (.agg #[c2]) (nl x.q) x.q:=k2
   obtain⟨a,c,f1,r1⟩:=id k1
   obtain⟨b,d,f2,r2⟩:=id k2
   have f1:c1= .slice a (nl x.p) c:=by injection f1 with f1;simpa using f1
   have f2:c2= .slice b (nl x.q) d:=by injection f2 with f2;simpa using f2
   subst f1;subst f2
   exact⟨a,c,b,d,cs,rfl,k1,k2,uz (by simp at hl;omega) (fun j q hq=>by
    obtain⟨u,g1,g2⟩:=h (j+3) q (by simpa [frs]using hq)
    exact⟨u,by simpa using g1,g2⟩)⟩
theorem LnAt.pose {w:World} {c:Nm} {l:Ln} (h:LnAt w c l):∃cs:List Value,cs.length=21∧w.rangeAt l.b 5 cs∧bj w (.agg cs.toArray) l.x.po:=by
 obtain⟨⟨C,h1,h2,h3⟩,_⟩:=h
 have hC:C.size=27:=h2
 have hg:∀j,j<21→(C.extract 5 26).toList[j]? =C[5+j]? :=fun j hj=>by
  rw[Array.getElem?_toList,Array.getElem?_extract]
  rw[if_pos (by omega)]
 refine⟨(C.extract 5 26).toList,by simp[hC],fun j v hv=> ?_,⟨_,rfl,uz (xs:=l.x.po.cs) (by show(C.extract 5 26).toList.length=21;simp[hC]) (fun j q hq=> ?_)⟩⟩
 ·have hj:j<21:=by have:=(List.getElem?_eq_some_iff.1 hv).1;simpa [hC]using this
  rw[aT h1,←hg j hj];exact hv
 ·have hj:j<21:=(List.getElem?_eq_some_iff.1 hq).1
  have hq2:(lnQ c l)[5+j]? =some q:=by
   show([.val (.string c),.val (.string l.x.par),.val (.int .i64 l.x.fr),.val (.int .i64 l.x.un),.val (.bool l.x.st)]++(frs l.x.po.cs++ [.val (ptB l.g)]):List Vp)[5+j]? =some q
   rw[List.getElem?_append_right (by simp),List.getElem?_append_left (by show 5+j - 5<21;omega)]
   rw[show 5+j - ([.val (.string c),.val (.string l.x.par),.val (.int .i64 l.x.fr),.val (.int .i64 l.x.un),.val (.bool l.x.st)]:List Vp).length=j from by show 5+j - 5=j;omega]
   exact hq
  obtain⟨u,k1,k2⟩:=h3 _ _ hq2
  exact⟨u,by rw[hg j hj];exact k1,k2⟩
theorem dI (w:World):bj w (.agg aw.toArray) Pq.zero:=⟨aw,rfl,fe (n:=7) (uy (ρ:=[]) (B:=noB))⟩
noncomputable def trkP (S:List St) (a:Int):Pq×Int:=
 match S[0]?,S[S.length - 1]? with
 | some f,some l=>if a<f.tm∨l.tm<a then(Pq.zero,17)else
  (match S[plN S a]? with
  | some y=>if y.tm=a then(y.pose,0)else(match S[plN S a - 1]? with | some z=>(atP z y 0 a,0) | none=>(Pq.zero,17))
  | none=>(Pq.zero,17))
 | _,_=>(Pq.zero,6)
theorem Road.trkP {S:List St} {a:Int} {z y:St} {c:Int} (h:Road S a z y c):trkP S a=(atP z y c a,c):=by
 unfold Go.Proofs.YtggfmklppkioeaaGreat.trkP
 cases h with
 | E h0=>
  have:S=[]:=List.eq_nil_of_length_eq_zero h0
  subst this
  rfl
 | O1 f hf hn ha=>
  obtain⟨l,hl⟩:∃l,S[S.length - 1]? =some l:=⟨_,List.getElem?_eq_getElem (by omega)⟩
  simp only[hf,hl];rw[if_pos (.inl ha)];unfold atP;rw[if_pos (by decide)]
 | O2 f hf hb l hl hn ha=>simp only[hf,hl];rw[if_pos (.inr ha)];unfold atP;rw[if_pos (by decide)]
 | Q f hf hb l hl hn ha y hy ey hp eq1=>
  simp only[hf,hl];rw[if_neg (by omega)];simp only[hy];rw[if_pos ey]
  unfold atP;rw[if_neg (by decide),if_pos rfl]
 | M f hf hb l hl hn ha y hy ey hp h0 eq1 z hz=>
  simp only[hf,hl];rw[if_neg (by omega)];simp only[hy];rw[if_neg (by omega)];simp only[hz]
noncomputable def dw (R:Tr) (c:Nm) (a:Int):Pq×Int:=match tAt R c a with | none=>(Pq.zero,18) | some x=>if x.st then(x.po,0)else trkP x.tr a
theorem j4 {vs:List Value} {C:Array Value} (h:C.size=vs.length):lY C 0 vs=vs.toArray:=by
 apply Array.ext_getElem?
 intro i
 rw[mY _ _ _ _ (by omega)]
 by_cases hi:i<vs.length
 ·rw[if_pos ⟨by omega,by omega⟩];simp
 ·rw[if_neg (by omega),Array.getElem?_eq_none (by omega),Array.getElem?_eq_none (by simp;omega)]
structure PB (w0 W:World) (B:Nat) (vs:List Value):Prop where
 blk:W.heap[B]? =some (.cells vs.toArray 39 (0,0))
 len:vs.length=21
 bel:Below w0.heap.size w0 W
 ge:w0.heap.size≤B
 nu:∀u∈vs,noU u
theorem PB.new (w:World):PB w (w.alloc (.cells aw.toArray 39)) w.heap.size aw:=⟨heap_alloc_new w _,rfl,(Below.refl _ w).alloc (Nat.le_refl _) _,Nat.le_refl _,fun u hu n e=>by
 subst e;simp[aw]at hu⟩
theorem PB.next {w0 W W':World} {B:Nat} {vs:List Value} (h:PB w0 W B vs) (k:Below W.heap.size W W'):PB w0 W' B vs:=
 ⟨by rw[k.block B (Array.getElem?_eq_some_iff.1 h.blk).1];exact h.blk,h.len,h.bel.trans (k.mono h.bel.size),h.ge,h.nu⟩
theorem PB.put {w0 W:World} {B:Nat} {vs us:List Value} (h:PB w0 W B vs) (hu:us.length=21) (hn:∀u∈us,noU u):PB w0 (W.setCells B 0 us) B us:=
 ⟨by rw[er us W B 0 _ _ h.blk,j4 (by simp[h.len,hu])],hu,aG us 0 W h.bel h.ge,h.ge,hn⟩
theorem PB.there {w0 W:World} {B:Nat} {vs:List Value} (h:PB w0 W B vs):W.there B 0 21:=by
 have:=m7 h.blk
 rwa [List.size_toArray,h.len]at this
theorem aZ {us:List Value} (hu:us.length=21):(Tryz.prog.info? 39).map (·.size)=some us.toArray.size:=by rw[List.size_toArray,hu];kernel_rfl
theorem db {w:World} {v:Value} {p:Pq} (h:bj w v p):∃cs:List Value,v= .agg cs.toArray∧cs.length=21∧cs.toArray.all (·.oneCell')=true∧∀u∈cs,noU u:=by
 obtain⟨cs,rfl,hc⟩:=h
 refine⟨cs,rfl,cm hc,all_oneCell_toArray (j1 hc),fun u hu n e=> ?_⟩
 obtain⟨k,hk,e2⟩:=List.getElem_of_mem hu
 exact hc.noInt k n (by rw[List.getElem?_eq_getElem hk,e2,e])
theorem PB.keep {w0 W:World} {B:Nat} {vs us:List Value} {v:Value} {p:Pq} (h:PB w0 W B vs) (i:bj W v p):bj (W.setCells B 0 us) v p:=by
 obtain⟨cs,rfl,hc⟩:=i
 exact⟨cs,rfl,hc.upd (mT h.blk (fun u hu=>h.nu u (by simpa using hu))) (cD us W B 0)⟩
theorem PB.ret {w0 W:World} {B:Nat} {vs:List Value} (h:PB w0 W B vs) {fn:Func} {p u:Tmp} (hr:fn.results=#[.cell p 39,.tmp u]) (tmps:Array Value) (hp:tmps.getD p undef= .pointer (some ⟨B,0,none⟩)):
  (results fn tmps).run Tryz.prog W= .ok (.tuple #[.agg vs.toArray,tmps.getD u undef]) W:=
 qU hr tmps W B _ _ _ _ hp h.blk Tryz.underlying39 rfl (aZ h.len)
theorem q_EdgeN {w:World} {t m:Nat} {E:List Ch} {c:Nm} {a:Int} (h:TM w t m E) (hl:atE E c a=none):
  Calls Tryz.prog 41 #[ptB t,.string c,.int .i64 a] w fun e w'=>e= .returned (.tuple #[.agg aw.toArray,.int .i64 18])∧Below w.heap.size w w':=by
 have hp0:=PB.new w
 have hat:=qQ (h.below hp0.bel) c a
 rw[hl]at hat
 change Calls _ _ _ _ (fun e w'=>e= .returned (.pointer none)∧w'=_)at hat
 have HP:=Lib.hid hp0
 obtain⟨W,hW⟩:∃W,w.alloc (.cells aw.toArray 39)=W:=⟨_,rfl⟩
 rw[hW]at hat HP
 clear h hl hp0
 go_enter Tryz.func41,Tryz.ntmps41
 go_upto_region 0 with(fail)
 refine wp_region_list ?_
 refine ag rfl (v:=.pointer (some ⟨w.heap.size,0,none⟩)) (w':=W) (by subst hW;go_simp;try rfl) ?_
 obtain⟨B,hB⟩:∃B,w.heap.size=B:=⟨_,rfl⟩
 rw[hB]at HP⊢
 clear hW hB
 go_upto_region 5 with(go_at_call 90;refine hat.mono ?_;rintro e w' ⟨rfl,hw'⟩;obtain rfl:=hw'.symm)
 refine wp_region_list ?_
 refine ag rfl (v:=.agg aw.toArray) (w':=W) (by unfold aw;go_simp;try rfl) ?_
 refine wpList_store_mid rfl _ _ _ rfl B 0 aw.toArray rfl rfl HP.out.there (by kernel_rfl) (by kernel_rfl) ?_
 have HP2:=Lib.hid (HP.out.put (us:=aw) rfl HP.out.nu)
 generalize W.setCells B 0 aw.toArray.toList=W2 at *
 go_wp2
 refine bodyPost_ret (HP2.out.ret rfl _ rfl) rfl ?_
 exact⟨rfl,HP2.out.bel⟩
theorem q_EdgeS {w:World} {t m:Nat} {E:List Ch} {c:Nm} {a:Int} {l:Ln} (h:TM w t m E) (hl:atE E c a=some l) (hs:l.x.st=true) (hk:l.x.po.ok 1000000):
  Calls Tryz.prog 41 #[ptB t,.string c,.int .i64 a] w fun e w'=>∃v,e= .returned (.tuple #[v,.int .i64 0])∧bj w' v l.x.po∧Below w.heap.size w w':=by
 have hp0:=PB.new w
 have hT:=h.below hp0.bel
 have hat:=qQ hT c a
 rw[hl]at hat
 change Calls _ _ _ _ (fun e w'=>e= .returned (ptB l.b)∧w'=_)at hat
 obtain⟨_,_,_,hL⟩:=jZ hT hl
 obtain⟨cs,hlen,hrg,hoq⟩:=hL.pose
 have hst:=hL.st
 rw[hs]at hst
 have hcp:=q_fcp _ l.x.po _ hoq (hk.mono (by decide))
 have HP:=Lib.hid hp0
 obtain⟨W,hW⟩:∃W,w.alloc (.cells aw.toArray 39)=W:=⟨_,rfl⟩
 rw[hW]at hat HP hrg hst hcp
 have HRG:=Lib.hid hrg
 have HSZ:=Lib.hid (show(Tryz.prog.info? 39).map (·.size)=some cs.length by rw[hlen];kernel_rfl)
 clear h hl hp0 hT hs hk hL hrg hoq
 generalize l.b=lb at *
 generalize l.x.po=po at *
 go_enter Tryz.func41,Tryz.ntmps41
 go_upto_region 0 with(fail)
 refine wp_region_list ?_
 refine ag rfl (v:=.pointer (some ⟨w.heap.size,0,none⟩)) (w':=W) (by subst hW;go_simp;try rfl) ?_
 obtain⟨B,hB⟩:∃B,w.heap.size=B:=⟨_,rfl⟩
 rw[hB]at HP⊢
 clear hW hB
 go_upto_region 7 with(go_at_call 90;refine hat.mono ?_;rintro e w' ⟨rfl,hw'⟩;obtain rfl:=hw'.symm)
 clear hat hst
 refine wp_region_list ?_
 refine ag rfl (v:=ptB lb) (w':=W) (by rfl) ?_
 refine ag rfl (v:=ptB lb) (w':=W) (by go_simp) ?_
 refine ag rfl (v:=.pointer (some ⟨lb,5,none⟩)) (w':=W) (by go_simp) ?_
 refine wpList_load_mid rfl _ _ rfl lb 5 rfl cs _ HRG.out Tryz.underlying39 rfl HSZ.out ?_
 refine wpList_plain rfl (fun K hK=> ?_)
 go_simp
 go_at_call 97
 refine hcp.mono ?_
 rintro e w4 ⟨v,rfl,hv4,k4⟩
 obtain⟨us,rfl,hul,hu1,hun⟩:=db hv4
 have HP4:=HP.out.next k4
 have HP5:=Lib.hid (HP4.put (us:=us) hul hun)
 have HV:=Lib.hid (HP4.keep (us:=us) hv4)
 have hth:=HP4.there
 rw[←hul]at hth
 refine hK _ _ ?_
 clear hK K hv4 k4 hcp HRG HSZ HP
 refine wpList_store_mid rfl _ _ _ rfl B 0 us.toArray rfl rfl (by simpa using hth) (aZ hul) hu1 ?_
 rw[show us.toArray.toList=us from rfl]
 generalize W2d:w4.setCells B 0 us=W2 at *
 clear W2d HP4 hth hu1 hun
 go_wp2
 refine bodyPost_ret (HP5.out.ret rfl _ rfl) rfl ?_
 exact⟨_,rfl,HV.out,HP5.out.bel⟩
theorem q_EdgeT {w:World} {t m:Nat} {E:List Ch} {c:Nm} {a:Int} {l:Ln} (h:TM w t m E) (hE:TOk (trE E)) (hl:atE E c a=some l) (hs:l.x.st=false):
  Calls Tryz.prog 41 #[ptB t,.string c,.int .i64 a] w fun e w'=>∃v,e= .returned (.tuple #[v,.int .i64 (trkP l.x.tr a).2])∧bj w' v (trkP l.x.tr a).1∧Below w.heap.size w w':=by
 have hp0:=PB.new w
 have hT:=h.below hp0.bel
 have hat:=qQ hT c a
 rw[hl]at hat
 change Calls _ _ _ _ (fun e w'=>e= .returned (ptB l.b)∧w'=_)at hat
 obtain⟨ch,hch,hlm,hL⟩:=jZ hT hl
 have hgd:=hE.good _ (cC.2 ⟨ch,(cN hch).1,l,hlm,rfl⟩)
 obtain⟨z,y,cc,hr⟩:=road hgd a
 have hAt:=q_AtS hL.trk hgd hr
 have e1:=hr.trkP
 have hst:=hL.st
 have htp:=hL.tp
 rw[hs]at hst
 have HE1:=Lib.hid (show(trkP l.x.tr a).1=atP z y cc a by rw[e1])
 rw[show(trkP l.x.tr a).2=cc by rw[e1]]
 have HP:=Lib.hid hp0
 obtain⟨W,hW⟩:∃W,w.alloc (.cells aw.toArray 39)=W:=⟨_,rfl⟩
 rw[hW]at hat HP hst hAt htp
 clear h hl hp0 hT hs hL hE hch hlm hgd hr e1
 generalize l.b=lb at *
 generalize l.g=lg at *
 generalize (trkP l.x.tr a).1=po at *
 go_enter Tryz.func41,Tryz.ntmps41
 go_upto_region 0 with(fail)
 refine wp_region_list ?_
 refine ag rfl (v:=.pointer (some ⟨w.heap.size,0,none⟩)) (w':=W) (by subst hW;go_simp;try rfl) ?_
 obtain⟨B,hB⟩:∃B,w.heap.size=B:=⟨_,rfl⟩
 rw[hB]at HP⊢
 clear hW hB
 go_upto_region 8 with(go_at_call 90;refine hat.mono ?_;rintro e w' ⟨rfl,hw'⟩;obtain rfl:=hw'.symm)
 clear hat hst
 refine wp_region_list ?_
 refine ag rfl (v:=ptB lb) (w':=W) (by rfl) ?_
 refine ag rfl (v:=ptB lb) (w':=W) (by go_simp) ?_
 refine ag rfl (v:=.pointer (some ⟨lb,26,none⟩)) (w':=W) (by go_simp) ?_
 refine ag rfl (v:=ptB lg) (w':=W) (by go_simp) ?_
 refine ag rfl (v:=.int .i64 a) (w':=W) (by rfl) ?_
 refine wpList_plain rfl (fun K hK=> ?_)
 go_simp
 go_at_call 98
 refine hAt.mono ?_
 rintro e w4 ⟨v,rfl,hv4,k4⟩
 rw[←HE1.out]at hv4
 obtain⟨us,rfl,hul,hu1,hun⟩:=db hv4
 have HP4:=HP.out.next k4
 have HP5:=Lib.hid (HP4.put (us:=us) hul hun)
 have HV:=Lib.hid (HP4.keep (us:=us) hv4)
 have hth:=HP4.there
 rw[←hul]at hth
 refine hK _ _ ?_
 clear hK K hv4 k4 hAt HP HE1
 refine ag rfl (v:=.agg us.toArray) (w':=w4) (by go_simp) ?_
 refine ag rfl (v:=.int .i64 cc) (w':=w4) (by go_simp) ?_
 refine wpList_store_mid rfl _ _ _ rfl B 0 us.toArray rfl rfl (by simpa using hth) (aZ hul) hu1 ?_
 rw[show us.toArray.toList=us from rfl]
 generalize W2d:w4.setCells B 0 us=W2 at *
 clear W2d HP4 hth hu1 hun
 go_wp2
 refine bodyPost_ret (HP5.out.ret rfl _ rfl) rfl ?_
 exact⟨_,rfl,HV.out,HP5.out.bel⟩
theorem q_Edge {w:World} {t m:Nat} {E:List Ch} (h:TM w t m E) (hE:TOk (trE E)) (c:Nm) (a:Int):
  Calls Tryz.prog 41 #[ptB t,.string c,.int .i64 a] w fun e w'=>∃v,e= .returned (.tuple #[v,.int .i64 (dw (trE E) c a).2])∧bj w' v (dw (trE E) c a).1∧Below w.heap.size w w':=by
 unfold dw
 rw[←h.tAt]
 cases hl:atE E c a with
 | none=>
  refine(q_EdgeN h hl).mono ?_
  rintro e w' ⟨rfl,hb⟩
  exact⟨_,rfl,dI w',hb⟩
 | some l=>
  simp only[Option.map_some]
  obtain⟨ch,hch,hlm,_⟩:=jZ h hl
  cases hs:l.x.st with
  | true=>
   rw[if_pos rfl]
   exact q_EdgeS h hl hs ((hE.pose _ (cC.2 ⟨ch,(cN hch).1,l,hlm,rfl⟩) hs).2.mono (by decide))
  | false=>
   rw[if_neg (by simp)]
   exact q_EdgeT h hE hl hs
def endL (x:Lk):Int:=if x.un= -1 then eo else x.un - 1
noncomputable def x9 (x:Lk):Int×Int×Bool:=
 if x.st then(x.fr,endL x,true)else
  (if (iR x.tr).2.2=true∧(iR x.tr).1≤min (iR x.tr).2.1 (endL x)then((iR x.tr).1,min (iR x.tr).2.1 (endL x),true)else(0,0,false))
noncomputable def fH (R:Tr) (c:Nm) (a:Int):Int×Int×Bool:=match tAt R c a with | none=>(0,0,false) | some x=>x9 x
abbrev ya (s:Int×Int×Bool):Value:=.tuple #[.int .i64 s.1,.int .i64 s.2.1,.bool s.2.2]
theorem q_SpanN {w:World} {t m:Nat} {E:List Ch} {c:Nm} {a:Int} (h:TM w t m E) (hl:atE E c a=none):
  Calls Tryz.prog 43 #[ptB t,.string c,.int .i64 a] w fun e w'=>e= .returned (.tuple #[.int .i64 0,.int .i64 0,.bool false])∧Below w.heap.size w w':=by
 have hat:=qQ h c a
 rw[hl]at hat
 change Calls _ _ _ _ (fun e w'=>e= .returned (.pointer none)∧w'=_)at hat
 clear h hl
 go_enter Tryz.func43,Tryz.ntmps43
 go_wp2_with (go_at_call 90;refine hat.mono ?_;rintro e w' ⟨rfl,hw'⟩;obtain rfl:=hw'.symm)
 go_ret3
 exact⟨rfl,Below.refl _ _⟩
theorem q_SpanI {w:World} {t m:Nat} {E:List Ch} {c:Nm} {a:Int} {l:Ln} (h:TM w t m E) (hE:TOk (trE E)) (hl:atE E c a=some l):
  Calls Tryz.prog 43 #[ptB t,.string c,.int .i64 a] w fun e w'=>e= .returned (ya (x9 l.x))∧Below w.heap.size w w':=by
 have hat:=qQ h c a
 rw[hl]at hat
 change Calls _ _ _ _ (fun e w'=>e= .returned (ptB l.b)∧w'=_)at hat
 obtain⟨ch,hch,hlm,hL⟩:=jZ h hl
 have hgd:=hE.good _ (cC.2 ⟨ch,(cN hch).1,l,hlm,rfl⟩)
 have htm:=hE.tm _ (cC.2 ⟨ch,(cN hch).1,l,hlm,rfl⟩)
 have hsp:=q_SpanS hL.trk hgd
 have hun:=hL.un
 have hfr:=hL.fr
 have hst:=hL.st
 have htp:=hL.tp
 have hu0: -1≤l.x.un∧l.x.un≤1099511627776:=by have:=htm.1;have:=htm.2.2;unfold eo at this;simp only at *;omega
 obtain⟨e,he⟩:∃e,e=endL l.x:=⟨_,rfl⟩
 obtain⟨s,hs⟩:∃s,s=iR l.x.tr:=⟨_,rfl⟩
 rw[←hs]at hsp
 have HS:=Lib.hid (show x9 l.x=if l.x.st then(l.x.fr,e,true)else(if s.2.2=true∧s.1≤min s.2.1 e then(s.1,min s.2.1 e,true)else(0,0,false))by rw[he,hs];rfl)
 unfold endL at he
 obtain⟨s1,s2,s3⟩:=s
 simp only at hsp HS
 generalize x9 l.x=S at *
 clear h hl hL hE hch hlm hgd htm hs
 generalize l.b=lb at *
 generalize l.g=lg at *
 generalize l.x.fr=fr at *
 generalize l.x.un=un at *
 generalize l.x.st=st at *
 have key:∀(st':Bool) (s1 s2:Int) (s3:Bool),Calls Tryz.prog 100 (.pointer (some ⟨lg,0,none⟩)::[]).toArray w (fun e w'=>e= .returned (.tuple #[.int .i64 s1,.int .i64 s2,.bool s3])∧Below w.heap.size w w')→w.cell? ⟨lb,4,none⟩=some (.bool st')→
   S=(if st' then(fr,e,true)else(if s3=true∧s1≤min s2 e then(s1,min s2 e,true)else(0,0,false)))→(un= -1→e=1099511627776)→(un≠ -1→e=un - 1)→Calls Tryz.prog 43 #[ptB t,.string c,.int .i64 a] w fun e w'=>e= .returned (ya S)∧Below w.heap.size w w':=by
  clear hsp hst HS s1 s2 s3 he st
  intro st s1 s2 s3 hsp hst HS0 h1 h2
  have HS:=Lib.hid HS0
  clear HS0
  by_cases hu:un= -1
  ·obtain rfl:=h1 hu
   subst hu
   clear h1 h2
   cases st with
   | true=>
    go_enter Tryz.func43,Tryz.ntmps43
    go_wp2_with (go_at_call 90;refine hat.mono ?_;rintro e w' ⟨rfl,hw'⟩;obtain rfl:=hw'.symm)
    go_ret3
    rw[HS.out]
    exact⟨rfl,Below.refl _ _⟩
   | false=>
    go_enter Tryz.func43,Tryz.ntmps43
    go_upto_region 11 with(first
     | (go_at_call 90;refine hat.mono ?_;rintro e w' ⟨rfl,hw'⟩;obtain rfl:=hw'.symm)
     | (go_at_call 100;refine hsp.mono ?_;rintro e w2 ⟨rfl,k2⟩;have HB:=Lib.hid k2;clear k2))
    clear hat hsp
    obtain⟨mm,hmm⟩:∃mm,min s2 1099511627776=mm:=⟨_,rfl⟩
    rw[hmm]at HS⊢
    clear hmm
    cases s3 with
    | false=>
     go_wp2
     go_ret3
     rw[HS.out]
     exact⟨rfl,HB.out⟩
    | true=>
     by_cases hm:s1≤mm
     ·have hm2:decide (mm<s1)=false:=decide_eq_false (by omega)
      have HM:=Lib.hid hm
      clear hm
      go_wp2
      go_ret3
      rw[HS.out,if_neg (by simp),if_pos (by simpa using HM.out)]
      exact⟨rfl,HB.out⟩
     ·have hm2:decide (mm<s1)=true:=decide_eq_true (by omega)
      have HM:=Lib.hid hm
      clear hm
      go_wp2
      go_ret3
      rw[HS.out,if_neg (by simp),if_neg (by have:=HM.out;simp;omega)]
      exact⟨rfl,HB.out⟩
  ·obtain rfl:=h2 hu
   have hu2:(un== -1)=false:=beq_eq_false_iff_ne.2 hu
   have hu3:IntKind.i64.wrap (un - 1)=un - 1:=by rw[IntKind.wrap_i64];omega
   clear h1 h2 hu
   cases st with
   | true=>
    go_enter Tryz.func43,Tryz.ntmps43
    go_wp2_with (go_at_call 90;refine hat.mono ?_;rintro e w' ⟨rfl,hw'⟩;obtain rfl:=hw'.symm)
    go_ret3
    rw[HS.out]
    exact⟨rfl,Below.refl _ _⟩
   | false=>
    go_enter Tryz.func43,Tryz.ntmps43
    go_upto_region 11 with(first
     | (go_at_call 90;refine hat.mono ?_;rintro e w' ⟨rfl,hw'⟩;obtain rfl:=hw'.symm)
     | (go_at_call 100;refine hsp.mono ?_;rintro e w2 ⟨rfl,k2⟩;have HB:=Lib.hid k2;clear k2))
    clear hat hsp
    obtain⟨mm,hmm⟩:∃mm,min s2 (un - 1)=mm:=⟨_,rfl⟩
    rw[hmm]at HS⊢
    clear hmm
    cases s3 with
    | false=>
     go_wp2
     go_ret3
     rw[HS.out]
     exact⟨rfl,HB.out⟩
    | true=>
     by_cases hm:s1≤mm
     ·have hm2:decide (mm<s1)=false:=decide_eq_false (by omega)
      have HM:=Lib.hid hm
      clear hm
      go_wp2
      go_ret3
      rw[HS.out,if_neg (by simp),if_pos (by simpa using HM.out)]
      exact⟨rfl,HB.out⟩
     ·have hm2:decide (mm<s1)=true:=decide_eq_true (by omega)
      have HM:=Lib.hid hm
      clear hm
      go_wp2
      go_ret3
      rw[HS.out,if_neg (by simp),if_neg (by have:=HM.out;simp;omega)]
      exact⟨rfl,HB.out⟩
 exact key st s1 s2 s3 hsp hst HS.out (fun h=>by rw[he,if_pos h]) (fun h=>by rw[he,if_neg h])
theorem q_Span {w:World} {t m:Nat} {E:List Ch} (h:TM w t m E) (hE:TOk (trE E)) (c:Nm) (a:Int):
  Calls Tryz.prog 43 #[ptB t,.string c,.int .i64 a] w fun e w'=>e= .returned (ya (fH (trE E) c a))∧Below w.heap.size w w':=by
 unfold fH
 rw[←h.tAt]
 cases hl:atE E c a with
 | none=>exact q_SpanN h hl
 | some l=>exact q_SpanI h hE hl
section
open Go.RowKit Go.MapKept
open Classical
def dL (q:Nm×Lk):List Value:=[.string q.1,.string q.2.par,.int .i64 q.2.fr,.int .i64 q.2.un]
noncomputable def fu (R:Tr) (L:List Nm):List (Nm×Lk):=L.flatMap fun c=>(lks R c).map fun x=>(c,x)
abbrev fT (w:World) (v:Value) (l:List (Nm×Lk)):Prop:=de w 76 4 v l.length (l.flatMap dL)
theorem pP {q:Nm×Lk}:∀u∈dL q,u.oneCell'=true∧noU u:=fun u hu=>by
 simp only[dL,List.mem_cons,List.not_mem_nil,or_false]at hu
 rcases hu with rfl | rfl | rfl | rfl<;>exact⟨rfl,fun n e=>by cases e⟩
theorem lnk_app {w:World} {v:Value} {l:List (Nm×Lk)} {g:Nat} {x:Nm×Lk} {ty:TypeId} (h:fT w v l) (hl:l.length≤2000) (hg:∀j u,(dL x)[j]? =some u→w.cell? ((⟨g,0,none⟩:Addr).add j)=some u) {B:Nat} {w0:World} (hb:Below B w0 w) (hB:B≤w.heap.size) (ho:∀g,v.ownBlock=some g→B≤g):
  ∃v' w',(Builtin.append_ #[73,73] ty #[v,.slice (some ⟨g,0,none⟩) 1 1]).run Tryz.prog w= .ok v' w'∧fT w' v' (l++ [x])∧Below B w0 w'∧∀g,v'.ownBlock=some g→B≤g:=by
 obtain⟨v',w',k1,k2,k3,k4⟩:=run_appK (p:=Tryz.prog) (ty:=ty) (c:=1) (m:=1) (sz:=4) (bytes:=48) Tryz.underlying73 (by kernel_rfl) h rfl hg (fun u hu=>(pP u hu).1) (fun u hu=>(pP u hu).2) (by decide) (by omega) (by omega)
 refine⟨v',w',k1,?_,hb.grown k2 hB (fun k hk=>ho k hk),fun g hg=>(k3 g hg).elim (ho g) (fun h=>Nat.le_trans hB h)⟩
 show de w' _ 4 v' (l++ [x]).length _
 rw[List.length_append,List.flatMap_append,show [x].flatMap dL=dL x by simp]
 exact k4
theorem E_len {E:List Ch} {w:World} {t m:Nat} (h:TM w t m E) (hS:TSm (trE E)):E.length≤24:=by
 obtain⟨n,hn,l,h1,h2,rfl⟩:=hS.cnt
 rw[←List.length_map (f:=(·.c))]
 refine Nat.le_trans (gn h.keys (fun x hx=> ?_)) hn
 obtain⟨ch,hch,rfl⟩:=List.mem_map.1 hx
 have hne:=(h.rows ch hch).ne
 obtain⟨ln,hln⟩:=List.exists_mem_of_ne_nil _ hne
 exact(h2 _).2 ⟨_,cC.2 ⟨ch,hch,ln,hln,rfl⟩,.inl rfl⟩
theorem m8 {R:Tr} (hS:TSm R):∀ {L:List Nm},(fu R L).length≤L.length*64
 | []=>Nat.zero_le _
 | c::L=>by
  have h1:=hS.per c
  have h2:=m8 hS (L:=L)
  have e:fu R (c::L)=(lks R c).map (fun x=>(c,x))++fu R L:=rfl
  rw[e,List.length_append,List.length_map,List.length_cons,Nat.add_mul];omega
theorem wP (R:Tr) (L:List Nm) (c:Nm):fu R (L++ [c])=fu R L++(lks R c).map fun x=>(c,x):=by
 unfold fu;rw[List.flatMap_append];simp
theorem q_keysL {w:World} {t m:Nat} {E:List Ch} (h:TM w t m E) (hS:TSm (trE E)) (hn:∀x,aO (trE E) x→x.size≤maxLen):
  (Calls Tryz.prog 91 #[.map (some m)] w fun e w'=>e= .returned (.func (.func 154) #[] #[.pointer (some ⟨w.heap.size,0,none⟩)])∧w'=w.alloc (.cells #[.map (some m)] mpT))∧
  Calls Tryz.prog 87 #[.func (.func 154) #[] #[.pointer (some ⟨w.heap.size,0,none⟩)]] (w.alloc (.cells #[.map (some m)] mpT)) fun e w'=>∃v L,e= .returned v∧bc w' w.heap.size v L∧L.Perm (E.map (·.c))∧L.Nodup∧L.Pairwise wO∧Below w.heap.size w w':=by
 have hmx:(1000000:Nat)≤maxLen:=by unfold maxLen;omega
 have hlen:=E_len h hS
 obtain⟨D,hD,hp,hz⟩:=da.owns (P:=Tryz.prog) (k:=9) h.mp (by kernel_rfl) (by rw[List.length_map];omega) (fun p hp=>by
  obtain⟨ch,hch,rfl⟩:=List.mem_map.1 hp
  obtain⟨ln,hln⟩:=List.exists_mem_of_ne_nil _ (h.rows ch hch).ne
  exact hn _ ⟨_,cC.2 ⟨ch,hch,ln,hln,rfl⟩,.inl rfl⟩)
 rw[List.length_map]at hD hz
 refine⟨callsIn_wide.1 (Tryz.maps_Keys_L (some m) w),(callsIn_wide.1 (Tryz.slices_Sorted_keys_L m E.length D Re0 w hD (by omega) (by omega))).mono ?_⟩
 rintro e w' ⟨v,ss,rfl,hSS,hrow,hnil,hb⟩
 obtain⟨L,h1,h2,h3,h4,h5⟩:=nN (da.nodup h.mp) hp hSS
 rw[List.map_map]at h3
 refine⟨v,L,rfl,?_,h3,h4,h5,((Below.refl _ w).alloc (Nat.le_refl _) _).trans (hb.mono (by rw[asz];omega))⟩
 show w'.ownsRow w.heap.size 9 1 v L.length (L.map Value.string)
 rw[←h1,h2]
 exact ownsRow_base_a hrow (by rw[asz];omega)
set_option maxHeartbeats 2000000 in
theorem q_Links {w:World} {t m:Nat} {E:List Ch} (h:TM w t m E) (hE:Sane (trE E)):Calls Tryz.prog 35 #[ptB t] w fun e w'=>∃v L,e= .returned v∧fT w' v (fu (trE E) L)∧L.Perm (E.map (·.c))∧L.Nodup∧L.Pairwise wO∧(∀g,v.ownBlock=some g→w.heap.size≤g)∧Below w.heap.size w w':=by
 obtain⟨hk1,hk2⟩:=q_keysL h hE.sm (fun x hx=>hE.short hx)
 have hk3:=hk2.mono (show∀e w',_→∃ad n cap,∃L:List Nm,e= .returned (.slice ad n cap)∧Hid (bc w' w.heap.size (.slice ad n cap) L∧n=L.length∧L.Perm (E.map (·.c))∧L.Nodup∧L.Pairwise wO∧Below w.heap.size w w')from by
  rintro e w' ⟨v,L,rfl,h1,h2,h3,h4,h5⟩
  obtain⟨ad,cap,rfl⟩:=ft h1
  exact⟨ad,_,cap,L,rfl,Lib.hid ⟨h1,rfl,h2,h3,h4,h5⟩⟩)
 have h1:=h.cell
 have H:=Lib.hid h
 have HS:=Lib.hid hE
 clear h hE hk2
 go_enter Tryz.func35,Tryz.ntmps35
 go_wp2_with (first
  | (go_at_call 91;refine hk1.mono ?_;rintro e w2 ⟨rfl,rfl⟩)
  | (go_at_call 87;refine hk3.mono ?_;rintro e w3 ⟨ad,n,cap,L,rfl,HR⟩))
 clear hk1 hk3
 have hn24:n≤24:=by rw[HR.out.2.1,HR.out.2.2.1.length_eq,List.length_map];exact E_len H.out HS.out.sm
 go_loopw [3,17] (fun s3 s17 wr=>∃(k:Nat),k≤n∧s17= .int .i64 (k:Int)∧Hid (fT wr s3 (fu (trE E) (L.take k)))∧Hid (∀g,s3.ownBlock=some g→w3.heap.size≤g)∧Hid (Below w3.heap.size w3 wr)) (fun _ s17 _=>n - (intOf s17).toNat)
 case atStart=>exact⟨0,Nat.zero_le _,rfl,Lib.hid (by rw[List.take_zero];exact⟨World.ownsRow_nil _ _ _ _,fun g hg=>by cases hg⟩),Lib.hid (fun g hg=>by cases hg),Lib.hid (Below.refl _ _)⟩
 case round=>
  obtain⟨k,hk,rfl,HL,HO,HB⟩:=hrel
  rcases Nat.lt_or_ge k n with hlt | hge
  ·obtain⟨c,hc⟩:∃c,L[k]? =some c:=⟨_,List.getElem?_eq_getElem (by rw[←HR.out.2.1];exact hlt)⟩
   obtain⟨g,hg,hc0⟩:=jj (by have:=HR.out.1;unfold bc at this;rw[←HR.out.2.1]at this;exact this) (show(L.map Value.string)[k]? =some (.string c)by rw[List.getElem?_map,hc];rfl)
   have hgl:=(cE HR.out.1 (g:=g) (by rw[hg];rfl)).2
   subst hg
   have hcc:wr.cell? ⟨g,k,none⟩=some (.string c):=by rw[HB.out.cell (p:=⟨g,k,none⟩) hgl];exact hc0
   have hb3:=HR.out.2.2.2.2.2
   have hT:=(H.out.below hb3).below HB.out
   cases hch:chE E c with
   | none=>
    obtain⟨ch,h2,h3⟩:=List.mem_map.1 ((HR.out.2.2.1.mem_iff).1 (List.mem_of_getElem? hc))
    exact absurd h3 (uj hch h2)
   | some ch=>
    have h4:=hT.cell
    have h5:=hT.look c
    have hCA:=hT.chAt hch
    have hm2:(ch.ls.length:Int)≤9223372036854775807:=by have:=hCA.le;have:=hCA.cap;unfold maxLen at this;omega
    have h5':(Instr.lookup mpT (.map (some m)) (.string c) false).run Tryz.prog wr= .ok (.slice (some ⟨ch.rb,0,none⟩) ch.ls.length ch.cap) wr:=by rw[h5];unfold lU;rw[hch];rfl
    have hlk:lks (trE E) c=ch.ls.map (·.x):=by rw[gO H.out.keys];unfold lsE;rw[hch];rfl
    have HLK:=Lib.hid hlk
    have HC:=Lib.hid hc
    have HCH:=Lib.hid hch
    have HLN:=Lib.hid (show∀wq:World,Below w3.heap.size w3 wq→TM wq t m E from fun wq k=>(H.out.below hb3).below k)
    have h64:=HS.out.sm.per c
    rw[hlk,List.length_map]at h64
    obtain⟨n2,hn2⟩:∃n2,n2=ch.ls.length:=⟨_,rfl⟩
    rw[←hn2]at h5' hm2 h64
    have HN2:=Lib.hid hn2
    clear h5 hCA hT hlk hc hch hn2 hb3 hc0 hgl
    go_wp2
    go_loopw [3,28] (fun s3 s28 wq=>∃(j:Nat),j≤n2∧s28= .int .i64 (j:Int)∧Hid (fT wq s3 (fu (trE E) (L.take k)++(ch.ls.take j).map fun l=>(c,l.x)))∧Hid (∀g,s3.ownBlock=some g→w3.heap.size≤g)∧Hid (Below w3.heap.size w3 wq)) (fun _ s28 _=>n2 - (intOf s28).toNat)
    case atStart=>exact⟨0,Nat.zero_le _,rfl,by rw[List.take_zero,List.map_nil,List.append_nil];exact HL,HO,HB⟩
    case round=>
     clear HL HO HB h4 h5' hcc
     obtain⟨j,hj,rfl,HL,HO,HB⟩:=hrel
     rcases Nat.lt_or_ge j n2 with hlt2 | hge
     ·obtain⟨ln,hln⟩:∃ln,ch.ls[j]? =some ln:=⟨_,List.getElem?_eq_getElem (by rw[←HN2.out];exact hlt2)⟩
      have hT:=HLN.out wr HB.out
      have hcl:=(hT.chAt HCH.out).cell hln
      have hLn:=hT.ln HCH.out (List.mem_of_getElem? hln)
      have hrg:wr.rangeAt ln.b 0 (dL (c,ln.x)):=fun i v hv=>by
       rw[Nat.zero_add]
       match i,hv with
       | 0,hv=>injection hv with hv;subst hv;exact hLn.cellv rfl
       | 1,hv=>injection hv with hv;subst hv;exact hLn.par
       | 2,hv=>injection hv with hv;subst hv;exact hLn.fr
       | 3,hv=>injection hv with hv;subst hv;exact hLn.un
       | i+4,hv=>simp[dL]at hv
      have hg1:∀(i:Nat) (u:Value),(dL (c,ln.x))[i]? =some u→(wr.alloc (.cells (dL (c,ln.x)).toArray 76)).cell? ((⟨wr.heap.size,0,none⟩:Addr).add i)=some u:=fun i u hu=>by
       rw[cJ,Nat.zero_add,aT (heap_alloc_new wr _)];simpa using hu
      have hLlen:(fu (trE E) (L.take k)++(ch.ls.take j).map fun l=>(c,l.x)).length≤2000:=by
       have h1:=m8 HS.out.sm (L:=L.take k)
       rw[List.length_take]at h1
       rw[List.length_append,List.length_map,List.length_take]
       omega
      obtain⟨v5,w5,hrun,hW5,hB5,hO5⟩:=lnk_app (ty:=73) (x:=(c,ln.x)) (HL.out.keep (w':=wr.alloc (.cells (dL (c,ln.x)).toArray 76)) (fun g hg=>heap_alloc_old wr _ (cE HL.out.1 hg).2)) hLlen hg1 (HB.out.alloc HB.out.size _) (by rw[asz];have:=HB.out.size;omega) HO.out
      have HW5:=Lib.hid (show fT w5 v5 (fu (trE E) (L.take k)++(ch.ls.take (j+1)).map fun l=>(c,l.x))by
       rw[List.take_add_one,hln,List.map_append,←List.append_assoc];exact hW5)
      have HB5:=Lib.hid hB5
      have HO5:=Lib.hid hO5
      have HRUN:=Lib.hid hrun
      have HRG:=Lib.hid hrg
      clear hW5 hB5 hO5 hg1 hrun hLlen hrg hLn hT hln HL HO HB
      generalize ln.b=lb at *
      generalize ln.x=x at *
      go_upto_region 10 with(fail)
      refine wp_region_list ?_
      refine ag rfl (v:=u3) (w':=wr) (by rfl) ?_
      refine ag rfl (v:=ptB lb) (w':=wr) (by rfl) ?_
      refine ag rfl (v:=ptB lb) (w':=wr) (by go_simp) ?_
      refine ag rfl (v:=ptB lb) (w':=wr) (by go_simp) ?_
      refine wpList_load_mid rfl _ _ rfl lb 0 rfl (dL (c,x)) _ HRG.out Tryz.underlying76 rfl (by kernel_rfl) ?_
      refine ag rfl (v:=.slice (some ⟨wr.heap.size,0,none⟩) 1 1) (w':=wr.alloc (.cells (dL (c,x)).toArray 76)) (by unfold dL;go_simp) ?_
      refine j3 rfl rfl rfl rfl HRUN.out ?_
      go_wp2
      go_roundw
      case rel=>exact⟨j+1,by omega,by go_num,HW5,HO5,HB5⟩
      case measure=>simp[intOf];omega
     ·obtain rfl:j=n2:=by omega
      have HL2:=Lib.hid (show fT wr u3 (fu (trE E) (L.take (k+1)))by
       have h1:=HL.out
       rw[List.take_add_one,HC.out,Option.toList_some,wP,HLK.out]
       rw[HN2.out,List.take_length]at h1
       rw[List.map_map]
       exact h1)
      clear HL
      go_wp2
      go_roundw
      case rel=>exact⟨k+1,by omega,by go_num,HL2,HO,HB⟩
      case measure=>simp[intOf];omega
  ·obtain rfl:k=n:=by omega
   have HQ:=Lib.hid (show∃v L',Ending.returned u3= .returned v∧fT wr v (fu (trE E) L')∧L'.Perm (E.map (·.c))∧L'.Nodup∧L'.Pairwise wO∧(∀g,v.ownBlock=some g→w.heap.size≤g)∧Below w.heap.size w wr from by
    obtain⟨_,h1,h2,h3,h4,h5⟩:=HR.out
    have h6:=HL.out
    rw[h1,List.take_length]at h6
    exact⟨u3,L,rfl,h6,h2,h3,h4,fun g hg=>Nat.le_trans h5.size (HO.out g hg),h5.trans (HB.out.mono h5.size)⟩)
   clear HB HL HO
   go_wp2
   go_ret
   exact HQ.out
end
section
open Classical
theorem flat4:∀ {l:List (Nm×Lk)} {i j:Nat} {q:Nm×Lk},l[i]? =some q→j<4→(l.flatMap dL)[i*4+j]? =(dL q)[j]?
 | [],i,j,q,h,_=>by cases h
 | p::l,0,j,q,h,hj=>by
  simp only[List.getElem?_cons_zero,Option.some.injEq]at h
  subst h
  rw[List.flatMap_cons,List.getElem?_append_left (by show 0*4+j<4;omega),Nat.zero_mul,Nat.zero_add]
 | p::l,i+1,j,q,h,hj=>by
  rw[List.flatMap_cons,List.getElem?_append_right (by show 4≤(i+1)*4+j;omega)]
  have e:(i+1)*4+j - (dL p).length=i*4+j:=by show(i+1)*4+j - 4=_;omega
  rw[e]
  exact flat4 (by simpa using h) hj
end
section
open Classical
theorem q_Index {w:World} {v:Value} {L:List Nm} {b:Nat} (h:bc w b v L) (hL:L.length≤1000000) (c:Nm):Calls Tryz.prog 222 #[v,.string c] w fun e w'=>∃i:Int,e= .returned (.int .i64 i)∧(0≤i↔c∈L)∧w'=w:=by
 obtain⟨ad,cap,rfl⟩:=ft h
 obtain⟨n,hn⟩:∃n,n=L.length:=⟨_,rfl⟩
 have H:=Lib.hid (show w.ownsRow b 9 1 (.slice ad L.length cap) L.length (L.map Value.string)from h)
 rw[←hn]at H hL⊢
 have HN:=Lib.hid hn
 have hm:(n:Int)≤1000000:=by omega
 clear h hL hn
 go_enter Tryz.func222,Tryz.ntmps222
 go_wp2
 go_loopw [8] (fun s8 wr=>∃k:Nat,k≤n∧s8= .int .i64 (k:Int)∧wr=w∧Hid (∀j y,j<k→L[j]? =some y→y≠c)) (fun s8 _=>n - (intOf s8).toNat)
 case atStart=>exact⟨0,Nat.zero_le _,rfl,rfl,Lib.hid (fun j y hj=>absurd hj (Nat.not_lt_zero j))⟩
 case round=>
  obtain⟨k,hk,rfl,rfl,HR⟩:=hrel
  rcases Nat.lt_or_ge k n with hlt | hge
  ·obtain⟨x,hx⟩:∃x,L[k]? =some x:=⟨_,List.getElem?_eq_getElem (by rw[←HN.out];exact hlt)⟩
   obtain⟨g,rfl,hc⟩:=jj H.out (show(L.map Value.string)[k]? =some (.string x)by rw[List.getElem?_map,hx];rfl)
   have HX:=Lib.hid hx
   clear hx
   by_cases e:c=x
   ·subst e
    have HQ:=Lib.hid (show∃i:Int,Ending.returned (.int .i64 (k:Int))= .returned (.int .i64 i)∧(0≤i↔c∈L)from⟨k,rfl,⟨fun _=>List.mem_of_getElem? HX.out,fun _=>by omega⟩⟩)
    go_wp2
    go_ret
    obtain⟨i,h1,h2⟩:=HQ.out
    exact⟨i,h1,h2,rfl⟩
   ·have hne:=ul e
    have HR2:=Lib.hid (show∀j y,j<k+1→L[j]? =some y→y≠c from fun j y hj hy=>by
     rcases Nat.lt_or_ge j k with h | h
     ·exact HR.out j y h hy
     ·obtain rfl:j=k:=by omega
      rw[HX.out]at hy;injection hy with hy;subst hy;exact fun h=>e h.symm)
    clear e
    go_wp2
    go_roundw
    case rel=>exact⟨k+1,by omega,by go_num,by trivial,HR2⟩
    case measure=>simp[intOf];omega
  ·obtain rfl:k=n:=by omega
   have HQ:=Lib.hid (show∃i:Int,Ending.returned (.int .i64 (-1))= .returned (.int .i64 i)∧(0≤i↔c∈L)from⟨-1,rfl,⟨fun h=>by omega,fun h=>by
    obtain⟨j,hj,e⟩:=List.getElem_of_mem h
    exact absurd e (HR.out j _ (by rw[HN.out];exact hj) (List.getElem?_eq_getElem hj))⟩⟩)
   clear HR H
   go_wp2
   go_ret
   obtain⟨i,h1,h2⟩:=HQ.out
   exact⟨i,h1,h2,rfl⟩
theorem pQ {w:World} {v:Value} {L:List Nm} {b:Nat} (h:bc w b v L) (hL:L.length≤1000000) (c:Nm):Calls Tryz.prog 172 #[v,.string c] w fun e w'=>e= .returned (.bool (decide (c∈L)))∧w'=w:=by
 have hi:=q_Index h hL c
 obtain⟨q,hq⟩:∃q,q=decide (c∈L):=⟨_,rfl⟩
 have HQ:=Lib.hid hq
 rw[←hq]
 clear h hL hq
 go_enter Tryz.func172,Tryz.ntmps172
 go_wp2_with (go_at_call 222;refine hi.mono ?_;rintro e w2 ⟨i,rfl,hi2,rfl⟩;have HI:=Lib.hid hi2;clear hi2)
 go_ret
 refine⟨?_,rfl⟩
 have e:decide (0≤i)=q:=by rw[HQ.out];exact decide_eq_decide.2 HI.out
 rw[←e];rfl
theorem lZ {w:World} {t m:Nat} {E:List Ch} (h:TM w t m E) (hE:Sane (trE E)) (c:Nm):Calls Tryz.prog 108 #[ptB t,.string c] w fun e w'=>e= .returned (.bool (decide (aO (trE E) c)))∧Below w.heap.size w w':=by
 have hfr:=(q_Frames h hE.sm (fun x hx=>hE.short hx)).mono (show∀e w',_→∃v,e= .returned v∧Hid (Below w.heap.size w w')∧Calls Tryz.prog 172 #[v,.string c] w' fun e w''=>e= .returned (.bool (decide (aO (trE E) c)))∧w''=w' from by
  rintro e w' ⟨v,L,rfl,h1,h2,_,_,_,h3,h4⟩
  refine⟨v,rfl,Lib.hid h4,?_⟩
  rw[show decide (aO (trE E) c)=decide (c∈L)from decide_eq_decide.2 (h2 c).symm]
  exact pQ h1 (by omega) c)
 obtain⟨q,hq⟩:∃q,q=decide (aO (trE E) c):=⟨_,rfl⟩
 rw[←hq]at hfr⊢
 clear h hE hq
 go_enter Tryz.func108,Tryz.ntmps108
 go_wp2_with (first
  | (go_at_call 33;refine hfr.mono ?_;rintro e w2 ⟨v,rfl,HB,hct⟩)
  | (go_at_call 172;refine hct.mono ?_;rintro e w' ⟨rfl,hw'⟩;obtain rfl:=hw'.symm))
 go_ret
 exact⟨rfl,HB.out⟩
inductive Anc (R:Tr) (a:Int):Nm→List Nm→Prop
 | root {x:Nm} (h:par R a x=none):Anc R a x [x]
 | step {x y:Nm} {l:List Nm} (h:par R a x=some y) (t:Anc R a y l):Anc R a x (x::l)
theorem Anc.of {R:Tr} {a:Int} {x:Nm} (h:en R a x):∃l,Anc R a x l:=by
 induction h with
 | intro x _ ih=>
  cases hp:par R a x with
  | none=>exact⟨_,.root hp⟩
  | some y=>
   obtain⟨l,hl⟩:=ih y hp
   exact⟨_,.step hp hl⟩
theorem Anc.uniq {R:Tr} {a:Int} {x:Nm} {l l':List Nm} (h:Anc R a x l) (k:Anc R a x l'):l=l':=by
 induction h generalizing l' with
 | root hp=>
  cases k with
  | root=>rfl
  | step hp' _=>rw[hp]at hp';cases hp'
 | step hp _ ih=>
  cases k with
  | root hp'=>rw[hp]at hp';cases hp'
  | step hp' t=>rw[hp]at hp';injection hp' with e;subst e;rw[ih t]
theorem Anc.head {R:Tr} {a:Int} {x:Nm} {l:List Nm} (h:Anc R a x l):∃t,l=x::t:=by cases h<;>exact⟨_,rfl⟩
theorem Anc.up {R:Tr} {a:Int}:∀ {n:Nat} {x y:Nm} {l:List Nm},Anc R a x l→up R a n x=some y→par R a y=none→l.length=n+1
 | 0,x,y,l,h,hu,hy=>by
  simp only[Go.Proofs.YtggfmklppkioeaaGreat.up,Option.some.injEq]at hu;subst hu
  cases h with
  | root=>rfl
  | step hp _=>rw[hy]at hp;cases hp
 | n+1,x,y,l,h,hu,hy=>by
  cases h with
  | root hp=>simp only[Go.Proofs.YtggfmklppkioeaaGreat.up,hp,Option.bind_none]at hu;cases hu
  | step hp t=>simp only[Go.Proofs.YtggfmklppkioeaaGreat.up,hp,Option.bind_some]at hu;rw[List.length_cons,Anc.up t hu hy]
theorem Anc.short {R:Tr} {a:Int} {x:Nm} {l:List Nm} (hR:Sane R) (hx:aO R x) (h:Anc R a x l):l.length≤24:=by
 obtain⟨n,y,h1,h2,h3⟩:=zK (a:=a) hR.ok hR.sm hx
 have:=h.up h2 h3
 omega
end
section
open Go.RowKit Go.Shelf
open Classical
attribute [local go_sem] Oper.semAt_some
structure Kb (n O:Nat) (A B:World):Prop where
 os:B.os=A.os
 tape:B.tape=A.tape
 output:B.output=A.output
 size:A.heap.size≤B.heap.size
 block:∀k,k<n→k≠O→B.heap[k]? =A.heap[k]?
theorem Kb.refl (n O:Nat) (A:World):Kb n O A A:=⟨rfl,rfl,rfl,Nat.le_refl _,fun _ _ _=>rfl⟩
theorem Kb.trans {n O:Nat} {A B C:World} (h:Kb n O A B) (k:Kb n O B C):Kb n O A C:=⟨k.os.trans h.os,k.tape.trans h.tape,k.output.trans h.output,Nat.le_trans h.size k.size,fun i h1 h2=>(k.block i h1 h2).trans (h.block i h1 h2)⟩
theorem Kb.below {n O:Nat} {A B:World} (h:Below n A B):Kb n O A B:=⟨h.os,h.tape,h.output,h.size,fun k hk _=>h.block k hk⟩
theorem Kb.grown {n O:Nat} {A B C:World} (h:Kb n O A B) {row:Option Nat} (g:B.grownBy C row) (hn:n≤B.heap.size) (hr:∀k,row=some k→n≤k∨k=O):Kb n O A C:=
 ⟨g.os.trans h.os,g.tape.trans h.tape,g.output.trans h.output,Nat.le_trans h.size g.size,fun k hk hO=>(g.block k (by omega) (fun e=>by rcases hr k e.symm with h1 | h1;omega;exact hO h1)).trans (h.block k hk hO)⟩
theorem Kb.cell {n O:Nat} {A B:World} (h:Kb n O A B) {b j:Nat} (hb:b<n) (hO:b≠O):B.cell? ⟨b,j,none⟩=A.cell? ⟨b,j,none⟩:=World.cell?_of_block (h.block b hb hO)
theorem Kb.tm {O t m:Nat} {E:List Ch} {w W:World} (h:Kb w.heap.size O w W) (hT:TM w t m E) (hO:O∉fpT t m E) (o:bF w O):TM W t m E:=
 hT.chg (X:=(· =O)) ⟨h.size,fun g hg hn=>h.block g hg hn,fun g hg=>by have e:g=O:=hg;subst e;exact o⟩ (fun g hg e=>hO (e▸hg))
theorem kb_own {β:Type} (n O:Nat) (w:World) (hn:n≤w.heap.size):OwnFrom n (fun(_:β) W=>Kb n O w W):=fun _ _ _ _ hs hg hr=>hs.grown hg (Nat.le_trans hn hs.size) (fun k e=>.inl (hr k e).1)
theorem kb_b {n O:Nat} {w:World} (hn:n≤w.heap.size) (W:World) (l:Nat) (o o':Obj) (hl:w.heap.size≤l) (h:W.heap[l]? =some o) (_:o.isCells=false) (_:o.isWalk=false):Kb n O W (W.putObj l o'):=
 (Kb.refl n O W).grown (grownBy_putObj' W l o') (by have:=(Array.getElem?_eq_some_iff.1 h).1;omega) (fun k e=>by cases e;exact .inl (by omega))
theorem wQ (w:World) (t:Nat) (x:Nm) (a:Int):Calls Tryz.prog 171 #[ptB t,.string x,.int .i64 a] w fun e w'=>∃B,e= .returned (.func (.func 221) #[] #[.pointer (some ⟨B+1,0,none⟩),.pointer (some ⟨B,0,none⟩),.pointer (some ⟨B+2,0,none⟩)])∧B=w.heap.size∧
  w'=((w.alloc (.cells #[ptB t] 24)).alloc (.cells #[.string x] 9)).alloc (.cells #[.int .i64 a] 3):=by
 go_enter Tryz.func171,Tryz.ntmps171
 go_wp2
 go_ret
 exact⟨_,rfl,rfl,rfl⟩
set_option maxHeartbeats 1000000 in
theorem zW (n:Nat) (hn:1≤n) {t m:Nat} {E:List Ch} {x:Nm} {a:Int} {ys:List Nm} {w:World} {O B1 B2 B3:Nat} (hT:TM w t m E) (hO:O∉fpT t m E) (hX:bF w O) (hB1:B1<w.heap.size∧B1≠O) (hB2:B2<w.heap.size∧B2≠O) (hB3:B3<w.heap.size∧B3≠O)
  (c1:w.cell? ⟨B1,0,none⟩=some (.string x)) (c2:w.cell? ⟨B2,0,none⟩=some (ptB t)) (c3:w.cell? ⟨B3,0,none⟩=some (.int .i64 a)) (hA:Anc (trE E) a x ys):
  SeqStopsK Fence.wide n Tryz.prog 221 #[.pointer (some ⟨B1,0,none⟩),.pointer (some ⟨B2,0,none⟩),.pointer (some ⟨B3,0,none⟩)] (fun z:Nm=> #[Value.string z]) (Kb w.heap.size O) (fun zs=>zs=ys) (fun pre=>pre <+:ys) ys.length w:=fun l J Jx W hW hJ hJx hY h0=>by
 have hk0:Kb w.heap.size O w W:=Kb.below hW
 have c1':W.cell? ⟨B1,0,none⟩=some (.string x):=by rw[hk0.cell hB1.1 hB1.2];exact c1
 have HC2:=Lib.hid (show∀wq,Kb w.heap.size O w wq→wq.cell? ⟨B2,0,none⟩=some (ptB t)from fun wq k=>by rw[k.cell hB2.1 hB2.2];exact c2)
 have HC3:=Lib.hid (show∀wq,Kb w.heap.size O w wq→wq.cell? ⟨B3,0,none⟩=some (.int .i64 a)from fun wq k=>by rw[k.cell hB3.1 hB3.2];exact c3)
 have HT:=Lib.hid (show∀wq,Kb w.heap.size O w wq→TM wq t m E from fun wq k=>k.tm hT hO hX)
 have HK0:=Lib.hid hk0
 have HA:=Lib.hid hA
 have H0:=Lib.hid h0
 have HJ:=Lib.hid (And.intro hJ hJx)
 have HY:=Lib.hid hY
 clear hT hO hX hB1 hB2 hB3 c1 c2 c3 hk0 hW hA h0 hJ hJx hY
 refine callsIn_of_wp Tryz.func221 rfl trivial ?_ rfl
 simp only[Tryz.ntmps221,List.size_toArray,List.length_cons,List.length_nil,Nat.reduceAdd,Nat.reduceSub,Array.replicate_succ,Array.replicate_zero,List.push_toArray,List.append_toArray,List.nil_append,List.cons_append]
 gi_wp2
 gi_loopg [5,6] ys.length (fun k s5 s6 wr=>∃(pre rest:List Nm) (f:Nm),s5= .string f∧Hid (ys=pre++rest)∧Hid (Kb w.heap.size O w wr)∧Hid (J pre wr)∧((Hid (rest=[]∧k=0)∧s6= .bool false)∨(Hid (Anc (trE E) a f rest∧k=rest.length)∧s6= .bool true)))
 case atStart=>exact⟨[],ys,x,rfl,Lib.hid rfl,HK0,H0,.inr ⟨Lib.hid ⟨HA.out,rfl⟩,rfl⟩⟩
 case round=>
  obtain⟨pre,rest,f,rfl,hys,hkb,hj,⟨hr,rfl⟩ | ⟨hr,rfl⟩⟩:=hrel
  ·have hq:=Lib.hid (show(∃v,Ending.returned (.tuple #[])= .returned v)∧((∃zs,zs=ys∧J zs wr)∨(∃pre,pre <+:ys∧Jx pre wr))from⟨⟨_,rfl⟩,.inl ⟨pre,by rw[hys.out,hr.out.1,List.append_nil],hj.out⟩⟩)
   gi_wp2
   refine⟨fun _ h=>(by cases h),?_⟩
   gi_wp2
   go_end0
   exact⟨⟨_,rfl⟩,hq.out.2⟩
  ·obtain⟨tl,htl⟩:=hr.out.1.head
   have hlt:pre.length<ys.length:=by rw[hys.out,htl];simp
   obtain⟨fn,tmps,assign,body,hy,hR⟩:=HY.out pre f wr hj.out hlt
   gi_wp2
   refine hR.mono ?_
   rintro e W3 (⟨rfl,hJ3,hk3⟩ | ⟨rfl,hJx3⟩)
   ·have hkb3:=hkb.out.trans hk3
    have c2:=HC2.out W3 hkb3
    have c3:=HC3.out W3 hkb3
    have hpa:=zV (HT.out W3 hkb3) f a
    have HKB3:=Lib.hid hkb3
    have HJ3:=Lib.hid hJ3
    have HYS:=Lib.hid (show ys=(pre++ [f])++tl by rw[hys.out,htl];simp)
    have HR:=Lib.hid (show(par (trE E) a f=none∧tl=[])∨∃y,par (trE E) a f=some y∧Anc (trE E) a y tl from by
     have h1:=hr.out.1
     rw[htl]at h1
     cases h1 with
     | root h=>exact .inl ⟨h,rfl⟩
     | step h k=>exact .inr ⟨_,h,k⟩)
    have HG:=Lib.hid (show gk=tl.length+1 by rw[hr.out.2,htl];rfl)
    clear hy hR hk3 hkb hkb3 hJ3 hys htl hlt hr hj
    rcases HR.out with⟨hp,hn⟩ | ⟨y,hp,hn⟩
    ·rw[show pOf (trE E) a f=ByteArray.empty by unfold pOf;rw[hp];rfl,hp]at hpa
     have HN:=Lib.hid hn
     clear hp hn
     gi_wp2_with (refine⟨trivial,?_⟩;gi_at_call 34;refine(callsIn_wide.2 hpa).mono ?_;rintro e w' ⟨rfl,hw'⟩;obtain rfl:=hw'.symm)
     go_roundg 0
     case measure=>have:=HG.out;omega
     case rel=>exact⟨pre++ [f],tl,_,rfl,HYS,HKB3,HJ3,.inl ⟨Lib.hid ⟨HN.out,rfl⟩,rfl⟩⟩
    ·rw[show pOf (trE E) a f=y by unfold pOf;rw[hp];rfl,hp]at hpa
     have HN:=Lib.hid hn
     clear hp hn
     gi_wp2_with (refine⟨trivial,?_⟩;gi_at_call 34;refine(callsIn_wide.2 hpa).mono ?_;rintro e w' ⟨rfl,hw'⟩;obtain rfl:=hw'.symm)
     go_roundg tl.length
     case measure=>have:=HG.out;omega
     case rel=>exact⟨pre++ [f],tl,y,rfl,HYS,HKB3,HJ3,.inr ⟨Lib.hid ⟨HN.out,rfl⟩,rfl⟩⟩
   ·have HQ:=Lib.hid (show∃pre,pre <+:ys∧Jx pre W3 from⟨pre++ [f],⟨tl,by rw[hys.out,htl];simp⟩,hJx3⟩)
    clear hy hR
    gi_wp2
    first
    | refine bodyPost_ret (results_none rfl _ _ _) rfl ?_
    | go_end0
    exact⟨⟨_,rfl⟩,.inr HQ.out⟩
set_option maxRecDepth 100000 in
set_option maxHeartbeats 2000000 in
theorem q_AppSeq {w:World} {gf:Nat} {lb:Array Value} {O:Nat} {ys:List Nm} (eg:∀args w,(callFunc gf args).run Tryz.prog w= .ok (.enter gf args) w) (hl:ys.length≤1000)
  (hseq:∀(n:Nat) (w1:World),1≤n→Below w.heap.size w w1→SeqStopsK Fence.wide n Tryz.prog gf lb (fun z:Nm=> #[Value.string z]) (Kb w.heap.size O) (fun zs=>zs=ys) (fun pre=>pre <+:ys) ys.length w1):
  Calls Tryz.prog 205 #[.slice none 0 0,.func (.func gf) #[] lb] w fun e w'=>∃v,e= .returned v∧bc w' w.heap.size v ys∧Below w.heap.size w w':=by
 refine(callsIn_wide (n:=3)).1 ?_
 have h1:(1:Nat)≤3:=by decide
 have hmx:(1000:Nat)≤maxLen:=by unfold maxLen;omega
 obtain⟨i0,hi,hz0,hz1,hz2⟩:=info_parts (show(Tryz.prog.info? 9).map (fun i=>(i.zero,i.size,i.bytes))=some (some (.string ByteArray.empty),1,16)by kernel_rfl)
 refine callsIn_of_wp_marks Tryz.func205 rfl trivial ?_ rfl
 simp only[Tryz.ntmps205,List.size_toArray,List.length_cons,List.length_nil,Nat.reduceAdd,Nat.reduceSub,Array.replicate_succ,Array.replicate_zero,List.push_toArray,List.append_toArray,List.nil_append,List.cons_append]
 gi_wp2
 have bO:=Boxed.new w 68 (.slice none 0 0)
 have hB0:Below w.heap.size w (w.alloc (.cells #[.slice none 0 0] 68)):=(Below.refl _ w).alloc (Nat.le_refl _) _
 refine wpIn_rangeFunc_ownG (F:=Fence.wide) (n:=3) rfl h1 (gf:=gf) (lb:=lb) rfl trivial eg
  (hseq 2 _ (by decide) hB0) (fun {_ _ _} h k=>h.trans k) (kb_b (by simp)) (Below.refl _ _) (fun _=>rfl)
  (fun pre W=>(∃v,Boxed W w.heap.size 68 v∧W.ownsRow w.heap.size 9 1 v pre.length (pre.map Value.string)∧True)∧Below w.heap.size w W)
  (fun _ _ _=>False)
  (OwnFrom.and (Own.from (holdsRow_own w.heap.size w.heap.size 68 9 1 (fun pre:List Nm=>pre.length) (fun pre=>pre.map Value.string) (fun _ _=>True)) _) (ownFrom_below (Nat.le_refl _) (by simp)))
  (fun _ _ _ _ _ hs _ _=>hs)
  ⟨⟨_,bO,World.ownsRow_nil _ _ _ _,trivial⟩,hB0⟩
  (fun x=> {tmps:=#[.slice none 0 0,.func (.func gf) #[] lb,.pointer (some ⟨w.heap.size,0,none⟩),undef,.slice none 0 0,.string x,.func (.func gf) #[] lb,.string x,undef,undef,undef,undef,undef],defers:=[]}) ?assign ?body ?done ?stop
 case assign=>
  intro l x W K hK
  gi_wp2
  exact hK
 case body=>
  rintro l pre x W ⟨⟨v,hv,hrow,_⟩,hB⟩ hlt
  have hc:=hv.cell
  gi_wp2_with (gi_at_builtin;refine wpListIn_append_own _ rfl _ _ 68 rfl w.heap.size 9 i0 (.string ByteArray.empty) 1 16 Tryz.underlying68 hi hz0 hz1 hz2 rfl (by decide) _ _ _ rfl (hrow.alloc _) ⟨W.heap.size,0,none⟩ 1 1 [.string x] rfl rfl (cell_one_new _ _ _) (by simp[Value.oneCell']) (by omega) (by omega) (by have:=hB.size;simp;omega) ?_;intro v' w1 hown' hgrow _;obtain⟨g',cap',rfl⟩:=ownsRow_succ hown';obtain⟨hv1,hv2,hr2,hk2,hb2⟩:=hv.appended (by decide) hrow hB.size (Nat.le_refl _) hown' hgrow;have hc1:=hv1.cell;have hf1:=hv1.frozen)
  exact⟨hk2.from _,.below hb2,⟨_,hv2,by simpa using hr2,trivial⟩,hB.trans hb2⟩
 case done=>
  rintro D zs W hD rfl ⟨⟨v,hv,hrow,_⟩,hB⟩ hK
  have hc:=hv.cell
  gi_wp2
  refine⟨by simp,.inl ⟨_,_,rfl,run_takeDeferred hK,?_⟩⟩
  exact⟨_,results_tmp rfl _ _ _,v,rfl,ownsRow_putObj hrow _ hK rfl,hB.trans (belowK_b (w:=w) (Nat.le_refl _) W D _ _ (by simp at hD;omega) hK rfl rfl)⟩
 case stop=>
  rintro D c pre W _ _ h _
  exact h.elim
end
end Go.Proofs.YtggfmklppkioeaaGreat
