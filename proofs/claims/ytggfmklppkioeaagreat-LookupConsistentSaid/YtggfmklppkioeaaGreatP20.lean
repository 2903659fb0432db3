/- Package lookup: Common, Can, Across. Package lookup: Move. slices.Reverse at texts. The frames on the way from one frame to another one. lookup.Path. Rows of texts, compared. How large composed transforms become: integer quaternions. All transforms that package lookup meets are small. Trees of frames: what a step does is determined. slices.Sort and slices.Compact at integers. -/
import Derived.Test.YtggfmklppkioeaaGreatP19
import Derived.Shelf.SortM.Plain
import Derived.Shelf.Slices.CompactI
import Derived.Ground.SlgmProg
import Derived.Ground.Names2Prog
import Derived.Sort.OwnSortedInts
import Derived.Lib.OwnBridge
namespace Go.Proofs.YtggfmklppkioeaaGreat
set_option linter.unusedSimpArgs false
set_option linter.unusedVariables false
set_option maxRecDepth 100000
open Go.RowKit
section
open Classical
set_option maxHeartbeats 1000000 in
theorem q_Can {w:World} {t m:Nat} {E:List Ch} {tq fr:Nm} {a:Int} (hT:TM w t m E) (hE:Sane (trE E)) (hok:FindOk (trE E) a tq fr):
  Calls Tryz.prog 19 #[ptB t,.string tq,.string fr,.int .i64 a] w fun e w'=>e= .returned (.bool (decide ((aH (trE E) a tq fr).2=0)))∧Below w.heap.size w w':=by
 have hf:=jV hT hE hok;generalize aH (trE E) a tq fr=M at *;obtain⟨p,c⟩:=M;simp only at hf⊢;have hb0:=Below.refl w.heap.size w;clear hT hE hok;go_enter Tryz.func19,Tryz.ntmps19
 go_upto_region 1 with(fail)
 refine wp_region_list ?_;refine ag rfl (v:=ptB t) (w':=w) (by rfl) ?_;refine ag rfl (v:=.string tq) (w':=w) (by rfl) ?_;refine ag rfl (v:=.string fr) (w':=w) (by rfl) ?_;refine ag rfl (v:=.int .i64 a) (w':=w) (by rfl) ?_;refine wpList_plain rfl (fun K hK=> ?_);go_simp;go_at_call 18
 refine hf.mono ?_;rintro e w4 ⟨v,rfl,hv,hb⟩;obtain⟨vs9,rfl,hul,hu1,hun⟩:=di hv;refine hK _ _ ?_;clear hK K hf;refine ag rfl (v:=.tuple #[.agg vs9.toArray,.int .i64 c]) (w':=w4) (by rfl) ?_;refine ag rfl (v:=.agg vs9.toArray) (w':=w4) (by go_simp) ?_;refine ag rfl (v:=.int .i64 c) (w':=w4) (by go_simp) ?_;have hpn:=PB.new w4;have hvn:bu (w4.alloc (.cells az.toArray 39)) (.agg vs9.toArray) p:=IsL.mono hv hpn.bel;have hth:=hpn.there;rw[←hul]at hth;have hb5:=aI vs9 0 _ (hb.trans (hpn.bel.mono hb.size)) hb.size (b:=w4.heap.size);have H9:=Lib.hid ((hpn.base (hb0.trans (hb.mono (hb0).size))).put (us:=vs9) hul hun);have HV9:=Lib.hid (hpn.keep (us:=vs9) hvn);refine ag rfl (v:=.pointer (some ⟨w4.heap.size,0,none⟩)) (w':=w4.alloc (.cells az.toArray 39)) (by go_simp;try rfl) ?_;refine wpList_store_mid rfl _ _ _ rfl w4.heap.size 0 vs9.toArray rfl rfl (by simpa using hth) (aZ hul) hu1 ?_;rw[show vs9.toArray.toList=vs9 from rfl];have HBL9:=Lib.hid ((hb0).trans (hb5.mono (hb0).size));generalize hW5:(w4.alloc (.cells az.toArray 39)).setCells w4.heap.size 0 vs9=W2 at *;obtain⟨B9,hB9⟩:∃B,w4.heap.size=B:=⟨_,rfl⟩;rw[hB9]at H9⊢;clear hW5 hB9 hpn hvn hth hb5 hv hb hu1 hun hul;clear HV9 H9;by_cases h0:c=0
 ·subst h0;go_wp2;go_ret;exact⟨rfl,HBL9.out⟩
 ·have h0':(c==0)=false:=beq_eq_false_iff_ne.2 h0;have H0:=Lib.hid h0;clear h0;go_wp2;go_ret;exact⟨by rw[decide_eq_false H0.out];rfl,HBL9.out⟩
noncomputable def acrP (R:Tr) (tq:Nm) (ta:Int) (fr:Nm) (fa:Int) (th:Nm):Pq×Int:=
 if (aH R fa th fr).2≠0 then(Pq.zero,(aH R fa th fr).2)else if (aH R ta tq th).2≠0 then(Pq.zero,(aH R ta tq th).2)else((aH R ta tq th).1.mul (aH R fa th fr).1,0)
structure AcrOk (R:Tr) (tq:Nm) (ta:Int) (fr:Nm) (fa:Int) (th:Nm):Prop where
 f1:FindOk R fa th fr
 f2:FindOk R ta tq th
 o1:(aH R fa th fr).2=0→(aH R fa th fr).1.ok 100000∧(aH R fa th fr).1.good
 o2:(aH R ta tq th).2=0→(aH R ta tq th).1.ok 100000∧(aH R ta tq th).1.good
set_option maxHeartbeats 2000000 in
theorem q_Across {w:World} {t m:Nat} {E:List Ch} {tq fr th:Nm} {ta fa:Int} (hT:TM w t m E) (hE:Sane (trE E)) (hok:AcrOk (trE E) tq ta fr fa th):
  Calls Tryz.prog 49 #[ptB t,.string tq,.int .i64 ta,.string fr,.int .i64 fa,.string th] w fun e w'=>∃v,e= .returned (.tuple #[v,.int .i64 (acrP (trE E) tq ta fr fa th).2])∧bu w' v (acrP (trE E) tq ta fr fa th).1∧Below w.heap.size w w':=by
 have hp0:=PB.new w;obtain⟨Rz,hRz⟩:∃r,r=acrP (trE E) tq ta fr fa th:=⟨_,rfl⟩;have hz:=hRz;unfold acrP at hz;rw[←hRz];obtain⟨k1,k2,o1,o2⟩:=hok;have hf1:=jV (hT.below hp0.bel) hE k1;have HF2:=Lib.hid (show∀wq,Below w.heap.size w wq→Calls Tryz.prog 18 #[ptB t,.string tq,.string th,.int .i64 ta] wq fun e w'=>∃v,e= .returned (.tuple #[v,.int .i64 (aH (trE E) ta tq th).2])∧bu w' v (aH (trE E) ta tq th).1∧Below wq.heap.size wq w' from fun wq k=>jV (hT.below k) hE k2);clear k1 k2;generalize aH (trE E) fa th fr=U at *;generalize aH (trE E) ta tq th=D at *;obtain⟨up,uc⟩:=U;obtain⟨dn,dc⟩:=D;simp only at hz o1 o2 hf1 HF2;have HZ2:=Lib.hid hz;have HO1:=Lib.hid o1;have HO2:=Lib.hid o2;have HP1:=Lib.hid hp0;obtain⟨w1,hW⟩:∃W,w.alloc (.cells az.toArray 39)=W:=⟨_,rfl⟩;rw[hW]at HP1 hf1;clear hT hE hp0 hRz hz o1 o2;go_enter Tryz.func49,Tryz.ntmps49
 go_upto_region 0 with(fail)
 refine wp_region_list ?_;refine ag rfl (v:=.pointer (some ⟨w.heap.size,0,none⟩)) (w':=w1) (by subst hW;go_simp;try rfl) ?_;obtain⟨B8,hB8⟩:∃B,w.heap.size=B:=⟨_,rfl⟩;have HB8:=Lib.hid hB8;rw[hB8]at HP1⊢;clear hW hB8;go_upto_region 1 with(fail)
 refine wp_region_list ?_;refine ag rfl (v:=ptB t) (w':=w1) (by rfl) ?_;refine ag rfl (v:=.string th) (w':=w1) (by rfl) ?_;refine ag rfl (v:=.string fr) (w':=w1) (by rfl) ?_;refine ag rfl (v:=.int .i64 fa) (w':=w1) (by rfl) ?_;refine wpList_plain rfl (fun K hK=> ?_);go_simp;go_at_call 18
 refine hf1.mono ?_;rintro e w4 ⟨v,rfl,hv,hb⟩;obtain⟨vs14,rfl,hul,hu1,hun⟩:=di hv;refine hK _ _ ?_;clear hK K hf1;refine ag rfl (v:=.tuple #[.agg vs14.toArray,.int .i64 uc]) (w':=w4) (by rfl) ?_;refine ag rfl (v:=.agg vs14.toArray) (w':=w4) (by go_simp) ?_;refine ag rfl (v:=.int .i64 uc) (w':=w4) (by go_simp) ?_;have hpn:=PB.new w4;have hvn:bu (w4.alloc (.cells az.toArray 39)) (.agg vs14.toArray) up:=IsL.mono hv hpn.bel;have hth:=hpn.there;rw[←hul]at hth;have hb5:=aI vs14 0 _ (hb.trans (hpn.bel.mono hb.size)) hb.size (b:=w4.heap.size);have HP2:=Lib.hid (HP1.out.next hb5);have H14:=Lib.hid ((hpn.base (HP1.out.bel.trans (hb.mono (HP1.out.bel).size))).put (us:=vs14) hul hun);have HV14:=Lib.hid (hpn.keep (us:=vs14) hvn);refine ag rfl (v:=.pointer (some ⟨w4.heap.size,0,none⟩)) (w':=w4.alloc (.cells az.toArray 39)) (by go_simp;try rfl) ?_;refine wpList_store_mid rfl _ _ _ rfl w4.heap.size 0 vs14.toArray rfl rfl (by simpa using hth) (aZ hul) hu1 ?_;rw[show vs14.toArray.toList=vs14 from rfl];have HBL14:=Lib.hid ((HP1.out.bel).trans (hb5.mono (HP1.out.bel).size));generalize hW5:(w4.alloc (.cells az.toArray 39)).setCells w4.heap.size 0 vs14=W2 at *;obtain⟨B14,hB14⟩:∃B,w4.heap.size=B:=⟨_,rfl⟩;rw[hB14]at H14⊢;clear hW5 hB14 hpn hvn hth hb5 hv hb hu1 hun hul;clear HP1;by_cases h0:uc=0
 ·subst h0;have hz:=HZ2.out;rw[if_neg (by simp)]at hz;have HZ4:=Lib.hid hz;clear hz HZ2;have hf2:=HF2.out W2 HP2.out.bel;go_upto_region 4 with(fail)
  refine wp_region_list ?_;refine ag rfl (v:=ptB t) (w':=W2) (by rfl) ?_;refine ag rfl (v:=.string tq) (w':=W2) (by rfl) ?_;refine ag rfl (v:=.string th) (w':=W2) (by rfl) ?_;refine ag rfl (v:=.int .i64 ta) (w':=W2) (by rfl) ?_;refine wpList_plain rfl (fun K hK=> ?_);go_simp;go_at_call 18
  refine hf2.mono ?_;rintro e w4 ⟨v,rfl,hv,hb⟩;obtain⟨vs16,rfl,hul,hu1,hun⟩:=di hv;refine hK _ _ ?_;clear hK K hf2;refine ag rfl (v:=.tuple #[.agg vs16.toArray,.int .i64 dc]) (w':=w4) (by rfl) ?_;refine ag rfl (v:=.agg vs16.toArray) (w':=w4) (by go_simp) ?_;refine ag rfl (v:=.int .i64 dc) (w':=w4) (by go_simp) ?_;have hpn:=PB.new w4;have hvn:bu (w4.alloc (.cells az.toArray 39)) (.agg vs16.toArray) dn:=IsL.mono hv hpn.bel;have hth:=hpn.there;rw[←hul]at hth;have hb5:=aI vs16 0 _ (hb.trans (hpn.bel.mono hb.size)) hb.size (b:=w4.heap.size);have HP3:=Lib.hid (HP2.out.next hb5);have H14b:=Lib.hid (H14.out.next hb5);have HV14b:=Lib.hid (IsL.mono HV14.out hb5);have H16:=Lib.hid ((hpn.base (HP2.out.bel.trans (hb.mono (HP2.out.bel).size))).put (us:=vs16) hul hun);have HV16:=Lib.hid (hpn.keep (us:=vs16) hvn);refine ag rfl (v:=.pointer (some ⟨w4.heap.size,0,none⟩)) (w':=w4.alloc (.cells az.toArray 39)) (by go_simp;try rfl) ?_;refine wpList_store_mid rfl _ _ _ rfl w4.heap.size 0 vs16.toArray rfl rfl (by simpa using hth) (aZ hul) hu1 ?_;rw[show vs16.toArray.toList=vs16 from rfl];have HBL16:=Lib.hid ((HP2.out.bel).trans (hb5.mono (HP2.out.bel).size));generalize hW5:(w4.alloc (.cells az.toArray 39)).setCells w4.heap.size 0 vs16=W3 at *;obtain⟨B16,hB16⟩:∃B,w4.heap.size=B:=⟨_,rfl⟩;rw[hB16]at H16⊢;clear hW5 hB16 hpn hvn hth hb5 hv hb hu1 hun hul;clear HP2 HF2 HV14 H14;by_cases h0:dc=0
  ·subst h0;have hz:=HZ4.out;rw[if_neg (by simp)]at hz;have HZ5:=Lib.hid hz;obtain⟨u1,u2⟩:=HO1.out rfl;obtain⟨d1,d2⟩:=HO2.out rfl;have hmul:=oW _ _ dn up W3 HV16.out HV14b.out d1 u1 d2 u2;have HSX:=Lib.hid (show(Tryz.prog.info? 39).map (·.size)=some vs16.length by rw[H16.out.len];kernel_rfl);have HSC:=Lib.hid (show(Tryz.prog.info? 39).map (·.size)=some vs14.length by rw[H14b.out.len];kernel_rfl);clear hz HZ4 u1 u2 d1 d2 HO1 HO2 HV16 HV14b;go_upto_region 7 with(fail)
   refine wp_region_list ?_;refine wpList_load_mid rfl _ _ rfl B16 0 rfl vs16 _ H16.out.ld Tryz.underlying39 rfl HSX.out ?_;refine wpList_load_mid rfl _ _ rfl B14 0 rfl vs14 _ H14b.out.ld Tryz.underlying39 rfl HSC.out ?_;refine wpList_plain rfl (fun K hK=> ?_);go_simp;go_at_call 21
   refine hmul.mono ?_;rintro e w6 ⟨v,rfl,hv,hb⟩;obtain⟨us6,rfl,hul,hu1,hun⟩:=di hv;refine hK _ _ ?_;clear hK K hmul;have hP6:=HP3.out.next hb;have hth:=hP6.there;rw[←hul]at hth;refine wpList_store_mid rfl _ _ _ rfl B8 0 us6.toArray rfl rfl (by simpa using hth) (aZ hul) hu1 ?_;rw[show us6.toArray.toList=us6 from rfl];have HP9:=Lib.hid (hP6.put (us:=us6) hul hun);have HV9:=Lib.hid (hP6.keep (us:=us6) hv);generalize hW9:w6.setCells B8 0 us6=W9 at *;clear hW9 hth hP6 hv hb hu1 hun hul;go_wp2;refine bodyPost_ret (HP9.out.ret rfl _ rfl) rfl ?_;rw[HZ5.out];exact⟨_,rfl,HV9.out,HP9.out.bel⟩
  ·have h0':(dc==0)=false:=beq_eq_false_iff_ne.2 h0;have HZ5:=Lib.hid (show Rz=(Pq.zero,dc)by rw[HZ4.out,if_pos h0]);clear h0 HZ4 HO1 HO2;go_upto_region 6 with(fail)
   refine wp_region_list ?_;refine ag rfl (v:=.agg az.toArray) (w':=W3) (by unfold az;go_simp;try rfl) ?_;refine ag rfl (v:=.int .i64 dc) (w':=W3) (by rfl) ?_;refine wpList_store_mid rfl _ _ _ rfl B8 0 az.toArray rfl rfl HP3.out.there (by kernel_rfl) (by kernel_rfl) ?_;have HP9:=Lib.hid (HP3.out.put (us:=az) rfl HP3.out.nu);rw[show az.toArray.toList=az from rfl];generalize hW9:W3.setCells B8 0 az=W9 at *;clear hW9;go_wp2;refine bodyPost_ret (HP9.out.ret rfl _ rfl) rfl ?_;rw[HZ5.out];exact⟨_,rfl,iD _,HP9.out.bel⟩
 ·have h0':(uc==0)=false:=beq_eq_false_iff_ne.2 h0;have HZ3:=Lib.hid (show Rz=(Pq.zero,uc)by rw[HZ2.out,if_pos h0]);clear h0 HZ2 HO1 HO2 HF2;go_upto_region 3 with(fail)
  refine wp_region_list ?_;refine ag rfl (v:=.agg az.toArray) (w':=W2) (by unfold az;go_simp;try rfl) ?_;refine ag rfl (v:=.int .i64 uc) (w':=W2) (by rfl) ?_;refine wpList_store_mid rfl _ _ _ rfl B8 0 az.toArray rfl rfl HP2.out.there (by kernel_rfl) (by kernel_rfl) ?_;have HP9:=Lib.hid (HP2.out.put (us:=az) rfl HP2.out.nu);rw[show az.toArray.toList=az from rfl];generalize hW9:W2.setCells B8 0 az=W9 at *;clear hW9;go_wp2;refine bodyPost_ret (HP9.out.ret rfl _ rfl) rfl ?_;rw[HZ3.out];exact⟨_,rfl,iD _,HP9.out.bel⟩
end
section
open Classical
def xV:List Value:=[.bool false,.slice none 0 0,.slice none 0 0,.bool false,.slice none 0 0,.slice none 0 0,.bool false,.slice none 0 0,.slice none 0 0]
structure PV (w0 W:World) (B:Nat) (vs:List Value):Prop where
 blk:W.heap[B]? =some (.cells vs.toArray 37 (0,0))
 len:vs.length=9
 bel:Below w0.heap.size w0 W
 ge:w0.heap.size≤B
 nu:∀u∈vs,noU u
theorem PV.new (w:World):PV w (w.alloc (.cells xV.toArray 37)) w.heap.size xV:=⟨heap_alloc_new w _,rfl,(Below.refl _ w).alloc (Nat.le_refl _) _,Nat.le_refl _,fun u hu n e=>by
 subst e;simp[xV]at hu⟩
theorem PV.next {w0 W W':World} {B:Nat} {vs:List Value} (h:PV w0 W B vs) (k:Below W.heap.size W W'):PV w0 W' B vs:=
 ⟨by rw[k.block B (Array.getElem?_eq_some_iff.1 h.blk).1];exact h.blk,h.len,h.bel.trans (k.mono h.bel.size),h.ge,h.nu⟩
theorem PV.put {w0 W:World} {B:Nat} {vs us:List Value} (h:PV w0 W B vs) (hu:us.length=9) (hn:∀u∈us,noU u):PV w0 (W.setCells B 0 us) B us:=
 ⟨by rw[eJ us W B 0 _ _ h.blk,lL (by simp[h.len,hu])],hu,aI us 0 W h.bel h.ge,h.ge,hn⟩
theorem PV.there {w0 W:World} {B:Nat} {vs:List Value} (h:PV w0 W B vs):W.there B 0 9:=by
 have:=nP h.blk;rwa [List.size_toArray,h.len]at this
theorem vec_size {us:List Value} (hu:us.length=9):(Tryz.prog.info? 37).map (·.size)=some us.toArray.size:=by rw[List.size_toArray,hu];kernel_rfl
theorem PV.keep {w0 W:World} {B:Nat} {vs us:List Value} {v:Value} {p:Vq} (h:PV w0 W B vs) (i:dI W v p):dI (W.setCells B 0 us) v p:=by
 obtain⟨cs,rfl,hc⟩:=i;exact⟨cs,rfl,hc.upd (nJ h.blk (fun u hu=>h.nu u (by simpa using hu))) (cO us W B 0)⟩
theorem PV.ret {w0 W:World} {B:Nat} {vs:List Value} (h:PV w0 W B vs) {fn:Func} {p u:Tmp} (hr:fn.results=#[.cell p 37,.tmp u]) (tmps:Array Value) (hp:tmps.getD p undef= .pointer (some ⟨B,0,none⟩)):
  (results fn tmps).run Tryz.prog W= .ok (.tuple #[.agg vs.toArray,tmps.getD u undef]) W:=
 rO hr tmps W B _ _ _ _ hp h.blk Tryz.underlying37 rfl (vec_size h.len)
theorem PV.oth {w0 W:World} {B B':Nat} {vs us:List Value} (h:PV w0 W B vs) (hne:B≠B') (hl:w0.heap.size≤B'):PV w0 (W.setCells B' 0 us) B vs:=
 ⟨by rw[(cO us W B' 0).block B hne];exact h.blk,h.len,aI us 0 W h.bel hl,h.ge,h.nu⟩
theorem PV.base {w0 w1 W:World} {B:Nat} {vs:List Value} (h:PV w1 W B vs) (k:Below w0.heap.size w0 w1):PV w0 W B vs:=⟨h.blk,h.len,k.trans (h.bel.mono k.size),Nat.le_trans k.size h.ge,h.nu⟩
theorem PV.ld {w0 W:World} {B:Nat} {vs:List Value} (h:PV w0 W B vs):W.rangeAt B 0 vs:=fun j v hv=>by rw[aR h.blk,Nat.zero_add];simpa using hv
end
section
open Classical
def rv (L:List Nm) (i k:Nat):Option Nm:=if k<i∨L.length - i≤k then L[L.length - 1 - k]? else L[k]?
structure RvAt (w W:World) (g:Nat) (cap:Nat) (L:List Nm) (i:Nat):Prop where
 upd:Upd w g W
 blk:∃cur,W.heap[g]? =some (.cells cur 9 (0,0))∧cur.size=cap∧∀k,k<L.length→∃x,rv L i k=some x∧cur[k]? =some (.string x)
theorem Upd.drew' {w W:World} {g:Nat} (u:Upd w g W):Upd w g W.drew:=⟨u.os,u.tape,u.output,u.size,u.block⟩
theorem RvAt.next {w W:World} {g cap:Nat} {L:List Nm} {i:Nat} {x y:Nm} (h:RvAt w W g cap L i) (hn:L.length≤cap) (hlt:2*i+1<L.length) (hx:rv L i i=some x) (hy:rv L i (L.length - 1 - i)=some y):
  RvAt w ((W.setCell ⟨g,i,none⟩ (.string y)).setCell ⟨g,L.length - 1 - i,none⟩ (.string x)).drew g cap L (i+1):=by
 obtain⟨cur,hc,hcs,hk⟩:=h.blk;have hx':L[i]? =some x:=by unfold rv at hx;rwa [if_neg (by omega)]at hx
 have hy':L[L.length - 1 - i]? =some y:=by unfold rv at hy;rwa [if_neg (by omega)]at hy
 refine⟨Upd.drew' ((h.upd.trans (Upd.cell _ _ _ _)).trans (Upd.cell _ _ _ _)),_,heap_setCell_same _ g _ _ _ _ (heap_setCell_same _ g _ _ _ _ hc),by simp[hcs],fun k hkn=> ?_⟩;rw[Array.getElem?_setIfInBounds,Array.getElem?_setIfInBounds,Array.size_setIfInBounds];by_cases e1:L.length - 1 - i=k
 ·refine⟨x,?_,by rw[if_pos e1,if_pos (by omega)]⟩;unfold rv;rw[if_pos (.inr (by omega)),show L.length - 1 - k=i by omega];exact hx'
 ·rw[if_neg e1];by_cases e2:i=k
  ·refine⟨y,?_,by rw[if_pos e2,if_pos (by omega)]⟩;unfold rv;rw[if_pos (.inl (by omega)),←e2];exact hy'
  ·rw[if_neg e2];obtain⟨z,h1,h2⟩:=hk k hkn;refine⟨z,?_,h2⟩;rw[←h1];unfold rv;by_cases hc1:k<i∨L.length - i≤k
   ·rw[if_pos hc1,if_pos (by omega)]
   ·rw[if_neg hc1,if_neg (by omega)]
theorem RvAt.done {w W:World} {g cap b:Nat} {L:List Nm} {i:Nat} (h:RvAt w W g cap L i) (hb:b≤g∧L.length≤cap∧cap≤maxLen) (hi:L.length≤2*i+1) (hi2:2*i≤L.length+1):bg W b (.slice (some ⟨g,0,none⟩) L.length cap) L.reverse:=by
 obtain⟨cur,hc,hcs,hk⟩:=h.blk;refine⟨by simp,.inr ⟨g,cap,cur,by simp,hb.1,hc,by simpa using hb.2.1,hb.2.2,by omega,?_⟩⟩;apply List.ext_getElem?;intro k;rw[List.getElem?_take,List.getElem?_map,List.length_reverse,Nat.mul_one];split
 ·rename_i hkn;obtain⟨z,h1,h2⟩:=hk k hkn;rw[Array.getElem?_toList,h2,List.getElem?_reverse hkn];unfold rv at h1;split at h1
  ·rw[h1];rfl
  ·rw[show L.length - 1 - k=k by omega,h1];rfl
 ·rename_i hkn;rw[List.getElem?_eq_none (by simp;omega)];rfl
set_option maxHeartbeats 1000000 in
theorem q_Reverse {w:World} {v:Value} {L:List Nm} {b:Nat} (h:bg w b v L) (hL:L.length≤1000):
  Calls Tryz.prog 107 #[v] w fun e w'=>(∃u,e= .returned u)∧bg w' b v L.reverse∧(∀g,v.ownBlock=some g→Upd w g w')∧(v.ownBlock=none→w'=w):=by
 rcases h.2 with⟨rfl,hn⟩ | ⟨g,cap,cur,rfl,hb,hc,hnc,hcm,hcs,htk⟩
 ·have:L=[]:=List.eq_nil_of_length_eq_zero hn;subst this;go_enter Tryz.func107,Tryz.ntmps107
  go_wp2;refine _root_.Go.wp_loop_rounds 1 ?_;rw[rounds_succ];go_wp2;go_end0
  exact⟨⟨_,rfl⟩,World.ownsRow_nil _ _ _ _,fun g hg=>(by cases hg),fun _=>rfl⟩
 ·obtain⟨n,hn⟩:∃n,n=L.length:=⟨_,rfl⟩;rw[←hn];have H0:=Lib.hid (show RvAt w w g cap L 0 from⟨⟨rfl,rfl,rfl,rfl,fun _ _=>rfl⟩,cur,hc,by omega,fun k hk=>by
   refine⟨L[k],by unfold rv;rw[if_neg (by omega),List.getElem?_eq_getElem hk],?_⟩;have h1:(L.map Value.string)[k]? =some (.string L[k]):=by rw[List.getElem?_map,List.getElem?_eq_getElem hk];rfl
   rw[←htk,List.getElem?_take]at h1;split at h1
   ·rw[←Array.getElem?_toList];exact h1
   ·cases h1⟩)
  have HN:=Lib.hid hn;have hm:(n:Int)≤1000:=by omega
  have HB:=Lib.hid (And.intro hb (And.intro hnc hcm));clear h hb hc hnc hcm hcs htk hn hL;go_enter Tryz.func107,Tryz.ntmps107
  go_wp2;go_loopw [2,3] (fun s2 s3 wr=>∃i:Nat,2*i≤n+1∧s2= .int .i64 (i:Int)∧s3= .int .i64 ((n:Int) - 1 - i)∧Hid (RvAt w wr g cap L i)) (fun s2 _ _=>n+1 - (intOf s2).toNat)
  case atStart=>exact⟨0,by omega,rfl,by simp,H0⟩
  case round=>
   clear H0;obtain⟨i,hi,rfl,rfl,HR⟩:=hrel;rcases Nat.lt_or_ge (2*i+1) n with hlt | hge
   ·have hlt':((i:Int)<(n:Int) - 1 - i)=True:=eq_true (by omega);obtain⟨cur,hc,hcs,hk⟩:=HR.out.blk;obtain⟨x,hx,c1⟩:=hk i (by rw[←HN.out];omega);obtain⟨y,hy,c2⟩:=hk (n - 1 - i) (by rw[←HN.out];omega);have f1:wr.cell? ⟨g,i,none⟩=some (.string x):=by rw[aR hc];exact c1
    have f2:wr.cell? ⟨g,n - 1 - i,none⟩=some (.string y):=by rw[aR hc];exact c2
    have hfz:∀j,wr.frozen? ⟨g,j,none⟩=false:=fun j=>by simp[World.frozen?,hc]
    have hto:((n:Int) - 1 - i).toNat=n - 1 - i:=by omega
    have hr1:(0:Int)≤(n:Int) - 1 - i:=by omega
    have hr2:(n:Int) - 1 - i<n:=by omega
    have HC:=Lib.hid (And.intro hc (And.intro hcs hk));clear hc hcs hk c1 c2;have hne:i≠n - 1 - i:=by omega
    have HNX:=Lib.hid (show RvAt w ((wr.setCell ⟨g,i,none⟩ (.string y)).setCell ⟨g,n - 1 - i,none⟩ (.string x)).drew g cap L (i+1)from by
     have h1:=HR.out.next HB.out.2.1 (by rw[←HN.out];exact hlt) hx (by rw[←HN.out];exact hy);rw[←HN.out]at h1;exact h1)
    clear hx hy;go_wp2;go_region
    go_wp2;go_roundw
    case rel=>exact⟨i+1,by omega,by go_num,by go_num,HNX⟩
    case measure=>simp[intOf];omega
   ·have hlt':((i:Int)<(n:Int) - 1 - i)=False:=eq_false (by omega);have HQ:=Lib.hid (show bg wr b (.slice (some ⟨g,0,none⟩) n cap) L.reverse from by
     have h1:=HR.out.done HB.out (by rw[←HN.out];omega) (by rw[←HN.out];omega);rw[←HN.out]at h1;exact h1)
    have HU:=Lib.hid HR.out.upd;clear HR;go_wp2;go_end0
    exact⟨⟨_,rfl⟩,HQ.out,fun g' hg'=>by have e:g=g':=Option.some.inj hg';subst e;exact HU.out,fun h=>by cases h⟩
end
section
open Classical
theorem nm_app {w:World} {base:Nat} {v:Value} {L L2:List Nm} {ty:TypeId} {ad:Addr} {c:Nat} (h:bg w base v L) (hb:base≤w.heap.size) (hl:L.length+L2.length≤1000) (hc:∀j u,(L2.map Value.string)[j]? =some u→w.cell? (ad.add j)=some u):
  ∃v' w',(Builtin.append_ #[68,68] ty #[v,.slice (some ad) L2.length c]).run Tryz.prog w= .ok v' w'∧bg w' base v' (L++L2)∧w.grownBy w' v.ownBlock∧(v'.ownBlock=v.ownBlock∨v'.ownBlock=some w.heap.size):=by
 have hmx:(1000:Nat)≤maxLen:=by unfold maxLen;omega
 obtain⟨i0,hi,hz0,hz1,hz2⟩:=info_parts (show(Tryz.prog.info? 9).map (fun i=>(i.zero,i.size,i.bytes))=some (some (.string ByteArray.empty),1,16)by kernel_rfl);obtain⟨v',w',k1,k2,k3,_,k5⟩:=run_append_own_at (P:=Tryz.prog) (w:=w) base 68 ty 9 i0 (.string ByteArray.empty) 1 16 Tryz.underlying68 hi hz0 hz1 hz2 rfl (by decide) v L.length (L.map Value.string) h ad L2.length c (L2.map Value.string) (by simp) hc (fun u hu=>by obtain⟨x,_,rfl⟩:=List.mem_map.1 hu;rfl) (by omega) (by omega) hb;refine⟨v',w',k1,?_,k3,k5⟩;show w'.ownsRow base 9 1 v' (L++L2).length ((L++L2).map Value.string);rw[List.length_append,List.map_append];exact k2
noncomputable def zc (R:Tr) (a:Int) (x y:Nm):List Nm:=bC (bd R a x) (aT R a x y).1++ [(aT R a x y).1]++(bC (bd R a y) (aT R a x y).1).reverse
end
section
open Classical
set_option maxHeartbeats 2000000 in
theorem q_Path {w:World} {t m:Nat} {E:List Ch} {x y:Nm} {a:Int} (hT:TM w t m E) (hE:Sane (trE E)):
  Calls Tryz.prog 48 #[ptB t,.string x,.string y,.int .i64 a] w fun e w'=>∃v,e= .returned (.tuple #[v,.int .i64 (aT (trE E) a x y).2])∧(if (aT (trE E) a x y).2=0 then bg w' w.heap.size v (zc (trE E) a x y)else v= .slice none 0 0)∧Below w.heap.size w w':=by
 have hme:=q_meet hT hE x y a;have hkn:=lN (R:=trE E) (a:=a) (x:=x) (y:=y);unfold zc;generalize aT (trE E) a x y=M at *;obtain⟨top,mc⟩:=M;simp only at hme hkn⊢;by_cases h0:mc=0
 ·subst h0;obtain⟨kx,ky⟩:=hkn rfl;have lx:=fM hE (a:=a) kx;have ly:=fM hE (a:=a) ky;have HBX:=Lib.hid (show∀wq,Below w.heap.size w wq→Calls Tryz.prog 106 #[ptB t,.string x,.string top,.int .i64 a] wq fun e w'=>∃v,e= .returned v∧bg w' wq.heap.size v (bC (bd (trE E) a x) top)∧Below wq.heap.size wq w' from fun wq k=>tE (hT.below k) (dS hE.ok a x) (by omega));have HBY:=Lib.hid (show∀wq,Below w.heap.size w wq→Calls Tryz.prog 106 #[ptB t,.string y,.string top,.int .i64 a] wq fun e w'=>∃v,e= .returned v∧bg w' wq.heap.size v (bC (bd (trE E) a y) top)∧Below wq.heap.size wq w' from fun wq k=>tE (hT.below k) (dS hE.ok a y) (by omega));have l1:(bC (bd (trE E) a x) top).length≤24:=Nat.le_trans ((List.takeWhile_sublist _).length_le) lx;have l2:(bC (bd (trE E) a y) top).length≤24:=Nat.le_trans ((List.takeWhile_sublist _).length_le) ly;generalize bC (bd (trE E) a x) top=LX at *;generalize bC (bd (trE E) a y) top=LY at *
  suffices HS:Calls Tryz.prog 48 #[ptB t,.string x,.string y,.int .i64 a] w fun e w'=>∃v,e= .returned (.tuple #[v,.int .i64 0])∧bg w' w.heap.size v (LX++ [top]++LY.reverse)∧Below w.heap.size w w' from HS.mono (by
   rintro e w' ⟨v,rfl,k1,k2⟩;exact⟨v,rfl,by rw[if_pos rfl];exact k1,k2⟩)
  clear hT hE hkn kx ky lx ly;go_enter Tryz.func48,Tryz.ntmps48
  go_upto_region 4 with(go_at_call 71;refine hme.mono ?_;clear hme;rintro e w1 ⟨rfl,hb⟩;have HB1:=Lib.hid hb;clear hb)
  have hbx:=HBX.out w1 HB1.out;refine wp_region_list ?_;refine ag rfl (v:=ptB t) (w':=w1) (by rfl) ?_;refine ag rfl (v:=.string x) (w':=w1) (by rfl) ?_;refine ag rfl (v:=.string top) (w':=w1) (by rfl) ?_;refine ag rfl (v:=.int .i64 a) (w':=w1) (by rfl) ?_;refine wpList_plain rfl (fun K hK=> ?_);go_simp;go_at_call 106
  refine hbx.mono ?_;rintro e w2 ⟨v1,rfl,hrow,hb⟩;refine hK _ _ ?_;clear hK K hbx HBX;have hb2:=HB1.out.trans (hb.mono HB1.out.size);obtain⟨v2,w3,happ,hrow2,hgr,hbk⟩:=nm_app (ty:=68) (ad:=⟨w2.heap.size,0,none⟩) (c:=1) (L2:=[top]) (dR (w':=w2.alloc (.cells #[.string top] 9)) hrow (fun g hg=>Below.heap_alloc _ _ g (cP hrow hg).2)) (by rw[asz];have:=hb.size;omega) (by simp;omega) (fun j u hu=>by
   rw[cM,Nat.zero_add,aR (heap_alloc_new w2 _)]
   cases j with
   | zero=>simpa using hu
   | succ j=>simp at hu)
  have hb3:Below w.heap.size w w3:=(hb2.alloc hb2.size _).grown hgr (by rw[asz];have:=hb2.size;omega) (fun k e=>by
   have:=(cP hrow (g:=k) e).1;have:=HB1.out.size;omega)
  refine ag rfl (v:=.string top) (w':=w2) (by go_simp) ?_;refine ag rfl (v:=.slice (some ⟨w2.heap.size,0,none⟩) 1 1) (w':=w2.alloc (.cells #[.string top] 9)) (by go_simp) ?_;refine lK rfl rfl rfl rfl happ ?_;have HS13:=Lib.hid (show w1.heap.size≤w3.heap.size from Nat.le_trans hb.size (Nat.le_trans (by rw[asz];omega) hgr.size));have HROW2:=Lib.hid hrow2;have HB3:=Lib.hid hb3;clear happ hrow2 hgr hbk hb3 hb2 hrow hb;have hby:=HBY.out w3 HB3.out;clear HBY
  go_upto_region 7 with(first
   | (go_at_call 106;refine hby.mono ?_;clear hby;rintro e w4 ⟨v3,rfl,hrow3,hb4⟩;have hrv:=q_Reverse hrow3 (by omega);have HR3:=Lib.hid hrow3;have HB4:=Lib.hid hb4;clear hrow3 hb4)
   | (go_at_call 107;refine hrv.mono ?_;clear hrv;rintro e w5 ⟨⟨u,rfl⟩,hrow5,hu,hn⟩))
  have h2l:∀g,v2.ownBlock=some g→g<w3.heap.size:=fun g hg=>(cP HROW2.out hg).2
  have hb35:∀g,g<w3.heap.size→w5.heap[g]? =w3.heap[g]? :=fun g hg=>by
   cases ho:v3.ownBlock with
   | none=>rw[hn ho];exact HB4.out.block g hg
   | some g3=>
    have h3:=(cP HR3.out ho).1;rw[(hu g3 ho).block g (by omega)];exact HB4.out.block g hg
  have hs45:w5.heap.size=w4.heap.size:=by
   cases ho:v3.ownBlock with
   | none=>rw[hn ho]
   | some g3=>exact(hu g3 ho).size
  have hb5:Below w.heap.size w w5:=by
   have h4:Below w.heap.size w w4:=HB3.out.trans (HB4.out.mono HB3.out.size)
   cases ho:v3.ownBlock with
   | none=>rw[hn ho];exact h4
   | some g3=>exact(hu g3 ho).below h4 (by have:=(cP HR3.out ho).1;have:=HB3.out.size;omega)
  have hrow2:bg w5 w1.heap.size v2 (LX++ [top]):=dR HROW2.out (fun g hg=>hb35 g (h2l g hg));have hs1:w1.heap.size≤w5.heap.size:=by have:=HS13.out;have:=HB4.out.size;omega
  rcases id hrow5.2 with⟨hv3,hl0⟩ | ⟨g3,cap3,cur3,hv3,_⟩
  ·subst hv3;have hl:LY.reverse=[]:=List.eq_nil_of_length_eq_zero hl0;rcases id hrow2.2 with⟨_,hz⟩ | ⟨g2,cap2,cur2,hv2,_,_,hnc,_⟩
   ·simp at hz
   ·subst hv2;have hcap:LX.length+1≤cap2:=by simpa using hnc
    have e:(LX++ [top]).length=LX.length+1:=by simp
    have HQ:=Lib.hid (show bg w5 w.heap.size (.slice (some ⟨g2,0,none⟩) (LX.length+1) cap2) (LX++ [top]++LY.reverse)by rw[hl,List.append_nil,←e];exact ownsRow_base_a hrow2 HB1.out.size);clear e hnc;have HB5:=Lib.hid hb5;clear hl hl0 hrow2 hb5 hb35 h2l hs45 hu hn hrow5 hs1;refine wp_region_list ?_;refine ag rfl (v:=.slice (some ⟨g2,0,none⟩) (LX++ [top]).length cap2) (w':=w5) (by rfl) ?_;refine ag rfl (v:=.slice none 0 0) (w':=w5) (by rfl) ?_;refine ag rfl (v:=.slice (some ⟨g2,0,none⟩) (LX++ [top]).length cap2) (w':=w5) (by go_simp) ?_;go_wp2;go_ret2
    exact⟨_,rfl,HQ.out,HB5.out⟩
  ·subst hv3;obtain⟨v6,w6,happ,hrow6,hgr,_⟩:=nm_app (ty:=68) (ad:=⟨g3,0,none⟩) (c:=cap3) (L2:=LY.reverse) hrow2 hs1 (by simp;omega) (fun j u hu=>by
    obtain⟨g',e',h'⟩:=km hrow5 hu;injection e' with e';injection e' with e';subst e';rw[cM,Nat.zero_add];exact h')
   have HQ:=Lib.hid (show bg w6 w.heap.size v6 (LX++ [top]++LY.reverse)from ownsRow_base_a hrow6 HB1.out.size);have HB6:=Lib.hid (hb5.grown hgr hb5.size (fun k e=>by have:=(cP hrow2 (g:=k) e).1;have:=HB1.out.size;omega));clear hrow2 hb5 hb35 h2l hs45 hu hn hrow5 hs1 hrow6 hgr;refine wp_region_list ?_;refine ag rfl (v:=v2) (w':=w5) (by rfl) ?_;refine ag rfl (v:=.slice (some ⟨g3,0,none⟩) LY.reverse.length cap3) (w':=w5) (by rfl) ?_;refine lK rfl rfl rfl rfl happ ?_;clear happ;go_wp2;go_ret2
   exact⟨_,rfl,HQ.out,HB6.out⟩
 ·have h0':(mc==0)=false:=beq_eq_false_iff_ne.2 h0
  suffices HS:Calls Tryz.prog 48 #[ptB t,.string x,.string y,.int .i64 a] w fun e w'=>e= .returned (.tuple #[.slice none 0 0,.int .i64 mc])∧Below w.heap.size w w' from HS.mono (by
   rintro e w' ⟨rfl,k2⟩;exact⟨_,rfl,by rw[if_neg h0],k2⟩)
  clear h0 hkn hT hE;go_enter Tryz.func48,Tryz.ntmps48
  go_wp2_with (go_at_call 71;refine hme.mono ?_;clear hme;rintro e w1 ⟨rfl,hb⟩;have HB1:=Lib.hid hb;clear hb)
  go_ret2
  exact⟨rfl,HB1.out⟩
end
section
open Classical
def Nms (w:World) (v:Value) (L:List Nm):Prop:=∃ad cap,v= .slice ad L.length cap∧∀(k:Nat) (x:Nm),L[k]? =some x→∃b o,ad=some ⟨b,o,none⟩∧b<w.heap.size∧w.cell? ⟨b,o+k,none⟩=some (.string x)
theorem Nms.below {w w':World} {v:Value} {L:List Nm} (h:Nms w v L) (k:Below w.heap.size w w'):Nms w' v L:=by
 obtain⟨ad,cap,rfl,hc⟩:=h;refine⟨ad,cap,rfl,fun i x hx=> ?_⟩;obtain⟨b,o,e,hb,hx⟩:=hc i x hx;exact⟨b,o,e,Nat.lt_of_lt_of_le hb k.size,by rw[k.cell (p:=⟨b,_,none⟩) hb];exact hx⟩
abbrev nmQ (L:List Nm):List Vp:=L.map fun x=>.val (.string x)
theorem zd {w:World} {v:Value} {L:List Nm} (h:(Vp.row 9 L.length (nmQ L)).p w v):Nms w v L:=by
 rcases h with⟨h1,h2,rfl⟩ | ⟨b,o,c,cs,rfl,hn,hb,hq⟩
 ·have:L=[]:=List.eq_nil_of_length_eq_zero h2;subst this;exact⟨none,0,rfl,fun k x hx=>by cases hx⟩
 ·refine⟨_,c,rfl,fun k x hx=> ?_⟩;obtain⟨u,h1,h2,_⟩:=hq k (.val (.string x)) (by rw[List.getElem?_map,hx];rfl);have e:u= .string x:=h2.1;subst e;exact⟨b,o,rfl,(Array.getElem?_eq_some_iff.1 hb).1,by rw[aR hb];exact h1⟩
theorem names_row {w:World} {b:Nat} {v:Value} {L:List Nm} (h:bg w b v L):(Vp.row 9 L.length (nmQ L)).p w v:=by
 rcases h.2 with⟨rfl,hl⟩ | ⟨g,cap,cur,rfl,_,hg,hn,_,hcs,htake⟩
 ·have:L=[]:=List.eq_nil_of_length_eq_zero hl;subst this;exact .inl ⟨rfl,rfl,rfl⟩
 ·refine .inr ⟨g,0,cap,cur,rfl,hn,hg,fun j q hj=> ?_⟩;obtain⟨x,hx,rfl⟩:∃x,L[j]? =some x∧q= .val (.string x):=by
   rw[List.getElem?_map]at hj
   cases hx:L[j]? with
   | none=>rw[hx]at hj;cases hj
   | some x=>rw[hx]at hj;injection hj with hj;exact⟨x,rfl,hj.symm⟩
  have hjl:=(List.getElem?_eq_some_iff.1 hx).1;have h1:(cur.toList.take (L.length*1))[j]? =some (Value.string x):=by rw[htake,List.getElem?_map,hx];rfl
  rw[List.getElem?_take_of_lt (by omega),Array.getElem?_toList]at h1;exact⟨_,by rw[Nat.zero_add];exact h1,⟨rfl,gG⟩,fun _ h=>h⟩
theorem q_names2 {w:World} {v v2:Value} {L L2:List Nm} (h:Nms w v L) (h2:Nms w v2 L2) (hL:L.length≤1000) (hL2:L2.length≤1000):Calls Tryz.prog 62 #[v,v2] w fun e w'=>e= .returned (.bool (decide (L=L2)))∧Below w.heap.size w w':=by
 obtain⟨ad,cap,rfl,hc⟩:=h;obtain⟨ad2,cap2,rfl,hc2⟩:=h2;have H:=Lib.hid hc;have H2:=Lib.hid hc2;obtain⟨n,hn⟩:∃n,n=L.length:=⟨_,rfl⟩;obtain⟨n2,hn2⟩:∃n,n=L2.length:=⟨_,rfl⟩;rw[←hn,←hn2];rw[←hn]at hL;rw[←hn2]at hL2;have HN:=Lib.hid hn;have HN2:=Lib.hid hn2;have hm:(n:Int)≤1000:=by omega
 clear hc hc2;by_cases hnn:n=n2
 ·subst hnn;obtain⟨q,hq⟩:∃q,decide (L=L2)=q:=⟨_,rfl⟩;have HQ:=Lib.hid hq;rw[hq];clear hn hn2 hq hL hL2;go_enter Tryz.func62,Tryz.ntmps62
  go_wp2;go_loopw [5] (fun s5 wr=>∃k:Nat,k≤n∧s5= .int .i64 (k:Int)∧Hid (Below w.heap.size w wr)∧Hid (∀j,j<k→L[j]? =L2[j]?)) (fun s5 _=>n - (intOf s5).toNat)
  case atStart=>exact⟨0,Nat.zero_le _,rfl,Lib.hid (Below.refl _ _),Lib.hid (fun j h=>absurd h (Nat.not_lt_zero j))⟩
  case round=>
   obtain⟨k,hk,rfl,HB,HE⟩:=hrel;rcases Nat.lt_or_ge k n with hlt | hge
   ·obtain⟨x,hx⟩:∃x,L[k]? =some x:=⟨_,List.getElem?_eq_getElem (by rw[←HN.out];exact hlt)⟩;obtain⟨y,hy⟩:∃x,L2[k]? =some x:=⟨_,List.getElem?_eq_getElem (by rw[←HN2.out];exact hlt)⟩;obtain⟨g,o,rfl,hg,hc⟩:=H.out k x hx;obtain⟨g2,o2,rfl,hg2,hc2⟩:=H2.out k y hy;have f1:wr.cell? ⟨g,o+k,none⟩=some (.string x):=by rw[HB.out.cell (p:=⟨g,o+k,none⟩) hg];exact hc
    have f2:wr.cell? ⟨g2,o2+k,none⟩=some (.string y):=by rw[HB.out.cell (p:=⟨g2,o2+k,none⟩) hg2];exact hc2
    have HBD:=Lib.hid (show Below w.heap.size w wr.drew from HB.out.drew);by_cases e:x=y
    ·subst e;have HE2:=Lib.hid (show∀j,j<k+1→L[j]? =L2[j]? from fun j hj=>by
      rcases Nat.lt_or_ge j k with h | h
      ·exact HE.out j h
      ·obtain rfl:j=k:=by omega
       rw[hx,hy])
     clear hx hy hc hc2 hg hg2;go_wp2;go_region
     go_wp2;go_roundw
     case rel=>exact⟨k+1,by omega,by go_num,HBD,HE2⟩
     case measure=>simp[intOf];omega
    ·have hne:=yX e;have HF:=Lib.hid (show q=false from by
      rw[←HQ.out];exact decide_eq_false (fun h=>by rw[h,hy]at hx;injection hx with hx;exact e hx.symm))
     clear hx hy hc hc2 hg hg2 e;go_wp2;go_region
     go_wp2;go_ret;exact⟨by rw[HF.out];rfl,HBD.out⟩
   ·obtain rfl:k=n:=by omega
    have HT:=Lib.hid (show q=true from by
     rw[←HQ.out];refine decide_eq_true (List.ext_getElem? (fun j=> ?_));rcases Nat.lt_or_ge j k with h | h
     ·exact HE.out j h
     ·rw[List.getElem?_eq_none (by rw[←HN.out];exact h),List.getElem?_eq_none (by rw[←HN2.out];exact h)])
    go_wp2;go_ret;exact⟨by rw[HT.out];rfl,HB.out⟩
 ·have hne:¬L=L2:=fun e=>hnn (by rw[hn,hn2,e])
  rw[decide_eq_false hne];have hnn2:((n:Int)==(n2:Int))=false:=beq_eq_false_iff_ne.2 (by omega);clear hne hn hn2;go_enter Tryz.func62,Tryz.ntmps62
  go_wp2;go_ret;exact⟨rfl,Below.refl _ _⟩
end
def Bd (n:Nat) (x:Int):Prop:=x.natAbs≤n
section
variable {m n:Nat} {x y:Int}
theorem Bd.mono (h:Bd m x) (k:m≤n):Bd n x:=Nat.le_trans h k
theorem Bd.add (h:Bd m x) (k:Bd n y):Bd (m+n) (x+y):=by unfold Bd at *;omega
theorem Bd.sub (h:Bd m x) (k:Bd n y):Bd (m+n) (x - y):=by unfold Bd at *;omega
theorem Bd.neg (h:Bd m x):Bd m (-x):=by unfold Bd at *;omega
theorem Bd.mul (h:Bd m x) (k:Bd n y):Bd (m*n) (x*y):=by unfold Bd at *;rw[Int.natAbs_mul];exact Nat.mul_le_mul h k
theorem Bd.two:Bd 2 2:=Nat.le_refl _
end
def eO (a:Nat) (q:Qq):Prop:=∃W X Y Z:Int,Sim ⟨(W:Rat),X,Y,Z⟩ q.r∧Bd (2^a) W∧Bd (2^a) X∧Bd (2^a) Y∧Bd (2^a) Z
def eK (b:Nat) (v:Vq):Prop:=∃D X Y Z:Int,D≠0∧v.x.v*(D:Rat)=X∧v.y.v*(D:Rat)=Y∧v.z.v*(D:Rat)=Z∧Bd (2^b) D∧Bd (2^b) X∧Bd (2^b) Y∧Bd (2^b) Z
theorem rP {a:Int} (h:a≠0):(a:Rat)≠0:=fun e=>h (by exact_mod_cast e)
theorem eO.mono {a b:Nat} {q:Qq} (h:eO a q) (k:a≤b):eO b q:=by
 obtain⟨W,X,Y,Z,h0,h1,h2,h3,h4⟩:=h;have e:=Nat.pow_le_pow_right (n:=2) (by decide) k;exact⟨W,X,Y,Z,h0,h1.mono e,h2.mono e,h3.mono e,h4.mono e⟩
theorem eK.mono {a b:Nat} {q:Vq} (h:eK a q) (k:a≤b):eK b q:=by
 obtain⟨D,X,Y,Z,h0,k1,k2,k3,h1,h2,h3,h4⟩:=h;have e:=Nat.pow_le_pow_right (n:=2) (by decide) k;exact⟨D,X,Y,Z,h0,k1,k2,k3,h1.mono e,h2.mono e,h3.mono e,h4.mono e⟩
theorem qr {x:Fq} {F C:Int} (hx:x.valid=true) (hF:F≠0) (h:x.v*(F:Rat)=C):x.p≤C.natAbs∧x.q≤F.natAbs:=by
 have hn:=Fq.valid.n hx;have e:Fq.sg x.s x.p*F=C*(x.q:Int):=by
  unfold Fq.v at h;rw[←Rat.mkRat_one (x:=F),←Rat.mkRat_one (x:=C),Rat.mkRat_mul_mkRat,Rat.mkRat_eq_iff (by simpa using hn) (by decide)]at h;simpa using h
 have e2:x.p*F.natAbs=C.natAbs*x.q:=by
  have:=congrArg Int.natAbs e;rwa [Int.natAbs_mul,Int.natAbs_mul,ng,Int.natAbs_natCast]at this
 have hc:Nat.Coprime x.p x.q:=Fq.valid.g hx;have hF':0<F.natAbs:=by omega
 refine⟨?_,Nat.le_of_dvd hF' (hc.symm.dvd_of_dvd_mul_left ⟨C.natAbs,by rw[e2,Nat.mul_comm]⟩)⟩;by_cases h0:C.natAbs=0
 ·rw[h0,Nat.zero_mul]at e2;rcases Nat.mul_eq_zero.1 e2 with h1 | h1
  ·omega
  ·omega
 ·exact Nat.le_of_dvd (by omega) (hc.dvd_of_dvd_mul_right ⟨F.natAbs,by rw[←e2]⟩)
theorem tF {n b d:Nat} (h:n≤2^b) (hd:b<32*d):nl n≤d:=aV.2 (by
 have e:(4294967296:Nat)^d=2^(32*d):=by rw[show(4294967296:Nat)=2^32 by decide,←Nat.pow_mul]
 rw[e];exact Nat.lt_of_le_of_lt h (Nat.pow_lt_pow_right (by decide) hd))
theorem eK.ok {v:Vq} {b d:Nat} (h:eK b v) (g:v.good) (hd:b<32*d):v.ok d:=by
 obtain⟨D,X,Y,Z,h0,k1,k2,k3,h1,h2,h3,h4⟩:=h;have f:∀ {x:Fq} {C:Int},x.valid=true→x.v*(D:Rat)=C→Bd (2^b) C→x.ok d:=fun hx k hC=>by
  obtain⟨e1,e2⟩:=qr hx h0 k;exact⟨tF (Nat.le_trans e1 hC) hd,tF (Nat.le_trans e2 h1) hd,Fq.valid.n hx⟩
 exact⟨f g.x k1 h2,f g.y k2 h3,f g.z k3 h4⟩
theorem eO.over {q:Qq} {a:Nat} (h:eO a q) (g:q.good):∃F W X Y Z:Int,F≠0∧q.w.v*(F:Rat)=W∧q.x.v*(F:Rat)=X∧q.y.v*(F:Rat)=Y∧q.z.v*(F:Rat)=Z∧Bd (2^a) F∧Bd (2^a) W∧Bd (2^a) X∧Bd (2^a) Y∧Bd (2^a) Z:=by
 obtain⟨W,X,Y,Z,⟨k,hk,e⟩,h1,h2,h3,h4⟩:=h;have e0:=g.one;rw[mn g.comp,e,pG k hk]at e0;have hF:∃F:Int,(QR.mk (W:Rat) X Y Z).fst=(F:Rat)∧Bd (2^a) F:=by
  unfold QR.fst;simp only;split
  ·exact⟨W,rfl,h1⟩
  ·split
   ·exact⟨X,rfl,h2⟩
   ·split
    ·exact⟨Y,rfl,h3⟩
    ·exact⟨Z,rfl,h4⟩
 obtain⟨F,hF,hB⟩:=hF;rw[hF]at e0;have e1:=congrArg QR.w e;have e2:=congrArg QR.x e;have e3:=congrArg QR.y e;have e4:=congrArg QR.z e;unfold QR.smul Qq.r at e1 e2 e3 e4;simp only at e1 e2 e3 e4;refine⟨F,W,X,Y,Z,fun h=> ?_,?_,?_,?_,?_,hB,h1,h2,h3,h4⟩
 ·rw[h]at e0;simp at e0
 ·grind
 ·grind
 ·grind
 ·grind
theorem eO.ok {q:Qq} {a d:Nat} (h:eO a q) (g:q.good) (hd:a<32*d):q.ok d:=by
 obtain⟨F,W,X,Y,Z,h0,k0,k1,k2,k3,hF,h1,h2,h3,h4⟩:=h.over g;have f:∀ {x:Fq} {C:Int},x.valid=true→x.v*(F:Rat)=C→Bd (2^a) C→x.ok d:=fun hx k hC=>by
  obtain⟨e1,e2⟩:=qr hx h0 k;exact⟨tF (Nat.le_trans e1 hC) hd,tF (Nat.le_trans e2 hF) hd,Fq.valid.n hx⟩
 exact⟨f g.comp.w k0 h1,f g.comp.x k1 h2,f g.comp.y k2 h3,f g.comp.z k3 h4⟩
theorem eO.id:eO 0 Qq.id:=⟨1,0,0,0,by rw[zT];exact Sim.refl _,Nat.le_refl _,Nat.zero_le _,Nat.zero_le _,Nat.zero_le _⟩
theorem eK.zero:eK 0 (Vq.of 0 0 0):=⟨1,0,0,0,by decide,by rw[show(Vq.of 0 0 0).x=Fq.ofInt 0 from rfl,cB];simp,by rw[show(Vq.of 0 0 0).y=Fq.ofInt 0 from rfl,cB];simp,by rw[show(Vq.of 0 0 0).z=Fq.ofInt 0 from rfl,cB];simp,Nat.le_refl _,Nat.zero_le _,Nat.zero_le _,Nat.zero_le _⟩
theorem eO.mul {p q:Qq} {a b:Nat} (h:eO a p) (k:eO b q) (gp:p.good) (gq:q.good):eO (a+b+2) (p.mul q):=by
 obtain⟨W,X,Y,Z,h0,h1,h2,h3,h4⟩:=h;obtain⟨W',X',Y',Z',k0,k1,k2,k3,k4⟩:=k;have e:2^a*2^b+(2^a*2^b+(2^a*2^b+2^a*2^b))=2^(a+b+2):=by rw[Nat.pow_add,Nat.pow_add];omega
 have e':2^b*2^a=2^a*2^b:=Nat.mul_comm _ _;refine⟨W*W' - (X*X'+(Y*Y'+Z*Z')),X'*W+X*W'+(Y*Z' - Z*Y'),Y'*W+Y*W'+(Z*X' - X*Z'),Z'*W+Z*W'+(X*Y' - Y*X'),?_,?_,?_,?_,?_⟩
 ·have:=(Sim.mul h0 k0).trans (eu gp gq);unfold QR.mul at this;simp only at this;simp only[Rat.intCast_sub,Rat.intCast_add,Rat.intCast_mul];exact this
 ·exact((h1.mul k1).sub ((h2.mul k2).add ((h3.mul k3).add (h4.mul k4)))).mono (Nat.le_of_eq e)
 ·exact(((k2.mul h1).add (h2.mul k1)).add ((h3.mul k4).sub (h4.mul k3))).mono (by omega)
 ·exact(((k3.mul h1).add (h3.mul k1)).add ((h4.mul k2).sub (h2.mul k4))).mono (by omega)
 ·exact(((k4.mul h1).add (h4.mul k1)).add ((h2.mul k3).sub (h3.mul k2))).mono (by omega)
theorem eO.inv {q:Qq} {a:Nat} (h:eO a q) (g:q.good):eO a q.inv:=by
 obtain⟨W,X,Y,Z,h0,h1,h2,h3,h4⟩:=h;refine⟨W, -X, -Y, -Z,?_,h1,h2.neg,h3.neg,h4.neg⟩;have:=(Sim.conj h0).trans (sF g);unfold QR.conj at this;simp only at this;simp only[Rat.intCast_neg];exact this
theorem eK.app {q:Qq} {v:Vq} {a b:Nat} (h:eO a q) (k:eK b v) (g:q.good) (gv:v.good):eK (2*a+b+4) (q.app v):=by
 obtain⟨W,X,Y,Z,h0,h1,h2,h3,h4⟩:=h;obtain⟨D,x,y,z,d0,c1,c2,c3,k0,k1,k2,k3⟩:=k;have hq0:q.r.nrm≠0:=de g;have hQ0:(QR.mk (W:Rat) X Y Z).nrm≠0:=Sim.nrm h0.symm hq0;have hr:(q.app v).r=(QR.mk (W:Rat) X Y Z).app v.r:=by rw[oc g gv,yG h0 hQ0]
 have hN:(QR.mk (W:Rat) X Y Z).nrm=((W*W+(X*X+(Y*Y+Z*Z)):Int):Rat):=by
  unfold QR.nrm;simp only[Rat.intCast_add,Rat.intCast_mul]
 have hi:=Rat.inv_mul_cancel _ hQ0;have hA:2^(2*a+b+4)=16*(2^a*2^a*2^b):=by
  rw[Nat.pow_add,Nat.pow_add,Nat.two_mul,Nat.pow_add];omega
 have hW:0<(2:Nat)^a:=Nat.pow_pos (by decide);have e1:2^a*2^b*2^a=2^a*2^a*2^b:=by rw[Nat.mul_assoc,Nat.mul_comm (2^b),←Nat.mul_assoc]
 refine⟨(W*W+(X*X+(Y*Y+Z*Z)))*D,(W*W - (X*X+(Y*Y+Z*Z)))*x+(2*(X*x+(Y*y+Z*z)))*X+(2*W)*(Y*z - Z*y),
  (W*W - (X*X+(Y*Y+Z*Z)))*y+(2*(X*x+(Y*y+Z*z)))*Y+(2*W)*(Z*x - X*z),
  (W*W - (X*X+(Y*Y+Z*Z)))*z+(2*(X*x+(Y*y+Z*z)))*Z+(2*W)*(X*y - Y*x),?_,?_,?_,?_,?_,?_,?_,?_⟩
 ·intro h;rcases Int.mul_eq_zero.1 h with h | h
  ·exact hQ0 (by rw[hN,h];rfl)
  ·exact d0 h
 ·have:=congrArg VR.x hr;unfold QR.app VR.smul QR.rot Vq.r at this;simp only at this;rw[this];simp only[Rat.intCast_sub,Rat.intCast_add,Rat.intCast_mul,←c1,←c2,←c3];rw[hN]at hi⊢;simp only[Rat.intCast_add,Rat.intCast_mul]at hi⊢;have e2:((2:Int):Rat)=2:=rfl
  grind
 ·have:=congrArg VR.y hr;unfold QR.app VR.smul QR.rot Vq.r at this;simp only at this;rw[this];simp only[Rat.intCast_sub,Rat.intCast_add,Rat.intCast_mul,←c1,←c2,←c3];rw[hN]at hi⊢;simp only[Rat.intCast_add,Rat.intCast_mul]at hi⊢;have e2:((2:Int):Rat)=2:=rfl
  grind
 ·have:=congrArg VR.z hr;unfold QR.app VR.smul QR.rot Vq.r at this;simp only at this;rw[this];simp only[Rat.intCast_sub,Rat.intCast_add,Rat.intCast_mul,←c1,←c2,←c3];rw[hN]at hi⊢;simp only[Rat.intCast_add,Rat.intCast_mul]at hi⊢;have e2:((2:Int):Rat)=2:=rfl
  grind
 ·refine(((h1.mul h1).add ((h2.mul h2).add ((h3.mul h3).add (h4.mul h4)))).mul k0).mono ?_;rw[hA];have:(2^a*2^a+(2^a*2^a+(2^a*2^a+2^a*2^a)))*2^b=4*(2^a*2^a*2^b):=by grind
  omega
 ·refine((((h1.mul h1).sub ((h2.mul h2).add ((h3.mul h3).add (h4.mul h4)))).mul k1).add ((Bd.two.mul ((h2.mul k1).add ((h3.mul k2).add (h4.mul k3)))).mul h2) |>.add ((Bd.two.mul h1).mul ((h3.mul k3).sub (h4.mul k2)))).mono ?_;rw[hA];generalize 2^a=A at *;generalize 2^b=B at *;have:(A*A+(A*A+(A*A+A*A)))*B+2*(A*B+(A*B+A*B))*A+2*A*(A*B+A*B)=14*(A*A*B):=by grind
  omega
 ·refine((((h1.mul h1).sub ((h2.mul h2).add ((h3.mul h3).add (h4.mul h4)))).mul k2).add ((Bd.two.mul ((h2.mul k1).add ((h3.mul k2).add (h4.mul k3)))).mul h3) |>.add ((Bd.two.mul h1).mul ((h4.mul k1).sub (h2.mul k3)))).mono ?_;rw[hA];generalize 2^a=A at *;generalize 2^b=B at *;have:(A*A+(A*A+(A*A+A*A)))*B+2*(A*B+(A*B+A*B))*A+2*A*(A*B+A*B)=14*(A*A*B):=by grind
  omega
 ·refine((((h1.mul h1).sub ((h2.mul h2).add ((h3.mul h3).add (h4.mul h4)))).mul k3).add ((Bd.two.mul ((h2.mul k1).add ((h3.mul k2).add (h4.mul k3)))).mul h4) |>.add ((Bd.two.mul h1).mul ((h2.mul k2).sub (h3.mul k1)))).mono ?_;rw[hA];generalize 2^a=A at *;generalize 2^b=B at *;have:(A*A+(A*A+(A*A+A*A)))*B+2*(A*B+(A*B+A*B))*A+2*A*(A*B+A*B)=14*(A*A*B):=by grind
  omega
theorem eK.add {u v:Vq} {a b:Nat} (h:eK a u) (k:eK b v) (gu:u.good) (gv:v.good):eK (a+b+1) (u.add v):=by
 obtain⟨D,X,Y,Z,h0,c1,c2,c3,h1,h2,h3,h4⟩:=h;obtain⟨D',X',Y',Z',k0,d1,d2,d3,k1,k2,k3,k4⟩:=k;obtain⟨s1,s2,s3⟩:=eT gu gv;have e:2^a*2^b+2^a*2^b=2^(a+b+1):=by rw[Nat.pow_add,Nat.pow_add];omega
 have e':2^b*2^a=2^a*2^b:=Nat.mul_comm _ _;refine⟨D*D',X*D'+X'*D,Y*D'+Y'*D,Z*D'+Z'*D,fun h=>(Int.mul_eq_zero.1 h).elim h0 k0,?_,?_,?_,(h1.mul k1).mono (by omega),((h2.mul k1).add (k2.mul h1)).mono (by omega),((h3.mul k1).add (k3.mul h1)).mono (by omega),((h4.mul k1).add (k4.mul h1)).mono (by omega)⟩
 ·rw[s1];simp only[Rat.intCast_add,Rat.intCast_mul,←c1,←d1];grind
 ·rw[s2];simp only[Rat.intCast_add,Rat.intCast_mul,←c2,←d2];grind
 ·rw[s3];simp only[Rat.intCast_add,Rat.intCast_mul,←c3,←d3];grind
theorem eK.opp {v:Vq} {b:Nat} (h:eK b v) (g:v.good):eK b (v.scale (Fq.ofInt (-1))):=by
 obtain⟨D,X,Y,Z,h0,c1,c2,c3,h1,h2,h3,h4⟩:=h;obtain⟨s1,s2,s3⟩:=dM g (aE (-1));have e:=cB (-1);have e1:((-1:Int):Rat)= -1:=rfl;refine⟨D, -X, -Y, -Z,h0,?_,?_,?_,h1,h2.neg,h3.neg,h4.neg⟩
 ·rw[s1,e,e1,show((-X:Int):Rat)= -(X:Rat)from Rat.intCast_neg X,←c1];grind
 ·rw[s2,e,e1,show((-Y:Int):Rat)= -(Y:Rat)from Rat.intCast_neg Y,←c2];grind
 ·rw[s3,e,e1,show((-Z:Int):Rat)= -(Z:Rat)from Rat.intCast_neg Z,←c3];grind
theorem eK.lerp {u v:Vq} {t:Fq} {a b c:Nat} (h:eK a u) (k:eK b v) (gu:u.good) (gv:v.good) (gt:t.valid=true) {n m:Int} (hm:m≠0) (ht:t.v*(m:Rat)=n) (hn:Bd (2^c) n) (hm2:Bd (2^c) m):eK (a+b+c+2) (u.lerp v t):=by
 obtain⟨D,X,Y,Z,h0,c1,c2,c3,h1,h2,h3,h4⟩:=h;obtain⟨D',X',Y',Z',k0,d1,d2,d3,k1,k2,k3,k4⟩:=k;obtain⟨s1,s2,s3⟩:=lerp_v gu gv gt;have e:4*(2^a*2^b*2^c)=2^(a+b+c+2):=by rw[Nat.pow_add,Nat.pow_add,Nat.pow_add];omega
 have e':2^b*2^a=2^a*2^b:=Nat.mul_comm _ _;have hb:∀ {X X':Int},Bd (2^a) X→Bd (2^b) X'→Bd (2^(a+b+c+2)) (X*D'*m+(X'*D - X*D')*n):=fun hX hX'=>by
  refine(((hX.mul k1).mul hm2).add (((hX'.mul h1).sub (hX.mul k1)).mul hn)).mono ?_;rw[←e,e',Nat.add_mul];omega
 refine⟨D*D'*m,X*D'*m+(X'*D - X*D')*n,Y*D'*m+(Y'*D - Y*D')*n,Z*D'*m+(Z'*D - Z*D')*n,fun h=>(Int.mul_eq_zero.1 h).elim (fun h=>(Int.mul_eq_zero.1 h).elim h0 k0) hm,?_,?_,?_,((h1.mul k1).mul hm2).mono (by omega),hb h2 k2,hb h3 k3,hb h4 k4⟩
 ·rw[s1];simp only[Rat.intCast_add,Rat.intCast_sub,Rat.intCast_mul,←c1,←d1,←ht];grind
 ·rw[s2];simp only[Rat.intCast_add,Rat.intCast_sub,Rat.intCast_mul,←c2,←d2,←ht];grind
 ·rw[s3];simp only[Rat.intCast_add,Rat.intCast_sub,Rat.intCast_mul,←c3,←d3,←ht];grind
theorem eO.way {p d:Qq} {t:Fq} {a b c:Nat} (h:eO a p) (k:eO b d) (gp:p.good) (gd:d.good) (gt:t.valid=true) {n m:Int} (hm:m≠0) (ht:t.v*(m:Rat)=n) (hn:Bd (2^c) n) (hm2:Bd (2^c) m):eO (a+(b+c)+2) (p.way d t):=by
 obtain⟨F,W,X,Y,Z,h0,k0,k1,k2,k3,hF,h1,h2,h3,h4⟩:=k.over gd;unfold Qq.way;rw[wM (rq gd.comp gt)];refine eO.mul h ?_ gp (rq gd.comp gt);obtain⟨s1,s2,s3⟩:=dM gd.comp.axis gt;have hmF:(m:Rat)*(F:Rat)≠0:=dN (rP hm) (rP h0);have e:2^c*2^b=2^(b+c):=by rw[Nat.pow_add,Nat.mul_comm]
 have hi:=Rat.inv_mul_cancel _ hmF;refine⟨m*F,n*X,n*Y,n*Z,⟨((m:Rat)*(F:Rat))⁻¹,sD hmF,?_⟩,e▸hm2.mul hF,e▸hn.mul h2,e▸hn.mul h3,e▸hn.mul h4⟩;have e1:(Fq.ofInt 1).v=1:=by rw[cB];rfl
 unfold QR.smul Qq.r
 ext<;>simp only[Rat.intCast_mul,←k1,←k2,←k3,←ht]
 ·rw[e1];exact hi.symm
 ·rw[s1];show d.x.v*_=_;grind
 ·rw[s2];show d.y.v*_=_;grind
 ·rw[s3];show d.z.v*_=_;grind
theorem fN {x:Fq} (hx:x.valid=true) (h:x.ok 2):(x.q:Int)≠0∧x.v*((x.q:Int):Rat)=(Fq.sg x.s x.p:Int)∧Bd (2^64) (x.q:Int)∧Bd (2^64) (Fq.sg x.s x.p):=by
 have hn:=Fq.valid.n hx;have e:(4294967296:Nat)^2=2^64:=by decide
 have hp:=aV.1 h.p;have hq:=aV.1 h.q;rw[e]at hp hq;refine⟨by omega,?_,?_,?_⟩
 ·unfold Fq.v;rw[←Rat.mkRat_one (x:=(x.q:Int)),←Rat.mkRat_one (x:=Fq.sg x.s x.p),Rat.mkRat_mul_mkRat,Rat.mkRat_eq_iff (by simpa using hn) (by decide)];simp
 ·unfold Bd;omega
 ·unfold Bd;rw[ng];omega
theorem eK.two {v:Vq} (g:v.good) (h:v.ok 2):eK 192 v:=by
 obtain⟨a1,a2,a3,a4⟩:=fN g.x h.x;obtain⟨b1,b2,b3,b4⟩:=fN g.y h.y;obtain⟨c1,c2,c3,c4⟩:=fN g.z h.z;generalize (v.x.q:Int)=A at *;generalize (v.y.q:Int)=B at *;generalize (v.z.q:Int)=C at *;generalize Fq.sg v.x.s v.x.p=a at *;generalize Fq.sg v.y.s v.y.p=b at *;generalize Fq.sg v.z.s v.z.p=c at *;have e:(2:Nat)^64*(2^64*2^64)=2^192:=by decide
 refine⟨A*(B*C),a*(B*C),b*(A*C),c*(A*B),fun h=>(Int.mul_eq_zero.1 h).elim a1 (fun h=>(Int.mul_eq_zero.1 h).elim b1 c1),?_,?_,?_,e▸a3.mul (b3.mul c3),e▸a4.mul (b3.mul c3),e▸b4.mul (a3.mul c3),e▸c4.mul (a3.mul b3)⟩
 ·simp only[Rat.intCast_mul,←a2];grind
 ·simp only[Rat.intCast_mul,←b2];grind
 ·simp only[Rat.intCast_mul,←c2];grind
theorem eO.two {q:Qq} (g:q.good) (h:q.ok 2):eO 256 q:=by
 obtain⟨d1,d2,d3,d4⟩:=fN g.comp.w h.w;obtain⟨a1,a2,a3,a4⟩:=fN g.comp.x h.x;obtain⟨b1,b2,b3,b4⟩:=fN g.comp.y h.y;obtain⟨c1,c2,c3,c4⟩:=fN g.comp.z h.z;generalize (q.w.q:Int)=D at *;generalize (q.x.q:Int)=A at *;generalize (q.y.q:Int)=B at *;generalize (q.z.q:Int)=C at *;generalize Fq.sg q.w.s q.w.p=d at *;generalize Fq.sg q.x.s q.x.p=a at *;generalize Fq.sg q.y.s q.y.p=b at *;generalize Fq.sg q.z.s q.z.p=c at *;have e:(2:Nat)^64*(2^64*(2^64*2^64))=2^256:=by decide
 have hK:(D:Rat)*((A:Rat)*((B:Rat)*(C:Rat)))≠0:=dN (rP d1) (dN (rP a1) (dN (rP b1) (rP c1)));have hi:=Rat.inv_mul_cancel _ hK;refine⟨d*(A*(B*C)),a*(D*(B*C)),b*(D*(A*C)),c*(D*(A*B)),⟨_,sD hK,?_⟩,e▸d4.mul (a3.mul (b3.mul c3)),e▸a4.mul (d3.mul (b3.mul c3)),e▸b4.mul (d3.mul (a3.mul c3)),e▸c4.mul (d3.mul (a3.mul b3))⟩;unfold QR.smul Qq.r
 ext<;>simp only[Rat.intCast_mul,←a2,←b2,←c2,←d2]<;>grind
section
open Classical
structure Rep (a b:Nat) (p:Pq):Prop where
 q:eO a p.rot
 v:eK b p.pos
 g:p.good
section
variable {a b a' b' d:Nat} {p p':Pq}
theorem Rep.mono (h:Rep a b p) (ha:a≤a') (hb:b≤b'):Rep a' b' p:=⟨h.q.mono ha,h.v.mono hb,h.g⟩
theorem Rep.app {v:Vq} {c:Nat} (h:Rep a b p) (k:eK c v) (gv:v.good):eK (2*a+c+4+b+1) (p.app v):=(k.app h.q h.g.rot gv).add h.v (bm h.g.rot gv) h.g.pos
theorem Rep.mul (h:Rep a b p) (k:Rep a' b' p'):Rep (a+a'+2) (2*a+b'+4+b+1) (p.mul p'):=⟨h.q.mul k.q h.g.rot k.g.rot,h.app k.v k.g.pos,h.g.mul k.g⟩
theorem Rep.inv (h:Rep a b p):Rep a (2*a+b+4) p.inv:=⟨h.q.inv h.g.rot,(h.v.opp h.g.pos).app (h.q.inv h.g.rot) (aX h.g.rot) (h.g.pos.scale (aE _)),h.g.inv⟩
theorem Rep.ok (h:Rep a b p) (ha:a<32*d) (hb:b<32*d):p.ok d:=⟨h.q.ok h.g.rot ha,h.v.ok h.g.pos hb⟩
theorem Rep.two (g:p.good) (h:p.ok 2):Rep 256 192 p:=⟨.two g.rot h.rot,.two g.pos h.pos,g⟩
theorem Rep.id:Rep 0 0 Pq.id:=⟨.id,.zero,.id⟩
end
theorem ratio_int {v u:Int} (h:0<u):(Fq.ratio v u).v*(u:Rat)=v:=by
 unfold Fq.ratio;rw[yC (by omega)];have e:Fq.sg (decide (v<0) !=decide (u<0)) v.natAbs=v:=by
  rw[decide_eq_false (show¬u<0 by omega)];unfold Fq.sg;by_cases hv:v<0
  ·rw[decide_eq_true hv];simp;omega
  ·rw[decide_eq_false hv];simp;omega
 rw[e,←Rat.mkRat_one (x:=u),←Rat.mkRat_one (x:=v),Rat.mkRat_mul_mkRat,Rat.mkRat_eq_iff (by omega) (by decide)];have:(u.natAbs:Int)=u:=by omega
 simp[this]
theorem atP_rep {S:List St} {a:Int} {z y:St} (hS:GoodS S) (h:Road S a z y 0):Rep 812 426 (atP z y 0 a):=by
 obtain⟨gz,gy,h1,h2,_⟩:=road_z hS h rfl;unfold atP;rw[if_neg (by omega)];split
 ·exact(Rep.two gy.good gy.ok).mono (by decide) (by decide)
 ·have zl:=gz.lo;have yh:=gy.hi;have hm:0<y.tm - z.tm:=by omega
  have v:=fU (v:=a - z.tm) (u:=y.tm - z.tm) (by omega);have e:=ratio_int (v:=a - z.tm) hm;have p40:(2:Nat)^40=1099511627776:=by decide
  have n1:Bd (2^40) (a - z.tm):=by unfold Bd;omega
  have n2:Bd (2^40) (y.tm - z.tm):=by unfold Bd;omega
  have rz:=Rep.two gz.good gz.ok;have ry:=Rep.two gy.good gy.ok;have rd:=(rz.q.inv gz.good.rot).mul ry.q (aX gz.good.rot) gy.good.rot;exact⟨rz.q.way rd gz.good.rot (bJ (aX gz.good.rot) gy.good.rot) v (by omega) e n1 n2,rz.v.lerp ry.v gz.good.pos gy.good.pos v (by omega) e n1 n2,Pq.good.btw gz.good gy.good v⟩
theorem vD {R:Tr} (hR:TOk R) {c:Nm} {a:Int} (h:(cJ R c a).2=0):Rep 812 426 (cJ R c a).1:=by
 unfold cJ at h⊢
 cases ht:tAt R c a with
 | none=>rw[ht]at h;cases h
 | some x=>
  rw[ht]at h;simp only at h⊢;by_cases hs:x.st=true
  ·rw[if_pos hs];obtain⟨g,k⟩:=hR.pose _ (oY ht).1 hs;exact(Rep.two g k).mono (by decide) (by decide)
  ·rw[if_neg hs]at h⊢;have hg:=hR.good _ (oY ht).1;obtain⟨z,y,cc,hr⟩:=road hg a;rw[hr.trkP]at h⊢;simp only at h;subst h;exact atP_rep hg hr
theorem qt {R:Tr} (hR:TOk R) (a:Int):∀(l:List Nm) (k:Nat) (p:Pq),Rep (814*k) (2055*k) p→k+l.length≤24→lM R a l p∧((co R a l p).2=0→Rep 19536 49320 (co R a l p).1)
 | [],k,p,h,hk=>⟨trivial,fun _=>h.mono (by simp at hk;omega) (by simp at hk;omega)⟩
 | f::l,k,p,h,hk=>by
  rw[List.length_cons]at hk;by_cases h0:(cJ R f a).2=0
  ·have he:=vD hR h0;have hm:Rep (814*(k+1)) (2055*(k+1)) ((cJ R f a).1.mul p):=(he.mul h).mono (by omega) (by omega);obtain⟨i1,i2⟩:=qt hR a l (k+1) _ hm (by omega);refine⟨fun _=>⟨he.ok (by decide) (by decide),he.g,h.ok (by omega) (by omega),h.g,i1⟩,?_⟩;unfold co;rw[if_pos h0];exact i2
  ·refine⟨fun h=>absurd h h0,fun h=> ?_⟩;unfold co at h;rw[if_neg h0]at h;exact absurd h h0
theorem anc_len {R:Tr} (hR:Sane R) (a:Int) (x:Nm):(bd R a x).length≤24:=by
 by_cases hx:aN R x
 ·exact fM hR hx
 ·have h:=dS hR.ok a x
  cases hp:par R a x with
  | none=>
   rw[ko (.root hp)];simp
  | some y=>
   obtain⟨q,hq,_,_⟩:=io hp;exact absurd ⟨_,hq,.inl rfl⟩ hx
theorem qu {R:Tr} (hR:Sane R) (a:Int) (tq fr:Nm):FindOk R a tq fr∧((aH R a tq fr).2=0→Rep 39074 176793 (aH R a tq fr).1):=by
 have lb:∀x top,0+(bC (bd R a x) top).length≤24:=fun x top=>by
  have h1:=anc_len hR a x;have h2:(bC (bd R a x) top).length≤_:=(List.takeWhile_sublist _).length_le;omega
 obtain⟨u1,u2⟩:=qt hR.ok a _ 0 Pq.id Rep.id (lb fr (aT R a fr tq).1);obtain⟨d1,d2⟩:=qt hR.ok a _ 0 Pq.id Rep.id (lb tq (aT R a fr tq).1);refine⟨⟨u1,d1,fun h=>⟨(u2 h).ok (by decide) (by decide),(u2 h).g⟩,fun h=>⟨(d2 h).ok (by decide) (by decide),(d2 h).g,(d2 h).inv.ok (by decide) (by decide)⟩⟩,fun h=> ?_⟩;unfold aH at h⊢;by_cases h0:(aT R a fr tq).2=0
 ·rw[if_neg (by simpa using h0)]at h⊢;by_cases hu:(upP R a fr (aT R a fr tq).1).2=0
  ·rw[if_neg (by simpa using hu)]at h⊢;by_cases hd:(upP R a tq (aT R a fr tq).1).2=0
   ·rw[if_neg (by simpa using hd)];exact(d2 hd).inv.mul (u2 hu)
   ·rw[if_pos hd]at h;exact absurd h hd
  ·rw[if_pos hu]at h;exact absurd h hu
 ·rw[if_pos h0]at h;exact absurd h h0
theorem fX {R:Tr} (hR:Sane R) (a:Int) (tq fr:Nm):FindOk R a tq fr:=(qu hR a tq fr).1
theorem dU {R:Tr} (hR:Sane R) {a:Int} {tq fr:Nm} (h:(aH R a tq fr).2=0):(aH R a tq fr).1.ok 6000∧(aH R a tq fr).1.good:=⟨((qu hR a tq fr).2 h).ok (by decide) (by decide),((qu hR a tq fr).2 h).g⟩
theorem acr_ok {R:Tr} (hR:Sane R) (tq:Nm) (ta:Int) (fr:Nm) (fa:Int) (th:Nm):AcrOk R tq ta fr fa th:=
 ⟨fX hR _ _ _,fX hR _ _ _,fun h=>⟨(dU hR h).1.mono (by decide),(dU hR h).2⟩,fun h=>⟨(dU hR h).1.mono (by decide),(dU hR h).2⟩⟩
theorem gQ {R:Tr} {a:Int} {tq fr top:Nm} {U D:Pq} (hm:aT R a fr tq=(top,0)) (hu:upP R a fr top=(U,0)) (hd:upP R a tq top=(D,0)):aH R a tq fr=(D.inv.mul U,0):=by
 unfold aH;rw[hm,if_neg (by simp),hu,if_neg (by simp),hd,if_neg (by simp)]
theorem vE {R:Tr} {a:Int} {tq fr x:Nm} {c:Int} (hm:aT R a fr tq=(x,c)) (h:c≠0):aH R a tq fr=(Pq.zero,c):=by
 unfold aH;rw[hm,if_pos h]
theorem vF {R:Tr} {a:Int} {tq fr top:Nm} {U:Pq} {c:Int} (hm:aT R a fr tq=(top,0)) (hu:upP R a fr top=(U,c)) (h:c≠0):aH R a tq fr=(Pq.zero,c):=by
 unfold aH;rw[hm,if_neg (by simp),hu,if_pos h]
end
section
open Classical
theorem ze {α:Type} {x:α}:∀ {P P' S S':List α},P++x::S=P'++x::S'→(P++x::S).Nodup→P=P'∧S=S'
 | [],[],S,S',h,_=>⟨rfl,by simpa using h⟩
 | [],p::P',S,S',h,hd=>by
  simp only[List.nil_append,List.cons_append,List.cons.injEq]at h hd;obtain⟨rfl,rfl⟩:=h;exact absurd (List.mem_append.2 (.inr (List.mem_cons_self ..))) (List.nodup_cons.1 hd).1
 | p::P,[],S,S',h,hd=>by
  simp only[List.nil_append,List.cons_append,List.cons.injEq]at h hd;obtain⟨rfl,rfl⟩:=h;exact absurd (List.mem_append.2 (.inr (List.mem_cons_self ..))) (List.nodup_cons.1 hd).1
 | p::P,p'::P',S,S',h,hd=>by
  simp only[List.cons_append,List.cons.injEq]at h hd;obtain⟨rfl,h⟩:=h;obtain⟨e1,e2⟩:=ze h (List.nodup_cons.1 hd).2;exact⟨by rw[e1],e2⟩
section
variable {R Q R' Q' A B A' B':Tr} {c p:Nm} {x x':Lk} {k k':Nat} {a f u e e':Int}
theorem TOk.nodup (h:TOk R) (c:Nm):(lks R c).Nodup:=by
 refine List.Pairwise.imp_of_mem (fun {x y} hx hy k e=> ?_) (h.row c);subst e;have:=h.tm _ (ck.1 hx);simp only at this;omega
theorem tG (h:REq (A++(c,x)::B) (A'++(c,x)::B')) (hd:TOk (A++(c,x)::B)):REq (A++(c,x')::B) (A'++(c,x')::B'):=fun y=>by
 have hy:=h y;have hn:=hd.nodup y;rw[cY,cY]at hy⊢;rw[cY]at hn;by_cases e:y=c
 ·rw[if_pos e,if_pos e]at hy⊢;rw[if_pos e]at hn;obtain⟨e1,e2⟩:=ze hy hn;rw[e1,e2]
 ·rw[if_neg e,if_neg e]at hy⊢;exact hy
theorem eN.of (h:x.un= -1):eN (A++(c,x)::B) c A.length x:=⟨by simp,h⟩
theorem oC (hR:TOk R) (hQ:TOk Q) (h:REq R Q) (a:eN R c k x) (b:eN Q c k' x'):x=x':=by
 have h1:=a.last (hR.row c);have h2:=b.last (hQ.row c);rw[h c,h2]at h1;injection h1 with h1;exact h1.symm
theorem kL (h:REq R Q) (a:qa R c) (b:eN Q c k x):False:=by
 have h1:(c,x)∈R:=(h.mem _).2 (List.mem_of_getElem? b.1);obtain⟨i,hi,e⟩:=List.getElem_of_mem h1;exact a i (c,x) (by rw[List.getElem?_eq_getElem hi,e]) ⟨rfl,b.2⟩
theorem DetS.uniq (hR:TOk R) (hQ:TOk Q) (h:REq R Q) (d:DetS R c u R' e) (d':DetS Q c u Q' e'):e=e'∧REq R' Q':=by
 cases d with
 | none h1=>cases d' with
  | none _=>exact⟨rfl,h⟩
  | time k1 _=>exact(kL h h1 k1).elim
  | ok e1 k1 _ _=>subst e1;exact(kL h h1 (eN.of k1)).elim
 | time h1 h2=>cases d' with
  | none k1=>exact(kL h.symm k1 h1).elim
  | time _ _=>exact⟨rfl,h⟩
  | ok e1 k1 k2 k3=>subst e1;obtain rfl:=oC hR hQ h h1 (eN.of k1);omega
 | ok e1 h1 h2 h3=>subst e1;cases d' with
  | none k1=>exact(kL h.symm k1 (eN.of h1)).elim
  | time k1 k2=>obtain rfl:=oC hR hQ h (eN.of h1) k1;omega
  | ok e1 k1 k2 k3=>subst e1;obtain rfl:=oC hR hQ h (eN.of h1) (eN.of k1);exact⟨rfl,tG h hR⟩
theorem SetS.uniq {add:List St→List St×Int} (hR:TOk R) (h:REq R Q) (d:SetS add R c a R' e) (d':SetS add Q c a Q' e'):e=e'∧REq R' Q':=by
 have ht:=h.tAt c a
 cases d with
 | none h1=>cases d' with
  | none _=>exact⟨rfl,h⟩
  | still k1 _=>rw[h1,k1]at ht;cases ht
  | ok e1 k1 _=>rw[h1,k1]at ht;cases ht
 | still h1 h2=>cases d' with
  | none k1=>rw[h1,k1]at ht;cases ht
  | still _ _=>exact⟨rfl,h⟩
  | ok e1 k1 k2=>rw[h1,k1]at ht;injection ht with ht;subst ht;rw[h2]at k2;cases k2
 | ok e1 h1 h2=>cases d' with
  | none k1=>rw[h1,k1]at ht;cases ht
  | still k1 k2=>rw[h1,k1]at ht;injection ht with ht;subst ht;rw[h2]at k2;cases k2
  | ok e2 k1 k2=>rw[h1,k1]at ht;injection ht with ht;subst ht;subst e1;subst e2;exact⟨rfl,tG h hR⟩
theorem FixS.uniq {ok:Bool} {q:Pq} (hR:TOk R) (hQ:TOk Q) (h:REq R Q) (d:FixS ok q R c R' e) (d':FixS ok q Q c Q' e'):e=e'∧REq R' Q':=by
 cases d with
 | none h1=>cases d' with
  | none _=>exact⟨rfl,h⟩
  | state k1 _=>exact(kL h h1 k1).elim
  | range k1 _ _ _=>exact(kL h h1 k1).elim
  | ok e1 k1 _ _ _=>subst e1;exact(kL h h1 (eN.of k1)).elim
 | state h1 h2=>cases d' with
  | none k1=>exact(kL h.symm k1 h1).elim
  | state _ _=>exact⟨rfl,h⟩
  | range k1 k2 k3 _=>obtain rfl:=oC hR hQ h h1 k1;rw[k2,k3]at h2;simp at h2
  | ok e1 k1 k2 k3 _=>subst e1;obtain rfl:=oC hR hQ h h1 (eN.of k1);rw[k2,k3]at h2;simp at h2
 | range h1 h2 h3 h4=>cases d' with
  | none k1=>exact(kL h.symm k1 h1).elim
  | state k1 k2=>obtain rfl:=oC hR hQ h h1 k1;rw[h2,h3]at k2;simp at k2
  | range _ _ _ _=>exact⟨rfl,h⟩
  | ok e1 k1 k2 k3 k4=>rw[h4]at k4;cases k4
 | ok e1 h1 h2 h3 h4=>subst e1;cases d' with
  | none k1=>exact(kL h.symm k1 (eN.of h1)).elim
  | state k1 k2=>obtain rfl:=oC hR hQ h (eN.of h1) k1;rw[h2,h3]at k2;simp at k2
  | range _ _ _ k4=>rw[h4]at k4;cases k4
  | ok e1 k1 _ _ _=>subst e1;obtain rfl:=oC hR hQ h (eN.of h1) (eN.of k1);exact⟨rfl,tG h hR⟩
def tH (R:Tr) (c:Nm) (f:Int):Prop:=f<0∨ei<f∨∃x∈lks R c,x.un= -1∨f<x.un
def vG (R:Tr) (c p:Nm):Prop:=∃n,cf (fun x=>aN R x∨x=c∨x=p) n∧(24<n∨64≤(lks R c).length)
theorem AttS.cls {isN:Nm→Prop} (h:AttS isN R c p f R' e):(e=5∧R'=R∧¬(isN c∧isN p))∨(e=17∧R'=R∧(isN c∧isN p)∧tH R c f)∨(e=15∧R'=R∧(isN c∧isN p)∧¬tH R c f∧vG R c p)∨
  (e=19∧R'=R∧(isN c∧isN p)∧¬tH R c f∧¬vG R c p∧Cyc R c p f)∨(e=0∧R'=lC R c p f∧(isN c∧isN p)∧¬tH R c f∧¬vG R c p∧¬Cyc R c p f):=by
 have hT:0≤f→f≤ei→qa R c→(∀x∈lks R c,x.un≤f)→¬tH R c f:=fun h0 h1 h2 h3 ht=>by
  rcases ht with ht | ht | ⟨x,hx,ht | ht⟩
  ·omega
  ·omega
  ·obtain⟨i,hi,e⟩:=List.getElem_of_mem (ck.1 hx);exact h2 i (c,x) (by rw[List.getElem?_eq_getElem hi,e]) ⟨rfl,ht⟩
  ·have:=h3 x hx;omega
 have hF:∀n,cf (fun x=>aN R x∨x=c∨x=p) n→n≤24∧(lks R c).length<64→¬vG R c p:=fun n hn hf ⟨m,hm,hg⟩=>by
  have:=cf.uniq hn hm;omega
 cases h with
 | name h=>exact .inl ⟨rfl,rfl,h⟩
 | time h ht=>
  refine .inr (.inl ⟨rfl,rfl,h,?_⟩);rcases ht with ht | ht | ⟨k,x,ht⟩ | ⟨x,hx,ht⟩
  ·exact .inl ht
  ·exact .inr (.inl ht)
  ·exact .inr (.inr ⟨x,ck.2 (List.mem_of_getElem? ht.1),.inl ht.2⟩)
  ·exact .inr (.inr ⟨x,hx,.inr ht⟩)
 | full h h0 h1 h2 h3 n hn hf=>exact .inr (.inr (.inl ⟨rfl,rfl,h,hT h0 h1 h2 h3,n,hn,hf⟩))
 | cycle h h0 h1 h2 h3 n hn hf hc=>exact .inr (.inr (.inr (.inl ⟨rfl,rfl,h,hT h0 h1 h2 h3,hF n hn hf,hc⟩)))
 | ok h h0 h1 h2 h3 n hn hf hc=>exact .inr (.inr (.inr (.inr ⟨rfl,rfl,h,hT h0 h1 h2 h3,hF n hn hf,hc⟩)))
theorem AttS.uniq {isN:Nm→Prop} (h:REq R Q) (d:AttS isN R c p f R' e) (d':AttS isN Q c p f Q' e'):e=e'∧REq R' Q':=by
 have hT:tH R c f↔tH Q c f:=by unfold tH;rw[h c]
 have hF:vG R c p↔vG Q c p:=by unfold vG;rw[h c];simp only[h.known]
 have hC:Cyc R c p f↔Cyc Q c p f:=h.cyc;have ha:REq (lC R c p f) (lC Q c p f):=fun y=>by rw[kg,kg,h y]
 have d1:=d.cls;have d2:=d'.cls;rw[hT,hF,hC]at d1;generalize tH Q c f=T at *;generalize vG Q c p=F at *;generalize Cyc Q c p f=C at *;generalize (isN c∧isN p)=N at *;rcases d1 with⟨rfl,rfl,a1⟩ | ⟨rfl,rfl,a1,a2⟩ | ⟨rfl,rfl,a1,a2,a3⟩ | ⟨rfl,rfl,a1,a2,a3,a4⟩ | ⟨rfl,rfl,a1,a2,a3,a4⟩<;>
 rcases d2 with⟨rfl,rfl,b1⟩ | ⟨rfl,rfl,b1,b2⟩ | ⟨rfl,rfl,b1,b2,b3⟩ | ⟨rfl,rfl,b1,b2,b3,b4⟩ | ⟨rfl,rfl,b1,b2,b3,b4⟩<;>
 first
  | exact⟨rfl,h⟩
  | exact⟨rfl,ha⟩
  | (exfalso;contradiction)
theorem DoS.uniq {s:Ax} (hR:TOk R) (hQ:TOk Q) (h:REq R Q) (d:DoS R s R' e) (d':DoS Q s Q' e'):e=e'∧REq R' Q':=by
 unfold DoS at d d';split at d
 ·rename_i h1;rw[if_pos h1]at d';exact d.uniq hR hQ h d'
 ·rename_i h1;rw[if_neg h1]at d';split at d
  ·rename_i h2;rw[if_pos h2]at d';exact d.uniq hR h d'
  ·rename_i h2;rw[if_neg h2]at d';split at d
   ·rename_i h3;rw[if_pos h3]at d';exact d.uniq hR hQ h d'
   ·rename_i h3;rw[if_neg h3]at d';exact d.uniq h d'
end
end
section
open Go.RowKit Go.Sort Go.Shelf
def Tryz.sortI_ren:Go.Shelf.Ren:=⟨fun | 5=>109 | 8=>174 | 7=>173 | 19=>232 | 20=>233 | 10=>223 | 11=>224 | 12=>225 | 13=>226 | 14=>227 | 15=>228 | 16=>229 | 17=>230 | 18=>231 | 30=>273 | 31=>274 | 32=>275 | 33=>276 | 34=>277 | 35=>278 | 40=>300 | n=>n,fun | 23=>171 | 25=>3 | 3=>3 | 32=>234 | 22=>171 | 0=>0 | 44=>237 | 46=>178 | 4=>4 | 36=>273 | 35=>272 | 41=>277 | 5=>5 | 9=>9 | 53=>299 | 57=>303 | 63=>309 | 64=>310 | n=>n,fun | n=>n⟩
theorem Tryz.sortI:Go.Proofs.SlLaysM.n5 Tryz.prog Tryz.sortI_ren:= {
 mixed:=by kernel_rfl
 f5:=⟨Tryz.f109.name,by decide,Tryz.func109.trans (congrArg some (by kernel_rfl))⟩
 f7:=⟨Tryz.f173.name,by decide,Tryz.func173.trans (congrArg some (by kernel_rfl))⟩
 f8:=Tryz.func174.trans (congrArg some (by kernel_rfl))
 f10:=⟨Tryz.f223.name,by decide,Tryz.func223.trans (congrArg some (by kernel_rfl))⟩
 f11:=⟨Tryz.f224.name,by decide,Tryz.func224.trans (congrArg some (by kernel_rfl))⟩
 f12:=⟨Tryz.f225.name,by decide,Tryz.func225.trans (congrArg some (by kernel_rfl))⟩
 f13:=⟨Tryz.f226.name,by decide,Tryz.func226.trans (congrArg some (by kernel_rfl))⟩
 f14:=⟨Tryz.f227.name,by decide,Tryz.func227.trans (congrArg some (by kernel_rfl))⟩
 f15:=⟨Tryz.f228.name,by decide,Tryz.func228.trans (congrArg some (by kernel_rfl))⟩
 f16:=⟨Tryz.f229.name,by decide,Tryz.func229.trans (congrArg some (by kernel_rfl))⟩
 f17:=⟨Tryz.f230.name,by decide,Tryz.func230.trans (congrArg some (by kernel_rfl))⟩
 f18:=⟨Tryz.f231.name,by decide,Tryz.func231.trans (congrArg some (by kernel_rfl))⟩
 f19:=Tryz.func232.trans (congrArg some (by kernel_rfl))
 f20:=Tryz.func233.trans (congrArg some (by kernel_rfl))
 f30:=⟨Tryz.f273.name,by decide,Tryz.func273.trans (congrArg some (by kernel_rfl))⟩
 f31:=Tryz.func274.trans (congrArg some (by kernel_rfl))
 f32:=Tryz.func275.trans (congrArg some (by kernel_rfl))
 f33:=⟨Tryz.f276.name,by decide,Tryz.func276.trans (congrArg some (by kernel_rfl))⟩
 f34:=⟨Tryz.f277.name,by decide,Tryz.func277.trans (congrArg some (by kernel_rfl))⟩
 f35:=⟨Tryz.f278.name,by decide,Tryz.func278.trans (congrArg some (by kernel_rfl))⟩
 f40:=⟨Tryz.f300.name,by decide,Tryz.func300.trans (congrArg some (by kernel_rfl))⟩
 t0:=Tryz.underlying0
 a0:=Tryz.isAgg0
 z0:=Tryz.sizeOf0
 v0:=Tryz.zeroValue0
 t3:=Tryz.underlying3
 a3:=Tryz.isAgg3
 z3:=Tryz.sizeOf3
 v3:=Tryz.zeroValue3
 t4:=Tryz.underlying4
 a4:=Tryz.isAgg4
 z4:=Tryz.sizeOf4
 v4:=Tryz.zeroValue4
 t5:=Tryz.underlying5
 a5:=Tryz.isAgg5
 z5:=Tryz.sizeOf5
 v5:=Tryz.zeroValue5
 t9:=Tryz.underlying9
 a9:=Tryz.isAgg9
 z9:=Tryz.sizeOf9
 v9:=Tryz.zeroValue9
 t22:=Tryz.underlying171
 a22:=Tryz.isAgg171
 z22:=Tryz.sizeOf171
 v22:=Tryz.zeroValue171
 t23:=Tryz.underlying171
 a23:=Tryz.isAgg171
 z23:=Tryz.sizeOf171
 v23:=Tryz.zeroValue171
 t25:=Tryz.underlying3
 a25:=Tryz.isAgg3
 z25:=Tryz.sizeOf3
 v25:=Tryz.zeroValue3
 t32:=Tryz.underlying234
 a32:=Tryz.isAgg234
 z32:=Tryz.sizeOf234
 v32:=Tryz.zeroValue234
 t35:=Tryz.underlying272
 a35:=Tryz.isAgg272
 z35:=Tryz.sizeOf272
 v35:=Tryz.zeroValue272
 t36:=Tryz.underlying273
 a36:=Tryz.isAgg273
 z36:=Tryz.sizeOf273
 v36:=Tryz.zeroValue273
 t41:=Tryz.underlying277
 a41:=Tryz.isAgg277
 z41:=Tryz.sizeOf277
 v41:=Tryz.zeroValue277
 t44:=Tryz.underlying237
 a44:=Tryz.isAgg237
 z44:=Tryz.sizeOf237
 v44:=Tryz.zeroValue237
 t46:=Tryz.underlying178
 a46:=Tryz.isAgg178
 z46:=Tryz.sizeOf178
 v46:=Tryz.zeroValue178
 t53:=Tryz.underlying299
 a53:=Tryz.isAgg299
 z53:=Tryz.sizeOf299
 v53:=Tryz.zeroValue299
 t57:=Tryz.underlying303
 a57:=Tryz.isAgg303
 z57:=Tryz.sizeOf303
 v57:=Tryz.zeroValue303
 t63:=Tryz.underlying309
 a63:=Tryz.isAgg309
 z63:=Tryz.sizeOf309
 v63:=Tryz.zeroValue309
 t64:=Tryz.underlying310
 a64:=Tryz.isAgg310
 z64:=Tryz.sizeOf310
 v64:=Tryz.zeroValue310}
def Tryz.cmpI_ren:Go.Shelf.Ren:=⟨fun | 20=>111 | n=>n,fun | 22=>171 | 3=>3 | 4=>4 | 0=>0 | n=>n,fun | n=>n⟩
theorem Tryz.cmpI:Go.Proofs.Lays2.n20 Tryz.prog Tryz.cmpI_ren:= {
 mixed:=by kernel_rfl
 f20:=Tryz.func111.trans (congrArg some (by kernel_rfl))
 t0:=Tryz.underlying0
 a0:=Tryz.isAgg0
 z0:=Tryz.sizeOf0
 v0:=Tryz.zeroValue0
 t3:=Tryz.underlying3
 a3:=Tryz.isAgg3
 z3:=Tryz.sizeOf3
 v3:=Tryz.zeroValue3
 t4:=Tryz.underlying4
 a4:=Tryz.isAgg4
 z4:=Tryz.sizeOf4
 v4:=Tryz.zeroValue4
 t22:=Tryz.underlying171
 a22:=Tryz.isAgg171
 z22:=Tryz.sizeOf171
 v22:=Tryz.zeroValue171
 i3:=by kernel_rfl}
abbrev iF (w:World) (b:Nat) (v:Value) (xs:List Int):Prop:=w.ownsRow b 3 1 v xs.length (xs.map (Value.int .i64))
theorem vH {w:World} {g q:Nat} (d:Array Int):w.grownBy (putRow (Value.int .i64) (Sort.ahead w q) g 0 d) (some g):=by
 refine⟨rfl,rfl,rfl,by simp[putRow,mapBlock,Sort.ahead],fun k hk hne=> ?_⟩;have:g≠k:=fun e=>hne (by rw[e])
 simp[putRow,mapBlock,Sort.ahead,Array.getElem?_modify,this]
abbrev srt (xs:List Int):List Int:=xs.mergeSort fun x y=>decide (x≤y)
theorem q_SortI {w:World} {b:Nat} {v:Value} {xs:List Int} (h:iF w b v xs) (hv:v≠ .slice none 0 0) (hl:xs.length≤100000):
  Calls Tryz.prog 109 #[v] w fun e w'=>e= .returned (.tuple #[])∧iF w' b v (srt xs)∧w.grownBy w' v.ownBlock:=by
 obtain⟨g,cap,rfl,hb,hg,hn,hm,_,hH⟩:=Lib.holds_of_ownsRow h hv;refine(AnyM.slices_Sort_int Tryz.sortI g 0 cap xs w hH hg (by omega)).mono ?_;rintro e w' ⟨rfl,n,os,rfl⟩;refine⟨rfl,?_,grownBy_sortedI _⟩;rcases h.2 with⟨h0,_⟩ | ⟨g',cap',cur,e1,h1,h2,h3,h4,h5,h6⟩
 ·cases h0
 ·injection e1 with e1 _ e3;injection e1 with e1;injection e1 with e1;subst e1;subst e3;have hl2:(srt xs).length=xs.length:=List.length_mergeSort xs;have:=ownsRow_sortedI (n:=n) (os:=os) (ts:=srt xs) hl2 h1 h2 h3 h4 h5;unfold iF;rw[hl2];exact this
theorem xW {w:World} {b:Nat} {v:Value} {xs:List Int} (h:iF w b v xs) (hv:v≠ .slice none 0 0) (hl:xs.length≤100000):
  Calls Tryz.prog 111 #[v] w fun e w'=>∃v',e= .returned v'∧iF w' b v' (Lib.compact xs)∧v'.ownBlock=v.ownBlock∧v'≠ .slice none 0 0∧w.grownBy w' v.ownBlock:=by
 obtain⟨g,cap,rfl,hb,hg,hn,hm,_,hH⟩:=Lib.holds_of_ownsRow h hv;refine(Any.slices_Compact_int Tryz.cmpI g 0 cap xs w hH (by omega) hn).mono ?_;rintro e w' ⟨rfl,q,rfl⟩;have hle:=Lib.compact_length_le xs;refine⟨_,rfl,?_,rfl,(fun e=>by cases e),vH _⟩;have hc:=Lib.ownsRow_putRow (q:=q) (k:=(Lib.compact xs).length) (ys:=Lib.compact xs++List.replicate (xs.length - (Lib.compact xs).length) 0) h (by simp;omega) hle;rw[List.take_left]at hc;exact hc
theorem jW (xs:List Int):(Lib.compact xs).Sublist xs:=by
 unfold Lib.compact Lib.compactUpTo;have h:=(List.filter_sublist (p:=Lib.keeps xs.toArray) (l:=List.range xs.length)).map (xs.toArray[·]!);have e:=Lib.range_map_get xs.toArray;simp only[List.size_toArray]at e;rw[e]at h;simpa using h
theorem vI (xs:List Int) (x:Int):x∈Lib.compact xs↔x∈xs:=by
 refine⟨fun h=>(jW xs).mem h,fun h=> ?_⟩;obtain⟨j,hj,rfl⟩:=List.getElem_of_mem h;have key:∀j,j<xs.length→xs.toArray[j]! ∈Lib.compact xs:=by
  intro j
  induction j with
  | zero=>
   intro hj;exact List.mem_map.2 ⟨0,List.mem_filter.2 ⟨List.mem_range.2 hj,by simp[Lib.keeps]⟩,rfl⟩
  | succ j ih=>
   intro hj;by_cases hk:Lib.keeps xs.toArray (j+1)=true
   ·exact List.mem_map.2 ⟨j+1,List.mem_filter.2 ⟨List.mem_range.2 hj,hk⟩,rfl⟩
   ·have e:xs.toArray[j+1]! =xs.toArray[j]! :=by
     unfold Lib.keeps at hk;simp only[decide_eq_true_eq,not_or,ne_eq,Decidable.not_not]at hk;simpa using hk.2
    rw[e];exact ih (by omega)
 have:=key j hj;simpa [getElem!_pos,hj]using this
theorem cs_asc (xs:List Int):(Lib.compact (srt xs)).Pairwise (· ≤ ·):=by
 have h:=List.pairwise_mergeSort (le:=fun(x y:Int)=>decide (x≤y)) (fun a b c h k=>by simp at *;omega) (fun a b=>by simp;omega) xs;exact((h.imp (fun h=>by simpa using h)).sublist (jW _))
theorem cs_mem (xs:List Int) (x:Int):x∈Lib.compact (srt xs)↔x∈xs:=by rw[vI,List.mem_mergeSort]
theorem cs_len (xs:List Int):(Lib.compact (srt xs)).length≤xs.length:=by
 have:=(jW (srt xs)).length_le;rwa [List.length_mergeSort]at this
theorem xX (w:World) (a:Option Addr) (n c:Nat):Calls Tryz.prog 110 #[.slice a n c] w fun e w'=>e= .returned (.func (.func 175) #[] #[.pointer (some ⟨w.heap.size,0,none⟩)])∧w'=w.alloc (.cells #[.slice a n c] 171):=by
 go_enter Tryz.func110,Tryz.ntmps110
 go_wp2;go_ret;exact⟨rfl,rfl⟩
theorem range_rev (k:Nat):(List.range (k+1)).reverse=k::(List.range k).reverse:=by rw[List.range_succ,List.reverse_append];rfl
set_option maxHeartbeats 1000000 in
theorem bw_stops (n:Nat) (hn:1≤n) {zs:List Int} {cap g:Nat} {w:World} {O B1:Nat} (hB1:B1<w.heap.size∧B1≠O) (hg:g<w.heap.size∧g≠O) (hl:zs.length≤1000000)
  (c1:w.cell? ⟨B1,0,none⟩=some (.slice (some ⟨g,0,none⟩) zs.length cap)) (hc:∀(k:Nat) (z:Int),zs[k]? =some z→w.cell? ⟨g,k,none⟩=some (.int .i64 z)):
  SeqStopsK Fence.wide n Tryz.prog 175 #[.pointer (some ⟨B1,0,none⟩)] (fun k:Nat=> #[Value.int .i64 (k:Int),Value.int .i64 (zs.getD k 0)]) (Kb w.heap.size O) (fun ys=>ys=(List.range zs.length).reverse) (fun pre=>pre <+:(List.range zs.length).reverse) zs.length w:=fun l J Jx W hW hJ hJx hY h0=>by
 have hk0:Kb w.heap.size O w W:=Kb.below hW;have c1':W.cell? ⟨B1,0,none⟩=some (.slice (some ⟨g,0,none⟩) zs.length cap):=by rw[hk0.cell hB1.1 hB1.2];exact c1
 have HC1:=Lib.hid (show∀wq,Kb w.heap.size O w wq→wq.cell? ⟨B1,0,none⟩=some (.slice (some ⟨g,0,none⟩) zs.length cap)from fun wq k=>by rw[k.cell hB1.1 hB1.2];exact c1);have HC:=Lib.hid (show∀wq,Kb w.heap.size O w wq→∀(k:Nat),k<zs.length→wq.cell? ⟨g,k,none⟩=some (.int .i64 (zs.getD k 0))from fun wq k i hi=>by
  rw[k.cell hg.1 hg.2];exact hc i _ (by rw[List.getD_eq_getElem?_getD,List.getElem?_eq_getElem hi];rfl))
 have HK0:=Lib.hid hk0;have H0:=Lib.hid h0;have HY:=Lib.hid hY;obtain⟨N,hN⟩:∃N,N=zs.length:=⟨_,rfl⟩;rw[←hN]at HC1 HC HY hl c1'⊢;have hl':(N:Int)≤1000000:=by omega
 have hm1:IntKind.i64.wrap ((N:Int) - 1)=(N:Int) - 1:=by rw[IntKind.wrap_i64];omega
 clear hB1 hg c1 hc hk0 hW h0 hJ hJx hY hN;refine callsIn_of_wp Tryz.func175 rfl trivial ?_ rfl;simp only[Tryz.ntmps175,List.size_toArray,List.length_cons,List.length_nil,Nat.reduceAdd,Nat.reduceSub,Array.replicate_succ,Array.replicate_zero,List.push_toArray,List.append_toArray,List.nil_append,List.cons_append]
 gi_wp2
 gi_loopg [3] N (fun k s3 wr=>∃(pre:List Nat) (j:Int),s3= .int .i64 j∧Hid (j=(k:Int) - 1∧k≤N)∧Hid ((List.range N).reverse=pre++(List.range k).reverse)∧Hid (Kb w.heap.size O w wr)∧Hid (J pre wr))
 case atStart=>exact⟨[],_,rfl,Lib.hid ⟨rfl,Nat.le_refl _⟩,Lib.hid rfl,HK0,H0⟩
 case round=>
  obtain⟨pre,j,rfl,hjk,hys,hkb,hj⟩:=hrel;rcases Nat.eq_zero_or_pos gk with h0 | hpos
  ·subst h0;obtain rfl:j= -1:=by have:=hjk.out.1;omega
   have hq:=Lib.hid (show(∃v,Ending.returned (.tuple #[])= .returned v)∧((∃zs,zs=(List.range N).reverse∧J zs wr)∨(∃pre,pre <+:(List.range N).reverse∧Jx pre wr))from⟨⟨_,rfl⟩,.inl ⟨pre,by rw[hys.out];simp,hj.out⟩⟩)
   gi_wp2
   go_end0
   exact⟨⟨_,rfl⟩,hq.out.2⟩
  ·obtain⟨i,rfl⟩:∃i,gk=i+1:=⟨gk - 1,by omega⟩;obtain rfl:j=(i:Int):=by have:=hjk.out.1;omega
   have hiN:i<N:=by have:=hjk.out.2;omega
   have hlt:pre.length<N:=by
    have:=congrArg List.length hys.out;simp at this;omega
   have c1:=HC1.out wr hkb.out;have c2:=HC.out wr hkb.out i hiN;have hi0:(0:Int)≤(i:Int):=by omega
   have hi1:(i:Int)<(N:Int):=by omega
   have hw1:IntKind.i64.wrap ((i:Int) - 1)=(i:Int) - 1:=by rw[IntKind.wrap_i64];omega
   obtain⟨fn,tmps,assign,body,hy,hR⟩:=HY.out pre i wr hj.out hlt;have HYS:=Lib.hid (show(List.range N).reverse=(pre++ [i])++(List.range i).reverse by rw[hys.out,range_rev];simp);have HI:=Lib.hid hiN;obtain⟨z,hz⟩:∃z,zs.getD i 0=z:=⟨_,rfl⟩;rw[hz]at hy c2;clear hys hjk hpos hlt hiN hj hz
   gi_wp2
   refine hR.mono ?_;rintro e W3 (⟨rfl,hJ3,hk3⟩ | ⟨rfl,hJx3⟩)
   ·have HKB3:=Lib.hid (hkb.out.trans hk3);have HJ3:=Lib.hid hJ3;clear hy hR hk3 hkb hJ3
    gi_wp2
    go_roundg i
    case measure=>omega
    case rel=>exact⟨pre++ [i],_,rfl,Lib.hid ⟨rfl,by have:=HI.out;omega⟩,HYS,HKB3,HJ3⟩
   ·have HQ:=Lib.hid (show∃pre,pre <+:(List.range N).reverse∧Jx pre W3 from⟨pre++ [i],⟨_,HYS.out.symm⟩,hJx3⟩);clear hy hR
    gi_wp2
    first
    | refine bodyPost_ret (results_none rfl _ _ _) rfl ?_
    | go_end0
    exact⟨⟨_,rfl⟩,.inr HQ.out⟩
end
end Go.Proofs.YtggfmklppkioeaaGreat
