/- The ancestors below one of them; where two ways meet. Where the ways of two frames meet. The transform up a way. The transform between two frames. Package lookup: Common, Can, Across. Package lookup: Move. slices.Reverse at texts. How large composed transforms become: integer quaternions. All transforms that package lookup meets are small. Trees of frames: what a step does is determined. slices.Sort and slices.Compact at integers. -/
import Derived.Test.YtggfmklppkioeaaGreatP17
import Derived.Deep.RegionHeld3
import Derived.Shelf.SortM.Plain
import Derived.Shelf.Slices.CompactI
import Derived.Ground.SlgmProg
import Derived.Ground.Names2Prog
import Derived.Sort.OwnSortedInts
import Derived.Lib.OwnBridge
namespace Go.Proofs.YtggfmklppkioeaaGreat
set_option linter.unusedSimpArgs false
set_option linter.unusedVariables false
set_option maxRecDepth 100000
open Go.RowKit
section
open Go.RowKit Go.Shelf
open Classical
attribute [local go_sem] Oper.semAt_some
theorem xD {W w1:World} {n₀ B:Nat} {t e:TypeId} {size:Nat} {v v':Value} {k m:Nat} {xs ys:List Value} {tmp:Obj}
  (hv:Boxed W B t v) (hte:t≠e) (hrow:W.ownsRow n₀ e size v k xs) (hn₀:n₀≤W.heap.size)
  (hown':w1.ownsRow n₀ e size v' m ys) (hgrow:(W.alloc tmp).grownBy w1 v.ownBlock):
  Boxed w1 B t v∧Boxed (w1.setCell ⟨B,0,none⟩ v') B t v'∧(w1.setCell ⟨B,0,none⟩ v').ownsRow n₀ e size v' m ys∧KeepsOthers W (w1.setCell ⟨B,0,none⟩ v')∧Kb n₀ B W (w1.setCell ⟨B,0,none⟩ v'):=by
 have hv1:Boxed w1 B t v:=(hv.alloc tmp).kept hgrow (hv.not_row hte hrow);refine⟨hv1,hv1.set v',hown'.kept (grownBy_setCell' w1 B v') (.inr (hv1.not_row hte hown').symm),?_,?_⟩
 ·refine((KeepsOthers.alloc W tmp).trans (KeepsOthers.of_grownBy hgrow fun j o ej hj=> ?_)).trans (KeepsOthers.setCell _ _ _);rcases(hrow.alloc tmp).2 with⟨rfl,_⟩ | ⟨g,cap,cur,rfl,_,hgb,_⟩
  ·simp[Value.ownBlock]at ej
  ·obtain rfl:g=j:=by simpa [Value.ownBlock]using ej
   rw[hgb]at hj;cases hj;rfl
 ·have h1:Kb n₀ B W (W.alloc tmp):=Kb.below ((Below.refl n₀ W).alloc hn₀ tmp);have hs1:n₀≤(W.alloc tmp).heap.size:=Nat.le_trans hn₀ h1.size;have h2:Kb n₀ B W w1:=h1.grown hgrow hs1 (fun j ej=>by
   rcases hrow.2 with⟨rfl,_⟩ | ⟨g,cap,cur,rfl,hb,_,_⟩
   ·simp[Value.ownBlock]at ej
   ·obtain rfl:g=j:=by simpa [Value.ownBlock]using ej
    exact .inl hb)
  exact h2.grown (grownBy_setCell' w1 B v') (Nat.le_trans hn₀ h2.size) (fun j ej=>by cases ej;exact .inr rfl)
noncomputable def dh (l:List Nm) (top:Nm):List Nm:=l.takeWhile fun z=>decide (z≠top)
theorem belL_all {l:List Nm} {top:Nm} (h:∀z∈l,z≠top):dh l top=l:=by
 unfold dh;have:=List.takeWhile_append_of_pos (p:=fun z=>decide (z≠top)) (l₁:=l) (l₂:=[]) (fun z hz=>by simpa using h z hz);simpa using this
theorem belL_pre {p l:List Nm} {top:Nm} (h:∀z∈p,z≠top) (hp:p++ [top] <+:l):dh l top=p:=by
 obtain⟨t,rfl⟩:=hp;unfold dh;rw[List.append_assoc,List.takeWhile_append_of_pos (fun z hz=>by simpa using h z hz)];simp
theorem yL {w WA W:World} {D:Nat} {o o':Obj} (hb:Below w.heap.size w WA) (hK:Kb WA.heap.size (w.heap.size+1) WA W) (_:w.heap.size+1<WA.heap.size) (hD:WA.heap.size≤D) (hD2:W.heap[D]? =some o):Below w.heap.size w (W.putObj D o'):=by
 have h1:Below w.heap.size w W:=⟨hK.os.trans hb.os,hK.tape.trans hb.tape,hK.output.trans hb.output,Nat.le_trans hb.size hK.size,fun k hk=>(hK.block k (by omega) (by omega)).trans (hb.block k hk)⟩;exact h1.grown (grownBy_putObj' W D o') (Nat.le_trans hb.size hK.size) (fun k e=>by cases e;have:=hb.size;omega)
set_option maxRecDepth 100000 in
set_option maxHeartbeats 2000000 in
theorem q_below {w:World} {t m:Nat} {E:List Ch} {x top:Nm} {a:Int} {lx:List Nm} (hT:TM w t m E) (hx:Anc (trE E) a x lx) (h1:lx.length≤1000):
  Calls Tryz.prog 106 #[ptB t,.string x,.string top,.int .i64 a] w fun e w'=>∃v,e= .returned v∧dg w' w.heap.size v (dh lx top)∧Below w.heap.size w w':=by
 refine(callsIn_wide (n:=3)).1 ?_;have h3:(1:Nat)≤3:=by decide
 have hmx:(1000:Nat)≤maxLen:=by unfold maxLen;omega
 obtain⟨i0,hi,hz0,hz1,hz2⟩:=info_parts (show(Tryz.prog.info? 9).map (fun i=>(i.zero,i.size,i.bytes))=some (some (.string ByteArray.empty),1,16)by kernel_rfl);have b6:=Boxed.new w 9 (.string top);have b9:=Boxed.new (w.alloc (.cells #[.string top] 9)) 68 (.slice none 0 0);have hb2:Below w.heap.size w ((w.alloc (.cells #[.string top] 9)).alloc (.cells #[.slice none 0 0] 68)):=((Below.refl _ w).alloc (Nat.le_refl _) _).alloc (by simp) _;rw[World.size_alloc]at b9;have b6:=b6.alloc (.cells #[.slice none 0 0] 68);have hs2:((w.alloc (.cells #[.string top] 9)).alloc (.cells #[.slice none 0 0] 68)).heap.size=w.heap.size+2:=by simp
 obtain⟨W2,hW2⟩:∃W2,(w.alloc (.cells #[.string top] 9)).alloc (.cells #[.slice none 0 0] 68)=W2:=⟨_,rfl⟩;rw[hW2]at b6 b9 hb2 hs2;have hn9:w.heap.size+1∉fpT t m E:=fun hm=>by have:=hT.lt _ hm;omega
 have hX9:bC W2 (w.heap.size+1):=.mk' (show W2.heap[w.heap.size+1]? =some (.cells #[.slice none 0 0] 68 (0,0))from b9) (fun k n hk=>by cases k<;>simp at hk);have han:=xA W2 t x a;have hseq:=td (hT.below hb2) hn9 hX9 hx 2 _ (by decide) (Below.refl _ _);have hsA:=jr W2 t x a;have hbA:=gU W2 t x a;obtain⟨WA,hWA⟩:∃WA,jC W2 t x a=WA:=⟨_,rfl⟩;rw[hWA]at hseq hsA hbA;have HSA:=Lib.hid hsA;have HS2:=Lib.hid hs2;have H6:=Lib.hid (show Boxed WA w.heap.size 9 (.string top)from(hbA.block _ (by omega)).trans b6);have H9:=Lib.hid (show Boxed WA (w.heap.size+1) 68 (.slice none 0 0)from(hbA.block _ (by omega)).trans b9);have HB:=Lib.hid (hb2.trans (hbA.mono hb2.size));have HSEQ:=Lib.hid hseq;clear hT hx b6 b9 hb2 hs2 hn9 hX9 hseq hsA hbA;refine callsIn_of_wp_marks Tryz.func106 rfl trivial ?_ rfl;simp only[Tryz.ntmps106,List.size_toArray,List.length_cons,List.length_nil,Nat.reduceAdd,Nat.reduceSub,Array.replicate_succ,Array.replicate_zero,List.push_toArray,List.append_toArray,List.nil_append,List.cons_append]
 gi_wp2_with (refine⟨trivial,?_⟩;gi_at_call 171;refine(callsIn_wide.2 han).mono ?_;clear han;rintro e w' ⟨B,rfl,rfl,rfl⟩)
 have hs2:=HS2.out;have hsA:=HSA.out;have hlA:=HB.out.size;have hl6:w.heap.size+1<WA.heap.size:=by omega
 clear hW2 hWA hs2 hsA;refine wpIn_rangeFunc_ownG (F:=Fence.wide) (n:=3) rfl h3 (gf:=221) (lb:=ancB W2.heap.size) rfl trivial xC
  HSEQ.out (fun {_ _ _} h k=>h.trans k) (kb_b (Nat.le_refl _)) (Below.refl _ _) (fun _=>rfl)
  (fun pre W=>((∃v,Boxed W (w.heap.size+1) 68 v∧W.ownsRow WA.heap.size 9 1 v pre.length (pre.map Value.string)∧True)∧(∀z∈pre,z≠top))∧Kb WA.heap.size (w.heap.size+1) WA W)
  (fun c pre W=>((∃v,Boxed W (w.heap.size+1) 68 v∧W.ownsRow WA.heap.size 9 1 v pre.dropLast.length (pre.dropLast.map Value.string)∧True)∧(c= .exit 0∧∃pre0,pre=pre0++ [top]∧∀z∈pre0,z≠top))∧Kb WA.heap.size (w.heap.size+1) WA W)
  (OwnFrom.and (OwnFrom.and (Own.from (holdsRow_own WA.heap.size (w.heap.size+1) 68 9 1 (fun pre:List Nm=>pre.length) (fun pre=>pre.map Value.string) (fun _ _=>True)) _) (ownFrom_pure _ _)) (kb_own _ _ _ (Nat.le_refl _)))
  (fun c=>OwnFrom.and (OwnFrom.and (Own.from (holdsRow_own WA.heap.size (w.heap.size+1) 68 9 1 (fun pre:List Nm=>pre.dropLast.length) (fun pre=>pre.dropLast.map Value.string) (fun _ _=>True)) _) (ownFrom_pure _ _)) (kb_own _ _ _ (Nat.le_refl _)))
  ⟨⟨⟨_,H9.out,World.ownsRow_nil _ _ _ _,trivial⟩,fun _ h=>(by cases h)⟩,Kb.refl _ _ _⟩
  (fun z=> {tmps:=#[ptB t,.string x,.string top,.int .i64 a,undef,undef,.pointer (some ⟨w.heap.size,0,none⟩),undef,.slice none 0 0,.pointer (some ⟨w.heap.size+1,0,none⟩),.string z,ptB t,.string x,.int .i64 a,.func (.func 221) #[] (ancB W2.heap.size),.string z,undef,undef,undef,undef,undef,undef,undef,undef],defers:=[]}) ?assign ?body ?done ?stop
 case assign=>
  intro l z W K hK
  gi_wp2
  exact hK
 case body=>
  rintro l pre z W ⟨⟨⟨v,hv,hrow,_⟩,hpre⟩,hK⟩ hlt;have hc:=hv.cell;have c6:W.cell? ⟨w.heap.size,0,none⟩=some (.string top):=by rw[hK.cell (by omega) (by omega)];exact H6.out.cell
  have HP:=Lib.hid hpre;have HV:=Lib.hid hv;have HR:=Lib.hid hrow;have HK:=Lib.hid hK;have hsW:=hK.size;clear hpre hK;by_cases e:z=top
  ·subst e;clear hv hrow
   gi_wp2
   refine⟨KeepsFrom.refl _ _,⟨⟨⟨v,HV.out,by rw[List.dropLast_concat];exact HR.out,trivial⟩,rfl,pre,rfl,HP.out⟩,HK.out⟩⟩
  ·have hne:=yE e;have HE:=Lib.hid e;clear e
   gi_wp2_with (gi_at_builtin;refine wpListIn_append_own _ rfl _ _ 68 rfl WA.heap.size 9 i0 (.string ByteArray.empty) 1 16 Tryz.underlying68 hi hz0 hz1 hz2 rfl (by decide) _ _ _ rfl (hrow.alloc _) ⟨W.heap.size,0,none⟩ 1 1 [.string z] rfl rfl (cell_one_new _ _ _) (by simp[Value.oneCell']) (by omega) (by omega) (by simp;omega) ?_;intro v' w1 hown' hgrow _;obtain⟨g',cap',rfl⟩:=ownsRow_succ hown';obtain⟨hv1,hv2,hr2,hk2,hb2⟩:=xD hv (by decide) hrow hsW hown' hgrow;have hc1:=hv1.cell;have hf1:=hv1.frozen)
   refine⟨hk2.from _,hb2,⟨⟨_,hv2,by simpa using hr2,trivial⟩,fun u hu=> ?_⟩,HK.out.trans hb2⟩;rcases List.mem_append.1 hu with h | h
   ·exact HP.out u h
   ·simp only[List.mem_singleton]at h;subst h;exact HE.out
 case done=>
  rintro D zs W hD rfl ⟨⟨⟨v,hv,hrow,_⟩,hpre⟩,hK⟩ hD2;have hc:=hv.cell;have HQ:=Lib.hid (show(W.putObj D (.deferred none)).ownsRow w.heap.size 9 1 v (dh zs top).length ((dh zs top).map Value.string)∧Below w.heap.size w (W.putObj D (.deferred none))from by
   rw[belL_all hpre];exact⟨ownsRow_base_a (ownsRow_putObj hrow _ hD2 rfl) hlA,yL HB.out hK hl6 hD hD2⟩)
  clear hv hrow hpre hK
  gi_wp2
  refine⟨by simp,.inl ⟨_,_,rfl,run_takeDeferred hD2,?_⟩⟩;exact⟨_,results_tmp rfl _ _ _,v,rfl,HQ.out.1,HQ.out.2⟩
 case stop=>
  rintro D c pre W hD hpx ⟨⟨⟨v,hv,hrow,_⟩,rfl,pre0,hp0,hno⟩,hK⟩ hD2;have hc:=hv.cell;have HQ:=Lib.hid (show(W.putObj D (.deferred none)).ownsRow w.heap.size 9 1 v (dh lx top).length ((dh lx top).map Value.string)∧Below w.heap.size w (W.putObj D (.deferred none))from by
   subst hp0;rw[belL_pre hno hpx];rw[List.dropLast_concat]at hrow;exact⟨ownsRow_base_a (ownsRow_putObj hrow _ hD2 rfl) hlA,yL HB.out hK hl6 hD hD2⟩)
  clear hv hrow hpx hK hp0 hno
  gi_wp2
  refine⟨by simp,.inl ⟨_,_,rfl,run_takeDeferred hD2,?_⟩⟩;exact⟨_,results_tmp rfl _ _ _,v,rfl,HQ.out.1,HQ.out.2⟩
end
section
open Classical
noncomputable def eF (R:Tr) (a:Int) (x:Nm):List Nm:=if h:∃l,Anc R a x l then h.choose else []
theorem jt {R:Tr} (hR:TOk R) (a:Int) (x:Nm):Anc R a x (eF R a x):=by
 have h:=Anc.of (hR.acy a x);unfold eF;rw[dif_pos h];exact h.choose_spec
theorem te {R:Tr} {a:Int} {x:Nm} {l:List Nm} (h:Anc R a x l):eF R a x=l:=by
 unfold eF;have h2:∃l,Anc R a x l:=⟨l,h⟩;rw[dif_pos h2];exact h2.choose_spec.uniq h
theorem i4 {R:Tr} (hR:Sane R) {a:Int} {x:Nm} (hx:a8 R x):(eF R a x).length≤24:=(jt hR.ok a x).short hR hx
noncomputable def bx (R:Tr) (a:Int) (x y:Nm):Nm×Int:=
 if a8 R x∧a8 R y then(match pI (eF R a x) (eF R a y)with | some z=>(z,0) | none=>(ByteArray.empty,18))else(ByteArray.empty,6)
theorem q_meet {w:World} {t m:Nat} {E:List Ch} (hT:TM w t m E) (hE:Sane (trE E)) (x y:Nm) (a:Int):
  Calls Tryz.prog 71 #[ptB t,.string x,.string y,.int .i64 a] w fun e w'=>e= .returned (.tuple #[.string (bx (trE E) a x y).1,.int .i64 (bx (trE E) a x y).2])∧Below w.heap.size w w':=by
 have hk1:=vd hT hE y;have HK2:=Lib.hid (show∀wq,Below w.heap.size w wq→Calls Tryz.prog 108 #[ptB t,.string x] wq fun e w'=>e= .returned (.bool (decide (a8 (trE E) x)))∧Below w.heap.size w w' from fun wq hb=>(vd (hT.below hb) hE x).mono (by
  rintro e w' ⟨rfl,k⟩;exact⟨rfl,hb.trans (k.mono hb.size)⟩))
 by_cases ky:a8 (trE E) y
 ·rw[decide_eq_true ky]at hk1;by_cases kx:a8 (trE E) x
  ·have HM:=Lib.hid (show bx (trE E) a x y=(match pI (eF (trE E) a x) (eF (trE E) a y)with | some z=>(z,0) | none=>(ByteArray.empty,18))by unfold bx;rw[if_pos ⟨kx,ky⟩]);have HC:=Lib.hid (show∀wq,Below w.heap.size w wq→Calls Tryz.prog 129 #[ptB t,.string x,.string y,.int .i64 a] wq fun e w'=>e= .returned (.tuple #[.string ((pI (eF (trE E) a x) (eF (trE E) a y)).getD ByteArray.empty),.bool (pI (eF (trE E) a x) (eF (trE E) a y)).isSome])∧Below w.heap.size w w' from fun wq hb=>by
    have l1:=i4 hE (a:=a) kx;have l2:=i4 hE (a:=a) ky;exact(q_common (hT.below hb) (jt hE.ok a x) (jt hE.ok a y) (by omega) (by omega)).mono (by
     rintro e w' ⟨rfl,k⟩;exact⟨rfl,hb.trans (k.mono hb.size)⟩))
   rw[decide_eq_true kx]at HK2;obtain⟨M,hM⟩:∃M,bx (trE E) a x y=M:=⟨_,rfl⟩;rw[hM]at HM⊢
   cases hc:pI (eF (trE E) a x) (eF (trE E) a y)with
   | none=>
    rw[hc]at HC HM;have HM2:=Lib.hid (show M=(ByteArray.empty,18)from HM.out);clear hT hE ky kx hM hc HM;go_enter Tryz.func71,Tryz.ntmps71
    go_wp2_with (first
     | (go_at_call 108;refine hk1.mono ?_;clear hk1;rintro e w1 ⟨rfl,hb⟩;have HB1:=Lib.hid hb;have hk2:=HK2.out w1 hb;clear hb)
     | (go_at_call 108;refine hk2.mono ?_;clear hk2;rintro e w2 ⟨rfl,hb⟩;have hco:=HC.out w2 hb;clear hb)
     | (go_at_call 129;refine hco.mono ?_;clear hco;rintro e w3 ⟨rfl,hb⟩;have HB3:=Lib.hid hb;clear hb))
    go_ret2
    rw[HM2.out];exact⟨rfl,HB3.out⟩
   | some z=>
    rw[hc]at HC HM;have HM2:=Lib.hid (show M=(z,0)from HM.out);clear hT hE ky kx hM hc HM;go_enter Tryz.func71,Tryz.ntmps71
    go_wp2_with (first
     | (go_at_call 108;refine hk1.mono ?_;clear hk1;rintro e w1 ⟨rfl,hb⟩;have HB1:=Lib.hid hb;have hk2:=HK2.out w1 hb;clear hb)
     | (go_at_call 108;refine hk2.mono ?_;clear hk2;rintro e w2 ⟨rfl,hb⟩;have hco:=HC.out w2 hb;clear hb)
     | (go_at_call 129;refine hco.mono ?_;clear hco;rintro e w3 ⟨rfl,hb⟩;have HB3:=Lib.hid hb;clear hb))
    go_ret2
    rw[HM2.out];exact⟨rfl,HB3.out⟩
  ·have HM:=Lib.hid (show bx (trE E) a x y=(ByteArray.empty,6)by unfold bx;rw[if_neg (fun h=>kx h.1)]);rw[decide_eq_false kx]at HK2;obtain⟨M,hM⟩:∃M,bx (trE E) a x y=M:=⟨_,rfl⟩;rw[hM]at HM⊢;clear hT hE ky kx hM;go_enter Tryz.func71,Tryz.ntmps71
   go_wp2_with (first
    | (go_at_call 108;refine hk1.mono ?_;clear hk1;rintro e w1 ⟨rfl,hb⟩;have HB1:=Lib.hid hb;have hk2:=HK2.out w1 hb;clear hb)
    | (go_at_call 108;refine hk2.mono ?_;clear hk2;rintro e w2 ⟨rfl,hb⟩;have HB3:=Lib.hid hb;clear hb))
   go_ret2
   rw[HM.out];exact⟨rfl,HB3.out⟩
 ·have HM:=Lib.hid (show bx (trE E) a x y=(ByteArray.empty,6)by unfold bx;rw[if_neg (fun h=>ky h.2)]);rw[decide_eq_false ky]at hk1;obtain⟨M,hM⟩:∃M,bx (trE E) a x y=M:=⟨_,rfl⟩;rw[hM]at HM⊢;clear hT hE ky hM HK2;go_enter Tryz.func71,Tryz.ntmps71
  go_wp2_with (go_at_call 108;refine hk1.mono ?_;clear hk1;rintro e w1 ⟨rfl,hb⟩;have HB3:=Lib.hid hb;clear hb)
  go_ret2
  rw[HM.out];exact⟨rfl,HB3.out⟩
end
section
open Classical
noncomputable def gE (R:Tr) (a:Int):List Nm→Pq→Pq×Int
 | [],p=>(p,0)
 | f::l,p=>if (dR R f a).2=0 then gE R a l ((dR R f a).1.mul p)else(Pq.zero,(dR R f a).2)
def kn (R:Tr) (a:Int):List Nm→Pq→Prop
 | [],_=>True
 | f::l,p=>(dR R f a).2=0→(dR R f a).1.ok 100000∧(dR R f a).1.good∧p.ok 100000∧p.good∧kn R a l ((dR R f a).1.mul p)
theorem PB.kb {w0 Wb W:World} {B n O:Nat} {vs:List Value} (h:PB w0 Wb B vs) (k:Kb n O Wb W) (hB:B<n) (hO:B≠O) (hl:w0.heap.size≤n) (hw:w0.heap.size≤O):PB w0 W B vs:=
 ⟨by rw[k.block B hB hO];exact h.blk,h.len,⟨k.os.trans h.bel.os,k.tape.trans h.bel.tape,k.output.trans h.bel.output,Nat.le_trans h.bel.size k.size,fun i hi=>(k.block i (by omega) (by omega)).trans (h.bel.block i hi)⟩,h.ge,h.nu⟩
theorem Kb.put {n O:Nat} {A B:World} (h:Kb n O A B) (us:List Value):Kb n O A (B.setCells O 0 us):=by
 have u:=ck us B O 0;exact h.trans ⟨u.os,u.tape,u.output,Nat.le_of_eq u.size.symm,fun k _ hO=>u.block k hO⟩
theorem PB.lt {w0 W:World} {B:Nat} {vs:List Value} (h:PB w0 W B vs):B<W.heap.size:=(Array.getElem?_eq_some_iff.1 h.blk).1
theorem PB.oth {w0 W:World} {B B':Nat} {vs us:List Value} (h:PB w0 W B vs) (hne:B≠B') (hl:w0.heap.size≤B'):PB w0 (W.setCells B' 0 us) B vs:=
 ⟨by rw[(ck us W B' 0).block B hne];exact h.blk,h.len,aX us 0 W h.bel hl,h.ge,h.nu⟩
theorem PB.base {w0 w1 W:World} {B:Nat} {vs:List Value} (h:PB w1 W B vs) (k:Below w0.heap.size w0 w1):PB w0 W B vs:=⟨h.blk,h.len,k.trans (h.bel.mono k.size),Nat.le_trans k.size h.ge,h.nu⟩
theorem PB.ld {w0 W:World} {B:Nat} {vs:List Value} (h:PB w0 W B vs):W.rangeAt B 0 vs:=fun j v hv=>by rw[aA h.blk,Nat.zero_add];simpa using hv
set_option maxHeartbeats 2000000 in
theorem q_rise {w:World} {t m:Nat} {E:List Ch} {x top:Nm} {a:Int} {lx:List Nm} (hT:TM w t m E) (hE:TOk (trE E)) (hx:Anc (trE E) a x lx) (h1:lx.length≤1000) (hok:kn (trE E) a (dh lx top) Pq.id):
  Calls Tryz.prog 72 #[ptB t,.string x,.string top,.int .i64 a] w fun e w'=>∃v,e= .returned (.tuple #[v,.int .i64 (gE (trE E) a (dh lx top) Pq.id).2])∧bw w' v (gE (trE E) a (dh lx top) Pq.id).1∧Below w.heap.size w w':=by
 have hp0:=PB.new w;have HT:=Lib.hid hT;have HE:=Lib.hid hE;have HX:=Lib.hid hx;have HOK:=Lib.hid hok;have hll:(dh lx top).length≤1000:=Nat.le_trans ((List.takeWhile_sublist _).length_le) h1;have HP0:=Lib.hid hp0;obtain⟨W,hW⟩:∃W,w.alloc (.cells aD.toArray 39)=W:=⟨_,rfl⟩;rw[hW]at HP0;have hid:=wE W;obtain⟨Rz,hRz⟩:∃r,r=gE (trE E) a (dh lx top) Pq.id:=⟨_,rfl⟩;have HRZ:=Lib.hid hRz;rw[←hRz];clear hT hE hx hok hp0 hRz;go_enter Tryz.func72,Tryz.ntmps72
 go_upto_region 0 with(fail)
 refine wp_region_list ?_;refine aj rfl (v:=.pointer (some ⟨w.heap.size,0,none⟩)) (w':=W) (by subst hW;go_simp;try rfl) ?_;obtain⟨B8,hB8⟩:∃B,w.heap.size=B:=⟨_,rfl⟩;rw[hB8]at HP0⊢;clear hW;go_upto_region 1 with(fail)
 refine wp_region_list ?_;refine wpList_plain rfl (fun K hK=> ?_);go_simp;go_at_call 22
 refine hid.mono ?_;rintro e W1 ⟨v,rfl,hv,hb⟩;obtain⟨us,rfl,hul,hu1,hun⟩:=iZ hv;refine hK _ _ ?_;clear hK K hid;have hpn:=PB.new W1;have hvv:bw (W1.alloc (.cells aD.toArray 39)) (.agg us.toArray) Pq.id:=hv.mono hpn.bel;have HP1:=Lib.hid (HP0.out.next (hb.trans (hpn.bel.mono hb.size)));refine aj rfl (v:=.pointer (some ⟨W1.heap.size,0,none⟩)) (w':=W1.alloc (.cells aD.toArray 39)) (by go_simp;try rfl) ?_;have hth:=hpn.there;rw[←hul]at hth;refine wpList_store_mid rfl _ _ _ rfl W1.heap.size 0 us.toArray rfl rfl (by simpa using hth) (cB hul) hu1 ?_;rw[show us.toArray.toList=us from rfl];have hw1:Below w.heap.size w W1:=HP0.out.bel.trans (hb.mono HP0.out.bel.size);have hne:B8≠W1.heap.size:=by have:=HP0.out.lt;have:=hb.size;omega
 have HP8:=Lib.hid (HP1.out.oth (us:=us) hne hw1.size);have HP10:=Lib.hid ((hpn.base hw1).put (us:=us) hul hun);have HV:=Lib.hid (hpn.keep (us:=us) hvv);have HTE:=Lib.hid (HT.out.below HP10.out.bel);have hbl:=(q_below HTE.out HX.out h1 (top:=top)).mono (show∀e w',_→∃ad n cap,e= .returned (.slice ad n cap)∧Hid (dg w' ((W1.alloc (.cells aD.toArray 39)).setCells W1.heap.size 0 us).heap.size (.slice ad n cap) (dh lx top)∧n=(dh lx top).length∧Below ((W1.alloc (.cells aD.toArray 39)).setCells W1.heap.size 0 us).heap.size ((W1.alloc (.cells aD.toArray 39)).setCells W1.heap.size 0 us) w')from by
  rintro e w' ⟨v,rfl,h1,h2⟩;obtain⟨ad,cap,rfl⟩:=pF h1;exact⟨ad,_,cap,rfl,Lib.hid ⟨h1,rfl,h2⟩⟩)
 generalize hW2:(W1.alloc (.cells aD.toArray 39)).setCells W1.heap.size 0 us=W2 at *;obtain⟨B10,hB10⟩:∃B,W1.heap.size=B:=⟨_,rfl⟩;rw[hB10]at HP10 hne⊢;have HNE:=Lib.hid hne;clear hW2 hth hpn hvv hv hb hu1 hun HP1 hw1 hB10 hne HP0;go_wp2_with (go_at_call 106;refine hbl.mono ?_;clear hbl;rintro e Wb ⟨ad,n,cap,rfl,HR⟩)
 have HP8b:=Lib.hid (HP8.out.next HR.out.2.2);have HP10b:=Lib.hid (HP10.out.next HR.out.2.2);have HVb:=Lib.hid ((show bw Wb _ _ from IsL.mono HV.out HR.out.2.2));have HTb:=Lib.hid (HTE.out.below HR.out.2.2);have hnl:(n:Int)≤1000:=by rw[HR.out.2.1];omega
 have hn10:B10∉fpT t m E:=fun hm=>by
  have h3:=HT.out.lt _ hm;have h4:=HP10b.out.ge;omega
 have hX10:bC Wb B10:=(j4 HP10b.out.blk (fun u hu=>HP10b.out.nu u (by simpa using hu))).x;have hl8:B8<Wb.heap.size:=HP8b.out.lt;have HROW:=Lib.hid (show∀wq,Kb Wb.heap.size B10 Wb wq→TM wq t m E∧PB w wq B8 aD∧∀(i:Nat) (c:Nm),(dh lx top)[i]? =some c→∃g,ad=some ⟨g,0,none⟩∧wq.cell? ⟨g,i,none⟩=some (.string c)from fun wq k=>⟨k.tm HTb.out hn10 hX10,HP8b.out.kb k hl8 HNE.out HP8b.out.bel.size HP10b.out.ge,fun i c hc=>by
  have h3:=HR.out.1;have h4:=HR.out.2.1;unfold dg at h3;rw[←h4]at h3;obtain⟨g1,e1,q1⟩:=yK h3 (show((dh lx top).map Value.string)[i]? =some (.string c)by rw[List.getElem?_map,hc];rfl);have h5:=mL h3 (g:=g1) (by rw[e1];rfl);exact⟨g1,e1,by rw[k.cell h5.2 (by have:=HP10.out.lt;omega)];exact q1⟩⟩)
 obtain⟨L,hL⟩:∃L,dh lx top=L:=⟨_,rfl⟩;rw[hL]at HROW HOK HRZ hll;have HNL:=Lib.hid (show n=L.length by rw[HR.out.2.1,hL]);clear HR HV HP8 HP10 HTE HT HX hL hn10 hX10 HP8b HTb hl8;have hlb:Wb.heap.size≤Wb.heap.size:=Nat.le_refl _;go_loopw [22] (fun s22 wq=>∃(k:Nat) (cs:List Value) (q:Pq),k≤n∧s22= .int .i64 (k:Int)∧Hid (Kb Wb.heap.size B10 Wb wq)∧Hid (PB w wq B10 cs)∧Hid (bw wq (.agg cs.toArray) q)∧Hid (Rz=gE (trE E) a (L.drop k) q∧kn (trE E) a (L.drop k) q)) (fun s22 _=>n - (intOf s22).toNat)
 case atStart=>exact⟨0,us,Pq.id,Nat.zero_le _,rfl,Lib.hid (Kb.refl _ _ _),HP10b,HVb,Lib.hid ⟨HRZ.out,HOK.out⟩⟩
 case round=>
  clear HRZ HOK HP10b HVb hul hlb;obtain⟨k,cs,q,hk,rfl,HK,HP,HV,HZ⟩:=hrel;rcases Nat.lt_or_ge k n with hlt | hge
  ·obtain⟨c,hc⟩:∃c,L[k]? =some c:=⟨_,List.getElem?_eq_getElem (by rw[←HNL.out];exact hlt)⟩;obtain⟨hTq,hP8,hrw⟩:=HROW.out wr HK.out;obtain⟨g,rfl,hcc⟩:=hrw k c hc;have hed:=q_Edge hTq HE.out c a;have hdr:L.drop k=c::L.drop (k+1):=by
    obtain⟨h1,h2⟩:=List.getElem?_eq_some_iff.1 hc;rw[←h2];exact List.drop_eq_getElem_cons h1
   have hz:=HZ.out;rw[hdr]at hz;unfold gE kn at hz;obtain⟨ep,hep⟩:∃ep,dR (trE E) c a=ep:=⟨_,rfl⟩;rw[hep]at hed hz;obtain⟨pe,code⟩:=ep;simp only at hed hz;have HZ2:=Lib.hid hz;have HP8:=Lib.hid hP8;have hlW:Wb.heap.size≤wr.heap.size:=HK.out.size;clear hTq hrw hc hep hz hP8 hdr;go_upto_region 5 with(fail)
   refine wp_region_list ?_;refine aj rfl (v:=ptB t) (w':=wr) (by rfl) ?_;refine aj rfl (v:=.string c) (w':=wr) (by rfl) ?_;refine aj rfl (v:=.int .i64 a) (w':=wr) (by rfl) ?_;refine wpList_plain rfl (fun K hK=> ?_);go_simp;go_at_call 41
   refine hed.mono ?_;rintro e w4 ⟨v,rfl,hv,hb⟩;obtain⟨vs,rfl,hul,hu1,hun⟩:=iZ hv;refine hK _ _ ?_;clear hK K hed;refine aj rfl (v:=.tuple #[.agg vs.toArray,.int .i64 code]) (w':=w4) (by rfl) ?_;refine aj rfl (v:=.agg vs.toArray) (w':=w4) (by go_simp) ?_;refine aj rfl (v:=.int .i64 code) (w':=w4) (by go_simp) ?_;have hpn:=PB.new w4;have hvn:bw (w4.alloc (.cells aD.toArray 39)) (.agg vs.toArray) pe:=IsL.mono hv hpn.bel;have hth:=hpn.there;rw[←hul]at hth;have hb5:=aX vs 0 _ (hb.trans (hpn.bel.mono hb.size)) hb.size (b:=w4.heap.size);have HK5:=Lib.hid (HK.out.trans (Kb.below (hb5.mono hlW)));have HP5:=Lib.hid (HP.out.next hb5);have HV5:=Lib.hid (show bw _ (.agg cs.toArray) q from IsL.mono HV.out hb5);have HP85:=Lib.hid (HP8.out.next hb5);have HPX:=Lib.hid (hpn.put (us:=vs) hul hun);have HVX:=Lib.hid (hpn.keep (us:=vs) hvn);refine aj rfl (v:=.pointer (some ⟨w4.heap.size,0,none⟩)) (w':=w4.alloc (.cells aD.toArray 39)) (by go_simp;try rfl) ?_;refine wpList_store_mid rfl _ _ _ rfl w4.heap.size 0 vs.toArray rfl rfl (by simpa using hth) (cB hul) hu1 ?_;rw[show vs.toArray.toList=vs from rfl];generalize hW5:(w4.alloc (.cells aD.toArray 39)).setCells w4.heap.size 0 vs=W5 at *;have hl5:=hb5.size;have hneX:w4.heap.size≠B10:=by have:=HP.out.lt;have:=hb.size;omega
   obtain⟨B13,hB13⟩:∃B,w4.heap.size=B:=⟨_,rfl⟩;rw[hB13]at hneX HPX⊢;have HNX:=Lib.hid hneX;clear hW5 hB13 hneX hpn hvn hth hb5 hv hb hu1 hun HK HP HV HP8;by_cases h0:code=0
   ·subst h0;obtain⟨hz1,hz2⟩:=HZ2.out;rw[if_pos rfl]at hz1;obtain⟨o1,o2,o3,o4,o5⟩:=hz2 rfl;have hmul:=yr _ _ pe q W5 HVX.out HV5.out o1 o3 o2 o4;have HZ3:=Lib.hid (And.intro hz1 o5);have HSX:=Lib.hid (show(Tryz.prog.info? 39).map (·.size)=some vs.length by rw[HPX.out.len];kernel_rfl);have HSC:=Lib.hid (show(Tryz.prog.info? 39).map (·.size)=some cs.length by rw[HP5.out.len];kernel_rfl);clear hz1 hz2 o1 o2 o3 o4 o5 HZ2 HZ HVX HV5 hul;go_upto_region 8 with(fail)
    refine wp_region_list ?_;refine wpList_load_mid rfl _ _ rfl B13 0 rfl vs _ HPX.out.ld Tryz.underlying39 rfl HSX.out ?_;refine wpList_load_mid rfl _ _ rfl B10 0 rfl cs _ HP5.out.ld Tryz.underlying39 rfl HSC.out ?_;refine wpList_plain rfl (fun K hK=> ?_);go_simp;go_at_call 21
    refine hmul.mono ?_;rintro e w6 ⟨v,rfl,hv,hb⟩;obtain⟨us6,rfl,hul,hu1,hun⟩:=iZ hv;refine hK _ _ ?_;clear hK K hmul;have hP6:=HP5.out.next hb;have hth:=hP6.there;rw[←hul]at hth;refine wpList_store_mid rfl _ _ _ rfl B10 0 us6.toArray rfl rfl (by simpa using hth) (cB hul) hu1 ?_;rw[show us6.toArray.toList=us6 from rfl];have HK7:=Lib.hid ((HK5.out.trans (Kb.below (hb.mono (Nat.le_trans hlW hl5)))).put us6);have HP7:=Lib.hid (hP6.put (us:=us6) hul hun);have HV7:=Lib.hid (hP6.keep (us:=us6) hv);generalize hW7:w6.setCells B10 0 us6=W7 at *;clear hW7 hth hP6 hv hb hu1 hun HK5 HP5 HP85 HPX hul;go_wp2;go_roundw
    case rel=>exact⟨k+1,us6,_,by omega,by go_num,HK7,HP7,HV7,HZ3⟩
    case measure=>simp[intOf];omega
   ·have h0':(code==0)=false:=beq_eq_false_iff_ne.2 h0;have HZ3:=Lib.hid (show Rz=(Pq.zero,code)by rw[HZ2.out.1,if_neg h0]);clear h0 HZ2 HZ;go_upto_region 7 with(fail)
    refine wp_region_list ?_;refine aj rfl (v:=.agg aD.toArray) (w':=W5) (by unfold aD;go_simp;try rfl) ?_;refine aj rfl (v:=.int .i64 code) (w':=W5) (by rfl) ?_;refine wpList_store_mid rfl _ _ _ rfl B8 0 aD.toArray rfl rfl HP85.out.there (by kernel_rfl) (by kernel_rfl) ?_;have HP9:=Lib.hid (HP85.out.put (us:=aD) rfl HP85.out.nu);rw[show aD.toArray.toList=aD from rfl];generalize hW9:W5.setCells B8 0 aD=W9 at *;clear hW9;go_wp2;refine bodyPost_ret (HP9.out.ret rfl _ rfl) rfl ?_;rw[HZ3.out];exact⟨_,rfl,lT _,HP9.out.bel⟩
  ·obtain rfl:k=n:=by omega
   have hz:=HZ.out.1;rw[show L.drop k=[]by rw[HNL.out];simp]at hz;have HZ3:=Lib.hid (show Rz=(q,0)from hz);obtain⟨_,hP8,_⟩:=HROW.out wr HK.out;have HSC:=Lib.hid (show(Tryz.prog.info? 39).map (·.size)=some cs.length by rw[HP.out.len];kernel_rfl);have hth:=hP8.there;rw[←HP.out.len]at hth;have hu1:cs.toArray.all (·.oneCell')=true:=by
    obtain⟨cs',e,_,h1,_⟩:=iZ HV.out;have e:cs=cs':=by injection e with e;simpa using e
    rw[e];exact h1
   have HP9:=Lib.hid (hP8.put (us:=cs) HP.out.len HP.out.nu);have HV9:=Lib.hid (hP8.keep (us:=cs) HV.out);have HLN:=Lib.hid HP.out.len;clear hz HZ hge hP8 HROW;go_upto_region 10 with(fail)
   refine wp_region_list ?_;refine wpList_load_mid rfl _ _ rfl B10 0 rfl cs _ HP.out.ld Tryz.underlying39 rfl HSC.out ?_;refine wpList_store_mid rfl _ _ _ rfl B8 0 cs.toArray rfl rfl (by simpa using hth) (cB HLN.out) hu1 ?_;rw[show cs.toArray.toList=cs from rfl];generalize hW9:wr.setCells B8 0 cs=W9 at *;clear hW9 hth hu1;go_wp2;refine bodyPost_ret (HP9.out.ret rfl _ rfl) rfl ?_;rw[HZ3.out];exact⟨_,rfl,HV9.out,HP9.out.bel⟩
end
section
open Classical
noncomputable abbrev upP (R:Tr) (a:Int) (x top:Nm):Pq×Int:=gE R a (dh (eF R a x) top) Pq.id
noncomputable def bJ (R:Tr) (a:Int) (tq fr:Nm):Pq×Int:=
 if (bx R a fr tq).2≠0 then(Pq.zero,(bx R a fr tq).2)else
  if (upP R a fr (bx R a fr tq).1).2≠0 then(Pq.zero,(upP R a fr (bx R a fr tq).1).2)else
   if (upP R a tq (bx R a fr tq).1).2≠0 then(Pq.zero,(upP R a tq (bx R a fr tq).1).2)else
    ((upP R a tq (bx R a fr tq).1).1.inv.mul (upP R a fr (bx R a fr tq).1).1,0)
structure FindOk (R:Tr) (a:Int) (tq fr:Nm):Prop where
 up:kn R a (dh (eF R a fr) (bx R a fr tq).1) Pq.id
 dn:kn R a (dh (eF R a tq) (bx R a fr tq).1) Pq.id
 ou:(upP R a fr (bx R a fr tq).1).2=0→(upP R a fr (bx R a fr tq).1).1.ok 100000∧(upP R a fr (bx R a fr tq).1).1.good
 od:(upP R a tq (bx R a fr tq).1).2=0→(upP R a tq (bx R a fr tq).1).1.ok 100000∧(upP R a tq (bx R a fr tq).1).1.good∧(upP R a tq (bx R a fr tq).1).1.inv.ok 100000
theorem xE {R:Tr} {a:Int} {x y:Nm} (h:(bx R a x y).2=0):a8 R x∧a8 R y:=by
 unfold bx at h;split at h
 ·rename_i k;exact k
 ·simp at h
set_option maxHeartbeats 2000000 in
theorem q_Find {w:World} {t m:Nat} {E:List Ch} {tq fr:Nm} {a:Int} (hT:TM w t m E) (hE:Sane (trE E)) (hok:FindOk (trE E) a tq fr):
  Calls Tryz.prog 18 #[ptB t,.string tq,.string fr,.int .i64 a] w fun e w'=>∃v,e= .returned (.tuple #[v,.int .i64 (bJ (trE E) a tq fr).2])∧bw w' v (bJ (trE E) a tq fr).1∧Below w.heap.size w w':=by
 have hp0:=PB.new w;have hme:=q_meet (hT.below hp0.bel) hE fr tq a;have HT:=Lib.hid (show∀wq,Below w.heap.size w wq→TM wq t m E from fun wq k=>hT.below k);have HE:=Lib.hid hE;obtain⟨M,hM⟩:∃M,bx (trE E) a fr tq=M:=⟨_,rfl⟩;obtain⟨Rz,hRz⟩:∃r,r=bJ (trE E) a tq fr:=⟨_,rfl⟩;have hkn:=xE (R:=trE E) (a:=a) (x:=fr) (y:=tq);obtain⟨ok1,ok2,ok3,ok4⟩:=hok;rw[hM]at hme hkn ok1 ok2 ok3 ok4;have hz:=hRz;unfold bJ at hz;rw[hM]at hz;rw[←hRz];obtain⟨top,mc⟩:=M;simp only at hme hkn ok1 ok2 ok3 ok4 hz;have HZ:=Lib.hid hz;have HKN:=Lib.hid hkn;have HO1:=Lib.hid ok1;have HO2:=Lib.hid ok2;have HO3:=Lib.hid ok3;have HO4:=Lib.hid ok4;have HP0:=Lib.hid hp0;obtain⟨W,hW⟩:∃W,w.alloc (.cells aD.toArray 39)=W:=⟨_,rfl⟩;rw[hW]at HP0 hme;clear hT hE hp0 hRz hM hkn ok1 ok2 ok3 ok4 hz;go_enter Tryz.func18,Tryz.ntmps18
 go_upto_region 0 with(fail)
 refine wp_region_list ?_;refine aj rfl (v:=.pointer (some ⟨w.heap.size,0,none⟩)) (w':=W) (by subst hW;go_simp;try rfl) ?_;obtain⟨B8,hB8⟩:∃B,w.heap.size=B:=⟨_,rfl⟩;have HB8:=Lib.hid hB8;rw[hB8]at HP0⊢;clear hW hB8;by_cases h0:mc=0
 ·subst h0;obtain⟨kx,ky⟩:=HKN.out rfl;have lx:=i4 HE.out (a:=a) kx;have ly:=i4 HE.out (a:=a) ky;have HUP:=Lib.hid (show∀wq,Below w.heap.size w wq→Calls Tryz.prog 72 #[ptB t,.string fr,.string top,.int .i64 a] wq fun e w'=>∃v,e= .returned (.tuple #[v,.int .i64 (upP (trE E) a fr top).2])∧bw w' v (upP (trE E) a fr top).1∧Below wq.heap.size wq w' from fun wq k=>q_rise (HT.out wq k) HE.out.ok (jt HE.out.ok a fr) (by omega) HO1.out);have HDN:=Lib.hid (show∀wq,Below w.heap.size w wq→Calls Tryz.prog 72 #[ptB t,.string tq,.string top,.int .i64 a] wq fun e w'=>∃v,e= .returned (.tuple #[v,.int .i64 (upP (trE E) a tq top).2])∧bw w' v (upP (trE E) a tq top).1∧Below wq.heap.size wq w' from fun wq k=>q_rise (HT.out wq k) HE.out.ok (jt HE.out.ok a tq) (by omega) HO2.out);have hz:=HZ.out;have o3:=HO3.out;have o4:=HO4.out;rw[if_neg (by simp)]at hz;generalize upP (trE E) a fr top=U at *;generalize upP (trE E) a tq top=D at *;obtain⟨up,uc⟩:=U;obtain⟨dn,dc⟩:=D;simp only at hz o3 o4 HUP HDN;have HZ2:=Lib.hid hz;have HO3':=Lib.hid o3;have HO4':=Lib.hid o4;clear hz o3 o4 HZ HO1 HO2 HO3 HO4 kx ky lx ly HKN HT HE;go_upto_region 4 with(go_at_call 71;refine hme.mono ?_;clear hme;rintro e w1 ⟨rfl,hb⟩;have HP1:=Lib.hid (HP0.out.next hb);clear hb)
  clear HP0;have hup:=HUP.out w1 HP1.out.bel;refine wp_region_list ?_;refine aj rfl (v:=ptB t) (w':=w1) (by rfl) ?_;refine aj rfl (v:=.string fr) (w':=w1) (by rfl) ?_;refine aj rfl (v:=.string top) (w':=w1) (by rfl) ?_;refine aj rfl (v:=.int .i64 a) (w':=w1) (by rfl) ?_;refine wpList_plain rfl (fun K hK=> ?_);go_simp;go_at_call 72
  refine hup.mono ?_;rintro e w4 ⟨v,rfl,hv,hb⟩;obtain⟨vs12,rfl,hul,hu1,hun⟩:=iZ hv;refine hK _ _ ?_;clear hK K hup;refine aj rfl (v:=.tuple #[.agg vs12.toArray,.int .i64 uc]) (w':=w4) (by rfl) ?_;refine aj rfl (v:=.agg vs12.toArray) (w':=w4) (by go_simp) ?_;refine aj rfl (v:=.int .i64 uc) (w':=w4) (by go_simp) ?_;have hpn:=PB.new w4;have hvn:bw (w4.alloc (.cells aD.toArray 39)) (.agg vs12.toArray) up:=IsL.mono hv hpn.bel;have hth:=hpn.there;rw[←hul]at hth;have hb5:=aX vs12 0 _ (hb.trans (hpn.bel.mono hb.size)) hb.size (b:=w4.heap.size);have HP2:=Lib.hid (HP1.out.next hb5);have H12:=Lib.hid ((hpn.base (HP1.out.bel.trans (hb.mono HP1.out.bel.size))).put (us:=vs12) hul hun);have HV12:=Lib.hid (hpn.keep (us:=vs12) hvn);have HL12:=Lib.hid (show w4.heap.size=w4.heap.size from rfl);have hlt12:B8<w4.heap.size:=by have:=HP1.out.lt;have:=hb.size;omega
  refine aj rfl (v:=.pointer (some ⟨w4.heap.size,0,none⟩)) (w':=w4.alloc (.cells aD.toArray 39)) (by go_simp;try rfl) ?_;refine wpList_store_mid rfl _ _ _ rfl w4.heap.size 0 vs12.toArray rfl rfl (by simpa using hth) (cB hul) hu1 ?_;rw[show vs12.toArray.toList=vs12 from rfl];generalize hW5:(w4.alloc (.cells aD.toArray 39)).setCells w4.heap.size 0 vs12=W2 at *;obtain⟨B12,hB12⟩:∃B,w4.heap.size=B:=⟨_,rfl⟩;rw[hB12]at H12 hlt12⊢;have HLT12:=Lib.hid hlt12;clear hW5 hB12 HL12 hlt12 hpn hvn hth hb5 hv hb hu1 hun hul;clear HP1 HUP;by_cases h0:uc=0
  ·subst h0;obtain⟨ou1,ou2⟩:=HO3'.out rfl;have hz:=HZ2.out;rw[if_neg (by simp)]at hz;have HZ4:=Lib.hid hz;have HU:=Lib.hid (And.intro ou1 ou2);clear hz HZ2 HO3' ou1 ou2;go_upto_region 7 with(fail)
   have hdn:=HDN.out W2 HP2.out.bel;refine wp_region_list ?_;refine aj rfl (v:=ptB t) (w':=W2) (by rfl) ?_;refine aj rfl (v:=.string tq) (w':=W2) (by rfl) ?_;refine aj rfl (v:=.string top) (w':=W2) (by rfl) ?_;refine aj rfl (v:=.int .i64 a) (w':=W2) (by rfl) ?_;refine wpList_plain rfl (fun K hK=> ?_);go_simp;go_at_call 72
   refine hdn.mono ?_;rintro e w4 ⟨v,rfl,hv,hb⟩;obtain⟨vs13,rfl,hul,hu1,hun⟩:=iZ hv;refine hK _ _ ?_;clear hK K hdn;refine aj rfl (v:=.tuple #[.agg vs13.toArray,.int .i64 dc]) (w':=w4) (by rfl) ?_;refine aj rfl (v:=.agg vs13.toArray) (w':=w4) (by go_simp) ?_;refine aj rfl (v:=.int .i64 dc) (w':=w4) (by go_simp) ?_;have hpn:=PB.new w4;have hvn:bw (w4.alloc (.cells aD.toArray 39)) (.agg vs13.toArray) dn:=IsL.mono hv hpn.bel;have hth:=hpn.there;rw[←hul]at hth;have hb5:=aX vs13 0 _ (hb.trans (hpn.bel.mono hb.size)) hb.size (b:=w4.heap.size);have HP3:=Lib.hid (HP2.out.next hb5);have H12b:=Lib.hid (H12.out.next hb5);have HV12b:=Lib.hid (IsL.mono HV12.out hb5);have H13:=Lib.hid ((hpn.base (HP2.out.bel.trans (hb.mono HP2.out.bel.size))).put (us:=vs13) hul hun);have HV13:=Lib.hid (hpn.keep (us:=vs13) hvn);have HL13:=Lib.hid (show w4.heap.size=w4.heap.size from rfl);have hlt13:B8<w4.heap.size:=by have:=HP2.out.lt;have:=hb.size;omega
   have hlt12:B12<w4.heap.size:=by have:=H12.out.lt;have:=hb.size;omega
   refine aj rfl (v:=.pointer (some ⟨w4.heap.size,0,none⟩)) (w':=w4.alloc (.cells aD.toArray 39)) (by go_simp;try rfl) ?_;refine wpList_store_mid rfl _ _ _ rfl w4.heap.size 0 vs13.toArray rfl rfl (by simpa using hth) (cB hul) hu1 ?_;rw[show vs13.toArray.toList=vs13 from rfl];generalize hW5:(w4.alloc (.cells aD.toArray 39)).setCells w4.heap.size 0 vs13=W3 at *;obtain⟨B13,hB13⟩:∃B,w4.heap.size=B:=⟨_,rfl⟩;rw[hB13]at H13 hlt13 hlt12⊢;have HLT13:=Lib.hid hlt13;have HLT1213:=Lib.hid hlt12;clear hW5 hB13 HL13 hlt13 hlt12 hpn hvn hth hb5 hv hb hu1 hun hul;clear HP2 HDN HV12 H12;by_cases h0:dc=0
   ·subst h0;have hz:=HZ4.out;rw[if_neg (by simp)]at hz;have HZ5:=Lib.hid hz;obtain⟨od1,od2,od3⟩:=HO4'.out rfl;clear hz HZ4;go_upto_region 10 with(fail)
    have hsz13:(Tryz.prog.info? 39).map (·.size)=some vs13.length:=by rw[H13.out.len];kernel_rfl
    have hsz12:(Tryz.prog.info? 39).map (·.size)=some vs12.length:=by rw[H12b.out.len];kernel_rfl
    have hbd:Below W3.heap.size W3 W3.drew:=(Below.refl _ _).drew;have hinv:=q_poInv _ dn W3.drew (IsL.mono HV13.out hbd) od1 od2;refine wp_region_held_drew (S:=fun w'=>w'.rangeAt B13 0 vs13∧w'.rangeAt B12 0 vs12) (by kernel_rfl) ⟨by simpa using H13.out.ld,by simpa using H12b.out.ld⟩ (fun hHeld=> ?_);refine wpAnyH_take (i:=0) (v:=.agg vs13.toArray) rfl (by kernel_rfl) (by kernel_rfl) (by kernel_rfl) (fun _ _ _ h=>h) (yieldsIf_load_mid (by rfl) _ _ rfl B13 0 rfl _ _ (fun w hw=>hw.1) Tryz.underlying39 rfl hsz13) hHeld ?_;refine wpAnyH_take (i:=2) (v:=.agg vs12.toArray) rfl (by kernel_rfl) (by kernel_rfl) (by kernel_rfl) (fun _ _ _ h=>h) (yieldsIf_load_mid (by rfl) _ _ rfl B12 0 rfl _ _ (fun w hw=>hw.2) Tryz.underlying39 rfl hsz12) hHeld ?_;refine wpAnyH_ready (rs:=[1]) (by kernel_rfl) (by simp) ?_;refine AllReadyH.cons rfl (fun K hK=> ?_) AllReadyH.nil;go_simp;go_at_call 56
    refine hinv.mono ?_;rintro e w6 ⟨v,rfl,hv,hb⟩;obtain⟨us6,rfl,_,_,_⟩:=iZ hv;have hb6:Below W3.heap.size W3 w6:=hbd.trans hb;have hP6:=HP3.out.next hb6;have hA:=H13.out.next hb6;have hB:=H12b.out.next hb6;refine hK.out _ _ ⟨hA.ld,hB.ld⟩ (fun hHeld2=> ?_);clear hK K hHeld hinv;have hmul:=yr _ _ dn.inv up w6 hv (IsL.mono HV12b.out hb6) od3 HU.out.1 od2.inv HU.out.2;refine wpAnyH_ready (rs:=[3]) (by kernel_rfl) (by simp) ?_;refine AllReadyH.cons rfl (fun K hK=> ?_) AllReadyH.nil;go_simp;go_at_call 21
    refine hmul.mono ?_;rintro e w7 ⟨v,rfl,hv7,hb7⟩;obtain⟨us7,rfl,hul,hu1,hun⟩:=iZ hv7;have hP7:=hP6.next hb7;refine hK.out _ _ ⟨(hA.next hb7).ld,(hB.next hb7).ld⟩ (fun hHeld3=> ?_);clear hK K hHeld2 hmul;have hth:=hP7.there;rw[←hul]at hth;refine wpAnyH_ready (rs:=[4]) (by kernel_rfl) (by simp) ?_;refine AllReadyH.cons rfl (fun K hK=> ?_) AllReadyH.nil;refine wp_store_mid _ _ _ rfl B8 0 us7.toArray rfl rfl (by simpa using hth) (cB hul) hu1 ?_;rw[show us7.toArray.toList=us7 from rfl];have HP9:=Lib.hid (hP7.put (us:=us7) hul hun);have HV9:=Lib.hid (hP7.keep (us:=us7) hv7);refine hK.out _ _ ⟨((hA.next hb7).oth (us:=us7) (by have:=HLT13.out;omega) hP7.ge).ld,((hB.next hb7).oth (us:=us7) (by have:=HLT12.out;omega) hP7.ge).ld⟩ (fun hHeld4=> ?_);clear hK K hHeld3;generalize hW9:w7.setCells B8 0 us7=W9 at *;clear hW9 hth hv7 hb7 hul hu1 hun hP7 hA hB hP6 hv hb hb6 hbd;refine wpAnyH_take (i:=5) (v:=.int .i64 0) rfl (by kernel_rfl) (by kernel_rfl) (by kernel_rfl) (fun _ _ _ h=>h) (Or.inl ⟨by rfl,fun w hw=>by rfl⟩) hHeld4 ?_;refine wpAnyH_done (by kernel_rfl) ?_ _;go_wp2;refine bodyPost_ret (HP9.out.ret rfl _ rfl) rfl ?_;rw[HZ5.out];exact⟨_,rfl,HV9.out,HP9.out.bel⟩
   ·have h0':(dc==0)=false:=beq_eq_false_iff_ne.2 h0;have HZ5:=Lib.hid (show Rz=(Pq.zero,dc)by rw[HZ4.out,if_pos h0]);clear h0 HZ4 HO4';go_upto_region 9 with(fail)
    refine wp_region_list ?_;refine aj rfl (v:=.agg aD.toArray) (w':=W3) (by unfold aD;go_simp;try rfl) ?_;refine aj rfl (v:=.int .i64 dc) (w':=W3) (by rfl) ?_;refine wpList_store_mid rfl _ _ _ rfl B8 0 aD.toArray rfl rfl HP3.out.there (by kernel_rfl) (by kernel_rfl) ?_;have HP9:=Lib.hid (HP3.out.put (us:=aD) rfl HP3.out.nu);rw[show aD.toArray.toList=aD from rfl];generalize hW9:W3.setCells B8 0 aD=W9 at *;clear hW9;go_wp2;refine bodyPost_ret (HP9.out.ret rfl _ rfl) rfl ?_;rw[HZ5.out];exact⟨_,rfl,lT _,HP9.out.bel⟩
  ·have h0':(uc==0)=false:=beq_eq_false_iff_ne.2 h0;have HZ3:=Lib.hid (show Rz=(Pq.zero,uc)by rw[HZ2.out,if_pos h0]);clear h0 HZ2 HO3' HO4' HDN;go_upto_region 6 with(fail)
   refine wp_region_list ?_;refine aj rfl (v:=.agg aD.toArray) (w':=W2) (by unfold aD;go_simp;try rfl) ?_;refine aj rfl (v:=.int .i64 uc) (w':=W2) (by rfl) ?_;refine wpList_store_mid rfl _ _ _ rfl B8 0 aD.toArray rfl rfl HP2.out.there (by kernel_rfl) (by kernel_rfl) ?_;have HP9:=Lib.hid (HP2.out.put (us:=aD) rfl HP2.out.nu);rw[show aD.toArray.toList=aD from rfl];generalize hW9:W2.setCells B8 0 aD=W9 at *;clear hW9;go_wp2;refine bodyPost_ret (HP9.out.ret rfl _ rfl) rfl ?_;rw[HZ3.out];exact⟨_,rfl,lT _,HP9.out.bel⟩
 ·have h0':(mc==0)=false:=beq_eq_false_iff_ne.2 h0;have HZ3:=Lib.hid (show Rz=(Pq.zero,mc)by rw[HZ.out,if_pos h0]);clear h0 HKN HO1 HO2 HO3 HO4 HZ HT HE;go_upto_region 3 with(go_at_call 71;refine hme.mono ?_;clear hme;rintro e w1 ⟨rfl,hb⟩;have HP1:=Lib.hid (HP0.out.next hb);clear hb)
  refine wp_region_list ?_;refine aj rfl (v:=.agg aD.toArray) (w':=w1) (by unfold aD;go_simp;try rfl) ?_;refine aj rfl (v:=.int .i64 mc) (w':=w1) (by rfl) ?_;refine wpList_store_mid rfl _ _ _ rfl B8 0 aD.toArray rfl rfl HP1.out.there (by kernel_rfl) (by kernel_rfl) ?_;have HP9:=Lib.hid (HP1.out.put (us:=aD) rfl HP1.out.nu);rw[show aD.toArray.toList=aD from rfl];generalize hW9:w1.setCells B8 0 aD=W9 at *;clear hW9;go_wp2;refine bodyPost_ret (HP9.out.ret rfl _ rfl) rfl ?_;rw[HZ3.out];exact⟨_,rfl,lT _,HP9.out.bel⟩
end
section
open Classical
structure AcrOk (R:Tr) (tq:Nm) (ta:Int) (fr:Nm) (fa:Int) (th:Nm):Prop where
 f1:FindOk R fa th fr
 f2:FindOk R ta tq th
 o1:(bJ R fa th fr).2=0→(bJ R fa th fr).1.ok 100000∧(bJ R fa th fr).1.good
 o2:(bJ R ta tq th).2=0→(bJ R ta tq th).1.ok 100000∧(bJ R ta tq th).1.good
end
section
open Classical
def mN:List Value:=[.bool false,.slice none 0 0,.slice none 0 0,.bool false,.slice none 0 0,.slice none 0 0,.bool false,.slice none 0 0,.slice none 0 0]
abbrev Vq0:Vq:=⟨.zero,.zero,.zero⟩
theorem zero_vq (w:World):cP w (.agg mN.toArray) Vq0:=⟨mN,rfl,none,0,none,0,_,rfl,lm w,lm w,none,0,none,0,_,rfl,lm w,lm w,none,0,none,0,_,rfl,lm w,lm w,rfl⟩
structure PV (w0 W:World) (B:Nat) (vs:List Value):Prop where
 blk:W.heap[B]? =some (.cells vs.toArray 37 (0,0))
 len:vs.length=9
 bel:Below w0.heap.size w0 W
 ge:w0.heap.size≤B
 nu:∀u∈vs,noU u
theorem PV.new (w:World):PV w (w.alloc (.cells mN.toArray 37)) w.heap.size mN:=⟨heap_alloc_new w _,rfl,(Below.refl _ w).alloc (Nat.le_refl _) _,Nat.le_refl _,fun u hu n e=>by
 subst e;simp[mN]at hu⟩
theorem PV.next {w0 W W':World} {B:Nat} {vs:List Value} (h:PV w0 W B vs) (k:Below W.heap.size W W'):PV w0 W' B vs:=
 ⟨by rw[k.block B (Array.getElem?_eq_some_iff.1 h.blk).1];exact h.blk,h.len,h.bel.trans (k.mono h.bel.size),h.ge,h.nu⟩
theorem PV.put {w0 W:World} {B:Nat} {vs us:List Value} (h:PV w0 W B vs) (hu:us.length=9) (hn:∀u∈us,noU u):PV w0 (W.setCells B 0 us) B us:=
 ⟨by rw[cX us W B 0 _ _ h.blk,gT (by simp[h.len,hu])],hu,aX us 0 W h.bel h.ge,h.ge,hn⟩
theorem PV.there {w0 W:World} {B:Nat} {vs:List Value} (h:PV w0 W B vs):W.there B 0 9:=by
 have:=mM h.blk;rwa [List.size_toArray,h.len]at this
theorem ve {us:List Value} (hu:us.length=9):(Tryz.prog.info? 37).map (·.size)=some us.toArray.size:=by rw[List.size_toArray,hu];kernel_rfl
theorem vq_cs {w:World} {v:Value} {p:Vq} (h:cP w v p):∃cs:List Value,v= .agg cs.toArray∧cs.length=9∧cs.toArray.all (·.oneCell')=true∧∀u∈cs,noU u:=by
 obtain⟨cs,rfl,hc⟩:=h;refine⟨cs,rfl,(bY hc),all_oneCell_toArray (fx hc),fun u hu n e=> ?_⟩;obtain⟨k,hk,e2⟩:=List.getElem_of_mem hu;exact hc.noInt k n (by rw[List.getElem?_eq_getElem hk,e2,e])
theorem PV.keep {w0 W:World} {B:Nat} {vs us:List Value} {v:Value} {p:Vq} (h:PV w0 W B vs) (i:cP W v p):cP (W.setCells B 0 us) v p:=by
 obtain⟨cs,rfl,hc⟩:=i;exact⟨cs,rfl,hc.upd (j4 h.blk (fun u hu=>h.nu u (by simpa using hu))) (ck us W B 0)⟩
theorem PV.ret {w0 W:World} {B:Nat} {vs:List Value} (h:PV w0 W B vs) {fn:Func} {p u:Tmp} (hr:fn.results=#[.cell p 37,.tmp u]) (tmps:Array Value) (hp:tmps.getD p undef= .pointer (some ⟨B,0,none⟩)):
  (results fn tmps).run Tryz.prog W= .ok (.tuple #[.agg vs.toArray,tmps.getD u undef]) W:=
 rn hr tmps W B _ _ _ _ hp h.blk Tryz.underlying37 rfl (ve h.len)
theorem PV.oth {w0 W:World} {B B':Nat} {vs us:List Value} (h:PV w0 W B vs) (hne:B≠B') (hl:w0.heap.size≤B'):PV w0 (W.setCells B' 0 us) B vs:=
 ⟨by rw[(ck us W B' 0).block B hne];exact h.blk,h.len,aX us 0 W h.bel hl,h.ge,h.nu⟩
theorem PV.base {w0 w1 W:World} {B:Nat} {vs:List Value} (h:PV w1 W B vs) (k:Below w0.heap.size w0 w1):PV w0 W B vs:=⟨h.blk,h.len,k.trans (h.bel.mono k.size),Nat.le_trans k.size h.ge,h.nu⟩
theorem PV.ld {w0 W:World} {B:Nat} {vs:List Value} (h:PV w0 W B vs):W.rangeAt B 0 vs:=fun j v hv=>by rw[aA h.blk,Nat.zero_add];simpa using hv
end
section
open Classical
def rv (L:List Nm) (i k:Nat):Option Nm:=if k<i∨L.length - i≤k then L[L.length - 1 - k]? else L[k]?
structure RvAt (w W:World) (g:Nat) (cap:Nat) (L:List Nm) (i:Nat):Prop where
 upd:Upd w g W
 blk:∃cur,W.heap[g]? =some (.cells cur 9 (0,0))∧cur.size=cap∧∀k,k<L.length→∃x,rv L i k=some x∧cur[k]? =some (.string x)
theorem Upd.drew' {w W:World} {g:Nat} (u:Upd w g W):Upd w g W.drew:=⟨u.os,u.tape,u.output,u.size,u.block⟩
theorem RvAt.next {w W:World} {g cap:Nat} {L:List Nm} {i:Nat} {x y:Nm} (h:RvAt w W g cap L i) (hn:L.length≤cap) (hlt:2*i+1<L.length) (hx:rv L i i=some x) (hy:rv L i (L.length - 1 - i)=some y):
  RvAt w ((W.setCell ⟨g,i,none⟩ (.string y)).setCell ⟨g,L.length - 1 - i,none⟩ (.string x)).drew g cap L (i+1):=by
 obtain⟨cur,hc,hcs,hk⟩:=h.blk;have hx':L[i]? =some x:=by unfold rv at hx;rwa [if_neg (by omega)]at hx
 have hy':L[L.length - 1 - i]? =some y:=by unfold rv at hy;rwa [if_neg (by omega)]at hy
 refine⟨Upd.drew' ((h.upd.trans (Upd.cell _ _ _ _)).trans (Upd.cell _ _ _ _)),_,heap_setCell_same _ g _ _ _ _ (heap_setCell_same _ g _ _ _ _ hc),by simp[hcs],fun k hkn=> ?_⟩;rw[Array.getElem?_setIfInBounds,Array.getElem?_setIfInBounds,Array.size_setIfInBounds];by_cases e1:L.length - 1 - i=k
 ·refine⟨x,?_,by rw[if_pos e1,if_pos (by omega)]⟩;unfold rv;rw[if_pos (.inr (by omega)),show L.length - 1 - k=i by omega];exact hx'
 ·rw[if_neg e1];by_cases e2:i=k
  ·refine⟨y,?_,by rw[if_pos e2,if_pos (by omega)]⟩;unfold rv;rw[if_pos (.inl (by omega)),←e2];exact hy'
  ·rw[if_neg e2];obtain⟨z,h1,h2⟩:=hk k hkn;refine⟨z,?_,h2⟩;rw[←h1];unfold rv;by_cases hc1:k<i∨L.length - i≤k
   ·rw[if_pos hc1,if_pos (by omega)]
   ·rw[if_neg hc1,if_neg (by omega)]
theorem RvAt.done {w W:World} {g cap b:Nat} {L:List Nm} {i:Nat} (h:RvAt w W g cap L i) (hb:b≤g∧L.length≤cap∧cap≤maxLen) (hi:L.length≤2*i+1) (hi2:2*i≤L.length+1):dg W b (.slice (some ⟨g,0,none⟩) L.length cap) L.reverse:=by
 obtain⟨cur,hc,hcs,hk⟩:=h.blk;refine⟨by simp,.inr ⟨g,cap,cur,by simp,hb.1,hc,by simpa using hb.2.1,hb.2.2,by omega,?_⟩⟩;apply List.ext_getElem?;intro k;rw[List.getElem?_take,List.getElem?_map,List.length_reverse,Nat.mul_one];split
 ·rename_i hkn;obtain⟨z,h1,h2⟩:=hk k hkn;rw[Array.getElem?_toList,h2,List.getElem?_reverse hkn];unfold rv at h1;split at h1
  ·rw[h1];rfl
  ·rw[show L.length - 1 - k=k by omega,h1];rfl
 ·rename_i hkn;rw[List.getElem?_eq_none (by simp;omega)];rfl
end
def Bd (n:Nat) (x:Int):Prop:=x.natAbs≤n
section
variable {m n:Nat} {x y:Int}
theorem Bd.mono (h:Bd m x) (k:m≤n):Bd n x:=Nat.le_trans h k
theorem Bd.add (h:Bd m x) (k:Bd n y):Bd (m+n) (x+y):=by unfold Bd at *;omega
theorem Bd.sub (h:Bd m x) (k:Bd n y):Bd (m+n) (x - y):=by unfold Bd at *;omega
theorem Bd.neg (h:Bd m x):Bd m (-x):=by unfold Bd at *;omega
theorem Bd.mul (h:Bd m x) (k:Bd n y):Bd (m*n) (x*y):=by unfold Bd at *;rw[Int.natAbs_mul];exact Nat.mul_le_mul h k
theorem Bd.two:Bd 2 2:=Nat.le_refl _
end
def eG (a:Nat) (q:Qq):Prop:=∃W X Y Z:Int,Sim ⟨(W:Rat),X,Y,Z⟩ q.r∧Bd (2^a) W∧Bd (2^a) X∧Bd (2^a) Y∧Bd (2^a) Z
def eD (b:Nat) (v:Vq):Prop:=∃D X Y Z:Int,D≠0∧v.x.v*(D:Rat)=X∧v.y.v*(D:Rat)=Y∧v.z.v*(D:Rat)=Z∧Bd (2^b) D∧Bd (2^b) X∧Bd (2^b) Y∧Bd (2^b) Z
theorem ro {a:Int} (h:a≠0):(a:Rat)≠0:=fun e=>h (by exact_mod_cast e)
theorem eG.mono {a b:Nat} {q:Qq} (h:eG a q) (k:a≤b):eG b q:=by
 obtain⟨W,X,Y,Z,h0,h1,h2,h3,h4⟩:=h;have e:=Nat.pow_le_pow_right (n:=2) (by decide) k;exact⟨W,X,Y,Z,h0,h1.mono e,h2.mono e,h3.mono e,h4.mono e⟩
theorem eD.mono {a b:Nat} {q:Vq} (h:eD a q) (k:a≤b):eD b q:=by
 obtain⟨D,X,Y,Z,h0,k1,k2,k3,h1,h2,h3,h4⟩:=h;have e:=Nat.pow_le_pow_right (n:=2) (by decide) k;exact⟨D,X,Y,Z,h0,k1,k2,k3,h1.mono e,h2.mono e,h3.mono e,h4.mono e⟩
theorem pJ {x:Fq} {F C:Int} (hx:x.valid=true) (hF:F≠0) (h:x.v*(F:Rat)=C):x.p≤C.natAbs∧x.q≤F.natAbs:=by
 have hn:=Fq.valid.n hx;have e:Fq.sg x.s x.p*F=C*(x.q:Int):=by
  unfold Fq.v at h;rw[←Rat.mkRat_one (x:=F),←Rat.mkRat_one (x:=C),Rat.mkRat_mul_mkRat,Rat.mkRat_eq_iff (by simpa using hn) (by decide)]at h;simpa using h
 have e2:x.p*F.natAbs=C.natAbs*x.q:=by
  have:=congrArg Int.natAbs e;rwa [Int.natAbs_mul,Int.natAbs_mul,mo,Int.natAbs_natCast]at this
 have hc:Nat.Coprime x.p x.q:=Fq.valid.g hx;have hF':0<F.natAbs:=by omega
 refine⟨?_,Nat.le_of_dvd hF' (hc.symm.dvd_of_dvd_mul_left ⟨C.natAbs,by rw[e2,Nat.mul_comm]⟩)⟩;by_cases h0:C.natAbs=0
 ·rw[h0,Nat.zero_mul]at e2;rcases Nat.mul_eq_zero.1 e2 with h1 | h1
  ·omega
  ·omega
 ·exact Nat.le_of_dvd (by omega) (hc.dvd_of_dvd_mul_right ⟨F.natAbs,by rw[←e2]⟩)
theorem tf {n b d:Nat} (h:n≤2^b) (hd:b<32*d):nl n≤d:=aR.2 (by
 have e:(4294967296:Nat)^d=2^(32*d):=by rw[show(4294967296:Nat)=2^32 by decide,←Nat.pow_mul]
 rw[e];exact Nat.lt_of_le_of_lt h (Nat.pow_lt_pow_right (by decide) hd))
theorem eD.ok {v:Vq} {b d:Nat} (h:eD b v) (g:v.good) (hd:b<32*d):v.ok d:=by
 obtain⟨D,X,Y,Z,h0,k1,k2,k3,h1,h2,h3,h4⟩:=h;have f:∀ {x:Fq} {C:Int},x.valid=true→x.v*(D:Rat)=C→Bd (2^b) C→x.ok d:=fun hx k hC=>by
  obtain⟨e1,e2⟩:=pJ hx h0 k;exact⟨tf (Nat.le_trans e1 hC) hd,tf (Nat.le_trans e2 h1) hd,Fq.valid.n hx⟩
 exact⟨f g.x k1 h2,f g.y k2 h3,f g.z k3 h4⟩
theorem eG.over {q:Qq} {a:Nat} (h:eG a q) (g:q.good):∃F W X Y Z:Int,F≠0∧q.w.v*(F:Rat)=W∧q.x.v*(F:Rat)=X∧q.y.v*(F:Rat)=Y∧q.z.v*(F:Rat)=Z∧Bd (2^a) F∧Bd (2^a) W∧Bd (2^a) X∧Bd (2^a) Y∧Bd (2^a) Z:=by
 obtain⟨W,X,Y,Z,⟨k,hk,e⟩,h1,h2,h3,h4⟩:=h;have e0:=g.one;rw[lf g.comp,e,oR k hk]at e0;have hF:∃F:Int,(QR.mk (W:Rat) X Y Z).fst=(F:Rat)∧Bd (2^a) F:=by
  unfold QR.fst;simp only;split
  ·exact⟨W,rfl,h1⟩
  ·split
   ·exact⟨X,rfl,h2⟩
   ·split
    ·exact⟨Y,rfl,h3⟩
    ·exact⟨Z,rfl,h4⟩
 obtain⟨F,hF,hB⟩:=hF;rw[hF]at e0;have e1:=congrArg QR.w e;have e2:=congrArg QR.x e;have e3:=congrArg QR.y e;have e4:=congrArg QR.z e;unfold QR.smul Qq.r at e1 e2 e3 e4;simp only at e1 e2 e3 e4;refine⟨F,W,X,Y,Z,fun h=> ?_,?_,?_,?_,?_,hB,h1,h2,h3,h4⟩
 ·rw[h]at e0;simp at e0
 ·grind
 ·grind
 ·grind
 ·grind
theorem eG.ok {q:Qq} {a d:Nat} (h:eG a q) (g:q.good) (hd:a<32*d):q.ok d:=by
 obtain⟨F,W,X,Y,Z,h0,k0,k1,k2,k3,hF,h1,h2,h3,h4⟩:=h.over g;have f:∀ {x:Fq} {C:Int},x.valid=true→x.v*(F:Rat)=C→Bd (2^a) C→x.ok d:=fun hx k hC=>by
  obtain⟨e1,e2⟩:=pJ hx h0 k;exact⟨tf (Nat.le_trans e1 hC) hd,tf (Nat.le_trans e2 hF) hd,Fq.valid.n hx⟩
 exact⟨f g.comp.w k0 h1,f g.comp.x k1 h2,f g.comp.y k2 h3,f g.comp.z k3 h4⟩
theorem eG.id:eG 0 Qq.id:=⟨1,0,0,0,by rw[id_r];exact Sim.refl _,Nat.le_refl _,Nat.zero_le _,Nat.zero_le _,Nat.zero_le _⟩
theorem eD.zero:eD 0 (Vq.of 0 0 0):=⟨1,0,0,0,by decide,by rw[show(Vq.of 0 0 0).x=Fq.ofInt 0 from rfl,da];simp,by rw[show(Vq.of 0 0 0).y=Fq.ofInt 0 from rfl,da];simp,by rw[show(Vq.of 0 0 0).z=Fq.ofInt 0 from rfl,da];simp,Nat.le_refl _,Nat.zero_le _,Nat.zero_le _,Nat.zero_le _⟩
theorem eG.mul {p q:Qq} {a b:Nat} (h:eG a p) (k:eG b q) (gp:p.good) (gq:q.good):eG (a+b+2) (p.mul q):=by
 obtain⟨W,X,Y,Z,h0,h1,h2,h3,h4⟩:=h;obtain⟨W',X',Y',Z',k0,k1,k2,k3,k4⟩:=k;have e:2^a*2^b+(2^a*2^b+(2^a*2^b+2^a*2^b))=2^(a+b+2):=by rw[Nat.pow_add,Nat.pow_add];omega
 have e':2^b*2^a=2^a*2^b:=Nat.mul_comm _ _;refine⟨W*W' - (X*X'+(Y*Y'+Z*Z')),X'*W+X*W'+(Y*Z' - Z*Y'),Y'*W+Y*W'+(Z*X' - X*Z'),Z'*W+Z*W'+(X*Y' - Y*X'),?_,?_,?_,?_,?_⟩
 ·have:=(Sim.mul h0 k0).trans (yj gp gq);unfold QR.mul at this;simp only at this;simp only[Rat.intCast_sub,Rat.intCast_add,Rat.intCast_mul];exact this
 ·exact((h1.mul k1).sub ((h2.mul k2).add ((h3.mul k3).add (h4.mul k4)))).mono (Nat.le_of_eq e)
 ·exact(((k2.mul h1).add (h2.mul k1)).add ((h3.mul k4).sub (h4.mul k3))).mono (by omega)
 ·exact(((k3.mul h1).add (h3.mul k1)).add ((h4.mul k2).sub (h2.mul k4))).mono (by omega)
 ·exact(((k4.mul h1).add (h4.mul k1)).add ((h2.mul k3).sub (h3.mul k2))).mono (by omega)
theorem eG.inv {q:Qq} {a:Nat} (h:eG a q) (g:q.good):eG a q.inv:=by
 obtain⟨W,X,Y,Z,h0,h1,h2,h3,h4⟩:=h;refine⟨W, -X, -Y, -Z,?_,h1,h2.neg,h3.neg,h4.neg⟩;have:=(Sim.conj h0).trans (yk g);unfold QR.conj at this;simp only at this;simp only[Rat.intCast_neg];exact this
theorem eD.app {q:Qq} {v:Vq} {a b:Nat} (h:eG a q) (k:eD b v) (g:q.good) (gv:v.good):eD (2*a+b+4) (q.app v):=by
 obtain⟨W,X,Y,Z,h0,h1,h2,h3,h4⟩:=h;obtain⟨D,x,y,z,d0,c1,c2,c3,k0,k1,k2,k3⟩:=k;have hq0:q.r.nrm≠0:=dK g;have hQ0:(QR.mk (W:Rat) X Y Z).nrm≠0:=Sim.nrm h0.symm hq0;have hr:(q.app v).r=(QR.mk (W:Rat) X Y Z).app v.r:=by rw[qX g gv,app_sim h0 hQ0]
 have hN:(QR.mk (W:Rat) X Y Z).nrm=((W*W+(X*X+(Y*Y+Z*Z)):Int):Rat):=by
  unfold QR.nrm;simp only[Rat.intCast_add,Rat.intCast_mul]
 have hi:=Rat.inv_mul_cancel _ hQ0;have hA:2^(2*a+b+4)=16*(2^a*2^a*2^b):=by
  rw[Nat.pow_add,Nat.pow_add,Nat.two_mul,Nat.pow_add];omega
 have hW:0<(2:Nat)^a:=Nat.pow_pos (by decide);have e1:2^a*2^b*2^a=2^a*2^a*2^b:=by rw[Nat.mul_assoc,Nat.mul_comm (2^b),←Nat.mul_assoc]
 refine⟨(W*W+(X*X+(Y*Y+Z*Z)))*D,(W*W - (X*X+(Y*Y+Z*Z)))*x+(2*(X*x+(Y*y+Z*z)))*X+(2*W)*(Y*z - Z*y),
  (W*W - (X*X+(Y*Y+Z*Z)))*y+(2*(X*x+(Y*y+Z*z)))*Y+(2*W)*(Z*x - X*z),
  (W*W - (X*X+(Y*Y+Z*Z)))*z+(2*(X*x+(Y*y+Z*z)))*Z+(2*W)*(X*y - Y*x),?_,?_,?_,?_,?_,?_,?_,?_⟩
 ·intro h;rcases Int.mul_eq_zero.1 h with h | h
  ·exact hQ0 (by rw[hN,h];rfl)
  ·exact d0 h
 ·have:=congrArg VR.x hr;unfold QR.app VR.smul QR.rot Vq.r at this;simp only at this;rw[this];simp only[Rat.intCast_sub,Rat.intCast_add,Rat.intCast_mul,←c1,←c2,←c3];rw[hN]at hi⊢;simp only[Rat.intCast_add,Rat.intCast_mul]at hi⊢;have e2:((2:Int):Rat)=2:=rfl
  grind
 ·have:=congrArg VR.y hr;unfold QR.app VR.smul QR.rot Vq.r at this;simp only at this;rw[this];simp only[Rat.intCast_sub,Rat.intCast_add,Rat.intCast_mul,←c1,←c2,←c3];rw[hN]at hi⊢;simp only[Rat.intCast_add,Rat.intCast_mul]at hi⊢;have e2:((2:Int):Rat)=2:=rfl
  grind
 ·have:=congrArg VR.z hr;unfold QR.app VR.smul QR.rot Vq.r at this;simp only at this;rw[this];simp only[Rat.intCast_sub,Rat.intCast_add,Rat.intCast_mul,←c1,←c2,←c3];rw[hN]at hi⊢;simp only[Rat.intCast_add,Rat.intCast_mul]at hi⊢;have e2:((2:Int):Rat)=2:=rfl
  grind
 ·refine(((h1.mul h1).add ((h2.mul h2).add ((h3.mul h3).add (h4.mul h4)))).mul k0).mono ?_;rw[hA];have:(2^a*2^a+(2^a*2^a+(2^a*2^a+2^a*2^a)))*2^b=4*(2^a*2^a*2^b):=by grind
  omega
 ·refine((((h1.mul h1).sub ((h2.mul h2).add ((h3.mul h3).add (h4.mul h4)))).mul k1).add ((Bd.two.mul ((h2.mul k1).add ((h3.mul k2).add (h4.mul k3)))).mul h2) |>.add ((Bd.two.mul h1).mul ((h3.mul k3).sub (h4.mul k2)))).mono ?_;rw[hA];generalize 2^a=A at *;generalize 2^b=B at *;have:(A*A+(A*A+(A*A+A*A)))*B+2*(A*B+(A*B+A*B))*A+2*A*(A*B+A*B)=14*(A*A*B):=by grind
  omega
 ·refine((((h1.mul h1).sub ((h2.mul h2).add ((h3.mul h3).add (h4.mul h4)))).mul k2).add ((Bd.two.mul ((h2.mul k1).add ((h3.mul k2).add (h4.mul k3)))).mul h3) |>.add ((Bd.two.mul h1).mul ((h4.mul k1).sub (h2.mul k3)))).mono ?_;rw[hA];generalize 2^a=A at *;generalize 2^b=B at *;have:(A*A+(A*A+(A*A+A*A)))*B+2*(A*B+(A*B+A*B))*A+2*A*(A*B+A*B)=14*(A*A*B):=by grind
  omega
 ·refine((((h1.mul h1).sub ((h2.mul h2).add ((h3.mul h3).add (h4.mul h4)))).mul k3).add ((Bd.two.mul ((h2.mul k1).add ((h3.mul k2).add (h4.mul k3)))).mul h4) |>.add ((Bd.two.mul h1).mul ((h2.mul k2).sub (h3.mul k1)))).mono ?_;rw[hA];generalize 2^a=A at *;generalize 2^b=B at *;have:(A*A+(A*A+(A*A+A*A)))*B+2*(A*B+(A*B+A*B))*A+2*A*(A*B+A*B)=14*(A*A*B):=by grind
  omega
theorem eD.add {u v:Vq} {a b:Nat} (h:eD a u) (k:eD b v) (gu:u.good) (gv:v.good):eD (a+b+1) (u.add v):=by
 obtain⟨D,X,Y,Z,h0,c1,c2,c3,h1,h2,h3,h4⟩:=h;obtain⟨D',X',Y',Z',k0,d1,d2,d3,k1,k2,k3,k4⟩:=k;obtain⟨s1,s2,s3⟩:=mX gu gv;have e:2^a*2^b+2^a*2^b=2^(a+b+1):=by rw[Nat.pow_add,Nat.pow_add];omega
 have e':2^b*2^a=2^a*2^b:=Nat.mul_comm _ _;refine⟨D*D',X*D'+X'*D,Y*D'+Y'*D,Z*D'+Z'*D,fun h=>(Int.mul_eq_zero.1 h).elim h0 k0,?_,?_,?_,(h1.mul k1).mono (by omega),((h2.mul k1).add (k2.mul h1)).mono (by omega),((h3.mul k1).add (k3.mul h1)).mono (by omega),((h4.mul k1).add (k4.mul h1)).mono (by omega)⟩
 ·rw[s1];simp only[Rat.intCast_add,Rat.intCast_mul,←c1,←d1];grind
 ·rw[s2];simp only[Rat.intCast_add,Rat.intCast_mul,←c2,←d2];grind
 ·rw[s3];simp only[Rat.intCast_add,Rat.intCast_mul,←c3,←d3];grind
theorem eD.opp {v:Vq} {b:Nat} (h:eD b v) (g:v.good):eD b (v.scale (Fq.ofInt (-1))):=by
 obtain⟨D,X,Y,Z,h0,c1,c2,c3,h1,h2,h3,h4⟩:=h;obtain⟨s1,s2,s3⟩:=el g (aG (-1));have e:=da (-1);have e1:((-1:Int):Rat)= -1:=rfl;refine⟨D, -X, -Y, -Z,h0,?_,?_,?_,h1,h2.neg,h3.neg,h4.neg⟩
 ·rw[s1,e,e1,show((-X:Int):Rat)= -(X:Rat)from Rat.intCast_neg X,←c1];grind
 ·rw[s2,e,e1,show((-Y:Int):Rat)= -(Y:Rat)from Rat.intCast_neg Y,←c2];grind
 ·rw[s3,e,e1,show((-Z:Int):Rat)= -(Z:Rat)from Rat.intCast_neg Z,←c3];grind
theorem eD.lerp {u v:Vq} {t:Fq} {a b c:Nat} (h:eD a u) (k:eD b v) (gu:u.good) (gv:v.good) (gt:t.valid=true) {n m:Int} (hm:m≠0) (ht:t.v*(m:Rat)=n) (hn:Bd (2^c) n) (hm2:Bd (2^c) m):eD (a+b+c+2) (u.lerp v t):=by
 obtain⟨D,X,Y,Z,h0,c1,c2,c3,h1,h2,h3,h4⟩:=h;obtain⟨D',X',Y',Z',k0,d1,d2,d3,k1,k2,k3,k4⟩:=k;obtain⟨s1,s2,s3⟩:=lerp_v gu gv gt;have e:4*(2^a*2^b*2^c)=2^(a+b+c+2):=by rw[Nat.pow_add,Nat.pow_add,Nat.pow_add];omega
 have e':2^b*2^a=2^a*2^b:=Nat.mul_comm _ _;have hb:∀ {X X':Int},Bd (2^a) X→Bd (2^b) X'→Bd (2^(a+b+c+2)) (X*D'*m+(X'*D - X*D')*n):=fun hX hX'=>by
  refine(((hX.mul k1).mul hm2).add (((hX'.mul h1).sub (hX.mul k1)).mul hn)).mono ?_;rw[←e,e',Nat.add_mul];omega
 refine⟨D*D'*m,X*D'*m+(X'*D - X*D')*n,Y*D'*m+(Y'*D - Y*D')*n,Z*D'*m+(Z'*D - Z*D')*n,fun h=>(Int.mul_eq_zero.1 h).elim (fun h=>(Int.mul_eq_zero.1 h).elim h0 k0) hm,?_,?_,?_,((h1.mul k1).mul hm2).mono (by omega),hb h2 k2,hb h3 k3,hb h4 k4⟩
 ·rw[s1];simp only[Rat.intCast_add,Rat.intCast_sub,Rat.intCast_mul,←c1,←d1,←ht];grind
 ·rw[s2];simp only[Rat.intCast_add,Rat.intCast_sub,Rat.intCast_mul,←c2,←d2,←ht];grind
 ·rw[s3];simp only[Rat.intCast_add,Rat.intCast_sub,Rat.intCast_mul,←c3,←d3,←ht];grind
theorem eG.way {p d:Qq} {t:Fq} {a b c:Nat} (h:eG a p) (k:eG b d) (gp:p.good) (gd:d.good) (gt:t.valid=true) {n m:Int} (hm:m≠0) (ht:t.v*(m:Rat)=n) (hn:Bd (2^c) n) (hm2:Bd (2^c) m):eG (a+(b+c)+2) (p.way d t):=by
 obtain⟨F,W,X,Y,Z,h0,k0,k1,k2,k3,hF,h1,h2,h3,h4⟩:=k.over gd;unfold Qq.way;rw[ws (qY gd.comp gt)];refine eG.mul h ?_ gp (qY gd.comp gt);obtain⟨s1,s2,s3⟩:=el gd.comp.axis gt;have hmF:(m:Rat)*(F:Rat)≠0:=dX (ro hm) (ro h0);have e:2^c*2^b=2^(b+c):=by rw[Nat.pow_add,Nat.mul_comm]
 have hi:=Rat.inv_mul_cancel _ hmF;refine⟨m*F,n*X,n*Y,n*Z,⟨((m:Rat)*(F:Rat))⁻¹,sk hmF,?_⟩,e▸hm2.mul hF,e▸hn.mul h2,e▸hn.mul h3,e▸hn.mul h4⟩;have e1:(Fq.ofInt 1).v=1:=by rw[da];rfl
 unfold QR.smul Qq.r
 ext<;>simp only[Rat.intCast_mul,←k1,←k2,←k3,←ht]
 ·rw[e1];exact hi.symm
 ·rw[s1];show d.x.v*_=_;grind
 ·rw[s2];show d.y.v*_=_;grind
 ·rw[s3];show d.z.v*_=_;grind
theorem fy {x:Fq} (hx:x.valid=true) (h:x.ok 2):(x.q:Int)≠0∧x.v*((x.q:Int):Rat)=(Fq.sg x.s x.p:Int)∧Bd (2^64) (x.q:Int)∧Bd (2^64) (Fq.sg x.s x.p):=by
 have hn:=Fq.valid.n hx;have e:(4294967296:Nat)^2=2^64:=by decide
 have hp:=aR.1 h.p;have hq:=aR.1 h.q;rw[e]at hp hq;refine⟨by omega,?_,?_,?_⟩
 ·unfold Fq.v;rw[←Rat.mkRat_one (x:=(x.q:Int)),←Rat.mkRat_one (x:=Fq.sg x.s x.p),Rat.mkRat_mul_mkRat,Rat.mkRat_eq_iff (by simpa using hn) (by decide)];simp
 ·unfold Bd;omega
 ·unfold Bd;rw[mo];omega
theorem eD.two {v:Vq} (g:v.good) (h:v.ok 2):eD 192 v:=by
 obtain⟨a1,a2,a3,a4⟩:=fy g.x h.x;obtain⟨b1,b2,b3,b4⟩:=fy g.y h.y;obtain⟨c1,c2,c3,c4⟩:=fy g.z h.z;generalize (v.x.q:Int)=A at *;generalize (v.y.q:Int)=B at *;generalize (v.z.q:Int)=C at *;generalize Fq.sg v.x.s v.x.p=a at *;generalize Fq.sg v.y.s v.y.p=b at *;generalize Fq.sg v.z.s v.z.p=c at *;have e:(2:Nat)^64*(2^64*2^64)=2^192:=by decide
 refine⟨A*(B*C),a*(B*C),b*(A*C),c*(A*B),fun h=>(Int.mul_eq_zero.1 h).elim a1 (fun h=>(Int.mul_eq_zero.1 h).elim b1 c1),?_,?_,?_,e▸a3.mul (b3.mul c3),e▸a4.mul (b3.mul c3),e▸b4.mul (a3.mul c3),e▸c4.mul (a3.mul b3)⟩
 ·simp only[Rat.intCast_mul,←a2];grind
 ·simp only[Rat.intCast_mul,←b2];grind
 ·simp only[Rat.intCast_mul,←c2];grind
theorem eG.two {q:Qq} (g:q.good) (h:q.ok 2):eG 256 q:=by
 obtain⟨d1,d2,d3,d4⟩:=fy g.comp.w h.w;obtain⟨a1,a2,a3,a4⟩:=fy g.comp.x h.x;obtain⟨b1,b2,b3,b4⟩:=fy g.comp.y h.y;obtain⟨c1,c2,c3,c4⟩:=fy g.comp.z h.z;generalize (q.w.q:Int)=D at *;generalize (q.x.q:Int)=A at *;generalize (q.y.q:Int)=B at *;generalize (q.z.q:Int)=C at *;generalize Fq.sg q.w.s q.w.p=d at *;generalize Fq.sg q.x.s q.x.p=a at *;generalize Fq.sg q.y.s q.y.p=b at *;generalize Fq.sg q.z.s q.z.p=c at *;have e:(2:Nat)^64*(2^64*(2^64*2^64))=2^256:=by decide
 have hK:(D:Rat)*((A:Rat)*((B:Rat)*(C:Rat)))≠0:=dX (ro d1) (dX (ro a1) (dX (ro b1) (ro c1)));have hi:=Rat.inv_mul_cancel _ hK;refine⟨d*(A*(B*C)),a*(D*(B*C)),b*(D*(A*C)),c*(D*(A*B)),⟨_,sk hK,?_⟩,e▸d4.mul (a3.mul (b3.mul c3)),e▸a4.mul (d3.mul (b3.mul c3)),e▸b4.mul (d3.mul (a3.mul c3)),e▸c4.mul (d3.mul (a3.mul b3))⟩;unfold QR.smul Qq.r
 ext<;>simp only[Rat.intCast_mul,←a2,←b2,←c2,←d2]<;>grind
section
open Classical
structure Rep (a b:Nat) (p:Pq):Prop where
 q:eG a p.rot
 v:eD b p.pos
 g:p.good
section
variable {a b a' b' d:Nat} {p p':Pq}
theorem Rep.mono (h:Rep a b p) (ha:a≤a') (hb:b≤b'):Rep a' b' p:=⟨h.q.mono ha,h.v.mono hb,h.g⟩
theorem Rep.app {v:Vq} {c:Nat} (h:Rep a b p) (k:eD c v) (gv:v.good):eD (2*a+c+4+b+1) (p.app v):=(k.app h.q h.g.rot gv).add h.v (ci h.g.rot gv) h.g.pos
theorem Rep.mul (h:Rep a b p) (k:Rep a' b' p'):Rep (a+a'+2) (2*a+b'+4+b+1) (p.mul p'):=⟨h.q.mul k.q h.g.rot k.g.rot,h.app k.v k.g.pos,h.g.mul k.g⟩
theorem Rep.inv (h:Rep a b p):Rep a (2*a+b+4) p.inv:=⟨h.q.inv h.g.rot,(h.v.opp h.g.pos).app (h.q.inv h.g.rot) (aZ h.g.rot) (h.g.pos.scale (aG _)),h.g.inv⟩
theorem Rep.ok (h:Rep a b p) (ha:a<32*d) (hb:b<32*d):p.ok d:=⟨h.q.ok h.g.rot ha,h.v.ok h.g.pos hb⟩
theorem Rep.two (g:p.good) (h:p.ok 2):Rep 256 192 p:=⟨.two g.rot h.rot,.two g.pos h.pos,g⟩
theorem Rep.id:Rep 0 0 Pq.id:=⟨.id,.zero,.id⟩
end
theorem ratio_int {v u:Int} (h:0<u):(Fq.ratio v u).v*(u:Rat)=v:=by
 unfold Fq.ratio;rw[ye (by omega)];have e:Fq.sg (decide (v<0) !=decide (u<0)) v.natAbs=v:=by
  rw[decide_eq_false (show¬u<0 by omega)];unfold Fq.sg;by_cases hv:v<0
  ·rw[decide_eq_true hv];simp;omega
  ·rw[decide_eq_false hv];simp;omega
 rw[e,←Rat.mkRat_one (x:=u),←Rat.mkRat_one (x:=v),Rat.mkRat_mul_mkRat,Rat.mkRat_eq_iff (by omega) (by decide)];have:(u.natAbs:Int)=u:=by omega
 simp[this]
theorem atP_rep {S:List St} {a:Int} {z y:St} (hS:GoodS S) (h:Road S a z y 0):Rep 812 426 (atP z y 0 a):=by
 obtain⟨gz,gy,h1,h2,_⟩:=road_z hS h rfl;unfold atP;rw[if_neg (by omega)];split
 ·exact(Rep.two gy.good gy.ok).mono (by decide) (by decide)
 ·have zl:=gz.lo;have yh:=gy.hi;have hm:0<y.tm - z.tm:=by omega
  have v:=fL (v:=a - z.tm) (u:=y.tm - z.tm) (by omega);have e:=ratio_int (v:=a - z.tm) hm;have p40:(2:Nat)^40=1099511627776:=by decide
  have n1:Bd (2^40) (a - z.tm):=by unfold Bd;omega
  have n2:Bd (2^40) (y.tm - z.tm):=by unfold Bd;omega
  have rz:=Rep.two gz.good gz.ok;have ry:=Rep.two gy.good gy.ok;have rd:=(rz.q.inv gz.good.rot).mul ry.q (aZ gz.good.rot) gy.good.rot;exact⟨rz.q.way rd gz.good.rot (fg (aZ gz.good.rot) gy.good.rot) v (by omega) e n1 n2,rz.v.lerp ry.v gz.good.pos gy.good.pos v (by omega) e n1 n2,Pq.good.btw gz.good gy.good v⟩
theorem edge_rep {R:Tr} (hR:TOk R) {c:Nm} {a:Int} (h:(dR R c a).2=0):Rep 812 426 (dR R c a).1:=by
 unfold dR at h⊢
 cases ht:tAt R c a with
 | none=>rw[ht]at h;cases h
 | some x=>
  rw[ht]at h;simp only at h⊢;by_cases hs:x.st=true
  ·rw[if_pos hs];obtain⟨g,k⟩:=hR.pose _ (nY ht).1 hs;exact(Rep.two g k).mono (by decide) (by decide)
  ·rw[if_neg hs]at h⊢;have hg:=hR.good _ (nY ht).1;obtain⟨z,y,cc,hr⟩:=road hg a;rw[hr.trkP]at h⊢;simp only at h;subst h;exact atP_rep hg hr
theorem pK {R:Tr} (hR:TOk R) (a:Int):∀(l:List Nm) (k:Nat) (p:Pq),Rep (814*k) (2055*k) p→k+l.length≤24→kn R a l p∧((gE R a l p).2=0→Rep 19536 49320 (gE R a l p).1)
 | [],k,p,h,hk=>⟨trivial,fun _=>h.mono (by simp at hk;omega) (by simp at hk;omega)⟩
 | f::l,k,p,h,hk=>by
  rw[List.length_cons]at hk;by_cases h0:(dR R f a).2=0
  ·have he:=edge_rep hR h0;have hm:Rep (814*(k+1)) (2055*(k+1)) ((dR R f a).1.mul p):=(he.mul h).mono (by omega) (by omega);obtain⟨i1,i2⟩:=pK hR a l (k+1) _ hm (by omega);refine⟨fun _=>⟨he.ok (by decide) (by decide),he.g,h.ok (by omega) (by omega),h.g,i1⟩,?_⟩;unfold gE;rw[if_pos h0];exact i2
  ·refine⟨fun h=>absurd h h0,fun h=> ?_⟩;unfold gE at h;rw[if_neg h0]at h;exact absurd h h0
theorem anc_len {R:Tr} (hR:Sane R) (a:Int) (x:Nm):(eF R a x).length≤24:=by
 by_cases hx:a8 R x
 ·exact i4 hR hx
 ·have h:=jt hR.ok a x
  cases hp:par R a x with
  | none=>
   rw[te (.root hp)];simp
  | some y=>
   obtain⟨q,hq,_,_⟩:=jl hp;exact absurd ⟨_,hq,.inl rfl⟩ hx
theorem pL {R:Tr} (hR:Sane R) (a:Int) (tq fr:Nm):FindOk R a tq fr∧((bJ R a tq fr).2=0→Rep 39074 176793 (bJ R a tq fr).1):=by
 have lb:∀x top,0+(dh (eF R a x) top).length≤24:=fun x top=>by
  have h1:=anc_len hR a x;have h2:(dh (eF R a x) top).length≤_:=(List.takeWhile_sublist _).length_le;omega
 obtain⟨u1,u2⟩:=pK hR.ok a _ 0 Pq.id Rep.id (lb fr (bx R a fr tq).1);obtain⟨d1,d2⟩:=pK hR.ok a _ 0 Pq.id Rep.id (lb tq (bx R a fr tq).1);refine⟨⟨u1,d1,fun h=>⟨(u2 h).ok (by decide) (by decide),(u2 h).g⟩,fun h=>⟨(d2 h).ok (by decide) (by decide),(d2 h).g,(d2 h).inv.ok (by decide) (by decide)⟩⟩,fun h=> ?_⟩;unfold bJ at h⊢;by_cases h0:(bx R a fr tq).2=0
 ·rw[if_neg (by simpa using h0)]at h⊢;by_cases hu:(upP R a fr (bx R a fr tq).1).2=0
  ·rw[if_neg (by simpa using hu)]at h⊢;by_cases hd:(upP R a tq (bx R a fr tq).1).2=0
   ·rw[if_neg (by simpa using hd)];exact(d2 hd).inv.mul (u2 hu)
   ·rw[if_pos hd]at h;exact absurd h hd
  ·rw[if_pos hu]at h;exact absurd h hu
 ·rw[if_pos h0]at h;exact absurd h h0
theorem find_ok {R:Tr} (hR:Sane R) (a:Int) (tq fr:Nm):FindOk R a tq fr:=(pL hR a tq fr).1
theorem vg {R:Tr} (hR:Sane R) {a:Int} {tq fr:Nm} (h:(bJ R a tq fr).2=0):(bJ R a tq fr).1.ok 6000∧(bJ R a tq fr).1.good:=⟨((pL hR a tq fr).2 h).ok (by decide) (by decide),((pL hR a tq fr).2 h).g⟩
theorem findP_ok {R:Tr} {a:Int} {tq fr top:Nm} {U D:Pq} (hm:bx R a fr tq=(top,0)) (hu:upP R a fr top=(U,0)) (hd:upP R a tq top=(D,0)):bJ R a tq fr=(D.inv.mul U,0):=by
 unfold bJ;rw[hm,if_neg (by simp),hu,if_neg (by simp),hd,if_neg (by simp)]
theorem findP_up {R:Tr} {a:Int} {tq fr top:Nm} {U:Pq} {c:Int} (hm:bx R a fr tq=(top,0)) (hu:upP R a fr top=(U,c)) (h:c≠0):bJ R a tq fr=(Pq.zero,c):=by
 unfold bJ;rw[hm,if_neg (by simp),hu,if_pos h]
end
section
open Classical
theorem yM {α:Type} {x:α}:∀ {P P' S S':List α},P++x::S=P'++x::S'→(P++x::S).Nodup→P=P'∧S=S'
 | [],[],S,S',h,_=>⟨rfl,by simpa using h⟩
 | [],p::P',S,S',h,hd=>by
  simp only[List.nil_append,List.cons_append,List.cons.injEq]at h hd;obtain⟨rfl,rfl⟩:=h;exact absurd (List.mem_append.2 (.inr (List.mem_cons_self ..))) (List.nodup_cons.1 hd).1
 | p::P,[],S,S',h,hd=>by
  simp only[List.nil_append,List.cons_append,List.cons.injEq]at h hd;obtain⟨rfl,rfl⟩:=h;exact absurd (List.mem_append.2 (.inr (List.mem_cons_self ..))) (List.nodup_cons.1 hd).1
 | p::P,p'::P',S,S',h,hd=>by
  simp only[List.cons_append,List.cons.injEq]at h hd;obtain⟨rfl,h⟩:=h;obtain⟨e1,e2⟩:=yM h (List.nodup_cons.1 hd).2;exact⟨by rw[e1],e2⟩
section
variable {R Q R' Q' A B A' B':Tr} {c p:Nm} {x x':Lk} {k k':Nat} {a f u e e':Int}
theorem TOk.nodup (h:TOk R) (c:Nm):(lks R c).Nodup:=by
 refine List.Pairwise.imp_of_mem (fun {x y} hx hy k e=> ?_) (h.row c);subst e;have:=h.tm _ (cn.1 hx);simp only at this;omega
theorem tg (h:REq (A++(c,x)::B) (A'++(c,x)::B')) (hd:TOk (A++(c,x)::B)):REq (A++(c,x')::B) (A'++(c,x')::B'):=fun y=>by
 have hy:=h y;have hn:=hd.nodup y;rw[cM,cM]at hy⊢;rw[cM]at hn;by_cases e:y=c
 ·rw[if_pos e,if_pos e]at hy⊢;rw[if_pos e]at hn;obtain⟨e1,e2⟩:=yM hy hn;rw[e1,e2]
 ·rw[if_neg e,if_neg e]at hy⊢;exact hy
theorem eE.of (h:x.un= -1):eE (A++(c,x)::B) c A.length x:=⟨by simp,h⟩
theorem ni (hR:TOk R) (hQ:TOk Q) (h:REq R Q) (a:eE R c k x) (b:eE Q c k' x'):x=x':=by
 have h1:=a.last (hR.row c);have h2:=b.last (hQ.row c);rw[h c,h2]at h1;injection h1 with h1;exact h1.symm
theorem jJ (h:REq R Q) (a:pq R c) (b:eE Q c k x):False:=by
 have h1:(c,x)∈R:=(h.mem _).2 (List.mem_of_getElem? b.1);obtain⟨i,hi,e⟩:=List.getElem_of_mem h1;exact a i (c,x) (by rw[List.getElem?_eq_getElem hi,e]) ⟨rfl,b.2⟩
theorem DetS.uniq (hR:TOk R) (hQ:TOk Q) (h:REq R Q) (d:DetS R c u R' e) (d':DetS Q c u Q' e'):e=e'∧REq R' Q':=by
 cases d with
 | none h1=>cases d' with
  | none _=>exact⟨rfl,h⟩
  | time k1 _=>exact(jJ h h1 k1).elim
  | ok e1 k1 _ _=>subst e1;exact(jJ h h1 (eE.of k1)).elim
 | time h1 h2=>cases d' with
  | none k1=>exact(jJ h.symm k1 h1).elim
  | time _ _=>exact⟨rfl,h⟩
  | ok e1 k1 k2 k3=>subst e1;obtain rfl:=ni hR hQ h h1 (eE.of k1);omega
 | ok e1 h1 h2 h3=>subst e1;cases d' with
  | none k1=>exact(jJ h.symm k1 (eE.of h1)).elim
  | time k1 k2=>obtain rfl:=ni hR hQ h (eE.of h1) k1;omega
  | ok e1 k1 k2 k3=>subst e1;obtain rfl:=ni hR hQ h (eE.of h1) (eE.of k1);exact⟨rfl,tg h hR⟩
theorem SetS.uniq {add:List St→List St×Int} (hR:TOk R) (h:REq R Q) (d:SetS add R c a R' e) (d':SetS add Q c a Q' e'):e=e'∧REq R' Q':=by
 have ht:=h.tAt c a
 cases d with
 | none h1=>cases d' with
  | none _=>exact⟨rfl,h⟩
  | still k1 _=>rw[h1,k1]at ht;cases ht
  | ok e1 k1 _=>rw[h1,k1]at ht;cases ht
 | still h1 h2=>cases d' with
  | none k1=>rw[h1,k1]at ht;cases ht
  | still _ _=>exact⟨rfl,h⟩
  | ok e1 k1 k2=>rw[h1,k1]at ht;injection ht with ht;subst ht;rw[h2]at k2;cases k2
 | ok e1 h1 h2=>cases d' with
  | none k1=>rw[h1,k1]at ht;cases ht
  | still k1 k2=>rw[h1,k1]at ht;injection ht with ht;subst ht;rw[h2]at k2;cases k2
  | ok e2 k1 k2=>rw[h1,k1]at ht;injection ht with ht;subst ht;subst e1;subst e2;exact⟨rfl,tg h hR⟩
theorem FixS.uniq {ok:Bool} {q:Pq} (hR:TOk R) (hQ:TOk Q) (h:REq R Q) (d:FixS ok q R c R' e) (d':FixS ok q Q c Q' e'):e=e'∧REq R' Q':=by
 cases d with
 | none h1=>cases d' with
  | none _=>exact⟨rfl,h⟩
  | state k1 _=>exact(jJ h h1 k1).elim
  | range k1 _ _ _=>exact(jJ h h1 k1).elim
  | ok e1 k1 _ _ _=>subst e1;exact(jJ h h1 (eE.of k1)).elim
 | state h1 h2=>cases d' with
  | none k1=>exact(jJ h.symm k1 h1).elim
  | state _ _=>exact⟨rfl,h⟩
  | range k1 k2 k3 _=>obtain rfl:=ni hR hQ h h1 k1;rw[k2,k3]at h2;simp at h2
  | ok e1 k1 k2 k3 _=>subst e1;obtain rfl:=ni hR hQ h h1 (eE.of k1);rw[k2,k3]at h2;simp at h2
 | range h1 h2 h3 h4=>cases d' with
  | none k1=>exact(jJ h.symm k1 h1).elim
  | state k1 k2=>obtain rfl:=ni hR hQ h h1 k1;rw[h2,h3]at k2;simp at k2
  | range _ _ _ _=>exact⟨rfl,h⟩
  | ok e1 k1 k2 k3 k4=>rw[h4]at k4;cases k4
 | ok e1 h1 h2 h3 h4=>subst e1;cases d' with
  | none k1=>exact(jJ h.symm k1 (eE.of h1)).elim
  | state k1 k2=>obtain rfl:=ni hR hQ h (eE.of h1) k1;rw[h2,h3]at k2;simp at k2
  | range _ _ _ k4=>rw[h4]at k4;cases k4
  | ok e1 k1 _ _ _=>subst e1;obtain rfl:=ni hR hQ h (eE.of h1) (eE.of k1);exact⟨rfl,tg h hR⟩
def tj (R:Tr) (c:Nm) (f:Int):Prop:=f<0∨mD<f∨∃x∈lks R c,x.un= -1∨f<x.un
def vh (R:Tr) (c p:Nm):Prop:=∃n,bS (fun x=>a8 R x∨x=c∨x=p) n∧(24<n∨64≤(lks R c).length)
theorem AttS.cls {isN:Nm→Prop} (h:AttS isN R c p f R' e):(e=5∧R'=R∧¬(isN c∧isN p))∨(e=17∧R'=R∧(isN c∧isN p)∧tj R c f)∨(e=15∧R'=R∧(isN c∧isN p)∧¬tj R c f∧vh R c p)∨
  (e=19∧R'=R∧(isN c∧isN p)∧¬tj R c f∧¬vh R c p∧Cyc R c p f)∨(e=0∧R'=lN R c p f∧(isN c∧isN p)∧¬tj R c f∧¬vh R c p∧¬Cyc R c p f):=by
 have hT:0≤f→f≤mD→pq R c→(∀x∈lks R c,x.un≤f)→¬tj R c f:=fun h0 h1 h2 h3 ht=>by
  rcases ht with ht | ht | ⟨x,hx,ht | ht⟩
  ·omega
  ·omega
  ·obtain⟨i,hi,e⟩:=List.getElem_of_mem (cn.1 hx);exact h2 i (c,x) (by rw[List.getElem?_eq_getElem hi,e]) ⟨rfl,ht⟩
  ·have:=h3 x hx;omega
 have hF:∀n,bS (fun x=>a8 R x∨x=c∨x=p) n→n≤24∧(lks R c).length<64→¬vh R c p:=fun n hn hf ⟨m,hm,hg⟩=>by
  have:=bS.uniq hn hm;omega
 cases h with
 | name h=>exact .inl ⟨rfl,rfl,h⟩
 | time h ht=>
  refine .inr (.inl ⟨rfl,rfl,h,?_⟩);rcases ht with ht | ht | ⟨k,x,ht⟩ | ⟨x,hx,ht⟩
  ·exact .inl ht
  ·exact .inr (.inl ht)
  ·exact .inr (.inr ⟨x,cn.2 (List.mem_of_getElem? ht.1),.inl ht.2⟩)
  ·exact .inr (.inr ⟨x,hx,.inr ht⟩)
 | full h h0 h1 h2 h3 n hn hf=>exact .inr (.inr (.inl ⟨rfl,rfl,h,hT h0 h1 h2 h3,n,hn,hf⟩))
 | cycle h h0 h1 h2 h3 n hn hf hc=>exact .inr (.inr (.inr (.inl ⟨rfl,rfl,h,hT h0 h1 h2 h3,hF n hn hf,hc⟩)))
 | ok h h0 h1 h2 h3 n hn hf hc=>exact .inr (.inr (.inr (.inr ⟨rfl,rfl,h,hT h0 h1 h2 h3,hF n hn hf,hc⟩)))
theorem AttS.uniq {isN:Nm→Prop} (h:REq R Q) (d:AttS isN R c p f R' e) (d':AttS isN Q c p f Q' e'):e=e'∧REq R' Q':=by
 have hT:tj R c f↔tj Q c f:=by unfold tj;rw[h c]
 have hF:vh R c p↔vh Q c p:=by unfold vh;rw[h c];simp only[h.known]
 have hC:Cyc R c p f↔Cyc Q c p f:=h.cyc;have ha:REq (lN R c p f) (lN Q c p f):=fun y=>by rw[jm,jm,h y]
 have d1:=d.cls;have d2:=d'.cls;rw[hT,hF,hC]at d1;generalize tj Q c f=T at *;generalize vh Q c p=F at *;generalize Cyc Q c p f=C at *;generalize (isN c∧isN p)=N at *;rcases d1 with⟨rfl,rfl,a1⟩ | ⟨rfl,rfl,a1,a2⟩ | ⟨rfl,rfl,a1,a2,a3⟩ | ⟨rfl,rfl,a1,a2,a3,a4⟩ | ⟨rfl,rfl,a1,a2,a3,a4⟩<;>
 rcases d2 with⟨rfl,rfl,b1⟩ | ⟨rfl,rfl,b1,b2⟩ | ⟨rfl,rfl,b1,b2,b3⟩ | ⟨rfl,rfl,b1,b2,b3,b4⟩ | ⟨rfl,rfl,b1,b2,b3,b4⟩<;>
 first
  | exact⟨rfl,h⟩
  | exact⟨rfl,ha⟩
  | (exfalso;contradiction)
theorem DoS.uniq {s:Ax} (hR:TOk R) (hQ:TOk Q) (h:REq R Q) (d:DoS R s R' e) (d':DoS Q s Q' e'):e=e'∧REq R' Q':=by
 unfold DoS at d d';split at d
 ·rename_i h1;rw[if_pos h1]at d';exact d.uniq hR hQ h d'
 ·rename_i h1;rw[if_neg h1]at d';split at d
  ·rename_i h2;rw[if_pos h2]at d';exact d.uniq hR h d'
  ·rename_i h2;rw[if_neg h2]at d';split at d
   ·rename_i h3;rw[if_pos h3]at d';exact d.uniq hR hQ h d'
   ·rename_i h3;rw[if_neg h3]at d';exact d.uniq h d'
end
end
section
open Go.RowKit Go.Sort Go.Shelf
def Tryz.sortI_ren:Go.Shelf.Ren:=⟨fun | 5=>109 | 8=>174 | 7=>173 | 19=>232 | 20=>233 | 10=>223 | 11=>224 | 12=>225 | 13=>226 | 14=>227 | 15=>228 | 16=>229 | 17=>230 | 18=>231 | 30=>273 | 31=>274 | 32=>275 | 33=>276 | 34=>277 | 35=>278 | 40=>300 | n=>n,fun | 23=>171 | 25=>3 | 3=>3 | 32=>234 | 22=>171 | 0=>0 | 44=>237 | 46=>178 | 4=>4 | 36=>273 | 35=>272 | 41=>277 | 5=>5 | 9=>9 | 53=>299 | 57=>303 | 63=>309 | 64=>310 | n=>n,fun | n=>n⟩
theorem Tryz.sortI:Go.Proofs.SlLaysM.n5 Tryz.prog Tryz.sortI_ren:= {
 mixed:=by kernel_rfl
 f5:=⟨Tryz.f109.name,by decide,Tryz.func109.trans (congrArg some (by kernel_rfl))⟩
 f7:=⟨Tryz.f173.name,by decide,Tryz.func173.trans (congrArg some (by kernel_rfl))⟩
 f8:=Tryz.func174.trans (congrArg some (by kernel_rfl))
 f10:=⟨Tryz.f223.name,by decide,Tryz.func223.trans (congrArg some (by kernel_rfl))⟩
 f11:=⟨Tryz.f224.name,by decide,Tryz.func224.trans (congrArg some (by kernel_rfl))⟩
 f12:=⟨Tryz.f225.name,by decide,Tryz.func225.trans (congrArg some (by kernel_rfl))⟩
 f13:=⟨Tryz.f226.name,by decide,Tryz.func226.trans (congrArg some (by kernel_rfl))⟩
 f14:=⟨Tryz.f227.name,by decide,Tryz.func227.trans (congrArg some (by kernel_rfl))⟩
 f15:=⟨Tryz.f228.name,by decide,Tryz.func228.trans (congrArg some (by kernel_rfl))⟩
 f16:=⟨Tryz.f229.name,by decide,Tryz.func229.trans (congrArg some (by kernel_rfl))⟩
 f17:=⟨Tryz.f230.name,by decide,Tryz.func230.trans (congrArg some (by kernel_rfl))⟩
 f18:=⟨Tryz.f231.name,by decide,Tryz.func231.trans (congrArg some (by kernel_rfl))⟩
 f19:=Tryz.func232.trans (congrArg some (by kernel_rfl))
 f20:=Tryz.func233.trans (congrArg some (by kernel_rfl))
 f30:=⟨Tryz.f273.name,by decide,Tryz.func273.trans (congrArg some (by kernel_rfl))⟩
 f31:=Tryz.func274.trans (congrArg some (by kernel_rfl))
 f32:=Tryz.func275.trans (congrArg some (by kernel_rfl))
 f33:=⟨Tryz.f276.name,by decide,Tryz.func276.trans (congrArg some (by kernel_rfl))⟩
 f34:=⟨Tryz.f277.name,by decide,Tryz.func277.trans (congrArg some (by kernel_rfl))⟩
 f35:=⟨Tryz.f278.name,by decide,Tryz.func278.trans (congrArg some (by kernel_rfl))⟩
 f40:=⟨Tryz.f300.name,by decide,Tryz.func300.trans (congrArg some (by kernel_rfl))⟩
 t0:=Tryz.underlying0
 a0:=Tryz.isAgg0
 z0:=Tryz.sizeOf0
 v0:=Tryz.zeroValue0
 t3:=Tryz.underlying3
 a3:=Tryz.isAgg3
 z3:=Tryz.sizeOf3
 v3:=Tryz.zeroValue3
 t4:=Tryz.underlying4
 a4:=Tryz.isAgg4
 z4:=Tryz.sizeOf4
 v4:=Tryz.zeroValue4
 t5:=Tryz.underlying5
 a5:=Tryz.isAgg5
 z5:=Tryz.sizeOf5
 v5:=Tryz.zeroValue5
 t9:=Tryz.underlying9
 a9:=Tryz.isAgg9
 z9:=Tryz.sizeOf9
 v9:=Tryz.zeroValue9
 t22:=Tryz.underlying171
 a22:=Tryz.isAgg171
 z22:=Tryz.sizeOf171
 v22:=Tryz.zeroValue171
 t23:=Tryz.underlying171
 a23:=Tryz.isAgg171
 z23:=Tryz.sizeOf171
 v23:=Tryz.zeroValue171
 t25:=Tryz.underlying3
 a25:=Tryz.isAgg3
 z25:=Tryz.sizeOf3
 v25:=Tryz.zeroValue3
 t32:=Tryz.underlying234
 a32:=Tryz.isAgg234
 z32:=Tryz.sizeOf234
 v32:=Tryz.zeroValue234
 t35:=Tryz.underlying272
 a35:=Tryz.isAgg272
 z35:=Tryz.sizeOf272
 v35:=Tryz.zeroValue272
 t36:=Tryz.underlying273
 a36:=Tryz.isAgg273
 z36:=Tryz.sizeOf273
 v36:=Tryz.zeroValue273
 t41:=Tryz.underlying277
 a41:=Tryz.isAgg277
 z41:=Tryz.sizeOf277
 v41:=Tryz.zeroValue277
 t44:=Tryz.underlying237
 a44:=Tryz.isAgg237
 z44:=Tryz.sizeOf237
 v44:=Tryz.zeroValue237
 t46:=Tryz.underlying178
 a46:=Tryz.isAgg178
 z46:=Tryz.sizeOf178
 v46:=Tryz.zeroValue178
 t53:=Tryz.underlying299
 a53:=Tryz.isAgg299
 z53:=Tryz.sizeOf299
 v53:=Tryz.zeroValue299
 t57:=Tryz.underlying303
 a57:=Tryz.isAgg303
 z57:=Tryz.sizeOf303
 v57:=Tryz.zeroValue303
 t63:=Tryz.underlying309
 a63:=Tryz.isAgg309
 z63:=Tryz.sizeOf309
 v63:=Tryz.zeroValue309
 t64:=Tryz.underlying310
 a64:=Tryz.isAgg310
 z64:=Tryz.sizeOf310
 v64:=Tryz.zeroValue310}
def Tryz.cmpI_ren:Go.Shelf.Ren:=⟨fun | 20=>111 | n=>n,fun | 22=>171 | 3=>3 | 4=>4 | 0=>0 | n=>n,fun | n=>n⟩
theorem Tryz.cmpI:Go.Proofs.Lays2.n20 Tryz.prog Tryz.cmpI_ren:= {
 mixed:=by kernel_rfl
 f20:=Tryz.func111.trans (congrArg some (by kernel_rfl))
 t0:=Tryz.underlying0
 a0:=Tryz.isAgg0
 z0:=Tryz.sizeOf0
 v0:=Tryz.zeroValue0
 t3:=Tryz.underlying3
 a3:=Tryz.isAgg3
 z3:=Tryz.sizeOf3
 v3:=Tryz.zeroValue3
 t4:=Tryz.underlying4
 a4:=Tryz.isAgg4
 z4:=Tryz.sizeOf4
 v4:=Tryz.zeroValue4
 t22:=Tryz.underlying171
 a22:=Tryz.isAgg171
 z22:=Tryz.sizeOf171
 v22:=Tryz.zeroValue171
 i3:=by kernel_rfl}
abbrev IntsAt (w:World) (b:Nat) (v:Value) (xs:List Int):Prop:=w.ownsRow b 3 1 v xs.length (xs.map (Value.int .i64))
end
end Go.Proofs.YtggfmklppkioeaaGreat
