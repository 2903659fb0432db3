/- Common ancestors. The ancestors below one of them; where two ways meet. Where the ways of two frames meet. The transform up a way. The transform between two frames. Package lookup: Common, Can, Across. Package lookup without a tree. -/
import Derived.Test.YtggfmklppkioeaaGreatP18
import Derived.Deep.RegionHeld3
namespace Go.Proofs.YtggfmklppkioeaaGreat
set_option linter.unusedSimpArgs false
set_option linter.unusedVariables false
set_option maxRecDepth 100000
open Go.RowKit
section
open Go.RowKit Go.Shelf
open Classical
attribute [local go_sem] Oper.semAt_some
theorem zX {w:World} {gf:Nat} {lb:Array Value} {O:Nat} {ys:List Nm} (eg:∀args w,(callFunc gf args).run Tryz.prog w= .ok (.enter gf args) w) (hl:ys.length≤1000)
  (hseq:∀(n:Nat) (w1:World),1≤n→Below w.heap.size w w1→SeqStopsK Fence.wide n Tryz.prog gf lb (fun z:Nm=> #[Value.string z]) (Kb w.heap.size O) (fun zs=>zs=ys) (fun pre=>pre <+:ys) ys.length w1):
  Calls Tryz.prog 150 #[.func (.func gf) #[] lb] w fun e w'=>∃v,e= .returned v∧bc w' w.heap.size v ys∧Below w.heap.size w w':=by
 have has:=q_AppSeq eg hl hseq
 clear hseq eg
 go_enter Tryz.func150,Tryz.ntmps150
 go_wp2_with (go_at_call 205;refine has.mono ?_;rintro e w2 ⟨v,rfl,hrow,hb⟩;have HQ:=Lib.hid (And.intro hrow hb);clear hrow hb)
 go_ret
 exact⟨_,rfl,HQ.out.1,HQ.out.2⟩
theorem SeqStopsK.later {α:Type} {F:Fence} {n:Nat} {P:Program} {g:Nat} {lb:Array Value} {encs:α→Array Value} {Kp:World→World→Prop} {S Sp:List α→Prop} {N:Nat} {w w':World}
  (h:SeqStopsK F n P g lb encs Kp S Sp N w) (hb:Below w.heap.size w w'):SeqStopsK F n P g lb encs Kp S Sp N w':=fun l J Jx W hW hJ hJx hY h0=>h l J Jx W (hb.trans (hW.mono hb.size)) hJ hJx hY h0
theorem dt {P:Program} {fn:Func} {p q:Tmp} {tp tq:TypeId} (h:fn.results=#[.cell p tp,.cell q tq]) (tmps:Array Value) (w:World) {a b:Addr} {u v:Value}
  (hp:tmps.getD p undef= .pointer (some a)) (hq:tmps.getD q undef= .pointer (some b)) (hu:(loadVar tp a).run P w= .ok u w) (hv:(loadVar tq b).run P w= .ok v w):(results fn tmps).run P w= .ok (.tuple #[u,v]) w:=by
 have hp:tmps[p]?.getD undef= .pointer (some a):=by simpa using hp
 have hq:tmps[q]?.getD undef= .pointer (some b):=by simpa using hq
 simp only[results,h]
 simp[Sem.run_bind,Result.andThen,hp,hq,asAddr,hu,hv]
theorem ck {T:TypeId} {d:TypeDesc} {w:World} {a:Addr} {v:Value} (hd:Tryz.prog.underlying T=some d) (ha:(match d with | .struct _ | .array _ _=>true | _=>false)=false) (h:w.cell? a=some v):(loadVar T a).run Tryz.prog w= .ok v w:=by
 have hagg:(isAgg T).run Tryz.prog w= .ok false w:=by
  unfold isAgg
  rw[Sem.run_bind,run_underlying hd]
  cases d<;>simp_all
 simp[loadVar,Sem.run_bind,hagg,h,Result.andThen,go_sem]
abbrev zY (B:Nat):Array Value:=#[.pointer (some ⟨B+1,0,none⟩),.pointer (some ⟨B,0,none⟩),.pointer (some ⟨B+2,0,none⟩)]
abbrev jq (w:World) (t:Nat) (x:Nm) (a:Int):World:=((w.alloc (.cells #[ptB t] 24)).alloc (.cells #[.string x] 9)).alloc (.cells #[.int .i64 a] 3)
theorem gP (w:World) (t:Nat) (x:Nm) (a:Int):Below w.heap.size w (jq w t x a):=(((Below.refl _ w).alloc (Nat.le_refl _) _).alloc (by simp) _).alloc (by simp;omega) _
theorem jk (w:World) (t:Nat) (x:Nm) (a:Int):(jq w t x a).heap.size=w.heap.size+3:=by simp[jq]
theorem wR (w:World) (t:Nat) (x:Nm) (a:Int):(jq w t x a).cell? ⟨w.heap.size,0,none⟩=some (ptB t)∧(jq w t x a).cell? ⟨w.heap.size+1,0,none⟩=some (.string x)∧(jq w t x a).cell? ⟨w.heap.size+2,0,none⟩=some (.int .i64 a):=by
 have h0:=heap_alloc_new w (.cells #[ptB t] 24)
 have h1:=heap_alloc_new (w.alloc (.cells #[ptB t] 24)) (.cells #[.string x] 9)
 have h2:=heap_alloc_new ((w.alloc (.cells #[ptB t] 24)).alloc (.cells #[.string x] 9)) (.cells #[.int .i64 a] 3)
 simp only[World.size_alloc]at h1 h2
 refine⟨?_,?_,?_⟩
 ·rw[aT ((Below.heap_alloc _ _ w.heap.size (by simp;omega)).trans ((Below.heap_alloc _ _ w.heap.size (by simp)).trans h0))];rfl
 ·rw[aT ((Below.heap_alloc _ _ (w.heap.size+1) (by simp)).trans h1)];rfl
 ·rw[aT h2];rfl
theorem sy {t m:Nat} {E:List Ch} {x:Nm} {a:Int} {ys:List Nm} {w:World} {O:Nat} (hT:TM w t m E) (hO:O∉fpT t m E) (hX:bF w O) (hA:Anc (trE E) a x ys) (n:Nat) (w1:World) (hn:1≤n) (hb:Below (jq w t x a).heap.size (jq w t x a) w1):
  SeqStopsK Fence.wide n Tryz.prog 221 (zY w.heap.size) (fun z:Nm=> #[Value.string z]) (Kb (jq w t x a).heap.size O) (fun zs=>zs=ys) (fun pre=>pre <+:ys) ys.length w1:=by
 have hc:=wR w t x a
 have hs:=jk w t x a
 have hb0:=gP w t x a
 have hlt:O<w.heap.size:=hX.1
 exact SeqStopsK.later (zW n hn (hT.below hb0) hO (hX.blk (hb0.block O hlt) hb0.size) ⟨by omega,by omega⟩ ⟨by omega,by omega⟩ ⟨by omega,by omega⟩ hc.2.1 hc.1 hc.2.2 hA) hb
noncomputable def j5 (l l':List Nm):Option Nm:=l.find? fun z=>decide (z∈l')
theorem wS:∀args w,(callFunc 221 args).run Tryz.prog w= .ok (.enter 221 args) w:=aA Tryz.func221 (by kernel_rfl) rfl
set_option maxRecDepth 100000 in
set_option maxHeartbeats 2000000 in
theorem q_common {w:World} {t m:Nat} {E:List Ch} {x y:Nm} {a:Int} {lx ly:List Nm} (hT:TM w t m E) (hx:Anc (trE E) a x lx) (hy:Anc (trE E) a y ly) (h1:lx.length≤1000) (h2:ly.length≤1000):
  Calls Tryz.prog 129 #[ptB t,.string x,.string y,.int .i64 a] w fun e w'=>e= .returned (.tuple #[.string ((j5 lx ly).getD ByteArray.empty),.bool (j5 lx ly).isSome])∧Below w.heap.size w w':=by
 refine(callsIn_wide (n:=3)).1 ?_
 have h3:(1:Nat)≤3:=by decide
 have b8:=Boxed.new w 9 (.string ⟨#[]⟩)
 have b9:=Boxed.new (w.alloc (.cells #[.string ⟨#[]⟩] 9)) 4 (.bool false)
 have hb2:Below w.heap.size w ((w.alloc (.cells #[.string ⟨#[]⟩] 9)).alloc (.cells #[.bool false] 4)):=((Below.refl _ w).alloc (Nat.le_refl _) _).alloc (by simp) _
 rw[World.size_alloc]at b9
 have b8:=b8.alloc (.cells #[.bool false] 4)
 have hs2:((w.alloc (.cells #[.string ⟨#[]⟩] 9)).alloc (.cells #[.bool false] 4)).heap.size=w.heap.size+2:=by simp
 obtain⟨W2,hW2⟩:∃W2,(w.alloc (.cells #[.string ⟨#[]⟩] 9)).alloc (.cells #[.bool false] 4)=W2:=⟨_,rfl⟩
 rw[hW2]at b8 b9 hb2 hs2
 have hT2:=hT.below hb2
 have hn8:w.heap.size∉fpT t m E:=fun hm=>by have:=hT.lt _ hm;omega
 have hX8:bF W2 w.heap.size:=.mk' (show W2.heap[w.heap.size]? =some (.cells #[.string ⟨#[]⟩] 9 (0,0))from b8) (fun k n hk=>by cases k<;>simp at hk)
 have han:=wQ W2 t y a
 have hco:=zX (w:=jq W2 t y a) (O:=w.heap.size) wS h2 (fun n w1 hn hb=>sy hT2 hn8 hX8 hy n w1 hn hb)
 refine callsIn_of_wp_marks Tryz.func129 rfl trivial ?_ rfl
 simp only[Tryz.ntmps129,List.size_toArray,List.length_cons,List.length_nil,Nat.reduceAdd,Nat.reduceSub,Array.replicate_succ,Array.replicate_zero,List.push_toArray,List.append_toArray,List.nil_append,List.cons_append]
 have HS2:=Lib.hid hs2
 have HT:=Lib.hid hT
 have HX:=Lib.hid hx
 have HB2:=Lib.hid hb2
 have HBX:=Lib.hid (And.intro b8 b9)
 have HN8:=Lib.hid hn8
 clear hT hb2 hT2 hn8 hX8 hx hy hs2 b8 b9
 gi_wp2_with (first
  | (refine⟨trivial,?_⟩;gi_at_call 171;refine(callsIn_wide.2 han).mono ?_;clear han;rintro e w' ⟨B,rfl,rfl,rfl⟩)
  | (refine⟨trivial,?_⟩;gi_at_call 150;refine(callsIn_wide.2 hco).mono ?_;clear hco;rintro e W3 ⟨v,rfl,hrow,hb⟩;obtain⟨adl,cpl,rfl⟩:=ft hrow;have HR:=Lib.hid hrow;have HB3:=Lib.hid hb;clear hrow hb;have han2:=fun w=>wQ w t x a)
  | (refine⟨trivial,?_⟩;gi_at_call 171;refine(callsIn_wide.2 (han2 _)).mono ?_;clear han2;rintro e w' ⟨B,rfl,rfl,rfl⟩))
 clear hW2
 obtain⟨W4,hW4⟩:∃W4,W3.alloc (.cells #[.slice adl ly.length cpl] 68)=W4:=⟨_,rfl⟩
 have hs4:W4.heap.size=W3.heap.size+1:=by rw[←hW4];exact asz _ _
 have hsA:=jk W2 t y a
 have hbA:=gP W2 t y a
 have hs2:=HS2.out
 have hs3:=HB3.out.size
 have hb23:Below W2.heap.size W2 W3:=hbA.trans (HB3.out.mono hbA.size)
 have hb34:Below W3.heap.size W3 W4:=by rw[←hW4];exact(Below.refl _ _).alloc (Nat.le_refl _) _
 have hb24:Below W2.heap.size W2 W4:=hb23.trans (hb34.mono hb23.size)
 have hb04:Below w.heap.size w W4:=HB2.out.trans (hb24.mono HB2.out.size)
 have hT4:=HT.out.below hb04
 have h8:W4.heap[w.heap.size]? =some (.cells #[.string ⟨#[]⟩] 9 (0,0)):=(hb24.block _ (by omega)).trans HBX.out.1
 have h9:W4.heap[w.heap.size+1]? =some (.cells #[.bool false] 4 (0,0)):=(hb24.block _ (by omega)).trans HBX.out.2
 have hX4:bF W4 w.heap.size:=.mk' h8 (fun k n hk=>by cases k<;>simp at hk)
 have h10:W4.heap[W3.heap.size]? =some (.cells #[.slice adl ly.length cpl] 68 (0,0)):=by rw[←hW4];exact heap_alloc_new W3 _
 have hrow4:bc W4 (jq W2 t y a).heap.size (.slice adl ly.length cpl) ly:=dH HR.out (fun g hg=>hb34.block g (cE HR.out hg).2)
 have hseq:=sy hT4 HN8.out hX4 HX.out 2 _ (by decide) (Below.refl _ _)
 have hsB:=jk W4 t x a
 have hbB:=gP W4 t x a
 rw[hs4]at hseq hsB
 obtain⟨WA,hWA⟩:∃WA,jq W4 t x a=WA:=⟨_,rfl⟩
 rw[hWA]at hseq hsB hbB
 rw[hW4]
 change Code.wpIn _ _ _ _ _ _ (jq W4 t x a)
 rw[hWA]
 have g8:Boxed WA w.heap.size 9 (.string ⟨#[]⟩):=(hbB.block _ (by omega)).trans h8
 have g9:Boxed WA (w.heap.size+1) 4 (.bool false):=(hbB.block _ (by omega)).trans h9
 have g10:Boxed WA W3.heap.size 68 (.slice adl ly.length cpl):=(hbB.block _ (by omega)).trans h10
 have growA:bc WA (jq W2 t y a).heap.size (.slice adl ly.length cpl) ly:=dH hrow4 (fun g hg=>hbB.block g (cE hrow4 hg).2)
 have hb0A:Below w.heap.size w WA:=hb04.trans (hbB.mono hb04.size)
 have hlA:=hb0A.size
 have HROW:=Lib.hid growA
 have HB0A:=Lib.hid hb0A
 have H8:=Lib.hid g8
 have H9:=Lib.hid g9
 have H10:=Lib.hid g10
 have hl10:W3.heap.size<WA.heap.size:=by omega
 have hl8:w.heap.size+1<W3.heap.size:=by omega
 clear hWA hW4 hs4 hsA hbA hs2 hs3 hb23 hb34 hb24 hb04 hT4 h8 h9 hX4 h10 hrow4 hbB g8 g9 g10 growA hb0A HR HB3 HS2 HT HB2 HBX HN8
 refine wpIn_rangeFunc_ownG (F:=Fence.wide) (n:=3) rfl h3 (gf:=221) (lb:=zY (W3.heap.size+1)) rfl trivial wS
  hseq (fun {_ _ _} h k=>h.trans k) (kb_b (by omega)) (Below.refl _ _) (fun _=>rfl)
  (fun pre W=>(∀z∈pre,z∉ly)∧Below WA.heap.size WA W)
  (fun c pre W=>(c= .ret∧∃pre0 z,pre=pre0++ [z]∧(∀u∈pre0,u∉ly)∧z∈ly∧Boxed W w.heap.size 9 (.string z)∧Boxed W (w.heap.size+1) 4 (.bool true))∧Below w.heap.size w W∧WA.heap.size≤W.heap.size)
  (OwnFrom.and (ownFrom_pure _ _) (ownFrom_below (Nat.le_refl _) (Nat.le_refl _)))
  (fun c s W W' row hs hg hr=>⟨⟨hs.1.1,by
   obtain⟨pre0,z,k1,k2,k3,k4,k5⟩:=hs.1.2
   exact⟨pre0,z,k1,k2,k3,k4.kept hg (fun e=>by have:=(hr _ e.symm).1;omega),k5.kept hg (fun e=>by have:=(hr _ e.symm).1;omega)⟩⟩,hs.2.1.grown hg (by have:=hs.2.2;omega) (fun k e=>by have:=(hr _ e).1;omega),Nat.le_trans hs.2.2 hg.size⟩)
  ⟨fun _ h=>(by cases h),Below.refl _ _⟩
  (fun z=> {tmps:=#[ptB t,.string x,.string y,.int .i64 a,undef,undef,undef,undef,.pointer (some ⟨w.heap.size,0,none⟩),.pointer (some ⟨w.heap.size+1,0,none⟩),.pointer (some ⟨W3.heap.size,0,none⟩),.string z,ptB t,.string y,.int .i64 a,.func (.func 221) #[] (zY W2.heap.size),.slice adl ly.length cpl,ptB t,.string x,.int .i64 a,.func (.func 221) #[] (zY (W3.heap.size+1)),.string z,undef,undef,undef,undef],defers:=[]}) ?assign ?body ?done ?stop
 case assign=>
  intro l z W K hK
  gi_wp2
  exact hK
 case body=>
  rintro l pre z W ⟨hpre,hB⟩ hlt
  have hrW:bc W (jq W2 t y a).heap.size (.slice adl ly.length cpl) ly:=dH HROW.out (fun g hg=>hB.block g (cE HROW.out hg).2)
  have b8:Boxed W w.heap.size 9 (.string ⟨#[]⟩):=(hB.block _ (by omega)).trans H8.out
  have b9:Boxed W (w.heap.size+1) 4 (.bool false):=(hB.block _ (by omega)).trans H9.out
  have b10:Boxed W W3.heap.size 68 (.slice adl ly.length cpl):=(hB.block _ (by omega)).trans H10.out
  have hct:=pQ hrW (by omega) z
  have c8:=b8.cell
  have f8:=b8.frozen
  have c9:=b9.cell
  have f9:=b9.frozen
  have c10:=b10.cell
  have B8:=Lib.hid b8
  have B9:=Lib.hid b9
  have HB:=Lib.hid hB
  have HP:=Lib.hid hpre
  clear hrW b10 b8 b9 hB hpre hlt
  by_cases hz:z∈ly
  ·rw[decide_eq_true hz]at hct
   have HZ:=Lib.hid hz
   clear hz
   gi_wp2_with (refine⟨trivial,?_⟩;gi_at_call 172;refine(CallsIn.inRound l (callsIn_wide.2 hct)).mono ?_;rintro e w' ⟨rfl,hw'⟩;obtain rfl:=hw'.symm)
   exact⟨((KeepsOthers.setCell _ _ _).trans (KeepsOthers.setCell _ _ _)).from _,⟨⟨rfl,pre,z,rfl,HP.out,HZ.out,(B8.out.set (.string z)).other (by omega) _,(B9.out.other (by omega) _).set _⟩,(((HB0A.out.trans (HB.out.mono hlA)).setCell (p:=⟨w.heap.size,0,none⟩) (Nat.le_refl _) _).setCell (p:=⟨w.heap.size+1,0,none⟩) (by simp) _),by simpa using HB.out.size⟩⟩
  ·rw[decide_eq_false hz]at hct
   have HZ:=Lib.hid hz
   clear hz
   gi_wp2_with (refine⟨trivial,?_⟩;gi_at_call 172;refine(CallsIn.inRound l (callsIn_wide.2 hct)).mono ?_;rintro e w' ⟨rfl,hw'⟩;obtain rfl:=hw'.symm)
   refine⟨KeepsFrom.refl _ _,Kb.refl _ _ _,⟨fun u hu=> ?_,HB.out⟩⟩
   rcases List.mem_append.1 hu with h | h
   ·exact HP.out u h
   ·simp only[List.mem_singleton]at h;subst h;exact HZ.out
 case done=>
  rintro D zs W hD rfl ⟨hpre,hB⟩ hK
  have b8:Boxed W w.heap.size 9 (.string ⟨#[]⟩):=(hB.block _ (by omega)).trans H8.out
  have b9:Boxed W (w.heap.size+1) 4 (.bool false):=(hB.block _ (by omega)).trans H9.out
  have c8:=b8.cell
  have f8:=b8.frozen
  have c9:=b9.cell
  have f9:=b9.frozen
  have hsame:=((KeepsOthers.setCell W ⟨w.heap.size,0,none⟩ (.string ⟨#[]⟩)).trans (KeepsOthers.setCell _ ⟨w.heap.size+1,0,none⟩ (.bool false))).same D _ hK rfl
  have B8:=Lib.hid ((b8.set (.string ⟨#[]⟩)).other (by omega:w.heap.size≠w.heap.size+1) (.bool false))
  have B9:=Lib.hid ((b9.other (by omega:w.heap.size+1≠w.heap.size) (.string ⟨#[]⟩)).set (.bool false))
  have HBB:=Lib.hid (((HB0A.out.trans (hB.mono hlA)).setCell (p:=⟨w.heap.size,0,none⟩) (Nat.le_refl _) (.string ⟨#[]⟩)).setCell (p:=⟨w.heap.size+1,0,none⟩) (by simp) (.bool false))
  have HSM:=Lib.hid hsame
  have hcm:j5 zs ly=none:=List.find?_eq_none.2 (fun u hu=>by simpa using hpre u hu)
  have HCM:=Lib.hid hcm
  have hDs:WA.heap.size≤((W.setCell ⟨w.heap.size,0,none⟩ (.string ⟨#[]⟩)).setCell ⟨w.heap.size+1,0,none⟩ (.bool false)).heap.size:=by simpa using hB.size
  clear b8 b9 hsame hcm hB hpre
  gi_wp2
  generalize (W.setCell ⟨w.heap.size,0,none⟩ (.string ⟨#[]⟩)).setCell ⟨w.heap.size+1,0,none⟩ (.bool false)=WZ at *
  refine⟨by simp,.inl ⟨_,_,rfl,run_takeDeferred HSM.out,?_⟩⟩
  have hg:=grownBy_putObj' WZ D (.deferred none)
  have B8':=B8.out.kept hg (fun e=>by injection e with e;omega)
  have B9':=B9.out.kept hg (fun e=>by injection e with e;omega)
  refine⟨_,dt rfl _ _ rfl rfl (ck Tryz.underlying9 rfl B8'.cell) (ck Tryz.underlying4 rfl B9'.cell),by rw[HCM.out];rfl,HBB.out.trans (belowK_b (w:=w) (Nat.le_refl _) WZ D _ _ (by omega) HSM.out rfl rfl)⟩
 case stop=>
  rintro D c pre W hD hpre ⟨⟨rfl,pre0,z,hp0,hno,hz,b8,b9⟩,hB,hsz⟩ hK
  have c8:=b8.cell
  have c9:=b9.cell
  have HCM:=Lib.hid (show j5 lx ly=some z from by
   obtain⟨tl,rfl⟩:=hpre
   unfold j5
   rw[hp0,List.find?_append,List.find?_append,List.find?_eq_none.2 (fun u hu=>by simpa using hno u hu)]
   simp[hz])
  have B8:=Lib.hid b8
  have B9:=Lib.hid b9
  have HBB:=Lib.hid hB
  clear hp0 hno hz b8 b9 hB hpre
  gi_wp2
  refine⟨by simp,.inl ⟨_,_,rfl,run_takeDeferred hK,?_⟩⟩
  have hg:=grownBy_putObj' W D (.deferred none)
  have B8':=B8.out.kept hg (fun e=>by injection e with e;omega)
  have B9':=B9.out.kept hg (fun e=>by injection e with e;omega)
  refine⟨_,dt rfl _ _ rfl rfl (ck Tryz.underlying9 rfl B8'.cell) (ck Tryz.underlying4 rfl B9'.cell),by rw[HCM.out];rfl,HBB.out.trans (belowK_b (w:=w) (Nat.le_refl _) W D _ _ (by omega) hK rfl rfl)⟩
end
section
open Go.RowKit Go.Shelf
open Classical
attribute [local go_sem] Oper.semAt_some
theorem wT {W w1:World} {n₀ B:Nat} {t e:TypeId} {size:Nat} {v v':Value} {k m:Nat} {xs ys:List Value} {tmp:Obj}
  (hv:Boxed W B t v) (hte:t≠e) (hrow:W.ownsRow n₀ e size v k xs) (hn₀:n₀≤W.heap.size)
  (hown':w1.ownsRow n₀ e size v' m ys) (hgrow:(W.alloc tmp).grownBy w1 v.ownBlock):
  Boxed w1 B t v∧Boxed (w1.setCell ⟨B,0,none⟩ v') B t v'∧(w1.setCell ⟨B,0,none⟩ v').ownsRow n₀ e size v' m ys∧KeepsOthers W (w1.setCell ⟨B,0,none⟩ v')∧Kb n₀ B W (w1.setCell ⟨B,0,none⟩ v'):=by
 have hv1:Boxed w1 B t v:=(hv.alloc tmp).kept hgrow (hv.not_row hte hrow)
 refine⟨hv1,hv1.set v',hown'.kept (grownBy_setCell' w1 B v') (.inr (hv1.not_row hte hown').symm),?_,?_⟩
 ·refine((KeepsOthers.alloc W tmp).trans (KeepsOthers.of_grownBy hgrow fun j o ej hj=> ?_)).trans (KeepsOthers.setCell _ _ _)
  rcases(hrow.alloc tmp).2 with⟨rfl,_⟩ | ⟨g,cap,cur,rfl,_,hgb,_⟩
  ·simp[Value.ownBlock]at ej
  ·obtain rfl:g=j:=by simpa [Value.ownBlock]using ej
   rw[hgb]at hj;cases hj;rfl
 ·have h1:Kb n₀ B W (W.alloc tmp):=Kb.below ((Below.refl n₀ W).alloc hn₀ tmp)
  have hs1:n₀≤(W.alloc tmp).heap.size:=Nat.le_trans hn₀ h1.size
  have h2:Kb n₀ B W w1:=h1.grown hgrow hs1 (fun j ej=>by
   rcases hrow.2 with⟨rfl,_⟩ | ⟨g,cap,cur,rfl,hb,_,_⟩
   ·simp[Value.ownBlock]at ej
   ·obtain rfl:g=j:=by simpa [Value.ownBlock]using ej
    exact .inl hb)
  exact h2.grown (grownBy_setCell' w1 B v') (Nat.le_trans hn₀ h2.size) (fun j ej=>by cases ej;exact .inr rfl)
noncomputable def cH (l:List Nm) (top:Nm):List Nm:=l.takeWhile fun z=>decide (z≠top)
theorem belL_all {l:List Nm} {top:Nm} (h:∀z∈l,z≠top):cH l top=l:=by
 unfold cH
 have:=List.takeWhile_append_of_pos (p:=fun z=>decide (z≠top)) (l₁:=l) (l₂:=[]) (fun z hz=>by simpa using h z hz)
 simpa using this
theorem belL_pre {p l:List Nm} {top:Nm} (h:∀z∈p,z≠top) (hp:p++ [top] <+:l):cH l top=p:=by
 obtain⟨t,rfl⟩:=hp
 unfold cH
 rw[List.append_assoc,List.takeWhile_append_of_pos (fun z hz=>by simpa using h z hz)]
 simp
theorem yb {w WA W:World} {D:Nat} {o o':Obj} (hb:Below w.heap.size w WA) (hK:Kb WA.heap.size (w.heap.size+1) WA W) (_:w.heap.size+1<WA.heap.size) (hD:WA.heap.size≤D) (hD2:W.heap[D]? =some o):Below w.heap.size w (W.putObj D o'):=by
 have h1:Below w.heap.size w W:=⟨hK.os.trans hb.os,hK.tape.trans hb.tape,hK.output.trans hb.output,Nat.le_trans hb.size hK.size,fun k hk=>(hK.block k (by omega) (by omega)).trans (hb.block k hk)⟩
 exact h1.grown (grownBy_putObj' W D o') (Nat.le_trans hb.size hK.size) (fun k e=>by cases e;have:=hb.size;omega)
set_option maxRecDepth 100000 in
set_option maxHeartbeats 2000000 in
theorem sA {w:World} {t m:Nat} {E:List Ch} {x top:Nm} {a:Int} {lx:List Nm} (hT:TM w t m E) (hx:Anc (trE E) a x lx) (h1:lx.length≤1000):
  Calls Tryz.prog 106 #[ptB t,.string x,.string top,.int .i64 a] w fun e w'=>∃v,e= .returned v∧bc w' w.heap.size v (cH lx top)∧Below w.heap.size w w':=by
 refine(callsIn_wide (n:=3)).1 ?_
 have h3:(1:Nat)≤3:=by decide
 have hmx:(1000:Nat)≤maxLen:=by unfold maxLen;omega
 obtain⟨i0,hi,hz0,hz1,hz2⟩:=info_parts (show(Tryz.prog.info? 9).map (fun i=>(i.zero,i.size,i.bytes))=some (some (.string ByteArray.empty),1,16)by kernel_rfl)
 have b6:=Boxed.new w 9 (.string top)
 have b9:=Boxed.new (w.alloc (.cells #[.string top] 9)) 68 (.slice none 0 0)
 have hb2:Below w.heap.size w ((w.alloc (.cells #[.string top] 9)).alloc (.cells #[.slice none 0 0] 68)):=((Below.refl _ w).alloc (Nat.le_refl _) _).alloc (by simp) _
 rw[World.size_alloc]at b9
 have b6:=b6.alloc (.cells #[.slice none 0 0] 68)
 have hs2:((w.alloc (.cells #[.string top] 9)).alloc (.cells #[.slice none 0 0] 68)).heap.size=w.heap.size+2:=by simp
 obtain⟨W2,hW2⟩:∃W2,(w.alloc (.cells #[.string top] 9)).alloc (.cells #[.slice none 0 0] 68)=W2:=⟨_,rfl⟩
 rw[hW2]at b6 b9 hb2 hs2
 have hn9:w.heap.size+1∉fpT t m E:=fun hm=>by have:=hT.lt _ hm;omega
 have hX9:bF W2 (w.heap.size+1):=.mk' (show W2.heap[w.heap.size+1]? =some (.cells #[.slice none 0 0] 68 (0,0))from b9) (fun k n hk=>by cases k<;>simp at hk)
 have han:=wQ W2 t x a
 have hseq:=sy (hT.below hb2) hn9 hX9 hx 2 _ (by decide) (Below.refl _ _)
 have hsA:=jk W2 t x a
 have hbA:=gP W2 t x a
 obtain⟨WA,hWA⟩:∃WA,jq W2 t x a=WA:=⟨_,rfl⟩
 rw[hWA]at hseq hsA hbA
 have HSA:=Lib.hid hsA
 have HS2:=Lib.hid hs2
 have H6:=Lib.hid (show Boxed WA w.heap.size 9 (.string top)from(hbA.block _ (by omega)).trans b6)
 have H9:=Lib.hid (show Boxed WA (w.heap.size+1) 68 (.slice none 0 0)from(hbA.block _ (by omega)).trans b9)
 have HB:=Lib.hid (hb2.trans (hbA.mono hb2.size))
 have HSEQ:=Lib.hid hseq
 clear hT hx b6 b9 hb2 hs2 hn9 hX9 hseq hsA hbA
 refine callsIn_of_wp_marks Tryz.func106 rfl trivial ?_ rfl
 simp only[Tryz.ntmps106,List.size_toArray,List.length_cons,List.length_nil,Nat.reduceAdd,Nat.reduceSub,Array.replicate_succ,Array.replicate_zero,List.push_toArray,List.append_toArray,List.nil_append,List.cons_append]
 gi_wp2_with (refine⟨trivial,?_⟩;gi_at_call 171;refine(callsIn_wide.2 han).mono ?_;clear han;rintro e w' ⟨B,rfl,rfl,rfl⟩)
 have hs2:=HS2.out
 have hsA:=HSA.out
 have hlA:=HB.out.size
 have hl6:w.heap.size+1<WA.heap.size:=by omega
 clear hW2 hWA hs2 hsA
 refine wpIn_rangeFunc_ownG (F:=Fence.wide) (n:=3) rfl h3 (gf:=221) (lb:=zY W2.heap.size) rfl trivial wS
  HSEQ.out (fun {_ _ _} h k=>h.trans k) (kb_b (Nat.le_refl _)) (Below.refl _ _) (fun _=>rfl)
  (fun pre W=>((∃v,Boxed W (w.heap.size+1) 68 v∧W.ownsRow WA.heap.size 9 1 v pre.length (pre.map Value.string)∧True)∧(∀z∈pre,z≠top))∧Kb WA.heap.size (w.heap.size+1) WA W)
  (fun c pre W=>((∃v,Boxed W (w.heap.size+1) 68 v∧W.ownsRow WA.heap.size 9 1 v pre.dropLast.length (pre.dropLast.map Value.string)∧True)∧(c= .exit 0∧∃pre0,pre=pre0++ [top]∧∀z∈pre0,z≠top))∧Kb WA.heap.size (w.heap.size+1) WA W)
  (OwnFrom.and (OwnFrom.and (Own.from (holdsRow_own WA.heap.size (w.heap.size+1) 68 9 1 (fun pre:List Nm=>pre.length) (fun pre=>pre.map Value.string) (fun _ _=>True)) _) (ownFrom_pure _ _)) (kb_own _ _ _ (Nat.le_refl _)))
  (fun c=>OwnFrom.and (OwnFrom.and (Own.from (holdsRow_own WA.heap.size (w.heap.size+1) 68 9 1 (fun pre:List Nm=>pre.dropLast.length) (fun pre=>pre.dropLast.map Value.string) (fun _ _=>True)) _) (ownFrom_pure _ _)) (kb_own _ _ _ (Nat.le_refl _)))
  ⟨⟨⟨_,H9.out,World.ownsRow_nil _ _ _ _,trivial⟩,fun _ h=>(by cases h)⟩,Kb.refl _ _ _⟩
  (fun z=> {tmps:=#[ptB t,.string x,.string top,.int .i64 a,undef,undef,.pointer (some ⟨w.heap.size,0,none⟩),undef,.slice none 0 0,.pointer (some ⟨w.heap.size+1,0,none⟩),.string z,ptB t,.string x,.int .i64 a,.func (.func 221) #[] (zY W2.heap.size),.string z,undef,undef,undef,undef,undef,undef,undef,undef],defers:=[]}) ?assign ?body ?done ?stop
 case assign=>
  intro l z W K hK
  gi_wp2
  exact hK
 case body=>
  rintro l pre z W ⟨⟨⟨v,hv,hrow,_⟩,hpre⟩,hK⟩ hlt
  have hc:=hv.cell
  have c6:W.cell? ⟨w.heap.size,0,none⟩=some (.string top):=by rw[hK.cell (by omega) (by omega)];exact H6.out.cell
  have HP:=Lib.hid hpre
  have HV:=Lib.hid hv
  have HR:=Lib.hid hrow
  have HK:=Lib.hid hK
  have hsW:=hK.size
  clear hpre hK
  by_cases e:z=top
  ·subst e
   clear hv hrow
   gi_wp2
   refine⟨KeepsFrom.refl _ _,⟨⟨⟨v,HV.out,by rw[List.dropLast_concat];exact HR.out,trivial⟩,rfl,pre,rfl,HP.out⟩,HK.out⟩⟩
  ·have hne:=ul e
   have HE:=Lib.hid e
   clear e
   gi_wp2_with (gi_at_builtin;refine wpListIn_append_own _ rfl _ _ 68 rfl WA.heap.size 9 i0 (.string ByteArray.empty) 1 16 Tryz.underlying68 hi hz0 hz1 hz2 rfl (by decide) _ _ _ rfl (hrow.alloc _) ⟨W.heap.size,0,none⟩ 1 1 [.string z] rfl rfl (cell_one_new _ _ _) (by simp[Value.oneCell']) (by omega) (by omega) (by simp;omega) ?_;intro v' w1 hown' hgrow _;obtain⟨g',cap',rfl⟩:=ownsRow_succ hown';obtain⟨hv1,hv2,hr2,hk2,hb2⟩:=wT hv (by decide) hrow hsW hown' hgrow;have hc1:=hv1.cell;have hf1:=hv1.frozen)
   refine⟨hk2.from _,hb2,⟨⟨_,hv2,by simpa using hr2,trivial⟩,fun u hu=> ?_⟩,HK.out.trans hb2⟩
   rcases List.mem_append.1 hu with h | h
   ·exact HP.out u h
   ·simp only[List.mem_singleton]at h;subst h;exact HE.out
 case done=>
  rintro D zs W hD rfl ⟨⟨⟨v,hv,hrow,_⟩,hpre⟩,hK⟩ hD2
  have hc:=hv.cell
  have HQ:=Lib.hid (show(W.putObj D (.deferred none)).ownsRow w.heap.size 9 1 v (cH zs top).length ((cH zs top).map Value.string)∧Below w.heap.size w (W.putObj D (.deferred none))from by
   rw[belL_all hpre]
   exact⟨ownsRow_base_a (ownsRow_putObj hrow _ hD2 rfl) hlA,yb HB.out hK hl6 hD hD2⟩)
  clear hv hrow hpre hK
  gi_wp2
  refine⟨by simp,.inl ⟨_,_,rfl,run_takeDeferred hD2,?_⟩⟩
  exact⟨_,results_tmp rfl _ _ _,v,rfl,HQ.out.1,HQ.out.2⟩
 case stop=>
  rintro D c pre W hD hpx ⟨⟨⟨v,hv,hrow,_⟩,rfl,pre0,hp0,hno⟩,hK⟩ hD2
  have hc:=hv.cell
  have HQ:=Lib.hid (show(W.putObj D (.deferred none)).ownsRow w.heap.size 9 1 v (cH lx top).length ((cH lx top).map Value.string)∧Below w.heap.size w (W.putObj D (.deferred none))from by
   subst hp0
   rw[belL_pre hno hpx]
   rw[List.dropLast_concat]at hrow
   exact⟨ownsRow_base_a (ownsRow_putObj hrow _ hD2 rfl) hlA,yb HB.out hK hl6 hD hD2⟩)
  clear hv hrow hpx hK hp0 hno
  gi_wp2
  refine⟨by simp,.inl ⟨_,_,rfl,run_takeDeferred hD2,?_⟩⟩
  exact⟨_,results_tmp rfl _ _ _,v,rfl,HQ.out.1,HQ.out.2⟩
end
section
open Classical
noncomputable def cO (R:Tr) (a:Int) (x:Nm):List Nm:=if h:∃l,Anc R a x l then h.choose else []
theorem fI {R:Tr} (hR:TOk R) (a:Int) (x:Nm):Anc R a x (cO R a x):=by
 have h:=Anc.of (hR.acy a x)
 unfold cO
 rw[dif_pos h]
 exact h.choose_spec
theorem l7 {R:Tr} {a:Int} {x:Nm} {l:List Nm} (h:Anc R a x l):cO R a x=l:=by
 unfold cO
 have h2:∃l,Anc R a x l:=⟨l,h⟩
 rw[dif_pos h2]
 exact h2.choose_spec.uniq h
theorem fv {R:Tr} (hR:Sane R) {a:Int} {x:Nm} (hx:aO R x):(cO R a x).length≤24:=(fI hR.ok a x).short hR hx
noncomputable def aU (R:Tr) (a:Int) (x y:Nm):Nm×Int:=
 if aO R x∧aO R y then(match j5 (cO R a x) (cO R a y)with | some z=>(z,0) | none=>(ByteArray.empty,18))else(ByteArray.empty,6)
theorem q_meet {w:World} {t m:Nat} {E:List Ch} (hT:TM w t m E) (hE:Sane (trE E)) (x y:Nm) (a:Int):
  Calls Tryz.prog 71 #[ptB t,.string x,.string y,.int .i64 a] w fun e w'=>e= .returned (.tuple #[.string (aU (trE E) a x y).1,.int .i64 (aU (trE E) a x y).2])∧Below w.heap.size w w':=by
 have hk1:=lZ hT hE y
 have HK2:=Lib.hid (show∀wq,Below w.heap.size w wq→Calls Tryz.prog 108 #[ptB t,.string x] wq fun e w'=>e= .returned (.bool (decide (aO (trE E) x)))∧Below w.heap.size w w' from fun wq hb=>(lZ (hT.below hb) hE x).mono (by
  rintro e w' ⟨rfl,k⟩
  exact⟨rfl,hb.trans (k.mono hb.size)⟩))
 by_cases ky:aO (trE E) y
 ·rw[decide_eq_true ky]at hk1
  by_cases kx:aO (trE E) x
  ·have HM:=Lib.hid (show aU (trE E) a x y=(match j5 (cO (trE E) a x) (cO (trE E) a y)with | some z=>(z,0) | none=>(ByteArray.empty,18))by unfold aU;rw[if_pos ⟨kx,ky⟩])
   have HC:=Lib.hid (show∀wq,Below w.heap.size w wq→Calls Tryz.prog 129 #[ptB t,.string x,.string y,.int .i64 a] wq fun e w'=>e= .returned (.tuple #[.string ((j5 (cO (trE E) a x) (cO (trE E) a y)).getD ByteArray.empty),.bool (j5 (cO (trE E) a x) (cO (trE E) a y)).isSome])∧Below w.heap.size w w' from fun wq hb=>by
    have l1:=fv hE (a:=a) kx
    have l2:=fv hE (a:=a) ky
    exact(q_common (hT.below hb) (fI hE.ok a x) (fI hE.ok a y) (by omega) (by omega)).mono (by
     rintro e w' ⟨rfl,k⟩
     exact⟨rfl,hb.trans (k.mono hb.size)⟩))
   rw[decide_eq_true kx]at HK2
   obtain⟨M,hM⟩:∃M,aU (trE E) a x y=M:=⟨_,rfl⟩
   rw[hM]at HM⊢
   cases hc:j5 (cO (trE E) a x) (cO (trE E) a y)with
   | none=>
    rw[hc]at HC HM
    have HM2:=Lib.hid (show M=(ByteArray.empty,18)from HM.out)
    clear hT hE ky kx hM hc HM
    go_enter Tryz.func71,Tryz.ntmps71
    go_wp2_with (first
     | (go_at_call 108;refine hk1.mono ?_;clear hk1;rintro e w1 ⟨rfl,hb⟩;have HB1:=Lib.hid hb;have hk2:=HK2.out w1 hb;clear hb)
     | (go_at_call 108;refine hk2.mono ?_;clear hk2;rintro e w2 ⟨rfl,hb⟩;have hco:=HC.out w2 hb;clear hb)
     | (go_at_call 129;refine hco.mono ?_;clear hco;rintro e w3 ⟨rfl,hb⟩;have HB3:=Lib.hid hb;clear hb))
    go_ret2
    rw[HM2.out]
    exact⟨rfl,HB3.out⟩
   | some z=>
    rw[hc]at HC HM
    have HM2:=Lib.hid (show M=(z,0)from HM.out)
    clear hT hE ky kx hM hc HM
    go_enter Tryz.func71,Tryz.ntmps71
    go_wp2_with (first
     | (go_at_call 108;refine hk1.mono ?_;clear hk1;rintro e w1 ⟨rfl,hb⟩;have HB1:=Lib.hid hb;have hk2:=HK2.out w1 hb;clear hb)
     | (go_at_call 108;refine hk2.mono ?_;clear hk2;rintro e w2 ⟨rfl,hb⟩;have hco:=HC.out w2 hb;clear hb)
     | (go_at_call 129;refine hco.mono ?_;clear hco;rintro e w3 ⟨rfl,hb⟩;have HB3:=Lib.hid hb;clear hb))
    go_ret2
    rw[HM2.out]
    exact⟨rfl,HB3.out⟩
  ·have HM:=Lib.hid (show aU (trE E) a x y=(ByteArray.empty,6)by unfold aU;rw[if_neg (fun h=>kx h.1)])
   rw[decide_eq_false kx]at HK2
   obtain⟨M,hM⟩:∃M,aU (trE E) a x y=M:=⟨_,rfl⟩
   rw[hM]at HM⊢
   clear hT hE ky kx hM
   go_enter Tryz.func71,Tryz.ntmps71
   go_wp2_with (first
    | (go_at_call 108;refine hk1.mono ?_;clear hk1;rintro e w1 ⟨rfl,hb⟩;have HB1:=Lib.hid hb;have hk2:=HK2.out w1 hb;clear hb)
    | (go_at_call 108;refine hk2.mono ?_;clear hk2;rintro e w2 ⟨rfl,hb⟩;have HB3:=Lib.hid hb;clear hb))
   go_ret2
   rw[HM.out]
   exact⟨rfl,HB3.out⟩
 ·have HM:=Lib.hid (show aU (trE E) a x y=(ByteArray.empty,6)by unfold aU;rw[if_neg (fun h=>ky h.2)])
  rw[decide_eq_false ky]at hk1
  obtain⟨M,hM⟩:∃M,aU (trE E) a x y=M:=⟨_,rfl⟩
  rw[hM]at HM⊢
  clear hT hE ky hM HK2
  go_enter Tryz.func71,Tryz.ntmps71
  go_wp2_with (go_at_call 108;refine hk1.mono ?_;clear hk1;rintro e w1 ⟨rfl,hb⟩;have HB3:=Lib.hid hb;clear hb)
  go_ret2
  rw[HM.out]
  exact⟨rfl,HB3.out⟩
end
section
open Classical
noncomputable def fJ (R:Tr) (a:Int):List Nm→Pq→Pq×Int
 | [],p=>(p,0)
 | f::l,p=>if (dw R f a).2=0 then fJ R a l ((dw R f a).1.mul p)else(Pq.zero,(dw R f a).2)
def j6 (R:Tr) (a:Int):List Nm→Pq→Prop
 | [],_=>True
 | f::l,p=>(dw R f a).2=0→(dw R f a).1.ok 100000∧(dw R f a).1.good∧p.ok 100000∧p.good∧j6 R a l ((dw R f a).1.mul p)
theorem PB.kb {w0 Wb W:World} {B n O:Nat} {vs:List Value} (h:PB w0 Wb B vs) (k:Kb n O Wb W) (hB:B<n) (hO:B≠O) (hl:w0.heap.size≤n) (hw:w0.heap.size≤O):PB w0 W B vs:=
 ⟨by rw[k.block B hB hO];exact h.blk,h.len,⟨k.os.trans h.bel.os,k.tape.trans h.bel.tape,k.output.trans h.bel.output,Nat.le_trans h.bel.size k.size,fun i hi=>(k.block i (by omega) (by omega)).trans (h.bel.block i hi)⟩,h.ge,h.nu⟩
theorem Kb.put {n O:Nat} {A B:World} (h:Kb n O A B) (us:List Value):Kb n O A (B.setCells O 0 us):=by
 have u:=cD us B O 0
 exact h.trans ⟨u.os,u.tape,u.output,Nat.le_of_eq u.size.symm,fun k _ hO=>u.block k hO⟩
theorem PB.lt {w0 W:World} {B:Nat} {vs:List Value} (h:PB w0 W B vs):B<W.heap.size:=(Array.getElem?_eq_some_iff.1 h.blk).1
theorem PB.oth {w0 W:World} {B B':Nat} {vs us:List Value} (h:PB w0 W B vs) (hne:B≠B') (hl:w0.heap.size≤B'):PB w0 (W.setCells B' 0 us) B vs:=
 ⟨by rw[(cD us W B' 0).block B hne];exact h.blk,h.len,aG us 0 W h.bel hl,h.ge,h.nu⟩
theorem PB.base {w0 w1 W:World} {B:Nat} {vs:List Value} (h:PB w1 W B vs) (k:Below w0.heap.size w0 w1):PB w0 W B vs:=⟨h.blk,h.len,k.trans (h.bel.mono k.size),Nat.le_trans k.size h.ge,h.nu⟩
theorem PB.ld {w0 W:World} {B:Nat} {vs:List Value} (h:PB w0 W B vs):W.rangeAt B 0 vs:=fun j v hv=>by rw[aT h.blk,Nat.zero_add];simpa using hv
set_option maxHeartbeats 2000000 in
theorem q_rise {w:World} {t m:Nat} {E:List Ch} {x top:Nm} {a:Int} {lx:List Nm} (hT:TM w t m E) (hE:TOk (trE E)) (hx:Anc (trE E) a x lx) (h1:lx.length≤1000) (hok:j6 (trE E) a (cH lx top) Pq.id):
  Calls Tryz.prog 72 #[ptB t,.string x,.string top,.int .i64 a] w fun e w'=>∃v,e= .returned (.tuple #[v,.int .i64 (fJ (trE E) a (cH lx top) Pq.id).2])∧bj w' v (fJ (trE E) a (cH lx top) Pq.id).1∧Below w.heap.size w w':=by
 have hp0:=PB.new w
 have HT:=Lib.hid hT
 have HE:=Lib.hid hE
 have HX:=Lib.hid hx
 have HOK:=Lib.hid hok
 have hll:(cH lx top).length≤1000:=Nat.le_trans ((List.takeWhile_sublist _).length_le) h1
 have HP0:=Lib.hid hp0
 obtain⟨W,hW⟩:∃W,w.alloc (.cells aw.toArray 39)=W:=⟨_,rfl⟩
 rw[hW]at HP0
 have hid:=q_poId W
 obtain⟨Rz,hRz⟩:∃r,r=fJ (trE E) a (cH lx top) Pq.id:=⟨_,rfl⟩
 have HRZ:=Lib.hid hRz
 rw[←hRz]
 clear hT hE hx hok hp0 hRz
 go_enter Tryz.func72,Tryz.ntmps72
 go_upto_region 0 with(fail)
 refine wp_region_list ?_
 refine ag rfl (v:=.pointer (some ⟨w.heap.size,0,none⟩)) (w':=W) (by subst hW;go_simp;try rfl) ?_
 obtain⟨B8,hB8⟩:∃B,w.heap.size=B:=⟨_,rfl⟩
 rw[hB8]at HP0⊢
 clear hW
 go_upto_region 1 with(fail)
 refine wp_region_list ?_
 refine wpList_plain rfl (fun K hK=> ?_)
 go_simp
 go_at_call 22
 refine hid.mono ?_
 rintro e W1 ⟨v,rfl,hv,hb⟩
 obtain⟨us,rfl,hul,hu1,hun⟩:=db hv
 refine hK _ _ ?_
 clear hK K hid
 have hpn:=PB.new W1
 have hvv:bj (W1.alloc (.cells aw.toArray 39)) (.agg us.toArray) Pq.id:=hv.mono hpn.bel
 have HP1:=Lib.hid (HP0.out.next (hb.trans (hpn.bel.mono hb.size)))
 refine ag rfl (v:=.pointer (some ⟨W1.heap.size,0,none⟩)) (w':=W1.alloc (.cells aw.toArray 39)) (by go_simp;try rfl) ?_
 have hth:=hpn.there
 rw[←hul]at hth
 refine wpList_store_mid rfl _ _ _ rfl W1.heap.size 0 us.toArray rfl rfl (by simpa using hth) (aZ hul) hu1 ?_
 rw[show us.toArray.toList=us from rfl]
 have hw1:Below w.heap.size w W1:=HP0.out.bel.trans (hb.mono HP0.out.bel.size)
 have hne:B8≠W1.heap.size:=by have:=HP0.out.lt;have:=hb.size;omega
 have HP8:=Lib.hid (HP1.out.oth (us:=us) hne hw1.size)
 have HP10:=Lib.hid ((hpn.base hw1).put (us:=us) hul hun)
 have HV:=Lib.hid (hpn.keep (us:=us) hvv)
 have HTE:=Lib.hid (HT.out.below HP10.out.bel)
 have hbl:=(sA HTE.out HX.out h1 (top:=top)).mono (show∀e w',_→∃ad n cap,e= .returned (.slice ad n cap)∧Hid (bc w' ((W1.alloc (.cells aw.toArray 39)).setCells W1.heap.size 0 us).heap.size (.slice ad n cap) (cH lx top)∧n=(cH lx top).length∧Below ((W1.alloc (.cells aw.toArray 39)).setCells W1.heap.size 0 us).heap.size ((W1.alloc (.cells aw.toArray 39)).setCells W1.heap.size 0 us) w')from by
  rintro e w' ⟨v,rfl,h1,h2⟩
  obtain⟨ad,cap,rfl⟩:=ft h1
  exact⟨ad,_,cap,rfl,Lib.hid ⟨h1,rfl,h2⟩⟩)
 generalize hW2:(W1.alloc (.cells aw.toArray 39)).setCells W1.heap.size 0 us=W2 at *
 obtain⟨B10,hB10⟩:∃B,W1.heap.size=B:=⟨_,rfl⟩
 rw[hB10]at HP10 hne⊢
 have HNE:=Lib.hid hne
 clear hW2 hth hpn hvv hv hb hu1 hun HP1 hw1 hB10 hne HP0
 go_wp2_with (go_at_call 106;refine hbl.mono ?_;clear hbl;rintro e Wb ⟨ad,n,cap,rfl,HR⟩)
 have HP8b:=Lib.hid (HP8.out.next HR.out.2.2)
 have HP10b:=Lib.hid (HP10.out.next HR.out.2.2)
 have HVb:=Lib.hid ((show bj Wb _ _ from IsL.mono HV.out HR.out.2.2))
 have HTb:=Lib.hid (HTE.out.below HR.out.2.2)
 have hnl:(n:Int)≤1000:=by rw[HR.out.2.1];omega
 have hn10:B10∉fpT t m E:=fun hm=>by
  have h3:=HT.out.lt _ hm
  have h4:=HP10b.out.ge
  omega
 have hX10:bF Wb B10:=(mT HP10b.out.blk (fun u hu=>HP10b.out.nu u (by simpa using hu))).x
 have hl8:B8<Wb.heap.size:=HP8b.out.lt
 have HROW:=Lib.hid (show∀wq,Kb Wb.heap.size B10 Wb wq→TM wq t m E∧PB w wq B8 aw∧∀(i:Nat) (c:Nm),(cH lx top)[i]? =some c→∃g,ad=some ⟨g,0,none⟩∧wq.cell? ⟨g,i,none⟩=some (.string c)from fun wq k=>⟨k.tm HTb.out hn10 hX10,HP8b.out.kb k hl8 HNE.out HP8b.out.bel.size HP10b.out.ge,fun i c hc=>by
  have h3:=HR.out.1
  have h4:=HR.out.2.1
  unfold bc at h3
  rw[←h4]at h3
  obtain⟨g1,e1,q1⟩:=jj h3 (show((cH lx top).map Value.string)[i]? =some (.string c)by rw[List.getElem?_map,hc];rfl)
  have h5:=cE h3 (g:=g1) (by rw[e1];rfl)
  exact⟨g1,e1,by rw[k.cell h5.2 (by have:=HP10.out.lt;omega)];exact q1⟩⟩)
 obtain⟨L,hL⟩:∃L,cH lx top=L:=⟨_,rfl⟩
 rw[hL]at HROW HOK HRZ hll
 have HNL:=Lib.hid (show n=L.length by rw[HR.out.2.1,hL])
 clear HR HV HP8 HP10 HTE HT HX hL hn10 hX10 HP8b HTb hl8
 have hlb:Wb.heap.size≤Wb.heap.size:=Nat.le_refl _
 go_loopw [22] (fun s22 wq=>∃(k:Nat) (cs:List Value) (q:Pq),k≤n∧s22= .int .i64 (k:Int)∧Hid (Kb Wb.heap.size B10 Wb wq)∧Hid (PB w wq B10 cs)∧Hid (bj wq (.agg cs.toArray) q)∧Hid (Rz=fJ (trE E) a (L.drop k) q∧j6 (trE E) a (L.drop k) q)) (fun s22 _=>n - (intOf s22).toNat)
 case atStart=>exact⟨0,us,Pq.id,Nat.zero_le _,rfl,Lib.hid (Kb.refl _ _ _),HP10b,HVb,Lib.hid ⟨HRZ.out,HOK.out⟩⟩
 case round=>
  clear HRZ HOK HP10b HVb hul hlb
  obtain⟨k,cs,q,hk,rfl,HK,HP,HV,HZ⟩:=hrel
  rcases Nat.lt_or_ge k n with hlt | hge
  ·obtain⟨c,hc⟩:∃c,L[k]? =some c:=⟨_,List.getElem?_eq_getElem (by rw[←HNL.out];exact hlt)⟩
   obtain⟨hTq,hP8,hrw⟩:=HROW.out wr HK.out
   obtain⟨g,rfl,hcc⟩:=hrw k c hc
   have hed:=q_Edge hTq HE.out c a
   have hdr:L.drop k=c::L.drop (k+1):=by
    obtain⟨h1,h2⟩:=List.getElem?_eq_some_iff.1 hc
    rw[←h2];exact List.drop_eq_getElem_cons h1
   have hz:=HZ.out
   rw[hdr]at hz
   unfold fJ j6 at hz
   obtain⟨ep,hep⟩:∃ep,dw (trE E) c a=ep:=⟨_,rfl⟩
   rw[hep]at hed hz
   obtain⟨pe,code⟩:=ep
   simp only at hed hz
   have HZ2:=Lib.hid hz
   have HP8:=Lib.hid hP8
   have hlW:Wb.heap.size≤wr.heap.size:=HK.out.size
   clear hTq hrw hc hep hz hP8 hdr
   go_upto_region 5 with(fail)
   refine wp_region_list ?_
   refine ag rfl (v:=ptB t) (w':=wr) (by rfl) ?_
   refine ag rfl (v:=.string c) (w':=wr) (by rfl) ?_
   refine ag rfl (v:=.int .i64 a) (w':=wr) (by rfl) ?_
   refine wpList_plain rfl (fun K hK=> ?_)
   go_simp
   go_at_call 41
   refine hed.mono ?_
   rintro e w4 ⟨v,rfl,hv,hb⟩
   obtain⟨vs,rfl,hul,hu1,hun⟩:=db hv
   refine hK _ _ ?_
   clear hK K hed
   refine ag rfl (v:=.tuple #[.agg vs.toArray,.int .i64 code]) (w':=w4) (by rfl) ?_
   refine ag rfl (v:=.agg vs.toArray) (w':=w4) (by go_simp) ?_
   refine ag rfl (v:=.int .i64 code) (w':=w4) (by go_simp) ?_
   have hpn:=PB.new w4
   have hvn:bj (w4.alloc (.cells aw.toArray 39)) (.agg vs.toArray) pe:=IsL.mono hv hpn.bel
   have hth:=hpn.there
   rw[←hul]at hth
   have hb5:=aG vs 0 _ (hb.trans (hpn.bel.mono hb.size)) hb.size (b:=w4.heap.size)
   have HK5:=Lib.hid (HK.out.trans (Kb.below (hb5.mono hlW)))
   have HP5:=Lib.hid (HP.out.next hb5)
   have HV5:=Lib.hid (show bj _ (.agg cs.toArray) q from IsL.mono HV.out hb5)
   have HP85:=Lib.hid (HP8.out.next hb5)
   have HPX:=Lib.hid (hpn.put (us:=vs) hul hun)
   have HVX:=Lib.hid (hpn.keep (us:=vs) hvn)
   refine ag rfl (v:=.pointer (some ⟨w4.heap.size,0,none⟩)) (w':=w4.alloc (.cells aw.toArray 39)) (by go_simp;try rfl) ?_
   refine wpList_store_mid rfl _ _ _ rfl w4.heap.size 0 vs.toArray rfl rfl (by simpa using hth) (aZ hul) hu1 ?_
   rw[show vs.toArray.toList=vs from rfl]
   generalize hW5:(w4.alloc (.cells aw.toArray 39)).setCells w4.heap.size 0 vs=W5 at *
   have hl5:=hb5.size
   have hneX:w4.heap.size≠B10:=by have:=HP.out.lt;have:=hb.size;omega
   obtain⟨B13,hB13⟩:∃B,w4.heap.size=B:=⟨_,rfl⟩
   rw[hB13]at hneX HPX⊢
   have HNX:=Lib.hid hneX
   clear hW5 hB13 hneX hpn hvn hth hb5 hv hb hu1 hun HK HP HV HP8
   by_cases h0:code=0
   ·subst h0
    obtain⟨hz1,hz2⟩:=HZ2.out
    rw[if_pos rfl]at hz1
    obtain⟨o1,o2,o3,o4,o5⟩:=hz2 rfl
    have hmul:=rW _ _ pe q W5 HVX.out HV5.out o1 o3 o2 o4
    have HZ3:=Lib.hid (And.intro hz1 o5)
    have HSX:=Lib.hid (show(Tryz.prog.info? 39).map (·.size)=some vs.length by rw[HPX.out.len];kernel_rfl)
    have HSC:=Lib.hid (show(Tryz.prog.info? 39).map (·.size)=some cs.length by rw[HP5.out.len];kernel_rfl)
    clear hz1 hz2 o1 o2 o3 o4 o5 HZ2 HZ HVX HV5 hul
    go_upto_region 8 with(fail)
    refine wp_region_list ?_
    refine wpList_load_mid rfl _ _ rfl B13 0 rfl vs _ HPX.out.ld Tryz.underlying39 rfl HSX.out ?_
    refine wpList_load_mid rfl _ _ rfl B10 0 rfl cs _ HP5.out.ld Tryz.underlying39 rfl HSC.out ?_
    refine wpList_plain rfl (fun K hK=> ?_)
    go_simp
    go_at_call 21
    refine hmul.mono ?_
    rintro e w6 ⟨v,rfl,hv,hb⟩
    obtain⟨us6,rfl,hul,hu1,hun⟩:=db hv
    refine hK _ _ ?_
    clear hK K hmul
    have hP6:=HP5.out.next hb
    have hth:=hP6.there
    rw[←hul]at hth
    refine wpList_store_mid rfl _ _ _ rfl B10 0 us6.toArray rfl rfl (by simpa using hth) (aZ hul) hu1 ?_
    rw[show us6.toArray.toList=us6 from rfl]
    have HK7:=Lib.hid ((HK5.out.trans (Kb.below (hb.mono (Nat.le_trans hlW hl5)))).put us6)
    have HP7:=Lib.hid (hP6.put (us:=us6) hul hun)
    have HV7:=Lib.hid (hP6.keep (us:=us6) hv)
    generalize hW7:w6.setCells B10 0 us6=W7 at *
    clear hW7 hth hP6 hv hb hu1 hun HK5 HP5 HP85 HPX hul
    go_wp2
    go_roundw
    case rel=>exact⟨k+1,us6,_,by omega,by go_num,HK7,HP7,HV7,HZ3⟩
    case measure=>simp[intOf];omega
   ·have h0':(code==0)=false:=beq_eq_false_iff_ne.2 h0
    have HZ3:=Lib.hid (show Rz=(Pq.zero,code)by rw[HZ2.out.1,if_neg h0])
    clear h0 HZ2 HZ
    go_upto_region 7 with(fail)
    refine wp_region_list ?_
    refine ag rfl (v:=.agg aw.toArray) (w':=W5) (by unfold aw;go_simp;try rfl) ?_
    refine ag rfl (v:=.int .i64 code) (w':=W5) (by rfl) ?_
    refine wpList_store_mid rfl _ _ _ rfl B8 0 aw.toArray rfl rfl HP85.out.there (by kernel_rfl) (by kernel_rfl) ?_
    have HP9:=Lib.hid (HP85.out.put (us:=aw) rfl HP85.out.nu)
    rw[show aw.toArray.toList=aw from rfl]
    generalize hW9:W5.setCells B8 0 aw=W9 at *
    clear hW9
    go_wp2
    refine bodyPost_ret (HP9.out.ret rfl _ rfl) rfl ?_
    rw[HZ3.out]
    exact⟨_,rfl,dI _,HP9.out.bel⟩
  ·obtain rfl:k=n:=by omega
   have hz:=HZ.out.1
   rw[show L.drop k=[]by rw[HNL.out];simp]at hz
   have HZ3:=Lib.hid (show Rz=(q,0)from hz)
   obtain⟨_,hP8,_⟩:=HROW.out wr HK.out
   have HSC:=Lib.hid (show(Tryz.prog.info? 39).map (·.size)=some cs.length by rw[HP.out.len];kernel_rfl)
   have hth:=hP8.there
   rw[←HP.out.len]at hth
   have hu1:cs.toArray.all (·.oneCell')=true:=by
    obtain⟨cs',e,_,h1,_⟩:=db HV.out
    have e:cs=cs':=by injection e with e;simpa using e
    rw[e];exact h1
   have HP9:=Lib.hid (hP8.put (us:=cs) HP.out.len HP.out.nu)
   have HV9:=Lib.hid (hP8.keep (us:=cs) HV.out)
   have HLN:=Lib.hid HP.out.len
   clear hz HZ hge hP8 HROW
   go_upto_region 10 with(fail)
   refine wp_region_list ?_
   refine wpList_load_mid rfl _ _ rfl B10 0 rfl cs _ HP.out.ld Tryz.underlying39 rfl HSC.out ?_
   refine wpList_store_mid rfl _ _ _ rfl B8 0 cs.toArray rfl rfl (by simpa using hth) (aZ HLN.out) hu1 ?_
   rw[show cs.toArray.toList=cs from rfl]
   generalize hW9:wr.setCells B8 0 cs=W9 at *
   clear hW9 hth hu1
   go_wp2
   refine bodyPost_ret (HP9.out.ret rfl _ rfl) rfl ?_
   rw[HZ3.out]
   exact⟨_,rfl,HV9.out,HP9.out.bel⟩
end
section
open Classical
noncomputable abbrev upP (R:Tr) (a:Int) (x top:Nm):Pq×Int:=fJ R a (cH (cO R a x) top) Pq.id
noncomputable def bd (R:Tr) (a:Int) (tq fr:Nm):Pq×Int:=
 if (aU R a fr tq).2≠0 then(Pq.zero,(aU R a fr tq).2)else
  if (upP R a fr (aU R a fr tq).1).2≠0 then(Pq.zero,(upP R a fr (aU R a fr tq).1).2)else
   if (upP R a tq (aU R a fr tq).1).2≠0 then(Pq.zero,(upP R a tq (aU R a fr tq).1).2)else
    ((upP R a tq (aU R a fr tq).1).1.inv.mul (upP R a fr (aU R a fr tq).1).1,0)
structure FindOk (R:Tr) (a:Int) (tq fr:Nm):Prop where
 up:j6 R a (cH (cO R a fr) (aU R a fr tq).1) Pq.id
 dn:j6 R a (cH (cO R a tq) (aU R a fr tq).1) Pq.id
 ou:(upP R a fr (aU R a fr tq).1).2=0→(upP R a fr (aU R a fr tq).1).1.ok 100000∧(upP R a fr (aU R a fr tq).1).1.good
 od:(upP R a tq (aU R a fr tq).1).2=0→(upP R a tq (aU R a fr tq).1).1.ok 100000∧(upP R a tq (aU R a fr tq).1).1.good∧(upP R a tq (aU R a fr tq).1).1.inv.ok 100000
theorem pR {R:Tr} {a:Int} {x y:Nm} (h:(aU R a x y).2=0):aO R x∧aO R y:=by
 unfold aU at h
 split at h
 ·rename_i k;exact k
 ·simp at h
set_option maxHeartbeats 2000000 in
theorem j7 {w:World} {t m:Nat} {E:List Ch} {tq fr:Nm} {a:Int} (hT:TM w t m E) (hE:Sane (trE E)) (hok:FindOk (trE E) a tq fr):
  Calls Tryz.prog 18 #[ptB t,.string tq,.string fr,.int .i64 a] w fun e w'=>∃v,e= .returned (.tuple #[v,.int .i64 (bd (trE E) a tq fr).2])∧bj w' v (bd (trE E) a tq fr).1∧Below w.heap.size w w':=by
 have hp0:=PB.new w
 have hme:=q_meet (hT.below hp0.bel) hE fr tq a
 have HT:=Lib.hid (show∀wq,Below w.heap.size w wq→TM wq t m E from fun wq k=>hT.below k)
 have HE:=Lib.hid hE
 obtain⟨M,hM⟩:∃M,aU (trE E) a fr tq=M:=⟨_,rfl⟩
 obtain⟨Rz,hRz⟩:∃r,r=bd (trE E) a tq fr:=⟨_,rfl⟩
 have hkn:=pR (R:=trE E) (a:=a) (x:=fr) (y:=tq)
 obtain⟨ok1,ok2,ok3,ok4⟩:=hok
 rw[hM]at hme hkn ok1 ok2 ok3 ok4
 have hz:=hRz
 unfold bd at hz
 rw[hM]at hz
 rw[←hRz]
 obtain⟨top,mc⟩:=M
 simp only at hme hkn ok1 ok2 ok3 ok4 hz
 have HZ:=Lib.hid hz
 have HKN:=Lib.hid hkn
 have HO1:=Lib.hid ok1
 have HO2:=Lib.hid ok2
 have HO3:=Lib.hid ok3
 have HO4:=Lib.hid ok4
 have HP0:=Lib.hid hp0
 obtain⟨W,hW⟩:∃W,w.alloc (.cells aw.toArray 39)=W:=⟨_,rfl⟩
 rw[hW]at HP0 hme
 clear hT hE hp0 hRz hM hkn ok1 ok2 ok3 ok4 hz
 go_enter Tryz.func18,Tryz.ntmps18
 go_upto_region 0 with(fail)
 refine wp_region_list ?_
 refine ag rfl (v:=.pointer (some ⟨w.heap.size,0,none⟩)) (w':=W) (by subst hW;go_simp;try rfl) ?_
 obtain⟨B8,hB8⟩:∃B,w.heap.size=B:=⟨_,rfl⟩
 have HB8:=Lib.hid hB8
 rw[hB8]at HP0⊢
 clear hW hB8
 by_cases h0:mc=0
 ·subst h0
  obtain⟨kx,ky⟩:=HKN.out rfl
  have lx:=fv HE.out (a:=a) kx
  have ly:=fv HE.out (a:=a) ky
  have HUP:=Lib.hid (show∀wq,Below w.heap.size w wq→Calls Tryz.prog 72 #[ptB t,.string fr,.string top,.int .i64 a] wq fun e w'=>∃v,e= .returned (.tuple #[v,.int .i64 (upP (trE E) a fr top).2])∧bj w' v (upP (trE E) a fr top).1∧Below wq.heap.size wq w' from fun wq k=>q_rise (HT.out wq k) HE.out.ok (fI HE.out.ok a fr) (by omega) HO1.out)
  have HDN:=Lib.hid (show∀wq,Below w.heap.size w wq→Calls Tryz.prog 72 #[ptB t,.string tq,.string top,.int .i64 a] wq fun e w'=>∃v,e= .returned (.tuple #[v,.int .i64 (upP (trE E) a tq top).2])∧bj w' v (upP (trE E) a tq top).1∧Below wq.heap.size wq w' from fun wq k=>q_rise (HT.out wq k) HE.out.ok (fI HE.out.ok a tq) (by omega) HO2.out)
  have hz:=HZ.out
  have o3:=HO3.out
  have o4:=HO4.out
  rw[if_neg (by simp)]at hz
  generalize upP (trE E) a fr top=U at *
  generalize upP (trE E) a tq top=D at *
  obtain⟨up,uc⟩:=U
  obtain⟨dn,dc⟩:=D
  simp only at hz o3 o4 HUP HDN
  have HZ2:=Lib.hid hz
  have HO3':=Lib.hid o3
  have HO4':=Lib.hid o4
  clear hz o3 o4 HZ HO1 HO2 HO3 HO4 kx ky lx ly HKN HT HE
  go_upto_region 4 with(go_at_call 71;refine hme.mono ?_;clear hme;rintro e w1 ⟨rfl,hb⟩;have HP1:=Lib.hid (HP0.out.next hb);clear hb)
  clear HP0
  have hup:=HUP.out w1 HP1.out.bel
  refine wp_region_list ?_
  refine ag rfl (v:=ptB t) (w':=w1) (by rfl) ?_
  refine ag rfl (v:=.string fr) (w':=w1) (by rfl) ?_
  refine ag rfl (v:=.string top) (w':=w1) (by rfl) ?_
  refine ag rfl (v:=.int .i64 a) (w':=w1) (by rfl) ?_
  refine wpList_plain rfl (fun K hK=> ?_)
  go_simp
  go_at_call 72
  refine hup.mono ?_
  rintro e w4 ⟨v,rfl,hv,hb⟩
  obtain⟨vs12,rfl,hul,hu1,hun⟩:=db hv
  refine hK _ _ ?_
  clear hK K hup
  refine ag rfl (v:=.tuple #[.agg vs12.toArray,.int .i64 uc]) (w':=w4) (by rfl) ?_
  refine ag rfl (v:=.agg vs12.toArray) (w':=w4) (by go_simp) ?_
  refine ag rfl (v:=.int .i64 uc) (w':=w4) (by go_simp) ?_
  have hpn:=PB.new w4
  have hvn:bj (w4.alloc (.cells aw.toArray 39)) (.agg vs12.toArray) up:=IsL.mono hv hpn.bel
  have hth:=hpn.there
  rw[←hul]at hth
  have hb5:=aG vs12 0 _ (hb.trans (hpn.bel.mono hb.size)) hb.size (b:=w4.heap.size)
  have HP2:=Lib.hid (HP1.out.next hb5)
  have H12:=Lib.hid ((hpn.base (HP1.out.bel.trans (hb.mono HP1.out.bel.size))).put (us:=vs12) hul hun)
  have HV12:=Lib.hid (hpn.keep (us:=vs12) hvn)
  have HL12:=Lib.hid (show w4.heap.size=w4.heap.size from rfl)
  have hlt12:B8<w4.heap.size:=by have:=HP1.out.lt;have:=hb.size;omega
  refine ag rfl (v:=.pointer (some ⟨w4.heap.size,0,none⟩)) (w':=w4.alloc (.cells aw.toArray 39)) (by go_simp;try rfl) ?_
  refine wpList_store_mid rfl _ _ _ rfl w4.heap.size 0 vs12.toArray rfl rfl (by simpa using hth) (aZ hul) hu1 ?_
  rw[show vs12.toArray.toList=vs12 from rfl]
  generalize hW5:(w4.alloc (.cells aw.toArray 39)).setCells w4.heap.size 0 vs12=W2 at *
  obtain⟨B12,hB12⟩:∃B,w4.heap.size=B:=⟨_,rfl⟩
  rw[hB12]at H12 hlt12⊢
  have HLT12:=Lib.hid hlt12
  clear hW5 hB12 HL12 hlt12 hpn hvn hth hb5 hv hb hu1 hun hul
  clear HP1 HUP
  by_cases h0:uc=0
  ·subst h0
   obtain⟨ou1,ou2⟩:=HO3'.out rfl
   have hz:=HZ2.out
   rw[if_neg (by simp)]at hz
   have HZ4:=Lib.hid hz
   have HU:=Lib.hid (And.intro ou1 ou2)
   clear hz HZ2 HO3' ou1 ou2
   go_upto_region 7 with(fail)
   have hdn:=HDN.out W2 HP2.out.bel
   refine wp_region_list ?_
   refine ag rfl (v:=ptB t) (w':=W2) (by rfl) ?_
   refine ag rfl (v:=.string tq) (w':=W2) (by rfl) ?_
   refine ag rfl (v:=.string top) (w':=W2) (by rfl) ?_
   refine ag rfl (v:=.int .i64 a) (w':=W2) (by rfl) ?_
   refine wpList_plain rfl (fun K hK=> ?_)
   go_simp
   go_at_call 72
   refine hdn.mono ?_
   rintro e w4 ⟨v,rfl,hv,hb⟩
   obtain⟨vs13,rfl,hul,hu1,hun⟩:=db hv
   refine hK _ _ ?_
   clear hK K hdn
   refine ag rfl (v:=.tuple #[.agg vs13.toArray,.int .i64 dc]) (w':=w4) (by rfl) ?_
   refine ag rfl (v:=.agg vs13.toArray) (w':=w4) (by go_simp) ?_
   refine ag rfl (v:=.int .i64 dc) (w':=w4) (by go_simp) ?_
   have hpn:=PB.new w4
   have hvn:bj (w4.alloc (.cells aw.toArray 39)) (.agg vs13.toArray) dn:=IsL.mono hv hpn.bel
   have hth:=hpn.there
   rw[←hul]at hth
   have hb5:=aG vs13 0 _ (hb.trans (hpn.bel.mono hb.size)) hb.size (b:=w4.heap.size)
   have HP3:=Lib.hid (HP2.out.next hb5)
   have H12b:=Lib.hid (H12.out.next hb5)
   have HV12b:=Lib.hid (IsL.mono HV12.out hb5)
   have H13:=Lib.hid ((hpn.base (HP2.out.bel.trans (hb.mono HP2.out.bel.size))).put (us:=vs13) hul hun)
   have HV13:=Lib.hid (hpn.keep (us:=vs13) hvn)
   have HL13:=Lib.hid (show w4.heap.size=w4.heap.size from rfl)
   have hlt13:B8<w4.heap.size:=by have:=HP2.out.lt;have:=hb.size;omega
   have hlt12:B12<w4.heap.size:=by have:=H12.out.lt;have:=hb.size;omega
   refine ag rfl (v:=.pointer (some ⟨w4.heap.size,0,none⟩)) (w':=w4.alloc (.cells aw.toArray 39)) (by go_simp;try rfl) ?_
   refine wpList_store_mid rfl _ _ _ rfl w4.heap.size 0 vs13.toArray rfl rfl (by simpa using hth) (aZ hul) hu1 ?_
   rw[show vs13.toArray.toList=vs13 from rfl]
   generalize hW5:(w4.alloc (.cells aw.toArray 39)).setCells w4.heap.size 0 vs13=W3 at *
   obtain⟨B13,hB13⟩:∃B,w4.heap.size=B:=⟨_,rfl⟩
   rw[hB13]at H13 hlt13 hlt12⊢
   have HLT13:=Lib.hid hlt13
   have HLT1213:=Lib.hid hlt12
   clear hW5 hB13 HL13 hlt13 hlt12 hpn hvn hth hb5 hv hb hu1 hun hul
   clear HP2 HDN HV12 H12
   by_cases h0:dc=0
   ·subst h0
    have hz:=HZ4.out
    rw[if_neg (by simp)]at hz
    have HZ5:=Lib.hid hz
    obtain⟨od1,od2,od3⟩:=HO4'.out rfl
    clear hz HZ4
    go_upto_region 10 with(fail)
    have hsz13:(Tryz.prog.info? 39).map (·.size)=some vs13.length:=by rw[H13.out.len];kernel_rfl
    have hsz12:(Tryz.prog.info? 39).map (·.size)=some vs12.length:=by rw[H12b.out.len];kernel_rfl
    have hbd:Below W3.heap.size W3 W3.drew:=(Below.refl _ _).drew
    have hinv:=q_poInv _ dn W3.drew (IsL.mono HV13.out hbd) od1 od2
    refine wp_region_held_drew (S:=fun w'=>w'.rangeAt B13 0 vs13∧w'.rangeAt B12 0 vs12) (by kernel_rfl) ⟨by simpa using H13.out.ld,by simpa using H12b.out.ld⟩ (fun hHeld=> ?_)
    refine wpAnyH_take (i:=0) (v:=.agg vs13.toArray) rfl (by kernel_rfl) (by kernel_rfl) (by kernel_rfl) (fun _ _ _ h=>h) (yieldsIf_load_mid (by rfl) _ _ rfl B13 0 rfl _ _ (fun w hw=>hw.1) Tryz.underlying39 rfl hsz13) hHeld ?_
    refine wpAnyH_take (i:=2) (v:=.agg vs12.toArray) rfl (by kernel_rfl) (by kernel_rfl) (by kernel_rfl) (fun _ _ _ h=>h) (yieldsIf_load_mid (by rfl) _ _ rfl B12 0 rfl _ _ (fun w hw=>hw.2) Tryz.underlying39 rfl hsz12) hHeld ?_
    refine wpAnyH_ready (rs:=[1]) (by kernel_rfl) (by simp) ?_
    refine AllReadyH.cons rfl (fun K hK=> ?_) AllReadyH.nil
    go_simp
    go_at_call 56
    refine hinv.mono ?_
    rintro e w6 ⟨v,rfl,hv,hb⟩
    obtain⟨us6,rfl,_,_,_⟩:=db hv
    have hb6:Below W3.heap.size W3 w6:=hbd.trans hb
    have hP6:=HP3.out.next hb6
    have hA:=H13.out.next hb6
    have hB:=H12b.out.next hb6
    refine hK.out _ _ ⟨hA.ld,hB.ld⟩ (fun hHeld2=> ?_)
    clear hK K hHeld hinv
    have hmul:=rW _ _ dn.inv up w6 hv (IsL.mono HV12b.out hb6) od3 HU.out.1 od2.inv HU.out.2
    refine wpAnyH_ready (rs:=[3]) (by kernel_rfl) (by simp) ?_
    refine AllReadyH.cons rfl (fun K hK=> ?_) AllReadyH.nil
    go_simp
    go_at_call 21
    refine hmul.mono ?_
    rintro e w7 ⟨v,rfl,hv7,hb7⟩
    obtain⟨us7,rfl,hul,hu1,hun⟩:=db hv7
    have hP7:=hP6.next hb7
    refine hK.out _ _ ⟨(hA.next hb7).ld,(hB.next hb7).ld⟩ (fun hHeld3=> ?_)
    clear hK K hHeld2 hmul
    have hth:=hP7.there
    rw[←hul]at hth
    refine wpAnyH_ready (rs:=[4]) (by kernel_rfl) (by simp) ?_
    refine AllReadyH.cons rfl (fun K hK=> ?_) AllReadyH.nil
    refine wp_store_mid _ _ _ rfl B8 0 us7.toArray rfl rfl (by simpa using hth) (aZ hul) hu1 ?_
    rw[show us7.toArray.toList=us7 from rfl]
    have HP9:=Lib.hid (hP7.put (us:=us7) hul hun)
    have HV9:=Lib.hid (hP7.keep (us:=us7) hv7)
    refine hK.out _ _ ⟨((hA.next hb7).oth (us:=us7) (by have:=HLT13.out;omega) hP7.ge).ld,((hB.next hb7).oth (us:=us7) (by have:=HLT12.out;omega) hP7.ge).ld⟩ (fun hHeld4=> ?_)
    clear hK K hHeld3
    generalize hW9:w7.setCells B8 0 us7=W9 at *
    clear hW9 hth hv7 hb7 hul hu1 hun hP7 hA hB hP6 hv hb hb6 hbd
    refine wpAnyH_take (i:=5) (v:=.int .i64 0) rfl (by kernel_rfl) (by kernel_rfl) (by kernel_rfl) (fun _ _ _ h=>h) (Or.inl ⟨by rfl,fun w hw=>by rfl⟩) hHeld4 ?_
    refine wpAnyH_done (by kernel_rfl) ?_ _
    go_wp2
    refine bodyPost_ret (HP9.out.ret rfl _ rfl) rfl ?_
    rw[HZ5.out]
    exact⟨_,rfl,HV9.out,HP9.out.bel⟩
   ·have h0':(dc==0)=false:=beq_eq_false_iff_ne.2 h0
    have HZ5:=Lib.hid (show Rz=(Pq.zero,dc)by rw[HZ4.out,if_pos h0])
    clear h0 HZ4 HO4'
    go_upto_region 9 with(fail)
    refine wp_region_list ?_
    refine ag rfl (v:=.agg aw.toArray) (w':=W3) (by unfold aw;go_simp;try rfl) ?_
    refine ag rfl (v:=.int .i64 dc) (w':=W3) (by rfl) ?_
    refine wpList_store_mid rfl _ _ _ rfl B8 0 aw.toArray rfl rfl HP3.out.there (by kernel_rfl) (by kernel_rfl) ?_
    have HP9:=Lib.hid (HP3.out.put (us:=aw) rfl HP3.out.nu)
    rw[show aw.toArray.toList=aw from rfl]
    generalize hW9:W3.setCells B8 0 aw=W9 at *
    clear hW9
    go_wp2
    refine bodyPost_ret (HP9.out.ret rfl _ rfl) rfl ?_
    rw[HZ5.out]
    exact⟨_,rfl,dI _,HP9.out.bel⟩
  ·have h0':(uc==0)=false:=beq_eq_false_iff_ne.2 h0
   have HZ3:=Lib.hid (show Rz=(Pq.zero,uc)by rw[HZ2.out,if_pos h0])
   clear h0 HZ2 HO3' HO4' HDN
   go_upto_region 6 with(fail)
   refine wp_region_list ?_
   refine ag rfl (v:=.agg aw.toArray) (w':=W2) (by unfold aw;go_simp;try rfl) ?_
   refine ag rfl (v:=.int .i64 uc) (w':=W2) (by rfl) ?_
   refine wpList_store_mid rfl _ _ _ rfl B8 0 aw.toArray rfl rfl HP2.out.there (by kernel_rfl) (by kernel_rfl) ?_
   have HP9:=Lib.hid (HP2.out.put (us:=aw) rfl HP2.out.nu)
   rw[show aw.toArray.toList=aw from rfl]
   generalize hW9:W2.setCells B8 0 aw=W9 at *
   clear hW9
   go_wp2
   refine bodyPost_ret (HP9.out.ret rfl _ rfl) rfl ?_
   rw[HZ3.out]
   exact⟨_,rfl,dI _,HP9.out.bel⟩
 ·have h0':(mc==0)=false:=beq_eq_false_iff_ne.2 h0
  have HZ3:=Lib.hid (show Rz=(Pq.zero,mc)by rw[HZ.out,if_pos h0])
  clear h0 HKN HO1 HO2 HO3 HO4 HZ HT HE
  go_upto_region 3 with(go_at_call 71;refine hme.mono ?_;clear hme;rintro e w1 ⟨rfl,hb⟩;have HP1:=Lib.hid (HP0.out.next hb);clear hb)
  refine wp_region_list ?_
  refine ag rfl (v:=.agg aw.toArray) (w':=w1) (by unfold aw;go_simp;try rfl) ?_
  refine ag rfl (v:=.int .i64 mc) (w':=w1) (by rfl) ?_
  refine wpList_store_mid rfl _ _ _ rfl B8 0 aw.toArray rfl rfl HP1.out.there (by kernel_rfl) (by kernel_rfl) ?_
  have HP9:=Lib.hid (HP1.out.put (us:=aw) rfl HP1.out.nu)
  rw[show aw.toArray.toList=aw from rfl]
  generalize hW9:w1.setCells B8 0 aw=W9 at *
  clear hW9
  go_wp2
  refine bodyPost_ret (HP9.out.ret rfl _ rfl) rfl ?_
  rw[HZ3.out]
  exact⟨_,rfl,dI _,HP9.out.bel⟩
end
section
open Classical
set_option maxHeartbeats 1000000 in
theorem q_Can {w:World} {t m:Nat} {E:List Ch} {tq fr:Nm} {a:Int} (hT:TM w t m E) (hE:Sane (trE E)) (hok:FindOk (trE E) a tq fr):
  Calls Tryz.prog 19 #[ptB t,.string tq,.string fr,.int .i64 a] w fun e w'=>e= .returned (.bool (decide ((bd (trE E) a tq fr).2=0)))∧Below w.heap.size w w':=by
 have hf:=j7 hT hE hok
 generalize bd (trE E) a tq fr=M at *
 obtain⟨p,c⟩:=M
 simp only at hf⊢
 have hb0:=Below.refl w.heap.size w
 clear hT hE hok
 go_enter Tryz.func19,Tryz.ntmps19
 go_upto_region 1 with(fail)
 refine wp_region_list ?_
 refine ag rfl (v:=ptB t) (w':=w) (by rfl) ?_
 refine ag rfl (v:=.string tq) (w':=w) (by rfl) ?_
 refine ag rfl (v:=.string fr) (w':=w) (by rfl) ?_
 refine ag rfl (v:=.int .i64 a) (w':=w) (by rfl) ?_
 refine wpList_plain rfl (fun K hK=> ?_)
 go_simp
 go_at_call 18
 refine hf.mono ?_
 rintro e w4 ⟨v,rfl,hv,hb⟩
 obtain⟨vs9,rfl,hul,hu1,hun⟩:=db hv
 refine hK _ _ ?_
 clear hK K hf
 refine ag rfl (v:=.tuple #[.agg vs9.toArray,.int .i64 c]) (w':=w4) (by rfl) ?_
 refine ag rfl (v:=.agg vs9.toArray) (w':=w4) (by go_simp) ?_
 refine ag rfl (v:=.int .i64 c) (w':=w4) (by go_simp) ?_
 have hpn:=PB.new w4
 have hvn:bj (w4.alloc (.cells aw.toArray 39)) (.agg vs9.toArray) p:=IsL.mono hv hpn.bel
 have hth:=hpn.there
 rw[←hul]at hth
 have hb5:=aG vs9 0 _ (hb.trans (hpn.bel.mono hb.size)) hb.size (b:=w4.heap.size)
 have H9:=Lib.hid ((hpn.base (hb0.trans (hb.mono (hb0).size))).put (us:=vs9) hul hun)
 have HV9:=Lib.hid (hpn.keep (us:=vs9) hvn)
 refine ag rfl (v:=.pointer (some ⟨w4.heap.size,0,none⟩)) (w':=w4.alloc (.cells aw.toArray 39)) (by go_simp;try rfl) ?_
 refine wpList_store_mid rfl _ _ _ rfl w4.heap.size 0 vs9.toArray rfl rfl (by simpa using hth) (aZ hul) hu1 ?_
 rw[show vs9.toArray.toList=vs9 from rfl]
 have HBL9:=Lib.hid ((hb0).trans (hb5.mono (hb0).size))
 generalize hW5:(w4.alloc (.cells aw.toArray 39)).setCells w4.heap.size 0 vs9=W2 at *
 obtain⟨B9,hB9⟩:∃B,w4.heap.size=B:=⟨_,rfl⟩
 rw[hB9]at H9⊢
 clear hW5 hB9 hpn hvn hth hb5 hv hb hu1 hun hul
 clear HV9 H9
 by_cases h0:c=0
 ·subst h0
  go_wp2
  go_ret
  exact⟨rfl,HBL9.out⟩
 ·have h0':(c==0)=false:=beq_eq_false_iff_ne.2 h0
  have H0:=Lib.hid h0
  clear h0
  go_wp2
  go_ret
  exact⟨by rw[decide_eq_false H0.out];rfl,HBL9.out⟩
noncomputable def zZ (R:Tr) (tq:Nm) (ta:Int) (fr:Nm) (fa:Int) (th:Nm):Pq×Int:=
 if (bd R fa th fr).2≠0 then(Pq.zero,(bd R fa th fr).2)else if (bd R ta tq th).2≠0 then(Pq.zero,(bd R ta tq th).2)else((bd R ta tq th).1.mul (bd R fa th fr).1,0)
structure AcrOk (R:Tr) (tq:Nm) (ta:Int) (fr:Nm) (fa:Int) (th:Nm):Prop where
 f1:FindOk R fa th fr
 f2:FindOk R ta tq th
 o1:(bd R fa th fr).2=0→(bd R fa th fr).1.ok 100000∧(bd R fa th fr).1.good
 o2:(bd R ta tq th).2=0→(bd R ta tq th).1.ok 100000∧(bd R ta tq th).1.good
set_option maxHeartbeats 2000000 in
theorem q_Across {w:World} {t m:Nat} {E:List Ch} {tq fr th:Nm} {ta fa:Int} (hT:TM w t m E) (hE:Sane (trE E)) (hok:AcrOk (trE E) tq ta fr fa th):
  Calls Tryz.prog 49 #[ptB t,.string tq,.int .i64 ta,.string fr,.int .i64 fa,.string th] w fun e w'=>∃v,e= .returned (.tuple #[v,.int .i64 (zZ (trE E) tq ta fr fa th).2])∧bj w' v (zZ (trE E) tq ta fr fa th).1∧Below w.heap.size w w':=by
 have hp0:=PB.new w
 obtain⟨Rz,hRz⟩:∃r,r=zZ (trE E) tq ta fr fa th:=⟨_,rfl⟩
 have hz:=hRz
 unfold zZ at hz
 rw[←hRz]
 obtain⟨k1,k2,o1,o2⟩:=hok
 have hf1:=j7 (hT.below hp0.bel) hE k1
 have HF2:=Lib.hid (show∀wq,Below w.heap.size w wq→Calls Tryz.prog 18 #[ptB t,.string tq,.string th,.int .i64 ta] wq fun e w'=>∃v,e= .returned (.tuple #[v,.int .i64 (bd (trE E) ta tq th).2])∧bj w' v (bd (trE E) ta tq th).1∧Below wq.heap.size wq w' from fun wq k=>j7 (hT.below k) hE k2)
 clear k1 k2
 generalize bd (trE E) fa th fr=U at *
 generalize bd (trE E) ta tq th=D at *
 obtain⟨up,uc⟩:=U
 obtain⟨dn,dc⟩:=D
 simp only at hz o1 o2 hf1 HF2
 have HZ2:=Lib.hid hz
 have HO1:=Lib.hid o1
 have HO2:=Lib.hid o2
 have HP1:=Lib.hid hp0
 obtain⟨w1,hW⟩:∃W,w.alloc (.cells aw.toArray 39)=W:=⟨_,rfl⟩
 rw[hW]at HP1 hf1
 clear hT hE hp0 hRz hz o1 o2
 go_enter Tryz.func49,Tryz.ntmps49
 go_upto_region 0 with(fail)
 refine wp_region_list ?_
 refine ag rfl (v:=.pointer (some ⟨w.heap.size,0,none⟩)) (w':=w1) (by subst hW;go_simp;try rfl) ?_
 obtain⟨B8,hB8⟩:∃B,w.heap.size=B:=⟨_,rfl⟩
 have HB8:=Lib.hid hB8
 rw[hB8]at HP1⊢
 clear hW hB8
 go_upto_region 1 with(fail)
 refine wp_region_list ?_
 refine ag rfl (v:=ptB t) (w':=w1) (by rfl) ?_
 refine ag rfl (v:=.string th) (w':=w1) (by rfl) ?_
 refine ag rfl (v:=.string fr) (w':=w1) (by rfl) ?_
 refine ag rfl (v:=.int .i64 fa) (w':=w1) (by rfl) ?_
 refine wpList_plain rfl (fun K hK=> ?_)
 go_simp
 go_at_call 18
 refine hf1.mono ?_
 rintro e w4 ⟨v,rfl,hv,hb⟩
 obtain⟨vs14,rfl,hul,hu1,hun⟩:=db hv
 refine hK _ _ ?_
 clear hK K hf1
 refine ag rfl (v:=.tuple #[.agg vs14.toArray,.int .i64 uc]) (w':=w4) (by rfl) ?_
 refine ag rfl (v:=.agg vs14.toArray) (w':=w4) (by go_simp) ?_
 refine ag rfl (v:=.int .i64 uc) (w':=w4) (by go_simp) ?_
 have hpn:=PB.new w4
 have hvn:bj (w4.alloc (.cells aw.toArray 39)) (.agg vs14.toArray) up:=IsL.mono hv hpn.bel
 have hth:=hpn.there
 rw[←hul]at hth
 have hb5:=aG vs14 0 _ (hb.trans (hpn.bel.mono hb.size)) hb.size (b:=w4.heap.size)
 have HP2:=Lib.hid (HP1.out.next hb5)
 have H14:=Lib.hid ((hpn.base (HP1.out.bel.trans (hb.mono (HP1.out.bel).size))).put (us:=vs14) hul hun)
 have HV14:=Lib.hid (hpn.keep (us:=vs14) hvn)
 refine ag rfl (v:=.pointer (some ⟨w4.heap.size,0,none⟩)) (w':=w4.alloc (.cells aw.toArray 39)) (by go_simp;try rfl) ?_
 refine wpList_store_mid rfl _ _ _ rfl w4.heap.size 0 vs14.toArray rfl rfl (by simpa using hth) (aZ hul) hu1 ?_
 rw[show vs14.toArray.toList=vs14 from rfl]
 have HBL14:=Lib.hid ((HP1.out.bel).trans (hb5.mono (HP1.out.bel).size))
 generalize hW5:(w4.alloc (.cells aw.toArray 39)).setCells w4.heap.size 0 vs14=W2 at *
 obtain⟨B14,hB14⟩:∃B,w4.heap.size=B:=⟨_,rfl⟩
 rw[hB14]at H14⊢
 clear hW5 hB14 hpn hvn hth hb5 hv hb hu1 hun hul
 clear HP1
 by_cases h0:uc=0
 ·subst h0
  have hz:=HZ2.out
  rw[if_neg (by simp)]at hz
  have HZ4:=Lib.hid hz
  clear hz HZ2
  have hf2:=HF2.out W2 HP2.out.bel
  go_upto_region 4 with(fail)
  refine wp_region_list ?_
  refine ag rfl (v:=ptB t) (w':=W2) (by rfl) ?_
  refine ag rfl (v:=.string tq) (w':=W2) (by rfl) ?_
  refine ag rfl (v:=.string th) (w':=W2) (by rfl) ?_
  refine ag rfl (v:=.int .i64 ta) (w':=W2) (by rfl) ?_
  refine wpList_plain rfl (fun K hK=> ?_)
  go_simp
  go_at_call 18
  refine hf2.mono ?_
  rintro e w4 ⟨v,rfl,hv,hb⟩
  obtain⟨vs16,rfl,hul,hu1,hun⟩:=db hv
  refine hK _ _ ?_
  clear hK K hf2
  refine ag rfl (v:=.tuple #[.agg vs16.toArray,.int .i64 dc]) (w':=w4) (by rfl) ?_
  refine ag rfl (v:=.agg vs16.toArray) (w':=w4) (by go_simp) ?_
  refine ag rfl (v:=.int .i64 dc) (w':=w4) (by go_simp) ?_
  have hpn:=PB.new w4
  have hvn:bj (w4.alloc (.cells aw.toArray 39)) (.agg vs16.toArray) dn:=IsL.mono hv hpn.bel
  have hth:=hpn.there
  rw[←hul]at hth
  have hb5:=aG vs16 0 _ (hb.trans (hpn.bel.mono hb.size)) hb.size (b:=w4.heap.size)
  have HP3:=Lib.hid (HP2.out.next hb5)
  have H14b:=Lib.hid (H14.out.next hb5)
  have HV14b:=Lib.hid (IsL.mono HV14.out hb5)
  have H16:=Lib.hid ((hpn.base (HP2.out.bel.trans (hb.mono (HP2.out.bel).size))).put (us:=vs16) hul hun)
  have HV16:=Lib.hid (hpn.keep (us:=vs16) hvn)
  refine ag rfl (v:=.pointer (some ⟨w4.heap.size,0,none⟩)) (w':=w4.alloc (.cells aw.toArray 39)) (by go_simp;try rfl) ?_
  refine wpList_store_mid rfl _ _ _ rfl w4.heap.size 0 vs16.toArray rfl rfl (by simpa using hth) (aZ hul) hu1 ?_
  rw[show vs16.toArray.toList=vs16 from rfl]
  have HBL16:=Lib.hid ((HP2.out.bel).trans (hb5.mono (HP2.out.bel).size))
  generalize hW5:(w4.alloc (.cells aw.toArray 39)).setCells w4.heap.size 0 vs16=W3 at *
  obtain⟨B16,hB16⟩:∃B,w4.heap.size=B:=⟨_,rfl⟩
  rw[hB16]at H16⊢
  clear hW5 hB16 hpn hvn hth hb5 hv hb hu1 hun hul
  clear HP2 HF2 HV14 H14
  by_cases h0:dc=0
  ·subst h0
   have hz:=HZ4.out
   rw[if_neg (by simp)]at hz
   have HZ5:=Lib.hid hz
   obtain⟨u1,u2⟩:=HO1.out rfl
   obtain⟨d1,d2⟩:=HO2.out rfl
   have hmul:=rW _ _ dn up W3 HV16.out HV14b.out d1 u1 d2 u2
   have HSX:=Lib.hid (show(Tryz.prog.info? 39).map (·.size)=some vs16.length by rw[H16.out.len];kernel_rfl)
   have HSC:=Lib.hid (show(Tryz.prog.info? 39).map (·.size)=some vs14.length by rw[H14b.out.len];kernel_rfl)
   clear hz HZ4 u1 u2 d1 d2 HO1 HO2 HV16 HV14b
   go_upto_region 7 with(fail)
   refine wp_region_list ?_
   refine wpList_load_mid rfl _ _ rfl B16 0 rfl vs16 _ H16.out.ld Tryz.underlying39 rfl HSX.out ?_
   refine wpList_load_mid rfl _ _ rfl B14 0 rfl vs14 _ H14b.out.ld Tryz.underlying39 rfl HSC.out ?_
   refine wpList_plain rfl (fun K hK=> ?_)
   go_simp
   go_at_call 21
   refine hmul.mono ?_
   rintro e w6 ⟨v,rfl,hv,hb⟩
   obtain⟨us6,rfl,hul,hu1,hun⟩:=db hv
   refine hK _ _ ?_
   clear hK K hmul
   have hP6:=HP3.out.next hb
   have hth:=hP6.there
   rw[←hul]at hth
   refine wpList_store_mid rfl _ _ _ rfl B8 0 us6.toArray rfl rfl (by simpa using hth) (aZ hul) hu1 ?_
   rw[show us6.toArray.toList=us6 from rfl]
   have HP9:=Lib.hid (hP6.put (us:=us6) hul hun)
   have HV9:=Lib.hid (hP6.keep (us:=us6) hv)
   generalize hW9:w6.setCells B8 0 us6=W9 at *
   clear hW9 hth hP6 hv hb hu1 hun hul
   go_wp2
   refine bodyPost_ret (HP9.out.ret rfl _ rfl) rfl ?_
   rw[HZ5.out]
   exact⟨_,rfl,HV9.out,HP9.out.bel⟩
  ·have h0':(dc==0)=false:=beq_eq_false_iff_ne.2 h0
   have HZ5:=Lib.hid (show Rz=(Pq.zero,dc)by rw[HZ4.out,if_pos h0])
   clear h0 HZ4 HO1 HO2
   go_upto_region 6 with(fail)
   refine wp_region_list ?_
   refine ag rfl (v:=.agg aw.toArray) (w':=W3) (by unfold aw;go_simp;try rfl) ?_
   refine ag rfl (v:=.int .i64 dc) (w':=W3) (by rfl) ?_
   refine wpList_store_mid rfl _ _ _ rfl B8 0 aw.toArray rfl rfl HP3.out.there (by kernel_rfl) (by kernel_rfl) ?_
   have HP9:=Lib.hid (HP3.out.put (us:=aw) rfl HP3.out.nu)
   rw[show aw.toArray.toList=aw from rfl]
   generalize hW9:W3.setCells B8 0 aw=W9 at *
   clear hW9
   go_wp2
   refine bodyPost_ret (HP9.out.ret rfl _ rfl) rfl ?_
   rw[HZ5.out]
   exact⟨_,rfl,dI _,HP9.out.bel⟩
 ·have h0':(uc==0)=false:=beq_eq_false_iff_ne.2 h0
  have HZ3:=Lib.hid (show Rz=(Pq.zero,uc)by rw[HZ2.out,if_pos h0])
  clear h0 HZ2 HO1 HO2 HF2
  go_upto_region 3 with(fail)
  refine wp_region_list ?_
  refine ag rfl (v:=.agg aw.toArray) (w':=W2) (by unfold aw;go_simp;try rfl) ?_
  refine ag rfl (v:=.int .i64 uc) (w':=W2) (by rfl) ?_
  refine wpList_store_mid rfl _ _ _ rfl B8 0 aw.toArray rfl rfl HP2.out.there (by kernel_rfl) (by kernel_rfl) ?_
  have HP9:=Lib.hid (HP2.out.put (us:=aw) rfl HP2.out.nu)
  rw[show aw.toArray.toList=aw from rfl]
  generalize hW9:W2.setCells B8 0 aw=W9 at *
  clear hW9
  go_wp2
  refine bodyPost_ret (HP9.out.ret rfl _ rfl) rfl ?_
  rw[HZ3.out]
  exact⟨_,rfl,dI _,HP9.out.bel⟩
end
section
open Classical
theorem wU (w:World) (x y:Nm) (a:Int):Calls Tryz.prog 71 #[.pointer none,.string x,.string y,.int .i64 a] w fun e w'=>e= .returned (.tuple #[.string ByteArray.empty,.int .i64 6])∧w'=w:=by
 go_enter Tryz.func71,Tryz.ntmps71
 go_wp2
 go_ret2
 exact⟨rfl,rfl⟩
theorem n_Common (w:World) (x y:Nm) (a:Int):Calls Tryz.prog 52 #[.pointer none,.string x,.string y,.int .i64 a] w fun e w'=>e= .returned (.tuple #[.string ByteArray.empty,.bool false])∧w'=w:=by
 have hm:=wU w x y a
 go_enter Tryz.func52,Tryz.ntmps52
 go_wp2_with (go_at_call 71;refine hm.mono ?_;rintro e w1 ⟨rfl,hw⟩;obtain rfl:=hw.symm)
 go_ret2
 exact⟨rfl,rfl⟩
theorem n_Path (w:World) (x y:Nm) (a:Int):Calls Tryz.prog 48 #[.pointer none,.string x,.string y,.int .i64 a] w fun e w'=>e= .returned (.tuple #[.slice none 0 0,.int .i64 6])∧w'=w:=by
 have hm:=wU w x y a
 go_enter Tryz.func48,Tryz.ntmps48
 go_wp2_with (go_at_call 71;refine hm.mono ?_;rintro e w1 ⟨rfl,hw⟩;obtain rfl:=hw.symm)
 go_ret2
 exact⟨rfl,rfl⟩
theorem sB (w:World) (x y:Nm) (a:Int):Calls Tryz.prog 18 #[.pointer none,.string x,.string y,.int .i64 a] w fun e w'=>e= .returned (.tuple #[.agg aw.toArray,.int .i64 6])∧Below w.heap.size w w':=by
 have hp0:=PB.new w
 obtain⟨W,hW⟩:∃W,w.alloc (.cells aw.toArray 39)=W:=⟨_,rfl⟩
 rw[hW]at hp0
 have hm:=wU W y x a
 have HP1:=Lib.hid hp0
 clear hp0
 go_enter Tryz.func18,Tryz.ntmps18
 go_upto_region 0 with(fail)
 refine wp_region_list ?_
 refine ag rfl (v:=.pointer (some ⟨w.heap.size,0,none⟩)) (w':=W) (by subst hW;go_simp;try rfl) ?_
 obtain⟨B8,hB8⟩:∃B,w.heap.size=B:=⟨_,rfl⟩
 rw[hB8]at HP1⊢
 clear hW
 go_upto_region 3 with(go_at_call 71;refine hm.mono ?_;clear hm;rintro e w1 ⟨rfl,hw⟩;obtain rfl:=hw.symm)
 refine wp_region_list ?_
 refine ag rfl (v:=.agg aw.toArray) (w':=W) (by unfold aw;go_simp;try rfl) ?_
 refine ag rfl (v:=.int .i64 6) (w':=W) (by rfl) ?_
 refine wpList_store_mid rfl _ _ _ rfl B8 0 aw.toArray rfl rfl HP1.out.there (by kernel_rfl) (by kernel_rfl) ?_
 have HP9:=Lib.hid (HP1.out.put (us:=aw) rfl HP1.out.nu)
 rw[show aw.toArray.toList=aw from rfl]
 generalize hW9:W.setCells B8 0 aw=W9 at *
 clear hW9
 go_wp2
 refine bodyPost_ret (HP9.out.ret rfl _ rfl) rfl ?_
 exact⟨rfl,by have:=HP9.out.bel;exact this⟩
theorem n_Can (w:World) (x y:Nm) (a:Int):Calls Tryz.prog 19 #[.pointer none,.string x,.string y,.int .i64 a] w fun e w'=>e= .returned (.bool false)∧Below w.heap.size w w':=by
 have hf:=(sB w x y a).mono (show∀e w',_→∃v,e= .returned (.tuple #[v,.int .i64 6])∧bj w' v Pq.zero∧Below w.heap.size w w' from by
  rintro e w' ⟨rfl,hb⟩
  exact⟨_,rfl,dI w',hb⟩)
 have hb0:=Below.refl w.heap.size w
 go_enter Tryz.func19,Tryz.ntmps19
 go_upto_region 1 with(fail)
 refine wp_region_list ?_
 refine ag rfl (v:=.pointer none) (w':=w) (by rfl) ?_
 refine ag rfl (v:=.string x) (w':=w) (by rfl) ?_
 refine ag rfl (v:=.string y) (w':=w) (by rfl) ?_
 refine ag rfl (v:=.int .i64 a) (w':=w) (by rfl) ?_
 refine wpList_plain rfl (fun K hK=> ?_)
 go_simp
 go_at_call 18
 refine hf.mono ?_
 rintro e w4 ⟨v,rfl,hv,hb⟩
 obtain⟨vs9,rfl,hul,hu1,hun⟩:=db hv
 refine hK _ _ ?_
 clear hK K hf
 refine ag rfl (v:=.tuple #[.agg vs9.toArray,.int .i64 6]) (w':=w4) (by rfl) ?_
 refine ag rfl (v:=.agg vs9.toArray) (w':=w4) (by go_simp) ?_
 refine ag rfl (v:=.int .i64 6) (w':=w4) (by go_simp) ?_
 have hpn:=PB.new w4
 have hvn:bj (w4.alloc (.cells aw.toArray 39)) (.agg vs9.toArray) Pq.zero:=IsL.mono hv hpn.bel
 have hth:=hpn.there
 rw[←hul]at hth
 have hb5:=aG vs9 0 _ (hb.trans (hpn.bel.mono hb.size)) hb.size (b:=w4.heap.size)
 have H9:=Lib.hid ((hpn.base (hb0.trans (hb.mono (hb0).size))).put (us:=vs9) hul hun)
 have HV9:=Lib.hid (hpn.keep (us:=vs9) hvn)
 refine ag rfl (v:=.pointer (some ⟨w4.heap.size,0,none⟩)) (w':=w4.alloc (.cells aw.toArray 39)) (by go_simp;try rfl) ?_
 refine wpList_store_mid rfl _ _ _ rfl w4.heap.size 0 vs9.toArray rfl rfl (by simpa using hth) (aZ hul) hu1 ?_
 rw[show vs9.toArray.toList=vs9 from rfl]
 have HBL9:=Lib.hid ((hb0).trans (hb5.mono (hb0).size))
 generalize hW5:(w4.alloc (.cells aw.toArray 39)).setCells w4.heap.size 0 vs9=W2 at *
 obtain⟨B9,hB9⟩:∃B,w4.heap.size=B:=⟨_,rfl⟩
 rw[hB9]at H9⊢
 clear hW5 hB9 hpn hvn hth hb5 hv hb hu1 hun hul
 clear HV9 H9
 go_wp2
 go_ret
 exact⟨rfl,HBL9.out⟩
theorem n_Across (w:World) (x y z:Nm) (a b:Int):Calls Tryz.prog 49 #[.pointer none,.string x,.int .i64 a,.string y,.int .i64 b,.string z] w fun e w'=>∃v,e= .returned (.tuple #[v,.int .i64 6])∧bj w' v Pq.zero∧Below w.heap.size w w':=by
 have hp0:=PB.new w
 obtain⟨w1,hW⟩:∃W,w.alloc (.cells aw.toArray 39)=W:=⟨_,rfl⟩
 rw[hW]at hp0
 have hf1:=(sB w1 z y b).mono (show∀e w',_→∃v,e= .returned (.tuple #[v,.int .i64 6])∧bj w' v Pq.zero∧Below w1.heap.size w1 w' from by
  rintro e w' ⟨rfl,hb⟩
  exact⟨_,rfl,dI w',hb⟩)
 have HP1:=Lib.hid hp0
 clear hp0
 go_enter Tryz.func49,Tryz.ntmps49
 go_upto_region 0 with(fail)
 refine wp_region_list ?_
 refine ag rfl (v:=.pointer (some ⟨w.heap.size,0,none⟩)) (w':=w1) (by subst hW;go_simp;try rfl) ?_
 obtain⟨B8,hB8⟩:∃B,w.heap.size=B:=⟨_,rfl⟩
 rw[hB8]at HP1⊢
 clear hW
 go_upto_region 1 with(fail)
 refine wp_region_list ?_
 refine ag rfl (v:=.pointer none) (w':=w1) (by rfl) ?_
 refine ag rfl (v:=.string z) (w':=w1) (by rfl) ?_
 refine ag rfl (v:=.string y) (w':=w1) (by rfl) ?_
 refine ag rfl (v:=.int .i64 b) (w':=w1) (by rfl) ?_
 refine wpList_plain rfl (fun K hK=> ?_)
 go_simp
 go_at_call 18
 refine hf1.mono ?_
 rintro e w4 ⟨v,rfl,hv,hb⟩
 obtain⟨vs14,rfl,hul,hu1,hun⟩:=db hv
 refine hK _ _ ?_
 clear hK K hf1
 refine ag rfl (v:=.tuple #[.agg vs14.toArray,.int .i64 6]) (w':=w4) (by rfl) ?_
 refine ag rfl (v:=.agg vs14.toArray) (w':=w4) (by go_simp) ?_
 refine ag rfl (v:=.int .i64 6) (w':=w4) (by go_simp) ?_
 have hpn:=PB.new w4
 have hvn:bj (w4.alloc (.cells aw.toArray 39)) (.agg vs14.toArray) Pq.zero:=IsL.mono hv hpn.bel
 have hth:=hpn.there
 rw[←hul]at hth
 have hb5:=aG vs14 0 _ (hb.trans (hpn.bel.mono hb.size)) hb.size (b:=w4.heap.size)
 have HP2:=Lib.hid (HP1.out.next hb5)
 have H14:=Lib.hid ((hpn.base (HP1.out.bel.trans (hb.mono (HP1.out.bel).size))).put (us:=vs14) hul hun)
 have HV14:=Lib.hid (hpn.keep (us:=vs14) hvn)
 refine ag rfl (v:=.pointer (some ⟨w4.heap.size,0,none⟩)) (w':=w4.alloc (.cells aw.toArray 39)) (by go_simp;try rfl) ?_
 refine wpList_store_mid rfl _ _ _ rfl w4.heap.size 0 vs14.toArray rfl rfl (by simpa using hth) (aZ hul) hu1 ?_
 rw[show vs14.toArray.toList=vs14 from rfl]
 have HBL14:=Lib.hid ((HP1.out.bel).trans (hb5.mono (HP1.out.bel).size))
 generalize hW5:(w4.alloc (.cells aw.toArray 39)).setCells w4.heap.size 0 vs14=W2 at *
 obtain⟨B14,hB14⟩:∃B,w4.heap.size=B:=⟨_,rfl⟩
 rw[hB14]at H14⊢
 clear hW5 hB14 hpn hvn hth hb5 hv hb hu1 hun hul
 clear HV14 H14
 go_upto_region 3 with(fail)
 refine wp_region_list ?_
 refine ag rfl (v:=.agg aw.toArray) (w':=W2) (by unfold aw;go_simp;try rfl) ?_
 refine ag rfl (v:=.int .i64 6) (w':=W2) (by rfl) ?_
 refine wpList_store_mid rfl _ _ _ rfl B8 0 aw.toArray rfl rfl HP2.out.there (by kernel_rfl) (by kernel_rfl) ?_
 have HP9:=Lib.hid (HP2.out.put (us:=aw) rfl HP2.out.nu)
 rw[show aw.toArray.toList=aw from rfl]
 generalize hW9:W2.setCells B8 0 aw=W9 at *
 clear hW9
 go_wp2
 refine bodyPost_ret (HP9.out.ret rfl _ rfl) rfl ?_
 exact⟨_,rfl,dI _,by have:=HP9.out.bel;exact this⟩
end
end Go.Proofs.YtggfmklppkioeaaGreat
