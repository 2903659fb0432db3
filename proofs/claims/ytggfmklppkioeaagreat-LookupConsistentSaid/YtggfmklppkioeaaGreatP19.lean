/- slices.Contains at texts; the frames that a tree knows. The ancestors of a frame, as an iterator. Common ancestors. The ancestors below one of them; where two ways meet. Where the ways of two frames meet. The transform up a way. The transform between two frames. -/
import Derived.Test.YtggfmklppkioeaaGreatP18
import Derived.RangeFuncNested
import Derived.RangeFuncBound
import Derived.RangeFuncCalls
import Derived.RangeFuncLeaves
import Derived.RangeFuncBox
import Derived.Shelf.Abstract
import Derived.Shelf.RegionOpen
import Derived.OwnWalkIn
import Derived.TacticsInMore
import Derived.LoopNIn
import Derived.LoopIn
import Derived.Sort.LoopGhostIn
import Derived.Maps.AppendAt
import Derived.Deep.RegionHeld3
namespace Go.Proofs.YtggfmklppkioeaaGreat
set_option linter.unusedSimpArgs false
set_option linter.unusedVariables false
set_option maxRecDepth 100000
open Go.RowKit
section
open Classical
theorem q_Index {w:World} {v:Value} {L:List Nm} {b:Nat} (h:bg w b v L) (hL:L.length≤1000000) (c:Nm):Calls Tryz.prog 222 #[v,.string c] w fun e w'=>∃i:Int,e= .returned (.int .i64 i)∧(0≤i↔c∈L)∧w'=w:=by
 obtain⟨ad,cap,rfl⟩:=fK h;obtain⟨n,hn⟩:∃n,n=L.length:=⟨_,rfl⟩;have H:=Lib.hid (show w.ownsRow b 9 1 (.slice ad L.length cap) L.length (L.map Value.string)from h);rw[←hn]at H hL⊢;have HN:=Lib.hid hn;have hm:(n:Int)≤1000000:=by omega
 clear h hL hn;go_enter Tryz.func222,Tryz.ntmps222
 go_wp2;go_loopw [8] (fun s8 wr=>∃k:Nat,k≤n∧s8= .int .i64 (k:Int)∧wr=w∧Hid (∀j y,j<k→L[j]? =some y→y≠c)) (fun s8 _=>n - (intOf s8).toNat)
 case atStart=>exact⟨0,Nat.zero_le _,rfl,rfl,Lib.hid (fun j y hj=>absurd hj (Nat.not_lt_zero j))⟩
 case round=>
  obtain⟨k,hk,rfl,rfl,HR⟩:=hrel;rcases Nat.lt_or_ge k n with hlt | hge
  ·obtain⟨x,hx⟩:∃x,L[k]? =some x:=⟨_,List.getElem?_eq_getElem (by rw[←HN.out];exact hlt)⟩;obtain⟨g,rfl,hc⟩:=km H.out (show(L.map Value.string)[k]? =some (.string x)by rw[List.getElem?_map,hx];rfl);have HX:=Lib.hid hx;clear hx;by_cases e:c=x
   ·subst e;have HQ:=Lib.hid (show∃i:Int,Ending.returned (.int .i64 (k:Int))= .returned (.int .i64 i)∧(0≤i↔c∈L)from⟨k,rfl,⟨fun _=>List.mem_of_getElem? HX.out,fun _=>by omega⟩⟩);go_wp2;go_ret;obtain⟨i,h1,h2⟩:=HQ.out;exact⟨i,h1,h2,rfl⟩
   ·have hne:=yX e;have HR2:=Lib.hid (show∀j y,j<k+1→L[j]? =some y→y≠c from fun j y hj hy=>by
     rcases Nat.lt_or_ge j k with h | h
     ·exact HR.out j y h hy
     ·obtain rfl:j=k:=by omega
      rw[HX.out]at hy;injection hy with hy;subst hy;exact fun h=>e h.symm)
    clear e;go_wp2;go_roundw
    case rel=>exact⟨k+1,by omega,by go_num,by trivial,HR2⟩
    case measure=>simp[intOf];omega
  ·obtain rfl:k=n:=by omega
   have HQ:=Lib.hid (show∃i:Int,Ending.returned (.int .i64 (-1))= .returned (.int .i64 i)∧(0≤i↔c∈L)from⟨-1,rfl,⟨fun h=>by omega,fun h=>by
    obtain⟨j,hj,e⟩:=List.getElem_of_mem h;exact absurd e (HR.out j _ (by rw[HN.out];exact hj) (List.getElem?_eq_getElem hj))⟩⟩)
   clear HR H;go_wp2;go_ret;obtain⟨i,h1,h2⟩:=HQ.out;exact⟨i,h1,h2,rfl⟩
theorem qq {w:World} {v:Value} {L:List Nm} {b:Nat} (h:bg w b v L) (hL:L.length≤1000000) (c:Nm):Calls Tryz.prog 172 #[v,.string c] w fun e w'=>e= .returned (.bool (decide (c∈L)))∧w'=w:=by
 have hi:=q_Index h hL c;obtain⟨q,hq⟩:∃q,q=decide (c∈L):=⟨_,rfl⟩;have HQ:=Lib.hid hq;rw[←hq];clear h hL hq;go_enter Tryz.func172,Tryz.ntmps172
 go_wp2_with (go_at_call 222;refine hi.mono ?_;rintro e w2 ⟨i,rfl,hi2,rfl⟩;have HI:=Lib.hid hi2;clear hi2)
 go_ret;refine⟨?_,rfl⟩;have e:decide (0≤i)=q:=by rw[HQ.out];exact decide_eq_decide.2 HI.out
 rw[←e];rfl
theorem mP {w:World} {t m:Nat} {E:List Ch} (h:TM w t m E) (hE:Sane (trE E)) (c:Nm):Calls Tryz.prog 108 #[ptB t,.string c] w fun e w'=>e= .returned (.bool (decide (aN (trE E) c)))∧Below w.heap.size w w':=by
 have hfr:=(q_Frames h hE.sm (fun x hx=>hE.short hx)).mono (show∀e w',_→∃v,e= .returned v∧Hid (Below w.heap.size w w')∧Calls Tryz.prog 172 #[v,.string c] w' fun e w''=>e= .returned (.bool (decide (aN (trE E) c)))∧w''=w' from by
  rintro e w' ⟨v,L,rfl,h1,h2,_,_,_,h3,h4⟩;refine⟨v,rfl,Lib.hid h4,?_⟩;rw[show decide (aN (trE E) c)=decide (c∈L)from decide_eq_decide.2 (h2 c).symm];exact qq h1 (by omega) c)
 obtain⟨q,hq⟩:∃q,q=decide (aN (trE E) c):=⟨_,rfl⟩;rw[←hq]at hfr⊢;clear h hE hq;go_enter Tryz.func108,Tryz.ntmps108
 go_wp2_with (first
  | (go_at_call 33;refine hfr.mono ?_;rintro e w2 ⟨v,rfl,HB,hct⟩)
  | (go_at_call 172;refine hct.mono ?_;rintro e w' ⟨rfl,hw'⟩;obtain rfl:=hw'.symm))
 go_ret;exact⟨rfl,HB.out⟩
inductive Anc (R:Tr) (a:Int):Nm→List Nm→Prop
 | root {x:Nm} (h:par R a x=none):Anc R a x [x]
 | step {x y:Nm} {l:List Nm} (h:par R a x=some y) (t:Anc R a y l):Anc R a x (x::l)
theorem Anc.of {R:Tr} {a:Int} {x:Nm} (h:eI R a x):∃l,Anc R a x l:=by
 induction h with
 | intro x _ ih=>
  cases hp:par R a x with
  | none=>exact⟨_,.root hp⟩
  | some y=>
   obtain⟨l,hl⟩:=ih y hp;exact⟨_,.step hp hl⟩
theorem Anc.uniq {R:Tr} {a:Int} {x:Nm} {l l':List Nm} (h:Anc R a x l) (k:Anc R a x l'):l=l':=by
 induction h generalizing l' with
 | root hp=>
  cases k with
  | root=>rfl
  | step hp' _=>rw[hp]at hp';cases hp'
 | step hp _ ih=>
  cases k with
  | root hp'=>rw[hp]at hp';cases hp'
  | step hp' t=>rw[hp]at hp';injection hp' with e;subst e;rw[ih t]
theorem Anc.head {R:Tr} {a:Int} {x:Nm} {l:List Nm} (h:Anc R a x l):∃t,l=x::t:=by cases h<;>exact⟨_,rfl⟩
theorem Anc.up {R:Tr} {a:Int}:∀ {n:Nat} {x y:Nm} {l:List Nm},Anc R a x l→up R a n x=some y→par R a y=none→l.length=n+1
 | 0,x,y,l,h,hu,hy=>by
  simp only[Go.Proofs.YtggfmklppkioeaaGreat.up,Option.some.injEq]at hu;subst hu
  cases h with
  | root=>rfl
  | step hp _=>rw[hy]at hp;cases hp
 | n+1,x,y,l,h,hu,hy=>by
  cases h with
  | root hp=>simp only[Go.Proofs.YtggfmklppkioeaaGreat.up,hp,Option.bind_none]at hu;cases hu
  | step hp t=>simp only[Go.Proofs.YtggfmklppkioeaaGreat.up,hp,Option.bind_some]at hu;rw[List.length_cons,Anc.up t hu hy]
theorem Anc.short {R:Tr} {a:Int} {x:Nm} {l:List Nm} (hR:Sane R) (hx:aN R x) (h:Anc R a x l):l.length≤24:=by
 obtain⟨n,y,h1,h2,h3⟩:=short_way (a:=a) hR.ok hR.sm hx;have:=h.up h2 h3;omega
end
section
open Go.RowKit Go.Shelf
open Classical
attribute [local go_sem] Oper.semAt_some
structure Kb (n O:Nat) (A B:World):Prop where
 os:B.os=A.os
 tape:B.tape=A.tape
 output:B.output=A.output
 size:A.heap.size≤B.heap.size
 block:∀k,k<n→k≠O→B.heap[k]? =A.heap[k]?
theorem Kb.refl (n O:Nat) (A:World):Kb n O A A:=⟨rfl,rfl,rfl,Nat.le_refl _,fun _ _ _=>rfl⟩
theorem Kb.trans {n O:Nat} {A B C:World} (h:Kb n O A B) (k:Kb n O B C):Kb n O A C:=⟨k.os.trans h.os,k.tape.trans h.tape,k.output.trans h.output,Nat.le_trans h.size k.size,fun i h1 h2=>(k.block i h1 h2).trans (h.block i h1 h2)⟩
theorem Kb.below {n O:Nat} {A B:World} (h:Below n A B):Kb n O A B:=⟨h.os,h.tape,h.output,h.size,fun k hk _=>h.block k hk⟩
theorem Kb.grown {n O:Nat} {A B C:World} (h:Kb n O A B) {row:Option Nat} (g:B.grownBy C row) (hn:n≤B.heap.size) (hr:∀k,row=some k→n≤k∨k=O):Kb n O A C:=
 ⟨g.os.trans h.os,g.tape.trans h.tape,g.output.trans h.output,Nat.le_trans h.size g.size,fun k hk hO=>(g.block k (by omega) (fun e=>by rcases hr k e.symm with h1 | h1;omega;exact hO h1)).trans (h.block k hk hO)⟩
theorem Kb.cell {n O:Nat} {A B:World} (h:Kb n O A B) {b j:Nat} (hb:b<n) (hO:b≠O):B.cell? ⟨b,j,none⟩=A.cell? ⟨b,j,none⟩:=World.cell?_of_block (h.block b hb hO)
theorem Kb.tm {O t m:Nat} {E:List Ch} {w W:World} (h:Kb w.heap.size O w W) (hT:TM w t m E) (hO:O∉fpT t m E) (o:bD w O):TM W t m E:=
 hT.chg (X:=(· =O)) ⟨h.size,fun g hg hn=>h.block g hg hn,fun g hg=>by have e:g=O:=hg;subst e;exact o⟩ (fun g hg e=>hO (e▸hg))
theorem kb_own {β:Type} (n O:Nat) (w:World) (hn:n≤w.heap.size):OwnFrom n (fun(_:β) W=>Kb n O w W):=fun _ _ _ _ hs hg hr=>hs.grown hg (Nat.le_trans hn hs.size) (fun k e=>.inl (hr k e).1)
theorem kb_b {n O:Nat} {w:World} (hn:n≤w.heap.size) (W:World) (l:Nat) (o o':Obj) (hl:w.heap.size≤l) (h:W.heap[l]? =some o) (_:o.isCells=false) (_:o.isWalk=false):Kb n O W (W.putObj l o'):=
 (Kb.refl n O W).grown (grownBy_putObj' W l o') (by have:=(Array.getElem?_eq_some_iff.1 h).1;omega) (fun k e=>by cases e;exact .inl (by omega))
theorem xR (w:World) (t:Nat) (x:Nm) (a:Int):Calls Tryz.prog 171 #[ptB t,.string x,.int .i64 a] w fun e w'=>∃B,e= .returned (.func (.func 221) #[] #[.pointer (some ⟨B+1,0,none⟩),.pointer (some ⟨B,0,none⟩),.pointer (some ⟨B+2,0,none⟩)])∧B=w.heap.size∧
  w'=((w.alloc (.cells #[ptB t] 24)).alloc (.cells #[.string x] 9)).alloc (.cells #[.int .i64 a] 3):=by
 go_enter Tryz.func171,Tryz.ntmps171
 go_wp2;go_ret;exact⟨_,rfl,rfl,rfl⟩
set_option maxHeartbeats 1000000 in
theorem anc_stops (n:Nat) (hn:1≤n) {t m:Nat} {E:List Ch} {x:Nm} {a:Int} {ys:List Nm} {w:World} {O B1 B2 B3:Nat} (hT:TM w t m E) (hO:O∉fpT t m E) (hX:bD w O) (hB1:B1<w.heap.size∧B1≠O) (hB2:B2<w.heap.size∧B2≠O) (hB3:B3<w.heap.size∧B3≠O)
  (c1:w.cell? ⟨B1,0,none⟩=some (.string x)) (c2:w.cell? ⟨B2,0,none⟩=some (ptB t)) (c3:w.cell? ⟨B3,0,none⟩=some (.int .i64 a)) (hA:Anc (trE E) a x ys):
  SeqStopsK Fence.wide n Tryz.prog 221 #[.pointer (some ⟨B1,0,none⟩),.pointer (some ⟨B2,0,none⟩),.pointer (some ⟨B3,0,none⟩)] (fun z:Nm=> #[Value.string z]) (Kb w.heap.size O) (fun zs=>zs=ys) (fun pre=>pre <+:ys) ys.length w:=fun l J Jx W hW hJ hJx hY h0=>by
 have hk0:Kb w.heap.size O w W:=Kb.below hW;have c1':W.cell? ⟨B1,0,none⟩=some (.string x):=by rw[hk0.cell hB1.1 hB1.2];exact c1
 have HC2:=Lib.hid (show∀wq,Kb w.heap.size O w wq→wq.cell? ⟨B2,0,none⟩=some (ptB t)from fun wq k=>by rw[k.cell hB2.1 hB2.2];exact c2);have HC3:=Lib.hid (show∀wq,Kb w.heap.size O w wq→wq.cell? ⟨B3,0,none⟩=some (.int .i64 a)from fun wq k=>by rw[k.cell hB3.1 hB3.2];exact c3);have HT:=Lib.hid (show∀wq,Kb w.heap.size O w wq→TM wq t m E from fun wq k=>k.tm hT hO hX);have HK0:=Lib.hid hk0;have HA:=Lib.hid hA;have H0:=Lib.hid h0;have HJ:=Lib.hid (And.intro hJ hJx);have HY:=Lib.hid hY;clear hT hO hX hB1 hB2 hB3 c1 c2 c3 hk0 hW hA h0 hJ hJx hY;refine callsIn_of_wp Tryz.func221 rfl trivial ?_ rfl;simp only[Tryz.ntmps221,List.size_toArray,List.length_cons,List.length_nil,Nat.reduceAdd,Nat.reduceSub,Array.replicate_succ,Array.replicate_zero,List.push_toArray,List.append_toArray,List.nil_append,List.cons_append]
 gi_wp2
 gi_loopg [5,6] ys.length (fun k s5 s6 wr=>∃(pre rest:List Nm) (f:Nm),s5= .string f∧Hid (ys=pre++rest)∧Hid (Kb w.heap.size O w wr)∧Hid (J pre wr)∧((Hid (rest=[]∧k=0)∧s6= .bool false)∨(Hid (Anc (trE E) a f rest∧k=rest.length)∧s6= .bool true)))
 case atStart=>exact⟨[],ys,x,rfl,Lib.hid rfl,HK0,H0,.inr ⟨Lib.hid ⟨HA.out,rfl⟩,rfl⟩⟩
 case round=>
  obtain⟨pre,rest,f,rfl,hys,hkb,hj,⟨hr,rfl⟩ | ⟨hr,rfl⟩⟩:=hrel
  ·have hq:=Lib.hid (show(∃v,Ending.returned (.tuple #[])= .returned v)∧((∃zs,zs=ys∧J zs wr)∨(∃pre,pre <+:ys∧Jx pre wr))from⟨⟨_,rfl⟩,.inl ⟨pre,by rw[hys.out,hr.out.1,List.append_nil],hj.out⟩⟩)
   gi_wp2
   refine⟨fun _ h=>(by cases h),?_⟩
   gi_wp2
   go_end0
   exact⟨⟨_,rfl⟩,hq.out.2⟩
  ·obtain⟨tl,htl⟩:=hr.out.1.head;have hlt:pre.length<ys.length:=by rw[hys.out,htl];simp
   obtain⟨fn,tmps,assign,body,hy,hR⟩:=HY.out pre f wr hj.out hlt
   gi_wp2
   refine hR.mono ?_;rintro e W3 (⟨rfl,hJ3,hk3⟩ | ⟨rfl,hJx3⟩)
   ·have hkb3:=hkb.out.trans hk3;have c2:=HC2.out W3 hkb3;have c3:=HC3.out W3 hkb3;have hpa:=q_ParentG (HT.out W3 hkb3) f a;have HKB3:=Lib.hid hkb3;have HJ3:=Lib.hid hJ3;have HYS:=Lib.hid (show ys=(pre++ [f])++tl by rw[hys.out,htl];simp);have HR:=Lib.hid (show(par (trE E) a f=none∧tl=[])∨∃y,par (trE E) a f=some y∧Anc (trE E) a y tl from by
     have h1:=hr.out.1;rw[htl]at h1
     cases h1 with
     | root h=>exact .inl ⟨h,rfl⟩
     | step h k=>exact .inr ⟨_,h,k⟩)
    have HG:=Lib.hid (show gk=tl.length+1 by rw[hr.out.2,htl];rfl);clear hy hR hk3 hkb hkb3 hJ3 hys htl hlt hr hj;rcases HR.out with⟨hp,hn⟩ | ⟨y,hp,hn⟩
    ·rw[show pOf (trE E) a f=ByteArray.empty by unfold pOf;rw[hp];rfl,hp]at hpa;have HN:=Lib.hid hn;clear hp hn
     gi_wp2_with (refine⟨trivial,?_⟩;gi_at_call 34;refine(callsIn_wide.2 hpa).mono ?_;rintro e w' ⟨rfl,hw'⟩;obtain rfl:=hw'.symm)
     go_roundg 0
     case measure=>have:=HG.out;omega
     case rel=>exact⟨pre++ [f],tl,_,rfl,HYS,HKB3,HJ3,.inl ⟨Lib.hid ⟨HN.out,rfl⟩,rfl⟩⟩
    ·rw[show pOf (trE E) a f=y by unfold pOf;rw[hp];rfl,hp]at hpa;have HN:=Lib.hid hn;clear hp hn
     gi_wp2_with (refine⟨trivial,?_⟩;gi_at_call 34;refine(callsIn_wide.2 hpa).mono ?_;rintro e w' ⟨rfl,hw'⟩;obtain rfl:=hw'.symm)
     go_roundg tl.length
     case measure=>have:=HG.out;omega
     case rel=>exact⟨pre++ [f],tl,y,rfl,HYS,HKB3,HJ3,.inr ⟨Lib.hid ⟨HN.out,rfl⟩,rfl⟩⟩
   ·have HQ:=Lib.hid (show∃pre,pre <+:ys∧Jx pre W3 from⟨pre++ [f],⟨tl,by rw[hys.out,htl];simp⟩,hJx3⟩);clear hy hR
    gi_wp2
    first
    | refine bodyPost_ret (results_none rfl _ _ _) rfl ?_
    | go_end0
    exact⟨⟨_,rfl⟩,.inr HQ.out⟩
set_option maxRecDepth 100000 in
set_option maxHeartbeats 2000000 in
theorem q_AppSeq {w:World} {gf:Nat} {lb:Array Value} {O:Nat} {ys:List Nm} (eg:∀args w,(callFunc gf args).run Tryz.prog w= .ok (.enter gf args) w) (hl:ys.length≤1000)
  (hseq:∀(n:Nat) (w1:World),1≤n→Below w.heap.size w w1→SeqStopsK Fence.wide n Tryz.prog gf lb (fun z:Nm=> #[Value.string z]) (Kb w.heap.size O) (fun zs=>zs=ys) (fun pre=>pre <+:ys) ys.length w1):
  Calls Tryz.prog 205 #[.slice none 0 0,.func (.func gf) #[] lb] w fun e w'=>∃v,e= .returned v∧bg w' w.heap.size v ys∧Below w.heap.size w w':=by
 refine(callsIn_wide (n:=3)).1 ?_;have h1:(1:Nat)≤3:=by decide
 have hmx:(1000:Nat)≤maxLen:=by unfold maxLen;omega
 obtain⟨i0,hi,hz0,hz1,hz2⟩:=info_parts (show(Tryz.prog.info? 9).map (fun i=>(i.zero,i.size,i.bytes))=some (some (.string ByteArray.empty),1,16)by kernel_rfl);refine callsIn_of_wp_marks Tryz.func205 rfl trivial ?_ rfl;simp only[Tryz.ntmps205,List.size_toArray,List.length_cons,List.length_nil,Nat.reduceAdd,Nat.reduceSub,Array.replicate_succ,Array.replicate_zero,List.push_toArray,List.append_toArray,List.nil_append,List.cons_append]
 gi_wp2
 have bO:=Boxed.new w 68 (.slice none 0 0);have hB0:Below w.heap.size w (w.alloc (.cells #[.slice none 0 0] 68)):=(Below.refl _ w).alloc (Nat.le_refl _) _;refine wpIn_rangeFunc_ownG (F:=Fence.wide) (n:=3) rfl h1 (gf:=gf) (lb:=lb) rfl trivial eg
  (hseq 2 _ (by decide) hB0) (fun {_ _ _} h k=>h.trans k) (kb_b (by simp)) (Below.refl _ _) (fun _=>rfl)
  (fun pre W=>(∃v,Boxed W w.heap.size 68 v∧W.ownsRow w.heap.size 9 1 v pre.length (pre.map Value.string)∧True)∧Below w.heap.size w W)
  (fun _ _ _=>False)
  (OwnFrom.and (Own.from (holdsRow_own w.heap.size w.heap.size 68 9 1 (fun pre:List Nm=>pre.length) (fun pre=>pre.map Value.string) (fun _ _=>True)) _) (ownFrom_below (Nat.le_refl _) (by simp)))
  (fun _ _ _ _ _ hs _ _=>hs)
  ⟨⟨_,bO,World.ownsRow_nil _ _ _ _,trivial⟩,hB0⟩
  (fun x=> {tmps:=#[.slice none 0 0,.func (.func gf) #[] lb,.pointer (some ⟨w.heap.size,0,none⟩),undef,.slice none 0 0,.string x,.func (.func gf) #[] lb,.string x,undef,undef,undef,undef,undef],defers:=[]}) ?assign ?body ?done ?stop
 case assign=>
  intro l x W K hK
  gi_wp2
  exact hK
 case body=>
  rintro l pre x W ⟨⟨v,hv,hrow,_⟩,hB⟩ hlt;have hc:=hv.cell
  gi_wp2_with (gi_at_builtin;refine wpListIn_append_own _ rfl _ _ 68 rfl w.heap.size 9 i0 (.string ByteArray.empty) 1 16 Tryz.underlying68 hi hz0 hz1 hz2 rfl (by decide) _ _ _ rfl (hrow.alloc _) ⟨W.heap.size,0,none⟩ 1 1 [.string x] rfl rfl (cell_one_new _ _ _) (by simp[Value.oneCell']) (by omega) (by omega) (by have:=hB.size;simp;omega) ?_;intro v' w1 hown' hgrow _;obtain⟨g',cap',rfl⟩:=ownsRow_succ hown';obtain⟨hv1,hv2,hr2,hk2,hb2⟩:=hv.appended (by decide) hrow hB.size (Nat.le_refl _) hown' hgrow;have hc1:=hv1.cell;have hf1:=hv1.frozen)
  exact⟨hk2.from _,.below hb2,⟨_,hv2,by simpa using hr2,trivial⟩,hB.trans hb2⟩
 case done=>
  rintro D zs W hD rfl ⟨⟨v,hv,hrow,_⟩,hB⟩ hK;have hc:=hv.cell
  gi_wp2
  refine⟨by simp,.inl ⟨_,_,rfl,run_takeDeferred hK,?_⟩⟩;exact⟨_,results_tmp rfl _ _ _,v,rfl,ownsRow_putObj hrow _ hK rfl,hB.trans (belowK_b (w:=w) (Nat.le_refl _) W D _ _ (by simp at hD;omega) hK rfl rfl)⟩
 case stop=>
  rintro D c pre W _ _ h _;exact h.elim
end
section
open Go.RowKit Go.Shelf
open Classical
attribute [local go_sem] Oper.semAt_some
theorem q_Collect {w:World} {gf:Nat} {lb:Array Value} {O:Nat} {ys:List Nm} (eg:∀args w,(callFunc gf args).run Tryz.prog w= .ok (.enter gf args) w) (hl:ys.length≤1000)
  (hseq:∀(n:Nat) (w1:World),1≤n→Below w.heap.size w w1→SeqStopsK Fence.wide n Tryz.prog gf lb (fun z:Nm=> #[Value.string z]) (Kb w.heap.size O) (fun zs=>zs=ys) (fun pre=>pre <+:ys) ys.length w1):
  Calls Tryz.prog 150 #[.func (.func gf) #[] lb] w fun e w'=>∃v,e= .returned v∧bg w' w.heap.size v ys∧Below w.heap.size w w':=by
 have has:=q_AppSeq eg hl hseq;clear hseq eg;go_enter Tryz.func150,Tryz.ntmps150
 go_wp2_with (go_at_call 205;refine has.mono ?_;rintro e w2 ⟨v,rfl,hrow,hb⟩;have HQ:=Lib.hid (And.intro hrow hb);clear hrow hb)
 go_ret;exact⟨_,rfl,HQ.out.1,HQ.out.2⟩
theorem SeqStopsK.later {α:Type} {F:Fence} {n:Nat} {P:Program} {g:Nat} {lb:Array Value} {encs:α→Array Value} {Kp:World→World→Prop} {S Sp:List α→Prop} {N:Nat} {w w':World}
  (h:SeqStopsK F n P g lb encs Kp S Sp N w) (hb:Below w.heap.size w w'):SeqStopsK F n P g lb encs Kp S Sp N w':=fun l J Jx W hW hJ hJx hY h0=>h l J Jx W (hb.trans (hW.mono hb.size)) hJ hJx hY h0
theorem en {P:Program} {fn:Func} {p q:Tmp} {tp tq:TypeId} (h:fn.results=#[.cell p tp,.cell q tq]) (tmps:Array Value) (w:World) {a b:Addr} {u v:Value}
  (hp:tmps.getD p undef= .pointer (some a)) (hq:tmps.getD q undef= .pointer (some b)) (hu:(loadVar tp a).run P w= .ok u w) (hv:(loadVar tq b).run P w= .ok v w):(results fn tmps).run P w= .ok (.tuple #[u,v]) w:=by
 have hp:tmps[p]?.getD undef= .pointer (some a):=by simpa using hp
 have hq:tmps[q]?.getD undef= .pointer (some b):=by simpa using hq
 simp only[results,h];simp[Sem.run_bind,Result.andThen,hp,hq,asAddr,hu,hv]
theorem cU {T:TypeId} {d:TypeDesc} {w:World} {a:Addr} {v:Value} (hd:Tryz.prog.underlying T=some d) (ha:(match d with | .struct _ | .array _ _=>true | _=>false)=false) (h:w.cell? a=some v):(loadVar T a).run Tryz.prog w= .ok v w:=by
 have hagg:(isAgg T).run Tryz.prog w= .ok false w:=by
  unfold isAgg;rw[Sem.run_bind,run_underlying hd];cases d<;>simp_all
 simp[loadVar,Sem.run_bind,hagg,h,Result.andThen,go_sem]
abbrev ancB (B:Nat):Array Value:=#[.pointer (some ⟨B+1,0,none⟩),.pointer (some ⟨B,0,none⟩),.pointer (some ⟨B+2,0,none⟩)]
abbrev kF (w:World) (t:Nat) (x:Nm) (a:Int):World:=((w.alloc (.cells #[ptB t] 24)).alloc (.cells #[.string x] 9)).alloc (.cells #[.int .i64 a] 3)
theorem iE (w:World) (t:Nat) (x:Nm) (a:Int):Below w.heap.size w (kF w t x a):=(((Below.refl _ w).alloc (Nat.le_refl _) _).alloc (by simp) _).alloc (by simp;omega) _
theorem kn (w:World) (t:Nat) (x:Nm) (a:Int):(kF w t x a).heap.size=w.heap.size+3:=by simp[kF]
theorem xS (w:World) (t:Nat) (x:Nm) (a:Int):(kF w t x a).cell? ⟨w.heap.size,0,none⟩=some (ptB t)∧(kF w t x a).cell? ⟨w.heap.size+1,0,none⟩=some (.string x)∧(kF w t x a).cell? ⟨w.heap.size+2,0,none⟩=some (.int .i64 a):=by
 have h0:=heap_alloc_new w (.cells #[ptB t] 24);have h1:=heap_alloc_new (w.alloc (.cells #[ptB t] 24)) (.cells #[.string x] 9);have h2:=heap_alloc_new ((w.alloc (.cells #[ptB t] 24)).alloc (.cells #[.string x] 9)) (.cells #[.int .i64 a] 3);simp only[World.size_alloc]at h1 h2;refine⟨?_,?_,?_⟩
 ·rw[aR ((Below.heap_alloc _ _ w.heap.size (by simp;omega)).trans ((Below.heap_alloc _ _ w.heap.size (by simp)).trans h0))];rfl
 ·rw[aR ((Below.heap_alloc _ _ (w.heap.size+1) (by simp)).trans h1)];rfl
 ·rw[aR h2];rfl
theorem tD {t m:Nat} {E:List Ch} {x:Nm} {a:Int} {ys:List Nm} {w:World} {O:Nat} (hT:TM w t m E) (hO:O∉fpT t m E) (hX:bD w O) (hA:Anc (trE E) a x ys) (n:Nat) (w1:World) (hn:1≤n) (hb:Below (kF w t x a).heap.size (kF w t x a) w1):
  SeqStopsK Fence.wide n Tryz.prog 221 (ancB w.heap.size) (fun z:Nm=> #[Value.string z]) (Kb (kF w t x a).heap.size O) (fun zs=>zs=ys) (fun pre=>pre <+:ys) ys.length w1:=by
 have hc:=xS w t x a;have hs:=kn w t x a;have hb0:=iE w t x a;have hlt:O<w.heap.size:=hX.1;exact SeqStopsK.later (anc_stops n hn (hT.below hb0) hO (hX.blk (hb0.block O hlt) hb0.size) ⟨by omega,by omega⟩ ⟨by omega,by omega⟩ ⟨by omega,by omega⟩ hc.2.1 hc.1 hc.2.2 hA) hb
noncomputable def jd (l l':List Nm):Option Nm:=l.find? fun z=>decide (z∈l')
theorem xT:∀args w,(callFunc 221 args).run Tryz.prog w= .ok (.enter 221 args) w:=aA Tryz.func221 (by kernel_rfl) rfl
set_option maxRecDepth 100000 in
set_option maxHeartbeats 2000000 in
theorem q_common {w:World} {t m:Nat} {E:List Ch} {x y:Nm} {a:Int} {lx ly:List Nm} (hT:TM w t m E) (hx:Anc (trE E) a x lx) (hy:Anc (trE E) a y ly) (h1:lx.length≤1000) (h2:ly.length≤1000):
  Calls Tryz.prog 129 #[ptB t,.string x,.string y,.int .i64 a] w fun e w'=>e= .returned (.tuple #[.string ((jd lx ly).getD ByteArray.empty),.bool (jd lx ly).isSome])∧Below w.heap.size w w':=by
 refine(callsIn_wide (n:=3)).1 ?_;have h3:(1:Nat)≤3:=by decide
 have b8:=Boxed.new w 9 (.string ⟨#[]⟩);have b9:=Boxed.new (w.alloc (.cells #[.string ⟨#[]⟩] 9)) 4 (.bool false);have hb2:Below w.heap.size w ((w.alloc (.cells #[.string ⟨#[]⟩] 9)).alloc (.cells #[.bool false] 4)):=((Below.refl _ w).alloc (Nat.le_refl _) _).alloc (by simp) _;rw[World.size_alloc]at b9;have b8:=b8.alloc (.cells #[.bool false] 4);have hs2:((w.alloc (.cells #[.string ⟨#[]⟩] 9)).alloc (.cells #[.bool false] 4)).heap.size=w.heap.size+2:=by simp
 obtain⟨W2,hW2⟩:∃W2,(w.alloc (.cells #[.string ⟨#[]⟩] 9)).alloc (.cells #[.bool false] 4)=W2:=⟨_,rfl⟩;rw[hW2]at b8 b9 hb2 hs2;have hT2:=hT.below hb2;have hn8:w.heap.size∉fpT t m E:=fun hm=>by have:=hT.lt _ hm;omega
 have hX8:bD W2 w.heap.size:=.mk' (show W2.heap[w.heap.size]? =some (.cells #[.string ⟨#[]⟩] 9 (0,0))from b8) (fun k n hk=>by cases k<;>simp at hk);have han:=xR W2 t y a;have hco:=q_Collect (w:=kF W2 t y a) (O:=w.heap.size) xT h2 (fun n w1 hn hb=>tD hT2 hn8 hX8 hy n w1 hn hb);refine callsIn_of_wp_marks Tryz.func129 rfl trivial ?_ rfl;simp only[Tryz.ntmps129,List.size_toArray,List.length_cons,List.length_nil,Nat.reduceAdd,Nat.reduceSub,Array.replicate_succ,Array.replicate_zero,List.push_toArray,List.append_toArray,List.nil_append,List.cons_append];have HS2:=Lib.hid hs2;have HT:=Lib.hid hT;have HX:=Lib.hid hx;have HB2:=Lib.hid hb2;have HBX:=Lib.hid (And.intro b8 b9);have HN8:=Lib.hid hn8;clear hT hb2 hT2 hn8 hX8 hx hy hs2 b8 b9
 gi_wp2_with (first
  | (refine⟨trivial,?_⟩;gi_at_call 171;refine(callsIn_wide.2 han).mono ?_;clear han;rintro e w' ⟨B,rfl,rfl,rfl⟩)
  | (refine⟨trivial,?_⟩;gi_at_call 150;refine(callsIn_wide.2 hco).mono ?_;clear hco;rintro e W3 ⟨v,rfl,hrow,hb⟩;obtain⟨adl,cpl,rfl⟩:=fK hrow;have HR:=Lib.hid hrow;have HB3:=Lib.hid hb;clear hrow hb;have han2:=fun w=>xR w t x a)
  | (refine⟨trivial,?_⟩;gi_at_call 171;refine(callsIn_wide.2 (han2 _)).mono ?_;clear han2;rintro e w' ⟨B,rfl,rfl,rfl⟩))
 clear hW2;obtain⟨W4,hW4⟩:∃W4,W3.alloc (.cells #[.slice adl ly.length cpl] 68)=W4:=⟨_,rfl⟩;have hs4:W4.heap.size=W3.heap.size+1:=by rw[←hW4];exact asz _ _
 have hsA:=kn W2 t y a;have hbA:=iE W2 t y a;have hs2:=HS2.out;have hs3:=HB3.out.size;have hb23:Below W2.heap.size W2 W3:=hbA.trans (HB3.out.mono hbA.size);have hb34:Below W3.heap.size W3 W4:=by rw[←hW4];exact(Below.refl _ _).alloc (Nat.le_refl _) _
 have hb24:Below W2.heap.size W2 W4:=hb23.trans (hb34.mono hb23.size);have hb04:Below w.heap.size w W4:=HB2.out.trans (hb24.mono HB2.out.size);have hT4:=HT.out.below hb04;have h8:W4.heap[w.heap.size]? =some (.cells #[.string ⟨#[]⟩] 9 (0,0)):=(hb24.block _ (by omega)).trans HBX.out.1;have h9:W4.heap[w.heap.size+1]? =some (.cells #[.bool false] 4 (0,0)):=(hb24.block _ (by omega)).trans HBX.out.2;have hX4:bD W4 w.heap.size:=.mk' h8 (fun k n hk=>by cases k<;>simp at hk);have h10:W4.heap[W3.heap.size]? =some (.cells #[.slice adl ly.length cpl] 68 (0,0)):=by rw[←hW4];exact heap_alloc_new W3 _
 have hrow4:bg W4 (kF W2 t y a).heap.size (.slice adl ly.length cpl) ly:=dR HR.out (fun g hg=>hb34.block g (cP HR.out hg).2);have hseq:=tD hT4 HN8.out hX4 HX.out 2 _ (by decide) (Below.refl _ _);have hsB:=kn W4 t x a;have hbB:=iE W4 t x a;rw[hs4]at hseq hsB;obtain⟨WA,hWA⟩:∃WA,kF W4 t x a=WA:=⟨_,rfl⟩;rw[hWA]at hseq hsB hbB;rw[hW4]
 change Code.wpIn _ _ _ _ _ _ (kF W4 t x a)
 rw[hWA];have g8:Boxed WA w.heap.size 9 (.string ⟨#[]⟩):=(hbB.block _ (by omega)).trans h8;have g9:Boxed WA (w.heap.size+1) 4 (.bool false):=(hbB.block _ (by omega)).trans h9;have g10:Boxed WA W3.heap.size 68 (.slice adl ly.length cpl):=(hbB.block _ (by omega)).trans h10;have growA:bg WA (kF W2 t y a).heap.size (.slice adl ly.length cpl) ly:=dR hrow4 (fun g hg=>hbB.block g (cP hrow4 hg).2);have hb0A:Below w.heap.size w WA:=hb04.trans (hbB.mono hb04.size);have hlA:=hb0A.size;have HROW:=Lib.hid growA;have HB0A:=Lib.hid hb0A;have H8:=Lib.hid g8;have H9:=Lib.hid g9;have H10:=Lib.hid g10;have hl10:W3.heap.size<WA.heap.size:=by omega
 have hl8:w.heap.size+1<W3.heap.size:=by omega
 clear hWA hW4 hs4 hsA hbA hs2 hs3 hb23 hb34 hb24 hb04 hT4 h8 h9 hX4 h10 hrow4 hbB g8 g9 g10 growA hb0A HR HB3 HS2 HT HB2 HBX HN8;refine wpIn_rangeFunc_ownG (F:=Fence.wide) (n:=3) rfl h3 (gf:=221) (lb:=ancB (W3.heap.size+1)) rfl trivial xT
  hseq (fun {_ _ _} h k=>h.trans k) (kb_b (by omega)) (Below.refl _ _) (fun _=>rfl)
  (fun pre W=>(∀z∈pre,z∉ly)∧Below WA.heap.size WA W)
  (fun c pre W=>(c= .ret∧∃pre0 z,pre=pre0++ [z]∧(∀u∈pre0,u∉ly)∧z∈ly∧Boxed W w.heap.size 9 (.string z)∧Boxed W (w.heap.size+1) 4 (.bool true))∧Below w.heap.size w W∧WA.heap.size≤W.heap.size)
  (OwnFrom.and (ownFrom_pure _ _) (ownFrom_below (Nat.le_refl _) (Nat.le_refl _)))
  (fun c s W W' row hs hg hr=>⟨⟨hs.1.1,by
   obtain⟨pre0,z,k1,k2,k3,k4,k5⟩:=hs.1.2;exact⟨pre0,z,k1,k2,k3,k4.kept hg (fun e=>by have:=(hr _ e.symm).1;omega),k5.kept hg (fun e=>by have:=(hr _ e.symm).1;omega)⟩⟩,hs.2.1.grown hg (by have:=hs.2.2;omega) (fun k e=>by have:=(hr _ e).1;omega),Nat.le_trans hs.2.2 hg.size⟩)
  ⟨fun _ h=>(by cases h),Below.refl _ _⟩
  (fun z=> {tmps:=#[ptB t,.string x,.string y,.int .i64 a,undef,undef,undef,undef,.pointer (some ⟨w.heap.size,0,none⟩),.pointer (some ⟨w.heap.size+1,0,none⟩),.pointer (some ⟨W3.heap.size,0,none⟩),.string z,ptB t,.string y,.int .i64 a,.func (.func 221) #[] (ancB W2.heap.size),.slice adl ly.length cpl,ptB t,.string x,.int .i64 a,.func (.func 221) #[] (ancB (W3.heap.size+1)),.string z,undef,undef,undef,undef],defers:=[]}) ?assign ?body ?done ?stop
 case assign=>
  intro l z W K hK
  gi_wp2
  exact hK
 case body=>
  rintro l pre z W ⟨hpre,hB⟩ hlt;have hrW:bg W (kF W2 t y a).heap.size (.slice adl ly.length cpl) ly:=dR HROW.out (fun g hg=>hB.block g (cP HROW.out hg).2);have b8:Boxed W w.heap.size 9 (.string ⟨#[]⟩):=(hB.block _ (by omega)).trans H8.out;have b9:Boxed W (w.heap.size+1) 4 (.bool false):=(hB.block _ (by omega)).trans H9.out;have b10:Boxed W W3.heap.size 68 (.slice adl ly.length cpl):=(hB.block _ (by omega)).trans H10.out;have hct:=qq hrW (by omega) z;have c8:=b8.cell;have f8:=b8.frozen;have c9:=b9.cell;have f9:=b9.frozen;have c10:=b10.cell;have B8:=Lib.hid b8;have B9:=Lib.hid b9;have HB:=Lib.hid hB;have HP:=Lib.hid hpre;clear hrW b10 b8 b9 hB hpre hlt;by_cases hz:z∈ly
  ·rw[decide_eq_true hz]at hct;have HZ:=Lib.hid hz;clear hz
   gi_wp2_with (refine⟨trivial,?_⟩;gi_at_call 172;refine(CallsIn.inRound l (callsIn_wide.2 hct)).mono ?_;rintro e w' ⟨rfl,hw'⟩;obtain rfl:=hw'.symm)
   exact⟨((KeepsOthers.setCell _ _ _).trans (KeepsOthers.setCell _ _ _)).from _,⟨⟨rfl,pre,z,rfl,HP.out,HZ.out,(B8.out.set (.string z)).other (by omega) _,(B9.out.other (by omega) _).set _⟩,(((HB0A.out.trans (HB.out.mono hlA)).setCell (p:=⟨w.heap.size,0,none⟩) (Nat.le_refl _) _).setCell (p:=⟨w.heap.size+1,0,none⟩) (by simp) _),by simpa using HB.out.size⟩⟩
  ·rw[decide_eq_false hz]at hct;have HZ:=Lib.hid hz;clear hz
   gi_wp2_with (refine⟨trivial,?_⟩;gi_at_call 172;refine(CallsIn.inRound l (callsIn_wide.2 hct)).mono ?_;rintro e w' ⟨rfl,hw'⟩;obtain rfl:=hw'.symm)
   refine⟨KeepsFrom.refl _ _,Kb.refl _ _ _,⟨fun u hu=> ?_,HB.out⟩⟩;rcases List.mem_append.1 hu with h | h
   ·exact HP.out u h
   ·simp only[List.mem_singleton]at h;subst h;exact HZ.out
 case done=>
  rintro D zs W hD rfl ⟨hpre,hB⟩ hK;have b8:Boxed W w.heap.size 9 (.string ⟨#[]⟩):=(hB.block _ (by omega)).trans H8.out;have b9:Boxed W (w.heap.size+1) 4 (.bool false):=(hB.block _ (by omega)).trans H9.out;have c8:=b8.cell;have f8:=b8.frozen;have c9:=b9.cell;have f9:=b9.frozen;have hsame:=((KeepsOthers.setCell W ⟨w.heap.size,0,none⟩ (.string ⟨#[]⟩)).trans (KeepsOthers.setCell _ ⟨w.heap.size+1,0,none⟩ (.bool false))).same D _ hK rfl;have B8:=Lib.hid ((b8.set (.string ⟨#[]⟩)).other (by omega:w.heap.size≠w.heap.size+1) (.bool false));have B9:=Lib.hid ((b9.other (by omega:w.heap.size+1≠w.heap.size) (.string ⟨#[]⟩)).set (.bool false));have HBB:=Lib.hid (((HB0A.out.trans (hB.mono hlA)).setCell (p:=⟨w.heap.size,0,none⟩) (Nat.le_refl _) (.string ⟨#[]⟩)).setCell (p:=⟨w.heap.size+1,0,none⟩) (by simp) (.bool false));have HSM:=Lib.hid hsame;have hcm:jd zs ly=none:=List.find?_eq_none.2 (fun u hu=>by simpa using hpre u hu);have HCM:=Lib.hid hcm;have hDs:WA.heap.size≤((W.setCell ⟨w.heap.size,0,none⟩ (.string ⟨#[]⟩)).setCell ⟨w.heap.size+1,0,none⟩ (.bool false)).heap.size:=by simpa using hB.size
  clear b8 b9 hsame hcm hB hpre
  gi_wp2
  generalize (W.setCell ⟨w.heap.size,0,none⟩ (.string ⟨#[]⟩)).setCell ⟨w.heap.size+1,0,none⟩ (.bool false)=WZ at *;refine⟨by simp,.inl ⟨_,_,rfl,run_takeDeferred HSM.out,?_⟩⟩;have hg:=grownBy_putObj' WZ D (.deferred none);have B8':=B8.out.kept hg (fun e=>by injection e with e;omega);have B9':=B9.out.kept hg (fun e=>by injection e with e;omega);refine⟨_,en rfl _ _ rfl rfl (cU Tryz.underlying9 rfl B8'.cell) (cU Tryz.underlying4 rfl B9'.cell),by rw[HCM.out];rfl,HBB.out.trans (belowK_b (w:=w) (Nat.le_refl _) WZ D _ _ (by omega) HSM.out rfl rfl)⟩
 case stop=>
  rintro D c pre W hD hpre ⟨⟨rfl,pre0,z,hp0,hno,hz,b8,b9⟩,hB,hsz⟩ hK;have c8:=b8.cell;have c9:=b9.cell;have HCM:=Lib.hid (show jd lx ly=some z from by
   obtain⟨tl,rfl⟩:=hpre;unfold jd;rw[hp0,List.find?_append,List.find?_append,List.find?_eq_none.2 (fun u hu=>by simpa using hno u hu)];simp[hz])
  have B8:=Lib.hid b8;have B9:=Lib.hid b9;have HBB:=Lib.hid hB;clear hp0 hno hz b8 b9 hB hpre
  gi_wp2
  refine⟨by simp,.inl ⟨_,_,rfl,run_takeDeferred hK,?_⟩⟩;have hg:=grownBy_putObj' W D (.deferred none);have B8':=B8.out.kept hg (fun e=>by injection e with e;omega);have B9':=B9.out.kept hg (fun e=>by injection e with e;omega);refine⟨_,en rfl _ _ rfl rfl (cU Tryz.underlying9 rfl B8'.cell) (cU Tryz.underlying4 rfl B9'.cell),by rw[HCM.out];rfl,HBB.out.trans (belowK_b (w:=w) (Nat.le_refl _) W D _ _ (by omega) hK rfl rfl)⟩
end
section
open Go.RowKit Go.Shelf
open Classical
attribute [local go_sem] Oper.semAt_some
theorem xU {W w1:World} {n₀ B:Nat} {t e:TypeId} {size:Nat} {v v':Value} {k m:Nat} {xs ys:List Value} {tmp:Obj}
  (hv:Boxed W B t v) (hte:t≠e) (hrow:W.ownsRow n₀ e size v k xs) (hn₀:n₀≤W.heap.size)
  (hown':w1.ownsRow n₀ e size v' m ys) (hgrow:(W.alloc tmp).grownBy w1 v.ownBlock):
  Boxed w1 B t v∧Boxed (w1.setCell ⟨B,0,none⟩ v') B t v'∧(w1.setCell ⟨B,0,none⟩ v').ownsRow n₀ e size v' m ys∧KeepsOthers W (w1.setCell ⟨B,0,none⟩ v')∧Kb n₀ B W (w1.setCell ⟨B,0,none⟩ v'):=by
 have hv1:Boxed w1 B t v:=(hv.alloc tmp).kept hgrow (hv.not_row hte hrow);refine⟨hv1,hv1.set v',hown'.kept (grownBy_setCell' w1 B v') (.inr (hv1.not_row hte hown').symm),?_,?_⟩
 ·refine((KeepsOthers.alloc W tmp).trans (KeepsOthers.of_grownBy hgrow fun j o ej hj=> ?_)).trans (KeepsOthers.setCell _ _ _);rcases(hrow.alloc tmp).2 with⟨rfl,_⟩ | ⟨g,cap,cur,rfl,_,hgb,_⟩
  ·simp[Value.ownBlock]at ej
  ·obtain rfl:g=j:=by simpa [Value.ownBlock]using ej
   rw[hgb]at hj;cases hj;rfl
 ·have h1:Kb n₀ B W (W.alloc tmp):=Kb.below ((Below.refl n₀ W).alloc hn₀ tmp);have hs1:n₀≤(W.alloc tmp).heap.size:=Nat.le_trans hn₀ h1.size;have h2:Kb n₀ B W w1:=h1.grown hgrow hs1 (fun j ej=>by
   rcases hrow.2 with⟨rfl,_⟩ | ⟨g,cap,cur,rfl,hb,_,_⟩
   ·simp[Value.ownBlock]at ej
   ·obtain rfl:g=j:=by simpa [Value.ownBlock]using ej
    exact .inl hb)
  exact h2.grown (grownBy_setCell' w1 B v') (Nat.le_trans hn₀ h2.size) (fun j ej=>by cases ej;exact .inr rfl)
noncomputable def bC (l:List Nm) (top:Nm):List Nm:=l.takeWhile fun z=>decide (z≠top)
theorem belL_all {l:List Nm} {top:Nm} (h:∀z∈l,z≠top):bC l top=l:=by
 unfold bC;have:=List.takeWhile_append_of_pos (p:=fun z=>decide (z≠top)) (l₁:=l) (l₂:=[]) (fun z hz=>by simpa using h z hz);simpa using this
theorem vC {p l:List Nm} {top:Nm} (h:∀z∈p,z≠top) (hp:p++ [top] <+:l):bC l top=p:=by
 obtain⟨t,rfl⟩:=hp;unfold bC;rw[List.append_assoc,List.takeWhile_append_of_pos (fun z hz=>by simpa using h z hz)];simp
theorem zb {w WA W:World} {D:Nat} {o o':Obj} (hb:Below w.heap.size w WA) (hK:Kb WA.heap.size (w.heap.size+1) WA W) (_:w.heap.size+1<WA.heap.size) (hD:WA.heap.size≤D) (hD2:W.heap[D]? =some o):Below w.heap.size w (W.putObj D o'):=by
 have h1:Below w.heap.size w W:=⟨hK.os.trans hb.os,hK.tape.trans hb.tape,hK.output.trans hb.output,Nat.le_trans hb.size hK.size,fun k hk=>(hK.block k (by omega) (by omega)).trans (hb.block k hk)⟩;exact h1.grown (grownBy_putObj' W D o') (Nat.le_trans hb.size hK.size) (fun k e=>by cases e;have:=hb.size;omega)
set_option maxRecDepth 100000 in
set_option maxHeartbeats 2000000 in
theorem tE {w:World} {t m:Nat} {E:List Ch} {x top:Nm} {a:Int} {lx:List Nm} (hT:TM w t m E) (hx:Anc (trE E) a x lx) (h1:lx.length≤1000):
  Calls Tryz.prog 106 #[ptB t,.string x,.string top,.int .i64 a] w fun e w'=>∃v,e= .returned v∧bg w' w.heap.size v (bC lx top)∧Below w.heap.size w w':=by
 refine(callsIn_wide (n:=3)).1 ?_;have h3:(1:Nat)≤3:=by decide
 have hmx:(1000:Nat)≤maxLen:=by unfold maxLen;omega
 obtain⟨i0,hi,hz0,hz1,hz2⟩:=info_parts (show(Tryz.prog.info? 9).map (fun i=>(i.zero,i.size,i.bytes))=some (some (.string ByteArray.empty),1,16)by kernel_rfl);have b6:=Boxed.new w 9 (.string top);have b9:=Boxed.new (w.alloc (.cells #[.string top] 9)) 68 (.slice none 0 0);have hb2:Below w.heap.size w ((w.alloc (.cells #[.string top] 9)).alloc (.cells #[.slice none 0 0] 68)):=((Below.refl _ w).alloc (Nat.le_refl _) _).alloc (by simp) _;rw[World.size_alloc]at b9;have b6:=b6.alloc (.cells #[.slice none 0 0] 68);have hs2:((w.alloc (.cells #[.string top] 9)).alloc (.cells #[.slice none 0 0] 68)).heap.size=w.heap.size+2:=by simp
 obtain⟨W2,hW2⟩:∃W2,(w.alloc (.cells #[.string top] 9)).alloc (.cells #[.slice none 0 0] 68)=W2:=⟨_,rfl⟩;rw[hW2]at b6 b9 hb2 hs2;have hn9:w.heap.size+1∉fpT t m E:=fun hm=>by have:=hT.lt _ hm;omega
 have hX9:bD W2 (w.heap.size+1):=.mk' (show W2.heap[w.heap.size+1]? =some (.cells #[.slice none 0 0] 68 (0,0))from b9) (fun k n hk=>by cases k<;>simp at hk);have han:=xR W2 t x a;have hseq:=tD (hT.below hb2) hn9 hX9 hx 2 _ (by decide) (Below.refl _ _);have hsA:=kn W2 t x a;have hbA:=iE W2 t x a;obtain⟨WA,hWA⟩:∃WA,kF W2 t x a=WA:=⟨_,rfl⟩;rw[hWA]at hseq hsA hbA;have HSA:=Lib.hid hsA;have HS2:=Lib.hid hs2;have H6:=Lib.hid (show Boxed WA w.heap.size 9 (.string top)from(hbA.block _ (by omega)).trans b6);have H9:=Lib.hid (show Boxed WA (w.heap.size+1) 68 (.slice none 0 0)from(hbA.block _ (by omega)).trans b9);have HB:=Lib.hid (hb2.trans (hbA.mono hb2.size));have HSEQ:=Lib.hid hseq;clear hT hx b6 b9 hb2 hs2 hn9 hX9 hseq hsA hbA;refine callsIn_of_wp_marks Tryz.func106 rfl trivial ?_ rfl;simp only[Tryz.ntmps106,List.size_toArray,List.length_cons,List.length_nil,Nat.reduceAdd,Nat.reduceSub,Array.replicate_succ,Array.replicate_zero,List.push_toArray,List.append_toArray,List.nil_append,List.cons_append]
 gi_wp2_with (refine⟨trivial,?_⟩;gi_at_call 171;refine(callsIn_wide.2 han).mono ?_;clear han;rintro e w' ⟨B,rfl,rfl,rfl⟩)
 have hs2:=HS2.out;have hsA:=HSA.out;have hlA:=HB.out.size;have hl6:w.heap.size+1<WA.heap.size:=by omega
 clear hW2 hWA hs2 hsA;refine wpIn_rangeFunc_ownG (F:=Fence.wide) (n:=3) rfl h3 (gf:=221) (lb:=ancB W2.heap.size) rfl trivial xT
  HSEQ.out (fun {_ _ _} h k=>h.trans k) (kb_b (Nat.le_refl _)) (Below.refl _ _) (fun _=>rfl)
  (fun pre W=>((∃v,Boxed W (w.heap.size+1) 68 v∧W.ownsRow WA.heap.size 9 1 v pre.length (pre.map Value.string)∧True)∧(∀z∈pre,z≠top))∧Kb WA.heap.size (w.heap.size+1) WA W)
  (fun c pre W=>((∃v,Boxed W (w.heap.size+1) 68 v∧W.ownsRow WA.heap.size 9 1 v pre.dropLast.length (pre.dropLast.map Value.string)∧True)∧(c= .exit 0∧∃pre0,pre=pre0++ [top]∧∀z∈pre0,z≠top))∧Kb WA.heap.size (w.heap.size+1) WA W)
  (OwnFrom.and (OwnFrom.and (Own.from (holdsRow_own WA.heap.size (w.heap.size+1) 68 9 1 (fun pre:List Nm=>pre.length) (fun pre=>pre.map Value.string) (fun _ _=>True)) _) (ownFrom_pure _ _)) (kb_own _ _ _ (Nat.le_refl _)))
  (fun c=>OwnFrom.and (OwnFrom.and (Own.from (holdsRow_own WA.heap.size (w.heap.size+1) 68 9 1 (fun pre:List Nm=>pre.dropLast.length) (fun pre=>pre.dropLast.map Value.string) (fun _ _=>True)) _) (ownFrom_pure _ _)) (kb_own _ _ _ (Nat.le_refl _)))
  ⟨⟨⟨_,H9.out,World.ownsRow_nil _ _ _ _,trivial⟩,fun _ h=>(by cases h)⟩,Kb.refl _ _ _⟩
  (fun z=> {tmps:=#[ptB t,.string x,.string top,.int .i64 a,undef,undef,.pointer (some ⟨w.heap.size,0,none⟩),undef,.slice none 0 0,.pointer (some ⟨w.heap.size+1,0,none⟩),.string z,ptB t,.string x,.int .i64 a,.func (.func 221) #[] (ancB W2.heap.size),.string z,undef,undef,undef,undef,undef,undef,undef,undef],defers:=[]}) ?assign ?body ?done ?stop
 case assign=>
  intro l z W K hK
  gi_wp2
  exact hK
 case body=>
  rintro l pre z W ⟨⟨⟨v,hv,hrow,_⟩,hpre⟩,hK⟩ hlt;have hc:=hv.cell;have c6:W.cell? ⟨w.heap.size,0,none⟩=some (.string top):=by rw[hK.cell (by omega) (by omega)];exact H6.out.cell
  have HP:=Lib.hid hpre;have HV:=Lib.hid hv;have HR:=Lib.hid hrow;have HK:=Lib.hid hK;have hsW:=hK.size;clear hpre hK;by_cases e:z=top
  ·subst e;clear hv hrow
   gi_wp2
   refine⟨KeepsFrom.refl _ _,⟨⟨⟨v,HV.out,by rw[List.dropLast_concat];exact HR.out,trivial⟩,rfl,pre,rfl,HP.out⟩,HK.out⟩⟩
  ·have hne:=yX e;have HE:=Lib.hid e;clear e
   gi_wp2_with (gi_at_builtin;refine wpListIn_append_own _ rfl _ _ 68 rfl WA.heap.size 9 i0 (.string ByteArray.empty) 1 16 Tryz.underlying68 hi hz0 hz1 hz2 rfl (by decide) _ _ _ rfl (hrow.alloc _) ⟨W.heap.size,0,none⟩ 1 1 [.string z] rfl rfl (cell_one_new _ _ _) (by simp[Value.oneCell']) (by omega) (by omega) (by simp;omega) ?_;intro v' w1 hown' hgrow _;obtain⟨g',cap',rfl⟩:=ownsRow_succ hown';obtain⟨hv1,hv2,hr2,hk2,hb2⟩:=xU hv (by decide) hrow hsW hown' hgrow;have hc1:=hv1.cell;have hf1:=hv1.frozen)
   refine⟨hk2.from _,hb2,⟨⟨_,hv2,by simpa using hr2,trivial⟩,fun u hu=> ?_⟩,HK.out.trans hb2⟩;rcases List.mem_append.1 hu with h | h
   ·exact HP.out u h
   ·simp only[List.mem_singleton]at h;subst h;exact HE.out
 case done=>
  rintro D zs W hD rfl ⟨⟨⟨v,hv,hrow,_⟩,hpre⟩,hK⟩ hD2;have hc:=hv.cell;have HQ:=Lib.hid (show(W.putObj D (.deferred none)).ownsRow w.heap.size 9 1 v (bC zs top).length ((bC zs top).map Value.string)∧Below w.heap.size w (W.putObj D (.deferred none))from by
   rw[belL_all hpre];exact⟨ownsRow_base_a (ownsRow_putObj hrow _ hD2 rfl) hlA,zb HB.out hK hl6 hD hD2⟩)
  clear hv hrow hpre hK
  gi_wp2
  refine⟨by simp,.inl ⟨_,_,rfl,run_takeDeferred hD2,?_⟩⟩;exact⟨_,results_tmp rfl _ _ _,v,rfl,HQ.out.1,HQ.out.2⟩
 case stop=>
  rintro D c pre W hD hpx ⟨⟨⟨v,hv,hrow,_⟩,rfl,pre0,hp0,hno⟩,hK⟩ hD2;have hc:=hv.cell;have HQ:=Lib.hid (show(W.putObj D (.deferred none)).ownsRow w.heap.size 9 1 v (bC lx top).length ((bC lx top).map Value.string)∧Below w.heap.size w (W.putObj D (.deferred none))from by
   subst hp0;rw[vC hno hpx];rw[List.dropLast_concat]at hrow;exact⟨ownsRow_base_a (ownsRow_putObj hrow _ hD2 rfl) hlA,zb HB.out hK hl6 hD hD2⟩)
  clear hv hrow hpx hK hp0 hno
  gi_wp2
  refine⟨by simp,.inl ⟨_,_,rfl,run_takeDeferred hD2,?_⟩⟩;exact⟨_,results_tmp rfl _ _ _,v,rfl,HQ.out.1,HQ.out.2⟩
end
section
open Classical
noncomputable def bd (R:Tr) (a:Int) (x:Nm):List Nm:=if h:∃l,Anc R a x l then h.choose else []
theorem dS {R:Tr} (hR:TOk R) (a:Int) (x:Nm):Anc R a x (bd R a x):=by
 have h:=Anc.of (hR.acy a x);unfold bd;rw[dif_pos h];exact h.choose_spec
theorem ko {R:Tr} {a:Int} {x:Nm} {l:List Nm} (h:Anc R a x l):bd R a x=l:=by
 unfold bd;have h2:∃l,Anc R a x l:=⟨l,h⟩;rw[dif_pos h2];exact h2.choose_spec.uniq h
theorem fM {R:Tr} (hR:Sane R) {a:Int} {x:Nm} (hx:aN R x):(bd R a x).length≤24:=(dS hR.ok a x).short hR hx
noncomputable def aT (R:Tr) (a:Int) (x y:Nm):Nm×Int:=
 if aN R x∧aN R y then(match jd (bd R a x) (bd R a y)with | some z=>(z,0) | none=>(ByteArray.empty,18))else(ByteArray.empty,6)
theorem q_meet {w:World} {t m:Nat} {E:List Ch} (hT:TM w t m E) (hE:Sane (trE E)) (x y:Nm) (a:Int):
  Calls Tryz.prog 71 #[ptB t,.string x,.string y,.int .i64 a] w fun e w'=>e= .returned (.tuple #[.string (aT (trE E) a x y).1,.int .i64 (aT (trE E) a x y).2])∧Below w.heap.size w w':=by
 have hk1:=mP hT hE y;have HK2:=Lib.hid (show∀wq,Below w.heap.size w wq→Calls Tryz.prog 108 #[ptB t,.string x] wq fun e w'=>e= .returned (.bool (decide (aN (trE E) x)))∧Below w.heap.size w w' from fun wq hb=>(mP (hT.below hb) hE x).mono (by
  rintro e w' ⟨rfl,k⟩;exact⟨rfl,hb.trans (k.mono hb.size)⟩))
 by_cases ky:aN (trE E) y
 ·rw[decide_eq_true ky]at hk1;by_cases kx:aN (trE E) x
  ·have HM:=Lib.hid (show aT (trE E) a x y=(match jd (bd (trE E) a x) (bd (trE E) a y)with | some z=>(z,0) | none=>(ByteArray.empty,18))by unfold aT;rw[if_pos ⟨kx,ky⟩]);have HC:=Lib.hid (show∀wq,Below w.heap.size w wq→Calls Tryz.prog 129 #[ptB t,.string x,.string y,.int .i64 a] wq fun e w'=>e= .returned (.tuple #[.string ((jd (bd (trE E) a x) (bd (trE E) a y)).getD ByteArray.empty),.bool (jd (bd (trE E) a x) (bd (trE E) a y)).isSome])∧Below w.heap.size w w' from fun wq hb=>by
    have l1:=fM hE (a:=a) kx;have l2:=fM hE (a:=a) ky;exact(q_common (hT.below hb) (dS hE.ok a x) (dS hE.ok a y) (by omega) (by omega)).mono (by
     rintro e w' ⟨rfl,k⟩;exact⟨rfl,hb.trans (k.mono hb.size)⟩))
   rw[decide_eq_true kx]at HK2;obtain⟨M,hM⟩:∃M,aT (trE E) a x y=M:=⟨_,rfl⟩;rw[hM]at HM⊢
   cases hc:jd (bd (trE E) a x) (bd (trE E) a y)with
   | none=>
    rw[hc]at HC HM;have HM2:=Lib.hid (show M=(ByteArray.empty,18)from HM.out);clear hT hE ky kx hM hc HM;go_enter Tryz.func71,Tryz.ntmps71
    go_wp2_with (first
     | (go_at_call 108;refine hk1.mono ?_;clear hk1;rintro e w1 ⟨rfl,hb⟩;have HB1:=Lib.hid hb;have hk2:=HK2.out w1 hb;clear hb)
     | (go_at_call 108;refine hk2.mono ?_;clear hk2;rintro e w2 ⟨rfl,hb⟩;have hco:=HC.out w2 hb;clear hb)
     | (go_at_call 129;refine hco.mono ?_;clear hco;rintro e w3 ⟨rfl,hb⟩;have HB3:=Lib.hid hb;clear hb))
    go_ret2
    rw[HM2.out];exact⟨rfl,HB3.out⟩
   | some z=>
    rw[hc]at HC HM;have HM2:=Lib.hid (show M=(z,0)from HM.out);clear hT hE ky kx hM hc HM;go_enter Tryz.func71,Tryz.ntmps71
    go_wp2_with (first
     | (go_at_call 108;refine hk1.mono ?_;clear hk1;rintro e w1 ⟨rfl,hb⟩;have HB1:=Lib.hid hb;have hk2:=HK2.out w1 hb;clear hb)
     | (go_at_call 108;refine hk2.mono ?_;clear hk2;rintro e w2 ⟨rfl,hb⟩;have hco:=HC.out w2 hb;clear hb)
     | (go_at_call 129;refine hco.mono ?_;clear hco;rintro e w3 ⟨rfl,hb⟩;have HB3:=Lib.hid hb;clear hb))
    go_ret2
    rw[HM2.out];exact⟨rfl,HB3.out⟩
  ·have HM:=Lib.hid (show aT (trE E) a x y=(ByteArray.empty,6)by unfold aT;rw[if_neg (fun h=>kx h.1)]);rw[decide_eq_false kx]at HK2;obtain⟨M,hM⟩:∃M,aT (trE E) a x y=M:=⟨_,rfl⟩;rw[hM]at HM⊢;clear hT hE ky kx hM;go_enter Tryz.func71,Tryz.ntmps71
   go_wp2_with (first
    | (go_at_call 108;refine hk1.mono ?_;clear hk1;rintro e w1 ⟨rfl,hb⟩;have HB1:=Lib.hid hb;have hk2:=HK2.out w1 hb;clear hb)
    | (go_at_call 108;refine hk2.mono ?_;clear hk2;rintro e w2 ⟨rfl,hb⟩;have HB3:=Lib.hid hb;clear hb))
   go_ret2
   rw[HM.out];exact⟨rfl,HB3.out⟩
 ·have HM:=Lib.hid (show aT (trE E) a x y=(ByteArray.empty,6)by unfold aT;rw[if_neg (fun h=>ky h.2)]);rw[decide_eq_false ky]at hk1;obtain⟨M,hM⟩:∃M,aT (trE E) a x y=M:=⟨_,rfl⟩;rw[hM]at HM⊢;clear hT hE ky hM HK2;go_enter Tryz.func71,Tryz.ntmps71
  go_wp2_with (go_at_call 108;refine hk1.mono ?_;clear hk1;rintro e w1 ⟨rfl,hb⟩;have HB3:=Lib.hid hb;clear hb)
  go_ret2
  rw[HM.out];exact⟨rfl,HB3.out⟩
end
section
open Classical
noncomputable def co (R:Tr) (a:Int):List Nm→Pq→Pq×Int
 | [],p=>(p,0)
 | f::l,p=>if (cJ R f a).2=0 then co R a l ((cJ R f a).1.mul p)else(Pq.zero,(cJ R f a).2)
def lM (R:Tr) (a:Int):List Nm→Pq→Prop
 | [],_=>True
 | f::l,p=>(cJ R f a).2=0→(cJ R f a).1.ok 100000∧(cJ R f a).1.good∧p.ok 100000∧p.good∧lM R a l ((cJ R f a).1.mul p)
theorem PB.kb {w0 Wb W:World} {B n O:Nat} {vs:List Value} (h:PB w0 Wb B vs) (k:Kb n O Wb W) (hB:B<n) (hO:B≠O) (hl:w0.heap.size≤n) (hw:w0.heap.size≤O):PB w0 W B vs:=
 ⟨by rw[k.block B hB hO];exact h.blk,h.len,⟨k.os.trans h.bel.os,k.tape.trans h.bel.tape,k.output.trans h.bel.output,Nat.le_trans h.bel.size k.size,fun i hi=>(k.block i (by omega) (by omega)).trans (h.bel.block i hi)⟩,h.ge,h.nu⟩
theorem Kb.put {n O:Nat} {A B:World} (h:Kb n O A B) (us:List Value):Kb n O A (B.setCells O 0 us):=by
 have u:=cO us B O 0;exact h.trans ⟨u.os,u.tape,u.output,Nat.le_of_eq u.size.symm,fun k _ hO=>u.block k hO⟩
theorem PB.lt {w0 W:World} {B:Nat} {vs:List Value} (h:PB w0 W B vs):B<W.heap.size:=(Array.getElem?_eq_some_iff.1 h.blk).1
theorem PB.oth {w0 W:World} {B B':Nat} {vs us:List Value} (h:PB w0 W B vs) (hne:B≠B') (hl:w0.heap.size≤B'):PB w0 (W.setCells B' 0 us) B vs:=
 ⟨by rw[(cO us W B' 0).block B hne];exact h.blk,h.len,aI us 0 W h.bel hl,h.ge,h.nu⟩
theorem PB.base {w0 w1 W:World} {B:Nat} {vs:List Value} (h:PB w1 W B vs) (k:Below w0.heap.size w0 w1):PB w0 W B vs:=⟨h.blk,h.len,k.trans (h.bel.mono k.size),Nat.le_trans k.size h.ge,h.nu⟩
theorem PB.ld {w0 W:World} {B:Nat} {vs:List Value} (h:PB w0 W B vs):W.rangeAt B 0 vs:=fun j v hv=>by rw[aR h.blk,Nat.zero_add];simpa using hv
set_option maxHeartbeats 2000000 in
theorem q_rise {w:World} {t m:Nat} {E:List Ch} {x top:Nm} {a:Int} {lx:List Nm} (hT:TM w t m E) (hE:TOk (trE E)) (hx:Anc (trE E) a x lx) (h1:lx.length≤1000) (hok:lM (trE E) a (bC lx top) Pq.id):
  Calls Tryz.prog 72 #[ptB t,.string x,.string top,.int .i64 a] w fun e w'=>∃v,e= .returned (.tuple #[v,.int .i64 (co (trE E) a (bC lx top) Pq.id).2])∧bu w' v (co (trE E) a (bC lx top) Pq.id).1∧Below w.heap.size w w':=by
 have hp0:=PB.new w;have HT:=Lib.hid hT;have HE:=Lib.hid hE;have HX:=Lib.hid hx;have HOK:=Lib.hid hok;have hll:(bC lx top).length≤1000:=Nat.le_trans ((List.takeWhile_sublist _).length_le) h1;have HP0:=Lib.hid hp0;obtain⟨W,hW⟩:∃W,w.alloc (.cells az.toArray 39)=W:=⟨_,rfl⟩;rw[hW]at HP0;have hid:=q_poId W;obtain⟨Rz,hRz⟩:∃r,r=co (trE E) a (bC lx top) Pq.id:=⟨_,rfl⟩;have HRZ:=Lib.hid hRz;rw[←hRz];clear hT hE hx hok hp0 hRz;go_enter Tryz.func72,Tryz.ntmps72
 go_upto_region 0 with(fail)
 refine wp_region_list ?_;refine ag rfl (v:=.pointer (some ⟨w.heap.size,0,none⟩)) (w':=W) (by subst hW;go_simp;try rfl) ?_;obtain⟨B8,hB8⟩:∃B,w.heap.size=B:=⟨_,rfl⟩;rw[hB8]at HP0⊢;clear hW;go_upto_region 1 with(fail)
 refine wp_region_list ?_;refine wpList_plain rfl (fun K hK=> ?_);go_simp;go_at_call 22
 refine hid.mono ?_;rintro e W1 ⟨v,rfl,hv,hb⟩;obtain⟨us,rfl,hul,hu1,hun⟩:=di hv;refine hK _ _ ?_;clear hK K hid;have hpn:=PB.new W1;have hvv:bu (W1.alloc (.cells az.toArray 39)) (.agg us.toArray) Pq.id:=hv.mono hpn.bel;have HP1:=Lib.hid (HP0.out.next (hb.trans (hpn.bel.mono hb.size)));refine ag rfl (v:=.pointer (some ⟨W1.heap.size,0,none⟩)) (w':=W1.alloc (.cells az.toArray 39)) (by go_simp;try rfl) ?_;have hth:=hpn.there;rw[←hul]at hth;refine wpList_store_mid rfl _ _ _ rfl W1.heap.size 0 us.toArray rfl rfl (by simpa using hth) (aZ hul) hu1 ?_;rw[show us.toArray.toList=us from rfl];have hw1:Below w.heap.size w W1:=HP0.out.bel.trans (hb.mono HP0.out.bel.size);have hne:B8≠W1.heap.size:=by have:=HP0.out.lt;have:=hb.size;omega
 have HP8:=Lib.hid (HP1.out.oth (us:=us) hne hw1.size);have HP10:=Lib.hid ((hpn.base hw1).put (us:=us) hul hun);have HV:=Lib.hid (hpn.keep (us:=us) hvv);have HTE:=Lib.hid (HT.out.below HP10.out.bel);have hbl:=(tE HTE.out HX.out h1 (top:=top)).mono (show∀e w',_→∃ad n cap,e= .returned (.slice ad n cap)∧Hid (bg w' ((W1.alloc (.cells az.toArray 39)).setCells W1.heap.size 0 us).heap.size (.slice ad n cap) (bC lx top)∧n=(bC lx top).length∧Below ((W1.alloc (.cells az.toArray 39)).setCells W1.heap.size 0 us).heap.size ((W1.alloc (.cells az.toArray 39)).setCells W1.heap.size 0 us) w')from by
  rintro e w' ⟨v,rfl,h1,h2⟩;obtain⟨ad,cap,rfl⟩:=fK h1;exact⟨ad,_,cap,rfl,Lib.hid ⟨h1,rfl,h2⟩⟩)
 generalize hW2:(W1.alloc (.cells az.toArray 39)).setCells W1.heap.size 0 us=W2 at *;obtain⟨B10,hB10⟩:∃B,W1.heap.size=B:=⟨_,rfl⟩;rw[hB10]at HP10 hne⊢;have HNE:=Lib.hid hne;clear hW2 hth hpn hvv hv hb hu1 hun HP1 hw1 hB10 hne HP0;go_wp2_with (go_at_call 106;refine hbl.mono ?_;clear hbl;rintro e Wb ⟨ad,n,cap,rfl,HR⟩)
 have HP8b:=Lib.hid (HP8.out.next HR.out.2.2);have HP10b:=Lib.hid (HP10.out.next HR.out.2.2);have HVb:=Lib.hid ((show bu Wb _ _ from IsL.mono HV.out HR.out.2.2));have HTb:=Lib.hid (HTE.out.below HR.out.2.2);have hnl:(n:Int)≤1000:=by rw[HR.out.2.1];omega
 have hn10:B10∉fpT t m E:=fun hm=>by
  have h3:=HT.out.lt _ hm;have h4:=HP10b.out.ge;omega
 have hX10:bD Wb B10:=(nJ HP10b.out.blk (fun u hu=>HP10b.out.nu u (by simpa using hu))).x;have hl8:B8<Wb.heap.size:=HP8b.out.lt;have HROW:=Lib.hid (show∀wq,Kb Wb.heap.size B10 Wb wq→TM wq t m E∧PB w wq B8 az∧∀(i:Nat) (c:Nm),(bC lx top)[i]? =some c→∃g,ad=some ⟨g,0,none⟩∧wq.cell? ⟨g,i,none⟩=some (.string c)from fun wq k=>⟨k.tm HTb.out hn10 hX10,HP8b.out.kb k hl8 HNE.out HP8b.out.bel.size HP10b.out.ge,fun i c hc=>by
  have h3:=HR.out.1;have h4:=HR.out.2.1;unfold bg at h3;rw[←h4]at h3;obtain⟨g1,e1,q1⟩:=km h3 (show((bC lx top).map Value.string)[i]? =some (.string c)by rw[List.getElem?_map,hc];rfl);have h5:=cP h3 (g:=g1) (by rw[e1];rfl);exact⟨g1,e1,by rw[k.cell h5.2 (by have:=HP10.out.lt;omega)];exact q1⟩⟩)
 obtain⟨L,hL⟩:∃L,bC lx top=L:=⟨_,rfl⟩;rw[hL]at HROW HOK HRZ hll;have HNL:=Lib.hid (show n=L.length by rw[HR.out.2.1,hL]);clear HR HV HP8 HP10 HTE HT HX hL hn10 hX10 HP8b HTb hl8;have hlb:Wb.heap.size≤Wb.heap.size:=Nat.le_refl _;go_loopw [22] (fun s22 wq=>∃(k:Nat) (cs:List Value) (q:Pq),k≤n∧s22= .int .i64 (k:Int)∧Hid (Kb Wb.heap.size B10 Wb wq)∧Hid (PB w wq B10 cs)∧Hid (bu wq (.agg cs.toArray) q)∧Hid (Rz=co (trE E) a (L.drop k) q∧lM (trE E) a (L.drop k) q)) (fun s22 _=>n - (intOf s22).toNat)
 case atStart=>exact⟨0,us,Pq.id,Nat.zero_le _,rfl,Lib.hid (Kb.refl _ _ _),HP10b,HVb,Lib.hid ⟨HRZ.out,HOK.out⟩⟩
 case round=>
  clear HRZ HOK HP10b HVb hul hlb;obtain⟨k,cs,q,hk,rfl,HK,HP,HV,HZ⟩:=hrel;rcases Nat.lt_or_ge k n with hlt | hge
  ·obtain⟨c,hc⟩:∃c,L[k]? =some c:=⟨_,List.getElem?_eq_getElem (by rw[←HNL.out];exact hlt)⟩;obtain⟨hTq,hP8,hrw⟩:=HROW.out wr HK.out;obtain⟨g,rfl,hcc⟩:=hrw k c hc;have hed:=q_Edge hTq HE.out c a;have hdr:L.drop k=c::L.drop (k+1):=by
    obtain⟨h1,h2⟩:=List.getElem?_eq_some_iff.1 hc;rw[←h2];exact List.drop_eq_getElem_cons h1
   have hz:=HZ.out;rw[hdr]at hz;unfold co lM at hz;obtain⟨ep,hep⟩:∃ep,cJ (trE E) c a=ep:=⟨_,rfl⟩;rw[hep]at hed hz;obtain⟨pe,code⟩:=ep;simp only at hed hz;have HZ2:=Lib.hid hz;have HP8:=Lib.hid hP8;have hlW:Wb.heap.size≤wr.heap.size:=HK.out.size;clear hTq hrw hc hep hz hP8 hdr;go_upto_region 5 with(fail)
   refine wp_region_list ?_;refine ag rfl (v:=ptB t) (w':=wr) (by rfl) ?_;refine ag rfl (v:=.string c) (w':=wr) (by rfl) ?_;refine ag rfl (v:=.int .i64 a) (w':=wr) (by rfl) ?_;refine wpList_plain rfl (fun K hK=> ?_);go_simp;go_at_call 41
   refine hed.mono ?_;rintro e w4 ⟨v,rfl,hv,hb⟩;obtain⟨vs,rfl,hul,hu1,hun⟩:=di hv;refine hK _ _ ?_;clear hK K hed;refine ag rfl (v:=.tuple #[.agg vs.toArray,.int .i64 code]) (w':=w4) (by rfl) ?_;refine ag rfl (v:=.agg vs.toArray) (w':=w4) (by go_simp) ?_;refine ag rfl (v:=.int .i64 code) (w':=w4) (by go_simp) ?_;have hpn:=PB.new w4;have hvn:bu (w4.alloc (.cells az.toArray 39)) (.agg vs.toArray) pe:=IsL.mono hv hpn.bel;have hth:=hpn.there;rw[←hul]at hth;have hb5:=aI vs 0 _ (hb.trans (hpn.bel.mono hb.size)) hb.size (b:=w4.heap.size);have HK5:=Lib.hid (HK.out.trans (Kb.below (hb5.mono hlW)));have HP5:=Lib.hid (HP.out.next hb5);have HV5:=Lib.hid (show bu _ (.agg cs.toArray) q from IsL.mono HV.out hb5);have HP85:=Lib.hid (HP8.out.next hb5);have HPX:=Lib.hid (hpn.put (us:=vs) hul hun);have HVX:=Lib.hid (hpn.keep (us:=vs) hvn);refine ag rfl (v:=.pointer (some ⟨w4.heap.size,0,none⟩)) (w':=w4.alloc (.cells az.toArray 39)) (by go_simp;try rfl) ?_;refine wpList_store_mid rfl _ _ _ rfl w4.heap.size 0 vs.toArray rfl rfl (by simpa using hth) (aZ hul) hu1 ?_;rw[show vs.toArray.toList=vs from rfl];generalize hW5:(w4.alloc (.cells az.toArray 39)).setCells w4.heap.size 0 vs=W5 at *;have hl5:=hb5.size;have hneX:w4.heap.size≠B10:=by have:=HP.out.lt;have:=hb.size;omega
   obtain⟨B13,hB13⟩:∃B,w4.heap.size=B:=⟨_,rfl⟩;rw[hB13]at hneX HPX⊢;have HNX:=Lib.hid hneX;clear hW5 hB13 hneX hpn hvn hth hb5 hv hb hu1 hun HK HP HV HP8;by_cases h0:code=0
   ·subst h0;obtain⟨hz1,hz2⟩:=HZ2.out;rw[if_pos rfl]at hz1;obtain⟨o1,o2,o3,o4,o5⟩:=hz2 rfl;have hmul:=oW _ _ pe q W5 HVX.out HV5.out o1 o3 o2 o4;have HZ3:=Lib.hid (And.intro hz1 o5);have HSX:=Lib.hid (show(Tryz.prog.info? 39).map (·.size)=some vs.length by rw[HPX.out.len];kernel_rfl);have HSC:=Lib.hid (show(Tryz.prog.info? 39).map (·.size)=some cs.length by rw[HP5.out.len];kernel_rfl);clear hz1 hz2 o1 o2 o3 o4 o5 HZ2 HZ HVX HV5 hul;go_upto_region 8 with(fail)
    refine wp_region_list ?_;refine wpList_load_mid rfl _ _ rfl B13 0 rfl vs _ HPX.out.ld Tryz.underlying39 rfl HSX.out ?_;refine wpList_load_mid rfl _ _ rfl B10 0 rfl cs _ HP5.out.ld Tryz.underlying39 rfl HSC.out ?_;refine wpList_plain rfl (fun K hK=> ?_);go_simp;go_at_call 21
    refine hmul.mono ?_;rintro e w6 ⟨v,rfl,hv,hb⟩;obtain⟨us6,rfl,hul,hu1,hun⟩:=di hv;refine hK _ _ ?_;clear hK K hmul;have hP6:=HP5.out.next hb;have hth:=hP6.there;rw[←hul]at hth;refine wpList_store_mid rfl _ _ _ rfl B10 0 us6.toArray rfl rfl (by simpa using hth) (aZ hul) hu1 ?_;rw[show us6.toArray.toList=us6 from rfl];have HK7:=Lib.hid ((HK5.out.trans (Kb.below (hb.mono (Nat.le_trans hlW hl5)))).put us6);have HP7:=Lib.hid (hP6.put (us:=us6) hul hun);have HV7:=Lib.hid (hP6.keep (us:=us6) hv);generalize hW7:w6.setCells B10 0 us6=W7 at *;clear hW7 hth hP6 hv hb hu1 hun HK5 HP5 HP85 HPX hul;go_wp2;go_roundw
    case rel=>exact⟨k+1,us6,_,by omega,by go_num,HK7,HP7,HV7,HZ3⟩
    case measure=>simp[intOf];omega
   ·have h0':(code==0)=false:=beq_eq_false_iff_ne.2 h0;have HZ3:=Lib.hid (show Rz=(Pq.zero,code)by rw[HZ2.out.1,if_neg h0]);clear h0 HZ2 HZ;go_upto_region 7 with(fail)
    refine wp_region_list ?_;refine ag rfl (v:=.agg az.toArray) (w':=W5) (by unfold az;go_simp;try rfl) ?_;refine ag rfl (v:=.int .i64 code) (w':=W5) (by rfl) ?_;refine wpList_store_mid rfl _ _ _ rfl B8 0 az.toArray rfl rfl HP85.out.there (by kernel_rfl) (by kernel_rfl) ?_;have HP9:=Lib.hid (HP85.out.put (us:=az) rfl HP85.out.nu);rw[show az.toArray.toList=az from rfl];generalize hW9:W5.setCells B8 0 az=W9 at *;clear hW9;go_wp2;refine bodyPost_ret (HP9.out.ret rfl _ rfl) rfl ?_;rw[HZ3.out];exact⟨_,rfl,iD _,HP9.out.bel⟩
  ·obtain rfl:k=n:=by omega
   have hz:=HZ.out.1;rw[show L.drop k=[]by rw[HNL.out];simp]at hz;have HZ3:=Lib.hid (show Rz=(q,0)from hz);obtain⟨_,hP8,_⟩:=HROW.out wr HK.out;have HSC:=Lib.hid (show(Tryz.prog.info? 39).map (·.size)=some cs.length by rw[HP.out.len];kernel_rfl);have hth:=hP8.there;rw[←HP.out.len]at hth;have hu1:cs.toArray.all (·.oneCell')=true:=by
    obtain⟨cs',e,_,h1,_⟩:=di HV.out;have e:cs=cs':=by injection e with e;simpa using e
    rw[e];exact h1
   have HP9:=Lib.hid (hP8.put (us:=cs) HP.out.len HP.out.nu);have HV9:=Lib.hid (hP8.keep (us:=cs) HV.out);have HLN:=Lib.hid HP.out.len;clear hz HZ hge hP8 HROW;go_upto_region 10 with(fail)
   refine wp_region_list ?_;refine wpList_load_mid rfl _ _ rfl B10 0 rfl cs _ HP.out.ld Tryz.underlying39 rfl HSC.out ?_;refine wpList_store_mid rfl _ _ _ rfl B8 0 cs.toArray rfl rfl (by simpa using hth) (aZ HLN.out) hu1 ?_;rw[show cs.toArray.toList=cs from rfl];generalize hW9:wr.setCells B8 0 cs=W9 at *;clear hW9 hth hu1;go_wp2;refine bodyPost_ret (HP9.out.ret rfl _ rfl) rfl ?_;rw[HZ3.out];exact⟨_,rfl,HV9.out,HP9.out.bel⟩
end
section
open Classical
noncomputable abbrev upP (R:Tr) (a:Int) (x top:Nm):Pq×Int:=co R a (bC (bd R a x) top) Pq.id
noncomputable def aH (R:Tr) (a:Int) (tq fr:Nm):Pq×Int:=
 if (aT R a fr tq).2≠0 then(Pq.zero,(aT R a fr tq).2)else
  if (upP R a fr (aT R a fr tq).1).2≠0 then(Pq.zero,(upP R a fr (aT R a fr tq).1).2)else
   if (upP R a tq (aT R a fr tq).1).2≠0 then(Pq.zero,(upP R a tq (aT R a fr tq).1).2)else
    ((upP R a tq (aT R a fr tq).1).1.inv.mul (upP R a fr (aT R a fr tq).1).1,0)
structure FindOk (R:Tr) (a:Int) (tq fr:Nm):Prop where
 up:lM R a (bC (bd R a fr) (aT R a fr tq).1) Pq.id
 dn:lM R a (bC (bd R a tq) (aT R a fr tq).1) Pq.id
 ou:(upP R a fr (aT R a fr tq).1).2=0→(upP R a fr (aT R a fr tq).1).1.ok 100000∧(upP R a fr (aT R a fr tq).1).1.good
 od:(upP R a tq (aT R a fr tq).1).2=0→(upP R a tq (aT R a fr tq).1).1.ok 100000∧(upP R a tq (aT R a fr tq).1).1.good∧(upP R a tq (aT R a fr tq).1).1.inv.ok 100000
theorem lN {R:Tr} {a:Int} {x y:Nm} (h:(aT R a x y).2=0):aN R x∧aN R y:=by
 unfold aT at h;split at h
 ·rename_i k;exact k
 ·simp at h
set_option maxHeartbeats 2000000 in
theorem jV {w:World} {t m:Nat} {E:List Ch} {tq fr:Nm} {a:Int} (hT:TM w t m E) (hE:Sane (trE E)) (hok:FindOk (trE E) a tq fr):
  Calls Tryz.prog 18 #[ptB t,.string tq,.string fr,.int .i64 a] w fun e w'=>∃v,e= .returned (.tuple #[v,.int .i64 (aH (trE E) a tq fr).2])∧bu w' v (aH (trE E) a tq fr).1∧Below w.heap.size w w':=by
 have hp0:=PB.new w;have hme:=q_meet (hT.below hp0.bel) hE fr tq a;have HT:=Lib.hid (show∀wq,Below w.heap.size w wq→TM wq t m E from fun wq k=>hT.below k);have HE:=Lib.hid hE;obtain⟨M,hM⟩:∃M,aT (trE E) a fr tq=M:=⟨_,rfl⟩;obtain⟨Rz,hRz⟩:∃r,r=aH (trE E) a tq fr:=⟨_,rfl⟩;have hkn:=lN (R:=trE E) (a:=a) (x:=fr) (y:=tq);obtain⟨ok1,ok2,ok3,ok4⟩:=hok;rw[hM]at hme hkn ok1 ok2 ok3 ok4;have hz:=hRz;unfold aH at hz;rw[hM]at hz;rw[←hRz];obtain⟨top,mc⟩:=M;simp only at hme hkn ok1 ok2 ok3 ok4 hz;have HZ:=Lib.hid hz;have HKN:=Lib.hid hkn;have HO1:=Lib.hid ok1;have HO2:=Lib.hid ok2;have HO3:=Lib.hid ok3;have HO4:=Lib.hid ok4;have HP0:=Lib.hid hp0;obtain⟨W,hW⟩:∃W,w.alloc (.cells az.toArray 39)=W:=⟨_,rfl⟩;rw[hW]at HP0 hme;clear hT hE hp0 hRz hM hkn ok1 ok2 ok3 ok4 hz;go_enter Tryz.func18,Tryz.ntmps18
 go_upto_region 0 with(fail)
 refine wp_region_list ?_;refine ag rfl (v:=.pointer (some ⟨w.heap.size,0,none⟩)) (w':=W) (by subst hW;go_simp;try rfl) ?_;obtain⟨B8,hB8⟩:∃B,w.heap.size=B:=⟨_,rfl⟩;have HB8:=Lib.hid hB8;rw[hB8]at HP0⊢;clear hW hB8;by_cases h0:mc=0
 ·subst h0;obtain⟨kx,ky⟩:=HKN.out rfl;have lx:=fM HE.out (a:=a) kx;have ly:=fM HE.out (a:=a) ky;have HUP:=Lib.hid (show∀wq,Below w.heap.size w wq→Calls Tryz.prog 72 #[ptB t,.string fr,.string top,.int .i64 a] wq fun e w'=>∃v,e= .returned (.tuple #[v,.int .i64 (upP (trE E) a fr top).2])∧bu w' v (upP (trE E) a fr top).1∧Below wq.heap.size wq w' from fun wq k=>q_rise (HT.out wq k) HE.out.ok (dS HE.out.ok a fr) (by omega) HO1.out);have HDN:=Lib.hid (show∀wq,Below w.heap.size w wq→Calls Tryz.prog 72 #[ptB t,.string tq,.string top,.int .i64 a] wq fun e w'=>∃v,e= .returned (.tuple #[v,.int .i64 (upP (trE E) a tq top).2])∧bu w' v (upP (trE E) a tq top).1∧Below wq.heap.size wq w' from fun wq k=>q_rise (HT.out wq k) HE.out.ok (dS HE.out.ok a tq) (by omega) HO2.out);have hz:=HZ.out;have o3:=HO3.out;have o4:=HO4.out;rw[if_neg (by simp)]at hz;generalize upP (trE E) a fr top=U at *;generalize upP (trE E) a tq top=D at *;obtain⟨up,uc⟩:=U;obtain⟨dn,dc⟩:=D;simp only at hz o3 o4 HUP HDN;have HZ2:=Lib.hid hz;have HO3':=Lib.hid o3;have HO4':=Lib.hid o4;clear hz o3 o4 HZ HO1 HO2 HO3 HO4 kx ky lx ly HKN HT HE;go_upto_region 4 with(go_at_call 71;refine hme.mono ?_;clear hme;rintro e w1 ⟨rfl,hb⟩;have HP1:=Lib.hid (HP0.out.next hb);clear hb)
  clear HP0;have hup:=HUP.out w1 HP1.out.bel;refine wp_region_list ?_;refine ag rfl (v:=ptB t) (w':=w1) (by rfl) ?_;refine ag rfl (v:=.string fr) (w':=w1) (by rfl) ?_;refine ag rfl (v:=.string top) (w':=w1) (by rfl) ?_;refine ag rfl (v:=.int .i64 a) (w':=w1) (by rfl) ?_;refine wpList_plain rfl (fun K hK=> ?_);go_simp;go_at_call 72
  refine hup.mono ?_;rintro e w4 ⟨v,rfl,hv,hb⟩;obtain⟨vs12,rfl,hul,hu1,hun⟩:=di hv;refine hK _ _ ?_;clear hK K hup;refine ag rfl (v:=.tuple #[.agg vs12.toArray,.int .i64 uc]) (w':=w4) (by rfl) ?_;refine ag rfl (v:=.agg vs12.toArray) (w':=w4) (by go_simp) ?_;refine ag rfl (v:=.int .i64 uc) (w':=w4) (by go_simp) ?_;have hpn:=PB.new w4;have hvn:bu (w4.alloc (.cells az.toArray 39)) (.agg vs12.toArray) up:=IsL.mono hv hpn.bel;have hth:=hpn.there;rw[←hul]at hth;have hb5:=aI vs12 0 _ (hb.trans (hpn.bel.mono hb.size)) hb.size (b:=w4.heap.size);have HP2:=Lib.hid (HP1.out.next hb5);have H12:=Lib.hid ((hpn.base (HP1.out.bel.trans (hb.mono HP1.out.bel.size))).put (us:=vs12) hul hun);have HV12:=Lib.hid (hpn.keep (us:=vs12) hvn);have HL12:=Lib.hid (show w4.heap.size=w4.heap.size from rfl);have hlt12:B8<w4.heap.size:=by have:=HP1.out.lt;have:=hb.size;omega
  refine ag rfl (v:=.pointer (some ⟨w4.heap.size,0,none⟩)) (w':=w4.alloc (.cells az.toArray 39)) (by go_simp;try rfl) ?_;refine wpList_store_mid rfl _ _ _ rfl w4.heap.size 0 vs12.toArray rfl rfl (by simpa using hth) (aZ hul) hu1 ?_;rw[show vs12.toArray.toList=vs12 from rfl];generalize hW5:(w4.alloc (.cells az.toArray 39)).setCells w4.heap.size 0 vs12=W2 at *;obtain⟨B12,hB12⟩:∃B,w4.heap.size=B:=⟨_,rfl⟩;rw[hB12]at H12 hlt12⊢;have HLT12:=Lib.hid hlt12;clear hW5 hB12 HL12 hlt12 hpn hvn hth hb5 hv hb hu1 hun hul;clear HP1 HUP;by_cases h0:uc=0
  ·subst h0;obtain⟨ou1,ou2⟩:=HO3'.out rfl;have hz:=HZ2.out;rw[if_neg (by simp)]at hz;have HZ4:=Lib.hid hz;have HU:=Lib.hid (And.intro ou1 ou2);clear hz HZ2 HO3' ou1 ou2;go_upto_region 7 with(fail)
   have hdn:=HDN.out W2 HP2.out.bel;refine wp_region_list ?_;refine ag rfl (v:=ptB t) (w':=W2) (by rfl) ?_;refine ag rfl (v:=.string tq) (w':=W2) (by rfl) ?_;refine ag rfl (v:=.string top) (w':=W2) (by rfl) ?_;refine ag rfl (v:=.int .i64 a) (w':=W2) (by rfl) ?_;refine wpList_plain rfl (fun K hK=> ?_);go_simp;go_at_call 72
   refine hdn.mono ?_;rintro e w4 ⟨v,rfl,hv,hb⟩;obtain⟨vs13,rfl,hul,hu1,hun⟩:=di hv;refine hK _ _ ?_;clear hK K hdn;refine ag rfl (v:=.tuple #[.agg vs13.toArray,.int .i64 dc]) (w':=w4) (by rfl) ?_;refine ag rfl (v:=.agg vs13.toArray) (w':=w4) (by go_simp) ?_;refine ag rfl (v:=.int .i64 dc) (w':=w4) (by go_simp) ?_;have hpn:=PB.new w4;have hvn:bu (w4.alloc (.cells az.toArray 39)) (.agg vs13.toArray) dn:=IsL.mono hv hpn.bel;have hth:=hpn.there;rw[←hul]at hth;have hb5:=aI vs13 0 _ (hb.trans (hpn.bel.mono hb.size)) hb.size (b:=w4.heap.size);have HP3:=Lib.hid (HP2.out.next hb5);have H12b:=Lib.hid (H12.out.next hb5);have HV12b:=Lib.hid (IsL.mono HV12.out hb5);have H13:=Lib.hid ((hpn.base (HP2.out.bel.trans (hb.mono HP2.out.bel.size))).put (us:=vs13) hul hun);have HV13:=Lib.hid (hpn.keep (us:=vs13) hvn);have HL13:=Lib.hid (show w4.heap.size=w4.heap.size from rfl);have hlt13:B8<w4.heap.size:=by have:=HP2.out.lt;have:=hb.size;omega
   have hlt12:B12<w4.heap.size:=by have:=H12.out.lt;have:=hb.size;omega
   refine ag rfl (v:=.pointer (some ⟨w4.heap.size,0,none⟩)) (w':=w4.alloc (.cells az.toArray 39)) (by go_simp;try rfl) ?_;refine wpList_store_mid rfl _ _ _ rfl w4.heap.size 0 vs13.toArray rfl rfl (by simpa using hth) (aZ hul) hu1 ?_;rw[show vs13.toArray.toList=vs13 from rfl];generalize hW5:(w4.alloc (.cells az.toArray 39)).setCells w4.heap.size 0 vs13=W3 at *;obtain⟨B13,hB13⟩:∃B,w4.heap.size=B:=⟨_,rfl⟩;rw[hB13]at H13 hlt13 hlt12⊢;have HLT13:=Lib.hid hlt13;have HLT1213:=Lib.hid hlt12;clear hW5 hB13 HL13 hlt13 hlt12 hpn hvn hth hb5 hv hb hu1 hun hul;clear HP2 HDN HV12 H12;by_cases h0:dc=0
   ·subst h0;have hz:=HZ4.out;rw[if_neg (by simp)]at hz;have HZ5:=Lib.hid hz;obtain⟨od1,od2,od3⟩:=HO4'.out rfl;clear hz HZ4;go_upto_region 10 with(fail)
    have hsz13:(Tryz.prog.info? 39).map (·.size)=some vs13.length:=by rw[H13.out.len];kernel_rfl
    have hsz12:(Tryz.prog.info? 39).map (·.size)=some vs12.length:=by rw[H12b.out.len];kernel_rfl
    have hbd:Below W3.heap.size W3 W3.drew:=(Below.refl _ _).drew;have hinv:=yL _ dn W3.drew (IsL.mono HV13.out hbd) od1 od2;refine wp_region_held_drew (S:=fun w'=>w'.rangeAt B13 0 vs13∧w'.rangeAt B12 0 vs12) (by kernel_rfl) ⟨by simpa using H13.out.ld,by simpa using H12b.out.ld⟩ (fun hHeld=> ?_);refine wpAnyH_take (i:=0) (v:=.agg vs13.toArray) rfl (by kernel_rfl) (by kernel_rfl) (by kernel_rfl) (fun _ _ _ h=>h) (yieldsIf_load_mid (by rfl) _ _ rfl B13 0 rfl _ _ (fun w hw=>hw.1) Tryz.underlying39 rfl hsz13) hHeld ?_;refine wpAnyH_take (i:=2) (v:=.agg vs12.toArray) rfl (by kernel_rfl) (by kernel_rfl) (by kernel_rfl) (fun _ _ _ h=>h) (yieldsIf_load_mid (by rfl) _ _ rfl B12 0 rfl _ _ (fun w hw=>hw.2) Tryz.underlying39 rfl hsz12) hHeld ?_;refine wpAnyH_ready (rs:=[1]) (by kernel_rfl) (by simp) ?_;refine AllReadyH.cons rfl (fun K hK=> ?_) AllReadyH.nil;go_simp;go_at_call 56
    refine hinv.mono ?_;rintro e w6 ⟨v,rfl,hv,hb⟩;obtain⟨us6,rfl,_,_,_⟩:=di hv;have hb6:Below W3.heap.size W3 w6:=hbd.trans hb;have hP6:=HP3.out.next hb6;have hA:=H13.out.next hb6;have hB:=H12b.out.next hb6;refine hK.out _ _ ⟨hA.ld,hB.ld⟩ (fun hHeld2=> ?_);clear hK K hHeld hinv;have hmul:=oW _ _ dn.inv up w6 hv (IsL.mono HV12b.out hb6) od3 HU.out.1 od2.inv HU.out.2;refine wpAnyH_ready (rs:=[3]) (by kernel_rfl) (by simp) ?_;refine AllReadyH.cons rfl (fun K hK=> ?_) AllReadyH.nil;go_simp;go_at_call 21
    refine hmul.mono ?_;rintro e w7 ⟨v,rfl,hv7,hb7⟩;obtain⟨us7,rfl,hul,hu1,hun⟩:=di hv7;have hP7:=hP6.next hb7;refine hK.out _ _ ⟨(hA.next hb7).ld,(hB.next hb7).ld⟩ (fun hHeld3=> ?_);clear hK K hHeld2 hmul;have hth:=hP7.there;rw[←hul]at hth;refine wpAnyH_ready (rs:=[4]) (by kernel_rfl) (by simp) ?_;refine AllReadyH.cons rfl (fun K hK=> ?_) AllReadyH.nil;refine wp_store_mid _ _ _ rfl B8 0 us7.toArray rfl rfl (by simpa using hth) (aZ hul) hu1 ?_;rw[show us7.toArray.toList=us7 from rfl];have HP9:=Lib.hid (hP7.put (us:=us7) hul hun);have HV9:=Lib.hid (hP7.keep (us:=us7) hv7);refine hK.out _ _ ⟨((hA.next hb7).oth (us:=us7) (by have:=HLT13.out;omega) hP7.ge).ld,((hB.next hb7).oth (us:=us7) (by have:=HLT12.out;omega) hP7.ge).ld⟩ (fun hHeld4=> ?_);clear hK K hHeld3;generalize hW9:w7.setCells B8 0 us7=W9 at *;clear hW9 hth hv7 hb7 hul hu1 hun hP7 hA hB hP6 hv hb hb6 hbd;refine wpAnyH_take (i:=5) (v:=.int .i64 0) rfl (by kernel_rfl) (by kernel_rfl) (by kernel_rfl) (fun _ _ _ h=>h) (Or.inl ⟨by rfl,fun w hw=>by rfl⟩) hHeld4 ?_;refine wpAnyH_done (by kernel_rfl) ?_ _;go_wp2;refine bodyPost_ret (HP9.out.ret rfl _ rfl) rfl ?_;rw[HZ5.out];exact⟨_,rfl,HV9.out,HP9.out.bel⟩
   ·have h0':(dc==0)=false:=beq_eq_false_iff_ne.2 h0;have HZ5:=Lib.hid (show Rz=(Pq.zero,dc)by rw[HZ4.out,if_pos h0]);clear h0 HZ4 HO4';go_upto_region 9 with(fail)
    refine wp_region_list ?_;refine ag rfl (v:=.agg az.toArray) (w':=W3) (by unfold az;go_simp;try rfl) ?_;refine ag rfl (v:=.int .i64 dc) (w':=W3) (by rfl) ?_;refine wpList_store_mid rfl _ _ _ rfl B8 0 az.toArray rfl rfl HP3.out.there (by kernel_rfl) (by kernel_rfl) ?_;have HP9:=Lib.hid (HP3.out.put (us:=az) rfl HP3.out.nu);rw[show az.toArray.toList=az from rfl];generalize hW9:W3.setCells B8 0 az=W9 at *;clear hW9;go_wp2;refine bodyPost_ret (HP9.out.ret rfl _ rfl) rfl ?_;rw[HZ5.out];exact⟨_,rfl,iD _,HP9.out.bel⟩
  ·have h0':(uc==0)=false:=beq_eq_false_iff_ne.2 h0;have HZ3:=Lib.hid (show Rz=(Pq.zero,uc)by rw[HZ2.out,if_pos h0]);clear h0 HZ2 HO3' HO4' HDN;go_upto_region 6 with(fail)
   refine wp_region_list ?_;refine ag rfl (v:=.agg az.toArray) (w':=W2) (by unfold az;go_simp;try rfl) ?_;refine ag rfl (v:=.int .i64 uc) (w':=W2) (by rfl) ?_;refine wpList_store_mid rfl _ _ _ rfl B8 0 az.toArray rfl rfl HP2.out.there (by kernel_rfl) (by kernel_rfl) ?_;have HP9:=Lib.hid (HP2.out.put (us:=az) rfl HP2.out.nu);rw[show az.toArray.toList=az from rfl];generalize hW9:W2.setCells B8 0 az=W9 at *;clear hW9;go_wp2;refine bodyPost_ret (HP9.out.ret rfl _ rfl) rfl ?_;rw[HZ3.out];exact⟨_,rfl,iD _,HP9.out.bel⟩
 ·have h0':(mc==0)=false:=beq_eq_false_iff_ne.2 h0;have HZ3:=Lib.hid (show Rz=(Pq.zero,mc)by rw[HZ.out,if_pos h0]);clear h0 HKN HO1 HO2 HO3 HO4 HZ HT HE;go_upto_region 3 with(go_at_call 71;refine hme.mono ?_;clear hme;rintro e w1 ⟨rfl,hb⟩;have HP1:=Lib.hid (HP0.out.next hb);clear hb)
  refine wp_region_list ?_;refine ag rfl (v:=.agg az.toArray) (w':=w1) (by unfold az;go_simp;try rfl) ?_;refine ag rfl (v:=.int .i64 mc) (w':=w1) (by rfl) ?_;refine wpList_store_mid rfl _ _ _ rfl B8 0 az.toArray rfl rfl HP1.out.there (by kernel_rfl) (by kernel_rfl) ?_;have HP9:=Lib.hid (HP1.out.put (us:=az) rfl HP1.out.nu);rw[show az.toArray.toList=az from rfl];generalize hW9:w1.setCells B8 0 az=W9 at *;clear hW9;go_wp2;refine bodyPost_ret (HP9.out.ret rfl _ rfl) rfl ?_;rw[HZ3.out];exact⟨_,rfl,iD _,HP9.out.bel⟩
end
end Go.Proofs.YtggfmklppkioeaaGreat
