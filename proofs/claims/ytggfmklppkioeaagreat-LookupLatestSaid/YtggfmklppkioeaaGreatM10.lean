/- slices. -/
import Derived.Test.YtggfmklppkioeaaGreatM09
import Derived.RangeFuncNested
import Derived.RangeFuncBound
import Derived.RangeFuncCalls
import Derived.RangeFuncLeaves
import Derived.RangeFuncBox
import Derived.Shelf.Abstract
import Derived.Shelf.RegionOpen
import Derived.OwnWalkIn
import Derived.TacticsInMore
import Derived.LoopNIn
import Derived.LoopIn
import Derived.Sort.LoopGhostIn
import Derived.Maps.AppendAt
import Derived.Shelf.SortM.Plain
import Derived.Shelf.Slices.CompactI
import Derived.Ground.SlgmProg
import Derived.Ground.Names2Prog
import Derived.Sort.OwnSortedInts
import Derived.Lib.OwnBridge
import Derived.Deep.RegionHeld3
namespace Go.Proofs.YtggfmklppkioeaaGreat
set_option linter.unusedSimpArgs false
set_option linter.unusedVariables false
set_option maxRecDepth 100000
open Go.RowKit
open _root_.Go.RowKit renaming Below → Bi
open _root_.Go renaming Calls → AC,Program → AW,bodyPost_ret → A7,heap_alloc_new → Bm,heap_setCell_same → CZ,info_parts → DF,wpAnyH_ready → Fr,wpAnyH_take → BQ,wpList_load_mid → Dp,wpList_plain → BA,wpList_store_mid → BX,wp_region_list → Bn,yieldsIf_load_mid → FK
open _root_.Go.Proofs renaming ownsRow_base_a → EW
open _root_.Go.AllReadyH renaming cons → Fj,nil → Fk
open _root_.And renaming intro → By
open _root_.Array renaming getElem?_eq_some_iff → AZ,getElem?_setIfInBounds → DQ,getElem?_toList → GQ
open _root_.Go.RowKit.Below renaming heap_alloc → Fo,refl → AF
open _root_.Go.Builtin renaming append_ → BM
open _root_.ByteArray renaming empty → BW,toList → Fi
open _root_.Go.Ending renaming returned → BF
open _root_.Go.Fence renaming wide → Cd
open _root_.Go.Instr renaming index → Eb
open _root_.Go.IntKind renaming i64 → Be,wrap_i64 → Ci
open _root_.Go.Lib renaming hid → AA
open _root_.List renaming append_nil → CP,cons_append → Dw,eq_nil_of_length_eq_zero → CF,find?_append → D1,find?_eq_none → CW,getElem?_drop → Cv,getElem?_eq_getElem → AJ,getElem?_eq_some_iff → AX,getElem?_map → Bp,getElem?_of_mem → Di,getElem?_take → BI,getElem_of_mem → BK,length_append → Bh,length_cons → Bg,length_nil → Dk,map_append → Ce,mem_append → AG,mem_cons → AS,mem_filter → E6,mem_flatMap → Br,mem_map → Ba,mem_of_getElem? → A0,mem_range → C4,mem_singleton → BD,nil_append → C8,range → Bj,size_toArray → Cb
open _root_.Nat renaming le_refl → AE,le_trans → AD,lt_or_ge → Bc,mul_assoc → C0,mul_comm → BV,not_lt_zero → CX,pow_add → BC,pow_le_pow_right → E4,zero_add → A5,zero_le → AY
open _root_.Option renaming some → A3
open _root_.Rat renaming inv_mul_cancel → Dz,mkRat_eq_iff → FD,mkRat_mul_mkRat → FE,mkRat_one → EI
open _root_.Go.Result renaming andThen → AQ
open _root_.Go.Sem renaming run_bind → AH
open _root_.Go.Proofs.Tryz renaming prog → AB,underlying0 → Fl,underlying3 → Dj,underlying39 → CC,underlying4 → Ek,underlying68 → DE,underlying9 → DC,zeroValue0 → Fm,zeroValue4 → FI
open _root_.Go.Value renaming int → AK,ownBlock → Cx,string → Bb
open _root_.Go.World renaming ownsRow_nil → Dv,size_alloc → Cr
section
open Classical
variable{w:World}
theorem q_Index{v:Value}{L:List Nm}{b:Nat}(h:aZ w b v L)(Y:L.length<=1000000)(c:Nm):AC AB 222 #[v,.string c] w λe w'=>∃i:Int,e= .returned (.int .i64 i)/\(0<=i↔c∈L)/\w'=w:=by
 obtain⟨Z,cap,rfl⟩:=cL h;obtain⟨n,hn⟩:∃n,n=L.length:=⟨_,rfl⟩;have H:=AA (show w.ownsRow b 9 1 (.slice Z L.length cap) L.length (L.map Bb)from h);rw[<-hn]at H Y⊢;have U:=AA hn;have hm:(n:Int)<=1000000:=no
 clear h Y hn;go_enter Tryz.func222,Tryz.ntmps222
 go_wp2;go_loopw [8] (λP wr=>∃k:Nat,k<=n/\P= .int .i64 (k:Int)/\wr=w/\Hid (∀j y,j<k->L[j]? =some y->y≠c)) (λP _=>n - (intOf P).toNat)
 case atStart=>exact⟨0,AY _,rfl,rfl,AA (λj y C=>absurd C (CX j))⟩
 case round=>
  obtain⟨k,hk,rfl,rfl,G⟩:=hrel;rcases Bc k n with J | aa
  ·obtain⟨x,K⟩:∃x,L[k]? =some x:=⟨_,AJ (by rw[<-U.out];exact J)⟩;obtain⟨g,rfl,hc⟩:=cQ H.out (show(L.map Bb)[k]? =some (.string x)by rw[Bp,K];rfl);have V:=AA K;clear K;by_cases e:c=x
   ·subst e;have F:=AA (show∃i:Int,BF (.int .i64 (k:Int))= .returned (.int .i64 i)/\(0<=i↔c∈L)from⟨k,rfl,⟨λ_=>A0 V.out,λ_=>no⟩⟩);go_wp2;go_ret;obtain⟨i,h1,h2⟩:=F.out;exact⟨i,h1,h2,rfl⟩
   ·have ab:=gU e;have I:=AA (show∀j y,j<k+1->L[j]? =some y->y≠c from λj y C hy=>by
     rcases Bc j k with h | h
     ·exact G.out j y h hy
     ·obtain rfl:j=k:=no
      rw[V.out]at hy;injection hy with hy;subst hy;exact λh=>e h.symm)
    clear e;go_wp2;go_roundw
    case rel=>exact⟨k+1,no,by go_num,by trivial,I⟩
    case measure=>simp[intOf];omega
  ·obtain rfl:k=n:=no
   have F:=AA (show∃i:Int,BF (.int .i64 (-1))= .returned (.int .i64 i)/\(0<=i↔c∈L)from⟨-1,rfl,⟨λh=>no,λh=>by
    obtain⟨j,C,e⟩:=BK h;exact absurd e (G.out j _ (by rw[U.out];exact C) (AJ C))⟩⟩)
   clear G H;go_wp2;go_ret;obtain⟨i,h1,h2⟩:=F.out;exact⟨i,h1,h2,rfl⟩
theorem qB{v:Value}{L:List Nm}{b:Nat}(h:aZ w b v L)(G:L.length<=1000000)(c:Nm):AC AB 172 #[v,.string c] w λe w'=>e= .returned (.bool (decide (c∈L)))/\w'=w:=by
 have hi:=q_Index h G c;obtain⟨q,F⟩:∃q,q=decide (c∈L):=⟨_,rfl⟩;have I:=AA F;rw[<-F];clear h G F;go_enter Tryz.func172,Tryz.ntmps172
 go_wp2_with (go_at_call 222;refine hi.mono ?_;rintro e J ⟨i,rfl,C,rfl⟩;have H:=AA C;clear C)
 go_ret;refine⟨?_,rfl⟩;have e:decide (0<=i)=q:=by rw[I.out];exact decide_eq_decide.2 H.out
 rw[<-e];rfl
theorem mR{t m:Nat}{E:List Ch}(h:TM w t m E)(F:Sane (trE E))(c:Nm):AC AB 108 #[ptB t,.string c] w λe w'=>e= .returned (.bool (decide (aC (trE E) c)))/\mBw w w':=by
 have C:=(q_Frames h F.sm (λx U=>F.short U)).mono (show∀e w',_->∃v,e= .returned v/\Hid (mBw w w')/\AC AB 172 #[v,.string c] w' λe I=>e= .returned (.bool (decide (aC (trE E) c)))/\I=w' from by
  rintro e w' ⟨v,L,rfl,h1,h2,_,_,_,h3,P⟩;refine⟨v,rfl,AA P,?_⟩;rw[show decide (aC (trE E) c)=decide (c∈L)from decide_eq_decide.2 (h2 c).symm];exact qB h1 no c)
 obtain⟨q,J⟩:∃q,q=decide (aC (trE E) c):=⟨_,rfl⟩;rw[<-J]at C⊢;clear h F J;go_enter Tryz.func108,Tryz.ntmps108
 go_wp2_with (first
  | (go_at_call 33;refine C.mono ?_;rintro e V ⟨v,rfl,K,G⟩)
  | (go_at_call 172;refine G.mono ?_;rintro e w' ⟨rfl,H⟩;obtain rfl:=H.symm))
 go_ret;exact⟨rfl,K.out⟩
inductive Anc(R:Tr)(a:Int):Nm->List Nm->Prop
 | root {x:Nm} (h:par R a x=none):Anc R a x [x]
 | step {x y:Nm} {l:List Nm} (h:par R a x=some y) (t:Anc R a y l):Anc R a x (x::l)
variable{R:Tr}{a:Int}{x:Nm}
theorem Anc.of(h:iM R a x):∃l,Anc R a x l:=by
 induction h with
 | intro x _ C=>
  cases hp:par R a x with
  | none=>exact⟨_,.root hp⟩
  | some y=>
   obtain⟨l,hl⟩:=C y hp;exact⟨_,.step hp hl⟩
variable{l:List Nm}
theorem Anc.uniq{l':List Nm}(h:Anc R a x l)(k:Anc R a x l'):l=l':=by
 induction h generalizing l' with
 | root hp=>
  cases k with
  | root=>rfl
  | step hp' _=>rw[hp]at hp';cases hp'
 | step hp _ ih=>
  cases k with
  | root hp'=>rw[hp]at hp';cases hp'
  | step hp' t=>rw[hp]at hp';injection hp' with e;subst e;rw[ih t]
theorem Anc.head(h:Anc R a x l):∃t,l=x::t:=by cases h<;>exact⟨_,rfl⟩
theorem Anc.up:∀ {n:Nat} {x y:Nm} {l:List Nm},Anc R a x l->up R a n x=some y->par R a y=none->l.length=n+1
 | 0,x,y,l,h,hu,hy=>by
  simp only[Go.Proofs.YtggfmklppkioeaaGreat.up,A3.injEq]at hu;subst hu
  cases h with
  | root=>rfl
  | step hp _=>rw[hy]at hp;cases hp
 | n+1,x,y,l,h,hu,hy=>by
  cases h with
  | root hp=>simp only[Go.Proofs.YtggfmklppkioeaaGreat.up,hp,Option.bind_none]at hu;cases hu
  | step hp t=>simp only[Go.Proofs.YtggfmklppkioeaaGreat.up,hp,Option.bind_some]at hu;rw[Bg,Anc.up t hu hy]
theorem Anc.short(C:Sane R)(F:aC R x)(h:Anc R a x l):l.length<=24:=by
 obtain⟨n,y,h1,h2,h3⟩:=short_way (a:=a) C.ok C.sm F;have:=h.up h2 h3;omega
end
section
open Go.RowKit Go.Shelf
open Classical
attribute [local go_sem] Oper.semAt_some
structure Kb(n O:Nat)(A B:World):Prop where
 os:B.os=A.os
 tape:B.tape=A.tape
 output:B.output=A.output
 size:A.heap.size<=B.heap.size
 block:∀k,k<n->k≠O->B.heap[k]? =A.heap[k]?
theorem Kb.refl(n O:Nat)(A:World):Kb n O A A:=⟨rfl,rfl,rfl,AE _,λ_ _ _=>rfl⟩
variable{n O:Nat}{A B:World}
theorem Kb.trans{C:World}(h:Kb n O A B)(k:Kb n O B C):Kb n O A C:=⟨k.os.trans h.os,k.tape.trans h.tape,k.output.trans h.output,AD h.size k.size,λi h1 h2=>(k.block i h1 h2).trans (h.block i h1 h2)⟩
theorem Kb.below(h:Bi n A B):Kb n O A B:=⟨h.os,h.tape,h.output,h.size,λk C _=>h.block k C⟩
theorem Kb.grown{C:World}(h:Kb n O A B){row:Option Nat}(g:B.grownBy C row)(hn:n<=B.heap.size)(hr:∀k,row=some k->n<=k\/k=O):Kb n O A C:=
 ⟨g.os.trans h.os,g.tape.trans h.tape,g.output.trans h.output,AD h.size g.size,λk G F=>(g.block k no (λe=>by rcases hr k e.symm with h1 | h1;omega;exact F h1)).trans (h.block k G F)⟩
theorem Kb.cell(h:Kb n O A B){b j:Nat}(hb:b<n)(C:b≠O):B.cell? ⟨b,j,none⟩=A.cell? ⟨b,j,none⟩:=World.cell?_of_block (h.block b hb C)
variable{w:World}
theorem Kb.tm{t m:Nat}{E:List Ch}{W:World}(h:Kb w.heap.size O w W)(G:TM w t m E)(F:O∉fpT t m E)(o:bw w O):TM W t m E:=
 G.chg (X:=(· =O)) ⟨h.size,λg C hn=>h.block g C hn,λg C=>by have e:g=O:=C;subst e;exact o⟩ (λg C e=>F (e▸C))
theorem kb_own{β:Type}(n O:Nat)(w:World)(hn:n<=w.heap.size):OwnFrom n (λ(_:β) W=>Kb n O w W):=λ_ _ _ _ hs C F=>hs.grown C (AD hn hs.size) (λk e=>.inl (F k e).1)
theorem kb_b(hn:n<=w.heap.size)(W:World)(l:Nat)(o o':Obj)(hl:w.heap.size<=l)(h:W.heap[l]? =some o)(_:o.isCells=false)(_:o.isWalk=false):Kb n O W (W.putObj l o'):=
 (Kb.refl n O W).grown (grownBy_putObj' W l o') (by have:=(AZ.1 h).1;omega) (λk e=>by cases e;exact .inl no)
theorem zE(w:World)(t:Nat)(x:Nm)(a:Int):AC AB 171 #[ptB t,.string x,.int .i64 a] w λe w'=>∃B,e= .returned (.func (.func 221) #[] #[.pointer (some ⟨B+1,0,none⟩),.pointer (some ⟨B,0,none⟩),.pointer (some ⟨B+2,0,none⟩)])/\B=w.heap.size/\
  w'=((w.alloc (.cells #[ptB t] 24)).alloc (.cells #[.string x] 9)).alloc (.cells #[.int .i64 a] 3):=by
 go_enter Tryz.func171,Tryz.ntmps171
 go_wp2;go_ret;exact⟨_,rfl,rfl,rfl⟩
set_option maxHeartbeats 1000000 in
theorem anc_stops(n:Nat)(hn:1<=n){t m:Nat}{E:List Ch}{x:Nm}{a:Int}{ys:List Nm}{B1 B2 B3:Nat}(hT:TM w t m E)(hO:O∉fpT t m E)(hX:bw w O)(U:B1<w.heap.size/\B1≠O)(V:B2<w.heap.size/\B2≠O)(Y:B3<w.heap.size/\B3≠O)
  (c1:w.cell? ⟨B1,0,none⟩=some (.string x))(c2:w.cell? ⟨B2,0,none⟩=some (ptB t))(c3:w.cell? ⟨B3,0,none⟩=some (.int .i64 a))(hA:Anc (trE E) a x ys):
  SeqStopsK Cd n AB 221 #[.pointer (some ⟨B1,0,none⟩),.pointer (some ⟨B2,0,none⟩),.pointer (some ⟨B3,0,none⟩)] (λz:Nm=> #[Bb z]) (Kb w.heap.size O) (λzs=>zs=ys) (λpre=>pre <+:ys) ys.length w:=λl J Jx W hW hJ ak hY h0=>by
 have Z:Kb w.heap.size O w W:=Kb.below hW;have ay:W.cell? ⟨B1,0,none⟩=some (.string x):=by rw[Z.cell U.1 U.2];exact c1
 have ar:=AA (show∀wq,Kb w.heap.size O w wq->wq.cell? ⟨B2,0,none⟩=some (ptB t)from λwq k=>by rw[k.cell V.1 V.2];exact c2);have au:=AA (show∀wq,Kb w.heap.size O w wq->wq.cell? ⟨B3,0,none⟩=some (.int .i64 a)from λwq k=>by rw[k.cell Y.1 Y.2];exact c3);have HT:=AA (show∀wq,Kb w.heap.size O w wq->TM wq t m E from λwq k=>k.tm hT hO hX);have av:=AA Z;have HA:=AA hA;have H0:=AA h0;have HJ:=AA (By hJ ak);have HY:=AA hY;clear hT hO hX U V Y c1 c2 c3 Z hW hA h0 hJ ak hY;refine callsIn_of_wp Tryz.func221 rfl trivial ?_ rfl;simp only[Tryz.ntmps221,Cb,Bg,Dk,Nat.reduceAdd,Nat.reduceSub,Array.replicate_succ,Array.replicate_zero,List.push_toArray,List.append_toArray,C8,Dw]
 gi_wp2
 gi_loopg [5,6] ys.length (λk s5 s6 wr=>∃(pre F:List Nm)(f:Nm),s5= .string f/\Hid (ys=pre++F)/\Hid (Kb w.heap.size O w wr)/\Hid (J pre wr)/\((Hid (F=[]/\k=0)/\s6= .bool false)\/(Hid (Anc (trE E) a f F/\k=F.length)/\s6= .bool true)))
 case atStart=>exact⟨[],ys,x,rfl,AA rfl,av,H0,.inr ⟨AA ⟨HA.out,rfl⟩,rfl⟩⟩
 case round=>
  obtain⟨pre,F,f,rfl,H,ao,hj,⟨hr,rfl⟩ | ⟨hr,rfl⟩⟩:=hrel
  ·have hq:=AA (show(∃v,BF (.tuple #[])= .returned v)/\((∃zs,zs=ys/\J zs wr)\/(∃pre,pre <+:ys/\Jx pre wr))from⟨⟨_,rfl⟩,.inl ⟨pre,by rw[H.out,hr.out.1,CP],hj.out⟩⟩)
   gi_wp2
   refine⟨λ_ h=>(by cases h),?_⟩
   gi_wp2
   go_end0
   exact⟨⟨_,rfl⟩,hq.out.2⟩
  ·obtain⟨P,G⟩:=hr.out.1.head;have ap:pre.length<ys.length:=by rw[H.out,G];simp
   obtain⟨fn,tmps,aq,ax,hy,hR⟩:=HY.out pre f wr hj.out ap
   gi_wp2
   refine hR.mono ?_;rintro e W3 (⟨rfl,ad,an⟩ | ⟨rfl,am⟩)
   ·have C:=ao.out.trans an;have c2:=ar.out W3 C;have c3:=au.out W3 C;have I:=q_ParentG (HT.out W3 C) f a;have K:=AA C;have ab:=AA ad;have ac:=AA (show ys=(pre++ [f])++P by rw[H.out,G];simp);have HR:=AA (show(par (trE E) a f=none/\P=[])\/∃y,par (trE E) a f=some y/\Anc (trE E) a y P from by
     have h1:=hr.out.1;rw[G]at h1
     cases h1 with
     | root h=>exact .inl ⟨h,rfl⟩
     | step h k=>exact .inr ⟨_,h,k⟩)
    have HG:=AA (show gk=P.length+1 by rw[hr.out.2,G];rfl);clear hy hR an ao C ad H G ap hr hj;rcases HR.out with⟨hp,hn⟩ | ⟨y,hp,hn⟩
    ·rw[show pOf (trE E) a f=BW by unfold pOf;rw[hp];rfl,hp]at I;have HN:=AA hn;clear hp hn
     gi_wp2_with (refine⟨trivial,?_⟩;gi_at_call 34;refine(callsIn_wide.2 I).mono ?_;rintro e w' ⟨rfl,aa⟩;obtain rfl:=aa.symm)
     go_roundg 0
     case measure=>have:=HG.out;omega
     case rel=>exact⟨pre++ [f],P,_,rfl,ac,K,ab,.inl ⟨AA ⟨HN.out,rfl⟩,rfl⟩⟩
    ·rw[show pOf (trE E) a f=y by unfold pOf;rw[hp];rfl,hp]at I;have HN:=AA hn;clear hp hn
     gi_wp2_with (refine⟨trivial,?_⟩;gi_at_call 34;refine(callsIn_wide.2 I).mono ?_;rintro e w' ⟨rfl,aa⟩;obtain rfl:=aa.symm)
     go_roundg P.length
     case measure=>have:=HG.out;omega
     case rel=>exact⟨pre++ [f],P,y,rfl,ac,K,ab,.inr ⟨AA ⟨HN.out,rfl⟩,rfl⟩⟩
   ·have HQ:=AA (show∃pre,pre <+:ys/\Jx pre W3 from⟨pre++ [f],⟨P,by rw[H.out,G];simp⟩,am⟩);clear hy hR
    gi_wp2
    first
    | refine A7 (results_none rfl _ _ _) rfl ?_
    | go_end0
    exact⟨⟨_,rfl⟩,.inr HQ.out⟩
set_option maxRecDepth 100000 in
set_option maxHeartbeats 2000000 in
theorem q_AppSeq{gf:Nat}{lb:Array Value}{ys:List Nm}(eg:∀args w,(callFunc gf args).run AB w= .ok (.enter gf args) w)(hl:ys.length<=1000)
  (V:∀(n:Nat)(w1:World),1<=n->mBw w w1->SeqStopsK Cd n AB gf lb (λz:Nm=> #[Bb z]) (Kb w.heap.size O) (λzs=>zs=ys) (λpre=>pre <+:ys) ys.length w1):
  AC AB 205 #[.slice none 0 0,.func (.func gf) #[] lb] w λe w'=>∃v,e= .returned v/\aZ w' w.heap.size v ys/\mBw w w':=by
 refine(callsIn_wide (n:=3)).1 ?_;have h1:(1:Nat)<=3:=it
 have ar:(1000:Nat)<=maxLen:=by unfold maxLen;omega
 obtain⟨i0,hi,ad,ak,am⟩:=DF (show(AB.info? 9).map (λi=>(i.zero,i.size,i.bytes))=some (some (.string BW),1,16)by kernel_rfl);refine callsIn_of_wp_marks Tryz.func205 rfl trivial ?_ rfl;simp only[Tryz.ntmps205,Cb,Bg,Dk,Nat.reduceAdd,Nat.reduceSub,Array.replicate_succ,Array.replicate_zero,List.push_toArray,List.append_toArray,C8,Dw]
 gi_wp2
 have bO:=Boxed.new w 68 (.slice none 0 0);have J:mBw w (w.alloc (.cells #[.slice none 0 0] 68)):=(AF _ w).alloc (AE _) _;refine wpIn_rangeFunc_ownG (F:=Cd) (n:=3) rfl h1 (gf:=gf) (lb:=lb) rfl trivial eg
  (V 2 _ it J) (λ{_ _ _} h k=>h.trans k) (kb_b Ad) (AF _ _) (λ_=>rfl)
  (λpre W=>(∃v,Boxed W w.heap.size 68 v/\W.ownsRow w.heap.size 9 1 v pre.length (pre.map Bb)/\True)/\mBw w W)
  (λ_ _ _=>False)
  (OwnFrom.and (Own.from (holdsRow_own w.heap.size w.heap.size 68 9 1 (λpre:List Nm=>pre.length) (λpre=>pre.map Bb) (λ_ _=>True)) _) (ownFrom_below (AE _) Ad))
  (λ_ _ _ _ _ hs _ _=>hs)
  ⟨⟨_,bO,Dv _ _ _ _,trivial⟩,J⟩
  (λx=> {tmps:=#[.slice none 0 0,.func (.func gf) #[] lb,.pointer (some ⟨w.heap.size,0,none⟩),undef,.slice none 0 0,.string x,.func (.func gf) #[] lb,.string x,undef,undef,undef,undef,undef],defers:=[]}) ?assign ?body ?done ?stop
 case assign=>
  intro l x W K P
  gi_wp2
  exact P
 case body=>
  rintro l pre x W ⟨⟨v,Z,C,_⟩,I⟩ aq;have hc:=Z.cell
  gi_wp2_with (gi_at_builtin;refine wpListIn_append_own _ rfl _ _ 68 rfl w.heap.size 9 i0 (.string BW) 1 16 DE hi ad ak am rfl it _ _ _ rfl (C.alloc _) ⟨W.heap.size,0,none⟩ 1 1 [.string x] rfl rfl (cell_one_new _ _ _) (by simp[Value.oneCell']) no no (by have:=I.size;simp;omega) ?_;intro v' w1 G H _;obtain⟨g',an,rfl⟩:=ownsRow_succ G;obtain⟨Y,ac,ab,aa,U⟩:=Z.appended it C I.size (AE _) G H;have ao:=Y.cell;have ap:=Y.frozen)
  exact⟨aa.from _,.below U,⟨_,ac,by simpa using ab,trivial⟩,I.trans U⟩
 case done=>
  rintro D zs W hD rfl ⟨⟨v,Z,C,_⟩,I⟩ P;have hc:=Z.cell
  gi_wp2
  refine⟨Ad,.inl ⟨_,_,rfl,run_takeDeferred P,?_⟩⟩;exact⟨_,results_tmp rfl _ _ _,v,rfl,ownsRow_putObj C _ P rfl,I.trans (belowK_b (w:=w) (AE _) W D _ _ (by simp at hD;omega) P rfl rfl)⟩
 case stop=>
  rintro D c pre W _ _ h _;exact h.elim
end
section
open Go.RowKit Go.Sort Go.Shelf
def Tryz.sortI_ren:Go.Shelf.Ren:=⟨λ| 5=>109 | 8=>174 | 7=>173 | 19=>232 | 20=>233 | 10=>223 | 11=>224 | 12=>225 | 13=>226 | 14=>227 | 15=>228 | 16=>229 | 17=>230 | 18=>231 | 30=>273 | 31=>274 | 32=>275 | 33=>276 | 34=>277 | 35=>278 | 40=>300 | n=>n,λ| 23=>171 | 25=>3 | 3=>3 | 32=>234 | 22=>171 | 0=>0 | 44=>237 | 46=>178 | 4=>4 | 36=>273 | 35=>272 | 41=>277 | 5=>5 | 9=>9 | 53=>299 | 57=>303 | 63=>309 | 64=>310 | n=>n,λ| n=>n⟩
theorem Tryz.sortI:Go.Proofs.SlLaysM.n5 AB Tryz.sortI_ren:= {
 mixed:=Aa
 f5:=⟨Tryz.f109.name,it,Tryz.func109.trans (congrArg some Aa)⟩
 f7:=⟨Tryz.f173.name,it,Tryz.func173.trans (congrArg some Aa)⟩
 f8:=Tryz.func174.trans (congrArg some Aa)
 f10:=⟨Tryz.f223.name,it,Tryz.func223.trans (congrArg some Aa)⟩
 f11:=⟨Tryz.f224.name,it,Tryz.func224.trans (congrArg some Aa)⟩
 f12:=⟨Tryz.f225.name,it,Tryz.func225.trans (congrArg some Aa)⟩
 f13:=⟨Tryz.f226.name,it,Tryz.func226.trans (congrArg some Aa)⟩
 f14:=⟨Tryz.f227.name,it,Tryz.func227.trans (congrArg some Aa)⟩
 f15:=⟨Tryz.f228.name,it,Tryz.func228.trans (congrArg some Aa)⟩
 f16:=⟨Tryz.f229.name,it,Tryz.func229.trans (congrArg some Aa)⟩
 f17:=⟨Tryz.f230.name,it,Tryz.func230.trans (congrArg some Aa)⟩
 f18:=⟨Tryz.f231.name,it,Tryz.func231.trans (congrArg some Aa)⟩
 f19:=Tryz.func232.trans (congrArg some Aa)
 f20:=Tryz.func233.trans (congrArg some Aa)
 f30:=⟨Tryz.f273.name,it,Tryz.func273.trans (congrArg some Aa)⟩
 f31:=Tryz.func274.trans (congrArg some Aa)
 f32:=Tryz.func275.trans (congrArg some Aa)
 f33:=⟨Tryz.f276.name,it,Tryz.func276.trans (congrArg some Aa)⟩
 f34:=⟨Tryz.f277.name,it,Tryz.func277.trans (congrArg some Aa)⟩
 f35:=⟨Tryz.f278.name,it,Tryz.func278.trans (congrArg some Aa)⟩
 f40:=⟨Tryz.f300.name,it,Tryz.func300.trans (congrArg some Aa)⟩
 t0:=Fl
 a0:=Tryz.isAgg0
 z0:=Tryz.sizeOf0
 v0:=Fm
 t3:=Dj
 a3:=Tryz.isAgg3
 z3:=Tryz.sizeOf3
 v3:=Tryz.zeroValue3
 t4:=Ek
 a4:=Tryz.isAgg4
 z4:=Tryz.sizeOf4
 v4:=FI
 t5:=Tryz.underlying5
 a5:=Tryz.isAgg5
 z5:=Tryz.sizeOf5
 v5:=Tryz.zeroValue5
 t9:=DC
 a9:=Tryz.isAgg9
 z9:=Tryz.sizeOf9
 v9:=Tryz.zeroValue9
 t22:=Tryz.underlying171
 a22:=Tryz.isAgg171
 z22:=Tryz.sizeOf171
 v22:=Tryz.zeroValue171
 t23:=Tryz.underlying171
 a23:=Tryz.isAgg171
 z23:=Tryz.sizeOf171
 v23:=Tryz.zeroValue171
 t25:=Dj
 a25:=Tryz.isAgg3
 z25:=Tryz.sizeOf3
 v25:=Tryz.zeroValue3
 t32:=Tryz.underlying234
 a32:=Tryz.isAgg234
 z32:=Tryz.sizeOf234
 v32:=Tryz.zeroValue234
 t35:=Tryz.underlying272
 a35:=Tryz.isAgg272
 z35:=Tryz.sizeOf272
 v35:=Tryz.zeroValue272
 t36:=Tryz.underlying273
 a36:=Tryz.isAgg273
 z36:=Tryz.sizeOf273
 v36:=Tryz.zeroValue273
 t41:=Tryz.underlying277
 a41:=Tryz.isAgg277
 z41:=Tryz.sizeOf277
 v41:=Tryz.zeroValue277
 t44:=Tryz.underlying237
 a44:=Tryz.isAgg237
 z44:=Tryz.sizeOf237
 v44:=Tryz.zeroValue237
 t46:=Tryz.underlying178
 a46:=Tryz.isAgg178
 z46:=Tryz.sizeOf178
 v46:=Tryz.zeroValue178
 t53:=Tryz.underlying299
 a53:=Tryz.isAgg299
 z53:=Tryz.sizeOf299
 v53:=Tryz.zeroValue299
 t57:=Tryz.underlying303
 a57:=Tryz.isAgg303
 z57:=Tryz.sizeOf303
 v57:=Tryz.zeroValue303
 t63:=Tryz.underlying309
 a63:=Tryz.isAgg309
 z63:=Tryz.sizeOf309
 v63:=Tryz.zeroValue309
 t64:=Tryz.underlying310
 a64:=Tryz.isAgg310
 z64:=Tryz.sizeOf310
 v64:=Tryz.zeroValue310}
def Tryz.cmpI_ren:Go.Shelf.Ren:=⟨λ| 20=>111 | n=>n,λ| 22=>171 | 3=>3 | 4=>4 | 0=>0 | n=>n,λ| n=>n⟩
theorem Tryz.cmpI:Go.Proofs.Lays2.n20 AB Tryz.cmpI_ren:= {
 mixed:=Aa
 f20:=Tryz.func111.trans (congrArg some Aa)
 t0:=Fl
 a0:=Tryz.isAgg0
 z0:=Tryz.sizeOf0
 v0:=Fm
 t3:=Dj
 a3:=Tryz.isAgg3
 z3:=Tryz.sizeOf3
 v3:=Tryz.zeroValue3
 t4:=Ek
 a4:=Tryz.isAgg4
 z4:=Tryz.sizeOf4
 v4:=FI
 t22:=Tryz.underlying171
 a22:=Tryz.isAgg171
 z22:=Tryz.sizeOf171
 v22:=Tryz.zeroValue171
 i3:=by kernel_rfl}
abbrev jm(w:World)(b:Nat)(v:Value)(xs:List Int):Prop:=w.ownsRow b 3 1 v xs.length (xs.map (AK .i64))
variable{w:World}
theorem xf{g q:Nat}(d:Array Int):w.grownBy (putRow (AK .i64) (Sort.ahead w q) g 0 d) (some g):=by
 refine⟨rfl,rfl,rfl,by simp[putRow,mapBlock,Sort.ahead],λk F C=> ?_⟩;have:g≠k:=λe=>C (by rw[e])
 simp[putRow,mapBlock,Sort.ahead,Array.getElem?_modify,this]
abbrev srt(xs:List Int):List Int:=xs.mergeSort λx y=>decide (x<=y)
theorem q_SortI{b:Nat}{v:Value}{xs:List Int}(h:jm w b v xs)(U:v≠ .slice none 0 0)(hl:xs.length<=100000):
  AC AB 109 #[v] w λe w'=>e= .returned (.tuple #[])/\jm w' b v (srt xs)/\w.grownBy w' v.ownBlock:=by
 obtain⟨g,cap,rfl,hb,P,hn,Z,_,K⟩:=Lib.holds_of_ownsRow h U;refine(AnyM.slices_Sort_int Tryz.sortI g 0 cap xs w K P no).mono ?_;rintro e w' ⟨rfl,n,os,rfl⟩;refine⟨rfl,?_,grownBy_sortedI _⟩;rcases h.2 with⟨h0,_⟩ | ⟨V,G,cur,C,h1,h2,h3,I,J,Y⟩
 ·cases h0
 ·injection C with C _ H;injection C with C;injection C with C;subst C;subst H;have F:(srt xs).length=xs.length:=List.length_mergeSort xs;have:=ownsRow_sortedI (n:=n) (os:=os) (ts:=srt xs) F h1 h2 h3 I J;unfold jm;rw[F];exact this
theorem zF{b:Nat}{v:Value}{xs:List Int}(h:jm w b v xs)(G:v≠ .slice none 0 0)(hl:xs.length<=100000):
  AC AB 111 #[v] w λe w'=>∃v',e= .returned v'/\jm w' b v' (Lib.compact xs)/\v'.ownBlock=v.ownBlock/\v'≠ .slice none 0 0/\w.grownBy w' v.ownBlock:=by
 obtain⟨g,cap,rfl,hb,H,hn,I,_,F⟩:=Lib.holds_of_ownsRow h G;refine(Any.slices_Compact_int Tryz.cmpI g 0 cap xs w F no hn).mono ?_;rintro e w' ⟨rfl,q,rfl⟩;have C:=Lib.compact_length_le xs;refine⟨_,rfl,?_,rfl,(λe=>by cases e),xf _⟩;have hc:=Lib.ownsRow_putRow (q:=q) (k:=(Lib.compact xs).length) (ys:=Lib.compact xs++List.replicate (xs.length - (Lib.compact xs).length) 0) h (by simp;omega) C;rw[List.take_left]at hc;exact hc
theorem jZ(xs:List Int):(Lib.compact xs).Sublist xs:=by
 unfold Lib.compact Lib.compactUpTo;have h:=(List.filter_sublist (p:=Lib.keeps xs.toArray) (l:=Bj xs.length)).map (xs.toArray[·]!);have e:=Lib.range_map_get xs.toArray;simp only[Cb]at e;rw[e]at h;simpa using h
theorem xg(xs:List Int)(x:Int):x∈Lib.compact xs↔x∈xs:=by
 refine⟨λh=>(jZ xs).mem h,λh=> ?_⟩;obtain⟨j,C,rfl⟩:=BK h;have key:∀j,j<xs.length->xs.toArray[j]! ∈Lib.compact xs:=by
  intro j
  induction j with
  | zero=>
   intro C;exact Ba.2 ⟨0,E6.2 ⟨C4.2 C,by simp[Lib.keeps]⟩,rfl⟩
  | succ j ih=>
   intro C;by_cases hk:Lib.keeps xs.toArray (j+1)=true
   ·exact Ba.2 ⟨j+1,E6.2 ⟨C4.2 C,hk⟩,rfl⟩
   ·have e:xs.toArray[j+1]! =xs.toArray[j]! :=by
     unfold Lib.keeps at hk;simp only[decide_eq_true_eq,not_or,ne_eq,Decidable.not_not]at hk;simpa using hk.2
    rw[e];exact ih no
 have:=key j C;simpa [getElem!_pos,C]using this
theorem cs_asc(xs:List Int):(Lib.compact (srt xs)).Pairwise (· <= ·):=by
 have h:=List.pairwise_mergeSort (le:=λ(x y:Int)=>decide (x<=y)) (λa b c h k=>by simp at *;omega) (λa b=>by simp;omega) xs;exact((h.imp (λh=>Au)).sublist (jZ _))
theorem cs_mem(xs:List Int)(x:Int):x∈Lib.compact (srt xs)↔x∈xs:=by rw[xg,List.mem_mergeSort]
theorem cs_len(xs:List Int):(Lib.compact (srt xs)).length<=xs.length:=by
 have:=(jZ (srt xs)).length_le;rwa [List.length_mergeSort]at this
theorem zG(w:World)(a:Option Addr)(n c:Nat):AC AB 110 #[.slice a n c] w λe w'=>e= .returned (.func (.func 175) #[] #[.pointer (some ⟨w.heap.size,0,none⟩)])/\w'=w.alloc (.cells #[.slice a n c] 171):=by
 go_enter Tryz.func110,Tryz.ntmps110
 go_wp2;go_ret;exact Ai
theorem range_rev(k:Nat):(Bj (k+1)).reverse=k::(Bj k).reverse:=by rw[List.range_succ,List.reverse_append];rfl
set_option maxHeartbeats 1000000 in
theorem bw_stops(n:Nat)(hn:1<=n){zs:List Int}{cap g:Nat}{O B1:Nat}(C:B1<w.heap.size/\B1≠O)(hg:g<w.heap.size/\g≠O)(hl:zs.length<=1000000)
  (c1:w.cell? ⟨B1,0,none⟩=some (.slice (some ⟨g,0,none⟩) zs.length cap))(hc:∀(k:Nat)(z:Int),zs[k]? =some z->w.cell? ⟨g,k,none⟩=some (.int .i64 z)):
  SeqStopsK Cd n AB 175 #[.pointer (some ⟨B1,0,none⟩)] (λk:Nat=> #[AK .i64 (k:Int),AK .i64 (zs.getD k 0)]) (Kb w.heap.size O) (λys=>ys=(Bj zs.length).reverse) (λpre=>pre <+:(Bj zs.length).reverse) zs.length w:=λl J Jx W hW hJ ao hY h0=>by
 have K:Kb w.heap.size O w W:=Kb.below hW;have an:W.cell? ⟨B1,0,none⟩=some (.slice (some ⟨g,0,none⟩) zs.length cap):=by rw[K.cell C.1 C.2];exact c1
 have P:=AA (show∀wq,Kb w.heap.size O w wq->wq.cell? ⟨B1,0,none⟩=some (.slice (some ⟨g,0,none⟩) zs.length cap)from λwq k=>by rw[k.cell C.1 C.2];exact c1);have HC:=AA (show∀wq,Kb w.heap.size O w wq->∀(k:Nat),k<zs.length->wq.cell? ⟨g,k,none⟩=some (.int .i64 (zs.getD k 0))from λwq k i hi=>by
  rw[k.cell hg.1 hg.2];exact hc i _ (by rw[List.getD_eq_getElem?_getD,AJ hi];rfl))
 have am:=AA K;have H0:=AA h0;have HY:=AA hY;obtain⟨N,hN⟩:∃N,N=zs.length:=⟨_,rfl⟩;rw[<-hN]at P HC HY hl an⊢;have au:(N:Int)<=1000000:=no
 have av:Be.wrap ((N:Int) - 1)=(N:Int) - 1:=by rw[Ci];omega
 clear C hg c1 hc K hW h0 hJ ao hY hN;refine callsIn_of_wp Tryz.func175 rfl trivial ?_ rfl;simp only[Tryz.ntmps175,Cb,Bg,Dk,Nat.reduceAdd,Nat.reduceSub,Array.replicate_succ,Array.replicate_zero,List.push_toArray,List.append_toArray,C8,Dw]
 gi_wp2
 gi_loopg [3] N (λk s3 wr=>∃(pre:List Nat)(j:Int),s3= .int .i64 j/\Hid (j=(k:Int) - 1/\k<=N)/\Hid ((Bj N).reverse=pre++(Bj k).reverse)/\Hid (Kb w.heap.size O w wr)/\Hid (J pre wr))
 case atStart=>exact⟨[],_,rfl,AA ⟨rfl,AE _⟩,AA rfl,am,H0⟩
 case round=>
  obtain⟨pre,j,rfl,F,H,G,hj⟩:=hrel;rcases Nat.eq_zero_or_pos gk with h0 | ac
  ·subst h0;obtain rfl:j= -1:=by have:=F.out.1;omega
   have hq:=AA (show(∃v,BF (.tuple #[])= .returned v)/\((∃zs,zs=(Bj N).reverse/\J zs wr)\/(∃pre,pre <+:(Bj N).reverse/\Jx pre wr))from⟨⟨_,rfl⟩,.inl ⟨pre,by rw[H.out];simp,hj.out⟩⟩)
   gi_wp2
   go_end0
   exact⟨⟨_,rfl⟩,hq.out.2⟩
  ·obtain⟨i,rfl⟩:∃i,gk=i+1:=⟨gk - 1,no⟩;obtain rfl:j=(i:Int):=by have:=F.out.1;omega
   have I:i<N:=by have:=F.out.2;omega
   have ab:pre.length<N:=by
    have:=congrArg List.length H.out;simp at this;omega
   have c1:=P.out wr G.out;have c2:=HC.out wr G.out i I;have aq:(0:Int)<=(i:Int):=no
   have ar:(i:Int)<(N:Int):=no
   have ax:Be.wrap ((i:Int) - 1)=(i:Int) - 1:=by rw[Ci];omega
   obtain⟨fn,tmps,ad,ap,hy,hR⟩:=HY.out pre i wr hj.out ab;have V:=AA (show(Bj N).reverse=(pre++ [i])++(Bj i).reverse by rw[H.out,range_rev];simp);have HI:=AA I;obtain⟨z,hz⟩:∃z,zs.getD i 0=z:=⟨_,rfl⟩;rw[hz]at hy c2;clear H F ac ab I hj hz
   gi_wp2
   refine hR.mono ?_;rintro e W3 (⟨rfl,Y,aa⟩ | ⟨rfl,Z⟩)
   ·have U:=AA (G.out.trans aa);have ak:=AA Y;clear hy hR aa G Y
    gi_wp2
    go_roundg i
    case measure=>omega
    case rel=>exact⟨pre++ [i],_,rfl,AA ⟨rfl,by have:=HI.out;omega⟩,V,U,ak⟩
   ·have HQ:=AA (show∃pre,pre <+:(Bj N).reverse/\Jx pre W3 from⟨pre++ [i],⟨_,V.out.symm⟩,Z⟩);clear hy hR
    gi_wp2
    first
    | refine A7 (results_none rfl _ _ _) rfl ?_
    | go_end0
    exact⟨⟨_,rfl⟩,.inr HQ.out⟩
end
section
open Go.RowKit Go.Shelf
open Classical
attribute [local go_sem] Oper.semAt_some
variable{w:World}{lb:Array Value}
theorem q_Collect{gf:Nat}{O:Nat}{ys:List Nm}(H:∀args w,(callFunc gf args).run AB w= .ok (.enter gf args) w)(hl:ys.length<=1000)
  (F:∀(n:Nat)(I:World),1<=n->mBw w I->SeqStopsK Cd n AB gf lb (λz:Nm=> #[Bb z]) (Kb w.heap.size O) (λzs=>zs=ys) (λpre=>pre <+:ys) ys.length I):
  AC AB 150 #[.func (.func gf) #[] lb] w λe w'=>∃v,e= .returned v/\aZ w' w.heap.size v ys/\mBw w w':=by
 have has:=q_AppSeq H hl F;clear F H;go_enter Tryz.func150,Tryz.ntmps150
 go_wp2_with (go_at_call 205;refine has.mono ?_;rintro e J ⟨v,rfl,C,hb⟩;have G:=AA (By C hb);clear C hb)
 go_ret;exact⟨_,rfl,G.out.1,G.out.2⟩
theorem SeqStopsK.later{α:Type}{F:Fence}{n:Nat}{P:AW}{g:Nat}{C:α->Array Value}{Kp:World->World->Prop}{S Sp:List α->Prop}{N:Nat}{w':World}
  (h:SeqStopsK F n P g lb C Kp S Sp N w)(hb:Bi w.heap.size w w'):SeqStopsK F n P g lb C Kp S Sp N w':=λl J H W K I G U h0=>h l J H W (hb.trans (K.mono hb.size)) I G U h0
theorem eV{P:AW}{fn:Func}{p q:Tmp}{tp tq:TypeId}(h:fn.results=#[.cell p tp,.cell q tq])(tmps:Array Value)(w:World){a b:Addr}{u v:Value}
  (hp:tmps.getD p undef= .pointer (some a))(C:tmps.getD q undef= .pointer (some b))(F:(loadVar tp a).run P w= .ok u w)(G:(loadVar tq b).run P w= .ok v w):(results fn tmps).run P w= .ok (.tuple #[u,v]) w:=by
 have hp:tmps[p]?.getD undef= .pointer (some a):=by simpa using hp
 have C:tmps[q]?.getD undef= .pointer (some b):=by simpa using C
 simp only[results,h];simp[AH,AQ,hp,C,asAddr,F,G]
theorem cX{T:TypeId}{d:TypeDesc}{a:Addr}{v:Value}(F:AB.underlying T=some d)(ha:(match d with | .struct _ | .array _ _=>true | _=>false)=false)(h:w.cell? a=some v):(loadVar T a).run AB w= .ok v w:=by
 have C:(isAgg T).run AB w= .ok false w:=by
  unfold isAgg;rw[AH,run_underlying F];cases d<;>simp_all
 simp[loadVar,AH,C,h,AQ,go_sem]
abbrev ancB(B:Nat):Array Value:=#[.pointer (some ⟨B+1,0,none⟩),.pointer (some ⟨B,0,none⟩),.pointer (some ⟨B+2,0,none⟩)]
abbrev kJ(w:World)(t:Nat)(x:Nm)(a:Int):World:=((w.alloc (.cells #[ptB t] 24)).alloc (.cells #[.string x] 9)).alloc (.cells #[.int .i64 a] 3)
theorem jn(w:World)(t:Nat)(x:Nm)(a:Int):mBw w (kJ w t x a):=(((AF _ w).alloc (AE _) _).alloc Ad _).alloc (by simp;omega) _
theorem kA(w:World)(t:Nat)(x:Nm)(a:Int):(kJ w t x a).heap.size=w.heap.size+3:=by simp[kJ]
theorem zH(w:World)(t:Nat)(x:Nm)(a:Int):(kJ w t x a).cell? ⟨w.heap.size,0,none⟩=some (ptB t)/\(kJ w t x a).cell? ⟨w.heap.size+1,0,none⟩=some (.string x)/\(kJ w t x a).cell? ⟨w.heap.size+2,0,none⟩=some (.int .i64 a):=by
 have h0:=Bm w (.cells #[ptB t] 24);have h1:=Bm (w.alloc (.cells #[ptB t] 24)) (.cells #[.string x] 9);have h2:=Bm ((w.alloc (.cells #[ptB t] 24)).alloc (.cells #[.string x] 9)) (.cells #[.int .i64 a] 3);simp only[Cr]at h1 h2;refine⟨?_,?_,?_⟩
 ·rw[aH ((Fo _ _ w.heap.size (by simp;omega)).trans ((Fo _ _ w.heap.size Ad).trans h0))];rfl
 ·rw[aH ((Fo _ _ (w.heap.size+1) Ad).trans h1)];rfl
 ·rw[aH h2];rfl
theorem ua{t m:Nat}{E:List Ch}{x:Nm}{a:Int}{ys:List Nm}{O:Nat}(K:TM w t m E)(J:O∉fpT t m E)(G:bw w O)(I:Anc (trE E) a x ys)(n:Nat)(H:World)(hn:1<=n)(hb:Bi (kJ w t x a).heap.size (kJ w t x a) H):
  SeqStopsK Cd n AB 221 (ancB w.heap.size) (λz:Nm=> #[Bb z]) (Kb (kJ w t x a).heap.size O) (λzs=>zs=ys) (λpre=>pre <+:ys) ys.length H:=by
 have hc:=zH w t x a;have hs:=kA w t x a;have C:=jn w t x a;have F:O<w.heap.size:=G.1;exact SeqStopsK.later (anc_stops n hn (K.below C) J (G.blk (C.block O F) C.size) ⟨no,no⟩ ⟨no,no⟩ ⟨no,no⟩ hc.2.1 hc.1 hc.2.2 I) hb
noncomputable def fv(l l':List Nm):Option Nm:=l.find? λz=>decide (z∈l')
theorem zI:∀args w,(callFunc 221 args).run AB w= .ok (.enter 221 args) w:=ah Tryz.func221 Aa rfl
set_option maxRecDepth 100000 in
set_option maxHeartbeats 2000000 in
theorem q_common{t m:Nat}{E:List Ch}{x y:Nm}{a:Int}{lx G:List Nm}(hT:TM w t m E)(hx:Anc (trE E) a x lx)(hy:Anc (trE E) a y G)(h1:lx.length<=1000)(h2:G.length<=1000):
  AC AB 129 #[ptB t,.string x,.string y,.int .i64 a] w λe w'=>e= .returned (.tuple #[.string ((fv lx G).getD BW),.bool (fv lx G).isSome])/\Bi w.heap.size w w':=by
 refine(callsIn_wide (n:=3)).1 ?_;have h3:(1:Nat)<=3:=it
 have H:=Boxed.new w 9 (.string ⟨#[]⟩);have I:=Boxed.new (w.alloc (.cells #[.string ⟨#[]⟩] 9)) 4 (.bool false);have ax:Bi w.heap.size w ((w.alloc (.cells #[.string ⟨#[]⟩] 9)).alloc (.cells #[.bool false] 4)):=((AF _ w).alloc (AE _) _).alloc Ad _;rw[Cr]at I;have H:=H.alloc (.cells #[.bool false] 4);have ar:((w.alloc (.cells #[.string ⟨#[]⟩] 9)).alloc (.cells #[.bool false] 4)).heap.size=w.heap.size+2:=Ad
 obtain⟨V,cc⟩:∃V,(w.alloc (.cells #[.string ⟨#[]⟩] 9)).alloc (.cells #[.bool false] 4)=V:=⟨_,rfl⟩;rw[cc]at H I ax ar;have ca:=hT.below ax;have bp:w.heap.size∉fpT t m E:=λhm=>by have:=hT.lt _ hm;omega
 have cl:bw V w.heap.size:=.mk' (show V.heap[w.heap.size]? =some (.cells #[.string ⟨#[]⟩] 9 (0,0))from H) (λk n hk=>by cases k<;>simp at hk);have cm:=zE V t y a;have cp:=q_Collect (w:=kJ V t y a) (O:=w.heap.size) zI h2 (λn w1 hn hb=>ua ca bp cl hy n w1 hn hb);refine callsIn_of_wp_marks Tryz.func129 rfl trivial ?_ rfl;simp only[Tryz.ntmps129,Cb,Bg,Dk,Nat.reduceAdd,Nat.reduceSub,Array.replicate_succ,Array.replicate_zero,List.push_toArray,List.append_toArray,C8,Dw];have bz:=AA ar;have HT:=AA hT;have HX:=AA hx;have a5:=AA ax;have a9:=AA (By H I);have bt:=AA bp;clear hT ax ca bp cl hx hy ar H I
 gi_wp2_with (first
  | (refine⟨trivial,?_⟩;gi_at_call 171;refine(callsIn_wide.2 cm).mono ?_;clear cm;rintro e w' ⟨B,rfl,rfl,rfl⟩)
  | (refine⟨trivial,?_⟩;gi_at_call 150;refine(callsIn_wide.2 cp).mono ?_;clear cp;rintro e W3 ⟨v,rfl,aq,hb⟩;obtain⟨J,P,rfl⟩:=cL aq;have HR:=AA aq;have a6:=AA hb;clear aq hb;have a2:=λw=>zE w t x a)
  | (refine⟨trivial,?_⟩;gi_at_call 171;refine(callsIn_wide.2 (a2 _)).mono ?_;clear a2;rintro e w' ⟨B,rfl,rfl,rfl⟩))
 clear cc;obtain⟨Z,am⟩:∃Z,W3.alloc (.cells #[.slice J G.length P] 68)=Z:=⟨_,rfl⟩;have cx:Z.heap.size=W3.heap.size+1:=by rw[<-am];exact asz _ _
 have c4:=kA V t y a;have bi:=jn V t y a;have ar:=bz.out;have c3:=a6.out.size;have ao:Bi V.heap.size V W3:=bi.trans (a6.out.mono bi.size);have ap:Bi W3.heap.size W3 Z:=by rw[<-am];exact(AF _ _).alloc (AE _) _
 have ad:Bi V.heap.size V Z:=ao.trans (ap.mono ao.size);have ac:Bi w.heap.size w Z:=a5.out.trans (ad.mono a5.out.size);have cb:=HT.out.below ac;have h8:Z.heap[w.heap.size]? =some (.cells #[.string ⟨#[]⟩] 9 (0,0)):=(ad.block _ no).trans a9.out.1;have h9:Z.heap[w.heap.size+1]? =some (.cells #[.bool false] 4 (0,0)):=(ad.block _ no).trans a9.out.2;have cd:bw Z w.heap.size:=.mk' h8 (λk n hk=>by cases k<;>simp at hk);have b2:Z.heap[W3.heap.size]? =some (.cells #[.slice J G.length P] 68 (0,0)):=by rw[<-am];exact Bm W3 _
 have ab:aZ Z (kJ V t y a).heap.size (.slice J G.length P) G:=eh HR.out (λg Y=>ap.block g (bV HR.out Y).2);have av:=ua cb bt.out cd HX.out 2 _ it (AF _ _);have cz:=kA Z t x a;have aa:=jn Z t x a;rw[cx]at av cz;obtain⟨WA,be⟩:∃WA,kJ Z t x a=WA:=⟨_,rfl⟩;rw[be]at av cz aa;rw[am]
 change Code.wpIn _ _ _ _ _ _ (kJ Z t x a)
 rw[be];have g8:Boxed WA w.heap.size 9 (.string ⟨#[]⟩):=(aa.block _ no).trans h8;have g9:Boxed WA (w.heap.size+1) 4 (.bool false):=(aa.block _ no).trans h9;have b1:Boxed WA W3.heap.size 68 (.slice J G.length P):=(aa.block _ no).trans b2;have ak:aZ WA (kJ V t y a).heap.size (.slice J G.length P) G:=eh ab (λg Y=>aa.block g (bV ab Y).2);have an:Bi w.heap.size w WA:=ac.trans (aa.mono ac.size);have cq:=an.size;have a1:=AA ak;have a0:=AA an;have H8:=AA g8;have H9:=AA g9;have c1:=AA b1;have c5:W3.heap.size<WA.heap.size:=no
 have da:w.heap.size+1<W3.heap.size:=no
 clear be am cx c4 bi ar c3 ao ap ad ac cb h8 h9 cd b2 ab aa g8 g9 b1 ak an HR a6 bz HT a5 a9 bt;refine wpIn_rangeFunc_ownG (F:=Cd) (n:=3) rfl h3 (gf:=221) (lb:=ancB (W3.heap.size+1)) rfl trivial zI
  av (λ{_ _ _} h k=>h.trans k) (kb_b no) (AF _ _) (λ_=>rfl)
  (λpre W=>(∀z∈pre,z∉G)/\Bi WA.heap.size WA W)
  (λc pre W=>(c= .ret/\∃U z,pre=U++ [z]/\(∀u∈U,u∉G)/\z∈G/\Boxed W w.heap.size 9 (.string z)/\Boxed W (w.heap.size+1) 4 (.bool true))/\Bi w.heap.size w W/\WA.heap.size<=W.heap.size)
  (OwnFrom.and (ownFrom_pure _ _) (ownFrom_below (AE _) (AE _)))
  (λc s W W' row hs Y hr=>⟨⟨hs.1.1,by
   obtain⟨U,z,k1,k2,k3,k4,k5⟩:=hs.1.2;exact⟨U,z,k1,k2,k3,k4.kept Y (λe=>by have:=(hr _ e.symm).1;omega),k5.kept Y (λe=>by have:=(hr _ e.symm).1;omega)⟩⟩,hs.2.1.grown Y (by have:=hs.2.2;omega) (λk e=>by have:=(hr _ e).1;omega),AD hs.2.2 Y.size⟩)
  ⟨λ_ h=>(by cases h),AF _ _⟩
  (λz=> {tmps:=#[ptB t,.string x,.string y,.int .i64 a,undef,undef,undef,undef,.pointer (some ⟨w.heap.size,0,none⟩),.pointer (some ⟨w.heap.size+1,0,none⟩),.pointer (some ⟨W3.heap.size,0,none⟩),.string z,ptB t,.string y,.int .i64 a,.func (.func 221) #[] (ancB V.heap.size),.slice J G.length P,ptB t,.string x,.int .i64 a,.func (.func 221) #[] (ancB (W3.heap.size+1)),.string z,undef,undef,undef,undef],defers:=[]}) ?assign ?body ?done ?stop
 case assign=>
  intro l z W K hK
  gi_wp2
  exact hK
 case body=>
  rintro l pre z W ⟨C,hB⟩ c2;have cv:aZ W (kJ V t y a).heap.size (.slice J G.length P) G:=eh a1.out (λg Y=>hB.block g (bV a1.out Y).2);have H:Boxed W w.heap.size 9 (.string ⟨#[]⟩):=(hB.block _ no).trans H8.out;have I:Boxed W (w.heap.size+1) 4 (.bool false):=(hB.block _ no).trans H9.out;have b0:Boxed W W3.heap.size 68 (.slice J G.length P):=(hB.block _ no).trans c1.out;have ay:=qB cv no z;have c8:=H.cell;have f8:=H.frozen;have c9:=I.cell;have f9:=I.frozen;have c6:=b0.cell;have B8:=AA H;have B9:=AA I;have HB:=AA hB;have HP:=AA C;clear cv b0 H I hB C c2;by_cases hz:z∈G
  ·rw[decide_eq_true hz]at ay;have HZ:=AA hz;clear hz
   gi_wp2_with (refine⟨trivial,?_⟩;gi_at_call 172;refine(CallsIn.inRound l (callsIn_wide.2 ay)).mono ?_;rintro e w' ⟨rfl,bq⟩;obtain rfl:=bq.symm)
   exact⟨((KeepsOthers.setCell _ _ _).trans (KeepsOthers.setCell _ _ _)).from _,⟨⟨rfl,pre,z,rfl,HP.out,HZ.out,(B8.out.set (.string z)).other no _,(B9.out.other no _).set _⟩,(((a0.out.trans (HB.out.mono cq)).setCell (p:=⟨w.heap.size,0,none⟩) (AE _) _).setCell (p:=⟨w.heap.size+1,0,none⟩) Ad _),by simpa using HB.out.size⟩⟩
  ·rw[decide_eq_false hz]at ay;have HZ:=AA hz;clear hz
   gi_wp2_with (refine⟨trivial,?_⟩;gi_at_call 172;refine(CallsIn.inRound l (callsIn_wide.2 ay)).mono ?_;rintro e w' ⟨rfl,bq⟩;obtain rfl:=bq.symm)
   refine⟨KeepsFrom.refl _ _,Kb.refl _ _ _,⟨λu hu=> ?_,HB.out⟩⟩;rcases AG.1 hu with h | h
   ·exact HP.out u h
   ·simp only[BD]at h;subst h;exact HZ.out
 case done=>
  rintro D zs W hD rfl ⟨C,hB⟩ hK;have H:Boxed W w.heap.size 9 (.string ⟨#[]⟩):=(hB.block _ no).trans H8.out;have I:Boxed W (w.heap.size+1) 4 (.bool false):=(hB.block _ no).trans H9.out;have c8:=H.cell;have f8:=H.frozen;have c9:=I.cell;have f9:=I.frozen;have au:=((KeepsOthers.setCell W ⟨w.heap.size,0,none⟩ (.string ⟨#[]⟩)).trans (KeepsOthers.setCell _ ⟨w.heap.size+1,0,none⟩ (.bool false))).same D _ hK rfl;have B8:=AA ((H.set (.string ⟨#[]⟩)).other (by omega:w.heap.size≠w.heap.size+1) (.bool false));have B9:=AA ((I.other (by omega:w.heap.size+1≠w.heap.size) (.string ⟨#[]⟩)).set (.bool false));have a7:=AA (((a0.out.trans (hB.mono cq)).setCell (p:=⟨w.heap.size,0,none⟩) (AE _) (.string ⟨#[]⟩)).setCell (p:=⟨w.heap.size+1,0,none⟩) Ad (.bool false));have bO:=AA au;have cn:fv zs G=none:=CW.2 (λu hu=>by simpa using C u hu);have bb:=AA cn;have c7:WA.heap.size<=((W.setCell ⟨w.heap.size,0,none⟩ (.string ⟨#[]⟩)).setCell ⟨w.heap.size+1,0,none⟩ (.bool false)).heap.size:=by simpa using hB.size
  clear H I au cn hB C
  gi_wp2
  generalize (W.setCell ⟨w.heap.size,0,none⟩ (.string ⟨#[]⟩)).setCell ⟨w.heap.size+1,0,none⟩ (.bool false)=WZ at *;refine⟨Ad,.inl ⟨_,_,rfl,run_takeDeferred bO.out,?_⟩⟩;have Y:=grownBy_putObj' WZ D (.deferred none);have a3:=B8.out.kept Y (λe=>by injection e with e;omega);have a4:=B9.out.kept Y (λe=>by injection e with e;omega);refine⟨_,eV rfl _ _ rfl rfl (cX DC rfl a3.cell) (cX Ek rfl a4.cell),by rw[bb.out];rfl,a7.out.trans (belowK_b (w:=w) (AE _) WZ D _ _ no bO.out rfl rfl)⟩
 case stop=>
  rintro D c pre W hD C ⟨⟨rfl,U,z,cu,cr,hz,H,I⟩,hB,db⟩ hK;have c8:=H.cell;have c9:=I.cell;have bb:=AA (show fv lx G=some z from by
   obtain⟨tl,rfl⟩:=C;unfold fv;rw[cu,D1,D1,CW.2 (λu hu=>by simpa using cr u hu)];simp[hz])
  have B8:=AA H;have B9:=AA I;have a7:=AA hB;clear cu cr hz H I hB C
  gi_wp2
  refine⟨Ad,.inl ⟨_,_,rfl,run_takeDeferred hK,?_⟩⟩;have Y:=grownBy_putObj' W D (.deferred none);have a3:=B8.out.kept Y (λe=>by injection e with e;omega);have a4:=B9.out.kept Y (λe=>by injection e with e;omega);refine⟨_,eV rfl _ _ rfl rfl (cX DC rfl a3.cell) (cX Ek rfl a4.cell),by rw[bb.out];rfl,a7.out.trans (belowK_b (w:=w) (AE _) W D _ _ no hK rfl rfl)⟩
end
section
open Go.RowKit Go.Shelf
open Classical
attribute [local go_sem] Oper.semAt_some
theorem zJ{W I:World}{J B:Nat}{t e:TypeId}{size:Nat}{v v':Value}{k m:Nat}{xs ys:List Value}{F:Obj}
  (hv:Boxed W B t v)(V:t≠e)(H:W.ownsRow J e size v k xs)(P:J<=W.heap.size)
  (G:I.ownsRow J e size v' m ys)(C:(W.alloc F).grownBy I v.ownBlock):
  Boxed I B t v/\Boxed (I.setCell ⟨B,0,none⟩ v') B t v'/\(I.setCell ⟨B,0,none⟩ v').ownsRow J e size v' m ys/\KeepsOthers W (I.setCell ⟨B,0,none⟩ v')/\Kb J B W (I.setCell ⟨B,0,none⟩ v'):=by
 have U:Boxed I B t v:=(hv.alloc F).kept C (hv.not_row V H);refine⟨U,U.set v',G.kept (grownBy_setCell' I B v') (.inr (U.not_row V G).symm),?_,?_⟩
 ·refine((KeepsOthers.alloc W F).trans (KeepsOthers.of_grownBy C λj o K hj=> ?_)).trans (KeepsOthers.setCell _ _ _);rcases(H.alloc F).2 with⟨rfl,_⟩ | ⟨g,cap,cur,rfl,_,Y,_⟩
  ·simp[Cx]at K
  ·obtain rfl:g=j:=by simpa [Cx]using K
   rw[Y]at hj;cases hj;rfl
 ·have h1:Kb J B W (W.alloc F):=Kb.below ((AF J W).alloc P F);have Z:J<=(W.alloc F).heap.size:=AD P h1.size;have h2:Kb J B W I:=h1.grown C Z (λj K=>by
   rcases H.2 with⟨rfl,_⟩ | ⟨g,cap,cur,rfl,hb,_,_⟩
   ·simp[Cx]at K
   ·obtain rfl:g=j:=by simpa [Cx]using K
    exact .inl hb)
  exact h2.grown (grownBy_setCell' I B v') (AD P h2.size) (λj K=>by cases K;exact .inr rfl)
noncomputable def a8(l:List Nm)(top:Nm):List Nm:=l.takeWhile λz=>decide (z≠top)
variable{top:Nm}
theorem belL_all{l:List Nm}(h:∀z∈l,z≠top):a8 l top=l:=by
 unfold a8;have:=List.takeWhile_append_of_pos (p:=λz=>decide (z≠top)) (l₁:=l) (l₂:=[]) (λz hz=>by simpa using h z hz);simpa using this
theorem mS{p l:List Nm}(h:∀z∈p,z≠top)(hp:p++ [top] <+:l):a8 l top=p:=by
 obtain⟨t,rfl⟩:=hp;unfold a8;rw[List.append_assoc,List.takeWhile_append_of_pos (λz hz=>by simpa using h z hz)];simp
theorem aa2{w F W:World}{D:Nat}{o o':Obj}(hb:Bi w.heap.size w F)(C:Kb F.heap.size (w.heap.size+1) F W)(_:w.heap.size+1<F.heap.size)(I:F.heap.size<=D)(G:W.heap[D]? =some o):mBw w (W.putObj D o'):=by
 have h1:mBw w W:=⟨C.os.trans hb.os,C.tape.trans hb.tape,C.output.trans hb.output,AD hb.size C.size,λk H=>(C.block k no no).trans (hb.block k H)⟩;exact h1.grown (grownBy_putObj' W D o') (AD hb.size C.size) (λk e=>by cases e;have:=hb.size;omega)
set_option maxRecDepth 100000 in
set_option maxHeartbeats 2000000 in
theorem ub{w:World}{t m:Nat}{E:List Ch}{x:Nm}{a:Int}{lx:List Nm}(hT:TM w t m E)(hx:Anc (trE E) a x lx)(h1:lx.length<=1000):
  AC AB 106 #[ptB t,.string x,.string top,.int .i64 a] w λe w'=>∃v,e= .returned v/\aZ w' w.heap.size v (a8 lx top)/\Bi w.heap.size w w':=by
 refine(callsIn_wide (n:=3)).1 ?_;have h3:(1:Nat)<=3:=it
 have bq:(1000:Nat)<=maxLen:=by unfold maxLen;omega
 obtain⟨i0,hi,a6,a7,a9⟩:=DF (show(AB.info? 9).map (λi=>(i.zero,i.size,i.bytes))=some (some (.string BW),1,16)by kernel_rfl);have b6:=Boxed.new w 9 (.string top);have b9:=Boxed.new (w.alloc (.cells #[.string top] 9)) 68 (.slice none 0 0);have G:Bi w.heap.size w ((w.alloc (.cells #[.string top] 9)).alloc (.cells #[.slice none 0 0] 68)):=((AF _ w).alloc (AE _) _).alloc Ad _;rw[Cr]at b9;have b6:=b6.alloc (.cells #[.slice none 0 0] 68);have Y:((w.alloc (.cells #[.string top] 9)).alloc (.cells #[.slice none 0 0] 68)).heap.size=w.heap.size+2:=Ad
 obtain⟨W2,ak⟩:∃W2,(w.alloc (.cells #[.string top] 9)).alloc (.cells #[.slice none 0 0] 68)=W2:=⟨_,rfl⟩;rw[ak]at b6 b9 G Y;have ar:w.heap.size+1∉fpT t m E:=λhm=>by have:=hT.lt _ hm;omega
 have an:bw W2 (w.heap.size+1):=.mk' (show W2.heap[w.heap.size+1]? =some (.cells #[.slice none 0 0] 68 (0,0))from b9) (λk n hk=>by cases k<;>simp at hk);have ao:=zE W2 t x a;have aa:=ua (hT.below G) ar an hx 2 _ it (AF _ _);have Z:=kA W2 t x a;have U:=jn W2 t x a;obtain⟨J,am⟩:∃J,kJ W2 t x a=J:=⟨_,rfl⟩;rw[am]at aa Z U;have a1:=AA Z;have a0:=AA Y;have H6:=AA (show Boxed J w.heap.size 9 (.string top)from(U.block _ no).trans b6);have H9:=AA (show Boxed J (w.heap.size+1) 68 (.slice none 0 0)from(U.block _ no).trans b9);have HB:=AA (G.trans (U.mono G.size));have ad:=AA aa;clear hT hx b6 b9 G Y ar an aa Z U;refine callsIn_of_wp_marks Tryz.func106 rfl trivial ?_ rfl;simp only[Tryz.ntmps106,Cb,Bg,Dk,Nat.reduceAdd,Nat.reduceSub,Array.replicate_succ,Array.replicate_zero,List.push_toArray,List.append_toArray,C8,Dw]
 gi_wp2_with (refine⟨trivial,?_⟩;gi_at_call 171;refine(callsIn_wide.2 ao).mono ?_;clear ao;rintro e w' ⟨B,rfl,rfl,rfl⟩)
 have Y:=a0.out;have Z:=a1.out;have aq:=HB.out.size;have ap:w.heap.size+1<J.heap.size:=no
 clear ak am Y Z;refine wpIn_rangeFunc_ownG (F:=Cd) (n:=3) rfl h3 (gf:=221) (lb:=ancB W2.heap.size) rfl trivial zI
  ad.out (λ{_ _ _} h k=>h.trans k) (kb_b (AE _)) (AF _ _) (λ_=>rfl)
  (λpre W=>((∃v,Boxed W (w.heap.size+1) 68 v/\W.ownsRow J.heap.size 9 1 v pre.length (pre.map Bb)/\True)/\(∀z∈pre,z≠top))/\Kb J.heap.size (w.heap.size+1) J W)
  (λc pre W=>((∃v,Boxed W (w.heap.size+1) 68 v/\W.ownsRow J.heap.size 9 1 v pre.dropLast.length (pre.dropLast.map Bb)/\True)/\(c= .exit 0/\∃ab,pre=ab++ [top]/\∀z∈ab,z≠top))/\Kb J.heap.size (w.heap.size+1) J W)
  (OwnFrom.and (OwnFrom.and (Own.from (holdsRow_own J.heap.size (w.heap.size+1) 68 9 1 (λpre:List Nm=>pre.length) (λpre=>pre.map Bb) (λ_ _=>True)) _) (ownFrom_pure _ _)) (kb_own _ _ _ (AE _)))
  (λc=>OwnFrom.and (OwnFrom.and (Own.from (holdsRow_own J.heap.size (w.heap.size+1) 68 9 1 (λpre:List Nm=>pre.dropLast.length) (λpre=>pre.dropLast.map Bb) (λ_ _=>True)) _) (ownFrom_pure _ _)) (kb_own _ _ _ (AE _)))
  ⟨⟨⟨_,H9.out,Dv _ _ _ _,trivial⟩,λ_ h=>(by cases h)⟩,Kb.refl _ _ _⟩
  (λz=> {tmps:=#[ptB t,.string x,.string top,.int .i64 a,undef,undef,.pointer (some ⟨w.heap.size,0,none⟩),undef,.slice none 0 0,.pointer (some ⟨w.heap.size+1,0,none⟩),.string z,ptB t,.string x,.int .i64 a,.func (.func 221) #[] (ancB W2.heap.size),.string z,undef,undef,undef,undef,undef,undef,undef,undef],defers:=[]}) ?assign ?body ?done ?stop
 case assign=>
  intro l z W K P
  gi_wp2
  exact P
 case body=>
  rintro l pre z W ⟨⟨⟨v,hv,C,_⟩,H⟩,P⟩ bp;have hc:=hv.cell;have c6:W.cell? ⟨w.heap.size,0,none⟩=some (.string top):=by rw[P.cell no no];exact H6.out.cell
  have HP:=AA H;have HV:=AA hv;have HR:=AA C;have HK:=AA P;have a4:=P.size;clear H P;by_cases e:z=top
  ·subst e;clear hv C
   gi_wp2
   refine⟨KeepsFrom.refl _ _,⟨⟨⟨v,HV.out,by rw[List.dropLast_concat];exact HR.out,trivial⟩,rfl,pre,rfl,HP.out⟩,HK.out⟩⟩
  ·have bt:=gU e;have HE:=AA e;clear e
   gi_wp2_with (gi_at_builtin;refine wpListIn_append_own _ rfl _ _ 68 rfl J.heap.size 9 i0 (.string BW) 1 16 DE hi a6 a7 a9 rfl it _ _ _ rfl (C.alloc _) ⟨W.heap.size,0,none⟩ 1 1 [.string z] rfl rfl (cell_one_new _ _ _) (by simp[Value.oneCell']) no no (by simp;omega) ?_;intro v' w1 V ac _;obtain⟨g',bb,rfl⟩:=ownsRow_succ V;obtain⟨ay,a5,a3,a2,G⟩:=zJ hv it C a4 V ac;have be:=ay.cell;have bi:=ay.frozen)
   refine⟨a2.from _,G,⟨⟨_,a5,by simpa using a3,trivial⟩,λu hu=> ?_⟩,HK.out.trans G⟩;rcases AG.1 hu with h | h
   ·exact HP.out u h
   ·simp only[BD]at h;subst h;exact HE.out
 case done=>
  rintro D zs W hD rfl ⟨⟨⟨v,hv,C,_⟩,H⟩,P⟩ I;have hc:=hv.cell;have HQ:=AA (show(W.putObj D (.deferred none)).ownsRow w.heap.size 9 1 v (a8 zs top).length ((a8 zs top).map Bb)/\Bi w.heap.size w (W.putObj D (.deferred none))from by
   rw[belL_all H];exact⟨EW (ownsRow_putObj C _ I rfl) aq,aa2 HB.out P ap hD I⟩)
  clear hv C H P
  gi_wp2
  refine⟨Ad,.inl ⟨_,_,rfl,run_takeDeferred I,?_⟩⟩;exact⟨_,results_tmp rfl _ _ _,v,rfl,HQ.out.1,HQ.out.2⟩
 case stop=>
  rintro D c pre W hD ax ⟨⟨⟨v,hv,C,_⟩,rfl,ab,av,au⟩,P⟩ I;have hc:=hv.cell;have HQ:=AA (show(W.putObj D (.deferred none)).ownsRow w.heap.size 9 1 v (a8 lx top).length ((a8 lx top).map Bb)/\Bi w.heap.size w (W.putObj D (.deferred none))from by
   subst av;rw[mS au ax];rw[List.dropLast_concat]at C;exact⟨EW (ownsRow_putObj C _ I rfl) aq,aa2 HB.out P ap hD I⟩)
  clear hv C ax P av au
  gi_wp2
  refine⟨Ad,.inl ⟨_,_,rfl,run_takeDeferred I,?_⟩⟩;exact⟨_,results_tmp rfl _ _ _,v,rfl,HQ.out.1,HQ.out.2⟩
end
section
open Classical
noncomputable def bf(R:Tr)(a:Int)(x:Nm):List Nm:=if h:∃l,Anc R a x l then h.choose else []
theorem cR{R:Tr}(C:TOk R)(a:Int)(x:Nm):Anc R a x (bf R a x):=by
 have h:=Anc.of (C.acy a x);unfold bf;rw[dif_pos h];exact h.choose_spec
theorem gW{R:Tr}{a:Int}{x:Nm}{l:List Nm}(h:Anc R a x l):bf R a x=l:=by
 unfold bf;have h2:∃l,Anc R a x l:=⟨l,h⟩;rw[dif_pos h2];exact h2.choose_spec.uniq h
theorem gC{R:Tr}(C:Sane R){a:Int}{x:Nm}(F:aC R x):(bf R a x).length<=24:=(cR C.ok a x).short C F
noncomputable def aF(R:Tr)(a:Int)(x y:Nm):Nm×Int:=
 if aC R x/\aC R y then(match fv (bf R a x) (bf R a y)with | some z=>(z,0) | none=>(BW,18))else(BW,6)
theorem q_meet{w:World}{t m:Nat}{E:List Ch}(V:TM w t m E)(K:Sane (trE E))(x y:Nm)(a:Int):
  AC AB 71 #[ptB t,.string x,.string y,.int .i64 a] w λe w'=>e= .returned (.tuple #[.string (aF (trE E) a x y).1,.int .i64 (aF (trE E) a x y).2])/\mBw w w':=by
 have C:=mR V K y;have H:=AA (show∀wq,mBw w wq->AC AB 108 #[ptB t,.string x] wq λe w'=>e= .returned (.bool (decide (aC (trE E) x)))/\mBw w w' from λwq hb=>(mR (V.below hb) K x).mono (by
  rintro e w' ⟨rfl,k⟩;exact⟨rfl,hb.trans (k.mono hb.size)⟩))
 by_cases ky:aC (trE E) y
 ·rw[decide_eq_true ky]at C;by_cases kx:aC (trE E) x
  ·have I:=AA (show aF (trE E) a x y=(match fv (bf (trE E) a x) (bf (trE E) a y)with | some z=>(z,0) | none=>(BW,18))by unfold aF;rw[if_pos ⟨kx,ky⟩]);have HC:=AA (show∀wq,mBw w wq->AC AB 129 #[ptB t,.string x,.string y,.int .i64 a] wq λe w'=>e= .returned (.tuple #[.string ((fv (bf (trE E) a x) (bf (trE E) a y)).getD BW),.bool (fv (bf (trE E) a x) (bf (trE E) a y)).isSome])/\mBw w w' from λwq hb=>by
    have l1:=gC K (a:=a) kx;have l2:=gC K (a:=a) ky;exact(q_common (V.below hb) (cR K.ok a x) (cR K.ok a y) no no).mono (by
     rintro e w' ⟨rfl,k⟩;exact⟨rfl,hb.trans (k.mono hb.size)⟩))
   rw[decide_eq_true kx]at H;obtain⟨M,P⟩:∃M,aF (trE E) a x y=M:=⟨_,rfl⟩;rw[P]at I⊢
   cases hc:fv (bf (trE E) a x) (bf (trE E) a y)with
   | none=>
    rw[hc]at HC I;have U:=AA (show M=(BW,18)from I.out);clear V K ky kx P hc I;go_enter Tryz.func71,Tryz.ntmps71
    go_wp2_with (first
     | (go_at_call 108;refine C.mono ?_;clear C;rintro e Y ⟨rfl,hb⟩;have Z:=AA hb;have F:=H.out Y hb;clear hb)
     | (go_at_call 108;refine F.mono ?_;clear F;rintro e w2 ⟨rfl,hb⟩;have J:=HC.out w2 hb;clear hb)
     | (go_at_call 129;refine J.mono ?_;clear J;rintro e w3 ⟨rfl,hb⟩;have G:=AA hb;clear hb))
    go_ret2
    rw[U.out];exact⟨rfl,G.out⟩
   | some z=>
    rw[hc]at HC I;have U:=AA (show M=(z,0)from I.out);clear V K ky kx P hc I;go_enter Tryz.func71,Tryz.ntmps71
    go_wp2_with (first
     | (go_at_call 108;refine C.mono ?_;clear C;rintro e Y ⟨rfl,hb⟩;have Z:=AA hb;have F:=H.out Y hb;clear hb)
     | (go_at_call 108;refine F.mono ?_;clear F;rintro e w2 ⟨rfl,hb⟩;have J:=HC.out w2 hb;clear hb)
     | (go_at_call 129;refine J.mono ?_;clear J;rintro e w3 ⟨rfl,hb⟩;have G:=AA hb;clear hb))
    go_ret2
    rw[U.out];exact⟨rfl,G.out⟩
  ·have I:=AA (show aF (trE E) a x y=(BW,6)by unfold aF;rw[if_neg (λh=>kx h.1)]);rw[decide_eq_false kx]at H;obtain⟨M,P⟩:∃M,aF (trE E) a x y=M:=⟨_,rfl⟩;rw[P]at I⊢;clear V K ky kx P;go_enter Tryz.func71,Tryz.ntmps71
   go_wp2_with (first
    | (go_at_call 108;refine C.mono ?_;clear C;rintro e Y ⟨rfl,hb⟩;have Z:=AA hb;have F:=H.out Y hb;clear hb)
    | (go_at_call 108;refine F.mono ?_;clear F;rintro e w2 ⟨rfl,hb⟩;have G:=AA hb;clear hb))
   go_ret2
   rw[I.out];exact⟨rfl,G.out⟩
 ·have I:=AA (show aF (trE E) a x y=(BW,6)by unfold aF;rw[if_neg (λh=>ky h.2)]);rw[decide_eq_false ky]at C;obtain⟨M,P⟩:∃M,aF (trE E) a x y=M:=⟨_,rfl⟩;rw[P]at I⊢;clear V K ky P H;go_enter Tryz.func71,Tryz.ntmps71
  go_wp2_with (go_at_call 108;refine C.mono ?_;clear C;rintro e Y ⟨rfl,hb⟩;have G:=AA hb;clear hb)
  go_ret2
  rw[I.out];exact⟨rfl,G.out⟩
end
section
open Classical
noncomputable def el(R:Tr)(a:Int):List Nm->Pq->Pq×Int
 | [],p=>(p,0)
 | f::l,p=>if (bv R f a).2=0 then el R a l ((bv R f a).1.mul p)else(Pq.zero,(bv R f a).2)
def lC(R:Tr)(a:Int):List Nm->Pq->Prop
 | [],_=>True
 | f::l,p=>(bv R f a).2=0->(bv R f a).1.ok 100000/\(bv R f a).1.good/\p.ok 100000/\p.good/\lC R a l ((bv R f a).1.mul p)
variable{w0 W:World}{B:Nat}{vs:List Value}
theorem PB.kb{C:World}{n O:Nat}(h:PB w0 C B vs)(k:Kb n O C W)(F:B<n)(G:B≠O)(hl:w0.heap.size<=n)(H:w0.heap.size<=O):PB w0 W B vs:=
 ⟨by rw[k.block B F G];exact h.blk,h.len,⟨k.os.trans h.bel.os,k.tape.trans h.bel.tape,k.output.trans h.bel.output,AD h.bel.size k.size,λi hi=>(k.block i no no).trans (h.bel.block i hi)⟩,h.ge,h.nu⟩
theorem Kb.put{n O:Nat}{A B:World}(h:Kb n O A B)(us:List Value):Kb n O A (B.setCells O 0 us):=by
 have u:=co us B O 0;exact h.trans ⟨u.os,u.tape,u.output,Nat.le_of_eq u.size.symm,λk _ C=>u.block k C⟩
theorem PB.lt(h:PB w0 W B vs):B<W.heap.size:=(AZ.1 h.blk).1
theorem PB.oth{B':Nat}{us:List Value}(h:PB w0 W B vs)(C:B≠B')(hl:w0.heap.size<=B'):PB w0 (W.setCells B' 0 us) B vs:=
 ⟨by rw[(co us W B' 0).block B C];exact h.blk,h.len,aQ us 0 W h.bel hl,h.ge,h.nu⟩
theorem PB.base{C:World}(h:PB C W B vs)(k:Bi w0.heap.size w0 C):PB w0 W B vs:=⟨h.blk,h.len,k.trans (h.bel.mono k.size),AD k.size h.ge,h.nu⟩
theorem PB.ld(h:PB w0 W B vs):W.rangeAt B 0 vs:=λj v C=>by rw[aH h.blk,A5];simpa using C
set_option maxHeartbeats 2000000 in
theorem q_rise{w:World}{t m:Nat}{E:List Ch}{x top:Nm}{a:Int}{lx:List Nm}(hT:TM w t m E)(hE:TOk (trE E))(hx:Anc (trE E) a x lx)(h1:lx.length<=1000)(cp:lC (trE E) a (a8 lx top) Pq.id):
  AC AB 72 #[ptB t,.string x,.string top,.int .i64 a] w λe w'=>∃v,e= .returned (.tuple #[v,.int .i64 (el (trE E) a (a8 lx top) Pq.id).2])/\aR w' v (el (trE E) a (a8 lx top) Pq.id).1/\Bi w.heap.size w w':=by
 have cq:=PB.new w;have HT:=AA hT;have HE:=AA hE;have HX:=AA hx;have a7:=AA cp;have dq:(a8 lx top).length<=1000:=AD ((List.takeWhile_sublist _).length_le) h1;have aa:=AA cq;obtain⟨W,hW⟩:∃W,w.alloc (.cells ai.toArray 39)=W:=⟨_,rfl⟩;rw[hW]at aa;have cl:=q_poId W;obtain⟨Rz,bi⟩:∃r,r=el (trE E) a (a8 lx top) Pq.id:=⟨_,rfl⟩;have a9:=AA bi;rw[<-bi];clear hT hE hx cp cq bi;go_enter Tryz.func72,Tryz.ntmps72
 go_upto_region 0 with(fail)
 refine Bn ?_;refine ae rfl (v:=.pointer (some ⟨w.heap.size,0,none⟩)) (w':=W) (by subst hW;go_simp;try rfl) ?_;obtain⟨B8,c9⟩:∃B,w.heap.size=B:=⟨_,rfl⟩;rw[c9]at aa⊢;clear hW;go_upto_region 1 with(fail)
 refine Bn ?_;refine BA rfl (λK hK=> ?_);go_simp;go_at_call 22
 refine cl.mono ?_;rintro e Z ⟨v,rfl,hv,hb⟩;obtain⟨us,rfl,F,I,V⟩:=dH hv;refine hK _ _ ?_;clear hK K cl;have H:=PB.new Z;have cv:aR (Z.alloc (.cells ai.toArray 39)) (.agg us.toArray) Pq.id:=hv.mono H.bel;have b0:=AA (aa.out.next (hb.trans (H.bel.mono hb.size)));refine ae rfl (v:=.pointer (some ⟨Z.heap.size,0,none⟩)) (w':=Z.alloc (.cells ai.toArray 39)) (by go_simp;try rfl) ?_;have C:=H.there;rw[<-F]at C;refine BX rfl _ _ _ rfl Z.heap.size 0 us.toArray rfl rfl At (bc F) I ?_;rw[show us.toArray.toList=us from rfl];have bp:Bi w.heap.size w Z:=aa.out.bel.trans (hb.mono aa.out.bel.size);have a1:B8≠Z.heap.size:=by have:=aa.out.lt;have:=hb.size;omega
 have ao:=AA (b0.out.oth (us:=us) a1 bp.size);have U:=AA ((H.base bp).put (us:=us) F V);have HV:=AA (H.keep (us:=us) cv);have be:=AA (HT.out.below U.out.bel);have cb:=(ub be.out HX.out h1 (top:=top)).mono (show∀e w',_->∃ad n cap,e= .returned (.slice ad n cap)/\Hid (aZ w' ((Z.alloc (.cells ai.toArray 39)).setCells Z.heap.size 0 us).heap.size (.slice ad n cap) (a8 lx top)/\n=(a8 lx top).length/\Bi ((Z.alloc (.cells ai.toArray 39)).setCells Z.heap.size 0 us).heap.size ((Z.alloc (.cells ai.toArray 39)).setCells Z.heap.size 0 us) w')from by
  rintro e w' ⟨v,rfl,h1,h2⟩;obtain⟨ad,cap,rfl⟩:=cL h1;exact⟨ad,_,cap,rfl,AA ⟨h1,rfl,h2⟩⟩)
 generalize hW2:(Z.alloc (.cells ai.toArray 39)).setCells Z.heap.size 0 us=W2 at *;obtain⟨J,a2⟩:∃B,Z.heap.size=B:=⟨_,rfl⟩;rw[a2]at U a1⊢;have c3:=AA a1;clear hW2 C H cv hv hb I V b0 bp a2 a1 aa;go_wp2_with (go_at_call 106;refine cb.mono ?_;clear cb;rintro e Wb ⟨ad,n,cap,rfl,HR⟩)
 have ak:=AA (ao.out.next HR.out.2.2);have G:=AA (U.out.next HR.out.2.2);have b9:=AA ((show aR Wb _ _ from IsL.mono HV.out HR.out.2.2));have b1:=AA (be.out.below HR.out.2.2);have d1:(n:Int)<=1000:=by rw[HR.out.2.1];omega
 have a6:J∉fpT t m E:=λhm=>by
  have h3:=HT.out.lt _ hm;have h4:=G.out.ge;omega
 have a4:bw Wb J:=(jf G.out.blk (λu hu=>G.out.nu u (by simpa using hu))).x;have cm:B8<Wb.heap.size:=ak.out.lt;have am:=AA (show∀wq,Kb Wb.heap.size J Wb wq->TM wq t m E/\PB w wq B8 ai/\∀(i:Nat)(c:Nm),(a8 lx top)[i]? =some c->∃g,ad=some ⟨g,0,none⟩/\wq.cell? ⟨g,i,none⟩=some (.string c)from λwq k=>⟨k.tm b1.out a6 a4,ak.out.kb k cm c3.out ak.out.bel.size G.out.ge,λi c hc=>by
  have h3:=HR.out.1;have h4:=HR.out.2.1;unfold aZ at h3;rw[<-h4]at h3;obtain⟨g1,e1,q1⟩:=cQ h3 (show((a8 lx top).map Bb)[i]? =some (.string c)by rw[Bp,hc];rfl);have h5:=bV h3 (g:=g1) (by rw[e1];rfl);exact⟨g1,e1,by rw[k.cell h5.2 (by have:=U.out.lt;omega)];exact q1⟩⟩)
 obtain⟨L,hL⟩:∃L,a8 lx top=L:=⟨_,rfl⟩;rw[hL]at am a7 a9 dq;have bO:=AA (show n=L.length by rw[HR.out.2.1,hL]);clear HR HV ao U be HT HX hL a6 a4 ak b1 cm;have dc:Wb.heap.size<=Wb.heap.size:=AE _;go_loopw [22] (λbt wq=>∃(k:Nat)(cs:List Value)(q:Pq),k<=n/\bt= .int .i64 (k:Int)/\Hid (Kb Wb.heap.size J Wb wq)/\Hid (PB w wq J cs)/\Hid (aR wq (.agg cs.toArray) q)/\Hid (Rz=el (trE E) a (L.drop k) q/\lC (trE E) a (L.drop k) q)) (λbt _=>n - (intOf bt).toNat)
 case atStart=>exact⟨0,us,Pq.id,AY _,rfl,AA (Kb.refl _ _ _),G,b9,AA ⟨a9.out,a7.out⟩⟩
 case round=>
  clear a9 a7 G b9 F dc;obtain⟨k,cs,q,hk,rfl,HK,HP,HV,HZ⟩:=hrel;rcases Bc k n with dr | da
  ·obtain⟨c,hc⟩:∃c,L[k]? =some c:=⟨_,AJ (by rw[<-bO.out];exact dr)⟩;obtain⟨ca,ab,cr⟩:=am.out wr HK.out;obtain⟨g,rfl,d0⟩:=cr k c hc;have a0:=q_Edge ca HE.out c a;have cc:L.drop k=c::L.drop (k+1):=by
    obtain⟨h1,h2⟩:=AX.1 hc;rw[<-h2];exact List.drop_eq_getElem_cons h1
   have hz:=HZ.out;rw[cc]at hz;unfold el lC at hz;obtain⟨ep,cd⟩:∃ep,bv (trE E) c a=ep:=⟨_,rfl⟩;rw[cd]at a0 hz;obtain⟨pe,P⟩:=ep;simp only at a0 hz;have ax:=AA hz;have ao:=AA ab;have cn:Wb.heap.size<=wr.heap.size:=HK.out.size;clear ca cr hc cd hz ab cc;go_upto_region 5 with(fail)
   refine Bn ?_;refine ae rfl (v:=ptB t) (w':=wr) Af ?_;refine ae rfl (v:=.string c) (w':=wr) Af ?_;refine ae rfl (v:=.int .i64 a) (w':=wr) Af ?_;refine BA rfl (λK hK=> ?_);go_simp;go_at_call 41
   refine a0.mono ?_;rintro e w4 ⟨v,rfl,hv,hb⟩;obtain⟨vs,rfl,F,I,V⟩:=dH hv;refine hK _ _ ?_;clear hK K a0;refine ae rfl (v:=.tuple #[.agg vs.toArray,.int .i64 P]) (w':=w4) Af ?_;refine ae rfl (v:=.agg vs.toArray) (w':=w4) Ah ?_;refine ae rfl (v:=.int .i64 P) (w':=w4) Ah ?_;have H:=PB.new w4;have cu:aR (w4.alloc (.cells ai.toArray 39)) (.agg vs.toArray) pe:=IsL.mono hv H.bel;have C:=H.there;rw[<-F]at C;have an:=aQ vs 0 _ (hb.trans (H.bel.mono hb.size)) hb.size (b:=w4.heap.size);have bz:=AA (HK.out.trans (Kb.below (an.mono cn)));have au:=AA (HP.out.next an);have b2:=AA (show aR _ (.agg cs.toArray) q from IsL.mono HV.out an);have ac:=AA (ao.out.next an);have av:=AA (H.put (us:=vs) F V);have b8:=AA (H.keep (us:=vs) cu);refine ae rfl (v:=.pointer (some ⟨w4.heap.size,0,none⟩)) (w':=w4.alloc (.cells ai.toArray 39)) (by go_simp;try rfl) ?_;refine BX rfl _ _ _ rfl w4.heap.size 0 vs.toArray rfl rfl At (bc F) I ?_;rw[show vs.toArray.toList=vs from rfl];generalize hW5:(w4.alloc (.cells ai.toArray 39)).setCells w4.heap.size 0 vs=W5 at *;have db:=an.size;have ar:w4.heap.size≠J:=by have:=HP.out.lt;have:=hb.size;omega
   obtain⟨cz,a3⟩:∃B,w4.heap.size=B:=⟨_,rfl⟩;rw[a3]at ar av⊢;have ds:=AA ar;clear hW5 a3 ar H cu C an hv hb I V HK HP HV ao;by_cases h0:P=0
   ·subst h0;obtain⟨bq,cx⟩:=ax.out;rw[if_pos rfl]at bq;obtain⟨o1,o2,o3,o4,o5⟩:=cx rfl;have a5:=tK _ _ pe q W5 b8.out b2.out o1 o3 o2 o4;have aq:=AA (By bq o5);have c5:=AA (show(AB.info? 39).map (·.size)=some vs.length by rw[av.out.len];kernel_rfl);have bb:=AA (show(AB.info? 39).map (·.size)=some cs.length by rw[au.out.len];kernel_rfl);clear bq cx o1 o2 o3 o4 o5 ax HZ b8 b2 F;go_upto_region 8 with(fail)
    refine Bn ?_;refine Dp rfl _ _ rfl cz 0 rfl vs _ av.out.ld CC rfl c5.out ?_;refine Dp rfl _ _ rfl J 0 rfl cs _ au.out.ld CC rfl bb.out ?_;refine BA rfl (λK hK=> ?_);go_simp;go_at_call 21
    refine a5.mono ?_;rintro e w6 ⟨v,rfl,hv,hb⟩;obtain⟨Y,rfl,F,I,V⟩:=dH hv;refine hK _ _ ?_;clear hK K a5;have ay:=au.out.next hb;have C:=ay.there;rw[<-F]at C;refine BX rfl _ _ _ rfl J 0 Y.toArray rfl rfl At (bc F) I ?_;rw[show Y.toArray.toList=Y from rfl];have c1:=AA ((bz.out.trans (Kb.below (hb.mono (AD cn db)))).put Y);have c4:=AA (ay.put (us:=Y) F V);have c6:=AA (ay.keep (us:=Y) hv);generalize hW7:w6.setCells J 0 Y=W7 at *;clear hW7 C ay hv hb I V bz au ac av F;go_wp2;go_roundw
    case rel=>exact⟨k+1,Y,_,no,by go_num,c1,c4,c6,aq⟩
    case measure=>simp[intOf];omega
   ·have dT:(P==0)=false:=beq_eq_false_iff_ne.2 h0;have aq:=AA (show Rz=(Pq.zero,P)by rw[ax.out.1,if_neg h0]);clear h0 ax HZ;go_upto_region 7 with(fail)
    refine Bn ?_;refine ae rfl (v:=.agg ai.toArray) (w':=W5) (by unfold ai;go_simp;try rfl) ?_;refine ae rfl (v:=.int .i64 P) (w':=W5) Af ?_;refine BX rfl _ _ _ rfl B8 0 ai.toArray rfl rfl ac.out.there Aa Aa ?_;have ap:=AA (ac.out.put (us:=ai) rfl ac.out.nu);rw[show ai.toArray.toList=ai from rfl];generalize hW9:W5.setCells B8 0 ai=W9 at *;clear hW9;go_wp2;refine A7 (ap.out.ret rfl _ rfl) rfl ?_;rw[aq.out];exact⟨_,rfl,dB _,ap.out.bel⟩
  ·obtain rfl:k=n:=no
   have hz:=HZ.out.1;rw[show L.drop k=[]by rw[bO.out];simp]at hz;have aq:=AA (show Rz=(q,0)from hz);obtain⟨_,ab,_⟩:=am.out wr HK.out;have bb:=AA (show(AB.info? 39).map (·.size)=some cs.length by rw[HP.out.len];kernel_rfl);have C:=ab.there;rw[<-HP.out.len]at C;have I:cs.toArray.all (·.oneCell')=true:=by
    obtain⟨c8,e,_,h1,_⟩:=dH HV.out;have e:cs=c8:=by injection e with e;simpa using e
    rw[e];exact h1
   have ap:=AA (ab.put (us:=cs) HP.out.len HP.out.nu);have c7:=AA (ab.keep (us:=cs) HV.out);have c2:=AA HP.out.len;clear hz HZ da ab am;go_upto_region 10 with(fail)
   refine Bn ?_;refine Dp rfl _ _ rfl J 0 rfl cs _ HP.out.ld CC rfl bb.out ?_;refine BX rfl _ _ _ rfl B8 0 cs.toArray rfl rfl At (bc c2.out) I ?_;rw[show cs.toArray.toList=cs from rfl];generalize hW9:wr.setCells B8 0 cs=W9 at *;clear hW9 C I;go_wp2;refine A7 (ap.out.ret rfl _ rfl) rfl ?_;rw[aq.out];exact⟨_,rfl,c7.out,ap.out.bel⟩
end
section
open Classical
noncomputable abbrev upP(R:Tr)(a:Int)(x top:Nm):Pq×Int:=el R a (a8 (bf R a x) top) Pq.id
noncomputable def aP(R:Tr)(a:Int)(tq fr:Nm):Pq×Int:=
 if (aF R a fr tq).2≠0 then(Pq.zero,(aF R a fr tq).2)else
  if (upP R a fr (aF R a fr tq).1).2≠0 then(Pq.zero,(upP R a fr (aF R a fr tq).1).2)else
   if (upP R a tq (aF R a fr tq).1).2≠0 then(Pq.zero,(upP R a tq (aF R a fr tq).1).2)else
    ((upP R a tq (aF R a fr tq).1).1.inv.mul (upP R a fr (aF R a fr tq).1).1,0)
structure FindOk(R:Tr)(a:Int)(tq fr:Nm):Prop where
 up:lC R a (a8 (bf R a fr) (aF R a fr tq).1) Pq.id
 dn:lC R a (a8 (bf R a tq) (aF R a fr tq).1) Pq.id
 ou:(upP R a fr (aF R a fr tq).1).2=0->(upP R a fr (aF R a fr tq).1).1.ok 100000/\(upP R a fr (aF R a fr tq).1).1.good
 od:(upP R a tq (aF R a fr tq).1).2=0->(upP R a tq (aF R a fr tq).1).1.ok 100000/\(upP R a tq (aF R a fr tq).1).1.good/\(upP R a tq (aF R a fr tq).1).1.inv.ok 100000
theorem jo{R:Tr}{a:Int}{x y:Nm}(h:(aF R a x y).2=0):aC R x/\aC R y:=by
 unfold aF at h;split at h
 ·rename_i k;exact k
 ·simp at h
set_option maxHeartbeats 2000000 in
theorem lD{w:World}{t m:Nat}{E:List Ch}{tq fr:Nm}{a:Int}(hT:TM w t m E)(hE:Sane (trE E))(d1:FindOk (trE E) a tq fr):
  AC AB 18 #[ptB t,.string tq,.string fr,.int .i64 a] w λe w'=>∃v,e= .returned (.tuple #[v,.int .i64 (aP (trE E) a tq fr).2])/\aR w' v (aP (trE E) a tq fr).1/\Bi w.heap.size w w':=by
 have cz:=PB.new w;have ao:=q_meet (hT.below cz.bel) hE fr tq a;have HT:=AA (show∀wq,Bi w.heap.size w wq->TM wq t m E from λwq k=>hT.below k);have HE:=AA hE;obtain⟨M,hM⟩:∃M,aF (trE E) a fr tq=M:=⟨_,rfl⟩;obtain⟨Rz,cv⟩:∃r,r=aP (trE E) a tq fr:=⟨_,rfl⟩;have be:=jo (R:=trE E) (a:=a) (x:=fr) (y:=tq);obtain⟨bi,bp,bq,bt⟩:=d1;rw[hM]at ao be bi bp bq bt;have hz:=cv;unfold aP at hz;rw[hM]at hz;rw[<-cv];obtain⟨Z,mc⟩:=M;simp only at ao be bi bp bq bt hz;have HZ:=AA hz;have b9:=AA be;have cc:=AA bi;have cd:=AA bp;have cl:=AA bq;have cm:=AA bt;have ax:=AA cz;obtain⟨W,hW⟩:∃W,w.alloc (.cells ai.toArray 39)=W:=⟨_,rfl⟩;rw[hW]at ax ao;clear hT hE cz cv hM be bi bp bq bt hz;go_enter Tryz.func18,Tryz.ntmps18
 go_upto_region 0 with(fail)
 refine Bn ?_;refine ae rfl (v:=.pointer (some ⟨w.heap.size,0,none⟩)) (w':=W) (by subst hW;go_simp;try rfl) ?_;obtain⟨B8,cu⟩:∃B,w.heap.size=B:=⟨_,rfl⟩;have d4:=AA cu;rw[cu]at ax⊢;clear hW cu;by_cases h0:mc=0
 ·subst h0;obtain⟨kx,ky⟩:=b9.out rfl;have lx:=gC HE.out (a:=a) kx;have ly:=gC HE.out (a:=a) ky;have cn:=AA (show∀wq,Bi w.heap.size w wq->AC AB 72 #[ptB t,.string fr,.string Z,.int .i64 a] wq λe w'=>∃v,e= .returned (.tuple #[v,.int .i64 (upP (trE E) a fr Z).2])/\aR w' v (upP (trE E) a fr Z).1/\Bi wq.heap.size wq w' from λwq k=>q_rise (HT.out wq k) HE.out.ok (cR HE.out.ok a fr) no cc.out);have a3:=AA (show∀wq,Bi w.heap.size w wq->AC AB 72 #[ptB t,.string tq,.string Z,.int .i64 a] wq λe w'=>∃v,e= .returned (.tuple #[v,.int .i64 (upP (trE E) a tq Z).2])/\aR w' v (upP (trE E) a tq Z).1/\Bi wq.heap.size wq w' from λwq k=>q_rise (HT.out wq k) HE.out.ok (cR HE.out.ok a tq) no cd.out);have hz:=HZ.out;have o3:=cl.out;have o4:=cm.out;rw[if_neg Ad]at hz;generalize upP (trE E) a fr Z=U at *;generalize upP (trE E) a tq Z=D at *;obtain⟨up,uc⟩:=U;obtain⟨dn,dc⟩:=D;simp only at hz o3 o4 cn a3;have a5:=AA hz;have au:=AA o3;have av:=AA o4;clear hz o3 o4 HZ cc cd cl cm kx ky lx ly b9 HT HE;go_upto_region 4 with(go_at_call 71;refine ao.mono ?_;clear ao;rintro e w1 ⟨rfl,hb⟩;have Y:=AA (ax.out.next hb);clear hb)
  clear ax;have dq:=cn.out w1 Y.out.bel;refine Bn ?_;refine ae rfl (v:=ptB t) (w':=w1) Af ?_;refine ae rfl (v:=.string fr) (w':=w1) Af ?_;refine ae rfl (v:=.string Z) (w':=w1) Af ?_;refine ae rfl (v:=.int .i64 a) (w':=w1) Af ?_;refine BA rfl (λK hK=> ?_);go_simp;go_at_call 72
  refine dq.mono ?_;rintro e G ⟨v,rfl,hv,hb⟩;obtain⟨C,rfl,I,ab,ac⟩:=dH hv;refine hK _ _ ?_;clear hK K dq;refine ae rfl (v:=.tuple #[.agg C.toArray,.int .i64 uc]) (w':=G) Af ?_;refine ae rfl (v:=.agg C.toArray) (w':=G) Ah ?_;refine ae rfl (v:=.int .i64 uc) (w':=G) Ah ?_;have J:=PB.new G;have a0:aR (G.alloc (.cells ai.toArray 39)) (.agg C.toArray) up:=IsL.mono hv J.bel;have V:=J.there;rw[<-I]at V;have am:=aQ C 0 _ (hb.trans (J.bel.mono hb.size)) hb.size (b:=G.heap.size);have aa:=AA (Y.out.next am);have a1:=AA ((J.base (Y.out.bel.trans (hb.mono Y.out.bel.size))).put (us:=C) I ac);have bz:=AA (J.keep (us:=C) a0);have c5:=AA (show G.heap.size=G.heap.size from rfl);have H:B8<G.heap.size:=by have:=Y.out.lt;have:=hb.size;omega
  refine ae rfl (v:=.pointer (some ⟨G.heap.size,0,none⟩)) (w':=G.alloc (.cells ai.toArray 39)) (by go_simp;try rfl) ?_;refine BX rfl _ _ _ rfl G.heap.size 0 C.toArray rfl rfl (by simpa using V) (bc I) ab ?_;rw[show C.toArray.toList=C from rfl];generalize hW5:(G.alloc (.cells ai.toArray 39)).setCells G.heap.size 0 C=W2 at *;obtain⟨b8,bO⟩:∃B,G.heap.size=B:=⟨_,rfl⟩;rw[bO]at a1 H⊢;have ca:=AA H;clear hW5 bO c5 H J a0 V am hv hb ab ac I;clear Y cn;by_cases h0:uc=0
  ·subst h0;obtain⟨ds,dT⟩:=au.out rfl;have hz:=a5.out;rw[if_neg Ad]at hz;have a6:=AA hz;have HU:=AA (By ds dT);clear hz a5 au ds dT;go_upto_region 7 with(fail)
   have db:=a3.out W2 aa.out.bel;refine Bn ?_;refine ae rfl (v:=ptB t) (w':=W2) Af ?_;refine ae rfl (v:=.string tq) (w':=W2) Af ?_;refine ae rfl (v:=.string Z) (w':=W2) Af ?_;refine ae rfl (v:=.int .i64 a) (w':=W2) Af ?_;refine BA rfl (λK hK=> ?_);go_simp;go_at_call 72
   refine db.mono ?_;rintro e G ⟨v,rfl,hv,hb⟩;obtain⟨F,rfl,I,ab,ac⟩:=dH hv;refine hK _ _ ?_;clear hK K db;refine ae rfl (v:=.tuple #[.agg F.toArray,.int .i64 dc]) (w':=G) Af ?_;refine ae rfl (v:=.agg F.toArray) (w':=G) Ah ?_;refine ae rfl (v:=.int .i64 dc) (w':=G) Ah ?_;have J:=PB.new G;have a0:aR (G.alloc (.cells ai.toArray 39)) (.agg F.toArray) dn:=IsL.mono hv J.bel;have V:=J.there;rw[<-I]at V;have am:=aQ F 0 _ (hb.trans (J.bel.mono hb.size)) hb.size (b:=G.heap.size);have a4:=AA (aa.out.next am);have ar:=AA (a1.out.next am);have cp:=AA (IsL.mono bz.out am);have a2:=AA ((J.base (aa.out.bel.trans (hb.mono aa.out.bel.size))).put (us:=F) I ac);have c8:=AA (J.keep (us:=F) a0);have c6:=AA (show G.heap.size=G.heap.size from rfl);have an:B8<G.heap.size:=by have:=aa.out.lt;have:=hb.size;omega
   have H:b8<G.heap.size:=by have:=a1.out.lt;have:=hb.size;omega
   refine ae rfl (v:=.pointer (some ⟨G.heap.size,0,none⟩)) (w':=G.alloc (.cells ai.toArray 39)) (by go_simp;try rfl) ?_;refine BX rfl _ _ _ rfl G.heap.size 0 F.toArray rfl rfl (by simpa using V) (bc I) ab ?_;rw[show F.toArray.toList=F from rfl];generalize hW5:(G.alloc (.cells ai.toArray 39)).setCells G.heap.size 0 F=W3 at *;obtain⟨c4,b0⟩:∃B,G.heap.size=B:=⟨_,rfl⟩;rw[b0]at a2 an H⊢;have cb:=AA an;have c7:=AA H;clear hW5 b0 c6 an H J a0 V am hv hb ab ac I;clear aa a3 bz a1;by_cases h0:dc=0
   ·subst h0;have hz:=a6.out;rw[if_neg Ad]at hz;have cr:=AA hz;obtain⟨d2,dr,d3⟩:=av.out rfl;clear hz a6;go_upto_region 10 with(fail)
    have c2:(AB.info? 39).map (·.size)=some F.length:=by rw[a2.out.len];kernel_rfl
    have c1:(AB.info? 39).map (·.size)=some C.length:=by rw[ar.out.len];kernel_rfl
    have cx:Bi W3.heap.size W3 W3.drew:=(AF _ _).drew;have b1:=q_poInv _ dn W3.drew (IsL.mono c8.out cx) d2 dr;refine wp_region_held_drew (S:=λw'=>w'.rangeAt c4 0 F/\w'.rangeAt b8 0 C) Aa ⟨by simpa using a2.out.ld,by simpa using ar.out.ld⟩ (λak=> ?_);refine BQ (i:=0) (v:=.agg F.toArray) rfl Aa Aa Aa (λ_ _ _ h=>h) (FK Af _ _ rfl c4 0 rfl _ _ (λw hw=>hw.1) CC rfl c2) ak ?_;refine BQ (i:=2) (v:=.agg C.toArray) rfl Aa Aa Aa (λ_ _ _ h=>h) (FK Af _ _ rfl b8 0 rfl _ _ (λw hw=>hw.2) CC rfl c1) ak ?_;refine Fr (rs:=[1]) Aa Ad ?_;refine Fj rfl (λK hK=> ?_) Fk;go_simp;go_at_call 56
    refine b1.mono ?_;rintro e w6 ⟨v,rfl,hv,hb⟩;obtain⟨d5,rfl,_,_,_⟩:=dH hv;have ay:Bi W3.heap.size W3 w6:=cx.trans hb;have da:=a4.out.next ay;have hA:=a2.out.next ay;have hB:=ar.out.next ay;refine hK.out _ _ ⟨hA.ld,hB.ld⟩ (λa7=> ?_);clear hK K ak b1;have b2:=tK _ _ dn.inv up w6 hv (IsL.mono cp.out ay) d3 HU.out.1 dr.inv HU.out.2;refine Fr (rs:=[3]) Aa Ad ?_;refine Fj rfl (λK hK=> ?_) Fk;go_simp;go_at_call 21
    refine b2.mono ?_;rintro e w7 ⟨v,rfl,c3,aq⟩;obtain⟨ad,rfl,I,ab,ac⟩:=dH c3;have ap:=da.next aq;refine hK.out _ _ ⟨(hA.next aq).ld,(hB.next aq).ld⟩ (λa9=> ?_);clear hK K a7 b2;have V:=ap.there;rw[<-I]at V;refine Fr (rs:=[4]) Aa Ad ?_;refine Fj rfl (λK hK=> ?_) Fk;refine wp_store_mid _ _ _ rfl B8 0 ad.toArray rfl rfl (by simpa using V) (bc I) ab ?_;rw[show ad.toArray.toList=ad from rfl];have P:=AA (ap.put (us:=ad) I ac);have d0:=AA (ap.keep (us:=ad) c3);refine hK.out _ _ ⟨((hA.next aq).oth (us:=ad) (by have:=cb.out;omega) ap.ge).ld,((hB.next aq).oth (us:=ad) (by have:=ca.out;omega) ap.ge).ld⟩ (λbb=> ?_);clear hK K a9;generalize hW9:w7.setCells B8 0 ad=W9 at *;clear hW9 V c3 aq I ab ac ap hA hB da hv hb ay cx;refine BQ (i:=5) (v:=.int .i64 0) rfl Aa Aa Aa (λ_ _ _ h=>h) (Or.inl ⟨Af,λw hw=>Af⟩) bb ?_;refine wpAnyH_done Aa ?_ _;go_wp2;refine A7 (P.out.ret rfl _ rfl) rfl ?_;rw[cr.out];exact⟨_,rfl,d0.out,P.out.bel⟩
   ·have c9:(dc==0)=false:=beq_eq_false_iff_ne.2 h0;have cr:=AA (show Rz=(Pq.zero,dc)by rw[a6.out,if_pos h0]);clear h0 a6 av;go_upto_region 9 with(fail)
    refine Bn ?_;refine ae rfl (v:=.agg ai.toArray) (w':=W3) (by unfold ai;go_simp;try rfl) ?_;refine ae rfl (v:=.int .i64 dc) (w':=W3) Af ?_;refine BX rfl _ _ _ rfl B8 0 ai.toArray rfl rfl a4.out.there Aa Aa ?_;have P:=AA (a4.out.put (us:=ai) rfl a4.out.nu);rw[show ai.toArray.toList=ai from rfl];generalize hW9:W3.setCells B8 0 ai=W9 at *;clear hW9;go_wp2;refine A7 (P.out.ret rfl _ rfl) rfl ?_;rw[cr.out];exact⟨_,rfl,dB _,P.out.bel⟩
  ·have c9:(uc==0)=false:=beq_eq_false_iff_ne.2 h0;have cq:=AA (show Rz=(Pq.zero,uc)by rw[a5.out,if_pos h0]);clear h0 a5 au av a3;go_upto_region 6 with(fail)
   refine Bn ?_;refine ae rfl (v:=.agg ai.toArray) (w':=W2) (by unfold ai;go_simp;try rfl) ?_;refine ae rfl (v:=.int .i64 uc) (w':=W2) Af ?_;refine BX rfl _ _ _ rfl B8 0 ai.toArray rfl rfl aa.out.there Aa Aa ?_;have P:=AA (aa.out.put (us:=ai) rfl aa.out.nu);rw[show ai.toArray.toList=ai from rfl];generalize hW9:W2.setCells B8 0 ai=W9 at *;clear hW9;go_wp2;refine A7 (P.out.ret rfl _ rfl) rfl ?_;rw[cq.out];exact⟨_,rfl,dB _,P.out.bel⟩
 ·have c9:(mc==0)=false:=beq_eq_false_iff_ne.2 h0;have cq:=AA (show Rz=(Pq.zero,mc)by rw[HZ.out,if_pos h0]);clear h0 b9 cc cd cl cm HZ HT HE;go_upto_region 3 with(go_at_call 71;refine ao.mono ?_;clear ao;rintro e w1 ⟨rfl,hb⟩;have Y:=AA (ax.out.next hb);clear hb)
  refine Bn ?_;refine ae rfl (v:=.agg ai.toArray) (w':=w1) (by unfold ai;go_simp;try rfl) ?_;refine ae rfl (v:=.int .i64 mc) (w':=w1) Af ?_;refine BX rfl _ _ _ rfl B8 0 ai.toArray rfl rfl Y.out.there Aa Aa ?_;have P:=AA (Y.out.put (us:=ai) rfl Y.out.nu);rw[show ai.toArray.toList=ai from rfl];generalize hW9:w1.setCells B8 0 ai=W9 at *;clear hW9;go_wp2;refine A7 (P.out.ret rfl _ rfl) rfl ?_;rw[cq.out];exact⟨_,rfl,dB _,P.out.bel⟩
end
section
open Classical
set_option maxHeartbeats 1000000 in
theorem q_Can{w:World}{t m:Nat}{E:List Ch}{tq fr:Nm}{a:Int}(hT:TM w t m E)(hE:Sane (trE E))(Y:FindOk (trE E) a tq fr):
  AC AB 19 #[ptB t,.string tq,.string fr,.int .i64 a] w λe w'=>e= .returned (.bool (decide ((aP (trE E) a tq fr).2=0)))/\Bi w.heap.size w w':=by
 have hf:=lD hT hE Y;generalize aP (trE E) a tq fr=M at *;obtain⟨p,c⟩:=M;simp only at hf⊢;have H:=AF w.heap.size w;clear hT hE Y;go_enter Tryz.func19,Tryz.ntmps19
 go_upto_region 1 with(fail)
 refine Bn ?_;refine ae rfl (v:=ptB t) (w':=w) Af ?_;refine ae rfl (v:=.string tq) (w':=w) Af ?_;refine ae rfl (v:=.string fr) (w':=w) Af ?_;refine ae rfl (v:=.int .i64 a) (w':=w) Af ?_;refine BA rfl (λK hK=> ?_);go_simp;go_at_call 18
 refine hf.mono ?_;rintro e G ⟨v,rfl,hv,hb⟩;obtain⟨C,rfl,I,Z,aa⟩:=dH hv;refine hK _ _ ?_;clear hK K hf;refine ae rfl (v:=.tuple #[.agg C.toArray,.int .i64 c]) (w':=G) Af ?_;refine ae rfl (v:=.agg C.toArray) (w':=G) Ah ?_;refine ae rfl (v:=.int .i64 c) (w':=G) Ah ?_;have F:=PB.new G;have ab:aR (G.alloc (.cells ai.toArray 39)) (.agg C.toArray) p:=IsL.mono hv F.bel;have P:=F.there;rw[<-I]at P;have V:=aQ C 0 _ (hb.trans (F.bel.mono hb.size)) hb.size (b:=G.heap.size);have H9:=AA ((F.base (H.trans (hb.mono (H).size))).put (us:=C) I aa);have ac:=AA (F.keep (us:=C) ab);refine ae rfl (v:=.pointer (some ⟨G.heap.size,0,none⟩)) (w':=G.alloc (.cells ai.toArray 39)) (by go_simp;try rfl) ?_;refine BX rfl _ _ _ rfl G.heap.size 0 C.toArray rfl rfl (by simpa using P) (bc I) Z ?_;rw[show C.toArray.toList=C from rfl];have J:=AA ((H).trans (V.mono (H).size));generalize hW5:(G.alloc (.cells ai.toArray 39)).setCells G.heap.size 0 C=W2 at *;obtain⟨B9,U⟩:∃B,G.heap.size=B:=⟨_,rfl⟩;rw[U]at H9⊢;clear hW5 U F ab P V hv hb Z aa I;clear ac H9;by_cases h0:c=0
 ·subst h0;go_wp2;go_ret;exact⟨rfl,J.out⟩
 ·have ad:(c==0)=false:=beq_eq_false_iff_ne.2 h0;have H0:=AA h0;clear h0;go_wp2;go_ret;exact⟨by rw[decide_eq_false H0.out];rfl,J.out⟩
noncomputable def acrP(R:Tr)(tq:Nm)(ta:Int)(fr:Nm)(fa:Int)(th:Nm):Pq×Int:=
 if (aP R fa th fr).2≠0 then(Pq.zero,(aP R fa th fr).2)else if (aP R ta tq th).2≠0 then(Pq.zero,(aP R ta tq th).2)else((aP R ta tq th).1.mul (aP R fa th fr).1,0)
structure AcrOk(R:Tr)(tq:Nm)(ta:Int)(fr:Nm)(fa:Int)(th:Nm):Prop where
 f1:FindOk R fa th fr
 f2:FindOk R ta tq th
 o1:(aP R fa th fr).2=0->(aP R fa th fr).1.ok 100000/\(aP R fa th fr).1.good
 o2:(aP R ta tq th).2=0->(aP R ta tq th).1.ok 100000/\(aP R ta tq th).1.good
set_option maxHeartbeats 2000000 in
theorem q_Across{w:World}{t m:Nat}{E:List Ch}{tq fr th:Nm}{ta fa:Int}(hT:TM w t m E)(hE:Sane (trE E))(b8:AcrOk (trE E) tq ta fr fa th):
  AC AB 49 #[ptB t,.string tq,.int .i64 ta,.string fr,.int .i64 fa,.string th] w λe w'=>∃v,e= .returned (.tuple #[v,.int .i64 (acrP (trE E) tq ta fr fa th).2])/\aR w' v (acrP (trE E) tq ta fr fa th).1/\Bi w.heap.size w w':=by
 have bb:=PB.new w;obtain⟨Rz,a9⟩:∃r,r=acrP (trE E) tq ta fr fa th:=⟨_,rfl⟩;have hz:=a9;unfold acrP at hz;rw[<-a9];obtain⟨k1,k2,o1,o2⟩:=b8;have av:=lD (hT.below bb.bel) hE k1;have am:=AA (show∀wq,Bi w.heap.size w wq->AC AB 18 #[ptB t,.string tq,.string th,.int .i64 ta] wq λe w'=>∃v,e= .returned (.tuple #[v,.int .i64 (aP (trE E) ta tq th).2])/\aR w' v (aP (trE E) ta tq th).1/\Bi wq.heap.size wq w' from λwq k=>lD (hT.below k) hE k2);clear k1 k2;generalize aP (trE E) fa th fr=U at *;generalize aP (trE E) ta tq th=D at *;obtain⟨up,uc⟩:=U;obtain⟨dn,dc⟩:=D;simp only at hz o1 o2 av am;have aq:=AA hz;have an:=AA o1;have ao:=AA o2;have Y:=AA bb;obtain⟨w1,hW⟩:∃W,w.alloc (.cells ai.toArray 39)=W:=⟨_,rfl⟩;rw[hW]at Y av;clear hT hE bb a9 hz o1 o2;go_enter Tryz.func49,Tryz.ntmps49
 go_upto_region 0 with(fail)
 refine Bn ?_;refine ae rfl (v:=.pointer (some ⟨w.heap.size,0,none⟩)) (w':=w1) (by subst hW;go_simp;try rfl) ?_;obtain⟨B8,a7⟩:∃B,w.heap.size=B:=⟨_,rfl⟩;have b9:=AA a7;rw[a7]at Y⊢;clear hW a7;go_upto_region 1 with(fail)
 refine Bn ?_;refine ae rfl (v:=ptB t) (w':=w1) Af ?_;refine ae rfl (v:=.string th) (w':=w1) Af ?_;refine ae rfl (v:=.string fr) (w':=w1) Af ?_;refine ae rfl (v:=.int .i64 fa) (w':=w1) Af ?_;refine BA rfl (λK hK=> ?_);go_simp;go_at_call 18
 refine av.mono ?_;rintro e I ⟨v,rfl,hv,hb⟩;obtain⟨C,rfl,G,aa,ab⟩:=dH hv;refine hK _ _ ?_;clear hK K av;refine ae rfl (v:=.tuple #[.agg C.toArray,.int .i64 uc]) (w':=I) Af ?_;refine ae rfl (v:=.agg C.toArray) (w':=I) Ah ?_;refine ae rfl (v:=.int .i64 uc) (w':=I) Ah ?_;have H:=PB.new I;have ak:aR (I.alloc (.cells ai.toArray 39)) (.agg C.toArray) up:=IsL.mono hv H.bel;have J:=H.there;rw[<-G]at J;have V:=aQ C 0 _ (hb.trans (H.bel.mono hb.size)) hb.size (b:=I.heap.size);have P:=AA (Y.out.next V);have a4:=AA ((H.base (Y.out.bel.trans (hb.mono (Y.out.bel).size))).put (us:=C) G ab);have ay:=AA (H.keep (us:=C) ak);refine ae rfl (v:=.pointer (some ⟨I.heap.size,0,none⟩)) (w':=I.alloc (.cells ai.toArray 39)) (by go_simp;try rfl) ?_;refine BX rfl _ _ _ rfl I.heap.size 0 C.toArray rfl rfl (by simpa using J) (bc G) aa ?_;rw[show C.toArray.toList=C from rfl];have bq:=AA ((Y.out.bel).trans (V.mono (Y.out.bel).size));generalize hW5:(I.alloc (.cells ai.toArray 39)).setCells I.heap.size 0 C=W2 at *;obtain⟨bi,a1⟩:∃B,I.heap.size=B:=⟨_,rfl⟩;rw[a1]at a4⊢;clear hW5 a1 H ak J V hv hb aa ab G;clear Y;by_cases h0:uc=0
 ·subst h0;have hz:=aq.out;rw[if_neg Ad]at hz;have ar:=AA hz;clear hz aq;have be:=am.out W2 P.out.bel;go_upto_region 4 with(fail)
  refine Bn ?_;refine ae rfl (v:=ptB t) (w':=W2) Af ?_;refine ae rfl (v:=.string tq) (w':=W2) Af ?_;refine ae rfl (v:=.string th) (w':=W2) Af ?_;refine ae rfl (v:=.int .i64 ta) (w':=W2) Af ?_;refine BA rfl (λK hK=> ?_);go_simp;go_at_call 18
  refine be.mono ?_;rintro e I ⟨v,rfl,hv,hb⟩;obtain⟨F,rfl,G,aa,ab⟩:=dH hv;refine hK _ _ ?_;clear hK K be;refine ae rfl (v:=.tuple #[.agg F.toArray,.int .i64 dc]) (w':=I) Af ?_;refine ae rfl (v:=.agg F.toArray) (w':=I) Ah ?_;refine ae rfl (v:=.int .i64 dc) (w':=I) Ah ?_;have H:=PB.new I;have ak:aR (I.alloc (.cells ai.toArray 39)) (.agg F.toArray) dn:=IsL.mono hv H.bel;have J:=H.there;rw[<-G]at J;have V:=aQ F 0 _ (hb.trans (H.bel.mono hb.size)) hb.size (b:=I.heap.size);have ap:=AA (P.out.next V);have ax:=AA (a4.out.next V);have ad:=AA (IsL.mono ay.out V);have a5:=AA ((H.base (P.out.bel.trans (hb.mono (P.out.bel).size))).put (us:=F) G ab);have a0:=AA (H.keep (us:=F) ak);refine ae rfl (v:=.pointer (some ⟨I.heap.size,0,none⟩)) (w':=I.alloc (.cells ai.toArray 39)) (by go_simp;try rfl) ?_;refine BX rfl _ _ _ rfl I.heap.size 0 F.toArray rfl rfl (by simpa using J) (bc G) aa ?_;rw[show F.toArray.toList=F from rfl];have bt:=AA ((P.out.bel).trans (V.mono (P.out.bel).size));generalize hW5:(I.alloc (.cells ai.toArray 39)).setCells I.heap.size 0 F=W3 at *;obtain⟨bp,a2⟩:∃B,I.heap.size=B:=⟨_,rfl⟩;rw[a2]at a5⊢;clear hW5 a2 H ak J V hv hb aa ab G;clear P am ay a4;by_cases h0:dc=0
  ·subst h0;have hz:=ar.out;rw[if_neg Ad]at hz;have a6:=AA hz;obtain⟨u1,u2⟩:=an.out rfl;obtain⟨d1,d2⟩:=ao.out rfl;have a3:=tK _ _ dn up W3 a0.out ad.out d1 u1 d2 u2;have bO:=AA (show(AB.info? 39).map (·.size)=some F.length by rw[a5.out.len];kernel_rfl);have bz:=AA (show(AB.info? 39).map (·.size)=some C.length by rw[ax.out.len];kernel_rfl);clear hz ar u1 u2 d1 d2 an ao a0 ad;go_upto_region 7 with(fail)
   refine Bn ?_;refine Dp rfl _ _ rfl bp 0 rfl F _ a5.out.ld CC rfl bO.out ?_;refine Dp rfl _ _ rfl bi 0 rfl C _ ax.out.ld CC rfl bz.out ?_;refine BA rfl (λK hK=> ?_);go_simp;go_at_call 21
   refine a3.mono ?_;rintro e w6 ⟨v,rfl,hv,hb⟩;obtain⟨ac,rfl,G,aa,ab⟩:=dH hv;refine hK _ _ ?_;clear hK K a3;have au:=ap.out.next hb;have J:=au.there;rw[<-G]at J;refine BX rfl _ _ _ rfl B8 0 ac.toArray rfl rfl (by simpa using J) (bc G) aa ?_;rw[show ac.toArray.toList=ac from rfl];have Z:=AA (au.put (us:=ac) G ab);have b0:=AA (au.keep (us:=ac) hv);generalize hW9:w6.setCells B8 0 ac=W9 at *;clear hW9 J au hv hb aa ab G;go_wp2;refine A7 (Z.out.ret rfl _ rfl) rfl ?_;rw[a6.out];exact⟨_,rfl,b0.out,Z.out.bel⟩
  ·have b2:(dc==0)=false:=beq_eq_false_iff_ne.2 h0;have a6:=AA (show Rz=(Pq.zero,dc)by rw[ar.out,if_pos h0]);clear h0 ar an ao;go_upto_region 6 with(fail)
   refine Bn ?_;refine ae rfl (v:=.agg ai.toArray) (w':=W3) (by unfold ai;go_simp;try rfl) ?_;refine ae rfl (v:=.int .i64 dc) (w':=W3) Af ?_;refine BX rfl _ _ _ rfl B8 0 ai.toArray rfl rfl ap.out.there Aa Aa ?_;have Z:=AA (ap.out.put (us:=ai) rfl ap.out.nu);rw[show ai.toArray.toList=ai from rfl];generalize hW9:W3.setCells B8 0 ai=W9 at *;clear hW9;go_wp2;refine A7 (Z.out.ret rfl _ rfl) rfl ?_;rw[a6.out];exact⟨_,rfl,dB _,Z.out.bel⟩
 ·have b2:(uc==0)=false:=beq_eq_false_iff_ne.2 h0;have b1:=AA (show Rz=(Pq.zero,uc)by rw[aq.out,if_pos h0]);clear h0 aq an ao am;go_upto_region 3 with(fail)
  refine Bn ?_;refine ae rfl (v:=.agg ai.toArray) (w':=W2) (by unfold ai;go_simp;try rfl) ?_;refine ae rfl (v:=.int .i64 uc) (w':=W2) Af ?_;refine BX rfl _ _ _ rfl B8 0 ai.toArray rfl rfl P.out.there Aa Aa ?_;have Z:=AA (P.out.put (us:=ai) rfl P.out.nu);rw[show ai.toArray.toList=ai from rfl];generalize hW9:W2.setCells B8 0 ai=W9 at *;clear hW9;go_wp2;refine A7 (Z.out.ret rfl _ rfl) rfl ?_;rw[b1.out];exact⟨_,rfl,dB _,Z.out.bel⟩
end
section
open Classical
def rv(L:List Nm)(i k:Nat):Option Nm:=if k<i\/L.length - i<=k then L[L.length - 1 - k]? else L[k]?
structure RvAt(w W:World)(g:Nat)(cap:Nat)(L:List Nm)(i:Nat):Prop where
 upd:Upd w g W
 blk:∃cur,W.heap[g]? =some (.cells cur 9 (0,0))/\cur.size=cap/\∀k,k<L.length->∃x,rv L i k=some x/\cur[k]? =some (.string x)
variable{w W:World}{g:Nat}
theorem Upd.drew'(u:Upd w g W):Upd w g W.drew:=⟨u.os,u.tape,u.output,u.size,u.block⟩
variable{L:List Nm}
theorem RvAt.next{cap:Nat}{i:Nat}{x y:Nm}(h:RvAt w W g cap L i)(hn:L.length<=cap)(K:2*i+1<L.length)(I:rv L i i=some x)(hy:rv L i (L.length - 1 - i)=some y):
  RvAt w ((W.setCell ⟨g,i,none⟩ (.string y)).setCell ⟨g,L.length - 1 - i,none⟩ (.string x)).drew g cap L (i+1):=by
 obtain⟨cur,hc,C,J⟩:=h.blk;have G:L[i]? =some x:=by unfold rv at I;rwa [if_neg no]at I
 have H:L[L.length - 1 - i]? =some y:=by unfold rv at hy;rwa [if_neg no]at hy
 refine⟨Upd.drew' ((h.upd.trans (Upd.cell _ _ _ _)).trans (Upd.cell _ _ _ _)),_,CZ _ g _ _ _ _ (CZ _ g _ _ _ _ hc),by simp[C],λk F=> ?_⟩;rw[DQ,DQ,Array.size_setIfInBounds];by_cases e1:L.length - 1 - i=k
 ·refine⟨x,?_,by rw[if_pos e1,if_pos no]⟩;unfold rv;rw[if_pos (.inr no),show L.length - 1 - k=i by omega];exact G
 ·rw[if_neg e1];by_cases e2:i=k
  ·refine⟨y,?_,by rw[if_pos e2,if_pos no]⟩;unfold rv;rw[if_pos (.inl no),<-e2];exact H
  ·rw[if_neg e2];obtain⟨z,h1,h2⟩:=J k F;refine⟨z,?_,h2⟩;rw[<-h1];unfold rv;by_cases hc1:k<i\/L.length - i<=k
   ·rw[if_pos hc1,if_pos no]
   ·rw[if_neg hc1,if_neg no]
theorem RvAt.done{cap b:Nat}{i:Nat}(h:RvAt w W g cap L i)(hb:b<=g/\L.length<=cap/\cap<=maxLen)(hi:L.length<=2*i+1)(G:2*i<=L.length+1):aZ W b (.slice (some ⟨g,0,none⟩) L.length cap) L.reverse:=by
 obtain⟨cur,hc,F,H⟩:=h.blk;refine⟨Ad,.inr ⟨g,cap,cur,Ad,hb.1,hc,by simpa using hb.2.1,hb.2.2,by omega,?_⟩⟩;apply List.ext_getElem?;intro k;rw[BI,Bp,List.length_reverse,Nat.mul_one];split
 ·rename_i C;obtain⟨z,h1,h2⟩:=H k C;rw[GQ,h2,List.getElem?_reverse C];unfold rv at h1;split at h1
  ·rw[h1];rfl
  ·rw[show L.length - 1 - k=k by omega,h1];rfl
 ·rename_i C;rw[List.getElem?_eq_none (by simp;omega)];rfl
set_option maxHeartbeats 1000000 in
theorem q_Reverse{v:Value}{b:Nat}(h:aZ w b v L)(hL:L.length<=1000):
  AC AB 107 #[v] w λe w'=>(∃u,e= .returned u)/\aZ w' b v L.reverse/\(∀g,v.ownBlock=some g->Upd w g w')/\(v.ownBlock=none->w'=w):=by
 rcases h.2 with⟨rfl,hn⟩ | ⟨g,cap,cur,rfl,hb,hc,K,I,C,P⟩
 ·have:L=[]:=CF hn;subst this;go_enter Tryz.func107,Tryz.ntmps107
  go_wp2;refine _root_.Go.wp_loop_rounds 1 ?_;rw[rounds_succ];go_wp2;go_end0
  exact⟨⟨_,rfl⟩,Dv _ _ _ _,λg hg=>(by cases hg),λ_=>rfl⟩
 ·obtain⟨n,hn⟩:∃n,n=L.length:=⟨_,rfl⟩;rw[<-hn];have H0:=AA (show RvAt w w g cap L 0 from⟨⟨rfl,rfl,rfl,rfl,λ_ _=>rfl⟩,cur,hc,no,λk G=>by
   refine⟨L[k],by unfold rv;rw[if_neg no,AJ G],?_⟩;have h1:(L.map Bb)[k]? =some (.string L[k]):=by rw[Bp,AJ G];rfl
   rw[<-P,BI]at h1;split at h1
   ·rw[<-GQ];exact h1
   ·cases h1⟩)
  have F:=AA hn;have hm:(n:Int)<=1000:=no
  have HB:=AA (By hb (By K I));clear h hb hc K I C P hn hL;go_enter Tryz.func107,Tryz.ntmps107
  go_wp2;go_loopw [2,3] (λZ s3 wr=>∃i:Nat,2*i<=n+1/\Z= .int .i64 (i:Int)/\s3= .int .i64 ((n:Int) - 1 - i)/\Hid (RvAt w wr g cap L i)) (λZ _ _=>n+1 - (intOf Z).toNat)
  case atStart=>exact⟨0,no,rfl,Ad,H0⟩
  case round=>
   clear H0;obtain⟨i,hi,rfl,rfl,H⟩:=hrel;rcases Bc (2*i+1) n with Y | ab
   ·have J:((i:Int)<(n:Int) - 1 - i)=True:=eq_true no;obtain⟨cur,hc,C,G⟩:=H.out.blk;obtain⟨x,hx,c1⟩:=G i (by rw[<-F.out];omega);obtain⟨y,hy,c2⟩:=G (n - 1 - i) (by rw[<-F.out];omega);have f1:wr.cell? ⟨g,i,none⟩=some (.string x):=by rw[aH hc];exact c1
    have f2:wr.cell? ⟨g,n - 1 - i,none⟩=some (.string y):=by rw[aH hc];exact c2
    have aa:∀j,wr.frozen? ⟨g,j,none⟩=false:=λj=>by simp[World.frozen?,hc]
    have ak:((n:Int) - 1 - i).toNat=n - 1 - i:=no
    have hr1:(0:Int)<=(n:Int) - 1 - i:=no
    have ad:(n:Int) - 1 - i<n:=no
    have HC:=AA (By hc (By C G));clear hc C G c1 c2;have ac:i≠n - 1 - i:=no
    have U:=AA (show RvAt w ((wr.setCell ⟨g,i,none⟩ (.string y)).setCell ⟨g,n - 1 - i,none⟩ (.string x)).drew g cap L (i+1)from by
     have h1:=H.out.next HB.out.2.1 (by rw[<-F.out];exact Y) hx (by rw[<-F.out];exact hy);rw[<-F.out]at h1;exact h1)
    clear hx hy;go_wp2;go_region
    go_wp2;go_roundw
    case rel=>exact⟨i+1,no,by go_num,by go_num,U⟩
    case measure=>simp[intOf];omega
   ·have J:((i:Int)<(n:Int) - 1 - i)=False:=eq_false no;have HQ:=AA (show aZ wr b (.slice (some ⟨g,0,none⟩) n cap) L.reverse from by
     have h1:=H.out.done HB.out (by rw[<-F.out];omega) (by rw[<-F.out];omega);rw[<-F.out]at h1;exact h1)
    have HU:=AA H.out.upd;clear H;go_wp2;go_end0
    exact⟨⟨_,rfl⟩,HQ.out,λg' V=>by have e:g=g':=A3.inj V;subst e;exact HU.out,λh=>by cases h⟩
end
section
open Classical
theorem nm_app{w:World}{base:Nat}{v:Value}{L L2:List Nm}{ty:TypeId}{ad:Addr}{c:Nat}(h:aZ w base v L)(hb:base<=w.heap.size)(hl:L.length+L2.length<=1000)(hc:∀j u,(L2.map Bb)[j]? =some u->w.cell? (ad.add j)=some u):
  ∃v' w',(BM #[68,68] ty #[v,.slice (some ad) L2.length c]).run AB w= .ok v' w'/\aZ w' base v' (L++L2)/\w.grownBy w' v.ownBlock/\(v'.ownBlock=v.ownBlock\/v'.ownBlock=some w.heap.size):=by
 have H:(1000:Nat)<=maxLen:=by unfold maxLen;omega
 obtain⟨J,hi,C,F,G⟩:=DF (show(AB.info? 9).map (λi=>(i.zero,i.size,i.bytes))=some (some (.string BW),1,16)by kernel_rfl);obtain⟨v',w',K,k2,k3,_,U⟩:=run_append_own_at (P:=AB) (w:=w) base 68 ty 9 J (.string BW) 1 16 DE hi C F G rfl it v L.length (L.map Bb) h ad L2.length c (L2.map Bb) Ad hc (λu I=>by obtain⟨x,_,rfl⟩:=Ba.1 I;rfl) no no hb;refine⟨v',w',K,?_,k3,U⟩;show w'.ownsRow base 9 1 v' (L++L2).length ((L++L2).map Bb);rw[Bh,Ce];exact k2
noncomputable def qC(R:Tr)(a:Int)(x y:Nm):List Nm:=a8 (bf R a x) (aF R a x y).1++ [(aF R a x y).1]++(a8 (bf R a y) (aF R a x y).1).reverse
end
section
open Classical
set_option maxHeartbeats 2000000 in
theorem q_Path{w:World}{t m:Nat}{E:List Ch}{x y:Nm}{a:Int}(hT:TM w t m E)(hE:Sane (trE E)):
  AC AB 48 #[ptB t,.string x,.string y,.int .i64 a] w λe w'=>∃v,e= .returned (.tuple #[v,.int .i64 (aF (trE E) a x y).2])/\(if (aF (trE E) a x y).2=0 then aZ w' w.heap.size v (qC (trE E) a x y)else v= .slice none 0 0)/\Bi w.heap.size w w':=by
 have ab:=q_meet hT hE x y a;have ao:=jo (R:=trE E) (a:=a) (x:=x) (y:=y);unfold qC;generalize aF (trE E) a x y=M at *;obtain⟨C,mc⟩:=M;simp only at ab ao⊢;by_cases h0:mc=0
 ·subst h0;obtain⟨kx,ky⟩:=ao rfl;have lx:=gC hE (a:=a) kx;have ly:=gC hE (a:=a) ky;have ax:=AA (show∀wq,Bi w.heap.size w wq->AC AB 106 #[ptB t,.string x,.string C,.int .i64 a] wq λe w'=>∃v,e= .returned v/\aZ w' wq.heap.size v (a8 (bf (trE E) a x) C)/\Bi wq.heap.size wq w' from λwq k=>ub (hT.below k) (cR hE.ok a x) no);have ay:=AA (show∀wq,Bi w.heap.size w wq->AC AB 106 #[ptB t,.string y,.string C,.int .i64 a] wq λe w'=>∃v,e= .returned v/\aZ w' wq.heap.size v (a8 (bf (trE E) a y) C)/\Bi wq.heap.size wq w' from λwq k=>ub (hT.below k) (cR hE.ok a y) no);have l1:(a8 (bf (trE E) a x) C).length<=24:=AD ((List.takeWhile_sublist _).length_le) lx;have l2:(a8 (bf (trE E) a y) C).length<=24:=AD ((List.takeWhile_sublist _).length_le) ly;generalize a8 (bf (trE E) a x) C=LX at *;generalize a8 (bf (trE E) a y) C=LY at *
  suffices HS:AC AB 48 #[ptB t,.string x,.string y,.int .i64 a] w λe w'=>∃v,e= .returned (.tuple #[v,.int .i64 0])/\aZ w' w.heap.size v (LX++ [C]++LY.reverse)/\Bi w.heap.size w w' from HS.mono (by
   rintro e w' ⟨v,rfl,k1,k2⟩;exact⟨v,rfl,by rw[if_pos rfl];exact k1,k2⟩)
  clear hT hE ao kx ky lx ly;go_enter Tryz.func48,Tryz.ntmps48
  go_upto_region 4 with(go_at_call 71;refine ab.mono ?_;clear ab;rintro e w1 ⟨rfl,hb⟩;have G:=AA hb;clear hb)
  have a4:=ax.out w1 G.out;refine Bn ?_;refine ae rfl (v:=ptB t) (w':=w1) Af ?_;refine ae rfl (v:=.string x) (w':=w1) Af ?_;refine ae rfl (v:=.string C) (w':=w1) Af ?_;refine ae rfl (v:=.int .i64 a) (w':=w1) Af ?_;refine BA rfl (λK hK=> ?_);go_simp;go_at_call 106
  refine a4.mono ?_;rintro e w2 ⟨v1,rfl,U,hb⟩;refine hK _ _ ?_;clear hK K a4 ax;have an:=G.out.trans (hb.mono G.out.size);obtain⟨v2,w3,I,F,V,bi⟩:=nm_app (ty:=68) (ad:=⟨w2.heap.size,0,none⟩) (c:=1) (L2:=[C]) (eh (w':=w2.alloc (.cells #[.string C] 9)) U (λg hg=>Fo _ _ g (bV U hg).2)) (by rw[asz];have:=hb.size;omega) (by simp;omega) (λj u hu=>by
   rw[bM,A5,aH (Bm w2 _)]
   cases j with
   | zero=>simpa using hu
   | succ j=>simp at hu)
  have a2:Bi w.heap.size w w3:=(an.alloc an.size _).grown V (by rw[asz];have:=an.size;omega) (λk e=>by
   have:=(bV U (g:=k) e).1;have:=G.out.size;omega)
  refine ae rfl (v:=.string C) (w':=w2) Ah ?_;refine ae rfl (v:=.slice (some ⟨w2.heap.size,0,none⟩) 1 1) (w':=w2.alloc (.cells #[.string C] 9)) Ah ?_;refine jk rfl rfl rfl rfl I ?_;have a1:=AA (show w1.heap.size<=w3.heap.size from AD hb.size (AD (by rw[asz];omega) V.size));have Y:=AA F;have ak:=AA a2;clear I F V bi a2 an U hb;have a5:=ay.out w3 ak.out;clear ay
  go_upto_region 7 with(first
   | (go_at_call 106;refine a5.mono ?_;clear a5;rintro e w4 ⟨v3,rfl,J,a3⟩;have a9:=q_Reverse J no;have a0:=AA J;have am:=AA a3;clear J a3)
   | (go_at_call 107;refine a9.mono ?_;clear a9;rintro e w5 ⟨⟨u,rfl⟩,H,hu,hn⟩))
  have ar:∀g,v2.ownBlock=some g->g<w3.heap.size:=λg hg=>(bV Y.out hg).2
  have Z:∀g,g<w3.heap.size->w5.heap[g]? =w3.heap[g]? :=λg hg=>by
   cases ho:v3.ownBlock with
   | none=>rw[hn ho];exact am.out.block g hg
   | some g3=>
    have h3:=(bV a0.out ho).1;rw[(hu g3 ho).block g no];exact am.out.block g hg
  have aq:w5.heap.size=w4.heap.size:=by
   cases ho:v3.ownBlock with
   | none=>rw[hn ho]
   | some g3=>exact(hu g3 ho).size
  have aa:Bi w.heap.size w w5:=by
   have h4:Bi w.heap.size w w4:=ak.out.trans (am.out.mono ak.out.size)
   cases ho:v3.ownBlock with
   | none=>rw[hn ho];exact h4
   | some g3=>exact(hu g3 ho).below h4 (by have:=(bV a0.out ho).1;have:=ak.out.size;omega)
  have F:aZ w5 w1.heap.size v2 (LX++ [C]):=eh Y.out (λg hg=>Z g (ar g hg));have au:w1.heap.size<=w5.heap.size:=by have:=a1.out;have:=am.out.size;omega
  rcases id H.2 with⟨av,a6⟩ | ⟨g3,ap,bt,av,_⟩
  ·subst av;have hl:LY.reverse=[]:=CF a6;rcases id F.2 with⟨_,hz⟩ | ⟨g2,P,bq,bp,_,_,a7,_⟩
   ·simp at hz
   ·subst bp;have bz:LX.length+1<=P:=by simpa using a7
    have e:(LX++ [C]).length=LX.length+1:=Ad
    have HQ:=AA (show aZ w5 w.heap.size (.slice (some ⟨g2,0,none⟩) (LX.length+1) P) (LX++ [C]++LY.reverse)by rw[hl,CP,<-e];exact EW F G.out.size);clear e a7;have bb:=AA aa;clear hl a6 F aa Z ar aq hu hn H au;refine Bn ?_;refine ae rfl (v:=.slice (some ⟨g2,0,none⟩) (LX++ [C]).length P) (w':=w5) Af ?_;refine ae rfl (v:=.slice none 0 0) (w':=w5) Af ?_;refine ae rfl (v:=.slice (some ⟨g2,0,none⟩) (LX++ [C]).length P) (w':=w5) Ah ?_;go_wp2;go_ret2
    exact⟨_,rfl,HQ.out,bb.out⟩
  ·subst av;obtain⟨v6,w6,I,ac,V,_⟩:=nm_app (ty:=68) (ad:=⟨g3,0,none⟩) (c:=ap) (L2:=LY.reverse) F au (by simp;omega) (λj u hu=>by
    obtain⟨g',e',h'⟩:=cQ H hu;injection e' with e';injection e' with e';subst e';rw[bM,A5];exact h')
   have HQ:=AA (show aZ w6 w.heap.size v6 (LX++ [C]++LY.reverse)from EW ac G.out.size);have be:=AA (aa.grown V aa.size (λk e=>by have:=(bV F (g:=k) e).1;have:=G.out.size;omega));clear F aa Z ar aq hu hn H au ac V;refine Bn ?_;refine ae rfl (v:=v2) (w':=w5) Af ?_;refine ae rfl (v:=.slice (some ⟨g3,0,none⟩) LY.reverse.length ap) (w':=w5) Af ?_;refine jk rfl rfl rfl rfl I ?_;clear I;go_wp2;go_ret2
   exact⟨_,rfl,HQ.out,be.out⟩
 ·have bO:(mc==0)=false:=beq_eq_false_iff_ne.2 h0
  suffices HS:AC AB 48 #[ptB t,.string x,.string y,.int .i64 a] w λe w'=>e= .returned (.tuple #[.slice none 0 0,.int .i64 mc])/\Bi w.heap.size w w' from HS.mono (by
   rintro e w' ⟨rfl,k2⟩;exact⟨_,rfl,by rw[if_neg h0],k2⟩)
  clear h0 ao hT hE;go_enter Tryz.func48,Tryz.ntmps48
  go_wp2_with (go_at_call 71;refine ab.mono ?_;clear ab;rintro e w1 ⟨rfl,hb⟩;have G:=AA hb;clear hb)
  go_ret2
  exact⟨rfl,G.out⟩
end
def Bd(n:Nat)(x:Int):Prop:=x.natAbs<=n
section
variable {m n:Nat} {x y:Int}
theorem Bd.mono(h:Bd m x)(k:m<=n):Bd n x:=AD h k
theorem Bd.add(h:Bd m x)(k:Bd n y):Bd (m+n) (x+y):=by unfold Bd at *;omega
theorem Bd.sub(h:Bd m x)(k:Bd n y):Bd (m+n) (x - y):=by unfold Bd at *;omega
theorem Bd.neg(h:Bd m x):Bd m (-x):=by unfold Bd at *;omega
theorem Bd.mul(h:Bd m x)(k:Bd n y):Bd (m*n) (x*y):=by unfold Bd at *;rw[Int.natAbs_mul];exact Nat.mul_le_mul h k
theorem Bd.two:Bd 2 2:=AE _
end
def fE(a:Nat)(q:Qq):Prop:=∃W X Y Z:Int,Sim ⟨(W:Rat),X,Y,Z⟩ q.r/\Bd (2^a) W/\Bd (2^a) X/\Bd (2^a) Y/\Bd (2^a) Z
def fw(b:Nat)(v:Vq):Prop:=∃D X Y Z:Int,D≠0/\v.x.v*(D:Rat)=X/\v.y.v*(D:Rat)=Y/\v.z.v*(D:Rat)=Z/\Bd (2^b) D/\Bd (2^b) X/\Bd (2^b) Y/\Bd (2^b) Z
theorem sH{a:Int}(h:a≠0):(a:Rat)≠0:=λe=>h (by exact_mod_cast e)
variable{a b:Nat}{q:Qq}
theorem fE.mono(h:fE a q)(k:a<=b):fE b q:=by
 obtain⟨W,X,Y,Z,h0,h1,h2,h3,C⟩:=h;have e:=E4 (n:=2) it k;exact⟨W,X,Y,Z,h0,h1.mono e,h2.mono e,h3.mono e,C.mono e⟩
theorem fw.mono{q:Vq}(h:fw a q)(k:a<=b):fw b q:=by
 obtain⟨D,X,Y,Z,h0,F,k2,k3,h1,h2,h3,C⟩:=h;have e:=E4 (n:=2) it k;exact⟨D,X,Y,Z,h0,F,k2,k3,h1.mono e,h2.mono e,h3.mono e,C.mono e⟩
theorem qD{x:Fq}{F C:Int}(I:x.valid=true)(J:F≠0)(h:x.v*(F:Rat)=C):x.p<=C.natAbs/\x.q<=F.natAbs:=by
 have hn:=Fq.valid.n I;have e:Fq.sg x.s x.p*F=C*(x.q:Int):=by
  unfold Fq.v at h;rw[<-EI (x:=F),<-EI (x:=C),FE,FD (by simpa using hn) it]at h;simpa using h
 have G:x.p*F.natAbs=C.natAbs*x.q:=by
  have:=congrArg Int.natAbs e;rwa [Int.natAbs_mul,Int.natAbs_mul,nP,Int.natAbs_natCast]at this
 have hc:Nat.Coprime x.p x.q:=Fq.valid.g I;have H:0<F.natAbs:=no
 refine⟨?_,Nat.le_of_dvd H (hc.symm.dvd_of_dvd_mul_left ⟨C.natAbs,by rw[G,BV]⟩)⟩;by_cases h0:C.natAbs=0
 ·rw[h0,Nat.zero_mul]at G;rcases Nat.mul_eq_zero.1 G with h1 | h1
  ·omega
  ·omega
 ·exact Nat.le_of_dvd no (hc.dvd_of_dvd_mul_right ⟨F.natAbs,by rw[<-G]⟩)
variable{d:Nat}
theorem ud{n:Nat}(h:n<=2^b)(C:b<32*d):nl n<=d:=aI.2 (by
 have e:(4294967296:Nat)^d=2^(32*d):=by rw[show(4294967296:Nat)=2^32 by decide,<-Nat.pow_mul]
 rw[e];exact Nat.lt_of_le_of_lt h (Nat.pow_lt_pow_right it C))
variable{v:Vq}
theorem fw.ok(h:fw b v)(g:v.good)(F:b<32*d):v.ok d:=by
 obtain⟨D,X,Y,Z,h0,P,k2,k3,h1,h2,h3,J⟩:=h;have f:∀ {x:Fq} {C:Int},x.valid=true->x.v*(D:Rat)=C->Bd (2^b) C->x.ok d:=λG k K=>by
  obtain⟨H,I⟩:=qD G h0 k;exact⟨ud (AD H K) F,ud (AD I h1) F,Fq.valid.n G⟩
 exact⟨f g.x P h2,f g.y k2 h3,f g.z k3 J⟩
theorem fE.over(h:fE a q)(g:q.good):∃F W X Y Z:Int,F≠0/\q.w.v*(F:Rat)=W/\q.x.v*(F:Rat)=X/\q.y.v*(F:Rat)=Y/\q.z.v*(F:Rat)=Z/\Bd (2^a) F/\Bd (2^a) W/\Bd (2^a) X/\Bd (2^a) Y/\Bd (2^a) Z:=by
 obtain⟨W,X,Y,Z,⟨k,V,e⟩,h1,h2,h3,P⟩:=h;have C:=g.one;rw[mC g.comp,e,pN k V]at C;have G:∃F:Int,(QR.mk (W:Rat) X Y Z).fst=(F:Rat)/\Bd (2^a) F:=by
  unfold QR.fst;simp only;split
  ·exact⟨W,rfl,h1⟩
  ·split
   ·exact⟨X,rfl,h2⟩
   ·split
    ·exact⟨Y,rfl,h3⟩
    ·exact⟨Z,rfl,P⟩
 obtain⟨F,G,U⟩:=G;rw[G]at C;have H:=congrArg QR.w e;have I:=congrArg QR.x e;have J:=congrArg QR.y e;have K:=congrArg QR.z e;unfold QR.smul Qq.r at H I J K;simp only at H I J K;refine⟨F,W,X,Y,Z,λh=> ?_,?_,?_,?_,?_,U,h1,h2,h3,P⟩
 ·rw[h]at C;simp at C
 ·grind
 ·grind
 ·grind
 ·grind
theorem fE.ok(h:fE a q)(g:q.good)(G:a<32*d):q.ok d:=by
 obtain⟨F,W,X,Y,Z,h0,V,k1,k2,k3,U,h1,h2,h3,K⟩:=h.over g;have f:∀ {x:Fq} {C:Int},x.valid=true->x.v*(F:Rat)=C->Bd (2^a) C->x.ok d:=λH k P=>by
  obtain⟨I,J⟩:=qD H h0 k;exact⟨ud (AD I P) G,ud (AD J U) G,Fq.valid.n H⟩
 exact⟨f g.comp.w V h1,f g.comp.x k1 h2,f g.comp.y k2 h3,f g.comp.z k3 K⟩
theorem fE.id:fE 0 Qq.id:=⟨1,0,0,0,by rw[id_r];exact Sim.refl _,AE _,AY _,AY _,AY _⟩
theorem fw.zero:fw 0 (Vq.of 0 0 0):=⟨1,0,0,0,it,by rw[show(Vq.of 0 0 0).x=Fq.ofInt 0 from rfl,dx];simp,by rw[show(Vq.of 0 0 0).y=Fq.ofInt 0 from rfl,dx];simp,by rw[show(Vq.of 0 0 0).z=Fq.ofInt 0 from rfl,dx];simp,AE _,AY _,AY _,AY _⟩
theorem fE.mul{p:Qq}(h:fE a p)(k:fE b q)(P:p.good)(U:q.good):fE (a+b+2) (p.mul q):=by
 obtain⟨W,X,Y,Z,h0,h1,h2,h3,I⟩:=h;obtain⟨C,F,G,H,V,J,k2,k3,K⟩:=k;have e:2^a*2^b+(2^a*2^b+(2^a*2^b+2^a*2^b))=2^(a+b+2):=by rw[BC,BC];omega
 have e':2^b*2^a=2^a*2^b:=BV _ _;refine⟨W*C - (X*F+(Y*G+Z*H)),F*W+X*C+(Y*H - Z*G),G*W+Y*C+(Z*F - X*H),H*W+Z*C+(X*G - Y*F),?_,?_,?_,?_,?_⟩
 ·have:=(Sim.mul h0 V).trans (aaD P U);unfold QR.mul at this;simp only at this;simp only[Rat.intCast_sub,Rat.intCast_add,Rat.intCast_mul];exact this
 ·exact((h1.mul J).sub ((h2.mul k2).add ((h3.mul k3).add (I.mul K)))).mono (Nat.le_of_eq e)
 ·exact(((k2.mul h1).add (h2.mul J)).add ((h3.mul K).sub (I.mul k3))).mono no
 ·exact(((k3.mul h1).add (h3.mul J)).add ((I.mul k2).sub (h2.mul K))).mono no
 ·exact(((K.mul h1).add (I.mul J)).add ((h2.mul k3).sub (h3.mul k2))).mono no
theorem fE.inv(h:fE a q)(g:q.good):fE a q.inv:=by
 obtain⟨W,X,Y,Z,h0,h1,h2,h3,C⟩:=h;refine⟨W, -X, -Y, -Z,?_,h1,h2.neg,h3.neg,C.neg⟩;have:=(Sim.conj h0).trans (aaE g);unfold QR.conj at this;simp only at this;simp only[Rat.intCast_neg];exact this
theorem fw.app(h:fE a q)(k:fw b v)(g:q.good)(gv:v.good):fw (2*a+b+4) (q.app v):=by
 obtain⟨W,X,Y,Z,h0,h1,h2,h3,C⟩:=h;obtain⟨D,x,y,z,d0,J,K,P,k0,G,k2,k3⟩:=k;have hq0:q.r.nrm≠0:=fm g;have F:(QR.mk (W:Rat) X Y Z).nrm≠0:=Sim.nrm h0.symm hq0;have U:(q.app v).r=(QR.mk (W:Rat) X Y Z).app v.r:=by rw[app_r g gv,app_sim h0 F]
 have I:(QR.mk (W:Rat) X Y Z).nrm=((W*W+(X*X+(Y*Y+Z*Z)):Int):Rat):=by
  unfold QR.nrm;simp only[Rat.intCast_add,Rat.intCast_mul]
 have hi:=Dz _ F;have H:2^(2*a+b+4)=16*(2^a*2^a*2^b):=by
  rw[BC,BC,Nat.two_mul,BC];omega
 have hW:0<(2:Nat)^a:=Nat.pow_pos it;have e1:2^a*2^b*2^a=2^a*2^a*2^b:=by rw[C0,BV (2^b),<-C0]
 refine⟨(W*W+(X*X+(Y*Y+Z*Z)))*D,(W*W - (X*X+(Y*Y+Z*Z)))*x+(2*(X*x+(Y*y+Z*z)))*X+(2*W)*(Y*z - Z*y),
  (W*W - (X*X+(Y*Y+Z*Z)))*y+(2*(X*x+(Y*y+Z*z)))*Y+(2*W)*(Z*x - X*z),
  (W*W - (X*X+(Y*Y+Z*Z)))*z+(2*(X*x+(Y*y+Z*z)))*Z+(2*W)*(X*y - Y*x),?_,?_,?_,?_,?_,?_,?_,?_⟩
 ·intro h;rcases Int.mul_eq_zero.1 h with h | h
  ·exact F (by rw[I,h];rfl)
  ·exact d0 h
 ·have:=congrArg VR.x U;unfold QR.app VR.smul QR.rot Vq.r at this;simp only at this;rw[this];simp only[Rat.intCast_sub,Rat.intCast_add,Rat.intCast_mul,<-J,<-K,<-P];rw[I]at hi⊢;simp only[Rat.intCast_add,Rat.intCast_mul]at hi⊢;have V:((2:Int):Rat)=2:=rfl
  grind
 ·have:=congrArg VR.y U;unfold QR.app VR.smul QR.rot Vq.r at this;simp only at this;rw[this];simp only[Rat.intCast_sub,Rat.intCast_add,Rat.intCast_mul,<-J,<-K,<-P];rw[I]at hi⊢;simp only[Rat.intCast_add,Rat.intCast_mul]at hi⊢;have V:((2:Int):Rat)=2:=rfl
  grind
 ·have:=congrArg VR.z U;unfold QR.app VR.smul QR.rot Vq.r at this;simp only at this;rw[this];simp only[Rat.intCast_sub,Rat.intCast_add,Rat.intCast_mul,<-J,<-K,<-P];rw[I]at hi⊢;simp only[Rat.intCast_add,Rat.intCast_mul]at hi⊢;have V:((2:Int):Rat)=2:=rfl
  grind
 ·refine(((h1.mul h1).add ((h2.mul h2).add ((h3.mul h3).add (C.mul C)))).mul k0).mono ?_;rw[H];have:(2^a*2^a+(2^a*2^a+(2^a*2^a+2^a*2^a)))*2^b=4*(2^a*2^a*2^b):=Ar
  omega
 ·refine((((h1.mul h1).sub ((h2.mul h2).add ((h3.mul h3).add (C.mul C)))).mul G).add ((Bd.two.mul ((h2.mul G).add ((h3.mul k2).add (C.mul k3)))).mul h2) |>.add ((Bd.two.mul h1).mul ((h3.mul k3).sub (C.mul k2)))).mono ?_;rw[H];generalize 2^a=A at *;generalize 2^b=B at *;have:(A*A+(A*A+(A*A+A*A)))*B+2*(A*B+(A*B+A*B))*A+2*A*(A*B+A*B)=14*(A*A*B):=Ar
  omega
 ·refine((((h1.mul h1).sub ((h2.mul h2).add ((h3.mul h3).add (C.mul C)))).mul k2).add ((Bd.two.mul ((h2.mul G).add ((h3.mul k2).add (C.mul k3)))).mul h3) |>.add ((Bd.two.mul h1).mul ((C.mul G).sub (h2.mul k3)))).mono ?_;rw[H];generalize 2^a=A at *;generalize 2^b=B at *;have:(A*A+(A*A+(A*A+A*A)))*B+2*(A*B+(A*B+A*B))*A+2*A*(A*B+A*B)=14*(A*A*B):=Ar
  omega
 ·refine((((h1.mul h1).sub ((h2.mul h2).add ((h3.mul h3).add (C.mul C)))).mul k3).add ((Bd.two.mul ((h2.mul G).add ((h3.mul k2).add (C.mul k3)))).mul C) |>.add ((Bd.two.mul h1).mul ((h2.mul k2).sub (h3.mul G)))).mono ?_;rw[H];generalize 2^a=A at *;generalize 2^b=B at *;have:(A*A+(A*A+(A*A+A*A)))*B+2*(A*B+(A*B+A*B))*A+2*A*(A*B+A*B)=14*(A*A*B):=Ar
  omega
theorem fw.add{u:Vq}(h:fw a u)(k:fw b v)(gu:u.good)(gv:v.good):fw (a+b+1) (u.add v):=by
 obtain⟨D,X,Y,Z,h0,J,K,P,h1,h2,h3,h4⟩:=h;obtain⟨C,G,H,I,k0,U,V,d3,F,k2,k3,k4⟩:=k;obtain⟨s1,s2,s3⟩:=rV gu gv;have e:2^a*2^b+2^a*2^b=2^(a+b+1):=by rw[BC,BC];omega
 have e':2^b*2^a=2^a*2^b:=BV _ _;refine⟨D*C,X*C+G*D,Y*C+H*D,Z*C+I*D,λh=>(Int.mul_eq_zero.1 h).elim h0 k0,?_,?_,?_,(h1.mul F).mono no,((h2.mul F).add (k2.mul h1)).mono no,((h3.mul F).add (k3.mul h1)).mono no,((h4.mul F).add (k4.mul h1)).mono no⟩
 ·rw[s1];simp only[Rat.intCast_add,Rat.intCast_mul,<-J,<-U];grind
 ·rw[s2];simp only[Rat.intCast_add,Rat.intCast_mul,<-K,<-V];grind
 ·rw[s3];simp only[Rat.intCast_add,Rat.intCast_mul,<-P,<-d3];grind
theorem fw.opp(h:fw b v)(g:v.good):fw b (v.scale (Fq.ofInt (-1))):=by
 obtain⟨D,X,Y,Z,h0,F,G,H,h1,h2,h3,I⟩:=h;obtain⟨J,K,P⟩:=eZ g (aA (-1));have e:=dx (-1);have C:((-1:Int):Rat)= -1:=rfl;refine⟨D, -X, -Y, -Z,h0,?_,?_,?_,h1,h2.neg,h3.neg,I.neg⟩
 ·rw[J,e,C,show((-X:Int):Rat)= -(X:Rat)from Rat.intCast_neg X,<-F];grind
 ·rw[K,e,C,show((-Y:Int):Rat)= -(Y:Rat)from Rat.intCast_neg Y,<-G];grind
 ·rw[P,e,C,show((-Z:Int):Rat)= -(Z:Rat)from Rat.intCast_neg Z,<-H];grind
variable{c:Nat}
theorem fw.lerp{u:Vq}{t:Fq}(h:fw a u)(k:fw b v)(gu:u.good)(gv:v.good)(gt:t.valid=true){n m:Int}(hm:m≠0)(ht:t.v*(m:Rat)=n)(hn:Bd (2^c) n)(F:Bd (2^c) m):fw (a+b+c+2) (u.lerp v t):=by
 obtain⟨D,X,Y,Z,h0,U,V,c3,h1,h2,h3,h4⟩:=h;obtain⟨C,G,K,P,k0,d1,d2,d3,I,k2,k3,k4⟩:=k;obtain⟨s1,s2,s3⟩:=lerp_v gu gv gt;have e:4*(2^a*2^b*2^c)=2^(a+b+c+2):=by rw[BC,BC,BC];omega
 have e':2^b*2^a=2^a*2^b:=BV _ _;have hb:∀ {X G:Int},Bd (2^a) X->Bd (2^b) G->Bd (2^(a+b+c+2)) (X*C*m+(G*D - X*C)*n):=λJ H=>by
  refine(((J.mul I).mul F).add (((H.mul h1).sub (J.mul I)).mul hn)).mono ?_;rw[<-e,e',Nat.add_mul];omega
 refine⟨D*C*m,X*C*m+(G*D - X*C)*n,Y*C*m+(K*D - Y*C)*n,Z*C*m+(P*D - Z*C)*n,λh=>(Int.mul_eq_zero.1 h).elim (λh=>(Int.mul_eq_zero.1 h).elim h0 k0) hm,?_,?_,?_,((h1.mul I).mul F).mono no,hb h2 k2,hb h3 k3,hb h4 k4⟩
 ·rw[s1];simp only[Rat.intCast_add,Rat.intCast_sub,Rat.intCast_mul,<-U,<-d1,<-ht];grind
 ·rw[s2];simp only[Rat.intCast_add,Rat.intCast_sub,Rat.intCast_mul,<-V,<-d2,<-ht];grind
 ·rw[s3];simp only[Rat.intCast_add,Rat.intCast_sub,Rat.intCast_mul,<-c3,<-d3,<-ht];grind
theorem fE.way{p d:Qq}{t:Fq}(h:fE a p)(k:fE b d)(J:p.good)(G:d.good)(gt:t.valid=true){n m:Int}(U:m≠0)(ht:t.v*(m:Rat)=n)(hn:Bd (2^c) n)(H:Bd (2^c) m):fE (a+(b+c)+2) (p.way d t):=by
 obtain⟨F,W,X,Y,Z,h0,k0,V,k2,k3,P,h1,h2,h3,K⟩:=k.over G;unfold Qq.way;rw[yw (rX G.comp gt)];refine fE.mul h ?_ J (rX G.comp gt);obtain⟨s1,s2,s3⟩:=eZ G.comp.axis gt;have C:(m:Rat)*(F:Rat)≠0:=eK (sH U) (sH h0);have e:2^c*2^b=2^(b+c):=by rw[BC,BV]
 have hi:=Dz _ C;refine⟨m*F,n*X,n*Y,n*Z,⟨((m:Rat)*(F:Rat))⁻¹,tw C,?_⟩,e▸H.mul P,e▸hn.mul h2,e▸hn.mul h3,e▸hn.mul K⟩;have I:(Fq.ofInt 1).v=1:=by rw[dx];rfl
 unfold QR.smul Qq.r
 ext<;>simp only[Rat.intCast_mul,<-V,<-k2,<-k3,<-ht]
 ·rw[I];exact hi.symm
 ·rw[s1];show d.x.v*_=_;grind
 ·rw[s2];show d.y.v*_=_;grind
 ·rw[s3];show d.z.v*_=_;grind
theorem gD{x:Fq}(F:x.valid=true)(h:x.ok 2):(x.q:Int)≠0/\x.v*((x.q:Int):Rat)=(Fq.sg x.s x.p:Int)/\Bd (2^64) (x.q:Int)/\Bd (2^64) (Fq.sg x.s x.p):=by
 have hn:=Fq.valid.n F;have e:(4294967296:Nat)^2=2^64:=it
 have hp:=aI.1 h.p;have C:=aI.1 h.q;rw[e]at hp C;refine⟨no,?_,?_,?_⟩
 ·unfold Fq.v;rw[<-EI (x:=(x.q:Int)),<-EI (x:=Fq.sg x.s x.p),FE,FD (by simpa using hn) it];simp
 ·unfold Bd;omega
 ·unfold Bd;rw[nP];omega
theorem fw.two(g:v.good)(h:v.ok 2):fw 192 v:=by
 obtain⟨H,I,F,J⟩:=gD g.x h.x;obtain⟨K,P,b3,b4⟩:=gD g.y h.y;obtain⟨U,V,G,Y⟩:=gD g.z h.z;generalize (v.x.q:Int)=A at *;generalize (v.y.q:Int)=B at *;generalize (v.z.q:Int)=C at *;generalize Fq.sg v.x.s v.x.p=a at *;generalize Fq.sg v.y.s v.y.p=b at *;generalize Fq.sg v.z.s v.z.p=c at *;have e:(2:Nat)^64*(2^64*2^64)=2^192:=it
 refine⟨A*(B*C),a*(B*C),b*(A*C),c*(A*B),λh=>(Int.mul_eq_zero.1 h).elim H (λh=>(Int.mul_eq_zero.1 h).elim K U),?_,?_,?_,e▸F.mul (b3.mul G),e▸J.mul (b3.mul G),e▸b4.mul (F.mul G),e▸Y.mul (F.mul b3)⟩
 ·simp only[Rat.intCast_mul,<-I];grind
 ·simp only[Rat.intCast_mul,<-P];grind
 ·simp only[Rat.intCast_mul,<-V];grind
theorem fE.two(g:q.good)(h:q.ok 2):fE 256 q:=by
 obtain⟨d1,d2,H,d4⟩:=gD g.comp.w h.w;obtain⟨J,K,F,P⟩:=gD g.comp.x h.x;obtain⟨U,V,b3,b4⟩:=gD g.comp.y h.y;obtain⟨Y,Z,G,c4⟩:=gD g.comp.z h.z;generalize (q.w.q:Int)=D at *;generalize (q.x.q:Int)=A at *;generalize (q.y.q:Int)=B at *;generalize (q.z.q:Int)=C at *;generalize Fq.sg q.w.s q.w.p=d at *;generalize Fq.sg q.x.s q.x.p=a at *;generalize Fq.sg q.y.s q.y.p=b at *;generalize Fq.sg q.z.s q.z.p=c at *;have e:(2:Nat)^64*(2^64*(2^64*2^64))=2^256:=it
 have I:(D:Rat)*((A:Rat)*((B:Rat)*(C:Rat)))≠0:=eK (sH d1) (eK (sH J) (eK (sH U) (sH Y)));have hi:=Dz _ I;refine⟨d*(A*(B*C)),a*(D*(B*C)),b*(D*(A*C)),c*(D*(A*B)),⟨_,tw I,?_⟩,e▸d4.mul (F.mul (b3.mul G)),e▸P.mul (H.mul (b3.mul G)),e▸b4.mul (H.mul (F.mul G)),e▸c4.mul (H.mul (F.mul b3))⟩;unfold QR.smul Qq.r
 ext<;>simp only[Rat.intCast_mul,<-K,<-V,<-Z,<-d2]<;>grind
section
open Classical
structure Rep(a b:Nat)(p:Pq):Prop where
 q:fE a p.rot
 v:fw b p.pos
 g:p.good
section
variable {a b a' b' d:Nat} {p p':Pq}
theorem Rep.mono(h:Rep a b p)(ha:a<=a')(hb:b<=b'):Rep a' b' p:=⟨h.q.mono ha,h.v.mono hb,h.g⟩
theorem Rep.app(h:Rep a b p)(k:fw c v)(C:v.good):fw (2*a+c+4+b+1) (p.app v):=(k.app h.q h.g.rot C).add h.v (pS h.g.rot C) h.g.pos
theorem Rep.mul(h:Rep a b p)(k:Rep a' b' p'):Rep (a+a'+2) (2*a+b'+4+b+1) (p.mul p'):=⟨h.q.mul k.q h.g.rot k.g.rot,h.app k.v k.g.pos,h.g.mul k.g⟩
theorem Rep.inv(h:Rep a b p):Rep a (2*a+b+4) p.inv:=⟨h.q.inv h.g.rot,(h.v.opp h.g.pos).app (h.q.inv h.g.rot) (aS h.g.rot) (h.g.pos.scale (aA _)),h.g.inv⟩
theorem Rep.ok(h:Rep a b p)(ha:a<32*d)(hb:b<32*d):p.ok d:=⟨h.q.ok h.g.rot ha,h.v.ok h.g.pos hb⟩
theorem Rep.two(g:p.good)(h:p.ok 2):Rep 256 192 p:=⟨.two g.rot h.rot,.two g.pos h.pos,g⟩
theorem Rep.id:Rep 0 0 Pq.id:=⟨.id,.zero,.id⟩
end
theorem ratio_int{v u:Int}(h:0<u):(Fq.ratio v u).v*(u:Rat)=v:=by
 unfold Fq.ratio;rw[aaz no];have e:Fq.sg (decide (v<0) !=decide (u<0)) v.natAbs=v:=by
  rw[decide_eq_false (show¬u<0 by omega)];unfold Fq.sg;by_cases hv:v<0
  ·rw[decide_eq_true hv];simp;omega
  ·rw[decide_eq_false hv];simp;omega
 rw[e,<-EI (x:=u),<-EI (x:=v),FE,FD no it];have:(u.natAbs:Int)=u:=no
 simp[this]
variable{a:Int}
theorem atP_rep{S:List St}{z y:St}(K:GoodS S)(h:Road S a z y 0):Rep 812 426 (atP z y 0 a):=by
 obtain⟨F,C,h1,h2,_⟩:=road_z K h rfl;unfold atP;rw[if_neg no];split
 ·exact(Rep.two C.good C.ok).mono it it
 ·have Y:=F.lo;have V:=C.hi;have P:0<y.tm - z.tm:=no
  have v:=du (v:=a - z.tm) (u:=y.tm - z.tm) no;have e:=ratio_int (v:=a - z.tm) P;have U:(2:Nat)^40=1099511627776:=it
  have H:Bd (2^40) (a - z.tm):=by unfold Bd;omega
  have I:Bd (2^40) (y.tm - z.tm):=by unfold Bd;omega
  have G:=Rep.two F.good F.ok;have J:=Rep.two C.good C.ok;have rd:=(G.q.inv F.good.rot).mul J.q (aS F.good.rot) C.good.rot;exact⟨G.q.way rd F.good.rot (fo (aS F.good.rot) C.good.rot) v no e H I,G.v.lerp J.v F.good.pos C.good.pos v no e H I,Pq.good.btw F.good C.good v⟩
variable{R:Tr}
theorem edge_rep(C:TOk R){c:Nm}(h:(bv R c a).2=0):Rep 812 426 (bv R c a).1:=by
 unfold bv at h⊢
 cases ht:tAt R c a with
 | none=>rw[ht]at h;cases h
 | some x=>
  rw[ht]at h;simp only at h⊢;by_cases hs:x.st=true
  ·rw[if_pos hs];obtain⟨g,k⟩:=C.pose _ (jg ht).1 hs;exact(Rep.two g k).mono it it
  ·rw[if_neg hs]at h⊢;have F:=C.good _ (jg ht).1;obtain⟨z,y,H,G⟩:=road F a;rw[G.trkP]at h⊢;simp only at h;subst h;exact atP_rep F G
theorem qE(F:TOk R)(a:Int):∀(l:List Nm)(k:Nat)(p:Pq),Rep (814*k) (2055*k) p->k+l.length<=24->lC R a l p/\((el R a l p).2=0->Rep 19536 49320 (el R a l p).1)
 | [],k,p,h,hk=>⟨trivial,λ_=>h.mono (by simp at hk;omega) (by simp at hk;omega)⟩
 | f::l,k,p,h,hk=>by
  rw[Bg]at hk;by_cases h0:(bv R f a).2=0
  ·have C:=edge_rep F h0;have G:Rep (814*(k+1)) (2055*(k+1)) ((bv R f a).1.mul p):=(C.mul h).mono no no;obtain⟨H,I⟩:=qE F a l (k+1) _ G no;refine⟨λ_=>⟨C.ok it it,C.g,h.ok no no,h.g,H⟩,?_⟩;unfold el;rw[if_pos h0];exact I
  ·refine⟨λh=>absurd h h0,λh=> ?_⟩;unfold el at h;rw[if_neg h0]at h;exact absurd h h0
theorem jp(C:Sane R)(a:Int)(x:Nm):(bf R a x).length<=24:=by
 by_cases hx:aC R x
 ·exact gC C hx
 ·have h:=cR C.ok a x
  cases hp:par R a x with
  | none=>
   rw[gW (.root hp)];simp
  | some y=>
   obtain⟨q,F,_,_⟩:=jh hp;exact absurd ⟨_,F,.inl rfl⟩ hx
theorem qF(G:Sane R)(a:Int)(tq fr:Nm):FindOk R a tq fr/\((aP R a tq fr).2=0->Rep 39074 176793 (aP R a tq fr).1):=by
 have lb:∀x C,0+(a8 (bf R a x) C).length<=24:=λx C=>by
  have h1:=jp G a x;have h2:(a8 (bf R a x) C).length<=_:=(List.takeWhile_sublist _).length_le;omega
 obtain⟨J,H⟩:=qE G.ok a _ 0 Pq.id Rep.id (lb fr (aF R a fr tq).1);obtain⟨I,F⟩:=qE G.ok a _ 0 Pq.id Rep.id (lb tq (aF R a fr tq).1);refine⟨⟨J,I,λh=>⟨(H h).ok it it,(H h).g⟩,λh=>⟨(F h).ok it it,(F h).g,(F h).inv.ok it it⟩⟩,λh=> ?_⟩;unfold aP at h⊢;by_cases h0:(aF R a fr tq).2=0
 ·rw[if_neg (by simpa using h0)]at h⊢;by_cases hu:(upP R a fr (aF R a fr tq).1).2=0
  ·rw[if_neg (by simpa using hu)]at h⊢;by_cases hd:(upP R a tq (aF R a fr tq).1).2=0
   ·rw[if_neg (by simpa using hd)];exact(F hd).inv.mul (H hu)
   ·rw[if_pos hd]at h;exact absurd h hd
  ·rw[if_pos hu]at h;exact absurd h hu
 ·rw[if_pos h0]at h;exact absurd h h0
theorem gX(C:Sane R)(a:Int)(tq fr:Nm):FindOk R a tq fr:=(qF C a tq fr).1
variable{tq fr:Nm}
theorem mT(C:Sane R)(h:(aP R a tq fr).2=0):(aP R a tq fr).1.ok 6000/\(aP R a tq fr).1.good:=⟨((qF C a tq fr).2 h).ok it it,((qF C a tq fr).2 h).g⟩
theorem acr_ok(C:Sane R)(tq:Nm)(ta:Int)(fr:Nm)(fa:Int)(th:Nm):AcrOk R tq ta fr fa th:=
 ⟨gX C _ _ _,gX C _ _ _,λh=>⟨(mT C h).1.mono it,(mT C h).2⟩,λh=>⟨(mT C h).1.mono it,(mT C h).2⟩⟩
theorem j3{top:Nm}{U D:Pq}(F:aF R a fr tq=(top,0))(G:upP R a fr top=(U,0))(C:upP R a tq top=(D,0)):aP R a tq fr=(D.inv.mul U,0):=by
 unfold aP;rw[F,if_neg Ad,G,if_neg Ad,C,if_neg Ad]
theorem xh{x:Nm}{c:Int}(C:aF R a fr tq=(x,c))(h:c≠0):aP R a tq fr=(Pq.zero,c):=by
 unfold aP;rw[C,if_pos h]
theorem xi{top:Nm}{U:Pq}{c:Int}(C:aF R a fr tq=(top,0))(F:upP R a fr top=(U,c))(h:c≠0):aP R a tq fr=(Pq.zero,c):=by
 unfold aP;rw[C,if_neg Ad,F,if_pos h]
end
section
open Classical
noncomputable def xj(R:Tr)(q:Nm×Lk):List Int:=(if 0<=q.2.un then [q.2.un - 1]else [])++ [q.2.fr - 1]++(if (ei R q.1 q.2.fr).2.2=true then [(ei R q.1 q.2.fr).2.1]else [])
noncomputable def dI(R:Tr)(l:List (Nm×Lk)):List Int:=bC::l.flatMap (xj R)
theorem zK(R:Tr)(l:List (Nm×Lk))(q:Nm×Lk):dI R (l++ [q])=dI R l++xj R q:=by unfold dI;simp
theorem endQ_len(R:Tr)(q:Nm×Lk):(xj R q).length<=3:=by
 unfold xj;rw[Bh,Bh];split<;>split<;>simp
theorem oo(R:Tr):∀(l:List (Nm×Lk)),(dI R l).length<=1+3*l.length
 | []=>by simp[dI]
 | q::l=>by
  have h:=oo R l;have k:=endQ_len R q;unfold dI at *;simp only[Bg,List.flatMap_cons,Bh]at *;omega
def mU(R:Tr)(x:Int):Prop:=x=bC\/∃q∈R,(0<=q.2.un/\x=q.2.un - 1)\/x=q.2.fr - 1\/((ei R q.1 q.2.fr).2.2=true/\x=(ei R q.1 q.2.fr).2.1)
theorem endsL_mem{R:Tr}{l:List (Nm×Lk)}(hl:∀q,q∈l↔q∈R)(x:Int):x∈dI R l↔mU R x:=by
 unfold dI mU;rw[AS,Br];refine or_congr Iff.rfl ⟨λ⟨q,C,h⟩=>⟨q,(hl q).1 C,?_⟩,λ⟨q,C,h⟩=>⟨q,(hl q).2 C,?_⟩⟩
 ·unfold xj at h;rcases AG.1 h with h | h
  ·rcases AG.1 h with h | h
   ·split at h
    ·rename_i F;exact .inl ⟨F,Au⟩
    ·cases h
   ·exact .inr (.inl Au)
  ·split at h
   ·rename_i F;exact .inr (.inr ⟨F,Au⟩)
   ·cases h
 ·unfold xj;rcases h with⟨h1,rfl⟩ | rfl | ⟨h1,rfl⟩
  ·rw[if_pos h1];simp
  ·simp
  ·rw[if_pos h1];simp
def q9(R:Tr)(tq fr:Nm)(n e:Int):Prop:=
 (¬(aC R fr/\aC R tq)/\n=0/\e=6)\/
 ((aC R fr/\aC R tq)/\((e=0/\0<=n/\mU R n/\(aP R n tq fr).2=0/\∀x,mU R x->0<=x->(aP R x tq fr).2=0->x<=n)\/(e=17/\n=0/\∀x,mU R x->0<=x->(aP R x tq fr).2≠0)))
theorem lkRow_mem{R:Tr}{L:List Nm}(C:∀q∈R,q.1∈L)(q:Nm×Lk):q∈gB R L↔q∈R:=by
 unfold gB;rw[Br];constructor
 ·rintro⟨c,_,h⟩;obtain⟨x,F,rfl⟩:=Ba.1 h;exact bU.1 F
 ·intro h;exact⟨q.1,C q h,Ba.2 ⟨q.2,bU.2 h,rfl⟩⟩
structure EndS(W5 wr:World)(g:Nat)(v:Value)(xs:List Int):Prop where
 row:jm wr g v xs
 kb:Kb W5.heap.size g W5 wr
 own:∀k,v.ownBlock=some k->W5.heap.size<=k\/k=g
variable{W5 wr w':World}{g:Nat}{v:Value}{xs:List Int}
theorem EndS.below(h:EndS W5 wr g v xs)(hb:Bi wr.heap.size wr w'):EndS W5 w' g v xs:=
 ⟨eh h.row (λk C=>hb.block k (bV h.row C).2),h.kb.trans (Kb.below (hb.mono h.kb.size)),h.own⟩
theorem EndS.alloc(h:EndS W5 wr g v xs)(o:Obj):EndS W5 (wr.alloc o) g v xs:=h.below ((AF _ _).alloc (AE _) o)
theorem EndS.grown{v':Value}{ys:List Int}(h:EndS W5 wr g v xs)(F:wr.grownBy w' v.ownBlock)(hr:jm w' g v' ys)(G:v'.ownBlock=v.ownBlock\/v'.ownBlock=some wr.heap.size):EndS W5 w' g v' ys:=
 ⟨hr,h.kb.grown F h.kb.size h.own,λk C=>by
  rcases G with e | e
  ·exact h.own k (e▸C)
  ·rw[e]at C;injection C with C;subst C;exact .inl h.kb.size⟩
theorem EndS.app{ty:TypeId}(x:Int)(h:EndS W5 wr g v xs)(hb:g<=wr.heap.size)(hl:xs.length<=100000):
  ∃v' w',(BM #[171,171] ty #[v,.slice (some ⟨wr.heap.size,0,none⟩) 1 1]).run AB (wr.alloc (.cells #[.int .i64 x] 3))= .ok v' w'/\EndS W5 w' g v' (xs++ [x])/\∀B,B<wr.heap.size->v.ownBlock≠some B->w'.heap[B]? =wr.heap[B]? /\v'.ownBlock≠some B:=by
 have U:(1000000:Nat)<=maxLen:=by unfold maxLen;omega
 obtain⟨V,hi,G,H,I⟩:=DF (show(AB.info? 3).map (λi=>(i.zero,i.size,i.bytes))=some (some (.int .i64 0),1,8)by kernel_rfl);have h2:=h.alloc (.cells #[.int .i64 x] 3);obtain⟨v',w',Y,k2,k3,_,J⟩:=run_append_own_at (P:=AB) (w:=wr.alloc (.cells #[.int .i64 x] 3)) g 171 ty 3 V (.int .i64 0) 1 8 Tryz.underlying171 hi G H I rfl it v xs.length (xs.map (AK .i64)) h2.row ⟨wr.heap.size,0,none⟩ 1 1 [.int .i64 x] Ad (λj u C=>by
  rw[bM,A5,aH (Bm wr _)]
  cases j with
  | zero=>simpa using C
  | succ j=>simp at C) (λu C=>by simp only[BD]at C;subst C;rfl) no no (by rw[asz];omega)
 refine⟨v',w',Y,h2.grown k3 ?_ J,λB K hn=>⟨?_,λe=> ?_⟩⟩
 ·show w'.ownsRow g 3 1 v' (xs++ [x]).length ((xs++ [x]).map (AK .i64));rw[Bh,Ce];exact k2
 ·rw[k3.block B (by rw[asz];omega) (λe=>hn e.symm)];exact heap_alloc_old _ _ K
 ·rcases J with F | F
  ·exact hn (F▸e)
  ·rw[F,asz]at e;injection e with e;omega
structure RdS(W5 wc:World)(g B:Nat)(v:Value)(xs:List Int)(q:Nm×Lk):Prop where
 es:EndS W5 wc g v xs
 lk:wc.heap[B]? =some (.cells #[.string q.1,.string q.2.par,.int .i64 q.2.fr,.int .i64 q.2.un] 76 (0,0))
 nb:v.ownBlock≠some B
variable{wc:World}{B:Nat}{q:Nm×Lk}
theorem RdS.lt(h:RdS W5 wc g B v xs q):B<wc.heap.size:=(AZ.1 h.lk).1
theorem RdS.below(h:RdS W5 wc g B v xs q)(k:Bi wc.heap.size wc w'):RdS W5 w' g B v xs q:=
 ⟨h.es.below k,(k.block B h.lt).trans h.lk,h.nb⟩
theorem RdS.app{ty:TypeId}(x:Int)(h:RdS W5 wc g B v xs q)(hb:g<=wc.heap.size)(hl:xs.length<=100000):
  ∃v' w',(BM #[171,171] ty #[v,.slice (some ⟨wc.heap.size,0,none⟩) 1 1]).run AB (wc.alloc (.cells #[.int .i64 x] 3))= .ok v' w'/\RdS W5 w' g B v' (xs++ [x]) q:=by
 obtain⟨v',w',h1,h2,h3⟩:=h.es.app (ty:=ty) x hb hl;exact⟨v',w',h1,h2,(h3 B h.lt h.nb).1.trans h.lk,(h3 B h.lt h.nb).2⟩
theorem RdS.c0(h:RdS W5 wc g B v xs q):wc.cell? ⟨B,0,none⟩=some (.string q.1)/\wc.cell? ⟨B,2,none⟩=some (.int .i64 q.2.fr)/\wc.cell? ⟨B,3,none⟩=some (.int .i64 q.2.un):=
 ⟨by rw[aH h.lk];rfl,by rw[aH h.lk];rfl,by rw[aH h.lk];rfl⟩
abbrev lkW(wr:World)(q:Nm×Lk):World:=(wr.alloc (.cells #[.string ⟨#[]⟩,.string ⟨#[]⟩,.int .i64 0,.int .i64 0] 76)).setCells wr.heap.size 0 (eu q)
theorem RdS.start(q:Nm×Lk)(h:EndS W5 wr g v xs):RdS W5 (lkW wr q) g wr.heap.size v xs q where
 es:=h.below (aQ _ 0 _ ((AF _ _).alloc (AE _) _) (AE _))
 lk:=by
  unfold lkW;rw[ft (eu q) _ wr.heap.size 0 _ _ (Bm wr _),lz (by simp[eu])];rfl
 nb:=λe=>by have:=(bV h.row e).2;omega
theorem lk_there(wr:World)(q:Nm×Lk):(wr.alloc (.cells #[.string ⟨#[]⟩,.string ⟨#[]⟩,.int .i64 0,.int .i64 0] 76)).there wr.heap.size 0 (eu q).toArray.size:=by
 have:=oc (Bm wr (.cells #[.string ⟨#[]⟩,.string ⟨#[]⟩,.int .i64 0,.int .i64 0] 76));simpa [eu]using this
end
section
open Classical
abbrev rlT:TypeId:=162
abbrev rrT:TypeId:=81
abbrev rkT:TypeId:=185
structure Rl where
 c:Nm
 x:Lk
 g:Nat
 sl:Value
def Rl.qs(l:Rl):List Vp:=lnQ l.c ⟨l.x,0,l.g,l.sl⟩
def rlQ(L:List Rl):List Vp:=L.flatMap Rl.qs
def trR(L:List Rl):Tr:=L.map λl=>(l.c,l.x)
def fpR(t:Nat)(v:Value)(L:List Rl):List Nat:=t::(v.ownBlock.toList++L.flatMap λl=>l.g::l.sl.ownBlock.toList)
structure RM(w:World)(t:Nat)(v:Value)(L:List Rl):Prop where
 tr:w.heap[t]? =some (.cells #[v] rrT (0,0))
 row:∃xs,aX w rlT 27 v L.length xs/\aO w (rlQ L) xs
 trk:∀l∈L,TrkS rkT w l.g l.sl l.x.tr
 nd:(fpR t v L).Nodup
 own:∀g∈fpR t v L,bw w g
theorem gE(l:Rl):l.qs.length=27:=rfl
theorem ue:∀ {L:List Rl} {k j:Nat} {l:Rl},L[k]? =some l->j<27->(rlQ L)[k*27+j]? =l.qs[j]?
 | [],_,_,_,h,_=>by cases h
 | l'::L,0,j,l,h,hj=>by
  injection h with h;subst h;show(l'.qs++rlQ L)[0*27+j]? =_;rw[Nat.zero_mul,A5,List.getElem?_append_left (by rw[gE];exact hj)]
 | l'::L,k+1,j,l,h,hj=>by
  show(l'.qs++rlQ L)[(k+1)*27+j]? =_;rw[List.getElem?_append_right (by rw[gE];omega),gE,show(k+1)*27+j - 27=k*27+j by omega];exact ue (L:=L) h hj
theorem pc:∀L:List Rl,(rlQ L).length=L.length*27
 | []=>rfl
 | l::L=>by
  show(l.qs++rlQ L).length=_;rw[Bh,gE,pc L,Bg];omega
section
variable {w w':World} {t:Nat} {v:Value} {L:List Rl} {k j:Nat} {l:Rl} {u:Value}
theorem RM.chg{X:Nat->Prop}(h:RM w t v L)(c:Chg w w' X)(F:∀g∈fpR t v L,¬X g):RM w' t v L:=by
 obtain⟨h1,h2,h3,H,G⟩:=h;refine⟨by rw[c.blk _ (AZ.1 h1).1 (F _ (by simp[fpR]))];exact h1,?_,λl hl=> ?_,H,λg C=>(G g C).blk (c.blk g (G g C).1 (F g C)) c.size⟩
 ·obtain⟨xs,I,k2⟩:=h2;exact((Vp.ownr rlT 27 L.length (rlQ L)).ch w w' X v ⟨xs,I,k2⟩ c (λg C=>F g (by have C:v.ownBlock=some g:=C;simp[fpR,C]))).1
 ·refine(h3 l hl).chg c (F _ ?_) (λb hb=>F b ?_)
  ·simp only[fpR,AS,AG,Br];exact .inr (.inr ⟨l,hl,.inl rfl⟩)
  ·simp only[fpR,AS,AG,Br];exact .inr (.inr ⟨l,hl,.inr (by simp[hb])⟩)
theorem RM.below(h:RM w t v L)(b:Bi w.heap.size w w'):RM w' t v L:=h.chg (.below b) (λ_ _ h=>h)
theorem RM.lt(h:RM w t v L):∀g∈fpR t v L,g<w.heap.size:=λg C=>(h.own g C).1
theorem RM.cell(h:RM w t v L):w.cell? ⟨t,0,none⟩=some v:=by rw[aH h.tr];rfl
theorem RM.form(h:RM w t v L):∃C c,v= .slice C L.length c:=by
 obtain⟨xs,h1,_⟩:=h.row;exact cL h1.1
structure LkAt(w:World)(b k:Nat)(l:Rl)(cs:List Value):Prop where
 len:cs.length=27
 rg:w.rangeAt b (k*27) cs
 c:w.cell? ⟨b,k*27,none⟩=some (.string l.c)
 par:w.cell? ⟨b,k*27+1,none⟩=some (.string l.x.par)
 fr:w.cell? ⟨b,k*27+2,none⟩=some (.int .i64 l.x.fr)
 un:w.cell? ⟨b,k*27+3,none⟩=some (.int .i64 l.x.un)
 st:w.cell? ⟨b,k*27+4,none⟩=some (.bool l.x.st)
 tp:w.cell? ⟨b,k*27+26,none⟩=some (ptB l.g)
 k2:cs[2]? =some (.int .i64 l.x.fr)
 k3:cs[3]? =some (.int .i64 l.x.un)
 qs:aO w l.qs cs
theorem RM.at(h:RM w t v L)(K:L[k]? =some l):∃b c cs,v= .slice (some ⟨b,0,none⟩) L.length c/\LkAt w b k l cs:=by
 obtain⟨ad,c,e⟩:=h.form;obtain⟨xs,⟨h1,_⟩,h3⟩:=h.row;rw[e]at h1;have U:=(AX.1 K).1;have Z:xs.length=L.length*27:=by rw[h3.1,pc]
 have G:∀j v,j<27->l.qs[j]? =some (.val v)->xs[k*27+j]? =some v:=λj v C Y=>by
  obtain⟨u,P,k2,_⟩:=h3.2 (k*27+j) _ (by rw[ue K C];exact Y);have I:u=v:=k2.1;rw[P,I]
 have h0:=G 0 _ it rfl;obtain⟨b,rfl,h2⟩:=cQ h1 h0;have hc:∀j u,xs[j]? =some u->w.cell? ⟨b,j,none⟩=some u:=λj u C=>by
  obtain⟨g,H,I⟩:=cQ h1 C;injection H with H;injection H with H _ _;subst H;exact I
 have J:∀j u,j<27->xs[k*27+j]? =some u->((xs.drop (k*27)).take 27)[j]? =some u:=λj u C V=>by rw[BI,if_pos C,Cv];exact V
 refine⟨b,c,(xs.drop (k*27)).take 27,e,⟨by simp;omega,λj u C=> ?_,hc _ _ h0,hc _ _ (G 1 _ it rfl),hc _ _ (G 2 _ it rfl),hc _ _ (G 3 _ it rfl),hc _ _ (G 4 _ it rfl),hc _ _ (G 26 _ it rfl),J _ _ it (G 2 _ it rfl),J _ _ it (G 3 _ it rfl),⟨by rw[gE];simp;omega,λj q C=>by
  have F:j<27:=(AX.1 C).1;obtain⟨u,P,k2,k3⟩:=h3.2 (k*27+j) q (by rw[ue K F];exact C);exact⟨u,J j u F P,k2,k3⟩⟩⟩⟩
 rw[BI]at C;split at C
 ·rw[Cv]at C;exact hc _ _ C
 ·cases C
end
variable{cs:List Value}
theorem link_size(h:cs.length=27):(AB.info? rlT).map (·.size)=some cs.length:=by rw[h];kernel_rfl
set_option maxHeartbeats 1000000 in
theorem q_holds{w:World}{x:Lk}{a:Int}(hl:cs.length=27)(h2:cs[2]? =some (.int .i64 x.fr))(h3:cs[3]? =some (.int .i64 x.un)):
  AC AB 162 #[.agg cs.toArray,.int .i64 a] w λe w'=>e= .returned (.bool (x.has a))/\Bi w.heap.size w w':=by
 obtain⟨G,J⟩:∃G,w.alloc (.cells cs.toArray rlT)=G:=⟨_,rfl⟩;have I:Bi w.heap.size w G:=by rw[<-J];exact(AF _ _).alloc (AE _) _
 have C:G.heap[w.heap.size]? =some (.cells cs.toArray rlT (0,0)):=by rw[<-J];exact Bm w _
 have f2:G.cell? ⟨w.heap.size,2,none⟩=some (.int .i64 x.fr):=by rw[aH C];simpa using h2
 have V:G.cell? ⟨w.heap.size,3,none⟩=some (.int .i64 x.un):=by rw[aH C];simpa using h3
 have K:=AA I;generalize hB:w.heap.size=B at *;clear I C hl h2 h3;have F:x.has a=(decide (x.fr<=a) && (decide (x.un= -1) || decide (a<x.un))):=rfl;by_cases g1:x.fr<=a
 ·have P:decide (x.fr<=a)=true:=decide_eq_true g1;rw[P]at F;by_cases g2:x.un= -1
  ·have U:(x.un== -1)=true:=by simp[g2]
   rw[decide_eq_true g2]at F;have H:=AA F;clear F g1 g2;go_enter Tryz.func162,Tryz.ntmps162
   go_wp2;go_ret;exact⟨by rw[H.out];rfl,K.out⟩
  ·have U:(x.un== -1)=false:=by simp[g2]
   rw[decide_eq_false g2]at F;have H:=AA F;clear F g1 g2;go_enter Tryz.func162,Tryz.ntmps162
   go_wp2;go_ret;exact⟨by rw[H.out];rfl,K.out⟩
 ·have P:decide (x.fr<=a)=false:=decide_eq_false g1;rw[P]at F;have H:=AA F;clear F g1;go_enter Tryz.func162,Tryz.ntmps162
  go_wp2;go_ret;exact⟨by rw[H.out];rfl,K.out⟩
end
section
open Classical
theorem en{P:AW}{ops:Array Oper}{Q:Exit->Act->World->Prop}{a:Act}{w:World}{rest:List Oper}{o:Oper}(F:Region.wanted o (yielded ops a.tmps)=true)
  (h:∀K:Act->World->Prop,(∀a w,wpList P ops Q rest a w->K a w)->o.wp P a w K Q):wpList P ops Q (o::rest) a w:=wpList_step λK C=>by rw[if_pos F];exact h K C
theorem kP{c d:Nm}(h:c=d):(Fi c==Fi d)=true:=by subst h;simp
variable{L:List Rl}
theorem gF{k:Nat}{l:Rl}(h:L[k]? =some l):(trR L)[k]? =some (l.c,l.x):=by unfold trR;rw[Bp,h];rfl
theorem kB{k:Nat}{q:Nm×Lk}(h:(trR L)[k]? =some q):∃l,L[k]? =some l/\q=(l.c,l.x):=by
 unfold trR at h;rw[Bp]at h
 cases hl:L[k]? with
 | none=>rw[hl]at h;cases h
 | some l=>rw[hl]at h;injection h with h;exact⟨l,rfl,h.symm⟩
def PlS(L:List Rl)(c:Nm)(a:Int)(i:Int):Prop:=(i= -1/\PlNo (trR L) c a)\/∃(k:Nat)(l:Rl),i=(k:Int)/\L[k]? =some l/\l.c=c/\PlAt (trR L) c a k l.x
set_option maxHeartbeats 2000000 in
theorem mV{w:World}{t:Nat}{v:Value}(h:RM w t v L)(c:Nm)(a:Int)(hn:L.length<=1000000):AC AB 96 #[ptB t,.string c,.int .i64 a] w λe w'=>∃i,e= .returned (.int .i64 i)/\PlS L c a i/\mBw w w':=by
 have HM:=AA (show∀wq,mBw w wq->RM wq t v L from λwq k=>h.below k);obtain⟨ad,cp,hv⟩:=h.form;obtain⟨n,hN⟩:∃n,n=L.length:=⟨_,rfl⟩;have HN:=AA hN;rw[<-hN]at hv hn;subst hv;have an:(n:Int)<=1000000:=no
 clear h hN hn;go_enter Tryz.func96,Tryz.ntmps96
 go_wp2;go_loopw [7] (λs7 wr=>∃k:Nat,k<=n/\s7= .int .i64 (k:Int)/\Hid (mBw w wr)/\Hid (∀i l,i<k->L[i]? =some l->¬(l.c=c/\l.x.has a=true))) (λs7 _=>n - (intOf s7).toNat)
 case atStart=>exact⟨0,AY _,rfl,AA (AF _ _),AA (λi l hi=>absurd hi (CX _))⟩
 case round=>
  obtain⟨k,hk,rfl,H,Y⟩:=hrel;have ac:=(HM.out wr H.out).cell;rcases Bc k n with ab | ak
  ·have am:(k:Int)<(n:Int):=no
   obtain⟨l,hl⟩:∃l,L[k]? =some l:=⟨_,AJ (by rw[<-HN.out];exact ab)⟩;obtain⟨b,c2,cs,e,A⟩:=(HM.out wr H.out).at hl;injection e with J _ e3;subst J;subst e3;have fc:=A.c;have V:=AA hl;have HA:=AA A;have U:=q_holds (w:=wr) (x:=l.x) (a:=a) A.len A.k2 A.k3;have aa:=AA (link_size A.len);clear A hl;go_upto_region 4 with(fail)
   by_cases g1:l.c=c
   ·have q1:=kP g1;refine Bn ?_;refine BA rfl (λK C=> ?_);go_simp;refine C _ _ ?_;clear C K;refine BA rfl (λK C=> ?_);go_simp;refine C _ _ ?_;clear C K;refine BA rfl (λK C=> ?_);go_simp;refine C _ _ ?_;clear C K;refine BA rfl (λK C=> ?_);go_simp;refine C _ _ ?_;clear C K;refine BA rfl (λK C=> ?_);go_simp;refine C _ _ ?_;clear C K;refine BA rfl (λK C=> ?_);go_simp;refine C _ _ ?_;clear C K;refine BA rfl (λK C=> ?_);go_simp;refine C _ _ ?_;clear C K;refine BA rfl (λK C=> ?_);go_simp;refine C _ _ ?_;clear C K;refine BA rfl (λK C=> ?_);go_simp;refine C _ _ ?_;clear C K;refine BA rfl (λK C=> ?_);go_simp;refine C _ _ ?_;clear C K;refine BA rfl (λK C=> ?_);go_simp;refine C _ _ ?_;clear C K;refine en ?_ (λK C=> ?_)
    ·rfl
    go_simp;refine C _ _ ?_;clear C K;refine en ?_ (λK C=> ?_)
    ·rfl
    go_simp;refine C _ _ ?_;clear C K;refine en ?_ (λK C=> ?_)
    ·rfl
    go_simp;refine C _ _ ?_;clear C K;refine en ?_ (λK C=> ?_)
    ·rfl
    go_simp;refine C _ _ ?_;clear C K;refine en ?_ (λK C=> ?_)
    ·rfl
    go_simp;refine C _ _ ?_;clear C K;refine en ?_ (λK C=> ?_)
    ·rfl
    go_simp;refine C _ _ ?_;clear C K;refine en ?_ (λK C=> ?_)
    ·rfl
    refine wp_load_mid _ _ rfl b (k*27) rfl cs _ HA.out.rg Tryz.underlying162 rfl aa.out ?_;refine C _ _ ?_;clear C K;refine en ?_ (λK C=> ?_)
    ·rfl
    go_simp;refine C _ _ ?_;clear C K;refine en ?_ (λK C=> ?_)
    ·rfl
    go_simp;go_at_call 162
    refine U.mono ?_;rintro e w2 ⟨rfl,P⟩;refine C _ _ ?_;have I:=AA (H.out.trans (P.mono H.out.size));clear C K U P
    cases hh:l.x.has a with
    | true=>
     go_wp2;go_ret;exact⟨_,rfl,.inr ⟨k,l,rfl,V.out,g1,by rw[<-g1];exact gF V.out,hh,λi q hi hq ⟨J,e2⟩=>by
      obtain⟨G,Z,rfl⟩:=kB hq;exact Y.out i G hi Z ⟨J,e2⟩⟩,I.out⟩
    | false=>
     go_wp2;go_roundw
     case rel=>exact⟨k+1,no,by go_num,I,AA (λi G hi F=>by
      rcases Bc i k with h | h
      ·exact Y.out i G h F
      ·obtain rfl:i=k:=no
       rw[V.out]at F;injection F with F;subst F;exact λe=>by rw[hh]at e;cases e.2)⟩
     case measure=>simp[intOf];omega
   ·have q1:=gU g1;go_wp2;go_roundw
    case rel=>exact⟨k+1,no,by go_num,H,AA (λi G hi F=>by
     rcases Bc i k with h | h
     ·exact Y.out i G h F
     ·obtain rfl:i=k:=no
      rw[V.out]at F;injection F with F;subst F;exact λe=>g1 e.1)⟩
    case measure=>simp[intOf];omega
  ·obtain rfl:k=n:=no
   go_wp2;go_ret;exact⟨_,rfl,.inl ⟨rfl,λi q hq ⟨J,e2⟩=>by
    obtain⟨G,Z,rfl⟩:=kB hq;exact Y.out i G (by have:=(AX.1 Z).1;rw[HN.out];exact this) Z ⟨J,e2⟩⟩,H.out⟩
end
section
open Classical
def OpS(L:List Rl)(c:Nm)(i:Int):Prop:=(i= -1/\qi (trR L) c)\/∃(k:Nat)(l:Rl),i=(k:Int)/\L[k]? =some l/\l.c=c/\eO (trR L) c k l.x
variable{L:List Rl}
set_option maxHeartbeats 2000000 in
theorem uf{w:World}{t:Nat}{v:Value}(h:RM w t v L)(c:Nm)(hn:L.length<=1000000):AC AB 155 #[ptB t,.string c] w λe w'=>∃i,e= .returned (.int .i64 i)/\OpS L c i/\w'=w:=by
 have aa:=h.cell;have HM:=AA h;obtain⟨ad,cp,hv⟩:=h.form;obtain⟨n,K⟩:∃n,n=L.length:=⟨_,rfl⟩;have Z:=AA K;rw[<-K]at hv hn;subst hv;have ak:(n:Int)<=1000000:=no
 clear h K hn;go_enter Tryz.func155,Tryz.ntmps155
 go_wp2;go_loopw [5] (λY wr=>∃k:Nat,k<=n/\Y= .int .i64 (k:Int)/\wr=w/\Hid (∀i l,i<k->L[i]? =some l->¬(l.c=c/\l.x.un= -1))) (λY _=>n - (intOf Y).toNat)
 case atStart=>exact⟨0,AY _,rfl,rfl,AA (λi l hi=>absurd hi (CX _))⟩
 case round=>
  obtain⟨k,hk,rfl,V,HO⟩:=hrel;obtain rfl:=V;rcases Bc k n with P | ab
  ·have ac:(k:Int)<(n:Int):=no
   obtain⟨l,hl⟩:∃l,L[k]? =some l:=⟨_,AJ (by rw[<-Z.out];exact P)⟩;obtain⟨b,c2,cs,e,A⟩:=HM.out.at hl;injection e with J _ e3;subst J;subst e3;have fc:=A.c;have fu:=A.un;have I:=AA hl;clear A hl;have H:=AA (show¬(l.c=c/\l.x.un= -1)->∀i G,i<k+1->L[i]? =some G->¬(G.c=c/\G.x.un= -1)from λU i G hi C=>by
    rcases Bc i k with h | h
    ·exact HO.out i G h C
    ·obtain rfl:i=k:=no
     rw[I.out]at C;injection C with C;subst C;exact U)
   by_cases g1:l.c=c
   ·have q1:=kP g1;by_cases g2:l.x.un= -1
    ·have q2:(l.x.un== -1)=true:=by simp[g2]
     have F:=AA (By g1 g2);clear g1 g2;go_wp2;go_ret;exact⟨_,rfl,.inr ⟨k,l,rfl,I.out,F.out.1,by rw[<-F.out.1];exact gF I.out,F.out.2⟩,rfl⟩
    ·have q2:(l.x.un== -1)=false:=by simp[g2]
     have F:=AA g2;clear g1 g2;go_wp2;go_roundw
     case rel=>exact⟨k+1,no,by go_num,by trivial,AA (H.out (λe=>F.out e.2))⟩
     case measure=>simp[intOf];omega
   ·have q1:=gU g1;have F:=AA g1;clear g1;go_wp2;go_roundw
    case rel=>exact⟨k+1,no,by go_num,by trivial,AA (H.out (λe=>F.out e.1))⟩
    case measure=>simp[intOf];omega
  ·obtain rfl:k=n:=no
   go_wp2;go_ret;exact⟨_,rfl,.inl ⟨rfl,λi q hq ⟨J,e2⟩=>by
    obtain⟨G,k1,rfl⟩:=kB hq;exact HO.out i G (by have:=(AX.1 k1).1;rw[Z.out];exact this) k1 ⟨J,e2⟩⟩,rfl⟩
theorem j4{c:Nm}:aC (trR L) c↔∃(i:Nat)(l:Rl),L[i]? =some l/\(l.c=c\/l.x.par=c):=by
 unfold aC;constructor
 ·rintro⟨q,C,h⟩;obtain⟨i,hi⟩:=Di C;obtain⟨l,F,rfl⟩:=kB hi;exact⟨i,l,F,h⟩
 ·rintro⟨i,l,h1,h2⟩;exact⟨_,A0 (gF h1),h2⟩
set_option maxHeartbeats 2000000 in
theorem gG{w:World}{t:Nat}{v:Value}(h:RM w t v L)(c:Nm)(hn:L.length<=1000000):AC AB 103 #[ptB t,.string c] w λe w'=>e= .returned (.bool (decide (aC (trR L) c)))/\w'=w:=by
 have aa:=h.cell;have HM:=AA h;obtain⟨ad,cp,Y⟩:=h.form;obtain⟨n,H⟩:∃n,n=L.length:=⟨_,rfl⟩;have U:=AA H;rw[<-H]at Y hn;subst Y;have ak:(n:Int)<=1000000:=no
 clear h H hn;go_enter Tryz.func103,Tryz.ntmps103
 go_wp2;go_loopw [5] (λP wr=>∃k:Nat,k<=n/\P= .int .i64 (k:Int)/\wr=w/\Hid (∀i l,i<k->L[i]? =some l->¬(l.c=c\/l.x.par=c))) (λP _=>n - (intOf P).toNat)
 case atStart=>exact⟨0,AY _,rfl,rfl,AA (λi l hi=>absurd hi (CX _))⟩
 case round=>
  obtain⟨k,hk,rfl,J,V⟩:=hrel;obtain rfl:=J;rcases Bc k n with I | ab
  ·have ac:(k:Int)<(n:Int):=no
   obtain⟨l,hl⟩:∃l,L[k]? =some l:=⟨_,AJ (by rw[<-U.out];exact I)⟩;obtain⟨b,c2,cs,e,A⟩:=HM.out.at hl;injection e with e1 _ e3;subst e1;subst e3;have fc:=A.c;have fp:=A.par;have G:=AA hl;clear A hl;by_cases g1:l.c=c
   ·have q1:=kP g1;have F:=AA g1;clear g1;go_wp2;go_ret;exact⟨by rw[decide_eq_true (j4.2 ⟨k,l,G.out,.inl F.out⟩)];rfl,rfl⟩
   ·have q1:=gU g1;by_cases g2:l.x.par=c
    ·have q2:=kP g2;have F:=AA g2;clear g1 g2;go_wp2;go_ret;exact⟨by rw[decide_eq_true (j4.2 ⟨k,l,G.out,.inr F.out⟩)];rfl,rfl⟩
    ·have q2:=gU g2;have F:=AA (show¬(l.c=c\/l.x.par=c)from λh=>h.elim g1 g2);clear g1 g2;go_wp2;go_roundw
     case rel=>exact⟨k+1,no,by go_num,by trivial,AA (λi K hi C=>by
      rcases Bc i k with h | h
      ·exact V.out i K h C
      ·obtain rfl:i=k:=no
       rw[G.out]at C;injection C with C;subst C;exact F.out)⟩
     case measure=>simp[intOf];omega
  ·obtain rfl:k=n:=no
   go_wp2;go_ret;exact⟨by rw[decide_eq_false (λh=>by
    obtain⟨i,K,Z,k2⟩:=j4.1 h;exact V.out i K (by have:=(AX.1 Z).1;rw[U.out];exact this) Z k2)];rfl,rfl⟩
end
section
open Classical
section
variable {L:List Rl} {c:Nm} {a i:Int}
theorem PlS.par(h:PlS L c a i)(F:TOk (trR L)):(i= -1/\par (trR L) a c=none)\/∃(k:Nat)(l:Rl),i=(k:Int)/\L[k]? =some l/\l.c=c/\tAt (trR L) c a=some l.x:=by
 rcases h with⟨h1,h2⟩ | ⟨k,l,h1,h2,h3,C⟩
 ·exact .inl ⟨h1,by unfold Go.Proofs.YtggfmklppkioeaaGreat.par;rw[h2.tAt];rfl⟩
 ·exact .inr ⟨k,l,h1,h2,h3,C.tAt (F.row c)⟩
end
variable{R:Tr}{a:Int}
theorem aa3:∀ {n:Nat} {x y z:Nm},up R a n x=some y->par R a y=some z->up R a (n+1) x=some z
 | 0,x,y,z,h,hp=>by simp only[up,A3.injEq]at h;subst h;simp[up,hp]
 | n+1,x,y,z,h,hp=>by
  simp only[up]at h
  cases hq:par R a x with
  | none=>rw[hq]at h;cases h
  | some q=>
   rw[hq]at h;have:=aa3 (n:=n) h hp;show(par R a x).bind (up R a (n+1))=some z;rw[hq];exact this
theorem aa4:∀ {n m:Nat} {x y:Nm},up R a n x=some y->par R a y=none->n<m->up R a m x=none
 | 0,m+1,x,y,h,hp,_=>by simp only[up,A3.injEq]at h;subst h;simp[up,hp]
 | n+1,m+1,x,y,h,hp,hm=>by
  simp only[up]at h⊢
  cases hq:par R a x with
  | none=>rfl
  | some q=>rw[hq]at h;exact aa4 (n:=n) h hp no
theorem up_le(C:TOk R){n:Nat}{x y:Nm}(h:up R a n x=some y):n<=R.length:=by
 obtain⟨m,z,h1,h2,h3⟩:=(C.acy a x).root;rcases Bc m n with hl | hl
 ·rw[aa4 h2 h3 hl]at h;cases h
 ·omega
theorem reach_iff{x c:Nm}(h:x≠c):Reach R a x c↔∃y,par R a x=some y/\Reach R a y c:=by
 constructor
 ·intro k
  cases k with
  | refl=>exact absurd rfl h
  | step e t=>exact⟨_,e,t⟩
 ·rintro⟨y,e,t⟩;exact .step e t
theorem ug(L:List Rl):(trR L).length=L.length:=by unfold trR;rw[List.length_map]
set_option maxHeartbeats 2000000 in
theorem q_ParentR{w:World}{t:Nat}{v:Value}{L:List Rl}(h:RM w t v L)(hR:TOk (trR L))(c:Nm)(a:Int)(hn:L.length<=1000000):AC AB 40 #[ptB t,.string c,.int .i64 a] w λe w'=>e= .returned (.tuple #[.string (pOf (trR L) a c),.bool (par (trR L) a c).isSome])/\mBw w w':=by
 have C:=mV h c a hn;have K:=AA (show∀wq,mBw w wq->RM wq t v L from λwq k=>h.below k);obtain⟨ad,cp,P⟩:=h.form;obtain⟨n,H⟩:∃n,n=L.length:=⟨_,rfl⟩;have V:=AA H;rw[<-H]at P hn;subst P;have ac:(n:Int)<=1000000:=no
 clear h H hn;go_enter Tryz.func40,Tryz.ntmps40
 go_upto_if 14 with(go_at_call 96;refine C.mono ?_;rintro e U ⟨i,rfl,hi,hb⟩;have Y:=AA (hi.par hR);have F:=AA hb;clear C hi hb)
 rcases Y.out with⟨hi,hp⟩ | ⟨k,l,hi,I,hc,hp⟩
 ·subst hi;have G:=AA hp;clear hp;go_wp2;go_ret2
  exact⟨by unfold pOf;rw[G.out];rfl,F.out⟩
 ·subst hi;have J:=(AX.1 I).1;have ab:(k:Int)<(n:Int):=by rw[V.out];omega
  have q0:decide ((k:Int)<0)=false:=decide_eq_false no;have aa:=(K.out U F.out).cell;obtain⟨b,c2,cs,e,A⟩:=(K.out U F.out).at I;injection e with Z _ e3;subst Z;subst e3;have fp:=A.par;have G:=AA (show par (trR L) a c=some l.x.par by unfold par;rw[hp];rfl);clear A hp I J hc;go_wp2;go_ret2
  exact⟨by unfold pOf;rw[G.out];rfl,F.out⟩
set_option maxHeartbeats 2000000 in
theorem q_meetsR{w:World}{t:Nat}{v:Value}{L:List Rl}(h:RM w t v L)(hR:TOk (trR L))(p c:Nm)(a:Int)(hn:L.length<=1000000):AC AB 212 #[ptB t,.string p,.string c,.int .i64 a] w λe w'=>e= .returned (.bool (decide (Reach (trR L) a p c)))/\mBw w w':=by
 have P:=AA (show∀wq,mBw w wq->RM wq t v L from λwq k=>h.below k);have U:=AA (show∀wq x,mBw w wq->AC AB 96 #[ptB t,.string x,.int .i64 a] wq λe w'=>∃i,e= .returned (.int .i64 i)/\PlS L x a i/\mBw wq w' from λwq x k=>mV (h.below k) x a hn);have HR:=AA hR;obtain⟨ad,cp,hv⟩:=h.form;obtain⟨n,V⟩:∃n,n=L.length:=⟨_,rfl⟩;have HN:=AA V;rw[<-V]at hv hn;subst hv;have an:(n:Int)<=1000000:=no
 obtain⟨b,hb⟩:∃b,decide (Reach (trR L) a p c)=b:=⟨_,rfl⟩;have G:=AA hb;rw[hb];clear h V hn hR hb;go_enter Tryz.func212,Tryz.ntmps212
 go_wp2;go_loopw [1,9] (λs1 s9 wr=>∃(k:Nat)(x:Nm),k<=2*n+1/\s9= .int .i64 (k:Int)/\s1= .string x/\Hid (mBw w wr)/\Hid (up (trR L) a k p=some x/\(Reach (trR L) a p c↔Reach (trR L) a x c))) (λ_ s9 _=>2*n+2 - (intOf s9).toNat)
 case atStart=>exact⟨0,p,AY _,rfl,rfl,AA (AF _ _),AA ⟨rfl,Iff.rfl⟩⟩
 case round=>
  obtain⟨k,x,hk,rfl,rfl,F,I⟩:=hrel;have ab:=(P.out wr F.out).cell;have am:k<=n:=by
   have:=up_le HR.out I.out.1;rw[ug,<-HN.out]at this;exact this
  have ak:(k:Int)<=2*(n:Int):=no
  have J:=U.out wr x F.out;by_cases g1:x=c
  ·have q1:=kP g1;have K:=AA (show b=true by rw[<-G.out];exact decide_eq_true (I.out.2.2 (g1▸ .refl _)));clear g1;go_wp2;go_ret;exact⟨by rw[K.out];rfl,F.out⟩
  ·have q1:=gU g1;have K:=AA (reach_iff (R:=trR L) (a:=a) g1);clear g1;go_upto_if 29 with(go_at_call 96;refine J.mono ?_;rintro e w1 ⟨i,rfl,hi,hb⟩;have HP:=AA (hi.par HR.out);have C:=AA (F.out.trans (hb.mono F.out.size));clear J hi hb)
   rcases HP.out with⟨hi,hp⟩ | ⟨j,l,hi,Y,hc,hp⟩
   ·subst hi;have H:=AA (show b=false by rw[<-G.out];exact decide_eq_false (λhr=>by
     obtain⟨y,e,_⟩:=K.out.1 (I.out.2.1 hr);rw[hp]at e;cases e))
    clear hp;go_wp2;go_ret;exact⟨by rw[H.out];rfl,C.out⟩
   ·subst hi;have Z:=(AX.1 Y).1;have ac:(j:Int)<(n:Int):=by rw[HN.out];omega
    have q0:decide ((j:Int)<0)=false:=decide_eq_false no;have aa:=(P.out w1 C.out).cell;obtain⟨b2,c2,cs,e,A⟩:=(P.out w1 C.out).at Y;injection e with e1 _ e3;subst e1;subst e3;have fp:=A.par;have H:=AA (show par (trR L) a x=some l.x.par by unfold par;rw[hp];rfl);clear A hp Y Z hc;go_wp2;go_roundw
    case rel=>exact⟨k+1,l.x.par,no,by go_num,rfl,C,AA ⟨aa3 I.out.1 H.out,I.out.2.trans (K.out.trans ⟨λ⟨y,e,t⟩=>by rw[H.out]at e;injection e with e;rw[e];exact t,λt=>⟨_,H.out,t⟩⟩)⟩⟩
    case measure=>simp[intOf];omega
end
section
open Classical
theorem cyc_at{L:List Rl}{c p:Nm}{f:Int}:Cyc (trR L) c p f↔Reach (trR L) f p c\/∃(i:Nat)(l:Rl),L[i]? =some l/\f<l.x.fr/\Reach (trR L) l.x.fr p c:=by
 unfold Cyc;refine or_congr Iff.rfl ⟨λ⟨q,C,h1,h2⟩=> ?_,λ⟨i,l,h,h1,h2⟩=>⟨_,A0 (gF h),h1,h2⟩⟩;obtain⟨i,hi⟩:=Di C;obtain⟨l,F,rfl⟩:=kB hi;exact⟨i,l,F,h1,h2⟩
set_option maxHeartbeats 2000000 in
theorem q_cycleR{w:World}{t:Nat}{v:Value}{L:List Rl}(h:RM w t v L)(hR:TOk (trR L))(c p:Nm)(f:Int)(hn:L.length<=1000000):AC AB 160 #[ptB t,.string c,.string p,.int .i64 f] w λe w'=>e= .returned (.bool (decide (Cyc (trR L) c p f)))/\mBw w w':=by
 have HM:=AA (show∀wq,mBw w wq->RM wq t v L from λwq k=>h.below k);have U:=AA (show∀wq a,mBw w wq->AC AB 212 #[ptB t,.string p,.string c,.int .i64 a] wq λe w'=>e= .returned (.bool (decide (Reach (trR L) a p c)))/\mBw wq w' from λwq a k=>q_meetsR (h.below k) hR p c a hn);obtain⟨ad,cp,hv⟩:=h.form;obtain⟨n,Z⟩:∃n,n=L.length:=⟨_,rfl⟩;have HN:=AA Z;rw[<-Z]at hv hn;subst hv;have an:(n:Int)<=1000000:=no
 have C:=U.out w f (AF _ _);obtain⟨b,hb⟩:∃b,decide (Cyc (trR L) c p f)=b:=⟨_,rfl⟩;have J:=AA hb;rw[hb];clear h Z hn hR hb;by_cases g0:Reach (trR L) f p c
 ·rw[decide_eq_true g0]at C;have H:=AA (show b=true by rw[<-J.out];exact decide_eq_true (.inl g0));clear g0;go_enter Tryz.func160,Tryz.ntmps160
  go_wp2_with (go_at_call 212;refine C.mono ?_;rintro e w1 ⟨rfl,hb⟩;have F:=AA hb;clear C hb)
  go_ret;exact⟨by rw[H.out];rfl,F.out⟩
 rw[decide_eq_false g0]at C;have Y:=AA g0;clear g0;go_enter Tryz.func160,Tryz.ntmps160
 go_wp2_with (go_at_call 212;refine C.mono ?_;rintro e w1 ⟨rfl,hb⟩;have P:=AA hb;clear C hb)
 go_loopw [9] (λs9 wr=>∃k:Nat,k<=n/\s9= .int .i64 (k:Int)/\Hid (mBw w wr)/\Hid (∀i l,i<k->L[i]? =some l->¬(f<l.x.fr/\Reach (trR L) l.x.fr p c))) (λs9 _=>n - (intOf s9).toNat)
 case atStart=>exact⟨0,AY _,rfl,P,AA (λi l hi=>absurd hi (CX _))⟩
 case round=>
  clear P;obtain⟨k,hk,rfl,F,HO⟩:=hrel;have ac:=(HM.out wr F.out).cell;rcases Bc k n with aa | ak
  ·have am:(k:Int)<(n:Int):=no
   obtain⟨l,hl⟩:∃l,L[k]? =some l:=⟨_,AJ (by rw[<-HN.out];exact aa)⟩;obtain⟨b2,c2,cs,e,A⟩:=(HM.out wr F.out).at hl;injection e with e1 _ e3;subst e1;subst e3;have ff:=A.fr;have HL:=AA hl;have C:=U.out wr l.x.fr F.out;clear A hl;have V:=AA (show¬(f<l.x.fr/\Reach (trR L) l.x.fr p c)->∀i K,i<k+1->L[i]? =some K->¬(f<K.x.fr/\Reach (trR L) K.x.fr p c)from λab i K hi G=>by
    rcases Bc i k with h | h
    ·exact HO.out i K h G
    ·obtain rfl:i=k:=no
     rw[HL.out]at G;injection G with G;subst G;exact ab)
   by_cases g1:f<l.x.fr
   ·have q1:decide (f<l.x.fr)=true:=decide_eq_true g1;by_cases g2:Reach (trR L) l.x.fr p c
    ·rw[decide_eq_true g2]at C;have H:=AA (show b=true by rw[<-J.out];exact decide_eq_true (cyc_at.2 (.inr ⟨k,l,HL.out,g1,g2⟩)));clear g1 g2;go_wp2_with (go_at_call 212;refine C.mono ?_;rintro e w1 ⟨rfl,hb⟩;have I:=AA (F.out.trans (hb.mono F.out.size));clear C hb)
     go_ret;exact⟨by rw[H.out];rfl,I.out⟩
    ·rw[decide_eq_false g2]at C;have H:=AA g2;clear g1 g2;go_wp2_with (go_at_call 212;refine C.mono ?_;rintro e w1 ⟨rfl,hb⟩;have I:=AA (F.out.trans (hb.mono F.out.size));clear C hb)
     go_roundw
     case rel=>exact⟨k+1,no,by go_num,I,AA (V.out (λe=>H.out e.2))⟩
     case measure=>simp[intOf];omega
   ·have q1:decide (f<l.x.fr)=false:=decide_eq_false g1;have H:=AA g1;clear g1 C;go_wp2;go_roundw
    case rel=>exact⟨k+1,no,by go_num,F,AA (V.out (λe=>H.out e.1))⟩
    case measure=>simp[intOf];omega
  ·obtain rfl:k=n:=no
   have H:=AA (show b=false by
    rw[<-J.out];refine decide_eq_false (λh=> ?_);rcases cyc_at.1 h with h | ⟨i,K,k1,k2⟩
    ·exact Y.out h
    ·exact HO.out i K (by have:=(AX.1 k1).1;rw[HN.out];exact this) k1 k2)
   go_wp2;go_ret;exact⟨by rw[H.out];rfl,F.out⟩
end
section
open Classical
variable{w:World}
theorem q_letL(n:Int)(h1:97<=n)(h2:n<=122):AC AB 210 #[.int .u8 n] w λe w'=>e= .returned (.bool true)/\w'=w:=by
 have C:decide (97<=n)=true:=decide_eq_true h1;have F:decide (n<=122)=true:=decide_eq_true h2;go_enter Tryz.func210,Tryz.ntmps210
 go_wp2;go_ret;exact Ai
theorem q_letU(n:Int)(h1:65<=n)(h2:n<=90):AC AB 210 #[.int .u8 n] w λe w'=>e= .returned (.bool true)/\w'=w:=by
 have C:decide (97<=n)=false:=decide_eq_false no;have F:decide (65<=n)=true:=decide_eq_true h1;have G:decide (n<=90)=true:=decide_eq_true h2;go_enter Tryz.func210,Tryz.ntmps210
 go_wp2;go_ret;exact Ai
theorem sI(c:UInt8)(h:qo c):AC AB 210 #[.int .u8 (c.toNat:Int)] w λe w'=>e= .returned (.bool true)/\w'=w:=by
 rcases h with⟨h1,h2⟩ | ⟨h1,h2⟩
 ·exact q_letL _ no no
 ·exact q_letU _ no no
theorem zL:AC AB 210 #[.int .u8 49] w λe w'=>e= .returned (.bool false)/\w'=w:=by
 go_enter Tryz.func210,Tryz.ntmps210
 go_wp2;go_ret;exact Ai
theorem q_wordR(c:UInt8)(h:qo c):AC AB 211 #[.int .u8 (c.toNat:Int)] w λe w'=>e= .returned (.bool true)/\w'=w:=by
 have hl:=sI (w:=w) c h;generalize (c.toNat:Int)=n at hl;clear h;go_enter Tryz.func211,Tryz.ntmps211
 go_wp2_with (go_at_call 210;refine hl.mono ?_;rintro e w' ⟨rfl,C⟩;obtain rfl:=C.symm)
 go_ret;exact Ai
theorem zM(c:Nm)(h:bY c):AC AB 159 #[.string c] w λe w'=>e= .returned (.bool true)/\w'=w:=by
 obtain⟨h0,Z,hl⟩:=h;have P:∀i (hi:i<c.size),AC AB 211 #[.int .u8 ((c[i]'hi).toNat:Int)] w λe w'=>e= .returned (.bool true)/\w'=w:=λi hi=>q_wordR _ (hl i hi)
 have G:∀i (hi:i<c.size),(Eb 9 (.string c) (.int .i64 (i:Int))).run AB w= .ok (.int .u8 ((c[i]'hi).toNat:Int)) w:=λi hi=>by
  have h1:c[i]? =some (c[i]'hi):=by simp[hi]
  simp[Eb,asIntOf,AH,run_underlying DC,AQ,h1]
 have F:=sI (w:=w) _ (hl 0 h0);have U:(Eb 9 (.string c) (.int .i64 0)).run AB w= .ok (.int .u8 ((c[0]'h0).toNat:Int)) w:=G 0 h0;have V:=AA P;have Y:=AA G;have J:decide ((c.size:Int)<1)=false:=decide_eq_false no;have C:decide ((16:Int)<(c.size:Int))=false:=decide_eq_false no;generalize (c[0]'h0).toNat=b0 at F U;clear hl P G;go_enter Tryz.func159,Tryz.ntmps159
 obtain⟨m,hm⟩:∃m,c.size=m:=⟨_,rfl⟩;rw[hm]at C Z J;go_wp2_with (go_at_call 210;refine F.mono ?_;rintro e w' ⟨rfl,I⟩;obtain rfl:=I.symm)
 clear F U C J;subst hm;have ac:(c.size:Int)<=16:=no
 go_loopw [3] (λs3 wr=>∃i:Nat,i<=c.size/\s3= .int .i64 (i:Int)/\wr=w) (λs3 _=>c.size - (intOf s3).toNat)
 case atStart=>exact⟨0,AY _,rfl,rfl⟩
 case round=>
  obtain⟨i,hi,rfl,ab⟩:=hrel;obtain rfl:=ab;rcases Bc i c.size with H | ad
  ·have K:=V.out i H;have aa:=Y.out i H;generalize (c[i]'H).toNat=bi at K aa;go_wp2_with (go_at_call 211;refine K.mono ?_;rintro e w' ⟨rfl,I⟩;obtain rfl:=I.symm)
   go_roundw
   case rel=>exact⟨i+1,no,by go_num,by trivial⟩
   case measure=>simp[intOf];omega
  ·obtain rfl:i=c.size:=no
   go_wp2;go_ret;exact⟨rfl,by trivial⟩
theorem zN:AC AB 159 #[.string qp] w λe w'=>e= .returned (.bool false)/\w'=w:=by
 have hc:=zL (w:=w);go_enter Tryz.func159,Tryz.ntmps159
 go_wp2_with (go_at_call 210;refine hc.mono ?_;rintro e w' ⟨rfl,C⟩;obtain rfl:=C.symm)
 go_ret;exact Ai
theorem sJ(c:Nm)(h:Nam c):AC AB 159 #[.string c] w λe w'=>e= .returned (.bool (decide (bY c)))/\w'=w:=by
 rcases h with h | rfl
 ·rw[decide_eq_true h];exact zM c h
 ·rw[decide_eq_false aaS];exact zN
end
end Go.Proofs.YtggfmklppkioeaaGreat
