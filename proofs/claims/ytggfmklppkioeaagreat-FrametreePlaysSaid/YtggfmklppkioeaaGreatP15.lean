/- Trees of frames: a step of the statements is done to a tree. slices.Sorted(maps.Keys(m)): the shelf's contracts, laid (printed by the kit's lay-iter.mjs, names set for the templates). Trees of frames: Frames: the keys of a set in ascending order. Trees of frames: the example that is tried first; nobody. Rows of the call's own; rows of steps; what steps leave of the parents. The reference's tree in memory: what is read. The reference's tree: place, open, aM, Parent. The reference's tree: open, aM. The reference's tree: Parent, meets, cycle. The reference's tree: cycle, names. The reference's names. The reference's frames: rows of texts, an insertion. The reference's frames: the walk. The reference's tree: a link changes in memory. The reference's tree: Detach. The reference's tree: a track changes in memory. -/
import Derived.Test.YtggfmklppkioeaaGreatP14
import Derived.Shelf.SlIter.Nil
import Derived.Shelf.SortM.Plain
import Derived.Shelf.SortM.SortNone
import Derived.Ground.GgzProg
import Derived.Ground.SlgmProg
import Derived.Deep.Cut
import Derived.Deep.QuietTactic
namespace Go.Proofs.YtggfmklppkioeaaGreat
set_option linter.unusedSimpArgs false
set_option linter.unusedVariables false
set_option maxRecDepth 100000
open Go.RowKit
open _root_.Go.RowKit renaming Below → AG
open _root_.Go renaming Calls → AH,Program → A0,heap_alloc_new → BE,wpList_plain → Ck,wp_region_list → CC
open _root_.And renaming intro → Ba
open _root_.Array renaming getElem?_eq_some_iff → A8,toList_setIfInBounds → EZ
open _root_.Go.RowKit.Below renaming refl → AL
open _root_.Bool renaming and_eq_true → Bo
open _root_.Go.Builtin renaming append_ → Ca
open _root_.ByteArray renaming empty → ES,toList → ET
open _root_.Go.WideElems renaming rg → Fk
open _root_.Go.Instr renaming index → DV
open _root_.Int renaming tmod_eq_emod_of_nonneg → Cz
open _root_.Go.IntKind renaming i64 → Bd,wrap_i64 → BQ
open _root_.Go.Lib renaming hid → AF
open _root_.List renaming eq_nil_of_length_eq_zero → De,ext_getElem? → Dx,flatMap_append → Df,getElem?_append_left → Bw,getElem?_append_right → Bq,getElem?_drop → Cp,getElem?_eq_getElem → AU,getElem?_eq_some_iff → A5,getElem?_map → BB,getElem?_of_mem → DH,getElem?_take → BP,length_append → By,length_cons → Bz,length_drop → Cv,length_map → Cf,length_take → Bp,map_append → Cu,map_map → CG,mem_append → AJ,mem_cons → A3,mem_cons_of_mem → Bg,mem_cons_self → Bj,mem_flatMap → Br,mem_of_getElem? → Bb,nodup_append → BJ,nodup_cons → Bv,pairwise_append → C6,take_append_drop → EN,take_of_length_le → Fi,take_zero → EW
open _root_.Nat renaming add_sub_cancel_left → DN,le_refl → AK,le_trans → AI,lt_or_ge → Bl,min_eq_left → EX,not_lt_zero → DI,sub_self → Dd,zero_add → Bh,zero_le → Bc
open _root_.Option renaming map_some → BF,some → A9
open _root_.Go.Sem renaming run_bind → AO
open _root_.Go.Proofs.Tryz renaming prog → AE,underlying9 → Ey,zeroValue9 → Fj
open _root_.Go.Value renaming ownBlock → CI,string → BK
open _root_.Go.World renaming frozen? → Dg
section
open Classical
def axOf(s:Stp):Ax:=⟨if s.k % 5=2 then 1 else if s.k % 5=3 then 2 else if s.k % 5=4 then 3 else 0,aR s.c,aR s.p,s.a,aT s.x s.u⟩
variable{x u:Int}
theorem du(C: -128<=x/\x<128)(_:0<=u/\u<256):(aT x u).ok 2:=by
 have h:∀v:Int, -300<=v->v<300->(Fq.ofInt v).ok 2:=λv h1 h2=>a8 Aa Aa
 refine⟨⟨?_,h 0 Aa Aa,h 0 Aa Aa,h _ Aa Aa⟩,⟨h x Aa Aa,h 0 Aa Aa,h 0 Aa Aa⟩⟩;show(Fq.ofInt (if u % 8=7 then 2 else 1)).ok 2;split
 ·exact h 2 Aa Aa
 ·exact h 1 Aa Aa
variable{w:World}{t m B:Nat}{E:List Ch}
theorem TPost.cell{w':World}{E':List Ch}(h:TPost w t m E w' E')(hB:B∉fpT t m E)(hl:B<w.heap.size)(j:Nat):w'.cell? ⟨B,j,none⟩=w.cell? ⟨B,j,none⟩:=World.cell?_of_block (h.kp.block B hl hB)
def rt(w:World)(t m:Nat)(E:List Ch)(x:Ax)(e:Ending)(w':World):Prop:=∃E' R' code,e= .returned (.int .i64 code)/\TPost w t m E w' E'/\REq (trE E') R'/\DoS (trE E) x R' code
structure DoC(w w1:World)(t m B:Nat)(E:List Ch)(k c p a x u:Int):Prop where
 eq:w.alloc (.cells #[.int .u8 k,.int .u8 c,.int .u8 p,.int .i16 a,.int .i8 x,.int .u8 u] 67)=w1
 hB:w.heap.size=B
 tm:TM w1 t m E
 pre:∀(w2 w3:World)(E':List Ch),AG w1.heap.size w1 w2->TPost w2 t m E w3 E'->TPost w t m E w3 E'
 cel:∀(w2 w3:World)(E':List Ch),AG w1.heap.size w1 w2->TPost w2 t m E w3 E'->∀j v,w1.cell? ⟨B,j,none⟩=some v->w3.cell? ⟨B,j,none⟩=some v
 cel2:∀(w2:World),AG w1.heap.size w1 w2->∀j v,w1.cell? ⟨B,j,none⟩=some v->w2.cell? ⟨B,j,none⟩=some v
 f0:w1.cell? ⟨B,0,none⟩=some (.int .u8 k)
 f1:w1.cell? ⟨B,1,none⟩=some (.int .u8 c)
 f2:w1.cell? ⟨B,2,none⟩=some (.int .u8 p)
 f3:w1.cell? ⟨B,3,none⟩=some (.int .i16 a)
 f4:w1.cell? ⟨B,4,none⟩=some (.int .i8 x)
 f5:w1.cell? ⟨B,5,none⟩=some (.int .u8 u)
theorem do_c(h:TM w t m E)(k c p a x u:Int):∃w1 B,DoC w w1 t m B E k c p a x u:=by
 obtain⟨w1,G⟩:∃w1,w.alloc (.cells #[.int .u8 k,.int .u8 c,.int .u8 p,.int .i16 a,.int .i8 x,.int .u8 u] 67)=w1:=⟨_,rfl⟩;have H:AG w.heap.size w w1:=by rw[<-G];exact(AL _ _).alloc (AK _) _
 have P:w1.heap.size=w.heap.size+1:=by rw[<-G];exact asz _ _
 have C:w1.heap[w.heap.size]? =some (.cells #[.int .u8 k,.int .u8 c,.int .u8 p,.int .i16 a,.int .i8 x,.int .u8 u] 67 (0,0)):=by rw[<-G];exact BE w _
 have I:w.heap.size∉fpT t m E:=λK=>by have:=h.lt _ K;omega
 exact⟨w1,w.heap.size,G,rfl,h.below H,λ_ _ _ k J=>J.pre (H.trans (k.mono H.size)) h,λ_ _ _ k J j v hv=>by
   rw[J.cell I (by have:=k.size;omega),k.cell (p:=⟨_,j,none⟩) (by show w.heap.size<_;omega)];exact hv,λ_ k j v hv=>by
   rw[k.cell (p:=⟨_,j,none⟩) (by show w.heap.size<_;omega)];exact hv,
  by rw[aE C];rfl,by rw[aE C];rfl,by rw[aE C];rfl,by rw[aE C];rfl,by rw[aE C];rfl,by rw[aE C];rfl⟩
variable{w1:World}{k c p a:Int}
set_option maxHeartbeats 2000000 in
theorem q_do1(C:DoC w w1 t m B E k c p a x u)(hE:TOk (trE E))(hk:0<=k)(hc:0<=c/\c<256)(hp:0<=p/\p<256)(ha: -32768<=a/\a<32768)(hx: -128<=x/\x<128)(hu:0<=u/\u<256)(h5:k % 5=2):
  AH AE 32 #[ptB t,.agg #[.int .u8 k,.int .u8 c,.int .u8 p,.int .i16 a,.int .i8 x,.int .u8 u]] w λe w'=>rt w t m E ⟨1,aR c,aR p,a,aT x u⟩ e w':=by
 have Y:k.tmod 5=k % 5:=Cz hk;have ab:Bd.wrap a=a:=by rw[BQ];omega
 have I:=AF (show AG w1.heap.size w1 w1.drew from(AL _ _).drew);have J:=AF C.pre;have H:=AF C.cel;have P:=AF C.cel2;have aa:=C.eq;have hB:=C.hB;have f0:=C.f0;have f1:=C.f1;have f3:=C.f3;have h2:=du hx hu;rw[h5]at Y;have K:=q_Detach C.tm.drew hE (aR c) a;have HF:=AF (show∀E' G,DetS (trE E) (aR c) a (trE E') G->DoS (trE E) ⟨1,aR c,aR p,a,aT x u⟩ (trE E') G from λE' G hd=>by unfold DoS;exact hd);clear C hE h2 hk h5;go_enter Tryz.func32,Tryz.ntmps32
 go_wp2
 go_region_held3 (λw'=>w'.cell? ⟨B,1,none⟩=some (.int .u8 c)/\w'.cell? ⟨B,3,none⟩=some (.int .i16 a)) (first | assumption | exact⟨f1,f3⟩ | go_keep)
  (first
   | (go_at_call 39;with_reducible refine(fe c hc).mono ?_;rintro e w' ⟨rfl,Z⟩;obtain rfl:=Z.symm)
   | (go_at_call 68;refine K.mono ?_;rintro e w2 ⟨E',G,rfl,U,hD⟩;have HS:=(Ba (H.out _ _ _ I.out U 1 _ f1) (H.out _ _ _ I.out U 3 _ f3));have V:=AF (Ba (J.out _ _ _ I.out U) (Ba (REq.refl (trE E')) (HF.out _ _ hD)));clear U hD))
 all_goals go_wp2
 all_goals go_ret
 all_goals exact⟨E',_,G,rfl,V.out.1,V.out.2.1,V.out.2.2⟩
set_option maxHeartbeats 2000000 in
theorem q_do2(C:DoC w w1 t m B E k c p a x u)(hE:TOk (trE E))(hk:0<=k)(hc:0<=c/\c<256)(hp:0<=p/\p<256)(ha: -32768<=a/\a<32768)(hx: -128<=x/\x<128)(hu:0<=u/\u<256)(h5:k % 5=3):
  AH AE 32 #[ptB t,.agg #[.int .u8 k,.int .u8 c,.int .u8 p,.int .i16 a,.int .i8 x,.int .u8 u]] w λe w'=>rt w t m E ⟨2,aR c,aR p,a,aT x u⟩ e w':=by
 have ab:k.tmod 5=k % 5:=Cz hk;have a1:Bd.wrap a=a:=by rw[BQ];omega
 have aa:=AF (show AG w1.heap.size w1 w1.drew from(AL _ _).drew);have V:=AF C.pre;have J:=AF C.cel;have H:=AF C.cel2;have a0:=C.eq;have hB:=C.hB;have f0:=C.f0;have f1:=C.f1;have f3:=C.f3;have f4:=C.f4;have f5:=C.f5;have h2:=du hx hu;rw[h5]at ab;have Y:=AF (show∀(w2:World)(cs:List Value),AG w1.heap.size w1 w2->bh w2 (.agg cs.toArray) (aT x u)->AH AE 69 #[ptB t,.string (aR c),stV a cs] w2 λe w'=>∃E' K G,e= .returned (.int .i64 G)/\TPost w2 t m E w' E'/\REq (trE E') K/\SetS (xQ a (aT x u)) (trE E) (aR c) a K G from λw2 cs hb hi=>q_SetP (p:=aT x u) (cs:=cs) (C.tm.below hb) hE hi h2);have HF:=AF (show∀K G,SetS (xQ a (aT x u)) (trE E) (aR c) a K G->DoS (trE E) ⟨2,aR c,aR p,a,aT x u⟩ K G from λK G hd=>by unfold DoS;exact hd);clear C hE h2 hk h5;go_enter Tryz.func32,Tryz.ntmps32
 go_wp2
 go_region_held3 (λw'=>w'.cell? ⟨B,1,none⟩=some (.int .u8 c)/\w'.cell? ⟨B,3,none⟩=some (.int .i16 a)/\w'.cell? ⟨B,4,none⟩=some (.int .i8 x)/\w'.cell? ⟨B,5,none⟩=some (.int .u8 u)) (first | assumption | exact⟨f1,f3,f4,f5⟩ | go_keep)
  (first
   | (go_at_call 39;with_reducible refine(fe c hc).mono ?_;rintro e w' ⟨rfl,ac⟩;obtain rfl:=ac.symm)
   | (go_at_call 86;refine(uQ x u hx hu).mono ?_;rintro e w2 ⟨v,rfl,hv,hb⟩;obtain⟨cs,rfl,P⟩:=hv;obtain⟨c0,c1,c2,c3,c4,c5,c6,c7,c8,c9,ak,am,an,ao,ap,aq,ar,au,av,ax,ay,rfl⟩:=uR (aB P);have I:=AF (aa.out.trans hb);have ad:=(Ba (H.out _ I.out 1 _ f1) (Ba (H.out _ I.out 3 _ f3) (Ba (H.out _ I.out 4 _ f4) (H.out _ I.out 5 _ f5))));have Z:=Y.out _ _ I.out ⟨_,rfl,P⟩;clear P hb)
   | (go_at_call 69;refine Z.mono ?_;rintro e w3 ⟨E',K,G,rfl,U,hR,hD⟩;have HS:=(Ba (J.out _ _ _ I.out U 1 _ f1) (Ba (J.out _ _ _ I.out U 3 _ f3) (Ba (J.out _ _ _ I.out U 4 _ f4) (J.out _ _ _ I.out U 5 _ f5))));have HQ:=AF (Ba (V.out _ _ _ I.out U) (Ba hR (HF.out _ _ hD)));clear U hD hR))
 all_goals go_wp2
 all_goals go_ret
 all_goals exact⟨E',_,G,rfl,HQ.out.1,HQ.out.2.1,HQ.out.2.2⟩
set_option maxHeartbeats 2000000 in
theorem q_do3(C:DoC w w1 t m B E k c p a x u)(hE:TOk (trE E))(hk:0<=k)(hc:0<=c/\c<256)(hp:0<=p/\p<256)(ha: -32768<=a/\a<32768)(hx: -128<=x/\x<128)(hu:0<=u/\u<256)(h5:k % 5=4):
  AH AE 32 #[ptB t,.agg #[.int .u8 k,.int .u8 c,.int .u8 p,.int .i16 a,.int .i8 x,.int .u8 u]] w λe w'=>rt w t m E ⟨3,aR c,aR p,a,aT x u⟩ e w':=by
 have ab:k.tmod 5=k % 5:=Cz hk;have a1:Bd.wrap a=a:=by rw[BQ];omega
 have aa:=AF (show AG w1.heap.size w1 w1.drew from(AL _ _).drew);have V:=AF C.pre;have J:=AF C.cel;have H:=AF C.cel2;have a0:=C.eq;have hB:=C.hB;have f0:=C.f0;have f1:=C.f1;have f4:=C.f4;have f5:=C.f5;have h2:=du hx hu;rw[h5]at ab;have U:=AF (show∀(w2:World)(cs:List Value),AG w1.heap.size w1 w2->bh w2 (.agg cs.toArray) (aT x u)->AH AE 70 #[ptB t,.string (aR c),.agg cs.toArray] w2 λe w'=>∃E' K G,e= .returned (.int .i64 G)/\TPost w2 t m E w' E'/\REq (trE E') K/\FixS (decide (aT x u).good) (aT x u) (trE E) (aR c) K G from λw2 cs hb hi=>q_FixP (p:=aT x u) (cs:=cs) (C.tm.below hb) hE hi h2);have HF:=AF (show∀K G,FixS (decide (aT x u).good) (aT x u) (trE E) (aR c) K G->DoS (trE E) ⟨3,aR c,aR p,a,aT x u⟩ K G from λK G hd=>by unfold DoS;exact hd);clear C hE h2 hk h5;go_enter Tryz.func32,Tryz.ntmps32
 go_wp2
 go_region_held3 (λw'=>w'.cell? ⟨B,1,none⟩=some (.int .u8 c)/\w'.cell? ⟨B,4,none⟩=some (.int .i8 x)/\w'.cell? ⟨B,5,none⟩=some (.int .u8 u)) (first | assumption | exact⟨f1,f4,f5⟩ | go_keep)
  (first
   | (go_at_call 39;with_reducible refine(fe c hc).mono ?_;rintro e w' ⟨rfl,ac⟩;obtain rfl:=ac.symm)
   | (go_at_call 86;refine(uQ x u hx hu).mono ?_;rintro e w2 ⟨v,rfl,hv,hb⟩;obtain⟨cs,rfl,P⟩:=hv;obtain⟨c0,c1,c2,c3,c4,c5,c6,c7,c8,c9,ak,am,an,ao,ap,aq,ar,au,av,ax,ay,rfl⟩:=uR (aB P);have I:=AF (aa.out.trans hb);have ad:=(Ba (H.out _ I.out 1 _ f1) (Ba (H.out _ I.out 4 _ f4) (H.out _ I.out 5 _ f5)));have Z:=U.out _ _ I.out ⟨_,rfl,P⟩;clear P hb)
   | (go_at_call 70;refine Z.mono ?_;rintro e w3 ⟨E',K,G,rfl,Y,hR,hD⟩;have HS:=(Ba (J.out _ _ _ I.out Y 1 _ f1) (Ba (J.out _ _ _ I.out Y 4 _ f4) (J.out _ _ _ I.out Y 5 _ f5)));have HQ:=AF (Ba (V.out _ _ _ I.out Y) (Ba hR (HF.out _ _ hD)));clear Y hD hR))
 all_goals go_wp2
 all_goals go_ret
 all_goals exact⟨E',_,G,rfl,HQ.out.1,HQ.out.2.1,HQ.out.2.2⟩
set_option maxHeartbeats 2000000 in
theorem q_do0(C:DoC w w1 t m B E k c p a x u)(hE:TOk (trE E))(hk:0<=k)(hc:0<=c/\c<256)(hp:0<=p/\p<256)(ha: -32768<=a/\a<32768)(hx: -128<=x/\x<128)(hu:0<=u/\u<256)(k2:k % 5≠2)(k3:k % 5≠3)(k4:k % 5≠4):
  AH AE 32 #[ptB t,.agg #[.int .u8 k,.int .u8 c,.int .u8 p,.int .i16 a,.int .i8 x,.int .u8 u]] w λe w'=>rt w t m E ⟨0,aR c,aR p,a,aT x u⟩ e w':=by
 have aa:k.tmod 5=k % 5:=Cz hk;have ac:Bd.wrap a=a:=by rw[BQ];omega
 have I:=AF (show AG w1.heap.size w1 w1.drew from(AL _ _).drew);have K:=AF C.pre;have H:=AF C.cel;have V:=AF C.cel2;have ab:=C.eq;have hB:=C.hB;have f0:=C.f0;have f1:=C.f1;have f2:=C.f2;have f3:=C.f3;have h2:=du hx hu;obtain⟨r,hr⟩:∃r,k % 5=r:=⟨_,rfl⟩;rw[hr]at aa k2 k3 k4;have g2:(r==2)=false:=beq_eq_false_iff_ne.2 k2;have g3:(r==3)=false:=beq_eq_false_iff_ne.2 k3;have g4:(r==4)=false:=beq_eq_false_iff_ne.2 k4;have U:=rf (f:=a) C.tm.drew hE (j6 c hc.1) (j6 p hp.1);have HF:=AF (show∀Y G,AttS cj (trE E) (aR c) (aR p) a Y G->DoS (trE E) ⟨0,aR c,aR p,a,aT x u⟩ Y G from λY G hd=>by unfold DoS;exact hd);clear C hE h2 hk k2 k3 k4 hr;go_enter Tryz.func32,Tryz.ntmps32
 go_wp2
 go_region_held3 (λw'=>w'.cell? ⟨B,1,none⟩=some (.int .u8 c)/\w'.cell? ⟨B,2,none⟩=some (.int .u8 p)/\w'.cell? ⟨B,3,none⟩=some (.int .i16 a)) (first | assumption | exact⟨f1,f2,f3⟩ | go_keep)
  (first
   | (go_at_call 39;with_reducible refine(fe c hc).mono ?_;rintro e w' ⟨rfl,J⟩;obtain rfl:=J.symm)
   | (go_at_call 39;with_reducible refine(fe p hp).mono ?_;rintro e w' ⟨rfl,J⟩;obtain rfl:=J.symm)
   | (go_at_call 67;refine U.mono ?_;rintro e w3 ⟨E',Y,G,rfl,P,hR,hD⟩;have HS:=(Ba (H.out _ _ _ I.out P 1 _ f1) (Ba (H.out _ _ _ I.out P 2 _ f2) (H.out _ _ _ I.out P 3 _ f3)));have Z:=AF (Ba (K.out _ _ _ I.out P) (Ba hR (HF.out _ _ hD)));clear P hD hR))
 all_goals go_wp2
 all_goals go_ret
 all_goals exact⟨E',_,G,rfl,Z.out.1,Z.out.2.1,Z.out.2.2⟩
theorem q_do{s:Stp}(h:TM w t m E)(G:TOk (trE E))(hs:s.Ok):AH AE 32 #[ptB t,s.val] w λe w'=>rt w t m E (axOf s) e w':=by
 obtain⟨w1,B,C⟩:=do_c h s.k s.c s.p s.a s.x s.u;unfold axOf;by_cases k2:s.k % 5=2
 ·rw[if_pos k2];exact q_do1 C G hs.k.1 hs.c hs.p hs.a hs.x hs.u k2
 ·rw[if_neg k2];by_cases k3:s.k % 5=3
  ·rw[if_pos k3];exact q_do2 C G hs.k.1 hs.c hs.p hs.a hs.x hs.u k3
  ·rw[if_neg k3];by_cases k4:s.k % 5=4
   ·rw[if_pos k4];exact q_do3 C G hs.k.1 hs.c hs.p hs.a hs.x hs.u k4
   ·rw[if_neg k4];exact q_do0 C G hs.k.1 hs.c hs.p hs.a hs.x hs.u k2 k3 k4
end
section
open Go.RowKit Go.Maps Go.Sort Go.Shelf
def Tryz.keysB_ren:Go.Shelf.Ren:=⟨λ| 7=>88 | 10=>152 | n=>n,λ| 23=>150 | 26=>9 | 3=>4 | 28=>148 | 0=>0 | 27=>147 | 33=>166 | 4=>4 | n=>n,λ| n=>n⟩
theorem Tryz.keysB:Go.Proofs.SlLaysZ.n7 AE Tryz.keysB_ren:= {
 mixed:=Ab
 f7:=⟨Tryz.f88.name,th,Tryz.func88.trans (congrArg some Ab)⟩
 f10:=⟨Tryz.f152.name,th,Tryz.func152.trans (congrArg some Ab)⟩
 t0:=Tryz.underlying0
 a0:=Tryz.isAgg0
 z0:=Tryz.sizeOf0
 v0:=Tryz.zeroValue0
 t4:=Tryz.underlying4
 a4:=Tryz.isAgg4
 z4:=Tryz.sizeOf4
 v4:=Tryz.zeroValue4
 t23:=Tryz.underlying150
 a23:=Tryz.isAgg150
 z23:=Tryz.sizeOf150
 v23:=Tryz.zeroValue150
 t26:=Ey
 a26:=Tryz.isAgg9
 z26:=Tryz.sizeOf9
 v26:=Fj
 t27:=Tryz.underlying147
 a27:=Tryz.isAgg147
 z27:=Tryz.sizeOf147
 v27:=Tryz.zeroValue147
 t28:=Tryz.underlying148
 a28:=Tryz.isAgg148
 z28:=Tryz.sizeOf148
 v28:=Tryz.zeroValue148
 t33:=Tryz.underlying166
 a33:=Tryz.isAgg166
 z33:=Tryz.sizeOf166
 v33:=Tryz.zeroValue166}
def Tryz.sortedS_ren:Go.Shelf.Ren:=⟨λ| 6=>87 | 8=>150 | 9=>151 | 11=>205 | 13=>174 | 12=>206 | 23=>232 | 24=>233 | 14=>246 | 15=>247 | 16=>248 | 17=>249 | 18=>250 | 19=>251 | 20=>252 | 21=>253 | 22=>254 | 25=>282 | 26=>274 | 27=>275 | 28=>283 | 29=>284 | 30=>285 | 31=>303 | n=>n,λ| 26=>9 | 28=>148 | 24=>68 | 0=>0 | 3=>3 | 37=>234 | 48=>237 | 50=>178 | 4=>4 | 40=>273 | 39=>272 | 45=>277 | 5=>5 | 9=>9 | 51=>299 | 55=>303 | 57=>309 | 58=>310 | 33=>166 | n=>n,λ| n=>n⟩
theorem Tryz.sortedS:Go.Proofs.SlLaysZ.n6 AE Tryz.sortedS_ren:= {
 mixed:=Ab
 f6:=⟨Tryz.f87.name,th,Tryz.func87.trans (congrArg some Ab)⟩
 f8:=⟨Tryz.f150.name,th,Tryz.func150.trans (congrArg some Ab)⟩
 f11:=⟨Tryz.f205.name,th,Tryz.func205.trans (congrArg some Ab)⟩
 t0:=Tryz.underlying0
 a0:=Tryz.isAgg0
 z0:=Tryz.sizeOf0
 v0:=Tryz.zeroValue0
 t24:=Tryz.underlying68
 a24:=Tryz.isAgg68
 z24:=Tryz.sizeOf68
 v24:=Tryz.zeroValue68
 t26:=Ey
 a26:=Tryz.isAgg9
 z26:=Tryz.sizeOf9
 v26:=Fj
 t28:=Tryz.underlying148
 a28:=Tryz.isAgg148
 z28:=Tryz.sizeOf148
 v28:=Tryz.zeroValue148
 i26:=by kernel_rfl}
def Tryz.sortS_ren:Go.Shelf.Ren:=⟨λ| 6=>151 | 8=>174 | 9=>206 | 19=>232 | 20=>233 | 21=>246 | 22=>247 | 23=>248 | 24=>249 | 25=>250 | 26=>251 | 27=>252 | 28=>253 | 29=>254 | 36=>282 | 31=>274 | 32=>275 | 37=>283 | 38=>284 | 39=>285 | 41=>303 | n=>n,λ| 27=>68 | 29=>9 | 3=>3 | 32=>234 | 26=>68 | 0=>0 | 44=>237 | 46=>178 | 4=>4 | 36=>273 | 35=>272 | 41=>277 | 5=>5 | 9=>9 | 53=>299 | 57=>303 | 63=>309 | 64=>310 | n=>n,λ| n=>n⟩
theorem Tryz.sortS:Go.Proofs.SlLaysM.n6 AE Tryz.sortS_ren:= {
 mixed:=Ab
 f6:=⟨Tryz.f151.name,th,Tryz.func151.trans (congrArg some Ab)⟩
 f8:=Tryz.func174.trans (congrArg some Ab)
 f9:=⟨Tryz.f206.name,th,Tryz.func206.trans (congrArg some Ab)⟩
 f19:=Tryz.func232.trans (congrArg some Ab)
 f20:=Tryz.func233.trans (congrArg some Ab)
 f21:=⟨Tryz.f246.name,th,Tryz.func246.trans (congrArg some Ab)⟩
 f22:=⟨Tryz.f247.name,th,Tryz.func247.trans (congrArg some Ab)⟩
 f23:=⟨Tryz.f248.name,th,Tryz.func248.trans (congrArg some Ab)⟩
 f24:=⟨Tryz.f249.name,th,Tryz.func249.trans (congrArg some Ab)⟩
 f25:=⟨Tryz.f250.name,th,Tryz.func250.trans (congrArg some Ab)⟩
 f26:=⟨Tryz.f251.name,th,Tryz.func251.trans (congrArg some Ab)⟩
 f27:=⟨Tryz.f252.name,th,Tryz.func252.trans (congrArg some Ab)⟩
 f28:=⟨Tryz.f253.name,th,Tryz.func253.trans (congrArg some Ab)⟩
 f29:=⟨Tryz.f254.name,th,Tryz.func254.trans (congrArg some Ab)⟩
 f31:=Tryz.func274.trans (congrArg some Ab)
 f32:=Tryz.func275.trans (congrArg some Ab)
 f36:=⟨Tryz.f282.name,th,Tryz.func282.trans (congrArg some Ab)⟩
 f37:=⟨Tryz.f283.name,th,Tryz.func283.trans (congrArg some Ab)⟩
 f38:=⟨Tryz.f284.name,th,Tryz.func284.trans (congrArg some Ab)⟩
 f39:=⟨Tryz.f285.name,th,Tryz.func285.trans (congrArg some Ab)⟩
 f41:=⟨Tryz.f303.name,th,Tryz.func303.trans (congrArg some Ab)⟩
 t0:=Tryz.underlying0
 a0:=Tryz.isAgg0
 z0:=Tryz.sizeOf0
 v0:=Tryz.zeroValue0
 t3:=Tryz.underlying3
 a3:=Tryz.isAgg3
 z3:=Tryz.sizeOf3
 v3:=Tryz.zeroValue3
 t4:=Tryz.underlying4
 a4:=Tryz.isAgg4
 z4:=Tryz.sizeOf4
 v4:=Tryz.zeroValue4
 t5:=Tryz.underlying5
 a5:=Tryz.isAgg5
 z5:=Tryz.sizeOf5
 v5:=Tryz.zeroValue5
 t9:=Ey
 a9:=Tryz.isAgg9
 z9:=Tryz.sizeOf9
 v9:=Fj
 t26:=Tryz.underlying68
 a26:=Tryz.isAgg68
 z26:=Tryz.sizeOf68
 v26:=Tryz.zeroValue68
 t27:=Tryz.underlying68
 a27:=Tryz.isAgg68
 z27:=Tryz.sizeOf68
 v27:=Tryz.zeroValue68
 t29:=Ey
 a29:=Tryz.isAgg9
 z29:=Tryz.sizeOf9
 v29:=Fj
 t32:=Tryz.underlying234
 a32:=Tryz.isAgg234
 z32:=Tryz.sizeOf234
 v32:=Tryz.zeroValue234
 t35:=Tryz.underlying272
 a35:=Tryz.isAgg272
 z35:=Tryz.sizeOf272
 v35:=Tryz.zeroValue272
 t36:=Tryz.underlying273
 a36:=Tryz.isAgg273
 z36:=Tryz.sizeOf273
 v36:=Tryz.zeroValue273
 t41:=Tryz.underlying277
 a41:=Tryz.isAgg277
 z41:=Tryz.sizeOf277
 v41:=Tryz.zeroValue277
 t44:=Tryz.underlying237
 a44:=Tryz.isAgg237
 z44:=Tryz.sizeOf237
 v44:=Tryz.zeroValue237
 t46:=Tryz.underlying178
 a46:=Tryz.isAgg178
 z46:=Tryz.sizeOf178
 v46:=Tryz.zeroValue178
 t53:=Tryz.underlying299
 a53:=Tryz.isAgg299
 z53:=Tryz.sizeOf299
 v53:=Tryz.zeroValue299
 t57:=Tryz.underlying303
 a57:=Tryz.isAgg303
 z57:=Tryz.sizeOf303
 v57:=Tryz.zeroValue303
 t63:=Tryz.underlying309
 a63:=Tryz.isAgg309
 z63:=Tryz.sizeOf309
 v63:=Tryz.zeroValue309
 t64:=Tryz.underlying310
 a64:=Tryz.isAgg310
 z64:=Tryz.sizeOf310
 v64:=Tryz.zeroValue310}
theorem Tryz.sortsS(m:Nat):AnyZ.SortsIn AE Tryz.sortedS_ren Fence.wide m:=
 ⟨λblk off cap I W H C G=>callsIn_wide.2 (AnyM.slices_Sort_string Tryz.sortS blk off cap I W H C G),
  λp cap W=>callsIn_wide.2 (AnyM.slices_Sort_string_none Tryz.sortS p cap W)⟩
theorem Tryz.maps_Keys_B(C:Option Nat)(W:World):CallsIn Fence.wide 5 AE 88 #[.map C] W λe w'=>e= .returned (.func (.func 152) #[] #[.pointer (some ⟨W.heap.size,0,none⟩)])/\w'=W.alloc (.cells #[.map C] 150):=
 AnyZ.keys_in Tryz.keysB Fence.wide 5 trivial rfl C W
set_option maxHeartbeats 1000000 in
theorem Tryz.slices_Sorted_keys_B{H:Type}(b nn:Nat)(D0:DataW H)(R:Value->Option (DataW H×List MemPlace))(w:World)(hown:w.ownsMap AE 9 R b nn D0)(hmax:Maps.size D0<=maxLen)(hbytes:Maps.size D0*16<=140737488355328):
  CallsIn Fence.wide 5 AE 87 #[.func (.func 152) #[] #[.pointer (some ⟨w.heap.size,0,none⟩)]] (w.alloc (.cells #[.map (some b)] 150)) λe w'=>∃(v:Value) (ss:List (List UInt8)),e= .returned v/\ss.Perm (strKeys D0)/\
   w'.ownsRow (w.alloc (.cells #[.map (some b)] 150)).heap.size 9 1 v ss.length ((ss.mergeSort (λx y=>decide (x<=y))).map encStr)/\(v= .slice none 0 0↔ss=[])/\AG (w.alloc (.cells #[.map (some b)] 150)).heap.size (w.alloc (.cells #[.map (some b)] 150)) w':=by
 have hbl:=hown.lt;have hseq:SeqGives Fence.wide 2 AE 152 #[.pointer (some ⟨w.heap.size,0,none⟩)] encStr (λss=>ss.Perm (strKeys D0)) (Maps.size D0) (w.alloc (.cells #[.map (some b)] 150)):=
  AnyZ.keys_gives (ρ:=Tryz.keysB_ren) {Tryz.keysB with} Fence.wide _ trivial rfl (by omega) w.heap.size b nn D0 _ (by simp) (by simp) (by
   obtain⟨es,clock,hb,Ft,hs,hD⟩:=hown;exact⟨es,clock,(Below.heap_alloc _ _ b hbl).trans hb,Ft,hs,hD⟩)
 exact AnyZ.sorted_in Tryz.sortedS Fence.wide 5 trivial trivial trivial trivial rfl (by omega) (Tryz.sortsS _) (enters_of Tryz.func151 (by kernel_rfl) rfl) 152 #[.pointer (some ⟨w.heap.size,0,none⟩)] trivial (enters_of Tryz.func152 (by kernel_rfl) rfl) _ _ hmax hbytes _ hseq
def Tryz.keysL_ren:Go.Shelf.Ren:=⟨λ| 7=>91 | 10=>154 | n=>n,λ| 23=>142 | 26=>9 | 3=>158 | 28=>148 | 0=>0 | 27=>147 | 33=>166 | 4=>4 | n=>n,λ| n=>n⟩
theorem Tryz.keysL:Go.Proofs.SlLaysZ.n7 AE Tryz.keysL_ren:= {
 mixed:=Ab
 f7:=⟨Tryz.f91.name,th,Tryz.func91.trans (congrArg some Ab)⟩
 f10:=⟨Tryz.f154.name,th,Tryz.func154.trans (congrArg some Ab)⟩
 t0:=Tryz.underlying0
 a0:=Tryz.isAgg0
 z0:=Tryz.sizeOf0
 v0:=Tryz.zeroValue0
 t4:=Tryz.underlying4
 a4:=Tryz.isAgg4
 z4:=Tryz.sizeOf4
 v4:=Tryz.zeroValue4
 t23:=Tryz.underlying142
 a23:=Tryz.isAgg142
 z23:=Tryz.sizeOf142
 v23:=Tryz.zeroValue142
 t26:=Ey
 a26:=Tryz.isAgg9
 z26:=Tryz.sizeOf9
 v26:=Fj
 t27:=Tryz.underlying147
 a27:=Tryz.isAgg147
 z27:=Tryz.sizeOf147
 v27:=Tryz.zeroValue147
 t28:=Tryz.underlying148
 a28:=Tryz.isAgg148
 z28:=Tryz.sizeOf148
 v28:=Tryz.zeroValue148
 t33:=Tryz.underlying166
 a33:=Tryz.isAgg166
 z33:=Tryz.sizeOf166
 v33:=Tryz.zeroValue166}
theorem Tryz.maps_Keys_L(C:Option Nat)(W:World):CallsIn Fence.wide 5 AE 91 #[.map C] W λe w'=>e= .returned (.func (.func 154) #[] #[.pointer (some ⟨W.heap.size,0,none⟩)])/\w'=W.alloc (.cells #[.map C] 142):=
 AnyZ.keys_in Tryz.keysL Fence.wide 5 trivial rfl C W
set_option maxHeartbeats 1000000 in
theorem Tryz.slices_Sorted_keys_L{H:Type}(b nn:Nat)(D0:DataW H)(R:Value->Option (DataW H×List MemPlace))(w:World)(hown:w.ownsMap AE 9 R b nn D0)(hmax:Maps.size D0<=maxLen)(hbytes:Maps.size D0*16<=140737488355328):
  CallsIn Fence.wide 5 AE 87 #[.func (.func 154) #[] #[.pointer (some ⟨w.heap.size,0,none⟩)]] (w.alloc (.cells #[.map (some b)] 142)) λe w'=>∃(v:Value) (ss:List (List UInt8)),e= .returned v/\ss.Perm (strKeys D0)/\
   w'.ownsRow (w.alloc (.cells #[.map (some b)] 142)).heap.size 9 1 v ss.length ((ss.mergeSort (λx y=>decide (x<=y))).map encStr)/\(v= .slice none 0 0↔ss=[])/\AG (w.alloc (.cells #[.map (some b)] 142)).heap.size (w.alloc (.cells #[.map (some b)] 142)) w':=by
 have hbl:=hown.lt;have hseq:SeqGives Fence.wide 2 AE 154 #[.pointer (some ⟨w.heap.size,0,none⟩)] encStr (λss=>ss.Perm (strKeys D0)) (Maps.size D0) (w.alloc (.cells #[.map (some b)] 142)):=
  AnyZ.keys_gives (ρ:=Tryz.keysL_ren) {Tryz.keysL with} Fence.wide _ trivial rfl (by omega) w.heap.size b nn D0 _ (by simp) (by simp) (by
   obtain⟨es,clock,hb,Ft,hs,hD⟩:=hown;exact⟨es,clock,(Below.heap_alloc _ _ b hbl).trans hb,Ft,hs,hD⟩)
 exact AnyZ.sorted_in Tryz.sortedS Fence.wide 5 trivial trivial trivial trivial rfl (by omega) (Tryz.sortsS _) (enters_of Tryz.func151 (by kernel_rfl) rfl) 154 #[.pointer (some ⟨w.heap.size,0,none⟩)] trivial (enters_of Tryz.func154 (by kernel_rfl) rfl) _ _ hmax hbytes _ hseq
end
section
open Go.MapKept Go.WideShapes
abbrev Re0:Value->Option (DataW Unit×List MemPlace):=λ_=>some (.lit (.bool true),[])
variable{w:World}{l:List (ByteArray×Value)}
theorem dt.owns{P:A0}{k:TypeId}{b:Nat}(h:dt w b l)(Z:P.underlying k=some .string)(hs:l.length<=maxLen)(hn:∀p∈l,p.1.size<=maxLen):
  ∃D:DataW Unit,w.ownsMap P k Re0 b l.length D/\(strKeys D).Perm (l.map λp=>p.1.data.toList)/\Maps.size D=l.length:=by
 obtain⟨G,C,hb,U,J⟩:=h;have H:G.size=l.length:=by have:=congrArg List.length J;simpa using this
 have I:∀x∈G.toList,∃p∈l,x.key= .string p.1/\Go.WideElems.rd P k Re0 x=some (.string p.1.data.toList,.lit (.bool true)):=λx V=>by
  obtain⟨j,Y,e⟩:=List.getElem_of_mem V;obtain⟨p,h1,h2,_⟩:=j4 J (j:=j) (e:=x) (by rw[AU Y,e]);refine⟨p,Bb h1,h2,?_⟩;have h3:=hn p (Bb h1);have h4:p.1.data.size<=maxLen:=h3;simp[Go.WideElems.rd,keyOf,Z,mapKey,h2,Re0,h3]
 have hf:Go.WideElems.Fit P k Re0 G C:=⟨Aa,U,λx V=>by obtain⟨p,_,_,h⟩:=I x V;exact⟨_,h⟩⟩;refine⟨.map ((G.toList.map (Fk P k Re0)).foldr DataW.insert []),⟨G,C,hb,hf,Aa,rfl⟩,?_,?_⟩
 ·have h1:=(sorted_perm (G.toList.map (Fk P k Re0))).map (λp=>strOf p.1);refine List.Perm.trans h1 ?_;rw[CG];have e:G.toList.map ((λp=>strOf p.1)∘ Fk P k Re0)=l.map λp=>p.1.data.toList:=by
   apply Dx;intro j;rw[BB,BB];have K:=m7 J j
   cases h2:G.toList[j]? with
   | none=>
    rw[h2]at K
    cases h3:l[j]? with
    | none=>rfl
    | some p=>rw[h3]at K;cases K
   | some x=>
    obtain⟨p,h3,h4,_⟩:=j4 J h2;obtain⟨p',_,h5,h6⟩:=I x (Bb h2);rw[h4]at h5;injection h5 with h5;rw[h3];simp[Fk,h6,strOf,h5]
  rw[e]
 ·show((G.toList.map (Fk P k Re0)).foldr DataW.insert []).length=_;rw[length_sorted,Cf,Array.length_toList,H]
def txt(x:List UInt8):Nm:=⟨x.toArray⟩
theorem txt_of(c:Nm):txt c.data.toList=c:=by simp[txt]
theorem of_txt(x:List UInt8):(txt x).data.toList=x:=by simp[txt]
abbrev o0(a b:Nm):Prop:=a.data.toList<=b.data.toList
theorem oR{D:DataW Unit}{ss:List (List UInt8)}(hl:(l.map (·.1)).Nodup)(hp:(strKeys D).Perm (l.map λp=>p.1.data.toList))(H:ss.Perm (strKeys D)):
  ∃L:List Nm,((ss.mergeSort (λx y=>decide (x<=y))).map encStr)=L.map BK/\L.length=ss.length/\L.Perm (l.map (·.1))/\L.Nodup/\L.Pairwise o0:=by
 have G:(ss.mergeSort (λx y=>decide (x<=y))).Perm ss:=List.mergeSort_perm ..;have C:((ss.mergeSort (λx y=>decide (x<=y))).map txt).Perm (l.map (·.1)):=by
  have h1:=(G.trans (H.trans hp)).map txt;rw[CG]at h1;have e:(l.map (txt ∘ λp=>p.1.data.toList))=l.map (·.1):=List.map_congr_left (λp _=>txt_of p.1);rwa [e]at h1
 refine⟨(ss.mergeSort (λx y=>decide (x<=y))).map txt,?_,Ag,C,C.nodup_iff.2 hl,?_⟩
 ·rw[CG];rfl
 ·rw[List.pairwise_map];have h2:(ss.mergeSort (λx y=>decide (x<=y))).Pairwise (λa b=>leB a b=true):=List.pairwise_mergeSort (λa b c h1 h2=>by simp only[leB,decide_eq_true_eq]at *;exact List.le_trans h1 h2) (λa b=>by simp only[leB,Bool.or_eq_true,decide_eq_true_eq];exact List.le_total a b) ss;refine h2.imp (λ{a b} h=> ?_);show(txt a).data.toList<=(txt b).data.toList;rw[of_txt,of_txt];simpa [leB]using h
abbrev gB(w:World)(b0:Nat)(v:Value)(L:List Nm):Prop:=w.ownsRow b0 9 1 v L.length (L.map BK)
theorem q_keysB{b:Nat}{l:List Nm}(h:eZ w b l)(hs:l.length<=1000000)(hn:∀x∈l,x.size<=maxLen):
  (AH AE 88 #[.map (some b)] w λe w'=>e= .returned (.func (.func 152) #[] #[.pointer (some ⟨w.heap.size,0,none⟩)])/\w'=w.alloc (.cells #[.map (some b)] 150))/\
  AH AE 87 #[.func (.func 152) #[] #[.pointer (some ⟨w.heap.size,0,none⟩)]] (w.alloc (.cells #[.map (some b)] 150)) λe w'=>∃v L,e= .returned v/\gB w' w.heap.size v L/\L.Perm l/\L.Nodup/\L.Pairwise o0/\(v= .slice none 0 0↔L=[])/\AG w.heap.size w w':=by
 have hmx:(1000000:Nat)<=maxLen:=by unfold maxLen;omega
 obtain⟨D,hD,hp,hz⟩:=dt.owns (P:=AE) (k:=9) h (by kernel_rfl) (by rw[Cf];omega) (λp hp=>by obtain⟨c,hc,rfl⟩:=List.mem_map.1 hp;exact hn c hc);rw[Cf]at hD hz;refine⟨callsIn_wide.1 (Tryz.maps_Keys_B (some b) w),(callsIn_wide.1 (Tryz.slices_Sorted_keys_B b l.length D Re0 w hD (by omega) (by omega))).mono ?_⟩;rintro e w' ⟨v,ss,rfl,hS,hrow,hnil,hb⟩;obtain⟨L,h1,h2,h3,h4,h5⟩:=oR (dt.nodup h) hp hS;rw[CG]at h3;have e:(l.map ((λp:ByteArray×Value=>p.1)∘ λc=>(c,Value.bool true)))=l:=by simp[Function.comp_def]
 rw[e]at h3;refine⟨v,L,rfl,?_,h3,h4,h5,?_,((AL _ w).alloc (AK _) _).trans (hb.mono (by rw[asz];omega))⟩
 ·show w'.ownsRow w.heap.size 9 1 v L.length (L.map BK);rw[<-h1,h2];exact ownsRow_base_a hrow (by rw[asz];omega)
 ·rw[hnil];constructor
  ·intro h;apply De;rw[h2,h];rfl
  ·intro h;apply De;rw[<-h2,h];rfl
theorem q_Frames{t m:Nat}{E:List Ch}(h:TM w t m E)(hS:TSm (trE E))(hN:∀x,aM (trE E) x->x.size<=maxLen):AH AE 33 #[ptB t] w λe w'=>∃v L,e= .returned v/\gB w' w.heap.size v L/\(∀x,x∈L↔aM (trE E) x)/\L.Nodup/\L.Pairwise o0/\(v= .slice none 0 0↔L=[])/\L.length<=24/\AG w.heap.size w w':=by
 have Z:=j5 h;have H:=AF (Ba hS hN);clear h hS hN;go_enter Tryz.func33,Tryz.ntmps33
 go_wp2_with (first
  | (go_at_call 89;refine Z.mono ?_;rintro e w1 ⟨b,l,rfl,P,U,hl,hb⟩;have hc:l.length<=24:=(by obtain⟨⟨⟨n,h1,h2⟩,_⟩,_⟩:=H.out;rw[bN.uniq ⟨l,P.nodup,λx=>(hl x).trans fG,rfl⟩ h2];exact h1);obtain⟨V,Y⟩:=q_keysB P Aa (λx hx=>H.out.2 x (fG.1 ((hl x).1 hx)));have HB:=AF (Ba hb (Ba hl hc));clear hb hl hc P U)
  | (go_at_call 88;refine V.mono ?_;rintro e w2 ⟨rfl,rfl⟩)
  | (go_at_call 87;refine Y.mono ?_;rintro e w3 ⟨v,L,rfl,G,hp,J,K,C,I⟩;have HR:=AF (Ba G (Ba hp (Ba J (Ba K (Ba C I)))));clear G hp J K C I))
 go_ret;obtain⟨G,hp,J,K,C,I⟩:=HR.out;obtain⟨hb,hl,hc⟩:=HB.out;exact⟨v,L,rfl,ownsRow_base_a G hb.size,λx=>(hp.mem_iff).trans ((hl x).trans fG),J,K,C,by rw[hp.length_eq];exact hc,hb.trans (I.mono hb.size)⟩
end
section
open Classical
variable{w:World}{t m:Nat}
theorem TInv.new{w1:World}(h:TM w1 t m [])(ht:w.heap.size<=t)(G:w.heap.size<=m)(hb:AG w.heap.size w w1):TInv w w1 t m []:=
 ⟨h,.nil,λg C=>by
  simp only[fpT,List.flatMap_nil,A3,List.not_mem_nil,or_false]at C;rcases C with rfl | rfl
  ·exact ht
  ·exact G,hb⟩
variable{E:List Ch}
theorem TInv.att{w0 w':World}{E':List Ch}{C:Tr}{c p:Nm}{f e:Int}(h:TInv w0 w t m E)(k:TPost w t m E w' E')(r:REq (trE E') C)(d:AttS cj (trE E) c p f C e):TInv w0 w' t m E':=
 h.next (s:=⟨0,c,p,f,Pq.id⟩) (e:=e) k r (by unfold DoS;exact d) Pq.ok.id
theorem nm1_ne{a b:UInt8}(h:a≠b):nm1 a≠nm1 b:=λe=>h (by
 have:=congrArg ByteArray.data e;simpa [nm1]using this)
abbrev nA:Nm:=nm1 97
abbrev nB:Nm:=nm1 98
theorem nAB:nA≠nB:=nm1_ne th
theorem iA:cj nA:=isNm1 (.inl ⟨th,th⟩)
theorem iB:cj nB:=isNm1 (.inl ⟨th,th⟩)
theorem abb{P:Nm->Prop}{n:Nat}{x y:Nm}(hn:bN P n)(C:x≠y)(h:∀z,P z↔z=x\/z=y):n=2:=
 bN.uniq hn ⟨[x,y],by simp[C],λz=>by rw[h];simp,rfl⟩
theorem aw1{H:Tr}{C:Int}(h:AttS cj [] nB nA 10 H C):C=0/\H=fx [] nB nA 10:=by
 have I:∀z,(aM [] z\/z=nB\/z=nA)↔z=nB\/z=nA:=λz=>⟨λh=>h.elim (λ⟨q,G,_⟩=>by cases G) id,.inr⟩
 cases h with
 | name h=>exact absurd ⟨iB,iA⟩ h
 | time h ht=>
  rcases ht with ht | ht | ⟨k,x,ht⟩ | ⟨x,J,_⟩
  ·omega
  ·unfold fw at ht;omega
  ·have:=ht.1;simp at this
  ·cases J
 | full h _ _ _ _ n hn hf=>
  have:=abb hn (λe=>nAB e.symm) I;rcases hf with hf | hf
  ·omega
  ·simp[mX]at hf
 | cycle h _ _ _ _ n hn hf hc=>
  rcases hc with hc | ⟨q,G,_⟩
  ·cases hc with
   | step e _=>obtain⟨q,G,_⟩:=pt e;cases G
  ·cases G
 | ok h _ _ _ _ n hn hf hc=>exact Aj
variable{R:Tr}{a:Int}
theorem zY(C:REq R (fx [] nB nA 10))(ha:10<=a):par R a nB=some nA:=by
 rw[C.par,mZ,if_pos rfl];have:par [] a nB=none:=rfl;rw[this];simp[ha]
theorem uV(C:REq R (fx [] nB nA 10)){q:Nm×Lk}:q∈R↔q=(nB,eu nA 10):=by
 rw[C.mem];unfold fx;simp
theorem aw2{H:Tr}(G:REq R (fx [] nB nA 10)){C:Int}(h:AttS cj R nA nB 5 H C):C=19/\H=R:=by
 have hl:lks R nA=[]:=by
  rw[G nA,iQ,if_neg nAB,mX]
 have K:∀z,(aM R z\/z=nA\/z=nB)↔z=nA\/z=nB:=λz=>⟨λh=>h.elim (λ⟨q,I,h⟩=>by
  rw[uV G]at I;subst I;rcases h with h | h
  ·exact .inr h.symm
  ·exact .inl h.symm) id,.inr⟩
 cases h with
 | name h=>exact absurd ⟨iA,iB⟩ h
 | time h ht=>
  rcases ht with ht | ht | ⟨k,x,ht⟩ | ⟨x,J,_⟩
  ·omega
  ·unfold fw at ht;omega
  ·have:=bI.2 (Bb ht.1);rw[hl]at this;cases this
  ·rw[hl]at J;cases J
 | full h _ _ _ _ n hn hf=>
  have:=abb hn nAB K;rcases hf with hf | hf
  ·omega
  ·rw[hl]at hf;simp at hf
 | cycle h _ _ _ _ n hn hf hc=>exact Aj
 | ok h _ _ _ _ n hn hf hc=>exact absurd (.inr ⟨_,(uV G).2 rfl,by show(5:Int)<10;omega,.step (zY G (by show(10:Int)<=10;omega)) (.refl _)⟩) hc
theorem aw_root(C:REq R (fx [] nB nA 10)){y:Nm}(h:kP R 12 nB y):y=nA:=by
 rcases h with⟨h,_⟩ | ⟨_,h1,h2⟩
 ·exact absurd ⟨_,(uV C).2 rfl,.inl rfl⟩ h
 ·have hp:=zY C (a:=12) Aa
  cases h1 with
  | refl=>rw[hp]at h2;cases h2
  | step e t=>
   rw[hp]at e;injection e with e;subst e
   cases t with
   | refl=>rfl
   | step e t=>
    obtain⟨q,G,_,_⟩:=pt e;rw[uV C]at G;injection G with h1;exact absurd h1 nAB
theorem tk{c p:Nm}(h:TM w t m E)(hp:par (trE E) a c=some p):AH AE 34 #[ptB t,.string c,.int .i64 a] w λe w'=>e= .returned (.tuple #[.string p,.bool true])/\w'=w:=by
 have h1:=xE h c a;unfold par at hp;rw[<-h.tAt]at hp
 cases hl:atE E c a with
 | none=>rw[hl]at hp;cases hp
 | some l=>
  rw[hl]at hp h1;have e:l.x.par=p:=by injection hp
  rw[<-e];exact h1
theorem q_ParentN{c:Nm}(h:TM w t m E)(hp:par (trE E) a c=none):AH AE 34 #[ptB t,.string c,.int .i64 a] w λe w'=>e= .returned (.tuple #[.string ES,.bool false])/\w'=w:=by
 have h1:=xE h c a;unfold par at hp;rw[<-h.tAt]at hp
 cases hl:atE E c a with
 | none=>rw[hl]at h1;exact h1
 | some l=>rw[hl]at hp;cases hp
set_option maxHeartbeats 1000000 in
theorem abc(w:World):AH AE 30 #[] w λe w'=>e= .returned (.bool true)/\AG w.heap.size w w':=by
 have K:=q_New w;go_enter Tryz.func30,Tryz.ntmps30
 go_wp2_with (first
  | (go_at_call 31;refine K.mono ?_;rintro e w1 ⟨t,m,rfl,hT,h1,h2,h3⟩;have HI:=AF (TInv.new hT h1 h2 h3);have I:=rf (c:=nB) (p:=nA) (f:=10) hT TOk.nil (.inl iB) (.inl iA);clear K hT h1 h2 h3)
  | (go_at_call 67;refine I.mono ?_;rintro e w2 ⟨E2,R2,Y,rfl,Z,H,U⟩;have G:=AF (HI.out.att Z H U);obtain⟨rfl,aa⟩:=aw1 U;have P:=AF (show REq (trE E2) (fx [] nB nA 10)from by rw[aa]at H;exact H);have J:=rf (c:=nA) (p:=nB) (f:=5) G.out.tm G.out.sane.ok (.inl iA) (.inl iB);clear I Z H U aa HI)
  | (go_at_call 67;refine J.mono ?_;rintro e w3 ⟨E3,R3,Y,rfl,Z,H,U⟩;have C:=AF (G.out.att Z H U);obtain⟨rfl,ab⟩:=aw2 P.out U;have V:=AF (show REq (trE E3) (fx [] nB nA 10)from by rw[ab]at H;exact H.trans P.out);have ac:=tk C.out.tm (zY V.out (a:=10) (Int.le_refl _));have ad:=q_Root C.out.tm C.out.sane.ok nB 12;clear J Z H U ab G P)
  | (go_at_call 34;refine ac.mono ?_;rintro e w4 ⟨rfl,ak⟩;obtain rfl:=ak.symm)
  | (go_at_call 36;refine ad.mono ?_;rintro e w5 ⟨y,rfl,hy,hb⟩;obtain rfl:=aw_root V.out hy;have HB:=AF (C.out.bel.trans (hb.mono C.out.bel.size));clear hb hy))
 go_ret;exact⟨rfl,HB.out⟩
end
section
open Classical
section
variable {w w':World} {b sz n j:Nat} {T:TypeId} {v u:Value} {xs:List Value} {ad:Option Addr} {cap:Nat}
theorem row_keep(h:w.ownsRow b T sz v n xs)(k:∀g,v.ownBlock=some g->w'.heap[g]? =w.heap[g]?):w'.ownsRow b T sz v n xs:=
 ⟨h.1,h.2.imp id λ⟨g,cap,C,e,hb,G,H⟩=>⟨g,cap,C,e,hb,by rw[k g (by rw[e];rfl)];exact G,H⟩⟩
theorem ot(h:w.ownsRow b T sz v n xs){g:Nat}(C:v.ownBlock=some g):b<=g/\g<w.heap.size:=by
 rcases h.2 with⟨rfl,_⟩ | ⟨H,cap,G,rfl,hb,hc,_⟩
 ·cases C
 ·have e:H=g:=A9.inj C;subst e;exact⟨hb,(A8.1 hc).1⟩
theorem dW(h:w.ownsRow b T sz v n xs):∃ad cap,v= .slice ad n cap:=by
 rcases h.2 with⟨rfl,rfl⟩ | ⟨G,cap,C,rfl,_⟩
 ·exact⟨_,_,rfl⟩
 ·exact⟨_,_,rfl⟩
theorem dD(h:w.ownsRow b T sz (.slice ad n cap) n xs)(H:xs[j]? =some u):∃g,ad=some ⟨g,0,none⟩/\w.cell? ⟨g,j,none⟩=some u:=by
 rcases h.2 with⟨e,rfl⟩ | ⟨G,C,I,e,_⟩
 ·have:xs=[]:=De (by rw[h.1];omega);subst this;cases H
 ·injection e with J _ _;subst J;have:=h.cells (g:=G) rfl j u H;rw[cE,Bh]at this;exact⟨G,rfl,this⟩
theorem aY.keep(h:aY w T sz v n xs)(k:∀g,v.ownBlock=some g->w'.heap[g]? =w.heap[g]?):aY w' T sz v n xs:=
 ⟨row_keep h.1 k,λg C=>by
  obtain⟨cs,t,h1,h2⟩:=h.2 g C;exact⟨cs,t,by rw[k g C];exact h1,h2⟩⟩
theorem ni{p:A0}{t ty e:TypeId}{bytes:Nat}(ht:p.underlying t=some (.slice e))(hB:appB p e sz bytes=true)(J:aY w e sz v n xs){a:Addr}{m c:Nat}{news:List Value}(hl:news.length=m*sz)(C:∀j u,news[j]? =some u->w.cell? (a.add j)=some u)(h1:∀u∈news,u.oneCell'=true)(G:∀u∈news,noU u)
  (I:0<m)(hb:(n+m)*bytes<=140737488355328)(hn:n+m<=1000000000000000):
  ∃v' w',(Ca #[t,t] ty #[v,.slice (some a) m c]).run p w= .ok v' w'/\w.grownBy w' v.ownBlock/\(∀g,v'.ownBlock=some g->v.ownBlock=some g\/w.heap.size<=g)/\aY w' e sz v' (n+m) (xs++news):=by
 unfold appB at hB;split at hB
 ·rename_i ti hi;simp only[Bo,beq_iff_eq,decide_eq_true_eq]at hB;obtain⟨hz,h3,h4,h5⟩:=hB;split at hz
  ·rename_i z H;simp only[Bo,beq_iff_eq]at hz;subst h3;subst h4;obtain⟨v',w',P,k2,_,U,V⟩:=ux (ty:=ty) (c:=c) ht hi H hz.1 h5 (λu K n e=>by
    have:=List.all_eq_true.1 hz.2 u K;subst e;exact Bool.noConfusion (show false=true from this)) J hl C h1 G I hb hn
   exact⟨v',w',P,k2,U,V⟩
  ·cases hz
 ·cases hB
end
variable{w w':World}
theorem rz{P:A0}{ops:Array Oper}{rest:List Oper}{o:Oper}{a:Act}{v v':Value}{Q:Exit->Act->World->Prop}{s x:Operand}{t:TypeId}(C:o.guard=none)
  (G:o.op= .call {callee:=.builtin .append,args:=#[s,x],argTypes:=#[t,t]}){y:Value}(hs:a.eval s=v)(H:a.eval x=y)(hr:(Ca #[t,t] o.type #[v,y]).run P w= .ok v' w')(h:wpList P ops Q rest (a.put o.dst v') w'):wpList P ops Q (o::rest) a w:=
 aD C (by
  unfold execOp;simp only[G,resolve,invoke,builtin,AO,Sem.run_pure,Result.andThen_ok,List.map_toArray,List.map_cons,List.map_nil,hs,H,hr]) h
theorem ma.row{v:Value}{R:List Stp}(h:ma w v R):∃ad c,v= .slice ad R.length c/\∀i s,R[i]? =some s->∃b o,ad=some ⟨b,o,none⟩/\b<w.heap.size/\w.rangeAt b (o+i*6) s.cs:=by
 rcases h with⟨rfl,a,c,rfl⟩ | ⟨b,o,c,rfl,_,hb,C⟩
 ·exact⟨a,c,rfl,λi s hi=>by cases i<;>cases hi⟩
 ·exact⟨_,c,rfl,λi s hi=>⟨b,o,rfl,hb,λj u G=>by rw[Nat.add_assoc];exact C i s hi j u G⟩⟩
theorem gJ{B b o:Nat}{cs:List Value}(h:w.rangeAt b o cs)(k:AG B w w')(hb:b<B):w'.rangeAt b o cs:=λj v hv=>by
 rw[k.cell (p:=⟨b,_,none⟩) hb];exact h j v hv
theorem ld_stp{b o:Nat}{s:Stp}(h:w.rangeAt b o s.cs):(Instr.loadAt 67 (.pointer (some ⟨b,o,none⟩))).run AE w= .ok s.val w:=
 run_loadAt_mid w b o _ s.cs _ h Tryz.underlying67 rfl Ab
noncomputable def pOf(R:Tr)(a:Int)(c:Nm):Nm:=(par R a c).getD ES
theorem q_ParentG{t m:Nat}{E:List Ch}(h:TM w t m E)(c:Nm)(a:Int):AH AE 34 #[ptB t,.string c,.int .i64 a] w λe w'=>e= .returned (.tuple #[.string (pOf (trE E) a c),.bool (par (trE E) a c).isSome])/\w'=w:=by
 cases hp:par (trE E) a c with
 | some p=>unfold pOf;rw[hp];exact tk h hp
 | none=>unfold pOf;rw[hp];exact q_ParentN h hp
theorem DoS.par{R C:Tr}{s:Ax}{e a:Int}(G:TOk R)(d:DoS R s C e)(ha:a<s.a)(h0:0<=a)(c:Nm):par C a c=par R a c:=by
 unfold DoS at d;split at d
 ·cases d with
  | ok e h h1 h2=>
   subst e;rw[aaY G.row h,if_neg (λH=>by have:=H.2.2.1;omega)]
  | _=>rfl
 ·split at d
  ·cases d with
   | ok e h hs=>subst e;refine qQ ?_ ?_ ?_ a c<;>rfl
   | _=>rfl
  ·split at d
   ·cases d with
    | ok e h hs ht hp=>subst e;refine qQ ?_ ?_ ?_ a c<;>rfl
    | _=>rfl
   ·cases d with
    | ok hn _ _ _ _ _ _ _ _=>
     rw[mZ];split
     ·cases hp:Go.Proofs.YtggfmklppkioeaaGreat.par R a c with
      | some z=>rfl
      | none=>simp only;rw[if_neg Aa]
     ·rfl
    | _=>rfl
theorem TPost.trans{H:World}{t m:Nat}{E E' C:List Ch}(h:TPost w t m E w' E')(k:TPost w' t m E' H C):TPost w t m E H C:=
 ⟨k.tm,⟨k.kp.os.trans h.kp.os,k.kp.tape.trans h.kp.tape,k.kp.output.trans h.kp.output,AI h.kp.size k.kp.size,λg G hn=>(k.kp.block g (Nat.lt_of_lt_of_le G h.kp.size) (λI=>(h.fp g I).elim hn (λh2=>absurd G (Nat.not_lt.2 h2)))).trans (h.kp.block g G hn)⟩,
  λg G=>(k.fp g G).elim (h.fp g) (λh2=>.inr (AI h.kp.size h2))⟩
theorem axOf_q{s:Stp}(hs:s.Ok):(axOf s).q.ok 2:=du hs.x hs.u
theorem Sane.short{R:Tr}(h:Sane R){x:Nm}(G:aM R x):x.size<=maxLen:=by
 obtain⟨q,C,h1 | h1⟩:=G
 ·rw[<-h1];exact AI (h.nm q C).1.2.1 th
 ·rw[<-h1];exact AI (h.nm q C).2.2.1 th
end
section
open Classical
abbrev rlT:TypeId:=162
abbrev rrT:TypeId:=81
abbrev rkT:TypeId:=185
structure Rl where
 c:Nm
 x:Lk
 g:Nat
 sl:Value
def Rl.qs(l:Rl):List Vp:=lnQ l.c ⟨l.x,0,l.g,l.sl⟩
def rlQ(L:List Rl):List Vp:=L.flatMap Rl.qs
def trR(L:List Rl):Tr:=L.map λl=>(l.c,l.x)
def fpR(t:Nat)(v:Value)(L:List Rl):List Nat:=t::(v.ownBlock.toList++L.flatMap λl=>l.g::l.sl.ownBlock.toList)
structure RM(w:World)(t:Nat)(v:Value)(L:List Rl):Prop where
 tr:w.heap[t]? =some (.cells #[v] rrT (0,0))
 row:∃xs,aY w rlT 27 v L.length xs/\aK w (rlQ L) xs
 trk:∀l∈L,TrkS rkT w l.g l.sl l.x.tr
 nd:(fpR t v L).Nodup
 own:∀g∈fpR t v L,bF w g
theorem fX(l:Rl):l.qs.length=27:=rfl
theorem uW:∀ {L:List Rl} {k j:Nat} {l:Rl},L[k]? =some l->j<27->(rlQ L)[k*27+j]? =l.qs[j]?
 | [],_,_,_,h,_=>by cases h
 | l'::L,0,j,l,h,hj=>by
  injection h with h;subst h;show(l'.qs++rlQ L)[0*27+j]? =_;rw[Nat.zero_mul,Bh,Bw (by rw[fX];exact hj)]
 | l'::L,k+1,j,l,h,hj=>by
  show(l'.qs++rlQ L)[(k+1)*27+j]? =_;rw[Bq (by rw[fX];omega),fX,show(k+1)*27+j - 27=k*27+j by omega];exact uW (L:=L) h hj
theorem pz:∀L:List Rl,(rlQ L).length=L.length*27
 | []=>rfl
 | l::L=>by
  show(l.qs++rlQ L).length=_;rw[By,fX,pz L,Bz];omega
section
variable {w w':World} {t:Nat} {v:Value} {L:List Rl} {k j:Nat} {l:Rl} {u:Value}
theorem RM.chg{X:Nat->Prop}(h:RM w t v L)(c:Chg w w' X)(G:∀g∈fpR t v L,¬X g):RM w' t v L:=by
 obtain⟨h1,h2,h3,h4,h5⟩:=h;refine⟨by rw[c.blk _ (A8.1 h1).1 (G _ (by simp[fpR]))];exact h1,?_,λl hl=> ?_,h4,λg C=>(h5 g C).blk (c.blk g (h5 g C).1 (G g C)) c.size⟩
 ·obtain⟨xs,H,k2⟩:=h2;exact((Vp.ownr rlT 27 L.length (rlQ L)).ch w w' X v ⟨xs,H,k2⟩ c (λg C=>G g (by have C:v.ownBlock=some g:=C;simp[fpR,C]))).1
 ·refine(h3 l hl).chg c (G _ ?_) (λb hb=>G b ?_)
  ·simp only[fpR,A3,AJ,Br];exact .inr (.inr ⟨l,hl,.inl rfl⟩)
  ·simp only[fpR,A3,AJ,Br];exact .inr (.inr ⟨l,hl,.inr (by simp[hb])⟩)
theorem RM.below(h:RM w t v L)(b:AG w.heap.size w w'):RM w' t v L:=h.chg (.below b) (λ_ _ h=>h)
theorem RM.lt(h:RM w t v L):∀g∈fpR t v L,g<w.heap.size:=λg C=>(h.own g C).1
theorem RM.cell(h:RM w t v L):w.cell? ⟨t,0,none⟩=some v:=by rw[aE h.tr];rfl
theorem RM.form(h:RM w t v L):∃ad c,v= .slice ad L.length c:=by
 obtain⟨xs,h1,_⟩:=h.row;exact dW h1.1
structure LkAt(w:World)(b k:Nat)(l:Rl)(cs:List Value):Prop where
 len:cs.length=27
 rg:w.rangeAt b (k*27) cs
 c:w.cell? ⟨b,k*27,none⟩=some (.string l.c)
 par:w.cell? ⟨b,k*27+1,none⟩=some (.string l.x.par)
 fr:w.cell? ⟨b,k*27+2,none⟩=some (.int .i64 l.x.fr)
 un:w.cell? ⟨b,k*27+3,none⟩=some (.int .i64 l.x.un)
 st:w.cell? ⟨b,k*27+4,none⟩=some (.bool l.x.st)
 tp:w.cell? ⟨b,k*27+26,none⟩=some (ptB l.g)
 k2:cs[2]? =some (.int .i64 l.x.fr)
 k3:cs[3]? =some (.int .i64 l.x.un)
 qs:aK w l.qs cs
theorem RM.at(h:RM w t v L)(P:L[k]? =some l):∃b c cs,v= .slice (some ⟨b,0,none⟩) L.length c/\LkAt w b k l cs:=by
 obtain⟨ad,c,e⟩:=h.form;obtain⟨xs,⟨h1,_⟩,h3⟩:=h.row;rw[e]at h1;have V:=(A5.1 P).1;have Z:xs.length=L.length*27:=by rw[h3.1,pz]
 have H:∀j v,j<27->l.qs[j]? =some (.val v)->xs[k*27+j]? =some v:=λj v C hv=>by
  obtain⟨u,U,k2,_⟩:=h3.2 (k*27+j) _ (by rw[uW P C];exact hv);have J:u=v:=k2.1;rw[U,J]
 have h0:=H 0 _ th rfl;obtain⟨b,rfl,h2⟩:=dD h1 h0;have hc:∀j u,xs[j]? =some u->w.cell? ⟨b,j,none⟩=some u:=λj u C=>by
  obtain⟨g,I,J⟩:=dD h1 C;injection I with I;injection I with I _ _;subst I;exact J
 have K:∀j u,j<27->xs[k*27+j]? =some u->((xs.drop (k*27)).take 27)[j]? =some u:=λj u C Y=>by rw[BP,if_pos C,Cp];exact Y
 refine⟨b,c,(xs.drop (k*27)).take 27,e,⟨by simp;omega,λj u C=> ?_,hc _ _ h0,hc _ _ (H 1 _ th rfl),hc _ _ (H 2 _ th rfl),hc _ _ (H 3 _ th rfl),hc _ _ (H 4 _ th rfl),hc _ _ (H 26 _ th rfl),K _ _ th (H 2 _ th rfl),K _ _ th (H 3 _ th rfl),⟨by rw[fX];simp;omega,λj q C=>by
  have G:j<27:=(A5.1 C).1;obtain⟨u,U,k2,k3⟩:=h3.2 (k*27+j) q (by rw[uW P G];exact C);exact⟨u,K j u G U,k2,k3⟩⟩⟩⟩
 rw[BP]at C;split at C
 ·rw[Cp]at C;exact hc _ _ C
 ·cases C
end
variable{cs:List Value}
theorem eE(h:cs.length=27):(AE.info? rlT).map (·.size)=some cs.length:=by rw[h];kernel_rfl
set_option maxHeartbeats 1000000 in
theorem q_holds{w:World}{x:Lk}{a:Int}(hl:cs.length=27)(h2:cs[2]? =some (.int .i64 x.fr))(h3:cs[3]? =some (.int .i64 x.un)):
  AH AE 162 #[.agg cs.toArray,.int .i64 a] w λe w'=>e= .returned (.bool (x.has a))/\AG w.heap.size w w':=by
 obtain⟨w1,J⟩:∃w1,w.alloc (.cells cs.toArray rlT)=w1:=⟨_,rfl⟩;have I:AG w.heap.size w w1:=by rw[<-J];exact(AL _ _).alloc (AK _) _
 have C:w1.heap[w.heap.size]? =some (.cells cs.toArray rlT (0,0)):=by rw[<-J];exact BE w _
 have f2:w1.cell? ⟨w.heap.size,2,none⟩=some (.int .i64 x.fr):=by rw[aE C];simpa using h2
 have f3:w1.cell? ⟨w.heap.size,3,none⟩=some (.int .i64 x.un):=by rw[aE C];simpa using h3
 have K:=AF I;generalize hB:w.heap.size=B at *;clear I C hl h2 h3;have G:x.has a=(decide (x.fr<=a) && (decide (x.un= -1) || decide (a<x.un))):=rfl;by_cases g1:x.fr<=a
 ·have P:decide (x.fr<=a)=true:=decide_eq_true g1;rw[P]at G;by_cases g2:x.un= -1
  ·have U:(x.un== -1)=true:=by simp[g2]
   rw[decide_eq_true g2]at G;have H:=AF G;clear G g1 g2;go_enter Tryz.func162,Tryz.ntmps162
   go_wp2;go_ret;exact⟨by rw[H.out];rfl,K.out⟩
  ·have U:(x.un== -1)=false:=by simp[g2]
   rw[decide_eq_false g2]at G;have H:=AF G;clear G g1 g2;go_enter Tryz.func162,Tryz.ntmps162
   go_wp2;go_ret;exact⟨by rw[H.out];rfl,K.out⟩
 ·have P:decide (x.fr<=a)=false:=decide_eq_false g1;rw[P]at G;have H:=AF G;clear G g1;go_enter Tryz.func162,Tryz.ntmps162
  go_wp2;go_ret;exact⟨by rw[H.out];rfl,K.out⟩
end
section
open Classical
theorem dX{P:A0}{ops:Array Oper}{Q:Exit->Act->World->Prop}{a:Act}{w:World}{rest:List Oper}{o:Oper}(G:Region.wanted o (yielded ops a.tmps)=true)
  (h:∀K:Act->World->Prop,(∀a w,wpList P ops Q rest a w->K a w)->o.wp P a w K Q):wpList P ops Q (o::rest) a w:=wpList_step λK C=>by rw[if_pos G];exact h K C
theorem nj{c d:Nm}(h:c=d):(ET c==ET d)=true:=by subst h;simp
variable{L:List Rl}
theorem fY{k:Nat}{l:Rl}(h:L[k]? =some l):(trR L)[k]? =some (l.c,l.x):=by unfold trR;rw[BB,h];rfl
theorem j7{k:Nat}{q:Nm×Lk}(h:(trR L)[k]? =some q):∃l,L[k]? =some l/\q=(l.c,l.x):=by
 unfold trR at h;rw[BB]at h
 cases hl:L[k]? with
 | none=>rw[hl]at h;cases h
 | some l=>rw[hl]at h;injection h with h;exact⟨l,rfl,h.symm⟩
def PlS(L:List Rl)(c:Nm)(a:Int)(i:Int):Prop:=(i= -1/\PlNo (trR L) c a)\/∃(k:Nat)(l:Rl),i=(k:Int)/\L[k]? =some l/\l.c=c/\PlAt (trR L) c a k l.x
set_option maxHeartbeats 2000000 in
theorem ij{w:World}{t:Nat}{v:Value}(h:RM w t v L)(c:Nm)(a:Int)(hn:L.length<=1000000):AH AE 96 #[ptB t,.string c,.int .i64 a] w λe w'=>∃i,e= .returned (.int .i64 i)/\PlS L c a i/\AG w.heap.size w w':=by
 have HM:=AF (show∀wq,AG w.heap.size w wq->RM wq t v L from λwq k=>h.below k);obtain⟨ad,cp,hv⟩:=h.form;obtain⟨n,hN⟩:∃n,n=L.length:=⟨_,rfl⟩;have HN:=AF hN;rw[<-hN]at hv hn;subst hv;have an:(n:Int)<=1000000:=Aa
 clear h hN hn;go_enter Tryz.func96,Tryz.ntmps96
 go_wp2;go_loopw [7] (λs7 wr=>∃k:Nat,k<=n/\s7= .int .i64 (k:Int)/\Hid (AG w.heap.size w wr)/\Hid (∀i l,i<k->L[i]? =some l->¬(l.c=c/\l.x.has a=true))) (λs7 _=>n - (intOf s7).toNat)
 case atStart=>exact⟨0,Bc _,rfl,AF (AL _ _),AF (λi l hi=>absurd hi (DI _))⟩
 case round=>
  obtain⟨k,hk,rfl,I,Z⟩:=hrel;have ac:=(HM.out wr I.out).cell;rcases Bl k n with ab | ak
  ·have am:(k:Int)<(n:Int):=Aa
   obtain⟨l,hl⟩:∃l,L[k]? =some l:=⟨_,AU (by rw[<-HN.out];exact ab)⟩;obtain⟨b,c2,cs,e,A⟩:=(HM.out wr I.out).at hl;injection e with P _ e3;subst P;subst e3;have fc:=A.c;have Y:=AF hl;have HA:=AF A;have V:=q_holds (w:=wr) (x:=l.x) (a:=a) A.len A.k2 A.k3;have aa:=AF (eE A.len);clear A hl;go_upto_region 4 with(fail)
   by_cases g1:l.c=c
   ·have q1:=nj g1;refine CC ?_;refine Ck rfl (λK C=> ?_);go_simp;refine C _ _ ?_;clear C K;refine Ck rfl (λK C=> ?_);go_simp;refine C _ _ ?_;clear C K;refine Ck rfl (λK C=> ?_);go_simp;refine C _ _ ?_;clear C K;refine Ck rfl (λK C=> ?_);go_simp;refine C _ _ ?_;clear C K;refine Ck rfl (λK C=> ?_);go_simp;refine C _ _ ?_;clear C K;refine Ck rfl (λK C=> ?_);go_simp;refine C _ _ ?_;clear C K;refine Ck rfl (λK C=> ?_);go_simp;refine C _ _ ?_;clear C K;refine Ck rfl (λK C=> ?_);go_simp;refine C _ _ ?_;clear C K;refine Ck rfl (λK C=> ?_);go_simp;refine C _ _ ?_;clear C K;refine Ck rfl (λK C=> ?_);go_simp;refine C _ _ ?_;clear C K;refine Ck rfl (λK C=> ?_);go_simp;refine C _ _ ?_;clear C K;refine dX ?_ (λK C=> ?_)
    ·rfl
    go_simp;refine C _ _ ?_;clear C K;refine dX ?_ (λK C=> ?_)
    ·rfl
    go_simp;refine C _ _ ?_;clear C K;refine dX ?_ (λK C=> ?_)
    ·rfl
    go_simp;refine C _ _ ?_;clear C K;refine dX ?_ (λK C=> ?_)
    ·rfl
    go_simp;refine C _ _ ?_;clear C K;refine dX ?_ (λK C=> ?_)
    ·rfl
    go_simp;refine C _ _ ?_;clear C K;refine dX ?_ (λK C=> ?_)
    ·rfl
    go_simp;refine C _ _ ?_;clear C K;refine dX ?_ (λK C=> ?_)
    ·rfl
    refine wp_load_mid _ _ rfl b (k*27) rfl cs _ HA.out.rg Tryz.underlying162 rfl aa.out ?_;refine C _ _ ?_;clear C K;refine dX ?_ (λK C=> ?_)
    ·rfl
    go_simp;refine C _ _ ?_;clear C K;refine dX ?_ (λK C=> ?_)
    ·rfl
    go_simp;go_at_call 162
    refine V.mono ?_;rintro e w2 ⟨rfl,U⟩;refine C _ _ ?_;have J:=AF (I.out.trans (U.mono I.out.size));clear C K V U
    cases hh:l.x.has a with
    | true=>
     go_wp2;go_ret;exact⟨_,rfl,.inr ⟨k,l,rfl,Y.out,g1,by rw[<-g1];exact fY Y.out,hh,λi q hi hq ⟨P,e2⟩=>by
      obtain⟨H,k1,rfl⟩:=j7 hq;exact Z.out i H hi k1 ⟨P,e2⟩⟩,J.out⟩
    | false=>
     go_wp2;go_roundw
     case rel=>exact⟨k+1,Aa,by go_num,J,AF (λi H hi G=>by
      rcases Bl i k with h | h
      ·exact Z.out i H h G
      ·obtain rfl:i=k:=Aa
       rw[Y.out]at G;injection G with G;subst G;exact λe=>by rw[hh]at e;cases e.2)⟩
     case measure=>simp[intOf];omega
   ·have q1:=kO g1;go_wp2;go_roundw
    case rel=>exact⟨k+1,Aa,by go_num,I,AF (λi H hi G=>by
     rcases Bl i k with h | h
     ·exact Z.out i H h G
     ·obtain rfl:i=k:=Aa
      rw[Y.out]at G;injection G with G;subst G;exact λe=>g1 e.1)⟩
    case measure=>simp[intOf];omega
  ·obtain rfl:k=n:=Aa
   go_wp2;go_ret;exact⟨_,rfl,.inl ⟨rfl,λi q hq ⟨P,e2⟩=>by
    obtain⟨H,k1,rfl⟩:=j7 hq;exact Z.out i H (by have:=(A5.1 k1).1;rw[HN.out];exact this) k1 ⟨P,e2⟩⟩,I.out⟩
end
section
open Classical
def OpS(L:List Rl)(c:Nm)(i:Int):Prop:=(i= -1/\oe (trR L) c)\/∃(k:Nat)(l:Rl),i=(k:Int)/\L[k]? =some l/\l.c=c/\eA (trR L) c k l.x
variable{L:List Rl}
set_option maxHeartbeats 2000000 in
theorem uY{w:World}{t:Nat}{v:Value}(h:RM w t v L)(c:Nm)(hn:L.length<=1000000):AH AE 155 #[ptB t,.string c] w λe w'=>∃i,e= .returned (.int .i64 i)/\OpS L c i/\w'=w:=by
 have aa:=h.cell;have HM:=AF h;obtain⟨ad,cp,hv⟩:=h.form;obtain⟨n,P⟩:∃n,n=L.length:=⟨_,rfl⟩;have HN:=AF P;rw[<-P]at hv hn;subst hv;have ak:(n:Int)<=1000000:=Aa
 clear h P hn;go_enter Tryz.func155,Tryz.ntmps155
 go_wp2;go_loopw [5] (λZ wr=>∃k:Nat,k<=n/\Z= .int .i64 (k:Int)/\wr=w/\Hid (∀i l,i<k->L[i]? =some l->¬(l.c=c/\l.x.un= -1))) (λZ _=>n - (intOf Z).toNat)
 case atStart=>exact⟨0,Bc _,rfl,rfl,AF (λi l hi=>absurd hi (DI _))⟩
 case round=>
  obtain⟨k,hk,rfl,Y,HO⟩:=hrel;obtain rfl:=Y;rcases Bl k n with U | ab
  ·have ac:(k:Int)<(n:Int):=Aa
   obtain⟨l,hl⟩:∃l,L[k]? =some l:=⟨_,AU (by rw[<-HN.out];exact U)⟩;obtain⟨b,c2,cs,e,A⟩:=HM.out.at hl;injection e with K _ e3;subst K;subst e3;have fc:=A.c;have fu:=A.un;have J:=AF hl;clear A hl;have I:=AF (show¬(l.c=c/\l.x.un= -1)->∀i H,i<k+1->L[i]? =some H->¬(H.c=c/\H.x.un= -1)from λV i H hi C=>by
    rcases Bl i k with h | h
    ·exact HO.out i H h C
    ·obtain rfl:i=k:=Aa
     rw[J.out]at C;injection C with C;subst C;exact V)
   by_cases g1:l.c=c
   ·have q1:=nj g1;by_cases g2:l.x.un= -1
    ·have q2:(l.x.un== -1)=true:=by simp[g2]
     have G:=AF (Ba g1 g2);clear g1 g2;go_wp2;go_ret;exact⟨_,rfl,.inr ⟨k,l,rfl,J.out,G.out.1,by rw[<-G.out.1];exact fY J.out,G.out.2⟩,rfl⟩
    ·have q2:(l.x.un== -1)=false:=by simp[g2]
     have G:=AF g2;clear g1 g2;go_wp2;go_roundw
     case rel=>exact⟨k+1,Aa,by go_num,by trivial,AF (I.out (λe=>G.out e.2))⟩
     case measure=>simp[intOf];omega
   ·have q1:=kO g1;have G:=AF g1;clear g1;go_wp2;go_roundw
    case rel=>exact⟨k+1,Aa,by go_num,by trivial,AF (I.out (λe=>G.out e.1))⟩
    case measure=>simp[intOf];omega
  ·obtain rfl:k=n:=Aa
   go_wp2;go_ret;exact⟨_,rfl,.inl ⟨rfl,λi q hq ⟨K,e2⟩=>by
    obtain⟨H,k1,rfl⟩:=j7 hq;exact HO.out i H (by have:=(A5.1 k1).1;rw[HN.out];exact this) k1 ⟨K,e2⟩⟩,rfl⟩
theorem jI{c:Nm}:aM (trR L) c↔∃(i:Nat)(l:Rl),L[i]? =some l/\(l.c=c\/l.x.par=c):=by
 unfold aM;constructor
 ·rintro⟨q,C,h⟩;obtain⟨i,hi⟩:=DH C;obtain⟨l,G,rfl⟩:=j7 hi;exact⟨i,l,G,h⟩
 ·rintro⟨i,l,h1,h2⟩;exact⟨_,Bb (fY h1),h2⟩
set_option maxHeartbeats 2000000 in
theorem rA{w:World}{t:Nat}{v:Value}(h:RM w t v L)(c:Nm)(hn:L.length<=1000000):AH AE 103 #[ptB t,.string c] w λe w'=>e= .returned (.bool (decide (aM (trR L) c)))/\w'=w:=by
 have aa:=h.cell;have HM:=AF h;obtain⟨ad,cp,hv⟩:=h.form;obtain⟨n,I⟩:∃n,n=L.length:=⟨_,rfl⟩;have V:=AF I;rw[<-I]at hv hn;subst hv;have ak:(n:Int)<=1000000:=Aa
 clear h I hn;go_enter Tryz.func103,Tryz.ntmps103
 go_wp2;go_loopw [5] (λU wr=>∃k:Nat,k<=n/\U= .int .i64 (k:Int)/\wr=w/\Hid (∀i l,i<k->L[i]? =some l->¬(l.c=c\/l.x.par=c))) (λU _=>n - (intOf U).toNat)
 case atStart=>exact⟨0,Bc _,rfl,rfl,AF (λi l hi=>absurd hi (DI _))⟩
 case round=>
  obtain⟨k,hk,rfl,K,Y⟩:=hrel;obtain rfl:=K;rcases Bl k n with J | ab
  ·have ac:(k:Int)<(n:Int):=Aa
   obtain⟨l,hl⟩:∃l,L[k]? =some l:=⟨_,AU (by rw[<-V.out];exact J)⟩;obtain⟨b,c2,cs,e,A⟩:=HM.out.at hl;injection e with e1 _ e3;subst e1;subst e3;have fc:=A.c;have fp:=A.par;have H:=AF hl;clear A hl;by_cases g1:l.c=c
   ·have q1:=nj g1;have G:=AF g1;clear g1;go_wp2;go_ret;exact⟨by rw[decide_eq_true (jI.2 ⟨k,l,H.out,.inl G.out⟩)];rfl,rfl⟩
   ·have q1:=kO g1;by_cases g2:l.x.par=c
    ·have q2:=nj g2;have G:=AF g2;clear g1 g2;go_wp2;go_ret;exact⟨by rw[decide_eq_true (jI.2 ⟨k,l,H.out,.inr G.out⟩)];rfl,rfl⟩
    ·have q2:=kO g2;have G:=AF (show¬(l.c=c\/l.x.par=c)from λh=>h.elim g1 g2);clear g1 g2;go_wp2;go_roundw
     case rel=>exact⟨k+1,Aa,by go_num,by trivial,AF (λi P hi C=>by
      rcases Bl i k with h | h
      ·exact Y.out i P h C
      ·obtain rfl:i=k:=Aa
       rw[H.out]at C;injection C with C;subst C;exact G.out)⟩
     case measure=>simp[intOf];omega
  ·obtain rfl:k=n:=Aa
   go_wp2;go_ret;exact⟨by rw[decide_eq_false (λh=>by
    obtain⟨i,P,Z,k2⟩:=jI.1 h;exact Y.out i P (by have:=(A5.1 Z).1;rw[V.out];exact this) Z k2)];rfl,rfl⟩
end
section
open Classical
section
variable {L:List Rl} {c:Nm} {a i:Int}
theorem PlS.par(h:PlS L c a i)(C:TOk (trR L)):(i= -1/\par (trR L) a c=none)\/∃(k:Nat)(l:Rl),i=(k:Int)/\L[k]? =some l/\l.c=c/\tAt (trR L) c a=some l.x:=by
 rcases h with⟨h1,h2⟩ | ⟨k,l,h1,h2,h3,h4⟩
 ·exact .inl ⟨h1,by unfold Go.Proofs.YtggfmklppkioeaaGreat.par;rw[h2.tAt];rfl⟩
 ·exact .inr ⟨k,l,h1,h2,h3,h4.tAt (C.row c)⟩
end
variable{R:Tr}{a:Int}
theorem u6Q:∀ {n:Nat} {x y z:Nm},up R a n x=some y->par R a y=some z->up R a (n+1) x=some z
 | 0,x,y,z,h,hp=>by simp only[up,A9.injEq]at h;subst h;simp[up,hp]
 | n+1,x,y,z,h,hp=>by
  simp only[up]at h
  cases hq:par R a x with
  | none=>rw[hq]at h;cases h
  | some q=>
   rw[hq]at h;have:=u6Q (n:=n) h hp;show(par R a x).bind (up R a (n+1))=some z;rw[hq];exact this
theorem u7Q:∀ {n m:Nat} {x y:Nm},up R a n x=some y->par R a y=none->n<m->up R a m x=none
 | 0,m+1,x,y,h,hp,_=>by simp only[up,A9.injEq]at h;subst h;simp[up,hp]
 | n+1,m+1,x,y,h,hp,hm=>by
  simp only[up]at h⊢
  cases hq:par R a x with
  | none=>rfl
  | some q=>rw[hq]at h;exact u7Q (n:=n) h hp Aa
theorem up_le(C:TOk R){n:Nat}{x y:Nm}(h:up R a n x=some y):n<=R.length:=by
 obtain⟨m,z,h1,h2,h3⟩:=(C.acy a x).root;rcases Bl m n with hl | hl
 ·rw[u7Q h2 h3 hl]at h;cases h
 ·omega
theorem reach_iff{x c:Nm}(h:x≠c):Reach R a x c↔∃y,par R a x=some y/\Reach R a y c:=by
 constructor
 ·intro k
  cases k with
  | refl=>exact absurd rfl h
  | step e t=>exact⟨_,e,t⟩
 ·rintro⟨y,e,t⟩;exact .step e t
theorem np(L:List Rl):(trR L).length=L.length:=by unfold trR;rw[Cf]
set_option maxHeartbeats 2000000 in
theorem q_ParentR{w:World}{t:Nat}{v:Value}{L:List Rl}(h:RM w t v L)(hR:TOk (trR L))(c:Nm)(a:Int)(hn:L.length<=1000000):AH AE 40 #[ptB t,.string c,.int .i64 a] w λe w'=>e= .returned (.tuple #[.string (pOf (trR L) a c),.bool (par (trR L) a c).isSome])/\AG w.heap.size w w':=by
 have C:=ij h c a hn;have P:=AF (show∀wq,AG w.heap.size w wq->RM wq t v L from λwq k=>h.below k);obtain⟨ad,cp,hv⟩:=h.form;obtain⟨n,I⟩:∃n,n=L.length:=⟨_,rfl⟩;have U:=AF I;rw[<-I]at hv hn;subst hv;have ac:(n:Int)<=1000000:=Aa
 clear h I hn;go_enter Tryz.func40,Tryz.ntmps40
 go_upto_if 14 with(go_at_call 96;refine C.mono ?_;rintro e w1 ⟨i,rfl,hi,hb⟩;have V:=AF (hi.par hR);have G:=AF hb;clear C hi hb)
 rcases V.out with⟨hi,hp⟩ | ⟨k,l,hi,J,hc,hp⟩
 ·subst hi;have H:=AF hp;clear hp;go_wp2;go_ret2
  exact⟨by unfold pOf;rw[H.out];rfl,G.out⟩
 ·subst hi;have K:=(A5.1 J).1;have ab:(k:Int)<(n:Int):=by rw[U.out];omega
  have q0:decide ((k:Int)<0)=false:=decide_eq_false Aa;have aa:=(P.out w1 G.out).cell;obtain⟨b,c2,cs,e,A⟩:=(P.out w1 G.out).at J;injection e with Y _ Z;subst Y;subst Z;have fp:=A.par;have H:=AF (show par (trR L) a c=some l.x.par by unfold par;rw[hp];rfl);clear A hp J K hc;go_wp2;go_ret2
  exact⟨by unfold pOf;rw[H.out];rfl,G.out⟩
set_option maxHeartbeats 2000000 in
theorem q_meetsR{w:World}{t:Nat}{v:Value}{L:List Rl}(h:RM w t v L)(hR:TOk (trR L))(p c:Nm)(a:Int)(hn:L.length<=1000000):AH AE 212 #[ptB t,.string p,.string c,.int .i64 a] w λe w'=>e= .returned (.bool (decide (Reach (trR L) a p c)))/\AG w.heap.size w w':=by
 have U:=AF (show∀wq,AG w.heap.size w wq->RM wq t v L from λwq k=>h.below k);have V:=AF (show∀wq x,AG w.heap.size w wq->AH AE 96 #[ptB t,.string x,.int .i64 a] wq λe w'=>∃i,e= .returned (.int .i64 i)/\PlS L x a i/\AG wq.heap.size wq w' from λwq x k=>ij (h.below k) x a hn);have HR:=AF hR;obtain⟨ad,cp,hv⟩:=h.form;obtain⟨n,Y⟩:∃n,n=L.length:=⟨_,rfl⟩;have HN:=AF Y;rw[<-Y]at hv hn;subst hv;have ao:(n:Int)<=1000000:=Aa
 obtain⟨b,hb⟩:∃b,decide (Reach (trR L) a p c)=b:=⟨_,rfl⟩;have H:=AF hb;rw[hb];clear h Y hn hR hb;go_enter Tryz.func212,Tryz.ntmps212
 go_wp2;go_loopw [1,9] (λs1 s9 wr=>∃(k:Nat)(x:Nm),k<=2*n+1/\s9= .int .i64 (k:Int)/\s1= .string x/\Hid (AG w.heap.size w wr)/\Hid (up (trR L) a k p=some x/\(Reach (trR L) a p c↔Reach (trR L) a x c))) (λ_ s9 _=>2*n+2 - (intOf s9).toNat)
 case atStart=>exact⟨0,p,Bc _,rfl,rfl,AF (AL _ _),AF ⟨rfl,Iff.rfl⟩⟩
 case round=>
  obtain⟨k,x,hk,rfl,rfl,G,J⟩:=hrel;have ac:=(U.out wr G.out).cell;have an:k<=n:=by
   have:=up_le HR.out J.out.1;rw[np,<-HN.out]at this;exact this
  have am:(k:Int)<=2*(n:Int):=Aa
  have K:=V.out wr x G.out;by_cases g1:x=c
  ·have q1:=nj g1;have P:=AF (show b=true by rw[<-H.out];exact decide_eq_true (J.out.2.2 (g1▸ .refl _)));clear g1;go_wp2;go_ret;exact⟨by rw[P.out];rfl,G.out⟩
  ·have q1:=kO g1;have P:=AF (reach_iff (R:=trR L) (a:=a) g1);clear g1;go_upto_if 29 with(go_at_call 96;refine K.mono ?_;rintro e w1 ⟨i,rfl,hi,hb⟩;have HP:=AF (hi.par HR.out);have C:=AF (G.out.trans (hb.mono G.out.size));clear K hi hb)
   rcases HP.out with⟨hi,hp⟩ | ⟨j,l,hi,Z,hc,hp⟩
   ·subst hi;have I:=AF (show b=false by rw[<-H.out];exact decide_eq_false (λhr=>by
     obtain⟨y,e,_⟩:=P.out.1 (J.out.2.1 hr);rw[hp]at e;cases e))
    clear hp;go_wp2;go_ret;exact⟨by rw[I.out];rfl,C.out⟩
   ·subst hi;have aa:=(A5.1 Z).1;have ak:(j:Int)<(n:Int):=by rw[HN.out];omega
    have q0:decide ((j:Int)<0)=false:=decide_eq_false Aa;have ab:=(U.out w1 C.out).cell;obtain⟨b2,c2,cs,e,A⟩:=(U.out w1 C.out).at Z;injection e with e1 _ e3;subst e1;subst e3;have fp:=A.par;have I:=AF (show par (trR L) a x=some l.x.par by unfold par;rw[hp];rfl);clear A hp Z aa hc;go_wp2;go_roundw
    case rel=>exact⟨k+1,l.x.par,Aa,by go_num,rfl,C,AF ⟨u6Q J.out.1 I.out,J.out.2.trans (P.out.trans ⟨λ⟨y,e,t⟩=>by rw[I.out]at e;injection e with e;rw[e];exact t,λt=>⟨_,I.out,t⟩⟩)⟩⟩
    case measure=>simp[intOf];omega
end
section
open Classical
theorem cyc_at{L:List Rl}{c p:Nm}{f:Int}:Cyc (trR L) c p f↔Reach (trR L) f p c\/∃(i:Nat)(l:Rl),L[i]? =some l/\f<l.x.fr/\Reach (trR L) l.x.fr p c:=by
 unfold Cyc;refine or_congr Iff.rfl ⟨λ⟨q,C,h1,h2⟩=> ?_,λ⟨i,l,h,h1,h2⟩=>⟨_,Bb (fY h),h1,h2⟩⟩;obtain⟨i,hi⟩:=DH C;obtain⟨l,G,rfl⟩:=j7 hi;exact⟨i,l,G,h1,h2⟩
set_option maxHeartbeats 2000000 in
theorem q_cycleR{w:World}{t:Nat}{v:Value}{L:List Rl}(h:RM w t v L)(hR:TOk (trR L))(c p:Nm)(f:Int)(hn:L.length<=1000000):AH AE 160 #[ptB t,.string c,.string p,.int .i64 f] w λe w'=>e= .returned (.bool (decide (Cyc (trR L) c p f)))/\AG w.heap.size w w':=by
 have HM:=AF (show∀wq,AG w.heap.size w wq->RM wq t v L from λwq k=>h.below k);have V:=AF (show∀wq a,AG w.heap.size w wq->AH AE 212 #[ptB t,.string p,.string c,.int .i64 a] wq λe w'=>e= .returned (.bool (decide (Reach (trR L) a p c)))/\AG wq.heap.size wq w' from λwq a k=>q_meetsR (h.below k) hR p c a hn);obtain⟨ad,cp,hv⟩:=h.form;obtain⟨n,hN⟩:∃n,n=L.length:=⟨_,rfl⟩;have HN:=AF hN;rw[<-hN]at hv hn;subst hv;have an:(n:Int)<=1000000:=Aa
 have C:=V.out w f (AL _ _);obtain⟨b,hb⟩:∃b,decide (Cyc (trR L) c p f)=b:=⟨_,rfl⟩;have K:=AF hb;rw[hb];clear h hN hn hR hb;by_cases g0:Reach (trR L) f p c
 ·rw[decide_eq_true g0]at C;have I:=AF (show b=true by rw[<-K.out];exact decide_eq_true (.inl g0));clear g0;go_enter Tryz.func160,Tryz.ntmps160
  go_wp2_with (go_at_call 212;refine C.mono ?_;rintro e w1 ⟨rfl,hb⟩;have G:=AF hb;clear C hb)
  go_ret;exact⟨by rw[I.out];rfl,G.out⟩
 rw[decide_eq_false g0]at C;have Z:=AF g0;clear g0;go_enter Tryz.func160,Tryz.ntmps160
 go_wp2_with (go_at_call 212;refine C.mono ?_;rintro e w1 ⟨rfl,hb⟩;have U:=AF hb;clear C hb)
 go_loopw [9] (λs9 wr=>∃k:Nat,k<=n/\s9= .int .i64 (k:Int)/\Hid (AG w.heap.size w wr)/\Hid (∀i l,i<k->L[i]? =some l->¬(f<l.x.fr/\Reach (trR L) l.x.fr p c))) (λs9 _=>n - (intOf s9).toNat)
 case atStart=>exact⟨0,Bc _,rfl,U,AF (λi l hi=>absurd hi (DI _))⟩
 case round=>
  clear U;obtain⟨k,hk,rfl,G,HO⟩:=hrel;have ac:=(HM.out wr G.out).cell;rcases Bl k n with aa | ak
  ·have am:(k:Int)<(n:Int):=Aa
   obtain⟨l,hl⟩:∃l,L[k]? =some l:=⟨_,AU (by rw[<-HN.out];exact aa)⟩;obtain⟨b2,c2,cs,e,A⟩:=(HM.out wr G.out).at hl;injection e with e1 _ e3;subst e1;subst e3;have ff:=A.fr;have HL:=AF hl;have C:=V.out wr l.x.fr G.out;clear A hl;have Y:=AF (show¬(f<l.x.fr/\Reach (trR L) l.x.fr p c)->∀i P,i<k+1->L[i]? =some P->¬(f<P.x.fr/\Reach (trR L) P.x.fr p c)from λab i P hi H=>by
    rcases Bl i k with h | h
    ·exact HO.out i P h H
    ·obtain rfl:i=k:=Aa
     rw[HL.out]at H;injection H with H;subst H;exact ab)
   by_cases g1:f<l.x.fr
   ·have q1:decide (f<l.x.fr)=true:=decide_eq_true g1;by_cases g2:Reach (trR L) l.x.fr p c
    ·rw[decide_eq_true g2]at C;have I:=AF (show b=true by rw[<-K.out];exact decide_eq_true (cyc_at.2 (.inr ⟨k,l,HL.out,g1,g2⟩)));clear g1 g2;go_wp2_with (go_at_call 212;refine C.mono ?_;rintro e w1 ⟨rfl,hb⟩;have J:=AF (G.out.trans (hb.mono G.out.size));clear C hb)
     go_ret;exact⟨by rw[I.out];rfl,J.out⟩
    ·rw[decide_eq_false g2]at C;have I:=AF g2;clear g1 g2;go_wp2_with (go_at_call 212;refine C.mono ?_;rintro e w1 ⟨rfl,hb⟩;have J:=AF (G.out.trans (hb.mono G.out.size));clear C hb)
     go_roundw
     case rel=>exact⟨k+1,Aa,by go_num,J,AF (Y.out (λe=>I.out e.2))⟩
     case measure=>simp[intOf];omega
   ·have q1:decide (f<l.x.fr)=false:=decide_eq_false g1;have I:=AF g1;clear g1 C;go_wp2;go_roundw
    case rel=>exact⟨k+1,Aa,by go_num,G,AF (Y.out (λe=>I.out e.1))⟩
    case measure=>simp[intOf];omega
  ·obtain rfl:k=n:=Aa
   have I:=AF (show b=false by
    rw[<-K.out];refine decide_eq_false (λh=> ?_);rcases cyc_at.1 h with h | ⟨i,P,k1,k2⟩
    ·exact Z.out h
    ·exact HO.out i P (by have:=(A5.1 k1).1;rw[HN.out];exact this) k1 k2)
   go_wp2;go_ret;exact⟨by rw[I.out];rfl,G.out⟩
end
section
open Classical
variable{w:World}
theorem q_letL(n:Int)(h1:97<=n)(h2:n<=122):AH AE 210 #[.int .u8 n] w λe w'=>e= .returned (.bool true)/\w'=w:=by
 have C:decide (97<=n)=true:=decide_eq_true h1;have G:decide (n<=122)=true:=decide_eq_true h2;go_enter Tryz.func210,Tryz.ntmps210
 go_wp2;go_ret;exact Aj
theorem q_letU(n:Int)(h1:65<=n)(h2:n<=90):AH AE 210 #[.int .u8 n] w λe w'=>e= .returned (.bool true)/\w'=w:=by
 have C:decide (97<=n)=false:=decide_eq_false Aa;have G:decide (65<=n)=true:=decide_eq_true h1;have H:decide (n<=90)=true:=decide_eq_true h2;go_enter Tryz.func210,Tryz.ntmps210
 go_wp2;go_ret;exact Aj
theorem tn(c:UInt8)(h:qY c):AH AE 210 #[.int .u8 (c.toNat:Int)] w λe w'=>e= .returned (.bool true)/\w'=w:=by
 rcases h with⟨h1,h2⟩ | ⟨h1,h2⟩
 ·exact q_letL _ Aa Aa
 ·exact q_letU _ Aa Aa
theorem zZ:AH AE 210 #[.int .u8 49] w λe w'=>e= .returned (.bool false)/\w'=w:=by
 go_enter Tryz.func210,Tryz.ntmps210
 go_wp2;go_ret;exact Aj
theorem q_wordR(c:UInt8)(h:qY c):AH AE 211 #[.int .u8 (c.toNat:Int)] w λe w'=>e= .returned (.bool true)/\w'=w:=by
 have hl:=tn (w:=w) c h;generalize (c.toNat:Int)=n at hl;clear h;go_enter Tryz.func211,Tryz.ntmps211
 go_wp2_with (go_at_call 210;refine hl.mono ?_;rintro e w' ⟨rfl,C⟩;obtain rfl:=C.symm)
 go_ret;exact Aj
theorem z6(c:Nm)(h:cj c):AH AE 159 #[.string c] w λe w'=>e= .returned (.bool true)/\w'=w:=by
 obtain⟨h0,aa,hl⟩:=h;have U:∀i (hi:i<c.size),AH AE 211 #[.int .u8 ((c[i]'hi).toNat:Int)] w λe w'=>e= .returned (.bool true)/\w'=w:=λi hi=>q_wordR _ (hl i hi)
 have H:∀i (hi:i<c.size),(DV 9 (.string c) (.int .i64 (i:Int))).run AE w= .ok (.int .u8 ((c[i]'hi).toNat:Int)) w:=λi hi=>by
  have h1:c[i]? =some (c[i]'hi):=by simp[hi]
  simp[DV,asIntOf,AO,run_underlying Ey,Result.andThen,h1]
 have G:=tn (w:=w) _ (hl 0 h0);have V:(DV 9 (.string c) (.int .i64 0)).run AE w= .ok (.int .u8 ((c[0]'h0).toNat:Int)) w:=H 0 h0;have Y:=AF U;have Z:=AF H;have K:decide ((c.size:Int)<1)=false:=decide_eq_false Aa;have C:decide ((16:Int)<(c.size:Int))=false:=decide_eq_false Aa;generalize (c[0]'h0).toNat=b0 at G V;clear hl U H;go_enter Tryz.func159,Tryz.ntmps159
 obtain⟨m,hm⟩:∃m,c.size=m:=⟨_,rfl⟩;rw[hm]at C aa K;go_wp2_with (go_at_call 210;refine G.mono ?_;rintro e w' ⟨rfl,J⟩;obtain rfl:=J.symm)
 clear G V C K;subst hm;have ak:(c.size:Int)<=16:=Aa
 go_loopw [3] (λs3 wr=>∃i:Nat,i<=c.size/\s3= .int .i64 (i:Int)/\wr=w) (λs3 _=>c.size - (intOf s3).toNat)
 case atStart=>exact⟨0,Bc _,rfl,rfl⟩
 case round=>
  obtain⟨i,hi,rfl,ac⟩:=hrel;obtain rfl:=ac;rcases Bl i c.size with I | am
  ·have P:=Y.out i I;have ab:=Z.out i I;generalize (c[i]'I).toNat=bi at P ab;go_wp2_with (go_at_call 211;refine P.mono ?_;rintro e w' ⟨rfl,J⟩;obtain rfl:=J.symm)
   go_roundw
   case rel=>exact⟨i+1,Aa,by go_num,by trivial⟩
   case measure=>simp[intOf];omega
  ·obtain rfl:i=c.size:=Aa
   go_wp2;go_ret;exact⟨rfl,by trivial⟩
theorem z7:AH AE 159 #[.string q9] w λe w'=>e= .returned (.bool false)/\w'=w:=by
 have hc:=zZ (w:=w);go_enter Tryz.func159,Tryz.ntmps159
 go_wp2_with (go_at_call 210;refine hc.mono ?_;rintro e w' ⟨rfl,C⟩;obtain rfl:=C.symm)
 go_ret;exact Aj
theorem tu(c:Nm)(h:Nam c):AH AE 159 #[.string c] w λe w'=>e= .returned (.bool (decide (cj c)))/\w'=w:=by
 rcases h with h | rfl
 ·rw[decide_eq_true h];exact z6 c h
 ·rw[decide_eq_false aa0];exact z7
end
section
open Classical
abbrev eF(a b:Nm):Prop:=a.data.toList<b.data.toList
theorem tw:∀(x y:List UInt8),Op.bytesLess x y=decide (x<y)
 | [],[]=>by simp[Op.bytesLess]
 | _::_,[]=>by simp[Op.bytesLess]
 | [],_::_=>by simp[Op.bytesLess]
 | a::x,b::y=>by
  rw[Op.bytesLess,tw x y];simp only[List.cons_lt_cons_iff];by_cases h1:a<b<;>by_cases h2:a=b<;>by_cases h3:x<y<;>simp[h1,h2,h3]
theorem abd(c d:Nm):Op.bytesLess (ET c) (ET d)=decide (eF c d):=by
 rw[tw,Lib.toList_data,Lib.toList_data]
abbrev SRow(w:World)(v:Value)(l:List Nm):Prop:=aY w 9 1 v l.length (l.map BK)
variable{w:World}{g:Nat}{xs:List Value}
theorem xS{T:TypeId}{sz n c j:Nat}{u:Value}(h:aY w T sz (.slice (some ⟨g,0,none⟩) n c) n xs)(V:noU u):aY (w.setCell ⟨g,j,none⟩ u) T sz (.slice (some ⟨g,0,none⟩) n c) n (xs.set j u):=by
 obtain⟨⟨h1,h2⟩,h3⟩:=h;rcases h2 with⟨e,_⟩ | ⟨P,cap,G,e,hb,J,hn,U,H,ht⟩
 ·cases e
 ·have C:g=P/\c=cap:=by injection e with C _ K;injection C with C;injection C with C;exact⟨C,K⟩
  obtain⟨rfl,rfl⟩:=C;have hs:=heap_setCell_same w g j G T u J;refine⟨⟨by rw[List.length_set];exact h1,.inr ⟨g,c,G.setIfInBounds j u,rfl,hb,hs,hn,U,by simpa using H,?_⟩⟩,λg2 I=> ?_⟩
  ·rw[EZ,List.take_set,ht]
  ·obtain rfl:g=g2:=A9.inj I;refine od hs (λy hy=> ?_);rw[EZ]at hy;rcases List.mem_or_eq_of_mem_set hy with hy | rfl
   ·exact sS J (h3 _ rfl) y hy
   ·exact V
theorem abe{T:TypeId}{n c j:Nat}{u:Value}(h:aY w T 1 (.slice (some ⟨g,0,none⟩) n c) n xs)(_:j<n)(C:noU u):aY (w.setCell ⟨g,j,none⟩ u) T 1 (.slice (some ⟨g,0,none⟩) n c) n (xs.set j u):=xS h C
theorem u9Q(c:Nm):noU (.string c):=λn e=>by cases e
theorem srow_app{v:Value}{l:List Nm}{x:Nm}{ty:TypeId}(h:SRow w v l)(hl:l.length<=2000000)(G:∀j u,[BK x][j]? =some u->w.cell? ((⟨g,0,none⟩:Addr).add j)=some u){B:Nat}{w0:World}(hb:AG B w0 w)(hB:B<=w.heap.size)(H:∀g,v.ownBlock=some g->B<=g):
  ∃v' w',(Ca #[68,68] ty #[v,.slice (some ⟨g,0,none⟩) 1 1]).run AE w= .ok v' w'/\SRow w' v' (l++ [x])/\AG B w0 w'/\∀g,v'.ownBlock=some g->B<=g:=by
 obtain⟨v',w',J,k2,k3,K⟩:=ni (p:=AE) (ty:=ty) (c:=1) (m:=1) (sz:=1) (bytes:=16) Tryz.underlying68 Ab h rfl G (λu C=>by simp at C;subst C;rfl) (λu C=>by simp at C;subst C;exact u9Q _) th Aa Aa;refine⟨v',w',J,?_,hb.grown k2 hB (λk I=>H k I),λg G=>(k3 g G).elim (H g) (λh=>AI hB h)⟩;show aY w' _ 1 v' (l++ [x]).length _;rw[By,Cu];exact K
section
variable {α:Type}
def dv{α:Type}(l:List α)(x:α)(p:Nat):List α:=l.take p++x::l.drop p
variable{p:Nat}
theorem nw{l:List α}{x:α}(h:p<=l.length):(dv l x p).length=l.length+1:=by unfold dv;simp;omega
theorem xT(l:List α)(x:α):dv l x l.length=l++ [x]:=by unfold dv;simp
theorem xU{l:List α}{x y:α}:y∈dv l x p↔y∈l\/y=x:=by
 unfold dv;rw[AJ,A3];constructor
 ·rintro(h | h | h)
  ·exact .inl (List.mem_of_mem_take h)
  ·exact .inr h
  ·exact .inl (List.mem_of_mem_drop h)
 ·rintro(h | h)
  ·rw[<-EN p l]at h;rcases AJ.1 h with h | h
   ·exact .inl h
   ·exact .inr (.inr h)
  ·exact .inr (.inl h)
theorem insN_step{l:List α}{x y:α}(h:l[p]? =some y):((dv l x (p+1)).set (p+1) y).set p x=dv l x p:=by
 obtain⟨A,B,rfl,rfl⟩:=eW h;have C:dv (A++y::B) x (A.length+1)=A++y::x::B:=by
  unfold dv;simp only[List.take_append,List.drop_append,DN,List.take_succ_cons,EW,List.drop_succ_cons,List.drop_zero];rw[Fi Aa,List.drop_eq_nil_of_le Aa];simp
 have G:dv (A++y::B) x A.length=A++x::y::B:=by unfold dv;simp
 rw[C,G];simp[List.set_append]
theorem insN_at{l:List α}{x:α}(h:p<=l.length):(dv l x p)[p]? =some x:=by
 unfold dv;rw[Bq (by rw[Bp];omega),Bp,EX h,Dd];rfl
theorem insN_bef{l:List α}{x y:α}(h:l[p]? =some y):(dv l x (p+1))[p]? =some y:=by
 have hp:=(A5.1 h).1;unfold dv;rw[Bw (by rw[Bp];omega),BP,if_pos Aa];exact h
theorem tx{r:α->α->Prop}{l:List α}{x:α}(hl:l.Pairwise r)(h1:∀z∈l.drop p,r x z)(h2:∀z∈l.take p,r z x):(dv l x p).Pairwise r:=by
 unfold dv;rw[C6];rw[<-EN p l,C6]at hl;refine⟨hl.1,List.pairwise_cons.2 ⟨h1,hl.2.1⟩,λa ha b hb=> ?_⟩;rcases A3.1 hb with rfl | hb
 ·exact h2 a ha
 ·exact hl.2.2 a ha b hb
end
theorem ve{a b:Nm}(h:a≠b)(k:¬eF a b):eF b a:=by
 have h1:b.data.toList<=a.data.toList:=List.not_lt.1 k;rcases List.le_iff_lt_or_eq.1 h1 with h2 | h2
 ·exact h2
 ·exact absurd (by cases a;cases b;simp at h2;subst h2;rfl) h
end
section
open Classical
def nmE(L:List Rl)(i:Nat):Option Nm:=(L[i / 2]?).map λl=>if i % 2=1 then l.x.par else l.c
variable{L:List Rl}{x:Nm}
theorem nmE_known:(∃i,i<2*L.length/\nmE L i=some x)↔aM (trR L) x:=by
 rw[jI];constructor
 ·rintro⟨i,_,h⟩;unfold nmE at h
  cases hl:L[i / 2]? with
  | none=>rw[hl]at h;cases h
  | some l=>
   rw[hl]at h;simp only[BF,A9.injEq]at h;refine⟨i / 2,l,hl,?_⟩;split at h
   ·exact .inr h
   ·exact .inl h
 ·rintro⟨i,l,h,h1⟩;have hi:=(A5.1 h).1;rcases h1 with h1 | h1
  ·exact⟨2*i,Aa,by unfold nmE;rw[show 2*i / 2=i by omega,h,BF,if_neg Aa,h1]⟩
  ·exact⟨2*i+1,Aa,by unfold nmE;rw[show(2*i+1) / 2=i by omega,h,BF,if_pos Aa,h1]⟩
structure FrS(L:List Rl)(k:Nat)(l:List Nm):Prop where
 mem:∀x,x∈l↔∃i,i<k/\nmE L i=some x
 srt:l.Pairwise eF
 len:l.length<=k
variable{l:List Nm}
theorem FrS.same{k:Nat}(h:FrS L k l)(G:nmE L k=some x)(C:x∈l):FrS L (k+1) l:=
 ⟨λy=>(h.mem y).trans ⟨λ⟨i,hi,e⟩=>⟨i,Aa,e⟩,λ⟨i,hi,e⟩=>by
  rcases Bl i k with h1 | h1
  ·exact⟨i,h1,e⟩
  ·obtain rfl:i=k:=Aa
   rw[G]at e;injection e with e;subst e;exact(h.mem x).1 C⟩,h.srt,Nat.le_succ_of_le h.len⟩
variable{p:Nat}
theorem FrS.add{k:Nat}(h:FrS L k l)(C:nmE L k=some x)(hp:p<=l.length)(h1:∀z∈l.drop p,eF x z)(h2:∀z∈l.take p,eF z x):FrS L (k+1) (dv l x p):=
 ⟨λy=>by
  rw[xU,h.mem];constructor
  ·rintro(⟨i,hi,e⟩ | rfl)
   ·exact⟨i,Aa,e⟩
   ·exact⟨k,Aa,C⟩
  ·rintro⟨i,hi,e⟩;rcases Bl i k with h3 | h3
   ·exact .inl ⟨i,h3,e⟩
   ·obtain rfl:i=k:=Aa
    rw[C]at e;injection e with e;exact .inr e.symm,tx h.srt h1 h2,by rw[nw hp];have:=h.len;omega⟩
theorem xV{α:Type}{r:α->α->Prop}(ht:∀a b c,r a b->r b c->r a c){l:List α}{x y:α}(hl:l.Pairwise r)(hy:l[p]? =some y)(h:r y x):∀z∈l.take (p+1),r z x:=by
 obtain⟨A,B,rfl,rfl⟩:=eW hy;intro z hz;rw[show(A++y::B).take (A.length+1)=A++ [y]by
  simp[List.take_append];exact Fi Aa]at hz
 rcases AJ.1 hz with hz | hz
 ·exact ht _ _ _ ((C6.1 hl).2.2 z hz y (Bj ..)) h
 ·simp only[List.mem_singleton]at hz;subst hz;exact h
theorem take_lt{y:Nm}(hl:l.Pairwise eF)(hy:l[p]? =some y)(h:eF y x):∀z∈l.take (p+1),eF z x:=xV (r:=eF) (λ_ _ _ h k=>List.lt_trans h k) hl hy h
theorem abf{α:Type}{l:List α}{q:Nat}{y z:α}(h:l[q]? =some y)(hz:z∈l.drop q):z=y\/z∈l.drop (q+1):=by
 obtain⟨i,hi⟩:=DH hz;rw[Cp]at hi
 cases i with
 | zero=>rw[Nat.add_zero,h]at hi;injection hi with hi;exact .inl hi.symm
 | succ i=>exact .inr (Bb (i:=i) (by rw[Cp,show q+1+i=q+(i+1)by omega];exact hi))
theorem own_thaw{w:World}{T:TypeId}{g n c i j:Nat}{xs:List Value}(h:aY w T 1 (.slice (some ⟨g,0,none⟩) n c) n xs):w.frozen? ⟨g,i,none⟩=false/\w.frozen? ⟨g,j,none⟩=false:=by
 rcases h.1.2 with⟨e,_⟩ | ⟨H,cap,G,e,hb,C,_⟩
 ·cases e
 ·obtain rfl:g=H:=by injection e with e;injection e with e;injection e
  exact⟨by simp[Dg,C],by simp[Dg,C]⟩
set_option maxHeartbeats 4000000 in
theorem tA{w:World}{t:Nat}{v:Value}(h:RM w t v L)(hn:L.length<=1000000):AH AE 105 #[ptB t] w λe w'=>∃v' l,e= .returned v'/\SRow w' v' l/\(∀g,v'.ownBlock=some g->w.heap.size<=g)/\(∀x,x∈l↔aM (trR L) x)/\l.Pairwise eF/\AG w.heap.size w w':=by
 have HM:=AF (show∀wq,AG w.heap.size w wq->RM wq t v L from λwq k=>h.below k);obtain⟨ad,cp,hv⟩:=h.form;obtain⟨n,hN⟩:∃n,n=L.length:=⟨_,rfl⟩;have HN:=AF hN;rw[<-hN]at hv hn;subst hv;have b1:(n:Int)<=1000000:=Aa
 clear h hN hn;go_enter Tryz.func105,Tryz.ntmps105
 go_wp2;go_loopw [3,4] (λs3 s4 wr=>∃(k:Nat)(l:List Nm),k<=2*n/\s4= .int .i64 (k:Int)/\Hid (SRow wr s3 l)/\Hid (∀g,s3.ownBlock=some g->w.heap.size<=g)/\Hid (FrS L k l)/\Hid (AG w.heap.size w wr)) (λ_ s4 _=>2*n - (intOf s4).toNat)
 case atStart=>exact⟨0,[],Bc _,rfl,AF ⟨World.ownsRow_nil _ _ _ _,λg G=>by cases G⟩,AF (λg G=>by cases G),AF ⟨λx=>⟨λh=>(by cases h),λ⟨i,hi,_⟩=>absurd hi (DI _)⟩,List.Pairwise.nil,Bc _⟩,AF (AL _ _)⟩
 case round=>
  obtain⟨k,l,hk,rfl,HW,HO,HF,Z⟩:=hrel;have a1:=(HM.out wr Z.out).cell;have a4:(l.length:Int)<=2000000:=by have:=HF.out.len;omega
  rcases Bl k (2*n)with bz | be
  ·have bt:(k:Int)<2*(n:Int):=Aa
   obtain⟨j,hj⟩:∃j,k / 2=j:=⟨_,rfl⟩;have a3:j<n:=Aa
   have bq:(j:Int)<(n:Int):=Aa
   obtain⟨e0,V⟩:∃l,L[j]? =some l:=⟨_,AU (by rw[<-HN.out];exact a3)⟩;obtain⟨b,c2,cs,e,A⟩:=(HM.out wr Z.out).at V;injection e with e1 _ e3;subst e1;subst e3;have fc:=A.c;have fp:=A.par;have a5:(k:Int).tdiv 2=(j:Int):=by rw[Int.tdiv_eq_ediv_of_nonneg Aa];omega
   obtain⟨aa,K,rfl⟩:=dW HW.out.1;obtain⟨x,hx⟩:∃x,(if k % 2=1 then e0.x.par else e0.c)=x:=⟨_,rfl⟩;have HX:=AF (show nmE L k=some x by unfold nmE;rw[hj,V,BF,hx]);have a7:=AF V;obtain⟨m,hm⟩:∃m,l.length=m:=⟨_,rfl⟩;have C:=AF hm;have U:=AF (show aY wr 9 1 (.slice aa m K) m (l.map BK)by rw[<-hm];exact HW.out);have b0:(m:Int)<=2000000:=Aa
   rw[hm]at HW HO⊢;clear A V a4 HW hm;obtain hr | hr:k % 2=0\/k % 2=1:=Aa
   all_goals first
    | (rw[if_neg Aa]at hx;have av:(k:Int).tmod 2=0:=(by rw[Cz Aa];omega);rw[hx]at fc;clear hx hr;go_upto_region 8 with(fail))
    | (rw[if_pos hr]at hx;have av:(k:Int).tmod 2=1:=(by rw[Cz Aa];omega);rw[hx]at fp;clear hx hr;go_upto_region 8 with(fail))
   all_goals
    clear fc fp a5 av a1;go_wp2;go_loopw [6,7] (λs6 s7 wq=>∃(i:Nat),i<=m/\s7= .int .i64 (i:Int)/\s6= .bool (decide (x∈l.take i))/\wq=wr) (λ_ s7 _=>m - (intOf s7).toNat)
    case atStart=>exact⟨0,Bc _,rfl,Ag,rfl⟩
    case round=>
     obtain⟨i,hi,rfl,rfl,a6⟩:=hrel;obtain rfl:=a6;rcases Bl i m with a2 | bi
     ·have bp:(i:Int)<(m:Int):=Aa
      obtain⟨y,hy⟩:∃y,l[i]? =some y:=⟨_,AU (by rw[C.out];exact a2)⟩;obtain⟨g,G,bb⟩:=dD U.out.1 (show(l.map BK)[i]? =some (.string y)by rw[BB,hy];rfl);subst G;have HT:=AF (show∀z:Nm,z∈l.take (i+1)↔z∈l.take i\/z=y from λz=>by rw[List.take_add_one,hy];simp);by_cases m1:x∈l.take i
      ·have I:decide (x∈l.take i)=true:=decide_eq_true m1;have HD:=AF (show decide (x∈l.take (i+1))=true from decide_eq_true ((HT.out x).2 (.inl m1)));rw[I];clear m1 hy I;go_wp2;go_roundw
       case rel=>exact⟨i+1,Aa,by go_num,by rw[HD.out],by trivial⟩
       case measure=>simp[intOf];omega
      ·have I:decide (x∈l.take i)=false:=decide_eq_false m1;rw[I];by_cases m2:y=x
       ·have q1:=nj m2;have HD:=AF (show decide (x∈l.take (i+1))=true from decide_eq_true ((HT.out x).2 (.inr m2.symm)));clear m1 m2 hy I;go_wp2;go_roundw
        case rel=>exact⟨i+1,Aa,by go_num,by rw[HD.out],by trivial⟩
        case measure=>simp[intOf];omega
       ·have q1:=kO m2;have HD:=AF (show decide (x∈l.take (i+1))=false from decide_eq_false (λh=>((HT.out x).1 h).elim m1 (λe=>m2 e.symm)));clear m1 m2 hy I;go_wp2;go_roundw
        case rel=>exact⟨i+1,Aa,by go_num,by rw[HD.out],by trivial⟩
        case measure=>simp[intOf];omega
     ·obtain rfl:i=m:=Aa
      have ac:l.take i=l:=by rw[<-C.out,List.take_length]
      rw[ac];by_cases m1:x∈l
      ·have J:=AF (HF.out.same HX.out m1);rw[decide_eq_true m1];clear m1 ac;go_wp2;go_roundw
       case rel=>exact⟨k+1,l,Aa,by go_num,AF (by show aY _ _ _ _ l.length _;rw[C.out];exact U.out),HO,J,Z⟩
       case measure=>simp[intOf];omega
      ·rw[decide_eq_false m1];have ax:=AF m1;clear m1 ac;go_upto_region 14 with(fail)
       refine CC ?_;have ar:∀(j:Nat)(u:Value),[BK x][j]? =some u->(wr.alloc (.cells #[.string x] 9)).cell? ((⟨wr.heap.size,0,none⟩:Addr).add j)=some u:=λj u hu=>by
        rw[cE,Bh,aE (BE wr _)]
        cases j with
        | zero=>simpa using hu
        | succ j=>simp at hu
       obtain⟨v5,w5,Y,aq,ao,ap⟩:=srow_app (ty:=68) (x:=x) (l:=l) (v:=.slice aa i K) (w:=wr.alloc (.cells #[.string x] 9)) (by show aY _ _ _ _ l.length _;rw[C.out];exact U.out.keep (λg G=>heap_alloc_old wr _ (ot U.out.1 G).2)) (by rw[C.out];omega) ar (Z.out.alloc Z.out.size _) (by rw[asz];have:=Z.out.size;omega) HO.out;have ab:aY w5 9 1 v5 (i+1) ((l++ [x]).map BK):=by
        have:aY w5 9 1 v5 (l++ [x]).length ((l++ [x]).map BK):=aq;rwa [By,C.out]at this
       obtain⟨g5,an,rfl⟩:∃g cap,v5= .slice (some ⟨g,0,none⟩) (i+1) cap:=by
        rcases ab.1.2 with⟨_,h⟩ | ⟨g,cap,a9,e,_⟩
        ·cases h
        ·exact⟨g,cap,e⟩
       have ay:=AF ab;have ak:=AF ao;have P:=AF ap;have am:=AF Y;clear aq ab ao ap ar Y;refine aD rfl (v:=.slice aa i K) (w':=wr) Ai ?_;refine aD rfl (v:=.string x) (w':=wr) Ai ?_;refine aD rfl (v:=.slice (some ⟨wr.heap.size,0,none⟩) 1 1) (w':=wr.alloc (.cells #[.string x] 9)) Am ?_;refine rz rfl rfl rfl rfl am.out ?_;go_wp2;go_loopw [8,9] (λs8 _ wq=>∃p,p<=i/\s8= .int .i64 (p:Int)/\Hid (aY wq 9 1 (.slice (some ⟨g5,0,none⟩) (i+1) an) (i+1) ((dv l x p).map BK))/\Hid (∀z∈l.drop p,eF x z)/\Hid (AG w.heap.size w wq)) (λs8 _ _=>(intOf s8).toNat)
       case atStart=>exact⟨i,AK _,by go_num,AF (by rw[<-C.out,xT,C.out];exact ay.out),AF (λz hz=>by rw[<-C.out,List.drop_length]at hz;cases hz),ak⟩
       case round=>
        obtain⟨p,hp,rfl,HR,HZ,HQ⟩:=hrel;clear ak
        cases p with
        | zero=>
         go_upto_region 16 with(fail)
         go_quiet (fail)
         have J:=AF (HF.out.add HX.out (Bc _) HZ.out (λz hz=>by rw[EW]at hz;cases hz));go_wp2;go_roundw
         case rel=>exact⟨k+1,dv l x 0,Aa,by go_num,AF (by show aY _ _ _ _ (dv l x 0).length _;rw[nw (Bc _),C.out];exact HR.out.keep (λg _=>rfl)),P,J,AF (aF HQ.out _)⟩
         case measure=>simp[intOf];omega
        | succ q=>
         have hq0:decide (0<((q+1:Nat):Int))=true:=decide_eq_true Aa;obtain⟨y,hy⟩:∃y,l[q]? =some y:=⟨_,AU (by rw[C.out];omega)⟩;obtain⟨g,G,c1⟩:=dD HR.out.1 (show((dv l x (q+1)).map BK)[q+1]? =some (.string x)by rw[BB,insN_at (by rw[C.out];exact hp)];rfl);obtain rfl:g5=g:=by injection G with G;injection G with G
         obtain⟨g,H,c0⟩:=dD HR.out.1 (show((dv l x (q+1)).map BK)[q]? =some (.string y)by rw[BB,insN_bef hy];rfl);obtain rfl:g5=g:=by injection H with H;injection H with H
         have b2:((q+1:Nat):Int) - 1=(q:Int):=Aa
         have HY:=AF hy;have au:=abd x y;by_cases m2:eF x y
         ·rw[decide_eq_true m2]at au;have a0:=AF (show∀z∈l.drop q,eF x z from λz hz=>(abf HY.out hz).elim (λe=>e▸m2) (HZ.out z));obtain⟨b4,b3⟩:wr.frozen? ⟨g5,q+1,none⟩=false/\wr.frozen? ⟨g5,q,none⟩=false:=own_thaw HR.out;clear m2 hy G H;go_upto_region 16 with(fail)
          go_quiet (fail)
          go_wp2;go_roundw
          case rel=>exact⟨q,Aa,by go_num,AF (by
           have h1:=abe (abe (HR.out.keep (w':=wr.drewN nq) (λg _=>rfl)) (show q+1<i+1 by omega) (u9Q y)) (show q<i+1 by omega) (u9Q x);rw[<-List.map_set,<-List.map_set,insN_step HY.out]at h1;exact h1),a0,AF (((aF HQ.out nq).setCell (p:=⟨g5,q+1,none⟩) (P.out _ rfl) _).setCell (p:=⟨g5,q,none⟩) (P.out _ rfl) _)⟩
          case measure=>simp[intOf]
         ·rw[decide_eq_false m2]at au;have J:=AF (HF.out.add HX.out (by rw[C.out];exact hp) HZ.out (take_lt HF.out.srt hy (ve (λe=>ax.out (e▸Bb hy)) m2)));clear m2 hy G H;go_upto_region 16 with(fail)
          go_quiet (fail)
          go_wp2;go_roundw
          case rel=>exact⟨k+1,dv l x (q+1),Aa,by go_num,AF (by show aY _ _ _ _ (dv l x (q+1)).length _;rw[nw (by rw[C.out];exact hp),C.out];exact HR.out.keep (λg _=>rfl)),P,J,AF (aF HQ.out _)⟩
          case measure=>simp[intOf];omega
  ·obtain rfl:k=2*n:=Aa
   have HK:=AF (show∀x,x∈l↔aM (trR L) x from λx=>by rw[HF.out.mem,HN.out,nmE_known]);go_wp2;go_ret;exact⟨_,l,rfl,HW.out,HO.out,HK.out,HF.out.srt,Z.out⟩
end
section
open Classical
structure RPost(w:World)(t:Nat)(v:Value)(L:List Rl)(w':World)(v':Value)(L':List Rl):Prop where
 rm:RM w' t v' L'
 kp:Kp w (fpR t v L) w'
 fp:∀g∈fpR t v' L',g∈fpR t v L\/w.heap.size<=g
section
variable {w w':World} {t:Nat} {v:Value} {L:List Rl} {l l':Rl} {A B:List Rl}
theorem RPost.refl(h:RM w t v L)(hb:AG w.heap.size w w'):RPost w t v L w' v L:=⟨h.below hb,.of_below hb,λ_ h=>.inl h⟩
theorem abg(A B:List Rl):rlQ (A++B)=rlQ A++rlQ B:=by unfold rlQ;rw[Df]
theorem nz(A B:List Rl)(l:Rl):rlQ (A++l::B)=rlQ A++(l.qs++rlQ B):=by rw[abg];rfl
theorem j8(A B:List Rl)(l:Rl):trR (A++l::B)=trR A++(l.c,l.x)::trR B:=by unfold trR;rw[Cu];rfl
theorem fpR_mid(A B:List Rl)(h1:l'.g=l.g)(h2:l'.sl=l.sl):fpR t v (A++l'::B)=fpR t v (A++l::B):=by
 unfold fpR;simp only[Df,List.flatMap_cons,h1,h2]
theorem aK.mid{H I qs qs':List Vp}{xs ys:List Value}(h:aK w (H++(qs++I)) xs)(hl:qs'.length=qs.length)(hy:aK w' qs' ys)(hc:∀(j:Nat)(q:Vp)(u:Value),(∀g,¬q.fp w u g)->q.p w u->q.p w' u/\∀g,¬q.fp w' u g):aK w' (H++(qs'++I)) (xs.take H.length++ys++xs.drop (H.length+qs.length)):=by
 have J:=h.1;simp only[By]at J;have get:∀(j:Nat)(q:Vp),(H++(qs++I))[j]? =some q->∃u,xs[j]? =some u/\q.p w' u/\∀g,¬q.fp w' u g:=λj q C=>by
  obtain⟨u,G,k2,k3⟩:=h.2 j q C;exact⟨u,G,hc j q u k3 k2⟩
 refine⟨by have:=hy.1;simp only[By,Bp,Cv];omega,λj q C=> ?_⟩;have K:=hy.1;by_cases h1:j<H.length
 ·rw[Bw h1]at C;obtain⟨u,G,k2⟩:=get j q (by rw[Bw h1];exact C);refine⟨u,?_,k2⟩;rw[Bw (by rw[By,Bp];omega),Bw (by rw[Bp];omega),BP,if_pos h1];exact G
 ·rw[Bq Aa]at C;by_cases h2:j - H.length<qs'.length
  ·rw[Bw h2]at C;obtain⟨u,G,k2⟩:=hy.2 _ q C;refine⟨u,?_,k2⟩;rw[Bw (by rw[By,Bp];omega),Bq (by rw[Bp];omega),Bp,EX Aa];exact G
  ·rw[Bq Aa]at C;obtain⟨u,G,k2⟩:=get j q (by rw[Bq Aa,Bq Aa,<-hl];exact C);refine⟨u,?_,k2⟩;rw[Bq (by rw[By,Bp];omega),By,Bp,Cp,EX Aa,<-G]
   congr 1;omega
theorem cA{A B:List Nat}(h:(A++B).Nodup){x:Nat}(h1:x∈A)(h2:x∈B):False:=(BJ.1 h).2.2 x h1 x h2 rfl
theorem RM.setL(h:RM w t v (A++l::B)){b c:Nat}(hv:v= .slice (some ⟨b,0,none⟩) (A++l::B).length c)(u:Upd w b w')(hr:∀xs,aY w rlT 27 v (A++l::B).length xs->aK w (rlQ (A++l::B)) xs->∃ys,aY w' rlT 27 v (A++l::B).length (xs.take (rlQ A).length++ys++xs.drop ((rlQ A).length+l.qs.length))/\aK w' l'.qs ys)
  (Y:l'.g=l.g)(hs:l'.sl=l.sl)(ht:l'.x.tr=l.x.tr):RPost w t v (A++l::B) w' v (A++l'::B):=by
 have hb:b∈fpR t v (A++l::B):=by rw[hv];simp[fpR,CI]
 have J:=h.nd;have ac:v.ownBlock=some b:=by rw[hv];rfl
 have U:t≠b/\∀G∈A++l::B,b≠G.g/\∀Z,G.sl.ownBlock=some Z->Z≠b:=by
  unfold fpR at J;rw[ac]at J;obtain⟨a1,a2⟩:=Bv.1 J;refine⟨λe=>a1 (e▸Ag),λG C=>⟨λe=>cA a2 (x:=b) Ag (Br.2 ⟨G,C,by simp[e]⟩),λZ K e=>cA a2 (x:=b) Ag (Br.2 ⟨G,C,by simp[K,e]⟩)⟩⟩
 have aa:Chg w w' (· =b):=.upd (h.own _ hb) u;have ab:(A++l'::B).length=(A++l::B).length:=Ag
 have P:fpR t v (A++l'::B)=fpR t v (A++l::B):=fpR_mid A B Y hs;have I:∀G∈A++l::B,TrkS rkT w' G.g G.sl G.x.tr:=λG C=>(h.trk G C).chg aa (λe=>(U.2 G C).1 e.symm) (λZ K=>(U.2 G C).2 Z K)
 refine⟨⟨by rw[u.block t U.1];exact h.tr,?_,λG C=> ?_,by rw[P];exact J,λg H=> ?_⟩,.upd u hb,λg H=>.inl (by rw[P]at H;exact H)⟩
 ·obtain⟨xs,k1,k2⟩:=h.row;obtain⟨ys,V,hy⟩:=hr xs k1 k2;refine⟨_,by rw[ab];exact V,?_⟩;rw[nz]at k2⊢;exact k2.mid (by rw[fX,fX]) hy (λ_ q y hf hp=>by
   obtain⟨c1,c2⟩:=q.ch w w' _ y hp aa (λg Y=>absurd Y (hf g));exact⟨c1,λg Y=>hf g (c2 g Y)⟩)
 ·rcases AJ.1 C with C | C
  ·exact I G (AJ.2 (.inl C))
  ·rcases A3.1 C with rfl | C
   ·rw[Y,hs,ht];exact I l Ag
   ·exact I G (by simp[C])
 ·rw[P]at H;by_cases e:g=b
  ·subst e;obtain⟨xs,k1,k2⟩:=h.row;obtain⟨ys,V,_⟩:=hr xs k1 k2;obtain⟨cs,T,k3,k4⟩:=V.2 g ac;exact .mk' k3 k4
  ·exact(h.own g H).blk (u.block g e) (by rw[u.size];exact AK _)
end
def i4(xs:List Value):Nat->List Value->List Value
 | _,[]=>xs
 | o,u::us=>i4 (xs.set o u) (o+1) us
theorem ou:∀(us:List Value)(xs:List Value)(o:Nat),(i4 xs o us).length=xs.length
 | [],_,_=>rfl
 | u::us,xs,o=>by rw[i4,ou];simp
theorem io:∀(us:List Value)(xs:List Value)(o j:Nat),o+us.length<=xs.length->(i4 xs o us)[j]? =if o<=j/\j<o+us.length then us[j - o]? else xs[j]?
 | [],xs,o,j,_=>by rw[i4,if_neg (by simp only[List.length_nil];omega)]
 | u::us,xs,o,j,h=>by
  simp only[Bz]at h⊢;rw[i4,io us _ _ _ (by simp;omega),List.getElem?_set];by_cases h1:o+1<=j/\j<o+1+us.length
  ·rw[if_pos h1,if_pos Aa,show j - o=(j - (o+1))+1 by omega];rfl
  ·rw[if_neg h1];by_cases h2:o=j
   ·subst h2;rw[if_pos rfl,if_pos Aa,if_pos Aa,Dd];rfl
   ·rw[if_neg h2,if_neg Aa]
theorem setsL_mid(xs us:List Value)(n m o:Nat)(h:o+us.length<=m)(hl:n+m<=xs.length):i4 xs (n+o) us=xs.take n++i4 ((xs.drop n).take m) o us++xs.drop (n+m):=by
 have G:((xs.drop n).take m).length=m:=by rw[Bp,Cv];omega
 refine Dx (λj=> ?_);rw[io _ _ _ _ Aa];have C:=ou us ((xs.drop n).take m) o;by_cases h1:j<n
 ·rw[if_neg Aa,Bw (by rw[By,Bp];omega),Bw (by rw[Bp];omega),BP,if_pos h1]
 ·by_cases h2:j<n+m
  ·rw[Bw (by rw[By,Bp];omega),Bq (by rw[Bp];omega),Bp,EX Aa,io _ _ _ _ Aa];by_cases h3:o<=j - n/\j - n<o+us.length
   ·rw[if_pos h3,if_pos Aa];congr 1;omega
   ·rw[if_neg h3,if_neg Aa,BP,if_pos Aa,Cp];congr 1;omega
  ·rw[if_neg Aa,Bq (by rw[By,Bp];omega),By,Bp,Cp,EX Aa];congr 1;omega
theorem rB{T:TypeId}{sz g n c:Nat}:∀(us:List Value)(w:World)(xs:List Value)(o:Nat),aY w T sz (.slice (some ⟨g,0,none⟩) n c) n xs->(∀u∈us,noU u)->aY (w.setCells g o us) T sz (.slice (some ⟨g,0,none⟩) n c) n (i4 xs o us)
 | [],_,_,_,h,_=>h
 | u::us,w,xs,o,h,hu=>rB us _ _ _ (xS h (hu u (Bj ..))) (λy hy=>hu y (Bg _ hy))
theorem z8{w w':World}{qs qs':List Vp}{cs us:List Value}{o:Nat}(h:aK w qs cs)(hl:qs'.length=qs.length)(G:o+us.length<=qs.length)(h1:∀(j:Nat)(q:Vp),j<us.length->qs'[o+j]? =some q->∃u,us[j]? =some u/\q.p w' u/\∀g,¬q.fp w' u g)(h2:∀j,j<o\/o+us.length<=j->qs'[j]? =qs[j]?)
  (hc:∀(q:Vp)(u:Value),(∀g,¬q.fp w u g)->q.p w u->q.p w' u/\∀g,¬q.fp w' u g):aK w' qs' (i4 cs o us):=by
 refine⟨by rw[ou,h.1,hl],λj q C=> ?_⟩;rw[io _ _ _ _ (by rw[h.1];exact G)];by_cases h3:o<=j/\j<o+us.length
 ·rw[if_pos h3];exact h1 (j - o) q Aa (by rw[show o+(j - o)=j by omega];exact C)
 ·rw[if_neg h3];rw[h2 j Aa]at C;obtain⟨u,H,k2,k3⟩:=h.2 j q C;exact⟨u,H,hc q u k3 k2⟩
theorem aK.cut{w:World}{G K qs:List Vp}{xs:List Value}(h:aK w (G++(qs++K)) xs):aK w qs ((xs.drop G.length).take qs.length):=by
 have I:=h.1;simp only[By]at I;refine⟨by rw[Bp,Cv];omega,λj q H=> ?_⟩;have C:=(A5.1 H).1;obtain⟨u,J,k2⟩:=h.2 (G.length+j) q (by rw[Bq Aa,DN,Bw C];exact H);exact⟨u,by rw[BP,if_pos C,Cp];exact J,k2⟩
end
section
open Classical
variable{w:World}{t:Nat}
theorem RM.put{v:Value}{l l':Rl}{A B:List Rl}(h:RM w t v (A++l::B)){b c:Nat}(hv:v= .slice (some ⟨b,0,none⟩) (A++l::B).length c){us:List Value}{o:Nat}(I:o+us.length<=27)(P:∀u∈us,noU u)(G:l'.g=l.g)(hs:l'.sl=l.sl)(ht:l'.x.tr=l.x.tr)
  (h1:∀(w':World),Chg w w' (· =b)->∀(j:Nat)(q:Vp),j<us.length->l'.qs[o+j]? =some q->∃u,us[j]? =some u/\q.p w' u/\∀g,¬q.fp w' u g)(h2:∀j,j<o\/o+us.length<=j->l'.qs[j]? =l.qs[j]?):
  RPost w t v (A++l::B) (w.setCells b (A.length*27+o) us) v (A++l'::B):=by
 have H:Upd w b (w.setCells b (A.length*27+o) us):=cS us w b _;have C:Chg w (w.setCells b (A.length*27+o) us) (· =b):=.upd (h.own b (by rw[hv];simp[fpR,CI])) H;refine h.setL hv H (λxs K k2=>⟨i4 ((xs.drop (rlQ A).length).take l.qs.length) o us,?_,?_⟩) G hs ht
 ·have J:=k2.1;rw[nz]at J;simp only[By]at J;rw[<-setsL_mid _ _ _ _ _ (by rw[fX];exact I) Aa,pz];rw[hv]at K⊢;exact rB us w xs _ K P
 ·rw[nz]at k2;exact z8 k2.cut (by rw[fX,fX]) (by rw[fX];exact I) (h1 _ C) h2 (λq y hf hp=>by
   obtain⟨c1,c2⟩:=q.ch w _ _ y hp C (λg G=>absurd G (hf g));exact⟨c1,λg G=>hf g (c2 g G)⟩)
variable{L:List Rl}
theorem RM.thaw{b n c i:Nat}(h:RM w t (.slice (some ⟨b,0,none⟩) n c) L)(hn:0<L.length):w.frozen? ⟨b,i,none⟩=false:=by
 obtain⟨xs,⟨⟨_,h2⟩,_⟩,_⟩:=h.row;rcases h2 with⟨e,_⟩ | ⟨G,cap,C,e,_,H,_⟩
 ·cases e
 ·obtain rfl:b=G:=by injection e with e;injection e with e;injection e
  simp[Dg,H]
theorem vg{c:Nm}{i:Int}(h:OpS L c i):(i= -1/\oe (trR L) c)\/∃(A B:List Rl)(l:Rl),i=(A.length:Int)/\L=A++l::B/\l.c=c/\eA (trR L) c A.length l.x:=by
 rcases h with h | ⟨k,l,h1,h2,h3,h4⟩
 ·exact .inl h
 ·obtain⟨A,B,C,G⟩:=eW h2;subst G;exact .inr ⟨A,B,l,h1,C,h3,h4⟩
set_option maxHeartbeats 2000000 in
theorem q_DetachR{v:Value}(h:RM w t v L)(c:Nm)(u:Int)(hn:L.length<=1000000):
  AH AE 92 #[ptB t,.string c,.int .i64 u] w λe w'=>∃v' L' code,e= .returned (.int .i64 code)/\RPost w t v L w' v' L'/\DetS (trR L) c u (trR L') code:=by
 have P:=uY h c hn;have J:=AF h;obtain⟨ad,Z,hv⟩:=h.form;obtain⟨n,hN⟩:∃n,n=L.length:=⟨_,rfl⟩;have Y:=AF hN;rw[<-hN]at hv hn;subst hv;have ak:(n:Int)<=1000000:=Aa
 have ab:=h.cell;clear h hN hn;go_enter Tryz.func92,Tryz.ntmps92
 go_upto_if 12 with(go_at_call 155;refine P.mono ?_;rintro e w1 ⟨i,rfl,hi,hw⟩;obtain rfl:=hw.symm;have HP:=AF (vg hi);clear P hi)
 rcases HP.out with⟨hi,hp⟩ | ⟨A,B,l,hi,hL,hc,hp⟩
 ·subst hi;have K:=AF (DetS.none (u:=u) hp);clear hp;go_wp2;go_ret;exact⟨_,L,6,rfl,.refl J.out (AL _ _),K.out⟩
 ·subst hi;obtain⟨k,U⟩:∃k,A.length=k:=⟨_,rfl⟩;rw[U];have I:L[k]? =some l:=by rw[hL,<-U,Bq (AK _),Dd];rfl
  have aa:=(A5.1 I).1;have ac:(k:Int)<(n:Int):=by rw[Y.out];omega
  have q0:decide ((k:Int)<0)=false:=decide_eq_false Aa;obtain⟨b,c2,cs,e,V⟩:=J.out.at I;injection e with e1 _ e3;subst e1;subst e3;have ff:=V.fr;have fu:=V.un;have hz:w.frozen? ⟨b,k*27+3,none⟩=false:=J.out.thaw Aa;have C:=AF hL;have HK:=AF U;have G:=AF hp;have HC:=AF hc;clear V I aa hL U hp hc;by_cases g1:u<=l.x.fr
  ·have q1:decide (u<=l.x.fr)=true:=decide_eq_true g1;have K:=AF (DetS.time G.out (.inl g1));clear g1;go_wp2;go_ret;exact⟨_,L,17,rfl,.refl J.out (AL _ _),K.out⟩
  ·have q1:decide (u<=l.x.fr)=false:=decide_eq_false g1;by_cases g2:fw<u
   ·have q2:decide ((1099511627776:Int)<u)=true:=decide_eq_true g2;have K:=AF (DetS.time G.out (.inr g2));clear g1 g2;go_wp2;go_ret;exact⟨_,L,17,rfl,.refl J.out (AL _ _),K.out⟩
   ·have q2:decide ((1099511627776:Int)<u)=false:=decide_eq_false g2;have HG:=AF (Ba g1 g2);clear g1 g2;go_wp2;go_ret;have hR:RPost w t (.slice (some ⟨b,0,none⟩) n Z) (A++l::B) (w.setCells b (A.length*27+3) [.int .i64 u]) (.slice (some ⟨b,0,none⟩) n Z) (A++ {l with x:= {l.x with un:=u}}::B):=
     RM.put (h:=by rw[<-C.out];exact J.out) (c:=Z) (by rw[Y.out,C.out]) (us:=[.int .i64 u]) (o:=3) Ag (λy hy n e=>by simp at hy;subst hy;cases e) rfl rfl rfl
      (λw' _ j q H hq=>by
       obtain rfl:j=0:=by simpa using H
       have:q= .val (.int .i64 u):=by
        have e:(some (Vp.val (.int .i64 u)):Option Vp)=some q:=hq;injection e with e;exact e.symm
       subst this;exact⟨_,rfl,⟨rfl,cw⟩,λ_ h=>h⟩)
      (λj H=>by
       rcases H with H | H
       ·match j,H with
        | 0,_=>rfl
        | 1,_=>rfl
        | 2,_=>rfl
       ·obtain⟨i,rfl⟩:∃i,j=i+4:=⟨j - 4,by simp at H;omega⟩;rfl)
    have hD:DetS (trR L) c u (trR (A++ {l with x:= {l.x with un:=u}}::B)) 0:=by
     rw[C.out,j8,j8,HC.out];exact .ok (x:=l.x) rfl G.out.2 (by have:=HG.out.1;omega) (by have:=HG.out.2;unfold fw at this⊢;omega)
    obtain rfl:=HK.out;obtain rfl:=C.out;obtain rfl:=Y.out;exact⟨_,_,0,rfl,hR,hD⟩
end
section
open Classical
theorem rC{X Y:List Nat}{o o':Option Nat}(h:(X++(o.toList++Y)).Nodup)(hb:∀b,o'=some b->o=some b\/b∉X++Y):(X++(o'.toList++Y)).Nodup:=by
 have h0:(X++Y).Nodup:=h.sublist ((List.Sublist.refl X).append (List.sublist_append_right _ _))
 cases o' with
 | none=>exact h0
 | some b=>
  rcases hb b rfl with e | e
  ·rw[e]at h;exact h
  ·show(X++b::Y).Nodup;exact(List.perm_middle.nodup_iff).2 (Bv.2 ⟨e,h0⟩)
abbrev Rl.setTr(l:Rl)(S':List St)(sl':Value):Rl:= {l with x:= {l.x with tr:=S'},sl:=sl'}
theorem RM.trkM{w w':World}{t:Nat}{v:Value}{A B:List Rl}{l:Rl}{S':List St}(h:RM w t v (A++l::B))(hM:TrkM rkT w l.g l.sl S' w'):∃sl',RPost w t v (A++l::B) w' v (A++l.setTr S' sl'::B):=by
 obtain⟨⟨sl',hS,hb⟩,K⟩:=hM;have Z:∀C∈A++l::B,C.g∈fpR t v (A++l::B)/\∀b,C.sl.ownBlock=some b->b∈fpR t v (A++l::B):=λC I=>
  ⟨Bg _ (AJ.2 (.inr (Br.2 ⟨C,I,Ag⟩))),λb hb=>Bg _ (AJ.2 (.inr (Br.2 ⟨C,I,by simp[hb]⟩)))⟩
 have Y:l.g∈fpR t v (A++l::B):=(Z l Ag).1;have hc:Chg w w' (· =l.g):=⟨K.size,λg H hn=>K.block g H hn,λg H=>h.own g (by rw[show g=l.g from H];exact Y)⟩;have e0:∀(C:Rl),fpR t v (A++C::B)=(t::(v.ownBlock.toList++(A.flatMap λl=>l.g::l.sl.ownBlock.toList))++ [C.g])++(C.sl.ownBlock.toList++B.flatMap λl=>l.g::l.sl.ownBlock.toList):=λC=>by simp[fpR]
 have J:=h.nd;rw[e0]at J;have P:∀g∈fpR t v (A++l::B),g<w.heap.size:=h.lt;have hX:∀b,w.heap.size<=b->b∉(t::(v.ownBlock.toList++(A.flatMap λl=>l.g::l.sl.ownBlock.toList))++ [l.g])++B.flatMap λl=>l.g::l.sl.ownBlock.toList:=λb hb U=>by
  have:=P b (by
   rw[e0];simp only[AJ]at U⊢;rcases U with U | U
   ·exact .inl U
   ·exact .inr (.inr U))
  omega
 have aa:=rC J (o':=sl'.ownBlock) (λb e=>(hb b e).imp id (λk=>hX b k.1));have ac:t≠l.g:=λe=>cA ((BJ.1 J).1) (x:=t) Ag (by simp[e])
 have ak:∀b,v.ownBlock=some b->b≠l.g:=λb e1 e2=>cA ((BJ.1 J).1) (x:=b) (by simp[e1]) (by simp[e2])
 have G:∀C∈A++B,C.g≠l.g/\∀b,C.sl.ownBlock=some b->b≠l.g:=λC I=>by
  have key:∀b,b∈C.g::C.sl.ownBlock.toList->b≠l.g:=λb hb e=>by
   rcases AJ.1 I with k | k
   ·exact cA ((BJ.1 J).1) (x:=b) (Bg _ (AJ.2 (.inr (Br.2 ⟨C,k,hb⟩)))) (by simp[e])
   ·exact cA J (x:=b) (by simp[e]) (AJ.2 (.inr (Br.2 ⟨C,k,hb⟩)))
  exact⟨key _ Ag,λb e=>key _ (by simp[e])⟩
 have ab:=(Vp.row stT S'.length (bx S')).fl w' _ hS.row;have V:∀g∈fpR t v (A++l.setTr S' sl'::B),g∈fpR t v (A++l::B)\/(w.heap.size<=g/\bF w' g):=λg H=>by
  rw[e0]at H⊢;simp only[AJ,Option.mem_toList]at H⊢;rcases H with H | H | H
  ·exact .inl (.inl H)
  ·rcases hb g H with k | k
   ·exact .inl (.inr (.inl k))
   ·exact .inr k
  ·exact .inl (.inr (.inr H))
 refine⟨sl',⟨by rw[hc.blk t (P t (by simp[fpR])) ac];exact h.tr,?_,λC I=> ?_,by rw[e0];exact aa,λg H=> ?_⟩,⟨K.os,K.tape,K.output,K.size,λg H hn=>K.block g H (λe=>hn (by rw[show g=l.g from e];exact Y))⟩,λg H=>(V g H).imp id (·.1)⟩
 ·obtain⟨xs,k1,k2⟩:=h.row;have e1:rlQ (A++l.setTr S' sl'::B)=rlQ (A++l::B):=by rw[nz,nz];rfl
  have e2:(A++l.setTr S' sl'::B).length=(A++l::B).length:=Ag
  rw[e1,e2];exact((Vp.ownr rlT 27 (A++l::B).length (rlQ (A++l::B))).ch w w' _ v ⟨xs,k1,k2⟩ hc (λg H=>ak g H)).1
 ·rcases AJ.1 I with k | k
  ·exact(h.trk C (AJ.2 (.inl k))).chg hc (G C (AJ.2 (.inl k))).1 (G C (AJ.2 (.inl k))).2
  ·rcases A3.1 k with rfl | k
   ·exact hS
   ·exact(h.trk C (by simp[k])).chg hc (G C (AJ.2 (.inr k))).1 (G C (AJ.2 (.inr k))).2
 ·by_cases e:g=l.g
  ·subst e;refine .mk' hS.blk (λk n K=> ?_)
   cases k with
   | zero=>simp at K;exact ab.2.2 n K
   | succ k=>simp at K
  ·rcases V g H with k | k
   ·exact(h.own g k).blk (hc.blk g (P g k) e) hc.size
   ·exact k.2
theorem plS_inv{L:List Rl}{c:Nm}{a i:Int}(h:PlS L c a i):(i= -1/\PlNo (trR L) c a)\/∃(A B:List Rl)(l:Rl),i=(A.length:Int)/\L=A++l::B/\l.c=c/\PlAt (trR L) c a A.length l.x:=by
 rcases h with h | ⟨k,l,h1,h2,h3,h4⟩
 ·exact .inl h
 ·obtain⟨A,B,C,G⟩:=eW h2;subst G;exact .inr ⟨A,B,l,h1,C,h3,h4⟩
end
end Go.Proofs.YtggfmklppkioeaaGreat
