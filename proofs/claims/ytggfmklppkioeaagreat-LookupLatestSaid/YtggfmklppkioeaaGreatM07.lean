/- Package pose and its reference, by the executor. -/
import Derived.Test.YtggfmklppkioeaaGreatM06
import Derived.Lib.SliceRun
import Derived.Lib.Overlaps
import Derived.Lib.AppendZerosOnto
import Derived.Lib.JoinLaws
import Derived.Laws.Externs
import Derived.Shelf.RegionOpenPlain
import Derived.MapKept
namespace Go.Proofs.YtggfmklppkioeaaGreat
set_option linter.unusedSimpArgs false
set_option linter.unusedVariables false
set_option maxRecDepth 100000
open Go.RowKit
open _root_.Go renaming Addr → AU,Calls → AC,FuncId → BL,IntKind → C9,Operand → AP,Program → AW,frozen_of_row → En,heap_alloc_new → Bm,heap_alloc_old → EV,wpList_plain → BA
open _root_.Go.Act renaming eval → Dd,put → AI
open _root_.Array renaming getElem?_eq_some_iff → AZ,getElem?_toList → GQ,toList_append → Fc
open _root_.Go.RowKit.Below renaming refl → AF
open _root_.Bool renaming and_eq_true → BN,eq_false_iff → FF
open _root_.Go.Builtin renaming append_ → BM,firstCells → EA,zeroCells → EL
open _root_.Go.Instr renaming lookup → C5,slice → DZ,sliceAt → CI,sliceBound → EP,sliceBounds → EO
open _root_.Int renaming le_refl → CH
open _root_.Go.IntKind renaming i64 → Be,wrap_i64 → Ci
open _root_.List renaming all_eq_true → Ca,append_assoc → CO,append_nil → CP,eq_nil_of_length_eq_zero → CF,find? → Ed,find?_append → D1,find?_some → DT,flatMap_cons → Cw,getElem?_append_left → Bz,getElem?_append_right → Bv,getElem?_drop → Cv,getElem?_eq_getElem → AJ,getElem?_eq_some_iff → AX,getElem?_take → BI,getElem_of_mem → BK,length_append → Bh,length_cons → Bg,length_drop → CB,length_map → Cg,length_take → A9,map_cons → Bq,map_nil → BS,map_toArray → CJ,mem_append → AG,mem_cons → AS,mem_cons_of_mem → Bf,mem_cons_self → Bo,mem_filter → E6,mem_map → Ba,mem_of_find?_eq_some → Dg,mem_of_getElem? → A0,mem_of_mem_drop → EM,mem_of_mem_take → FG,mem_singleton → BD,nil_append → C8,nodup_cons → Bu,pairwise_append → DA,pairwise_cons → Ff,size_toArray → Cb,take_append_drop → Fe
open _root_.Nat renaming add_mul → CU,add_sub_cancel_left → Ez,le_refl → AE,le_trans → AD,lt_trichotomy → Dr,zero_add → A5,zero_le → AY
open _root_.Go.Oper renaming wp → Bk
open _root_.Option renaming some → A3
open _root_.Go.Region renaming wanted → A6
open _root_.Go.Result renaming andThen → AQ,andThen_ok → CM
open _root_.Go.Sem renaming run_bind → AH,run_pure → Bw
open _root_.Go.Proofs.Tryz renaming func186 → EQ,func207 → ER,prog → AB,underlying183 → Cy
open _root_.Go.Value renaming ownBlock → Cx
open _root_.Go.World renaming cell?_of_block → BZ
structure Pq where
 rot:Qq
 pos:Vq
def Pq.cs(p:Pq):List Fq:=[p.rot.w,p.rot.x,p.rot.y,p.rot.z,p.pos.x,p.pos.y,p.pos.z]
structure Pq.ok(d:Nat)(p:Pq):Prop where
 rot:p.rot.ok d
 pos:p.pos.ok d
structure Pq.good(p:Pq):Prop where
 rot:p.rot.good
 pos:p.pos.good
def Pq.id:Pq:=⟨Qq.id,Vq.of 0 0 0⟩
def Pq.zero:Pq:=⟨Qq.zero,⟨.zero,.zero,.zero⟩⟩
def Pq.app(p:Pq)(v:Vq):Vq:=(p.rot.app v).add p.pos
def Pq.mul(a b:Pq):Pq:=⟨a.rot.mul b.rot,a.app b.pos⟩
def Pq.inv(a:Pq):Pq:=⟨a.rot.inv,a.rot.inv.app (a.pos.scale (Fq.ofInt (-1)))⟩
theorem Pq.ok.mono{p:Pq}{d e:Nat}(h:p.ok d)(k:d<=e):p.ok e:=⟨h.rot.mono k,h.pos.mono k⟩
theorem Pq.good.app{p:Pq}{v:Vq}(h:p.good)(k:v.good):(p.app v).good:=(pS h.rot k).add h.pos
variable{a:Pq}
theorem Pq.good.mul{b:Pq}(h:a.good)(k:b.good):(a.mul b).good:=⟨fo h.rot k.rot,h.app k.pos⟩
theorem Pq.good.inv(h:a.good):a.inv.good:=⟨aS h.rot,pS (aS h.rot) (h.pos.scale (aA _))⟩
theorem Pq.good.id:Pq.id.good:=⟨oZ,Vq.good.of 0 0 0⟩
theorem Pq.ok.app{p:Pq}{v:Vq}{d e:Nat}(h:p.ok d)(k:v.ok e)(g:p.good):(p.app v).ok (700*(d+e)+300):=((h.rot.app k g.rot).add h.pos).mono no
theorem Pq.ok.id:Pq.id.ok 2:=⟨sa,tF it it it it it it⟩
abbrev aR(w:World)(v:Value)(p:Pq):Prop:=IsL w v [p.rot.w.raw,p.rot.x.raw,p.rot.y.raw,p.rot.z.raw,p.pos.x.raw,p.pos.y.raw,p.pos.z.raw]
variable{xs:List Fq}{ys:Rho}{B:Blk}{w:World}{v:Value}{ks:List Nat}
theorem rO2(h:aR w v a)(d:AtL xs ks [a.rot.w,a.rot.x,a.rot.y,a.rot.z,a.pos.x,a.pos.y,a.pos.z]:=by exact⟨rfl,rfl,rfl,rfl,rfl,rfl,rfl,trivial⟩):(row ks).holds (frs xs++ys) B w v:=(af d).2 h
theorem rO1(h:(row ks).holds (frs xs++ys) B w v)(d:AtL xs ks [a.rot.w,a.rot.x,a.rot.y,a.rot.z,a.pos.x,a.pos.y,a.pos.z]:=by exact⟨rfl,rfl,rfl,rfl,rfl,rfl,rfl,trivial⟩):aR w v a:=(af d).1 h
abbrev jt(W:World)(p:Pq)(e:Ending)(w':World):Prop:=RetL W [p.rot.w.raw,p.rot.x.raw,p.rot.y.raw,p.rot.z.raw,p.pos.x.raw,p.pos.y.raw,p.pos.z.raw] e w'
abbrev tJ(W:World)(p:Pq)(c:Int)(e:Ending)(w':World):Prop:=RetLE W [p.rot.w.raw,p.rot.x.raw,p.rot.y.raw,p.rot.z.raw,p.pos.x.raw,p.pos.y.raw,p.pos.z.raw] c e w'
def xvEqual1X(a:Vq)(b:Vq):List Fq:=[a.x,a.y,a.z,b.x,b.y,b.z]
theorem q_vEqual1(va vb:Value)(a:Vq)(b:Vq)(w:World)(ia:bX w va a)(H:bX w vb b)(ha:a.ok 100000000)(hb:b.ok 100000000)(C:a=b)(F:a.good)(G:b.good):
  AC AB 27 #[va,vb] w λe w'=>bI w (.bool true) e w':=by
 exact(cR0 (xvEqual1X a b) [row [0,1,2],row [3,4,5]] [va,vb] (.v (.one (.b true))) (il3 (bu 0 3 rfl rfl (li ((bn F.x G.x).2 (congrArg Vq.x C))) (ha.x.mono it) (hb.x.mono it)) (bu 1 4 rfl rfl (li ((bn F.y G.y).2 (congrArg Vq.y C))) (ha.y.mono it) (hb.y.mono it)) (bu 2 5 rfl rfl (li ((bn F.z G.z).2 (congrArg Vq.z C))) (ha.z.mono it) (hb.z.mono it))) Tryz.func27 ⟨rV2 ia,⟨rV2 H,trivial⟩⟩).mono mMr
theorem I_vEqual1(a b:Vq)(C kb:List Nat)(F:AtL xs C [a.x,a.y,a.z])(G:AtL xs kb [b.x,b.y,b.z])(ha:a.ok 100000000)(hb:b.ok 100000000)(H:a=b)(I:a.good)(J:b.good):OkI xs ys ⟨27,[row C,row kb],.v (.one (.b true))⟩:=
 ⟨ah Tryz.func27 rfl rfl,λB w vs K h=>by
  match vs,h with
  | [va,vb],h=>
   refine(q_vEqual1 va vb a b w ((af F).1 h.1) ((af G).1 h.2.1) ha hb H I J).mono ?_;rintro e w' ⟨rfl,h2⟩;exact⟨_,rfl,rfl,h2⟩⟩
def xvEqual0X(a:Vq)(b:Vq):List Fq:=[a.x,a.y,a.z,b.x,b.y,b.z]
def yX(a:Vq)(b:Vq):List Fq:=[a.x,a.y,a.z,b.x,b.y,b.z]
def yY(a:Vq)(b:Vq):List Fq:=[a.x,a.y,a.z,b.x,b.y,b.z]
theorem q_vEqual0(va vb:Value)(a:Vq)(b:Vq)(w:World)(ia:bX w va a)(G:bX w vb b)(ha:a.ok 100000000)(hb:b.ok 100000000)(H:a≠b)(C:a.good)(F:b.good):
  AC AB 27 #[va,vb] w λe w'=>bI w (.bool false) e w':=by
 by_cases c0:a.x=b.x
 ·by_cases c1:a.y=b.y
  ·by_cases c2:a.z=b.z
   ·exact absurd (by cases a;cases b;simp only at c0 c1 c2;subst c0 c1 c2;rfl) H
   ·exact(cR1 (xvEqual0X a b) [.val (.int .i64 (a.z.cmp b.z))] [row [0,1,2],row [3,4,5]] [va,vb] (.v (.one (.b false))) (il3 (bu 0 3 rfl rfl (li ((bn C.x F.x).2 c0)) (ha.x.mono it) (hb.x.mono it)) (bu 1 4 rfl rfl (li ((bn C.y F.y).2 c1)) (ha.y.mono it) (hb.y.mono it)) (bu 2 5 rfl rfl (lr 18 rfl) (ha.z.mono it) (hb.z.mono it))) (aj (tn false 0 (a.z.cmp b.z) 18 (t:=3) rfl (jK (mt (bn C.z F.z).1 c2))) (az)) Tryz.func27 ⟨rV2 ia,⟨rV2 G,trivial⟩⟩).mono mMr
  ·exact(cR1 (yX a b) [.val (.int .i64 (a.y.cmp b.y))] [row [0,1,2],row [3,4,5]] [va,vb] (.v (.one (.b false))) (il2 (bu 0 3 rfl rfl (li ((bn C.x F.x).2 c0)) (ha.x.mono it) (hb.x.mono it)) (bu 1 4 rfl rfl (lr 18 rfl) (ha.y.mono it) (hb.y.mono it))) (aj (tn false 0 (a.y.cmp b.y) 18 (t:=3) rfl (jK (mt (bn C.y F.y).1 c1))) (az)) Tryz.func27 ⟨rV2 ia,⟨rV2 G,trivial⟩⟩).mono mMr
 ·exact(cR1 (yY a b) [.val (.int .i64 (a.x.cmp b.x))] [row [0,1,2],row [3,4,5]] [va,vb] (.v (.one (.b false))) (il1 (bu 0 3 rfl rfl (lr 18 rfl) (ha.x.mono it) (hb.x.mono it))) (aj (tn false 0 (a.x.cmp b.x) 18 (t:=3) rfl (jK (mt (bn C.x F.x).1 c0))) (az)) Tryz.func27 ⟨rV2 ia,⟨rV2 G,trivial⟩⟩).mono mMr
theorem I_vEqual0(a b:Vq)(C kb:List Nat)(F:AtL xs C [a.x,a.y,a.z])(G:AtL xs kb [b.x,b.y,b.z])(ha:a.ok 100000000)(hb:b.ok 100000000)(H:a≠b)(I:a.good)(J:b.good):OkI xs ys ⟨27,[row C,row kb],.v (.one (.b false))⟩:=
 ⟨ah Tryz.func27 rfl rfl,λB w vs K h=>by
  match vs,h with
  | [va,vb],h=>
   refine(q_vEqual0 va vb a b w ((af F).1 h.1) ((af G).1 h.2.1) ha hb H I J).mono ?_;rintro e w' ⟨rfl,h2⟩;exact⟨_,rfl,rfl,h2⟩⟩
def aaJ(a:Vq)(b:Vq)(k:Fq):List Fq:=[a.x,a.y,a.z,b.x,b.y,b.z,k,(b.sub a).x,(b.sub a).y,(b.sub a).z,((b.sub a).scale k).x,((b.sub a).scale k).y,((b.sub a).scale k).z,(a.add ((b.sub a).scale k)).x,(a.add ((b.sub a).scale k)).y,(a.add ((b.sub a).scale k)).z]
theorem q_vLerp(va vb C:Value)(a:Vq)(b:Vq)(k:Fq)(w:World)(ia:bX w va a)(G:bX w vb b)(H:IsQ w C k)(ha:a.ok 10000000)(hb:b.ok 10000000)(F:k.ok 10000000):
  AC AB 217 #[va,vb,C] w λe w'=>dt w (a.lerp b k) e w':=by
 refine(cR0 (aaJ a b k) [row [0,1,2],row [3,4,5],fr 6] [va,vb,C] (.v (row [13,14,15])) (il3 (I_vSub b a [3,4,5] [0,1,2] [7,8,9] Ac Ac Ac (hb.mono it) (ha.mono it)) (dG (b.sub a) 6 [7,8,9] [10,11,12] Ac rfl Ac ((hb.sub ha).mono it) (F.mono it)) (nW a ((b.sub a).scale k) [0,1,2] [10,11,12] [13,14,15] Ac Ac Ac (ha.mono it) (((hb.sub ha).scale F).mono it))) Tryz.func217 ⟨rV2 ia,⟨rV2 G,⟨(aw 6 (aaJ a b k) rfl).2 H,trivial⟩⟩⟩).mono ?_;rintro e w' ⟨v,rfl,h1,h2⟩;exact⟨v,rfl,rV1 h1,h2⟩
theorem I_vLerp(a b:Vq)(H:Nat)(I kb kr:List Nat){k:Fq}(J:AtL xs I [a.x,a.y,a.z])(K:AtL xs kb [b.x,b.y,b.z])(P:xs[H]? =some k)(U:AtL xs kr [(a.lerp b k).x,(a.lerp b k).y,(a.lerp b k).z])(ha:a.ok 10000000)(hb:b.ok 10000000)(V:k.ok 10000000):OkI xs ys ⟨217,[row I,row kb,fr H],.v (row kr)⟩:=
 mI3 Tryz.func217 λC F G=>(q_vLerp _ _ _ a b k _ ((af J).1 C) ((af K).1 F) ((aw _ _ P).1 G) ha hb V).mono (mMo λh=>(af U).2 h)
def xvValidX(a:Vq):List Fq:=[a.x,a.y,a.z]
theorem q_vValid(va:Value)(a:Vq)(w:World)(ia:bX w va a)(ha:a.ok 1000000)(C:a.good):
  AC AB 182 #[va] w λe w'=>bI w (.bool true) e w':=by
 exact(cR0 (xvValidX a) [row [0,1,2]] [va] (.v (.one (.b true))) (il3 (aK 0 (.b true) rfl (lb C.x) (ha.x.mono it)) (aK 1 (.b true) rfl (lb C.y) (ha.y.mono it)) (aK 2 (.b true) rfl (lb C.z) (ha.z.mono it))) Tryz.func182 ⟨rV2 ia,trivial⟩).mono mMr
theorem I_vValid(a:Vq)(C:List Nat)(F:AtL xs C [a.x,a.y,a.z])(ha:a.ok 1000000)(G:a.good):OkI xs ys ⟨182,[row C],.v (.one (.b true))⟩:=
 ⟨ah Tryz.func182 rfl rfl,λB w vs H h=>by
  match vs,h with
  | [va],h=>
   refine(q_vValid va a w ((af F).1 h.1) ha G).mono ?_;rintro e w' ⟨rfl,h2⟩;exact⟨_,rfl,rfl,h2⟩⟩
def xr4AddX(a:Vq)(b:Vq):List Fq:=[a.x,a.y,a.z,b.x,b.y,b.z,(a.x.add b.x),(a.y.add b.y),(a.z.add b.z)]
theorem q_r4Add(va vb:Value)(a:Vq)(b:Vq)(w:World)(ia:bX w va a)(C:bX w vb b)(ha:a.ok 100000000)(hb:b.ok 100000000):
  AC AB 270 #[va,vb] w λe w'=>dt w (a.add b) e w':=by
 exact(cR0 (xr4AddX a b) [row [0,1,2],row [3,4,5]] [va,vb] (.v (row [6,7,8])) (il3 (jI 0 3 6 rfl rfl rfl (ha.x.mono it) (hb.x.mono it)) (jI 1 4 7 rfl rfl rfl (ha.y.mono it) (hb.y.mono it)) (jI 2 5 8 rfl rfl rfl (ha.z.mono it) (hb.z.mono it))) Tryz.func270 ⟨rV2 ia,⟨rV2 C,trivial⟩⟩).mono (mMo λh=>rV1 h)
theorem I_r4Add(a b:Vq)(G kb kr:List Nat)(H:AtL xs G [a.x,a.y,a.z])(I:AtL xs kb [b.x,b.y,b.z])(J:AtL xs kr [(a.add b).x,(a.add b).y,(a.add b).z])(ha:a.ok 100000000)(hb:b.ok 100000000):OkI xs ys ⟨270,[row G,row kb],.v (row kr)⟩:=
 mI2 Tryz.func270 λC F=>(q_r4Add _ _ a b _ ((af H).1 C) ((af I).1 F) ha hb).mono (mMo λh=>(af J).2 h)
def xr4SubX(a:Vq)(b:Vq):List Fq:=[a.x,a.y,a.z,b.x,b.y,b.z,(a.x.sub b.x),(a.y.sub b.y),(a.z.sub b.z)]
theorem q_r4Sub(va vb:Value)(a:Vq)(b:Vq)(w:World)(ia:bX w va a)(C:bX w vb b)(ha:a.ok 100000000)(hb:b.ok 100000000):
  AC AB 272 #[va,vb] w λe w'=>dt w (a.sub b) e w':=by
 exact(cR0 (xr4SubX a b) [row [0,1,2],row [3,4,5]] [va,vb] (.v (row [6,7,8])) (il3 (lh 0 3 6 rfl rfl rfl (ha.x.mono it) (hb.x.mono it)) (lh 1 4 7 rfl rfl rfl (ha.y.mono it) (hb.y.mono it)) (lh 2 5 8 rfl rfl rfl (ha.z.mono it) (hb.z.mono it))) Tryz.func272 ⟨rV2 ia,⟨rV2 C,trivial⟩⟩).mono (mMo λh=>rV1 h)
theorem I_r4Sub(a b:Vq)(G kb kr:List Nat)(H:AtL xs G [a.x,a.y,a.z])(I:AtL xs kb [b.x,b.y,b.z])(J:AtL xs kr [(a.sub b).x,(a.sub b).y,(a.sub b).z])(ha:a.ok 100000000)(hb:b.ok 100000000):OkI xs ys ⟨272,[row G,row kb],.v (row kr)⟩:=
 mI2 Tryz.func272 λC F=>(q_r4Sub _ _ a b _ ((af H).1 C) ((af I).1 F) ha hb).mono (mMo λh=>(af J).2 h)
def sj(a:Vq)(k:Fq):List Fq:=[a.x,a.y,a.z,k,(a.x.mul k),(a.y.mul k),(a.z.mul k)]
theorem q_r4Scale(va F:Value)(a:Vq)(k:Fq)(w:World)(ia:bX w va a)(G:IsQ w F k)(ha:a.ok 100000000)(C:k.ok 100000000):
  AC AB 271 #[va,F] w λe w'=>dt w (a.scale k) e w':=by
 exact(cR0 (sj a k) [row [0,1,2],fr 3] [va,F] (.v (row [4,5,6])) (il3 (dE 0 3 4 rfl rfl rfl (ha.x.mono it) (C.mono it)) (dE 1 3 5 rfl rfl rfl (ha.y.mono it) (C.mono it)) (dE 2 3 6 rfl rfl rfl (ha.z.mono it) (C.mono it))) Tryz.func271 ⟨rV2 ia,⟨(aw 3 (sj a k) rfl).2 G,trivial⟩⟩).mono (mMo λh=>rV1 h)
theorem I_r4Scale(a:Vq)(G:Nat)(H kr:List Nat){k:Fq}(I:AtL xs H [a.x,a.y,a.z])(J:xs[G]? =some k)(K:AtL xs kr [(a.scale k).x,(a.scale k).y,(a.scale k).z])(ha:a.ok 100000000)(P:k.ok 100000000):OkI xs ys ⟨271,[row H,fr G],.v (row kr)⟩:=
 mI2 Tryz.func271 λC F=>(q_r4Scale _ _ a k _ ((af I).1 C) ((aw _ _ J).1 F) ha P).mono (mMo λh=>(af K).2 h)
def yZ(a:Vq)(b:Vq):List Fq:=[a.x,a.y,a.z,b.x,b.y,b.z]
theorem y6(va vb:Value)(a:Vq)(b:Vq)(w:World)(ia:bX w va a)(F:bX w vb b)(ha:a.ok 1000000000)(hb:b.ok 1000000000)(C:a=b):
  AC AB 65 #[va,vb] w λe w'=>bI w (.bool true) e w':=by
 exact(cR0 (yZ a b) [row [0,1,2],row [3,4,5]] [va,vb] (.v (.one (.b true))) (il3 (bm 0 3 (.b true) rfl rfl (lb (Fq.same_iff.2 (congrArg Vq.x C))) (ha.x.mono it).p (ha.x.mono it).q (hb.x.mono it).p (hb.x.mono it).q) (bm 1 4 (.b true) rfl rfl (lb (Fq.same_iff.2 (congrArg Vq.y C))) (ha.y.mono it).p (ha.y.mono it).q (hb.y.mono it).p (hb.y.mono it).q) (bm 2 5 (.b true) rfl rfl (lb (Fq.same_iff.2 (congrArg Vq.z C))) (ha.z.mono it).p (ha.z.mono it).q (hb.z.mono it).p (hb.z.mono it).q)) Tryz.func65 ⟨rV2 ia,⟨rV2 F,trivial⟩⟩).mono mMr
theorem y7(a b:Vq)(C kb:List Nat)(F:AtL xs C [a.x,a.y,a.z])(G:AtL xs kb [b.x,b.y,b.z])(ha:a.ok 1000000000)(hb:b.ok 1000000000)(H:a=b):OkI xs ys ⟨65,[row C,row kb],.v (.one (.b true))⟩:=
 ⟨ah Tryz.func65 rfl rfl,λB w vs I h=>by
  match vs,h with
  | [va,vb],h=>
   refine(y6 va vb a b w ((af F).1 h.1) ((af G).1 h.2.1) ha hb H).mono ?_;rintro e w' ⟨rfl,h2⟩;exact⟨_,rfl,rfl,h2⟩⟩
def y8(a:Vq)(b:Vq):List Fq:=[a.x,a.y,a.z,b.x,b.y,b.z]
def wi(a:Vq)(b:Vq):List Fq:=[a.x,a.y,a.z,b.x,b.y,b.z]
def wj(a:Vq)(b:Vq):List Fq:=[a.x,a.y,a.z,b.x,b.y,b.z]
theorem y9(va vb:Value)(a:Vq)(b:Vq)(w:World)(ia:bX w va a)(C:bX w vb b)(ha:a.ok 1000000000)(hb:b.ok 1000000000)(F:a≠b):
  AC AB 65 #[va,vb] w λe w'=>bI w (.bool false) e w':=by
 by_cases c0:a.x=b.x
 ·by_cases c1:a.y=b.y
  ·by_cases c2:a.z=b.z
   ·exact absurd (by cases a;cases b;simp only at c0 c1 c2;subst c0 c1 c2;rfl) F
   ·exact(cR0 (y8 a b) [row [0,1,2],row [3,4,5]] [va,vb] (.v (.one (.b false))) (il3 (bm 0 3 (.b true) rfl rfl (lb (Fq.same_iff.2 c0)) (ha.x.mono it).p (ha.x.mono it).q (hb.x.mono it).p (hb.x.mono it).q) (bm 1 4 (.b true) rfl rfl (lb (Fq.same_iff.2 c1)) (ha.y.mono it).p (ha.y.mono it).q (hb.y.mono it).p (hb.y.mono it).q) (bm 2 5 (.b false) rfl rfl (lb (fN c2)) (ha.z.mono it).p (ha.z.mono it).q (hb.z.mono it).p (hb.z.mono it).q)) Tryz.func65 ⟨rV2 ia,⟨rV2 C,trivial⟩⟩).mono mMr
  ·exact(cR0 (wi a b) [row [0,1,2],row [3,4,5]] [va,vb] (.v (.one (.b false))) (il2 (bm 0 3 (.b true) rfl rfl (lb (Fq.same_iff.2 c0)) (ha.x.mono it).p (ha.x.mono it).q (hb.x.mono it).p (hb.x.mono it).q) (bm 1 4 (.b false) rfl rfl (lb (fN c1)) (ha.y.mono it).p (ha.y.mono it).q (hb.y.mono it).p (hb.y.mono it).q)) Tryz.func65 ⟨rV2 ia,⟨rV2 C,trivial⟩⟩).mono mMr
 ·exact(cR0 (wj a b) [row [0,1,2],row [3,4,5]] [va,vb] (.v (.one (.b false))) (il1 (bm 0 3 (.b false) rfl rfl (lb (fN c0)) (ha.x.mono it).p (ha.x.mono it).q (hb.x.mono it).p (hb.x.mono it).q)) Tryz.func65 ⟨rV2 ia,⟨rV2 C,trivial⟩⟩).mono mMr
theorem za(a b:Vq)(C kb:List Nat)(F:AtL xs C [a.x,a.y,a.z])(G:AtL xs kb [b.x,b.y,b.z])(ha:a.ok 1000000000)(hb:b.ok 1000000000)(H:a≠b):OkI xs ys ⟨65,[row C,row kb],.v (.one (.b false))⟩:=
 ⟨ah Tryz.func65 rfl rfl,λB w vs I h=>by
  match vs,h with
  | [va,vb],h=>
   refine(y9 va vb a b w ((af F).1 h.1) ((af G).1 h.2.1) ha hb H).mono ?_;rintro e w' ⟨rfl,h2⟩;exact⟨_,rfl,rfl,h2⟩⟩
def wk(a:Vq)(b:Vq)(k:Fq):List Fq:=[a.x,a.y,a.z,b.x,b.y,b.z,k,(b.sub a).x,(b.sub a).y,(b.sub a).z,((b.sub a).scale k).x,((b.sub a).scale k).y,((b.sub a).scale k).z,(a.add ((b.sub a).scale k)).x,(a.add ((b.sub a).scale k)).y,(a.add ((b.sub a).scale k)).z]
theorem q_r4Lerp(va vb C:Value)(a:Vq)(b:Vq)(k:Fq)(w:World)(ia:bX w va a)(G:bX w vb b)(H:IsQ w C k)(ha:a.ok 10000000)(hb:b.ok 10000000)(F:k.ok 10000000):
  AC AB 220 #[va,vb,C] w λe w'=>dt w (a.lerp b k) e w':=by
 refine(cR0 (wk a b k) [row [0,1,2],row [3,4,5],fr 6] [va,vb,C] (.v (row [13,14,15])) (il3 (I_r4Sub b a [3,4,5] [0,1,2] [7,8,9] Ac Ac Ac (hb.mono it) (ha.mono it)) (I_r4Scale (b.sub a) 6 [7,8,9] [10,11,12] Ac rfl Ac ((hb.sub ha).mono it) (F.mono it)) (I_r4Add a ((b.sub a).scale k) [0,1,2] [10,11,12] [13,14,15] Ac Ac Ac (ha.mono it) (((hb.sub ha).scale F).mono it))) Tryz.func220 ⟨rV2 ia,⟨rV2 G,⟨(aw 6 (wk a b k) rfl).2 H,trivial⟩⟩⟩).mono ?_;rintro e w' ⟨v,rfl,h1,h2⟩;exact⟨v,rfl,rV1 h1,h2⟩
theorem I_r4Lerp(a b:Vq)(H:Nat)(I kb kr:List Nat){k:Fq}(J:AtL xs I [a.x,a.y,a.z])(K:AtL xs kb [b.x,b.y,b.z])(P:xs[H]? =some k)(U:AtL xs kr [(a.lerp b k).x,(a.lerp b k).y,(a.lerp b k).z])(ha:a.ok 10000000)(hb:b.ok 10000000)(V:k.ok 10000000):OkI xs ys ⟨220,[row I,row kb,fr H],.v (row kr)⟩:=
 mI3 Tryz.func220 λC F G=>(q_r4Lerp _ _ _ a b k _ ((af J).1 C) ((af K).1 F) ((aw _ _ P).1 G) ha hb V).mono (mMo λh=>(af U).2 h)
def xr4ValidX(a:Vq):List Fq:=[a.x,a.y,a.z]
theorem q_r4Valid(va:Value)(a:Vq)(w:World)(ia:bX w va a)(ha:a.ok 1000000)(C:a.good):
  AC AB 209 #[va] w λe w'=>bI w (.bool true) e w':=by
 exact(cR0 (xr4ValidX a) [row [0,1,2]] [va] (.v (.one (.b true))) (il3 (dp 0 (.b true) rfl (lb C.x) (ha.x.mono it)) (dp 1 (.b true) rfl (lb C.y) (ha.y.mono it)) (dp 2 (.b true) rfl (lb C.z) (ha.z.mono it))) Tryz.func209 ⟨rV2 ia,trivial⟩).mono mMr
theorem I_r4Valid(a:Vq)(C:List Nat)(F:AtL xs C [a.x,a.y,a.z])(ha:a.ok 1000000)(G:a.good):OkI xs ys ⟨209,[row C],.v (.one (.b true))⟩:=
 ⟨ah Tryz.func209 rfl rfl,λB w vs H h=>by
  match vs,h with
  | [va],h=>
   refine(q_r4Valid va a w ((af F).1 h.1) ha G).mono ?_;rintro e w' ⟨rfl,h2⟩;exact⟨_,rfl,rfl,h2⟩⟩
def xvO0_0_0X:List Fq:=[(Fq.ofInt 0)]
theorem q_vO0_0_0(w:World):
  AC AB 23 #[.int .i64 (0),.int .i64 (0),.int .i64 (0)] w λe w'=>dt w (Vq.of 0 0 0) e w':=by
 exact(cR0 (xvO0_0_0X) [.one (.i .i64 0),.one (.i .i64 0),.one (.i .i64 0)] [.int .i64 (0),.int .i64 (0),.int .i64 (0)] (.v (row [0,0,0])) (il1 (dm 0 rfl it it)) Tryz.func23 ⟨rfl,⟨rfl,⟨rfl,trivial⟩⟩⟩).mono (mMo λh=>rV1 h)
theorem I_vO0_0_0(kr:List Nat)(C:AtL xs kr [(Vq.of 0 0 0).x,(Vq.of 0 0 0).y,(Vq.of 0 0 0).z]):OkI xs ys ⟨23,[.one (.i .i64 0),.one (.i .i64 0),.one (.i .i64 0)],.v (row kr)⟩:=
 ⟨ah Tryz.func23 rfl rfl,λB w vs G h=>by
  match vs,h with
  | [vx,vy,vz],h=>
   have ex:vx= .int .i64 (0):=h.1;subst ex;have ey:vy= .int .i64 (0):=h.2.1;subst ey;have F:vz= .int .i64 (0):=h.2.2.1;subst F;refine(q_vO0_0_0 w).mono ?_;exact mMo λh=>(af C).2 h⟩
def xrO0_0_0X:List Fq:=[(Fq.ofInt 0)]
theorem q_rO0_0_0(w:World):
  AC AB 64 #[.int .i64 (0),.int .i64 (0),.int .i64 (0)] w λe w'=>dt w (Vq.of 0 0 0) e w':=by
 exact(cR0 (xrO0_0_0X) [.one (.i .i64 0),.one (.i .i64 0),.one (.i .i64 0)] [.int .i64 (0),.int .i64 (0),.int .i64 (0)] (.v (row [0,0,0])) (il1 (jJ 0 rfl it it)) Tryz.func64 ⟨rfl,⟨rfl,⟨rfl,trivial⟩⟩⟩).mono (mMo λh=>rV1 h)
theorem I_rO0_0_0(kr:List Nat)(C:AtL xs kr [(Vq.of 0 0 0).x,(Vq.of 0 0 0).y,(Vq.of 0 0 0).z]):OkI xs ys ⟨64,[.one (.i .i64 0),.one (.i .i64 0),.one (.i .i64 0)],.v (row kr)⟩:=
 ⟨ah Tryz.func64 rfl rfl,λB w vs G h=>by
  match vs,h with
  | [vx,vy,vz],h=>
   have ex:vx= .int .i64 (0):=h.1;subst ex;have ey:vy= .int .i64 (0):=h.2.1;subst ey;have F:vz= .int .i64 (0):=h.2.2.1;subst F;refine(q_rO0_0_0 w).mono ?_;exact mMo λh=>(af C).2 h⟩
def xpoOfX(a:Pq):List Fq:=a.cs
theorem q_poOf(va:Value)(a:Pq)(w:World)(ia:aR w va a)(ha:a.ok 1000000000):
  AC AB 76 #[va] w λe w'=>jt w a e w':=by
 exact(cR0 (xpoOfX a) [row [0,1,2,3,4,5,6]] [va] (.v (row [0,1,2,3,4,5,6])) (dD) Tryz.func76 ⟨rO2 ia,trivial⟩).mono (mMo λh=>rO1 h)
theorem I_poOf(a:Pq)(F kr:List Nat)(G:AtL xs F a.cs)(H:AtL xs kr a.cs)(ha:a.ok 1000000000):OkI xs ys ⟨76,[row F],.v (row kr)⟩:=
 mI1 Tryz.func76 λC=>(q_poOf _ a _ ((af G).1 C) ha).mono (mMo λh=>(af H).2 h)
def xpoPoseX(a:Pq):List Fq:=a.cs
theorem q_poPose(va:Value)(a:Pq)(w:World)(ia:aR w va a)(ha:a.ok 1000000000):
  AC AB 78 #[va] w λe w'=>jt w a e w':=by
 exact(cR0 (xpoPoseX a) [row [0,1,2,3,4,5,6]] [va] (.v (row [0,1,2,3,4,5,6])) (dD) Tryz.func78 ⟨rO2 ia,trivial⟩).mono (mMo λh=>rO1 h)
theorem mH(a:Pq)(F kr:List Nat)(G:AtL xs F a.cs)(H:AtL xs kr a.cs)(ha:a.ok 1000000000):OkI xs ys ⟨78,[row F],.v (row kr)⟩:=
 mI1 Tryz.func78 λC=>(q_poPose _ a _ ((af G).1 C) ha).mono (mMo λh=>(af H).2 h)
def xpoRotX(q:Qq)(a:Vq):List Fq:=(q.cs++([a.x,a.y,a.z,(q.app a).x,(q.app a).y,(q.app a).z]))
theorem q_poRot(vq va:Value)(q:Qq)(a:Vq)(w:World)(G:cM w vq q)(ia:bX w va a)(F:q.ok 300000)(ha:a.ok 300000)(C:q.good):
  AC AB 117 #[vq,va] w λe w'=>dt w (q.app a) e w':=by
 exact(cR0 (xpoRotX q a) [row [0,1,2,3],row [4,5,6]] [vq,va] (.v (row [7,8,9])) (il1 (I_fApp a [4,5,6] [0,1,2,3] [7,8,9] q Ab Ac Ac (F.mono it) (ha.mono it) C)) Tryz.func117 ⟨rQ2 G,⟨rV2 ia,trivial⟩⟩).mono (mMo λh=>rV1 h)
theorem aaK(a:Vq)(G H kr:List Nat)(q:Qq)(J:AtL xs H q.cs)(I:AtL xs G [a.x,a.y,a.z])(K:AtL xs kr [(q.app a).x,(q.app a).y,(q.app a).z])(U:q.ok 300000)(ha:a.ok 300000)(P:q.good):OkI xs ys ⟨117,[row H,row G],.v (row kr)⟩:=
 mI2 Tryz.func117 λC F=>(q_poRot _ _ q a _ ((af J).1 C) ((af I).1 F) U ha P).mono (mMo λh=>(af K).2 h)
def xpoBackX(q:Qq):List Fq:=(q.cs++(q.inv.cs))
theorem q_poBack(vq:Value)(q:Qq)(w:World)(G:cM w vq q)(F:q.ok 100000)(C:q.good):
  AC AB 116 #[vq] w λe w'=>jL w q.inv e w':=by
 exact(cR0 (xpoBackX q) [row [0,1,2,3]] [vq] (.v (row [4,5,6,7])) (il1 (tE [0,1,2,3] [4,5,6,7] q Ab Ab (F.mono it) C)) Tryz.func116 ⟨rQ2 G,trivial⟩).mono (mMo λh=>rQ1 h)
theorem I_poBack(F kr:List Nat)(q:Qq)(G:AtL xs F q.cs)(H:AtL xs kr q.inv.cs)(J:q.ok 100000)(I:q.good):OkI xs ys ⟨116,[row F],.v (row kr)⟩:=
 mI1 Tryz.func116 λC=>(q_poBack _ q _ ((af G).1 C) J I).mono (mMo λh=>(af H).2 h)
def xpoImgX(a:Pq)(x:Vq):List Fq:=(a.cs++([x.x,x.y,x.z,(a.rot.app x).x,(a.rot.app x).y,(a.rot.app x).z,((a.rot.app x).add a.pos).x,((a.rot.app x).add a.pos).y,((a.rot.app x).add a.pos).z]))
theorem q_poImg(va C:Value)(a:Pq)(x:Vq)(w:World)(ia:aR w va a)(ix:bX w C x)(ha:a.ok 100000)(G:x.ok 100000)(F:a.good)(H:x.good):
  AC AB 77 #[va,C] w λe w'=>dt w (a.app x) e w':=by
 exact(cR0 (xpoImgX a x) [row [0,1,2,3,4,5,6],row [7,8,9]] [va,C] (.v (row [13,14,15])) (il2 (aaK x [7,8,9] [0,1,2,3] [10,11,12] a.rot Ab Ac Ac (ha.rot.mono it) (G.mono it) F.rot) (nW (a.rot.app x) a.pos [10,11,12] [4,5,6] [13,14,15] Ac Ac Ac ((ha.rot.app G F.rot).mono it) (ha.pos.mono it))) Tryz.func77 ⟨rO2 ia,⟨rV2 ix,trivial⟩⟩).mono (mMo λh=>rV1 h)
theorem I_poImg(a:Pq)(G kr H:List Nat)(x:Vq)(I:AtL xs G a.cs)(K:AtL xs H [x.x,x.y,x.z])(J:AtL xs kr [(a.app x).x,(a.app x).y,(a.app x).z])(ha:a.ok 100000)(V:x.ok 100000)(P:a.good)(U:x.good):OkI xs ys ⟨77,[row G,row H],.v (row kr)⟩:=
 mI2 Tryz.func77 λC F=>(q_poImg _ _ a x _ ((af I).1 C) ((af K).1 F) ha V P U).mono (mMo λh=>(af J).2 h)
def xpoMulX(a:Pq)(b:Pq):List Fq:=(a.cs++(b.cs++((a.rot.mul b.rot).cs++([(a.app b.pos).x,(a.app b.pos).y,(a.app b.pos).z]))))
theorem Ae{p:Prop}(h:p:=by exact⟨rfl,rfl,rfl,rfl,rfl,rfl,rfl,trivial⟩):p:=h
theorem tK(va vb:Value)(a:Pq)(b:Pq)(w:World)(ia:aR w va a)(G:aR w vb b)(ha:a.ok 100000)(hb:b.ok 100000)(C:a.good)(F:b.good):
  AC AB 21 #[va,vb] w λe w'=>jt w (a.mul b) e w':=by
 refine(cR0 (xpoMulX a b) [row [0,1,2,3,4,5,6],row [7,8,9,10,11,12,13]] [va,vb] (.v (row [14,15,16,17,18,19,20])) (il4 (o7 [0,1,2,3] [7,8,9,10] [14,15,16,17] a.rot b.rot Ab Ab Ab (ha.rot.mono it) (hb.rot.mono it) C.rot F.rot) (I_poOf a [0,1,2,3,4,5,6] [0,1,2,3,4,5,6] Ae Ae (ha.mono it)) (I_poImg a [0,1,2,3,4,5,6] [18,19,20] [11,12,13] b.pos Ae Ac Ac (ha.mono it) (hb.pos.mono it) C F.pos) (mH (Pq.mk (a.rot.mul b.rot) (a.app b.pos)) [14,15,16,17,18,19,20] [14,15,16,17,18,19,20] Ae Ae (⟨⟨(ha.rot.mulg hb.rot C.rot F.rot).w.mono it,(ha.rot.mulg hb.rot C.rot F.rot).x.mono it,(ha.rot.mulg hb.rot C.rot F.rot).y.mono it,(ha.rot.mulg hb.rot C.rot F.rot).z.mono it⟩,⟨(ha.app hb.pos C).x.mono it,(ha.app hb.pos C).y.mono it,(ha.app hb.pos C).z.mono it⟩⟩:Pq.ok 1000000000 (Pq.mk (a.rot.mul b.rot) (a.app b.pos))))) Tryz.func21 ⟨rO2 ia,⟨rO2 G,trivial⟩⟩).mono ?_;rintro e w' ⟨v,rfl,h1,h2⟩;exact⟨v,rfl,rO1 h1,h2⟩
def xpoInvX(a:Pq):List Fq:=(a.cs++(a.rot.inv.cs++([(Fq.ofInt (-1)),(a.pos.scale (Fq.ofInt (-1))).x,(a.pos.scale (Fq.ofInt (-1))).y,(a.pos.scale (Fq.ofInt (-1))).z,(a.rot.inv.app (a.pos.scale (Fq.ofInt (-1)))).x,(a.rot.inv.app (a.pos.scale (Fq.ofInt (-1)))).y,(a.rot.inv.app (a.pos.scale (Fq.ofInt (-1)))).z])))
theorem q_poInv(va:Value)(a:Pq)(w:World)(ia:aR w va a)(ha:a.ok 100000)(C:a.good):
  AC AB 56 #[va] w λe w'=>jt w a.inv e w':=by
 refine(cR0 (xpoInvX a) [row [0,1,2,3,4,5,6]] [va] (.v (row [7,8,9,10,15,16,17])) (il6 (I_poOf a [0,1,2,3,4,5,6] [0,1,2,3,4,5,6] Ae Ae (ha.mono it)) (I_poBack [0,1,2,3] [7,8,9,10] a.rot Ab Ab (ha.rot.mono it) C.rot) (dm 11 rfl it it) (dG a.pos 11 [4,5,6] [12,13,14] Ac rfl Ac (ha.pos.mono it) ((aL (-1) it it).mono it)) (aaK (a.pos.scale (Fq.ofInt (-1))) [12,13,14] [7,8,9,10] [15,16,17] a.rot.inv Ab Ac Ac ((ha.rot.inv C.rot).mono it) ((ha.pos.scale (aL (-1) it it)).mono it) (aS C.rot)) (mH (Pq.mk a.rot.inv (a.rot.inv.app (a.pos.scale (Fq.ofInt (-1))))) [7,8,9,10,15,16,17] [7,8,9,10,15,16,17] Ae Ae (⟨⟨(ha.rot.inv C.rot).w.mono it,(ha.rot.inv C.rot).x.mono it,(ha.rot.inv C.rot).y.mono it,(ha.rot.inv C.rot).z.mono it⟩,⟨((ha.rot.inv C.rot).app (ha.pos.scale (aL (-1) it it)) (aS C.rot)).x.mono it,((ha.rot.inv C.rot).app (ha.pos.scale (aL (-1) it it)) (aS C.rot)).y.mono it,((ha.rot.inv C.rot).app (ha.pos.scale (aL (-1) it it)) (aS C.rot)).z.mono it⟩⟩:Pq.ok 1000000000 (Pq.mk a.rot.inv (a.rot.inv.app (a.pos.scale (Fq.ofInt (-1)))))))) Tryz.func56 ⟨rO2 ia,trivial⟩).mono ?_;rintro e w' ⟨v,rfl,h1,h2⟩;exact⟨v,rfl,rO1 h1,h2⟩
def xpoIdX:List Fq:=(Qq.id.cs++([(Vq.of 0 0 0).x,(Vq.of 0 0 0).y,(Vq.of 0 0 0).z]))
theorem q_poId(w:World):
  AC AB 22 #[] w λe w'=>jt w Pq.id e w':=by
 refine(cR0 (xpoIdX) [] [] (.v (row [0,1,2,3,4,5,6])) (il3 (I_fId [0,1,2,3] Ab) (I_vO0_0_0 [4,5,6] Ac) (mH (Pq.mk Qq.id (Vq.of 0 0 0)) [0,1,2,3,4,5,6] [0,1,2,3,4,5,6] Ae Ae (⟨⟨sa.w.mono it,sa.x.mono it,sa.y.mono it,sa.z.mono it⟩,⟨(tF it it it it it it).x.mono it,(tF it it it it it it).y.mono it,(tF it it it it it it).z.mono it⟩⟩:Pq.ok 1000000000 (Pq.mk Qq.id (Vq.of 0 0 0))))) Tryz.func22 trivial).mono ?_;rintro e w' ⟨v,rfl,h1,h2⟩;exact⟨v,rfl,rO1 h1,h2⟩
def zb(a:Pq)(b:Pq):List Fq:=(a.cs++(b.cs))
theorem zc(va vb:Value)(a:Pq)(b:Pq)(w:World)(ia:aR w va a)(H:aR w vb b)(ha:a.ok 100000000)(hb:b.ok 100000000)(C:a=b)(F:a.good)(G:b.good):
  AC AB 55 #[va,vb] w λe w'=>bI w (.bool true) e w':=by
 exact(cR0 (zb a b) [row [0,1,2,3,4,5,6],row [7,8,9,10,11,12,13]] [va,vb] (.v (.one (.b true))) (il2 (r8 a.rot b.rot [0,1,2,3] [7,8,9,10] Ab Ab (ha.rot.mono it) (hb.rot.mono it) (congrArg Pq.rot C) F.rot.comp G.rot.comp) (I_vEqual1 a.pos b.pos [4,5,6] [11,12,13] Ac Ac (ha.pos.mono it) (hb.pos.mono it) (congrArg Pq.pos C) F.pos G.pos)) Tryz.func55 ⟨rO2 ia,⟨rO2 H,trivial⟩⟩).mono mMr
def zd(a:Pq)(b:Pq):List Fq:=(a.cs++(b.cs))
def wm(a:Pq)(b:Pq):List Fq:=(a.cs++(b.cs))
theorem ze(va vb:Value)(a:Pq)(b:Pq)(w:World)(ia:aR w va a)(G:aR w vb b)(ha:a.ok 100000000)(hb:b.ok 100000000)(H:a≠b)(C:a.good)(F:b.good):
  AC AB 55 #[va,vb] w λe w'=>bI w (.bool false) e w':=by
 by_cases c0:a.rot=b.rot
 ·by_cases c1:a.pos=b.pos
  ·exact absurd (by cases a;cases b;simp only at c0 c1;subst c0 c1;rfl) H
  ·exact(cR0 (zd a b) [row [0,1,2,3,4,5,6],row [7,8,9,10,11,12,13]] [va,vb] (.v (.one (.b false))) (il2 (r8 a.rot b.rot [0,1,2,3] [7,8,9,10] Ab Ab (ha.rot.mono it) (hb.rot.mono it) c0 C.rot.comp F.rot.comp) (I_vEqual0 a.pos b.pos [4,5,6] [11,12,13] Ac Ac (ha.pos.mono it) (hb.pos.mono it) c1 C.pos F.pos)) Tryz.func55 ⟨rO2 ia,⟨rO2 G,trivial⟩⟩).mono mMr
 ·exact(cR0 (wm a b) [row [0,1,2,3,4,5,6],row [7,8,9,10,11,12,13]] [va,vb] (.v (.one (.b false))) (il1 (I_fEqual0 a.rot b.rot [0,1,2,3] [7,8,9,10] Ab Ab (ha.rot.mono it) (hb.rot.mono it) c0 C.rot.comp F.rot.comp)) Tryz.func55 ⟨rO2 ia,⟨rO2 G,trivial⟩⟩).mono mMr
def xpoValidX(a:Pq):List Fq:=a.cs
theorem q_poValid(va:Value)(a:Pq)(w:World)(ia:aR w va a)(ha:a.ok 1000000)(C:a.good):
  AC AB 122 #[va] w λe w'=>bI w (.bool true) e w':=by
 exact(cR0 (xpoValidX a) [row [0,1,2,3,4,5,6]] [va] (.v (.one (.b true))) (il2 (yL [0,1,2,3] a.rot Ab (ha.rot.mono it) C.rot) (I_vValid a.pos [4,5,6] Ac (ha.pos.mono it) C.pos)) Tryz.func122 ⟨rO2 ia,trivial⟩).mono mMr
def xrpIdX:List Fq:=(Qq.id.cs++([(Vq.of 0 0 0).x,(Vq.of 0 0 0).y,(Vq.of 0 0 0).z]))
theorem q_rpId(w:World):
  AC AB 149 #[] w λe w'=>jt w Pq.id e w':=by
 refine(cR0 (xrpIdX) [] [] (.v (row [0,1,2,3,4,5,6])) (il2 (I_rId [0,1,2,3] Ab) (I_rO0_0_0 [4,5,6] Ac)) Tryz.func149 trivial).mono ?_;rintro e w' ⟨v,rfl,h1,h2⟩;exact⟨v,rfl,rO1 h1,h2⟩
theorem zf(kr:List Nat)(C:AtL xs kr Pq.id.cs):OkI xs ys ⟨149,[],.v (row kr)⟩:=
 ⟨ah Tryz.func149 rfl rfl,λB w vs F h=>by
  match vs,h with
  | [],h=>
   refine(q_rpId w).mono ?_;exact mMo λh=>(af C).2 h⟩
def zg(a:Pq)(b:Pq):List Fq:=(a.cs++(b.cs))
theorem pZ(va vb:Value)(a:Pq)(b:Pq)(w:World)(ia:aR w va a)(F:aR w vb b)(ha:a.ok 100000000)(hb:b.ok 100000000)(C:a=b):
  AC AB 45 #[va,vb] w λe w'=>bI w (.bool true) e w':=by
 exact(cR0 (zg a b) [row [0,1,2,3,4,5,6],row [7,8,9,10,11,12,13]] [va,vb] (.v (.one (.b true))) (il2 (r7 a.rot b.rot [0,1,2,3] [7,8,9,10] Ab Ab (ha.rot.mono it) (hb.rot.mono it) (congrArg Pq.rot C)) (y7 a.pos b.pos [4,5,6] [11,12,13] Ac Ac (ha.pos.mono it) (hb.pos.mono it) (congrArg Pq.pos C))) Tryz.func45 ⟨rO2 ia,⟨rO2 F,trivial⟩⟩).mono mMr
theorem p6(a b:Pq)(C kb:List Nat)(F:AtL xs C a.cs)(G:AtL xs kb b.cs)(ha:a.ok 100000000)(hb:b.ok 100000000)(H:a=b):OkI xs ys ⟨45,[row C,row kb],.v (.one (.b true))⟩:=
 ⟨ah Tryz.func45 rfl rfl,λB w vs I h=>by
  match vs,h with
  | [va,vb],h=>
   refine(pZ va vb a b w ((af F).1 h.1) ((af G).1 h.2.1) ha hb H).mono ?_;rintro e w' ⟨rfl,h2⟩;exact⟨_,rfl,rfl,h2⟩⟩
def zh(a:Pq)(b:Pq):List Fq:=(a.cs++(b.cs))
def wn(a:Pq)(b:Pq):List Fq:=(a.cs++(b.cs))
theorem zi(va vb:Value)(a:Pq)(b:Pq)(w:World)(ia:aR w va a)(C:aR w vb b)(ha:a.ok 100000000)(hb:b.ok 100000000)(F:a≠b):
  AC AB 45 #[va,vb] w λe w'=>bI w (.bool false) e w':=by
 by_cases c0:a.rot=b.rot
 ·by_cases c1:a.pos=b.pos
  ·exact absurd (by cases a;cases b;simp only at c0 c1;subst c0 c1;rfl) F
  ·exact(cR0 (zh a b) [row [0,1,2,3,4,5,6],row [7,8,9,10,11,12,13]] [va,vb] (.v (.one (.b false))) (il2 (r7 a.rot b.rot [0,1,2,3] [7,8,9,10] Ab Ab (ha.rot.mono it) (hb.rot.mono it) c0) (za a.pos b.pos [4,5,6] [11,12,13] Ac Ac (ha.pos.mono it) (hb.pos.mono it) c1)) Tryz.func45 ⟨rO2 ia,⟨rO2 C,trivial⟩⟩).mono mMr
 ·exact(cR0 (wn a b) [row [0,1,2,3,4,5,6],row [7,8,9,10,11,12,13]] [va,vb] (.v (.one (.b false))) (il1 (I_rEqual0 a.rot b.rot [0,1,2,3] [7,8,9,10] Ab Ab (ha.rot.mono it) (hb.rot.mono it) c0)) Tryz.func45 ⟨rO2 ia,⟨rO2 C,trivial⟩⟩).mono mMr
def xrpValidX(a:Pq):List Fq:=a.cs
theorem q_rpValid(va:Value)(a:Pq)(w:World)(ia:aR w va a)(ha:a.ok 1000000)(C:a.good):
  AC AB 158 #[va] w λe w'=>bI w (.bool true) e w':=by
 exact(cR0 (xrpValidX a) [row [0,1,2,3,4,5,6]] [va] (.v (.one (.b true))) (il2 (yR [0,1,2,3] a.rot Ab (ha.rot.mono it) C.rot) (I_r4Valid a.pos [4,5,6] Ac (ha.pos.mono it) C.pos)) Tryz.func158 ⟨rO2 ia,trivial⟩).mono mMr
def p7(a:Pq)(b:Pq)(m:Fq):List Fq:=(a.cs++(b.cs++([m]++((a.rot.way (a.rot.inv.mul b.rot) m).cs++([(a.pos.lerp b.pos m).x,(a.pos.lerp b.pos m).y,(a.pos.lerp b.pos m).z])))))
theorem ws(va vb I:Value)(a:Pq)(b:Pq)(m:Fq)(w:World)(ia:aR w va a)(K:aR w vb b)(P:IsQ w I m)(ha:a.ok 100)(hb:b.ok 100)(C:m.ok 100)(F:a.good)(G:b.good)(H:m.valid=true)(J:(a.rot.inv.mul b.rot).w.p≠0):
  AC AB 167 #[va,vb,I] w λe w'=>tJ w (Pq.mk (a.rot.way (a.rot.inv.mul b.rot) m) (a.pos.lerp b.pos m)) 0 e w':=by
 refine(cR0 (p7 a b m) [row [0,1,2,3,4,5,6],row [7,8,9,10,11,12,13],fr 14] [va,vb,I] (.tup [row [15,16,17,18,19,20,21],.one (.i .i64 0)]) (il3 (I_fBtw1 14 [0,1,2,3] [7,8,9,10] [15,16,17,18] a.rot b.rot Ab Ab rfl Ab (ha.rot.mono it) (hb.rot.mono it) (C.mono it) F.rot G.rot H J) (I_vLerp a.pos b.pos 14 [4,5,6] [11,12,13] [19,20,21] Ac Ac rfl Ac (ha.pos.mono it) (hb.pos.mono it) (C.mono it)) (mH (Pq.mk (a.rot.way (a.rot.inv.mul b.rot) m) (a.pos.lerp b.pos m)) [15,16,17,18,19,20,21] [15,16,17,18,19,20,21] Ae Ae (⟨⟨(tG ha.rot hb.rot C F.rot G.rot H).w.mono it,(tG ha.rot hb.rot C F.rot G.rot H).x.mono it,(tG ha.rot hb.rot C F.rot G.rot H).y.mono it,(tG ha.rot hb.rot C F.rot G.rot H).z.mono it⟩,⟨(ha.pos.lerp hb.pos C).x.mono it,(ha.pos.lerp hb.pos C).y.mono it,(ha.pos.lerp hb.pos C).z.mono it⟩⟩:Pq.ok 1000000000 (Pq.mk (a.rot.way (a.rot.inv.mul b.rot) m) (a.pos.lerp b.pos m))))) Tryz.func167 ⟨rO2 ia,⟨rO2 K,⟨(aw 14 (p7 a b m) rfl).2 P,trivial⟩⟩⟩).mono ?_;rintro e w' ⟨v,rfl,⟨vs,rfl,h1⟩,h2⟩
 match vs,h1 with
 | [r,c],h1=>
  obtain⟨⟨cs,rfl,U⟩,k2,_⟩:=h1;have k2:c=_:=k2;subst k2;exact⟨_,rfl,(af (xs:=p7 a b m) (ks:=[15,16,17,18,19,20,21]) (vs:=((a.rot.way (a.rot.inv.mul b.rot) m).cs++([(a.pos.lerp b.pos m).x,(a.pos.lerp b.pos m).y,(a.pos.lerp b.pos m).z]))) Ae).1 ⟨_,rfl,U⟩,h2⟩
variable{m:Fq}
theorem I_poBtw1(a b:Pq)(C:Nat)(F kb kr:List Nat)(G:AtL xs F a.cs)(H:AtL xs kb b.cs)(I:xs[C]? =some m)(J:AtL xs kr ((a.rot.way (a.rot.inv.mul b.rot) m).cs++([(a.pos.lerp b.pos m).x,(a.pos.lerp b.pos m).y,(a.pos.lerp b.pos m).z])))(ha:a.ok 100)(hb:b.ok 100)(V:m.ok 100)(K:a.good)(P:b.good)(U:m.valid=true)(Y:(a.rot.inv.mul b.rot).w.p≠0):OkI xs ys ⟨167,[row F,row kb,fr C],.tup [row kr,.one (.i .i64 0)]⟩:=
 ⟨ah Tryz.func167 rfl rfl,λB w vs Z h=>by
  match vs,h with
  | [va,vb,vm],h=>
   refine(ws va vb vm a b m w ((af G).1 h.1) ((af H).1 h.2.1) ((aw _ _ I).1 h.2.2.1) ha hb V K P U Y).mono ?_;rintro e w' ⟨v,rfl,h1,h2⟩;exact⟨_,rfl,⟨[v,.int .i64 0],rfl,(af J).2 h1,rfl,trivial⟩,h2⟩⟩
def wt(a:Pq)(b:Pq)(m:Fq):List Fq:=(a.cs++(b.cs++([m]++(Qq.zero.cs))))
theorem q_poBtw4(va vb C:Value)(a:Pq)(b:Pq)(m:Fq)(w:World)(ia:aR w va a)(K:aR w vb b)(P:IsQ w C m)(ha:a.ok 100)(hb:b.ok 100)(I:m.ok 100)(F:a.good)(G:b.good)(H:m.valid=true)(J:(a.rot.inv.mul b.rot).w.p=0)(h0:m.p≠0)(h1:m≠(Fq.ofInt 1)):
  AC AB 167 #[va,vb,C] w λe w'=>tJ w Pq.zero 4 e w':=by
 refine(cR0 (wt a b m) [row [0,1,2,3,4,5,6],row [7,8,9,10,11,12,13],fr 14] [va,vb,C] (.tup [.agg [.b false,.sl0,.sl0,.b false,.sl0,.sl0,.b false,.sl0,.sl0,.b false,.sl0,.sl0,.b false,.sl0,.sl0,.b false,.sl0,.sl0,.b false,.sl0,.sl0],.one (.i .i64 4)]) (il1 (I_fBtw4 14 [0,1,2,3] [7,8,9,10] [15,16,17,18] a.rot b.rot Ab Ab rfl Ab (ha.rot.mono it) (hb.rot.mono it) (I.mono it) F.rot G.rot H J h0 h1)) Tryz.func167 ⟨rO2 ia,⟨rO2 K,⟨(aw 14 (wt a b m) rfl).2 P,trivial⟩⟩⟩).mono ?_;rintro e w' ⟨v,rfl,⟨vs,rfl,h1⟩,h2⟩
 match vs,h1 with
 | [r,c],h1=>
  obtain⟨⟨cs,rfl,U⟩,k2,_⟩:=h1;have k2:c=_:=k2;subst k2;exact⟨_,rfl,⟨_,rfl,iG (n:=7) U⟩,h2⟩
theorem I_poBtw4(a b:Pq)(C:Nat)(F kb kr:List Nat)(G:AtL xs F a.cs)(H:AtL xs kb b.cs)(I:xs[C]? =some m)(J:AtL xs kr Pq.zero.cs)(ha:a.ok 100)(hb:b.ok 100)(V:m.ok 100)(K:a.good)(P:b.good)(U:m.valid=true)(Y:(a.rot.inv.mul b.rot).w.p=0)(h0:m.p≠0)(h1:m≠(Fq.ofInt 1)):OkI xs ys ⟨167,[row F,row kb,fr C],.tup [row kr,.one (.i .i64 4)]⟩:=
 ⟨ah Tryz.func167 rfl rfl,λB w vs Z h=>by
  match vs,h with
  | [va,vb,vm],h=>
   refine(q_poBtw4 va vb vm a b m w ((af G).1 h.1) ((af H).1 h.2.1) ((aw _ _ I).1 h.2.2.1) ha hb V K P U Y h0 h1).mono ?_;rintro e w' ⟨v,rfl,h1,h2⟩;exact⟨_,rfl,⟨[v,.int .i64 4],rfl,(af J).2 h1,rfl,trivial⟩,h2⟩⟩
def p8(a:Pq)(b:Pq)(m:Fq):List Fq:=(a.cs++(b.cs++([m]++((a.rot.way (a.rot.inv.mul b.rot) m).cs++([(a.pos.lerp b.pos m).x,(a.pos.lerp b.pos m).y,(a.pos.lerp b.pos m).z])))))
theorem wu(va vb C:Value)(a:Pq)(b:Pq)(m:Fq)(w:World)(ia:aR w va a)(K:aR w vb b)(P:IsQ w C m)(ha:a.ok 100)(hb:b.ok 100)(F:m.ok 100)(G:a.good)(H:b.good)(I:m.valid=true)(J:(a.rot.inv.mul b.rot).w.p≠0):
  AC AB 170 #[va,vb,C] w λe w'=>tJ w (Pq.mk (a.rot.way (a.rot.inv.mul b.rot) m) (a.pos.lerp b.pos m)) 0 e w':=by
 refine(cR0 (p8 a b m) [row [0,1,2,3,4,5,6],row [7,8,9,10,11,12,13],fr 14] [va,vb,C] (.tup [row [15,16,17,18,19,20,21],.one (.i .i64 0)]) (il2 (I_rBtw1 14 [0,1,2,3] [7,8,9,10] [15,16,17,18] a.rot b.rot Ab Ab rfl Ab (ha.rot.mono it) (hb.rot.mono it) (F.mono it) G.rot H.rot I J) (I_r4Lerp a.pos b.pos 14 [4,5,6] [11,12,13] [19,20,21] Ac Ac rfl Ac (ha.pos.mono it) (hb.pos.mono it) (F.mono it))) Tryz.func170 ⟨rO2 ia,⟨rO2 K,⟨(aw 14 (p8 a b m) rfl).2 P,trivial⟩⟩⟩).mono ?_;rintro e w' ⟨v,rfl,⟨vs,rfl,h1⟩,h2⟩
 match vs,h1 with
 | [r,c],h1=>
  obtain⟨⟨cs,rfl,U⟩,k2,_⟩:=h1;have k2:c=_:=k2;subst k2;exact⟨_,rfl,(af (xs:=p8 a b m) (ks:=[15,16,17,18,19,20,21]) (vs:=((a.rot.way (a.rot.inv.mul b.rot) m).cs++([(a.pos.lerp b.pos m).x,(a.pos.lerp b.pos m).y,(a.pos.lerp b.pos m).z]))) Ae).1 ⟨_,rfl,U⟩,h2⟩
theorem I_rpBtw1(a b:Pq)(C:Nat)(F kb kr:List Nat)(G:AtL xs F a.cs)(H:AtL xs kb b.cs)(I:xs[C]? =some m)(J:AtL xs kr ((a.rot.way (a.rot.inv.mul b.rot) m).cs++([(a.pos.lerp b.pos m).x,(a.pos.lerp b.pos m).y,(a.pos.lerp b.pos m).z])))(ha:a.ok 100)(hb:b.ok 100)(V:m.ok 100)(K:a.good)(P:b.good)(U:m.valid=true)(Y:(a.rot.inv.mul b.rot).w.p≠0):OkI xs ys ⟨170,[row F,row kb,fr C],.tup [row kr,.one (.i .i64 0)]⟩:=
 ⟨ah Tryz.func170 rfl rfl,λB w vs Z h=>by
  match vs,h with
  | [va,vb,vm],h=>
   refine(wu va vb vm a b m w ((af G).1 h.1) ((af H).1 h.2.1) ((aw _ _ I).1 h.2.2.1) ha hb V K P U Y).mono ?_;rintro e w' ⟨v,rfl,h1,h2⟩;exact⟨_,rfl,⟨[v,.int .i64 0],rfl,(af J).2 h1,rfl,trivial⟩,h2⟩⟩
def wv(a:Pq)(b:Pq)(m:Fq):List Fq:=(a.cs++(b.cs++([m]++(Qq.zero.cs))))
theorem q_rpBtw4(va vb C:Value)(a:Pq)(b:Pq)(m:Fq)(w:World)(ia:aR w va a)(K:aR w vb b)(P:IsQ w C m)(ha:a.ok 100)(hb:b.ok 100)(I:m.ok 100)(F:a.good)(G:b.good)(H:m.valid=true)(J:(a.rot.inv.mul b.rot).w.p=0)(h0:m.p≠0)(h1:m≠(Fq.ofInt 1)):
  AC AB 170 #[va,vb,C] w λe w'=>tJ w Pq.zero 4 e w':=by
 refine(cR0 (wv a b m) [row [0,1,2,3,4,5,6],row [7,8,9,10,11,12,13],fr 14] [va,vb,C] (.tup [.agg [.b false,.sl0,.sl0,.b false,.sl0,.sl0,.b false,.sl0,.sl0,.b false,.sl0,.sl0,.b false,.sl0,.sl0,.b false,.sl0,.sl0,.b false,.sl0,.sl0],.one (.i .i64 4)]) (il1 (I_rBtw4 14 [0,1,2,3] [7,8,9,10] [15,16,17,18] a.rot b.rot Ab Ab rfl Ab (ha.rot.mono it) (hb.rot.mono it) (I.mono it) F.rot G.rot H J h0 h1)) Tryz.func170 ⟨rO2 ia,⟨rO2 K,⟨(aw 14 (wv a b m) rfl).2 P,trivial⟩⟩⟩).mono ?_;rintro e w' ⟨v,rfl,⟨vs,rfl,h1⟩,h2⟩
 match vs,h1 with
 | [r,c],h1=>
  obtain⟨⟨cs,rfl,U⟩,k2,_⟩:=h1;have k2:c=_:=k2;subst k2;exact⟨_,rfl,⟨_,rfl,iG (n:=7) U⟩,h2⟩
theorem I_rpBtw4(a b:Pq)(C:Nat)(F kb kr:List Nat)(G:AtL xs F a.cs)(H:AtL xs kb b.cs)(I:xs[C]? =some m)(J:AtL xs kr Pq.zero.cs)(ha:a.ok 100)(hb:b.ok 100)(V:m.ok 100)(K:a.good)(P:b.good)(U:m.valid=true)(Y:(a.rot.inv.mul b.rot).w.p=0)(h0:m.p≠0)(h1:m≠(Fq.ofInt 1)):OkI xs ys ⟨170,[row F,row kb,fr C],.tup [row kr,.one (.i .i64 4)]⟩:=
 ⟨ah Tryz.func170 rfl rfl,λB w vs Z h=>by
  match vs,h with
  | [va,vb,vm],h=>
   refine(q_rpBtw4 va vb vm a b m w ((af G).1 h.1) ((af H).1 h.2.1) ((aw _ _ I).1 h.2.2.1) ha hb V K P U Y h0 h1).mono ?_;rintro e w' ⟨v,rfl,h1,h2⟩;exact⟨_,rfl,⟨[v,.int .i64 4],rfl,(af J).2 h1,rfl,trivial⟩,h2⟩⟩
theorem tL(h:fB v):v.oneCell'=true:=by
 cases v with
 | agg cs=>exact absurd rfl (h.1 cs)
 | tuple vs=>exact absurd rfl (h.2.1 vs)
 | _=>rfl
def aO(w:World)(qs:List Vp)(xs:List Value):Prop:=xs.length=qs.length/\∀(j:Nat)(q:Vp),qs[j]? =some q->∃u,xs[j]? =some u/\q.p w u/\∀g,¬q.fp w u g
variable{xs:List Value}
theorem aO.append{qs C:List Vp}{F:List Value}(h:aO w qs xs)(H:aO w C F):aO w (qs++C) (xs++F):=by
 refine⟨by simp[h.1,H.1],λj q G=> ?_⟩;by_cases hl:j<qs.length
 ·rw[Bz hl]at G;obtain⟨u,h1,h2⟩:=h.2 j q G;exact⟨u,by rw[Bz (by rw[h.1];exact hl)];exact h1,h2⟩
 ·rw[Bv no]at G;obtain⟨u,h1,h2⟩:=H.2 _ q G;exact⟨u,by rw[Bv (by rw[h.1];omega),h.1];exact h1,h2⟩
variable{w':World}
theorem aO.chg{X:Nat->Prop}{qs:List Vp}(h:aO w qs xs)(k:Chg w w' X):aO w' qs xs:=
 ⟨h.1,λj q H=>by
  obtain⟨u,h1,h2,h3⟩:=h.2 j q H;obtain⟨F,G⟩:=q.ch w w' X u h2 k (λg C=>absurd C (h3 g));exact⟨u,h1,F,λg C=>h3 g (G g C)⟩⟩
theorem aO.flat{qs:List Vp}(h:aO w qs xs):∀u∈xs,fB u:=λu G=>by
 obtain⟨j,C,rfl⟩:=BK G;have F:j<qs.length:=by rw[<-h.1];exact C
 obtain⟨H,h1,h2,_⟩:=h.2 j _ (AJ F);rw[AJ C]at h1;injection h1 with h1;rw[h1];exact qs[j].fl w H h2
def noU(u:Value):Prop:=∀n,u≠ .int .u32 n
def aX(w:World)(T:TypeId)(sz:Nat)(v:Value)(L:Nat)(xs:List Value):Prop:=w.ownsRow 0 T sz v L xs/\∀g,v.ownBlock=some g->Own w g
variable{g:Nat}{t:TypeId}
theorem jf{cs:Array Value}(h:w.heap[g]? =some (.cells cs t (0,0)))(hc:∀u∈cs.toList,noU u):Own w g:=
 ⟨cs,t,h,λk n C=>hc (.int .u32 n) (by rw[<-GQ]at C;exact A0 C) n rfl⟩
theorem sk{cs:Array Value}{G:Nat×Nat}(h:w.heap[g]? =some (.cells cs t G))(o:Own w g):∀u∈cs.toList,noU u:=λu H n e=>by
 obtain⟨F,I,h1,h2⟩:=o;rw[h]at h1;injection h1 with h1;injection h1 with h1 _ _;subst h1;obtain⟨k,C⟩:=List.getElem?_of_mem H;rw[GQ,e]at C;exact h2 k n C
theorem ww{z:Array Value}(hz:∀u∈z.toList,noU u)(h0:0<z.size)(n:Nat):∀u∈(EL z n).toList,noU u:=λu C=>by
 unfold EL at C;simp only[Array.toList_map,Array.toList_range,Ba]at C;obtain⟨i,_,rfl⟩:=C;have F:i % z.size<z.size:=Nat.mod_lt _ h0;rw[getElem!_pos z _ F];exact hz _ Ad
variable{p:AW}{ty e:TypeId}{n:Nat}{news:List Value}
theorem tM{i:TypeInfo}{z:Value}(ht:p.underlying t=some (.slice e))(hi:p.info? e=some i)(hz:i.zero=some z)(ap:z.cells.size=i.size)(au:0<i.size)(aq:∀u∈z.cells.toList,noU u)
 (ho:aX w e i.size v n xs){a:AU}{m c:Nat}(hl:news.length=m*i.size)(H:∀j u,news[j]? =some u->w.cell? (a.add j)=some u)(h1:∀u∈news,u.oneCell'=true)(ab:∀u∈news,noU u)
  (hm:0<m)(hb:(n+m)*i.bytes<=140737488355328)(hn:n+m<=1000000000000000):
  ∃v' w',(BM #[t,t] ty #[v,.slice (some a) m c]).run p w= .ok v' w'/\w.grownBy w' v.ownBlock/\(∀g,v.ownBlock=some g->Own w' g)/\(∀g,v'.ownBlock=some g->v.ownBlock=some g\/w.heap.size<=g)/\aX w' e i.size v' (n+m) (xs++news):=by
 obtain⟨G,Z⟩:=ho;have I:(xs++news).length=(n+m)*i.size:=by rw[Bh,G.1,hl,CU]
 have ad:n+m<=maxLen:=by simp only[maxLen];omega
 have Y:∀old,(∀u∈xs,noU u)->
   w.grownBy (w.drew.alloc (.cells (xs.toArray++news.toArray++EL z.cells (grownCap w (n+m) old e - (n+m))) e)) v.ownBlock/\
   aX (w.drew.alloc (.cells (xs.toArray++news.toArray++EL z.cells (grownCap w (n+m) old e - (n+m))) e)) e i.size (.slice (some ⟨w.heap.size,0,none⟩) (n+m) (grownCap w (n+m) old e)) (n+m) (xs++news):=by
  intro old ao;have h2:=grownCap_ge w (n+m) old e;have aa:=Bm w.drew (.cells (xs.toArray++news.toArray++EL z.cells (grownCap w (n+m) old e - (n+m))) e);refine⟨⟨rfl,rfl,rfl,Ad,λk hk _=>EV w.drew _ hk⟩,⟨I,.inr ⟨w.heap.size,_,_,rfl,AY _,aa,h2,grownCap_le_maxLen w (n+m) old e ad,?_,?_⟩⟩,λg K=> ?_⟩
  ·simp only[Array.size_append,Cb,size_zeroCells,ap,G.1,hl];rw[<-CU,<-CU]
   congr 1;omega
  ·simp only[Fc,CO];rw[<-CO,<-I];exact List.take_left
  ·injection K with K;subst K;refine jf aa (λu F=> ?_);simp only[Fc,AG]at F;rcases F with(F | F) | F
   ·exact ao u F
   ·exact ab u F
   ·exact ww aq no _ u F
 rcases G.2 with⟨rfl,rfl⟩ | ⟨g,cap,cur,rfl,ak,K,ar,am,an,V⟩
 ·have hx:xs=[]:=CF (by simpa using G.1);subst hx;have hr:=run_append_nil (P:=p) w t ty e i z ht hi hz a m c news hl H no no (by have:=hb;simp only[A5]at this;omega);have h2:=Y 0 (λu F=>by cases F);simp only[A5,C8,Array.empty_append]at h2⊢;exact⟨_,_,hr,h2.1,λg K=>(by cases K),λg K=>.inr (by have h:w.heap.size=g:=A3.inj K;omega),h2.2⟩
 ·have J:=sk K (Z g rfl);by_cases hroom:n+m<=cap
  ·have ac:n*i.size+news.length<=cur.size:=by rw[hl,an,<-CU];exact Nat.mul_le_mul_right _ hroom
   have hr:=run_append_room (P:=p) w t ty e i ht hi g n cap cur K a m c news hl H h1 hroom ac;have U:=setRow_heap w g cur (cur.toList.take (n*i.size)++news++cur.toList.drop (n*i.size+news.length)).toArray e (0,0) K;refine⟨_,_,hr,⟨rfl,rfl,rfl,Ad,λk _ hk=>setRow_other w g k _ (λe=>hk (by simp[Cx,e]))⟩,λg' C=> ?_,λg' C=>.inl C,⟨I,.inr ⟨g,cap,_,rfl,ak,U,hroom,am,?_,?_⟩⟩,λg' C=> ?_⟩
   ·injection C with C;subst C;refine jf U (λu F=> ?_);simp only[AG]at F;rcases F with(F | F) | F
    ·exact J u (FG F)
    ·exact ab u F
    ·exact J u (EM F)
   ·simp only[Cb,Bh,A9,CB,Array.length_toList];omega
   ·rw[V,<-I];exact List.take_left
   ·injection C with C;subst C;refine jf U (λu F=> ?_);simp only[AG]at F;rcases F with(F | F) | F
    ·exact J u (FG F)
    ·exact ab u F
    ·exact J u (EM F)
  ·have holds:∀j u,xs[j]? =some u->w.cell? ((⟨g,0,none⟩:AU).add j)=some u:=G.cells (g:=g) rfl;have hr:=run_append_grow (P:=p) w t ty e i z ht hi hz ⟨g,0,none⟩ n cap xs G.1 holds a m c news hl H no no (growslice_fits no hb);have h2:=Y cap (λu F=>J u (by rw[<-V]at F;exact FG F));exact⟨_,_,hr,h2.1,λg' C=>by
    injection C with C;subst C;obtain⟨cs,t,k1,k2⟩:=Z g rfl;exact⟨cs,t,(EV w.drew _ (AZ.1 k1).1).trans k1,k2⟩,λg' C=>.inr (by have h:w.heap.size=g':=A3.inj C;omega),h2.2⟩
def Vp.ownr(T:TypeId)(sz L:Nat)(qs:List Vp):Vp:=.of (λw v=>∃xs,aX w T sz v L xs/\aO w qs xs)
 (λv g=>v.ownBlock=some g)
 (λw w' X v ⟨xs,⟨⟨h1,h2⟩,h0⟩,k⟩ hc hX=>by
  have hsame:∀g,v.ownBlock=some g->w'.heap[g]? =w.heap[g]? :=λg hg=>hc.blk g (by obtain⟨cs,t,h,_⟩:=h0 g hg;exact(AZ.1 h).1) (hX g hg)
  refine⟨xs,⟨⟨h1,h2.imp id λ⟨g,cap,cur,e,hb,hg,hr⟩=>⟨g,cap,cur,e,hb,by rw[hsame g (by rw[e];rfl)];exact hg,hr⟩⟩,λg hg=> ?_⟩,k.chg hc⟩;obtain⟨cs,t,h3,h4⟩:=h0 g hg;exact⟨cs,t,by rw[hsame g hg];exact h3,h4⟩)
 (λw v g ⟨xs,⟨_,h0⟩,_⟩ hg=>by obtain⟨cs,t,h,_⟩:=h0 g hg;exact(AZ.1 h).1)
 (λw v ⟨xs,⟨⟨_,h⟩,_⟩,_⟩=>by
  rcases h with⟨rfl,_⟩ | ⟨g',cap,cur,rfl,_⟩<;>exact pK)
section
variable {ρ:Rho} {n m r k i L M:Nat} {t T:TypeId} {qs qs':List Vp} {z:Value} {ti:TypeInfo} {l:Leaf}
theorem p9{x:Value}(K:(Vp.row T M qs').p w x)(h0:qs'≠ []):∃a c C,x= .slice (some a) M c/\aO w qs' C/\(∀j u,C[j]? =some u->w.cell? (a.add j)=some u):=by
 rcases K with⟨h,_⟩ | ⟨b,o,c,cs,rfl,hc,hb,I⟩
 ·exact absurd h h0
 ·have:∃C:List Value,aO w qs' C/\∀j u,C[j]? =some u->cs[o+j]? =some u:=by
   clear h0 hc hb
   induction qs' generalizing o with
   | nil=>exact⟨[],⟨rfl,λj q h=>Ao⟩,λj u h=>Ao⟩
   | cons q qs ih=>
    obtain⟨u,h1,h2,h3⟩:=I 0 q rfl;obtain⟨C,H,J⟩:=ih (o+1) (λj q F=>by
     obtain⟨u,h1,h2⟩:=I (j+1) q Ay;exact⟨u,by rw[show o+1+j=o+(j+1)from no];exact h1,h2⟩)
    refine⟨u::C,⟨by simp[H.1],λj U F=> ?_⟩,λj G F=> ?_⟩
    ·match j with
     | 0=>simp at F;subst F;exact⟨u,rfl,h2,h3⟩
     | j+1=>obtain⟨G,P,k2⟩:=H.2 j U Ay;exact⟨G,by simpa using P,k2⟩
    ·match j with
     | 0=>simp at F;subst F;exact h1
     | j+1=>have:=J j G Ay;rwa [show o+1+j=o+(j+1)from no]at this
  obtain⟨C,h1,h2⟩:=this;exact⟨⟨b,o,none⟩,c,C,rfl,h1,λj u F=>by rw[bM,aH hb];exact h2 j u F⟩
theorem gr{sz:Nat}(h:(Vp.ownr T sz L qs).p w v):(Vp.row T L qs).p w v:=by
 obtain⟨xs,⟨⟨h1,h2⟩,_⟩,h3⟩:=h;rcases h2 with⟨rfl,rfl⟩ | ⟨g,cap,cur,rfl,_,H,hn,_,G,C⟩
 ·refine .inl ⟨?_,rfl,rfl⟩;have:xs.length=0:=by simpa using h1
  exact CF (by rw[<-h3.1];exact this)
 ·refine .inr ⟨g,0,cap,cur,rfl,hn,H,λj q I=> ?_⟩;obtain⟨u,F,k2⟩:=h3.2 j q I;refine⟨u,?_,k2⟩;rw[<-C,BI]at F;split at F
  ·rw[A5,<-GQ];exact F
  ·cases F
def noUb:Value->Bool
 | .int .u32 _=>false
 | _=>true
def appB(p:AW)(T:TypeId)(sz bytes:Nat):Bool:=match p.info? T with
 | some ti=>(match ti.zero with | some z=>z.cells.size==sz && z.cells.toList.all noUb | none=>false) && (ti.size==sz && (ti.bytes==bytes && decide (0<sz)))
 | none=>false
end
structure St where
 tm:Int
 pose:Pq
def St.qs(s:St):List Vp:=.val (.int .i64 s.tm)::frs s.pose.cs
def bB(S:List St):List Vp:=S.flatMap St.qs
theorem St.qs_len(s:St):s.qs.length=22:=rfl
theorem d7:∀(S:List St),(bB S).length=S.length*22
 | []=>rfl
 | s::S=>by
  have:=d7 S;simp only[bB,Cw,Bh,Bg,St.qs_len]at this⊢;omega
theorem jN(S S':List St):bB (S++S')=bB S++bB S':=by simp[bB]
theorem wA:∀ {S:List St} {k:Nat} {x:St} {j:Nat} {q:Vp},S[k]? =some x->x.qs[j]? =some q->(bB S)[k*22+j]? =some q
 | [],_,_,_,_,h,_=>Ao
 | s::S,0,x,j,q,h,hq=>by
  simp at h;subst h;have C:j<s.qs.length:=(AX.1 hq).1;simp only[bB,Cw,Nat.zero_mul,A5];rw[Bz C];exact hq
 | s::S,k+1,x,j,q,h,hq=>by
  have:=wA (S:=S) (k:=k) (x:=x) Au hq;simp only[bB,Cw]at this⊢;rw[Bv (by rw[St.qs_len];omega),St.qs_len,show(k+1)*22+j - 22=k*22+j from no];exact this
theorem rowS_take(S:List St)(k:Nat)(j:Nat)(q:Vp)(h:(bB (S.take k))[j]? =some q):(bB S)[j]? =some q:=by
 have h1:bB S=bB (S.take k)++bB (S.drop k):=by rw[<-jN,Fe]
 rw[h1,Bz (AX.1 h).1];exact h
theorem rowS_drop(S:List St)(k:Nat)(C:k<=S.length)(j:Nat)(q:Vp)(h:(bB (S.drop k))[j]? =some q):(bB S)[k*22+j]? =some q:=by
 have h1:bB S=bB (S.take k)++bB (S.drop k):=by rw[<-jN,Fe]
 have h2:(bB (S.take k)).length=k*22:=by rw[d7,A9];congr 1;omega
 rw[h1,Bv no,h2,Ez];exact h
variable{S:List St}{k:Nat}
theorem rowS_ne{x:St}(h:S[k]? =some x):bB S≠ []:=λe=>by
 have:=d7 S;have h2:=(AX.1 h).1;rw[e]at this;simp at this;omega
def KI(ρ:Rho)(l:Leaf)(k:C9)(u:Int):Prop:=∀B w x,l.holds ρ B w x->x= .int k u
section
variable {ρ:Rho} {n m k r:Nat} {u v c:Int} {b d:Bool} {l l':Leaf} {t T e:TypeId} {B:Blk} {w:World} {ik:C9} {x:St} {S:List St}
theorem wD(c:Int):KI ρ (.i ik c) ik c:=λ_ _ _ h=>h
theorem iJ(n:Nat)(h:ρ[n]? =some (.val (.int ik u))):KI ρ (.ref n) ik u:=λ_ _ _ C=>cT h C
def intB(op:BinOp)(u v:Int):Option Bool:=match op with
 | .eql=>some (u==v)
 | .neq=>some (u !=v)
 | .lss=>some (decide (u<v))
 | .leq=>some (decide (u<=v))
 | .gtr=>some (decide (v<u))
 | .geq=>some (decide (v<=u))
 | _=>none
theorem o_int{op:BinOp}(h1:KI ρ l ik u)(h2:KI ρ l' ik v)(hb:intB op u v=some b):(OIns.mk (.bin op t) [.one l,.one l'] (.one (.b b))).Ok AB ρ:=λB w vs C=>by
 match vs,C with
 | [v1,v2],C=>
  have e:=h1 _ _ _ C.1;have F:=h2 _ _ _ C.2.1;subst e;subst F;refine⟨.bool b,rfl,λG H=> ?_⟩;cases op<;>simp only[intB,A3.injEq]at hb<;>first | (cases hb;done) | (subst hb;simp[eqGuard,binOp,Op.intCmp,AH,AQ])
theorem wE{P:AW}{e:TypeId}(C:P.underlying t=some (.pointer e))(a:AU):(Op.equal t (.pointer (some a)) (.pointer none)).run P w= .ok false w:=by
 unfold Op.equal Op.maxDepth Op.equalIn;rw[AH,run_underlying C];rfl
theorem sn(b o:Nat):(⟨b,o,none⟩:AU).add 0=⟨b,o,none⟩:=by rw[bM,Nat.add_zero]
theorem row_at{v:Value}{qs:List Vp}{L:Nat}(h:(Vp.row T L qs).p w v)(h0:qs≠ []):∃b o c cs,v= .slice (some ⟨b,o,none⟩) L c/\L<=c/\w.heap[b]? =some (.cells cs T (0,0))/\∀j q,qs[j]? =some q->∃u,cs[o+j]? =some u/\q.p w u/\∀g,¬q.fp w u g:=by
 rcases h with⟨h,_⟩ | h
 ·exact absurd h h0
 ·exact h
end
theorem q_CloneU(v:Value)(L N:Nat)(w:World)(h:IsR w (.agg #[v]) L N)(hL:L<=1000000000000):
  AC AB 213 #[v] w λe w'=>∃v',e= .returned v'/\IsR w' (.agg #[v']) L N/\mBw w w':=by
 obtain⟨a,c,e,hc,F⟩:=h;have U:v= .slice a L c:=by
  injection e with e;have:=congrArg (λx:Array Value=>x[0]?) e;simpa using this
 subst U;have q:∀(w:World)(a:Option AU)(n c K C:Nat),(binOp .eql 29 (.slice a n c) (.slice none K C)).run AB w= .ok (.bool a.isNone) w:=λw a n c K C=>Lib.run_eql_slice_nil w _ _ a n c K C Tryz.underlying29
 cases a with
 | none=>
  have h0:L=0:=by
   apply Classical.byContradiction;intro h0;obtain⟨b,o,e,_⟩:=F.cells no;cases e
  subst h0;have V:N=0:=by have:=F.lt;simpa using this
  subst V;go_enter Tryz.func213,Tryz.ntmps213
  go_wp2;go_ret;exact⟨_,rfl,isR00 w,AF _ _⟩
 | some a=>
  have P:=iz w (.cells #[] 237);have J:=F.mono P;go_enter Tryz.func213,Tryz.ntmps213
  go_wp2_with (at_builtin;refine fX rfl _ _ rfl w.heap.size _ rfl (World.ownsRow_made w #[] 0 (AE _) (AY _) rfl) Ad (some a) L c N rfl J no ?_)
  intro a' C w' H G I;go_wp2;go_ret;refine⟨_,rfl,⟨a',C,rfl,G,F.lt,λh0=> ?_⟩,?_⟩
  ·obtain⟨g,e,_,Y,_⟩:=H h0;exact⟨g,0,e,Y⟩
  ·exact P.trans (e8 I w.heap.size Ad (λk Z=>by simp[Cx]at Z;omega))
variable{L:Nat}
theorem mI(m n:Nat){ρ:Rho}{N:Nat}(hn:ρ[n]? =some (.dig L N))(G:ρ[m]? =some (.dig L N))(F:L<=1000000000000):Inst.Ok AB ρ ⟨213,[.one (.ref n)],.v (.one (.ref m))⟩:=
 ⟨ah Tryz.func213 rfl rfl,λB w vs H h=>by
  match vs,h with
  | [v],h=>
   obtain⟨s,h1,h2,_⟩:=h.1;rw[hn]at h1;injection h1 with h1;subst h1;refine(q_CloneU v L N w h2 F).mono ?_;rintro e w' ⟨v',rfl,h3,C⟩;exact⟨_,rfl,⟨_,G,h3,λ_ h=>h.elim⟩,C⟩⟩
variable{P:AW}{ops:Array Oper}{rest:List Oper}{a:Act}{Q:Exit->Act->World->Prop}{v':Value}
theorem gw{o:Oper}(C:o.guard=none)(s x:AP)(t:TypeId)
  (G:o.op= .call {callee:=.builtin .append,args:=#[s,x],argTypes:=#[t,t]})(v u:Value)(hs:a.eval s=v)(H:a.eval x=u) 
  (hr:(BM #[t,t] o.type #[v,u]).run P w= .ok v' w')(h:wpList P ops Q rest (a.put o.dst v') w'):wpList P ops Q (o::rest) a w:=
 BA C λ_ F=>by
  unfold Bk execOp;simp only[G,resolve,invoke,builtin,AH,Bw,CM,CJ,Bq,BS,hs,H,hr];exact F _ _ h
variable{sz:Nat}
theorem run_app0(ht:p.underlying t=some (.slice e))(hz:szB p e=some sz)(a b:Option AU)(n c k:Nat)(hn:n<=c):(BM #[t,t] ty #[.slice a n c,.slice b 0 k]).run p w= .ok (.slice a n c) w:=by
 have h1:(EA sz 0 (.slice b 0 k)).run p w= .ok #[] w:=by
  cases b<;>simp[EA,loadCells,loadCellsFrom]
 cases a<;>simp[BM,run_underlying ht,ba hz,Builtin.lenOf,hn,h1,storeCells]
theorem qc{T:TypeId}{bytes:Nat}(ht:p.underlying t=some (.slice T))(G:appB p T sz bytes=true){x:Value}{M:Nat}{qs qs':List Vp}(K:aX w T sz v n xs)(hc:aO w qs xs)(hx:(Vp.row T M qs').p w x)(hq:qs'.length=M*sz)
  (hb:(n+M)*bytes<=140737488355328)(hn:n+M<=1000000000000000):
  ∃v' w',(BM #[t,t] ty #[v,x]).run p w= .ok v' w'/\w.grownBy w' v.ownBlock/\(∀g,v.ownBlock=some g->Own w' g)/\(∀g,v'.ownBlock=some g->v.ownBlock=some g\/w.heap.size<=g)/\(Vp.ownr T sz (n+M) (qs++qs')).p w' v':=by
 unfold appB at G;split at G
 ·rename_i ti hi;simp only[BN,beq_iff_eq,decide_eq_true_eq]at G;obtain⟨hz,h3,h4,h5⟩:=G;split at hz
  ·rename_i z ad;simp only[BN,beq_iff_eq]at hz;subst h3;subst h4;by_cases hM:M=0
   ·subst hM;have hq0:qs'=[]:=CF (by simpa using hq);subst hq0;have hs:∃a c,v= .slice a n c/\n<=c:=by
     rcases K.1.2 with⟨rfl,rfl⟩ | ⟨g,cap,cur,rfl,_,_,ab,_⟩
     ·exact⟨none,0,rfl,AE _⟩
     ·exact⟨_,_,rfl,ab⟩
    obtain⟨a,c,rfl,aa⟩:=hs;obtain⟨b,k,rfl⟩:=ja hx;have ac:szB p T=some ti.size:=by unfold szB;rw[hi];rfl
    exact⟨_,w,run_app0 ht ac _ _ _ _ _ aa,⟨rfl,rfl,rfl,AE _,λ_ _ _=>rfl⟩,K.2,λg J=>.inl J,by rw[CP];exact⟨xs,K,hc⟩⟩
   ·have hM:0<M:=no
    have hq0:qs'≠ []:=λe=>by subst e;simp at hq;have:=Nat.mul_pos hM h5;omega
    obtain⟨a,c,Z,rfl,C,F⟩:=p9 hx hq0;obtain⟨v',w',V,J,P,H,U⟩:=tM (p:=p) (ty:=ty) (c:=c) ht hi ad hz.1 h5 (λu Y n e=>by
     have:=Ca.1 hz.2 u Y;subst e;exact Bool.noConfusion (show false=true from this)) K (by rw[C.1,hq]) F (λu Y=>tL (C.flat u Y)) (λu Y=>λn e=>(C.flat u Y).2.2 n e) hM hb hn
    have I:Chg w w' (λg=>v.ownBlock=some g):=⟨J.size,λg h1 h2=>J.block g h1 (λe=>h2 e.symm),λg h=>(K.2 g h).x⟩;exact⟨v',w',V,J,P,H,xs++Z,U,(hc.append C).chg I⟩
  ·cases hz
 ·cases G
def stT:TypeId:=120
theorem wG(v:Value)(S:List St)(w:World)(h:(Vp.row stT S.length (bB S)).p w v)(hS:S.length<=1000000):
  AC AB 188 #[v] w λe w'=>∃v',e= .returned v'/\(Vp.ownr stT 22 S.length (bB S)).p w' v'/\(∀g,v'.ownBlock=some g->w.heap.size<=g)/\mBw w w':=by
 have q:∀(w:World)(a:Option AU)(n c I G:Nat),(binOp .eql 183 (.slice a n c) (.slice none I G)).run AB w= .ok (.bool a.isNone) w:=λw a n c I G=>Lib.run_eql_slice_nil w _ _ a n c I G Cy
 have P:=h;rcases h with⟨h1,h2,rfl⟩ | ⟨b,o,c,cs,rfl,hc,hb,hq⟩
 ·go_enter Tryz.func188,Tryz.ntmps188
  go_wp2;go_ret;refine⟨_,rfl,⟨[],⟨?_,λg C=>by cases C⟩,?_⟩,λg C=>(by cases C),AF _ _⟩
  ·rw[h2];exact World.ownsRow_nil _ _ _ _
  ·rw[h1];exact⟨rfl,λj q h=>Ao⟩
 ·have U:=iz w (.cells #[] stT);have J:(Vp.row stT S.length (bB S)).p (w.alloc (.cells #[] stT)) (.slice (some ⟨b,o,none⟩) S.length c):=((Vp.row stT S.length (bB S)).ch _ _ _ _ P (.below U) (λ_ _ h=>h)).1;have K:aX (w.alloc (.cells #[] stT)) stT 22 (.slice (some ⟨w.heap.size,0,none⟩) 0 0) 0 []:=by
   refine⟨World.ownsRow_made w #[] 0 (AY _) (AY _) rfl,λg C=> ?_⟩;injection C with C;subst C;exact⟨#[],stT,Bm w _,λk n=>Ad⟩
  obtain⟨v',w',hr,C,_,F,h3⟩:=qc (p:=AB) (ty:=183) (qs:=[]) (bytes:=400) Cy Aa K ⟨rfl,λj q h=>Ao⟩ J (d7 S) no no;have V:∀g,v'.ownBlock=some g->w.heap.size<=g:=λg H=>by
   rcases F g H with h | h
   ·have h:w.heap.size=g:=A3.inj h;omega
   ·simp at h;omega
  have Y:mBw w w':=U.trans (e8 C w.heap.size Ad (λk Z=>by simp[Cx]at Z;omega));rw[A5,C8]at h3;clear C F;clear hq hb J K P;go_enter Tryz.func188,Tryz.ntmps188
  go_wp2_with (at_builtin;refine gw rfl _ _ 183 rfl _ _ rfl rfl hr ?_)
  go_wp2;go_ret;exact⟨_,rfl,h3,V,Y⟩
theorem ki{dT sT:TypeId}(ht:p.underlying dT=some (.slice e))(hz:szB p e=some sz){o C M C':Nat}{a:AU}{cs:Array Value}{T:TypeId}(h:w.heap[g]? =some (.cells cs T (0,0)))
  (hn:news.length=Nat.min M L*sz)(hs:∀j u,news[j]? =some u->w.cell? (a.add j)=some u)(K:o+news.length<=cs.size)(hf:∀u∈news,fB u):
  ∃w' F,(Builtin.copy_ #[dT,sT] ty #[.slice (some ⟨g,o,none⟩) L C,.slice (some a) M C']).run p w= .ok (goInt (Nat.min M L)) w'/\Upd w g w'/\w'.heap[g]? =some (.cells F T (0,0))/\F.size=cs.size/\(∀k v,news[k]? =some v->F[o+k]? =some v)/\∀k,(k<o\/o+news.length<=k)->F[k]? =cs[k]? :=by
 obtain⟨w',F,h1,h2,h3,H,I,J⟩:=gh (p:=p) (o:=o) news 0 w cs h no hf;refine⟨w',F,?_,h2,h3,H,λk v G=>by have:=I k v G;simpa using this,λk G=>J k no⟩;have hl:=run_loadCells_list (P:=p) w a news hs;rw[hn]at hl;simp[Builtin.copy_,run_underlying ht,ba hz,Builtin.lenOf,EA,hl,h1]
theorem ju{o:Oper}(C:o.guard=none)(d s:AP)(t t':TypeId)
  (H:o.op= .call {callee:=.builtin .copy,args:=#[d,s],argTypes:=#[t,t']})(v u:Value)(G:a.eval d=v)(hs:a.eval s=u) 
  (hr:(Builtin.copy_ #[t,t'] o.type #[v,u]).run P w= .ok v' w')(h:wpList P ops Q rest (a.put o.dst v') w'):wpList P ops Q (o::rest) a w:=
 BA C λ_ F=>by
  unfold Bk execOp;simp only[H,resolve,invoke,builtin,AH,Bw,CM,CJ,Bq,BS,G,hs,hr];exact F _ _ h
theorem kM{o:Oper}{K:Act->World->Prop}{E:Prop}
  (H:o.guard=none)(d x:AP)(dT sT:TypeId)(C:o.op=Op.call {callee:=Callee.builtin Builtin.copy,args:=#[d,x],argTypes:=#[dT,sT]})
  (v u:Value)(G:a.eval d=v)(J:a.eval x=u)(hr:(Builtin.copy_ #[dT,sT] o.type #[v,u]).run P w= .ok v' w')(F:K (a.put o.dst v') w'):
  if A6 o (yielded ops a.tmps)=true then Bk P o a w K Q else E:=by
 have I:A6 o (yielded ops a.tmps)=true:=by simp[A6,H]
 rw[if_pos I];unfold Bk;simp[execOp,C,resolve,invoke,builtin,G,J,hr,AQ];exact F
theorem sq{S:List St}{s:St}{i:Nat}(hi:i<=S.length)(G:aO w (bB S) xs)(hn:aO w s.qs news):aO w (bB (S.take i++s::S.drop i)) (xs.take (i*22)++(news++xs.drop (i*22))):=by
 have e:bB (S.take i++s::S.drop i)=bB (S.take i)++(s.qs++bB (S.drop i)):=by rw[jN];rfl
 have h0:bB S=bB (S.take i)++bB (S.drop i):=by rw[<-jN,Fe]
 have hl:(bB (S.take i)).length=i*22:=by rw[d7,A9];congr 1;omega
 have H:=G.1;rw[d7]at H;rw[e];refine aO.append ⟨?_,λj q C=> ?_⟩ (aO.append hn ⟨?_,λj q C=> ?_⟩)
 ·rw[hl,A9];omega
 ·have F:=(AX.1 C).1;obtain⟨u,h1,h2⟩:=G.2 j q (by rw[h0,Bz F];exact C);exact⟨u,by rw[BI,if_pos no];exact h1,h2⟩
 ·rw[CB,d7,CB];omega
 ·obtain⟨u,h1,h2⟩:=G.2 (i*22+j) q (by rw[h0,Bv no,hl,Ez];exact C);exact⟨u,by rw[Cv];exact h1,h2⟩
def InsP(w:World)(v:Value)(S:List St)(s:St)(i:Nat)(e:Ending)(w':World):Prop:=
 ∃v',e= .returned v'/\(Vp.ownr stT 22 (S.length+1) (bB (S.take i++s::S.drop i))).p w' v'/\w.grownBy w' v.ownBlock/\(∀g,v.ownBlock=some g->Own w' g)/\∀g,v'.ownBlock=some g->v.ownBlock=some g\/w.heap.size<=g
theorem q_Ins1(v x:Value)(S:List St)(s:St)(w:World)(Y:(Vp.ownr stT 22 S.length (bB S)).p w v)(J:(Vp.row stT 1 s.qs).p w x)(Z:S.length<=1000000):
  AC AB 187 #[v,.int .i64 (S.length:Int),x] w λe w'=>InsP w v S s S.length e w':=by
 obtain⟨xs,I,hc⟩:=Y;obtain⟨v',w',P,K,F,C,h3⟩:=qc (p:=AB) (ty:=183) (bytes:=400) Cy Aa I hc J Af no no;obtain⟨a,c,rfl,V⟩:∃a c,v= .slice a S.length c/\S.length<=c:=by
  rcases I.1.2 with⟨rfl,h0⟩ | ⟨g,cap,cur,rfl,_,_,H,_⟩
  ·exact⟨none,0,by rw[h0],no⟩
  ·exact⟨_,_,rfl,H⟩
 obtain⟨b,k,rfl⟩:=ja J;have u0:∀w,(underlying 183).run AB w= .ok (.slice 120) w:=λw=>run_underlying Cy
 have hz:∀w,(Go.sizeOf 120).run AB w= .ok 22 w:=λw=>ba Aa
 have U:(S.length:Int)<=1000000:=no
 have G:(Vp.ownr stT 22 (S.length+1) (bB (S.take S.length++s::S.drop S.length))).p w' v':=by
  rw[List.take_length,List.drop_length,jN];simpa [bB,stT]using h3
 clear J I hc h3;by_cases hck:c=S.length
 ·subst hck;go_enter Tryz.func187,Tryz.ntmps187
  go_wp2_with (at_builtin;refine gw rfl _ _ 183 rfl _ _ rfl rfl P ?_)
  go_ret;exact⟨_,rfl,G,K,F,C⟩
 ·go_enter Tryz.func187,Tryz.ntmps187
  go_wp2_with (at_builtin;refine gw rfl _ _ 183 rfl _ _ rfl rfl P ?_)
  go_ret;exact⟨_,rfl,G,K,F,C⟩
theorem oO{o:Oper}(C:o.guard=none)(s x:AP)(t t':TypeId)
  (G:o.op= .call {callee:=.builtin .append,args:=#[s,x],argTypes:=#[t,t']})(v u:Value)(hs:a.eval s=v)(H:a.eval x=u) 
  (hr:(BM #[t,t'] o.type #[v,u]).run P w= .ok v' w')(h:wpList P ops Q rest (a.put o.dst v') w'):wpList P ops Q (o::rest) a w:=
 BA C λ_ F=>by
  unfold Bk execOp;simp only[G,resolve,invoke,builtin,AH,Bw,CM,CJ,Bq,BS,hs,H,hr];exact F _ _ h
def z22:Array Value:=(Value.agg #[.int .i64 0,.bool false,.slice none 0 0,.slice none 0 0,.bool false,.slice none 0 0,.slice none 0 0,.bool false,.slice none 0 0,.slice none 0 0,.bool false,.slice none 0 0,.slice none 0 0,.bool false,.slice none 0 0,.slice none 0 0,.bool false,.slice none 0 0,.slice none 0 0,.bool false,.slice none 0 0,.slice none 0 0]).cells
theorem infoSt:(AB.info? stT).map (λi=>(i.zero,i.size,i.bytes))=some (some (.agg z22),22,400):=Aa
theorem qd:z22.size=22:=rfl
theorem z22_noU:∀u∈z22.toList,noU u:=λu C n e=>by
 have h:z22.toList.all noUb=true:=it
 have:=Ca.1 h u C;subst e;exact Bool.noConfusion (show false=true from this)
variable{i:Nat}
theorem wH{cs:Array Value}(hi:i<=n)(G:xs.length=n*22)(C:news.length=22)(F:(n+1)*22<=cs.size)(h1:∀k,k<i*22->cs[k]? =xs[k]?)(h2:∀k,k<22->cs[i*22+k]? =news[k]?)(h3:∀k,k<(n - i)*22->cs[(i+1)*22+k]? =xs[i*22+k]?):
  cs.toList.take ((n+1)*22)=xs.take (i*22)++(news++xs.drop (i*22)):=by
 apply List.ext_getElem?;intro k;rw[BI];by_cases hk:k<(n+1)*22
 ·rw[if_pos hk,GQ];by_cases a1:k<i*22
  ·rw[h1 k a1,Bz (by rw[A9];omega),BI,if_pos a1]
  ·rw[Bv (by rw[A9];omega),A9,show min (i*22) xs.length=i*22 from no];by_cases a2:k<(i+1)*22
   ·have:=h2 (k - i*22) no;rw[show i*22+(k - i*22)=k from no]at this;rw[this,Bz no]
   ·have:=h3 (k - (i+1)*22) no;rw[show(i+1)*22+(k - (i+1)*22)=k from no]at this;rw[this,Bv no,C,Cv]
    congr 1;omega
 ·rw[if_neg hk,List.getElem?_eq_none];simp only[Bh,A9,CB];omega
set_option maxHeartbeats 4000000 in
theorem q_Ins2(g cap:Nat)(x:Value)(S:List St)(s:St)(i:Nat)(w:World)(hv:(Vp.ownr stT 22 S.length (bB S)).p w (.slice (some ⟨g,0,none⟩) S.length cap))(hx:(Vp.row stT 1 s.qs).p w x)(hi:i<S.length)(cq:cap<S.length+1)(hS:S.length<=1000000):
  AC AB 187 #[.slice (some ⟨g,0,none⟩) S.length cap,.int .i64 (i:Int),x] w λe w'=>InsP w (.slice (some ⟨g,0,none⟩) S.length cap) S s i e w':=by
 obtain⟨xs,⟨⟨ac,ho⟩,bp⟩,hc⟩:=hv;have cd:=bp g rfl;obtain⟨cur,hg,c5,cm,Y⟩:∃cur,w.heap[g]? =some (.cells cur stT (0,0))/\S.length<=cap/\cur.size=cap*22/\cur.toList.take (S.length*22)=xs:=by
  rcases ho with⟨h,_⟩ | ⟨g',cv,cur,e,_,h1,h2,_,h3,h4⟩
  ·cases h
  ·injection e with e1 e2 e3;injection e1 with e1;injection e1 with e1;subst e1;subst e3;exact⟨cur,h1,h2,h3,h4⟩
 have a9:cap=S.length:=no
 subst a9;obtain⟨ax,cx,I,rfl,aq,ak⟩:=p9 hx (by intro e;cases e);obtain⟨ti,cr,tz,ca,b0⟩:=info_parts infoSt;obtain⟨n,hn⟩:∃n,n=S.length:=⟨_,rfl⟩;rw[<-hn]at ac hi hS cm Y⊢;have an:I.length=22:=aq.1;have bb:g<w.heap.size:=(AZ.1 hg).1;have K:∀j u,xs[j]? =some u->w.cell? ⟨g,j,none⟩=some u:=λj u Z=>by
  rw[aH hg,<-GQ];rw[<-Y,BI]at Z;split at Z
  ·exact Z
  ·cases Z
 have au:∀u∈xs,fB u:=hc.flat;have a0:∀u∈I,fB u:=aq.flat;obtain⟨G,hG⟩:∃G,G=grownCap w (n+1) n stT:=⟨_,rfl⟩;have cc:n+1<=G:=by rw[hG];exact grownCap_ge w _ _ _
 have cb:G<=maxLen:=by rw[hG];exact grownCap_le_maxLen w (n+1) n stT (by unfold maxLen;omega)
 obtain⟨ab,V⟩:∃ab:Array Value,ab=(xs.take (i*22)).toArray++EL z22 (n+1 - i)++EL z22 (G - (n+1)):=⟨_,rfl⟩;have ao:ab.size=G*22:=by
  rw[V];simp only[Array.size_append,Cb,size_zeroCells,qd,A9,ac];omega
 have ay:(EA ti.size i (.slice (some ⟨g,0,none⟩) i n)).run AB w.drew= .ok (xs.take (i*22)).toArray w.drew:=by
  rw[ca];exact run_firstCells_some w.drew 22 i ⟨g,0,none⟩ i n (xs.take (i*22)) (by rw[A9];omega) (λj v Z=>by
   rw[Addr.add_lit,A5];rw[BI]at Z;split at Z
   ·exact K j v Z
   ·cases Z)
 have bq:(BM #[183,3] 183 #[.slice (some ⟨g,0,none⟩) i n,.int .i64 ((n:Int)+1 - (i:Int))]).run AB w=
   .ok (.slice (some ⟨w.heap.size,0,none⟩) (n+1) G) (w.drew.alloc (.cells ab stT)):=by
  have h:=Lib.run_append_grow_zeros (P:=AB) w 183 3 183 stT ti _ .i64 .i64 Cy Tryz.underlying3 cr tz (some ⟨g,0,none⟩) i n (xs.take (i*22)) ay (n+1 - i) no (by rw[ca];omega) no no (by rw[b0];omega) (by rw[b0,show i+(n+1 - i)=n+1 from no];exact growslice_fits no no);rw[show i+(n+1 - i)=n+1 from no,<-hG]at h;rw[show(n:Int)+1 - (i:Int)=((n+1 - i:Nat):Int)from no,V];exact h
 obtain⟨W1,ap⟩:∃W1,W1=w.drew.alloc (.cells ab stT):=⟨_,rfl⟩;rw[<-ap]at bq;have be:W1.heap[w.heap.size]? =some (.cells ab stT (0,0)):=by rw[ap];exact Bm w.drew _
 have J:mBw w W1:=by rw[ap];exact(aN (AF _ _) 1).trans ((iz w.drew _).mono (AE _))
 obtain⟨W2,cz,cn,F,bi,a6,bt,kY⟩:=ki (p:=AB) (dT:=183) (sT:=183) (ty:=3) (sz:=22) (o:=i*22) (L:=n+1 - i) (C:=G - i) (M:=1) (C':=cx) (a:=ax) (news:=I) Cy Aa be
  (by rw[an];simp only[Nat.min_def];split<;>omega) (λj u Z=>by have:=ak j u Z;rw[<-J.cell (p:=ax.add j) (block_lt_of_cell this)]at this;exact this) (by rw[an,ao];omega) a0
 have ar:(xs.drop (i*22)).length=(n - i)*22:=by rw[CB,ac];omega
 obtain⟨W3,ad,cp,H,a5,bO,bz,aa⟩:=ki (p:=AB) (w:=W2.drew) (dT:=183) (sT:=183) (ty:=3) (sz:=22) (o:=(i+1)*22) (L:=n - i) (C:=G - (i+1)) (M:=n - i) (C':=n - i) (a:=⟨g,i*22,none⟩) (news:=xs.drop (i*22)) Cy Aa bi
  (by rw[ar];simp only[Nat.min_self]) (λj u Z=>by
   rw[Cv]at Z;have h1:=K _ u Z;rw[Addr.add_lit];have h2:W2.heap[g]? =w.heap[g]? :=(F.block g no).trans (J.block g bb);have h3:W2.drew.cell? ⟨g,i*22+j,none⟩=w.cell? ⟨g,i*22+j,none⟩:=BZ (w:=w) (w':=W2.drew) (a:=⟨g,i*22+j,none⟩) h2;rw[h3];exact h1) (by rw[ar,a6,ao];omega) (λu hu=>au u (EM hu))
 have k1:∀k,k<i*22->ad[k]? =xs[k]? :=λk U=>by
  rw[aa k (.inl no),kY k (.inl U),V,Array.append_assoc,Array.getElem?_append_left (by simp;omega)];simp[BI,U]
 have k2:∀k,k<22->ad[i*22+k]? =I[k]? :=λk U=>by
  rw[aa _ (.inl no),bt k _ (AJ no),AJ no]
 have k3:∀k,k<(n - i)*22->ad[(i+1)*22+k]? =xs[i*22+k]? :=λk U=>by
  rw[bz k _ (AJ no),List.getElem_drop,AJ]
 have av:(Vp.ownr stT 22 (n+1) (bB (S.take i++s::S.drop i))).p W3 (.slice (some ⟨w.heap.size,0,none⟩) (n+1) G):=by
  have cl:mBw w W3:=(J.trans ⟨F.os,F.tape,F.output,by rw[F.size];exact AE _,λk U=>F.block k no⟩).trans ⟨H.os,H.tape,H.output,by rw[H.size];exact AE _,λk U=>H.block k no⟩;refine⟨xs.take (i*22)++(I++xs.drop (i*22)),⟨⟨?_,.inr ⟨w.heap.size,G,ad,rfl,AY _,a5,cc,cb,by rw[bO,a6,ao],?_⟩⟩,λg' a4=> ?_⟩,?_⟩
  ·simp only[Bh,A9,ar,ac,an];omega
  ·exact wH no ac an (by rw[bO,a6,ao];omega) k1 k2 k3
  ·injection a4 with a4;subst a4;refine⟨ad,stT,a5,λk m U=> ?_⟩;by_cases a1:k<i*22
   ·rw[k1 k a1]at U;exact(au _ (A0 U)).2.2 m rfl
   ·by_cases a2:k<(i+1)*22
    ·rw[show k=i*22+(k - i*22)from no,k2 _ no]at U;exact(a0 _ (A0 U)).2.2 m rfl
    ·by_cases a3:k<(n+1)*22
     ·rw[show k=(i+1)*22+(k - (i+1)*22)from no,k3 _ no]at U;exact(au _ (A0 U)).2.2 m rfl
     ·rw[aa k (.inr (by rw[ar];omega)),kY k (.inr (by rw[an];omega)),V,Array.getElem?_append_right (by simp only[Array.size_append,Cb,size_zeroCells,qd,A9,ac];omega)]at U;exact ww z22_noU (by rw[qd];decide) _ _ (by rw[<-GQ]at U;exact A0 U) m rfl
  ·subst hn;exact(sq no hc aq).chg (.below cl)
 have am:w.grownBy W3 (some g):=by
  refine⟨?_,?_,?_,?_,λk U c6=> ?_⟩
  ·rw[H.os];exact F.os.trans J.os
  ·rw[H.tape];exact F.tape.trans J.tape
  ·rw[H.output];exact F.output.trans J.output
  ·rw[H.size];show _<=W2.heap.size;rw[F.size];exact J.size
  ·exact(H.block k no).trans ((F.block k no).trans (J.block k U))
 have a7:Own W3 g:=by
  obtain⟨cs,t,h1,h2⟩:=cd;exact⟨cs,t,by rw[H.block g no];exact(F.block g no).trans ((J.block g bb).trans h1),h2⟩
 have u0:∀w,(underlying 183).run AB w= .ok (.slice 120) w:=λw=>run_underlying Cy
 have hz:∀w,(Go.sizeOf 120).run AB w= .ok 22 w:=λw=>ba Aa
 have c7:Be.wrap ((n:Int)+1)=(n:Int)+1:=by rw[Ci];omega
 have c8:Be.wrap ((i:Int)+1)=(i:Int)+1:=by rw[Ci];omega
 have c9:Be.wrap ((n:Int)+1 - (i:Int))=(n:Int)+1 - (i:Int):=by rw[Ci];omega
 have b1:¬((i:Int)=(n:Int)):=no
 have b2:(n:Int)<(n:Int)+1:=no
 have b3:(i:Int)<=(n:Int):=no
 have b4:(0:Int)<=(i:Int)+1:=no
 have b5:((i:Int)+1).toNat=i+1:=no
 have b6:¬(G=i):=no
 have b7:¬(G=i+1):=no
 have b8:¬(n=i):=no
 have b9:(i:Int)+1<=(n:Int)+1:=no
 have c1:i<=n:=no
 have c2:i<=n+1:=no
 have c3:i+1<=n+1:=no
 have c4:n+1 - (i+1)=n - i:=no
 have cu:AB.follows .mixedOrders=true:=Aa
 subst hn;have HF:=av;have HG:=am;have HO:=a7;clear av am a7 k1 k2 k3 bt bz kY aa K ak ay V hG ap aq hc hx au a0 be bi a5 J F H Y;go_enter Tryz.func187,Tryz.ntmps187
 go_wp2_with (first
  | (at_builtin;refine oO rfl _ _ _ _ rfl _ _ rfl rfl bq ?_)
  | (at_builtin;refine ju rfl _ _ _ _ rfl _ _ rfl rfl cn ?_))
 go_region_law_o (refine kM rfl _ _ 183 183 rfl (.slice (some ⟨w.heap.size,(i+1)*22,none⟩) (S.length - i) (G - (i+1))) (.slice (some ⟨g,i*22,none⟩) (S.length - i) (S.length - i)) (by simp[Dd,AI]) (by simp[Dd,AI]) cp ?_)
 go_wp2;go_ret;exact⟨_,rfl,HF,HG,λg' h=>(by have h:g=g':=A3.inj h;subst h;exact HO),λg' h=>.inr (by have h:w.heap.size=g':=A3.inj h;omega)⟩
set_option maxHeartbeats 4000000 in
theorem q_Ins3(g cap:Nat)(x:Value)(S:List St)(s:St)(i:Nat)(w:World)(hv:(Vp.ownr stT 22 S.length (bB S)).p w (.slice (some ⟨g,0,none⟩) S.length cap))(hx:(Vp.row stT 1 s.qs).p w x)(a6:∀a n c,x= .slice (some a) n c->a.block≠g)(hi:i<S.length)(J:S.length+1<=cap)(hS:S.length<=1000000):
  AC AB 187 #[.slice (some ⟨g,0,none⟩) S.length cap,.int .i64 (i:Int),x] w λe w'=>InsP w (.slice (some ⟨g,0,none⟩) S.length cap) S s i e w':=by
 obtain⟨xs,⟨⟨an,ho⟩,a4⟩,hc⟩:=hv;have ay:=a4 g rfl;obtain⟨cur,hg,bq,bi,Z,I⟩:∃cur,w.heap[g]? =some (.cells cur stT (0,0))/\S.length<=cap/\cap<=maxLen/\cur.size=cap*22/\cur.toList.take (S.length*22)=xs:=by
  rcases ho with⟨h,_⟩ | ⟨g',cc,cur,e,_,h1,h2,h5,h3,h4⟩
  ·cases h
  ·injection e with e1 e2 e3;injection e1 with e1;injection e1 with e1;subst e1;subst e3;exact⟨cur,h1,h2,h5,h3,h4⟩
 obtain⟨vb,vo,cx,ao,rfl,cr,am,b0⟩:=row_at hx (by intro e;cases e);obtain⟨ax,cq,F,e,ac,Y⟩:=p9 hx (by intro e;cases e);injection e with e1 e2 e3;injection e1 with e1;subst e1;subst e3;have a5:vb≠g:=a6 _ _ _ rfl;obtain⟨n,hn⟩:∃n,n=S.length:=⟨_,rfl⟩;rw[<-hn]at an hi hS J bq I⊢;have aa:F.length=22:=ac.1;have cu:g<w.heap.size:=(AZ.1 hg).1;have P:∀j u,xs[j]? =some u->w.cell? ⟨g,j,none⟩=some u:=λj u hj=>by
  rw[aH hg,<-GQ];rw[<-I,BI]at hj;split at hj
  ·exact hj
  ·cases hj
 have a7:∀k,k<n*22->cur[k]? =xs[k]? :=λk H=>by rw[<-I,BI,if_pos H,GQ]
 have ak:∀u∈xs,fB u:=hc.flat;have ar:∀u∈F,fB u:=ac.flat;have b8:∀w,(Go.sizeOf 120).run AB w= .ok 22 w:=λw=>ba Aa
 have bz:∀lb cb,(callFunc 237 #[.slice (some ⟨vb,vo,none⟩) 1 cx,.slice (some ⟨g,(i+1)*22,none⟩) lb cb]).run AB w= .ok (.value (.bool false)) w:=λlb cb=>by
  rw[run_callFunc_extern Tryz.func237 Aa Aa Aa (e:=Extern.SlicesOverlaps.overlaps #[183,183] #[4]) Aa,
   Lib.run_overlaps_apart w 183 4 120 Cy 22 b8 ⟨vb,vo,none⟩ ⟨g,(i+1)*22,none⟩ 1 cx lb cb a5 stT stT ao.size cur.size (by unfold World.shape?;rw[am]) (by unfold World.shape?;rw[hg]) (by rw[Z];omega) (En w vb vo ao _ am) (En w vb ao.size ao _ am)]
  rfl
 have ad:(xs.drop (i*22)).length=(n - i)*22:=by rw[CB,an];omega
 obtain⟨W1,cp,hr1,K,a0,av,a9,ab⟩:=ki (p:=AB) (w:=w.drew) (dT:=183) (sT:=183) (ty:=3) (sz:=22) (o:=(i+1)*22) (L:=n - i) (C:=cap - (i+1)) (M:=n+1 - i) (C':=cap - i) (a:=⟨g,i*22,none⟩) (news:=xs.drop (i*22)) Cy Aa hg
  (by rw[ad];simp only[Nat.min_def];split<;>omega) (λj u hj=>by
   rw[Cv]at hj;rw[Addr.add_lit];exact P _ u hj) (by rw[ad,Z];omega) (λu hu=>ak u (EM hu))
 obtain⟨W2,V,bO,U,au,be,bb,kY⟩:=ki (p:=AB) (dT:=183) (sT:=183) (ty:=3) (sz:=22) (o:=i*22) (L:=n+1 - i) (C:=cap - i) (M:=1) (C':=cx) (a:=⟨vb,vo,none⟩) (news:=F) Cy Aa a0
  (by rw[aa];simp only[Nat.min_def];split<;>omega) (λj u hj=>by
   have h1:=Y j u hj;have h2:W1.heap[vb]? =w.heap[vb]? :=K.block vb a5;rw[Addr.add_lit]at h1⊢;rw[BZ (w:=w) (w':=W1) (a:=⟨vb,vo+j,none⟩) h2];exact h1) (by rw[aa,av,Z];omega) ar
 have k1:∀k,k<i*22->V[k]? =xs[k]? :=λk H=>by
  rw[kY k (.inl H),ab k (.inl no),a7 k no]
 have k2:∀k,k<22->V[i*22+k]? =F[k]? :=λk H=>by
  rw[bb k _ (AJ no),AJ no]
 have k3:∀k,k<(n - i)*22->V[(i+1)*22+k]? =xs[i*22+k]? :=λk H=>by
  rw[kY _ (.inr no),a9 k _ (AJ no),List.getElem_drop,AJ]
 have aq:Own W2 g:=by
  obtain⟨cs,t,h1,h2⟩:=ay;rw[hg]at h1;injection h1 with h1;injection h1 with h1 _;subst h1;refine⟨V,stT,au,λk m H=> ?_⟩;by_cases a1:k<i*22
  ·rw[k1 k a1]at H;exact(ak _ (A0 H)).2.2 m rfl
  ·by_cases a2:k<(i+1)*22
   ·rw[show k=i*22+(k - i*22)from no,k2 _ no]at H;exact(ar _ (A0 H)).2.2 m rfl
   ·by_cases a3:k<(n+1)*22
    ·rw[show k=(i+1)*22+(k - (i+1)*22)from no,k3 _ no]at H;exact(ak _ (A0 H)).2.2 m rfl
    ·rw[kY k (.inr (by rw[aa];omega)),ab k (.inr (by rw[ad];omega))]at H;exact h2 k m H
 have G:w.grownBy W2 (some g):=by
  refine⟨U.os.trans K.os,U.tape.trans K.tape,U.output.trans K.output,?_,λk H bt=> ?_⟩
  ·rw[U.size];show _<=W1.heap.size;rw[K.size];exact AE _
  ·have:k≠g:=λe=>bt (by rw[e])
   exact(U.block k this).trans (K.block k this)
 have ap:(Vp.ownr stT 22 (n+1) (bB (S.take i++s::S.drop i))).p W2 (.slice (some ⟨g,0,none⟩) (n+1) cap):=by
  refine⟨xs.take (i*22)++(F++xs.drop (i*22)),⟨⟨?_,.inr ⟨g,cap,V,rfl,AY _,au,J,bi,by rw[be,av,Z],?_⟩⟩,λg' bp=> ?_⟩,?_⟩
  ·simp only[Bh,A9,ad,an,aa];omega
  ·exact wH no an aa (by rw[be,av,Z];omega) k1 k2 k3
  ·have:g=g':=A3.inj bp;subst this;exact aq
  ·subst hn;refine(sq no hc ac).chg (X:=λx=>x=g) ⟨G.size,λk H hX=>G.block k H (λe=>hX (A3.inj e)),λk H=> ?_⟩;subst H;exact ay.x
 have u0:∀w,(underlying 183).run AB w= .ok (.slice 120) w:=λw=>run_underlying Cy
 have cv:Be.wrap ((n:Int)+1)=(n:Int)+1:=by rw[Ci];omega
 have cz:Be.wrap ((i:Int)+1)=(i:Int)+1:=by rw[Ci];omega
 have b1:¬((i:Int)=(n:Int)):=no
 have b2:¬((cap:Int)<(n:Int)+1):=no
 have b3:(i:Int)<=(n:Int):=no
 have b4:(0:Int)<=(i:Int)+1:=no
 have b5:((i:Int)+1).toNat=i+1:=no
 have b6:¬(cap=i):=no
 have b7:¬(cap=i+1):=no
 have b9:(i:Int)+1<=(n:Int)+1:=no
 have cd:(0:Int)<=(n:Int)+1:=no
 have cn:(i:Int)<=(n:Int)+1:=no
 have cl:(n:Int)+1<=(cap:Int):=no
 have cm:((n:Int)+1).toNat=n+1:=no
 have c0:n+1<=cap:=J;have c1:i<=n:=no
 have c2:i<=n+1:=no
 have c3:i+1<=n+1:=no
 have c4:n+1 - (i+1)=n - i:=no
 have ca:AB.follows .mixedOrders=true:=Aa
 subst hn;have HF:=ap;have HG:=G;have HO:=aq;clear ap G aq k1 k2 k3 a9 bb ab kY P a7 Y ac hc hx ak ar a0 au K U I am b0 a6 hg;go_enter Tryz.func187,Tryz.ntmps187
 go_wp2_with (simp only[bz])
 go_region_law_o (refine kM rfl _ _ 183 183 rfl (.slice (some ⟨g,(i+1)*22,none⟩) (S.length - i) (cap - (i+1))) (.slice (some ⟨g,i*22,none⟩) (S.length+1 - i) (cap - i)) (by simp[Dd,AI]) (by simp[Dd,AI]) hr1 ?_)
 go_wp2_with (at_builtin;refine ju rfl _ _ _ _ rfl _ _ rfl rfl bO ?_)
 go_ret;exact⟨_,rfl,HF,HG,λg' h=>(by have h:g=g':=A3.inj h;subst h;exact HO),λg' h=>.inl h⟩
theorem q_InsertS(v x:Value)(S:List St)(s:St)(i:Nat)(w:World)(C:(Vp.ownr stT 22 S.length (bB S)).p w v)(H:(Vp.row stT 1 s.qs).p w x)(I:∀g,v.ownBlock=some g->∀a n c,x= .slice (some a) n c->a.block≠g)(hi:i<=S.length)(F:S.length<=1000000):
  AC AB 187 #[v,.int .i64 (i:Int),x] w λe w'=>InsP w v S s i e w':=by
 by_cases h:i=S.length
 ·subst h;exact q_Ins1 v x S s w C H F
 ·have G:=C;obtain⟨xs,⟨⟨_,K⟩,_⟩,_⟩:=G;rcases K with⟨rfl,h0⟩ | ⟨g,cap,cur,rfl,_,_,J,_⟩
  ·omega
  ·by_cases hr:S.length+1<=cap
   ·exact q_Ins3 g cap x S s i w C H (I g rfl) no hr F
   ·exact q_Ins2 g cap x S s i w C H no no F
section
variable {ρ:Rho} {n m k r j:Nat} {u v c:Int} {b d:Bool} {l l':Leaf} {t T e:TypeId} {B:Blk} {w:World} {ik:C9} {x:St} {S:List St} {qs:List Vp} {L sz:Nat}
theorem run_slTo{v1:Value}(ht:p.underlying t=some (.slice e))(hz:szB p e=some 22)(h:(Vp.row T S.length (bB S)).p w v1)(I:k<=S.length):∃y,(CI t v1 none (some (.int .i64 (k:Int))) none).run p w= .ok y w/\(Vp.row T k (bB (S.take k))).p w y/\∀g,y.ownBlock=some g->v1.ownBlock=some g:=by
 rcases h with⟨h,h0,rfl⟩ | ⟨b,o,c,cs,rfl,hc,hb,H⟩
 ·have C:k=0:=no
  subst C;refine⟨.slice none 0 0,?_,.inl ⟨by simp[bB],rfl,rfl⟩,λg h=>h⟩;simp[CI,DZ,EO,EP,asIntOf,AH,run_underlying ht,ba hz,AQ,h0]
 ·refine⟨.slice (some ⟨b,o,none⟩) k c,?_,.inr ⟨b,o,c,cs,rfl,no,hb,λj q G=>H j q (rowS_take S k j q G)⟩,λg h=>h⟩;have F:k<=c:=no
  simp[CI,DZ,EO,EP,asIntOf,AH,run_underlying ht,ba hz,AQ,F,sn]
theorem qe{v1:Value}(ht:p.underlying t=some (.slice e))(hz:szB p e=some 22)(h:(Vp.row T S.length (bB S)).p w v1)(F:k<=S.length):∃y,(CI t v1 (some (.int .i64 (k:Int))) none none).run p w= .ok y w/\(Vp.row T (S.length - k) (bB (S.drop k))).p w y/\∀g,y.ownBlock=some g->v1.ownBlock=some g:=by
 rcases h with⟨h,h0,rfl⟩ | ⟨b,o,c,cs,rfl,hc,hb,J⟩
 ·have G:k=0:=no
  subst G;refine⟨.slice none 0 0,?_,.inl ⟨by simpa using h,by simpa using h0,rfl⟩,λg h=>h⟩;simp[CI,DZ,EO,EP,asIntOf,AH,run_underlying ht,ba hz,AQ,h0]
 ·refine⟨.slice (some ⟨b,if c=k then o else o+k*22,none⟩) (S.length - k) (c - k),?_,.inr ⟨b,_,_,cs,rfl,no,hb,λj q C=> ?_⟩,λg h=>h⟩
  ·have H:(k:Int)<=(S.length:Int):=no
   by_cases hck:c=k
   ·simp[CI,DZ,EO,EP,asIntOf,AH,run_underlying ht,ba hz,AQ,H,F,hck]
   ·simp[CI,DZ,EO,EP,asIntOf,AH,run_underlying ht,ba hz,AQ,H,F,hck,bM]
  ·by_cases hck:c=k
   ·have I:S.drop k=[]:=List.drop_eq_nil_of_le no;rw[I]at C;simp[bB]at C
   ·rw[if_neg hck,Nat.add_assoc];exact J _ q (rowS_drop S k F j q C)
end
section
variable {ρ:Rho} {n m k r j:Nat} {u v c:Int} {b d:Bool} {l l':Leaf} {t T e:TypeId} {B:Blk} {w:World} {ik:C9} {x:St} {S:List St} {qs:List Vp} {L sz:Nat} {sl:Value} {pin:Bool}
end
structure TrkS(T:TypeId)(w:World)(g:Nat)(sl:Value)(S:List St):Prop where
 blk:w.heap[g]? =some (.cells #[sl] T (0,0))
 row:(Vp.row stT S.length (bB S)).p w sl
 ne:∀b,sl.ownBlock=some b->b≠g
structure TrkM(T:TypeId)(w:World)(g:Nat)(sl:Value)(S':List St)(w':World):Prop where
 ex:∃sl',TrkS T w' g sl' S'/\∀b,sl'.ownBlock=some b->sl.ownBlock=some b\/(w.heap.size<=b/\bw w' b)
 kept:(Ent.mk w (λx=>x=g) []).kept w'
section
variable {ρ:Rho} {w:World} {C:List Inst} {L:List OIns} {T:TypeId} {g m:Nat} {sl:Value} {S S':List St} {pin:Bool}
end
section
variable {ρ:Rho} {n m m' k r j u:Nat} {T:TypeId} {B:Blk} {w:World} {S S':List St} {f:BL} {args xs:List SV} {l:Leaf}
theorem tN{qs:List Vp}{y:Value}(h:(Vp.ownr T sz L qs).p w y):∀b,y.ownBlock=some b->bw w b:=λb hb=>by
 obtain⟨xs,⟨_,h0⟩,_⟩:=h;exact(h0 b hb).x
end
def plN:List St->Int->Nat
 | [],_=>0
 | s::S,a=>if s.tm<a then plN S a+1 else 0
theorem ii:∀(S:List St)(a:Int),plN S a<=S.length
 | [],_=>AE _
 | s::S,a=>by
  simp only[plN,Bg];split
  ·have:=ii S a;omega
  ·omega
theorem eN:∀ {S:List St} {a:Int} {k:Nat},k<plN S a->∃s,S[k]? =some s/\s.tm<a
 | [],_,_,h=>by simp[plN]at h
 | s::S,a,k,h=>by
  simp only[plN]at h;split at h
  ·rename_i hs
   match k with
   | 0=>exact⟨s,rfl,hs⟩
   | k+1=>
    obtain⟨x,h1,h2⟩:=eN (S:=S) (a:=a) (k:=k) no;exact⟨x,by simpa using h1,h2⟩
  ·omega
theorem tO:∀ {S:List St} {a:Int},plN S a<S.length->∃s,S[plN S a]? =some s/\¬s.tm<a
 | [],_,h=>Ao
 | s::S,a,h=>by
  simp only[plN]at h⊢;split
  ·rename_i hs;rw[if_pos hs]at h;obtain⟨x,h1,h2⟩:=tO (S:=S) (a:=a) (by simp at h;omega);exact⟨x,by simpa using h1,h2⟩
  ·rename_i hs;exact⟨s,rfl,hs⟩
def opp(a b:Pq):Prop:=(a.rot.inv.mul b.rot).w.p=0
variable{u v:Int}
theorem ib_eql_t(h:u=v):intB .eql u v=some true:=by simp[intB,h]
theorem ib_eql_f(h:u≠v):intB .eql u v=some false:=by simp[intB,h]
def zj(w:World)(v:Value)(s:St):Prop:=∃cs:List Value,v= .agg (.int .i64 s.tm::cs).toArray/\bo w (s.pose.cs.map Fq.raw) cs
variable{xs:List Fq}{s:St}
theorem st_isS{n:Nat}{v:Value}(hn:(frs xs++ys)[n]? =some (.val (.int .i64 s.tm)))(ha:AtL xs ks s.pose.cs):(SV.agg (.ref n::oG ks)).holds (frs xs++ys) B w v↔zj w v s:=by
 constructor
 ·rintro⟨vs,rfl,h⟩
  match vs,h with
  | v0::vs,h=>
   have:=cT hn h.1;subst this;exact⟨vs,rfl,(eL ha).1 h.2⟩
 ·rintro⟨cs,rfl,h⟩;exact⟨.int .i64 s.tm::cs,rfl,bx _ hn ck,(eL ha).2 h⟩
section
variable {ρ:Rho} {w:World} {C:List Inst} {L:List OIns} {T:TypeId} {g m:Nat} {sl:Value} {S S':List St}
end
theorem iK(G: -9223372036854775808<=v)(rv:v<9223372036854775808)(F: -9223372036854775808<=u)(H:u<9223372036854775808)(h0:u≠0):(Fq.ratio v u).ok 2:=Fq.ok_low (kX G rv) (kX F H) no
theorem du(h0:u≠0):(Fq.ratio v u).valid=true:=kh no
section
variable {xs:List Fq} {ys:Rho} {k:Nat} {v u:Int} {l1 l2:Leaf}
theorem wJ(k:Nat)(u v:Int)(h1:KI (frs xs++ys) l1 .i64 v)(h2:KI (frs xs++ys) l2 .i64 u)(J: -9223372036854775808<=v)(rv:v<9223372036854775808)(I: -9223372036854775808<=u)(K:u<9223372036854775808)(h0:u≠0)(H:xs[k]? =some (.ratio v u)):OkI xs ys ⟨166,[.one l1,.one l2],.tup [fr k,.one (.i .i64 0)]⟩:=
 ⟨ah Tryz.func166 rfl rfl,λB w vs P h=>by
  match vs,h with
  | [va,vb],h=>
   have F:=h1 B w va h.1;have G:=h2 B w vb h.2.1;subst F;subst G;refine(vG v u w J rv I K h0).mono ?_;rintro e w' ⟨v,rfl,h1,h2⟩;exact⟨_,rfl,⟨[v,.int .i64 0],rfl,(aw _ _ H).2 h1,rfl,trivial⟩,h2⟩⟩
theorem I_ratioR(h1:KI (frs xs++ys) l1 .i64 v)(h2:KI (frs xs++ys) l2 .i64 u)(J: -9223372036854775808<=v)(rv:v<9223372036854775808)(I: -9223372036854775808<=u)(K:u<9223372036854775808)(h0:u≠0)(H:xs[k]? =some (.ratio v u)):OkI xs ys ⟨169,[.one l1,.one l2],.tup [fr k,.one (.i .i64 0)]⟩:=
 ⟨ah Tryz.func169 rfl rfl,λB w vs P h=>by
  match vs,h with
  | [va,vb],h=>
   have F:=h1 B w va h.1;have G:=h2 B w vb h.2.1;subst F;subst G;refine(vH v u w J rv I K h0).mono ?_;rintro e w' ⟨v,rfl,h1,h2⟩;exact⟨_,rfl,⟨[v,.int .i64 0],rfl,(aw _ _ H).2 h1,rfl,trivial⟩,h2⟩⟩
end
theorem half_p:(Fq.ratio 1 2).p≠0:=it
theorem half_1:(Fq.ratio 1 2)≠(Fq.ofInt 1):=λh=>absurd (congrArg Fq.q h) it
section
variable {ρ ρ':Rho} {n m k r N:Nat} {u v c:Int} {l l':Leaf} {t T e:TypeId} {B:Blk} {w:World} {x:St} {S:List St} {sl:Value} {pin:Bool}
theorem hq0:∀(j:Nat)(q:Vp),x.qs[j]? =some q->x.qs[0+j]? =some q:=λj q h=>by rw[A5];exact h
theorem hq1:∀(j:Nat)(q:Vp),(frs x.pose.cs)[j]? =some q->x.qs[1+j]? =some q:=λj q h=>by rw[Nat.add_comm];exact h
end
section
variable {ρ:Rho} {n m k r j u:Nat} {T:TypeId} {B:Blk} {w:World} {S S':List St} {f:BL} {args xs:List SV} {l:Leaf} {sl0:Value} {pin:Bool}
end
section
variable {xs:List Fq} {ys ρ:Rho} {n m k j:Nat} {l:Leaf} {x:St} {S:List St} {sl:Value} {pin:Bool} {ks:List Nat} {T:TypeId}
end
def xclFX(a:Fq):List Fq:=[a]
theorem q_clF(va:Value)(a:Fq)(w:World)(ia:IsQ w va a)(ha:a.ok 1000000000):
  AC AB 214 #[va] w λe w'=>fg w a e w':=by
 exact(cR0 (xclFX a) [fr 0] [va] (.v (fr 0)) (il2 (mI 1 1 rfl rfl (AD ha.p it)) (mI 2 2 rfl rfl (AD ha.q it))) Tryz.func214 ⟨(aw 0 (xclFX a) rfl).2 ia,trivial⟩).mono (mMo λh=>(aw 0 (xclFX a) rfl).1 h)
theorem qf(ia G:Nat){a:Fq}(H:xs[ia]? =some a)(I:xs[G]? =some a)(ha:a.ok 1000000000):OkI xs ys ⟨214,[fr ia],.v (fr G)⟩:=
 mI1 Tryz.func214 λF=>(q_clF _ a _ ((aw _ _ H).1 F) ha).mono (mMo λh=>(aw _ _ I).2 h)
def xclSX(s:St):List Fq:=s.pose.cs
theorem q_clS(v:Value)(s:St)(w:World)(i:zj w v s)(hs:s.pose.ok 1000000000):
  AC AB 165 #[v] w λe w'=>∃v,e= .returned v/\zj w' v s/\mBw w w':=by
 exact(cR1 (xclSX s) [.val (.int .i64 s.tm)] [.agg (.ref 21::oG [0,1,2,3,4,5,6])] [v] (.v (.agg (.ref 21::oG [0,1,2,3,4,5,6]))) (il7 (qf 0 0 rfl rfl (hs.rot.w.mono it)) (qf 1 1 rfl rfl (hs.rot.x.mono it)) (qf 2 2 rfl rfl (hs.rot.y.mono it)) (qf 3 3 rfl rfl (hs.rot.z.mono it)) (qf 4 4 rfl rfl (hs.pos.x.mono it)) (qf 5 5 rfl rfl (hs.pos.y.mono it)) (qf 6 6 rfl rfl (hs.pos.z.mono it))) az Tryz.func165 ⟨(st_isS (xs:=xclSX s) (n:=21) (ks:=[0,1,2,3,4,5,6]) (s:=s) rfl Ae).2 i,trivial⟩).mono (mMo λh=>(st_isS (xs:=xclSX s) (n:=21) (ks:=[0,1,2,3,4,5,6]) (s:=s) rfl Ae).1 h)
def aaL:List Fq:=[(Fq.ratio 1 2)]
theorem q_tHalf(w:World):
  AC AB 255 #[] w λe w'=>fg w (Fq.ratio 1 2) e w':=by
 exact(cR0 (aaL) [] [] (.v (fr 0)) (il1 (I_ratioR (v:=1) (u:=2) (k:=0) (wD 1) (wD 2) it it it it it rfl)) Tryz.func255 trivial).mono (mMo λh=>(aw 0 (aaL) rfl).1 h)
theorem aaM(F:Nat)(G:xs[F]? =some (Fq.ratio 1 2)):OkI xs ys ⟨255,[],.v (fr F)⟩:=
 ⟨ah Tryz.func255 rfl rfl,λB w vs H h=>by
  match vs,h with
  | [],h=>
   refine(q_tHalf w).mono ?_;exact mMo λh=>(aw _ _ G).2 h⟩
def xop1X(a:Pq)(b:Pq):List Fq:=(a.cs++(b.cs++([(Fq.ratio 1 2)]++(Pq.zero.cs))))
theorem q_op1(va vb:Value)(a:Pq)(b:Pq)(w:World)(ia:aR w va a)(I:aR w vb b)(ha:a.ok 100)(hb:b.ok 100)(F:a.good)(G:b.good)(H:(a.rot.inv.mul b.rot).w.p=0):
  AC AB 186 #[va,vb] w λe w'=>bI w (.bool true) e w':=by
 exact(cR0 (xop1X a b) [row [0,1,2,3,4,5,6],row [7,8,9,10,11,12,13]] [va,vb] (.v (.one (.b true))) (il2 (wJ 14 2 1 (wD 1) (wD 2) it it it it it rfl) (I_poBtw4 a b 14 [0,1,2,3,4,5,6] [7,8,9,10,11,12,13] [15,16,17,18,19,20,21] Ae Ae rfl Ae (ha.mono it) (hb.mono it) ((iK (v:=1) (u:=2) it it it it it).mono it) F G (du (v:=1) (u:=2) it) H half_p half_1)) EQ ⟨rO2 ia,⟨rO2 I,trivial⟩⟩).mono mMr
def xop0X(a:Pq)(b:Pq):List Fq:=(a.cs++(b.cs++([(Fq.ratio 1 2)]++((Pq.mk (a.rot.way (a.rot.inv.mul b.rot) (Fq.ratio 1 2)) (a.pos.lerp b.pos (Fq.ratio 1 2))).cs))))
theorem q_op0(va vb:Value)(a:Pq)(b:Pq)(w:World)(ia:aR w va a)(I:aR w vb b)(ha:a.ok 100)(hb:b.ok 100)(F:a.good)(G:b.good)(H:(a.rot.inv.mul b.rot).w.p≠0):
  AC AB 186 #[va,vb] w λe w'=>bI w (.bool false) e w':=by
 exact(cR0 (xop0X a b) [row [0,1,2,3,4,5,6],row [7,8,9,10,11,12,13]] [va,vb] (.v (.one (.b false))) (il2 (wJ 14 2 1 (wD 1) (wD 2) it it it it it rfl) (I_poBtw1 a b 14 [0,1,2,3,4,5,6] [7,8,9,10,11,12,13] [15,16,17,18,19,20,21] Ae Ae rfl Ae (ha.mono it) (hb.mono it) ((iK (v:=1) (u:=2) it it it it it).mono it) F G (du (v:=1) (u:=2) it) H)) EQ ⟨rO2 ia,⟨rO2 I,trivial⟩⟩).mono mMr
def xrop1X(a:Pq)(b:Pq):List Fq:=(a.cs++(b.cs++([(Fq.ratio 1 2)]++(Pq.zero.cs))))
theorem q_rop1(va vb:Value)(a:Pq)(b:Pq)(w:World)(ia:aR w va a)(I:aR w vb b)(ha:a.ok 100)(hb:b.ok 100)(F:a.good)(G:b.good)(H:(a.rot.inv.mul b.rot).w.p=0):
  AC AB 207 #[va,vb] w λe w'=>bI w (.bool true) e w':=by
 exact(cR0 (xrop1X a b) [row [0,1,2,3,4,5,6],row [7,8,9,10,11,12,13]] [va,vb] (.v (.one (.b true))) (il2 (aaM 14 rfl) (I_rpBtw4 a b 14 [0,1,2,3,4,5,6] [7,8,9,10,11,12,13] [15,16,17,18,19,20,21] Ae Ae rfl Ae (ha.mono it) (hb.mono it) ((iK (v:=1) (u:=2) it it it it it).mono it) F G (du (v:=1) (u:=2) it) H half_p half_1)) ER ⟨rO2 ia,⟨rO2 I,trivial⟩⟩).mono mMr
def xrop0X(a:Pq)(b:Pq):List Fq:=(a.cs++(b.cs++([(Fq.ratio 1 2)]++((Pq.mk (a.rot.way (a.rot.inv.mul b.rot) (Fq.ratio 1 2)) (a.pos.lerp b.pos (Fq.ratio 1 2))).cs))))
theorem q_rop0(va vb:Value)(a:Pq)(b:Pq)(w:World)(ia:aR w va a)(I:aR w vb b)(ha:a.ok 100)(hb:b.ok 100)(F:a.good)(G:b.good)(H:(a.rot.inv.mul b.rot).w.p≠0):
  AC AB 207 #[va,vb] w λe w'=>bI w (.bool false) e w':=by
 exact(cR0 (xrop0X a b) [row [0,1,2,3,4,5,6],row [7,8,9,10,11,12,13]] [va,vb] (.v (.one (.b false))) (il2 (aaM 14 rfl) (I_rpBtw1 a b 14 [0,1,2,3,4,5,6] [7,8,9,10,11,12,13] [15,16,17,18,19,20,21] Ae Ae rfl Ae (ha.mono it) (hb.mono it) ((iK (v:=1) (u:=2) it it it it it).mono it) F G (du (v:=1) (u:=2) it) H)) ER ⟨rO2 ia,⟨rO2 I,trivial⟩⟩).mono mMr
def zst:St:=⟨0,Pq.zero⟩
def fC(S:List St)(i:Nat)(s:St):List St:=S.take i++s::S.drop i
theorem iL(h:i<=S.length):(fC S i s).length=S.length+1:=by
 simp only[fC,Bh,A9,Bg,CB];omega
section
variable {ρ:Rho} {n m k r j u i:Nat} {a:Int} {S S':List St} {l la il:Leaf} {sl0:Value} {pin:Bool} {s:St} {xn:Nat}
end
structure RSt where
 tm:Int
 r0:Rq
 r1:Rq
 r2:Rq
 r3:Rq
 r4:Rq
 r5:Rq
 r6:Rq
def RSt.rs(x:RSt):List Rq:=[x.r0,x.r1,x.r2,x.r3,x.r4,x.r5,x.r6]
def tP(l:List Rq):List Vp:=l.flatMap λr=>[.val (.bool r.s),.dig r.L r.p,.dig r.N r.q]
def RSt.qs(x:RSt):List Vp:=.val (.int .i64 x.tm)::tP x.rs
def St.raw(s:St):RSt:=⟨s.tm,s.pose.rot.w.raw,s.pose.rot.x.raw,s.pose.rot.y.raw,s.pose.rot.z.raw,s.pose.pos.x.raw,s.pose.pos.y.raw,s.pose.pos.z.raw⟩
section
variable {ρ ρ':Rho} {n m k r j u N:Nat} {a:Int} {T:TypeId} {B:Blk} {w:World} {S S':List St} {f:BL} {args xs:List SV} {l la:Leaf} {sl0:Value} {pin:Bool} {x:RSt} {v:Value} {t:TypeId}
end
def qg(S:List St):Prop:=∀(i j:Nat)(x y:St),i<j->S[i]? =some x->S[j]? =some y->x.tm<y.tm
theorem qg.tail(h:qg (s::S)):qg S:=λi j x y F G hy=>h (i+1) (j+1) x y no Aw (by simpa using hy)
theorem kj:∀ {S:List St} {b:Int} {k:Nat} {x:St},qg S->plN S b<=k->S[k]? =some x->¬x.tm<b
 | [],_,_,_,_,_,h=>Ao
 | s::S,b,k,x,hs,hk,hx=>by
  simp only[plN]at hk;split at hk
  ·cases k with
   | zero=>omega
   | succ k=>exact kj (k:=k) hs.tail no (by simpa using hx)
  ·rename_i F
   cases k with
   | zero=>simp at hx;subst hx;exact F
   | succ k=>have:=hs 0 (k+1) s x no rfl hx;omega
section
variable {ρ:Rho} {n m j:Nat} {l la:Leaf} {x:St} {S1 S2 E:List St}
end
structure GoodT(s:St):Prop where
 ok:s.pose.ok 2
 good:s.pose.good
 lo:0<=s.tm
 hi:s.tm<=1099511627776
structure GoodS(S:List St):Prop where
 len:S.length<=64
 all:∀x∈S,GoodT x
 sort:qg S
 adj:∀(i:Nat)(x y:St),S[i]? =some x->S[i+1]? =some y->¬opp x.pose y.pose
theorem GoodS.at(h:GoodS S){x:St}(F:S[k]? =some x):GoodT x:=h.all x (A0 F)
theorem GoodS.nil:GoodS []:=⟨Ad,λx h=>Ao,λi j x y _ h=>Ao,λi x y h=>Ao⟩
variable{p:Nat}
theorem tQ(hp:p<=S.length)(h:i<p):(fC S p s)[i]? =S[i]? :=by
 unfold fC;rw[Bz (by rw[A9];omega),BI,if_pos h]
theorem tR(hp:p<=S.length):(fC S p s)[p]? =some s:=by
 unfold fC;have h1:(S.take p).length=p:=by rw[A9];omega
 rw[Bv no,h1,Nat.sub_self];rfl
theorem qh(hp:p<=S.length)(h:p<=i):(fC S p s)[i+1]? =S[i]? :=by
 unfold fC;have h1:(S.take p).length=p:=by rw[A9];omega
 rw[Bv no,h1,show i+1 - p=(i - p)+1 by omega,List.getElem?_cons_succ,Cv,show p+(i - p)=i by omega]
theorem wK(h:qg S)(hn:∀y,S[plN S s.tm]? =some y->y.tm≠s.tm):qg (fC S (plN S s.tm) s):=by
 have hp:=ii S s.tm;have hb:∀i x,i<plN S s.tm->S[i]? =some x->x.tm<s.tm:=λi x hi F=>by
  obtain⟨I,h1,h2⟩:=eN hi;rw[h1]at F;injection F with F;subst F;exact h2
 have ha:∀i x,plN S s.tm<=i->S[i]? =some x->s.tm<x.tm:=λi x hi F=>by
  have h1:=kj h hi F;by_cases e:i=plN S s.tm
  ·subst e;have:=hn x F;omega
  ·have hl:plN S s.tm<S.length:=by have:=(AX.1 F).1;omega
   have h2:=h _ _ _ _ (show plN S s.tm<i by omega) (AJ hl) F;have h3:=kj h (AE _) (AJ hl);omega
 intro i j x y H F hy;rcases Dr i (plN S s.tm)with hi | hi | hi
 ·rw[tQ hp hi]at F;rcases Dr j (plN S s.tm)with G | G | G
  ·rw[tQ hp G]at hy;exact h _ _ _ _ H F hy
  ·subst G;rw[tR hp]at hy;injection hy with hy;subst hy;exact hb i x hi F
  ·obtain⟨j,rfl⟩:∃k,j=k+1:=⟨j - 1,no⟩;rw[qh hp no]at hy;have:=hb i x hi F;have:=ha j y no hy;omega
 ·subst hi;rw[tR hp]at F;injection F with F;subst F;obtain⟨j,rfl⟩:∃k,j=k+1:=⟨j - 1,no⟩;rw[qh hp no]at hy;exact ha j y no hy
 ·obtain⟨j,rfl⟩:∃k,j=k+1:=⟨j - 1,no⟩;obtain⟨i,rfl⟩:∃k,i=k+1:=⟨i - 1,no⟩;rw[qh hp no]at F hy;exact h _ _ _ _ no F hy
theorem aaN(h:GoodS S)(hz:∀z,0<plN S s.tm->S[plN S s.tm - 1]? =some z->¬opp z.pose s.pose)(hy:∀y,S[plN S s.tm]? =some y->¬opp s.pose y.pose):∀(i:Nat)(x y:St),(fC S (plN S s.tm) s)[i]? =some x->(fC S (plN S s.tm) s)[i+1]? =some y->¬opp x.pose y.pose:=by
 have hp:=ii S s.tm;intro i x y G F;rcases Dr i (plN S s.tm)with hi | hi | hi
 ·rw[tQ hp hi]at G;by_cases e:i+1=plN S s.tm
  ·rw[e,tR hp]at F;injection F with F;subst F;exact hz x no (by rw[<-e];exact G)
  ·rw[tQ hp no]at F;exact h.adj i x y G F
 ·subst hi;rw[tR hp]at G;injection G with G;subst G;rw[qh hp (AE _)]at F;exact hy y F
 ·obtain⟨i,rfl⟩:∃k,i=k+1:=⟨i - 1,no⟩;rw[qh hp no]at G F;exact h.adj i x y G F
open Classical in
noncomputable def oP (S:List St) (s:St):List St×Int:=
 if s.tm<0∨1099511627776<s.tm then(S,4)
 else if∃y,S[plN S s.tm]? =some y∧y.tm=s.tm∧y.pose=s.pose then(S,0)
 else if∃y,S[plN S s.tm]? =some y∧y.tm=s.tm then(S,7)
 else if (∃z,0<plN S s.tm∧S[plN S s.tm - 1]? =some z∧opp z.pose s.pose)∨(∃y,S[plN S s.tm]? =some y∧opp s.pose y.pose)then(S,21)
 else if S.length<64 then(fC S (plN S s.tm) s,0)else((fC S (plN S s.tm) s).drop 1,0)
theorem addS_good(h:GoodS S)(hs:s.pose.ok 2)(K:s.pose.good):GoodS (oP S s).1:=by
 unfold oP;split
 ·exact h
 ·rename_i ht;split
  ·exact h
  ·split
   ·exact h
   ·rename_i h1 h2;split
    ·exact h
    ·rename_i h3;have hp:=ii S s.tm;have hn:∀y,S[plN S s.tm]? =some y->y.tm≠s.tm:=λy hy e=>h2 ⟨y,hy,e⟩
     have hz:∀z,0<plN S s.tm->S[plN S s.tm - 1]? =some z->¬opp z.pose s.pose:=λz h0 hz H=>h3 (.inl ⟨z,h0,hz,H⟩)
     have hy:∀y,S[plN S s.tm]? =some y->¬opp s.pose y.pose:=λy hy H=>h3 (.inr ⟨y,hy,H⟩)
     have I:∀x∈fC S (plN S s.tm) s,GoodT x:=λx F=>by
      unfold fC at F;rcases AG.1 F with F | F
      ·exact h.all x (FG F)
      ·rcases AS.1 F with F | F
       ·subst F;exact⟨hs,K,no,no⟩
       ·exact h.all x (EM F)
     have hl:=iL (s:=s) hp;split
     ·exact⟨by show(fC S (plN S s.tm) s).length<=64;omega,I,wK h.sort hn,aaN h hz hy⟩
     ·have U:((fC S (plN S s.tm) s).drop 1).length=(fC S (plN S s.tm) s).length - 1:=CB ..;have J:=h.len;refine⟨by show((fC S (plN S s.tm) s).drop 1).length<=64;omega,λx F=>I x (EM F),λi j x y P F G=> ?_,λi x y F G=> ?_⟩
      ·simp only[Cv]at F G;exact wK h.sort hn _ _ _ _ no F G
      ·simp only[Cv]at F G;exact aaN h hz hy (1+i) x y F (by rw[<-G];rfl)
section
variable {ρ:Rho} {n m k L:Nat} {t e:TypeId} {B:Blk} {w:World} {qs:List Vp}
theorem hr0{x:RSt}:∀(j:Nat)(q:Vp),x.qs[j]? =some q->x.qs[0+j]? =some q:=λj q h=>by rw[A5];exact h
theorem hr1{x:RSt}:∀(j:Nat)(q:Vp),(tP x.rs)[j]? =some q->x.qs[1+j]? =some q:=λj q h=>by rw[Nat.add_comm];exact h
end
theorem tS:∀ {S:List St} {b:Int} {k:Nat},(∀(i:Nat)(x:St),i<k->S[i]? =some x->x.tm<b)->(∀x,S[k]? =some x->¬x.tm<b)->k<=S.length->plN S b=k
 | [],_,k,_,_,hk=>by simp at hk;subst hk;rfl
 | s::S,b,0,_,h,_=>by
  have:=h s rfl;simp[plN,this]
 | s::S,b,k+1,h1,h2,hk=>by
  have h0:=h1 0 s no rfl;simp only[plN,if_pos h0];rw[tS (S:=S) (b:=b) (k:=k) (λi x hi F=>h1 (i+1) x no Ay) (λx F=>h2 x Ay) (by simp at hk;omega)]
inductive Road(S:List St)(a:Int):St->St->Int->Prop
 | E (h:S.length=0):Road S a zst zst 6
 | O1 (f:St) (hf:S[0]? =some f) (hn:0<S.length) (ha:a<f.tm):Road S a zst zst 17
 | O2 (f:St) (hf:S[0]? =some f) (hb:f.tm<=a) (l:St) (hl:S[S.length - 1]? =some l) (hn:0<S.length) (ha:l.tm<a):Road S a zst zst 17
 | Q (f:St) (hf:S[0]? =some f) (hb:f.tm<=a) (l:St) (hl:S[S.length - 1]? =some l) (hn:0<S.length) (ha:a<=l.tm) (y:St) (hy:S[plN S a]? =some y) (ey:y.tm=a) (hp:plN S a<S.length) (eq1:plN S (a+1)=plN S a+1):Road S a y y 0
 | M (f:St) (hf:S[0]? =some f) (hb:f.tm<=a) (l:St) (hl:S[S.length - 1]? =some l) (hn:0<S.length) (ha:a<=l.tm) (y:St) (hy:S[plN S a]? =some y) (ey:a<y.tm) (hp:plN S a<S.length) (h0:0<plN S a) (eq1:plN S (a+1)=plN S a) (z:St) (hz:S[plN S a - 1]? =some z):Road S a z y 0
theorem road(H:GoodS S)(a:Int):∃z y c,Road S a z y c:=by
 by_cases h0:S.length=0
 ·exact⟨_,_,_,.E h0⟩
 ·obtain⟨f,hf⟩:∃f,S[0]? =some f:=⟨_,AJ no⟩;obtain⟨l,hl⟩:∃f,S[S.length - 1]? =some f:=⟨_,AJ no⟩;by_cases ha:a<f.tm
  ·exact⟨_,_,_,.O1 f hf no ha⟩
  ·by_cases hb:l.tm<a
   ·exact⟨_,_,_,.O2 f hf no l hl no hb⟩
   ·have G:=ii S a;have hp:plN S a<S.length:=by
     by_cases e:plN S a=S.length
     ·obtain⟨x,h1,h2⟩:=eN (S:=S) (a:=a) (k:=S.length - 1) no;rw[hl]at h1;injection h1 with h1;subst h1;exact absurd h2 hb
     ·omega
    obtain⟨y,hy,I⟩:=tO hp;by_cases ey:y.tm=a
    ·refine⟨_,_,_,.Q f hf no l hl no no y hy ey hp (tS (λi x hi F=> ?_) (λx F=> ?_) no)⟩
     ·by_cases e:i=plN S a
      ·subst e;rw[hy]at F;injection F with F;subst F;omega
      ·obtain⟨J,h1,h2⟩:=eN (S:=S) (a:=a) (k:=i) no;rw[h1]at F;injection F with F;subst F;omega
     ·have:=H.sort _ _ _ _ (Nat.lt_succ_self _) hy F;omega
    ·have h1:0<plN S a:=by
      by_cases e:plN S a=0
      ·rw[e,hf]at hy;injection hy with hy;subst hy;omega
      ·omega
     obtain⟨z,hz⟩:∃f,S[plN S a - 1]? =some f:=⟨_,AJ no⟩;refine⟨_,_,_,.M f hf no l hl no no y hy no hp h1 (tS (λi x hi F=> ?_) (λx F=> ?_) G) z hz⟩
     ·obtain⟨J,h3,h2⟩:=eN (S:=S) (a:=a) (k:=i) hi;rw[h3]at F;injection F with F;subst F;omega
     ·rw[hy]at F;injection F with F;subst F;omega
noncomputable def atP(z y:St)(c a:Int):Pq:=
 if c≠0 then Pq.zero else if z.tm=y.tm then y.pose else Pq.mk (z.pose.rot.way (z.pose.rot.inv.mul y.pose.rot) (Fq.ratio (a - z.tm) (y.tm - z.tm))) (z.pose.pos.lerp y.pose.pos (Fq.ratio (a - z.tm) (y.tm - z.tm)))
section
variable {S:List St} {a:Int} {z y:St} {c:Int} {w:World} {g:Nat} {sl:Value}
end
theorem Pq.good.btw{a b:Pq}(F:a.good)(G:b.good)(H:m.valid=true):(Pq.mk (a.rot.way (a.rot.inv.mul b.rot) m) (a.pos.lerp b.pos m)).good:=Pq.good.mk (way_good F.rot (fo (aS F.rot) G.rot).comp H) (F.pos.lerp G.pos H)
variable{a:Int}
theorem road_z{z y:St}{c:Int}(F:GoodS S)(h:Road S a z y c)(h0:c=0):GoodT z/\GoodT y/\z.tm<=a/\a<=y.tm/\(z.tm=y.tm->z=y):=by
 cases h with
 | E _=>omega
 | O1 _ _ _ _=>omega
 | O2 _ _ _ _ _ _ _=>omega
 | Q f hf hb l hl hn ha y hy ey hp eq1=>exact⟨F.at hy,F.at hy,no,no,λ_=>rfl⟩
 | M f hf hb l hl hn ha y hy ey hp h1 eq1 z hz=>
  obtain⟨G,h2,h3⟩:=eN (S:=S) (a:=a) (k:=plN S a - 1) no;rw[hz]at h2;injection h2 with h2;subst h2;exact⟨F.at hz,F.at hy,no,no,no⟩
section
variable {xs:List Fq} {ys:Rho} {n m m' u n0 n1:Nat} {k:Nat} {ks kr k0 k1:List Nat} {l la lc:Leaf} {S S':List St} {a c t:Int} {z y s:St} {r:SV}
end
section
variable {ρ:Rho} {n m m' k r j u:Nat} {T:TypeId} {B:Blk} {w:World} {S S':List St} {f:BL} {args xs:List SV} {l:Leaf}
end
def gR(S:List St):Int×Int×Bool:=match S[0]?,S[S.length - 1]? with
 | some f,some l=>(f.tm,l.tm,true)
 | _,_=>(0,0,false)
section
variable {ρ:Rho} {n m m' k j u c n' j' s1 s2:Nat} {S:List St} {R:List RSt} {r:SV} {l la lb:Leaf} {M:Nat} {b:Bool} {x:RSt} {a:Int}
end
section
variable {S S':List St} {i t a:Int} {z y:St}
theorem ends{S:List St}{x:St}(H:GoodS S)(F:S[k]? =some x):∃f l,S[0]? =some f/\S[S.length - 1]? =some l/\f.tm<=x.tm/\x.tm<=l.tm/\k<S.length:=by
 have G:=(AX.1 F).1;refine⟨_,_,AJ no,AJ no,?_,?_,G⟩
 ·rcases Nat.eq_zero_or_pos k with e | e
  ·subst e;rw[AJ G]at F;injection F with F;rw[F];omega
  ·have:=H.sort 0 k _ _ e (AJ no) F;omega
 ·rcases Nat.lt_or_ge k (S.length - 1)with e | e
  ·have:=H.sort k (S.length - 1) _ _ e F (AJ no);omega
  ·have e:k=S.length - 1:=no
   subst e;rw[AJ G]at F;injection F with F;rw[F];omega
end
theorem atP_m{z y:St}(h:z.tm≠y.tm):atP z y 0 a=Pq.mk (z.pose.rot.way (z.pose.rot.inv.mul y.pose.rot) (Fq.ratio (a - z.tm) (y.tm - z.tm))) (z.pose.pos.lerp y.pose.pos (Fq.ratio (a - z.tm) (y.tm - z.tm))):=by
 unfold atP;rw[if_neg no,if_neg h]
section
variable {xs:List Fq} {ys:Rho} {u:Nat} {l la:Leaf} {S:List St} {a:Int} {z y:St} {kr:List Nat} {E:Pq} {r:SV}
end
section
open Classical
abbrev Nm:=ByteArray
structure Lk where
 par:Nm
 fr:Int
 un:Int
 st:Bool
 po:Pq
 tr:List St
abbrev Tr:=List (Nm×Lk)
def Lk.has(x:Lk)(a:Int):Bool:=decide (x.fr<=a) && (decide (x.un= -1) || decide (a<x.un))
noncomputable def lks(R:Tr)(c:Nm):List Lk:=(R.filter λq=>decide (q.1=c)).map (·.2)
noncomputable def tAt(R:Tr)(c:Nm)(a:Int):Option Lk:=(lks R c).find? (·.has a)
noncomputable def par(R:Tr)(a:Int)(c:Nm):Option Nm:=(tAt R c a).map (·.par)
theorem kk(c:Nm):lks [] c=[]:=rfl
theorem d8(q:Nm×Lk)(R:Tr)(c:Nm):lks (q::R) c=if q.1=c then q.2::lks R c else lks R c:=by
 unfold lks;by_cases h:q.1=c
 ·rw[if_pos h,List.filter_cons_of_pos Au];rfl
 ·rw[if_neg h,List.filter_cons_of_neg Au]
theorem gS(R Q:Tr)(c:Nm):lks (R++Q) c=lks R c++lks Q c:=by unfold lks;rw[List.filter_append,List.map_append]
variable{R:Tr}
theorem bU{c:Nm}{x:Lk}:x∈lks R c↔(c,x)∈R:=by
 unfold lks;constructor
 ·intro h;obtain⟨q,h1,rfl⟩:=Ba.1 h;obtain⟨h2,h3⟩:=E6.1 h1;have e:q.1=c:=by simpa using h3
  subst e;exact h2
 ·intro h;exact Ba.2 ⟨(c,x),E6.2 ⟨h,Ad⟩,rfl⟩
theorem aaO(R:Tr)(c:Nm):(lks R c).length<=R.length:=by unfold lks;rw[Cg];exact List.length_filter_le _ _
def jO(L:List Lk):Prop:=L.Pairwise λx y=>x.un≠ -1/\x.un<=y.fr
inductive Reach(R:Tr)(a:Int):Nm->Nm->Prop
 | refl (x:Nm):Reach R a x x
 | step {x y z:Nm} (h:par R a x=some y) (t:Reach R a y z):Reach R a x z
variable{x:Nm}
theorem Reach.snoc{y z:Nm}(h:Reach R a x y)(k:par R a y=some z):Reach R a x z:=by
 induction h with
 | refl x=>exact .step k (.refl _)
 | step h _ ih=>exact .step h (ih k)
def iM(R:Tr)(a:Int):Nm->Prop:=Acc λy x=>par R a x=some y
theorem iM.no_loop(h:iM R a x):∀y,par R a x=some y->¬Reach R a y x:=by
 induction h with
 | intro x _ F=>
  intro y hy G
  cases G with
  | refl=>exact F _ hy _ hy (.refl _)
  | step h t=>exact F y hy _ h (t.snoc hy)
theorem iM.mono{F:Tr}{a':Int}(hp:∀x y,par F a' x=some y->par R a x=some y)(h:iM R a x):iM F a' x:=by
 induction h with
 | intro x _ G=>exact .intro x (λy hy=>G y (hp x y hy))
theorem iM.add{G:Tr}{c p:Nm}(hc:∀x,x≠c->par G a x=par R a x)(hn:par G a c=some p)(hl:∀x,iM R a x)(F:¬Reach R a p c):∀x,iM G a x:=by
 have h1:∀x,iM R a x->¬Reach R a x c->iM G a x:=by
  intro x h
  induction h with
  | intro x _ H=>
   intro F;refine .intro x (λy hy=> ?_);have J:x≠c:=λe=>F (e▸ .refl _)
   have hy:par R a x=some y:=by rw[<-hc x J];exact hy
   exact H y hy (λI=>F (.step hy I))
 have h2:iM G a c:=.intro c (λy hy=>by
  have hy:par G a c=some y:=hy;rw[hn]at hy;injection hy with hy;subst hy;exact h1 p (hl p) F)
 intro x;have h:=hl x
 induction h with
 | intro x _ H=>
  by_cases e:x=c
  ·subst e;exact h2
  ·exact .intro x (λy hy=>H y (by rw[<-hc x e];exact hy))
noncomputable def up(R:Tr)(a:Int):Nat->Nm->Option Nm
 | 0,x=>some x
 | n+1,x=>(par R a x).bind (up R a n)
theorem par_mem{y:Nm}(h:par R a x=some y):x∈R.map (·.1):=by
 unfold par tAt at h
 cases hf:(lks R x).find? (·.has a)with
 | none=>rw[hf]at h;cases h
 | some q=>exact Ba.2 ⟨(x,q),bU.1 (Dg hf),rfl⟩
theorem iN:∀ {l m:List Nm},l.Nodup->(∀x∈l,x∈m)->l.length<=m.length
 | [],_,_,_=>AY _
 | x::l,m,hn,hs=>by
  obtain⟨h1,h2⟩:=Bu.1 hn;obtain⟨s,t,rfl⟩:=List.append_of_mem (hs x (Bo ..));have h3:∀y∈l,y∈s++t:=λy hy=>by
   have F:=hs y (Bf _ hy);rcases AG.1 F with G | G
   ·exact AG.2 (.inl G)
   ·rcases AS.1 G with H | H
    ·subst H;exact absurd hy h1
    ·exact AG.2 (.inr H)
  have F:=iN h2 h3;simp only[Bg,Bh]at F⊢;omega
theorem iM.bound(h:iM R a x):∃(l:List Nm)(y:Nm),l.Nodup/\(∀z∈l,(z∈R.map (·.1)/\par R a z≠none)/\Reach R a x z)/\up R a l.length x=some y/\par R a y=none/\Reach R a x y:=by
 induction h with
 | intro x G K=>
  cases hp:par R a x with
  | none=>exact⟨[],x,List.nodup_nil,λz hz=>(by cases hz),rfl,hp,.refl _⟩
  | some z=>
   obtain⟨l,y,h1,h2,h3,H,I⟩:=K z hp;have G:iM R a x:=.intro x G;refine⟨x::l,y,Bu.2 ⟨λJ=>G.no_loop z hp (h2 x J).2,h1⟩,λq F=> ?_,?_,H,.step hp I⟩
   ·rcases AS.1 F with rfl | F
    ·exact⟨⟨par_mem hp,by rw[hp];simp⟩,.refl _⟩
    ·exact⟨(h2 q F).1,.step hp (h2 q F).2⟩
   ·simp only[Bg,up,hp,Option.bind_some];exact h3
theorem iM.root{R:Tr}{a:Int}{x:Nm}(h:iM R a x):∃n y,n<=R.length/\up R a n x=some y/\par R a y=none:=by
 obtain⟨l,y,h1,h2,h3,F,_⟩:=h.bound;exact⟨l.length,y,by have:=iN h1 (λz hz=>(h2 z hz).1.1);rwa [Cg]at this,h3,F⟩
end
section
open Classical
abbrev bC:Int:=1099511627776
variable{x:Lk}
theorem de:x.has a=true↔x.fr<=a/\(x.un= -1\/a<x.un):=by simp[Lk.has]
theorem aaP:∀ {L:List Lk} {x:Lk} {a:Int},jO L->x∈L->x.has a=true->L.find? (·.has a)=some x
 | [],_,_,_,h,_=>by cases h
 | y::L,x,a,hr,F,hx=>by
  obtain⟨h1,h2⟩:=Ff.1 hr;rcases AS.1 F with rfl | F
  ·rw[List.find?_cons_of_pos (by exact hx)]
  ·have h3:=h1 x F;have I:=de.1 hx;have hy:¬(y.has a=true):=λhy=>by
    have H:=de.1 hy;rcases H.2 with G | G
    ·exact h3.1 G
    ·omega
   rw[List.find?_cons_of_neg (by exact hy)];exact aaP h2 F hx
variable{R:Tr}{c:Nm}
theorem tT(hr:jO (lks R c))(F:(c,x)∈R)(G:x.has a=true):tAt R c a=some x:=aaP hr (bU.2 F) G
theorem jg(h:tAt R c a=some x):(c,x)∈R/\x.has a=true:=by
 unfold tAt at h;exact⟨bU.1 (Dg h),by have:=DT h;exact this⟩
theorem wM(h:∀x,(c,x)∈R->¬(x.has a=true)):tAt R c a=none:=by
 unfold tAt;exact List.find?_eq_none.2 (λx F=>h x (bU.1 F))
theorem par_of(hr:jO (lks R c))(F:(c,x)∈R)(G:x.has a=true):par R a c=some x.par:=by unfold par;rw[tT hr F G];rfl
theorem jh{y:Nm}(h:par R a c=some y):∃x,(c,x)∈R/\x.has a=true/\x.par=y:=by
 unfold par at h
 cases hf:tAt R c a with
 | none=>rw[hf]at h;cases h
 | some x=>rw[hf]at h;injection h with h;exact⟨x,(jg hf).1,(jg hf).2,h⟩
variable{f:Int}
theorem wN(hr:∀c,jO (lks R c))(H:f<=a){x y:Nm}(h:Reach R a x y):∃s,f<=s/\s<=a/\(s=f\/∃q∈R,q.2.fr=s)/\∀t,s<=t->t<=a->Reach R t x y:=by
 induction h with
 | refl x=>exact⟨f,CH _,H,.inl rfl,λ_ _ _=>.refl _⟩
 | @step x y z h _ ih=>
  obtain⟨s,h1,h2,h3,I⟩:=ih;obtain⟨q,P,U,rfl⟩:=jh h;have J:=de.1 U;have hp:∀t,q.fr<=t->t<=a->par R t x=some q.par:=λt G F=>par_of (hr x) P (de.2 ⟨G,by rcases J.2 with K | K;exact .inl K;exact .inr no⟩)
  by_cases hs:q.fr<=s
  ·exact⟨s,h1,h2,h3,λt G F=>.step (hp t no F) (I t G F)⟩
  ·exact⟨q.fr,no,J.1,.inr ⟨(x,q),P,rfl⟩,λt G F=>.step (hp t G F) (I t no F)⟩
structure TOk(R:Tr):Prop where
 row:∀c,jO (lks R c)
 tm:∀q∈R,0<=q.2.fr/\q.2.fr<=bC/\(q.2.un= -1\/q.2.fr<q.2.un/\q.2.un<=bC)
 acy:∀a x,iM R a x
 good:∀q∈R,GoodS q.2.tr
 pose:∀q∈R,q.2.st=true->q.2.po.good/\q.2.po.ok 2
theorem TOk.nil:TOk [] where
 row:=λc=>by rw[kk];exact .nil
 tm:=λq h=>by cases h
 acy:=λa x=>.intro x (λy h=>by obtain⟨z,hz,_⟩:=jh h;cases hz)
 good:=λq h=>by cases h
 pose:=λq h=>by cases h
def Cyc(R:Tr)(c p:Nm)(f:Int):Prop:=Reach R f p c\/∃q∈R,f<q.2.fr/\Reach R q.2.fr p c
def bG(p:Nm)(f:Int):Lk:=⟨p,f, -1,false,Pq.zero,[]⟩
def jx(R:Tr)(c p:Nm)(f:Int):Tr:=R++ [(c,bG p f)]
theorem km(R:Tr)(c p:Nm)(f:Int)(y:Nm):lks (jx R c p f) y=if y=c then lks R y++ [bG p f]else lks R y:=by
 unfold jx;rw[gS,d8,kk];by_cases h:c=y
 ·subst h;rw[if_pos rfl,if_pos rfl]
 ·rw[if_neg h,if_neg (λe=>h e.symm),CP]
theorem tU{p:Nm}(y:Nm)(a:Int):par (jx R c p f) a y=if y=c then(match par R a y with | some z=>some z | none=>if f<=a then some p else none)else par R a y:=by
 unfold par tAt;rw[km];by_cases h:y=c
 ·rw[if_pos h,if_pos h,D1]
  cases hf:(lks R y).find? (·.has a)with
  | some x=>rfl
  | none=>
   by_cases ha:f<=a
   ·have:(bG p f).has a=true:=de.2 ⟨ha,.inl rfl⟩;simp only[Option.none_or,Ed,this,if_pos ha];rfl
   ·have:(bG p f).has a=false:=FF.2 (λe=>ha (de.1 e).1);simp only[Option.none_or,Ed,this,if_neg ha];rfl
 ·rw[if_neg h,if_neg h]
theorem TOk.att(h:TOk R){p:Nm}(h0:0<=f)(h1:f<=bC)(G:∀x∈lks R c,x.un≠ -1/\x.un<=f)(hc:¬Cyc R c p f):TOk (jx R c p f) where
 row:=λy=>by
  rw[km];split
  ·rename_i e;subst e;exact DA.2 ⟨h.row _,List.pairwise_singleton _ _,λx P z hz=>by
    simp only[BD]at hz;subst hz;exact G x P⟩
  ·exact h.row y
 tm:=λq F=>by
  rcases AG.1 F with F | F
  ·exact h.tm q F
  ·simp only[BD]at F;subst F;exact⟨h0,h1,.inl rfl⟩
 acy:=λa x=>by
  by_cases ha:f<=a
  ·have hn:par R a c=none:=by
    unfold par;rw[wM (λz hz J=> ?_)];rfl;have h2:=G z (bU.2 hz);rcases(de.1 J).2 with h3 | h3
    ·exact h2.1 h3
    ·omega
   refine iM.add (c:=c) (p:=p) (λy hy=>by rw[tU,if_neg hy]) (by rw[tU,if_pos rfl,hn];simp[ha]) (h.acy a) (λK=> ?_) x;obtain⟨s,h2,h3,H,I⟩:=wN h.row ha K;have hs:=I s (CH _) h3;rcases H with rfl | ⟨q,F,rfl⟩
   ·exact hc (.inl hs)
   ·by_cases e:q.2.fr=f
    ·rw[e]at hs;exact hc (.inl hs)
    ·exact hc (.inr ⟨q,F,no,hs⟩)
  ·refine(h.acy a x).mono (λy z hy=> ?_);rw[tU]at hy;by_cases e:y=c
   ·rw[if_pos e]at hy
    cases hp:par R a y with
    | some w=>rw[hp]at hy;exact hy
    | none=>rw[hp]at hy;simp[ha]at hy
   ·rw[if_neg e]at hy;exact hy
 good:=λq F=>by
  rcases AG.1 F with F | F
  ·exact h.good q F
  ·simp only[BD]at F;subst F;exact GoodS.nil
 pose:=λq F hs=>by
  rcases AG.1 F with F | F
  ·exact h.pose q F hs
  ·simp only[BD]at F;subst F;cases hs
theorem dg(A B:Tr)(c:Nm)(x:Lk)(y:Nm):lks (A++(c,x)::B) y=if y=c then lks A y++x::lks B y else lks A y++lks B y:=by
 rw[gS,d8];by_cases h:c=y
 ·subst h;rw[if_pos rfl,if_pos rfl]
 ·rw[if_neg h,if_neg (λe=>h e.symm)]
variable{A B:Tr}
theorem par_same{F:Lk}(G:F.par=x.par)(H:F.fr=x.fr)(I:F.un=x.un)(a:Int)(y:Nm):par (A++(c,F)::B) a y=par (A++(c,x)::B) a y:=by
 have J:F.has a=x.has a:=by unfold Lk.has;rw[H,I]
 unfold par tAt;rw[dg,dg];split
 ·rw[D1,D1]
  cases (lks A y).find? (·.has a)with
  | some z=>rfl
  | none=>
   simp only[Option.none_or,Ed,J]
   cases x.has a with
   | true=>simp[G]
   | false=>rfl
 ·rfl
theorem TOk.same{F:Lk}(h:TOk (A++(c,x)::B))(U:F.par=x.par)(I:F.fr=x.fr)(J:F.un=x.un)(V:GoodS F.tr)(hp:F.st=true->F.po.good/\F.po.ok 2):TOk (A++(c,F)::B):=by
 have K:∀q,q∈A++(c,F)::B->q∈A++(c,x)::B\/q=(c,F):=λq G=>by
  rcases AG.1 G with h1 | h1
  ·exact .inl (AG.2 (.inl h1))
  ·rcases AS.1 h1 with h2 | h2
   ·exact .inr h2
   ·exact .inl (AG.2 (.inr (Bf _ h2)))
 have Y:=h.tm (c,x) (AG.2 (.inr (Bo ..)));refine⟨λy=> ?_,λq G=> ?_,λa y=>(h.acy a y).mono (λu v H=>by rw[par_same U I J]at H;exact H),λq G=> ?_,λq G=> ?_⟩
 ·have h1:=h.row y;rw[dg]at h1⊢;split
  ·rename_i e;rw[if_pos e]at h1;obtain⟨Z,p2,P⟩:=DA.1 h1;obtain⟨p4,p5⟩:=Ff.1 p2;refine DA.2 ⟨Z,Ff.2 ⟨λz hz=> ?_,p5⟩,λu H z hz=> ?_⟩
   ·rw[J];exact p4 z hz
   ·rcases AS.1 hz with rfl | hz
    ·rw[I];exact P u H x (Bo ..)
    ·exact P u H z (Bf _ hz)
  ·rename_i e;rw[if_neg e]at h1;exact h1
 ·rcases K q G with h1 | rfl
  ·exact h.tm q h1
  ·show 0<=F.fr/\_;rw[I,J];exact Y
 ·rcases K q G with h1 | rfl
  ·exact h.good q h1
  ·exact V
 ·rcases K q G with h1 | rfl
  ·exact h.pose q h1
  ·exact hp
theorem kn(hr:jO (lks (A++(c,x)::B) c))(F:x.un= -1):lks B c=[]:=by
 rw[dg,if_pos rfl]at hr;obtain⟨_,G,_⟩:=DA.1 hr;obtain⟨H,_⟩:=Ff.1 G
 cases hB:lks B c with
 | nil=>rfl
 | cons z l=>exact absurd F (H z (by rw[hB];exact Bo ..)).1
theorem par_det(hr:∀y,jO (lks (A++(c,x)::B) y))(I:x.un= -1)(a:Int)(y:Nm):
  par (A++(c,{x with un:=u})::B) a y=if y=c/\x.fr<=a/\u<=a/\u≠ -1 then none else par (A++(c,x)::B) a y:=by
 have P:=kn (hr c) I;unfold par tAt;rw[dg,dg];by_cases hy:y=c
 ·subst hy;have h1:=hr y;rw[dg,if_pos rfl]at h1;obtain⟨_,_,U⟩:=DA.1 h1;rw[if_pos rfl,if_pos rfl,P,D1,D1]
  cases hf:(lks A y).find? (·.has a)with
  | some z=>
   have hz:=Dg hf;have G:z.has a=true:=by have:=DT hf;exact this
   have h3:=U z hz x (Bo ..);have K:=de.1 G;rw[if_neg (λF=>by rcases K.2 with H | H;exact h3.1 H;omega)];rfl
  | none=>
   by_cases hc:x.fr<=a/\u<=a/\u≠ -1
   ·have:({x with un:=u}:Lk).has a=false:=FF.2 (λe=>by have:=(de.1 e).2;simp only at this;omega);rw[if_pos ⟨rfl,hc⟩];simp[Ed,this]
   ·rw[if_neg (λF=>hc F.2)];have:({x with un:=u}:Lk).has a=x.has a:=by
     have J:({x with un:=u}:Lk).has a=true↔x.has a=true:=by
      rw[de,de];simp only[I];constructor
      ·rintro⟨h1,_⟩;exact⟨h1,.inl trivial⟩
      ·rintro⟨h1,_⟩;exact⟨h1,no⟩
     exact Bool.eq_iff_iff.2 J
    simp only[Option.none_or,Ed,this];cases x.has a<;>rfl
 ·rw[if_neg hy,if_neg hy,if_neg (λF=>hy F.1)]
theorem TOk.det(h:TOk (A++(c,x)::B))(K:x.un= -1)(h1:x.fr<u)(h2:u<=bC):TOk (A++(c,{x with un:=u})::B):=by
 have J:=kn (h.row c) K;have I:∀q,q∈A++(c,{x with un:=u})::B->q∈A++(c,x)::B\/q=(c,{x with un:=u}):=λq G=>by
  rcases AG.1 G with h1 | h1
  ·exact .inl (AG.2 (.inl h1))
  ·rcases AS.1 h1 with h2 | h2
   ·exact .inr h2
   ·exact .inl (AG.2 (.inr (Bf _ h2)))
 have F:(c,x)∈A++(c,x)::B:=AG.2 (.inr (Bo ..));have H:=h.tm (c,x) F;refine⟨λy=> ?_,λq G=> ?_,λa y=>(h.acy a y).mono (λs t hs=> ?_),λq G=> ?_,λq G=> ?_⟩
 ·have h3:=h.row y;rw[dg]at h3⊢;split
  ·rename_i e;subst e;rw[if_pos rfl,J]at h3;rw[J];obtain⟨U,_,V⟩:=DA.1 h3;exact DA.2 ⟨U,List.pairwise_singleton _ _,λY P z hz=>by
    simp only[BD]at hz;subst hz;exact V Y P x (Bo ..)⟩
  ·rename_i e;rw[if_neg e]at h3;exact h3
 ·rcases I q G with h3 | rfl
  ·exact h.tm q h3
  ·exact⟨H.1,H.2.1,.inr ⟨h1,h2⟩⟩
 ·rw[par_det h.row K]at hs;split at hs
  ·cases hs
  ·exact hs
 ·rcases I q G with h3 | rfl
  ·exact h.good q h3
  ·exact h.good (c,x) F
 ·rcases I q G with h3 | rfl
  ·exact h.pose q h3
  ·exact h.pose (c,x) F
end
section
open Classical
def PlAt(R:Tr)(c:Nm)(a:Int)(k:Nat)(x:Lk):Prop:=R[k]? =some (c,x)/\x.has a=true/\∀(i:Nat)(q:Nm×Lk),i<k->R[i]? =some q->¬(q.1=c/\q.2.has a=true)
def PlNo(R:Tr)(c:Nm)(a:Int):Prop:=∀(i:Nat)(q:Nm×Lk),R[i]? =some q->¬(q.1=c/\q.2.has a=true)
theorem Az{p:Prop}(h:p:=by rw[AJ hi,e]):p:=h
variable{R:Tr}{c:Nm}
theorem PlNo.tAt(h:PlNo R c a):tAt R c a=none:=wM (λx G F=>by
 obtain⟨i,hi,e⟩:=BK G;exact h i (c,x) Az ⟨rfl,F⟩)
variable{x:Lk}
theorem PlAt.tAt(hr:jO (lks R c))(h:PlAt R c a k x):tAt R c a=some x:=tT hr (A0 h.1) h.2.1
def eO(R:Tr)(c:Nm)(k:Nat)(x:Lk):Prop:=R[k]? =some (c,x)/\x.un= -1
def qi(R:Tr)(c:Nm):Prop:=∀(i:Nat)(q:Nm×Lk),R[i]? =some q->¬(q.1=c/\q.2.un= -1)
theorem d9{α:Type}{R:List α}{q:α}(h:R[k]? =some q):∃A B,R=A++q::B/\A.length=k:=by
 obtain⟨F,e⟩:=AX.1 h;exact⟨R.take k,R.drop (k+1),by rw[<-e,<-List.drop_eq_getElem_cons F,Fe],by rw[A9];omega⟩
theorem eO.last(hr:jO (lks R c))(h:eO R c k x):(lks R c).getLast? =some x:=by
 obtain⟨A,B,rfl,_⟩:=d9 h.1;rw[dg,if_pos rfl,kn hr h.2,List.getLast?_append];rfl
variable{f:Int}
theorem ended{L:List Lk}(hr:jO L)(hn:∀x∈L,x.un≠ -1)(G:∀x∈L,x.fr<x.un)(hl:∀x,L.getLast? =some x->x.un<=f):∀x∈L,x.un<=f:=by
 induction L with
 | nil=>intro x F;cases F
 | cons y L H=>
  obtain⟨h1,h2⟩:=Ff.1 hr
  cases L with
  | nil=>
   intro x F;simp only[BD]at F;subst F;exact hl x rfl
  | cons z L=>
   have H:=H h2 (λx F=>hn x (Bf _ F)) (λx F=>G x (Bf _ F)) (λx F=>hl x (by rw[List.getLast?_cons_cons];exact F));intro x F;rcases AS.1 F with rfl | F
   ·have h3:=(h1 z (Bo ..)).2;have I:=G z (Bf _ (Bo ..));have J:=H z (Bo ..);omega
   ·exact H x F
def aC(R:Tr)(c:Nm):Prop:=∃q∈R,q.1=c\/q.2.par=c
def ci(P:Nm->Prop)(n:Nat):Prop:=∃l:List Nm,l.Nodup/\(∀x,x∈l↔P x)/\l.length=n
theorem ci.uniq{P:Nm->Prop}{m:Nat}(h:ci P n)(k:ci P m):n=m:=by
 obtain⟨l,h1,h2,rfl⟩:=h;obtain⟨l',k1,k2,rfl⟩:=k;exact Nat.le_antisymm (iN h1 (λx F=>(k2 x).2 ((h2 x).1 F))) (iN k1 (λx F=>(h2 x).2 ((k2 x).1 F)))
theorem ci.same{P Q:Nm->Prop}(h:ci P n)(e:∀x,P x↔Q x):ci Q n:=by
 obtain⟨l,h1,h2,h3⟩:=h;exact⟨l,h1,λx=>(h2 x).trans (e x),h3⟩
inductive AttS(isN:Nm->Prop)(R:Tr)(c p:Nm)(f:Int):Tr->Int->Prop
 | name (h:¬(isN c/\isN p)):AttS isN R c p f R 5
 | time (h:isN c/\isN p) (ht:f<0\/bC<f\/(∃k x,eO R c k x)\/∃x∈lks R c,f<x.un):AttS isN R c p f R 17
 | full (h:isN c/\isN p) (h0:0<=f) (h1:f<=bC) (h2:qi R c) (h3:∀x∈lks R c,x.un<=f) (n:Nat) (hn:ci (λx=>aC R x\/x=c\/x=p) n) (hf:24<n\/64<=(lks R c).length):AttS isN R c p f R 15
 | cycle (h:isN c/\isN p) (h0:0<=f) (h1:f<=bC) (h2:qi R c) (h3:∀x∈lks R c,x.un<=f) (n:Nat) (hn:ci (λx=>aC R x\/x=c\/x=p) n) (hf:n<=24/\(lks R c).length<64) (hc:Cyc R c p f):AttS isN R c p f R 19
 | ok (h:isN c/\isN p) (h0:0<=f) (h1:f<=bC) (h2:qi R c) (h3:∀x∈lks R c,x.un<=f) (n:Nat) (hn:ci (λx=>aC R x\/x=c\/x=p) n) (hf:n<=24/\(lks R c).length<64) (hc:¬Cyc R c p f):AttS isN R c p f (jx R c p f) 0
variable{isN:Nm->Prop}
theorem AttS.tok{F:Tr}{p:Nm}{e:Int}(G:TOk R)(h:AttS isN R c p f F e):TOk F:=by
 cases h with
 | ok _ h0 h1 h2 h3 _ _ _ hc=>
  refine G.att h0 h1 (λx H=>⟨λe=> ?_,h3 x H⟩) hc;obtain⟨i,hi,I⟩:=BK (bU.1 H);exact h2 i (c,x) (by rw[AJ hi,I]) ⟨rfl,e⟩
 | _=>exact G
theorem known_att{p:Nm}(x:Nm):aC (jx R c p f) x↔aC R x\/x=c\/x=p:=by
 unfold aC jx;constructor
 ·rintro⟨q,F,h⟩;rcases AG.1 F with F | F
  ·exact .inl ⟨q,F,h⟩
  ·simp only[BD]at F;subst F;rcases h with h | h
   ·exact .inr (.inl h.symm)
   ·exact .inr (.inr h.symm)
 ·rintro(⟨q,F,h⟩ | rfl | rfl)
  ·exact⟨q,AG.2 (.inl F),h⟩
  ·exact⟨_,AG.2 (.inr (BD.2 rfl)),.inl rfl⟩
  ·exact⟨_,AG.2 (.inr (BD.2 rfl)),.inr rfl⟩
theorem known_mid{A B:Tr}{G:Lk}(e:G.par=x.par)(y:Nm):aC (A++(c,G)::B) y↔aC (A++(c,x)::B) y:=by
 have g:∀ {x G:Lk},G.par=x.par->aC (A++(c,G)::B) y->aC (A++(c,x)::B) y:=by
  rintro x G e ⟨q,F,h⟩;rcases AG.1 F with F | F
  ·exact⟨q,AG.2 (.inl F),h⟩
  ·rcases AS.1 F with rfl | F
   ·exact⟨(c,x),AG.2 (.inr (Bo ..)),by rw[<-e];exact h⟩
   ·exact⟨q,AG.2 (.inr (Bf _ F)),h⟩
 exact⟨g e,g e.symm⟩
structure TSm(R:Tr):Prop where
 cnt:∃n,n<=24/\ci (aC R) n
 per:∀c,(lks R c).length<=64
theorem TSm.nil:TSm []:=⟨⟨0,it,[],List.nodup_nil,λx=>⟨λh=>(by cases h),λ⟨q,h,_⟩=>(by cases h)⟩,rfl⟩,λc=>by rw[kk];exact AY _⟩
theorem AttS.tsm{F:Tr}{p:Nm}{e:Int}(G:TSm R)(h:AttS isN R c p f F e):TSm F:=by
 cases h with
 | ok _ h0 h1 h2 h3 n hn hf hc=>
  refine⟨⟨n,hf.1,hn.same (λx=>(known_att x).symm)⟩,λy=> ?_⟩;rw[km];split
  ·rename_i e;subst e;rw[Bh];have:=hf.2;simp only[Bg,List.length_nil];omega
  ·exact G.per y
 | _=>exact G
theorem TSm.mid{A B:Tr}{H:Lk}(h:TSm (A++(c,x)::B))(e:H.par=x.par):TSm (A++(c,H)::B):=by
 obtain⟨⟨n,h1,h2⟩,h3⟩:=h;refine⟨⟨n,h1,h2.same (λy=>(known_mid e y).symm)⟩,λy=> ?_⟩;have F:=h3 y;rw[dg]at F⊢;split
 ·rename_i G;rw[if_pos G]at F;simpa using F
 ·rename_i G;rw[if_neg G]at F;exact F
theorem short_way{x:Nm}(J:TOk R)(K:TSm R)(H:aC R x):∃n y,n<=23/\up R a n x=some y/\par R a y=none:=by
 obtain⟨l,y,h1,h2,h3,G,I⟩:=(J.acy a x).bound;obtain⟨n,hn,m,k1,k2,rfl⟩:=K.cnt;have Z:aC R y:=by
  cases I with
  | refl=>exact H
  | step e t=>
   have:∀ {u v:Nm},aC R u->Reach R a u v->aC R v:=by
    intro u v Y V
    induction V with
    | refl=>exact Y
    | step e _ ih=>
     obtain⟨z,hz,_,rfl⟩:=jh e;exact ih ⟨_,hz,.inr rfl⟩
   exact this H (.step e t)
 have hl:∀z∈y::l,z∈m:=λz hz=>by
  rcases AS.1 hz with rfl | hz
  ·exact(k2 _).2 Z
  ·obtain⟨q,U,rfl⟩:=Ba.1 (h2 z hz).1.1;exact(k2 _).2 ⟨q,U,.inl rfl⟩
 have F:y∉l:=λP=>(h2 y P).1.2 G
 have:=iN (Bu.2 ⟨F,h1⟩) hl;simp only[Bg]at this;exact⟨l.length,y,no,h3,G⟩
end
section
variable {P:AW} {w:World} {t kt et:TypeId} {b clock:Nat} {es:Array MapEntry} {c:ByteArray}
theorem tV(G:P.underlying kt=some .string)(F:Bool):(Instr.checkKey F 10000 kt (.string c)).run P w= .ok () w:=by
 rw[Instr.checkKey];simp[AH,run_underlying G,AQ]
theorem qj{r:Option (Nat×Value)}(ht:P.underlying t=some (.map kt et))(F:P.underlying kt=some .string)(hb:w.heap[b]? =some (.map es clock))(hf:Instr.findNow .string (.string c) es.toList 0=some r){z:Value}(hz:(zeroValue et).run P w= .ok z w):
  (C5 t (.map (some b)) (.string c) false).run P w= .ok (match r with | some (_,v)=>v | none=>z) w:=by
 unfold C5 Instr.findKey;simp only[AH,run_underlying ht,AQ,getObj,Sem.run,hb,tV F,run_underlying F,hf]
 cases r with
 | none=>simp[AH,hz,AQ,hf]
 | some x=>simp[AH,AQ,hf]
end
section
variable {ρ:Rho} {n m k j:Nat} {t T e:TypeId} {B:Blk} {w:World} {qs:List Vp} {q:Vp} {l:Leaf}
end
end Go.Proofs.YtggfmklppkioeaaGreat
