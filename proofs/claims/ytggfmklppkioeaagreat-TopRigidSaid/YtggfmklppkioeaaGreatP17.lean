/- Trees of frames: what steps do; they keep trees. What arguments of the type []roboticslaw28.Step are: rows of steps. Trees of frames: names and steps of the statements; no tree. The transform of an edge of no tree. Trees of frames: a step of the statements is done to a tree. slices.Sorted(maps.Keys(m)): the shelf's contracts, laid (printed by the kit's lay-iter.mjs, names set for the templates). Trees of frames: Frames: the keys of a set in ascending order. Trees of frames: the example that is tried first; nobody. Rows of the call's own; rows of steps; what steps leave of the parents. Trees of frames: Edge. Trees of frames: Links. slices.Contains at texts; the frames that a tree knows. The ancestors of a frame, as an iterator. Common ancestors. -/
import Derived.Test.YtggfmklppkioeaaGreatP16
import Derived.Laws.ResultCell
import Derived.Shelf.SlIter.Nil
import Derived.Shelf.SortM.Plain
import Derived.Shelf.SortM.SortNone
import Derived.Ground.GgzProg
import Derived.Ground.SlgmProg
import Derived.Deep.Cut
import Derived.RangeFuncNested
import Derived.RangeFuncBound
import Derived.RangeFuncCalls
import Derived.RangeFuncLeaves
import Derived.RangeFuncBox
import Derived.Shelf.Abstract
import Derived.Shelf.RegionOpen
import Derived.OwnWalkIn
import Derived.TacticsInMore
import Derived.LoopNIn
import Derived.LoopIn
import Derived.Sort.LoopGhostIn
import Derived.Maps.AppendAt
namespace Go.Proofs.YtggfmklppkioeaaGreat
set_option linter.unusedSimpArgs false
set_option linter.unusedVariables false
set_option maxRecDepth 100000
open Go.RowKit
section
open Classical
theorem uX {p q:Pq} {a b:Int} (h:(St.mk a p).raw=(St.mk b q).raw):p=q:=by
 have e:∀x y:Fq,x.raw=y.raw→x=y:=fun x y h=>by
  obtain⟨s,p,q⟩:=x;obtain⟨s',p',q'⟩:=y;simp only[Fq.raw,Rq.mk.injEq]at h;obtain⟨h1,_,h2,_,h3⟩:=h;subst h1;subst h2;subst h3;rfl
 simp only[St.raw,RSt.mk.injEq]at h;obtain⟨_,h0,h1,h2,h3,h4,h5,h6⟩:=h;obtain⟨⟨w,x,y,z⟩,⟨u,v,t⟩⟩:=p;obtain⟨⟨w',x',y',z'⟩,⟨u',v',t'⟩⟩:=q;simp only at h0 h1 h2 h3 h4 h5 h6;rw[e _ _ h0,e _ _ h1,e _ _ h2,e _ _ h3,e _ _ h4,e _ _ h5,e _ _ h6]
theorem yJ {p:Pq} {a:Int} (h:p.ok 2):(St.mk a p).raw.two:=fun r hr=>by
 simp only[RSt.rs,St.raw,List.mem_cons,List.not_mem_nil,or_false]at hr;rcases hr with rfl | rfl | rfl | rfl | rfl | rfl | rfl
 ·exact⟨h.rot.w.p,h.rot.w.q⟩
 ·exact⟨h.rot.x.p,h.rot.x.q⟩
 ·exact⟨h.rot.y.p,h.rot.y.q⟩
 ·exact⟨h.rot.z.p,h.rot.z.q⟩
 ·exact⟨h.pos.x.p,h.pos.x.q⟩
 ·exact⟨h.pos.y.p,h.pos.y.q⟩
 ·exact⟨h.pos.z.p,h.pos.z.q⟩
theorem q_Val {w:World} {v:Value} {p:Pq} (i:bw w v p) (h:p.ok 2):Calls Tryz.prog 122 #[v] w fun e w'=>e= .returned (.bool (decide p.good))∧Below w.heap.size w w':=by
 by_cases g:p.good
 ·rw[decide_eq_true g];exact rh v p w i (h.mono (by decide)) g
 ·rw[decide_eq_false g];have k:=St.sm (s:=⟨0,p⟩) h;have:=kf v _ _ _ _ _ _ _ w i k.h0.1 k.h0.2 k.h1.1 k.h1.2 k.h2.1 k.h2.2 k.h3.1 k.h3.2 k.h4.1 k.h4.2 k.h5.1 k.h5.2 k.h6.1 k.h6.2;have e:pk p.rot.w.raw p.rot.x.raw p.rot.y.raw p.rot.z.raw p.pos.x.raw p.pos.y.raw p.pos.z.raw=false:=Bool.eq_false_iff.2 (fun e=>by
   obtain⟨s,h1,h2⟩:=pn (x:=(St.mk 0 p).raw) e;exact g (uX (b:=s.tm) h1▸h2))
  rw[e]at this;exact this
noncomputable abbrev km (a:Int) (p:Pq) (S:List St):List St×Int:=qw S (St.mk a p).raw
theorem xz {w:World} {t m:Nat} {E:List Ch} {c:Nm} {a:Int} {p:Pq} {cs:List Value} (h:TM w t m E) (hE:TOk (trE E)) (hv:bw w (.agg cs.toArray) p) (h2:p.ok 2):
  Calls Tryz.prog 69 #[ptB t,.string c,stV a cs] w fun e w'=>∃E' R' code,e= .returned (.int .i64 code)∧TPost w t m E w' E'∧REq (trE E') R'∧SetS (km a p) (trE E) c a R' code:=by
 have hv':=hv;obtain⟨cs0,e0,hc⟩:=hv;have e0:cs=cs0:=by injection e0 with e0;simpa using e0
 subst e0;refine q_Set h (bY hc) _ (fun w' g sl S hS hb ht=> ?_);obtain⟨l,hl,rfl⟩:=hS;have hg:GoodS l.x.tr:=by
  unfold lsE at hl
  cases hch:chE E c with
  | none=>rw[hch]at hl;cases hl
  | some ch=>rw[hch]at hl;exact hE.good _ (dM.2 ⟨ch,(cN hch).1,l,hl,rfl⟩)
 exact q_AddR l.x.tr (St.mk a p).raw (stV a cs) ht ⟨cs,rfl,aM.mono hc hb⟩ (yJ h2) hg
theorem q_FixP {w:World} {t m:Nat} {E:List Ch} {c:Nm} {p:Pq} {cs:List Value} (h:TM w t m E) (hE:TOk (trE E)) (hv:bw w (.agg cs.toArray) p) (h2:p.ok 2):
  Calls Tryz.prog 70 #[ptB t,.string c,.agg cs.toArray] w fun e w'=>∃E' R' code,e= .returned (.int .i64 code)∧TPost w t m E w' E'∧REq (trE E') R'∧FixS (decide p.good) p (trE E) c R' code:=
 q_Fixed h hE hv (h2.mono (by decide)) (fun _ hb=>q_Val (hv.mono hb) h2)
section
variable {R R':Tr} {c p:Nm} {a u e:Int} {q:Pq} {isN:Nm→Prop}
theorem DetS.tok (hR:TOk R) (h:DetS R c u R' e):TOk R':=by
 cases h with
 | ok e h h1 h2=>subst e;exact hR.det h h1 h2
 | _=>exact hR
theorem SetS.tok (hR:TOk R) (h2:q.ok 2) (h:SetS (km a q) R c a R' e):TOk R':=by
 cases h with
 | ok e h hs=>
  subst e;rename_i A B x;have hm:(c,x)∈A++(c,x)::B:=List.mem_append.2 (.inr (List.mem_cons_self ..));exact hR.same (c:=c) rfl rfl rfl (addR_good (hR.good _ hm) (yJ h2)) (fun hst=>by simp only at hst;rw[hs]at hst;cases hst)
 | _=>exact hR
theorem FixS.tok (hR:TOk R) (h2:q.ok 2) (h:FixS (decide q.good) q R c R' e):TOk R':=by
 cases h with
 | ok e h hs ht hp=>
  subst e;rename_i A B x;have hm:(c,x)∈A++(c,x)::B:=List.mem_append.2 (.inr (List.mem_cons_self ..));exact hR.same (c:=c) rfl rfl rfl (hR.good _ hm) (fun _=>⟨of_decide_eq_true hp,h2⟩)
 | _=>exact hR
theorem DetS.tsm (hR:TSm R) (h:DetS R c u R' e):TSm R':=by
 cases h with
 | ok e h h1 h2=>subst e;exact hR.mid rfl
 | _=>exact hR
theorem SetS.tsm {add:List St→List St×Int} (hR:TSm R) (h:SetS add R c a R' e):TSm R':=by
 cases h with
 | ok e h hs=>subst e;exact hR.mid rfl
 | _=>exact hR
theorem FixS.tsm {ok:Bool} (hR:TSm R) (h:FixS ok q R c R' e):TSm R':=by
 cases h with
 | ok e h hs ht hp=>subst e;exact hR.mid rfl
 | _=>exact hR
def qx (isN:Nm→Prop) (R:Tr):Prop:=∀q∈R,isN q.1∧isN q.2.par
theorem qx.mid {A B:Tr} {x x':Lk} (h:qx isN (A++(c,x)::B)) (e:x'.par=x.par):qx isN (A++(c,x')::B):=fun q hq=>by
 rcases List.mem_append.1 hq with h1 | h1
 ·exact h q (List.mem_append.2 (.inl h1))
 ·rcases List.mem_cons.1 h1 with rfl | h1
  ·have:=h (c,x) (List.mem_append.2 (.inr (List.mem_cons_self ..)));exact⟨this.1,by rw[e];exact this.2⟩
  ·exact h q (List.mem_append.2 (.inr (List.mem_cons_of_mem _ h1)))
theorem qx.att {f:Int} (h:qx isN R) (hc:isN c) (hp:isN p):qx isN (lN R c p f):=fun q hq=>by
 rcases List.mem_append.1 hq with h1 | h1
 ·exact h q h1
 ·simp only[List.mem_singleton]at h1;subst h1;exact⟨hc,hp⟩
theorem qx.req (h:qx isN R) (e:REq R R'):qx isN R':=fun q hq=>h q ((e.mem q).2 hq)
structure Ax where
 k:Nat
 c:Nm
 p:Nm
 a:Int
 q:Pq
def DoS (R:Tr) (s:Ax) (R':Tr) (e:Int):Prop:=
 if s.k=1 then DetS R s.c s.a R' e else if s.k=2 then SetS (km s.a s.q) R s.c s.a R' e else if s.k=3 then FixS (decide s.q.good) s.q R s.c R' e else AttS dG R s.c s.p s.a R' e
structure Sane (R:Tr):Prop where
 ok:TOk R
 sm:TSm R
 nm:qx dG R
theorem Sane.nil:Sane []:=⟨.nil,.nil,fun _ h=>by cases h⟩
theorem Sane.req (h:Sane R) (e:REq R R'):Sane R':=⟨h.ok.of_req e,h.sm.of_req e,h.nm.req e⟩
theorem DoS.sane {s:Ax} (h:Sane R) (h2:s.q.ok 2) (d:DoS R s R' e):Sane R':=by
 unfold DoS at d;split at d
 ·refine⟨d.tok h.ok,d.tsm h.sm,?_⟩
  cases d with
  | ok e _ _ _=>have:=h.nm;rw[e]at this;exact this.mid rfl
  | _=>exact h.nm
 ·split at d
  ·refine⟨d.tok h.ok h2,d.tsm h.sm,?_⟩
   cases d with
   | ok e _ _=>have:=h.nm;rw[e]at this;exact this.mid rfl
   | _=>exact h.nm
  ·split at d
   ·refine⟨d.tok h.ok h2,d.tsm h.sm,?_⟩
    cases d with
    | ok e _ _ _ _=>have:=h.nm;rw[e]at this;exact this.mid rfl
    | _=>exact h.nm
   ·refine⟨d.tok h.ok,d.tsm h.sm,?_⟩
    cases d with
    | ok hn _ _ _ _ _ _ _ _=>exact h.nm.att hn.1 hn.2
    | _=>exact h.nm
end
structure TInv (w0 w:World) (t m:Nat) (E:List Ch):Prop where
 tm:TM w t m E
 sane:Sane (trE E)
 own:∀g∈fpT t m E,w0.heap.size≤g
 bel:Below w0.heap.size w0 w
theorem TPost.bel {w0 w w':World} {t m:Nat} {E E':List Ch} (h:TPost w t m E w' E') (o:∀g∈fpT t m E,w0.heap.size≤g) (b:Below w0.heap.size w0 w):Below w0.heap.size w0 w':=
 ⟨h.kp.os.trans b.os,h.kp.tape.trans b.tape,h.kp.output.trans b.output,Nat.le_trans b.size h.kp.size,fun k hk=>(h.kp.block k (Nat.lt_of_lt_of_le hk b.size) (fun hm=>by have:=o k hm;omega)).trans (b.block k hk)⟩
theorem TInv.next {w0 w w':World} {t m:Nat} {E E':List Ch} {R':Tr} {s:Ax} {e:Int} (h:TInv w0 w t m E) (k:TPost w t m E w' E') (r:REq (trE E') R') (d:DoS (trE E) s R' e) (h2:s.q.ok 2):TInv w0 w' t m E':=
 ⟨k.tm,(d.sane h.sane h2).req r.symm,fun g hg=>(k.fp g hg).elim (h.own g) (fun h1=>Nat.le_trans h.bel.size h1),k.bel h.own h.bel⟩
theorem TInv.below {w0 w w':World} {t m:Nat} {E:List Ch} (h:TInv w0 w t m E) (b:Below w.heap.size w w'):TInv w0 w' t m E:=⟨h.tm.below b,h.sane,h.own,h.bel.trans (b.mono h.bel.size)⟩
end
section
open Go.ChangeShapes Go.WideShapes Go.ChangeAt Go.RowKit
structure Stp where
 k:Int
 c:Int
 p:Int
 a:Int
 x:Int
 u:Int
def Stp.cs (s:Stp):List Value:=[.int .u8 s.k,.int .u8 s.c,.int .u8 s.p,.int .i16 s.a,.int .i8 s.x,.int .u8 s.u]
abbrev Stp.val (s:Stp):Value:=.agg s.cs.toArray
structure Stp.Ok (s:Stp):Prop where
 k:0≤s.k∧s.k<256
 c:0≤s.c∧s.c<256
 p:0≤s.p∧s.p<256
 a: -32768≤s.a∧s.a<32768
 x: -128≤s.x∧s.x<128
 u:0≤s.u∧s.u<256
def pE (w:World) (v:Value) (R:List Stp):Prop:=(R=[]∧∃a c,v= .slice a 0 c)∨∃b o c,v= .slice (some ⟨b,o,none⟩) R.length c∧R≠ []∧b<w.heap.size∧∀i s,R[i]? =some s→∀j u,s.cs[j]? =some u→w.cell? ⟨b,o+(i*6+j),none⟩=some u
theorem pE.below {w w':World} {v:Value} {R:List Stp} (h:pE w v R) (k:Below w.heap.size w w'):pE w' v R:=
 h.imp id (fun⟨b,o,c,e,hn,hb,hq⟩=>⟨b,o,c,e,hn,Nat.lt_of_lt_of_le hb k.size,fun i s hi j u hu=>by rw[k.cell (p:=⟨b,_,none⟩) hb];exact hq i s hi j u hu⟩)
section
variable {H:Type} {enc:TypeId×Value→H} {W:World}
theorem mK {t:Int} (h:(Lit.int .i16 t).wf=true): -32768≤t∧t<32768:=by
 simp[Lit.wf,IntKind.min,IntKind.max,IntKind.wrap,IntKind.bits,IntKind.signed]at h;omega
end
end
theorem rn {P:Program} {fn:Func} {p u:Tmp} {ty:TypeId} (h:fn.results=#[.cell p ty,.tmp u]) (tmps:Array Value) (w:World) (g:Nat) (t:TypeId) (cs:Array Value) (fr:Nat×Nat) (d:TypeDesc)
  (hp:tmps.getD p undef= .pointer (some ⟨g,0,none⟩)) (hg:w.heap[g]? =some (.cells cs t fr))
  (hu:P.underlying ty=some d) (hd:(match d with | .struct _ | .array _ _=>true | _=>false)=true) (hi:(P.info? ty).map (·.size)=some cs.size):
  (results fn tmps).run P w= .ok (.tuple #[.agg cs,tmps.getD u undef]) w:=by
 rw[results_cell_tmp h,hp];simp[asAddr,Result.andThen,run_loadVar_row w g t ty cs fr d hg hu hd hi]
section
variable {w:World} {c p:Nm} {a:Int} {v:Value}
end
def zero21:List Leaf:=[.b false,.sl0,.sl0,.b false,.sl0,.sl0,.b false,.sl0,.sl0,.b false,.sl0,.sl0,.b false,.sl0,.sl0,.b false,.sl0,.sl0,.b false,.sl0,.sl0]
def aD:List Value:=[.bool false,.slice none 0 0,.slice none 0 0,.bool false,.slice none 0 0,.slice none 0 0,.bool false,.slice none 0 0,.slice none 0 0,.bool false,.slice none 0 0,.slice none 0 0,.bool false,.slice none 0 0,.slice none 0 0,.bool false,.slice none 0 0,.slice none 0 0,.bool false,.slice none 0 0,.slice none 0 0]
theorem zero21_h {ρ:Rho} {B:Blk} {w:World}:aC ρ B w zero21 aD:=⟨rfl,rfl,rfl,rfl,rfl,rfl,rfl,rfl,rfl,rfl,rfl,rfl,rfl,rfl,rfl,rfl,rfl,rfl,rfl,rfl,rfl,trivial⟩
section
open Classical
theorem TPost.cell {w w':World} {t m B:Nat} {E E':List Ch} (h:TPost w t m E w' E') (hB:B∉fpT t m E) (hl:B<w.heap.size) (j:Nat):w'.cell? ⟨B,j,none⟩=w.cell? ⟨B,j,none⟩:=World.cell?_of_block (h.kp.block B hl hB)
structure DoC (w w1:World) (t m B:Nat) (E:List Ch) (k c p a x u:Int):Prop where
 eq:w.alloc (.cells #[.int .u8 k,.int .u8 c,.int .u8 p,.int .i16 a,.int .i8 x,.int .u8 u] 67)=w1
 hB:w.heap.size=B
 tm:TM w1 t m E
 pre:∀(w2 w3:World) (E':List Ch),Below w1.heap.size w1 w2→TPost w2 t m E w3 E'→TPost w t m E w3 E'
 cel:∀(w2 w3:World) (E':List Ch),Below w1.heap.size w1 w2→TPost w2 t m E w3 E'→∀j v,w1.cell? ⟨B,j,none⟩=some v→w3.cell? ⟨B,j,none⟩=some v
 cel2:∀(w2:World),Below w1.heap.size w1 w2→∀j v,w1.cell? ⟨B,j,none⟩=some v→w2.cell? ⟨B,j,none⟩=some v
 f0:w1.cell? ⟨B,0,none⟩=some (.int .u8 k)
 f1:w1.cell? ⟨B,1,none⟩=some (.int .u8 c)
 f2:w1.cell? ⟨B,2,none⟩=some (.int .u8 p)
 f3:w1.cell? ⟨B,3,none⟩=some (.int .i16 a)
 f4:w1.cell? ⟨B,4,none⟩=some (.int .i8 x)
 f5:w1.cell? ⟨B,5,none⟩=some (.int .u8 u)
end
section
open Go.RowKit Go.Maps Go.Sort Go.Shelf
def Tryz.keysB_ren:Go.Shelf.Ren:=⟨fun | 7=>88 | 10=>152 | n=>n,fun | 23=>150 | 26=>9 | 3=>4 | 28=>148 | 0=>0 | 27=>147 | 33=>166 | 4=>4 | n=>n,fun | n=>n⟩
theorem Tryz.keysB:Go.Proofs.SlLaysZ.n7 Tryz.prog Tryz.keysB_ren:= {
 mixed:=by kernel_rfl
 f7:=⟨Tryz.f88.name,by decide,Tryz.func88.trans (congrArg some (by kernel_rfl))⟩
 f10:=⟨Tryz.f152.name,by decide,Tryz.func152.trans (congrArg some (by kernel_rfl))⟩
 t0:=Tryz.underlying0
 a0:=Tryz.isAgg0
 z0:=Tryz.sizeOf0
 v0:=Tryz.zeroValue0
 t4:=Tryz.underlying4
 a4:=Tryz.isAgg4
 z4:=Tryz.sizeOf4
 v4:=Tryz.zeroValue4
 t23:=Tryz.underlying150
 a23:=Tryz.isAgg150
 z23:=Tryz.sizeOf150
 v23:=Tryz.zeroValue150
 t26:=Tryz.underlying9
 a26:=Tryz.isAgg9
 z26:=Tryz.sizeOf9
 v26:=Tryz.zeroValue9
 t27:=Tryz.underlying147
 a27:=Tryz.isAgg147
 z27:=Tryz.sizeOf147
 v27:=Tryz.zeroValue147
 t28:=Tryz.underlying148
 a28:=Tryz.isAgg148
 z28:=Tryz.sizeOf148
 v28:=Tryz.zeroValue148
 t33:=Tryz.underlying166
 a33:=Tryz.isAgg166
 z33:=Tryz.sizeOf166
 v33:=Tryz.zeroValue166}
def Tryz.sortedS_ren:Go.Shelf.Ren:=⟨fun | 6=>87 | 8=>150 | 9=>151 | 11=>205 | 13=>174 | 12=>206 | 23=>232 | 24=>233 | 14=>246 | 15=>247 | 16=>248 | 17=>249 | 18=>250 | 19=>251 | 20=>252 | 21=>253 | 22=>254 | 25=>282 | 26=>274 | 27=>275 | 28=>283 | 29=>284 | 30=>285 | 31=>303 | n=>n,fun | 26=>9 | 28=>148 | 24=>68 | 0=>0 | 3=>3 | 37=>234 | 48=>237 | 50=>178 | 4=>4 | 40=>273 | 39=>272 | 45=>277 | 5=>5 | 9=>9 | 51=>299 | 55=>303 | 57=>309 | 58=>310 | 33=>166 | n=>n,fun | n=>n⟩
theorem Tryz.sortedS:Go.Proofs.SlLaysZ.n6 Tryz.prog Tryz.sortedS_ren:= {
 mixed:=by kernel_rfl
 f6:=⟨Tryz.f87.name,by decide,Tryz.func87.trans (congrArg some (by kernel_rfl))⟩
 f8:=⟨Tryz.f150.name,by decide,Tryz.func150.trans (congrArg some (by kernel_rfl))⟩
 f11:=⟨Tryz.f205.name,by decide,Tryz.func205.trans (congrArg some (by kernel_rfl))⟩
 t0:=Tryz.underlying0
 a0:=Tryz.isAgg0
 z0:=Tryz.sizeOf0
 v0:=Tryz.zeroValue0
 t24:=Tryz.underlying68
 a24:=Tryz.isAgg68
 z24:=Tryz.sizeOf68
 v24:=Tryz.zeroValue68
 t26:=Tryz.underlying9
 a26:=Tryz.isAgg9
 z26:=Tryz.sizeOf9
 v26:=Tryz.zeroValue9
 t28:=Tryz.underlying148
 a28:=Tryz.isAgg148
 z28:=Tryz.sizeOf148
 v28:=Tryz.zeroValue148
 i26:=by kernel_rfl}
def Tryz.sortS_ren:Go.Shelf.Ren:=⟨fun | 6=>151 | 8=>174 | 9=>206 | 19=>232 | 20=>233 | 21=>246 | 22=>247 | 23=>248 | 24=>249 | 25=>250 | 26=>251 | 27=>252 | 28=>253 | 29=>254 | 36=>282 | 31=>274 | 32=>275 | 37=>283 | 38=>284 | 39=>285 | 41=>303 | n=>n,fun | 27=>68 | 29=>9 | 3=>3 | 32=>234 | 26=>68 | 0=>0 | 44=>237 | 46=>178 | 4=>4 | 36=>273 | 35=>272 | 41=>277 | 5=>5 | 9=>9 | 53=>299 | 57=>303 | 63=>309 | 64=>310 | n=>n,fun | n=>n⟩
theorem Tryz.sortS:Go.Proofs.SlLaysM.n6 Tryz.prog Tryz.sortS_ren:= {
 mixed:=by kernel_rfl
 f6:=⟨Tryz.f151.name,by decide,Tryz.func151.trans (congrArg some (by kernel_rfl))⟩
 f8:=Tryz.func174.trans (congrArg some (by kernel_rfl))
 f9:=⟨Tryz.f206.name,by decide,Tryz.func206.trans (congrArg some (by kernel_rfl))⟩
 f19:=Tryz.func232.trans (congrArg some (by kernel_rfl))
 f20:=Tryz.func233.trans (congrArg some (by kernel_rfl))
 f21:=⟨Tryz.f246.name,by decide,Tryz.func246.trans (congrArg some (by kernel_rfl))⟩
 f22:=⟨Tryz.f247.name,by decide,Tryz.func247.trans (congrArg some (by kernel_rfl))⟩
 f23:=⟨Tryz.f248.name,by decide,Tryz.func248.trans (congrArg some (by kernel_rfl))⟩
 f24:=⟨Tryz.f249.name,by decide,Tryz.func249.trans (congrArg some (by kernel_rfl))⟩
 f25:=⟨Tryz.f250.name,by decide,Tryz.func250.trans (congrArg some (by kernel_rfl))⟩
 f26:=⟨Tryz.f251.name,by decide,Tryz.func251.trans (congrArg some (by kernel_rfl))⟩
 f27:=⟨Tryz.f252.name,by decide,Tryz.func252.trans (congrArg some (by kernel_rfl))⟩
 f28:=⟨Tryz.f253.name,by decide,Tryz.func253.trans (congrArg some (by kernel_rfl))⟩
 f29:=⟨Tryz.f254.name,by decide,Tryz.func254.trans (congrArg some (by kernel_rfl))⟩
 f31:=Tryz.func274.trans (congrArg some (by kernel_rfl))
 f32:=Tryz.func275.trans (congrArg some (by kernel_rfl))
 f36:=⟨Tryz.f282.name,by decide,Tryz.func282.trans (congrArg some (by kernel_rfl))⟩
 f37:=⟨Tryz.f283.name,by decide,Tryz.func283.trans (congrArg some (by kernel_rfl))⟩
 f38:=⟨Tryz.f284.name,by decide,Tryz.func284.trans (congrArg some (by kernel_rfl))⟩
 f39:=⟨Tryz.f285.name,by decide,Tryz.func285.trans (congrArg some (by kernel_rfl))⟩
 f41:=⟨Tryz.f303.name,by decide,Tryz.func303.trans (congrArg some (by kernel_rfl))⟩
 t0:=Tryz.underlying0
 a0:=Tryz.isAgg0
 z0:=Tryz.sizeOf0
 v0:=Tryz.zeroValue0
 t3:=Tryz.underlying3
 a3:=Tryz.isAgg3
 z3:=Tryz.sizeOf3
 v3:=Tryz.zeroValue3
 t4:=Tryz.underlying4
 a4:=Tryz.isAgg4
 z4:=Tryz.sizeOf4
 v4:=Tryz.zeroValue4
 t5:=Tryz.underlying5
 a5:=Tryz.isAgg5
 z5:=Tryz.sizeOf5
 v5:=Tryz.zeroValue5
 t9:=Tryz.underlying9
 a9:=Tryz.isAgg9
 z9:=Tryz.sizeOf9
 v9:=Tryz.zeroValue9
 t26:=Tryz.underlying68
 a26:=Tryz.isAgg68
 z26:=Tryz.sizeOf68
 v26:=Tryz.zeroValue68
 t27:=Tryz.underlying68
 a27:=Tryz.isAgg68
 z27:=Tryz.sizeOf68
 v27:=Tryz.zeroValue68
 t29:=Tryz.underlying9
 a29:=Tryz.isAgg9
 z29:=Tryz.sizeOf9
 v29:=Tryz.zeroValue9
 t32:=Tryz.underlying234
 a32:=Tryz.isAgg234
 z32:=Tryz.sizeOf234
 v32:=Tryz.zeroValue234
 t35:=Tryz.underlying272
 a35:=Tryz.isAgg272
 z35:=Tryz.sizeOf272
 v35:=Tryz.zeroValue272
 t36:=Tryz.underlying273
 a36:=Tryz.isAgg273
 z36:=Tryz.sizeOf273
 v36:=Tryz.zeroValue273
 t41:=Tryz.underlying277
 a41:=Tryz.isAgg277
 z41:=Tryz.sizeOf277
 v41:=Tryz.zeroValue277
 t44:=Tryz.underlying237
 a44:=Tryz.isAgg237
 z44:=Tryz.sizeOf237
 v44:=Tryz.zeroValue237
 t46:=Tryz.underlying178
 a46:=Tryz.isAgg178
 z46:=Tryz.sizeOf178
 v46:=Tryz.zeroValue178
 t53:=Tryz.underlying299
 a53:=Tryz.isAgg299
 z53:=Tryz.sizeOf299
 v53:=Tryz.zeroValue299
 t57:=Tryz.underlying303
 a57:=Tryz.isAgg303
 z57:=Tryz.sizeOf303
 v57:=Tryz.zeroValue303
 t63:=Tryz.underlying309
 a63:=Tryz.isAgg309
 z63:=Tryz.sizeOf309
 v63:=Tryz.zeroValue309
 t64:=Tryz.underlying310
 a64:=Tryz.isAgg310
 z64:=Tryz.sizeOf310
 v64:=Tryz.zeroValue310}
theorem Tryz.sortsS (m:Nat):AnyZ.SortsIn Tryz.prog Tryz.sortedS_ren Fence.wide m:=
 ⟨fun blk off cap ss W hH hblk hsz=>callsIn_wide.2 (AnyM.slices_Sort_string Tryz.sortS blk off cap ss W hH hblk hsz),
  fun p cap W=>callsIn_wide.2 (AnyM.slices_Sort_string_none Tryz.sortS p cap W)⟩
theorem Tryz.maps_Keys_B (mb:Option Nat) (W:World):CallsIn Fence.wide 5 Tryz.prog 88 #[.map mb] W fun e w'=>e= .returned (.func (.func 152) #[] #[.pointer (some ⟨W.heap.size,0,none⟩)])∧w'=W.alloc (.cells #[.map mb] 150):=
 AnyZ.keys_in Tryz.keysB Fence.wide 5 trivial rfl mb W
set_option maxHeartbeats 1000000 in
theorem Tryz.slices_Sorted_keys_B {H:Type} (b nn:Nat) (D0:DataW H) (R:Value→Option (DataW H×List MemPlace)) (w:World) (hown:w.ownsMap Tryz.prog 9 R b nn D0) (hmax:Maps.size D0≤maxLen) (hbytes:Maps.size D0*16≤140737488355328):
  CallsIn Fence.wide 5 Tryz.prog 87 #[.func (.func 152) #[] #[.pointer (some ⟨w.heap.size,0,none⟩)]] (w.alloc (.cells #[.map (some b)] 150)) fun e w'=>∃(v:Value) (ss:List (List UInt8)),e= .returned v∧ss.Perm (strKeys D0)∧
   w'.ownsRow (w.alloc (.cells #[.map (some b)] 150)).heap.size 9 1 v ss.length ((ss.mergeSort (fun x y=>decide (x≤y))).map encStr)∧(v= .slice none 0 0↔ss=[])∧Below (w.alloc (.cells #[.map (some b)] 150)).heap.size (w.alloc (.cells #[.map (some b)] 150)) w':=by
 have hbl:=hown.lt;have hseq:SeqGives Fence.wide 2 Tryz.prog 152 #[.pointer (some ⟨w.heap.size,0,none⟩)] encStr (fun ss=>ss.Perm (strKeys D0)) (Maps.size D0) (w.alloc (.cells #[.map (some b)] 150)):=
  AnyZ.keys_gives (ρ:=Tryz.keysB_ren) {Tryz.keysB with} Fence.wide _ trivial rfl (by omega) w.heap.size b nn D0 _ (by simp) (by simp) (by
   obtain⟨es,clock,hb,Ft,hs,hD⟩:=hown;exact⟨es,clock,(Below.heap_alloc _ _ b hbl).trans hb,Ft,hs,hD⟩)
 exact AnyZ.sorted_in Tryz.sortedS Fence.wide 5 trivial trivial trivial trivial rfl (by omega) (Tryz.sortsS _) (enters_of Tryz.func151 (by kernel_rfl) rfl) 152 #[.pointer (some ⟨w.heap.size,0,none⟩)] trivial (enters_of Tryz.func152 (by kernel_rfl) rfl) _ _ hmax hbytes _ hseq
def Tryz.keysL_ren:Go.Shelf.Ren:=⟨fun | 7=>91 | 10=>154 | n=>n,fun | 23=>142 | 26=>9 | 3=>158 | 28=>148 | 0=>0 | 27=>147 | 33=>166 | 4=>4 | n=>n,fun | n=>n⟩
theorem Tryz.keysL:Go.Proofs.SlLaysZ.n7 Tryz.prog Tryz.keysL_ren:= {
 mixed:=by kernel_rfl
 f7:=⟨Tryz.f91.name,by decide,Tryz.func91.trans (congrArg some (by kernel_rfl))⟩
 f10:=⟨Tryz.f154.name,by decide,Tryz.func154.trans (congrArg some (by kernel_rfl))⟩
 t0:=Tryz.underlying0
 a0:=Tryz.isAgg0
 z0:=Tryz.sizeOf0
 v0:=Tryz.zeroValue0
 t4:=Tryz.underlying4
 a4:=Tryz.isAgg4
 z4:=Tryz.sizeOf4
 v4:=Tryz.zeroValue4
 t23:=Tryz.underlying142
 a23:=Tryz.isAgg142
 z23:=Tryz.sizeOf142
 v23:=Tryz.zeroValue142
 t26:=Tryz.underlying9
 a26:=Tryz.isAgg9
 z26:=Tryz.sizeOf9
 v26:=Tryz.zeroValue9
 t27:=Tryz.underlying147
 a27:=Tryz.isAgg147
 z27:=Tryz.sizeOf147
 v27:=Tryz.zeroValue147
 t28:=Tryz.underlying148
 a28:=Tryz.isAgg148
 z28:=Tryz.sizeOf148
 v28:=Tryz.zeroValue148
 t33:=Tryz.underlying166
 a33:=Tryz.isAgg166
 z33:=Tryz.sizeOf166
 v33:=Tryz.zeroValue166}
end
section
open Go.MapKept Go.WideShapes
abbrev Re0:Value→Option (DataW Unit×List MemPlace):=fun _=>some (.lit (.bool true),[])
theorem dq.owns {P:Program} {k:TypeId} {w:World} {b:Nat} {l:List (ByteArray×Value)} (h:dq w b l) (hk:P.underlying k=some .string) (hs:l.length≤maxLen) (hn:∀p∈l,p.1.size≤maxLen):
  ∃D:DataW Unit,w.ownsMap P k Re0 b l.length D∧(strKeys D).Perm (l.map fun p=>p.1.data.toList)∧Maps.size D=l.length:=by
 obtain⟨es,clock,hb,hst,he⟩:=h;have hlen:es.size=l.length:=by have:=congrArg List.length he;simpa using this
 have hrd:∀x∈es.toList,∃p∈l,x.key= .string p.1∧Go.WideElems.rd P k Re0 x=some (.string p.1.data.toList,.lit (.bool true)):=fun x hx=>by
  obtain⟨j,hj,e⟩:=List.getElem_of_mem hx;obtain⟨p,h1,h2,_⟩:=jo he (j:=j) (e:=x) (by rw[List.getElem?_eq_getElem hj,e]);refine⟨p,List.mem_of_getElem? h1,h2,?_⟩;have h3:=hn p (List.mem_of_getElem? h1);have h4:p.1.data.size≤maxLen:=h3;simp[Go.WideElems.rd,keyOf,hk,mapKey,h2,Re0,h3]
 have hf:Go.WideElems.Fit P k Re0 es clock:=⟨by omega,hst,fun x hx=>by obtain⟨p,_,_,h⟩:=hrd x hx;exact⟨_,h⟩⟩;refine⟨.map ((es.toList.map (Go.WideElems.rg P k Re0)).foldr DataW.insert []),⟨es,clock,hb,hf,by omega,rfl⟩,?_,?_⟩
 ·have h1:=(sorted_perm (es.toList.map (Go.WideElems.rg P k Re0))).map (fun p=>strOf p.1);refine List.Perm.trans h1 ?_;rw[List.map_map];have e:es.toList.map ((fun p=>strOf p.1)∘ Go.WideElems.rg P k Re0)=l.map fun p=>p.1.data.toList:=by
   apply List.ext_getElem?;intro j;rw[List.getElem?_map,List.getElem?_map];have hg:=lO he j
   cases h2:es.toList[j]? with
   | none=>
    rw[h2]at hg
    cases h3:l[j]? with
    | none=>rfl
    | some p=>rw[h3]at hg;cases hg
   | some x=>
    obtain⟨p,h3,h4,_⟩:=jo he h2;obtain⟨p',_,h5,h6⟩:=hrd x (List.mem_of_getElem? h2);rw[h4]at h5;injection h5 with h5;rw[h3];simp[Go.WideElems.rg,h6,strOf,h5]
  rw[e]
 ·show((es.toList.map (Go.WideElems.rg P k Re0)).foldr DataW.insert []).length=_;rw[length_sorted,List.length_map,Array.length_toList,hlen]
def txt (x:List UInt8):Nm:=⟨x.toArray⟩
theorem txt_of (c:Nm):txt c.data.toList=c:=by simp[txt]
theorem of_txt (x:List UInt8):(txt x).data.toList=x:=by simp[txt]
abbrev NmLe (a b:Nm):Prop:=a.data.toList≤b.data.toList
theorem uY {l:List (ByteArray×Value)} {D:DataW Unit} {ss:List (List UInt8)} (hl:(l.map (·.1)).Nodup) (hp:(strKeys D).Perm (l.map fun p=>p.1.data.toList)) (hss:ss.Perm (strKeys D)):
  ∃L:List Nm,((ss.mergeSort (fun x y=>decide (x≤y))).map encStr)=L.map Value.string∧L.length=ss.length∧L.Perm (l.map (·.1))∧L.Nodup∧L.Pairwise NmLe:=by
 have hpm:(ss.mergeSort (fun x y=>decide (x≤y))).Perm ss:=List.mergeSort_perm ..;have hpp:((ss.mergeSort (fun x y=>decide (x≤y))).map txt).Perm (l.map (·.1)):=by
  have h1:=(hpm.trans (hss.trans hp)).map txt;rw[List.map_map]at h1;have e:(l.map (txt ∘ fun p=>p.1.data.toList))=l.map (·.1):=List.map_congr_left (fun p _=>txt_of p.1);rwa [e]at h1
 refine⟨(ss.mergeSort (fun x y=>decide (x≤y))).map txt,?_,by simp,hpp,hpp.nodup_iff.2 hl,?_⟩
 ·rw[List.map_map];rfl
 ·rw[List.pairwise_map];have h2:(ss.mergeSort (fun x y=>decide (x≤y))).Pairwise (fun a b=>leB a b=true):=List.pairwise_mergeSort (fun a b c h1 h2=>by simp only[leB,decide_eq_true_eq]at *;exact List.le_trans h1 h2) (fun a b=>by simp only[leB,Bool.or_eq_true,decide_eq_true_eq];exact List.le_total a b) ss;refine h2.imp (fun {a b} h=> ?_);show(txt a).data.toList≤(txt b).data.toList;rw[of_txt,of_txt];simpa [leB]using h
abbrev dg (w:World) (b0:Nat) (v:Value) (L:List Nm):Prop:=w.ownsRow b0 9 1 v L.length (L.map Value.string)
theorem q_keysB {w:World} {b:Nat} {l:List Nm} (h:fY w b l) (hs:l.length≤1000000) (hn:∀x∈l,x.size≤maxLen):
  (Calls Tryz.prog 88 #[.map (some b)] w fun e w'=>e= .returned (.func (.func 152) #[] #[.pointer (some ⟨w.heap.size,0,none⟩)])∧w'=w.alloc (.cells #[.map (some b)] 150))∧
  Calls Tryz.prog 87 #[.func (.func 152) #[] #[.pointer (some ⟨w.heap.size,0,none⟩)]] (w.alloc (.cells #[.map (some b)] 150)) fun e w'=>∃v L,e= .returned v∧dg w' w.heap.size v L∧L.Perm l∧L.Nodup∧L.Pairwise NmLe∧(v= .slice none 0 0↔L=[])∧Below w.heap.size w w':=by
 have hmx:(1000000:Nat)≤maxLen:=by unfold maxLen;omega
 obtain⟨D,hD,hp,hz⟩:=dq.owns (P:=Tryz.prog) (k:=9) h (by kernel_rfl) (by rw[List.length_map];omega) (fun p hp=>by obtain⟨c,hc,rfl⟩:=List.mem_map.1 hp;exact hn c hc);rw[List.length_map]at hD hz;refine⟨callsIn_wide.1 (Tryz.maps_Keys_B (some b) w),(callsIn_wide.1 (Tryz.slices_Sorted_keys_B b l.length D Re0 w hD (by omega) (by omega))).mono ?_⟩;rintro e w' ⟨v,ss,rfl,hS,hrow,hnil,hb⟩;obtain⟨L,h1,h2,h3,h4,h5⟩:=uY (dq.nodup h) hp hS;rw[List.map_map]at h3;have e:(l.map ((fun p:ByteArray×Value=>p.1)∘ fun c=>(c,Value.bool true)))=l:=by simp[Function.comp_def]
 rw[e]at h3;refine⟨v,L,rfl,?_,h3,h4,h5,?_,((Below.refl _ w).alloc (Nat.le_refl _) _).trans (hb.mono (by rw[asz];omega))⟩
 ·show w'.ownsRow w.heap.size 9 1 v L.length (L.map Value.string);rw[←h1,h2];exact ownsRow_base_a hrow (by rw[asz];omega)
 ·rw[hnil];constructor
  ·intro h;apply List.eq_nil_of_length_eq_zero;rw[h2,h];rfl
  ·intro h;apply List.eq_nil_of_length_eq_zero;rw[←h2,h];rfl
theorem q_Frames {w:World} {t m:Nat} {E:List Ch} (h:TM w t m E) (hS:TSm (trE E)) (hN:∀x,a8 (trE E) x→x.size≤maxLen):Calls Tryz.prog 33 #[ptB t] w fun e w'=>∃v L,e= .returned v∧dg w' w.heap.size v L∧(∀x,x∈L↔a8 (trE E) x)∧L.Nodup∧L.Pairwise NmLe∧(v= .slice none 0 0↔L=[])∧L.length≤24∧Below w.heap.size w w':=by
 have hkn:=lP h;have H:=Lib.hid (And.intro hS hN);clear h hS hN;go_enter Tryz.func33,Tryz.ntmps33
 go_wp2_with (first
  | (go_at_call 89;refine hkn.mono ?_;rintro e w1 ⟨b,l,rfl,hM,hbl,hl,hb⟩;have hc:l.length≤24:=(by obtain⟨⟨⟨n,h1,h2⟩,_⟩,_⟩:=H.out;rw[bS.uniq ⟨l,hM.nodup,fun x=>(hl x).trans jq,rfl⟩ h2];exact h1);obtain⟨hk1,hk2⟩:=q_keysB hM (by omega) (fun x hx=>H.out.2 x (jq.1 ((hl x).1 hx)));have HB:=Lib.hid (And.intro hb (And.intro hl hc));clear hb hl hc hM hbl)
  | (go_at_call 88;refine hk1.mono ?_;rintro e w2 ⟨rfl,rfl⟩)
  | (go_at_call 87;refine hk2.mono ?_;rintro e w3 ⟨v,L,rfl,hrow,hp,hnd,hso,hnil,hb3⟩;have HR:=Lib.hid (And.intro hrow (And.intro hp (And.intro hnd (And.intro hso (And.intro hnil hb3)))));clear hrow hp hnd hso hnil hb3))
 go_ret;obtain⟨hrow,hp,hnd,hso,hnil,hb3⟩:=HR.out;obtain⟨hb,hl,hc⟩:=HB.out;exact⟨v,L,rfl,ownsRow_base_a hrow hb.size,fun x=>(hp.mem_iff).trans ((hl x).trans jq),hnd,hso,hnil,by rw[hp.length_eq];exact hc,hb.trans (hb3.mono hb.size)⟩
end
section
open Classical
theorem TInv.new {w w1:World} {t m:Nat} (h:TM w1 t m []) (ht:w.heap.size≤t) (hm:w.heap.size≤m) (hb:Below w.heap.size w w1):TInv w w1 t m []:=
 ⟨h,.nil,fun g hg=>by
  simp only[fpT,List.flatMap_nil,List.mem_cons,List.not_mem_nil,or_false]at hg;rcases hg with rfl | rfl
  ·exact ht
  ·exact hm,hb⟩
theorem TInv.att {w0 w w':World} {t m:Nat} {E E':List Ch} {R':Tr} {c p:Nm} {f e:Int} (h:TInv w0 w t m E) (k:TPost w t m E w' E') (r:REq (trE E') R') (d:AttS dG (trE E) c p f R' e):TInv w0 w' t m E':=
 h.next (s:=⟨0,c,p,f,Pq.id⟩) (e:=e) k r (by unfold DoS;exact d) Pq.ok.id
abbrev nA:Nm:=nm1 97
abbrev nB:Nm:=nm1 98
theorem q_ParentS {w:World} {t m:Nat} {E:List Ch} {c p:Nm} {a:Int} (h:TM w t m E) (hp:par (trE E) a c=some p):Calls Tryz.prog 34 #[ptB t,.string c,.int .i64 a] w fun e w'=>e= .returned (.tuple #[.string p,.bool true])∧w'=w:=by
 have h1:=uO h c a;unfold par at hp;rw[←h.tAt]at hp
 cases hl:atE E c a with
 | none=>rw[hl]at hp;cases hp
 | some l=>
  rw[hl]at hp h1;have e:l.x.par=p:=by injection hp
  rw[←e];exact h1
theorem q_ParentN {w:World} {t m:Nat} {E:List Ch} {c:Nm} {a:Int} (h:TM w t m E) (hp:par (trE E) a c=none):Calls Tryz.prog 34 #[ptB t,.string c,.int .i64 a] w fun e w'=>e= .returned (.tuple #[.string ByteArray.empty,.bool false])∧w'=w:=by
 have h1:=uO h c a;unfold par at hp;rw[←h.tAt]at hp
 cases hl:atE E c a with
 | none=>rw[hl]at h1;exact h1
 | some l=>rw[hl]at hp;cases hp
end
section
open Classical
section
variable {w w':World} {b sz n j:Nat} {T:TypeId} {v u:Value} {xs:List Value} {ad:Option Addr} {cap:Nat}
theorem iY (h:w.ownsRow b T sz v n xs) (k:∀g,v.ownBlock=some g→w'.heap[g]? =w.heap[g]?):w'.ownsRow b T sz v n xs:=
 ⟨h.1,h.2.imp id fun⟨g,cap,cur,e,hb,hg,hr⟩=>⟨g,cap,cur,e,hb,by rw[k g (by rw[e];rfl)];exact hg,hr⟩⟩
theorem mL (h:w.ownsRow b T sz v n xs) {g:Nat} (hg:v.ownBlock=some g):b≤g∧g<w.heap.size:=by
 rcases h.2 with⟨rfl,_⟩ | ⟨g',cap,cur,rfl,hb,hc,_⟩
 ·cases hg
 ·have e:g'=g:=Option.some.inj hg;subst e;exact⟨hb,(Array.getElem?_eq_some_iff.1 hc).1⟩
theorem pF (h:w.ownsRow b T sz v n xs):∃ad cap,v= .slice ad n cap:=by
 rcases h.2 with⟨rfl,rfl⟩ | ⟨g',cap,cur,rfl,_⟩
 ·exact⟨_,_,rfl⟩
 ·exact⟨_,_,rfl⟩
theorem yK (h:w.ownsRow b T sz (.slice ad n cap) n xs) (hj:xs[j]? =some u):∃g,ad=some ⟨g,0,none⟩∧w.cell? ⟨g,j,none⟩=some u:=by
 rcases h.2 with⟨e,rfl⟩ | ⟨g',cap',cur,e,_⟩
 ·have:xs=[]:=List.eq_nil_of_length_eq_zero (by rw[h.1];omega);subst this;cases hj
 ·injection e with e1 _ _;subst e1;have:=h.cells (g:=g') rfl j u hj;rw[dr,Nat.zero_add]at this;exact⟨g',rfl,this⟩
theorem dZ.keep (h:dZ w T sz v n xs) (k:∀g,v.ownBlock=some g→w'.heap[g]? =w.heap[g]?):dZ w' T sz v n xs:=
 ⟨iY h.1 k,fun g hg=>by
  obtain⟨cs,t,h1,h2⟩:=h.2 g hg;exact⟨cs,t,by rw[k g hg];exact h1,h2⟩⟩
end
theorem aX {B:Nat} {a:World}:∀(vs:List Value) (o:Nat) (w:World) {b:Nat},Below B a w→B≤b→Below B a (w.setCells b o vs)
 | [],_,_,_,h,_=>h
 | v::r,o,w,b,h,hb=>by
  rw[World.setCells];exact aX r (o+1) _ (h.setCell (p:=⟨b,o,none⟩) hb v) hb
theorem pE.row {w:World} {v:Value} {R:List Stp} (h:pE w v R):∃ad c,v= .slice ad R.length c∧∀i s,R[i]? =some s→∃b o,ad=some ⟨b,o,none⟩∧b<w.heap.size∧w.rangeAt b (o+i*6) s.cs:=by
 rcases h with⟨rfl,a,c,rfl⟩ | ⟨b,o,c,rfl,_,hb,hq⟩
 ·exact⟨a,c,rfl,fun i s hi=>by cases i<;>cases hi⟩
 ·exact⟨_,c,rfl,fun i s hi=>⟨b,o,rfl,hb,fun j u hu=>by rw[Nat.add_assoc];exact hq i s hi j u hu⟩⟩
theorem fZ {w w':World} {B b o:Nat} {cs:List Value} (h:w.rangeAt b o cs) (k:Below B w w') (hb:b<B):w'.rangeAt b o cs:=fun j v hv=>by
 rw[k.cell (p:=⟨b,_,none⟩) hb];exact h j v hv
theorem mM {w:World} {B:Nat} {cs:Array Value} {T:TypeId} (h:w.heap[B]? =some (.cells cs T (0,0))):w.there B 0 cs.size:=fun j hj=>by
 refine⟨?_,by simp[World.frozen?,h]⟩;rw[aA h,Nat.zero_add,Array.getElem?_eq_getElem hj];rfl
noncomputable def pOf (R:Tr) (a:Int) (c:Nm):Nm:=(par R a c).getD ByteArray.empty
theorem q_ParentG {w:World} {t m:Nat} {E:List Ch} (h:TM w t m E) (c:Nm) (a:Int):Calls Tryz.prog 34 #[ptB t,.string c,.int .i64 a] w fun e w'=>e= .returned (.tuple #[.string (pOf (trE E) a c),.bool (par (trE E) a c).isSome])∧w'=w:=by
 cases hp:par (trE E) a c with
 | some p=>unfold pOf;rw[hp];exact q_ParentS h hp
 | none=>unfold pOf;rw[hp];exact q_ParentN h hp
theorem DoS.par {R R':Tr} {s:Ax} {e a:Int} (hR:TOk R) (d:DoS R s R' e) (ha:a<s.a) (h0:0≤a) (c:Nm):par R' a c=par R a c:=by
 unfold DoS at d;split at d
 ·cases d with
  | ok e h h1 h2=>
   subst e;rw[yC hR.row h,if_neg (fun hh=>by have:=hh.2.2.1;omega)]
  | _=>rfl
 ·split at d
  ·cases d with
   | ok e h hs=>subst e;refine pp ?_ ?_ ?_ a c<;>rfl
   | _=>rfl
  ·split at d
   ·cases d with
    | ok e h hs ht hp=>subst e;refine pp ?_ ?_ ?_ a c<;>rfl
    | _=>rfl
   ·cases d with
    | ok hn _ _ _ _ _ _ _ _=>
     rw[nZ];split
     ·cases hp:Go.Proofs.YtggfmklppkioeaaGreat.par R a c with
      | some z=>rfl
      | none=>simp only;rw[if_neg (by omega)]
     ·rfl
    | _=>rfl
theorem TPost.trans {w w' w'':World} {t m:Nat} {E E' E'':List Ch} (h:TPost w t m E w' E') (k:TPost w' t m E' w'' E''):TPost w t m E w'' E'':=
 ⟨k.tm,⟨k.kp.os.trans h.kp.os,k.kp.tape.trans h.kp.tape,k.kp.output.trans h.kp.output,Nat.le_trans h.kp.size k.kp.size,fun g hg hn=>(k.kp.block g (Nat.lt_of_lt_of_le hg h.kp.size) (fun hm=>(h.fp g hm).elim hn (fun h2=>absurd hg (Nat.not_lt.2 h2)))).trans (h.kp.block g hg hn)⟩,
  fun g hg=>(k.fp g hg).elim (h.fp g) (fun h2=>.inr (Nat.le_trans h.kp.size h2))⟩
theorem Sane.short {R:Tr} (h:Sane R) {x:Nm} (hx:a8 R x):x.size≤maxLen:=by
 obtain⟨q,hq,h1 | h1⟩:=hx
 ·rw[←h1];exact Nat.le_trans (h.nm q hq).1.2.1 (by decide)
 ·rw[←h1];exact Nat.le_trans (h.nm q hq).2.2.1 (by decide)
end
theorem uZ {w:World}:∀ {xs:List Fq} {cs:List Value},cs.length=3*xs.length→(∀(j:Nat) (q:Vp),(frs xs)[j]? =some q→∃u,cs[j]? =some u∧q.p w u)→aM w (xs.map Fq.raw) cs
 | [],cs,hl,_=>by
  have:cs=[]:=List.eq_nil_of_length_eq_zero (by simpa using hl);exact this
 | x::xs,cs,hl,h=>by
  match cs,hl with
  | c0::c1::c2::cs,hl=>
   obtain⟨u0,e0,k0⟩:=h 0 _ rfl;obtain⟨u1,e1,k1⟩:=h 1 _ rfl;obtain⟨u2,e2,k2⟩:=h 2 _ rfl;injection e0 with e0;injection e1 with e1;injection e2 with e2;subst e0;subst e1;subst e2;have k0:c0= .bool x.s:=k0.1;subst k0;have k1:IsR w (.agg #[c1]) (nl x.p) x.p:=k1;have k2:IsR w (.agg #[c2]) (nl x.q) x.q:=k2;obtain⟨a,c,f1,r1⟩:=id k1;obtain⟨b,d,f2,r2⟩:=id k2;have f1:c1= .slice a (nl x.p) c:=by injection f1 with f1;simpa using f1
   have f2:c2= .slice b (nl x.q) d:=by injection f2 with f2;simpa using f2
   subst f1;subst f2;exact⟨a,c,b,d,cs,rfl,k1,k2,uZ (by simp at hl;omega) (fun j q hq=>by
    obtain⟨u,g1,g2⟩:=h (j+3) q (by simpa [frs]using hq);exact⟨u,by simpa using g1,g2⟩)⟩
theorem LnAt.pose {w:World} {c:Nm} {l:Ln} (h:LnAt w c l):∃cs:List Value,cs.length=21∧w.rangeAt l.b 5 cs∧bw w (.agg cs.toArray) l.x.po:=by
 obtain⟨⟨C,h1,h2,h3⟩,_⟩:=h;have hC:C.size=27:=h2;have hg:∀j,j<21→(C.extract 5 26).toList[j]? =C[5+j]? :=fun j hj=>by
  rw[Array.getElem?_toList,Array.getElem?_extract];rw[if_pos (by omega)]
 refine⟨(C.extract 5 26).toList,by simp[hC],fun j v hv=> ?_,⟨_,rfl,uZ (xs:=l.x.po.cs) (by show(C.extract 5 26).toList.length=21;simp[hC]) (fun j q hq=> ?_)⟩⟩
 ·have hj:j<21:=by have:=(List.getElem?_eq_some_iff.1 hv).1;simpa [hC]using this
  rw[aA h1,←hg j hj];exact hv
 ·have hj:j<21:=(List.getElem?_eq_some_iff.1 hq).1;have hq2:(lnQ c l)[5+j]? =some q:=by
   show([.val (.string c),.val (.string l.x.par),.val (.int .i64 l.x.fr),.val (.int .i64 l.x.un),.val (.bool l.x.st)]++(frs l.x.po.cs++ [.val (ptB l.g)]):List Vp)[5+j]? =some q;rw[List.getElem?_append_right (by simp),List.getElem?_append_left (by show 5+j - 5<21;omega)];rw[show 5+j - ([.val (.string c),.val (.string l.x.par),.val (.int .i64 l.x.fr),.val (.int .i64 l.x.un),.val (.bool l.x.st)]:List Vp).length=j from by show 5+j - 5=j;omega];exact hq
  obtain⟨u,k1,k2⟩:=h3 _ _ hq2;exact⟨u,by rw[hg j hj];exact k1,k2⟩
theorem lT (w:World):bw w (.agg aD.toArray) Pq.zero:=⟨aD,rfl,fi (n:=7) (zero21_h (ρ:=[]) (B:=noB))⟩
noncomputable def trkP (S:List St) (a:Int):Pq×Int:=
 match S[0]?,S[S.length - 1]? with
 | some f,some l=>if a<f.tm∨l.tm<a then(Pq.zero,17)else
  (match S[plN S a]? with
  | some y=>if y.tm=a then(y.pose,0)else(match S[plN S a - 1]? with | some z=>(atP z y 0 a,0) | none=>(Pq.zero,17))
  | none=>(Pq.zero,17))
 | _,_=>(Pq.zero,6)
theorem Road.trkP {S:List St} {a:Int} {z y:St} {c:Int} (h:Road S a z y c):trkP S a=(atP z y c a,c):=by
 unfold Go.Proofs.YtggfmklppkioeaaGreat.trkP
 cases h with
 | E h0=>
  have:S=[]:=List.eq_nil_of_length_eq_zero h0;subst this;rfl
 | O1 f hf hn ha=>
  obtain⟨l,hl⟩:∃l,S[S.length - 1]? =some l:=⟨_,List.getElem?_eq_getElem (by omega)⟩;simp only[hf,hl];rw[if_pos (.inl ha)];unfold atP;rw[if_pos (by decide)]
 | O2 f hf hb l hl hn ha=>simp only[hf,hl];rw[if_pos (.inr ha)];unfold atP;rw[if_pos (by decide)]
 | Q f hf hb l hl hn ha y hy ey hp eq1=>
  simp only[hf,hl];rw[if_neg (by omega)];simp only[hy];rw[if_pos ey];unfold atP;rw[if_neg (by decide),if_pos rfl]
 | M f hf hb l hl hn ha y hy ey hp h0 eq1 z hz=>
  simp only[hf,hl];rw[if_neg (by omega)];simp only[hy];rw[if_neg (by omega)];simp only[hz]
noncomputable def dR (R:Tr) (c:Nm) (a:Int):Pq×Int:=match tAt R c a with | none=>(Pq.zero,18) | some x=>if x.st then(x.po,0)else trkP x.tr a
theorem gT {vs:List Value} {C:Array Value} (h:C.size=vs.length):iX C 0 vs=vs.toArray:=by
 apply Array.ext_getElem?;intro i;rw[mJ _ _ _ _ (by omega)];by_cases hi:i<vs.length
 ·rw[if_pos ⟨by omega,by omega⟩];simp
 ·rw[if_neg (by omega),Array.getElem?_eq_none (by omega),Array.getElem?_eq_none (by simp;omega)]
structure PB (w0 W:World) (B:Nat) (vs:List Value):Prop where
 blk:W.heap[B]? =some (.cells vs.toArray 39 (0,0))
 len:vs.length=21
 bel:Below w0.heap.size w0 W
 ge:w0.heap.size≤B
 nu:∀u∈vs,noU u
theorem PB.new (w:World):PB w (w.alloc (.cells aD.toArray 39)) w.heap.size aD:=⟨heap_alloc_new w _,rfl,(Below.refl _ w).alloc (Nat.le_refl _) _,Nat.le_refl _,fun u hu n e=>by
 subst e;simp[aD]at hu⟩
theorem PB.next {w0 W W':World} {B:Nat} {vs:List Value} (h:PB w0 W B vs) (k:Below W.heap.size W W'):PB w0 W' B vs:=
 ⟨by rw[k.block B (Array.getElem?_eq_some_iff.1 h.blk).1];exact h.blk,h.len,h.bel.trans (k.mono h.bel.size),h.ge,h.nu⟩
theorem PB.put {w0 W:World} {B:Nat} {vs us:List Value} (h:PB w0 W B vs) (hu:us.length=21) (hn:∀u∈us,noU u):PB w0 (W.setCells B 0 us) B us:=
 ⟨by rw[cX us W B 0 _ _ h.blk,gT (by simp[h.len,hu])],hu,aX us 0 W h.bel h.ge,h.ge,hn⟩
theorem PB.there {w0 W:World} {B:Nat} {vs:List Value} (h:PB w0 W B vs):W.there B 0 21:=by
 have:=mM h.blk;rwa [List.size_toArray,h.len]at this
theorem cB {us:List Value} (hu:us.length=21):(Tryz.prog.info? 39).map (·.size)=some us.toArray.size:=by rw[List.size_toArray,hu];kernel_rfl
theorem iZ {w:World} {v:Value} {p:Pq} (h:bw w v p):∃cs:List Value,v= .agg cs.toArray∧cs.length=21∧cs.toArray.all (·.oneCell')=true∧∀u∈cs,noU u:=by
 obtain⟨cs,rfl,hc⟩:=h;refine⟨cs,rfl,bY hc,all_oneCell_toArray (fx hc),fun u hu n e=> ?_⟩;obtain⟨k,hk,e2⟩:=List.getElem_of_mem hu;exact hc.noInt k n (by rw[List.getElem?_eq_getElem hk,e2,e])
theorem PB.keep {w0 W:World} {B:Nat} {vs us:List Value} {v:Value} {p:Pq} (h:PB w0 W B vs) (i:bw W v p):bw (W.setCells B 0 us) v p:=by
 obtain⟨cs,rfl,hc⟩:=i;exact⟨cs,rfl,hc.upd (j4 h.blk (fun u hu=>h.nu u (by simpa using hu))) (ck us W B 0)⟩
theorem PB.ret {w0 W:World} {B:Nat} {vs:List Value} (h:PB w0 W B vs) {fn:Func} {p u:Tmp} (hr:fn.results=#[.cell p 39,.tmp u]) (tmps:Array Value) (hp:tmps.getD p undef= .pointer (some ⟨B,0,none⟩)):
  (results fn tmps).run Tryz.prog W= .ok (.tuple #[.agg vs.toArray,tmps.getD u undef]) W:=
 rn hr tmps W B _ _ _ _ hp h.blk Tryz.underlying39 rfl (cB h.len)
theorem q_EdgeN {w:World} {t m:Nat} {E:List Ch} {c:Nm} {a:Int} (h:TM w t m E) (hl:atE E c a=none):
  Calls Tryz.prog 41 #[ptB t,.string c,.int .i64 a] w fun e w'=>e= .returned (.tuple #[.agg aD.toArray,.int .i64 18])∧Below w.heap.size w w':=by
 have hp0:=PB.new w;have hat:=yF (h.below hp0.bel) c a;rw[hl]at hat
 change Calls _ _ _ _ (fun e w'=>e= .returned (.pointer none)∧w'=_)at hat
 have HP:=Lib.hid hp0;obtain⟨W,hW⟩:∃W,w.alloc (.cells aD.toArray 39)=W:=⟨_,rfl⟩;rw[hW]at hat HP;clear h hl hp0;go_enter Tryz.func41,Tryz.ntmps41
 go_upto_region 0 with(fail)
 refine wp_region_list ?_;refine aj rfl (v:=.pointer (some ⟨w.heap.size,0,none⟩)) (w':=W) (by subst hW;go_simp;try rfl) ?_;obtain⟨B,hB⟩:∃B,w.heap.size=B:=⟨_,rfl⟩;rw[hB]at HP⊢;clear hW hB;go_upto_region 5 with(go_at_call 90;refine hat.mono ?_;rintro e w' ⟨rfl,hw'⟩;obtain rfl:=hw'.symm)
 refine wp_region_list ?_;refine aj rfl (v:=.agg aD.toArray) (w':=W) (by unfold aD;go_simp;try rfl) ?_;refine wpList_store_mid rfl _ _ _ rfl B 0 aD.toArray rfl rfl HP.out.there (by kernel_rfl) (by kernel_rfl) ?_;have HP2:=Lib.hid (HP.out.put (us:=aD) rfl HP.out.nu);generalize W.setCells B 0 aD.toArray.toList=W2 at *;go_wp2;refine bodyPost_ret (HP2.out.ret rfl _ rfl) rfl ?_;exact⟨rfl,HP2.out.bel⟩
theorem q_EdgeS {w:World} {t m:Nat} {E:List Ch} {c:Nm} {a:Int} {l:Ln} (h:TM w t m E) (hl:atE E c a=some l) (hs:l.x.st=true) (hk:l.x.po.ok 1000000):
  Calls Tryz.prog 41 #[ptB t,.string c,.int .i64 a] w fun e w'=>∃v,e= .returned (.tuple #[v,.int .i64 0])∧bw w' v l.x.po∧Below w.heap.size w w':=by
 have hp0:=PB.new w;have hT:=h.below hp0.bel;have hat:=yF hT c a;rw[hl]at hat
 change Calls _ _ _ _ (fun e w'=>e= .returned (ptB l.b)∧w'=_)at hat
 obtain⟨_,_,_,hL⟩:=mG hT hl;obtain⟨cs,hlen,hrg,hoq⟩:=hL.pose;have hst:=hL.st;rw[hs]at hst;have hcp:=q_fcp _ l.x.po _ hoq (hk.mono (by decide));have HP:=Lib.hid hp0;obtain⟨W,hW⟩:∃W,w.alloc (.cells aD.toArray 39)=W:=⟨_,rfl⟩;rw[hW]at hat HP hrg hst hcp;have HRG:=Lib.hid hrg;have HSZ:=Lib.hid (show(Tryz.prog.info? 39).map (·.size)=some cs.length by rw[hlen];kernel_rfl);clear h hl hp0 hT hs hk hL hrg hoq;generalize l.b=lb at *;generalize l.x.po=po at *;go_enter Tryz.func41,Tryz.ntmps41
 go_upto_region 0 with(fail)
 refine wp_region_list ?_;refine aj rfl (v:=.pointer (some ⟨w.heap.size,0,none⟩)) (w':=W) (by subst hW;go_simp;try rfl) ?_;obtain⟨B,hB⟩:∃B,w.heap.size=B:=⟨_,rfl⟩;rw[hB]at HP⊢;clear hW hB;go_upto_region 7 with(go_at_call 90;refine hat.mono ?_;rintro e w' ⟨rfl,hw'⟩;obtain rfl:=hw'.symm)
 clear hat hst;refine wp_region_list ?_;refine aj rfl (v:=ptB lb) (w':=W) (by rfl) ?_;refine aj rfl (v:=ptB lb) (w':=W) (by go_simp) ?_;refine aj rfl (v:=.pointer (some ⟨lb,5,none⟩)) (w':=W) (by go_simp) ?_;refine wpList_load_mid rfl _ _ rfl lb 5 rfl cs _ HRG.out Tryz.underlying39 rfl HSZ.out ?_;refine wpList_plain rfl (fun K hK=> ?_);go_simp;go_at_call 97
 refine hcp.mono ?_;rintro e w4 ⟨v,rfl,hv4,k4⟩;obtain⟨us,rfl,hul,hu1,hun⟩:=iZ hv4;have HP4:=HP.out.next k4;have HP5:=Lib.hid (HP4.put (us:=us) hul hun);have HV:=Lib.hid (HP4.keep (us:=us) hv4);have hth:=HP4.there;rw[←hul]at hth;refine hK _ _ ?_;clear hK K hv4 k4 hcp HRG HSZ HP;refine wpList_store_mid rfl _ _ _ rfl B 0 us.toArray rfl rfl (by simpa using hth) (cB hul) hu1 ?_;rw[show us.toArray.toList=us from rfl];generalize W2d:w4.setCells B 0 us=W2 at *;clear W2d HP4 hth hu1 hun;go_wp2;refine bodyPost_ret (HP5.out.ret rfl _ rfl) rfl ?_;exact⟨_,rfl,HV.out,HP5.out.bel⟩
theorem q_EdgeT {w:World} {t m:Nat} {E:List Ch} {c:Nm} {a:Int} {l:Ln} (h:TM w t m E) (hE:TOk (trE E)) (hl:atE E c a=some l) (hs:l.x.st=false):
  Calls Tryz.prog 41 #[ptB t,.string c,.int .i64 a] w fun e w'=>∃v,e= .returned (.tuple #[v,.int .i64 (trkP l.x.tr a).2])∧bw w' v (trkP l.x.tr a).1∧Below w.heap.size w w':=by
 have hp0:=PB.new w;have hT:=h.below hp0.bel;have hat:=yF hT c a;rw[hl]at hat
 change Calls _ _ _ _ (fun e w'=>e= .returned (ptB l.b)∧w'=_)at hat
 obtain⟨ch,hch,hlm,hL⟩:=mG hT hl;have hgd:=hE.good _ (dM.2 ⟨ch,(cN hch).1,l,hlm,rfl⟩);obtain⟨z,y,cc,hr⟩:=road hgd a;have hAt:=q_AtS hL.trk hgd hr;have e1:=hr.trkP;have hst:=hL.st;have htp:=hL.tp;rw[hs]at hst;have HE1:=Lib.hid (show(trkP l.x.tr a).1=atP z y cc a by rw[e1]);rw[show(trkP l.x.tr a).2=cc by rw[e1]];have HP:=Lib.hid hp0;obtain⟨W,hW⟩:∃W,w.alloc (.cells aD.toArray 39)=W:=⟨_,rfl⟩;rw[hW]at hat HP hst hAt htp;clear h hl hp0 hT hs hL hE hch hlm hgd hr e1;generalize l.b=lb at *;generalize l.g=lg at *;generalize (trkP l.x.tr a).1=po at *;go_enter Tryz.func41,Tryz.ntmps41
 go_upto_region 0 with(fail)
 refine wp_region_list ?_;refine aj rfl (v:=.pointer (some ⟨w.heap.size,0,none⟩)) (w':=W) (by subst hW;go_simp;try rfl) ?_;obtain⟨B,hB⟩:∃B,w.heap.size=B:=⟨_,rfl⟩;rw[hB]at HP⊢;clear hW hB;go_upto_region 8 with(go_at_call 90;refine hat.mono ?_;rintro e w' ⟨rfl,hw'⟩;obtain rfl:=hw'.symm)
 clear hat hst;refine wp_region_list ?_;refine aj rfl (v:=ptB lb) (w':=W) (by rfl) ?_;refine aj rfl (v:=ptB lb) (w':=W) (by go_simp) ?_;refine aj rfl (v:=.pointer (some ⟨lb,26,none⟩)) (w':=W) (by go_simp) ?_;refine aj rfl (v:=ptB lg) (w':=W) (by go_simp) ?_;refine aj rfl (v:=.int .i64 a) (w':=W) (by rfl) ?_;refine wpList_plain rfl (fun K hK=> ?_);go_simp;go_at_call 98
 refine hAt.mono ?_;rintro e w4 ⟨v,rfl,hv4,k4⟩;rw[←HE1.out]at hv4;obtain⟨us,rfl,hul,hu1,hun⟩:=iZ hv4;have HP4:=HP.out.next k4;have HP5:=Lib.hid (HP4.put (us:=us) hul hun);have HV:=Lib.hid (HP4.keep (us:=us) hv4);have hth:=HP4.there;rw[←hul]at hth;refine hK _ _ ?_;clear hK K hv4 k4 hAt HP HE1;refine aj rfl (v:=.agg us.toArray) (w':=w4) (by go_simp) ?_;refine aj rfl (v:=.int .i64 cc) (w':=w4) (by go_simp) ?_;refine wpList_store_mid rfl _ _ _ rfl B 0 us.toArray rfl rfl (by simpa using hth) (cB hul) hu1 ?_;rw[show us.toArray.toList=us from rfl];generalize W2d:w4.setCells B 0 us=W2 at *;clear W2d HP4 hth hu1 hun;go_wp2;refine bodyPost_ret (HP5.out.ret rfl _ rfl) rfl ?_;exact⟨_,rfl,HV.out,HP5.out.bel⟩
theorem q_Edge {w:World} {t m:Nat} {E:List Ch} (h:TM w t m E) (hE:TOk (trE E)) (c:Nm) (a:Int):
  Calls Tryz.prog 41 #[ptB t,.string c,.int .i64 a] w fun e w'=>∃v,e= .returned (.tuple #[v,.int .i64 (dR (trE E) c a).2])∧bw w' v (dR (trE E) c a).1∧Below w.heap.size w w':=by
 unfold dR;rw[←h.tAt]
 cases hl:atE E c a with
 | none=>
  refine(q_EdgeN h hl).mono ?_;rintro e w' ⟨rfl,hb⟩;exact⟨_,rfl,lT w',hb⟩
 | some l=>
  simp only[Option.map_some];obtain⟨ch,hch,hlm,_⟩:=mG h hl
  cases hs:l.x.st with
  | true=>
   rw[if_pos rfl];exact q_EdgeS h hl hs ((hE.pose _ (dM.2 ⟨ch,(cN hch).1,l,hlm,rfl⟩) hs).2.mono (by decide))
  | false=>
   rw[if_neg (by simp)];exact q_EdgeT h hE hl hs
section
open Go.RowKit Go.MapKept
open Classical
def lkCs (q:Nm×Lk):List Value:=[.string q.1,.string q.2.par,.int .i64 q.2.fr,.int .i64 q.2.un]
end
section
open Classical
theorem q_Index {w:World} {v:Value} {L:List Nm} {b:Nat} (h:dg w b v L) (hL:L.length≤1000000) (c:Nm):Calls Tryz.prog 222 #[v,.string c] w fun e w'=>∃i:Int,e= .returned (.int .i64 i)∧(0≤i↔c∈L)∧w'=w:=by
 obtain⟨ad,cap,rfl⟩:=pF h;obtain⟨n,hn⟩:∃n,n=L.length:=⟨_,rfl⟩;have H:=Lib.hid (show w.ownsRow b 9 1 (.slice ad L.length cap) L.length (L.map Value.string)from h);rw[←hn]at H hL⊢;have HN:=Lib.hid hn;have hm:(n:Int)≤1000000:=by omega
 clear h hL hn;go_enter Tryz.func222,Tryz.ntmps222
 go_wp2;go_loopw [8] (fun s8 wr=>∃k:Nat,k≤n∧s8= .int .i64 (k:Int)∧wr=w∧Hid (∀j y,j<k→L[j]? =some y→y≠c)) (fun s8 _=>n - (intOf s8).toNat)
 case atStart=>exact⟨0,Nat.zero_le _,rfl,rfl,Lib.hid (fun j y hj=>absurd hj (Nat.not_lt_zero j))⟩
 case round=>
  obtain⟨k,hk,rfl,rfl,HR⟩:=hrel;rcases Nat.lt_or_ge k n with hlt | hge
  ·obtain⟨x,hx⟩:∃x,L[k]? =some x:=⟨_,List.getElem?_eq_getElem (by rw[←HN.out];exact hlt)⟩;obtain⟨g,rfl,hc⟩:=yK H.out (show(L.map Value.string)[k]? =some (.string x)by rw[List.getElem?_map,hx];rfl);have HX:=Lib.hid hx;clear hx;by_cases e:c=x
   ·subst e;have HQ:=Lib.hid (show∃i:Int,Ending.returned (.int .i64 (k:Int))= .returned (.int .i64 i)∧(0≤i↔c∈L)from⟨k,rfl,⟨fun _=>List.mem_of_getElem? HX.out,fun _=>by omega⟩⟩);go_wp2;go_ret;obtain⟨i,h1,h2⟩:=HQ.out;exact⟨i,h1,h2,rfl⟩
   ·have hne:=yE e;have HR2:=Lib.hid (show∀j y,j<k+1→L[j]? =some y→y≠c from fun j y hj hy=>by
     rcases Nat.lt_or_ge j k with h | h
     ·exact HR.out j y h hy
     ·obtain rfl:j=k:=by omega
      rw[HX.out]at hy;injection hy with hy;subst hy;exact fun h=>e h.symm)
    clear e;go_wp2;go_roundw
    case rel=>exact⟨k+1,by omega,by go_num,by trivial,HR2⟩
    case measure=>simp[intOf];omega
  ·obtain rfl:k=n:=by omega
   have HQ:=Lib.hid (show∃i:Int,Ending.returned (.int .i64 (-1))= .returned (.int .i64 i)∧(0≤i↔c∈L)from⟨-1,rfl,⟨fun h=>by omega,fun h=>by
    obtain⟨j,hj,e⟩:=List.getElem_of_mem h;exact absurd e (HR.out j _ (by rw[HN.out];exact hj) (List.getElem?_eq_getElem hj))⟩⟩)
   clear HR H;go_wp2;go_ret;obtain⟨i,h1,h2⟩:=HQ.out;exact⟨i,h1,h2,rfl⟩
theorem pG {w:World} {v:Value} {L:List Nm} {b:Nat} (h:dg w b v L) (hL:L.length≤1000000) (c:Nm):Calls Tryz.prog 172 #[v,.string c] w fun e w'=>e= .returned (.bool (decide (c∈L)))∧w'=w:=by
 have hi:=q_Index h hL c;obtain⟨q,hq⟩:∃q,q=decide (c∈L):=⟨_,rfl⟩;have HQ:=Lib.hid hq;rw[←hq];clear h hL hq;go_enter Tryz.func172,Tryz.ntmps172
 go_wp2_with (go_at_call 222;refine hi.mono ?_;rintro e w2 ⟨i,rfl,hi2,rfl⟩;have HI:=Lib.hid hi2;clear hi2)
 go_ret;refine⟨?_,rfl⟩;have e:decide (0≤i)=q:=by rw[HQ.out];exact decide_eq_decide.2 HI.out
 rw[←e];rfl
theorem vd {w:World} {t m:Nat} {E:List Ch} (h:TM w t m E) (hE:Sane (trE E)) (c:Nm):Calls Tryz.prog 108 #[ptB t,.string c] w fun e w'=>e= .returned (.bool (decide (a8 (trE E) c)))∧Below w.heap.size w w':=by
 have hfr:=(q_Frames h hE.sm (fun x hx=>hE.short hx)).mono (show∀e w',_→∃v,e= .returned v∧Hid (Below w.heap.size w w')∧Calls Tryz.prog 172 #[v,.string c] w' fun e w''=>e= .returned (.bool (decide (a8 (trE E) c)))∧w''=w' from by
  rintro e w' ⟨v,L,rfl,h1,h2,_,_,_,h3,h4⟩;refine⟨v,rfl,Lib.hid h4,?_⟩;rw[show decide (a8 (trE E) c)=decide (c∈L)from decide_eq_decide.2 (h2 c).symm];exact pG h1 (by omega) c)
 obtain⟨q,hq⟩:∃q,q=decide (a8 (trE E) c):=⟨_,rfl⟩;rw[←hq]at hfr⊢;clear h hE hq;go_enter Tryz.func108,Tryz.ntmps108
 go_wp2_with (first
  | (go_at_call 33;refine hfr.mono ?_;rintro e w2 ⟨v,rfl,HB,hct⟩)
  | (go_at_call 172;refine hct.mono ?_;rintro e w' ⟨rfl,hw'⟩;obtain rfl:=hw'.symm))
 go_ret;exact⟨rfl,HB.out⟩
inductive Anc (R:Tr) (a:Int):Nm→List Nm→Prop
 | root {x:Nm} (h:par R a x=none):Anc R a x [x]
 | step {x y:Nm} {l:List Nm} (h:par R a x=some y) (t:Anc R a y l):Anc R a x (x::l)
theorem Anc.of {R:Tr} {a:Int} {x:Nm} (h:eC R a x):∃l,Anc R a x l:=by
 induction h with
 | intro x _ ih=>
  cases hp:par R a x with
  | none=>exact⟨_,.root hp⟩
  | some y=>
   obtain⟨l,hl⟩:=ih y hp;exact⟨_,.step hp hl⟩
theorem Anc.uniq {R:Tr} {a:Int} {x:Nm} {l l':List Nm} (h:Anc R a x l) (k:Anc R a x l'):l=l':=by
 induction h generalizing l' with
 | root hp=>
  cases k with
  | root=>rfl
  | step hp' _=>rw[hp]at hp';cases hp'
 | step hp _ ih=>
  cases k with
  | root hp'=>rw[hp]at hp';cases hp'
  | step hp' t=>rw[hp]at hp';injection hp' with e;subst e;rw[ih t]
theorem Anc.head {R:Tr} {a:Int} {x:Nm} {l:List Nm} (h:Anc R a x l):∃t,l=x::t:=by cases h<;>exact⟨_,rfl⟩
theorem Anc.up {R:Tr} {a:Int}:∀ {n:Nat} {x y:Nm} {l:List Nm},Anc R a x l→up R a n x=some y→par R a y=none→l.length=n+1
 | 0,x,y,l,h,hu,hy=>by
  simp only[Go.Proofs.YtggfmklppkioeaaGreat.up,Option.some.injEq]at hu;subst hu
  cases h with
  | root=>rfl
  | step hp _=>rw[hy]at hp;cases hp
 | n+1,x,y,l,h,hu,hy=>by
  cases h with
  | root hp=>simp only[Go.Proofs.YtggfmklppkioeaaGreat.up,hp,Option.bind_none]at hu;cases hu
  | step hp t=>simp only[Go.Proofs.YtggfmklppkioeaaGreat.up,hp,Option.bind_some]at hu;rw[List.length_cons,Anc.up t hu hy]
theorem Anc.short {R:Tr} {a:Int} {x:Nm} {l:List Nm} (hR:Sane R) (hx:a8 R x) (h:Anc R a x l):l.length≤24:=by
 obtain⟨n,y,h1,h2,h3⟩:=short_way (a:=a) hR.ok hR.sm hx;have:=h.up h2 h3;omega
end
section
open Go.RowKit Go.Shelf
open Classical
attribute [local go_sem] Oper.semAt_some
structure Kb (n O:Nat) (A B:World):Prop where
 os:B.os=A.os
 tape:B.tape=A.tape
 output:B.output=A.output
 size:A.heap.size≤B.heap.size
 block:∀k,k<n→k≠O→B.heap[k]? =A.heap[k]?
theorem Kb.refl (n O:Nat) (A:World):Kb n O A A:=⟨rfl,rfl,rfl,Nat.le_refl _,fun _ _ _=>rfl⟩
theorem Kb.trans {n O:Nat} {A B C:World} (h:Kb n O A B) (k:Kb n O B C):Kb n O A C:=⟨k.os.trans h.os,k.tape.trans h.tape,k.output.trans h.output,Nat.le_trans h.size k.size,fun i h1 h2=>(k.block i h1 h2).trans (h.block i h1 h2)⟩
theorem Kb.below {n O:Nat} {A B:World} (h:Below n A B):Kb n O A B:=⟨h.os,h.tape,h.output,h.size,fun k hk _=>h.block k hk⟩
theorem Kb.grown {n O:Nat} {A B C:World} (h:Kb n O A B) {row:Option Nat} (g:B.grownBy C row) (hn:n≤B.heap.size) (hr:∀k,row=some k→n≤k∨k=O):Kb n O A C:=
 ⟨g.os.trans h.os,g.tape.trans h.tape,g.output.trans h.output,Nat.le_trans h.size g.size,fun k hk hO=>(g.block k (by omega) (fun e=>by rcases hr k e.symm with h1 | h1;omega;exact hO h1)).trans (h.block k hk hO)⟩
theorem Kb.cell {n O:Nat} {A B:World} (h:Kb n O A B) {b j:Nat} (hb:b<n) (hO:b≠O):B.cell? ⟨b,j,none⟩=A.cell? ⟨b,j,none⟩:=World.cell?_of_block (h.block b hb hO)
theorem Kb.tm {O t m:Nat} {E:List Ch} {w W:World} (h:Kb w.heap.size O w W) (hT:TM w t m E) (hO:O∉fpT t m E) (o:bC w O):TM W t m E:=
 hT.chg (X:=(· =O)) ⟨h.size,fun g hg hn=>h.block g hg hn,fun g hg=>by have e:g=O:=hg;subst e;exact o⟩ (fun g hg e=>hO (e▸hg))
theorem kb_own {β:Type} (n O:Nat) (w:World) (hn:n≤w.heap.size):OwnFrom n (fun(_:β) W=>Kb n O w W):=fun _ _ _ _ hs hg hr=>hs.grown hg (Nat.le_trans hn hs.size) (fun k e=>.inl (hr k e).1)
theorem kb_b {n O:Nat} {w:World} (hn:n≤w.heap.size) (W:World) (l:Nat) (o o':Obj) (hl:w.heap.size≤l) (h:W.heap[l]? =some o) (_:o.isCells=false) (_:o.isWalk=false):Kb n O W (W.putObj l o'):=
 (Kb.refl n O W).grown (grownBy_putObj' W l o') (by have:=(Array.getElem?_eq_some_iff.1 h).1;omega) (fun k e=>by cases e;exact .inl (by omega))
theorem xA (w:World) (t:Nat) (x:Nm) (a:Int):Calls Tryz.prog 171 #[ptB t,.string x,.int .i64 a] w fun e w'=>∃B,e= .returned (.func (.func 221) #[] #[.pointer (some ⟨B+1,0,none⟩),.pointer (some ⟨B,0,none⟩),.pointer (some ⟨B+2,0,none⟩)])∧B=w.heap.size∧
  w'=((w.alloc (.cells #[ptB t] 24)).alloc (.cells #[.string x] 9)).alloc (.cells #[.int .i64 a] 3):=by
 go_enter Tryz.func171,Tryz.ntmps171
 go_wp2;go_ret;exact⟨_,rfl,rfl,rfl⟩
set_option maxHeartbeats 1000000 in
theorem anc_stops (n:Nat) (hn:1≤n) {t m:Nat} {E:List Ch} {x:Nm} {a:Int} {ys:List Nm} {w:World} {O B1 B2 B3:Nat} (hT:TM w t m E) (hO:O∉fpT t m E) (hX:bC w O) (hB1:B1<w.heap.size∧B1≠O) (hB2:B2<w.heap.size∧B2≠O) (hB3:B3<w.heap.size∧B3≠O)
  (c1:w.cell? ⟨B1,0,none⟩=some (.string x)) (c2:w.cell? ⟨B2,0,none⟩=some (ptB t)) (c3:w.cell? ⟨B3,0,none⟩=some (.int .i64 a)) (hA:Anc (trE E) a x ys):
  SeqStopsK Fence.wide n Tryz.prog 221 #[.pointer (some ⟨B1,0,none⟩),.pointer (some ⟨B2,0,none⟩),.pointer (some ⟨B3,0,none⟩)] (fun z:Nm=> #[Value.string z]) (Kb w.heap.size O) (fun zs=>zs=ys) (fun pre=>pre <+:ys) ys.length w:=fun l J Jx W hW hJ hJx hY h0=>by
 have hk0:Kb w.heap.size O w W:=Kb.below hW;have c1':W.cell? ⟨B1,0,none⟩=some (.string x):=by rw[hk0.cell hB1.1 hB1.2];exact c1
 have HC2:=Lib.hid (show∀wq,Kb w.heap.size O w wq→wq.cell? ⟨B2,0,none⟩=some (ptB t)from fun wq k=>by rw[k.cell hB2.1 hB2.2];exact c2);have HC3:=Lib.hid (show∀wq,Kb w.heap.size O w wq→wq.cell? ⟨B3,0,none⟩=some (.int .i64 a)from fun wq k=>by rw[k.cell hB3.1 hB3.2];exact c3);have HT:=Lib.hid (show∀wq,Kb w.heap.size O w wq→TM wq t m E from fun wq k=>k.tm hT hO hX);have HK0:=Lib.hid hk0;have HA:=Lib.hid hA;have H0:=Lib.hid h0;have HJ:=Lib.hid (And.intro hJ hJx);have HY:=Lib.hid hY;clear hT hO hX hB1 hB2 hB3 c1 c2 c3 hk0 hW hA h0 hJ hJx hY;refine callsIn_of_wp Tryz.func221 rfl trivial ?_ rfl;simp only[Tryz.ntmps221,List.size_toArray,List.length_cons,List.length_nil,Nat.reduceAdd,Nat.reduceSub,Array.replicate_succ,Array.replicate_zero,List.push_toArray,List.append_toArray,List.nil_append,List.cons_append]
 gi_wp2
 gi_loopg [5,6] ys.length (fun k s5 s6 wr=>∃(pre rest:List Nm) (f:Nm),s5= .string f∧Hid (ys=pre++rest)∧Hid (Kb w.heap.size O w wr)∧Hid (J pre wr)∧((Hid (rest=[]∧k=0)∧s6= .bool false)∨(Hid (Anc (trE E) a f rest∧k=rest.length)∧s6= .bool true)))
 case atStart=>exact⟨[],ys,x,rfl,Lib.hid rfl,HK0,H0,.inr ⟨Lib.hid ⟨HA.out,rfl⟩,rfl⟩⟩
 case round=>
  obtain⟨pre,rest,f,rfl,hys,hkb,hj,⟨hr,rfl⟩ | ⟨hr,rfl⟩⟩:=hrel
  ·have hq:=Lib.hid (show(∃v,Ending.returned (.tuple #[])= .returned v)∧((∃zs,zs=ys∧J zs wr)∨(∃pre,pre <+:ys∧Jx pre wr))from⟨⟨_,rfl⟩,.inl ⟨pre,by rw[hys.out,hr.out.1,List.append_nil],hj.out⟩⟩)
   gi_wp2
   refine⟨fun _ h=>(by cases h),?_⟩
   gi_wp2
   go_end0
   exact⟨⟨_,rfl⟩,hq.out.2⟩
  ·obtain⟨tl,htl⟩:=hr.out.1.head;have hlt:pre.length<ys.length:=by rw[hys.out,htl];simp
   obtain⟨fn,tmps,assign,body,hy,hR⟩:=HY.out pre f wr hj.out hlt
   gi_wp2
   refine hR.mono ?_;rintro e W3 (⟨rfl,hJ3,hk3⟩ | ⟨rfl,hJx3⟩)
   ·have hkb3:=hkb.out.trans hk3;have c2:=HC2.out W3 hkb3;have c3:=HC3.out W3 hkb3;have hpa:=q_ParentG (HT.out W3 hkb3) f a;have HKB3:=Lib.hid hkb3;have HJ3:=Lib.hid hJ3;have HYS:=Lib.hid (show ys=(pre++ [f])++tl by rw[hys.out,htl];simp);have HR:=Lib.hid (show(par (trE E) a f=none∧tl=[])∨∃y,par (trE E) a f=some y∧Anc (trE E) a y tl from by
     have h1:=hr.out.1;rw[htl]at h1
     cases h1 with
     | root h=>exact .inl ⟨h,rfl⟩
     | step h k=>exact .inr ⟨_,h,k⟩)
    have HG:=Lib.hid (show gk=tl.length+1 by rw[hr.out.2,htl];rfl);clear hy hR hk3 hkb hkb3 hJ3 hys htl hlt hr hj;rcases HR.out with⟨hp,hn⟩ | ⟨y,hp,hn⟩
    ·rw[show pOf (trE E) a f=ByteArray.empty by unfold pOf;rw[hp];rfl,hp]at hpa;have HN:=Lib.hid hn;clear hp hn
     gi_wp2_with (refine⟨trivial,?_⟩;gi_at_call 34;refine(callsIn_wide.2 hpa).mono ?_;rintro e w' ⟨rfl,hw'⟩;obtain rfl:=hw'.symm)
     go_roundg 0
     case measure=>have:=HG.out;omega
     case rel=>exact⟨pre++ [f],tl,_,rfl,HYS,HKB3,HJ3,.inl ⟨Lib.hid ⟨HN.out,rfl⟩,rfl⟩⟩
    ·rw[show pOf (trE E) a f=y by unfold pOf;rw[hp];rfl,hp]at hpa;have HN:=Lib.hid hn;clear hp hn
     gi_wp2_with (refine⟨trivial,?_⟩;gi_at_call 34;refine(callsIn_wide.2 hpa).mono ?_;rintro e w' ⟨rfl,hw'⟩;obtain rfl:=hw'.symm)
     go_roundg tl.length
     case measure=>have:=HG.out;omega
     case rel=>exact⟨pre++ [f],tl,y,rfl,HYS,HKB3,HJ3,.inr ⟨Lib.hid ⟨HN.out,rfl⟩,rfl⟩⟩
   ·have HQ:=Lib.hid (show∃pre,pre <+:ys∧Jx pre W3 from⟨pre++ [f],⟨tl,by rw[hys.out,htl];simp⟩,hJx3⟩);clear hy hR
    gi_wp2
    first
    | refine bodyPost_ret (results_none rfl _ _ _) rfl ?_
    | go_end0
    exact⟨⟨_,rfl⟩,.inr HQ.out⟩
set_option maxRecDepth 100000 in
set_option maxHeartbeats 2000000 in
theorem q_AppSeq {w:World} {gf:Nat} {lb:Array Value} {O:Nat} {ys:List Nm} (eg:∀args w,(callFunc gf args).run Tryz.prog w= .ok (.enter gf args) w) (hl:ys.length≤1000)
  (hseq:∀(n:Nat) (w1:World),1≤n→Below w.heap.size w w1→SeqStopsK Fence.wide n Tryz.prog gf lb (fun z:Nm=> #[Value.string z]) (Kb w.heap.size O) (fun zs=>zs=ys) (fun pre=>pre <+:ys) ys.length w1):
  Calls Tryz.prog 205 #[.slice none 0 0,.func (.func gf) #[] lb] w fun e w'=>∃v,e= .returned v∧dg w' w.heap.size v ys∧Below w.heap.size w w':=by
 refine(callsIn_wide (n:=3)).1 ?_;have h1:(1:Nat)≤3:=by decide
 have hmx:(1000:Nat)≤maxLen:=by unfold maxLen;omega
 obtain⟨i0,hi,hz0,hz1,hz2⟩:=info_parts (show(Tryz.prog.info? 9).map (fun i=>(i.zero,i.size,i.bytes))=some (some (.string ByteArray.empty),1,16)by kernel_rfl);refine callsIn_of_wp_marks Tryz.func205 rfl trivial ?_ rfl;simp only[Tryz.ntmps205,List.size_toArray,List.length_cons,List.length_nil,Nat.reduceAdd,Nat.reduceSub,Array.replicate_succ,Array.replicate_zero,List.push_toArray,List.append_toArray,List.nil_append,List.cons_append]
 gi_wp2
 have bO:=Boxed.new w 68 (.slice none 0 0);have hB0:Below w.heap.size w (w.alloc (.cells #[.slice none 0 0] 68)):=(Below.refl _ w).alloc (Nat.le_refl _) _;refine wpIn_rangeFunc_ownG (F:=Fence.wide) (n:=3) rfl h1 (gf:=gf) (lb:=lb) rfl trivial eg
  (hseq 2 _ (by decide) hB0) (fun {_ _ _} h k=>h.trans k) (kb_b (by simp)) (Below.refl _ _) (fun _=>rfl)
  (fun pre W=>(∃v,Boxed W w.heap.size 68 v∧W.ownsRow w.heap.size 9 1 v pre.length (pre.map Value.string)∧True)∧Below w.heap.size w W)
  (fun _ _ _=>False)
  (OwnFrom.and (Own.from (holdsRow_own w.heap.size w.heap.size 68 9 1 (fun pre:List Nm=>pre.length) (fun pre=>pre.map Value.string) (fun _ _=>True)) _) (ownFrom_below (Nat.le_refl _) (by simp)))
  (fun _ _ _ _ _ hs _ _=>hs)
  ⟨⟨_,bO,World.ownsRow_nil _ _ _ _,trivial⟩,hB0⟩
  (fun x=> {tmps:=#[.slice none 0 0,.func (.func gf) #[] lb,.pointer (some ⟨w.heap.size,0,none⟩),undef,.slice none 0 0,.string x,.func (.func gf) #[] lb,.string x,undef,undef,undef,undef,undef],defers:=[]}) ?assign ?body ?done ?stop
 case assign=>
  intro l x W K hK
  gi_wp2
  exact hK
 case body=>
  rintro l pre x W ⟨⟨v,hv,hrow,_⟩,hB⟩ hlt;have hc:=hv.cell
  gi_wp2_with (gi_at_builtin;refine wpListIn_append_own _ rfl _ _ 68 rfl w.heap.size 9 i0 (.string ByteArray.empty) 1 16 Tryz.underlying68 hi hz0 hz1 hz2 rfl (by decide) _ _ _ rfl (hrow.alloc _) ⟨W.heap.size,0,none⟩ 1 1 [.string x] rfl rfl (cell_one_new _ _ _) (by simp[Value.oneCell']) (by omega) (by omega) (by have:=hB.size;simp;omega) ?_;intro v' w1 hown' hgrow _;obtain⟨g',cap',rfl⟩:=ownsRow_succ hown';obtain⟨hv1,hv2,hr2,hk2,hb2⟩:=hv.appended (by decide) hrow hB.size (Nat.le_refl _) hown' hgrow;have hc1:=hv1.cell;have hf1:=hv1.frozen)
  exact⟨hk2.from _,.below hb2,⟨_,hv2,by simpa using hr2,trivial⟩,hB.trans hb2⟩
 case done=>
  rintro D zs W hD rfl ⟨⟨v,hv,hrow,_⟩,hB⟩ hK;have hc:=hv.cell
  gi_wp2
  refine⟨by simp,.inl ⟨_,_,rfl,run_takeDeferred hK,?_⟩⟩;exact⟨_,results_tmp rfl _ _ _,v,rfl,ownsRow_putObj hrow _ hK rfl,hB.trans (belowK_b (w:=w) (Nat.le_refl _) W D _ _ (by simp at hD;omega) hK rfl rfl)⟩
 case stop=>
  rintro D c pre W _ _ h _;exact h.elim
end
section
open Go.RowKit Go.Shelf
open Classical
attribute [local go_sem] Oper.semAt_some
theorem q_Collect {w:World} {gf:Nat} {lb:Array Value} {O:Nat} {ys:List Nm} (eg:∀args w,(callFunc gf args).run Tryz.prog w= .ok (.enter gf args) w) (hl:ys.length≤1000)
  (hseq:∀(n:Nat) (w1:World),1≤n→Below w.heap.size w w1→SeqStopsK Fence.wide n Tryz.prog gf lb (fun z:Nm=> #[Value.string z]) (Kb w.heap.size O) (fun zs=>zs=ys) (fun pre=>pre <+:ys) ys.length w1):
  Calls Tryz.prog 150 #[.func (.func gf) #[] lb] w fun e w'=>∃v,e= .returned v∧dg w' w.heap.size v ys∧Below w.heap.size w w':=by
 have has:=q_AppSeq eg hl hseq;clear hseq eg;go_enter Tryz.func150,Tryz.ntmps150
 go_wp2_with (go_at_call 205;refine has.mono ?_;rintro e w2 ⟨v,rfl,hrow,hb⟩;have HQ:=Lib.hid (And.intro hrow hb);clear hrow hb)
 go_ret;exact⟨_,rfl,HQ.out.1,HQ.out.2⟩
theorem SeqStopsK.later {α:Type} {F:Fence} {n:Nat} {P:Program} {g:Nat} {lb:Array Value} {encs:α→Array Value} {Kp:World→World→Prop} {S Sp:List α→Prop} {N:Nat} {w w':World}
  (h:SeqStopsK F n P g lb encs Kp S Sp N w) (hb:Below w.heap.size w w'):SeqStopsK F n P g lb encs Kp S Sp N w':=fun l J Jx W hW hJ hJx hY h0=>h l J Jx W (hb.trans (hW.mono hb.size)) hJ hJx hY h0
theorem pH {P:Program} {fn:Func} {p q:Tmp} {tp tq:TypeId} (h:fn.results=#[.cell p tp,.cell q tq]) (tmps:Array Value) (w:World) {a b:Addr} {u v:Value}
  (hp:tmps.getD p undef= .pointer (some a)) (hq:tmps.getD q undef= .pointer (some b)) (hu:(loadVar tp a).run P w= .ok u w) (hv:(loadVar tq b).run P w= .ok v w):(results fn tmps).run P w= .ok (.tuple #[u,v]) w:=by
 have hp:tmps[p]?.getD undef= .pointer (some a):=by simpa using hp
 have hq:tmps[q]?.getD undef= .pointer (some b):=by simpa using hq
 simp only[results,h];simp[Sem.run_bind,Result.andThen,hp,hq,asAddr,hu,hv]
theorem lU {T:TypeId} {d:TypeDesc} {w:World} {a:Addr} {v:Value} (hd:Tryz.prog.underlying T=some d) (ha:(match d with | .struct _ | .array _ _=>true | _=>false)=false) (h:w.cell? a=some v):(loadVar T a).run Tryz.prog w= .ok v w:=by
 have hagg:(isAgg T).run Tryz.prog w= .ok false w:=by
  unfold isAgg;rw[Sem.run_bind,run_underlying hd];cases d<;>simp_all
 simp[loadVar,Sem.run_bind,hagg,h,Result.andThen,go_sem]
abbrev ancB (B:Nat):Array Value:=#[.pointer (some ⟨B+1,0,none⟩),.pointer (some ⟨B,0,none⟩),.pointer (some ⟨B+2,0,none⟩)]
abbrev jC (w:World) (t:Nat) (x:Nm) (a:Int):World:=((w.alloc (.cells #[ptB t] 24)).alloc (.cells #[.string x] 9)).alloc (.cells #[.int .i64 a] 3)
theorem gU (w:World) (t:Nat) (x:Nm) (a:Int):Below w.heap.size w (jC w t x a):=(((Below.refl _ w).alloc (Nat.le_refl _) _).alloc (by simp) _).alloc (by simp;omega) _
theorem jr (w:World) (t:Nat) (x:Nm) (a:Int):(jC w t x a).heap.size=w.heap.size+3:=by simp[jC]
theorem xB (w:World) (t:Nat) (x:Nm) (a:Int):(jC w t x a).cell? ⟨w.heap.size,0,none⟩=some (ptB t)∧(jC w t x a).cell? ⟨w.heap.size+1,0,none⟩=some (.string x)∧(jC w t x a).cell? ⟨w.heap.size+2,0,none⟩=some (.int .i64 a):=by
 have h0:=heap_alloc_new w (.cells #[ptB t] 24);have h1:=heap_alloc_new (w.alloc (.cells #[ptB t] 24)) (.cells #[.string x] 9);have h2:=heap_alloc_new ((w.alloc (.cells #[ptB t] 24)).alloc (.cells #[.string x] 9)) (.cells #[.int .i64 a] 3);simp only[World.size_alloc]at h1 h2;refine⟨?_,?_,?_⟩
 ·rw[aA ((Below.heap_alloc _ _ w.heap.size (by simp;omega)).trans ((Below.heap_alloc _ _ w.heap.size (by simp)).trans h0))];rfl
 ·rw[aA ((Below.heap_alloc _ _ (w.heap.size+1) (by simp)).trans h1)];rfl
 ·rw[aA h2];rfl
theorem td {t m:Nat} {E:List Ch} {x:Nm} {a:Int} {ys:List Nm} {w:World} {O:Nat} (hT:TM w t m E) (hO:O∉fpT t m E) (hX:bC w O) (hA:Anc (trE E) a x ys) (n:Nat) (w1:World) (hn:1≤n) (hb:Below (jC w t x a).heap.size (jC w t x a) w1):
  SeqStopsK Fence.wide n Tryz.prog 221 (ancB w.heap.size) (fun z:Nm=> #[Value.string z]) (Kb (jC w t x a).heap.size O) (fun zs=>zs=ys) (fun pre=>pre <+:ys) ys.length w1:=by
 have hc:=xB w t x a;have hs:=jr w t x a;have hb0:=gU w t x a;have hlt:O<w.heap.size:=hX.1;exact SeqStopsK.later (anc_stops n hn (hT.below hb0) hO (hX.blk (hb0.block O hlt) hb0.size) ⟨by omega,by omega⟩ ⟨by omega,by omega⟩ ⟨by omega,by omega⟩ hc.2.1 hc.1 hc.2.2 hA) hb
noncomputable def pI (l l':List Nm):Option Nm:=l.find? fun z=>decide (z∈l')
theorem xC:∀args w,(callFunc 221 args).run Tryz.prog w= .ok (.enter 221 args) w:=az Tryz.func221 (by kernel_rfl) rfl
set_option maxRecDepth 100000 in
set_option maxHeartbeats 2000000 in
theorem q_common {w:World} {t m:Nat} {E:List Ch} {x y:Nm} {a:Int} {lx ly:List Nm} (hT:TM w t m E) (hx:Anc (trE E) a x lx) (hy:Anc (trE E) a y ly) (h1:lx.length≤1000) (h2:ly.length≤1000):
  Calls Tryz.prog 129 #[ptB t,.string x,.string y,.int .i64 a] w fun e w'=>e= .returned (.tuple #[.string ((pI lx ly).getD ByteArray.empty),.bool (pI lx ly).isSome])∧Below w.heap.size w w':=by
 refine(callsIn_wide (n:=3)).1 ?_;have h3:(1:Nat)≤3:=by decide
 have b8:=Boxed.new w 9 (.string ⟨#[]⟩);have b9:=Boxed.new (w.alloc (.cells #[.string ⟨#[]⟩] 9)) 4 (.bool false);have hb2:Below w.heap.size w ((w.alloc (.cells #[.string ⟨#[]⟩] 9)).alloc (.cells #[.bool false] 4)):=((Below.refl _ w).alloc (Nat.le_refl _) _).alloc (by simp) _;rw[World.size_alloc]at b9;have b8:=b8.alloc (.cells #[.bool false] 4);have hs2:((w.alloc (.cells #[.string ⟨#[]⟩] 9)).alloc (.cells #[.bool false] 4)).heap.size=w.heap.size+2:=by simp
 obtain⟨W2,hW2⟩:∃W2,(w.alloc (.cells #[.string ⟨#[]⟩] 9)).alloc (.cells #[.bool false] 4)=W2:=⟨_,rfl⟩;rw[hW2]at b8 b9 hb2 hs2;have hT2:=hT.below hb2;have hn8:w.heap.size∉fpT t m E:=fun hm=>by have:=hT.lt _ hm;omega
 have hX8:bC W2 w.heap.size:=.mk' (show W2.heap[w.heap.size]? =some (.cells #[.string ⟨#[]⟩] 9 (0,0))from b8) (fun k n hk=>by cases k<;>simp at hk);have han:=xA W2 t y a;have hco:=q_Collect (w:=jC W2 t y a) (O:=w.heap.size) xC h2 (fun n w1 hn hb=>td hT2 hn8 hX8 hy n w1 hn hb);refine callsIn_of_wp_marks Tryz.func129 rfl trivial ?_ rfl;simp only[Tryz.ntmps129,List.size_toArray,List.length_cons,List.length_nil,Nat.reduceAdd,Nat.reduceSub,Array.replicate_succ,Array.replicate_zero,List.push_toArray,List.append_toArray,List.nil_append,List.cons_append];have HS2:=Lib.hid hs2;have HT:=Lib.hid hT;have HX:=Lib.hid hx;have HB2:=Lib.hid hb2;have HBX:=Lib.hid (And.intro b8 b9);have HN8:=Lib.hid hn8;clear hT hb2 hT2 hn8 hX8 hx hy hs2 b8 b9
 gi_wp2_with (first
  | (refine⟨trivial,?_⟩;gi_at_call 171;refine(callsIn_wide.2 han).mono ?_;clear han;rintro e w' ⟨B,rfl,rfl,rfl⟩)
  | (refine⟨trivial,?_⟩;gi_at_call 150;refine(callsIn_wide.2 hco).mono ?_;clear hco;rintro e W3 ⟨v,rfl,hrow,hb⟩;obtain⟨adl,cpl,rfl⟩:=pF hrow;have HR:=Lib.hid hrow;have HB3:=Lib.hid hb;clear hrow hb;have han2:=fun w=>xA w t x a)
  | (refine⟨trivial,?_⟩;gi_at_call 171;refine(callsIn_wide.2 (han2 _)).mono ?_;clear han2;rintro e w' ⟨B,rfl,rfl,rfl⟩))
 clear hW2;obtain⟨W4,hW4⟩:∃W4,W3.alloc (.cells #[.slice adl ly.length cpl] 68)=W4:=⟨_,rfl⟩;have hs4:W4.heap.size=W3.heap.size+1:=by rw[←hW4];exact asz _ _
 have hsA:=jr W2 t y a;have hbA:=gU W2 t y a;have hs2:=HS2.out;have hs3:=HB3.out.size;have hb23:Below W2.heap.size W2 W3:=hbA.trans (HB3.out.mono hbA.size);have hb34:Below W3.heap.size W3 W4:=by rw[←hW4];exact(Below.refl _ _).alloc (Nat.le_refl _) _
 have hb24:Below W2.heap.size W2 W4:=hb23.trans (hb34.mono hb23.size);have hb04:Below w.heap.size w W4:=HB2.out.trans (hb24.mono HB2.out.size);have hT4:=HT.out.below hb04;have h8:W4.heap[w.heap.size]? =some (.cells #[.string ⟨#[]⟩] 9 (0,0)):=(hb24.block _ (by omega)).trans HBX.out.1;have h9:W4.heap[w.heap.size+1]? =some (.cells #[.bool false] 4 (0,0)):=(hb24.block _ (by omega)).trans HBX.out.2;have hX4:bC W4 w.heap.size:=.mk' h8 (fun k n hk=>by cases k<;>simp at hk);have h10:W4.heap[W3.heap.size]? =some (.cells #[.slice adl ly.length cpl] 68 (0,0)):=by rw[←hW4];exact heap_alloc_new W3 _
 have hrow4:dg W4 (jC W2 t y a).heap.size (.slice adl ly.length cpl) ly:=iY HR.out (fun g hg=>hb34.block g (mL HR.out hg).2);have hseq:=td hT4 HN8.out hX4 HX.out 2 _ (by decide) (Below.refl _ _);have hsB:=jr W4 t x a;have hbB:=gU W4 t x a;rw[hs4]at hseq hsB;obtain⟨WA,hWA⟩:∃WA,jC W4 t x a=WA:=⟨_,rfl⟩;rw[hWA]at hseq hsB hbB;rw[hW4]
 change Code.wpIn _ _ _ _ _ _ (jC W4 t x a)
 rw[hWA];have g8:Boxed WA w.heap.size 9 (.string ⟨#[]⟩):=(hbB.block _ (by omega)).trans h8;have g9:Boxed WA (w.heap.size+1) 4 (.bool false):=(hbB.block _ (by omega)).trans h9;have g10:Boxed WA W3.heap.size 68 (.slice adl ly.length cpl):=(hbB.block _ (by omega)).trans h10;have growA:dg WA (jC W2 t y a).heap.size (.slice adl ly.length cpl) ly:=iY hrow4 (fun g hg=>hbB.block g (mL hrow4 hg).2);have hb0A:Below w.heap.size w WA:=hb04.trans (hbB.mono hb04.size);have hlA:=hb0A.size;have HROW:=Lib.hid growA;have HB0A:=Lib.hid hb0A;have H8:=Lib.hid g8;have H9:=Lib.hid g9;have H10:=Lib.hid g10;have hl10:W3.heap.size<WA.heap.size:=by omega
 have hl8:w.heap.size+1<W3.heap.size:=by omega
 clear hWA hW4 hs4 hsA hbA hs2 hs3 hb23 hb34 hb24 hb04 hT4 h8 h9 hX4 h10 hrow4 hbB g8 g9 g10 growA hb0A HR HB3 HS2 HT HB2 HBX HN8;refine wpIn_rangeFunc_ownG (F:=Fence.wide) (n:=3) rfl h3 (gf:=221) (lb:=ancB (W3.heap.size+1)) rfl trivial xC
  hseq (fun {_ _ _} h k=>h.trans k) (kb_b (by omega)) (Below.refl _ _) (fun _=>rfl)
  (fun pre W=>(∀z∈pre,z∉ly)∧Below WA.heap.size WA W)
  (fun c pre W=>(c= .ret∧∃pre0 z,pre=pre0++ [z]∧(∀u∈pre0,u∉ly)∧z∈ly∧Boxed W w.heap.size 9 (.string z)∧Boxed W (w.heap.size+1) 4 (.bool true))∧Below w.heap.size w W∧WA.heap.size≤W.heap.size)
  (OwnFrom.and (ownFrom_pure _ _) (ownFrom_below (Nat.le_refl _) (Nat.le_refl _)))
  (fun c s W W' row hs hg hr=>⟨⟨hs.1.1,by
   obtain⟨pre0,z,k1,k2,k3,k4,k5⟩:=hs.1.2;exact⟨pre0,z,k1,k2,k3,k4.kept hg (fun e=>by have:=(hr _ e.symm).1;omega),k5.kept hg (fun e=>by have:=(hr _ e.symm).1;omega)⟩⟩,hs.2.1.grown hg (by have:=hs.2.2;omega) (fun k e=>by have:=(hr _ e).1;omega),Nat.le_trans hs.2.2 hg.size⟩)
  ⟨fun _ h=>(by cases h),Below.refl _ _⟩
  (fun z=> {tmps:=#[ptB t,.string x,.string y,.int .i64 a,undef,undef,undef,undef,.pointer (some ⟨w.heap.size,0,none⟩),.pointer (some ⟨w.heap.size+1,0,none⟩),.pointer (some ⟨W3.heap.size,0,none⟩),.string z,ptB t,.string y,.int .i64 a,.func (.func 221) #[] (ancB W2.heap.size),.slice adl ly.length cpl,ptB t,.string x,.int .i64 a,.func (.func 221) #[] (ancB (W3.heap.size+1)),.string z,undef,undef,undef,undef],defers:=[]}) ?assign ?body ?done ?stop
 case assign=>
  intro l z W K hK
  gi_wp2
  exact hK
 case body=>
  rintro l pre z W ⟨hpre,hB⟩ hlt;have hrW:dg W (jC W2 t y a).heap.size (.slice adl ly.length cpl) ly:=iY HROW.out (fun g hg=>hB.block g (mL HROW.out hg).2);have b8:Boxed W w.heap.size 9 (.string ⟨#[]⟩):=(hB.block _ (by omega)).trans H8.out;have b9:Boxed W (w.heap.size+1) 4 (.bool false):=(hB.block _ (by omega)).trans H9.out;have b10:Boxed W W3.heap.size 68 (.slice adl ly.length cpl):=(hB.block _ (by omega)).trans H10.out;have hct:=pG hrW (by omega) z;have c8:=b8.cell;have f8:=b8.frozen;have c9:=b9.cell;have f9:=b9.frozen;have c10:=b10.cell;have B8:=Lib.hid b8;have B9:=Lib.hid b9;have HB:=Lib.hid hB;have HP:=Lib.hid hpre;clear hrW b10 b8 b9 hB hpre hlt;by_cases hz:z∈ly
  ·rw[decide_eq_true hz]at hct;have HZ:=Lib.hid hz;clear hz
   gi_wp2_with (refine⟨trivial,?_⟩;gi_at_call 172;refine(CallsIn.inRound l (callsIn_wide.2 hct)).mono ?_;rintro e w' ⟨rfl,hw'⟩;obtain rfl:=hw'.symm)
   exact⟨((KeepsOthers.setCell _ _ _).trans (KeepsOthers.setCell _ _ _)).from _,⟨⟨rfl,pre,z,rfl,HP.out,HZ.out,(B8.out.set (.string z)).other (by omega) _,(B9.out.other (by omega) _).set _⟩,(((HB0A.out.trans (HB.out.mono hlA)).setCell (p:=⟨w.heap.size,0,none⟩) (Nat.le_refl _) _).setCell (p:=⟨w.heap.size+1,0,none⟩) (by simp) _),by simpa using HB.out.size⟩⟩
  ·rw[decide_eq_false hz]at hct;have HZ:=Lib.hid hz;clear hz
   gi_wp2_with (refine⟨trivial,?_⟩;gi_at_call 172;refine(CallsIn.inRound l (callsIn_wide.2 hct)).mono ?_;rintro e w' ⟨rfl,hw'⟩;obtain rfl:=hw'.symm)
   refine⟨KeepsFrom.refl _ _,Kb.refl _ _ _,⟨fun u hu=> ?_,HB.out⟩⟩;rcases List.mem_append.1 hu with h | h
   ·exact HP.out u h
   ·simp only[List.mem_singleton]at h;subst h;exact HZ.out
 case done=>
  rintro D zs W hD rfl ⟨hpre,hB⟩ hK;have b8:Boxed W w.heap.size 9 (.string ⟨#[]⟩):=(hB.block _ (by omega)).trans H8.out;have b9:Boxed W (w.heap.size+1) 4 (.bool false):=(hB.block _ (by omega)).trans H9.out;have c8:=b8.cell;have f8:=b8.frozen;have c9:=b9.cell;have f9:=b9.frozen;have hsame:=((KeepsOthers.setCell W ⟨w.heap.size,0,none⟩ (.string ⟨#[]⟩)).trans (KeepsOthers.setCell _ ⟨w.heap.size+1,0,none⟩ (.bool false))).same D _ hK rfl;have B8:=Lib.hid ((b8.set (.string ⟨#[]⟩)).other (by omega:w.heap.size≠w.heap.size+1) (.bool false));have B9:=Lib.hid ((b9.other (by omega:w.heap.size+1≠w.heap.size) (.string ⟨#[]⟩)).set (.bool false));have HBB:=Lib.hid (((HB0A.out.trans (hB.mono hlA)).setCell (p:=⟨w.heap.size,0,none⟩) (Nat.le_refl _) (.string ⟨#[]⟩)).setCell (p:=⟨w.heap.size+1,0,none⟩) (by simp) (.bool false));have HSM:=Lib.hid hsame;have hcm:pI zs ly=none:=List.find?_eq_none.2 (fun u hu=>by simpa using hpre u hu);have HCM:=Lib.hid hcm;have hDs:WA.heap.size≤((W.setCell ⟨w.heap.size,0,none⟩ (.string ⟨#[]⟩)).setCell ⟨w.heap.size+1,0,none⟩ (.bool false)).heap.size:=by simpa using hB.size
  clear b8 b9 hsame hcm hB hpre
  gi_wp2
  generalize (W.setCell ⟨w.heap.size,0,none⟩ (.string ⟨#[]⟩)).setCell ⟨w.heap.size+1,0,none⟩ (.bool false)=WZ at *;refine⟨by simp,.inl ⟨_,_,rfl,run_takeDeferred HSM.out,?_⟩⟩;have hg:=grownBy_putObj' WZ D (.deferred none);have B8':=B8.out.kept hg (fun e=>by injection e with e;omega);have B9':=B9.out.kept hg (fun e=>by injection e with e;omega);refine⟨_,pH rfl _ _ rfl rfl (lU Tryz.underlying9 rfl B8'.cell) (lU Tryz.underlying4 rfl B9'.cell),by rw[HCM.out];rfl,HBB.out.trans (belowK_b (w:=w) (Nat.le_refl _) WZ D _ _ (by omega) HSM.out rfl rfl)⟩
 case stop=>
  rintro D c pre W hD hpre ⟨⟨rfl,pre0,z,hp0,hno,hz,b8,b9⟩,hB,hsz⟩ hK;have c8:=b8.cell;have c9:=b9.cell;have HCM:=Lib.hid (show pI lx ly=some z from by
   obtain⟨tl,rfl⟩:=hpre;unfold pI;rw[hp0,List.find?_append,List.find?_append,List.find?_eq_none.2 (fun u hu=>by simpa using hno u hu)];simp[hz])
  have B8:=Lib.hid b8;have B9:=Lib.hid b9;have HBB:=Lib.hid hB;clear hp0 hno hz b8 b9 hB hpre
  gi_wp2
  refine⟨by simp,.inl ⟨_,_,rfl,run_takeDeferred hK,?_⟩⟩;have hg:=grownBy_putObj' W D (.deferred none);have B8':=B8.out.kept hg (fun e=>by injection e with e;omega);have B9':=B9.out.kept hg (fun e=>by injection e with e;omega);refine⟨_,pH rfl _ _ rfl rfl (lU Tryz.underlying9 rfl B8'.cell) (lU Tryz.underlying4 rfl B9'.cell),by rw[HCM.out];rfl,HBB.out.trans (belowK_b (w:=w) (Nat.le_refl _) W D _ _ (by omega) hK rfl rfl)⟩
end
end Go.Proofs.YtggfmklppkioeaaGreat
