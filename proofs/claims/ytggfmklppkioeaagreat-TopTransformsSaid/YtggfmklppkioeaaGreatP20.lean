/- The executor's state in the middle of a walk: any number of variables. What LookupConsistent asks of a tree, by the executor. Which poses are tiny, as they come in. What arguments of the type []roboticstop.Turn are. The pose of a turn. A turn in a variable of its own. The example that the laws Top.. try: the walk to its questions. What vector.Format does. What the laws Top.. call, as instances of the executor. What TopTransforms asks of a tree, by the executor. The tree behind a script of turns. What arguments of the types [3]int and roboticstop.Points are. TopTransforms: the walk. -/
import Derived.Test.YtggfmklppkioeaaGreatP19
namespace Go.Proofs.YtggfmklppkioeaaGreat
set_option linter.unusedSimpArgs false
set_option linter.unusedVariables false
set_option maxRecDepth 100000
open Go.RowKit
section
variable {ρ:Rho} {nt:Nat} {w:World}
def blkL (bs:List Nat):Blk:=⟨fun x=>bs[x]?,fun _ _=>False⟩
theorem blkL_has {bs:List Nat} {g:Nat} (h:(blkL bs).has g):g∈bs:=by
 rcases h with⟨x,h⟩ | ⟨k,h⟩
 ·exact List.mem_of_getElem? h
 ·exact h.elim
theorem vv {we:World} {V:List (TypeId×Nat×List Value×List Leaf)} {known:List (Option AV)} {ts:List Value} (hb:Below we.heap.size we w) (hnd:(V.map (·.2.1)).Nodup)
  (hv:∀x∈V,we.heap.size≤x.2.1∧w.heap[x.2.1]? =some (.cells x.2.2.1.toArray x.1 (0,0))∧(∀u∈x.2.2.1,noU u)∧aB ρ (blkL (V.map (·.2.1))) w x.2.2.2 x.2.2.1)
  (hk:ja ρ (blkL (V.map (·.2.1))) w known ts) (hn:ts.length=nt):MSt ρ (Ent.of we) nt ⟨known++List.replicate (nt - known.length) none,V.map fun x=>(x.1,x.2.2.2.map some)⟩ ⟨ts.toArray,[]⟩ w:=by
 have hat:∀ {v g:Nat},(V.map (·.2.1))[v]? =some g→∃x,V[v]? =some x∧x.2.1=g:=fun {v g} h=>by
  rw[List.getElem?_map]at h
  cases hx:V[v]? with
  | none=>rw[hx]at h;cases h
  | some x=>rw[hx]at h;injection h with h;exact⟨x,rfl,h⟩
 refine⟨blkL (V.map (·.2.1)),⟨fun v g hv'=> ?_,fun k g h=>h.elim,⟨fun x y g hx hy=> ?_,fun k l g h=>h.elim,fun x k g hx h=>h⟩,⟨hb.os,hb.tape,hb.output,hb.size,fun k hk _=>hb.block k hk⟩,by simpa using hn,rfl,fun x g h=>by simp[Ent.of]at h⟩,fun x c hx=> ?_,fun v hv'=> ?_⟩
 ·obtain⟨⟨T,b,cs,l⟩,h1,rfl⟩:=hat hv';obtain⟨h2,h3,h4,h5⟩:=hv _ (List.mem_of_getElem? h1);have q0:=h5.len;refine⟨.inl h2,cs.toArray,T,by simp[cO,h1,q0],h3,fun k n hk=> ?_⟩;exact h4 _ (List.mem_of_getElem? (show cs[k]? =some (.int .u32 n)by simpa using hk)) n rfl
 ·obtain⟨h1,e1⟩:=List.getElem?_eq_some_iff.1 hx;obtain⟨h2,e2⟩:=List.getElem?_eq_some_iff.1 hy;exact(List.getElem_inj hnd).1 (e1.trans e2.symm)
 ·unfold bh at hx;split at hx
  ·rename_i hlt;unfold bA;rw[if_pos hlt];simp only at hx;have hx2:(known++List.replicate (nt - known.length) none)[x]? =some (some c):=by
    cases hq:(known++List.replicate (nt - known.length) none)[x]? with
    | none=>rw[hq]at hx;cases hx
    | some o=>rw[hq]at hx;simp only at hx;rw[hx]
   have hx3:known[x]? =some (some c):=by
    by_cases hl:x<known.length
    ·rwa [List.getElem?_append_left hl]at hx2
    ·rw[List.getElem?_append_right (by omega),List.getElem?_replicate]at hx2;split at hx2
     ·injection hx2 with hx2;cases hx2
     ·cases hx2
   obtain⟨u,h3,h4⟩:=hk.get hx3;exact⟨u,by simpa using h3,h4⟩
  ·rename_i hlt;unfold bA;rw[if_neg hlt];simp only[List.getElem?_map]at hx
   cases h1:V[x / 100000 - 1]? with
   | none=>rw[h1]at hx;simp at hx
   | some y=>
    obtain⟨T,b,cs,ls⟩:=y;rw[h1]at hx;simp only[Option.map_some,List.getElem?_map]at hx
    cases hl:ls[x % 100000]? with
    | none=>rw[hl]at hx;cases hx
    | some l=>
     rw[hl]at hx;simp only[Option.map_some,Option.some.injEq]at hx;subst hx;obtain⟨h2,h3,_,h5⟩:=hv _ (List.mem_of_getElem? h1);obtain⟨u,h6,h7⟩:=h5.at hl;exact⟨b,cs.toArray,T,u,by show(V.map (·.2.1))[_]? =_;rw[List.getElem?_map,h1];rfl,h3,by simpa using h6,h7⟩
 ·show v<(V.map _).length;rw[List.length_map]
  cases h:V[v]? with
  | none=>
   refine absurd ?_ hv';show(V.map (·.2.1))[v]? =none;rw[List.getElem?_map,h];rfl
  | some x=>exact(List.getElem?_eq_some_iff.1 h).1
end
def headR:Code→Option Nat
 | .seq c _=>headR c
 | .region i _ _=>some i
 | _=>none
def restC (n:Nat):Code→Option Code
 | .seq c d=>if headR (.seq c d)=some n then some (.seq c d)else match restC n c with
  | some c'=>some c'
  | none=>restC n d
 | .region i o b=>if i=n then some (.region i o b)else none
 | _=>none
def gn (n:Nat) (p:Program) (f:FuncId):Option Code:=(p.funcs[f]?).bind fun fn=>fn.body.bind (restC n)
theorem vw {ρ:Rho} {e:Int}:∀B w,(Leaf.i .i64 e).holds ρ B w (.int .i64 e):=fun _ _=>rfl
def oneL (r:Rq):Prop:=r.L≤1∧r.N≤1
set_option maxHeartbeats 2000000 in
theorem q_tiny {w:World} {v:Value} {r0 r1 r2 r3 r4 r5 r6:Rq} (h:IsL w v [r0,r1,r2,r3,r4,r5,r6]):
  Calls Tryz.prog 66 #[v] w fun e w'=>(∃b,e= .returned (.bool b)∧(b=true→pN r0 r1 r2 r3 r4 r5 r6=true∧∀r∈ [r0,r1,r2,r3,r4,r5,r6],oneL r))∧Below w.heap.size w w':=by
 have HV:=Lib.hid h;obtain⟨cs,rfl,a0,c0,b0,d0,cs0,rfl, -, -,a1,c1,b1,d1,cs1,rfl, -, -,a2,c2,b2,d2,cs2,rfl, -, -,a3,c3,b3,d3,cs3,rfl, -, -,a4,c4,b4,d4,cs4,rfl, -, -,a5,c5,b5,d5,cs5,rfl, -, -,a6,c6,b6,d6,cs6,rfl, -, -,rfl⟩:=h;obtain⟨w1,hw1⟩:∃w1,w.alloc (.cells #[.bool r0.s,.slice a0 r0.L c0,.slice b0 r0.N d0,.bool r1.s,.slice a1 r1.L c1,.slice b1 r1.N d1,.bool r2.s,.slice a2 r2.L c2,.slice b2 r2.N d2,.bool r3.s,.slice a3 r3.L c3,.slice b3 r3.N d3,.bool r4.s,.slice a4 r4.L c4,.slice b4 r4.N d4,.bool r5.s,.slice a5 r5.L c5,.slice b5 r5.N d5,.bool r6.s,.slice a6 r6.L c6,.slice b6 r6.N d6] 39)=w1:=⟨_,rfl⟩;obtain⟨w2,hw2⟩:∃w2,w1.alloc (.cells #[.bool r0.s,.slice a0 r0.L c0,.slice b0 r0.N d0,.bool r1.s,.slice a1 r1.L c1,.slice b1 r1.N d1,.bool r2.s,.slice a2 r2.L c2,.slice b2 r2.N d2,.bool r3.s,.slice a3 r3.L c3,.slice b3 r3.N d3,.bool r4.s,.slice a4 r4.L c4,.slice b4 r4.N d4,.bool r5.s,.slice a5 r5.L c5,.slice b5 r5.N d5,.bool r6.s,.slice a6 r6.L c6,.slice b6 r6.N d6] 33)=w2:=⟨_,rfl⟩;have hb1:Below w.heap.size w w1:=by rw[←hw1];exact(Below.refl _ _).alloc (Nat.le_refl _) _
 have hb2:Below w1.heap.size w1 w2:=by rw[←hw2];exact(Below.refl _ _).alloc (Nat.le_refl _) _
 have hc1:w1.heap[w.heap.size]? =some (.cells #[.bool r0.s,.slice a0 r0.L c0,.slice b0 r0.N d0,.bool r1.s,.slice a1 r1.L c1,.slice b1 r1.N d1,.bool r2.s,.slice a2 r2.L c2,.slice b2 r2.N d2,.bool r3.s,.slice a3 r3.L c3,.slice b3 r3.N d3,.bool r4.s,.slice a4 r4.L c4,.slice b4 r4.N d4,.bool r5.s,.slice a5 r5.L c5,.slice b5 r5.N d5,.bool r6.s,.slice a6 r6.L c6,.slice b6 r6.N d6] 39 (0,0)):=by rw[←hw1];exact heap_alloc_new w _
 have hc2:w2.heap[w1.heap.size]? =some (.cells #[.bool r0.s,.slice a0 r0.L c0,.slice b0 r0.N d0,.bool r1.s,.slice a1 r1.L c1,.slice b1 r1.N d1,.bool r2.s,.slice a2 r2.L c2,.slice b2 r2.N d2,.bool r3.s,.slice a3 r3.L c3,.slice b3 r3.N d3,.bool r4.s,.slice a4 r4.L c4,.slice b4 r4.N d4,.bool r5.s,.slice a5 r5.L c5,.slice b5 r5.N d5,.bool r6.s,.slice a6 r6.L c6,.slice b6 r6.N d6] 33 (0,0)):=by rw[←hw2];exact heap_alloc_new w1 _
 have hs1:w1.heap.size=w.heap.size+1:=by rw[←hw1];exact asz _ _
 obtain⟨B1,hB1⟩:∃B,w.heap.size=B:=⟨_,rfl⟩;obtain⟨B2,hB2⟩:∃B,w1.heap.size=B:=⟨_,rfl⟩;have HC:=Lib.hid (show∀k,k<7→∃r a c b d,[r0,r1,r2,r3,r4,r5,r6][k]? =some r∧w2.cell? ⟨B2,k*3+1,none⟩=some (.slice a r.L c)∧w2.cell? ⟨B2,k*3+2,none⟩=some (.slice b r.N d)from fun k hk=>by
  rw[←hB2]
  match k,hk with
  | 0,_=>exact⟨r0,a0,c0,b0,d0,rfl,by rw[aA hc2];rfl,by rw[aA hc2];rfl⟩
  | 1,_=>exact⟨r1,a1,c1,b1,d1,rfl,by rw[aA hc2];rfl,by rw[aA hc2];rfl⟩
  | 2,_=>exact⟨r2,a2,c2,b2,d2,rfl,by rw[aA hc2];rfl,by rw[aA hc2];rfl⟩
  | 3,_=>exact⟨r3,a3,c3,b3,d3,rfl,by rw[aA hc2];rfl,by rw[aA hc2];rfl⟩
  | 4,_=>exact⟨r4,a4,c4,b4,d4,rfl,by rw[aA hc2];rfl,by rw[aA hc2];rfl⟩
  | 5,_=>exact⟨r5,a5,c5,b5,d5,rfl,by rw[aA hc2];rfl,by rw[aA hc2];rfl⟩
  | 6,_=>exact⟨r6,a6,c6,b6,d6,rfl,by rw[aA hc2];rfl,by rw[aA hc2];rfl⟩
  | k+7,hk=>omega)
 have HRG:=Lib.hid (show w2.rangeAt w.heap.size 0 [.bool r0.s,.slice a0 r0.L c0,.slice b0 r0.N d0,.bool r1.s,.slice a1 r1.L c1,.slice b1 r1.N d1,.bool r2.s,.slice a2 r2.L c2,.slice b2 r2.N d2,.bool r3.s,.slice a3 r3.L c3,.slice b3 r3.N d3,.bool r4.s,.slice a4 r4.L c4,.slice b4 r4.N d4,.bool r5.s,.slice a5 r5.L c5,.slice b5 r5.N d5,.bool r6.s,.slice a6 r6.L c6,.slice b6 r6.N d6]from gl (fun j u hj=>by rw[aA hc1];simpa using hj) hb2 (by omega));have HB:=Lib.hid (hb1.trans (hb2.mono hb1.size));rw[hB1]at hc1;have f0:w1.cell? ⟨B1,0,none⟩=some (.bool r0.s):=by rw[aA hc1];rfl
 have f1:w1.cell? ⟨B1,1,none⟩=some (.slice a0 r0.L c0):=by rw[aA hc1];rfl
 have f2:w1.cell? ⟨B1,2,none⟩=some (.slice b0 r0.N d0):=by rw[aA hc1];rfl
 have f3:w1.cell? ⟨B1,3,none⟩=some (.bool r1.s):=by rw[aA hc1];rfl
 have f4:w1.cell? ⟨B1,4,none⟩=some (.slice a1 r1.L c1):=by rw[aA hc1];rfl
 have f5:w1.cell? ⟨B1,5,none⟩=some (.slice b1 r1.N d1):=by rw[aA hc1];rfl
 have f6:w1.cell? ⟨B1,6,none⟩=some (.bool r2.s):=by rw[aA hc1];rfl
 have f7:w1.cell? ⟨B1,7,none⟩=some (.slice a2 r2.L c2):=by rw[aA hc1];rfl
 have f8:w1.cell? ⟨B1,8,none⟩=some (.slice b2 r2.N d2):=by rw[aA hc1];rfl
 have f9:w1.cell? ⟨B1,9,none⟩=some (.bool r3.s):=by rw[aA hc1];rfl
 have f10:w1.cell? ⟨B1,10,none⟩=some (.slice a3 r3.L c3):=by rw[aA hc1];rfl
 have f11:w1.cell? ⟨B1,11,none⟩=some (.slice b3 r3.N d3):=by rw[aA hc1];rfl
 have f12:w1.cell? ⟨B1,12,none⟩=some (.bool r4.s):=by rw[aA hc1];rfl
 have f13:w1.cell? ⟨B1,13,none⟩=some (.slice a4 r4.L c4):=by rw[aA hc1];rfl
 have f14:w1.cell? ⟨B1,14,none⟩=some (.slice b4 r4.N d4):=by rw[aA hc1];rfl
 have f15:w1.cell? ⟨B1,15,none⟩=some (.bool r5.s):=by rw[aA hc1];rfl
 have f16:w1.cell? ⟨B1,16,none⟩=some (.slice a5 r5.L c5):=by rw[aA hc1];rfl
 have f17:w1.cell? ⟨B1,17,none⟩=some (.slice b5 r5.N d5):=by rw[aA hc1];rfl
 have f18:w1.cell? ⟨B1,18,none⟩=some (.bool r6.s):=by rw[aA hc1];rfl
 have f19:w1.cell? ⟨B1,19,none⟩=some (.slice a6 r6.L c6):=by rw[aA hc1];rfl
 have f20:w1.cell? ⟨B1,20,none⟩=some (.slice b6 r6.N d6):=by rw[aA hc1];rfl
 clear hc1 hc2 hb1 hb2 hs1;go_enter Tryz.func66,Tryz.ntmps66
 go_upto_region 2 with(fail)
 clear f0 f1 f2 f3 f4 f5 f6 f7 f8 f9 f10 f11 f12 f13 f14 f15 f16 f17 f18 f19 f20;go_wp2;go_loopw [4] (fun s4 wr=>∃k:Nat,k≤7∧s4= .int .i64 (k:Int)∧wr=w2∧Hid (∀(i:Nat) (r:Rq),i<k→[r0,r1,r2,r3,r4,r5,r6][i]? =some r→oneL r)) (fun s4 _=>7 - (intOf s4).toNat)
 case atStart=>exact⟨0,Nat.zero_le _,rfl,rfl,Lib.hid (fun i r hi=>absurd hi (Nat.not_lt_zero _))⟩
 case round=>
  obtain⟨k,hk,rfl,hwr,HO⟩:=hrel;obtain rfl:=hwr;rcases Nat.lt_or_ge k 7 with hlt | hge
  ·obtain⟨r,a,c,b,d,hr,e1,e2⟩:=HC.out k hlt;have HR:=Lib.hid hr;have hk7:(k:Int)<7:=by omega
   clear hr;by_cases g1:1<r.L
   ·have q1:decide ((1:Int)<(r.L:Int))=true:=decide_eq_true (by omega);go_wp2;go_ret;exact⟨⟨_,rfl,fun h=>by cases h⟩,HB.out⟩
   ·have q1:decide ((1:Int)<(r.L:Int))=false:=decide_eq_false (by omega);by_cases g2:1<r.N
    ·have q2:decide ((1:Int)<(r.N:Int))=true:=decide_eq_true (by omega);go_wp2;go_ret;exact⟨⟨_,rfl,fun h=>by cases h⟩,HB.out⟩
    ·have q2:decide ((1:Int)<(r.N:Int))=false:=decide_eq_false (by omega);go_wp2;go_roundw
     case rel=>exact⟨k+1,by omega,by go_num,by trivial,Lib.hid (fun i x hi hx=>by
      rcases Nat.lt_or_ge i k with h | h
      ·exact HO.out i x h hx
      ·obtain rfl:i=k:=by omega
       rw[HR.out]at hx;injection hx with hx;subst hx;exact⟨by omega,by omega⟩)⟩
     case measure=>simp[intOf];omega
  ·obtain rfl:k=7:=by omega
   have HL':∀r∈ [r0,r1,r2,r3,r4,r5,r6],r.L≤1000000∧r.N≤1000000:=fun r hr=>by
    obtain⟨i,hi⟩:=List.getElem?_of_mem hr;have h1:=HO.out i r (by have:=(List.getElem?_eq_some_iff.1 hi).1;simpa using this) hi;exact⟨Nat.le_trans h1.1 (by decide),Nat.le_trans h1.2 (by decide)⟩
   have hval:=(kO _ r0 r1 r2 r3 r4 r5 r6 wr (HV.out.mono HB.out) (HL' r0 (by simp)).1 (HL' r0 (by simp)).2 (HL' r1 (by simp)).1 (HL' r1 (by simp)).2 (HL' r2 (by simp)).1 (HL' r2 (by simp)).2 (HL' r3 (by simp)).1 (HL' r3 (by simp)).2 (HL' r4 (by simp)).1 (HL' r4 (by simp)).2 (HL' r5 (by simp)).1 (HL' r5 (by simp)).2 (HL' r6 (by simp)).1 (HL' r6 (by simp)).2);have hrg:=HRG.out;rw[hB1]at hrg;have HRG2:=Lib.hid hrg;clear HL' hrg;go_upto_region 7 with(fail)
   refine wp_region_list ?_;refine wpList_load_mid rfl _ _ rfl B1 0 rfl [.bool r0.s,.slice a0 r0.L c0,.slice b0 r0.N d0,.bool r1.s,.slice a1 r1.L c1,.slice b1 r1.N d1,.bool r2.s,.slice a2 r2.L c2,.slice b2 r2.N d2,.bool r3.s,.slice a3 r3.L c3,.slice b3 r3.N d3,.bool r4.s,.slice a4 r4.L c4,.slice b4 r4.N d4,.bool r5.s,.slice a5 r5.L c5,.slice b5 r5.N d5,.bool r6.s,.slice a6 r6.L c6,.slice b6 r6.N d6] _ HRG2.out Tryz.underlying39 rfl (by kernel_rfl) ?_;go_wp2_with (go_at_call 122;refine hval.mono ?_;rintro e w3 ⟨rfl,hb3⟩;have HB3:=Lib.hid hb3;clear hb3)
   go_ret;exact⟨⟨_,rfl,fun h=>⟨h,fun r hr=>by
    obtain⟨i,hi⟩:=List.getElem?_of_mem hr;exact HO.out i r (by have:=(List.getElem?_eq_some_iff.1 hi).1;simpa using this) hi⟩⟩,HB.out.trans (HB3.out.mono HB.out.size)⟩
section
open Go.ChangeShapes Go.WideShapes Go.ChangeAt Go.RowKit
structure Turn where
 k:Int
 a:Int
 b:Int
 t:Int
 r0:Rq
 r1:Rq
 r2:Rq
 r3:Rq
 r4:Rq
 r5:Rq
 r6:Rq
def Turn.rs (x:Turn):List Rq:=[x.r0,x.r1,x.r2,x.r3,x.r4,x.r5,x.r6]
abbrev I64 (n:Int):Prop:= -9223372036854775808≤n∧n<9223372036854775808
structure Turn.Ok (x:Turn):Prop where
 k:I64 x.k
 a:I64 x.a
 b:I64 x.b
 t:I64 x.t
def Turn.Cs (w:World) (x:Turn) (l:List Value):Prop:=∃cs,l= .int .i64 x.k::.int .i64 x.a::.int .i64 x.b::.int .i64 x.t::cs∧aM w x.rs cs
def jx (w:World) (v:Value) (R:List Turn):Prop:=(R=[]∧∃a c,v= .slice a 0 c)∨∃b o c,v= .slice (some ⟨b,o,none⟩) R.length c∧R≠ []∧b<w.heap.size∧∀i x,R[i]? =some x→∃l,x.Cs w l∧∀j u,l[j]? =some u→w.cell? ⟨b,o+(i*25+j),none⟩=some u
theorem jx.below {w w':World} {v:Value} {R:List Turn} (h:jx w v R) (k:Below w.heap.size w w'):jx w' v R:=
 h.imp id (fun⟨b,o,c,e,hn,hb,hq⟩=>⟨b,o,c,e,hn,Nat.lt_of_lt_of_le hb k.size,fun i x hi=>by
  obtain⟨l,⟨cs,e1,h1⟩,h2⟩:=hq i x hi;exact⟨l,⟨cs,e1,h1.mono k⟩,fun j u hu=>by rw[k.cell (p:=⟨b,_,none⟩) hb];exact h2 j u hu⟩⟩)
section
variable {H:Type} {enc:TypeId×Value→H} {W:World}
theorem open_turn {fuel:Nat} {l:List Value} {x:DataW H×List MemPlace} (hl:l.length=25) (hf:DataW.trod enc Tryz.prog W 0 (fun _=>true) true fuel 114 l=some x):∃s:Turn,s.Ok∧s.Cs W l:=by
 have hci:Tryz.prog.cellsOf 3=1:=by kernel_rfl
 have hcp:Tryz.prog.cellsOf 39=21:=by kernel_rfl
 obtain⟨xs,n,_,hx,_,hlen,hg⟩:=DataW.trod_struct Tryz.underlying114 hf
 match xs,hlen with
 | [y0,y1,y2,y3,y4],_=>
  have h0:=hg 0 _ rfl;have h1:=hg 1 _ rfl;have h2:=hg 2 _ rfl;have h3:=hg 3 _ rfl;have h4:=hg 4 _ rfl;simp[Value.cells,hci,hcp]at h0 h1 h2 h3 h4
  match l,hl with
  | u0::u1::u2::u3::l,hl=>
   simp at h0 h1 h2 h3 h4 hl;obtain⟨t0,e0,f0⟩:=DataW.trod_int Tryz.underlying3 h0;obtain⟨t1,e1,f1⟩:=DataW.trod_int Tryz.underlying3 h1;obtain⟨t2,e2,f2⟩:=DataW.trod_int Tryz.underlying3 h2;obtain⟨t3,e3,f3⟩:=DataW.trod_int Tryz.underlying3 h3;simp at e0 e1 e2 e3;subst e0 e1 e2 e3;rw[List.take_of_length_le (by omega)]at h4;obtain⟨r0,r1,r2,r3,r4,r5,r6,k⟩:=xw hl h4;exact⟨⟨t0,t1,t2,t3,r0,r1,r2,r3,r4,r5,r6⟩,⟨kV f0.2,kV f1.2,kV f2.2,kV f3.2⟩,l,rfl,k⟩
theorem xF {v:Value} {d:DataW H} {p:List MemPlace} {base:Nat} (hval:Value.okWide Tryz.prog W .any base 22 v) (h:DataW.Trod enc Tryz.prog W 0 (fun _=>true) true 22 v d p):
  ∃R:List Turn,(∀s∈R,s.Ok)∧jx W v R:=by
 obtain⟨a0,len0,cap0,rfl⟩:=okWide_slice Tryz.underlying22 hval;obtain⟨fuel,hf⟩:=h;have hc25:Tryz.prog.cellsOf 114=25:=by kernel_rfl
 rcases Go.Deep.open_slice Tryz.underlying22 hf with⟨hcs,_⟩ | ⟨a,len,cap,m,n,D,Pl,hcs,_,hlc,_,hm,_,hx⟩
 ·simp[Value.cells]at hcs;obtain⟨rfl,rfl,rfl⟩:=hcs;exact⟨[],fun _ h=>(by cases h),.inl ⟨rfl,_,_,rfl⟩⟩
 ·simp[Value.cells]at hcs;obtain⟨rfl,rfl,rfl⟩:=hcs;have hlm:len0≤m:=by rw[hm];split<;>omega
  by_cases h0:len0=0
  ·subst h0;exact⟨[],fun _ h=>(by cases h),.inl ⟨rfl,_,_,rfl⟩⟩
  ·have hcells:∀i,i<len0→∃cs',(∀j,j<25→W.cell? ((a.add (i*25)).add j)=cs'[j]?)∧cs'.length=25∧DataW.trod enc Tryz.prog W 0 (fun _=>true) true n 114 cs'=some (D i,Pl i):=fun i hi=>by
    obtain⟨cs',h1,h2⟩:=hx i (by omega);rw[hc25]at h1;obtain⟨_,hl,hcell⟩:=World.cells?_some h1;exact⟨cs',hcell,hl,h2⟩
   obtain⟨b,o,spot⟩:=a;have hspot:spot=none:=by
    obtain⟨cs',h1,h2,_⟩:=hcells 0 (by omega);have h3:=h1 0 (by omega);rw[List.getElem?_eq_getElem (show 0<cs'.length by omega)]at h3;have h4:=World.cell?_spot h3;simpa [Addr.add]using h4
   subst hspot;simp only[du]at hcells;have hst:∀i,∃s:Turn,i<len0→s.Ok∧∃l,s.Cs W l∧∀j u,l[j]? =some u→W.cell? ⟨b,o+(i*25+j),none⟩=some u:=by
    intro i;by_cases hi:i<len0
    ·obtain⟨cs',hcell,hl,h2⟩:=hcells i hi;obtain⟨s,hs,hcs⟩:=open_turn hl h2;refine⟨s,fun _=>⟨hs,cs',hcs,fun j u hu=> ?_⟩⟩;have hj:j<25:=by have:=(List.getElem?_eq_some_iff.1 hu).1;omega
     rw[←Nat.add_assoc,hcell j hj];exact hu
    ·exact⟨⟨0,0,0,0,Fq.zero.raw,Fq.zero.raw,Fq.zero.raw,Fq.zero.raw,Fq.zero.raw,Fq.zero.raw,Fq.zero.raw⟩,fun h=>absurd h hi⟩
   obtain⟨f,hf'⟩:=Classical.axiomOfChoice hst;have hlen:((List.range len0).map f).length=len0:=by simp
   have hget:∀i s,((List.range len0).map f)[i]? =some s→i<len0∧s=f i:=fun i s hi=>by
    have hi2:i<len0:=by have:=(List.getElem?_eq_some_iff.1 hi).1;rw[hlen]at this;exact this
    rw[List.getElem?_map,List.getElem?_range hi2]at hi;exact⟨hi2,by simpa using hi.symm⟩
   refine⟨(List.range len0).map f,fun s hs=> ?_,.inr ⟨b,o,cap0,by rw[hlen],fun e=> ?_,?_,fun i s hi=> ?_⟩⟩
   ·obtain⟨i,hi,e⟩:=List.getElem_of_mem hs;obtain⟨h1,h2⟩:=hget i s (by rw[List.getElem?_eq_getElem hi,e]);subst h2;exact(hf' i h1).1
   ·rw[e]at hlen;exact h0 hlen.symm
   ·obtain⟨cs',h1,h2,_⟩:=hcells 0 (by omega);have h3:=h1 0 (by omega);rw[List.getElem?_eq_getElem (show 0<cs'.length by omega)]at h3;unfold World.cell? at h3;split at h3
    ·rename_i hh;exact(Array.getElem?_eq_some_iff.1 hh).1
    ·cases h3
   ·obtain⟨h1,h2⟩:=hget i s hi;subst h2;exact(hf' i h1).2
end
end
theorem tiny_pose {x:Turn} (h:pN x.r0 x.r1 x.r2 x.r3 x.r4 x.r5 x.r6=true) (h1:∀r∈x.rs,oneL r):∃p:Pq,p.good∧p.ok 2∧x.rs=p.cs.map Fq.raw:=by
 obtain⟨s,e,g⟩:=pQ (x:=⟨0,x.r0,x.r1,x.r2,x.r3,x.r4,x.r5,x.r6⟩) h;refine⟨s.pose,g,xh (fun r hr=> ?_) e g,?_⟩
 ·have:=h1 r hr;exact⟨Nat.le_trans this.1 (by decide),Nat.le_trans this.2 (by decide)⟩
 ·have:=congrArg RSt.rs e;exact this
theorem turn_isOq {w:World} {v:Value} {x:Turn} {p:Pq} (e:x.rs=p.cs.map Fq.raw) (h:IsL w v x.rs):bz w v p:=by
 rw[e]at h;exact h
def ie:List Value:=.int .i64 0::.int .i64 0::.int .i64 0::.int .i64 0::aC
theorem Turn.Cs.len {x:Turn} {w:World} {l:List Value} (h:x.Cs w l):l.length=25:=by
 obtain⟨cs,rfl,hc⟩:=h;have:=ce hc;simp only[List.length_cons,this];rfl
theorem Turn.Cs.one {x:Turn} {w:World} {l:List Value} (h:x.Cs w l):l.toArray.all (·.oneCell')=true:=by
 obtain⟨cs,rfl,hc⟩:=h;refine all_oneCell_toArray (fun u hu=> ?_);simp only[List.mem_cons]at hu;rcases hu with rfl | rfl | rfl | rfl | hu
 ·rfl
 ·rfl
 ·rfl
 ·rfl
 ·exact fC hc u hu
theorem rq {l:List Value} (hl:l.length=25):(Tryz.prog.info? 114).map (·.size)=some l.toArray.size:=by rw[List.size_toArray,hl];kernel_rfl
structure TurnV (w W:World) (B:Nat) (x:Turn) (l:List Value):Prop where
 blk:W.heap[B]? =some (.cells l.toArray 114 (0,0))
 bel:Below w.heap.size w W
 ge:w.heap.size=B
 cs:x.Cs W l
theorem TurnV.mk' (w:World) {x:Turn} {l:List Value} (h:x.Cs w l):(w.alloc (.cells ie.toArray 114)).there w.heap.size 0 25∧TurnV w ((w.alloc (.cells ie.toArray 114)).setCells w.heap.size 0 l) w.heap.size x l:=by
 have hn:=heap_alloc_new w (.cells ie.toArray 114);have hb:Below w.heap.size w (w.alloc (.cells ie.toArray 114)):=(Below.refl _ w).alloc (Nat.le_refl _) _;have hl:=h.len;have hb2:=aV l 0 _ hb (Nat.le_refl w.heap.size);refine⟨nI hn,?_,hb2,rfl,?_⟩
 ·rw[cZ l _ _ 0 _ _ hn,g7 (by simp[ie,aC,hl])]
 ·obtain⟨cs,e,hc⟩:=h;exact⟨cs,e,hc.mono hb2⟩
theorem TurnV.cell {w W W':World} {B:Nat} {x:Turn} {l:List Value} (h:TurnV w W B x l) (k:Below W.heap.size W W'):W'.rangeAt B 0 l:=fun j u hj=>by
 have hlt:=(Array.getElem?_eq_some_iff.1 h.blk).1;rw[k.cell (p:=⟨B,_,none⟩) hlt,aA h.blk];simpa using hj
theorem TurnV.lt {w W:World} {B:Nat} {x:Turn} {l:List Value} (h:TurnV w W B x l):B<W.heap.size:=(Array.getElem?_eq_some_iff.1 h.blk).1
theorem cB {P:Program} {ops:Array Oper} {Q:Exit→Act→World→Prop} {a:Act} {w:World} {rest:List Oper} {o:Oper} (hw:Region.wanted o (yielded ops a.tmps)=true)
  (h:∀K:Act→World→Prop,(∀a w,wpList P ops Q rest a w→K a w)→o.wp P a w K Q):wpList P ops Q (o::rest) a w:=wpList_step fun K hK=>by rw[if_pos hw];exact h K hK
section
open Classical
theorem aM.chg {w w':World} {X:Nat→Prop} {l:List Rq} {cs:List Value} (h:aM w l cs) (k:Chg w w' X):aM w' l cs:=by
 induction l generalizing cs with
 | nil=>exact h
 | cons r l ih=>obtain⟨a,c,b,d,cs',e,h1,h2,h3⟩:=h;exact⟨a,c,b,d,cs',e,h1.chg k,h2.chg k,ih h3⟩
theorem TPost.oq {w w':World} {t m:Nat} {E E':List Ch} {v:Value} {p:Pq} (h:TPost w t m E w' E') (hT:TM w t m E) (i:bz w v p):bz w' v p:=by
 obtain⟨cs,e,hc⟩:=i;exact⟨cs,e,hc.chg (h.kp.chg hT.own)⟩
theorem aM.take {w:World}:∀ {l l':List Rq} {cs:List Value},aM w (l++l') cs→aM w l (cs.take (3*l.length))
 | [],_,cs,_=>by simp[aM]
 | r::l,l',cs,h=>by
  obtain⟨a,c,b,d,cs',rfl,h1,h2,h3⟩:=h;exact⟨a,c,b,d,_,by rw[show 3*(r::l).length=3*l.length+1+1+1 by simp only[List.length_cons];omega];simp only[List.take_succ_cons],h1,h2,h3.take⟩
theorem aM.app {w:World} {l':List Rq} {cs':List Value} (k:aM w l' cs'):∀ {l:List Rq} {cs:List Value},aM w l cs→aM w (l++l') (cs++cs')
 | [],cs,h=>by have h:cs=[]:=h;subst h;exact k
 | r::l,cs,h=>by
  obtain⟨a,c,b,d,cs1,rfl,h1,h2,h3⟩:=h;exact⟨a,c,b,d,_,rfl,h1,h2,aM.app k h3⟩
theorem put_pos {w:World} {cs us:List Value} {p:Pq} {x:Vq} (h:aM w (p.cs.map Fq.raw) cs) (k:aM w (x.cs.map Fq.raw) us):bz w (.agg (cs.take 12++us).toArray) ⟨p.rot,x⟩:=
 ⟨_,rfl,aM.app k (aM.take (l:=p.rot.cs.map Fq.raw) (l':=p.pos.cs.map Fq.raw) h)⟩
noncomputable def aRest6:Code:=(gn 6 Tryz.prog 16).getD .skip
theorem og:gn 6 Tryz.prog 16=some aRest6:=by kernel_rfl
def xtaX:List Fq:=(oe.cs++(Pq.zero.cs))
theorem ta_tail {we w:World} {ts:List Value} {Q:Exit→Act→World→Prop} {t m:Nat} {E:List Ch} (hE:Sane (trE E)) (hf1:aS (trE E) 25 bw cf=(oe,0)) (hf2:aS (trE E) 101 bw cf=(Pq.zero,17)) (hT:TM w t m E) (hbl:Below we.heap.size we w) (h1:ts[1]? =some (ptB t)) (hn:ts.length=53)
  (hQ:∀a' w',a'.tmps.getD 0 undef= .bool true→a'.defers=[]→Below we.heap.size we w'→Q .ret a' w'):∀c,gn 6 Tryz.prog 16=some c→c.wp Tryz.prog Q ⟨ts.toArray,[]⟩ w:=by
 intro c hc;have hr:=og;rw[hc]at hr;injection hr with hr;subst hr;obtain⟨t0,t1,tl,rfl⟩:∃t0 t1 tl,ts=t0::t1::tl:=by
  match ts,hn with
  | t0::t1::tl,_=>exact⟨_,_,_,rfl⟩
 injection h1 with h1;subst h1;refine gM (x:=0) (n:=400) (by decide) (ρ:=frs (xtaX)++([.tree t m E,.val (.string oe.text)]:List Vp))
  (ae (eK (n:=42) (kr:=[0,1,2,3,4,5,6]) rfl hE kt_c kt_c (aR (c:=25)) hf1 ⟨rfl,rfl,rfl,rfl,rfl,rfl,rfl,trivial⟩ vw) (ae (eK (n:=42) (kr:=[7,8,9,10,11,12,13]) rfl hE kt_c kt_c (aR (c:=101)) hf2 ⟨rfl,rfl,rfl,rfl,rfl,rfl,rfl,trivial⟩ vw) (ae (oP (ks:=[0,1,2,3,4,5,6]) (a:=oe) ⟨rfl,rfl,rfl,rfl,rfl,rfl,rfl,trivial⟩ (ls (n:=43) rfl) (tw_ok.mono (by decide))) ah)))
  (af (yJ (t:=9) (c:=oe.text) (p:=(ByteArray.mk #[49,32,48,32,48,32,48,32,53,47,50,32,48,32,48])) (b:=true) (by kernel_rfl) (dm (n:=43) rfl) kt_c (decide_eq_true tw_text)) (ai)) (by kernel_rfl) ?_
  (vv (nt:=53) (V:=[]) (known:=[none,some (.v (.one (.ref 42)))]) hbl List.nodup_nil (fun x h=>by cases h) ⟨⟨_,rfl,⟨rfl,hT⟩,fun g hg hx=>by cases blkL_has hx⟩,trivial⟩ (by simpa using hn))
  (fun a' w' h1 h2 h3=>hQ a' w' h1 h2 h3.to)
 ·kernel_rfl
theorem list9 {cs:List Value} (h:cs.length=9):∃c0 c1 c2 c3 c4 c5 c6 c7 c8,cs=[c0,c1,c2,c3,c4,c5,c6,c7,c8]:=by
 match cs,h with
 | [c0,c1,c2,c3,c4,c5,c6,c7,c8],_=>exact⟨_,_,_,_,_,_,_,_,_,rfl⟩
theorem put12 {c0 c1 c2 c3 c4 c5 c6 c7 c8 c9 c10 c11 c12 c13 c14 c15 c16 c17 c18 c19 c20 u0 u1 u2 u3 u4 u5 u6 u7 u8:Value}:i6 #[c0,c1,c2,c3,c4,c5,c6,c7,c8,c9,c10,c11,c12,c13,c14,c15,c16,c17,c18,c19,c20] 12 [u0,u1,u2,u3,u4,u5,u6,u7,u8]=#[c0,c1,c2,c3,c4,c5,c6,c7,c8,c9,c10,c11,u0,u1,u2,u3,u4,u5,u6,u7,u8]:=by
 simp only[i6,List.setIfInBounds_toArray,List.set_cons_succ,List.set_cons_zero]
set_option maxHeartbeats 4000000 in
theorem vA (w:World):Calls Tryz.prog 16 #[] w fun e w'=>e= .returned (.bool true)∧Below w.heap.size w w':=by
 have hnew:=q_New w;go_enter Tryz.func16,Tryz.ntmps16
 go_upto_region 2 with(go_at_call 31;refine hnew.mono ?_;rintro e w1 ⟨t,m,rfl,hT,h1,h2,h3⟩;have HI:=Lib.hid (TInv.new hT h1 h2 h3);clear hnew hT h1 h2 h3)
 have hpi:=sB w1;refine wp_region_list ?_;refine wpList_plain rfl (fun K hK=> ?_);go_simp;go_at_call 22
 refine hpi.mono ?_;rintro e w2 ⟨v,rfl,hv,hb⟩;obtain⟨vs,rfl,hul,hu1,hun⟩:=iw hv;refine hK _ _ ?_;clear hK K hpi;have hpn:=PB.new w2;have hvn:bz (w2.alloc (.cells aC.toArray 39)) (.agg vs.toArray) Pq.id:=IsL.mono hv hpn.bel;have hth:=hpn.there;rw[←hul]at hth;have hb5:=aV vs 0 _ (hb.trans (hpn.bel.mono hb.size)) hb.size (b:=w2.heap.size);have HP:=Lib.hid (hpn.put (us:=vs) hul hun);have HV:=Lib.hid (hpn.keep (us:=vs) hvn);have HB5:=Lib.hid hb5;refine aj rfl (v:=.pointer (some ⟨w2.heap.size,0,none⟩)) (w':=w2.alloc (.cells aC.toArray 39)) (by go_simp;try rfl) ?_;refine wpList_store_mid rfl _ _ _ rfl w2.heap.size 0 vs.toArray rfl rfl (by simpa using hth) (ci hul) hu1 ?_;rw[show vs.toArray.toList=vs from rfl];generalize hW5:(w2.alloc (.cells aC.toArray 39)).setCells w2.heap.size 0 vs=W2 at *;obtain⟨B,hB⟩:∃B,w2.heap.size=B:=⟨_,rfl⟩;have HGE:=Lib.hid (show w1.heap.size≤B from hB▸hb.size);rw[hB]at HP⊢;clear hW5 hB hpn hvn hth hb5 hv hb hu1 hun;go_upto_region 3 with(fail)
 have hof:=q_fOfK (w:=W2) 10 0 0 (by decide) (by decide) (by decide);refine wp_region_list ?_;refine wpList_plain rfl (fun K hK=> ?_);go_simp;go_at_call 23
 refine hof.mono ?_;rintro e w3 ⟨v,rfl,hx,hb3⟩;obtain⟨us,rfl,hxl,hx1,hxn⟩:=vq_cs hx;refine hK _ _ ?_;clear hK K hof;have hp3:=HP.out.next hb3;have hth:w3.there B 12 us.toArray.size:=fun j hj=>by
  have hj9:j<9:=by rw[List.size_toArray,hxl]at hj;exact hj
  have:=hp3.there (12+j) (by omega);rwa [Nat.zero_add]at this
 have hup:Upd w3 B (w3.setCells B 12 us):=ct us w3 B 12;have hob:Own w3 B:=kH hp3.blk (fun u hu=>hp3.nu u (by simpa using hu));have hend:bz (w3.setCells B 12 us) (.agg (vs.take 12++us).toArray) (sh 10 0 0):=by
  obtain⟨k1,e1,k2⟩:=IsL.mono HV.out hb3;obtain⟨k3,e3,k4⟩:=hx;have e1:vs=k1:=by injection e1 with e1;simpa using e1
  have e3:us=k3:=by injection e3 with e3;simpa using e3
  subst e1;subst e3;exact put_pos (p:=Pq.id) (x:=Vq.of 10 0 0) (k2.upd hob hup) (k4.upd hob hup)
 have hbk:=cZ us w3 B 12 _ _ hp3.blk;have hb6:=aV us 12 _ (HB5.out.trans (hb3.mono HB5.out.size)) HGE.out (b:=B);refine aj rfl (v:=.pointer (some ⟨B,12,none⟩)) (w':=w3) (by go_simp) ?_;refine wpList_store_mid rfl _ _ _ rfl B 12 us.toArray rfl rfl hth (uX hxl) hx1 ?_;rw[show us.toArray.toList=us from rfl];generalize hW3:w3.setCells B 12 us=W3 at *;have HI3:=Lib.hid (HI.out.below hb6);have HBF:=Lib.hid (show B∉fpT t m []from fun hm=>by have:=HI.out.tm.lt _ hm;have:=HGE.out;omega);clear hW3 hth hup hob hp3 hx hb3 hx1 hxn HP HV HB5 hb6 HI;obtain⟨c0,c1,c2,c3,c4,c5,c6,c7,c8,c9,c10,c11,c12,c13,c14,c15,c16,c17,c18,c19,c20,rfl⟩:=xx hul;obtain⟨u0,u1,u2,u3,u4,u5,u6,u7,u8,rfl⟩:=list9 hxl;rw[put12]at hbk;simp only[List.take_succ_cons,List.take_zero,List.cons_append,List.nil_append]at hend;have HEND:=Lib.hid hend;have HBK:=Lib.hid hbk;have HC:=Lib.hid (show∀wq:World,wq.heap[B]? =some (.cells #[c0,c1,c2,c3,c4,c5,c6,c7,c8,c9,c10,c11,u0,u1,u2,u3,u4,u5,u6,u7,u8] 39 (0,0))→wq.rangeAt B 0 [c0,c1,c2,c3,c4,c5,c6,c7,c8,c9,c10,c11,u0,u1,u2,u3,u4,u5,u6,u7,u8]from fun wq h j u hj=>by rw[aA h,Nat.zero_add];simpa using hj);clear hul hend hbk;have hat1:=uP (c:=cf) (p:=bw) (f:=0) HI3.out.tm HI3.out.sane.ok (.inl iArm) (.inl iBase);go_upto_region 4 with(fail)
 refine wp_region_list ?_;refine wpList_plain rfl (fun K hK=> ?_);go_simp;refine hK _ _ ?_;clear hK K;refine wpList_plain rfl (fun K hK=> ?_);go_simp;refine hK _ _ ?_;clear hK K;refine wpList_plain rfl (fun K hK=> ?_);go_simp;refine hK _ _ ?_;clear hK K;refine cB ?_ (fun K hK=> ?_)
 ·rfl
 go_simp;refine hK _ _ ?_;clear hK K;refine cB ?_ (fun K hK=> ?_)
 ·rfl
 go_simp;go_at_call 67
 refine hat1.mono ?_;rintro e w4 ⟨E4,R4,code,rfl,hP,hR,hA⟩;refine hK _ _ ?_;clear hK K;have HI4:=Lib.hid (HI3.out.att hP hR hA);have HE4:=Lib.hid (hP.oq HI3.out.tm HEND.out);have HBK4:=Lib.hid ((hP.kp.block B (Array.getElem?_eq_some_iff.1 HBK.out).1 HBF.out).trans HBK.out);have HBF4:=Lib.hid (show B∉fpT t m E4 from fun hm=>(hP.fp _ hm).elim HBF.out (fun h=>by have:=(Array.getElem?_eq_some_iff.1 HBK.out).1;omega));obtain⟨rfl,hR4⟩:=tw_u1 (REq.refl _) hA;have HR4:=Lib.hid (hR.trans hR4);have hpi:=sB w4;clear hat1 hP hR hA hR4 HI3 HEND HBK HBF;refine cB ?_ (fun K hK=> ?_)
 ·rfl
 go_simp;refine hK _ _ ?_;clear hK K;refine wpList_plain rfl (fun K hK=> ?_);go_simp;refine hK _ _ ?_;clear hK K;refine wpList_plain rfl (fun K hK=> ?_);go_simp;refine hK _ _ ?_;clear hK K;refine cB ?_ (fun K hK=> ?_)
 ·rfl
 go_simp;refine hK _ _ ?_;clear hK K;refine cB ?_ (fun K hK=> ?_)
 ·rfl
 go_simp;go_at_call 22
 refine hpi.mono ?_;rintro e w5 ⟨v,rfl,hv,hb⟩;obtain⟨ds,rfl,hds⟩:=hv;obtain⟨d0,d1,d2,d3,d4,d5,d6,d7,d8,d9,d10,d11,d12,d13,d14,d15,d16,d17,d18,d19,d20,rfl⟩:=xx (ce hds);refine hK _ _ ?_;clear hK K;have HI5:=Lib.hid (HI4.out.below hb);have HE5:=Lib.hid (IsL.mono HE4.out hb);have HBK5:=Lib.hid ((hb.block B (Array.getElem?_eq_some_iff.1 HBK4.out).1).trans HBK4.out);have hset1:=xy (p:=Pq.id) (c:=cf) (a:=0) HI5.out.tm HI5.out.sane.ok ⟨_,rfl,hds⟩ Pq.ok.id;clear hpi hb hds HI4 HE4 HBK4;refine cB ?_ (fun K hK=> ?_)
 ·rfl
 go_simp;refine hK _ _ ?_;clear hK K;refine cB ?_ (fun K hK=> ?_)
 ·rfl
 go_simp;go_at_call 69
 refine hset1.mono ?_;rintro e w6 ⟨E6,R6,code,rfl,hP,hR,hD⟩;refine hK _ _ ?_;clear hK K;have HI6:=Lib.hid (HI5.out.next (s:=⟨2,cf,bw,0,Pq.id⟩) hP hR (by unfold DoS;exact hD) Pq.ok.id);have hset2:=xy (p:=sh 10 0 0) (c:=cf) (a:=100) (cs:=[c0,c1,c2,c3,c4,c5,c6,c7,c8,c9,c10,c11,u0,u1,u2,u3,u4,u5,u6,u7,u8]) HI6.out.tm HI6.out.sane.ok (hP.oq HI5.out.tm HE5.out) (sh_ok (by decide) (by decide) (by decide));have HRG:=Lib.hid (HC.out w6 ((hP.kp.block B (Array.getElem?_eq_some_iff.1 HBK5.out).1 HBF4.out).trans HBK5.out));obtain⟨rfl,hR6⟩:=tw_u2 HI5.out.sane.ok HR4.out hD;have HR6:=Lib.hid (hR.trans hR6);clear hset1 hP hR hD hR6 HI5 HE5 HBK5 HBF4 HR4;refine cB ?_ (fun K hK=> ?_)
 ·rfl
 go_simp;refine hK _ _ ?_;clear hK K;refine wpList_plain rfl (fun K hK=> ?_);go_simp;refine hK _ _ ?_;clear hK K;refine wpList_plain rfl (fun K hK=> ?_);go_simp;refine hK _ _ ?_;clear hK K;refine cB ?_ (fun K hK=> ?_)
 ·rfl
 go_simp;refine hK _ _ ?_;clear hK K;refine cB ?_ (fun K hK=> ?_)
 ·rfl
 refine wp_load_mid _ _ rfl B 0 rfl [c0,c1,c2,c3,c4,c5,c6,c7,c8,c9,c10,c11,u0,u1,u2,u3,u4,u5,u6,u7,u8] _ HRG.out Tryz.underlying39 rfl (by kernel_rfl) ?_;refine hK _ _ ?_;clear hK K;refine cB ?_ (fun K hK=> ?_)
 ·rfl
 go_simp;refine hK _ _ ?_;clear hK K;refine cB ?_ (fun K hK=> ?_)
 ·rfl
 go_simp;go_at_call 69
 refine hset2.mono ?_;rintro e w7 ⟨E7,R7,code,rfl,hP,hR,hD⟩;refine hK _ _ ?_;clear hK K;have HI7:=Lib.hid (HI6.out.next (s:=⟨2,cf,bw,100,sh 10 0 0⟩) hP hR (by unfold DoS;exact hD) (sh_ok (by decide) (by decide) (by decide)));obtain⟨rfl,hR7⟩:=tw_u3 HI6.out.sane.ok HR6.out hD;have HR7:=Lib.hid (hR.trans hR7);clear hset2 hP hR hD hR7 HI6 HR6;refine cB ?_ (fun K hK=> ?_)
 ·rfl
 go_simp;refine hK _ _ ?_;clear hK K;refine wpList_plain rfl (fun K hK=> ?_);go_simp;refine hK _ _ ?_;clear hK K;go_upto_if 31 with(fail)
 rename_i K2 hrest;have HREST:=Lib.hid hrest;clear hrest;go_wp2;refine HREST.out _ _ (ta_tail (we:=w) HI7.out.sane (tw_f1 HR7.out) (tw_f2 HR7.out) HI7.out.tm HI7.out.bel rfl rfl (fun a' w' h1 h2 h3=> ?_) _ (by kernel_rfl));refine bodyPost_ret (results_tmp rfl _ _ _) h2 ?_;exact⟨by rw[←h1],h3⟩
end
def Vq.fmt (a:Vq):ByteArray:=(((((((ByteArray.mk #[40])++a.x.fmt)++(ByteArray.mk #[32]))++a.y.fmt)++(ByteArray.mk #[32]))++a.z.fmt)++(ByteArray.mk #[41]))
section
variable {ρ:Rho} {n m:Nat} {l l' l'':Leaf} {c p d:Nm} {a e u:Int} {t:TypeId}
theorem yN {b:Bool} (ht:pm Tryz.prog t=true) (h1:KT ρ l c) (h2:KT ρ l' p) (hb:(!decide (c=p))=b):(OIns.mk (.bin .neq t) [.one l,.one l'] (.one (.b b))).Ok Tryz.prog ρ:=fun B w vs hv=>by
 match vs,hv with
 | [v0,v1],hv=>
  have e0:=h1 _ _ _ hv.1;have e1:=h2 _ _ _ hv.2.1;subst e0;subst e1;subst hb;refine⟨_,rfl,fun xo yo=> ?_⟩;by_cases h:c=p
  ·subst h;have h3:(ByteArray.toList c==ByteArray.toList c)=true:=by simp
   simp[eqGuard,binOp,Op.stringOp,Sem.run_bind,Result.andThen,h3]
  ·have h3:=uJ h;simp[eqGuard,binOp,Op.stringOp,Sem.run_bind,Result.andThen,h,h3]
theorem eY (h1:KI ρ l .i64 u) (hm:ρ[m]? =some (.val (.string (frm u)))) (h:I64 u):Inst.Ok Tryz.prog ρ ⟨17,[.one l],.v (.one (.ref m))⟩:=
 ⟨az Tryz.func17 rfl rfl,fun B w vs hB hv=>by
  match vs,hv with
  | [v0],hv=>
   have e0:=h1 _ _ _ hv.1;subst e0;refine(jw u h).mono ?_;rintro e w' ⟨rfl,hw⟩;exact⟨_,rfl,aH hm gC,hw⟩⟩
theorem fR:Inst.Ok Tryz.prog ρ ⟨16,[],.v (.one (.b true))⟩:=
 ⟨az Tryz.func16 rfl rfl,fun B w vs hB hv=>by
  match vs,hv with
  | [],_=>
   refine(vA w).mono ?_;rintro e w' ⟨rfl,hw⟩;exact⟨_,rfl,rfl,hw⟩⟩
end
section
variable {xs:List Fq} {ys:Rho} {n:Nat} {ka kb kr:List Nat} {l l' l'' lc:Leaf} {t m:Nat} {E:List Ch} {c d:Nm} {a e:Int} {p q r:Pq} {b:Bool}
theorem I_Can (ht:(frs xs++ys)[n]? =some (.tree t m E)) (hE:Sane (trE E)) (h1:KT (frs xs++ys) l c) (h2:KT (frs xs++ys) l' d) (h3:KI (frs xs++ys) l'' .i64 a) (hp:decide ((aS (trE E) a c d).2=0)=b):
  OkI xs ys ⟨19,[.one (.ref n),.one l,.one l',.one l''],.v (.one (.b b))⟩:=
 ⟨az Tryz.func19 rfl rfl,fun B w vs hB hv=>by
  match vs,hv with
  | [v0,v1,v2,v3],hv=>
   obtain⟨e0,hT⟩:=vj ht hv.1;have e1:=h1 _ _ _ hv.2.1;have e2:=h2 _ _ _ hv.2.2.1;have e3:=h3 _ _ _ hv.2.2.2.1;subst e0;subst e1;subst e2;subst e3;subst hp;refine(q_Can hT hE (yH hE _ _ _)).mono ?_;rintro e' w' ⟨rfl,hw⟩;exact⟨_,rfl,rfl,hw⟩⟩
theorem ql (aa:AtL xs ka p.cs) (ab:AtL xs kb q.cs) (ar:AtL xs kr r.cs) (hp:p.ok 10000) (hq:q.ok 10000) (gp:p.good) (gq:q.good) (e:p.mul q=r):OkI xs ys ⟨21,[row ka,row kb],.v (row kr)⟩:=by
 subst e;exact I_poMul aa ab ar (hp.mono (by decide)) (hq.mono (by decide)) gp gq
end
noncomputable def tRest2:Code:=(gn 2 Tryz.prog 3).getD .skip
theorem cC:gn 2 Tryz.prog 3=some tRest2:=by kernel_rfl
theorem okid6:Pq.id.ok 6000:=Pq.ok.id.mono (by decide)
def xttAX (P1 P2:Pq):List Fq:=(P1.cs++(P2.cs++(P1.inv.cs++(Pq.id.cs++((P1.mul P2).cs)))))
theorem tl_ttA {we w:World} {B:Nat} {ts:List Value} {Q:Exit→Act→World→Prop} {t m:Nat} {E:List Ch} (a b c u:Int) (P1 P2:Pq) (ha:I64 a) (hb:I64 b) (hc:I64 c) (hE:Sane (trE E)) (hab:aS (trE E) u (frm a) (frm b)=(P1,0)) (hbc:aS (trE E) u (frm b) (frm c)=(P2,0)) (hba:aS (trE E) u (frm b) (frm a)=(P1.inv,0)) (hac:aS (trE E) u (frm a) (frm c)=(P1.mul P2,0)) (oP1:P1.ok 6000) (gP1:P1.good) (oP2:P2.ok 6000) (gP2:P2.good) (oi:P1.inv.ok 6000) (gi:P1.inv.good) (om:(P1.mul P2).ok 6000) (gm:(P1.mul P2).good)
  (hT:TM w t m E) (hbB:B∉fpT t m E) (hbl:Below we.heap.size we w) (hg:we.heap.size≤B) (hq:w.heap[B]? =some (.cells #[.int .i64 a,.int .i64 b,.int .i64 c] 23 (0,0))) (h2:ts[2]? =some (.int .i64 u)) (h4:ts[4]? =some (.pointer (some ⟨B,0,none⟩))) (h7:ts[7]? =some (ptB t)) (h8:ts[8]? =some (.bool true)) (hn:ts.length=116)
  (hQ:∀a' w',a'.tmps.getD 6 undef= .bool true→a'.defers=[]→Below we.heap.size we w'→Q .ret a' w'):∀c,gn 2 Tryz.prog 3=some c→c.wp Tryz.prog Q ⟨ts.toArray,[]⟩ w:=by
 intro cc hcc;have hr:=cC;rw[hcc]at hr;injection hr with hr;subst hr;obtain⟨t0,t1,t2,t3,t4,t5,t6,t7,t8,tl,rfl⟩:∃t0 t1 t2 t3 t4 t5 t6 t7 t8 tl,ts=t0::t1::t2::t3::t4::t5::t6::t7::t8::tl:=by
  match ts,hn with
  | t0::t1::t2::t3::t4::t5::t6::t7::t8::tl,_=>exact⟨_,_,_,_,_,_,_,_,_,_,rfl⟩
 injection h2 with h2;injection h4 with h4;injection h7 with h7;injection h8 with h8;subst h2;subst h4;subst h7;subst h8;refine gM (x:=6) (n:=400) (by decide) (ρ:=frs (xttAX P1 P2)++([.tree t m E,.val (.int .i64 a),.val (.int .i64 b),.val (.int .i64 c),.val (.int .i64 u),.val (.string (frm a)),.val (.string (frm b)),.val (.string (frm c)),.val (.string Pq.id.text),.val (.string (P1.mul P2).text)]:List Vp))
  (ae (eY (m:=110) (aw (n:=106) rfl) rfl ha) (ae (eY (m:=111) (aw (n:=107) rfl) rfl hb) (ae (eY (m:=112) (aw (n:=108) rfl) rfl hc) (ae (eK (n:=105) (kr:=[0,1,2,3,4,5,6]) rfl hE (dm (n:=110) rfl) (dm (n:=111) rfl) (aw (n:=109) rfl) hab ⟨rfl,rfl,rfl,rfl,rfl,rfl,rfl,trivial⟩ vw) (ae (eK (n:=105) (kr:=[7,8,9,10,11,12,13]) rfl hE (dm (n:=111) rfl) (dm (n:=112) rfl) (aw (n:=109) rfl) hbc ⟨rfl,rfl,rfl,rfl,rfl,rfl,rfl,trivial⟩ vw) (ae (eK (n:=105) (kr:=[14,15,16,17,18,19,20]) rfl hE (dm (n:=111) rfl) (dm (n:=110) rfl) (aw (n:=109) rfl) hba ⟨rfl,rfl,rfl,rfl,rfl,rfl,rfl,trivial⟩ vw) (ae (I_Can (n:=105) (b:=true) rfl hE (dm (n:=110) rfl) (dm (n:=111) rfl) (aw (n:=109) rfl) (by rw[hab];rfl)) (ae (ql (ka:=[0,1,2,3,4,5,6]) (kb:=[14,15,16,17,18,19,20]) (kr:=[21,22,23,24,25,26,27]) ⟨rfl,rfl,rfl,rfl,rfl,rfl,rfl,trivial⟩ ⟨rfl,rfl,rfl,rfl,rfl,rfl,rfl,trivial⟩ ⟨rfl,rfl,rfl,rfl,rfl,rfl,rfl,trivial⟩ (oP1.mono (by decide)) (oi.mono (by decide)) gP1 gi (ro gP1)) (ae (oP (ks:=[21,22,23,24,25,26,27]) ⟨rfl,rfl,rfl,rfl,rfl,rfl,rfl,trivial⟩ (ls (n:=113) rfl) (okid6.mono (by decide))) (ae (I_poId (kr:=[21,22,23,24,25,26,27]) ⟨rfl,rfl,rfl,rfl,rfl,rfl,rfl,trivial⟩) (ae (eK (n:=105) (kr:=[28,29,30,31,32,33,34]) rfl hE (dm (n:=110) rfl) (dm (n:=112) rfl) (aw (n:=109) rfl) hac ⟨rfl,rfl,rfl,rfl,rfl,rfl,rfl,trivial⟩ vw) (ae (oP (ks:=[28,29,30,31,32,33,34]) ⟨rfl,rfl,rfl,rfl,rfl,rfl,rfl,trivial⟩ (ls (n:=114) rfl) (om.mono (by decide))) (ae (ql (ka:=[0,1,2,3,4,5,6]) (kb:=[7,8,9,10,11,12,13]) (kr:=[28,29,30,31,32,33,34]) ⟨rfl,rfl,rfl,rfl,rfl,rfl,rfl,trivial⟩ ⟨rfl,rfl,rfl,rfl,rfl,rfl,rfl,trivial⟩ ⟨rfl,rfl,rfl,rfl,rfl,rfl,rfl,trivial⟩ (oP1.mono (by decide)) (oP2.mono (by decide)) gP1 gP2 rfl) (ae (fR) ah))))))))))))))
  (af (yN (t:=9) (c:=Pq.id.text) (p:=Pq.id.text) (b:=false) (by kernel_rfl) (dm (n:=113) rfl) (dm (n:=113) rfl) (by simp)) (af (yJ (t:=9) (c:=(P1.mul P2).text) (p:=(P1.mul P2).text) (b:=true) (by kernel_rfl) (dm (n:=114) rfl) (dm (n:=114) rfl) (decide_eq_true rfl)) (ai))) (by kernel_rfl) ?_
  (tb (nt:=116) (T:=23) (b0:=B) (l0:=[.ref 106,.ref 107,.ref 108]) (known:=[none,none,some (.v (.one (.ref 109))),none,some (.v (.one (.ptr 0 0))),none,none,some (.v (.one (.ref 105))),some (.v (.one (.b true)))]) hbl hg hq (fun u hu n e=>by simp at hu;rcases hu with rfl | rfl | rfl<;>cases e)
   ⟨aH (n:=106) rfl aF,aH (n:=107) rfl aF,aH (n:=108) rfl aF,trivial⟩ ⟨aH (n:=109) rfl aF,⟨B,rfl,rfl⟩,⟨_,rfl,⟨rfl,hT⟩,fun g hg hx=>hbB (qk hx▸hg)⟩,rfl,trivial⟩ (by simpa using hn))
  (fun a' w' h1 h2 h3=>hQ a' w' h1 h2 h3.to)
 ·kernel_rfl
def xttBX (P1 P2:Pq):List Fq:=(P1.cs++(P2.cs++(P1.inv.cs++(Pq.id.cs))))
theorem tl_ttB {we w:World} {B:Nat} {ts:List Value} {Q:Exit→Act→World→Prop} {t m:Nat} {E:List Ch} (a b c u:Int) (P1 P2:Pq) (f:Int) (ha:I64 a) (hb:I64 b) (hc:I64 c) (hE:Sane (trE E)) (hab:aS (trE E) u (frm a) (frm b)=(P1,0)) (hbc:aS (trE E) u (frm b) (frm c)=(P2,f)) (hba:aS (trE E) u (frm b) (frm a)=(P1.inv,0)) (oP1:P1.ok 6000) (gP1:P1.good) (oi:P1.inv.ok 6000) (gi:P1.inv.good) (hf:f≠0)
  (hT:TM w t m E) (hbB:B∉fpT t m E) (hbl:Below we.heap.size we w) (hg:we.heap.size≤B) (hq:w.heap[B]? =some (.cells #[.int .i64 a,.int .i64 b,.int .i64 c] 23 (0,0))) (h2:ts[2]? =some (.int .i64 u)) (h4:ts[4]? =some (.pointer (some ⟨B,0,none⟩))) (h7:ts[7]? =some (ptB t)) (h8:ts[8]? =some (.bool true)) (hn:ts.length=116)
  (hQ:∀a' w',a'.tmps.getD 6 undef= .bool true→a'.defers=[]→Below we.heap.size we w'→Q .ret a' w'):∀c,gn 2 Tryz.prog 3=some c→c.wp Tryz.prog Q ⟨ts.toArray,[]⟩ w:=by
 intro cc hcc;have hr:=cC;rw[hcc]at hr;injection hr with hr;subst hr;obtain⟨t0,t1,t2,t3,t4,t5,t6,t7,t8,tl,rfl⟩:∃t0 t1 t2 t3 t4 t5 t6 t7 t8 tl,ts=t0::t1::t2::t3::t4::t5::t6::t7::t8::tl:=by
  match ts,hn with
  | t0::t1::t2::t3::t4::t5::t6::t7::t8::tl,_=>exact⟨_,_,_,_,_,_,_,_,_,_,rfl⟩
 injection h2 with h2;injection h4 with h4;injection h7 with h7;injection h8 with h8;subst h2;subst h4;subst h7;subst h8;refine gM (x:=6) (n:=400) (by decide) (ρ:=frs (xttBX P1 P2)++([.tree t m E,.val (.int .i64 a),.val (.int .i64 b),.val (.int .i64 c),.val (.int .i64 u),.val (.string (frm a)),.val (.string (frm b)),.val (.string (frm c)),.val (.int .i64 f),.val (.string Pq.id.text)]:List Vp))
  (ae (eY (m:=89) (aw (n:=85) rfl) rfl ha) (ae (eY (m:=90) (aw (n:=86) rfl) rfl hb) (ae (eY (m:=91) (aw (n:=87) rfl) rfl hc) (ae (eK (n:=84) (kr:=[0,1,2,3,4,5,6]) rfl hE (dm (n:=89) rfl) (dm (n:=90) rfl) (aw (n:=88) rfl) hab ⟨rfl,rfl,rfl,rfl,rfl,rfl,rfl,trivial⟩ vw) (ae (eK (n:=84) (kr:=[7,8,9,10,11,12,13]) rfl hE (dm (n:=90) rfl) (dm (n:=91) rfl) (aw (n:=88) rfl) hbc ⟨rfl,rfl,rfl,rfl,rfl,rfl,rfl,trivial⟩ (kc_r (n:=92) rfl)) (ae (eK (n:=84) (kr:=[14,15,16,17,18,19,20]) rfl hE (dm (n:=90) rfl) (dm (n:=89) rfl) (aw (n:=88) rfl) hba ⟨rfl,rfl,rfl,rfl,rfl,rfl,rfl,trivial⟩ vw) (ae (I_Can (n:=84) (b:=true) rfl hE (dm (n:=89) rfl) (dm (n:=90) rfl) (aw (n:=88) rfl) (by rw[hab];rfl)) (ae (ql (ka:=[0,1,2,3,4,5,6]) (kb:=[14,15,16,17,18,19,20]) (kr:=[21,22,23,24,25,26,27]) ⟨rfl,rfl,rfl,rfl,rfl,rfl,rfl,trivial⟩ ⟨rfl,rfl,rfl,rfl,rfl,rfl,rfl,trivial⟩ ⟨rfl,rfl,rfl,rfl,rfl,rfl,rfl,trivial⟩ (oP1.mono (by decide)) (oi.mono (by decide)) gP1 gi (ro gP1)) (ae (oP (ks:=[21,22,23,24,25,26,27]) ⟨rfl,rfl,rfl,rfl,rfl,rfl,rfl,trivial⟩ (ls (n:=93) rfl) (okid6.mono (by decide))) (ae (I_poId (kr:=[21,22,23,24,25,26,27]) ⟨rfl,rfl,rfl,rfl,rfl,rfl,rfl,trivial⟩) (ae (fR) ah)))))))))))
  (af (yN (t:=9) (c:=Pq.id.text) (p:=Pq.id.text) (b:=false) (by kernel_rfl) (dm (n:=93) rfl) (dm (n:=93) rfl) (by simp)) (af (aE (t:=40) (aw (n:=92) rfl) (aR (c:=0)) (uw (by omega))) (ai))) (by kernel_rfl) ?_
  (tb (nt:=116) (T:=23) (b0:=B) (l0:=[.ref 85,.ref 86,.ref 87]) (known:=[none,none,some (.v (.one (.ref 88))),none,some (.v (.one (.ptr 0 0))),none,none,some (.v (.one (.ref 84))),some (.v (.one (.b true)))]) hbl hg hq (fun u hu n e=>by simp at hu;rcases hu with rfl | rfl | rfl<;>cases e)
   ⟨aH (n:=85) rfl aF,aH (n:=86) rfl aF,aH (n:=87) rfl aF,trivial⟩ ⟨aH (n:=88) rfl aF,⟨B,rfl,rfl⟩,⟨_,rfl,⟨rfl,hT⟩,fun g hg hx=>hbB (qk hx▸hg)⟩,rfl,trivial⟩ (by simpa using hn))
  (fun a' w' h1 h2 h3=>hQ a' w' h1 h2 h3.to)
 ·kernel_rfl
def xttCX (P1 P2 P3:Pq):List Fq:=(P1.cs++(P2.cs++(P3.cs)))
theorem tl_ttC {we w:World} {B:Nat} {ts:List Value} {Q:Exit→Act→World→Prop} {t m:Nat} {E:List Ch} (a b c u:Int) (P1 P2 P3:Pq) (e f g:Int) (ha:I64 a) (hb:I64 b) (hc:I64 c) (hE:Sane (trE E)) (hab:aS (trE E) u (frm a) (frm b)=(P1,e)) (hbc:aS (trE E) u (frm b) (frm c)=(P2,f)) (hba:aS (trE E) u (frm b) (frm a)=(P3,g)) (he:e≠0) (hg0:g≠0)
  (hT:TM w t m E) (hbB:B∉fpT t m E) (hbl:Below we.heap.size we w) (hg:we.heap.size≤B) (hq:w.heap[B]? =some (.cells #[.int .i64 a,.int .i64 b,.int .i64 c] 23 (0,0))) (h2:ts[2]? =some (.int .i64 u)) (h4:ts[4]? =some (.pointer (some ⟨B,0,none⟩))) (h7:ts[7]? =some (ptB t)) (h8:ts[8]? =some (.bool true)) (hn:ts.length=116)
  (hQ:∀a' w',a'.tmps.getD 6 undef= .bool true→a'.defers=[]→Below we.heap.size we w'→Q .ret a' w'):∀c,gn 2 Tryz.prog 3=some c→c.wp Tryz.prog Q ⟨ts.toArray,[]⟩ w:=by
 intro cc hcc;have hr:=cC;rw[hcc]at hr;injection hr with hr;subst hr;obtain⟨t0,t1,t2,t3,t4,t5,t6,t7,t8,tl,rfl⟩:∃t0 t1 t2 t3 t4 t5 t6 t7 t8 tl,ts=t0::t1::t2::t3::t4::t5::t6::t7::t8::tl:=by
  match ts,hn with
  | t0::t1::t2::t3::t4::t5::t6::t7::t8::tl,_=>exact⟨_,_,_,_,_,_,_,_,_,_,rfl⟩
 injection h2 with h2;injection h4 with h4;injection h7 with h7;injection h8 with h8;subst h2;subst h4;subst h7;subst h8;refine gM (x:=6) (n:=400) (by decide) (ρ:=frs (xttCX P1 P2 P3)++([.tree t m E,.val (.int .i64 a),.val (.int .i64 b),.val (.int .i64 c),.val (.int .i64 u),.val (.string (frm a)),.val (.string (frm b)),.val (.string (frm c)),.val (.int .i64 e),.val (.int .i64 f),.val (.int .i64 g)]:List Vp))
  (ae (eY (m:=68) (aw (n:=64) rfl) rfl ha) (ae (eY (m:=69) (aw (n:=65) rfl) rfl hb) (ae (eY (m:=70) (aw (n:=66) rfl) rfl hc) (ae (eK (n:=63) (kr:=[0,1,2,3,4,5,6]) rfl hE (dm (n:=68) rfl) (dm (n:=69) rfl) (aw (n:=67) rfl) hab ⟨rfl,rfl,rfl,rfl,rfl,rfl,rfl,trivial⟩ (kc_r (n:=71) rfl)) (ae (eK (n:=63) (kr:=[7,8,9,10,11,12,13]) rfl hE (dm (n:=69) rfl) (dm (n:=70) rfl) (aw (n:=67) rfl) hbc ⟨rfl,rfl,rfl,rfl,rfl,rfl,rfl,trivial⟩ (kc_r (n:=72) rfl)) (ae (eK (n:=63) (kr:=[14,15,16,17,18,19,20]) rfl hE (dm (n:=69) rfl) (dm (n:=68) rfl) (aw (n:=67) rfl) hba ⟨rfl,rfl,rfl,rfl,rfl,rfl,rfl,trivial⟩ (kc_r (n:=73) rfl)) (ae (I_Can (n:=63) (b:=false) rfl hE (dm (n:=68) rfl) (dm (n:=69) rfl) (aw (n:=67) rfl) (by rw[hab];exact decide_eq_false he)) (ae (fR) ah))))))))
  (af (aE (t:=40) (aw (n:=71) rfl) (aR (c:=0)) (bM (by omega))) (af (aE (t:=40) (aw (n:=73) rfl) (aR (c:=0)) (bM (by omega))) (af (aE (t:=40) (aw (n:=71) rfl) (aR (c:=0)) (uw (by omega))) (ai)))) (by kernel_rfl) ?_
  (tb (nt:=116) (T:=23) (b0:=B) (l0:=[.ref 64,.ref 65,.ref 66]) (known:=[none,none,some (.v (.one (.ref 67))),none,some (.v (.one (.ptr 0 0))),none,none,some (.v (.one (.ref 63))),some (.v (.one (.b true)))]) hbl hg hq (fun u hu n e=>by simp at hu;rcases hu with rfl | rfl | rfl<;>cases e)
   ⟨aH (n:=64) rfl aF,aH (n:=65) rfl aF,aH (n:=66) rfl aF,trivial⟩ ⟨aH (n:=67) rfl aF,⟨B,rfl,rfl⟩,⟨_,rfl,⟨rfl,hT⟩,fun g hg hx=>hbB (qk hx▸hg)⟩,rfl,trivial⟩ (by simpa using hn))
  (fun a' w' h1 h2 h3=>hQ a' w' h1 h2 h3.to)
 ·kernel_rfl
theorem tt_tail {we w:World} {B:Nat} {ts:List Value} {Q:Exit→Act→World→Prop} {t m:Nat} {E:List Ch} (a b c u:Int) (ha:I64 a) (hb:I64 b) (hc:I64 c) (hE:Sane (trE E))
  (hT:TM w t m E) (hbB:B∉fpT t m E) (hbl:Below we.heap.size we w) (hg:we.heap.size≤B) (hq:w.heap[B]? =some (.cells #[.int .i64 a,.int .i64 b,.int .i64 c] 23 (0,0))) (h2:ts[2]? =some (.int .i64 u)) (h4:ts[4]? =some (.pointer (some ⟨B,0,none⟩))) (h7:ts[7]? =some (ptB t)) (h8:ts[8]? =some (.bool true)) (hn:ts.length=116)
  (hQ:∀a' w',a'.tmps.getD 6 undef= .bool true→a'.defers=[]→Below we.heap.size we w'→Q .ret a' w'):∀c,gn 2 Tryz.prog 3=some c→c.wp Tryz.prog Q ⟨ts.toArray,[]⟩ w:=by
 obtain⟨P1,e,hab⟩:∃P e,aS (trE E) u (frm a) (frm b)=(P,e):=⟨_,_,rfl⟩;obtain⟨P2,f,hbc⟩:∃P e,aS (trE E) u (frm b) (frm c)=(P,e):=⟨_,_,rfl⟩;obtain⟨P3,g,hba⟩:∃P e,aS (trE E) u (frm b) (frm a)=(P,e):=⟨_,_,rfl⟩;by_cases he:e=0
 ·subst he;have c1:(aS (trE E) u (frm a) (frm b)).2=0:=by rw[hab]
  obtain⟨k1,k2⟩:=rp hE c1;rw[hab]at k1;obtain⟨o1,g1⟩:=mF hE c1;have oi:=mF hE (show(aS (trE E) u (frm b) (frm a)).2=0 by rw[k1]);rw[hab]at o1 g1;rw[k1]at oi;by_cases hf:f=0
  ·subst hf;have c2:(aS (trE E) u (frm b) (frm c)).2=0:=by rw[hbc]
   have k3:=find_comp hE c2 c1;have o3:=mF hE (show(aS (trE E) u (frm a) (frm c)).2=0 by rw[k3]);obtain⟨o2,g2⟩:=mF hE c2;rw[hbc]at o2 g2;rw[k3]at o3;rw[hab,hbc]at k3 o3;exact tl_ttA a b c u P1 P2 ha hb hc hE hab hbc k1 k3 o1 g1 o2 g2 oi.1 oi.2 o3.1 o3.2 hT hbB hbl hg hq h2 h4 h7 h8 hn hQ
  ·exact tl_ttB a b c u P1 P2 f ha hb hc hE hab hbc k1 o1 g1 oi.1 oi.2 hf hT hbB hbl hg hq h2 h4 h7 h8 hn hQ
 ·have hh:g≠0:=by
   rintro rfl;have:=(rp hE (show(aS (trE E) u (frm b) (frm a)).2=0 by rw[hba])).1;rw[hab]at this;injection this with _ this;exact he this
  exact tl_ttC a b c u P1 P2 P3 e f g ha hb hc hE hab hbc hba he hh hT hbB hbl hg hq h2 h4 h7 h8 hn hQ
theorem tt_no {we w:World} {ts:List Value} {Q:Exit→Act→World→Prop} (hbl:Below we.heap.size we w) (h8:ts[8]? =some (.bool false)) (hn:ts.length=116)
  (hQ:∀a' w',a'.tmps.getD 6 undef= .bool true→a'.defers=[]→Below we.heap.size we w'→Q .ret a' w'):∀c,gn 2 Tryz.prog 3=some c→c.wp Tryz.prog Q ⟨ts.toArray,[]⟩ w:=by
 intro c hc;have hr:=cC;rw[hc]at hr;injection hr with hr;subst hr;obtain⟨y0,y1,y2,y3,y4,y5,y6,y7,y8,tl,rfl⟩:∃y0 y1 y2 y3 y4 y5 y6 y7 y8 tl,ts=y0::y1::y2::y3::y4::y5::y6::y7::y8::tl:=by
  match ts,hn with
  | y0::y1::y2::y3::y4::y5::y6::y7::y8::tl,_=>exact⟨_,_,_,_,_,_,_,_,_,_,rfl⟩
 injection h8 with h8;subst h8;refine gM (x:=6) (n:=400) (by decide) (ρ:=[])
  (ae (fR) ah)
  ai (by kernel_rfl) ?_
  (vv (nt:=116) (V:=[]) (known:=[none,none,none,none,none,none,none,none,some (.v (.one (.b false)))]) hbl List.nodup_nil (fun x h=>by cases h) ⟨rfl,trivial⟩ (by simpa using hn))
  (fun a' w' h1 h2 h3=>hQ a' w' h1 h2 h3.to)
 ·kernel_rfl
section
open Classical
set_option maxHeartbeats 4000000 in
theorem q_grown {w:World} {v0:Value} (R0:List Turn) (hs0:∀s∈R0,s.Ok) (k0:jx w v0 R0):
  Calls Tryz.prog 15 #[v0] w fun e w'=>(e= .returned (.tuple #[.pointer none,.bool false])∧Below w.heap.size w w')∨∃t m E,e= .returned (.tuple #[ptB t,.bool true])∧TInv w w' t m E:=by
 obtain⟨ad0,c0,n0,rfl,hn0,hr0⟩:∃ad c n,v0= .slice ad n c∧n=R0.length∧∀i x,R0[i]? =some x→∃b o l,ad=some ⟨b,o,none⟩∧b<w.heap.size∧x.Cs w l∧∀j u,l[j]? =some u→w.cell? ⟨b,o+(i*25+j),none⟩=some u:=by
  rcases k0 with⟨rfl,a,c,rfl⟩ | ⟨b,o,c,rfl,hne,hb,hq⟩
  ·exact⟨a,c,0,rfl,rfl,fun i x h=>by simp at h⟩
  ·exact⟨_,c,_,rfl,rfl,fun i x h=>by
    obtain⟨l,h1,h2⟩:=hq i x h;exact⟨b,o,l,rfl,hb,h1,h2⟩⟩
 have HR0:=Lib.hid hr0;have HO0:=Lib.hid hs0;have HN0:=Lib.hid hn0;clear hr0 hs0 k0 hn0;by_cases b0:20<n0
 ·have c0':decide ((20:Int)<(n0:Int))=true:=decide_eq_true (by omega);go_enter Tryz.func15,Tryz.ntmps15
  go_wp2;go_ret2
  exact .inl ⟨rfl,Below.refl _ _⟩
 have c0':decide ((20:Int)<(n0:Int))=false:=decide_eq_false (by omega);have hnew:=q_New w;have hm0:(n0:Int)≤20:=by omega
 go_enter Tryz.func15,Tryz.ntmps15
 go_wp2_with (go_at_call 31;refine hnew.mono ?_;rintro e w1 ⟨t,m,rfl,hT,h1,h2,h3⟩;have HI0:=Lib.hid (TInv.new hT h1 h2 h3);clear hnew hT h1 h2 h3)
 go_loopw [5] (fun s5 wr=>∃(k:Nat) (E:List Ch),k≤n0∧s5= .int .i64 (k:Int)∧Hid (TInv w wr t m E)) (fun s5 _=>n0 - (intOf s5).toNat)
 case atStart=>exact⟨0,_,Nat.zero_le _,rfl,HI0⟩
 case round=>
  clear HI0;obtain⟨k,E,hk,rfl,HI⟩:=hrel;rcases Nat.lt_or_ge k n0 with hlt | hge
  ·obtain⟨x,hx⟩:∃s,R0[k]? =some s:=⟨_,List.getElem?_eq_getElem (by rw[←HN0.out];exact hlt)⟩;obtain⟨b,o,l,rfl,hb,hcs,hrg⟩:=HR0.out k x hx;have HXO:=Lib.hid (HO0.out x (List.mem_of_getElem? hx));have hcs1:x.Cs wr l:=by
    obtain⟨cs,e,h1⟩:=hcs;exact⟨cs,e,h1.mono HI.out.bel⟩
   have hld:=Lib.hid (gl (w:=w) (B:=w.heap.size) (o:=o+k*25) (fun j u hj=>by rw[Nat.add_assoc];exact hrg j u hj) HI.out.bel hb);obtain⟨hth,hV⟩:=TurnV.mk' wr hcs1;have hl25:=hcs1.len;have hon:=hcs1.one;go_upto_region 7 with(fail)
   refine wp_region_list ?_;refine aj rfl (v:=.slice (some ⟨b,o,none⟩) n0 c0) (w':=wr) (by rfl) ?_;refine aj rfl (v:=.int .i64 (k:Int)) (w':=wr) (by rfl) ?_;refine aj rfl (v:=.pointer (some ⟨b,o+k*25,none⟩)) (w':=wr) (by go_simp) ?_;refine wpList_load_mid rfl _ _ rfl b (o+k*25) rfl l _ hld.out Tryz.underlying114 rfl (rq hl25) ?_;refine aj rfl (v:=.pointer (some ⟨wr.heap.size,0,none⟩)) (w':=wr.alloc (.cells ie.toArray 114)) (by go_simp;try rfl) ?_;refine wpList_store_mid rfl _ _ _ rfl wr.heap.size 0 l.toArray rfl rfl (by simpa [hl25]using hth) (rq hl25) hon ?_;rw[show l.toArray.toList=l from rfl];have HIV:=Lib.hid (HI.out.below hV.bel);generalize hW:(wr.alloc (.cells ie.toArray 114)).setCells wr.heap.size 0 l=W at *;obtain⟨B,hB⟩:∃B,wr.heap.size=B:=⟨_,rfl⟩;have HBF:=Lib.hid (show B∉fpT t m E from fun hm=>by have:=HI.out.tm.lt _ hm;omega);rw[hB]at hV⊢;have HTV:=Lib.hid hV;obtain⟨cs,rfl,hcc⟩:=hV.cs;have hbk:=hV.blk;have f0:W.cell? ⟨B,0,none⟩=some (.int .i64 x.k):=by rw[aA hbk];rfl
   have f1:W.cell? ⟨B,1,none⟩=some (.int .i64 x.a):=by rw[aA hbk];rfl
   have f2:W.cell? ⟨B,2,none⟩=some (.int .i64 x.b):=by rw[aA hbk];rfl
   have f3:W.cell? ⟨B,3,none⟩=some (.int .i64 x.t):=by rw[aA hbk];rfl
   have HCC:=Lib.hid hcc;clear hbk hV hW hB hth hon hl25 hld hcs hcs1 hrg hb hx hcc;have HT:=Lib.hid (show∀wq,Below W.heap.size W wq→TInv w wq t m E from fun wq kb=>HIV.out.below kb);have HCL:=Lib.hid (show∀wq,Below W.heap.size W wq→wq.cell? ⟨B,1,none⟩=some (.int .i64 x.a)∧wq.cell? ⟨B,2,none⟩=some (.int .i64 x.b)∧wq.cell? ⟨B,3,none⟩=some (.int .i64 x.t)from fun wq kb=>by
    have hlt:B<W.heap.size:=HTV.out.lt;exact⟨by rw[kb.cell (p:=⟨B,1,none⟩) hlt];exact f1,by rw[kb.cell (p:=⟨B,2,none⟩) hlt];exact f2,by rw[kb.cell (p:=⟨B,3,none⟩) hlt];exact f3⟩)
   have HCK:=Lib.hid (show∀wq w3 E',Below W.heap.size W wq→TPost wq t m E w3 E'→w3.cell? ⟨B,1,none⟩=some (.int .i64 x.a)∧w3.cell? ⟨B,2,none⟩=some (.int .i64 x.b)∧w3.cell? ⟨B,3,none⟩=some (.int .i64 x.t)from fun wq w3 E' kb hP=>by
    have hlt:B<wq.heap.size:=Nat.lt_of_lt_of_le HTV.out.lt kb.size;obtain⟨k1,k2,k3⟩:=HCL.out wq kb;exact⟨(hP.cell HBF.out hlt 1).trans k1,(hP.cell HBF.out hlt 2).trans k2,(hP.cell HBF.out hlt 3).trans k3⟩)
   have HBD:=Lib.hid (show Below W.heap.size W W.drew from(Below.refl _ _).drew);by_cases g2:x.k<2
   ·have q2:decide (2≤x.k)=false:=decide_eq_false (by omega);by_cases g0:x.k=0
    ·rw[g0]at f0;clear q2 g2 g0;go_upto_region 12 with(fail)
     refine wp_region_held_drew (S:=fun w'=>w'.cell? ⟨B,1,none⟩=some (.int .i64 x.a)∧w'.cell? ⟨B,2,none⟩=some (.int .i64 x.b)∧w'.cell? ⟨B,3,none⟩=some (.int .i64 x.t)) (by kernel_rfl) ⟨by simpa using f1,by simpa using f2,by simpa using f3⟩ (fun hHeld=> ?_);refine wpAnyH_take (i:=0) (v:=ptB t) rfl (by kernel_rfl) (by kernel_rfl) (by kernel_rfl) (fun _ _ _ h=>h) (Or.inl ⟨by rfl,fun w hw=>by rfl⟩) hHeld ?_;refine wpAnyH_take (i:=1) (v:=.pointer (some ⟨B,1,none⟩)) rfl (by kernel_rfl) (by kernel_rfl) (by kernel_rfl) (fun _ _ _ h=>h) (Or.inl ⟨by rfl,fun w hw=>by go_simp⟩) hHeld ?_;refine wpAnyH_take (i:=2) (v:=.int .i64 x.a) rfl (by kernel_rfl) (by kernel_rfl) (by kernel_rfl) (fun _ _ _ h=>h) (Or.inl ⟨by rfl,fun w hw=>by have:=hw.1;go_simp⟩) hHeld ?_;refine wpAnyH_take (i:=4) (v:=.pointer (some ⟨B,2,none⟩)) rfl (by kernel_rfl) (by kernel_rfl) (by kernel_rfl) (fun _ _ _ h=>h) (Or.inl ⟨by rfl,fun w hw=>by go_simp⟩) hHeld ?_;refine wpAnyH_take (i:=5) (v:=.int .i64 x.b) rfl (by kernel_rfl) (by kernel_rfl) (by kernel_rfl) (fun _ _ _ h=>h) (Or.inl ⟨by rfl,fun w hw=>by have:=hw.2.1;go_simp⟩) hHeld ?_;refine wpAnyH_take (i:=7) (v:=.pointer (some ⟨B,3,none⟩)) rfl (by kernel_rfl) (by kernel_rfl) (by kernel_rfl) (fun _ _ _ h=>h) (Or.inl ⟨by rfl,fun w hw=>by go_simp⟩) hHeld ?_;refine wpAnyH_take (i:=8) (v:=.int .i64 x.t) rfl (by kernel_rfl) (by kernel_rfl) (by kernel_rfl) (fun _ _ _ h=>h) (Or.inl ⟨by rfl,fun w hw=>by have:=hw.2.2;go_simp⟩) hHeld ?_;refine wpAnyH_ready (rs:=[3]) (by kernel_rfl) (by simp) ?_;refine AllReadyH.cons rfl (fun K hK=> ?_) AllReadyH.nil;go_simp;go_at_call 17
     refine(jw x.a HXO.out.a).mono ?_;rintro e w1 ⟨rfl,hb1⟩;have HB1:=Lib.hid (HBD.out.trans (hb1.mono HBD.out.size));refine hK.out _ _ (HCL.out _ HB1.out) (fun hHeld1=> ?_);clear hK K hb1;refine wpAnyH_ready (rs:=[6]) (by kernel_rfl) (by simp) ?_;refine AllReadyH.cons rfl (fun K hK=> ?_) AllReadyH.nil;go_simp;go_at_call 17
     refine(jw x.b HXO.out.b).mono ?_;rintro e w2 ⟨rfl,hb2⟩;have HB2:=Lib.hid (HB1.out.trans (hb2.mono HB1.out.size));refine hK.out _ _ (HCL.out _ HB2.out) (fun hHeld2=> ?_);clear hK K hb2;have hatt:=uP (c:=frm x.a) (p:=frm x.b) (f:=x.t) (HT.out _ HB2.out).tm (HT.out _ HB2.out).sane.ok (.inl (frm_nm _)) (.inl (frm_nm _));refine wpAnyH_ready (rs:=[9]) (by kernel_rfl) (by simp) ?_;refine AllReadyH.cons rfl (fun K hK=> ?_) AllReadyH.nil;go_simp;go_at_call 67
     refine hatt.mono ?_;rintro e w3 ⟨E',R',code,rfl,hP,hR,hD⟩;have HI2:=Lib.hid ((HT.out _ HB2.out).att hP hR hD);refine hK.out _ _ (HCK.out _ _ _ HB2.out hP) (fun hHeld3=> ?_);clear hK K hatt hP hR hD;refine wpAnyH_done (by kernel_rfl) ?_ _;go_wp2;go_roundw
     case rel=>exact⟨k+1,E',by omega,by go_num,HI2⟩
     case measure=>simp[intOf];omega
    ·by_cases g1:x.k=1
     ·rw[g1]at f0;clear q2 g2 g0 g1;go_upto_region 14 with(fail)
      refine wp_region_held_drew (S:=fun w'=>w'.cell? ⟨B,1,none⟩=some (.int .i64 x.a)∧w'.cell? ⟨B,2,none⟩=some (.int .i64 x.b)∧w'.cell? ⟨B,3,none⟩=some (.int .i64 x.t)) (by kernel_rfl) ⟨by simpa using f1,by simpa using f2,by simpa using f3⟩ (fun hHeld=> ?_);refine wpAnyH_take (i:=0) (v:=ptB t) rfl (by kernel_rfl) (by kernel_rfl) (by kernel_rfl) (fun _ _ _ h=>h) (Or.inl ⟨by rfl,fun w hw=>by rfl⟩) hHeld ?_;refine wpAnyH_take (i:=1) (v:=.pointer (some ⟨B,1,none⟩)) rfl (by kernel_rfl) (by kernel_rfl) (by kernel_rfl) (fun _ _ _ h=>h) (Or.inl ⟨by rfl,fun w hw=>by go_simp⟩) hHeld ?_;refine wpAnyH_take (i:=2) (v:=.int .i64 x.a) rfl (by kernel_rfl) (by kernel_rfl) (by kernel_rfl) (fun _ _ _ h=>h) (Or.inl ⟨by rfl,fun w hw=>by have:=hw.1;go_simp⟩) hHeld ?_;refine wpAnyH_take (i:=4) (v:=.pointer (some ⟨B,3,none⟩)) rfl (by kernel_rfl) (by kernel_rfl) (by kernel_rfl) (fun _ _ _ h=>h) (Or.inl ⟨by rfl,fun w hw=>by go_simp⟩) hHeld ?_;refine wpAnyH_take (i:=5) (v:=.int .i64 x.t) rfl (by kernel_rfl) (by kernel_rfl) (by kernel_rfl) (fun _ _ _ h=>h) (Or.inl ⟨by rfl,fun w hw=>by have:=hw.2.2;go_simp⟩) hHeld ?_;refine wpAnyH_ready (rs:=[3]) (by kernel_rfl) (by simp) ?_;refine AllReadyH.cons rfl (fun K hK=> ?_) AllReadyH.nil;go_simp;go_at_call 17
      refine(jw x.a HXO.out.a).mono ?_;rintro e w1 ⟨rfl,hb1⟩;have HB1:=Lib.hid (HBD.out.trans (hb1.mono HBD.out.size));refine hK.out _ _ (HCL.out _ HB1.out) (fun hHeld1=> ?_);clear hK K hb1;have hdet:=q_Detach (HT.out _ HB1.out).tm (HT.out _ HB1.out).sane.ok (frm x.a) x.t;refine wpAnyH_ready (rs:=[6]) (by kernel_rfl) (by simp) ?_;refine AllReadyH.cons rfl (fun K hK=> ?_) AllReadyH.nil;go_simp;go_at_call 68
      refine hdet.mono ?_;rintro e w3 ⟨E',code,rfl,hP,hD⟩;have HI2:=Lib.hid ((HT.out _ HB1.out).next (s:=⟨1,frm x.a,frm x.a,x.t,Pq.id⟩) hP (REq.refl _) (by unfold DoS;exact hD) Pq.ok.id);refine hK.out _ _ (HCK.out _ _ _ HB1.out hP) (fun hHeld3=> ?_);clear hK K hdet hP hD;refine wpAnyH_done (by kernel_rfl) ?_ _;go_wp2;go_roundw
      case rel=>exact⟨k+1,E',by omega,by go_num,HI2⟩
      case measure=>simp[intOf];omega
     ·have r0:(x.k==0)=false:=beq_eq_false_iff_ne.2 g0;have r1:(x.k==1)=false:=beq_eq_false_iff_ne.2 g1;have r2:(x.k==2)=false:=beq_eq_false_iff_ne.2 (by omega);have r3:(x.k==3)=false:=beq_eq_false_iff_ne.2 (by omega);clear g2 g0 g1;go_wp2;go_roundw
      case rel=>exact⟨k+1,E,by omega,by go_num,Lib.hid (HT.out _ (Below.refl _ _))⟩
      case measure=>simp[intOf];omega
   ·have q2:decide (2≤x.k)=true:=decide_eq_true (by omega);have htiny:=q_tiny (w:=W) (v:=.agg cs.toArray) (r0:=x.r0) (r1:=x.r1) (r2:=x.r2) (r3:=x.r3) (r4:=x.r4) (r5:=x.r5) (r6:=x.r6) ⟨_,rfl,HCC.out⟩;have HRW:=Lib.hid (show W.rangeAt B 4 cs from fun j u hj=>by rw[aA HTV.out.blk];simp only[List.getElem?_toArray,Nat.add_comm 4 j,List.getElem?_cons_succ];exact hj);have HDL:=Lib.hid (ce HCC.out);have HSZ:=Lib.hid (show(Tryz.prog.info? 39).map (·.size)=some cs.length by rw[HDL.out];kernel_rfl);go_upto_region 8 with(fail)
    refine wp_region_list ?_;refine aj rfl (v:=.pointer (some ⟨B,0,none⟩)) (w':=W) (by go_simp) ?_;refine aj rfl (v:=.int .i64 x.k) (w':=W) (by go_simp) ?_;refine aj rfl (v:=.bool true) (w':=W) (by go_simp) ?_;refine wpList_plain rfl (fun K hK=> ?_);go_simp;refine hK _ _ ?_;clear hK K;refine cB ?_ (fun K hK=> ?_)
    ·rfl
    go_simp;refine hK _ _ ?_;clear hK K;refine cB ?_ (fun K hK=> ?_)
    ·rfl
    refine wp_load_mid _ _ rfl B 4 rfl cs _ HRW.out Tryz.underlying39 rfl HSZ.out ?_;refine hK _ _ ?_;clear hK K;refine cB ?_ (fun K hK=> ?_)
    ·rfl
    go_simp;go_at_call 66
    refine htiny.mono ?_;rintro e w1 ⟨⟨bt,rfl,hbt⟩,hb1⟩;have HBT:=Lib.hid hbt;have HB9:=Lib.hid hb1;refine hK _ _ ?_;clear hK K;clear htiny hbt hb1;cases bt
    ·go_wp2;go_ret2
     exact .inl ⟨rfl,HIV.out.bel.trans (HB9.out.mono HIV.out.bel.size)⟩
    ·obtain⟨p,gp,hp2,ers⟩:=tiny_pose (x:=x) (HBT.out rfl).1 (HBT.out rfl).2;have HPK:=Lib.hid hp2;have hoq:bz W (.agg cs.toArray) p:=turn_isOq ers ⟨_,rfl,HCC.out⟩;have HOQ:=Lib.hid (show∀wq,Below W.heap.size W wq→bz wq (.agg cs.toArray) p from fun wq kb=>IsL.mono hoq kb);have HRG:=Lib.hid (show∀wq,Below W.heap.size W wq→wq.rangeAt B 4 cs from fun wq kb=>gl HRW.out kb HTV.out.lt);have HRK:=Lib.hid (show∀wq w3 E',Below W.heap.size W wq→TPost wq t m E w3 E'→w3.rangeAt B 4 cs from fun wq w3 E' kb hP j u hj=>(hP.cell HBF.out (Nat.lt_of_lt_of_le HTV.out.lt kb.size) (4+j)).trans (HRG.out wq kb j u hj));have f0':w1.cell? ⟨B,0,none⟩=some (.int .i64 x.k):=by rw[HB9.out.cell (p:=⟨B,0,none⟩) HTV.out.lt];exact f0
     have HF1:=Lib.hid (HCL.out w1 HB9.out);have HBD2:=Lib.hid (HB9.out.trans ((Below.refl w1.heap.size w1).drew.mono HB9.out.size));clear f0 f1 f2 f3 HBD gp hp2 ers hoq;obtain⟨f1,f2,f3⟩:=HF1.out;have HBD:=HBD2;clear HBD2 HF1;by_cases g3:x.k=2
     ·rw[g3]at f0';clear q2 g2 g3;go_upto_region 16 with(fail)
      refine wp_region_held_drew (S:=fun w'=>(w'.cell? ⟨B,1,none⟩=some (.int .i64 x.a)∧w'.cell? ⟨B,2,none⟩=some (.int .i64 x.b)∧w'.cell? ⟨B,3,none⟩=some (.int .i64 x.t))∧w'.rangeAt B 4 cs) (by kernel_rfl) ⟨⟨by simpa using f1,by simpa using f2,by simpa using f3⟩,by simpa using HRG.out w1 HB9.out⟩ (fun hHeld=> ?_);refine wpAnyH_take (i:=0) (v:=ptB t) rfl (by kernel_rfl) (by kernel_rfl) (by kernel_rfl) (fun _ _ _ h=>h) (Or.inl ⟨by rfl,fun w hw=>by rfl⟩) hHeld ?_;refine wpAnyH_take (i:=1) (v:=.pointer (some ⟨B,1,none⟩)) rfl (by kernel_rfl) (by kernel_rfl) (by kernel_rfl) (fun _ _ _ h=>h) (Or.inl ⟨by rfl,fun w hw=>by go_simp⟩) hHeld ?_;refine wpAnyH_take (i:=2) (v:=.int .i64 x.a) rfl (by kernel_rfl) (by kernel_rfl) (by kernel_rfl) (fun _ _ _ h=>h) (Or.inl ⟨by rfl,fun w hw=>by have:=hw.1.1;go_simp⟩) hHeld ?_;refine wpAnyH_take (i:=4) (v:=.pointer (some ⟨B,3,none⟩)) rfl (by kernel_rfl) (by kernel_rfl) (by kernel_rfl) (fun _ _ _ h=>h) (Or.inl ⟨by rfl,fun w hw=>by go_simp⟩) hHeld ?_;refine wpAnyH_take (i:=5) (v:=.int .i64 x.t) rfl (by kernel_rfl) (by kernel_rfl) (by kernel_rfl) (fun _ _ _ h=>h) (Or.inl ⟨by rfl,fun w hw=>by have:=hw.1.2.2;go_simp⟩) hHeld ?_;refine wpAnyH_take (i:=6) (v:=.pointer (some ⟨B,4,none⟩)) rfl (by kernel_rfl) (by kernel_rfl) (by kernel_rfl) (fun _ _ _ h=>h) (Or.inl ⟨by rfl,fun w hw=>by go_simp⟩) hHeld ?_;refine wpAnyH_take (i:=7) (v:=.agg cs.toArray) rfl (by kernel_rfl) (by kernel_rfl) (by kernel_rfl) (fun _ _ _ h=>h) (yieldsIf_load_mid (by rfl) _ _ rfl B 4 rfl cs _ (fun w hw=>hw.2) Tryz.underlying39 rfl HSZ.out) hHeld ?_;obtain⟨d0,d1,d2,d3,d4,d5,d6,d7,d8,d9,d10,d11,d12,d13,d14,d15,d16,d17,d18,d19,d20,rfl⟩:=xx HDL.out;refine wpAnyH_take (i:=8) (v:=stV x.t [d0,d1,d2,d3,d4,d5,d6,d7,d8,d9,d10,d11,d12,d13,d14,d15,d16,d17,d18,d19,d20]) rfl (by kernel_rfl) (by kernel_rfl) (by kernel_rfl) (fun _ _ _ h=>h) (Or.inl ⟨by rfl,fun w hw=>by go_simp;try rfl⟩) hHeld ?_;refine wpAnyH_ready (rs:=[3]) (by kernel_rfl) (by simp) ?_;refine AllReadyH.cons rfl (fun K hK=> ?_) AllReadyH.nil;go_simp;go_at_call 17
      refine(jw x.a HXO.out.a).mono ?_;rintro e w2 ⟨rfl,hb2⟩;have HB2:=Lib.hid (HBD.out.trans (hb2.mono HBD.out.size));refine hK.out _ _ (⟨HCL.out _ HB2.out,HRG.out _ HB2.out⟩) (fun hHeld2=> ?_);clear hK K hb2;have hset:=xy (c:=frm x.a) (a:=x.t) (p:=p) (cs:=[d0,d1,d2,d3,d4,d5,d6,d7,d8,d9,d10,d11,d12,d13,d14,d15,d16,d17,d18,d19,d20]) (HT.out _ HB2.out).tm (HT.out _ HB2.out).sane.ok (HOQ.out _ HB2.out) HPK.out;refine wpAnyH_ready (rs:=[9]) (by kernel_rfl) (by simp) ?_;refine AllReadyH.cons rfl (fun K hK=> ?_) AllReadyH.nil;go_simp;go_at_call 69
      refine hset.mono ?_;rintro e w3 ⟨E',R',code,rfl,hP,hR,hD⟩;have HI2:=Lib.hid ((HT.out _ HB2.out).next (s:=⟨2,frm x.a,frm x.a,x.t,p⟩) hP hR (by unfold DoS;exact hD) HPK.out);refine hK.out _ _ ⟨HCK.out _ _ _ HB2.out hP,HRK.out _ _ _ HB2.out hP⟩ (fun hHeld3=> ?_);clear hK K hset hP hR hD;refine wpAnyH_done (by kernel_rfl) ?_ _;go_wp2;go_roundw
      case rel=>exact⟨k+1,E',by omega,by go_num,HI2⟩
      case measure=>simp[intOf];omega
     ·by_cases g4:x.k=3
      ·rw[g4]at f0';clear q2 g2 g3 g4;go_upto_region 18 with(fail)
       refine wp_region_held_drew (S:=fun w'=>(w'.cell? ⟨B,1,none⟩=some (.int .i64 x.a)∧w'.cell? ⟨B,2,none⟩=some (.int .i64 x.b)∧w'.cell? ⟨B,3,none⟩=some (.int .i64 x.t))∧w'.rangeAt B 4 cs) (by kernel_rfl) ⟨⟨by simpa using f1,by simpa using f2,by simpa using f3⟩,by simpa using HRG.out w1 HB9.out⟩ (fun hHeld=> ?_);refine wpAnyH_take (i:=0) (v:=ptB t) rfl (by kernel_rfl) (by kernel_rfl) (by kernel_rfl) (fun _ _ _ h=>h) (Or.inl ⟨by rfl,fun w hw=>by rfl⟩) hHeld ?_;refine wpAnyH_take (i:=1) (v:=.pointer (some ⟨B,1,none⟩)) rfl (by kernel_rfl) (by kernel_rfl) (by kernel_rfl) (fun _ _ _ h=>h) (Or.inl ⟨by rfl,fun w hw=>by go_simp⟩) hHeld ?_;refine wpAnyH_take (i:=2) (v:=.int .i64 x.a) rfl (by kernel_rfl) (by kernel_rfl) (by kernel_rfl) (fun _ _ _ h=>h) (Or.inl ⟨by rfl,fun w hw=>by have:=hw.1.1;go_simp⟩) hHeld ?_;refine wpAnyH_take (i:=4) (v:=.pointer (some ⟨B,4,none⟩)) rfl (by kernel_rfl) (by kernel_rfl) (by kernel_rfl) (fun _ _ _ h=>h) (Or.inl ⟨by rfl,fun w hw=>by go_simp⟩) hHeld ?_;refine wpAnyH_take (i:=5) (v:=.agg cs.toArray) rfl (by kernel_rfl) (by kernel_rfl) (by kernel_rfl) (fun _ _ _ h=>h) (yieldsIf_load_mid (by rfl) _ _ rfl B 4 rfl cs _ (fun w hw=>hw.2) Tryz.underlying39 rfl HSZ.out) hHeld ?_;refine wpAnyH_ready (rs:=[3]) (by kernel_rfl) (by simp) ?_;refine AllReadyH.cons rfl (fun K hK=> ?_) AllReadyH.nil;go_simp;go_at_call 17
       refine(jw x.a HXO.out.a).mono ?_;rintro e w2 ⟨rfl,hb2⟩;have HB2:=Lib.hid (HBD.out.trans (hb2.mono HBD.out.size));refine hK.out _ _ (⟨HCL.out _ HB2.out,HRG.out _ HB2.out⟩) (fun hHeld2=> ?_);clear hK K hb2;have hfix:=q_FixP (c:=frm x.a) (p:=p) (cs:=cs) (HT.out _ HB2.out).tm (HT.out _ HB2.out).sane.ok (HOQ.out _ HB2.out) HPK.out;refine wpAnyH_ready (rs:=[6]) (by kernel_rfl) (by simp) ?_;refine AllReadyH.cons rfl (fun K hK=> ?_) AllReadyH.nil;go_simp;go_at_call 70
       refine hfix.mono ?_;rintro e w3 ⟨E',R',code,rfl,hP,hR,hD⟩;have HI2:=Lib.hid ((HT.out _ HB2.out).next (s:=⟨3,frm x.a,frm x.a,x.t,p⟩) hP hR (by unfold DoS;exact hD) HPK.out);refine hK.out _ _ ⟨HCK.out _ _ _ HB2.out hP,HRK.out _ _ _ HB2.out hP⟩ (fun hHeld3=> ?_);clear hK K hfix hP hR hD;refine wpAnyH_done (by kernel_rfl) ?_ _;go_wp2;go_roundw
       case rel=>exact⟨k+1,E',by omega,by go_num,HI2⟩
       case measure=>simp[intOf];omega
      ·have r0:(x.k==0)=false:=beq_eq_false_iff_ne.2 (by omega);have r1:(x.k==1)=false:=beq_eq_false_iff_ne.2 (by omega);have r2:(x.k==2)=false:=beq_eq_false_iff_ne.2 g3;have r3:(x.k==3)=false:=beq_eq_false_iff_ne.2 g4;clear g2 g3 g4 q2;go_wp2;go_roundw
       case rel=>exact⟨k+1,E,by omega,by go_num,Lib.hid (HT.out _ HB9.out)⟩
       case measure=>simp[intOf];omega
  ·obtain rfl:k=n0:=by omega
   go_wp2;go_ret2
   exact .inr ⟨t,m,E,rfl,HI.out⟩
end
section
open Go.ChangeShapes Go.WideShapes Go.ChangeAt Go.RowKit
abbrev I16 (n:Int):Prop:= -32768≤n∧n<32768
section
variable {H:Type} {enc:TypeId×Value→H} {W:World}
theorem ints_arr {t e:TypeId} {k:IntKind} {n:Nat} (ht:Tryz.prog.underlying t=some (.array n e)) (he:Tryz.prog.underlying e=some (.int k)) (hce:Tryz.prog.cellsOf e=1) (hct:Tryz.prog.cellsOf t=n) {fuel:Nat} {cs:List Value} {x:DataW H×List MemPlace}
  (h:DataW.trod enc Tryz.prog W 0 (fun _=>true) true fuel t cs=some x):cs.length=n∧∀u∈cs,∃z:Int,u= .int k z∧(Lit.int k z).wf=true:=by
 obtain⟨xs,m,_,_,hlen,hxs,hg⟩:=DataW.trod_array ht h;rw[hct]at hlen;rw[hce]at hg;refine⟨hlen,fun u hu=> ?_⟩;obtain⟨i,hi,rfl⟩:=List.getElem_of_mem hu;have h1:=hg i (by omega);rw[List.getElem?_eq_getElem (by omega),Nat.mul_one]at h1;have h2:(cs.drop i).take 1=[cs[i]]:=by rw[List.drop_eq_getElem_cons hi];rfl
 rw[h2]at h1;obtain⟨z,g,f⟩:=DataW.trod_int he h1;exact⟨z,by simpa using g,f.2⟩
theorem open_int3 {v:Value} {d:DataW H} {p:List MemPlace} {base:Nat} (hval:Value.okWide Tryz.prog W .any base 23 v) (h:DataW.Trod enc Tryz.prog W 0 (fun _=>true) true 23 v d p):∃a b c:Int,(I64 a∧I64 b∧I64 c)∧v= .agg #[.int .i64 a,.int .i64 b,.int .i64 c]:=by
 unfold Value.okWide at hval;rw[Tryz.underlying23]at hval;obtain⟨cs,rfl,_,_⟩:=hval;obtain⟨fuel,hf⟩:=h;obtain⟨hl,hq⟩:=ints_arr Tryz.underlying23 Tryz.underlying3 (by kernel_rfl) (by kernel_rfl) (show _=some _ by simpa [Value.cells]using hf);obtain⟨l⟩:=cs
 match l,hl with
 | [u0,u1,u2],_=>
  obtain⟨a,rfl,ha⟩:=hq u0 (by simp);obtain⟨b,rfl,hb⟩:=hq u1 (by simp);obtain⟨c,rfl,hc⟩:=hq u2 (by simp);exact⟨a,b,c,⟨kV ha,kV hb,kV hc⟩,rfl⟩
structure Pts where
 a:Int
 b:Int
 t:Int
 u0:Int
 u1:Int
 u2:Int
 v0:Int
 v1:Int
 v2:Int
def Pts.cs (s:Pts):List Value:=[.int .i64 s.a,.int .i64 s.b,.int .i64 s.t,.int .i16 s.u0,.int .i16 s.u1,.int .i16 s.u2,.int .i16 s.v0,.int .i16 s.v1,.int .i16 s.v2]
structure Pts.Ok (s:Pts):Prop where
 a:I64 s.a
 b:I64 s.b
 t:I64 s.t
 u0:I16 s.u0
 u1:I16 s.u1
 u2:I16 s.u2
 v0:I16 s.v0
 v1:I16 s.v1
 v2:I16 s.v2
end
end
section
open Classical
set_option maxHeartbeats 4000000 in
theorem q_TT {w:World} {v0:Value} (R0:List Turn) (a b c u:Int) (hs0:∀s∈R0,s.Ok) (ha:I64 a) (hb:I64 b) (hc:I64 c) (k0:jx w v0 R0):
  Calls Tryz.prog 3 #[v0,.agg #[.int .i64 a,.int .i64 b,.int .i64 c],.int .i64 u] w fun e w'=>e= .returned (.bool true)∧Below w.heap.size w w':=by
 obtain⟨w1,hw1⟩:∃w1,w.alloc (.cells #[.int .i64 a,.int .i64 b,.int .i64 c] 23)=w1:=⟨_,rfl⟩;have hb1:Below w.heap.size w w1:=by rw[←hw1];exact(Below.refl _ _).alloc (Nat.le_refl _) _
 have hs1:w1.heap.size=w.heap.size+1:=by rw[←hw1];exact asz _ _
 have hnw:w1.heap[w.heap.size]? =some (.cells #[.int .i64 a,.int .i64 b,.int .i64 c] 23 (0,0)):=by rw[←hw1];exact heap_alloc_new w _
 have hgr:=q_grown R0 hs0 (k0.below hb1);have HB1:=Lib.hid hb1;have HS1:=Lib.hid hs1;have HNW:=Lib.hid hnw;obtain⟨B,hB⟩:∃B,w.heap.size=B:=⟨_,rfl⟩;have HBE:=Lib.hid hB;clear hs0 k0 hb1 hs1 hnw;go_enter Tryz.func3,Tryz.ntmps3
 go_upto_region 1 with(fail)
 rename_i K2 hrest;have HREST:=Lib.hid hrest;clear hrest;refine wp_region_list ?_;refine aj rfl (v:=v0) (w':=w1) (by rfl) ?_;refine wpList_plain rfl (fun K hK=> ?_);go_simp;go_at_call 15
 refine hgr.mono ?_;rintro e w2 (⟨rfl,hb2⟩ | ⟨t,m,E,rfl,hI⟩)
 ·refine hK _ _ ?_;have HB2:=Lib.hid (HB1.out.trans (hb2.mono HB1.out.size));clear hK K hgr hb2;go_wp2;refine HREST.out _ _ (tt_no (we:=w) HB2.out rfl rfl (fun a' w' h1 h2 h3=> ?_) _ (by kernel_rfl));refine bodyPost_ret (results_tmp rfl _ _ _) h2 ?_;exact⟨by rw[←h1],h3⟩
 ·refine hK _ _ ?_;have HI:=Lib.hid hI;clear hK K hgr hI;go_wp2;refine HREST.out _ _ (tt_tail (we:=w) (B:=B) a b c u ha hb hc HI.out.sane HI.out.tm (fun hm=> ?_) (HB1.out.trans (HI.out.bel.mono HB1.out.size)) (Nat.le_of_eq HBE.out) ?_ rfl rfl rfl rfl rfl (fun a' w' h1 h2 h3=> ?_) _ (by kernel_rfl))
  ·have:=HI.out.own _ hm;have:=HS1.out;have:=HBE.out;omega
  ·rw[HI.out.bel.block B (by rw[HS1.out,HBE.out];omega),←HBE.out];exact HNW.out
  ·refine bodyPost_ret (results_tmp rfl _ _ _) h2 ?_;exact⟨by rw[←h1],h3⟩
end
end Go.Proofs.YtggfmklppkioeaaGreat
