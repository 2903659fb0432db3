/- TopRigid: the walk. -/
import Derived.Test.YtggfmklppkioeaaGreatP20
namespace Go.Proofs.YtggfmklppkioeaaGreat
set_option linter.unusedSimpArgs false
set_option linter.unusedVariables false
set_option maxRecDepth 100000
open Go.RowKit
section
open Classical
theorem fN.flat {w:World} {v:Value} {R:List Turn} (h:fN w v R):dU v:=by
 rcases h with⟨rfl,a,c,rfl⟩ | ⟨b,o,c,rfl,_⟩
 ·exact⟨fun _ h=>by(cases h),fun _ h=>by(cases h),fun _ h=>by(cases h)⟩
 ·exact⟨fun _ h=>by(cases h),fun _ h=>by(cases h),fun _ h=>by(cases h)⟩
set_option maxHeartbeats 4000000 in
theorem q_TR {w:World} {v0:Value} (R0:List Turn) (q:Pts) (hs0:∀s∈R0,s.Ok) (hq:q.Ok) (k0:fN w v0 R0):
  Calls Tryz.prog 4 #[v0,.agg q.cs.toArray] w fun e w'=>e= .returned (.bool true)∧Below w.heap.size w w':=by
 obtain⟨a,b,t,u0,u1,u2,x0,x1,x2⟩:=q;have ha:=hq.a;have hb:=hq.b;simp only at ha hb;unfold Pts.cs;obtain⟨w1,hw1⟩:∃w1,w.alloc (.cells #[.int .i64 a,.int .i64 b,.int .i64 t,.int .i16 u0,.int .i16 u1,.int .i16 u2,.int .i16 x0,.int .i16 x1,.int .i16 x2] 52)=w1:=⟨_,rfl⟩;have hb1:Below w.heap.size w w1:=by rw[←hw1];exact(Below.refl _ _).alloc (Nat.le_refl _) _
 have hs1:w1.heap.size=w.heap.size+1:=by rw[←hw1];exact asz _ _
 have hnw:w1.heap[w.heap.size]? =some (.cells #[.int .i64 a,.int .i64 b,.int .i64 t,.int .i16 u0,.int .i16 u1,.int .i16 u2,.int .i16 x0,.int .i16 x1,.int .i16 x2] 52 (0,0)):=by rw[←hw1];exact heap_alloc_new w _
 have f0:w1.cell? ⟨w.heap.size,0,none⟩=some (.int .i64 a):=by rw[aA hnw];rfl
 have f1:w1.cell? ⟨w.heap.size,1,none⟩=some (.int .i64 b):=by rw[aA hnw];rfl
 have f2:w1.cell? ⟨w.heap.size,2,none⟩=some (.int .i64 t):=by rw[aA hnw];rfl
 have f3:w1.cell? ⟨w.heap.size,3,none⟩=some (.int .i16 u0):=by rw[aA hnw];rfl
 have f4:w1.cell? ⟨w.heap.size,4,none⟩=some (.int .i16 u1):=by rw[aA hnw];rfl
 have f5:w1.cell? ⟨w.heap.size,5,none⟩=some (.int .i16 u2):=by rw[aA hnw];rfl
 have f6:w1.cell? ⟨w.heap.size,6,none⟩=some (.int .i16 x0):=by rw[aA hnw];rfl
 have f7:w1.cell? ⟨w.heap.size,7,none⟩=some (.int .i16 x1):=by rw[aA hnw];rfl
 have f8:w1.cell? ⟨w.heap.size,8,none⟩=some (.int .i16 x2):=by rw[aA hnw];rfl
 obtain⟨B,hB⟩:∃B,w.heap.size=B:=⟨_,rfl⟩;rw[hB]at f0 f1 f2 f3 f4 f5 f6 f7 f8;have HB1:=Lib.hid hb1;have HNW:=Lib.hid hnw;have HBE:=Lib.hid hB;have HS0:=Lib.hid hs0;have HK0:=Lib.hid k0;have HFL:=Lib.hid (show dU v0 from k0.flat);clear hb1 hnw hs0 k0 hq hs1;go_enter Tryz.func4,Tryz.ntmps4
 go_upto_region 1 with(fail)
 rename_i K2 hrest;have HREST:=Lib.hid hrest;clear hrest f0 f1 f2 f3 f4 f5 f6 f7 f8;refine reg_vars (ρ:=([.val (.int .i64 a),.val (.int .i64 b),.val (.int .i64 t),.val (.int .i16 u0),.val (.int .i16 u1),.val (.int .i16 u2),.val (.int .i16 x0),.val (.int .i16 x1),.val (.int .i16 x2),.val v0]:List Vp)) (w0:=Ent.of w) (nt:=131) (C:=[]) (L:=[]) ah ai (by kernel_rfl)
  [(0,.v (.one (.ref 9))),(5,.v (.one (.ptr 1 0))),(6,.v (.one (.ref 2))),(7,.v (.one (.ptr 2 0))),(8,.v (.one (.ptr 3 0)))]
  [(1,48,[.ref 0,.ref 1]),(2,50,[.ref 3,.ref 4,.ref 5]),(3,50,[.ref 6,.ref 7,.ref 8])]
  ?_ ?_ ?_
  (i5 (nt:=131) (V:=[(52,B,[.int .i64 a,.int .i64 b,.int .i64 t,.int .i16 u0,.int .i16 u1,.int .i16 u2,.int .i16 x0,.int .i16 x1,.int .i16 x2],[.ref 0,.ref 1,.ref 2,.ref 3,.ref 4,.ref 5,.ref 6,.ref 7,.ref 8])]) (known:=[some (.v (.one (.ref 9))),none,none,some (.v (.one (.ptr 0 0)))]) HB1.out (by simp) (fun x hx=>by
   simp only[List.mem_cons,List.not_mem_nil,or_false]at hx;subst hx;refine⟨Nat.le_of_eq HBE.out,by rw[←HBE.out];exact HNW.out,fun u hu n e=> ?_,aB (n:=0) rfl (aY (by decide)),aB (n:=1) rfl (aY (by decide)),aB (n:=2) rfl (aY (by decide)),aB (n:=3) rfl (aY (by decide)),aB (n:=4) rfl (aY (by decide)),aB (n:=5) rfl (aY (by decide)),aB (n:=6) rfl (aY (by decide)),aB (n:=7) rfl (aY (by decide)),aB (n:=8) rfl (aY (by decide)),trivial⟩;simp at hu;rcases hu with rfl | rfl | rfl | rfl | rfl | rfl | rfl | rfl | rfl<;>cases e) ⟨aB (n:=9) rfl HFL.out,⟨B,rfl,rfl⟩,trivial⟩ (by rfl)) ?_
 ·kernel_rfl
 ·intro x hx;simp only[List.mem_cons,List.not_mem_nil,or_false]at hx;rcases hx with rfl | rfl | rfl | rfl | rfl<;>kernel_rfl
 ·intro y hy;simp only[List.mem_cons,List.not_mem_nil,or_false]at hy;rcases hy with rfl | rfl | rfl<;>exact⟨by kernel_rfl,by decide,by decide⟩
 intro a' w' Bk inj may hK hV hd hsz hkp;have q0:=vw (u:=v0) (i:=0) (n:=9) (by decide) (hK (0,.v (.one (.ref 9))) (by simp)) rfl;obtain⟨g5,p5,q5⟩:=pO (i:=5) (j:=1) (o:=0) (by decide) (hK (5,.v (.one (.ptr 1 0))) (by simp));have q6:=vw (u:=.int .i64 t) (i:=6) (n:=2) (by decide) (hK (6,.v (.one (.ref 2))) (by simp)) rfl;obtain⟨g7,p7,q7⟩:=pO (i:=7) (j:=2) (o:=0) (by decide) (hK (7,.v (.one (.ptr 2 0))) (by simp));obtain⟨g8,p8,q8⟩:=pO (i:=8) (j:=3) (o:=0) (by decide) (hK (8,.v (.one (.ptr 3 0))) (by simp));obtain⟨h5,c5,e5,k5,l5,_⟩:=hV (1,48,[.ref 0,.ref 1]) (by simp);obtain⟨h7,c7,e7,k7,l7,_⟩:=hV (2,50,[.ref 3,.ref 4,.ref 5]) (by simp);obtain⟨h8,c8,e8,k8,l8,_⟩:=hV (3,50,[.ref 6,.ref 7,.ref 8]) (by simp);simp only at e5 e7 e8 k5 k7 k8 l5 l7 l8;rw[p5]at e5;injection e5 with e5;subst e5;rw[p7]at e7;injection e7 with e7;subst e7;rw[p8]at e8;injection e8 with e8;subst e8;obtain rfl:=leaves2 l5 rfl rfl;obtain rfl:=yR l7 rfl rfl rfl;obtain rfl:=yR l8 rfl rfl rfl;have hbw:=hkp.to;have hgr:=q_grown R0 HS0.out (HK0.out.below hbw);refine HREST.out _ _ ?_;refine wp_seq_k (fun K3 hK3=> ?_);have ev0:=ev_of q0;refine wp_region_list ?_;refine aj rfl (v:=v0) (w':=w') (by simp[execOp,ev0]) ?_;have ev30:(a'.put (some 30) v0).eval (.tmp 30)=v0:=ev_of (pt_eq (by omega));refine wpList_plain rfl (fun K hK=> ?_);go_simp;go_at_call 15
 refine hgr.mono ?_;rintro e w2 (⟨rfl,hb2⟩ | ⟨tb,tm,E,rfl,hI⟩)
 ·refine hK _ _ ?_;clear hK K;refine aj rfl (v:=.tuple #[.pointer none,.bool false]) (w':=w2) (by simp[execOp,Act.eval,Act.put,Array.getElem?_setIfInBounds,hsz]) ?_;refine aj rfl (v:=.pointer none) (w':=w2) (by simp[execOp,Act.eval,Act.put,Array.getElem?_setIfInBounds,hsz];rfl) ?_;refine aj rfl (v:=.bool false) (w':=w2) (by simp[execOp,Act.eval,Act.put,Array.getElem?_setIfInBounds,hsz];rfl) ?_;refine aj rfl (v:=.pointer none) (w':=w2) (by simp[execOp,Act.eval,Act.put,Array.getElem?_setIfInBounds,hsz]) ?_;refine aj rfl (v:=.bool false) (w':=w2) (by simp[execOp,Act.eval,Act.put,Array.getElem?_setIfInBounds,hsz]) ?_;show K3 _ _;refine hK3 _ _ ?_;simp only[Act.put];generalize hX:Array.setIfInBounds _ 10 _=X;obtain⟨ts,rfl⟩:∃ts:List Value,X=ts.toArray:=⟨X.toList,by simp⟩;have hl:ts.length=131:=by have:=congrArg Array.size hX;simpa [hsz]using this.symm
  have z10:ts[10]? =some (.bool false):=by rw[←List.getElem?_toArray,←hX];simp[Array.getElem?_setIfInBounds,hsz]
  refine tr_no (we:=w) (hbw.trans (hb2.mono hbw.size)) z10 hl (fun a'' w'' h1 h2 h3=> ?_) _ (by kernel_rfl);refine bodyPost_ret (results_tmp rfl _ _ _) h2 ?_;exact⟨by rw[←h1],h3⟩
 ·refine hK _ _ ?_;clear hK K;refine aj rfl (v:=.tuple #[ptB tb,.bool true]) (w':=w2) (by simp[execOp,Act.eval,Act.put,Array.getElem?_setIfInBounds,hsz]) ?_;refine aj rfl (v:=ptB tb) (w':=w2) (by simp[execOp,Act.eval,Act.put,Array.getElem?_setIfInBounds,hsz];rfl) ?_;refine aj rfl (v:=.bool true) (w':=w2) (by simp[execOp,Act.eval,Act.put,Array.getElem?_setIfInBounds,hsz];rfl) ?_;refine aj rfl (v:=ptB tb) (w':=w2) (by simp[execOp,Act.eval,Act.put,Array.getElem?_setIfInBounds,hsz]) ?_;refine aj rfl (v:=.bool true) (w':=w2) (by simp[execOp,Act.eval,Act.put,Array.getElem?_setIfInBounds,hsz]) ?_;show K3 _ _;refine hK3 _ _ ?_;simp only[Act.put];generalize hX:Array.setIfInBounds _ 10 _=X;obtain⟨ts,rfl⟩:∃ts:List Value,X=ts.toArray:=⟨X.toList,by simp⟩;have hl:ts.length=131:=by have:=congrArg Array.size hX;simpa [hsz]using this.symm
  have z5:ts[5]? =some (.pointer (some ⟨g5,0,none⟩)):=by rw[←List.getElem?_toArray,←hX];simp[Array.getElem?_setIfInBounds,hsz];exact(Array.getElem?_eq_some_iff.1 q5).2
  have z6:ts[6]? =some (.int .i64 t):=by rw[←List.getElem?_toArray,←hX];simp[Array.getElem?_setIfInBounds,hsz];exact(Array.getElem?_eq_some_iff.1 q6).2
  have z7:ts[7]? =some (.pointer (some ⟨g7,0,none⟩)):=by rw[←List.getElem?_toArray,←hX];simp[Array.getElem?_setIfInBounds,hsz];exact(Array.getElem?_eq_some_iff.1 q7).2
  have z8:ts[8]? =some (.pointer (some ⟨g8,0,none⟩)):=by rw[←List.getElem?_toArray,←hX];simp[Array.getElem?_setIfInBounds,hsz];exact(Array.getElem?_eq_some_iff.1 q8).2
  have z9:ts[9]? =some (ptB tb):=by rw[←List.getElem?_toArray,←hX];simp[Array.getElem?_setIfInBounds,hsz]
  have z10:ts[10]? =some (.bool true):=by rw[←List.getElem?_toArray,←hX];simp[Array.getElem?_setIfInBounds,hsz]
  have hnf:∀g,g<w'.heap.size→g∉fpT tb tm E:=fun g hg hm=>by have:=hI.own _ hm;omega
  have hlt:∀ {g cs T},w'.heap[g]? =some (Obj.cells cs T (0,0))→g<w'.heap.size:=fun h=>(Array.getElem?_eq_some_iff.1 h).1
  have hmay:∀ {v g},Bk.v v=some g→w.heap.size≤g:=fun h=>(may _ _ h).elim id (fun h=>h.elim)
  have hne:∀i j g g':Nat,i≠j→Bk.v i=some g→Bk.v j=some g'→g≠g':=fun i j g g' hij h1 h2 e=>hij (inj.v _ _ _ h1 (e▸h2))
  refine tr_tail (we:=w) (B5:=g5) (B7:=g7) (B8:=g8) a b t u0 u1 u2 x0 x1 x2 ha hb hI.sane hI.tm (hnf _ (hlt k5)) (hnf _ (hlt k7)) (hnf _ (hlt k8)) (by simp[hne 1 2 _ _ (by decide) p5 p7,hne 1 3 _ _ (by decide) p5 p8,hne 2 3 _ _ (by decide) p7 p8]) (hbw.trans (hI.bel.mono hbw.size)) (hmay p5) (hmay p7) (hmay p8)
   (by rw[hI.bel.block g5 (hlt k5)];exact k5) (by rw[hI.bel.block g7 (hlt k7)];exact k7) (by rw[hI.bel.block g8 (hlt k8)];exact k8) z5 z6 z7 z8 z9 z10 hl (fun a'' w'' h1 h2 h3=> ?_) _ (by kernel_rfl)
  refine bodyPost_ret (results_tmp rfl _ _ _) h2 ?_;exact⟨by rw[←h1],h3⟩
end
end Go.Proofs.YtggfmklppkioeaaGreat
