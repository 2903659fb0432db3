/- Tracks: clones, opposite rotations, places. Tracks: Add at a stamp with a valid pose. Rows of fractions as they come in. -/
import Derived.Test.YtggfmklppkioeaaGreatP12
namespace Go.Proofs.YtggfmklppkioeaaGreat
set_option linter.unusedSimpArgs false
set_option linter.unusedVariables false
set_option maxRecDepth 100000
open Go.RowKit
def xclFX (a:Fq):List Fq:=[a]
theorem q_clF (va:Value) (a:Fq) (w:World) (ia:IsQ w va a) (ha:a.ok 1000000000):
  Calls Tryz.prog 214 #[va] w fun e w'=>hZ w a e w':=by
 refine(cRn (ρ:=frs (xclFX a)++([]:List Vp)) (args:=[fr 0]) (vs:=[va]) (r:=.v (fr 0))
  (ae (lQ (n:=1) (m:=1) rfl rfl (Nat.le_trans ha.p (by decide))) (ae (lQ (n:=2) (m:=2) rfl rfl (Nat.le_trans ha.q (by decide))) ai))
  aj Tryz.func214 (by kernel_rfl) ⟨(aH (xs:=xclFX a) (k:=0) rfl).2 ia,trivial⟩).mono ?_
 rintro e w' ⟨v,rfl,h1,h2⟩
 exact⟨v,rfl,(aH (xs:=xclFX a) (k:=0) rfl).1 h1,h2⟩
theorem py {xs:List Fq} {ys:Rho} {ia:Nat} {a:Fq} {ir:Nat} (aa:xs[ia]? =some a) (ar:xs[ir]? =some a) (ha:a.ok 1000000000):OkI xs ys ⟨214,[fr ia],.v (fr ir)⟩:=
 ⟨aA Tryz.func214 rfl rfl,fun B w vs hB h=>by
  match vs,h with
  | [va],h=>
   refine(q_clF va a w ((aH aa).1 h.1) ha).mono ?_
   rintro e w' ⟨v,rfl,h1,h2⟩
   exact⟨v,rfl,(aH ar).2 h1,h2⟩⟩
def xclSX (s:St):List Fq:=s.pose.cs
theorem q_clS (v:Value) (s:St) (w:World) (i:gj w v s) (hs:s.pose.ok 1000000000):
  Calls Tryz.prog 165 #[v] w fun e w'=>∃v,e= .returned v∧gj w' v s∧Below w.heap.size w w':=by
 refine(cRn (ρ:=frs (xclSX s)++([.val (.int .i64 s.tm)]:List Vp)) (args:=[.agg (.ref 21::bG [0,1,2,3,4,5,6])]) (vs:=[v]) (r:=.v (.agg (.ref 21::bG [0,1,2,3,4,5,6])))
  (ae (py (ia:=0) (ir:=0) rfl rfl (hs.rot.w.mono (by decide))) (ae (py (ia:=1) (ir:=1) rfl rfl (hs.rot.x.mono (by decide))) (ae (py (ia:=2) (ir:=2) rfl rfl (hs.rot.y.mono (by decide))) (ae (py (ia:=3) (ir:=3) rfl rfl (hs.rot.z.mono (by decide))) (ae (py (ia:=4) (ir:=4) rfl rfl (hs.pos.x.mono (by decide))) (ae (py (ia:=5) (ir:=5) rfl rfl (hs.pos.y.mono (by decide))) (ae (py (ia:=6) (ir:=6) rfl rfl (hs.pos.z.mono (by decide))) ai)))))))
  aj Tryz.func165 (by kernel_rfl) ⟨(cB (xs:=xclSX s) (n:=21) (ks:=[0,1,2,3,4,5,6]) (s:=s) rfl ⟨rfl,rfl,rfl,rfl,rfl,rfl,rfl,trivial⟩).2 i,trivial⟩).mono ?_
 rintro e w' ⟨v,rfl,h1,h2⟩
 exact⟨v,rfl,(cB (xs:=xclSX s) (n:=21) (ks:=[0,1,2,3,4,5,6]) (s:=s) rfl ⟨rfl,rfl,rfl,rfl,rfl,rfl,rfl,trivial⟩).1 h1,h2⟩
theorem nL {xs:List Fq} {ys:Rho} {n:Nat} {ks:List Nat} {s:St} (hn:(frs xs++ys)[n]? =some (.val (.int .i64 s.tm))) (ha:AtL xs ks s.pose.cs) (hs:s.pose.ok 1000000000):OkI xs ys ⟨165,[.agg (.ref n::bG ks)],.v (.agg (.ref n::bG ks))⟩:=
 ⟨aA Tryz.func165 rfl rfl,fun B w vs hB h=>by
  match vs,h with
  | [v],h=>
   refine(q_clS v s w ((cB hn ha).1 h.1) hs).mono ?_
   rintro e w' ⟨v,rfl,h1,h2⟩
   exact⟨v,rfl,(cB hn ha).2 h1,h2⟩⟩
def xop1X (a:Pq) (b:Pq):List Fq:=(a.cs++(b.cs++([(Fq.ratio 1 2)]++(Pq.zero.cs))))
theorem q_op1 (va vb:Value) (a:Pq) (b:Pq) (w:World) (ia:bj w va a) (ib:bj w vb b) (ha:a.ok 100) (hb:b.ok 100) (ga:a.good) (gb:b.good) (hw:(a.rot.inv.mul b.rot).w.p=0):
  Calls Tryz.prog 186 #[va,vb] w fun e w'=>cz w (.bool true) e w':=by
 refine(cRn (ρ:=frs (xop1X a b)++([]:List Vp)) (args:=[row [0,1,2,3,4,5,6],row [7,8,9,10,11,12,13]]) (vs:=[va,vb]) (r:=.v (.one (.b true)))
  (ae (pu (v:=1) (u:=2) (k:=14) (aS (c:=1)) (aS (c:=2)) (by decide) (by decide) (by decide) (by decide) (by decide) rfl) (ae (I_poBtw4 (ka:=[0,1,2,3,4,5,6]) (a:=a) (kb:=[7,8,9,10,11,12,13]) (b:=b) (im:=14) (kr:=[15,16,17,18,19,20,21]) ⟨rfl,rfl,rfl,rfl,rfl,rfl,rfl,trivial⟩ ⟨rfl,rfl,rfl,rfl,rfl,rfl,rfl,trivial⟩ rfl ⟨rfl,rfl,rfl,rfl,rfl,rfl,rfl,trivial⟩ (ha.mono (by decide)) (hb.mono (by decide)) ((pt (v:=1) (u:=2) (by decide) (by decide) (by decide) (by decide) (by decide)).mono (by decide)) ga gb (fE (v:=1) (u:=2) (by decide)) hw half_p half_1) ai))
  aj Tryz.func186 (by kernel_rfl) ⟨(ah (xs:=xop1X a b) (ks:=[0,1,2,3,4,5,6]) (vs:=a.cs) ⟨rfl,rfl,rfl,rfl,rfl,rfl,rfl,trivial⟩).2 ia,⟨(ah (xs:=xop1X a b) (ks:=[7,8,9,10,11,12,13]) (vs:=b.cs) ⟨rfl,rfl,rfl,rfl,rfl,rfl,rfl,trivial⟩).2 ib,trivial⟩⟩).mono ?_
 rintro e w' ⟨v,rfl,h1,h2⟩
 exact⟨congrArg Ending.returned h1,h2⟩
theorem xR {xs:List Fq} {ys:Rho} {ka:List Nat} {kb:List Nat} {a:Pq} {b:Pq} (aa:AtL xs ka a.cs) (ab:AtL xs kb b.cs) (ha:a.ok 100) (hb:b.ok 100) (ga:a.good) (gb:b.good) (hw:(a.rot.inv.mul b.rot).w.p=0):OkI xs ys ⟨186,[row ka,row kb],.v (.one (.b true))⟩:=
 ⟨aA Tryz.func186 rfl rfl,fun B w vs hB h=>by
  match vs,h with
  | [va,vb],h=>
   refine(q_op1 va vb a b w ((ah aa).1 h.1) ((ah ab).1 h.2.1) ha hb ga gb hw).mono ?_
   rintro e w' ⟨rfl,h2⟩
   exact⟨_,rfl,rfl,h2⟩⟩
def xop0X (a:Pq) (b:Pq):List Fq:=(a.cs++(b.cs++([(Fq.ratio 1 2)]++((Pq.mk (a.rot.way (a.rot.inv.mul b.rot) (Fq.ratio 1 2)) (a.pos.lerp b.pos (Fq.ratio 1 2))).cs))))
theorem q_op0 (va vb:Value) (a:Pq) (b:Pq) (w:World) (ia:bj w va a) (ib:bj w vb b) (ha:a.ok 100) (hb:b.ok 100) (ga:a.good) (gb:b.good) (hw:(a.rot.inv.mul b.rot).w.p≠0):
  Calls Tryz.prog 186 #[va,vb] w fun e w'=>cz w (.bool false) e w':=by
 refine(cRn (ρ:=frs (xop0X a b)++([]:List Vp)) (args:=[row [0,1,2,3,4,5,6],row [7,8,9,10,11,12,13]]) (vs:=[va,vb]) (r:=.v (.one (.b false)))
  (ae (pu (v:=1) (u:=2) (k:=14) (aS (c:=1)) (aS (c:=2)) (by decide) (by decide) (by decide) (by decide) (by decide) rfl) (ae (tT (ka:=[0,1,2,3,4,5,6]) (a:=a) (kb:=[7,8,9,10,11,12,13]) (b:=b) (im:=14) (kr:=[15,16,17,18,19,20,21]) ⟨rfl,rfl,rfl,rfl,rfl,rfl,rfl,trivial⟩ ⟨rfl,rfl,rfl,rfl,rfl,rfl,rfl,trivial⟩ rfl ⟨rfl,rfl,rfl,rfl,rfl,rfl,rfl,trivial⟩ (ha.mono (by decide)) (hb.mono (by decide)) ((pt (v:=1) (u:=2) (by decide) (by decide) (by decide) (by decide) (by decide)).mono (by decide)) ga gb (fE (v:=1) (u:=2) (by decide)) hw) ai))
  aj Tryz.func186 (by kernel_rfl) ⟨(ah (xs:=xop0X a b) (ks:=[0,1,2,3,4,5,6]) (vs:=a.cs) ⟨rfl,rfl,rfl,rfl,rfl,rfl,rfl,trivial⟩).2 ia,⟨(ah (xs:=xop0X a b) (ks:=[7,8,9,10,11,12,13]) (vs:=b.cs) ⟨rfl,rfl,rfl,rfl,rfl,rfl,rfl,trivial⟩).2 ib,trivial⟩⟩).mono ?_
 rintro e w' ⟨v,rfl,h1,h2⟩
 exact⟨congrArg Ending.returned h1,h2⟩
theorem lR {xs:List Fq} {ys:Rho} {ka:List Nat} {kb:List Nat} {a:Pq} {b:Pq} (aa:AtL xs ka a.cs) (ab:AtL xs kb b.cs) (ha:a.ok 100) (hb:b.ok 100) (ga:a.good) (gb:b.good) (hw:(a.rot.inv.mul b.rot).w.p≠0):OkI xs ys ⟨186,[row ka,row kb],.v (.one (.b false))⟩:=
 ⟨aA Tryz.func186 rfl rfl,fun B w vs hB h=>by
  match vs,h with
  | [va,vb],h=>
   refine(q_op0 va vb a b w ((ah aa).1 h.1) ((ah ab).1 h.2.1) ha hb ga gb hw).mono ?_
   rintro e w' ⟨rfl,h2⟩
   exact⟨_,rfl,rfl,h2⟩⟩
def jS:MS:=qa 28 [(0,.v (.one (.ptr 0 0))),(1,.v (.one (.ref 1))),(5,.v (.one (.i .i64 0)))] [(223,[some (.ref 0)])]
def gK:MS:=qa 28 [(0,.v (.one (.ptr 0 0))),(1,.v (.one (.ref 1))),(5,.v (.one (.ref 2)))] [(223,[some (.ref 0)])]
def fk (S:List St) (a:Int):List Fq:=[]
theorem q_placeE {w:World} {g:Nat} {sl:Value} (S:List St) (a:Int) (h:TrkS 223 w g sl S) (hS:S.length≤1000) (hp:plN S a=S.length):
  Calls Tryz.prog 185 (.pointer (some ⟨g,0,none⟩)::[.int .i64 a]).toArray w fun e w'=>e= .returned (.int .i64 ((plN S a:Nat):Int))∧Below w.heap.size w w':=by
 have hL0:LOb.Ok Tryz.prog (frs (fk S a)++(([.rowB true sl stT S.length (aD S),.val (.int .i64 a)]:List Vp)++(([.val (.int .i64 ((plN S a:Nat):Int))]:List Vp)))) (jp w g) 28 ⟨iy Tryz.f185 0,jS,.ext 0,gK⟩:=by
  refine fD (plN S a) (fun k=>frs (fk S a)++(([.rowB true sl stT S.length (aD S),.val (.int .i64 a)]:List Vp)++(([.val (.int .i64 ((k:Nat):Int))]:List Vp)))) (fun _=>gK) ?_ ?_ ?_ (by decide) (Nat.le_add_left 1 _)
  ·intro a_ w_ h_
   exact MSt.conv (N:=2) (σ:=[(2,.i .i64 0)]) (cmP (by kernel_rfl)) (ci (sgi (n:=2) (u:=0) (v:=((0:Nat):Int)) rfl (aS (c:=0)) (by omega)) cV) (by kernel_rfl) h_ (Nat.le_add_left 1 _)
  ·intro k hk
   obtain⟨x,hx,hlt⟩:=fj hk
   have hle:=bI S a
   refine ec (N:=3) (ρx:=frs (fk S a)++(([.rowB true sl stT S.length (aD S),.val (.int .i64 a)]:List Vp)++(([.val (.int .i64 ((k:Nat):Int))]:List Vp)++(([.val (.int .i64 (S.length:Int)),.plc stT x.qs,.val (.int .i64 x.tm),.val (.int .i64 (((k:Nat):Int)+1))]:List Vp))))) (cmX (by kernel_rfl)) (by kernel_rfl) (Nat.le_add_left 1 _) ?_
   exact du (N:=2) (σ:=[(2,.ref 6)]) (lo:=[]) (n:=300) (ai)
    (af (ew 0 3 rfl rfl) (af (aC (t:=3) (az (n:=2) rfl) (az (n:=3) rfl) (bv (by omega))) (af (iaB (n:=0) (m:=4) rfl rfl (ce (az (n:=2) rfl) (by omega)) hx) (af (fa0 x 4 rfl) (af (ldt x 4 5 rfl rfl) (af (aC (t:=3) (az (n:=5) rfl) (az (n:=1) rfl) (bv (by omega))) (af (r7 (m:=6) (t:=3) (az (n:=2) rfl) (aS (c:=1)) rfl rfl (by omega) (by omega)) (aj))))))))
    (by kernel_rfl) (obs:=[]) (by kernel_rfl) aR (cmP (by kernel_rfl)) (ci (sgi (n:=2) (u:=(((k:Nat):Int)+1)) (v:=((k+1:Nat):Int)) rfl (az (n:=6) rfl) (by omega)) cV) (Nat.le_add_left 1 _)
  ·refine ec (N:=3) (ρx:=frs (fk S a)++(([.rowB true sl stT S.length (aD S),.val (.int .i64 a)]:List Vp)++(([.val (.int .i64 ((plN S a:Nat):Int))]:List Vp)++(([.val (.int .i64 (S.length:Int))]:List Vp))))) (cmX (by kernel_rfl)) (by kernel_rfl) (Nat.le_add_left 1 _) ?_
   exact du (N:=2) (σ:=[(2,.ref 2)]) (lo:=[]) (n:=300) (ai)
    (af (ew 0 3 rfl rfl) (af (aC (t:=3) (az (n:=2) rfl) (az (n:=3) rfl) (a8 (by omega))) (aj)))
    (by kernel_rfl) (obs:=[]) (by kernel_rfl) aR (cmP (by kernel_rfl)) (ci (sgi (n:=2) (u:=((plN S a:Nat):Int)) (v:=((plN S a:Nat):Int)) rfl (az (n:=2) rfl) (by omega)) cV) (Nat.le_add_left 1 _)
 refine(aN (ρ:=frs (fk S a)++(([.rowB true sl stT S.length (aD S),.val (.int .i64 a)]:List Vp)++(([.val (.int .i64 ((plN S a:Nat):Int))]:List Vp)))) (w:=w) (fuel:=300) (m:=0) (S':=S) (args:=[.one (.ptr 0 0),.one (.ref 1)]) (vs:=[.pointer (some ⟨g,0,none⟩),.int .i64 a]) (r:=.v (.one (.ref 2))) (l:=.ref 0) (lo:=[some (jS,.ext 0,gK)]) (obs:=[⟨iy Tryz.f185 0,jS,.ext 0,gK⟩]) h
  (ai)
  aj Tryz.func185 rfl (by kernel_rfl) (n8 hL0 aR) ⟨df,⟨aF (n:=1) rfl aK,trivial⟩⟩ (eb rfl)).mono ?_
 rintro e w' ⟨v,B',rfl,h1,h2,h3⟩
 have e1:v= .int .i64 ((plN S a:Nat):Int):=bn rfl h1
 subst e1
 exact⟨rfl,h3 rfl⟩
def jT:MS:=qa 28 [(0,.v (.one (.ptr 0 0))),(1,.v (.one (.ref 1))),(5,.v (.one (.i .i64 0)))] [(223,[some (.ref 0)])]
def gL:MS:=qa 28 [(0,.v (.one (.ptr 0 0))),(1,.v (.one (.ref 1))),(5,.v (.one (.ref 2)))] [(223,[some (.ref 0)])]
def fm (S:List St) (a:Int):List Fq:=[]
theorem q_placeM {w:World} {g:Nat} {sl:Value} (S:List St) (a:Int) (h:TrkS 223 w g sl S) (hS:S.length≤1000) {x:St} (hx:S[plN S a]? =some x) (hlt:¬x.tm<a) (hp:plN S a<S.length):
  Calls Tryz.prog 185 (.pointer (some ⟨g,0,none⟩)::[.int .i64 a]).toArray w fun e w'=>e= .returned (.int .i64 ((plN S a:Nat):Int))∧Below w.heap.size w w':=by
 have hL0:LOb.Ok Tryz.prog (frs (fm S a)++(([.rowB true sl stT S.length (aD S),.val (.int .i64 a)]:List Vp)++(([.val (.int .i64 ((plN S a:Nat):Int))]:List Vp)))) (jp w g) 28 ⟨iy Tryz.f185 0,jT,.ext 0,gL⟩:=by
  refine fD (plN S a) (fun k=>frs (fm S a)++(([.rowB true sl stT S.length (aD S),.val (.int .i64 a)]:List Vp)++(([.val (.int .i64 ((k:Nat):Int))]:List Vp)))) (fun _=>gL) ?_ ?_ ?_ (by decide) (Nat.le_add_left 1 _)
  ·intro a_ w_ h_
   exact MSt.conv (N:=2) (σ:=[(2,.i .i64 0)]) (cmP (by kernel_rfl)) (ci (sgi (n:=2) (u:=0) (v:=((0:Nat):Int)) rfl (aS (c:=0)) (by omega)) cV) (by kernel_rfl) h_ (Nat.le_add_left 1 _)
  ·intro k hk
   obtain⟨x,hx,hlt⟩:=fj hk
   have hle:=bI S a
   refine ec (N:=3) (ρx:=frs (fm S a)++(([.rowB true sl stT S.length (aD S),.val (.int .i64 a)]:List Vp)++(([.val (.int .i64 ((k:Nat):Int))]:List Vp)++(([.val (.int .i64 (S.length:Int)),.plc stT x.qs,.val (.int .i64 x.tm),.val (.int .i64 (((k:Nat):Int)+1))]:List Vp))))) (cmX (by kernel_rfl)) (by kernel_rfl) (Nat.le_add_left 1 _) ?_
   exact du (N:=2) (σ:=[(2,.ref 6)]) (lo:=[]) (n:=300) (ai)
    (af (ew 0 3 rfl rfl) (af (aC (t:=3) (az (n:=2) rfl) (az (n:=3) rfl) (bv (by omega))) (af (iaB (n:=0) (m:=4) rfl rfl (ce (az (n:=2) rfl) (by omega)) hx) (af (fa0 x 4 rfl) (af (ldt x 4 5 rfl rfl) (af (aC (t:=3) (az (n:=5) rfl) (az (n:=1) rfl) (bv (by omega))) (af (r7 (m:=6) (t:=3) (az (n:=2) rfl) (aS (c:=1)) rfl rfl (by omega) (by omega)) (aj))))))))
    (by kernel_rfl) (obs:=[]) (by kernel_rfl) aR (cmP (by kernel_rfl)) (ci (sgi (n:=2) (u:=(((k:Nat):Int)+1)) (v:=((k+1:Nat):Int)) rfl (az (n:=6) rfl) (by omega)) cV) (Nat.le_add_left 1 _)
  ·refine ec (N:=3) (ρx:=frs (fm S a)++(([.rowB true sl stT S.length (aD S),.val (.int .i64 a)]:List Vp)++(([.val (.int .i64 ((plN S a:Nat):Int))]:List Vp)++(([.val (.int .i64 (S.length:Int)),.plc stT x.qs,.val (.int .i64 x.tm)]:List Vp))))) (cmX (by kernel_rfl)) (by kernel_rfl) (Nat.le_add_left 1 _) ?_
   exact du (N:=2) (σ:=[(2,.ref 2)]) (lo:=[]) (n:=300) (ai)
    (af (ew 0 3 rfl rfl) (af (aC (t:=3) (az (n:=2) rfl) (az (n:=3) rfl) (bv (by omega))) (af (iaB (n:=0) (m:=4) rfl rfl (ce (az (n:=2) rfl) (by omega)) hx) (af (fa0 x 4 rfl) (af (ldt x 4 5 rfl rfl) (af (aC (t:=3) (az (n:=5) rfl) (az (n:=1) rfl) (a8 (by omega))) (aj)))))))
    (by kernel_rfl) (obs:=[]) (by kernel_rfl) aR (cmP (by kernel_rfl)) (ci (sgi (n:=2) (u:=((plN S a:Nat):Int)) (v:=((plN S a:Nat):Int)) rfl (az (n:=2) rfl) (by omega)) cV) (Nat.le_add_left 1 _)
 refine(aN (ρ:=frs (fm S a)++(([.rowB true sl stT S.length (aD S),.val (.int .i64 a)]:List Vp)++(([.val (.int .i64 ((plN S a:Nat):Int))]:List Vp)))) (w:=w) (fuel:=300) (m:=0) (S':=S) (args:=[.one (.ptr 0 0),.one (.ref 1)]) (vs:=[.pointer (some ⟨g,0,none⟩),.int .i64 a]) (r:=.v (.one (.ref 2))) (l:=.ref 0) (lo:=[some (jT,.ext 0,gL)]) (obs:=[⟨iy Tryz.f185 0,jT,.ext 0,gL⟩]) h
  (ai)
  aj Tryz.func185 rfl (by kernel_rfl) (n8 hL0 aR) ⟨df,⟨aF (n:=1) rfl aK,trivial⟩⟩ (eb rfl)).mono ?_
 rintro e w' ⟨v,B',rfl,h1,h2,h3⟩
 have e1:v= .int .i64 ((plN S a:Nat):Int):=bn rfl h1
 subst e1
 exact⟨rfl,h3 rfl⟩
def zst:St:=⟨0,Pq.zero⟩
def jU (s y z:St):List Fq:=[s.pose.rot.w,s.pose.rot.x,s.pose.rot.y,s.pose.rot.z,s.pose.pos.x,s.pose.pos.y,s.pose.pos.z,y.pose.rot.w,y.pose.rot.x,y.pose.rot.y,y.pose.rot.z,y.pose.pos.x,y.pose.pos.y,y.pose.pos.z,z.pose.rot.w,z.pose.rot.x,z.pose.rot.y,z.pose.rot.z,z.pose.pos.x,z.pose.pos.y,z.pose.pos.z]
def aM (S:List St) (i:Nat) (s:St):List St:=S.take i++s::S.drop i
theorem bJ {S:List St} {i:Nat} {s:St} (h:i≤S.length):(aM S i s).length=S.length+1:=by
 simp only[aM,List.length_append,List.length_take,List.length_cons,List.length_drop];omega
theorem q_place (S:List St) (a:Int) {w:World} {g:Nat} {sl:Value} (h:TrkS 223 w g sl S) (hS:S.length≤1000):
  Calls Tryz.prog 185 (.pointer (some ⟨g,0,none⟩)::[.int .i64 a]).toArray w fun e w'=>e= .returned (.int .i64 ((plN S a:Nat):Int))∧Below w.heap.size w w':=by
 by_cases hp:plN S a<S.length
 ·obtain⟨x,hx,hlt⟩:=wa hp
  exact q_placeM S a h hS hx hlt hp
 ·exact q_placeE S a h hS (by have:=bI S a;omega)
section
variable {ρ:Rho} {n m k r j u i:Nat} {a:Int} {S S':List St} {l la il:Leaf} {sl0:Value} {pin:Bool} {s:St} {xn:Nat}
theorem cZ {r:SV} (hm:ρ[m]? =some (.rowB pin sl0 stT S.length (aD S))) (ha:KI ρ la .i64 a) (hn:ρ[n]? =some (.val (.int .i64 ((plN S a:Nat):Int)))) (hS:S.length≤1000):(OIns.mk (.mut 185 ⟨[],[(u,223,[.ref m])],[],none,[],[.one (.ref n)]⟩) [.one (.ptr u 0),.one la] r).Ok Tryz.prog ρ:=
 zo (args:=[.one la]) (aA Tryz.func185 rfl rfl) hm (fun B w g sl vs _ ht hv=>by
  match vs,hv with
  | [v],hv=>
   have e:=ha _ _ _ hv.1
   subst e
   refine(q_place S a ht hS).mono ?_
   rintro e w' ⟨rfl,h2⟩
   exact⟨_,rfl,fun B' _=>aF hn aK,h2⟩)
theorem dr {r:SV} (hn:ρ[n]? =some (.ownr stT 22 S.length (aD S))) (hx:ρ[xn]? =some (.row stT 1 s.qs)) (hi:KI ρ il .i64 (i:Int)) (hm:ρ[m]? =some (.ownr stT 22 (aM S i s).length (aD (aM S i s)))) (hle:i≤S.length) (hS:S.length≤1000000):
  (OIns.mk (.mut 187 ⟨[k],[],[],none,[],[.one (.own k m)]⟩) [.one (.own k n),.one il,.one (.ref xn)] r).Ok Tryz.prog ρ:=
 zm hn hx hi (by rw[hm,bJ hle];rfl) hle hS
end
theorem q_addLo {w:World} {g:Nat} {sl:Value} (S:List St) (s:St) (v:Value) (h:TrkS 223 w g sl S) (i:gj w v s) (hs:s.pose.ok 2) (gs:s.pose.good) (hS:S.length≤64) (r0:s.tm<0):
  Calls Tryz.prog 127 (.pointer (some ⟨g,0,none⟩)::[v]).toArray w fun e w'=>e= .returned (.int .i64 4)∧TrkM 223 w g sl S w':=by
 have hle:=bI S s.tm
 have hin:=bJ (s:=s) hle
 have hdr:((aM S (plN S s.tm) s).drop 1).length=(aM S (plN S s.tm) s).length - 1:=List.length_drop ..
 have ht1:(S.take (plN S s.tm)).length=plN S s.tm:=by rw[List.length_take];omega
 have ht2:(S.take (plN S s.tm)++ [s]).length=plN S s.tm+1:=by rw[List.length_append,ht1];rfl
 refine(aN (ρ:=frs (jU s zst zst)++([.rowB true sl stT S.length (aD S),.val (.int .i64 s.tm)]:List Vp)) (w:=w) (fuel:=300) (m:=63) (S':=S) (args:=[.one (.ptr 0 0),.agg (.ref 64::bG [0,1,2,3,4,5,6])]) (vs:=[.pointer (some ⟨g,0,none⟩),v]) (r:=.v (.one (.i .i64 4))) (l:=.ref 63) (lo:=[]) (obs:=[]) h
  (ai)
  (af (bH (y:=0) (o:=0) (t:=154) ⟨_,Tryz.underlying154⟩) (af (aC (t:=3) (az (n:=64) rfl) (aS (c:=0)) (bv (by omega))) (aj))) Tryz.func127 rfl (by kernel_rfl) aR ⟨df,⟨(cB (n:=64) (ks:=[0,1,2,3,4,5,6]) (s:=s) rfl ⟨rfl,rfl,rfl,rfl,rfl,rfl,rfl,trivial⟩).2 i,trivial⟩⟩ (eb rfl)).mono ?_
 rintro e w' ⟨v,B',rfl,h1,h2,h3⟩
 have e1:v= .int .i64 4:=h1
 subst e1
 exact⟨rfl,h2⟩
theorem q_addHi {w:World} {g:Nat} {sl:Value} (S:List St) (s:St) (v:Value) (h:TrkS 223 w g sl S) (i:gj w v s) (hs:s.pose.ok 2) (gs:s.pose.good) (hS:S.length≤64) (r0:1099511627776<s.tm):
  Calls Tryz.prog 127 (.pointer (some ⟨g,0,none⟩)::[v]).toArray w fun e w'=>e= .returned (.int .i64 4)∧TrkM 223 w g sl S w':=by
 have hle:=bI S s.tm
 have hin:=bJ (s:=s) hle
 have hdr:((aM S (plN S s.tm) s).drop 1).length=(aM S (plN S s.tm) s).length - 1:=List.length_drop ..
 have ht1:(S.take (plN S s.tm)).length=plN S s.tm:=by rw[List.length_take];omega
 have ht2:(S.take (plN S s.tm)++ [s]).length=plN S s.tm+1:=by rw[List.length_append,ht1];rfl
 refine(aN (ρ:=frs (jU s zst zst)++([.rowB true sl stT S.length (aD S),.val (.int .i64 s.tm)]:List Vp)) (w:=w) (fuel:=300) (m:=63) (S':=S) (args:=[.one (.ptr 0 0),.agg (.ref 64::bG [0,1,2,3,4,5,6])]) (vs:=[.pointer (some ⟨g,0,none⟩),v]) (r:=.v (.one (.i .i64 4))) (l:=.ref 63) (lo:=[]) (obs:=[]) h
  (ai)
  (af (bH (y:=0) (o:=0) (t:=154) ⟨_,Tryz.underlying154⟩) (af (aC (t:=3) (az (n:=64) rfl) (aS (c:=0)) (a8 (by omega))) (af (aC (t:=3) (az (n:=64) rfl) (aS (c:=1099511627776)) (cj (by omega))) (aj)))) Tryz.func127 rfl (by kernel_rfl) aR ⟨df,⟨(cB (n:=64) (ks:=[0,1,2,3,4,5,6]) (s:=s) rfl ⟨rfl,rfl,rfl,rfl,rfl,rfl,rfl,trivial⟩).2 i,trivial⟩⟩ (eb rfl)).mono ?_
 rintro e w' ⟨v,B',rfl,h1,h2,h3⟩
 have e1:v= .int .i64 4:=h1
 subst e1
 exact⟨rfl,h2⟩
theorem zp {w:World} {g:Nat} {sl:Value} (S:List St) (s:St) (v:Value) (h:TrkS 223 w g sl S) (i:gj w v s) (hs:s.pose.ok 2) (gs:s.pose.good) (hS:S.length≤64) (r0:0≤s.tm) (r1:s.tm≤1099511627776) (hq:plN S s.tm<S.length) (y:St) (hy:S[plN S s.tm]? =some y) (ky:y.pose.ok 2) (gy:y.pose.good) (ey:y.tm=s.tm) (ep:y.pose=s.pose):
  Calls Tryz.prog 127 (.pointer (some ⟨g,0,none⟩)::[v]).toArray w fun e w'=>e= .returned (.int .i64 0)∧TrkM 223 w g sl S w':=by
 have hle:=bI S s.tm
 have hin:=bJ (s:=s) hle
 have hdr:((aM S (plN S s.tm) s).drop 1).length=(aM S (plN S s.tm) s).length - 1:=List.length_drop ..
 have ht1:(S.take (plN S s.tm)).length=plN S s.tm:=by rw[List.length_take];omega
 have ht2:(S.take (plN S s.tm)++ [s]).length=plN S s.tm+1:=by rw[List.length_append,ht1];rfl
 refine(aN (ρ:=frs (jU s y zst)++([.rowB true sl stT S.length (aD S),.val (.int .i64 s.tm),.val (.int .i64 ((plN S s.tm:Nat):Int)),.val (.int .i64 (S.length:Int)),.plc stT y.qs,.val (.int .i64 y.tm),.plc stT (frs y.pose.cs)]:List Vp)) (w:=w) (fuel:=300) (m:=63) (S':=S) (args:=[.one (.ptr 0 0),.agg (.ref 64::bG [0,1,2,3,4,5,6])]) (vs:=[.pointer (some ⟨g,0,none⟩),v]) (r:=.v (.one (.i .i64 0))) (l:=.ref 63) (lo:=[]) (obs:=[]) h
  (ae (bX (ka:=[0,1,2,3,4,5,6]) (a:=s.pose) ⟨rfl,rfl,rfl,rfl,rfl,rfl,rfl,trivial⟩ (hs.mono (by decide)) gs) (ae (vV (ka:=[7,8,9,10,11,12,13]) (a:=y.pose) (kb:=[0,1,2,3,4,5,6]) (b:=s.pose) ⟨rfl,rfl,rfl,rfl,rfl,rfl,rfl,trivial⟩ ⟨rfl,rfl,rfl,rfl,rfl,rfl,rfl,trivial⟩ (ky.mono (by decide)) (hs.mono (by decide)) ep gy gs) ai))
  (af (bH (y:=0) (o:=0) (t:=154) ⟨_,Tryz.underlying154⟩) (af (aC (t:=3) (az (n:=64) rfl) (aS (c:=0)) (a8 (by omega))) (af (aC (t:=3) (az (n:=64) rfl) (aS (c:=1099511627776)) (aX (by omega))) (af (cZ (u:=0) (m:=63) (S:=S) (a:=s.tm) (n:=65) (r:=.one .sl0) rfl (az (n:=64) rfl) rfl (by omega)) (af (ew 63 66 rfl rfl) (af (aC (t:=3) (az (n:=65) rfl) (az (n:=66) rfl) (bv (by omega))) (af (iaB (n:=63) (m:=67) rfl rfl (ce (az (n:=65) rfl) (by omega)) hy) (af (fa0 y 67 rfl) (af (ldt y 67 68 rfl rfl) (af (aC (t:=3) (az (n:=68) rfl) (az (n:=64) rfl) (gi (by omega))) (af (fa1 y 67 69 rfl rfl) (af (ldp y 69 [7,8,9,10,11,12,13] rfl ⟨rfl,rfl,rfl,rfl,rfl,rfl,rfl,trivial⟩) (aj))))))))))))) Tryz.func127 rfl (by kernel_rfl) aR ⟨df,⟨(cB (n:=64) (ks:=[0,1,2,3,4,5,6]) (s:=s) rfl ⟨rfl,rfl,rfl,rfl,rfl,rfl,rfl,trivial⟩).2 i,trivial⟩⟩ (eb rfl)).mono ?_
 rintro e w' ⟨v,B',rfl,h1,h2,h3⟩
 have e1:v= .int .i64 0:=h1
 subst e1
 exact⟨rfl,h2⟩
theorem q_addBad {w:World} {g:Nat} {sl:Value} (S:List St) (s:St) (v:Value) (h:TrkS 223 w g sl S) (i:gj w v s) (hs:s.pose.ok 2) (gs:s.pose.good) (hS:S.length≤64) (r0:0≤s.tm) (r1:s.tm≤1099511627776) (hq:plN S s.tm<S.length) (y:St) (hy:S[plN S s.tm]? =some y) (ky:y.pose.ok 2) (gy:y.pose.good) (ey:y.tm=s.tm) (ep:y.pose≠s.pose):
  Calls Tryz.prog 127 (.pointer (some ⟨g,0,none⟩)::[v]).toArray w fun e w'=>e= .returned (.int .i64 7)∧TrkM 223 w g sl S w':=by
 have hle:=bI S s.tm
 have hin:=bJ (s:=s) hle
 have hdr:((aM S (plN S s.tm) s).drop 1).length=(aM S (plN S s.tm) s).length - 1:=List.length_drop ..
 have ht1:(S.take (plN S s.tm)).length=plN S s.tm:=by rw[List.length_take];omega
 have ht2:(S.take (plN S s.tm)++ [s]).length=plN S s.tm+1:=by rw[List.length_append,ht1];rfl
 refine(aN (ρ:=frs (jU s y zst)++([.rowB true sl stT S.length (aD S),.val (.int .i64 s.tm),.val (.int .i64 ((plN S s.tm:Nat):Int)),.val (.int .i64 (S.length:Int)),.plc stT y.qs,.val (.int .i64 y.tm),.plc stT (frs y.pose.cs)]:List Vp)) (w:=w) (fuel:=300) (m:=63) (S':=S) (args:=[.one (.ptr 0 0),.agg (.ref 64::bG [0,1,2,3,4,5,6])]) (vs:=[.pointer (some ⟨g,0,none⟩),v]) (r:=.v (.one (.i .i64 7))) (l:=.ref 63) (lo:=[]) (obs:=[]) h
  (ae (bX (ka:=[0,1,2,3,4,5,6]) (a:=s.pose) ⟨rfl,rfl,rfl,rfl,rfl,rfl,rfl,trivial⟩ (hs.mono (by decide)) gs) (ae (vX (ka:=[7,8,9,10,11,12,13]) (a:=y.pose) (kb:=[0,1,2,3,4,5,6]) (b:=s.pose) ⟨rfl,rfl,rfl,rfl,rfl,rfl,rfl,trivial⟩ ⟨rfl,rfl,rfl,rfl,rfl,rfl,rfl,trivial⟩ (ky.mono (by decide)) (hs.mono (by decide)) ep gy gs) ai))
  (af (bH (y:=0) (o:=0) (t:=154) ⟨_,Tryz.underlying154⟩) (af (aC (t:=3) (az (n:=64) rfl) (aS (c:=0)) (a8 (by omega))) (af (aC (t:=3) (az (n:=64) rfl) (aS (c:=1099511627776)) (aX (by omega))) (af (cZ (u:=0) (m:=63) (S:=S) (a:=s.tm) (n:=65) (r:=.one .sl0) rfl (az (n:=64) rfl) rfl (by omega)) (af (ew 63 66 rfl rfl) (af (aC (t:=3) (az (n:=65) rfl) (az (n:=66) rfl) (bv (by omega))) (af (iaB (n:=63) (m:=67) rfl rfl (ce (az (n:=65) rfl) (by omega)) hy) (af (fa0 y 67 rfl) (af (ldt y 67 68 rfl rfl) (af (aC (t:=3) (az (n:=68) rfl) (az (n:=64) rfl) (gi (by omega))) (af (fa1 y 67 69 rfl rfl) (af (ldp y 69 [7,8,9,10,11,12,13] rfl ⟨rfl,rfl,rfl,rfl,rfl,rfl,rfl,trivial⟩) (aj))))))))))))) Tryz.func127 rfl (by kernel_rfl) aR ⟨df,⟨(cB (n:=64) (ks:=[0,1,2,3,4,5,6]) (s:=s) rfl ⟨rfl,rfl,rfl,rfl,rfl,rfl,rfl,trivial⟩).2 i,trivial⟩⟩ (eb rfl)).mono ?_
 rintro e w' ⟨v,B',rfl,h1,h2,h3⟩
 have e1:v= .int .i64 7:=h1
 subst e1
 exact⟨rfl,h2⟩
theorem q_addB0 {w:World} {g:Nat} {sl:Value} (S:List St) (s:St) (v:Value) (h:TrkS 223 w g sl S) (i:gj w v s) (hs:s.pose.ok 2) (gs:s.pose.good) (hS:S.length≤64) (r0:0≤s.tm) (r1:s.tm≤1099511627776) (hq:plN S s.tm<S.length) (hp:plN S s.tm=0) (y:St) (hy:S[plN S s.tm]? =some y) (ky:y.pose.ok 2) (gy:y.pose.good) (ey:y.tm≠s.tm) (ho:¬y.tm<s.tm) (oy:opp s.pose y.pose):
  Calls Tryz.prog 127 (.pointer (some ⟨g,0,none⟩)::[v]).toArray w fun e w'=>e= .returned (.int .i64 21)∧TrkM 223 w g sl S w':=by
 have hle:=bI S s.tm
 have hin:=bJ (s:=s) hle
 have hdr:((aM S (plN S s.tm) s).drop 1).length=(aM S (plN S s.tm) s).length - 1:=List.length_drop ..
 have ht1:(S.take (plN S s.tm)).length=plN S s.tm:=by rw[List.length_take];omega
 have ht2:(S.take (plN S s.tm)++ [s]).length=plN S s.tm+1:=by rw[List.length_append,ht1];rfl
 refine(aN (ρ:=frs (jU s y zst)++([.rowB true sl stT S.length (aD S),.val (.int .i64 s.tm),.val (.int .i64 ((plN S s.tm:Nat):Int)),.val (.int .i64 (S.length:Int)),.plc stT y.qs,.val (.int .i64 y.tm),.plc stT (frs y.pose.cs)]:List Vp)) (w:=w) (fuel:=300) (m:=63) (S':=S) (args:=[.one (.ptr 0 0),.agg (.ref 64::bG [0,1,2,3,4,5,6])]) (vs:=[.pointer (some ⟨g,0,none⟩),v]) (r:=.v (.one (.i .i64 21))) (l:=.ref 63) (lo:=[]) (obs:=[]) h
  (ae (bX (ka:=[0,1,2,3,4,5,6]) (a:=s.pose) ⟨rfl,rfl,rfl,rfl,rfl,rfl,rfl,trivial⟩ (hs.mono (by decide)) gs) (ae (xR (ka:=[0,1,2,3,4,5,6]) (a:=s.pose) (kb:=[7,8,9,10,11,12,13]) (b:=y.pose) ⟨rfl,rfl,rfl,rfl,rfl,rfl,rfl,trivial⟩ ⟨rfl,rfl,rfl,rfl,rfl,rfl,rfl,trivial⟩ (hs.mono (by decide)) (ky.mono (by decide)) gs gy oy) ai))
  (af (bH (y:=0) (o:=0) (t:=154) ⟨_,Tryz.underlying154⟩) (af (aC (t:=3) (az (n:=64) rfl) (aS (c:=0)) (a8 (by omega))) (af (aC (t:=3) (az (n:=64) rfl) (aS (c:=1099511627776)) (aX (by omega))) (af (cZ (u:=0) (m:=63) (S:=S) (a:=s.tm) (n:=65) (r:=.one .sl0) rfl (az (n:=64) rfl) rfl (by omega)) (af (ew 63 66 rfl rfl) (af (aC (t:=3) (az (n:=65) rfl) (az (n:=66) rfl) (bv (by omega))) (af (iaB (n:=63) (m:=67) rfl rfl (ce (az (n:=65) rfl) (by omega)) hy) (af (fa0 y 67 rfl) (af (ldt y 67 68 rfl rfl) (af (aC (t:=3) (az (n:=68) rfl) (az (n:=64) rfl) (bS (by omega))) (af (aC (t:=3) (az (n:=65) rfl) (aS (c:=0)) (aX (by omega))) (af (fa1 y 67 69 rfl rfl) (af (ldp y 69 [7,8,9,10,11,12,13] rfl ⟨rfl,rfl,rfl,rfl,rfl,rfl,rfl,trivial⟩) (aj)))))))))))))) Tryz.func127 rfl (by kernel_rfl) aR ⟨df,⟨(cB (n:=64) (ks:=[0,1,2,3,4,5,6]) (s:=s) rfl ⟨rfl,rfl,rfl,rfl,rfl,rfl,rfl,trivial⟩).2 i,trivial⟩⟩ (eb rfl)).mono ?_
 rintro e w' ⟨v,B',rfl,h1,h2,h3⟩
 have e1:v= .int .i64 21:=h1
 subst e1
 exact⟨rfl,h2⟩
theorem q_addBE {w:World} {g:Nat} {sl:Value} (S:List St) (s:St) (v:Value) (h:TrkS 223 w g sl S) (i:gj w v s) (hs:s.pose.ok 2) (gs:s.pose.good) (hS:S.length≤64) (r0:0≤s.tm) (r1:s.tm≤1099511627776) (hq:plN S s.tm=S.length) (z:St) (hz:S[plN S s.tm - 1]? =some z) (kz:z.pose.ok 2) (gz:z.pose.good) (hp:0<plN S s.tm) (oz:opp z.pose s.pose):
  Calls Tryz.prog 127 (.pointer (some ⟨g,0,none⟩)::[v]).toArray w fun e w'=>e= .returned (.int .i64 21)∧TrkM 223 w g sl S w':=by
 have hle:=bI S s.tm
 have hin:=bJ (s:=s) hle
 have hdr:((aM S (plN S s.tm) s).drop 1).length=(aM S (plN S s.tm) s).length - 1:=List.length_drop ..
 have ht1:(S.take (plN S s.tm)).length=plN S s.tm:=by rw[List.length_take];omega
 have ht2:(S.take (plN S s.tm)++ [s]).length=plN S s.tm+1:=by rw[List.length_append,ht1];rfl
 refine(aN (ρ:=frs (jU s zst z)++([.rowB true sl stT S.length (aD S),.val (.int .i64 s.tm),.val (.int .i64 ((plN S s.tm:Nat):Int)),.val (.int .i64 (S.length:Int)),.val (.int .i64 (((plN S s.tm:Nat):Int) - 1)),.plc stT z.qs,.plc stT (frs z.pose.cs)]:List Vp)) (w:=w) (fuel:=300) (m:=63) (S':=S) (args:=[.one (.ptr 0 0),.agg (.ref 64::bG [0,1,2,3,4,5,6])]) (vs:=[.pointer (some ⟨g,0,none⟩),v]) (r:=.v (.one (.i .i64 21))) (l:=.ref 63) (lo:=[]) (obs:=[]) h
  (ae (bX (ka:=[0,1,2,3,4,5,6]) (a:=s.pose) ⟨rfl,rfl,rfl,rfl,rfl,rfl,rfl,trivial⟩ (hs.mono (by decide)) gs) (ae (xR (ka:=[14,15,16,17,18,19,20]) (a:=z.pose) (kb:=[0,1,2,3,4,5,6]) (b:=s.pose) ⟨rfl,rfl,rfl,rfl,rfl,rfl,rfl,trivial⟩ ⟨rfl,rfl,rfl,rfl,rfl,rfl,rfl,trivial⟩ (kz.mono (by decide)) (hs.mono (by decide)) gz gs oz) ai))
  (af (bH (y:=0) (o:=0) (t:=154) ⟨_,Tryz.underlying154⟩) (af (aC (t:=3) (az (n:=64) rfl) (aS (c:=0)) (a8 (by omega))) (af (aC (t:=3) (az (n:=64) rfl) (aS (c:=1099511627776)) (aX (by omega))) (af (cZ (u:=0) (m:=63) (S:=S) (a:=s.tm) (n:=65) (r:=.one .sl0) rfl (az (n:=64) rfl) rfl (by omega)) (af (ew 63 66 rfl rfl) (af (aC (t:=3) (az (n:=65) rfl) (az (n:=66) rfl) (a8 (by omega))) (af (aC (t:=3) (az (n:=65) rfl) (aS (c:=0)) (cj (by omega))) (af (dF (m:=67) (t:=3) (az (n:=65) rfl) (aS (c:=1)) rfl rfl (by omega) (by omega)) (af (iaB (n:=63) (m:=68) rfl rfl (ce (az (n:=67) rfl) (by omega)) hz) (af (fa1 z 68 69 rfl rfl) (af (ldp z 69 [14,15,16,17,18,19,20] rfl ⟨rfl,rfl,rfl,rfl,rfl,rfl,rfl,trivial⟩) (aj)))))))))))) Tryz.func127 rfl (by kernel_rfl) aR ⟨df,⟨(cB (n:=64) (ks:=[0,1,2,3,4,5,6]) (s:=s) rfl ⟨rfl,rfl,rfl,rfl,rfl,rfl,rfl,trivial⟩).2 i,trivial⟩⟩ (eb rfl)).mono ?_
 rintro e w' ⟨v,B',rfl,h1,h2,h3⟩
 have e1:v= .int .i64 21:=h1
 subst e1
 exact⟨rfl,h2⟩
theorem q_addBM {w:World} {g:Nat} {sl:Value} (S:List St) (s:St) (v:Value) (h:TrkS 223 w g sl S) (i:gj w v s) (hs:s.pose.ok 2) (gs:s.pose.good) (hS:S.length≤64) (r0:0≤s.tm) (r1:s.tm≤1099511627776) (hq:plN S s.tm<S.length) (y:St) (hy:S[plN S s.tm]? =some y) (ky:y.pose.ok 2) (gy:y.pose.good) (ey:y.tm≠s.tm) (ho:¬y.tm<s.tm) (z:St) (hz:S[plN S s.tm - 1]? =some z) (kz:z.pose.ok 2) (gz:z.pose.good) (hp:0<plN S s.tm) (oz:opp z.pose s.pose):
  Calls Tryz.prog 127 (.pointer (some ⟨g,0,none⟩)::[v]).toArray w fun e w'=>e= .returned (.int .i64 21)∧TrkM 223 w g sl S w':=by
 have hle:=bI S s.tm
 have hin:=bJ (s:=s) hle
 have hdr:((aM S (plN S s.tm) s).drop 1).length=(aM S (plN S s.tm) s).length - 1:=List.length_drop ..
 have ht1:(S.take (plN S s.tm)).length=plN S s.tm:=by rw[List.length_take];omega
 have ht2:(S.take (plN S s.tm)++ [s]).length=plN S s.tm+1:=by rw[List.length_append,ht1];rfl
 refine(aN (ρ:=frs (jU s y z)++([.rowB true sl stT S.length (aD S),.val (.int .i64 s.tm),.val (.int .i64 ((plN S s.tm:Nat):Int)),.val (.int .i64 (S.length:Int)),.plc stT y.qs,.val (.int .i64 y.tm),.val (.int .i64 (((plN S s.tm:Nat):Int) - 1)),.plc stT z.qs,.plc stT (frs z.pose.cs)]:List Vp)) (w:=w) (fuel:=300) (m:=63) (S':=S) (args:=[.one (.ptr 0 0),.agg (.ref 64::bG [0,1,2,3,4,5,6])]) (vs:=[.pointer (some ⟨g,0,none⟩),v]) (r:=.v (.one (.i .i64 21))) (l:=.ref 63) (lo:=[]) (obs:=[]) h
  (ae (bX (ka:=[0,1,2,3,4,5,6]) (a:=s.pose) ⟨rfl,rfl,rfl,rfl,rfl,rfl,rfl,trivial⟩ (hs.mono (by decide)) gs) (ae (xR (ka:=[14,15,16,17,18,19,20]) (a:=z.pose) (kb:=[0,1,2,3,4,5,6]) (b:=s.pose) ⟨rfl,rfl,rfl,rfl,rfl,rfl,rfl,trivial⟩ ⟨rfl,rfl,rfl,rfl,rfl,rfl,rfl,trivial⟩ (kz.mono (by decide)) (hs.mono (by decide)) gz gs oz) ai))
  (af (bH (y:=0) (o:=0) (t:=154) ⟨_,Tryz.underlying154⟩) (af (aC (t:=3) (az (n:=64) rfl) (aS (c:=0)) (a8 (by omega))) (af (aC (t:=3) (az (n:=64) rfl) (aS (c:=1099511627776)) (aX (by omega))) (af (cZ (u:=0) (m:=63) (S:=S) (a:=s.tm) (n:=65) (r:=.one .sl0) rfl (az (n:=64) rfl) rfl (by omega)) (af (ew 63 66 rfl rfl) (af (aC (t:=3) (az (n:=65) rfl) (az (n:=66) rfl) (bv (by omega))) (af (iaB (n:=63) (m:=67) rfl rfl (ce (az (n:=65) rfl) (by omega)) hy) (af (fa0 y 67 rfl) (af (ldt y 67 68 rfl rfl) (af (aC (t:=3) (az (n:=68) rfl) (az (n:=64) rfl) (bS (by omega))) (af (aC (t:=3) (az (n:=65) rfl) (aS (c:=0)) (cj (by omega))) (af (dF (m:=69) (t:=3) (az (n:=65) rfl) (aS (c:=1)) rfl rfl (by omega) (by omega)) (af (iaB (n:=63) (m:=70) rfl rfl (ce (az (n:=69) rfl) (by omega)) hz) (af (fa1 z 70 71 rfl rfl) (af (ldp z 71 [14,15,16,17,18,19,20] rfl ⟨rfl,rfl,rfl,rfl,rfl,rfl,rfl,trivial⟩) (aj)))))))))))))))) Tryz.func127 rfl (by kernel_rfl) aR ⟨df,⟨(cB (n:=64) (ks:=[0,1,2,3,4,5,6]) (s:=s) rfl ⟨rfl,rfl,rfl,rfl,rfl,rfl,rfl,trivial⟩).2 i,trivial⟩⟩ (eb rfl)).mono ?_
 rintro e w' ⟨v,B',rfl,h1,h2,h3⟩
 have e1:v= .int .i64 21:=h1
 subst e1
 exact⟨rfl,h2⟩
theorem q_addBN {w:World} {g:Nat} {sl:Value} (S:List St) (s:St) (v:Value) (h:TrkS 223 w g sl S) (i:gj w v s) (hs:s.pose.ok 2) (gs:s.pose.good) (hS:S.length≤64) (r0:0≤s.tm) (r1:s.tm≤1099511627776) (hq:plN S s.tm<S.length) (y:St) (hy:S[plN S s.tm]? =some y) (ky:y.pose.ok 2) (gy:y.pose.good) (ey:y.tm≠s.tm) (ho:¬y.tm<s.tm) (z:St) (hz:S[plN S s.tm - 1]? =some z) (kz:z.pose.ok 2) (gz:z.pose.good) (hp:0<plN S s.tm) (oz:¬opp z.pose s.pose) (oy:opp s.pose y.pose):
  Calls Tryz.prog 127 (.pointer (some ⟨g,0,none⟩)::[v]).toArray w fun e w'=>e= .returned (.int .i64 21)∧TrkM 223 w g sl S w':=by
 have hle:=bI S s.tm
 have hin:=bJ (s:=s) hle
 have hdr:((aM S (plN S s.tm) s).drop 1).length=(aM S (plN S s.tm) s).length - 1:=List.length_drop ..
 have ht1:(S.take (plN S s.tm)).length=plN S s.tm:=by rw[List.length_take];omega
 have ht2:(S.take (plN S s.tm)++ [s]).length=plN S s.tm+1:=by rw[List.length_append,ht1];rfl
 refine(aN (ρ:=frs (jU s y z)++([.rowB true sl stT S.length (aD S),.val (.int .i64 s.tm),.val (.int .i64 ((plN S s.tm:Nat):Int)),.val (.int .i64 (S.length:Int)),.plc stT y.qs,.val (.int .i64 y.tm),.val (.int .i64 (((plN S s.tm:Nat):Int) - 1)),.plc stT z.qs,.plc stT (frs z.pose.cs),.plc stT (frs y.pose.cs)]:List Vp)) (w:=w) (fuel:=300) (m:=63) (S':=S) (args:=[.one (.ptr 0 0),.agg (.ref 64::bG [0,1,2,3,4,5,6])]) (vs:=[.pointer (some ⟨g,0,none⟩),v]) (r:=.v (.one (.i .i64 21))) (l:=.ref 63) (lo:=[]) (obs:=[]) h
  (ae (bX (ka:=[0,1,2,3,4,5,6]) (a:=s.pose) ⟨rfl,rfl,rfl,rfl,rfl,rfl,rfl,trivial⟩ (hs.mono (by decide)) gs) (ae (lR (ka:=[14,15,16,17,18,19,20]) (a:=z.pose) (kb:=[0,1,2,3,4,5,6]) (b:=s.pose) ⟨rfl,rfl,rfl,rfl,rfl,rfl,rfl,trivial⟩ ⟨rfl,rfl,rfl,rfl,rfl,rfl,rfl,trivial⟩ (kz.mono (by decide)) (hs.mono (by decide)) gz gs oz) (ae (xR (ka:=[0,1,2,3,4,5,6]) (a:=s.pose) (kb:=[7,8,9,10,11,12,13]) (b:=y.pose) ⟨rfl,rfl,rfl,rfl,rfl,rfl,rfl,trivial⟩ ⟨rfl,rfl,rfl,rfl,rfl,rfl,rfl,trivial⟩ (hs.mono (by decide)) (ky.mono (by decide)) gs gy oy) ai)))
  (af (bH (y:=0) (o:=0) (t:=154) ⟨_,Tryz.underlying154⟩) (af (aC (t:=3) (az (n:=64) rfl) (aS (c:=0)) (a8 (by omega))) (af (aC (t:=3) (az (n:=64) rfl) (aS (c:=1099511627776)) (aX (by omega))) (af (cZ (u:=0) (m:=63) (S:=S) (a:=s.tm) (n:=65) (r:=.one .sl0) rfl (az (n:=64) rfl) rfl (by omega)) (af (ew 63 66 rfl rfl) (af (aC (t:=3) (az (n:=65) rfl) (az (n:=66) rfl) (bv (by omega))) (af (iaB (n:=63) (m:=67) rfl rfl (ce (az (n:=65) rfl) (by omega)) hy) (af (fa0 y 67 rfl) (af (ldt y 67 68 rfl rfl) (af (aC (t:=3) (az (n:=68) rfl) (az (n:=64) rfl) (bS (by omega))) (af (aC (t:=3) (az (n:=65) rfl) (aS (c:=0)) (cj (by omega))) (af (dF (m:=69) (t:=3) (az (n:=65) rfl) (aS (c:=1)) rfl rfl (by omega) (by omega)) (af (iaB (n:=63) (m:=70) rfl rfl (ce (az (n:=69) rfl) (by omega)) hz) (af (fa1 z 70 71 rfl rfl) (af (ldp z 71 [14,15,16,17,18,19,20] rfl ⟨rfl,rfl,rfl,rfl,rfl,rfl,rfl,trivial⟩) (af (fa1 y 67 72 rfl rfl) (af (ldp y 72 [7,8,9,10,11,12,13] rfl ⟨rfl,rfl,rfl,rfl,rfl,rfl,rfl,trivial⟩) (aj)))))))))))))))))) Tryz.func127 rfl (by kernel_rfl) aR ⟨df,⟨(cB (n:=64) (ks:=[0,1,2,3,4,5,6]) (s:=s) rfl ⟨rfl,rfl,rfl,rfl,rfl,rfl,rfl,trivial⟩).2 i,trivial⟩⟩ (eb rfl)).mono ?_
 rintro e w' ⟨v,B',rfl,h1,h2,h3⟩
 have e1:v= .int .i64 21:=h1
 subst e1
 exact⟨rfl,h2⟩
theorem q_addN {w:World} {g:Nat} {sl:Value} (S:List St) (s:St) (v:Value) (h:TrkS 223 w g sl S) (i:gj w v s) (hs:s.pose.ok 2) (gs:s.pose.good) (hS:S.length≤64) (r0:0≤s.tm) (r1:s.tm≤1099511627776) (hq:plN S s.tm=S.length) (hp:plN S s.tm=0):
  Calls Tryz.prog 127 (.pointer (some ⟨g,0,none⟩)::[v]).toArray w fun e w'=>e= .returned (.int .i64 0)∧TrkM 223 w g sl (aM S (plN S s.tm) s) w':=by
 have hle:=bI S s.tm
 have hin:=bJ (s:=s) hle
 have hdr:((aM S (plN S s.tm) s).drop 1).length=(aM S (plN S s.tm) s).length - 1:=List.length_drop ..
 have ht1:(S.take (plN S s.tm)).length=plN S s.tm:=by rw[List.length_take];omega
 have ht2:(S.take (plN S s.tm)++ [s]).length=plN S s.tm+1:=by rw[List.length_append,ht1];rfl
 refine(aN (ρ:=frs (jU s zst zst)++([.rowB true sl stT S.length (aD S),.val (.int .i64 s.tm),.val (.int .i64 ((plN S s.tm:Nat):Int)),.val (.int .i64 (S.length:Int)),.ownr stT 22 S.length (aD S),.row stT 1 s.qs,.ownr stT 22 (aM S (plN S s.tm) s).length (aD (aM S (plN S s.tm) s)),.val (.int .i64 ((aM S (plN S s.tm) s).length:Int))]:List Vp)) (w:=w) (fuel:=300) (m:=63) (S':=aM S (plN S s.tm) s) (args:=[.one (.ptr 0 0),.agg (.ref 64::bG [0,1,2,3,4,5,6])]) (vs:=[.pointer (some ⟨g,0,none⟩),v]) (r:=.v (.one (.i .i64 0))) (l:=.own 0 69) (lo:=[]) (obs:=[]) h
  (ae (bX (ka:=[0,1,2,3,4,5,6]) (a:=s.pose) ⟨rfl,rfl,rfl,rfl,rfl,rfl,rfl,trivial⟩ (hs.mono (by decide)) gs) (ae (nL (n:=64) (ks:=[0,1,2,3,4,5,6]) (s:=s) rfl ⟨rfl,rfl,rfl,rfl,rfl,rfl,rfl,trivial⟩ (hs.mono (by decide))) ai))
  (af (bH (y:=0) (o:=0) (t:=154) ⟨_,Tryz.underlying154⟩) (af (aC (t:=3) (az (n:=64) rfl) (aS (c:=0)) (a8 (by omega))) (af (aC (t:=3) (az (n:=64) rfl) (aS (c:=1099511627776)) (aX (by omega))) (af (cZ (u:=0) (m:=63) (S:=S) (a:=s.tm) (n:=65) (r:=.one .sl0) rfl (az (n:=64) rfl) rfl (by omega)) (af (ew 63 66 rfl rfl) (af (aC (t:=3) (az (n:=65) rfl) (az (n:=66) rfl) (a8 (by omega))) (af (aC (t:=3) (az (n:=65) rfl) (aS (c:=0)) (aX (by omega))) (af (dh (k:=0) (m:=67) (S:=S) (r:=.one .sl0) (v7 (n:=63) rfl) rfl (by omega)) (af (px (n:=64) (ks:=[0,1,2,3,4,5,6]) (m:=68) (s:=s) rfl ⟨rfl,rfl,rfl,rfl,rfl,rfl,rfl,trivial⟩ rfl) (af (dr (k:=0) (n:=67) (xn:=68) (i:=plN S s.tm) (s:=s) (m:=69) (r:=.one .sl0) rfl rfl (ce (az (n:=65) rfl) (by omega)) rfl (by omega) (by omega)) (af (jR (j:=0) (n:=69) (t:=183) ⟨_,Tryz.underlying183⟩ rfl (l:=.ref 70) (fun _ _=>aF rfl aK)) (af (aC (t:=3) (az (n:=70) rfl) (aS (c:=64)) (aX (by omega))) (aj))))))))))))) Tryz.func127 rfl (by kernel_rfl) aR ⟨df,⟨(cB (n:=64) (ks:=[0,1,2,3,4,5,6]) (s:=s) rfl ⟨rfl,rfl,rfl,rfl,rfl,rfl,rfl,trivial⟩).2 i,trivial⟩⟩ (wd rfl)).mono ?_
 rintro e w' ⟨v,B',rfl,h1,h2,h3⟩
 have e1:v= .int .i64 0:=h1
 subst e1
 exact⟨rfl,h2⟩
theorem q_addI0 {w:World} {g:Nat} {sl:Value} (S:List St) (s:St) (v:Value) (h:TrkS 223 w g sl S) (i:gj w v s) (hs:s.pose.ok 2) (gs:s.pose.good) (hS:S.length≤64) (r0:0≤s.tm) (r1:s.tm≤1099511627776) (hq:plN S s.tm<S.length) (hp:plN S s.tm=0) (y:St) (hy:S[plN S s.tm]? =some y) (ky:y.pose.ok 2) (gy:y.pose.good) (ey:y.tm≠s.tm) (ho:¬y.tm<s.tm) (oy:¬opp s.pose y.pose) (hl:S.length<64):
  Calls Tryz.prog 127 (.pointer (some ⟨g,0,none⟩)::[v]).toArray w fun e w'=>e= .returned (.int .i64 0)∧TrkM 223 w g sl (aM S (plN S s.tm) s) w':=by
 have hle:=bI S s.tm
 have hin:=bJ (s:=s) hle
 have hdr:((aM S (plN S s.tm) s).drop 1).length=(aM S (plN S s.tm) s).length - 1:=List.length_drop ..
 have ht1:(S.take (plN S s.tm)).length=plN S s.tm:=by rw[List.length_take];omega
 have ht2:(S.take (plN S s.tm)++ [s]).length=plN S s.tm+1:=by rw[List.length_append,ht1];rfl
 refine(aN (ρ:=frs (jU s y zst)++([.rowB true sl stT S.length (aD S),.val (.int .i64 s.tm),.val (.int .i64 ((plN S s.tm:Nat):Int)),.val (.int .i64 (S.length:Int)),.plc stT y.qs,.val (.int .i64 y.tm),.plc stT (frs y.pose.cs),.ownr stT 22 S.length (aD S),.row stT 1 s.qs,.ownr stT 22 (aM S (plN S s.tm) s).length (aD (aM S (plN S s.tm) s)),.val (.int .i64 ((aM S (plN S s.tm) s).length:Int))]:List Vp)) (w:=w) (fuel:=300) (m:=63) (S':=aM S (plN S s.tm) s) (args:=[.one (.ptr 0 0),.agg (.ref 64::bG [0,1,2,3,4,5,6])]) (vs:=[.pointer (some ⟨g,0,none⟩),v]) (r:=.v (.one (.i .i64 0))) (l:=.own 0 72) (lo:=[]) (obs:=[]) h
  (ae (bX (ka:=[0,1,2,3,4,5,6]) (a:=s.pose) ⟨rfl,rfl,rfl,rfl,rfl,rfl,rfl,trivial⟩ (hs.mono (by decide)) gs) (ae (lR (ka:=[0,1,2,3,4,5,6]) (a:=s.pose) (kb:=[7,8,9,10,11,12,13]) (b:=y.pose) ⟨rfl,rfl,rfl,rfl,rfl,rfl,rfl,trivial⟩ ⟨rfl,rfl,rfl,rfl,rfl,rfl,rfl,trivial⟩ (hs.mono (by decide)) (ky.mono (by decide)) gs gy oy) (ae (nL (n:=64) (ks:=[0,1,2,3,4,5,6]) (s:=s) rfl ⟨rfl,rfl,rfl,rfl,rfl,rfl,rfl,trivial⟩ (hs.mono (by decide))) ai)))
  (af (bH (y:=0) (o:=0) (t:=154) ⟨_,Tryz.underlying154⟩) (af (aC (t:=3) (az (n:=64) rfl) (aS (c:=0)) (a8 (by omega))) (af (aC (t:=3) (az (n:=64) rfl) (aS (c:=1099511627776)) (aX (by omega))) (af (cZ (u:=0) (m:=63) (S:=S) (a:=s.tm) (n:=65) (r:=.one .sl0) rfl (az (n:=64) rfl) rfl (by omega)) (af (ew 63 66 rfl rfl) (af (aC (t:=3) (az (n:=65) rfl) (az (n:=66) rfl) (bv (by omega))) (af (iaB (n:=63) (m:=67) rfl rfl (ce (az (n:=65) rfl) (by omega)) hy) (af (fa0 y 67 rfl) (af (ldt y 67 68 rfl rfl) (af (aC (t:=3) (az (n:=68) rfl) (az (n:=64) rfl) (bS (by omega))) (af (aC (t:=3) (az (n:=65) rfl) (aS (c:=0)) (aX (by omega))) (af (fa1 y 67 69 rfl rfl) (af (ldp y 69 [7,8,9,10,11,12,13] rfl ⟨rfl,rfl,rfl,rfl,rfl,rfl,rfl,trivial⟩) (af (dh (k:=0) (m:=70) (S:=S) (r:=.one .sl0) (v7 (n:=63) rfl) rfl (by omega)) (af (px (n:=64) (ks:=[0,1,2,3,4,5,6]) (m:=71) (s:=s) rfl ⟨rfl,rfl,rfl,rfl,rfl,rfl,rfl,trivial⟩ rfl) (af (dr (k:=0) (n:=70) (xn:=71) (i:=plN S s.tm) (s:=s) (m:=72) (r:=.one .sl0) rfl rfl (ce (az (n:=65) rfl) (by omega)) rfl (by omega) (by omega)) (af (jR (j:=0) (n:=72) (t:=183) ⟨_,Tryz.underlying183⟩ rfl (l:=.ref 73) (fun _ _=>aF rfl aK)) (af (aC (t:=3) (az (n:=73) rfl) (aS (c:=64)) (aX (by omega))) (aj))))))))))))))))))) Tryz.func127 rfl (by kernel_rfl) aR ⟨df,⟨(cB (n:=64) (ks:=[0,1,2,3,4,5,6]) (s:=s) rfl ⟨rfl,rfl,rfl,rfl,rfl,rfl,rfl,trivial⟩).2 i,trivial⟩⟩ (wd rfl)).mono ?_
 rintro e w' ⟨v,B',rfl,h1,h2,h3⟩
 have e1:v= .int .i64 0:=h1
 subst e1
 exact⟨rfl,h2⟩
theorem q_addIE {w:World} {g:Nat} {sl:Value} (S:List St) (s:St) (v:Value) (h:TrkS 223 w g sl S) (i:gj w v s) (hs:s.pose.ok 2) (gs:s.pose.good) (hS:S.length≤64) (r0:0≤s.tm) (r1:s.tm≤1099511627776) (hq:plN S s.tm=S.length) (z:St) (hz:S[plN S s.tm - 1]? =some z) (kz:z.pose.ok 2) (gz:z.pose.good) (hp:0<plN S s.tm) (oz:¬opp z.pose s.pose) (hl:S.length<64):
  Calls Tryz.prog 127 (.pointer (some ⟨g,0,none⟩)::[v]).toArray w fun e w'=>e= .returned (.int .i64 0)∧TrkM 223 w g sl (aM S (plN S s.tm) s) w':=by
 have hle:=bI S s.tm
 have hin:=bJ (s:=s) hle
 have hdr:((aM S (plN S s.tm) s).drop 1).length=(aM S (plN S s.tm) s).length - 1:=List.length_drop ..
 have ht1:(S.take (plN S s.tm)).length=plN S s.tm:=by rw[List.length_take];omega
 have ht2:(S.take (plN S s.tm)++ [s]).length=plN S s.tm+1:=by rw[List.length_append,ht1];rfl
 refine(aN (ρ:=frs (jU s zst z)++([.rowB true sl stT S.length (aD S),.val (.int .i64 s.tm),.val (.int .i64 ((plN S s.tm:Nat):Int)),.val (.int .i64 (S.length:Int)),.val (.int .i64 (((plN S s.tm:Nat):Int) - 1)),.plc stT z.qs,.plc stT (frs z.pose.cs),.ownr stT 22 S.length (aD S),.row stT 1 s.qs,.ownr stT 22 (aM S (plN S s.tm) s).length (aD (aM S (plN S s.tm) s)),.val (.int .i64 ((aM S (plN S s.tm) s).length:Int))]:List Vp)) (w:=w) (fuel:=300) (m:=63) (S':=aM S (plN S s.tm) s) (args:=[.one (.ptr 0 0),.agg (.ref 64::bG [0,1,2,3,4,5,6])]) (vs:=[.pointer (some ⟨g,0,none⟩),v]) (r:=.v (.one (.i .i64 0))) (l:=.own 0 72) (lo:=[]) (obs:=[]) h
  (ae (bX (ka:=[0,1,2,3,4,5,6]) (a:=s.pose) ⟨rfl,rfl,rfl,rfl,rfl,rfl,rfl,trivial⟩ (hs.mono (by decide)) gs) (ae (lR (ka:=[14,15,16,17,18,19,20]) (a:=z.pose) (kb:=[0,1,2,3,4,5,6]) (b:=s.pose) ⟨rfl,rfl,rfl,rfl,rfl,rfl,rfl,trivial⟩ ⟨rfl,rfl,rfl,rfl,rfl,rfl,rfl,trivial⟩ (kz.mono (by decide)) (hs.mono (by decide)) gz gs oz) (ae (nL (n:=64) (ks:=[0,1,2,3,4,5,6]) (s:=s) rfl ⟨rfl,rfl,rfl,rfl,rfl,rfl,rfl,trivial⟩ (hs.mono (by decide))) ai)))
  (af (bH (y:=0) (o:=0) (t:=154) ⟨_,Tryz.underlying154⟩) (af (aC (t:=3) (az (n:=64) rfl) (aS (c:=0)) (a8 (by omega))) (af (aC (t:=3) (az (n:=64) rfl) (aS (c:=1099511627776)) (aX (by omega))) (af (cZ (u:=0) (m:=63) (S:=S) (a:=s.tm) (n:=65) (r:=.one .sl0) rfl (az (n:=64) rfl) rfl (by omega)) (af (ew 63 66 rfl rfl) (af (aC (t:=3) (az (n:=65) rfl) (az (n:=66) rfl) (a8 (by omega))) (af (aC (t:=3) (az (n:=65) rfl) (aS (c:=0)) (cj (by omega))) (af (dF (m:=67) (t:=3) (az (n:=65) rfl) (aS (c:=1)) rfl rfl (by omega) (by omega)) (af (iaB (n:=63) (m:=68) rfl rfl (ce (az (n:=67) rfl) (by omega)) hz) (af (fa1 z 68 69 rfl rfl) (af (ldp z 69 [14,15,16,17,18,19,20] rfl ⟨rfl,rfl,rfl,rfl,rfl,rfl,rfl,trivial⟩) (af (dh (k:=0) (m:=70) (S:=S) (r:=.one .sl0) (v7 (n:=63) rfl) rfl (by omega)) (af (px (n:=64) (ks:=[0,1,2,3,4,5,6]) (m:=71) (s:=s) rfl ⟨rfl,rfl,rfl,rfl,rfl,rfl,rfl,trivial⟩ rfl) (af (dr (k:=0) (n:=70) (xn:=71) (i:=plN S s.tm) (s:=s) (m:=72) (r:=.one .sl0) rfl rfl (ce (az (n:=65) rfl) (by omega)) rfl (by omega) (by omega)) (af (jR (j:=0) (n:=72) (t:=183) ⟨_,Tryz.underlying183⟩ rfl (l:=.ref 73) (fun _ _=>aF rfl aK)) (af (aC (t:=3) (az (n:=73) rfl) (aS (c:=64)) (aX (by omega))) (aj))))))))))))))))) Tryz.func127 rfl (by kernel_rfl) aR ⟨df,⟨(cB (n:=64) (ks:=[0,1,2,3,4,5,6]) (s:=s) rfl ⟨rfl,rfl,rfl,rfl,rfl,rfl,rfl,trivial⟩).2 i,trivial⟩⟩ (wd rfl)).mono ?_
 rintro e w' ⟨v,B',rfl,h1,h2,h3⟩
 have e1:v= .int .i64 0:=h1
 subst e1
 exact⟨rfl,h2⟩
theorem q_addIM {w:World} {g:Nat} {sl:Value} (S:List St) (s:St) (v:Value) (h:TrkS 223 w g sl S) (i:gj w v s) (hs:s.pose.ok 2) (gs:s.pose.good) (hS:S.length≤64) (r0:0≤s.tm) (r1:s.tm≤1099511627776) (hq:plN S s.tm<S.length) (y:St) (hy:S[plN S s.tm]? =some y) (ky:y.pose.ok 2) (gy:y.pose.good) (ey:y.tm≠s.tm) (ho:¬y.tm<s.tm) (z:St) (hz:S[plN S s.tm - 1]? =some z) (kz:z.pose.ok 2) (gz:z.pose.good) (hp:0<plN S s.tm) (oz:¬opp z.pose s.pose) (oy:¬opp s.pose y.pose) (hl:S.length<64):
  Calls Tryz.prog 127 (.pointer (some ⟨g,0,none⟩)::[v]).toArray w fun e w'=>e= .returned (.int .i64 0)∧TrkM 223 w g sl (aM S (plN S s.tm) s) w':=by
 have hle:=bI S s.tm
 have hin:=bJ (s:=s) hle
 have hdr:((aM S (plN S s.tm) s).drop 1).length=(aM S (plN S s.tm) s).length - 1:=List.length_drop ..
 have ht1:(S.take (plN S s.tm)).length=plN S s.tm:=by rw[List.length_take];omega
 have ht2:(S.take (plN S s.tm)++ [s]).length=plN S s.tm+1:=by rw[List.length_append,ht1];rfl
 refine(aN (ρ:=frs (jU s y z)++([.rowB true sl stT S.length (aD S),.val (.int .i64 s.tm),.val (.int .i64 ((plN S s.tm:Nat):Int)),.val (.int .i64 (S.length:Int)),.plc stT y.qs,.val (.int .i64 y.tm),.val (.int .i64 (((plN S s.tm:Nat):Int) - 1)),.plc stT z.qs,.plc stT (frs z.pose.cs),.plc stT (frs y.pose.cs),.ownr stT 22 S.length (aD S),.row stT 1 s.qs,.ownr stT 22 (aM S (plN S s.tm) s).length (aD (aM S (plN S s.tm) s)),.val (.int .i64 ((aM S (plN S s.tm) s).length:Int))]:List Vp)) (w:=w) (fuel:=300) (m:=63) (S':=aM S (plN S s.tm) s) (args:=[.one (.ptr 0 0),.agg (.ref 64::bG [0,1,2,3,4,5,6])]) (vs:=[.pointer (some ⟨g,0,none⟩),v]) (r:=.v (.one (.i .i64 0))) (l:=.own 0 75) (lo:=[]) (obs:=[]) h
  (ae (bX (ka:=[0,1,2,3,4,5,6]) (a:=s.pose) ⟨rfl,rfl,rfl,rfl,rfl,rfl,rfl,trivial⟩ (hs.mono (by decide)) gs) (ae (lR (ka:=[14,15,16,17,18,19,20]) (a:=z.pose) (kb:=[0,1,2,3,4,5,6]) (b:=s.pose) ⟨rfl,rfl,rfl,rfl,rfl,rfl,rfl,trivial⟩ ⟨rfl,rfl,rfl,rfl,rfl,rfl,rfl,trivial⟩ (kz.mono (by decide)) (hs.mono (by decide)) gz gs oz) (ae (lR (ka:=[0,1,2,3,4,5,6]) (a:=s.pose) (kb:=[7,8,9,10,11,12,13]) (b:=y.pose) ⟨rfl,rfl,rfl,rfl,rfl,rfl,rfl,trivial⟩ ⟨rfl,rfl,rfl,rfl,rfl,rfl,rfl,trivial⟩ (hs.mono (by decide)) (ky.mono (by decide)) gs gy oy) (ae (nL (n:=64) (ks:=[0,1,2,3,4,5,6]) (s:=s) rfl ⟨rfl,rfl,rfl,rfl,rfl,rfl,rfl,trivial⟩ (hs.mono (by decide))) ai))))
  (af (bH (y:=0) (o:=0) (t:=154) ⟨_,Tryz.underlying154⟩) (af (aC (t:=3) (az (n:=64) rfl) (aS (c:=0)) (a8 (by omega))) (af (aC (t:=3) (az (n:=64) rfl) (aS (c:=1099511627776)) (aX (by omega))) (af (cZ (u:=0) (m:=63) (S:=S) (a:=s.tm) (n:=65) (r:=.one .sl0) rfl (az (n:=64) rfl) rfl (by omega)) (af (ew 63 66 rfl rfl) (af (aC (t:=3) (az (n:=65) rfl) (az (n:=66) rfl) (bv (by omega))) (af (iaB (n:=63) (m:=67) rfl rfl (ce (az (n:=65) rfl) (by omega)) hy) (af (fa0 y 67 rfl) (af (ldt y 67 68 rfl rfl) (af (aC (t:=3) (az (n:=68) rfl) (az (n:=64) rfl) (bS (by omega))) (af (aC (t:=3) (az (n:=65) rfl) (aS (c:=0)) (cj (by omega))) (af (dF (m:=69) (t:=3) (az (n:=65) rfl) (aS (c:=1)) rfl rfl (by omega) (by omega)) (af (iaB (n:=63) (m:=70) rfl rfl (ce (az (n:=69) rfl) (by omega)) hz) (af (fa1 z 70 71 rfl rfl) (af (ldp z 71 [14,15,16,17,18,19,20] rfl ⟨rfl,rfl,rfl,rfl,rfl,rfl,rfl,trivial⟩) (af (fa1 y 67 72 rfl rfl) (af (ldp y 72 [7,8,9,10,11,12,13] rfl ⟨rfl,rfl,rfl,rfl,rfl,rfl,rfl,trivial⟩) (af (dh (k:=0) (m:=73) (S:=S) (r:=.one .sl0) (v7 (n:=63) rfl) rfl (by omega)) (af (px (n:=64) (ks:=[0,1,2,3,4,5,6]) (m:=74) (s:=s) rfl ⟨rfl,rfl,rfl,rfl,rfl,rfl,rfl,trivial⟩ rfl) (af (dr (k:=0) (n:=73) (xn:=74) (i:=plN S s.tm) (s:=s) (m:=75) (r:=.one .sl0) rfl rfl (ce (az (n:=65) rfl) (by omega)) rfl (by omega) (by omega)) (af (jR (j:=0) (n:=75) (t:=183) ⟨_,Tryz.underlying183⟩ rfl (l:=.ref 76) (fun _ _=>aF rfl aK)) (af (aC (t:=3) (az (n:=76) rfl) (aS (c:=64)) (aX (by omega))) (aj))))))))))))))))))))))) Tryz.func127 rfl (by kernel_rfl) aR ⟨df,⟨(cB (n:=64) (ks:=[0,1,2,3,4,5,6]) (s:=s) rfl ⟨rfl,rfl,rfl,rfl,rfl,rfl,rfl,trivial⟩).2 i,trivial⟩⟩ (wd rfl)).mono ?_
 rintro e w' ⟨v,B',rfl,h1,h2,h3⟩
 have e1:v= .int .i64 0:=h1
 subst e1
 exact⟨rfl,h2⟩
theorem q_addI0D {w:World} {g:Nat} {sl:Value} (S:List St) (s:St) (v:Value) (h:TrkS 223 w g sl S) (i:gj w v s) (hs:s.pose.ok 2) (gs:s.pose.good) (hS:S.length≤64) (r0:0≤s.tm) (r1:s.tm≤1099511627776) (hq:plN S s.tm<S.length) (hp:plN S s.tm=0) (y:St) (hy:S[plN S s.tm]? =some y) (ky:y.pose.ok 2) (gy:y.pose.good) (ey:y.tm≠s.tm) (ho:¬y.tm<s.tm) (oy:¬opp s.pose y.pose) (hl:S.length=64):
  Calls Tryz.prog 127 (.pointer (some ⟨g,0,none⟩)::[v]).toArray w fun e w'=>e= .returned (.int .i64 0)∧TrkM 223 w g sl ((aM S (plN S s.tm) s).drop 1) w':=by
 have hle:=bI S s.tm
 have hin:=bJ (s:=s) hle
 have hdr:((aM S (plN S s.tm) s).drop 1).length=(aM S (plN S s.tm) s).length - 1:=List.length_drop ..
 have ht1:(S.take (plN S s.tm)).length=plN S s.tm:=by rw[List.length_take];omega
 have ht2:(S.take (plN S s.tm)++ [s]).length=plN S s.tm+1:=by rw[List.length_append,ht1];rfl
 refine(aN (ρ:=frs (jU s y zst)++([.rowB true sl stT S.length (aD S),.val (.int .i64 s.tm),.val (.int .i64 ((plN S s.tm:Nat):Int)),.val (.int .i64 (S.length:Int)),.plc stT y.qs,.val (.int .i64 y.tm),.plc stT (frs y.pose.cs),.ownr stT 22 S.length (aD S),.row stT 1 s.qs,.ownr stT 22 (aM S (plN S s.tm) s).length (aD (aM S (plN S s.tm) s)),.val (.int .i64 ((aM S (plN S s.tm) s).length:Int)),.row stT ((aM S (plN S s.tm) s).drop 1).length (aD ((aM S (plN S s.tm) s).drop 1)),.ownr stT 22 ((aM S (plN S s.tm) s).drop 1).length (aD ((aM S (plN S s.tm) s).drop 1))]:List Vp)) (w:=w) (fuel:=300) (m:=63) (S':=(aM S (plN S s.tm) s).drop 1) (args:=[.one (.ptr 0 0),.agg (.ref 64::bG [0,1,2,3,4,5,6])]) (vs:=[.pointer (some ⟨g,0,none⟩),v]) (r:=.v (.one (.i .i64 0))) (l:=.own 1 75) (lo:=[]) (obs:=[]) h
  (ae (bX (ka:=[0,1,2,3,4,5,6]) (a:=s.pose) ⟨rfl,rfl,rfl,rfl,rfl,rfl,rfl,trivial⟩ (hs.mono (by decide)) gs) (ae (lR (ka:=[0,1,2,3,4,5,6]) (a:=s.pose) (kb:=[7,8,9,10,11,12,13]) (b:=y.pose) ⟨rfl,rfl,rfl,rfl,rfl,rfl,rfl,trivial⟩ ⟨rfl,rfl,rfl,rfl,rfl,rfl,rfl,trivial⟩ (hs.mono (by decide)) (ky.mono (by decide)) gs gy oy) (ae (nL (n:=64) (ks:=[0,1,2,3,4,5,6]) (s:=s) rfl ⟨rfl,rfl,rfl,rfl,rfl,rfl,rfl,trivial⟩ (hs.mono (by decide))) ai)))
  (af (bH (y:=0) (o:=0) (t:=154) ⟨_,Tryz.underlying154⟩) (af (aC (t:=3) (az (n:=64) rfl) (aS (c:=0)) (a8 (by omega))) (af (aC (t:=3) (az (n:=64) rfl) (aS (c:=1099511627776)) (aX (by omega))) (af (cZ (u:=0) (m:=63) (S:=S) (a:=s.tm) (n:=65) (r:=.one .sl0) rfl (az (n:=64) rfl) rfl (by omega)) (af (ew 63 66 rfl rfl) (af (aC (t:=3) (az (n:=65) rfl) (az (n:=66) rfl) (bv (by omega))) (af (iaB (n:=63) (m:=67) rfl rfl (ce (az (n:=65) rfl) (by omega)) hy) (af (fa0 y 67 rfl) (af (ldt y 67 68 rfl rfl) (af (aC (t:=3) (az (n:=68) rfl) (az (n:=64) rfl) (bS (by omega))) (af (aC (t:=3) (az (n:=65) rfl) (aS (c:=0)) (aX (by omega))) (af (fa1 y 67 69 rfl rfl) (af (ldp y 69 [7,8,9,10,11,12,13] rfl ⟨rfl,rfl,rfl,rfl,rfl,rfl,rfl,trivial⟩) (af (dh (k:=0) (m:=70) (S:=S) (r:=.one .sl0) (v7 (n:=63) rfl) rfl (by omega)) (af (px (n:=64) (ks:=[0,1,2,3,4,5,6]) (m:=71) (s:=s) rfl ⟨rfl,rfl,rfl,rfl,rfl,rfl,rfl,trivial⟩ rfl) (af (dr (k:=0) (n:=70) (xn:=71) (i:=plN S s.tm) (s:=s) (m:=72) (r:=.one .sl0) rfl rfl (ce (az (n:=65) rfl) (by omega)) rfl (by omega) (by omega)) (af (jR (j:=0) (n:=72) (t:=183) ⟨_,Tryz.underlying183⟩ rfl (l:=.ref 73) (fun _ _=>aF rfl aK)) (af (aC (t:=3) (az (n:=73) rfl) (aS (c:=64)) (cj (by omega))) (af (pw (j:=0) (n:=72) (m:=74) (k:=1) (t:=183) Tryz.underlying183 (by kernel_rfl) rfl (by rfl) rfl (ce (aS (c:=1)) (by omega)) (by omega)) (af (dh (k:=1) (m:=75) (S:=((aM S (plN S s.tm) s).drop 1)) (r:=.one .sl0) (rl_o (j:=0) (n:=74) rfl) rfl (by omega)) (aj))))))))))))))))))))) Tryz.func127 rfl (by kernel_rfl) aR ⟨df,⟨(cB (n:=64) (ks:=[0,1,2,3,4,5,6]) (s:=s) rfl ⟨rfl,rfl,rfl,rfl,rfl,rfl,rfl,trivial⟩).2 i,trivial⟩⟩ (wd rfl)).mono ?_
 rintro e w' ⟨v,B',rfl,h1,h2,h3⟩
 have e1:v= .int .i64 0:=h1
 subst e1
 exact⟨rfl,h2⟩
theorem q_addIED {w:World} {g:Nat} {sl:Value} (S:List St) (s:St) (v:Value) (h:TrkS 223 w g sl S) (i:gj w v s) (hs:s.pose.ok 2) (gs:s.pose.good) (hS:S.length≤64) (r0:0≤s.tm) (r1:s.tm≤1099511627776) (hq:plN S s.tm=S.length) (z:St) (hz:S[plN S s.tm - 1]? =some z) (kz:z.pose.ok 2) (gz:z.pose.good) (hp:0<plN S s.tm) (oz:¬opp z.pose s.pose) (hl:S.length=64):
  Calls Tryz.prog 127 (.pointer (some ⟨g,0,none⟩)::[v]).toArray w fun e w'=>e= .returned (.int .i64 0)∧TrkM 223 w g sl ((aM S (plN S s.tm) s).drop 1) w':=by
 have hle:=bI S s.tm
 have hin:=bJ (s:=s) hle
 have hdr:((aM S (plN S s.tm) s).drop 1).length=(aM S (plN S s.tm) s).length - 1:=List.length_drop ..
 have ht1:(S.take (plN S s.tm)).length=plN S s.tm:=by rw[List.length_take];omega
 have ht2:(S.take (plN S s.tm)++ [s]).length=plN S s.tm+1:=by rw[List.length_append,ht1];rfl
 refine(aN (ρ:=frs (jU s zst z)++([.rowB true sl stT S.length (aD S),.val (.int .i64 s.tm),.val (.int .i64 ((plN S s.tm:Nat):Int)),.val (.int .i64 (S.length:Int)),.val (.int .i64 (((plN S s.tm:Nat):Int) - 1)),.plc stT z.qs,.plc stT (frs z.pose.cs),.ownr stT 22 S.length (aD S),.row stT 1 s.qs,.ownr stT 22 (aM S (plN S s.tm) s).length (aD (aM S (plN S s.tm) s)),.val (.int .i64 ((aM S (plN S s.tm) s).length:Int)),.row stT ((aM S (plN S s.tm) s).drop 1).length (aD ((aM S (plN S s.tm) s).drop 1)),.ownr stT 22 ((aM S (plN S s.tm) s).drop 1).length (aD ((aM S (plN S s.tm) s).drop 1))]:List Vp)) (w:=w) (fuel:=300) (m:=63) (S':=(aM S (plN S s.tm) s).drop 1) (args:=[.one (.ptr 0 0),.agg (.ref 64::bG [0,1,2,3,4,5,6])]) (vs:=[.pointer (some ⟨g,0,none⟩),v]) (r:=.v (.one (.i .i64 0))) (l:=.own 1 75) (lo:=[]) (obs:=[]) h
  (ae (bX (ka:=[0,1,2,3,4,5,6]) (a:=s.pose) ⟨rfl,rfl,rfl,rfl,rfl,rfl,rfl,trivial⟩ (hs.mono (by decide)) gs) (ae (lR (ka:=[14,15,16,17,18,19,20]) (a:=z.pose) (kb:=[0,1,2,3,4,5,6]) (b:=s.pose) ⟨rfl,rfl,rfl,rfl,rfl,rfl,rfl,trivial⟩ ⟨rfl,rfl,rfl,rfl,rfl,rfl,rfl,trivial⟩ (kz.mono (by decide)) (hs.mono (by decide)) gz gs oz) (ae (nL (n:=64) (ks:=[0,1,2,3,4,5,6]) (s:=s) rfl ⟨rfl,rfl,rfl,rfl,rfl,rfl,rfl,trivial⟩ (hs.mono (by decide))) ai)))
  (af (bH (y:=0) (o:=0) (t:=154) ⟨_,Tryz.underlying154⟩) (af (aC (t:=3) (az (n:=64) rfl) (aS (c:=0)) (a8 (by omega))) (af (aC (t:=3) (az (n:=64) rfl) (aS (c:=1099511627776)) (aX (by omega))) (af (cZ (u:=0) (m:=63) (S:=S) (a:=s.tm) (n:=65) (r:=.one .sl0) rfl (az (n:=64) rfl) rfl (by omega)) (af (ew 63 66 rfl rfl) (af (aC (t:=3) (az (n:=65) rfl) (az (n:=66) rfl) (a8 (by omega))) (af (aC (t:=3) (az (n:=65) rfl) (aS (c:=0)) (cj (by omega))) (af (dF (m:=67) (t:=3) (az (n:=65) rfl) (aS (c:=1)) rfl rfl (by omega) (by omega)) (af (iaB (n:=63) (m:=68) rfl rfl (ce (az (n:=67) rfl) (by omega)) hz) (af (fa1 z 68 69 rfl rfl) (af (ldp z 69 [14,15,16,17,18,19,20] rfl ⟨rfl,rfl,rfl,rfl,rfl,rfl,rfl,trivial⟩) (af (dh (k:=0) (m:=70) (S:=S) (r:=.one .sl0) (v7 (n:=63) rfl) rfl (by omega)) (af (px (n:=64) (ks:=[0,1,2,3,4,5,6]) (m:=71) (s:=s) rfl ⟨rfl,rfl,rfl,rfl,rfl,rfl,rfl,trivial⟩ rfl) (af (dr (k:=0) (n:=70) (xn:=71) (i:=plN S s.tm) (s:=s) (m:=72) (r:=.one .sl0) rfl rfl (ce (az (n:=65) rfl) (by omega)) rfl (by omega) (by omega)) (af (jR (j:=0) (n:=72) (t:=183) ⟨_,Tryz.underlying183⟩ rfl (l:=.ref 73) (fun _ _=>aF rfl aK)) (af (aC (t:=3) (az (n:=73) rfl) (aS (c:=64)) (cj (by omega))) (af (pw (j:=0) (n:=72) (m:=74) (k:=1) (t:=183) Tryz.underlying183 (by kernel_rfl) rfl (by rfl) rfl (ce (aS (c:=1)) (by omega)) (by omega)) (af (dh (k:=1) (m:=75) (S:=((aM S (plN S s.tm) s).drop 1)) (r:=.one .sl0) (rl_o (j:=0) (n:=74) rfl) rfl (by omega)) (aj))))))))))))))))))) Tryz.func127 rfl (by kernel_rfl) aR ⟨df,⟨(cB (n:=64) (ks:=[0,1,2,3,4,5,6]) (s:=s) rfl ⟨rfl,rfl,rfl,rfl,rfl,rfl,rfl,trivial⟩).2 i,trivial⟩⟩ (wd rfl)).mono ?_
 rintro e w' ⟨v,B',rfl,h1,h2,h3⟩
 have e1:v= .int .i64 0:=h1
 subst e1
 exact⟨rfl,h2⟩
theorem q_addIMD {w:World} {g:Nat} {sl:Value} (S:List St) (s:St) (v:Value) (h:TrkS 223 w g sl S) (i:gj w v s) (hs:s.pose.ok 2) (gs:s.pose.good) (hS:S.length≤64) (r0:0≤s.tm) (r1:s.tm≤1099511627776) (hq:plN S s.tm<S.length) (y:St) (hy:S[plN S s.tm]? =some y) (ky:y.pose.ok 2) (gy:y.pose.good) (ey:y.tm≠s.tm) (ho:¬y.tm<s.tm) (z:St) (hz:S[plN S s.tm - 1]? =some z) (kz:z.pose.ok 2) (gz:z.pose.good) (hp:0<plN S s.tm) (oz:¬opp z.pose s.pose) (oy:¬opp s.pose y.pose) (hl:S.length=64):
  Calls Tryz.prog 127 (.pointer (some ⟨g,0,none⟩)::[v]).toArray w fun e w'=>e= .returned (.int .i64 0)∧TrkM 223 w g sl ((aM S (plN S s.tm) s).drop 1) w':=by
 have hle:=bI S s.tm
 have hin:=bJ (s:=s) hle
 have hdr:((aM S (plN S s.tm) s).drop 1).length=(aM S (plN S s.tm) s).length - 1:=List.length_drop ..
 have ht1:(S.take (plN S s.tm)).length=plN S s.tm:=by rw[List.length_take];omega
 have ht2:(S.take (plN S s.tm)++ [s]).length=plN S s.tm+1:=by rw[List.length_append,ht1];rfl
 refine(aN (ρ:=frs (jU s y z)++([.rowB true sl stT S.length (aD S),.val (.int .i64 s.tm),.val (.int .i64 ((plN S s.tm:Nat):Int)),.val (.int .i64 (S.length:Int)),.plc stT y.qs,.val (.int .i64 y.tm),.val (.int .i64 (((plN S s.tm:Nat):Int) - 1)),.plc stT z.qs,.plc stT (frs z.pose.cs),.plc stT (frs y.pose.cs),.ownr stT 22 S.length (aD S),.row stT 1 s.qs,.ownr stT 22 (aM S (plN S s.tm) s).length (aD (aM S (plN S s.tm) s)),.val (.int .i64 ((aM S (plN S s.tm) s).length:Int)),.row stT ((aM S (plN S s.tm) s).drop 1).length (aD ((aM S (plN S s.tm) s).drop 1)),.ownr stT 22 ((aM S (plN S s.tm) s).drop 1).length (aD ((aM S (plN S s.tm) s).drop 1))]:List Vp)) (w:=w) (fuel:=300) (m:=63) (S':=(aM S (plN S s.tm) s).drop 1) (args:=[.one (.ptr 0 0),.agg (.ref 64::bG [0,1,2,3,4,5,6])]) (vs:=[.pointer (some ⟨g,0,none⟩),v]) (r:=.v (.one (.i .i64 0))) (l:=.own 1 78) (lo:=[]) (obs:=[]) h
  (ae (bX (ka:=[0,1,2,3,4,5,6]) (a:=s.pose) ⟨rfl,rfl,rfl,rfl,rfl,rfl,rfl,trivial⟩ (hs.mono (by decide)) gs) (ae (lR (ka:=[14,15,16,17,18,19,20]) (a:=z.pose) (kb:=[0,1,2,3,4,5,6]) (b:=s.pose) ⟨rfl,rfl,rfl,rfl,rfl,rfl,rfl,trivial⟩ ⟨rfl,rfl,rfl,rfl,rfl,rfl,rfl,trivial⟩ (kz.mono (by decide)) (hs.mono (by decide)) gz gs oz) (ae (lR (ka:=[0,1,2,3,4,5,6]) (a:=s.pose) (kb:=[7,8,9,10,11,12,13]) (b:=y.pose) ⟨rfl,rfl,rfl,rfl,rfl,rfl,rfl,trivial⟩ ⟨rfl,rfl,rfl,rfl,rfl,rfl,rfl,trivial⟩ (hs.mono (by decide)) (ky.mono (by decide)) gs gy oy) (ae (nL (n:=64) (ks:=[0,1,2,3,4,5,6]) (s:=s) rfl ⟨rfl,rfl,rfl,rfl,rfl,rfl,rfl,trivial⟩ (hs.mono (by decide))) ai))))
  (af (bH (y:=0) (o:=0) (t:=154) ⟨_,Tryz.underlying154⟩) (af (aC (t:=3) (az (n:=64) rfl) (aS (c:=0)) (a8 (by omega))) (af (aC (t:=3) (az (n:=64) rfl) (aS (c:=1099511627776)) (aX (by omega))) (af (cZ (u:=0) (m:=63) (S:=S) (a:=s.tm) (n:=65) (r:=.one .sl0) rfl (az (n:=64) rfl) rfl (by omega)) (af (ew 63 66 rfl rfl) (af (aC (t:=3) (az (n:=65) rfl) (az (n:=66) rfl) (bv (by omega))) (af (iaB (n:=63) (m:=67) rfl rfl (ce (az (n:=65) rfl) (by omega)) hy) (af (fa0 y 67 rfl) (af (ldt y 67 68 rfl rfl) (af (aC (t:=3) (az (n:=68) rfl) (az (n:=64) rfl) (bS (by omega))) (af (aC (t:=3) (az (n:=65) rfl) (aS (c:=0)) (cj (by omega))) (af (dF (m:=69) (t:=3) (az (n:=65) rfl) (aS (c:=1)) rfl rfl (by omega) (by omega)) (af (iaB (n:=63) (m:=70) rfl rfl (ce (az (n:=69) rfl) (by omega)) hz) (af (fa1 z 70 71 rfl rfl) (af (ldp z 71 [14,15,16,17,18,19,20] rfl ⟨rfl,rfl,rfl,rfl,rfl,rfl,rfl,trivial⟩) (af (fa1 y 67 72 rfl rfl) (af (ldp y 72 [7,8,9,10,11,12,13] rfl ⟨rfl,rfl,rfl,rfl,rfl,rfl,rfl,trivial⟩) (af (dh (k:=0) (m:=73) (S:=S) (r:=.one .sl0) (v7 (n:=63) rfl) rfl (by omega)) (af (px (n:=64) (ks:=[0,1,2,3,4,5,6]) (m:=74) (s:=s) rfl ⟨rfl,rfl,rfl,rfl,rfl,rfl,rfl,trivial⟩ rfl) (af (dr (k:=0) (n:=73) (xn:=74) (i:=plN S s.tm) (s:=s) (m:=75) (r:=.one .sl0) rfl rfl (ce (az (n:=65) rfl) (by omega)) rfl (by omega) (by omega)) (af (jR (j:=0) (n:=75) (t:=183) ⟨_,Tryz.underlying183⟩ rfl (l:=.ref 76) (fun _ _=>aF rfl aK)) (af (aC (t:=3) (az (n:=76) rfl) (aS (c:=64)) (cj (by omega))) (af (pw (j:=0) (n:=75) (m:=77) (k:=1) (t:=183) Tryz.underlying183 (by kernel_rfl) rfl (by rfl) rfl (ce (aS (c:=1)) (by omega)) (by omega)) (af (dh (k:=1) (m:=78) (S:=((aM S (plN S s.tm) s).drop 1)) (r:=.one .sl0) (rl_o (j:=0) (n:=77) rfl) rfl (by omega)) (aj))))))))))))))))))))))))) Tryz.func127 rfl (by kernel_rfl) aR ⟨df,⟨(cB (n:=64) (ks:=[0,1,2,3,4,5,6]) (s:=s) rfl ⟨rfl,rfl,rfl,rfl,rfl,rfl,rfl,trivial⟩).2 i,trivial⟩⟩ (wd rfl)).mono ?_
 rintro e w' ⟨v,B',rfl,h1,h2,h3⟩
 have e1:v= .int .i64 0:=h1
 subst e1
 exact⟨rfl,h2⟩
def fQ:List Nat→List Leaf
 | []=>[]
 | n::ns=>.ref n::.ref (n+1)::.ref (n+2)::fQ ns
def fR (ns:List Nat):SV:=.agg (fQ ns)
def AtR (ρ:Rho):List Nat→List Rq→Prop
 | [],[]=>True
 | n::ns,r::rs=>(ρ[n]? =some (.val (.bool r.s))∧ρ[n+1]? =some (.dig r.L r.p)∧ρ[n+2]? =some (.dig r.N r.q))∧AtR ρ ns rs
 | _,_=>False
def Rq.vld (r:Rq):Bool:=decide (nl r.p=r.L∧nl r.q=r.N) && (Fq.mk r.s r.p r.q).valid
section
variable {ρ:Rho} {xs:List Fq} {ys:Rho} {n m k:Nat} {u v:Int} {l:Leaf} {t:TypeId} {B:Blk} {w:World} {r:Rq}
theorem fo:∀ {ns:List Nat} {rs:List Rq} {cs:List Value},AtR ρ ns rs→(aB ρ B w (fQ ns) cs↔bx w rs cs)
 | [],[],cs,_=>by
  constructor
  ·intro h;match cs,h with | [],_=>rfl
  ·intro h;have h:cs=[]:=h;subst h;trivial
 | n::ns,r::rs,cs,h=>by
  obtain⟨⟨h1,h2,h3⟩,h4⟩:=h
  have ih:=fun cs=>fo (ns:=ns) (rs:=rs) (cs:=cs) h4
  constructor
  ·intro hl
   match cs,hl with
   | u1::u2::u3::cs',hl=>
    obtain⟨g1,g2,g3,g4⟩:=hl
    have e1:=(leafB h1).1 g1
    have e2:=(iz h2).1 g2
    have e3:=(iz h3).1 g3
    obtain⟨a,c,rfl⟩:=i9 e2
    obtain⟨b,d,rfl⟩:=i9 e3
    subst e1
    exact⟨a,c,b,d,cs',rfl,e2,e3,(ih cs').1 g4⟩
   | [],hl=>exact hl.elim
   | [_],hl=>exact hl.2.elim
   | [_,_],hl=>exact hl.2.2.elim
  ·rintro⟨a,c,b,d,cs',rfl,i1,i2,i3⟩
   exact⟨(leafB h1).2 rfl,(iz h2).2 i1,(iz h3).2 i2,(ih cs').2 i3⟩
 | [],_::_,_,h=>h.elim
 | _::_,[],_,h=>h.elim
theorem bz {ns:List Nat} {rs:List Rq} {x:Value} (h:AtR ρ ns rs):(fR ns).holds ρ B w x↔IsL w x rs:=by
 constructor
 ·rintro⟨cs,rfl,h1⟩;exact⟨cs,rfl,(fo h).1 h1⟩
 ·rintro⟨cs,rfl,h1⟩;exact⟨cs,rfl,(fo h).2 h1⟩
theorem isL_FR {x:Value} (h:IsL w x [r]):tH w x r.s r.L r.p r.N r.q:=by
 obtain⟨cs,rfl,a,c,b,d,cs',rfl,i1,i2,e⟩:=h
 have e:cs'=[]:=e
 subst e
 exact⟨a,c,b,d,rfl,i1,i2⟩
theorem dG (h:r.vld=true):r=(Fq.mk r.s r.p r.q).raw∧(Fq.mk r.s r.p r.q).valid=true:=by
 unfold Rq.vld at h
 simp only[Bool.and_eq_true,decide_eq_true_eq]at h
 obtain⟨⟨h1,h2⟩,h3⟩:=h
 refine⟨?_,h3⟩
 obtain⟨s,L,p,N,q⟩:=r
 simp only at h1 h2
 subst h1;subst h2;rfl
theorem zq (x:Value) (w:World) (h:IsL w x [r]) (hL:r.L≤1000000) (hN:r.N≤1000000):Calls Tryz.prog 235 #[x] w fun e w'=>cz w (.bool r.vld) e w':=by
 have hf:=isL_FR h
 by_cases hc:nl r.p=r.L∧nl r.q=r.N
 ·have e:r.vld=(Fq.mk r.s r.p r.q).valid:=by unfold Rq.vld;simp[hc]
  rw[e]
  exact tI x ⟨r.s,r.p,r.q⟩ w (hf.isQ hc.1 hc.2) (by show nl r.p≤_;omega) (by show nl r.q≤_;omega)
 ·have e:r.vld=false:=by unfold Rq.vld;simp[hc]
  rw[e]
  exact yP x r.s r.L r.p r.N r.q w hf hL hN hc
theorem instX {f:FuncId} {b d:Bool} (hen:jo f) (hc:∀x w,IsL w x [r]→Calls Tryz.prog f #[x] w (fun e w'=>cz w (.bool b) e w')) (hr:AtR (frs xs++ys) [n] [r]) (h:b=d):OkI xs ys ⟨f,[fR [n]],.v (.one (.b d))⟩:=
 ⟨hen,fun B w vs hB hv=>by
  match vs,hv with
  | [va],hv=>
   refine(hc va w ((bz hr).1 hv.1)).mono ?_
   rintro e w' ⟨rfl,h2⟩
   exact⟨_,rfl,by subst h;rfl,h2⟩⟩
theorem bk {d:Bool} (hr:AtR (frs xs++ys) [n] [r]) (h:r.vld=d) (hL:r.L≤1000000) (hN:r.N≤1000000):OkI xs ys ⟨235,[fR [n]],.v (.one (.b d))⟩:=
 instX (aA Tryz.func235 rfl rfl) (fun x w hx=>zq x w hx hL hN) hr h
end
theorem r8 {r:Rq} (h:r.vld=true):nl r.p=r.L∧nl r.q=r.N:=by
 unfold Rq.vld at h
 simp only[Bool.and_eq_true,decide_eq_true_eq]at h
 exact h.1
def Rq.sh (r:Rq):Bool:=decide (r.L≤4) && decide (r.N≤4)
def Rq.sm (r:Rq):Bool:=r.sh && r.vld
end Go.Proofs.YtggfmklppkioeaaGreat
