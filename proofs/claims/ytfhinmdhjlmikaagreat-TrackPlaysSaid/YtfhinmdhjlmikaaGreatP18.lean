/- Tracks: around, At, Around, Span, Len, Drop. Tracks: stamps as they come in, List. -/
import Derived.Test.YtfhinmdhjlmikaaGreatP17
namespace Go.Proofs.YtfhinmdhjlmikaaGreat
set_option linter.unusedSimpArgs false
set_option linter.unusedVariables false
set_option maxRecDepth 100000
open Go.RowKit
theorem d5 {ρ:Rho} {B:Blk} {w:World} {v:Value} (h:(SV.agg (.i .i64 0::List.flatten (List.replicate 7 [.b false,.sl0,.sl0]))).holds ρ B w v):ce w v ⟨0,Pq.zero⟩:=by
 obtain⟨vs,rfl,h⟩:=h
 match vs,h with
 | v0::vs,h=>
  have e:v0= .int .i64 0:=h.1
  subst e
  exact⟨vs,rfl,dx (n:=7) h.2⟩
def tY (S:List St) (a:Int):List Fq:=[]
theorem zJ {w:World} {g:Nat} {sl:Value} (S:List St) (a:Int) (h:TrkS 79 w g sl S) (hS:S.length≤64) (hS0:S.length=0):
  Calls Tryz.prog 40 (.pointer (some ⟨g,0,none⟩)::[.int .i64 a]).toArray w fun e w'=>e= .returned (.tuple #[.int .i64 0,.int .i64 0,.int .i64 6])∧Below w.heap.size w w':=by
 refine(aG (ρ:=frs (tY S a)++([.rowB true sl stT S.length (az S),.val (.int .i64 a),.val (.int .i64 (S.length:Int))]:List Vp)) (w:=w) (fuel:=300) (m:=0) (S':=S) (args:=[.one (.ptr 0 0),.one (.ref 1)]) (vs:=[.pointer (some ⟨g,0,none⟩),.int .i64 a]) (r:=.tup [.one (.i .i64 0),.one (.i .i64 0),.one (.i .i64 6)]) (l:=.ref 0) (lo:=[]) (obs:=[]) h
  (ai)
  (ae (bK (y:=0) (o:=0) (t:=39) ⟨_,Tryz.underlying39⟩) (ae (bW 0 2 rfl rfl) (ae (aw (t:=3) (ah (n:=2) rfl) (aF (c:=0)) (cF (by omega))) (aj)))) Tryz.func40 rfl (by kernel_rfl) aC ⟨bE,⟨aH (n:=1) rfl aE,trivial⟩⟩ (cf rfl)).mono ?_
 rintro e w' ⟨v,B',rfl,⟨vs,rfl,h1⟩,h2,h3⟩
 match vs,h1 with
 | [x1,x2,x3],h1=>
  have ex1:x1= .int .i64 0:=h1.1
  subst ex1
  have ex2:x2= .int .i64 0:=h1.2.1
  subst ex2
  have ex3:x3= .int .i64 6:=h1.2.2.1
  subst ex3
  exact⟨rfl,h3 rfl⟩
def rR (S:List St) (a:Int) (f:St):List Fq:=[]
theorem wC {w:World} {g:Nat} {sl:Value} (S:List St) (a:Int) (h:TrkS 79 w g sl S) (hS:S.length≤64) (f:St) (hf:S[0]? =some f) (hn:0<S.length) (ha:a<f.tm):
  Calls Tryz.prog 40 (.pointer (some ⟨g,0,none⟩)::[.int .i64 a]).toArray w fun e w'=>e= .returned (.tuple #[.int .i64 0,.int .i64 0,.int .i64 17])∧Below w.heap.size w w':=by
 refine(aG (ρ:=frs (rR S a f)++([.rowB true sl stT S.length (az S),.val (.int .i64 a),.val (.int .i64 (S.length:Int)),.plc stT f.qs,.val (.int .i64 f.tm)]:List Vp)) (w:=w) (fuel:=300) (m:=0) (S':=S) (args:=[.one (.ptr 0 0),.one (.ref 1)]) (vs:=[.pointer (some ⟨g,0,none⟩),.int .i64 a]) (r:=.tup [.one (.i .i64 0),.one (.i .i64 0),.one (.i .i64 17)]) (l:=.ref 0) (lo:=[]) (obs:=[]) h
  (ai)
  (ae (bK (y:=0) (o:=0) (t:=39) ⟨_,Tryz.underlying39⟩) (ae (bW 0 2 rfl rfl) (ae (aw (t:=3) (ah (n:=2) rfl) (aF (c:=0)) (a8 (by omega))) (ae (iaB (n:=0) (m:=3) rfl rfl (aU (aF (c:=0)) (by omega)) hf) (ae (fa0 f 3 rfl) (ae (ldt f 3 4 rfl rfl) (ae (aw (t:=3) (ah (n:=1) rfl) (ah (n:=4) rfl) (aL (by omega))) (aj)))))))) Tryz.func40 rfl (by kernel_rfl) aC ⟨bE,⟨aH (n:=1) rfl aE,trivial⟩⟩ (cf rfl)).mono ?_
 rintro e w' ⟨v,B',rfl,⟨vs,rfl,h1⟩,h2,h3⟩
 match vs,h1 with
 | [x1,x2,x3],h1=>
  have ex1:x1= .int .i64 0:=h1.1
  subst ex1
  have ex2:x2= .int .i64 0:=h1.2.1
  subst ex2
  have ex3:x3= .int .i64 17:=h1.2.2.1
  subst ex3
  exact⟨rfl,h3 rfl⟩
def rS (S:List St) (a:Int) (f:St) (l:St):List Fq:=[]
theorem wD {w:World} {g:Nat} {sl:Value} (S:List St) (a:Int) (h:TrkS 79 w g sl S) (hS:S.length≤64) (f:St) (hf:S[0]? =some f) (hb:f.tm≤a) (l:St) (hl:S[S.length - 1]? =some l) (hn:0<S.length) (ha:l.tm<a):
  Calls Tryz.prog 40 (.pointer (some ⟨g,0,none⟩)::[.int .i64 a]).toArray w fun e w'=>e= .returned (.tuple #[.int .i64 0,.int .i64 0,.int .i64 17])∧Below w.heap.size w w':=by
 refine(aG (ρ:=frs (rS S a f l)++([.rowB true sl stT S.length (az S),.val (.int .i64 a),.val (.int .i64 (S.length:Int)),.plc stT f.qs,.val (.int .i64 f.tm),.val (.int .i64 ((S.length:Int) - 1)),.plc stT l.qs,.val (.int .i64 l.tm)]:List Vp)) (w:=w) (fuel:=300) (m:=0) (S':=S) (args:=[.one (.ptr 0 0),.one (.ref 1)]) (vs:=[.pointer (some ⟨g,0,none⟩),.int .i64 a]) (r:=.tup [.one (.i .i64 0),.one (.i .i64 0),.one (.i .i64 17)]) (l:=.ref 0) (lo:=[]) (obs:=[]) h
  (ai)
  (ae (bK (y:=0) (o:=0) (t:=39) ⟨_,Tryz.underlying39⟩) (ae (bW 0 2 rfl rfl) (ae (aw (t:=3) (ah (n:=2) rfl) (aF (c:=0)) (a8 (by omega))) (ae (iaB (n:=0) (m:=3) rfl rfl (aU (aF (c:=0)) (by omega)) hf) (ae (fa0 f 3 rfl) (ae (ldt f 3 4 rfl rfl) (ae (aw (t:=3) (ah (n:=1) rfl) (ah (n:=4) rfl) (aK (by omega))) (ae (bQ (m:=5) (t:=3) (ah (n:=2) rfl) (aF (c:=1)) rfl rfl (by omega) (by omega)) (ae (iaB (n:=0) (m:=6) rfl rfl (aU (ah (n:=5) rfl) (by omega)) hl) (ae (fa0 l 6 rfl) (ae (ldt l 6 7 rfl rfl) (ae (aw (t:=3) (ah (n:=1) rfl) (ah (n:=7) rfl) (bm (by omega))) (aj))))))))))))) Tryz.func40 rfl (by kernel_rfl) aC ⟨bE,⟨aH (n:=1) rfl aE,trivial⟩⟩ (cf rfl)).mono ?_
 rintro e w' ⟨v,B',rfl,⟨vs,rfl,h1⟩,h2,h3⟩
 match vs,h1 with
 | [x1,x2,x3],h1=>
  have ex1:x1= .int .i64 0:=h1.1
  subst ex1
  have ex2:x2= .int .i64 0:=h1.2.1
  subst ex2
  have ex3:x3= .int .i64 17:=h1.2.2.1
  subst ex3
  exact⟨rfl,h3 rfl⟩
def jy:MS:=cM 77 [(0,.v (.one (.ptr 0 0))),(1,.v (.one (.ref 1))),(52,.v (.one (.ref 0))),(53,.v (.one (.ref 2))),(54,.v (.one (.i .i64 0)))] [(79,[some (.ref 0)])]
def jz:MS:=cM 77 [(0,.v (.one (.ptr 0 0))),(1,.v (.one (.ref 1))),(7,.v (.one (.ref 8))),(8,.v (.one (.ref 8))),(52,.v (.one (.ref 0))),(53,.v (.one (.ref 2)))] [(79,[some (.ref 0)])]
def fm (S:List St) (a:Int) (f:St) (l:St) (y:St):List Fq:=[]
theorem zK {w:World} {g:Nat} {sl:Value} (S:List St) (a:Int) (h:TrkS 79 w g sl S) (hS:S.length≤64) (f:St) (hf:S[0]? =some f) (hb:f.tm≤a) (l:St) (hl:S[S.length - 1]? =some l) (hn:0<S.length) (ha:a≤l.tm) (y:St) (hy:S[plN S a]? =some y) (ey:y.tm=a) (hp:plN S a<S.length):
  Calls Tryz.prog 40 (.pointer (some ⟨g,0,none⟩)::[.int .i64 a]).toArray w fun e w'=>e= .returned (.tuple #[.int .i64 ((plN S a:Nat):Int),.int .i64 ((plN S a:Nat):Int),.int .i64 0])∧Below w.heap.size w w':=by
 have hL0:LOb.Ok Tryz.prog (frs (fm S a f l y)++(([.rowB true sl stT S.length (az S),.val (.int .i64 a),.val (.int .i64 (S.length:Int)),.plc stT f.qs,.val (.int .i64 f.tm),.val (.int .i64 ((S.length:Int) - 1)),.plc stT l.qs,.val (.int .i64 l.tm)]:List Vp)++(([.val (.int .i64 ((plN S a:Nat):Int))]:List Vp)))) (gO w g) 77 ⟨bk Tryz.f40 0,jy,.ext 1,jz⟩:=by
  refine bx (plN S a) (fun k=>frs (fm S a f l y)++(([.rowB true sl stT S.length (az S),.val (.int .i64 a),.val (.int .i64 (S.length:Int)),.plc stT f.qs,.val (.int .i64 f.tm),.val (.int .i64 ((S.length:Int) - 1)),.plc stT l.qs,.val (.int .i64 l.tm)]:List Vp)++(([.val (.int .i64 ((k:Nat):Int))]:List Vp)))) (fun _=>cM 77 [(0,.v (.one (.ptr 0 0))),(1,.v (.one (.ref 1))),(52,.v (.one (.ref 0))),(53,.v (.one (.ref 2))),(54,.v (.one (.ref 8)))] [(79,[some (.ref 0)])]) ?_ ?_ ?_ (by decide) (Nat.le_add_left 1 _)
  ·intro a_ w_ h_
   exact MSt.conv (N:=8) (σ:=[(8,.i .i64 0)]) (cmP (by kernel_rfl)) (aD (sgi (n:=8) (u:=0) (v:=((0:Nat):Int)) rfl (aF (c:=0)) (by omega)) aP) (by kernel_rfl) h_ (Nat.le_add_left 1 _)
  ·intro k hk
   obtain⟨x,hx,hlt⟩:=dl hk
   have hle:=a9 S a
   refine aV (N:=9) (ρx:=frs (fm S a f l y)++(([.rowB true sl stT S.length (az S),.val (.int .i64 a),.val (.int .i64 (S.length:Int)),.plc stT f.qs,.val (.int .i64 f.tm),.val (.int .i64 ((S.length:Int) - 1)),.plc stT l.qs,.val (.int .i64 l.tm)]:List Vp)++(([.val (.int .i64 ((k:Nat):Int))]:List Vp)++(([.plc stT x.qs,.val (.int .i64 x.tm),.val (.bool x.pose.rot.w.s),.dig (nl x.pose.rot.w.p) x.pose.rot.w.p,.dig (nl x.pose.rot.w.q) x.pose.rot.w.q,.val (.bool x.pose.rot.x.s),.dig (nl x.pose.rot.x.p) x.pose.rot.x.p,.dig (nl x.pose.rot.x.q) x.pose.rot.x.q,.val (.bool x.pose.rot.y.s),.dig (nl x.pose.rot.y.p) x.pose.rot.y.p,.dig (nl x.pose.rot.y.q) x.pose.rot.y.q,.val (.bool x.pose.rot.z.s),.dig (nl x.pose.rot.z.p) x.pose.rot.z.p,.dig (nl x.pose.rot.z.q) x.pose.rot.z.q,.val (.bool x.pose.pos.x.s),.dig (nl x.pose.pos.x.p) x.pose.pos.x.p,.dig (nl x.pose.pos.x.q) x.pose.pos.x.q,.val (.bool x.pose.pos.y.s),.dig (nl x.pose.pos.y.p) x.pose.pos.y.p,.dig (nl x.pose.pos.y.q) x.pose.pos.y.q,.val (.bool x.pose.pos.z.s),.dig (nl x.pose.pos.z.p) x.pose.pos.z.p,.dig (nl x.pose.pos.z.q) x.pose.pos.z.q,.val (.int .i64 (((k:Nat):Int)+1))]:List Vp))))) (cmX (by kernel_rfl)) (by kernel_rfl) (Nat.le_add_left 1 _) ?_
   exact aR (N:=8) (σ:=[(8,.ref 32)]) (lo:=[]) (n:=300) (ai)
    (ae (aw (t:=3) (ah (n:=8) rfl) (ah (n:=2) rfl) (aL (by omega))) (ae (iaB (n:=0) (m:=9) rfl rfl (aU (ah (n:=8) rfl) (by omega)) hx) (ae (ji (n:=9) (t:=35) (ls:=.ref 10::bo [11,14,17,20,23,26,29]) (by kernel_rfl) (by kernel_rfl) rfl (j7 (x:=x.raw) rfl ⟨⟨rfl,rfl,rfl⟩,⟨rfl,rfl,rfl⟩,⟨rfl,rfl,rfl⟩,⟨rfl,rfl,rfl⟩,⟨rfl,rfl,rfl⟩,⟨rfl,rfl,rfl⟩,⟨rfl,rfl,rfl⟩,trivial⟩)) (ae (aw (t:=3) (ah (n:=10) rfl) (ah (n:=1) rfl) (a8 (by omega))) (ae (aw (t:=3) (ah (n:=10) rfl) (ah (n:=1) rfl) (aQ (by omega))) (ae (cS (m:=32) (t:=3) (ah (n:=8) rfl) (aF (c:=1)) rfl rfl (by omega) (by omega)) (aj)))))))
    (by kernel_rfl) (obs:=[]) (by kernel_rfl) aC (cmP (by kernel_rfl)) (aD (sgi (n:=8) (u:=(((k:Nat):Int)+1)) (v:=((k+1:Nat):Int)) rfl (ah (n:=32) rfl) (by omega)) aP) (Nat.le_add_left 1 _)
  ·refine aV (N:=9) (ρx:=frs (fm S a f l y)++(([.rowB true sl stT S.length (az S),.val (.int .i64 a),.val (.int .i64 (S.length:Int)),.plc stT f.qs,.val (.int .i64 f.tm),.val (.int .i64 ((S.length:Int) - 1)),.plc stT l.qs,.val (.int .i64 l.tm)]:List Vp)++(([.val (.int .i64 ((plN S a:Nat):Int))]:List Vp)++(([.plc stT y.qs,.val (.int .i64 y.tm),.val (.bool y.pose.rot.w.s),.dig (nl y.pose.rot.w.p) y.pose.rot.w.p,.dig (nl y.pose.rot.w.q) y.pose.rot.w.q,.val (.bool y.pose.rot.x.s),.dig (nl y.pose.rot.x.p) y.pose.rot.x.p,.dig (nl y.pose.rot.x.q) y.pose.rot.x.q,.val (.bool y.pose.rot.y.s),.dig (nl y.pose.rot.y.p) y.pose.rot.y.p,.dig (nl y.pose.rot.y.q) y.pose.rot.y.q,.val (.bool y.pose.rot.z.s),.dig (nl y.pose.rot.z.p) y.pose.rot.z.p,.dig (nl y.pose.rot.z.q) y.pose.rot.z.q,.val (.bool y.pose.pos.x.s),.dig (nl y.pose.pos.x.p) y.pose.pos.x.p,.dig (nl y.pose.pos.x.q) y.pose.pos.x.q,.val (.bool y.pose.pos.y.s),.dig (nl y.pose.pos.y.p) y.pose.pos.y.p,.dig (nl y.pose.pos.y.q) y.pose.pos.y.q,.val (.bool y.pose.pos.z.s),.dig (nl y.pose.pos.z.p) y.pose.pos.z.p,.dig (nl y.pose.pos.z.q) y.pose.pos.z.q]:List Vp))))) (cmX (by kernel_rfl)) (by kernel_rfl) (Nat.le_add_left 1 _) ?_
   exact aR (N:=8) (σ:=[(8,.ref 8),(8,.ref 8)]) (lo:=[]) (n:=300) (ai)
    (ae (aw (t:=3) (ah (n:=8) rfl) (ah (n:=2) rfl) (aL (by omega))) (ae (iaB (n:=0) (m:=9) rfl rfl (aU (ah (n:=8) rfl) (by omega)) hy) (ae (ji (n:=9) (t:=35) (ls:=.ref 10::bo [11,14,17,20,23,26,29]) (by kernel_rfl) (by kernel_rfl) rfl (j7 (x:=y.raw) rfl ⟨⟨rfl,rfl,rfl⟩,⟨rfl,rfl,rfl⟩,⟨rfl,rfl,rfl⟩,⟨rfl,rfl,rfl⟩,⟨rfl,rfl,rfl⟩,⟨rfl,rfl,rfl⟩,⟨rfl,rfl,rfl⟩,trivial⟩)) (ae (aw (t:=3) (ah (n:=10) rfl) (ah (n:=1) rfl) (cF (by omega))) (aj)))))
    (by kernel_rfl) (obs:=[]) (by kernel_rfl) aC (cmP (by kernel_rfl)) (aD (sgi (n:=8) (u:=((plN S a:Nat):Int)) (v:=((plN S a:Nat):Int)) rfl (ah (n:=8) rfl) (by omega)) (aD (sgi (n:=8) (u:=((plN S a:Nat):Int)) (v:=((plN S a:Nat):Int)) rfl (ah (n:=8) rfl) (by omega)) aP)) (Nat.le_add_left 1 _)
 refine(aG (ρ:=frs (fm S a f l y)++(([.rowB true sl stT S.length (az S),.val (.int .i64 a),.val (.int .i64 (S.length:Int)),.plc stT f.qs,.val (.int .i64 f.tm),.val (.int .i64 ((S.length:Int) - 1)),.plc stT l.qs,.val (.int .i64 l.tm)]:List Vp)++(([.val (.int .i64 ((plN S a:Nat):Int))]:List Vp)))) (w:=w) (fuel:=300) (m:=0) (S':=S) (args:=[.one (.ptr 0 0),.one (.ref 1)]) (vs:=[.pointer (some ⟨g,0,none⟩),.int .i64 a]) (r:=.tup [.one (.ref 8),.one (.ref 8),.one (.i .i64 0)]) (l:=.ref 0) (lo:=[some (jy,.ext 1,jz)]) (obs:=[⟨bk Tryz.f40 0,jy,.ext 1,jz⟩]) h
  (ai)
  (ae (bK (y:=0) (o:=0) (t:=39) ⟨_,Tryz.underlying39⟩) (ae (bW 0 2 rfl rfl) (ae (aw (t:=3) (ah (n:=2) rfl) (aF (c:=0)) (a8 (by omega))) (ae (iaB (n:=0) (m:=3) rfl rfl (aU (aF (c:=0)) (by omega)) hf) (ae (fa0 f 3 rfl) (ae (ldt f 3 4 rfl rfl) (ae (aw (t:=3) (ah (n:=1) rfl) (ah (n:=4) rfl) (aK (by omega))) (ae (bQ (m:=5) (t:=3) (ah (n:=2) rfl) (aF (c:=1)) rfl rfl (by omega) (by omega)) (ae (iaB (n:=0) (m:=6) rfl rfl (aU (ah (n:=5) rfl) (by omega)) hl) (ae (fa0 l 6 rfl) (ae (ldt l 6 7 rfl rfl) (ae (aw (t:=3) (ah (n:=1) rfl) (ah (n:=7) rfl) (aQ (by omega))) (aj))))))))))))) Tryz.func40 rfl (by kernel_rfl) (bI hL0 aC) ⟨bE,⟨aH (n:=1) rfl aE,trivial⟩⟩ (cf rfl)).mono ?_
 rintro e w' ⟨v,B',rfl,⟨vs,rfl,h1⟩,h2,h3⟩
 match vs,h1 with
 | [x1,x2,x3],h1=>
  have ex1:x1= .int .i64 ((plN S a:Nat):Int):=bh rfl h1.1
  subst ex1
  have ex2:x2= .int .i64 ((plN S a:Nat):Int):=bh rfl h1.2.1
  subst ex2
  have ex3:x3= .int .i64 0:=h1.2.2.1
  subst ex3
  exact⟨rfl,h3 rfl⟩
def jA:MS:=cM 77 [(0,.v (.one (.ptr 0 0))),(1,.v (.one (.ref 1))),(52,.v (.one (.ref 0))),(53,.v (.one (.ref 2))),(54,.v (.one (.i .i64 0)))] [(79,[some (.ref 0)])]
def jB:MS:=cM 77 [(0,.v (.one (.ptr 0 0))),(1,.v (.one (.ref 1))),(7,.v (.one (.ref 8))),(8,.v (.one (.ref 9))),(52,.v (.one (.ref 0))),(53,.v (.one (.ref 2)))] [(79,[some (.ref 0)])]
def fo (S:List St) (a:Int) (f:St) (l:St) (y:St):List Fq:=[]
theorem zL {w:World} {g:Nat} {sl:Value} (S:List St) (a:Int) (h:TrkS 79 w g sl S) (hS:S.length≤64) (f:St) (hf:S[0]? =some f) (hb:f.tm≤a) (l:St) (hl:S[S.length - 1]? =some l) (hn:0<S.length) (ha:a≤l.tm) (y:St) (hy:S[plN S a]? =some y) (ey:a<y.tm) (hp:plN S a<S.length) (h0:0<plN S a):
  Calls Tryz.prog 40 (.pointer (some ⟨g,0,none⟩)::[.int .i64 a]).toArray w fun e w'=>e= .returned (.tuple #[.int .i64 (((plN S a:Nat):Int) - 1),.int .i64 ((plN S a:Nat):Int),.int .i64 0])∧Below w.heap.size w w':=by
 have hL0:LOb.Ok Tryz.prog (frs (fo S a f l y)++(([.rowB true sl stT S.length (az S),.val (.int .i64 a),.val (.int .i64 (S.length:Int)),.plc stT f.qs,.val (.int .i64 f.tm),.val (.int .i64 ((S.length:Int) - 1)),.plc stT l.qs,.val (.int .i64 l.tm)]:List Vp)++(([.val (.int .i64 (((plN S a:Nat):Int) - 1)),.val (.int .i64 ((plN S a:Nat):Int))]:List Vp)))) (gO w g) 77 ⟨bk Tryz.f40 0,jA,.ext 1,jB⟩:=by
  refine bx (plN S a) (fun k=>frs (fo S a f l y)++(([.rowB true sl stT S.length (az S),.val (.int .i64 a),.val (.int .i64 (S.length:Int)),.plc stT f.qs,.val (.int .i64 f.tm),.val (.int .i64 ((S.length:Int) - 1)),.plc stT l.qs,.val (.int .i64 l.tm)]:List Vp)++(([.val (.int .i64 ((k:Nat):Int))]:List Vp)))) (fun _=>cM 77 [(0,.v (.one (.ptr 0 0))),(1,.v (.one (.ref 1))),(52,.v (.one (.ref 0))),(53,.v (.one (.ref 2))),(54,.v (.one (.ref 8)))] [(79,[some (.ref 0)])]) ?_ ?_ ?_ (by decide) (Nat.le_add_left 1 _)
  ·intro a_ w_ h_
   exact MSt.conv (N:=8) (σ:=[(8,.i .i64 0)]) (cmP (by kernel_rfl)) (aD (sgi (n:=8) (u:=0) (v:=((0:Nat):Int)) rfl (aF (c:=0)) (by omega)) aP) (by kernel_rfl) h_ (Nat.le_add_left 1 _)
  ·intro k hk
   obtain⟨x,hx,hlt⟩:=dl hk
   have hle:=a9 S a
   refine aV (N:=9) (ρx:=frs (fo S a f l y)++(([.rowB true sl stT S.length (az S),.val (.int .i64 a),.val (.int .i64 (S.length:Int)),.plc stT f.qs,.val (.int .i64 f.tm),.val (.int .i64 ((S.length:Int) - 1)),.plc stT l.qs,.val (.int .i64 l.tm)]:List Vp)++(([.val (.int .i64 ((k:Nat):Int))]:List Vp)++(([.plc stT x.qs,.val (.int .i64 x.tm),.val (.bool x.pose.rot.w.s),.dig (nl x.pose.rot.w.p) x.pose.rot.w.p,.dig (nl x.pose.rot.w.q) x.pose.rot.w.q,.val (.bool x.pose.rot.x.s),.dig (nl x.pose.rot.x.p) x.pose.rot.x.p,.dig (nl x.pose.rot.x.q) x.pose.rot.x.q,.val (.bool x.pose.rot.y.s),.dig (nl x.pose.rot.y.p) x.pose.rot.y.p,.dig (nl x.pose.rot.y.q) x.pose.rot.y.q,.val (.bool x.pose.rot.z.s),.dig (nl x.pose.rot.z.p) x.pose.rot.z.p,.dig (nl x.pose.rot.z.q) x.pose.rot.z.q,.val (.bool x.pose.pos.x.s),.dig (nl x.pose.pos.x.p) x.pose.pos.x.p,.dig (nl x.pose.pos.x.q) x.pose.pos.x.q,.val (.bool x.pose.pos.y.s),.dig (nl x.pose.pos.y.p) x.pose.pos.y.p,.dig (nl x.pose.pos.y.q) x.pose.pos.y.q,.val (.bool x.pose.pos.z.s),.dig (nl x.pose.pos.z.p) x.pose.pos.z.p,.dig (nl x.pose.pos.z.q) x.pose.pos.z.q,.val (.int .i64 (((k:Nat):Int)+1))]:List Vp))))) (cmX (by kernel_rfl)) (by kernel_rfl) (Nat.le_add_left 1 _) ?_
   exact aR (N:=8) (σ:=[(8,.ref 32)]) (lo:=[]) (n:=300) (ai)
    (ae (aw (t:=3) (ah (n:=8) rfl) (ah (n:=2) rfl) (aL (by omega))) (ae (iaB (n:=0) (m:=9) rfl rfl (aU (ah (n:=8) rfl) (by omega)) hx) (ae (ji (n:=9) (t:=35) (ls:=.ref 10::bo [11,14,17,20,23,26,29]) (by kernel_rfl) (by kernel_rfl) rfl (j7 (x:=x.raw) rfl ⟨⟨rfl,rfl,rfl⟩,⟨rfl,rfl,rfl⟩,⟨rfl,rfl,rfl⟩,⟨rfl,rfl,rfl⟩,⟨rfl,rfl,rfl⟩,⟨rfl,rfl,rfl⟩,⟨rfl,rfl,rfl⟩,trivial⟩)) (ae (aw (t:=3) (ah (n:=10) rfl) (ah (n:=1) rfl) (a8 (by omega))) (ae (aw (t:=3) (ah (n:=10) rfl) (ah (n:=1) rfl) (aQ (by omega))) (ae (cS (m:=32) (t:=3) (ah (n:=8) rfl) (aF (c:=1)) rfl rfl (by omega) (by omega)) (aj)))))))
    (by kernel_rfl) (obs:=[]) (by kernel_rfl) aC (cmP (by kernel_rfl)) (aD (sgi (n:=8) (u:=(((k:Nat):Int)+1)) (v:=((k+1:Nat):Int)) rfl (ah (n:=32) rfl) (by omega)) aP) (Nat.le_add_left 1 _)
  ·refine aV (N:=9) (ρx:=frs (fo S a f l y)++(([.rowB true sl stT S.length (az S),.val (.int .i64 a),.val (.int .i64 (S.length:Int)),.plc stT f.qs,.val (.int .i64 f.tm),.val (.int .i64 ((S.length:Int) - 1)),.plc stT l.qs,.val (.int .i64 l.tm)]:List Vp)++(([.val (.int .i64 ((plN S a:Nat):Int))]:List Vp)++(([.plc stT y.qs,.val (.int .i64 y.tm),.val (.bool y.pose.rot.w.s),.dig (nl y.pose.rot.w.p) y.pose.rot.w.p,.dig (nl y.pose.rot.w.q) y.pose.rot.w.q,.val (.bool y.pose.rot.x.s),.dig (nl y.pose.rot.x.p) y.pose.rot.x.p,.dig (nl y.pose.rot.x.q) y.pose.rot.x.q,.val (.bool y.pose.rot.y.s),.dig (nl y.pose.rot.y.p) y.pose.rot.y.p,.dig (nl y.pose.rot.y.q) y.pose.rot.y.q,.val (.bool y.pose.rot.z.s),.dig (nl y.pose.rot.z.p) y.pose.rot.z.p,.dig (nl y.pose.rot.z.q) y.pose.rot.z.q,.val (.bool y.pose.pos.x.s),.dig (nl y.pose.pos.x.p) y.pose.pos.x.p,.dig (nl y.pose.pos.x.q) y.pose.pos.x.q,.val (.bool y.pose.pos.y.s),.dig (nl y.pose.pos.y.p) y.pose.pos.y.p,.dig (nl y.pose.pos.y.q) y.pose.pos.y.q,.val (.bool y.pose.pos.z.s),.dig (nl y.pose.pos.z.p) y.pose.pos.z.p,.dig (nl y.pose.pos.z.q) y.pose.pos.z.q,.val (.int .i64 (((plN S a:Nat):Int) - 1))]:List Vp))))) (cmX (by kernel_rfl)) (by kernel_rfl) (Nat.le_add_left 1 _) ?_
   exact aR (N:=8) (σ:=[(8,.ref 32),(9,.ref 8)]) (lo:=[]) (n:=300) (ai)
    (ae (aw (t:=3) (ah (n:=8) rfl) (ah (n:=2) rfl) (aL (by omega))) (ae (iaB (n:=0) (m:=9) rfl rfl (aU (ah (n:=8) rfl) (by omega)) hy) (ae (ji (n:=9) (t:=35) (ls:=.ref 10::bo [11,14,17,20,23,26,29]) (by kernel_rfl) (by kernel_rfl) rfl (j7 (x:=y.raw) rfl ⟨⟨rfl,rfl,rfl⟩,⟨rfl,rfl,rfl⟩,⟨rfl,rfl,rfl⟩,⟨rfl,rfl,rfl⟩,⟨rfl,rfl,rfl⟩,⟨rfl,rfl,rfl⟩,⟨rfl,rfl,rfl⟩,trivial⟩)) (ae (aw (t:=3) (ah (n:=10) rfl) (ah (n:=1) rfl) (a8 (by omega))) (ae (aw (t:=3) (ah (n:=10) rfl) (ah (n:=1) rfl) (bm (by omega))) (ae (bQ (m:=32) (t:=3) (ah (n:=8) rfl) (aF (c:=1)) rfl rfl (by omega) (by omega)) (aj)))))))
    (by kernel_rfl) (obs:=[]) (by kernel_rfl) aC (cmP (by kernel_rfl)) (aD (sgi (n:=8) (u:=(((plN S a:Nat):Int) - 1)) (v:=(((plN S a:Nat):Int) - 1)) rfl (ah (n:=32) rfl) (by omega)) (aD (sgi (n:=9) (u:=((plN S a:Nat):Int)) (v:=((plN S a:Nat):Int)) rfl (ah (n:=8) rfl) (by omega)) aP)) (Nat.le_add_left 1 _)
 refine(aG (ρ:=frs (fo S a f l y)++(([.rowB true sl stT S.length (az S),.val (.int .i64 a),.val (.int .i64 (S.length:Int)),.plc stT f.qs,.val (.int .i64 f.tm),.val (.int .i64 ((S.length:Int) - 1)),.plc stT l.qs,.val (.int .i64 l.tm)]:List Vp)++(([.val (.int .i64 (((plN S a:Nat):Int) - 1)),.val (.int .i64 ((plN S a:Nat):Int))]:List Vp)))) (w:=w) (fuel:=300) (m:=0) (S':=S) (args:=[.one (.ptr 0 0),.one (.ref 1)]) (vs:=[.pointer (some ⟨g,0,none⟩),.int .i64 a]) (r:=.tup [.one (.ref 8),.one (.ref 9),.one (.i .i64 0)]) (l:=.ref 0) (lo:=[some (jA,.ext 1,jB)]) (obs:=[⟨bk Tryz.f40 0,jA,.ext 1,jB⟩]) h
  (ai)
  (ae (bK (y:=0) (o:=0) (t:=39) ⟨_,Tryz.underlying39⟩) (ae (bW 0 2 rfl rfl) (ae (aw (t:=3) (ah (n:=2) rfl) (aF (c:=0)) (a8 (by omega))) (ae (iaB (n:=0) (m:=3) rfl rfl (aU (aF (c:=0)) (by omega)) hf) (ae (fa0 f 3 rfl) (ae (ldt f 3 4 rfl rfl) (ae (aw (t:=3) (ah (n:=1) rfl) (ah (n:=4) rfl) (aK (by omega))) (ae (bQ (m:=5) (t:=3) (ah (n:=2) rfl) (aF (c:=1)) rfl rfl (by omega) (by omega)) (ae (iaB (n:=0) (m:=6) rfl rfl (aU (ah (n:=5) rfl) (by omega)) hl) (ae (fa0 l 6 rfl) (ae (ldt l 6 7 rfl rfl) (ae (aw (t:=3) (ah (n:=1) rfl) (ah (n:=7) rfl) (aQ (by omega))) (aj))))))))))))) Tryz.func40 rfl (by kernel_rfl) (bI hL0 aC) ⟨bE,⟨aH (n:=1) rfl aE,trivial⟩⟩ (cf rfl)).mono ?_
 rintro e w' ⟨v,B',rfl,⟨vs,rfl,h1⟩,h2,h3⟩
 match vs,h1 with
 | [x1,x2,x3],h1=>
  have ex1:x1= .int .i64 (((plN S a:Nat):Int) - 1):=bh rfl h1.1
  subst ex1
  have ex2:x2= .int .i64 ((plN S a:Nat):Int):=bh rfl h1.2.1
  subst ex2
  have ex3:x3= .int .i64 0:=h1.2.2.1
  subst ex3
  exact⟨rfl,h3 rfl⟩
theorem qB {ρ:Rho} {u:Nat} {l la:Leaf} {S:List St} {a:Int} (tl:go ρ u 79 l S) (ka:KI ρ la .i64 a) (hS:S.length≤64) (hS0:S.length=0) {r:SV}:(OIns.mk (.mut 40 ⟨[],[(u,79,[l])],[],none,[],[.one (.i .i64 0),.one (.i .i64 0),.one (.i .i64 6)]⟩) [.one (.ptr u 0),.one la] r).Ok Tryz.prog ρ:=
 bV (args:=[.one la]) (aA Tryz.func40 rfl rfl) tl (fun B w g sl vs _ ht hv=>by
  match vs,hv with
  | [v],hv=>
   have e:=ka _ _ _ hv.1
   subst e
   refine(zJ S _ ht hS hS0).mono ?_
   rintro e w' ⟨rfl,h2⟩
   exact⟨_,rfl,fun B' _=>⟨[.int .i64 _,.int .i64 _,.int .i64 _],rfl,rfl,rfl,rfl,trivial⟩,h2⟩)
theorem pi {ρ:Rho} {u:Nat} {l la:Leaf} {S:List St} {a:Int} (tl:go ρ u 79 l S) (ka:KI ρ la .i64 a) (hS:S.length≤64) (f:St) (hf:S[0]? =some f) (hn:0<S.length) (ha:a<f.tm) {r:SV}:(OIns.mk (.mut 40 ⟨[],[(u,79,[l])],[],none,[],[.one (.i .i64 0),.one (.i .i64 0),.one (.i .i64 17)]⟩) [.one (.ptr u 0),.one la] r).Ok Tryz.prog ρ:=
 bV (args:=[.one la]) (aA Tryz.func40 rfl rfl) tl (fun B w g sl vs _ ht hv=>by
  match vs,hv with
  | [v],hv=>
   have e:=ka _ _ _ hv.1
   subst e
   refine(wC S _ ht hS f hf hn ha).mono ?_
   rintro e w' ⟨rfl,h2⟩
   exact⟨_,rfl,fun B' _=>⟨[.int .i64 _,.int .i64 _,.int .i64 _],rfl,rfl,rfl,rfl,trivial⟩,h2⟩)
theorem pj {ρ:Rho} {u:Nat} {l la:Leaf} {S:List St} {a:Int} (tl:go ρ u 79 l S) (ka:KI ρ la .i64 a) (hS:S.length≤64) (f:St) (hf:S[0]? =some f) (hb:f.tm≤a) (l_:St) (hl:S[S.length - 1]? =some l_) (hn:0<S.length) (ha:l_.tm<a) {r:SV}:(OIns.mk (.mut 40 ⟨[],[(u,79,[l])],[],none,[],[.one (.i .i64 0),.one (.i .i64 0),.one (.i .i64 17)]⟩) [.one (.ptr u 0),.one la] r).Ok Tryz.prog ρ:=
 bV (args:=[.one la]) (aA Tryz.func40 rfl rfl) tl (fun B w g sl vs _ ht hv=>by
  match vs,hv with
  | [v],hv=>
   have e:=ka _ _ _ hv.1
   subst e
   refine(wD S _ ht hS f hf hb l_ hl hn ha).mono ?_
   rintro e w' ⟨rfl,h2⟩
   exact⟨_,rfl,fun B' _=>⟨[.int .i64 _,.int .i64 _,.int .i64 _],rfl,rfl,rfl,rfl,trivial⟩,h2⟩)
theorem qC {ρ:Rho} {u:Nat} {l la:Leaf} {S:List St} {a:Int} (tl:go ρ u 79 l S) (ka:KI ρ la .i64 a) {n0 n1:Nat} (k0:ρ[n0]? =some (.val (.int .i64 (((plN S a:Nat):Int))))) (k1:ρ[n1]? =some (.val (.int .i64 ((plN S a:Nat):Int)))) (hS:S.length≤64) (f:St) (hf:S[0]? =some f) (hb:f.tm≤a) (l_:St) (hl:S[S.length - 1]? =some l_) (hn:0<S.length) (ha:a≤l_.tm) (y:St) (hy:S[plN S a]? =some y) (ey:y.tm=a) (hp:plN S a<S.length) {r:SV}:(OIns.mk (.mut 40 ⟨[],[(u,79,[l])],[],none,[],[.one (.ref n0),.one (.ref n1),.one (.i .i64 0)]⟩) [.one (.ptr u 0),.one la] r).Ok Tryz.prog ρ:=
 bV (args:=[.one la]) (aA Tryz.func40 rfl rfl) tl (fun B w g sl vs _ ht hv=>by
  match vs,hv with
  | [v],hv=>
   have e:=ka _ _ _ hv.1
   subst e
   refine(zK S _ ht hS f hf hb l_ hl hn ha y hy ey hp).mono ?_
   rintro e w' ⟨rfl,h2⟩
   exact⟨_,rfl,fun B' _=>⟨[.int .i64 _,.int .i64 _,.int .i64 _],rfl,aH k0 aE,aH k1 aE,rfl,trivial⟩,h2⟩)
theorem qD {ρ:Rho} {u:Nat} {l la:Leaf} {S:List St} {a:Int} (tl:go ρ u 79 l S) (ka:KI ρ la .i64 a) {n0 n1:Nat} (k0:ρ[n0]? =some (.val (.int .i64 (((plN S a:Nat):Int) - 1)))) (k1:ρ[n1]? =some (.val (.int .i64 ((plN S a:Nat):Int)))) (hS:S.length≤64) (f:St) (hf:S[0]? =some f) (hb:f.tm≤a) (l_:St) (hl:S[S.length - 1]? =some l_) (hn:0<S.length) (ha:a≤l_.tm) (y:St) (hy:S[plN S a]? =some y) (ey:a<y.tm) (hp:plN S a<S.length) (h0:0<plN S a) {r:SV}:(OIns.mk (.mut 40 ⟨[],[(u,79,[l])],[],none,[],[.one (.ref n0),.one (.ref n1),.one (.i .i64 0)]⟩) [.one (.ptr u 0),.one la] r).Ok Tryz.prog ρ:=
 bV (args:=[.one la]) (aA Tryz.func40 rfl rfl) tl (fun B w g sl vs _ ht hv=>by
  match vs,hv with
  | [v],hv=>
   have e:=ka _ _ _ hv.1
   subst e
   refine(zL S _ ht hS f hf hb l_ hl hn ha y hy ey hp h0).mono ?_
   rintro e w' ⟨rfl,h2⟩
   exact⟨_,rfl,fun B' _=>⟨[.int .i64 _,.int .i64 _,.int .i64 _],rfl,aH k0 aE,aH k1 aE,rfl,trivial⟩,h2⟩)
def xq_AtEX (S:List St) (a:Int):List Fq:=[]
theorem q_AtE {w:World} {g:Nat} {sl:Value} (S:List St) (a:Int) (h:TrkS 79 w g sl S) (hS:S.length≤64) (hS0:S.length=0):
  Calls Tryz.prog 12 (.pointer (some ⟨g,0,none⟩)::[.int .i64 a]).toArray w fun e w'=>∃v0:Value,e= .returned (.tuple #[v0,.int .i64 6])∧dt w' v0 Pq.zero∧Below w.heap.size w w':=by
 refine(aG (ρ:=frs (xq_AtEX S a)++([.rowB true sl stT S.length (az S),.val (.int .i64 a)]:List Vp)) (w:=w) (fuel:=300) (m:=0) (S':=S) (args:=[.one (.ptr 0 0),.one (.ref 1)]) (vs:=[.pointer (some ⟨g,0,none⟩),.int .i64 a]) (r:=.tup [.agg [.b false,.sl0,.sl0,.b false,.sl0,.sl0,.b false,.sl0,.sl0,.b false,.sl0,.sl0,.b false,.sl0,.sl0,.b false,.sl0,.sl0,.b false,.sl0,.sl0],.one (.i .i64 6)]) (l:=.ref 0) (lo:=[]) (obs:=[]) h
  (ai)
  (ae (qB (u:=0) (l:=.ref 0) (kU (m:=0) rfl) (ah (n:=1) rfl) (by omega) hS0 (r:=.one .sl0)) (aj)) Tryz.func12 rfl (by kernel_rfl) aC ⟨bE,⟨aH (n:=1) rfl aE,trivial⟩⟩ (cf rfl)).mono ?_
 rintro e w' ⟨v,B',rfl,⟨vs,rfl,h1⟩,h2,h3⟩
 match vs,h1 with
 | [x1,x2],h1=>
  have ex2:x2= .int .i64 6:=h1.2.1
  subst ex2
  exact⟨x1,rfl,(by obtain⟨cs,rfl,k1⟩:=h1.1;exact⟨_,rfl,dx (n:=7) k1⟩),h3 rfl⟩
def tZ (S:List St) (a:Int):List Fq:=[]
theorem zM {w:World} {g:Nat} {sl:Value} (S:List St) (a:Int) (h:TrkS 79 w g sl S) (hS:S.length≤64) (hS0:S.length=0):
  Calls Tryz.prog 13 (.pointer (some ⟨g,0,none⟩)::[.int .i64 a]).toArray w fun e w'=>∃v0 v1:Value,e= .returned (.tuple #[v0,v1,.int .i64 6])∧ce w' v0 (⟨0,Pq.zero⟩)∧ce w' v1 (⟨0,Pq.zero⟩)∧Below w.heap.size w w':=by
 refine(aG (ρ:=frs (tZ S a)++([.rowB true sl stT S.length (az S),.val (.int .i64 a)]:List Vp)) (w:=w) (fuel:=300) (m:=0) (S':=S) (args:=[.one (.ptr 0 0),.one (.ref 1)]) (vs:=[.pointer (some ⟨g,0,none⟩),.int .i64 a]) (r:=.tup [.agg [.i .i64 0,.b false,.sl0,.sl0,.b false,.sl0,.sl0,.b false,.sl0,.sl0,.b false,.sl0,.sl0,.b false,.sl0,.sl0,.b false,.sl0,.sl0,.b false,.sl0,.sl0],.agg [.i .i64 0,.b false,.sl0,.sl0,.b false,.sl0,.sl0,.b false,.sl0,.sl0,.b false,.sl0,.sl0,.b false,.sl0,.sl0,.b false,.sl0,.sl0,.b false,.sl0,.sl0],.one (.i .i64 6)]) (l:=.ref 0) (lo:=[]) (obs:=[]) h
  (ai)
  (ae (qB (u:=0) (l:=.ref 0) (kU (m:=0) rfl) (ah (n:=1) rfl) (by omega) hS0 (r:=.one .sl0)) (aj)) Tryz.func13 rfl (by kernel_rfl) aC ⟨bE,⟨aH (n:=1) rfl aE,trivial⟩⟩ (cf rfl)).mono ?_
 rintro e w' ⟨v,B',rfl,⟨vs,rfl,h1⟩,h2,h3⟩
 match vs,h1 with
 | [x1,x2,x3],h1=>
  have ex3:x3= .int .i64 6:=h1.2.2.1
  subst ex3
  exact⟨x1,x2,rfl,(d5 h1.1),(d5 h1.2.1),h3 rfl⟩
def xq_AtO1X (S:List St) (a:Int) (f:St):List Fq:=[]
theorem q_AtO1 {w:World} {g:Nat} {sl:Value} (S:List St) (a:Int) (h:TrkS 79 w g sl S) (hS:S.length≤64) (f:St) (hf:S[0]? =some f) (hn:0<S.length) (ha:a<f.tm):
  Calls Tryz.prog 12 (.pointer (some ⟨g,0,none⟩)::[.int .i64 a]).toArray w fun e w'=>∃v0:Value,e= .returned (.tuple #[v0,.int .i64 17])∧dt w' v0 Pq.zero∧Below w.heap.size w w':=by
 refine(aG (ρ:=frs (xq_AtO1X S a f)++([.rowB true sl stT S.length (az S),.val (.int .i64 a)]:List Vp)) (w:=w) (fuel:=300) (m:=0) (S':=S) (args:=[.one (.ptr 0 0),.one (.ref 1)]) (vs:=[.pointer (some ⟨g,0,none⟩),.int .i64 a]) (r:=.tup [.agg [.b false,.sl0,.sl0,.b false,.sl0,.sl0,.b false,.sl0,.sl0,.b false,.sl0,.sl0,.b false,.sl0,.sl0,.b false,.sl0,.sl0,.b false,.sl0,.sl0],.one (.i .i64 17)]) (l:=.ref 0) (lo:=[]) (obs:=[]) h
  (ai)
  (ae (pi (u:=0) (l:=.ref 0) (kU (m:=0) rfl) (ah (n:=1) rfl) (by omega) f hf hn ha (r:=.one .sl0)) (aj)) Tryz.func12 rfl (by kernel_rfl) aC ⟨bE,⟨aH (n:=1) rfl aE,trivial⟩⟩ (cf rfl)).mono ?_
 rintro e w' ⟨v,B',rfl,⟨vs,rfl,h1⟩,h2,h3⟩
 match vs,h1 with
 | [x1,x2],h1=>
  have ex2:x2= .int .i64 17:=h1.2.1
  subst ex2
  exact⟨x1,rfl,(by obtain⟨cs,rfl,k1⟩:=h1.1;exact⟨_,rfl,dx (n:=7) k1⟩),h3 rfl⟩
def rT (S:List St) (a:Int) (f:St):List Fq:=[]
theorem wE {w:World} {g:Nat} {sl:Value} (S:List St) (a:Int) (h:TrkS 79 w g sl S) (hS:S.length≤64) (f:St) (hf:S[0]? =some f) (hn:0<S.length) (ha:a<f.tm):
  Calls Tryz.prog 13 (.pointer (some ⟨g,0,none⟩)::[.int .i64 a]).toArray w fun e w'=>∃v0 v1:Value,e= .returned (.tuple #[v0,v1,.int .i64 17])∧ce w' v0 (⟨0,Pq.zero⟩)∧ce w' v1 (⟨0,Pq.zero⟩)∧Below w.heap.size w w':=by
 refine(aG (ρ:=frs (rT S a f)++([.rowB true sl stT S.length (az S),.val (.int .i64 a)]:List Vp)) (w:=w) (fuel:=300) (m:=0) (S':=S) (args:=[.one (.ptr 0 0),.one (.ref 1)]) (vs:=[.pointer (some ⟨g,0,none⟩),.int .i64 a]) (r:=.tup [.agg [.i .i64 0,.b false,.sl0,.sl0,.b false,.sl0,.sl0,.b false,.sl0,.sl0,.b false,.sl0,.sl0,.b false,.sl0,.sl0,.b false,.sl0,.sl0,.b false,.sl0,.sl0],.agg [.i .i64 0,.b false,.sl0,.sl0,.b false,.sl0,.sl0,.b false,.sl0,.sl0,.b false,.sl0,.sl0,.b false,.sl0,.sl0,.b false,.sl0,.sl0,.b false,.sl0,.sl0],.one (.i .i64 17)]) (l:=.ref 0) (lo:=[]) (obs:=[]) h
  (ai)
  (ae (pi (u:=0) (l:=.ref 0) (kU (m:=0) rfl) (ah (n:=1) rfl) (by omega) f hf hn ha (r:=.one .sl0)) (aj)) Tryz.func13 rfl (by kernel_rfl) aC ⟨bE,⟨aH (n:=1) rfl aE,trivial⟩⟩ (cf rfl)).mono ?_
 rintro e w' ⟨v,B',rfl,⟨vs,rfl,h1⟩,h2,h3⟩
 match vs,h1 with
 | [x1,x2,x3],h1=>
  have ex3:x3= .int .i64 17:=h1.2.2.1
  subst ex3
  exact⟨x1,x2,rfl,(d5 h1.1),(d5 h1.2.1),h3 rfl⟩
def xq_AtO2X (S:List St) (a:Int) (f:St) (l:St):List Fq:=[]
theorem q_AtO2 {w:World} {g:Nat} {sl:Value} (S:List St) (a:Int) (h:TrkS 79 w g sl S) (hS:S.length≤64) (f:St) (hf:S[0]? =some f) (hb:f.tm≤a) (l:St) (hl:S[S.length - 1]? =some l) (hn:0<S.length) (ha:l.tm<a):
  Calls Tryz.prog 12 (.pointer (some ⟨g,0,none⟩)::[.int .i64 a]).toArray w fun e w'=>∃v0:Value,e= .returned (.tuple #[v0,.int .i64 17])∧dt w' v0 Pq.zero∧Below w.heap.size w w':=by
 refine(aG (ρ:=frs (xq_AtO2X S a f l)++([.rowB true sl stT S.length (az S),.val (.int .i64 a)]:List Vp)) (w:=w) (fuel:=300) (m:=0) (S':=S) (args:=[.one (.ptr 0 0),.one (.ref 1)]) (vs:=[.pointer (some ⟨g,0,none⟩),.int .i64 a]) (r:=.tup [.agg [.b false,.sl0,.sl0,.b false,.sl0,.sl0,.b false,.sl0,.sl0,.b false,.sl0,.sl0,.b false,.sl0,.sl0,.b false,.sl0,.sl0,.b false,.sl0,.sl0],.one (.i .i64 17)]) (l:=.ref 0) (lo:=[]) (obs:=[]) h
  (ai)
  (ae (pj (u:=0) (l:=.ref 0) (kU (m:=0) rfl) (ah (n:=1) rfl) (by omega) f hf hb l hl hn ha (r:=.one .sl0)) (aj)) Tryz.func12 rfl (by kernel_rfl) aC ⟨bE,⟨aH (n:=1) rfl aE,trivial⟩⟩ (cf rfl)).mono ?_
 rintro e w' ⟨v,B',rfl,⟨vs,rfl,h1⟩,h2,h3⟩
 match vs,h1 with
 | [x1,x2],h1=>
  have ex2:x2= .int .i64 17:=h1.2.1
  subst ex2
  exact⟨x1,rfl,(by obtain⟨cs,rfl,k1⟩:=h1.1;exact⟨_,rfl,dx (n:=7) k1⟩),h3 rfl⟩
def rU (S:List St) (a:Int) (f:St) (l:St):List Fq:=[]
theorem wF {w:World} {g:Nat} {sl:Value} (S:List St) (a:Int) (h:TrkS 79 w g sl S) (hS:S.length≤64) (f:St) (hf:S[0]? =some f) (hb:f.tm≤a) (l:St) (hl:S[S.length - 1]? =some l) (hn:0<S.length) (ha:l.tm<a):
  Calls Tryz.prog 13 (.pointer (some ⟨g,0,none⟩)::[.int .i64 a]).toArray w fun e w'=>∃v0 v1:Value,e= .returned (.tuple #[v0,v1,.int .i64 17])∧ce w' v0 (⟨0,Pq.zero⟩)∧ce w' v1 (⟨0,Pq.zero⟩)∧Below w.heap.size w w':=by
 refine(aG (ρ:=frs (rU S a f l)++([.rowB true sl stT S.length (az S),.val (.int .i64 a)]:List Vp)) (w:=w) (fuel:=300) (m:=0) (S':=S) (args:=[.one (.ptr 0 0),.one (.ref 1)]) (vs:=[.pointer (some ⟨g,0,none⟩),.int .i64 a]) (r:=.tup [.agg [.i .i64 0,.b false,.sl0,.sl0,.b false,.sl0,.sl0,.b false,.sl0,.sl0,.b false,.sl0,.sl0,.b false,.sl0,.sl0,.b false,.sl0,.sl0,.b false,.sl0,.sl0],.agg [.i .i64 0,.b false,.sl0,.sl0,.b false,.sl0,.sl0,.b false,.sl0,.sl0,.b false,.sl0,.sl0,.b false,.sl0,.sl0,.b false,.sl0,.sl0,.b false,.sl0,.sl0],.one (.i .i64 17)]) (l:=.ref 0) (lo:=[]) (obs:=[]) h
  (ai)
  (ae (pj (u:=0) (l:=.ref 0) (kU (m:=0) rfl) (ah (n:=1) rfl) (by omega) f hf hb l hl hn ha (r:=.one .sl0)) (aj)) Tryz.func13 rfl (by kernel_rfl) aC ⟨bE,⟨aH (n:=1) rfl aE,trivial⟩⟩ (cf rfl)).mono ?_
 rintro e w' ⟨v,B',rfl,⟨vs,rfl,h1⟩,h2,h3⟩
 match vs,h1 with
 | [x1,x2,x3],h1=>
  have ex3:x3= .int .i64 17:=h1.2.2.1
  subst ex3
  exact⟨x1,x2,rfl,(d5 h1.1),(d5 h1.2.1),h3 rfl⟩
def yf (S:List St) (a:Int) (f:St) (l:St) (y:St):List Fq:=y.pose.cs
theorem q_AtQ {w:World} {g:Nat} {sl:Value} (S:List St) (a:Int) (h:TrkS 79 w g sl S) (hS:S.length≤64) (f:St) (hf:S[0]? =some f) (hb:f.tm≤a) (l:St) (hl:S[S.length - 1]? =some l) (hn:0<S.length) (ha:a≤l.tm) (y:St) (hy:S[plN S a]? =some y) (ey:y.tm=a) (hp:plN S a<S.length) (ky:y.pose.ok 2) (gy:y.pose.good):
  Calls Tryz.prog 12 (.pointer (some ⟨g,0,none⟩)::[.int .i64 a]).toArray w fun e w'=>∃v0:Value,e= .returned (.tuple #[v0,.int .i64 0])∧dt w' v0 y.pose∧Below w.heap.size w w':=by
 refine(aG (ρ:=frs (yf S a f l y)++([.rowB true sl stT S.length (az S),.val (.int .i64 a),.val (.int .i64 ((plN S a:Nat):Int)),.plc stT y.qs,.val (.int .i64 y.tm)]:List Vp)) (w:=w) (fuel:=300) (m:=21) (S':=S) (args:=[.one (.ptr 0 0),.one (.ref 22)]) (vs:=[.pointer (some ⟨g,0,none⟩),.int .i64 a]) (r:=.tup [row [0,1,2,3,4,5,6],.one (.i .i64 0)]) (l:=.ref 21) (lo:=[]) (obs:=[]) h
  (af (jw (n:=25) (ks:=[0,1,2,3,4,5,6]) (s:=y) rfl ⟨rfl,rfl,rfl,rfl,rfl,rfl,rfl,trivial⟩ (ky.mono (by decide))) ai)
  (ae (qC (u:=0) (l:=.ref 21) (kU (m:=21) rfl) (ah (n:=22) rfl) (n0:=23) (n1:=23) rfl rfl (by omega) f hf hb l hl hn ha y hy ey hp (r:=.one .sl0)) (ae (iaB (n:=21) (m:=24) rfl rfl (aU (ah (n:=23) rfl) (by omega)) hy) (ae (rN y 24 25 [0,1,2,3,4,5,6] rfl rfl ⟨rfl,rfl,rfl,rfl,rfl,rfl,rfl,trivial⟩) (ae (aw (t:=3) (ah (n:=23) rfl) (ah (n:=23) rfl) (cF (by omega))) (aj))))) Tryz.func12 rfl (by kernel_rfl) aC ⟨bE,⟨aH (n:=22) rfl aE,trivial⟩⟩ (cf rfl)).mono ?_
 rintro e w' ⟨v,B',rfl,⟨vs,rfl,h1⟩,h2,h3⟩
 match vs,h1 with
 | [x1,x2],h1=>
  have ex2:x2= .int .i64 0:=h1.2.1
  subst ex2
  exact⟨x1,rfl,((ag (xs:=yf S a f l y) (ks:=[0,1,2,3,4,5,6]) (vs:=y.pose.cs) ⟨rfl,rfl,rfl,rfl,rfl,rfl,rfl,trivial⟩).1 h1.1),h3 rfl⟩
def t4 (S:List St) (a:Int) (f:St) (l:St) (y:St):List Fq:=y.pose.cs
theorem zN {w:World} {g:Nat} {sl:Value} (S:List St) (a:Int) (h:TrkS 79 w g sl S) (hS:S.length≤64) (f:St) (hf:S[0]? =some f) (hb:f.tm≤a) (l:St) (hl:S[S.length - 1]? =some l) (hn:0<S.length) (ha:a≤l.tm) (y:St) (hy:S[plN S a]? =some y) (ey:y.tm=a) (hp:plN S a<S.length) (ky:y.pose.ok 2) (gy:y.pose.good):
  Calls Tryz.prog 13 (.pointer (some ⟨g,0,none⟩)::[.int .i64 a]).toArray w fun e w'=>∃v0 v1:Value,e= .returned (.tuple #[v0,v1,.int .i64 0])∧ce w' v0 y∧ce w' v1 y∧Below w.heap.size w w':=by
 refine(aG (ρ:=frs (t4 S a f l y)++([.rowB true sl stT S.length (az S),.val (.int .i64 a),.val (.int .i64 ((plN S a:Nat):Int)),.plc stT y.qs,.val (.int .i64 y.tm)]:List Vp)) (w:=w) (fuel:=300) (m:=21) (S':=S) (args:=[.one (.ptr 0 0),.one (.ref 22)]) (vs:=[.pointer (some ⟨g,0,none⟩),.int .i64 a]) (r:=.tup [.agg (.ref 25::bd [0,1,2,3,4,5,6]),.agg (.ref 25::bd [0,1,2,3,4,5,6]),.one (.i .i64 0)]) (l:=.ref 21) (lo:=[]) (obs:=[]) h
  (af (jw (n:=25) (ks:=[0,1,2,3,4,5,6]) (s:=y) rfl ⟨rfl,rfl,rfl,rfl,rfl,rfl,rfl,trivial⟩ (ky.mono (by decide))) ai)
  (ae (qC (u:=0) (l:=.ref 21) (kU (m:=21) rfl) (ah (n:=22) rfl) (n0:=23) (n1:=23) rfl rfl (by omega) f hf hb l hl hn ha y hy ey hp (r:=.one .sl0)) (ae (iaB (n:=21) (m:=24) rfl rfl (aU (ah (n:=23) rfl) (by omega)) hy) (ae (rN y 24 25 [0,1,2,3,4,5,6] rfl rfl ⟨rfl,rfl,rfl,rfl,rfl,rfl,rfl,trivial⟩) (aj)))) Tryz.func13 rfl (by kernel_rfl) aC ⟨bE,⟨aH (n:=22) rfl aE,trivial⟩⟩ (cf rfl)).mono ?_
 rintro e w' ⟨v,B',rfl,⟨vs,rfl,h1⟩,h2,h3⟩
 match vs,h1 with
 | [x1,x2,x3],h1=>
  have ex3:x3= .int .i64 0:=h1.2.2.1
  subst ex3
  exact⟨x1,x2,rfl,((bc (n:=25) (ks:=[0,1,2,3,4,5,6]) (s:=y) rfl ⟨rfl,rfl,rfl,rfl,rfl,rfl,rfl,trivial⟩).1 h1.1),((bc (n:=25) (ks:=[0,1,2,3,4,5,6]) (s:=y) rfl ⟨rfl,rfl,rfl,rfl,rfl,rfl,rfl,trivial⟩).1 h1.2.1),h3 rfl⟩
def yg (S:List St) (a:Int) (f:St) (l:St) (y:St) (z:St):List Fq:=(y.pose.cs++(z.pose.cs++([(Fq.ratio (a - z.tm) (y.tm - z.tm))]++((Pq.mk (z.pose.rot.way (z.pose.rot.inv.mul y.pose.rot) (Fq.ratio (a - z.tm) (y.tm - z.tm))) (z.pose.pos.lerp y.pose.pos (Fq.ratio (a - z.tm) (y.tm - z.tm)))).cs))))
theorem q_AtM {w:World} {g:Nat} {sl:Value} (S:List St) (a:Int) (h:TrkS 79 w g sl S) (hS:S.length≤64) (f:St) (hf:S[0]? =some f) (hb:f.tm≤a) (l:St) (hl:S[S.length - 1]? =some l) (hn:0<S.length) (ha:a≤l.tm) (y:St) (hy:S[plN S a]? =some y) (ey:a<y.tm) (hp:plN S a<S.length) (h0:0<plN S a) (ky:y.pose.ok 2) (gy:y.pose.good) (z:St) (hz:S[plN S a - 1]? =some z) (kz:z.pose.ok 2) (gz:z.pose.good) (t0:0≤y.tm) (t1:y.tm≤1099511627776) (t2:0≤z.tm) (t3:z.tm<a) (ow:¬opp z.pose y.pose):
  Calls Tryz.prog 12 (.pointer (some ⟨g,0,none⟩)::[.int .i64 a]).toArray w fun e w'=>∃v0:Value,e= .returned (.tuple #[v0,.int .i64 0])∧dt w' v0 (Pq.mk (z.pose.rot.way (z.pose.rot.inv.mul y.pose.rot) (Fq.ratio (a - z.tm) (y.tm - z.tm))) (z.pose.pos.lerp y.pose.pos (Fq.ratio (a - z.tm) (y.tm - z.tm))))∧Below w.heap.size w w':=by
 refine(aG (ρ:=frs (yg S a f l y z)++([.rowB true sl stT S.length (az S),.val (.int .i64 a),.val (.int .i64 ((plN S a:Nat):Int)),.val (.int .i64 (((plN S a:Nat):Int) - 1)),.plc stT z.qs,.val (.int .i64 z.tm),.plc stT y.qs,.val (.int .i64 y.tm),.val (.int .i64 (a - z.tm)),.val (.int .i64 (y.tm - z.tm))]:List Vp)) (w:=w) (fuel:=300) (m:=66) (S':=S) (args:=[.one (.ptr 0 0),.one (.ref 67)]) (vs:=[.pointer (some ⟨g,0,none⟩),.int .i64 a]) (r:=.tup [row [15,16,17,18,19,20,21],.one (.i .i64 0)]) (l:=.ref 66) (lo:=[]) (obs:=[]) h
  (af (pe (v:=(a - z.tm)) (u:=(y.tm - z.tm)) (k:=14) (ah (n:=74) rfl) (ah (n:=75) rfl) (by omega) (by omega) (by omega) (by omega) (by omega) rfl) (af (tH (ka:=[7,8,9,10,11,12,13]) (a:=z.pose) (kb:=[0,1,2,3,4,5,6]) (b:=y.pose) (im:=14) (kr:=[15,16,17,18,19,20,21]) ⟨rfl,rfl,rfl,rfl,rfl,rfl,rfl,trivial⟩ ⟨rfl,rfl,rfl,rfl,rfl,rfl,rfl,trivial⟩ rfl ⟨rfl,rfl,rfl,rfl,rfl,rfl,rfl,trivial⟩ (kz.mono (by decide)) (ky.mono (by decide)) ((eF (v:=(a - z.tm)) (u:=(y.tm - z.tm)) (by omega) (by omega) (by omega) (by omega) (by omega)).mono (by decide)) gz gy (dM (v:=(a - z.tm)) (u:=(y.tm - z.tm)) (by omega)) ow) ai))
  (ae (qD (u:=0) (l:=.ref 66) (kU (m:=66) rfl) (ah (n:=67) rfl) (n0:=69) (n1:=68) rfl rfl (by omega) f hf hb l hl hn ha y hy ey hp h0 (r:=.one .sl0)) (ae (iaB (n:=66) (m:=70) rfl rfl (aU (ah (n:=69) rfl) (by omega)) hz) (ae (rN z 70 71 [7,8,9,10,11,12,13] rfl rfl ⟨rfl,rfl,rfl,rfl,rfl,rfl,rfl,trivial⟩) (ae (aw (t:=3) (ah (n:=69) rfl) (ah (n:=68) rfl) (a8 (by omega))) (ae (iaB (n:=66) (m:=72) rfl rfl (aU (ah (n:=68) rfl) (by omega)) hy) (ae (rN y 72 73 [0,1,2,3,4,5,6] rfl rfl ⟨rfl,rfl,rfl,rfl,rfl,rfl,rfl,trivial⟩) (ae (bQ (m:=74) (t:=3) (ah (n:=67) rfl) (ah (n:=71) rfl) rfl rfl (by omega) (by omega)) (ae (bQ (m:=75) (t:=3) (ah (n:=73) rfl) (ah (n:=71) rfl) rfl rfl (by omega) (by omega)) (aj))))))))) Tryz.func12 rfl (by kernel_rfl) aC ⟨bE,⟨aH (n:=67) rfl aE,trivial⟩⟩ (cf rfl)).mono ?_
 rintro e w' ⟨v,B',rfl,⟨vs,rfl,h1⟩,h2,h3⟩
 match vs,h1 with
 | [x1,x2],h1=>
  have ex2:x2= .int .i64 0:=h1.2.1
  subst ex2
  exact⟨x1,rfl,((ag (xs:=yg S a f l y z) (ks:=[15,16,17,18,19,20,21]) (vs:=(Pq.mk (z.pose.rot.way (z.pose.rot.inv.mul y.pose.rot) (Fq.ratio (a - z.tm) (y.tm - z.tm))) (z.pose.pos.lerp y.pose.pos (Fq.ratio (a - z.tm) (y.tm - z.tm)))).cs) ⟨rfl,rfl,rfl,rfl,rfl,rfl,rfl,trivial⟩).1 h1.1),h3 rfl⟩
def t5 (S:List St) (a:Int) (f:St) (l:St) (y:St) (z:St):List Fq:=(y.pose.cs++(z.pose.cs))
theorem zO {w:World} {g:Nat} {sl:Value} (S:List St) (a:Int) (h:TrkS 79 w g sl S) (hS:S.length≤64) (f:St) (hf:S[0]? =some f) (hb:f.tm≤a) (l:St) (hl:S[S.length - 1]? =some l) (hn:0<S.length) (ha:a≤l.tm) (y:St) (hy:S[plN S a]? =some y) (ey:a<y.tm) (hp:plN S a<S.length) (h0:0<plN S a) (ky:y.pose.ok 2) (gy:y.pose.good) (z:St) (hz:S[plN S a - 1]? =some z) (kz:z.pose.ok 2) (gz:z.pose.good):
  Calls Tryz.prog 13 (.pointer (some ⟨g,0,none⟩)::[.int .i64 a]).toArray w fun e w'=>∃v0 v1:Value,e= .returned (.tuple #[v0,v1,.int .i64 0])∧ce w' v0 z∧ce w' v1 y∧Below w.heap.size w w':=by
 refine(aG (ρ:=frs (t5 S a f l y z)++([.rowB true sl stT S.length (az S),.val (.int .i64 a),.val (.int .i64 ((plN S a:Nat):Int)),.val (.int .i64 (((plN S a:Nat):Int) - 1)),.plc stT z.qs,.val (.int .i64 z.tm),.plc stT y.qs,.val (.int .i64 y.tm)]:List Vp)) (w:=w) (fuel:=300) (m:=42) (S':=S) (args:=[.one (.ptr 0 0),.one (.ref 43)]) (vs:=[.pointer (some ⟨g,0,none⟩),.int .i64 a]) (r:=.tup [.agg (.ref 47::bd [7,8,9,10,11,12,13]),.agg (.ref 49::bd [0,1,2,3,4,5,6]),.one (.i .i64 0)]) (l:=.ref 42) (lo:=[]) (obs:=[]) h
  (af (jw (n:=47) (ks:=[7,8,9,10,11,12,13]) (s:=z) rfl ⟨rfl,rfl,rfl,rfl,rfl,rfl,rfl,trivial⟩ (kz.mono (by decide))) (af (jw (n:=49) (ks:=[0,1,2,3,4,5,6]) (s:=y) rfl ⟨rfl,rfl,rfl,rfl,rfl,rfl,rfl,trivial⟩ (ky.mono (by decide))) ai))
  (ae (qD (u:=0) (l:=.ref 42) (kU (m:=42) rfl) (ah (n:=43) rfl) (n0:=45) (n1:=44) rfl rfl (by omega) f hf hb l hl hn ha y hy ey hp h0 (r:=.one .sl0)) (ae (iaB (n:=42) (m:=46) rfl rfl (aU (ah (n:=45) rfl) (by omega)) hz) (ae (rN z 46 47 [7,8,9,10,11,12,13] rfl rfl ⟨rfl,rfl,rfl,rfl,rfl,rfl,rfl,trivial⟩) (ae (iaB (n:=42) (m:=48) rfl rfl (aU (ah (n:=44) rfl) (by omega)) hy) (ae (rN y 48 49 [0,1,2,3,4,5,6] rfl rfl ⟨rfl,rfl,rfl,rfl,rfl,rfl,rfl,trivial⟩) (aj)))))) Tryz.func13 rfl (by kernel_rfl) aC ⟨bE,⟨aH (n:=43) rfl aE,trivial⟩⟩ (cf rfl)).mono ?_
 rintro e w' ⟨v,B',rfl,⟨vs,rfl,h1⟩,h2,h3⟩
 match vs,h1 with
 | [x1,x2,x3],h1=>
  have ex3:x3= .int .i64 0:=h1.2.2.1
  subst ex3
  exact⟨x1,x2,rfl,((bc (n:=47) (ks:=[7,8,9,10,11,12,13]) (s:=z) rfl ⟨rfl,rfl,rfl,rfl,rfl,rfl,rfl,trivial⟩).1 h1.1),((bc (n:=49) (ks:=[0,1,2,3,4,5,6]) (s:=y) rfl ⟨rfl,rfl,rfl,rfl,rfl,rfl,rfl,trivial⟩).1 h1.2.1),h3 rfl⟩
def zP (S:List St):List Fq:=[]
theorem q_Span0 {w:World} {g:Nat} {sl:Value} (S:List St) (h:TrkS 79 w g sl S) (hS:S.length≤64) (hS0:S.length=0):
  Calls Tryz.prog 20 (.pointer (some ⟨g,0,none⟩)::[]).toArray w fun e w'=>e= .returned (.tuple #[.int .i64 0,.int .i64 0,.bool false])∧Below w.heap.size w w':=by
 refine(aG (ρ:=frs (zP S)++([.rowB true sl stT S.length (az S),.val (.int .i64 (S.length:Int))]:List Vp)) (w:=w) (fuel:=300) (m:=0) (S':=S) (args:=[.one (.ptr 0 0)]) (vs:=[.pointer (some ⟨g,0,none⟩)]) (r:=.tup [.one (.i .i64 0),.one (.i .i64 0),.one (.b false)]) (l:=.ref 0) (lo:=[]) (obs:=[]) h
  (ai)
  (ae (bK (y:=0) (o:=0) (t:=39) ⟨_,Tryz.underlying39⟩) (ae (bW 0 1 rfl rfl) (ae (aw (t:=3) (ah (n:=1) rfl) (aF (c:=0)) (cF (by omega))) (aj)))) Tryz.func20 rfl (by kernel_rfl) aC ⟨bE,trivial⟩ (cf rfl)).mono ?_
 rintro e w' ⟨v,B',rfl,⟨vs,rfl,h1⟩,h2,h3⟩
 match vs,h1 with
 | [x1,x2,x3],h1=>
  have ex1:x1= .int .i64 0:=h1.1
  subst ex1
  have ex2:x2= .int .i64 0:=h1.2.1
  subst ex2
  have ex3:x3= .bool false:=h1.2.2.1
  subst ex3
  exact⟨rfl,h3 rfl⟩
def zQ (S:List St) (f:St) (l:St):List Fq:=[]
theorem q_Span1 {w:World} {g:Nat} {sl:Value} (S:List St) (h:TrkS 79 w g sl S) (hS:S.length≤64) (f:St) (hf:S[0]? =some f) (l:St) (hl:S[S.length - 1]? =some l) (hn:0<S.length):
  Calls Tryz.prog 20 (.pointer (some ⟨g,0,none⟩)::[]).toArray w fun e w'=>e= .returned (.tuple #[.int .i64 f.tm,.int .i64 l.tm,.bool true])∧Below w.heap.size w w':=by
 refine(aG (ρ:=frs (zQ S f l)++([.rowB true sl stT S.length (az S),.val (.int .i64 (S.length:Int)),.plc stT f.qs,.val (.int .i64 f.tm),.val (.int .i64 ((S.length:Int) - 1)),.plc stT l.qs,.val (.int .i64 l.tm)]:List Vp)) (w:=w) (fuel:=300) (m:=0) (S':=S) (args:=[.one (.ptr 0 0)]) (vs:=[.pointer (some ⟨g,0,none⟩)]) (r:=.tup [.one (.ref 3),.one (.ref 6),.one (.b true)]) (l:=.ref 0) (lo:=[]) (obs:=[]) h
  (ai)
  (ae (bK (y:=0) (o:=0) (t:=39) ⟨_,Tryz.underlying39⟩) (ae (bW 0 1 rfl rfl) (ae (aw (t:=3) (ah (n:=1) rfl) (aF (c:=0)) (a8 (by omega))) (ae (iaB (n:=0) (m:=2) rfl rfl (aU (aF (c:=0)) (by omega)) hf) (ae (fa0 f 2 rfl) (ae (ldt f 2 3 rfl rfl) (ae (bQ (m:=4) (t:=3) (ah (n:=1) rfl) (aF (c:=1)) rfl rfl (by omega) (by omega)) (ae (iaB (n:=0) (m:=5) rfl rfl (aU (ah (n:=4) rfl) (by omega)) hl) (ae (fa0 l 5 rfl) (ae (ldt l 5 6 rfl rfl) (aj))))))))))) Tryz.func20 rfl (by kernel_rfl) aC ⟨bE,trivial⟩ (cf rfl)).mono ?_
 rintro e w' ⟨v,B',rfl,⟨vs,rfl,h1⟩,h2,h3⟩
 match vs,h1 with
 | [x1,x2,x3],h1=>
  have ex1:x1= .int .i64 f.tm:=bh rfl h1.1
  subst ex1
  have ex2:x2= .int .i64 l.tm:=bh rfl h1.2.1
  subst ex2
  have ex3:x3= .bool true:=h1.2.2.1
  subst ex3
  exact⟨rfl,h3 rfl⟩
def xq_LenX (S:List St):List Fq:=[]
theorem q_Len {w:World} {g:Nat} {sl:Value} (S:List St) (h:TrkS 79 w g sl S) (hS:S.length≤64):
  Calls Tryz.prog 25 (.pointer (some ⟨g,0,none⟩)::[]).toArray w fun e w'=>e= .returned (.int .i64 (S.length:Int))∧Below w.heap.size w w':=by
 refine(aG (ρ:=frs (xq_LenX S)++([.rowB true sl stT S.length (az S),.val (.int .i64 (S.length:Int))]:List Vp)) (w:=w) (fuel:=300) (m:=0) (S':=S) (args:=[.one (.ptr 0 0)]) (vs:=[.pointer (some ⟨g,0,none⟩)]) (r:=.v (.one (.ref 1))) (l:=.ref 0) (lo:=[]) (obs:=[]) h
  (ai)
  (ae (bK (y:=0) (o:=0) (t:=39) ⟨_,Tryz.underlying39⟩) (ae (bW 0 1 rfl rfl) (aj))) Tryz.func25 rfl (by kernel_rfl) aC ⟨bE,trivial⟩ (cf rfl)).mono ?_
 rintro e w' ⟨v,B',rfl,h1,h2,h3⟩
 have ev:v= .int .i64 (S.length:Int):=bh rfl h1
 subst ev
 exact⟨rfl,h3 rfl⟩
def wG (S:List St) (a:Int):List Fq:=[]
theorem q_DropE0 {w:World} {g:Nat} {sl:Value} (S:List St) (a:Int) (h:TrkS 79 w g sl S) (hS:S.length≤64) (hp:plN S a=S.length) (h1:plN S a≤1):
  Calls Tryz.prog 26 (.pointer (some ⟨g,0,none⟩)::[.int .i64 a]).toArray w fun e w'=>e= .returned (.int .i64 0)∧TrkM 79 w g sl S w':=by
 have hle:=a9 S a
 have hd1:(S.drop (plN S a)).length=S.length - plN S a:=List.length_drop ..
 have hd2:(S.drop (plN S a - 1)).length=S.length - (plN S a - 1):=List.length_drop ..
 refine(aG (ρ:=frs (wG S a)++([.rowB true sl stT S.length (az S),.val (.int .i64 a),.val (.int .i64 ((plN S a:Nat):Int)),.val (.int .i64 (S.length:Int)),.val (.int .i64 (((plN S a:Nat):Int) - 1))]:List Vp)) (w:=w) (fuel:=300) (m:=0) (S':=S) (args:=[.one (.ptr 0 0),.one (.ref 1)]) (vs:=[.pointer (some ⟨g,0,none⟩),.int .i64 a]) (r:=.v (.one (.i .i64 0))) (l:=.ref 0) (lo:=[]) (obs:=[]) h
  (ai)
  (ae (bK (y:=0) (o:=0) (t:=39) ⟨_,Tryz.underlying39⟩) (ae (cJ (u:=0) (m:=0) (S:=S) (a:=a) (n:=2) (r:=.one .sl0) rfl (ah (n:=1) rfl) rfl (by omega)) (ae (bW 0 3 rfl rfl) (ae (aw (t:=3) (ah (n:=2) rfl) (ah (n:=3) rfl) (cF (by omega))) (ae (bQ (m:=4) (t:=3) (ah (n:=2) rfl) (aF (c:=1)) rfl rfl (by omega) (by omega)) (ae (aw (t:=3) (ah (n:=4) rfl) (aF (c:=0)) (cW (by omega))) (aj))))))) Tryz.func26 rfl (by kernel_rfl) aC ⟨bE,⟨aH (n:=1) rfl aE,trivial⟩⟩ (cf rfl)).mono ?_
 rintro e w' ⟨v,B',rfl,h1,h2,h3⟩
 have ev:v= .int .i64 0:=h1
 subst ev
 exact⟨rfl,h2⟩
def wH (S:List St) (a:Int):List Fq:=[]
theorem q_DropE1 {w:World} {g:Nat} {sl:Value} (S:List St) (a:Int) (h:TrkS 79 w g sl S) (hS:S.length≤64) (hp:plN S a=S.length) (h1:2≤plN S a):
  Calls Tryz.prog 26 (.pointer (some ⟨g,0,none⟩)::[.int .i64 a]).toArray w fun e w'=>e= .returned (.int .i64 (((plN S a:Nat):Int) - 1))∧TrkM 79 w g sl (S.drop (plN S a - 1)) w':=by
 have hle:=a9 S a
 have hd1:(S.drop (plN S a)).length=S.length - plN S a:=List.length_drop ..
 have hd2:(S.drop (plN S a - 1)).length=S.length - (plN S a - 1):=List.length_drop ..
 refine(aG (ρ:=frs (wH S a)++([.rowB true sl stT S.length (az S),.val (.int .i64 a),.val (.int .i64 ((plN S a:Nat):Int)),.val (.int .i64 (S.length:Int)),.val (.int .i64 (((plN S a:Nat):Int) - 1)),.rowB false sl stT (S.drop (plN S a - 1)).length (az (S.drop (plN S a - 1))),.ownr stT 22 (S.drop (plN S a - 1)).length (az (S.drop (plN S a - 1)))]:List Vp)) (w:=w) (fuel:=300) (m:=0) (S':=S.drop (plN S a - 1)) (args:=[.one (.ptr 0 0),.one (.ref 1)]) (vs:=[.pointer (some ⟨g,0,none⟩),.int .i64 a]) (r:=.v (.one (.ref 4))) (l:=.own 0 6) (lo:=[]) (obs:=[]) h
  (ai)
  (ae (bK (y:=0) (o:=0) (t:=39) ⟨_,Tryz.underlying39⟩) (ae (cJ (u:=0) (m:=0) (S:=S) (a:=a) (n:=2) (r:=.one .sl0) rfl (ah (n:=1) rfl) rfl (by omega)) (ae (bW 0 3 rfl rfl) (ae (aw (t:=3) (ah (n:=2) rfl) (ah (n:=3) rfl) (cF (by omega))) (ae (bQ (m:=4) (t:=3) (ah (n:=2) rfl) (aF (c:=1)) rfl rfl (by omega) (by omega)) (ae (aw (t:=3) (ah (n:=4) rfl) (aF (c:=0)) (eE (by omega))) (ae (dN (n:=0) (m:=5) (k:=(plN S a - 1)) (t:=22) Tryz.underlying22 (by kernel_rfl) rfl (by rfl) rfl (aU (ah (n:=4) rfl) (by omega)) (by omega)) (ae (dk (k:=0) (m:=6) (S:=(S.drop (plN S a - 1))) (r:=.one .sl0) (fq (n:=5) rfl) rfl (by omega)) (aj))))))))) Tryz.func26 rfl (by kernel_rfl) aC ⟨bE,⟨aH (n:=1) rfl aE,trivial⟩⟩ (l8 rfl)).mono ?_
 rintro e w' ⟨v,B',rfl,h1,h2,h3⟩
 have ev:v= .int .i64 (((plN S a:Nat):Int) - 1):=bh rfl h1
 subst ev
 exact⟨rfl,h2⟩
def wI (S:List St) (a:Int) (y:St):List Fq:=[]
theorem q_DropG0 {w:World} {g:Nat} {sl:Value} (S:List St) (a:Int) (h:TrkS 79 w g sl S) (hS:S.length≤64) (y:St) (hy:S[plN S a]? =some y) (hp:plN S a<S.length) (ey:a<y.tm) (h1:plN S a≤1):
  Calls Tryz.prog 26 (.pointer (some ⟨g,0,none⟩)::[.int .i64 a]).toArray w fun e w'=>e= .returned (.int .i64 0)∧TrkM 79 w g sl S w':=by
 have hle:=a9 S a
 have hd1:(S.drop (plN S a)).length=S.length - plN S a:=List.length_drop ..
 have hd2:(S.drop (plN S a - 1)).length=S.length - (plN S a - 1):=List.length_drop ..
 refine(aG (ρ:=frs (wI S a y)++([.rowB true sl stT S.length (az S),.val (.int .i64 a),.val (.int .i64 ((plN S a:Nat):Int)),.val (.int .i64 (S.length:Int)),.plc stT y.qs,.val (.int .i64 y.tm),.val (.int .i64 (((plN S a:Nat):Int) - 1))]:List Vp)) (w:=w) (fuel:=300) (m:=0) (S':=S) (args:=[.one (.ptr 0 0),.one (.ref 1)]) (vs:=[.pointer (some ⟨g,0,none⟩),.int .i64 a]) (r:=.v (.one (.i .i64 0))) (l:=.ref 0) (lo:=[]) (obs:=[]) h
  (ai)
  (ae (bK (y:=0) (o:=0) (t:=39) ⟨_,Tryz.underlying39⟩) (ae (cJ (u:=0) (m:=0) (S:=S) (a:=a) (n:=2) (r:=.one .sl0) rfl (ah (n:=1) rfl) rfl (by omega)) (ae (bW 0 3 rfl rfl) (ae (aw (t:=3) (ah (n:=2) rfl) (ah (n:=3) rfl) (a8 (by omega))) (ae (iaB (n:=0) (m:=4) rfl rfl (aU (ah (n:=2) rfl) (by omega)) hy) (ae (fa0 y 4 rfl) (ae (ldt y 4 5 rfl rfl) (ae (aw (t:=3) (ah (n:=5) rfl) (ah (n:=1) rfl) (bm (by omega))) (ae (bQ (m:=6) (t:=3) (ah (n:=2) rfl) (aF (c:=1)) rfl rfl (by omega) (by omega)) (ae (aw (t:=3) (ah (n:=6) rfl) (aF (c:=0)) (cW (by omega))) (aj))))))))))) Tryz.func26 rfl (by kernel_rfl) aC ⟨bE,⟨aH (n:=1) rfl aE,trivial⟩⟩ (cf rfl)).mono ?_
 rintro e w' ⟨v,B',rfl,h1,h2,h3⟩
 have ev:v= .int .i64 0:=h1
 subst ev
 exact⟨rfl,h2⟩
def wJ (S:List St) (a:Int) (y:St):List Fq:=[]
theorem q_DropG1 {w:World} {g:Nat} {sl:Value} (S:List St) (a:Int) (h:TrkS 79 w g sl S) (hS:S.length≤64) (y:St) (hy:S[plN S a]? =some y) (hp:plN S a<S.length) (ey:a<y.tm) (h1:2≤plN S a):
  Calls Tryz.prog 26 (.pointer (some ⟨g,0,none⟩)::[.int .i64 a]).toArray w fun e w'=>e= .returned (.int .i64 (((plN S a:Nat):Int) - 1))∧TrkM 79 w g sl (S.drop (plN S a - 1)) w':=by
 have hle:=a9 S a
 have hd1:(S.drop (plN S a)).length=S.length - plN S a:=List.length_drop ..
 have hd2:(S.drop (plN S a - 1)).length=S.length - (plN S a - 1):=List.length_drop ..
 refine(aG (ρ:=frs (wJ S a y)++([.rowB true sl stT S.length (az S),.val (.int .i64 a),.val (.int .i64 ((plN S a:Nat):Int)),.val (.int .i64 (S.length:Int)),.plc stT y.qs,.val (.int .i64 y.tm),.val (.int .i64 (((plN S a:Nat):Int) - 1)),.rowB false sl stT (S.drop (plN S a - 1)).length (az (S.drop (plN S a - 1))),.ownr stT 22 (S.drop (plN S a - 1)).length (az (S.drop (plN S a - 1)))]:List Vp)) (w:=w) (fuel:=300) (m:=0) (S':=S.drop (plN S a - 1)) (args:=[.one (.ptr 0 0),.one (.ref 1)]) (vs:=[.pointer (some ⟨g,0,none⟩),.int .i64 a]) (r:=.v (.one (.ref 6))) (l:=.own 0 8) (lo:=[]) (obs:=[]) h
  (ai)
  (ae (bK (y:=0) (o:=0) (t:=39) ⟨_,Tryz.underlying39⟩) (ae (cJ (u:=0) (m:=0) (S:=S) (a:=a) (n:=2) (r:=.one .sl0) rfl (ah (n:=1) rfl) rfl (by omega)) (ae (bW 0 3 rfl rfl) (ae (aw (t:=3) (ah (n:=2) rfl) (ah (n:=3) rfl) (a8 (by omega))) (ae (iaB (n:=0) (m:=4) rfl rfl (aU (ah (n:=2) rfl) (by omega)) hy) (ae (fa0 y 4 rfl) (ae (ldt y 4 5 rfl rfl) (ae (aw (t:=3) (ah (n:=5) rfl) (ah (n:=1) rfl) (bm (by omega))) (ae (bQ (m:=6) (t:=3) (ah (n:=2) rfl) (aF (c:=1)) rfl rfl (by omega) (by omega)) (ae (aw (t:=3) (ah (n:=6) rfl) (aF (c:=0)) (eE (by omega))) (ae (dN (n:=0) (m:=7) (k:=(plN S a - 1)) (t:=22) Tryz.underlying22 (by kernel_rfl) rfl (by rfl) rfl (aU (ah (n:=6) rfl) (by omega)) (by omega)) (ae (dk (k:=0) (m:=8) (S:=(S.drop (plN S a - 1))) (r:=.one .sl0) (fq (n:=7) rfl) rfl (by omega)) (aj))))))))))))) Tryz.func26 rfl (by kernel_rfl) aC ⟨bE,⟨aH (n:=1) rfl aE,trivial⟩⟩ (l8 rfl)).mono ?_
 rintro e w' ⟨v,B',rfl,h1,h2,h3⟩
 have ev:v= .int .i64 (((plN S a:Nat):Int) - 1):=bh rfl h1
 subst ev
 exact⟨rfl,h2⟩
def wK (S:List St) (a:Int) (y:St):List Fq:=[]
theorem q_DropQ0 {w:World} {g:Nat} {sl:Value} (S:List St) (a:Int) (h:TrkS 79 w g sl S) (hS:S.length≤64) (y:St) (hy:S[plN S a]? =some y) (hp:plN S a<S.length) (ey:y.tm≤a) (h1:plN S a=0):
  Calls Tryz.prog 26 (.pointer (some ⟨g,0,none⟩)::[.int .i64 a]).toArray w fun e w'=>e= .returned (.int .i64 0)∧TrkM 79 w g sl S w':=by
 have hle:=a9 S a
 have hd1:(S.drop (plN S a)).length=S.length - plN S a:=List.length_drop ..
 have hd2:(S.drop (plN S a - 1)).length=S.length - (plN S a - 1):=List.length_drop ..
 refine(aG (ρ:=frs (wK S a y)++([.rowB true sl stT S.length (az S),.val (.int .i64 a),.val (.int .i64 ((plN S a:Nat):Int)),.val (.int .i64 (S.length:Int)),.plc stT y.qs,.val (.int .i64 y.tm)]:List Vp)) (w:=w) (fuel:=300) (m:=0) (S':=S) (args:=[.one (.ptr 0 0),.one (.ref 1)]) (vs:=[.pointer (some ⟨g,0,none⟩),.int .i64 a]) (r:=.v (.one (.i .i64 0))) (l:=.ref 0) (lo:=[]) (obs:=[]) h
  (ai)
  (ae (bK (y:=0) (o:=0) (t:=39) ⟨_,Tryz.underlying39⟩) (ae (cJ (u:=0) (m:=0) (S:=S) (a:=a) (n:=2) (r:=.one .sl0) rfl (ah (n:=1) rfl) rfl (by omega)) (ae (bW 0 3 rfl rfl) (ae (aw (t:=3) (ah (n:=2) rfl) (ah (n:=3) rfl) (a8 (by omega))) (ae (iaB (n:=0) (m:=4) rfl rfl (aU (ah (n:=2) rfl) (by omega)) hy) (ae (fa0 y 4 rfl) (ae (ldt y 4 5 rfl rfl) (ae (aw (t:=3) (ah (n:=5) rfl) (ah (n:=1) rfl) (aQ (by omega))) (ae (aw (t:=3) (ah (n:=2) rfl) (aF (c:=0)) (cW (by omega))) (aj)))))))))) Tryz.func26 rfl (by kernel_rfl) aC ⟨bE,⟨aH (n:=1) rfl aE,trivial⟩⟩ (cf rfl)).mono ?_
 rintro e w' ⟨v,B',rfl,h1,h2,h3⟩
 have ev:v= .int .i64 0:=h1
 subst ev
 exact⟨rfl,h2⟩
def wL (S:List St) (a:Int) (y:St):List Fq:=[]
theorem q_DropQ1 {w:World} {g:Nat} {sl:Value} (S:List St) (a:Int) (h:TrkS 79 w g sl S) (hS:S.length≤64) (y:St) (hy:S[plN S a]? =some y) (hp:plN S a<S.length) (ey:y.tm≤a) (h1:1≤plN S a):
  Calls Tryz.prog 26 (.pointer (some ⟨g,0,none⟩)::[.int .i64 a]).toArray w fun e w'=>e= .returned (.int .i64 ((plN S a:Nat):Int))∧TrkM 79 w g sl (S.drop (plN S a)) w':=by
 have hle:=a9 S a
 have hd1:(S.drop (plN S a)).length=S.length - plN S a:=List.length_drop ..
 have hd2:(S.drop (plN S a - 1)).length=S.length - (plN S a - 1):=List.length_drop ..
 refine(aG (ρ:=frs (wL S a y)++([.rowB true sl stT S.length (az S),.val (.int .i64 a),.val (.int .i64 ((plN S a:Nat):Int)),.val (.int .i64 (S.length:Int)),.plc stT y.qs,.val (.int .i64 y.tm),.rowB false sl stT (S.drop (plN S a)).length (az (S.drop (plN S a))),.ownr stT 22 (S.drop (plN S a)).length (az (S.drop (plN S a)))]:List Vp)) (w:=w) (fuel:=300) (m:=0) (S':=S.drop (plN S a)) (args:=[.one (.ptr 0 0),.one (.ref 1)]) (vs:=[.pointer (some ⟨g,0,none⟩),.int .i64 a]) (r:=.v (.one (.ref 2))) (l:=.own 0 7) (lo:=[]) (obs:=[]) h
  (ai)
  (ae (bK (y:=0) (o:=0) (t:=39) ⟨_,Tryz.underlying39⟩) (ae (cJ (u:=0) (m:=0) (S:=S) (a:=a) (n:=2) (r:=.one .sl0) rfl (ah (n:=1) rfl) rfl (by omega)) (ae (bW 0 3 rfl rfl) (ae (aw (t:=3) (ah (n:=2) rfl) (ah (n:=3) rfl) (a8 (by omega))) (ae (iaB (n:=0) (m:=4) rfl rfl (aU (ah (n:=2) rfl) (by omega)) hy) (ae (fa0 y 4 rfl) (ae (ldt y 4 5 rfl rfl) (ae (aw (t:=3) (ah (n:=5) rfl) (ah (n:=1) rfl) (aQ (by omega))) (ae (aw (t:=3) (ah (n:=2) rfl) (aF (c:=0)) (eE (by omega))) (ae (dN (n:=0) (m:=6) (k:=(plN S a)) (t:=22) Tryz.underlying22 (by kernel_rfl) rfl (by rfl) rfl (aU (ah (n:=2) rfl) (by omega)) (by omega)) (ae (dk (k:=0) (m:=7) (S:=(S.drop (plN S a))) (r:=.one .sl0) (fq (n:=6) rfl) rfl (by omega)) (aj)))))))))))) Tryz.func26 rfl (by kernel_rfl) aC ⟨bE,⟨aH (n:=1) rfl aE,trivial⟩⟩ (l8 rfl)).mono ?_
 rintro e w' ⟨v,B',rfl,h1,h2,h3⟩
 have ev:v= .int .i64 ((plN S a:Nat):Int):=bh rfl h1
 subst ev
 exact⟨rfl,h2⟩
end Go.Proofs.YtfhinmdhjlmikaaGreat
namespace Go.Proofs.YtfhinmdhjlmikaaGreat
set_option linter.unusedSimpArgs false
set_option linter.unusedVariables false
set_option maxRecDepth 100000
open Go.RowKit
/-- Numbers that are not too long. -/
structure RSt.sm (x:RSt):Prop where
 h0:x.r0.L≤1000000∧x.r0.N≤1000000
 h1:x.r1.L≤1000000∧x.r1.N≤1000000
 h2:x.r2.L≤1000000∧x.r2.N≤1000000
 h3:x.r3.L≤1000000∧x.r3.N≤1000000
 h4:x.r4.L≤1000000∧x.r4.N≤1000000
 h5:x.r5.L≤1000000∧x.r5.N≤1000000
 h6:x.r6.L≤1000000∧x.r6.N≤1000000
theorem Fq.ok.sm {x:Fq} (h:x.ok 2):x.raw.L≤1000000∧x.raw.N≤1000000:=⟨Nat.le_trans h.p (by decide),Nat.le_trans h.q (by decide)⟩
theorem St.sm {s:St} (h:s.pose.ok 2):s.raw.sm:=⟨h.rot.w.sm,h.rot.x.sm,h.rot.y.sm,h.rot.z.sm,h.pos.x.sm,h.pos.y.sm,h.pos.z.sm⟩
/-- Stamps in order of time. -/
def dO (S:List St):Prop:=∀(i j:Nat) (x y:St),i<j→S[i]? =some x→S[j]? =some y→x.tm<y.tm
theorem dO.tail {s:St} {S:List St} (h:dO (s::S)):dO S:=fun i j x y hij hx hy=>h (i+1) (j+1) x y (by omega) (by simpa using hx) (by simpa using hy)
theorem fc:∀ {S:List St} {b:Int} {k:Nat} {x:St},dO S→plN S b≤k→S[k]? =some x→¬x.tm<b
 | [],_,_,_,_,_,h=>by simp at h
 | s::S,b,k,x,hs,hk,hx=>by
  simp only[plN]at hk
  split at hk
  ·cases k with
   | zero=>omega
   | succ k=>exact fc (k:=k) hs.tail (by omega) (by simpa using hx)
  ·rename_i hsb
   cases k with
   | zero=>simp at hx;subst hx;exact hsb
   | succ k=>have:=hs 0 (k+1) s x (by omega) rfl hx;omega
theorem takeS {S:List St} {k:Nat} {x:St} (hx:S[k]? =some x):S.take (k+1)=S.take k++ [x]:=by rw[List.take_add_one,hx];rfl
section
variable {ρ:Rho} {n m j:Nat} {l la:Leaf} {x:St} {S1 S2 E:List St}
theorem rV (h:ρ[n]? =some (.row stT 1 x.qs)):RowL ρ (.ref n) [x]:=fun _ _ _ ⟨s,h1,h2,_⟩=>by
 rw[h]at h1;injection h1 with h1;subst h1
 simpa [az]using h2
theorem cK (hl:(l= .sl0∧S1=[])∨∃n,l= .own j n∧ρ[n]? =some (.ownr stT 22 S1.length (az S1))) (hr:RowL ρ la S2) (hm:ρ[m]? =some (.ownr stT 22 E.length (az E))) (hE:E=S1++S2) (hb:E.length≤1000000):(OIns.mk (.app 22) [.one l,.one la] (.one (.own j m))).Ok Tryz.prog ρ:=by
 subst hE
 refine o_appT (qs:=az S1) (qs':=az S2) (L:=S1.length) (M:=S2.length) (hl.imp (fun h=>⟨h.1,by rw[h.2];rfl,by rw[h.2];rfl⟩) id) hr (by rw[hm,List.length_append,g0]) (fj _) (by rw[List.length_append]at hb;exact hb)
end
theorem q_clFR (v:Value) (r:Rq) (w:World) (i:IsL w v [r]) (hL:r.L≤1000000) (hN:r.N≤1000000):
  Calls Tryz.prog 63 #[v] w fun e w'=>∃v,e= .returned v∧IsL w' v [r]∧Below w.heap.size w w':=by
 refine(cRn (ρ:=[.val (.bool r.s),.dig r.L r.p,.dig r.N r.q]) (args:=[cP [0]]) (vs:=[v]) (r:=.v (cP [0]))
  (af (lX (n:=1) (m:=1) rfl rfl (Nat.le_trans hL (by decide))) (af (lX (n:=2) (m:=2) rfl rfl (Nat.le_trans hN (by decide))) ai))
  aj Tryz.func63 (by kernel_rfl) ⟨(aM (ns:=[0]) (rs:=[r]) ⟨⟨rfl,rfl,rfl⟩,trivial⟩).2 i,trivial⟩).mono ?_
 rintro e w' ⟨v,rfl,h1,h2⟩
 exact⟨v,rfl,(aM (ns:=[0]) (rs:=[r]) ⟨⟨rfl,rfl,rfl⟩,trivial⟩).1 h1,h2⟩
theorem kV {ρ:Rho} {n:Nat} {r:Rq} (hr:AtR ρ [n] [r]) (hL:r.L≤1000000) (hN:r.N≤1000000):Inst.Ok Tryz.prog ρ ⟨63,[cP [n]],.v (cP [n])⟩:=
 ⟨aA Tryz.func63 rfl rfl,fun B w vs hB h=>by
  match vs,h with
  | [v],h=>
   refine(q_clFR v r w ((aM hr).1 h.1) hL hN).mono ?_
   rintro e w' ⟨v,rfl,h1,h2⟩
   exact⟨v,rfl,(aM hr).2 h1,h2⟩⟩
theorem q_clR (v:Value) (x:RSt) (w:World) (i:nE w v x) (hx:x.sm):
  Calls Tryz.prog 41 #[v] w fun e w'=>∃v,e= .returned v∧nE w' v x∧Below w.heap.size w w':=by
 refine(cRn (ρ:=[.val (.int .i64 x.tm),.val (.bool x.r0.s),.dig x.r0.L x.r0.p,.dig x.r0.N x.r0.q,.val (.bool x.r1.s),.dig x.r1.L x.r1.p,.dig x.r1.N x.r1.q,.val (.bool x.r2.s),.dig x.r2.L x.r2.p,.dig x.r2.N x.r2.q,.val (.bool x.r3.s),.dig x.r3.L x.r3.p,.dig x.r3.N x.r3.q,.val (.bool x.r4.s),.dig x.r4.L x.r4.p,.dig x.r4.N x.r4.q,.val (.bool x.r5.s),.dig x.r5.L x.r5.p,.dig x.r5.N x.r5.q,.val (.bool x.r6.s),.dig x.r6.L x.r6.p,.dig x.r6.N x.r6.q]) (args:=[.agg (.ref 0::bo [1,4,7,10,13,16,19])]) (vs:=[v]) (r:=.v (.agg (.ref 0::bo [1,4,7,10,13,16,19])))
  (af (kV (n:=1) (r:=x.r0) ⟨⟨rfl,rfl,rfl⟩,trivial⟩ hx.h0.1 hx.h0.2) (af (kV (n:=4) (r:=x.r1) ⟨⟨rfl,rfl,rfl⟩,trivial⟩ hx.h1.1 hx.h1.2) (af (kV (n:=7) (r:=x.r2) ⟨⟨rfl,rfl,rfl⟩,trivial⟩ hx.h2.1 hx.h2.2) (af (kV (n:=10) (r:=x.r3) ⟨⟨rfl,rfl,rfl⟩,trivial⟩ hx.h3.1 hx.h3.2) (af (kV (n:=13) (r:=x.r4) ⟨⟨rfl,rfl,rfl⟩,trivial⟩ hx.h4.1 hx.h4.2) (af (kV (n:=16) (r:=x.r5) ⟨⟨rfl,rfl,rfl⟩,trivial⟩ hx.h5.1 hx.h5.2) (af (kV (n:=19) (r:=x.r6) ⟨⟨rfl,rfl,rfl⟩,trivial⟩ hx.h6.1 hx.h6.2) ai)))))))
  aj Tryz.func41 (by kernel_rfl) ⟨(dV (n:=0) (ns:=[1,4,7,10,13,16,19]) (x:=x) rfl ⟨⟨rfl,rfl,rfl⟩,⟨rfl,rfl,rfl⟩,⟨rfl,rfl,rfl⟩,⟨rfl,rfl,rfl⟩,⟨rfl,rfl,rfl⟩,⟨rfl,rfl,rfl⟩,⟨rfl,rfl,rfl⟩,trivial⟩).2 i,trivial⟩).mono ?_
 rintro e w' ⟨v,rfl,h1,h2⟩
 exact⟨v,rfl,(dV (n:=0) (ns:=[1,4,7,10,13,16,19]) (x:=x) rfl ⟨⟨rfl,rfl,rfl⟩,⟨rfl,rfl,rfl⟩,⟨rfl,rfl,rfl⟩,⟨rfl,rfl,rfl⟩,⟨rfl,rfl,rfl⟩,⟨rfl,rfl,rfl⟩,⟨rfl,rfl,rfl⟩,trivial⟩).1 h1,h2⟩
theorem I_clR {ρ:Rho} {n:Nat} {ns:List Nat} {x:RSt} (hn:ρ[n]? =some (.val (.int .i64 x.tm))) (ha:AtR ρ ns x.rs) (hx:x.sm):Inst.Ok Tryz.prog ρ ⟨41,[.agg (.ref n::bo ns)],.v (.agg (.ref n::bo ns))⟩:=
 ⟨aA Tryz.func41 rfl rfl,fun B w vs hB h=>by
  match vs,h with
  | [v],h=>
   refine(q_clR v x w ((dV hn ha).1 h.1) hx).mono ?_
   rintro e w' ⟨v,rfl,h1,h2⟩
   exact⟨v,rfl,(dV hn ha).2 h1,h2⟩⟩
def zR (S:List St):List Fq:=[]
theorem q_List0 {w:World} {g:Nat} {sl:Value} (S:List St) (h:TrkS 79 w g sl S) (hS:S.length≤64) (hS0:S.length=0):
  Calls Tryz.prog 18 (.pointer (some ⟨g,0,none⟩)::[]).toArray w fun e w'=>∃v,e= .returned v∧(Vp.ownr stT 22 S.length (az S)).p w' v∧(∀b,v.ownBlock=some b→w.heap.size≤b∧dn w' b)∧Below w.heap.size w w':=by
 refine(jT (ρ:=frs (zR S)++([.rowB true sl stT S.length (az S),.val (.int .i64 (S.length:Int))]:List Vp)) (w:=w) (fuel:=300) (m:=0) (S':=S) (args:=[.one (.ptr 0 0)]) (vs:=[.pointer (some ⟨g,0,none⟩)]) (r:=.v (.one (.sl0))) (l:=.ref 0) (lo:=[]) (obs:=[]) h
  (ai)
  (ae (bK (y:=0) (o:=0) (t:=39) ⟨_,Tryz.underlying39⟩) (ae (bW 0 1 rfl rfl) (ae (aw (t:=3) (aF (c:=0)) (ah (n:=1) rfl) (aK (by omega))) (aj)))) Tryz.func18 rfl (by kernel_rfl) aC ⟨bE,trivial⟩ (cf rfl)).mono ?_
 rintro e w' ⟨v,B',rfl,h1,h2,h3,h4⟩
 have e1:v= .slice none 0 0:=h1
 subst e1
 have e2:S=[]:=List.eq_nil_of_length_eq_zero hS0
 subst e2
 exact⟨_,rfl,⟨[],⟨World.ownsRow_nil _ _ _ _,fun g hg=>by cases hg⟩,rfl,fun j q h=>by simp[az]at h⟩,fun b hb=>(by cases hb),h3 rfl⟩
def mO:MS:=cM 24 [(0,.v (.one (.ptr 0 0))),(3,.v (.one (.sl0))),(11,.v (.one (.ref 0))),(12,.v (.one (.ref 1))),(13,.v (.one (.i .i64 0)))] [(79,[some (.ref 0)])]
def mP:MS:=cM 24 [(0,.v (.one (.ptr 0 0))),(3,.v (.one (.own 0 2))),(11,.v (.one (.ref 0))),(12,.v (.one (.ref 1)))] [(79,[some (.ref 0)])]
def eW (S:List St):List Fq:=[]
theorem q_List1 {w:World} {g:Nat} {sl:Value} (S:List St) (h:TrkS 79 w g sl S) (hS:S.length≤64) (ok:∀x∈S,x.pose.ok 2) (hn:0<S.length):
  Calls Tryz.prog 18 (.pointer (some ⟨g,0,none⟩)::[]).toArray w fun e w'=>∃v,e= .returned v∧(Vp.ownr stT 22 S.length (az S)).p w' v∧(∀b,v.ownBlock=some b→w.heap.size≤b∧dn w' b)∧Below w.heap.size w w':=by
 have hL0:LOb.Ok Tryz.prog (frs (eW S)++(([.rowB true sl stT S.length (az S),.val (.int .i64 (S.length:Int))]:List Vp)++(([.ownr stT 22 S.length (az S)]:List Vp)))) (gO w g) 24 ⟨bk Tryz.f18 0,mO,.ext 0,mP⟩:=by
  refine rQ S.length (frs (eW S)++(([.rowB true sl stT S.length (az S),.val (.int .i64 (S.length:Int))]:List Vp)++(([.val (.int .i64 ((0:Nat):Int)),.ownr stT 22 (S.take (0)).length (az (S.take (0)))]:List Vp)))) (cM 24 [(0,.v (.one (.ptr 0 0))),(3,.v (.one (.sl0))),(11,.v (.one (.ref 0))),(12,.v (.one (.ref 1))),(13,.v (.one (.ref 2)))] [(79,[some (.ref 0)])]) (fun k=>frs (eW S)++(([.rowB true sl stT S.length (az S),.val (.int .i64 (S.length:Int))]:List Vp)++(([.val (.int .i64 ((k:Nat):Int)),.ownr stT 22 (S.take (k)).length (az (S.take (k)))]:List Vp)))) (fun _=>cM 24 [(0,.v (.one (.ptr 0 0))),(3,.v (.one (.own 0 3))),(11,.v (.one (.ref 0))),(12,.v (.one (.ref 1))),(13,.v (.one (.ref 2)))] [(79,[some (.ref 0)])]) ?_ (by omega) ?_ ?_ ?_ (by decide) (Nat.le_add_left 1 _)
  ·intro a_ w_ h_
   exact MSt.conv (N:=2) (σ:=[(2,.i .i64 0)]) (cmP (by kernel_rfl)) (aD (sgi (n:=2) (u:=0) (v:=((0:Nat):Int)) rfl (aF (c:=0)) (by omega)) aP) (by kernel_rfl) h_ (Nat.le_add_left 1 _)
  ·obtain⟨x,hx⟩:∃x,S[0]? =some x:=⟨_,List.getElem?_eq_getElem (by omega)⟩
   have kx:=ok x (List.mem_of_getElem? hx)
   have hk3:(S.take (0+1)).length=0+1:=by rw[List.length_take];omega
   refine aV (N:=4) (ρx:=frs (eW S)++(([.rowB true sl stT S.length (az S),.val (.int .i64 (S.length:Int))]:List Vp)++(([.val (.int .i64 ((0:Nat):Int)),.ownr stT 22 (S.take (0)).length (az (S.take (0)))]:List Vp)++(([.plc stT x.qs,.val (.int .i64 x.tm),.val (.bool x.pose.rot.w.s),.dig (nl x.pose.rot.w.p) x.pose.rot.w.p,.dig (nl x.pose.rot.w.q) x.pose.rot.w.q,.val (.bool x.pose.rot.x.s),.dig (nl x.pose.rot.x.p) x.pose.rot.x.p,.dig (nl x.pose.rot.x.q) x.pose.rot.x.q,.val (.bool x.pose.rot.y.s),.dig (nl x.pose.rot.y.p) x.pose.rot.y.p,.dig (nl x.pose.rot.y.q) x.pose.rot.y.q,.val (.bool x.pose.rot.z.s),.dig (nl x.pose.rot.z.p) x.pose.rot.z.p,.dig (nl x.pose.rot.z.q) x.pose.rot.z.q,.val (.bool x.pose.pos.x.s),.dig (nl x.pose.pos.x.p) x.pose.pos.x.p,.dig (nl x.pose.pos.x.q) x.pose.pos.x.q,.val (.bool x.pose.pos.y.s),.dig (nl x.pose.pos.y.p) x.pose.pos.y.p,.dig (nl x.pose.pos.y.q) x.pose.pos.y.q,.val (.bool x.pose.pos.z.s),.dig (nl x.pose.pos.z.p) x.pose.pos.z.p,.dig (nl x.pose.pos.z.q) x.pose.pos.z.q,.row stT 1 x.qs,.ownr stT 22 (S.take (0+1)).length (az (S.take (0+1))),.val (.int .i64 (((0:Nat):Int)+1))]:List Vp))))) (cmX (by kernel_rfl)) (by kernel_rfl) (Nat.le_add_left 1 _) ?_
   exact aR (N:=2) (σ:=[(2,.ref 29),(3,.own 0 28)]) (lo:=[]) (n:=300) (af (I_clR (n:=5) (ns:=[6,9,12,15,18,21,24]) (x:=x.raw) rfl ⟨⟨rfl,rfl,rfl⟩,⟨rfl,rfl,rfl⟩,⟨rfl,rfl,rfl⟩,⟨rfl,rfl,rfl⟩,⟨rfl,rfl,rfl⟩,⟨rfl,rfl,rfl⟩,⟨rfl,rfl,rfl⟩,trivial⟩ (St.sm kx)) ai)
    (ae (aw (t:=3) (ah (n:=2) rfl) (ah (n:=1) rfl) (aL (by omega))) (ae (iaB (n:=0) (m:=4) rfl rfl (aU (ah (n:=2) rfl) (by omega)) hx) (ae (ji (n:=4) (t:=35) (ls:=.ref 5::bo [6,9,12,15,18,21,24]) (by kernel_rfl) (by kernel_rfl) rfl (j7 (x:=x.raw) rfl ⟨⟨rfl,rfl,rfl⟩,⟨rfl,rfl,rfl⟩,⟨rfl,rfl,rfl⟩,⟨rfl,rfl,rfl⟩,⟨rfl,rfl,rfl⟩,⟨rfl,rfl,rfl⟩,⟨rfl,rfl,rfl⟩,trivial⟩)) (ae (o_bsR (n:=5) (ns:=[6,9,12,15,18,21,24]) (m:=27) (x:=x.raw) rfl ⟨⟨rfl,rfl,rfl⟩,⟨rfl,rfl,rfl⟩,⟨rfl,rfl,rfl⟩,⟨rfl,rfl,rfl⟩,⟨rfl,rfl,rfl⟩,⟨rfl,rfl,rfl⟩,⟨rfl,rfl,rfl⟩,trivial⟩ rfl) (ae (cK (j:=0) (S1:=[]) (S2:=[x]) (E:=(S.take (0+1))) (m:=28) (l:=.sl0) (la:=.ref 27) (.inl ⟨rfl,rfl⟩) (rV (n:=27) rfl) rfl (takeS (k:=0) hx) (by omega)) (ae (cS (m:=29) (t:=3) (ah (n:=2) rfl) (aF (c:=1)) rfl rfl (by omega) (by omega)) (aj)))))))
    (by kernel_rfl) (obs:=[]) (by kernel_rfl) aC (cmP (by kernel_rfl)) (aD (sgi (n:=2) (u:=(((0:Nat):Int)+1)) (v:=((0+1:Nat):Int)) rfl (ah (n:=29) rfl) (by omega)) (aD (sgo (n:=3) (m:=28) (k:=0) rfl rfl (by rfl)) aP)) (Nat.le_add_left 1 _)
  ·intro k hk0 hk
   obtain⟨x,hx⟩:∃x,S[k]? =some x:=⟨_,List.getElem?_eq_getElem (by omega)⟩
   have kx:=ok x (List.mem_of_getElem? hx)
   have hk3:(S.take (k+1)).length=k+1:=by rw[List.length_take];omega
   refine aV (N:=4) (ρx:=frs (eW S)++(([.rowB true sl stT S.length (az S),.val (.int .i64 (S.length:Int))]:List Vp)++(([.val (.int .i64 ((k:Nat):Int)),.ownr stT 22 (S.take (k)).length (az (S.take (k)))]:List Vp)++(([.plc stT x.qs,.val (.int .i64 x.tm),.val (.bool x.pose.rot.w.s),.dig (nl x.pose.rot.w.p) x.pose.rot.w.p,.dig (nl x.pose.rot.w.q) x.pose.rot.w.q,.val (.bool x.pose.rot.x.s),.dig (nl x.pose.rot.x.p) x.pose.rot.x.p,.dig (nl x.pose.rot.x.q) x.pose.rot.x.q,.val (.bool x.pose.rot.y.s),.dig (nl x.pose.rot.y.p) x.pose.rot.y.p,.dig (nl x.pose.rot.y.q) x.pose.rot.y.q,.val (.bool x.pose.rot.z.s),.dig (nl x.pose.rot.z.p) x.pose.rot.z.p,.dig (nl x.pose.rot.z.q) x.pose.rot.z.q,.val (.bool x.pose.pos.x.s),.dig (nl x.pose.pos.x.p) x.pose.pos.x.p,.dig (nl x.pose.pos.x.q) x.pose.pos.x.q,.val (.bool x.pose.pos.y.s),.dig (nl x.pose.pos.y.p) x.pose.pos.y.p,.dig (nl x.pose.pos.y.q) x.pose.pos.y.q,.val (.bool x.pose.pos.z.s),.dig (nl x.pose.pos.z.p) x.pose.pos.z.p,.dig (nl x.pose.pos.z.q) x.pose.pos.z.q,.row stT 1 x.qs,.ownr stT 22 (S.take (k+1)).length (az (S.take (k+1))),.val (.int .i64 (((k:Nat):Int)+1))]:List Vp))))) (cmX (by kernel_rfl)) (by kernel_rfl) (Nat.le_add_left 1 _) ?_
   exact aR (N:=2) (σ:=[(2,.ref 29),(3,.own 0 28)]) (lo:=[]) (n:=300) (af (I_clR (n:=5) (ns:=[6,9,12,15,18,21,24]) (x:=x.raw) rfl ⟨⟨rfl,rfl,rfl⟩,⟨rfl,rfl,rfl⟩,⟨rfl,rfl,rfl⟩,⟨rfl,rfl,rfl⟩,⟨rfl,rfl,rfl⟩,⟨rfl,rfl,rfl⟩,⟨rfl,rfl,rfl⟩,trivial⟩ (St.sm kx)) ai)
    (ae (aw (t:=3) (ah (n:=2) rfl) (ah (n:=1) rfl) (aL (by omega))) (ae (iaB (n:=0) (m:=4) rfl rfl (aU (ah (n:=2) rfl) (by omega)) hx) (ae (ji (n:=4) (t:=35) (ls:=.ref 5::bo [6,9,12,15,18,21,24]) (by kernel_rfl) (by kernel_rfl) rfl (j7 (x:=x.raw) rfl ⟨⟨rfl,rfl,rfl⟩,⟨rfl,rfl,rfl⟩,⟨rfl,rfl,rfl⟩,⟨rfl,rfl,rfl⟩,⟨rfl,rfl,rfl⟩,⟨rfl,rfl,rfl⟩,⟨rfl,rfl,rfl⟩,trivial⟩)) (ae (o_bsR (n:=5) (ns:=[6,9,12,15,18,21,24]) (m:=27) (x:=x.raw) rfl ⟨⟨rfl,rfl,rfl⟩,⟨rfl,rfl,rfl⟩,⟨rfl,rfl,rfl⟩,⟨rfl,rfl,rfl⟩,⟨rfl,rfl,rfl⟩,⟨rfl,rfl,rfl⟩,⟨rfl,rfl,rfl⟩,trivial⟩ rfl) (ae (cK (j:=0) (S1:=(S.take (k))) (S2:=[x]) (E:=(S.take (k+1))) (m:=28) (l:=.own 0 3) (la:=.ref 27) (.inr ⟨3,rfl,rfl⟩) (rV (n:=27) rfl) rfl (takeS (k:=k) hx) (by omega)) (ae (cS (m:=29) (t:=3) (ah (n:=2) rfl) (aF (c:=1)) rfl rfl (by omega) (by omega)) (aj)))))))
    (by kernel_rfl) (obs:=[]) (by kernel_rfl) aC (cmP (by kernel_rfl)) (aD (sgi (n:=2) (u:=(((k:Nat):Int)+1)) (v:=((k+1:Nat):Int)) rfl (ah (n:=29) rfl) (by omega)) (aD (sgo (n:=3) (m:=28) (k:=0) rfl rfl (by rfl)) aP)) (Nat.le_add_left 1 _)
  ·refine aV (N:=4) (ρx:=frs (eW S)++(([.rowB true sl stT S.length (az S),.val (.int .i64 (S.length:Int))]:List Vp)++(([.val (.int .i64 ((S.length:Nat):Int)),.ownr stT 22 (S.take (S.length)).length (az (S.take (S.length)))]:List Vp)++(([]:List Vp))))) (cmX (by kernel_rfl)) (by kernel_rfl) (Nat.le_add_left 1 _) ?_
   exact aR (N:=2) (σ:=[(2,.own 0 3)]) (lo:=[]) (n:=300) (ai)
    (ae (aw (t:=3) (ah (n:=2) rfl) (ah (n:=1) rfl) (aK (by omega))) (aj))
    (by kernel_rfl) (obs:=[]) (by kernel_rfl) aC (cmP (by kernel_rfl)) (aD (sgo (n:=2) (m:=3) (k:=0) rfl rfl (List.take_length)) aP) (Nat.le_add_left 1 _)
 refine(jT (ρ:=frs (eW S)++(([.rowB true sl stT S.length (az S),.val (.int .i64 (S.length:Int))]:List Vp)++(([.ownr stT 22 S.length (az S)]:List Vp)))) (w:=w) (fuel:=300) (m:=0) (S':=S) (args:=[.one (.ptr 0 0)]) (vs:=[.pointer (some ⟨g,0,none⟩)]) (r:=.v (.one (.own 0 2))) (l:=.ref 0) (lo:=[some (mO,.ext 0,mP)]) (obs:=[⟨bk Tryz.f18 0,mO,.ext 0,mP⟩]) h
  (ai)
  (ae (bK (y:=0) (o:=0) (t:=39) ⟨_,Tryz.underlying39⟩) (ae (bW 0 1 rfl rfl) (aj))) Tryz.func18 rfl (by kernel_rfl) (bI hL0 aC) ⟨bE,trivial⟩ (cf rfl)).mono ?_
 rintro e w' ⟨v,B',rfl,h1,h2,h3,h4⟩
 obtain⟨k1,_,k3⟩:=g7 rfl h1
 exact⟨_,rfl,k1,fun b hb=>h4 _ _ (k3 b hb),h3 rfl⟩
end Go.Proofs.YtfhinmdhjlmikaaGreat
