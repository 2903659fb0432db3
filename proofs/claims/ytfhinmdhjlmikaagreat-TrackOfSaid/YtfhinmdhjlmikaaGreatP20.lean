/- Tracks: the reference's Around. Tracks: the reference's At, Drop, Span, Len, List. -/
import Derived.Test.YtfhinmdhjlmikaaGreatP19
namespace Go.Proofs.YtfhinmdhjlmikaaGreat
set_option linter.unusedSimpArgs false
set_option linter.unusedVariables false
set_option maxRecDepth 100000
open Go.RowKit
def sQ (S:List St) (a:Int):List Fq:=[]
theorem pU {w:World} {g:Nat} {sl:Value} (S:List St) (a:Int) (h:TrkS 86 w g sl S) (hS:S.length≤64) (so:dX S) (hS0:S.length=0):
  Calls Tryz.prog 30 (.pointer (some ⟨g,0,none⟩)::[.int .i64 a]).toArray w fun e w'=>∃v0 v1:Value,e= .returned (.tuple #[v0,v1,.int .i64 6])∧cn w' v0 (⟨0,Pq.zero⟩)∧cn w' v1 (⟨0,Pq.zero⟩)∧Below w.heap.size w w':=by
 refine(aH (ρ:=frs (sQ S a)++([.rowB true sl stT S.length (az S),.val (.int .i64 a),.val (.int .i64 (S.length:Int))]:List Vp)) (w:=w) (fuel:=300) (m:=0) (S':=S) (args:=[.one (.ptr 0 0),.one (.ref 1)]) (vs:=[.pointer (some ⟨g,0,none⟩),.int .i64 a]) (r:=.tup [.agg [.i .i64 0,.b false,.sl0,.sl0,.b false,.sl0,.sl0,.b false,.sl0,.sl0,.b false,.sl0,.sl0,.b false,.sl0,.sl0,.b false,.sl0,.sl0,.b false,.sl0,.sl0],.agg [.i .i64 0,.b false,.sl0,.sl0,.b false,.sl0,.sl0,.b false,.sl0,.sl0,.b false,.sl0,.sl0,.b false,.sl0,.sl0,.b false,.sl0,.sl0,.b false,.sl0,.sl0],.one (.i .i64 6)]) (l:=.ref 0) (lo:=[]) (obs:=[]) h
  (ai)
  (ae (cd 0 2 rfl rfl) (ae (aw (t:=3) (ah (n:=2) rfl) (aG (c:=0)) (cL (by omega))) (aj))) Tryz.func30 rfl (by kernel_rfl) aD ⟨bG,⟨aF (n:=1) rfl aE,trivial⟩⟩ (co rfl)).mono ?_
 rintro e w' ⟨v,B',rfl,⟨vs,rfl,h1⟩,h2,h3⟩
 match vs,h1 with
 | [x1,x2,x3],h1=>
  have ex3:x3= .int .i64 6:=h1.2.2.1
  subst ex3
  exact⟨x1,x2,rfl,(ei h1.1),(ei h1.2.1),h3 rfl⟩
def qu (S:List St) (a:Int) (f:St):List Fq:=[]
theorem n4 {w:World} {g:Nat} {sl:Value} (S:List St) (a:Int) (h:TrkS 86 w g sl S) (hS:S.length≤64) (so:dX S) (f:St) (hf:S[0]? =some f) (hn:0<S.length) (ha:a<f.tm):
  Calls Tryz.prog 30 (.pointer (some ⟨g,0,none⟩)::[.int .i64 a]).toArray w fun e w'=>∃v0 v1:Value,e= .returned (.tuple #[v0,v1,.int .i64 17])∧cn w' v0 (⟨0,Pq.zero⟩)∧cn w' v1 (⟨0,Pq.zero⟩)∧Below w.heap.size w w':=by
 refine(aH (ρ:=frs (qu S a f)++([.rowB true sl stT S.length (az S),.val (.int .i64 a),.val (.int .i64 (S.length:Int)),.plc stT f.qs,.val (.int .i64 f.tm)]:List Vp)) (w:=w) (fuel:=300) (m:=0) (S':=S) (args:=[.one (.ptr 0 0),.one (.ref 1)]) (vs:=[.pointer (some ⟨g,0,none⟩),.int .i64 a]) (r:=.tup [.agg [.i .i64 0,.b false,.sl0,.sl0,.b false,.sl0,.sl0,.b false,.sl0,.sl0,.b false,.sl0,.sl0,.b false,.sl0,.sl0,.b false,.sl0,.sl0,.b false,.sl0,.sl0],.agg [.i .i64 0,.b false,.sl0,.sl0,.b false,.sl0,.sl0,.b false,.sl0,.sl0,.b false,.sl0,.sl0,.b false,.sl0,.sl0,.b false,.sl0,.sl0,.b false,.sl0,.sl0],.one (.i .i64 17)]) (l:=.ref 0) (lo:=[]) (obs:=[]) h
  (ai)
  (ae (cd 0 2 rfl rfl) (ae (aw (t:=3) (ah (n:=2) rfl) (aG (c:=0)) (bc (by omega))) (ae (iaB (n:=0) (m:=3) rfl rfl (aT (aG (c:=0)) (by omega)) hf) (ae (fa0 f 3 rfl) (ae (ldt f 3 4 rfl rfl) (ae (aw (t:=3) (ah (n:=1) rfl) (ah (n:=4) rfl) (aK (by omega))) (aj))))))) Tryz.func30 rfl (by kernel_rfl) aD ⟨bG,⟨aF (n:=1) rfl aE,trivial⟩⟩ (co rfl)).mono ?_
 rintro e w' ⟨v,B',rfl,⟨vs,rfl,h1⟩,h2,h3⟩
 match vs,h1 with
 | [x1,x2,x3],h1=>
  have ex3:x3= .int .i64 17:=h1.2.2.1
  subst ex3
  exact⟨x1,x2,rfl,(ei h1.1),(ei h1.2.1),h3 rfl⟩
def qv (S:List St) (a:Int) (f:St) (l:St):List Fq:=[]
theorem n5 {w:World} {g:Nat} {sl:Value} (S:List St) (a:Int) (h:TrkS 86 w g sl S) (hS:S.length≤64) (so:dX S) (f:St) (hf:S[0]? =some f) (hb:f.tm≤a) (l:St) (hl:S[S.length - 1]? =some l) (hn:0<S.length) (ha:l.tm<a):
  Calls Tryz.prog 30 (.pointer (some ⟨g,0,none⟩)::[.int .i64 a]).toArray w fun e w'=>∃v0 v1:Value,e= .returned (.tuple #[v0,v1,.int .i64 17])∧cn w' v0 (⟨0,Pq.zero⟩)∧cn w' v1 (⟨0,Pq.zero⟩)∧Below w.heap.size w w':=by
 refine(aH (ρ:=frs (qv S a f l)++([.rowB true sl stT S.length (az S),.val (.int .i64 a),.val (.int .i64 (S.length:Int)),.plc stT f.qs,.val (.int .i64 f.tm),.val (.int .i64 ((S.length:Int) - 1)),.plc stT l.qs,.val (.int .i64 l.tm)]:List Vp)) (w:=w) (fuel:=300) (m:=0) (S':=S) (args:=[.one (.ptr 0 0),.one (.ref 1)]) (vs:=[.pointer (some ⟨g,0,none⟩),.int .i64 a]) (r:=.tup [.agg [.i .i64 0,.b false,.sl0,.sl0,.b false,.sl0,.sl0,.b false,.sl0,.sl0,.b false,.sl0,.sl0,.b false,.sl0,.sl0,.b false,.sl0,.sl0,.b false,.sl0,.sl0],.agg [.i .i64 0,.b false,.sl0,.sl0,.b false,.sl0,.sl0,.b false,.sl0,.sl0,.b false,.sl0,.sl0,.b false,.sl0,.sl0,.b false,.sl0,.sl0,.b false,.sl0,.sl0],.one (.i .i64 17)]) (l:=.ref 0) (lo:=[]) (obs:=[]) h
  (ai)
  (ae (cd 0 2 rfl rfl) (ae (aw (t:=3) (ah (n:=2) rfl) (aG (c:=0)) (bc (by omega))) (ae (iaB (n:=0) (m:=3) rfl rfl (aT (aG (c:=0)) (by omega)) hf) (ae (fa0 f 3 rfl) (ae (ldt f 3 4 rfl rfl) (ae (aw (t:=3) (ah (n:=1) rfl) (ah (n:=4) rfl) (aM (by omega))) (ae (bS (m:=5) (t:=3) (ah (n:=2) rfl) (aG (c:=1)) rfl rfl (by omega) (by omega)) (ae (iaB (n:=0) (m:=6) rfl rfl (aT (ah (n:=5) rfl) (by omega)) hl) (ae (fa0 l 6 rfl) (ae (ldt l 6 7 rfl rfl) (ae (aw (t:=3) (ah (n:=1) rfl) (ah (n:=7) rfl) (bv (by omega))) (aj)))))))))))) Tryz.func30 rfl (by kernel_rfl) aD ⟨bG,⟨aF (n:=1) rfl aE,trivial⟩⟩ (co rfl)).mono ?_
 rintro e w' ⟨v,B',rfl,⟨vs,rfl,h1⟩,h2,h3⟩
 match vs,h1 with
 | [x1,x2,x3],h1=>
  have ex3:x3= .int .i64 17:=h1.2.2.1
  subst ex3
  exact⟨x1,x2,rfl,(ei h1.1),(ei h1.2.1),h3 rfl⟩
def i5:MS:=bK 108 [(0,.v (.one (.ptr 0 0))),(1,.v (.one (.ref 22))),(4,.v (.one (.ptr 1 0))),(5,.v (.one (.ptr 2 0))),(7,.v (.one (.i .i64 0))),(8,.v (.one (.ref 26))),(9,.v (.one (.i .i64 0)))] [(86,[some (.ref 21)]),(35,[some (.i .i64 0),some (.b false),some (.sl0),some (.sl0),some (.b false),some (.sl0),some (.sl0),some (.b false),some (.sl0),some (.sl0),some (.b false),some (.sl0),some (.sl0),some (.b false),some (.sl0),some (.sl0),some (.b false),some (.sl0),some (.sl0),some (.b false),some (.sl0),some (.sl0)]),(35,[some (.i .i64 0),some (.b false),some (.sl0),some (.sl0),some (.b false),some (.sl0),some (.sl0),some (.b false),some (.sl0),some (.sl0),some (.b false),some (.sl0),some (.sl0),some (.b false),some (.sl0),some (.sl0),some (.b false),some (.sl0),some (.sl0),some (.b false),some (.sl0),some (.sl0)])]
def i6:MS:=bK 108 [(0,.v (.one (.ptr 0 0))),(1,.v (.one (.ref 22))),(4,.v (.one (.ptr 1 0))),(5,.v (.one (.ptr 2 0))),(7,.v (.one (.ref 29))),(8,.v (.one (.ref 26)))] [(86,[some (.ref 21)]),(35,[some (.i .i64 0),some (.b false),some (.sl0),some (.sl0),some (.b false),some (.sl0),some (.sl0),some (.b false),some (.sl0),some (.sl0),some (.b false),some (.sl0),some (.sl0),some (.b false),some (.sl0),some (.sl0),some (.b false),some (.sl0),some (.sl0),some (.b false),some (.sl0),some (.sl0)]),(35,[some (.i .i64 0),some (.b false),some (.sl0),some (.sl0),some (.b false),some (.sl0),some (.sl0),some (.b false),some (.sl0),some (.sl0),some (.b false),some (.sl0),some (.sl0),some (.b false),some (.sl0),some (.sl0),some (.b false),some (.sl0),some (.sl0),some (.b false),some (.sl0),some (.sl0)])]
def i7:MS:=bK 108 [(0,.v (.one (.ptr 0 0))),(1,.v (.one (.ref 22))),(4,.v (.one (.ptr 1 0))),(5,.v (.one (.ptr 2 0))),(7,.v (.one (.ref 29))),(8,.v (.one (.ref 26))),(10,.v (.one (.ref 26)))] [(86,[some (.ref 21)]),(35,[some (.i .i64 0),some (.b false),some (.sl0),some (.sl0),some (.b false),some (.sl0),some (.sl0),some (.b false),some (.sl0),some (.sl0),some (.b false),some (.sl0),some (.sl0),some (.b false),some (.sl0),some (.sl0),some (.b false),some (.sl0),some (.sl0),some (.b false),some (.sl0),some (.sl0)]),(35,[some (.i .i64 0),some (.b false),some (.sl0),some (.sl0),some (.b false),some (.sl0),some (.sl0),some (.b false),some (.sl0),some (.sl0),some (.b false),some (.sl0),some (.sl0),some (.b false),some (.sl0),some (.sl0),some (.b false),some (.sl0),some (.sl0),some (.b false),some (.sl0),some (.sl0)])]
def i8:MS:=bK 108 [(0,.v (.one (.ptr 0 0))),(1,.v (.one (.ref 22))),(4,.v (.one (.ptr 1 0))),(5,.v (.one (.ptr 2 0))),(7,.v (.one (.ref 29))),(8,.v (.one (.ref 30)))] [(86,[some (.ref 21)]),(35,[some (.i .i64 0),some (.b false),some (.sl0),some (.sl0),some (.b false),some (.sl0),some (.sl0),some (.b false),some (.sl0),some (.sl0),some (.b false),some (.sl0),some (.sl0),some (.b false),some (.sl0),some (.sl0),some (.b false),some (.sl0),some (.sl0),some (.b false),some (.sl0),some (.sl0)]),(35,[some (.i .i64 0),some (.b false),some (.sl0),some (.sl0),some (.b false),some (.sl0),some (.sl0),some (.b false),some (.sl0),some (.sl0),some (.b false),some (.sl0),some (.sl0),some (.b false),some (.sl0),some (.sl0),some (.b false),some (.sl0),some (.sl0),some (.b false),some (.sl0),some (.sl0)])]
def cw (S:List St) (a:Int) (f:St) (l:St) (y:St):List Fq:=y.pose.cs
theorem pV {w:World} {g:Nat} {sl:Value} (S:List St) (a:Int) (h:TrkS 86 w g sl S) (hS:S.length≤64) (so:dX S) (f:St) (hf:S[0]? =some f) (hb:f.tm≤a) (l:St) (hl:S[S.length - 1]? =some l) (hn:0<S.length) (ha:a≤l.tm) (y:St) (hy:S[plN S a]? =some y) (ey:y.tm=a) (hp:plN S a<S.length) (eq1:plN S (a+1)=plN S a+1):
  Calls Tryz.prog 30 (.pointer (some ⟨g,0,none⟩)::[.int .i64 a]).toArray w fun e w'=>∃v0 v1:Value,e= .returned (.tuple #[v0,v1,.int .i64 0])∧cn w' v0 y∧cn w' v1 y∧Below w.heap.size w w':=by
 have hz1:S[plN S (a+1) - 1]? =some y:=by rw[eq1];exact hy
 have hL0:LOb.Ok Tryz.prog (frs (cw S a f l y)++(([.rowB true sl stT S.length (az S),.val (.int .i64 a),.val (.int .i64 (S.length:Int)),.plc stT f.qs,.val (.int .i64 f.tm),.val (.int .i64 ((S.length:Int) - 1)),.plc stT l.qs,.val (.int .i64 l.tm)]:List Vp)++(([.val (.int .i64 ((plN S (a+1) - 1:Nat):Int))]:List Vp)++(([.val (.int .i64 ((plN S a:Nat):Int)),.plc stT y.qs,.val (.int .i64 y.tm)]:List Vp))))) (g0 w g) 108 ⟨aZ Tryz.f30 0,i5,.ext 0,i6⟩:=by
  refine a8 S.length (fun k=>frs (cw S a f l y)++(([.rowB true sl stT S.length (az S),.val (.int .i64 a),.val (.int .i64 (S.length:Int)),.plc stT f.qs,.val (.int .i64 f.tm),.val (.int .i64 ((S.length:Int) - 1)),.plc stT l.qs,.val (.int .i64 l.tm)]:List Vp)++(([.val (.int .i64 ((k:Nat):Int)),.val (.int .i64 ((min (k) (plN S (a+1)) - 1:Nat):Int))]:List Vp)))) (fun _=>bK 108 [(0,.v (.one (.ptr 0 0))),(1,.v (.one (.ref 22))),(4,.v (.one (.ptr 1 0))),(5,.v (.one (.ptr 2 0))),(7,.v (.one (.ref 30))),(8,.v (.one (.ref 26))),(9,.v (.one (.ref 29)))] [(86,[some (.ref 21)]),(35,[some (.i .i64 0),some (.b false),some (.sl0),some (.sl0),some (.b false),some (.sl0),some (.sl0),some (.b false),some (.sl0),some (.sl0),some (.b false),some (.sl0),some (.sl0),some (.b false),some (.sl0),some (.sl0),some (.b false),some (.sl0),some (.sl0),some (.b false),some (.sl0),some (.sl0)]),(35,[some (.i .i64 0),some (.b false),some (.sl0),some (.sl0),some (.b false),some (.sl0),some (.sl0),some (.b false),some (.sl0),some (.sl0),some (.b false),some (.sl0),some (.sl0),some (.b false),some (.sl0),some (.sl0),some (.b false),some (.sl0),some (.sl0),some (.b false),some (.sl0),some (.sl0)])]) ?_ ?_ ?_ (by decide) (Nat.le_add_left 1 _)
  ·intro a_ w_ h_
   exact MSt.conv (N:=29) (σ:=[(29,.i .i64 0),(30,.i .i64 0)]) (cmP (by kernel_rfl)) (aB (sgi (n:=29) (u:=0) (v:=((0:Nat):Int)) rfl (aG (c:=0)) (by omega)) (aB (sgi (n:=30) (u:=0) (v:=((min (0) (plN S (a+1)) - 1:Nat):Int)) rfl (aG (c:=0)) (by omega)) aI)) (by kernel_rfl) h_ (Nat.le_add_left 1 _)
  ·intro k hk
   rcases Nat.lt_or_ge k (plN S (a+1))with hq | hq
   ·obtain⟨x,hx,hlt⟩:=dv hq
    refine aO (N:=31) (ρx:=frs (cw S a f l y)++(([.rowB true sl stT S.length (az S),.val (.int .i64 a),.val (.int .i64 (S.length:Int)),.plc stT f.qs,.val (.int .i64 f.tm),.val (.int .i64 ((S.length:Int) - 1)),.plc stT l.qs,.val (.int .i64 l.tm)]:List Vp)++(([.val (.int .i64 ((k:Nat):Int)),.val (.int .i64 ((min (k) (plN S (a+1)) - 1:Nat):Int))]:List Vp)++(([.plc stT x.qs,.val (.int .i64 x.tm),.val (.int .i64 (((k:Nat):Int)+1))]:List Vp))))) (cmX (by kernel_rfl)) (by kernel_rfl) (Nat.le_add_left 1 _) ?_
    exact aJ (N:=29) (σ:=[(29,.ref 33),(30,.ref 29)]) (lo:=[]) (n:=300) (ai)
     (ae (cd 21 23 rfl rfl) (ae (aw (t:=3) (ah (n:=29) rfl) (ah (n:=23) rfl) (aK (by omega))) (ae (iaB (n:=21) (m:=31) rfl rfl (aT (ah (n:=29) rfl) (by omega)) hx) (ae (fa0 x 31 rfl) (ae (ldt x 31 32 rfl rfl) (ae (aw (t:=3) (ah (n:=32) rfl) (ah (n:=22) rfl) (cm (by omega))) (ae (cj (m:=33) (t:=3) (ah (n:=29) rfl) (aG (c:=1)) rfl rfl (by omega) (by omega)) (aj))))))))
     (by kernel_rfl) (obs:=[]) (by kernel_rfl) aD (cmP (by kernel_rfl)) (aB (sgi (n:=29) (u:=(((k:Nat):Int)+1)) (v:=((k+1:Nat):Int)) rfl (ah (n:=33) rfl) (by omega)) (aB (sgi (n:=30) (u:=((k:Nat):Int)) (v:=((min (k+1) (plN S (a+1)) - 1:Nat):Int)) rfl (ah (n:=29) rfl) (by omega)) aI)) (Nat.le_add_left 1 _)
   ·obtain⟨x,hx⟩:∃x,S[k]? =some x:=⟨_,List.getElem?_eq_getElem hk⟩
    have hge:=fm so hq hx
    refine aO (N:=31) (ρx:=frs (cw S a f l y)++(([.rowB true sl stT S.length (az S),.val (.int .i64 a),.val (.int .i64 (S.length:Int)),.plc stT f.qs,.val (.int .i64 f.tm),.val (.int .i64 ((S.length:Int) - 1)),.plc stT l.qs,.val (.int .i64 l.tm)]:List Vp)++(([.val (.int .i64 ((k:Nat):Int)),.val (.int .i64 ((min (k) (plN S (a+1)) - 1:Nat):Int))]:List Vp)++(([.plc stT x.qs,.val (.int .i64 x.tm),.val (.int .i64 (((k:Nat):Int)+1))]:List Vp))))) (cmX (by kernel_rfl)) (by kernel_rfl) (Nat.le_add_left 1 _) ?_
    exact aJ (N:=29) (σ:=[(29,.ref 33),(30,.ref 30)]) (lo:=[]) (n:=300) (ai)
     (ae (cd 21 23 rfl rfl) (ae (aw (t:=3) (ah (n:=29) rfl) (ah (n:=23) rfl) (aK (by omega))) (ae (iaB (n:=21) (m:=31) rfl rfl (aT (ah (n:=29) rfl) (by omega)) hx) (ae (fa0 x 31 rfl) (ae (ldt x 31 32 rfl rfl) (ae (aw (t:=3) (ah (n:=32) rfl) (ah (n:=22) rfl) (dF (by omega))) (ae (cj (m:=33) (t:=3) (ah (n:=29) rfl) (aG (c:=1)) rfl rfl (by omega) (by omega)) (aj))))))))
     (by kernel_rfl) (obs:=[]) (by kernel_rfl) aD (cmP (by kernel_rfl)) (aB (sgi (n:=29) (u:=(((k:Nat):Int)+1)) (v:=((k+1:Nat):Int)) rfl (ah (n:=33) rfl) (by omega)) (aB (sgi (n:=30) (u:=((min (k) (plN S (a+1)) - 1:Nat):Int)) (v:=((min (k+1) (plN S (a+1)) - 1:Nat):Int)) rfl (ah (n:=30) rfl) (by omega)) aI)) (Nat.le_add_left 1 _)
  ·have hle1:=bg S (a+1)
   refine aO (N:=31) (ρx:=frs (cw S a f l y)++(([.rowB true sl stT S.length (az S),.val (.int .i64 a),.val (.int .i64 (S.length:Int)),.plc stT f.qs,.val (.int .i64 f.tm),.val (.int .i64 ((S.length:Int) - 1)),.plc stT l.qs,.val (.int .i64 l.tm)]:List Vp)++(([.val (.int .i64 ((S.length:Nat):Int)),.val (.int .i64 ((min (S.length) (plN S (a+1)) - 1:Nat):Int))]:List Vp)++(([]:List Vp))))) (cmX (by kernel_rfl)) (by kernel_rfl) (Nat.le_add_left 1 _) ?_
   exact aJ (N:=29) (σ:=[(29,.ref 30)]) (lo:=[]) (n:=300) (ai)
    (ae (cd 21 23 rfl rfl) (ae (aw (t:=3) (ah (n:=29) rfl) (ah (n:=23) rfl) (aM (by omega))) (aj)))
    (by kernel_rfl) (obs:=[]) (by kernel_rfl) aD (cmP (by kernel_rfl)) (aB (sgi (n:=29) (u:=((min (S.length) (plN S (a+1)) - 1:Nat):Int)) (v:=((plN S (a+1) - 1:Nat):Int)) rfl (ah (n:=30) rfl) (by omega)) aI) (Nat.le_add_left 1 _)
 have hL1:LOb.Ok Tryz.prog (frs (cw S a f l y)++(([.rowB true sl stT S.length (az S),.val (.int .i64 a),.val (.int .i64 (S.length:Int)),.plc stT f.qs,.val (.int .i64 f.tm),.val (.int .i64 ((S.length:Int) - 1)),.plc stT l.qs,.val (.int .i64 l.tm)]:List Vp)++(([.val (.int .i64 ((plN S (a+1) - 1:Nat):Int))]:List Vp)++(([.val (.int .i64 ((plN S a:Nat):Int)),.plc stT y.qs,.val (.int .i64 y.tm)]:List Vp))))) (g0 w g) 108 ⟨aZ Tryz.f30 1,i7,.ext 2,i8⟩:=by
  refine a8 S.length (fun k=>frs (cw S a f l y)++(([.rowB true sl stT S.length (az S),.val (.int .i64 a),.val (.int .i64 (S.length:Int)),.plc stT f.qs,.val (.int .i64 f.tm),.val (.int .i64 ((S.length:Int) - 1)),.plc stT l.qs,.val (.int .i64 l.tm)]:List Vp)++(([.val (.int .i64 ((plN S (a+1) - 1:Nat):Int))]:List Vp)++(([.val (.int .i64 ((S.length:Int) - 1 - ((k:Nat):Int))),.val (.int .i64 ((min (S.length - 1) (max (S.length - (k)) (plN S a)):Nat):Int))]:List Vp))))) (fun _=>bK 108 [(0,.v (.one (.ptr 0 0))),(1,.v (.one (.ref 22))),(4,.v (.one (.ptr 1 0))),(5,.v (.one (.ptr 2 0))),(7,.v (.one (.ref 29))),(8,.v (.one (.ref 31))),(10,.v (.one (.ref 30)))] [(86,[some (.ref 21)]),(35,[some (.i .i64 0),some (.b false),some (.sl0),some (.sl0),some (.b false),some (.sl0),some (.sl0),some (.b false),some (.sl0),some (.sl0),some (.b false),some (.sl0),some (.sl0),some (.b false),some (.sl0),some (.sl0),some (.b false),some (.sl0),some (.sl0),some (.b false),some (.sl0),some (.sl0)]),(35,[some (.i .i64 0),some (.b false),some (.sl0),some (.sl0),some (.b false),some (.sl0),some (.sl0),some (.b false),some (.sl0),some (.sl0),some (.b false),some (.sl0),some (.sl0),some (.b false),some (.sl0),some (.sl0),some (.b false),some (.sl0),some (.sl0),some (.b false),some (.sl0),some (.sl0)])]) ?_ ?_ ?_ (by decide) (Nat.le_add_left 1 _)
  ·intro a_ w_ h_
   exact MSt.conv (N:=30) (σ:=[(30,.ref 26),(31,.ref 26)]) (mx (by kernel_rfl)) (aB (sgi (n:=30) (u:=((S.length:Int) - 1)) (v:=((S.length:Int) - 1 - ((0:Nat):Int))) rfl (ah (n:=26) rfl) (by omega)) (aB (sgi (n:=31) (u:=((S.length:Int) - 1)) (v:=((min (S.length - 1) (max (S.length - (0)) (plN S a)):Nat):Int)) rfl (ah (n:=26) rfl) (by omega)) aI)) (by kernel_rfl) h_ (Nat.le_add_left 1 _)
  ·intro k hk
   rcases Nat.lt_or_ge (S.length - 1 - k) (plN S a)with hq | hq
   ·obtain⟨x,hx,hlt⟩:=dv hq
    refine aO (N:=32) (ρx:=frs (cw S a f l y)++(([.rowB true sl stT S.length (az S),.val (.int .i64 a),.val (.int .i64 (S.length:Int)),.plc stT f.qs,.val (.int .i64 f.tm),.val (.int .i64 ((S.length:Int) - 1)),.plc stT l.qs,.val (.int .i64 l.tm)]:List Vp)++(([.val (.int .i64 ((plN S (a+1) - 1:Nat):Int))]:List Vp)++(([.val (.int .i64 ((S.length:Int) - 1 - ((k:Nat):Int))),.val (.int .i64 ((min (S.length - 1) (max (S.length - (k)) (plN S a)):Nat):Int))]:List Vp)++(([.plc stT x.qs,.val (.int .i64 x.tm),.val (.int .i64 (((S.length:Int) - 1 - ((k:Nat):Int)) - 1))]:List Vp)))))) (pP (by kernel_rfl)) (by kernel_rfl) (Nat.le_add_left 1 _) ?_
    exact aJ (N:=30) (σ:=[(30,.ref 34),(31,.ref 31)]) (lo:=[]) (n:=300) (ai)
     (ae (aw (t:=3) (ah (n:=30) rfl) (aG (c:=0)) (iz (by omega))) (ae (iaB (n:=21) (m:=32) rfl rfl (aT (ah (n:=30) rfl) (by omega)) hx) (ae (fa0 x 32 rfl) (ae (ldt x 32 33 rfl rfl) (ae (aw (t:=3) (ah (n:=33) rfl) (ah (n:=22) rfl) (mv (by omega))) (ae (bS (m:=34) (t:=3) (ah (n:=30) rfl) (aG (c:=1)) rfl rfl (by omega) (by omega)) (aj)))))))
     (by kernel_rfl) (obs:=[]) (by kernel_rfl) aD (mx (by kernel_rfl)) (aB (sgi (n:=30) (u:=(((S.length:Int) - 1 - ((k:Nat):Int)) - 1)) (v:=((S.length:Int) - 1 - ((k+1:Nat):Int))) rfl (ah (n:=34) rfl) (by omega)) (aB (sgi (n:=31) (u:=((min (S.length - 1) (max (S.length - (k)) (plN S a)):Nat):Int)) (v:=((min (S.length - 1) (max (S.length - (k+1)) (plN S a)):Nat):Int)) rfl (ah (n:=31) rfl) (by omega)) aI)) (Nat.le_add_left 1 _)
   ·obtain⟨x,hx⟩:∃x,S[S.length - 1 - k]? =some x:=⟨_,List.getElem?_eq_getElem (by omega)⟩
    have hge:=fm so hq hx
    refine aO (N:=32) (ρx:=frs (cw S a f l y)++(([.rowB true sl stT S.length (az S),.val (.int .i64 a),.val (.int .i64 (S.length:Int)),.plc stT f.qs,.val (.int .i64 f.tm),.val (.int .i64 ((S.length:Int) - 1)),.plc stT l.qs,.val (.int .i64 l.tm)]:List Vp)++(([.val (.int .i64 ((plN S (a+1) - 1:Nat):Int))]:List Vp)++(([.val (.int .i64 ((S.length:Int) - 1 - ((k:Nat):Int))),.val (.int .i64 ((min (S.length - 1) (max (S.length - (k)) (plN S a)):Nat):Int))]:List Vp)++(([.plc stT x.qs,.val (.int .i64 x.tm),.val (.int .i64 (((S.length:Int) - 1 - ((k:Nat):Int)) - 1))]:List Vp)))))) (pP (by kernel_rfl)) (by kernel_rfl) (Nat.le_add_left 1 _) ?_
    exact aJ (N:=30) (σ:=[(30,.ref 34),(31,.ref 30)]) (lo:=[]) (n:=300) (ai)
     (ae (aw (t:=3) (ah (n:=30) rfl) (aG (c:=0)) (iz (by omega))) (ae (iaB (n:=21) (m:=32) rfl rfl (aT (ah (n:=30) rfl) (by omega)) hx) (ae (fa0 x 32 rfl) (ae (ldt x 32 33 rfl rfl) (ae (aw (t:=3) (ah (n:=33) rfl) (ah (n:=22) rfl) (iz (by omega))) (ae (bS (m:=34) (t:=3) (ah (n:=30) rfl) (aG (c:=1)) rfl rfl (by omega) (by omega)) (aj)))))))
     (by kernel_rfl) (obs:=[]) (by kernel_rfl) aD (mx (by kernel_rfl)) (aB (sgi (n:=30) (u:=(((S.length:Int) - 1 - ((k:Nat):Int)) - 1)) (v:=((S.length:Int) - 1 - ((k+1:Nat):Int))) rfl (ah (n:=34) rfl) (by omega)) (aB (sgi (n:=31) (u:=((S.length:Int) - 1 - ((k:Nat):Int))) (v:=((min (S.length - 1) (max (S.length - (k+1)) (plN S a)):Nat):Int)) rfl (ah (n:=30) rfl) (by omega)) aI)) (Nat.le_add_left 1 _)
  ·refine aO (N:=32) (ρx:=frs (cw S a f l y)++(([.rowB true sl stT S.length (az S),.val (.int .i64 a),.val (.int .i64 (S.length:Int)),.plc stT f.qs,.val (.int .i64 f.tm),.val (.int .i64 ((S.length:Int) - 1)),.plc stT l.qs,.val (.int .i64 l.tm)]:List Vp)++(([.val (.int .i64 ((plN S (a+1) - 1:Nat):Int))]:List Vp)++(([.val (.int .i64 ((S.length:Int) - 1 - ((S.length:Nat):Int))),.val (.int .i64 ((min (S.length - 1) (max (S.length - (S.length)) (plN S a)):Nat):Int))]:List Vp)++(([]:List Vp)))))) (pP (by kernel_rfl)) (by kernel_rfl) (Nat.le_add_left 1 _) ?_
   exact aJ (N:=30) (σ:=[(30,.ref 31)]) (lo:=[]) (n:=300) (ai)
    (ae (aw (t:=3) (ah (n:=30) rfl) (aG (c:=0)) (mv (by omega))) (aj))
    (by kernel_rfl) (obs:=[]) (by kernel_rfl) aD (mx (by kernel_rfl)) (aB (sgi (n:=30) (u:=((min (S.length - 1) (max (S.length - (S.length)) (plN S a)):Nat):Int)) (v:=((plN S a:Nat):Int)) rfl (ah (n:=31) rfl) (by omega)) aI) (Nat.le_add_left 1 _)
 refine(aH (ρ:=frs (cw S a f l y)++(([.rowB true sl stT S.length (az S),.val (.int .i64 a),.val (.int .i64 (S.length:Int)),.plc stT f.qs,.val (.int .i64 f.tm),.val (.int .i64 ((S.length:Int) - 1)),.plc stT l.qs,.val (.int .i64 l.tm)]:List Vp)++(([.val (.int .i64 ((plN S (a+1) - 1:Nat):Int))]:List Vp)++(([.val (.int .i64 ((plN S a:Nat):Int)),.plc stT y.qs,.val (.int .i64 y.tm)]:List Vp))))) (w:=w) (fuel:=300) (m:=21) (S':=S) (args:=[.one (.ptr 0 0),.one (.ref 22)]) (vs:=[.pointer (some ⟨g,0,none⟩),.int .i64 a]) (r:=.tup [.agg (.ref 32::bk [0,1,2,3,4,5,6]),.agg (.ref 32::bk [0,1,2,3,4,5,6]),.one (.i .i64 0)]) (l:=.ref 21) (lo:=[some (i5,.ext 0,i6),some (i7,.ext 2,i8)]) (obs:=[⟨aZ Tryz.f30 0,i5,.ext 0,i6⟩,⟨aZ Tryz.f30 1,i7,.ext 2,i8⟩]) h
  (ai)
  (ae (cd 21 23 rfl rfl) (ae (aw (t:=3) (ah (n:=23) rfl) (aG (c:=0)) (bc (by omega))) (ae (iaB (n:=21) (m:=24) rfl rfl (aT (aG (c:=0)) (by omega)) hf) (ae (fa0 f 24 rfl) (ae (ldt f 24 25 rfl rfl) (ae (aw (t:=3) (ah (n:=22) rfl) (ah (n:=25) rfl) (aM (by omega))) (ae (bS (m:=26) (t:=3) (ah (n:=23) rfl) (aG (c:=1)) rfl rfl (by omega) (by omega)) (ae (iaB (n:=21) (m:=27) rfl rfl (aT (ah (n:=26) rfl) (by omega)) hl) (ae (fa0 l 27 rfl) (ae (ldt l 27 28 rfl rfl) (ae (aw (t:=3) (ah (n:=22) rfl) (ah (n:=28) rfl) (aS (by omega))) (ae (iaB (n:=21) (m:=31) rfl rfl (aT (ah (n:=29) rfl) (by omega)) hz1) (ae (sF y 31 32 [0,1,2,3,4,5,6] rfl rfl ⟨rfl,rfl,rfl,rfl,rfl,rfl,rfl,trivial⟩) (ae (iaB (n:=21) (m:=31) rfl rfl (aT (ah (n:=30) rfl) (by omega)) hy) (aj))))))))))))))) Tryz.func30 rfl (by kernel_rfl) (bw hL0 (bw hL1 aD)) ⟨bG,⟨aF (n:=22) rfl aE,trivial⟩⟩ (co rfl)).mono ?_
 rintro e w' ⟨v,B',rfl,⟨vs,rfl,h1⟩,h2,h3⟩
 match vs,h1 with
 | [x1,x2,x3],h1=>
  have ex3:x3= .int .i64 0:=h1.2.2.1
  subst ex3
  exact⟨x1,x2,rfl,((bi (n:=32) (ks:=[0,1,2,3,4,5,6]) (s:=y) rfl ⟨rfl,rfl,rfl,rfl,rfl,rfl,rfl,trivial⟩).1 h1.1),((bi (n:=32) (ks:=[0,1,2,3,4,5,6]) (s:=y) rfl ⟨rfl,rfl,rfl,rfl,rfl,rfl,rfl,trivial⟩).1 h1.2.1),h3 rfl⟩
def i9:MS:=bK 108 [(0,.v (.one (.ptr 0 0))),(1,.v (.one (.ref 43))),(4,.v (.one (.ptr 1 0))),(5,.v (.one (.ptr 2 0))),(7,.v (.one (.i .i64 0))),(8,.v (.one (.ref 47))),(9,.v (.one (.i .i64 0)))] [(86,[some (.ref 42)]),(35,[some (.i .i64 0),some (.b false),some (.sl0),some (.sl0),some (.b false),some (.sl0),some (.sl0),some (.b false),some (.sl0),some (.sl0),some (.b false),some (.sl0),some (.sl0),some (.b false),some (.sl0),some (.sl0),some (.b false),some (.sl0),some (.sl0),some (.b false),some (.sl0),some (.sl0)]),(35,[some (.i .i64 0),some (.b false),some (.sl0),some (.sl0),some (.b false),some (.sl0),some (.sl0),some (.b false),some (.sl0),some (.sl0),some (.b false),some (.sl0),some (.sl0),some (.b false),some (.sl0),some (.sl0),some (.b false),some (.sl0),some (.sl0),some (.b false),some (.sl0),some (.sl0)])]
def ja:MS:=bK 108 [(0,.v (.one (.ptr 0 0))),(1,.v (.one (.ref 43))),(4,.v (.one (.ptr 1 0))),(5,.v (.one (.ptr 2 0))),(7,.v (.one (.ref 50))),(8,.v (.one (.ref 47)))] [(86,[some (.ref 42)]),(35,[some (.i .i64 0),some (.b false),some (.sl0),some (.sl0),some (.b false),some (.sl0),some (.sl0),some (.b false),some (.sl0),some (.sl0),some (.b false),some (.sl0),some (.sl0),some (.b false),some (.sl0),some (.sl0),some (.b false),some (.sl0),some (.sl0),some (.b false),some (.sl0),some (.sl0)]),(35,[some (.i .i64 0),some (.b false),some (.sl0),some (.sl0),some (.b false),some (.sl0),some (.sl0),some (.b false),some (.sl0),some (.sl0),some (.b false),some (.sl0),some (.sl0),some (.b false),some (.sl0),some (.sl0),some (.b false),some (.sl0),some (.sl0),some (.b false),some (.sl0),some (.sl0)])]
def jb:MS:=bK 108 [(0,.v (.one (.ptr 0 0))),(1,.v (.one (.ref 43))),(4,.v (.one (.ptr 1 0))),(5,.v (.one (.ptr 2 0))),(7,.v (.one (.ref 50))),(8,.v (.one (.ref 47))),(10,.v (.one (.ref 47)))] [(86,[some (.ref 42)]),(35,[some (.i .i64 0),some (.b false),some (.sl0),some (.sl0),some (.b false),some (.sl0),some (.sl0),some (.b false),some (.sl0),some (.sl0),some (.b false),some (.sl0),some (.sl0),some (.b false),some (.sl0),some (.sl0),some (.b false),some (.sl0),some (.sl0),some (.b false),some (.sl0),some (.sl0)]),(35,[some (.i .i64 0),some (.b false),some (.sl0),some (.sl0),some (.b false),some (.sl0),some (.sl0),some (.b false),some (.sl0),some (.sl0),some (.b false),some (.sl0),some (.sl0),some (.b false),some (.sl0),some (.sl0),some (.b false),some (.sl0),some (.sl0),some (.b false),some (.sl0),some (.sl0)])]
def jc:MS:=bK 108 [(0,.v (.one (.ptr 0 0))),(1,.v (.one (.ref 43))),(4,.v (.one (.ptr 1 0))),(5,.v (.one (.ptr 2 0))),(7,.v (.one (.ref 50))),(8,.v (.one (.ref 51)))] [(86,[some (.ref 42)]),(35,[some (.i .i64 0),some (.b false),some (.sl0),some (.sl0),some (.b false),some (.sl0),some (.sl0),some (.b false),some (.sl0),some (.sl0),some (.b false),some (.sl0),some (.sl0),some (.b false),some (.sl0),some (.sl0),some (.b false),some (.sl0),some (.sl0),some (.b false),some (.sl0),some (.sl0)]),(35,[some (.i .i64 0),some (.b false),some (.sl0),some (.sl0),some (.b false),some (.sl0),some (.sl0),some (.b false),some (.sl0),some (.sl0),some (.b false),some (.sl0),some (.sl0),some (.b false),some (.sl0),some (.sl0),some (.b false),some (.sl0),some (.sl0),some (.b false),some (.sl0),some (.sl0)])]
def cz (S:List St) (a:Int) (f:St) (l:St) (y:St) (z:St):List Fq:=(z.pose.cs++(y.pose.cs))
theorem pW {w:World} {g:Nat} {sl:Value} (S:List St) (a:Int) (h:TrkS 86 w g sl S) (hS:S.length≤64) (so:dX S) (f:St) (hf:S[0]? =some f) (hb:f.tm≤a) (l:St) (hl:S[S.length - 1]? =some l) (hn:0<S.length) (ha:a≤l.tm) (y:St) (hy:S[plN S a]? =some y) (ey:a<y.tm) (hp:plN S a<S.length) (h0:0<plN S a) (eq1:plN S (a+1)=plN S a) (z:St) (hz:S[plN S a - 1]? =some z):
  Calls Tryz.prog 30 (.pointer (some ⟨g,0,none⟩)::[.int .i64 a]).toArray w fun e w'=>∃v0 v1:Value,e= .returned (.tuple #[v0,v1,.int .i64 0])∧cn w' v0 z∧cn w' v1 y∧Below w.heap.size w w':=by
 have hz1:S[plN S (a+1) - 1]? =some z:=by rw[eq1];exact hz
 have hL0:LOb.Ok Tryz.prog (frs (cz S a f l y z)++(([.rowB true sl stT S.length (az S),.val (.int .i64 a),.val (.int .i64 (S.length:Int)),.plc stT f.qs,.val (.int .i64 f.tm),.val (.int .i64 ((S.length:Int) - 1)),.plc stT l.qs,.val (.int .i64 l.tm)]:List Vp)++(([.val (.int .i64 ((plN S (a+1) - 1:Nat):Int))]:List Vp)++(([.val (.int .i64 ((plN S a:Nat):Int)),.plc stT z.qs,.val (.int .i64 z.tm),.plc stT y.qs,.val (.int .i64 y.tm)]:List Vp))))) (g0 w g) 108 ⟨aZ Tryz.f30 0,i9,.ext 0,ja⟩:=by
  refine a8 S.length (fun k=>frs (cz S a f l y z)++(([.rowB true sl stT S.length (az S),.val (.int .i64 a),.val (.int .i64 (S.length:Int)),.plc stT f.qs,.val (.int .i64 f.tm),.val (.int .i64 ((S.length:Int) - 1)),.plc stT l.qs,.val (.int .i64 l.tm)]:List Vp)++(([.val (.int .i64 ((k:Nat):Int)),.val (.int .i64 ((min (k) (plN S (a+1)) - 1:Nat):Int))]:List Vp)))) (fun _=>bK 108 [(0,.v (.one (.ptr 0 0))),(1,.v (.one (.ref 43))),(4,.v (.one (.ptr 1 0))),(5,.v (.one (.ptr 2 0))),(7,.v (.one (.ref 51))),(8,.v (.one (.ref 47))),(9,.v (.one (.ref 50)))] [(86,[some (.ref 42)]),(35,[some (.i .i64 0),some (.b false),some (.sl0),some (.sl0),some (.b false),some (.sl0),some (.sl0),some (.b false),some (.sl0),some (.sl0),some (.b false),some (.sl0),some (.sl0),some (.b false),some (.sl0),some (.sl0),some (.b false),some (.sl0),some (.sl0),some (.b false),some (.sl0),some (.sl0)]),(35,[some (.i .i64 0),some (.b false),some (.sl0),some (.sl0),some (.b false),some (.sl0),some (.sl0),some (.b false),some (.sl0),some (.sl0),some (.b false),some (.sl0),some (.sl0),some (.b false),some (.sl0),some (.sl0),some (.b false),some (.sl0),some (.sl0),some (.b false),some (.sl0),some (.sl0)])]) ?_ ?_ ?_ (by decide) (Nat.le_add_left 1 _)
  ·intro a_ w_ h_
   exact MSt.conv (N:=50) (σ:=[(50,.i .i64 0),(51,.i .i64 0)]) (cmP (by kernel_rfl)) (aB (sgi (n:=50) (u:=0) (v:=((0:Nat):Int)) rfl (aG (c:=0)) (by omega)) (aB (sgi (n:=51) (u:=0) (v:=((min (0) (plN S (a+1)) - 1:Nat):Int)) rfl (aG (c:=0)) (by omega)) aI)) (by kernel_rfl) h_ (Nat.le_add_left 1 _)
  ·intro k hk
   rcases Nat.lt_or_ge k (plN S (a+1))with hq | hq
   ·obtain⟨x,hx,hlt⟩:=dv hq
    refine aO (N:=52) (ρx:=frs (cz S a f l y z)++(([.rowB true sl stT S.length (az S),.val (.int .i64 a),.val (.int .i64 (S.length:Int)),.plc stT f.qs,.val (.int .i64 f.tm),.val (.int .i64 ((S.length:Int) - 1)),.plc stT l.qs,.val (.int .i64 l.tm)]:List Vp)++(([.val (.int .i64 ((k:Nat):Int)),.val (.int .i64 ((min (k) (plN S (a+1)) - 1:Nat):Int))]:List Vp)++(([.plc stT x.qs,.val (.int .i64 x.tm),.val (.int .i64 (((k:Nat):Int)+1))]:List Vp))))) (cmX (by kernel_rfl)) (by kernel_rfl) (Nat.le_add_left 1 _) ?_
    exact aJ (N:=50) (σ:=[(50,.ref 54),(51,.ref 50)]) (lo:=[]) (n:=300) (ai)
     (ae (cd 42 44 rfl rfl) (ae (aw (t:=3) (ah (n:=50) rfl) (ah (n:=44) rfl) (aK (by omega))) (ae (iaB (n:=42) (m:=52) rfl rfl (aT (ah (n:=50) rfl) (by omega)) hx) (ae (fa0 x 52 rfl) (ae (ldt x 52 53 rfl rfl) (ae (aw (t:=3) (ah (n:=53) rfl) (ah (n:=43) rfl) (cm (by omega))) (ae (cj (m:=54) (t:=3) (ah (n:=50) rfl) (aG (c:=1)) rfl rfl (by omega) (by omega)) (aj))))))))
     (by kernel_rfl) (obs:=[]) (by kernel_rfl) aD (cmP (by kernel_rfl)) (aB (sgi (n:=50) (u:=(((k:Nat):Int)+1)) (v:=((k+1:Nat):Int)) rfl (ah (n:=54) rfl) (by omega)) (aB (sgi (n:=51) (u:=((k:Nat):Int)) (v:=((min (k+1) (plN S (a+1)) - 1:Nat):Int)) rfl (ah (n:=50) rfl) (by omega)) aI)) (Nat.le_add_left 1 _)
   ·obtain⟨x,hx⟩:∃x,S[k]? =some x:=⟨_,List.getElem?_eq_getElem hk⟩
    have hge:=fm so hq hx
    refine aO (N:=52) (ρx:=frs (cz S a f l y z)++(([.rowB true sl stT S.length (az S),.val (.int .i64 a),.val (.int .i64 (S.length:Int)),.plc stT f.qs,.val (.int .i64 f.tm),.val (.int .i64 ((S.length:Int) - 1)),.plc stT l.qs,.val (.int .i64 l.tm)]:List Vp)++(([.val (.int .i64 ((k:Nat):Int)),.val (.int .i64 ((min (k) (plN S (a+1)) - 1:Nat):Int))]:List Vp)++(([.plc stT x.qs,.val (.int .i64 x.tm),.val (.int .i64 (((k:Nat):Int)+1))]:List Vp))))) (cmX (by kernel_rfl)) (by kernel_rfl) (Nat.le_add_left 1 _) ?_
    exact aJ (N:=50) (σ:=[(50,.ref 54),(51,.ref 51)]) (lo:=[]) (n:=300) (ai)
     (ae (cd 42 44 rfl rfl) (ae (aw (t:=3) (ah (n:=50) rfl) (ah (n:=44) rfl) (aK (by omega))) (ae (iaB (n:=42) (m:=52) rfl rfl (aT (ah (n:=50) rfl) (by omega)) hx) (ae (fa0 x 52 rfl) (ae (ldt x 52 53 rfl rfl) (ae (aw (t:=3) (ah (n:=53) rfl) (ah (n:=43) rfl) (dF (by omega))) (ae (cj (m:=54) (t:=3) (ah (n:=50) rfl) (aG (c:=1)) rfl rfl (by omega) (by omega)) (aj))))))))
     (by kernel_rfl) (obs:=[]) (by kernel_rfl) aD (cmP (by kernel_rfl)) (aB (sgi (n:=50) (u:=(((k:Nat):Int)+1)) (v:=((k+1:Nat):Int)) rfl (ah (n:=54) rfl) (by omega)) (aB (sgi (n:=51) (u:=((min (k) (plN S (a+1)) - 1:Nat):Int)) (v:=((min (k+1) (plN S (a+1)) - 1:Nat):Int)) rfl (ah (n:=51) rfl) (by omega)) aI)) (Nat.le_add_left 1 _)
  ·have hle1:=bg S (a+1)
   refine aO (N:=52) (ρx:=frs (cz S a f l y z)++(([.rowB true sl stT S.length (az S),.val (.int .i64 a),.val (.int .i64 (S.length:Int)),.plc stT f.qs,.val (.int .i64 f.tm),.val (.int .i64 ((S.length:Int) - 1)),.plc stT l.qs,.val (.int .i64 l.tm)]:List Vp)++(([.val (.int .i64 ((S.length:Nat):Int)),.val (.int .i64 ((min (S.length) (plN S (a+1)) - 1:Nat):Int))]:List Vp)++(([]:List Vp))))) (cmX (by kernel_rfl)) (by kernel_rfl) (Nat.le_add_left 1 _) ?_
   exact aJ (N:=50) (σ:=[(50,.ref 51)]) (lo:=[]) (n:=300) (ai)
    (ae (cd 42 44 rfl rfl) (ae (aw (t:=3) (ah (n:=50) rfl) (ah (n:=44) rfl) (aM (by omega))) (aj)))
    (by kernel_rfl) (obs:=[]) (by kernel_rfl) aD (cmP (by kernel_rfl)) (aB (sgi (n:=50) (u:=((min (S.length) (plN S (a+1)) - 1:Nat):Int)) (v:=((plN S (a+1) - 1:Nat):Int)) rfl (ah (n:=51) rfl) (by omega)) aI) (Nat.le_add_left 1 _)
 have hL1:LOb.Ok Tryz.prog (frs (cz S a f l y z)++(([.rowB true sl stT S.length (az S),.val (.int .i64 a),.val (.int .i64 (S.length:Int)),.plc stT f.qs,.val (.int .i64 f.tm),.val (.int .i64 ((S.length:Int) - 1)),.plc stT l.qs,.val (.int .i64 l.tm)]:List Vp)++(([.val (.int .i64 ((plN S (a+1) - 1:Nat):Int))]:List Vp)++(([.val (.int .i64 ((plN S a:Nat):Int)),.plc stT z.qs,.val (.int .i64 z.tm),.plc stT y.qs,.val (.int .i64 y.tm)]:List Vp))))) (g0 w g) 108 ⟨aZ Tryz.f30 1,jb,.ext 2,jc⟩:=by
  refine a8 S.length (fun k=>frs (cz S a f l y z)++(([.rowB true sl stT S.length (az S),.val (.int .i64 a),.val (.int .i64 (S.length:Int)),.plc stT f.qs,.val (.int .i64 f.tm),.val (.int .i64 ((S.length:Int) - 1)),.plc stT l.qs,.val (.int .i64 l.tm)]:List Vp)++(([.val (.int .i64 ((plN S (a+1) - 1:Nat):Int))]:List Vp)++(([.val (.int .i64 ((S.length:Int) - 1 - ((k:Nat):Int))),.val (.int .i64 ((min (S.length - 1) (max (S.length - (k)) (plN S a)):Nat):Int))]:List Vp))))) (fun _=>bK 108 [(0,.v (.one (.ptr 0 0))),(1,.v (.one (.ref 43))),(4,.v (.one (.ptr 1 0))),(5,.v (.one (.ptr 2 0))),(7,.v (.one (.ref 50))),(8,.v (.one (.ref 52))),(10,.v (.one (.ref 51)))] [(86,[some (.ref 42)]),(35,[some (.i .i64 0),some (.b false),some (.sl0),some (.sl0),some (.b false),some (.sl0),some (.sl0),some (.b false),some (.sl0),some (.sl0),some (.b false),some (.sl0),some (.sl0),some (.b false),some (.sl0),some (.sl0),some (.b false),some (.sl0),some (.sl0),some (.b false),some (.sl0),some (.sl0)]),(35,[some (.i .i64 0),some (.b false),some (.sl0),some (.sl0),some (.b false),some (.sl0),some (.sl0),some (.b false),some (.sl0),some (.sl0),some (.b false),some (.sl0),some (.sl0),some (.b false),some (.sl0),some (.sl0),some (.b false),some (.sl0),some (.sl0),some (.b false),some (.sl0),some (.sl0)])]) ?_ ?_ ?_ (by decide) (Nat.le_add_left 1 _)
  ·intro a_ w_ h_
   exact MSt.conv (N:=51) (σ:=[(51,.ref 47),(52,.ref 47)]) (mx (by kernel_rfl)) (aB (sgi (n:=51) (u:=((S.length:Int) - 1)) (v:=((S.length:Int) - 1 - ((0:Nat):Int))) rfl (ah (n:=47) rfl) (by omega)) (aB (sgi (n:=52) (u:=((S.length:Int) - 1)) (v:=((min (S.length - 1) (max (S.length - (0)) (plN S a)):Nat):Int)) rfl (ah (n:=47) rfl) (by omega)) aI)) (by kernel_rfl) h_ (Nat.le_add_left 1 _)
  ·intro k hk
   rcases Nat.lt_or_ge (S.length - 1 - k) (plN S a)with hq | hq
   ·obtain⟨x,hx,hlt⟩:=dv hq
    refine aO (N:=53) (ρx:=frs (cz S a f l y z)++(([.rowB true sl stT S.length (az S),.val (.int .i64 a),.val (.int .i64 (S.length:Int)),.plc stT f.qs,.val (.int .i64 f.tm),.val (.int .i64 ((S.length:Int) - 1)),.plc stT l.qs,.val (.int .i64 l.tm)]:List Vp)++(([.val (.int .i64 ((plN S (a+1) - 1:Nat):Int))]:List Vp)++(([.val (.int .i64 ((S.length:Int) - 1 - ((k:Nat):Int))),.val (.int .i64 ((min (S.length - 1) (max (S.length - (k)) (plN S a)):Nat):Int))]:List Vp)++(([.plc stT x.qs,.val (.int .i64 x.tm),.val (.int .i64 (((S.length:Int) - 1 - ((k:Nat):Int)) - 1))]:List Vp)))))) (pP (by kernel_rfl)) (by kernel_rfl) (Nat.le_add_left 1 _) ?_
    exact aJ (N:=51) (σ:=[(51,.ref 55),(52,.ref 52)]) (lo:=[]) (n:=300) (ai)
     (ae (aw (t:=3) (ah (n:=51) rfl) (aG (c:=0)) (iz (by omega))) (ae (iaB (n:=42) (m:=53) rfl rfl (aT (ah (n:=51) rfl) (by omega)) hx) (ae (fa0 x 53 rfl) (ae (ldt x 53 54 rfl rfl) (ae (aw (t:=3) (ah (n:=54) rfl) (ah (n:=43) rfl) (mv (by omega))) (ae (bS (m:=55) (t:=3) (ah (n:=51) rfl) (aG (c:=1)) rfl rfl (by omega) (by omega)) (aj)))))))
     (by kernel_rfl) (obs:=[]) (by kernel_rfl) aD (mx (by kernel_rfl)) (aB (sgi (n:=51) (u:=(((S.length:Int) - 1 - ((k:Nat):Int)) - 1)) (v:=((S.length:Int) - 1 - ((k+1:Nat):Int))) rfl (ah (n:=55) rfl) (by omega)) (aB (sgi (n:=52) (u:=((min (S.length - 1) (max (S.length - (k)) (plN S a)):Nat):Int)) (v:=((min (S.length - 1) (max (S.length - (k+1)) (plN S a)):Nat):Int)) rfl (ah (n:=52) rfl) (by omega)) aI)) (Nat.le_add_left 1 _)
   ·obtain⟨x,hx⟩:∃x,S[S.length - 1 - k]? =some x:=⟨_,List.getElem?_eq_getElem (by omega)⟩
    have hge:=fm so hq hx
    refine aO (N:=53) (ρx:=frs (cz S a f l y z)++(([.rowB true sl stT S.length (az S),.val (.int .i64 a),.val (.int .i64 (S.length:Int)),.plc stT f.qs,.val (.int .i64 f.tm),.val (.int .i64 ((S.length:Int) - 1)),.plc stT l.qs,.val (.int .i64 l.tm)]:List Vp)++(([.val (.int .i64 ((plN S (a+1) - 1:Nat):Int))]:List Vp)++(([.val (.int .i64 ((S.length:Int) - 1 - ((k:Nat):Int))),.val (.int .i64 ((min (S.length - 1) (max (S.length - (k)) (plN S a)):Nat):Int))]:List Vp)++(([.plc stT x.qs,.val (.int .i64 x.tm),.val (.int .i64 (((S.length:Int) - 1 - ((k:Nat):Int)) - 1))]:List Vp)))))) (pP (by kernel_rfl)) (by kernel_rfl) (Nat.le_add_left 1 _) ?_
    exact aJ (N:=51) (σ:=[(51,.ref 55),(52,.ref 51)]) (lo:=[]) (n:=300) (ai)
     (ae (aw (t:=3) (ah (n:=51) rfl) (aG (c:=0)) (iz (by omega))) (ae (iaB (n:=42) (m:=53) rfl rfl (aT (ah (n:=51) rfl) (by omega)) hx) (ae (fa0 x 53 rfl) (ae (ldt x 53 54 rfl rfl) (ae (aw (t:=3) (ah (n:=54) rfl) (ah (n:=43) rfl) (iz (by omega))) (ae (bS (m:=55) (t:=3) (ah (n:=51) rfl) (aG (c:=1)) rfl rfl (by omega) (by omega)) (aj)))))))
     (by kernel_rfl) (obs:=[]) (by kernel_rfl) aD (mx (by kernel_rfl)) (aB (sgi (n:=51) (u:=(((S.length:Int) - 1 - ((k:Nat):Int)) - 1)) (v:=((S.length:Int) - 1 - ((k+1:Nat):Int))) rfl (ah (n:=55) rfl) (by omega)) (aB (sgi (n:=52) (u:=((S.length:Int) - 1 - ((k:Nat):Int))) (v:=((min (S.length - 1) (max (S.length - (k+1)) (plN S a)):Nat):Int)) rfl (ah (n:=51) rfl) (by omega)) aI)) (Nat.le_add_left 1 _)
  ·refine aO (N:=53) (ρx:=frs (cz S a f l y z)++(([.rowB true sl stT S.length (az S),.val (.int .i64 a),.val (.int .i64 (S.length:Int)),.plc stT f.qs,.val (.int .i64 f.tm),.val (.int .i64 ((S.length:Int) - 1)),.plc stT l.qs,.val (.int .i64 l.tm)]:List Vp)++(([.val (.int .i64 ((plN S (a+1) - 1:Nat):Int))]:List Vp)++(([.val (.int .i64 ((S.length:Int) - 1 - ((S.length:Nat):Int))),.val (.int .i64 ((min (S.length - 1) (max (S.length - (S.length)) (plN S a)):Nat):Int))]:List Vp)++(([]:List Vp)))))) (pP (by kernel_rfl)) (by kernel_rfl) (Nat.le_add_left 1 _) ?_
   exact aJ (N:=51) (σ:=[(51,.ref 52)]) (lo:=[]) (n:=300) (ai)
    (ae (aw (t:=3) (ah (n:=51) rfl) (aG (c:=0)) (mv (by omega))) (aj))
    (by kernel_rfl) (obs:=[]) (by kernel_rfl) aD (mx (by kernel_rfl)) (aB (sgi (n:=51) (u:=((min (S.length - 1) (max (S.length - (S.length)) (plN S a)):Nat):Int)) (v:=((plN S a:Nat):Int)) rfl (ah (n:=52) rfl) (by omega)) aI) (Nat.le_add_left 1 _)
 refine(aH (ρ:=frs (cz S a f l y z)++(([.rowB true sl stT S.length (az S),.val (.int .i64 a),.val (.int .i64 (S.length:Int)),.plc stT f.qs,.val (.int .i64 f.tm),.val (.int .i64 ((S.length:Int) - 1)),.plc stT l.qs,.val (.int .i64 l.tm)]:List Vp)++(([.val (.int .i64 ((plN S (a+1) - 1:Nat):Int))]:List Vp)++(([.val (.int .i64 ((plN S a:Nat):Int)),.plc stT z.qs,.val (.int .i64 z.tm),.plc stT y.qs,.val (.int .i64 y.tm)]:List Vp))))) (w:=w) (fuel:=300) (m:=42) (S':=S) (args:=[.one (.ptr 0 0),.one (.ref 43)]) (vs:=[.pointer (some ⟨g,0,none⟩),.int .i64 a]) (r:=.tup [.agg (.ref 53::bk [0,1,2,3,4,5,6]),.agg (.ref 55::bk [7,8,9,10,11,12,13]),.one (.i .i64 0)]) (l:=.ref 42) (lo:=[some (i9,.ext 0,ja),some (jb,.ext 2,jc)]) (obs:=[⟨aZ Tryz.f30 0,i9,.ext 0,ja⟩,⟨aZ Tryz.f30 1,jb,.ext 2,jc⟩]) h
  (ai)
  (ae (cd 42 44 rfl rfl) (ae (aw (t:=3) (ah (n:=44) rfl) (aG (c:=0)) (bc (by omega))) (ae (iaB (n:=42) (m:=45) rfl rfl (aT (aG (c:=0)) (by omega)) hf) (ae (fa0 f 45 rfl) (ae (ldt f 45 46 rfl rfl) (ae (aw (t:=3) (ah (n:=43) rfl) (ah (n:=46) rfl) (aM (by omega))) (ae (bS (m:=47) (t:=3) (ah (n:=44) rfl) (aG (c:=1)) rfl rfl (by omega) (by omega)) (ae (iaB (n:=42) (m:=48) rfl rfl (aT (ah (n:=47) rfl) (by omega)) hl) (ae (fa0 l 48 rfl) (ae (ldt l 48 49 rfl rfl) (ae (aw (t:=3) (ah (n:=43) rfl) (ah (n:=49) rfl) (aS (by omega))) (ae (iaB (n:=42) (m:=52) rfl rfl (aT (ah (n:=50) rfl) (by omega)) hz1) (ae (sF z 52 53 [0,1,2,3,4,5,6] rfl rfl ⟨rfl,rfl,rfl,rfl,rfl,rfl,rfl,trivial⟩) (ae (iaB (n:=42) (m:=54) rfl rfl (aT (ah (n:=51) rfl) (by omega)) hy) (ae (sF y 54 55 [7,8,9,10,11,12,13] rfl rfl ⟨rfl,rfl,rfl,rfl,rfl,rfl,rfl,trivial⟩) (aj)))))))))))))))) Tryz.func30 rfl (by kernel_rfl) (bw hL0 (bw hL1 aD)) ⟨bG,⟨aF (n:=43) rfl aE,trivial⟩⟩ (co rfl)).mono ?_
 rintro e w' ⟨v,B',rfl,⟨vs,rfl,h1⟩,h2,h3⟩
 match vs,h1 with
 | [x1,x2,x3],h1=>
  have ex3:x3= .int .i64 0:=h1.2.2.1
  subst ex3
  exact⟨x1,x2,rfl,((bi (n:=53) (ks:=[0,1,2,3,4,5,6]) (s:=z) rfl ⟨rfl,rfl,rfl,rfl,rfl,rfl,rfl,trivial⟩).1 h1.1),((bi (n:=55) (ks:=[7,8,9,10,11,12,13]) (s:=y) rfl ⟨rfl,rfl,rfl,rfl,rfl,rfl,rfl,trivial⟩).1 h1.2.1),h3 rfl⟩
theorem xP {xs:List Fq} {ys:Rho} {u:Nat} {l la:Leaf} {S:List St} {a:Int} (tl:gI (frs xs++ys) u 86 l S) (ka:KI (frs xs++ys) la .i64 a) {n0 n1:Nat} {k0 k1:List Nat} (a0:(frs xs++ys)[n0]? =some (.val (.int .i64 zst.tm))) (b0:AtL xs k0 zst.pose.cs) (a1:(frs xs++ys)[n1]? =some (.val (.int .i64 zst.tm))) (b1:AtL xs k1 zst.pose.cs) (hS:S.length≤64) (so:dX S) (hS0:S.length=0) {r:SV}:(OIns.mk (.mut 30 ⟨[],[(u,86,[l])],[],none,[],[.agg (.ref n0::bk k0),.agg (.ref n1::bk k1),.one (.i .i64 6)]⟩) [.one (.ptr u 0),.one la] r).Ok Tryz.prog (frs xs++ys):=
 bY (args:=[.one la]) (aA Tryz.func30 rfl rfl) tl (fun B w g sl vs _ ht hv=>by
  match vs,hv with
  | [v],hv=>
   have e:=ka _ _ _ hv.1
   subst e
   refine(pU S _ ht hS so hS0).mono ?_
   rintro e w' ⟨v1,v2,rfl,j1,j2,h2⟩
   exact⟨_,rfl,fun B' _=>⟨[_,_,.int .i64 6],rfl,(bi a0 b0).2 j1,(bi a1 b1).2 j2,rfl,trivial⟩,h2⟩)
theorem uV {xs:List Fq} {ys:Rho} {u:Nat} {l la:Leaf} {S:List St} {a:Int} (tl:gI (frs xs++ys) u 86 l S) (ka:KI (frs xs++ys) la .i64 a) {n0 n1:Nat} {k0 k1:List Nat} (a0:(frs xs++ys)[n0]? =some (.val (.int .i64 zst.tm))) (b0:AtL xs k0 zst.pose.cs) (a1:(frs xs++ys)[n1]? =some (.val (.int .i64 zst.tm))) (b1:AtL xs k1 zst.pose.cs) (hS:S.length≤64) (so:dX S) (f:St) (hf:S[0]? =some f) (hn:0<S.length) (ha:a<f.tm) {r:SV}:(OIns.mk (.mut 30 ⟨[],[(u,86,[l])],[],none,[],[.agg (.ref n0::bk k0),.agg (.ref n1::bk k1),.one (.i .i64 17)]⟩) [.one (.ptr u 0),.one la] r).Ok Tryz.prog (frs xs++ys):=
 bY (args:=[.one la]) (aA Tryz.func30 rfl rfl) tl (fun B w g sl vs _ ht hv=>by
  match vs,hv with
  | [v],hv=>
   have e:=ka _ _ _ hv.1
   subst e
   refine(n4 S _ ht hS so f hf hn ha).mono ?_
   rintro e w' ⟨v1,v2,rfl,j1,j2,h2⟩
   exact⟨_,rfl,fun B' _=>⟨[_,_,.int .i64 17],rfl,(bi a0 b0).2 j1,(bi a1 b1).2 j2,rfl,trivial⟩,h2⟩)
theorem uW {xs:List Fq} {ys:Rho} {u:Nat} {l la:Leaf} {S:List St} {a:Int} (tl:gI (frs xs++ys) u 86 l S) (ka:KI (frs xs++ys) la .i64 a) {n0 n1:Nat} {k0 k1:List Nat} (a0:(frs xs++ys)[n0]? =some (.val (.int .i64 zst.tm))) (b0:AtL xs k0 zst.pose.cs) (a1:(frs xs++ys)[n1]? =some (.val (.int .i64 zst.tm))) (b1:AtL xs k1 zst.pose.cs) (hS:S.length≤64) (so:dX S) (f:St) (hf:S[0]? =some f) (hb:f.tm≤a) (l_:St) (hl:S[S.length - 1]? =some l_) (hn:0<S.length) (ha:l_.tm<a) {r:SV}:(OIns.mk (.mut 30 ⟨[],[(u,86,[l])],[],none,[],[.agg (.ref n0::bk k0),.agg (.ref n1::bk k1),.one (.i .i64 17)]⟩) [.one (.ptr u 0),.one la] r).Ok Tryz.prog (frs xs++ys):=
 bY (args:=[.one la]) (aA Tryz.func30 rfl rfl) tl (fun B w g sl vs _ ht hv=>by
  match vs,hv with
  | [v],hv=>
   have e:=ka _ _ _ hv.1
   subst e
   refine(n5 S _ ht hS so f hf hb l_ hl hn ha).mono ?_
   rintro e w' ⟨v1,v2,rfl,j1,j2,h2⟩
   exact⟨_,rfl,fun B' _=>⟨[_,_,.int .i64 17],rfl,(bi a0 b0).2 j1,(bi a1 b1).2 j2,rfl,trivial⟩,h2⟩)
theorem xQ {xs:List Fq} {ys:Rho} {u:Nat} {l la:Leaf} {S:List St} {a:Int} {y:St} (tl:gI (frs xs++ys) u 86 l S) (ka:KI (frs xs++ys) la .i64 a) {n0 n1:Nat} {k0 k1:List Nat} (a0:(frs xs++ys)[n0]? =some (.val (.int .i64 y.tm))) (b0:AtL xs k0 y.pose.cs) (a1:(frs xs++ys)[n1]? =some (.val (.int .i64 y.tm))) (b1:AtL xs k1 y.pose.cs) (hS:S.length≤64) (so:dX S) (f:St) (hf:S[0]? =some f) (hb:f.tm≤a) (l_:St) (hl:S[S.length - 1]? =some l_) (hn:0<S.length) (ha:a≤l_.tm) (hy:S[plN S a]? =some y) (ey:y.tm=a) (hp:plN S a<S.length) (eq1:plN S (a+1)=plN S a+1) {r:SV}:(OIns.mk (.mut 30 ⟨[],[(u,86,[l])],[],none,[],[.agg (.ref n0::bk k0),.agg (.ref n1::bk k1),.one (.i .i64 0)]⟩) [.one (.ptr u 0),.one la] r).Ok Tryz.prog (frs xs++ys):=
 bY (args:=[.one la]) (aA Tryz.func30 rfl rfl) tl (fun B w g sl vs _ ht hv=>by
  match vs,hv with
  | [v],hv=>
   have e:=ka _ _ _ hv.1
   subst e
   refine(pV S _ ht hS so f hf hb l_ hl hn ha y hy ey hp eq1).mono ?_
   rintro e w' ⟨v1,v2,rfl,j1,j2,h2⟩
   exact⟨_,rfl,fun B' _=>⟨[_,_,.int .i64 0],rfl,(bi a0 b0).2 j1,(bi a1 b1).2 j2,rfl,trivial⟩,h2⟩)
theorem xR {xs:List Fq} {ys:Rho} {u:Nat} {l la:Leaf} {S:List St} {a:Int} {y:St} {z:St} (tl:gI (frs xs++ys) u 86 l S) (ka:KI (frs xs++ys) la .i64 a) {n0 n1:Nat} {k0 k1:List Nat} (a0:(frs xs++ys)[n0]? =some (.val (.int .i64 z.tm))) (b0:AtL xs k0 z.pose.cs) (a1:(frs xs++ys)[n1]? =some (.val (.int .i64 y.tm))) (b1:AtL xs k1 y.pose.cs) (hS:S.length≤64) (so:dX S) (f:St) (hf:S[0]? =some f) (hb:f.tm≤a) (l_:St) (hl:S[S.length - 1]? =some l_) (hn:0<S.length) (ha:a≤l_.tm) (hy:S[plN S a]? =some y) (ey:a<y.tm) (hp:plN S a<S.length) (h0:0<plN S a) (eq1:plN S (a+1)=plN S a) (hz:S[plN S a - 1]? =some z) {r:SV}:(OIns.mk (.mut 30 ⟨[],[(u,86,[l])],[],none,[],[.agg (.ref n0::bk k0),.agg (.ref n1::bk k1),.one (.i .i64 0)]⟩) [.one (.ptr u 0),.one la] r).Ok Tryz.prog (frs xs++ys):=
 bY (args:=[.one la]) (aA Tryz.func30 rfl rfl) tl (fun B w g sl vs _ ht hv=>by
  match vs,hv with
  | [v],hv=>
   have e:=ka _ _ _ hv.1
   subst e
   refine(pW S _ ht hS so f hf hb l_ hl hn ha y hy ey hp h0 eq1 z hz).mono ?_
   rintro e w' ⟨v1,v2,rfl,j1,j2,h2⟩
   exact⟨_,rfl,fun B' _=>⟨[_,_,.int .i64 0],rfl,(bi a0 b0).2 j1,(bi a1 b1).2 j2,rfl,trivial⟩,h2⟩)
end Go.Proofs.YtfhinmdhjlmikaaGreat
namespace Go.Proofs.YtfhinmdhjlmikaaGreat
set_option linter.unusedSimpArgs false
set_option linter.unusedVariables false
set_option maxRecDepth 100000
open Go.RowKit
def xq_rAtEX (S:List St) (a:Int):List Fq:=zst.pose.cs
theorem q_rAtE {w:World} {g:Nat} {sl:Value} (S:List St) (a:Int) (h:TrkS 86 w g sl S) (hS:S.length≤64) (so:dX S) (hS0:S.length=0):
  Calls Tryz.prog 31 (.pointer (some ⟨g,0,none⟩)::[.int .i64 a]).toArray w fun e w'=>∃v0:Value,e= .returned (.tuple #[v0,.int .i64 6])∧dA w' v0 Pq.zero∧Below w.heap.size w w':=by
 refine(aH (ρ:=frs (xq_rAtEX S a)++([.rowB true sl stT S.length (az S),.val (.int .i64 a),.val (.int .i64 zst.tm)]:List Vp)) (w:=w) (fuel:=300) (m:=21) (S':=S) (args:=[.one (.ptr 0 0),.one (.ref 22)]) (vs:=[.pointer (some ⟨g,0,none⟩),.int .i64 a]) (r:=.tup [.agg [.b false,.sl0,.sl0,.b false,.sl0,.sl0,.b false,.sl0,.sl0,.b false,.sl0,.sl0,.b false,.sl0,.sl0,.b false,.sl0,.sl0,.b false,.sl0,.sl0],.one (.i .i64 6)]) (l:=.ref 21) (lo:=[]) (obs:=[]) h
  (ai)
  (ae (xP (u:=0) (l:=.ref 21) (lD (m:=21) rfl) (ah (n:=22) rfl) (n0:=23) (k0:=[0,1,2,3,4,5,6]) (n1:=23) (k1:=[0,1,2,3,4,5,6]) rfl ⟨rfl,rfl,rfl,rfl,rfl,rfl,rfl,trivial⟩ rfl ⟨rfl,rfl,rfl,rfl,rfl,rfl,rfl,trivial⟩ (by omega) so hS0 (r:=.one .sl0)) (aj)) Tryz.func31 rfl (by kernel_rfl) aD ⟨bG,⟨aF (n:=22) rfl aE,trivial⟩⟩ (co rfl)).mono ?_
 rintro e w' ⟨v,B',rfl,⟨vs,rfl,h1⟩,h2,h3⟩
 match vs,h1 with
 | [x1,x2],h1=>
  have ex2:x2= .int .i64 6:=h1.2.1
  subst ex2
  exact⟨x1,rfl,(by obtain⟨cs,rfl,k1⟩:=h1.1;exact⟨_,rfl,dE (n:=7) k1⟩),h3 rfl⟩
def aaS (S:List St) (a:Int) (f:St):List Fq:=zst.pose.cs
theorem q_rAtO1 {w:World} {g:Nat} {sl:Value} (S:List St) (a:Int) (h:TrkS 86 w g sl S) (hS:S.length≤64) (so:dX S) (f:St) (hf:S[0]? =some f) (hn:0<S.length) (ha:a<f.tm):
  Calls Tryz.prog 31 (.pointer (some ⟨g,0,none⟩)::[.int .i64 a]).toArray w fun e w'=>∃v0:Value,e= .returned (.tuple #[v0,.int .i64 17])∧dA w' v0 Pq.zero∧Below w.heap.size w w':=by
 refine(aH (ρ:=frs (aaS S a f)++([.rowB true sl stT S.length (az S),.val (.int .i64 a),.val (.int .i64 zst.tm)]:List Vp)) (w:=w) (fuel:=300) (m:=21) (S':=S) (args:=[.one (.ptr 0 0),.one (.ref 22)]) (vs:=[.pointer (some ⟨g,0,none⟩),.int .i64 a]) (r:=.tup [.agg [.b false,.sl0,.sl0,.b false,.sl0,.sl0,.b false,.sl0,.sl0,.b false,.sl0,.sl0,.b false,.sl0,.sl0,.b false,.sl0,.sl0,.b false,.sl0,.sl0],.one (.i .i64 17)]) (l:=.ref 21) (lo:=[]) (obs:=[]) h
  (ai)
  (ae (uV (u:=0) (l:=.ref 21) (lD (m:=21) rfl) (ah (n:=22) rfl) (n0:=23) (k0:=[0,1,2,3,4,5,6]) (n1:=23) (k1:=[0,1,2,3,4,5,6]) rfl ⟨rfl,rfl,rfl,rfl,rfl,rfl,rfl,trivial⟩ rfl ⟨rfl,rfl,rfl,rfl,rfl,rfl,rfl,trivial⟩ (by omega) so f hf hn ha (r:=.one .sl0)) (aj)) Tryz.func31 rfl (by kernel_rfl) aD ⟨bG,⟨aF (n:=22) rfl aE,trivial⟩⟩ (co rfl)).mono ?_
 rintro e w' ⟨v,B',rfl,⟨vs,rfl,h1⟩,h2,h3⟩
 match vs,h1 with
 | [x1,x2],h1=>
  have ex2:x2= .int .i64 17:=h1.2.1
  subst ex2
  exact⟨x1,rfl,(by obtain⟨cs,rfl,k1⟩:=h1.1;exact⟨_,rfl,dE (n:=7) k1⟩),h3 rfl⟩
def aaT (S:List St) (a:Int) (f:St) (l:St):List Fq:=zst.pose.cs
theorem q_rAtO2 {w:World} {g:Nat} {sl:Value} (S:List St) (a:Int) (h:TrkS 86 w g sl S) (hS:S.length≤64) (so:dX S) (f:St) (hf:S[0]? =some f) (hb:f.tm≤a) (l:St) (hl:S[S.length - 1]? =some l) (hn:0<S.length) (ha:l.tm<a):
  Calls Tryz.prog 31 (.pointer (some ⟨g,0,none⟩)::[.int .i64 a]).toArray w fun e w'=>∃v0:Value,e= .returned (.tuple #[v0,.int .i64 17])∧dA w' v0 Pq.zero∧Below w.heap.size w w':=by
 refine(aH (ρ:=frs (aaT S a f l)++([.rowB true sl stT S.length (az S),.val (.int .i64 a),.val (.int .i64 zst.tm)]:List Vp)) (w:=w) (fuel:=300) (m:=21) (S':=S) (args:=[.one (.ptr 0 0),.one (.ref 22)]) (vs:=[.pointer (some ⟨g,0,none⟩),.int .i64 a]) (r:=.tup [.agg [.b false,.sl0,.sl0,.b false,.sl0,.sl0,.b false,.sl0,.sl0,.b false,.sl0,.sl0,.b false,.sl0,.sl0,.b false,.sl0,.sl0,.b false,.sl0,.sl0],.one (.i .i64 17)]) (l:=.ref 21) (lo:=[]) (obs:=[]) h
  (ai)
  (ae (uW (u:=0) (l:=.ref 21) (lD (m:=21) rfl) (ah (n:=22) rfl) (n0:=23) (k0:=[0,1,2,3,4,5,6]) (n1:=23) (k1:=[0,1,2,3,4,5,6]) rfl ⟨rfl,rfl,rfl,rfl,rfl,rfl,rfl,trivial⟩ rfl ⟨rfl,rfl,rfl,rfl,rfl,rfl,rfl,trivial⟩ (by omega) so f hf hb l hl hn ha (r:=.one .sl0)) (aj)) Tryz.func31 rfl (by kernel_rfl) aD ⟨bG,⟨aF (n:=22) rfl aE,trivial⟩⟩ (co rfl)).mono ?_
 rintro e w' ⟨v,B',rfl,⟨vs,rfl,h1⟩,h2,h3⟩
 match vs,h1 with
 | [x1,x2],h1=>
  have ex2:x2= .int .i64 17:=h1.2.1
  subst ex2
  exact⟨x1,rfl,(by obtain⟨cs,rfl,k1⟩:=h1.1;exact⟨_,rfl,dE (n:=7) k1⟩),h3 rfl⟩
def uX (S:List St) (a:Int) (f:St) (l:St) (y:St):List Fq:=y.pose.cs
theorem q_rAtQ {w:World} {g:Nat} {sl:Value} (S:List St) (a:Int) (h:TrkS 86 w g sl S) (hS:S.length≤64) (so:dX S) (f:St) (hf:S[0]? =some f) (hb:f.tm≤a) (l:St) (hl:S[S.length - 1]? =some l) (hn:0<S.length) (ha:a≤l.tm) (y:St) (hy:S[plN S a]? =some y) (ey:y.tm=a) (hp:plN S a<S.length) (eq1:plN S (a+1)=plN S a+1) (ky:y.pose.ok 2) (gy:y.pose.good):
  Calls Tryz.prog 31 (.pointer (some ⟨g,0,none⟩)::[.int .i64 a]).toArray w fun e w'=>∃v0:Value,e= .returned (.tuple #[v0,.int .i64 0])∧dA w' v0 y.pose∧Below w.heap.size w w':=by
 refine(aH (ρ:=frs (uX S a f l y)++([.rowB true sl stT S.length (az S),.val (.int .i64 a),.val (.int .i64 y.tm)]:List Vp)) (w:=w) (fuel:=300) (m:=21) (S':=S) (args:=[.one (.ptr 0 0),.one (.ref 22)]) (vs:=[.pointer (some ⟨g,0,none⟩),.int .i64 a]) (r:=.tup [row [0,1,2,3,4,5,6],.one (.i .i64 0)]) (l:=.ref 21) (lo:=[]) (obs:=[]) h
  (ai)
  (ae (xQ (u:=0) (l:=.ref 21) (lD (m:=21) rfl) (ah (n:=22) rfl) (n0:=23) (k0:=[0,1,2,3,4,5,6]) (n1:=23) (k1:=[0,1,2,3,4,5,6]) rfl ⟨rfl,rfl,rfl,rfl,rfl,rfl,rfl,trivial⟩ rfl ⟨rfl,rfl,rfl,rfl,rfl,rfl,rfl,trivial⟩ (by omega) so f hf hb l hl hn ha hy ey hp eq1 (r:=.one .sl0)) (ae (aw (t:=3) (ah (n:=23) rfl) (ah (n:=23) rfl) (cL (by omega))) (aj))) Tryz.func31 rfl (by kernel_rfl) aD ⟨bG,⟨aF (n:=22) rfl aE,trivial⟩⟩ (co rfl)).mono ?_
 rintro e w' ⟨v,B',rfl,⟨vs,rfl,h1⟩,h2,h3⟩
 match vs,h1 with
 | [x1,x2],h1=>
  have ex2:x2= .int .i64 0:=h1.2.1
  subst ex2
  exact⟨x1,rfl,((ag (xs:=uX S a f l y) (ks:=[0,1,2,3,4,5,6]) (vs:=y.pose.cs) ⟨rfl,rfl,rfl,rfl,rfl,rfl,rfl,trivial⟩).1 h1.1),h3 rfl⟩
def uY (S:List St) (a:Int) (f:St) (l:St) (y:St) (z:St):List Fq:=(y.pose.cs++(z.pose.cs++([(Fq.ratio (a - z.tm) (y.tm - z.tm))]++((Pq.mk (z.pose.rot.way (z.pose.rot.inv.mul y.pose.rot) (Fq.ratio (a - z.tm) (y.tm - z.tm))) (z.pose.pos.lerp y.pose.pos (Fq.ratio (a - z.tm) (y.tm - z.tm)))).cs))))
theorem q_rAtM {w:World} {g:Nat} {sl:Value} (S:List St) (a:Int) (h:TrkS 86 w g sl S) (hS:S.length≤64) (so:dX S) (f:St) (hf:S[0]? =some f) (hb:f.tm≤a) (l:St) (hl:S[S.length - 1]? =some l) (hn:0<S.length) (ha:a≤l.tm) (y:St) (hy:S[plN S a]? =some y) (ey:a<y.tm) (hp:plN S a<S.length) (h0:0<plN S a) (eq1:plN S (a+1)=plN S a) (z:St) (hz:S[plN S a - 1]? =some z) (ky:y.pose.ok 2) (gy:y.pose.good) (kz:z.pose.ok 2) (gz:z.pose.good) (t0:0≤y.tm) (t1:y.tm≤1099511627776) (t2:0≤z.tm) (t3:z.tm<a) (ow:¬opp z.pose y.pose):
  Calls Tryz.prog 31 (.pointer (some ⟨g,0,none⟩)::[.int .i64 a]).toArray w fun e w'=>∃v0:Value,e= .returned (.tuple #[v0,.int .i64 0])∧dA w' v0 (Pq.mk (z.pose.rot.way (z.pose.rot.inv.mul y.pose.rot) (Fq.ratio (a - z.tm) (y.tm - z.tm))) (z.pose.pos.lerp y.pose.pos (Fq.ratio (a - z.tm) (y.tm - z.tm))))∧Below w.heap.size w w':=by
 refine(aH (ρ:=frs (uY S a f l y z)++([.rowB true sl stT S.length (az S),.val (.int .i64 a),.val (.int .i64 z.tm),.val (.int .i64 y.tm),.val (.int .i64 (a - z.tm)),.val (.int .i64 (y.tm - z.tm))]:List Vp)) (w:=w) (fuel:=300) (m:=66) (S':=S) (args:=[.one (.ptr 0 0),.one (.ref 67)]) (vs:=[.pointer (some ⟨g,0,none⟩),.int .i64 a]) (r:=.tup [row [15,16,17,18,19,20,21],.one (.i .i64 0)]) (l:=.ref 66) (lo:=[]) (obs:=[]) h
  (af (uC (v:=(a - z.tm)) (u:=(y.tm - z.tm)) (k:=14) (ah (n:=70) rfl) (ah (n:=71) rfl) (by omega) (by omega) (by omega) (by omega) (by omega) rfl) (af (ux (ka:=[7,8,9,10,11,12,13]) (a:=z.pose) (kb:=[0,1,2,3,4,5,6]) (b:=y.pose) (im:=14) (kr:=[15,16,17,18,19,20,21]) ⟨rfl,rfl,rfl,rfl,rfl,rfl,rfl,trivial⟩ ⟨rfl,rfl,rfl,rfl,rfl,rfl,rfl,trivial⟩ rfl ⟨rfl,rfl,rfl,rfl,rfl,rfl,rfl,trivial⟩ (kz.mono (by decide)) (ky.mono (by decide)) ((eN (v:=(a - z.tm)) (u:=(y.tm - z.tm)) (by omega) (by omega) (by omega) (by omega) (by omega)).mono (by decide)) gz gy (dV (v:=(a - z.tm)) (u:=(y.tm - z.tm)) (by omega)) ow) ai))
  (ae (xR (u:=0) (l:=.ref 66) (lD (m:=66) rfl) (ah (n:=67) rfl) (n0:=68) (k0:=[7,8,9,10,11,12,13]) (n1:=69) (k1:=[0,1,2,3,4,5,6]) rfl ⟨rfl,rfl,rfl,rfl,rfl,rfl,rfl,trivial⟩ rfl ⟨rfl,rfl,rfl,rfl,rfl,rfl,rfl,trivial⟩ (by omega) so f hf hb l hl hn ha hy ey hp h0 eq1 hz (r:=.one .sl0)) (ae (aw (t:=3) (ah (n:=68) rfl) (ah (n:=69) rfl) (bc (by omega))) (ae (bS (m:=70) (t:=3) (ah (n:=67) rfl) (ah (n:=68) rfl) rfl rfl (by omega) (by omega)) (ae (bS (m:=71) (t:=3) (ah (n:=69) rfl) (ah (n:=68) rfl) rfl rfl (by omega) (by omega)) (aj))))) Tryz.func31 rfl (by kernel_rfl) aD ⟨bG,⟨aF (n:=67) rfl aE,trivial⟩⟩ (co rfl)).mono ?_
 rintro e w' ⟨v,B',rfl,⟨vs,rfl,h1⟩,h2,h3⟩
 match vs,h1 with
 | [x1,x2],h1=>
  have ex2:x2= .int .i64 0:=h1.2.1
  subst ex2
  exact⟨x1,rfl,((ag (xs:=uY S a f l y z) (ks:=[15,16,17,18,19,20,21]) (vs:=(Pq.mk (z.pose.rot.way (z.pose.rot.inv.mul y.pose.rot) (Fq.ratio (a - z.tm) (y.tm - z.tm))) (z.pose.pos.lerp y.pose.pos (Fq.ratio (a - z.tm) (y.tm - z.tm)))).cs) ⟨rfl,rfl,rfl,rfl,rfl,rfl,rfl,trivial⟩).1 h1.1),h3 rfl⟩
def xS (S:List St):List Fq:=[]
theorem q_rSpan0 {w:World} {g:Nat} {sl:Value} (S:List St) (h:TrkS 86 w g sl S) (hS:S.length≤64) (hS0:S.length=0):
  Calls Tryz.prog 33 (.pointer (some ⟨g,0,none⟩)::[]).toArray w fun e w'=>e= .returned (.tuple #[.int .i64 0,.int .i64 0,.bool false])∧Below w.heap.size w w':=by
 refine(aH (ρ:=frs (xS S)++([.rowB true sl stT S.length (az S),.val (.int .i64 (S.length:Int))]:List Vp)) (w:=w) (fuel:=300) (m:=0) (S':=S) (args:=[.one (.ptr 0 0)]) (vs:=[.pointer (some ⟨g,0,none⟩)]) (r:=.tup [.one (.i .i64 0),.one (.i .i64 0),.one (.b false)]) (l:=.ref 0) (lo:=[]) (obs:=[]) h
  (ai)
  (ae (cd 0 1 rfl rfl) (ae (aw (t:=3) (ah (n:=1) rfl) (aG (c:=0)) (cL (by omega))) (aj))) Tryz.func33 rfl (by kernel_rfl) aD ⟨bG,trivial⟩ (co rfl)).mono ?_
 rintro e w' ⟨v,B',rfl,⟨vs,rfl,h1⟩,h2,h3⟩
 match vs,h1 with
 | [x1,x2,x3],h1=>
  have ex1:x1= .int .i64 0:=h1.1
  subst ex1
  have ex2:x2= .int .i64 0:=h1.2.1
  subst ex2
  have ex3:x3= .bool false:=h1.2.2.1
  subst ex3
  exact⟨rfl,h3 rfl⟩
def xT (S:List St) (f:St) (l:St):List Fq:=[]
theorem q_rSpan1 {w:World} {g:Nat} {sl:Value} (S:List St) (h:TrkS 86 w g sl S) (hS:S.length≤64) (f:St) (hf:S[0]? =some f) (l:St) (hl:S[S.length - 1]? =some l) (hn:0<S.length):
  Calls Tryz.prog 33 (.pointer (some ⟨g,0,none⟩)::[]).toArray w fun e w'=>e= .returned (.tuple #[.int .i64 f.tm,.int .i64 l.tm,.bool true])∧Below w.heap.size w w':=by
 refine(aH (ρ:=frs (xT S f l)++([.rowB true sl stT S.length (az S),.val (.int .i64 (S.length:Int)),.plc stT f.qs,.val (.int .i64 f.tm),.val (.int .i64 ((S.length:Int) - 1)),.plc stT l.qs,.val (.int .i64 l.tm)]:List Vp)) (w:=w) (fuel:=300) (m:=0) (S':=S) (args:=[.one (.ptr 0 0)]) (vs:=[.pointer (some ⟨g,0,none⟩)]) (r:=.tup [.one (.ref 3),.one (.ref 6),.one (.b true)]) (l:=.ref 0) (lo:=[]) (obs:=[]) h
  (ai)
  (ae (cd 0 1 rfl rfl) (ae (aw (t:=3) (ah (n:=1) rfl) (aG (c:=0)) (bc (by omega))) (ae (iaB (n:=0) (m:=2) rfl rfl (aT (aG (c:=0)) (by omega)) hf) (ae (fa0 f 2 rfl) (ae (ldt f 2 3 rfl rfl) (ae (bS (m:=4) (t:=3) (ah (n:=1) rfl) (aG (c:=1)) rfl rfl (by omega) (by omega)) (ae (iaB (n:=0) (m:=5) rfl rfl (aT (ah (n:=4) rfl) (by omega)) hl) (ae (fa0 l 5 rfl) (ae (ldt l 5 6 rfl rfl) (aj)))))))))) Tryz.func33 rfl (by kernel_rfl) aD ⟨bG,trivial⟩ (co rfl)).mono ?_
 rintro e w' ⟨v,B',rfl,⟨vs,rfl,h1⟩,h2,h3⟩
 match vs,h1 with
 | [x1,x2,x3],h1=>
  have ex1:x1= .int .i64 f.tm:=bj rfl h1.1
  subst ex1
  have ex2:x2= .int .i64 l.tm:=bj rfl h1.2.1
  subst ex2
  have ex3:x3= .bool true:=h1.2.2.1
  subst ex3
  exact⟨rfl,h3 rfl⟩
def xq_rLenX (S:List St):List Fq:=[]
theorem q_rLen {w:World} {g:Nat} {sl:Value} (S:List St) (h:TrkS 86 w g sl S) (hS:S.length≤64):
  Calls Tryz.prog 34 (.pointer (some ⟨g,0,none⟩)::[]).toArray w fun e w'=>e= .returned (.int .i64 (S.length:Int))∧Below w.heap.size w w':=by
 refine(aH (ρ:=frs (xq_rLenX S)++([.rowB true sl stT S.length (az S),.val (.int .i64 (S.length:Int))]:List Vp)) (w:=w) (fuel:=300) (m:=0) (S':=S) (args:=[.one (.ptr 0 0)]) (vs:=[.pointer (some ⟨g,0,none⟩)]) (r:=.v (.one (.ref 1))) (l:=.ref 0) (lo:=[]) (obs:=[]) h
  (ai)
  (ae (cd 0 1 rfl rfl) (aj)) Tryz.func34 rfl (by kernel_rfl) aD ⟨bG,trivial⟩ (co rfl)).mono ?_
 rintro e w' ⟨v,B',rfl,h1,h2,h3⟩
 have ev:v= .int .i64 (S.length:Int):=bj rfl h1
 subst ev
 exact⟨rfl,h3 rfl⟩
def nm:MS:=bK 37 [(0,.v (.one (.ptr 0 0))),(1,.v (.one (.ref 1))),(5,.v (.one (.i .i64 0))),(6,.v (.one (.i .i64 0)))] [(86,[some (.ref 0)])]
def np:MS:=bK 37 [(0,.v (.one (.ptr 0 0))),(1,.v (.one (.ref 1))),(5,.v (.one (.ref 2)))] [(86,[some (.ref 0)])]
def fZ (S:List St) (a:Int):List Fq:=[]
theorem q_rDrop {w:World} {g:Nat} {sl:Value} (S:List St) (a:Int) (h:TrkS 86 w g sl S) (hS:S.length≤64) (so:dX S):
  Calls Tryz.prog 29 (.pointer (some ⟨g,0,none⟩)::[.int .i64 a]).toArray w fun e w'=>e= .returned (.int .i64 ((plN S (a+1) - 1:Nat):Int))∧TrkM 86 w g sl (S.drop (plN S (a+1) - 1)) w':=by
 have hle:=bg S (a+1)
 have hL0:LOb.Ok Tryz.prog (frs (fZ S a)++(([.rowB true sl stT S.length (az S),.val (.int .i64 a)]:List Vp)++(([.val (.int .i64 ((plN S (a+1) - 1:Nat):Int)),.rowB false sl stT (S.drop (plN S (a+1) - 1)).length (az (S.drop (plN S (a+1) - 1)))]:List Vp)))) (g0 w g) 37 ⟨aZ Tryz.f29 0,nm,.ext 0,np⟩:=by
  refine a8 S.length (fun k=>frs (fZ S a)++(([.rowB true sl stT S.length (az S),.val (.int .i64 a)]:List Vp)++(([.val (.int .i64 ((k:Nat):Int)),.val (.int .i64 ((min (k) (plN S (a+1)) - 1:Nat):Int))]:List Vp)))) (fun _=>bK 37 [(0,.v (.one (.ptr 0 0))),(1,.v (.one (.ref 1))),(5,.v (.one (.ref 3))),(6,.v (.one (.ref 2)))] [(86,[some (.ref 0)])]) ?_ ?_ ?_ (by decide) (Nat.le_add_left 1 _)
  ·intro a_ w_ h_
   exact MSt.conv (N:=2) (σ:=[(2,.i .i64 0),(3,.i .i64 0)]) (cmP (by kernel_rfl)) (aB (sgi (n:=2) (u:=0) (v:=((0:Nat):Int)) rfl (aG (c:=0)) (by omega)) (aB (sgi (n:=3) (u:=0) (v:=((min (0) (plN S (a+1)) - 1:Nat):Int)) rfl (aG (c:=0)) (by omega)) aI)) (by kernel_rfl) h_ (Nat.le_add_left 1 _)
  ·intro k hk
   rcases Nat.lt_or_ge k (plN S (a+1))with hq | hq
   ·obtain⟨x,hx,hlt⟩:=dv hq
    refine aO (N:=4) (ρx:=frs (fZ S a)++(([.rowB true sl stT S.length (az S),.val (.int .i64 a)]:List Vp)++(([.val (.int .i64 ((k:Nat):Int)),.val (.int .i64 ((min (k) (plN S (a+1)) - 1:Nat):Int))]:List Vp)++(([.val (.int .i64 (S.length:Int)),.plc stT x.qs,.val (.int .i64 x.tm),.val (.int .i64 (((k:Nat):Int)+1))]:List Vp))))) (cmX (by kernel_rfl)) (by kernel_rfl) (Nat.le_add_left 1 _) ?_
    exact aJ (N:=2) (σ:=[(2,.ref 7),(3,.ref 2)]) (lo:=[]) (n:=300) (ai)
     (ae (cd 0 4 rfl rfl) (ae (aw (t:=3) (ah (n:=2) rfl) (ah (n:=4) rfl) (aK (by omega))) (ae (iaB (n:=0) (m:=5) rfl rfl (aT (ah (n:=2) rfl) (by omega)) hx) (ae (fa0 x 5 rfl) (ae (ldt x 5 6 rfl rfl) (ae (aw (t:=3) (ah (n:=6) rfl) (ah (n:=1) rfl) (cm (by omega))) (ae (cj (m:=7) (t:=3) (ah (n:=2) rfl) (aG (c:=1)) rfl rfl (by omega) (by omega)) (aj))))))))
     (by kernel_rfl) (obs:=[]) (by kernel_rfl) aD (cmP (by kernel_rfl)) (aB (sgi (n:=2) (u:=(((k:Nat):Int)+1)) (v:=((k+1:Nat):Int)) rfl (ah (n:=7) rfl) (by omega)) (aB (sgi (n:=3) (u:=((k:Nat):Int)) (v:=((min (k+1) (plN S (a+1)) - 1:Nat):Int)) rfl (ah (n:=2) rfl) (by omega)) aI)) (Nat.le_add_left 1 _)
   ·obtain⟨x,hx⟩:∃x,S[k]? =some x:=⟨_,List.getElem?_eq_getElem hk⟩
    have hge:=fm so hq hx
    refine aO (N:=4) (ρx:=frs (fZ S a)++(([.rowB true sl stT S.length (az S),.val (.int .i64 a)]:List Vp)++(([.val (.int .i64 ((k:Nat):Int)),.val (.int .i64 ((min (k) (plN S (a+1)) - 1:Nat):Int))]:List Vp)++(([.val (.int .i64 (S.length:Int)),.plc stT x.qs,.val (.int .i64 x.tm),.val (.int .i64 (((k:Nat):Int)+1))]:List Vp))))) (cmX (by kernel_rfl)) (by kernel_rfl) (Nat.le_add_left 1 _) ?_
    exact aJ (N:=2) (σ:=[(2,.ref 7),(3,.ref 3)]) (lo:=[]) (n:=300) (ai)
     (ae (cd 0 4 rfl rfl) (ae (aw (t:=3) (ah (n:=2) rfl) (ah (n:=4) rfl) (aK (by omega))) (ae (iaB (n:=0) (m:=5) rfl rfl (aT (ah (n:=2) rfl) (by omega)) hx) (ae (fa0 x 5 rfl) (ae (ldt x 5 6 rfl rfl) (ae (aw (t:=3) (ah (n:=6) rfl) (ah (n:=1) rfl) (dF (by omega))) (ae (cj (m:=7) (t:=3) (ah (n:=2) rfl) (aG (c:=1)) rfl rfl (by omega) (by omega)) (aj))))))))
     (by kernel_rfl) (obs:=[]) (by kernel_rfl) aD (cmP (by kernel_rfl)) (aB (sgi (n:=2) (u:=(((k:Nat):Int)+1)) (v:=((k+1:Nat):Int)) rfl (ah (n:=7) rfl) (by omega)) (aB (sgi (n:=3) (u:=((min (k) (plN S (a+1)) - 1:Nat):Int)) (v:=((min (k+1) (plN S (a+1)) - 1:Nat):Int)) rfl (ah (n:=3) rfl) (by omega)) aI)) (Nat.le_add_left 1 _)
  ·have hle1:=bg S (a+1)
   refine aO (N:=4) (ρx:=frs (fZ S a)++(([.rowB true sl stT S.length (az S),.val (.int .i64 a)]:List Vp)++(([.val (.int .i64 ((S.length:Nat):Int)),.val (.int .i64 ((min (S.length) (plN S (a+1)) - 1:Nat):Int))]:List Vp)++(([.val (.int .i64 (S.length:Int))]:List Vp))))) (cmX (by kernel_rfl)) (by kernel_rfl) (Nat.le_add_left 1 _) ?_
   exact aJ (N:=2) (σ:=[(2,.ref 3)]) (lo:=[]) (n:=300) (ai)
    (ae (cd 0 4 rfl rfl) (ae (aw (t:=3) (ah (n:=2) rfl) (ah (n:=4) rfl) (aM (by omega))) (aj)))
    (by kernel_rfl) (obs:=[]) (by kernel_rfl) aD (cmP (by kernel_rfl)) (aB (sgi (n:=2) (u:=((min (S.length) (plN S (a+1)) - 1:Nat):Int)) (v:=((plN S (a+1) - 1:Nat):Int)) rfl (ah (n:=3) rfl) (by omega)) aI) (Nat.le_add_left 1 _)
 refine(aH (ρ:=frs (fZ S a)++(([.rowB true sl stT S.length (az S),.val (.int .i64 a)]:List Vp)++(([.val (.int .i64 ((plN S (a+1) - 1:Nat):Int)),.rowB false sl stT (S.drop (plN S (a+1) - 1)).length (az (S.drop (plN S (a+1) - 1)))]:List Vp)))) (w:=w) (fuel:=300) (m:=0) (S':=(S.drop (plN S (a+1) - 1))) (args:=[.one (.ptr 0 0),.one (.ref 1)]) (vs:=[.pointer (some ⟨g,0,none⟩),.int .i64 a]) (r:=.v (.one (.ref 2))) (l:=.ref 3) (lo:=[some (nm,.ext 0,np)]) (obs:=[⟨aZ Tryz.f29 0,nm,.ext 0,np⟩]) h
  (ai)
  (ae (dW (n:=0) (m:=3) (k:=(plN S (a+1) - 1)) (t:=22) Tryz.underlying22 (by kernel_rfl) rfl (by rfl) rfl (aT (ah (n:=2) rfl) (by omega)) (by omega)) (aj)) Tryz.func29 rfl (by kernel_rfl) (bw hL0 aD) ⟨bG,⟨aF (n:=1) rfl aE,trivial⟩⟩ (co rfl)).mono ?_
 rintro e w' ⟨v,B',rfl,h1,h2,h3⟩
 have ev:v= .int .i64 ((plN S (a+1) - 1:Nat):Int):=bj rfl h1
 subst ev
 exact⟨rfl,h2⟩
def aaU (S:List St):List Fq:=[]
theorem q_rList {w:World} {g:Nat} {sl:Value} (S:List St) (h:TrkS 86 w g sl S) (hS:S.length≤64):
  Calls Tryz.prog 19 (.pointer (some ⟨g,0,none⟩)::[]).toArray w fun e w'=>∃v,e= .returned v∧(Vp.ownr stT 22 S.length (az S)).p w' v∧(∀b,v.ownBlock=some b→w.heap.size≤b∧dp w' b)∧Below w.heap.size w w':=by
 refine(km (ρ:=frs (aaU S)++([.rowB true sl stT S.length (az S),.ownr stT 22 S.length (az S)]:List Vp)) (w:=w) (fuel:=300) (m:=0) (S':=S) (args:=[.one (.ptr 0 0)]) (vs:=[.pointer (some ⟨g,0,none⟩)]) (r:=.v (.one (.own 0 1))) (l:=.ref 0) (lo:=[]) (obs:=[]) h
  (ai)
  (ae (cQ (j:=0) (S1:=[]) (S2:=S) (E:=S) (m:=1) (l:=.sl0) (la:=.ref 0) (.inl ⟨rfl,rfl⟩) (fC (n:=0) rfl) rfl (by rfl) (by omega)) (aj)) Tryz.func19 rfl (by kernel_rfl) aD ⟨bG,trivial⟩ (co rfl)).mono ?_
 rintro e w' ⟨v,B',rfl,h1,h2,h3,h4⟩
 obtain⟨k1,_,k3⟩:=iy rfl h1
 exact⟨_,rfl,k1,fun b hb=>h4 _ _ (k3 b hb),h3 rfl⟩
end Go.Proofs.YtfhinmdhjlmikaaGreat
