/- Tracks: the reference's Around. Tracks: the reference's At, Drop, Span, Len, List. -/
import Derived.Test.YtfhinmdhjlmikaaGreatP19
namespace Go.Proofs.YtfhinmdhjlmikaaGreat
set_option linter.unusedSimpArgs false
set_option linter.unusedVariables false
set_option maxRecDepth 100000
open Go.RowKit
def rY (S:List St) (a:Int):List Fq:=[]
theorem pk {w:World} {g:Nat} {sl:Value} (S:List St) (a:Int) (h:TrkS 86 w g sl S) (hS:S.length≤64) (so:dO S) (hS0:S.length=0):
  Calls Tryz.prog 30 (.pointer (some ⟨g,0,none⟩)::[.int .i64 a]).toArray w fun e w'=>∃v0 v1:Value,e= .returned (.tuple #[v0,v1,.int .i64 6])∧ce w' v0 (⟨0,Pq.zero⟩)∧ce w' v1 (⟨0,Pq.zero⟩)∧Below w.heap.size w w':=by
 refine(aG (ρ:=frs (rY S a)++([.rowB true sl stT S.length (az S),.val (.int .i64 a),.val (.int .i64 (S.length:Int))]:List Vp)) (w:=w) (fuel:=300) (m:=0) (S':=S) (args:=[.one (.ptr 0 0),.one (.ref 1)]) (vs:=[.pointer (some ⟨g,0,none⟩),.int .i64 a]) (r:=.tup [.agg [.i .i64 0,.b false,.sl0,.sl0,.b false,.sl0,.sl0,.b false,.sl0,.sl0,.b false,.sl0,.sl0,.b false,.sl0,.sl0,.b false,.sl0,.sl0,.b false,.sl0,.sl0],.agg [.i .i64 0,.b false,.sl0,.sl0,.b false,.sl0,.sl0,.b false,.sl0,.sl0,.b false,.sl0,.sl0,.b false,.sl0,.sl0,.b false,.sl0,.sl0,.b false,.sl0,.sl0],.one (.i .i64 6)]) (l:=.ref 0) (lo:=[]) (obs:=[]) h
  (ai)
  (ae (bW 0 2 rfl rfl) (ae (aw (t:=3) (ah (n:=2) rfl) (aF (c:=0)) (cF (by omega))) (aj))) Tryz.func30 rfl (by kernel_rfl) aC ⟨bE,⟨aH (n:=1) rfl aE,trivial⟩⟩ (cf rfl)).mono ?_
 rintro e w' ⟨v,B',rfl,⟨vs,rfl,h1⟩,h2,h3⟩
 match vs,h1 with
 | [x1,x2,x3],h1=>
  have ex3:x3= .int .i64 6:=h1.2.2.1
  subst ex3
  exact⟨x1,x2,rfl,(d5 h1.1),(d5 h1.2.1),h3 rfl⟩
def pJ (S:List St) (a:Int) (f:St):List Fq:=[]
theorem nj {w:World} {g:Nat} {sl:Value} (S:List St) (a:Int) (h:TrkS 86 w g sl S) (hS:S.length≤64) (so:dO S) (f:St) (hf:S[0]? =some f) (hn:0<S.length) (ha:a<f.tm):
  Calls Tryz.prog 30 (.pointer (some ⟨g,0,none⟩)::[.int .i64 a]).toArray w fun e w'=>∃v0 v1:Value,e= .returned (.tuple #[v0,v1,.int .i64 17])∧ce w' v0 (⟨0,Pq.zero⟩)∧ce w' v1 (⟨0,Pq.zero⟩)∧Below w.heap.size w w':=by
 refine(aG (ρ:=frs (pJ S a f)++([.rowB true sl stT S.length (az S),.val (.int .i64 a),.val (.int .i64 (S.length:Int)),.plc stT f.qs,.val (.int .i64 f.tm)]:List Vp)) (w:=w) (fuel:=300) (m:=0) (S':=S) (args:=[.one (.ptr 0 0),.one (.ref 1)]) (vs:=[.pointer (some ⟨g,0,none⟩),.int .i64 a]) (r:=.tup [.agg [.i .i64 0,.b false,.sl0,.sl0,.b false,.sl0,.sl0,.b false,.sl0,.sl0,.b false,.sl0,.sl0,.b false,.sl0,.sl0,.b false,.sl0,.sl0,.b false,.sl0,.sl0],.agg [.i .i64 0,.b false,.sl0,.sl0,.b false,.sl0,.sl0,.b false,.sl0,.sl0,.b false,.sl0,.sl0,.b false,.sl0,.sl0,.b false,.sl0,.sl0,.b false,.sl0,.sl0],.one (.i .i64 17)]) (l:=.ref 0) (lo:=[]) (obs:=[]) h
  (ai)
  (ae (bW 0 2 rfl rfl) (ae (aw (t:=3) (ah (n:=2) rfl) (aF (c:=0)) (a8 (by omega))) (ae (iaB (n:=0) (m:=3) rfl rfl (aU (aF (c:=0)) (by omega)) hf) (ae (fa0 f 3 rfl) (ae (ldt f 3 4 rfl rfl) (ae (aw (t:=3) (ah (n:=1) rfl) (ah (n:=4) rfl) (aL (by omega))) (aj))))))) Tryz.func30 rfl (by kernel_rfl) aC ⟨bE,⟨aH (n:=1) rfl aE,trivial⟩⟩ (cf rfl)).mono ?_
 rintro e w' ⟨v,B',rfl,⟨vs,rfl,h1⟩,h2,h3⟩
 match vs,h1 with
 | [x1,x2,x3],h1=>
  have ex3:x3= .int .i64 17:=h1.2.2.1
  subst ex3
  exact⟨x1,x2,rfl,(d5 h1.1),(d5 h1.2.1),h3 rfl⟩
def pK (S:List St) (a:Int) (f:St) (l:St):List Fq:=[]
theorem nm {w:World} {g:Nat} {sl:Value} (S:List St) (a:Int) (h:TrkS 86 w g sl S) (hS:S.length≤64) (so:dO S) (f:St) (hf:S[0]? =some f) (hb:f.tm≤a) (l:St) (hl:S[S.length - 1]? =some l) (hn:0<S.length) (ha:l.tm<a):
  Calls Tryz.prog 30 (.pointer (some ⟨g,0,none⟩)::[.int .i64 a]).toArray w fun e w'=>∃v0 v1:Value,e= .returned (.tuple #[v0,v1,.int .i64 17])∧ce w' v0 (⟨0,Pq.zero⟩)∧ce w' v1 (⟨0,Pq.zero⟩)∧Below w.heap.size w w':=by
 refine(aG (ρ:=frs (pK S a f l)++([.rowB true sl stT S.length (az S),.val (.int .i64 a),.val (.int .i64 (S.length:Int)),.plc stT f.qs,.val (.int .i64 f.tm),.val (.int .i64 ((S.length:Int) - 1)),.plc stT l.qs,.val (.int .i64 l.tm)]:List Vp)) (w:=w) (fuel:=300) (m:=0) (S':=S) (args:=[.one (.ptr 0 0),.one (.ref 1)]) (vs:=[.pointer (some ⟨g,0,none⟩),.int .i64 a]) (r:=.tup [.agg [.i .i64 0,.b false,.sl0,.sl0,.b false,.sl0,.sl0,.b false,.sl0,.sl0,.b false,.sl0,.sl0,.b false,.sl0,.sl0,.b false,.sl0,.sl0,.b false,.sl0,.sl0],.agg [.i .i64 0,.b false,.sl0,.sl0,.b false,.sl0,.sl0,.b false,.sl0,.sl0,.b false,.sl0,.sl0,.b false,.sl0,.sl0,.b false,.sl0,.sl0,.b false,.sl0,.sl0],.one (.i .i64 17)]) (l:=.ref 0) (lo:=[]) (obs:=[]) h
  (ai)
  (ae (bW 0 2 rfl rfl) (ae (aw (t:=3) (ah (n:=2) rfl) (aF (c:=0)) (a8 (by omega))) (ae (iaB (n:=0) (m:=3) rfl rfl (aU (aF (c:=0)) (by omega)) hf) (ae (fa0 f 3 rfl) (ae (ldt f 3 4 rfl rfl) (ae (aw (t:=3) (ah (n:=1) rfl) (ah (n:=4) rfl) (aK (by omega))) (ae (bQ (m:=5) (t:=3) (ah (n:=2) rfl) (aF (c:=1)) rfl rfl (by omega) (by omega)) (ae (iaB (n:=0) (m:=6) rfl rfl (aU (ah (n:=5) rfl) (by omega)) hl) (ae (fa0 l 6 rfl) (ae (ldt l 6 7 rfl rfl) (ae (aw (t:=3) (ah (n:=1) rfl) (ah (n:=7) rfl) (bm (by omega))) (aj)))))))))))) Tryz.func30 rfl (by kernel_rfl) aC ⟨bE,⟨aH (n:=1) rfl aE,trivial⟩⟩ (cf rfl)).mono ?_
 rintro e w' ⟨v,B',rfl,⟨vs,rfl,h1⟩,h2,h3⟩
 match vs,h1 with
 | [x1,x2,x3],h1=>
  have ex3:x3= .int .i64 17:=h1.2.2.1
  subst ex3
  exact⟨x1,x2,rfl,(d5 h1.1),(d5 h1.2.1),h3 rfl⟩
def iK:MS:=cM 108 [(0,.v (.one (.ptr 0 0))),(1,.v (.one (.ref 22))),(4,.v (.one (.ptr 1 0))),(5,.v (.one (.ptr 2 0))),(7,.v (.one (.i .i64 0))),(8,.v (.one (.ref 26))),(9,.v (.one (.i .i64 0)))] [(86,[some (.ref 21)]),(35,[some (.i .i64 0),some (.b false),some (.sl0),some (.sl0),some (.b false),some (.sl0),some (.sl0),some (.b false),some (.sl0),some (.sl0),some (.b false),some (.sl0),some (.sl0),some (.b false),some (.sl0),some (.sl0),some (.b false),some (.sl0),some (.sl0),some (.b false),some (.sl0),some (.sl0)]),(35,[some (.i .i64 0),some (.b false),some (.sl0),some (.sl0),some (.b false),some (.sl0),some (.sl0),some (.b false),some (.sl0),some (.sl0),some (.b false),some (.sl0),some (.sl0),some (.b false),some (.sl0),some (.sl0),some (.b false),some (.sl0),some (.sl0),some (.b false),some (.sl0),some (.sl0)])]
def iL:MS:=cM 108 [(0,.v (.one (.ptr 0 0))),(1,.v (.one (.ref 22))),(4,.v (.one (.ptr 1 0))),(5,.v (.one (.ptr 2 0))),(7,.v (.one (.ref 29))),(8,.v (.one (.ref 26)))] [(86,[some (.ref 21)]),(35,[some (.i .i64 0),some (.b false),some (.sl0),some (.sl0),some (.b false),some (.sl0),some (.sl0),some (.b false),some (.sl0),some (.sl0),some (.b false),some (.sl0),some (.sl0),some (.b false),some (.sl0),some (.sl0),some (.b false),some (.sl0),some (.sl0),some (.b false),some (.sl0),some (.sl0)]),(35,[some (.i .i64 0),some (.b false),some (.sl0),some (.sl0),some (.b false),some (.sl0),some (.sl0),some (.b false),some (.sl0),some (.sl0),some (.b false),some (.sl0),some (.sl0),some (.b false),some (.sl0),some (.sl0),some (.b false),some (.sl0),some (.sl0),some (.b false),some (.sl0),some (.sl0)])]
def iM:MS:=cM 108 [(0,.v (.one (.ptr 0 0))),(1,.v (.one (.ref 22))),(4,.v (.one (.ptr 1 0))),(5,.v (.one (.ptr 2 0))),(7,.v (.one (.ref 29))),(8,.v (.one (.ref 26))),(10,.v (.one (.ref 26)))] [(86,[some (.ref 21)]),(35,[some (.i .i64 0),some (.b false),some (.sl0),some (.sl0),some (.b false),some (.sl0),some (.sl0),some (.b false),some (.sl0),some (.sl0),some (.b false),some (.sl0),some (.sl0),some (.b false),some (.sl0),some (.sl0),some (.b false),some (.sl0),some (.sl0),some (.b false),some (.sl0),some (.sl0)]),(35,[some (.i .i64 0),some (.b false),some (.sl0),some (.sl0),some (.b false),some (.sl0),some (.sl0),some (.b false),some (.sl0),some (.sl0),some (.b false),some (.sl0),some (.sl0),some (.b false),some (.sl0),some (.sl0),some (.b false),some (.sl0),some (.sl0),some (.b false),some (.sl0),some (.sl0)])]
def iN:MS:=cM 108 [(0,.v (.one (.ptr 0 0))),(1,.v (.one (.ref 22))),(4,.v (.one (.ptr 1 0))),(5,.v (.one (.ptr 2 0))),(7,.v (.one (.ref 29))),(8,.v (.one (.ref 30)))] [(86,[some (.ref 21)]),(35,[some (.i .i64 0),some (.b false),some (.sl0),some (.sl0),some (.b false),some (.sl0),some (.sl0),some (.b false),some (.sl0),some (.sl0),some (.b false),some (.sl0),some (.sl0),some (.b false),some (.sl0),some (.sl0),some (.b false),some (.sl0),some (.sl0),some (.b false),some (.sl0),some (.sl0)]),(35,[some (.i .i64 0),some (.b false),some (.sl0),some (.sl0),some (.b false),some (.sl0),some (.sl0),some (.b false),some (.sl0),some (.sl0),some (.b false),some (.sl0),some (.sl0),some (.b false),some (.sl0),some (.sl0),some (.b false),some (.sl0),some (.sl0),some (.b false),some (.sl0),some (.sl0)])]
def ci (S:List St) (a:Int) (f:St) (l:St) (y:St):List Fq:=y.pose.cs
theorem pl {w:World} {g:Nat} {sl:Value} (S:List St) (a:Int) (h:TrkS 86 w g sl S) (hS:S.length≤64) (so:dO S) (f:St) (hf:S[0]? =some f) (hb:f.tm≤a) (l:St) (hl:S[S.length - 1]? =some l) (hn:0<S.length) (ha:a≤l.tm) (y:St) (hy:S[plN S a]? =some y) (ey:y.tm=a) (hp:plN S a<S.length) (eq1:plN S (a+1)=plN S a+1):
  Calls Tryz.prog 30 (.pointer (some ⟨g,0,none⟩)::[.int .i64 a]).toArray w fun e w'=>∃v0 v1:Value,e= .returned (.tuple #[v0,v1,.int .i64 0])∧ce w' v0 y∧ce w' v1 y∧Below w.heap.size w w':=by
 have hz1:S[plN S (a+1) - 1]? =some y:=by rw[eq1];exact hy
 have hL0:LOb.Ok Tryz.prog (frs (ci S a f l y)++(([.rowB true sl stT S.length (az S),.val (.int .i64 a),.val (.int .i64 (S.length:Int)),.plc stT f.qs,.val (.int .i64 f.tm),.val (.int .i64 ((S.length:Int) - 1)),.plc stT l.qs,.val (.int .i64 l.tm)]:List Vp)++(([.val (.int .i64 ((plN S (a+1) - 1:Nat):Int))]:List Vp)++(([.val (.int .i64 ((plN S a:Nat):Int)),.plc stT y.qs,.val (.int .i64 y.tm)]:List Vp))))) (gO w g) 108 ⟨bk Tryz.f30 0,iK,.ext 0,iL⟩:=by
  refine bx S.length (fun k=>frs (ci S a f l y)++(([.rowB true sl stT S.length (az S),.val (.int .i64 a),.val (.int .i64 (S.length:Int)),.plc stT f.qs,.val (.int .i64 f.tm),.val (.int .i64 ((S.length:Int) - 1)),.plc stT l.qs,.val (.int .i64 l.tm)]:List Vp)++(([.val (.int .i64 ((k:Nat):Int)),.val (.int .i64 ((min (k) (plN S (a+1)) - 1:Nat):Int))]:List Vp)))) (fun _=>cM 108 [(0,.v (.one (.ptr 0 0))),(1,.v (.one (.ref 22))),(4,.v (.one (.ptr 1 0))),(5,.v (.one (.ptr 2 0))),(7,.v (.one (.ref 30))),(8,.v (.one (.ref 26))),(9,.v (.one (.ref 29)))] [(86,[some (.ref 21)]),(35,[some (.i .i64 0),some (.b false),some (.sl0),some (.sl0),some (.b false),some (.sl0),some (.sl0),some (.b false),some (.sl0),some (.sl0),some (.b false),some (.sl0),some (.sl0),some (.b false),some (.sl0),some (.sl0),some (.b false),some (.sl0),some (.sl0),some (.b false),some (.sl0),some (.sl0)]),(35,[some (.i .i64 0),some (.b false),some (.sl0),some (.sl0),some (.b false),some (.sl0),some (.sl0),some (.b false),some (.sl0),some (.sl0),some (.b false),some (.sl0),some (.sl0),some (.b false),some (.sl0),some (.sl0),some (.b false),some (.sl0),some (.sl0),some (.b false),some (.sl0),some (.sl0)])]) ?_ ?_ ?_ (by decide) (Nat.le_add_left 1 _)
  ·intro a_ w_ h_
   exact MSt.conv (N:=29) (σ:=[(29,.i .i64 0),(30,.i .i64 0)]) (cmP (by kernel_rfl)) (aD (sgi (n:=29) (u:=0) (v:=((0:Nat):Int)) rfl (aF (c:=0)) (by omega)) (aD (sgi (n:=30) (u:=0) (v:=((min (0) (plN S (a+1)) - 1:Nat):Int)) rfl (aF (c:=0)) (by omega)) aP)) (by kernel_rfl) h_ (Nat.le_add_left 1 _)
  ·intro k hk
   rcases Nat.lt_or_ge k (plN S (a+1))with hq | hq
   ·obtain⟨x,hx,hlt⟩:=dl hq
    refine aV (N:=31) (ρx:=frs (ci S a f l y)++(([.rowB true sl stT S.length (az S),.val (.int .i64 a),.val (.int .i64 (S.length:Int)),.plc stT f.qs,.val (.int .i64 f.tm),.val (.int .i64 ((S.length:Int) - 1)),.plc stT l.qs,.val (.int .i64 l.tm)]:List Vp)++(([.val (.int .i64 ((k:Nat):Int)),.val (.int .i64 ((min (k) (plN S (a+1)) - 1:Nat):Int))]:List Vp)++(([.plc stT x.qs,.val (.int .i64 x.tm),.val (.int .i64 (((k:Nat):Int)+1))]:List Vp))))) (cmX (by kernel_rfl)) (by kernel_rfl) (Nat.le_add_left 1 _) ?_
    exact aR (N:=29) (σ:=[(29,.ref 33),(30,.ref 29)]) (lo:=[]) (n:=300) (ai)
     (ae (bW 21 23 rfl rfl) (ae (aw (t:=3) (ah (n:=29) rfl) (ah (n:=23) rfl) (aL (by omega))) (ae (iaB (n:=21) (m:=31) rfl rfl (aU (ah (n:=29) rfl) (by omega)) hx) (ae (fa0 x 31 rfl) (ae (ldt x 31 32 rfl rfl) (ae (aw (t:=3) (ah (n:=32) rfl) (ah (n:=22) rfl) (cW (by omega))) (ae (cS (m:=33) (t:=3) (ah (n:=29) rfl) (aF (c:=1)) rfl rfl (by omega) (by omega)) (aj))))))))
     (by kernel_rfl) (obs:=[]) (by kernel_rfl) aC (cmP (by kernel_rfl)) (aD (sgi (n:=29) (u:=(((k:Nat):Int)+1)) (v:=((k+1:Nat):Int)) rfl (ah (n:=33) rfl) (by omega)) (aD (sgi (n:=30) (u:=((k:Nat):Int)) (v:=((min (k+1) (plN S (a+1)) - 1:Nat):Int)) rfl (ah (n:=29) rfl) (by omega)) aP)) (Nat.le_add_left 1 _)
   ·obtain⟨x,hx⟩:∃x,S[k]? =some x:=⟨_,List.getElem?_eq_getElem hk⟩
    have hge:=fc so hq hx
    refine aV (N:=31) (ρx:=frs (ci S a f l y)++(([.rowB true sl stT S.length (az S),.val (.int .i64 a),.val (.int .i64 (S.length:Int)),.plc stT f.qs,.val (.int .i64 f.tm),.val (.int .i64 ((S.length:Int) - 1)),.plc stT l.qs,.val (.int .i64 l.tm)]:List Vp)++(([.val (.int .i64 ((k:Nat):Int)),.val (.int .i64 ((min (k) (plN S (a+1)) - 1:Nat):Int))]:List Vp)++(([.plc stT x.qs,.val (.int .i64 x.tm),.val (.int .i64 (((k:Nat):Int)+1))]:List Vp))))) (cmX (by kernel_rfl)) (by kernel_rfl) (Nat.le_add_left 1 _) ?_
    exact aR (N:=29) (σ:=[(29,.ref 33),(30,.ref 30)]) (lo:=[]) (n:=300) (ai)
     (ae (bW 21 23 rfl rfl) (ae (aw (t:=3) (ah (n:=29) rfl) (ah (n:=23) rfl) (aL (by omega))) (ae (iaB (n:=21) (m:=31) rfl rfl (aU (ah (n:=29) rfl) (by omega)) hx) (ae (fa0 x 31 rfl) (ae (ldt x 31 32 rfl rfl) (ae (aw (t:=3) (ah (n:=32) rfl) (ah (n:=22) rfl) (eE (by omega))) (ae (cS (m:=33) (t:=3) (ah (n:=29) rfl) (aF (c:=1)) rfl rfl (by omega) (by omega)) (aj))))))))
     (by kernel_rfl) (obs:=[]) (by kernel_rfl) aC (cmP (by kernel_rfl)) (aD (sgi (n:=29) (u:=(((k:Nat):Int)+1)) (v:=((k+1:Nat):Int)) rfl (ah (n:=33) rfl) (by omega)) (aD (sgi (n:=30) (u:=((min (k) (plN S (a+1)) - 1:Nat):Int)) (v:=((min (k+1) (plN S (a+1)) - 1:Nat):Int)) rfl (ah (n:=30) rfl) (by omega)) aP)) (Nat.le_add_left 1 _)
  ·have hle1:=a9 S (a+1)
   refine aV (N:=31) (ρx:=frs (ci S a f l y)++(([.rowB true sl stT S.length (az S),.val (.int .i64 a),.val (.int .i64 (S.length:Int)),.plc stT f.qs,.val (.int .i64 f.tm),.val (.int .i64 ((S.length:Int) - 1)),.plc stT l.qs,.val (.int .i64 l.tm)]:List Vp)++(([.val (.int .i64 ((S.length:Nat):Int)),.val (.int .i64 ((min (S.length) (plN S (a+1)) - 1:Nat):Int))]:List Vp)++(([]:List Vp))))) (cmX (by kernel_rfl)) (by kernel_rfl) (Nat.le_add_left 1 _) ?_
   exact aR (N:=29) (σ:=[(29,.ref 30)]) (lo:=[]) (n:=300) (ai)
    (ae (bW 21 23 rfl rfl) (ae (aw (t:=3) (ah (n:=29) rfl) (ah (n:=23) rfl) (aK (by omega))) (aj)))
    (by kernel_rfl) (obs:=[]) (by kernel_rfl) aC (cmP (by kernel_rfl)) (aD (sgi (n:=29) (u:=((min (S.length) (plN S (a+1)) - 1:Nat):Int)) (v:=((plN S (a+1) - 1:Nat):Int)) rfl (ah (n:=30) rfl) (by omega)) aP) (Nat.le_add_left 1 _)
 have hL1:LOb.Ok Tryz.prog (frs (ci S a f l y)++(([.rowB true sl stT S.length (az S),.val (.int .i64 a),.val (.int .i64 (S.length:Int)),.plc stT f.qs,.val (.int .i64 f.tm),.val (.int .i64 ((S.length:Int) - 1)),.plc stT l.qs,.val (.int .i64 l.tm)]:List Vp)++(([.val (.int .i64 ((plN S (a+1) - 1:Nat):Int))]:List Vp)++(([.val (.int .i64 ((plN S a:Nat):Int)),.plc stT y.qs,.val (.int .i64 y.tm)]:List Vp))))) (gO w g) 108 ⟨bk Tryz.f30 1,iM,.ext 2,iN⟩:=by
  refine bx S.length (fun k=>frs (ci S a f l y)++(([.rowB true sl stT S.length (az S),.val (.int .i64 a),.val (.int .i64 (S.length:Int)),.plc stT f.qs,.val (.int .i64 f.tm),.val (.int .i64 ((S.length:Int) - 1)),.plc stT l.qs,.val (.int .i64 l.tm)]:List Vp)++(([.val (.int .i64 ((plN S (a+1) - 1:Nat):Int))]:List Vp)++(([.val (.int .i64 ((S.length:Int) - 1 - ((k:Nat):Int))),.val (.int .i64 ((min (S.length - 1) (max (S.length - (k)) (plN S a)):Nat):Int))]:List Vp))))) (fun _=>cM 108 [(0,.v (.one (.ptr 0 0))),(1,.v (.one (.ref 22))),(4,.v (.one (.ptr 1 0))),(5,.v (.one (.ptr 2 0))),(7,.v (.one (.ref 29))),(8,.v (.one (.ref 31))),(10,.v (.one (.ref 30)))] [(86,[some (.ref 21)]),(35,[some (.i .i64 0),some (.b false),some (.sl0),some (.sl0),some (.b false),some (.sl0),some (.sl0),some (.b false),some (.sl0),some (.sl0),some (.b false),some (.sl0),some (.sl0),some (.b false),some (.sl0),some (.sl0),some (.b false),some (.sl0),some (.sl0),some (.b false),some (.sl0),some (.sl0)]),(35,[some (.i .i64 0),some (.b false),some (.sl0),some (.sl0),some (.b false),some (.sl0),some (.sl0),some (.b false),some (.sl0),some (.sl0),some (.b false),some (.sl0),some (.sl0),some (.b false),some (.sl0),some (.sl0),some (.b false),some (.sl0),some (.sl0),some (.b false),some (.sl0),some (.sl0)])]) ?_ ?_ ?_ (by decide) (Nat.le_add_left 1 _)
  ·intro a_ w_ h_
   exact MSt.conv (N:=30) (σ:=[(30,.ref 26),(31,.ref 26)]) (l9 (by kernel_rfl)) (aD (sgi (n:=30) (u:=((S.length:Int) - 1)) (v:=((S.length:Int) - 1 - ((0:Nat):Int))) rfl (ah (n:=26) rfl) (by omega)) (aD (sgi (n:=31) (u:=((S.length:Int) - 1)) (v:=((min (S.length - 1) (max (S.length - (0)) (plN S a)):Nat):Int)) rfl (ah (n:=26) rfl) (by omega)) aP)) (by kernel_rfl) h_ (Nat.le_add_left 1 _)
  ·intro k hk
   rcases Nat.lt_or_ge (S.length - 1 - k) (plN S a)with hq | hq
   ·obtain⟨x,hx,hlt⟩:=dl hq
    refine aV (N:=32) (ρx:=frs (ci S a f l y)++(([.rowB true sl stT S.length (az S),.val (.int .i64 a),.val (.int .i64 (S.length:Int)),.plc stT f.qs,.val (.int .i64 f.tm),.val (.int .i64 ((S.length:Int) - 1)),.plc stT l.qs,.val (.int .i64 l.tm)]:List Vp)++(([.val (.int .i64 ((plN S (a+1) - 1:Nat):Int))]:List Vp)++(([.val (.int .i64 ((S.length:Int) - 1 - ((k:Nat):Int))),.val (.int .i64 ((min (S.length - 1) (max (S.length - (k)) (plN S a)):Nat):Int))]:List Vp)++(([.plc stT x.qs,.val (.int .i64 x.tm),.val (.int .i64 (((S.length:Int) - 1 - ((k:Nat):Int)) - 1))]:List Vp)))))) (pf (by kernel_rfl)) (by kernel_rfl) (Nat.le_add_left 1 _) ?_
    exact aR (N:=30) (σ:=[(30,.ref 34),(31,.ref 31)]) (lo:=[]) (n:=300) (ai)
     (ae (aw (t:=3) (ah (n:=30) rfl) (aF (c:=0)) (g8 (by omega))) (ae (iaB (n:=21) (m:=32) rfl rfl (aU (ah (n:=30) rfl) (by omega)) hx) (ae (fa0 x 32 rfl) (ae (ldt x 32 33 rfl rfl) (ae (aw (t:=3) (ah (n:=33) rfl) (ah (n:=22) rfl) (l7 (by omega))) (ae (bQ (m:=34) (t:=3) (ah (n:=30) rfl) (aF (c:=1)) rfl rfl (by omega) (by omega)) (aj)))))))
     (by kernel_rfl) (obs:=[]) (by kernel_rfl) aC (l9 (by kernel_rfl)) (aD (sgi (n:=30) (u:=(((S.length:Int) - 1 - ((k:Nat):Int)) - 1)) (v:=((S.length:Int) - 1 - ((k+1:Nat):Int))) rfl (ah (n:=34) rfl) (by omega)) (aD (sgi (n:=31) (u:=((min (S.length - 1) (max (S.length - (k)) (plN S a)):Nat):Int)) (v:=((min (S.length - 1) (max (S.length - (k+1)) (plN S a)):Nat):Int)) rfl (ah (n:=31) rfl) (by omega)) aP)) (Nat.le_add_left 1 _)
   ·obtain⟨x,hx⟩:∃x,S[S.length - 1 - k]? =some x:=⟨_,List.getElem?_eq_getElem (by omega)⟩
    have hge:=fc so hq hx
    refine aV (N:=32) (ρx:=frs (ci S a f l y)++(([.rowB true sl stT S.length (az S),.val (.int .i64 a),.val (.int .i64 (S.length:Int)),.plc stT f.qs,.val (.int .i64 f.tm),.val (.int .i64 ((S.length:Int) - 1)),.plc stT l.qs,.val (.int .i64 l.tm)]:List Vp)++(([.val (.int .i64 ((plN S (a+1) - 1:Nat):Int))]:List Vp)++(([.val (.int .i64 ((S.length:Int) - 1 - ((k:Nat):Int))),.val (.int .i64 ((min (S.length - 1) (max (S.length - (k)) (plN S a)):Nat):Int))]:List Vp)++(([.plc stT x.qs,.val (.int .i64 x.tm),.val (.int .i64 (((S.length:Int) - 1 - ((k:Nat):Int)) - 1))]:List Vp)))))) (pf (by kernel_rfl)) (by kernel_rfl) (Nat.le_add_left 1 _) ?_
    exact aR (N:=30) (σ:=[(30,.ref 34),(31,.ref 30)]) (lo:=[]) (n:=300) (ai)
     (ae (aw (t:=3) (ah (n:=30) rfl) (aF (c:=0)) (g8 (by omega))) (ae (iaB (n:=21) (m:=32) rfl rfl (aU (ah (n:=30) rfl) (by omega)) hx) (ae (fa0 x 32 rfl) (ae (ldt x 32 33 rfl rfl) (ae (aw (t:=3) (ah (n:=33) rfl) (ah (n:=22) rfl) (g8 (by omega))) (ae (bQ (m:=34) (t:=3) (ah (n:=30) rfl) (aF (c:=1)) rfl rfl (by omega) (by omega)) (aj)))))))
     (by kernel_rfl) (obs:=[]) (by kernel_rfl) aC (l9 (by kernel_rfl)) (aD (sgi (n:=30) (u:=(((S.length:Int) - 1 - ((k:Nat):Int)) - 1)) (v:=((S.length:Int) - 1 - ((k+1:Nat):Int))) rfl (ah (n:=34) rfl) (by omega)) (aD (sgi (n:=31) (u:=((S.length:Int) - 1 - ((k:Nat):Int))) (v:=((min (S.length - 1) (max (S.length - (k+1)) (plN S a)):Nat):Int)) rfl (ah (n:=30) rfl) (by omega)) aP)) (Nat.le_add_left 1 _)
  ·refine aV (N:=32) (ρx:=frs (ci S a f l y)++(([.rowB true sl stT S.length (az S),.val (.int .i64 a),.val (.int .i64 (S.length:Int)),.plc stT f.qs,.val (.int .i64 f.tm),.val (.int .i64 ((S.length:Int) - 1)),.plc stT l.qs,.val (.int .i64 l.tm)]:List Vp)++(([.val (.int .i64 ((plN S (a+1) - 1:Nat):Int))]:List Vp)++(([.val (.int .i64 ((S.length:Int) - 1 - ((S.length:Nat):Int))),.val (.int .i64 ((min (S.length - 1) (max (S.length - (S.length)) (plN S a)):Nat):Int))]:List Vp)++(([]:List Vp)))))) (pf (by kernel_rfl)) (by kernel_rfl) (Nat.le_add_left 1 _) ?_
   exact aR (N:=30) (σ:=[(30,.ref 31)]) (lo:=[]) (n:=300) (ai)
    (ae (aw (t:=3) (ah (n:=30) rfl) (aF (c:=0)) (l7 (by omega))) (aj))
    (by kernel_rfl) (obs:=[]) (by kernel_rfl) aC (l9 (by kernel_rfl)) (aD (sgi (n:=30) (u:=((min (S.length - 1) (max (S.length - (S.length)) (plN S a)):Nat):Int)) (v:=((plN S a:Nat):Int)) rfl (ah (n:=31) rfl) (by omega)) aP) (Nat.le_add_left 1 _)
 refine(aG (ρ:=frs (ci S a f l y)++(([.rowB true sl stT S.length (az S),.val (.int .i64 a),.val (.int .i64 (S.length:Int)),.plc stT f.qs,.val (.int .i64 f.tm),.val (.int .i64 ((S.length:Int) - 1)),.plc stT l.qs,.val (.int .i64 l.tm)]:List Vp)++(([.val (.int .i64 ((plN S (a+1) - 1:Nat):Int))]:List Vp)++(([.val (.int .i64 ((plN S a:Nat):Int)),.plc stT y.qs,.val (.int .i64 y.tm)]:List Vp))))) (w:=w) (fuel:=300) (m:=21) (S':=S) (args:=[.one (.ptr 0 0),.one (.ref 22)]) (vs:=[.pointer (some ⟨g,0,none⟩),.int .i64 a]) (r:=.tup [.agg (.ref 32::bd [0,1,2,3,4,5,6]),.agg (.ref 32::bd [0,1,2,3,4,5,6]),.one (.i .i64 0)]) (l:=.ref 21) (lo:=[some (iK,.ext 0,iL),some (iM,.ext 2,iN)]) (obs:=[⟨bk Tryz.f30 0,iK,.ext 0,iL⟩,⟨bk Tryz.f30 1,iM,.ext 2,iN⟩]) h
  (ai)
  (ae (bW 21 23 rfl rfl) (ae (aw (t:=3) (ah (n:=23) rfl) (aF (c:=0)) (a8 (by omega))) (ae (iaB (n:=21) (m:=24) rfl rfl (aU (aF (c:=0)) (by omega)) hf) (ae (fa0 f 24 rfl) (ae (ldt f 24 25 rfl rfl) (ae (aw (t:=3) (ah (n:=22) rfl) (ah (n:=25) rfl) (aK (by omega))) (ae (bQ (m:=26) (t:=3) (ah (n:=23) rfl) (aF (c:=1)) rfl rfl (by omega) (by omega)) (ae (iaB (n:=21) (m:=27) rfl rfl (aU (ah (n:=26) rfl) (by omega)) hl) (ae (fa0 l 27 rfl) (ae (ldt l 27 28 rfl rfl) (ae (aw (t:=3) (ah (n:=22) rfl) (ah (n:=28) rfl) (aQ (by omega))) (ae (iaB (n:=21) (m:=31) rfl rfl (aU (ah (n:=29) rfl) (by omega)) hz1) (ae (rN y 31 32 [0,1,2,3,4,5,6] rfl rfl ⟨rfl,rfl,rfl,rfl,rfl,rfl,rfl,trivial⟩) (ae (iaB (n:=21) (m:=31) rfl rfl (aU (ah (n:=30) rfl) (by omega)) hy) (aj))))))))))))))) Tryz.func30 rfl (by kernel_rfl) (bI hL0 (bI hL1 aC)) ⟨bE,⟨aH (n:=22) rfl aE,trivial⟩⟩ (cf rfl)).mono ?_
 rintro e w' ⟨v,B',rfl,⟨vs,rfl,h1⟩,h2,h3⟩
 match vs,h1 with
 | [x1,x2,x3],h1=>
  have ex3:x3= .int .i64 0:=h1.2.2.1
  subst ex3
  exact⟨x1,x2,rfl,((bc (n:=32) (ks:=[0,1,2,3,4,5,6]) (s:=y) rfl ⟨rfl,rfl,rfl,rfl,rfl,rfl,rfl,trivial⟩).1 h1.1),((bc (n:=32) (ks:=[0,1,2,3,4,5,6]) (s:=y) rfl ⟨rfl,rfl,rfl,rfl,rfl,rfl,rfl,trivial⟩).1 h1.2.1),h3 rfl⟩
def iO:MS:=cM 108 [(0,.v (.one (.ptr 0 0))),(1,.v (.one (.ref 43))),(4,.v (.one (.ptr 1 0))),(5,.v (.one (.ptr 2 0))),(7,.v (.one (.i .i64 0))),(8,.v (.one (.ref 47))),(9,.v (.one (.i .i64 0)))] [(86,[some (.ref 42)]),(35,[some (.i .i64 0),some (.b false),some (.sl0),some (.sl0),some (.b false),some (.sl0),some (.sl0),some (.b false),some (.sl0),some (.sl0),some (.b false),some (.sl0),some (.sl0),some (.b false),some (.sl0),some (.sl0),some (.b false),some (.sl0),some (.sl0),some (.b false),some (.sl0),some (.sl0)]),(35,[some (.i .i64 0),some (.b false),some (.sl0),some (.sl0),some (.b false),some (.sl0),some (.sl0),some (.b false),some (.sl0),some (.sl0),some (.b false),some (.sl0),some (.sl0),some (.b false),some (.sl0),some (.sl0),some (.b false),some (.sl0),some (.sl0),some (.b false),some (.sl0),some (.sl0)])]
def iP:MS:=cM 108 [(0,.v (.one (.ptr 0 0))),(1,.v (.one (.ref 43))),(4,.v (.one (.ptr 1 0))),(5,.v (.one (.ptr 2 0))),(7,.v (.one (.ref 50))),(8,.v (.one (.ref 47)))] [(86,[some (.ref 42)]),(35,[some (.i .i64 0),some (.b false),some (.sl0),some (.sl0),some (.b false),some (.sl0),some (.sl0),some (.b false),some (.sl0),some (.sl0),some (.b false),some (.sl0),some (.sl0),some (.b false),some (.sl0),some (.sl0),some (.b false),some (.sl0),some (.sl0),some (.b false),some (.sl0),some (.sl0)]),(35,[some (.i .i64 0),some (.b false),some (.sl0),some (.sl0),some (.b false),some (.sl0),some (.sl0),some (.b false),some (.sl0),some (.sl0),some (.b false),some (.sl0),some (.sl0),some (.b false),some (.sl0),some (.sl0),some (.b false),some (.sl0),some (.sl0),some (.b false),some (.sl0),some (.sl0)])]
def iQ:MS:=cM 108 [(0,.v (.one (.ptr 0 0))),(1,.v (.one (.ref 43))),(4,.v (.one (.ptr 1 0))),(5,.v (.one (.ptr 2 0))),(7,.v (.one (.ref 50))),(8,.v (.one (.ref 47))),(10,.v (.one (.ref 47)))] [(86,[some (.ref 42)]),(35,[some (.i .i64 0),some (.b false),some (.sl0),some (.sl0),some (.b false),some (.sl0),some (.sl0),some (.b false),some (.sl0),some (.sl0),some (.b false),some (.sl0),some (.sl0),some (.b false),some (.sl0),some (.sl0),some (.b false),some (.sl0),some (.sl0),some (.b false),some (.sl0),some (.sl0)]),(35,[some (.i .i64 0),some (.b false),some (.sl0),some (.sl0),some (.b false),some (.sl0),some (.sl0),some (.b false),some (.sl0),some (.sl0),some (.b false),some (.sl0),some (.sl0),some (.b false),some (.sl0),some (.sl0),some (.b false),some (.sl0),some (.sl0),some (.b false),some (.sl0),some (.sl0)])]
def iR:MS:=cM 108 [(0,.v (.one (.ptr 0 0))),(1,.v (.one (.ref 43))),(4,.v (.one (.ptr 1 0))),(5,.v (.one (.ptr 2 0))),(7,.v (.one (.ref 50))),(8,.v (.one (.ref 51)))] [(86,[some (.ref 42)]),(35,[some (.i .i64 0),some (.b false),some (.sl0),some (.sl0),some (.b false),some (.sl0),some (.sl0),some (.b false),some (.sl0),some (.sl0),some (.b false),some (.sl0),some (.sl0),some (.b false),some (.sl0),some (.sl0),some (.b false),some (.sl0),some (.sl0),some (.b false),some (.sl0),some (.sl0)]),(35,[some (.i .i64 0),some (.b false),some (.sl0),some (.sl0),some (.b false),some (.sl0),some (.sl0),some (.b false),some (.sl0),some (.sl0),some (.b false),some (.sl0),some (.sl0),some (.b false),some (.sl0),some (.sl0),some (.b false),some (.sl0),some (.sl0),some (.b false),some (.sl0),some (.sl0)])]
def cj (S:List St) (a:Int) (f:St) (l:St) (y:St) (z:St):List Fq:=(z.pose.cs++(y.pose.cs))
theorem pm {w:World} {g:Nat} {sl:Value} (S:List St) (a:Int) (h:TrkS 86 w g sl S) (hS:S.length≤64) (so:dO S) (f:St) (hf:S[0]? =some f) (hb:f.tm≤a) (l:St) (hl:S[S.length - 1]? =some l) (hn:0<S.length) (ha:a≤l.tm) (y:St) (hy:S[plN S a]? =some y) (ey:a<y.tm) (hp:plN S a<S.length) (h0:0<plN S a) (eq1:plN S (a+1)=plN S a) (z:St) (hz:S[plN S a - 1]? =some z):
  Calls Tryz.prog 30 (.pointer (some ⟨g,0,none⟩)::[.int .i64 a]).toArray w fun e w'=>∃v0 v1:Value,e= .returned (.tuple #[v0,v1,.int .i64 0])∧ce w' v0 z∧ce w' v1 y∧Below w.heap.size w w':=by
 have hz1:S[plN S (a+1) - 1]? =some z:=by rw[eq1];exact hz
 have hL0:LOb.Ok Tryz.prog (frs (cj S a f l y z)++(([.rowB true sl stT S.length (az S),.val (.int .i64 a),.val (.int .i64 (S.length:Int)),.plc stT f.qs,.val (.int .i64 f.tm),.val (.int .i64 ((S.length:Int) - 1)),.plc stT l.qs,.val (.int .i64 l.tm)]:List Vp)++(([.val (.int .i64 ((plN S (a+1) - 1:Nat):Int))]:List Vp)++(([.val (.int .i64 ((plN S a:Nat):Int)),.plc stT z.qs,.val (.int .i64 z.tm),.plc stT y.qs,.val (.int .i64 y.tm)]:List Vp))))) (gO w g) 108 ⟨bk Tryz.f30 0,iO,.ext 0,iP⟩:=by
  refine bx S.length (fun k=>frs (cj S a f l y z)++(([.rowB true sl stT S.length (az S),.val (.int .i64 a),.val (.int .i64 (S.length:Int)),.plc stT f.qs,.val (.int .i64 f.tm),.val (.int .i64 ((S.length:Int) - 1)),.plc stT l.qs,.val (.int .i64 l.tm)]:List Vp)++(([.val (.int .i64 ((k:Nat):Int)),.val (.int .i64 ((min (k) (plN S (a+1)) - 1:Nat):Int))]:List Vp)))) (fun _=>cM 108 [(0,.v (.one (.ptr 0 0))),(1,.v (.one (.ref 43))),(4,.v (.one (.ptr 1 0))),(5,.v (.one (.ptr 2 0))),(7,.v (.one (.ref 51))),(8,.v (.one (.ref 47))),(9,.v (.one (.ref 50)))] [(86,[some (.ref 42)]),(35,[some (.i .i64 0),some (.b false),some (.sl0),some (.sl0),some (.b false),some (.sl0),some (.sl0),some (.b false),some (.sl0),some (.sl0),some (.b false),some (.sl0),some (.sl0),some (.b false),some (.sl0),some (.sl0),some (.b false),some (.sl0),some (.sl0),some (.b false),some (.sl0),some (.sl0)]),(35,[some (.i .i64 0),some (.b false),some (.sl0),some (.sl0),some (.b false),some (.sl0),some (.sl0),some (.b false),some (.sl0),some (.sl0),some (.b false),some (.sl0),some (.sl0),some (.b false),some (.sl0),some (.sl0),some (.b false),some (.sl0),some (.sl0),some (.b false),some (.sl0),some (.sl0)])]) ?_ ?_ ?_ (by decide) (Nat.le_add_left 1 _)
  ·intro a_ w_ h_
   exact MSt.conv (N:=50) (σ:=[(50,.i .i64 0),(51,.i .i64 0)]) (cmP (by kernel_rfl)) (aD (sgi (n:=50) (u:=0) (v:=((0:Nat):Int)) rfl (aF (c:=0)) (by omega)) (aD (sgi (n:=51) (u:=0) (v:=((min (0) (plN S (a+1)) - 1:Nat):Int)) rfl (aF (c:=0)) (by omega)) aP)) (by kernel_rfl) h_ (Nat.le_add_left 1 _)
  ·intro k hk
   rcases Nat.lt_or_ge k (plN S (a+1))with hq | hq
   ·obtain⟨x,hx,hlt⟩:=dl hq
    refine aV (N:=52) (ρx:=frs (cj S a f l y z)++(([.rowB true sl stT S.length (az S),.val (.int .i64 a),.val (.int .i64 (S.length:Int)),.plc stT f.qs,.val (.int .i64 f.tm),.val (.int .i64 ((S.length:Int) - 1)),.plc stT l.qs,.val (.int .i64 l.tm)]:List Vp)++(([.val (.int .i64 ((k:Nat):Int)),.val (.int .i64 ((min (k) (plN S (a+1)) - 1:Nat):Int))]:List Vp)++(([.plc stT x.qs,.val (.int .i64 x.tm),.val (.int .i64 (((k:Nat):Int)+1))]:List Vp))))) (cmX (by kernel_rfl)) (by kernel_rfl) (Nat.le_add_left 1 _) ?_
    exact aR (N:=50) (σ:=[(50,.ref 54),(51,.ref 50)]) (lo:=[]) (n:=300) (ai)
     (ae (bW 42 44 rfl rfl) (ae (aw (t:=3) (ah (n:=50) rfl) (ah (n:=44) rfl) (aL (by omega))) (ae (iaB (n:=42) (m:=52) rfl rfl (aU (ah (n:=50) rfl) (by omega)) hx) (ae (fa0 x 52 rfl) (ae (ldt x 52 53 rfl rfl) (ae (aw (t:=3) (ah (n:=53) rfl) (ah (n:=43) rfl) (cW (by omega))) (ae (cS (m:=54) (t:=3) (ah (n:=50) rfl) (aF (c:=1)) rfl rfl (by omega) (by omega)) (aj))))))))
     (by kernel_rfl) (obs:=[]) (by kernel_rfl) aC (cmP (by kernel_rfl)) (aD (sgi (n:=50) (u:=(((k:Nat):Int)+1)) (v:=((k+1:Nat):Int)) rfl (ah (n:=54) rfl) (by omega)) (aD (sgi (n:=51) (u:=((k:Nat):Int)) (v:=((min (k+1) (plN S (a+1)) - 1:Nat):Int)) rfl (ah (n:=50) rfl) (by omega)) aP)) (Nat.le_add_left 1 _)
   ·obtain⟨x,hx⟩:∃x,S[k]? =some x:=⟨_,List.getElem?_eq_getElem hk⟩
    have hge:=fc so hq hx
    refine aV (N:=52) (ρx:=frs (cj S a f l y z)++(([.rowB true sl stT S.length (az S),.val (.int .i64 a),.val (.int .i64 (S.length:Int)),.plc stT f.qs,.val (.int .i64 f.tm),.val (.int .i64 ((S.length:Int) - 1)),.plc stT l.qs,.val (.int .i64 l.tm)]:List Vp)++(([.val (.int .i64 ((k:Nat):Int)),.val (.int .i64 ((min (k) (plN S (a+1)) - 1:Nat):Int))]:List Vp)++(([.plc stT x.qs,.val (.int .i64 x.tm),.val (.int .i64 (((k:Nat):Int)+1))]:List Vp))))) (cmX (by kernel_rfl)) (by kernel_rfl) (Nat.le_add_left 1 _) ?_
    exact aR (N:=50) (σ:=[(50,.ref 54),(51,.ref 51)]) (lo:=[]) (n:=300) (ai)
     (ae (bW 42 44 rfl rfl) (ae (aw (t:=3) (ah (n:=50) rfl) (ah (n:=44) rfl) (aL (by omega))) (ae (iaB (n:=42) (m:=52) rfl rfl (aU (ah (n:=50) rfl) (by omega)) hx) (ae (fa0 x 52 rfl) (ae (ldt x 52 53 rfl rfl) (ae (aw (t:=3) (ah (n:=53) rfl) (ah (n:=43) rfl) (eE (by omega))) (ae (cS (m:=54) (t:=3) (ah (n:=50) rfl) (aF (c:=1)) rfl rfl (by omega) (by omega)) (aj))))))))
     (by kernel_rfl) (obs:=[]) (by kernel_rfl) aC (cmP (by kernel_rfl)) (aD (sgi (n:=50) (u:=(((k:Nat):Int)+1)) (v:=((k+1:Nat):Int)) rfl (ah (n:=54) rfl) (by omega)) (aD (sgi (n:=51) (u:=((min (k) (plN S (a+1)) - 1:Nat):Int)) (v:=((min (k+1) (plN S (a+1)) - 1:Nat):Int)) rfl (ah (n:=51) rfl) (by omega)) aP)) (Nat.le_add_left 1 _)
  ·have hle1:=a9 S (a+1)
   refine aV (N:=52) (ρx:=frs (cj S a f l y z)++(([.rowB true sl stT S.length (az S),.val (.int .i64 a),.val (.int .i64 (S.length:Int)),.plc stT f.qs,.val (.int .i64 f.tm),.val (.int .i64 ((S.length:Int) - 1)),.plc stT l.qs,.val (.int .i64 l.tm)]:List Vp)++(([.val (.int .i64 ((S.length:Nat):Int)),.val (.int .i64 ((min (S.length) (plN S (a+1)) - 1:Nat):Int))]:List Vp)++(([]:List Vp))))) (cmX (by kernel_rfl)) (by kernel_rfl) (Nat.le_add_left 1 _) ?_
   exact aR (N:=50) (σ:=[(50,.ref 51)]) (lo:=[]) (n:=300) (ai)
    (ae (bW 42 44 rfl rfl) (ae (aw (t:=3) (ah (n:=50) rfl) (ah (n:=44) rfl) (aK (by omega))) (aj)))
    (by kernel_rfl) (obs:=[]) (by kernel_rfl) aC (cmP (by kernel_rfl)) (aD (sgi (n:=50) (u:=((min (S.length) (plN S (a+1)) - 1:Nat):Int)) (v:=((plN S (a+1) - 1:Nat):Int)) rfl (ah (n:=51) rfl) (by omega)) aP) (Nat.le_add_left 1 _)
 have hL1:LOb.Ok Tryz.prog (frs (cj S a f l y z)++(([.rowB true sl stT S.length (az S),.val (.int .i64 a),.val (.int .i64 (S.length:Int)),.plc stT f.qs,.val (.int .i64 f.tm),.val (.int .i64 ((S.length:Int) - 1)),.plc stT l.qs,.val (.int .i64 l.tm)]:List Vp)++(([.val (.int .i64 ((plN S (a+1) - 1:Nat):Int))]:List Vp)++(([.val (.int .i64 ((plN S a:Nat):Int)),.plc stT z.qs,.val (.int .i64 z.tm),.plc stT y.qs,.val (.int .i64 y.tm)]:List Vp))))) (gO w g) 108 ⟨bk Tryz.f30 1,iQ,.ext 2,iR⟩:=by
  refine bx S.length (fun k=>frs (cj S a f l y z)++(([.rowB true sl stT S.length (az S),.val (.int .i64 a),.val (.int .i64 (S.length:Int)),.plc stT f.qs,.val (.int .i64 f.tm),.val (.int .i64 ((S.length:Int) - 1)),.plc stT l.qs,.val (.int .i64 l.tm)]:List Vp)++(([.val (.int .i64 ((plN S (a+1) - 1:Nat):Int))]:List Vp)++(([.val (.int .i64 ((S.length:Int) - 1 - ((k:Nat):Int))),.val (.int .i64 ((min (S.length - 1) (max (S.length - (k)) (plN S a)):Nat):Int))]:List Vp))))) (fun _=>cM 108 [(0,.v (.one (.ptr 0 0))),(1,.v (.one (.ref 43))),(4,.v (.one (.ptr 1 0))),(5,.v (.one (.ptr 2 0))),(7,.v (.one (.ref 50))),(8,.v (.one (.ref 52))),(10,.v (.one (.ref 51)))] [(86,[some (.ref 42)]),(35,[some (.i .i64 0),some (.b false),some (.sl0),some (.sl0),some (.b false),some (.sl0),some (.sl0),some (.b false),some (.sl0),some (.sl0),some (.b false),some (.sl0),some (.sl0),some (.b false),some (.sl0),some (.sl0),some (.b false),some (.sl0),some (.sl0),some (.b false),some (.sl0),some (.sl0)]),(35,[some (.i .i64 0),some (.b false),some (.sl0),some (.sl0),some (.b false),some (.sl0),some (.sl0),some (.b false),some (.sl0),some (.sl0),some (.b false),some (.sl0),some (.sl0),some (.b false),some (.sl0),some (.sl0),some (.b false),some (.sl0),some (.sl0),some (.b false),some (.sl0),some (.sl0)])]) ?_ ?_ ?_ (by decide) (Nat.le_add_left 1 _)
  ·intro a_ w_ h_
   exact MSt.conv (N:=51) (σ:=[(51,.ref 47),(52,.ref 47)]) (l9 (by kernel_rfl)) (aD (sgi (n:=51) (u:=((S.length:Int) - 1)) (v:=((S.length:Int) - 1 - ((0:Nat):Int))) rfl (ah (n:=47) rfl) (by omega)) (aD (sgi (n:=52) (u:=((S.length:Int) - 1)) (v:=((min (S.length - 1) (max (S.length - (0)) (plN S a)):Nat):Int)) rfl (ah (n:=47) rfl) (by omega)) aP)) (by kernel_rfl) h_ (Nat.le_add_left 1 _)
  ·intro k hk
   rcases Nat.lt_or_ge (S.length - 1 - k) (plN S a)with hq | hq
   ·obtain⟨x,hx,hlt⟩:=dl hq
    refine aV (N:=53) (ρx:=frs (cj S a f l y z)++(([.rowB true sl stT S.length (az S),.val (.int .i64 a),.val (.int .i64 (S.length:Int)),.plc stT f.qs,.val (.int .i64 f.tm),.val (.int .i64 ((S.length:Int) - 1)),.plc stT l.qs,.val (.int .i64 l.tm)]:List Vp)++(([.val (.int .i64 ((plN S (a+1) - 1:Nat):Int))]:List Vp)++(([.val (.int .i64 ((S.length:Int) - 1 - ((k:Nat):Int))),.val (.int .i64 ((min (S.length - 1) (max (S.length - (k)) (plN S a)):Nat):Int))]:List Vp)++(([.plc stT x.qs,.val (.int .i64 x.tm),.val (.int .i64 (((S.length:Int) - 1 - ((k:Nat):Int)) - 1))]:List Vp)))))) (pf (by kernel_rfl)) (by kernel_rfl) (Nat.le_add_left 1 _) ?_
    exact aR (N:=51) (σ:=[(51,.ref 55),(52,.ref 52)]) (lo:=[]) (n:=300) (ai)
     (ae (aw (t:=3) (ah (n:=51) rfl) (aF (c:=0)) (g8 (by omega))) (ae (iaB (n:=42) (m:=53) rfl rfl (aU (ah (n:=51) rfl) (by omega)) hx) (ae (fa0 x 53 rfl) (ae (ldt x 53 54 rfl rfl) (ae (aw (t:=3) (ah (n:=54) rfl) (ah (n:=43) rfl) (l7 (by omega))) (ae (bQ (m:=55) (t:=3) (ah (n:=51) rfl) (aF (c:=1)) rfl rfl (by omega) (by omega)) (aj)))))))
     (by kernel_rfl) (obs:=[]) (by kernel_rfl) aC (l9 (by kernel_rfl)) (aD (sgi (n:=51) (u:=(((S.length:Int) - 1 - ((k:Nat):Int)) - 1)) (v:=((S.length:Int) - 1 - ((k+1:Nat):Int))) rfl (ah (n:=55) rfl) (by omega)) (aD (sgi (n:=52) (u:=((min (S.length - 1) (max (S.length - (k)) (plN S a)):Nat):Int)) (v:=((min (S.length - 1) (max (S.length - (k+1)) (plN S a)):Nat):Int)) rfl (ah (n:=52) rfl) (by omega)) aP)) (Nat.le_add_left 1 _)
   ·obtain⟨x,hx⟩:∃x,S[S.length - 1 - k]? =some x:=⟨_,List.getElem?_eq_getElem (by omega)⟩
    have hge:=fc so hq hx
    refine aV (N:=53) (ρx:=frs (cj S a f l y z)++(([.rowB true sl stT S.length (az S),.val (.int .i64 a),.val (.int .i64 (S.length:Int)),.plc stT f.qs,.val (.int .i64 f.tm),.val (.int .i64 ((S.length:Int) - 1)),.plc stT l.qs,.val (.int .i64 l.tm)]:List Vp)++(([.val (.int .i64 ((plN S (a+1) - 1:Nat):Int))]:List Vp)++(([.val (.int .i64 ((S.length:Int) - 1 - ((k:Nat):Int))),.val (.int .i64 ((min (S.length - 1) (max (S.length - (k)) (plN S a)):Nat):Int))]:List Vp)++(([.plc stT x.qs,.val (.int .i64 x.tm),.val (.int .i64 (((S.length:Int) - 1 - ((k:Nat):Int)) - 1))]:List Vp)))))) (pf (by kernel_rfl)) (by kernel_rfl) (Nat.le_add_left 1 _) ?_
    exact aR (N:=51) (σ:=[(51,.ref 55),(52,.ref 51)]) (lo:=[]) (n:=300) (ai)
     (ae (aw (t:=3) (ah (n:=51) rfl) (aF (c:=0)) (g8 (by omega))) (ae (iaB (n:=42) (m:=53) rfl rfl (aU (ah (n:=51) rfl) (by omega)) hx) (ae (fa0 x 53 rfl) (ae (ldt x 53 54 rfl rfl) (ae (aw (t:=3) (ah (n:=54) rfl) (ah (n:=43) rfl) (g8 (by omega))) (ae (bQ (m:=55) (t:=3) (ah (n:=51) rfl) (aF (c:=1)) rfl rfl (by omega) (by omega)) (aj)))))))
     (by kernel_rfl) (obs:=[]) (by kernel_rfl) aC (l9 (by kernel_rfl)) (aD (sgi (n:=51) (u:=(((S.length:Int) - 1 - ((k:Nat):Int)) - 1)) (v:=((S.length:Int) - 1 - ((k+1:Nat):Int))) rfl (ah (n:=55) rfl) (by omega)) (aD (sgi (n:=52) (u:=((S.length:Int) - 1 - ((k:Nat):Int))) (v:=((min (S.length - 1) (max (S.length - (k+1)) (plN S a)):Nat):Int)) rfl (ah (n:=51) rfl) (by omega)) aP)) (Nat.le_add_left 1 _)
  ·refine aV (N:=53) (ρx:=frs (cj S a f l y z)++(([.rowB true sl stT S.length (az S),.val (.int .i64 a),.val (.int .i64 (S.length:Int)),.plc stT f.qs,.val (.int .i64 f.tm),.val (.int .i64 ((S.length:Int) - 1)),.plc stT l.qs,.val (.int .i64 l.tm)]:List Vp)++(([.val (.int .i64 ((plN S (a+1) - 1:Nat):Int))]:List Vp)++(([.val (.int .i64 ((S.length:Int) - 1 - ((S.length:Nat):Int))),.val (.int .i64 ((min (S.length - 1) (max (S.length - (S.length)) (plN S a)):Nat):Int))]:List Vp)++(([]:List Vp)))))) (pf (by kernel_rfl)) (by kernel_rfl) (Nat.le_add_left 1 _) ?_
   exact aR (N:=51) (σ:=[(51,.ref 52)]) (lo:=[]) (n:=300) (ai)
    (ae (aw (t:=3) (ah (n:=51) rfl) (aF (c:=0)) (l7 (by omega))) (aj))
    (by kernel_rfl) (obs:=[]) (by kernel_rfl) aC (l9 (by kernel_rfl)) (aD (sgi (n:=51) (u:=((min (S.length - 1) (max (S.length - (S.length)) (plN S a)):Nat):Int)) (v:=((plN S a:Nat):Int)) rfl (ah (n:=52) rfl) (by omega)) aP) (Nat.le_add_left 1 _)
 refine(aG (ρ:=frs (cj S a f l y z)++(([.rowB true sl stT S.length (az S),.val (.int .i64 a),.val (.int .i64 (S.length:Int)),.plc stT f.qs,.val (.int .i64 f.tm),.val (.int .i64 ((S.length:Int) - 1)),.plc stT l.qs,.val (.int .i64 l.tm)]:List Vp)++(([.val (.int .i64 ((plN S (a+1) - 1:Nat):Int))]:List Vp)++(([.val (.int .i64 ((plN S a:Nat):Int)),.plc stT z.qs,.val (.int .i64 z.tm),.plc stT y.qs,.val (.int .i64 y.tm)]:List Vp))))) (w:=w) (fuel:=300) (m:=42) (S':=S) (args:=[.one (.ptr 0 0),.one (.ref 43)]) (vs:=[.pointer (some ⟨g,0,none⟩),.int .i64 a]) (r:=.tup [.agg (.ref 53::bd [0,1,2,3,4,5,6]),.agg (.ref 55::bd [7,8,9,10,11,12,13]),.one (.i .i64 0)]) (l:=.ref 42) (lo:=[some (iO,.ext 0,iP),some (iQ,.ext 2,iR)]) (obs:=[⟨bk Tryz.f30 0,iO,.ext 0,iP⟩,⟨bk Tryz.f30 1,iQ,.ext 2,iR⟩]) h
  (ai)
  (ae (bW 42 44 rfl rfl) (ae (aw (t:=3) (ah (n:=44) rfl) (aF (c:=0)) (a8 (by omega))) (ae (iaB (n:=42) (m:=45) rfl rfl (aU (aF (c:=0)) (by omega)) hf) (ae (fa0 f 45 rfl) (ae (ldt f 45 46 rfl rfl) (ae (aw (t:=3) (ah (n:=43) rfl) (ah (n:=46) rfl) (aK (by omega))) (ae (bQ (m:=47) (t:=3) (ah (n:=44) rfl) (aF (c:=1)) rfl rfl (by omega) (by omega)) (ae (iaB (n:=42) (m:=48) rfl rfl (aU (ah (n:=47) rfl) (by omega)) hl) (ae (fa0 l 48 rfl) (ae (ldt l 48 49 rfl rfl) (ae (aw (t:=3) (ah (n:=43) rfl) (ah (n:=49) rfl) (aQ (by omega))) (ae (iaB (n:=42) (m:=52) rfl rfl (aU (ah (n:=50) rfl) (by omega)) hz1) (ae (rN z 52 53 [0,1,2,3,4,5,6] rfl rfl ⟨rfl,rfl,rfl,rfl,rfl,rfl,rfl,trivial⟩) (ae (iaB (n:=42) (m:=54) rfl rfl (aU (ah (n:=51) rfl) (by omega)) hy) (ae (rN y 54 55 [7,8,9,10,11,12,13] rfl rfl ⟨rfl,rfl,rfl,rfl,rfl,rfl,rfl,trivial⟩) (aj)))))))))))))))) Tryz.func30 rfl (by kernel_rfl) (bI hL0 (bI hL1 aC)) ⟨bE,⟨aH (n:=43) rfl aE,trivial⟩⟩ (cf rfl)).mono ?_
 rintro e w' ⟨v,B',rfl,⟨vs,rfl,h1⟩,h2,h3⟩
 match vs,h1 with
 | [x1,x2,x3],h1=>
  have ex3:x3= .int .i64 0:=h1.2.2.1
  subst ex3
  exact⟨x1,x2,rfl,((bc (n:=53) (ks:=[0,1,2,3,4,5,6]) (s:=z) rfl ⟨rfl,rfl,rfl,rfl,rfl,rfl,rfl,trivial⟩).1 h1.1),((bc (n:=55) (ks:=[7,8,9,10,11,12,13]) (s:=y) rfl ⟨rfl,rfl,rfl,rfl,rfl,rfl,rfl,trivial⟩).1 h1.2.1),h3 rfl⟩
theorem wQ {xs:List Fq} {ys:Rho} {u:Nat} {l la:Leaf} {S:List St} {a:Int} (tl:go (frs xs++ys) u 86 l S) (ka:KI (frs xs++ys) la .i64 a) {n0 n1:Nat} {k0 k1:List Nat} (a0:(frs xs++ys)[n0]? =some (.val (.int .i64 zst.tm))) (b0:AtL xs k0 zst.pose.cs) (a1:(frs xs++ys)[n1]? =some (.val (.int .i64 zst.tm))) (b1:AtL xs k1 zst.pose.cs) (hS:S.length≤64) (so:dO S) (hS0:S.length=0) {r:SV}:(OIns.mk (.mut 30 ⟨[],[(u,86,[l])],[],none,[],[.agg (.ref n0::bd k0),.agg (.ref n1::bd k1),.one (.i .i64 6)]⟩) [.one (.ptr u 0),.one la] r).Ok Tryz.prog (frs xs++ys):=
 bV (args:=[.one la]) (aA Tryz.func30 rfl rfl) tl (fun B w g sl vs _ ht hv=>by
  match vs,hv with
  | [v],hv=>
   have e:=ka _ _ _ hv.1
   subst e
   refine(pk S _ ht hS so hS0).mono ?_
   rintro e w' ⟨v1,v2,rfl,j1,j2,h2⟩
   exact⟨_,rfl,fun B' _=>⟨[_,_,.int .i64 6],rfl,(bc a0 b0).2 j1,(bc a1 b1).2 j2,rfl,trivial⟩,h2⟩)
theorem t9 {xs:List Fq} {ys:Rho} {u:Nat} {l la:Leaf} {S:List St} {a:Int} (tl:go (frs xs++ys) u 86 l S) (ka:KI (frs xs++ys) la .i64 a) {n0 n1:Nat} {k0 k1:List Nat} (a0:(frs xs++ys)[n0]? =some (.val (.int .i64 zst.tm))) (b0:AtL xs k0 zst.pose.cs) (a1:(frs xs++ys)[n1]? =some (.val (.int .i64 zst.tm))) (b1:AtL xs k1 zst.pose.cs) (hS:S.length≤64) (so:dO S) (f:St) (hf:S[0]? =some f) (hn:0<S.length) (ha:a<f.tm) {r:SV}:(OIns.mk (.mut 30 ⟨[],[(u,86,[l])],[],none,[],[.agg (.ref n0::bd k0),.agg (.ref n1::bd k1),.one (.i .i64 17)]⟩) [.one (.ptr u 0),.one la] r).Ok Tryz.prog (frs xs++ys):=
 bV (args:=[.one la]) (aA Tryz.func30 rfl rfl) tl (fun B w g sl vs _ ht hv=>by
  match vs,hv with
  | [v],hv=>
   have e:=ka _ _ _ hv.1
   subst e
   refine(nj S _ ht hS so f hf hn ha).mono ?_
   rintro e w' ⟨v1,v2,rfl,j1,j2,h2⟩
   exact⟨_,rfl,fun B' _=>⟨[_,_,.int .i64 17],rfl,(bc a0 b0).2 j1,(bc a1 b1).2 j2,rfl,trivial⟩,h2⟩)
theorem ua {xs:List Fq} {ys:Rho} {u:Nat} {l la:Leaf} {S:List St} {a:Int} (tl:go (frs xs++ys) u 86 l S) (ka:KI (frs xs++ys) la .i64 a) {n0 n1:Nat} {k0 k1:List Nat} (a0:(frs xs++ys)[n0]? =some (.val (.int .i64 zst.tm))) (b0:AtL xs k0 zst.pose.cs) (a1:(frs xs++ys)[n1]? =some (.val (.int .i64 zst.tm))) (b1:AtL xs k1 zst.pose.cs) (hS:S.length≤64) (so:dO S) (f:St) (hf:S[0]? =some f) (hb:f.tm≤a) (l_:St) (hl:S[S.length - 1]? =some l_) (hn:0<S.length) (ha:l_.tm<a) {r:SV}:(OIns.mk (.mut 30 ⟨[],[(u,86,[l])],[],none,[],[.agg (.ref n0::bd k0),.agg (.ref n1::bd k1),.one (.i .i64 17)]⟩) [.one (.ptr u 0),.one la] r).Ok Tryz.prog (frs xs++ys):=
 bV (args:=[.one la]) (aA Tryz.func30 rfl rfl) tl (fun B w g sl vs _ ht hv=>by
  match vs,hv with
  | [v],hv=>
   have e:=ka _ _ _ hv.1
   subst e
   refine(nm S _ ht hS so f hf hb l_ hl hn ha).mono ?_
   rintro e w' ⟨v1,v2,rfl,j1,j2,h2⟩
   exact⟨_,rfl,fun B' _=>⟨[_,_,.int .i64 17],rfl,(bc a0 b0).2 j1,(bc a1 b1).2 j2,rfl,trivial⟩,h2⟩)
theorem wR {xs:List Fq} {ys:Rho} {u:Nat} {l la:Leaf} {S:List St} {a:Int} {y:St} (tl:go (frs xs++ys) u 86 l S) (ka:KI (frs xs++ys) la .i64 a) {n0 n1:Nat} {k0 k1:List Nat} (a0:(frs xs++ys)[n0]? =some (.val (.int .i64 y.tm))) (b0:AtL xs k0 y.pose.cs) (a1:(frs xs++ys)[n1]? =some (.val (.int .i64 y.tm))) (b1:AtL xs k1 y.pose.cs) (hS:S.length≤64) (so:dO S) (f:St) (hf:S[0]? =some f) (hb:f.tm≤a) (l_:St) (hl:S[S.length - 1]? =some l_) (hn:0<S.length) (ha:a≤l_.tm) (hy:S[plN S a]? =some y) (ey:y.tm=a) (hp:plN S a<S.length) (eq1:plN S (a+1)=plN S a+1) {r:SV}:(OIns.mk (.mut 30 ⟨[],[(u,86,[l])],[],none,[],[.agg (.ref n0::bd k0),.agg (.ref n1::bd k1),.one (.i .i64 0)]⟩) [.one (.ptr u 0),.one la] r).Ok Tryz.prog (frs xs++ys):=
 bV (args:=[.one la]) (aA Tryz.func30 rfl rfl) tl (fun B w g sl vs _ ht hv=>by
  match vs,hv with
  | [v],hv=>
   have e:=ka _ _ _ hv.1
   subst e
   refine(pl S _ ht hS so f hf hb l_ hl hn ha y hy ey hp eq1).mono ?_
   rintro e w' ⟨v1,v2,rfl,j1,j2,h2⟩
   exact⟨_,rfl,fun B' _=>⟨[_,_,.int .i64 0],rfl,(bc a0 b0).2 j1,(bc a1 b1).2 j2,rfl,trivial⟩,h2⟩)
theorem wS {xs:List Fq} {ys:Rho} {u:Nat} {l la:Leaf} {S:List St} {a:Int} {y:St} {z:St} (tl:go (frs xs++ys) u 86 l S) (ka:KI (frs xs++ys) la .i64 a) {n0 n1:Nat} {k0 k1:List Nat} (a0:(frs xs++ys)[n0]? =some (.val (.int .i64 z.tm))) (b0:AtL xs k0 z.pose.cs) (a1:(frs xs++ys)[n1]? =some (.val (.int .i64 y.tm))) (b1:AtL xs k1 y.pose.cs) (hS:S.length≤64) (so:dO S) (f:St) (hf:S[0]? =some f) (hb:f.tm≤a) (l_:St) (hl:S[S.length - 1]? =some l_) (hn:0<S.length) (ha:a≤l_.tm) (hy:S[plN S a]? =some y) (ey:a<y.tm) (hp:plN S a<S.length) (h0:0<plN S a) (eq1:plN S (a+1)=plN S a) (hz:S[plN S a - 1]? =some z) {r:SV}:(OIns.mk (.mut 30 ⟨[],[(u,86,[l])],[],none,[],[.agg (.ref n0::bd k0),.agg (.ref n1::bd k1),.one (.i .i64 0)]⟩) [.one (.ptr u 0),.one la] r).Ok Tryz.prog (frs xs++ys):=
 bV (args:=[.one la]) (aA Tryz.func30 rfl rfl) tl (fun B w g sl vs _ ht hv=>by
  match vs,hv with
  | [v],hv=>
   have e:=ka _ _ _ hv.1
   subst e
   refine(pm S _ ht hS so f hf hb l_ hl hn ha y hy ey hp h0 eq1 z hz).mono ?_
   rintro e w' ⟨v1,v2,rfl,j1,j2,h2⟩
   exact⟨_,rfl,fun B' _=>⟨[_,_,.int .i64 0],rfl,(bc a0 b0).2 j1,(bc a1 b1).2 j2,rfl,trivial⟩,h2⟩)
end Go.Proofs.YtfhinmdhjlmikaaGreat
namespace Go.Proofs.YtfhinmdhjlmikaaGreat
set_option linter.unusedSimpArgs false
set_option linter.unusedVariables false
set_option maxRecDepth 100000
open Go.RowKit
def xq_rAtEX (S:List St) (a:Int):List Fq:=zst.pose.cs
theorem q_rAtE {w:World} {g:Nat} {sl:Value} (S:List St) (a:Int) (h:TrkS 86 w g sl S) (hS:S.length≤64) (so:dO S) (hS0:S.length=0):
  Calls Tryz.prog 31 (.pointer (some ⟨g,0,none⟩)::[.int .i64 a]).toArray w fun e w'=>∃v0:Value,e= .returned (.tuple #[v0,.int .i64 6])∧dt w' v0 Pq.zero∧Below w.heap.size w w':=by
 refine(aG (ρ:=frs (xq_rAtEX S a)++([.rowB true sl stT S.length (az S),.val (.int .i64 a),.val (.int .i64 zst.tm)]:List Vp)) (w:=w) (fuel:=300) (m:=21) (S':=S) (args:=[.one (.ptr 0 0),.one (.ref 22)]) (vs:=[.pointer (some ⟨g,0,none⟩),.int .i64 a]) (r:=.tup [.agg [.b false,.sl0,.sl0,.b false,.sl0,.sl0,.b false,.sl0,.sl0,.b false,.sl0,.sl0,.b false,.sl0,.sl0,.b false,.sl0,.sl0,.b false,.sl0,.sl0],.one (.i .i64 6)]) (l:=.ref 21) (lo:=[]) (obs:=[]) h
  (ai)
  (ae (wQ (u:=0) (l:=.ref 21) (kU (m:=21) rfl) (ah (n:=22) rfl) (n0:=23) (k0:=[0,1,2,3,4,5,6]) (n1:=23) (k1:=[0,1,2,3,4,5,6]) rfl ⟨rfl,rfl,rfl,rfl,rfl,rfl,rfl,trivial⟩ rfl ⟨rfl,rfl,rfl,rfl,rfl,rfl,rfl,trivial⟩ (by omega) so hS0 (r:=.one .sl0)) (aj)) Tryz.func31 rfl (by kernel_rfl) aC ⟨bE,⟨aH (n:=22) rfl aE,trivial⟩⟩ (cf rfl)).mono ?_
 rintro e w' ⟨v,B',rfl,⟨vs,rfl,h1⟩,h2,h3⟩
 match vs,h1 with
 | [x1,x2],h1=>
  have ex2:x2= .int .i64 6:=h1.2.1
  subst ex2
  exact⟨x1,rfl,(by obtain⟨cs,rfl,k1⟩:=h1.1;exact⟨_,rfl,dx (n:=7) k1⟩),h3 rfl⟩
def zZ (S:List St) (a:Int) (f:St):List Fq:=zst.pose.cs
theorem q_rAtO1 {w:World} {g:Nat} {sl:Value} (S:List St) (a:Int) (h:TrkS 86 w g sl S) (hS:S.length≤64) (so:dO S) (f:St) (hf:S[0]? =some f) (hn:0<S.length) (ha:a<f.tm):
  Calls Tryz.prog 31 (.pointer (some ⟨g,0,none⟩)::[.int .i64 a]).toArray w fun e w'=>∃v0:Value,e= .returned (.tuple #[v0,.int .i64 17])∧dt w' v0 Pq.zero∧Below w.heap.size w w':=by
 refine(aG (ρ:=frs (zZ S a f)++([.rowB true sl stT S.length (az S),.val (.int .i64 a),.val (.int .i64 zst.tm)]:List Vp)) (w:=w) (fuel:=300) (m:=21) (S':=S) (args:=[.one (.ptr 0 0),.one (.ref 22)]) (vs:=[.pointer (some ⟨g,0,none⟩),.int .i64 a]) (r:=.tup [.agg [.b false,.sl0,.sl0,.b false,.sl0,.sl0,.b false,.sl0,.sl0,.b false,.sl0,.sl0,.b false,.sl0,.sl0,.b false,.sl0,.sl0,.b false,.sl0,.sl0],.one (.i .i64 17)]) (l:=.ref 21) (lo:=[]) (obs:=[]) h
  (ai)
  (ae (t9 (u:=0) (l:=.ref 21) (kU (m:=21) rfl) (ah (n:=22) rfl) (n0:=23) (k0:=[0,1,2,3,4,5,6]) (n1:=23) (k1:=[0,1,2,3,4,5,6]) rfl ⟨rfl,rfl,rfl,rfl,rfl,rfl,rfl,trivial⟩ rfl ⟨rfl,rfl,rfl,rfl,rfl,rfl,rfl,trivial⟩ (by omega) so f hf hn ha (r:=.one .sl0)) (aj)) Tryz.func31 rfl (by kernel_rfl) aC ⟨bE,⟨aH (n:=22) rfl aE,trivial⟩⟩ (cf rfl)).mono ?_
 rintro e w' ⟨v,B',rfl,⟨vs,rfl,h1⟩,h2,h3⟩
 match vs,h1 with
 | [x1,x2],h1=>
  have ex2:x2= .int .i64 17:=h1.2.1
  subst ex2
  exact⟨x1,rfl,(by obtain⟨cs,rfl,k1⟩:=h1.1;exact⟨_,rfl,dx (n:=7) k1⟩),h3 rfl⟩
def z0 (S:List St) (a:Int) (f:St) (l:St):List Fq:=zst.pose.cs
theorem q_rAtO2 {w:World} {g:Nat} {sl:Value} (S:List St) (a:Int) (h:TrkS 86 w g sl S) (hS:S.length≤64) (so:dO S) (f:St) (hf:S[0]? =some f) (hb:f.tm≤a) (l:St) (hl:S[S.length - 1]? =some l) (hn:0<S.length) (ha:l.tm<a):
  Calls Tryz.prog 31 (.pointer (some ⟨g,0,none⟩)::[.int .i64 a]).toArray w fun e w'=>∃v0:Value,e= .returned (.tuple #[v0,.int .i64 17])∧dt w' v0 Pq.zero∧Below w.heap.size w w':=by
 refine(aG (ρ:=frs (z0 S a f l)++([.rowB true sl stT S.length (az S),.val (.int .i64 a),.val (.int .i64 zst.tm)]:List Vp)) (w:=w) (fuel:=300) (m:=21) (S':=S) (args:=[.one (.ptr 0 0),.one (.ref 22)]) (vs:=[.pointer (some ⟨g,0,none⟩),.int .i64 a]) (r:=.tup [.agg [.b false,.sl0,.sl0,.b false,.sl0,.sl0,.b false,.sl0,.sl0,.b false,.sl0,.sl0,.b false,.sl0,.sl0,.b false,.sl0,.sl0,.b false,.sl0,.sl0],.one (.i .i64 17)]) (l:=.ref 21) (lo:=[]) (obs:=[]) h
  (ai)
  (ae (ua (u:=0) (l:=.ref 21) (kU (m:=21) rfl) (ah (n:=22) rfl) (n0:=23) (k0:=[0,1,2,3,4,5,6]) (n1:=23) (k1:=[0,1,2,3,4,5,6]) rfl ⟨rfl,rfl,rfl,rfl,rfl,rfl,rfl,trivial⟩ rfl ⟨rfl,rfl,rfl,rfl,rfl,rfl,rfl,trivial⟩ (by omega) so f hf hb l hl hn ha (r:=.one .sl0)) (aj)) Tryz.func31 rfl (by kernel_rfl) aC ⟨bE,⟨aH (n:=22) rfl aE,trivial⟩⟩ (cf rfl)).mono ?_
 rintro e w' ⟨v,B',rfl,⟨vs,rfl,h1⟩,h2,h3⟩
 match vs,h1 with
 | [x1,x2],h1=>
  have ex2:x2= .int .i64 17:=h1.2.1
  subst ex2
  exact⟨x1,rfl,(by obtain⟨cs,rfl,k1⟩:=h1.1;exact⟨_,rfl,dx (n:=7) k1⟩),h3 rfl⟩
def ub (S:List St) (a:Int) (f:St) (l:St) (y:St):List Fq:=y.pose.cs
theorem q_rAtQ {w:World} {g:Nat} {sl:Value} (S:List St) (a:Int) (h:TrkS 86 w g sl S) (hS:S.length≤64) (so:dO S) (f:St) (hf:S[0]? =some f) (hb:f.tm≤a) (l:St) (hl:S[S.length - 1]? =some l) (hn:0<S.length) (ha:a≤l.tm) (y:St) (hy:S[plN S a]? =some y) (ey:y.tm=a) (hp:plN S a<S.length) (eq1:plN S (a+1)=plN S a+1) (ky:y.pose.ok 2) (gy:y.pose.good):
  Calls Tryz.prog 31 (.pointer (some ⟨g,0,none⟩)::[.int .i64 a]).toArray w fun e w'=>∃v0:Value,e= .returned (.tuple #[v0,.int .i64 0])∧dt w' v0 y.pose∧Below w.heap.size w w':=by
 refine(aG (ρ:=frs (ub S a f l y)++([.rowB true sl stT S.length (az S),.val (.int .i64 a),.val (.int .i64 y.tm)]:List Vp)) (w:=w) (fuel:=300) (m:=21) (S':=S) (args:=[.one (.ptr 0 0),.one (.ref 22)]) (vs:=[.pointer (some ⟨g,0,none⟩),.int .i64 a]) (r:=.tup [row [0,1,2,3,4,5,6],.one (.i .i64 0)]) (l:=.ref 21) (lo:=[]) (obs:=[]) h
  (ai)
  (ae (wR (u:=0) (l:=.ref 21) (kU (m:=21) rfl) (ah (n:=22) rfl) (n0:=23) (k0:=[0,1,2,3,4,5,6]) (n1:=23) (k1:=[0,1,2,3,4,5,6]) rfl ⟨rfl,rfl,rfl,rfl,rfl,rfl,rfl,trivial⟩ rfl ⟨rfl,rfl,rfl,rfl,rfl,rfl,rfl,trivial⟩ (by omega) so f hf hb l hl hn ha hy ey hp eq1 (r:=.one .sl0)) (ae (aw (t:=3) (ah (n:=23) rfl) (ah (n:=23) rfl) (cF (by omega))) (aj))) Tryz.func31 rfl (by kernel_rfl) aC ⟨bE,⟨aH (n:=22) rfl aE,trivial⟩⟩ (cf rfl)).mono ?_
 rintro e w' ⟨v,B',rfl,⟨vs,rfl,h1⟩,h2,h3⟩
 match vs,h1 with
 | [x1,x2],h1=>
  have ex2:x2= .int .i64 0:=h1.2.1
  subst ex2
  exact⟨x1,rfl,((ag (xs:=ub S a f l y) (ks:=[0,1,2,3,4,5,6]) (vs:=y.pose.cs) ⟨rfl,rfl,rfl,rfl,rfl,rfl,rfl,trivial⟩).1 h1.1),h3 rfl⟩
def uc (S:List St) (a:Int) (f:St) (l:St) (y:St) (z:St):List Fq:=(y.pose.cs++(z.pose.cs++([(Fq.ratio (a - z.tm) (y.tm - z.tm))]++((Pq.mk (z.pose.rot.way (z.pose.rot.inv.mul y.pose.rot) (Fq.ratio (a - z.tm) (y.tm - z.tm))) (z.pose.pos.lerp y.pose.pos (Fq.ratio (a - z.tm) (y.tm - z.tm)))).cs))))
theorem q_rAtM {w:World} {g:Nat} {sl:Value} (S:List St) (a:Int) (h:TrkS 86 w g sl S) (hS:S.length≤64) (so:dO S) (f:St) (hf:S[0]? =some f) (hb:f.tm≤a) (l:St) (hl:S[S.length - 1]? =some l) (hn:0<S.length) (ha:a≤l.tm) (y:St) (hy:S[plN S a]? =some y) (ey:a<y.tm) (hp:plN S a<S.length) (h0:0<plN S a) (eq1:plN S (a+1)=plN S a) (z:St) (hz:S[plN S a - 1]? =some z) (ky:y.pose.ok 2) (gy:y.pose.good) (kz:z.pose.ok 2) (gz:z.pose.good) (t0:0≤y.tm) (t1:y.tm≤1099511627776) (t2:0≤z.tm) (t3:z.tm<a) (ow:¬opp z.pose y.pose):
  Calls Tryz.prog 31 (.pointer (some ⟨g,0,none⟩)::[.int .i64 a]).toArray w fun e w'=>∃v0:Value,e= .returned (.tuple #[v0,.int .i64 0])∧dt w' v0 (Pq.mk (z.pose.rot.way (z.pose.rot.inv.mul y.pose.rot) (Fq.ratio (a - z.tm) (y.tm - z.tm))) (z.pose.pos.lerp y.pose.pos (Fq.ratio (a - z.tm) (y.tm - z.tm))))∧Below w.heap.size w w':=by
 refine(aG (ρ:=frs (uc S a f l y z)++([.rowB true sl stT S.length (az S),.val (.int .i64 a),.val (.int .i64 z.tm),.val (.int .i64 y.tm),.val (.int .i64 (a - z.tm)),.val (.int .i64 (y.tm - z.tm))]:List Vp)) (w:=w) (fuel:=300) (m:=66) (S':=S) (args:=[.one (.ptr 0 0),.one (.ref 67)]) (vs:=[.pointer (some ⟨g,0,none⟩),.int .i64 a]) (r:=.tup [row [15,16,17,18,19,20,21],.one (.i .i64 0)]) (l:=.ref 66) (lo:=[]) (obs:=[]) h
  (af (tM (v:=(a - z.tm)) (u:=(y.tm - z.tm)) (k:=14) (ah (n:=70) rfl) (ah (n:=71) rfl) (by omega) (by omega) (by omega) (by omega) (by omega) rfl) (af (tI (ka:=[7,8,9,10,11,12,13]) (a:=z.pose) (kb:=[0,1,2,3,4,5,6]) (b:=y.pose) (im:=14) (kr:=[15,16,17,18,19,20,21]) ⟨rfl,rfl,rfl,rfl,rfl,rfl,rfl,trivial⟩ ⟨rfl,rfl,rfl,rfl,rfl,rfl,rfl,trivial⟩ rfl ⟨rfl,rfl,rfl,rfl,rfl,rfl,rfl,trivial⟩ (kz.mono (by decide)) (ky.mono (by decide)) ((eF (v:=(a - z.tm)) (u:=(y.tm - z.tm)) (by omega) (by omega) (by omega) (by omega) (by omega)).mono (by decide)) gz gy (dM (v:=(a - z.tm)) (u:=(y.tm - z.tm)) (by omega)) ow) ai))
  (ae (wS (u:=0) (l:=.ref 66) (kU (m:=66) rfl) (ah (n:=67) rfl) (n0:=68) (k0:=[7,8,9,10,11,12,13]) (n1:=69) (k1:=[0,1,2,3,4,5,6]) rfl ⟨rfl,rfl,rfl,rfl,rfl,rfl,rfl,trivial⟩ rfl ⟨rfl,rfl,rfl,rfl,rfl,rfl,rfl,trivial⟩ (by omega) so f hf hb l hl hn ha hy ey hp h0 eq1 hz (r:=.one .sl0)) (ae (aw (t:=3) (ah (n:=68) rfl) (ah (n:=69) rfl) (a8 (by omega))) (ae (bQ (m:=70) (t:=3) (ah (n:=67) rfl) (ah (n:=68) rfl) rfl rfl (by omega) (by omega)) (ae (bQ (m:=71) (t:=3) (ah (n:=69) rfl) (ah (n:=68) rfl) rfl rfl (by omega) (by omega)) (aj))))) Tryz.func31 rfl (by kernel_rfl) aC ⟨bE,⟨aH (n:=67) rfl aE,trivial⟩⟩ (cf rfl)).mono ?_
 rintro e w' ⟨v,B',rfl,⟨vs,rfl,h1⟩,h2,h3⟩
 match vs,h1 with
 | [x1,x2],h1=>
  have ex2:x2= .int .i64 0:=h1.2.1
  subst ex2
  exact⟨x1,rfl,((ag (xs:=uc S a f l y z) (ks:=[15,16,17,18,19,20,21]) (vs:=(Pq.mk (z.pose.rot.way (z.pose.rot.inv.mul y.pose.rot) (Fq.ratio (a - z.tm) (y.tm - z.tm))) (z.pose.pos.lerp y.pose.pos (Fq.ratio (a - z.tm) (y.tm - z.tm)))).cs) ⟨rfl,rfl,rfl,rfl,rfl,rfl,rfl,trivial⟩).1 h1.1),h3 rfl⟩
def wT (S:List St):List Fq:=[]
theorem q_rSpan0 {w:World} {g:Nat} {sl:Value} (S:List St) (h:TrkS 86 w g sl S) (hS:S.length≤64) (hS0:S.length=0):
  Calls Tryz.prog 33 (.pointer (some ⟨g,0,none⟩)::[]).toArray w fun e w'=>e= .returned (.tuple #[.int .i64 0,.int .i64 0,.bool false])∧Below w.heap.size w w':=by
 refine(aG (ρ:=frs (wT S)++([.rowB true sl stT S.length (az S),.val (.int .i64 (S.length:Int))]:List Vp)) (w:=w) (fuel:=300) (m:=0) (S':=S) (args:=[.one (.ptr 0 0)]) (vs:=[.pointer (some ⟨g,0,none⟩)]) (r:=.tup [.one (.i .i64 0),.one (.i .i64 0),.one (.b false)]) (l:=.ref 0) (lo:=[]) (obs:=[]) h
  (ai)
  (ae (bW 0 1 rfl rfl) (ae (aw (t:=3) (ah (n:=1) rfl) (aF (c:=0)) (cF (by omega))) (aj))) Tryz.func33 rfl (by kernel_rfl) aC ⟨bE,trivial⟩ (cf rfl)).mono ?_
 rintro e w' ⟨v,B',rfl,⟨vs,rfl,h1⟩,h2,h3⟩
 match vs,h1 with
 | [x1,x2,x3],h1=>
  have ex1:x1= .int .i64 0:=h1.1
  subst ex1
  have ex2:x2= .int .i64 0:=h1.2.1
  subst ex2
  have ex3:x3= .bool false:=h1.2.2.1
  subst ex3
  exact⟨rfl,h3 rfl⟩
def wU (S:List St) (f:St) (l:St):List Fq:=[]
theorem q_rSpan1 {w:World} {g:Nat} {sl:Value} (S:List St) (h:TrkS 86 w g sl S) (hS:S.length≤64) (f:St) (hf:S[0]? =some f) (l:St) (hl:S[S.length - 1]? =some l) (hn:0<S.length):
  Calls Tryz.prog 33 (.pointer (some ⟨g,0,none⟩)::[]).toArray w fun e w'=>e= .returned (.tuple #[.int .i64 f.tm,.int .i64 l.tm,.bool true])∧Below w.heap.size w w':=by
 refine(aG (ρ:=frs (wU S f l)++([.rowB true sl stT S.length (az S),.val (.int .i64 (S.length:Int)),.plc stT f.qs,.val (.int .i64 f.tm),.val (.int .i64 ((S.length:Int) - 1)),.plc stT l.qs,.val (.int .i64 l.tm)]:List Vp)) (w:=w) (fuel:=300) (m:=0) (S':=S) (args:=[.one (.ptr 0 0)]) (vs:=[.pointer (some ⟨g,0,none⟩)]) (r:=.tup [.one (.ref 3),.one (.ref 6),.one (.b true)]) (l:=.ref 0) (lo:=[]) (obs:=[]) h
  (ai)
  (ae (bW 0 1 rfl rfl) (ae (aw (t:=3) (ah (n:=1) rfl) (aF (c:=0)) (a8 (by omega))) (ae (iaB (n:=0) (m:=2) rfl rfl (aU (aF (c:=0)) (by omega)) hf) (ae (fa0 f 2 rfl) (ae (ldt f 2 3 rfl rfl) (ae (bQ (m:=4) (t:=3) (ah (n:=1) rfl) (aF (c:=1)) rfl rfl (by omega) (by omega)) (ae (iaB (n:=0) (m:=5) rfl rfl (aU (ah (n:=4) rfl) (by omega)) hl) (ae (fa0 l 5 rfl) (ae (ldt l 5 6 rfl rfl) (aj)))))))))) Tryz.func33 rfl (by kernel_rfl) aC ⟨bE,trivial⟩ (cf rfl)).mono ?_
 rintro e w' ⟨v,B',rfl,⟨vs,rfl,h1⟩,h2,h3⟩
 match vs,h1 with
 | [x1,x2,x3],h1=>
  have ex1:x1= .int .i64 f.tm:=bh rfl h1.1
  subst ex1
  have ex2:x2= .int .i64 l.tm:=bh rfl h1.2.1
  subst ex2
  have ex3:x3= .bool true:=h1.2.2.1
  subst ex3
  exact⟨rfl,h3 rfl⟩
def xq_rLenX (S:List St):List Fq:=[]
theorem q_rLen {w:World} {g:Nat} {sl:Value} (S:List St) (h:TrkS 86 w g sl S) (hS:S.length≤64):
  Calls Tryz.prog 34 (.pointer (some ⟨g,0,none⟩)::[]).toArray w fun e w'=>e= .returned (.int .i64 (S.length:Int))∧Below w.heap.size w w':=by
 refine(aG (ρ:=frs (xq_rLenX S)++([.rowB true sl stT S.length (az S),.val (.int .i64 (S.length:Int))]:List Vp)) (w:=w) (fuel:=300) (m:=0) (S':=S) (args:=[.one (.ptr 0 0)]) (vs:=[.pointer (some ⟨g,0,none⟩)]) (r:=.v (.one (.ref 1))) (l:=.ref 0) (lo:=[]) (obs:=[]) h
  (ai)
  (ae (bW 0 1 rfl rfl) (aj)) Tryz.func34 rfl (by kernel_rfl) aC ⟨bE,trivial⟩ (cf rfl)).mono ?_
 rintro e w' ⟨v,B',rfl,h1,h2,h3⟩
 have ev:v= .int .i64 (S.length:Int):=bh rfl h1
 subst ev
 exact⟨rfl,h3 rfl⟩
def mQ:MS:=cM 37 [(0,.v (.one (.ptr 0 0))),(1,.v (.one (.ref 1))),(5,.v (.one (.i .i64 0))),(6,.v (.one (.i .i64 0)))] [(86,[some (.ref 0)])]
def mR:MS:=cM 37 [(0,.v (.one (.ptr 0 0))),(1,.v (.one (.ref 1))),(5,.v (.one (.ref 2)))] [(86,[some (.ref 0)])]
def fQ (S:List St) (a:Int):List Fq:=[]
theorem q_rDrop {w:World} {g:Nat} {sl:Value} (S:List St) (a:Int) (h:TrkS 86 w g sl S) (hS:S.length≤64) (so:dO S):
  Calls Tryz.prog 29 (.pointer (some ⟨g,0,none⟩)::[.int .i64 a]).toArray w fun e w'=>e= .returned (.int .i64 ((plN S (a+1) - 1:Nat):Int))∧TrkM 86 w g sl (S.drop (plN S (a+1) - 1)) w':=by
 have hle:=a9 S (a+1)
 have hL0:LOb.Ok Tryz.prog (frs (fQ S a)++(([.rowB true sl stT S.length (az S),.val (.int .i64 a)]:List Vp)++(([.val (.int .i64 ((plN S (a+1) - 1:Nat):Int)),.rowB false sl stT (S.drop (plN S (a+1) - 1)).length (az (S.drop (plN S (a+1) - 1)))]:List Vp)))) (gO w g) 37 ⟨bk Tryz.f29 0,mQ,.ext 0,mR⟩:=by
  refine bx S.length (fun k=>frs (fQ S a)++(([.rowB true sl stT S.length (az S),.val (.int .i64 a)]:List Vp)++(([.val (.int .i64 ((k:Nat):Int)),.val (.int .i64 ((min (k) (plN S (a+1)) - 1:Nat):Int))]:List Vp)))) (fun _=>cM 37 [(0,.v (.one (.ptr 0 0))),(1,.v (.one (.ref 1))),(5,.v (.one (.ref 3))),(6,.v (.one (.ref 2)))] [(86,[some (.ref 0)])]) ?_ ?_ ?_ (by decide) (Nat.le_add_left 1 _)
  ·intro a_ w_ h_
   exact MSt.conv (N:=2) (σ:=[(2,.i .i64 0),(3,.i .i64 0)]) (cmP (by kernel_rfl)) (aD (sgi (n:=2) (u:=0) (v:=((0:Nat):Int)) rfl (aF (c:=0)) (by omega)) (aD (sgi (n:=3) (u:=0) (v:=((min (0) (plN S (a+1)) - 1:Nat):Int)) rfl (aF (c:=0)) (by omega)) aP)) (by kernel_rfl) h_ (Nat.le_add_left 1 _)
  ·intro k hk
   rcases Nat.lt_or_ge k (plN S (a+1))with hq | hq
   ·obtain⟨x,hx,hlt⟩:=dl hq
    refine aV (N:=4) (ρx:=frs (fQ S a)++(([.rowB true sl stT S.length (az S),.val (.int .i64 a)]:List Vp)++(([.val (.int .i64 ((k:Nat):Int)),.val (.int .i64 ((min (k) (plN S (a+1)) - 1:Nat):Int))]:List Vp)++(([.val (.int .i64 (S.length:Int)),.plc stT x.qs,.val (.int .i64 x.tm),.val (.int .i64 (((k:Nat):Int)+1))]:List Vp))))) (cmX (by kernel_rfl)) (by kernel_rfl) (Nat.le_add_left 1 _) ?_
    exact aR (N:=2) (σ:=[(2,.ref 7),(3,.ref 2)]) (lo:=[]) (n:=300) (ai)
     (ae (bW 0 4 rfl rfl) (ae (aw (t:=3) (ah (n:=2) rfl) (ah (n:=4) rfl) (aL (by omega))) (ae (iaB (n:=0) (m:=5) rfl rfl (aU (ah (n:=2) rfl) (by omega)) hx) (ae (fa0 x 5 rfl) (ae (ldt x 5 6 rfl rfl) (ae (aw (t:=3) (ah (n:=6) rfl) (ah (n:=1) rfl) (cW (by omega))) (ae (cS (m:=7) (t:=3) (ah (n:=2) rfl) (aF (c:=1)) rfl rfl (by omega) (by omega)) (aj))))))))
     (by kernel_rfl) (obs:=[]) (by kernel_rfl) aC (cmP (by kernel_rfl)) (aD (sgi (n:=2) (u:=(((k:Nat):Int)+1)) (v:=((k+1:Nat):Int)) rfl (ah (n:=7) rfl) (by omega)) (aD (sgi (n:=3) (u:=((k:Nat):Int)) (v:=((min (k+1) (plN S (a+1)) - 1:Nat):Int)) rfl (ah (n:=2) rfl) (by omega)) aP)) (Nat.le_add_left 1 _)
   ·obtain⟨x,hx⟩:∃x,S[k]? =some x:=⟨_,List.getElem?_eq_getElem hk⟩
    have hge:=fc so hq hx
    refine aV (N:=4) (ρx:=frs (fQ S a)++(([.rowB true sl stT S.length (az S),.val (.int .i64 a)]:List Vp)++(([.val (.int .i64 ((k:Nat):Int)),.val (.int .i64 ((min (k) (plN S (a+1)) - 1:Nat):Int))]:List Vp)++(([.val (.int .i64 (S.length:Int)),.plc stT x.qs,.val (.int .i64 x.tm),.val (.int .i64 (((k:Nat):Int)+1))]:List Vp))))) (cmX (by kernel_rfl)) (by kernel_rfl) (Nat.le_add_left 1 _) ?_
    exact aR (N:=2) (σ:=[(2,.ref 7),(3,.ref 3)]) (lo:=[]) (n:=300) (ai)
     (ae (bW 0 4 rfl rfl) (ae (aw (t:=3) (ah (n:=2) rfl) (ah (n:=4) rfl) (aL (by omega))) (ae (iaB (n:=0) (m:=5) rfl rfl (aU (ah (n:=2) rfl) (by omega)) hx) (ae (fa0 x 5 rfl) (ae (ldt x 5 6 rfl rfl) (ae (aw (t:=3) (ah (n:=6) rfl) (ah (n:=1) rfl) (eE (by omega))) (ae (cS (m:=7) (t:=3) (ah (n:=2) rfl) (aF (c:=1)) rfl rfl (by omega) (by omega)) (aj))))))))
     (by kernel_rfl) (obs:=[]) (by kernel_rfl) aC (cmP (by kernel_rfl)) (aD (sgi (n:=2) (u:=(((k:Nat):Int)+1)) (v:=((k+1:Nat):Int)) rfl (ah (n:=7) rfl) (by omega)) (aD (sgi (n:=3) (u:=((min (k) (plN S (a+1)) - 1:Nat):Int)) (v:=((min (k+1) (plN S (a+1)) - 1:Nat):Int)) rfl (ah (n:=3) rfl) (by omega)) aP)) (Nat.le_add_left 1 _)
  ·have hle1:=a9 S (a+1)
   refine aV (N:=4) (ρx:=frs (fQ S a)++(([.rowB true sl stT S.length (az S),.val (.int .i64 a)]:List Vp)++(([.val (.int .i64 ((S.length:Nat):Int)),.val (.int .i64 ((min (S.length) (plN S (a+1)) - 1:Nat):Int))]:List Vp)++(([.val (.int .i64 (S.length:Int))]:List Vp))))) (cmX (by kernel_rfl)) (by kernel_rfl) (Nat.le_add_left 1 _) ?_
   exact aR (N:=2) (σ:=[(2,.ref 3)]) (lo:=[]) (n:=300) (ai)
    (ae (bW 0 4 rfl rfl) (ae (aw (t:=3) (ah (n:=2) rfl) (ah (n:=4) rfl) (aK (by omega))) (aj)))
    (by kernel_rfl) (obs:=[]) (by kernel_rfl) aC (cmP (by kernel_rfl)) (aD (sgi (n:=2) (u:=((min (S.length) (plN S (a+1)) - 1:Nat):Int)) (v:=((plN S (a+1) - 1:Nat):Int)) rfl (ah (n:=3) rfl) (by omega)) aP) (Nat.le_add_left 1 _)
 refine(aG (ρ:=frs (fQ S a)++(([.rowB true sl stT S.length (az S),.val (.int .i64 a)]:List Vp)++(([.val (.int .i64 ((plN S (a+1) - 1:Nat):Int)),.rowB false sl stT (S.drop (plN S (a+1) - 1)).length (az (S.drop (plN S (a+1) - 1)))]:List Vp)))) (w:=w) (fuel:=300) (m:=0) (S':=(S.drop (plN S (a+1) - 1))) (args:=[.one (.ptr 0 0),.one (.ref 1)]) (vs:=[.pointer (some ⟨g,0,none⟩),.int .i64 a]) (r:=.v (.one (.ref 2))) (l:=.ref 3) (lo:=[some (mQ,.ext 0,mR)]) (obs:=[⟨bk Tryz.f29 0,mQ,.ext 0,mR⟩]) h
  (ai)
  (ae (dN (n:=0) (m:=3) (k:=(plN S (a+1) - 1)) (t:=22) Tryz.underlying22 (by kernel_rfl) rfl (by rfl) rfl (aU (ah (n:=2) rfl) (by omega)) (by omega)) (aj)) Tryz.func29 rfl (by kernel_rfl) (bI hL0 aC) ⟨bE,⟨aH (n:=1) rfl aE,trivial⟩⟩ (cf rfl)).mono ?_
 rintro e w' ⟨v,B',rfl,h1,h2,h3⟩
 have ev:v= .int .i64 ((plN S (a+1) - 1:Nat):Int):=bh rfl h1
 subst ev
 exact⟨rfl,h2⟩
def z5 (S:List St):List Fq:=[]
theorem q_rList {w:World} {g:Nat} {sl:Value} (S:List St) (h:TrkS 86 w g sl S) (hS:S.length≤64):
  Calls Tryz.prog 19 (.pointer (some ⟨g,0,none⟩)::[]).toArray w fun e w'=>∃v,e= .returned v∧(Vp.ownr stT 22 S.length (az S)).p w' v∧(∀b,v.ownBlock=some b→w.heap.size≤b∧dn w' b)∧Below w.heap.size w w':=by
 refine(jT (ρ:=frs (z5 S)++([.rowB true sl stT S.length (az S),.ownr stT 22 S.length (az S)]:List Vp)) (w:=w) (fuel:=300) (m:=0) (S':=S) (args:=[.one (.ptr 0 0)]) (vs:=[.pointer (some ⟨g,0,none⟩)]) (r:=.v (.one (.own 0 1))) (l:=.ref 0) (lo:=[]) (obs:=[]) h
  (ai)
  (ae (cK (j:=0) (S1:=[]) (S2:=S) (E:=S) (m:=1) (l:=.sl0) (la:=.ref 0) (.inl ⟨rfl,rfl⟩) (fq (n:=0) rfl) rfl (by rfl) (by omega)) (aj)) Tryz.func19 rfl (by kernel_rfl) aC ⟨bE,trivial⟩ (cf rfl)).mono ?_
 rintro e w' ⟨v,B',rfl,h1,h2,h3,h4⟩
 obtain⟨k1,_,k3⟩:=g7 rfl h1
 exact⟨_,rfl,k1,fun b hb=>h4 _ _ (k3 b hb),h3 rfl⟩
end Go.Proofs.YtfhinmdhjlmikaaGreat
