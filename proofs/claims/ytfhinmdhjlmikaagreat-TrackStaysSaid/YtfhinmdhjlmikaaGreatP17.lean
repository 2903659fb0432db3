/- Tracks: around, At, Around, Span, Len, Drop. Tracks: stamps as they come in, List. Tracks: the reference's Add. Tracks: what a track is, what Add makes of it. -/
import Derived.Test.YtfhinmdhjlmikaaGreatP16
namespace Go.Proofs.YtfhinmdhjlmikaaGreat
set_option linter.unusedSimpArgs false
set_option linter.unusedVariables false
set_option maxRecDepth 100000
open Go.RowKit
theorem jn {ρ:Rho} {B:Blk} {w:World} {v:Value} (h:(SV.agg (.i .i64 0::List.flatten (List.replicate 7 [.b false,.sl0,.sl0]))).holds ρ B w v):dm w v ⟨0,Pq.zero⟩:=by
 obtain⟨vs,rfl,h⟩:=h
 match vs,h with
 | v0::vs,h=>
  have e:v0= .int .i64 0:=h.1
  subst e
  exact⟨vs,rfl,fu (n:=7) h.2⟩
def sD (S:List St) (a:Int):List Fq:=[]
theorem ye {w:World} {g:Nat} {sl:Value} (S:List St) (a:Int) (h:TrkS 79 w g sl S) (hS:S.length≤64) (hS0:S.length=0):
  Calls Tryz.prog 40 (.pointer (some ⟨g,0,none⟩)::[.int .i64 a]).toArray w fun e w'=>e= .returned (.tuple #[.int .i64 0,.int .i64 0,.int .i64 6])∧Below w.heap.size w w':=by
 refine(aM (ρ:=frs (sD S a)++([.rowB true sl stT S.length (aF S),.val (.int .i64 a),.val (.int .i64 (S.length:Int))]:List Vp)) (w:=w) (fuel:=300) (m:=0) (S':=S) (args:=[.one (.ptr 0 0),.one (.ref 1)]) (vs:=[.pointer (some ⟨g,0,none⟩),.int .i64 a]) (r:=.tup [.one (.i .i64 0),.one (.i .i64 0),.one (.i .i64 6)]) (l:=.ref 0) (lo:=[]) (obs:=[]) h
  (ah)
  (ae (ba (y:=0) (o:=0) (t:=39) ⟨_,Tryz.underlying39⟩) (ae (dC 0 2 rfl rfl) (ae (aA (t:=3) (aj (n:=2) rfl) (aJ (c:=0)) (dj (by omega))) (ai)))) Tryz.func40 rfl (by kernel_rfl) aG ⟨cH,⟨aD (n:=1) rfl az,trivial⟩⟩ (dn rfl)).mono ?_
 rintro e w' ⟨v,B',rfl,⟨vs,rfl,h1⟩,h2,h3⟩
 match vs,h1 with
 | [x1,x2,x3],h1=>
  have ex1:x1= .int .i64 0:=h1.1
  subst ex1
  have ex2:x2= .int .i64 0:=h1.2.1
  subst ex2
  have ex3:x3= .int .i64 6:=h1.2.2.1
  subst ex3
  exact⟨rfl,h3 rfl⟩
def qM (S:List St) (a:Int) (f:St):List Fq:=[]
theorem uH {w:World} {g:Nat} {sl:Value} (S:List St) (a:Int) (h:TrkS 79 w g sl S) (hS:S.length≤64) (f:St) (hf:S[0]? =some f) (hn:0<S.length) (ha:a<f.tm):
  Calls Tryz.prog 40 (.pointer (some ⟨g,0,none⟩)::[.int .i64 a]).toArray w fun e w'=>e= .returned (.tuple #[.int .i64 0,.int .i64 0,.int .i64 17])∧Below w.heap.size w w':=by
 refine(aM (ρ:=frs (qM S a f)++([.rowB true sl stT S.length (aF S),.val (.int .i64 a),.val (.int .i64 (S.length:Int)),.plc stT f.qs,.val (.int .i64 f.tm)]:List Vp)) (w:=w) (fuel:=300) (m:=0) (S':=S) (args:=[.one (.ptr 0 0),.one (.ref 1)]) (vs:=[.pointer (some ⟨g,0,none⟩),.int .i64 a]) (r:=.tup [.one (.i .i64 0),.one (.i .i64 0),.one (.i .i64 17)]) (l:=.ref 0) (lo:=[]) (obs:=[]) h
  (ah)
  (ae (ba (y:=0) (o:=0) (t:=39) ⟨_,Tryz.underlying39⟩) (ae (dC 0 2 rfl rfl) (ae (aA (t:=3) (aj (n:=2) rfl) (aJ (c:=0)) (bu (by omega))) (ae (iaB (n:=0) (m:=3) rfl rfl (bf (aJ (c:=0)) (by omega)) hf) (ae (fa0 f 3 rfl) (ae (ldt f 3 4 rfl rfl) (ae (aA (t:=3) (aj (n:=1) rfl) (aj (n:=4) rfl) (a8 (by omega))) (ai)))))))) Tryz.func40 rfl (by kernel_rfl) aG ⟨cH,⟨aD (n:=1) rfl az,trivial⟩⟩ (dn rfl)).mono ?_
 rintro e w' ⟨v,B',rfl,⟨vs,rfl,h1⟩,h2,h3⟩
 match vs,h1 with
 | [x1,x2,x3],h1=>
  have ex1:x1= .int .i64 0:=h1.1
  subst ex1
  have ex2:x2= .int .i64 0:=h1.2.1
  subst ex2
  have ex3:x3= .int .i64 17:=h1.2.2.1
  subst ex3
  exact⟨rfl,h3 rfl⟩
def qN (S:List St) (a:Int) (f:St) (l:St):List Fq:=[]
theorem uI {w:World} {g:Nat} {sl:Value} (S:List St) (a:Int) (h:TrkS 79 w g sl S) (hS:S.length≤64) (f:St) (hf:S[0]? =some f) (hb:f.tm≤a) (l:St) (hl:S[S.length - 1]? =some l) (hn:0<S.length) (ha:l.tm<a):
  Calls Tryz.prog 40 (.pointer (some ⟨g,0,none⟩)::[.int .i64 a]).toArray w fun e w'=>e= .returned (.tuple #[.int .i64 0,.int .i64 0,.int .i64 17])∧Below w.heap.size w w':=by
 refine(aM (ρ:=frs (qN S a f l)++([.rowB true sl stT S.length (aF S),.val (.int .i64 a),.val (.int .i64 (S.length:Int)),.plc stT f.qs,.val (.int .i64 f.tm),.val (.int .i64 ((S.length:Int) - 1)),.plc stT l.qs,.val (.int .i64 l.tm)]:List Vp)) (w:=w) (fuel:=300) (m:=0) (S':=S) (args:=[.one (.ptr 0 0),.one (.ref 1)]) (vs:=[.pointer (some ⟨g,0,none⟩),.int .i64 a]) (r:=.tup [.one (.i .i64 0),.one (.i .i64 0),.one (.i .i64 17)]) (l:=.ref 0) (lo:=[]) (obs:=[]) h
  (ah)
  (ae (ba (y:=0) (o:=0) (t:=39) ⟨_,Tryz.underlying39⟩) (ae (dC 0 2 rfl rfl) (ae (aA (t:=3) (aj (n:=2) rfl) (aJ (c:=0)) (bu (by omega))) (ae (iaB (n:=0) (m:=3) rfl rfl (bf (aJ (c:=0)) (by omega)) hf) (ae (fa0 f 3 rfl) (ae (ldt f 3 4 rfl rfl) (ae (aA (t:=3) (aj (n:=1) rfl) (aj (n:=4) rfl) (aU (by omega))) (ae (cE (m:=5) (t:=3) (aj (n:=2) rfl) (aJ (c:=1)) rfl rfl (by omega) (by omega)) (ae (iaB (n:=0) (m:=6) rfl rfl (bf (aj (n:=5) rfl) (by omega)) hl) (ae (fa0 l 6 rfl) (ae (ldt l 6 7 rfl rfl) (ae (aA (t:=3) (aj (n:=1) rfl) (aj (n:=7) rfl) (bD (by omega))) (ai))))))))))))) Tryz.func40 rfl (by kernel_rfl) aG ⟨cH,⟨aD (n:=1) rfl az,trivial⟩⟩ (dn rfl)).mono ?_
 rintro e w' ⟨v,B',rfl,⟨vs,rfl,h1⟩,h2,h3⟩
 match vs,h1 with
 | [x1,x2,x3],h1=>
  have ex1:x1= .int .i64 0:=h1.1
  subst ex1
  have ex2:x2= .int .i64 0:=h1.2.1
  subst ex2
  have ex3:x3= .int .i64 17:=h1.2.2.1
  subst ex3
  exact⟨rfl,h3 rfl⟩
def iO:MS:=dJ 77 [(0,.v (.one (.ptr 0 0))),(1,.v (.one (.ref 1))),(52,.v (.one (.ref 0))),(53,.v (.one (.ref 2))),(54,.v (.one (.i .i64 0)))] [(79,[some (.ref 0)])]
def iP:MS:=dJ 77 [(0,.v (.one (.ptr 0 0))),(1,.v (.one (.ref 1))),(7,.v (.one (.ref 8))),(8,.v (.one (.ref 8))),(52,.v (.one (.ref 0))),(53,.v (.one (.ref 2)))] [(79,[some (.ref 0)])]
def eD (S:List St) (a:Int) (f:St) (l:St) (y:St):List Fq:=[]
theorem yf {w:World} {g:Nat} {sl:Value} (S:List St) (a:Int) (h:TrkS 79 w g sl S) (hS:S.length≤64) (f:St) (hf:S[0]? =some f) (hb:f.tm≤a) (l:St) (hl:S[S.length - 1]? =some l) (hn:0<S.length) (ha:a≤l.tm) (y:St) (hy:S[plN S a]? =some y) (ey:y.tm=a) (hp:plN S a<S.length):
  Calls Tryz.prog 40 (.pointer (some ⟨g,0,none⟩)::[.int .i64 a]).toArray w fun e w'=>e= .returned (.tuple #[.int .i64 ((plN S a:Nat):Int),.int .i64 ((plN S a:Nat):Int),.int .i64 0])∧Below w.heap.size w w':=by
 have hL0:LOb.Ok Tryz.prog (frs (eD S a f l y)++(([.rowB true sl stT S.length (aF S),.val (.int .i64 a),.val (.int .i64 (S.length:Int)),.plc stT f.qs,.val (.int .i64 f.tm),.val (.int .i64 ((S.length:Int) - 1)),.plc stT l.qs,.val (.int .i64 l.tm)]:List Vp)++(([.val (.int .i64 ((plN S a:Nat):Int))]:List Vp)))) (lS w g) 77 ⟨cO Tryz.f40 0,iO,.ext 1,iP⟩:=by
  refine co (plN S a) (fun k=>frs (eD S a f l y)++(([.rowB true sl stT S.length (aF S),.val (.int .i64 a),.val (.int .i64 (S.length:Int)),.plc stT f.qs,.val (.int .i64 f.tm),.val (.int .i64 ((S.length:Int) - 1)),.plc stT l.qs,.val (.int .i64 l.tm)]:List Vp)++(([.val (.int .i64 ((k:Nat):Int))]:List Vp)))) (fun _=>dJ 77 [(0,.v (.one (.ptr 0 0))),(1,.v (.one (.ref 1))),(52,.v (.one (.ref 0))),(53,.v (.one (.ref 2))),(54,.v (.one (.ref 8)))] [(79,[some (.ref 0)])]) ?_ ?_ ?_ (by decide) (Nat.le_add_left 1 _)
  ·intro a_ w_ h_
   exact MSt.conv (N:=8) (σ:=[(8,.i .i64 0)]) (cmP (by kernel_rfl)) (aW (sgi (n:=8) (u:=0) (v:=((0:Nat):Int)) rfl (aJ (c:=0)) (by omega)) bk) (by kernel_rfl) h_ (Nat.le_add_left 1 _)
  ·intro k hk
   obtain⟨x,hx,hlt⟩:=di hk
   have hle:=bi S a
   refine bO (N:=9) (ρx:=frs (eD S a f l y)++(([.rowB true sl stT S.length (aF S),.val (.int .i64 a),.val (.int .i64 (S.length:Int)),.plc stT f.qs,.val (.int .i64 f.tm),.val (.int .i64 ((S.length:Int) - 1)),.plc stT l.qs,.val (.int .i64 l.tm)]:List Vp)++(([.val (.int .i64 ((k:Nat):Int))]:List Vp)++(([.plc stT x.qs,.val (.int .i64 x.tm),.val (.bool x.pose.rot.w.s),.dig (nl x.pose.rot.w.p) x.pose.rot.w.p,.dig (nl x.pose.rot.w.q) x.pose.rot.w.q,.val (.bool x.pose.rot.x.s),.dig (nl x.pose.rot.x.p) x.pose.rot.x.p,.dig (nl x.pose.rot.x.q) x.pose.rot.x.q,.val (.bool x.pose.rot.y.s),.dig (nl x.pose.rot.y.p) x.pose.rot.y.p,.dig (nl x.pose.rot.y.q) x.pose.rot.y.q,.val (.bool x.pose.rot.z.s),.dig (nl x.pose.rot.z.p) x.pose.rot.z.p,.dig (nl x.pose.rot.z.q) x.pose.rot.z.q,.val (.bool x.pose.pos.x.s),.dig (nl x.pose.pos.x.p) x.pose.pos.x.p,.dig (nl x.pose.pos.x.q) x.pose.pos.x.q,.val (.bool x.pose.pos.y.s),.dig (nl x.pose.pos.y.p) x.pose.pos.y.p,.dig (nl x.pose.pos.y.q) x.pose.pos.y.q,.val (.bool x.pose.pos.z.s),.dig (nl x.pose.pos.z.p) x.pose.pos.z.p,.dig (nl x.pose.pos.z.q) x.pose.pos.z.q,.val (.int .i64 (((k:Nat):Int)+1))]:List Vp))))) (cmX (by kernel_rfl)) (by kernel_rfl) (Nat.le_add_left 1 _) ?_
   exact bv (N:=8) (σ:=[(8,.ref 32)]) (lo:=[]) (n:=300) (ah)
    (ae (aA (t:=3) (aj (n:=8) rfl) (aj (n:=2) rfl) (a8 (by omega))) (ae (iaB (n:=0) (m:=9) rfl rfl (bf (aj (n:=8) rfl) (by omega)) hx) (ae (mh (n:=9) (t:=35) (ls:=.ref 10::cQ [11,14,17,20,23,26,29]) (by kernel_rfl) (by kernel_rfl) rfl (om (x:=x.raw) rfl ⟨⟨rfl,rfl,rfl⟩,⟨rfl,rfl,rfl⟩,⟨rfl,rfl,rfl⟩,⟨rfl,rfl,rfl⟩,⟨rfl,rfl,rfl⟩,⟨rfl,rfl,rfl⟩,⟨rfl,rfl,rfl⟩,trivial⟩)) (ae (aA (t:=3) (aj (n:=10) rfl) (aj (n:=1) rfl) (bu (by omega))) (ae (aA (t:=3) (aj (n:=10) rfl) (aj (n:=1) rfl) (aX (by omega))) (ae (fY (m:=32) (t:=3) (aj (n:=8) rfl) (aJ (c:=1)) rfl rfl (by omega) (by omega)) (ai)))))))
    (by kernel_rfl) (obs:=[]) (by kernel_rfl) aG (cmP (by kernel_rfl)) (aW (sgi (n:=8) (u:=(((k:Nat):Int)+1)) (v:=((k+1:Nat):Int)) rfl (aj (n:=32) rfl) (by omega)) bk) (Nat.le_add_left 1 _)
  ·refine bO (N:=9) (ρx:=frs (eD S a f l y)++(([.rowB true sl stT S.length (aF S),.val (.int .i64 a),.val (.int .i64 (S.length:Int)),.plc stT f.qs,.val (.int .i64 f.tm),.val (.int .i64 ((S.length:Int) - 1)),.plc stT l.qs,.val (.int .i64 l.tm)]:List Vp)++(([.val (.int .i64 ((plN S a:Nat):Int))]:List Vp)++(([.plc stT y.qs,.val (.int .i64 y.tm),.val (.bool y.pose.rot.w.s),.dig (nl y.pose.rot.w.p) y.pose.rot.w.p,.dig (nl y.pose.rot.w.q) y.pose.rot.w.q,.val (.bool y.pose.rot.x.s),.dig (nl y.pose.rot.x.p) y.pose.rot.x.p,.dig (nl y.pose.rot.x.q) y.pose.rot.x.q,.val (.bool y.pose.rot.y.s),.dig (nl y.pose.rot.y.p) y.pose.rot.y.p,.dig (nl y.pose.rot.y.q) y.pose.rot.y.q,.val (.bool y.pose.rot.z.s),.dig (nl y.pose.rot.z.p) y.pose.rot.z.p,.dig (nl y.pose.rot.z.q) y.pose.rot.z.q,.val (.bool y.pose.pos.x.s),.dig (nl y.pose.pos.x.p) y.pose.pos.x.p,.dig (nl y.pose.pos.x.q) y.pose.pos.x.q,.val (.bool y.pose.pos.y.s),.dig (nl y.pose.pos.y.p) y.pose.pos.y.p,.dig (nl y.pose.pos.y.q) y.pose.pos.y.q,.val (.bool y.pose.pos.z.s),.dig (nl y.pose.pos.z.p) y.pose.pos.z.p,.dig (nl y.pose.pos.z.q) y.pose.pos.z.q]:List Vp))))) (cmX (by kernel_rfl)) (by kernel_rfl) (Nat.le_add_left 1 _) ?_
   exact bv (N:=8) (σ:=[(8,.ref 8),(8,.ref 8)]) (lo:=[]) (n:=300) (ah)
    (ae (aA (t:=3) (aj (n:=8) rfl) (aj (n:=2) rfl) (a8 (by omega))) (ae (iaB (n:=0) (m:=9) rfl rfl (bf (aj (n:=8) rfl) (by omega)) hy) (ae (mh (n:=9) (t:=35) (ls:=.ref 10::cQ [11,14,17,20,23,26,29]) (by kernel_rfl) (by kernel_rfl) rfl (om (x:=y.raw) rfl ⟨⟨rfl,rfl,rfl⟩,⟨rfl,rfl,rfl⟩,⟨rfl,rfl,rfl⟩,⟨rfl,rfl,rfl⟩,⟨rfl,rfl,rfl⟩,⟨rfl,rfl,rfl⟩,⟨rfl,rfl,rfl⟩,trivial⟩)) (ae (aA (t:=3) (aj (n:=10) rfl) (aj (n:=1) rfl) (dj (by omega))) (ai)))))
    (by kernel_rfl) (obs:=[]) (by kernel_rfl) aG (cmP (by kernel_rfl)) (aW (sgi (n:=8) (u:=((plN S a:Nat):Int)) (v:=((plN S a:Nat):Int)) rfl (aj (n:=8) rfl) (by omega)) (aW (sgi (n:=8) (u:=((plN S a:Nat):Int)) (v:=((plN S a:Nat):Int)) rfl (aj (n:=8) rfl) (by omega)) bk)) (Nat.le_add_left 1 _)
 refine(aM (ρ:=frs (eD S a f l y)++(([.rowB true sl stT S.length (aF S),.val (.int .i64 a),.val (.int .i64 (S.length:Int)),.plc stT f.qs,.val (.int .i64 f.tm),.val (.int .i64 ((S.length:Int) - 1)),.plc stT l.qs,.val (.int .i64 l.tm)]:List Vp)++(([.val (.int .i64 ((plN S a:Nat):Int))]:List Vp)))) (w:=w) (fuel:=300) (m:=0) (S':=S) (args:=[.one (.ptr 0 0),.one (.ref 1)]) (vs:=[.pointer (some ⟨g,0,none⟩),.int .i64 a]) (r:=.tup [.one (.ref 8),.one (.ref 8),.one (.i .i64 0)]) (l:=.ref 0) (lo:=[some (iO,.ext 1,iP)]) (obs:=[⟨cO Tryz.f40 0,iO,.ext 1,iP⟩]) h
  (ah)
  (ae (ba (y:=0) (o:=0) (t:=39) ⟨_,Tryz.underlying39⟩) (ae (dC 0 2 rfl rfl) (ae (aA (t:=3) (aj (n:=2) rfl) (aJ (c:=0)) (bu (by omega))) (ae (iaB (n:=0) (m:=3) rfl rfl (bf (aJ (c:=0)) (by omega)) hf) (ae (fa0 f 3 rfl) (ae (ldt f 3 4 rfl rfl) (ae (aA (t:=3) (aj (n:=1) rfl) (aj (n:=4) rfl) (aU (by omega))) (ae (cE (m:=5) (t:=3) (aj (n:=2) rfl) (aJ (c:=1)) rfl rfl (by omega) (by omega)) (ae (iaB (n:=0) (m:=6) rfl rfl (bf (aj (n:=5) rfl) (by omega)) hl) (ae (fa0 l 6 rfl) (ae (ldt l 6 7 rfl rfl) (ae (aA (t:=3) (aj (n:=1) rfl) (aj (n:=7) rfl) (aX (by omega))) (ai))))))))))))) Tryz.func40 rfl (by kernel_rfl) (en hL0 aG) ⟨cH,⟨aD (n:=1) rfl az,trivial⟩⟩ (dn rfl)).mono ?_
 rintro e w' ⟨v,B',rfl,⟨vs,rfl,h1⟩,h2,h3⟩
 match vs,h1 with
 | [x1,x2,x3],h1=>
  have ex1:x1= .int .i64 ((plN S a:Nat):Int):=bj rfl h1.1
  subst ex1
  have ex2:x2= .int .i64 ((plN S a:Nat):Int):=bj rfl h1.2.1
  subst ex2
  have ex3:x3= .int .i64 0:=h1.2.2.1
  subst ex3
  exact⟨rfl,h3 rfl⟩
def iQ:MS:=dJ 77 [(0,.v (.one (.ptr 0 0))),(1,.v (.one (.ref 1))),(52,.v (.one (.ref 0))),(53,.v (.one (.ref 2))),(54,.v (.one (.i .i64 0)))] [(79,[some (.ref 0)])]
def iR:MS:=dJ 77 [(0,.v (.one (.ptr 0 0))),(1,.v (.one (.ref 1))),(7,.v (.one (.ref 8))),(8,.v (.one (.ref 9))),(52,.v (.one (.ref 0))),(53,.v (.one (.ref 2)))] [(79,[some (.ref 0)])]
def eE (S:List St) (a:Int) (f:St) (l:St) (y:St):List Fq:=[]
theorem yg {w:World} {g:Nat} {sl:Value} (S:List St) (a:Int) (h:TrkS 79 w g sl S) (hS:S.length≤64) (f:St) (hf:S[0]? =some f) (hb:f.tm≤a) (l:St) (hl:S[S.length - 1]? =some l) (hn:0<S.length) (ha:a≤l.tm) (y:St) (hy:S[plN S a]? =some y) (ey:a<y.tm) (hp:plN S a<S.length) (h0:0<plN S a):
  Calls Tryz.prog 40 (.pointer (some ⟨g,0,none⟩)::[.int .i64 a]).toArray w fun e w'=>e= .returned (.tuple #[.int .i64 (((plN S a:Nat):Int) - 1),.int .i64 ((plN S a:Nat):Int),.int .i64 0])∧Below w.heap.size w w':=by
 have hL0:LOb.Ok Tryz.prog (frs (eE S a f l y)++(([.rowB true sl stT S.length (aF S),.val (.int .i64 a),.val (.int .i64 (S.length:Int)),.plc stT f.qs,.val (.int .i64 f.tm),.val (.int .i64 ((S.length:Int) - 1)),.plc stT l.qs,.val (.int .i64 l.tm)]:List Vp)++(([.val (.int .i64 (((plN S a:Nat):Int) - 1)),.val (.int .i64 ((plN S a:Nat):Int))]:List Vp)))) (lS w g) 77 ⟨cO Tryz.f40 0,iQ,.ext 1,iR⟩:=by
  refine co (plN S a) (fun k=>frs (eE S a f l y)++(([.rowB true sl stT S.length (aF S),.val (.int .i64 a),.val (.int .i64 (S.length:Int)),.plc stT f.qs,.val (.int .i64 f.tm),.val (.int .i64 ((S.length:Int) - 1)),.plc stT l.qs,.val (.int .i64 l.tm)]:List Vp)++(([.val (.int .i64 ((k:Nat):Int))]:List Vp)))) (fun _=>dJ 77 [(0,.v (.one (.ptr 0 0))),(1,.v (.one (.ref 1))),(52,.v (.one (.ref 0))),(53,.v (.one (.ref 2))),(54,.v (.one (.ref 8)))] [(79,[some (.ref 0)])]) ?_ ?_ ?_ (by decide) (Nat.le_add_left 1 _)
  ·intro a_ w_ h_
   exact MSt.conv (N:=8) (σ:=[(8,.i .i64 0)]) (cmP (by kernel_rfl)) (aW (sgi (n:=8) (u:=0) (v:=((0:Nat):Int)) rfl (aJ (c:=0)) (by omega)) bk) (by kernel_rfl) h_ (Nat.le_add_left 1 _)
  ·intro k hk
   obtain⟨x,hx,hlt⟩:=di hk
   have hle:=bi S a
   refine bO (N:=9) (ρx:=frs (eE S a f l y)++(([.rowB true sl stT S.length (aF S),.val (.int .i64 a),.val (.int .i64 (S.length:Int)),.plc stT f.qs,.val (.int .i64 f.tm),.val (.int .i64 ((S.length:Int) - 1)),.plc stT l.qs,.val (.int .i64 l.tm)]:List Vp)++(([.val (.int .i64 ((k:Nat):Int))]:List Vp)++(([.plc stT x.qs,.val (.int .i64 x.tm),.val (.bool x.pose.rot.w.s),.dig (nl x.pose.rot.w.p) x.pose.rot.w.p,.dig (nl x.pose.rot.w.q) x.pose.rot.w.q,.val (.bool x.pose.rot.x.s),.dig (nl x.pose.rot.x.p) x.pose.rot.x.p,.dig (nl x.pose.rot.x.q) x.pose.rot.x.q,.val (.bool x.pose.rot.y.s),.dig (nl x.pose.rot.y.p) x.pose.rot.y.p,.dig (nl x.pose.rot.y.q) x.pose.rot.y.q,.val (.bool x.pose.rot.z.s),.dig (nl x.pose.rot.z.p) x.pose.rot.z.p,.dig (nl x.pose.rot.z.q) x.pose.rot.z.q,.val (.bool x.pose.pos.x.s),.dig (nl x.pose.pos.x.p) x.pose.pos.x.p,.dig (nl x.pose.pos.x.q) x.pose.pos.x.q,.val (.bool x.pose.pos.y.s),.dig (nl x.pose.pos.y.p) x.pose.pos.y.p,.dig (nl x.pose.pos.y.q) x.pose.pos.y.q,.val (.bool x.pose.pos.z.s),.dig (nl x.pose.pos.z.p) x.pose.pos.z.p,.dig (nl x.pose.pos.z.q) x.pose.pos.z.q,.val (.int .i64 (((k:Nat):Int)+1))]:List Vp))))) (cmX (by kernel_rfl)) (by kernel_rfl) (Nat.le_add_left 1 _) ?_
   exact bv (N:=8) (σ:=[(8,.ref 32)]) (lo:=[]) (n:=300) (ah)
    (ae (aA (t:=3) (aj (n:=8) rfl) (aj (n:=2) rfl) (a8 (by omega))) (ae (iaB (n:=0) (m:=9) rfl rfl (bf (aj (n:=8) rfl) (by omega)) hx) (ae (mh (n:=9) (t:=35) (ls:=.ref 10::cQ [11,14,17,20,23,26,29]) (by kernel_rfl) (by kernel_rfl) rfl (om (x:=x.raw) rfl ⟨⟨rfl,rfl,rfl⟩,⟨rfl,rfl,rfl⟩,⟨rfl,rfl,rfl⟩,⟨rfl,rfl,rfl⟩,⟨rfl,rfl,rfl⟩,⟨rfl,rfl,rfl⟩,⟨rfl,rfl,rfl⟩,trivial⟩)) (ae (aA (t:=3) (aj (n:=10) rfl) (aj (n:=1) rfl) (bu (by omega))) (ae (aA (t:=3) (aj (n:=10) rfl) (aj (n:=1) rfl) (aX (by omega))) (ae (fY (m:=32) (t:=3) (aj (n:=8) rfl) (aJ (c:=1)) rfl rfl (by omega) (by omega)) (ai)))))))
    (by kernel_rfl) (obs:=[]) (by kernel_rfl) aG (cmP (by kernel_rfl)) (aW (sgi (n:=8) (u:=(((k:Nat):Int)+1)) (v:=((k+1:Nat):Int)) rfl (aj (n:=32) rfl) (by omega)) bk) (Nat.le_add_left 1 _)
  ·refine bO (N:=9) (ρx:=frs (eE S a f l y)++(([.rowB true sl stT S.length (aF S),.val (.int .i64 a),.val (.int .i64 (S.length:Int)),.plc stT f.qs,.val (.int .i64 f.tm),.val (.int .i64 ((S.length:Int) - 1)),.plc stT l.qs,.val (.int .i64 l.tm)]:List Vp)++(([.val (.int .i64 ((plN S a:Nat):Int))]:List Vp)++(([.plc stT y.qs,.val (.int .i64 y.tm),.val (.bool y.pose.rot.w.s),.dig (nl y.pose.rot.w.p) y.pose.rot.w.p,.dig (nl y.pose.rot.w.q) y.pose.rot.w.q,.val (.bool y.pose.rot.x.s),.dig (nl y.pose.rot.x.p) y.pose.rot.x.p,.dig (nl y.pose.rot.x.q) y.pose.rot.x.q,.val (.bool y.pose.rot.y.s),.dig (nl y.pose.rot.y.p) y.pose.rot.y.p,.dig (nl y.pose.rot.y.q) y.pose.rot.y.q,.val (.bool y.pose.rot.z.s),.dig (nl y.pose.rot.z.p) y.pose.rot.z.p,.dig (nl y.pose.rot.z.q) y.pose.rot.z.q,.val (.bool y.pose.pos.x.s),.dig (nl y.pose.pos.x.p) y.pose.pos.x.p,.dig (nl y.pose.pos.x.q) y.pose.pos.x.q,.val (.bool y.pose.pos.y.s),.dig (nl y.pose.pos.y.p) y.pose.pos.y.p,.dig (nl y.pose.pos.y.q) y.pose.pos.y.q,.val (.bool y.pose.pos.z.s),.dig (nl y.pose.pos.z.p) y.pose.pos.z.p,.dig (nl y.pose.pos.z.q) y.pose.pos.z.q,.val (.int .i64 (((plN S a:Nat):Int) - 1))]:List Vp))))) (cmX (by kernel_rfl)) (by kernel_rfl) (Nat.le_add_left 1 _) ?_
   exact bv (N:=8) (σ:=[(8,.ref 32),(9,.ref 8)]) (lo:=[]) (n:=300) (ah)
    (ae (aA (t:=3) (aj (n:=8) rfl) (aj (n:=2) rfl) (a8 (by omega))) (ae (iaB (n:=0) (m:=9) rfl rfl (bf (aj (n:=8) rfl) (by omega)) hy) (ae (mh (n:=9) (t:=35) (ls:=.ref 10::cQ [11,14,17,20,23,26,29]) (by kernel_rfl) (by kernel_rfl) rfl (om (x:=y.raw) rfl ⟨⟨rfl,rfl,rfl⟩,⟨rfl,rfl,rfl⟩,⟨rfl,rfl,rfl⟩,⟨rfl,rfl,rfl⟩,⟨rfl,rfl,rfl⟩,⟨rfl,rfl,rfl⟩,⟨rfl,rfl,rfl⟩,trivial⟩)) (ae (aA (t:=3) (aj (n:=10) rfl) (aj (n:=1) rfl) (bu (by omega))) (ae (aA (t:=3) (aj (n:=10) rfl) (aj (n:=1) rfl) (bD (by omega))) (ae (cE (m:=32) (t:=3) (aj (n:=8) rfl) (aJ (c:=1)) rfl rfl (by omega) (by omega)) (ai)))))))
    (by kernel_rfl) (obs:=[]) (by kernel_rfl) aG (cmP (by kernel_rfl)) (aW (sgi (n:=8) (u:=(((plN S a:Nat):Int) - 1)) (v:=(((plN S a:Nat):Int) - 1)) rfl (aj (n:=32) rfl) (by omega)) (aW (sgi (n:=9) (u:=((plN S a:Nat):Int)) (v:=((plN S a:Nat):Int)) rfl (aj (n:=8) rfl) (by omega)) bk)) (Nat.le_add_left 1 _)
 refine(aM (ρ:=frs (eE S a f l y)++(([.rowB true sl stT S.length (aF S),.val (.int .i64 a),.val (.int .i64 (S.length:Int)),.plc stT f.qs,.val (.int .i64 f.tm),.val (.int .i64 ((S.length:Int) - 1)),.plc stT l.qs,.val (.int .i64 l.tm)]:List Vp)++(([.val (.int .i64 (((plN S a:Nat):Int) - 1)),.val (.int .i64 ((plN S a:Nat):Int))]:List Vp)))) (w:=w) (fuel:=300) (m:=0) (S':=S) (args:=[.one (.ptr 0 0),.one (.ref 1)]) (vs:=[.pointer (some ⟨g,0,none⟩),.int .i64 a]) (r:=.tup [.one (.ref 8),.one (.ref 9),.one (.i .i64 0)]) (l:=.ref 0) (lo:=[some (iQ,.ext 1,iR)]) (obs:=[⟨cO Tryz.f40 0,iQ,.ext 1,iR⟩]) h
  (ah)
  (ae (ba (y:=0) (o:=0) (t:=39) ⟨_,Tryz.underlying39⟩) (ae (dC 0 2 rfl rfl) (ae (aA (t:=3) (aj (n:=2) rfl) (aJ (c:=0)) (bu (by omega))) (ae (iaB (n:=0) (m:=3) rfl rfl (bf (aJ (c:=0)) (by omega)) hf) (ae (fa0 f 3 rfl) (ae (ldt f 3 4 rfl rfl) (ae (aA (t:=3) (aj (n:=1) rfl) (aj (n:=4) rfl) (aU (by omega))) (ae (cE (m:=5) (t:=3) (aj (n:=2) rfl) (aJ (c:=1)) rfl rfl (by omega) (by omega)) (ae (iaB (n:=0) (m:=6) rfl rfl (bf (aj (n:=5) rfl) (by omega)) hl) (ae (fa0 l 6 rfl) (ae (ldt l 6 7 rfl rfl) (ae (aA (t:=3) (aj (n:=1) rfl) (aj (n:=7) rfl) (aX (by omega))) (ai))))))))))))) Tryz.func40 rfl (by kernel_rfl) (en hL0 aG) ⟨cH,⟨aD (n:=1) rfl az,trivial⟩⟩ (dn rfl)).mono ?_
 rintro e w' ⟨v,B',rfl,⟨vs,rfl,h1⟩,h2,h3⟩
 match vs,h1 with
 | [x1,x2,x3],h1=>
  have ex1:x1= .int .i64 (((plN S a:Nat):Int) - 1):=bj rfl h1.1
  subst ex1
  have ex2:x2= .int .i64 ((plN S a:Nat):Int):=bj rfl h1.2.1
  subst ex2
  have ex3:x3= .int .i64 0:=h1.2.2.1
  subst ex3
  exact⟨rfl,h3 rfl⟩
theorem pQ {ρ:Rho} {u:Nat} {l la:Leaf} {S:List St} {a:Int} (tl:lT ρ u 79 l S) (ka:KI ρ la .i64 a) (hS:S.length≤64) (hS0:S.length=0) {r:SV}:(OIns.mk (.mut 40 ⟨[],[(u,79,[l])],[],none,[],[.one (.i .i64 0),.one (.i .i64 0),.one (.i .i64 6)]⟩) [.one (.ptr u 0),.one la] r).Ok Tryz.prog ρ:=
 dt (args:=[.one la]) (aC Tryz.func40 rfl rfl) tl (fun B w g sl vs _ ht hv=>by
  match vs,hv with
  | [v],hv=>
   have e:=ka _ _ _ hv.1
   subst e
   refine(ye S _ ht hS hS0).mono ?_
   rintro e w' ⟨rfl,h2⟩
   exact⟨_,rfl,fun B' _=>⟨[.int .i64 _,.int .i64 _,.int .i64 _],rfl,rfl,rfl,rfl,trivial⟩,h2⟩)
theorem oo {ρ:Rho} {u:Nat} {l la:Leaf} {S:List St} {a:Int} (tl:lT ρ u 79 l S) (ka:KI ρ la .i64 a) (hS:S.length≤64) (f:St) (hf:S[0]? =some f) (hn:0<S.length) (ha:a<f.tm) {r:SV}:(OIns.mk (.mut 40 ⟨[],[(u,79,[l])],[],none,[],[.one (.i .i64 0),.one (.i .i64 0),.one (.i .i64 17)]⟩) [.one (.ptr u 0),.one la] r).Ok Tryz.prog ρ:=
 dt (args:=[.one la]) (aC Tryz.func40 rfl rfl) tl (fun B w g sl vs _ ht hv=>by
  match vs,hv with
  | [v],hv=>
   have e:=ka _ _ _ hv.1
   subst e
   refine(uH S _ ht hS f hf hn ha).mono ?_
   rintro e w' ⟨rfl,h2⟩
   exact⟨_,rfl,fun B' _=>⟨[.int .i64 _,.int .i64 _,.int .i64 _],rfl,rfl,rfl,rfl,trivial⟩,h2⟩)
theorem oq {ρ:Rho} {u:Nat} {l la:Leaf} {S:List St} {a:Int} (tl:lT ρ u 79 l S) (ka:KI ρ la .i64 a) (hS:S.length≤64) (f:St) (hf:S[0]? =some f) (hb:f.tm≤a) (l_:St) (hl:S[S.length - 1]? =some l_) (hn:0<S.length) (ha:l_.tm<a) {r:SV}:(OIns.mk (.mut 40 ⟨[],[(u,79,[l])],[],none,[],[.one (.i .i64 0),.one (.i .i64 0),.one (.i .i64 17)]⟩) [.one (.ptr u 0),.one la] r).Ok Tryz.prog ρ:=
 dt (args:=[.one la]) (aC Tryz.func40 rfl rfl) tl (fun B w g sl vs _ ht hv=>by
  match vs,hv with
  | [v],hv=>
   have e:=ka _ _ _ hv.1
   subst e
   refine(uI S _ ht hS f hf hb l_ hl hn ha).mono ?_
   rintro e w' ⟨rfl,h2⟩
   exact⟨_,rfl,fun B' _=>⟨[.int .i64 _,.int .i64 _,.int .i64 _],rfl,rfl,rfl,rfl,trivial⟩,h2⟩)
theorem pR {ρ:Rho} {u:Nat} {l la:Leaf} {S:List St} {a:Int} (tl:lT ρ u 79 l S) (ka:KI ρ la .i64 a) {n0 n1:Nat} (k0:ρ[n0]? =some (.val (.int .i64 (((plN S a:Nat):Int))))) (k1:ρ[n1]? =some (.val (.int .i64 ((plN S a:Nat):Int)))) (hS:S.length≤64) (f:St) (hf:S[0]? =some f) (hb:f.tm≤a) (l_:St) (hl:S[S.length - 1]? =some l_) (hn:0<S.length) (ha:a≤l_.tm) (y:St) (hy:S[plN S a]? =some y) (ey:y.tm=a) (hp:plN S a<S.length) {r:SV}:(OIns.mk (.mut 40 ⟨[],[(u,79,[l])],[],none,[],[.one (.ref n0),.one (.ref n1),.one (.i .i64 0)]⟩) [.one (.ptr u 0),.one la] r).Ok Tryz.prog ρ:=
 dt (args:=[.one la]) (aC Tryz.func40 rfl rfl) tl (fun B w g sl vs _ ht hv=>by
  match vs,hv with
  | [v],hv=>
   have e:=ka _ _ _ hv.1
   subst e
   refine(yf S _ ht hS f hf hb l_ hl hn ha y hy ey hp).mono ?_
   rintro e w' ⟨rfl,h2⟩
   exact⟨_,rfl,fun B' _=>⟨[.int .i64 _,.int .i64 _,.int .i64 _],rfl,aD k0 az,aD k1 az,rfl,trivial⟩,h2⟩)
theorem pS {ρ:Rho} {u:Nat} {l la:Leaf} {S:List St} {a:Int} (tl:lT ρ u 79 l S) (ka:KI ρ la .i64 a) {n0 n1:Nat} (k0:ρ[n0]? =some (.val (.int .i64 (((plN S a:Nat):Int) - 1)))) (k1:ρ[n1]? =some (.val (.int .i64 ((plN S a:Nat):Int)))) (hS:S.length≤64) (f:St) (hf:S[0]? =some f) (hb:f.tm≤a) (l_:St) (hl:S[S.length - 1]? =some l_) (hn:0<S.length) (ha:a≤l_.tm) (y:St) (hy:S[plN S a]? =some y) (ey:a<y.tm) (hp:plN S a<S.length) (h0:0<plN S a) {r:SV}:(OIns.mk (.mut 40 ⟨[],[(u,79,[l])],[],none,[],[.one (.ref n0),.one (.ref n1),.one (.i .i64 0)]⟩) [.one (.ptr u 0),.one la] r).Ok Tryz.prog ρ:=
 dt (args:=[.one la]) (aC Tryz.func40 rfl rfl) tl (fun B w g sl vs _ ht hv=>by
  match vs,hv with
  | [v],hv=>
   have e:=ka _ _ _ hv.1
   subst e
   refine(yg S _ ht hS f hf hb l_ hl hn ha y hy ey hp h0).mono ?_
   rintro e w' ⟨rfl,h2⟩
   exact⟨_,rfl,fun B' _=>⟨[.int .i64 _,.int .i64 _,.int .i64 _],rfl,aD k0 az,aD k1 az,rfl,trivial⟩,h2⟩)
def xq_AtEX (S:List St) (a:Int):List Fq:=[]
theorem q_AtE {w:World} {g:Nat} {sl:Value} (S:List St) (a:Int) (h:TrkS 79 w g sl S) (hS:S.length≤64) (hS0:S.length=0):
  Calls Tryz.prog 12 (.pointer (some ⟨g,0,none⟩)::[.int .i64 a]).toArray w fun e w'=>∃v0:Value,e= .returned (.tuple #[v0,.int .i64 6])∧fw w' v0 Pq.zero∧Below w.heap.size w w':=by
 refine(aM (ρ:=frs (xq_AtEX S a)++([.rowB true sl stT S.length (aF S),.val (.int .i64 a)]:List Vp)) (w:=w) (fuel:=300) (m:=0) (S':=S) (args:=[.one (.ptr 0 0),.one (.ref 1)]) (vs:=[.pointer (some ⟨g,0,none⟩),.int .i64 a]) (r:=.tup [.agg [.b false,.sl0,.sl0,.b false,.sl0,.sl0,.b false,.sl0,.sl0,.b false,.sl0,.sl0,.b false,.sl0,.sl0,.b false,.sl0,.sl0,.b false,.sl0,.sl0],.one (.i .i64 6)]) (l:=.ref 0) (lo:=[]) (obs:=[]) h
  (ah)
  (ae (pQ (u:=0) (l:=.ref 0) (oV (m:=0) rfl) (aj (n:=1) rfl) (by omega) hS0 (r:=.one .sl0)) (ai)) Tryz.func12 rfl (by kernel_rfl) aG ⟨cH,⟨aD (n:=1) rfl az,trivial⟩⟩ (dn rfl)).mono ?_
 rintro e w' ⟨v,B',rfl,⟨vs,rfl,h1⟩,h2,h3⟩
 match vs,h1 with
 | [x1,x2],h1=>
  have ex2:x2= .int .i64 6:=h1.2.1
  subst ex2
  exact⟨x1,rfl,(by obtain⟨cs,rfl,k1⟩:=h1.1;exact⟨_,rfl,fu (n:=7) k1⟩),h3 rfl⟩
def sE (S:List St) (a:Int):List Fq:=[]
theorem yi {w:World} {g:Nat} {sl:Value} (S:List St) (a:Int) (h:TrkS 79 w g sl S) (hS:S.length≤64) (hS0:S.length=0):
  Calls Tryz.prog 13 (.pointer (some ⟨g,0,none⟩)::[.int .i64 a]).toArray w fun e w'=>∃v0 v1:Value,e= .returned (.tuple #[v0,v1,.int .i64 6])∧dm w' v0 (⟨0,Pq.zero⟩)∧dm w' v1 (⟨0,Pq.zero⟩)∧Below w.heap.size w w':=by
 refine(aM (ρ:=frs (sE S a)++([.rowB true sl stT S.length (aF S),.val (.int .i64 a)]:List Vp)) (w:=w) (fuel:=300) (m:=0) (S':=S) (args:=[.one (.ptr 0 0),.one (.ref 1)]) (vs:=[.pointer (some ⟨g,0,none⟩),.int .i64 a]) (r:=.tup [.agg [.i .i64 0,.b false,.sl0,.sl0,.b false,.sl0,.sl0,.b false,.sl0,.sl0,.b false,.sl0,.sl0,.b false,.sl0,.sl0,.b false,.sl0,.sl0,.b false,.sl0,.sl0],.agg [.i .i64 0,.b false,.sl0,.sl0,.b false,.sl0,.sl0,.b false,.sl0,.sl0,.b false,.sl0,.sl0,.b false,.sl0,.sl0,.b false,.sl0,.sl0,.b false,.sl0,.sl0],.one (.i .i64 6)]) (l:=.ref 0) (lo:=[]) (obs:=[]) h
  (ah)
  (ae (pQ (u:=0) (l:=.ref 0) (oV (m:=0) rfl) (aj (n:=1) rfl) (by omega) hS0 (r:=.one .sl0)) (ai)) Tryz.func13 rfl (by kernel_rfl) aG ⟨cH,⟨aD (n:=1) rfl az,trivial⟩⟩ (dn rfl)).mono ?_
 rintro e w' ⟨v,B',rfl,⟨vs,rfl,h1⟩,h2,h3⟩
 match vs,h1 with
 | [x1,x2,x3],h1=>
  have ex3:x3= .int .i64 6:=h1.2.2.1
  subst ex3
  exact⟨x1,x2,rfl,(jn h1.1),(jn h1.2.1),h3 rfl⟩
def aaP (S:List St) (a:Int) (f:St):List Fq:=[]
theorem q_AtO1 {w:World} {g:Nat} {sl:Value} (S:List St) (a:Int) (h:TrkS 79 w g sl S) (hS:S.length≤64) (f:St) (hf:S[0]? =some f) (hn:0<S.length) (ha:a<f.tm):
  Calls Tryz.prog 12 (.pointer (some ⟨g,0,none⟩)::[.int .i64 a]).toArray w fun e w'=>∃v0:Value,e= .returned (.tuple #[v0,.int .i64 17])∧fw w' v0 Pq.zero∧Below w.heap.size w w':=by
 refine(aM (ρ:=frs (aaP S a f)++([.rowB true sl stT S.length (aF S),.val (.int .i64 a)]:List Vp)) (w:=w) (fuel:=300) (m:=0) (S':=S) (args:=[.one (.ptr 0 0),.one (.ref 1)]) (vs:=[.pointer (some ⟨g,0,none⟩),.int .i64 a]) (r:=.tup [.agg [.b false,.sl0,.sl0,.b false,.sl0,.sl0,.b false,.sl0,.sl0,.b false,.sl0,.sl0,.b false,.sl0,.sl0,.b false,.sl0,.sl0,.b false,.sl0,.sl0],.one (.i .i64 17)]) (l:=.ref 0) (lo:=[]) (obs:=[]) h
  (ah)
  (ae (oo (u:=0) (l:=.ref 0) (oV (m:=0) rfl) (aj (n:=1) rfl) (by omega) f hf hn ha (r:=.one .sl0)) (ai)) Tryz.func12 rfl (by kernel_rfl) aG ⟨cH,⟨aD (n:=1) rfl az,trivial⟩⟩ (dn rfl)).mono ?_
 rintro e w' ⟨v,B',rfl,⟨vs,rfl,h1⟩,h2,h3⟩
 match vs,h1 with
 | [x1,x2],h1=>
  have ex2:x2= .int .i64 17:=h1.2.1
  subst ex2
  exact⟨x1,rfl,(by obtain⟨cs,rfl,k1⟩:=h1.1;exact⟨_,rfl,fu (n:=7) k1⟩),h3 rfl⟩
def qO (S:List St) (a:Int) (f:St):List Fq:=[]
theorem uJ {w:World} {g:Nat} {sl:Value} (S:List St) (a:Int) (h:TrkS 79 w g sl S) (hS:S.length≤64) (f:St) (hf:S[0]? =some f) (hn:0<S.length) (ha:a<f.tm):
  Calls Tryz.prog 13 (.pointer (some ⟨g,0,none⟩)::[.int .i64 a]).toArray w fun e w'=>∃v0 v1:Value,e= .returned (.tuple #[v0,v1,.int .i64 17])∧dm w' v0 (⟨0,Pq.zero⟩)∧dm w' v1 (⟨0,Pq.zero⟩)∧Below w.heap.size w w':=by
 refine(aM (ρ:=frs (qO S a f)++([.rowB true sl stT S.length (aF S),.val (.int .i64 a)]:List Vp)) (w:=w) (fuel:=300) (m:=0) (S':=S) (args:=[.one (.ptr 0 0),.one (.ref 1)]) (vs:=[.pointer (some ⟨g,0,none⟩),.int .i64 a]) (r:=.tup [.agg [.i .i64 0,.b false,.sl0,.sl0,.b false,.sl0,.sl0,.b false,.sl0,.sl0,.b false,.sl0,.sl0,.b false,.sl0,.sl0,.b false,.sl0,.sl0,.b false,.sl0,.sl0],.agg [.i .i64 0,.b false,.sl0,.sl0,.b false,.sl0,.sl0,.b false,.sl0,.sl0,.b false,.sl0,.sl0,.b false,.sl0,.sl0,.b false,.sl0,.sl0,.b false,.sl0,.sl0],.one (.i .i64 17)]) (l:=.ref 0) (lo:=[]) (obs:=[]) h
  (ah)
  (ae (oo (u:=0) (l:=.ref 0) (oV (m:=0) rfl) (aj (n:=1) rfl) (by omega) f hf hn ha (r:=.one .sl0)) (ai)) Tryz.func13 rfl (by kernel_rfl) aG ⟨cH,⟨aD (n:=1) rfl az,trivial⟩⟩ (dn rfl)).mono ?_
 rintro e w' ⟨v,B',rfl,⟨vs,rfl,h1⟩,h2,h3⟩
 match vs,h1 with
 | [x1,x2,x3],h1=>
  have ex3:x3= .int .i64 17:=h1.2.2.1
  subst ex3
  exact⟨x1,x2,rfl,(jn h1.1),(jn h1.2.1),h3 rfl⟩
def aaQ (S:List St) (a:Int) (f:St) (l:St):List Fq:=[]
theorem q_AtO2 {w:World} {g:Nat} {sl:Value} (S:List St) (a:Int) (h:TrkS 79 w g sl S) (hS:S.length≤64) (f:St) (hf:S[0]? =some f) (hb:f.tm≤a) (l:St) (hl:S[S.length - 1]? =some l) (hn:0<S.length) (ha:l.tm<a):
  Calls Tryz.prog 12 (.pointer (some ⟨g,0,none⟩)::[.int .i64 a]).toArray w fun e w'=>∃v0:Value,e= .returned (.tuple #[v0,.int .i64 17])∧fw w' v0 Pq.zero∧Below w.heap.size w w':=by
 refine(aM (ρ:=frs (aaQ S a f l)++([.rowB true sl stT S.length (aF S),.val (.int .i64 a)]:List Vp)) (w:=w) (fuel:=300) (m:=0) (S':=S) (args:=[.one (.ptr 0 0),.one (.ref 1)]) (vs:=[.pointer (some ⟨g,0,none⟩),.int .i64 a]) (r:=.tup [.agg [.b false,.sl0,.sl0,.b false,.sl0,.sl0,.b false,.sl0,.sl0,.b false,.sl0,.sl0,.b false,.sl0,.sl0,.b false,.sl0,.sl0,.b false,.sl0,.sl0],.one (.i .i64 17)]) (l:=.ref 0) (lo:=[]) (obs:=[]) h
  (ah)
  (ae (oq (u:=0) (l:=.ref 0) (oV (m:=0) rfl) (aj (n:=1) rfl) (by omega) f hf hb l hl hn ha (r:=.one .sl0)) (ai)) Tryz.func12 rfl (by kernel_rfl) aG ⟨cH,⟨aD (n:=1) rfl az,trivial⟩⟩ (dn rfl)).mono ?_
 rintro e w' ⟨v,B',rfl,⟨vs,rfl,h1⟩,h2,h3⟩
 match vs,h1 with
 | [x1,x2],h1=>
  have ex2:x2= .int .i64 17:=h1.2.1
  subst ex2
  exact⟨x1,rfl,(by obtain⟨cs,rfl,k1⟩:=h1.1;exact⟨_,rfl,fu (n:=7) k1⟩),h3 rfl⟩
def qP (S:List St) (a:Int) (f:St) (l:St):List Fq:=[]
theorem uK {w:World} {g:Nat} {sl:Value} (S:List St) (a:Int) (h:TrkS 79 w g sl S) (hS:S.length≤64) (f:St) (hf:S[0]? =some f) (hb:f.tm≤a) (l:St) (hl:S[S.length - 1]? =some l) (hn:0<S.length) (ha:l.tm<a):
  Calls Tryz.prog 13 (.pointer (some ⟨g,0,none⟩)::[.int .i64 a]).toArray w fun e w'=>∃v0 v1:Value,e= .returned (.tuple #[v0,v1,.int .i64 17])∧dm w' v0 (⟨0,Pq.zero⟩)∧dm w' v1 (⟨0,Pq.zero⟩)∧Below w.heap.size w w':=by
 refine(aM (ρ:=frs (qP S a f l)++([.rowB true sl stT S.length (aF S),.val (.int .i64 a)]:List Vp)) (w:=w) (fuel:=300) (m:=0) (S':=S) (args:=[.one (.ptr 0 0),.one (.ref 1)]) (vs:=[.pointer (some ⟨g,0,none⟩),.int .i64 a]) (r:=.tup [.agg [.i .i64 0,.b false,.sl0,.sl0,.b false,.sl0,.sl0,.b false,.sl0,.sl0,.b false,.sl0,.sl0,.b false,.sl0,.sl0,.b false,.sl0,.sl0,.b false,.sl0,.sl0],.agg [.i .i64 0,.b false,.sl0,.sl0,.b false,.sl0,.sl0,.b false,.sl0,.sl0,.b false,.sl0,.sl0,.b false,.sl0,.sl0,.b false,.sl0,.sl0,.b false,.sl0,.sl0],.one (.i .i64 17)]) (l:=.ref 0) (lo:=[]) (obs:=[]) h
  (ah)
  (ae (oq (u:=0) (l:=.ref 0) (oV (m:=0) rfl) (aj (n:=1) rfl) (by omega) f hf hb l hl hn ha (r:=.one .sl0)) (ai)) Tryz.func13 rfl (by kernel_rfl) aG ⟨cH,⟨aD (n:=1) rfl az,trivial⟩⟩ (dn rfl)).mono ?_
 rintro e w' ⟨v,B',rfl,⟨vs,rfl,h1⟩,h2,h3⟩
 match vs,h1 with
 | [x1,x2,x3],h1=>
  have ex3:x3= .int .i64 17:=h1.2.2.1
  subst ex3
  exact⟨x1,x2,rfl,(jn h1.1),(jn h1.2.1),h3 rfl⟩
def wA (S:List St) (a:Int) (f:St) (l:St) (y:St):List Fq:=y.pose.cs
theorem q_AtQ {w:World} {g:Nat} {sl:Value} (S:List St) (a:Int) (h:TrkS 79 w g sl S) (hS:S.length≤64) (f:St) (hf:S[0]? =some f) (hb:f.tm≤a) (l:St) (hl:S[S.length - 1]? =some l) (hn:0<S.length) (ha:a≤l.tm) (y:St) (hy:S[plN S a]? =some y) (ey:y.tm=a) (hp:plN S a<S.length) (ky:y.pose.ok 2) (gy:y.pose.good):
  Calls Tryz.prog 12 (.pointer (some ⟨g,0,none⟩)::[.int .i64 a]).toArray w fun e w'=>∃v0:Value,e= .returned (.tuple #[v0,.int .i64 0])∧fw w' v0 y.pose∧Below w.heap.size w w':=by
 refine(aM (ρ:=frs (wA S a f l y)++([.rowB true sl stT S.length (aF S),.val (.int .i64 a),.val (.int .i64 ((plN S a:Nat):Int)),.plc stT y.qs,.val (.int .i64 y.tm)]:List Vp)) (w:=w) (fuel:=300) (m:=21) (S':=S) (args:=[.one (.ptr 0 0),.one (.ref 22)]) (vs:=[.pointer (some ⟨g,0,none⟩),.int .i64 a]) (r:=.tup [row [0,1,2,3,4,5,6],.one (.i .i64 0)]) (l:=.ref 21) (lo:=[]) (obs:=[]) h
  (af (iN (n:=25) (ks:=[0,1,2,3,4,5,6]) (s:=y) rfl ⟨rfl,rfl,rfl,rfl,rfl,rfl,rfl,trivial⟩ (ky.mono (by decide))) ah)
  (ae (pR (u:=0) (l:=.ref 21) (oV (m:=21) rfl) (aj (n:=22) rfl) (n0:=23) (n1:=23) rfl rfl (by omega) f hf hb l hl hn ha y hy ey hp (r:=.one .sl0)) (ae (iaB (n:=21) (m:=24) rfl rfl (bf (aj (n:=23) rfl) (by omega)) hy) (ae (xY y 24 25 [0,1,2,3,4,5,6] rfl rfl ⟨rfl,rfl,rfl,rfl,rfl,rfl,rfl,trivial⟩) (ae (aA (t:=3) (aj (n:=23) rfl) (aj (n:=23) rfl) (dj (by omega))) (ai))))) Tryz.func12 rfl (by kernel_rfl) aG ⟨cH,⟨aD (n:=22) rfl az,trivial⟩⟩ (dn rfl)).mono ?_
 rintro e w' ⟨v,B',rfl,⟨vs,rfl,h1⟩,h2,h3⟩
 match vs,h1 with
 | [x1,x2],h1=>
  have ex2:x2= .int .i64 0:=h1.2.1
  subst ex2
  exact⟨x1,rfl,((ag (xs:=wA S a f l y) (ks:=[0,1,2,3,4,5,6]) (vs:=y.pose.cs) ⟨rfl,rfl,rfl,rfl,rfl,rfl,rfl,trivial⟩).1 h1.1),h3 rfl⟩
def sF (S:List St) (a:Int) (f:St) (l:St) (y:St):List Fq:=y.pose.cs
theorem yj {w:World} {g:Nat} {sl:Value} (S:List St) (a:Int) (h:TrkS 79 w g sl S) (hS:S.length≤64) (f:St) (hf:S[0]? =some f) (hb:f.tm≤a) (l:St) (hl:S[S.length - 1]? =some l) (hn:0<S.length) (ha:a≤l.tm) (y:St) (hy:S[plN S a]? =some y) (ey:y.tm=a) (hp:plN S a<S.length) (ky:y.pose.ok 2) (gy:y.pose.good):
  Calls Tryz.prog 13 (.pointer (some ⟨g,0,none⟩)::[.int .i64 a]).toArray w fun e w'=>∃v0 v1:Value,e= .returned (.tuple #[v0,v1,.int .i64 0])∧dm w' v0 y∧dm w' v1 y∧Below w.heap.size w w':=by
 refine(aM (ρ:=frs (sF S a f l y)++([.rowB true sl stT S.length (aF S),.val (.int .i64 a),.val (.int .i64 ((plN S a:Nat):Int)),.plc stT y.qs,.val (.int .i64 y.tm)]:List Vp)) (w:=w) (fuel:=300) (m:=21) (S':=S) (args:=[.one (.ptr 0 0),.one (.ref 22)]) (vs:=[.pointer (some ⟨g,0,none⟩),.int .i64 a]) (r:=.tup [.agg (.ref 25::bN [0,1,2,3,4,5,6]),.agg (.ref 25::bN [0,1,2,3,4,5,6]),.one (.i .i64 0)]) (l:=.ref 21) (lo:=[]) (obs:=[]) h
  (af (iN (n:=25) (ks:=[0,1,2,3,4,5,6]) (s:=y) rfl ⟨rfl,rfl,rfl,rfl,rfl,rfl,rfl,trivial⟩ (ky.mono (by decide))) ah)
  (ae (pR (u:=0) (l:=.ref 21) (oV (m:=21) rfl) (aj (n:=22) rfl) (n0:=23) (n1:=23) rfl rfl (by omega) f hf hb l hl hn ha y hy ey hp (r:=.one .sl0)) (ae (iaB (n:=21) (m:=24) rfl rfl (bf (aj (n:=23) rfl) (by omega)) hy) (ae (xY y 24 25 [0,1,2,3,4,5,6] rfl rfl ⟨rfl,rfl,rfl,rfl,rfl,rfl,rfl,trivial⟩) (ai)))) Tryz.func13 rfl (by kernel_rfl) aG ⟨cH,⟨aD (n:=22) rfl az,trivial⟩⟩ (dn rfl)).mono ?_
 rintro e w' ⟨v,B',rfl,⟨vs,rfl,h1⟩,h2,h3⟩
 match vs,h1 with
 | [x1,x2,x3],h1=>
  have ex3:x3= .int .i64 0:=h1.2.2.1
  subst ex3
  exact⟨x1,x2,rfl,((cc (n:=25) (ks:=[0,1,2,3,4,5,6]) (s:=y) rfl ⟨rfl,rfl,rfl,rfl,rfl,rfl,rfl,trivial⟩).1 h1.1),((cc (n:=25) (ks:=[0,1,2,3,4,5,6]) (s:=y) rfl ⟨rfl,rfl,rfl,rfl,rfl,rfl,rfl,trivial⟩).1 h1.2.1),h3 rfl⟩
def wB (S:List St) (a:Int) (f:St) (l:St) (y:St) (z:St):List Fq:=(y.pose.cs++(z.pose.cs++([(Fq.ratio (a - z.tm) (y.tm - z.tm))]++((Pq.mk (z.pose.rot.way (z.pose.rot.inv.mul y.pose.rot) (Fq.ratio (a - z.tm) (y.tm - z.tm))) (z.pose.pos.lerp y.pose.pos (Fq.ratio (a - z.tm) (y.tm - z.tm)))).cs))))
theorem q_AtM {w:World} {g:Nat} {sl:Value} (S:List St) (a:Int) (h:TrkS 79 w g sl S) (hS:S.length≤64) (f:St) (hf:S[0]? =some f) (hb:f.tm≤a) (l:St) (hl:S[S.length - 1]? =some l) (hn:0<S.length) (ha:a≤l.tm) (y:St) (hy:S[plN S a]? =some y) (ey:a<y.tm) (hp:plN S a<S.length) (h0:0<plN S a) (ky:y.pose.ok 2) (gy:y.pose.good) (z:St) (hz:S[plN S a - 1]? =some z) (kz:z.pose.ok 2) (gz:z.pose.good) (t0:0≤y.tm) (t1:y.tm≤1099511627776) (t2:0≤z.tm) (t3:z.tm<a) (ow:¬opp z.pose y.pose):
  Calls Tryz.prog 12 (.pointer (some ⟨g,0,none⟩)::[.int .i64 a]).toArray w fun e w'=>∃v0:Value,e= .returned (.tuple #[v0,.int .i64 0])∧fw w' v0 (Pq.mk (z.pose.rot.way (z.pose.rot.inv.mul y.pose.rot) (Fq.ratio (a - z.tm) (y.tm - z.tm))) (z.pose.pos.lerp y.pose.pos (Fq.ratio (a - z.tm) (y.tm - z.tm))))∧Below w.heap.size w w':=by
 refine(aM (ρ:=frs (wB S a f l y z)++([.rowB true sl stT S.length (aF S),.val (.int .i64 a),.val (.int .i64 ((plN S a:Nat):Int)),.val (.int .i64 (((plN S a:Nat):Int) - 1)),.plc stT z.qs,.val (.int .i64 z.tm),.plc stT y.qs,.val (.int .i64 y.tm),.val (.int .i64 (a - z.tm)),.val (.int .i64 (y.tm - z.tm))]:List Vp)) (w:=w) (fuel:=300) (m:=66) (S':=S) (args:=[.one (.ptr 0 0),.one (.ref 67)]) (vs:=[.pointer (some ⟨g,0,none⟩),.int .i64 a]) (r:=.tup [row [15,16,17,18,19,20,21],.one (.i .i64 0)]) (l:=.ref 66) (lo:=[]) (obs:=[]) h
  (af (od (v:=(a - z.tm)) (u:=(y.tm - z.tm)) (k:=14) (aj (n:=74) rfl) (aj (n:=75) rfl) (by omega) (by omega) (by omega) (by omega) (by omega) rfl) (af (sk (ka:=[7,8,9,10,11,12,13]) (a:=z.pose) (kb:=[0,1,2,3,4,5,6]) (b:=y.pose) (im:=14) (kr:=[15,16,17,18,19,20,21]) ⟨rfl,rfl,rfl,rfl,rfl,rfl,rfl,trivial⟩ ⟨rfl,rfl,rfl,rfl,rfl,rfl,rfl,trivial⟩ rfl ⟨rfl,rfl,rfl,rfl,rfl,rfl,rfl,trivial⟩ (kz.mono (by decide)) (ky.mono (by decide)) ((eC (v:=(a - z.tm)) (u:=(y.tm - z.tm)) (by omega) (by omega) (by omega) (by omega) (by omega)).mono (by decide)) gz gy (fR (v:=(a - z.tm)) (u:=(y.tm - z.tm)) (by omega)) ow) ah))
  (ae (pS (u:=0) (l:=.ref 66) (oV (m:=66) rfl) (aj (n:=67) rfl) (n0:=69) (n1:=68) rfl rfl (by omega) f hf hb l hl hn ha y hy ey hp h0 (r:=.one .sl0)) (ae (iaB (n:=66) (m:=70) rfl rfl (bf (aj (n:=69) rfl) (by omega)) hz) (ae (xY z 70 71 [7,8,9,10,11,12,13] rfl rfl ⟨rfl,rfl,rfl,rfl,rfl,rfl,rfl,trivial⟩) (ae (aA (t:=3) (aj (n:=69) rfl) (aj (n:=68) rfl) (bu (by omega))) (ae (iaB (n:=66) (m:=72) rfl rfl (bf (aj (n:=68) rfl) (by omega)) hy) (ae (xY y 72 73 [0,1,2,3,4,5,6] rfl rfl ⟨rfl,rfl,rfl,rfl,rfl,rfl,rfl,trivial⟩) (ae (cE (m:=74) (t:=3) (aj (n:=67) rfl) (aj (n:=71) rfl) rfl rfl (by omega) (by omega)) (ae (cE (m:=75) (t:=3) (aj (n:=73) rfl) (aj (n:=71) rfl) rfl rfl (by omega) (by omega)) (ai))))))))) Tryz.func12 rfl (by kernel_rfl) aG ⟨cH,⟨aD (n:=67) rfl az,trivial⟩⟩ (dn rfl)).mono ?_
 rintro e w' ⟨v,B',rfl,⟨vs,rfl,h1⟩,h2,h3⟩
 match vs,h1 with
 | [x1,x2],h1=>
  have ex2:x2= .int .i64 0:=h1.2.1
  subst ex2
  exact⟨x1,rfl,((ag (xs:=wB S a f l y z) (ks:=[15,16,17,18,19,20,21]) (vs:=(Pq.mk (z.pose.rot.way (z.pose.rot.inv.mul y.pose.rot) (Fq.ratio (a - z.tm) (y.tm - z.tm))) (z.pose.pos.lerp y.pose.pos (Fq.ratio (a - z.tm) (y.tm - z.tm)))).cs) ⟨rfl,rfl,rfl,rfl,rfl,rfl,rfl,trivial⟩).1 h1.1),h3 rfl⟩
def sG (S:List St) (a:Int) (f:St) (l:St) (y:St) (z:St):List Fq:=(y.pose.cs++(z.pose.cs))
theorem yk {w:World} {g:Nat} {sl:Value} (S:List St) (a:Int) (h:TrkS 79 w g sl S) (hS:S.length≤64) (f:St) (hf:S[0]? =some f) (hb:f.tm≤a) (l:St) (hl:S[S.length - 1]? =some l) (hn:0<S.length) (ha:a≤l.tm) (y:St) (hy:S[plN S a]? =some y) (ey:a<y.tm) (hp:plN S a<S.length) (h0:0<plN S a) (ky:y.pose.ok 2) (gy:y.pose.good) (z:St) (hz:S[plN S a - 1]? =some z) (kz:z.pose.ok 2) (gz:z.pose.good):
  Calls Tryz.prog 13 (.pointer (some ⟨g,0,none⟩)::[.int .i64 a]).toArray w fun e w'=>∃v0 v1:Value,e= .returned (.tuple #[v0,v1,.int .i64 0])∧dm w' v0 z∧dm w' v1 y∧Below w.heap.size w w':=by
 refine(aM (ρ:=frs (sG S a f l y z)++([.rowB true sl stT S.length (aF S),.val (.int .i64 a),.val (.int .i64 ((plN S a:Nat):Int)),.val (.int .i64 (((plN S a:Nat):Int) - 1)),.plc stT z.qs,.val (.int .i64 z.tm),.plc stT y.qs,.val (.int .i64 y.tm)]:List Vp)) (w:=w) (fuel:=300) (m:=42) (S':=S) (args:=[.one (.ptr 0 0),.one (.ref 43)]) (vs:=[.pointer (some ⟨g,0,none⟩),.int .i64 a]) (r:=.tup [.agg (.ref 47::bN [7,8,9,10,11,12,13]),.agg (.ref 49::bN [0,1,2,3,4,5,6]),.one (.i .i64 0)]) (l:=.ref 42) (lo:=[]) (obs:=[]) h
  (af (iN (n:=47) (ks:=[7,8,9,10,11,12,13]) (s:=z) rfl ⟨rfl,rfl,rfl,rfl,rfl,rfl,rfl,trivial⟩ (kz.mono (by decide))) (af (iN (n:=49) (ks:=[0,1,2,3,4,5,6]) (s:=y) rfl ⟨rfl,rfl,rfl,rfl,rfl,rfl,rfl,trivial⟩ (ky.mono (by decide))) ah))
  (ae (pS (u:=0) (l:=.ref 42) (oV (m:=42) rfl) (aj (n:=43) rfl) (n0:=45) (n1:=44) rfl rfl (by omega) f hf hb l hl hn ha y hy ey hp h0 (r:=.one .sl0)) (ae (iaB (n:=42) (m:=46) rfl rfl (bf (aj (n:=45) rfl) (by omega)) hz) (ae (xY z 46 47 [7,8,9,10,11,12,13] rfl rfl ⟨rfl,rfl,rfl,rfl,rfl,rfl,rfl,trivial⟩) (ae (iaB (n:=42) (m:=48) rfl rfl (bf (aj (n:=44) rfl) (by omega)) hy) (ae (xY y 48 49 [0,1,2,3,4,5,6] rfl rfl ⟨rfl,rfl,rfl,rfl,rfl,rfl,rfl,trivial⟩) (ai)))))) Tryz.func13 rfl (by kernel_rfl) aG ⟨cH,⟨aD (n:=43) rfl az,trivial⟩⟩ (dn rfl)).mono ?_
 rintro e w' ⟨v,B',rfl,⟨vs,rfl,h1⟩,h2,h3⟩
 match vs,h1 with
 | [x1,x2,x3],h1=>
  have ex3:x3= .int .i64 0:=h1.2.2.1
  subst ex3
  exact⟨x1,x2,rfl,((cc (n:=47) (ks:=[7,8,9,10,11,12,13]) (s:=z) rfl ⟨rfl,rfl,rfl,rfl,rfl,rfl,rfl,trivial⟩).1 h1.1),((cc (n:=49) (ks:=[0,1,2,3,4,5,6]) (s:=y) rfl ⟨rfl,rfl,rfl,rfl,rfl,rfl,rfl,trivial⟩).1 h1.2.1),h3 rfl⟩
def yl (S:List St):List Fq:=[]
theorem q_Span0 {w:World} {g:Nat} {sl:Value} (S:List St) (h:TrkS 79 w g sl S) (hS:S.length≤64) (hS0:S.length=0):
  Calls Tryz.prog 20 (.pointer (some ⟨g,0,none⟩)::[]).toArray w fun e w'=>e= .returned (.tuple #[.int .i64 0,.int .i64 0,.bool false])∧Below w.heap.size w w':=by
 refine(aM (ρ:=frs (yl S)++([.rowB true sl stT S.length (aF S),.val (.int .i64 (S.length:Int))]:List Vp)) (w:=w) (fuel:=300) (m:=0) (S':=S) (args:=[.one (.ptr 0 0)]) (vs:=[.pointer (some ⟨g,0,none⟩)]) (r:=.tup [.one (.i .i64 0),.one (.i .i64 0),.one (.b false)]) (l:=.ref 0) (lo:=[]) (obs:=[]) h
  (ah)
  (ae (ba (y:=0) (o:=0) (t:=39) ⟨_,Tryz.underlying39⟩) (ae (dC 0 1 rfl rfl) (ae (aA (t:=3) (aj (n:=1) rfl) (aJ (c:=0)) (dj (by omega))) (ai)))) Tryz.func20 rfl (by kernel_rfl) aG ⟨cH,trivial⟩ (dn rfl)).mono ?_
 rintro e w' ⟨v,B',rfl,⟨vs,rfl,h1⟩,h2,h3⟩
 match vs,h1 with
 | [x1,x2,x3],h1=>
  have ex1:x1= .int .i64 0:=h1.1
  subst ex1
  have ex2:x2= .int .i64 0:=h1.2.1
  subst ex2
  have ex3:x3= .bool false:=h1.2.2.1
  subst ex3
  exact⟨rfl,h3 rfl⟩
def ym (S:List St) (f:St) (l:St):List Fq:=[]
theorem q_Span1 {w:World} {g:Nat} {sl:Value} (S:List St) (h:TrkS 79 w g sl S) (hS:S.length≤64) (f:St) (hf:S[0]? =some f) (l:St) (hl:S[S.length - 1]? =some l) (hn:0<S.length):
  Calls Tryz.prog 20 (.pointer (some ⟨g,0,none⟩)::[]).toArray w fun e w'=>e= .returned (.tuple #[.int .i64 f.tm,.int .i64 l.tm,.bool true])∧Below w.heap.size w w':=by
 refine(aM (ρ:=frs (ym S f l)++([.rowB true sl stT S.length (aF S),.val (.int .i64 (S.length:Int)),.plc stT f.qs,.val (.int .i64 f.tm),.val (.int .i64 ((S.length:Int) - 1)),.plc stT l.qs,.val (.int .i64 l.tm)]:List Vp)) (w:=w) (fuel:=300) (m:=0) (S':=S) (args:=[.one (.ptr 0 0)]) (vs:=[.pointer (some ⟨g,0,none⟩)]) (r:=.tup [.one (.ref 3),.one (.ref 6),.one (.b true)]) (l:=.ref 0) (lo:=[]) (obs:=[]) h
  (ah)
  (ae (ba (y:=0) (o:=0) (t:=39) ⟨_,Tryz.underlying39⟩) (ae (dC 0 1 rfl rfl) (ae (aA (t:=3) (aj (n:=1) rfl) (aJ (c:=0)) (bu (by omega))) (ae (iaB (n:=0) (m:=2) rfl rfl (bf (aJ (c:=0)) (by omega)) hf) (ae (fa0 f 2 rfl) (ae (ldt f 2 3 rfl rfl) (ae (cE (m:=4) (t:=3) (aj (n:=1) rfl) (aJ (c:=1)) rfl rfl (by omega) (by omega)) (ae (iaB (n:=0) (m:=5) rfl rfl (bf (aj (n:=4) rfl) (by omega)) hl) (ae (fa0 l 5 rfl) (ae (ldt l 5 6 rfl rfl) (ai))))))))))) Tryz.func20 rfl (by kernel_rfl) aG ⟨cH,trivial⟩ (dn rfl)).mono ?_
 rintro e w' ⟨v,B',rfl,⟨vs,rfl,h1⟩,h2,h3⟩
 match vs,h1 with
 | [x1,x2,x3],h1=>
  have ex1:x1= .int .i64 f.tm:=bj rfl h1.1
  subst ex1
  have ex2:x2= .int .i64 l.tm:=bj rfl h1.2.1
  subst ex2
  have ex3:x3= .bool true:=h1.2.2.1
  subst ex3
  exact⟨rfl,h3 rfl⟩
def xq_LenX (S:List St):List Fq:=[]
theorem q_Len {w:World} {g:Nat} {sl:Value} (S:List St) (h:TrkS 79 w g sl S) (hS:S.length≤64):
  Calls Tryz.prog 25 (.pointer (some ⟨g,0,none⟩)::[]).toArray w fun e w'=>e= .returned (.int .i64 (S.length:Int))∧Below w.heap.size w w':=by
 refine(aM (ρ:=frs (xq_LenX S)++([.rowB true sl stT S.length (aF S),.val (.int .i64 (S.length:Int))]:List Vp)) (w:=w) (fuel:=300) (m:=0) (S':=S) (args:=[.one (.ptr 0 0)]) (vs:=[.pointer (some ⟨g,0,none⟩)]) (r:=.v (.one (.ref 1))) (l:=.ref 0) (lo:=[]) (obs:=[]) h
  (ah)
  (ae (ba (y:=0) (o:=0) (t:=39) ⟨_,Tryz.underlying39⟩) (ae (dC 0 1 rfl rfl) (ai))) Tryz.func25 rfl (by kernel_rfl) aG ⟨cH,trivial⟩ (dn rfl)).mono ?_
 rintro e w' ⟨v,B',rfl,h1,h2,h3⟩
 have ev:v= .int .i64 (S.length:Int):=bj rfl h1
 subst ev
 exact⟨rfl,h3 rfl⟩
def uL (S:List St) (a:Int):List Fq:=[]
theorem aaR {w:World} {g:Nat} {sl:Value} (S:List St) (a:Int) (h:TrkS 79 w g sl S) (hS:S.length≤64) (hp:plN S a=S.length) (h1:plN S a≤1):
  Calls Tryz.prog 26 (.pointer (some ⟨g,0,none⟩)::[.int .i64 a]).toArray w fun e w'=>e= .returned (.int .i64 0)∧TrkM 79 w g sl S w':=by
 have hle:=bi S a
 have hd1:(S.drop (plN S a)).length=S.length - plN S a:=List.length_drop ..
 have hd2:(S.drop (plN S a - 1)).length=S.length - (plN S a - 1):=List.length_drop ..
 refine(aM (ρ:=frs (uL S a)++([.rowB true sl stT S.length (aF S),.val (.int .i64 a),.val (.int .i64 ((plN S a:Nat):Int)),.val (.int .i64 (S.length:Int)),.val (.int .i64 (((plN S a:Nat):Int) - 1))]:List Vp)) (w:=w) (fuel:=300) (m:=0) (S':=S) (args:=[.one (.ptr 0 0),.one (.ref 1)]) (vs:=[.pointer (some ⟨g,0,none⟩),.int .i64 a]) (r:=.v (.one (.i .i64 0))) (l:=.ref 0) (lo:=[]) (obs:=[]) h
  (ah)
  (ae (ba (y:=0) (o:=0) (t:=39) ⟨_,Tryz.underlying39⟩) (ae (ck (u:=0) (m:=0) (S:=S) (a:=a) (n:=2) (r:=.one .sl0) rfl (aj (n:=1) rfl) rfl (by omega)) (ae (dC 0 3 rfl rfl) (ae (aA (t:=3) (aj (n:=2) rfl) (aj (n:=3) rfl) (dj (by omega))) (ae (cE (m:=4) (t:=3) (aj (n:=2) rfl) (aJ (c:=1)) rfl rfl (by omega) (by omega)) (ae (aA (t:=3) (aj (n:=4) rfl) (aJ (c:=0)) (cG (by omega))) (ai))))))) Tryz.func26 rfl (by kernel_rfl) aG ⟨cH,⟨aD (n:=1) rfl az,trivial⟩⟩ (dn rfl)).mono ?_
 rintro e w' ⟨v,B',rfl,h1,h2,h3⟩
 have ev:v= .int .i64 0:=h1
 subst ev
 exact⟨rfl,h2⟩
def uM (S:List St) (a:Int):List Fq:=[]
theorem aaS {w:World} {g:Nat} {sl:Value} (S:List St) (a:Int) (h:TrkS 79 w g sl S) (hS:S.length≤64) (hp:plN S a=S.length) (h1:2≤plN S a):
  Calls Tryz.prog 26 (.pointer (some ⟨g,0,none⟩)::[.int .i64 a]).toArray w fun e w'=>e= .returned (.int .i64 (((plN S a:Nat):Int) - 1))∧TrkM 79 w g sl (S.drop (plN S a - 1)) w':=by
 have hle:=bi S a
 have hd1:(S.drop (plN S a)).length=S.length - plN S a:=List.length_drop ..
 have hd2:(S.drop (plN S a - 1)).length=S.length - (plN S a - 1):=List.length_drop ..
 refine(aM (ρ:=frs (uM S a)++([.rowB true sl stT S.length (aF S),.val (.int .i64 a),.val (.int .i64 ((plN S a:Nat):Int)),.val (.int .i64 (S.length:Int)),.val (.int .i64 (((plN S a:Nat):Int) - 1)),.rowB false sl stT (S.drop (plN S a - 1)).length (aF (S.drop (plN S a - 1))),.ownr stT 22 (S.drop (plN S a - 1)).length (aF (S.drop (plN S a - 1)))]:List Vp)) (w:=w) (fuel:=300) (m:=0) (S':=S.drop (plN S a - 1)) (args:=[.one (.ptr 0 0),.one (.ref 1)]) (vs:=[.pointer (some ⟨g,0,none⟩),.int .i64 a]) (r:=.v (.one (.ref 4))) (l:=.own 0 6) (lo:=[]) (obs:=[]) h
  (ah)
  (ae (ba (y:=0) (o:=0) (t:=39) ⟨_,Tryz.underlying39⟩) (ae (ck (u:=0) (m:=0) (S:=S) (a:=a) (n:=2) (r:=.one .sl0) rfl (aj (n:=1) rfl) rfl (by omega)) (ae (dC 0 3 rfl rfl) (ae (aA (t:=3) (aj (n:=2) rfl) (aj (n:=3) rfl) (dj (by omega))) (ae (cE (m:=4) (t:=3) (aj (n:=2) rfl) (aJ (c:=1)) rfl rfl (by omega) (by omega)) (ae (aA (t:=3) (aj (n:=4) rfl) (aJ (c:=0)) (dU (by omega))) (ae (oe (n:=0) (m:=5) (k:=(plN S a - 1)) (t:=22) Tryz.underlying22 (by kernel_rfl) rfl (by rfl) rfl (bf (aj (n:=4) rfl) (by omega)) (by omega)) (ae (cP (k:=0) (m:=6) (S:=(S.drop (plN S a - 1))) (r:=.one .sl0) (oT (n:=5) rfl) rfl (by omega)) (ai))))))))) Tryz.func26 rfl (by kernel_rfl) aG ⟨cH,⟨aD (n:=1) rfl az,trivial⟩⟩ (oU rfl)).mono ?_
 rintro e w' ⟨v,B',rfl,h1,h2,h3⟩
 have ev:v= .int .i64 (((plN S a:Nat):Int) - 1):=bj rfl h1
 subst ev
 exact⟨rfl,h2⟩
def uN (S:List St) (a:Int) (y:St):List Fq:=[]
theorem aaT {w:World} {g:Nat} {sl:Value} (S:List St) (a:Int) (h:TrkS 79 w g sl S) (hS:S.length≤64) (y:St) (hy:S[plN S a]? =some y) (hp:plN S a<S.length) (ey:a<y.tm) (h1:plN S a≤1):
  Calls Tryz.prog 26 (.pointer (some ⟨g,0,none⟩)::[.int .i64 a]).toArray w fun e w'=>e= .returned (.int .i64 0)∧TrkM 79 w g sl S w':=by
 have hle:=bi S a
 have hd1:(S.drop (plN S a)).length=S.length - plN S a:=List.length_drop ..
 have hd2:(S.drop (plN S a - 1)).length=S.length - (plN S a - 1):=List.length_drop ..
 refine(aM (ρ:=frs (uN S a y)++([.rowB true sl stT S.length (aF S),.val (.int .i64 a),.val (.int .i64 ((plN S a:Nat):Int)),.val (.int .i64 (S.length:Int)),.plc stT y.qs,.val (.int .i64 y.tm),.val (.int .i64 (((plN S a:Nat):Int) - 1))]:List Vp)) (w:=w) (fuel:=300) (m:=0) (S':=S) (args:=[.one (.ptr 0 0),.one (.ref 1)]) (vs:=[.pointer (some ⟨g,0,none⟩),.int .i64 a]) (r:=.v (.one (.i .i64 0))) (l:=.ref 0) (lo:=[]) (obs:=[]) h
  (ah)
  (ae (ba (y:=0) (o:=0) (t:=39) ⟨_,Tryz.underlying39⟩) (ae (ck (u:=0) (m:=0) (S:=S) (a:=a) (n:=2) (r:=.one .sl0) rfl (aj (n:=1) rfl) rfl (by omega)) (ae (dC 0 3 rfl rfl) (ae (aA (t:=3) (aj (n:=2) rfl) (aj (n:=3) rfl) (bu (by omega))) (ae (iaB (n:=0) (m:=4) rfl rfl (bf (aj (n:=2) rfl) (by omega)) hy) (ae (fa0 y 4 rfl) (ae (ldt y 4 5 rfl rfl) (ae (aA (t:=3) (aj (n:=5) rfl) (aj (n:=1) rfl) (bD (by omega))) (ae (cE (m:=6) (t:=3) (aj (n:=2) rfl) (aJ (c:=1)) rfl rfl (by omega) (by omega)) (ae (aA (t:=3) (aj (n:=6) rfl) (aJ (c:=0)) (cG (by omega))) (ai))))))))))) Tryz.func26 rfl (by kernel_rfl) aG ⟨cH,⟨aD (n:=1) rfl az,trivial⟩⟩ (dn rfl)).mono ?_
 rintro e w' ⟨v,B',rfl,h1,h2,h3⟩
 have ev:v= .int .i64 0:=h1
 subst ev
 exact⟨rfl,h2⟩
def uO (S:List St) (a:Int) (y:St):List Fq:=[]
theorem aaU {w:World} {g:Nat} {sl:Value} (S:List St) (a:Int) (h:TrkS 79 w g sl S) (hS:S.length≤64) (y:St) (hy:S[plN S a]? =some y) (hp:plN S a<S.length) (ey:a<y.tm) (h1:2≤plN S a):
  Calls Tryz.prog 26 (.pointer (some ⟨g,0,none⟩)::[.int .i64 a]).toArray w fun e w'=>e= .returned (.int .i64 (((plN S a:Nat):Int) - 1))∧TrkM 79 w g sl (S.drop (plN S a - 1)) w':=by
 have hle:=bi S a
 have hd1:(S.drop (plN S a)).length=S.length - plN S a:=List.length_drop ..
 have hd2:(S.drop (plN S a - 1)).length=S.length - (plN S a - 1):=List.length_drop ..
 refine(aM (ρ:=frs (uO S a y)++([.rowB true sl stT S.length (aF S),.val (.int .i64 a),.val (.int .i64 ((plN S a:Nat):Int)),.val (.int .i64 (S.length:Int)),.plc stT y.qs,.val (.int .i64 y.tm),.val (.int .i64 (((plN S a:Nat):Int) - 1)),.rowB false sl stT (S.drop (plN S a - 1)).length (aF (S.drop (plN S a - 1))),.ownr stT 22 (S.drop (plN S a - 1)).length (aF (S.drop (plN S a - 1)))]:List Vp)) (w:=w) (fuel:=300) (m:=0) (S':=S.drop (plN S a - 1)) (args:=[.one (.ptr 0 0),.one (.ref 1)]) (vs:=[.pointer (some ⟨g,0,none⟩),.int .i64 a]) (r:=.v (.one (.ref 6))) (l:=.own 0 8) (lo:=[]) (obs:=[]) h
  (ah)
  (ae (ba (y:=0) (o:=0) (t:=39) ⟨_,Tryz.underlying39⟩) (ae (ck (u:=0) (m:=0) (S:=S) (a:=a) (n:=2) (r:=.one .sl0) rfl (aj (n:=1) rfl) rfl (by omega)) (ae (dC 0 3 rfl rfl) (ae (aA (t:=3) (aj (n:=2) rfl) (aj (n:=3) rfl) (bu (by omega))) (ae (iaB (n:=0) (m:=4) rfl rfl (bf (aj (n:=2) rfl) (by omega)) hy) (ae (fa0 y 4 rfl) (ae (ldt y 4 5 rfl rfl) (ae (aA (t:=3) (aj (n:=5) rfl) (aj (n:=1) rfl) (bD (by omega))) (ae (cE (m:=6) (t:=3) (aj (n:=2) rfl) (aJ (c:=1)) rfl rfl (by omega) (by omega)) (ae (aA (t:=3) (aj (n:=6) rfl) (aJ (c:=0)) (dU (by omega))) (ae (oe (n:=0) (m:=7) (k:=(plN S a - 1)) (t:=22) Tryz.underlying22 (by kernel_rfl) rfl (by rfl) rfl (bf (aj (n:=6) rfl) (by omega)) (by omega)) (ae (cP (k:=0) (m:=8) (S:=(S.drop (plN S a - 1))) (r:=.one .sl0) (oT (n:=7) rfl) rfl (by omega)) (ai))))))))))))) Tryz.func26 rfl (by kernel_rfl) aG ⟨cH,⟨aD (n:=1) rfl az,trivial⟩⟩ (oU rfl)).mono ?_
 rintro e w' ⟨v,B',rfl,h1,h2,h3⟩
 have ev:v= .int .i64 (((plN S a:Nat):Int) - 1):=bj rfl h1
 subst ev
 exact⟨rfl,h2⟩
def uP (S:List St) (a:Int) (y:St):List Fq:=[]
theorem aaV {w:World} {g:Nat} {sl:Value} (S:List St) (a:Int) (h:TrkS 79 w g sl S) (hS:S.length≤64) (y:St) (hy:S[plN S a]? =some y) (hp:plN S a<S.length) (ey:y.tm≤a) (h1:plN S a=0):
  Calls Tryz.prog 26 (.pointer (some ⟨g,0,none⟩)::[.int .i64 a]).toArray w fun e w'=>e= .returned (.int .i64 0)∧TrkM 79 w g sl S w':=by
 have hle:=bi S a
 have hd1:(S.drop (plN S a)).length=S.length - plN S a:=List.length_drop ..
 have hd2:(S.drop (plN S a - 1)).length=S.length - (plN S a - 1):=List.length_drop ..
 refine(aM (ρ:=frs (uP S a y)++([.rowB true sl stT S.length (aF S),.val (.int .i64 a),.val (.int .i64 ((plN S a:Nat):Int)),.val (.int .i64 (S.length:Int)),.plc stT y.qs,.val (.int .i64 y.tm)]:List Vp)) (w:=w) (fuel:=300) (m:=0) (S':=S) (args:=[.one (.ptr 0 0),.one (.ref 1)]) (vs:=[.pointer (some ⟨g,0,none⟩),.int .i64 a]) (r:=.v (.one (.i .i64 0))) (l:=.ref 0) (lo:=[]) (obs:=[]) h
  (ah)
  (ae (ba (y:=0) (o:=0) (t:=39) ⟨_,Tryz.underlying39⟩) (ae (ck (u:=0) (m:=0) (S:=S) (a:=a) (n:=2) (r:=.one .sl0) rfl (aj (n:=1) rfl) rfl (by omega)) (ae (dC 0 3 rfl rfl) (ae (aA (t:=3) (aj (n:=2) rfl) (aj (n:=3) rfl) (bu (by omega))) (ae (iaB (n:=0) (m:=4) rfl rfl (bf (aj (n:=2) rfl) (by omega)) hy) (ae (fa0 y 4 rfl) (ae (ldt y 4 5 rfl rfl) (ae (aA (t:=3) (aj (n:=5) rfl) (aj (n:=1) rfl) (aX (by omega))) (ae (aA (t:=3) (aj (n:=2) rfl) (aJ (c:=0)) (cG (by omega))) (ai)))))))))) Tryz.func26 rfl (by kernel_rfl) aG ⟨cH,⟨aD (n:=1) rfl az,trivial⟩⟩ (dn rfl)).mono ?_
 rintro e w' ⟨v,B',rfl,h1,h2,h3⟩
 have ev:v= .int .i64 0:=h1
 subst ev
 exact⟨rfl,h2⟩
def uQ (S:List St) (a:Int) (y:St):List Fq:=[]
theorem aaW {w:World} {g:Nat} {sl:Value} (S:List St) (a:Int) (h:TrkS 79 w g sl S) (hS:S.length≤64) (y:St) (hy:S[plN S a]? =some y) (hp:plN S a<S.length) (ey:y.tm≤a) (h1:1≤plN S a):
  Calls Tryz.prog 26 (.pointer (some ⟨g,0,none⟩)::[.int .i64 a]).toArray w fun e w'=>e= .returned (.int .i64 ((plN S a:Nat):Int))∧TrkM 79 w g sl (S.drop (plN S a)) w':=by
 have hle:=bi S a
 have hd1:(S.drop (plN S a)).length=S.length - plN S a:=List.length_drop ..
 have hd2:(S.drop (plN S a - 1)).length=S.length - (plN S a - 1):=List.length_drop ..
 refine(aM (ρ:=frs (uQ S a y)++([.rowB true sl stT S.length (aF S),.val (.int .i64 a),.val (.int .i64 ((plN S a:Nat):Int)),.val (.int .i64 (S.length:Int)),.plc stT y.qs,.val (.int .i64 y.tm),.rowB false sl stT (S.drop (plN S a)).length (aF (S.drop (plN S a))),.ownr stT 22 (S.drop (plN S a)).length (aF (S.drop (plN S a)))]:List Vp)) (w:=w) (fuel:=300) (m:=0) (S':=S.drop (plN S a)) (args:=[.one (.ptr 0 0),.one (.ref 1)]) (vs:=[.pointer (some ⟨g,0,none⟩),.int .i64 a]) (r:=.v (.one (.ref 2))) (l:=.own 0 7) (lo:=[]) (obs:=[]) h
  (ah)
  (ae (ba (y:=0) (o:=0) (t:=39) ⟨_,Tryz.underlying39⟩) (ae (ck (u:=0) (m:=0) (S:=S) (a:=a) (n:=2) (r:=.one .sl0) rfl (aj (n:=1) rfl) rfl (by omega)) (ae (dC 0 3 rfl rfl) (ae (aA (t:=3) (aj (n:=2) rfl) (aj (n:=3) rfl) (bu (by omega))) (ae (iaB (n:=0) (m:=4) rfl rfl (bf (aj (n:=2) rfl) (by omega)) hy) (ae (fa0 y 4 rfl) (ae (ldt y 4 5 rfl rfl) (ae (aA (t:=3) (aj (n:=5) rfl) (aj (n:=1) rfl) (aX (by omega))) (ae (aA (t:=3) (aj (n:=2) rfl) (aJ (c:=0)) (dU (by omega))) (ae (oe (n:=0) (m:=6) (k:=(plN S a)) (t:=22) Tryz.underlying22 (by kernel_rfl) rfl (by rfl) rfl (bf (aj (n:=2) rfl) (by omega)) (by omega)) (ae (cP (k:=0) (m:=7) (S:=(S.drop (plN S a))) (r:=.one .sl0) (oT (n:=6) rfl) rfl (by omega)) (ai)))))))))))) Tryz.func26 rfl (by kernel_rfl) aG ⟨cH,⟨aD (n:=1) rfl az,trivial⟩⟩ (oU rfl)).mono ?_
 rintro e w' ⟨v,B',rfl,h1,h2,h3⟩
 have ev:v= .int .i64 ((plN S a:Nat):Int):=bj rfl h1
 subst ev
 exact⟨rfl,h2⟩
end Go.Proofs.YtfhinmdhjlmikaaGreat
namespace Go.Proofs.YtfhinmdhjlmikaaGreat
set_option linter.unusedSimpArgs false
set_option linter.unusedVariables false
set_option maxRecDepth 100000
open Go.RowKit
/-- Numbers that are not too long. -/
structure RSt.sm (x:RSt):Prop where
 h0:x.r0.L≤1000000∧x.r0.N≤1000000
 h1:x.r1.L≤1000000∧x.r1.N≤1000000
 h2:x.r2.L≤1000000∧x.r2.N≤1000000
 h3:x.r3.L≤1000000∧x.r3.N≤1000000
 h4:x.r4.L≤1000000∧x.r4.N≤1000000
 h5:x.r5.L≤1000000∧x.r5.N≤1000000
 h6:x.r6.L≤1000000∧x.r6.N≤1000000
theorem Fq.ok.sm {x:Fq} (h:x.ok 2):x.raw.L≤1000000∧x.raw.N≤1000000:=⟨Nat.le_trans h.p (by decide),Nat.le_trans h.q (by decide)⟩
theorem St.sm {s:St} (h:s.pose.ok 2):s.raw.sm:=⟨h.rot.w.sm,h.rot.x.sm,h.rot.y.sm,h.rot.z.sm,h.pos.x.sm,h.pos.y.sm,h.pos.z.sm⟩
/-- Stamps in order of time. -/
def ot (S:List St):Prop:=∀(i j:Nat) (x y:St),i<j→S[i]? =some x→S[j]? =some y→x.tm<y.tm
theorem ot.tail {s:St} {S:List St} (h:ot (s::S)):ot S:=fun i j x y hij hx hy=>h (i+1) (j+1) x y (by omega) (by simpa using hx) (by simpa using hy)
theorem kU:∀ {S:List St} {b:Int} {k:Nat} {x:St},ot S→plN S b≤k→S[k]? =some x→¬x.tm<b
 | [],_,_,_,_,_,h=>by simp at h
 | s::S,b,k,x,hs,hk,hx=>by
  simp only[plN]at hk
  split at hk
  ·cases k with
   | zero=>omega
   | succ k=>exact kU (k:=k) hs.tail (by omega) (by simpa using hx)
  ·rename_i hsb
   cases k with
   | zero=>simp at hx;subst hx;exact hsb
   | succ k=>have:=hs 0 (k+1) s x (by omega) rfl hx;omega
section
variable {ρ:Rho} {n m j:Nat} {l la:Leaf} {x:St} {S1 S2 E:List St}
end
end Go.Proofs.YtfhinmdhjlmikaaGreat
namespace Go.Proofs.YtfhinmdhjlmikaaGreat
set_option linter.unusedSimpArgs false
set_option linter.unusedVariables false
set_option maxRecDepth 100000
open Go.RowKit
def uR (S:List St) (x:RSt) (v:Value):List Fq:=[]
theorem aaX {w:World} {g:Nat} {sl:Value} (S:List St) (x:RSt) (v:Value) (h:TrkS 79 w g sl S) (i:jt w v x) (hx:x.sm) (r0:x.tm<0):
  Calls Tryz.prog 14 (.pointer (some ⟨g,0,none⟩)::[v]).toArray w fun e w'=>e= .returned (.int .i64 4)∧TrkM 79 w g sl S w':=by
 refine(aM (ρ:=frs (uR S x v)++([.rowB true sl stT S.length (aF S),.val (.int .i64 x.tm),.val (.bool x.r0.s),.dig x.r0.L x.r0.p,.dig x.r0.N x.r0.q,.val (.bool x.r1.s),.dig x.r1.L x.r1.p,.dig x.r1.N x.r1.q,.val (.bool x.r2.s),.dig x.r2.L x.r2.p,.dig x.r2.N x.r2.q,.val (.bool x.r3.s),.dig x.r3.L x.r3.p,.dig x.r3.N x.r3.q,.val (.bool x.r4.s),.dig x.r4.L x.r4.p,.dig x.r4.N x.r4.q,.val (.bool x.r5.s),.dig x.r5.L x.r5.p,.dig x.r5.N x.r5.q,.val (.bool x.r6.s),.dig x.r6.L x.r6.p,.dig x.r6.N x.r6.q]:List Vp)) (w:=w) (fuel:=300) (m:=0) (S':=S) (args:=[.one (.ptr 0 0),.agg [.ref 1,.ref 2,.ref 3,.ref 4,.ref 5,.ref 6,.ref 7,.ref 8,.ref 9,.ref 10,.ref 11,.ref 12,.ref 13,.ref 14,.ref 15,.ref 16,.ref 17,.ref 18,.ref 19,.ref 20,.ref 21,.ref 22]]) (vs:=[.pointer (some ⟨g,0,none⟩),v]) (r:=.v (.one (.i .i64 4))) (l:=.ref 0) (lo:=[]) (obs:=[]) h
  (ah)
  (ae (ba (y:=0) (o:=0) (t:=39) ⟨_,Tryz.underlying39⟩) (ae (aA (t:=3) (aj (n:=1) rfl) (aJ (c:=0)) (a8 (by omega))) (ai))) Tryz.func14 rfl (by kernel_rfl) aG ⟨cH,⟨(eG (n:=1) (ns:=[2,5,8,11,14,17,20]) (x:=x) rfl ⟨⟨rfl,rfl,rfl⟩,⟨rfl,rfl,rfl⟩,⟨rfl,rfl,rfl⟩,⟨rfl,rfl,rfl⟩,⟨rfl,rfl,rfl⟩,⟨rfl,rfl,rfl⟩,⟨rfl,rfl,rfl⟩,trivial⟩).2 i,trivial⟩⟩ (dn rfl)).mono ?_
 rintro e w' ⟨v,B',rfl,h1,h2,h3⟩
 have e1:v= .int .i64 4:=h1
 subst e1
 exact⟨rfl,h2⟩
def uS (S:List St) (x:RSt) (v:Value):List Fq:=[]
theorem aaY {w:World} {g:Nat} {sl:Value} (S:List St) (x:RSt) (v:Value) (h:TrkS 79 w g sl S) (i:jt w v x) (hx:x.sm) (r0:1099511627776<x.tm):
  Calls Tryz.prog 14 (.pointer (some ⟨g,0,none⟩)::[v]).toArray w fun e w'=>e= .returned (.int .i64 4)∧TrkM 79 w g sl S w':=by
 refine(aM (ρ:=frs (uS S x v)++([.rowB true sl stT S.length (aF S),.val (.int .i64 x.tm),.val (.bool x.r0.s),.dig x.r0.L x.r0.p,.dig x.r0.N x.r0.q,.val (.bool x.r1.s),.dig x.r1.L x.r1.p,.dig x.r1.N x.r1.q,.val (.bool x.r2.s),.dig x.r2.L x.r2.p,.dig x.r2.N x.r2.q,.val (.bool x.r3.s),.dig x.r3.L x.r3.p,.dig x.r3.N x.r3.q,.val (.bool x.r4.s),.dig x.r4.L x.r4.p,.dig x.r4.N x.r4.q,.val (.bool x.r5.s),.dig x.r5.L x.r5.p,.dig x.r5.N x.r5.q,.val (.bool x.r6.s),.dig x.r6.L x.r6.p,.dig x.r6.N x.r6.q]:List Vp)) (w:=w) (fuel:=300) (m:=0) (S':=S) (args:=[.one (.ptr 0 0),.agg [.ref 1,.ref 2,.ref 3,.ref 4,.ref 5,.ref 6,.ref 7,.ref 8,.ref 9,.ref 10,.ref 11,.ref 12,.ref 13,.ref 14,.ref 15,.ref 16,.ref 17,.ref 18,.ref 19,.ref 20,.ref 21,.ref 22]]) (vs:=[.pointer (some ⟨g,0,none⟩),v]) (r:=.v (.one (.i .i64 4))) (l:=.ref 0) (lo:=[]) (obs:=[]) h
  (ah)
  (ae (ba (y:=0) (o:=0) (t:=39) ⟨_,Tryz.underlying39⟩) (ae (aA (t:=3) (aj (n:=1) rfl) (aJ (c:=0)) (aU (by omega))) (ae (aA (t:=3) (aj (n:=1) rfl) (aJ (c:=1099511627776)) (bD (by omega))) (ai)))) Tryz.func14 rfl (by kernel_rfl) aG ⟨cH,⟨(eG (n:=1) (ns:=[2,5,8,11,14,17,20]) (x:=x) rfl ⟨⟨rfl,rfl,rfl⟩,⟨rfl,rfl,rfl⟩,⟨rfl,rfl,rfl⟩,⟨rfl,rfl,rfl⟩,⟨rfl,rfl,rfl⟩,⟨rfl,rfl,rfl⟩,⟨rfl,rfl,rfl⟩,trivial⟩).2 i,trivial⟩⟩ (dn rfl)).mono ?_
 rintro e w' ⟨v,B',rfl,h1,h2,h3⟩
 have e1:v= .int .i64 4:=h1
 subst e1
 exact⟨rfl,h2⟩
def sH (S:List St) (x:RSt) (v:Value):List Fq:=[]
theorem yn {w:World} {g:Nat} {sl:Value} (S:List St) (x:RSt) (v:Value) (h:TrkS 79 w g sl S) (i:jt w v x) (hx:x.sm) (r0:0≤x.tm) (r1:x.tm≤1099511627776) (hv:sy x.r0 x.r1 x.r2 x.r3 x.r4 x.r5 x.r6=false):
  Calls Tryz.prog 14 (.pointer (some ⟨g,0,none⟩)::[v]).toArray w fun e w'=>e= .returned (.int .i64 4)∧TrkM 79 w g sl S w':=by
 refine(aM (ρ:=frs (sH S x v)++([.rowB true sl stT S.length (aF S),.val (.int .i64 x.tm),.val (.bool x.r0.s),.dig x.r0.L x.r0.p,.dig x.r0.N x.r0.q,.val (.bool x.r1.s),.dig x.r1.L x.r1.p,.dig x.r1.N x.r1.q,.val (.bool x.r2.s),.dig x.r2.L x.r2.p,.dig x.r2.N x.r2.q,.val (.bool x.r3.s),.dig x.r3.L x.r3.p,.dig x.r3.N x.r3.q,.val (.bool x.r4.s),.dig x.r4.L x.r4.p,.dig x.r4.N x.r4.q,.val (.bool x.r5.s),.dig x.r5.L x.r5.p,.dig x.r5.N x.r5.q,.val (.bool x.r6.s),.dig x.r6.L x.r6.p,.dig x.r6.N x.r6.q]:List Vp)) (w:=w) (fuel:=300) (m:=0) (S':=S) (args:=[.one (.ptr 0 0),.agg [.ref 1,.ref 2,.ref 3,.ref 4,.ref 5,.ref 6,.ref 7,.ref 8,.ref 9,.ref 10,.ref 11,.ref 12,.ref 13,.ref 14,.ref 15,.ref 16,.ref 17,.ref 18,.ref 19,.ref 20,.ref 21,.ref 22]]) (vs:=[.pointer (some ⟨g,0,none⟩),v]) (r:=.v (.one (.i .i64 4))) (l:=.ref 0) (lo:=[]) (obs:=[]) h
  (af (uG (ns:=[2,5,8,11,14,17,20]) (r0:=x.r0) (r1:=x.r1) (r2:=x.r2) (r3:=x.r3) (r4:=x.r4) (r5:=x.r5) (r6:=x.r6) (d:=false) ⟨⟨rfl,rfl,rfl⟩,⟨rfl,rfl,rfl⟩,⟨rfl,rfl,rfl⟩,⟨rfl,rfl,rfl⟩,⟨rfl,rfl,rfl⟩,⟨rfl,rfl,rfl⟩,⟨rfl,rfl,rfl⟩,trivial⟩ hv hx.h0.1 hx.h0.2 hx.h1.1 hx.h1.2 hx.h2.1 hx.h2.2 hx.h3.1 hx.h3.2 hx.h4.1 hx.h4.2 hx.h5.1 hx.h5.2 hx.h6.1 hx.h6.2) ah)
  (ae (ba (y:=0) (o:=0) (t:=39) ⟨_,Tryz.underlying39⟩) (ae (aA (t:=3) (aj (n:=1) rfl) (aJ (c:=0)) (aU (by omega))) (ae (aA (t:=3) (aj (n:=1) rfl) (aJ (c:=1099511627776)) (aX (by omega))) (ai)))) Tryz.func14 rfl (by kernel_rfl) aG ⟨cH,⟨(eG (n:=1) (ns:=[2,5,8,11,14,17,20]) (x:=x) rfl ⟨⟨rfl,rfl,rfl⟩,⟨rfl,rfl,rfl⟩,⟨rfl,rfl,rfl⟩,⟨rfl,rfl,rfl⟩,⟨rfl,rfl,rfl⟩,⟨rfl,rfl,rfl⟩,⟨rfl,rfl,rfl⟩,trivial⟩).2 i,trivial⟩⟩ (dn rfl)).mono ?_
 rintro e w' ⟨v,B',rfl,h1,h2,h3⟩
 have e1:v= .int .i64 4:=h1
 subst e1
 exact⟨rfl,h2⟩
end Go.Proofs.YtfhinmdhjlmikaaGreat
namespace Go.Proofs.YtfhinmdhjlmikaaGreat
set_option linter.unusedSimpArgs false
set_option linter.unusedVariables false
set_option maxRecDepth 100000
open Go.RowKit
structure GoodT (s:St):Prop where
 ok:s.pose.ok 2
 good:s.pose.good
 lo:0≤s.tm
 hi:s.tm≤1099511627776
/-- The stamps of a track. -/
structure GoodS (S:List St):Prop where
 len:S.length≤64
 all:∀x∈S,GoodT x
 sort:ot S
 adj:∀(i:Nat) (x y:St),S[i]? =some x→S[i+1]? =some y→¬opp x.pose y.pose
theorem GoodS.at {S:List St} (h:GoodS S) {k:Nat} {x:St} (hx:S[k]? =some x):GoodT x:=h.all x (List.mem_of_getElem? hx)
theorem GoodS.nil:GoodS []:=⟨by simp,fun x h=>by simp at h,fun i j x y _ h=>by simp at h,fun i x y h=>by simp at h⟩
theorem GoodS.drop {S:List St} (h:GoodS S) (k:Nat):GoodS (S.drop k) where
 len:=by have:=h.len;rw[List.length_drop];omega
 all:=fun x hx=>h.all x (List.mem_of_mem_drop hx)
 sort:=fun i j x y hij hx hy=>by rw[List.getElem?_drop]at hx hy;exact h.sort _ _ _ _ (by omega) hx hy
 adj:=fun i x y hx hy=>by rw[List.getElem?_drop]at hx hy;exact h.adj (k+i) x y hx (by rw[←hy];rfl)
theorem qQ {S:List St} {p i:Nat} {s:St} (hp:p≤S.length) (h:i<p):(aS S p s)[i]? =S[i]? :=by
 unfold aS
 rw[List.getElem?_append_left (by rw[List.length_take];omega),List.getElem?_take,if_pos h]
theorem qR {S:List St} {p:Nat} {s:St} (hp:p≤S.length):(aS S p s)[p]? =some s:=by
 unfold aS
 have h1:(S.take p).length=p:=by rw[List.length_take];omega
 rw[List.getElem?_append_right (by omega),h1,Nat.sub_self];rfl
theorem ou {S:List St} {p i:Nat} {s:St} (hp:p≤S.length) (h:p≤i):(aS S p s)[i+1]? =S[i]? :=by
 unfold aS
 have h1:(S.take p).length=p:=by rw[List.length_take];omega
 rw[List.getElem?_append_right (by omega),h1,show i+1 - p=(i - p)+1 by omega,List.getElem?_cons_succ,List.getElem?_drop,show p+(i - p)=i by omega]
theorem sI {S:List St} {s:St} (h:ot S) (hn:∀y,S[plN S s.tm]? =some y→y.tm≠s.tm):ot (aS S (plN S s.tm) s):=by
 have hp:=bi S s.tm
 have hb:∀i x,i<plN S s.tm→S[i]? =some x→x.tm<s.tm:=fun i x hi hx=>by
  obtain⟨x',h1,h2⟩:=di hi
  rw[h1]at hx;injection hx with hx;subst hx;exact h2
 have ha:∀i x,plN S s.tm≤i→S[i]? =some x→s.tm<x.tm:=fun i x hi hx=>by
  have h1:=kU h hi hx
  by_cases e:i=plN S s.tm
  ·subst e;have:=hn x hx;omega
  ·have hl:plN S s.tm<S.length:=by have:=(List.getElem?_eq_some_iff.1 hx).1;omega
   have h2:=h _ _ _ _ (show plN S s.tm<i by omega) (List.getElem?_eq_getElem hl) hx
   have h3:=kU h (Nat.le_refl _) (List.getElem?_eq_getElem hl)
   omega
 intro i j x y hij hx hy
 rcases Nat.lt_trichotomy i (plN S s.tm)with hi | hi | hi
 ·rw[qQ hp hi]at hx
  rcases Nat.lt_trichotomy j (plN S s.tm)with hj | hj | hj
  ·rw[qQ hp hj]at hy;exact h _ _ _ _ hij hx hy
  ·subst hj;rw[qR hp]at hy;injection hy with hy;subst hy;exact hb i x hi hx
  ·obtain⟨j,rfl⟩:∃k,j=k+1:=⟨j - 1,by omega⟩
   rw[ou hp (by omega)]at hy
   have:=hb i x hi hx;have:=ha j y (by omega) hy;omega
 ·subst hi;rw[qR hp]at hx;injection hx with hx;subst hx
  obtain⟨j,rfl⟩:∃k,j=k+1:=⟨j - 1,by omega⟩
  rw[ou hp (by omega)]at hy;exact ha j y (by omega) hy
 ·obtain⟨j,rfl⟩:∃k,j=k+1:=⟨j - 1,by omega⟩
  obtain⟨i,rfl⟩:∃k,i=k+1:=⟨i - 1,by omega⟩
  rw[ou hp (by omega)]at hx hy
  exact h _ _ _ _ (by omega) hx hy
theorem wC {S:List St} {s:St} (h:GoodS S) (hz:∀z,0<plN S s.tm→S[plN S s.tm - 1]? =some z→¬opp z.pose s.pose) (hy:∀y,S[plN S s.tm]? =some y→¬opp s.pose y.pose):∀(i:Nat) (x y:St),(aS S (plN S s.tm) s)[i]? =some x→(aS S (plN S s.tm) s)[i+1]? =some y→¬opp x.pose y.pose:=by
 have hp:=bi S s.tm
 intro i x y hx hy'
 rcases Nat.lt_trichotomy i (plN S s.tm)with hi | hi | hi
 ·rw[qQ hp hi]at hx
  by_cases e:i+1=plN S s.tm
  ·rw[e,qR hp]at hy';injection hy' with hy';subst hy'
   exact hz x (by omega) (by rw[←e];exact hx)
  ·rw[qQ hp (by omega)]at hy';exact h.adj i x y hx hy'
 ·subst hi;rw[qR hp]at hx;injection hx with hx;subst hx
  rw[ou hp (Nat.le_refl _)]at hy';exact hy y hy'
 ·obtain⟨i,rfl⟩:∃k,i=k+1:=⟨i - 1,by omega⟩
  rw[ou hp (by omega)]at hx hy'
  exact h.adj i x y hx hy'
open Classical in
/-- What Add makes of a list, and its answer. -/
noncomputable def fF (S:List St) (s:St):List St×Int:=
 if s.tm<0∨1099511627776<s.tm then(S,4)
 else if∃y,S[plN S s.tm]? =some y∧y.tm=s.tm∧y.pose=s.pose then(S,0)
 else if∃y,S[plN S s.tm]? =some y∧y.tm=s.tm then(S,7)
 else if (∃z,0<plN S s.tm∧S[plN S s.tm - 1]? =some z∧opp z.pose s.pose)∨(∃y,S[plN S s.tm]? =some y∧opp s.pose y.pose)then(S,21)
 else if S.length<64 then(aS S (plN S s.tm) s,0)else((aS S (plN S s.tm) s).drop 1,0)
theorem jo {S:List St} {s:St} (h:GoodS S) (hs:s.pose.ok 2) (gs:s.pose.good):GoodS (fF S s).1:=by
 unfold fF
 split
 ·exact h
 ·rename_i ht
  split
  ·exact h
  ·split
   ·exact h
   ·rename_i h1 h2
    split
    ·exact h
    ·rename_i h3
     have hp:=bi S s.tm
     have hn:∀y,S[plN S s.tm]? =some y→y.tm≠s.tm:=fun y hy e=>h2 ⟨y,hy,e⟩
     have hz:∀z,0<plN S s.tm→S[plN S s.tm - 1]? =some z→¬opp z.pose s.pose:=fun z h0 hz ho=>h3 (.inl ⟨z,h0,hz,ho⟩)
     have hy:∀y,S[plN S s.tm]? =some y→¬opp s.pose y.pose:=fun y hy ho=>h3 (.inr ⟨y,hy,ho⟩)
     have hg:∀x∈aS S (plN S s.tm) s,GoodT x:=fun x hx=>by
      unfold aS at hx
      rcases List.mem_append.1 hx with hx | hx
      ·exact h.all x (List.mem_of_mem_take hx)
      ·rcases List.mem_cons.1 hx with hx | hx
       ·subst hx;exact⟨hs,gs,by omega,by omega⟩
       ·exact h.all x (List.mem_of_mem_drop hx)
     have hl:=bP (s:=s) hp
     split
     ·exact⟨by show(aS S (plN S s.tm) s).length≤64;omega,hg,sI h.sort hn,wC h hz hy⟩
     ·have hd:((aS S (plN S s.tm) s).drop 1).length=(aS S (plN S s.tm) s).length - 1:=List.length_drop ..
      have hlen:=h.len
      refine⟨by show((aS S (plN S s.tm) s).drop 1).length≤64;omega,fun x hx=>hg x (List.mem_of_mem_drop hx),fun i j x y hij hx hy'=> ?_,fun i x y hx hy'=> ?_⟩
      ·simp only[List.getElem?_drop]at hx hy'
       exact sI h.sort hn _ _ _ _ (by omega) hx hy'
      ·simp only[List.getElem?_drop]at hx hy'
       exact wC h hz hy (1+i) x y hx (by rw[←hy'];rfl)
theorem q_Add (S:List St) (s:St) (v:Value) {w:World} {g:Nat} {sl:Value} (h:TrkS 79 w g sl S) (i:dm w v s) (hs:s.pose.ok 2) (gs:s.pose.good) (hS:GoodS S):
  Calls Tryz.prog 14 (.pointer (some ⟨g,0,none⟩)::[v]).toArray w fun e w'=>e= .returned (.int .i64 (fF S s).2)∧TrkM 79 w g sl (fF S s).1 w':=by
 have hp:=bi S s.tm
 have hlen:=hS.len
 unfold fF
 split
 ·rename_i ht
  rcases ht with ht | ht
  ·exact q_addLo S s v h i hs gs hlen ht
  ·exact q_addHi S s v h i hs gs hlen ht
 ·rename_i ht
  have r0:0≤s.tm:=by omega
  have r1:s.tm≤1099511627776:=by omega
  split
  ·rename_i h1
   obtain⟨y,hy,ey,ep⟩:=h1
   have hg:=hS.at hy
   exact xZ S s v h i hs gs hlen r0 r1 (List.getElem?_eq_some_iff.1 hy).1 y hy hg.ok hg.good ey ep
  ·rename_i h1
   split
   ·rename_i h2
    obtain⟨y,hy,ey⟩:=h2
    have hg:=hS.at hy
    exact aaJ S s v h i hs gs hlen r0 r1 (List.getElem?_eq_some_iff.1 hy).1 y hy hg.ok hg.good ey (fun e=>h1 ⟨y,hy,ey,e⟩)
   ·rename_i h2
    have hpz:∀hz:0<plN S s.tm,∃z,S[plN S s.tm - 1]? =some z:=fun hz=>⟨_,List.getElem?_eq_getElem (by omega)⟩
    by_cases hq:plN S s.tm<S.length
    ·obtain⟨y,hy⟩:∃y,S[plN S s.tm]? =some y:=⟨_,List.getElem?_eq_getElem hq⟩
     have hg:=hS.at hy
     have ey:y.tm≠s.tm:=fun e=>h2 ⟨y,hy,e⟩
     have ho:=kU hS.sort (Nat.le_refl _) hy
     by_cases hp0:plN S s.tm=0
     ·split
      ·rename_i h3
       have oy:opp s.pose y.pose:=by
        rcases h3 with⟨z,h0,_⟩ | ⟨y',hy',o⟩
        ·omega
        ·rw[hy]at hy';injection hy' with hy';subst hy';exact o
       exact q_addB0 S s v h i hs gs hlen r0 r1 hq hp0 y hy hg.ok hg.good ey ho oy
      ·rename_i h3
       have oy:¬opp s.pose y.pose:=fun o=>h3 (.inr ⟨y,hy,o⟩)
       split
       ·rename_i hl;exact q_addI0 S s v h i hs gs hlen r0 r1 hq hp0 y hy hg.ok hg.good ey ho oy hl
       ·exact aaK S s v h i hs gs hlen r0 r1 hq hp0 y hy hg.ok hg.good ey ho oy (by omega)
     ·obtain⟨z,hz⟩:=hpz (by omega)
      have hgz:=hS.at hz
      by_cases oz:opp z.pose s.pose
      ·rw[if_pos (.inl ⟨z,by omega,hz,oz⟩)]
       exact q_addBM S s v h i hs gs hlen r0 r1 hq y hy hg.ok hg.good ey ho z hz hgz.ok hgz.good (by omega) oz
      ·by_cases oy:opp s.pose y.pose
       ·rw[if_pos (.inr ⟨y,hy,oy⟩)]
        exact q_addBN S s v h i hs gs hlen r0 r1 hq y hy hg.ok hg.good ey ho z hz hgz.ok hgz.good (by omega) oz oy
       ·rw[if_neg (fun h3=>by
         rcases h3 with⟨z',_,hz',o⟩ | ⟨y',hy',o⟩
         ·rw[hz]at hz';injection hz' with hz';subst hz';exact oz o
         ·rw[hy]at hy';injection hy' with hy';subst hy';exact oy o)]
        split
        ·rename_i hl;exact q_addIM S s v h i hs gs hlen r0 r1 hq y hy hg.ok hg.good ey ho z hz hgz.ok hgz.good (by omega) oz oy hl
        ·exact aaM S s v h i hs gs hlen r0 r1 hq y hy hg.ok hg.good ey ho z hz hgz.ok hgz.good (by omega) oz oy (by omega)
    ·have hq:plN S s.tm=S.length:=by omega
     have hny:∀y,S[plN S s.tm]? ≠some y:=fun y hy=>by have:=(List.getElem?_eq_some_iff.1 hy).1;omega
     by_cases hp0:plN S s.tm=0
     ·rw[if_neg (fun h3=>by
       rcases h3 with⟨z',h0,_⟩ | ⟨y',hy',o⟩
       ·omega
       ·exact hny _ hy'),if_pos (by omega)]
      exact q_addN S s v h i hs gs hlen r0 r1 hq hp0
     ·obtain⟨z,hz⟩:=hpz (by omega)
      have hgz:=hS.at hz
      by_cases oz:opp z.pose s.pose
      ·rw[if_pos (.inl ⟨z,by omega,hz,oz⟩)]
       exact q_addBE S s v h i hs gs hlen r0 r1 hq z hz hgz.ok hgz.good (by omega) oz
      ·rw[if_neg (fun h3=>by
        rcases h3 with⟨z',_,hz',o⟩ | ⟨y',hy',o⟩
        ·rw[hz]at hz';injection hz' with hz';subst hz';exact oz o
        ·exact hny _ hy')]
       split
       ·rename_i hl;exact q_addIE S s v h i hs gs hlen r0 r1 hq z hz hgz.ok hgz.good (by omega) oz hl
       ·exact aaL S s v h i hs gs hlen r0 r1 hq z hz hgz.ok hgz.good (by omega) oz (by omega)
end Go.Proofs.YtfhinmdhjlmikaaGreat
