/- magnitude of package fraction, size of the reference. mark, Sign of package fraction; Sign of the reference. Cmp, Lerp, Int, Ratio; copied. Valid, of package fraction and of the reference. strings.Cut at a slash, strings.CutPrefix at a minus. Parse of package fraction. -/
import Derived.Test.YtfhinmdhjlmikaaGreatP08
import Derived.Lib.Bytealg
import Derived.Lib.Strings
namespace Go.Proofs.YtfhinmdhjlmikaaGreat
set_option linter.unusedSimpArgs false
set_option linter.unusedVariables false
set_option maxRecDepth 100000
open Go.RowKit
theorem wrap_mag (v:Int) (h1: -9223372036854775808≤v) (hv:v<0):IntKind.u64.wrap (-IntKind.u64.wrap v)=((v.natAbs:Nat):Int):=by
 simp only[IntKind.wrap,IntKind.signed,IntKind.bits,Bool.false_and,Bool.false_eq_true,if_false]
 omega
theorem c_mag (v:Int) (w:World) (h1: -9223372036854775808≤v) (h2:v<9223372036854775808):
  Calls Tryz.prog 65 #[.int .i64 v] w fun e w'=>RetN w v.natAbs e w':=by
 obtain⟨m0,k0⟩:=resN (w:=w)
 have c0:=k0.cell
 have f0:=k0.frozen
 have fin:∀e w9,dD (w.alloc (.cells #[.slice none 0 0] 25)) v.natAbs e w9→∃a c,e= .returned (.agg #[.slice a (nl v.natAbs) c])∧IsN w9 (.agg #[.slice a (nl v.natAbs) c]) v.natAbs∧bf w9 w.heap.size none 0 0∧Below w.heap.size w w9:=by
  rintro e w9 ⟨x,rfl,nx,hb⟩
  have nx:=nx.isN
  obtain⟨a,c,rfl⟩:=nx.shape
  exact⟨a,c,rfl,nx,k0.mono hb k0.lt,m0.trans (hb.mono m0.size)⟩
 go_enter Tryz.func65,Tryz.ntmps65
 by_cases hv:v<0
 ·have e0:=wrap_mag v h1 hv
  have E0:=Lib.hid e0
  clear e0
  go_wp2_with fail
  rw[E0.out]
  refine(fA v.natAbs _ (by omega)).mono ?_
  rintro e w9 h9
  obtain⟨a,c,rfl,nx,k9,hb⟩:=fin e w9 h9
  have c9:=k9.cell
  have f9:=k9.frozen
  clear c0 f0 fin h9
  go_wp2
  exact bodyPost_ret (res_N rfl rfl k9.set) rfl ⟨_,rfl,nx.setVar k9,hb.setCell (p:=⟨w.heap.size,0,none⟩) (Nat.le_refl _) _⟩
 ·obtain⟨n,hn⟩:∃n:Nat,Hid (v=(n:Int)):=⟨v.natAbs,Lib.hid (by omega)⟩
  have hnn:Hid (v.natAbs=n):=Lib.hid (by have:=hn.out;omega)
  go_wp2_with fail
  rw[show v=((v.natAbs:Nat):Int)from by omega]
  refine(fA v.natAbs _ (by omega)).mono ?_
  rintro e w9 h9
  obtain⟨a,c,rfl,nx,k9,hb⟩:=fin e w9 h9
  have c9:=k9.cell
  have f9:=k9.frozen
  clear c0 f0 fin h9
  go_wp2
  exact bodyPost_ret (res_N rfl rfl k9.set) rfl ⟨_,rfl,nx.setVar k9,hb.setCell (p:=⟨w.heap.size,0,none⟩) (Nat.le_refl _) _⟩
theorem c_size (v:Int) (w:World) (h1: -9223372036854775808≤v) (h2:v<9223372036854775808):
  Calls Tryz.prog 55 #[.int .i64 v] w fun e w'=>bH w (.int .u64 (v.natAbs:Int)) e w':=by
 go_enter Tryz.func55,Tryz.ntmps55
 by_cases hv:v<0
 ·go_wp2
  go_ret
  refine⟨?_,Below.refl _ _⟩
  simp only[Array.getD_eq_getD_getElem?,List.getElem?_toArray,List.getElem?_cons_succ,List.getElem?_cons_zero,Option.getD_some,Ending.returned.injEq,Value.int.injEq,true_and,IntKind.wrap,IntKind.signed,IntKind.bits,Bool.false_and,Bool.false_eq_true,if_false,if_true]
  omega
 ·go_wp2
  go_ret
  refine⟨?_,Below.refl _ _⟩
  simp only[Array.getD_eq_getD_getElem?,List.getElem?_toArray,List.getElem?_cons_succ,List.getElem?_cons_zero,Option.getD_some,Ending.returned.injEq,Value.int.injEq,true_and]
  omega
end Go.Proofs.YtfhinmdhjlmikaaGreat
namespace Go.Proofs.YtfhinmdhjlmikaaGreat
set_option linter.unusedSimpArgs false
set_option linter.unusedVariables false
set_option maxRecDepth 100000
open Go.RowKit
/-- Block g is a variable of type signed. -/
def km (w:World) (g:Nat) (a b:Bool):Prop:=w.heap[g]? =some (.cells #[.bool a,.bool b] 136 (0,0))
theorem km.lt {w:World} {g:Nat} {a b:Bool} (h:km w g a b):g<w.heap.size:=(Array.getElem?_eq_some_iff.1 h).1
theorem km.mono {w w':World} {g B:Nat} {a b:Bool} (h:km w g a b) (hb:Below B w w') (hB:g<B):km w' g a b:=(hb.block g hB).trans h
theorem km.cell1 {w:World} {g:Nat} {a b:Bool} (h:km w g a b):w.cell? ⟨g,1,none⟩=some (.bool b):=by rw[cell_of_row w g 1 _ _ (0,0) h];rfl
theorem km.own {w:World} {g:Nat} {a b:Bool} (h:km w g a b):Own w g:=⟨_,_,h,fun k n=>by
 match k with
 | 0=>intro h;cases h
 | 1=>intro h;cases h
 | k+2=>intro h;simp at h⟩
theorem km.upd {w w':World} {g g':Nat} {a b:Bool} (h:km w g' a b) (_:Own w g) (u:Upd w g w') (hn:g'≠g):km w' g' a b:=(u.block g' hn).trans h
theorem km.any {w:World} {g:Nat} {a b:Bool} (h:km w g a b):∃a b,km w g a b:=⟨_,_,h⟩
section
variable {Q:Exit→Act→World→Prop} {md:Region.Mode} {ops:Array Oper} {o:Oper} {a:Act} {w:World} {j fuel:Nat} {listed:Array Bool} {x y:Operand} {g:Nat} {s t:Bool}
end
theorem run_eqSS (a b c d:Bool) (w:World):(binOp BinOp.eql 136 (.agg #[.bool a,.bool b]) (.agg #[.bool c,.bool d])).run Tryz.prog w= .ok (.bool (a==c && b==d)) w:=by
 cases a<;>cases b<;>cases c<;>cases d<;>go_simp
theorem run_neSS (a b c d:Bool) (w:World):(binOp BinOp.neq 136 (.agg #[.bool a,.bool b]) (.agg #[.bool c,.bool d])).run Tryz.prog w= .ok (.bool (!(a==c && b==d))) w:=by
 cases a<;>cases b<;>cases c<;>cases d<;>go_simp
theorem ve {x y:Operand} (a b c d:Bool) (w:World):(eqGuard BinOp.eql 136 x y (.agg #[.bool a,.bool b]) (.agg #[.bool c,.bool d])).run Tryz.prog w= .ok () w:=by go_simp
theorem vg {x y:Operand} (a b c d:Bool) (w:World):(eqGuard BinOp.neq 136 x y (.agg #[.bool a,.bool b]) (.agg #[.bool c,.bool d])).run Tryz.prog w= .ok () w:=by go_simp
end Go.Proofs.YtfhinmdhjlmikaaGreat
namespace Go.Proofs.YtfhinmdhjlmikaaGreat
set_option linter.unusedSimpArgs false
set_option linter.unusedVariables false
set_option maxRecDepth 100000
open Go.RowKit
/-- The fraction of an integer; of two. -/
def Fq.ofInt (v:Int):Fq:=⟨decide (v<0),v.natAbs,1⟩
def Fq.ratio (v u:Int):Fq:=.low (decide (v<0) !=decide (u<0)) v.natAbs u.natAbs
def Fq.lerp (x y t:Fq):Fq:=x.add (t.mul (y.sub x))
theorem kn {v:Int} (lv: -9223372036854775808≤v) (rv:v<9223372036854775808):nl v.natAbs≤2:=aZ.2 (by show v.natAbs<18446744073709551616;omega)
theorem Fq.ok.lerp {x y t:Fq} (h:x.ok 100000000) (k:y.ok 100000000) (l:t.ok 100000000):(x.lerp y t).ok 10000000000:=(h.add (l.mul (k.sub h))).mono (by decide)
end Go.Proofs.YtfhinmdhjlmikaaGreat
namespace Go.Proofs.YtfhinmdhjlmikaaGreat
set_option linter.unusedSimpArgs false
set_option linter.unusedVariables false
set_option maxRecDepth 100000
open Go.RowKit
/-- A fraction of rows: leading zeros allowed. -/
def rg (w:World) (v:Value) (s:Bool) (L p N q:Nat):Prop:=∃a c b d,v= .agg #[.bool s,.slice a L c,.slice b N d]∧IsR w (.agg #[.slice a L c]) L p∧IsR w (.agg #[.slice b N d]) N q
theorem rg.mono {w w':World} {v:Value} {s:Bool} {L p N q:Nat} (h:rg w v s L p N q) (hb:Below w.heap.size w w'):rg w' v s L p N q:=by
 obtain⟨a,c,b,d,rfl,h1,h2⟩:=h;exact⟨a,c,b,d,rfl,h1.mono hb,h2.mono hb⟩
theorem rg.isQ {w:World} {v:Value} {s:Bool} {L p N q:Nat} (h:rg w v s L p N q) (hL:nl p=L) (hN:nl q=N):IsQ w v ⟨s,p,q⟩:=by
 subst hL;subst hN;exact h
def m7 (w:World) (g:Nat) (s:Bool) (L p N q:Nat):Prop:=∃a c b d,cw w g s a L c b N d∧IsR w (.agg #[.slice a L c]) L p∧IsR w (.agg #[.slice b N d]) N q
theorem m7.lt {w:World} {g L p N q:Nat} {s:Bool} (h:m7 w g s L p N q):g<w.heap.size:=by obtain⟨_,_,_,_,h,_⟩:=h;exact h.lt
theorem m7.mono {w w':World} {g L p N q:Nat} {s:Bool} (h:m7 w g s L p N q) (hb:Below w.heap.size w w'):m7 w' g s L p N q:=by
 obtain⟨a,c,b,d,h0,h1,h2⟩:=h;exact⟨a,c,b,d,h0.mono hb h0.lt,h1.mono hb,h2.mono hb⟩
theorem m7.upd {w w':World} {g g' L p N q:Nat} {s:Bool} (h:m7 w g' s L p N q) (o:Own w g) (u:Upd w g w') (hn:g'≠g):m7 w' g' s L p N q:=by
 obtain⟨x,cx,y,cy,h0,h1,h2⟩:=h;exact⟨x,cx,y,cy,h0.upd o u hn,h1.upd o u,h2.upd o u⟩
section
variable {Q:Exit→Act→World→Prop} {o:Oper} {a:Act} {w:World} {x y:Operand} {g L p N q m:Nat} {s:Bool} {tt:Array TypeId}
end
/-- Which fractions are valid. -/
def Fq.valid (x:Fq):Bool:=decide (x.q≠0∧¬(x.s=true∧x.p=0)∧Nat.gcd x.p x.q=1)
end Go.Proofs.YtfhinmdhjlmikaaGreat
namespace Go.Proofs.YtfhinmdhjlmikaaGreat
set_option linter.unusedSimpArgs false
set_option linter.unusedVariables false
set_option maxRecDepth 100000
open Go.RowKit
/-- The first slash stands at i. -/
def slashAt (s:ByteArray) (i:Nat):Prop:=i<s.size∧by' s i=47∧∀j,j<i→by' s j≠47
def noSlash (s:ByteArray):Prop:=∀j,j<s.size→by' s j≠47
end Go.Proofs.YtfhinmdhjlmikaaGreat
namespace Go.Proofs.YtfhinmdhjlmikaaGreat
set_option linter.unusedSimpArgs false
set_option linter.unusedVariables false
set_option maxRecDepth 100000
open Go.RowKit
/-- How a text falls into sign, numerator, slash, denominator. -/
structure Pieces (s t:ByteArray) (B F:Bool) (a b:ByteArray):Prop where
 sign:decide (0<s.size∧by' s 0=45)=B
 rest:t=if B then s.extract 1 s.size else s
 hit:F=true→∃i,slashAt t i∧a=t.extract 0 i∧b=t.extract (i+1) t.size
 miss:F=false→noSlash t∧a=t∧b= {data:=#[]}
/-- The denominator; whether a fraction of these parts is accepted. -/
def parseQ (F:Bool) (N:Nat):Nat:=if F then N else 1
def parseV (B F:Bool) (M N:Nat):Bool:=if F then !decide (N=1) && (Fq.mk B M N).valid else(Fq.mk B M 1).valid
/-- What a text is read as. -/
inductive FP (s:ByteArray):Fq→Int→Prop
 | num {t B F a b M c} (h:Pieces s t B F a b) (ha:ParseIs a M c) (h0:c≠0):FP s .zero c
 | den {t B a b M N c} (h:Pieces s t B true a b) (ha:ParseIs a M 0) (hb:ParseIs b N c) (h0:c≠0):FP s .zero c
 | bad {t B F a b M N} (h:Pieces s t B F a b) (ha:ParseIs a M 0) (hb:F=true→ParseIs b N 0) (hv:parseV B F M N=false):FP s .zero 2
 | good {t B F a b M N} (h:Pieces s t B F a b) (ha:ParseIs a M 0) (hb:F=true→ParseIs b N 0) (hv:parseV B F M N=true):FP s ⟨B,M,parseQ F N⟩ 0
end Go.Proofs.YtfhinmdhjlmikaaGreat
