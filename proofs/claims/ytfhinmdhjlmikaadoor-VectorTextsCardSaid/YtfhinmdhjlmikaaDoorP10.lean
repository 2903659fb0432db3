/- An executor: strings, rows of strings. magnitude of package fraction, size of the reference. mark, Sign of package fraction; Sign of the reference. Cmp, Lerp, Int, Ratio; copied. Valid, of package fraction and of the reference. strings.Cut at a slash, strings.CutPrefix at a minus. Format of package fraction and of the reference. Parse of package fraction. -/
import Derived.Test.YtfhinmdhjlmikaaDoorP09
import Derived.Shelf.Strings.Split
import Derived.Shelf.Strings.Search3
import Derived.Shelf.Strings.Count
import Derived.Lib.IndexBytes
import Derived.Lib.Bytealg
import Derived.Lib.Strings
namespace Go.Proofs
open Go.Shelf Go.RowKit Go.Lib
variable {P:Program} {ρ:Ren}
/-- strings.Split at one byte: it qR nothing of the package's variables. -/
theorem Any.strings_Split_one (L:Lays.n146 P ρ) (hi9:(P.info? (ρ.t 9)).map (fun i=>(i.zero,i.size,i.bytes))=some (some (.string ByteArray.empty),1,16)) (s:ByteArray) (b:UInt8) (w:World) (hs:s.size<4294967281):
  Calls P (ρ.f 146) #[.string s,.string ⟨#[b]⟩] w fun e w'=>
   e= .returned (.slice (some ⟨w.heap.size,0,none⟩) (Lib.countB s ⟨#[b]⟩+1) (Lib.countB s ⟨#[b]⟩+1))∧w'=w.alloc (.cells ((Lib.splitB ⟨#[b]⟩ 0 (Lib.countB s ⟨#[b]⟩) s).map Value.string).toArray (ρ.t 9)):=by
 have h1:1≤(⟨#[b]⟩:ByteArray).size:=Nat.le_refl 1
 have hle:=Lib.countB_le ⟨#[b]⟩ h1 s.size s (Nat.le_refl _)
 have hlen:=Lib.splitB_all ⟨#[b]⟩ h1 0 _ s rfl
 have hI:∀(x:ByteArray) (c:Array Value),x.size≤s.size→Calls P (ρ.f 143) #[.string x,.string ⟨#[b]⟩] (w.alloc (.cells c (ρ.t 9))) fun e w'=>e= .returned (.int .i64 (Lib.indexB x ⟨#[b]⟩))∧w'=w.alloc (.cells c (ρ.t 9)):=by
  intro x c _
  refine(Any.strings_Index_one {L with} x b _).mono fun e w' ⟨he,hw⟩=>⟨?_,hw⟩
  rw[he]
  show _=Ending.returned (Value.int .i64 (Lib.index x.data.toList [b]))
  rw[Lib.index_one]
 have hC:Calls P (ρ.f 138) #[.string s,.string ⟨#[b]⟩] w fun e w'=>e= .returned (.int .i64 (Lib.countB s ⟨#[b]⟩))∧w'=w:=by
  refine(Any.strings_Count_one {L with} s b w).mono fun e w' ⟨he,hw⟩=>⟨?_,hw⟩
  rw[he]
  show _=Ending.returned (Value.int .i64 ((Lib.count s.data.toList [b]:Nat):Int))
  rw[Lib.count_one]
  rfl
 have c:=Any.strings_genSplit_core {L with} hi9 s ⟨#[b]⟩ 0 (-1) (Lib.countB s ⟨#[b]⟩+1) w hs h1 (Nat.zero_le _) hI hC (by decide) (by decide) (by rw[if_pos (by decide)];omega)
 rw[Nat.add_sub_cancel,hlen]at c
 have e2:Lib.cellsOf (Lib.splitB ⟨#[b]⟩ 0 (Lib.countB s ⟨#[b]⟩) s) (Lib.countB s ⟨#[b]⟩+1)=((Lib.splitB ⟨#[b]⟩ 0 (Lib.countB s ⟨#[b]⟩) s).map Value.string).toArray:=by rw[←hlen];exact Lib.cellsOf_full _
 rw[e2]at c
 clear hI hC e2 hlen hle
 have t3:=L.t3;have t9:=L.t9;have t31:=L.t31
 have a3:=L.a3;have a9:=L.a9;have a31:=L.a31
 have z3:=L.z3;have v3:=L.v3;have z9:=L.z9;have v9:=L.v9;have z31:=L.z31;have v31:=L.v31
 have e221:∀args w,(callFunc (ρ.f 221) args).run P w= .ok (.enter (ρ.f 221) args) w:=enters_of L.f221 (by kernel_rfl) rfl
 go_enter L.f146,Body.n146_ntmps ρ
 go_wp2_with (go_at_fn (ρ.f 221);refine c.mono ?_;rintro e w' ⟨rfl,hw⟩;rw[hw])
 go_ret
 exact⟨rfl,rfl⟩
end Go.Proofs
namespace Go.Proofs.YtfhinmdhjlmikaaDoor
set_option linter.unusedSimpArgs false
set_option linter.unusedVariables false
set_option maxRecDepth 100000
open Go.RowKit
/-- A row of strings. -/
def Vp.strs (l:List ByteArray):Vp:=.row xP l.length (l.map fun s=>.val (.string s))
/-- The place of a string of such a row. -/
def Vp.strp (s:ByteArray):Vp:=.plc xP [.val (.string s)]
section
variable {ρ:Rho} {xs:List Fq} {ys:Rho} {n m k:Nat} {u v c:Int} {b:Bool} {s z:ByteArray} {t:TypeId} {B:Blk} {w:World} {l:List ByteArray} {ik:IntKind} {x:Value}
def dv (p:Program) (t:TypeId):Bool:=match p.underlying t with | some .string=>true | _=>false
theorem dg (ht:dv Tryd.prog t=true):Tryd.prog.underlying t=some .string:=by
 unfold dv at ht
 split at ht
 ·assumption
 ·cases ht
theorem aB (ht:dv Tryd.prog t=true) (hn:ρ[n]? =some (.val (.string s))) (hm:ρ[m]? =some (.val (.int .i64 (s.size:Int)))):(OIns.mk (.len t) [.one (.ref n)] (.one (.ref m))).Ok Tryd.prog ρ:=fun B w vs hv=>by
 match vs,hv with
 | [v1],hv=>
  have e:=aj (B:=B) hn hv.1
  subst e
  refine⟨.int .i64 (s.size:Int),am (B:=B) hm aV,fun ts ty h0=> ?_⟩
  simp[Builtin.len_,h0,Sem.run_bind,run_underlying (dg ht),Result.andThen,goInt]
/-- A byte of a string. -/
theorem bc (ht:dv Tryd.prog t=true) (hn:ρ[n]? =some (.val (.string s))) (hm:ρ[m]? =some (.val (.int .u8 (by' s k:Int)))) (hk:k<s.size) (hc:c=(k:Int)):(OIns.mk (.idx t) [.one (.ref n),.one (.i .i64 c)] (.one (.ref m))).Ok Tryd.prog ρ:=fun B w vs hv=>by
 match vs,hv with
 | [v1,v2],hv=>
  have e:=aj (B:=B) hn hv.1
  subst e;subst hc
  have e2:v2= .int .i64 (k:Int):=hv.2.1
  subst e2
  refine⟨.int .u8 (by' s k:Int),am (B:=B) hm (nT (by decide)),?_⟩
  have h1:s[k]? =some s[k]:=by simp[hk]
  simp[Instr.index,asIntOf,Sem.run_bind,run_underlying (dg ht),Result.andThen,h1,by',hk]
theorem bT (ht:dv Tryd.prog t=true) (hn:ρ[n]? =some (.val (.string s))) (hi:ρ[k]? =some (.val (.int .i64 u))) {b:Nat} (hm:ρ[m]? =some (.val (.int .u8 (b:Int)))) (h0:0≤u) (hk:u.toNat<s.size) (hb:by' s u.toNat=b):(OIns.mk (.idx t) [.one (.ref n),.one (.ref k)] (.one (.ref m))).Ok Tryd.prog ρ:=fun B w vs hv=>by
 match vs,hv with
 | [v1,v2],hv=>
  have e:=aj (B:=B) hn hv.1
  have e2:=aj (B:=B) hi hv.2.1
  subst e;subst e2;subst hb
  refine⟨.int .u8 (by' s u.toNat:Int),am (B:=B) hm (nT (by decide)),?_⟩
  have h1:s[u.toNat]? =some s[u.toNat]:=by simp[hk]
  simp[Instr.index,asIntOf,Sem.run_bind,run_underlying (dg ht),Result.andThen,h1,by',hk,h0]
/-- A part of a string. -/
theorem rk (ht:dv Tryd.prog t=true) (hn:ρ[n]? =some (.val (.string s))) (hi:ρ[k]? =some (.val (.int .i64 u))) (hm:ρ[m]? =some (.val (.string z))) (h0:0≤c) (h1:c≤u) (h2:u≤s.size) (hz:s.extract c.toNat u.toNat=z):(OIns.mk (.sl t true true) [.one (.ref n),.one (.i .i64 c),.one (.ref k)] (.one (.ref m))).Ok Tryd.prog ρ:=fun B w vs hv=>by
 match vs,hv with
 | [v1,v2,v3],hv=>
  have e:=aj (B:=B) hn hv.1
  have e2:v2= .int .i64 c:=hv.2.1
  have e3:=aj (B:=B) hi hv.2.2.1
  subst e;subst e2;subst e3;subst hz
  refine⟨.string (s.extract c.toNat u.toNat),am (B:=B) hm aC,?_⟩
  have h3:0≤u:=by omega
  have h4:c≤(u.toNat:Int):=by omega
  have h5:c≤max u 0:=by omega
  simp[Instr.sliceAt,Instr.slice,Instr.sliceBounds,Instr.sliceBound,asIntOf,Sem.run_bind,run_underlying (dg ht),Result.andThen,h0,h1,h2,h3,h4,h5]
/-- Strings put together. -/
theorem nV (ht:dv Tryd.prog t=true) {s z:ByteArray} (h:((s.size+z.size:Nat):Int)≤9223372036854775807) (xo yo:Operand):((do eqGuard .add t xo yo (.string s) (.string z);binOp .add t (.string s) (.string z):Sem Value)).run Tryd.prog w= .ok (.string (s++z)) w:=by
 have h1:¬((s.size+z.size:Nat):Int)>IntKind.i64.max:=by
  have:IntKind.i64.max=9223372036854775807:=by decide
  omega
 simp only[eqGuard,binOp,Op.stringOp,Sem.run_bind,Result.andThen]
 rw[if_neg h1]
 rfl
theorem eU (ht:dv Tryd.prog t=true) (hn:ρ[n]? =some (.val (.string z))) (hm:ρ[m]? =some (.val (.string (s++z)))) (h:((s.size+z.size:Nat):Int)≤9223372036854775807):(OIns.mk (.bin .add t) [.one (.s s),.one (.ref n)] (.one (.ref m))).Ok Tryd.prog ρ:=fun B w vs hv=>by
 match vs,hv with
 | [v1,v2],hv=>
  have e:v1= .string s:=hv.1
  have e2:=aj (B:=B) hn hv.2.1
  subst e;subst e2
  exact⟨_,am (B:=B) hm aC,fun xo yo=>nV ht h xo yo⟩
theorem eV (ht:dv Tryd.prog t=true) (hn:ρ[n]? =some (.val (.string s))) (hm:ρ[m]? =some (.val (.string (s++z)))) (h:((s.size+z.size:Nat):Int)≤9223372036854775807):(OIns.mk (.bin .add t) [.one (.ref n),.one (.s z)] (.one (.ref m))).Ok Tryd.prog ρ:=fun B w vs hv=>by
 match vs,hv with
 | [v1,v2],hv=>
  have e:=aj (B:=B) hn hv.1
  have e2:v2= .string z:=hv.2.1
  subst e;subst e2
  exact⟨_,am (B:=B) hm aC,fun xo yo=>nV ht h xo yo⟩
theorem eW (ht:dv Tryd.prog t=true) (hn:ρ[n]? =some (.val (.string s))) (hk:ρ[k]? =some (.val (.string z))) (hm:ρ[m]? =some (.val (.string (s++z)))) (h:((s.size+z.size:Nat):Int)≤9223372036854775807):(OIns.mk (.bin .add t) [.one (.ref n),.one (.ref k)] (.one (.ref m))).Ok Tryd.prog ρ:=fun B w vs hv=>by
 match vs,hv with
 | [v1,v2],hv=>
  have e:=aj (B:=B) hn hv.1
  have e2:=aj (B:=B) hk hv.2.1
  subst e;subst e2
  exact⟨_,am (B:=B) hm aC,fun xo yo=>nV ht h xo yo⟩
/-- The place of a string of a row, and what lies there. -/
theorem i6 {e:TypeId} (hn:ρ[n]? =some (.strs l)) (hm:ρ[m]? =some (.strp s)) (ht:Tryd.prog.underlying t=some (.slice e)) (hz:szB Tryd.prog e=some 1) (hj:l[k]? =some s):(OIns.mk (.ia t) [.one (.ref n),.one (.i .i64 (k:Int))] (.one (.ref m))).Ok Tryd.prog ρ:=
 uf (k:=k) ht hz hn hm (fun _ _ _ h=>h) (List.getElem?_eq_some_iff.1 hj).1 (fun h=>by rw[List.map_eq_nil_iff]at h;subst h;simp at hj) (fun j q hq=>by
  match j,hq with
  | 0,hq=>simp at hq;subst hq;simp[hj]
  | j+1,hq=>simp at hq)
theorem i7 (hn:ρ[n]? =some (.strp s)) (hm:ρ[m]? =some (.val (.string s))) (ht:oS Tryd.prog t=some false):(OIns.mk (.ld t) [.one (.ref n)] (.one (.ref m))).Ok Tryd.prog ρ:=
 o_ldP ht hn (lq hm)
end
end Go.Proofs.YtfhinmdhjlmikaaDoor
namespace Go.Proofs.YtfhinmdhjlmikaaDoor
set_option linter.unusedSimpArgs false
set_option linter.unusedVariables false
set_option maxRecDepth 100000
open Go.RowKit
theorem uh (v:Int) (h1: -9223372036854775808≤v) (hv:v<0):IntKind.u64.wrap (-IntKind.u64.wrap v)=((v.natAbs:Nat):Int):=by
 simp only[IntKind.wrap,IntKind.signed,IntKind.bits,Bool.false_and,Bool.false_eq_true,if_false]
 omega
theorem c_mag (v:Int) (w:World) (h1: -9223372036854775808≤v) (h2:v<9223372036854775808):
  Calls Tryd.prog 31 #[.int .i64 v] w fun e w'=>sW w v.natAbs e w':=by
 obtain⟨m0,k0⟩:=resN (w:=w)
 have c0:=k0.cell
 have f0:=k0.frozen
 have fin:∀e w9,b9 (w.alloc (.cells #[.slice none 0 0] 24)) v.natAbs e w9→∃a c,e= .returned (.agg #[.slice a (nl v.natAbs) c])∧IsN w9 (.agg #[.slice a (nl v.natAbs) c]) v.natAbs∧aF w9 w.heap.size none 0 0∧Below w.heap.size w w9:=by
  rintro e w9 ⟨x,rfl,nx,hb⟩
  have nx:=nx.isN
  obtain⟨a,c,rfl⟩:=nx.shape
  exact⟨a,c,rfl,nx,k0.mono hb k0.lt,m0.trans (hb.mono m0.size)⟩
 go_enter Tryd.func31,Tryd.ntmps31
 by_cases hv:v<0
 ·have e0:=uh v h1 hv
  have E0:=Lib.hid e0
  clear e0
  go_wp2_with fail
  rw[E0.out]
  refine(d8 v.natAbs _ (by omega)).mono ?_
  rintro e w9 h9
  obtain⟨a,c,rfl,nx,k9,hb⟩:=fin e w9 h9
  have c9:=k9.cell
  have f9:=k9.frozen
  clear c0 f0 fin h9
  go_wp2
  exact bodyPost_ret (xf rfl rfl k9.set) rfl ⟨_,rfl,nx.setVar k9,hb.setCell (p:=⟨w.heap.size,0,none⟩) (Nat.le_refl _) _⟩
 ·obtain⟨n,hn⟩:∃n:Nat,Hid (v=(n:Int)):=⟨v.natAbs,Lib.hid (by omega)⟩
  have hnn:Hid (v.natAbs=n):=Lib.hid (by have:=hn.out;omega)
  go_wp2_with fail
  rw[show v=((v.natAbs:Nat):Int)from by omega]
  refine(d8 v.natAbs _ (by omega)).mono ?_
  rintro e w9 h9
  obtain⟨a,c,rfl,nx,k9,hb⟩:=fin e w9 h9
  have c9:=k9.cell
  have f9:=k9.frozen
  clear c0 f0 fin h9
  go_wp2
  exact bodyPost_ret (xf rfl rfl k9.set) rfl ⟨_,rfl,nx.setVar k9,hb.setCell (p:=⟨w.heap.size,0,none⟩) (Nat.le_refl _) _⟩
theorem xV (v:Int) (w:World) (h1: -9223372036854775808≤v) (h2:v<9223372036854775808):
  Calls Tryd.prog 34 #[.int .i64 v] w fun e w'=>bE w (.int .u64 (v.natAbs:Int)) e w':=by
 go_enter Tryd.func34,Tryd.ntmps34
 by_cases hv:v<0
 ·go_wp2
  go_ret
  refine⟨?_,Below.refl _ _⟩
  simp only[Array.getD_eq_getD_getElem?,List.getElem?_toArray,List.getElem?_cons_succ,List.getElem?_cons_zero,Option.getD_some,Ending.returned.injEq,Value.int.injEq,true_and,IntKind.wrap,IntKind.signed,IntKind.bits,Bool.false_and,Bool.false_eq_true,if_false,if_true]
  omega
 ·go_wp2
  go_ret
  refine⟨?_,Below.refl _ _⟩
  simp only[Array.getD_eq_getD_getElem?,List.getElem?_toArray,List.getElem?_cons_succ,List.getElem?_cons_zero,Option.getD_some,Ending.returned.injEq,Value.int.injEq,true_and]
  omega
end Go.Proofs.YtfhinmdhjlmikaaDoor
namespace Go.Proofs.YtfhinmdhjlmikaaDoor
set_option linter.unusedSimpArgs false
set_option linter.unusedVariables false
set_option maxRecDepth 100000
open Go.RowKit
/-- Block g is a variable of type signed. -/
def io (w:World) (g:Nat) (a b:Bool):Prop:=w.heap[g]? =some (.cells #[.bool a,.bool b] 76 (0,0))
theorem io.lt {w:World} {g:Nat} {a b:Bool} (h:io w g a b):g<w.heap.size:=(Array.getElem?_eq_some_iff.1 h).1
theorem io.mono {w w':World} {g B:Nat} {a b:Bool} (h:io w g a b) (hb:Below B w w') (hB:g<B):io w' g a b:=(hb.block g hB).trans h
theorem io.cell1 {w:World} {g:Nat} {a b:Bool} (h:io w g a b):w.cell? ⟨g,1,none⟩=some (.bool b):=by rw[cell_of_row w g 1 _ _ (0,0) h];rfl
theorem io.own {w:World} {g:Nat} {a b:Bool} (h:io w g a b):Own w g:=⟨_,_,h,fun k n=>by
 match k with
 | 0=>intro h;cases h
 | 1=>intro h;cases h
 | k+2=>intro h;simp at h⟩
theorem io.upd {w w':World} {g g':Nat} {a b:Bool} (h:io w g' a b) (_:Own w g) (u:Upd w g w') (hn:g'≠g):io w' g' a b:=(u.block g' hn).trans h
theorem io.any {w:World} {g:Nat} {a b:Bool} (h:io w g a b):∃a b,io w g a b:=⟨_,_,h⟩
section
variable {Q:Exit→Act→World→Prop} {md:Region.Mode} {ops:Array Oper} {o:Oper} {a:Act} {w:World} {j fuel:Nat} {listed:Array Bool} {x y:Operand} {g:Nat} {s t:Bool}
end
theorem ui (a b c d:Bool) (w:World):(binOp BinOp.neq 76 (.agg #[.bool a,.bool b]) (.agg #[.bool c,.bool d])).run Tryd.prog w= .ok (.bool (!(a==c && b==d))) w:=by
 cases a<;>cases b<;>cases c<;>cases d<;>go_simp
theorem qt {x y:Operand} (a b c d:Bool) (w:World):(eqGuard BinOp.neq 76 x y (.agg #[.bool a,.bool b]) (.agg #[.bool c,.bool d])).run Tryd.prog w= .ok () w:=by go_simp
end Go.Proofs.YtfhinmdhjlmikaaDoor
namespace Go.Proofs.YtfhinmdhjlmikaaDoor
set_option linter.unusedSimpArgs false
set_option linter.unusedVariables false
set_option maxRecDepth 100000
open Go.RowKit
/-- The fraction of an integer; of two. -/
def Fq.ofInt (v:Int):Fq:=⟨decide (v<0),v.natAbs,1⟩
theorem xW {v:Int} (lv: -9223372036854775808≤v) (rv:v<9223372036854775808):nl v.natAbs≤2:=az.2 (by show v.natAbs<18446744073709551616;omega)
end Go.Proofs.YtfhinmdhjlmikaaDoor
namespace Go.Proofs.YtfhinmdhjlmikaaDoor
set_option linter.unusedSimpArgs false
set_option linter.unusedVariables false
set_option maxRecDepth 100000
open Go.RowKit
/-- A fraction of rows: leading zeros allowed. -/
def lR (w:World) (v:Value) (s:Bool) (L p N q:Nat):Prop:=∃a c b d,v= .agg #[.bool s,.slice a L c,.slice b N d]∧IsR w (.agg #[.slice a L c]) L p∧IsR w (.agg #[.slice b N d]) N q
theorem lR.mono {w w':World} {v:Value} {s:Bool} {L p N q:Nat} (h:lR w v s L p N q) (hb:Below w.heap.size w w'):lR w' v s L p N q:=by
 obtain⟨a,c,b,d,rfl,h1,h2⟩:=h;exact⟨a,c,b,d,rfl,h1.mono hb,h2.mono hb⟩
theorem lR.isQ {w:World} {v:Value} {s:Bool} {L p N q:Nat} (h:lR w v s L p N q) (hL:nl p=L) (hN:nl q=N):IsQ w v ⟨s,p,q⟩:=by
 subst hL;subst hN;exact h
def km (w:World) (g:Nat) (s:Bool) (L p N q:Nat):Prop:=∃a c b d,bw w g s a L c b N d∧IsR w (.agg #[.slice a L c]) L p∧IsR w (.agg #[.slice b N d]) N q
theorem km.lt {w:World} {g L p N q:Nat} {s:Bool} (h:km w g s L p N q):g<w.heap.size:=by obtain⟨_,_,_,_,h,_⟩:=h;exact h.lt
theorem km.mono {w w':World} {g L p N q:Nat} {s:Bool} (h:km w g s L p N q) (hb:Below w.heap.size w w'):km w' g s L p N q:=by
 obtain⟨a,c,b,d,h0,h1,h2⟩:=h;exact⟨a,c,b,d,h0.mono hb h0.lt,h1.mono hb,h2.mono hb⟩
theorem km.upd {w w':World} {g g' L p N q:Nat} {s:Bool} (h:km w g' s L p N q) (o:Own w g) (u:Upd w g w') (hn:g'≠g):km w' g' s L p N q:=by
 obtain⟨x,cx,y,cy,h0,h1,h2⟩:=h;exact⟨x,cx,y,cy,h0.upd o u hn,h1.upd o u,h2.upd o u⟩
section
variable {Q:Exit→Act→World→Prop} {o:Oper} {a:Act} {w:World} {x y:Operand} {g L p N q m:Nat} {s:Bool} {tt:Array TypeId}
end
/-- Which fractions are valid. -/
def Fq.valid (x:Fq):Bool:=decide (x.q≠0∧¬(x.s=true∧x.p=0)∧Nat.gcd x.p x.q=1)
end Go.Proofs.YtfhinmdhjlmikaaDoor
namespace Go.Proofs.YtfhinmdhjlmikaaDoor
set_option linter.unusedSimpArgs false
set_option linter.unusedVariables false
set_option maxRecDepth 100000
open Go.RowKit
/-- The first slash stands at i. -/
def kY (s:ByteArray) (i:Nat):Prop:=i<s.size∧by' s i=47∧∀j,j<i→by' s j≠47
def kZ (s:ByteArray):Prop:=∀j,j<s.size→by' s j≠47
theorem pk (s:ByteArray):(∃i,kY s i)∨kZ s:=by
 by_cases h:∃i,i<s.size∧by' s i=47
 ·refine .inl ?_
  obtain⟨i,hi⟩:=h
  induction i using Nat.strongRecOn with
  | ind i ih=>
   by_cases h2:∃j,j<i∧by' s j=47
   ·obtain⟨j,h3,h4⟩:=h2;exact ih j h3 ⟨by omega,h4⟩
   ·exact⟨i,hi.1,hi.2,fun j hj he=>h2 ⟨j,hj,he⟩⟩
 ·exact .inr (fun j hj he=>h ⟨j,hj,he⟩)
theorem nW:∀(l:List UInt8) (i:Nat) (c:UInt8),l[i]? =some c→(∀j,j<i→l[j]? ≠some c)→Lib.indexByte l c=(i:Int)
 | [],i,c,h,_=>by simp at h
 | b::l,0,c,h,_=>by
  have hb:b=c:=by simpa using h
  subst hb
  unfold Lib.indexByte
  simp
 | b::l,i+1,c,h,hn=>by
  have hb:(b==c)=false:=by
   have:=hn 0 (by omega)
   simpa using this
  have ih:=nW l i c (by simpa using h) (fun j hj=>by have:=hn (j+1) (by omega);simpa using this)
  unfold Lib.indexByte
  rw[hb,ih]
  have:((i:Int)== -1)=false:=by simp
  simp[this]
theorem lS:∀(l:List UInt8) (c:UInt8),(∀j:Nat,l[j]? ≠some c)→Lib.indexByte l c= -1
 | [],c,_=>rfl
 | b::l,c,hn=>by
  have hb:(b==c)=false:=by
   have:=hn 0
   simpa using this
  have ih:=lS l c (fun j=>by have:=hn (j+1);simpa using this)
  unfold Lib.indexByte
  rw[hb,ih]
  rfl
theorem fT (s:ByteArray) (j:Nat) (hj:j<s.size) (c:UInt8):s.data.toList[j]? =some c↔by' s j=c.toNat:=by
 have h1:s.data.toList[j]? =some s[j]:=by
  rw[Array.getElem?_toList]
  exact Array.getElem?_eq_getElem (h:=hj)
 rw[h1]
 unfold by'
 rw[dif_pos hj,Option.some.injEq]
 exact⟨fun h=>by rw[h],fun h=>UInt8.toNat_inj.1 h⟩
theorem pl {s:ByteArray} {i:Nat} (h:kY s i):Lib.indexByte s.data.toList 47=(i:Int):=
 nW _ i 47 ((fT s i h.1 47).2 h.2.1) (fun j hj he=>h.2.2 j hj ((fT s j (by have:=h.1;omega) 47).1 he))
theorem mv {s:ByteArray} (h:kZ s):Lib.indexByte s.data.toList 47= -1:=
 lS _ 47 (fun j he=>by
  have hj:j<s.size:=by
   have:j<s.data.toList.length:=(List.getElem?_eq_some_iff.1 he).1
   simpa using this
  exact h j hj ((fT s j hj 47).1 he))
theorem pm (s:ByteArray) (w:World):Calls Tryd.prog 80 #[.string s,.int .u8 47] w fun e w'=>e= .returned (.int .i64 (Lib.indexByte s.data.toList 47))∧w'=w:=by
 go_enter Tryd.func80,Tryd.ntmps80
 go_wp2
 rw[run_callFunc_extern Tryd.func96 (by kernel_rfl) (by kernel_rfl) (by kernel_rfl) (e:=Extern.BytealgIndexByte.indexByte) (by kernel_rfl),Lib.run_indexByteString]
 simp only[Result.andThen]
 rw[Oper.upon_value]
 go_wp2
 go_ret
 exact⟨rfl,rfl⟩
theorem i8 (s:ByteArray) (w:World) (hs:s.size≤4294967280):Calls Tryd.prog 65 #[.string s,.string {data:=#[47]}] w fun e w'=>e= .returned (.int .i64 (Lib.indexByte s.data.toList 47))∧w'=w:=by
 go_enter Tryd.func65,Tryd.ntmps65
 by_cases he:([47]==s.toList)=true
 ·have hx:Lib.indexByte s.data.toList 47=0:=by
   have h2:s.data.toList=[47]:=by
    have h1:[47]=s.toList:=by simpa using he
    rw[Lib.toList_data]at h1;exact h1.symm
   rw[h2];rfl
  rw[hx]
  go_wp2
  go_ret
  exact⟨rfl,rfl⟩
 ·have he':([47]==s.toList)=false:=by simpa using he
  go_wp2_with fail
  refine(pm s w).mono ?_
  rintro e w1 ⟨rfl,rfl⟩
  go_wp2
  go_ret
  exact⟨rfl,rfl⟩
theorem qu (s:ByteArray) (i:Nat) (w:World) (hs:s.size≤4294967280) (h:kY s i):Calls Tryd.prog 68 #[.string s,.string {data:=#[47]}] w fun e w'=>e= .returned (.tuple #[.string (s.extract 0 i),.string (s.extract (i+1) s.size),.bool true])∧∃n,w'=w.drewN n:=by
 have hx:=pl h
 have hi:i<s.size:=h.1
 have c1:(0:Int)≤(i:Int):=by omega
 have c2:(i:Int)≤(s.size:Int):=by omega
 have c3:(0:Int)≤(i:Int)+1:=by omega
 have c4:(i:Int)+1≤(s.size:Int):=by omega
 go_enter Tryd.func68,Tryd.ntmps68
 go_wp2_with fail
 refine(i8 s w hs).mono ?_
 rintro e w1 ⟨rfl,rfl⟩
 rw[hx]
 go_wp2_with fail
 go_region
 go_wp2
 go_ret3
 exact⟨rfl,1,rfl⟩
theorem pn (s:ByteArray) (w:World) (hs:s.size≤4294967280) (h:kZ s):Calls Tryd.prog 68 #[.string s,.string {data:=#[47]}] w fun e w'=>e= .returned (.tuple #[.string s,.string {data:=#[]},.bool false])∧∃n,w'=w.drewN n:=by
 have hx:=mv h
 go_enter Tryd.func68,Tryd.ntmps68
 go_wp2_with fail
 refine(i8 s w hs).mono ?_
 rintro e w1 ⟨rfl,rfl⟩
 rw[hx]
 go_wp2
 go_ret3
 exact⟨rfl,0,rfl⟩
theorem xi {s a b:ByteArray} {t:Bool} (w:World) (h:Calls Tryd.prog 68 #[.string s,.string {data:=#[47]}] w fun e w'=>e= .returned (.tuple #[.string a,.string b,.bool t])∧∃n,w'=w.drewN n):
  Calls Tryd.prog 43 #[.string s,.string {data:=#[47]}] w fun e w'=>e= .returned (.tuple #[.string a,.string b,.bool t])∧Below w.heap.size w w':=by
 go_enter Tryd.func43,Tryd.ntmps43
 go_wp2_with fail
 refine h.mono ?_
 rintro e w1 ⟨rfl,n,rfl⟩
 go_wp2
 go_ret3
 exact⟨rfl,aJ (Below.refl _ _) n⟩
theorem kn (s:ByteArray) (w:World):Calls Tryd.prog 85 #[.string s,.string {data:=#[45]}] w fun e w'=>e= .returned (.bool (decide (0<s.size∧by' s 0=45)))∧w'=w:=by
 go_enter Tryd.func85,Tryd.ntmps85
 by_cases h0:0<s.size
 ·have c1:(1:Int)≤(s.size:Int):=by omega
  have hx:((s.extract 0 1).toList==[45])=decide (0<s.size∧by' s 0=45):=by
   rw[Lib.extract_toList]
   have h1:=fT s 0 h0 45
   have h2:((s.data.toList.drop 0).take (1 - 0))=[s[0]'h0]:=by
    have h3:0<s.data.toList.length:=by rw[←Lib.size_eq];exact h0
    rw[List.drop_zero]
    rw[show(1:Nat) - 0=1 from rfl]
    cases hl:s.data.toList with
    | nil=>rw[hl]at h3;cases h3
    | cons b l=>
     have:s.data.toList[0]? =some (s[0]'h0):=by rw[Array.getElem?_toList];exact Array.getElem?_eq_getElem (h:=h0)
     rw[hl]at this
     simp at this
     simp[this]
   rw[h2]
   rw[Bool.eq_iff_iff]
   have h4:by' s 0=(s[0]'h0).toNat:=by unfold by';rw[dif_pos h0]
   simp only[beq_iff_eq,List.cons.injEq,and_true,decide_eq_true_eq,h0,true_and,h4]
   exact⟨fun h=>by rw[h];rfl,fun h=>UInt8.toNat_inj.1 h⟩
  generalize decide (0<s.size∧by' s 0=45)=t at hx⊢
  go_wp2
  go_ret
  exact⟨by first | rfl | simp_all,rfl⟩
 ·have hx:decide (0<s.size∧by' s 0=45)=false:=decide_eq_false (fun h=>h0 h.1)
  have c1:¬(1:Int)≤(s.size:Int):=by omega
  rw[hx]
  go_wp2
  go_ret
  exact⟨rfl,rfl⟩
theorem po (s t:ByteArray) (b:Bool) (w:World) (hb:decide (0<s.size∧by' s 0=45)=b) (ht:t=if b then s.extract 1 s.size else s):Calls Tryd.prog 42 #[.string s,.string {data:=#[45]}] w fun e w'=>e= .returned (.tuple #[.string t,.bool b])∧Below w.heap.size w w':=by
 have key:Calls Tryd.prog 67 #[.string s,.string {data:=#[45]}] w fun e w'=>e= .returned (.tuple #[.string t,.bool b])∧w'=w:=by
  have HB:=Lib.hid hb
  cases b with
  | true=>
   have hs:(1:Int)≤(s.size:Int):=by have:=(of_decide_eq_true hb).1;omega
   simp only[if_true]at ht
   have HT:=Lib.hid ht
   clear hb ht
   go_enter Tryd.func67,Tryd.ntmps67
   go_wp2_with fail
   refine(kn s w).mono ?_
   rintro e w1 ⟨rfl,rfl⟩
   rw[HB.out]
   go_wp2
   go_ret2
   exact⟨by rw[HT.out];rfl,rfl⟩
  | false=>
   simp only[Bool.false_eq_true,if_false]at ht
   subst ht
   clear hb
   go_enter Tryd.func67,Tryd.ntmps67
   go_wp2_with fail
   refine(kn _ w).mono ?_
   rintro e w1 ⟨rfl,rfl⟩
   rw[HB.out]
   go_wp2
   go_ret2
   exact⟨rfl,rfl⟩
 clear hb ht
 go_enter Tryd.func42,Tryd.ntmps42
 go_wp2_with fail
 refine key.mono ?_
 rintro e w1 ⟨rfl,rfl⟩
 go_wp2
 go_ret2
 exact⟨rfl,Below.refl _ _⟩
end Go.Proofs.YtfhinmdhjlmikaaDoor
namespace Go.Proofs.YtfhinmdhjlmikaaDoor
set_option linter.unusedSimpArgs false
set_option linter.unusedVariables false
set_option maxRecDepth 100000
open Go.RowKit
/-- The text of a fraction. -/
def Fq.fmt (x:Fq):ByteArray:=if x.s then({data:=#[45]}:ByteArray)++(if x.q=1 then aM x.p else aM x.p++(({data:=#[47]}:ByteArray)++aM x.q))else(if x.q=1 then aM x.p else aM x.p++(({data:=#[47]}:ByteArray)++aM x.q))
theorem bv (N:Nat):(aM N).size≤10*nl N+1:=by
 by_cases h0:N=0
 ·subst h0;have e:aM 0=⟨#[48]⟩:=by unfold aM;rw[if_pos rfl]
  rw[e];show 1≤_;omega
 ·have e:aM N=⟨(bX N).reverse.toArray⟩:=by unfold aM;rw[if_neg h0]
  have hsz:(aM N).size=(bX N).length:=by rw[e];simp[ByteArray.size]
  have:=fK N
  omega
end Go.Proofs.YtfhinmdhjlmikaaDoor
namespace Go.Proofs.YtfhinmdhjlmikaaDoor
set_option linter.unusedSimpArgs false
set_option linter.unusedVariables false
set_option maxRecDepth 100000
open Go.RowKit
theorem pv_lt (s:ByteArray) (k:Nat) (hg:bS s k):aA s k<10^k:=by
 induction k with
 | zero=>show 0<1;omega
 | succ k ih=>
  have h1:=ih (fun j hj=>hg j (by omega))
  have h2:=hg k (by omega)
  show 10*aA s k+(by' s k - 48)<10^(k+1)
  rw[Nat.pow_succ];omega
theorem au {s:ByteArray} {N:Nat} {c:Int} (h:ParseIs s N c):nl N≤400:=by
 have h0:nl 0≤400:=by rw[aK];omega
 by_cases h1:s.size=0
 ·rw[(h.short h1).1];exact h0
 ·by_cases h2:400<s.size
  ·rw[(h.long h2).1];exact h0
  ·by_cases h3:bS s s.size
   ·by_cases h4:by' s 0=48→s.size=1
    ·rw[(h.good (by omega) (by omega) h4 h3).1]
     have key:∀k,s.size≤k→aA s s.size<4294967296^k:=fun k hk=>Nat.lt_of_lt_of_le (pv_lt s s.size h3) (Nat.le_trans (Nat.pow_le_pow_right (by decide) hk) (Nat.pow_le_pow_left (by decide) k))
     exact az.2 (key 400 (by omega))
    ·have h5:by' s 0=48∧s.size≠1:=by
      constructor
      ·exact Classical.byContradiction fun h=>h4 (fun h'=>absurd h' h)
      ·exact fun h=>h4 (fun _=>h)
     rw[(h.zero (by omega) (by omega) h5.1).1];exact h0
   ·rw[(h.bad (by omega) (by omega) h3).1];exact h0
/-- How a text falls into sign, numerator, slash, denominator. -/
structure Pieces (s t:ByteArray) (B F:Bool) (a b:ByteArray):Prop where
 sign:decide (0<s.size∧by' s 0=45)=B
 rest:t=if B then s.extract 1 s.size else s
 hit:F=true→∃i,kY t i∧a=t.extract 0 i∧b=t.extract (i+1) t.size
 miss:F=false→kZ t∧a=t∧b= {data:=#[]}
theorem nX (s:ByteArray):∃t B F a b,Pieces s t B F a b:=by
 obtain⟨t,ht⟩:∃t,t=if decide (0<s.size∧by' s 0=45)then s.extract 1 s.size else s:=⟨_,rfl⟩
 rcases pk t with⟨i,hi⟩ | hn
 ·exact⟨t,_,true,_,_,rfl,ht,fun _=>⟨i,hi,rfl,rfl⟩,fun h=>(by cases h)⟩
 ·exact⟨t,_,false,_,_,rfl,ht,fun h=>(by cases h),fun _=>⟨hn,rfl,rfl⟩⟩
/-- The denominator; whether a fraction of these parts is accepted. -/
def lT (F:Bool) (N:Nat):Nat:=if F then N else 1
def dM (B F:Bool) (M N:Nat):Bool:=if F then !decide (N=1) && (Fq.mk B M N).valid else(Fq.mk B M 1).valid
/-- What a text is read as. -/
inductive FP (s:ByteArray):Fq→Int→Prop
 | num {t B F a b M c} (h:Pieces s t B F a b) (ha:ParseIs a M c) (h0:c≠0):FP s .zero c
 | den {t B a b M N c} (h:Pieces s t B true a b) (ha:ParseIs a M 0) (hb:ParseIs b N c) (h0:c≠0):FP s .zero c
 | bad {t B F a b M N} (h:Pieces s t B F a b) (ha:ParseIs a M 0) (hb:F=true→ParseIs b N 0) (hv:dM B F M N=false):FP s .zero 2
 | good {t B F a b M N} (h:Pieces s t B F a b) (ha:ParseIs a M 0) (hb:F=true→ParseIs b N 0) (hv:dM B F M N=true):FP s ⟨B,M,lT F N⟩ 0
theorem lU (s:ByteArray):∃x c,FP s x c:=by
 obtain⟨t,B,F,a,b,h⟩:=nX s
 obtain⟨M,c,ha⟩:=j8 a
 obtain⟨N,d,hb⟩:=j8 b
 by_cases h0:c=0
 ·subst h0
  by_cases h1:F=true→d=0
  ·have hb':F=true→ParseIs b N 0:=fun hF=>by rw[←h1 hF];exact hb
   cases hv:dM B F M N
   ·exact⟨_,_,.bad h ha hb' hv⟩
   ·exact⟨_,_,.good h ha hb' hv⟩
  ·have hF:F=true:=Classical.byContradiction fun hF=>h1 (fun h=>absurd h hF)
   subst hF
   exact⟨_,_,.den h ha hb (fun h=>h1 (fun _=>h))⟩
 ·exact⟨_,_,.num h ha h0⟩
theorem sy {s t a b:ByteArray} {B F:Bool} (h:Pieces s t B F a b) (w:World) (hs:t.size≤4294967280):Calls Tryd.prog 43 #[.string t,.string {data:=#[47]}] w fun e w'=>e= .returned (.tuple #[.string a,.string b,.bool F])∧Below w.heap.size w w':=by
 cases F with
 | true=>obtain⟨i,h1,rfl,rfl⟩:=h.hit rfl;exact xi w (qu t i w hs h1)
 | false=>obtain⟨h1,rfl,rfl⟩:=h.miss rfl;exact xi w (pn _ w hs h1)
theorem cj {s t a b:ByteArray} {B F:Bool} (h:Pieces s t B F a b):t.size≤s.size:=by
 rw[h.rest]
 cases B
 ·simp
 ·simp only[if_true,ByteArray.size_extract];omega
end Go.Proofs.YtfhinmdhjlmikaaDoor
