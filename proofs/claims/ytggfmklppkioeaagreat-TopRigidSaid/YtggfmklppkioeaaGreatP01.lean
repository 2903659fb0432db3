/- Facts of the program that TopRigid asks for, one by one: all at once is more than the kernel holds. Plain lemmas: the digits of a natural number in base 2^32, and rows of digits in memory. Rows of digits in memory: what a natural number's value is, what a row of the call's own is, and that both stay. Contracts of norm, made and of math/bits' additions. Contracts of math/bits' Sub32, Len32, LeadingZeros32 and Div32. Contracts of compare and Cmp. Contracts of Valid, Of and Add. The contract of Sub. The contract of Mul. The contracts of short and Bits. -/
import Derived.Test.YtggfmklppkioeaaGreatRows
import Derived.WalkKit
import Derived.ProofKit
import Derived.OpenShut
import Derived.ChangeOld
import Derived.Lib.Hide
import Derived.Test.YtggfmklppkioeaaGreatProg
import Derived.BigQuiet
import Derived.Deep.QuietTactic
import Derived.Deep.DeepCutAuto
import Derived.Deep.LoopGhost
import Derived.Deep.RegionHeld3
import Derived.Deep.RegionWith
import Derived.Lib.BitFns
namespace Go.Proofs.YtggfmklppkioeaaGreat
set_option linter.unusedSimpArgs false
set_option linter.unusedVariables false
set_option maxRecDepth 100000
open Go.RowKit
private theorem band {a b:Bool} (h:a=true) (k:b=true):(a && b)=true:=by rw[h,k];rfl
theorem rA:(Rows.topRigidRow.wf (OpenSpec.ofChange Rows.topRigidSpec))=true:=by kernel_rfl
theorem rB:(laidOutB Tryz.prog)=true:=by kernel_rfl
theorem rC:(mapsRowed Tryz.prog)=true:=by kernel_rfl
theorem rD:(Tryz.f4.params.all (Tryz.prog.readableRec ·))=true:=by kernel_rfl
theorem rE:(namedTie Tryz.prog Rows.topRigidRow.named Rows.topRigidSpec.vars)=true:=by kernel_rfl
theorem rF:((Rows.topRigidRow.stops==[]))=true:=by kernel_rfl
theorem rG:((Tryz.prog.stops==[]))=true:=by kernel_rfl
theorem rH:((Rows.topRigidRow.knobs==[]))=true:=by kernel_rfl
theorem rI:((Tryz.prog.stopKnobs==[]))=true:=by kernel_rfl
theorem rJ:((Rows.topRigidRow.inPlace==Tryz.prog.inPlace 4))=true:=by kernel_rfl
theorem pQ:((Rows.topRigidRow.unfollowed==Tryz.prog.unfollowed 4))=true:=by kernel_rfl
theorem pR:((Rows.topRigidRow.recurses==Tryz.prog.recurses 4))=true:=by kernel_rfl
theorem pS:((Rows.topRigidRow.named==Tryz.prog.varsNamed 4))=true:=by kernel_rfl
theorem pT:((Rows.topRigidRow.maps==(Tryz.f4.params.toList++Rows.topRigidSpec.plain.varTypes Tryz.prog).any (Tryz.prog.mapsRec ·)))=true:=by kernel_rfl
theorem pU:((Rows.topRigidRow.ifaces==(Tryz.f4.params.toList++Rows.topRigidSpec.plain.varTypes Tryz.prog).any (Tryz.prog.ifacesRec ·)))=true:=by kernel_rfl
theorem pV:((Rows.topRigidRow.mapsOut==Tryz.prog.mapsAmong Tryz.f4.resultTypes.toList))=true:=by kernel_rfl
theorem pW:((Rows.topRigidRow.loops==(Tryz.f4.params.toList++Rows.topRigidSpec.plain.varTypes Tryz.prog).any (Tryz.prog.loopsFrom ·)))=true:=by kernel_rfl
theorem pX:((Rows.topRigidRow.wideKeys==(Tryz.f4.params.toList++Rows.topRigidSpec.plain.varTypes Tryz.prog++Tryz.f4.resultTypes.toList).any (Tryz.prog.wideKeysFrom ·)))=true:=by kernel_rfl
theorem pY:(Rows.topRigidSpec.vars.all (Tryz.prog.varReadable ·))=true:=by kernel_rfl
theorem pZ:(Tryz.f4.resultTypes.all (fun t=>Tryz.prog.readableRec t && decide (t<Tryz.prog.types.size)))=true:=by kernel_rfl
theorem p6:((Rows.topRigidRow.ifacesOut==Tryz.f4.resultTypes.toList.any (Tryz.prog.ifacesRec ·)))=true:=by kernel_rfl
theorem p9:((Rows.topRigidRow.loopsOut==Tryz.f4.resultTypes.toList.any (Tryz.prog.loopsFrom ·)))=true:=by kernel_rfl
theorem qa:((Rows.topRigidRow.plainKeys==Tryz.prog.plainKeys))=true:=by kernel_rfl
theorem qb:(Rows.topRigidRow.shortTexts.isNone)=true:=by kernel_rfl
theorem qc:(Tryz.prog.stopsHeard)=true:=by kernel_rfl
theorem qd:(Tryz.prog.mayEnter)=true:=by kernel_rfl
theorem qe:((Rows.topRigidRow.lifted==Tryz.prog.liftsFinal))=true:=by kernel_rfl
theorem qf:((Tryz.prog.make==some Rows.topRigidRow.make))=true:=by kernel_rfl
theorem qg:((Rows.topRigidRow.kinds==(if Rows.topRigidRow.domain.isEmpty then []else Tryz.f4.params.toList.map fun t=>match Tryz.prog.underlying t with | some (.int k)=>some k | _=>none)))=true:=by kernel_rfl
theorem qh:((Rows.topRigidRow.pinned==Rows.topRigidRow.pinnedBy))=true:=by kernel_rfl
theorem qi:((Rows.topRigidRow.veiled==(Tryz.f4.params.toList++Rows.topRigidSpec.plain.varTypes Tryz.prog++Tryz.f4.resultTypes.toList).any (Tryz.prog.veiledRec ·)))=true:=by kernel_rfl
theorem qj:(Rows.topRigidRow.veiledFits Tryz.prog Tryz.f4.params.toList (Tryz.f4.params.toList++Rows.topRigidSpec.plain.varTypes Tryz.prog++Tryz.f4.resultTypes.toList))=true:=by kernel_rfl
set_option maxRecDepth 100000 in
theorem nj:joinedFacts Tryz.prog 4 Tryz.f4 Rows.topRigidSpec Rows.topRigidRow=true:=by
 unfold joinedFacts;exact band (band (band (band (band (band (band (band (band (band (band (band (band (band (band (band (band (band (band (band (band (band (band (band (band (band (band (band (band (band (band (rA) rB) rC) rD) rE) rF) rG) rH) rI) rJ) pQ) pR) pS) pT) pU) pV) pW) pX) pY) pZ) p6) p9) qa) qb) qc) qd) qe) qf) qg) qh) qi) qj
def D (N i:Nat):Nat:=N / 4294967296^i % 4294967296
def nl (N:Nat):Nat:=if N=0 then 0 else N.log2 / 32+1
theorem dD (N i:Nat):D N i<4294967296:=Nat.mod_lt _ (by decide)
theorem cG (i:Nat):0<4294967296^i:=Nat.pow_pos (by decide)
theorem powB2 (i:Nat):4294967296^i=2^(32*i):=by rw[Nat.pow_mul]
theorem bv:nl 0=0:=by simp[nl]
theorem dO (N:Nat):N<4294967296^nl N:=by
 unfold nl;split
 ·subst_vars;decide
 ·rename_i h;rw[powB2,←Nat.log2_lt h];omega
theorem fO {N:Nat} (h:N≠0):0<nl N:=by unfold nl;rw[if_neg h];omega
theorem vB {N:Nat}:nl N=0↔N=0:=by
 constructor
 ·intro h;by_cases h0:N=0
  ·exact h0
  ·have:=fO h0;omega
 ·rintro rfl;exact bv
theorem aR {N k:Nat}:nl N≤k↔N<4294967296^k:=by
 by_cases h:N=0
 ·subst h;simp[bv,cG k]
 ·unfold nl;rw[if_neg h,powB2,←Nat.log2_lt h];omega
theorem dH {m n:Nat} (h:m≤n):nl m≤nl n:=aR.2 (Nat.lt_of_le_of_lt h (dO n))
theorem yS {N:Nat} (h:N≠0):4294967296^(nl N - 1)≤N:=by
 have h1:=fO h;have h3:=aR (N:=N) (k:=nl N - 1);omega
theorem yT (m n k:Nat) (hm:nl m≤k) (hn:nl n≤k):nl (m+n)≤k+1:=by
 rw[aR]at *;rw[Nat.pow_succ];omega
theorem ct (N i:Nat):N % 4294967296^(i+1)=N % 4294967296^i+4294967296^i*D N i:=Nat.mod_pow_succ
theorem cR (N i:Nat):N / 4294967296^i=4294967296*(N / 4294967296^(i+1))+D N i:=by
 unfold D;rw[Nat.pow_succ,←Nat.div_div_eq_div_mul];exact(Nat.div_add_mod _ _).symm
theorem nH {N i:Nat} (h:N<4294967296^i):D N i=0:=by unfold D;rw[Nat.div_eq_of_lt h]
theorem D_zero (i:Nat):D 0 i=0:=by simp[D]
theorem kA {N i:Nat} (h:nl N≤i):D N i=0:=nH (aR.1 h)
theorem D_top {N:Nat} (h:N≠0):D N (nl N - 1)≠0:=by
 have h1:=yS h;have h2:=dO N;have h3:=fO h;obtain⟨k,hk⟩:∃k,nl N=k+1:=⟨nl N - 1,by omega⟩;rw[hk]at h1 h2⊢;simp only[Nat.add_sub_cancel]at h1⊢;unfold D;rw[Nat.mod_eq_of_lt]
 ·have:=Nat.div_pos h1 (cG k);omega
 ·rw[Nat.div_lt_iff_lt_mul (cG k),←Nat.pow_succ'];exact h2
theorem mod_nl (N:Nat):N % 4294967296^nl N=N:=Nat.mod_eq_of_lt (dO N)
theorem qy {N k:Nat} (h:nl N≤k):N % 4294967296^k=N:=Nat.mod_eq_of_lt (aR.1 h)
theorem xH {m n:Nat}:∀k,(∀i,i<k→D m i=D n i)→m % 4294967296^k=n % 4294967296^k
 | 0,_=>by simp[Nat.mod_one]
 | k+1,h=>by rw[ct,ct,xH k (fun i hi=>h i (by omega)),h k (by omega)]
theorem mQ {N k i:Nat} (h:i<k):D (N % 4294967296^k) i=D N i:=by
 unfold D;obtain⟨d,rfl⟩:∃d,k=i+1+d:=⟨k - (i+1),by omega⟩;rw[Nat.pow_add,Nat.pow_succ,Nat.mul_assoc,Nat.mod_mul_right_div_self,Nat.mod_mul_right_mod]
def cy (m n i:Nat):Nat:=(m % 4294967296^i+n % 4294967296^i) / 4294967296^i
theorem xI (m n:Nat):cy m n 0=0:=by simp[cy,Nat.mod_one]
theorem xJ (m n i:Nat):cy m n i≤1:=by
 unfold cy;have h1:=Nat.mod_lt m (cG i);have h2:=Nat.mod_lt n (cG i);have:(m % 4294967296^i+n % 4294967296^i) / 4294967296^i<2:=by
  rw[Nat.div_lt_iff_lt_mul (cG i)];omega
 omega
theorem rK (m n i:Nat):D m i+D n i+cy m n i=D (m+n) i+4294967296*cy m n (i+1):=by
 have hP:=cG i;have e1:(m+n) / 4294967296^i=m / 4294967296^i+n / 4294967296^i+cy m n i:=by
  unfold cy
  conv=>lhs;rw[←Nat.div_add_mod m (4294967296^i),←Nat.div_add_mod n (4294967296^i)]
  rw[show 4294967296^i*(m / 4294967296^i)+m % 4294967296^i+(4294967296^i*(n / 4294967296^i)+n % 4294967296^i)=4294967296^i*(m / 4294967296^i+n / 4294967296^i)+(m % 4294967296^i+n % 4294967296^i)from by rw[Nat.mul_add];omega];rw[Nat.mul_add_div hP]
 have e2:cy m n (i+1)=(D m i+D n i+cy m n i) / 4294967296:=by
  unfold cy;rw[ct,ct,Nat.pow_succ,←Nat.div_div_eq_div_mul]
  congr 1
  rw[show m % 4294967296^i+4294967296^i*D m i+(n % 4294967296^i+4294967296^i*D n i)=4294967296^i*(D m i+D n i)+(m % 4294967296^i+n % 4294967296^i)from by rw[Nat.mul_add];omega];rw[Nat.mul_add_div hP]
 have e3:D (m+n) i=(D m i+D n i+cy m n i) % 4294967296:=by
  show(m+n) / 4294967296^i % 4294967296=_;rw[e1];unfold D;omega
 rw[e2,e3];omega
def upd (N p e:Nat):Nat:=N - 4294967296^p*D N p+4294967296^p*e
theorem qz (N p:Nat):N=4294967296^(p+1)*(N / 4294967296^(p+1))+4294967296^p*D N p+N % 4294967296^p:=by
 have h:=Nat.div_add_mod N (4294967296^(p+1));rw[ct]at h;omega
theorem vC (N p e:Nat):upd N p e=4294967296^(p+1)*(N / 4294967296^(p+1))+4294967296^p*e+N % 4294967296^p:=by
 have h:=qz N p;unfold upd;omega
theorem eh (N p e:Nat):upd N p e+4294967296^p*D N p=N+4294967296^p*e:=by
 have h:=qz N p;unfold upd;omega
theorem mod_upd (N p e:Nat):upd N p e % 4294967296^p=N % 4294967296^p:=by
 rw[vC,Nat.pow_succ,Nat.mul_assoc,←Nat.mul_add];rw[Nat.mul_add_mod];exact Nat.mod_mod _ _
theorem jK (N p e:Nat) (he:e<4294967296):D (upd N p e) p=e:=by
 unfold D;rw[vC,Nat.pow_succ,Nat.mul_assoc,←Nat.mul_add,Nat.mul_add_div (cG p),Nat.div_eq_of_lt (Nat.mod_lt _ (cG p))];omega
theorem xK (N p e:Nat) (he:e<4294967296):upd N p e / 4294967296^(p+1)=N / 4294967296^(p+1):=by
 rw[vC,Nat.add_assoc,Nat.mul_add_div (cG (p+1))];have h0:=Nat.mod_lt N (cG p);have hlt:4294967296^p*e+N % 4294967296^p<4294967296^(p+1):=by
  rw[Nat.pow_succ];have h1:4294967296^p*(e+1)≤4294967296^p*4294967296:=Nat.mul_le_mul_left _ (by omega);rw[Nat.mul_add]at h1;omega
 rw[Nat.div_eq_of_lt hlt,Nat.add_zero]
theorem fD (N p e i:Nat) (he:e<4294967296) (hi:i≠p):D (upd N p e) i=D N i:=by
 rcases Nat.lt_or_gt_of_ne hi with h | h
 ·rw[←mQ (N:=upd N p e) h,mod_upd,mQ h]
 ·obtain⟨d,rfl⟩:∃d,i=p+1+d:=⟨i - (p+1),by omega⟩;unfold D;rw[Nat.pow_add,←Nat.div_div_eq_div_mul,←Nat.div_div_eq_div_mul,xK N p e he]
theorem ii {N p e q:Nat} (hN:N<4294967296^q) (hp:p<q) (he:e<4294967296):upd N p e<4294967296^q:=by
 obtain⟨d,rfl⟩:∃d,q=p+1+d:=⟨q - (p+1),by omega⟩;rw[Nat.pow_add,Nat.mul_comm]at hN⊢;rw[←Nat.div_lt_iff_lt_mul (cG (p+1))]at hN⊢;rw[xK N p e he];exact hN
theorem nI (N k:Nat):upd (N % 4294967296^k) k (D N k)=N % 4294967296^(k+1):=by
 have h:=eh (N % 4294967296^k) k (D N k);rw[nH (Nat.mod_lt N (cG k)),Nat.mul_zero,Nat.add_zero]at h;rw[h,ct]
theorem cy_last {m n k:Nat} (hm:nl m≤k) (hn:nl n≤k):cy m n k=D (m+n) k:=by
 have h:=rK m n k;rw[kA hm,kA hn]at h;have:=xJ m n k;omega
theorem mul_bd (a b:Nat) (ha:a<4294967296) (hb:b<4294967296):0≤(a:Int)*(b:Int)∧(a:Int)*(b:Int)≤18446744065119617025:=by
 have h:=Nat.mul_le_mul (show a≤4294967295 by omega) (show b≤4294967295 by omega);have h':((a*b:Nat):Int)≤18446744065119617025:=by omega
 exact⟨Int.mul_nonneg (by omega) (by omega),by simpa using h'⟩
def Dig (w:World) (b off L N:Nat):Prop:=∀j,j<L→w.cell? ⟨b,off+j,none⟩=some (.int .u32 ((D N j:Nat):Int))
structure Rw (w:World) (a:Option Addr) (L N:Nat):Prop where
 lt:N<4294967296^L
 cells:0<L→∃b off,a=some ⟨b,off,none⟩∧Dig w b off L N
def IsR (w:World) (v:Value) (L N:Nat):Prop:=∃a cap,v= .agg #[.slice a L cap]∧L≤cap∧Rw w a L N
def IsN (w:World) (v:Value) (N:Nat):Prop:=IsR w v (nl N) N
def bj (base:Nat) (w:World) (v:Value) (N:Nat):Prop:=
 ∃a cap,v= .agg #[.slice a (nl N) cap]∧nl N≤cap∧(0<nl N→∃b off,a=some ⟨b,off,none⟩∧base≤b∧Dig w b off (nl N) N∧∀j,j<nl N→w.frozen? ⟨b,off+j,none⟩=false)
def aU (w:World) (g L N:Nat):Prop:=
 N<4294967296^L∧∃cur:Array Value,w.heap[g]? =some (.cells cur 237 (0,0))∧cur.toList=(List.range L).map fun j=>Value.int .u32 ((D N j:Nat):Int)
theorem Dig.lt {w:World} {b off L N:Nat} (h:Dig w b off L N) (hL:0<L):b<w.heap.size:=by
 have:=World.block_lt_of_cell? w _ (h 0 hL);exact this
theorem Dig.mono {w w':World} {b off L N B:Nat} (h:Dig w b off L N) (hb:Below B w w') (hB:b<B):Dig w' b off L N:=
 fun j hj=>(hb.cell (p:=⟨b,off+j,none⟩) hB).trans (h j hj)
theorem Rw.mono {w w':World} {a:Option Addr} {L N:Nat} (h:Rw w a L N) (hb:Below w.heap.size w w'):Rw w' a L N:=
 ⟨h.lt,fun hL=>by
  obtain⟨b,off,rfl,hd⟩:=h.cells hL;exact⟨b,off,rfl,hd.mono hb (hd.lt hL)⟩⟩
theorem IsR.mono {w w':World} {v:Value} {L N:Nat} (h:IsR w v L N) (hb:Below w.heap.size w w'):IsR w' v L N:=by
 obtain⟨a,cap,rfl,hc,hr⟩:=h;exact⟨a,cap,rfl,hc,hr.mono hb⟩
theorem IsN.mono {w w':World} {v:Value} {N:Nat} (h:IsN w v N) (hb:Below w.heap.size w w'):IsN w' v N:=IsR.mono h hb
theorem bj.isN {base:Nat} {w:World} {v:Value} {N:Nat} (h:bj base w v N):IsN w v N:=by
 obtain⟨a,cap,rfl,hc,hr⟩:=h;exact⟨a,cap,rfl,hc,dO N,fun hL=>by obtain⟨b,off,rfl,_,hd,_⟩:=hr hL;exact⟨b,off,rfl,hd⟩⟩
theorem bj.mono {base:Nat} {w w':World} {v:Value} {N:Nat} (h:bj base w v N) (hb:Below w.heap.size w w'):bj base w' v N:=by
 obtain⟨a,cap,rfl,hc,hr⟩:=h;refine⟨a,cap,rfl,hc,fun hL=> ?_⟩;obtain⟨b,off,rfl,h1,hd,hf⟩:=hr hL;exact⟨b,off,rfl,h1,hd.mono hb (hd.lt hL),fun j hj=>(hb.frozen (p:=⟨b,off+j,none⟩) (hd.lt hL)).trans (hf j hj)⟩
theorem bj.weaken {base base':Nat} {w:World} {v:Value} {N:Nat} (h:bj base w v N) (hb:base'≤base):bj base' w v N:=by
 obtain⟨a,cap,rfl,hc,hr⟩:=h;refine⟨a,cap,rfl,hc,fun hL=> ?_⟩;obtain⟨b,off,rfl,h1,hd,hf⟩:=hr hL;exact⟨b,off,rfl,by omega,hd,hf⟩
theorem aU.getcur {L N:Nat} {cur:Array Value} (h:cur.toList=(List.range L).map fun j=>Value.int .u32 ((D N j:Nat):Int)) {p:Nat} (hp:p<L):
  cur[p]? =some (.int .u32 ((D N p:Nat):Int)):=by
 rw[←Array.getElem?_toList,h];simp[hp]
theorem aU.cell {w:World} {g L N:Nat} (h:aU w g L N) {p:Nat} (hp:p<L):w.cell? ⟨g,p,none⟩=some (.int .u32 ((D N p:Nat):Int)):=by
 obtain⟨_,cur,hg,hc⟩:=h;rw[cell_of_row w g p cur _ (0,0) hg];exact aU.getcur hc hp
theorem aU.frozen {w:World} {g L N:Nat} (h:aU w g L N) (p:Nat):w.frozen? ⟨g,p,none⟩=false:=by
 obtain⟨_,cur,hg,hc⟩:=h;exact frozen_of_row w g p cur _ hg
theorem aU.lt {w:World} {g L N:Nat} (h:aU w g L N):g<w.heap.size:=by
 obtain⟨_,cur,hg,hc⟩:=h;exact(Array.getElem?_eq_some_iff.1 hg).1
theorem aU.dig {w:World} {g L N:Nat} (h:aU w g L N):Dig w g 0 L N:=fun j hj=>by rw[Nat.zero_add];exact h.cell hj
theorem aU.rw' {w:World} {g L N:Nat} (h:aU w g L N):Rw w (some ⟨g,0,none⟩) L N:=⟨h.1,fun _=>⟨g,0,rfl,h.dig⟩⟩
theorem aU.store {w:World} {g L N:Nat} (h:aU w g L N) {p e:Nat} (hp:p<L) (he:e<4294967296):
  aU (w.setCell ⟨g,p,none⟩ (.int .u32 (e:Int))) g L (upd N p e):=by
 obtain⟨hlt,cur,hg,hc⟩:=h;refine⟨ii hlt hp he,cur.setIfInBounds p (.int .u32 (e:Int)),heap_setCell_same w g p cur _ _ hg,?_⟩;rw[Array.toList_setIfInBounds,hc];apply List.ext_getElem?;intro i;rw[List.getElem?_set];by_cases hi:p=i
 ·subst hi;simp[hp,jK N p e he]
 ·rw[if_neg hi];simp only[List.getElem?_map,List.getElem?_range]
  cases hr:(List.range L)[i]? with
  | none=>simp
  | some x=>
   simp only[Option.map_some];have hx:x=i:=by
    have:=List.getElem?_eq_some_iff.1 hr;obtain⟨h1,h2⟩:=this;simpa using h2.symm
   subst hx;rw[fD N p e x he (by omega)]
theorem aU.block {w w':World} {g L N:Nat} (h:aU w g L N) (hb:w'.heap[g]? =w.heap[g]?):aU w' g L N:=by
 obtain⟨hlt,cur,hg,hc⟩:=h;exact⟨hlt,cur,hb.trans hg,hc⟩
theorem aU.mono {w w':World} {g L N B:Nat} (h:aU w g L N) (hb:Below B w w') (hB:g<B):aU w' g L N:=h.block (hb.block g hB)
theorem aU.alloc {w:World} {g L N:Nat} (h:aU w g L N) (o:Obj):aU (w.alloc o) g L N:=h.block (Below.heap_alloc w o g h.lt)
theorem aU.setOther {w:World} {g L N:Nat} (h:aU w g L N) (p:Addr) (u:Value) (hp:p.block≠g):aU (w.setCell p u) g L N:=
 h.block (Below.heap_setCell w p u g (fun e=>hp e.symm))
def zrow (n:Nat):Obj:=.cells (madeCells #[.int .u32 0] n) 237
theorem aU.made (w:World) (n:Nat):aU (w.alloc (zrow n)) w.heap.size n 0:=by
 refine⟨cG n,madeCells #[.int .u32 0] n,heap_alloc_new w _,?_⟩;simp only[madeCells,Array.toList_map,Array.toList_range];apply List.map_congr_left;intro j _;simp[D_zero,Nat.mod_one]
theorem rL:(Tryz.prog.info? 237).map (fun i=>(i.zero,i.size,i.bytes))=some (some (.int .u32 0),1,4):=by kernel_rfl
theorem bK {w:World} {ops:Array Oper} {rest:List Oper} {o:Oper} {a:Act} {Q:Exit→Act→World→Prop}
  (hg:o.guard=none) (l c:Operand) (hop:o.op=Op.makeSlice 29 l c)
  (kl kc:IntKind) (L C:Int) (n:Nat) (hl:a.eval l= .int kl L) (hc:a.eval c= .int kc C) (hL:L=(n:Int)) (hC:C=(n:Int)) (hn:n≤60000000000000)
  (hK:wpList Tryz.prog ops Q rest (a.put o.dst (.slice (some ⟨w.heap.size,0,none⟩) n n)) (w.alloc (zrow n))):
  wpList Tryz.prog ops Q (o::rest) a w:=by
 refine wpList_plain hg fun K hK'=> ?_
 obtain⟨i,hi,hz0,hz1,hz2⟩:=info_parts rL;subst hL;subst hC;have hrun:=run_make (P:=Tryz.prog) w 29 237 i (.int .u32 0) Tryz.underlying29 hi hz0 kl kc n n (by omega) (Int.le_refl _) (by rw[hz2];omega) (by omega);rw[hz1,Nat.mul_one]at hrun;simp only[Int.toNat_natCast]at hrun;unfold Oper.wp;simp only[execOp,hop,hl,hc,Sem.run_bind,hrun,Result.andThen,Sem.run_pure];exact hK' _ _ hK
theorem dS {P:Program} {f:FuncId} {args:Array Value} {w:World} {n:Nat} {v:Value}
  (h:Calls P f args (w.drewN n) fun e w'=>e= .returned v∧w.drewN n=w'):Calls P f args (w.drewN n) fun e w''=>e= .returned v∧∃m,w''=w.drewN m:=
 h.mono fun _ _ ⟨he,hm⟩=>⟨he,n,hm.symm⟩
theorem Rw.drewN {w:World} {a:Option Addr} {L N:Nat} (h:Rw w a L N) (q:Nat):Rw (w.drewN q) a L N:=⟨h.lt,h.cells⟩
theorem bg {B:Nat} {a w:World} (h:Below B a w) (q:Nat):Below B a (w.drewN q):=⟨h.os,h.tape,h.output,h.size,h.block⟩
theorem yU (w:World) (a b:Nat):∃n,(w.drewN a).drewN b=w.drewN n:=⟨a+b,by simp[World.drewN,Nat.add_assoc]⟩
theorem bcell {W w1:World} (hb:Below W.heap.size W w1):(∀b o,b<W.heap.size→w1.cell? ⟨b,o,none⟩=W.cell? ⟨b,o,none⟩)∧(∀b o,b<W.heap.size→w1.frozen? ⟨b,o,none⟩=W.frozen? ⟨b,o,none⟩):=
 ⟨fun b o h=>hb.cell (p:=⟨b,o,none⟩) h,fun b o h=>hb.frozen (p:=⟨b,o,none⟩) h⟩
theorem bj.of_own {w w':World} {g L N base:Nat} (h:aU w g L N) (hb:Below w.heap.size w w') (hg:base≤g):bj base w' (.agg #[.slice (some ⟨g,0,none⟩) (nl N) (nl N)]) N:=by
 have h':=h.mono hb h.lt;have hl:nl N≤L:=aR.2 h.1;refine⟨some ⟨g,0,none⟩,nl N,rfl,Nat.le_refl _,fun _=>⟨g,0,rfl,hg,fun j hj=> ?_,fun j _=>by rw[Nat.zero_add];exact h'.frozen j⟩⟩;rw[Nat.zero_add];exact h'.cell (by omega)
theorem bj.of_zero {w:World} {base:Nat} {a:Option Addr} {cap:Nat}:bj base w (.agg #[.slice a 0 cap]) 0:=by
 have h:bj base w (.agg #[.slice a (nl 0) cap]) 0:=⟨a,cap,rfl,by rw[bv];omega,fun h=>by rw[bv]at h;omega⟩;rwa [bv]at h
theorem aU.two (w:World) (n:Nat) (hn:n<18446744073709551616):aU (w.alloc (.cells #[.int .u32 ((n:Int) % 4294967296),.int .u32 ((n:Int) / 4294967296)] 237)) w.heap.size 2 n:=by
 refine⟨hn,_,heap_alloc_new w _,?_⟩;have h1:((D n 1:Nat):Int)=(n:Int) / 4294967296:=by unfold D;rw[Nat.pow_one];omega
 have h0:((D n 0:Nat):Int)=(n:Int) % 4294967296:=by unfold D;rw[Nat.pow_zero,Nat.div_one];omega
 simp only[List.range,List.range.loop,List.map_cons,List.map_nil,h0,h1]
def gF (W:World) (n:Nat) (e:Ending) (w':World):Prop:=∃v,e= .returned v∧bj W.heap.size w' v n∧Below W.heap.size W w'
def RetN (W:World) (n:Nat) (e:Ending) (w':World):Prop:=∃v,e= .returned v∧IsN w' v n∧Below W.heap.size W w'
theorem rM {W w0 w1:World} {g L N r:Nat} {u:Value} (hb1:Below W.heap.size W w0) (hown:aU w0 g L N) (hb2:Below w0.heap.size w0 w1) (hg:W.heap.size≤g) (hr:W.heap.size≤r) (hne:r≠g):
  gF W N (.returned (.agg #[.slice (some ⟨g,0,none⟩) (nl N) (nl N)])) (w1.setCell ⟨r,0,none⟩ u):=
 ⟨_,rfl,bj.of_own ((hown.mono hb2 hown.lt).setOther ⟨r,0,none⟩ u hne) (Below.refl _ _) hg,(hb1.trans (hb2.mono hb1.size)).setCell hr u⟩
theorem nJ {fn:Func} {p:Tmp} (h:fn.results=#[.cell p 31]) (tmps:Array Value) (w:World) (r:Nat) (v:Value)
  (hp:tmps.getD p undef= .pointer (some ⟨r,0,none⟩)) (hc:w.cell? ⟨r,0,none⟩=some v):(results fn tmps).run Tryz.prog w= .ok (.agg #[v]) w:=by
 have hp':tmps[p]?.getD undef= .pointer (some ⟨r,0,none⟩):=by simpa using hp
 simp[results,h,hp',asAddr,loadVar,go_sem,hc]
structure Made (w wx:World) (rc g:Nat):Prop where
 below:Below w.heap.size w wx
 base:w.heap.size≤rc
 lt:rc<g
 size:g<wx.heap.size
 cell:wx.cell? ⟨rc,0,none⟩=some (.slice none 0 0)
 frozen:wx.frozen? ⟨rc,0,none⟩=false
theorem Made.step {w wx wr:World} {rc g:Nat} (h:Made w wx rc g) (hb:Below g wx wr):Made w wr rc g:=
 ⟨h.below.trans (hb.mono (by have:=h.base;have:=h.lt;omega)),h.base,h.lt,Nat.lt_of_lt_of_le h.size hb.size,
  (hb.cell (p:=⟨rc,0,none⟩) h.lt).trans h.cell,(hb.frozen (p:=⟨rc,0,none⟩) h.lt).trans h.frozen⟩
theorem Made.after {w wx w1:World} {rc g:Nat} (h:Made w wx rc g) (hb:Below wx.heap.size wx w1):w1.cell? ⟨rc,0,none⟩=some (.slice none 0 0)∧w1.frozen? ⟨rc,0,none⟩=false:=
 ⟨(hb.cell (p:=⟨rc,0,none⟩) (Nat.lt_trans h.lt h.size)).trans h.cell,(hb.frozen (p:=⟨rc,0,none⟩) (Nat.lt_trans h.lt h.size)).trans h.frozen⟩
theorem Made.fin {w w0 w1:World} {rc g L N:Nat} {u:Value} (h:Made w w0 rc g) (ho:aU w0 g L N) (hb:Below w0.heap.size w0 w1):
  gF w N (.returned (.agg #[.slice (some ⟨g,0,none⟩) (nl N) (nl N)])) (w1.setCell ⟨rc,0,none⟩ u):=
 rM h.below ho hb (by have:=h.base;have:=h.lt;omega) h.base (by have:=h.lt;omega)
theorem tv {fn:Func} {p q:Tmp} (h:fn.results=#[.cell p 31,.tmp q]) (tmps:Array Value) (w:World) (r:Nat) (v u:Value)
  (hp:tmps.getD p undef= .pointer (some ⟨r,0,none⟩)) (hq:tmps.getD q undef=u) (hc:w.cell? ⟨r,0,none⟩=some v):(results fn tmps).run Tryz.prog w= .ok (.tuple #[.agg #[v],u]) w:=by
 have hp':tmps[p]?.getD undef= .pointer (some ⟨r,0,none⟩):=by simpa using hp
 have hq':tmps[q]?.getD undef=u:=by simpa using hq
 simp[results,h,hp',hq',asAddr,loadVar,go_sem,hc]
structure Res2 (w wx:World) (r1 r2:Nat):Prop where
 below:Below w.heap.size w wx
 base:w.heap.size≤r1
 lt:r1<r2
 size:r2<wx.heap.size
 cell1:wx.cell? ⟨r1,0,none⟩=some (.slice none 0 0)
 cell2:wx.cell? ⟨r2,0,none⟩=some (.slice none 0 0)
 frozen1:wx.frozen? ⟨r1,0,none⟩=false
 frozen2:wx.frozen? ⟨r2,0,none⟩=false
theorem Res2.step {w wx wr:World} {r1 r2 B:Nat} (h:Res2 w wx r1 r2) (hb:Below B wx wr) (hB:r2<B):Res2 w wr r1 r2:=
 ⟨h.below.trans (hb.mono (by have:=h.base;have:=h.lt;omega)),h.base,h.lt,Nat.lt_of_lt_of_le h.size hb.size,
  (hb.cell (p:=⟨r1,0,none⟩) (Nat.lt_trans h.lt hB)).trans h.cell1,(hb.cell (p:=⟨r2,0,none⟩) hB).trans h.cell2,(hb.frozen (p:=⟨r1,0,none⟩) (Nat.lt_trans h.lt hB)).trans h.frozen1,(hb.frozen (p:=⟨r2,0,none⟩) hB).trans h.frozen2⟩
theorem Res2.after {w wx w1:World} {r1 r2:Nat} (h:Res2 w wx r1 r2) (hb:Below wx.heap.size wx w1):Res2 w w1 r1 r2:=h.step hb h.size
theorem Res2.drewN {w wx:World} {r1 r2:Nat} (h:Res2 w wx r1 r2) (q:Nat):Res2 w (wx.drewN q) r1 r2:=h.after (bg (Below.refl _ _) q)
theorem Res2.fin {w wx:World} {r1 r2:Nat} {q r:Nat} {vq vr u1 u2:Value} (h:Res2 w wx r1 r2) (hq:bj (r2+1) wx vq q) (hr:bj (r2+1) wx vr r):
  bj w.heap.size ((wx.setCell ⟨r1,0,none⟩ u1).setCell ⟨r2,0,none⟩ u2) vq q∧bj w.heap.size ((wx.setCell ⟨r1,0,none⟩ u1).setCell ⟨r2,0,none⟩ u2) vr r∧Below w.heap.size w ((wx.setCell ⟨r1,0,none⟩ u1).setCell ⟨r2,0,none⟩ u2):=by
 have h1:=h.base;have h2:=h.lt;have keep:∀ {v:Value} {N:Nat},bj (r2+1) wx v N→bj w.heap.size ((wx.setCell ⟨r1,0,none⟩ u1).setCell ⟨r2,0,none⟩ u2) v N:=by
  rintro v N ⟨a,cap,rfl,hc,hx⟩;refine⟨a,cap,rfl,hc,fun hL=> ?_⟩;obtain⟨b,off,rfl,hb,hd,hf⟩:=hx hL;have e:∀k,k=b→((wx.setCell ⟨r1,0,none⟩ u1).setCell ⟨r2,0,none⟩ u2).heap[k]? =wx.heap[k]? :=by
   rintro k rfl;rw[Below.heap_setCell _ _ _ _ (by show k≠r2;omega),Below.heap_setCell _ _ _ _ (by show k≠r1;omega)]
  exact⟨b,off,rfl,by omega,fun j hj=>(World.cell?_of_block (w:=wx) (e b rfl)).trans (hd j hj),fun j hj=>(World.frozen?_of_block (w:=wx) (e b rfl)).trans (hf j hj)⟩
 exact⟨keep hq,keep hr,(h.below.setCell h1 u1).setCell (by show w.heap.size≤r2;omega) u2⟩
theorem n9 {N k:Nat} (hN:nl N≤k+1) (h:D N k=0):nl N≤k:=by
 rw[aR]at *;have h1:=Nat.mod_eq_of_lt hN;rw[ct,h,Nat.mul_zero,Nat.add_zero]at h1;rw[←h1];exact Nat.mod_lt _ (cG k)
theorem yV {N k:Nat} (hN:nl N≤k+1) (h:D N k≠0):nl N=k+1:=by
 have:¬nl N≤k:=fun h'=>h (kA h')
 omega
theorem di (a:Option Addr) (L cap N:Nat) (w:World) (hL:L≤9223372036854775807) (hcap:L≤cap) (hr:Rw w a L N):
  Calls Tryz.prog 189 #[.slice a L cap] w fun e w'=>e= .returned (.slice a (nl N) (nl N))∧w=w':=by
 go_enter Tryz.func189,Tryz.ntmps189
 go_wp2;go_loop [3] (fun n=>∃k:Nat,k≤L∧n= .int .i64 k∧nl N≤k) (fun n=>(intOf n).toNat)
 case atStart=>exact⟨L,Nat.le_refl _,rfl,aR.2 hr.lt⟩
 case round=>
  obtain⟨k,hk,rfl,hn⟩:=hrel
  cases k with
  | zero=>
   go_wp2;go_ret;have:nl N=0:=by omega
   rw[this];exact⟨rfl,rfl⟩
  | succ k=>
   obtain⟨b,off,rfl,hcell⟩:=hr.cells (by omega);have hck:=hcell k (by omega);by_cases hz:D N k=0
   ·rw[hz]at hck;have HZ:=Lib.hid hz;clear hz;go_wp2;go_round
    case rel=>exact⟨k,by omega,by go_num,n9 hn HZ.out⟩
    case measure=>simp[intOf]
   ·have hz':(((D N k:Nat):Int)==0)=false:=by simpa using hz
    have HZ:=Lib.hid hz;clear hz;go_wp2;go_ret;have:nl N=k+1:=yV hn HZ.out;rw[this];exact⟨rfl,rfl⟩
theorem fP (a:Option Addr) (L cap N:Nat) (w:World) (hL:L≤9223372036854775807) (hcap:L≤cap) (hr:Rw w a L N):
  Calls Tryz.prog 196 #[.slice a L cap] w fun e w'=>e= .returned (.agg #[.slice a (nl N) (nl N)])∧Below w.heap.size w w':=by
 go_enter Tryz.func196,Tryz.ntmps196
 go_wp2_with fail
 refine(di a L cap N _ hL hcap (hr.mono ((Below.refl _ _).alloc (Nat.le_refl _) _))).mono ?_;rintro e w' ⟨rfl,rfl⟩;go_wp2;exact bodyPost_ret (v:=.agg #[.slice a (nl N) (nl N)]) (by simp[results,Tryz.results196,go_sem]) rfl ⟨rfl,((Below.refl _ _).alloc (Nat.le_refl _) _)⟩
theorem rN (x y c:Int) (w:World) (hx:0≤x) (hx':x<4294967296) (hy:0≤y) (hy':y<4294967296) (hc:0≤c) (hc':c≤1):
  Calls Tryz.prog 201 #[.int .u32 x,.int .u32 y,.int .u32 c] w fun e w'=>
   e= .returned (.tuple #[.int .u32 ((x+y+c) % 4294967296),.int .u32 ((x+y+c) / 4294967296)])∧w=w':=by
 go_enter Tryz.func201,Tryz.ntmps201
 go_wp2;go_ret2
 exact⟨rfl,rfl⟩
theorem div_or (a b:Nat):(a ||| b) / 2147483648=a / 2147483648 ||| b / 2147483648:=by
 have h:=Nat.shiftRight_or_distrib (i:=31) (a:=a) (b:=b);simpa only[Nat.shiftRight_eq_div_pow]using h
theorem xL (a b:Nat):(a &&& b) / 2147483648=a / 2147483648 &&& b / 2147483648:=by
 have h:=Nat.shiftRight_and_distrib (i:=31) (a:=a) (b:=b);simpa only[Nat.shiftRight_eq_div_pow]using h
theorem rO (a b:Nat):(a ^^^ b) / 2147483648=(a / 2147483648) ^^^ (b / 2147483648):=by
 have h:=Nat.shiftRight_xor_distrib (i:=31) (a:=a) (b:=b);simpa only[Nat.shiftRight_eq_div_pow]using h
theorem vD (x y c d:Nat) (hx:x<4294967296) (hy:y<4294967296) (hc:c≤1) (hd:d=(x+8589934592 - y - c) % 4294967296):
  (((4294967295 ^^^ x) &&& y) ||| ((4294967295 ^^^ (x ^^^ y)) &&& d)) / 2147483648=if x<y+c then 1 else 0:=by
 rw[div_or,xL,xL,rO,rO,rO];have hd':d<4294967296:=by rw[hd];exact Nat.mod_lt _ (by decide)
 have h1:x / 2147483648=0∨x / 2147483648=1:=by omega
 have h2:y / 2147483648=0∨y / 2147483648=1:=by omega
 have h3:d / 2147483648=0∨d / 2147483648=1:=by omega
 rcases h1 with h1 | h1<;>rcases h2 with h2 | h2<;>rcases h3 with h3 | h3<;>rw[h1,h2,h3]<;>(split<;>first | rfl | (exfalso;omega))
def borrow (x y c:Int):Int:=if x<y+c then 1 else 0
theorem vE (x y c:Int) (hx:0≤x) (hx':x<4294967296) (hy:0≤y) (hy':y<4294967296) (hc:0≤c) (hc':c≤1):
  bits BinOp.or IntKind.u32 (bits BinOp.and IntKind.u32 (bits BinOp.xor IntKind.u32 IntKind.u32.max x) y)
        (bits BinOp.and IntKind.u32
         (bits BinOp.xor IntKind.u32 IntKind.u32.max (bits BinOp.xor IntKind.u32 x y))
         ((x - y - c) % 4294967296)) / 2147483648=borrow x y c:=by
 obtain⟨x,rfl⟩:=Int.eq_ofNat_of_zero_le hx;obtain⟨y,rfl⟩:=Int.eq_ofNat_of_zero_le hy;obtain⟨c,rfl⟩:=Int.eq_ofNat_of_zero_le hc;have ed:((x:Int) - y - c) % 4294967296=(((x+8589934592 - y - c) % 4294967296:Nat):Int):=by omega
 have em:IntKind.u32.max=((4294967295:Nat):Int):=by decide
 have hx:x<4294967296:=by omega
 have hy:y<4294967296:=by omega
 have l1:4294967295 ^^^ x<4294967296:=Nat.xor_lt_two_pow (n:=32) (by decide) hx;have l2:x ^^^ y<4294967296:=Nat.xor_lt_two_pow (n:=32) hx hy;have l3:4294967295 ^^^ (x ^^^ y)<4294967296:=Nat.xor_lt_two_pow (n:=32) (by decide) l2;have l4:(x+8589934592 - y - c) % 4294967296<4294967296:=Nat.mod_lt _ (by decide);have l5:(4294967295 ^^^ x) &&& y<4294967296:=Nat.and_lt_two_pow (n:=32) _ hy;have l6:(4294967295 ^^^ (x ^^^ y)) &&& ((x+8589934592 - y - c) % 4294967296)<4294967296:=Nat.and_lt_two_pow (n:=32) _ l4;rw[ed,em,u32_xor_nat _ _ (by decide) hx,u32_xor_nat _ _ hx hy,u32_xor_nat _ _ (by decide) l2,u32_and_nat _ _ l1 hy,u32_and_nat _ _ l3 l4,u32_or_nat _ _ l5 l6];have hb:=vD x y c _ hx hy (by omega) rfl;unfold borrow;have hcast:((((((4294967295 ^^^ x) &&& y) ||| ((4294967295 ^^^ (x ^^^ y)) &&& ((x+8589934592 - y - c) % 4294967296))) / 2147483648:Nat)):Int)=if (x:Int)<y+c then 1 else 0:=by
  rw[hb];split<;>split<;>first | rfl | omega
 simpa using hcast
theorem rP (x y c:Int) (w:World) (hx:0≤x) (hx':x<4294967296) (hy:0≤y) (hy':y<4294967296) (hc:0≤c) (hc':c≤1):
  Calls Tryz.prog 203 #[.int .u32 x,.int .u32 y,.int .u32 c] w fun e w'=>
   e= .returned (.tuple #[.int .u32 ((x - y - c) % 4294967296),.int .u32 (borrow x y c)])∧w=w':=by
 have hb:=Lib.hid (vE x y c hx hx' hy hy' hc hc');go_enter Tryz.func203,Tryz.ntmps203
 go_wp2;go_ret2
 refine⟨?_,rfl⟩;rw[←hb.out];rfl
set_option maxHeartbeats 4000000 in
set_option maxRecDepth 100000 in
theorem c_len32 (x:Int) (w:World) (h0:0≤x) (h1:x≤4294967295):
  Calls Tryz.prog 232 #[.int .u32 x] w fun e w'=>e= .returned (.int .i64 (Lib.bitLen x.toNat))∧w=w':=by
 by_cases c2:x<65536
 ·by_cases c1:x<256
  ·have b1:x≤255:=by omega
   have l:=Lib.bitLen_le8' x (by omega) (by omega);have hl:=Lib.hid (Lib.len8_of x (by omega) (by omega));go_enter Tryz.func232,Tryz.ntmps232
   go_wp2;go_ret;refine⟨congrArg Ending.returned (congrArg (Value.int IntKind.i64) ?_),rfl⟩;rw[hl.out];simp only[wrap64];omega
  ·have b0:0≤x / 256:=by omega
   have b1:x / 256≤255:=by omega
   have l:=Lib.bitLen_le8' (x / 256) (by omega) (by omega);have hl:=Lib.hid (Lib.len8_of (x / 256) (by omega) (by omega));have hs:=Lib.hid (Lib.bitLen_shift8 x.toNat (by omega) (by omega));have e:=Lib.hid (show(x / 256).toNat=x.toNat / 256 from by omega);go_enter Tryz.func232,Tryz.ntmps232
   go_wp2;go_ret;refine⟨congrArg Ending.returned (congrArg (Value.int IntKind.i64) ?_),rfl⟩;rw[hl.out,hs.out,←e.out];simp only[wrap64];omega
 ·by_cases c1:x / 65536<256
  ·have b0:0≤x / 65536:=by omega
   have b1:x / 65536≤255:=by omega
   have l:=Lib.bitLen_le8' (x / 65536) (by omega) (by omega);have hl:=Lib.hid (Lib.len8_of (x / 65536) (by omega) (by omega));have hs:=Lib.hid (Lib.bitLen_shift16 x.toNat (by omega) (by omega));have e:=Lib.hid (show(x / 65536).toNat=x.toNat / 65536 from by omega);go_enter Tryz.func232,Tryz.ntmps232
   go_wp2;go_ret;refine⟨congrArg Ending.returned (congrArg (Value.int IntKind.i64) ?_),rfl⟩;rw[hl.out,hs.out,←e.out];simp only[wrap64];omega
  ·have b0:0≤x / 65536 / 256:=by omega
   have b1:x / 65536 / 256≤255:=by omega
   have l:=Lib.bitLen_le8' (x / 65536 / 256) (by omega) (by omega);have hl:=Lib.hid (Lib.len8_of (x / 65536 / 256) (by omega) (by omega));have hs:=Lib.hid (Lib.bitLen_shift24 x.toNat (by omega) (by omega));have e:=Lib.hid (show(x / 65536 / 256).toNat=x.toNat / 16777216 from by omega);go_enter Tryz.func232,Tryz.ntmps232
   go_wp2;go_ret;refine⟨congrArg Ending.returned (congrArg (Value.int IntKind.i64) ?_),rfl⟩;rw[hl.out,hs.out,←e.out];simp only[wrap64];omega
theorem c_lz32 (x:Int) (w:World) (h0:0≤x) (h1:x≤4294967295):
  Calls Tryz.prog 242 #[.int .u32 x] w fun e w'=>e= .returned (.int .i64 (32 - (Lib.bitLen x.toNat:Int)))∧w=w':=by
 have l:=Lib.bitLen_le x.toNat 32 (by omega) (by omega);go_enter Tryz.func242,Tryz.ntmps242
 go_wp2_with fail
 refine(c_len32 x _ h0 h1).mono ?_;rintro e w' ⟨rfl,rfl⟩;go_wp2;go_ret;exact⟨rfl,rfl⟩
theorem or32 (hi lo:Int) (h0:0≤hi) (h1:hi≤4294967295) (h2:0≤lo) (h3:lo≤4294967295):bits BinOp.or IntKind.u64 (hi*4294967296) lo=hi*4294967296+lo:=by
 obtain⟨x,rfl⟩:=Int.eq_ofNat_of_zero_le h0;obtain⟨y,rfl⟩:=Int.eq_ofNat_of_zero_le h2;have:=u64_or_nat (x*4294967296) y (by omega) (by omega);rw[nat_join 32 (x*4294967296) y (by omega) (by omega)]at this;simpa using this
theorem c_div32 (hi lo y:Int) (w:World) (h0:0≤hi) (h1:hi<y) (h2:0≤lo) (h3:lo≤4294967295) (h4:y≤4294967295):
  Calls Tryz.prog 239 #[.int .u32 hi,.int .u32 lo,.int .u32 y] w fun e w'=>e= .returned (.tuple #[.int .u32 ((hi*4294967296+lo) / y),.int .u32 ((hi*4294967296+lo) % y)])∧∃n,w'=w.drewN n:=by
 have hy:0<y:=by omega
 have hor:=or32 hi lo h0 (by omega) h2 h3;have hne:(y !=0)=true:=by rw[bne_iff_ne];omega
 have q1:0≤(hi*4294967296+lo) / y:=Int.ediv_nonneg (by omega) (by omega);have q2:(hi*4294967296+lo) / y≤4294967295:=by
  have:(hi*4294967296+lo) / y<4294967296:=by
   rw[Int.ediv_lt_iff_lt_mul hy];omega
  omega
 have r1:0≤(hi*4294967296+lo) % y:=Int.emod_nonneg _ (by omega);have r2:(hi*4294967296+lo) % y<y:=Int.emod_lt_of_pos _ hy;go_enter Tryz.func239,Tryz.ntmps239
 go_wp2;go_quiet (fail)
 go_wp2;go_ret2
 exact⟨rfl,_,rfl⟩
def cmpI (m n:Nat):Int:=if m<n then -1 else if n<m then 1 else 0
theorem kB {m n:Nat} (h:m<n):cmpI m n= -1:=by unfold cmpI;rw[if_pos h]
theorem rQ {m n:Nat} (h:n<m):cmpI m n=1:=by unfold cmpI;rw[if_neg (by omega),if_pos h]
theorem xM {m n:Nat} (h:m=n):cmpI m n=0:=by unfold cmpI;rw[if_neg (by omega),if_neg (by omega)]
theorem tw {m n:Nat} (h:nl m<nl n):m<n:=by
 have h1:=aR (N:=n) (k:=nl m);have h2:=dO m;omega
theorem mR {m n k:Nat} (h:m / 4294967296^(k+1)=n / 4294967296^(k+1)) (hd:D m k<D n k):m<n:=by
 have h1:=cR m k;have h2:=cR n k;have h3:m / 4294967296^k<n / 4294967296^k:=by omega
 have h4:=Nat.div_add_mod m (4294967296^k);have h5:=Nat.div_add_mod n (4294967296^k);have h6:=Nat.mod_lt m (cG k);have h7:4294967296^k*(m / 4294967296^k+1)≤4294967296^k*(n / 4294967296^k):=Nat.mul_le_mul_left _ h3;rw[Nat.mul_add]at h7;omega
theorem eO (a b:Option Addr) (ca cb m n:Nat) (w:World) (ha:Rw w a (nl m) m) (hb:Rw w b (nl n) n) (hm:nl m≤60000000000000) (hn:nl n≤60000000000000):
  Calls Tryz.prog 202 #[.slice a (nl m) ca,.slice b (nl n) cb] w fun e w'=>e= .returned (.int .i64 (cmpI m n))∧∃n,w'=w.drewN n:=by
 by_cases hL:nl m=nl n
 ·rw[←hL]at hb⊢;clear hL hn;generalize nl m=L at *;have hne:((L:Int) !=L)=false:=by simp
  go_enter Tryz.func202,Tryz.ntmps202
  go_wp2;go_loopw [5] (fun i wr=>∃k:Nat,k≤L∧i= .int .i64 ((k:Int) - 1)∧m / 4294967296^k=n / 4294967296^k∧∃q,wr=w.drewN q) (fun i _=>((intOf i)+1).toNat)
  case atStart=>exact⟨L,Nat.le_refl _,rfl,by rw[Nat.div_eq_of_lt ha.lt,Nat.div_eq_of_lt hb.lt],0,rfl⟩
  case round=>
   obtain⟨k,hk,rfl,hr,q,rfl⟩:=hrel;have HR:=Lib.hid hr;clear hr
   cases k with
   | zero=>
    go_wp2;go_ret;refine⟨?_,q,rfl⟩;rw[xM (by simpa using HR.out)];rfl
   | succ k=>
    obtain⟨b1,o1,rfl,h1⟩:=ha.cells (by omega);obtain⟨b2,o2,rfl,h2⟩:=hb.cells (by omega);have c1:=h1 k (by omega);have c2:=h2 k (by omega);have e:(((k+1:Nat):Int) - 1)=(k:Int):=by omega
    simp only[e];clear e;rcases Nat.lt_trichotomy (D m k) (D n k)with h | h | h
    ·have h':((D m k:Nat):Int)<((D n k:Nat):Int):=by omega
     go_wp2;go_quiet (fail)
     go_wp2;go_ret;exact⟨by rw[kB (mR HR.out h)];rfl,yU _ _ _⟩
    ·have HD:=Lib.hid h;have h1':¬((D m k:Nat):Int)<((D n k:Nat):Int):=by omega
     have h2':¬((D n k:Nat):Int)<((D m k:Nat):Int):=by omega
     clear h;go_wp2;go_quiet (fail)
     go_wp2;go_quiet (fail)
     go_wp2;go_roundw
     case rel=>exact⟨k,by omega,rfl,by rw[cR m k,cR n k,HR.out,HD.out],_,rfl⟩
     case measure=>simp[intOf]
    ·have h1':¬((D m k:Nat):Int)<((D n k:Nat):Int):=by omega
     have h2':((D n k:Nat):Int)<((D m k:Nat):Int):=by omega
     go_wp2;go_quiet (fail)
     go_wp2;go_quiet (fail)
     go_wp2;go_ret;exact⟨by rw[rQ (mR HR.out.symm h)];rfl,by simp only[World.drewN_drewN];exact⟨_,rfl⟩⟩
 ·have hne:(((nl m:Nat):Int) !=((nl n:Nat):Int))=true:=by rw[bne_iff_ne];omega
  rcases Nat.lt_or_gt_of_ne hL with h | h
  ·have h':((nl m:Nat):Int)<((nl n:Nat):Int):=by omega
   go_enter Tryz.func202,Tryz.ntmps202
   go_wp2;go_ret;exact⟨by rw[kB (tw h)];rfl,0,rfl⟩
  ·have h':¬((nl m:Nat):Int)<((nl n:Nat):Int):=by omega
   go_enter Tryz.func202,Tryz.ntmps202
   go_wp2;go_ret;exact⟨by rw[rQ (tw h)];rfl,0,rfl⟩
theorem qk (va vb:Value) (m n:Nat) (w:World) (ha:IsN w va m) (hb:IsN w vb n) (hm:nl m≤60000000000000) (hn:nl n≤60000000000000):
  Calls Tryz.prog 191 #[va,vb] w fun e w'=>e= .returned (.int .i64 (cmpI m n))∧Below w.heap.size w w':=by
 obtain⟨a,ca,rfl,hca,ra⟩:=ha;obtain⟨b,cb,rfl,hcb,rb⟩:=hb;have hw:Below w.heap.size w ((w.alloc (.cells #[.slice a (nl m) ca] 31)).alloc (.cells #[.slice b (nl n) cb] 31)):=((Below.refl _ _).alloc (Nat.le_refl _) _).alloc (by simp) _;have ra':=ra.mono hw;have rb':=rb.mono hw;have hm':nl m≤9223372036854775807:=by omega
 have hn':nl n≤9223372036854775807:=by omega
 go_enter Tryz.func191,Tryz.ntmps191
 go_wp2
 go_quiet (first
  | (go_at_call 189;with_reducible exact dS (di a (nl m) ca m _ hm' hca (ra'.drewN _)))
  | (go_at_call 189;with_reducible exact dS (di b (nl n) cb n _ hn' hcb (rb'.drewN _)))
  | (go_at_call 202;with_reducible exact Calls.quiet_of (eO a b _ _ m n _ (ra'.drewN _) (rb'.drewN _) hm hn)))
 go_wp2;go_ret;exact⟨rfl,bg hw _⟩
theorem np (va:Value) (L N:Nat) (w:World) (ha:IsR w va L N) (hL:L≤60000000000000):
  Calls Tryz.prog 279 #[va] w fun e w'=>e= .returned (.bool (decide (L=nl N)))∧Below w.heap.size w w':=by
 obtain⟨a,ca,rfl,hca,ra⟩:=ha;have hw:Below w.heap.size w (w.alloc (.cells #[.slice a L ca] 31)):=(Below.refl _ _).alloc (Nat.le_refl _) _;have ra':=ra.mono hw;have hm':L≤9223372036854775807:=by omega
 go_enter Tryz.func279,Tryz.ntmps279
 go_wp2;go_quiet ((go_at_call 189;with_reducible exact dS (di a L ca N _ hm' hca (ra'.drewN _))))
 go_wp2;go_ret;refine⟨?_,bg hw _⟩;have e:((L:Int)==((nl N:Nat):Int))=decide (L=nl N):=by rw[Bool.eq_iff_iff];simp;omega
 rw[←e];rfl
theorem eH (n:Nat) (w:World) (hn:n<18446744073709551616):
  Calls Tryz.prog 142 #[.int .u64 (n:Int)] w fun e w'=>gF w n e w':=by
 have hown:=aU.two (w.alloc (.cells #[.slice none 0 0] 31)) n hn;have hb0:Below w.heap.size w (w.alloc (.cells #[.slice none 0 0] 31)):=(Below.refl _ _).alloc (Nat.le_refl _) _;have hb1:=hb0.alloc (by simp) (.cells #[.int .u32 ((n:Int) % 4294967296),.int .u32 ((n:Int) / 4294967296)] 237);rw[World.size_alloc]at hown;go_enter Tryz.func142,Tryz.ntmps142
 go_wp2_with fail
 refine(fP _ 2 2 n _ (by omega) (Nat.le_refl _) hown.rw').mono ?_;rintro e w1 ⟨rfl,hb2⟩;obtain⟨hc,hf⟩:=bcell hb2;have hz:=hb2.size;simp only[World.size_alloc]at hz;go_wp2;exact bodyPost_ret (nJ rfl _ _ w.heap.size _ rfl (World.cell?_setCell_same _ _ _ (u:=.slice none 0 0) (by simp[hc,go_sem]))) rfl
  (rM hb1 hown hb2 (by omega) (Nat.le_refl _) (by omega))
theorem jD (va vb:Value) (m n:Nat) (w:World) (ha:IsN w va m) (hb:IsN w vb n) (hm:nl m≤1000000000000) (hn:nl n≤1000000000000):
  Calls Tryz.prog 147 #[va,vb] w fun e w'=>gF w (m+n) e w':=by
 obtain⟨a,ca,rfl,hca,ra⟩:=ha;obtain⟨b,cb,rfl,hcb,rb⟩:=hb;go_enter Tryz.func147,Tryz.ntmps147
 go_wp2_with fail
 go_quiet (fail)
 go_upto_if 19 with(fail)
 go_cut [5,6] (fun s5 s6 wx=>Below w.heap.size w wx∧w.heap.size+1+1<wx.heap.size∧wx.cell? ⟨w.heap.size+1+1,0,none⟩=some (.slice none 0 0)∧wx.frozen? ⟨w.heap.size+1+1,0,none⟩=false∧
   ∃al cl x bl cs y,s5= .slice al (nl x) cl∧s6= .slice bl (nl y) cs∧nl y≤nl x∧nl x≤1000000000000∧Hid (x+y=m+n)∧Rw w al (nl x) x∧Rw w bl (nl y) y)
 case first=>
  have hW:=bg ((((Below.refl w.heap.size w).alloc (Nat.le_refl _) (.cells #[.slice a (nl m) ca] 31)).alloc (by simp) (.cells #[.slice b (nl n) cb] 31)).alloc (by simp;omega) (.cells #[.slice none 0 0] 31)) nq;go_wp2_with fail
  all_goals go_meet
  case rel=>exact⟨hW,by simp,by simp[go_sem],by simp[go_sem],b,cb,n,a,ca,m,rfl,rfl,by omega,by omega,Lib.hid (Nat.add_comm _ _),rb,ra⟩
  case rel=>exact⟨hW,by simp,by simp[go_sem],by simp[go_sem],a,ca,m,b,cb,n,rfl,rfl,by omega,by omega,Lib.hid rfl,ra,rb⟩
 case rest=>
  obtain⟨hW,hsz,hc,hf,al,cl,x,bl,cs,y,rfl,rfl,hyx,hx,hsum,rx,ry⟩:=hcut;clear ra rb hca hcb hm hn;have hown:=aU.made wc (nl x+1);go_wp2_with (at_make;refine bK rfl _ _ rfl _ _ _ _ (nl x+1) rfl rfl (by omega) (by omega) (by omega) ?_)
  go_loopw [8,28] (fun s8 s28 wr=>∃k:Nat,k≤nl x∧s28= .int .i64 k∧s8= .int .u32 ((cy x y k:Nat):Int)∧aU wr wc.heap.size (nl x+1) ((x+y) % 4294967296^k)∧Below wc.heap.size wc wr∧wc.heap.size<wr.heap.size)
   (fun _ i _=>nl x - (intOf i).toNat)
  case atStart=>exact⟨0,Nat.zero_le _,rfl,by rw[xI];rfl,by simpa [Nat.mod_one]using hown,(Below.refl _ _).alloc (Nat.le_refl _) _,by simp⟩
  case round=>
   obtain⟨k,hk,rfl,rfl,ho,hbr,hsr⟩:=hrel;clear hown;have hcy:=xJ x y k;have hdx:=dD x k;have hdy:=dD y k;have hds:=dD (x+y) k;have E1:Hid (((D x k:Nat):Int)+((D y k:Nat):Int)+((cy x y k:Nat):Int)=((D (x+y) k:Nat):Int)+4294967296*((cy x y (k+1):Nat):Int)):=by
    have:=rK x y k;show _=_;omega
   by_cases hlt:k<nl x
   ·have rxr:=rx.mono (hW.trans (hbr.mono hW.size));have ryr:=ry.mono (hW.trans (hbr.mono hW.size));obtain⟨b1,o1,rfl,h1⟩:=rxr.cells (by omega);have c1:=h1 k hlt;have c3:=ho.cell (p:=k) (by omega);have f3:=ho.frozen k;have hst:aU (wr.setCell ⟨wc.heap.size,k,none⟩ (.int .u32 ((D (x+y) k:Nat):Int))) wc.heap.size (nl x+1) ((x+y) % 4294967296^(k+1)):=by
     rw[←nI];exact ho.store (by omega) hds
    have hbs:=hbr.setCell (p:=⟨wc.heap.size,k,none⟩) (Nat.le_refl _) (.int .u32 ((D (x+y) k:Nat):Int));by_cases hlt2:k<nl y
    ·obtain⟨b2,o2,rfl,h2⟩:=ryr.cells (by omega);have c2:=h2 k hlt2;go_wp2_with fail
     refine(rN _ _ _ _ (by omega) (by omega) (by omega) (by omega) (by omega) (by omega)).mono ?_;rintro e w1 ⟨rfl,rfl⟩;rw[show(((D x k:Nat):Int)+((D y k:Nat):Int)+((cy x y k:Nat):Int)) % 4294967296=((D (x+y) k:Nat):Int)from by have:=E1.out;omega,show(((D x k:Nat):Int)+((D y k:Nat):Int)+((cy x y k:Nat):Int)) / 4294967296=((cy x y (k+1):Nat):Int)from by have:=E1.out;omega];go_wp2;go_roundw
     case rel=>exact⟨k+1,by omega,by go_num,rfl,hst,hbs,by simpa using hsr⟩
     case measure=>simp[intOf];omega
    ·have E0:Hid (D y k=0):=kA (by omega);go_wp2_with fail
     refine(rN _ _ _ _ (by omega) (by omega) (by omega) (by omega) (by omega) (by omega)).mono ?_;rintro e w1 ⟨rfl,rfl⟩;rw[show(((D x k:Nat):Int)+0+((cy x y k:Nat):Int)) % 4294967296=((D (x+y) k:Nat):Int)from by have:=E1.out;have:=E0.out;omega,show(((D x k:Nat):Int)+0+((cy x y k:Nat):Int)) / 4294967296=((cy x y (k+1):Nat):Int)from by have:=E1.out;have:=E0.out;omega];go_wp2;go_roundw
     case rel=>exact⟨k+1,by omega,by go_num,rfl,hst,hbs,by simpa using hsr⟩
     case measure=>simp[intOf];omega
   ·obtain rfl:k=nl x:=by omega
    have c3:=ho.cell (p:=nl x) (by omega);have f3:=ho.frozen (nl x);have hst:aU (wr.setCell ⟨wc.heap.size,nl x,none⟩ (.int .u32 ((cy x y (nl x):Nat):Int))) wc.heap.size (nl x+1) (x+y):=by
     have h:=ho.store (p:=nl x) (e:=cy x y (nl x)) (by omega) (by omega);rw[cy_last (Nat.le_refl _) hyx]at h⊢;rwa [nI,qy (yT x y (nl x) (Nat.le_refl _) hyx)]at h
    have hbs:=hbr.setCell (p:=⟨wc.heap.size,nl x,none⟩) (Nat.le_refl _) (.int .u32 ((cy x y (nl x):Nat):Int));have hB:=hW.trans (hbs.mono hW.size);go_wp2_with fail
    refine(fP _ (nl x+1) (nl x+1) (x+y) _ (by omega) (Nat.le_refl _) hst.rw').mono ?_;rintro e w1 ⟨rfl,hb2⟩;have hcc:w1.cell? ⟨w.heap.size+1+1,0,none⟩=some (.slice none 0 0):=by
     rw[hb2.cell (p:=⟨w.heap.size+1+1,0,none⟩) (by simp;omega),hbs.cell (p:=⟨w.heap.size+1+1,0,none⟩) hsz];exact hc
    have hff:w1.frozen? ⟨w.heap.size+1+1,0,none⟩=false:=by
     rw[hb2.frozen (p:=⟨w.heap.size+1+1,0,none⟩) (by simp;omega),hbs.frozen (p:=⟨w.heap.size+1+1,0,none⟩) hsz];exact hf
    go_wp2;exact bodyPost_ret (nJ rfl _ _ (w.heap.size+1+1) _ rfl (World.cell?_setCell_same _ _ _ hcc)) rfl
     (by rw[←hsum.out];exact rM hB hst hb2 (by have:=hW.size;omega) (by omega) (by omega))
def rR (W:World) (m n:Nat) (e:Ending) (w':World):Prop:=∃v,e= .returned (.tuple #[v,.bool (decide (n≤m))])∧bj W.heap.size w' v (m - n)∧Below W.heap.size W w'
theorem ql (va vb:Value) (m n:Nat) (w:World) (ha:IsN w va m) (hb:IsN w vb n) (hm:nl m≤1000000000000) (hn:nl n≤1000000000000):
  Calls Tryz.prog 148 #[va,vb] w fun e w'=>rR w m n e w':=by
 obtain⟨a,ca,rfl,hca,ra⟩:=ha;obtain⟨b,cb,rfl,hcb,rb⟩:=hb;have hw:Below w.heap.size w (((w.alloc (.cells #[.slice a (nl m) ca] 31)).alloc (.cells #[.slice b (nl n) cb] 31)).alloc (.cells #[.slice none 0 0] 31)):=(((Below.refl _ _).alloc (Nat.le_refl _) _).alloc (by simp) _).alloc (by simp;omega) _;have ra':=ra.mono hw;have rb':=rb.mono hw;have hm':nl m≤9223372036854775807:=by omega
 have hn':nl n≤9223372036854775807:=by omega
 by_cases hmn:m<n
 ·have hcm:cmpI m n= -1:=kB hmn;go_enter Tryz.func148,Tryz.ntmps148
  go_wp2_with fail
  go_quiet (first
   | (go_at_call 189;with_reducible exact dS (di a (nl m) ca m _ hm' hca (ra'.drewN _)))
   | (go_at_call 189;with_reducible exact dS (di b (nl n) cb n _ hn' hcb (rb'.drewN _))))
  go_wp2_with fail
  refine(eO a b _ _ m n _ (ra'.drewN _) (rb'.drewN _) (by omega) (by omega)).mono ?_;rintro e w1 ⟨rfl,q,rfl⟩;go_wp2;have hsub:m - n=0:=by omega
  refine bodyPost_ret (tv rfl _ _ (w.heap.size+1+1) (.slice none 0 0) (.bool false) rfl rfl (by simp[go_sem])) rfl ⟨.agg #[.slice none 0 0],?_,?_,?_⟩
  ·rw[decide_eq_false (by omega)]
  ·rw[hsub];exact bj.of_zero
  ·first | exact bg hw _ | exact(bg hw _).setCell (by simp;omega) _
 ·have hcm:0≤cmpI m n:=by unfold cmpI;split<;>first | (exfalso;omega) | (split<;>omega)
  have HS:=Lib.hid (show m - n+n=m by omega);go_enter Tryz.func148,Tryz.ntmps148
  go_wp2_with fail
  go_quiet (first
   | (go_at_call 189;with_reducible exact dS (di a (nl m) ca m _ hm' hca (ra'.drewN _)))
   | (go_at_call 189;with_reducible exact dS (di b (nl n) cb n _ hn' hcb (rb'.drewN _))))
  go_wp2_with fail
  refine(eO a b _ _ m n _ (ra'.drewN _) (rb'.drewN _) (by omega) (by omega)).mono ?_;rintro e w1 ⟨rfl,q,rfl⟩;go_upto_region 4 with(fail)
  go_cut [8] (fun s8 wx=>∃g,s8= .slice (some ⟨g,0,none⟩) (nl m) (nl m)∧aU wx g (nl m) 0∧Made w wx (w.heap.size+1+1) g)
  case first=>
   have hown:=aU.made ((((w.alloc (.cells #[.slice a (nl m) ca] 31)).alloc (.cells #[.slice b (nl n) cb] 31)).alloc (.cells #[.slice none 0 0] 31)).drewN (nq+q)) (nl m);go_wp2_with (at_make;refine bK rfl _ _ rfl _ _ _ _ (nl m) rfl rfl (by omega) (by omega) (by omega) ?_)
   go_meet;case rel=>exact⟨_,rfl,by simpa using hown,(bg hw _).alloc (by simp;omega) _,by omega,by simp,by simp,by simp[go_sem],by simp[go_sem]⟩
  case rest=>
   obtain⟨g,rfl,hown,hmade⟩:=hcut;go_wp2_with fail
   go_loopw [9,28] (fun s9 s28 wr=>∃k:Nat,k≤nl m∧s28= .int .i64 k∧s9= .int .u32 ((cy (m - n) n k:Nat):Int)∧aU wr g (nl m) ((m - n) % 4294967296^k)∧Below g wc wr)
    (fun _ i _=>nl m - (intOf i).toNat)
   case atStart=>exact⟨0,Nat.zero_le _,rfl,by rw[xI];rfl,by simpa [Nat.mod_one]using hown,Below.refl _ _⟩
   case round=>
    obtain⟨k,hk,rfl,rfl,ho,hbr⟩:=hrel;have hmr:=hmade.step hbr;have hcy:=xJ (m - n) n k;have hcy1:=xJ (m - n) n (k+1);have hdx:=dD m k;have hdy:=dD n k;have hds:=dD (m - n) k;have E1:Hid (((D (m - n) k:Nat):Int)+((D n k:Nat):Int)+((cy (m - n) n k:Nat):Int)=((D m k:Nat):Int)+4294967296*((cy (m - n) n (k+1):Nat):Int)):=by
     have:=rK (m - n) n k;rw[HS.out]at this;show _=_;omega
    by_cases hlt:k<nl m
    ·have rar:=ra.mono hmr.below;have rbr:=rb.mono hmr.below;obtain⟨b1,o1,rfl,h1⟩:=rar.cells (by omega);have c1:=h1 k hlt;have c3:=ho.cell hlt;have f3:=ho.frozen k;have hst:aU (wr.setCell ⟨g,k,none⟩ (.int .u32 ((D (m - n) k:Nat):Int))) g (nl m) ((m - n) % 4294967296^(k+1)):=by
      rw[←nI];exact ho.store (by omega) hds
     have hbs:=hbr.setCell (p:=⟨g,k,none⟩) (Nat.le_refl _) (.int .u32 ((D (m - n) k:Nat):Int));by_cases hlt2:k<nl n
     ·obtain⟨b2,o2,rfl,h2⟩:=rbr.cells (by omega);have c2:=h2 k hlt2;go_wp2_with fail
      refine(rP _ _ _ _ (by omega) (by omega) (by omega) (by omega) (by omega) (by omega)).mono ?_;rintro e w1 ⟨rfl,rfl⟩;rw[show(((D m k:Nat):Int) - ((D n k:Nat):Int) - ((cy (m - n) n k:Nat):Int)) % 4294967296=((D (m - n) k:Nat):Int)from by have:=E1.out;omega,show borrow ((D m k:Nat):Int) ((D n k:Nat):Int) ((cy (m - n) n k:Nat):Int)=((cy (m - n) n (k+1):Nat):Int)from by have:=E1.out;unfold borrow;split<;>omega];go_wp2;go_roundw
      case rel=>exact⟨k+1,by omega,by go_num,rfl,hst,hbs⟩
      case measure=>simp[intOf];omega
     ·have E0:Hid (D n k=0):=kA (by omega);go_wp2_with fail
      refine(rP _ _ _ _ (by omega) (by omega) (by omega) (by omega) (by omega) (by omega)).mono ?_;rintro e w1 ⟨rfl,rfl⟩;rw[show(((D m k:Nat):Int) - 0 - ((cy (m - n) n k:Nat):Int)) % 4294967296=((D (m - n) k:Nat):Int)from by have:=E1.out;have:=E0.out;omega,show borrow ((D m k:Nat):Int) 0 ((cy (m - n) n k:Nat):Int)=((cy (m - n) n (k+1):Nat):Int)from by have:=E1.out;have:=E0.out;unfold borrow;split<;>omega];go_wp2;go_roundw
      case rel=>exact⟨k+1,by omega,by go_num,rfl,hst,hbs⟩
      case measure=>simp[intOf];omega
    ·obtain rfl:k=nl m:=by omega
     have hmod:(m - n) % 4294967296^nl m=m - n:=qy (dH (Nat.sub_le _ _));rw[hmod]at ho;clear hmod;go_wp2_with fail
     refine(fP _ (nl m) (nl m) (m - n) _ (by omega) (Nat.le_refl _) ho.rw').mono ?_;rintro e w1 ⟨rfl,hb2⟩;obtain⟨hcc,hff⟩:=hmr.after hb2;go_wp2;obtain⟨v,hv,h1,h2⟩:=hmr.fin (u:=.slice (some ⟨g,0,none⟩) (nl (m - n)) (nl (m - n))) ho hb2;cases hv;refine bodyPost_ret (tv rfl _ _ (w.heap.size+1+1) _ (.bool true) rfl rfl (World.cell?_setCell_same _ _ _ hcc)) rfl ⟨_,?_,h1,h2⟩;rw[decide_eq_true (by omega)]
theorem mul_step (O O' Q P R d e x y c c' M nk:Nat) (hQ:Q=P*R) (h1:O'+Q*d=O+Q*e) (h2:x*y+d+c=e+4294967296*c') (h3:O+c*Q=M+x*P*nk):
  O'+c'*(Q*4294967296)=M+x*P*(nk+R*y):=by grind
def kC (m n i k O c:Nat):Prop:=O+c*4294967296^(i+k)=(m % 4294967296^i)*n+D m i*4294967296^i*(n % 4294967296^k)∧O<4294967296^(i+nl n)
theorem kC.start (m n i:Nat):kC m n i 0 ((m % 4294967296^i)*n) 0:=by
 refine⟨by simp[Nat.mod_one],?_⟩;rw[Nat.pow_add];exact Nat.mul_lt_mul'' (Nat.mod_lt _ (cG i)) (dO n)
theorem kC.step {m n i k O c:Nat} (h:kC m n i k O c) (hk:k<nl n):
  kC m n i (k+1) (upd O (i+k) ((D m i*D n k+D O (i+k)+c) % 4294967296)) ((D m i*D n k+D O (i+k)+c) / 4294967296):=by
 refine⟨?_,ii h.2 (by omega) (Nat.mod_lt _ (by decide))⟩;rw[ct n k,←Nat.add_assoc i k 1,Nat.pow_succ];exact mul_step O _ _ (4294967296^i) (4294967296^k) (D O (i+k)) _ (D m i) (D n k) c _ _ _ (Nat.pow_add _ _ _) (eh O (i+k) _) (by omega) h.1
theorem kC.last {m n i O c:Nat} (h:kC m n i (nl n) O c):upd O (i+nl n) c=(m % 4294967296^(i+1))*n:=by
 have h1:=eh O (i+nl n) c;rw[nH h.2,Nat.mul_zero,Nat.add_zero]at h1;have h2:=h.1;rw[mod_nl]at h2;rw[h1,ct]
 grind
theorem qm (va vb:Value) (m n:Nat) (w:World) (ha:IsN w va m) (hb:IsN w vb n) (hm:nl m≤1000000000000) (hn:nl n≤1000000000000):
  Calls Tryz.prog 145 #[va,vb] w fun e w'=>gF w (m*n) e w':=by
 obtain⟨a,ca,rfl,hca,ra⟩:=ha;obtain⟨b,cb,rfl,hcb,rb⟩:=hb;have hw:Below w.heap.size w (((w.alloc (.cells #[.slice a (nl m) ca] 31)).alloc (.cells #[.slice b (nl n) cb] 31)).alloc (.cells #[.slice none 0 0] 31)):=(((Below.refl _ _).alloc (Nat.le_refl _) _).alloc (by simp) _).alloc (by simp;omega) _;go_enter Tryz.func145,Tryz.ntmps145
 go_upto_region 1 with(fail)
 go_cut [5] (fun s5 wx=>∃g,s5= .slice (some ⟨g,0,none⟩) (nl m+nl n) (nl m+nl n)∧aU wx g (nl m+nl n) 0∧Made w wx (w.heap.size+1+1) g∧
   wx.cell? ⟨w.heap.size,0,none⟩=some (.slice a (nl m) ca)∧wx.cell? ⟨w.heap.size+1,0,none⟩=some (.slice b (nl n) cb))
 case first=>
  have hown:=aU.made (((w.alloc (.cells #[.slice a (nl m) ca] 31)).alloc (.cells #[.slice b (nl n) cb] 31)).alloc (.cells #[.slice none 0 0] 31)) (nl m+nl n);go_wp2_with (at_make;refine bK rfl _ _ rfl _ _ _ _ (nl m+nl n) rfl rfl (by omega) (by omega) (by omega) ?_)
  go_meet;case rel=>exact⟨_,rfl,by simpa using hown,⟨hw.alloc (by simp;omega) _,by omega,by simp,by simp,by simp[go_sem],by simp[go_sem]⟩,by simp[go_sem],by simp[go_sem]⟩
 case rest=>
  obtain⟨g,rfl,hown,hmade,hca',hcb'⟩:=hcut;have hlt1:=hmade.lt;go_wp2_with fail
  go_loopw [23] (fun s23 wr=>∃i:Nat,i≤nl m∧s23= .int .i64 i∧aU wr g (nl m+nl n) ((m % 4294967296^i)*n)∧Below g wc wr)
   (fun i _=>nl m - (intOf i).toNat)
  case atStart=>exact⟨0,Nat.zero_le _,rfl,by simpa [Nat.mod_one]using hown,Below.refl _ _⟩
  case round=>
   obtain⟨i,hi,rfl,ho,hbr⟩:=hrel;have hmr:=hmade.step hbr;by_cases hlt:i<nl m
   ·have rar:=ra.mono hmr.below;obtain⟨b1,o1,rfl,h1⟩:=rar.cells (by omega);have c1:=h1 i hlt;have c2:=(hbr.cell (p:=⟨w.heap.size+1,0,none⟩) (by show w.heap.size+1<g;omega)).trans hcb';have hdx:=dD m i;go_wp2_with fail
    go_loopw [8,31] (fun s8 s31 wq=>∃k O c:Nat,k≤nl n∧s31= .int .i64 k∧s8= .int .u64 (c:Int)∧c<4294967296∧aU wq g (nl m+nl n) O∧kC m n i k O c∧Below g wc wq)
     (fun _ s _=>nl n - (intOf s).toNat)
    case atStart=>exact⟨0,(m % 4294967296^i)*n,0,Nat.zero_le _,rfl,rfl,by decide,ho,kC.start m n i,hbr⟩
    case round=>
     obtain⟨k,O,c,hk,rfl,rfl,hc,hoq,hat,hbq⟩:=hrel;have hmq:=hmade.step hbq;clear ho hbr hmr rar h1 c1 c2;have c2:=(hbq.cell (p:=⟨w.heap.size+1,0,none⟩) (by show w.heap.size+1<g;omega)).trans hcb';by_cases hlt2:k<nl n
     ·have rbq:=rb.mono hmq.below;obtain⟨b2,o2,rfl,h2⟩:=rbq.cells (by omega);have c3:=h2 k hlt2;have hdy:=dD n k;have c4:=hoq.cell (p:=i+k) (by omega);have f4:=hoq.frozen (i+k);have hdo:=dD O (i+k);have hxy:((D m i:Nat):Int)*((D n k:Nat):Int)≤18446744065119617025:=by
       have h:=Nat.mul_le_mul (show D m i≤4294967295 by omega) (show D n k≤4294967295 by omega);have h':((D m i*D n k:Nat):Int)≤18446744065119617025:=by omega
       simpa using h'
      have hxy0:0≤((D m i:Nat):Int)*((D n k:Nat):Int):=Int.mul_nonneg (by omega) (by omega);have HT:=hat.step hlt2;have hst:=hoq.store (p:=i+k) (e:=(D m i*D n k+D O (i+k)+c) % 4294967296) (by omega) (Nat.mod_lt _ (by decide));go_wp2;go_roundw
      case rel=>exact⟨k+1,_,_,by omega,by go_num,by simp,by rw[Nat.div_lt_iff_lt_mul (by decide)];omega,by simpa using hst,HT,by simpa using hbq.setCell (p:=⟨g,i+k,none⟩) (Nat.le_refl _) _⟩
      case measure=>simp[intOf];omega
     ·obtain rfl:k=nl n:=by omega
      have c4:=hoq.cell (p:=i+nl n) (by omega);have f4:=hoq.frozen (i+nl n);have hst:=hoq.store (p:=i+nl n) (e:=c) (by omega) hc;rw[hat.last]at hst;have hbs:=hbq.setCell (p:=⟨g,i+nl n,none⟩) (Nat.le_refl _) (.int .u32 (c:Int));go_wp2;go_roundw
      case rel=>exact⟨i+1,by omega,by go_num,hst,hbs⟩
      case measure=>simp[intOf];omega
   ·obtain rfl:i=nl m:=by omega
    rw[mod_nl]at ho;go_wp2_with fail
    refine(fP _ (nl m+nl n) (nl m+nl n) (m*n) _ (by omega) (Nat.le_refl _) ho.rw').mono ?_;rintro e w1 ⟨rfl,hb2⟩;obtain⟨hcc,hff⟩:=hmr.after hb2;go_wp2;exact bodyPost_ret (nJ rfl _ _ (w.heap.size+1+1) _ rfl (World.cell?_setCell_same _ _ _ hcc)) rfl (hmr.fin ho hb2)
def ce (N d k:Nat):Nat:=4294967296^k*(N / 4294967296^k / d)
theorem qA (A x d:Nat) (hd:0<d):(4294967296*A+x) / d=4294967296*(A / d)+(4294967296*(A % d)+x) / d∧(4294967296*A+x) % d=(4294967296*(A % d)+x) % d:=by
 have h:=Nat.div_add_mod A d;have e:4294967296*A+x=d*(4294967296*(A / d))+(4294967296*(A % d)+x):=by
  have h2:4294967296*A=4294967296*(d*(A / d)+A % d):=by rw[h]
  rw[h2]
  grind
 rw[e];exact⟨Nat.mul_add_div hd _ _,Nat.mul_add_mod _ _ _⟩
theorem kD (N d k:Nat) (hd:0<d):
  upd (ce N d (k+1)) k ((N / 4294967296^(k+1) % d*4294967296+D N k) / d)=ce N d k∧
  (N / 4294967296^(k+1) % d*4294967296+D N k) % d=N / 4294967296^k % d∧(N / 4294967296^(k+1) % d*4294967296+D N k) / d<4294967296:=by
 have h1:=qA (N / 4294967296^(k+1)) (D N k) d hd;rw[←cR N k]at h1;rw[Nat.mul_comm (N / 4294967296^(k+1) % d) 4294967296];have hlt:(4294967296*(N / 4294967296^(k+1) % d)+D N k) / d<4294967296:=by
  rw[Nat.div_lt_iff_lt_mul hd];have:=Nat.mod_lt (N / 4294967296^(k+1)) hd;have:=dD N k;omega
 refine⟨?_,h1.2.symm,hlt⟩;have h2:=eh (ce N d (k+1)) k ((4294967296*(N / 4294967296^(k+1) % d)+D N k) / d);have h3:D (ce N d (k+1)) k=0:=by
  unfold ce D;rw[Nat.pow_succ,Nat.mul_assoc,Nat.mul_div_cancel_left _ (cG k),Nat.mul_mod_right]
 rw[h3,Nat.mul_zero,Nat.add_zero]at h2;rw[h2];unfold ce;rw[h1.1,Nat.pow_succ]
 grind
def RetShort (W:World) (L N d:Nat) (e:Ending) (w':World):Prop:=
 ∃g,e= .returned (.tuple #[.slice (some ⟨g,0,none⟩) L L,.int .u32 ((N % d:Nat):Int)])∧W.heap.size≤g∧aU w' g L (N / d)∧Below W.heap.size W w'
theorem xN (a:Option Addr) (L cap N d:Nat) (w:World) (ra:Rw w a L N) (hL:L≤1000000000000) (hd:0<d) (hdB:d<4294967296):
  Calls Tryz.prog 190 #[.slice a L cap,.int .u32 (d:Int)] w fun e w'=>RetShort w L N d e w':=by
 go_enter Tryz.func190,Tryz.ntmps190
 go_upto_region 1 with(fail)
 go_cut [6] (fun s5 wx=>∃g,s5= .slice (some ⟨g,0,none⟩) L L∧aU wx g L 0∧Below w.heap.size w wx∧w.heap.size≤g∧g<wx.heap.size)
 case first=>
  have hown:=aU.made w L;go_wp2_with (at_make;refine bK rfl _ _ rfl _ _ _ _ L rfl rfl (by omega) (by omega) (by omega) ?_)
  go_meet;case rel=>exact⟨_,rfl,hown,(Below.refl _ _).alloc (Nat.le_refl _) _,Nat.le_refl _,by simp⟩
 case rest=>
  obtain⟨g,rfl,hown,hbel,hwg,hgs⟩:=hcut;go_wp2_with fail
  go_loopw [7,8] (fun s7 s8 wr=>∃k:Nat,k≤L∧s8= .int .i64 ((k:Int) - 1)∧s7= .int .u32 ((N / 4294967296^k % d:Nat):Int)∧aU wr g L (ce N d k)∧Below g wc wr)
   (fun _ i _=>(intOf i+1).toNat)
  case atStart=>exact⟨L,Nat.le_refl _,rfl,by rw[Nat.div_eq_of_lt ra.lt];simp,by unfold ce;rw[Nat.div_eq_of_lt ra.lt];simpa using hown,Below.refl _ _⟩
  case round=>
   obtain⟨k,hk,rfl,rfl,ho,hbr⟩:=hrel
   cases k with
   | zero=>
    have e0:N / 4294967296^0 % d=N % d:=by simp
    have e1:ce N d 0=N / d:=by simp[ce]
    rw[e1]at ho;rw[e0];clear e0 e1;go_wp2;go_ret2
    exact⟨g,rfl,hwg,ho,hbel.trans (hbr.mono hwg)⟩
   | succ k=>
    have rar:=ra.mono (hbel.trans (hbr.mono hwg));obtain⟨b1,o1,rfl,h1⟩:=rar.cells (by omega);have c1:=h1 k (by omega);have c3:=ho.cell (p:=k) (by omega);have f3:=ho.frozen k;have hdx:=dD N k;have hrd:=Nat.mod_lt (N / 4294967296^(k+1)) hd;have HS:=kD N d k hd;have hst:=ho.store (p:=k) (by omega) HS.2.2;rw[HS.1]at hst;have HM:=Lib.hid HS.2.1;clear HS;have e:(((k+1:Nat):Int) - 1)=(k:Int):=by omega
    simp only[e];clear e;generalize N / 4294967296^(k+1) % d=r at *;go_wp2_with fail
    refine(c_div32 _ _ _ _ (by omega) (by omega) (by omega) (by omega) (by omega)).mono ?_;rintro e w1 ⟨rfl,q,rfl⟩;rw[show((r:Int)*4294967296+((D N k:Nat):Int)) / (d:Int)=(((r*4294967296+D N k) / d:Nat):Int)from by simp,show((r:Int)*4294967296+((D N k:Nat):Int)) % (d:Int)=((N / 4294967296^k % d:Nat):Int)from by rw[←HM.out];simp];generalize (r*4294967296+D N k) / d=t at *;generalize hr':N / 4294967296^k % d=r' at *;have HR:=Lib.hid hr';clear hr';go_wp2;go_roundw
    case rel=>exact⟨k,by omega,rfl,by rw[HR.out],hst,by first | exact(bg hbr q).setCell (p:=⟨g,k,none⟩) (Nat.le_refl _) _ | exact bg (hbr.setCell (p:=⟨g,k,none⟩) (Nat.le_refl _) _) q⟩
    case measure=>simp[intOf]
theorem yW {t k:Nat} (hk:k<64) (h1:2^k≤t) (h2:t<2^(k+1)):Lib.bitLen t=k+1:=by
 have:=Lib.bitLen_shift k t h1 (Nat.lt_of_lt_of_le h2 (Nat.pow_le_pow_right (by decide) (by omega)));have e:t / 2^k=1:=by
  apply Nat.div_eq_of_lt_le
  ·omega
  ·rw[Nat.pow_succ]at h2;omega
 rw[this,e];rfl
end Go.Proofs.YtggfmklppkioeaaGreat
