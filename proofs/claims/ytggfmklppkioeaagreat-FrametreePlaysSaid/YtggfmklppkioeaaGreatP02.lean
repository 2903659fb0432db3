/- Plain lemmas: the digits of a natural number in base 2^32, and rows of digits in memory. Rows of digits in memory: what a natural number's value is, what a row of the call's own is, and that both stay. Contracts of norm, made and of math/bits' additions. Contracts of math/bits' Sub32, Len32, LeadingZeros32 and Div32. Contracts of compare and Cmp. Contracts of Valid, Of and Add. The contract of Sub. The contract of Mul. The contracts of short and Bits. The contracts of shifted and guess. The contract of reduce. 'append(empty, x...)' of a row of digits: a copy in memory of its own. A load in a region that draws its order may be taken first, where all that may come before it are loads too. -/
import Derived.Test.YtggfmklppkioeaaGreatP01
import Derived.WalkKit
import Derived.Lib.Hide
import Derived.Test.YtggfmklppkioeaaGreatProg
import Derived.BigQuiet
import Derived.Deep.QuietTactic
import Derived.Deep.DeepCutAuto
import Derived.Deep.LoopGhost
import Derived.Deep.RegionHeld3
import Derived.Deep.RegionWith
import Derived.Lib.BitFns
namespace Go.Proofs.YtggfmklppkioeaaGreat
set_option linter.unusedSimpArgs false
set_option linter.unusedVariables false
set_option maxRecDepth 100000
open Go.RowKit
open _root_.Go renaming Addr → A2,Calls → AH,Ending → BH,Operand → AZ,Program → A0,bodyPost_ret → A6,frozen_of_row → Dh,heap_alloc_new → BE,wpList_plain → Ck
open _root_.Go.RowKit renaming Below → AG
open _root_.Array renaming getElem?_eq_none → E7,getElem?_eq_some_iff → A8
open _root_.Go.RowKit.Below renaming heap_setCell → CD,refl → AL
open _root_.Bool renaming and_eq_true → Bo,or_eq_true → DP
open _root_.Go.Builtin renaming append_ → Ca,firstCells → Ee
open _root_.Go.Ending renaming returned → A4
open _root_.Go.Instr renaming loadAt → CN
open _root_.Int renaming eq_ofNat_of_zero_le → E4
open _root_.Go.IntKind renaming i64 → Bd,u32 → CS,u64 → BD
open _root_.Go.Lib renaming hid → AF
open _root_.List renaming getElem?_eq_some_iff → A5,range → BO
open _root_.Nat renaming add_assoc → CX,add_mul → CZ,add_sub_cancel → DK,add_zero → CM,div_add_mod → Ce,div_div_eq_div_mul → CQ,div_eq_of_lt → Cw,div_lt_iff_lt_mul → Cm,le_div_iff_mul_le → DL,le_refl → AK,log2_lt → D6,lt_log2_self → E6,lt_of_le_of_lt → D7,lt_of_lt_of_le → Bt,lt_or_ge → Bl,lt_trans → Dl,mod_eq_of_lt → Cl,mod_lt → Bs,mod_one → Cx,mul_add → Cr,mul_add_div → EE,mul_assoc → Dk,mul_comm → Cn,mul_le_mul_left → CY,mul_le_mul_right → C9,mul_pos → Ed,mul_zero → CR,pow_add → BY,pow_pos → D5,pow_succ → BL,pow_succ' → ED,pow_zero → Dy,shiftRight_eq_div_pow → FA,zero_add → Bh,zero_le → Bc
open _root_.Go.Oper renaming wp → Bn
open _root_.Go.Region renaming ready → BV
open _root_.Go.Result renaming andThen → AX,andThen_ok → Da
open _root_.Go.Sem renaming run_bind → AO,run_pure → BC
open _root_.Go.Proofs.Tryz renaming prog → AE,underlying29 → Eb
open _root_.Go.Value renaming int → AW
open _root_.Go.World renaming cell?_setCell_same → Ec,size_alloc → CE
def D(N i:Nat):Nat:=N / 4294967296^i % 4294967296
def nl(N:Nat):Nat:=if N=0 then 0 else N.log2 / 32+1
variable{p:Prop}
theorem th(h:p:=by decide):p:=h
theorem ci(N i:Nat):D N i<4294967296:=Bs _ th
theorem cH(i:Nat):0<4294967296^i:=D5 th
theorem aaj(i:Nat):4294967296^i=2^(32*i):=by rw[Nat.pow_mul]
theorem bj:nl 0=0:=by simp[nl]
theorem dZ(N:Nat):N<4294967296^nl N:=by
 unfold nl;split
 ·subst_vars;decide
 ·rename_i h;rw[aaj,<-D6 h];omega
variable{N:Nat}
theorem dM(h:N≠0):0<nl N:=by unfold nl;rw[if_neg h];omega
theorem ll:nl N=0↔N=0:=by
 constructor
 ·intro h;by_cases h0:N=0
  ·exact h0
  ·have:=dM h0;omega
 ·rintro rfl;exact bj
variable{k:Nat}
theorem aI:nl N<=k↔N<4294967296^k:=by
 by_cases h:N=0
 ·subst h;simp[bj,cH k]
 ·unfold nl;rw[if_neg h,aaj,<-D6 h];omega
variable{m n:Nat}
theorem dN(h:m<=n):nl m<=nl n:=aI.2 (D7 h (dZ n))
theorem rR(h:N≠0):4294967296^(nl N - 1)<=N:=by
 have h1:=dM h;have h3:=aI (N:=N) (k:=nl N - 1);omega
theorem abj(m n k:Nat)(C:nl m<=k)(hn:nl n<=k):nl (m+n)<=k+1:=by
 rw[aI]at *;rw[BL];omega
theorem cI(N i:Nat):N % 4294967296^(i+1)=N % 4294967296^i+4294967296^i*D N i:=Nat.mod_pow_succ
theorem cJ(N i:Nat):N / 4294967296^i=4294967296*(N / 4294967296^(i+1))+D N i:=by
 unfold D;rw[BL,<-CQ];exact(Ce _ _).symm
variable{i:Nat}
theorem o3(h:N<4294967296^i):D N i=0:=by unfold D;rw[Cw h]
theorem D_zero(i:Nat):D 0 i=0:=by simp[D]
theorem iw(h:nl N<=i):D N i=0:=o3 (aI.1 h)
theorem Aa(h:p:=by omega):p:=h
theorem aak(h:N≠0):D N (nl N - 1)≠0:=by
 have h1:=rR h;have h2:=dZ N;have h3:=dM h;obtain⟨k,C⟩:∃k,nl N=k+1:=⟨nl N - 1,Aa⟩;rw[C]at h1 h2⊢;simp only[DK]at h1⊢;unfold D;rw[Cl]
 ·have:=Nat.div_pos h1 (cH k);omega
 ·rw[Cm (cH k),<-ED];exact h2
theorem x9(N:Nat):N % 4294967296^nl N=N:=Cl (dZ N)
theorem rS(h:nl N<=k):N % 4294967296^k=N:=Cl (aI.1 h)
theorem aal:∀k,(∀i,i<k->D m i=D n i)->m % 4294967296^k=n % 4294967296^k
 | 0,_=>by simp[Cx]
 | k+1,h=>by rw[cI,cI,aal k (λi hi=>h i Aa),h k Aa]
theorem oA(h:i<k):D (N % 4294967296^k) i=D N i:=by
 unfold D;obtain⟨d,rfl⟩:∃d,k=i+1+d:=⟨k - (i+1),Aa⟩;rw[BY,BL,Dk,Nat.mod_mul_right_div_self,Nat.mod_mul_right_mod]
def cy(m n i:Nat):Nat:=(m % 4294967296^i+n % 4294967296^i) / 4294967296^i
theorem o4(m n:Nat):cy m n 0=0:=by simp[cy,Cx]
theorem oB(m n i:Nat):cy m n i<=1:=by
 unfold cy;have h1:=Bs m (cH i);have h2:=Bs n (cH i);have:(m % 4294967296^i+n % 4294967296^i) / 4294967296^i<2:=by
  rw[Cm (cH i)];omega
 omega
theorem me(m n i:Nat):D m i+D n i+cy m n i=D (m+n) i+4294967296*cy m n (i+1):=by
 have C:=cH i;have G:(m+n) / 4294967296^i=m / 4294967296^i+n / 4294967296^i+cy m n i:=by
  unfold cy
  conv=>lhs;rw[<-Ce m (4294967296^i),<-Ce n (4294967296^i)]
  rw[show 4294967296^i*(m / 4294967296^i)+m % 4294967296^i+(4294967296^i*(n / 4294967296^i)+n % 4294967296^i)=4294967296^i*(m / 4294967296^i+n / 4294967296^i)+(m % 4294967296^i+n % 4294967296^i)from by rw[Cr];omega];rw[EE C]
 have H:cy m n (i+1)=(D m i+D n i+cy m n i) / 4294967296:=by
  unfold cy;rw[cI,cI,BL,<-CQ]
  congr 1
  rw[show m % 4294967296^i+4294967296^i*D m i+(n % 4294967296^i+4294967296^i*D n i)=4294967296^i*(D m i+D n i)+(m % 4294967296^i+n % 4294967296^i)from by rw[Cr];omega];rw[EE C]
 have I:D (m+n) i=(D m i+D n i+cy m n i) % 4294967296:=by
  show(m+n) / 4294967296^i % 4294967296=_;rw[G];unfold D;omega
 rw[H,I];omega
def upd(N p e:Nat):Nat:=N - 4294967296^p*D N p+4294967296^p*e
theorem rT(N p:Nat):N=4294967296^(p+1)*(N / 4294967296^(p+1))+4294967296^p*D N p+N % 4294967296^p:=by
 have h:=Ce N (4294967296^(p+1));rw[cI]at h;omega
theorem yc(N p e:Nat):upd N p e=4294967296^(p+1)*(N / 4294967296^(p+1))+4294967296^p*e+N % 4294967296^p:=by
 have h:=rT N p;unfold upd;omega
theorem eH(N p e:Nat):upd N p e+4294967296^p*D N p=N+4294967296^p*e:=by
 have h:=rT N p;unfold upd;omega
theorem mod_upd(N p e:Nat):upd N p e % 4294967296^p=N % 4294967296^p:=by
 rw[yc,BL,Dk,<-Cr];rw[Nat.mul_add_mod];exact Nat.mod_mod _ _
theorem pB(N p e:Nat)(C:e<4294967296):D (upd N p e) p=e:=by
 unfold D;rw[yc,BL,Dk,<-Cr,EE (cH p),Cw (Bs _ (cH p))];omega
theorem aam(N p e:Nat)(G:e<4294967296):upd N p e / 4294967296^(p+1)=N / 4294967296^(p+1):=by
 rw[yc,CX,EE (cH (p+1))];have h0:=Bs N (cH p);have C:4294967296^p*e+N % 4294967296^p<4294967296^(p+1):=by
  rw[BL];have h1:4294967296^p*(e+1)<=4294967296^p*4294967296:=CY _ Aa;rw[Cr]at h1;omega
 rw[Cw C,CM]
theorem i6(N p e i:Nat)(C:e<4294967296)(hi:i≠p):D (upd N p e) i=D N i:=by
 rcases Nat.lt_or_gt_of_ne hi with h | h
 ·rw[<-oA (N:=upd N p e) h,mod_upd,oA h]
 ·obtain⟨d,rfl⟩:∃d,i=p+1+d:=⟨i - (p+1),Aa⟩;unfold D;rw[BY,<-CQ,<-CQ,aam N p e C]
variable{p q:Nat}
theorem lm{e:Nat}(C:N<4294967296^q)(hp:p<q)(G:e<4294967296):upd N p e<4294967296^q:=by
 obtain⟨d,rfl⟩:∃d,q=p+1+d:=⟨q - (p+1),Aa⟩;rw[BY,Cn]at C⊢;rw[<-Cm (cH (p+1))]at C⊢;rw[aam N p e G];exact C
theorem o5(N k:Nat):upd (N % 4294967296^k) k (D N k)=N % 4294967296^(k+1):=by
 have h:=eH (N % 4294967296^k) k (D N k);rw[o3 (Bs N (cH k)),CR,CM]at h;rw[h,cI]
theorem cy_last(C:nl m<=k)(hn:nl n<=k):cy m n k=D (m+n) k:=by
 have h:=me m n k;rw[iw C,iw hn]at h;have:=oB m n k;omega
theorem At{p:Prop}(h:p:=by simpa using C):p:=h
theorem mul_bd(a b:Nat)(ha:a<4294967296)(hb:b<4294967296):0<=(a:Int)*(b:Int)/\(a:Int)*(b:Int)<=18446744065119617025:=by
 have h:=Nat.mul_le_mul (show a<=4294967295 by omega) (show b<=4294967295 by omega);have C:((a*b:Nat):Int)<=18446744065119617025:=Aa
 exact⟨Int.mul_nonneg Aa Aa,At⟩
def Dig(w:World)(b off L N:Nat):Prop:=∀j,j<L->w.cell? ⟨b,off+j,none⟩=some (.int .u32 ((D N j:Nat):Int))
structure Rw(w:World)(a:Option A2)(L N:Nat):Prop where
 lt:N<4294967296^L
 cells:0<L->∃b off,a=some ⟨b,off,none⟩/\Dig w b off L N
def IsR(w:World)(v:Value)(L N:Nat):Prop:=∃a cap,v= .agg #[.slice a L cap]/\L<=cap/\Rw w a L N
def IsN(w:World)(v:Value)(N:Nat):Prop:=IsR w v (nl N) N
def aP(base:Nat)(w:World)(v:Value)(N:Nat):Prop:=
 ∃a cap,v= .agg #[.slice a (nl N) cap]/\nl N<=cap/\(0<nl N->∃b off,a=some ⟨b,off,none⟩/\base<=b/\Dig w b off (nl N) N/\∀j,j<nl N->w.frozen? ⟨b,off+j,none⟩=false)
def aU(w:World)(g L N:Nat):Prop:=
 N<4294967296^L/\∃cur:Array Value,w.heap[g]? =some (.cells cur 237 (0,0))/\cur.toList=(BO L).map λj=>AW .u32 ((D N j:Nat):Int)
variable{w:World}{b off L:Nat}
theorem Dig.lt(h:Dig w b off L N)(C:0<L):b<w.heap.size:=by
 have:=World.block_lt_of_cell? w _ (h 0 C);exact this
variable{w':World}{B:Nat}
theorem Dig.mono(h:Dig w b off L N)(hb:AG B w w')(hB:b<B):Dig w' b off L N:=
 λj C=>(hb.cell (p:=⟨b,off+j,none⟩) hB).trans (h j C)
variable{a:Option A2}
theorem Rw.mono(h:Rw w a L N)(hb:AG w.heap.size w w'):Rw w' a L N:=
 ⟨h.lt,λC=>by
  obtain⟨b,off,rfl,G⟩:=h.cells C;exact⟨b,off,rfl,G.mono hb (G.lt C)⟩⟩
variable{v:Value}
theorem IsR.mono(h:IsR w v L N)(hb:AG w.heap.size w w'):IsR w' v L N:=by
 obtain⟨a,cap,rfl,hc,C⟩:=h;exact⟨a,cap,rfl,hc,C.mono hb⟩
theorem IsN.mono(h:IsN w v N)(hb:AG w.heap.size w w'):IsN w' v N:=IsR.mono h hb
variable{base:Nat}
theorem aP.isN(h:aP base w v N):IsN w v N:=by
 obtain⟨a,cap,rfl,hc,H⟩:=h;exact⟨a,cap,rfl,hc,dZ N,λC=>by obtain⟨b,off,rfl,_,G,_⟩:=H C;exact⟨b,off,rfl,G⟩⟩
theorem aP.mono(h:aP base w v N)(hb:AG w.heap.size w w'):aP base w' v N:=by
 obtain⟨a,cap,rfl,hc,I⟩:=h;refine⟨a,cap,rfl,hc,λC=> ?_⟩;obtain⟨b,off,rfl,h1,G,hf⟩:=I C;exact⟨b,off,rfl,h1,G.mono hb (G.lt C),λj H=>(hb.frozen (p:=⟨b,off+j,none⟩) (G.lt C)).trans (hf j H)⟩
variable{C:Nat}
theorem aP.weaken(h:aP base w v N)(hb:C<=base):aP C w v N:=by
 obtain⟨a,cap,rfl,hc,I⟩:=h;refine⟨a,cap,rfl,hc,λG=> ?_⟩;obtain⟨b,off,rfl,h1,H,hf⟩:=I G;exact⟨b,off,rfl,Aa,H,hf⟩
theorem aU.getcur{C:Array Value}(h:C.toList=(BO L).map λj=>AW .u32 ((D N j:Nat):Int))(hp:p<L):
  C[p]? =some (.int .u32 ((D N p:Nat):Int)):=by
 rw[<-Array.getElem?_toList,h];simp[hp]
variable{g:Nat}
theorem aU.cell(h:aU w g L N)(hp:p<L):w.cell? ⟨g,p,none⟩=some (.int .u32 ((D N p:Nat):Int)):=by
 obtain⟨_,C,G,hc⟩:=h;rw[cell_of_row w g p C _ (0,0) G];exact aU.getcur hc hp
theorem aU.frozen(h:aU w g L N)(p:Nat):w.frozen? ⟨g,p,none⟩=false:=by
 obtain⟨_,C,G,hc⟩:=h;exact Dh w g p C _ G
theorem aU.lt(h:aU w g L N):g<w.heap.size:=by
 obtain⟨_,C,G,hc⟩:=h;exact(A8.1 G).1
theorem aU.dig(h:aU w g L N):Dig w g 0 L N:=λj C=>by rw[Bh];exact h.cell C
theorem aU.rw'(h:aU w g L N):Rw w (some ⟨g,0,none⟩) L N:=⟨h.1,λ_=>⟨g,0,rfl,h.dig⟩⟩
theorem aU.store(h:aU w g L N){e:Nat}(hp:p<L)(G:e<4294967296):
  aU (w.setCell ⟨g,p,none⟩ (.int .u32 (e:Int))) g L (upd N p e):=by
 obtain⟨H,C,I,hc⟩:=h;refine⟨lm H hp G,C.setIfInBounds p (.int .u32 (e:Int)),heap_setCell_same w g p C _ _ I,?_⟩;rw[Array.toList_setIfInBounds,hc];apply List.ext_getElem?;intro i;rw[List.getElem?_set];by_cases hi:p=i
 ·subst hi;simp[hp,pB N p e G]
 ·rw[if_neg hi];simp only[List.getElem?_map,List.getElem?_range]
  cases hr:(BO L)[i]? with
  | none=>simp
  | some x=>
   simp only[Option.map_some];have J:x=i:=by
    have:=A5.1 hr;obtain⟨h1,h2⟩:=this;simpa using h2.symm
   subst J;rw[i6 N p e x G Aa]
theorem aU.block(h:aU w g L N)(hb:w'.heap[g]? =w.heap[g]?):aU w' g L N:=by
 obtain⟨G,C,H,hc⟩:=h;exact⟨G,C,hb.trans H,hc⟩
theorem aU.mono(h:aU w g L N)(hb:AG B w w')(hB:g<B):aU w' g L N:=h.block (hb.block g hB)
theorem aU.alloc(h:aU w g L N)(o:Obj):aU (w.alloc o) g L N:=h.block (Below.heap_alloc w o g h.lt)
theorem aU.setOther(h:aU w g L N)(p:A2)(u:Value)(hp:p.block≠g):aU (w.setCell p u) g L N:=
 h.block (CD w p u g (λe=>hp e.symm))
def zrow(n:Nat):Obj:=.cells (madeCells #[.int .u32 0] n) 237
theorem aU.made(w:World)(n:Nat):aU (w.alloc (zrow n)) w.heap.size n 0:=by
 refine⟨cH n,madeCells #[.int .u32 0] n,BE w _,?_⟩;simp only[madeCells,Array.toList_map,Array.toList_range];apply List.map_congr_left;intro j _;simp[D_zero,Cx]
variable{p:Prop}
theorem Ab(h:p:=by kernel_rfl):p:=h
theorem o6:(AE.info? 237).map (λi=>(i.zero,i.size,i.bytes))=some (some (.int .u32 0),1,4):=Ab
variable{ops:Array Oper}{rest:List Oper}{o:Oper}{Q:Exit->Act->World->Prop}
theorem bG{a:Act} 
  (hg:o.guard=none)(l c:AZ)(I:o.op=Op.makeSlice 29 l c)
  (Y kc:IntKind)(L C:Int)(n:Nat)(hl:a.eval l= .int Y L)(hc:a.eval c= .int kc C)(hL:L=(n:Int))(Z:C=(n:Int))(hn:n<=60000000000000)
  (hK:wpList AE ops Q rest (a.put o.dst (.slice (some ⟨w.heap.size,0,none⟩) n n)) (w.alloc (zrow n))):
  wpList AE ops Q (o::rest) a w:=by
 refine Ck hg λK H=> ?_
 obtain⟨i,hi,J,U,V⟩:=info_parts o6;subst hL;subst Z;have G:=run_make (P:=AE) w 29 237 i (.int .u32 0) Eb hi J Y kc n n Aa (Int.le_refl _) (by rw[V];omega) Aa;rw[U,Nat.mul_one]at G;simp only[Int.toNat_natCast]at G;unfold Bn;simp only[execOp,I,hl,hc,AO,G,AX,BC];exact H _ _ hK
variable{P:A0}
theorem d8{f:FuncId}{args:Array Value} 
  (h:AH P f args (w.drewN n) λe w'=>e= .returned v/\w.drewN n=w'):AH P f args (w.drewN n) λe C=>e= .returned v/\∃m,C=w.drewN m:=
 h.mono λ_ _ ⟨G,H⟩=>⟨G,n,H.symm⟩
theorem Rw.drewN(h:Rw w a L N)(q:Nat):Rw (w.drewN q) a L N:=⟨h.lt,h.cells⟩
theorem aF{a:World}(h:AG B a w)(q:Nat):AG B a (w.drewN q):=⟨h.os,h.tape,h.output,h.size,h.block⟩
theorem abk(w:World)(a b:Nat):∃n,(w.drewN a).drewN b=w.drewN n:=⟨a+b,by simp[World.drewN,CX]⟩
variable{w1:World}
theorem bcell{W:World}(hb:AG W.heap.size W w1):(∀b o,b<W.heap.size->w1.cell? ⟨b,o,none⟩=W.cell? ⟨b,o,none⟩)/\(∀b o,b<W.heap.size->w1.frozen? ⟨b,o,none⟩=W.frozen? ⟨b,o,none⟩):=
 ⟨λb o h=>hb.cell (p:=⟨b,o,none⟩) h,λb o h=>hb.frozen (p:=⟨b,o,none⟩) h⟩
theorem aP.of_own(h:aU w g L N)(hb:AG w.heap.size w w')(G:base<=g):aP base w' (.agg #[.slice (some ⟨g,0,none⟩) (nl N) (nl N)]) N:=by
 have C:=h.mono hb h.lt;have hl:nl N<=L:=aI.2 h.1;refine⟨some ⟨g,0,none⟩,nl N,rfl,AK _,λ_=>⟨g,0,rfl,G,λj H=> ?_,λj _=>by rw[Bh];exact C.frozen j⟩⟩;rw[Bh];exact C.cell Aa
theorem aP.of_zero{cap:Nat}:aP base w (.agg #[.slice a 0 cap]) 0:=by
 have h:aP base w (.agg #[.slice a (nl 0) cap]) 0:=⟨a,cap,rfl,by rw[bj];omega,λh=>by rw[bj]at h;omega⟩;rwa [bj]at h
theorem aU.two(w:World)(n:Nat)(hn:n<18446744073709551616):aU (w.alloc (.cells #[.int .u32 ((n:Int) % 4294967296),.int .u32 ((n:Int) / 4294967296)] 237)) w.heap.size 2 n:=by
 refine⟨hn,_,BE w _,?_⟩;have h1:((D n 1:Nat):Int)=(n:Int) / 4294967296:=by unfold D;rw[Nat.pow_one];omega
 have h0:((D n 0:Nat):Int)=(n:Int) % 4294967296:=by unfold D;rw[Dy,Nat.div_one];omega
 simp only[BO,BO.loop,List.map_cons,List.map_nil,h0,h1]
def cW(W:World)(n:Nat)(e:BH)(w':World):Prop:=∃v,e= .returned v/\aP W.heap.size w' v n/\AG W.heap.size W w'
def RetN(W:World)(n:Nat)(e:BH)(w':World):Prop:=∃v,e= .returned v/\IsN w' v n/\AG W.heap.size W w'
variable{r:Nat}
theorem tD{W w0:World}{u:Value}(G:AG W.heap.size W w0)(C:aU w0 g L N)(H:AG w0.heap.size w0 w1)(J:W.heap.size<=g)(hr:W.heap.size<=r)(I:r≠g):
  cW W N (.returned (.agg #[.slice (some ⟨g,0,none⟩) (nl N) (nl N)])) (w1.setCell ⟨r,0,none⟩ u):=
 ⟨_,rfl,aP.of_own ((C.mono H C.lt).setOther ⟨r,0,none⟩ u I) (AL _ _) J,(G.trans (H.mono G.size)).setCell hr u⟩
theorem eI{fn:Func}{p:Tmp}(h:fn.results=#[.cell p 31])(tmps:Array Value)(w:World)(r:Nat)(v:Value)
  (hp:tmps.getD p undef= .pointer (some ⟨r,0,none⟩))(hc:w.cell? ⟨r,0,none⟩=some v):(results fn tmps).run AE w= .ok (.agg #[v]) w:=by
 have C:tmps[p]?.getD undef= .pointer (some ⟨r,0,none⟩):=by simpa using hp
 simp[results,h,C,asAddr,loadVar,go_sem,hc]
structure Made(w wx:World)(rc g:Nat):Prop where
 below:AG w.heap.size w wx
 base:w.heap.size<=rc
 lt:rc<g
 size:g<wx.heap.size
 cell:wx.cell? ⟨rc,0,none⟩=some (.slice none 0 0)
 frozen:wx.frozen? ⟨rc,0,none⟩=false
theorem Made.step{w wx wr:World}{rc g:Nat}(h:Made w wx rc g)(hb:AG g wx wr):Made w wr rc g:=
 ⟨h.below.trans (hb.mono (by have:=h.base;have:=h.lt;omega)),h.base,h.lt,Bt h.size hb.size,
  (hb.cell (p:=⟨rc,0,none⟩) h.lt).trans h.cell,(hb.frozen (p:=⟨rc,0,none⟩) h.lt).trans h.frozen⟩
variable{wx:World}
theorem Made.after{rc:Nat}(h:Made w wx rc g)(hb:AG wx.heap.size wx w1):w1.cell? ⟨rc,0,none⟩=some (.slice none 0 0)/\w1.frozen? ⟨rc,0,none⟩=false:=
 ⟨(hb.cell (p:=⟨rc,0,none⟩) (Dl h.lt h.size)).trans h.cell,(hb.frozen (p:=⟨rc,0,none⟩) (Dl h.lt h.size)).trans h.frozen⟩
theorem Made.fin{w0:World}{rc:Nat}{u:Value}(h:Made w w0 rc g)(C:aU w0 g L N)(hb:AG w0.heap.size w0 w1):
  cW w N (.returned (.agg #[.slice (some ⟨g,0,none⟩) (nl N) (nl N)])) (w1.setCell ⟨rc,0,none⟩ u):=
 tD h.below C hb (by have:=h.base;have:=h.lt;omega) h.base (by have:=h.lt;omega)
theorem mf{fn:Func}{p q:Tmp}(h:fn.results=#[.cell p 31,.tmp q])(tmps:Array Value)(w:World)(r:Nat)(v u:Value)
  (hp:tmps.getD p undef= .pointer (some ⟨r,0,none⟩))(H:tmps.getD q undef=u)(hc:w.cell? ⟨r,0,none⟩=some v):(results fn tmps).run AE w= .ok (.tuple #[.agg #[v],u]) w:=by
 have C:tmps[p]?.getD undef= .pointer (some ⟨r,0,none⟩):=by simpa using hp
 have G:tmps[q]?.getD undef=u:=by simpa using H
 simp[results,h,C,G,asAddr,loadVar,go_sem,hc]
structure Res2(w wx:World)(r1 r2:Nat):Prop where
 below:AG w.heap.size w wx
 base:w.heap.size<=r1
 lt:r1<r2
 size:r2<wx.heap.size
 cell1:wx.cell? ⟨r1,0,none⟩=some (.slice none 0 0)
 cell2:wx.cell? ⟨r2,0,none⟩=some (.slice none 0 0)
 frozen1:wx.frozen? ⟨r1,0,none⟩=false
 frozen2:wx.frozen? ⟨r2,0,none⟩=false
theorem Res2.step{w wx wr:World}{r1 r2 B:Nat}(h:Res2 w wx r1 r2)(hb:AG B wx wr)(hB:r2<B):Res2 w wr r1 r2:=
 ⟨h.below.trans (hb.mono (by have:=h.base;have:=h.lt;omega)),h.base,h.lt,Bt h.size hb.size,
  (hb.cell (p:=⟨r1,0,none⟩) (Dl h.lt hB)).trans h.cell1,(hb.cell (p:=⟨r2,0,none⟩) hB).trans h.cell2,(hb.frozen (p:=⟨r1,0,none⟩) (Dl h.lt hB)).trans h.frozen1,(hb.frozen (p:=⟨r2,0,none⟩) hB).trans h.frozen2⟩
variable{r1 r2:Nat}
theorem Res2.after(h:Res2 w wx r1 r2)(hb:AG wx.heap.size wx w1):Res2 w w1 r1 r2:=h.step hb h.size
theorem Res2.drewN(h:Res2 w wx r1 r2)(q:Nat):Res2 w (wx.drewN q) r1 r2:=h.after (aF (AL _ _) q)
theorem Res2.fin{vq vr u1 u2:Value}(h:Res2 w wx r1 r2)(I:aP (r2+1) wx vq q)(hr:aP (r2+1) wx vr r):
  aP w.heap.size ((wx.setCell ⟨r1,0,none⟩ u1).setCell ⟨r2,0,none⟩ u2) vq q/\aP w.heap.size ((wx.setCell ⟨r1,0,none⟩ u1).setCell ⟨r2,0,none⟩ u2) vr r/\AG w.heap.size w ((wx.setCell ⟨r1,0,none⟩ u1).setCell ⟨r2,0,none⟩ u2):=by
 have h1:=h.base;have h2:=h.lt;have keep:∀ {v:Value} {N:Nat},aP (r2+1) wx v N->aP w.heap.size ((wx.setCell ⟨r1,0,none⟩ u1).setCell ⟨r2,0,none⟩ u2) v N:=by
  rintro v N ⟨a,cap,rfl,hc,J⟩;refine⟨a,cap,rfl,hc,λG=> ?_⟩;obtain⟨b,off,rfl,hb,H,hf⟩:=J G;have e:∀k,k=b->((wx.setCell ⟨r1,0,none⟩ u1).setCell ⟨r2,0,none⟩ u2).heap[k]? =wx.heap[k]? :=by
   rintro k rfl;rw[CD _ _ _ _ (by show k≠r2;omega),CD _ _ _ _ (by show k≠r1;omega)]
  exact⟨b,off,rfl,Aa,λj C=>(World.cell?_of_block (w:=wx) (e b rfl)).trans (H j C),λj C=>(World.frozen?_of_block (w:=wx) (e b rfl)).trans (hf j C)⟩
 exact⟨keep I,keep hr,(h.below.setCell h1 u1).setCell (by show w.heap.size<=r2;omega) u2⟩
theorem i7(C:nl N<=k+1)(h:D N k=0):nl N<=k:=by
 rw[aI]at *;have h1:=Cl C;rw[cI,h,CR,CM]at h1;rw[<-h1];exact Bs _ (cH k)
theorem abl(G:nl N<=k+1)(h:D N k≠0):nl N=k+1:=by
 have:¬nl N<=k:=λC=>h (iw C)
 omega
theorem Aj(h:p:=by exact⟨rfl,rfl⟩):p:=h
theorem dO(a:Option A2)(L cap N:Nat)(w:World)(K:L<=9223372036854775807)(I:L<=cap)(hr:Rw w a L N):
  AH AE 189 #[.slice a L cap] w λe w'=>e= .returned (.slice a (nl N) (nl N))/\w=w':=by
 go_enter Tryz.func189,Tryz.ntmps189
 go_wp2;go_loop [3] (λn=>∃k:Nat,k<=L/\n= .int .i64 k/\nl N<=k) (λn=>(intOf n).toNat)
 case atStart=>exact⟨L,AK _,rfl,aI.2 hr.lt⟩
 case round=>
  obtain⟨k,P,rfl,hn⟩:=hrel
  cases k with
  | zero=>
   go_wp2;go_ret;have:nl N=0:=Aa
   rw[this];exact Aj
  | succ k=>
   obtain⟨b,off,rfl,C⟩:=hr.cells Aa;have H:=C k Aa;by_cases hz:D N k=0
   ·rw[hz]at H;have G:=AF hz;clear hz;go_wp2;go_round
    case rel=>exact⟨k,Aa,by go_num,i7 hn G.out⟩
    case measure=>simp[intOf]
   ·have J:(((D N k:Nat):Int)==0)=false:=by simpa using hz
    have G:=AF hz;clear hz;go_wp2;go_ret;have:nl N=k+1:=abl hn G.out;rw[this];exact Aj
theorem gC(a:Option A2)(L cap N:Nat)(w:World)(G:L<=9223372036854775807)(C:L<=cap)(hr:Rw w a L N):
  AH AE 196 #[.slice a L cap] w λe w'=>e= .returned (.agg #[.slice a (nl N) (nl N)])/\AG w.heap.size w w':=by
 go_enter Tryz.func196,Tryz.ntmps196
 go_wp2_with fail
 refine(dO a L cap N _ G C (hr.mono ((AL _ _).alloc (AK _) _))).mono ?_;rintro e w' ⟨rfl,rfl⟩;go_wp2;exact A6 (v:=.agg #[.slice a (nl N) (nl N)]) (by simp[results,Tryz.results196,go_sem]) rfl ⟨rfl,((AL _ _).alloc (AK _) _)⟩
theorem tE(x y c:Int)(w:World)(I:0<=x)(G:x<4294967296)(hy:0<=y)(H:y<4294967296)(hc:0<=c)(C:c<=1):
  AH AE 201 #[.int .u32 x,.int .u32 y,.int .u32 c] w λe w'=>
   e= .returned (.tuple #[.int .u32 ((x+y+c) % 4294967296),.int .u32 ((x+y+c) / 4294967296)])/\w=w':=by
 go_enter Tryz.func201,Tryz.ntmps201
 go_wp2;go_ret2
 exact Aj
theorem div_or(a b:Nat):(a ||| b) / 2147483648=a / 2147483648 ||| b / 2147483648:=by
 have h:=Nat.shiftRight_or_distrib (i:=31) (a:=a) (b:=b);simpa only[FA]using h
theorem aan(a b:Nat):(a &&& b) / 2147483648=a / 2147483648 &&& b / 2147483648:=by
 have h:=Nat.shiftRight_and_distrib (i:=31) (a:=a) (b:=b);simpa only[FA]using h
theorem tF(a b:Nat):(a ^^^ b) / 2147483648=(a / 2147483648) ^^^ (b / 2147483648):=by
 have h:=Nat.shiftRight_xor_distrib (i:=31) (a:=a) (b:=b);simpa only[FA]using h
theorem yd(x y c d:Nat)(H:x<4294967296)(hy:y<4294967296)(hc:c<=1)(C:d=(x+8589934592 - y - c) % 4294967296):
  (((4294967295 ^^^ x) &&& y) ||| ((4294967295 ^^^ (x ^^^ y)) &&& d)) / 2147483648=if x<y+c then 1 else 0:=by
 rw[div_or,aan,aan,tF,tF,tF];have G:d<4294967296:=by rw[C];exact Bs _ th
 have h1:x / 2147483648=0\/x / 2147483648=1:=Aa
 have h2:y / 2147483648=0\/y / 2147483648=1:=Aa
 have h3:d / 2147483648=0\/d / 2147483648=1:=Aa
 rcases h1 with h1 | h1<;>rcases h2 with h2 | h2<;>rcases h3 with h3 | h3<;>rw[h1,h2,h3]<;>(split<;>first | rfl | (exfalso;omega))
def borrow(x y c:Int):Int:=if x<y+c then 1 else 0
theorem ye(x y c:Int)(G:0<=x)(U:x<4294967296)(hy:0<=y)(V:y<4294967296)(hc:0<=c)(P:c<=1):
  bits BinOp.or CS (bits BinOp.and CS (bits BinOp.xor CS CS.max x) y)
        (bits BinOp.and CS
         (bits BinOp.xor CS CS.max (bits BinOp.xor CS x y))
         ((x - y - c) % 4294967296)) / 2147483648=borrow x y c:=by
 obtain⟨x,rfl⟩:=E4 G;obtain⟨y,rfl⟩:=E4 hy;obtain⟨c,rfl⟩:=E4 hc;have J:((x:Int) - y - c) % 4294967296=(((x+8589934592 - y - c) % 4294967296:Nat):Int):=Aa
 have K:CS.max=((4294967295:Nat):Int):=th
 have G:x<4294967296:=Aa
 have hy:y<4294967296:=Aa
 have Y:4294967295 ^^^ x<4294967296:=Nat.xor_lt_two_pow (n:=32) th G;have H:x ^^^ y<4294967296:=Nat.xor_lt_two_pow (n:=32) G hy;have Z:4294967295 ^^^ (x ^^^ y)<4294967296:=Nat.xor_lt_two_pow (n:=32) th H;have I:(x+8589934592 - y - c) % 4294967296<4294967296:=Bs _ th;have l5:(4294967295 ^^^ x) &&& y<4294967296:=Nat.and_lt_two_pow (n:=32) _ hy;have l6:(4294967295 ^^^ (x ^^^ y)) &&& ((x+8589934592 - y - c) % 4294967296)<4294967296:=Nat.and_lt_two_pow (n:=32) _ I;rw[J,K,u32_xor_nat _ _ th G,u32_xor_nat _ _ G hy,u32_xor_nat _ _ th H,u32_and_nat _ _ Y hy,u32_and_nat _ _ Z I,u32_or_nat _ _ l5 l6];have hb:=yd x y c _ G hy Aa rfl;unfold borrow;have C:((((((4294967295 ^^^ x) &&& y) ||| ((4294967295 ^^^ (x ^^^ y)) &&& ((x+8589934592 - y - c) % 4294967296))) / 2147483648:Nat)):Int)=if (x:Int)<y+c then 1 else 0:=by
  rw[hb];split<;>split<;>first | rfl | omega
 simpa using C
theorem tG(x y c:Int)(w:World)(I:0<=x)(G:x<4294967296)(hy:0<=y)(H:y<4294967296)(hc:0<=c)(C:c<=1):
  AH AE 203 #[.int .u32 x,.int .u32 y,.int .u32 c] w λe w'=>
   e= .returned (.tuple #[.int .u32 ((x - y - c) % 4294967296),.int .u32 (borrow x y c)])/\w=w':=by
 have hb:=AF (ye x y c I G hy H hc C);go_enter Tryz.func203,Tryz.ntmps203
 go_wp2;go_ret2
 refine⟨?_,rfl⟩;rw[<-hb.out];rfl
set_option maxHeartbeats 4000000 in
set_option maxRecDepth 100000 in
theorem c_len32(x:Int)(w:World)(h0:0<=x)(h1:x<=4294967295):
  AH AE 232 #[.int .u32 x] w λe w'=>e= .returned (.int .i64 (Lib.bitLen x.toNat))/\w=w':=by
 by_cases c2:x<65536
 ·by_cases c1:x<256
  ·have C:x<=255:=Aa
   have l:=Lib.bitLen_le8' x Aa Aa;have hl:=AF (Lib.len8_of x Aa Aa);go_enter Tryz.func232,Tryz.ntmps232
   go_wp2;go_ret;refine⟨congrArg A4 (congrArg (AW Bd) ?_),rfl⟩;rw[hl.out];simp only[wrap64];omega
  ·have G:0<=x / 256:=Aa
   have C:x / 256<=255:=Aa
   have l:=Lib.bitLen_le8' (x / 256) Aa Aa;have hl:=AF (Lib.len8_of (x / 256) Aa Aa);have hs:=AF (Lib.bitLen_shift8 x.toNat Aa Aa);have e:=AF (show(x / 256).toNat=x.toNat / 256 from Aa);go_enter Tryz.func232,Tryz.ntmps232
   go_wp2;go_ret;refine⟨congrArg A4 (congrArg (AW Bd) ?_),rfl⟩;rw[hl.out,hs.out,<-e.out];simp only[wrap64];omega
 ·by_cases c1:x / 65536<256
  ·have G:0<=x / 65536:=Aa
   have C:x / 65536<=255:=Aa
   have l:=Lib.bitLen_le8' (x / 65536) Aa Aa;have hl:=AF (Lib.len8_of (x / 65536) Aa Aa);have hs:=AF (Lib.bitLen_shift16 x.toNat Aa Aa);have e:=AF (show(x / 65536).toNat=x.toNat / 65536 from Aa);go_enter Tryz.func232,Tryz.ntmps232
   go_wp2;go_ret;refine⟨congrArg A4 (congrArg (AW Bd) ?_),rfl⟩;rw[hl.out,hs.out,<-e.out];simp only[wrap64];omega
  ·have G:0<=x / 65536 / 256:=Aa
   have C:x / 65536 / 256<=255:=Aa
   have l:=Lib.bitLen_le8' (x / 65536 / 256) Aa Aa;have hl:=AF (Lib.len8_of (x / 65536 / 256) Aa Aa);have hs:=AF (Lib.bitLen_shift24 x.toNat Aa Aa);have e:=AF (show(x / 65536 / 256).toNat=x.toNat / 16777216 from Aa);go_enter Tryz.func232,Tryz.ntmps232
   go_wp2;go_ret;refine⟨congrArg A4 (congrArg (AW Bd) ?_),rfl⟩;rw[hl.out,hs.out,<-e.out];simp only[wrap64];omega
theorem c_lz32(x:Int)(w:World)(h0:0<=x)(h1:x<=4294967295):
  AH AE 242 #[.int .u32 x] w λe w'=>e= .returned (.int .i64 (32 - (Lib.bitLen x.toNat:Int)))/\w=w':=by
 have l:=Lib.bitLen_le x.toNat 32 Aa Aa;go_enter Tryz.func242,Tryz.ntmps242
 go_wp2_with fail
 refine(c_len32 x _ h0 h1).mono ?_;rintro e w' ⟨rfl,rfl⟩;go_wp2;go_ret;exact Aj
theorem or32(hi lo:Int)(h0:0<=hi)(h1:hi<=4294967295)(h2:0<=lo)(h3:lo<=4294967295):bits BinOp.or BD (hi*4294967296) lo=hi*4294967296+lo:=by
 obtain⟨x,rfl⟩:=E4 h0;obtain⟨y,rfl⟩:=E4 h2;have:=u64_or_nat (x*4294967296) y Aa Aa;rw[nat_join 32 (x*4294967296) y Aa Aa]at this;simpa using this
theorem c_div32(hi lo y:Int)(w:World)(h0:0<=hi)(h1:hi<y)(h2:0<=lo)(h3:lo<=4294967295)(h4:y<=4294967295):
  AH AE 239 #[.int .u32 hi,.int .u32 lo,.int .u32 y] w λe w'=>e= .returned (.tuple #[.int .u32 ((hi*4294967296+lo) / y),.int .u32 ((hi*4294967296+lo) % y)])/\∃n,w'=w.drewN n:=by
 have hy:0<y:=Aa
 have G:=or32 hi lo h0 Aa h2 h3;have C:(y !=0)=true:=by rw[bne_iff_ne];omega
 have H:0<=(hi*4294967296+lo) / y:=Int.ediv_nonneg Aa Aa;have I:(hi*4294967296+lo) / y<=4294967295:=by
  have:(hi*4294967296+lo) / y<4294967296:=by
   rw[Int.ediv_lt_iff_lt_mul hy];omega
  omega
 have r1:0<=(hi*4294967296+lo) % y:=Int.emod_nonneg _ Aa;have r2:(hi*4294967296+lo) % y<y:=Int.emod_lt_of_pos _ hy;go_enter Tryz.func239,Tryz.ntmps239
 go_wp2;go_quiet (fail)
 go_wp2;go_ret2
 exact⟨rfl,_,rfl⟩
def dz(m n:Nat):Int:=if m<n then -1 else if n<m then 1 else 0
theorem gf(h:m<n):dz m n= -1:=by unfold dz;rw[if_pos h]
theorem jJ(h:n<m):dz m n=1:=by unfold dz;rw[if_neg Aa,if_pos h]
theorem mg(h:m=n):dz m n=0:=by unfold dz;rw[if_neg Aa,if_neg Aa]
theorem vj(h:nl m<nl n):m<n:=by
 have h1:=aI (N:=n) (k:=nl m);have h2:=dZ m;omega
theorem gg(h:m / 4294967296^(k+1)=n / 4294967296^(k+1))(G:D m k<D n k):m<n:=by
 have h1:=cJ m k;have h2:=cJ n k;have h3:m / 4294967296^k<n / 4294967296^k:=Aa
 have h4:=Ce m (4294967296^k);have h5:=Ce n (4294967296^k);have h6:=Bs m (cH k);have C:4294967296^k*(m / 4294967296^k+1)<=4294967296^k*(n / 4294967296^k):=CY _ h3;rw[Cr]at C;omega
theorem Ag(h:p:=by simp):p:=h
theorem fB(a b:Option A2)(V Y m n:Nat)(w:World)(ha:Rw w a (nl m) m)(hb:Rw w b (nl n) n)(hm:nl m<=60000000000000)(hn:nl n<=60000000000000):
  AH AE 202 #[.slice a (nl m) V,.slice b (nl n) Y] w λe w'=>e= .returned (.int .i64 (dz m n))/\∃n,w'=w.drewN n:=by
 by_cases I:nl m=nl n
 ·rw[<-I]at hb⊢;clear I hn;generalize nl m=L at *;have J:((L:Int) !=L)=false:=Ag
  go_enter Tryz.func202,Tryz.ntmps202
  go_wp2;go_loopw [5] (λi wr=>∃k:Nat,k<=L/\i= .int .i64 ((k:Int) - 1)/\m / 4294967296^k=n / 4294967296^k/\∃q,wr=w.drewN q) (λi _=>((intOf i)+1).toNat)
  case atStart=>exact⟨L,AK _,rfl,by rw[Cw ha.lt,Cw hb.lt],0,rfl⟩
  case round=>
   obtain⟨k,hk,rfl,P,q,rfl⟩:=hrel;have C:=AF P;clear P
   cases k with
   | zero=>
    go_wp2;go_ret;refine⟨?_,q,rfl⟩;rw[mg (by simpa using C.out)];rfl
   | succ k=>
    obtain⟨Z,o1,rfl,h1⟩:=ha.cells Aa;obtain⟨b2,o2,rfl,h2⟩:=hb.cells Aa;have c1:=h1 k Aa;have c2:=h2 k Aa;have e:(((k+1:Nat):Int) - 1)=(k:Int):=Aa
    simp only[e];clear e;rcases Nat.lt_trichotomy (D m k) (D n k)with h | h | h
    ·have K:((D m k:Nat):Int)<((D n k:Nat):Int):=Aa
     go_wp2;go_quiet (fail)
     go_wp2;go_ret;exact⟨by rw[gf (gg C.out h)];rfl,abk _ _ _⟩
    ·have U:=AF h;have G:¬((D m k:Nat):Int)<((D n k:Nat):Int):=Aa
     have H:¬((D n k:Nat):Int)<((D m k:Nat):Int):=Aa
     clear h;go_wp2;go_quiet (fail)
     go_wp2;go_quiet (fail)
     go_wp2;go_roundw
     case rel=>exact⟨k,Aa,rfl,by rw[cJ m k,cJ n k,C.out,U.out],_,rfl⟩
     case measure=>simp[intOf]
    ·have G:¬((D m k:Nat):Int)<((D n k:Nat):Int):=Aa
     have H:((D n k:Nat):Int)<((D m k:Nat):Int):=Aa
     go_wp2;go_quiet (fail)
     go_wp2;go_quiet (fail)
     go_wp2;go_ret;exact⟨by rw[jJ (gg C.out.symm h)];rfl,by simp only[World.drewN_drewN];exact⟨_,rfl⟩⟩
 ·have J:(((nl m:Nat):Int) !=((nl n:Nat):Int))=true:=by rw[bne_iff_ne];omega
  rcases Nat.lt_or_gt_of_ne I with h | h
  ·have K:((nl m:Nat):Int)<((nl n:Nat):Int):=Aa
   go_enter Tryz.func202,Tryz.ntmps202
   go_wp2;go_ret;exact⟨by rw[gf (vj h)];rfl,0,rfl⟩
  ·have K:¬((nl m:Nat):Int)<((nl n:Nat):Int):=Aa
   go_enter Tryz.func202,Tryz.ntmps202
   go_wp2;go_ret;exact⟨by rw[jJ (vj h)];rfl,0,rfl⟩
theorem rI(va vb:Value)(m n:Nat)(w:World)(ha:IsN w va m)(hb:IsN w vb n)(Y:nl m<=60000000000000)(hn:nl n<=60000000000000):
  AH AE 191 #[va,vb] w λe w'=>e= .returned (.int .i64 (dz m n))/\AG w.heap.size w w':=by
 obtain⟨a,U,rfl,H,Z⟩:=ha;obtain⟨b,V,rfl,I,rb⟩:=hb;have P:AG w.heap.size w ((w.alloc (.cells #[.slice a (nl m) U] 31)).alloc (.cells #[.slice b (nl n) V] 31)):=((AL _ _).alloc (AK _) _).alloc Ag _;have C:=Z.mono P;have G:=rb.mono P;have J:nl m<=9223372036854775807:=Aa
 have K:nl n<=9223372036854775807:=Aa
 go_enter Tryz.func191,Tryz.ntmps191
 go_wp2
 go_quiet (first
  | (go_at_call 189;with_reducible exact d8 (dO a (nl m) U m _ J H (C.drewN _)))
  | (go_at_call 189;with_reducible exact d8 (dO b (nl n) V n _ K I (G.drewN _)))
  | (go_at_call 202;with_reducible exact Calls.quiet_of (fB a b _ _ m n _ (C.drewN _) (G.drewN _) Y hn)))
 go_wp2;go_ret;exact⟨rfl,aF P _⟩
theorem oT(va:Value)(L N:Nat)(w:World)(ha:IsR w va L N)(P:L<=60000000000000):
  AH AE 279 #[va] w λe w'=>e= .returned (.bool (decide (L=nl N)))/\AG w.heap.size w w':=by
 obtain⟨a,I,rfl,C,K⟩:=ha;have J:AG w.heap.size w (w.alloc (.cells #[.slice a L I] 31)):=(AL _ _).alloc (AK _) _;have H:=K.mono J;have G:L<=9223372036854775807:=Aa
 go_enter Tryz.func279,Tryz.ntmps279
 go_wp2;go_quiet ((go_at_call 189;with_reducible exact d8 (dO a L I N _ G C (H.drewN _))))
 go_wp2;go_ret;refine⟨?_,aF J _⟩;have e:((L:Int)==((nl N:Nat):Int))=decide (L=nl N):=by rw[Bool.eq_iff_iff];simp;omega
 rw[<-e];rfl
theorem fh(n:Nat)(w:World)(hn:n<18446744073709551616):
  AH AE 142 #[.int .u64 (n:Int)] w λe w'=>cW w n e w':=by
 have C:=aU.two (w.alloc (.cells #[.slice none 0 0] 31)) n hn;have H:AG w.heap.size w (w.alloc (.cells #[.slice none 0 0] 31)):=(AL _ _).alloc (AK _) _;have I:=H.alloc Ag (.cells #[.int .u32 ((n:Int) % 4294967296),.int .u32 ((n:Int) / 4294967296)] 237);rw[CE]at C;go_enter Tryz.func142,Tryz.ntmps142
 go_wp2_with fail
 refine(gC _ 2 2 n _ Aa (AK _) C.rw').mono ?_;rintro e w1 ⟨rfl,G⟩;obtain⟨hc,hf⟩:=bcell G;have hz:=G.size;simp only[CE]at hz;go_wp2;exact A6 (eI rfl _ _ w.heap.size _ rfl (Ec _ _ _ (u:=.slice none 0 0) (by simp[hc,go_sem]))) rfl
  (tD I C G Aa (AK _) Aa)
theorem Ak(h:p:=by simp[go_sem]):p:=h
theorem kL(va vb:Value)(m n:Nat)(w:World)(ha:IsN w va m)(hb:IsN w vb n)(hm:nl m<=1000000000000)(hn:nl n<=1000000000000):
  AH AE 147 #[va,vb] w λe w'=>cW w (m+n) e w':=by
 obtain⟨a,ca,rfl,aa,ra⟩:=ha;obtain⟨b,cb,rfl,ab,rb⟩:=hb;go_enter Tryz.func147,Tryz.ntmps147
 go_wp2_with fail
 go_quiet (fail)
 go_upto_if 19 with(fail)
 go_cut [5,6] (λs5 s6 wx=>AG w.heap.size w wx/\w.heap.size+1+1<wx.heap.size/\wx.cell? ⟨w.heap.size+1+1,0,none⟩=some (.slice none 0 0)/\wx.frozen? ⟨w.heap.size+1+1,0,none⟩=false/\
   ∃al cl x bl cs y,s5= .slice al (nl x) cl/\s6= .slice bl (nl y) cs/\nl y<=nl x/\nl x<=1000000000000/\Hid (x+y=m+n)/\Rw w al (nl x) x/\Rw w bl (nl y) y)
 case first=>
  have H:=aF ((((AL w.heap.size w).alloc (AK _) (.cells #[.slice a (nl m) ca] 31)).alloc Ag (.cells #[.slice b (nl n) cb] 31)).alloc (by simp;omega) (.cells #[.slice none 0 0] 31)) nq;go_wp2_with fail
  all_goals go_meet
  case rel=>exact⟨H,Ag,Ak,Ak,b,cb,n,a,ca,m,rfl,rfl,Aa,Aa,AF (Nat.add_comm _ _),rb,ra⟩
  case rel=>exact⟨H,Ag,Ak,Ak,a,ca,m,b,cb,n,rfl,rfl,Aa,Aa,AF rfl,ra,rb⟩
 case rest=>
  obtain⟨H,Y,hc,hf,al,cl,x,bl,cs,y,rfl,rfl,Z,hx,V,rx,ry⟩:=hcut;clear ra rb aa ab hm hn;have J:=aU.made wc (nl x+1);go_wp2_with (at_make;refine bG rfl _ _ rfl _ _ _ _ (nl x+1) rfl rfl Aa Aa Aa ?_)
  go_loopw [8,28] (λs8 an wr=>∃k:Nat,k<=nl x/\an= .int .i64 k/\s8= .int .u32 ((cy x y k:Nat):Int)/\aU wr wc.heap.size (nl x+1) ((x+y) % 4294967296^k)/\AG wc.heap.size wc wr/\wc.heap.size<wr.heap.size)
   (λ_ i _=>nl x - (intOf i).toNat)
  case atStart=>exact⟨0,Bc _,rfl,by rw[o4];rfl,by simpa [Cx]using J,(AL _ _).alloc (AK _) _,Ag⟩
  case round=>
   obtain⟨k,hk,rfl,rfl,P,I,U⟩:=hrel;clear J;have ao:=oB x y k;have ap:=ci x k;have aq:=ci y k;have ad:=ci (x+y) k;have E1:Hid (((D x k:Nat):Int)+((D y k:Nat):Int)+((cy x y k:Nat):Int)=((D (x+y) k:Nat):Int)+4294967296*((cy x y (k+1):Nat):Int)):=by
    have:=me x y k;show _=_;omega
   by_cases hlt:k<nl x
   ·have ak:=rx.mono (H.trans (I.mono H.size));have am:=ry.mono (H.trans (I.mono H.size));obtain⟨b1,o1,rfl,h1⟩:=ak.cells Aa;have c1:=h1 k hlt;have c3:=P.cell (p:=k) Aa;have f3:=P.frozen k;have G:aU (wr.setCell ⟨wc.heap.size,k,none⟩ (.int .u32 ((D (x+y) k:Nat):Int))) wc.heap.size (nl x+1) ((x+y) % 4294967296^(k+1)):=by
     rw[<-o5];exact P.store Aa ad
    have C:=I.setCell (p:=⟨wc.heap.size,k,none⟩) (AK _) (.int .u32 ((D (x+y) k:Nat):Int));by_cases hlt2:k<nl y
    ·obtain⟨b2,o2,rfl,h2⟩:=am.cells Aa;have c2:=h2 k hlt2;go_wp2_with fail
     refine(tE _ _ _ _ Aa Aa Aa Aa Aa Aa).mono ?_;rintro e w1 ⟨rfl,rfl⟩;rw[show(((D x k:Nat):Int)+((D y k:Nat):Int)+((cy x y k:Nat):Int)) % 4294967296=((D (x+y) k:Nat):Int)from by have:=E1.out;omega,show(((D x k:Nat):Int)+((D y k:Nat):Int)+((cy x y k:Nat):Int)) / 4294967296=((cy x y (k+1):Nat):Int)from by have:=E1.out;omega];go_wp2;go_roundw
     case rel=>exact⟨k+1,Aa,by go_num,rfl,G,C,by simpa using U⟩
     case measure=>simp[intOf];omega
    ·have E0:Hid (D y k=0):=iw Aa;go_wp2_with fail
     refine(tE _ _ _ _ Aa Aa Aa Aa Aa Aa).mono ?_;rintro e w1 ⟨rfl,rfl⟩;rw[show(((D x k:Nat):Int)+0+((cy x y k:Nat):Int)) % 4294967296=((D (x+y) k:Nat):Int)from by have:=E1.out;have:=E0.out;omega,show(((D x k:Nat):Int)+0+((cy x y k:Nat):Int)) / 4294967296=((cy x y (k+1):Nat):Int)from by have:=E1.out;have:=E0.out;omega];go_wp2;go_roundw
     case rel=>exact⟨k+1,Aa,by go_num,rfl,G,C,by simpa using U⟩
     case measure=>simp[intOf];omega
   ·obtain rfl:k=nl x:=Aa
    have c3:=P.cell (p:=nl x) Aa;have f3:=P.frozen (nl x);have G:aU (wr.setCell ⟨wc.heap.size,nl x,none⟩ (.int .u32 ((cy x y (nl x):Nat):Int))) wc.heap.size (nl x+1) (x+y):=by
     have h:=P.store (p:=nl x) (e:=cy x y (nl x)) Aa Aa;rw[cy_last (AK _) Z]at h⊢;rwa [o5,rS (abj x y (nl x) (AK _) Z)]at h
    have C:=I.setCell (p:=⟨wc.heap.size,nl x,none⟩) (AK _) (.int .u32 ((cy x y (nl x):Nat):Int));have hB:=H.trans (C.mono H.size);go_wp2_with fail
    refine(gC _ (nl x+1) (nl x+1) (x+y) _ Aa (AK _) G.rw').mono ?_;rintro e w1 ⟨rfl,K⟩;have ac:w1.cell? ⟨w.heap.size+1+1,0,none⟩=some (.slice none 0 0):=by
     rw[K.cell (p:=⟨w.heap.size+1+1,0,none⟩) (by simp;omega),C.cell (p:=⟨w.heap.size+1+1,0,none⟩) Y];exact hc
    have ar:w1.frozen? ⟨w.heap.size+1+1,0,none⟩=false:=by
     rw[K.frozen (p:=⟨w.heap.size+1+1,0,none⟩) (by simp;omega),C.frozen (p:=⟨w.heap.size+1+1,0,none⟩) Y];exact hf
    go_wp2;exact A6 (eI rfl _ _ (w.heap.size+1+1) _ rfl (Ec _ _ _ ac)) rfl
     (by rw[<-V.out];exact tD hB G K (by have:=H.size;omega) Aa Aa)
def pC(W:World)(m n:Nat)(e:BH)(w':World):Prop:=∃v,e= .returned (.tuple #[v,.bool (decide (n<=m))])/\aP W.heap.size w' v (m - n)/\AG W.heap.size W w'
theorem rJ(va vb:Value)(m n:Nat)(w:World)(ha:IsN w va m)(hb:IsN w vb n)(hm:nl m<=1000000000000)(hn:nl n<=1000000000000):
  AH AE 148 #[va,vb] w λe w'=>pC w m n e w':=by
 obtain⟨a,ca,rfl,Z,ra⟩:=ha;obtain⟨b,cb,rfl,aa,rb⟩:=hb;have hw:AG w.heap.size w (((w.alloc (.cells #[.slice a (nl m) ca] 31)).alloc (.cells #[.slice b (nl n) cb] 31)).alloc (.cells #[.slice none 0 0] 31)):=(((AL _ _).alloc (AK _) _).alloc Ag _).alloc (by simp;omega) _;have H:=ra.mono hw;have I:=rb.mono hw;have ab:nl m<=9223372036854775807:=Aa
 have ac:nl n<=9223372036854775807:=Aa
 by_cases hmn:m<n
 ·have an:dz m n= -1:=gf hmn;go_enter Tryz.func148,Tryz.ntmps148
  go_wp2_with fail
  go_quiet (first
   | (go_at_call 189;with_reducible exact d8 (dO a (nl m) ca m _ ab Z (H.drewN _)))
   | (go_at_call 189;with_reducible exact d8 (dO b (nl n) cb n _ ac aa (I.drewN _))))
  go_wp2_with fail
  refine(fB a b _ _ m n _ (H.drewN _) (I.drewN _) Aa Aa).mono ?_;rintro e w1 ⟨rfl,q,rfl⟩;go_wp2;have ak:m - n=0:=Aa
  refine A6 (mf rfl _ _ (w.heap.size+1+1) (.slice none 0 0) (.bool false) rfl rfl Ak) rfl ⟨.agg #[.slice none 0 0],?_,?_,?_⟩
  ·rw[decide_eq_false Aa]
  ·rw[ak];exact aP.of_zero
  ·first | exact aF hw _ | exact(aF hw _).setCell (by simp;omega) _
 ·have an:0<=dz m n:=by unfold dz;split<;>first | (exfalso;omega) | (split<;>omega)
  have HS:=AF (show m - n+n=m by omega);go_enter Tryz.func148,Tryz.ntmps148
  go_wp2_with fail
  go_quiet (first
   | (go_at_call 189;with_reducible exact d8 (dO a (nl m) ca m _ ab Z (H.drewN _)))
   | (go_at_call 189;with_reducible exact d8 (dO b (nl n) cb n _ ac aa (I.drewN _))))
  go_wp2_with fail
  refine(fB a b _ _ m n _ (H.drewN _) (I.drewN _) Aa Aa).mono ?_;rintro e w1 ⟨rfl,q,rfl⟩;go_upto_region 4 with(fail)
  go_cut [8] (λs8 wx=>∃g,s8= .slice (some ⟨g,0,none⟩) (nl m) (nl m)/\aU wx g (nl m) 0/\Made w wx (w.heap.size+1+1) g)
  case first=>
   have C:=aU.made ((((w.alloc (.cells #[.slice a (nl m) ca] 31)).alloc (.cells #[.slice b (nl n) cb] 31)).alloc (.cells #[.slice none 0 0] 31)).drewN (nq+q)) (nl m);go_wp2_with (at_make;refine bG rfl _ _ rfl _ _ _ _ (nl m) rfl rfl Aa Aa Aa ?_)
   go_meet;case rel=>exact⟨_,rfl,At,(aF hw _).alloc (by simp;omega) _,Aa,Ag,Ag,Ak,Ak⟩
  case rest=>
   obtain⟨g,rfl,C,K⟩:=hcut;go_wp2_with fail
   go_loopw [9,28] (λs9 ar wr=>∃k:Nat,k<=nl m/\ar= .int .i64 k/\s9= .int .u32 ((cy (m - n) n k:Nat):Int)/\aU wr g (nl m) ((m - n) % 4294967296^k)/\AG g wc wr)
    (λ_ i _=>nl m - (intOf i).toNat)
   case atStart=>exact⟨0,Bc _,rfl,by rw[o4];rfl,by simpa [Cx]using C,AL _ _⟩
   case round=>
    obtain⟨k,hk,rfl,rfl,P,V⟩:=hrel;have G:=K.step V;have av:=oB (m - n) n k;have au:=oB (m - n) n (k+1);have ax:=ci m k;have ay:=ci n k;have ao:=ci (m - n) k;have E1:Hid (((D (m - n) k:Nat):Int)+((D n k:Nat):Int)+((cy (m - n) n k:Nat):Int)=((D m k:Nat):Int)+4294967296*((cy (m - n) n (k+1):Nat):Int)):=by
     have:=me (m - n) n k;rw[HS.out]at this;show _=_;omega
    by_cases hlt:k<nl m
    ·have ap:=ra.mono G.below;have aq:=rb.mono G.below;obtain⟨b1,o1,rfl,h1⟩:=ap.cells Aa;have c1:=h1 k hlt;have c3:=P.cell hlt;have f3:=P.frozen k;have ad:aU (wr.setCell ⟨g,k,none⟩ (.int .u32 ((D (m - n) k:Nat):Int))) g (nl m) ((m - n) % 4294967296^(k+1)):=by
      rw[<-o5];exact P.store Aa ao
     have Y:=V.setCell (p:=⟨g,k,none⟩) (AK _) (.int .u32 ((D (m - n) k:Nat):Int));by_cases hlt2:k<nl n
     ·obtain⟨b2,o2,rfl,h2⟩:=aq.cells Aa;have c2:=h2 k hlt2;go_wp2_with fail
      refine(tG _ _ _ _ Aa Aa Aa Aa Aa Aa).mono ?_;rintro e w1 ⟨rfl,rfl⟩;rw[show(((D m k:Nat):Int) - ((D n k:Nat):Int) - ((cy (m - n) n k:Nat):Int)) % 4294967296=((D (m - n) k:Nat):Int)from by have:=E1.out;omega,show borrow ((D m k:Nat):Int) ((D n k:Nat):Int) ((cy (m - n) n k:Nat):Int)=((cy (m - n) n (k+1):Nat):Int)from by have:=E1.out;unfold borrow;split<;>omega];go_wp2;go_roundw
      case rel=>exact⟨k+1,Aa,by go_num,rfl,ad,Y⟩
      case measure=>simp[intOf];omega
     ·have E0:Hid (D n k=0):=iw Aa;go_wp2_with fail
      refine(tG _ _ _ _ Aa Aa Aa Aa Aa Aa).mono ?_;rintro e w1 ⟨rfl,rfl⟩;rw[show(((D m k:Nat):Int) - 0 - ((cy (m - n) n k:Nat):Int)) % 4294967296=((D (m - n) k:Nat):Int)from by have:=E1.out;have:=E0.out;omega,show borrow ((D m k:Nat):Int) 0 ((cy (m - n) n k:Nat):Int)=((cy (m - n) n (k+1):Nat):Int)from by have:=E1.out;have:=E0.out;unfold borrow;split<;>omega];go_wp2;go_roundw
      case rel=>exact⟨k+1,Aa,by go_num,rfl,ad,Y⟩
      case measure=>simp[intOf];omega
    ·obtain rfl:k=nl m:=Aa
     have J:(m - n) % 4294967296^nl m=m - n:=rS (dN (Nat.sub_le _ _));rw[J]at P;clear J;go_wp2_with fail
     refine(gC _ (nl m) (nl m) (m - n) _ Aa (AK _) P.rw').mono ?_;rintro e w1 ⟨rfl,U⟩;obtain⟨am,a0⟩:=G.after U;go_wp2;obtain⟨v,hv,h1,h2⟩:=G.fin (u:=.slice (some ⟨g,0,none⟩) (nl (m - n)) (nl (m - n))) P U;cases hv;refine A6 (mf rfl _ _ (w.heap.size+1+1) _ (.bool true) rfl rfl (Ec _ _ _ am)) rfl ⟨_,?_,h1,h2⟩;rw[decide_eq_true Aa]
theorem Aw(h:p:=by grind):p:=h
theorem mul_step(O C Q P R d e x y c c' M G:Nat)(H:Q=P*R)(h1:C+Q*d=O+Q*e)(h2:x*y+d+c=e+4294967296*c')(h3:O+c*Q=M+x*P*G):
  C+c'*(Q*4294967296)=M+x*P*(G+R*y):=Aw
def i9(m n i k O c:Nat):Prop:=O+c*4294967296^(i+k)=(m % 4294967296^i)*n+D m i*4294967296^i*(n % 4294967296^k)/\O<4294967296^(i+nl n)
theorem i9.start(m n i:Nat):i9 m n i 0 ((m % 4294967296^i)*n) 0:=by
 refine⟨by simp[Cx],?_⟩;rw[BY];exact Nat.mul_lt_mul'' (Bs _ (cH i)) (dZ n)
theorem i9.step{m n i k O c:Nat}(h:i9 m n i k O c)(C:k<nl n):
  i9 m n i (k+1) (upd O (i+k) ((D m i*D n k+D O (i+k)+c) % 4294967296)) ((D m i*D n k+D O (i+k)+c) / 4294967296):=by
 refine⟨?_,lm h.2 Aa (Bs _ th)⟩;rw[cI n k,<-CX i k 1,BL];exact mul_step O _ _ (4294967296^i) (4294967296^k) (D O (i+k)) _ (D m i) (D n k) c _ _ _ (BY _ _ _) (eH O (i+k) _) Aa h.1
theorem i9.last{O c:Nat}(h:i9 m n i (nl n) O c):upd O (i+nl n) c=(m % 4294967296^(i+1))*n:=by
 have h1:=eH O (i+nl n) c;rw[o3 h.2,CR,CM]at h1;have h2:=h.1;rw[x9]at h2;rw[h1,cI]
 grind
theorem rK(va vb:Value)(m n:Nat)(w:World)(ha:IsN w va m)(hb:IsN w vb n)(hm:nl m<=1000000000000)(hn:nl n<=1000000000000):
  AH AE 145 #[va,vb] w λe w'=>cW w (m*n) e w':=by
 obtain⟨a,ca,rfl,ar,ra⟩:=ha;obtain⟨b,cb,rfl,au,rb⟩:=hb;have hw:AG w.heap.size w (((w.alloc (.cells #[.slice a (nl m) ca] 31)).alloc (.cells #[.slice b (nl n) cb] 31)).alloc (.cells #[.slice none 0 0] 31)):=(((AL _ _).alloc (AK _) _).alloc Ag _).alloc (by simp;omega) _;go_enter Tryz.func145,Tryz.ntmps145
 go_upto_region 1 with(fail)
 go_cut [5] (λs5 wx=>∃g,s5= .slice (some ⟨g,0,none⟩) (nl m+nl n) (nl m+nl n)/\aU wx g (nl m+nl n) 0/\Made w wx (w.heap.size+1+1) g/\
   wx.cell? ⟨w.heap.size,0,none⟩=some (.slice a (nl m) ca)/\wx.cell? ⟨w.heap.size+1,0,none⟩=some (.slice b (nl n) cb))
 case first=>
  have H:=aU.made (((w.alloc (.cells #[.slice a (nl m) ca] 31)).alloc (.cells #[.slice b (nl n) cb] 31)).alloc (.cells #[.slice none 0 0] 31)) (nl m+nl n);go_wp2_with (at_make;refine bG rfl _ _ rfl _ _ _ _ (nl m+nl n) rfl rfl Aa Aa Aa ?_)
  go_meet;case rel=>exact⟨_,rfl,by simpa using H,⟨hw.alloc (by simp;omega) _,Aa,Ag,Ag,Ak,Ak⟩,Ak,Ak⟩
 case rest=>
  obtain⟨g,rfl,H,C,ao,U⟩:=hcut;have ap:=C.lt;go_wp2_with fail
  go_loopw [23] (λam wr=>∃i:Nat,i<=nl m/\am= .int .i64 i/\aU wr g (nl m+nl n) ((m % 4294967296^i)*n)/\AG g wc wr)
   (λi _=>nl m - (intOf i).toNat)
  case atStart=>exact⟨0,Bc _,rfl,by simpa [Cx]using H,AL _ _⟩
  case round=>
   obtain⟨i,hi,rfl,Z,J⟩:=hrel;have K:=C.step J;by_cases hlt:i<nl m
   ·have aa:=ra.mono K.below;obtain⟨b1,o1,rfl,h1⟩:=aa.cells Aa;have c1:=h1 i hlt;have c2:=(J.cell (p:=⟨w.heap.size+1,0,none⟩) (by show w.heap.size+1<g;omega)).trans U;have ax:=ci m i;go_wp2_with fail
    go_loopw [8,31] (λs8 an wq=>∃k O c:Nat,k<=nl n/\an= .int .i64 k/\s8= .int .u64 (c:Int)/\c<4294967296/\aU wq g (nl m+nl n) O/\i9 m n i k O c/\AG g wc wq)
     (λ_ s _=>nl n - (intOf s).toNat)
    case atStart=>exact⟨0,(m % 4294967296^i)*n,0,Bc _,rfl,rfl,th,Z,i9.start m n i,J⟩
    case round=>
     obtain⟨k,O,c,hk,rfl,rfl,hc,G,V,I⟩:=hrel;have ad:=C.step I;clear Z J K aa h1 c1 c2;have c2:=(I.cell (p:=⟨w.heap.size+1,0,none⟩) (by show w.heap.size+1<g;omega)).trans U;by_cases hlt2:k<nl n
     ·have ak:=rb.mono ad.below;obtain⟨b2,o2,rfl,h2⟩:=ak.cells Aa;have c3:=h2 k hlt2;have ay:=ci n k;have c4:=G.cell (p:=i+k) Aa;have f4:=G.frozen (i+k);have av:=ci O (i+k);have a1:((D m i:Nat):Int)*((D n k:Nat):Int)<=18446744065119617025:=by
       have h:=Nat.mul_le_mul (show D m i<=4294967295 by omega) (show D n k<=4294967295 by omega);have h':((D m i*D n k:Nat):Int)<=18446744065119617025:=Aa
       simpa using h'
      have aq:0<=((D m i:Nat):Int)*((D n k:Nat):Int):=Int.mul_nonneg Aa Aa;have HT:=V.step hlt2;have P:=G.store (p:=i+k) (e:=(D m i*D n k+D O (i+k)+c) % 4294967296) Aa (Bs _ th);go_wp2;go_roundw
      case rel=>exact⟨k+1,_,_,Aa,by go_num,Ag,by rw[Cm th];omega,by simpa using P,HT,by simpa using I.setCell (p:=⟨g,i+k,none⟩) (AK _) _⟩
      case measure=>simp[intOf];omega
     ·obtain rfl:k=nl n:=Aa
      have c4:=G.cell (p:=i+nl n) Aa;have f4:=G.frozen (i+nl n);have P:=G.store (p:=i+nl n) (e:=c) Aa hc;rw[V.last]at P;have ab:=I.setCell (p:=⟨g,i+nl n,none⟩) (AK _) (.int .u32 (c:Int));go_wp2;go_roundw
      case rel=>exact⟨i+1,Aa,by go_num,P,ab⟩
      case measure=>simp[intOf];omega
   ·obtain rfl:i=nl m:=Aa
    rw[x9]at Z;go_wp2_with fail
    refine(gC _ (nl m+nl n) (nl m+nl n) (m*n) _ Aa (AK _) Z.rw').mono ?_;rintro e w1 ⟨rfl,Y⟩;obtain⟨ac,a0⟩:=K.after Y;go_wp2;exact A6 (eI rfl _ _ (w.heap.size+1+1) _ rfl (Ec _ _ _ ac)) rfl (K.fin Z Y)
def co(N d k:Nat):Nat:=4294967296^k*(N / 4294967296^k / d)
theorem rU(A x d:Nat)(C:0<d):(4294967296*A+x) / d=4294967296*(A / d)+(4294967296*(A % d)+x) / d/\(4294967296*A+x) % d=(4294967296*(A % d)+x) % d:=by
 have h:=Ce A d;have e:4294967296*A+x=d*(4294967296*(A / d))+(4294967296*(A % d)+x):=by
  have h2:4294967296*A=4294967296*(d*(A / d)+A % d):=by rw[h]
  rw[h2]
  grind
 rw[e];exact⟨EE C _ _,Nat.mul_add_mod _ _ _⟩
theorem mh(N d k:Nat)(C:0<d):
  upd (co N d (k+1)) k ((N / 4294967296^(k+1) % d*4294967296+D N k) / d)=co N d k/\
  (N / 4294967296^(k+1) % d*4294967296+D N k) % d=N / 4294967296^k % d/\(N / 4294967296^(k+1) % d*4294967296+D N k) / d<4294967296:=by
 have h1:=rU (N / 4294967296^(k+1)) (D N k) d C;rw[<-cJ N k]at h1;rw[Cn (N / 4294967296^(k+1) % d) 4294967296];have G:(4294967296*(N / 4294967296^(k+1) % d)+D N k) / d<4294967296:=by
  rw[Cm C];have:=Bs (N / 4294967296^(k+1)) C;have:=ci N k;omega
 refine⟨?_,h1.2.symm,G⟩;have h2:=eH (co N d (k+1)) k ((4294967296*(N / 4294967296^(k+1) % d)+D N k) / d);have h3:D (co N d (k+1)) k=0:=by
  unfold co D;rw[BL,Dk,Nat.mul_div_cancel_left _ (cH k),Nat.mul_mod_right]
 rw[h3,CR,CM]at h2;rw[h2];unfold co;rw[h1.1,BL]
 grind
def RetShort(W:World)(L N d:Nat)(e:BH)(w':World):Prop:=
 ∃g,e= .returned (.tuple #[.slice (some ⟨g,0,none⟩) L L,.int .u32 ((N % d:Nat):Int)])/\W.heap.size<=g/\aU w' g L (N / d)/\AG W.heap.size W w'
theorem c_short(a:Option A2)(L cap N d:Nat)(w:World)(V:Rw w a L N)(hL:L<=1000000000000)(hd:0<d)(aa:d<4294967296):
  AH AE 190 #[.slice a L cap,.int .u32 (d:Int)] w λe w'=>RetShort w L N d e w':=by
 go_enter Tryz.func190,Tryz.ntmps190
 go_upto_region 1 with(fail)
 go_cut [6] (λs5 wx=>∃g,s5= .slice (some ⟨g,0,none⟩) L L/\aU wx g L 0/\AG w.heap.size w wx/\w.heap.size<=g/\g<wx.heap.size)
 case first=>
  have C:=aU.made w L;go_wp2_with (at_make;refine bG rfl _ _ rfl _ _ _ _ L rfl rfl Aa Aa Aa ?_)
  go_meet;case rel=>exact⟨_,rfl,C,(AL _ _).alloc (AK _) _,AK _,Ag⟩
 case rest=>
  obtain⟨g,rfl,C,H,I,ac⟩:=hcut;go_wp2_with fail
  go_loopw [7,8] (λs7 s8 wr=>∃k:Nat,k<=L/\s8= .int .i64 ((k:Int) - 1)/\s7= .int .u32 ((N / 4294967296^k % d:Nat):Int)/\aU wr g L (co N d k)/\AG g wc wr)
   (λ_ i _=>(intOf i+1).toNat)
  case atStart=>exact⟨L,AK _,rfl,by rw[Cw V.lt];simp,by unfold co;rw[Cw V.lt];simpa using C,AL _ _⟩
  case round=>
   obtain⟨k,hk,rfl,rfl,J,G⟩:=hrel
   cases k with
   | zero=>
    have Z:N / 4294967296^0 % d=N % d:=Ag
    have e1:co N d 0=N / d:=by simp[co]
    rw[e1]at J;rw[Z];clear Z e1;go_wp2;go_ret2
    exact⟨g,rfl,I,J,H.trans (G.mono I)⟩
   | succ k=>
    have Y:=V.mono (H.trans (G.mono I));obtain⟨b1,o1,rfl,h1⟩:=Y.cells Aa;have c1:=h1 k Aa;have c3:=J.cell (p:=k) Aa;have f3:=J.frozen k;have ab:=ci N k;have ad:=Bs (N / 4294967296^(k+1)) hd;have U:=mh N d k hd;have P:=J.store (p:=k) Aa U.2.2;rw[U.1]at P;have HM:=AF U.2.1;clear U;have e:(((k+1:Nat):Int) - 1)=(k:Int):=Aa
    simp only[e];clear e;generalize N / 4294967296^(k+1) % d=r at *;go_wp2_with fail
    refine(c_div32 _ _ _ _ Aa Aa Aa Aa Aa).mono ?_;rintro e w1 ⟨rfl,q,rfl⟩;rw[show((r:Int)*4294967296+((D N k:Nat):Int)) / (d:Int)=(((r*4294967296+D N k) / d:Nat):Int)from Ag,show((r:Int)*4294967296+((D N k:Nat):Int)) % (d:Int)=((N / 4294967296^k % d:Nat):Int)from by rw[<-HM.out];simp];generalize (r*4294967296+D N k) / d=t at *;generalize K:N / 4294967296^k % d=r' at *;have HR:=AF K;clear K;go_wp2;go_roundw
    case rel=>exact⟨k,Aa,rfl,by rw[HR.out],P,by first | exact(aF G q).setCell (p:=⟨g,k,none⟩) (AK _) _ | exact aF (G.setCell (p:=⟨g,k,none⟩) (AK _) _) q⟩
    case measure=>simp[intOf]
variable{t:Nat}
theorem rV(C:k<64)(h1:2^k<=t)(h2:t<2^(k+1)):Lib.bitLen t=k+1:=by
 have:=Lib.bitLen_shift k t h1 (Bt h2 (Nat.pow_le_pow_right th Aa));have e:t / 2^k=1:=by
  apply Nat.div_eq_of_lt_le
  ·omega
  ·rw[BL]at h2;omega
 rw[this,e];rfl
def d9(N:Nat):Nat:=if N=0 then 0 else N.log2+1
theorem vl(h:N≠0):d9 N=32*(nl N - 1)+Lib.bitLen (D N (nl N - 1)):=by
 have h1:=dM h;have h2:=rR h;have h3:=dZ N;obtain⟨k,H⟩:∃k,nl N=k+1:=⟨nl N - 1,Aa⟩;rw[H]at h2 h3⊢;simp only[DK]at h2⊢;have C:D N k=N / 4294967296^k:=by
  unfold D;rw[Cl];rw[Cm (cH k),<-ED];exact h3
 have ht:D N k≠0:=by rw[C];have:=Nat.div_pos h2 (cH k);omega
 have hb:=rV (t:=D N k) (k:=(D N k).log2) (by have:=ci N k;have:(D N k).log2<64:=(D6 ht).2 Aa;exact this) (Nat.log2_self_le ht) E6;rw[hb];unfold d9;rw[if_neg h];have h4:N.log2=32*k+(D N k).log2:=by
  have G:=Nat.log2_self_le ht;have I:D N k<2^((D N k).log2+1):=E6;have J:2^(32*k+(D N k).log2)<=N:=by
   rw[BY,<-aaj];rw[C]at G
   calc 4294967296^k*2^(D N k).log2<=4294967296^k*(N / 4294967296^k):=CY _ (by rw[C];exact G)
    _<=N:=Nat.mul_div_le _ _
  have K:N<2^(32*k+(D N k).log2+1):=by
   rw[CX,BY,<-aaj,Cn];rw[<-Cm (cH k),<-C];exact I
  have P:=(Nat.le_log2 h).2 J;have U:=(D6 h).2 K;omega
 omega
def dI(N s k:Nat):Nat:=N % 4294967296^k*2^s
theorem shAt_lt(N s k:Nat)(hs:s<32):dI N s k<4294967296^(k+1):=by
 unfold dI;rw[BL];exact Nat.mul_lt_mul'' (Bs _ (cH k)) (Bt (Nat.pow_lt_pow_right th hs) th)
theorem abm(N s k:Nat):dI N s (k+1)=dI N s k+4294967296^k*(D N k*2^s):=by
 unfold dI;rw[cI];grind
theorem vn(N s k:Nat):D (dI N s k) k<2^s:=by
 have h:dI N s k / 4294967296^k<2^s:=by
  rw[Cm (cH k),Cn];unfold dI;exact Nat.mul_lt_mul_of_pos_right (Bs _ (cH k)) (D5 th)
 exact D7 (Nat.mod_le _ _) h
theorem abn(N s k:Nat)(hs:s<32):
  upd (upd (dI N s k) k (D (dI N s k) k+(D N k*2^s) % 4294967296)) (k+1) (D N k*2^s / 4294967296)=dI N s (k+1)/\
  D (dI N s k) k+(D N k*2^s) % 4294967296<4294967296/\D N k*2^s / 4294967296<4294967296:=by
 have hp:2^s ∣ 4294967296:=by
  have:(4294967296:Nat)=2^s*2^(32 - s):=by rw[<-BY,show s+(32 - s)=32 by omega]
  rw[this];exact Nat.dvd_mul_right _ _
 have h1:D (dI N s k) k+(D N k*2^s) % 4294967296<4294967296:=by
  have ht:=vn N s k;have J:2^s ∣(D N k*2^s) % 4294967296:=(Nat.dvd_mod_iff hp).2 (Nat.dvd_mul_left _ _);have C:(D N k*2^s) % 4294967296<4294967296:=Bs _ th;obtain⟨c,hc⟩:=J;obtain⟨e,K⟩:=hp;rw[hc]at C⊢;rw[K]at C⊢;have G:c<e:=Nat.lt_of_mul_lt_mul_left C;have:2^s*(c+1)<=2^s*e:=CY _ G;rw[Cr]at this;omega
 have h2:D N k*2^s / 4294967296<4294967296:=by
  rw[Cm th];exact Nat.mul_lt_mul'' (ci N k) (Bt (Nat.pow_lt_pow_right th hs) th)
 refine⟨?_,h1,h2⟩;have U:=eH (dI N s k) k (D (dI N s k) k+(D N k*2^s) % 4294967296);have H:=eH (upd (dI N s k) k (D (dI N s k) k+(D N k*2^s) % 4294967296)) (k+1) (D N k*2^s / 4294967296);have I:D (upd (dI N s k) k (D (dI N s k) k+(D N k*2^s) % 4294967296)) (k+1)=0:=by
  rw[i6 _ _ _ _ h1 Aa];exact o3 (shAt_lt N s k hs)
 rw[I,CR,CM]at H;rw[H,abm];have V:=Ce (D N k*2^s) 4294967296;rw[BL];generalize upd (dI N s k) k (D (dI N s k) k+(D N k*2^s) % 4294967296)=u at *;generalize D N k*2^s=t at *;generalize t / 4294967296=q at *;generalize t % 4294967296=r at *;generalize dI N s k=z at *;generalize 4294967296^k=P at *
 grind
theorem sh_or(N s k:Nat)(hs:s<32)(h2:D (dI N s k) k+(D N k*2^s) % 4294967296<4294967296):
  bits BinOp.or CS ((D (dI N s k) k:Nat):Int) (((D N k*2^s) % 4294967296:Nat):Int)=((D (dI N s k) k+(D N k*2^s) % 4294967296:Nat):Int):=by
 have hp:2^s ∣ 4294967296:=by
  have:(4294967296:Nat)=2^s*2^(32 - s):=by rw[<-BY,show s+(32 - s)=32 by omega]
  rw[this];exact Nat.dvd_mul_right _ _
 have C:2^s ∣(D N k*2^s) % 4294967296:=(Nat.dvd_mod_iff hp).2 (Nat.dvd_mul_left _ _);rw[u32_or_nat _ _ (ci _ _) (Bs _ th),Nat.or_comm,nat_join s _ _ (Nat.mod_eq_zero_of_dvd C) (vn N s k),Nat.add_comm]
def RetRow(W:World)(L N:Nat)(e:BH)(w':World):Prop:=
 ∃g,e= .returned (.slice (some ⟨g,0,none⟩) L L)/\W.heap.size<=g/\aU w' g L N/\AG W.heap.size W w'
theorem rW(a:Option A2)(L cap N s:Nat)(w:World)(ra:Rw w a L N)(hL:L<=1000000000000)(hs:s<32):
  AH AE 243 #[.slice a L cap,.int .i64 (s:Int)] w λe w'=>RetRow w (L+1) (N*2^s) e w':=by
 go_enter Tryz.func243,Tryz.ntmps243
 go_upto_region 1 with(fail)
 go_cut [5] (λs5 wx=>∃g,s5= .slice (some ⟨g,0,none⟩) (L+1) (L+1)/\aU wx g (L+1) 0/\AG w.heap.size w wx/\w.heap.size<=g/\g<wx.heap.size)
 case first=>
  have C:=aU.made w (L+1);go_wp2_with (at_make;refine bG rfl _ _ rfl _ _ _ _ (L+1) rfl rfl Aa Aa Aa ?_)
  go_meet;case rel=>exact⟨_,rfl,C,(AL _ _).alloc (AK _) _,AK _,Ag⟩
 case rest=>
  obtain⟨g,rfl,C,G,K,am⟩:=hcut;go_wp2_with fail
  go_loopw [15] (λak wr=>∃k:Nat,k<=L/\ak= .int .i64 k/\aU wr g (L+1) (dI N s k)/\AG g wc wr)
   (λi _=>L - (intOf i).toNat)
  case atStart=>exact⟨0,Bc _,rfl,by unfold dI;simpa [Cx]using C,AL _ _⟩
  case round=>
   obtain⟨k,hk,rfl,I,H⟩:=hrel;by_cases hlt:k<L
   ·have ad:=ra.mono (G.trans (H.mono K));obtain⟨b1,o1,rfl,h1⟩:=ad.cells Aa;have c1:=h1 k hlt;have c3:=I.cell (p:=k) Aa;have c4:=I.cell (p:=k+1) Aa;have f3:=I.frozen k;have f4:=I.frozen (k+1);have ac:=ci N k;obtain⟨HS,P,aa⟩:=abn N s k hs;have U:=sh_or N s k hs P;have ht:D N k*2^s<4294967296*4294967296:=Nat.mul_lt_mul'' ac (Bt (Nat.pow_lt_pow_right th hs) th);have J:=((I.store (p:=k) Aa P).store (p:=k+1) Aa aa);rw[HS]at J;clear HS;have Y:=AF J;have V:=AF U;have ab:=(H.setCell (p:=⟨g,k,none⟩) (AK _) (.int .u32 ((D (dI N s k) k+(D N k*2^s) % 4294967296:Nat):Int))).setCell (p:=⟨g,k+1,none⟩) (AK _) (.int .u32 ((D N k*2^s / 4294967296:Nat):Int));clear J U;go_wp2;have Z:BD.wrap (((D N k:Nat):Int)*2^s)=((D N k*2^s:Nat):Int):=by
     have:(((D N k:Nat):Int)*2^s)=((D N k*2^s:Nat):Int):=Ag
     rw[this];rw[IntKind.wrap_u64];omega
    have e2:((D N k*2^s:Nat):Int) % 4294967296=(((D N k*2^s) % 4294967296:Nat):Int):=Aa
    have e3:((D N k*2^s:Nat):Int) / 4294967296 % 4294967296=((D N k*2^s / 4294967296:Nat):Int):=Aa
    rw[Z,e3,e2,V.out];go_roundw
    case rel=>exact⟨k+1,Aa,by go_num,Y.out,ab⟩
    case measure=>simp[intOf];omega
   ·obtain rfl:k=L:=Aa
    have Z:dI N s k=N*2^s:=by unfold dI;rw[Cl ra.lt]
    rw[Z]at I;clear Z;go_wp2;go_ret;exact⟨g,rfl,K,I,G.trans (H.mono K)⟩
def gd(B T V2:Nat):Nat:=min (B - 1) (T / V2)
variable{top next first second:Nat}
theorem abo{last:Nat}(hB:0<B)(hv:0<first)(G:q*first+r=top*B+next)(H:gd B ((top*B+next)*B+last) (first*B+second)<=q)
  (hc:B<=q\/r*B+last<q*second):gd B ((top*B+next)*B+last) (first*B+second)+1<=q:=by
 have C:0<first*B+second:=by have:=Ed hv hB;omega
 rcases hc with hc | hc
 ·unfold gd at *;omega
 ·have h:((top*B+next)*B+last) / (first*B+second)<q:=by
   rw[Cm C,<-G];generalize top*B+next=t at *;clear H;have:(q*first+r)*B+last=q*(first*B)+(r*B+last):=Aw
   rw[this,Cr];omega
  unfold gd;omega
theorem rX{last:Nat}(hB:0<B)(hv:0<first)(G:q*first+r=top*B+next)(H:gd B ((top*B+next)*B+last) (first*B+second)<=q)
  (h1:q<B)(h2:q*second<=r*B+last):gd B ((top*B+next)*B+last) (first*B+second)=q:=by
 have C:0<first*B+second:=by have:=Ed hv hB;omega
 have h:q<=((top*B+next)*B+last) / (first*B+second):=by
  rw[DL C,<-G];have:(q*first+r)*B+last=q*(first*B)+(r*B+last):=Aw
  rw[this,Cr];omega
 unfold gd at *;omega
theorem vv{last:Nat}(hB:0<B)(hv:0<first)(G:q*first+r=top*B+next)(H:gd B ((top*B+next)*B+last) (first*B+second)<=q)
  (h1:top<=first)(h2:next<B)(h3:second<B)(hr:B<=r):gd B ((top*B+next)*B+last) (first*B+second)=q:=by
 have h5:top*B<=first*B:=C9 _ h1
 have C:q<B:=by
  rcases Bl q B with h | h
  ·exact h
  ·have h6:=C9 first h
   rw[Cn B first]at h6;omega
 refine rX hB hv G H C ?_;have h4:q*second<=B*B:=Nat.mul_le_mul Aa Aa;have h6:B*B<=r*B:=C9 _ hr;omega
theorem vw{last:Nat}(hB:0<B)(hv:0<first)(h3:last<B):gd B ((top*B+next)*B+last) (first*B+second)<=(top*B+next) / first:=by
 have C:0<first*B+second:=by have:=Ed hv hB;omega
 have h5:((top*B+next)*B+last) / (first*B+second)<(top*B+next) / first+1:=by
  rw[Cm C];have h1:=Ce (top*B+next) first
  have h2:=Bs (top*B+next) hv;generalize (top*B+next) / first=q at *
  generalize (top*B+next) % first=r at *
  generalize top*B+next=t at *;have e:(q+1)*(first*B+second)=t*B+(first - r)*B+(q+1)*second:=by
   obtain⟨z,rfl⟩:∃z,first=r+z:=⟨first - r,Aa⟩
   rw[<-h1,Nat.add_sub_cancel_left]
   grind
  rw[e];have h6:1*B<=(first - r)*B:=C9 _ Aa;omega
 unfold gd;omega
theorem lt_cast{l s:Nat}(h:(r:Int)*4294967296+(l:Int)<(q:Int)*(s:Int)):r*4294967296+l<q*s:=by
 have e:((r*4294967296+l:Nat):Int)<((q*s:Nat):Int):=by simpa using h
 exact Int.ofNat_lt.1 e
theorem nlt_cast{l s:Nat}(h:¬(r:Int)*4294967296+(l:Int)<(q:Int)*(s:Int)):q*s<=r*4294967296+l:=
 Nat.le_of_not_lt λC=>h (by
  have e:((r*4294967296+l:Nat):Int)<((q*s:Nat):Int):=Int.ofNat_lt.2 C;simpa using e)
set_option maxRecDepth 20000 in
theorem c_guess(top next last first second:Nat)(w:World)(h1:top<=first)(h2:next<4294967296)(h3:last<4294967296)(h4:first<4294967296)(h5:second<4294967296)(h6:0<first):
  AH AE 245 #[.int .u32 (top:Int),.int .u32 (next:Int),.int .u32 (last:Int),.int .u32 (first:Int),.int .u32 (second:Int)] w λe w'=>
   e= .returned (.int .u64 ((gd 4294967296 ((top*4294967296+next)*4294967296+last) (first*4294967296+second):Nat):Int))/\∃q,w'=w.drewN q:=by
 have ar:=or32 top next Aa Aa Aa Aa;have hv:((first:Int) !=0)=true:=by rw[bne_iff_ne];omega
 have am:=Ce (top*4294967296+next) first
 have hr:=Bs (top*4294967296+next) h6;have hs:=vw (B:=4294967296) (next:=next) (second:=second) (top:=top) th h6 h3;have ao:top*4294967296+next<18446744073709551616:=Aa
 have an:(top*4294967296+next) / first<18446744073709551616:=D7 (Nat.div_le_self _ _) ao
 have HD:=AF am;clear am;have K:((top:Int)*4294967296+next) / (first:Int)=(((top*4294967296+next) / first:Nat):Int):=Ag
 have P:((top:Int)*4294967296+next) % (first:Int)=(((top*4294967296+next) % first:Nat):Int):=Ag
 have b1:0<=((top:Int)*4294967296+next) / (first:Int):=by rw[K];omega
 have b2:((top:Int)*4294967296+next) / (first:Int)<18446744073709551616:=by rw[K];omega
 have b3:0<=((top:Int)*4294967296+next) % (first:Int):=by rw[P];omega
 have b4:((top:Int)*4294967296+next) % (first:Int)<18446744073709551616:=by rw[P];omega
 have E1:=AF K;have E2:=AF P;clear K P;go_enter Tryz.func245,Tryz.ntmps245
 go_wp2_with fail
 go_quiet (fail)
 go_wp2_with fail
 rw[E1.out,E2.out];clear b1 b2 b3 b4 ar;generalize (top*4294967296+next) / first=q0 at *
 generalize (top*4294967296+next) % first=r0 at *
 have ad:=λ(q r:Nat)(H:q*first+r=top*4294967296+next)=>abo (B:=4294967296) (last:=last) (second:=second) (q:=q) (r:=r) th h6 H
 have ab:=λ(q r:Nat)(H:q*first+r=top*4294967296+next)=>rX (B:=4294967296) (last:=last) (second:=second) (q:=q) (r:=r) th h6 H
 have aa:=λ(q r:Nat)(H:q*first+r=top*4294967296+next)(hq)=>vv (B:=4294967296) (last:=last) (second:=second) (q:=q) (r:=r) th h6 H hq h1 h2 h5
 generalize ap:gd 4294967296 ((top*4294967296+next)*4294967296+last) (first*4294967296+second)=tq at *;have I:=AF ap;clear ap;have V:=AF ad;have ac:=AF ab;have U:=AF aa;clear ad ab aa;go_loopw [12,13] (λau av wr=>∃q r:Nat,au= .int .u64 (q:Int)/\av= .int .u64 (r:Int)/\(q:Int)<18446744073709551616/\(r:Int)<4294967296/\Hid (q*first+r=top*4294967296+next)/\tq<=q/\wr=w.drewN nq) (λi _ _=>(intOf i).toNat)
 case atStart=>exact⟨q0,r0,rfl,rfl,Aa,Aa,AF (by rw[Cn];exact HD.out),hs,rfl⟩
 case round=>
  obtain⟨q,r,rfl,rfl,hq,a0,H,Y,rfl⟩:=hrel;clear hs hr an HD E1 E2;have ay:=or32 r last Aa Aa Aa Aa;by_cases hc1:4294967296<=(q:Int)
  ·have ak:=V.out q r H.out Y (.inl Aa);by_cases hb:4294967296<=(r:Int)+(first:Int)
   ·skip
    have C:(q - 1)*first+(r+first)=top*4294967296+next:=by
     rw[<-H.out];obtain⟨z,rfl⟩:∃z,q=z+1:=⟨q - 1,Aa⟩;rw[DK,CZ];omega
    have G:=AF C;clear C;have Z:=AF (U.out (q - 1) (r+first) G.out Aa Aa);go_upto_if 49 with(fail)
    go_wp2;go_ret;refine⟨?_,nq,rfl⟩;rw[I.out,Z.out];refine congrArg A4 (congrArg (AW BD) ?_);omega
   ·skip
    have C:(q - 1)*first+(r+first)=top*4294967296+next:=by
     rw[<-H.out];obtain⟨z,rfl⟩:∃z,q=z+1:=⟨q - 1,Aa⟩;rw[DK,CZ];omega
    have G:=AF C;clear C;have aq:(r:Int)+(first:Int)<4294967296:=Aa
    go_upto_if 49 with(fail)
    go_wp2;go_roundw
    case rel=>exact⟨q - 1,r+first,by rw[show((q:Int) - 1)=((q - 1:Nat):Int)from Aa],by go_num,Aa,Aa,G,Aa,by first | rfl | trivial⟩
    case measure=>simp[intOf];omega
  ·obtain⟨a1,a2⟩:=mul_bd q second Aa h5;have ax:(q:Int)<4294967296:=Aa
   by_cases hc2:(r:Int)*4294967296+(last:Int)<(q:Int)*(second:Int)
   ·have J:=lt_cast hc2;have ak:=V.out q r H.out Y (Or.inr J);clear J;by_cases hb:4294967296<=(r:Int)+(first:Int)
    ·skip
     have C:(q - 1)*first+(r+first)=top*4294967296+next:=by
      rw[<-H.out];obtain⟨z,rfl⟩:∃z,q=z+1:=⟨q - 1,Aa⟩;rw[DK,CZ];omega
     have G:=AF C;clear C;have Z:=AF (U.out (q - 1) (r+first) G.out Aa Aa);go_upto_if 49 with(fail)
     go_wp2;go_ret;refine⟨?_,nq,rfl⟩;rw[I.out,Z.out];refine congrArg A4 (congrArg (AW BD) ?_);omega
    ·skip
     have C:(q - 1)*first+(r+first)=top*4294967296+next:=by
      rw[<-H.out];obtain⟨z,rfl⟩:∃z,q=z+1:=⟨q - 1,Aa⟩;rw[DK,CZ];omega
     have G:=AF C;clear C;have aq:(r:Int)+(first:Int)<4294967296:=Aa
     go_upto_if 49 with(fail)
     go_wp2;go_roundw
     case rel=>exact⟨q - 1,r+first,by rw[show((q:Int) - 1)=((q - 1:Nat):Int)from Aa],by go_num,Aa,Aa,G,Aa,by first | rfl | trivial⟩
     case measure=>simp[intOf];omega
   ·have J:=nlt_cast hc2;have Z:=AF (ac.out q r H.out Y Aa J);clear J;go_wp2;go_ret;refine⟨?_,nq,rfl⟩;rw[I.out,Z.out];rfl
theorem red_step(C U G q H x b c I c' A R Q J e d:Nat)(K:Q=A*R)(h0:C+A*(q*H)=U+(b+c)*Q)(ht:q*x+c=J+4294967296*c')(hs:e+J+b=d+4294967296*I)(P:G+Q*d=C+Q*e):
  G+A*(q*(H+R*x))=U+(I+c')*(Q*4294967296):=Aw
theorem red_top(C U G I b c H A R Q e d:Nat)(J:Q=A*R)(h0:C+A*I=U+(b+c)*Q)(hs:e+c+b=d+4294967296*H)(K:G+Q*d=C+Q*e):
  G+A*I=U+H*(Q*4294967296):=Aw
theorem red_back(C U G H x c c' A R Q e d:Nat)(I:Q=A*R)(h0:C+c*Q=U+A*H)(hs:d+x+c=e+4294967296*c')(J:G+Q*d=C+Q*e):
  G+c'*(Q*4294967296)=U+A*(H+R*x):=Aw
theorem vB(C U G V c k A R Q e d:Nat)(H:Q=A*R)(h0:C+c*Q=U+A*V)(hs:d+c=e+4294967296*k)(I:G+Q*d=C+Q*e):
  G+k*(Q*4294967296)=U+A*V:=Aw
variable{U A V:Nat}
theorem red_yes(G:0<A)(H:0<V)(h:C+A*(q*V)=U)(I:U / A / V<=q):q=U / A / V/\C=U - A*(U / A / V*V):=by
 have h1:q*V<=U / A:=by rw[DL G,Cn];omega
 have h2:q<=U / A / V:=by rw[DL H];exact h1
 have h3:q=U / A / V:=Aa
 exact⟨h3,by rw[<-h3];omega⟩
theorem red_no{M:Nat}(G:0<A)(H:0<V)(h:C+A*(q*V)=U+M)(J:C<M)(K:U / A / V<=q)(I:q<=U / A / V+1):q=U / A / V+1:=by
 have h0:U<A*(q*V):=Aa
 have h1:U / A / V<q:=by
  rw[Cm H,Cm G,Cn];exact h0
 omega
theorem red_fin{G M:Nat}(K:0<A)(P:0<V)(h:G+A*((q+1)*V)=U+M)(H:q=U / A / V)(hb:C+k*M=G+A*V)(I:C<M)(J:k<=1):C=U - A*(U / A / V*V):=by
 rw[<-H];have h1:q*V<=U / A:=by rw[H];exact Nat.div_mul_le_self _ _
 have h2:A*(q*V)<=U:=by
  have:=CY A h1;have:=Nat.mul_div_le U A;omega
 have h3:A*((q+1)*V)=A*(q*V)+A*V:=Aw
 rw[h3]at h;rcases Nat.le_one_iff_eq_zero_or_eq_one.1 J with rfl | rfl
 ·simp only[Nat.zero_mul,CM]at hb;omega
 ·simp only[Nat.one_mul]at hb;omega
theorem aao(w:World)(row:Option Nat):w.grownBy w row:=⟨rfl,rfl,rfl,AK _,λ_ _ _=>rfl⟩
theorem iz{wr:World}{p:Nat}(h:w.grownBy wr (some g))(v:Value):w.grownBy (wr.setCell ⟨g,p,none⟩ v) (some g):=
 ⟨h.os,h.tape,h.output,by simpa using h.size,λk G C=>(CD _ _ _ _ (λe=>C (by rw[e]))).trans (h.block k G C)⟩
variable{row:Option Nat}
theorem Dig.kept(h:Dig w b off L N)(G:w.grownBy w' row)(C:some b≠row):Dig w' b off L N:=
 λj H=>G.cell (h j H) C
def vC(x y c:Nat):Nat:=(x+8589934592 - y - c) % 4294967296
def vD(x y c:Nat):Nat:=if x<y+c then 1 else 0
theorem vE{x y c:Nat}(C:x<4294967296)(hy:y<4294967296)(hc:c<=1):vC x y c+y+c=x+4294967296*vD x y c/\vC x y c<4294967296/\vD x y c<=1:=by
 unfold vC vD;split<;>omega
theorem vG(x y c:Nat)(w:World)(H:x<4294967296)(hy:y<4294967296)(hc:c<=1):
  AH AE 203 #[.int .u32 (x:Int),.int .u32 (y:Int),.int .u32 (c:Int)] w λe w'=>
   e= .returned (.tuple #[.int .u32 ((vC x y c:Nat):Int),.int .u32 ((vD x y c:Nat):Int)])/\w=w':=by
 refine(tG _ _ _ _ Aa Aa Aa Aa Aa Aa).mono ?_;rintro e w' ⟨rfl,rfl⟩;have C:((x:Int) - y - c) % 4294967296=((vC x y c:Nat):Int):=by unfold vC;omega
 have G:borrow (x:Int) (y:Int) (c:Int)=((vD x y c:Nat):Int):=by unfold vD borrow;split<;>split<;>omega
 rw[C,G];exact Aj
theorem c_add32n(x y c:Nat)(w:World)(C:x<4294967296)(hy:y<4294967296)(hc:c<=1):
  AH AE 201 #[.int .u32 (x:Int),.int .u32 (y:Int),.int .u32 (c:Int)] w λe w'=>
   e= .returned (.tuple #[.int .u32 (((x+y+c) % 4294967296:Nat):Int),.int .u32 (((x+y+c) / 4294967296:Nat):Int)])/\w=w':=by
 refine(tE _ _ _ _ Aa Aa Aa Aa Aa Aa).mono ?_;rintro e w' ⟨rfl,rfl⟩;exact⟨Ag,rfl⟩
def RetRed(W:World)(gu Lu U A V:Nat)(e:BH)(w':World):Prop:=
 e= .returned (.int .u32 ((U / A / V:Nat):Int))/\aU w' gu Lu (U - A*(U / A / V*V))/\W.grownBy w' (some gu)
set_option maxHeartbeats 1000000 in
theorem c_reduce(gu Lu cu gv cv n at' U V q:Nat)(w:World)(hu:aU w gu Lu U)(hv:Dig w gv 0 n V)(a5:V<4294967296^n)(a7:gv≠gu)(hL:at'+n<Lu)(cx:Lu<=60000000000000)(hq:q<4294967296)
  (aq:0<V)(a4:U<4294967296^(at'+n+1))(hq1:U / 4294967296^at' / V<=q)(a9:q<=U / 4294967296^at' / V+1):
  AH AE 244 #[.slice (some ⟨gu,0,none⟩) Lu cu,.slice (some ⟨gv,0,none⟩) n cv,.int .i64 (at':Int),.int .u64 (q:Int)] w λe w'=>RetRed w gu Lu U (4294967296^at') V e w':=by
 have a1:=AF hq1;have bi:=AF a9;have bp:=AF a4;have a3:=AF a5;clear hq1 a9 a4 a5;go_enter Tryz.func244,Tryz.ntmps244
 go_wp2_with fail
 go_loopw [9,10,19] (λs9 cc cl wr=>∃i I c b:Nat,i<=n/\cl= .int .i64 i/\s9= .int .u64 (c:Int)/\cc= .int .u32 (b:Int)/\c<4294967296/\b<=1/\aU wr gu Lu I/\w.grownBy wr (some gu)/\
   Hid (I<4294967296^(at'+n+1)/\I+4294967296^at'*(q*(V % 4294967296^i))=U+(b+c)*4294967296^(at'+i)))
  (λ_ _ i _=>n - (intOf i).toNat)
 case atStart=>exact⟨0,U,0,0,Bc _,rfl,rfl,rfl,th,th,hu,aao _ _,AF ⟨bp.out,by simp[Cx]⟩⟩
 case round=>
  obtain⟨i,I,c,b,hi,rfl,rfl,rfl,hc,hb,ho,ab,P⟩:=hrel;by_cases hlt:i<n
  ·have ay:=hv.kept ab (by simpa using a7);have c1:=ay i hlt;have c2:=ho.cell (p:=at'+i) Aa;have f2:=ho.frozen (at'+i);have b5:=ci V i;have Y:=ci I (at'+i);obtain⟨cz,cb⟩:=mul_bd q (D V i) hq b5;simp only[Bh]at c1;go_wp2_with fail
   have bb:(q*D V i+c) % 4294967296<4294967296:=Bs _ th;have b9:(q*D V i+c) / 4294967296<4294967296:=by rw[Cm th];have e:((q*D V i:Nat):Int)<=18446744065119617025:=(by simpa using cb);omega
   have b3:=AF (Nat.mod_add_div (q*D V i+c) 4294967296);rw[show((q:Int)*((D V i:Nat):Int)+(c:Int)) % 4294967296=(((q*D V i+c) % 4294967296:Nat):Int)from Ag,show((q:Int)*((D V i:Nat):Int)+(c:Int)) / 4294967296=(((q*D V i+c) / 4294967296:Nat):Int)from Ag];generalize (q*D V i+c) % 4294967296=tl at *;generalize (q*D V i+c) / 4294967296=c' at *;refine(vG _ _ _ _ Y bb hb).mono ?_;rintro e w1 ⟨rfl,rfl⟩;obtain⟨s1,s2,s3⟩:=vE Y bb hb;have ax:=AF s1;clear s1;generalize vC (D I (at'+i)) tl b=e at *;generalize vD (D I (at'+i)) tl b=b' at *;have J:=ho.store (p:=at'+i) Aa s2;go_wp2;go_roundw
   case rel=>exact⟨i+1,_,c',b',Aa,by go_num,rfl,rfl,b9,s3,J,iz ab _,AF ⟨lm P.out.1 Aa s2,by
     have h:=red_step I U _ q (V % 4294967296^i) (D V i) b c b' c' (4294967296^at') (4294967296^i) (4294967296^(at'+i)) tl e _ (BY _ _ _) P.out.2 b3.out.symm ax.out (eH I (at'+i) e);rw[<-BL,<-cI]at h;exact h⟩⟩
   case measure=>simp[intOf];omega
  ·obtain rfl:i=n:=Aa
   have c2:=ho.cell (p:=at'+i) Aa;have f2:=ho.frozen (at'+i);have Y:=ci I (at'+i);go_wp2_with fail
   refine(vG _ _ _ _ Y hc hb).mono ?_;rintro e w1 ⟨rfl,rfl⟩;obtain⟨s1,s2,s3⟩:=vE Y hc hb;have ax:=AF s1;clear s1;generalize vC (D I (at'+i)) c b=e at *;generalize vD (D I (at'+i)) c b=b' at *;have J:=ho.store (p:=at'+i) Aa s2;have an:=iz (p:=at'+i) ab (.int .u32 (e:Int));have ao:=lm P.out.1 (show at'+i<at'+i+1 by omega) s2;have aa:=red_top I U _ (q*V) b c b' (4294967296^at') (4294967296^i) (4294967296^(at'+i)) e _ (BY _ _ _) (by have:=P.out.2;rwa [Cl a3.out]at this) ax.out (eH I (at'+i) e);rw[show 4294967296^(at'+i)*4294967296=4294967296^(at'+i+1)from(BL ..).symm]at aa;have b6:=J.frozen (at'+i);have b2:=J.cell (p:=at'+i) Aa;generalize bt:upd I (at'+i) e=U1 at *;have ak:=AF aa;have ad:=AF ao;clear aa ao bt;by_cases hb0:b'=0
   ·have bz:(((b':Nat):Int)==0)=true:=by rw[beq_iff_eq];omega
    have HY:=AF (red_yes (cH at') aq (by have:=ak.out;rw[hb0]at this;simpa using this) a1.out);have cp:=AF hb0;clear hb0;go_wp2;go_ret;rw[HY.out.2]at J;refine⟨?_,J,an⟩;rw[<-HY.out.1];exact congrArg A4 (congrArg (AW CS) Aa)
   ·have bz:(((b':Nat):Int)==0)=false:=by rw[beq_eq_false_iff_ne];omega
    have be:=AF (show b'=1 by omega);clear hb0;go_wp2_with fail
    clear c2 f2 Y b6 b2 ab ho;generalize ca:wr.setCell ⟨gu,at'+i,none⟩ (.int .u32 (e:Int))=wo at *;clear ca
    go_loopw [14,77] (λcd cm wq=>∃j G c2:Nat,j<=i/\cm= .int .i64 j/\cd= .int .u32 (c2:Int)/\c2<=1/\aU wq gu Lu G/\w.grownBy wq (some gu)/\
      Hid (G<4294967296^(at'+i+1)/\G+c2*4294967296^(at'+j)=U1+4294967296^at'*(V % 4294967296^j)))
     (λ_ s _=>i - (intOf s).toNat)
    case atStart=>exact⟨0,U1,0,Bc _,rfl,rfl,th,J,an,AF ⟨ad.out,by rw[Dy,Cx,CR,Nat.zero_mul]⟩⟩
    case round=>
     obtain⟨j,G,c2,hj,rfl,rfl,b0,ac,au,K⟩:=hrel;have a6:=ci G (at'+j);have cq:=ac.cell (p:=at'+j) Aa;have cr:=ac.frozen (at'+j);by_cases hlt:j<i
     ·have ay:=hv.kept au (by simpa using a7);have bq:=ay j hlt;have b4:=ci V j;simp only[Bh]at bq;go_wp2_with fail
      refine(c_add32n _ _ _ _ a6 b4 b0).mono ?_;rintro e2 w2 ⟨rfl,rfl⟩;have b8:=AF (Nat.mod_add_div (D G (at'+j)+D V j+c2) 4294967296).symm;have Z:(D G (at'+j)+D V j+c2) % 4294967296<4294967296:=Bs _ th;have b1:(D G (at'+j)+D V j+c2) / 4294967296<=1:=Aa
      generalize (D G (at'+j)+D V j+c2) % 4294967296=e2 at *;generalize (D G (at'+j)+D V j+c2) / 4294967296=c3 at *;have H:=ac.store (p:=at'+j) Aa Z;go_wp2;go_roundw
      case rel=>exact⟨j+1,_,c3,Aa,by go_num,rfl,b1,H,iz au _,AF ⟨lm K.out.1 Aa Z,by
        have h:=red_back G U1 _ (V % 4294967296^j) (D V j) c2 c3 (4294967296^at') (4294967296^j) (4294967296^(at'+j)) e2 _ (BY _ _ _) K.out.2 b8.out (eH G (at'+j) e2);rw[<-BL,<-cI]at h;exact h⟩⟩
      case measure=>simp[intOf];omega
     ·obtain rfl:j=i:=Aa
      have hk:=AF (Nat.mod_add_div (D G (at'+j)+c2) 4294967296).symm;have Z:(D G (at'+j)+c2) % 4294967296<4294967296:=Bs _ th;have H:=ac.store (p:=at'+j) Aa Z;have ap:=lm K.out.1 (show at'+j<at'+j+1 by omega) Z;have ar:=vB G U1 _ V c2 ((D G (at'+j)+c2) / 4294967296) (4294967296^at') (4294967296^j) (4294967296^(at'+j)) ((D G (at'+j)+c2) % 4294967296) _ (BY _ _ _) (by have:=K.out.2;rwa [Cl a3.out]at this) hk.out (eH G (at'+j) _);rw[show 4294967296^(at'+j)*4294967296=4294967296^(at'+j+1)from(BL ..).symm]at ar;have C:=ak.out;rw[be.out,Nat.one_mul]at C;have av:=red_no (cH at') aq C ad.out a1.out bi.out;have am:=red_fin (cH at') aq (by rw[av]at C;exact C) rfl ar ap Aa;rw[am]at H;have a0:=AF av;have a2:=AF H;clear am av C ar ap H;have hq1:1<=q:=by rw[a0.out];exact Nat.le_add_left _ _
      have b7:=iz (p:=at'+j) au (.int .u32 (((D G (at'+j)+c2) % 4294967296:Nat):Int));go_wp2;go_ret;refine⟨?_,by simpa using a2.out,by simpa using b7⟩;refine congrArg A4 (congrArg (AW CS) ?_);have h:=a0.out;generalize U / 4294967296^at' / V=z at h⊢;omega
def iW(w:World)(base:Nat)(a:Option A2)(L N:Nat):Prop:=
 0<L->∃g,a=some ⟨g,0,none⟩/\base<=g/\Dig w g 0 L N/\∀j,j<L->w.frozen? ⟨g,j,none⟩=false
theorem iW.rw'(h:iW w base a L N)(G:N<4294967296^L):Rw w a L N:=
 ⟨G,λC=>by obtain⟨g,rfl,_,H,_⟩:=h C;exact⟨g,0,rfl,H⟩⟩
theorem iW.mono(h:iW w base a L N)(hb:AG w.heap.size w w'):iW w' base a L N:=λC=>by
 obtain⟨g,rfl,H,G,hf⟩:=h C;exact⟨g,rfl,H,G.mono hb (G.lt C),λj I=>(hb.frozen (p:=⟨g,j,none⟩) (G.lt C)).trans (hf j I)⟩
theorem iW.newN{cap:Nat}(h:iW w base a (nl N) N)(hc:nl N<=cap):aP base w (.agg #[.slice a (nl N) cap]) N:=
 ⟨a,cap,rfl,hc,λC=>by obtain⟨g,rfl,H,G,hf⟩:=h C;exact⟨g,0,rfl,H,G,λj I=>by rw[Bh];exact hf j I⟩⟩
theorem eL(h:w.grownBy w' row)(B:Nat)(hB:B<=w.heap.size)(hr:∀k,row=some k->B<=k):AG B w w':=(AL B w).grown h hB hr
theorem lp(w:World)(base:Nat)(t ty e:TypeId)(i:TypeInfo)(size:Nat)(ht:P.underlying t=some (.slice e))(hi:P.info? e=some i)
  (v:Value)(n:Nat)(xs:List Value)(C:w.ownsRow base e size v n xs)(cap:Nat):
  (Ca #[t,t] ty #[v,.slice none 0 cap]).run P w= .ok v w:=by
 rcases C.2 with⟨rfl,rfl⟩ | ⟨g,c,H,rfl,_,_,G,_⟩
 ·simp[Ca,run_underlying ht,sizeOf,typeInfo,hi,Builtin.lenOf,Ee]
 ·simp[Ca,run_underlying ht,sizeOf,typeInfo,hi,Builtin.lenOf,Ee,G,storeCells]
theorem fI{a:Act} 
  (hg:o.guard=none)(s x:AZ)(ab:o.op=Op.call {callee:=Callee.builtin Builtin.append,args:=#[s,x],argTypes:=#[29,29]})
  (base:Nat)(v:Value)(hs:a.eval s=v)(C:w.ownsRow base 237 1 v 0 [])(I:base<=w.heap.size)(ao:Option A2)(L cap N:Nat)(hx:a.eval x= .slice ao L cap)(hr:Rw w ao L N)(hL:L<=30000000000000)
  (hK:∀a' c' w',iW w' base a' L N->L<=c'->w.grownBy w' v.ownBlock->wpList AE ops Q rest (a.put o.dst (.slice a' L c')) w'):
  wpList AE ops Q (o::rest) a w:=by
 refine Ck hg λK V=> ?_
 obtain⟨i,hi,ap,aq,ar⟩:=info_parts o6;have fin:∀v' w',w'.ownsRow base 237 1 v' L ((BO L).map λj=>AW .u32 ((D N j:Nat):Int))->w.grownBy w' v.ownBlock->K (a.put o.dst v') w':=by
  intro v' w' ho Z;rcases ho.2 with⟨rfl,rfl⟩ | ⟨g,c,H,rfl,am,aa,an,au,av,U⟩
  ·exact V _ _ (hK none 0 w' (λh=>Aa) (AK _) Z)
  ·refine V _ _ (hK _ c w' (λh=>⟨g,rfl,am,λj hj=> ?_,λj hj=>Dh w' g j H _ aa⟩) an Z);rw[Bh,cell_of_row w' g j H _ (0,0) aa];have h1:(H.toList.take (L*1))[j]? =some (.int .u32 ((D N j:Nat):Int)):=by rw[U];simp[hj]
   rw[List.getElem?_take]at h1;split at h1
   ·simpa using h1
   ·cases h1
 cases ao with
 | none=>
  have ac:L=0:=by
   rcases Nat.eq_zero_or_pos L with h | h
   ·exact h
   ·obtain⟨b,off,h1,_⟩:=hr.cells h;cases h1
  subst ac;have G:=lp (P:=AE) w base 29 o.type 237 i 1 Eb hi v 0 [] C cap;unfold Bn;simp[execOp,ab,resolve,invoke,builtin,hs,hx,G,AX];exact fin v w At (aao _ _)
 | some ad=>
  have J:∀j u,((BO L).map λj=>AW .u32 ((D N j:Nat):Int))[j]? =some u->w.cell? (ad.add j)=some u:=by
   intro j u hu;have hj:j<L:=by
    have:=(A5.1 hu).1;simpa using this
   obtain⟨b,off,ak,hd⟩:=hr.cells Aa;cases ak;have Y:(⟨b,off,none⟩:A2).add j=⟨b,off+j,none⟩:=by unfold Addr.add;split<;>simp_all
   rw[Y,hd j hj];simpa [hj]using hu
  obtain⟨v',w',G,h1,h2,_⟩:=run_append_own (P:=AE) w base 29 o.type 237 i (.int .u32 0) 1 4 Eb hi ap aq ar rfl th v 0 [] C
   ad L cap ((BO L).map λj=>AW .u32 ((D N j:Nat):Int)) Ag J (by intro u hu;obtain⟨_,_,rfl⟩:=List.mem_map.1 hu;rfl) (by simp only[maxLen];omega) Aa I
  unfold Bn;simp[execOp,ab,resolve,invoke,builtin,hs,hx,G,AX];exact fin v' w' (by simpa using h1) h2
def Rd{α:Type}(s:Sem α):Prop:=∀P w x w',s.run P w= .ok x w'->w'=w
variable{α:Type}
theorem Rd.pure(a:α):Rd (Pure.pure a:Sem α):=λP w x w' h=>by
 simp only[BC]at h;cases h;rfl
theorem Rd.bind{β:Type}{s:Sem α}{f:α->Sem β}(hs:Rd s)(hf:∀a,Rd (f a)):Rd (s >>=f):=λP w x w' h=>by
 rw[AO]at h
 cases hr:s.run P w with
 | ok a w1=>
  rw[hr,Da]at h;have h1:=hs P w a w1 hr;have h2:=hf a P w1 x w' h;rw[h2,h1]
 | halt e w1=>rw[hr]at h;simp[AX]at h
theorem Rd.load(a:A2):Rd (Go.load a):=λP w x w' h=>by
 unfold Go.load at h;simp only[Sem.run]at h;split at h
 ·cases h;rfl
 ·split at h
  ·cases h;rfl
  ·cases h
theorem Rd.program:Rd Go.program:=λP w x w' h=>by
 simp[Go.program,Sem.run]at h;exact h.2.symm
theorem Rd.stuck(C:String):Rd (Go.stuck C:Sem α):=λP w x w' h=>by
 simp[Go.stuck,Sem.run]at h
theorem Rd.loadCellsFrom(a:A2):∀(n i:Nat)(C:Array Value),Rd (Go.loadCellsFrom a i n C)
 | 0,i,C=>Rd.pure _
 | n+1,i,C=>Rd.bind (Rd.load _) λv=>Rd.loadCellsFrom a n (i+1) (C.push v)
theorem Rd.typeInfo(t:TypeId):Rd (Go.typeInfo t):=Rd.bind Rd.program λp=>by
 cases p.info? t with
 | none=>exact Rd.stuck _
 | some i=>exact Rd.pure _
theorem Rd.underlying(t:TypeId):Rd (Go.underlying t):=Rd.bind Rd.program λp=>by
 cases p.underlying t with
 | none=>exact Rd.stuck _
 | some i=>exact Rd.pure _
theorem Rd.loadVar(t:TypeId)(a:A2):Rd (Go.loadVar t a):=by
 refine Rd.bind (Rd.bind (Rd.underlying t) λd=> ?_) λb=> ?_
 ·cases d<;>exact Rd.pure _
 ·cases b
  ·exact Rd.load _
  ·exact Rd.bind (Rd.bind (Rd.typeInfo t) λi=>Rd.pure _) λn=>Rd.bind (Rd.loadCellsFrom a n 0 #[]) λcs=>Rd.pure _
theorem Rd.loadAt(t:TypeId)(x:Value):Rd (CN t x):=by
 refine Rd.bind ?_ λa=>Rd.loadVar t a
 cases x with
 | pointer p=>
  cases p with
  | none=>exact Rd.stuck _
  | some a=>exact Rd.pure _
 | _=>exact Rd.stuck _
def fJ(o:Oper):Bool:=match o.op with | .load .. =>true | _=>false
theorem yf(H:fJ o=true){ρ:AZ->Value}{n:Next}(h:(execOp ρ o).run P w= .ok n w'):(∃v,n= .value v)/\w'=w:=by
 obtain⟨I,op,ty,pos,after,G⟩:=o;unfold fJ at H;cases op<;>first | cases H | skip
 rename_i t x;have C:((CN t (ρ x)) >>=λv=>(Pure.pure (Next.value v):Sem Next)).run P w= .ok n w':=h;refine⟨?_,Rd.bind (Rd.loadAt t (ρ x)) (λv=>Rd.pure _) P w n w' C⟩;rw[AO]at C
 cases hr:(CN t (ρ x)).run P w with
 | ok a w1=>rw[hr,Da,BC]at C;cases C;exact⟨a,rfl⟩
 | halt e w1=>rw[hr]at C;simp[AX]at C
section
variable {P:A0} {ops:Array Oper} {Q:Exit->Act->World->Prop} {md:Region.Mode}
def mi(P:A0)(ops:Array Oper)(o:Oper)(v:Value)(a:Act)(w:World):Prop:=
 Region.wanted o (yielded ops a.tmps)=true/\(execOp a.eval o).run P w= .ok (.value v) w
def vH(md:Region.Mode)(ops:Array Oper)(listed:Array Bool)(i t:Nat):Bool:=
 (BO ops.size).all λj=>match ops[j]? with
  | none=>true
  | some oj=>
   if t<=j then !listed.getD j true && oj.after.any (λe=>Region.binds md e && (e.on==i || decide (t<=e.on)))
   else j==i || listed.getD j true || (fJ oj && (match ops[i]? with | some oi=>oi.apart ops oj | none=>false))
theorem nC{J:Oper}(hi:ops[i]? =some J)(hit:i<t)(U:fJ J=true)(hQ:∀c a w,Q (.panic c) (a.put J.dst v) w->Q (.panic c) a w)
  (aq:∀j I,ops[j]? =some I->t<=j->∃e∈I.after,Region.binds md e=true/\(e.on=i\/t<=e.on)):
  ∀(fuel:Nat)(C:Array Bool)(a:Act)(w:World),C.size=ops.size->
   (∀j,t<=j->C.getD j false=false)->
   (∀j I,ops[j]? =some I->j<t->j≠i->C.getD j true=false->fJ I=true/\J.apart ops I=true)->
   i∈BV md ops C->mi P ops J v a w->
   wpAny P md ops Q fuel (C.setIfInBounds i true) (a.put J.dst v) w->wpAny P md ops Q (fuel+1) C a w:=by
 have a2:∀cs b,J.op≠ .select cs b:=λcs b h=>by unfold fJ at U;rw[h]at U;cases U
 have V:∀ {a:Act} {w:World} {K:Act->World->Prop},mi P ops J v a w->K (a.put J.dst v) w->wpOp P ops Q i K a w:=by
  intro a w K hy hK;unfold wpOp;simp only[hi,hy.1,if_true];exact .inl (by simp only[Bn,hy.2,Oper.upon];exact hK)
 have below:∀ {C:Array Bool},(∀j,t<=j->C.getD j false=false)->i∈BV md ops C->∀j,j∈BV md ops C->j<t:=by
  intro C G hr j hj;rcases Bl j t with h | h
  ·exact h
  ·obtain⟨_,I,ad,an⟩:=mem_ready.1 hj;obtain⟨e,he,hb,aa⟩:=aq j I ad h;have h1:=an e he hb;rcases aa with aa | aa
   ·have h0:=(mem_ready.1 hr).1;rw[aa]at h1;rcases Bl i C.size with h' | h'
    ·simp[h']at h0 h1;rw[h0]at h1;cases h1
    ·simp[E7 h']at h1
   ·rw[G _ aa]at h1;cases h1
 intro fuel
 induction fuel with
 | zero=>
  intro C a w _ G _ hr hy H;refine⟨λh=>(by rw[h]at hr;cases hr),λj hj=> ?_⟩;by_cases hji:j=i
  ·subst hji;exact V hy H
  ·have:=ready_mono hj hji;rw[H.1]at this
   cases this
 | succ fuel ih=>
  intro C a w ar G Z hr hy H;refine⟨λh=>(by rw[h]at hr;cases hr),λj hj=> ?_⟩;by_cases hji:j=i
  ·subst hji;exact V hy H
  ·have ay:=below G hr j hj;have h1:=H.2 j (ready_mono hj hji);obtain⟨ao,I,ad,an⟩:=mem_ready.1 hj;obtain⟨ac,ax⟩:=Z j I ad ay hji ao;have au:∀cs b,I.op≠ .select cs b:=λcs b h=>by unfold fJ at ac;rw[h]at ac;cases ac
   obtain⟨p1,p2,p3⟩:=Oper.apart_spec ax;have ak:(C.setIfInBounds j true).size=ops.size:=by simp[ar]
   have am:∀k,t<=k->(C.setIfInBounds j true).getD k false=false:=λk hk=>by rw[getD_set_ne false Aa];exact G k hk
   have ab:∀k ok,ops[k]? =some ok->k<t->k≠i->(C.setIfInBounds j true).getD k true=false->fJ ok=true/\J.apart ops ok=true:=λk ok hk a1 a0 av=>by
    refine Z k ok hk a1 a0 ?_;by_cases hjk:j=k
    ·subst hjk;exact ao
    ·rw[getD_set_ne true hjk]at av;exact av
   have keep:∀u,mi P ops J v (a.put I.dst u) w:=λu=>by
    refine⟨by rw[wanted_put J a I.dst u p3];exact hy.1,by rw[execOp_put J a2 a I.dst u p3];exact hy.2⟩
   have next:∀u,wpAny P md ops Q fuel ((C.setIfInBounds i true).setIfInBounds j true) ((a.put J.dst v).put I.dst u) w->wpAny P md ops Q (fuel+1) (C.setIfInBounds j true) (a.put I.dst u) w:=λu hK=>by
    refine ih _ _ _ ak am ab (ready_mono hr (Ne.symm hji)) (keep u) ?_;rw[Array.setIfInBounds_comm _ _ hji,<-Act.put_comm a v u p2];exact hK
   unfold wpOp at h1⊢;simp only[ad]at h1⊢;rw[wanted_put I a J.dst v p1]at h1;split
   ·rename_i hw;simp only[hw,if_true]at h1;rcases h1 with h1 | ⟨Y,ap⟩;case inr=>exact .inr ⟨by unfold Oper.asks at *;rw[execOp_put I au a J.dst v p1]at Y;exact Y,ap⟩
    refine .inl ?_;unfold Bn at *;rw[execOp_put I au a J.dst v p1]at h1
    cases hrun:(execOp a.eval I).run P w with
    | ok n w'=>
     rw[hrun]at h1;obtain⟨⟨u,rfl⟩,rfl⟩:=yf ac hrun;simp only[Oper.upon]at h1⊢;exact next u h1
    | halt x w'=>
     rw[hrun]at h1;cases x<;>simp only[Oper.upon]at h1⊢
     case panic u=>exact hQ _ _ _ h1
   ·rename_i hw;simp only[hw]at h1;exact next _ h1
theorem cT{U:Oper}{fuel:Nat}{C:Array Bool}{a:Act}(hi:ops[i]? =some U)(hit:i<t)(J:fJ U=true)
  (Z:C.size=ops.size)(hf:vH md ops C i t=true)(hr:(BV md ops C).contains i=true)
  (hQ:∀c a w,Q (.panic c) (a.put U.dst v) w->Q (.panic c) a w)(hy:mi P ops U v a w)
  (h:wpAny P md ops Q fuel (C.setIfInBounds i true) (a.put U.dst v) w):wpAny P md ops Q (fuel+1) C a w:=by
 have H:∀j I,ops[j]? =some I->(if t<=j then !C.getD j true && I.after.any (λe=>Region.binds md e && (e.on==i || decide (t<=e.on)))
   else j==i || C.getD j true || (fJ I && U.apart ops I))=true:=λj I G=>by
  have h1:=List.all_eq_true.1 hf j (List.mem_range.2 (A8.1 G).1);simp only[G,hi]at h1;exact h1
 refine nC hi hit J hQ (λj I G K=> ?_) fuel C a w Z (λj K=> ?_) (λj I G ac V aa=> ?_) (by simpa using hr) hy h
 ·have h1:=H j I G;rw[if_pos K,Bo]at h1;obtain⟨e,he,hb⟩:=Array.any_eq_true'.1 h1.2;simp only[Bo,DP,beq_iff_eq,decide_eq_true_eq]at hb;exact⟨e,he,hb.1,hb.2⟩
 ·rcases Bl j ops.size with Y | ab
  ·have h1:=H j ops[j] (Array.getElem?_eq_getElem Y);rw[if_pos K,Bo]at h1;have h2:=h1.1;have hl:j<C.size:=Aa
   simp[hl]at h2⊢;exact h2
  ·simp[E7 (show C.size<=j by omega)]
 ·have h1:=H j I G;rw[if_neg Aa]at h1;simp only[DP,beq_iff_eq,V,false_or,aa,Bool.false_eq_true,Bo]at h1;exact h1
end
end Go.Proofs.YtggfmklppkioeaaGreat
