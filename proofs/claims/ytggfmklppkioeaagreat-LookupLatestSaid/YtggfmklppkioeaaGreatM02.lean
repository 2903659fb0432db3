/- Plain lemmas: the digits of a natural number in base 2^32, and rows of digits in memory. -/
import Derived.Test.YtggfmklppkioeaaGreatM01
import Derived.WalkKit
import Derived.Lib.Hide
import Derived.Test.YtggfmklppkioeaaGreatProg
import Derived.BigQuiet
import Derived.Deep.QuietTactic
import Derived.Deep.DeepCutAuto
import Derived.Deep.LoopGhost
import Derived.Deep.RegionHeld3
import Derived.Deep.RegionWith
import Derived.Lib.BitFns
import Derived.Below
import Derived.Deep.RegionLawGrows
namespace Go.Proofs.YtggfmklppkioeaaGreat
set_option linter.unusedSimpArgs false
set_option linter.unusedVariables false
set_option maxRecDepth 100000
open Go.RowKit
open _root_.Go renaming Addr → AU,Calls → AC,Ending → BB,Operand → AP,Program → AW,bodyPost_ret → A7,cell_of_row → Em,frozen_of_row → En,heap_alloc_new → Bm,heap_setCell_same → CZ,info_parts → DF,wpList_plain → BA
open _root_.Go.RowKit renaming Below → Bi
open _root_.Go.Act renaming put → AI
open _root_.And renaming intro → By
open _root_.Array renaming getElem?_eq_getElem → D7,getElem?_eq_none → Fy,getElem?_eq_some_iff → AZ
open _root_.Go.RowKit.Below renaming heap_setCell → C3,refl → AF
open _root_.Bool renaming and_eq_true → BN,or_eq_true → Ds
open _root_.Go.Builtin renaming append_ → BM,firstCells → EA
open _root_.Classical renaming byContradiction → DO
open _root_.Go.Ending renaming returned → BF
open _root_.Go.Instr renaming loadAt → CV
open _root_.Int renaming eq_ofNat_of_zero_le → Fv
open _root_.Go.IntKind renaming i64 → Be,u32 → CT,u64 → BE
open _root_.Go.Lib renaming hid → AA
open _root_.List renaming all_eq_true → Ca,getElem?_eq_some_iff → AX,getElem?_take → BI,map_congr_left → Et,map_cons → Bq,map_map → CE,mem_append → AG,mem_cons → AS,mem_filter → E6,mem_map → Ba,mem_range → C4,nodup_cons → Bu,nodup_iff_pairwise_ne → FX,pairwise_map → DN,range → Bj
open _root_.Nat renaming add_assoc → C1,add_mul → CU,add_sub_cancel → DH,add_zero → CL,div_add_mod → Cf,div_div_eq_div_mul → CR,div_eq_of_lt → Cz,div_lt_iff_lt_mul → Co,eq_zero_or_pos → Dc,le_div_iff_mul_le → D5,le_refl → AE,le_trans → AD,log2_lt → Er,lt_log2_self → Fx,lt_of_le_of_lt → D4,lt_of_lt_of_le → Bt,lt_or_ge → Bc,lt_trans → Dq,mod_eq_of_lt → Cn,mod_lt → Bs,mod_one → CD,mul_add → CG,mul_add_div → EY,mul_assoc → C0,mul_comm → BV,mul_le_mul_left → C2,mul_le_mul_right → Db,mul_lt_mul_of_pos_right → FW,mul_pos → Ey,mul_zero → CS,pow_add → BC,pow_le_pow_right → E4,pow_lt_pow_right → FL,pow_pos → D3,pow_succ → BO,pow_succ' → EX,pow_zero → DJ,shiftRight_eq_div_pow → FV,zero_add → A5,zero_le → AY
open _root_.Go.Oper renaming wp → Bk
open _root_.Option renaming some → A3
open _root_.Go.Region renaming ready → BY,wanted → A6
open _root_.Go.Result renaming andThen → AQ,andThen_ok → CM
open _root_.Go.Sem renaming run_bind → AH,run_pure → Bw
open _root_.Go.Proofs.Tryz renaming prog → AB,underlying29 → Eu
open _root_.Go.Value renaming int → AK,slice → D9
open _root_.Go.World renaming cell?_of_block → BZ,cell?_setCell_other → FY,cell?_setCell_same → Ew,size_alloc → Cr
abbrev mBw(w w':World):Prop:=Bi w.heap.size w w'
def D(N i:Nat):Nat:=N / 4294967296^i % 4294967296
def nl(N:Nat):Nat:=if N=0 then 0 else N.log2 / 32+1
variable{p:Prop}
theorem it(h:p:=by decide):p:=h
theorem cf(N i:Nat):D N i<4294967296:=Bs _ it
theorem cF(i:Nat):0<4294967296^i:=D3 it
theorem zZ(i:Nat):4294967296^i=2^(32*i):=by rw[Nat.pow_mul]
theorem bL:nl 0=0:=by simp[nl]
theorem eA(N:Nat):N<4294967296^nl N:=by
 unfold nl;split
 ·subst_vars;decide
 ·rename_i h;rw[zZ,<-Er h];omega
variable{N:Nat}
theorem dV(h:N≠0):0<nl N:=by unfold nl;rw[if_neg h];omega
theorem kS:nl N=0↔N=0:=by
 constructor
 ·intro h;by_cases h0:N=0
  ·exact h0
  ·have:=dV h0;omega
 ·rintro rfl;exact bL
variable{k:Nat}
theorem aI:nl N<=k↔N<4294967296^k:=by
 by_cases h:N=0
 ·subst h;simp[bL,cF k]
 ·unfold nl;rw[if_neg h,zZ,<-Er h];omega
variable{m n:Nat}
theorem dW(h:m<=n):nl m<=nl n:=aI.2 (D4 h (eA n))
theorem rh(h:N≠0):4294967296^(nl N - 1)<=N:=by
 have h1:=dV h;have h3:=aI (N:=N) (k:=nl N - 1);omega
theorem abi(m n k:Nat)(C:nl m<=k)(hn:nl n<=k):nl (m+n)<=k+1:=by
 rw[aI]at *;rw[BO];omega
theorem cG(N i:Nat):N % 4294967296^(i+1)=N % 4294967296^i+4294967296^i*D N i:=Nat.mod_pow_succ
theorem cH(N i:Nat):N / 4294967296^i=4294967296*(N / 4294967296^(i+1))+D N i:=by
 unfold D;rw[BO,<-CR];exact(Cf _ _).symm
variable{i:Nat}
theorem oQ(h:N<4294967296^i):D N i=0:=by unfold D;rw[Cz h]
theorem D_zero(i:Nat):D 0 i=0:=by simp[D]
theorem iS(h:nl N<=i):D N i=0:=oQ (aI.1 h)
theorem no(h:p:=by omega):p:=h
theorem z6(h:N≠0):D N (nl N - 1)≠0:=by
 have h1:=rh h;have h2:=eA N;have h3:=dV h;obtain⟨k,C⟩:∃k,nl N=k+1:=⟨nl N - 1,no⟩;rw[C]at h1 h2⊢;simp only[DH]at h1⊢;unfold D;rw[Cn]
 ·have:=Nat.div_pos h1 (cF k);omega
 ·rw[Co (cF k),<-EX];exact h2
theorem xx(N:Nat):N % 4294967296^nl N=N:=Cn (eA N)
theorem ri(h:nl N<=k):N % 4294967296^k=N:=Cn (aI.1 h)
theorem z7:∀k,(∀i,i<k->D m i=D n i)->m % 4294967296^k=n % 4294967296^k
 | 0,_=>by simp[CD]
 | k+1,h=>by rw[cG,cG,z7 k (λi hi=>h i no),h k no]
theorem ov(h:i<k):D (N % 4294967296^k) i=D N i:=by
 unfold D;obtain⟨d,rfl⟩:∃d,k=i+1+d:=⟨k - (i+1),no⟩;rw[BC,BO,C0,Nat.mod_mul_right_div_self,Nat.mod_mul_right_mod]
def cy(m n i:Nat):Nat:=(m % 4294967296^i+n % 4294967296^i) / 4294967296^i
theorem oR(m n:Nat):cy m n 0=0:=by simp[cy,CD]
theorem oA(m n i:Nat):cy m n i<=1:=by
 unfold cy;have h1:=Bs m (cF i);have h2:=Bs n (cF i);have:(m % 4294967296^i+n % 4294967296^i) / 4294967296^i<2:=by
  rw[Co (cF i)];omega
 omega
theorem l8(m n i:Nat):D m i+D n i+cy m n i=D (m+n) i+4294967296*cy m n (i+1):=by
 have C:=cF i;have F:(m+n) / 4294967296^i=m / 4294967296^i+n / 4294967296^i+cy m n i:=by
  unfold cy
  conv=>lhs;rw[<-Cf m (4294967296^i),<-Cf n (4294967296^i)]
  rw[show 4294967296^i*(m / 4294967296^i)+m % 4294967296^i+(4294967296^i*(n / 4294967296^i)+n % 4294967296^i)=4294967296^i*(m / 4294967296^i+n / 4294967296^i)+(m % 4294967296^i+n % 4294967296^i)from by rw[CG];omega];rw[EY C]
 have G:cy m n (i+1)=(D m i+D n i+cy m n i) / 4294967296:=by
  unfold cy;rw[cG,cG,BO,<-CR]
  congr 1
  rw[show m % 4294967296^i+4294967296^i*D m i+(n % 4294967296^i+4294967296^i*D n i)=4294967296^i*(D m i+D n i)+(m % 4294967296^i+n % 4294967296^i)from by rw[CG];omega];rw[EY C]
 have H:D (m+n) i=(D m i+D n i+cy m n i) % 4294967296:=by
  show(m+n) / 4294967296^i % 4294967296=_;rw[F];unfold D;omega
 rw[G,H];omega
def upd(N p e:Nat):Nat:=N - 4294967296^p*D N p+4294967296^p*e
theorem rj(N p:Nat):N=4294967296^(p+1)*(N / 4294967296^(p+1))+4294967296^p*D N p+N % 4294967296^p:=by
 have h:=Cf N (4294967296^(p+1));rw[cG]at h;omega
theorem xy(N p e:Nat):upd N p e=4294967296^(p+1)*(N / 4294967296^(p+1))+4294967296^p*e+N % 4294967296^p:=by
 have h:=rj N p;unfold upd;omega
theorem eW(N p e:Nat):upd N p e+4294967296^p*D N p=N+4294967296^p*e:=by
 have h:=rj N p;unfold upd;omega
theorem mod_upd(N p e:Nat):upd N p e % 4294967296^p=N % 4294967296^p:=by
 rw[xy,BO,C0,<-CG];rw[Nat.mul_add_mod];exact Nat.mod_mod _ _
theorem xz(N p e:Nat)(C:e<4294967296):D (upd N p e) p=e:=by
 unfold D;rw[xy,BO,C0,<-CG,EY (cF p),Cz (Bs _ (cF p))];omega
theorem z8(N p e:Nat)(F:e<4294967296):upd N p e / 4294967296^(p+1)=N / 4294967296^(p+1):=by
 rw[xy,C1,EY (cF (p+1))];have h0:=Bs N (cF p);have C:4294967296^p*e+N % 4294967296^p<4294967296^(p+1):=by
  rw[BO];have h1:4294967296^p*(e+1)<=4294967296^p*4294967296:=C2 _ no;rw[CG]at h1;omega
 rw[Cz C,CL]
theorem oB(N p e i:Nat)(C:e<4294967296)(hi:i≠p):D (upd N p e) i=D N i:=by
 rcases Nat.lt_or_gt_of_ne hi with h | h
 ·rw[<-ov (N:=upd N p e) h,mod_upd,ov h]
 ·obtain⟨d,rfl⟩:∃d,i=p+1+d:=⟨i - (p+1),no⟩;unfold D;rw[BC,<-CR,<-CR,z8 N p e C]
variable{q:Nat}
theorem nj{p e:Nat}(C:N<4294967296^q)(hp:p<q)(F:e<4294967296):upd N p e<4294967296^q:=by
 obtain⟨d,rfl⟩:∃d,q=p+1+d:=⟨q - (p+1),no⟩;rw[BC,BV]at C⊢;rw[<-Co (cF (p+1))]at C⊢;rw[z8 N p e F];exact C
theorem oS(N k:Nat):upd (N % 4294967296^k) k (D N k)=N % 4294967296^(k+1):=by
 have h:=eW (N % 4294967296^k) k (D N k);rw[oQ (Bs N (cF k)),CS,CL]at h;rw[h,cG]
theorem cy_last(C:nl m<=k)(hn:nl n<=k):cy m n k=D (m+n) k:=by
 have h:=l8 m n k;rw[iS C,iS hn]at h;have:=oA m n k;omega
theorem At(h:p:=by simpa using C):p:=h
theorem mul_bd(a b:Nat)(ha:a<4294967296)(hb:b<4294967296):0<=(a:Int)*(b:Int)/\(a:Int)*(b:Int)<=18446744065119617025:=by
 have h:=Nat.mul_le_mul (show a<=4294967295 by omega) (show b<=4294967295 by omega);have C:((a*b:Nat):Int)<=18446744065119617025:=no
 exact⟨Int.mul_nonneg no no,At⟩
def Dig(w:World)(b off L N:Nat):Prop:=∀j,j<L->w.cell? ⟨b,off+j,none⟩=some (.int .u32 ((D N j:Nat):Int))
structure Rw(w:World)(a:Option AU)(L N:Nat):Prop where
 lt:N<4294967296^L
 cells:0<L->∃b off,a=some ⟨b,off,none⟩/\Dig w b off L N
def IsR(w:World)(v:Value)(L N:Nat):Prop:=∃a cap,v= .agg #[.slice a L cap]/\L<=cap/\Rw w a L N
def IsN(w:World)(v:Value)(N:Nat):Prop:=IsR w v (nl N) N
def aU(base:Nat)(w:World)(v:Value)(N:Nat):Prop:=
 ∃a cap,v= .agg #[.slice a (nl N) cap]/\nl N<=cap/\(0<nl N->∃b off,a=some ⟨b,off,none⟩/\base<=b/\Dig w b off (nl N) N/\∀j,j<nl N->w.frozen? ⟨b,off+j,none⟩=false)
def aY(w:World)(g L N:Nat):Prop:=
 N<4294967296^L/\∃cur:Array Value,w.heap[g]? =some (.cells cur 237 (0,0))/\cur.toList=(Bj L).map λj=>AK .u32 ((D N j:Nat):Int)
variable{w:World}{b off L:Nat}
theorem Dig.lt(h:Dig w b off L N)(C:0<L):b<w.heap.size:=by
 have:=World.block_lt_of_cell? w _ (h 0 C);exact this
variable{w':World}{B:Nat}
theorem Dig.mono(h:Dig w b off L N)(hb:Bi B w w')(C:b<B):Dig w' b off L N:=
 λj F=>(hb.cell (p:=⟨b,off+j,none⟩) C).trans (h j F)
variable{a:Option AU}
theorem Rw.mono(h:Rw w a L N)(hb:mBw w w'):Rw w' a L N:=
 ⟨h.lt,λC=>by
  obtain⟨b,off,rfl,F⟩:=h.cells C;exact⟨b,off,rfl,F.mono hb (F.lt C)⟩⟩
variable{v:Value}
theorem IsR.mono(h:IsR w v L N)(hb:mBw w w'):IsR w' v L N:=by
 obtain⟨a,cap,rfl,hc,C⟩:=h;exact⟨a,cap,rfl,hc,C.mono hb⟩
theorem IsN.mono(h:IsN w v N)(hb:mBw w w'):IsN w' v N:=IsR.mono h hb
variable{base:Nat}
theorem aU.isN(h:aU base w v N):IsN w v N:=by
 obtain⟨a,cap,rfl,hc,G⟩:=h;exact⟨a,cap,rfl,hc,eA N,λC=>by obtain⟨b,off,rfl,_,F,_⟩:=G C;exact⟨b,off,rfl,F⟩⟩
theorem aU.mono(h:aU base w v N)(hb:mBw w w'):aU base w' v N:=by
 obtain⟨a,cap,rfl,hc,H⟩:=h;refine⟨a,cap,rfl,hc,λC=> ?_⟩;obtain⟨b,off,rfl,h1,F,hf⟩:=H C;exact⟨b,off,rfl,h1,F.mono hb (F.lt C),λj G=>(hb.frozen (p:=⟨b,off+j,none⟩) (F.lt C)).trans (hf j G)⟩
theorem aU.weaken{C:Nat}(h:aU base w v N)(hb:C<=base):aU C w v N:=by
 obtain⟨a,cap,rfl,hc,H⟩:=h;refine⟨a,cap,rfl,hc,λF=> ?_⟩;obtain⟨b,off,rfl,h1,G,hf⟩:=H F;exact⟨b,off,rfl,no,G,hf⟩
theorem aY.getcur{N:Nat}{cur:Array Value}(h:cur.toList=(Bj L).map λj=>AK .u32 ((D N j:Nat):Int)){p:Nat}(hp:p<L):
  cur[p]? =some (.int .u32 ((D N p:Nat):Int)):=by
 rw[<-Array.getElem?_toList,h];simp[hp]
variable{g:Nat}
theorem aY.cell{N:Nat}(h:aY w g L N){p:Nat}(hp:p<L):w.cell? ⟨g,p,none⟩=some (.int .u32 ((D N p:Nat):Int)):=by
 obtain⟨_,cur,C,hc⟩:=h;rw[Em w g p cur _ (0,0) C];exact aY.getcur hc hp
theorem aY.frozen(h:aY w g L N)(p:Nat):w.frozen? ⟨g,p,none⟩=false:=by
 obtain⟨_,cur,C,hc⟩:=h;exact En w g p cur _ C
theorem aY.lt(h:aY w g L N):g<w.heap.size:=by
 obtain⟨_,cur,C,hc⟩:=h;exact(AZ.1 C).1
theorem aY.dig(h:aY w g L N):Dig w g 0 L N:=λj C=>by rw[A5];exact h.cell C
theorem aY.rw'(h:aY w g L N):Rw w (some ⟨g,0,none⟩) L N:=⟨h.1,λ_=>⟨g,0,rfl,h.dig⟩⟩
theorem aY.store(h:aY w g L N){p e:Nat}(hp:p<L)(C:e<4294967296):
  aY (w.setCell ⟨g,p,none⟩ (.int .u32 (e:Int))) g L (upd N p e):=by
 obtain⟨F,cur,G,hc⟩:=h;refine⟨nj F hp C,cur.setIfInBounds p (.int .u32 (e:Int)),CZ w g p cur _ _ G,?_⟩;rw[Array.toList_setIfInBounds,hc];apply List.ext_getElem?;intro i;rw[List.getElem?_set];by_cases hi:p=i
 ·subst hi;simp[hp,xz N p e C]
 ·rw[if_neg hi];simp only[List.getElem?_map,List.getElem?_range]
  cases hr:(Bj L)[i]? with
  | none=>simp
  | some x=>
   simp only[Option.map_some];have H:x=i:=by
    have:=AX.1 hr;obtain⟨h1,h2⟩:=this;simpa using h2.symm
   subst H;rw[oB N p e x C no]
theorem aY.block(h:aY w g L N)(hb:w'.heap[g]? =w.heap[g]?):aY w' g L N:=by
 obtain⟨C,cur,F,hc⟩:=h;exact⟨C,cur,hb.trans F,hc⟩
theorem aY.mono(h:aY w g L N)(hb:Bi B w w')(C:g<B):aY w' g L N:=h.block (hb.block g C)
theorem aY.setOther(h:aY w g L N)(p:AU)(u:Value)(hp:p.block≠g):aY (w.setCell p u) g L N:=
 h.block (C3 w p u g (λe=>hp e.symm))
def zrow(n:Nat):Obj:=.cells (madeCells #[.int .u32 0] n) 237
theorem aY.made(w:World)(n:Nat):aY (w.alloc (zrow n)) w.heap.size n 0:=by
 refine⟨cF n,madeCells #[.int .u32 0] n,Bm w _,?_⟩;simp only[madeCells,Array.toList_map,Array.toList_range];apply Et;intro j _;simp[D_zero,CD]
theorem Aa(h:p:=by kernel_rfl):p:=h
theorem oT:(AB.info? 237).map (λi=>(i.zero,i.size,i.bytes))=some (some (.int .u32 0),1,4):=Aa
variable{ops:Array Oper}{rest:List Oper}{Q:Exit->Act->World->Prop}
theorem bF{o:Oper}{a:Act} 
  (hg:o.guard=none)(l c:AP)(H:o.op=Op.makeSlice 29 l c)
  (Y V:IntKind)(L C:Int)(n:Nat)(hl:a.eval l= .int Y L)(hc:a.eval c= .int V C)(hL:L=(n:Int))(Z:C=(n:Int))(hn:n<=60000000000000)
  (hK:wpList AB ops Q rest (a.put o.dst (.slice (some ⟨w.heap.size,0,none⟩) n n)) (w.alloc (zrow n))):
  wpList AB ops Q (o::rest) a w:=by
 refine BA hg λK G=> ?_
 obtain⟨i,hi,I,J,U⟩:=DF oT;subst hL;subst Z;have F:=run_make (P:=AB) w 29 237 i (.int .u32 0) Eu hi I Y V n n no (Int.le_refl _) (by rw[U];omega) no;rw[J,Nat.mul_one]at F;simp only[Int.toNat_natCast]at F;unfold Bk;simp only[execOp,H,hl,hc,AH,F,AQ,Bw];exact G _ _ hK
variable{P:AW}
theorem eD{f:FuncId}{args:Array Value} 
  (h:AC P f args (w.drewN n) λe w'=>e= .returned v/\w.drewN n=w'):AC P f args (w.drewN n) λe C=>e= .returned v/\∃m,C=w.drewN m:=
 h.mono λ_ _ ⟨F,G⟩=>⟨F,n,G.symm⟩
theorem Rw.drewN(h:Rw w a L N)(q:Nat):Rw (w.drewN q) a L N:=⟨h.lt,h.cells⟩
theorem aN{a:World}(h:Bi B a w)(q:Nat):Bi B a (w.drewN q):=⟨h.os,h.tape,h.output,h.size,h.block⟩
theorem abj(w:World)(a b:Nat):∃n,(w.drewN a).drewN b=w.drewN n:=⟨a+b,by simp[World.drewN,C1]⟩
variable{C:World}
theorem bcell{W:World}(hb:mBw W C):(∀b o,b<W.heap.size->C.cell? ⟨b,o,none⟩=W.cell? ⟨b,o,none⟩)/\(∀b o,b<W.heap.size->C.frozen? ⟨b,o,none⟩=W.frozen? ⟨b,o,none⟩):=
 ⟨λb o h=>hb.cell (p:=⟨b,o,none⟩) h,λb o h=>hb.frozen (p:=⟨b,o,none⟩) h⟩
theorem aU.of_own(h:aY w g L N)(hb:mBw w w')(F:base<=g):aU base w' (.agg #[.slice (some ⟨g,0,none⟩) (nl N) (nl N)]) N:=by
 have C:=h.mono hb h.lt;have hl:nl N<=L:=aI.2 h.1;refine⟨some ⟨g,0,none⟩,nl N,rfl,AE _,λ_=>⟨g,0,rfl,F,λj G=> ?_,λj _=>by rw[A5];exact C.frozen j⟩⟩;rw[A5];exact C.cell no
theorem aU.of_zero{cap:Nat}:aU base w (.agg #[.slice a 0 cap]) 0:=by
 have h:aU base w (.agg #[.slice a (nl 0) cap]) 0:=⟨a,cap,rfl,by rw[bL];omega,λh=>by rw[bL]at h;omega⟩;rwa [bL]at h
theorem aY.two(w:World)(n:Nat)(hn:n<18446744073709551616):aY (w.alloc (.cells #[.int .u32 ((n:Int) % 4294967296),.int .u32 ((n:Int) / 4294967296)] 237)) w.heap.size 2 n:=by
 refine⟨hn,_,Bm w _,?_⟩;have h1:((D n 1:Nat):Int)=(n:Int) / 4294967296:=by unfold D;rw[Nat.pow_one];omega
 have h0:((D n 0:Nat):Int)=(n:Int) % 4294967296:=by unfold D;rw[DJ,Nat.div_one];omega
 simp only[Bj,Bj.loop,Bq,List.map_nil,h0,h1]
def cY(W:World)(n:Nat)(e:BB)(w':World):Prop:=∃v,e= .returned v/\aU W.heap.size w' v n/\mBw W w'
def RetN(W:World)(n:Nat)(e:BB)(w':World):Prop:=∃v,e= .returned v/\IsN w' v n/\mBw W w'
variable{r:Nat}{u:Value}
theorem sN{W w0 I:World}(F:mBw W w0)(C:aY w0 g L N)(G:mBw w0 I)(J:W.heap.size<=g)(hr:W.heap.size<=r)(H:r≠g):
  cY W N (.returned (.agg #[.slice (some ⟨g,0,none⟩) (nl N) (nl N)])) (I.setCell ⟨r,0,none⟩ u):=
 ⟨_,rfl,aU.of_own ((C.mono G C.lt).setOther ⟨r,0,none⟩ u H) (AF _ _) J,(F.trans (G.mono F.size)).setCell hr u⟩
variable{fn:Func}
theorem eX{p:Tmp}(h:fn.results=#[.cell p 31])(tmps:Array Value)(w:World)(r:Nat)(v:Value)
  (hp:tmps.getD p undef= .pointer (some ⟨r,0,none⟩))(hc:w.cell? ⟨r,0,none⟩=some v):(results fn tmps).run AB w= .ok (.agg #[v]) w:=by
 have C:tmps[p]?.getD undef= .pointer (some ⟨r,0,none⟩):=by simpa using hp
 simp[results,h,C,asAddr,loadVar,go_sem,hc]
structure Made(w wx:World)(rc g:Nat):Prop where
 below:mBw w wx
 base:w.heap.size<=rc
 lt:rc<g
 size:g<wx.heap.size
 cell:wx.cell? ⟨rc,0,none⟩=some (.slice none 0 0)
 frozen:wx.frozen? ⟨rc,0,none⟩=false
theorem Made.step{w wx wr:World}{rc g:Nat}(h:Made w wx rc g)(hb:Bi g wx wr):Made w wr rc g:=
 ⟨h.below.trans (hb.mono (by have:=h.base;have:=h.lt;omega)),h.base,h.lt,Bt h.size hb.size,
  (hb.cell (p:=⟨rc,0,none⟩) h.lt).trans h.cell,(hb.frozen (p:=⟨rc,0,none⟩) h.lt).trans h.frozen⟩
variable{wx:World}
theorem Made.after{rc:Nat}(h:Made w wx rc g)(hb:mBw wx C):C.cell? ⟨rc,0,none⟩=some (.slice none 0 0)/\C.frozen? ⟨rc,0,none⟩=false:=
 ⟨(hb.cell (p:=⟨rc,0,none⟩) (Dq h.lt h.size)).trans h.cell,(hb.frozen (p:=⟨rc,0,none⟩) (Dq h.lt h.size)).trans h.frozen⟩
theorem Made.fin{w0:World}{rc:Nat}(h:Made w w0 rc g)(F:aY w0 g L N)(hb:mBw w0 C):
  cY w N (.returned (.agg #[.slice (some ⟨g,0,none⟩) (nl N) (nl N)])) (C.setCell ⟨rc,0,none⟩ u):=
 sN h.below F hb (by have:=h.base;have:=h.lt;omega) h.base (by have:=h.lt;omega)
theorem l9{p q:Tmp}(h:fn.results=#[.cell p 31,.tmp q])(tmps:Array Value)(w:World)(r:Nat)(v u:Value)
  (hp:tmps.getD p undef= .pointer (some ⟨r,0,none⟩))(G:tmps.getD q undef=u)(hc:w.cell? ⟨r,0,none⟩=some v):(results fn tmps).run AB w= .ok (.tuple #[.agg #[v],u]) w:=by
 have C:tmps[p]?.getD undef= .pointer (some ⟨r,0,none⟩):=by simpa using hp
 have F:tmps[q]?.getD undef=u:=by simpa using G
 simp[results,h,C,F,asAddr,loadVar,go_sem,hc]
structure Res2(w wx:World)(r1 r2:Nat):Prop where
 below:mBw w wx
 base:w.heap.size<=r1
 lt:r1<r2
 size:r2<wx.heap.size
 cell1:wx.cell? ⟨r1,0,none⟩=some (.slice none 0 0)
 cell2:wx.cell? ⟨r2,0,none⟩=some (.slice none 0 0)
 frozen1:wx.frozen? ⟨r1,0,none⟩=false
 frozen2:wx.frozen? ⟨r2,0,none⟩=false
theorem Res2.step{w wx wr:World}{r1 r2 B:Nat}(h:Res2 w wx r1 r2)(hb:Bi B wx wr)(C:r2<B):Res2 w wr r1 r2:=
 ⟨h.below.trans (hb.mono (by have:=h.base;have:=h.lt;omega)),h.base,h.lt,Bt h.size hb.size,
  (hb.cell (p:=⟨r1,0,none⟩) (Dq h.lt C)).trans h.cell1,(hb.cell (p:=⟨r2,0,none⟩) C).trans h.cell2,(hb.frozen (p:=⟨r1,0,none⟩) (Dq h.lt C)).trans h.frozen1,(hb.frozen (p:=⟨r2,0,none⟩) C).trans h.frozen2⟩
variable{r1 r2:Nat}
theorem Res2.after(h:Res2 w wx r1 r2)(hb:mBw wx C):Res2 w C r1 r2:=h.step hb h.size
theorem Res2.drewN(h:Res2 w wx r1 r2)(q:Nat):Res2 w (wx.drewN q) r1 r2:=h.after (aN (AF _ _) q)
theorem Res2.fin{vq vr u1 u2:Value}(h:Res2 w wx r1 r2)(H:aU (r2+1) wx vq q)(hr:aU (r2+1) wx vr r):
  aU w.heap.size ((wx.setCell ⟨r1,0,none⟩ u1).setCell ⟨r2,0,none⟩ u2) vq q/\aU w.heap.size ((wx.setCell ⟨r1,0,none⟩ u1).setCell ⟨r2,0,none⟩ u2) vr r/\mBw w ((wx.setCell ⟨r1,0,none⟩ u1).setCell ⟨r2,0,none⟩ u2):=by
 have h1:=h.base;have h2:=h.lt;have keep:∀ {v:Value} {N:Nat},aU (r2+1) wx v N->aU w.heap.size ((wx.setCell ⟨r1,0,none⟩ u1).setCell ⟨r2,0,none⟩ u2) v N:=by
  rintro v N ⟨a,cap,rfl,hc,I⟩;refine⟨a,cap,rfl,hc,λF=> ?_⟩;obtain⟨b,off,rfl,hb,G,hf⟩:=I F;have e:∀k,k=b->((wx.setCell ⟨r1,0,none⟩ u1).setCell ⟨r2,0,none⟩ u2).heap[k]? =wx.heap[k]? :=by
   rintro k rfl;rw[C3 _ _ _ _ (by show k≠r2;omega),C3 _ _ _ _ (by show k≠r1;omega)]
  exact⟨b,off,rfl,no,λj C=>(BZ (w:=wx) (e b rfl)).trans (G j C),λj C=>(World.frozen?_of_block (w:=wx) (e b rfl)).trans (hf j C)⟩
 exact⟨keep H,keep hr,(h.below.setCell h1 u1).setCell (by show w.heap.size<=r2;omega) u2⟩
theorem jz(C:nl N<=k+1)(h:D N k=0):nl N<=k:=by
 rw[aI]at *;have h1:=Cn C;rw[cG,h,CS,CL]at h1;rw[<-h1];exact Bs _ (cF k)
theorem abk(F:nl N<=k+1)(h:D N k≠0):nl N=k+1:=by
 have:¬nl N<=k:=λC=>h (iS C)
 omega
theorem Ai(h:p:=by exact⟨rfl,rfl⟩):p:=h
theorem dX(a:Option AU)(L cap N:Nat)(w:World)(J:L<=9223372036854775807)(H:L<=cap)(hr:Rw w a L N):
  AC AB 189 #[.slice a L cap] w λe w'=>e= .returned (.slice a (nl N) (nl N))/\w=w':=by
 go_enter Tryz.func189,Tryz.ntmps189
 go_wp2;go_loop [3] (λn=>∃k:Nat,k<=L/\n= .int .i64 k/\nl N<=k) (λn=>(intOf n).toNat)
 case atStart=>exact⟨L,AE _,rfl,aI.2 hr.lt⟩
 case round=>
  obtain⟨k,K,rfl,hn⟩:=hrel
  cases k with
  | zero=>
   go_wp2;go_ret;have:nl N=0:=no
   rw[this];exact Ai
  | succ k=>
   obtain⟨b,off,rfl,C⟩:=hr.cells no;have G:=C k no;by_cases hz:D N k=0
   ·rw[hz]at G;have F:=AA hz;clear hz;go_wp2;go_round
    case rel=>exact⟨k,no,by go_num,jz hn F.out⟩
    case measure=>simp[intOf]
   ·have I:(((D N k:Nat):Int)==0)=false:=by simpa using hz
    have F:=AA hz;clear hz;go_wp2;go_ret;have:nl N=k+1:=abk hn F.out;rw[this];exact Ai
theorem gY(a:Option AU)(L cap N:Nat)(w:World)(F:L<=9223372036854775807)(C:L<=cap)(hr:Rw w a L N):
  AC AB 196 #[.slice a L cap] w λe w'=>e= .returned (.agg #[.slice a (nl N) (nl N)])/\mBw w w':=by
 go_enter Tryz.func196,Tryz.ntmps196
 go_wp2_with fail
 refine(dX a L cap N _ F C (hr.mono ((AF _ _).alloc (AE _) _))).mono ?_;rintro e w' ⟨rfl,rfl⟩;go_wp2;exact A7 (v:=.agg #[.slice a (nl N) (nl N)]) (by simp[results,Tryz.results196,go_sem]) rfl ⟨rfl,((AF _ _).alloc (AE _) _)⟩
theorem sO(x y c:Int)(w:World)(H:0<=x)(F:x<4294967296)(hy:0<=y)(G:y<4294967296)(hc:0<=c)(C:c<=1):
  AC AB 201 #[.int .u32 x,.int .u32 y,.int .u32 c] w λe w'=>
   e= .returned (.tuple #[.int .u32 ((x+y+c) % 4294967296),.int .u32 ((x+y+c) / 4294967296)])/\w=w':=by
 go_enter Tryz.func201,Tryz.ntmps201
 go_wp2;go_ret2
 exact Ai
theorem div_or(a b:Nat):(a ||| b) / 2147483648=a / 2147483648 ||| b / 2147483648:=by
 have h:=Nat.shiftRight_or_distrib (i:=31) (a:=a) (b:=b);simpa only[FV]using h
theorem aaa(a b:Nat):(a &&& b) / 2147483648=a / 2147483648 &&& b / 2147483648:=by
 have h:=Nat.shiftRight_and_distrib (i:=31) (a:=a) (b:=b);simpa only[FV]using h
theorem sP(a b:Nat):(a ^^^ b) / 2147483648=(a / 2147483648) ^^^ (b / 2147483648):=by
 have h:=Nat.shiftRight_xor_distrib (i:=31) (a:=a) (b:=b);simpa only[FV]using h
theorem xA(x y c d:Nat)(G:x<4294967296)(hy:y<4294967296)(hc:c<=1)(C:d=(x+8589934592 - y - c) % 4294967296):
  (((4294967295 ^^^ x) &&& y) ||| ((4294967295 ^^^ (x ^^^ y)) &&& d)) / 2147483648=if x<y+c then 1 else 0:=by
 rw[div_or,aaa,aaa,sP,sP,sP];have F:d<4294967296:=by rw[C];exact Bs _ it
 have h1:x / 2147483648=0\/x / 2147483648=1:=no
 have h2:y / 2147483648=0\/y / 2147483648=1:=no
 have h3:d / 2147483648=0\/d / 2147483648=1:=no
 rcases h1 with h1 | h1<;>rcases h2 with h2 | h2<;>rcases h3 with h3 | h3<;>rw[h1,h2,h3]<;>(split<;>first | rfl | (exfalso;omega))
def borrow(x y c:Int):Int:=if x<y+c then 1 else 0
theorem xB(x y c:Int)(F:0<=x)(P:x<4294967296)(hy:0<=y)(U:y<4294967296)(hc:0<=c)(K:c<=1):
  bits BinOp.or CT (bits BinOp.and CT (bits BinOp.xor CT CT.max x) y)
        (bits BinOp.and CT
         (bits BinOp.xor CT CT.max (bits BinOp.xor CT x y))
         ((x - y - c) % 4294967296)) / 2147483648=borrow x y c:=by
 obtain⟨x,rfl⟩:=Fv F;obtain⟨y,rfl⟩:=Fv hy;obtain⟨c,rfl⟩:=Fv hc;have I:((x:Int) - y - c) % 4294967296=(((x+8589934592 - y - c) % 4294967296:Nat):Int):=no
 have J:CT.max=((4294967295:Nat):Int):=it
 have F:x<4294967296:=no
 have hy:y<4294967296:=no
 have V:4294967295 ^^^ x<4294967296:=Nat.xor_lt_two_pow (n:=32) it F;have G:x ^^^ y<4294967296:=Nat.xor_lt_two_pow (n:=32) F hy;have Y:4294967295 ^^^ (x ^^^ y)<4294967296:=Nat.xor_lt_two_pow (n:=32) it G;have H:(x+8589934592 - y - c) % 4294967296<4294967296:=Bs _ it;have Z:(4294967295 ^^^ x) &&& y<4294967296:=Nat.and_lt_two_pow (n:=32) _ hy;have l6:(4294967295 ^^^ (x ^^^ y)) &&& ((x+8589934592 - y - c) % 4294967296)<4294967296:=Nat.and_lt_two_pow (n:=32) _ H;rw[I,J,u32_xor_nat _ _ it F,u32_xor_nat _ _ F hy,u32_xor_nat _ _ it G,u32_and_nat _ _ V hy,u32_and_nat _ _ Y H,u32_or_nat _ _ Z l6];have hb:=xA x y c _ F hy no rfl;unfold borrow;have C:((((((4294967295 ^^^ x) &&& y) ||| ((4294967295 ^^^ (x ^^^ y)) &&& ((x+8589934592 - y - c) % 4294967296))) / 2147483648:Nat)):Int)=if (x:Int)<y+c then 1 else 0:=by
  rw[hb];split<;>split<;>first | rfl | omega
 simpa using C
theorem sQ(x y c:Int)(w:World)(H:0<=x)(F:x<4294967296)(hy:0<=y)(G:y<4294967296)(hc:0<=c)(C:c<=1):
  AC AB 203 #[.int .u32 x,.int .u32 y,.int .u32 c] w λe w'=>
   e= .returned (.tuple #[.int .u32 ((x - y - c) % 4294967296),.int .u32 (borrow x y c)])/\w=w':=by
 have hb:=AA (xB x y c H F hy G hc C);go_enter Tryz.func203,Tryz.ntmps203
 go_wp2;go_ret2
 refine⟨?_,rfl⟩;rw[<-hb.out];rfl
set_option maxHeartbeats 4000000 in
set_option maxRecDepth 100000 in
theorem c_len32(x:Int)(w:World)(h0:0<=x)(h1:x<=4294967295):
  AC AB 232 #[.int .u32 x] w λe w'=>e= .returned (.int .i64 (Lib.bitLen x.toNat))/\w=w':=by
 by_cases c2:x<65536
 ·by_cases c1:x<256
  ·have C:x<=255:=no
   have l:=Lib.bitLen_le8' x no no;have hl:=AA (Lib.len8_of x no no);go_enter Tryz.func232,Tryz.ntmps232
   go_wp2;go_ret;refine⟨congrArg BF (congrArg (AK Be) ?_),rfl⟩;rw[hl.out];simp only[wrap64];omega
  ·have F:0<=x / 256:=no
   have C:x / 256<=255:=no
   have l:=Lib.bitLen_le8' (x / 256) no no;have hl:=AA (Lib.len8_of (x / 256) no no);have hs:=AA (Lib.bitLen_shift8 x.toNat no no);have e:=AA (show(x / 256).toNat=x.toNat / 256 from no);go_enter Tryz.func232,Tryz.ntmps232
   go_wp2;go_ret;refine⟨congrArg BF (congrArg (AK Be) ?_),rfl⟩;rw[hl.out,hs.out,<-e.out];simp only[wrap64];omega
 ·by_cases c1:x / 65536<256
  ·have F:0<=x / 65536:=no
   have C:x / 65536<=255:=no
   have l:=Lib.bitLen_le8' (x / 65536) no no;have hl:=AA (Lib.len8_of (x / 65536) no no);have hs:=AA (Lib.bitLen_shift16 x.toNat no no);have e:=AA (show(x / 65536).toNat=x.toNat / 65536 from no);go_enter Tryz.func232,Tryz.ntmps232
   go_wp2;go_ret;refine⟨congrArg BF (congrArg (AK Be) ?_),rfl⟩;rw[hl.out,hs.out,<-e.out];simp only[wrap64];omega
  ·have F:0<=x / 65536 / 256:=no
   have C:x / 65536 / 256<=255:=no
   have l:=Lib.bitLen_le8' (x / 65536 / 256) no no;have hl:=AA (Lib.len8_of (x / 65536 / 256) no no);have hs:=AA (Lib.bitLen_shift24 x.toNat no no);have e:=AA (show(x / 65536 / 256).toNat=x.toNat / 16777216 from no);go_enter Tryz.func232,Tryz.ntmps232
   go_wp2;go_ret;refine⟨congrArg BF (congrArg (AK Be) ?_),rfl⟩;rw[hl.out,hs.out,<-e.out];simp only[wrap64];omega
theorem c_lz32(x:Int)(w:World)(h0:0<=x)(h1:x<=4294967295):
  AC AB 242 #[.int .u32 x] w λe w'=>e= .returned (.int .i64 (32 - (Lib.bitLen x.toNat:Int)))/\w=w':=by
 have l:=Lib.bitLen_le x.toNat 32 no no;go_enter Tryz.func242,Tryz.ntmps242
 go_wp2_with fail
 refine(c_len32 x _ h0 h1).mono ?_;rintro e w' ⟨rfl,rfl⟩;go_wp2;go_ret;exact Ai
theorem or32(hi lo:Int)(h0:0<=hi)(h1:hi<=4294967295)(h2:0<=lo)(h3:lo<=4294967295):bits BinOp.or BE (hi*4294967296) lo=hi*4294967296+lo:=by
 obtain⟨x,rfl⟩:=Fv h0;obtain⟨y,rfl⟩:=Fv h2;have:=u64_or_nat (x*4294967296) y no no;rw[nat_join 32 (x*4294967296) y no no]at this;simpa using this
theorem c_div32(hi lo y:Int)(w:World)(h0:0<=hi)(h1:hi<y)(h2:0<=lo)(h3:lo<=4294967295)(G:y<=4294967295):
  AC AB 239 #[.int .u32 hi,.int .u32 lo,.int .u32 y] w λe w'=>e= .returned (.tuple #[.int .u32 ((hi*4294967296+lo) / y),.int .u32 ((hi*4294967296+lo) % y)])/\∃n,w'=w.drewN n:=by
 have hy:0<y:=no
 have F:=or32 hi lo h0 no h2 h3;have C:(y !=0)=true:=by rw[bne_iff_ne];omega
 have H:0<=(hi*4294967296+lo) / y:=Int.ediv_nonneg no no;have I:(hi*4294967296+lo) / y<=4294967295:=by
  have:(hi*4294967296+lo) / y<4294967296:=by
   rw[Int.ediv_lt_iff_lt_mul hy];omega
  omega
 have r1:0<=(hi*4294967296+lo) % y:=Int.emod_nonneg _ no;have r2:(hi*4294967296+lo) % y<y:=Int.emod_lt_of_pos _ hy;go_enter Tryz.func239,Tryz.ntmps239
 go_wp2;go_quiet (fail)
 go_wp2;go_ret2
 exact⟨rfl,_,rfl⟩
def cmpI(m n:Nat):Int:=if m<n then -1 else if n<m then 1 else 0
theorem gI(h:m<n):cmpI m n= -1:=by unfold cmpI;rw[if_pos h]
theorem j6(h:n<m):cmpI m n=1:=by unfold cmpI;rw[if_neg no,if_pos h]
theorem ma(h:m=n):cmpI m n=0:=by unfold cmpI;rw[if_neg no,if_neg no]
theorem uq(h:nl m<nl n):m<n:=by
 have h1:=aI (N:=n) (k:=nl m);have h2:=eA m;omega
theorem gJ(h:m / 4294967296^(k+1)=n / 4294967296^(k+1))(I:D m k<D n k):m<n:=by
 have h1:=cH m k;have h2:=cH n k;have h3:m / 4294967296^k<n / 4294967296^k:=no
 have F:=Cf m (4294967296^k);have G:=Cf n (4294967296^k);have H:=Bs m (cF k);have C:4294967296^k*(m / 4294967296^k+1)<=4294967296^k*(n / 4294967296^k):=C2 _ h3;rw[CG]at C;omega
theorem Ad(h:p:=by simp):p:=h
theorem fR(a b:Option AU)(P U m n:Nat)(w:World)(ha:Rw w a (nl m) m)(hb:Rw w b (nl n) n)(hm:nl m<=60000000000000)(hn:nl n<=60000000000000):
  AC AB 202 #[.slice a (nl m) P,.slice b (nl n) U] w λe w'=>e= .returned (.int .i64 (cmpI m n))/\∃n,w'=w.drewN n:=by
 by_cases hL:nl m=nl n
 ·rw[<-hL]at hb⊢;clear hL hn;generalize nl m=L at *;have H:((L:Int) !=L)=false:=Ad
  go_enter Tryz.func202,Tryz.ntmps202
  go_wp2;go_loopw [5] (λi wr=>∃k:Nat,k<=L/\i= .int .i64 ((k:Int) - 1)/\m / 4294967296^k=n / 4294967296^k/\∃q,wr=w.drewN q) (λi _=>((intOf i)+1).toNat)
  case atStart=>exact⟨L,AE _,rfl,by rw[Cz ha.lt,Cz hb.lt],0,rfl⟩
  case round=>
   obtain⟨k,hk,rfl,J,q,rfl⟩:=hrel;have C:=AA J;clear J
   cases k with
   | zero=>
    go_wp2;go_ret;refine⟨?_,q,rfl⟩;rw[ma (by simpa using C.out)];rfl
   | succ k=>
    obtain⟨V,o1,rfl,h1⟩:=ha.cells no;obtain⟨Y,o2,rfl,h2⟩:=hb.cells no;have Z:=h1 k no;have c2:=h2 k no;have e:(((k+1:Nat):Int) - 1)=(k:Int):=no
    simp only[e];clear e;rcases Nat.lt_trichotomy (D m k) (D n k)with h | h | h
    ·have I:((D m k:Nat):Int)<((D n k:Nat):Int):=no
     go_wp2;go_quiet (fail)
     go_wp2;go_ret;exact⟨by rw[gI (gJ C.out h)];rfl,abj _ _ _⟩
    ·have K:=AA h;have F:¬((D m k:Nat):Int)<((D n k:Nat):Int):=no
     have G:¬((D n k:Nat):Int)<((D m k:Nat):Int):=no
     clear h;go_wp2;go_quiet (fail)
     go_wp2;go_quiet (fail)
     go_wp2;go_roundw
     case rel=>exact⟨k,no,rfl,by rw[cH m k,cH n k,C.out,K.out],_,rfl⟩
     case measure=>simp[intOf]
    ·have F:¬((D m k:Nat):Int)<((D n k:Nat):Int):=no
     have G:((D n k:Nat):Int)<((D m k:Nat):Int):=no
     go_wp2;go_quiet (fail)
     go_wp2;go_quiet (fail)
     go_wp2;go_ret;exact⟨by rw[j6 (gJ C.out.symm h)];rfl,by simp only[World.drewN_drewN];exact⟨_,rfl⟩⟩
 ·have H:(((nl m:Nat):Int) !=((nl n:Nat):Int))=true:=by rw[bne_iff_ne];omega
  rcases Nat.lt_or_gt_of_ne hL with h | h
  ·have I:((nl m:Nat):Int)<((nl n:Nat):Int):=no
   go_enter Tryz.func202,Tryz.ntmps202
   go_wp2;go_ret;exact⟨by rw[gI (uq h)];rfl,0,rfl⟩
  ·have I:¬((nl m:Nat):Int)<((nl n:Nat):Int):=no
   go_enter Tryz.func202,Tryz.ntmps202
   go_wp2;go_ret;exact⟨by rw[j6 (uq h)];rfl,0,rfl⟩
theorem qQ(va vb:Value)(m n:Nat)(w:World)(ha:IsN w va m)(hb:IsN w vb n)(V:nl m<=60000000000000)(hn:nl n<=60000000000000):
  AC AB 191 #[va,vb] w λe w'=>e= .returned (.int .i64 (cmpI m n))/\mBw w w':=by
 obtain⟨a,P,rfl,G,Y⟩:=ha;obtain⟨b,U,rfl,H,rb⟩:=hb;have K:mBw w ((w.alloc (.cells #[.slice a (nl m) P] 31)).alloc (.cells #[.slice b (nl n) U] 31)):=((AF _ _).alloc (AE _) _).alloc Ad _;have C:=Y.mono K;have F:=rb.mono K;have I:nl m<=9223372036854775807:=no
 have J:nl n<=9223372036854775807:=no
 go_enter Tryz.func191,Tryz.ntmps191
 go_wp2
 go_quiet (first
  | (go_at_call 189;with_reducible exact eD (dX a (nl m) P m _ I G (C.drewN _)))
  | (go_at_call 189;with_reducible exact eD (dX b (nl n) U n _ J H (F.drewN _)))
  | (go_at_call 202;with_reducible exact Calls.quiet_of (fR a b _ _ m n _ (C.drewN _) (F.drewN _) V hn)))
 go_wp2;go_ret;exact⟨rfl,aN K _⟩
theorem oJ(va:Value)(L N:Nat)(w:World)(ha:IsR w va L N)(K:L<=60000000000000):
  AC AB 279 #[va] w λe w'=>e= .returned (.bool (decide (L=nl N)))/\mBw w w':=by
 obtain⟨a,H,rfl,C,J⟩:=ha;have I:mBw w (w.alloc (.cells #[.slice a L H] 31)):=(AF _ _).alloc (AE _) _;have G:=J.mono I;have F:L<=9223372036854775807:=no
 go_enter Tryz.func279,Tryz.ntmps279
 go_wp2;go_quiet ((go_at_call 189;with_reducible exact eD (dX a L H N _ F C (G.drewN _))))
 go_wp2;go_ret;refine⟨?_,aN I _⟩;have e:((L:Int)==((nl N:Nat):Int))=decide (L=nl N):=by rw[Bool.eq_iff_iff];simp;omega
 rw[<-e];rfl
theorem fG(n:Nat)(w:World)(hn:n<18446744073709551616):
  AC AB 142 #[.int .u64 (n:Int)] w λe w'=>cY w n e w':=by
 have C:=aY.two (w.alloc (.cells #[.slice none 0 0] 31)) n hn;have G:mBw w (w.alloc (.cells #[.slice none 0 0] 31)):=(AF _ _).alloc (AE _) _;have H:=G.alloc Ad (.cells #[.int .u32 ((n:Int) % 4294967296),.int .u32 ((n:Int) / 4294967296)] 237);rw[Cr]at C;go_enter Tryz.func142,Tryz.ntmps142
 go_wp2_with fail
 refine(gY _ 2 2 n _ no (AE _) C.rw').mono ?_;rintro e I ⟨rfl,F⟩;obtain⟨hc,hf⟩:=bcell F;have hz:=F.size;simp only[Cr]at hz;go_wp2;exact A7 (eX rfl _ _ w.heap.size _ rfl (Ew _ _ _ (u:=.slice none 0 0) (by simp[hc,go_sem]))) rfl
  (sN H C F no (AE _) no)
theorem Aj(h:p:=by simp[go_sem]):p:=h
theorem kK(va vb:Value)(m n:Nat)(w:World)(ha:IsN w va m)(hb:IsN w vb n)(hm:nl m<=1000000000000)(hn:nl n<=1000000000000):
  AC AB 147 #[va,vb] w λe w'=>cY w (m+n) e w':=by
 obtain⟨a,ca,rfl,aa,ra⟩:=ha;obtain⟨b,cb,rfl,ab,rb⟩:=hb;go_enter Tryz.func147,Tryz.ntmps147
 go_wp2_with fail
 go_quiet (fail)
 go_upto_if 19 with(fail)
 go_cut [5,6] (λs5 s6 wx=>mBw w wx/\w.heap.size+1+1<wx.heap.size/\wx.cell? ⟨w.heap.size+1+1,0,none⟩=some (.slice none 0 0)/\wx.frozen? ⟨w.heap.size+1+1,0,none⟩=false/\
   ∃al cl x bl cs y,s5= .slice al (nl x) cl/\s6= .slice bl (nl y) cs/\nl y<=nl x/\nl x<=1000000000000/\Hid (x+y=m+n)/\Rw w al (nl x) x/\Rw w bl (nl y) y)
 case first=>
  have G:=aN ((((AF w.heap.size w).alloc (AE _) (.cells #[.slice a (nl m) ca] 31)).alloc Ad (.cells #[.slice b (nl n) cb] 31)).alloc (by simp;omega) (.cells #[.slice none 0 0] 31)) nq;go_wp2_with fail
  all_goals go_meet
  case rel=>exact⟨G,Ad,Aj,Aj,b,cb,n,a,ca,m,rfl,rfl,no,no,AA (Nat.add_comm _ _),rb,ra⟩
  case rel=>exact⟨G,Ad,Aj,Aj,a,ca,m,b,cb,n,rfl,rfl,no,no,AA rfl,ra,rb⟩
 case rest=>
  obtain⟨G,V,hc,hf,al,cl,x,bl,cs,y,rfl,rfl,Y,hx,U,rx,ry⟩:=hcut;clear ra rb aa ab hm hn;have I:=aY.made wc (nl x+1);go_wp2_with (at_make;refine bF rfl _ _ rfl _ _ _ _ (nl x+1) rfl rfl no no no ?_)
  go_loopw [8,28] (λs8 an wr=>∃k:Nat,k<=nl x/\an= .int .i64 k/\s8= .int .u32 ((cy x y k:Nat):Int)/\aY wr wc.heap.size (nl x+1) ((x+y) % 4294967296^k)/\mBw wc wr/\wc.heap.size<wr.heap.size)
   (λ_ i _=>nl x - (intOf i).toNat)
  case atStart=>exact⟨0,AY _,rfl,by rw[oR];rfl,by simpa [CD]using I,(AF _ _).alloc (AE _) _,Ad⟩
  case round=>
   obtain⟨k,hk,rfl,rfl,K,H,P⟩:=hrel;clear I;have ao:=oA x y k;have ap:=cf x k;have aq:=cf y k;have ad:=cf (x+y) k;have Z:Hid (((D x k:Nat):Int)+((D y k:Nat):Int)+((cy x y k:Nat):Int)=((D (x+y) k:Nat):Int)+4294967296*((cy x y (k+1):Nat):Int)):=by
    have:=l8 x y k;show _=_;omega
   by_cases hlt:k<nl x
   ·have ak:=rx.mono (G.trans (H.mono G.size));have am:=ry.mono (G.trans (H.mono G.size));obtain⟨b1,o1,rfl,h1⟩:=ak.cells no;have c1:=h1 k hlt;have c3:=K.cell (p:=k) no;have f3:=K.frozen k;have F:aY (wr.setCell ⟨wc.heap.size,k,none⟩ (.int .u32 ((D (x+y) k:Nat):Int))) wc.heap.size (nl x+1) ((x+y) % 4294967296^(k+1)):=by
     rw[<-oS];exact K.store no ad
    have C:=H.setCell (p:=⟨wc.heap.size,k,none⟩) (AE _) (.int .u32 ((D (x+y) k:Nat):Int));by_cases hlt2:k<nl y
    ·obtain⟨b2,o2,rfl,h2⟩:=am.cells no;have c2:=h2 k hlt2;go_wp2_with fail
     refine(sO _ _ _ _ no no no no no no).mono ?_;rintro e w1 ⟨rfl,rfl⟩;rw[show(((D x k:Nat):Int)+((D y k:Nat):Int)+((cy x y k:Nat):Int)) % 4294967296=((D (x+y) k:Nat):Int)from by have:=Z.out;omega,show(((D x k:Nat):Int)+((D y k:Nat):Int)+((cy x y k:Nat):Int)) / 4294967296=((cy x y (k+1):Nat):Int)from by have:=Z.out;omega];go_wp2;go_roundw
     case rel=>exact⟨k+1,no,by go_num,rfl,F,C,by simpa using P⟩
     case measure=>simp[intOf];omega
    ·have E0:Hid (D y k=0):=iS no;go_wp2_with fail
     refine(sO _ _ _ _ no no no no no no).mono ?_;rintro e w1 ⟨rfl,rfl⟩;rw[show(((D x k:Nat):Int)+0+((cy x y k:Nat):Int)) % 4294967296=((D (x+y) k:Nat):Int)from by have:=Z.out;have:=E0.out;omega,show(((D x k:Nat):Int)+0+((cy x y k:Nat):Int)) / 4294967296=((cy x y (k+1):Nat):Int)from by have:=Z.out;have:=E0.out;omega];go_wp2;go_roundw
     case rel=>exact⟨k+1,no,by go_num,rfl,F,C,by simpa using P⟩
     case measure=>simp[intOf];omega
   ·obtain rfl:k=nl x:=no
    have c3:=K.cell (p:=nl x) no;have f3:=K.frozen (nl x);have F:aY (wr.setCell ⟨wc.heap.size,nl x,none⟩ (.int .u32 ((cy x y (nl x):Nat):Int))) wc.heap.size (nl x+1) (x+y):=by
     have h:=K.store (p:=nl x) (e:=cy x y (nl x)) no no;rw[cy_last (AE _) Y]at h⊢;rwa [oS,ri (abi x y (nl x) (AE _) Y)]at h
    have C:=H.setCell (p:=⟨wc.heap.size,nl x,none⟩) (AE _) (.int .u32 ((cy x y (nl x):Nat):Int));have hB:=G.trans (C.mono G.size);go_wp2_with fail
    refine(gY _ (nl x+1) (nl x+1) (x+y) _ no (AE _) F.rw').mono ?_;rintro e w1 ⟨rfl,J⟩;have ac:w1.cell? ⟨w.heap.size+1+1,0,none⟩=some (.slice none 0 0):=by
     rw[J.cell (p:=⟨w.heap.size+1+1,0,none⟩) (by simp;omega),C.cell (p:=⟨w.heap.size+1+1,0,none⟩) V];exact hc
    have ar:w1.frozen? ⟨w.heap.size+1+1,0,none⟩=false:=by
     rw[J.frozen (p:=⟨w.heap.size+1+1,0,none⟩) (by simp;omega),C.frozen (p:=⟨w.heap.size+1+1,0,none⟩) V];exact hf
    go_wp2;exact A7 (eX rfl _ _ (w.heap.size+1+1) _ rfl (Ew _ _ _ ac)) rfl
     (by rw[<-U.out];exact sN hB F J (by have:=G.size;omega) no no)
def pg(W:World)(m n:Nat)(e:BB)(w':World):Prop:=∃v,e= .returned (.tuple #[v,.bool (decide (n<=m))])/\aU W.heap.size w' v (m - n)/\mBw W w'
theorem qR(va vb:Value)(m n:Nat)(w:World)(ha:IsN w va m)(hb:IsN w vb n)(hm:nl m<=1000000000000)(hn:nl n<=1000000000000):
  AC AB 148 #[va,vb] w λe w'=>pg w m n e w':=by
 obtain⟨a,ca,rfl,Y,ra⟩:=ha;obtain⟨b,cb,rfl,Z,rb⟩:=hb;have hw:mBw w (((w.alloc (.cells #[.slice a (nl m) ca] 31)).alloc (.cells #[.slice b (nl n) cb] 31)).alloc (.cells #[.slice none 0 0] 31)):=(((AF _ _).alloc (AE _) _).alloc Ad _).alloc (by simp;omega) _;have G:=ra.mono hw;have H:=rb.mono hw;have aa:nl m<=9223372036854775807:=no
 have ab:nl n<=9223372036854775807:=no
 by_cases hmn:m<n
 ·have am:cmpI m n= -1:=gI hmn;go_enter Tryz.func148,Tryz.ntmps148
  go_wp2_with fail
  go_quiet (first
   | (go_at_call 189;with_reducible exact eD (dX a (nl m) ca m _ aa Y (G.drewN _)))
   | (go_at_call 189;with_reducible exact eD (dX b (nl n) cb n _ ab Z (H.drewN _))))
  go_wp2_with fail
  refine(fR a b _ _ m n _ (G.drewN _) (H.drewN _) no no).mono ?_;rintro e w1 ⟨rfl,q,rfl⟩;go_wp2;have ad:m - n=0:=no
  refine A7 (l9 rfl _ _ (w.heap.size+1+1) (.slice none 0 0) (.bool false) rfl rfl Aj) rfl ⟨.agg #[.slice none 0 0],?_,?_,?_⟩
  ·rw[decide_eq_false no]
  ·rw[ad];exact aU.of_zero
  ·first | exact aN hw _ | exact(aN hw _).setCell (by simp;omega) _
 ·have am:0<=cmpI m n:=by unfold cmpI;split<;>first | (exfalso;omega) | (split<;>omega)
  have HS:=AA (show m - n+n=m by omega);go_enter Tryz.func148,Tryz.ntmps148
  go_wp2_with fail
  go_quiet (first
   | (go_at_call 189;with_reducible exact eD (dX a (nl m) ca m _ aa Y (G.drewN _)))
   | (go_at_call 189;with_reducible exact eD (dX b (nl n) cb n _ ab Z (H.drewN _))))
  go_wp2_with fail
  refine(fR a b _ _ m n _ (G.drewN _) (H.drewN _) no no).mono ?_;rintro e w1 ⟨rfl,q,rfl⟩;go_upto_region 4 with(fail)
  go_cut [8] (λs8 wx=>∃g,s8= .slice (some ⟨g,0,none⟩) (nl m) (nl m)/\aY wx g (nl m) 0/\Made w wx (w.heap.size+1+1) g)
  case first=>
   have C:=aY.made ((((w.alloc (.cells #[.slice a (nl m) ca] 31)).alloc (.cells #[.slice b (nl n) cb] 31)).alloc (.cells #[.slice none 0 0] 31)).drewN (nq+q)) (nl m);go_wp2_with (at_make;refine bF rfl _ _ rfl _ _ _ _ (nl m) rfl rfl no no no ?_)
   go_meet;case rel=>exact⟨_,rfl,At,(aN hw _).alloc (by simp;omega) _,no,Ad,Ad,Aj,Aj⟩
  case rest=>
   obtain⟨g,rfl,C,J⟩:=hcut;go_wp2_with fail
   go_loopw [9,28] (λs9 aq wr=>∃k:Nat,k<=nl m/\aq= .int .i64 k/\s9= .int .u32 ((cy (m - n) n k:Nat):Int)/\aY wr g (nl m) ((m - n) % 4294967296^k)/\Bi g wc wr)
    (λ_ i _=>nl m - (intOf i).toNat)
   case atStart=>exact⟨0,AY _,rfl,by rw[oR];rfl,by simpa [CD]using C,AF _ _⟩
   case round=>
    obtain⟨k,hk,rfl,rfl,K,U⟩:=hrel;have F:=J.step U;have au:=oA (m - n) n k;have ar:=oA (m - n) n (k+1);have av:=cf m k;have ax:=cf n k;have an:=cf (m - n) k;have E1:Hid (((D (m - n) k:Nat):Int)+((D n k:Nat):Int)+((cy (m - n) n k:Nat):Int)=((D m k:Nat):Int)+4294967296*((cy (m - n) n (k+1):Nat):Int)):=by
     have:=l8 (m - n) n k;rw[HS.out]at this;show _=_;omega
    by_cases hlt:k<nl m
    ·have ao:=ra.mono F.below;have ap:=rb.mono F.below;obtain⟨b1,o1,rfl,h1⟩:=ao.cells no;have c1:=h1 k hlt;have c3:=K.cell hlt;have f3:=K.frozen k;have ac:aY (wr.setCell ⟨g,k,none⟩ (.int .u32 ((D (m - n) k:Nat):Int))) g (nl m) ((m - n) % 4294967296^(k+1)):=by
      rw[<-oS];exact K.store no an
     have V:=U.setCell (p:=⟨g,k,none⟩) (AE _) (.int .u32 ((D (m - n) k:Nat):Int));by_cases hlt2:k<nl n
     ·obtain⟨b2,o2,rfl,h2⟩:=ap.cells no;have c2:=h2 k hlt2;go_wp2_with fail
      refine(sQ _ _ _ _ no no no no no no).mono ?_;rintro e w1 ⟨rfl,rfl⟩;rw[show(((D m k:Nat):Int) - ((D n k:Nat):Int) - ((cy (m - n) n k:Nat):Int)) % 4294967296=((D (m - n) k:Nat):Int)from by have:=E1.out;omega,show borrow ((D m k:Nat):Int) ((D n k:Nat):Int) ((cy (m - n) n k:Nat):Int)=((cy (m - n) n (k+1):Nat):Int)from by have:=E1.out;unfold borrow;split<;>omega];go_wp2;go_roundw
      case rel=>exact⟨k+1,no,by go_num,rfl,ac,V⟩
      case measure=>simp[intOf];omega
     ·have E0:Hid (D n k=0):=iS no;go_wp2_with fail
      refine(sQ _ _ _ _ no no no no no no).mono ?_;rintro e w1 ⟨rfl,rfl⟩;rw[show(((D m k:Nat):Int) - 0 - ((cy (m - n) n k:Nat):Int)) % 4294967296=((D (m - n) k:Nat):Int)from by have:=E1.out;have:=E0.out;omega,show borrow ((D m k:Nat):Int) 0 ((cy (m - n) n k:Nat):Int)=((cy (m - n) n (k+1):Nat):Int)from by have:=E1.out;have:=E0.out;unfold borrow;split<;>omega];go_wp2;go_roundw
      case rel=>exact⟨k+1,no,by go_num,rfl,ac,V⟩
      case measure=>simp[intOf];omega
    ·obtain rfl:k=nl m:=no
     have I:(m - n) % 4294967296^nl m=m - n:=ri (dW (Nat.sub_le _ _));rw[I]at K;clear I;go_wp2_with fail
     refine(gY _ (nl m) (nl m) (m - n) _ no (AE _) K.rw').mono ?_;rintro e w1 ⟨rfl,P⟩;obtain⟨ak,ay⟩:=F.after P;go_wp2;obtain⟨v,hv,h1,h2⟩:=F.fin (u:=.slice (some ⟨g,0,none⟩) (nl (m - n)) (nl (m - n))) K P;cases hv;refine A7 (l9 rfl _ _ (w.heap.size+1+1) _ (.bool true) rfl rfl (Ew _ _ _ ak)) rfl ⟨_,?_,h1,h2⟩;rw[decide_eq_true no]
theorem Ar(h:p:=by grind):p:=h
theorem mul_step(O C Q P R d e x y c c' M F:Nat)(G:Q=P*R)(h1:C+Q*d=O+Q*e)(h2:x*y+d+c=e+4294967296*c')(h3:O+c*Q=M+x*P*F):
  C+c'*(Q*4294967296)=M+x*P*(F+R*y):=Ar
def jA(m n i k O c:Nat):Prop:=O+c*4294967296^(i+k)=(m % 4294967296^i)*n+D m i*4294967296^i*(n % 4294967296^k)/\O<4294967296^(i+nl n)
theorem jA.start(m n i:Nat):jA m n i 0 ((m % 4294967296^i)*n) 0:=by
 refine⟨by simp[CD],?_⟩;rw[BC];exact Nat.mul_lt_mul'' (Bs _ (cF i)) (eA n)
theorem jA.step{m n i k O c:Nat}(h:jA m n i k O c)(C:k<nl n):
  jA m n i (k+1) (upd O (i+k) ((D m i*D n k+D O (i+k)+c) % 4294967296)) ((D m i*D n k+D O (i+k)+c) / 4294967296):=by
 refine⟨?_,nj h.2 no (Bs _ it)⟩;rw[cG n k,<-C1 i k 1,BO];exact mul_step O _ _ (4294967296^i) (4294967296^k) (D O (i+k)) _ (D m i) (D n k) c _ _ _ (BC _ _ _) (eW O (i+k) _) no h.1
variable{c:Nat}
theorem jA.last{O:Nat}(h:jA m n i (nl n) O c):upd O (i+nl n) c=(m % 4294967296^(i+1))*n:=by
 have h1:=eW O (i+nl n) c;rw[oQ h.2,CS,CL]at h1;have h2:=h.1;rw[xx]at h2;rw[h1,cG]
 grind
theorem Aw(h:p:=by simpa using G):p:=h
theorem qS(va vb:Value)(m n:Nat)(w:World)(ha:IsN w va m)(hb:IsN w vb n)(hm:nl m<=1000000000000)(hn:nl n<=1000000000000):
  AC AB 145 #[va,vb] w λe w'=>cY w (m*n) e w':=by
 obtain⟨a,ca,rfl,aq,ra⟩:=ha;obtain⟨b,cb,rfl,ar,rb⟩:=hb;have hw:mBw w (((w.alloc (.cells #[.slice a (nl m) ca] 31)).alloc (.cells #[.slice b (nl n) cb] 31)).alloc (.cells #[.slice none 0 0] 31)):=(((AF _ _).alloc (AE _) _).alloc Ad _).alloc (by simp;omega) _;go_enter Tryz.func145,Tryz.ntmps145
 go_upto_region 1 with(fail)
 go_cut [5] (λs5 wx=>∃g,s5= .slice (some ⟨g,0,none⟩) (nl m+nl n) (nl m+nl n)/\aY wx g (nl m+nl n) 0/\Made w wx (w.heap.size+1+1) g/\
   wx.cell? ⟨w.heap.size,0,none⟩=some (.slice a (nl m) ca)/\wx.cell? ⟨w.heap.size+1,0,none⟩=some (.slice b (nl n) cb))
 case first=>
  have G:=aY.made (((w.alloc (.cells #[.slice a (nl m) ca] 31)).alloc (.cells #[.slice b (nl n) cb] 31)).alloc (.cells #[.slice none 0 0] 31)) (nl m+nl n);go_wp2_with (at_make;refine bF rfl _ _ rfl _ _ _ _ (nl m+nl n) rfl rfl no no no ?_)
  go_meet;case rel=>exact⟨_,rfl,Aw,⟨hw.alloc (by simp;omega) _,no,Ad,Ad,Aj,Aj⟩,Aj,Aj⟩
 case rest=>
  obtain⟨g,rfl,G,C,an,P⟩:=hcut;have ao:=C.lt;go_wp2_with fail
  go_loopw [23] (λak wr=>∃i:Nat,i<=nl m/\ak= .int .i64 i/\aY wr g (nl m+nl n) ((m % 4294967296^i)*n)/\Bi g wc wr)
   (λi _=>nl m - (intOf i).toNat)
  case atStart=>exact⟨0,AY _,rfl,by simpa [CD]using G,AF _ _⟩
  case round=>
   obtain⟨i,hi,rfl,Y,I⟩:=hrel;have J:=C.step I;by_cases hlt:i<nl m
   ·have Z:=ra.mono J.below;obtain⟨b1,o1,rfl,h1⟩:=Z.cells no;have c1:=h1 i hlt;have c2:=(I.cell (p:=⟨w.heap.size+1,0,none⟩) (by show w.heap.size+1<g;omega)).trans P;have av:=cf m i;go_wp2_with fail
    go_loopw [8,31] (λs8 am wq=>∃k O c:Nat,k<=nl n/\am= .int .i64 k/\s8= .int .u64 (c:Int)/\c<4294967296/\aY wq g (nl m+nl n) O/\jA m n i k O c/\Bi g wc wq)
     (λ_ s _=>nl n - (intOf s).toNat)
    case atStart=>exact⟨0,(m % 4294967296^i)*n,0,AY _,rfl,rfl,it,Y,jA.start m n i,I⟩
    case round=>
     obtain⟨k,O,c,hk,rfl,rfl,hc,F,U,H⟩:=hrel;have ac:=C.step H;clear Y I J Z h1 c1 c2;have c2:=(H.cell (p:=⟨w.heap.size+1,0,none⟩) (by show w.heap.size+1<g;omega)).trans P;by_cases hlt2:k<nl n
     ·have ad:=rb.mono ac.below;obtain⟨b2,o2,rfl,h2⟩:=ad.cells no;have c3:=h2 k hlt2;have ax:=cf n k;have c4:=F.cell (p:=i+k) no;have f4:=F.frozen (i+k);have au:=cf O (i+k);have a0:((D m i:Nat):Int)*((D n k:Nat):Int)<=18446744065119617025:=by
       have h:=Nat.mul_le_mul (show D m i<=4294967295 by omega) (show D n k<=4294967295 by omega);have h':((D m i*D n k:Nat):Int)<=18446744065119617025:=no
       simpa using h'
      have ap:0<=((D m i:Nat):Int)*((D n k:Nat):Int):=Int.mul_nonneg no no;have HT:=U.step hlt2;have K:=F.store (p:=i+k) (e:=(D m i*D n k+D O (i+k)+c) % 4294967296) no (Bs _ it);go_wp2;go_roundw
      case rel=>exact⟨k+1,_,_,no,by go_num,Ad,by rw[Co it];omega,by simpa using K,HT,by simpa using H.setCell (p:=⟨g,i+k,none⟩) (AE _) _⟩
      case measure=>simp[intOf];omega
     ·obtain rfl:k=nl n:=no
      have c4:=F.cell (p:=i+nl n) no;have f4:=F.frozen (i+nl n);have K:=F.store (p:=i+nl n) (e:=c) no hc;rw[U.last]at K;have aa:=H.setCell (p:=⟨g,i+nl n,none⟩) (AE _) (.int .u32 (c:Int));go_wp2;go_roundw
      case rel=>exact⟨i+1,no,by go_num,K,aa⟩
      case measure=>simp[intOf];omega
   ·obtain rfl:i=nl m:=no
    rw[xx]at Y;go_wp2_with fail
    refine(gY _ (nl m+nl n) (nl m+nl n) (m*n) _ no (AE _) Y.rw').mono ?_;rintro e w1 ⟨rfl,V⟩;obtain⟨ab,ay⟩:=J.after V;go_wp2;exact A7 (eX rfl _ _ (w.heap.size+1+1) _ rfl (Ew _ _ _ ab)) rfl (J.fin Y V)
def cj(N d k:Nat):Nat:=4294967296^k*(N / 4294967296^k / d)
theorem rk(A x d:Nat)(C:0<d):(4294967296*A+x) / d=4294967296*(A / d)+(4294967296*(A % d)+x) / d/\(4294967296*A+x) % d=(4294967296*(A % d)+x) % d:=by
 have h:=Cf A d;have e:4294967296*A+x=d*(4294967296*(A / d))+(4294967296*(A % d)+x):=by
  have h2:4294967296*A=4294967296*(d*(A / d)+A % d):=by rw[h]
  rw[h2]
  grind
 rw[e];exact⟨EY C _ _,Nat.mul_add_mod _ _ _⟩
theorem me(N d k:Nat)(C:0<d):
  upd (cj N d (k+1)) k ((N / 4294967296^(k+1) % d*4294967296+D N k) / d)=cj N d k/\
  (N / 4294967296^(k+1) % d*4294967296+D N k) % d=N / 4294967296^k % d/\(N / 4294967296^(k+1) % d*4294967296+D N k) / d<4294967296:=by
 have h1:=rk (N / 4294967296^(k+1)) (D N k) d C;rw[<-cH N k]at h1;rw[BV (N / 4294967296^(k+1) % d) 4294967296];have F:(4294967296*(N / 4294967296^(k+1) % d)+D N k) / d<4294967296:=by
  rw[Co C];have:=Bs (N / 4294967296^(k+1)) C;have:=cf N k;omega
 refine⟨?_,h1.2.symm,F⟩;have h2:=eW (cj N d (k+1)) k ((4294967296*(N / 4294967296^(k+1) % d)+D N k) / d);have h3:D (cj N d (k+1)) k=0:=by
  unfold cj D;rw[BO,C0,Nat.mul_div_cancel_left _ (cF k),Nat.mul_mod_right]
 rw[h3,CS,CL]at h2;rw[h2];unfold cj;rw[h1.1,BO]
 grind
def RetShort(W:World)(L N d:Nat)(e:BB)(w':World):Prop:=
 ∃g,e= .returned (.tuple #[.slice (some ⟨g,0,none⟩) L L,.int .u32 ((N % d:Nat):Int)])/\W.heap.size<=g/\aY w' g L (N / d)/\mBw W w'
theorem c_short(a:Option AU)(L cap N d:Nat)(w:World)(P:Rw w a L N)(hL:L<=1000000000000)(Z:0<d)(aa:d<4294967296):
  AC AB 190 #[.slice a L cap,.int .u32 (d:Int)] w λe w'=>RetShort w L N d e w':=by
 go_enter Tryz.func190,Tryz.ntmps190
 go_upto_region 1 with(fail)
 go_cut [6] (λs5 wx=>∃g,s5= .slice (some ⟨g,0,none⟩) L L/\aY wx g L 0/\mBw w wx/\w.heap.size<=g/\g<wx.heap.size)
 case first=>
  have C:=aY.made w L;go_wp2_with (at_make;refine bF rfl _ _ rfl _ _ _ _ L rfl rfl no no no ?_)
  go_meet;case rel=>exact⟨_,rfl,C,(AF _ _).alloc (AE _) _,AE _,Ad⟩
 case rest=>
  obtain⟨g,rfl,C,G,H,ac⟩:=hcut;go_wp2_with fail
  go_loopw [7,8] (λs7 s8 wr=>∃k:Nat,k<=L/\s8= .int .i64 ((k:Int) - 1)/\s7= .int .u32 ((N / 4294967296^k % d:Nat):Int)/\aY wr g L (cj N d k)/\Bi g wc wr)
   (λ_ i _=>(intOf i+1).toNat)
  case atStart=>exact⟨L,AE _,rfl,by rw[Cz P.lt];simp,by unfold cj;rw[Cz P.lt];simpa using C,AF _ _⟩
  case round=>
   obtain⟨k,hk,rfl,rfl,I,F⟩:=hrel
   cases k with
   | zero=>
    have V:N / 4294967296^0 % d=N % d:=Ad
    have Y:cj N d 0=N / d:=by simp[cj]
    rw[Y]at I;rw[V];clear V Y;go_wp2;go_ret2
    exact⟨g,rfl,H,I,G.trans (F.mono H)⟩
   | succ k=>
    have U:=P.mono (G.trans (F.mono H));obtain⟨b1,o1,rfl,h1⟩:=U.cells no;have c1:=h1 k no;have c3:=I.cell (p:=k) no;have f3:=I.frozen k;have ab:=cf N k;have ad:=Bs (N / 4294967296^(k+1)) Z;have K:=me N d k Z;have J:=I.store (p:=k) no K.2.2;rw[K.1]at J;have HM:=AA K.2.1;clear K;have e:(((k+1:Nat):Int) - 1)=(k:Int):=no
    simp only[e];clear e;generalize N / 4294967296^(k+1) % d=r at *;go_wp2_with fail
    refine(c_div32 _ _ _ _ no no no no no).mono ?_;rintro e w1 ⟨rfl,q,rfl⟩;rw[show((r:Int)*4294967296+((D N k:Nat):Int)) / (d:Int)=(((r*4294967296+D N k) / d:Nat):Int)from Ad,show((r:Int)*4294967296+((D N k:Nat):Int)) % (d:Int)=((N / 4294967296^k % d:Nat):Int)from by rw[<-HM.out];simp];generalize (r*4294967296+D N k) / d=t at *;generalize hr':N / 4294967296^k % d=r' at *;have HR:=AA hr';clear hr';go_wp2;go_roundw
    case rel=>exact⟨k,no,rfl,by rw[HR.out],J,by first | exact(aN F q).setCell (p:=⟨g,k,none⟩) (AE _) _ | exact aN (F.setCell (p:=⟨g,k,none⟩) (AE _) _) q⟩
    case measure=>simp[intOf]
theorem rl{t:Nat}(C:k<64)(h1:2^k<=t)(h2:t<2^(k+1)):Lib.bitLen t=k+1:=by
 have:=Lib.bitLen_shift k t h1 (Bt h2 (E4 it no));have e:t / 2^k=1:=by
  apply Nat.div_eq_of_lt_le
  ·omega
  ·rw[BO]at h2;omega
 rw[this,e];rfl
def eF(N:Nat):Nat:=if N=0 then 0 else N.log2+1
theorem ur(h:N≠0):eF N=32*(nl N - 1)+Lib.bitLen (D N (nl N - 1)):=by
 have h1:=dV h;have h2:=rh h;have h3:=eA N;obtain⟨k,G⟩:∃k,nl N=k+1:=⟨nl N - 1,no⟩;rw[G]at h2 h3⊢;simp only[DH]at h2⊢;have C:D N k=N / 4294967296^k:=by
  unfold D;rw[Cn];rw[Co (cF k),<-EX];exact h3
 have ht:D N k≠0:=by rw[C];have:=Nat.div_pos h2 (cF k);omega
 have hb:=rl (t:=D N k) (k:=(D N k).log2) (by have:=cf N k;have:(D N k).log2<64:=(Er ht).2 no;exact this) (Nat.log2_self_le ht) Fx;rw[hb];unfold eF;rw[if_neg h];have K:N.log2=32*k+(D N k).log2:=by
  have F:=Nat.log2_self_le ht;have H:D N k<2^((D N k).log2+1):=Fx;have I:2^(32*k+(D N k).log2)<=N:=by
   rw[BC,<-zZ];rw[C]at F
   calc 4294967296^k*2^(D N k).log2<=4294967296^k*(N / 4294967296^k):=C2 _ (by rw[C];exact F)
    _<=N:=Nat.mul_div_le _ _
  have J:N<2^(32*k+(D N k).log2+1):=by
   rw[C1,BC,<-zZ,BV];rw[<-Co (cF k),<-C];exact H
  have P:=(Nat.le_log2 h).2 I;have U:=(Er h).2 J;omega
 omega
def dO(N s k:Nat):Nat:=N % 4294967296^k*2^s
theorem shAt_lt(N s k:Nat)(hs:s<32):dO N s k<4294967296^(k+1):=by
 unfold dO;rw[BO];exact Nat.mul_lt_mul'' (Bs _ (cF k)) (Bt (FL it hs) it)
theorem abl(N s k:Nat):dO N s (k+1)=dO N s k+4294967296^k*(D N k*2^s):=by
 unfold dO;rw[cG];grind
theorem ut(N s k:Nat):D (dO N s k) k<2^s:=by
 have h:dO N s k / 4294967296^k<2^s:=by
  rw[Co (cF k),BV];unfold dO;exact FW (Bs _ (cF k)) (D3 it)
 exact D4 (Nat.mod_le _ _) h
theorem abm(N s k:Nat)(hs:s<32):
  upd (upd (dO N s k) k (D (dO N s k) k+(D N k*2^s) % 4294967296)) (k+1) (D N k*2^s / 4294967296)=dO N s (k+1)/\
  D (dO N s k) k+(D N k*2^s) % 4294967296<4294967296/\D N k*2^s / 4294967296<4294967296:=by
 have hp:2^s ∣ 4294967296:=by
  have:(4294967296:Nat)=2^s*2^(32 - s):=by rw[<-BC,show s+(32 - s)=32 by omega]
  rw[this];exact Nat.dvd_mul_right _ _
 have h1:D (dO N s k) k+(D N k*2^s) % 4294967296<4294967296:=by
  have ht:=ut N s k;have I:2^s ∣(D N k*2^s) % 4294967296:=(Nat.dvd_mod_iff hp).2 (Nat.dvd_mul_left _ _);have C:(D N k*2^s) % 4294967296<4294967296:=Bs _ it;obtain⟨c,hc⟩:=I;obtain⟨e,J⟩:=hp;rw[hc]at C⊢;rw[J]at C⊢;have F:c<e:=Nat.lt_of_mul_lt_mul_left C;have:2^s*(c+1)<=2^s*e:=C2 _ F;rw[CG]at this;omega
 have h2:D N k*2^s / 4294967296<4294967296:=by
  rw[Co it];exact Nat.mul_lt_mul'' (cf N k) (Bt (FL it hs) it)
 refine⟨?_,h1,h2⟩;have K:=eW (dO N s k) k (D (dO N s k) k+(D N k*2^s) % 4294967296);have G:=eW (upd (dO N s k) k (D (dO N s k) k+(D N k*2^s) % 4294967296)) (k+1) (D N k*2^s / 4294967296);have H:D (upd (dO N s k) k (D (dO N s k) k+(D N k*2^s) % 4294967296)) (k+1)=0:=by
  rw[oB _ _ _ _ h1 no];exact oQ (shAt_lt N s k hs)
 rw[H,CS,CL]at G;rw[G,abl];have U:=Cf (D N k*2^s) 4294967296;rw[BO];generalize upd (dO N s k) k (D (dO N s k) k+(D N k*2^s) % 4294967296)=u at *;generalize D N k*2^s=t at *;generalize t / 4294967296=q at *;generalize t % 4294967296=r at *;generalize dO N s k=z at *;generalize 4294967296^k=P at *
 grind
theorem sh_or(N s k:Nat)(hs:s<32)(h2:D (dO N s k) k+(D N k*2^s) % 4294967296<4294967296):
  bits BinOp.or CT ((D (dO N s k) k:Nat):Int) (((D N k*2^s) % 4294967296:Nat):Int)=((D (dO N s k) k+(D N k*2^s) % 4294967296:Nat):Int):=by
 have hp:2^s ∣ 4294967296:=by
  have:(4294967296:Nat)=2^s*2^(32 - s):=by rw[<-BC,show s+(32 - s)=32 by omega]
  rw[this];exact Nat.dvd_mul_right _ _
 have C:2^s ∣(D N k*2^s) % 4294967296:=(Nat.dvd_mod_iff hp).2 (Nat.dvd_mul_left _ _);rw[u32_or_nat _ _ (cf _ _) (Bs _ it),Nat.or_comm,nat_join s _ _ (Nat.mod_eq_zero_of_dvd C) (ut N s k),Nat.add_comm]
def RetRow(W:World)(L N:Nat)(e:BB)(w':World):Prop:=
 ∃g,e= .returned (.slice (some ⟨g,0,none⟩) L L)/\W.heap.size<=g/\aY w' g L N/\mBw W w'
theorem rn(a:Option AU)(L cap N s:Nat)(w:World)(ra:Rw w a L N)(hL:L<=1000000000000)(hs:s<32):
  AC AB 243 #[.slice a L cap,.int .i64 (s:Int)] w λe w'=>RetRow w (L+1) (N*2^s) e w':=by
 go_enter Tryz.func243,Tryz.ntmps243
 go_upto_region 1 with(fail)
 go_cut [5] (λs5 wx=>∃g,s5= .slice (some ⟨g,0,none⟩) (L+1) (L+1)/\aY wx g (L+1) 0/\mBw w wx/\w.heap.size<=g/\g<wx.heap.size)
 case first=>
  have C:=aY.made w (L+1);go_wp2_with (at_make;refine bF rfl _ _ rfl _ _ _ _ (L+1) rfl rfl no no no ?_)
  go_meet;case rel=>exact⟨_,rfl,C,(AF _ _).alloc (AE _) _,AE _,Ad⟩
 case rest=>
  obtain⟨g,rfl,C,F,J,ak⟩:=hcut;go_wp2_with fail
  go_loopw [15] (λad wr=>∃k:Nat,k<=L/\ad= .int .i64 k/\aY wr g (L+1) (dO N s k)/\Bi g wc wr)
   (λi _=>L - (intOf i).toNat)
  case atStart=>exact⟨0,AY _,rfl,by unfold dO;simpa [CD]using C,AF _ _⟩
  case round=>
   obtain⟨k,hk,rfl,H,G⟩:=hrel;by_cases hlt:k<L
   ·have ac:=ra.mono (F.trans (G.mono J));obtain⟨b1,o1,rfl,h1⟩:=ac.cells no;have c1:=h1 k hlt;have c3:=H.cell (p:=k) no;have c4:=H.cell (p:=k+1) no;have f3:=H.frozen k;have f4:=H.frozen (k+1);have ab:=cf N k;obtain⟨HS,K,Z⟩:=abm N s k hs;have P:=sh_or N s k hs K;have ht:D N k*2^s<4294967296*4294967296:=Nat.mul_lt_mul'' ab (Bt (FL it hs) it);have I:=((H.store (p:=k) no K).store (p:=k+1) no Z);rw[HS]at I;clear HS;have V:=AA I;have U:=AA P;have aa:=(G.setCell (p:=⟨g,k,none⟩) (AE _) (.int .u32 ((D (dO N s k) k+(D N k*2^s) % 4294967296:Nat):Int))).setCell (p:=⟨g,k+1,none⟩) (AE _) (.int .u32 ((D N k*2^s / 4294967296:Nat):Int));clear I P;go_wp2;have Y:BE.wrap (((D N k:Nat):Int)*2^s)=((D N k*2^s:Nat):Int):=by
     have:(((D N k:Nat):Int)*2^s)=((D N k*2^s:Nat):Int):=Ad
     rw[this];rw[IntKind.wrap_u64];omega
    have e2:((D N k*2^s:Nat):Int) % 4294967296=(((D N k*2^s) % 4294967296:Nat):Int):=no
    have e3:((D N k*2^s:Nat):Int) / 4294967296 % 4294967296=((D N k*2^s / 4294967296:Nat):Int):=no
    rw[Y,e3,e2,U.out];go_roundw
    case rel=>exact⟨k+1,no,by go_num,V.out,aa⟩
    case measure=>simp[intOf];omega
   ·obtain rfl:k=L:=no
    have Y:dO N s k=N*2^s:=by unfold dO;rw[Cn ra.lt]
    rw[Y]at H;clear Y;go_wp2;go_ret;exact⟨g,rfl,J,H,F.trans (G.mono J)⟩
def gH(B T V2:Nat):Nat:=min (B - 1) (T / V2)
variable{top next first second:Nat}
theorem abn{last:Nat}(C:0<B)(I:0<first)(G:q*first+r=top*B+next)(H:gH B ((top*B+next)*B+last) (first*B+second)<=q)
  (hc:B<=q\/r*B+last<q*second):gH B ((top*B+next)*B+last) (first*B+second)+1<=q:=by
 have F:0<first*B+second:=by have:=Ey I C;omega
 rcases hc with hc | hc
 ·unfold gH at *;omega
 ·have h:((top*B+next)*B+last) / (first*B+second)<q:=by
   rw[Co F,<-G];generalize top*B+next=t at *;clear H;have:(q*first+r)*B+last=q*(first*B)+(r*B+last):=Ar
   rw[this,CG];omega
  unfold gH;omega
theorem ro{last:Nat}(C:0<B)(H:0<first)(G:q*first+r=top*B+next)(I:gH B ((top*B+next)*B+last) (first*B+second)<=q)
  (h1:q<B)(h2:q*second<=r*B+last):gH B ((top*B+next)*B+last) (first*B+second)=q:=by
 have F:0<first*B+second:=by have:=Ey H C;omega
 have h:q<=((top*B+next)*B+last) / (first*B+second):=by
  rw[D5 F,<-G];have:(q*first+r)*B+last=q*(first*B)+(r*B+last):=Ar
  rw[this,CG];omega
 unfold gH at *;omega
theorem uu{last:Nat}(G:0<B)(J:0<first)(H:q*first+r=top*B+next)(I:gH B ((top*B+next)*B+last) (first*B+second)<=q)
  (h1:top<=first)(h2:next<B)(h3:second<B)(hr:B<=r):gH B ((top*B+next)*B+last) (first*B+second)=q:=by
 have P:top*B<=first*B:=Db _ h1
 have C:q<B:=by
  rcases Bc q B with h | h
  ·exact h
  ·have F:=Db first h
   rw[BV B first]at F;omega
 refine ro G J H I C ?_;have K:q*second<=B*B:=Nat.mul_le_mul no no;have F:B*B<=r*B:=Db _ hr;omega
theorem uv{last:Nat}(F:0<B)(C:0<first)(h3:last<B):gH B ((top*B+next)*B+last) (first*B+second)<=(top*B+next) / first:=by
 have G:0<first*B+second:=by have:=Ey C F;omega
 have H:((top*B+next)*B+last) / (first*B+second)<(top*B+next) / first+1:=by
  rw[Co G];have h1:=Cf (top*B+next) first
  have h2:=Bs (top*B+next) C;generalize (top*B+next) / first=q at *
  generalize (top*B+next) % first=r at *
  generalize top*B+next=t at *;have e:(q+1)*(first*B+second)=t*B+(first - r)*B+(q+1)*second:=by
   obtain⟨z,rfl⟩:∃z,first=r+z:=⟨first - r,no⟩
   rw[<-h1,Nat.add_sub_cancel_left]
   grind
  rw[e];have I:1*B<=(first - r)*B:=Db _ no;omega
 unfold gH;omega
variable{s:Nat}
theorem lt_cast{l:Nat}(h:(r:Int)*4294967296+(l:Int)<(q:Int)*(s:Int)):r*4294967296+l<q*s:=by
 have e:((r*4294967296+l:Nat):Int)<((q*s:Nat):Int):=by simpa using h
 exact Int.ofNat_lt.1 e
theorem nlt_cast{l:Nat}(h:¬(r:Int)*4294967296+(l:Int)<(q:Int)*(s:Int)):q*s<=r*4294967296+l:=
 Nat.le_of_not_lt λC=>h (by
  have e:((r*4294967296+l:Nat):Int)<((q*s:Nat):Int):=Int.ofNat_lt.2 C;simpa using e)
set_option maxRecDepth 20000 in
theorem c_guess(top next last first second:Nat)(w:World)(h1:top<=first)(h2:next<4294967296)(h3:last<4294967296)(h4:first<4294967296)(h5:second<4294967296)(h6:0<first):
  AC AB 245 #[.int .u32 (top:Int),.int .u32 (next:Int),.int .u32 (last:Int),.int .u32 (first:Int),.int .u32 (second:Int)] w λe w'=>
   e= .returned (.int .u64 ((gH 4294967296 ((top*4294967296+next)*4294967296+last) (first*4294967296+second):Nat):Int))/\∃q,w'=w.drewN q:=by
 have ap:=or32 top next no no no no;have hv:((first:Int) !=0)=true:=by rw[bne_iff_ne];omega
 have ak:=Cf (top*4294967296+next) first
 have hr:=Bs (top*4294967296+next) h6;have hs:=uv (B:=4294967296) (next:=next) (second:=second) (top:=top) it h6 h3;have an:top*4294967296+next<18446744073709551616:=no
 have am:(top*4294967296+next) / first<18446744073709551616:=D4 (Nat.div_le_self _ _) an
 have HD:=AA ak;clear ak;have J:((top:Int)*4294967296+next) / (first:Int)=(((top*4294967296+next) / first:Nat):Int):=Ad
 have K:((top:Int)*4294967296+next) % (first:Int)=(((top*4294967296+next) % first:Nat):Int):=Ad
 have b1:0<=((top:Int)*4294967296+next) / (first:Int):=by rw[J];omega
 have b2:((top:Int)*4294967296+next) / (first:Int)<18446744073709551616:=by rw[J];omega
 have b3:0<=((top:Int)*4294967296+next) % (first:Int):=by rw[K];omega
 have b4:((top:Int)*4294967296+next) % (first:Int)<18446744073709551616:=by rw[K];omega
 have E1:=AA J;have E2:=AA K;clear J K;go_enter Tryz.func245,Tryz.ntmps245
 go_wp2_with fail
 go_quiet (fail)
 go_wp2_with fail
 rw[E1.out,E2.out];clear b1 b2 b3 b4 ap;generalize (top*4294967296+next) / first=q0 at *
 generalize (top*4294967296+next) % first=r0 at *
 have ac:=λ(q r:Nat)(G:q*first+r=top*4294967296+next)=>abn (B:=4294967296) (last:=last) (second:=second) (q:=q) (r:=r) it h6 G
 have aa:=λ(q r:Nat)(G:q*first+r=top*4294967296+next)=>ro (B:=4294967296) (last:=last) (second:=second) (q:=q) (r:=r) it h6 G
 have Z:=λ(q r:Nat)(G:q*first+r=top*4294967296+next)(hq)=>uu (B:=4294967296) (last:=last) (second:=second) (q:=q) (r:=r) it h6 G hq h1 h2 h5
 generalize htq:gH 4294967296 ((top*4294967296+next)*4294967296+last) (first*4294967296+second)=tq at *;have H:=AA htq;clear htq;have U:=AA ac;have ab:=AA aa;have P:=AA Z;clear ac aa Z;go_loopw [12,13] (λaq ar wr=>∃q r:Nat,aq= .int .u64 (q:Int)/\ar= .int .u64 (r:Int)/\(q:Int)<18446744073709551616/\(r:Int)<4294967296/\Hid (q*first+r=top*4294967296+next)/\tq<=q/\wr=w.drewN nq) (λi _ _=>(intOf i).toNat)
 case atStart=>exact⟨q0,r0,rfl,rfl,no,no,AA (by rw[BV];exact HD.out),hs,rfl⟩
 case round=>
  obtain⟨q,r,rfl,rfl,hq,ax,G,V,rfl⟩:=hrel;clear hs hr am HD E1 E2;have av:=or32 r last no no no no;by_cases hc1:4294967296<=(q:Int)
  ·have ad:=U.out q r G.out V (.inl no);by_cases hb:4294967296<=(r:Int)+(first:Int)
   ·skip
    have C:(q - 1)*first+(r+first)=top*4294967296+next:=by
     rw[<-G.out];obtain⟨z,rfl⟩:∃z,q=z+1:=⟨q - 1,no⟩;rw[DH,CU];omega
    have F:=AA C;clear C;have Y:=AA (P.out (q - 1) (r+first) F.out no no);go_upto_if 49 with(fail)
    go_wp2;go_ret;refine⟨?_,nq,rfl⟩;rw[H.out,Y.out];refine congrArg BF (congrArg (AK BE) ?_);omega
   ·skip
    have C:(q - 1)*first+(r+first)=top*4294967296+next:=by
     rw[<-G.out];obtain⟨z,rfl⟩:∃z,q=z+1:=⟨q - 1,no⟩;rw[DH,CU];omega
    have F:=AA C;clear C;have ao:(r:Int)+(first:Int)<4294967296:=no
    go_upto_if 49 with(fail)
    go_wp2;go_roundw
    case rel=>exact⟨q - 1,r+first,by rw[show((q:Int) - 1)=((q - 1:Nat):Int)from no],by go_num,no,no,F,no,by first | rfl | trivial⟩
    case measure=>simp[intOf];omega
  ·obtain⟨ay,a0⟩:=mul_bd q second no h5;have au:(q:Int)<4294967296:=no
   by_cases hc2:(r:Int)*4294967296+(last:Int)<(q:Int)*(second:Int)
   ·have I:=lt_cast hc2;have ad:=U.out q r G.out V (Or.inr I);clear I;by_cases hb:4294967296<=(r:Int)+(first:Int)
    ·skip
     have C:(q - 1)*first+(r+first)=top*4294967296+next:=by
      rw[<-G.out];obtain⟨z,rfl⟩:∃z,q=z+1:=⟨q - 1,no⟩;rw[DH,CU];omega
     have F:=AA C;clear C;have Y:=AA (P.out (q - 1) (r+first) F.out no no);go_upto_if 49 with(fail)
     go_wp2;go_ret;refine⟨?_,nq,rfl⟩;rw[H.out,Y.out];refine congrArg BF (congrArg (AK BE) ?_);omega
    ·skip
     have C:(q - 1)*first+(r+first)=top*4294967296+next:=by
      rw[<-G.out];obtain⟨z,rfl⟩:∃z,q=z+1:=⟨q - 1,no⟩;rw[DH,CU];omega
     have F:=AA C;clear C;have ao:(r:Int)+(first:Int)<4294967296:=no
     go_upto_if 49 with(fail)
     go_wp2;go_roundw
     case rel=>exact⟨q - 1,r+first,by rw[show((q:Int) - 1)=((q - 1:Nat):Int)from no],by go_num,no,no,F,no,by first | rfl | trivial⟩
     case measure=>simp[intOf];omega
   ·have I:=nlt_cast hc2;have Y:=AA (ab.out q r G.out V no I);clear I;go_wp2;go_ret;refine⟨?_,nq,rfl⟩;rw[H.out,Y.out];rfl
theorem red_step(C U F q G x b c H c' A R Q I e d:Nat)(J:Q=A*R)(h0:C+A*(q*G)=U+(b+c)*Q)(ht:q*x+c=I+4294967296*c')(hs:e+I+b=d+4294967296*H)(K:F+Q*d=C+Q*e):
  F+A*(q*(G+R*x))=U+(H+c')*(Q*4294967296):=Ar
theorem red_top(C U F H b c G A R Q e d:Nat)(I:Q=A*R)(h0:C+A*H=U+(b+c)*Q)(hs:e+c+b=d+4294967296*G)(J:F+Q*d=C+Q*e):
  F+A*H=U+G*(Q*4294967296):=Ar
theorem red_back(C U F G x c c' A R Q e d:Nat)(H:Q=A*R)(h0:C+c*Q=U+A*G)(hs:d+x+c=e+4294967296*c')(I:F+Q*d=C+Q*e):
  F+c'*(Q*4294967296)=U+A*(G+R*x):=Ar
theorem uw(C U F V c k A R Q e d:Nat)(G:Q=A*R)(h0:C+c*Q=U+A*V)(hs:d+c=e+4294967296*k)(H:F+Q*d=C+Q*e):
  F+k*(Q*4294967296)=U+A*V:=Ar
variable{U C A V:Nat}
theorem red_yes(F:0<A)(G:0<V)(h:C+A*(q*V)=U)(H:U / A / V<=q):q=U / A / V/\C=U - A*(U / A / V*V):=by
 have h1:q*V<=U / A:=by rw[D5 F,BV];omega
 have h2:q<=U / A / V:=by rw[D5 G];exact h1
 have h3:q=U / A / V:=no
 exact⟨h3,by rw[<-h3];omega⟩
variable{M:Nat}
theorem red_no(F:0<A)(G:0<V)(h:C+A*(q*V)=U+M)(I:C<M)(J:U / A / V<=q)(H:q<=U / A / V+1):q=U / A / V+1:=by
 have h0:U<A*(q*V):=no
 have h1:U / A / V<q:=by
  rw[Co G,Co F,BV];exact h0
 omega
variable{F:Nat}
theorem red_fin(J:0<A)(K:0<V)(h:F+A*((q+1)*V)=U+M)(G:q=U / A / V)(hb:C+k*M=F+A*V)(H:C<M)(I:k<=1):C=U - A*(U / A / V*V):=by
 rw[<-G];have h1:q*V<=U / A:=by rw[G];exact Nat.div_mul_le_self _ _
 have h2:A*(q*V)<=U:=by
  have:=C2 A h1;have:=Nat.mul_div_le U A;omega
 have h3:A*((q+1)*V)=A*(q*V)+A*V:=Ar
 rw[h3]at h;rcases Nat.le_one_iff_eq_zero_or_eq_one.1 I with rfl | rfl
 ·simp only[Nat.zero_mul,CL]at hb;omega
 ·simp only[Nat.one_mul]at hb;omega
theorem aab(w:World)(row:Option Nat):w.grownBy w row:=⟨rfl,rfl,rfl,AE _,λ_ _ _=>rfl⟩
theorem iT{wr:World}{p:Nat}(h:w.grownBy wr (some g))(v:Value):w.grownBy (wr.setCell ⟨g,p,none⟩ v) (some g):=
 ⟨h.os,h.tape,h.output,by simpa using h.size,λk F C=>(C3 _ _ _ _ (λe=>C (by rw[e]))).trans (h.block k F C)⟩
variable{row:Option Nat}
theorem Dig.kept(h:Dig w b off L N)(F:w.grownBy w' row)(C:some b≠row):Dig w' b off L N:=
 λj G=>F.cell (h j G) C
def ux(x y c:Nat):Nat:=(x+8589934592 - y - c) % 4294967296
def uy(x y c:Nat):Nat:=if x<y+c then 1 else 0
theorem uz{x y:Nat}(C:x<4294967296)(hy:y<4294967296)(hc:c<=1):ux x y c+y+c=x+4294967296*uy x y c/\ux x y c<4294967296/\uy x y c<=1:=by
 unfold ux uy;split<;>omega
theorem uB(x y c:Nat)(w:World)(G:x<4294967296)(hy:y<4294967296)(hc:c<=1):
  AC AB 203 #[.int .u32 (x:Int),.int .u32 (y:Int),.int .u32 (c:Int)] w λe w'=>
   e= .returned (.tuple #[.int .u32 ((ux x y c:Nat):Int),.int .u32 ((uy x y c:Nat):Int)])/\w=w':=by
 refine(sQ _ _ _ _ no no no no no no).mono ?_;rintro e w' ⟨rfl,rfl⟩;have C:((x:Int) - y - c) % 4294967296=((ux x y c:Nat):Int):=by unfold ux;omega
 have F:borrow (x:Int) (y:Int) (c:Int)=((uy x y c:Nat):Int):=by unfold uy borrow;split<;>split<;>omega
 rw[C,F];exact Ai
theorem c_add32n(x y c:Nat)(w:World)(C:x<4294967296)(hy:y<4294967296)(hc:c<=1):
  AC AB 201 #[.int .u32 (x:Int),.int .u32 (y:Int),.int .u32 (c:Int)] w λe w'=>
   e= .returned (.tuple #[.int .u32 (((x+y+c) % 4294967296:Nat):Int),.int .u32 (((x+y+c) / 4294967296:Nat):Int)])/\w=w':=by
 refine(sO _ _ _ _ no no no no no no).mono ?_;rintro e w' ⟨rfl,rfl⟩;exact⟨Ad,rfl⟩
def RetRed(W:World)(gu Lu U A V:Nat)(e:BB)(w':World):Prop:=
 e= .returned (.int .u32 ((U / A / V:Nat):Int))/\aY w' gu Lu (U - A*(U / A / V*V))/\W.grownBy w' (some gu)
set_option maxHeartbeats 1000000 in
theorem c_reduce(gu Lu cu gv cv n at' U V q:Nat)(w:World)(hu:aY w gu Lu U)(hv:Dig w gv 0 n V)(a5:V<4294967296^n)(a7:gv≠gu)(hL:at'+n<Lu)(cz:Lu<=60000000000000)(hq:q<4294967296)
  (aq:0<V)(a4:U<4294967296^(at'+n+1))(hq1:U / 4294967296^at' / V<=q)(a9:q<=U / 4294967296^at' / V+1):
  AC AB 244 #[.slice (some ⟨gu,0,none⟩) Lu cu,.slice (some ⟨gv,0,none⟩) n cv,.int .i64 (at':Int),.int .u64 (q:Int)] w λe w'=>RetRed w gu Lu U (4294967296^at') V e w':=by
 have a1:=AA hq1;have bi:=AA a9;have bp:=AA a4;have a3:=AA a5;clear hq1 a9 a4 a5;go_enter Tryz.func244,Tryz.ntmps244
 go_wp2_with fail
 go_loopw [9,10,19] (λs9 cl cn wr=>∃i I c b:Nat,i<=n/\cn= .int .i64 i/\s9= .int .u64 (c:Int)/\cl= .int .u32 (b:Int)/\c<4294967296/\b<=1/\aY wr gu Lu I/\w.grownBy wr (some gu)/\
   Hid (I<4294967296^(at'+n+1)/\I+4294967296^at'*(q*(V % 4294967296^i))=U+(b+c)*4294967296^(at'+i)))
  (λ_ _ i _=>n - (intOf i).toNat)
 case atStart=>exact⟨0,U,0,0,AY _,rfl,rfl,rfl,it,it,hu,aab _ _,AA ⟨bp.out,by simp[CD]⟩⟩
 case round=>
  obtain⟨i,I,c,b,hi,rfl,rfl,rfl,hc,hb,ho,ab,P⟩:=hrel;by_cases hlt:i<n
  ·have ay:=hv.kept ab (by simpa using a7);have c1:=ay i hlt;have G:=ho.cell (p:=at'+i) no;have f2:=ho.frozen (at'+i);have b8:=cf V i;have Y:=cf I (at'+i);obtain⟨c4,cd⟩:=mul_bd q (D V i) hq b8;simp only[A5]at c1;go_wp2_with fail
   have bb:(q*D V i+c) % 4294967296<4294967296:=Bs _ it;have cc:(q*D V i+c) / 4294967296<4294967296:=by rw[Co it];have e:((q*D V i:Nat):Int)<=18446744065119617025:=(by simpa using cd);omega
   have b1:=AA (Nat.mod_add_div (q*D V i+c) 4294967296);rw[show((q:Int)*((D V i:Nat):Int)+(c:Int)) % 4294967296=(((q*D V i+c) % 4294967296:Nat):Int)from Ad,show((q:Int)*((D V i:Nat):Int)+(c:Int)) / 4294967296=(((q*D V i+c) / 4294967296:Nat):Int)from Ad];generalize (q*D V i+c) % 4294967296=tl at *;generalize (q*D V i+c) / 4294967296=c' at *;refine(uB _ _ _ _ Y bb hb).mono ?_;rintro e w1 ⟨rfl,rfl⟩;obtain⟨s1,s2,s3⟩:=uz Y bb hb;have ax:=AA s1;clear s1;generalize ux (D I (at'+i)) tl b=e at *;generalize uy (D I (at'+i)) tl b=b' at *;have J:=ho.store (p:=at'+i) no s2;go_wp2;go_roundw
   case rel=>exact⟨i+1,_,c',b',no,by go_num,rfl,rfl,cc,s3,J,iT ab _,AA ⟨nj P.out.1 no s2,by
     have h:=red_step I U _ q (V % 4294967296^i) (D V i) b c b' c' (4294967296^at') (4294967296^i) (4294967296^(at'+i)) tl e _ (BC _ _ _) P.out.2 b1.out.symm ax.out (eW I (at'+i) e);rw[<-BO,<-cG]at h;exact h⟩⟩
   case measure=>simp[intOf];omega
  ·obtain rfl:i=n:=no
   have G:=ho.cell (p:=at'+i) no;have f2:=ho.frozen (at'+i);have Y:=cf I (at'+i);go_wp2_with fail
   refine(uB _ _ _ _ Y hc hb).mono ?_;rintro e w1 ⟨rfl,rfl⟩;obtain⟨s1,s2,s3⟩:=uz Y hc hb;have ax:=AA s1;clear s1;generalize ux (D I (at'+i)) c b=e at *;generalize uy (D I (at'+i)) c b=b' at *;have J:=ho.store (p:=at'+i) no s2;have an:=iT (p:=at'+i) ab (.int .u32 (e:Int));have ao:=nj P.out.1 (show at'+i<at'+i+1 by omega) s2;have aa:=red_top I U _ (q*V) b c b' (4294967296^at') (4294967296^i) (4294967296^(at'+i)) e _ (BC _ _ _) (by have:=P.out.2;rwa [Cn a3.out]at this) ax.out (eW I (at'+i) e);rw[show 4294967296^(at'+i)*4294967296=4294967296^(at'+i+1)from(BO ..).symm]at aa;have b9:=J.frozen (at'+i);have b0:=J.cell (p:=at'+i) no;generalize hU1:upd I (at'+i) e=U1 at *;have ak:=AA aa;have ad:=AA ao;clear aa ao hU1;by_cases hb0:b'=0
   ·have bt:(((b':Nat):Int)==0)=true:=by rw[beq_iff_eq];omega
    have HY:=AA (red_yes (cF at') aq (by have:=ak.out;rw[hb0]at this;simpa using this) a1.out);have cq:=AA hb0;clear hb0;go_wp2;go_ret;rw[HY.out.2]at J;refine⟨?_,J,an⟩;rw[<-HY.out.1];exact congrArg BF (congrArg (AK CT) no)
   ·have bt:(((b':Nat):Int)==0)=false:=by rw[beq_eq_false_iff_ne];omega
    have be:=AA (show b'=1 by omega);clear hb0;go_wp2_with fail
    clear G f2 Y b9 b0 ab ho;generalize hwo:wr.setCell ⟨gu,at'+i,none⟩ (.int .u32 (e:Int))=wo at *;clear hwo
    go_loopw [14,77] (λcm cp wq=>∃j F G:Nat,j<=i/\cp= .int .i64 j/\cm= .int .u32 (G:Int)/\G<=1/\aY wq gu Lu F/\w.grownBy wq (some gu)/\
      Hid (F<4294967296^(at'+i+1)/\F+G*4294967296^(at'+j)=U1+4294967296^at'*(V % 4294967296^j)))
     (λ_ s _=>i - (intOf s).toNat)
    case atStart=>exact⟨0,U1,0,AY _,rfl,rfl,it,J,an,AA ⟨ad.out,by rw[DJ,CD,CS,Nat.zero_mul]⟩⟩
    case round=>
     obtain⟨j,F,G,hj,rfl,rfl,bz,ac,au,K⟩:=hrel;have a6:=cf F (at'+j);have cr:=ac.cell (p:=at'+j) no;have cx:=ac.frozen (at'+j);by_cases hlt:j<i
     ·have ay:=hv.kept au (by simpa using a7);have bq:=ay j hlt;have b2:=cf V j;simp only[A5]at bq;go_wp2_with fail
      refine(c_add32n _ _ _ _ a6 b2 bz).mono ?_;rintro e2 w2 ⟨rfl,rfl⟩;have cb:=AA (Nat.mod_add_div (D F (at'+j)+D V j+G) 4294967296).symm;have Z:(D F (at'+j)+D V j+G) % 4294967296<4294967296:=Bs _ it;have bO:(D F (at'+j)+D V j+G) / 4294967296<=1:=no
      generalize (D F (at'+j)+D V j+G) % 4294967296=e2 at *;generalize (D F (at'+j)+D V j+G) / 4294967296=c3 at *;have H:=ac.store (p:=at'+j) no Z;go_wp2;go_roundw
      case rel=>exact⟨j+1,_,c3,no,by go_num,rfl,bO,H,iT au _,AA ⟨nj K.out.1 no Z,by
        have h:=red_back F U1 _ (V % 4294967296^j) (D V j) G c3 (4294967296^at') (4294967296^j) (4294967296^(at'+j)) e2 _ (BC _ _ _) K.out.2 cb.out (eW F (at'+j) e2);rw[<-BO,<-cG]at h;exact h⟩⟩
      case measure=>simp[intOf];omega
     ·obtain rfl:j=i:=no
      have hk:=AA (Nat.mod_add_div (D F (at'+j)+G) 4294967296).symm;have Z:(D F (at'+j)+G) % 4294967296<4294967296:=Bs _ it;have H:=ac.store (p:=at'+j) no Z;have ap:=nj K.out.1 (show at'+j<at'+j+1 by omega) Z;have ar:=uw F U1 _ V G ((D F (at'+j)+G) / 4294967296) (4294967296^at') (4294967296^j) (4294967296^(at'+j)) ((D F (at'+j)+G) % 4294967296) _ (BC _ _ _) (by have:=K.out.2;rwa [Cn a3.out]at this) hk.out (eW F (at'+j) _);rw[show 4294967296^(at'+j)*4294967296=4294967296^(at'+j+1)from(BO ..).symm]at ar;have C:=ak.out;rw[be.out,Nat.one_mul]at C;have av:=red_no (cF at') aq C ad.out a1.out bi.out;have am:=red_fin (cF at') aq (by rw[av]at C;exact C) rfl ar ap no;rw[am]at H;have a0:=AA av;have a2:=AA H;clear am av C ar ap H;have hq1:1<=q:=by rw[a0.out];exact Nat.le_add_left _ _
      have ca:=iT (p:=at'+j) au (.int .u32 (((D F (at'+j)+G) % 4294967296:Nat):Int));go_wp2;go_ret;refine⟨?_,by simpa using a2.out,by simpa using ca⟩;refine congrArg BF (congrArg (AK CT) ?_);have h:=a0.out;generalize U / 4294967296^at' / V=z at h⊢;omega
def jq(w:World)(base:Nat)(a:Option AU)(L N:Nat):Prop:=
 0<L->∃g,a=some ⟨g,0,none⟩/\base<=g/\Dig w g 0 L N/\∀j,j<L->w.frozen? ⟨g,j,none⟩=false
theorem jq.rw'(h:jq w base a L N)(F:N<4294967296^L):Rw w a L N:=
 ⟨F,λC=>by obtain⟨g,rfl,_,G,_⟩:=h C;exact⟨g,0,rfl,G⟩⟩
theorem jq.mono(h:jq w base a L N)(hb:mBw w w'):jq w' base a L N:=λC=>by
 obtain⟨g,rfl,G,F,hf⟩:=h C;exact⟨g,rfl,G,F.mono hb (F.lt C),λj H=>(hb.frozen (p:=⟨g,j,none⟩) (F.lt C)).trans (hf j H)⟩
theorem jq.newN{cap:Nat}(h:jq w base a (nl N) N)(hc:nl N<=cap):aU base w (.agg #[.slice a (nl N) cap]) N:=
 ⟨a,cap,rfl,hc,λC=>by obtain⟨g,rfl,G,F,hf⟩:=h C;exact⟨g,0,rfl,G,F,λj H=>by rw[A5];exact hf j H⟩⟩
theorem e8(h:w.grownBy w' row)(B:Nat)(C:B<=w.heap.size)(hr:∀k,row=some k->B<=k):Bi B w w':=(AF B w).grown h C hr
theorem kT(w:World)(base:Nat)(t ty e:TypeId)(i:TypeInfo)(size:Nat)(ht:P.underlying t=some (.slice e))(hi:P.info? e=some i)
  (v:Value)(n:Nat)(xs:List Value)(C:w.ownsRow base e size v n xs)(cap:Nat):
  (BM #[t,t] ty #[v,.slice none 0 cap]).run P w= .ok v w:=by
 rcases C.2 with⟨rfl,rfl⟩ | ⟨g,c,cur,rfl,_,_,F,_⟩
 ·simp[BM,run_underlying ht,sizeOf,typeInfo,hi,Builtin.lenOf,EA]
 ·simp[BM,run_underlying ht,sizeOf,typeInfo,hi,Builtin.lenOf,EA,F,storeCells]
variable{a:Act}
theorem fX{o:Oper} 
  (hg:o.guard=none)(s x:AP)(aa:o.op=Op.call {callee:=Callee.builtin Builtin.append,args:=#[s,x],argTypes:=#[29,29]})
  (base:Nat)(v:Value)(hs:a.eval s=v)(C:w.ownsRow base 237 1 v 0 [])(G:base<=w.heap.size)(ao:Option AU)(L cap N:Nat)(hx:a.eval x= .slice ao L cap)(hr:Rw w ao L N)(hL:L<=30000000000000)
  (hK:∀a' c' w',jq w' base a' L N->L<=c'->w.grownBy w' v.ownBlock->wpList AB ops Q rest (a.put o.dst (.slice a' L c')) w'):
  wpList AB ops Q (o::rest) a w:=by
 refine BA hg λK J=> ?_
 obtain⟨i,hi,an,ap,aq⟩:=DF oT;have fin:∀v' w',w'.ownsRow base 237 1 v' L ((Bj L).map λj=>AK .u32 ((D N j:Nat):Int))->w.grownBy w' v.ownBlock->K (a.put o.dst v') w':=by
  intro v' w' ho V;rcases ho.2 with⟨rfl,rfl⟩ | ⟨g,c,cur,rfl,ak,Y,am,ar,au,I⟩
  ·exact J _ _ (hK none 0 w' (λh=>no) (AE _) V)
  ·refine J _ _ (hK _ c w' (λh=>⟨g,rfl,ak,λj Z=> ?_,λj Z=>En w' g j cur _ Y⟩) am V);rw[A5,Em w' g j cur _ (0,0) Y];have h1:(cur.toList.take (L*1))[j]? =some (.int .u32 ((D N j:Nat):Int)):=by rw[I];simp[Z]
   rw[BI]at h1;split at h1
   ·simpa using h1
   ·cases h1
 cases ao with
 | none=>
  have ab:L=0:=by
   rcases Dc L with h | h
   ·exact h
   ·obtain⟨b,off,h1,_⟩:=hr.cells h;cases h1
  subst ab;have F:=kT (P:=AB) w base 29 o.type 237 i 1 Eu hi v 0 [] C cap;unfold Bk;simp[execOp,aa,resolve,invoke,builtin,hs,hx,F,AQ];exact fin v w At (aab _ _)
 | some ad=>
  have H:∀j u,((Bj L).map λj=>AK .u32 ((D N j:Nat):Int))[j]? =some u->w.cell? (ad.add j)=some u:=by
   intro j u hu;have Z:j<L:=by
    have:=(AX.1 hu).1;simpa using this
   obtain⟨b,off,ac,hd⟩:=hr.cells no;cases ac;have U:(⟨b,off,none⟩:AU).add j=⟨b,off+j,none⟩:=by unfold Addr.add;split<;>simp_all
   rw[U,hd j Z];simpa [Z]using hu
  obtain⟨v',w',F,h1,h2,_⟩:=run_append_own (P:=AB) w base 29 o.type 237 i (.int .u32 0) 1 4 Eu hi an ap aq rfl it v 0 [] C
   ad L cap ((Bj L).map λj=>AK .u32 ((D N j:Nat):Int)) Ad H (by intro u hu;obtain⟨_,_,rfl⟩:=Ba.1 hu;rfl) (by simp only[maxLen];omega) no G
  unfold Bk;simp[execOp,aa,resolve,invoke,builtin,hs,hx,F,AQ];exact fin v' w' (by simpa using h1) h2
def Rd{α:Type}(s:Sem α):Prop:=∀P w x w',s.run P w= .ok x w'->w'=w
variable{α:Type}
theorem Rd.pure(a:α):Rd (Pure.pure a:Sem α):=λP w x w' h=>by
 simp only[Bw]at h;cases h;rfl
theorem Rd.bind{β:Type}{s:Sem α}{f:α->Sem β}(hs:Rd s)(hf:∀a,Rd (f a)):Rd (s >>=f):=λP w x w' h=>by
 rw[AH]at h
 cases hr:s.run P w with
 | ok a w1=>
  rw[hr,CM]at h;have h1:=hs P w a w1 hr;have h2:=hf a P w1 x w' h;rw[h2,h1]
 | halt e w1=>rw[hr]at h;simp[AQ]at h
theorem Rd.load(a:AU):Rd (Go.load a):=λP w x w' h=>by
 unfold Go.load at h;simp only[Sem.run]at h;split at h
 ·cases h;rfl
 ·split at h
  ·cases h;rfl
  ·cases h
theorem Rd.program:Rd Go.program:=λP w x w' h=>by
 simp[Go.program,Sem.run]at h;exact h.2.symm
theorem Rd.stuck(C:String):Rd (Go.stuck C:Sem α):=λP w x w' h=>by
 simp[Go.stuck,Sem.run]at h
theorem Rd.loadCellsFrom(a:AU):∀(n i:Nat)(C:Array Value),Rd (Go.loadCellsFrom a i n C)
 | 0,i,C=>Rd.pure _
 | n+1,i,C=>Rd.bind (Rd.load _) λv=>Rd.loadCellsFrom a n (i+1) (C.push v)
theorem Rd.typeInfo(t:TypeId):Rd (Go.typeInfo t):=Rd.bind Rd.program λp=>by
 cases p.info? t with
 | none=>exact Rd.stuck _
 | some i=>exact Rd.pure _
theorem Rd.underlying(t:TypeId):Rd (Go.underlying t):=Rd.bind Rd.program λp=>by
 cases p.underlying t with
 | none=>exact Rd.stuck _
 | some i=>exact Rd.pure _
theorem Rd.loadVar(t:TypeId)(a:AU):Rd (Go.loadVar t a):=by
 refine Rd.bind (Rd.bind (Rd.underlying t) λd=> ?_) λb=> ?_
 ·cases d<;>exact Rd.pure _
 ·cases b
  ·exact Rd.load _
  ·exact Rd.bind (Rd.bind (Rd.typeInfo t) λi=>Rd.pure _) λn=>Rd.bind (Rd.loadCellsFrom a n 0 #[]) λcs=>Rd.pure _
theorem Rd.loadAt(t:TypeId)(x:Value):Rd (CV t x):=by
 refine Rd.bind ?_ λa=>Rd.loadVar t a
 cases x with
 | pointer p=>
  cases p with
  | none=>exact Rd.stuck _
  | some a=>exact Rd.pure _
 | _=>exact Rd.stuck _
def fY(o:Oper):Bool:=match o.op with | .load .. =>true | _=>false
variable{o:Oper}
theorem xC(G:fY o=true){ρ:AP->Value}{n:Next}(h:(execOp ρ o).run P w= .ok n w'):(∃v,n= .value v)/\w'=w:=by
 obtain⟨H,op,ty,pos,after,F⟩:=o;unfold fY at G;cases op<;>first | cases G | skip
 rename_i t x;have C:((CV t (ρ x)) >>=λv=>(Pure.pure (Next.value v):Sem Next)).run P w= .ok n w':=h;refine⟨?_,Rd.bind (Rd.loadAt t (ρ x)) (λv=>Rd.pure _) P w n w' C⟩;rw[AH]at C
 cases hr:(CV t (ρ x)).run P w with
 | ok a w1=>rw[hr,CM,Bw]at C;cases C;exact⟨a,rfl⟩
 | halt e w1=>rw[hr]at C;simp[AQ]at C
section
variable {P:AW} {ops:Array Oper} {Q:Exit->Act->World->Prop} {md:Region.Mode}
def mf(P:AW)(ops:Array Oper)(o:Oper)(v:Value)(a:Act)(w:World):Prop:=
 A6 o (yielded ops a.tmps)=true/\(execOp a.eval o).run P w= .ok (.value v) w
def uE(md:Region.Mode)(ops:Array Oper)(listed:Array Bool)(i t:Nat):Bool:=
 (Bj ops.size).all λj=>match ops[j]? with
  | none=>true
  | some oj=>
   if t<=j then !listed.getD j true && oj.after.any (λe=>Region.binds md e && (e.on==i || decide (t<=e.on)))
   else j==i || listed.getD j true || (fY oj && (match ops[i]? with | some oi=>oi.apart ops oj | none=>false))
theorem np{t:Nat}{J:Oper}(hi:ops[i]? =some J)(hit:i<t)(U:fY J=true)(hQ:∀c a w,Q (.panic c) (a.put J.dst v) w->Q (.panic c) a w)
  (aq:∀j I,ops[j]? =some I->t<=j->∃e∈I.after,Region.binds md e=true/\(e.on=i\/t<=e.on)):
  ∀(F:Nat)(C:Array Bool)(a:Act)(w:World),C.size=ops.size->
   (∀j,t<=j->C.getD j false=false)->
   (∀j I,ops[j]? =some I->j<t->j≠i->C.getD j true=false->fY I=true/\J.apart ops I=true)->
   i∈BY md ops C->mf P ops J v a w->
   wpAny P md ops Q F (C.setIfInBounds i true) (a.put J.dst v) w->wpAny P md ops Q (F+1) C a w:=by
 have a2:∀cs b,J.op≠ .select cs b:=λcs b h=>by unfold fY at U;rw[h]at U;cases U
 have V:∀ {a:Act} {w:World} {K:Act->World->Prop},mf P ops J v a w->K (a.put J.dst v) w->wpOp P ops Q i K a w:=by
  intro a w K hy hK;unfold wpOp;simp only[hi,hy.1,if_true];exact .inl (by simp only[Bk,hy.2,Oper.upon];exact hK)
 have below:∀ {C:Array Bool},(∀j,t<=j->C.getD j false=false)->i∈BY md ops C->∀j,j∈BY md ops C->j<t:=by
  intro C G hr j hj;rcases Bc j t with h | h
  ·exact h
  ·obtain⟨_,I,ad,an⟩:=mem_ready.1 hj;obtain⟨e,he,hb,aa⟩:=aq j I ad h;have h1:=an e he hb;rcases aa with aa | aa
   ·have h0:=(mem_ready.1 hr).1;rw[aa]at h1;rcases Bc i C.size with h' | h'
    ·simp[h']at h0 h1;rw[h0]at h1;cases h1
    ·simp[Fy h']at h1
   ·rw[G _ aa]at h1;cases h1
 intro F
 induction F with
 | zero=>
  intro C a w _ G _ hr hy H;refine⟨λh=>(by rw[h]at hr;cases hr),λj hj=> ?_⟩;by_cases hji:j=i
  ·subst hji;exact V hy H
  ·have:=ready_mono hj hji;rw[H.1]at this
   cases this
 | succ F ih=>
  intro C a w ar G Z hr hy H;refine⟨λh=>(by rw[h]at hr;cases hr),λj hj=> ?_⟩;by_cases hji:j=i
  ·subst hji;exact V hy H
  ·have ay:=below G hr j hj;have h1:=H.2 j (ready_mono hj hji);obtain⟨ao,I,ad,an⟩:=mem_ready.1 hj;obtain⟨ac,ax⟩:=Z j I ad ay hji ao;have au:∀cs b,I.op≠ .select cs b:=λcs b h=>by unfold fY at ac;rw[h]at ac;cases ac
   obtain⟨p1,p2,p3⟩:=Oper.apart_spec ax;have ak:(C.setIfInBounds j true).size=ops.size:=by simp[ar]
   have am:∀k,t<=k->(C.setIfInBounds j true).getD k false=false:=λk hk=>by rw[getD_set_ne false no];exact G k hk
   have ab:∀k ok,ops[k]? =some ok->k<t->k≠i->(C.setIfInBounds j true).getD k true=false->fY ok=true/\J.apart ops ok=true:=λk ok hk a1 a0 av=>by
    refine Z k ok hk a1 a0 ?_;by_cases hjk:j=k
    ·subst hjk;exact ao
    ·rw[getD_set_ne true hjk]at av;exact av
   have keep:∀u,mf P ops J v (a.put I.dst u) w:=λu=>by
    refine⟨by rw[wanted_put J a I.dst u p3];exact hy.1,by rw[execOp_put J a2 a I.dst u p3];exact hy.2⟩
   have next:∀u,wpAny P md ops Q F ((C.setIfInBounds i true).setIfInBounds j true) ((a.put J.dst v).put I.dst u) w->wpAny P md ops Q (F+1) (C.setIfInBounds j true) (a.put I.dst u) w:=λu hK=>by
    refine ih _ _ _ ak am ab (ready_mono hr (Ne.symm hji)) (keep u) ?_;rw[Array.setIfInBounds_comm _ _ hji,<-Act.put_comm a v u p2];exact hK
   unfold wpOp at h1⊢;simp only[ad]at h1⊢;rw[wanted_put I a J.dst v p1]at h1;split
   ·rename_i hw;simp only[hw,if_true]at h1;rcases h1 with h1 | ⟨Y,ap⟩;case inr=>exact .inr ⟨by unfold Oper.asks at *;rw[execOp_put I au a J.dst v p1]at Y;exact Y,ap⟩
    refine .inl ?_;unfold Bk at *;rw[execOp_put I au a J.dst v p1]at h1
    cases hrun:(execOp a.eval I).run P w with
    | ok n w'=>
     rw[hrun]at h1;obtain⟨⟨u,rfl⟩,rfl⟩:=xC ac hrun;simp only[Oper.upon]at h1⊢;exact next u h1
    | halt x w'=>
     rw[hrun]at h1;cases x<;>simp only[Oper.upon]at h1⊢
     case panic u=>exact hQ _ _ _ h1
   ·rename_i hw;simp only[hw]at h1;exact next _ h1
theorem cS(i t:Nat)(v:Value){U:Oper}{G:Nat}{C:Array Bool}(hi:ops[i]? =some U)(hit:i<t)(J:fY U=true)
  (Z:C.size=ops.size)(hf:uE md ops C i t=true)(hr:(BY md ops C).contains i=true)
  (hQ:∀c a w,Q (.panic c) (a.put U.dst v) w->Q (.panic c) a w)(hy:mf P ops U v a w)
  (h:wpAny P md ops Q G (C.setIfInBounds i true) (a.put U.dst v) w):wpAny P md ops Q (G+1) C a w:=by
 have H:∀j I,ops[j]? =some I->(if t<=j then !C.getD j true && I.after.any (λe=>Region.binds md e && (e.on==i || decide (t<=e.on)))
   else j==i || C.getD j true || (fY I && U.apart ops I))=true:=λj I F=>by
  have h1:=Ca.1 hf j (C4.2 (AZ.1 F).1);simp only[F,hi]at h1;exact h1
 refine np hi hit J hQ (λj I F K=> ?_) G C a w Z (λj K=> ?_) (λj I F ac V aa=> ?_) (by simpa using hr) hy h
 ·have h1:=H j I F;rw[if_pos K,BN]at h1;obtain⟨e,he,hb⟩:=Array.any_eq_true'.1 h1.2;simp only[BN,Ds,beq_iff_eq,decide_eq_true_eq]at hb;exact⟨e,he,hb.1,hb.2⟩
 ·rcases Bc j ops.size with Y | ab
  ·have h1:=H j ops[j] (D7 Y);rw[if_pos K,BN]at h1;have h2:=h1.1;have hl:j<C.size:=no
   simp[hl]at h2⊢;exact h2
  ·simp[Fy (show C.size<=j by omega)]
 ·have h1:=H j I F;rw[if_neg no]at h1;simp only[Ds,beq_iff_eq,V,false_or,aa,Bool.false_eq_true,BN]at h1;exact h1
end
section
variable {P:AW} {ops:Array Oper} {Q:Exit->Act->World->Prop} {md:Region.Mode}
variable{C:Array Bool}
theorem gK(d:Option Tmp)(i:Nat)(v:Value){G:Oper}(hi:ops[i]? =some G)(I:G.dst=d)
  (hs:Region.noSelect ops=true)(hf:Region.free md ops C i=true)(hr:(BY md ops C).contains i=true)
  (H:∀c a w,Q (.panic c) (a.put d v) w->Q (.panic c) a w)(hy:Yields P ops G v a)
  (h:wpAny P md ops Q F (C.setIfInBounds i true) (a.put d v) w):wpAny P md ops Q (F+1) C a w:=by
 subst I;exact wpAny_take hi hs hf hr H hy h
theorem eG(d:Option Tmp)(i t:Nat)(v:Value){H:Oper}(hi:ops[i]? =some H)(K:H.dst=d)(hit:i<t)(G:fY H=true)
  (I:C.size=ops.size)(hf:uE md ops C i t=true)(hr:(BY md ops C).contains i=true)
  (J:∀c a w,Q (.panic c) (a.put d v) w->Q (.panic c) a w)(hy:mf P ops H v a w)
  (h:wpAny P md ops Q F (C.setIfInBounds i true) (a.put d v) w):wpAny P md ops Q (F+1) C a w:=by
 subst K;exact cS _ _ _ hi hit G I hf hr J hy h
def bZ(ops:Array Oper)(i:Nat):Option Tmp:=match ops[i]? with | some o=>o.dst | none=>none
def dL(ops:Array Oper)(S:List Nat)(f:Nat->Value)(a:Act):Act:=S.foldl (λa i=>a.put (bZ ops i) (f i)) a
def nw(f:Nat->Value)(j:Nat)(v:Value):Nat->Value:=λi=>if i=j then v else f i
def ce(md:Region.Mode)(ops:Array Oper)(j:Nat):List Nat:=match ops[j]? with | some o=>(o.after.toList.filter (Region.binds md)).map (·.on) | none=>[]
def aac(md:Region.Mode)(ops:Array Oper):Nat->Nat->List Nat
 | 0,j=>ce md ops j
 | n+1,j=>ce md ops j++(ce md ops j).flatMap (aac md ops n)
def blk:Value->Nat | .pointer (some a)=>a.block | _=>0
theorem di(i:Nat)(S:List Nat)(f:Nat->Value)(a:Act):dL ops (i::S) f a=dL ops S f (a.put (bZ ops i) (f i)):=rfl
variable{S:List Nat}
theorem sR{f g:Nat->Value}(h:∀i∈S,f i=g i)(a:Act):dL ops S f a=dL ops S g a:=by
 induction S generalizing a with
 | nil=>rfl
 | cons i S ih=>rw[di,di,h i Ad,ih (λk C=>h k (by simp[C]))]
theorem put_put(a:Act)(d:Option Tmp)(u v:Value):(a.put d u).put d v=a.put d v:=by
 cases d<;>simp[AI]
theorem xD{d:Option Tmp}(G:∀i∈S,bZ ops i≠d)(F:∀i∈S,bZ ops i≠none)(f:Nat->Value)(v:Value)(a:Act):
  (dL ops S f a).put d v=dL ops S f (a.put d v):=by
 induction S generalizing a with
 | nil=>rfl
 | cons i S ih=>
  rw[di,di,ih (λk C=>G k (by simp[C])) (λk C=>F k (by simp[C]))]
  congr 1
  have h1:=G i Ad
  cases hdi:bZ ops i with
  | none=>exact absurd hdi (F i Ad)
  | some t=>
   cases d with
   | none=>rfl
   | some d=>
    have:t≠d:=λh=>h1 (by rw[hdi,h])
    simp only[AI];rw[Array.setIfInBounds_comm _ _ this]
variable{j:Nat}
theorem xE(hn:(S.map (bZ ops)).Nodup)(I:∀i∈S,bZ ops i≠none)(f:Nat->Value)(v:Value)(a:Act)(J:j∈S):
  (dL ops S f a).put (bZ ops j) v=dL ops S (nw f j v) a:=by
 induction S generalizing a with
 | nil=>cases J
 | cons i S ih=>
  rw[Bq,Bu]at hn;rw[di,di];by_cases hji:j=i
  ·subst hji;have C:∀k∈S,bZ ops k≠bZ ops j:=λk F h=>hn.1 (by rw[<-h];exact List.mem_map_of_mem F)
   rw[xD C (λk F=>I k (by simp[F])),put_put];have G:nw f j v j=v:=by simp[nw]
   rw[G];refine sR (λk F=> ?_) _;have:k≠j:=λh=>C k F (by rw[h])
   simp[nw,this]
  ·have H:j∈S:=by
    rcases AS.1 J with h | h
    ·exact absurd h hji
    ·exact h
   rw[ih hn.2 (λk F=>I k (by simp[F])) _ H];have G:nw f j v i=f i:=by unfold nw;rw[if_neg (λh=>hji h.symm)]
   rw[G]
theorem uF(a:Act):dL ops S (λi=>a.tmps.getD ((bZ ops i).getD 0) undef) a=a:=by
 induction S with
 | nil=>rfl
 | cons i S ih=>
  rw[di];have:a.put (bZ ops i) (a.tmps.getD ((bZ ops i).getD 0) undef)=a:=by
   cases bZ ops i with
   | none=>rfl
   | some t=>
    simp only[AI,Option.getD_some];have:a.tmps.setIfInBounds t (a.tmps.getD t undef)=a.tmps:=by
     apply Array.ext
     ·simp
     ·intro k h1 h2;rw[Array.getElem_setIfInBounds];split
      ·rename_i h;subst h;simp[h2]
      ·rfl
    rw[this]
  rw[this];exact ih
theorem sS{T:List Nat}(C:T.Nodup)(h:∀i∈T,i∈S):T.length<=S.length:=by
 induction T generalizing S with
 | nil=>simp
 | cons x T ih=>
  rw[Bu]at C;have F:=h x Ad;have h1:=ih (S:=S.erase x) C.2 (λi hi=>(List.mem_erase_of_ne (λe=>C.1 (by rw[<-e];exact hi))).2 (h i (by simp[hi])));rw[List.length_erase_of_mem F]at h1;have:=List.length_pos_of_mem F;simp only[List.length_cons];omega
def aW(S:List Nat)(l:Array Bool):Array Bool:=S.foldl (λl i=>l.setIfInBounds i true) l
theorem mg(S:List Nat)(l:Array Bool):(aW S l).size=l.size:=by
 induction S generalizing l with
 | nil=>rfl
 | cons i S ih=>show(aW S (l.setIfInBounds i true)).size=_;rw[ih];simp
theorem bg(S:List Nat)(l:Array Bool)(k:Nat)(d:Bool):(aW S l).getD k d=if k∈S/\k<l.size then true else l.getD k d:=by
 induction S generalizing l with
 | nil=>simp[aW]
 | cons i S ih=>
  show(aW S (l.setIfInBounds i true)).getD k d=_;rw[ih];by_cases hik:i=k
  ·subst hik;by_cases hlt:i<l.size
   ·simp[hlt]
   ·simp[hlt]
  ·have:k≠i:=λh=>hik h.symm
   rw[getD_set_ne d hik];simp[this]
theorem mh(G:∀j,C.getD j false=true->∀k∈ce md ops j,C.getD k false=true):
  ∀n j,(∀k∈ce md ops j,C.getD k false=true)->∀k∈aac md ops n j,C.getD k false=true
 | 0,j,h,k,F=>h k F
 | n+1,j,h,k,F=>by
  rcases AG.1 F with F | F
  ·exact h k F
  ·obtain⟨i,hi,F⟩:=List.mem_flatMap.1 F;exact mh G n i (G i (h i hi)) k F
theorem jB(h:j∈BY md ops C):j<ops.size/\C.getD j true=false/\∀k∈ce md ops j,C.getD k false=true:=by
 obtain⟨h0,o,H,F⟩:=mem_ready.1 h;refine⟨(AZ.1 H).1,h0,λk G=> ?_⟩;unfold ce at G;rw[H]at G;simp only[Ba,E6]at G;obtain⟨e,⟨I,hb⟩,rfl⟩:=G;exact F e (by simpa using I) hb
theorem mi(F:j<ops.size)(h0:C.getD j true=false)(h:∀k∈ce md ops j,C.getD k false=true):j∈BY md ops C:=by
 refine mem_ready.2 ⟨h0,ops[j],D7 F,λe G hb=>h e.on ?_⟩;unfold ce;rw[D7 F];simp only[Ba,E6];exact⟨e,⟨by simpa using G,hb⟩,rfl⟩
def oU(md:Region.Mode)(ops:Array Oper)(n:Nat)(S:List Nat)(l:Array Bool):Bool:=
 l.size==ops.size && S.all (λi=>decide (i<ops.size) && !l.getD i true && (bZ ops i).isSome) &&
 (Bj ops.size).all (λj=> !l.getD j false || (ce md ops j).all (λk=>l.getD k false)) &&
 (Bj ops.size).all (λj=>S.contains j || l.getD j false || S.all (λi=>(aac md ops n j).contains i)) &&
 S.all (λj=>(ce md ops j).all (λk=>decide (k<j) && (S.contains k || l.getD k false)))
variable{l:Array Bool}
theorem uG(U:Nat)(S:List Nat)(n:Nat)(Al:Nat->Bool)(F:Nat->Value->World->Prop) 
  (ay:oU md ops n S l=true)(ax:(S.map (bZ ops)).Nodup)
  (b9:∀i∈S,∀v w w',F i v w->mBw w w'->F i v w')
  (b1:∀i∈S,Al i=true->∀v w,F i v w->blk v<w.heap.size)
  (a2:∀j∈S,∀(f:Nat->Value)(w':World),mBw w w'->(∀i∈S,i∈ce md ops j->F i (f i) w')->∀K:Act->World->Prop,
   (∀v ac,F j v ac->mBw w' ac->(Al j=true->w'.heap.size<=blk v)->K (dL ops S (nw f j v) a) ac)->wpOp P ops Q j K (dL ops S f a) w')
  (a0:∀f w',mBw w w'->(∀i∈S,F i (f i) w')->(∀i∈S,∀j∈S,Al i=true->Al j=true->i≠j->blk (f i)≠blk (f j))->wpAny P md ops Q U (aW S l) (dL ops S f a) w'):
  wpAny P md ops Q (U+S.length) l a w:=by
 unfold oU at ay;simp only[BN,Ca,Ds,Bool.not_eq_true',decide_eq_true_eq,C4,beq_iff_eq,List.contains_iff_mem]at ay;obtain⟨⟨⟨⟨bp,hS⟩,bO⟩,bi⟩,Y⟩:=ay;have be:S.Nodup:=by
  rw[FX]at ax⊢;rw[DN]at ax;exact ax.imp (λh e=>h (by rw[e]))
 have bq:∀(r:Nat)(T:List Nat)(f:Nat->Value)(w':World),T.Nodup->(∀i∈T,i∈S)->T.length+r=S.length->
   (∀j,(aW T l).getD j false=true->∀k∈ce md ops j,(aW T l).getD k false=true)->
   mBw w w'->(∀i∈T,F i (f i) w')->(∀i∈T,∀j∈T,Al i=true->Al j=true->i≠j->blk (f i)≠blk (f j))->
   wpAny P md ops Q (U+r) (aW T l) (dL ops S f a) w':=by
  intro r
  induction r with
  | zero=>
   intro T f w' ar hT bb V hb hF ab;have I:∀i∈S,i∈T:=by
    intro i hi;apply DO;intro b2;have h1:(i::T).length<=S.length:=sS (Bu.2 ⟨b2,ar⟩) (λk H=>by rcases AS.1 H with rfl | H;exact hi;exact hT k H);simp at h1;omega
   have e:aW T l=aW S l:=by
    apply Array.ext
    ·rw[mg,mg]
    ·intro k h1 h2;have g1:=bg T l k false;have g2:=bg S l k false;have a5:k∈T↔k∈S:=⟨hT k,I k⟩;simp only[a5]at g1;rw[<-g2]at g1;simpa [h1,h2]using g1
   rw[e];exact a0 f w' hb (λi hi=>hF i (I i hi)) (λi hi j hj=>ab i (I i hi) j (I j hj))
  | succ r ih=>
   intro T f w' ar hT bb V hb hF ab;have a4:∃i∈S,i∉T:=by
    apply DO;intro an;have G:∀i∈S,i∈T:=λi hi=>DO λh=>an ⟨i,hi,h⟩
    have:=sS be G;omega
   have ao:∀j∈BY md ops (aW T l),j∈S/\j∉T/\∀k∈ce md ops j,(aW T l).getD k false=true:=by
    intro j hj;obtain⟨am,Z,aa⟩:=jB hj;have ak:j∉T:=by
     intro h;rw[bg]at Z;simp[h,bp,am]at Z
    refine⟨?_,ak,aa⟩;rcases bi j am with(h | h) | h
    ·exact h
    ·rw[bg]at Z;have:j<l.size:=no
     simp[ak,this]at Z h;rw[Z]at h;cases h
    ·obtain⟨i,hi,C⟩:=a4;have h1:=mh V n j aa i (h i hi);rw[bg]at h1;have h2:=(hS i hi).1.2;have:i<l.size:=by have:=(hS i hi).1.1;omega
     simp[C,this]at h1 h2;rw[h1]at h2;cases h2
   have un:∀i∈S,i∉T->(aW T l).getD i true=false:=λi hi C=>by
    rw[bg];have:=(hS i hi).1.2;simp[C];simpa using this
   have a1:∃i∈BY md ops (aW T l),True:=by
    have key:∀(m i:Nat),i<=m->i∈S->i∉T->∃i∈BY md ops (aW T l),True:=by
     intro m
     induction m with
     | zero=>
      intro i b0 hi C;refine⟨i,mi (hS i hi).1.1 (un i hi C) (λk H=> ?_),trivial⟩;have:=(Y i hi k H).1;omega
     | succ m ihm=>
      intro i b0 hi C;by_cases G:∀k∈ce md ops i,(aW T l).getD k false=true
      ·exact⟨i,mi (hS i hi).1.1 (un i hi C) G,trivial⟩
      ·simp only[Classical.not_forall]at G;obtain⟨k,H,an⟩:=G;obtain⟨cb,b8⟩:=Y i hi k H;have a9:k∉T:=λh=>an (by rw[bg];simp[h,bp];have:=(hS k (hT k h)).1.1;omega)
       rcases b8 with h | h
       ·exact ihm k no h a9
       ·exact absurd (by rw[bg];simp[a9];simpa using h) an
    obtain⟨i,hi,C⟩:=a4;exact key i i (AE _) hi C
   refine⟨λh=> ?_,λj hj=> ?_⟩
   ·obtain⟨i,hi,_⟩:=a1;rw[h]at hi;cases hi
   ·obtain⟨a7,ak,aa⟩:=ao j hj;refine a2 j a7 f w' hb (λi hi hp=> ?_) _ (λv ac bt a3 aq=> ?_)
    ·refine hF i (DO λC=> ?_);have h1:=aa i hp;rw[bg]at h1;have h2:=(hS i hi).1.2;have:i<l.size:=by have:=(hS i hi).1.1;omega
     simp[C,this]at h1 h2;rw[h1]at h2;cases h2
    ·have e:(aW T l).setIfInBounds j true=aW (T++ [j]) l:=by unfold aW;rw[List.foldl_append];rfl
     rw[e];refine ih (T++ [j]) (nw f j v) ac ?_ ?_ ?_ ?_ (hb.trans (a3.mono hb.size)) ?_ ?_
     ·exact List.nodup_append.2 ⟨ar,Ad,by intro x hx y hy;simp at hy;subst hy;exact λh=>ak (h▸hx)⟩
     ·intro i hi;rcases AG.1 hi with h | h
      ·exact hT i h
      ·simp at h;rw[h];exact a7
     ·simp;omega
     ·intro i hi k H;rw[<-e]at hi⊢;by_cases hij:j=i
      ·subst hij;exact getD_set_true (aa k H)
      ·rw[getD_set_ne false hij]at hi;exact getD_set_true (V i hi k H)
     ·intro i hi;by_cases hij:i=j
      ·subst hij;simpa [nw]using bt
      ·have C:i∈T:=by
        rcases AG.1 hi with h | h
        ·exact h
        ·simp at h;exact absurd h hij
       simp only[nw,hij,if_false];exact b9 i (hT i C) _ _ _ (hF i C) a3
     ·intro i hi k H au av a6;have low:∀x∈T,Al x=true->blk (f x)<w'.heap.size:=λx hx bz=>b1 x (hT x hx) bz _ _ (hF x hx)
      have ap:∀x∈T++ [j],x≠j->x∈T:=λx hx ca=>by
       rcases AG.1 hx with h | h
       ·exact h
       ·simp at h;exact absurd h ca
      by_cases hij:i=j
      ·have J:k≠j:=λh=>a6 (by rw[hij,h])
       have h1:=low k (ap k H J) av;subst hij;simp only[nw,if_true,J,if_false];have:=aq au;omega
      ·have h1:=low i (ap i hi hij) au;by_cases J:k=j
       ·subst J;simp only[nw,if_true,hij,if_false];have:=aq av;omega
       ·simp only[nw,hij,J,if_false];exact ab i (ap i hi hij) k (ap k H J) au av a6
 have h0:=bq S.length [] (λi=>a.tmps.getD ((bZ ops i).getD 0) undef) w Ad Ad Ad (λj hj k H=>by
   have am:j<ops.size:=by
    rcases Bc j ops.size with h | h
    ·exact h
    ·have ad:l.getD j false=true:=hj;simp[Fy (show l.size<=j by omega)]at ad
   rcases bO j am with h | h
   ·have ad:l.getD j false=true:=hj;rw[h]at ad;cases ad
   ·exact h k H) (AF _ _) Ad Ad
 rw[uF]at h0;exact h0
def cI(D:List (Nat×Tmp))(f:Nat->Value)(a:Act):Act:=D.foldl (λa p=>a.put (some p.2) (f p.1)) a
theorem sU{D:List (Nat×Tmp)}(h:D.all (λp=>bZ ops p.1==some p.2)=true)(f:Nat->Value)(a:Act):cI D f a=dL ops (D.map (·.1)) f a:=by
 induction D generalizing a with
 | nil=>rfl
 | cons p D ih=>
  simp only[List.all_cons,BN,beq_iff_eq]at h;show cI D f (a.put (some p.2) (f p.1))=dL ops (D.map (·.1)) f (a.put (bZ ops p.1) (f p.1));rw[h.1,ih h.2]
theorem Av(h:p:=by simpa using e):p:=h
theorem iU(G:Nat)(D:List (Nat×Tmp))(n:Nat)(V:Nat->Bool)(F:Nat->Value->World->Prop) 
  (ab:oU md ops n (D.map (·.1)) l=true)(C:D.all (λp=>bZ ops p.1==some p.2)=true)(Y:(D.map (·.2)).Nodup)
  (ac:∀i∈D.map (·.1),∀v w w',F i v w->mBw w w'->F i v w')
  (aa:∀i∈D.map (·.1),V i=true->∀v w,F i v w->blk v<w.heap.size)
  (U:∀p∈D,∀(f:Nat->Value)(w':World),mBw w w'->(∀i∈D.map (·.1),i∈ce md ops p.1->F i (f i) w')->∀K:Act->World->Prop,
   (∀v H,F p.1 v H->mBw w' H->(V p.1=true->w'.heap.size<=blk v)->K ((cI D f a).put (some p.2) v) H)->wpOp P ops Q p.1 K (cI D f a) w')
  (J:∀f w',mBw w w'->(∀i∈D.map (·.1),F i (f i) w')->(∀i∈D.map (·.1),∀j∈D.map (·.1),V i=true->V j=true->i≠j->blk (f i)≠blk (f j))->
   wpAny P md ops Q G (aW (D.map (·.1)) l) (cI D f a) w'):
  wpAny P md ops Q (G+D.length) l a w:=by
 have hS:∀i∈D.map (·.1),bZ ops i≠none:=by
  intro i hi;obtain⟨p,hp,rfl⟩:=Ba.1 hi;have:=Ca.1 C p hp;rw[beq_iff_eq]at this;rw[this];simp
 have I:((D.map (·.1)).map (bZ ops)).Nodup:=by
  rw[CE];have:D.map (bZ ops ∘ λp=>p.1)=(D.map (·.2)).map some:=by
   rw[CE];apply Et;intro p hp;have:=Ca.1 C p hp;rw[beq_iff_eq]at this;simp[this]
  rw[this,FX,DN];rw[FX]at Y;exact Y.imp (λh e=>h Av)
 have h:=uG G (D.map (·.1)) n V F ab I ac aa (λj hj f w' hb Z K hK=>by
   rw[<-sU C];obtain⟨p,hp,rfl⟩:=Ba.1 hj;have hd:=Ca.1 C p hp;rw[beq_iff_eq]at hd;refine U p hp f w' hb Z K (λv H h1 h2 h3=> ?_);have:=hK v H h1 h2 h3;rw[<-xE I hS _ _ _ hj,<-sU C,hd]at this;exact this) (λf w' hb Z hs=>by rw[<-sU C];exact J f w' hb Z hs)
 rwa [List.length_map]at h
end
def aV(w:World)(g:Nat)(a:Option AU)(L c:Nat):Prop:=w.heap[g]? =some (.cells #[.slice a L c] 31 (0,0))
variable{a:Option AU}
theorem aV.cell(h:aV w g a L c):w.cell? ⟨g,0,none⟩=some (.slice a L c):=by
 rw[Em w g 0 _ _ (0,0) h];rfl
theorem aV.frozen(h:aV w g a L c):w.frozen? ⟨g,0,none⟩=false:=En w g 0 _ _ h
theorem aV.lt(h:aV w g a L c):g<w.heap.size:=(AZ.1 h).1
theorem aV.mono(h:aV w g a L c)(hb:Bi B w w')(C:g<B):aV w' g a L c:=(hb.block g C).trans h
theorem aV.set{L' c':Nat}{a':Option AU}(h:aV w g a L c):aV (w.setCell ⟨g,0,none⟩ (.slice a' L' c')) g a' L' c':=by
 have:=CZ w g 0 _ _ (.slice a' L' c') h;exact this
theorem aV.setOther(h:aV w g a L c)(p:AU)(u:Value)(hp:p.block≠g):aV (w.setCell p u) g a L c:=
 (C3 w p u g (λe=>hp e.symm)).trans h
theorem aV.made(w:World)(a:Option AU)(L c:Nat):aV (w.alloc (.cells #[.slice a L c] 31)) w.heap.size a L c:=Bm w _
theorem aV.ne{o:Nat}{x:Int}{k:IntKind}(h:aV w g a L c)(C:w.cell? ⟨b,o,none⟩=some (.int k x)):b≠g:=by
 rintro rfl;rw[Em w b o _ _ (0,0) h]at C
 cases o with
 | zero=>cases C
 | succ o=>simp at C
theorem aU.setVar(h:aU base w v N)(I:aV w g a L c):aU base (w.setCell ⟨g,0,none⟩ u) v N:=by
 obtain⟨x,cap,rfl,hc,J⟩:=h;refine⟨x,cap,rfl,hc,λG=> ?_⟩;obtain⟨b,off,rfl,hb,H,hf⟩:=J G;have C:b≠g:=I.ne (by simpa using H 0 G);refine⟨b,off,rfl,hb,λj F=> ?_,λj F=> ?_⟩
 ·rw[BZ (C3 w _ u b At)];exact H j F
 ·rw[World.frozen?_of_block (C3 w _ u b At)];exact hf j F
theorem IsN.setVar(h:IsN w v N)(I:aV w g a L c):IsN (w.setCell ⟨g,0,none⟩ u) v N:=by
 obtain⟨x,cap,rfl,hc,H⟩:=h;refine⟨x,cap,rfl,hc,H.lt,λF=> ?_⟩;obtain⟨b,off,rfl,G⟩:=H.cells F;have C:b≠g:=I.ne (by simpa using G 0 F);refine⟨b,off,rfl,λj J=> ?_⟩;rw[BZ (C3 w _ u b At)];exact G j J
theorem D_ext(hl:nl M=nl N)(h:∀j,j<nl N->D M j=D N j):M=N:=by
 have e:M % 4294967296^nl N=N % 4294967296^nl N:=z7 _ (λj C=>h j C);rw[Cn (by rw[<-hl];exact eA M),Cn (eA N)]at e;exact e
theorem IsN.unique(h:IsN w v M)(G:IsN w v N):M=N:=by
 obtain⟨x,cap,rfl,_,J⟩:=h;obtain⟨y,F,e,_,hy⟩:=G;simp only[Value.agg.injEq,Array.mk.injEq,List.cons.injEq,D9.injEq,and_true]at e;obtain⟨rfl,hl,rfl⟩:=e;refine D_ext hl (λj I=> ?_);obtain⟨b,o,rfl,H⟩:=J.cells no;obtain⟨K,U,e',C⟩:=hy.cells no;cases e';have h1:=H j no;rw[C j I]at h1;simp only[A3.injEq,AK.injEq,true_and]at h1;omega
def iV(base:Nat)(w:World)(g N:Nat):Prop:=∃a c,aV w g a (nl N) c/\aU base w (.agg #[.slice a (nl N) c]) N
noncomputable def valAt(w:World)(g:Nat):Nat:=Classical.epsilon (λN=>∃base,iV base w g N)
theorem iV.valAt(h:iV base w g N):valAt w g=N:=by
 have h1:∃N,∃base,iV base w g N:=⟨N,base,h⟩;obtain⟨C,a',I,F,G⟩:=Classical.epsilon_spec h1;obtain⟨a,c,hb,hn⟩:=h;have e:=F.symm.trans hb;simp only[A3.injEq,Obj.cells.injEq,Array.mk.injEq,List.cons.injEq,D9.injEq,and_true]at e;have H:=G.isN;rw[e.1,e.2.1,e.2.2]at H;exact H.unique hn.isN
theorem iV.mono{B:Nat}(h:iV base w g N)(hb:mBw w w'):iV base w' g N:=by
 obtain⟨a,c,h1,h2⟩:=h;exact⟨a,c,h1.mono hb h1.lt,h2.mono hb⟩
variable{K:Act->World->Prop}
theorem nz{a:Act}{E:Prop}
  (hg:o.guard=none)(s x:AP)(U:o.op=Op.call {callee:=Callee.builtin Builtin.append,args:=#[s,x],argTypes:=#[29,29]})
  (base:Nat)(ab:base<=w.heap.size)(G:Option AU)(hs:a.eval s= .slice G 0 0)(Z:Option AU)(L cap N:Nat)(hx:a.eval x= .slice Z L cap)(hr:Rw w Z L N)(hL:L<=30000000000000)
  (hK:∀a' c' w',jq w' base a' L N->L<=c'->mBw w w'->K (a.put o.dst (.slice a' L c')) w'):
  if A6 o (yielded ops a.tmps)=true then Bk AB o a w K Q else E:=by
 have hw:A6 o (yielded ops a.tmps)=true:=by simp[A6,hg]
 obtain⟨i,hi,ak,am,an⟩:=DF oT;rcases Dc L with h0 | V
 ·subst h0;rw[if_pos hw];have Y:(BM #[29,29] o.type #[.slice G 0 0,.slice Z 0 cap]).run AB w= .ok (.slice G 0 0) w:=by
   cases G<;>cases Z<;>simp[BM,run_underlying Eu,sizeOf,typeInfo,hi,Builtin.lenOf,EA,storeCells,loadCells,loadCellsFrom,AQ]
  unfold Bk;simp[execOp,U,resolve,invoke,builtin,hs,hx,Y,AQ];exact hK G 0 w (λh=>no) (AE _) (AF _ _)
 ·obtain⟨b,off,rfl,hd⟩:=hr.cells V;refine step_append_grows hg s x 29 U 237 i (.int .u32 0) 1 4 Eu hi ak am an rfl it G 0 0 [] hs (λ_=>Ai) rfl (λb hb j u F=>by cases F)
   ⟨b,off,none⟩ L cap ((Bj L).map λj=>AK .u32 ((D N j:Nat):Int)) hx Ad (λj u F=> ?_) (by intro u F;obtain⟨_,_,rfl⟩:=Ba.1 F;rfl) no (by simp only[maxLen];omega) no ?_
  ·have J:j<L:=by
    have:=(AX.1 F).1;simpa using this
   have H:(⟨b,off,none⟩:AU).add j=⟨b,off+j,none⟩:=by unfold Addr.add;split<;>simp_all
   rw[H,hd j J];simpa [J]using F
  ·intro v' w' ho ac;rcases ho.2 with⟨rfl,h⟩ | ⟨g,c,cur,rfl,ap,I,ad,aq,ar,C⟩
   ·omega
   ·have aa:mBw w w':=e8 ac _ (AE _) (λk hk=>by cases hk);have:=hK (some ⟨g,0,none⟩) c w' (λh=>⟨g,rfl,no,λj J=> ?_,λj J=>En w' g j cur _ I⟩) (by simpa using ad) aa
    ·simpa using this
    ·rw[A5,Em w' g j cur _ (0,0) I];have h1:(cur.toList.take ((0+L)*1))[j]? =some (.int .u32 ((D N j:Nat):Int)):=by rw[C];simp[J]
     rw[BI]at h1;split at h1
     ·simpa using h1
     ·cases h1
theorem iv{d:Option Tmp}{a:Act} 
  (Z:ops[i]? =some o)(V:o.dst=d)(Y:o.guard=none)(s x:AP)(H:o.op=Op.call {callee:=Callee.builtin Builtin.append,args:=#[s,x],argTypes:=#[29,29]})
  (base:Nat)(C:base<=w.heap.size)(I:Option AU)(hs:a.eval s= .slice I 0 0)(F:Option AU)(L cap N:Nat)(hx:a.eval x= .slice F L cap)(hr:Rw w F L N)(U:L<=30000000000000)
  (J:∀a' c' w',jq w' base a' L N->L<=c'->mBw w w'->K (a.put d (.slice a' L c')) w'):wpOp AB ops Q i K a w:=
 wpOp_step Z (λK' G=>nz Y s x H base C I hs F L cap N hx hr U (λa' c' w' h1 h2 h3=>G _ _ (by rw[V];exact J a' c' w' h1 h2 h3)))
theorem ph{p q r:Tmp}(h:fn.results=#[.cell p 31,.cell q 31,.tmp r])(tmps:Array Value)(w:World)(b1 C:Nat)(v1 v2 u:Value)
  (hp:tmps.getD p undef= .pointer (some ⟨b1,0,none⟩))(K:tmps.getD q undef= .pointer (some ⟨C,0,none⟩))(hr:tmps.getD r undef=u)(F:w.cell? ⟨b1,0,none⟩=some v1)(G:w.cell? ⟨C,0,none⟩=some v2):
  (results fn tmps).run AB w= .ok (.tuple #[.agg #[v1],.agg #[v2],u]) w:=by
 have H:tmps[p]?.getD undef= .pointer (some ⟨b1,0,none⟩):=by simpa using hp
 have I:tmps[q]?.getD undef= .pointer (some ⟨C,0,none⟩):=by simpa using K
 have J:tmps[r]?.getD undef=u:=by simpa using hr
 simp[results,h,H,I,J,asAddr,loadVar,go_sem,F,G]
def iW(W:World)(q r:Nat)(c:Int)(e:BB)(w':World):Prop:=
 ∃vq vr,e= .returned (.tuple #[vq,vr,.int .i64 c])/\aU W.heap.size w' vq q/\aU W.heap.size w' vr r/\mBw W w'
theorem Res2.ret{F:World}{u1 u2:Value}{c:Int}(h:Res2 w F r1 r2)(V:aU (r2+1) F (.agg #[u1]) q)(hr:aU (r2+1) F (.agg #[u2]) r)
 {I J K:Tmp}{tmps:Array Value}(H:fn.results=#[.cell I 31,.cell J 31,.tmp K])
  (Y:tmps.getD I undef= .pointer (some ⟨r1,0,none⟩))(Z:tmps.getD J undef= .pointer (some ⟨r2,0,none⟩))(t3:tmps.getD K undef= .int .i64 c):
  bodyPost AB fn (λe w'=>iW w q r c e w') .ret {tmps:=tmps,defers:=[]} ((F.setCell ⟨r1,0,none⟩ u1).setCell ⟨r2,0,none⟩ u2):=by
 have U:=h.lt;have C:=h.fin (u1:=u1) (u2:=u2) V hr;have G:(⟨r1,0,none⟩:AU)≠⟨r2,0,none⟩:=by intro e;cases e;omega
 have g1:((F.setCell ⟨r1,0,none⟩ u1).setCell ⟨r2,0,none⟩ u2).cell? ⟨r1,0,none⟩=some u1:=by
  rw[FY _ _ _ _ G.symm];exact Ew _ _ _ h.cell1
 have g2:((F.setCell ⟨r1,0,none⟩ u1).setCell ⟨r2,0,none⟩ u2).cell? ⟨r2,0,none⟩=some u2:=by
  refine Ew _ _ _ (u:=.slice none 0 0) ?_;rw[FY _ _ _ _ G];exact h.cell2
 exact A7 (ph H _ _ r1 r2 _ _ _ Y Z t3 g1 g2) rfl ⟨_,_,rfl,C.1,C.2.1,C.2.2⟩
theorem xF(w:World)(a b:Option AU)(m C n F:Nat):mBw w ((((w.alloc (.cells #[.slice a m C] 31)).alloc (.cells #[.slice b n F] 31)).alloc (.cells #[.slice none 0 0] 31)).alloc (.cells #[.slice none 0 0] 31)):=
 ((((AF _ _).alloc (AE _) _).alloc Ad _).alloc (by simp;omega) _).alloc (by simp;omega) _
set_option maxRecDepth 100000 in
theorem qT(va vb:Value)(m n:Nat)(w:World)(ha:IsN w va m)(hb:IsN w vb n)(hm:nl m<=1000000000000)(hn:nl n<=1000000000000)(ak:m<n):
  AC AB 200 #[va,vb] w λe w'=>iW w 0 m 0 e w':=by
 obtain⟨a,ca,rfl,ab,ra⟩:=ha;obtain⟨b,cb,rfl,ac,rb⟩:=hb;have hw:=xF w a b (nl m) ca (nl n) cb;have V:=ra.mono hw;have Z:=rb.mono hw;have ad:nl m<=9223372036854775807:=no
 have am:nl n<=9223372036854775807:=no
 have hp:=dV (show n≠0 by omega);have aq:(((nl n:Nat):Int)==0)=false:=by rw[beq_eq_false_iff_ne];omega
 have ap:cmpI m n= -1:=gI ak;go_enter Tryz.func200,Tryz.ntmps200
 go_wp2_with fail
 go_quiet (first
  | (go_at_call 189;with_reducible exact eD (dX a (nl m) ca m _ ad ab (V.drewN _)))
  | (go_at_call 189;with_reducible exact eD (dX b (nl n) cb n _ am ac (Z.drewN _))))
 go_upto_region 2 with(fail)
 go_cut [25] (λao wx=>ao= .bool false/\Res2 w wx (w.heap.size+1+1) (w.heap.size+1+1+1))
 case first=>
  go_wp2_with fail
  go_meet;case rel=>exact⟨rfl,aN hw nq,no,no,Ad,Aj,Aj,Aj,Aj⟩
 case rest=>
  obtain⟨rfl,K⟩:=hcut;clear hw V Z;go_wp2_with fail
  refine(fR a b _ _ m n _ (ra.mono K.below) (rb.mono K.below) no no).mono ?_;rintro e w1 ⟨rfl,q,rfl⟩;have hr1:=K.drewN q;have C:=World.ownsRow_made (base:=wc.heap.size) (e:=237) (size:=1) (wc.drewN q) #[] 0 (AE _) (AY _) rfl;simp only[World.heap_drewN]at C;have U:=hr1.after ((AF (wc.drewN q).heap.size (wc.drewN q)).alloc (AE _) (.cells #[] 237));have Y:=ra.mono U.below;go_wp2_with (at_builtin;refine fX rfl _ _ rfl wc.heap.size _ rfl C Ad a (nl m) (nl m) m rfl Y no ?_)
  intro a' c' w' H aa J;have an:=U.step (e8 J wc.heap.size Ad (λk hk=>(C.lt k hk).1)) K.size;clear J C Y;go_wp2_with fail
  refine(gY a' (nl m) c' m _ no aa (H.rw' (eA m))).mono ?_;rintro e w2 ⟨rfl,G⟩;have F:=an.after G;have I:=H.mono G;obtain⟨q1,q2,q3,q4⟩:=By F.cell1 (By F.cell2 (By F.frozen1 F.frozen2));go_wp2;exact F.ret (q:=0) (r:=m) (u1:=.slice none 0 0) aU.of_zero ((I.newN (AE _)).weaken K.size) rfl rfl rfl rfl
set_option maxRecDepth 100000 in
theorem sV(va vb:Value)(m n:Nat)(w:World)(ha:IsN w va m)(hb:IsN w vb n)(hm:nl m<=1000000000000)(F:nl n=1)(a4:n<=m):
  AC AB 200 #[va,vb] w λe w'=>iW w (m / n) (m % n) 0 e w':=by
 have ao:n≠0:=λh=>by rw[h,bL]at F;omega
 have hn:nl n<=1000000000000:=no
 have K:n<4294967296:=by have h:=eA n;rw[F]at h;omega
 have G:D n 0=n:=by unfold D;rw[DJ,Nat.div_one];omega
 have aa:=AA G;have a1:=AA F;obtain⟨a,ca,rfl,ac,ra⟩:=ha;obtain⟨b,cb,rfl,ad,rb⟩:=hb;have hw:=xF w a b (nl m) ca (nl n) cb;have Y:=ra.mono hw;have Z:=rb.mono hw;have am:nl m<=9223372036854775807:=no
 have an:nl n<=9223372036854775807:=no
 have hp:=dV ao;have a5:(((nl n:Nat):Int)==0)=false:=by rw[beq_eq_false_iff_ne];omega
 have a3:0<=cmpI m n:=by unfold cmpI;split<;>first | (exfalso;omega) | (split<;>omega)
 have a0:(((nl n:Nat):Int)==1)=true:=by rw[beq_iff_eq];omega
 obtain⟨b1,o1,rfl,J⟩:=rb.cells no;clear G F;go_enter Tryz.func200,Tryz.ntmps200
 go_wp2_with fail
 go_quiet (first
  | (go_at_call 189;with_reducible exact eD (dX a (nl m) ca m _ am ac (Y.drewN _)))
  | (go_at_call 189;with_reducible exact eD (dX (some ⟨b1,o1,none⟩) (nl n) cb n _ an ad (Z.drewN _))))
 go_upto_region 2 with(fail)
 go_cut [25] (λay wx=>ay= .bool false/\Res2 w wx (w.heap.size+1+1) (w.heap.size+1+1+1))
 case first=>
  go_wp2_with fail
  go_meet;case rel=>exact⟨rfl,aN hw nq,no,no,Ad,Aj,Aj,Aj,Aj⟩
 case rest=>
  obtain⟨rfl,hr⟩:=hcut;clear hw Y Z;go_wp2_with fail
  refine(fR a (some ⟨b1,o1,none⟩) _ _ m n _ (ra.mono hr.below) (rb.mono hr.below) no no).mono ?_;rintro e w1 ⟨rfl,q,rfl⟩;have hr1:=hr.drewN q;have c1:=(J.mono hr1.below (J.lt no)) 0 no;rw[aa.out,CL]at c1;go_wp2_with fail
  refine(c_short a (nl m) (nl m) m n _ (ra.mono hr1.below) hm no K).mono ?_;rintro e w2 ⟨g,rfl,hg,ho,ab⟩;have ar:=hr1.after ab;have a2:m % n<4294967296:=Dq (Bs _ no) K;go_wp2_with fail
  refine(gY _ (nl m) (nl m) (m / n) _ no (AE _) ho.rw').mono ?_;rintro e w3 ⟨rfl,H⟩;have U:=ar.after H;have ap:=aU.of_own (base:=w.heap.size+1+1+1+1) ho H (AD hr.size hg);go_wp2_with fail
  refine(fG (m % n) _ no).mono ?_;rintro e w4 ⟨v,rfl,hv,I⟩;have C:=U.after I;have aq:=ap.mono I;have au:=hv.weaken U.size;obtain⟨av,cv,rfl,ak,V⟩:=au;have ax:aU (w.heap.size+1+1+1+1) w4 (.agg #[.slice av (nl (m % n)) cv]) (m % n):=⟨av,cv,rfl,ak,V⟩;clear V hv;obtain⟨q1,q2,q3,q4⟩:=By C.cell1 (By C.cell2 (By C.frozen1 C.frozen2));go_wp2;exact C.ret aq ax rfl rfl rfl rfl
theorem xG(hn:n≠0):∃s:Nat,(32 - ((Lib.bitLen (D n (nl n - 1)):Nat):Int))=(s:Int)/\s<32/\n*2^s<4294967296^nl n/\2147483648<=D (n*2^s) (nl n - 1):=by
 have h1:=dV hn;have h2:=z6 hn;have h3:=eA n;obtain⟨k,Y⟩:∃k,nl n=k+1:=⟨nl n - 1,no⟩;rw[Y]at h2 h3⊢;simp only[DH]at h2⊢;have U:D n k=n / 4294967296^k:=by
  unfold D;rw[Cn];rw[Co (cF k),<-EX];exact h3
 have Z:=cf n k;have hl:(D n k).log2<32:=(Er h2).2 no;have hb:=rl (t:=D n k) (k:=(D n k).log2) no (Nat.log2_self_le h2) Fx;have g1:=Nat.log2_self_le h2;have g2:D n k<2^((D n k).log2+1):=Fx;have V:=Cf n (4294967296^k);have aa:=Bs n (cF k);rw[U]at *;generalize hL:(n / 4294967296^k).log2=l at *;generalize n / 4294967296^k=t at *;have I:2^(l+1)*2^(31 - l)=4294967296:=by rw[<-BC,show l+1+(31 - l)=32 by omega]
 have J:2^l*2^(31 - l)=2147483648:=by rw[<-BC,show l+(31 - l)=31 by omega]
 have H:n*2^(31 - l)<4294967296^(k+1):=by
  have C:n<4294967296^k*(t+1):=by rw[CG];omega
  have F:=FW C (show 0<2^(31 - l)from D3 it);have G:4294967296^k*(t+1)*2^(31 - l)<=4294967296^k*(2^(l+1)*2^(31 - l)):=by
   rw[C0];exact C2 _ (Db _ g2)
  rw[I]at G;rw[BO];exact Bt F G
 refine⟨31 - l,by rw[hb];omega,no,H,?_⟩;have v1:2147483648<=n*2^(31 - l) / 4294967296^k:=by
  rw[D5 (cF k),<-J];have C:4294967296^k*2^l<=n:=AD (C2 _ g1) no;have F:=Db (2^(31 - l)) C;have K:2^l*2^(31 - l)*4294967296^k=4294967296^k*2^l*2^(31 - l):=by
   rw[BV _ (4294967296^k),C0]
  rw[K];exact F
 unfold D;rw[Cn]
 ·exact v1
 ·rw[Co (cF k),<-EX];exact H
def dY(U V k:Nat):Nat:=U / 4294967296^k % V*4294967296^k+U % 4294967296^k
theorem uH(h:U / 4294967296^k<V):dY U V k=U:=by
 unfold dY;rw[Cn h,BV];exact Cf _ _
theorem xH(U V:Nat):dY U V 0=U % V:=by unfold dY;simp[CD]
theorem pi(U V k:Nat):dY U V (k+1)=4294967296^k*(U / 4294967296^(k+1) % V*4294967296+D U k)+U % 4294967296^k:=by
 unfold dY;rw[cG,BO];grind
theorem nD(U V k:Nat):dY U V (k+1) / 4294967296^k=U / 4294967296^(k+1) % V*4294967296+D U k:=by
 rw[pi,EY (cF k),Cz (Bs _ (cF k)),CL]
theorem win_lt(U V k:Nat)(C:0<V):U / 4294967296^(k+1) % V*4294967296+D U k<V*4294967296:=by
 have h1:=Bs (U / 4294967296^(k+1)) C;have h2:=cf U k;generalize U / 4294967296^(k+1) % V=r at *;omega
theorem remAt_lt(F:0<V)(C:V<4294967296^N):dY U V (k+1)<4294967296^(k+N+1):=by
 have h1:=win_lt U V k F;have h2:=Bs U (cF k);rw[pi];generalize U / 4294967296^(k+1) % V*4294967296+D U k=W at *;have h3:4294967296^k*(W+1)<=4294967296^k*(4294967296^N*4294967296):=C2 _ (by
  have:=Db 4294967296 (Nat.le_of_lt C);omega)
 have e:4294967296^(k+N+1)=4294967296^k*(4294967296^N*4294967296):=by rw[BO,BC,C0]
 rw[e,];rw[CG]at h3;omega
theorem xI(U V k:Nat)(C:0<V):dY U V (k+1) - 4294967296^k*(dY U V (k+1) / 4294967296^k / V*V)=dY U V k:=by
 rw[nD,pi];have h1:=(rk (U / 4294967296^(k+1)) (D U k) V C).2;rw[<-cH U k]at h1;unfold dY;rw[h1,BV 4294967296 (U / 4294967296^(k+1) % V)];generalize U / 4294967296^(k+1) % V*4294967296+D U k=W at *;have h2:=Cf W V;have h3:4294967296^k*W=4294967296^k*(W / V*V)+W % V*4294967296^k:=by
  rw[BV (W % V),<-CG,BV (W / V),h2]
 rw[h3];omega
theorem quo_step(U V k:Nat)(C:0<V):upd (cj U V (k+1)) k (dY U V (k+1) / 4294967296^k / V)=cj U V k/\dY U V (k+1) / 4294967296^k / V<4294967296:=by
 have h:=me U V k C;rw[nD];exact⟨h.1,h.2.2⟩
theorem sW{W P T V2 w0 H:Nat}(U:0<P)(hW:W=T*P+w0)(hw:w0<P)(Z:V=V2*P+H)(hv:H<P)(Y:B<=V2)(hq:W / V<B)(K:0<B):
  W / V<=gH B T V2/\gH B T V2<=W / V+1:=by
 have C:0<V2:=no
 have F:0<V:=by have:=Ey C U;omega
 constructor
 ·have h1:W / V*V<=W:=Nat.div_mul_le_self _ _;have h2:W / V*V2<=T:=by
   have h3:W / V*V2*P<=W / V*V:=by
    rw[C0];exact C2 _ no
   have G:W / V*V2*P<(T+1)*P:=by rw[CU];omega
   have:=Nat.lt_of_mul_lt_mul_right G;omega
  have I:W / V<=T / V2:=(D5 C).2 h2;unfold gH;omega
 ·generalize hqq:gH B T V2=q;have h1:q<=B - 1:=by rw[<-hqq];unfold gH;omega
  have h2:q*V2<=T:=by
   have:q<=T / V2:=by rw[<-hqq];unfold gH;omega
   exact(D5 C).1 this
  rcases Dc q with h0 | h0
  ·rw[h0];exact AY _
  ·obtain⟨z,rfl⟩:∃z,q=z+1:=⟨q - 1,no⟩;have h3:z*V<=W:=by
    have G:z*V<=z*(V2*P+P):=C2 _ no;have I:z*(V2*P+P)<=T*P:=by
     have J:(z*V2+z)*P<=T*P:=Db _ (by rw[CU]at h2;omega);have e:z*(V2*P+P)=(z*V2+z)*P:=Ar
     rw[e];exact J
    omega
   have:z<=W / V:=(D5 F).2 h3;omega
theorem knuth(hN:2<=N)(Y:V<4294967296^N)(F:2147483648<=D V (N - 1))(hC:C<4294967296^(k+N+1))(hW:C / 4294967296^k<V*4294967296):
  D C (k+N)<=D V (N - 1)/\
  C / 4294967296^k / V<=gH 4294967296 ((D C (k+N)*4294967296+D C (k+N - 1))*4294967296+D C (k+N - 2)) (D V (N - 1)*4294967296+D V (N - 2))/\
  gH 4294967296 ((D C (k+N)*4294967296+D C (k+N - 1))*4294967296+D C (k+N - 2)) (D V (N - 1)*4294967296+D V (N - 2))<=C / 4294967296^k / V+1:=by
 obtain⟨j,rfl⟩:∃j,N=j+2:=⟨N - 2,no⟩;have e1:k+(j+2) - 1=k+j+1:=no
 have e2:k+(j+2) - 2=k+j:=no
 have e3:j+2 - 1=j+1:=no
 have e4:j+2 - 2=j:=no
 have e5:k+(j+2)=k+j+2:=no
 rw[e3]at F;rw[e1,e2,e3,e4,e5];rw[show k+(j+2)+1=k+j+3 by omega]at hC;have c3:C / 4294967296^(k+j+3)=0:=Cz hC;have U:=cH C (k+j+2);have c1:=cH C (k+j+1);have c0:=cH C (k+j);rw[c3,CS,A5]at U;rw[show k+j+1+1=k+j+2 by omega,U]at c1;rw[c1]at c0;have v2:V / 4294967296^(j+2)=0:=Cz Y;have v1:=cH V (j+1);have v0:=cH V j;rw[show j+1+1=j+2 by omega,v2,CS,A5]at v1;rw[v1]at v0;have H:0<V:=by
  rcases Dc V with h | h
  ·rw[h,D_zero]at F;omega
  ·exact h
 have aa:C / 4294967296^k / 4294967296^j=(D C (k+j+2)*4294967296+D C (k+j+1))*4294967296+D C (k+j):=by
  rw[CR,<-BC,c0];omega
 have Z:V / 4294967296^j=D V (j+1)*4294967296+D V j:=by rw[v0];omega
 have I:=Cf (C / 4294967296^k) (4294967296^j);have G:=Cf V (4294967296^j);rw[aa]at I;rw[Z]at G;rw[BV]at I G;have J:=sW (B:=4294967296) (W:=C / 4294967296^k) (V:=V) (P:=4294967296^j) (T:=(D C (k+j+2)*4294967296+D C (k+j+1))*4294967296+D C (k+j)) (V2:=D V (j+1)*4294967296+D V j)
  (cF j) I.symm (Bs _ (cF j)) G.symm (Bs _ (cF j)) no ((Co H).2 (by rw[BV];exact hW)) it
 refine⟨?_,J.1,J.2⟩;have t1:C / 4294967296^k / 4294967296<=V:=by
  have:C / 4294967296^k / 4294967296<V:=(Co it).2 hW;omega
 have K:=Nat.div_le_div_right (c:=4294967296^(j+1)) t1;rw[v1,CR,CR]at K;rw[show 4294967296^k*(4294967296*4294967296^(j+1))=4294967296^(k+j+2)by rw[<-EX,<-BC];congr 1]at K;rw[U]at K;exact K
theorem abo{a:Nat}(I:m<4294967296^a)(hs:s<32)(J:1<=N)(H:N<=a)(C:2147483648<=D (n*2^s) (N - 1)):m*2^s / 4294967296^(a - N+1)<n*2^s:=by
 rw[Co (cF _)];have h1:m*2^s<4294967296^a*2147483648:=by
  have h2:2^s<=2147483648:=by
   have:=E4 (n:=2) it (show s<=31 by omega);exact AD this it
  exact Bt (FW I (D3 it)) (C2 _ h2)
 have h3:2147483648*4294967296^(N - 1)<=n*2^s:=by
  have F:2147483648<=n*2^s / 4294967296^(N - 1):=AD C (Nat.mod_le _ _);exact(D5 (cF _)).1 F
 have G:=Db (4294967296^(a - N+1)) h3;rw[C0,<-BC,show N - 1+(a - N+1)=a by omega,BV]at G;omega
end Go.Proofs.YtggfmklppkioeaaGreat
