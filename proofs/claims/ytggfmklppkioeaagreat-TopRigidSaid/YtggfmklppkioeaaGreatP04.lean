/- A row of bytes that is made whole. The contract of natural.Format. Regions that draw their order: a table of what each operation makes; one small proof for each operation. Short forms for tables: what has been found, what is put. The operations of regions that draw their order, one proof a kind: package natural, rows of digits, variables, constants. awake: the chapter's examples. Argument variables of the statements; sizes. The reference's digit and Trim. The reference's digit as an operation of a region that draws its order. The reference's Mul. More operations of regions that draw their order. Tables for a part of a region: what is left of the region comes behind; new variables. The reference's bit. The state of the reference's DivMod. The reference's Gcd. The reference's Gcd and a negation as operations of a region that draws its order; a variable written behind a table. The reference's Format. Fractions in memory; tables of regions whose operations may be skipped. Fractions: stores, the operations of tables. Make of package fraction. Mul, Neg of package fraction; Neg of the reference. Add of package fraction. Stores that leave an unnamed world behind; calls of whatever contract in tables. An executor: abstract values, what they say of values in memory. An executor: the operations of a region in whatever order. -/
import Derived.Test.YtggfmklppkioeaaGreatP03
import Derived.Laws.AppendOwn
namespace Go.Proofs.YtggfmklppkioeaaGreat
set_option linter.unusedSimpArgs false
set_option linter.unusedVariables false
set_option maxRecDepth 100000
open Go.RowKit
def l9 (w:World) (g:Nat) (l:List UInt8):Prop:=∃cur:Array Value,w.heap[g]? =some (.cells cur 5 (0,0))∧cur.toList=bL l
def zrow8 (n:Nat):Obj:=.cells (madeCells #[.int .u8 0] n) 5
theorem l9.made (w:World) (n:Nat):l9 (w.alloc (zrow8 n)) w.heap.size (List.replicate n 0):=by
 refine⟨madeCells #[.int .u8 0] n,heap_alloc_new w _,?_⟩;simp only[madeCells,Array.toList_map,Array.toList_range,bL];apply List.ext_getElem
 ·simp
 ·intro i h1 h2;simp[Nat.mod_one]
theorem l9.lt {w:World} {g:Nat} {l:List UInt8} (h:l9 w g l):g<w.heap.size:=by
 obtain⟨cur,hg,_⟩:=h;exact(Array.getElem?_eq_some_iff.1 hg).1
theorem l9.cell {w:World} {g:Nat} {l:List UInt8} (h:l9 w g l) {p:Nat} (hp:p<l.length):w.cell? ⟨g,p,none⟩=some (.int .u8 ((l[p]'hp).toNat:Int)):=by
 obtain⟨cur,hg,hc⟩:=h;rw[cell_of_row w g p cur _ (0,0) hg,←Array.getElem?_toList,hc];simp[bL,hp]
theorem l9.frozen {w:World} {g:Nat} {l:List UInt8} (h:l9 w g l) (p:Nat):w.frozen? ⟨g,p,none⟩=false:=by
 obtain⟨cur,hg,hc⟩:=h;exact frozen_of_row w g p cur _ hg
theorem l9.store {w:World} {g p:Nat} {l:List UInt8} {b:UInt8} (h:l9 w g l):l9 (w.setCell ⟨g,p,none⟩ (.int .u8 (b.toNat:Int))) g (l.set p b):=by
 obtain⟨cur,hg,hc⟩:=h;refine⟨cur.setIfInBounds p (.int .u8 (b.toNat:Int)),heap_setCell_same w g p cur _ _ hg,?_⟩;rw[Array.toList_setIfInBounds,hc];simp[bL,List.map_set]
theorem kK {w:World} {ops:Array Oper} {rest:List Oper} {o:Oper} {a:Act} {Q:Exit→Act→World→Prop}
  (hg:o.guard=none) (l c:Operand) (hop:o.op=Op.makeSlice 196 l c)
  (kl kc:IntKind) (L C:Int) (n:Nat) (hl:a.eval l= .int kl L) (hc:a.eval c= .int kc C) (hL:L=(n:Int)) (hC:C=(n:Int)) (hn:n≤60000000000000)
  (hK:wpList Tryz.prog ops Q rest (a.put o.dst (.slice (some ⟨w.heap.size,0,none⟩) n n)) (w.alloc (zrow8 n))):
  wpList Tryz.prog ops Q (o::rest) a w:=by
 refine wpList_plain hg fun K hK'=> ?_
 obtain⟨i,hi,hz0,hz1,hz2⟩:=info_parts infoU8;subst hL;subst hC;have hrun:=run_make (P:=Tryz.prog) w 196 5 i (.int .u8 0) Tryz.underlying196 hi hz0 kl kc n n (by omega) (Int.le_refl _) (by rw[hz2];omega) (by omega);rw[hz1,Nat.mul_one]at hrun;simp only[Int.toNat_natCast]at hrun;unfold Oper.wp;simp[execOp,hop,hl,hc,hrun,Result.andThen];exact hK' _ _ hK
def qr (l:List UInt8) (i:Nat):List UInt8:=List.replicate (l.length - i) 0++(l.take i).reverse
theorem rvAt_len (l:List UInt8) (i:Nat) (hi:i≤l.length):(qr l i).length=l.length:=by unfold qr;simp;omega
theorem zc (l:List UInt8):qr l 0=List.replicate l.length 0:=by unfold qr;simp
theorem rvAt_end (l:List UInt8):qr l l.length=l.reverse:=by unfold qr;simp
theorem zd (l:List UInt8) (i:Nat) (hi:i<l.length):(qr l i).set (l.length - 1 - i) (l[i]'hi)=qr l (i+1):=by
 unfold qr;have e:l.take (i+1)=l.take i++ [l[i]]:=by rw[List.take_succ_eq_append_getElem hi]
 rw[e,List.reverse_append];obtain⟨k,hk⟩:∃k,l.length - i=k+1:=⟨l.length - i - 1,by omega⟩;rw[hk,show l.length - 1 - i=k by omega,show l.length - (i+1)=k by omega,List.replicate_succ'];rw[List.append_assoc,List.set_append_right _ _ (by simp)];simp
theorem vN {V r p:Nat} (h:¬(r=0∧V=0)) (hp:0<p):V*10^p+r≠0∧(V*10^p+r) % 10=r % 10∧(V*10^p+r) / 10=V*10^(p - 1)+r / 10:=by
 obtain⟨q,rfl⟩:∃q,p=q+1:=⟨p - 1,by omega⟩;have h10:0<10^q:=Nat.pow_pos (by decide);rw[Nat.pow_succ,Nat.add_sub_cancel];refine⟨fun h0=>h ?_,?_,?_⟩
 ·have h1:r=0:=by omega
  have h2:V*(10^q*10)=0:=by omega
  rcases Nat.mul_eq_zero.1 h2 with h3 | h3
  ·exact⟨h1,h3⟩
  ·omega
 ·rw[←Nat.mul_assoc,Nat.mul_comm,Nat.mul_add_mod]
 ·rw[←Nat.mul_assoc,Nat.mul_comm,Nat.mul_add_div (by decide)]
def Fits (r p:Nat):Prop:=r<10^p
def cC (N:Nat):ByteArray:=if N=0 then⟨#[48]⟩else⟨(fQ N).reverse.toArray⟩
set_option maxRecDepth 100000 in
theorem ma (va:Value) (N:Nat) (w:World) (ha:IsN w va N) (hm:nl N≤1000000000000):
  Calls Tryz.prog 130 #[va] w fun e w'=>cI w (.string (cC N)) e w':=by
 obtain⟨a,ca,rfl,hca,ra⟩:=ha;have hw:Below w.heap.size w (w.alloc (.cells #[.slice a (nl N) ca] 31)):=(Below.refl _ _).alloc (Nat.le_refl _) _;have ra0:=ra.mono hw;have hlen:=oc N;go_enter Tryz.func130,Tryz.ntmps130
 go_wp2_with fail
 refine(di a (nl N) ca N _ (by omega) hca ra0).mono ?_;rintro e w1 ⟨rfl,rfl⟩;go_upto_region 2 with(fail)
 go_cut [3,4] (fun s3 s4 wx=>s3= .slice a (nl N) (nl N)∧s4= .slice none 0 0∧Below w.heap.size w wx∧Rw wx a (nl N) N)
 case first=>
  go_wp2_with fail
  go_meet;case rel=>exact⟨rfl,rfl,hw,ra0.norm⟩
 case rest=>
  obtain⟨rfl,rfl,hb0,ra1⟩:=hcut;clear hw ra0 ra;have hsafe:=kJ.of_low ra1;go_wp2_with fail
  go_loopw [3,4] (fun s3 s4 wr=>∃V x l,s3= .slice x (nl V) (nl V)∧V≤N∧Rw wr x (nl V) V∧kJ wr wc.heap.size x (nl V)∧BR wr wc.heap.size s4 l∧Hid (fQ N=l++fQ V)∧Below wc.heap.size wc wr∧wc.heap.size≤wr.heap.size)
   (fun s3 _ wr=>valOf wr (.agg #[s3]))
  case atStart=>exact⟨N,a,[],rfl,Nat.le_refl _,ra1,hsafe,BR.nil _ _,Lib.hid (by simp),Below.refl _ _,Nat.le_refl _⟩
  case round=>
   obtain⟨V,x,l,rfl,hVN,hrx,hsx,hbl,HL,hbr,hsz⟩:=hrel;have hnv:=dH hVN;by_cases hV:V=0
   ·subst hV;obtain⟨y,cy,rfl,hcy,hys⟩:=hbl.open;rw[i9,List.append_nil]at HL;simp only[bv];by_cases hl0:l=[]
    ·subst hl0;have hN0:N=0:=Classical.byContradiction fun h=>by have:=HL.out;rw[ob h]at this;cases this
     subst hN0;go_wp2;go_ret;exact⟨by unfold cC;simp,hb0.trans (hbr.mono hb0.size)⟩
    ·have hlp:0<l.length:=List.length_pos_iff.2 hl0;have hN0:N≠0:=fun h=>hl0 (by have:=HL.out;rw[h,i9]at this;exact this.symm)
     have HN0:=Lib.hid hN0;have hl10:l.length≤10*nl N:=by rw[←HL.out];exact hlen
     clear hl0 hN0 hrx hsx;obtain⟨g1,rfl,hg1,hg1s,hcells⟩:=hys hlp;have hmade:=l9.made wr l.length;rw[←zc]at hmade;have hbm:Below wr.heap.size wr (wr.alloc (zrow8 l.length)):=(Below.refl _ _).alloc (Nat.le_refl _) _;go_wp2_with (at_make;refine kK rfl _ _ rfl _ _ _ _ l.length rfl rfl rfl rfl (by omega) ?_)
     go_loopw [50] (fun s50 wq=>∃i,i≤l.length∧s50= .int .i64 (i:Nat)∧l9 wq wr.heap.size (qr l i)∧Below wr.heap.size wr wq)
      (fun i _=>l.length - (intOf i).toNat)
     case atStart=>exact⟨0,Nat.zero_le _,rfl,hmade,hbm⟩
     case round=>
      obtain⟨i,hi,rfl,how,hbw⟩:=hrel;have hcw:∀j (hj:j<l.length),wr.cell? ⟨g1,j,none⟩=some (.int .u8 ((l[j]'hj).toNat:Int)):=fun j hj=>(hbw.cell (p:=⟨g1,j,none⟩) hg1s).trans (hcells j hj)
      by_cases hlt:i<l.length
      ·have c1:=hcw i hlt;have e1:((l.length:Int) - 1 - (i:Int))=((l.length - 1 - i:Nat):Int):=by omega
       have c2:=how.cell (p:=l.length - 1 - i) (by rw[rvAt_len l i hi];omega);have f2:=how.frozen (l.length - 1 - i);have hst:=how.store (p:=l.length - 1 - i) (b:=l[i]'hlt);rw[zd l i hlt]at hst;have hbs:=hbw.setCell (p:=⟨_,l.length - 1 - i,none⟩) (Nat.le_refl _) (.int .u8 ((l[i]'hlt).toNat:Int));have HST:=Lib.hid hst;clear hst;go_wp2_with fail
       go_roundw
       case rel=>exact⟨i+1,by omega,by go_num,HST.out,hbs⟩
       case measure=>simp[intOf];omega
      ·obtain rfl:i=l.length:=by omega
       rw[rvAt_end]at how;have hconv:=run_convert_bytes_back (P:=Tryz.prog) wr 196 9 5 ⟨_,0,none⟩ l.length l.reverse Tryz.underlying196 Tryz.underlying5 Tryz.underlying9 (fun j hj=>by
        have hadd:∀g,(⟨g,0,none⟩:Addr).add j=⟨g,j,none⟩:=fun g=>by unfold Addr.add;split<;>simp_all
        rw[hadd];exact how.cell hj)
       rw[List.length_reverse]at hconv;go_wp2;go_ret;exact⟨by unfold cC;rw[if_neg HN0.out,HL.out];rfl,hb0.trans ((hbr.mono hb0.size).trans (hbw.mono (Nat.le_trans hb0.size hsz)))⟩
   ·have hpos:=fO hV;go_wp2_with fail
    refine(xN x (nl V) (nl V) V 1000000000 wr hrx (by omega) (by decide) (by decide)).mono ?_;rintro e w2 ⟨g,rfl,hg,ho,hb2⟩;go_wp2_with fail
    refine(di _ (nl V) (nl V) (V / 1000000000) w2 (by omega) (Nat.le_refl _) ho.rw').mono ?_;rintro e w3 ⟨rfl,rfl⟩;have ho':=ho.rw'.norm;have hso:kJ w2 wc.heap.size (some ⟨g,0,none⟩) (nl (V / 1000000000)):=kJ.of_own ho;have hgb:wr.grownBy w2 none:=⟨hb2.os,hb2.tape,hb2.output,hb2.size,fun k hk _=>hb2.block k hk⟩;have hbl2:=hbl.keep hgb;have hbr2:=hbr.trans (hb2.mono hsz);have hsz2:wc.heap.size≤w2.heap.size:=Nat.le_trans hsz hb2.size;have hdm:V / 1000000000*10^9+V % 1000000000=V:=by have:=Nat.div_add_mod V 1000000000;omega
    have hrl:V % 1000000000<10^9:=Nat.mod_lt _ (by decide);have hVlt:V / 1000000000<V:=by omega
    have HV:=Lib.hid (IsN.valOf (v:=.agg #[.slice x (nl V) (nl V)]) ⟨x,nl V,rfl,Nat.le_refl _,hrx⟩);rw[←hdm]at HL;clear hdm hgb hbl hbr hrx hsx ho;have HLT:=Lib.hid hVlt;have hVN':V / 1000000000≤N:=by omega
    generalize V / 1000000000=M at *;have hcast:((V:Int) % 1000000000)=((V % 1000000000:Nat):Int):=by omega
    have HC:=Lib.hid hcast;clear hcast;have hlM:nl M≤nl N:=dH hVN';go_wp2_with fail
    go_loopw [4,6,23] (fun s4 s6 s23 wq=>∃i r l,i≤9∧s23= .int .i64 (i:Nat)∧s6= .int .u32 (r:Nat)∧Fits r (9 - i)∧r≤999999999∧BR wq wc.heap.size s4 l∧Hid (fQ N=l++fQ (M*10^(9 - i)+r))∧
      Below wc.heap.size wc wq∧wc.heap.size≤wq.heap.size∧Rw wq (some ⟨g,0,none⟩) (nl M) M∧kJ wq wc.heap.size (some ⟨g,0,none⟩) (nl M))
     (fun _ _ i _=>9 - (intOf i).toNat)
    case atStart=>exact⟨0,V % 1000000000,l,by omega,rfl,by rw[HC.out],hrl,by omega,hbl2,HL,hbr2,hsz2,ho',hso⟩
    case round=>
     obtain⟨i,r,l1,hi,rfl,rfl,hri,hr9,hbl1,HL1,hbq,hsq,hrq,hsfq⟩:=hrel;have hmeas:IsN wr (.agg #[.slice (some ⟨g,0,none⟩) (nl M) (nl M)]) M:=⟨_,_,rfl,Nat.le_refl _,hrq⟩;have HM:=Lib.hid hmeas.valOf;clear hmeas;by_cases hi9:i<9
     ·by_cases hbrk:r=0∧M=0
      ·obtain⟨h1,h2⟩:=hbrk;subst h1;have HL2:Hid (fQ N=l1++fQ M):=by
        have:=HL1.out;rw[h2,Nat.zero_mul,Nat.add_zero]at this;rw[h2];exact Lib.hid this
       have hz:(((nl M:Nat):Int)==0)=true:=by rw[h2,bv];rfl
       clear h2 HL1;go_wp2_with fail
       go_roundw
       case rel=>exact⟨M,some ⟨g,0,none⟩,l1,rfl,hVN',hrq,hsfq,hbl1,HL2,hbq,hsq⟩
       case measure=>rw[HM.out,HV.out];exact HLT.out
      ·obtain⟨k1,k2,k3⟩:=vN (p:=9 - i) hbrk (by omega);have HL3:Hid (fQ N=(l1++ [UInt8.ofNat (48+r % 10)])++fQ (M*10^(9 - (i+1))+r / 10)):=by
        have h:=HL1.out;rw[ob k1,k2,k3]at h;show _=_;rw[h,show 9 - i - 1=9 - (i+1)by omega];simp
       have hri':Fits (r / 10) (9 - (i+1)):=by
        have h:r<10^(9 - i):=hri;rw[show 9 - i=9 - (i+1)+1 by omega,Nat.pow_succ]at h;show r / 10<10^(9 - (i+1));rw[Nat.div_lt_iff_lt_mul (by decide)];exact h
       have hbyte:Hid (48+(r:Int) % 10=((UInt8.ofNat (48+r % 10)).toNat:Int)):=by
        show _=_;rw[UInt8.toNat_ofNat'];omega
       have hl10:l1.length≤10*nl N:=by
        have h:=congrArg List.length HL1.out;rw[List.length_append]at h;omega
       obtain⟨y1,cy1,rfl,hcy1,hys1⟩:=hbl1.open;clear k1 k2 k3 hri HL1 hys1;generalize UInt8.ofNat (48+r % 10)=b at *;by_cases hr0:r=0
       ·have hz1:((r:Int)==0)=true:=by rw[hr0];rfl
        have hM0:nl M≠0:=fun h=>hbrk ⟨hr0,by have:=dO M;rw[h]at this;omega⟩
        have hz2:(((nl M:Nat):Int)==0)=false:=by rw[beq_eq_false_iff_ne];omega
        clear hr0 hbrk;go_wp2_with (at_builtin;refine fE rfl _ _ rfl wc.heap.size (.slice y1 l1.length cy1) l1 b _ hbyte.out rfl hbl1 hsq rfl (by omega) ?_)
        intro v' w' hbl2 hbb hss hgg;obtain⟨hs2,hr2⟩:=hsfq.append hrq hbl1 hgg;clear hgg;go_wp2_with fail
        go_roundw
        case rel=>exact⟨i+1,r / 10,l1++ [b],by omega,by go_num,congrArg (Value.int .u32) (by omega),hri',by omega,hbl2,HL3,hbq.trans hbb,hss,hr2,hs2⟩
        case measure=>simp[intOf];omega
       ·have hz1:((r:Int)==0)=false:=by rw[beq_eq_false_iff_ne];omega
        clear hr0 hbrk;go_wp2_with (at_builtin;refine fE rfl _ _ rfl wc.heap.size (.slice y1 l1.length cy1) l1 b _ hbyte.out rfl hbl1 hsq rfl (by omega) ?_)
        intro v' w' hbl2 hbb hss hgg;obtain⟨hs2,hr2⟩:=hsfq.append hrq hbl1 hgg;clear hgg;go_wp2_with fail
        go_roundw
        case rel=>exact⟨i+1,r / 10,l1++ [b],by omega,by go_num,congrArg (Value.int .u32) (by omega),hri',by omega,hbl2,HL3,hbq.trans hbb,hss,hr2,hs2⟩
        case measure=>simp[intOf];omega
     ·obtain rfl:i=9:=by omega
      have hr0:r=0:=by have h:r<10^(9 - 9):=hri;simpa using h
      have HL2:Hid (fQ N=l1++fQ M):=by
       have:=HL1.out;rw[show 9 - 9=0 by omega,hr0,Nat.pow_zero,Nat.mul_one,Nat.add_zero]at this;exact Lib.hid this
      clear hr0 HL1 hri;go_wp2_with fail
      go_roundw
      case rel=>exact⟨M,some ⟨g,0,none⟩,l1,rfl,hVN',hrq,hsfq,hbl1,HL2,hbq,hsq⟩
      case measure=>rw[HM.out,HV.out];exact HLT.out
structure Sp where
 p:World→Value→Prop
 st:∀w w' v,p w v→Below w.heap.size w w'→p w' v
def Sp.val (u:Value):Sp:=⟨fun _ v=>v=u,fun _ _ _ h _=>h⟩
def Sp.any:Sp:=⟨fun _ _=>True,fun _ _ _ _ _=>trivial⟩
def Sp.nat (N:Nat):Sp:=⟨fun w v=>IsN w v N,fun _ _ _ h hb=>IsN.mono h hb⟩
def Sp.new (base N:Nat):Sp:=⟨fun w v=>bj base w v N,fun _ _ _ h hb=>bj.mono h hb⟩
def Sp.row (L N:Nat):Sp:=⟨fun w v=>∃g,v= .slice (some ⟨g,0,none⟩) L L∧aU w g L N,fun _ _ _ h hb=>by obtain⟨g,rfl,h⟩:=h;exact⟨g,rfl,h.mono hb h.lt⟩⟩
def Has (a:Act) (w:World) (t:Tmp) (s:Sp):Prop:=∃v,a.tmps[t]? =some v∧s.p w v
def Is (a:Act) (w:World) (x:Operand) (s:Sp):Prop:=s.p w (a.eval x)
theorem Has.is {a:Act} {w:World} {t:Tmp} {s:Sp} (h:Has a w t s):Is a w (.tmp t) s:=by
 obtain⟨v,h1,h2⟩:=h;unfold Is Act.eval;simp only[Array.getD_eq_getD_getElem?,h1,Option.getD_some];exact h2
theorem Is.const {a:Act} {w:World} {v:Value}:Is a w (.const v) (.val v):=rfl
theorem Has.mono {a:Act} {w w':World} {t:Tmp} {s:Sp} (h:Has a w t s) (hb:Below w.heap.size w w'):Has a w' t s:=by
 obtain⟨v,h1,h2⟩:=h;exact⟨v,h1,s.st _ _ _ h2 hb⟩
section
variable {P:Program} {ops:Array Oper} {Q:Exit→Act→World→Prop} {md:Region.Mode}
def Arm (P:Program) (Q:Exit→Act→World→Prop) (o:Oper) (a:Act) (w:World) (s:Sp):Prop:=
 ∀K:Act→World→Prop,(∀v w',s.p w' v→Below w.heap.size w w'→K (a.put o.dst v) w')→Oper.wp P o a w K Q
def fF (D:List (Nat×Tmp×Sp)):List (Nat×Tmp):=D.map fun x=>(x.1,x.2.1)
def EachX {α:Type} (p:α→Prop):List α→Prop
 | []=>True
 | x::l=>p x∧EachX p l
theorem EachX.mem {α:Type} {p:α→Prop} {l:List α} (h:EachX p l):∀x∈l,p x:=by
 induction l with
 | nil=>intro x hx;cases hx
 | cons y l ih=>
  intro x hx;rcases List.mem_cons.1 hx with rfl | hx
  ·exact h.1
  ·exact ih h.2 x hx
structure Found (md:Region.Mode) (ops:Array Oper) (D:List (Nat×Tmp×Sp)) (j:Nat) (w:World) (a a':Act) (w':World):Prop where
 below:Below w.heap.size w w'
 out:∀t,((fF D).map (·.2)).contains t=false→a'.tmps[t]? =a.tmps[t]?
 at':∀(i:Nat) (t:Tmp) (s:Sp),D[i]? =some (i,t,s)→(cf md ops j).contains i=true→Has a' w' t s
structure Made' (D:List (Nat×Tmp×Sp)) (w:World) (a a':Act) (w':World):Prop where
 below:Below w.heap.size w w'
 size:a'.tmps.size=a.tmps.size
 defers:a'.defers=a.defers
 out:∀t,((fF D).map (·.2)).contains t=false→a'.tmps[t]? =a.tmps[t]?
 at':∀(i:Nat) (t:Tmp) (s:Sp),D[i]? =some (i,t,s)→Has a' w' t s
theorem Found.keep {D:List (Nat×Tmp×Sp)} {j:Nat} {w w':World} {a a':Act} (h:Found md ops D j w a a' w') (t:Tmp) (v:Value) (ht:((fF D).map (·.2)).contains t=false) (hv:a.tmps[t]? =some v):Has a' w' t (.val v):=
 ⟨v,(h.out t ht).trans hv,rfl⟩
theorem Made'.keep {D:List (Nat×Tmp×Sp)} {w w':World} {a a':Act} (h:Made' D w a a' w') (t:Tmp) (v:Value) (ht:((fF D).map (·.2)).contains t=false) (hv:a.tmps[t]? =some v):Has a' w' t (.val v):=
 ⟨v,(h.out t ht).trans hv,rfl⟩
theorem Arm.weaken {o:Oper} {a:Act} {w:World} {s s':Sp} (h:Arm P Q o a w s) (hs:∀w v,s.p w v→s'.p w v):Arm P Q o a w s':=
 fun K hK=>h K (fun v w' h1 h2=>hK v w' (hs _ _ h1) h2)
end
section
variable {md:Region.Mode} {ops:Array Oper} {D:List (Nat×Tmp×Sp)} {w w':World} {a a':Act} {j:Nat}
theorem Found.f (F:Found md ops D j w a a' w') (i:Nat) {t:Tmp} {s:Sp} (h:D[i]? =some (i,t,s)) (h2:(cf md ops j).contains i=true:=by kernel_rfl):Is a' w' (.tmp t) s:=(F.at' i t s h h2).is
theorem Found.k (F:Found md ops D j w a a' w') (t:Tmp) (v:Value) (h:((fF D).map (·.2)).contains t=false:=by kernel_rfl) (h2:a.tmps[t]? =some v:=by rfl):Is a' w' (.tmp t) (.val v):=(F.keep t v h h2).is
end
theorem az {f:FuncId} {fn:Func} (hf:Tryz.prog.funcs[f]? =some fn) (hname:(fn.name== "runtime.NumGoroutine")=false) (hb:fn.body.isNone=false) (args:Array Value) (w:World):
  (callFunc f args).run Tryz.prog w= .ok (.enter f args) w:=by
 have h1:fn.name≠ "runtime.NumGoroutine" :=by simpa using hname
 simp[callFunc,hf,h1];intro h;simp[h]at hb
def cY (w:World) (g N:Nat):Prop:=∃a c,bd w g a (nl N) c∧IsN w (.agg #[.slice a (nl N) c]) N
theorem cY.mono {w w':World} {g N:Nat} (h:cY w g N) (hb:Below w.heap.size w w'):cY w' g N:=by
 obtain⟨a,c,h1,h2⟩:=h;exact⟨a,c,h1.mono hb h1.lt,h2.mono hb⟩
section
variable {ops:Array Oper} {Q:Exit→Act→World→Prop} {o:Oper} {a:Act} {w:World} {x y:Operand} {m n:Nat} {tt:Array TypeId}
end
theorem cY.of {w:World} {g c N:Nat} {a:Option Addr} (h:bd w g a (nl N) c) (hn:IsN w (.agg #[.slice a (nl N) c]) N):cY w g N:=⟨a,c,h,hn⟩
def VarR (w:World) (g L N:Nat):Prop:=∃a c,bd w g a L c∧IsR w (.agg #[.slice a L c]) L N
theorem VarR.mono {w w':World} {g L N:Nat} (h:VarR w g L N) (hb:Below w.heap.size w w'):VarR w' g L N:=by
 obtain⟨a,c,h1,h2⟩:=h;exact⟨a,c,h1.mono hb h1.lt,h2.mono hb⟩
theorem VarR.made {w:World} {a:Option Addr} {L c N:Nat} (h:IsR w (.agg #[.slice a L c]) L N):VarR (w.alloc (.cells #[.slice a L c] 31)) w.heap.size L N:=
 ⟨a,c,bd.made w a L c,h.mono ((Below.refl _ _).alloc (Nat.le_refl _) _)⟩
theorem r7 (w:World) (o:Obj):Below w.heap.size w (w.alloc o):=(Below.refl _ _).alloc (Nat.le_refl _) o
theorem sm_up {N d e:Nat} (h:N<4294967296^d) (he:d≤e):N<4294967296^e:=Nat.lt_of_lt_of_le h (Nat.pow_le_pow_right (by decide) he)
theorem sm_add {a b d e:Nat} (h:a<4294967296^d) (h':b<4294967296^e):a+b<4294967296^(d+e+1):=by
 have h1:=sm_up h (Nat.le_add_right d e);have h2:=sm_up h' (Nat.le_add_left e d);rw[Nat.pow_succ];omega
theorem sm_mul {a b d e:Nat} (h:a<4294967296^d) (h':b<4294967296^e):a*b<4294967296^(d+e):=by
 rw[Nat.pow_add];rcases Nat.eq_zero_or_pos b with rfl | hb
 ·rw[Nat.mul_zero];exact Nat.mul_pos (Nat.lt_of_le_of_lt (Nat.zero_le _) h) h'
 ·exact Nat.lt_of_lt_of_le ((Nat.mul_lt_mul_right hb).2 h) (Nat.mul_le_mul_left _ (Nat.le_of_lt h'))
section
variable {Q:Exit→Act→World→Prop} {o:Oper} {a:Act} {w:World} {tt:Array TypeId}
end
section
variable {Q:Exit→Act→World→Prop} {o:Oper} {a:Act} {w:World} {x y:Operand} {tt:Array TypeId}
end
theorem cY.cell {w:World} {g N:Nat} (h:cY w g N):∃a c,w.cell? ⟨g,0,none⟩=some (.slice a (nl N) c):=by
 obtain⟨a,c,h1,_⟩:=h;exact⟨a,c,h1.cell⟩
theorem GR.below {w w':World} {base L N:Nat} {v:Value} (h:GR w base v L N) (hb:Below w.heap.size w w'):GR w' base v L N:=by
 refine⟨h.1,h.2.1,?_⟩;rcases h.2.2 with⟨h1,h0⟩ | ⟨g,c,cur,rfl,hbg,hg,hr⟩
 ·exact .inl ⟨h1,h0⟩
 ·exact .inr ⟨g,c,cur,rfl,hbg,(hb.block g (Array.getElem?_eq_some_iff.1 hg).1).trans hg,hr⟩
theorem aU.drewN {w:World} {g L N:Nat} (h:aU w g L N) (q:Nat):aU (w.drewN q) g L N:=h
section
variable {Q:Exit→Act→World→Prop} {o:Oper} {a:Act} {w:World} {x y:Operand} {m n:Nat} {tt:Array TypeId}
def Sp.raw (L N:Nat):Sp:=⟨fun w v=>IsR w v L N,fun _ _ _ h hb=>IsR.mono h hb⟩
end
section
variable {P:Program} {ops:Array Oper} {Q:Exit→Act→World→Prop} {md:Region.Mode}
def ArmB (P:Program) (Q:Exit→Act→World→Prop) (al:Bool) (o:Oper) (a:Act) (w:World) (s:Sp):Prop:=
 ∀K:Act→World→Prop,(∀v w',s.p w' v→Below w.heap.size w w'→(al=true→w.heap.size≤blk v)→K (a.put o.dst v) w')→Oper.wp P o a w K Q
theorem Arm.b {o:Oper} {a:Act} {w:World} {s:Sp} (h:Arm P Q o a w s):ArmB P Q false o a w s:=fun K hK=>h K (fun v w' h1 h2=>hK v w' h1 h2 (fun h=>by cases h))
end
def Sp.var (base:Nat):Sp:=⟨fun w v=>∃g,v= .pointer (some ⟨g,0,none⟩)∧base≤g∧bd w g none 0 0,fun _ _ _ h hb=>by obtain⟨g,h1,h2,h3⟩:=h;exact⟨g,h1,h2,h3.mono hb h3.lt⟩⟩
section
variable {Q:Exit→Act→World→Prop} {o:Oper} {a:Act} {w:World} {x y:Operand} {m n:Nat} {tt:Array TypeId}
theorem Is.new {base:Nat} (h:Is a w x (.new base m)):Is a w x (.nat m):=bj.isN h
end
structure DM (w wr:World) (m n q r:Nat):Prop where
 below:Below w.heap.size w wr
 va:cY wr w.heap.size m
 vb:cY wr (w.heap.size+1) n
 r1:bd wr (w.heap.size+2) none 0 0
 r2:bd wr (w.heap.size+3) none 0 0
 vq:kI w.heap.size wr (w.heap.size+4) q
 vr:kI w.heap.size wr (w.heap.size+5) r
theorem DM.mono {w wr w':World} {m n q r:Nat} (h:DM w wr m n q r) (hb:Below wr.heap.size wr w'):DM w w' m n q r:=
 ⟨h.below.trans (hb.mono h.below.size),h.va.mono hb,h.vb.mono hb,h.r1.mono hb h.r1.lt,h.r2.mono hb h.r2.lt,h.vq.mono (B:=0) hb,h.vr.mono (B:=0) hb⟩
theorem cY.setOther {w:World} {g N g' L' c':Nat} {a':Option Addr} {u:Value} (h:cY w g N) (h':bd w g' a' L' c') (hne:g'≠g):cY (w.setCell ⟨g',0,none⟩ u) g N:=by
 obtain⟨a,c,h1,h2⟩:=h;exact⟨a,c,h1.setOther _ _ hne,h2.setVar h'⟩
theorem kI.setOther {w:World} {base g N g' L' c':Nat} {a':Option Addr} {u:Value} (h:kI base w g N) (h':bd w g' a' L' c') (hne:g'≠g):kI base (w.setCell ⟨g',0,none⟩ u) g N:=by
 obtain⟨a,c,h1,h2⟩:=h;exact⟨a,c,h1.setOther _ _ hne,h2.setVar h'⟩
theorem DM.fin {w w0:World} {m n q r cq cr:Nat} {aq ar:Option Addr} (h:DM w w0 m n q r) (hq:bd w0 (w.heap.size+4) aq (nl q) cq) (nq:bj w.heap.size w0 (.agg #[.slice aq (nl q) cq]) q)
  (hr:bd w0 (w.heap.size+5) ar (nl r) cr) (nr:bj w.heap.size w0 (.agg #[.slice ar (nl r) cr]) r) (w1:World)
  (hw:w1=(w0.setCell ⟨w.heap.size+2,0,none⟩ (.slice aq (nl q) cq)).setCell ⟨w.heap.size+3,0,none⟩ (.slice ar (nl r) cr)∨w1=(w0.setCell ⟨w.heap.size+3,0,none⟩ (.slice ar (nl r) cr)).setCell ⟨w.heap.size+2,0,none⟩ (.slice aq (nl q) cq)):
  bd w1 (w.heap.size+2) aq (nl q) cq∧bd w1 (w.heap.size+3) ar (nl r) cr∧bj w.heap.size w1 (.agg #[.slice aq (nl q) cq]) q∧bj w.heap.size w1 (.agg #[.slice ar (nl r) cr]) r∧Below w.heap.size w w1:=by
 rcases hw with rfl | rfl
 ·have k2:=h.r2.setOther ⟨w.heap.size+2,0,none⟩ (.slice aq (nl q) cq) (by simp);exact⟨h.r1.set.setOther _ _ (by simp),k2.set,(nq.setVar h.r1).setVar k2,(nr.setVar h.r1).setVar k2,(h.below.setCell (p:=⟨w.heap.size+2,0,none⟩) (Nat.le_add_right _ _) _).setCell (p:=⟨w.heap.size+3,0,none⟩) (Nat.le_add_right _ _) _⟩
 ·have k1:=h.r1.setOther ⟨w.heap.size+3,0,none⟩ (.slice ar (nl r) cr) (by simp);exact⟨k1.set,h.r2.set.setOther _ _ (by simp),(nq.setVar h.r2).setVar k1,(nr.setVar h.r2).setVar k1,(h.below.setCell (p:=⟨w.heap.size+3,0,none⟩) (Nat.le_add_right _ _) _).setCell (p:=⟨w.heap.size+2,0,none⟩) (Nat.le_add_right _ _) _⟩
section
variable {Q:Exit→Act→World→Prop} {o:Oper} {a:Act} {w:World} {x y:Operand} {m n:Nat} {tt:Array TypeId}
end
structure GT (w wx:World) (x y:Nat):Prop where
 below:Below w.heap.size w wx
 res:bd wx (w.heap.size+2) none 0 0
 v1:cY wx w.heap.size x
 v2:cY wx (w.heap.size+1) y
theorem GT.mono {w wx w':World} {x y:Nat} (h:GT w wx x y) (hb:Below wx.heap.size wx w'):GT w w' x y:=
 ⟨h.below.trans (hb.mono h.below.size),h.res.mono hb h.res.lt,h.v1.mono hb,h.v2.mono hb⟩
noncomputable def valI (w:World) (g:Nat):Nat:=Classical.epsilon (fun N=>cY w g N)
theorem cY.val {w:World} {g N:Nat} (h:cY w g N):valI w g=N:=by
 obtain⟨a',c',hb',hn'⟩:=Classical.epsilon_spec (p:=fun N=>cY w g N) ⟨N,h⟩;obtain⟨a,c,hb,hn⟩:=h;have e:=hb'.symm.trans hb;simp only[Option.some.injEq,Obj.cells.injEq,Array.mk.injEq,List.cons.injEq,Value.slice.injEq,and_true]at e;rw[e.1,e.2.1,e.2.2]at hn';exact hn'.unique hn
section
variable {Q:Exit→Act→World→Prop} {o:Oper} {a:Act} {w:World} {x y:Operand} {m n:Nat} {tt:Array TypeId}
end
theorem IsN.shape {w:World} {v:Value} {N:Nat} (h:IsN w v N):∃x c,v= .agg #[.slice x (nl N) c]:=by
 obtain⟨x,c,rfl,_⟩:=h;exact⟨x,c,rfl⟩
theorem cY.put {w:World} {g N c:Nat} {x:Option Addr} (hv:bd w g none 0 0) (hn:IsN w (.agg #[.slice x (nl N) c]) N):cY (w.setCell ⟨g,0,none⟩ (.slice x (nl N) c)) g N:=
 ⟨x,c,hv.set,hn.setVar hv⟩
theorem cY.set {w:World} {g L c c' N:Nat} {a a':Option Addr} (h:bd w g a L c) (hn:IsN w (.agg #[.slice a' (nl N) c']) N):cY (w.setCell ⟨g,0,none⟩ (.slice a' (nl N) c')) g N:=⟨a',c',h.set,hn.setVar h⟩
section
variable {P:Program} {Q:Exit→Act→World→Prop} {md:Region.Mode}
def xQ (P:Program) (Q:Exit→Act→World→Prop) (ops:Array Oper) (al:Bool) (j:Nat) (a':Act) (w':World) (s:Sp):Prop:=
 ∃o,ops[j]? =some o∧((Region.wanted o (yielded ops a'.tmps)=true∧ArmB P Q al o a' w' s)∨(Region.wanted o (yielded ops a'.tmps)=false∧al=false∧s.p w' undef))
theorem xQ.run {ops:Array Oper} {al:Bool} {j:Nat} {a':Act} {w':World} {s:Sp} {o:Oper} (ho:ops[j]? =some o) (hw:Region.wanted o (yielded ops a'.tmps)=true) (h:ArmB P Q al o a' w' s):xQ P Q ops al j a' w' s:=⟨o,ho,.inl ⟨hw,h⟩⟩
theorem xQ.skip {ops:Array Oper} {j:Nat} {a':Act} {w':World} {s:Sp} {o:Oper} (ho:ops[j]? =some o) (hw:Region.wanted o (yielded ops a'.tmps)=false) (h:s.p w' undef):xQ P Q ops false j a' w' s:=⟨o,ho,.inr ⟨hw,rfl,h⟩⟩
end
def IsF (w:World) (v:Value) (s:Bool) (p q:Nat):Prop:=∃a c b d,v= .agg #[.bool s,.slice a (nl p) c,.slice b (nl q) d]∧IsN w (.agg #[.slice a (nl p) c]) p∧IsN w (.agg #[.slice b (nl q) d]) q
theorem IsF.mono {w w':World} {v:Value} {s:Bool} {p q:Nat} (h:IsF w v s p q) (hb:Below w.heap.size w w'):IsF w' v s p q:=by
 obtain⟨a,c,b,d,rfl,h1,h2⟩:=h;exact⟨a,c,b,d,rfl,h1.mono hb,h2.mono hb⟩
def bF (w:World) (g:Nat) (s:Bool) (a:Option Addr) (L c:Nat) (b:Option Addr) (M d:Nat):Prop:=w.heap[g]? =some (.cells #[.bool s,.slice a L c,.slice b M d] 33 (0,0))
section
variable {w w':World} {g L c M d B:Nat} {s:Bool} {a b:Option Addr}
theorem bF.lt (h:bF w g s a L c b M d):g<w.heap.size:=(Array.getElem?_eq_some_iff.1 h).1
theorem bF.mono (h:bF w g s a L c b M d) (hb:Below B w w') (hB:g<B):bF w' g s a L c b M d:=(hb.block g hB).trans h
theorem bF.cell1 (h:bF w g s a L c b M d):w.cell? ⟨g,1,none⟩=some (.slice a L c):=by rw[cell_of_row w g 1 _ _ (0,0) h];rfl
theorem bF.cell2 (h:bF w g s a L c b M d):w.cell? ⟨g,2,none⟩=some (.slice b M d):=by rw[cell_of_row w g 2 _ _ (0,0) h];rfl
theorem bF.frozen (h:bF w g s a L c b M d) (j:Nat):w.frozen? ⟨g,j,none⟩=false:=frozen_of_row w g j _ _ h
theorem bF.made (w:World) (s:Bool) (a:Option Addr) (L c:Nat) (b:Option Addr) (M d:Nat):bF (w.alloc (.cells #[.bool s,.slice a L c,.slice b M d] 33)) w.heap.size s a L c b M d:=heap_alloc_new w _
end
def gH (w:World) (g:Nat) (s:Bool) (p q:Nat):Prop:=∃a c b d,bF w g s a (nl p) c b (nl q) d∧IsN w (.agg #[.slice a (nl p) c]) p∧IsN w (.agg #[.slice b (nl q) d]) q
theorem gH.mono {w w':World} {g p q:Nat} {s:Bool} (h:gH w g s p q) (hb:Below w.heap.size w w'):gH w' g s p q:=by
 obtain⟨a,c,b,d,h0,h1,h2⟩:=h;exact⟨a,c,b,d,h0.mono hb h0.lt,h1.mono hb,h2.mono hb⟩
def Sp.fr (s:Bool) (p q:Nat):Sp:=⟨fun w v=>IsF w v s p q,fun _ _ _ h hb=>h.mono hb⟩
def RetF (W:World) (s:Bool) (p q:Nat) (e:Ending) (w':World):Prop:=∃v,e= .returned v∧IsF w' v s p q∧Below W.heap.size W w'
theorem c_isZero (va:Value) (m:Nat) (w:World) (ha:IsN w va m) (hm:nl m≤1000000000000):
  Calls Tryz.prog 197 #[va] w fun e w'=>cI w (.bool (decide (m=0))) e w':=by
 obtain⟨a,ca,rfl,hca,ra⟩:=ha;have hw:=r7 w (.cells #[.slice a (nl m) ca] 31);have v1:=bd.made w a (nl m) ca;have c1:=v1.cell;have e:(((nl m:Nat):Int)==0)=decide (m=0):=by
  rw[Bool.eq_iff_iff];simp[vB]
 go_enter Tryz.func197,Tryz.ntmps197
 go_wp2;go_ret;exact⟨by first | rfl | (rw[←e];rfl) | simp_all,hw⟩
def putF (w:World) (g:Nat) (s:Bool) (a:Option Addr) (L c:Nat) (b:Option Addr) (M d:Nat):World:=
 ((w.setCell ⟨g,0,none⟩ (.bool s)).setCell ⟨g,1,none⟩ (.slice a L c)).setCell ⟨g,2,none⟩ (.slice b M d)
section
variable {w:World} {g L c M d L' c' M' d':Nat} {s s':Bool} {a b a' b':Option Addr}
theorem bF.put (h:bF w g s a L c b M d):bF (putF w g s' a' L' c' b' M' d') g s' a' L' c' b' M' d':=by
 have h1:=heap_setCell_same w g 0 _ _ (.bool s') h;have h2:=heap_setCell_same _ g 1 _ _ (.slice a' L' c') h1;have h3:=heap_setCell_same _ g 2 _ _ (.slice b' M' d') h2;exact h3
theorem ze {k:Nat} (hk:k≠g):(putF w g s a L c b M d).heap[k]? =w.heap[k]? :=by
 unfold putF;rw[Below.heap_setCell _ _ _ k hk,Below.heap_setCell _ _ _ k hk,Below.heap_setCell _ _ _ k hk]
theorem bF.ne (h:bF w g s a L c b M d) {k o:Nat} {x:Int} {ki:IntKind} (hd:w.cell? ⟨k,o,none⟩=some (.int ki x)):k≠g:=by
 rintro rfl;rw[cell_of_row w k o _ _ (0,0) h]at hd
 match o,hd with
 | 0,hd=>cases hd
 | 1,hd=>cases hd
 | 2,hd=>cases hd
 | (o+3),hd=>simp at hd
theorem IsN.putF {v:Value} {N:Nat} (h:IsN w v N) (hg:bF w g s a L c b M d):IsN (putF w g s' a' L' c' b' M' d') v N:=by
 obtain⟨x,cap,rfl,hc,hx⟩:=h;refine⟨x,cap,rfl,hc,hx.lt,fun hL=> ?_⟩;obtain⟨k,off,rfl,hd⟩:=hx.cells hL;have hne:k≠g:=hg.ne (by simpa using hd 0 hL);refine⟨k,off,rfl,fun j hj=> ?_⟩;rw[World.cell?_of_block (ze (by simpa using hne))];exact hd j hj
theorem IsF.putF {v:Value} {t:Bool} {p q:Nat} (h:IsF w v t p q) (hg:bF w g s a L c b M d):IsF (putF w g s' a' L' c' b' M' d') v t p q:=by
 obtain⟨x,cx,y,cy,rfl,h1,h2⟩:=h;exact⟨x,cx,y,cy,rfl,h1.putF hg,h2.putF hg⟩
end
section
variable {Q:Exit→Act→World→Prop} {o:Oper} {a:Act} {w:World} {x y z:Operand} {m n p q g:Nat} {s:Bool} {tt:Array TypeId}
end
def RetFE (W:World) (s:Bool) (p q:Nat) (c:Int) (e:Ending) (w':World):Prop:=∃v,e= .returned (.tuple #[v,.int .i64 c])∧IsF w' v s p q∧Below W.heap.size W w'
theorem IsF.zero (w:World):IsF w (.agg #[.bool false,.slice none 0 0,.slice none 0 0]) false 0 0:=by
 have h:IsN w (.agg #[.slice none (nl 0) 0]) 0:=by rw[bv];exact bj.isN (base:=0) bj.of_zero
 exact⟨none,0,none,0,by rw[bv],h,h⟩
theorem gH.of {w:World} {g p q c d:Nat} {s:Bool} {a b:Option Addr} (h:bF w g s a (nl p) c b (nl q) d) (h1:IsN w (.agg #[.slice a (nl p) c]) p) (h2:IsN w (.agg #[.slice b (nl q) d]) q):gH w g s p q:=⟨a,c,b,d,h,h1,h2⟩
def fR (s:Bool) (m:Nat):Bool:=s && !decide (m=0)
def iw (m n:Nat):Nat:=m / Nat.gcd m n
def jM (m n:Nat):Nat:=n / Nat.gcd m n
theorem bk {m n d e:Nat} (hm:nl m≤d) (hn:nl n≤e):nl (m*n)≤d+e:=aR.2 (sm_mul (aR.1 hm) (aR.1 hn))
theorem bF.setOther {w:World} {g L c M d:Nat} {s:Bool} {a b:Option Addr} (h:bF w g s a L c b M d) (p:Addr) (u:Value) (hp:p.block≠g):bF (w.setCell p u) g s a L c b M d:=
 (Below.heap_setCell w p u g (fun e=>hp e.symm)).trans h
theorem gH.setOther {w:World} {g p q g' L' c':Nat} {s:Bool} {a':Option Addr} {u:Value} (h:gH w g s p q) (h':bd w g' a' L' c') (hne:g'≠g):gH (w.setCell ⟨g',0,none⟩ u) g s p q:=by
 obtain⟨a,c,b,d,h0,h1,h2⟩:=h;exact⟨a,c,b,d,h0.setOther _ _ hne,h1.setVar h',h2.setVar h'⟩
theorem gH.lt {w:World} {g p q:Nat} {s:Bool} (h:gH w g s p q):g<w.heap.size:=by obtain⟨_,_,_,_,h,_⟩:=h;exact h.lt
theorem cY.lt {w:World} {g N:Nat} (h:cY w g N):g<w.heap.size:=by obtain⟨_,_,h,_⟩:=h;exact h.lt
def fS (s s':Bool) (X Y:Nat):Bool:=if s=s' then s else if Y≤X then s else s'
def eX (s s':Bool) (X Y:Nat):Nat:=if s=s' then X+Y else if Y≤X then X - Y else Y - X
theorem nl_add2 {m n d:Nat} (hm:nl m≤d) (hn:nl n≤d):nl (m+n)≤d+d+1:=aR.2 (sm_add (aR.1 hm) (aR.1 hn))
theorem addM_le (s s':Bool) (X Y:Nat):eX s s' X Y≤X+Y:=by unfold eX;by_cases h:s=s'<;>by_cases h2:Y≤X<;>simp only[h,h2,if_true,if_false]<;>omega
structure Upd (w:World) (g:Nat) (w':World):Prop where
 os:w'.os=w.os
 tape:w'.tape=w.tape
 output:w'.output=w.output
 size:w'.heap.size=w.heap.size
 block:∀k,k≠g→w'.heap[k]? =w.heap[k]?
theorem Upd.cell (w:World) (g k:Nat) (u:Value):Upd w g (w.setCell ⟨g,k,none⟩ u):=⟨rfl,rfl,rfl,by simp[World.setCell],fun i hi=>Below.heap_setCell _ _ _ _ hi⟩
theorem Upd.trans {a b c:World} {g:Nat} (h:Upd a g b) (k:Upd b g c):Upd a g c:=⟨k.os.trans h.os,k.tape.trans h.tape,k.output.trans h.output,k.size.trans h.size,fun i hi=>(k.block i hi).trans (h.block i hi)⟩
theorem Upd.below {W w w':World} {g B:Nat} (h:Below B W w) (u:Upd w g w') (hB:B≤g):Below B W w':=
 h.trans ⟨u.os,u.tape,u.output,by rw[u.size];exact Nat.le_refl _,fun k hk=>u.block k (by omega)⟩
def Own (w:World) (g:Nat):Prop:=∃(cs:Array Value) (t:TypeId),w.heap[g]? =some (Obj.cells cs t (0,0))∧∀(k:Nat) (n:Int),cs[k]? ≠some (Value.int .u32 n)
theorem bd.own {w:World} {g L c:Nat} {a:Option Addr} (h:bd w g a L c):Own w g:=⟨_,_,h,fun k n=>by
 match k with
 | 0=>intro h;cases h
 | k+1=>intro h;simp at h⟩
theorem bF.own {w:World} {g L c M d:Nat} {s:Bool} {a b:Option Addr} (h:bF w g s a L c b M d):Own w g:=⟨_,_,h,fun k n=>by
 match k with
 | 0=>intro h;cases h
 | 1=>intro h;cases h
 | 2=>intro h;cases h
 | k+3=>intro h;simp at h⟩
theorem cY.own {w:World} {g N:Nat} (h:cY w g N):Own w g:=by obtain⟨_,_,h,_⟩:=h;exact h.own
theorem gH.own {w:World} {g p q:Nat} {s:Bool} (h:gH w g s p q):Own w g:=by obtain⟨_,_,_,_,h,_⟩:=h;exact h.own
theorem Own.ne {w:World} {g k o:Nat} {x:Int} (h:Own w g) (hd:w.cell? ⟨k,o,none⟩=some (.int .u32 x)):k≠g:=by
 rintro rfl;obtain⟨cs,t,h1,h2⟩:=h;rw[cell_of_row w k o _ _ (0,0) h1]at hd;exact h2 o x hd
section
variable {w w':World} {g g' N L c M d p q:Nat} {s:Bool} {a b:Option Addr}
theorem IsR.upd {v:Value} {L N:Nat} (h:IsR w v L N) (o:Own w g) (u:Upd w g w'):IsR w' v L N:=by
 obtain⟨x,cap,rfl,hc,hx⟩:=h;refine⟨x,cap,rfl,hc,hx.lt,fun hL=> ?_⟩;obtain⟨b,off,rfl,hd⟩:=hx.cells hL;have hne:b≠g:=o.ne (by simpa using hd 0 hL);refine⟨b,off,rfl,fun j hj=> ?_⟩;rw[World.cell?_of_block (u.block b hne)];exact hd j hj
theorem IsN.upd {v:Value} (h:IsN w v N) (o:Own w g) (u:Upd w g w'):IsN w' v N:=IsR.upd h o u
theorem IsF.upd {v:Value} (h:IsF w v s p q) (o:Own w g) (u:Upd w g w'):IsF w' v s p q:=by
 obtain⟨x,cx,y,cy,rfl,h1,h2⟩:=h;exact⟨x,cx,y,cy,rfl,h1.upd o u,h2.upd o u⟩
theorem bd.upd (h:bd w g' a L c) (o:Own w g) (u:Upd w g w') (hn:g'≠g):bd w' g' a L c:=(u.block g' hn).trans h
theorem bF.upd (h:bF w g' s a L c b M d) (o:Own w g) (u:Upd w g w') (hn:g'≠g):bF w' g' s a L c b M d:=(u.block g' hn).trans h
theorem cY.upd (h:cY w g' N) (o:Own w g) (u:Upd w g w') (hn:g'≠g):cY w' g' N:=by
 obtain⟨x,cx,h1,h2⟩:=h;exact⟨x,cx,h1.upd o u hn,h2.upd o u⟩
theorem gH.upd (h:gH w g' s p q) (o:Own w g) (u:Upd w g w') (hn:g'≠g):gH w' g' s p q:=by
 obtain⟨x,cx,y,cy,h0,h1,h2⟩:=h;exact⟨x,cx,y,cy,h0.upd o u hn,h1.upd o u,h2.upd o u⟩
theorem cY.zero (h:bd w g none 0 0):cY w g 0:=⟨none,0,by rw[bv];exact h,by rw[bv];exact bj.isN (base:=0) bj.of_zero⟩
theorem gH.zero (h:bF w g false none 0 0 none 0 0):gH w g false 0 0:=by
 have h0:IsN w (.agg #[.slice none (nl 0) 0]) 0:=by rw[bv];exact bj.isN (base:=0) bj.of_zero
 exact⟨none,0,none,0,by rw[bv];exact h,h0,h0⟩
end
section
variable {Q:Exit→Act→World→Prop} {md:Region.Mode} {ops:Array Oper} {o:Oper} {a:Act} {w:World} {j fuel:Nat} {listed:Array Bool} {x y:Operand} {g L c M d N p q:Nat} {s t:Bool} {u v:Option Addr}
theorem bd.any (h:bd w g u L c):∃s L c,bd w g s L c:=⟨_,_,_,h⟩
theorem cY.any (h:cY w g N):∃s L c,bd w g s L c:=by obtain⟨_,_,h,_⟩:=h;exact⟨_,_,_,h⟩
theorem bF.any (h:bF w g s u L c v M d):∃s u L c v M d,bF w g s u L c v M d:=⟨_,_,_,_,_,_,_,h⟩
theorem gH.any (h:gH w g s p q):∃s u L c v M d,bF w g s u L c v M d:=by obtain⟨_,_,_,_,h,_⟩:=h;exact⟨_,_,_,_,_,_,_,h⟩
end
section
variable {Q:Exit→Act→World→Prop} {md:Region.Mode} {ops:Array Oper} {o:Oper} {a:Act} {w:World} {j fuel:Nat} {listed:Array Bool} {x y:Operand} {g L c M d N p q:Nat} {s t:Bool} {u v:Option Addr}
section
variable {f:FuncId} {S S1 S2 S3:Sp} {z:Operand} {tt:Array TypeId} {R:World→Ending→World→Prop}
end
end
theorem res_N {fn:Func} {p:Tmp} (h:fn.results=#[.cell p 31]) {tmps:Array Value} {w:World} {g L c:Nat} {a:Option Addr}
  (hp:tmps[p]? =some (.pointer (some ⟨g,0,none⟩))) (hv:bd w g a L c):(results fn tmps).run Tryz.prog w= .ok (.agg #[.slice a L c]) w:=by
 have c0:=hv.cell;simp[results,h,hp,asAddr,loadVar,go_sem,c0]
theorem resN {w:World}:Below w.heap.size w (w.alloc (.cells #[.slice none 0 0] 31))∧bd (w.alloc (.cells #[.slice none 0 0] 31)) w.heap.size none 0 0:=⟨r7 w _,bd.made w none 0 0⟩
structure Fq where
 s:Bool
 p:Nat
 q:Nat
abbrev IsQ (w:World) (v:Value) (x:Fq):Prop:=IsF w v x.s x.p x.q
def jx (W:World) (x:Fq) (e:Ending) (w':World):Prop:=RetF W x.s x.p x.q e w'
def xR (W:World) (x:Fq) (c:Int) (e:Ending) (w':World):Prop:=RetFE W x.s x.p x.q c e w'
def Fq.low (s:Bool) (m n:Nat):Fq:=⟨fR s m,iw m n,jM m n⟩
def Fq.neg (x:Fq):Fq:=⟨fR (!x.s) x.p,x.p,x.q⟩
def Fq.add (x y:Fq):Fq:=.low (fS x.s y.s (x.p*y.q) (y.p*x.q)) (eX x.s y.s (x.p*y.q) (y.p*x.q)) (x.q*y.q)
def Fq.mul (x y:Fq):Fq:=.low (x.s !=y.s) (x.p*y.p) (x.q*y.q)
def Fq.div (x y:Fq):Fq:=.low (x.s !=y.s) (x.p*y.q) (x.q*y.p)
def Fq.sub (x y:Fq):Fq:=x.add y.neg
def Fq.sgn (x:Fq):Int:=if x.p=0 then 0 else if x.s then -1 else 1
def Fq.cmp (x y:Fq):Int:=(x.sub y).sgn
def Fq.zero:Fq:=⟨false,0,0⟩
structure Fq.ok (d:Nat) (x:Fq):Prop where
 p:nl x.p≤d
 q:nl x.q≤d
 n:x.q≠0
section
variable {x y:Fq} {d e:Nat}
theorem Fq.ok.mono (h:x.ok d) (hd:d≤e):x.ok e:=⟨Nat.le_trans h.p hd,Nat.le_trans h.q hd,h.n⟩
theorem Fq.ok_low {s:Bool} {m n:Nat} (hm:nl m≤d) (hn:nl n≤d) (h0:n≠0):(Fq.low s m n).ok d:=
 ⟨Nat.le_trans (dH (Nat.div_le_self _ _)) hm,Nat.le_trans (dH (Nat.div_le_self _ _)) hn,fun h=>by
  have h1:n / Nat.gcd m n=0:=h;rw[Nat.div_eq_zero_iff]at h1;have h2:=Nat.gcd_pos_of_pos_right m (Nat.pos_of_ne_zero h0);have h3:=Nat.gcd_le_right m (Nat.pos_of_ne_zero h0);omega⟩
theorem Fq.ok.neg (h:x.ok d):x.neg.ok d:=⟨h.p,h.q,h.n⟩
theorem Fq.ok.mul (h:x.ok d) (k:y.ok e):(x.mul y).ok (d+e):=Fq.ok_low (bk h.p k.p) (bk h.q k.q) (Nat.mul_ne_zero h.n k.n)
theorem Fq.ok.div (h:x.ok d) (k:y.ok e) (h0:y.p≠0):(x.div y).ok (d+e):=Fq.ok_low (bk h.p k.q) (bk h.q k.p) (Nat.mul_ne_zero h.n h0)
theorem Fq.ok.add (h:x.ok d) (k:y.ok e):(x.add y).ok (d+e+(d+e)+1):=
 Fq.ok_low (Nat.le_trans (dH (addM_le _ _ _ _)) (nl_add2 (bk h.p k.q) (Nat.le_trans (bk k.p h.q) (by omega)))) (Nat.le_trans (bk h.q k.q) (by omega)) (Nat.mul_ne_zero h.n k.n)
theorem Fq.ok.sub (h:x.ok d) (k:y.ok e):(x.sub y).ok (d+e+(d+e)+1):=h.add k.neg
end
abbrev fnV (f:FuncId):Value:=.func (.func f) #[] #[]
def dU (v:Value):Prop:=(∀cs,v≠ .agg cs)∧(∀vs,v≠ .tuple vs)∧∀n,v≠ .int .u32 n
def strT:TypeId:=9
def bC (w:World) (g:Nat):Prop:=g<w.heap.size∧∀(k:Nat) (n:Int),w.cell? ⟨g,k,none⟩≠some (.int .u32 n)
theorem bC.mk' {w:World} {g:Nat} {cs:Array Value} {t:TypeId} (h:w.heap[g]? =some (Obj.cells cs t (0,0))) (hc:∀(k:Nat) (n:Int),cs[k]? ≠some (Value.int .u32 n)):bC w g:=
 ⟨(Array.getElem?_eq_some_iff.1 h).1,fun k n hk=>hc k n (by rw[cell_of_row w g k _ _ (0,0) h]at hk;exact hk)⟩
theorem Own.x {w:World} {g:Nat} (h:Own w g):bC w g:=by obtain⟨cs,t,h1,h2⟩:=h;exact .mk' h1 h2
theorem bC.blk {w w':World} {g:Nat} (h:bC w g) (e:w'.heap[g]? =w.heap[g]?) (hs:w.heap.size≤w'.heap.size):bC w' g:=⟨Nat.lt_of_lt_of_le h.1 hs,fun k n hk=>h.2 k n (by rw[←World.cell?_of_block (w:=w) (w':=w') (a:=⟨g,k,none⟩) e];exact hk)⟩
structure Chg (w w':World) (X:Nat→Prop):Prop where
 size:w.heap.size≤w'.heap.size
 blk:∀g,g<w.heap.size→¬X g→w'.heap[g]? =w.heap[g]?
 own:∀g,X g→bC w g
structure Vp where
 p:World→Value→Prop
 fp:World→Value→Nat→Prop
 ch:∀w w' X v,p w v→Chg w w' X→(∀g,fp w v g→¬X g)→p w' v∧∀g,fp w' v g→fp w v g
 lt:∀w v g,p w v→fp w v g→g<w.heap.size
 fl:∀w v,p w v→dU v
def Vp.of (p:World→Value→Prop) (fp:Value→Nat→Prop) (ch:∀w w' X v,p w v→Chg w w' X→(∀g,fp v g→¬X g)→p w' v) (lt:∀w v g,p w v→fp v g→g<w.heap.size) (fl:∀w v,p w v→dU v):Vp:=
 ⟨p,fun _=>fp,fun w w' X v h c k=>⟨ch w w' X v h c k,fun _ h=>h⟩,lt,fl⟩
theorem IsR.chg {w w':World} {X:Nat→Prop} {v:Value} {L N:Nat} (h:IsR w v L N) (k:Chg w w' X):IsR w' v L N:=by
 obtain⟨x,cap,rfl,hc,hx⟩:=h;refine⟨x,cap,rfl,hc,hx.lt,fun hL=> ?_⟩;obtain⟨b,off,rfl,hd⟩:=hx.cells hL;have hb:w'.heap[b]? =w.heap[b]? :=k.blk b (hd.lt hL) (fun hX=>(k.own b hX).2 off _ (by simpa using hd 0 hL));refine⟨b,off,rfl,fun j hj=> ?_⟩;rw[World.cell?_of_block hb];exact hd j hj
def Vp.val (u:Value):Vp:=.of (fun _ v=>v=u∧dU v) (fun _ _=>False) (fun _ _ _ _ h _ _=>h) (fun _ _ _ _ h=>h.elim) (fun _ _ h=>h.2)
def Vp.dig (L N:Nat):Vp:=.of (fun w v=>IsR w (.agg #[v]) L N) (fun _ _=>False) (fun _ _ _ _ h k _=>h.chg k) (fun _ _ _ _ h=>h.elim) (fun w v h=>by
 obtain⟨a,c,e,_⟩:=h;have e2:v= .slice a L c:=by
  injection e with e;have:=congrArg (fun x:Array Value=>x[0]?) e;simpa using this
 subst e2;exact⟨fun _ h=>by(cases h),fun _ h=>by(cases h),fun _ h=>by(cases h)⟩)
theorem Chg.below {w w':World} (h:Below w.heap.size w w'):Chg w w' (fun _=>False):=⟨h.size,fun g hg _=>h.block g hg,fun _ h=>h.elim⟩
theorem Chg.upd {w w':World} {g:Nat} (o:bC w g) (u:Upd w g w'):Chg w w' (fun x=>x=g):=⟨by rw[u.size];exact Nat.le_refl _,fun k _ hk=>u.block k hk,fun k hk=>by subst hk;exact o⟩
abbrev Rho:=List Vp
inductive Leaf where
 | b (x:Bool)
 | i (k:IntKind) (n:Int)
 | ptr (v off:Nat)
 | nilp
 | ref (n:Nat)
 | fn (f:FuncId)
 | sl0
 | s (x:ByteArray)
 | own (i n:Nat)
 deriving DecidableEq
inductive SV where
 | one (l:Leaf)
 | agg (ls:List Leaf)
 deriving DecidableEq
inductive AV where
 | v (s:SV)
 | tup (xs:List SV)
 | any
 deriving DecidableEq
structure Blk where
 v:Nat→Option Nat
 o:Nat→Nat→Prop
def noB:Blk:=⟨fun _=>none,fun _ _=>False⟩
def Blk.has (B:Blk) (g:Nat):Prop:=(∃x,B.v x=some g)∨∃k,B.o k g
theorem r8 {g:Nat}:¬noB.has g:=by rintro(⟨x,h⟩ | ⟨k,h⟩);(cases h);exact h
abbrev OW:Nat:=1000000
def Leaf.holds (ρ:Rho) (B:Blk) (w:World) (l:Leaf) (v:Value):Prop:=
 match l with
 | .b x=>v= .bool x
 | .i k n=>v= .int k n
 | .ptr x o=>∃g,B.v x=some g∧v= .pointer (some ⟨g,o,none⟩)
 | .nilp=>v= .pointer none
 | .ref n=>∃s,ρ[n]? =some s∧s.p w v∧∀g,s.fp w v g→¬B.has g
 | .fn f=>v=fnV f
 | .sl0=>v= .slice none 0 0
 | .s x=>v= .string x
 | .own k m=>∃s,ρ[m]? =some s∧s.p w v∧(∀g,s.fp w v g→B.o k g)∧∀g,v.ownBlock=some g→B.o k g
def aC (ρ:Rho) (B:Blk) (w:World):List Leaf→List Value→Prop
 | [],[]=>True
 | l::ls,v::vs=>l.holds ρ B w v∧aC ρ B w ls vs
 | _,_=>False
def SV.holds (ρ:Rho) (B:Blk) (w:World) (s:SV) (v:Value):Prop:=
 match s with
 | .one l=>l.holds ρ B w v
 | .agg ls=>∃vs:List Value,v= .agg vs.toArray∧aC ρ B w ls vs
def bW (ρ:Rho) (B:Blk) (w:World):List SV→List Value→Prop
 | [],[]=>True
 | l::ls,v::vs=>l.holds ρ B w v∧bW ρ B w ls vs
 | _,_=>False
def AV.holds (ρ:Rho) (B:Blk) (w:World) (s:AV) (v:Value):Prop:=
 match s with
 | .v s=>s.holds ρ B w v
 | .tup xs=>∃vs:List Value,v= .tuple vs.toArray∧bW ρ B w xs vs
 | .any=>v=undef
section
variable {ρ:Rho} {B B':Blk} {w w':World} {g:Nat} {v:Value}
structure BLe (B B':Blk):Prop where
 v:∀x g,B.v x=some g→B'.v x=some g
 o:∀k g,B.o k g→B'.o k g
def vO (n:Nat) (B B':Blk):Prop:=∀g,B'.has g→B.has g∨n≤g
def BOk (B:Blk) (n:Nat):Prop:=∀g,B.has g→g<n
theorem BLe.refl:BLe B B:=⟨fun _ _ h=>h,fun _ _ h=>h⟩
theorem vO.refl {n:Nat}:vO n B B:=fun _ h=>.inl h
structure BInj (B:Blk):Prop where
 v:∀x y g,B.v x=some g→B.v y=some g→x=y
 o:∀k l g,B.o k g→B.o l g→k=l
 vo:∀x k g,B.v x=some g→¬B.o k g
theorem Leaf.holds.mono {l:Leaf} (h:l.holds ρ B w v) (hB:BLe B B') (hN:vO w.heap.size B B') (hb:Below w.heap.size w w'):l.holds ρ B' w' v:=by
 cases l<;>simp only[Leaf.holds]at h⊢ <;>try exact h
 ·obtain⟨g,h1,h2⟩:=h;exact⟨g,hB.v _ _ h1,h2⟩
 ·obtain⟨s,h1,h2,h3⟩:=h;obtain⟨c1,c2⟩:=s.ch _ _ _ _ h2 (.below hb) (fun _ _ h=>h);refine⟨s,h1,c1,fun g hg hx=> ?_⟩;rcases hN g hx with h | h
  ·exact h3 g (c2 g hg) h
  ·have:=s.lt _ _ _ h2 (c2 g hg);omega
 ·obtain⟨s,h1,h2,h3,h4⟩:=h;obtain⟨c1,c2⟩:=s.ch _ _ _ _ h2 (.below hb) (fun _ _ h=>h);exact⟨s,h1,c1,fun g hg=>hB.o _ _ (h3 g (c2 g hg)),fun g hg=>hB.o _ _ (h4 g hg)⟩
theorem Leaf.holds.upd {l:Leaf} (h:l.holds ρ B w v) (o:bC w g) (u:Upd w g w') (hx:∃x,B.v x=some g) (hi:BInj B):l.holds ρ B w' v:=by
 obtain⟨x,hx⟩:=hx;cases l<;>simp only[Leaf.holds]at h⊢ <;>try exact h
 ·obtain⟨s,h1,h2,h3⟩:=h;obtain⟨c1,c2⟩:=s.ch _ _ _ _ h2 (.upd o u) (fun k hk e=>by subst e;exact h3 _ hk (.inl ⟨x,hx⟩));exact⟨s,h1,c1,fun g hg=>h3 g (c2 g hg)⟩
 ·obtain⟨s,h1,h2,h3,h4⟩:=h;obtain⟨c1,c2⟩:=s.ch _ _ _ _ h2 (.upd o u) (fun k hk e=>by subst e;exact hi.vo _ _ _ hx (h3 _ hk));exact⟨s,h1,c1,fun g hg=>h3 g (c2 g hg),h4⟩
theorem aC.all:∀ {ls:List Leaf} {vs:List Value},aC ρ B w ls vs→(∀(l:Leaf) (v:Value),Leaf.holds ρ B w l v→Leaf.holds ρ B' w' l v)→aC ρ B' w' ls vs
 | [],[],_,_=>trivial
 | _::_,_::_,h,f=>⟨f _ _ h.1,aC.all h.2 f⟩
 | [],_::_,h,_=>h.elim
 | _::_,[],h,_=>h.elim
theorem SV.holds.all {s:SV} (h:s.holds ρ B w v) (f:∀(l:Leaf) (v:Value),Leaf.holds ρ B w l v→Leaf.holds ρ B' w' l v):s.holds ρ B' w' v:=by
 cases s with
 | one l=>exact f _ _ h
 | agg ls=>obtain⟨vs,e,h⟩:=h;exact⟨vs,e,aC.all h f⟩
theorem bW.all:∀ {ls:List SV} {vs:List Value},bW ρ B w ls vs→(∀(l:Leaf) (v:Value),Leaf.holds ρ B w l v→Leaf.holds ρ B' w' l v)→bW ρ B' w' ls vs
 | [],[],_,_=>trivial
 | _::_,_::_,h,f=>⟨h.1.all f,bW.all h.2 f⟩
 | [],_::_,h,_=>h.elim
 | _::_,[],h,_=>h.elim
theorem AV.holds.all {s:AV} (h:s.holds ρ B w v) (f:∀(l:Leaf) (v:Value),Leaf.holds ρ B w l v→Leaf.holds ρ B' w' l v):s.holds ρ B' w' v:=by
 cases s with
 | v s=>exact SV.holds.all h f
 | tup ls=>obtain⟨vs,e,h⟩:=h;exact⟨vs,e,h.all f⟩
 | any=>exact h
theorem AV.holds.mono {s:AV} (h:s.holds ρ B w v) (hB:BLe B B') (hN:vO w.heap.size B B') (hb:Below w.heap.size w w'):s.holds ρ B' w' v:=h.all (fun _ _ h=>h.mono hB hN hb)
theorem AV.holds.upd {s:AV} (h:s.holds ρ B w v) (o:bC w g) (u:Upd w g w') (hx:∃x,B.v x=some g) (hi:BInj B):s.holds ρ B w' v:=h.all (fun _ _ h=>h.upd o u hx hi)
theorem aC.len:∀ {ls:List Leaf} {vs:List Value},aC ρ B w ls vs→vs.length=ls.length
 | [],[],_=>rfl
 | _::_,_::_,h=>by simp[h.2.len]
 | [],_::_,h=>h.elim
 | _::_,[],h=>h.elim
theorem aC.get:∀ {ls:List Leaf} {vs:List Value} {k:Nat} {l:Leaf},aC ρ B w ls vs→ls[k]? =some l→∃v,vs[k]? =some v∧l.holds ρ B w v
 | [],[],_,_,_,h=>by simp at h
 | _::_,v::_,0,_,h,e=>by simp at e;subst e;exact⟨v,rfl,h.1⟩
 | _::ls,_::vs,k+1,l,h,e=>by
  obtain⟨u,h1,h2⟩:=aC.get (k:=k) (l:=l) h.2 (by simpa using e);exact⟨u,by simpa using h1,h2⟩
 | [],_::_,_,_,h,_=>h.elim
 | _::_,[],_,_,h,_=>h.elim
theorem aC.mk:∀ {ls:List Leaf} {vs:List Value},vs.length=ls.length→(∀(k:Nat) (l:Leaf) (v:Value),ls[k]? =some l→vs[k]? =some v→l.holds ρ B w v)→aC ρ B w ls vs
 | [],[],_,_=>trivial
 | l::ls,v::vs,e,h=>⟨h 0 l v rfl rfl,aC.mk (by simpa using e) (fun k l v h1 h2=>h (k+1) l v (by simpa using h1) (by simpa using h2))⟩
 | [],_::_,e,_=>by simp at e
 | _::_,[],e,_=>by simp at e
theorem bW.get:∀ {ls:List SV} {vs:List Value} {k:Nat} {l:SV},bW ρ B w ls vs→ls[k]? =some l→∃v,vs[k]? =some v∧l.holds ρ B w v
 | [],[],_,_,_,h=>by simp at h
 | _::_,v::_,0,_,h,e=>by simp at e;subst e;exact⟨v,rfl,h.1⟩
 | _::ls,_::vs,k+1,l,h,e=>by
  obtain⟨u,h1,h2⟩:=bW.get (k:=k) (l:=l) h.2 (by simpa using e);exact⟨u,by simpa using h1,h2⟩
 | [],_::_,_,_,h,_=>h.elim
 | _::_,[],_,_,h,_=>h.elim
theorem aC.append:∀ {ls ls':List Leaf} {vs vs':List Value},aC ρ B w ls vs→aC ρ B w ls' vs'→aC ρ B w (ls++ls') (vs++vs')
 | [],_,[],_,_,k=>k
 | _::_,_,_::_,_,h,k=>⟨h.1,aC.append h.2 k⟩
 | [],_,_::_,_,h,_=>h.elim
 | _::_,_,[],_,h,_=>h.elim
def Leaf.flat:Leaf→Bool
 | .i .u32 _=>false
 | _=>true
theorem Leaf.holds.flat {l:Leaf} (h:l.holds ρ B w v) (hf:l.flat=true):dU v:=by
 cases l<;>simp only[Leaf.holds]at h
 ·subst h;exact⟨fun _ h=>by(cases h),fun _ h=>by(cases h),fun _ h=>by(cases h)⟩
 ·subst h;rename_i k n;exact⟨fun _ h=>by(cases h),fun _ h=>by(cases h),fun m h=>by
   injection h with h1 h2;subst h1;simp[Leaf.flat]at hf⟩
 ·obtain⟨g,_,h⟩:=h;subst h;exact⟨fun _ h=>by(cases h),fun _ h=>by(cases h),fun _ h=>by(cases h)⟩
 ·subst h;exact⟨fun _ h=>by(cases h),fun _ h=>by(cases h),fun _ h=>by(cases h)⟩
 ·obtain⟨s,_,h,_⟩:=h;exact s.fl _ _ h
 ·subst h;exact⟨fun _ h=>by(cases h),fun _ h=>by(cases h),fun _ h=>by(cases h)⟩
 ·subst h;exact⟨fun _ h=>by(cases h),fun _ h=>by(cases h),fun _ h=>by(cases h)⟩
 ·subst h;exact⟨fun _ h=>by(cases h),fun _ h=>by(cases h),fun _ h=>by(cases h)⟩
 ·obtain⟨s,_,h,_⟩:=h;exact s.fl _ _ h
end
def qE:Value→Option Leaf
 | .bool x=>some (.b x)
 | .int k n=>some (.i k n)
 | .pointer none=>some .nilp
 | .slice none 0 0=>some .sl0
 | .string s=>some (.s s)
 | _=>none
theorem mT {ρ:Rho} {B:Blk} {w:World} {v:Value} {l:Leaf} (h:qE v=some l):l.holds ρ B w v:=by
 unfold qE at h;split at h<;>first | (injection h with h;subst h;rfl) | cases h
def fG:List Value→Option (List Leaf)
 | []=>some []
 | v::vs=>match qE v,fG vs with
  | some l,some ls=>some (l::ls)
  | _,_=>none
theorem fT {ρ:Rho} {B:Blk} {w:World}:∀ {vs:List Value} {ls:List Leaf},fG vs=some ls→aC ρ B w ls vs
 | [],ls,h=>by simp[fG]at h;subst h;trivial
 | v::vs,ls,h=>by
  unfold fG at h
  cases h1:qE v with
  | none=>rw[h1]at h;simp at h
  | some l=>
   cases h2:fG vs with
   | none=>rw[h1,h2]at h;simp at h
   | some l2=>rw[h1,h2]at h;simp at h;subst h;exact⟨mT h1,fT h2⟩
def svC:Value→Option SV
 | .agg cs=>(fG cs.toList).map .agg
 | v=>(qE v).map .one
theorem zf {ρ:Rho} {B:Blk} {w:World} {v:Value} {s:SV} (h:svC v=some s):s.holds ρ B w v:=by
 unfold svC at h;split at h
 ·rename_i cs
  cases h1:fG cs.toList with
  | none=>rw[h1]at h;cases h
  | some l=>rw[h1]at h;simp at h;subst h;exact⟨cs.toList,by simp,fT h1⟩
 ·cases h1:qE v with
  | none=>rw[h1]at h;cases h
  | some l=>rw[h1]at h;simp at h;subst h;exact mT h1
def bu (ρ:Rho) (B:Blk) (a:Act) (w:World) (x:Nat) (c:AV):Prop:=
 if x<100000 then∃u,a.tmps[x]? =some u∧c.holds ρ B w u
 else∃g cs ty u,B.v (x / 100000 - 1)=some g∧w.heap[g]? =some (.cells cs ty (0,0))∧cs[x % 100000]? =some u∧c.holds ρ B w u
structure Eff where
 rd:List Nat
 wr:List (Nat×AV)
 al:Option Nat
 ks:List Nat
 ms:List Nat
def Leaf.objs:Leaf→List Nat
 | .own k _=>[k]
 | _=>[]
def SV.objs:SV→List Nat
 | .one l=>l.objs
 | .agg ls=>ls.flatMap Leaf.objs
def AV.objs:AV→List Nat
 | .v s=>s.objs
 | .tup xs=>xs.flatMap SV.objs
 | .any=>[]
def AV.hit (ks:List Nat) (c:AV):Bool:=c.objs.any ks.contains
def fil (ks:List Nat):Option AV→Option AV
 | some c=>if c.hit ks then none else some c
 | none=>none
theorem eo {ks:List Nat} {o:Option AV} {c:AV} (h:fil ks o=some c):o=some c∧c.hit ks=false:=by
 cases o with
 | none=>cases h
 | some d=>
  simp only[fil]at h;split at h
  ·cases h
  ·rename_i hn;injection h with h;subst h;exact⟨rfl,by simpa using hn⟩
theorem iy {ks:List Nat} {o:Option AV} {c:AV} (h:o=some c) (hn:c.hit ks=false):fil ks o=some c:=by subst h;simp[fil,hn]
structure Ent where
 w:World
 X:Nat→Prop
 pin:List Nat
def Ent.may (e:Ent) (g:Nat):Prop:=e.w.heap.size≤g∨e.X g
structure Ent.kept (e:Ent) (w:World):Prop where
 os:w.os=e.w.os
 tape:w.tape=e.w.tape
 output:w.output=e.w.output
 size:e.w.heap.size≤w.heap.size
 block:∀k,k<e.w.heap.size→¬e.X k→w.heap[k]? =e.w.heap[k]?
abbrev Ent.of (w:World):Ent:=⟨w,fun _=>False,[]⟩
theorem Ent.kept.refl {e:Ent}:e.kept e.w:=⟨rfl,rfl,rfl,Nat.le_refl _,fun _ _ _=>rfl⟩
theorem Ent.kept.to {w0 w:World} (h:(Ent.of w0).kept w):Below w0.heap.size w0 w:=⟨h.os,h.tape,h.output,h.size,fun k hk=>h.block k hk (fun h=>h)⟩
theorem Ent.kept.below {e:Ent} {w w':World} (h:e.kept w) (hb:Below w.heap.size w w'):e.kept w':=
 ⟨hb.os.trans h.os,hb.tape.trans h.tape,hb.output.trans h.output,Nat.le_trans h.size hb.size,fun k hk hX=>(hb.block k (Nat.lt_of_lt_of_le hk h.size)).trans (h.block k hk hX)⟩
theorem Ent.kept.upd {e:Ent} {w w':World} {g:Nat} (h:e.kept w) (u:Upd w g w') (hg:e.may g):e.kept w':=
 ⟨u.os.trans h.os,u.tape.trans h.tape,u.output.trans h.output,by rw[u.size];exact h.size,fun k hk hX=>(u.block k (fun e=>by subst e;rcases hg with h | h;(omega);exact hX h)).trans (h.block k hk hX)⟩
theorem Ent.may.ge {e:Ent} {w:World} (h:e.kept w) {g:Nat} (hg:w.heap.size≤g):e.may g:=.inl (Nat.le_trans h.size hg)
structure Inv (vt:List (TypeId×Nat)) (w0:Ent) (nt:Nat) (B:Blk) (a:Act) (w:World):Prop where
 blk:∀v g,B.v v=some g→w0.may g∧∃cs ty,vt[v]? =some (ty,cs.size)∧w.heap[g]? =some (.cells cs ty (0,0))∧(∀(k:Nat) (n:Int),cs[k]? ≠some (.int .u32 n))
 own:∀k g,B.o k g→w0.may g∧bC w g
 inj:BInj B
 below:w0.kept w
 size:a.tmps.size=nt
 dfr:a.defers=[]
 pin:∀x g,w0.pin[x]? =some g→B.v x=some g
structure Post (ρ:Rho) (vt:List (TypeId×Nat)) (w0:Ent) (nt:Nat) (e:Eff) (B:Blk) (a:Act) (w:World) (B':Blk) (a':Act) (w':World):Prop where
 le:BLe B B'
 inv:Inv vt w0 nt B' a' w'
 wr:∀p∈e.wr,bu ρ B' a' w' p.1 p.2
 keep:∀x c,bu ρ B a w x c→(∀p∈e.wr,p.1≠x)→c.hit e.ks=false→bu ρ B' a' w' x c
 new:∀v,B.v v=none→B'.v v≠none→e.al=some v
def OpOk (P:Program) (ρ:Rho) (vt:List (TypeId×Nat)) (w0:Ent) (nt:Nat) (ops:Array Oper) (Q:Exit→Act→World→Prop) (j:Nat) (lk:Nat→Option AV) (e:Eff):Prop:=
 ∀B a w,Inv vt w0 nt B a w→(∀x∈e.rd,∀c,lk x=some c→bu ρ B a w x c)→(∀v,e.al=some v→B.v v=none)→
  ∀K:Act→World→Prop,(∀B' a' w',Post ρ vt w0 nt e B a w B' a' w'→K a' w')→wpOp P ops Q j K a w
abbrev dN:=List (Nat×Eff)
def lkE (b:Nat→Option AV):dN→Nat→Option AV
 | [],x=>b x
 | (_,e)::r,x=>match e.wr.find? (fun p=>p.1==x)with
  | some p=>some p.2
  | none=>fil e.ks (lkE b r x)
def dF (b:Nat→Option AV) (T:List Nat):dN→Nat→Option AV
 | [],x=>b x
 | (i,e)::r,x=>if T.contains i then(match e.wr.find? (fun p=>p.1==x)with
  | some p=>some p.2
  | none=>fil e.ks (dF b T r x))else dF b T r x
def me (e e':Eff):Bool:=
 e'.wr.all (fun p=> !e.rd.contains p.1 && !e.wr.any (fun q=>q.1==p.1)) && (e'.rd.all (fun x=> !e.wr.any (fun q=>q.1==x)) && (e'.ks.all (fun k=> !e.ks.contains k && !e.ms.contains k) && e.ks.all (fun k=> !e'.ms.contains k)))
structure Eff.Wf (e:Eff) (lk:Nat→Option AV):Prop where
 rd:∀x∈e.rd,∀c,lk x=some c→∀k∈c.objs,k∈e.ms
 wr:∀p∈e.wr,∀k∈p.2.objs,k∈e.ms
def xS (m:Nat) (r:dN) (e:Eff):Bool:=r.all fun p=>m.testBit p.1 || me e p.2
section
variable {P:Program} {ρ:Rho} {vt:List (TypeId×Nat)} {w0:Ent} {nt:Nat} {ops:Array Oper} {Q:Exit→Act→World→Prop} {b:Nat→Option AV} {md:Region.Mode}
def vP (md:Region.Mode) (ops:Array Oper) (T:List Nat):Prop:=∀j∈T,∀k∈cf md ops j,k∈T
def xT (md:Region.Mode) (ops:Array Oper) (m j:Nat):Prop:=∀i,m.testBit i=true→∀T,vP md ops T→(∀k∈cf md ops j,k∈T)→i∈T
def oe (P:Program) (ρ:Rho) (vt:List (TypeId×Nat)) (w0:Ent) (nt:Nat) (md:Region.Mode) (ops:Array Oper) (Q:Exit→Act→World→Prop) (b:Nat→Option AV) (nb:Nat):dN→Prop
 | []=>True
 | (j,e)::r=>j=r.length∧OpOk P ρ vt w0 nt ops Q j (lkE b r) e∧(∃m,xT md ops m j∧xS m r e=true)∧e.Wf (lkE b r)∧(∀v,e.al=some v→(nb≤v∧v<OW)∧∀p∈r,p.2.al≠some v)∧oe P ρ vt w0 nt md ops Q b nb r
theorem og (T:List Nat) (x y:dN):dF b T (x++y)=dF (dF b T y) T x:=by
 induction x with
 | nil=>rfl
 | cons p x ih=>
  funext z
  obtain⟨i,e⟩:=p;simp only[List.cons_append,dF,ih]
theorem valT_all (T:List Nat) (r:dN) (h:∀p∈r,p.1∈T):dF b T r=lkE b r:=by
 induction r with
 | nil=>rfl
 | cons p x ih=>
  funext z
  obtain⟨i,e⟩:=p;have h1:T.contains i=true:=List.contains_iff_mem.2 (h (i,e) (by simp));simp only[dF,lkE,h1,if_true,ih (fun p hp=>h p (List.mem_cons_of_mem _ hp))]
theorem qF {l:List (Nat×AV)} {x:Nat} (h:∀p∈l,p.1≠x):l.find? (fun p=>p.1==x)=none:=by
 rw[List.find?_eq_none];intro p hp;simpa using h p hp
theorem qG {l:List (Nat×AV)} {x:Nat} {p:Nat×AV} (h:l.find? (fun p=>p.1==x)=some p):p∈l∧p.1=x:=
 ⟨List.mem_of_find?_eq_some h,by simpa using List.find?_some h⟩
theorem xU {l:List (Nat×AV)} {x:Nat} (h:l.find? (fun p=>p.1==x)=none):∀p∈l,p.1≠x:=fun p hp e=>by
 have:=List.find?_eq_none.1 h p hp;simp[e]at this
theorem r9 {T:List Nat} {x:Nat} {c:AV}:∀ {hi:dN} {f:Nat→Option AV},dF f T hi x=some c→
  (∃p∈hi,p.1∈T∧(∃q∈p.2.wr,q.1=x∧q.2=c)∧∀f':Nat→Option AV,dF f' T hi x=some c)∨
  (f x=some c∧(∀p∈hi,p.1∈T→∀q∈p.2.wr,q.1≠x)∧∀f':Nat→Option AV,f' x=some c→dF f' T hi x=some c)
 | [],f,h=>.inr ⟨h,fun p hp=>by(cases hp),fun f' h=>h⟩
 | (i,e)::hi,f,h=>by
  simp only[dF]at h;by_cases hT:T.contains i=true
  ·rw[if_pos hT]at h;split at h
   ·rename_i p hp;injection h with h;obtain⟨h1,h2⟩:=qG hp;refine .inl ⟨(i,e),by simp,List.contains_iff_mem.1 hT,⟨p,h1,h2,h⟩,fun f'=> ?_⟩;simp only[dF,if_pos hT,hp,h]
   ·rename_i hp;obtain⟨h1,h2⟩:=eo h;rcases r9 h1 with⟨p,k1,k2,k3,k4⟩ | ⟨k1,k2,k3⟩
    ·refine .inl ⟨p,List.mem_cons_of_mem _ k1,k2,k3,fun f'=> ?_⟩;simp only[dF,if_pos hT,hp];exact iy (k4 f') h2
    ·refine .inr ⟨k1,fun p hp' hpT=> ?_,fun f' hf=> ?_⟩
     ·rcases List.mem_cons.1 hp' with rfl | hp'
      ·exact xU hp
      ·exact k2 p hp' hpT
     ·simp only[dF,if_pos hT,hp];exact iy (k3 f' hf) h2
  ·rw[if_neg hT]at h;rcases r9 h with⟨p,k1,k2,k3,k4⟩ | ⟨k1,k2,k3⟩
   ·exact .inl ⟨p,List.mem_cons_of_mem _ k1,k2,k3,fun f'=>by simp only[dF,if_neg hT];exact k4 f'⟩
   ·refine .inr ⟨k1,fun p hp' hpT=> ?_,fun f' hf=>by simp only[dF,if_neg hT];exact k3 f' hf⟩;rcases List.mem_cons.1 hp' with rfl | hp'
    ·exact absurd (List.contains_iff_mem.2 hpT) hT
    ·exact k2 p hp' hpT
theorem qH {T:List Nat} {x:Nat} {c:AV} {f:Nat→Option AV} (hf:f x=some c):∀ {hi:dN},(∀p∈hi,p.1∈T→(∀q∈p.2.wr,q.1≠x)∧c.hit p.2.ks=false)→dF f T hi x=some c
 | [],_=>hf
 | (i,e)::hi,h=>by
  have ih:=qH hf (hi:=hi) (fun p hp=>h p (List.mem_cons_of_mem _ hp));simp only[dF];by_cases hT:T.contains i=true
  ·obtain⟨h1,h2⟩:=h (i,e) (by simp) (List.contains_iff_mem.1 hT);rw[if_pos hT,qF h1];exact iy ih h2
  ·rw[if_neg hT];exact ih
theorem qI {c:AV} {ks:List Nat} (h:∀k∈c.objs,k∉ks):c.hit ks=false:=by
 unfold AV.hit;rw[List.any_eq_false];intro k hk;simpa using h k hk
structure NC (e e':Eff):Prop where
 wr:∀p∈e'.wr,p.1∉e.rd∧∀q∈e.wr,q.1≠p.1
 rd:∀x∈e'.rd,∀q∈e.wr,q.1≠x
 ks:∀k∈e'.ks,k∉e.ks∧k∉e.ms
 ms:∀k∈e.ks,k∉e'.ms
theorem oh {e e':Eff} (h:me e e'=true):NC e e':=by
 unfold me at h;simp only[Bool.and_eq_true,List.all_eq_true,Bool.not_eq_true',List.any_eq_false,beq_iff_eq,List.contains_eq_mem,decide_eq_false_iff_not]at h;exact⟨h.1,h.2.1,h.2.2.1,h.2.2.2⟩
theorem oe.split {nb:Nat} {r:dN} (h:oe P ρ vt w0 nt md ops Q b nb r) {j:Nat} (hj:j<r.length):∃hi e lo,r=hi++(j,e)::lo∧lo.length=j∧oe P ρ vt w0 nt md ops Q b nb ((j,e)::lo)∧
  (∀p∈hi,j<p.1∧(∃m,xT md ops m p.1∧(m.testBit j=true∨me p.2 e=true))∧(∀v,p.2.al=some v→e.al≠some v)∧∀q∈p.2.wr,∀k∈q.2.objs,k∈p.2.ms):=by
 induction r with
 | nil=>simp at hj
 | cons p r ih=>
  obtain⟨i,e⟩:=p;obtain⟨h1,h2,h3,hw,h4,h5⟩:=h;by_cases hji:j=i
  ·subst hji;exact⟨[],e,r,rfl,h1.symm,⟨h1,h2,h3,hw,h4,h5⟩,fun p hp=>by cases hp⟩
  ·have hj':j<r.length:=by simp at hj;omega
   obtain⟨hi,e',lo,rfl,e2,hg,hall⟩:=ih h5 hj';refine⟨(i,e)::hi,e',lo,rfl,e2,hg,fun p hp=> ?_⟩;rcases List.mem_cons.1 hp with rfl | hp
   ·obtain⟨m,hm,hok⟩:=h3;refine⟨by simp only;omega,⟨m,hm,?_⟩,fun v hv=>(h4 v hv).2 (j,e') (by simp),hw.wr⟩;unfold xS at hok;have:=List.all_eq_true.1 hok (j,e') (by simp);simpa using this
   ·exact hall p hp
theorem oe.idx {nb:Nat} {r:dN} (h:oe P ρ vt w0 nt md ops Q b nb r):∀p∈r,p.1<r.length:=by
 induction r with
 | nil=>intro p hp;cases hp
 | cons p r ih=>
  obtain⟨i,e⟩:=p;obtain⟨h1,h2,h3,hw,h4,h5⟩:=h;intro q hq;rcases List.mem_cons.1 hq with rfl | hq
  ·simp only[List.length_cons];omega
  ·have:=ih h5 q hq;simp only[List.length_cons];omega
theorem val_lo {T:List Nat} {e:Eff} {x:Nat} {c:AV} (hx:x∈e.rd):∀ {lo:dN},(∀p∈lo,p.1∈T∨me e p.2=true)→lkE b lo x=some c→dF b T lo x=some c
 | [],_,h=>h
 | (i,e')::lo,h,hc=>by
  simp only[dF,lkE]at hc⊢;have ih':=val_lo (c:=c) hx (lo:=lo) (fun p hp=>h p (List.mem_cons_of_mem _ hp));by_cases hiT:T.contains i=true
  ·rw[if_pos hiT];split at hc
   ·exact hc
   ·obtain⟨h1,h2⟩:=eo hc;exact iy (ih' h1) h2
  ·rw[if_neg hiT];rcases h (i,e') (by simp)with h | h
   ·exact absurd (List.contains_iff_mem.2 h) hiT
   ·rw[qF (fun q hq he=>((oh h).wr q hq).1 (by rw[he];exact hx))]at hc;exact ih' (eo hc).1
theorem mf {T:List Nat} {j:Nat}:∀ {r:dN} {b:Nat→Option AV},(∀p∈r,p.1≠j)→dF b (T++ [j]) r=dF b T r
 | [],_,_=>rfl
 | (i,e')::r,b,h=>by
  funext z
  have hc:(T++ [j]).contains i=T.contains i:=by
   have:=h (i,e') (by simp);simp only at this;rw[Bool.eq_iff_iff];simp[this]
  simp only[dF,hc,mf (r:=r) (b:=b) (fun p hp=>h p (List.mem_cons_of_mem _ hp))]
def StT (ρ:Rho) (vt:List (TypeId×Nat)) (w0:Ent) (nt:Nat) (b:Nat→Option AV) (nb:Nat) (r:dN) (T:List Nat) (a:Act) (w:World):Prop:=
 ∃B,Inv vt w0 nt B a w∧(∀x c,dF b T r x=some c→bu ρ B a w x c)∧(∀v,B.v v≠none→v<nb∨∃p∈r,p.1∈T∧p.2.al=some v)
theorem tM {nb:Nat} {r:dN} (hg:oe P ρ vt w0 nt md ops Q b nb r) {T:List Nat} {j:Nat} (hj:j<r.length) (hT:vP md ops T) (hjT:j∉T) (hp:∀k∈cf md ops j,k∈T)
  {a:Act} {w:World} (h:StT ρ vt w0 nt b nb r T a w) {K:Act→World→Prop} (hK:∀a' w',StT ρ vt w0 nt b nb r (T++ [j]) a' w'→K a' w'):wpOp P ops Q j K a w:=by
 obtain⟨hi,e,lo,rfl,hlo,⟨_,hop,⟨m,hm,hok⟩,hwf,hal,hgl⟩,hhi⟩:=hg.split hj;obtain⟨B,hinv,hval,hB⟩:=h;have hhi':∀p∈hi,p.1∈T→NC p.2 e:=fun p hp1 hp2=>by
  obtain⟨_,⟨m',hm',hor⟩,_⟩:=hhi p hp1;rcases hor with hor | hor
  ·exact absurd (hm' j hor T hT (fun k hk=>hT _ hp2 k hk)) hjT
  ·exact oh hor
 have hlo':∀p∈lo,p.1∈T∨me e p.2=true:=fun p hp1=>by
  unfold xS at hok;have:=List.all_eq_true.1 hok p hp1;simp only[Bool.or_eq_true]at this;rcases this with h | h
  ·exact .inl (hm _ h T hT hp)
  ·exact .inr h
 have hTj:T.contains j=false:=by simpa using hjT
 refine hop B a w hinv (fun x hx c hc=> ?_) (fun v hv=> ?_) K (fun B' a' w' hpost=>hK a' w' ⟨B',hpost.inv,fun x c hc=> ?_,fun v hv=> ?_⟩)
 ·refine hval x c ?_;rw[og];refine qH ?_ (fun p hp1 hp2=> ?_)
  ·simp only[dF,hTj,Bool.false_eq_true,if_false];exact val_lo hx hlo' hc
  ·have h1:=hhi' p hp1 hp2;exact⟨fun q hq=>h1.rd x hx q hq,qI (fun k hk hkp=>h1.ms k hkp (hwf.rd x hx c hc k hk))⟩
 ·have h0:=hal v hv
  cases hBv:B.v v with
  | none=>rfl
  | some g=>
   rcases hB v (by rw[hBv];simp)with h | ⟨p,hp1,hp2,hp3⟩
   ·omega
   ·rcases List.mem_append.1 hp1 with h | h
    ·exact absurd hv ((hhi p h).2.2.1 v hp3)
    ·rcases List.mem_cons.1 h with rfl | h
     ·exact absurd hp2 hjT
     ·exact absurd hp3 (h0.2 p h)
 ·
  have hTj':(T++ [j]).contains j=true:=by simp
  have hhij:∀p∈hi,p.1≠j:=fun p hp=>by have:=(hhi p hp).1;omega
  have hloj:∀p∈lo,p.1≠j:=fun p hp=>by have:=hgl.idx p hp;omega
  rw[og,mf hhij]at hc;have hval':=hval x c;rw[og]at hval';rcases r9 hc with⟨p,k1,k2,⟨q,k3,k4,k5⟩,k6⟩ | ⟨k1,k2,k3⟩
  ·have h1:=hhi' p k1 k2;subst k4;subst k5;refine hpost.keep _ _ (hval' (k6 _)) (fun p' hp'=>fun e'=>(h1.wr p' hp').2 q k3 e'.symm) (qI (fun k hk hke=>(h1.ks k hke).2 ((hhi p k1).2.2.2 q k3 k hk)))
  ·simp only[dF,hTj',if_true]at k1;split at k1
   ·rename_i p hp;injection k1 with k1;subst k1;obtain⟨h1,h2⟩:=qG hp;subst h2;exact hpost.wr p h1
   ·rename_i hp;obtain⟨h1,h2⟩:=eo k1;rw[mf hloj]at h1;refine hpost.keep x c (hval' (k3 _ ?_)) (xU hp) h2;simp only[dF,hTj,Bool.false_eq_true,if_false];exact h1
 ·cases hBv:B.v v with
  | some g=>
   rcases hB v (by rw[hBv];simp)with h | ⟨p,h1,h2,h3⟩
   ·exact .inl h
   ·exact .inr ⟨p,h1,List.mem_append.2 (.inl h2),h3⟩
  | none=>exact .inr ⟨(j,e),by simp,by simp,hpost.new v hBv hv⟩
end
end Go.Proofs.YtggfmklppkioeaaGreat
