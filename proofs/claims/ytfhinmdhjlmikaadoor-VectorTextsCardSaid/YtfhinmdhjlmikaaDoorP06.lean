/- The reference's Format. Decimal texts: what is formatted is parsed as it was, and what is parsed is formatted as it was. The reference's Format as an operation. The reference's small: one digit more. The reference's Parse. Fractions in memory; tables of regions whose operations may be skipped. Fractions: stores, the operations of tables. Make of package fraction. Mul, Neg of package fraction; Neg of the reference. Add of package fraction. Stores that leave an unnamed world behind; calls of whatever contract in tables. An executor: abstract values, what they say of values in memory. -/
import Derived.Test.YtfhinmdhjlmikaaDoorP05
import Derived.Laws.AppendOwn
namespace Go.Proofs.YtfhinmdhjlmikaaDoor
set_option linter.unusedSimpArgs false
set_option linter.unusedVariables false
set_option maxRecDepth 100000
open Go.RowKit
theorem bA.set {w:World} {g L c c' N:Nat} {a a':Option Addr} (h:aF w g a L c) (hn:IsN w (.agg #[.slice a' (nl N) c']) N):bA (w.setCell ⟨g,0,none⟩ (.slice a' (nl N) c')) g N:=⟨a',c',h.set,hn.setVar h⟩
theorem r7 (b:UInt8) (l:List UInt8):(ByteArray.mk #[b])++(ByteArray.mk l.toArray)=ByteArray.mk (b::l).toArray:=by
 apply ByteArray.ext
 simp
set_option maxRecDepth 100000 in
set_option maxHeartbeats 2000000 in
theorem nL (va:Value) (N:Nat) (w:World) (ha:IsN w va N) (hm:nl N≤1000000000000):
  Calls Tryd.prog 56 #[va] w fun e w'=>bE w (.string (aM N)) e w':=by
 obtain⟨a,ca,rfl,hca,ra⟩:=ha
 obtain⟨k0,k1⟩:=tA (L:=nl N) (c:=ca) (N:=N) ⟨a,ca,rfl,hca,ra⟩
 by_cases h0:N=0
 ·have e1:nl N=0:=fE.2 h0
  have e2:aM N=⟨#[48]⟩:=by unfold aM;rw[if_pos h0]
  have HE2:=Lib.hid e2
  rw[e1]at k0 k1⊢
  clear e1 e2 ra hm hca
  obtain⟨y1,d1,q1,i1⟩:=k1
  have c1:=q1.cell
  go_enter Tryd.func56,Tryd.ntmps56
  go_wp2
  go_ret
  exact⟨by rw[HE2.out];rfl,k0⟩
 ·have hp:=cI h0
  have hne:(((nl N:Nat):Int)==0)=false:=by rw[beq_eq_false_iff_ne];omega
  have HN0:=Lib.hid h0
  clear h0 hca ra
  have k1':=k1
  obtain⟨y1,d1,q1,i1⟩:=k1'
  have c1:=q1.cell
  go_enter Tryd.func56,Tryd.ntmps56
  go_upto_region 3 with(fail)
  go_cut [1,3] (fun s1 s3 wx=>s1= .pointer (some ⟨w.heap.size,0,none⟩)∧s3= .string ⟨#[]⟩∧bA wx w.heap.size N∧Below w.heap.size w wx)
  case first=>
   go_wp2_with fail
   go_meet
   case rel=>exact⟨rfl,rfl,k1,k0⟩
  case rest=>
   clear c1 q1 i1 k1 k0 hne
   obtain⟨rfl,rfl,V1,hb1⟩:=hcut
   go_wp2_with fail
   go_loopw [3] (fun s3 wr=>∃(V:Nat) (l:List UInt8) (S:ByteArray),s3= .string S∧Hid (S=⟨l.reverse.toArray⟩)∧V≤N∧Hid (bX N=l++bX V)∧bA wr w.heap.size V∧Below w.heap.size w wr) (fun _ wr=>xN wr w.heap.size)
   case atStart=>exact⟨N,[],⟨#[]⟩,rfl,Lib.hid rfl,Nat.le_refl _,Lib.hid (by simp),V1,hb1⟩
   case round=>
    clear V1 hb1
    rename World=>wo
    obtain⟨V,l,S,rfl,HS,hVN,HL,V1,hb1⟩:=hrel
    have hnv:=cF hVN
    have hval:=V1.val
    obtain⟨a1,ca1,q1,i1⟩:=V1
    have c1:=q1.cell
    by_cases hV:V=0
    ·subst hV
     rw[dK,List.append_nil]at HL
     rw[aK]at c1
     go_wp2
     go_ret
     exact⟨by rw[HS.out];unfold aM;rw[if_neg HN0.out,HL.out];rfl,hb1⟩
    ·have hpos:=cI hV
     have HV0:=Lib.hid hV
     clear hV
     obtain⟨_,_,e1,hcap,rx⟩:=i1
     simp only[Value.agg.injEq,Array.mk.injEq,List.cons.injEq,Value.slice.injEq,and_true,true_and]at e1
     obtain⟨rfl,rfl⟩:=e1
     have hown:=aP.made wo (nl V)
     have hbm:=eF wo (sV (nl V))
     go_upto_region 6 with(fail)
     go_cut [5] (fun s5 wx=>s5= .slice (some ⟨wo.heap.size,0,none⟩) (nl V) (nl V)∧aP wx wo.heap.size (nl V) 0∧Below wo.heap.size wo wx)
     case first=>
      go_wp2_with (at_make;refine bg rfl _ _ rfl _ _ _ _ (nl V) rfl rfl (by omega) (by omega) (by omega) ?_)
      go_meet
      case rel=>exact⟨rfl,hown,hbm⟩
     case rest=>
     obtain⟨rfl,hown,hbm⟩:=hcut
     clear c1
     have c1:=(q1.mono hbm q1.lt).cell
     go_wp2_with fail
     go_loopw [4,6] (fun s4 s6 wq=>∃k c:Nat,k≤nl V∧s6= .int .i64 ((k:Int) - 1)∧s4= .int .u64 (c:Int)∧c≤9∧Hid (c=V / 4294967296^k % 10)∧aP wq wo.heap.size (nl V) (bx V 10 k)∧Below wo.heap.size wo wq) (fun _ s6 _=>(intOf s6+1).toNat)
     case atStart=>exact⟨nl V,0,Nat.le_refl _,rfl,rfl,by omega,Lib.hid (by rw[Nat.div_eq_of_lt (cH V)]),by unfold bx;rw[Nat.div_eq_of_lt (cH V)];simpa using hown,hbm⟩
     case round=>
      clear c1 hown hbm
      obtain⟨k,c,hk,rfl,rfl,hc9,HC,ho,hbq⟩:=hrel
      have c1:=(q1.mono hbq q1.lt).cell
      cases k with
      | zero=>
       have e1:bx V 10 0=V / 10:=by simp[bx]
       rw[e1]at ho
       have hcV:c=V % 10:=by have:=HC.out;rwa [Nat.pow_zero,Nat.div_one]at this
       have HCV:=Lib.hid hcV
       clear e1 hcV
       obtain⟨b,hb⟩:∃b:UInt8,Hid (b=UInt8.ofNat (48+c)):=⟨_,Lib.hid rfl⟩
       have hbn:b.toNat=48+c:=by rw[hb.out,UInt8.toNat_ofNat'];omega
       have hb48:(48:Int)+(c:Int)=((b.toNat:Nat):Int):=by omega
       have hb256:b.toNat≤255:=by omega
       have hconv:=run_convert_bytes_back (P:=Tryd.prog) (wr.alloc (.cells #[.int .u8 ((b.toNat:Nat):Int)] 5)) 91 9 5 ⟨wr.heap.size,0,none⟩ 1 [b] Tryd.underlying91 Tryd.underlying5 Tryd.underlying9 (fun j hj=>by
        have:j=0:=by simpa using hj
        subst this
        simp[Addr.add])
       obtain⟨S2,hS2⟩:∃S2:ByteArray,Hid (S2=ByteArray.mk #[b]++S):=⟨_,Lib.hid rfl⟩
       have hcat:ByteArray.mk #[b]++S=S2:=hS2.out.symm
       clear hbn
       have HCAT:=Lib.hid (show S2=ByteArray.mk (l++ [b]).reverse.toArray by rw[hS2.out,HS.out,r7];simp)
       simp only[List.length_cons,List.length_nil,Nat.zero_add]at hconv
       have hSz:S.size≤10000000000000:=by
        have h1:S.size=l.length:=by rw[HS.out];simp[ByteArray.size]
        have h2:(bX N).length=l.length+(bX V).length:=by rw[HL.out,List.length_append]
        have h3:=fK N
        omega
       go_wp2_with fail
       refine(jz _ (nl V) (nl V) (V / 10) _ (ho.rw'.mono (eF _ _)) (by omega)).mono ?_
       rintro e w2 ⟨v2,rfl,nn,bb⟩
       obtain⟨V2,hV2⟩:∃M:Nat,Hid (M=V / 10):=⟨_,Lib.hid rfl⟩
       rw[←hV2.out]at nn
       obtain⟨x2,c2,rfl,hc2,hx2⟩:=nn
       have hB:=hbq.trans (((eF wr _).trans (bb.mono (eF wr _).size)).mono hbq.size)
       have q2:=q1.mono hB q1.lt
       have cc2:=q2.cell
       have ff2:=q2.frozen
       have V1:=bA.set q2 (aD.isN (base:=0) (w:=w2) (N:=V2) (by exact aD.weaken ⟨x2,c2,rfl,hc2,hx2⟩ (Nat.zero_le _)))
       have hval2:=V1.val
       have hBB:=(hb1.trans (hB.mono hb1.size)).setCell (p:=⟨w.heap.size,0,none⟩) (Nat.le_refl _) (.slice x2 (nl V2) c2)
       have hlt2:V2<V:=by have:=hV2.out;have:=HV0.out;omega
       have HDL:=Lib.hid (show bX N=(l++ [b])++bX V2 by rw[HL.out,ek HV0.out,List.append_assoc,hV2.out,hb.out,HCV.out];rfl)
       clear hx2 hc2 hconv ho
       go_wp2_with fail
       go_roundw
       case rel=>exact⟨V2,l++ [b],S2,rfl,HCAT,by omega,HDL,V1,hBB⟩
       case measure=>rw[hval,hval2];exact hlt2
      | succ k=>
       have hx1:V / 4294967296^(k+1) % 10=c:=HC.out.symm
       have hstep:=fG V 10 k (by decide)
       rw[hx1]at hstep
       obtain⟨X,hX⟩:∃X:Nat,Hid (X=c*4294967296+D V k):=⟨_,Lib.hid rfl⟩
       rw[←hX.out]at hstep
       obtain⟨Y,hY⟩:∃Y:Nat,Hid (Y=X / 10):=⟨_,Lib.hid rfl⟩
       obtain⟨Z,hZ⟩:∃Z:Nat,Hid (Z=X % 10):=⟨_,Lib.hid rfl⟩
       have hdk:=bO V k
       have hXs:(c:Int)*4294967296+((D V k:Nat):Int)=(X:Int):=by have:=hX.out;omega
       have hXb:X≤42949672960:=by have:=hX.out;omega
       have hXq:(X:Int) / 10=(Y:Int):=by have:=hY.out;omega
       have hXr:(X:Int) % 10=(Z:Int):=by have:=hZ.out;omega
       have hY32:Y<4294967296:=by rw[hY.out];exact hstep.2.2
       have hYb:Y≤4294967295:=by omega
       have hZb:Z≤9:=by have:=hZ.out;omega
       have hst:=ho.store (p:=k) (e:=Y) (by omega) hY32
       rw[hY.out,hstep.1]at hst
       rw[←hY.out]at hst
       have HZ:=Lib.hid (show Z=V / 4294967296^k % 10 by rw[hZ.out];exact hstep.2.1)
       have c4:=ho.cell (p:=k) (by omega)
       have f4:=ho.frozen k
       have rq:=rx.mono (hbq.mono (Nat.le_refl _))
       obtain⟨b1,o1,rfl,h1⟩:=rq.cells (by omega)
       have d1:=h1 k (by omega)
       have e:(((k+1:Nat):Int) - 1)=(k:Int):=by omega
       simp only[e]
       have HST:=Lib.hid hst
       clear e hx1 hstep hst hY32
       have hbs:=hbq.setCell (p:=⟨wo.heap.size,k,none⟩) (Nat.le_refl _) (.int .u32 (Y:Int))
       go_wp2_with fail
       go_roundw
       case rel=>exact⟨k,Z,by omega,by go_num,by first | rfl | rw[hXr],hZb,HZ,HST.out,hbs⟩
       case measure=>simp[intOf]<;>omega
end Go.Proofs.YtfhinmdhjlmikaaDoor
namespace Go.Proofs.YtfhinmdhjlmikaaDoor
set_option linter.unusedSimpArgs false
set_option linter.unusedVariables false
set_option maxRecDepth 100000
open Go.RowKit
theorem kW (l:List UInt8) (i:Nat):by' ⟨l.toArray⟩ i=(l[i]?.map UInt8.toNat).getD 0:=by
 unfold by'
 by_cases h:i<l.length
 ·have h':i<(ByteArray.mk l.toArray).size:=by simpa [ByteArray.size]using h
  rw[dif_pos h']
  simp[h]
  rfl
 ·have h':¬i<(ByteArray.mk l.toArray).size:=by simpa [ByteArray.size]using h
  rw[dif_neg h',List.getElem?_eq_none (by omega)]
  rfl
theorem gw {s t:ByteArray}:∀k,(∀j,j<k→by' s j=by' t j)→aA s k=aA t k
 | 0,_=>rfl
 | k+1,h=>by
  show 10*aA s k+(by' s k - 48)=10*aA t k+(by' t k - 48)
  rw[gw k (fun j hj=>h j (by omega)),h k (by omega)]
theorem pY (d:Nat) (h:d≤9):(UInt8.ofNat (48+d)).toNat=48+d:=by rw[UInt8.toNat_ofNat'];omega
theorem pZ (l:List UInt8) (b:UInt8) (j:Nat) (h:j<l.length):by' ⟨(l++ [b]).toArray⟩ j=by' ⟨l.toArray⟩ j:=by
 rw[kW,kW,List.getElem?_append_left h]
theorem ic (l:List UInt8) (b:UInt8):by' ⟨(l++ [b]).toArray⟩ l.length=b.toNat:=by
 rw[kW];simp
/-- The digits of N, read as a number, are N; all are digits; the first is not 0. -/
theorem oN:∀(n N:Nat),N≤n→N≠0→aA ⟨(bX N).reverse.toArray⟩ (bX N).length=N∧bS ⟨(bX N).reverse.toArray⟩ (bX N).length∧by' ⟨(bX N).reverse.toArray⟩ 0≠48∧0<(bX N).length
 | 0,N,h,h0=>by omega
 | n+1,N,h,h0=>by
  have hd:=pY (N % 10) (by omega)
  rw[ek h0,List.reverse_cons,List.length_cons]
  by_cases hz:N / 10=0
  ·have hN:N≤9:=by omega
   rw[hz,dK]
   have e:=ic [] (UInt8.ofNat (48+N % 10))
   rw[hd]at e
   simp only[List.reverse_nil,List.length_nil]at e⊢
   refine⟨?_,?_,?_,by omega⟩
   ·show 10*0+(by' _ 0 - 48)=N
    rw[e];omega
   ·intro j hj
    obtain rfl:j=0:=by omega
    rw[e];omega
   ·rw[e];omega
  ·obtain⟨i1,i2,i3,i4⟩:=oN n (N / 10) (by omega) hz
   have hlt:∀j,j<(bX (N / 10)).length→by' ⟨((bX (N / 10)).reverse++ [UInt8.ofNat (48+N % 10)]).toArray⟩ j=by' ⟨(bX (N / 10)).reverse.toArray⟩ j:=fun j hj=>pZ _ _ j (by simpa using hj)
   have heq:by' ⟨((bX (N / 10)).reverse++ [UInt8.ofNat (48+N % 10)]).toArray⟩ (bX (N / 10)).length=48+N % 10:=by
    have:=ic (bX (N / 10)).reverse (UInt8.ofNat (48+N % 10))
    rw[List.length_reverse,hd]at this
    exact this
   refine⟨?_,?_,?_,by omega⟩
   ·show 10*aA _ (bX (N / 10)).length+(by' _ (bX (N / 10)).length - 48)=N
    rw[gw _ hlt,i1,heq];omega
   ·intro j hj
    rcases Nat.lt_or_ge j (bX (N / 10)).length with h' | h'
    ·rw[hlt j h'];exact i2 j h'
    ·obtain rfl:j=(bX (N / 10)).length:=by omega
     rw[heq];omega
   ·rw[hlt 0 i4];exact i3
theorem ln (N:Nat) (h:nl N≤12):ParseIs (aM N) N 0:=by
 by_cases h0:N=0
 ·subst h0
  have e:aM 0=⟨#[48]⟩:=by unfold aM;rw[if_pos rfl]
  rw[e]
  refine⟨fun h=>absurd h (by decide),fun h=>absurd h (by decide),fun h=>absurd h (by decide),fun _ _ h=>absurd (by decide:∀j,j<1→_) h,fun _ _ _ _=>⟨by decide,rfl⟩⟩
 ·have e:aM N=⟨(bX N).reverse.toArray⟩:=by unfold aM;rw[if_neg h0]
  have hsz:(aM N).size=(bX N).length:=by rw[e];simp[ByteArray.size]
  obtain⟨i1,i2,i3,i4⟩:=oN N N (Nat.le_refl _) h0
  have hb:=fK N
  rw[←e]at i1 i2 i3
  refine⟨fun h=>by omega,fun h=>by omega,fun _ _ h=>absurd h i3,fun _ _ h=>absurd (by rw[hsz];exact i2) h,fun _ _ _ _=>⟨by rw[hsz,i1],rfl⟩⟩
/-- The first k bytes of s, the last one first. -/
def jD (s:ByteArray) (k:Nat):List UInt8:=(List.range k).reverse.map fun j=>UInt8.ofNat (by' s j)
theorem kd (s:ByteArray) (k:Nat):jD s (k+1)=UInt8.ofNat (by' s k)::jD s k:=by
 unfold jD;rw[List.range_succ,List.reverse_append];rfl
theorem oO (s:ByteArray) (h0:by' s 0≠48):∀k,bS s (k+1)→aA s (k+1)≠0∧bX (aA s (k+1))=jD s (k+1)
 | 0,hg=>by
  have h1:=hg 0 (by omega)
  have e:aA s (0+1)=by' s 0 - 48:=by show 10*0+(by' s 0 - 48)=_;omega
  have hne:aA s (0+1)≠0:=by rw[e];omega
  refine⟨hne,?_⟩
  rw[ek hne,kd,e]
  have h2:(by' s 0 - 48) / 10=0:=by omega
  have h3:48+(by' s 0 - 48) % 10=by' s 0:=by omega
  rw[h2,h3,dK]
  rfl
 | k+1,hg=>by
  obtain⟨i1,i2⟩:=oO s h0 k (fun j hj=>hg j (by omega))
  have h1:=hg (k+1) (by omega)
  have e:aA s (k+1+1)=10*aA s (k+1)+(by' s (k+1) - 48):=rfl
  have hne:aA s (k+1+1)≠0:=by rw[e];omega
  refine⟨hne,?_⟩
  rw[ek hne,kd,e]
  have h2:(10*aA s (k+1)+(by' s (k+1) - 48)) / 10=aA s (k+1):=by omega
  have h3:48+(10*aA s (k+1)+(by' s (k+1) - 48)) % 10=by' s (k+1):=by omega
  rw[h2,h3,i2]
theorem p6 (l:List UInt8):jD ⟨l.toArray⟩ l.length=l.reverse:=by
 unfold jD
 rw[List.map_reverse]
 apply congrArg List.reverse
 apply List.ext_getElem
 ·simp
 ·intro i h1 h2
  simp only[List.getElem_map,List.getElem_range,kW,List.getElem?_eq_getElem h2,Option.map_some,Option.getD_some]
  exact UInt8.ofNat_toNat
theorem jE {s:ByteArray} {N:Nat} (h:ParseIs s N 0):aM N=s:=by
 obtain⟨l,rfl⟩:∃l:List UInt8,s=⟨l.toArray⟩:=⟨s.data.toList,by cases s;simp⟩
 have hsz:(ByteArray.mk l.toArray).size=l.length:=by simp[ByteArray.size]
 have h1:0<l.length:=by
  rcases Nat.eq_zero_or_pos l.length with h' | h'
  ·have:=(h.short (by rw[hsz];exact h')).2;omega
  ·exact h'
 have h2:l.length≤400:=by
  rcases Nat.lt_or_ge 400 l.length with h' | h'
  ·have:=(h.long (by rw[hsz];exact h')).2;omega
  ·exact h'
 have hg:bS ⟨l.toArray⟩ l.length:=Classical.byContradiction fun h'=>by
  have:=(h.bad (by omega) (by omega) (by rw[hsz];exact h')).2;omega
 by_cases hz:by' ⟨l.toArray⟩ 0=48
 ·have hl:l.length=1:=by
   rcases Nat.lt_or_ge 1 l.length with h' | h'
   ·have:=(h.zero (by omega) (by omega) hz).2;omega
   ·omega
  obtain⟨b,rfl⟩:∃b,l=[b]:=List.length_eq_one_iff.1 hl
  have hb:b.toNat=48:=by have:=ic [] b;simp at this;rw[←this];exact hz
  have hN:=(h.good (by omega) (by omega) (fun _=>by omega) (by rw[hsz];exact hg)).1
  have hN0:N=0:=by
   rw[hN,hsz]
   show 10*0+(by' _ 0 - 48)=0
   rw[hz]
  have hb':b=48:=UInt8.toNat_inj.1 hb
  rw[hN0,hb']
  unfold aM
  rw[if_pos rfl]
 ·obtain⟨k,hk⟩:∃k,l.length=k+1:=⟨l.length - 1,by omega⟩
  have hN:=(h.good (by omega) (by omega) (fun h'=>absurd h' hz) (by rw[hsz];exact hg)).1
  rw[hsz,hk]at hN
  obtain⟨i1,i2⟩:=oO ⟨l.toArray⟩ hz k (by rw[←hk];exact hg)
  rw[←hN]at i1 i2
  unfold aM
  rw[if_neg i1,i2,←hk,p6,List.reverse_reverse]
end Go.Proofs.YtfhinmdhjlmikaaDoor
namespace Go.Proofs.YtfhinmdhjlmikaaDoor
set_option linter.unusedSimpArgs false
set_option linter.unusedVariables false
set_option maxRecDepth 100000
open Go.RowKit
section
variable {P:Program} {Q:Exit→Act→World→Prop}
end
section
variable {Q:Exit→Act→World→Prop} {o:Oper} {a:Act} {w:World} {x y:Operand} {m n:Nat} {tt:Array TypeId}
end
end Go.Proofs.YtfhinmdhjlmikaaDoor
namespace Go.Proofs.YtfhinmdhjlmikaaDoor
set_option linter.unusedSimpArgs false
set_option linter.unusedVariables false
set_option maxRecDepth 100000
open Go.RowKit
def oP (w:World) (m k d M S:Nat):List (Nat×Tmp×Sp):=
  [(0,7,.nat (m)),
  (1,8,.val (Value.int IntKind.u64 ((k:Nat)))),
  (2,9,.nat (k)),
  (3,10,.nat (M)),
  (4,11,.val (Value.int IntKind.u64 ((d:Nat)))),
  (5,12,.nat (d)),
  (6,13,.new w.heap.size S)]
set_option maxRecDepth 100000 in
set_option maxHeartbeats 1000000 in
theorem we (va:Value) (m k d:Nat) (w:World) (ha:IsN w va m) (hm:nl m≤100000000000) (hk:k<4294967296) (hd:d<4294967296):
  Calls Tryd.prog 70 #[va,.int .u64 (k:Int),.int .u64 (d:Int)] w fun e w'=>b9 w (m*k+d) e w':=by
 obtain⟨a,ca,rfl,hca,ra⟩:=ha
 obtain⟨k0,k1⟩:=tA (L:=nl m) (c:=ca) (N:=m) ⟨a,ca,rfl,hca,ra⟩
 have k3:=eF (w.alloc (.cells #[.slice a (nl m) ca] 24)) (.cells #[.slice none 0 0] 24)
 have k4:=aF.made (w.alloc (.cells #[.slice a (nl m) ca] 24)) none 0 0
 rw[World.size_alloc]at k4
 obtain⟨M,hM⟩:∃M:Nat,Hid (M=m*k):=⟨_,Lib.hid rfl⟩
 obtain⟨S,hS⟩:∃S:Nat,Hid (S=M+d):=⟨_,Lib.hid rfl⟩
 have hk':nl k≤1000000000000:=nlb (by have:(4294967296:Nat)≤4294967296^4:=(by decide);omega)
 have hd':nl d≤1000000000000:=nlb (by have:(4294967296:Nat)≤4294967296^4:=(by decide);omega)
 have hm':nl m≤1000000000000:=by omega
 have hM':nl M≤1000000000000:=by
  have h1:=tC (sm_nl hm) (show k<4294967296^1 by rw[Nat.pow_one];exact hk)
  rw[←hM.out]at h1
  exact Nat.le_trans (az.2 h1) (by decide)
 have hres:m*k+d=S:=by rw[hS.out,hM.out]
 rw[hres]
 clear hres
 go_enter Tryd.func70,Tryd.ntmps70
 go_upto_region 0 with(fail)
 go_cut [3,6] (fun s3 s6 wx=>s3= .pointer (some ⟨w.heap.size,0,none⟩)∧s6= .pointer (some ⟨w.heap.size+1,0,none⟩)∧bA wx w.heap.size m∧aF wx (w.heap.size+1) none 0 0∧Below w.heap.size w wx)
 case first=>
  go_wp2_with fail
  go_meet
  case rel=>exact⟨rfl,rfl,fm.mono k1 k3,k4,k0.trans (k3.mono k0.size)⟩
 case rest=>
  obtain⟨rfl,rfl,Va,vr,hb1⟩:=hcut
  clear k0 k1 k3 k4 ra hca
  go_upto_region 1 with(fail)
  refine iL Tryd.f70 1 (oP w m k d M S) (fun _=>false) 4 1 (by kernel_rfl) (by kernel_rfl) (by kernel_rfl) (by kernel_rfl) (el.of_all (fun _ h=>by cases h) _) ?_ ?_
  ·refine⟨fun a' w' F=>⟨_,rfl,af rfl,(aZ rfl (F.keep 3 (Value.pointer (some ⟨w.heap.size,0,none⟩)) (by kernel_rfl) rfl).is (Va.mono F.below)).b⟩,?_⟩
   refine⟨fun a' w' F=>⟨_,rfl,af rfl,(aQ (.inl rfl) (F.keep 1 (Value.int IntKind.u64 ((k:Nat))) (by kernel_rfl) rfl).is).b⟩,?_⟩
   refine⟨fun a' w' F=>⟨_,rfl,af rfl,(kV (n:=k) rfl (F.f 1 rfl) (by omega)).b⟩,?_⟩
   refine⟨fun a' w' F=>⟨_,rfl,af rfl,(tE rfl (F.f 0 rfl) (F.f 2 rfl) hm' hk' hM.out.symm).b⟩,?_⟩
   refine⟨fun a' w' F=>⟨_,rfl,af rfl,(aQ (.inl rfl) (F.keep 2 (Value.int IntKind.u64 ((d:Nat))) (by kernel_rfl) rfl).is).b⟩,?_⟩
   refine⟨fun a' w' F=>⟨_,rfl,af rfl,(kV (n:=d) rfl (F.f 4 rfl) (by omega)).b⟩,?_⟩
   refine⟨fun a' w' F=>⟨_,rfl,af rfl,(jC (Nat.le_trans hb1.size F.below.size) rfl (F.f 3 rfl) (F.f 5 rfl) hM' hd' hS.out.symm).b⟩,?_⟩
   exact trivial
  intro gp wp bp G Gs
  obtain⟨v6,e6,n6⟩:∃v,gp 6=v∧aD w.heap.size wp v S:=⟨_,rfl,G 6 13 _ rfl⟩
  obtain⟨x6,c6,rfl,hc6,hx6⟩:=n6
  have n6:aD w.heap.size wp (.agg #[.slice x6 (nl S) c6]) S:=⟨x6,c6,rfl,hc6,hx6⟩
  have vr2:=vr.mono bp vr.lt
  clear G Gs hc6 hx6
  simp only[oP]
  simp only[b5,aw,List.map_cons,List.map_nil,List.foldl_cons,List.foldl_nil,Act.put,List.setIfInBounds_toArray,List.set_cons_zero,List.set_cons_succ,e6]
  refine dR (j:=7) (by kernel_rfl) rfl rfl rfl rfl rfl rfl ⟨_,_,_,rfl⟩ vr2 ?_
  refine wpAny_done (by kernel_rfl) ?_ _
  have hB:=(hb1.trans (bp.mono hb1.size)).setCell (p:=⟨w.heap.size+1,0,none⟩) (Nat.le_succ _) (.slice x6 (nl S) c6)
  have n7:=n6.setVar (u:=.slice x6 (nl S) c6) vr2
  go_wp2
  exact bodyPost_ret (dn rfl _ _ (w.heap.size+1) _ rfl vr2.set.cell) rfl ⟨_,rfl,n7,hB⟩
end Go.Proofs.YtfhinmdhjlmikaaDoor
namespace Go.Proofs.YtfhinmdhjlmikaaDoor
set_option linter.unusedSimpArgs false
set_option linter.unusedVariables false
set_option maxRecDepth 100000
open Go.RowKit
theorem ke {s:ByteArray}:∀k,bS s k→aA s k<10^k
 | 0,_=>by show(0:Nat)<1;decide
 | k+1,h=>by
  have h1:=ke k (fun j hj=>h j (by omega))
  have h2:=h k (by omega)
  show 10*aA s k+(by' s k - 48)<10^(k+1)
  rw[Nat.pow_succ]
  omega
theorem kf {s:ByteArray} {k:Nat} (h:bS s k):nl (aA s k)≤k:=
 az.2 (Nat.lt_of_lt_of_le (ke k h) (Nat.pow_le_pow_left (by decide) k))
theorem mG (d:Nat) (h:d≤9) (w:World):(binOp BinOp.sub 5 (.int .u8 ((48+d:Nat):Int)) (.int .u8 48)).run Tryd.prog w= .ok (.int .u8 (d:Int)) w:=by
 have e:(((48+d:Nat):Int) - 48) % 256=(d:Int):=by omega
 go_simp
 exact e
theorem r8 (d:Nat) (h:d≤255) (w:World):(convert 5 54 (.int .u8 (d:Int))).run Tryd.prog w= .ok (.int .u64 (d:Int)) w:=by
 go_simp
 simp[IntKind.wrap,IntKind.signed,IntKind.bits]
 try omega
theorem r9 (s:ByteArray) (k:Nat) (h:k<s.size) (w:World):(Instr.index 9 (.string s) (.int .i64 (k:Int))).run Tryd.prog w= .ok (.int .u8 ((by' s k:Nat):Int)) w:=by
 rw[←cK h]
 go_simp
section
variable {Q:Exit→Act→World→Prop} {o:Oper} {a:Act} {w:World} {x y z:Operand} {m:Nat} {tt:Array TypeId}
theorem mH {s:ByteArray} {k b:Nat} (ho:o.op= .index 9 x y) (hx:Is a w x (.val (.string s))) (hy:Is a w y (.val (.int .i64 (k:Int)))) (hk:k<s.size) (hb:by' s k=b):Arm Tryd.prog Q o a w (.val (.int .u8 (b:Int))):=by
 subst hb
 have hx':a.eval x= .string s:=hx
 have hy':a.eval y= .int .i64 (k:Int):=hy
 refine iJ _ ?_ rfl
 unfold execOp
 rw[ho]
 simp only[hx',hy',Sem.run_bind,r9 s k hk,Result.andThen,Sem.run_pure]
theorem mI {d:Nat} (ho:o.op= .convert 5 54 x) (hx:Is a w x (.val (.int .u8 (d:Int)))) (hd:d≤255):Arm Tryd.prog Q o a w (.val (.int .u64 (d:Int))):=by
 have hx':a.eval x= .int .u8 (d:Int):=hx
 refine iJ _ ?_ rfl
 unfold execOp
 rw[ho]
 simp only[hx',Sem.run_bind,r8 d hd,Result.andThen,Sem.run_pure]
theorem mJ {base d N:Nat} (hb:base≤w.heap.size) (ho:o.op= .call {callee:=.value (.func 70),args:=#[x,y,z],argTypes:=tt}) (hx:Is a w x (.nat m)) (hy:Is a w y (.val (.int .u64 10))) (hz:Is a w z (.val (.int .u64 (d:Int)))) (hm:nl m≤100000000000) (hd:d≤9) (hN:m*10+d=N):Arm Tryd.prog Q o a w (.new base N):=by
 subst hN
 refine gr ho (ai Tryd.func70 rfl rfl) (R:=fun e w'=>b9 w (m*10+d) e w') ?_ (fun _ _ h=>tF hb h)
 have hy':a.eval y= .int .u64 10:=hy
 have hz':a.eval z= .int .u64 (d:Int):=hz
 have:=we (a.eval x) m 10 d w hx hm (by decide) (by omega)
 simpa [hy',hz']using this
end
def iM (w:World) (s:ByteArray) (k d V V2:Nat):List (Nat×Tmp×Sp):=
  [(0,40,.nat (V)),
  (1,41,.val (Value.string s)),
  (2,42,.val (Value.int IntKind.i64 ((k:Nat)))),
  (3,43,.val (Value.int IntKind.u8 ((48+d:Nat):Int))),
  (4,44,.val (Value.int IntKind.u8 ((d:Nat):Int))),
  (5,45,.val (Value.int IntKind.u64 ((d:Nat)))),
  (6,46,.new w.heap.size V2)]
theorem lp (s:ByteArray) (w:World) (h0:s.size=0):Calls Tryd.prog 46 #[.string s] w fun e w'=>jw w 0 1 e w':=by
 obtain⟨hb,v2⟩:=go w
 have he:=iG h0
 have c2:=v2.cell
 have f2:=v2.frozen
 go_enter Tryd.func46,Tryd.ntmps46
 go_wp2
 exact bodyPost_ret (bj rfl _ _ w.heap.size (.slice none 0 0) (.int .i64 1) rfl rfl (by simp[go_sem])) rfl ⟨_,rfl,aD.of_zero,by first | exact hb | exact hb.setCell (Nat.le_refl _) _⟩
theorem mp (s:ByteArray) (w:World) (h0:400<s.size):Calls Tryd.prog 46 #[.string s] w fun e w'=>jw w 0 3 e w':=by
 obtain⟨hb,v2⟩:=go w
 have he:=cB (s:=s) (by omega)
 have hl:(400:Int)<(s.size:Int):=by omega
 go_enter Tryd.func46,Tryd.ntmps46
 go_wp2
 exact bodyPost_ret (bj rfl _ _ w.heap.size (.slice none 0 0) (.int .i64 3) rfl rfl (by simp[go_sem])) rfl ⟨_,rfl,aD.of_zero,by first | exact hb | exact hb.setCell (Nat.le_refl _) _⟩
theorem mq (s:ByteArray) (w:World) (h0:1<s.size) (h1:s.size≤400) (hz:by' s 0=48):Calls Tryd.prog 46 #[.string s] w fun e w'=>jw w 0 2 e w':=by
 obtain⟨hb,v2⟩:=go w
 have he:=cB (s:=s) (by omega)
 have hl:¬(400:Int)<(s.size:Int):=by omega
 have hp:0<s.size:=by omega
 have hz':(((s[0]'hp).toNat:Nat):Int)=48:=by rw[cK,hz];rfl
 have h0':(1:Int)<(s.size:Int):=by omega
 go_enter Tryd.func46,Tryd.ntmps46
 go_wp2
 exact bodyPost_ret (bj rfl _ _ w.heap.size (.slice none 0 0) (.int .i64 2) rfl rfl (by simp[go_sem])) rfl ⟨_,rfl,aD.of_zero,by first | exact hb | exact hb.setCell (Nat.le_refl _) _⟩
set_option maxRecDepth 100000 in
set_option maxHeartbeats 1000000 in
theorem mr (s:ByteArray) (w:World) (N:Nat) (c:Int) (h0:0<s.size) (h1:s.size≤400) (hz:by' s 0=48→s.size=1) (hgood:bS s s.size→N=aA s s.size∧c=0) (hbad:¬bS s s.size→N=0∧c=2):
  Calls Tryd.prog 46 #[.string s] w fun e w'=>jw w N c e w':=by
 obtain⟨hb,v2⟩:=go w
 have he:=cB (s:=s) (by omega)
 have hl:¬(400:Int)<(s.size:Int):=by omega
 have HG:=Lib.hid hgood
 have HB:=Lib.hid hbad
 clear hgood hbad
 obtain⟨kb,kr,kv⟩:=nD w none none 0 0 0 0
 have kN:dQ w.heap.size ((w.alloc (.cells #[.slice none 0 0] 24)).alloc (.cells #[.slice none 0 0] 24)) (w.heap.size+1) 0:=⟨none,0,by rw[aK];exact kv,by rw[aK];exact aD.of_zero⟩
 go_enter Tryd.func46,Tryd.ntmps46
 by_cases hz0:by' s 0=48
 ·have hs1:=hz hz0
  have hz':(((s[0]'h0).toNat:Nat):Int)=48:=by rw[cK,hz0];rfl
  have h0':¬(1:Int)<(s.size:Int):=by omega
  clear hz hz0
  go_upto_region 7 with(fail)
  go_cut [4] (fun s4 wx=>s4= .pointer (some ⟨w.heap.size+1,0,none⟩)∧aF wx w.heap.size none 0 0∧dQ w.heap.size wx (w.heap.size+1) 0∧Below w.heap.size w wx)
  case first=>
   go_wp2_with fail
   go_meet
   case rel=>exact⟨rfl,kr,kN,kb⟩
  case rest=>
  obtain⟨rfl,vr,vN,hb1⟩:=hcut
  clear kb kr kv kN hb v2
  go_wp2_with fail
  go_loopw [5] (fun s5 wr=>∃k,k≤s.size∧s5= .int .i64 (k:Nat)∧Hid (bS s k)∧aF wr w.heap.size none 0 0∧dQ w.heap.size wr (w.heap.size+1) (aA s k)∧Below w.heap.size w wr)
   (fun s5 _=>s.size - (intOf s5).toNat)
  case atStart=>exact⟨0,Nat.zero_le _,rfl,Lib.hid (fun j h=>by omega),vr,vN,hb1⟩
  case round=>
   clear vr vN hb1
   obtain⟨k,hk,rfl,HR,vr,vN,hbr⟩:=hrel
   have cr:=vr.cell
   have fr:=vr.frozen
   by_cases hlt:k<s.size
   ·by_cases hlo:by' s k<48
    ·have hx:(((s[k]'hlt).toNat:Nat):Int)<48:=by rw[cK];omega
     obtain⟨rfl,rfl⟩:=HB.out (fun h=>by have:=(h k hlt).1;omega)
     clear HB HG HR
     go_wp2
     exact bodyPost_ret (bj rfl _ _ w.heap.size (.slice none 0 0) (.int .i64 2) rfl rfl vr.set.cell) rfl ⟨_,rfl,aD.of_zero,hbr.setCell (Nat.le_refl _) _⟩
    ·by_cases hhi:57<by' s k
     ·have hx:¬(((s[k]'hlt).toNat:Nat):Int)<48:=by rw[cK];omega
      have hy:(57:Int)<(((s[k]'hlt).toNat:Nat):Int):=by rw[cK];omega
      obtain⟨rfl,rfl⟩:=HB.out (fun h=>by have:=(h k hlt).2;omega)
      clear HB HG HR
      go_wp2
      exact bodyPost_ret (bj rfl _ _ w.heap.size (.slice none 0 0) (.int .i64 2) rfl rfl vr.set.cell) rfl ⟨_,rfl,aD.of_zero,hbr.setCell (Nat.le_refl _) _⟩
     ·have hx:¬(((s[k]'hlt).toNat:Nat):Int)<48:=by rw[cK];omega
      have hy:¬(57:Int)<(((s[k]'hlt).toNat:Nat):Int):=by rw[cK];omega
      obtain⟨d,hd⟩:∃d:Nat,by' s k=48+d:=⟨by' s k - 48,by omega⟩
      have hd9:d≤9:=by omega
      have HD:=Lib.hid (show bS s (k+1)from fun j hj=>by
       rcases Nat.lt_or_ge j k with h | h
       ·exact HR.out j h
       ·rw[show j=k by omega];omega)
      obtain⟨V,hV⟩:∃V:Nat,Hid (V=aA s k):=⟨_,Lib.hid rfl⟩
      have hVb:nl V≤100000000000:=by rw[hV.out];exact Nat.le_trans (kf HR.out) (by omega)
      obtain⟨V2,hV2⟩:∃V2:Nat,Hid (V2=V*10+d):=⟨_,Lib.hid rfl⟩
      have HP:=Lib.hid (show aA s (k+1)=V2 by
       show 10*aA s k+(by' s k - 48)=V2
       rw[hV2.out,hV.out];omega)
      rw[←hV.out]at vN
      have hbyd:=hd
      have HBD:=Lib.hid hbyd
      clear hlo hhi hd hbyd cr fr
      go_upto_region 13 with(fail)
      refine iL Tryd.f46 13 (iM w s k d V V2) (fun _=>false) 4 1 (by kernel_rfl) (by kernel_rfl) (by kernel_rfl) (by kernel_rfl) (el.of_all (fun _ h=>by cases h) _) ?_ ?_
      ·refine⟨fun a' w' F=>⟨_,rfl,af rfl,(aZ rfl (F.keep 4 (Value.pointer (some ⟨w.heap.size+1,0,none⟩)) (by kernel_rfl) rfl).is (vN.isI.mono F.below)).b⟩,?_⟩
       refine⟨fun a' w' F=>⟨_,rfl,af rfl,(aQ (.inl rfl) (F.keep 0 (Value.string s) (by kernel_rfl) rfl).is).b⟩,?_⟩
       refine⟨fun a' w' F=>⟨_,rfl,af rfl,(aQ (.inl rfl) (F.keep 5 (Value.int IntKind.i64 ((k:Nat))) (by kernel_rfl) rfl).is).b⟩,?_⟩
       refine⟨fun a' w' F=>⟨_,rfl,af rfl,(mH rfl (F.f 1 rfl) (F.f 2 rfl) hlt HBD.out).b⟩,?_⟩
       refine⟨fun a' w' F=>⟨_,rfl,af rfl,(cG rfl (F.f 3 rfl) Is.const (fun _=>rfl) (mG d (by omega))).b⟩,?_⟩
       refine⟨fun a' w' F=>⟨_,rfl,af rfl,(mI rfl (F.f 4 rfl) (by omega)).b⟩,?_⟩
       refine⟨fun a' w' F=>⟨_,rfl,af rfl,(mJ (Nat.le_trans hbr.size F.below.size) rfl (F.f 0 rfl) Is.const (F.f 5 rfl) hVb (by omega) hV2.out.symm).b⟩,?_⟩
       exact trivial
      intro gp wp bp G Gs
      obtain⟨v6,e6,n6⟩:∃v,gp 6=v∧aD w.heap.size wp v V2:=⟨_,rfl,G 6 46 _ rfl⟩
      obtain⟨x6,c6,rfl,hc6,hx6⟩:=n6
      have n6:aD w.heap.size wp (.agg #[.slice x6 (nl V2) c6]) V2:=⟨x6,c6,rfl,hc6,hx6⟩
      obtain⟨aN,cN,bN,nN⟩:=vN
      have bN2:=bN.mono bp bN.lt
      have vr2:=vr.mono bp vr.lt
      clear G Gs hc6 hx6
      simp only[iM]
      simp only[b5,aw,List.map_cons,List.map_nil,List.foldl_cons,List.foldl_nil,Act.put,List.setIfInBounds_toArray,List.set_cons_zero,List.set_cons_succ,e6]
      refine dR (j:=7) (by kernel_rfl) rfl rfl rfl rfl rfl rfl ⟨_,_,_,rfl⟩ bN2 ?_
      refine wpAny_done (by kernel_rfl) ?_ _
      have hB:=(hbr.trans (bp.mono hbr.size)).setCell (p:=⟨w.heap.size+1,0,none⟩) (Nat.le_succ _) (.slice x6 (nl V2) c6)
      have vN2:dQ w.heap.size (wp.setCell ⟨w.heap.size+1,0,none⟩ (.slice x6 (nl V2) c6)) (w.heap.size+1) V2:=⟨x6,c6,bN2.set,n6.setVar bN2⟩
      have vr3:=vr2.setOther ⟨w.heap.size+1,0,none⟩ (.slice x6 (nl V2) c6) (by simp)
      go_wp2_with fail
      go_roundw
      case rel=>exact⟨k+1,by omega,by go_num,HD,vr3,by rw[HP.out];exact vN2,hB⟩
      case measure=>simp[intOf]<;>omega
   ·obtain rfl:k=s.size:=by omega
    obtain⟨rfl,rfl⟩:=HG.out HR.out
    clear HB HG HR
    obtain⟨V,hV⟩:∃V:Nat,Hid (V=aA s s.size):=⟨_,Lib.hid rfl⟩
    rw[←hV.out]at vN
    obtain⟨aN,cN,bN,nN⟩:=vN
    have c1:=bN.cell
    have nn:=nN.setVar (u:=.slice aN (nl V) cN) vr
    go_wp2
    exact bodyPost_ret (bj rfl _ _ w.heap.size _ (.int .i64 0) rfl rfl vr.set.cell) rfl ⟨_,rfl,by rw[←hV.out];exact nn,hbr.setCell (Nat.le_refl _) _⟩
 ·have hz':¬(((s[0]'h0).toNat:Nat):Int)=48:=by rw[cK];omega
  clear hz hz0
  go_upto_region 7 with(fail)
  go_cut [4] (fun s4 wx=>s4= .pointer (some ⟨w.heap.size+1,0,none⟩)∧aF wx w.heap.size none 0 0∧dQ w.heap.size wx (w.heap.size+1) 0∧Below w.heap.size w wx)
  case first=>
   go_wp2_with fail
   go_meet
   case rel=>exact⟨rfl,kr,kN,kb⟩
  case rest=>
  obtain⟨rfl,vr,vN,hb1⟩:=hcut
  clear kb kr kv kN hb v2
  go_wp2_with fail
  go_loopw [5] (fun s5 wr=>∃k,k≤s.size∧s5= .int .i64 (k:Nat)∧Hid (bS s k)∧aF wr w.heap.size none 0 0∧dQ w.heap.size wr (w.heap.size+1) (aA s k)∧Below w.heap.size w wr)
   (fun s5 _=>s.size - (intOf s5).toNat)
  case atStart=>exact⟨0,Nat.zero_le _,rfl,Lib.hid (fun j h=>by omega),vr,vN,hb1⟩
  case round=>
   clear vr vN hb1
   obtain⟨k,hk,rfl,HR,vr,vN,hbr⟩:=hrel
   have cr:=vr.cell
   have fr:=vr.frozen
   by_cases hlt:k<s.size
   ·by_cases hlo:by' s k<48
    ·have hx:(((s[k]'hlt).toNat:Nat):Int)<48:=by rw[cK];omega
     obtain⟨rfl,rfl⟩:=HB.out (fun h=>by have:=(h k hlt).1;omega)
     clear HB HG HR
     go_wp2
     exact bodyPost_ret (bj rfl _ _ w.heap.size (.slice none 0 0) (.int .i64 2) rfl rfl vr.set.cell) rfl ⟨_,rfl,aD.of_zero,hbr.setCell (Nat.le_refl _) _⟩
    ·by_cases hhi:57<by' s k
     ·have hx:¬(((s[k]'hlt).toNat:Nat):Int)<48:=by rw[cK];omega
      have hy:(57:Int)<(((s[k]'hlt).toNat:Nat):Int):=by rw[cK];omega
      obtain⟨rfl,rfl⟩:=HB.out (fun h=>by have:=(h k hlt).2;omega)
      clear HB HG HR
      go_wp2
      exact bodyPost_ret (bj rfl _ _ w.heap.size (.slice none 0 0) (.int .i64 2) rfl rfl vr.set.cell) rfl ⟨_,rfl,aD.of_zero,hbr.setCell (Nat.le_refl _) _⟩
     ·have hx:¬(((s[k]'hlt).toNat:Nat):Int)<48:=by rw[cK];omega
      have hy:¬(57:Int)<(((s[k]'hlt).toNat:Nat):Int):=by rw[cK];omega
      obtain⟨d,hd⟩:∃d:Nat,by' s k=48+d:=⟨by' s k - 48,by omega⟩
      have hd9:d≤9:=by omega
      have HD:=Lib.hid (show bS s (k+1)from fun j hj=>by
       rcases Nat.lt_or_ge j k with h | h
       ·exact HR.out j h
       ·rw[show j=k by omega];omega)
      obtain⟨V,hV⟩:∃V:Nat,Hid (V=aA s k):=⟨_,Lib.hid rfl⟩
      have hVb:nl V≤100000000000:=by rw[hV.out];exact Nat.le_trans (kf HR.out) (by omega)
      obtain⟨V2,hV2⟩:∃V2:Nat,Hid (V2=V*10+d):=⟨_,Lib.hid rfl⟩
      have HP:=Lib.hid (show aA s (k+1)=V2 by
       show 10*aA s k+(by' s k - 48)=V2
       rw[hV2.out,hV.out];omega)
      rw[←hV.out]at vN
      have hbyd:=hd
      have HBD:=Lib.hid hbyd
      clear hlo hhi hd hbyd cr fr
      go_upto_region 13 with(fail)
      refine iL Tryd.f46 13 (iM w s k d V V2) (fun _=>false) 4 1 (by kernel_rfl) (by kernel_rfl) (by kernel_rfl) (by kernel_rfl) (el.of_all (fun _ h=>by cases h) _) ?_ ?_
      ·refine⟨fun a' w' F=>⟨_,rfl,af rfl,(aZ rfl (F.keep 4 (Value.pointer (some ⟨w.heap.size+1,0,none⟩)) (by kernel_rfl) rfl).is (vN.isI.mono F.below)).b⟩,?_⟩
       refine⟨fun a' w' F=>⟨_,rfl,af rfl,(aQ (.inl rfl) (F.keep 0 (Value.string s) (by kernel_rfl) rfl).is).b⟩,?_⟩
       refine⟨fun a' w' F=>⟨_,rfl,af rfl,(aQ (.inl rfl) (F.keep 5 (Value.int IntKind.i64 ((k:Nat))) (by kernel_rfl) rfl).is).b⟩,?_⟩
       refine⟨fun a' w' F=>⟨_,rfl,af rfl,(mH rfl (F.f 1 rfl) (F.f 2 rfl) hlt HBD.out).b⟩,?_⟩
       refine⟨fun a' w' F=>⟨_,rfl,af rfl,(cG rfl (F.f 3 rfl) Is.const (fun _=>rfl) (mG d (by omega))).b⟩,?_⟩
       refine⟨fun a' w' F=>⟨_,rfl,af rfl,(mI rfl (F.f 4 rfl) (by omega)).b⟩,?_⟩
       refine⟨fun a' w' F=>⟨_,rfl,af rfl,(mJ (Nat.le_trans hbr.size F.below.size) rfl (F.f 0 rfl) Is.const (F.f 5 rfl) hVb (by omega) hV2.out.symm).b⟩,?_⟩
       exact trivial
      intro gp wp bp G Gs
      obtain⟨v6,e6,n6⟩:∃v,gp 6=v∧aD w.heap.size wp v V2:=⟨_,rfl,G 6 46 _ rfl⟩
      obtain⟨x6,c6,rfl,hc6,hx6⟩:=n6
      have n6:aD w.heap.size wp (.agg #[.slice x6 (nl V2) c6]) V2:=⟨x6,c6,rfl,hc6,hx6⟩
      obtain⟨aN,cN,bN,nN⟩:=vN
      have bN2:=bN.mono bp bN.lt
      have vr2:=vr.mono bp vr.lt
      clear G Gs hc6 hx6
      simp only[iM]
      simp only[b5,aw,List.map_cons,List.map_nil,List.foldl_cons,List.foldl_nil,Act.put,List.setIfInBounds_toArray,List.set_cons_zero,List.set_cons_succ,e6]
      refine dR (j:=7) (by kernel_rfl) rfl rfl rfl rfl rfl rfl ⟨_,_,_,rfl⟩ bN2 ?_
      refine wpAny_done (by kernel_rfl) ?_ _
      have hB:=(hbr.trans (bp.mono hbr.size)).setCell (p:=⟨w.heap.size+1,0,none⟩) (Nat.le_succ _) (.slice x6 (nl V2) c6)
      have vN2:dQ w.heap.size (wp.setCell ⟨w.heap.size+1,0,none⟩ (.slice x6 (nl V2) c6)) (w.heap.size+1) V2:=⟨x6,c6,bN2.set,n6.setVar bN2⟩
      have vr3:=vr2.setOther ⟨w.heap.size+1,0,none⟩ (.slice x6 (nl V2) c6) (by simp)
      go_wp2_with fail
      go_roundw
      case rel=>exact⟨k+1,by omega,by go_num,HD,vr3,by rw[HP.out];exact vN2,hB⟩
      case measure=>simp[intOf]<;>omega
   ·obtain rfl:k=s.size:=by omega
    obtain⟨rfl,rfl⟩:=HG.out HR.out
    clear HB HG HR
    obtain⟨V,hV⟩:∃V:Nat,Hid (V=aA s s.size):=⟨_,Lib.hid rfl⟩
    rw[←hV.out]at vN
    obtain⟨aN,cN,bN,nN⟩:=vN
    have c1:=bN.cell
    have nn:=nN.setVar (u:=.slice aN (nl V) cN) vr
    go_wp2
    exact bodyPost_ret (bj rfl _ _ w.heap.size _ (.int .i64 0) rfl rfl vr.set.cell) rfl ⟨_,rfl,by rw[←hV.out];exact nn,hbr.setCell (Nat.le_refl _) _⟩
theorem oQ (s:ByteArray) (w:World) (N:Nat) (c:Int) (h:ParseIs s N c):Calls Tryd.prog 46 #[.string s] w fun e w'=>jw w N c e w':=by
 by_cases h0:s.size=0
 ·obtain⟨rfl,rfl⟩:=h.short h0;exact lp s w h0
 ·by_cases h1:400<s.size
  ·obtain⟨rfl,rfl⟩:=h.long h1;exact mp s w h1
  ·by_cases h2:1<s.size∧by' s 0=48
   ·obtain⟨rfl,rfl⟩:=h.zero h2.1 (by omega) h2.2;exact mq s w h2.1 (by omega) h2.2
   ·have hz:by' s 0=48→s.size=1:=fun e=>by
     rcases Nat.lt_or_ge 1 s.size with h' | h'
     ·exact absurd ⟨h',e⟩ h2
     ·omega
    exact mr s w N c (by omega) (by omega) hz (fun hg=>h.good (by omega) (by omega) hz hg) (fun hg=>h.bad (by omega) (by omega) hg)
end Go.Proofs.YtfhinmdhjlmikaaDoor
namespace Go.Proofs.YtfhinmdhjlmikaaDoor
set_option linter.unusedSimpArgs false
set_option linter.unusedVariables false
set_option maxRecDepth 100000
open Go.RowKit
section
variable {P:Program} {Q:Exit→Act→World→Prop} {md:Region.Mode}
/-- An operation of a table: it runs, or it is skipped. -/
def qY (P:Program) (Q:Exit→Act→World→Prop) (ops:Array Oper) (al:Bool) (j:Nat) (a':Act) (w':World) (s:Sp):Prop:=
 ∃o,ops[j]? =some o∧((Region.wanted o (yielded ops a'.tmps)=true∧v4 P Q al o a' w' s)∨(Region.wanted o (yielded ops a'.tmps)=false∧al=false∧s.p w' undef))
theorem qY.run {ops:Array Oper} {al:Bool} {j:Nat} {a':Act} {w':World} {s:Sp} {o:Oper} (ho:ops[j]? =some o) (hw:Region.wanted o (yielded ops a'.tmps)=true) (h:v4 P Q al o a' w' s):qY P Q ops al j a' w' s:=⟨o,ho,.inl ⟨hw,h⟩⟩
theorem qY.skip {ops:Array Oper} {j:Nat} {a':Act} {w':World} {s:Sp} {o:Oper} (ho:ops[j]? =some o) (hw:Region.wanted o (yielded ops a'.tmps)=false) (h:s.p w' undef):qY P Q ops false j a' w' s:=⟨o,ho,.inr ⟨hw,rfl,h⟩⟩
end
/-- v is the fraction of sign s, numerator p, denominator q: valid numbers. -/
def IsF (w:World) (v:Value) (s:Bool) (p q:Nat):Prop:=∃a c b d,v= .agg #[.bool s,.slice a (nl p) c,.slice b (nl q) d]∧IsN w (.agg #[.slice a (nl p) c]) p∧IsN w (.agg #[.slice b (nl q) d]) q
theorem IsF.mono {w w':World} {v:Value} {s:Bool} {p q:Nat} (h:IsF w v s p q) (hb:Below w.heap.size w w'):IsF w' v s p q:=by
 obtain⟨a,c,b,d,rfl,h1,h2⟩:=h;exact⟨a,c,b,d,rfl,h1.mono hb,h2.mono hb⟩
/-- Block g is a fraction variable of the call's own with these cells. -/
def bw (w:World) (g:Nat) (s:Bool) (a:Option Addr) (L c:Nat) (b:Option Addr) (M d:Nat):Prop:=w.heap[g]? =some (.cells #[.bool s,.slice a L c,.slice b M d] 26 (0,0))
section
variable {w w':World} {g L c M d B:Nat} {s:Bool} {a b:Option Addr}
theorem bw.lt (h:bw w g s a L c b M d):g<w.heap.size:=(Array.getElem?_eq_some_iff.1 h).1
theorem bw.mono (h:bw w g s a L c b M d) (hb:Below B w w') (hB:g<B):bw w' g s a L c b M d:=(hb.block g hB).trans h
theorem bw.cell1 (h:bw w g s a L c b M d):w.cell? ⟨g,1,none⟩=some (.slice a L c):=by rw[cell_of_row w g 1 _ _ (0,0) h];rfl
theorem bw.cell2 (h:bw w g s a L c b M d):w.cell? ⟨g,2,none⟩=some (.slice b M d):=by rw[cell_of_row w g 2 _ _ (0,0) h];rfl
theorem bw.frozen (h:bw w g s a L c b M d) (j:Nat):w.frozen? ⟨g,j,none⟩=false:=frozen_of_row w g j _ _ h
theorem bw.made (w:World) (s:Bool) (a:Option Addr) (L c:Nat) (b:Option Addr) (M d:Nat):bw (w.alloc (.cells #[.bool s,.slice a L c,.slice b M d] 26)) w.heap.size s a L c b M d:=heap_alloc_new w _
end
/-- Block g is a variable that holds the fraction. -/
def fL (w:World) (g:Nat) (s:Bool) (p q:Nat):Prop:=∃a c b d,bw w g s a (nl p) c b (nl q) d∧IsN w (.agg #[.slice a (nl p) c]) p∧IsN w (.agg #[.slice b (nl q) d]) q
theorem fL.mono {w w':World} {g p q:Nat} {s:Bool} (h:fL w g s p q) (hb:Below w.heap.size w w'):fL w' g s p q:=by
 obtain⟨a,c,b,d,h0,h1,h2⟩:=h;exact⟨a,c,b,d,h0.mono hb h0.lt,h1.mono hb,h2.mono hb⟩
def Sp.fr (s:Bool) (p q:Nat):Sp:=⟨fun w v=>IsF w v s p q,fun _ _ _ h hb=>h.mono hb⟩
def RetF (W:World) (s:Bool) (p q:Nat) (e:Ending) (w':World):Prop:=∃v,e= .returned v∧IsF w' v s p q∧Below W.heap.size W w'
theorem tJ (va:Value) (m:Nat) (w:World) (ha:IsN w va m) (hm:nl m≤1000000000000):
  Calls Tryd.prog 52 #[va] w fun e w'=>bE w (.bool (decide (m=0))) e w':=by
 obtain⟨a,ca,rfl,hca,ra⟩:=ha
 have hw:=eF w (.cells #[.slice a (nl m) ca] 24)
 have v1:=aF.made w a (nl m) ca
 have c1:=v1.cell
 have e:(((nl m:Nat):Int)==0)=decide (m=0):=by
  rw[Bool.eq_iff_iff];simp[fE]
 go_enter Tryd.func52,Tryd.ntmps52
 go_wp2
 go_ret
 exact⟨by first | rfl | (rw[←e];rfl) | simp_all,hw⟩
theorem xO (va:Value) (m:Nat) (w:World) (ha:IsN w va m) (hm:nl m≤1000000000000):
  Calls Tryd.prog 48 #[va] w fun e w'=>bE w (.bool (decide (m=0))) e w':=by
 obtain⟨a,ca,rfl,hca,ra⟩:=ha
 have hw:=eF w (.cells #[.slice a (nl m) ca] 24)
 have v1:=aF.made w a (nl m) ca
 have c1:=v1.cell
 have e:(((nl m:Nat):Int)==0)=decide (m=0):=by
  rw[Bool.eq_iff_iff];simp[fE]
 go_enter Tryd.func48,Tryd.ntmps48
 go_wp2
 go_ret
 exact⟨by first | rfl | (rw[←e];rfl) | simp_all,hw⟩
end Go.Proofs.YtfhinmdhjlmikaaDoor
namespace Go.Proofs.YtfhinmdhjlmikaaDoor
set_option linter.unusedSimpArgs false
set_option linter.unusedVariables false
set_option maxRecDepth 100000
open Go.RowKit
/-- The fraction variable g is written. -/
def putF (w:World) (g:Nat) (s:Bool) (a:Option Addr) (L c:Nat) (b:Option Addr) (M d:Nat):World:=
 ((w.setCell ⟨g,0,none⟩ (.bool s)).setCell ⟨g,1,none⟩ (.slice a L c)).setCell ⟨g,2,none⟩ (.slice b M d)
section
variable {w:World} {g L c M d L' c' M' d':Nat} {s s':Bool} {a b a' b':Option Addr}
theorem bw.put (h:bw w g s a L c b M d):bw (putF w g s' a' L' c' b' M' d') g s' a' L' c' b' M' d':=by
 have h1:=heap_setCell_same w g 0 _ _ (.bool s') h
 have h2:=heap_setCell_same _ g 1 _ _ (.slice a' L' c') h1
 have h3:=heap_setCell_same _ g 2 _ _ (.slice b' M' d') h2
 exact h3
theorem sa {k:Nat} (hk:k≠g):(putF w g s a L c b M d).heap[k]? =w.heap[k]? :=by
 unfold putF
 rw[Below.heap_setCell _ _ _ k hk,Below.heap_setCell _ _ _ k hk,Below.heap_setCell _ _ _ k hk]
theorem bw.ne (h:bw w g s a L c b M d) {k o:Nat} {x:Int} {ki:IntKind} (hd:w.cell? ⟨k,o,none⟩=some (.int ki x)):k≠g:=by
 rintro rfl
 rw[cell_of_row w k o _ _ (0,0) h]at hd
 match o,hd with
 | 0,hd=>cases hd
 | 1,hd=>cases hd
 | 2,hd=>cases hd
 | (o+3),hd=>simp at hd
theorem IsN.putF {v:Value} {N:Nat} (h:IsN w v N) (hg:bw w g s a L c b M d):IsN (putF w g s' a' L' c' b' M' d') v N:=by
 obtain⟨x,cap,rfl,hc,hx⟩:=h
 refine⟨x,cap,rfl,hc,hx.lt,fun hL=> ?_⟩
 obtain⟨k,off,rfl,hd⟩:=hx.cells hL
 have hne:k≠g:=hg.ne (by simpa using hd 0 hL)
 refine⟨k,off,rfl,fun j hj=> ?_⟩
 rw[World.cell?_of_block (sa (by simpa using hne))];exact hd j hj
theorem IsF.putF {v:Value} {t:Bool} {p q:Nat} (h:IsF w v t p q) (hg:bw w g s a L c b M d):IsF (putF w g s' a' L' c' b' M' d') v t p q:=by
 obtain⟨x,cx,y,cy,rfl,h1,h2⟩:=h;exact⟨x,cx,y,cy,rfl,h1.putF hg,h2.putF hg⟩
end
section
variable {Q:Exit→Act→World→Prop} {o:Oper} {a:Act} {w:World} {x y z:Operand} {m n p q g:Nat} {s:Bool} {tt:Array TypeId}
end
/-- The end of a contract that hands back a fraction and an error's number. -/
def RetFE (W:World) (s:Bool) (p q:Nat) (c:Int) (e:Ending) (w':World):Prop:=∃v,e= .returned (.tuple #[v,.int .i64 c])∧IsF w' v s p q∧Below W.heap.size W w'
theorem IsF.zero (w:World):IsF w (.agg #[.bool false,.slice none 0 0,.slice none 0 0]) false 0 0:=by
 have h:IsN w (.agg #[.slice none (nl 0) 0]) 0:=by rw[aK];exact aD.isN (base:=0) aD.of_zero
 exact⟨none,0,none,0,by rw[aK],h,h⟩
theorem fL.of {w:World} {g p q c d:Nat} {s:Bool} {a b:Option Addr} (h:bw w g s a (nl p) c b (nl q) d) (h1:IsN w (.agg #[.slice a (nl p) c]) p) (h2:IsN w (.agg #[.slice b (nl q) d]) q):fL w g s p q:=⟨a,c,b,d,h,h1,h2⟩
end Go.Proofs.YtfhinmdhjlmikaaDoor
namespace Go.Proofs.YtfhinmdhjlmikaaDoor
set_option linter.unusedSimpArgs false
set_option linter.unusedVariables false
set_option maxRecDepth 100000
open Go.RowKit
/-- The sign of a fraction in lowest terms. -/
def gg (s:Bool) (m:Nat):Bool:=s && !decide (m=0)
end Go.Proofs.YtfhinmdhjlmikaaDoor
namespace Go.Proofs.YtfhinmdhjlmikaaDoor
set_option linter.unusedSimpArgs false
set_option linter.unusedVariables false
set_option maxRecDepth 100000
open Go.RowKit
def iN (m n:Nat):Nat:=m / Nat.gcd m n
def kB (m n:Nat):Nat:=n / Nat.gcd m n
theorem bi {m n d e:Nat} (hm:nl m≤d) (hn:nl n≤e):nl (m*n)≤d+e:=az.2 (tC (az.1 hm) (az.1 hn))
end Go.Proofs.YtfhinmdhjlmikaaDoor
namespace Go.Proofs.YtfhinmdhjlmikaaDoor
set_option linter.unusedSimpArgs false
set_option linter.unusedVariables false
set_option maxRecDepth 100000
open Go.RowKit
theorem bw.setOther {w:World} {g L c M d:Nat} {s:Bool} {a b:Option Addr} (h:bw w g s a L c b M d) (p:Addr) (u:Value) (hp:p.block≠g):bw (w.setCell p u) g s a L c b M d:=
 (Below.heap_setCell w p u g (fun e=>hp e.symm)).trans h
theorem fL.setOther {w:World} {g p q g' L' c':Nat} {s:Bool} {a':Option Addr} {u:Value} (h:fL w g s p q) (h':aF w g' a' L' c') (hne:g'≠g):fL (w.setCell ⟨g',0,none⟩ u) g s p q:=by
 obtain⟨a,c,b,d,h0,h1,h2⟩:=h
 exact⟨a,c,b,d,h0.setOther _ _ hne,h1.setVar h',h2.setVar h'⟩
theorem fL.lt {w:World} {g p q:Nat} {s:Bool} (h:fL w g s p q):g<w.heap.size:=by obtain⟨_,_,_,_,h,_⟩:=h;exact h.lt
theorem bA.lt {w:World} {g N:Nat} (h:bA w g N):g<w.heap.size:=by obtain⟨_,_,h,_⟩:=h;exact h.lt
/-- The sum of two fractions over one denominator: its sign before reduction, its numerator. -/
def gh (s s':Bool) (X Y:Nat):Bool:=if s=s' then s else if Y≤X then s else s'
def fo (s s':Bool) (X Y:Nat):Nat:=if s=s' then X+Y else if Y≤X then X - Y else Y - X
theorem wg {m n d:Nat} (hm:nl m≤d) (hn:nl n≤d):nl (m+n)≤d+d+1:=az.2 (tB (az.1 hm) (az.1 hn))
theorem wh (s s':Bool) (X Y:Nat):fo s s' X Y≤X+Y:=by unfold fo;by_cases h:s=s'<;>by_cases h2:Y≤X<;>simp only[h,h2,if_true,if_false]<;>omega
end Go.Proofs.YtfhinmdhjlmikaaDoor
namespace Go.Proofs.YtfhinmdhjlmikaaDoor
set_option linter.unusedSimpArgs false
set_option linter.unusedVariables false
set_option maxRecDepth 100000
open Go.RowKit
/-- In w' only block g may differ from what it was in w. -/
structure Upd (w:World) (g:Nat) (w':World):Prop where
 os:w'.os=w.os
 tape:w'.tape=w.tape
 output:w'.output=w.output
 size:w'.heap.size=w.heap.size
 block:∀k,k≠g→w'.heap[k]? =w.heap[k]?
theorem Upd.cell (w:World) (g k:Nat) (u:Value):Upd w g (w.setCell ⟨g,k,none⟩ u):=⟨rfl,rfl,rfl,by simp[World.setCell],fun i hi=>Below.heap_setCell _ _ _ _ hi⟩
theorem Upd.trans {a b c:World} {g:Nat} (h:Upd a g b) (k:Upd b g c):Upd a g c:=⟨k.os.trans h.os,k.tape.trans h.tape,k.output.trans h.output,k.size.trans h.size,fun i hi=>(k.block i hi).trans (h.block i hi)⟩
theorem Upd.below {W w w':World} {g B:Nat} (h:Below B W w) (u:Upd w g w') (hB:B≤g):Below B W w':=
 h.trans ⟨u.os,u.tape,u.output,by rw[u.size];exact Nat.le_refl _,fun k hk=>u.block k (by omega)⟩
/-- Block g is a variable: no row of digits lies there. -/
def Own (w:World) (g:Nat):Prop:=∃(cs:Array Value) (t:TypeId),w.heap[g]? =some (Obj.cells cs t (0,0))∧∀(k:Nat) (n:Int),cs[k]? ≠some (Value.int .u32 n)
theorem aF.own {w:World} {g L c:Nat} {a:Option Addr} (h:aF w g a L c):Own w g:=⟨_,_,h,fun k n=>by
 match k with
 | 0=>intro h;cases h
 | k+1=>intro h;simp at h⟩
theorem bw.own {w:World} {g L c M d:Nat} {s:Bool} {a b:Option Addr} (h:bw w g s a L c b M d):Own w g:=⟨_,_,h,fun k n=>by
 match k with
 | 0=>intro h;cases h
 | 1=>intro h;cases h
 | 2=>intro h;cases h
 | k+3=>intro h;simp at h⟩
theorem bA.own {w:World} {g N:Nat} (h:bA w g N):Own w g:=by obtain⟨_,_,h,_⟩:=h;exact h.own
theorem fL.own {w:World} {g p q:Nat} {s:Bool} (h:fL w g s p q):Own w g:=by obtain⟨_,_,_,_,h,_⟩:=h;exact h.own
theorem Own.ne {w:World} {g k o:Nat} {x:Int} (h:Own w g) (hd:w.cell? ⟨k,o,none⟩=some (.int .u32 x)):k≠g:=by
 rintro rfl
 obtain⟨cs,t,h1,h2⟩:=h
 rw[cell_of_row w k o _ _ (0,0) h1]at hd
 exact h2 o x hd
section
variable {w w':World} {g g' N L c M d p q:Nat} {s:Bool} {a b:Option Addr}
theorem IsR.upd {v:Value} {L N:Nat} (h:IsR w v L N) (o:Own w g) (u:Upd w g w'):IsR w' v L N:=by
 obtain⟨x,cap,rfl,hc,hx⟩:=h
 refine⟨x,cap,rfl,hc,hx.lt,fun hL=> ?_⟩
 obtain⟨b,off,rfl,hd⟩:=hx.cells hL
 have hne:b≠g:=o.ne (by simpa using hd 0 hL)
 refine⟨b,off,rfl,fun j hj=> ?_⟩
 rw[World.cell?_of_block (u.block b hne)];exact hd j hj
theorem IsN.upd {v:Value} (h:IsN w v N) (o:Own w g) (u:Upd w g w'):IsN w' v N:=IsR.upd h o u
theorem IsF.upd {v:Value} (h:IsF w v s p q) (o:Own w g) (u:Upd w g w'):IsF w' v s p q:=by
 obtain⟨x,cx,y,cy,rfl,h1,h2⟩:=h;exact⟨x,cx,y,cy,rfl,h1.upd o u,h2.upd o u⟩
theorem aF.upd (h:aF w g' a L c) (o:Own w g) (u:Upd w g w') (hn:g'≠g):aF w' g' a L c:=(u.block g' hn).trans h
theorem bw.upd (h:bw w g' s a L c b M d) (o:Own w g) (u:Upd w g w') (hn:g'≠g):bw w' g' s a L c b M d:=(u.block g' hn).trans h
theorem bA.upd (h:bA w g' N) (o:Own w g) (u:Upd w g w') (hn:g'≠g):bA w' g' N:=by
 obtain⟨x,cx,h1,h2⟩:=h;exact⟨x,cx,h1.upd o u hn,h2.upd o u⟩
theorem fL.upd (h:fL w g' s p q) (o:Own w g) (u:Upd w g w') (hn:g'≠g):fL w' g' s p q:=by
 obtain⟨x,cx,y,cy,h0,h1,h2⟩:=h;exact⟨x,cx,y,cy,h0.upd o u hn,h1.upd o u,h2.upd o u⟩
theorem bA.zero (h:aF w g none 0 0):bA w g 0:=⟨none,0,by rw[aK];exact h,by rw[aK];exact aD.isN (base:=0) aD.of_zero⟩
theorem fL.zero (h:bw w g false none 0 0 none 0 0):fL w g false 0 0:=by
 have h0:IsN w (.agg #[.slice none (nl 0) 0]) 0:=by rw[aK];exact aD.isN (base:=0) aD.of_zero
 exact⟨none,0,none,0,by rw[aK];exact h,h0,h0⟩
end
section
variable {Q:Exit→Act→World→Prop} {md:Region.Mode} {ops:Array Oper} {o:Oper} {a:Act} {w:World} {j fuel:Nat} {listed:Array Bool} {x y:Operand} {g L c M d N p q:Nat} {s t:Bool} {u v:Option Addr}
theorem aF.any (h:aF w g u L c):∃s L c,aF w g s L c:=⟨_,_,_,h⟩
theorem bA.any (h:bA w g N):∃s L c,aF w g s L c:=by obtain⟨_,_,h,_⟩:=h;exact⟨_,_,_,h⟩
theorem bw.any (h:bw w g s u L c v M d):∃s u L c v M d,bw w g s u L c v M d:=⟨_,_,_,_,_,_,_,h⟩
theorem fL.any (h:fL w g s p q):∃s u L c v M d,bw w g s u L c v M d:=by obtain⟨_,_,_,_,h,_⟩:=h;exact⟨_,_,_,_,_,_,_,h⟩
end
section
variable {Q:Exit→Act→World→Prop} {md:Region.Mode} {ops:Array Oper} {o:Oper} {a:Act} {w:World} {j fuel:Nat} {listed:Array Bool} {x y:Operand} {g L c M d N p q:Nat} {s t:Bool} {u v:Option Addr}
section
variable {f:FuncId} {S S1 S2 S3:Sp} {z:Operand} {tt:Array TypeId} {R:World→Ending→World→Prop}
end
end
theorem xf {fn:Func} {p:Tmp} (h:fn.results=#[.cell p 24]) {tmps:Array Value} {w:World} {g L c:Nat} {a:Option Addr}
  (hp:tmps[p]? =some (.pointer (some ⟨g,0,none⟩))) (hv:aF w g a L c):(results fn tmps).run Tryd.prog w= .ok (.agg #[.slice a L c]) w:=by
 have c0:=hv.cell
 simp[results,h,hp,asAddr,loadVar,go_sem,c0]
theorem resN {w:World}:Below w.heap.size w (w.alloc (.cells #[.slice none 0 0] 24))∧aF (w.alloc (.cells #[.slice none 0 0] 24)) w.heap.size none 0 0:=⟨eF w _,aF.made w none 0 0⟩
/-- A fraction: sign, numerator, denominator. -/
structure Fq where
 s:Bool
 p:Nat
 q:Nat
abbrev IsQ (w:World) (v:Value) (x:Fq):Prop:=IsF w v x.s x.p x.q
def iO (W:World) (x:Fq) (e:Ending) (w':World):Prop:=RetF W x.s x.p x.q e w'
def cd (W:World) (x:Fq) (c:Int) (e:Ending) (w':World):Prop:=RetFE W x.s x.p x.q c e w'
def Fq.low (s:Bool) (m n:Nat):Fq:=⟨gg s m,iN m n,kB m n⟩
def Fq.neg (x:Fq):Fq:=⟨gg (!x.s) x.p,x.p,x.q⟩
def Fq.add (x y:Fq):Fq:=.low (gh x.s y.s (x.p*y.q) (y.p*x.q)) (fo x.s y.s (x.p*y.q) (y.p*x.q)) (x.q*y.q)
def Fq.mul (x y:Fq):Fq:=.low (x.s !=y.s) (x.p*y.p) (x.q*y.q)
def Fq.div (x y:Fq):Fq:=.low (x.s !=y.s) (x.p*y.q) (x.q*y.p)
def Fq.sub (x y:Fq):Fq:=x.add y.neg
def Fq.sgn (x:Fq):Int:=if x.p=0 then 0 else if x.s then -1 else 1
def Fq.zero:Fq:=⟨false,0,0⟩
/-- At most d digits; the denominator is not zero. -/
structure Fq.ok (d:Nat) (x:Fq):Prop where
 p:nl x.p≤d
 q:nl x.q≤d
 n:x.q≠0
section
variable {x y:Fq} {d e:Nat}
theorem Fq.ok.mono (h:x.ok d) (hd:d≤e):x.ok e:=⟨Nat.le_trans h.p hd,Nat.le_trans h.q hd,h.n⟩
theorem Fq.ok_low {s:Bool} {m n:Nat} (hm:nl m≤d) (hn:nl n≤d) (h0:n≠0):(Fq.low s m n).ok d:=
 ⟨Nat.le_trans (cF (Nat.div_le_self _ _)) hm,Nat.le_trans (cF (Nat.div_le_self _ _)) hn,fun h=>by
  have h1:n / Nat.gcd m n=0:=h
  rw[Nat.div_eq_zero_iff]at h1
  have h2:=Nat.gcd_pos_of_pos_right m (Nat.pos_of_ne_zero h0)
  have h3:=Nat.gcd_le_right m (Nat.pos_of_ne_zero h0)
  omega⟩
theorem Fq.ok.neg (h:x.ok d):x.neg.ok d:=⟨h.p,h.q,h.n⟩
theorem Fq.ok.mul (h:x.ok d) (k:y.ok e):(x.mul y).ok (d+e):=Fq.ok_low (bi h.p k.p) (bi h.q k.q) (Nat.mul_ne_zero h.n k.n)
theorem Fq.ok.div (h:x.ok d) (k:y.ok e) (h0:y.p≠0):(x.div y).ok (d+e):=Fq.ok_low (bi h.p k.q) (bi h.q k.p) (Nat.mul_ne_zero h.n h0)
theorem Fq.ok.add (h:x.ok d) (k:y.ok e):(x.add y).ok (d+e+(d+e)+1):=
 Fq.ok_low (Nat.le_trans (cF (wh _ _ _ _)) (wg (bi h.p k.q) (Nat.le_trans (bi k.p h.q) (by omega)))) (Nat.le_trans (bi h.q k.q) (by omega)) (Nat.mul_ne_zero h.n k.n)
theorem Fq.ok.sub (h:x.ok d) (k:y.ok e):(x.sub y).ok (d+e+(d+e)+1):=h.add k.neg
end
end Go.Proofs.YtfhinmdhjlmikaaDoor
namespace Go.Proofs.YtfhinmdhjlmikaaDoor
set_option linter.unusedSimpArgs false
set_option linter.unusedVariables false
set_option maxRecDepth 100000
open Go.RowKit
/-- The value of a function. -/
abbrev fnV (f:FuncId):Value:=.func (.func f) #[] #[]
/-- A value of one cell that may be stored into a variable. -/
def gx (v:Value):Prop:=(∀cs,v≠ .agg cs)∧(∀vs,v≠ .tuple vs)∧∀n,v≠ .int .u32 n
/-- The type of strings. -/
def xP:TypeId:=9
/-- No digit lies in block g. -/
def fq (w:World) (g:Nat):Prop:=g<w.heap.size∧∀(k:Nat) (n:Int),w.cell? ⟨g,k,none⟩≠some (.int .u32 n)
theorem fq.mk' {w:World} {g:Nat} {cs:Array Value} {t:TypeId} (h:w.heap[g]? =some (Obj.cells cs t (0,0))) (hc:∀(k:Nat) (n:Int),cs[k]? ≠some (Value.int .u32 n)):fq w g:=
 ⟨(Array.getElem?_eq_some_iff.1 h).1,fun k n hk=>hc k n (by rw[cell_of_row w g k _ _ (0,0) h]at hk;exact hk)⟩
theorem Own.x {w:World} {g:Nat} (h:Own w g):fq w g:=by obtain⟨cs,t,h1,h2⟩:=h;exact .mk' h1 h2
theorem fq.blk {w w':World} {g:Nat} (h:fq w g) (e:w'.heap[g]? =w.heap[g]?) (hs:w.heap.size≤w'.heap.size):fq w' g:=⟨Nat.lt_of_lt_of_le h.1 hs,fun k n hk=>h.2 k n (by rw[←World.cell?_of_block (w:=w) (w':=w') (a:=⟨g,k,none⟩) e];exact hk)⟩
/-- Only the blocks of X, in which no digits lie, may have changed. -/
structure Chg (w w':World) (X:Nat→Prop):Prop where
 size:w.heap.size≤w'.heap.size
 blk:∀g,g<w.heap.size→¬X g→w'.heap[g]? =w.heap[g]?
 own:∀g,X g→fq w g
/-- A property of a value and of the blocks that it names; fp: those of these blocks that are no digits. -/
structure Vp where
 p:World→Value→Prop
 fp:World→Value→Nat→Prop
 ch:∀w w' X v,p w v→Chg w w' X→(∀g,fp w v g→¬X g)→p w' v∧∀g,fp w' v g→fp w v g
 lt:∀w v g,p w v→fp w v g→g<w.heap.size
 fl:∀w v,p w v→gx v
/-- .. the blocks are told by the value alone. -/
def Vp.of (p:World→Value→Prop) (fp:Value→Nat→Prop) (ch:∀w w' X v,p w v→Chg w w' X→(∀g,fp v g→¬X g)→p w' v) (lt:∀w v g,p w v→fp v g→g<w.heap.size) (fl:∀w v,p w v→gx v):Vp:=
 ⟨p,fun _=>fp,fun w w' X v h c k=>⟨ch w w' X v h c k,fun _ h=>h⟩,lt,fl⟩
theorem IsR.chg {w w':World} {X:Nat→Prop} {v:Value} {L N:Nat} (h:IsR w v L N) (k:Chg w w' X):IsR w' v L N:=by
 obtain⟨x,cap,rfl,hc,hx⟩:=h
 refine⟨x,cap,rfl,hc,hx.lt,fun hL=> ?_⟩
 obtain⟨b,off,rfl,hd⟩:=hx.cells hL
 have hb:w'.heap[b]? =w.heap[b]? :=k.blk b (hd.lt hL) (fun hX=>(k.own b hX).2 off _ (by simpa using hd 0 hL))
 refine⟨b,off,rfl,fun j hj=> ?_⟩
 rw[World.cell?_of_block hb];exact hd j hj
def Vp.val (u:Value):Vp:=.of (fun _ v=>v=u∧gx v) (fun _ _=>False) (fun _ _ _ _ h _ _=>h) (fun _ _ _ _ h=>h.elim) (fun _ _ h=>h.2)
/-- A row of digits. -/
def Vp.dig (L N:Nat):Vp:=.of (fun w v=>IsR w (.agg #[v]) L N) (fun _ _=>False) (fun _ _ _ _ h k _=>h.chg k) (fun _ _ _ _ h=>h.elim) (fun w v h=>by
 obtain⟨a,c,e,_⟩:=h
 have e2:v= .slice a L c:=by
  injection e with e
  have:=congrArg (fun x:Array Value=>x[0]?) e
  simpa using this
 subst e2
 exact⟨fun _ h=>by(cases h),fun _ h=>by(cases h),fun _ h=>by(cases h)⟩)
theorem Chg.below {w w':World} (h:Below w.heap.size w w'):Chg w w' (fun _=>False):=⟨h.size,fun g hg _=>h.block g hg,fun _ h=>h.elim⟩
theorem Chg.upd {w w':World} {g:Nat} (o:fq w g) (u:Upd w g w'):Chg w w' (fun x=>x=g):=⟨by rw[u.size];exact Nat.le_refl _,fun k _ hk=>u.block k hk,fun k hk=>by subst hk;exact o⟩
abbrev Rho:=List Vp
/-- What is known of one cell. -/
inductive Leaf where
 | b (x:Bool)
 | i (k:IntKind) (n:Int)
 | ptr (v off:Nat)
 | nilp
 | ref (n:Nat)
 | fn (f:FuncId)
 | sl0
 | s (x:ByteArray)
 | own (i n:Nat)
 deriving DecidableEq
inductive SV where
 | one (l:Leaf)
 | agg (ls:List Leaf)
 deriving DecidableEq
inductive AV where
 | v (s:SV)
 | tup (xs:List SV)
 | any
 deriving DecidableEq
/-- Which block is which variable, and which blocks belong to which object. -/
structure Blk where
 v:Nat→Option Nat
 o:Nat→Nat→Prop
def noB:Blk:=⟨fun _=>none,fun _ _=>False⟩
def Blk.has (B:Blk) (g:Nat):Prop:=(∃x,B.v x=some g)∨∃k,B.o k g
theorem nM {g:Nat}:¬noB.has g:=by rintro(⟨x,h⟩ | ⟨k,h⟩);(cases h);exact h
/-- From here on the numbers are those of rows that the call itself made and may append to. -/
abbrev OW:Nat:=1000000
def Leaf.holds (ρ:Rho) (B:Blk) (w:World) (l:Leaf) (v:Value):Prop:=
 match l with
 | .b x=>v= .bool x
 | .i k n=>v= .int k n
 | .ptr x o=>∃g,B.v x=some g∧v= .pointer (some ⟨g,o,none⟩)
 | .nilp=>v= .pointer none
 | .ref n=>∃s,ρ[n]? =some s∧s.p w v∧∀g,s.fp w v g→¬B.has g
 | .fn f=>v=fnV f
 | .sl0=>v= .slice none 0 0
 | .s x=>v= .string x
 | .own k m=>∃s,ρ[m]? =some s∧s.p w v∧(∀g,s.fp w v g→B.o k g)∧∀g,v.ownBlock=some g→B.o k g
def ap (ρ:Rho) (B:Blk) (w:World):List Leaf→List Value→Prop
 | [],[]=>True
 | l::ls,v::vs=>l.holds ρ B w v∧ap ρ B w ls vs
 | _,_=>False
def SV.holds (ρ:Rho) (B:Blk) (w:World) (s:SV) (v:Value):Prop:=
 match s with
 | .one l=>l.holds ρ B w v
 | .agg ls=>∃vs:List Value,v= .agg vs.toArray∧ap ρ B w ls vs
def ct (ρ:Rho) (B:Blk) (w:World):List SV→List Value→Prop
 | [],[]=>True
 | l::ls,v::vs=>l.holds ρ B w v∧ct ρ B w ls vs
 | _,_=>False
def AV.holds (ρ:Rho) (B:Blk) (w:World) (s:AV) (v:Value):Prop:=
 match s with
 | .v s=>s.holds ρ B w v
 | .tup xs=>∃vs:List Value,v= .tuple vs.toArray∧ct ρ B w xs vs
 | .any=>v=undef
section
variable {ρ:Rho} {B B':Blk} {w w':World} {g:Nat} {v:Value}
structure BLe (B B':Blk):Prop where
 v:∀x g,B.v x=some g→B'.v x=some g
 o:∀k g,B.o k g→B'.o k g
/-- B' has new variables only beyond n. -/
def p7 (n:Nat) (B B':Blk):Prop:=∀g,B'.has g→B.has g∨n≤g
def BOk (B:Blk) (n:Nat):Prop:=∀g,B.has g→g<n
theorem BLe.refl:BLe B B:=⟨fun _ _ h=>h,fun _ _ h=>h⟩
theorem p7.refl {n:Nat}:p7 n B B:=fun _ h=>.inl h
/-- No block belongs to two. -/
structure BInj (B:Blk):Prop where
 v:∀x y g,B.v x=some g→B.v y=some g→x=y
 o:∀k l g,B.o k g→B.o l g→k=l
 vo:∀x k g,B.v x=some g→¬B.o k g
theorem Leaf.holds.mono {l:Leaf} (h:l.holds ρ B w v) (hB:BLe B B') (hN:p7 w.heap.size B B') (hb:Below w.heap.size w w'):l.holds ρ B' w' v:=by
 cases l<;>simp only[Leaf.holds]at h⊢ <;>try exact h
 ·obtain⟨g,h1,h2⟩:=h;exact⟨g,hB.v _ _ h1,h2⟩
 ·obtain⟨s,h1,h2,h3⟩:=h
  obtain⟨c1,c2⟩:=s.ch _ _ _ _ h2 (.below hb) (fun _ _ h=>h)
  refine⟨s,h1,c1,fun g hg hx=> ?_⟩
  rcases hN g hx with h | h
  ·exact h3 g (c2 g hg) h
  ·have:=s.lt _ _ _ h2 (c2 g hg);omega
 ·obtain⟨s,h1,h2,h3,h4⟩:=h
  obtain⟨c1,c2⟩:=s.ch _ _ _ _ h2 (.below hb) (fun _ _ h=>h)
  exact⟨s,h1,c1,fun g hg=>hB.o _ _ (h3 g (c2 g hg)),fun g hg=>hB.o _ _ (h4 g hg)⟩
theorem Leaf.holds.upd {l:Leaf} (h:l.holds ρ B w v) (o:fq w g) (u:Upd w g w') (hx:∃x,B.v x=some g) (hi:BInj B):l.holds ρ B w' v:=by
 obtain⟨x,hx⟩:=hx
 cases l<;>simp only[Leaf.holds]at h⊢ <;>try exact h
 ·obtain⟨s,h1,h2,h3⟩:=h
  obtain⟨c1,c2⟩:=s.ch _ _ _ _ h2 (.upd o u) (fun k hk e=>by subst e;exact h3 _ hk (.inl ⟨x,hx⟩))
  exact⟨s,h1,c1,fun g hg=>h3 g (c2 g hg)⟩
 ·obtain⟨s,h1,h2,h3,h4⟩:=h
  obtain⟨c1,c2⟩:=s.ch _ _ _ _ h2 (.upd o u) (fun k hk e=>by subst e;exact hi.vo _ _ _ hx (h3 _ hk))
  exact⟨s,h1,c1,fun g hg=>h3 g (c2 g hg),h4⟩
theorem ap.all:∀ {ls:List Leaf} {vs:List Value},ap ρ B w ls vs→(∀(l:Leaf) (v:Value),Leaf.holds ρ B w l v→Leaf.holds ρ B' w' l v)→ap ρ B' w' ls vs
 | [],[],_,_=>trivial
 | _::_,_::_,h,f=>⟨f _ _ h.1,ap.all h.2 f⟩
 | [],_::_,h,_=>h.elim
 | _::_,[],h,_=>h.elim
theorem SV.holds.all {s:SV} (h:s.holds ρ B w v) (f:∀(l:Leaf) (v:Value),Leaf.holds ρ B w l v→Leaf.holds ρ B' w' l v):s.holds ρ B' w' v:=by
 cases s with
 | one l=>exact f _ _ h
 | agg ls=>obtain⟨vs,e,h⟩:=h;exact⟨vs,e,ap.all h f⟩
theorem ct.all:∀ {ls:List SV} {vs:List Value},ct ρ B w ls vs→(∀(l:Leaf) (v:Value),Leaf.holds ρ B w l v→Leaf.holds ρ B' w' l v)→ct ρ B' w' ls vs
 | [],[],_,_=>trivial
 | _::_,_::_,h,f=>⟨h.1.all f,ct.all h.2 f⟩
 | [],_::_,h,_=>h.elim
 | _::_,[],h,_=>h.elim
theorem AV.holds.all {s:AV} (h:s.holds ρ B w v) (f:∀(l:Leaf) (v:Value),Leaf.holds ρ B w l v→Leaf.holds ρ B' w' l v):s.holds ρ B' w' v:=by
 cases s with
 | v s=>exact SV.holds.all h f
 | tup ls=>obtain⟨vs,e,h⟩:=h;exact⟨vs,e,h.all f⟩
 | any=>exact h
theorem AV.holds.mono {s:AV} (h:s.holds ρ B w v) (hB:BLe B B') (hN:p7 w.heap.size B B') (hb:Below w.heap.size w w'):s.holds ρ B' w' v:=h.all (fun _ _ h=>h.mono hB hN hb)
theorem AV.holds.upd {s:AV} (h:s.holds ρ B w v) (o:fq w g) (u:Upd w g w') (hx:∃x,B.v x=some g) (hi:BInj B):s.holds ρ B w' v:=h.all (fun _ _ h=>h.upd o u hx hi)
theorem ap.len:∀ {ls:List Leaf} {vs:List Value},ap ρ B w ls vs→vs.length=ls.length
 | [],[],_=>rfl
 | _::_,_::_,h=>by simp[h.2.len]
 | [],_::_,h=>h.elim
 | _::_,[],h=>h.elim
theorem ap.get:∀ {ls:List Leaf} {vs:List Value} {k:Nat} {l:Leaf},ap ρ B w ls vs→ls[k]? =some l→∃v,vs[k]? =some v∧l.holds ρ B w v
 | [],[],_,_,_,h=>by simp at h
 | _::_,v::_,0,_,h,e=>by simp at e;subst e;exact⟨v,rfl,h.1⟩
 | _::ls,_::vs,k+1,l,h,e=>by
  obtain⟨u,h1,h2⟩:=ap.get (k:=k) (l:=l) h.2 (by simpa using e)
  exact⟨u,by simpa using h1,h2⟩
 | [],_::_,_,_,h,_=>h.elim
 | _::_,[],_,_,h,_=>h.elim
theorem ap.mk:∀ {ls:List Leaf} {vs:List Value},vs.length=ls.length→(∀(k:Nat) (l:Leaf) (v:Value),ls[k]? =some l→vs[k]? =some v→l.holds ρ B w v)→ap ρ B w ls vs
 | [],[],_,_=>trivial
 | l::ls,v::vs,e,h=>⟨h 0 l v rfl rfl,ap.mk (by simpa using e) (fun k l v h1 h2=>h (k+1) l v (by simpa using h1) (by simpa using h2))⟩
 | [],_::_,e,_=>by simp at e
 | _::_,[],e,_=>by simp at e
theorem ct.get:∀ {ls:List SV} {vs:List Value} {k:Nat} {l:SV},ct ρ B w ls vs→ls[k]? =some l→∃v,vs[k]? =some v∧l.holds ρ B w v
 | [],[],_,_,_,h=>by simp at h
 | _::_,v::_,0,_,h,e=>by simp at e;subst e;exact⟨v,rfl,h.1⟩
 | _::ls,_::vs,k+1,l,h,e=>by
  obtain⟨u,h1,h2⟩:=ct.get (k:=k) (l:=l) h.2 (by simpa using e)
  exact⟨u,by simpa using h1,h2⟩
 | [],_::_,_,_,h,_=>h.elim
 | _::_,[],_,_,h,_=>h.elim
theorem ap.append:∀ {ls ls':List Leaf} {vs vs':List Value},ap ρ B w ls vs→ap ρ B w ls' vs'→ap ρ B w (ls++ls') (vs++vs')
 | [],_,[],_,_,k=>k
 | _::_,_,_::_,_,h,k=>⟨h.1,ap.append h.2 k⟩
 | [],_,_::_,_,h,_=>h.elim
 | _::_,_,[],_,h,_=>h.elim
/-- Leaves that may lie in a variable. -/
def Leaf.flat:Leaf→Bool
 | .i .u32 _=>false
 | _=>true
theorem Leaf.holds.flat {l:Leaf} (h:l.holds ρ B w v) (hf:l.flat=true):gx v:=by
 cases l<;>simp only[Leaf.holds]at h
 ·subst h;exact⟨fun _ h=>by(cases h),fun _ h=>by(cases h),fun _ h=>by(cases h)⟩
 ·subst h
  rename_i k n
  exact⟨fun _ h=>by(cases h),fun _ h=>by(cases h),fun m h=>by
   injection h with h1 h2;subst h1;simp[Leaf.flat]at hf⟩
 ·obtain⟨g,_,h⟩:=h;subst h;exact⟨fun _ h=>by(cases h),fun _ h=>by(cases h),fun _ h=>by(cases h)⟩
 ·subst h;exact⟨fun _ h=>by(cases h),fun _ h=>by(cases h),fun _ h=>by(cases h)⟩
 ·obtain⟨s,_,h,_⟩:=h;exact s.fl _ _ h
 ·subst h;exact⟨fun _ h=>by(cases h),fun _ h=>by(cases h),fun _ h=>by(cases h)⟩
 ·subst h;exact⟨fun _ h=>by(cases h),fun _ h=>by(cases h),fun _ h=>by(cases h)⟩
 ·subst h;exact⟨fun _ h=>by(cases h),fun _ h=>by(cases h),fun _ h=>by(cases h)⟩
 ·obtain⟨s,_,h,_⟩:=h;exact s.fl _ _ h
end
/-- A constant as a leaf. -/
def mK:Value→Option Leaf
 | .bool x=>some (.b x)
 | .int k n=>some (.i k n)
 | .pointer none=>some .nilp
 | .slice none 0 0=>some .sl0
 | .string s=>some (.s s)
 | _=>none
theorem kg {ρ:Rho} {B:Blk} {w:World} {v:Value} {l:Leaf} (h:mK v=some l):l.holds ρ B w v:=by
 unfold mK at h
 split at h<;>first | (injection h with h;subst h;rfl) | cases h
def eM:List Value→Option (List Leaf)
 | []=>some []
 | v::vs=>match mK v,eM vs with
  | some l,some ls=>some (l::ls)
  | _,_=>none
theorem fb {ρ:Rho} {B:Blk} {w:World}:∀ {vs:List Value} {ls:List Leaf},eM vs=some ls→ap ρ B w ls vs
 | [],ls,h=>by simp[eM]at h;subst h;trivial
 | v::vs,ls,h=>by
  unfold eM at h
  cases h1:mK v with
  | none=>rw[h1]at h;simp at h
  | some l=>
   cases h2:eM vs with
   | none=>rw[h1,h2]at h;simp at h
   | some l2=>rw[h1,h2]at h;simp at h;subst h;exact⟨kg h1,fb h2⟩
def svC:Value→Option SV
 | .agg cs=>(eM cs.toList).map .agg
 | v=>(mK v).map .one
theorem sb {ρ:Rho} {B:Blk} {w:World} {v:Value} {s:SV} (h:svC v=some s):s.holds ρ B w v:=by
 unfold svC at h
 split at h
 ·rename_i cs
  cases h1:eM cs.toList with
  | none=>rw[h1]at h;cases h
  | some l=>rw[h1]at h;simp at h;subst h;exact⟨cs.toList,by simp,fb h1⟩
 ·cases h1:mK v with
  | none=>rw[h1]at h;cases h
  | some l=>rw[h1]at h;simp at h;subst h;exact kg h1
end Go.Proofs.YtfhinmdhjlmikaaDoor
