/- The contract of natural.Parse. Decimal digits; rows of bytes that grow by append. A row of bytes that is made whole. The contract of natural.Format. Regions that draw their order: a table of what each operation makes; one small proof for each operation. Short forms for tables: what has been found, what is put. The operations of regions that draw their order, one proof a kind: package natural, rows of digits, variables, constants. awake: the chapter's examples. Argument variables of the statements; sizes. The reference's digit and Trim. The reference's digit as an operation of a region that draws its order. The reference's Cmp. -/
import Derived.Test.YtfhinmdhjlmikaaDoorP03
import Derived.Deep.CutBlock
import Derived.Laws.IdiomStrings
namespace Go.Proofs.YtfhinmdhjlmikaaDoor
set_option linter.unusedSimpArgs false
set_option linter.unusedVariables false
set_option maxRecDepth 100000
open Go.RowKit
/-- Byte i of s. -/
def by' (s:ByteArray) (i:Nat):Nat:=if h:i<s.size then(s[i]'h).toNat else 0
theorem cK {s:ByteArray} {i:Nat} (h:i<s.size):(s[i]'h).toNat=by' s i:=by unfold by';rw[dif_pos h]
def aA (s:ByteArray):Nat→Nat
 | 0=>0
 | k+1=>10*aA s k+(by' s k - 48)
def bS (s:ByteArray) (k:Nat):Prop:=∀j,j<k→48≤by' s j∧by' s j≤57
def jw (W:World) (N:Nat) (c:Int) (e:Ending) (w':World):Prop:=∃v,e= .returned (.tuple #[v,.int .i64 c])∧aD W.heap.size w' v N∧Below W.heap.size W w'
/-- What Parse returns for s: the number N, the error c. -/
structure ParseIs (s:ByteArray) (N:Nat) (c:Int):Prop where
 short:s.size=0→N=0∧c=1
 long:400<s.size→N=0∧c=3
 zero:1<s.size→s.size≤400→by' s 0=48→N=0∧c=2
 bad:0<s.size→s.size≤400→¬bS s s.size→N=0∧c=2
 good:0<s.size→s.size≤400→(by' s 0=48→s.size=1)→bS s s.size→N=aA s s.size∧c=0
theorem j8 (s:ByteArray):∃N c,ParseIs s N c:=by
 by_cases h0:s.size=0
 ·exact⟨0,1,fun _=>⟨rfl,rfl⟩,fun h=>by omega,fun h=>by omega,fun h=>by omega,fun h=>by omega⟩
 ·by_cases h1:400<s.size
  ·exact⟨0,3,fun h=>by omega,fun _=>⟨rfl,rfl⟩,fun _ h=>by omega,fun _ h=>by omega,fun _ h=>by omega⟩
  ·by_cases h2:(1<s.size∧by' s 0=48)∨¬bS s s.size
   ·refine⟨0,2,fun h=>by omega,fun h=>by omega,fun _ _ _=>⟨rfl,rfl⟩,fun _ _ _=>⟨rfl,rfl⟩,fun _ _ hz hg=> ?_⟩
    rcases h2 with⟨h3,h4⟩ | h2
    ·have:=hz h4;omega
    ·exact absurd hg h2
   ·have h3:¬(1<s.size∧by' s 0=48):=fun h=>h2 (.inl h)
    have h4:bS s s.size:=Classical.byContradiction fun h=>h2 (.inr h)
    exact⟨aA s s.size,0,fun h=>by omega,fun h=>by omega,fun a _ b=>absurd ⟨a,b⟩ h3,fun _ _ h=>absurd h4 h,fun _ _ _ _=>⟨rfl,rfl⟩⟩
theorem go (w:World):Below w.heap.size w (w.alloc (.cells #[.slice none 0 0] 24))∧aF (w.alloc (.cells #[.slice none 0 0] 24)) w.heap.size none 0 0:=
 ⟨(Below.refl _ _).alloc (Nat.le_refl _) _,aF.made w none 0 0⟩
theorem cB {s:ByteArray} (h:s.size≠0):s.toList.isEmpty=false:=by
 rw[ByteArray.toList_eq]
 cases hs:s.data.toList with
 | nil=>
  exfalso;apply h
  have:=congrArg List.length hs
  rw[Array.length_toList]at this
  exact this
 | cons _ _=>rfl
theorem iG {s:ByteArray} (h:s.size=0):s.toList.isEmpty=true:=by
 rw[ByteArray.toList_eq]
 have:s.data.toList=[]:=List.eq_nil_of_length_eq_zero (by rw[Array.length_toList];exact h)
 rw[this];rfl
theorem mn (s:ByteArray) (w:World) (h0:s.size=0):Calls Tryd.prog 44 #[.string s] w fun e w'=>jw w 0 1 e w':=by
 obtain⟨hb,v2⟩:=go w
 have he:=iG h0
 have c2:=v2.cell
 have f2:=v2.frozen
 go_enter Tryd.func44,Tryd.ntmps44
 go_wp2
 exact bodyPost_ret (bj rfl _ _ w.heap.size (.slice none 0 0) (.int .i64 1) rfl rfl (by simp[go_sem])) rfl ⟨_,rfl,aD.of_zero,by first | exact hb | exact hb.setCell (Nat.le_refl _) _⟩
theorem nE (s:ByteArray) (w:World) (h0:400<s.size):Calls Tryd.prog 44 #[.string s] w fun e w'=>jw w 0 3 e w':=by
 obtain⟨hb,v2⟩:=go w
 have he:=cB (s:=s) (by omega)
 have hl:(400:Int)<(s.size:Int):=by omega
 go_enter Tryd.func44,Tryd.ntmps44
 go_wp2
 exact bodyPost_ret (bj rfl _ _ w.heap.size (.slice none 0 0) (.int .i64 3) rfl rfl (by simp[go_sem])) rfl ⟨_,rfl,aD.of_zero,by first | exact hb | exact hb.setCell (Nat.le_refl _) _⟩
theorem nF (s:ByteArray) (w:World) (h0:1<s.size) (h1:s.size≤400) (hz:by' s 0=48):Calls Tryd.prog 44 #[.string s] w fun e w'=>jw w 0 2 e w':=by
 obtain⟨hb,v2⟩:=go w
 have he:=cB (s:=s) (by omega)
 have hl:¬(400:Int)<(s.size:Int):=by omega
 have hp:0<s.size:=by omega
 have hz':(((s[0]'hp).toNat:Nat):Int)=48:=by rw[cK,hz];rfl
 have h0':(1:Int)<(s.size:Int):=by omega
 go_enter Tryd.func44,Tryd.ntmps44
 go_wp2
 exact bodyPost_ret (bj rfl _ _ w.heap.size (.slice none 0 0) (.int .i64 2) rfl rfl (by simp[go_sem])) rfl ⟨_,rfl,aD.of_zero,by first | exact hb | exact hb.setCell (Nat.le_refl _) _⟩
theorem GR.newN {w w':World} {base L c N:Nat} {a:Option Addr} (h:GR w base (.slice a L c) L N) (hb:Below w.heap.size w w'):aD base w' (.agg #[.slice a (nl N) (nl N)]) N:=by
 obtain⟨a',c',e,hLc,hrw,hown⟩:=h.open
 cases e
 have hl:nl N≤L:=az.2 h.1
 refine⟨a,nl N,rfl,Nat.le_refl _,fun hL=> ?_⟩
 obtain⟨g,rfl,hg,hgs,hf⟩:=hown (by omega)
 obtain⟨b,o,e,hd⟩:=hrw.cells (by omega)
 cases e
 exact⟨g,0,rfl,hg,fun j hj=>(hb.cell (p:=⟨g,0+j,none⟩) hgs).trans (hd j (by omega)),fun j hj=>(hb.frozen (p:=⟨g,0+j,none⟩) hgs).trans (hf _)⟩
set_option maxHeartbeats 1000000 in
theorem nG (s:ByteArray) (w:World) (N:Nat) (c:Int) (h0:0<s.size) (h1:s.size≤400) (hz:by' s 0=48→s.size=1) (hgood:bS s s.size→N=aA s s.size∧c=0) (hbad:¬bS s s.size→N=0∧c=2):
  Calls Tryd.prog 44 #[.string s] w fun e w'=>jw w N c e w':=by
 obtain⟨hb,v2⟩:=go w
 have he:=cB (s:=s) (by omega)
 have hl:¬(400:Int)<(s.size:Int):=by omega
 have HG:=Lib.hid hgood
 have HB:=Lib.hid hbad
 clear hgood hbad
 go_enter Tryd.func44,Tryd.ntmps44
 go_upto_block 0 with(fail)
 go_cut [3] (fun s3 wx=>s3= .int .i64 0∧Below w.heap.size w wx∧aF wx w.heap.size none 0 0)
 case first=>
  by_cases hz0:by' s 0=48
  ·have hs1:=hz hz0
   have hz':(((s[0]'h0).toNat:Nat):Int)=48:=by rw[cK,hz0];rfl
   have h0':¬(1:Int)<(s.size:Int):=by omega
   clear hz hz0
   go_wp2_with fail
   go_meet
   case rel=>exact⟨rfl,hb,v2⟩
  ·have hz':¬(((s[0]'h0).toNat:Nat):Int)=48:=by rw[cK];omega
   clear hz hz0
   go_wp2_with fail
   go_meet
   case rel=>exact⟨rfl,hb,v2⟩
 case rest=>
  obtain⟨rfl,hb0,v0⟩:=hcut
  clear hb v2 hz
  go_wp2_with fail
  go_loopw [4,30] (fun s4 s30 wr=>∃k L,k≤s.size∧L≤k∧s30= .int .i64 (k:Nat)∧Hid (bS s k)∧GR wr (w.heap.size+1) s4 L (aA s k)∧Below (w.heap.size+1) wc wr∧w.heap.size+1≤wr.heap.size)
   (fun _ i _=>s.size - (intOf i).toNat)
  case atStart=>exact⟨0,0,Nat.zero_le _,Nat.le_refl _,rfl,Lib.hid (fun j h=>by omega),GR.nil _ _,Below.refl _ _,v0.lt⟩
  case round=>
   obtain⟨k,L,hk,hL,rfl,HR,hgr,hbr,hsz⟩:=hrel
   have vr:=v0.mono hbr (Nat.lt_succ_self _)
   have cr:=vr.cell
   have fr:=vr.frozen
   by_cases hlt:k<s.size
   ·by_cases hlo:by' s k<48
    ·have hx:(((s[k]'hlt).toNat:Nat):Int)<48:=by rw[cK];omega
     obtain⟨rfl,rfl⟩:=HB.out (fun h=>by have:=(h k hlt).1;omega)
     clear HB HG HR
     go_wp2
     exact bodyPost_ret (bj rfl _ _ w.heap.size (.slice none 0 0) (.int .i64 2) rfl rfl vr.set.cell) rfl ⟨_,rfl,aD.of_zero,(hb0.trans (hbr.mono (by omega))).setCell (Nat.le_refl _) _⟩
    ·by_cases hhi:57<by' s k
     ·have hx:¬(((s[k]'hlt).toNat:Nat):Int)<48:=by rw[cK];omega
      have hy:(57:Int)<(((s[k]'hlt).toNat:Nat):Int):=by rw[cK];omega
      obtain⟨rfl,rfl⟩:=HB.out (fun h=>by have:=(h k hlt).2;omega)
      clear HB HG HR
      go_wp2
      exact bodyPost_ret (bj rfl _ _ w.heap.size (.slice none 0 0) (.int .i64 2) rfl rfl vr.set.cell) rfl ⟨_,rfl,aD.of_zero,(hb0.trans (hbr.mono (by omega))).setCell (Nat.le_refl _) _⟩
     ·have hx:¬(((s[k]'hlt).toNat:Nat):Int)<48:=by rw[cK];omega
      have hy:¬(57:Int)<(((s[k]'hlt).toNat:Nat):Int):=by rw[cK];omega
      obtain⟨a,c',rfl,hLc,hrw,hown⟩:=hgr.open
      have hB:(((s[k]'hlt).toNat:Nat):Int) - 48=((by' s k - 48:Nat):Int):=by rw[cK];omega
      have hd9:by' s k - 48≤9:=by omega
      have HD:=Lib.hid (show bS s (k+1)from fun j hj=>by
       rcases Nat.lt_or_ge j k with h | h
       ·exact HR.out j h
       ·rw[show j=k by omega];omega)
      have HP:=Lib.hid (show aA s (k+1)=10*aA s k+(by' s k - 48)from rfl)
      clear hlo hhi
      generalize hdd:by' s k - 48=d at *
      clear hdd
      have hL6:L≤400:=by omega
      generalize aA s k=V at *
      go_wp2_with fail
      go_loopw [6,51] (fun s6 s51 wq=>∃i,i≤L∧s51= .int .i64 (i:Nat)∧s6= .int .u64 ((maC V d i:Nat):Int)∧GR wq (w.heap.size+1) (.slice a L c') L (g8 V d i)∧Below (w.heap.size+1) wc wq∧w.heap.size+1≤wq.heap.size)
       (fun _ i _=>L - (intOf i).toNat)
      case atStart=>exact⟨0,Nat.zero_le _,rfl,by rw[tn],by rw[rR];exact hgr,hbr,hsz⟩
      case round=>
       obtain⟨i,hi,rfl,rfl,hgq,hbq,hsq⟩:=hrel
       have hcl:=xH V d i hd9
       by_cases hlt2:i<L
       ·obtain⟨g,rfl,hg,hgs,hf⟩:=hown (by omega)
        obtain⟨st1,st2,st3⟩:=vZ V d i
        obtain⟨a2,c2,e2,hLc2,hrw2,hown2⟩:=hgq.open
        cases e2
        obtain⟨g',e3,_,_,hf2⟩:=hown2 (by omega)
        cases e3
        obtain⟨b1,o1,e4,hdg⟩:=hrw2.cells (by omega)
        cases e4
        have c1:=hdg i hlt2
        rw[st3,Nat.zero_add]at c1
        have f1:=hf2 i
        have hdx:=bO V i
        have htl:(D V i*10+maC V d i) % 4294967296<4294967296:=Nat.mod_lt _ (by decide)
        have hst:=hgq.store (p:=i) hlt2 htl
        rw[st1]at hst
        have ST2:=Lib.hid st2
        have HST:=Lib.hid hst
        have hbs:=hbq.setCell (p:=⟨g,i,none⟩) hg (.int .u32 (((D V i*10+maC V d i) % 4294967296:Nat):Int))
        clear st1 st2 st3 hst
        go_wp2_with fail
        have q1:((D V i:Nat):Int)*10+((maC V d i:Nat):Int)=((D V i*10+maC V d i:Nat):Int):=by omega
        have q2:((D V i*10+maC V d i:Nat):Int) % 4294967296=(((D V i*10+maC V d i) % 4294967296:Nat):Int):=by omega
        have q3:((D V i*10+maC V d i:Nat):Int) / 4294967296=(((D V i*10+maC V d i) / 4294967296:Nat):Int):=by omega
        rw[q1,q2,q3]
        go_roundw
        case rel=>exact⟨i+1,by omega,by go_num,by rw[ST2.out],HST.out,hbs,by simpa using hsq⟩
        case measure=>simp[intOf];omega
       ·obtain rfl:i=L:=by omega
        have hend:=xI V d i hgr.1
        by_cases hc0:maC V d i=0
        ·rw[hc0,Nat.zero_mul,Nat.add_zero]at hend
         rw[hend]at hgq
         have hc0':¬(0:Int)<((maC V d i:Nat):Int):=by omega
         clear hend hc0
         go_wp2_with fail
         go_roundw
         case rel=>exact⟨k+1,i,by omega,by omega,by go_num,HD,by rw[HP.out];exact hgq,hbq,hsq⟩
         case measure=>simp[intOf];omega
        ·have hc0':(0:Int)<((maC V d i:Nat):Int):=by omega
         have HE:=Lib.hid hend
         clear hend hc0
         go_wp2_with (at_builtin;refine bH rfl _ _ rfl (w.heap.size+1) (.slice a i c') i (g8 V d i) (maC V d i) rfl hgq hsq rfl (by omega) (by omega) ?_)
         intro v' w' hg' hb' hs'
         rw[HE.out]at hg'
         go_wp2_with fail
         go_roundw
         case rel=>exact⟨k+1,i+1,by omega,by omega,by go_num,HD,by rw[HP.out];exact hg',hbq.trans hb',hs'⟩
         case measure=>simp[intOf];omega
   ·obtain rfl:k=s.size:=by omega
    obtain⟨rfl,rfl⟩:=HG.out HR.out
    obtain⟨a,c',rfl,hLc,hrw,hown⟩:=hgr.open
    clear HB HG HR
    go_wp2_with fail
    refine(eg a L c' (aA s s.size) _ (by omega) hLc hrw).mono ?_
    rintro e w2 ⟨rfl,hb2⟩
    have v2:=vr.mono hb2 vr.lt
    have c2:=v2.cell
    have f2:=v2.frozen
    have hn:=(hgr.newN hb2).setVar (u:=.slice a (nl (aA s s.size)) (nl (aA s s.size))) v2
    go_wp2
    exact bodyPost_ret (bj rfl _ _ w.heap.size _ (.int .i64 0) rfl rfl v2.set.cell) rfl ⟨_,rfl,hn.weaken (Nat.le_succ _),((hb0.trans (hbr.mono (by omega))).trans (hb2.mono (by omega))).setCell (Nat.le_refl _) _⟩
theorem kA (s:ByteArray) (w:World) (N:Nat) (c:Int) (h:ParseIs s N c):Calls Tryd.prog 44 #[.string s] w fun e w'=>jw w N c e w':=by
 by_cases h0:s.size=0
 ·obtain⟨rfl,rfl⟩:=h.short h0;exact mn s w h0
 ·by_cases h1:400<s.size
  ·obtain⟨rfl,rfl⟩:=h.long h1;exact nE s w h1
  ·by_cases h2:1<s.size∧by' s 0=48
   ·obtain⟨rfl,rfl⟩:=h.zero h2.1 (by omega) h2.2;exact nF s w h2.1 (by omega) h2.2
   ·have hz:by' s 0=48→s.size=1:=fun e=>by
     rcases Nat.lt_or_ge 1 s.size with h' | h'
     ·exact absurd ⟨h',e⟩ h2
     ·omega
    exact nG s w N c (by omega) (by omega) hz (h.good (by omega) (by omega) hz) (h.bad (by omega) (by omega))
end Go.Proofs.YtfhinmdhjlmikaaDoor
namespace Go.Proofs.YtfhinmdhjlmikaaDoor
set_option linter.unusedSimpArgs false
set_option linter.unusedVariables false
set_option maxRecDepth 100000
open Go.RowKit
/-- The decimal digits of N as bytes, the least one first; none for 0. -/
def bX (N:Nat):List UInt8:=if h:N=0 then []else UInt8.ofNat (48+N % 10)::bX (N / 10)
termination_by N
decreasing_by omega
theorem dK:bX 0=[]:=by rw[bX];rfl
theorem ek {N:Nat} (h:N≠0):bX N=UInt8.ofNat (48+N % 10)::bX (N / 10):=by rw[bX,dif_neg h]
theorem tp (N k:Nat) (h:N<10^k):(bX N).length≤k:=by
 induction k generalizing N with
 | zero=>
  have:N=0:=by simpa using h
  rw[this,dK];simp
 | succ k ih=>
  by_cases h0:N=0
  ·rw[h0,dK];simp
  ·rw[ek h0]
   have:=ih (N / 10) (by rw[Nat.div_lt_iff_lt_mul (by decide)];rw[Nat.pow_succ]at h;exact h)
   simp only[List.length_cons];omega
theorem fK (N:Nat):(bX N).length≤10*nl N:=by
 refine tp N _ (Nat.lt_of_lt_of_le (cH N) ?_)
 rw[Nat.pow_mul]
 exact Nat.pow_le_pow_left (by decide) _
def bL (l:List UInt8):List Value:=l.map fun b=>Value.int .u8 (b.toNat:Int)
theorem tr:(Tryd.prog.info? 5).map (fun i=>(i.zero,i.size,i.bytes))=some (some (.int .u8 0),1,1):=by kernel_rfl
/-- v is a slice of the bytes l, in memory of the call's own from block 'base' on. -/
def BR (w:World) (base:Nat) (v:Value) (l:List UInt8):Prop:=w.ownsRow base 5 1 v l.length (bL l)
theorem BR.nil (w:World) (base:Nat):BR w base (.slice none 0 0) []:=World.ownsRow_nil _ _ _ _
theorem BR.open {w:World} {base:Nat} {v:Value} {l:List UInt8} (h:BR w base v l):
  ∃a c,v= .slice a l.length c∧l.length≤c∧(0<l.length→∃g,a=some ⟨g,0,none⟩∧base≤g∧g<w.heap.size∧∀j (hj:j<l.length),w.cell? ⟨g,j,none⟩=some (.int .u8 ((l[j]'hj).toNat:Int))):=by
 rcases h.2 with⟨rfl,h0⟩ | ⟨g,c,cur,rfl,hb,hg,hnc,hcm,hcs,htake⟩
 ·exact⟨none,0,by rw[h0],by omega,fun hL=>by omega⟩
 ·refine⟨some ⟨g,0,none⟩,c,rfl,hnc,fun hL=>⟨g,rfl,hb,(Array.getElem?_eq_some_iff.1 hg).1,fun j hj=> ?_⟩⟩
  rw[cell_of_row w g j cur _ (0,0) hg]
  have h1:(cur.toList.take (l.length*1))[j]? =some (.int .u8 ((l[j]'hj).toNat:Int)):=by rw[htake];simp[bL,hj]
  rw[List.getElem?_take]at h1
  split at h1
  ·simpa using h1
  ·cases h1
theorem BR.keep {w w':World} {base:Nat} {v:Value} {l:List UInt8} (h:BR w base v l) (hg:w.grownBy w' none):BR w' base v l:=World.ownsRow.kept h hg (by cases hv:v.ownBlock<;>simp)
/-- 'l = append(l, b)': one byte more. -/
theorem eK {w0:World} {ops:Array Oper} {rest:List Oper} {o:Oper} {a:Act} {Q:Exit→Act→World→Prop}
  (hg:o.guard=none) (s x:Operand) (hop:o.op=Op.call {callee:=Callee.builtin Builtin.append,args:=#[s,x],argTypes:=#[91,91]})
  (base:Nat) (v:Value) (l:List UInt8) (b:UInt8) (e0:Int) (he0:e0=(b.toNat:Int)) (hs:a.eval s=v) (hgr:BR w0 base v l) (hbase:base≤w0.heap.size) (hx:a.eval x= .slice (some ⟨w0.heap.size,0,none⟩) 1 1) (hL:l.length+1≤30000000000000)
  (hK:∀v' w',BR w' base v' (l++ [b])→Below base w0 w'→base≤w'.heap.size→w0.grownBy w' v.ownBlock→wpList Tryd.prog ops Q rest (a.put o.dst v') w'):
  wpList Tryd.prog ops Q (o::rest) a (w0.alloc (.cells #[.int .u8 e0] 5)):=by
 subst he0
 obtain⟨i,hi,hz0,hz1,hz2⟩:=info_parts tr
 have hgr':=hgr.keep (World.grownBy_alloc w0 (.cells #[.int .u8 (b.toNat:Int)] 5) none)
 have hb1:Below base w0 (w0.alloc (.cells #[.int .u8 (b.toNat:Int)] 5)):=(Below.refl _ _).alloc hbase _
 refine wpList_append_own _ hg s x 91 hop base 5 i (.int .u8 0) 1 1 Tryd.underlying91 hi hz0 hz1 hz2 rfl (by decide) v l.length (bL l) hs hgr'
  ⟨w0.heap.size,0,none⟩ 1 1 [.int .u8 (b.toNat:Int)] hx rfl ?_ ?_ (by simp only[maxLen];omega) (by omega) (Nat.le_trans hbase hb1.size) ?_
 ·intro j u hj
  match j,hj with
  | 0,hj=>simp at hj;subst hj;simp[Addr.add]
  | (j+1),hj=>simp at hj
 ·intro u hu;simp at hu;subst hu;rfl
 ·intro v' w' ho hgb _
  refine hK v' w' ?_ (hb1.grown hgb (Nat.le_trans hbase hb1.size) (fun k hk=>(World.ownsRow.lt hgr' k hk).1)) (Nat.le_trans hbase (Nat.le_trans hb1.size hgb.size)) ?_
  rotate_left
  ·exact⟨hgb.os,hgb.tape,hgb.output,Nat.le_trans hb1.size hgb.size,fun k hk hne=>(hgb.block k (Nat.lt_of_lt_of_le hk hb1.size) hne).trans (World.grownBy_alloc w0 _ none |>.block k hk (by simp))⟩
  unfold BR
  have e:bL (l++ [b])=bL l++ [.int .u8 (b.toNat:Int)]:=by simp[bL]
  rw[e,List.length_append]
  exact ho
/-- The row at x lies below 'base', or in a block of digits. -/
def iH (w:World) (base:Nat) (x:Option Addr) (L:Nat):Prop:=0<L→∃g o,x=some ⟨g,o,none⟩∧g<w.heap.size∧(g<base∨∃cur,w.heap[g]? =some (.cells cur 78 (0,0)))
theorem iH.ne {w:World} {base L:Nat} {x:Option Addr} {v:Value} {l:List UInt8} (h:iH w base x L) (hb:BR w base v l) (hL:0<L):∀g o,x=some ⟨g,o,none⟩→some g≠v.ownBlock:=by
 intro g o hx e
 obtain⟨g',o',hx',_,h'⟩:=h hL
 rw[hx]at hx'
 cases hx'
 rcases hb.2 with⟨rfl,_⟩ | ⟨k,c,cur,rfl,hk,hg,_⟩
 ·cases e
 ·simp only[Value.ownBlock,Option.some.injEq]at e
  subst e
  rcases h' with h' | ⟨cur',h'⟩
  ·omega
  ·rw[hg]at h';cases h'
theorem iH.append {w w':World} {base L N:Nat} {x:Option Addr} {v:Value} {l:List UInt8} (h:iH w base x L) (hr:Rw w x L N) (hb:BR w base v l) (hg:w.grownBy w' v.ownBlock):iH w' base x L∧Rw w' x L N:=by
 refine⟨fun hL=> ?_,hr.lt,fun hL=> ?_⟩
 ·obtain⟨g,o,hx,hlt,h'⟩:=h hL
  have hne:=h.ne hb hL g o hx
  refine⟨g,o,hx,Nat.lt_of_lt_of_le hlt hg.size,?_⟩
  rcases h' with h' | ⟨cur',h'⟩
  ·exact .inl h'
  ·exact .inr ⟨cur',(hg.block g hlt hne).trans h'⟩
 ·obtain⟨b,o,hx,hd⟩:=hr.cells hL
  exact⟨b,o,hx,hd.kept hg (h.ne hb hL b o hx)⟩
theorem Rw.norm {w:World} {a:Option Addr} {L N:Nat} (h:Rw w a L N):Rw w a (nl N) N:=⟨cH N,fun hL=>by
 have hl:nl N≤L:=az.2 h.lt
 obtain⟨b,o,hx,hd⟩:=h.cells (by omega)
 exact⟨b,o,hx,fun j hj=>hd j (by omega)⟩⟩
theorem iH.of_own {w:World} {base g L N M:Nat} (h:aP w g L N):iH w base (some ⟨g,0,none⟩) M:=fun _=>by
 obtain⟨_,cur,hg,_⟩:=h
 exact⟨g,0,rfl,(Array.getElem?_eq_some_iff.1 hg).1,.inr ⟨cur,hg⟩⟩
theorem iH.of_low {w:World} {L N:Nat} {x:Option Addr} (h:Rw w x L N):iH w w.heap.size x L:=fun hL=>by
 obtain⟨b,o,hx,hd⟩:=h.cells hL
 exact⟨b,o,hx,hd.lt hL,.inl (hd.lt hL)⟩
noncomputable def valOf (w:World) (v:Value):Nat:=Classical.epsilon (IsN w v)
theorem IsN.valOf {w:World} {v:Value} {N:Nat} (h:IsN w v N):valOf w v=N:=(Classical.epsilon_spec (p:=IsN w v) ⟨N,h⟩).unique h
end Go.Proofs.YtfhinmdhjlmikaaDoor
namespace Go.Proofs.YtfhinmdhjlmikaaDoor
set_option linter.unusedSimpArgs false
set_option linter.unusedVariables false
set_option maxRecDepth 100000
open Go.RowKit
def jx (w:World) (g:Nat) (l:List UInt8):Prop:=∃cur:Array Value,w.heap[g]? =some (.cells cur 5 (0,0))∧cur.toList=bL l
def tu (n:Nat):Obj:=.cells (madeCells #[.int .u8 0] n) 5
theorem jx.made (w:World) (n:Nat):jx (w.alloc (tu n)) w.heap.size (List.replicate n 0):=by
 refine⟨madeCells #[.int .u8 0] n,heap_alloc_new w _,?_⟩
 simp only[madeCells,Array.toList_map,Array.toList_range,bL]
 apply List.ext_getElem
 ·simp
 ·intro i h1 h2
  simp[Nat.mod_one]
theorem jx.lt {w:World} {g:Nat} {l:List UInt8} (h:jx w g l):g<w.heap.size:=by
 obtain⟨cur,hg,_⟩:=h
 exact(Array.getElem?_eq_some_iff.1 hg).1
theorem jx.cell {w:World} {g:Nat} {l:List UInt8} (h:jx w g l) {p:Nat} (hp:p<l.length):w.cell? ⟨g,p,none⟩=some (.int .u8 ((l[p]'hp).toNat:Int)):=by
 obtain⟨cur,hg,hc⟩:=h
 rw[cell_of_row w g p cur _ (0,0) hg,←Array.getElem?_toList,hc]
 simp[bL,hp]
theorem jx.frozen {w:World} {g:Nat} {l:List UInt8} (h:jx w g l) (p:Nat):w.frozen? ⟨g,p,none⟩=false:=by
 obtain⟨cur,hg,hc⟩:=h
 exact frozen_of_row w g p cur _ hg
theorem jx.store {w:World} {g p:Nat} {l:List UInt8} {b:UInt8} (h:jx w g l):jx (w.setCell ⟨g,p,none⟩ (.int .u8 (b.toNat:Int))) g (l.set p b):=by
 obtain⟨cur,hg,hc⟩:=h
 refine⟨cur.setIfInBounds p (.int .u8 (b.toNat:Int)),heap_setCell_same w g p cur _ _ hg,?_⟩
 rw[Array.toList_setIfInBounds,hc]
 simp[bL,List.map_set]
theorem iI {w:World} {ops:Array Oper} {rest:List Oper} {o:Oper} {a:Act} {Q:Exit→Act→World→Prop}
  (hg:o.guard=none) (l c:Operand) (hop:o.op=Op.makeSlice 91 l c)
  (kl kc:IntKind) (L C:Int) (n:Nat) (hl:a.eval l= .int kl L) (hc:a.eval c= .int kc C) (hL:L=(n:Int)) (hC:C=(n:Int)) (hn:n≤60000000000000)
  (hK:wpList Tryd.prog ops Q rest (a.put o.dst (.slice (some ⟨w.heap.size,0,none⟩) n n)) (w.alloc (tu n))):
  wpList Tryd.prog ops Q (o::rest) a w:=by
 refine wpList_plain hg fun K hK'=> ?_
 obtain⟨i,hi,hz0,hz1,hz2⟩:=info_parts tr
 subst hL;subst hC
 have hrun:=run_make (P:=Tryd.prog) w 91 5 i (.int .u8 0) Tryd.underlying91 hi hz0 kl kc n n (by omega) (Int.le_refl _) (by rw[hz2];omega) (by omega)
 rw[hz1,Nat.mul_one]at hrun
 simp only[Int.toNat_natCast]at hrun
 unfold Oper.wp
 simp[execOp,hop,hl,hc,hrun,Result.andThen]
 exact hK' _ _ hK
/-- The reversed row, when i bytes are done. -/
def mo (l:List UInt8) (i:Nat):List UInt8:=List.replicate (l.length - i) 0++(l.take i).reverse
theorem tv (l:List UInt8) (i:Nat) (hi:i≤l.length):(mo l i).length=l.length:=by unfold mo;simp;omega
theorem rS (l:List UInt8):mo l 0=List.replicate l.length 0:=by unfold mo;simp
theorem tw (l:List UInt8):mo l l.length=l.reverse:=by unfold mo;simp
theorem rT (l:List UInt8) (i:Nat) (hi:i<l.length):(mo l i).set (l.length - 1 - i) (l[i]'hi)=mo l (i+1):=by
 unfold mo
 have e:l.take (i+1)=l.take i++ [l[i]]:=by rw[List.take_succ_eq_append_getElem hi]
 rw[e,List.reverse_append]
 obtain⟨k,hk⟩:∃k,l.length - i=k+1:=⟨l.length - i - 1,by omega⟩
 rw[hk,show l.length - 1 - i=k by omega,show l.length - (i+1)=k by omega,List.replicate_succ']
 rw[List.append_assoc,List.set_append_right _ _ (by simp)]
 simp
end Go.Proofs.YtfhinmdhjlmikaaDoor
namespace Go.Proofs.YtfhinmdhjlmikaaDoor
set_option linter.unusedSimpArgs false
set_option linter.unusedVariables false
set_option maxRecDepth 100000
open Go.RowKit
/-- What is left to print: V chunks away, r of the chunk at hand with p places. -/
theorem pV {V r p:Nat} (h:¬(r=0∧V=0)) (hp:0<p):V*10^p+r≠0∧(V*10^p+r) % 10=r % 10∧(V*10^p+r) / 10=V*10^(p - 1)+r / 10:=by
 obtain⟨q,rfl⟩:∃q,p=q+1:=⟨p - 1,by omega⟩
 have h10:0<10^q:=Nat.pow_pos (by decide)
 rw[Nat.pow_succ,Nat.add_sub_cancel]
 refine⟨fun h0=>h ?_,?_,?_⟩
 ·have h1:r=0:=by omega
  have h2:V*(10^q*10)=0:=by omega
  rcases Nat.mul_eq_zero.1 h2 with h3 | h3
  ·exact⟨h1,h3⟩
  ·omega
 ·rw[←Nat.mul_assoc,Nat.mul_comm,Nat.mul_add_mod]
 ·rw[←Nat.mul_assoc,Nat.mul_comm,Nat.mul_add_div (by decide)]
def Fits (r p:Nat):Prop:=r<10^p
def aM (N:Nat):ByteArray:=if N=0 then⟨#[48]⟩else⟨(bX N).reverse.toArray⟩
set_option maxRecDepth 100000 in
theorem jy (va:Value) (N:Nat) (w:World) (ha:IsN w va N) (hm:nl N≤1000000000000):
  Calls Tryd.prog 50 #[va] w fun e w'=>bE w (.string (aM N)) e w':=by
 obtain⟨a,ca,rfl,hca,ra⟩:=ha
 have hw:Below w.heap.size w (w.alloc (.cells #[.slice a (nl N) ca] 24)):=(Below.refl _ _).alloc (Nat.le_refl _) _
 have ra0:=ra.mono hw
 have hlen:=fK N
 go_enter Tryd.func50,Tryd.ntmps50
 go_wp2_with fail
 refine(cT a (nl N) ca N _ (by omega) hca ra0).mono ?_
 rintro e w1 ⟨rfl,rfl⟩
 go_upto_region 2 with(fail)
 go_cut [3,4] (fun s3 s4 wx=>s3= .slice a (nl N) (nl N)∧s4= .slice none 0 0∧Below w.heap.size w wx∧Rw wx a (nl N) N)
 case first=>
  go_wp2_with fail
  go_meet
  case rel=>exact⟨rfl,rfl,hw,ra0.norm⟩
 case rest=>
  obtain⟨rfl,rfl,hb0,ra1⟩:=hcut
  clear hw ra0 ra
  have hsafe:=iH.of_low ra1
  go_wp2_with fail
  go_loopw [3,4] (fun s3 s4 wr=>∃V x l,s3= .slice x (nl V) (nl V)∧V≤N∧Rw wr x (nl V) V∧iH wr wc.heap.size x (nl V)∧BR wr wc.heap.size s4 l∧Hid (bX N=l++bX V)∧Below wc.heap.size wc wr∧wc.heap.size≤wr.heap.size)
   (fun s3 _ wr=>valOf wr (.agg #[s3]))
  case atStart=>exact⟨N,a,[],rfl,Nat.le_refl _,ra1,hsafe,BR.nil _ _,Lib.hid (by simp),Below.refl _ _,Nat.le_refl _⟩
  case round=>
   obtain⟨V,x,l,rfl,hVN,hrx,hsx,hbl,HL,hbr,hsz⟩:=hrel
   have hnv:=cF hVN
   by_cases hV:V=0
   ·subst hV
    obtain⟨y,cy,rfl,hcy,hys⟩:=hbl.open
    rw[dK,List.append_nil]at HL
    simp only[aK]
    by_cases hl0:l=[]
    ·subst hl0
     have hN0:N=0:=Classical.byContradiction fun h=>by have:=HL.out;rw[ek h]at this;cases this
     subst hN0
     go_wp2
     go_ret
     exact⟨by unfold aM;simp,hb0.trans (hbr.mono hb0.size)⟩
    ·have hlp:0<l.length:=List.length_pos_iff.2 hl0
     have hN0:N≠0:=fun h=>hl0 (by have:=HL.out;rw[h,dK]at this;exact this.symm)
     have HN0:=Lib.hid hN0
     have hl10:l.length≤10*nl N:=by rw[←HL.out];exact hlen
     clear hl0 hN0 hrx hsx
     obtain⟨g1,rfl,hg1,hg1s,hcells⟩:=hys hlp
     have hmade:=jx.made wr l.length
     rw[←rS]at hmade
     have hbm:Below wr.heap.size wr (wr.alloc (tu l.length)):=(Below.refl _ _).alloc (Nat.le_refl _) _
     go_wp2_with (at_make;refine iI rfl _ _ rfl _ _ _ _ l.length rfl rfl rfl rfl (by omega) ?_)
     go_loopw [50] (fun s50 wq=>∃i,i≤l.length∧s50= .int .i64 (i:Nat)∧jx wq wr.heap.size (mo l i)∧Below wr.heap.size wr wq)
      (fun i _=>l.length - (intOf i).toNat)
     case atStart=>exact⟨0,Nat.zero_le _,rfl,hmade,hbm⟩
     case round=>
      obtain⟨i,hi,rfl,how,hbw⟩:=hrel
      have hcw:∀j (hj:j<l.length),wr.cell? ⟨g1,j,none⟩=some (.int .u8 ((l[j]'hj).toNat:Int)):=fun j hj=>(hbw.cell (p:=⟨g1,j,none⟩) hg1s).trans (hcells j hj)
      by_cases hlt:i<l.length
      ·have c1:=hcw i hlt
       have e1:((l.length:Int) - 1 - (i:Int))=((l.length - 1 - i:Nat):Int):=by omega
       have c2:=how.cell (p:=l.length - 1 - i) (by rw[tv l i hi];omega)
       have f2:=how.frozen (l.length - 1 - i)
       have hst:=how.store (p:=l.length - 1 - i) (b:=l[i]'hlt)
       rw[rT l i hlt]at hst
       have hbs:=hbw.setCell (p:=⟨_,l.length - 1 - i,none⟩) (Nat.le_refl _) (.int .u8 ((l[i]'hlt).toNat:Int))
       have HST:=Lib.hid hst
       clear hst
       go_wp2_with fail
       go_roundw
       case rel=>exact⟨i+1,by omega,by go_num,HST.out,hbs⟩
       case measure=>simp[intOf];omega
      ·obtain rfl:i=l.length:=by omega
       rw[tw]at how
       have hconv:=run_convert_bytes_back (P:=Tryd.prog) wr 91 9 5 ⟨_,0,none⟩ l.length l.reverse Tryd.underlying91 Tryd.underlying5 Tryd.underlying9 (fun j hj=>by
        have hadd:∀g,(⟨g,0,none⟩:Addr).add j=⟨g,j,none⟩:=fun g=>by unfold Addr.add;split<;>simp_all
        rw[hadd];exact how.cell hj)
       rw[List.length_reverse]at hconv
       go_wp2
       go_ret
       exact⟨by unfold aM;rw[if_neg HN0.out,HL.out];rfl,hb0.trans ((hbr.mono hb0.size).trans (hbw.mono (Nat.le_trans hb0.size hsz)))⟩
   ·have hpos:=cI hV
    go_wp2_with fail
    refine(qP x (nl V) (nl V) V 1000000000 wr hrx (by omega) (by decide) (by decide)).mono ?_
    rintro e w2 ⟨g,rfl,hg,ho,hb2⟩
    go_wp2_with fail
    refine(cT _ (nl V) (nl V) (V / 1000000000) w2 (by omega) (Nat.le_refl _) ho.rw').mono ?_
    rintro e w3 ⟨rfl,rfl⟩
    have ho':=ho.rw'.norm
    have hso:iH w2 wc.heap.size (some ⟨g,0,none⟩) (nl (V / 1000000000)):=iH.of_own ho
    have hgb:wr.grownBy w2 none:=⟨hb2.os,hb2.tape,hb2.output,hb2.size,fun k hk _=>hb2.block k hk⟩
    have hbl2:=hbl.keep hgb
    have hbr2:=hbr.trans (hb2.mono hsz)
    have hsz2:wc.heap.size≤w2.heap.size:=Nat.le_trans hsz hb2.size
    have hdm:V / 1000000000*10^9+V % 1000000000=V:=by have:=Nat.div_add_mod V 1000000000;omega
    have hrl:V % 1000000000<10^9:=Nat.mod_lt _ (by decide)
    have hVlt:V / 1000000000<V:=by omega
    have HV:=Lib.hid (IsN.valOf (v:=.agg #[.slice x (nl V) (nl V)]) ⟨x,nl V,rfl,Nat.le_refl _,hrx⟩)
    rw[←hdm]at HL
    clear hdm hgb hbl hbr hrx hsx ho
    have HLT:=Lib.hid hVlt
    have hVN':V / 1000000000≤N:=by omega
    generalize V / 1000000000=M at *
    have hcast:((V:Int) % 1000000000)=((V % 1000000000:Nat):Int):=by omega
    have HC:=Lib.hid hcast
    clear hcast
    have hlM:nl M≤nl N:=cF hVN'
    go_wp2_with fail
    go_loopw [4,6,23] (fun s4 s6 s23 wq=>∃i r l,i≤9∧s23= .int .i64 (i:Nat)∧s6= .int .u32 (r:Nat)∧Fits r (9 - i)∧r≤999999999∧BR wq wc.heap.size s4 l∧Hid (bX N=l++bX (M*10^(9 - i)+r))∧
      Below wc.heap.size wc wq∧wc.heap.size≤wq.heap.size∧Rw wq (some ⟨g,0,none⟩) (nl M) M∧iH wq wc.heap.size (some ⟨g,0,none⟩) (nl M))
     (fun _ _ i _=>9 - (intOf i).toNat)
    case atStart=>exact⟨0,V % 1000000000,l,by omega,rfl,by rw[HC.out],hrl,by omega,hbl2,HL,hbr2,hsz2,ho',hso⟩
    case round=>
     obtain⟨i,r,l1,hi,rfl,rfl,hri,hr9,hbl1,HL1,hbq,hsq,hrq,hsfq⟩:=hrel
     have hmeas:IsN wr (.agg #[.slice (some ⟨g,0,none⟩) (nl M) (nl M)]) M:=⟨_,_,rfl,Nat.le_refl _,hrq⟩
     have HM:=Lib.hid hmeas.valOf
     clear hmeas
     by_cases hi9:i<9
     ·by_cases hbrk:r=0∧M=0
      ·obtain⟨h1,h2⟩:=hbrk
       subst h1
       have HL2:Hid (bX N=l1++bX M):=by
        have:=HL1.out
        rw[h2,Nat.zero_mul,Nat.add_zero]at this
        rw[h2];exact Lib.hid this
       have hz:(((nl M:Nat):Int)==0)=true:=by rw[h2,aK];rfl
       clear h2 HL1
       go_wp2_with fail
       go_roundw
       case rel=>exact⟨M,some ⟨g,0,none⟩,l1,rfl,hVN',hrq,hsfq,hbl1,HL2,hbq,hsq⟩
       case measure=>rw[HM.out,HV.out];exact HLT.out
      ·obtain⟨k1,k2,k3⟩:=pV (p:=9 - i) hbrk (by omega)
       have HL3:Hid (bX N=(l1++ [UInt8.ofNat (48+r % 10)])++bX (M*10^(9 - (i+1))+r / 10)):=by
        have h:=HL1.out
        rw[ek k1,k2,k3]at h
        show _=_
        rw[h,show 9 - i - 1=9 - (i+1)by omega];simp
       have hri':Fits (r / 10) (9 - (i+1)):=by
        have h:r<10^(9 - i):=hri
        rw[show 9 - i=9 - (i+1)+1 by omega,Nat.pow_succ]at h
        show r / 10<10^(9 - (i+1))
        rw[Nat.div_lt_iff_lt_mul (by decide)];exact h
       have hbyte:Hid (48+(r:Int) % 10=((UInt8.ofNat (48+r % 10)).toNat:Int)):=by
        show _=_
        rw[UInt8.toNat_ofNat']
        omega
       have hl10:l1.length≤10*nl N:=by
        have h:=congrArg List.length HL1.out
        rw[List.length_append]at h
        omega
       obtain⟨y1,cy1,rfl,hcy1,hys1⟩:=hbl1.open
       clear k1 k2 k3 hri HL1 hys1
       generalize UInt8.ofNat (48+r % 10)=b at *
       by_cases hr0:r=0
       ·have hz1:((r:Int)==0)=true:=by rw[hr0];rfl
        have hM0:nl M≠0:=fun h=>hbrk ⟨hr0,by have:=cH M;rw[h]at this;omega⟩
        have hz2:(((nl M:Nat):Int)==0)=false:=by rw[beq_eq_false_iff_ne];omega
        clear hr0 hbrk
        go_wp2_with (at_builtin;refine eK rfl _ _ rfl wc.heap.size (.slice y1 l1.length cy1) l1 b _ hbyte.out rfl hbl1 hsq rfl (by omega) ?_)
        intro v' w' hbl2 hbb hss hgg
        obtain⟨hs2,hr2⟩:=hsfq.append hrq hbl1 hgg
        clear hgg
        go_wp2_with fail
        go_roundw
        case rel=>exact⟨i+1,r / 10,l1++ [b],by omega,by go_num,congrArg (Value.int .u32) (by omega),hri',by omega,hbl2,HL3,hbq.trans hbb,hss,hr2,hs2⟩
        case measure=>simp[intOf];omega
       ·have hz1:((r:Int)==0)=false:=by rw[beq_eq_false_iff_ne];omega
        clear hr0 hbrk
        go_wp2_with (at_builtin;refine eK rfl _ _ rfl wc.heap.size (.slice y1 l1.length cy1) l1 b _ hbyte.out rfl hbl1 hsq rfl (by omega) ?_)
        intro v' w' hbl2 hbb hss hgg
        obtain⟨hs2,hr2⟩:=hsfq.append hrq hbl1 hgg
        clear hgg
        go_wp2_with fail
        go_roundw
        case rel=>exact⟨i+1,r / 10,l1++ [b],by omega,by go_num,congrArg (Value.int .u32) (by omega),hri',by omega,hbl2,HL3,hbq.trans hbb,hss,hr2,hs2⟩
        case measure=>simp[intOf];omega
     ·obtain rfl:i=9:=by omega
      have hr0:r=0:=by have h:r<10^(9 - 9):=hri;simpa using h
      have HL2:Hid (bX N=l1++bX M):=by
       have:=HL1.out
       rw[show 9 - 9=0 by omega,hr0,Nat.pow_zero,Nat.mul_one,Nat.add_zero]at this
       exact Lib.hid this
      clear hr0 HL1 hri
      go_wp2_with fail
      go_roundw
      case rel=>exact⟨M,some ⟨g,0,none⟩,l1,rfl,hVN',hrq,hsfq,hbl1,HL2,hbq,hsq⟩
      case measure=>rw[HM.out,HV.out];exact HLT.out
end Go.Proofs.YtfhinmdhjlmikaaDoor
namespace Go.Proofs.YtfhinmdhjlmikaaDoor
set_option linter.unusedSimpArgs false
set_option linter.unusedVariables false
set_option maxRecDepth 100000
open Go.RowKit
/-- A property of a value that what is only added to the world does not change. -/
structure Sp where
 p:World→Value→Prop
 st:∀w w' v,p w v→Below w.heap.size w w'→p w' v
def Sp.val (u:Value):Sp:=⟨fun _ v=>v=u,fun _ _ _ h _=>h⟩
def Sp.any:Sp:=⟨fun _ _=>True,fun _ _ _ _ _=>trivial⟩
def Sp.nat (N:Nat):Sp:=⟨fun w v=>IsN w v N,fun _ _ _ h hb=>IsN.mono h hb⟩
def Sp.new (base N:Nat):Sp:=⟨fun w v=>aD base w v N,fun _ _ _ h hb=>aD.mono h hb⟩
def Sp.row (L N:Nat):Sp:=⟨fun w v=>∃g,v= .slice (some ⟨g,0,none⟩) L L∧aP w g L N,fun _ _ _ h hb=>by obtain⟨g,rfl,h⟩:=h;exact⟨g,rfl,h.mono hb h.lt⟩⟩
/-- Slot t holds a value with the property s. -/
def Has (a:Act) (w:World) (t:Tmp) (s:Sp):Prop:=∃v,a.tmps[t]? =some v∧s.p w v
def Is (a:Act) (w:World) (x:Operand) (s:Sp):Prop:=s.p w (a.eval x)
theorem Has.is {a:Act} {w:World} {t:Tmp} {s:Sp} (h:Has a w t s):Is a w (.tmp t) s:=by
 obtain⟨v,h1,h2⟩:=h
 unfold Is Act.eval
 simp only[Array.getD_eq_getD_getElem?,h1,Option.getD_some]
 exact h2
theorem Is.const {a:Act} {w:World} {v:Value}:Is a w (.const v) (.val v):=rfl
theorem Has.mono {a:Act} {w w':World} {t:Tmp} {s:Sp} (h:Has a w t s) (hb:Below w.heap.size w w'):Has a w' t s:=by
 obtain⟨v,h1,h2⟩:=h;exact⟨v,h1,s.st _ _ _ h2 hb⟩
section
variable {P:Program} {ops:Array Oper} {Q:Exit→Act→World→Prop} {md:Region.Mode}
/-- The operation makes a value with the property s, and only adds to the world. -/
def Arm (P:Program) (Q:Exit→Act→World→Prop) (o:Oper) (a:Act) (w:World) (s:Sp):Prop:=
 ∀K:Act→World→Prop,(∀v w',s.p w' v→Below w.heap.size w w'→K (a.put o.dst v) w')→Oper.wp P o a w K Q
def aw (D:List (Nat×Tmp×Sp)):List (Nat×Tmp):=D.map fun x=>(x.1,x.2.1)
theorem gQ {D:List (Nat×Tmp)} {f:Nat→Value} {a:Act} (t:Tmp) (h:t∉D.map (·.2)):(b5 D f a).tmps[t]? =a.tmps[t]? :=by
 induction D generalizing a with
 | nil=>rfl
 | cons p D ih=>
  rw[List.map_cons,List.mem_cons]at h
  have h1:p.2≠t:=fun e=>h (.inl e.symm)
  show(b5 D f (a.put (some p.2) (f p.1))).tmps[t]? =_
  rw[ih (fun e=>h (.inr e))]
  simp[Act.put,Array.getElem?_setIfInBounds,h1]
theorem rU {D:List (Nat×Tmp)} {f:Nat→Value} {a:Act}:(b5 D f a).tmps.size=a.tmps.size:=by
 induction D generalizing a with
 | nil=>rfl
 | cons p D ih=>show(b5 D f (a.put (some p.2) (f p.1))).tmps.size=_;rw[ih];simp[Act.put]
theorem oJ {D:List (Nat×Tmp)} {f:Nat→Value} {a:Act}:(b5 D f a).defers=a.defers:=by
 induction D generalizing a with
 | nil=>rfl
 | cons p D ih=>show(b5 D f (a.put (some p.2) (f p.1))).defers=_;rw[ih];rfl
theorem nH {D:List (Nat×Tmp)} {f:Nat→Value} {a:Act} (hn:(D.map (·.2)).Nodup) {i:Nat} {t:Tmp} (hm:(i,t)∈D) (ht:t<a.tmps.size):(b5 D f a).tmps[t]? =some (f i):=by
 induction D generalizing a with
 | nil=>cases hm
 | cons p D ih=>
  rw[List.map_cons,List.nodup_cons]at hn
  show(b5 D f (a.put (some p.2) (f p.1))).tmps[t]? =_
  rcases List.mem_cons.1 hm with rfl | hm'
  ·rw[gQ t hn.1]
   simp[Act.put,ht]
  ·exact ih hn.2 hm' (by simpa [Act.put]using ht)
theorem bM {D:List (Nat×Tmp×Sp)} {i:Nat} {t:Tmp} {s:Sp} (h:(i,t,s)∈D):(i,t)∈aw D:=List.mem_map.2 ⟨_,h,rfl⟩
theorem xd {D:List (Nat×Tmp×Sp)} (hp:(D.map (·.1)).Nodup):∀y∈D,∀z∈D,y.1=z.1→y=z:=by
 induction D with
 | nil=>intro y hy;cases hy
 | cons d D ih=>
  rw[List.map_cons,List.nodup_cons]at hp
  intro y hy z hz hyz
  rcases List.mem_cons.1 hy with rfl | hy'<;>rcases List.mem_cons.1 hz with rfl | hz'
  ·rfl
  ·exact absurd (List.mem_map.2 ⟨z,hz',hyz.symm⟩) hp.1
  ·exact absurd (List.mem_map.2 ⟨y,hy',hyz⟩) hp.1
  ·exact ih hp.2 y hy' z hz' hyz
/-- The table's checks that do not look at the properties. -/
def j9 (md:Region.Mode) (ops:Array Oper) (E:List (Nat×Tmp)) (n:Nat) (l:Array Bool) (size:Nat):Bool:=
 kS md ops n (E.map (·.1)) l && E.all (fun p=>bQ ops p.1==some p.2) && decide ((E.map (·.2)).Nodup) && decide ((E.map (·.1)).Nodup) && E.all (fun p=>decide (p.2<size))
theorem lj (D:List (Nat×Tmp×Sp)) (n:Nat) {l:Array Bool} {a:Act} {w:World} {fuel:Nat} (sz:Nat) (hsz:a.tmps.size=sz)
  (hok:j9 md ops (aw D) n l sz=true)
  (hstep:∀x∈D,∀(a':Act) (w':World),Below w.heap.size w w'→(∀t,t∉(aw D).map (·.2)→a'.tmps[t]? =a.tmps[t]?)→(∀i t s,(i,t,s)∈D→i∈bR md ops x.1→Has a' w' t s)→
   ∃o,ops[x.1]? =some o∧Region.wanted o (yielded ops a'.tmps)=true∧Arm P Q o a' w' x.2.2)
  (hrest:∀(f:Nat→Value) w',Below w.heap.size w w'→(∀i t s,(i,t,s)∈D→s.p w' (f i))→wpAny P md ops Q fuel (aS ((aw D).map (·.1)) l) (b5 (aw D) f a) w'):
  wpAny P md ops Q (fuel+D.length) l a w:=by
 unfold j9 at hok
 simp only[Bool.and_eq_true,decide_eq_true_eq]at hok
 obtain⟨⟨⟨⟨hph,hds⟩,hnt⟩,hni⟩,hlt⟩:=hok
 have ht:∀p∈aw D,p.2<a.tmps.size:=fun p hp=>by rw[hsz];simpa using List.all_eq_true.1 hlt p hp
 have hlen:D.length=(aw D).length:=by simp[aw]
 rw[hlen]
 refine fI (fuel:=fuel) (aw D) n (fun _=>false) (fun i v w'=>∀t s,(i,t,s)∈D→s.p w' v) hph hds hnt (fun i _ v w1 w2 h hb t s hm=>s.st _ _ _ (h t s hm) hb) (fun i _ h=>by cases h) ?_ ?_
 ·intro p hp f w' hb hF K hK
  obtain⟨x,hx,rfl⟩:=List.mem_map.1 hp
  obtain⟨o,ho,hw,harm⟩:=hstep x hx (b5 (aw D) f a) w' hb (fun t h=>gQ t h) (fun i t s hm hpr=>
   ⟨f i,nH hnt (bM hm) (ht _ (bM hm)),hF i (List.mem_map.2 ⟨_,bM hm,rfl⟩) hpr t s hm⟩)
  unfold wpOp
  rw[ho]
  show if Region.wanted o (yielded ops (b5 (aw D) f a).tmps)=true then _ else _
  rw[if_pos hw]
  refine .inl (harm K (fun v w'' hv hbv=> ?_))
  have hd:=List.all_eq_true.1 hds _ hp
  rw[beq_iff_eq]at hd
  have hdo:o.dst=some x.2.1:=by
   have:bQ ops x.1=o.dst:=by unfold bQ;rw[ho]
   rw[←this];exact hd
  rw[hdo]
  refine hK v w'' (fun t s hm=> ?_) hbv (fun h=>by cases h)
  have e:(x.1,x.2.1,x.2.2)∈D:=hx
  have key:=xd (D:=D) (by simpa [aw,Function.comp_def]using hni)
  have e2:=key _ hm _ e rfl
  simp only[Prod.mk.injEq,true_and]at e2
  rw[e2.2];exact hv
 ·intro f w' hb hF _
  exact hrest f w' hb (fun i t s hm=>hF i (List.mem_map.2 ⟨_,bM hm,rfl⟩) t s hm)
theorem rV (D:List (Nat×Tmp×Sp)) (n:Nat) {l:Array Bool} {a:Act} {w:World} {fuel:Nat} (sz:Nat) (hsz:a.tmps.size=sz)
  (hok:j9 md ops (aw D) n l sz=true)
  (hstep:∀x∈D,∀(a':Act) (w':World),Below w.heap.size w w'→(∀t,t∉(aw D).map (·.2)→a'.tmps[t]? =a.tmps[t]?)→(∀i t s,(i,t,s)∈D→i∈bR md ops x.1→Has a' w' t s)→
   ∃o,ops[x.1]? =some o∧Region.wanted o (yielded ops a'.tmps)=true∧Arm P Q o a' w' x.2.2)
  (hrest:∀a' w',Below w.heap.size w w'→a'.tmps.size=sz→a'.defers=a.defers→(∀t,t∉(aw D).map (·.2)→a'.tmps[t]? =a.tmps[t]?)→(∀i t s,(i,t,s)∈D→Has a' w' t s)→
   wpAny P md ops Q fuel (aS ((aw D).map (·.1)) l) a' w'):
  wpAny P md ops Q (fuel+D.length) l a w:=by
 refine lj D n sz hsz hok hstep ?_
 unfold j9 at hok
 simp only[Bool.and_eq_true,decide_eq_true_eq]at hok
 obtain⟨⟨⟨⟨hph,hds⟩,hnt⟩,hni⟩,hlt⟩:=hok
 have ht:∀p∈aw D,p.2<a.tmps.size:=fun p hp=>by rw[hsz];simpa using List.all_eq_true.1 hlt p hp
 intro f w' hb hF
 exact hrest _ w' hb (by rw[rU,hsz]) oJ (fun t h=>gQ t h) (fun i t s hm=>
  ⟨f i,nH hnt (bM hm) (ht _ (bM hm)),hF i t s hm⟩)
def dO (r:Nat):Code→Option (Array Oper)
 | .region i ops _=>if i=r then some ops else none
 | .seq a b=>match dO r a with | some x=>some x | none=>dO r b
 | .cond _ a b=>match dO r a with | some x=>some x | none=>dO r b
 | .block _ b=>dO r b
 | .loop b=>dO r b
 | .scope b=>dO r b
 | .rangeFunc _ _ a b=>match dO r a with | some x=>some x | none=>dO r b
 | _=>none
/-- The operations of region r of the function. -/
def cL (f:Func) (r:Nat):Array Oper:=match f.body with | some c=>(dO r c).getD #[] | none=> #[]
def el {α:Type} (p:α→Prop):List α→Prop
 | []=>True
 | x::l=>p x∧el p l
theorem el.mem {α:Type} {p:α→Prop} {l:List α} (h:el p l):∀x∈l,p x:=by
 induction l with
 | nil=>intro x hx;cases hx
 | cons y l ih=>
  intro x hx
  rcases List.mem_cons.1 hx with rfl | hx
  ·exact h.1
  ·exact ih h.2 x hx
/-- What an operation finds: the slots that no operation of the table writes are as they were; the slots of its forerunners have their properties. -/
structure Found (md:Region.Mode) (ops:Array Oper) (D:List (Nat×Tmp×Sp)) (j:Nat) (w:World) (a a':Act) (w':World):Prop where
 below:Below w.heap.size w w'
 out:∀t,((aw D).map (·.2)).contains t=false→a'.tmps[t]? =a.tmps[t]?
 at':∀(i:Nat) (t:Tmp) (s:Sp),D[i]? =some (i,t,s)→(bR md ops j).contains i=true→Has a' w' t s
structure Made' (D:List (Nat×Tmp×Sp)) (w:World) (a a':Act) (w':World):Prop where
 below:Below w.heap.size w w'
 size:a'.tmps.size=a.tmps.size
 defers:a'.defers=a.defers
 out:∀t,((aw D).map (·.2)).contains t=false→a'.tmps[t]? =a.tmps[t]?
 at':∀(i:Nat) (t:Tmp) (s:Sp),D[i]? =some (i,t,s)→Has a' w' t s
theorem Found.keep {D:List (Nat×Tmp×Sp)} {j:Nat} {w w':World} {a a':Act} (h:Found md ops D j w a a' w') (t:Tmp) (v:Value) (ht:((aw D).map (·.2)).contains t=false) (hv:a.tmps[t]? =some v):Has a' w' t (.val v):=
 ⟨v,(h.out t ht).trans hv,rfl⟩
theorem Made'.keep {D:List (Nat×Tmp×Sp)} {w w':World} {a a':Act} (h:Made' D w a a' w') (t:Tmp) (v:Value) (ht:((aw D).map (·.2)).contains t=false) (hv:a.tmps[t]? =some v):Has a' w' t (.val v):=
 ⟨v,(h.out t ht).trans hv,rfl⟩
/-- A whole region that draws its order, by a table. -/
theorem xJ (f:Func) (r:Nat) (D:List (Nat×Tmp×Sp)) {id:Nat} {ops':Array Oper} {a:Act} {w:World} (hops:cL f r=ops') (hm:P.follows .mixedOrders=true)
  (hlen:(cL f r).size=D.length) (hok:j9 .any (cL f r) (aw D) 0 (Array.replicate D.length false) a.tmps.size=true)
  (hdone:Region.ready .any (cL f r) (aS ((aw D).map (·.1)) (Array.replicate D.length false))=[])
  (steps:el (fun x=>∀(a':Act) (w':World),Found .any (cL f r) D x.1 w a a' w'→∃o,(cL f r)[x.1]? =some o∧Region.wanted o (yielded (cL f r) a'.tmps)=true∧Arm P Q o a' w' x.2.2) D)
  (hrest:∀a' w',Made' D w a a' w'→Q .normal a' w'):(Code.region id ops' true).wp P Q a w:=by
 subst hops
 refine wp_region_any hm ?_
 have hb0:Below w.heap.size w w.drew:=aJ (Below.refl _ _) 1
 change wpAny P .any _ Q _ _ _ w.drew
 rw[hlen]
 have hcon:∀t,((aw D).map (·.2)).contains t=false→t∉(aw D).map (·.2):=fun t h hm=>by
  rw[List.contains_iff_mem.2 hm]at h;cases h
 have hmem:∀(i:Nat) (t:Tmp) (s:Sp),D[i]? =some (i,t,s)→(i,t,s)∈D:=fun i t s h=>List.mem_of_getElem? h
 have main:=rV (P:=P) (Q:=Q) (fuel:=0) D 0 (l:=Array.replicate D.length false) (a:=a) (w:=w.drew) a.tmps.size rfl hok
  (fun x hx a' w' hb hout hin=>steps.mem x hx a' w' ⟨hb0.trans (hb.mono hb0.size),fun t h=>hout t (hcon t h),fun i t s h1 h2=>hin i t s (hmem i t s h1) (List.contains_iff_mem.1 h2)⟩)
  (fun a' w' hb hsz hdf hout hin=>wpAny_done hdone (hrest a' w' ⟨hb0.trans (hb.mono hb0.size),hsz,hdf,fun t h=>hout t (hcon t h),fun i t s h=>hin i t s (hmem i t s h)⟩) 0)
 rw[Nat.zero_add]at main
 exact main
/-- As xJ; what comes behind finds the frame written out, the table's slots holding values g i. -/
theorem eL (f:Func) (r:Nat) (D:List (Nat×Tmp×Sp)) {id:Nat} {ops':Array Oper} {a:Act} {w:World} (hops:cL f r=ops') (hm:P.follows .mixedOrders=true)
  (hlen:(cL f r).size=D.length) (hok:j9 .any (cL f r) (aw D) 0 (Array.replicate D.length false) a.tmps.size=true)
  (hdone:Region.ready .any (cL f r) (aS ((aw D).map (·.1)) (Array.replicate D.length false))=[])
  (steps:el (fun x=>∀(a':Act) (w':World),Found .any (cL f r) D x.1 w a a' w'→∃o,(cL f r)[x.1]? =some o∧Region.wanted o (yielded (cL f r) a'.tmps)=true∧Arm P Q o a' w' x.2.2) D)
  (hrest:∀(g:Nat→Value) w',Below w.heap.size w w'→(∀(i:Nat) (t:Tmp) (s:Sp),D[i]? =some (i,t,s)→s.p w' (g i))→Q .normal (b5 (aw D) g a) w'):(Code.region id ops' true).wp P Q a w:=by
 subst hops
 refine wp_region_any hm ?_
 have hb0:Below w.heap.size w w.drew:=aJ (Below.refl _ _) 1
 change wpAny P .any _ Q _ _ _ w.drew
 rw[hlen]
 have hcon:∀t,((aw D).map (·.2)).contains t=false→t∉(aw D).map (·.2):=fun t h hm=>by
  rw[List.contains_iff_mem.2 hm]at h;cases h
 have hmem:∀(i:Nat) (t:Tmp) (s:Sp),D[i]? =some (i,t,s)→(i,t,s)∈D:=fun i t s h=>List.mem_of_getElem? h
 have main:=lj (P:=P) (Q:=Q) (fuel:=0) D 0 (l:=Array.replicate D.length false) (a:=a) (w:=w.drew) a.tmps.size rfl hok
  (fun x hx a' w' hb hout hin=>steps.mem x hx a' w' ⟨hb0.trans (hb.mono hb0.size),fun t h=>hout t (hcon t h),fun i t s h1 h2=>hin i t s (hmem i t s h1) (List.contains_iff_mem.1 h2)⟩)
  (fun g w' hb hin=>wpAny_done hdone (hrest g w' (hb0.trans (hb.mono hb0.size)) (fun i t s h=>hin i t s (hmem i t s h))) 0)
 rw[Nat.zero_add]at main
 exact main
theorem af {o:Oper} {y:Nat→Option Bool} (h:o.guard=none):Region.wanted o y=true:=by unfold Region.wanted;rw[h]
theorem Arm.weaken {o:Oper} {a:Act} {w:World} {s s':Sp} (h:Arm P Q o a w s) (hs:∀w v,s.p w v→s'.p w v):Arm P Q o a w s':=
 fun K hK=>h K (fun v w' h1 h2=>hK v w' (hs _ _ h1) h2)
theorem iJ {o:Oper} {a:Act} {w:World} {s:Sp} (v:Value) (hr:(execOp a.eval o).run P w= .ok (.value v) w) (hv:s.p w v):Arm P Q o a w s:=by
 intro K hK
 unfold Oper.wp
 rw[hr]
 exact hK v w hv (Below.refl _ _)
theorem aQ {o:Oper} {a:Act} {w:World} {s:Sp} {x:Operand} (ho:o.op= .move x∨o.op= .assign x) (hx:Is a w x s):Arm P Q o a w s:=by
 refine iJ (a.eval x) ?_ hx
 rcases ho with ho | ho<;>(unfold execOp;rw[ho];rfl)
/-- An operation on constants. -/
theorem gr {o:Oper} {a:Act} {w:World} {s:Sp} {f:FuncId} {xs:Array Operand} {tt:Array TypeId} {R:Ending→World→Prop} (ho:o.op= .call {callee:=.value (.func f),args:=xs,argTypes:=tt})
  (hen:∀(vs:Array Value) w,(callFunc f vs).run P w= .ok (.enter f vs) w) (hc:Calls P f (xs.map a.eval) w R) (hR:∀e w',R e w'→∃v,e= .returned v∧s.p w' v∧Below w.heap.size w w'):Arm P Q o a w s:=by
 intro K hK
 unfold Oper.wp
 have:(execOp a.eval o).run P w= .ok (.enter f (xs.map a.eval)) w:=by
  simp[execOp,ho,resolve,invoke,Deferred.ofValue,Act.eval,hen,Result.andThen]
 rw[this,Oper.upon_enter]
 refine hc.mono ?_
 intro e w' hr
 obtain⟨v,rfl,h1,h2⟩:=hR e w' hr
 exact hK v w' h1 h2
end
end Go.Proofs.YtfhinmdhjlmikaaDoor
namespace Go.Proofs.YtfhinmdhjlmikaaDoor
set_option linter.unusedSimpArgs false
set_option linter.unusedVariables false
set_option maxRecDepth 100000
open Go.RowKit
section
variable {md:Region.Mode} {ops:Array Oper} {D:List (Nat×Tmp×Sp)} {w w':World} {a a':Act} {j:Nat}
theorem Found.f (F:Found md ops D j w a a' w') (i:Nat) {t:Tmp} {s:Sp} (h:D[i]? =some (i,t,s)) (h2:(bR md ops j).contains i=true:=by kernel_rfl):Is a' w' (.tmp t) s:=(F.at' i t s h h2).is
theorem Found.k (F:Found md ops D j w a a' w') (t:Tmp) (v:Value) (h:((aw D).map (·.2)).contains t=false:=by kernel_rfl) (h2:a.tmps[t]? =some v:=by rfl):Is a' w' (.tmp t) (.val v):=(F.keep t v h h2).is
end
end Go.Proofs.YtfhinmdhjlmikaaDoor
namespace Go.Proofs.YtfhinmdhjlmikaaDoor
set_option linter.unusedSimpArgs false
set_option linter.unusedVariables false
set_option maxRecDepth 100000
open Go.RowKit
theorem ai {f:FuncId} {fn:Func} (hf:Tryd.prog.funcs[f]? =some fn) (hname:(fn.name== "runtime.NumGoroutine")=false) (hb:fn.body.isNone=false) (args:Array Value) (w:World):
  (callFunc f args).run Tryd.prog w= .ok (.enter f args) w:=by
 have h1:fn.name≠ "runtime.NumGoroutine" :=by simpa using hname
 simp[callFunc,hf,h1]
 intro h
 simp[h]at hb
theorem tx {w w':World} {N:Nat} {e:Ending} (h:b9 w N e w'):∃v,e= .returned v∧(Sp.nat N).p w' v∧Below w.heap.size w w':=by
 obtain⟨v,rfl,hn,hb⟩:=h;exact⟨v,rfl,hn.isN,hb⟩
theorem ofV {w w':World} {u:Value} {e:Ending} (h:bE w u e w'):∃v,e= .returned v∧(Sp.val u).p w' v∧Below w.heap.size w w':=⟨u,h.1,rfl,h.2⟩
/-- Block g is a variable that holds the number N. -/
def bA (w:World) (g N:Nat):Prop:=∃a c,aF w g a (nl N) c∧IsN w (.agg #[.slice a (nl N) c]) N
theorem bA.mono {w w':World} {g N:Nat} (h:bA w g N) (hb:Below w.heap.size w w'):bA w' g N:=by
 obtain⟨a,c,h1,h2⟩:=h;exact⟨a,c,h1.mono hb h1.lt,h2.mono hb⟩
section
variable {ops:Array Oper} {Q:Exit→Act→World→Prop} {o:Oper} {a:Act} {w:World} {x y:Operand} {m n:Nat} {tt:Array TypeId}
theorem tz (w:World) (g L c:Nat) (s:Option Addr) (h:aF w g s L c):(Instr.loadAt 24 (.pointer (some ⟨g,0,none⟩))).run Tryd.prog w= .ok (.agg #[.slice s L c]) w:=by
 have c1:=h.cell
 go_simp
theorem aZ {g:Nat} (ho:o.op= .load 24 x) (hx:Is a w x (.val (.pointer (some ⟨g,0,none⟩)))) (h:bA w g n):Arm Tryd.prog Q o a w (.nat n):=by
 obtain⟨s,c,h1,h2⟩:=h
 have hx':a.eval x= .pointer (some ⟨g,0,none⟩):=hx
 refine iJ (.agg #[.slice s (nl n) c]) ?_ h2
 unfold execOp
 rw[ho]
 simp only[hx',Sem.run_bind,tz w g (nl n) c s h1,Result.andThen,Sem.run_pure]
theorem nI {f:FuncId} {s:Sp} {R:World→Ending→World→Prop} (ho:o.op= .call {callee:=.value (.func f),args:=#[x,y],argTypes:=tt}) (hen:∀(vs:Array Value) w,(callFunc f vs).run Tryd.prog w= .ok (.enter f vs) w)
  (hx:Is a w x (.nat m)) (hy:Is a w y (.nat n)) (hc:∀va vb w,IsN w va m→IsN w vb n→Calls Tryd.prog f #[va,vb] w (R w)) (hR:∀e w',R w e w'→∃v,e= .returned v∧s.p w' v∧Below w.heap.size w w'):Arm Tryd.prog Q o a w s:=
 gr ho hen (R:=R w) (by simpa using hc _ _ w hx hy) hR
theorem cG {op:BinOp} {t t':TypeId} {u v r:Value} (ho:o.op= .binOp op t x y t') (hx:Is a w x (.val u)) (hy:Is a w y (.val v)) (hg:∀w:World,(eqGuard op t x y u v).run Tryd.prog w= .ok () w)
  (hr:∀w:World,(binOp op t u v).run Tryd.prog w= .ok r w):Arm Tryd.prog Q o a w (.val r):=by
 have hx':a.eval x=u:=hx
 have hy':a.eval y=v:=hy
 refine iJ r ?_ rfl
 unfold execOp
 rw[ho]
 simp only[hx',hy',Sem.run_bind,hg,hr,Result.andThen,Sem.run_pure]
end
end Go.Proofs.YtfhinmdhjlmikaaDoor
namespace Go.Proofs.YtfhinmdhjlmikaaDoor
set_option linter.unusedSimpArgs false
set_option linter.unusedVariables false
set_option maxRecDepth 100000
open Go.RowKit
theorem nlb {N:Nat} (h:N<4294967296^4):nl N≤1000000000000:=Nat.le_trans (az.2 h) (by decide)
theorem bA.of {w:World} {g c N:Nat} {a:Option Addr} (h:aF w g a (nl N) c) (hn:IsN w (.agg #[.slice a (nl N) c]) N):bA w g N:=⟨a,c,h,hn⟩
end Go.Proofs.YtfhinmdhjlmikaaDoor
namespace Go.Proofs.YtfhinmdhjlmikaaDoor
set_option linter.unusedSimpArgs false
set_option linter.unusedVariables false
set_option maxRecDepth 100000
open Go.RowKit
/-- Block g is a variable that holds a row of L digits of value N (leading zeros allowed). -/
def fm (w:World) (g L N:Nat):Prop:=∃a c,aF w g a L c∧IsR w (.agg #[.slice a L c]) L N
theorem fm.mono {w w':World} {g L N:Nat} (h:fm w g L N) (hb:Below w.heap.size w w'):fm w' g L N:=by
 obtain⟨a,c,h1,h2⟩:=h;exact⟨a,c,h1.mono hb h1.lt,h2.mono hb⟩
theorem fm.isI {w:World} {g L N:Nat} (h:fm w g L N) (hl:nl N=L):bA w g N:=by
 subst hl;exact h
theorem fm.made {w:World} {a:Option Addr} {L c N:Nat} (h:IsR w (.agg #[.slice a L c]) L N):fm (w.alloc (.cells #[.slice a L c] 24)) w.heap.size L N:=
 ⟨a,c,aF.made w a L c,h.mono ((Below.refl _ _).alloc (Nat.le_refl _) _)⟩
theorem eF (w:World) (o:Obj):Below w.heap.size w (w.alloc o):=(Below.refl _ _).alloc (Nat.le_refl _) o
theorem tA {w:World} {a:Option Addr} {L c N:Nat} (h:IsR w (.agg #[.slice a L c]) L N):
  Below w.heap.size w (w.alloc (.cells #[.slice a L c] 24))∧fm (w.alloc (.cells #[.slice a L c] 24)) w.heap.size L N:=⟨eF w _,fm.made h⟩
theorem rW {w:World} {a b:Option Addr} {L c N L2 c2 N2:Nat} (h:IsR w (.agg #[.slice a L c]) L N) (h2:IsR w (.agg #[.slice b L2 c2]) L2 N2):
  Below w.heap.size w ((w.alloc (.cells #[.slice a L c] 24)).alloc (.cells #[.slice b L2 c2] 24))∧
  fm ((w.alloc (.cells #[.slice a L c] 24)).alloc (.cells #[.slice b L2 c2] 24)) w.heap.size L N∧
  fm ((w.alloc (.cells #[.slice a L c] 24)).alloc (.cells #[.slice b L2 c2] 24)) (w.heap.size+1) L2 N2:=by
 obtain⟨k1,k2⟩:=tA h
 obtain⟨k3,k4⟩:=tA (h2.mono k1)
 refine⟨k1.trans (k3.mono k1.size),k2.mono k3,?_⟩
 rw[World.size_alloc]at k4
 exact k4
theorem sm_nl {N d:Nat} (h:nl N≤d):N<4294967296^d:=az.1 h
theorem xe {N d e:Nat} (h:N<4294967296^d) (he:d≤e):N<4294967296^e:=Nat.lt_of_lt_of_le h (Nat.pow_le_pow_right (by decide) he)
theorem tB {a b d e:Nat} (h:a<4294967296^d) (h':b<4294967296^e):a+b<4294967296^(d+e+1):=by
 have h1:=xe h (Nat.le_add_right d e)
 have h2:=xe h' (Nat.le_add_left e d)
 rw[Nat.pow_succ];omega
theorem tC {a b d e:Nat} (h:a<4294967296^d) (h':b<4294967296^e):a*b<4294967296^(d+e):=by
 rw[Nat.pow_add]
 rcases Nat.eq_zero_or_pos b with rfl | hb
 ·rw[Nat.mul_zero];exact Nat.mul_pos (Nat.lt_of_le_of_lt (Nat.zero_le _) h) h'
 ·exact Nat.lt_of_lt_of_le ((Nat.mul_lt_mul_right hb).2 h) (Nat.mul_le_mul_left _ (Nat.le_of_lt h'))
section
variable {Q:Exit→Act→World→Prop} {o:Oper} {a:Act} {w:World} {tt:Array TypeId}
end
end Go.Proofs.YtfhinmdhjlmikaaDoor
namespace Go.Proofs.YtfhinmdhjlmikaaDoor
set_option linter.unusedSimpArgs false
set_option linter.unusedVariables false
set_option maxRecDepth 100000
open Go.RowKit
theorem D_over {m L i:Nat} (h:m<4294967296^L) (hi:L≤i):D m i=0:=by
 unfold D
 rw[Nat.div_eq_of_lt (Nat.lt_of_lt_of_le h (Nat.pow_le_pow_right (by decide) hi))]
theorem qT (va:Value) (L m i:Nat) (w:World) (ha:IsR w va L m) (hL:L≤60000000000000) (hi:i≤60000000000000):
  Calls Tryd.prog 71 #[va,.int .i64 (i:Int)] w fun e w'=>bE w (.int .u64 ((D m i:Nat):Int)) e w':=by
 obtain⟨a,ca,rfl,hca,ra⟩:=ha
 have hw:=eF w (.cells #[.slice a L ca] 24)
 have v1:=aF.made w a L ca
 have ra0:=ra.mono hw
 have c1:=v1.cell
 go_enter Tryd.func71,Tryd.ntmps71
 by_cases h:L≤i
 ·have h0:=D_over ra.lt h
  have h':(L:Int)≤(i:Int):=by omega
  go_wp2
  go_ret
  exact⟨by rw[h0];rfl,hw⟩
 ·obtain⟨b1,o1,rfl,h1⟩:=ra0.cells (by omega)
  have d1:=h1 i (by omega)
  have h':¬(L:Int)≤(i:Int):=by omega
  have hlt:=bO m i
  go_wp2
  go_ret
  exact⟨rfl,hw⟩
theorem GR.newC {w w':World} {base L c N:Nat} {a:Option Addr} (h:GR w base (.slice a L c) L N) (hl:nl N=L) (hb:Below w.heap.size w w'):aD base w' (.agg #[.slice a (nl N) c]) N:=by
 obtain⟨a',c',e,hLc,hrw,hown⟩:=h.open
 cases e
 refine⟨a,c,rfl,by omega,fun hL=> ?_⟩
 obtain⟨g,rfl,hg,hgs,hf⟩:=hown (by omega)
 obtain⟨b,o,e,hd⟩:=hrw.cells (by omega)
 cases e
 exact⟨g,0,rfl,hg,fun j hj=>(hb.cell (p:=⟨g,0+j,none⟩) hgs).trans (hd j (by omega)),fun j hj=>(hb.frozen (p:=⟨g,0+j,none⟩) hgs).trans (hf _)⟩
theorem iK (N i:Nat):N % 4294967296^i+D N i*4294967296^i=N % 4294967296^(i+1):=by
 rw[Nat.mod_pow_succ]
 unfold D
 rw[Nat.mul_comm]
set_option maxHeartbeats 1000000 in
theorem jz (a:Option Addr) (L c N:Nat) (w:World) (ra:Rw w a L N) (hL:L≤20000000000000):
  Calls Tryd.prog 58 #[.slice a L c] w fun e w'=>b9 w N e w':=by
 have hw:=eF w (.cells #[.slice none 0 0] 24)
 have v0:=aF.made w none 0 0
 have ra0:=ra.mono hw
 have hnl:nl N≤L:=az.2 ra.lt
 go_enter Tryd.func58,Tryd.ntmps58
 go_upto_region 1 with(fail)
 go_cut [3] (fun s3 wx=>s3= .int .i64 (L:Int)∧Below w.heap.size w wx∧aF wx w.heap.size none 0 0)
 case first=>
  go_wp2_with fail
  go_meet
  case rel=>exact⟨rfl,hw,v0⟩
 case rest=>
  obtain⟨rfl,hb0,v1⟩:=hcut
  clear hw v0 ra0
  have ra0:=ra.mono hb0
  have hsz:=v1.lt
  go_upto_block 0 with(fail)
  go_cut [3] (fun s3 wx=>s3= .int .i64 ((nl N:Nat):Int)∧wx=wc)
  case first=>
   go_wp2_with fail
   go_loopw [3] (fun s3 wr=>∃n:Nat,s3= .int .i64 (n:Int)∧n≤L∧nl N≤n∧wr=wc) (fun s3 _=>(intOf s3).toNat)
   case atStart=>exact⟨L,rfl,Nat.le_refl _,hnl,rfl⟩
   case round=>
    obtain⟨n,rfl,hn,hnn,rfl⟩:=hrel
    by_cases hz:0<n∧D N (n - 1)=0
    ·obtain⟨hn0,hd0⟩:=hz
     obtain⟨b1,o1,rfl,h1⟩:=ra0.cells (by omega)
     have d1:=h1 (n - 1) (by omega)
     rw[hd0]at d1
     have e1:((n:Int) - 1)=((n - 1:Nat):Int):=by omega
     have hlt:(0:Int)<(n:Int):=by omega
     have hle:nl N≤n - 1:=gk (by omega) hd0
     have HD:=Lib.hid hd0
     clear hd0
     go_wp2_with fail
     go_roundw
     case rel=>exact⟨n - 1,by go_num,by omega,hle,trivial⟩
     case measure=>simp[intOf];omega
    ·have hN:nl N=n:=by
      rcases Nat.lt_or_ge (nl N) n with h | h
      ·exact absurd ⟨by omega,fF (by omega)⟩ hz
      ·omega
     subst hN
     rcases Nat.eq_zero_or_pos (nl N)with h | h
     ·have h0:¬(0:Int)<((nl N:Nat):Int):=by omega
      have H:=Lib.hid h
      clear h hz
      go_wp2_with fail
      go_meet
      case rel=>exact⟨rfl,rfl⟩
     ·have hne:D N (nl N - 1)≠0:=fun e=>hz ⟨h,e⟩
      obtain⟨b1,o1,rfl,h1⟩:=ra0.cells (by omega)
      have d1:=h1 (nl N - 1) (by omega)
      have e1:(((nl N:Nat):Int) - 1)=((nl N - 1:Nat):Int):=by omega
      have hlt:(0:Int)<((nl N:Nat):Int):=by omega
      have hne':¬((D N (nl N - 1):Nat):Int)=0:=by omega
      clear hz hne
      go_wp2_with fail
      go_meet
      case rel=>exact⟨rfl,rfl⟩
  case rest=>
   obtain⟨rfl,rfl⟩:=hcut
   go_wp2_with fail
   go_loopw [4,5] (fun s4 s5 wr=>∃i:Nat,i≤nl N∧s5= .int .i64 (i:Int)∧GR wr (w.heap.size+1) s4 i (N % 4294967296^i)∧Below (w.heap.size+1) wc wr∧w.heap.size+1≤wr.heap.size) (fun _ s5 _=>nl N - (intOf s5).toNat)
   case atStart=>exact⟨0,Nat.zero_le _,rfl,by rw[Nat.pow_zero,Nat.mod_one];exact GR.nil _ _,Below.refl _ _,hsz⟩
   case round=>
    obtain⟨i,hi,rfl,hgr,hbr,hsr⟩:=hrel
    by_cases hlt:i<nl N
    ·have ra1:=ra.mono (hb0.trans (hbr.mono (Nat.le_succ _)))
     obtain⟨b1,o1,rfl,h1⟩:=ra1.cells (by omega)
     have d1:=h1 i (by omega)
     have hdl:=bO N i
     obtain⟨a',c',rfl,hLc,hrw,hown⟩:=hgr.open
     go_wp2_with (at_builtin;refine bH rfl _ _ rfl (w.heap.size+1) (.slice a' i c') i (N % 4294967296^i) (D N i) rfl hgr hsr rfl hdl (by omega) ?_)
     intro v' w' hg' hb' hs'
     rw[iK]at hg'
     go_wp2_with fail
     go_roundw
     case rel=>exact⟨i+1,by omega,by go_num,hg',hbr.trans hb',hs'⟩
     case measure=>simp[intOf];omega
    ·obtain rfl:i=nl N:=by omega
     rw[Nat.mod_eq_of_lt (cH N)]at hgr
     obtain⟨a',c',rfl,hLc,hrw,hown⟩:=hgr.open
     have vr:=v1.mono hbr (Nat.lt_succ_self _)
     have cr:=vr.cell
     have fr:=vr.frozen
     have hn:=(hgr.newC rfl (Below.refl _ _)).setVar (u:=.slice a' (nl N) c') vr
     go_wp2
     exact bodyPost_ret (dn rfl _ _ w.heap.size _ rfl vr.set.cell) rfl ⟨_,rfl,hn.weaken (Nat.le_succ _),(hb0.trans (hbr.mono (Nat.le_succ _))).setCell (Nat.le_refl _) _⟩
end Go.Proofs.YtfhinmdhjlmikaaDoor
namespace Go.Proofs.YtfhinmdhjlmikaaDoor
set_option linter.unusedSimpArgs false
set_option linter.unusedVariables false
set_option maxRecDepth 100000
open Go.RowKit
section
variable {Q:Exit→Act→World→Prop} {o:Oper} {a:Act} {w:World} {x y:Operand} {tt:Array TypeId}
theorem bn {m i:Nat} (ho:o.op= .call {callee:=.value (.func 71),args:=#[x,y],argTypes:=tt}) (hx:Is a w x (.nat m)) (hy:Is a w y (.val (.int .i64 (i:Int)))) (hm:nl m≤1000000000000) (hi:i≤60000000000000):
  Arm Tryd.prog Q o a w (.val (.int .u64 ((D m i:Nat):Int))):=by
 refine gr ho (ai Tryd.func71 rfl rfl) (R:=bE w (.int .u64 ((D m i:Nat):Int))) ?_ (fun _ _ h=>ofV h)
 have hy':a.eval y= .int .i64 (i:Int):=hy
 simpa [hy']using qT _ (nl m) m i w hx (by omega) hi
end
theorem bA.cell {w:World} {g N:Nat} (h:bA w g N):∃a c,w.cell? ⟨g,0,none⟩=some (.slice a (nl N) c):=by
 obtain⟨a,c,h1,_⟩:=h;exact⟨a,c,h1.cell⟩
theorem oK {m n k:Nat} (h:m / 4294967296^(k+1)=n / 4294967296^(k+1)) (hd:D m k=D n k):m / 4294967296^k=n / 4294967296^k:=by
 rw[ce m k,ce n k,h,hd]
theorem GR.below {w w':World} {base L N:Nat} {v:Value} (h:GR w base v L N) (hb:Below w.heap.size w w'):GR w' base v L N:=by
 refine⟨h.1,h.2.1,?_⟩
 rcases h.2.2 with⟨h1,h0⟩ | ⟨g,c,cur,rfl,hbg,hg,hr⟩
 ·exact .inl ⟨h1,h0⟩
 ·exact .inr ⟨g,c,cur,rfl,hbg,(hb.block g (Array.getElem?_eq_some_iff.1 hg).1).trans hg,hr⟩
theorem gt (x y z:Nat) (hz:x+y=z) (h:z<18446744073709551616) (w:World):(binOp BinOp.add 54 (.int .u64 (x:Int)) (.int .u64 (y:Int))).run Tryd.prog w= .ok (.int .u64 (z:Int)) w:=by
 subst hz
 have e:((x:Int)+(y:Int)) % 18446744073709551616=((x+y:Nat):Int):=by omega
 go_simp
 exact e
theorem oL (x y z:Nat) (hz:x=y+z) (h:x<18446744073709551616) (w:World):(binOp BinOp.sub 54 (.int .u64 (x:Int)) (.int .u64 (y:Int))).run Tryd.prog w= .ok (.int .u64 (z:Int)) w:=by
 subst hz
 have e:(((y+z:Nat):Int) - (y:Int)) % 18446744073709551616=(z:Int):=by omega
 go_simp
 exact e
end Go.Proofs.YtfhinmdhjlmikaaDoor
namespace Go.Proofs.YtfhinmdhjlmikaaDoor
set_option linter.unusedSimpArgs false
set_option linter.unusedVariables false
set_option maxRecDepth 100000
open Go.RowKit
def gR (ga gb m n k:Nat):List (Nat×Tmp×Sp):=
  [(0,18,.nat (m)),
  (1,19,.val (Value.int IntKind.i64 ((k:Nat)))),
  (2,20,.val (Value.int IntKind.u64 (((D (m) (k):Nat):Int)))),
  (3,21,.nat (n)),
  (4,22,.val (Value.int IntKind.i64 ((k:Nat)))),
  (5,23,.val (Value.int IntKind.u64 (((D (n) (k):Nat):Int)))),
  (6,24,.val (Value.bool (decide (((D m k:Nat):Int)<((D n k:Nat):Int)))))]
def kT (ga gb m n k:Nat):List (Nat×Tmp×Sp):=
  [(0,25,.nat (m)),
  (1,26,.val (Value.int IntKind.i64 ((k:Nat)))),
  (2,27,.val (Value.int IntKind.u64 (((D (m) (k):Nat):Int)))),
  (3,28,.nat (n)),
  (4,29,.val (Value.int IntKind.i64 ((k:Nat)))),
  (5,30,.val (Value.int IntKind.u64 (((D (n) (k):Nat):Int)))),
  (6,31,.val (Value.bool (decide (((D m k:Nat):Int)>((D n k:Nat):Int)))))]
set_option maxRecDepth 100000 in
set_option maxHeartbeats 1000000 in
theorem jA (va vb:Value) (m n:Nat) (w:World) (ha:IsN w va m) (hb:IsN w vb n) (hm:nl m≤1000000000000) (hn:nl n≤1000000000000):
  Calls Tryd.prog 47 #[va,vb] w fun e w'=>bE w (.int .i64 (cC m n)) e w':=by
 obtain⟨a,ca,rfl,hca,ra⟩:=ha
 obtain⟨b,cb,rfl,hcb,rb⟩:=hb
 obtain⟨k0,k1,k2⟩:=rW (L:=nl m) (c:=ca) (N:=m) (L2:=nl n) (c2:=cb) (N2:=n) ⟨a,ca,rfl,hca,ra⟩ ⟨b,cb,rfl,hcb,rb⟩
 obtain⟨M,hM1,hM2,hM3⟩:∃M,nl m≤M∧nl n≤M∧Hid (M=nl m∨M=nl n):=by
  rcases Nat.le_total (nl m) (nl n)with h | h
  ·exact⟨nl n,h,Nat.le_refl _,Lib.hid (.inr rfl)⟩
  ·exact⟨nl m,Nat.le_refl _,h,Lib.hid (.inl rfl)⟩
 go_enter Tryd.func47,Tryd.ntmps47
 go_upto_region 1 with(fail)
 go_cut [5] (fun s5 wx=>s5= .int .i64 ((M:Int) - 1)∧bA wx w.heap.size m∧bA wx (w.heap.size+1) n∧Below w.heap.size w wx)
 case first=>
  obtain⟨ya,da,qa,ia⟩:=k1
  have ea:=qa.cell
  obtain⟨yb,db,qb,ib⟩:=k2
  have eb:=qb.cell
  rcases Nat.lt_or_ge (nl m) (nl n)with hlt | hge
  ·obtain rfl:M=nl n:=by have:=hM3.out;omega
   go_wp2_with fail
   go_meet
   case rel=>exact⟨rfl,⟨ya,da,qa,ia⟩,⟨yb,db,qb,ib⟩,k0⟩
  ·obtain rfl:M=nl m:=by have:=hM3.out;omega
   have hge':¬nl m<nl n:=by omega
   go_wp2_with fail
   go_meet
   case rel=>exact⟨rfl,⟨ya,da,qa,ia⟩,⟨yb,db,qb,ib⟩,k0⟩
 case rest=>
  obtain⟨rfl,Va,Vb,hb1⟩:=hcut
  clear k0 k1 k2 ra rb
  have hM:M≤1000000000000:=by rcases hM3.out with h | h<;>omega
  go_wp2_with fail
  go_loopw [5] (fun s5 wr=>∃k:Nat,k≤M∧s5= .int .i64 ((k:Int) - 1)∧Hid (m / 4294967296^k=n / 4294967296^k)∧bA wr w.heap.size m∧bA wr (w.heap.size+1) n∧Below w.heap.size w wr) (fun s5 _=>((intOf s5)+1).toNat)
  case atStart=>exact⟨M,Nat.le_refl _,rfl,Lib.hid (by rw[Nat.div_eq_of_lt (az.1 hM1),Nat.div_eq_of_lt (az.1 hM2)]),Va,Vb,hb1⟩
  case round=>
   obtain⟨k,hk,rfl,HR,Va,Vb,hb1⟩:=hrel
   cases k with
   | zero=>
    go_wp2
    go_ret
    exact⟨by rw[iB (by simpa using HR.out)];rfl,hb1⟩
   | succ k=>
    have hk60:k≤60000000000000:=by omega
    have e:(((k+1:Nat):Int) - 1)=(k:Int):=by omega
    simp only[e]
    clear e
    rcases Nat.lt_trichotomy (D m k) (D n k)with h | h | h
    ·have h':((D m k:Nat):Int)<((D n k:Nat):Int):=by omega
     go_upto_region 4 with(fail)
     refine eL Tryd.f47 4 (gR w.heap.size (w.heap.size+1) m n k) (by kernel_rfl) (by kernel_rfl) rfl (by kernel_rfl) (by kernel_rfl) ?_ ?_
     ·refine⟨fun a' w' F=>⟨_,rfl,af rfl,aZ rfl (F.keep 2 (Value.pointer (some ⟨w.heap.size,0,none⟩)) (by kernel_rfl) rfl).is (Va.mono F.below)⟩,?_⟩
      refine⟨fun a' w' F=>⟨_,rfl,af rfl,aQ (.inl rfl) (F.keep 5 (Value.int IntKind.i64 ((k:Nat))) (by kernel_rfl) rfl).is⟩,?_⟩
      refine⟨fun a' w' F=>⟨_,rfl,af rfl,bn rfl (F.f 0 rfl) (F.f 1 rfl) (hm) (hk60)⟩,?_⟩
      refine⟨fun a' w' F=>⟨_,rfl,af rfl,aZ rfl (F.keep 3 (Value.pointer (some ⟨w.heap.size+1,0,none⟩)) (by kernel_rfl) rfl).is (Vb.mono F.below)⟩,?_⟩
      refine⟨fun a' w' F=>⟨_,rfl,af rfl,aQ (.inl rfl) (F.keep 5 (Value.int IntKind.i64 ((k:Nat))) (by kernel_rfl) rfl).is⟩,?_⟩
      refine⟨fun a' w' F=>⟨_,rfl,af rfl,bn rfl (F.f 3 rfl) (F.f 4 rfl) (hn) (hk60)⟩,?_⟩
      refine⟨fun a' w' F=>⟨_,rfl,af rfl,cG rfl (F.f 2 rfl) (F.f 5 rfl) (fun _=>rfl) (fun _=>by go_simp)⟩,?_⟩
      exact trivial
     intro gp wp bp G
     have ep6:gp 6=Value.bool (decide (((D m k:Nat):Int)<((D n k:Nat):Int))):=G 6 24 _ rfl
     simp only[gR]
     simp only[b5,aw,List.map_cons,List.map_nil,List.foldl_cons,List.foldl_nil,Act.put,List.setIfInBounds_toArray,List.set_cons_zero,List.set_cons_succ,ep6]
     clear G
     go_wp2_with fail
     go_ret
     exact⟨by rw[eH (eI HR.out h)];rfl,hb1.trans (bp.mono hb1.size)⟩
    ·have h1':¬((D m k:Nat):Int)<((D n k:Nat):Int):=by omega
     have h2':¬((D n k:Nat):Int)<((D m k:Nat):Int):=by omega
     have HD:=Lib.hid h
     clear h
     go_upto_region 4 with(fail)
     refine eL Tryd.f47 4 (gR w.heap.size (w.heap.size+1) m n k) (by kernel_rfl) (by kernel_rfl) rfl (by kernel_rfl) (by kernel_rfl) ?_ ?_
     ·refine⟨fun a' w' F=>⟨_,rfl,af rfl,aZ rfl (F.keep 2 (Value.pointer (some ⟨w.heap.size,0,none⟩)) (by kernel_rfl) rfl).is (Va.mono F.below)⟩,?_⟩
      refine⟨fun a' w' F=>⟨_,rfl,af rfl,aQ (.inl rfl) (F.keep 5 (Value.int IntKind.i64 ((k:Nat))) (by kernel_rfl) rfl).is⟩,?_⟩
      refine⟨fun a' w' F=>⟨_,rfl,af rfl,bn rfl (F.f 0 rfl) (F.f 1 rfl) (hm) (hk60)⟩,?_⟩
      refine⟨fun a' w' F=>⟨_,rfl,af rfl,aZ rfl (F.keep 3 (Value.pointer (some ⟨w.heap.size+1,0,none⟩)) (by kernel_rfl) rfl).is (Vb.mono F.below)⟩,?_⟩
      refine⟨fun a' w' F=>⟨_,rfl,af rfl,aQ (.inl rfl) (F.keep 5 (Value.int IntKind.i64 ((k:Nat))) (by kernel_rfl) rfl).is⟩,?_⟩
      refine⟨fun a' w' F=>⟨_,rfl,af rfl,bn rfl (F.f 3 rfl) (F.f 4 rfl) (hn) (hk60)⟩,?_⟩
      refine⟨fun a' w' F=>⟨_,rfl,af rfl,cG rfl (F.f 2 rfl) (F.f 5 rfl) (fun _=>rfl) (fun _=>by go_simp)⟩,?_⟩
      exact trivial
     intro gp wp bp G
     have ep6:gp 6=Value.bool (decide (((D m k:Nat):Int)<((D n k:Nat):Int))):=G 6 24 _ rfl
     simp only[gR]
     simp only[b5,aw,List.map_cons,List.map_nil,List.foldl_cons,List.foldl_nil,Act.put,List.setIfInBounds_toArray,List.set_cons_zero,List.set_cons_succ,ep6]
     clear G
     replace Va:=Va.mono bp
     replace Vb:=Vb.mono bp
     go_upto_region 6 with(fail)
     refine eL Tryd.f47 6 (kT w.heap.size (w.heap.size+1) m n k) (by kernel_rfl) (by kernel_rfl) rfl (by kernel_rfl) (by kernel_rfl) ?_ ?_
     ·refine⟨fun a' w' F=>⟨_,rfl,af rfl,aZ rfl (F.keep 2 (Value.pointer (some ⟨w.heap.size,0,none⟩)) (by kernel_rfl) rfl).is (Va.mono F.below)⟩,?_⟩
      refine⟨fun a' w' F=>⟨_,rfl,af rfl,aQ (.inl rfl) (F.keep 5 (Value.int IntKind.i64 ((k:Nat))) (by kernel_rfl) rfl).is⟩,?_⟩
      refine⟨fun a' w' F=>⟨_,rfl,af rfl,bn rfl (F.f 0 rfl) (F.f 1 rfl) (hm) (hk60)⟩,?_⟩
      refine⟨fun a' w' F=>⟨_,rfl,af rfl,aZ rfl (F.keep 3 (Value.pointer (some ⟨w.heap.size+1,0,none⟩)) (by kernel_rfl) rfl).is (Vb.mono F.below)⟩,?_⟩
      refine⟨fun a' w' F=>⟨_,rfl,af rfl,aQ (.inl rfl) (F.keep 5 (Value.int IntKind.i64 ((k:Nat))) (by kernel_rfl) rfl).is⟩,?_⟩
      refine⟨fun a' w' F=>⟨_,rfl,af rfl,bn rfl (F.f 3 rfl) (F.f 4 rfl) (hn) (hk60)⟩,?_⟩
      refine⟨fun a' w' F=>⟨_,rfl,af rfl,cG rfl (F.f 2 rfl) (F.f 5 rfl) (fun _=>rfl) (fun _=>by go_simp)⟩,?_⟩
      exact trivial
     intro gq wq bq G
     have eq6:gq 6=Value.bool (decide (((D m k:Nat):Int)>((D n k:Nat):Int))):=G 6 31 _ rfl
     simp only[kT]
     simp only[b5,aw,List.map_cons,List.map_nil,List.foldl_cons,List.foldl_nil,Act.put,List.setIfInBounds_toArray,List.set_cons_zero,List.set_cons_succ,eq6]
     clear G
     go_wp2_with fail
     go_roundw
     case rel=>exact⟨k,by omega,by go_num,Lib.hid (oK HR.out HD.out),Va.mono bq,Vb.mono bq,(hb1.trans (bp.mono hb1.size)).trans (bq.mono (hb1.trans (bp.mono hb1.size)).size)⟩
     case measure=>simp[intOf]<;>omega
    ·have h1':¬((D m k:Nat):Int)<((D n k:Nat):Int):=by omega
     have h2':((D n k:Nat):Int)<((D m k:Nat):Int):=by omega
     go_upto_region 4 with(fail)
     refine eL Tryd.f47 4 (gR w.heap.size (w.heap.size+1) m n k) (by kernel_rfl) (by kernel_rfl) rfl (by kernel_rfl) (by kernel_rfl) ?_ ?_
     ·refine⟨fun a' w' F=>⟨_,rfl,af rfl,aZ rfl (F.keep 2 (Value.pointer (some ⟨w.heap.size,0,none⟩)) (by kernel_rfl) rfl).is (Va.mono F.below)⟩,?_⟩
      refine⟨fun a' w' F=>⟨_,rfl,af rfl,aQ (.inl rfl) (F.keep 5 (Value.int IntKind.i64 ((k:Nat))) (by kernel_rfl) rfl).is⟩,?_⟩
      refine⟨fun a' w' F=>⟨_,rfl,af rfl,bn rfl (F.f 0 rfl) (F.f 1 rfl) (hm) (hk60)⟩,?_⟩
      refine⟨fun a' w' F=>⟨_,rfl,af rfl,aZ rfl (F.keep 3 (Value.pointer (some ⟨w.heap.size+1,0,none⟩)) (by kernel_rfl) rfl).is (Vb.mono F.below)⟩,?_⟩
      refine⟨fun a' w' F=>⟨_,rfl,af rfl,aQ (.inl rfl) (F.keep 5 (Value.int IntKind.i64 ((k:Nat))) (by kernel_rfl) rfl).is⟩,?_⟩
      refine⟨fun a' w' F=>⟨_,rfl,af rfl,bn rfl (F.f 3 rfl) (F.f 4 rfl) (hn) (hk60)⟩,?_⟩
      refine⟨fun a' w' F=>⟨_,rfl,af rfl,cG rfl (F.f 2 rfl) (F.f 5 rfl) (fun _=>rfl) (fun _=>by go_simp)⟩,?_⟩
      exact trivial
     intro gp wp bp G
     have ep6:gp 6=Value.bool (decide (((D m k:Nat):Int)<((D n k:Nat):Int))):=G 6 24 _ rfl
     simp only[gR]
     simp only[b5,aw,List.map_cons,List.map_nil,List.foldl_cons,List.foldl_nil,Act.put,List.setIfInBounds_toArray,List.set_cons_zero,List.set_cons_succ,ep6]
     clear G
     replace Va:=Va.mono bp
     replace Vb:=Vb.mono bp
     go_upto_region 6 with(fail)
     refine eL Tryd.f47 6 (kT w.heap.size (w.heap.size+1) m n k) (by kernel_rfl) (by kernel_rfl) rfl (by kernel_rfl) (by kernel_rfl) ?_ ?_
     ·refine⟨fun a' w' F=>⟨_,rfl,af rfl,aZ rfl (F.keep 2 (Value.pointer (some ⟨w.heap.size,0,none⟩)) (by kernel_rfl) rfl).is (Va.mono F.below)⟩,?_⟩
      refine⟨fun a' w' F=>⟨_,rfl,af rfl,aQ (.inl rfl) (F.keep 5 (Value.int IntKind.i64 ((k:Nat))) (by kernel_rfl) rfl).is⟩,?_⟩
      refine⟨fun a' w' F=>⟨_,rfl,af rfl,bn rfl (F.f 0 rfl) (F.f 1 rfl) (hm) (hk60)⟩,?_⟩
      refine⟨fun a' w' F=>⟨_,rfl,af rfl,aZ rfl (F.keep 3 (Value.pointer (some ⟨w.heap.size+1,0,none⟩)) (by kernel_rfl) rfl).is (Vb.mono F.below)⟩,?_⟩
      refine⟨fun a' w' F=>⟨_,rfl,af rfl,aQ (.inl rfl) (F.keep 5 (Value.int IntKind.i64 ((k:Nat))) (by kernel_rfl) rfl).is⟩,?_⟩
      refine⟨fun a' w' F=>⟨_,rfl,af rfl,bn rfl (F.f 3 rfl) (F.f 4 rfl) (hn) (hk60)⟩,?_⟩
      refine⟨fun a' w' F=>⟨_,rfl,af rfl,cG rfl (F.f 2 rfl) (F.f 5 rfl) (fun _=>rfl) (fun _=>by go_simp)⟩,?_⟩
      exact trivial
     intro gq wq bq G
     have eq6:gq 6=Value.bool (decide (((D m k:Nat):Int)>((D n k:Nat):Int))):=G 6 31 _ rfl
     simp only[kT]
     simp only[b5,aw,List.map_cons,List.map_nil,List.foldl_cons,List.foldl_nil,Act.put,List.setIfInBounds_toArray,List.set_cons_zero,List.set_cons_succ,eq6]
     clear G
     go_wp2_with fail
     go_ret
     exact⟨by rw[gP (eI HR.out.symm h)];rfl,(hb1.trans (bp.mono hb1.size)).trans (bq.mono (hb1.trans (bp.mono hb1.size)).size)⟩
end Go.Proofs.YtfhinmdhjlmikaaDoor
