/- The plain law of the texts of fractions: what is read is what is written. Texts with two spaces: what strings.Count and strings.Split give. The calls of package strings, of fraction's texts, for the executor. What vector.Parse does. Package pose and its reference, by the executor. An executor: rows that the call itself made, appended to and left. Stamps and rows of stamps: what an executor asks of them. Package slices: Clone of digits and of stamps, Insert of a stamp. Tracks: what an executor asks of rows that belong to an object; methods of tracks. Tracks: calls of methods of tracks, of Clone and of Insert, as an executor meets them. Tracks: places of times in a list of stamps; walks with one answer. Tracks: ratios of numbers; the clones of fractions and of stamps. Rows of numbers that a call makes itself; parts of texts; a loop in two parts. -/
import Derived.Test.YtfhinmdhjlmikaaDoorP13
import Derived.Lib.SplitLaws
import Derived.Lib.IndexBytes
import Derived.Lib.SliceRun
import Derived.Lib.Overlaps
import Derived.Lib.AppendZerosOnto
import Derived.Lib.JoinLaws
import Derived.Laws.Externs
import Derived.Shelf.RegionOpenPlain
namespace Go.Proofs.YtfhinmdhjlmikaaDoor
set_option linter.unusedSimpArgs false
set_option linter.unusedVariables false
set_option maxRecDepth 100000
open Go.RowKit
theorem je (s:ByteArray) (i:Nat):by' s i=(s.data[i]?.map UInt8.toNat).getD 0:=by
 unfold by'
 by_cases h:i<s.size
 ·rw[dif_pos h,Array.getElem?_eq_getElem (show i<s.data.size from h)];rfl
 ·rw[dif_neg h,Array.getElem?_eq_none (by have:s.data.size=s.size:=rfl;omega)];rfl
theorem fh {s t:ByteArray} (h:s.size=t.size) (hb:∀i,i<s.size→by' s i=by' t i):s=t:=by
 have e:s.data=t.data:=by
  apply Array.ext h
  intro i h1 h2
  have:=hb i h1
  unfold by' at this
  rw[dif_pos (show i<s.size from h1),dif_pos (show i<t.size from h2)]at this
  exact UInt8.toNat_inj.1 this
 cases s;cases t;simp only at e;subst e;rfl
theorem cO (a b:ByteArray) (i:Nat):by' (a++b) i=if i<a.size then by' a i else by' b (i - a.size):=by
 rw[je,je,je,ByteArray.data_append,Array.getElem?_append]
 have e:a.data.size=a.size:=rfl
 rw[e]
 split<;>rfl
theorem dB (s:ByteArray) (i j k:Nat) (hj:j≤s.size) (hk:k<j - i):by' (s.extract i j) k=by' s (i+k):=by
 rw[je,je,ByteArray.data_extract,Array.getElem?_extract]
 have e:s.data.size=s.size:=rfl
 rw[e,if_pos (by omega)]
theorem by1 (c:UInt8):by' {data:=#[c]} 0=c.toNat:=rfl
theorem glue {t:ByteArray} {i:Nat} (h1:i<t.size) (h2:by' t i=47):t.extract 0 i++({data:=#[47]} ++t.extract (i+1) t.size)=t:=by
 have hs:({data:=#[47]}:ByteArray).size=1:=rfl
 have z1:(t.extract 0 i).size=i:=by rw[ByteArray.size_extract];omega
 have z2:(t.extract (i+1) t.size).size=t.size - (i+1):=by rw[ByteArray.size_extract];omega
 apply fh
 ·rw[ByteArray.size_append,ByteArray.size_append,z1,z2,hs];omega
 ·intro k hk
  rw[ByteArray.size_append,ByteArray.size_append,z1,z2,hs]at hk
  rw[cO,z1]
  by_cases hki:k<i
  ·rw[if_pos hki,dB _ _ _ _ (by omega) (by omega),Nat.zero_add]
  ·rw[if_neg hki,cO,hs]
   by_cases hk0:k - i<1
   ·obtain rfl:k=i:=by omega
    rw[if_pos hk0,Nat.sub_self,by1,h2];rfl
   ·rw[if_neg hk0,dB _ _ _ _ (by omega) (by omega)]
    congr 1;omega
theorem glue0 {s:ByteArray} (h1:0<s.size) (h2:by' s 0=45): {data:=#[45]} ++s.extract 1 s.size=s:=by
 have hs:({data:=#[45]}:ByteArray).size=1:=rfl
 have z2:(s.extract 1 s.size).size=s.size - 1:=by rw[ByteArray.size_extract];omega
 apply fh
 ·rw[ByteArray.size_append,z2,hs];omega
 ·intro k hk
  rw[ByteArray.size_append,z2,hs]at hk
  rw[cO,hs]
  by_cases hk0:k<1
  ·obtain rfl:k=0:=by omega
   rw[if_pos hk0,by1,h2];rfl
  ·rw[if_neg hk0,dB _ _ _ _ (by omega) (by omega)]
   congr 1;omega
theorem wR (a b:ByteArray) (i:Nat) (h:a.size=i):(a++b).extract 0 i=a:=by
 subst h
 apply fh
 ·rw[ByteArray.size_extract,ByteArray.size_append];omega
 ·intro k hk
  rw[ByteArray.size_extract,ByteArray.size_append]at hk
  rw[dB _ _ _ _ (by rw[ByteArray.size_append];omega) (by omega),Nat.zero_add,cO,if_pos (by omega)]
theorem pz (a b:ByteArray) (i:Nat) (h:a.size=i):(a++b).extract i (a++b).size=b:=by
 subst h
 apply fh
 ·rw[ByteArray.size_extract,ByteArray.size_append];omega
 ·intro k hk
  rw[ByteArray.size_extract,ByteArray.size_append]at hk
  rw[dB _ _ _ _ (Nat.le_refl _) (by rw[ByteArray.size_append];omega),cO,if_neg (by omega)]
  congr 1;omega
theorem f7 {s:ByteArray} {N:Nat} (h:ParseIs s N 0):0<s.size∧bS s s.size:=by
 have h1:0<s.size:=by
  rcases Nat.eq_zero_or_pos s.size with h' | h'
  ·have:=(h.short h').2;omega
  ·exact h'
 have h2:s.size≤400:=by
  rcases Nat.lt_or_ge 400 s.size with h' | h'
  ·have:=(h.long h').2;omega
  ·exact h'
 exact⟨h1,Classical.byContradiction fun h'=>by have:=(h.bad h1 h2 h').2;omega⟩
/-- What is read was written. -/
theorem qB {s:ByteArray} {x:Fq} {c:Int} (h:FP s x c) (hc:c=0):x.fmt=s:=by
 cases h with
 | num h ha h0=>exact absurd hc h0
 | den h ha hb h0=>exact absurd hc h0
 | bad h ha hb hv=>cases hc
 | good h ha hb hv=>
  rename_i t B F a b M N
  have ht:(if lT F N=1 then aM M else aM M++(({data:=#[47]}:ByteArray)++aM (lT F N)))=t:=by
   cases F with
   | true=>
    have hn:N≠1:=by
     have h2:(!decide (N=1) && (Fq.mk B M N).valid)=true:=hv
     rw[Bool.and_eq_true]at h2
     simpa using h2.1
    show(if N=1 then _ else _++(_++aM N))=t
    rw[if_neg hn,jE ha,jE (hb rfl)]
    obtain⟨i,h1,rfl,rfl⟩:=h.hit rfl
    exact glue h1.1 h1.2.1
   | false=>
    show(if (1:Nat)=1 then _ else _)=t
    rw[if_pos rfl,jE ha]
    exact(h.miss rfl).2.1
  unfold Fq.fmt
  simp only
  rw[ht]
  have h1:=h.sign
  have h2:=h.rest
  cases B with
  | true=>
   rw[if_pos rfl]at h2⊢
   rw[h2]
   have:=of_decide_eq_true h1
   exact glue0 this.1 this.2
  | false=>rw[if_neg Bool.false_ne_true]at h2⊢;exact h2
/-- What is written is read. -/
theorem jT {x:Fq} (hv:x.valid=true) (hp:nl x.p≤12) (hq:nl x.q≤12):FP x.fmt x 0:=by
 obtain⟨S,p,q⟩:=x
 have ha:=ln p hp
 have hb:=ln q hq
 obtain⟨a1,a2⟩:=f7 ha
 obtain⟨b1,b2⟩:=f7 hb
 obtain⟨t,ht⟩:∃t,t=if q=1 then aM p else aM p++(({data:=#[47]}:ByteArray)++aM q):=⟨_,rfl⟩
 have t0:0<t.size∧by' t 0≠45:=by
  have h0:=a2 0 a1
  rw[ht]
  split
  ·exact⟨a1,by omega⟩
  ·rw[ByteArray.size_append,cO,if_pos a1];exact⟨by omega,by omega⟩
 have hs47:({data:=#[47]}:ByteArray).size=1:=rfl
 have hs45:({data:=#[45]}:ByteArray).size=1:=rfl
 obtain⟨s,hs⟩:∃s,s=if S then({data:=#[45]}:ByteArray)++t else t:=⟨_,rfl⟩
 have hfmt:(Fq.mk S p q).fmt=s:=by unfold Fq.fmt;rw[hs,ht]
 rw[hfmt]
 have hP:Pieces s t S (decide (q≠1)) (aM p) (if q=1 then {data:=#[]}else aM q):=by
  refine⟨?_,?_,fun hF=> ?_,fun hF=> ?_⟩
  ·rw[hs]
   cases S with
   | true=>rw[if_pos rfl];apply decide_eq_true;refine⟨by rw[ByteArray.size_append,hs45];omega,?_⟩;rw[cO,hs45,if_pos (by omega)];rfl
   | false=>rw[if_neg Bool.false_ne_true];exact decide_eq_false (fun h=>t0.2 h.2)
  ·rw[hs]
   cases S with
   | true=>rw[if_pos rfl,if_pos rfl];exact(pz _ _ 1 hs45).symm
   | false=>rw[if_neg Bool.false_ne_true,if_neg Bool.false_ne_true]
  ·have hq1:q≠1:=of_decide_eq_true hF
   rw[if_neg hq1]at ht⊢
   refine⟨(aM p).size,⟨?_,?_,fun j hj=> ?_⟩,?_,?_⟩
   ·rw[ht,ByteArray.size_append,ByteArray.size_append,hs47];omega
   ·rw[ht,cO,if_neg (by omega),Nat.sub_self,cO,hs47,if_pos (by omega)];rfl
   ·rw[ht,cO,if_pos hj];have:=a2 j hj;omega
   ·rw[ht];exact(wR _ _ _ rfl).symm
   ·rw[ht,←ByteArray.append_assoc]
    refine(pz _ _ _ ?_).symm
    rw[ByteArray.size_append,hs47]
  ·have hq1:q=1:=Classical.byContradiction fun h=>by rw[decide_eq_true h]at hF;cases hF
   rw[if_pos hq1]at ht⊢
   refine⟨fun j hj=> ?_,ht.symm,rfl⟩
   rw[ht]at hj⊢
   have:=a2 j hj;omega
 by_cases hq1:q=1
 ·have hF:decide (q≠1)=false:=decide_eq_false (fun h=>h hq1)
  rw[hF,if_pos hq1]at hP
  subst hq1
  exact FP.good (N:=1) hP ha (fun h=>by cases h) hv
 ·have hF:decide (q≠1)=true:=decide_eq_true hq1
  rw[hF,if_neg hq1]at hP
  exact FP.good hP ha (fun _=>hb) (by show(!decide (q=1) && (Fq.mk S p q).valid)=true;rw[decide_eq_false hq1,hv];rfl)
/-- What is read is small. -/
theorem fp_ok {s:ByteArray} {x:Fq} {c:Int} (h:FP s x c):nl x.p≤400∧nl x.q≤400∧(c=0→x.q≠0):=by
 cases h with
 | num h ha h0=>exact⟨by decide,by decide,fun h=>absurd h h0⟩
 | den h ha hb h0=>exact⟨by decide,by decide,fun h=>absurd h h0⟩
 | bad h ha hb hv=>exact⟨by decide,by decide,fun h=>(by cases h)⟩
 | good h ha hb hv=>
  rename_i t B F a b M N
  refine⟨au ha,?_,fun _=> ?_⟩
  ·cases F with
   | true=>exact au (hb rfl)
   | false=>exact show nl 1≤400 by decide
  ·cases F with
   | true=>
    have h2:(!decide (N=1) && (Fq.mk B M N).valid)=true:=hv
    rw[Bool.and_eq_true]at h2
    exact(of_decide_eq_true h2.2).1
   | false=>exact Nat.one_ne_zero
end Go.Proofs.YtfhinmdhjlmikaaDoor
namespace Go.Proofs.YtfhinmdhjlmikaaDoor
set_option linter.unusedSimpArgs false
set_option linter.unusedVariables false
set_option maxRecDepth 100000
open Go.RowKit
abbrev b1 (c:UInt8):ByteArray:= {data:=#[c]}
/-- The first c stands at i; there is none. -/
def vg (c:UInt8) (u:ByteArray) (i:Nat):Prop:=i<u.size∧by' u i=c.toNat∧∀k,k<i→by' u k≠c.toNat
def mw (c:UInt8) (u:ByteArray):Prop:=∀k,k<u.size→by' u k≠c.toNat
section
variable {c:UInt8} {u s:ByteArray} {i j a b:Nat}
theorem jf (c:UInt8) (u:ByteArray):(∃i,vg c u i)∨mw c u:=by
 by_cases h:∃i,i<u.size∧by' u i=c.toNat
 ·refine .inl ?_
  obtain⟨i,hi⟩:=h
  induction i using Nat.strongRecOn with
  | ind i ih=>
   by_cases h2:∃j,j<i∧by' u j=c.toNat
   ·obtain⟨j,h3,h4⟩:=h2;exact ih j h3 ⟨by omega,h4⟩
   ·exact⟨i,hi.1,hi.2,fun j hj he=>h2 ⟨j,hj,he⟩⟩
 ·exact .inr (fun j hj he=>h ⟨j,hj,he⟩)
theorem l7 (h:vg c u i):Lib.indexB u (b1 c)=(i:Int):=by
 show Lib.index u.data.toList [c]=_
 rw[Lib.index_one]
 exact nW _ i c ((fT u i h.1 c).2 h.2.1) (fun j hj he=>h.2.2 j hj ((fT u j (by have:=h.1;omega) c).1 he))
theorem wS (h:mw c u):Lib.indexB u (b1 c)= -1:=by
 show Lib.index u.data.toList [c]=_
 rw[Lib.index_one]
 exact lS _ c (fun j he=>by
  have hj:j<u.size:=by
   have:j<u.data.toList.length:=(List.getElem?_eq_some_iff.1 he).1
   simpa using this
  exact h j hj ((fT u j hj c).1 he))
theorem gL (h:vg c u i):Lib.countB u (b1 c)=1+Lib.countB (u.extract (i+1) u.size) (b1 c):=Lib.countB_hit u (b1 c) i (Nat.le_refl 1) (l7 h)
theorem jU (h:mw c u):Lib.countB u (b1 c)=0:=Lib.countB_miss u (b1 c) (wS h)
theorem eX (hk:i+j<u.size):by' (u.extract i u.size) j=by' u (i+j):=dB u i u.size j (Nat.le_refl _) (by omega)
theorem bd (hj:j≤u.size):(u.extract i j).size=j - i:=by rw[ByteArray.size_extract];omega
/-- Just two, at a and at b. -/
def Ch2 (c:UInt8) (u:ByteArray) (a b:Nat):Prop:=a<b∧b<u.size∧by' u a=c.toNat∧by' u b=c.toNat∧∀k,k<u.size→by' u k=c.toNat→k=a∨k=b
theorem na (hj:j≤u.size) (hb:b≤j - i):(u.extract i j).extract a b=u.extract (i+a) (i+b):=by
 by_cases hab:a≤b
 ·refine fh ?_ fun k hk=> ?_
  ·simp only[ByteArray.size_extract];omega
  ·rw[bd (by rw[bd hj];exact hb)]at hk
   rw[dB _ _ _ _ (by rw[bd hj];exact hb) hk,dB _ _ _ _ hj (by omega),dB _ _ _ _ (by omega) (by omega),Nat.add_assoc]
 ·refine fh ?_ fun k hk=> ?_
  ·simp only[ByteArray.size_extract];omega
  ·rw[bd (by rw[bd hj];exact hb)]at hk;omega
theorem nc (h:Ch2 c u a b):Lib.countB u (b1 c)=2∧Lib.splitB (b1 c) 0 2 u=[u.extract 0 a,u.extract (a+1) b,u.extract (b+1) u.size]:=by
 obtain⟨hab,hb,ea,eb,ho⟩:=h
 have A:vg c u a:=⟨by omega,ea,fun k hk e=>by rcases ho k (by omega) e with h | h<;>omega⟩
 have hs:(u.extract (a+1) u.size).size=u.size - (a+1):=bd (Nat.le_refl _)
 have B:vg c (u.extract (a+1) u.size) (b - (a+1)):=by
  refine⟨by omega,?_,fun k hk e=> ?_⟩
  ·rw[eX (by omega),show a+1+(b - (a+1))=b from by omega];exact eb
  ·rw[eX (by omega)]at e
   rcases ho _ (by omega) e with h | h<;>omega
 have ex:(u.extract (a+1) u.size).extract (b - (a+1)+1) (u.extract (a+1) u.size).size=u.extract (b+1) u.size:=by
  rw[hs,na (Nat.le_refl _) (Nat.le_refl _)]
  congr 1<;>omega
 have C:mw c (u.extract (b+1) u.size):=fun k hk e=>by
  rw[bd (Nat.le_refl _)]at hk
  rw[eX (by omega)]at e
  rcases ho _ (by omega) e with h | h<;>omega
 constructor
 ·rw[gL A,gL B,ex,jU C]
 ·rw[Lib.splitB_hit (b1 c) 0 1 u a (l7 A)]
  show _::Lib.splitB (b1 c) 0 1 (u.extract (a+1) u.size)=_
  rw[Lib.splitB_hit (b1 c) 0 0 _ _ (l7 B)]
  show _::_::[(u.extract (a+1) u.size).extract (b - (a+1)+1) (u.extract (a+1) u.size).size]=_
  rw[ex,na (Nat.le_refl _) (by omega)]
  have e1:a+1+0=a+1:=rfl
  have e2:a+1+(b - (a+1)+0)=b:=by omega
  rw[e1,e2];rfl
theorem oe (h:Lib.countB u (b1 c)=2):∃a b,Ch2 c u a b:=by
 rcases jf c u with⟨a,A⟩ | N
 ·rw[gL A]at h
  have hs:(u.extract (a+1) u.size).size=u.size - (a+1):=bd (Nat.le_refl _)
  rcases jf c (u.extract (a+1) u.size)with⟨b,B⟩ | N
  ·rw[gL B]at h
   have hb:=B.1
   rw[hs]at hb
   have ex:(u.extract (a+1) u.size).extract (b+1) (u.extract (a+1) u.size).size=u.extract (a+1+(b+1)) u.size:=by
    rw[hs,na (Nat.le_refl _) (Nat.le_refl _)]
    congr 1;omega
   rw[ex]at h
   have hs2:(u.extract (a+1+(b+1)) u.size).size=u.size - (a+1+(b+1)):=bd (Nat.le_refl _)
   rcases jf c (u.extract (a+1+(b+1)) u.size)with⟨d,D⟩ | N
   ·rw[gL D]at h;omega
   ·refine⟨a,a+1+b,by omega,by omega,A.2.1,by have:=B.2.1;rwa [eX (by omega)]at this,fun k hk e=> ?_⟩
    rcases Nat.lt_trichotomy k a with h1 | h1 | h1
    ·exact absurd e (A.2.2 k h1)
    ·exact .inl h1
    ·rcases Nat.lt_trichotomy k (a+1+b)with h2 | h2 | h2
     ·have:=B.2.2 (k - (a+1)) (by omega)
      rw[eX (by omega),show a+1+(k - (a+1))=k from by omega]at this
      exact absurd e this
     ·exact .inr h2
     ·have:=N (k - (a+1+(b+1))) (by omega)
      rw[eX (by omega),show a+1+(b+1)+(k - (a+1+(b+1)))=k from by omega]at this
      exact absurd e this
  ·rw[jU N]at h;omega
 ·rw[jU N]at h;omega
end
/-- How the text of a vector falls into brackets and three parts. -/
def gM (s:ByteArray) (i j:Nat):Prop:=2≤s.size∧by' s 0=40∧by' s (s.size - 1)=41∧Ch2 32 s i j
def Vq.zero:Vq:=⟨.zero,.zero,.zero⟩
/-- What a text is read as. -/
inductive VP (s:ByteArray):Vq→Int→Prop
 | form (h:∀i j,¬gM s i j):VP s .zero 2
 | e0 {i j x c} (h:gM s i j) (hx:FP (s.extract 1 i) x c) (h0:c≠0):VP s .zero c
 | e1 {i j x y c} (h:gM s i j) (hx:FP (s.extract 1 i) x 0) (hy:FP (s.extract (i+1) j) y c) (h0:c≠0):VP s .zero c
 | e2 {i j x y z c} (h:gM s i j) (hx:FP (s.extract 1 i) x 0) (hy:FP (s.extract (i+1) j) y 0) (hz:FP (s.extract (j+1) (s.size - 1)) z c) (h0:c≠0):VP s .zero c
 | good {i j x y z} (h:gM s i j) (hx:FP (s.extract 1 i) x 0) (hy:FP (s.extract (i+1) j) y 0) (hz:FP (s.extract (j+1) (s.size - 1)) z 0):VP s ⟨x,y,z⟩ 0
theorem vh (s:ByteArray):∃v c,VP s v c:=by
 by_cases h:∃i j,gM s i j
 ·obtain⟨i,j,h⟩:=h
  obtain⟨x,c,hx⟩:=lU (s.extract 1 i)
  obtain⟨y,d,hy⟩:=lU (s.extract (i+1) j)
  obtain⟨z,e,hz⟩:=lU (s.extract (j+1) (s.size - 1))
  by_cases hc:c=0
  ·subst hc
   by_cases hd:d=0
   ·subst hd
    by_cases he:e=0
    ·subst he;exact⟨_,_,.good h hx hy hz⟩
    ·exact⟨_,_,.e2 h hx hy hz he⟩
   ·exact⟨_,_,.e1 h hx hy hd⟩
  ·exact⟨_,_,.e0 h hx hc⟩
 ·exact⟨_,_,.form (fun i j hc=>h ⟨i,j,hc⟩)⟩
/-- The inner text has its spaces one place earlier. -/
theorem cn {s:ByteArray} {i j:Nat} (h:gM s i j):1≤i∧i<j∧j<s.size - 1∧Lib.countB s (b1 32)=2∧Lib.countB (s.extract 1 (s.size - 1)) (b1 32)=2∧
  Lib.splitB (b1 32) 0 2 (s.extract 1 (s.size - 1))=[s.extract 1 i,s.extract (i+1) j,s.extract (j+1) (s.size - 1)]:=by
 obtain⟨h2,ha,hz,hc⟩:=h
 obtain⟨hij,hj,ei,ej,ho⟩:=hc
 have e32:(32:UInt8).toNat=32:=rfl
 have hi:1≤i:=by
  rcases Nat.eq_zero_or_pos i with h | h
  ·subst h;rw[ha,e32]at ei;omega
  ·exact h
 have hjs:j<s.size - 1:=by
  by_cases h:j=s.size - 1
  ·rw[h,hz,e32]at ej;omega
  ·omega
 have hs:(s.extract 1 (s.size - 1)).size=s.size - 1 - 1:=bd (by omega)
 have C:Ch2 32 (s.extract 1 (s.size - 1)) (i - 1) (j - 1):=by
  refine⟨by omega,by omega,?_,?_,fun k hk e=> ?_⟩
  ·rw[dB _ _ _ _ (by omega) (by omega),show 1+(i - 1)=i from by omega];exact ei
  ·rw[dB _ _ _ _ (by omega) (by omega),show 1+(j - 1)=j from by omega];exact ej
  ·rw[dB _ _ _ _ (by omega) (by omega)]at e
   rcases ho _ (by omega) e with h | h<;>omega
 have T:=nc C
 refine⟨hi,hij,hjs,(nc ⟨hij,hj,ei,ej,ho⟩).1,T.1,?_⟩
 rw[T.2,hs,na (by omega) (by omega),na (by omega) (by omega),na (by omega) (by omega)]
 congr 1
 ·congr 1;omega
 ·congr 1
  ·congr 1<;>omega
  ·congr 1
   congr 1<;>omega
end Go.Proofs.YtfhinmdhjlmikaaDoor
namespace Go.Proofs
open Go.Shelf
def Tryd.lays138_ren : Go.Shelf.Ren := ⟨fun | 138 => 21 | 195 => 38 | 218 => 39 | 143 => 40 | 219 => 65 | 217 => 80 | 225 => 81 | 224 => 82 | 267 => 83 | 266 => 96 | 314 => 97 | n => n, fun | 9 => 9 | 3 => 3 | 4 => 4 | 5 => 5 | 0 => 0 | 46 => 80 | 146 => 95 | 51 => 78 | n => n, fun | 1 => 0 | n => n⟩
theorem Tryd.lays138 : Go.Proofs.Lays.n138 Tryd.prog Tryd.lays138_ren := {
  mixed := by kernel_rfl
  f138 := Tryd.func21.trans (congrArg some (by kernel_rfl))
  f143 := Tryd.func40.trans (congrArg some (by kernel_rfl))
  f195 := Tryd.func38.trans (congrArg some (by kernel_rfl))
  f217 := Tryd.func80.trans (congrArg some (by kernel_rfl))
  f218 := Tryd.func39.trans (congrArg some (by kernel_rfl))
  f219 := Tryd.func65.trans (congrArg some (by kernel_rfl))
  f224 := Tryd.func82.trans (congrArg some (by kernel_rfl))
  f225 := Tryd.func81.trans (congrArg some (by kernel_rfl))
  f266 := Tryd.func96.trans (congrArg some (by kernel_rfl))
  f267 := Tryd.func83.trans (congrArg some (by kernel_rfl))
  f314 := Tryd.func97.trans (congrArg some (by kernel_rfl))
  t0 := Tryd.underlying0
  a0 := Tryd.isAgg0
  z0 := Tryd.sizeOf0
  v0 := Tryd.zeroValue0
  t3 := Tryd.underlying3
  a3 := Tryd.isAgg3
  z3 := Tryd.sizeOf3
  v3 := Tryd.zeroValue3
  t4 := Tryd.underlying4
  a4 := Tryd.isAgg4
  z4 := Tryd.sizeOf4
  v4 := Tryd.zeroValue4
  t5 := Tryd.underlying5
  a5 := Tryd.isAgg5
  z5 := Tryd.sizeOf5
  v5 := Tryd.zeroValue5
  t9 := Tryd.underlying9
  a9 := Tryd.isAgg9
  z9 := Tryd.sizeOf9
  v9 := Tryd.zeroValue9
  t46 := Tryd.underlying80
  a46 := Tryd.isAgg80
  z46 := Tryd.sizeOf80
  v46 := Tryd.zeroValue80
  t51 := Tryd.underlying78
  a51 := Tryd.isAgg78
  z51 := Tryd.sizeOf78
  v51 := Tryd.zeroValue78
  t146 := Tryd.underlying95
  a146 := Tryd.isAgg95
  z146 := Tryd.sizeOf95
  v146 := Tryd.zeroValue95
  g1 := by kernel_rfl }
def Tryd.lays146_ren : Go.Shelf.Ren := ⟨fun | 146 => 22 | 221 => 41 | 268 => 66 | 138 => 21 | 143 => 40 | 195 => 38 | 197 => 84 | 218 => 39 | 219 => 65 | 260 => 98 | 217 => 80 | 225 => 81 | 224 => 82 | 267 => 83 | 266 => 96 | 314 => 97 | n => n, fun | 9 => 9 | 31 => 44 | 3 => 3 | 4 => 4 | 0 => 0 | 105 => 99 | 21 => 21 | 5 => 5 | 46 => 80 | 119 => 110 | 139 => 113 | 138 => 112 | 146 => 95 | 51 => 78 | n => n, fun | 1 => 0 | 3 => 2 | 4 => 3 | n => n⟩
theorem Tryd.lays146 : Go.Proofs.Lays.n146 Tryd.prog Tryd.lays146_ren := {
  mixed := by kernel_rfl
  f138 := Tryd.func21.trans (congrArg some (by kernel_rfl))
  f143 := Tryd.func40.trans (congrArg some (by kernel_rfl))
  f146 := Tryd.func22.trans (congrArg some (by kernel_rfl))
  f195 := Tryd.func38.trans (congrArg some (by kernel_rfl))
  f197 := Tryd.func84.trans (congrArg some (by kernel_rfl))
  f217 := Tryd.func80.trans (congrArg some (by kernel_rfl))
  f218 := Tryd.func39.trans (congrArg some (by kernel_rfl))
  f219 := Tryd.func65.trans (congrArg some (by kernel_rfl))
  f221 := Tryd.func41.trans (congrArg some (by kernel_rfl))
  f224 := Tryd.func82.trans (congrArg some (by kernel_rfl))
  f225 := Tryd.func81.trans (congrArg some (by kernel_rfl))
  f260 := Tryd.func98.trans (congrArg some (by kernel_rfl))
  f266 := Tryd.func96.trans (congrArg some (by kernel_rfl))
  f267 := Tryd.func83.trans (congrArg some (by kernel_rfl))
  f268 := Tryd.func66.trans (congrArg some (by kernel_rfl))
  f314 := Tryd.func97.trans (congrArg some (by kernel_rfl))
  t0 := Tryd.underlying0
  a0 := Tryd.isAgg0
  z0 := Tryd.sizeOf0
  v0 := Tryd.zeroValue0
  t3 := Tryd.underlying3
  a3 := Tryd.isAgg3
  z3 := Tryd.sizeOf3
  v3 := Tryd.zeroValue3
  t4 := Tryd.underlying4
  a4 := Tryd.isAgg4
  z4 := Tryd.sizeOf4
  v4 := Tryd.zeroValue4
  t5 := Tryd.underlying5
  a5 := Tryd.isAgg5
  z5 := Tryd.sizeOf5
  v5 := Tryd.zeroValue5
  t9 := Tryd.underlying9
  a9 := Tryd.isAgg9
  z9 := Tryd.sizeOf9
  v9 := Tryd.zeroValue9
  t21 := Tryd.underlying21
  a21 := Tryd.isAgg21
  z21 := Tryd.sizeOf21
  v21 := Tryd.zeroValue21
  t31 := Tryd.underlying44
  a31 := Tryd.isAgg44
  z31 := Tryd.sizeOf44
  v31 := Tryd.zeroValue44
  t46 := Tryd.underlying80
  a46 := Tryd.isAgg80
  z46 := Tryd.sizeOf80
  v46 := Tryd.zeroValue80
  t51 := Tryd.underlying78
  a51 := Tryd.isAgg78
  z51 := Tryd.sizeOf78
  v51 := Tryd.zeroValue78
  t105 := Tryd.underlying99
  a105 := Tryd.isAgg99
  z105 := Tryd.sizeOf99
  v105 := Tryd.zeroValue99
  t119 := Tryd.underlying110
  a119 := Tryd.isAgg110
  z119 := Tryd.sizeOf110
  t138 := Tryd.underlying112
  a138 := Tryd.isAgg112
  z138 := Tryd.sizeOf112
  v138 := Tryd.zeroValue112
  t139 := Tryd.underlying113
  a139 := Tryd.isAgg113
  z139 := Tryd.sizeOf113
  v139 := Tryd.zeroValue113
  t146 := Tryd.underlying95
  a146 := Tryd.isAgg95
  z146 := Tryd.sizeOf95
  v146 := Tryd.zeroValue95
  g1 := by kernel_rfl
  g3 := by kernel_rfl
  g4 := by kernel_rfl }
end Go.Proofs
namespace Go.Proofs.YtfhinmdhjlmikaaDoor
set_option linter.unusedSimpArgs false
set_option linter.unusedVariables false
set_option maxRecDepth 100000
open Go.RowKit
theorem vi (s:ByteArray) (c:UInt8) (w:World):Calls Tryd.prog 21 #[.string s,.string (b1 c)] w fun e w'=>e= .returned (.int .i64 (Lib.countByte s.data.toList c))∧w'=w:=Any.strings_Count_one Tryd.lays138 s c w
theorem vj (s:ByteArray) (c:UInt8) (w:World) (hs:s.size<4294967281):Calls Tryd.prog 22 #[.string s,.string (b1 c)] w fun e w'=>
  e= .returned (.slice (some ⟨w.heap.size,0,none⟩) (Lib.countB s (b1 c)+1) (Lib.countB s (b1 c)+1))∧w'=w.alloc (.cells ((Lib.splitB (b1 c) 0 (Lib.countB s (b1 c)) s).map Value.string).toArray xP):=
 Any.strings_Split_one Tryd.lays146 (by kernel_rfl) s c w hs
section
variable {xs:List Fq} {ys:Rho} {n m k i:Nat} {x:Fq} {s:ByteArray} {c:UInt8} {l:Leaf} {e:Int} {ss:List ByteArray}
theorem jg (hn:(frs xs++ys)[n]? =some (.val (.string s))) (hl:∀B w,l.holds (frs xs++ys) B w (.int .i64 (Lib.countB s (b1 c):Int))):OkI xs ys ⟨21,[.one (.ref n),.one (.s (b1 c))],.v (.one l)⟩:=
 ⟨ai Tryd.func21 rfl rfl,fun B w vs hB h=>by
  match vs,h with
  | [va,vb],h=>
   have e1:=aj (B:=B) hn h.1
   have e2:vb= .string (b1 c):=h.2.1
   subst e1;subst e2
   refine(vi s c w).mono ?_
   rintro e w' ⟨rfl,rfl⟩
   refine⟨_,rfl,?_,Below.refl _ _⟩
   have e3:(Lib.countByte s.data.toList c)=Lib.countB s (b1 c):=(Lib.count_one c s.data.toList).symm
   rw[e3]
   exact hl B w'⟩
theorem k7 (hn:(frs xs++ys)[n]? =some (.val (.string s))) (hm:(frs xs++ys)[m]? =some (.strs ss)) (hl:Lib.splitB (b1 c) 0 (Lib.countB s (b1 c)) s=ss) (hs:s.size<4294967281):OkI xs ys ⟨22,[.one (.ref n),.one (.s (b1 c))],.v (.one (.ref m))⟩:=
 ⟨ai Tryd.func22 rfl rfl,fun B w vs hB h=>by
  match vs,h with
  | [va,vb],h=>
   have e1:=aj (B:=B) hn h.1
   have e2:vb= .string (b1 c):=h.2.1
   subst e1;subst e2
   refine(vj s c w hs).mono ?_
   rintro e w' ⟨rfl,rfl⟩
   have hlen:=Lib.splitB_all (b1 c) (Nat.le_refl 1) 0 _ s rfl
   rw[hl]at hlen
   rw[hl]
   refine⟨_,rfl,⟨_,hm,.inr ⟨w.heap.size,0,ss.length,_,by rw[hlen],Nat.le_refl _,heap_alloc_new w _,fun j q hj=> ?_⟩,fun g ⟨o',n',c',e'⟩ hx=> ?_⟩,eF w _⟩
   ·rw[List.getElem?_map]at hj
    obtain⟨z,hz,e1⟩:=Option.map_eq_some_iff.1 hj
    subst e1
    exact⟨.string z,by simp[hz],⟨rfl,aC⟩,fun _ h=>h⟩
   ·injection e' with e1;injection e1 with e1;injection e1 with e1 _ _;subst e1
    have:=hB _ hx;omega⟩
theorem xv {f:FuncId} (hen:fv f) (hc:∀w,Calls Tryd.prog f #[.string s] w (fun a w'=>cd w x e a w')) (hn:(frs xs++ys)[n]? =some (.val (.string s))) (hk:xs[k]? =some x) (hl:∀B w,l.holds (frs xs++ys) B w (.int .i64 e)):OkI xs ys ⟨f,[.one (.ref n)],.tup [fr k,.one l]⟩:=
 ⟨hen,fun B w vs hB h=>by
  match vs,h with
  | [va],h=>
   have e1:=aj (B:=B) hn h.1
   subst e1
   refine(hc w).mono ?_
   rintro a w' ⟨v,rfl,h1,h2⟩
   exact⟨_,rfl,⟨[v,.int .i64 e],rfl,(cW hk).2 h1,hl B w',trivial⟩,h2⟩⟩
theorem dC (hn:(frs xs++ys)[n]? =some (.val (.string s))) (hk:xs[k]? =some x) (hl:∀B w,l.holds (frs xs++ys) B w (.int .i64 e)) (h:FP s x e) (hs:s.size≤4294967280):OkI xs ys ⟨23,[.one (.ref n)],.tup [fr k,.one l]⟩:=
 xv (ai Tryd.func23 rfl rfl) (fun w=>uY s x e w h hs) hn hk hl
theorem dD (hn:(frs xs++ys)[n]? =some (.val (.string s))) (hk:xs[k]? =some x) (hl:∀B w,l.holds (frs xs++ys) B w (.int .i64 e)) (h:FP s x e) (hs:s.size≤4294967280):OkI xs ys ⟨24,[.one (.ref n)],.tup [fr k,.one l]⟩:=
 xv (ai Tryd.func24 rfl rfl) (fun w=>vf s x e w h hs) hn hk hl
theorem jV (hi:xs[i]? =some x) (hl:∀B w,l.holds (frs xs++ys) B w (.string x.fmt)) (ox:x.ok 1000000000):OkI xs ys ⟨25,[fr i],.v (.one l)⟩:=
 uQ (ai Tryd.func25 rfl rfl) (fun va w h1=>sP va x w h1 ox) hi hl
theorem jW (hi:xs[i]? =some x) (hl:∀B w,l.holds (frs xs++ys) B w (.string x.fmt)) (ox:x.ok 1000000000):OkI xs ys ⟨29,[fr i],.v (.one l)⟩:=
 uQ (ai Tryd.func29 rfl rfl) (fun va w h1=>sQ va x w h1 ox) hi hl
end
end Go.Proofs.YtfhinmdhjlmikaaDoor
namespace Go.Proofs.YtfhinmdhjlmikaaDoor
set_option linter.unusedSimpArgs false
set_option linter.unusedVariables false
set_option maxRecDepth 100000
open Go.RowKit
abbrev bU (W:World) (a:Vq) (c:Int) (e:Ending) (w':World):Prop:=RetLE W [a.x.raw,a.y.raw,a.z.raw] c e w'
def xvP1X (s:ByteArray):List Fq:=[]
theorem q_vP1 (s:ByteArray) (w:World) (h1:s.size<2) (hs:s.size≤4294967280):Calls Tryd.prog 9 #[.string s] w fun e w'=>bU w .zero 2 e w':=by
 refine(cRn (ρ:=frs (xvP1X s)++([.val (.string s),.val (.int .i64 ((s.size:Nat):Int))]:List Vp)) (args:=[.one (.ref 0)]) (vs:=[.string s]) (r:=.tup [.agg [.b false,.sl0,.sl0,.b false,.sl0,.sl0,.b false,.sl0,.sl0],.one (.i .i64 2)])
  (ag)
  (ac (aB (n:=0) (m:=1) (t:=9) (by kernel_rfl) rfl rfl) (ac (gH (n:=1) (c:=2) (u:=((s.size:Nat):Int)) (b:=true) (t:=3) rfl (decide_eq_true (by omega))) (ah))) Tryd.func9 (by kernel_rfl) ⟨ls (n:=0) rfl noB w,trivial⟩).mono ?_
 rintro e w' ⟨v,rfl,⟨vs,rfl,h1⟩,h2⟩
 match vs,h1 with
 | [r,cv],h1=>
  obtain⟨⟨cs,rfl,k1⟩,k2,_⟩:=h1
  have k2:cv=_:=k2
  subst k2
  exact⟨_,rfl,⟨_,rfl,bm (n:=3) k1⟩,h2⟩
def xvP2X (s:ByteArray):List Fq:=[]
theorem q_vP2 (s:ByteArray) (w:World) (h1:2≤s.size) (h2:by' s 0≠40) (hs:s.size≤4294967280):Calls Tryd.prog 9 #[.string s] w fun e w'=>bU w .zero 2 e w':=by
 refine(cRn (ρ:=frs (xvP2X s)++([.val (.string s),.val (.int .i64 ((s.size:Nat):Int)),.val (.int .u8 ((by' s 0:Nat):Int))]:List Vp)) (args:=[.one (.ref 0)]) (vs:=[.string s]) (r:=.tup [.agg [.b false,.sl0,.sl0,.b false,.sl0,.sl0,.b false,.sl0,.sl0],.one (.i .i64 2)])
  (ag)
  (ac (aB (n:=0) (m:=1) (t:=9) (by kernel_rfl) rfl rfl) (ac (gH (n:=1) (c:=2) (u:=((s.size:Nat):Int)) (b:=false) (t:=3) rfl (decide_eq_false (by omega))) (ac (bc (n:=0) (m:=2) (k:=0) (c:=0) (t:=9) (by kernel_rfl) rfl rfl (by omega) rfl) (ac (ba (n:=2) (c:=40) (u:=((by' s 0:Nat):Int)) (b:=true) (t:=5) rfl (cm (by omega))) (ah))))) Tryd.func9 (by kernel_rfl) ⟨ls (n:=0) rfl noB w,trivial⟩).mono ?_
 rintro e w' ⟨v,rfl,⟨vs,rfl,h1⟩,h2⟩
 match vs,h1 with
 | [r,cv],h1=>
  obtain⟨⟨cs,rfl,k1⟩,k2,_⟩:=h1
  have k2:cv=_:=k2
  subst k2
  exact⟨_,rfl,⟨_,rfl,bm (n:=3) k1⟩,h2⟩
def xvP3X (s:ByteArray):List Fq:=[]
theorem q_vP3 (s:ByteArray) (w:World) (h1:2≤s.size) (h2:by' s 0=40) (h3:by' s (s.size - 1)≠41) (hs:s.size≤4294967280):Calls Tryd.prog 9 #[.string s] w fun e w'=>bU w .zero 2 e w':=by
 refine(cRn (ρ:=frs (xvP3X s)++([.val (.string s),.val (.int .i64 ((s.size:Nat):Int)),.val (.int .u8 ((by' s 0:Nat):Int)),.val (.int .i64 (((s.size:Nat):Int) - 1)),.val (.int .u8 (((by' s (s.size - 1)):Nat):Int))]:List Vp)) (args:=[.one (.ref 0)]) (vs:=[.string s]) (r:=.tup [.agg [.b false,.sl0,.sl0,.b false,.sl0,.sl0,.b false,.sl0,.sl0],.one (.i .i64 2)])
  (ag)
  (ac (aB (n:=0) (m:=1) (t:=9) (by kernel_rfl) rfl rfl) (ac (gH (n:=1) (c:=2) (u:=((s.size:Nat):Int)) (b:=false) (t:=3) rfl (decide_eq_false (by omega))) (ac (bc (n:=0) (m:=2) (k:=0) (c:=0) (t:=9) (by kernel_rfl) rfl rfl (by omega) rfl) (ac (ba (n:=2) (c:=40) (u:=((by' s 0:Nat):Int)) (b:=false) (t:=5) rfl (du (by omega))) (ac (jK (n:=1) (m:=3) (c:=1) (u:=((s.size:Nat):Int)) (v:=(((s.size:Nat):Int) - 1)) (t:=3) rfl rfl rfl (by omega) (by omega)) (ac (bT (n:=0) (k:=3) (m:=4) (u:=(((s.size:Nat):Int) - 1)) (b:=(by' s (s.size - 1))) (t:=9) (by kernel_rfl) rfl rfl rfl (by omega) (by omega) (congrArg (by' s) (by omega))) (ac (ba (n:=4) (c:=41) (u:=(((by' s (s.size - 1)):Nat):Int)) (b:=true) (t:=5) rfl (cm (by omega))) (ah)))))))) Tryd.func9 (by kernel_rfl) ⟨ls (n:=0) rfl noB w,trivial⟩).mono ?_
 rintro e w' ⟨v,rfl,⟨vs,rfl,h1⟩,h2⟩
 match vs,h1 with
 | [r,cv],h1=>
  obtain⟨⟨cs,rfl,k1⟩,k2,_⟩:=h1
  have k2:cv=_:=k2
  subst k2
  exact⟨_,rfl,⟨_,rfl,bm (n:=3) k1⟩,h2⟩
def xvP4X (s:ByteArray):List Fq:=[]
theorem q_vP4 (s:ByteArray) (w:World) (h1:2≤s.size) (h2:by' s 0=40) (h3:by' s (s.size - 1)=41) (h4:Lib.countB s (b1 32)≠2) (hs:s.size≤4294967280):Calls Tryd.prog 9 #[.string s] w fun e w'=>bU w .zero 2 e w':=by
 refine(cRn (ρ:=frs (xvP4X s)++([.val (.string s),.val (.int .i64 ((s.size:Nat):Int)),.val (.int .u8 ((by' s 0:Nat):Int)),.val (.int .i64 (((s.size:Nat):Int) - 1)),.val (.int .u8 (((by' s (s.size - 1)):Nat):Int)),.val (.int .i64 ((Lib.countB s (b1 32):Nat):Int))]:List Vp)) (args:=[.one (.ref 0)]) (vs:=[.string s]) (r:=.tup [.agg [.b false,.sl0,.sl0,.b false,.sl0,.sl0,.b false,.sl0,.sl0],.one (.i .i64 2)])
  (ae (jg (n:=0) rfl (lr (n:=5) rfl)) ag)
  (ac (aB (n:=0) (m:=1) (t:=9) (by kernel_rfl) rfl rfl) (ac (gH (n:=1) (c:=2) (u:=((s.size:Nat):Int)) (b:=false) (t:=3) rfl (decide_eq_false (by omega))) (ac (bc (n:=0) (m:=2) (k:=0) (c:=0) (t:=9) (by kernel_rfl) rfl rfl (by omega) rfl) (ac (ba (n:=2) (c:=40) (u:=((by' s 0:Nat):Int)) (b:=false) (t:=5) rfl (du (by omega))) (ac (jK (n:=1) (m:=3) (c:=1) (u:=((s.size:Nat):Int)) (v:=(((s.size:Nat):Int) - 1)) (t:=3) rfl rfl rfl (by omega) (by omega)) (ac (bT (n:=0) (k:=3) (m:=4) (u:=(((s.size:Nat):Int) - 1)) (b:=(by' s (s.size - 1))) (t:=9) (by kernel_rfl) rfl rfl rfl (by omega) (by omega) (congrArg (by' s) (by omega))) (ac (ba (n:=4) (c:=41) (u:=(((by' s (s.size - 1)):Nat):Int)) (b:=false) (t:=5) rfl (du (by omega))) (ac (ba (n:=5) (c:=2) (u:=((Lib.countB s (b1 32):Nat):Int)) (b:=true) (t:=3) rfl (cm (by omega))) (ah))))))))) Tryd.func9 (by kernel_rfl) ⟨ls (n:=0) rfl noB w,trivial⟩).mono ?_
 rintro e w' ⟨v,rfl,⟨vs,rfl,h1⟩,h2⟩
 match vs,h1 with
 | [r,cv],h1=>
  obtain⟨⟨cs,rfl,k1⟩,k2,_⟩:=h1
  have k2:cv=_:=k2
  subst k2
  exact⟨_,rfl,⟨_,rfl,bm (n:=3) k1⟩,h2⟩
def xvP5X (s:ByteArray) (i j:Nat) (x:Fq) (c:Int):List Fq:=[x]
theorem q_vP5 (s:ByteArray) (i j:Nat) (x:Fq) (c:Int) (w:World) (h:gM s i j) (hx:FP (s.extract 1 i) x c) (h0:c≠0) (hs:s.size≤4294967280):Calls Tryd.prog 9 #[.string s] w fun e w'=>bU w .zero c e w':=by
 have hk:=cn h
 obtain⟨h1,h2,h3,_⟩:=h
 have q1:=hk.1
 have q2:=hk.2.1
 have q3:=hk.2.2.1
 refine(cRn (ρ:=frs (xvP5X s i j x c)++([.val (.string s),.val (.int .i64 ((s.size:Nat):Int)),.val (.int .u8 ((by' s 0:Nat):Int)),.val (.int .i64 (((s.size:Nat):Int) - 1)),.val (.int .u8 (((by' s (s.size - 1)):Nat):Int)),.val (.string (s.extract 1 (s.size - 1))),.strs [s.extract 1 i,s.extract (i+1) j,s.extract (j+1) (s.size - 1)],.strp (s.extract 1 i),.val (.string (s.extract 1 i)),.val (.int .i64 c)]:List Vp)) (args:=[.one (.ref 3)]) (vs:=[.string s]) (r:=.tup [.agg [.b false,.sl0,.sl0,.b false,.sl0,.sl0,.b false,.sl0,.sl0],.one (.ref 12)])
  (ae (jg (n:=3) rfl (li (by rw[hk.2.2.2.1]))) (ae (k7 (n:=8) (m:=9) (s:=(s.extract 1 (s.size - 1))) (ss:=[s.extract 1 i,s.extract (i+1) j,s.extract (j+1) (s.size - 1)]) rfl rfl (by rw[hk.2.2.2.2.1];exact hk.2.2.2.2.2) (by rw[bd (by omega)];omega)) (ae (dC (n:=11) (k:=0) (s:=(s.extract 1 i)) rfl rfl (lr (n:=12) rfl) hx (by rw[bd (by omega)];omega)) ag)))
  (ac (aB (n:=3) (m:=4) (t:=9) (by kernel_rfl) rfl rfl) (ac (gH (n:=4) (c:=2) (u:=((s.size:Nat):Int)) (b:=false) (t:=3) rfl (decide_eq_false (by omega))) (ac (bc (n:=3) (m:=5) (k:=0) (c:=0) (t:=9) (by kernel_rfl) rfl rfl (by omega) rfl) (ac (ba (n:=5) (c:=40) (u:=((by' s 0:Nat):Int)) (b:=false) (t:=5) rfl (du (by omega))) (ac (jK (n:=4) (m:=6) (c:=1) (u:=((s.size:Nat):Int)) (v:=(((s.size:Nat):Int) - 1)) (t:=3) rfl rfl rfl (by omega) (by omega)) (ac (bT (n:=3) (k:=6) (m:=7) (u:=(((s.size:Nat):Int) - 1)) (b:=(by' s (s.size - 1))) (t:=9) (by kernel_rfl) rfl rfl rfl (by omega) (by omega) (congrArg (by' s) (by omega))) (ac (ba (n:=7) (c:=41) (u:=(((by' s (s.size - 1)):Nat):Int)) (b:=false) (t:=5) rfl (du (by omega))) (ac (rk (n:=3) (k:=6) (m:=8) (c:=1) (u:=(((s.size:Nat):Int) - 1)) (z:=(s.extract 1 (s.size - 1))) (t:=9) (by kernel_rfl) rfl rfl rfl (by omega) (by omega) (by omega) (congrArg (s.extract 1) (by omega))) (ac (i6 (n:=9) (m:=10) (k:=0) (l:=[s.extract 1 i,s.extract (i+1) j,s.extract (j+1) (s.size - 1)]) (s:=s.extract 1 i) (t:=44) rfl rfl Tryd.underlying44 (by kernel_rfl) rfl) (ac (i7 (n:=10) (m:=11) (s:=(s.extract 1 i)) (t:=9) rfl rfl (by kernel_rfl)) (ac (ba (n:=12) (c:=0) (u:=c) (b:=true) (t:=33) rfl (cm h0)) (ah)))))))))))) Tryd.func9 (by kernel_rfl) ⟨ls (n:=3) rfl noB w,trivial⟩).mono ?_
 rintro e w' ⟨v,rfl,⟨vs,rfl,h1⟩,h2⟩
 match vs,h1 with
 | [r,cv],h1=>
  obtain⟨⟨cs,rfl,k1⟩,k2,_⟩:=h1
  obtain⟨sv,q1,q2⟩:=k2
  have q3:some (Vp.val (.int .i64 c))=some sv:=q1
  injection q3 with q3
  subst q3
  have k2:cv= .int .i64 c:=q2.1.1
  subst k2
  exact⟨_,rfl,⟨_,rfl,bm (n:=3) k1⟩,h2⟩
def xvP6X (s:ByteArray) (i j:Nat) (x y:Fq) (c:Int):List Fq:=[x,y]
theorem q_vP6 (s:ByteArray) (i j:Nat) (x y:Fq) (c:Int) (w:World) (h:gM s i j) (hx:FP (s.extract 1 i) x 0) (hy:FP (s.extract (i+1) j) y c) (h0:c≠0) (hs:s.size≤4294967280):Calls Tryd.prog 9 #[.string s] w fun e w'=>bU w .zero c e w':=by
 have hk:=cn h
 obtain⟨h1,h2,h3,_⟩:=h
 have q1:=hk.1
 have q2:=hk.2.1
 have q3:=hk.2.2.1
 refine(cRn (ρ:=frs (xvP6X s i j x y c)++([.val (.string s),.val (.int .i64 ((s.size:Nat):Int)),.val (.int .u8 ((by' s 0:Nat):Int)),.val (.int .i64 (((s.size:Nat):Int) - 1)),.val (.int .u8 (((by' s (s.size - 1)):Nat):Int)),.val (.string (s.extract 1 (s.size - 1))),.strs [s.extract 1 i,s.extract (i+1) j,s.extract (j+1) (s.size - 1)],.strp (s.extract 1 i),.val (.string (s.extract 1 i)),.strp (s.extract (i+1) j),.val (.string (s.extract (i+1) j)),.val (.int .i64 c)]:List Vp)) (args:=[.one (.ref 6)]) (vs:=[.string s]) (r:=.tup [.agg [.b false,.sl0,.sl0,.b false,.sl0,.sl0,.b false,.sl0,.sl0],.one (.ref 17)])
  (ae (jg (n:=6) rfl (li (by rw[hk.2.2.2.1]))) (ae (k7 (n:=11) (m:=12) (s:=(s.extract 1 (s.size - 1))) (ss:=[s.extract 1 i,s.extract (i+1) j,s.extract (j+1) (s.size - 1)]) rfl rfl (by rw[hk.2.2.2.2.1];exact hk.2.2.2.2.2) (by rw[bd (by omega)];omega)) (ae (dC (n:=14) (k:=0) (s:=(s.extract 1 i)) rfl rfl (li rfl) hx (by rw[bd (by omega)];omega)) (ae (dC (n:=16) (k:=1) (s:=(s.extract (i+1) j)) rfl rfl (lr (n:=17) rfl) hy (by rw[bd (by omega)];omega)) ag))))
  (ac (aB (n:=6) (m:=7) (t:=9) (by kernel_rfl) rfl rfl) (ac (gH (n:=7) (c:=2) (u:=((s.size:Nat):Int)) (b:=false) (t:=3) rfl (decide_eq_false (by omega))) (ac (bc (n:=6) (m:=8) (k:=0) (c:=0) (t:=9) (by kernel_rfl) rfl rfl (by omega) rfl) (ac (ba (n:=8) (c:=40) (u:=((by' s 0:Nat):Int)) (b:=false) (t:=5) rfl (du (by omega))) (ac (jK (n:=7) (m:=9) (c:=1) (u:=((s.size:Nat):Int)) (v:=(((s.size:Nat):Int) - 1)) (t:=3) rfl rfl rfl (by omega) (by omega)) (ac (bT (n:=6) (k:=9) (m:=10) (u:=(((s.size:Nat):Int) - 1)) (b:=(by' s (s.size - 1))) (t:=9) (by kernel_rfl) rfl rfl rfl (by omega) (by omega) (congrArg (by' s) (by omega))) (ac (ba (n:=10) (c:=41) (u:=(((by' s (s.size - 1)):Nat):Int)) (b:=false) (t:=5) rfl (du (by omega))) (ac (rk (n:=6) (k:=9) (m:=11) (c:=1) (u:=(((s.size:Nat):Int) - 1)) (z:=(s.extract 1 (s.size - 1))) (t:=9) (by kernel_rfl) rfl rfl rfl (by omega) (by omega) (by omega) (congrArg (s.extract 1) (by omega))) (ac (i6 (n:=12) (m:=13) (k:=0) (l:=[s.extract 1 i,s.extract (i+1) j,s.extract (j+1) (s.size - 1)]) (s:=s.extract 1 i) (t:=44) rfl rfl Tryd.underlying44 (by kernel_rfl) rfl) (ac (i7 (n:=13) (m:=14) (s:=(s.extract 1 i)) (t:=9) rfl rfl (by kernel_rfl)) (ac (i6 (n:=12) (m:=15) (k:=1) (l:=[s.extract 1 i,s.extract (i+1) j,s.extract (j+1) (s.size - 1)]) (s:=s.extract (i+1) j) (t:=44) rfl rfl Tryd.underlying44 (by kernel_rfl) rfl) (ac (i7 (n:=15) (m:=16) (s:=(s.extract (i+1) j)) (t:=9) rfl rfl (by kernel_rfl)) (ac (ba (n:=17) (c:=0) (u:=c) (b:=true) (t:=33) rfl (cm h0)) (ah)))))))))))))) Tryd.func9 (by kernel_rfl) ⟨ls (n:=6) rfl noB w,trivial⟩).mono ?_
 rintro e w' ⟨v,rfl,⟨vs,rfl,h1⟩,h2⟩
 match vs,h1 with
 | [r,cv],h1=>
  obtain⟨⟨cs,rfl,k1⟩,k2,_⟩:=h1
  obtain⟨sv,q1,q2⟩:=k2
  have q3:some (Vp.val (.int .i64 c))=some sv:=q1
  injection q3 with q3
  subst q3
  have k2:cv= .int .i64 c:=q2.1.1
  subst k2
  exact⟨_,rfl,⟨_,rfl,bm (n:=3) k1⟩,h2⟩
def xvP7X (s:ByteArray) (i j:Nat) (x y z:Fq) (c:Int):List Fq:=[x,y,z]
theorem q_vP7 (s:ByteArray) (i j:Nat) (x y z:Fq) (c:Int) (w:World) (h:gM s i j) (hx:FP (s.extract 1 i) x 0) (hy:FP (s.extract (i+1) j) y 0) (hz:FP (s.extract (j+1) (s.size - 1)) z c) (h0:c≠0) (hs:s.size≤4294967280):Calls Tryd.prog 9 #[.string s] w fun e w'=>bU w .zero c e w':=by
 have hk:=cn h
 obtain⟨h1,h2,h3,_⟩:=h
 have q1:=hk.1
 have q2:=hk.2.1
 have q3:=hk.2.2.1
 refine(cRn (ρ:=frs (xvP7X s i j x y z c)++([.val (.string s),.val (.int .i64 ((s.size:Nat):Int)),.val (.int .u8 ((by' s 0:Nat):Int)),.val (.int .i64 (((s.size:Nat):Int) - 1)),.val (.int .u8 (((by' s (s.size - 1)):Nat):Int)),.val (.string (s.extract 1 (s.size - 1))),.strs [s.extract 1 i,s.extract (i+1) j,s.extract (j+1) (s.size - 1)],.strp (s.extract 1 i),.val (.string (s.extract 1 i)),.strp (s.extract (i+1) j),.val (.string (s.extract (i+1) j)),.strp (s.extract (j+1) (s.size - 1)),.val (.string (s.extract (j+1) (s.size - 1))),.val (.int .i64 c)]:List Vp)) (args:=[.one (.ref 9)]) (vs:=[.string s]) (r:=.tup [.agg [.b false,.sl0,.sl0,.b false,.sl0,.sl0,.b false,.sl0,.sl0],.one (.ref 22)])
  (ae (jg (n:=9) rfl (li (by rw[hk.2.2.2.1]))) (ae (k7 (n:=14) (m:=15) (s:=(s.extract 1 (s.size - 1))) (ss:=[s.extract 1 i,s.extract (i+1) j,s.extract (j+1) (s.size - 1)]) rfl rfl (by rw[hk.2.2.2.2.1];exact hk.2.2.2.2.2) (by rw[bd (by omega)];omega)) (ae (dC (n:=17) (k:=0) (s:=(s.extract 1 i)) rfl rfl (li rfl) hx (by rw[bd (by omega)];omega)) (ae (dC (n:=19) (k:=1) (s:=(s.extract (i+1) j)) rfl rfl (li rfl) hy (by rw[bd (by omega)];omega)) (ae (dC (n:=21) (k:=2) (s:=(s.extract (j+1) (s.size - 1))) rfl rfl (lr (n:=22) rfl) hz (by rw[bd (by omega)];omega)) ag)))))
  (ac (aB (n:=9) (m:=10) (t:=9) (by kernel_rfl) rfl rfl) (ac (gH (n:=10) (c:=2) (u:=((s.size:Nat):Int)) (b:=false) (t:=3) rfl (decide_eq_false (by omega))) (ac (bc (n:=9) (m:=11) (k:=0) (c:=0) (t:=9) (by kernel_rfl) rfl rfl (by omega) rfl) (ac (ba (n:=11) (c:=40) (u:=((by' s 0:Nat):Int)) (b:=false) (t:=5) rfl (du (by omega))) (ac (jK (n:=10) (m:=12) (c:=1) (u:=((s.size:Nat):Int)) (v:=(((s.size:Nat):Int) - 1)) (t:=3) rfl rfl rfl (by omega) (by omega)) (ac (bT (n:=9) (k:=12) (m:=13) (u:=(((s.size:Nat):Int) - 1)) (b:=(by' s (s.size - 1))) (t:=9) (by kernel_rfl) rfl rfl rfl (by omega) (by omega) (congrArg (by' s) (by omega))) (ac (ba (n:=13) (c:=41) (u:=(((by' s (s.size - 1)):Nat):Int)) (b:=false) (t:=5) rfl (du (by omega))) (ac (rk (n:=9) (k:=12) (m:=14) (c:=1) (u:=(((s.size:Nat):Int) - 1)) (z:=(s.extract 1 (s.size - 1))) (t:=9) (by kernel_rfl) rfl rfl rfl (by omega) (by omega) (by omega) (congrArg (s.extract 1) (by omega))) (ac (i6 (n:=15) (m:=16) (k:=0) (l:=[s.extract 1 i,s.extract (i+1) j,s.extract (j+1) (s.size - 1)]) (s:=s.extract 1 i) (t:=44) rfl rfl Tryd.underlying44 (by kernel_rfl) rfl) (ac (i7 (n:=16) (m:=17) (s:=(s.extract 1 i)) (t:=9) rfl rfl (by kernel_rfl)) (ac (i6 (n:=15) (m:=18) (k:=1) (l:=[s.extract 1 i,s.extract (i+1) j,s.extract (j+1) (s.size - 1)]) (s:=s.extract (i+1) j) (t:=44) rfl rfl Tryd.underlying44 (by kernel_rfl) rfl) (ac (i7 (n:=18) (m:=19) (s:=(s.extract (i+1) j)) (t:=9) rfl rfl (by kernel_rfl)) (ac (i6 (n:=15) (m:=20) (k:=2) (l:=[s.extract 1 i,s.extract (i+1) j,s.extract (j+1) (s.size - 1)]) (s:=s.extract (j+1) (s.size - 1)) (t:=44) rfl rfl Tryd.underlying44 (by kernel_rfl) rfl) (ac (i7 (n:=20) (m:=21) (s:=(s.extract (j+1) (s.size - 1))) (t:=9) rfl rfl (by kernel_rfl)) (ac (ba (n:=22) (c:=0) (u:=c) (b:=true) (t:=33) rfl (cm h0)) (ah)))))))))))))))) Tryd.func9 (by kernel_rfl) ⟨ls (n:=9) rfl noB w,trivial⟩).mono ?_
 rintro e w' ⟨v,rfl,⟨vs,rfl,h1⟩,h2⟩
 match vs,h1 with
 | [r,cv],h1=>
  obtain⟨⟨cs,rfl,k1⟩,k2,_⟩:=h1
  obtain⟨sv,q1,q2⟩:=k2
  have q3:some (Vp.val (.int .i64 c))=some sv:=q1
  injection q3 with q3
  subst q3
  have k2:cv= .int .i64 c:=q2.1.1
  subst k2
  exact⟨_,rfl,⟨_,rfl,bm (n:=3) k1⟩,h2⟩
def xw (s:ByteArray) (i j:Nat) (x y z:Fq):List Fq:=[x,y,z]
theorem q_vP8 (s:ByteArray) (i j:Nat) (x y z:Fq) (w:World) (h:gM s i j) (hx:FP (s.extract 1 i) x 0) (hy:FP (s.extract (i+1) j) y 0) (hz:FP (s.extract (j+1) (s.size - 1)) z 0) (hs:s.size≤4294967280):Calls Tryd.prog 9 #[.string s] w fun e w'=>bU w ⟨x,y,z⟩ 0 e w':=by
 have hk:=cn h
 obtain⟨h1,h2,h3,_⟩:=h
 have q1:=hk.1
 have q2:=hk.2.1
 have q3:=hk.2.2.1
 refine(cRn (ρ:=frs (xw s i j x y z)++([.val (.string s),.val (.int .i64 ((s.size:Nat):Int)),.val (.int .u8 ((by' s 0:Nat):Int)),.val (.int .i64 (((s.size:Nat):Int) - 1)),.val (.int .u8 (((by' s (s.size - 1)):Nat):Int)),.val (.string (s.extract 1 (s.size - 1))),.strs [s.extract 1 i,s.extract (i+1) j,s.extract (j+1) (s.size - 1)],.strp (s.extract 1 i),.val (.string (s.extract 1 i)),.strp (s.extract (i+1) j),.val (.string (s.extract (i+1) j)),.strp (s.extract (j+1) (s.size - 1)),.val (.string (s.extract (j+1) (s.size - 1)))]:List Vp)) (args:=[.one (.ref 9)]) (vs:=[.string s]) (r:=.tup [row [0,1,2],.one (.i .i64 0)])
  (ae (jg (n:=9) rfl (li (by rw[hk.2.2.2.1]))) (ae (k7 (n:=14) (m:=15) (s:=(s.extract 1 (s.size - 1))) (ss:=[s.extract 1 i,s.extract (i+1) j,s.extract (j+1) (s.size - 1)]) rfl rfl (by rw[hk.2.2.2.2.1];exact hk.2.2.2.2.2) (by rw[bd (by omega)];omega)) (ae (dC (n:=17) (k:=0) (s:=(s.extract 1 i)) rfl rfl (li rfl) hx (by rw[bd (by omega)];omega)) (ae (dC (n:=19) (k:=1) (s:=(s.extract (i+1) j)) rfl rfl (li rfl) hy (by rw[bd (by omega)];omega)) (ae (dC (n:=21) (k:=2) (s:=(s.extract (j+1) (s.size - 1))) rfl rfl (li rfl) hz (by rw[bd (by omega)];omega)) ag)))))
  (ac (aB (n:=9) (m:=10) (t:=9) (by kernel_rfl) rfl rfl) (ac (gH (n:=10) (c:=2) (u:=((s.size:Nat):Int)) (b:=false) (t:=3) rfl (decide_eq_false (by omega))) (ac (bc (n:=9) (m:=11) (k:=0) (c:=0) (t:=9) (by kernel_rfl) rfl rfl (by omega) rfl) (ac (ba (n:=11) (c:=40) (u:=((by' s 0:Nat):Int)) (b:=false) (t:=5) rfl (du (by omega))) (ac (jK (n:=10) (m:=12) (c:=1) (u:=((s.size:Nat):Int)) (v:=(((s.size:Nat):Int) - 1)) (t:=3) rfl rfl rfl (by omega) (by omega)) (ac (bT (n:=9) (k:=12) (m:=13) (u:=(((s.size:Nat):Int) - 1)) (b:=(by' s (s.size - 1))) (t:=9) (by kernel_rfl) rfl rfl rfl (by omega) (by omega) (congrArg (by' s) (by omega))) (ac (ba (n:=13) (c:=41) (u:=(((by' s (s.size - 1)):Nat):Int)) (b:=false) (t:=5) rfl (du (by omega))) (ac (rk (n:=9) (k:=12) (m:=14) (c:=1) (u:=(((s.size:Nat):Int) - 1)) (z:=(s.extract 1 (s.size - 1))) (t:=9) (by kernel_rfl) rfl rfl rfl (by omega) (by omega) (by omega) (congrArg (s.extract 1) (by omega))) (ac (i6 (n:=15) (m:=16) (k:=0) (l:=[s.extract 1 i,s.extract (i+1) j,s.extract (j+1) (s.size - 1)]) (s:=s.extract 1 i) (t:=44) rfl rfl Tryd.underlying44 (by kernel_rfl) rfl) (ac (i7 (n:=16) (m:=17) (s:=(s.extract 1 i)) (t:=9) rfl rfl (by kernel_rfl)) (ac (i6 (n:=15) (m:=18) (k:=1) (l:=[s.extract 1 i,s.extract (i+1) j,s.extract (j+1) (s.size - 1)]) (s:=s.extract (i+1) j) (t:=44) rfl rfl Tryd.underlying44 (by kernel_rfl) rfl) (ac (i7 (n:=18) (m:=19) (s:=(s.extract (i+1) j)) (t:=9) rfl rfl (by kernel_rfl)) (ac (i6 (n:=15) (m:=20) (k:=2) (l:=[s.extract 1 i,s.extract (i+1) j,s.extract (j+1) (s.size - 1)]) (s:=s.extract (j+1) (s.size - 1)) (t:=44) rfl rfl Tryd.underlying44 (by kernel_rfl) rfl) (ac (i7 (n:=20) (m:=21) (s:=(s.extract (j+1) (s.size - 1))) (t:=9) rfl rfl (by kernel_rfl)) (ah))))))))))))))) Tryd.func9 (by kernel_rfl) ⟨ls (n:=9) rfl noB w,trivial⟩).mono ?_
 rintro e w' ⟨v,rfl,⟨vs,rfl,h1⟩,h2⟩
 match vs,h1 with
 | [r,cv],h1=>
  obtain⟨⟨cs,rfl,k1⟩,k2,_⟩:=h1
  have k2:cv=_:=k2
  subst k2
  exact⟨_,rfl,(aR (xs:=xw s i j x y z) (ks:=[0,1,2]) (vs:=[x,y,z]) ⟨rfl,rfl,rfl,trivial⟩).1 ⟨_,rfl,k1⟩,h2⟩
theorem ew (s:ByteArray) (v:Vq) (c:Int) (w:World) (h:VP s v c) (hs:s.size≤4294967280):Calls Tryd.prog 9 #[.string s] w fun e w'=>bU w v c e w':=by
 cases h with
 | form h=>
  by_cases h1:s.size<2
  ·exact q_vP1 s w h1 hs
  by_cases h2:by' s 0=40
  ·by_cases h3:by' s (s.size - 1)=41
   ·refine q_vP4 s w (by omega) h2 h3 (fun h4=> ?_) hs
    obtain⟨i,j,h5⟩:=oe h4
    exact h i j ⟨by omega,h2,h3,h5⟩
   ·exact q_vP3 s w (by omega) h2 h3 hs
  ·exact q_vP2 s w (by omega) h2 hs
 | e0 h hx h0=>exact q_vP5 s _ _ _ _ w h hx h0 hs
 | e1 h hx hy h0=>exact q_vP6 s _ _ _ _ _ w h hx hy h0 hs
 | e2 h hx hy hz h0=>exact q_vP7 s _ _ _ _ _ _ w h hx hy hz h0 hs
 | good h hx hy hz=>exact q_vP8 s _ _ _ _ _ w h hx hy hz hs
end Go.Proofs.YtfhinmdhjlmikaaDoor
namespace Go.Proofs.YtfhinmdhjlmikaaDoor
set_option linter.unusedSimpArgs false
set_option linter.unusedVariables false
set_option maxRecDepth 100000
open Go.RowKit
/-- A pose: a rotation and a position. -/
structure Pq where
 rot:Qq
 pos:Vq
def Pq.cs (p:Pq):List Fq:=[p.rot.w,p.rot.x,p.rot.y,p.rot.z,p.pos.x,p.pos.y,p.pos.z]
structure Pq.ok (d:Nat) (p:Pq):Prop where
 rot:p.rot.ok d
 pos:p.pos.ok d
structure Pq.good (p:Pq):Prop where
 rot:p.rot.good
 pos:p.pos.good
def Pq.id:Pq:=⟨Qq.id,Vq.of 0 0 0⟩
def Pq.zero:Pq:=⟨Qq.zero,⟨.zero,.zero,.zero⟩⟩
/-- The image of a point. -/
def Pq.app (p:Pq) (v:Vq):Vq:=(p.rot.app v).add p.pos
/-- One after the other. -/
def Pq.mul (a b:Pq):Pq:=⟨a.rot.mul b.rot,a.app b.pos⟩
def Pq.inv (a:Pq):Pq:=⟨a.rot.inv,a.rot.inv.app (a.pos.scale (Fq.ofInt (-1)))⟩
theorem Pq.ok.mono {p:Pq} {d e:Nat} (h:p.ok d) (k:d≤e):p.ok e:=⟨h.rot.mono k,h.pos.mono k⟩
theorem Pq.good.app {p:Pq} {v:Vq} (h:p.good) (k:v.good):(p.app v).good:=(pu h.rot k).add h.pos
theorem Pq.good.mul {a b:Pq} (h:a.good) (k:b.good):(a.mul b).good:=⟨uE h.rot k.rot,h.app k.pos⟩
theorem Pq.good.inv {a:Pq} (h:a.good):a.inv.good:=⟨lX h.rot,pu (lX h.rot) (h.pos.scale (a8 _))⟩
theorem Pq.good.id:Pq.id.good:=⟨wG,Vq.good.of 0 0 0⟩
theorem Pq.ok.app {p:Pq} {v:Vq} {d e:Nat} (h:p.ok d) (k:v.ok e) (g:p.good):(p.app v).ok (700*(d+e)+300):=((h.rot.app k g.rot).add h.pos).mono (by omega)
theorem Pq.ok.mul {a b:Pq} {d e:Nat} (h:a.ok d) (k:b.ok e) (g:a.good) (l:b.good):(a.mul b).ok (700*(d+e)+300):=⟨(h.rot.mulg k.rot g.rot l.rot).mono (by omega),h.app k.pos g⟩
theorem Pq.ok.inv {a:Pq} {d:Nat} (h:a.ok d) (g:a.good):a.inv.ok (1000*d+3000):=⟨(h.rot.inv g.rot).mono (by omega),((h.rot.inv g.rot).app (h.pos.scale (dx (by decide) (by decide))) (lX g.rot)).mono (by omega)⟩
end Go.Proofs.YtfhinmdhjlmikaaDoor
namespace Go.Proofs.YtfhinmdhjlmikaaDoor
set_option linter.unusedSimpArgs false
set_option linter.unusedVariables false
set_option maxRecDepth 100000
open Go.RowKit
theorem og {v:Value} (h:gx v):v.oneCell'=true:=by
 cases v with
 | agg cs=>exact absurd rfl (h.1 cs)
 | tuple vs=>exact absurd rfl (h.2.1 vs)
 | _=>rfl
/-- What the cells of a list are. -/
def b8 (w:World) (qs:List Vp) (xs:List Value):Prop:=xs.length=qs.length∧∀(j:Nat) (q:Vp),qs[j]? =some q→∃u,xs[j]? =some u∧q.p w u∧∀g,¬q.fp w u g
theorem b8.append {w:World} {qs qs':List Vp} {xs xs':List Value} (h:b8 w qs xs) (h':b8 w qs' xs'):b8 w (qs++qs') (xs++xs'):=by
 refine⟨by simp[h.1,h'.1],fun j q hj=> ?_⟩
 by_cases hl:j<qs.length
 ·rw[List.getElem?_append_left hl]at hj
  obtain⟨u,h1,h2⟩:=h.2 j q hj
  exact⟨u,by rw[List.getElem?_append_left (by rw[h.1];exact hl)];exact h1,h2⟩
 ·rw[List.getElem?_append_right (by omega)]at hj
  obtain⟨u,h1,h2⟩:=h'.2 _ q hj
  exact⟨u,by rw[List.getElem?_append_right (by rw[h.1];omega),h.1];exact h1,h2⟩
theorem b8.chg {w w':World} {X:Nat→Prop} {qs:List Vp} {xs:List Value} (h:b8 w qs xs) (k:Chg w w' X):b8 w' qs xs:=
 ⟨h.1,fun j q hj=>by
  obtain⟨u,h1,h2,h3⟩:=h.2 j q hj
  obtain⟨c1,c2⟩:=q.ch w w' X u h2 k (fun g hg=>absurd hg (h3 g))
  exact⟨u,h1,c1,fun g hg=>h3 g (c2 g hg)⟩⟩
theorem b8.flat {w:World} {qs:List Vp} {xs:List Value} (h:b8 w qs xs):∀u∈xs,gx u:=fun u hu=>by
 obtain⟨j,hj,rfl⟩:=List.getElem_of_mem hu
 have hq:j<qs.length:=by rw[←h.1];exact hj
 obtain⟨u',h1,h2,_⟩:=h.2 j _ (List.getElem?_eq_getElem hq)
 rw[List.getElem?_eq_getElem hj]at h1
 injection h1 with h1
 rw[h1]
 exact qs[j].fl w u' h2
/-- No digit lies in such a cell. -/
def noU (u:Value):Prop:=∀n,u≠ .int .u32 n
/-- A row that the call itself made; no digit lies in its block. -/
def jX (w:World) (T:TypeId) (sz:Nat) (v:Value) (L:Nat) (xs:List Value):Prop:=w.ownsRow 0 T sz v L xs∧∀g,v.ownBlock=some g→Own w g
theorem qC {w:World} {g:Nat} {cs:Array Value} {t:TypeId} (h:w.heap[g]? =some (.cells cs t (0,0))) (hc:∀u∈cs.toList,noU u):Own w g:=
 ⟨cs,t,h,fun k n hk=>hc (.int .u32 n) (by rw[←Array.getElem?_toList]at hk;exact List.mem_of_getElem? hk) n rfl⟩
theorem sR {w:World} {g:Nat} {cs:Array Value} {t:TypeId} {fz:Nat×Nat} (h:w.heap[g]? =some (.cells cs t fz)) (o:Own w g):∀u∈cs.toList,noU u:=fun u hu n e=>by
 obtain⟨cs',t',h1,h2⟩:=o
 rw[h]at h1
 injection h1 with h1;injection h1 with h1 _ _;subst h1
 obtain⟨k,hk⟩:=List.getElem?_of_mem hu
 rw[Array.getElem?_toList,e]at hk
 exact h2 k n hk
theorem vk {z:Array Value} (hz:∀u∈z.toList,noU u) (h0:0<z.size) (n:Nat):∀u∈(Builtin.zeroCells z n).toList,noU u:=fun u hu=>by
 unfold Builtin.zeroCells at hu
 simp only[Array.toList_map,Array.toList_range,List.mem_map]at hu
 obtain⟨i,_,rfl⟩:=hu
 have hk:i % z.size<z.size:=Nat.mod_lt _ h0
 rw[getElem!_pos z _ hk]
 exact hz _ (by simp)
theorem wT {p:Program} {w:World} {t ty e:TypeId} {i:TypeInfo} {z:Value} (ht:p.underlying t=some (.slice e)) (hi:p.info? e=some i) (hz:i.zero=some z) (hzs:z.cells.size=i.size) (hsz:0<i.size) (hzu:∀u∈z.cells.toList,noU u)
  {v:Value} {n:Nat} {xs:List Value} (ho:jX w e i.size v n xs) {a:Addr} {m c:Nat} {news:List Value} (hl:news.length=m*i.size) (hnews:∀j u,news[j]? =some u→w.cell? (a.add j)=some u) (h1:∀u∈news,u.oneCell'=true) (hnu:∀u∈news,noU u)
  (hm:0<m) (hb:(n+m)*i.bytes≤140737488355328) (hn:n+m≤1000000000000000):
  ∃v' w',(Builtin.append_ #[t,t] ty #[v,.slice (some a) m c]).run p w= .ok v' w'∧w.grownBy w' v.ownBlock∧(∀g,v.ownBlock=some g→Own w' g)∧(∀g,v'.ownBlock=some g→v.ownBlock=some g∨w.heap.size≤g)∧jX w' e i.size v' (n+m) (xs++news):=by
 obtain⟨hown,hOwn⟩:=ho
 have hlen:(xs++news).length=(n+m)*i.size:=by rw[List.length_append,hown.1,hl,Nat.add_mul]
 have hmax:n+m≤maxLen:=by simp only[maxLen];omega
 have moved:∀old,(∀u∈xs,noU u)→
   w.grownBy (w.drew.alloc (.cells (xs.toArray++news.toArray++Builtin.zeroCells z.cells (grownCap w (n+m) old e - (n+m))) e)) v.ownBlock∧
   jX (w.drew.alloc (.cells (xs.toArray++news.toArray++Builtin.zeroCells z.cells (grownCap w (n+m) old e - (n+m))) e)) e i.size (.slice (some ⟨w.heap.size,0,none⟩) (n+m) (grownCap w (n+m) old e)) (n+m) (xs++news):=by
  intro old hxu
  have h2:=grownCap_ge w (n+m) old e
  have hnew:=heap_alloc_new w.drew (.cells (xs.toArray++news.toArray++Builtin.zeroCells z.cells (grownCap w (n+m) old e - (n+m))) e)
  refine⟨⟨rfl,rfl,rfl,by simp,fun k hk _=>heap_alloc_old w.drew _ hk⟩,⟨hlen,.inr ⟨w.heap.size,_,_,rfl,Nat.zero_le _,hnew,h2,grownCap_le_maxLen w (n+m) old e hmax,?_,?_⟩⟩,fun g hg=> ?_⟩
  ·simp only[Array.size_append,List.size_toArray,size_zeroCells,hzs,hown.1,hl]
   rw[←Nat.add_mul,←Nat.add_mul]
   congr 1;omega
  ·simp only[Array.toList_append,List.append_assoc]
   rw[←List.append_assoc,←hlen]
   exact List.take_left
  ·injection hg with hg;subst hg
   refine qC hnew (fun u hu=> ?_)
   simp only[Array.toList_append,List.mem_append]at hu
   rcases hu with(hu | hu) | hu
   ·exact hxu u hu
   ·exact hnu u hu
   ·exact vk hzu (by omega) _ u hu
 rcases hown.2 with⟨rfl,rfl⟩ | ⟨g,cap,cur,rfl,hbg,hg,hnc,hcm,hcs,htake⟩
 ·have hx:xs=[]:=List.eq_nil_of_length_eq_zero (by simpa using hown.1)
  subst hx
  have hr:=run_append_nil (P:=p) w t ty e i z ht hi hz a m c news hl hnews (by omega) (by omega) (by have:=hb;simp only[Nat.zero_add]at this;omega)
  have h2:=moved 0 (fun u hu=>by cases hu)
  simp only[Nat.zero_add,List.nil_append,Array.empty_append]at h2⊢
  exact⟨_,_,hr,h2.1,fun g hg=>(by cases hg),fun g hg=>.inr (by have h:w.heap.size=g:=Option.some.inj hg;omega),h2.2⟩
 ·have hcu:=sR hg (hOwn g rfl)
  by_cases hroom:n+m≤cap
  ·have hfit:n*i.size+news.length≤cur.size:=by rw[hl,hcs,←Nat.add_mul];exact Nat.mul_le_mul_right _ hroom
   have hr:=run_append_room (P:=p) w t ty e i ht hi g n cap cur hg a m c news hl hnews h1 hroom hfit
   have hset:=setRow_heap w g cur (cur.toList.take (n*i.size)++news++cur.toList.drop (n*i.size+news.length)).toArray e (0,0) hg
   refine⟨_,_,hr,⟨rfl,rfl,rfl,by simp,fun k _ hk=>setRow_other w g k _ (fun e=>hk (by simp[Value.ownBlock,e]))⟩,fun g' hg'=> ?_,fun g' hg'=>.inl hg',⟨hlen,.inr ⟨g,cap,_,rfl,hbg,hset,hroom,hcm,?_,?_⟩⟩,fun g' hg'=> ?_⟩
   ·injection hg' with hg';subst hg'
    refine qC hset (fun u hu=> ?_)
    simp only[List.mem_append]at hu
    rcases hu with(hu | hu) | hu
    ·exact hcu u (List.mem_of_mem_take hu)
    ·exact hnu u hu
    ·exact hcu u (List.mem_of_mem_drop hu)
   ·simp only[List.size_toArray,List.length_append,List.length_take,List.length_drop,Array.length_toList]
    omega
   ·rw[htake,←hlen]
    exact List.take_left
   ·injection hg' with hg';subst hg'
    refine qC hset (fun u hu=> ?_)
    simp only[List.mem_append]at hu
    rcases hu with(hu | hu) | hu
    ·exact hcu u (List.mem_of_mem_take hu)
    ·exact hnu u hu
    ·exact hcu u (List.mem_of_mem_drop hu)
  ·have holds:∀j u,xs[j]? =some u→w.cell? ((⟨g,0,none⟩:Addr).add j)=some u:=hown.cells (g:=g) rfl
   have hr:=run_append_grow (P:=p) w t ty e i z ht hi hz ⟨g,0,none⟩ n cap xs hown.1 holds a m c news hl hnews (by omega) (by omega) (growslice_fits (by omega) hb)
   have h2:=moved cap (fun u hu=>hcu u (by rw[←htake]at hu;exact List.mem_of_mem_take hu))
   exact⟨_,_,hr,h2.1,fun g' hg'=>by
    injection hg' with hg';subst hg'
    obtain⟨cs,t,k1,k2⟩:=hOwn g rfl
    exact⟨cs,t,(heap_alloc_old w.drew _ (Array.getElem?_eq_some_iff.1 k1).1).trans k1,k2⟩,fun g' hg'=>.inr (by have h:w.heap.size=g':=Option.some.inj hg';omega),h2.2⟩
/-- A row that the call itself made: L parts of type T, sz cells each. -/
def Vp.ownr (T:TypeId) (sz L:Nat) (qs:List Vp):Vp:=.of (fun w v=>∃xs,jX w T sz v L xs∧b8 w qs xs)
 (fun v g=>v.ownBlock=some g)
 (fun w w' X v ⟨xs,⟨⟨h1,h2⟩,h0⟩,k⟩ hc hX=>by
  have hsame:∀g,v.ownBlock=some g→w'.heap[g]? =w.heap[g]? :=fun g hg=>hc.blk g (by obtain⟨cs,t,h,_⟩:=h0 g hg;exact(Array.getElem?_eq_some_iff.1 h).1) (hX g hg)
  refine⟨xs,⟨⟨h1,h2.imp id fun⟨g,cap,cur,e,hb,hg,hr⟩=>⟨g,cap,cur,e,hb,by rw[hsame g (by rw[e];rfl)];exact hg,hr⟩⟩,fun g hg=> ?_⟩,k.chg hc⟩
  obtain⟨cs,t,h3,h4⟩:=h0 g hg
  exact⟨cs,t,by rw[hsame g hg];exact h3,h4⟩)
 (fun w v g ⟨xs,⟨_,h0⟩,_⟩ hg=>by obtain⟨cs,t,h,_⟩:=h0 g hg;exact(Array.getElem?_eq_some_iff.1 h).1)
 (fun w v ⟨xs,⟨⟨_,h⟩,_⟩,_⟩=>by
  rcases h with⟨rfl,_⟩ | ⟨g',cap,cur,rfl,_⟩<;>exact lP)
section
variable {ρ:Rho} {n m r k i L M:Nat} {t T:TypeId} {qs qs':List Vp} {z:Value} {ti:TypeInfo} {l:Leaf}
theorem vl {w:World} {x:Value} (hx:(Vp.row T M qs').p w x) (h0:qs'≠ []):∃a c news,x= .slice (some a) M c∧b8 w qs' news∧(∀j u,news[j]? =some u→w.cell? (a.add j)=some u):=by
 rcases hx with⟨h,_⟩ | ⟨b,o,c,cs,rfl,hc,hb,hq⟩
 ·exact absurd h h0
 ·have:∃news:List Value,b8 w qs' news∧∀j u,news[j]? =some u→cs[o+j]? =some u:=by
   clear h0 hc hb
   induction qs' generalizing o with
   | nil=>exact⟨[],⟨rfl,fun j q h=>by simp at h⟩,fun j u h=>by simp at h⟩
   | cons q qs ih=>
    obtain⟨u,h1,h2,h3⟩:=hq 0 q rfl
    obtain⟨news,h4,h5⟩:=ih (o+1) (fun j q hj=>by
     obtain⟨u,h1,h2⟩:=hq (j+1) q (by simpa using hj)
     exact⟨u,by rw[show o+1+j=o+(j+1)from by omega];exact h1,h2⟩)
    refine⟨u::news,⟨by simp[h4.1],fun j q' hj=> ?_⟩,fun j u' hj=> ?_⟩
    ·match j with
     | 0=>simp at hj;subst hj;exact⟨u,rfl,h2,h3⟩
     | j+1=>obtain⟨u',k1,k2⟩:=h4.2 j q' (by simpa using hj);exact⟨u',by simpa using k1,k2⟩
    ·match j with
     | 0=>simp at hj;subst hj;exact h1
     | j+1=>have:=h5 j u' (by simpa using hj);rwa [show o+1+j=o+(j+1)from by omega]at this
  obtain⟨news,h1,h2⟩:=this
  exact⟨⟨b,o,none⟩,c,news,rfl,h1,fun j u hj=>by rw[fO,gT hb];exact h2 j u hj⟩
/-- What a leaf says of the row before the append. -/
def BefO (ρ:Rho) (i:Nat) (T:TypeId) (sz L:Nat) (qs:List Vp) (l:Leaf):Prop:=(l= .sl0∧L=0∧qs=[])∨∃n,l= .own i n∧ρ[n]? =some (.ownr T sz L qs)
/-- A row that is left is a row like others. -/
theorem pA {w:World} {v:Value} {sz:Nat} (h:(Vp.ownr T sz L qs).p w v):(Vp.row T L qs).p w v:=by
 obtain⟨xs,⟨⟨h1,h2⟩,_⟩,h3⟩:=h
 rcases h2 with⟨rfl,rfl⟩ | ⟨g,cap,cur,rfl,_,hg,hn,_,hcs,htake⟩
 ·refine .inl ⟨?_,rfl,rfl⟩
  have:xs.length=0:=by simpa using h1
  exact List.eq_nil_of_length_eq_zero (by rw[←h3.1];exact this)
 ·refine .inr ⟨g,0,cap,cur,rfl,hn,hg,fun j q hj=> ?_⟩
  obtain⟨u,k1,k2⟩:=h3.2 j q hj
  refine⟨u,?_,k2⟩
  rw[←htake,List.getElem?_take]at k1
  split at k1
  ·rw[Nat.zero_add,←Array.getElem?_toList];exact k1
  ·cases k1
def noUb:Value→Bool
 | .int .u32 _=>false
 | _=>true
/-- What the model knows of a row's parts: their size, their bytes, and that they hold no digits at first. -/
def appB (p:Program) (T:TypeId) (sz bytes:Nat):Bool:=match p.info? T with
 | some ti=>(match ti.zero with | some z=>z.cells.size==sz && z.cells.toList.all noUb | none=>false) && (ti.size==sz && (ti.bytes==bytes && decide (0<sz)))
 | none=>false
end
end Go.Proofs.YtfhinmdhjlmikaaDoor
namespace Go.Proofs.YtfhinmdhjlmikaaDoor
set_option linter.unusedSimpArgs false
set_option linter.unusedVariables false
set_option maxRecDepth 100000
open Go.RowKit
/-- A time and a pose. -/
structure St where
 tm:Int
 pose:Pq
def St.qs (s:St):List Vp:=.val (.int .i64 s.tm)::frs s.pose.cs
/-- A leaf that holds this number. -/
def KI (ρ:Rho) (l:Leaf) (k:IntKind) (u:Int):Prop:=∀B w x,l.holds ρ B w x→x= .int k u
section
variable {ρ:Rho} {n m k r:Nat} {u v c:Int} {b d:Bool} {l l':Leaf} {t T e:TypeId} {B:Blk} {w:World} {ik:IntKind} {x:St} {S:List St}
theorem aW:KI ρ (.i ik c) ik c:=fun _ _ _ h=>h
theorem aG (h:ρ[n]? =some (.val (.int ik u))):KI ρ (.ref n) ik u:=fun _ _ _ hx=>aj h hx
/-- Comparisons of two numbers. -/
def gi (op:BinOp) (u v:Int):Option Bool:=match op with
 | .eql=>some (u==v)
 | .neq=>some (u !=v)
 | .lss=>some (decide (u<v))
 | .leq=>some (decide (u≤v))
 | .gtr=>some (decide (v<u))
 | .geq=>some (decide (v≤u))
 | _=>none
theorem aL {op:BinOp} (h1:KI ρ l ik u) (h2:KI ρ l' ik v) (hb:gi op u v=some b):(OIns.mk (.bin op t) [.one l,.one l'] (.one (.b b))).Ok Tryd.prog ρ:=fun B w vs hv=>by
 match vs,hv with
 | [v1,v2],hv=>
  have e:=h1 _ _ _ hv.1
  have e2:=h2 _ _ _ hv.2.1
  subst e;subst e2
  refine⟨.bool b,rfl,fun xo yo=> ?_⟩
  cases op<;>simp only[gi,Option.some.injEq]at hb<;>first | (cases hb;done) | (subst hb;simp[eqGuard,binOp,Op.intCmp,Sem.run_bind,Result.andThen])
theorem gN (h1:KI ρ l .i64 u) (h2:KI ρ l' .i64 v) (hm:ρ[m]? =some (.val (.int .i64 c))) (hc:c=u - v) (k1: -9223372036854775808≤u - v) (k2:u - v≤9223372036854775807):(OIns.mk (.bin .sub t) [.one l,.one l'] (.one (.ref m))).Ok Tryd.prog ρ:=fun B w vs hv=>by
 match vs,hv with
 | [v1,v2],hv=>
  have e:=h1 _ _ _ hv.1
  have e2:=h2 _ _ _ hv.2.1
  subst e;subst e2;subst hc
  refine⟨.int .i64 (u - v),am hm aV,fun xo yo=> ?_⟩
  have hw:IntKind.i64.wrap (u - v)=u - v:=by rw[IntKind.wrap_i64];omega
  simp[eqGuard,binOp,Op.intArith,Sem.run_bind,Result.andThen,hw]
theorem fi (h1:KI ρ l .i64 u) (h2:KI ρ l' .i64 v) (hm:ρ[m]? =some (.val (.int .i64 c))) (hc:c=u+v) (k1: -9223372036854775808≤u+v) (k2:u+v≤9223372036854775807):(OIns.mk (.bin .add t) [.one l,.one l'] (.one (.ref m))).Ok Tryd.prog ρ:=fun B w vs hv=>by
 match vs,hv with
 | [v1,v2],hv=>
  have e:=h1 _ _ _ hv.1
  have e2:=h2 _ _ _ hv.2.1
  subst e;subst e2;subst hc
  refine⟨.int .i64 (u+v),am hm aV,fun xo yo=> ?_⟩
  have hw:IntKind.i64.wrap (u+v)=u+v:=by rw[IntKind.wrap_i64];omega
  simp[eqGuard,binOp,Op.intArith,Sem.run_bind,Result.andThen,hw]
theorem yK {v:Value} {qs:List Vp} {L:Nat} (h:(Vp.row T L qs).p w v) (h0:qs≠ []):∃b o c cs,v= .slice (some ⟨b,o,none⟩) L c∧L≤c∧w.heap[b]? =some (.cells cs T (0,0))∧∀j q,qs[j]? =some q→∃u,cs[o+j]? =some u∧q.p w u∧∀g,¬q.fp w u g:=by
 rcases h with⟨h,_⟩ | h
 ·exact absurd h h0
 ·exact h
end
end Go.Proofs.YtfhinmdhjlmikaaDoor
namespace Go.Proofs.YtfhinmdhjlmikaaDoor
set_option linter.unusedSimpArgs false
set_option linter.unusedVariables false
set_option maxRecDepth 100000
open Go.RowKit
/-- An append of nothing. -/
theorem vm {p:Program} {w:World} {t ty e:TypeId} (ht:p.underlying t=some (.slice e)) {sz:Nat} (hz:szB p e=some sz) (a b:Option Addr) (n c k:Nat) (hn:n≤c):(Builtin.append_ #[t,t] ty #[.slice a n c,.slice b 0 k]).run p w= .ok (.slice a n c) w:=by
 have h1:(Builtin.firstCells sz 0 (.slice b 0 k)).run p w= .ok #[] w:=by
  cases b<;>simp[Builtin.firstCells,loadCells,loadCellsFrom]
 cases a<;>simp[Builtin.append_,run_underlying ht,cg hz,Builtin.lenOf,hn,h1,storeCells]
/-- An append to a row of one's own. -/
theorem vn {p:Program} {w:World} {t ty T:TypeId} {sz bytes:Nat} (ht:p.underlying t=some (.slice T)) (hB:appB p T sz bytes=true) {v x:Value} {n M:Nat} {xs:List Value} {qs qs':List Vp} (ho:jX w T sz v n xs) (hc:b8 w qs xs) (hx:(Vp.row T M qs').p w x) (hq:qs'.length=M*sz)
  (hb:(n+M)*bytes≤140737488355328) (hn:n+M≤1000000000000000):
  ∃v' w',(Builtin.append_ #[t,t] ty #[v,x]).run p w= .ok v' w'∧w.grownBy w' v.ownBlock∧(∀g,v.ownBlock=some g→Own w' g)∧(∀g,v'.ownBlock=some g→v.ownBlock=some g∨w.heap.size≤g)∧(Vp.ownr T sz (n+M) (qs++qs')).p w' v':=by
 unfold appB at hB
 split at hB
 ·rename_i ti hi
  simp only[Bool.and_eq_true,beq_iff_eq,decide_eq_true_eq]at hB
  obtain⟨hz,h3,h4,h5⟩:=hB
  split at hz
  ·rename_i z hz'
   simp only[Bool.and_eq_true,beq_iff_eq]at hz
   subst h3;subst h4
   by_cases hM:M=0
   ·subst hM
    have hq0:qs'=[]:=List.eq_nil_of_length_eq_zero (by simpa using hq)
    subst hq0
    have hs:∃a c,v= .slice a n c∧n≤c:=by
     rcases ho.1.2 with⟨rfl,rfl⟩ | ⟨g,cap,cur,rfl,_,_,hnc,_⟩
     ·exact⟨none,0,rfl,Nat.le_refl _⟩
     ·exact⟨_,_,rfl,hnc⟩
    obtain⟨a,c,rfl,hac⟩:=hs
    obtain⟨b,k,rfl⟩:=nU hx
    have hsz:szB p T=some ti.size:=by unfold szB;rw[hi];rfl
    exact⟨_,w,vm ht hsz _ _ _ _ _ hac,⟨rfl,rfl,rfl,Nat.le_refl _,fun _ _ _=>rfl⟩,ho.2,fun g hg=>.inl hg,by rw[List.append_nil];exact⟨xs,ho,hc⟩⟩
   ·have hM:0<M:=by omega
    have hq0:qs'≠ []:=fun e=>by subst e;simp at hq;have:=Nat.mul_pos hM h5;omega
    obtain⟨a,c,news,rfl,hcn,hcell⟩:=vl hx hq0
    obtain⟨v',w',hrun,hg,hold,hblk,hown⟩:=wT (p:=p) (ty:=ty) (c:=c) ht hi hz' hz.1 h5 (fun u hu n e=>by
     have:=List.all_eq_true.1 hz.2 u hu
     subst e;exact Bool.noConfusion (show false=true from this)) ho (by rw[hcn.1,hq]) hcell (fun u hu=>og (hcn.flat u hu)) (fun u hu=>fun n e=>(hcn.flat u hu).2.2 n e) hM hb hn
    have hchg:Chg w w' (fun g=>v.ownBlock=some g):=⟨hg.size,fun g h1 h2=>hg.block g h1 (fun e=>h2 e.symm),fun g h=>(ho.2 g h).x⟩
    exact⟨v',w',hrun,hg,hold,hblk,xs++news,hown,(hc.append hcn).chg hchg⟩
  ·cases hz
 ·cases hB
end Go.Proofs.YtfhinmdhjlmikaaDoor
namespace Go.Proofs.YtfhinmdhjlmikaaDoor
set_option linter.unusedSimpArgs false
set_option linter.unusedVariables false
set_option maxRecDepth 100000
open Go.RowKit
section
variable {ρ:Rho} {n m k r j:Nat} {u v c:Int} {b d:Bool} {l l':Leaf} {t T e:TypeId} {B:Blk} {w:World} {ik:IntKind} {x:St} {S:List St} {qs:List Vp} {L sz:Nat}
/-- A leaf of an object whose value is a row; a place. -/
theorem vu {s:Vp} {y:Value} (hn:ρ[n]? =some s) (h:(Leaf.own j n).holds ρ B w y):s.p w y∧(∀g,s.fp w y g→B.o j g)∧∀g,y.ownBlock=some g→B.o j g:=by
 obtain⟨s',h1,h2,h3,h4⟩:=h
 rw[hn]at h1;injection h1 with h1;subst h1
 exact⟨h2,h3,h4⟩
theorem yL (ht:∃e,Tryd.prog.underlying t=some (.slice e)) (hn:ρ[n]? =some (.ownr T sz L qs)) (hl:∀B w,l.holds ρ B w (.int .i64 (L:Int))):(OIns.mk (.len t) [.one (.own j n)] (.one l)).Ok Tryd.prog ρ:=fun B w vs hv=>by
 match vs,hv with
 | [v1],hv=>
  obtain⟨a,c,rfl⟩:=nU (pA (vu hn hv.1).1)
  obtain⟨e,he⟩:=ht
  refine⟨.int .i64 (L:Int),hl B w,fun ts ty h0=> ?_⟩
  simp[Builtin.len_,h0,Sem.run_bind,run_underlying he,Result.andThen,goInt]
theorem yM {q:Vp} (ht:oS Tryd.prog t=some false) (hn:ρ[n]? =some (.plc T (q::qs))) (hl:∀B w x,q.p w x→(∀g,¬q.fp w x g)→l.holds ρ B w x):(OIns.mk (.ld t) [.one (.own j n)] (.one l)).Ok Tryd.prog ρ:=fun B w vs hv=>by
 match vs,hv with
 | [v1],hv=>
  obtain⟨h2,_⟩:=vu hn hv.1
  obtain⟨b,o,cs,rfl,hb,h4⟩:=h2
  obtain⟨u,k1,k2,k3⟩:=h4 0 q rfl
  refine⟨u,hl B w u k2 k3,?_⟩
  have:=gS (p:=Tryd.prog) (w:=w) (ad:=⟨b,o,none⟩) (v:=u) (by rw[gT hb];exact k1)
  simp[Instr.loadAt,Instr.sureAddr,loadVar,Sem.run_bind,fN ht,this,Result.andThen]
end
end Go.Proofs.YtfhinmdhjlmikaaDoor
namespace Go.Proofs.YtfhinmdhjlmikaaDoor
set_option linter.unusedSimpArgs false
set_option linter.unusedVariables false
set_option maxRecDepth 100000
open Go.RowKit
section
variable {ρ:Rho} {n m m' k r j u:Nat} {T:TypeId} {B:Blk} {w:World} {S S':List St} {f:FuncId} {args xs:List SV} {l:Leaf}
theorem yN {sz L:Nat} {qs:List Vp} {y:Value} (h:(Vp.ownr T sz L qs).p w y):∀b,y.ownBlock=some b→fq w b:=fun b hb=>by
 obtain⟨xs,⟨_,h0⟩,_⟩:=h
 exact(h0 b hb).x
end
end Go.Proofs.YtfhinmdhjlmikaaDoor
namespace Go.Proofs.YtfhinmdhjlmikaaDoor
set_option linter.unusedSimpArgs false
set_option linter.unusedVariables false
set_option maxRecDepth 100000
open Go.RowKit
theorem pB {u v:Int} (h:u=v):gi .eql u v=some true:=by simp[gi,h]
theorem gO {u v:Int} (h:u≠v):gi .eql u v=some false:=by simp[gi,h]
theorem dY {u v:Int} (h:u≠v):gi .neq u v=some true:=by simp[gi,h]
theorem bh {u v:Int} (h:u=v):gi .neq u v=some false:=by simp[gi,h]
theorem eA {u v:Int} (h:u<v):gi .lss u v=some true:=by simp[gi,h]
theorem cA {u v:Int} (h:¬u<v):gi .lss u v=some false:=by simp[gi,h]
theorem vv {u v:Int} (h:v<u):gi .gtr u v=some true:=by simp[gi,h]
theorem eB {u v:Int} (h:¬v<u):gi .gtr u v=some false:=by simp[gi,h]
section
variable {ρ:Rho} {w:World} {C:List Inst} {L:List OIns} {T:TypeId} {g m:Nat} {sl:Value} {S S':List St}
end
end Go.Proofs.YtfhinmdhjlmikaaDoor
namespace Go.Proofs.YtfhinmdhjlmikaaDoor
set_option linter.unusedSimpArgs false
set_option linter.unusedVariables false
set_option maxRecDepth 100000
open Go.RowKit
section
variable {xs:List Fq} {ys:Rho} {k:Nat} {v u:Int} {l1 l2:Leaf}
end
section
variable {ρ ρ':Rho} {n m k r N:Nat} {u v c:Int} {l l':Leaf} {t T e:TypeId} {B:Blk} {w:World} {x:St} {S:List St} {sl:Value} {pin:Bool}
theorem sgi {ρ':Rho} (h2:ρ'[n]? =some (.val (.int .i64 v))) (hl:KI ρ l .i64 u) (e:u=v) (ho:l.noPtr=true:=by rfl):kj ρ ρ' (n,l):=
 ub h2 ho (fun B w x h=>by have:=hl B w x h;subst this;subst e;exact⟨rfl,aV⟩)
theorem cmP {a b c d:Rho} (hN:(a++b).length=N):∀n,n<N→(a++(b++c))[n]? =(a++(b++d))[n]? :=fun n hn=>by
 have h1:n<(a++b).length:=by rw[hN];exact hn
 rw[←List.append_assoc a b c,←List.append_assoc a b d,List.getElem?_append_left h1,List.getElem?_append_left h1]
theorem cmX {a b c d:Rho} (hN:(a++(b++c)).length=N):∀n,n<N→(a++(b++c))[n]? =(a++(b++(c++d)))[n]? :=fun n hn=>by
 have h1:n<(a++(b++c)).length:=by rw[hN];exact hn
 rw[show a++(b++(c++d))=(a++(b++c))++d by simp[List.append_assoc],List.getElem?_append_left h1]
/-- A step with more unknowns. -/
theorem eC {E:Ent} {nt:Nat} {b:Code} {ρx:Rho} {s s2:MS} {e:Ex} (hc:∀n,n<N→ρ[n]? =ρx[n]?) (hk:s.cv N [] s=true) (hpn:E.pin.length≤s.vars.length) (h:fR Tryd.prog E nt b ρx s e ρ' s2):fR Tryd.prog E nt b ρ s e ρ' s2:=
 fun a w Q hs hQ=>h a w Q (MSt.conv hc bV hk hs hpn) hQ
theorem hq0:∀(j:Nat) (q:Vp),x.qs[j]? =some q→x.qs[0+j]? =some q:=fun j q h=>by rw[Nat.zero_add];exact h
theorem hq1:∀(j:Nat) (q:Vp),(frs x.pose.cs)[j]? =some q→x.qs[1+j]? =some q:=fun j q h=>by rw[Nat.add_comm];exact h
end
section
variable {ρ:Rho} {n m k r j u:Nat} {T:TypeId} {B:Blk} {w:World} {S S':List St} {f:FuncId} {args xs:List SV} {l:Leaf} {sl0:Value} {pin:Bool}
end
/- The same for stamps, in short. -/
section
variable {xs:List Fq} {ys ρ:Rho} {n m k j:Nat} {l:Leaf} {x:St} {S:List St} {sl:Value} {pin:Bool} {ks:List Nat} {T:TypeId}
end
end Go.Proofs.YtfhinmdhjlmikaaDoor
namespace Go.Proofs.YtfhinmdhjlmikaaDoor
set_option linter.unusedSimpArgs false
set_option linter.unusedVariables false
set_option maxRecDepth 100000
open Go.RowKit
abbrev bD:TypeId:=3
def cE (L:List Int):List Vp:=L.map fun i=>.val (.int .i64 i)
theorem vw (L M:List Int):cE (L++M)=cE L++cE M:=List.map_append
/-- Where the spaces stand among the first k bytes. -/
def spL (s:ByteArray):Nat→List Int
 | 0=>[]
 | k+1=>if by' s k=32 then spL s k++ [(k:Int)]else spL s k
theorem oh (s:ByteArray):∀k,(spL s k).length≤k
 | 0=>Nat.le_refl _
 | k+1=>by
  have:=oh s k
  unfold spL;split
  ·rw[List.length_append];simp only[List.length_cons,List.length_nil];omega
  ·omega
theorem xx {s:ByteArray} {k:Nat} (h:by' s k=32):spL s k++ [((k:Nat):Int)]=spL s (k+1):=by rw[spL,if_pos h]
theorem spL_n {s:ByteArray} {k:Nat} (h:by' s k≠32):spL s k=spL s (k+1):=by rw[spL,if_neg h]
theorem qD {s:ByteArray}:∀ {k:Nat},(∀i,i<k→by' s i≠32)→spL s k=[]
 | 0,_=>rfl
 | k+1,h=>by rw[spL,if_neg (h k (by omega))];exact qD (fun i hi=>h i (by omega))
theorem jY {s:ByteArray} {i:Nat}:∀ {k:Nat},i<k→by' s i=32→(∀m,i<m→m<k→by' s m≠32)→spL s k=spL s i++ [((i:Nat):Int)]
 | 0,h,_,_=>by omega
 | k+1,h,e,hn=>by
  by_cases hk:i=k
  ·subst hk;rw[spL,if_pos e]
  ·rw[spL,if_neg (hn k (by omega) (by omega))];exact jY (by omega) e (fun m h1 h2=>hn m h1 (by omega))
/-- The two spaces. -/
theorem la {s:ByteArray} {i j k:Nat} (hij:i<j) (hj:j<k) (ei:by' s i=32) (ej:by' s j=32) (ho:∀m,m<k→by' s m=32→m=i∨m=j):spL s k=[((i:Nat):Int),((j:Nat):Int)]:=by
 rw[jY hj ej (fun m h1 h2 e=>by rcases ho m h2 e with h | h<;>omega),jY hij ei (fun m h1 h2 e=>by rcases ho m (by omega) e with h | h<;>omega),qD (fun m h1 e=>by rcases ho m (by omega) e with h | h<;>omega)]
 rfl
theorem jh {s:ByteArray} {u:Int}:∀ {k:Nat},u∈spL s k→∃i:Nat,u=i∧i<k∧by' s i=32
 | 0,h=>by cases h
 | k+1,h=>by
  unfold spL at h
  split at h
  ·rename_i e
   rcases List.mem_append.1 h with h | h
   ·obtain⟨i,h1,h2,h3⟩:=jh h;exact⟨i,h1,by omega,h3⟩
   ·simp only[List.mem_singleton]at h;exact⟨k,h,by omega,e⟩
  ·obtain⟨i,h1,h2,h3⟩:=jh h;exact⟨i,h1,by omega,h3⟩
theorem l8 {s:ByteArray}:∀ {k:Nat},List.Pairwise (· < ·) (spL s k)
 | 0=>.nil
 | k+1=>by
  unfold spL;split
  ·refine List.pairwise_append.2 ⟨l8,List.pairwise_singleton _ _,fun a ha b hb=> ?_⟩
   simp only[List.mem_singleton]at hb;subst hb
   obtain⟨i,h1,h2,_⟩:=jh ha;omega
  ·exact l8
theorem vA {s:ByteArray} {i:Nat} (e:by' s i=32):∀ {k:Nat},i<k→((i:Nat):Int)∈spL s k
 | 0,h=>by omega
 | k+1,h=>by
  unfold spL
  by_cases hk:i=k
  ·subst hk;rw[if_pos e];exact List.mem_append.2 (.inr (List.mem_singleton.2 rfl))
  ·have:=vA e (k:=k) (by omega)
   split
   ·exact List.mem_append.2 (.inl this)
   ·exact this
/-- A text with two spaces. -/
theorem vB {s:ByteArray} (h:(spL s s.size).length=2):∃i j,i<j∧j<s.size∧by' s i=32∧by' s j=32∧∀m,m<s.size→by' s m=32→m=i∨m=j:=by
 match hl:spL s s.size,h with
 | [u,v],_=>
  obtain⟨i,rfl,h1,h2⟩:=jh (s:=s) (k:=s.size) (u:=u) (by rw[hl];simp)
  obtain⟨j,rfl,h3,h4⟩:=jh (s:=s) (k:=s.size) (u:=v) (by rw[hl];simp)
  have hp:=l8 (s:=s) (k:=s.size)
  rw[hl]at hp
  have hij:(i:Int)<j:=by
   have:=(List.pairwise_cons.1 hp).1 (j:Int) (by simp)
   exact this
  refine⟨i,j,by omega,h3,h2,h4,fun m hm e=> ?_⟩
  have:=vA e hm
  rw[hl]at this
  simp only[List.mem_cons,List.not_mem_nil,or_false]at this
  omega
section
variable {ρ:Rho} {n m r i j k:Nat} {u v:Int} {L L':List Int} {s z:ByteArray} {t:TypeId}
theorem l9 (hn:ρ[n]? =some (.ownr bD 1 L.length (cE L))) (hm:ρ[m]? =some (.val (.int .i64 (L.length:Int)))):(OIns.mk (.len 49) [.one (.own j n)] (.one (.ref m))).Ok Tryd.prog ρ:=yL ⟨_,Tryd.underlying49⟩ hn (fun _ _=>am hm aV)
theorem yO:(OIns.mk (.len 49) [.one .sl0] (.one (.i .i64 0))).Ok Tryd.prog ρ:=fun B w vs hv=>by
 match vs,hv with
 | [v1],hv=>
  have e:v1= .slice none 0 0:=hv.1
  subst e
  refine⟨.int .i64 0,rfl,fun ts ty h0=> ?_⟩
  simp[Builtin.len_,h0,Sem.run_bind,run_underlying Tryd.underlying49,Result.andThen,goInt]
theorem xy (hn:ρ[n]? =some (.val (.int .i64 u))) (hm:ρ[m]? =some (.row bD 1 [.val (.int .i64 u)])):(OIns.mk (.bs 49 1 [0]) [.one (.ref n)] (.one (.ref m))).Ok Tryd.prog ρ:=
 i5 (m:=m) (ss:=[.one (.ref n)]) (N:=1) (sz:=1) (z:=[.i .i64 0]) (qs:=[.val (.int .i64 u)]) (ix:=[0]) (ls:=[.ref n]) Tryd.underlying49 (by kernel_rfl) (by kernel_rfl) (by decide) (by decide) (by decide) rfl (by kernel_rfl) ⟨xU hn,trivial⟩ hm
theorem vC {l:Leaf} (hl:BefO ρ j bD 1 L.length (cE L) l) (hr:ρ[r]? =some (.row bD 1 [.val (.int .i64 u)])) (hm:ρ[m]? =some (.ownr bD 1 (L++ [u]).length (cE (L++ [u])))) (hb:L.length≤5000000000):
  (OIns.mk (.app 49) [.one l,.one (.ref r)] (.one (.own j m))).Ok Tryd.prog ρ:=fun B w vs hv=>by
 match vs,hv with
 | [v1,v2],hv=>
  have h1:∃xs,jX w bD 1 v1 L.length xs∧b8 w (cE L) xs:=by
   rcases hl with⟨rfl,e1,e2⟩ | ⟨n,rfl,hn⟩
   ·have e:v1= .slice none 0 0:=hv.1
    subst e
    rw[e1,e2]
    exact⟨[],⟨World.ownsRow_nil _ _ _ _,fun g hg=>by cases hg⟩,rfl,fun j q h=>by simp at h⟩
   ·obtain⟨s,k1,k2,_⟩:=hv.1
    rw[hn]at k1;injection k1 with k1;subst k1
    exact k2
  obtain⟨xs,hox,hcx⟩:=h1
  have hr2:(Vp.row bD 1 [.val (.int .i64 u)]).p w v2:=by
   obtain⟨s,k1,k2,_⟩:=hv.2.1
   rw[hr]at k1;injection k1 with k1;subst k1
   exact k2
  intro ty
  obtain⟨v',w',hrun,hg,hold,hblk,hown⟩:=vn (p:=Tryd.prog) (ty:=ty) (bytes:=8) Tryd.underlying49 (by kernel_rfl) hox hcx hr2 rfl (by omega) (by omega)
  have e:Vp.ownr bD 1 (L.length+1) (cE L++ [.val (.int .i64 u)])=Vp.ownr bD 1 (L++ [u]).length (cE (L++ [u])):=by rw[vw,List.length_append];rfl
  rw[e]at hown
  refine⟨v',w',hrun,hg,fun g h=>(hold g h).x,fun g hgv=>⟨hblk g hgv,?_,yN hown g hgv⟩,_,hm,hown,fun g hgv=>hgv⟩
  obtain⟨xs',⟨_,h0⟩,_⟩:=hown
  obtain⟨cs,t,h,_⟩:=h0 g hgv
  exact(Array.getElem?_eq_some_iff.1 h).1
theorem ma (hn:ρ[n]? =some (.ownr bD 1 L.length (cE L))) (hm:ρ[m]? =some (.plc bD [.val (.int .i64 u)])) (hx:L[k]? =some u):(OIns.mk (.ia 49) [.one (.own j n),.one (.i .i64 (k:Int))] (.one (.own j m))).Ok Tryd.prog ρ:=fun B w vs hv=>by
 match vs,hv with
 | [v1,v2],hv=>
  obtain⟨h1,_,h4⟩:=vu hn hv.1
  have e2:v2= .int .i64 (k:Int):=hv.2.1
  subst e2
  have hk:=(List.getElem?_eq_some_iff.1 hx).1
  obtain⟨b,o,c,cs,rfl,hc,hb,hq⟩:=yK (pA h1) (by intro e;have:=congrArg List.length e;simp[cE]at this;subst this;simp at hk)
  refine⟨.pointer (some ⟨b,o+k*1,none⟩),⟨_,hm,⟨b,o+k*1,cs,rfl,hb,fun i q hi=> ?_⟩,fun g ⟨o',e'⟩=> ?_,fun g h=>by cases h⟩,?_⟩
  ·cases i with
   | zero=>
    simp at hi;subst hi
    obtain⟨u',k1,k2⟩:=hq k (.val (.int .i64 u)) (by simp[cE,hx])
    exact⟨u',by rw[Nat.mul_one,Nat.add_zero];exact k1,k2⟩
   | succ i=>simp at hi
  ·injection e' with e1;injection e1 with e1;injection e1 with e1 _ _;subst e1
   exact h4 _ rfl
  ·simp[Instr.indexAt,asIntOf,Sem.run_bind,run_underlying Tryd.underlying49,cg (show szB Tryd.prog 3=some 1 by kernel_rfl),Result.andThen,hk,fO]
theorem mb (hn:ρ[n]? =some (.plc bD [.val (.int .i64 u)])) (hm:ρ[m]? =some (.val (.int .i64 u))):(OIns.mk (.ld 3) [.one (.own j n)] (.one (.ref m))).Ok Tryd.prog ρ:=yM (by kernel_rfl) hn (lq hm)
theorem sgI {ρ':Rho} (h1:ρ[m]? =some (.ownr bD 1 L.length (cE L))) (h2:ρ'[n]? =some (.ownr bD 1 L'.length (cE L'))) (e:L=L'):kj ρ ρ' (n,.own k m):=by subst e;exact sg_own h1 h2
theorem ji {lx ly:Leaf} (ht:dv Tryd.prog t=true) (hn:ρ[n]? =some (.val (.string s))) (hx:KI ρ lx .i64 u) (hy:KI ρ ly .i64 v) (hm:ρ[m]? =some (.val (.string z))) (h0:0≤u) (h1:u≤v) (h2:v≤s.size) (hz:s.extract u.toNat v.toNat=z):(OIns.mk (.sl t true true) [.one (.ref n),.one lx,.one ly] (.one (.ref m))).Ok Tryd.prog ρ:=fun B w vs hv=>by
 match vs,hv with
 | [v1,v2,v3],hv=>
  obtain rfl:=aj (B:=B) hn hv.1
  obtain rfl:=hx _ _ _ hv.2.1
  obtain rfl:=hy _ _ _ hv.2.2.1
  subst hz
  refine⟨.string (s.extract u.toNat v.toNat),am (B:=B) hm aC,?_⟩
  have h4:u≤(v.toNat:Int):=by omega
  have h5:0≤v:=by omega
  have h6:u≤max v 0:=by omega
  simp[Instr.sliceAt,Instr.slice,Instr.sliceBounds,Instr.sliceBound,asIntOf,Sem.run_bind,run_underlying (dg ht),Result.andThen,h0,h1,h2,h4,h5,h6]
end
/-- A loop in two parts: a row is made in round p. -/
theorem ol {ρ:Rho} {E:Ent} {nt:Nat} {b:Code} {s s':MS} {e:Ex} (N p:Nat) (ρa ρb:Nat→Rho) (Sa Sb:MS) (hp:p<N) (h0:∀a w,MSt ρ E nt s a w→MSt (ρa 0) E nt Sa a w) (ha:∀k,k<p→fR Tryd.prog E nt b (ρa k) Sa .nrm (ρa (k+1)) Sa) (hm:fR Tryd.prog E nt b (ρa p) Sa .nrm (ρb (p+1)) Sb)
  (hb:∀k,p<k→k<N→fR Tryd.prog E nt b (ρb k) Sb .nrm (ρb (k+1)) Sb) (hN:fR Tryd.prog E nt b (ρb N) Sb e ρ s') (he:e≠ .nrm) (hpn:E.pin.length≤s.vars.length):LOb.Ok Tryd.prog ρ E nt ⟨b,s,e,s'⟩:=by
 refine eT N (fun k=>if k≤p then ρa k else ρb k) (fun k=>if k≤p then Sa else Sb) (fun a w h=>by rw[if_pos (Nat.zero_le _),if_pos (Nat.zero_le _)];exact h0 a w h) (fun k hk=> ?_) (by rw[if_neg (by omega),if_neg (by omega)];exact hN) he hpn
 by_cases h1:k<p
 ·rw[if_pos (by omega),if_pos (by omega),if_pos (by omega),if_pos (by omega)];exact ha k h1
 ·by_cases h2:k=p
  ·subst h2;rw[if_pos (Nat.le_refl _),if_pos (Nat.le_refl _),if_neg (by omega),if_neg (by omega)];exact hm
  ·rw[if_neg (by omega),if_neg (by omega),if_neg (by omega),if_neg (by omega)];exact hb k (by omega) hk
end Go.Proofs.YtfhinmdhjlmikaaDoor
