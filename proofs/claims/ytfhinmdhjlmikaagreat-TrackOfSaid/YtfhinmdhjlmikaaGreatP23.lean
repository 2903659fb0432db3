/- Tracks: instances of Of, List, Span, Len, Drop, fits. What an argument of type api.Nat is: a row of digits. What arguments of the types api.Pose, api.Vec, api.Frac are: rows of fractions, leading zeros allowed, no longer than the argument's bulk. What arguments of the type []api.Stamped are: rows of stamps, leading zeros allowed. What arguments of the type []api.Stamped are: rows of stamps. -/
import Derived.Test.YtfhinmdhjlmikaaGreatP22
import Derived.WalkKit
import Derived.ProofKit
import Derived.OpenShut
import Derived.ShutString
import Derived.ChangeOld
import Derived.Below
import Derived.Test.YtfhinmdhjlmikaaGreatRows
import Derived.SizedLaws
import Derived.Deep.Strs
import Derived.Deep.Slices
namespace Go.Proofs.YtfhinmdhjlmikaaGreat
set_option linter.unusedSimpArgs false
set_option linter.unusedVariables false
set_option maxRecDepth 100000
open Go.RowKit
section
variable {ρ:Rho} {n m m' k r j u:Nat} {T:TypeId} {B:Blk} {w:World} {S S':List St} {f:FuncId} {args xs:List SV} {l:Leaf}
/-- A function that makes a row of what variables hold. -/
theorem vj {s:Vp} {pre:List (Nat×TypeId×List Leaf)} (hen:∀(vs:Array Value) (w:World),(callFunc f vs).run Tryz.prog w= .ok (.enter f vs) w) (hm:ρ[m]? =some s) {r:SV} (hfp:∀w y g,s.fp w y g→y.ownBlock=some g)
  (h:∀B w vs,BOk B w.heap.size→BInj B→(∀q∈pre,ob ρ B w q)→cM ρ B w args vs→Calls Tryz.prog f vs.toArray w (fun e w'=>∃v,e= .returned v∧s.p w' v∧(∀b,v.ownBlock=some b→w.heap.size≤b∧dp w' b)∧Below w.heap.size w w')):
  (OIns.mk (.mut f ⟨[k],pre,[],none,[],[.one (.own k m)]⟩) args r).Ok Tryz.prog ρ:=fun B w vs hv=>by
 refine⟨hen _ _,fun hbok hinj ho hov _ hpre=> ?_⟩
 refine(h B w vs hbok hinj hpre hv).mono ?_
 rintro e w' ⟨v,rfl,hp,hsl,hb⟩
 refine⟨v,⟨B.v,fun l b=>B.o l b∨(l=k∧v.ownBlock=some b)⟩,rfl,⟨s,hm,hp,fun g hg=>.inr ⟨rfl,hfp _ _ _ hg⟩,fun g hg=>.inr ⟨rfl,hg⟩⟩,fun q hq=>(by cases hq),fun q hq=>(by cases hq),fun q hq=>(by cases hq),hb.os,hb.tape,hb.output,fun _ _=>rfl,fun q b hq=>(by cases hq),fun l b hb=>.inl hb,fun l b hb'=> ?_,fun l b hl hb'=> ?_,⟨hinj.v,fun l l' b h1 h2=> ?_,fun x l b h1 h2=> ?_⟩,⟨hb.size,fun b hl _=>hb.block b hl,fun b hX=> ?_⟩⟩
 ·rcases hb' with hb' | ⟨rfl,hb'⟩
  ·exact .inl hb'
  ·exact .inr ⟨by simp,(hsl b hb').1⟩
 ·rcases hb' with hb' | ⟨_,hb'⟩
  ·have h1:=ho l b hb'
   exact h1.blk (hb.block b h1.1) hb.size
  ·exact(hsl b hb').2
 ·rcases h1 with h1 | ⟨e1,h1⟩<;>rcases h2 with h2 | ⟨e2,h2⟩
  ·exact hinj.o _ _ _ h1 h2
  ·have:=hbok b (.inr ⟨l,h1⟩);have:=(hsl b h2).1;omega
  ·have:=hbok b (.inr ⟨l',h2⟩);have:=(hsl b h1).1;omega
  ·rw[e1,e2]
 ·rcases h2 with h2 | ⟨_,h2⟩
  ·exact hinj.vo _ _ _ h1 h2
  ·have:=hbok b (.inl ⟨x,h1⟩);have:=(hsl b h2).1;omega
 ·rcases hX with⟨l,hl,hb'⟩ | ⟨q,hq,_⟩
  ·exact ho l b hb'
  ·cases hq
end
theorem q_ListS {S:List St} {w:World} {g:Nat} {sl:Value} (h:TrkS 79 w g sl S) (hS:GoodS S):Calls Tryz.prog 18 (.pointer (some ⟨g,0,none⟩)::[]).toArray w fun e w'=>∃v,e= .returned v∧(Vp.ownr stT 22 S.length (az S)).p w' v∧(∀b,v.ownBlock=some b→w.heap.size≤b∧dp w' b)∧Below w.heap.size w w':=by
 by_cases h0:S.length=0
 ·exact q_List0 S h hS.len h0
 ·exact q_List1 S h hS.len (fun x hx=>(hS.all x hx).ok) (by omega)
theorem q_rListS {S:List St} {w:World} {g:Nat} {sl:Value} (h:TrkS 86 w g sl S) (hS:GoodS S):Calls Tryz.prog 19 (.pointer (some ⟨g,0,none⟩)::[]).toArray w fun e w'=>∃v,e= .returned v∧(Vp.ownr stT 22 S.length (az S)).p w' v∧(∀b,v.ownBlock=some b→w.heap.size≤b∧dp w' b)∧Below w.heap.size w w':=q_rList S h hS.len
/-- The times of the first and of the last stamp. -/
def dg (S:List St):Int×Int×Bool:=match S[0]?,S[S.length - 1]? with
 | some f,some l=>(f.tm,l.tm,true)
 | _,_=>(0,0,false)
theorem q_SpanS {S:List St} {w:World} {g:Nat} {sl:Value} (h:TrkS 79 w g sl S) (hS:GoodS S):Calls Tryz.prog 20 (.pointer (some ⟨g,0,none⟩)::[]).toArray w fun e w'=>e= .returned (.tuple #[.int .i64 (dg S).1,.int .i64 (dg S).2.1,.bool (dg S).2.2])∧Below w.heap.size w w':=by
 by_cases h0:S.length=0
 ·have e:S=[]:=List.eq_nil_of_length_eq_zero h0
  subst e;exact q_Span0 [] h hS.len rfl
 ·obtain⟨f,hf⟩:∃f,S[0]? =some f:=⟨_,List.getElem?_eq_getElem (by omega)⟩
  obtain⟨l,hl⟩:∃f,S[S.length - 1]? =some f:=⟨_,List.getElem?_eq_getElem (by omega)⟩
  rw[show dg S=(f.tm,l.tm,true)by unfold dg;rw[hf,hl]]
  exact q_Span1 S h hS.len f hf l hl (by omega)
theorem q_rSpanS {S:List St} {w:World} {g:Nat} {sl:Value} (h:TrkS 86 w g sl S) (hS:GoodS S):Calls Tryz.prog 33 (.pointer (some ⟨g,0,none⟩)::[]).toArray w fun e w'=>e= .returned (.tuple #[.int .i64 (dg S).1,.int .i64 (dg S).2.1,.bool (dg S).2.2])∧Below w.heap.size w w':=by
 by_cases h0:S.length=0
 ·have e:S=[]:=List.eq_nil_of_length_eq_zero h0
  subst e;exact q_rSpan0 [] h hS.len rfl
 ·obtain⟨f,hf⟩:∃f,S[0]? =some f:=⟨_,List.getElem?_eq_getElem (by omega)⟩
  obtain⟨l,hl⟩:∃f,S[S.length - 1]? =some f:=⟨_,List.getElem?_eq_getElem (by omega)⟩
  rw[show dg S=(f.tm,l.tm,true)by unfold dg;rw[hf,hl]]
  exact q_rSpan1 S h hS.len f hf l hl (by omega)
theorem q_rDropS {S:List St} {a:Int} {w:World} {g:Nat} {sl:Value} (h:TrkS 86 w g sl S) (hS:GoodS S):Calls Tryz.prog 29 (.pointer (some ⟨g,0,none⟩)::[.int .i64 a]).toArray w fun e w'=>e= .returned (.int .i64 ((plN S (a+1) - 1:Nat):Int))∧TrkM 86 w g sl (S.drop (plN S (a+1) - 1)) w':=q_rDrop S a h hS.len hS.sort
section
variable {ρ:Rho} {n m m' k j u c n' j' s1 s2:Nat} {S:List St} {R:List RSt} {r:SV} {l la lb:Leaf} {M:Nat} {b:Bool} {x:RSt} {a:Int}
theorem lF {s:Vp} {B:Blk} {w:World} {v:Value} (hn:ρ[n]? =some s) (h:(Leaf.ref n).holds ρ B w v):s.p w v:=by
 obtain⟨s',h1,h2,_⟩:=h
 rw[hn]at h1;injection h1 with h1;subst h1;exact h2
open Classical in
theorem ye (hn:ρ[n]? =some (.rowW R.length (bT R))) (hM:M≤1000) (hb:decide (mD R M)=b):Inst.Ok Tryz.prog ρ ⟨8,[.one (.ref n),.one (.i .i64 ((M:Nat):Int))],.v (.one (.b b))⟩:=
 ⟨aA Tryz.func8 rfl rfl,fun B w vs hB h=>by
  match vs,h with
  | [v,v'],h=>
   have e:v'= .int .i64 ((M:Nat):Int):=h.2.1
   subst e
   refine(q_fits R v M (lF hn h.1) hM).mono ?_
   rintro e w' ⟨rfl,h2⟩
   exact⟨_,rfl,by subst hb;rfl,h2⟩⟩
theorem I_Same (hn:ρ[n]? =some (.ownr stT 22 S.length (az S))) (hn':ρ[n']? =some (.ownr stT 22 S.length (az S))) (hS:GoodS S):Inst.Ok Tryz.prog ρ ⟨17,[.one (.own j n),.one (.own j' n')],.v (.one (.b true))⟩:=
 ⟨aA Tryz.func17 rfl rfl,fun B w vs hB h=>by
  match vs,h with
  | [v,v'],h=>
   refine(q_Same S v v' (io (iy hn h.1).1) (io (iy hn' h.2.1).1) (by have:=hS.len;omega) (fun x hx=>(hS.all x hx).ok)).mono ?_
   rintro e w' ⟨rfl,h2⟩
   exact⟨_,rfl,rfl,h2⟩⟩
theorem I_tOf0 (hn:ρ[n]? =some (.rowW R.length (bT R))) (hm:ρ[m]? =some (.row stT (aU R R.length).length (az (aU R R.length)))) (h2:∀x∈R,x.two) (hl:R.length≤100000) (hA:eO R R.length):(OIns.mk (.mut 11 ⟨[k],[],[],some (u,79,[.own k m]),[],[.one (.ptr u 0),.one (.i .i64 0)]⟩) [.one (.ref n)] r).Ok Tryz.prog ρ:=
 oO (args:=[.one (.ref n)]) (aA Tryz.func11 rfl rfl) hm (fun B w vs _ hv=>by
  match vs,hv with
  | [v],hv=>
   refine(q_tOf0 R v (lF hn hv.1) h2 hl hA).mono ?_
   rintro e w' ⟨g,sl,rfl,h1,h2,h3,h4⟩
   exact⟨_,g,sl,rfl,fun B' hB=>⟨[_,_],rfl,⟨g,hB,rfl⟩,rfl,trivial⟩,h1,h2,h3,h4⟩)
theorem I_rtOf0 (hn:ρ[n]? =some (.rowW R.length (bT R))) (hm:ρ[m]? =some (.row stT (aU R R.length).length (az (aU R R.length)))) (h2:∀x∈R,x.two) (hl:R.length≤100000) (hA:eO R R.length):(OIns.mk (.mut 16 ⟨[k],[],[],some (u,86,[.own k m]),[],[.one (.ptr u 0),.one (.i .i64 0)]⟩) [.one (.ref n)] r).Ok Tryz.prog ρ:=
 oO (args:=[.one (.ref n)]) (aA Tryz.func16 rfl rfl) hm (fun B w vs _ hv=>by
  match vs,hv with
  | [v],hv=>
   refine(q_rtOf0 R v (lF hn hv.1) h2 hl hA).mono ?_
   rintro e w' ⟨g,sl,rfl,h1,h2,h3,h4⟩
   exact⟨_,g,sl,rfl,fun B' hB=>⟨[_,_],rfl,⟨g,hB,rfl⟩,rfl,trivial⟩,h1,h2,h3,h4⟩)
theorem I_tOf1 (hn:ρ[n]? =some (.rowW R.length (bT R))) (hc:ρ[c]? =some (.val (.int .i64 (bZ (aU R j) x).2))) (h2:∀x∈R,x.two) (hl:R.length≤100000) (hx:R[j]? =some x) (hA:eO R j) (h0:(bZ (aU R j) x).2≠0):Inst.Ok Tryz.prog ρ ⟨11,[.one (.ref n)],.tup [.one .nilp,.one (.ref c)]⟩:=
 ⟨aA Tryz.func11 rfl rfl,fun B w vs hB h=>by
  match vs,h with
  | [v],h=>
   refine(q_tOf1 R v j x (lF hn h.1) h2 hl hx hA h0).mono ?_
   rintro e w' ⟨rfl,h3⟩
   exact⟨_,rfl,⟨[_,_],rfl,rfl,aF hc aE,trivial⟩,h3⟩⟩
theorem I_rtOf1 (hn:ρ[n]? =some (.rowW R.length (bT R))) (hc:ρ[c]? =some (.val (.int .i64 (bZ (aU R j) x).2))) (h2:∀x∈R,x.two) (hl:R.length≤100000) (hx:R[j]? =some x) (hA:eO R j) (h0:(bZ (aU R j) x).2≠0):Inst.Ok Tryz.prog ρ ⟨16,[.one (.ref n)],.tup [.one .nilp,.one (.ref c)]⟩:=
 ⟨aA Tryz.func16 rfl rfl,fun B w vs hB h=>by
  match vs,h with
  | [v],h=>
   refine(q_rtOf1 R v j x (lF hn h.1) h2 hl hx hA h0).mono ?_
   rintro e w' ⟨rfl,h3⟩
   exact⟨_,rfl,⟨[_,_],rfl,rfl,aF hc aE,trivial⟩,h3⟩⟩
theorem zj (hm:ρ[m]? =some (.row stT S.length (az S))) (hm':ρ[m']? =some (.ownr stT 22 S.length (az S))) (hS:GoodS S):(OIns.mk (.mut 18 ⟨[j],[(u,79,[.own k m])],[],none,[],[.one (.own j m')]⟩) [.one (.ptr u 0)] r).Ok Tryz.prog ρ:=
 vj (args:=[.one (.ptr u 0)]) (aA Tryz.func18 rfl rfl) hm' sD (fun B w vs _ hinj hpre hv=>by
  match vs,hv with
  | [v],hv=>
   obtain⟨g,hg,rfl⟩:=hv.1
   obtain⟨sl,ht,_⟩:=sC hinj hg (hpre (u,79,[.own k m]) (List.mem_singleton.2 rfl)) hm
   refine(q_ListS ht hS).mono ?_
   rintro e w' ⟨v,rfl,h1,h2,h3⟩
   exact⟨v,rfl,h1,h2,h3⟩)
theorem ta (tl:gI ρ u 79 l S) (hS:GoodS S) (hn:ρ[n]? =some (.val (.int .i64 (S.length:Int)))):(OIns.mk (.mut 25 ⟨[],[(u,79,[l])],[],none,[],[.one (.ref n)]⟩) [.one (.ptr u 0)] r).Ok Tryz.prog ρ:=
 bY (args:=[]) (aA Tryz.func25 rfl rfl) tl (fun B w g sl vs _ ht hv=>by
  match vs,hv with
  | [],hv=>
   refine(q_Len S ht hS.len).mono ?_
   rintro e w' ⟨rfl,h2⟩
   exact⟨_,rfl,fun B' _=>aF hn aE,h2⟩)
theorem vl (hm:ρ[m]? =some (.row stT S.length (az S))) (hm':ρ[m']? =some (.ownr stT 22 S.length (az S))) (hS:GoodS S):(OIns.mk (.mut 19 ⟨[j],[(u,86,[.own k m])],[],none,[],[.one (.own j m')]⟩) [.one (.ptr u 0)] r).Ok Tryz.prog ρ:=
 vj (args:=[.one (.ptr u 0)]) (aA Tryz.func19 rfl rfl) hm' sD (fun B w vs _ hinj hpre hv=>by
  match vs,hv with
  | [v],hv=>
   obtain⟨g,hg,rfl⟩:=hv.1
   obtain⟨sl,ht,_⟩:=sC hinj hg (hpre (u,86,[.own k m]) (List.mem_singleton.2 rfl)) hm
   refine(q_rListS ht hS).mono ?_
   rintro e w' ⟨v,rfl,h1,h2,h3⟩
   exact⟨v,rfl,h1,h2,h3⟩)
theorem oP (tl:gI ρ u 86 l S) (hS:GoodS S) (hn:ρ[n]? =some (.val (.int .i64 (S.length:Int)))):(OIns.mk (.mut 34 ⟨[],[(u,86,[l])],[],none,[],[.one (.ref n)]⟩) [.one (.ptr u 0)] r).Ok Tryz.prog ρ:=
 bY (args:=[]) (aA Tryz.func34 rfl rfl) tl (fun B w g sl vs _ ht hv=>by
  match vs,hv with
  | [],hv=>
   refine(q_rLen S ht hS.len).mono ?_
   rintro e w' ⟨rfl,h2⟩
   exact⟨_,rfl,fun B' _=>aF hn aE,h2⟩)
theorem I_tDrop (hm:ρ[m]? =some (.row stT S.length (az S))) (hm':ρ[m']? =some (.row stT (S.drop (plN S (a+1) - 1)).length (az (S.drop (plN S (a+1) - 1))))) (ka:KI ρ la .i64 a) (hS:GoodS S) (hc:ρ[c]? =some (.val (.int .i64 ((plN S (a+1) - 1:Nat):Int)))):
  (OIns.mk (.mut 26 ⟨[k],[(u,79,[.own k m])],[(u,79,[.own k m'])],none,[],[.one (.ref c)]⟩) [.one (.ptr u 0),.one la] r).Ok Tryz.prog ρ:=
 mu (args:=[.one la]) (aA Tryz.func26 rfl rfl) hm hm' (fun B w g sl vs _ ht hv=>by
  match vs,hv with
  | [v],hv=>
   have e:=ka _ _ _ hv.1
   subst e
   refine(q_DropS ht hS).mono ?_
   rintro e w' ⟨rfl,h3⟩
   exact⟨_,rfl,fun B'=>aF hc aE,h3⟩)
theorem I_rtDrop (hm:ρ[m]? =some (.row stT S.length (az S))) (hm':ρ[m']? =some (.row stT (S.drop (plN S (a+1) - 1)).length (az (S.drop (plN S (a+1) - 1))))) (ka:KI ρ la .i64 a) (hS:GoodS S) (hc:ρ[c]? =some (.val (.int .i64 ((plN S (a+1) - 1:Nat):Int)))):
  (OIns.mk (.mut 29 ⟨[k],[(u,86,[.own k m])],[(u,86,[.own k m'])],none,[],[.one (.ref c)]⟩) [.one (.ptr u 0),.one la] r).Ok Tryz.prog ρ:=
 mu (args:=[.one la]) (aA Tryz.func29 rfl rfl) hm hm' (fun B w g sl vs _ ht hv=>by
  match vs,hv with
  | [v],hv=>
   have e:=ka _ _ _ hv.1
   subst e
   refine(q_rDropS ht hS).mono ?_
   rintro e w' ⟨rfl,h3⟩
   exact⟨_,rfl,fun B'=>aF hc aE,h3⟩)
end
end Go.Proofs.YtfhinmdhjlmikaaGreat
namespace Go.Proofs.YtfhinmdhjlmikaaGreat
set_option linter.unusedSimpArgs false
set_option linter.unusedVariables false
set_option maxRecDepth 100000
open Go.RowKit
open Go.ChangeShapes Go.WideShapes Go.ChangeAt Go.RowKit
theorem mF (f:Nat→Nat) (hf:∀j,f j<4294967296):∀L,∃N,N<4294967296^L∧∀j,j<L→D N j=f j
 | 0=>⟨0,by simp,fun j h=>by omega⟩
 | L+1=>by
  obtain⟨N,h1,h2⟩:=mF f hf L
  refine⟨upd N L (f L),jm (Nat.lt_of_lt_of_le h1 (Nat.pow_le_pow_right (by decide) (Nat.le_succ L))) (Nat.lt_succ_self L) (hf L),fun j hj=> ?_⟩
  by_cases e:j=L
  ·subst e;exact kG N j (f j) (hf j)
  ·rw[gJ N L (f L) j (hf L) e];exact h2 j (by omega)
end Go.Proofs.YtfhinmdhjlmikaaGreat
namespace Go.Proofs.YtfhinmdhjlmikaaGreat
set_option linter.unusedSimpArgs false
set_option linter.unusedVariables false
set_option maxRecDepth 100000
open Go.RowKit
open Go.ChangeShapes Go.WideShapes Go.ChangeAt Go.RowKit
section
variable {H:Type} {enc:TypeId×Value→H} {W:World}
theorem bulk_one (d:DataW H):1≤Rows.uptoBulk d:=by
 cases d with
 | lit l=>cases l<;>simp[Rows.uptoBulk]
 | nil=>simp[Rows.uptoBulk]
 | ptr d=>simp[Rows.uptoBulk]
 | slice elems spare=>simp[Rows.uptoBulk]
 | agg parts=>simp[Rows.uptoBulk]
 | iface t d=>simp[Rows.uptoBulk]
 | map aW=>simp[Rows.uptoBulk]
 | held h=>simp[Rows.uptoBulk]
theorem vn:∀l:List (DataW H),l.length≤Rows.uptoBulkAll l
 | []=>Nat.zero_le _
 | d::l=>by have:=bulk_one d;have:=vn l;simp only[Rows.uptoBulkAll,List.length_cons];omega
theorem rt {fuel:Nat} {u:Value} {x:DataW H×List MemPlace} (hf:DataW.trod enc Tryz.prog W 0 (fun _=>true) true fuel 25 [u]=some x):
  ∃a L cap m,u= .slice a L cap∧IsR W (.agg #[.slice a L cap]) L m∧L≤Rows.uptoBulk x.1:=by
 obtain⟨y0,n,hy,hl0,h1⟩:=trod_struct1 Tryz.underlying25 hf
 have hc2:Tryz.prog.cellsOf 23=1:=by kernel_rfl
 simp[hc2]at h1
 rcases open_ints Tryz.underlying23 Tryz.underlying113 (by kernel_rfl) h1 with⟨hcs,_⟩ | ⟨x',l,c,zs,hcs,_,hl,hm,hz,hx0,hcell,hwz⟩
 ·simp at hcs
  subst hcs
  exact⟨none,0,0,0,rfl,⟨none,0,rfl,Nat.le_refl _,by simp,fun h=>by omega⟩,Nat.zero_le _⟩
 ·simp at hcs
  subst hcs
  obtain⟨N,hN,hD⟩:=mF (fun j=>(zs.getD j 0).toNat) (fun j=>by
   have:=range_u32 hwz j
   have e:zs.getD j 0=zs[j]?.getD 0:=by simp
   rw[e];omega) l
  refine⟨some x',l,c,N,rfl,⟨some x',c,rfl,hl,hN,fun h0=> ?_⟩,?_⟩
  ·obtain⟨b,off,spot⟩:=x'
   have hc0:=hcell 0 (by rw[hz];simp;omega)
   have hspot:spot=none:=by simpa [Addr.add]using World.cell?_spot hc0
   subst hspot
   refine⟨b,off,rfl,fun j hj=> ?_⟩
   have h2:=hcell j (by rw[hz];simp;omega)
   have hadd:(⟨b,off,none⟩:Addr).add j=⟨b,off+j,none⟩:=by unfold Addr.add;split<;>simp_all
   rw[hadd]at h2
   rw[h2,hD j hj]
   have:=range_u32 hwz j
   have e:zs.getD j 0=zs[j]?.getD 0:=by simp
   rw[e,Int.toNat_of_nonneg this.1]
  ·have h4:(lits (H:=H) .u32 (zs.take l)).length=l:=by
    simp only[lits,List.length_map,List.length_take]
    have:l≤zs.length:=by rw[hz];simp;omega
    omega
   have h5:=vn (lits (H:=H) .u32 (zs.take l))
   rw[hy]
   simp only[Rows.uptoBulk,Rows.uptoBulkAll,hx0]
   omega
theorem ew {fuel:Nat} {u0 u1 u2:Value} {x:DataW H×List MemPlace} (hf:DataW.trod enc Tryz.prog W 0 (fun _=>true) true fuel 27 [u0,u1,u2]=some x):
  ∃(r:Rq) (a b:Option Addr) (c d:Nat),u0= .bool r.s∧u1= .slice a r.L c∧u2= .slice b r.N d∧IsR W (.agg #[.slice a r.L c]) r.L r.p∧IsR W (.agg #[.slice b r.N d]) r.N r.q∧r.L≤Rows.uptoBulk x.1∧r.N≤Rows.uptoBulk x.1:=by
 have hcn:Tryz.prog.cellsOf 25=1:=by kernel_rfl
 have hcb:Tryz.prog.cellsOf 4=1:=by kernel_rfl
 obtain⟨y0,y1,y2,n,hy,hl0,h0,h1,h2⟩:=Go.Deep.trod_struct3 Tryz.underlying27 hf
 simp[hcn,hcb]at h0 h1 h2
 obtain⟨s,h3,_⟩:=DataW.trod_bool Tryz.underlying4 h0
 obtain rfl:u0= .bool s:=by simpa using h3
 obtain⟨a,L,c,m,rfl,i1,l1⟩:=rt h1
 obtain⟨a',N,c',k,rfl,i2,l2⟩:=rt h2
 have hk:Rows.uptoBulk y1.1≤Rows.uptoBulk x.1∧Rows.uptoBulk y2.1≤Rows.uptoBulk x.1:=by rw[hy];simp only[Rows.uptoBulk,Rows.uptoBulkAll];omega
 exact⟨⟨s,L,m,N,k⟩,a,a',c,c',rfl,rfl,rfl,i1,i2,Nat.le_trans l1 hk.1,Nat.le_trans l2 hk.2⟩
theorem yf {fuel:Nat} {l:List Value} {x:DataW H×List MemPlace} (hl:l.length=12) (hf:DataW.trod enc Tryz.prog W 0 (fun _=>true) true fuel 29 l=some x):
  ∃r0 r1 r2 r3:Rq,bU W [r0,r1,r2,r3] l∧(r0.L≤Rows.uptoBulk x.1∧r0.N≤Rows.uptoBulk x.1)∧(r1.L≤Rows.uptoBulk x.1∧r1.N≤Rows.uptoBulk x.1)∧(r2.L≤Rows.uptoBulk x.1∧r2.N≤Rows.uptoBulk x.1)∧(r3.L≤Rows.uptoBulk x.1∧r3.N≤Rows.uptoBulk x.1):=by
 have hcf:Tryz.prog.cellsOf 27=3:=by kernel_rfl
 match l,hl with
 | [u0,u1,u2,u3,u4,u5,u6,u7,u8,u9,u10,u11],_=>
  obtain⟨xs,n,_,hx,_,hlen,hg⟩:=DataW.trod_struct Tryz.underlying29 hf
  match xs,hlen with
  | [y0,y1,y2,y3],_=>
   have h0:=hg 0 _ rfl
   have h1:=hg 1 _ rfl
   have h2:=hg 2 _ rfl
   have h3:=hg 3 _ rfl
   simp[Value.cells,hcf]at h0 h1 h2 h3
   obtain⟨r0,a0,b0,c0,d0,rfl,rfl,rfl,i0,j0,s0,t0⟩:=ew h0
   obtain⟨r1,a1,b1,c1,d1,rfl,rfl,rfl,i1,j1,s1,t1⟩:=ew h1
   obtain⟨r2,a2,b2,c2,d2,rfl,rfl,rfl,i2,j2,s2,t2⟩:=ew h2
   obtain⟨r3,a3,b3,c3,d3,rfl,rfl,rfl,i3,j3,s3,t3⟩:=ew h3
   have hb:x.1=_:=congrArg Prod.fst hx
   simp only[List.map_cons,List.map_nil]at hb
   have hk:Rows.uptoBulk y0.1≤Rows.uptoBulk x.1∧Rows.uptoBulk y1.1≤Rows.uptoBulk x.1∧Rows.uptoBulk y2.1≤Rows.uptoBulk x.1∧Rows.uptoBulk y3.1≤Rows.uptoBulk x.1:=by rw[hb];simp only[Rows.uptoBulk,Rows.uptoBulkAll];omega
   exact⟨r0,r1,r2,r3,⟨a0,c0,b0,d0,_,rfl,i0,j0,a1,c1,b1,d1,_,rfl,i1,j1,a2,c2,b2,d2,_,rfl,i2,j2,a3,c3,b3,d3,_,rfl,i3,j3,rfl⟩,⟨by omega,by omega⟩,⟨by omega,by omega⟩,⟨by omega,by omega⟩,⟨by omega,by omega⟩⟩
theorem aaW {fuel:Nat} {l:List Value} {x:DataW H×List MemPlace} (hl:l.length=9) (hf:DataW.trod enc Tryz.prog W 0 (fun _=>true) true fuel 31 l=some x):
  ∃r0 r1 r2:Rq,bU W [r0,r1,r2] l∧(r0.L≤Rows.uptoBulk x.1∧r0.N≤Rows.uptoBulk x.1)∧(r1.L≤Rows.uptoBulk x.1∧r1.N≤Rows.uptoBulk x.1)∧(r2.L≤Rows.uptoBulk x.1∧r2.N≤Rows.uptoBulk x.1):=by
 have hcf:Tryz.prog.cellsOf 27=3:=by kernel_rfl
 match l,hl with
 | [u0,u1,u2,u3,u4,u5,u6,u7,u8],_=>
  obtain⟨xs,n,_,hx,_,hlen,hg⟩:=DataW.trod_struct Tryz.underlying31 hf
  match xs,hlen with
  | [y0,y1,y2],_=>
   have h0:=hg 0 _ rfl
   have h1:=hg 1 _ rfl
   have h2:=hg 2 _ rfl
   simp[Value.cells,hcf]at h0 h1 h2
   obtain⟨r0,a0,b0,c0,d0,rfl,rfl,rfl,i0,j0,s0,t0⟩:=ew h0
   obtain⟨r1,a1,b1,c1,d1,rfl,rfl,rfl,i1,j1,s1,t1⟩:=ew h1
   obtain⟨r2,a2,b2,c2,d2,rfl,rfl,rfl,i2,j2,s2,t2⟩:=ew h2
   have hb:x.1=_:=congrArg Prod.fst hx
   simp only[List.map_cons,List.map_nil]at hb
   have hk:Rows.uptoBulk y0.1≤Rows.uptoBulk x.1∧Rows.uptoBulk y1.1≤Rows.uptoBulk x.1∧Rows.uptoBulk y2.1≤Rows.uptoBulk x.1:=by rw[hb];simp only[Rows.uptoBulk,Rows.uptoBulkAll];omega
   exact⟨r0,r1,r2,⟨a0,c0,b0,d0,_,rfl,i0,j0,a1,c1,b1,d1,_,rfl,i1,j1,a2,c2,b2,d2,_,rfl,i2,j2,rfl⟩,⟨by omega,by omega⟩,⟨by omega,by omega⟩,⟨by omega,by omega⟩⟩
theorem qi:∀ {l l':List Rq} {cs cs':List Value},bU W l cs→bU W l' cs'→bU W (l++l') (cs++cs')
 | [],_,cs,_,h,h'=>by have h:cs=[]:=h;subst h;exact h'
 | r::l,l',cs,cs',h,h'=>by
  obtain⟨a,c,b,d,cs1,rfl,i1,i2,h3⟩:=h
  exact⟨a,c,b,d,cs1++cs',rfl,i1,i2,qi h3 h'⟩
end
end Go.Proofs.YtfhinmdhjlmikaaGreat
namespace Go.Proofs.YtfhinmdhjlmikaaGreat
set_option linter.unusedSimpArgs false
set_option linter.unusedVariables false
set_option maxRecDepth 100000
open Go.RowKit
open Go.ChangeShapes Go.WideShapes Go.ChangeAt Go.RowKit
section
variable {H:Type} {enc:TypeId×Value→H} {W:World}
theorem yg {fuel:Nat} {l:List Value} {x:DataW H×List MemPlace} (hl:l.length=21) (hf:DataW.trod enc Tryz.prog W 0 (fun _=>true) true fuel 33 l=some x):
  ∃r0 r1 r2 r3 r4 r5 r6:Rq,bU W [r0,r1,r2,r3,r4,r5,r6] l:=by
 have hcq:Tryz.prog.cellsOf 29=12:=by kernel_rfl
 have hcv:Tryz.prog.cellsOf 31=9:=by kernel_rfl
 obtain⟨xs,n,_,hx,_,hlen,hg⟩:=DataW.trod_struct Tryz.underlying33 hf
 match xs,hlen with
 | [y0,y1],_=>
  have h0:=hg 0 _ rfl
  have h1:=hg 1 _ rfl
  simp[Value.cells,hcq,hcv]at h0 h1
  obtain⟨r0,r1,r2,r3,k0,_⟩:=yf (by simp;omega) h0
  obtain⟨r4,r5,r6,k1,_⟩:=aaW (by simp;omega) h1
  refine⟨r0,r1,r2,r3,r4,r5,r6,?_⟩
  have h:=qi k0 k1
  have e:l.take 12++(l.drop 12).take 9=l:=by rw[List.take_of_length_le (show(l.drop 12).length≤9 by simp;omega),List.take_append_drop]
  rw[e]at h
  exact h
theorem vv {fuel:Nat} {l:List Value} {x:DataW H×List MemPlace} (hl:l.length=22) (hf:DataW.trod enc Tryz.prog W 0 (fun _=>true) true fuel 35 l=some x):
  ∃(s:RSt) (cs:List Value),l= .int .i64 s.tm::cs∧bU W s.rs cs:=by
 have hci:Tryz.prog.cellsOf 3=1:=by kernel_rfl
 have hcp:Tryz.prog.cellsOf 33=21:=by kernel_rfl
 obtain⟨xs,n,_,hx,_,hlen,hg⟩:=DataW.trod_struct Tryz.underlying35 hf
 match xs,hlen with
 | [y0,y1],_=>
  have h0:=hg 0 _ rfl
  have h1:=hg 1 _ rfl
  simp[Value.cells,hci,hcp]at h0 h1
  match l,hl with
  | u::l,hl=>
   simp at h0 h1 hl
   obtain⟨t,h3,_⟩:=DataW.trod_int Tryz.underlying3 h0
   obtain rfl:u= .int .i64 t:=by simpa using h3
   rw[List.take_of_length_le (by omega)]at h1
   obtain⟨r0,r1,r2,r3,r4,r5,r6,k⟩:=yg hl h1
   exact⟨⟨t,r0,r1,r2,r3,r4,r5,r6⟩,l,rfl,k⟩
end
end Go.Proofs.YtfhinmdhjlmikaaGreat
namespace Go.Proofs.YtfhinmdhjlmikaaGreat
set_option linter.unusedSimpArgs false
set_option linter.unusedVariables false
set_option maxRecDepth 100000
open Go.RowKit
open Go.ChangeShapes Go.WideShapes Go.ChangeAt Go.RowKit
section
variable {H:Type} {enc:TypeId×Value→H} {W:World}
theorem vw:∀ {R:List RSt} {j:Nat} {q:Vp},(bT R)[j]? =some q→∃i x j',R[i]? =some x∧x.qs[j']? =some q∧j=i*22+j'∧j'<22
 | [],_,_,h=>by simp[bT]at h
 | s::R,j,q,h=>by
  have h22:s.qs.length=22:=rfl
  simp only[bT,List.flatMap_cons]at h
  by_cases hj:j<22
  ·rw[List.getElem?_append_left (by omega)]at h
   exact⟨0,s,j,rfl,h,by omega,hj⟩
  ·rw[List.getElem?_append_right (by omega),h22]at h
   obtain⟨i,x,j',h1,h2,h3,h4⟩:=vw (R:=R) h
   exact⟨i+1,x,j',by simpa using h1,h2,by omega,h4⟩
theorem vA:∀ {rs:List Rq} {cs:List Value} {j:Nat} {q:Vp},bU W rs cs→(jk rs)[j]? =some q→∃u,cs[j]? =some u∧q.p W u∧∀g,¬q.fp W u g
 | [],_,_,_,_,h=>by simp[jk]at h
 | r::rs,cs,j,q,hc,h=>by
  obtain⟨a,c,b,d,cs',rfl,h1,h2,h3⟩:=hc
  simp only[jk,List.flatMap_cons]at h
  match j,h with
  | 0,h=>simp at h;subst h;exact⟨_,rfl,⟨rfl,fU⟩,fun _ h=>h⟩
  | 1,h=>simp at h;subst h;exact⟨_,rfl,h1,fun _ h=>h⟩
  | 2,h=>simp at h;subst h;exact⟨_,rfl,h2,fun _ h=>h⟩
  | j+3,h=>
   obtain⟨u,k1,k2⟩:=vA (rs:=rs) (cs:=cs') (j:=j) (q:=q) h3 (by simpa [jk]using h)
   exact⟨u,by simpa using k1,k2⟩
theorem st_qs {x:RSt} {cs:List Value} {j:Nat} {q:Vp} (hc:bU W x.rs cs) (h:x.qs[j]? =some q):∃u,(.int .i64 x.tm::cs)[j]? =some u∧q.p W u∧∀g,¬q.fp W u g:=by
 cases j with
 | zero=>
  simp[RSt.qs]at h;subst h
  exact⟨_,rfl,⟨rfl,aE⟩,fun _ h=>h⟩
 | succ j=>
  obtain⟨u,k1,k2⟩:=vA (j:=j) (q:=q) hc (by simpa [RSt.qs]using h)
  exact⟨u,by simpa using k1,k2⟩
theorem vB {v:Value} {d:DataW H} {p:List MemPlace} {base:Nat} (hval:Value.okWide Tryz.prog W .any base 22 v) (h:DataW.Trod enc Tryz.prog W 0 (fun _=>true) true 22 v d p):
  ∃R:List RSt,(Vp.rowW R.length (bT R)).p W v:=by
 obtain⟨a0,len0,cap0,rfl⟩:=okWide_slice Tryz.underlying22 hval
 obtain⟨fuel,hf⟩:=h
 have hc22:Tryz.prog.cellsOf 35=22:=by kernel_rfl
 rcases Go.Deep.open_slice Tryz.underlying22 hf with⟨hcs,_⟩ | ⟨a,len,cap,m,n,D,Pl,hcs,_,hlc,_,hm,_,hx⟩
 ·simp[Value.cells]at hcs
  obtain⟨rfl,rfl,rfl⟩:=hcs
  exact⟨[],.inl ⟨rfl,rfl,_,_,rfl⟩⟩
 ·simp[Value.cells]at hcs
  obtain⟨rfl,rfl,rfl⟩:=hcs
  have hlm:len0≤m:=by rw[hm];split<;>omega
  by_cases h0:len0=0
  ·subst h0
   exact⟨[],.inl ⟨rfl,rfl,_,_,rfl⟩⟩
  ·have hcells:∀i,i<len0→∃cs',(∀j,j<22→W.cell? ((a.add (i*22)).add j)=cs'[j]?)∧cs'.length=22∧DataW.trod enc Tryz.prog W 0 (fun _=>true) true n 35 cs'=some (D i,Pl i):=fun i hi=>by
    obtain⟨cs',h1,h2⟩:=hx i (by omega)
    rw[hc22]at h1
    obtain⟨_,hl,hcell⟩:=World.cells?_some h1
    exact⟨cs',hcell,hl,h2⟩
   obtain⟨b,o,spot⟩:=a
   have hspot:spot=none:=by
    obtain⟨cs',h1,h2,_⟩:=hcells 0 (by omega)
    have h3:=h1 0 (by omega)
    rw[List.getElem?_eq_getElem (show 0<cs'.length by omega)]at h3
    have h4:=World.cell?_spot h3
    simpa [Addr.add]using h4
   subst hspot
   simp only[dy]at hcells
   have hst:∀i,∃s:RSt,i<len0→∀(j:Nat) (q:Vp),s.qs[j]? =some q→∃u,W.cell? ⟨b,o+(i*22+j),none⟩=some u∧q.p W u∧∀g,¬q.fp W u g:=by
    intro i
    by_cases hi:i<len0
    ·obtain⟨cs',hcell,hl,h2⟩:=hcells i hi
     obtain⟨s,cs,rfl,hr⟩:=vv hl h2
     refine⟨s,fun _ j q hq=> ?_⟩
     obtain⟨u,k1,k2⟩:=st_qs hr hq
     have hj:j<22:=by have:=(List.getElem?_eq_some_iff.1 hq).1;exact this
     refine⟨u,?_,k2⟩
     rw[←Nat.add_assoc,hcell j hj];exact k1
    ·exact⟨⟨0,Fq.zero.raw,Fq.zero.raw,Fq.zero.raw,Fq.zero.raw,Fq.zero.raw,Fq.zero.raw,Fq.zero.raw⟩,fun h=>absurd h hi⟩
   obtain⟨f,hf'⟩:=Classical.axiomOfChoice hst
   refine⟨(List.range len0).map f,?_⟩
   have hlen:((List.range len0).map f).length=len0:=by simp
   rw[hlen]
   refine .inr ⟨b,o,cap0,rfl,h0,?_,fun j q hq=> ?_⟩
   ·obtain⟨cs',h1,h2,_⟩:=hcells 0 (by omega)
    have h3:=h1 0 (by omega)
    rw[List.getElem?_eq_getElem (show 0<cs'.length by omega)]at h3
    unfold World.cell? at h3
    split at h3
    ·rename_i hh
     exact(Array.getElem?_eq_some_iff.1 hh).1
    ·cases h3
   ·obtain⟨i,x,j',h1,h2,rfl,_⟩:=vw hq
    have hi:i<len0:=by have:=(List.getElem?_eq_some_iff.1 h1).1;rw[hlen]at this;exact this
    have e:x=f i:=by
     rw[List.getElem?_map,List.getElem?_range hi]at h1
     simpa using h1.symm
    subst e
    exact hf' i hi j' q h2
end
end Go.Proofs.YtfhinmdhjlmikaaGreat
