/- Tracks: what a track is, what Add makes of it. Tracks: rows as they come in. Tracks: Add at a stamp as it comes in; instances of Add and of New. Tracks: Of. Tracks: what lies around a time, and the pose there. -/
import Derived.Test.YtfhinmdhjlmikaaGreatP20
namespace Go.Proofs.YtfhinmdhjlmikaaGreat
set_option linter.unusedSimpArgs false
set_option linter.unusedVariables false
set_option maxRecDepth 100000
open Go.RowKit
structure GoodT (s:St):Prop where
 ok:s.pose.ok 2
 good:s.pose.good
 lo:0≤s.tm
 hi:s.tm≤1099511627776
/-- The stamps of a track. -/
structure GoodS (S:List St):Prop where
 len:S.length≤64
 all:∀x∈S,GoodT x
 sort:dX S
 adj:∀(i:Nat) (x y:St),S[i]? =some x→S[i+1]? =some y→¬opp x.pose y.pose
theorem GoodS.at {S:List St} (h:GoodS S) {k:Nat} {x:St} (hx:S[k]? =some x):GoodT x:=h.all x (List.mem_of_getElem? hx)
theorem GoodS.nil:GoodS []:=⟨by simp,fun x h=>by simp at h,fun i j x y _ h=>by simp at h,fun i x y h=>by simp at h⟩
theorem GoodS.drop {S:List St} (h:GoodS S) (k:Nat):GoodS (S.drop k) where
 len:=by have:=h.len;rw[List.length_drop];omega
 all:=fun x hx=>h.all x (List.mem_of_mem_drop hx)
 sort:=fun i j x y hij hx hy=>by rw[List.getElem?_drop]at hx hy;exact h.sort _ _ _ _ (by omega) hx hy
 adj:=fun i x y hx hy=>by rw[List.getElem?_drop]at hx hy;exact h.adj (k+i) x y hx (by rw[←hy];rfl)
theorem sR {S:List St} {p i:Nat} {s:St} (hp:p≤S.length) (h:i<p):(aN S p s)[i]? =S[i]? :=by
 unfold aN
 rw[List.getElem?_append_left (by rw[List.length_take];omega),List.getElem?_take,if_pos h]
theorem sS {S:List St} {p:Nat} {s:St} (hp:p≤S.length):(aN S p s)[p]? =some s:=by
 unfold aN
 have h1:(S.take p).length=p:=by rw[List.length_take];omega
 rw[List.getElem?_append_right (by omega),h1,Nat.sub_self];rfl
theorem pX {S:List St} {p i:Nat} {s:St} (hp:p≤S.length) (h:p≤i):(aN S p s)[i+1]? =S[i]? :=by
 unfold aN
 have h1:(S.take p).length=p:=by rw[List.length_take];omega
 rw[List.getElem?_append_right (by omega),h1,show i+1 - p=(i - p)+1 by omega,List.getElem?_cons_succ,List.getElem?_drop,show p+(i - p)=i by omega]
theorem uZ {S:List St} {s:St} (h:dX S) (hn:∀y,S[plN S s.tm]? =some y→y.tm≠s.tm):dX (aN S (plN S s.tm) s):=by
 have hp:=bg S s.tm
 have hb:∀i x,i<plN S s.tm→S[i]? =some x→x.tm<s.tm:=fun i x hi hx=>by
  obtain⟨x',h1,h2⟩:=dv hi
  rw[h1]at hx;injection hx with hx;subst hx;exact h2
 have ha:∀i x,plN S s.tm≤i→S[i]? =some x→s.tm<x.tm:=fun i x hi hx=>by
  have h1:=fm h hi hx
  by_cases e:i=plN S s.tm
  ·subst e;have:=hn x hx;omega
  ·have hl:plN S s.tm<S.length:=by have:=(List.getElem?_eq_some_iff.1 hx).1;omega
   have h2:=h _ _ _ _ (show plN S s.tm<i by omega) (List.getElem?_eq_getElem hl) hx
   have h3:=fm h (Nat.le_refl _) (List.getElem?_eq_getElem hl)
   omega
 intro i j x y hij hx hy
 rcases Nat.lt_trichotomy i (plN S s.tm)with hi | hi | hi
 ·rw[sR hp hi]at hx
  rcases Nat.lt_trichotomy j (plN S s.tm)with hj | hj | hj
  ·rw[sR hp hj]at hy;exact h _ _ _ _ hij hx hy
  ·subst hj;rw[sS hp]at hy;injection hy with hy;subst hy;exact hb i x hi hx
  ·obtain⟨j,rfl⟩:∃k,j=k+1:=⟨j - 1,by omega⟩
   rw[pX hp (by omega)]at hy
   have:=hb i x hi hx;have:=ha j y (by omega) hy;omega
 ·subst hi;rw[sS hp]at hx;injection hx with hx;subst hx
  obtain⟨j,rfl⟩:∃k,j=k+1:=⟨j - 1,by omega⟩
  rw[pX hp (by omega)]at hy;exact ha j y (by omega) hy
 ·obtain⟨j,rfl⟩:∃k,j=k+1:=⟨j - 1,by omega⟩
  obtain⟨i,rfl⟩:∃k,i=k+1:=⟨i - 1,by omega⟩
  rw[pX hp (by omega)]at hx hy
  exact h _ _ _ _ (by omega) hx hy
theorem ze {S:List St} {s:St} (h:GoodS S) (hz:∀z,0<plN S s.tm→S[plN S s.tm - 1]? =some z→¬opp z.pose s.pose) (hy:∀y,S[plN S s.tm]? =some y→¬opp s.pose y.pose):∀(i:Nat) (x y:St),(aN S (plN S s.tm) s)[i]? =some x→(aN S (plN S s.tm) s)[i+1]? =some y→¬opp x.pose y.pose:=by
 have hp:=bg S s.tm
 intro i x y hx hy'
 rcases Nat.lt_trichotomy i (plN S s.tm)with hi | hi | hi
 ·rw[sR hp hi]at hx
  by_cases e:i+1=plN S s.tm
  ·rw[e,sS hp]at hy';injection hy' with hy';subst hy'
   exact hz x (by omega) (by rw[←e];exact hx)
  ·rw[sR hp (by omega)]at hy';exact h.adj i x y hx hy'
 ·subst hi;rw[sS hp]at hx;injection hx with hx;subst hx
  rw[pX hp (Nat.le_refl _)]at hy';exact hy y hy'
 ·obtain⟨i,rfl⟩:∃k,i=k+1:=⟨i - 1,by omega⟩
  rw[pX hp (by omega)]at hx hy'
  exact h.adj i x y hx hy'
open Classical in
/-- What Add makes of a list, and its answer. -/
noncomputable def jl (S:List St) (s:St):List St×Int:=
 if s.tm<0∨1099511627776<s.tm then(S,4)
 else if∃y,S[plN S s.tm]? =some y∧y.tm=s.tm∧y.pose=s.pose then(S,0)
 else if∃y,S[plN S s.tm]? =some y∧y.tm=s.tm then(S,7)
 else if (∃z,0<plN S s.tm∧S[plN S s.tm - 1]? =some z∧opp z.pose s.pose)∨(∃y,S[plN S s.tm]? =some y∧opp s.pose y.pose)then(S,21)
 else if S.length<64 then(aN S (plN S s.tm) s,0)else((aN S (plN S s.tm) s).drop 1,0)
theorem nu {S:List St} {s:St} (h:GoodS S) (hs:s.pose.ok 2) (gs:s.pose.good):GoodS (jl S s).1:=by
 unfold jl
 split
 ·exact h
 ·rename_i ht
  split
  ·exact h
  ·split
   ·exact h
   ·rename_i h1 h2
    split
    ·exact h
    ·rename_i h3
     have hp:=bg S s.tm
     have hn:∀y,S[plN S s.tm]? =some y→y.tm≠s.tm:=fun y hy e=>h2 ⟨y,hy,e⟩
     have hz:∀z,0<plN S s.tm→S[plN S s.tm - 1]? =some z→¬opp z.pose s.pose:=fun z h0 hz ho=>h3 (.inl ⟨z,h0,hz,ho⟩)
     have hy:∀y,S[plN S s.tm]? =some y→¬opp s.pose y.pose:=fun y hy ho=>h3 (.inr ⟨y,hy,ho⟩)
     have hg:∀x∈aN S (plN S s.tm) s,GoodT x:=fun x hx=>by
      unfold aN at hx
      rcases List.mem_append.1 hx with hx | hx
      ·exact h.all x (List.mem_of_mem_take hx)
      ·rcases List.mem_cons.1 hx with hx | hx
       ·subst hx;exact⟨hs,gs,by omega,by omega⟩
       ·exact h.all x (List.mem_of_mem_drop hx)
     have hl:=bo (s:=s) hp
     split
     ·exact⟨by show(aN S (plN S s.tm) s).length≤64;omega,hg,uZ h.sort hn,ze h hz hy⟩
     ·have hd:((aN S (plN S s.tm) s).drop 1).length=(aN S (plN S s.tm) s).length - 1:=List.length_drop ..
      have hlen:=h.len
      refine⟨by show((aN S (plN S s.tm) s).drop 1).length≤64;omega,fun x hx=>hg x (List.mem_of_mem_drop hx),fun i j x y hij hx hy'=> ?_,fun i x y hx hy'=> ?_⟩
      ·simp only[List.getElem?_drop]at hx hy'
       exact uZ h.sort hn _ _ _ _ (by omega) hx hy'
      ·simp only[List.getElem?_drop]at hx hy'
       exact ze h hz hy (1+i) x y hx (by rw[←hy'];rfl)
theorem q_Add (S:List St) (s:St) (v:Value) {w:World} {g:Nat} {sl:Value} (h:TrkS 79 w g sl S) (i:cn w v s) (hs:s.pose.ok 2) (gs:s.pose.good) (hS:GoodS S):
  Calls Tryz.prog 14 (.pointer (some ⟨g,0,none⟩)::[v]).toArray w fun e w'=>e= .returned (.int .i64 (jl S s).2)∧TrkM 79 w g sl (jl S s).1 w':=by
 have hp:=bg S s.tm
 have hlen:=hS.len
 unfold jl
 split
 ·rename_i ht
  rcases ht with ht | ht
  ·exact q_addLo S s v h i hs gs hlen ht
  ·exact q_addHi S s v h i hs gs hlen ht
 ·rename_i ht
  have r0:0≤s.tm:=by omega
  have r1:s.tm≤1099511627776:=by omega
  split
  ·rename_i h1
   obtain⟨y,hy,ey,ep⟩:=h1
   have hg:=hS.at hy
   exact aau S s v h i hs gs hlen r0 r1 (List.getElem?_eq_some_iff.1 hy).1 y hy hg.ok hg.good ey ep
  ·rename_i h1
   split
   ·rename_i h2
    obtain⟨y,hy,ey⟩:=h2
    have hg:=hS.at hy
    exact q_addBad S s v h i hs gs hlen r0 r1 (List.getElem?_eq_some_iff.1 hy).1 y hy hg.ok hg.good ey (fun e=>h1 ⟨y,hy,ey,e⟩)
   ·rename_i h2
    have hpz:∀hz:0<plN S s.tm,∃z,S[plN S s.tm - 1]? =some z:=fun hz=>⟨_,List.getElem?_eq_getElem (by omega)⟩
    by_cases hq:plN S s.tm<S.length
    ·obtain⟨y,hy⟩:∃y,S[plN S s.tm]? =some y:=⟨_,List.getElem?_eq_getElem hq⟩
     have hg:=hS.at hy
     have ey:y.tm≠s.tm:=fun e=>h2 ⟨y,hy,e⟩
     have ho:=fm hS.sort (Nat.le_refl _) hy
     by_cases hp0:plN S s.tm=0
     ·split
      ·rename_i h3
       have oy:opp s.pose y.pose:=by
        rcases h3 with⟨z,h0,_⟩ | ⟨y',hy',o⟩
        ·omega
        ·rw[hy]at hy';injection hy' with hy';subst hy';exact o
       exact q_addB0 S s v h i hs gs hlen r0 r1 hq hp0 y hy hg.ok hg.good ey ho oy
      ·rename_i h3
       have oy:¬opp s.pose y.pose:=fun o=>h3 (.inr ⟨y,hy,o⟩)
       split
       ·rename_i hl;exact q_addI0 S s v h i hs gs hlen r0 r1 hq hp0 y hy hg.ok hg.good ey ho oy hl
       ·exact q_addI0D S s v h i hs gs hlen r0 r1 hq hp0 y hy hg.ok hg.good ey ho oy (by omega)
     ·obtain⟨z,hz⟩:=hpz (by omega)
      have hgz:=hS.at hz
      by_cases oz:opp z.pose s.pose
      ·rw[if_pos (.inl ⟨z,by omega,hz,oz⟩)]
       exact q_addBM S s v h i hs gs hlen r0 r1 hq y hy hg.ok hg.good ey ho z hz hgz.ok hgz.good (by omega) oz
      ·by_cases oy:opp s.pose y.pose
       ·rw[if_pos (.inr ⟨y,hy,oy⟩)]
        exact q_addBN S s v h i hs gs hlen r0 r1 hq y hy hg.ok hg.good ey ho z hz hgz.ok hgz.good (by omega) oz oy
       ·rw[if_neg (fun h3=>by
         rcases h3 with⟨z',_,hz',o⟩ | ⟨y',hy',o⟩
         ·rw[hz]at hz';injection hz' with hz';subst hz';exact oz o
         ·rw[hy]at hy';injection hy' with hy';subst hy';exact oy o)]
        split
        ·rename_i hl;exact q_addIM S s v h i hs gs hlen r0 r1 hq y hy hg.ok hg.good ey ho z hz hgz.ok hgz.good (by omega) oz oy hl
        ·exact q_addIMD S s v h i hs gs hlen r0 r1 hq y hy hg.ok hg.good ey ho z hz hgz.ok hgz.good (by omega) oz oy (by omega)
    ·have hq:plN S s.tm=S.length:=by omega
     have hny:∀y,S[plN S s.tm]? ≠some y:=fun y hy=>by have:=(List.getElem?_eq_some_iff.1 hy).1;omega
     by_cases hp0:plN S s.tm=0
     ·rw[if_neg (fun h3=>by
       rcases h3 with⟨z',h0,_⟩ | ⟨y',hy',o⟩
       ·omega
       ·exact hny _ hy'),if_pos (by omega)]
      exact q_addN S s v h i hs gs hlen r0 r1 hq hp0
     ·obtain⟨z,hz⟩:=hpz (by omega)
      have hgz:=hS.at hz
      by_cases oz:opp z.pose s.pose
      ·rw[if_pos (.inl ⟨z,by omega,hz,oz⟩)]
       exact q_addBE S s v h i hs gs hlen r0 r1 hq z hz hgz.ok hgz.good (by omega) oz
      ·rw[if_neg (fun h3=>by
        rcases h3 with⟨z',_,hz',o⟩ | ⟨y',hy',o⟩
        ·rw[hz]at hz';injection hz' with hz';subst hz';exact oz o
        ·exact hny _ hy')]
       split
       ·rename_i hl;exact q_addIE S s v h i hs gs hlen r0 r1 hq z hz hgz.ok hgz.good (by omega) oz hl
       ·exact q_addIED S s v h i hs gs hlen r0 r1 hq z hz hgz.ok hgz.good (by omega) oz (by omega)
theorem q_rtAdd (S:List St) (s:St) (v:Value) {w:World} {g:Nat} {sl:Value} (h:TrkS 86 w g sl S) (i:cn w v s) (hs:s.pose.ok 2) (gs:s.pose.good) (hS:GoodS S):
  Calls Tryz.prog 32 (.pointer (some ⟨g,0,none⟩)::[v]).toArray w fun e w'=>e= .returned (.int .i64 (jl S s).2)∧TrkM 86 w g sl (jl S s).1 w':=by
 have hp:=bg S s.tm
 have hlen:=hS.len
 unfold jl
 split
 ·rename_i ht
  rcases ht with ht | ht
  ·exact q_raddLo S s v h i hs gs hlen ht
  ·exact q_raddHi S s v h i hs gs hlen ht
 ·rename_i ht
  have r0:0≤s.tm:=by omega
  have r1:s.tm≤1099511627776:=by omega
  split
  ·rename_i h1
   obtain⟨y,hy,ey,ep⟩:=h1
   have hg:=hS.at hy
   exact xO S s v h i hs gs hlen r0 r1 (List.getElem?_eq_some_iff.1 hy).1 y hy hg.ok hg.good ey ep
  ·rename_i h1
   split
   ·rename_i h2
    obtain⟨y,hy,ey⟩:=h2
    have hg:=hS.at hy
    exact aaO S s v h i hs gs hlen r0 r1 (List.getElem?_eq_some_iff.1 hy).1 y hy hg.ok hg.good ey (fun e=>h1 ⟨y,hy,ey,e⟩)
   ·rename_i h2
    have hpz:∀hz:0<plN S s.tm,∃z,S[plN S s.tm - 1]? =some z:=fun hz=>⟨_,List.getElem?_eq_getElem (by omega)⟩
    by_cases hq:plN S s.tm<S.length
    ·obtain⟨y,hy⟩:∃y,S[plN S s.tm]? =some y:=⟨_,List.getElem?_eq_getElem hq⟩
     have hg:=hS.at hy
     have ey:y.tm≠s.tm:=fun e=>h2 ⟨y,hy,e⟩
     have ho:=fm hS.sort (Nat.le_refl _) hy
     by_cases hp0:plN S s.tm=0
     ·split
      ·rename_i h3
       have oy:opp s.pose y.pose:=by
        rcases h3 with⟨z,h0,_⟩ | ⟨y',hy',o⟩
        ·omega
        ·rw[hy]at hy';injection hy' with hy';subst hy';exact o
       exact q_raddB0 S s v h i hs gs hlen r0 r1 hq hp0 y hy hg.ok hg.good ey ho oy
      ·rename_i h3
       have oy:¬opp s.pose y.pose:=fun o=>h3 (.inr ⟨y,hy,o⟩)
       split
       ·rename_i hl;exact q_raddI0 S s v h i hs gs hlen r0 r1 hq hp0 y hy hg.ok hg.good ey ho oy hl
       ·exact aaP S s v h i hs gs hlen r0 r1 hq hp0 y hy hg.ok hg.good ey ho oy (by omega)
     ·obtain⟨z,hz⟩:=hpz (by omega)
      have hgz:=hS.at hz
      by_cases oz:opp z.pose s.pose
      ·rw[if_pos (.inl ⟨z,by omega,hz,oz⟩)]
       exact q_raddBM S s v h i hs gs hlen r0 r1 hq y hy hg.ok hg.good ey ho z hz hgz.ok hgz.good (by omega) oz
      ·by_cases oy:opp s.pose y.pose
       ·rw[if_pos (.inr ⟨y,hy,oy⟩)]
        exact q_raddBN S s v h i hs gs hlen r0 r1 hq y hy hg.ok hg.good ey ho z hz hgz.ok hgz.good (by omega) oz oy
       ·rw[if_neg (fun h3=>by
         rcases h3 with⟨z',_,hz',o⟩ | ⟨y',hy',o⟩
         ·rw[hz]at hz';injection hz' with hz';subst hz';exact oz o
         ·rw[hy]at hy';injection hy' with hy';subst hy';exact oy o)]
        split
        ·rename_i hl;exact q_raddIM S s v h i hs gs hlen r0 r1 hq y hy hg.ok hg.good ey ho z hz hgz.ok hgz.good (by omega) oz oy hl
        ·exact aaR S s v h i hs gs hlen r0 r1 hq y hy hg.ok hg.good ey ho z hz hgz.ok hgz.good (by omega) oz oy (by omega)
    ·have hq:plN S s.tm=S.length:=by omega
     have hny:∀y,S[plN S s.tm]? ≠some y:=fun y hy=>by have:=(List.getElem?_eq_some_iff.1 hy).1;omega
     by_cases hp0:plN S s.tm=0
     ·rw[if_neg (fun h3=>by
       rcases h3 with⟨z',h0,_⟩ | ⟨y',hy',o⟩
       ·omega
       ·exact hny _ hy'),if_pos (by omega)]
      exact q_raddN S s v h i hs gs hlen r0 r1 hq hp0
     ·obtain⟨z,hz⟩:=hpz (by omega)
      have hgz:=hS.at hz
      by_cases oz:opp z.pose s.pose
      ·rw[if_pos (.inl ⟨z,by omega,hz,oz⟩)]
       exact q_raddBE S s v h i hs gs hlen r0 r1 hq z hz hgz.ok hgz.good (by omega) oz
      ·rw[if_neg (fun h3=>by
        rcases h3 with⟨z',_,hz',o⟩ | ⟨y',hy',o⟩
        ·rw[hz]at hz';injection hz' with hz';subst hz';exact oz o
        ·exact hny _ hy')]
       split
       ·rename_i hl;exact q_raddIE S s v h i hs gs hlen r0 r1 hq z hz hgz.ok hgz.good (by omega) oz hl
       ·exact aaQ S s v h i hs gs hlen r0 r1 hq z hz hgz.ok hgz.good (by omega) oz (by omega)
end Go.Proofs.YtfhinmdhjlmikaaGreat
namespace Go.Proofs.YtfhinmdhjlmikaaGreat
set_option linter.unusedSimpArgs false
set_option linter.unusedVariables false
set_option maxRecDepth 100000
open Go.RowKit
theorem ve {w w':World} {X:Nat→Prop} {b o:Nat} (k:Chg w w' X) (hb:b<w.heap.size) (hX:¬X b):w'.cell? ⟨b,o,none⟩=w.cell? ⟨b,o,none⟩:=by
 unfold World.cell?
 simp only[k.blk b hb hX]
/-- A row that came in: nothing is known of its block but the parts. -/
def Vp.rowW (n:Nat) (qs:List Vp):Vp:=.of (fun w v=>(qs=[]∧n=0∧∃a c,v= .slice a 0 c)∨∃b o c,v= .slice (some ⟨b,o,none⟩) n c∧n≠0∧b<w.heap.size∧∀j q,qs[j]? =some q→∃u,w.cell? ⟨b,o+j,none⟩=some u∧q.p w u∧∀g,¬q.fp w u g)
 (fun v g=>∃o n c,v= .slice (some ⟨g,o,none⟩) n c∧n≠0)
 (fun w w' X v h k hX=>h.imp id fun⟨b,o,c,e,hn,hb,hq⟩=>⟨b,o,c,e,hn,Nat.lt_of_lt_of_le hb k.size,fun j q hj=>by
  obtain⟨u,h1,h2,h3⟩:=hq j q hj
  obtain⟨c1,c2⟩:=q.ch w w' X u h2 k (fun g hg=>absurd hg (h3 g))
  exact⟨u,by rw[ve k hb (hX b ⟨o,n,c,e,hn⟩)];exact h1,c1,fun g hg=>h3 g (c2 g hg)⟩⟩)
 (fun w v g h ⟨o',n',c',e',hn'⟩=>by
  rcases h with⟨_,_,a,c,e⟩ | ⟨b,o,c,e,_,hb,_⟩
  ·rw[e]at e';injection e' with _ e1 _;exact absurd e1.symm hn'
  ·rw[e]at e';injection e' with e1 _ _;injection e1 with e1;injection e1 with e1 _ _;subst e1
   exact hb)
 (fun w v h=>by
  rcases h with⟨_,_,a,c,e⟩ | ⟨b,o,c,e,_⟩<;>subst e<;>exact kM)
def Vp.plcW (qs:List Vp):Vp:=.of (fun w v=>∃b o,v= .pointer (some ⟨b,o,none⟩)∧b<w.heap.size∧∀j q,qs[j]? =some q→∃u,w.cell? ⟨b,o+j,none⟩=some u∧q.p w u∧∀g,¬q.fp w u g)
 (fun v g=>∃o,v= .pointer (some ⟨g,o,none⟩))
 (fun w w' X v ⟨b,o,e,hb,hq⟩ k hX=>⟨b,o,e,Nat.lt_of_lt_of_le hb k.size,fun j q hj=>by
  obtain⟨u,h1,h2,h3⟩:=hq j q hj
  obtain⟨c1,c2⟩:=q.ch w w' X u h2 k (fun g hg=>absurd hg (h3 g))
  exact⟨u,by rw[ve k hb (hX b ⟨o,e⟩)];exact h1,c1,fun g hg=>h3 g (c2 g hg)⟩⟩)
 (fun w v g ⟨b,o,e,hb,_⟩ ⟨o',e'⟩=>by
  rw[e]at e';injection e' with e1;injection e1 with e1;injection e1 with e1 _ _;subst e1
  exact hb)
 (fun w v ⟨b,o,e,_⟩=>by subst e;exact ud)
section
variable {ρ:Rho} {n m k L:Nat} {t e:TypeId} {B:Blk} {w:World} {qs:List Vp}
theorem dN (ht:∃e,Tryz.prog.underlying t=some (.slice e)) (hn:ρ[n]? =some (.rowW L qs)) {l:Leaf} (hl:∀B w,l.holds ρ B w (.int .i64 (L:Int))):(OIns.mk (.len t) [.one (.ref n)] (.one l)).Ok Tryz.prog ρ:=fun B w vs hv=>by
 match vs,hv with
 | [v1],hv=>
  obtain⟨s,h1,h2,_⟩:=hv.1
  rw[hn]at h1;injection h1 with h1;subst h1
  obtain⟨a,c,rfl⟩:∃a c,v1= .slice a L c:=by
   rcases h2 with⟨_,rfl,a,c,e⟩ | ⟨b,o,c,e,_⟩
   ·exact⟨_,_,e⟩
   ·exact⟨_,_,e⟩
  obtain⟨e,he⟩:=ht
  refine⟨.int .i64 (L:Int),hl B w,fun ts ty h0=> ?_⟩
  simp[Builtin.len_,h0,Sem.run_bind,run_underlying he,Result.andThen,goInt]
theorem o_iaW {l:Leaf} {sz:Nat} {qs':List Vp} (ht:Tryz.prog.underlying t=some (.slice e)) (hz:szB Tryz.prog e=some sz) (hn:ρ[n]? =some (.rowW L qs)) (hm:ρ[m]? =some (.plcW qs')) (hl:∀B w x,l.holds ρ B w x→x= .int .i64 (k:Int)) (hk:k<L) (hq0:qs≠ [])
  (hq:∀(j:Nat) (q:Vp),qs'[j]? =some q→qs[k*sz+j]? =some q):(OIns.mk (.ia t) [.one (.ref n),.one l] (.one (.ref m))).Ok Tryz.prog ρ:=fun B w vs hv=>by
 match vs,hv with
 | [v1,v2],hv=>
  obtain⟨s,h1,h2,h3⟩:=hv.1
  rw[hn]at h1;injection h1 with h1;subst h1
  have e2:=hl _ _ _ hv.2.1
  subst e2
  rcases h2 with⟨h,_⟩ | ⟨b,o,c,rfl,hc,hb,h4⟩
  ·exact absurd h hq0
  ·refine⟨.pointer (some ⟨b,o+k*sz,none⟩),⟨_,hm,⟨b,o+k*sz,rfl,hb,fun j q hj=> ?_⟩,fun g ⟨o',e'⟩=> ?_⟩,?_⟩
   ·obtain⟨u,k1,k2⟩:=h4 _ q (hq j q hj)
    exact⟨u,by rw[Nat.add_assoc];exact k1,k2⟩
   ·injection e' with e1;injection e1 with e1;injection e1 with e1 _ _;subst e1
    exact h3 _ ⟨_,_,_,rfl,hc⟩
   ·simp[Instr.indexAt,asIntOf,Sem.run_bind,run_underlying ht,bF hz,Result.andThen,hk,dy]
theorem jj {f off sz:Nat} {qs':List Vp} (ht:fldB Tryz.prog t f=some (off,sz+1)) (hn:ρ[n]? =some (.plcW qs)) (hm:ρ[m]? =some (.plcW qs')) (hq:∀(j:Nat) (q:Vp),qs'[j]? =some q→qs[off+j]? =some q):(OIns.mk (.fa t f) [.one (.ref n)] (.one (.ref m))).Ok Tryz.prog ρ:=fun B w vs hv=>by
 match vs,hv with
 | [v1],hv=>
  obtain⟨s,h1,h2,h3⟩:=hv.1
  rw[hn]at h1;injection h1 with h1;subst h1
  obtain⟨b,o,rfl,hb,h4⟩:=h2
  unfold fldB at ht
  split at ht
  ·rename_i fs hu
   split at ht
   ·rename_i fd hf
    cases hz:szB Tryz.prog fd.type with
    | none=>rw[hz]at ht;cases ht
    | some k=>
     rw[hz]at ht
     simp only[Option.map_some,Option.some.injEq,Prod.mk.injEq]at ht
     obtain⟨rfl,rfl⟩:=ht
     refine⟨.pointer (some ⟨b,o+fd.offset,none⟩),⟨_,hm,⟨b,o+fd.offset,rfl,hb,fun j q hj=> ?_⟩,fun g ⟨o',e'⟩=> ?_⟩,?_⟩
     ·obtain⟨u,k1,k2⟩:=h4 _ q (hq j q hj)
      exact⟨u,by rw[Nat.add_assoc];exact k1,k2⟩
     ·injection e' with e1;injection e1 with e1;injection e1 with e1 _ _;subst e1
      exact h3 _ ⟨_,rfl⟩
     ·simp[Instr.fieldAt,Instr.sureAddr,fieldPlace,Sem.run_bind,run_underlying hu,hf,bF hz,Result.andThen,dy]
   ·cases ht
  ·cases ht
theorem o_ldW {q:Vp} {l:Leaf} (ht:tP Tryz.prog t=some false) (hn:ρ[n]? =some (.plcW (q::qs))) (hl:∀B w x,q.p w x→(∀g,¬q.fp w x g)→l.holds ρ B w x):(OIns.mk (.ld t) [.one (.ref n)] (.one l)).Ok Tryz.prog ρ:=fun B w vs hv=>by
 match vs,hv with
 | [v1],hv=>
  obtain⟨s,h1,h2,_⟩:=hv.1
  rw[hn]at h1;injection h1 with h1;subst h1
  obtain⟨b,o,rfl,hb,h4⟩:=h2
  obtain⟨u,k1,k2,k3⟩:=h4 0 q rfl
  refine⟨u,hl B w u k2 k3,?_⟩
  have:=g9 (p:=Tryz.prog) (w:=w) (ad:=⟨b,o,none⟩) (v:=u) k1
  simp[Instr.loadAt,Instr.sureAddr,loadVar,Sem.run_bind,gQ ht,this,Result.andThen]
theorem LQ.holdsW {b:Nat}:∀ {ls:List Leaf} {qs:List Vp} {o:Nat},LQ ρ ls qs→(∀(j:Nat) (q:Vp),qs[j]? =some q→∃u,w.cell? ⟨b,o+j,none⟩=some u∧q.p w u∧∀g,¬q.fp w u g)→
  ∃vs:List Value,aR ρ B w ls vs∧∀(j:Nat) (v:Value),vs[j]? =some v→w.cell? ⟨b,o+j,none⟩=some v
 | [],_,_,_,_=>⟨[],trivial,fun _ _ h=>by simp at h⟩
 | l::ls,q::qs,o,h,hq=>by
  obtain⟨u,k1,k2,k3⟩:=hq 0 q rfl
  obtain⟨vs,e1,e2⟩:=LQ.holdsW (ls:=ls) (qs:=qs) (o:=o+1) h.2 (fun j q hj=>by rw[Nat.add_assoc,Nat.add_comm 1 j];exact hq (j+1) q (by simpa using hj))
  refine⟨u::vs,⟨h.1 B w u k2 k3,e1⟩,fun j v hv=> ?_⟩
  cases j with
  | zero=>simp at hv;subst hv;exact k1
  | succ j=>rw[Nat.add_comm j 1,←Nat.add_assoc];exact e2 j v (by simpa using hv)
 | _::_,[],_,h,_=>h.elim
theorem kD {p:Program} {g o:Nat}:∀(vs:List Value) (i:Nat) (acc:Array Value),
  (∀k v,vs[k]? =some v→w.cell? ⟨g,o+(i+k),none⟩=some v)→(loadCellsFrom ⟨g,o,none⟩ i vs.length acc).run p w= .ok (acc++vs.toArray) w
 | [],i,acc,_=>by simp[loadCellsFrom]
 | v::vs,i,acc,hv=>by
  have h1:=hv 0 v rfl
  rw[Nat.add_zero]at h1
  have h2:=kD (p:=p) vs (i+1) (acc.push v) (fun k u hu=>by
   have:=hv (k+1) u (by simpa using hu)
   rwa [show i+(k+1)=i+1+k from by omega]at this)
  simp only[List.length_cons,loadCellsFrom]
  rw[Sem.run_bind,dy,g9 h1]
  simp only[Result.andThen]
  rw[h2]
  simp
theorem dw {ls:List Leaf} (ht:tP Tryz.prog t=some true) (hz:szB Tryz.prog t=some ls.length) (hn:ρ[n]? =some (.plcW qs)) (hl:LQ ρ ls qs):(OIns.mk (.ld t) [.one (.ref n)] (.agg ls)).Ok Tryz.prog ρ:=fun B w vs hv=>by
 match vs,hv with
 | [v1],hv=>
  obtain⟨s,h1,h2,_⟩:=hv.1
  rw[hn]at h1;injection h1 with h1;subst h1
  obtain⟨b,o,rfl,hb,h4⟩:=h2
  obtain⟨us,e1,e2⟩:=hl.holdsW (B:=B) h4
  refine⟨.agg us.toArray,⟨us,rfl,e1⟩,?_⟩
  have:=kD (p:=Tryz.prog) (w:=w) (g:=b) (o:=o) us 0 #[] (fun k u hu=>by rw[Nat.zero_add];exact e2 k u hu)
  rw[e1.len]at this
  simp[Instr.loadAt,Instr.sureAddr,loadVar,loadCells,Sem.run_bind,gQ ht,bF hz,this,Result.andThen]
theorem pY:∀ {R:List RSt} {k:Nat} {x:RSt} {j:Nat} {q:Vp},R[k]? =some x→x.qs[j]? =some q→(bT R)[k*22+j]? =some q
 | [],_,_,_,_,h,_=>by simp at h
 | s::R,0,x,j,q,h,hq=>by
  simp at h;subst h
  have hj:j<s.qs.length:=(List.getElem?_eq_some_iff.1 hq).1
  simp only[bT,List.flatMap_cons,Nat.zero_mul,Nat.zero_add]
  rw[List.getElem?_append_left hj];exact hq
 | s::R,k+1,x,j,q,h,hq=>by
  have:=pY (R:=R) (k:=k) (x:=x) (by simpa using h) hq
  have h22:s.qs.length=22:=rfl
  simp only[bT,List.flatMap_cons]at this⊢
  rw[List.getElem?_append_right (by rw[h22];omega),h22,show(k+1)*22+j - 22=k*22+j from by omega]
  exact this
theorem rowR_ne {R:List RSt} {k:Nat} {x:RSt} (h:R[k]? =some x):bT R≠ []:=fun e=>by
 have:=pY (j:=0) (q:=.val (.int .i64 x.tm)) h rfl
 rw[e]at this;simp at this
/-- The place of a stamp in a row that came in. -/
theorem gD {R:List RSt} {x:RSt} {l:Leaf} (ht:Tryz.prog.underlying t=some (.slice e)) (hz:szB Tryz.prog e=some 22) (hn:ρ[n]? =some (.rowW R.length (bT R))) (hm:ρ[m]? =some (.plcW x.qs)) (hl:KI ρ l .i64 (k:Int)) (hx:R[k]? =some x):(OIns.mk (.ia t) [.one (.ref n),.one l] (.one (.ref m))).Ok Tryz.prog ρ:=
 o_iaW ht hz hn hm hl (List.getElem?_eq_some_iff.1 hx).1 (rowR_ne hx) (fun _ _ hq=>pY hx hq)
theorem hr0 {x:RSt}:∀(j:Nat) (q:Vp),x.qs[j]? =some q→x.qs[0+j]? =some q:=fun j q h=>by rw[Nat.zero_add];exact h
theorem hr1 {x:RSt}:∀(j:Nat) (q:Vp),(jk x.rs)[j]? =some q→x.qs[1+j]? =some q:=fun j q h=>by rw[Nat.add_comm];exact h
end
/-- A list that lies in a new variable. -/
def RowN (ρ:Rho) (l:Leaf) (S:List St):Prop:=(l= .sl0∧S=[])∨∃k m,l= .own k m∧(ρ[m]? =some (.row stT S.length (az S))∨ρ[m]? =some (.ownr stT 22 S.length (az S)))
def runMk (p:Program) (C:List Inst) (L:List OIns) (fn:Func) (args:List SV) (u:Nat) (T:TypeId) (fuel:Nat) (lo:Los):Option (AV×Leaf×List LOb):=
 match mS p C L fn args [] fuel lo with
 | some (r,s,obs)=>match s.vars[u]? with
  | some (t,[some l])=>if t=T then some (r,l,obs)else none
  | _=>none
 | none=>none
/-- A function that makes a track. -/
theorem mB {ρ:Rho} {w:World} {C:List Inst} {L:List OIns} {T:TypeId} {u:Nat} {l:Leaf} {S:List St} (hC:∀i∈C,i.Ok0 Tryz.prog ρ (.of w)) (hO:∀i∈L,i.Ok Tryz.prog ρ) {f:FuncId} {fn:Func} (hf:Tryz.prog.funcs[f]? =some fn) {args:List SV} {vs:List Value} {fuel:Nat} {lo:Los} {r:AV} {obs:List LOb}
  (hr:runMk Tryz.prog C L fn args u T fuel lo=some (r,l,obs)) (hl:∀o∈obs,o.Ok Tryz.prog ρ (.of w) fn.ntmps) (ha:cM ρ noB w args vs) (hS:RowN ρ l S):
  Calls Tryz.prog f vs.toArray w (fun e w'=>∃v B' g sl,e= .returned v∧r.holds ρ B' w' v∧B'.v u=some g∧w.heap.size≤g∧TrkS T w' g sl S∧(∀b,sl.ownBlock=some b→w.heap.size≤b∧dp w' b)∧Below w.heap.size w w'):=by
 obtain⟨s,hr,hs⟩:∃s,mS Tryz.prog C L fn args [] fuel lo=some (r,s,obs)∧s.vars[u]? =some (T,[some l]):=by
  unfold runMk at hr
  split at hr
  ·rename_i r' s obs' h1
   split at hr
   ·rename_i t l' h2
    split at hr
    ·rename_i ht
     subst ht
     simp only[Option.some.injEq,Prod.mk.injEq]at hr
     obtain⟨rfl,rfl,rfl⟩:=hr
     exact⟨s,h1,h2⟩
    ·cases hr
   ·cases hr
  ·cases hr
 refine(l9 (E:=.of w) (B:=noB) hC hO (by kernel_rfl) hf hr hl (fun hn=>pl hn ha)).mono ?_
 rintro e w' ⟨v,B',a',rfl,h1,hi,hv⟩
 obtain⟨g,cs,e1,e2,e3,_⟩:=hi.var (x:=u) (t:=T) (ls:=[l]) hv hs (Nat.succ_pos _) (by show 1≤100000;decide)
 have hcs:∃sl,cs.toList=[sl]∧l.holds ρ B' w' sl:=by
  match hc:cs.toList,e3 with
  | [sl],e3=>exact⟨sl,rfl,e3.1⟩
  | [],e3=>exact e3.elim
  | _::_::_,e3=>exact e3.2.elim
 obtain⟨sl,h2,h3⟩:=hcs
 have hcs:cs=#[sl]:=by rw[←Array.toList_inj];exact h2
 subst hcs
 have hge:w.heap.size≤g:=by
  rcases(hi.blk _ _ e1).1 with h | h
  ·exact h
  ·exact h.elim
 refine⟨v,B',g,sl,rfl,h1,e1,hge,?_,?_,hi.below.to⟩
 ·rcases hS with⟨rfl,rfl⟩ | ⟨k,m,rfl,hm⟩
  ·have e:sl= .slice none 0 0:=h3
   subst e
   exact⟨e2,.inl ⟨rfl,rfl,rfl⟩,fun b hb=>by cases hb⟩
  ·have hrow:(Vp.row stT S.length (az S)).p w' sl:=by
    rcases hm with hm | hm
    ·exact(iy hm h3).1
    ·exact io (iy hm h3).1
   obtain⟨_,_,_,_,k4⟩:=h3
   exact⟨e2,hrow,fun b hb e=>by subst e;exact hi.inj.vo _ _ _ e1 (k4 b hb)⟩
 ·rcases hS with⟨rfl,rfl⟩ | ⟨k,m,rfl,hm⟩
  ·have e:sl= .slice none 0 0:=h3
   subst e
   exact fun b hb=>by cases hb
  ·obtain⟨_,_,_,_,k4⟩:=h3
   exact fun b hb=>by
    obtain⟨h5,h6⟩:=hi.own _ _ (k4 b hb)
    rcases h5 with h5 | h5
    ·exact⟨h5,h6⟩
    ·exact h5.elim
theorem q_tNew (w:World):Calls Tryz.prog 27 #[] w fun e w'=>∃g sl,e= .returned (.pointer (some ⟨g,0,none⟩))∧w.heap.size≤g∧TrkS 79 w' g sl []∧(∀b,sl.ownBlock=some b→w.heap.size≤b∧dp w' b)∧Below w.heap.size w w':=by
 refine(mB (ρ:=[]) (w:=w) (fuel:=300) (args:=[]) (vs:=[]) (lo:=[]) (obs:=[]) (r:=.v (.one (.ptr 0 0))) (u:=0) (l:=.sl0) (S:=[]) (T:=79) ai aj Tryz.func27 (by kernel_rfl) aD trivial (.inl ⟨rfl,rfl⟩)).mono ?_
 rintro e w' ⟨v,B',g,sl,rfl,⟨g',h1,rfl⟩,h2,h3⟩
 rw[h2]at h1;injection h1 with h1;subst h1
 exact⟨_,_,rfl,h3⟩
theorem q_rtNew (w:World):Calls Tryz.prog 28 #[] w fun e w'=>∃g sl,e= .returned (.pointer (some ⟨g,0,none⟩))∧w.heap.size≤g∧TrkS 86 w' g sl []∧(∀b,sl.ownBlock=some b→w.heap.size≤b∧dp w' b)∧Below w.heap.size w w':=by
 refine(mB (ρ:=[]) (w:=w) (fuel:=300) (args:=[]) (vs:=[]) (lo:=[]) (obs:=[]) (r:=.v (.one (.ptr 0 0))) (u:=0) (l:=.sl0) (S:=[]) (T:=86) ai aj Tryz.func28 (by kernel_rfl) aD trivial (.inl ⟨rfl,rfl⟩)).mono ?_
 rintro e w' ⟨v,B',g,sl,rfl,⟨g',h1,rfl⟩,h2,h3⟩
 rw[h2]at h1;injection h1 with h1;subst h1
 exact⟨_,_,rfl,h3⟩
end Go.Proofs.YtfhinmdhjlmikaaGreat
namespace Go.Proofs.YtfhinmdhjlmikaaGreat
set_option linter.unusedSimpArgs false
set_option linter.unusedVariables false
set_option maxRecDepth 100000
open Go.RowKit
/-- Numbers of at most two digits. -/
def RSt.two (x:RSt):Prop:=∀r∈x.rs,r.L≤2∧r.N≤2
theorem RSt.two.sm {x:RSt} (h:x.two):x.sm:=by
 have g:∀r∈x.rs,r.L≤1000000∧r.N≤1000000:=fun r hr=>⟨Nat.le_trans (h r hr).1 (by decide),Nat.le_trans (h r hr).2 (by decide)⟩
 exact⟨g _ (by simp[RSt.rs]),g _ (by simp[RSt.rs]),g _ (by simp[RSt.rs]),g _ (by simp[RSt.rs]),g _ (by simp[RSt.rs]),g _ (by simp[RSt.rs]),g _ (by simp[RSt.rs])⟩
theorem xU {x:RSt} {s:St} (h:x.two) (e:x=s.raw) (g:s.pose.good):s.pose.ok 2:=by
 subst e
 have q:∀y:Fq,y.raw∈s.raw.rs→y.valid=true→y.ok 2:=fun y hy hv=>⟨(h _ hy).1,(h _ hy).2,Fq.valid.n hv⟩
 exact⟨⟨q _ (by simp[RSt.rs,St.raw]) g.rot.comp.w,q _ (by simp[RSt.rs,St.raw]) g.rot.comp.x,q _ (by simp[RSt.rs,St.raw]) g.rot.comp.y,q _ (by simp[RSt.rs,St.raw]) g.rot.comp.z⟩,⟨q _ (by simp[RSt.rs,St.raw]) g.pos.x,q _ (by simp[RSt.rs,St.raw]) g.pos.y,q _ (by simp[RSt.rs,St.raw]) g.pos.z⟩⟩
theorem vg {x:RSt} (h:mA x.r0 x.r1 x.r2 x.r3 x.r4 x.r5 x.r6=true):∃s:St,x=s.raw∧s.pose.good:=by
 unfold mA og ku at h
 simp only[Bool.and_eq_true]at h
 obtain⟨⟨⟨h0,h1,h2,h3⟩,h7⟩,h4,h5,h6⟩:=h
 have m0:=dB h0;have m1:=dB h1;have m2:=dB h2;have m3:=dB h3
 have m4:=dB h4;have m5:=dB h5;have m6:=dB h6
 have gc:(Qq.mk ⟨x.r0.s,x.r0.p,x.r0.q⟩ ⟨x.r1.s,x.r1.p,x.r1.q⟩ ⟨x.r2.s,x.r2.p,x.r2.q⟩ ⟨x.r3.s,x.r3.p,x.r3.q⟩).comp:=⟨m0.2,m1.2,m2.2,m3.2⟩
 refine⟨⟨x.tm,⟨⟨⟨x.r0.s,x.r0.p,x.r0.q⟩,⟨x.r1.s,x.r1.p,x.r1.q⟩,⟨x.r2.s,x.r2.p,x.r2.q⟩,⟨x.r3.s,x.r3.p,x.r3.q⟩⟩,⟨⟨x.r4.s,x.r4.p,x.r4.q⟩,⟨x.r5.s,x.r5.p,x.r5.q⟩,⟨x.r6.s,x.r6.p,x.r6.q⟩⟩⟩⟩,?_,⟨oJ gc (Fq.same_iff.1 h7),⟨m4.2,m5.2,m6.2⟩⟩⟩
 have e0:=m0.1;have e1:=m1.1;have e2:=m2.1;have e3:=m3.1;have e4:=m4.1;have e5:=m5.1;have e6:=m6.1
 obtain⟨tm,r0,r1,r2,r3,r4,r5,r6⟩:=x
 simp only at e0 e1 e2 e3 e4 e5 e6
 unfold St.raw
 simp only[←e0,←e1,←e2,←e3,←e4,←e5,←e6]
open Classical in
/-- What Add makes of a list at a stamp as it comes in. -/
noncomputable def bZ (S:List St) (x:RSt):List St×Int:=if h:∃s:St,x=s.raw∧s.pose.good then jl S h.choose else(S,4)
theorem gd {S:List St} {x:RSt} (h:GoodS S) (h2:x.two):GoodS (bZ S x).1:=by
 unfold bZ
 split
 ·rename_i hx
  exact nu h (xU h2 hx.choose_spec.1 hx.choose_spec.2) hx.choose_spec.2
 ·exact h
theorem q_AddR (S:List St) (x:RSt) (v:Value) {w:World} {g:Nat} {sl:Value} (h:TrkS 79 w g sl S) (i:oh w v x) (h2:x.two) (hS:GoodS S):
  Calls Tryz.prog 14 (.pointer (some ⟨g,0,none⟩)::[v]).toArray w fun e w'=>e= .returned (.int .i64 (bZ S x).2)∧TrkM 79 w g sl (bZ S x).1 w':=by
 unfold bZ
 split
 ·rename_i hx
  exact q_Add S hx.choose v h (by rw[←uN,←hx.choose_spec.1];exact i) (xU h2 hx.choose_spec.1 hx.choose_spec.2) hx.choose_spec.2 hS
 ·rename_i hx
  by_cases r0:x.tm<0
  ·exact q_addRLo S x v h i h2.sm r0
  ·by_cases r1:1099511627776<x.tm
   ·exact q_addRHi S x v h i h2.sm r1
   ·exact aaL S x v h i h2.sm (by omega) (by omega) (Bool.eq_false_iff.2 (fun e=>hx (vg e)))
theorem q_rtAddR (S:List St) (x:RSt) (v:Value) {w:World} {g:Nat} {sl:Value} (h:TrkS 86 w g sl S) (i:oh w v x) (h2:x.two) (hS:GoodS S):
  Calls Tryz.prog 32 (.pointer (some ⟨g,0,none⟩)::[v]).toArray w fun e w'=>e= .returned (.int .i64 (bZ S x).2)∧TrkM 86 w g sl (bZ S x).1 w':=by
 unfold bZ
 split
 ·rename_i hx
  exact q_rtAdd S hx.choose v h (by rw[←uN,←hx.choose_spec.1];exact i) (xU h2 hx.choose_spec.1 hx.choose_spec.2) hx.choose_spec.2 hS
 ·rename_i hx
  by_cases r0:x.tm<0
  ·exact aaM S x v h i h2.sm r0
  ·by_cases r1:1099511627776<x.tm
   ·exact aaN S x v h i h2.sm r1
   ·exact xN S x v h i h2.sm (by omega) (by omega) (Bool.eq_false_iff.2 (fun e=>hx (vg e)))
section
variable {ρ:Rho} {n m m' k c u:Nat} {S:List St} {x:RSt} {ns:List Nat} {r:SV}
theorem sU (hm:ρ[m]? =some (.row stT S.length (az S))) (hm':ρ[m']? =some (.row stT (bZ S x).1.length (az (bZ S x).1))) (hc:ρ[c]? =some (.val (.int .i64 (bZ S x).2))) (hn:ρ[n]? =some (.val (.int .i64 x.tm))) (ha:AtR ρ ns x.rs) (h2:x.two) (hS:GoodS S):
  (OIns.mk (.mut 14 ⟨[k],[(u,79,[.own k m])],[(u,79,[.own k m'])],none,[],[.one (.ref c)]⟩) [.one (.ptr u 0),.agg (.ref n::bf ns)] r).Ok Tryz.prog ρ:=
 mu (args:=[.agg (.ref n::bf ns)]) (aA Tryz.func14 rfl rfl) hm hm' (fun B w g sl vs _ ht hv=>by
  match vs,hv with
  | [v],hv=>
   refine(q_AddR S x v ht ((d9 hn ha).1 hv.1) h2 hS).mono ?_
   rintro e w' ⟨rfl,h3⟩
   exact⟨_,rfl,fun B'=>aF hc aE,h3⟩)
theorem mC (hm:ρ[m]? =some (.row stT S.length (az S))) (hm':ρ[m']? =some (.row stT (bZ S x).1.length (az (bZ S x).1))) (hc:ρ[c]? =some (.val (.int .i64 (bZ S x).2))) (hn:ρ[n]? =some (.val (.int .i64 x.tm))) (ha:AtR ρ ns x.rs) (h2:x.two) (hS:GoodS S):
  (OIns.mk (.mut 32 ⟨[k],[(u,86,[.own k m])],[(u,86,[.own k m'])],none,[],[.one (.ref c)]⟩) [.one (.ptr u 0),.agg (.ref n::bf ns)] r).Ok Tryz.prog ρ:=
 mu (args:=[.agg (.ref n::bf ns)]) (aA Tryz.func32 rfl rfl) hm hm' (fun B w g sl vs _ ht hv=>by
  match vs,hv with
  | [v],hv=>
   refine(q_rtAddR S x v ht ((d9 hn ha).1 hv.1) h2 hS).mono ?_
   rintro e w' ⟨rfl,h3⟩
   exact⟨_,rfl,fun B'=>aF hc aE,h3⟩)
theorem sV (hm:ρ[m]? =some (.row stT ([]:List St).length (az []))):(OIns.mk (.mut 27 ⟨[k],[],[],some (u,79,[.own k m]),[],[.one (.ptr u 0)]⟩) [] r).Ok Tryz.prog ρ:=
 oO (args:=[]) (aA Tryz.func27 rfl rfl) hm (fun B w vs _ hv=>by
  match vs,hv with
  | [],_=>
   refine(q_tNew w).mono ?_
   rintro e w' ⟨g,sl,rfl,h1,h2,h3,h4⟩
   exact⟨_,g,sl,rfl,fun B' hB=>⟨g,hB,rfl⟩,h1,h2,h3,h4⟩)
theorem sW (hm:ρ[m]? =some (.row stT ([]:List St).length (az []))):(OIns.mk (.mut 28 ⟨[k],[],[],some (u,86,[.own k m]),[],[.one (.ptr u 0)]⟩) [] r).Ok Tryz.prog ρ:=
 oO (args:=[]) (aA Tryz.func28 rfl rfl) hm (fun B w vs _ hv=>by
  match vs,hv with
  | [],_=>
   refine(q_rtNew w).mono ?_
   rintro e w' ⟨g,sl,rfl,h1,h2,h3,h4⟩
   exact⟨_,g,sl,rfl,fun B' hB=>⟨g,hB,rfl⟩,h1,h2,h3,h4⟩)
end
/-- What the first stamps make of the empty track. -/
noncomputable def aU (R:List RSt) (k:Nat):List St:=(R.take k).foldl (fun S x=>(bZ S x).1) []
theorem gE {R:List RSt} {k:Nat} {x:RSt} (hx:R[k]? =some x):aU R (k+1)=(bZ (aU R k) x).1:=by
 unfold aU
 rw[List.take_add_one,hx]
 simp
theorem df {R:List RSt} (h:∀x∈R,x.two):∀k,k≤R.length→GoodS (aU R k)
 | 0,_=>GoodS.nil
 | k+1,hk=>by
  obtain⟨x,hx⟩:∃x,R[k]? =some x:=⟨_,List.getElem?_eq_getElem (by omega)⟩
  rw[gE hx]
  exact gd (df h k (by omega)) (h x (List.mem_of_getElem? hx))
/-- The stamps can be added up to number j. -/
def eO (R:List RSt) (j:Nat):Prop:=j≤R.length∧∀k x,k<j→R[k]? =some x→(bZ (aU R k) x).2=0
theorem adds_or (R:List RSt):eO R R.length∨∃j x,R[j]? =some x∧eO R j∧(bZ (aU R j) x).2≠0:=by
 have:∀j,j≤R.length→eO R j∨∃i x,R[i]? =some x∧eO R i∧(bZ (aU R i) x).2≠0:=by
  intro j
  induction j with
  | zero=>exact fun _=>.inl ⟨Nat.zero_le _,fun k x h=>by omega⟩
  | succ j ih=>
   intro hj
   rcases ih (by omega)with h | h
   ·obtain⟨x,hx⟩:∃x,R[j]? =some x:=⟨_,List.getElem?_eq_getElem (by omega)⟩
    by_cases h0:(bZ (aU R j) x).2=0
    ·refine .inl ⟨hj,fun k y hk hy=> ?_⟩
     by_cases e:k=j
     ·subst e;rw[hx]at hy;injection hy with hy;subst hy;exact h0
     ·exact h.2 k y (by omega) hy
    ·exact .inr ⟨j,x,hx,h,h0⟩
   ·exact .inr h
 exact this _ (Nat.le_refl _)
end Go.Proofs.YtfhinmdhjlmikaaGreat
namespace Go.Proofs.YtfhinmdhjlmikaaGreat
set_option linter.unusedSimpArgs false
set_option linter.unusedVariables false
set_option maxRecDepth 100000
open Go.RowKit
theorem dc {ρ:Rho} {m:Nat} {s:Vp} {w:World} {v:Value} (hm:ρ[m]? =some s) (h:s.p w v):(Leaf.ref m).holds ρ noB w v:=⟨s,hm,h,fun g _ hB=>by
 rcases hB with⟨x,hB⟩ | ⟨x,hB⟩
 ·cases hB
 ·exact hB⟩
def pZ:MS:=bK 23 [(4,.v (.one (.ptr 0 0))),(9,.v (.one (.ref 0))),(10,.v (.one (.ref 2))),(11,.v (.one (.i .i64 0)))] [(79,[some (.own 0 1)])]
def p6:MS:=bK 23 [(4,.v (.one (.ptr 0 0))),(9,.v (.one (.ref 0))),(10,.v (.one (.ref 2)))] [(79,[some (.own 0 3)])]
def jU (R:List RSt) (v:Value):List Fq:=[]
theorem q_tOf0 {w:World} (R:List RSt) (v:Value) (hR:(Vp.rowW R.length (bT R)).p w v) (h2:∀x∈R,x.two) (hl:R.length≤100000) (hA:eO R R.length):
  Calls Tryz.prog 11 #[v] w fun e w'=>∃g sl,e= .returned (.tuple #[.pointer (some ⟨g,0,none⟩),.int .i64 0])∧w.heap.size≤g∧TrkS 79 w' g sl (aU R R.length)∧(∀b,sl.ownBlock=some b→w.heap.size≤b∧dp w' b)∧Below w.heap.size w w':=by
 have hL0:LOb.Ok Tryz.prog (frs (jU R v)++(([.rowW R.length (bT R),.row stT ([]:List St).length (az ([]:List St)),.val (.int .i64 (R.length:Int))]:List Vp)++(([.row stT (aU R R.length).length (az (aU R R.length))]:List Vp)))) (Ent.of w) 23 ⟨aZ Tryz.f11 0,pZ,.ext 0,p6⟩:=by
  refine a8 R.length (fun k=>frs (jU R v)++(([.rowW R.length (bT R),.row stT ([]:List St).length (az ([]:List St)),.val (.int .i64 (R.length:Int))]:List Vp)++(([.val (.int .i64 ((k:Nat):Int)),.row stT (aU R (k)).length (az (aU R (k)))]:List Vp)))) (fun _=>bK 23 [(4,.v (.one (.ptr 0 0))),(9,.v (.one (.ref 0))),(10,.v (.one (.ref 2))),(11,.v (.one (.ref 3)))] [(79,[some (.own 0 4)])]) ?_ ?_ ?_ (by decide) (Nat.zero_le _)
  ·intro a_ w_ h_
   exact MSt.conv (N:=3) (σ:=[(3,.i .i64 0),(4,.own 0 1)]) (cmP (by kernel_rfl)) (aB (sgi (n:=3) (u:=0) (v:=((0:Nat):Int)) rfl (aG (c:=0)) (by omega)) (aB (sgr (n:=4) (m:=1) (k:=0) rfl rfl (by rfl)) aI)) (by kernel_rfl) h_ (Nat.zero_le _)
  ·intro k hk
   obtain⟨x,hx⟩:∃x,R[k]? =some x:=⟨_,List.getElem?_eq_getElem (by omega)⟩
   have h0:=hA.2 k x hk hx
   refine aO (N:=5) (ρx:=frs (jU R v)++(([.rowW R.length (bT R),.row stT ([]:List St).length (az ([]:List St)),.val (.int .i64 (R.length:Int))]:List Vp)++(([.val (.int .i64 ((k:Nat):Int)),.row stT (aU R (k)).length (az (aU R (k)))]:List Vp)++(([.plcW x.qs,.val (.int .i64 x.tm),.val (.bool x.r0.s),.dig x.r0.L x.r0.p,.dig x.r0.N x.r0.q,.val (.bool x.r1.s),.dig x.r1.L x.r1.p,.dig x.r1.N x.r1.q,.val (.bool x.r2.s),.dig x.r2.L x.r2.p,.dig x.r2.N x.r2.q,.val (.bool x.r3.s),.dig x.r3.L x.r3.p,.dig x.r3.N x.r3.q,.val (.bool x.r4.s),.dig x.r4.L x.r4.p,.dig x.r4.N x.r4.q,.val (.bool x.r5.s),.dig x.r5.L x.r5.p,.dig x.r5.N x.r5.q,.val (.bool x.r6.s),.dig x.r6.L x.r6.p,.dig x.r6.N x.r6.q,.row stT ((bZ (aU R (k)) x).1).length (az ((bZ (aU R (k)) x).1)),.val (.int .i64 ((bZ (aU R (k)) x).2)),.val (.int .i64 (((k:Nat):Int)+1))]:List Vp))))) (cmX (by kernel_rfl)) (by kernel_rfl) (Nat.zero_le _) ?_
   exact aJ (N:=3) (σ:=[(3,.ref 30),(4,.own 0 28)]) (lo:=[]) (n:=300) (ai)
    (ae (aw (t:=3) (ah (n:=3) rfl) (ah (n:=2) rfl) (aK (by omega))) (ae (gD (n:=0) (m:=5) (k:=k) (x:=x) (R:=R) (t:=22) Tryz.underlying22 (by kernel_rfl) rfl rfl (aT (ah (n:=3) rfl) (by omega)) hx) (ae (dw (n:=5) (t:=35) (ls:=.ref 6::bf [7,10,13,16,19,22,25]) (by kernel_rfl) (by kernel_rfl) rfl (fJ (x:=x) rfl ⟨⟨rfl,rfl,rfl⟩,⟨rfl,rfl,rfl⟩,⟨rfl,rfl,rfl⟩,⟨rfl,rfl,rfl⟩,⟨rfl,rfl,rfl⟩,⟨rfl,rfl,rfl⟩,⟨rfl,rfl,rfl⟩,trivial⟩)) (ae (sU (u:=0) (k:=0) (m:=4) (m':=28) (c:=29) (n:=6) (ns:=[7,10,13,16,19,22,25]) (S:=(aU R (k))) (x:=x) (r:=.one .sl0) rfl rfl rfl rfl ⟨⟨rfl,rfl,rfl⟩,⟨rfl,rfl,rfl⟩,⟨rfl,rfl,rfl⟩,⟨rfl,rfl,rfl⟩,⟨rfl,rfl,rfl⟩,⟨rfl,rfl,rfl⟩,⟨rfl,rfl,rfl⟩,trivial⟩ (h2 x (List.mem_of_getElem? hx)) (df h2 k (by omega))) (ae (aw (t:=40) (ah (n:=29) rfl) (aG (c:=0)) (cc (by omega))) (ae (cj (m:=30) (t:=3) (ah (n:=3) rfl) (aG (c:=1)) rfl rfl (by omega) (by omega)) (aj)))))))
    (by kernel_rfl) (obs:=[]) (by kernel_rfl) aD (cmP (by kernel_rfl)) (aB (sgi (n:=3) (u:=(((k:Nat):Int)+1)) (v:=((k+1:Nat):Int)) rfl (ah (n:=30) rfl) (by omega)) (aB (sgr (n:=4) (m:=28) (k:=0) rfl rfl (gE hx).symm) aI)) (Nat.zero_le _)
  ·refine aO (N:=5) (ρx:=frs (jU R v)++(([.rowW R.length (bT R),.row stT ([]:List St).length (az ([]:List St)),.val (.int .i64 (R.length:Int))]:List Vp)++(([.val (.int .i64 ((R.length:Nat):Int)),.row stT (aU R (R.length)).length (az (aU R (R.length)))]:List Vp)++(([]:List Vp))))) (cmX (by kernel_rfl)) (by kernel_rfl) (Nat.zero_le _) ?_
   exact aJ (N:=3) (σ:=[(3,.own 0 4)]) (lo:=[]) (n:=300) (ai)
    (ae (aw (t:=3) (ah (n:=3) rfl) (ah (n:=2) rfl) (aM (by omega))) (aj))
    (by kernel_rfl) (obs:=[]) (by kernel_rfl) aD (cmP (by kernel_rfl)) (aB (sgr (n:=3) (m:=4) (k:=0) rfl rfl (by rfl)) aI) (Nat.zero_le _)
 refine(mB (ρ:=frs (jU R v)++(([.rowW R.length (bT R),.row stT ([]:List St).length (az ([]:List St)),.val (.int .i64 (R.length:Int))]:List Vp)++(([.row stT (aU R R.length).length (az (aU R R.length))]:List Vp)))) (w:=w) (fuel:=300) (args:=[.one (.ref 0)]) (vs:=[v]) (r:=.tup [.one (.ptr 0 0),.one (.i .i64 0)]) (lo:=[some (pZ,.ext 0,p6)]) (obs:=[⟨aZ Tryz.f11 0,pZ,.ext 0,p6⟩]) (u:=0) (T:=79) (l:=.own 0 3) (S:=(aU R R.length))
  (ai)
  (ae (sV (u:=0) (k:=0) (m:=1) (r:=.one .sl0) rfl) (ae (dN (n:=0) (t:=22) ⟨_,Tryz.underlying22⟩ rfl (l:=.ref 2) (fun _ _=>aF rfl aE)) (aj))) Tryz.func11 (by kernel_rfl) (bw hL0 aD) ⟨dc (m:=0) rfl hR,trivial⟩ (.inr ⟨0,3,rfl,.inl rfl⟩)).mono ?_
 rintro e w' ⟨v,B',g,sl,rfl,⟨vs,rfl,h1⟩,h2,h3⟩
 match vs,h1 with
 | [x1,x2],h1=>
  obtain⟨g',k1,rfl⟩:=h1.1
  have e2:x2= .int .i64 0:=h1.2.1
  subst e2
  rw[h2]at k1;injection k1 with k1;subst k1
  exact⟨_,_,rfl,h3⟩
def p7:MS:=bK 23 [(4,.v (.one (.ptr 0 0))),(9,.v (.one (.ref 0))),(10,.v (.one (.ref 2))),(11,.v (.one (.i .i64 0)))] [(79,[some (.own 0 1)])]
def p8:MS:=bK 23 [(2,.v (.one (.nilp))),(3,.v (.one (.ref 3)))] []
def jV (R:List RSt) (v:Value) (j:Nat) (x:RSt):List Fq:=[]
theorem q_tOf1 {w:World} (R:List RSt) (v:Value) (j:Nat) (x:RSt) (hR:(Vp.rowW R.length (bT R)).p w v) (h2:∀x∈R,x.two) (hl:R.length≤100000) (hx:R[j]? =some x) (hA:eO R j) (hc:(bZ (aU R j) x).2≠0):
  Calls Tryz.prog 11 #[v] w fun e w'=>e= .returned (.tuple #[.pointer none,.int .i64 (bZ (aU R j) x).2])∧Below w.heap.size w w':=by
 have hjl:=(List.getElem?_eq_some_iff.1 hx).1
 have hL0:LOb.Ok Tryz.prog (frs (jV R v j x)++(([.rowW R.length (bT R),.row stT ([]:List St).length (az ([]:List St)),.val (.int .i64 (R.length:Int))]:List Vp)++(([.val (.int .i64 ((bZ (aU R j) x).2))]:List Vp)))) (Ent.of w) 23 ⟨aZ Tryz.f11 0,p7,.ret,p8⟩:=by
  refine a8 j (fun k=>frs (jV R v j x)++(([.rowW R.length (bT R),.row stT ([]:List St).length (az ([]:List St)),.val (.int .i64 (R.length:Int))]:List Vp)++(([.val (.int .i64 ((k:Nat):Int)),.row stT (aU R (k)).length (az (aU R (k)))]:List Vp)))) (fun _=>bK 23 [(4,.v (.one (.ptr 0 0))),(9,.v (.one (.ref 0))),(10,.v (.one (.ref 2))),(11,.v (.one (.ref 3)))] [(79,[some (.own 0 4)])]) ?_ ?_ ?_ (by decide) (Nat.zero_le _)
  ·intro a_ w_ h_
   exact MSt.conv (N:=3) (σ:=[(3,.i .i64 0),(4,.own 0 1)]) (cmP (by kernel_rfl)) (aB (sgi (n:=3) (u:=0) (v:=((0:Nat):Int)) rfl (aG (c:=0)) (by omega)) (aB (sgr (n:=4) (m:=1) (k:=0) rfl rfl (by rfl)) aI)) (by kernel_rfl) h_ (Nat.zero_le _)
  ·intro k hk
   obtain⟨x,hx⟩:∃x,R[k]? =some x:=⟨_,List.getElem?_eq_getElem (by omega)⟩
   have h0:=hA.2 k x hk hx
   refine aO (N:=5) (ρx:=frs (jV R v j x)++(([.rowW R.length (bT R),.row stT ([]:List St).length (az ([]:List St)),.val (.int .i64 (R.length:Int))]:List Vp)++(([.val (.int .i64 ((k:Nat):Int)),.row stT (aU R (k)).length (az (aU R (k)))]:List Vp)++(([.plcW x.qs,.val (.int .i64 x.tm),.val (.bool x.r0.s),.dig x.r0.L x.r0.p,.dig x.r0.N x.r0.q,.val (.bool x.r1.s),.dig x.r1.L x.r1.p,.dig x.r1.N x.r1.q,.val (.bool x.r2.s),.dig x.r2.L x.r2.p,.dig x.r2.N x.r2.q,.val (.bool x.r3.s),.dig x.r3.L x.r3.p,.dig x.r3.N x.r3.q,.val (.bool x.r4.s),.dig x.r4.L x.r4.p,.dig x.r4.N x.r4.q,.val (.bool x.r5.s),.dig x.r5.L x.r5.p,.dig x.r5.N x.r5.q,.val (.bool x.r6.s),.dig x.r6.L x.r6.p,.dig x.r6.N x.r6.q,.row stT ((bZ (aU R (k)) x).1).length (az ((bZ (aU R (k)) x).1)),.val (.int .i64 ((bZ (aU R (k)) x).2)),.val (.int .i64 (((k:Nat):Int)+1))]:List Vp))))) (cmX (by kernel_rfl)) (by kernel_rfl) (Nat.zero_le _) ?_
   exact aJ (N:=3) (σ:=[(3,.ref 30),(4,.own 0 28)]) (lo:=[]) (n:=300) (ai)
    (ae (aw (t:=3) (ah (n:=3) rfl) (ah (n:=2) rfl) (aK (by omega))) (ae (gD (n:=0) (m:=5) (k:=k) (x:=x) (R:=R) (t:=22) Tryz.underlying22 (by kernel_rfl) rfl rfl (aT (ah (n:=3) rfl) (by omega)) hx) (ae (dw (n:=5) (t:=35) (ls:=.ref 6::bf [7,10,13,16,19,22,25]) (by kernel_rfl) (by kernel_rfl) rfl (fJ (x:=x) rfl ⟨⟨rfl,rfl,rfl⟩,⟨rfl,rfl,rfl⟩,⟨rfl,rfl,rfl⟩,⟨rfl,rfl,rfl⟩,⟨rfl,rfl,rfl⟩,⟨rfl,rfl,rfl⟩,⟨rfl,rfl,rfl⟩,trivial⟩)) (ae (sU (u:=0) (k:=0) (m:=4) (m':=28) (c:=29) (n:=6) (ns:=[7,10,13,16,19,22,25]) (S:=(aU R (k))) (x:=x) (r:=.one .sl0) rfl rfl rfl rfl ⟨⟨rfl,rfl,rfl⟩,⟨rfl,rfl,rfl⟩,⟨rfl,rfl,rfl⟩,⟨rfl,rfl,rfl⟩,⟨rfl,rfl,rfl⟩,⟨rfl,rfl,rfl⟩,⟨rfl,rfl,rfl⟩,trivial⟩ (h2 x (List.mem_of_getElem? hx)) (df h2 k (by omega))) (ae (aw (t:=40) (ah (n:=29) rfl) (aG (c:=0)) (cc (by omega))) (ae (cj (m:=30) (t:=3) (ah (n:=3) rfl) (aG (c:=1)) rfl rfl (by omega) (by omega)) (aj)))))))
    (by kernel_rfl) (obs:=[]) (by kernel_rfl) aD (cmP (by kernel_rfl)) (aB (sgi (n:=3) (u:=(((k:Nat):Int)+1)) (v:=((k+1:Nat):Int)) rfl (ah (n:=30) rfl) (by omega)) (aB (sgr (n:=4) (m:=28) (k:=0) rfl rfl (gE hx).symm) aI)) (Nat.zero_le _)
  ·refine aO (N:=5) (ρx:=frs (jV R v j x)++(([.rowW R.length (bT R),.row stT ([]:List St).length (az ([]:List St)),.val (.int .i64 (R.length:Int))]:List Vp)++(([.val (.int .i64 ((j:Nat):Int)),.row stT (aU R (j)).length (az (aU R (j)))]:List Vp)++(([.plcW x.qs,.val (.int .i64 x.tm),.val (.bool x.r0.s),.dig x.r0.L x.r0.p,.dig x.r0.N x.r0.q,.val (.bool x.r1.s),.dig x.r1.L x.r1.p,.dig x.r1.N x.r1.q,.val (.bool x.r2.s),.dig x.r2.L x.r2.p,.dig x.r2.N x.r2.q,.val (.bool x.r3.s),.dig x.r3.L x.r3.p,.dig x.r3.N x.r3.q,.val (.bool x.r4.s),.dig x.r4.L x.r4.p,.dig x.r4.N x.r4.q,.val (.bool x.r5.s),.dig x.r5.L x.r5.p,.dig x.r5.N x.r5.q,.val (.bool x.r6.s),.dig x.r6.L x.r6.p,.dig x.r6.N x.r6.q,.row stT ((bZ (aU R (j)) x).1).length (az ((bZ (aU R (j)) x).1)),.val (.int .i64 ((bZ (aU R (j)) x).2))]:List Vp))))) (cmX (by kernel_rfl)) (by kernel_rfl) (Nat.zero_le _) ?_
   exact aJ (N:=3) (σ:=[(3,.ref 29)]) (lo:=[]) (n:=300) (ai)
    (ae (aw (t:=3) (ah (n:=3) rfl) (ah (n:=2) rfl) (aK (by omega))) (ae (gD (n:=0) (m:=5) (k:=j) (x:=x) (R:=R) (t:=22) Tryz.underlying22 (by kernel_rfl) rfl rfl (aT (ah (n:=3) rfl) (by omega)) hx) (ae (dw (n:=5) (t:=35) (ls:=.ref 6::bf [7,10,13,16,19,22,25]) (by kernel_rfl) (by kernel_rfl) rfl (fJ (x:=x) rfl ⟨⟨rfl,rfl,rfl⟩,⟨rfl,rfl,rfl⟩,⟨rfl,rfl,rfl⟩,⟨rfl,rfl,rfl⟩,⟨rfl,rfl,rfl⟩,⟨rfl,rfl,rfl⟩,⟨rfl,rfl,rfl⟩,trivial⟩)) (ae (sU (u:=0) (k:=0) (m:=4) (m':=28) (c:=29) (n:=6) (ns:=[7,10,13,16,19,22,25]) (S:=(aU R (j))) (x:=x) (r:=.one .sl0) rfl rfl rfl rfl ⟨⟨rfl,rfl,rfl⟩,⟨rfl,rfl,rfl⟩,⟨rfl,rfl,rfl⟩,⟨rfl,rfl,rfl⟩,⟨rfl,rfl,rfl⟩,⟨rfl,rfl,rfl⟩,⟨rfl,rfl,rfl⟩,trivial⟩ (h2 x (List.mem_of_getElem? hx)) (df h2 j (by omega))) (ae (aw (t:=40) (ah (n:=29) rfl) (aG (c:=0)) (pN (by omega))) (aj))))))
    (by kernel_rfl) (obs:=[]) (by kernel_rfl) aD (cmP (by kernel_rfl)) (aB (sgi (n:=3) (u:=(bZ (aU R (j)) x).2) (v:=(bZ (aU R j) x).2) rfl (ah (n:=29) rfl) (by omega)) aI) (Nat.zero_le _)
 refine(aX (ρ:=frs (jV R v j x)++(([.rowW R.length (bT R),.row stT ([]:List St).length (az ([]:List St)),.val (.int .i64 (R.length:Int))]:List Vp)++(([.val (.int .i64 ((bZ (aU R j) x).2))]:List Vp)))) (w:=w) (fuel:=300) (args:=[.one (.ref 0)]) (vs:=[v]) (r:=.tup [.one (.nilp),.one (.ref 3)]) (lo:=[some (p7,.ret,p8)]) (obs:=[⟨aZ Tryz.f11 0,p7,.ret,p8⟩])
  (ai)
  (ae (sV (u:=0) (k:=0) (m:=1) (r:=.one .sl0) rfl) (ae (dN (n:=0) (t:=22) ⟨_,Tryz.underlying22⟩ rfl (l:=.ref 2) (fun _ _=>aF rfl aE)) (aj))) (by kernel_rfl) Tryz.func11 (by kernel_rfl) (bw hL0 aD) ⟨dc (m:=0) rfl hR,trivial⟩).mono ?_
 rintro e w' ⟨v,rfl,⟨vs,rfl,h1⟩,h2⟩
 match vs,h1 with
 | [x1,x2],h1=>
  have e1:x1= .pointer none:=h1.1
  have e2:x2= .int .i64 _:=bj rfl h1.2.1
  subst e1;subst e2
  exact⟨rfl,h2⟩
def nw:MS:=bK 24 [(0,.v (.one (.ref 0))),(4,.v (.one (.ptr 0 0))),(5,.v (.one (.i .i64 0)))] [(86,[some (.own 0 1)])]
def nz:MS:=bK 24 [(0,.v (.one (.ref 0))),(4,.v (.one (.ptr 0 0)))] [(86,[some (.own 0 2)])]
def iB (R:List RSt) (v:Value):List Fq:=[]
theorem q_rtOf0 {w:World} (R:List RSt) (v:Value) (hR:(Vp.rowW R.length (bT R)).p w v) (h2:∀x∈R,x.two) (hl:R.length≤100000) (hA:eO R R.length):
  Calls Tryz.prog 16 #[v] w fun e w'=>∃g sl,e= .returned (.tuple #[.pointer (some ⟨g,0,none⟩),.int .i64 0])∧w.heap.size≤g∧TrkS 86 w' g sl (aU R R.length)∧(∀b,sl.ownBlock=some b→w.heap.size≤b∧dp w' b)∧Below w.heap.size w w':=by
 have hL0:LOb.Ok Tryz.prog (frs (iB R v)++(([.rowW R.length (bT R),.row stT ([]:List St).length (az ([]:List St))]:List Vp)++(([.row stT (aU R R.length).length (az (aU R R.length))]:List Vp)))) (Ent.of w) 24 ⟨aZ Tryz.f16 0,nw,.ext 0,nz⟩:=by
  refine a8 R.length (fun k=>frs (iB R v)++(([.rowW R.length (bT R),.row stT ([]:List St).length (az ([]:List St))]:List Vp)++(([.val (.int .i64 ((k:Nat):Int)),.row stT (aU R (k)).length (az (aU R (k)))]:List Vp)))) (fun _=>bK 24 [(0,.v (.one (.ref 0))),(4,.v (.one (.ptr 0 0))),(5,.v (.one (.ref 2)))] [(86,[some (.own 0 3)])]) ?_ ?_ ?_ (by decide) (Nat.zero_le _)
  ·intro a_ w_ h_
   exact MSt.conv (N:=2) (σ:=[(2,.i .i64 0),(3,.own 0 1)]) (cmP (by kernel_rfl)) (aB (sgi (n:=2) (u:=0) (v:=((0:Nat):Int)) rfl (aG (c:=0)) (by omega)) (aB (sgr (n:=3) (m:=1) (k:=0) rfl rfl (by rfl)) aI)) (by kernel_rfl) h_ (Nat.zero_le _)
  ·intro k hk
   obtain⟨x,hx⟩:∃x,R[k]? =some x:=⟨_,List.getElem?_eq_getElem (by omega)⟩
   have h0:=hA.2 k x hk hx
   refine aO (N:=4) (ρx:=frs (iB R v)++(([.rowW R.length (bT R),.row stT ([]:List St).length (az ([]:List St))]:List Vp)++(([.val (.int .i64 ((k:Nat):Int)),.row stT (aU R (k)).length (az (aU R (k)))]:List Vp)++(([.val (.int .i64 (R.length:Int)),.plcW x.qs,.val (.int .i64 x.tm),.val (.bool x.r0.s),.dig x.r0.L x.r0.p,.dig x.r0.N x.r0.q,.val (.bool x.r1.s),.dig x.r1.L x.r1.p,.dig x.r1.N x.r1.q,.val (.bool x.r2.s),.dig x.r2.L x.r2.p,.dig x.r2.N x.r2.q,.val (.bool x.r3.s),.dig x.r3.L x.r3.p,.dig x.r3.N x.r3.q,.val (.bool x.r4.s),.dig x.r4.L x.r4.p,.dig x.r4.N x.r4.q,.val (.bool x.r5.s),.dig x.r5.L x.r5.p,.dig x.r5.N x.r5.q,.val (.bool x.r6.s),.dig x.r6.L x.r6.p,.dig x.r6.N x.r6.q,.row stT ((bZ (aU R (k)) x).1).length (az ((bZ (aU R (k)) x).1)),.val (.int .i64 ((bZ (aU R (k)) x).2)),.val (.int .i64 (((k:Nat):Int)+1))]:List Vp))))) (cmX (by kernel_rfl)) (by kernel_rfl) (Nat.zero_le _) ?_
   exact aJ (N:=2) (σ:=[(2,.ref 30),(3,.own 0 28)]) (lo:=[]) (n:=300) (ai)
    (ae (dN (n:=0) (t:=22) ⟨_,Tryz.underlying22⟩ rfl (l:=.ref 4) (fun _ _=>aF rfl aE)) (ae (aw (t:=3) (ah (n:=2) rfl) (ah (n:=4) rfl) (aK (by omega))) (ae (gD (n:=0) (m:=5) (k:=k) (x:=x) (R:=R) (t:=22) Tryz.underlying22 (by kernel_rfl) rfl rfl (aT (ah (n:=2) rfl) (by omega)) hx) (ae (dw (n:=5) (t:=35) (ls:=.ref 6::bf [7,10,13,16,19,22,25]) (by kernel_rfl) (by kernel_rfl) rfl (fJ (x:=x) rfl ⟨⟨rfl,rfl,rfl⟩,⟨rfl,rfl,rfl⟩,⟨rfl,rfl,rfl⟩,⟨rfl,rfl,rfl⟩,⟨rfl,rfl,rfl⟩,⟨rfl,rfl,rfl⟩,⟨rfl,rfl,rfl⟩,trivial⟩)) (ae (mC (u:=0) (k:=0) (m:=3) (m':=28) (c:=29) (n:=6) (ns:=[7,10,13,16,19,22,25]) (S:=(aU R (k))) (x:=x) (r:=.one .sl0) rfl rfl rfl rfl ⟨⟨rfl,rfl,rfl⟩,⟨rfl,rfl,rfl⟩,⟨rfl,rfl,rfl⟩,⟨rfl,rfl,rfl⟩,⟨rfl,rfl,rfl⟩,⟨rfl,rfl,rfl⟩,⟨rfl,rfl,rfl⟩,trivial⟩ (h2 x (List.mem_of_getElem? hx)) (df h2 k (by omega))) (ae (aw (t:=40) (ah (n:=29) rfl) (aG (c:=0)) (cc (by omega))) (ae (cj (m:=30) (t:=3) (ah (n:=2) rfl) (aG (c:=1)) rfl rfl (by omega) (by omega)) (aj))))))))
    (by kernel_rfl) (obs:=[]) (by kernel_rfl) aD (cmP (by kernel_rfl)) (aB (sgi (n:=2) (u:=(((k:Nat):Int)+1)) (v:=((k+1:Nat):Int)) rfl (ah (n:=30) rfl) (by omega)) (aB (sgr (n:=3) (m:=28) (k:=0) rfl rfl (gE hx).symm) aI)) (Nat.zero_le _)
  ·refine aO (N:=4) (ρx:=frs (iB R v)++(([.rowW R.length (bT R),.row stT ([]:List St).length (az ([]:List St))]:List Vp)++(([.val (.int .i64 ((R.length:Nat):Int)),.row stT (aU R (R.length)).length (az (aU R (R.length)))]:List Vp)++(([.val (.int .i64 (R.length:Int))]:List Vp))))) (cmX (by kernel_rfl)) (by kernel_rfl) (Nat.zero_le _) ?_
   exact aJ (N:=2) (σ:=[(2,.own 0 3)]) (lo:=[]) (n:=300) (ai)
    (ae (dN (n:=0) (t:=22) ⟨_,Tryz.underlying22⟩ rfl (l:=.ref 4) (fun _ _=>aF rfl aE)) (ae (aw (t:=3) (ah (n:=2) rfl) (ah (n:=4) rfl) (aM (by omega))) (aj)))
    (by kernel_rfl) (obs:=[]) (by kernel_rfl) aD (cmP (by kernel_rfl)) (aB (sgr (n:=2) (m:=3) (k:=0) rfl rfl (by rfl)) aI) (Nat.zero_le _)
 refine(mB (ρ:=frs (iB R v)++(([.rowW R.length (bT R),.row stT ([]:List St).length (az ([]:List St))]:List Vp)++(([.row stT (aU R R.length).length (az (aU R R.length))]:List Vp)))) (w:=w) (fuel:=300) (args:=[.one (.ref 0)]) (vs:=[v]) (r:=.tup [.one (.ptr 0 0),.one (.i .i64 0)]) (lo:=[some (nw,.ext 0,nz)]) (obs:=[⟨aZ Tryz.f16 0,nw,.ext 0,nz⟩]) (u:=0) (T:=86) (l:=.own 0 2) (S:=(aU R R.length))
  (ai)
  (ae (sW (u:=0) (k:=0) (m:=1) (r:=.one .sl0) rfl) (aj)) Tryz.func16 (by kernel_rfl) (bw hL0 aD) ⟨dc (m:=0) rfl hR,trivial⟩ (.inr ⟨0,2,rfl,.inl rfl⟩)).mono ?_
 rintro e w' ⟨v,B',g,sl,rfl,⟨vs,rfl,h1⟩,h2,h3⟩
 match vs,h1 with
 | [x1,x2],h1=>
  obtain⟨g',k1,rfl⟩:=h1.1
  have e2:x2= .int .i64 0:=h1.2.1
  subst e2
  rw[h2]at k1;injection k1 with k1;subst k1
  exact⟨_,_,rfl,h3⟩
def nA:MS:=bK 24 [(0,.v (.one (.ref 0))),(4,.v (.one (.ptr 0 0))),(5,.v (.one (.i .i64 0)))] [(86,[some (.own 0 1)])]
def nB:MS:=bK 24 [(2,.v (.one (.nilp))),(3,.v (.one (.ref 2)))] []
def iC (R:List RSt) (v:Value) (j:Nat) (x:RSt):List Fq:=[]
theorem q_rtOf1 {w:World} (R:List RSt) (v:Value) (j:Nat) (x:RSt) (hR:(Vp.rowW R.length (bT R)).p w v) (h2:∀x∈R,x.two) (hl:R.length≤100000) (hx:R[j]? =some x) (hA:eO R j) (hc:(bZ (aU R j) x).2≠0):
  Calls Tryz.prog 16 #[v] w fun e w'=>e= .returned (.tuple #[.pointer none,.int .i64 (bZ (aU R j) x).2])∧Below w.heap.size w w':=by
 have hjl:=(List.getElem?_eq_some_iff.1 hx).1
 have hL0:LOb.Ok Tryz.prog (frs (iC R v j x)++(([.rowW R.length (bT R),.row stT ([]:List St).length (az ([]:List St))]:List Vp)++(([.val (.int .i64 ((bZ (aU R j) x).2))]:List Vp)))) (Ent.of w) 24 ⟨aZ Tryz.f16 0,nA,.ret,nB⟩:=by
  refine a8 j (fun k=>frs (iC R v j x)++(([.rowW R.length (bT R),.row stT ([]:List St).length (az ([]:List St))]:List Vp)++(([.val (.int .i64 ((k:Nat):Int)),.row stT (aU R (k)).length (az (aU R (k)))]:List Vp)))) (fun _=>bK 24 [(0,.v (.one (.ref 0))),(4,.v (.one (.ptr 0 0))),(5,.v (.one (.ref 2)))] [(86,[some (.own 0 3)])]) ?_ ?_ ?_ (by decide) (Nat.zero_le _)
  ·intro a_ w_ h_
   exact MSt.conv (N:=2) (σ:=[(2,.i .i64 0),(3,.own 0 1)]) (cmP (by kernel_rfl)) (aB (sgi (n:=2) (u:=0) (v:=((0:Nat):Int)) rfl (aG (c:=0)) (by omega)) (aB (sgr (n:=3) (m:=1) (k:=0) rfl rfl (by rfl)) aI)) (by kernel_rfl) h_ (Nat.zero_le _)
  ·intro k hk
   obtain⟨x,hx⟩:∃x,R[k]? =some x:=⟨_,List.getElem?_eq_getElem (by omega)⟩
   have h0:=hA.2 k x hk hx
   refine aO (N:=4) (ρx:=frs (iC R v j x)++(([.rowW R.length (bT R),.row stT ([]:List St).length (az ([]:List St))]:List Vp)++(([.val (.int .i64 ((k:Nat):Int)),.row stT (aU R (k)).length (az (aU R (k)))]:List Vp)++(([.val (.int .i64 (R.length:Int)),.plcW x.qs,.val (.int .i64 x.tm),.val (.bool x.r0.s),.dig x.r0.L x.r0.p,.dig x.r0.N x.r0.q,.val (.bool x.r1.s),.dig x.r1.L x.r1.p,.dig x.r1.N x.r1.q,.val (.bool x.r2.s),.dig x.r2.L x.r2.p,.dig x.r2.N x.r2.q,.val (.bool x.r3.s),.dig x.r3.L x.r3.p,.dig x.r3.N x.r3.q,.val (.bool x.r4.s),.dig x.r4.L x.r4.p,.dig x.r4.N x.r4.q,.val (.bool x.r5.s),.dig x.r5.L x.r5.p,.dig x.r5.N x.r5.q,.val (.bool x.r6.s),.dig x.r6.L x.r6.p,.dig x.r6.N x.r6.q,.row stT ((bZ (aU R (k)) x).1).length (az ((bZ (aU R (k)) x).1)),.val (.int .i64 ((bZ (aU R (k)) x).2)),.val (.int .i64 (((k:Nat):Int)+1))]:List Vp))))) (cmX (by kernel_rfl)) (by kernel_rfl) (Nat.zero_le _) ?_
   exact aJ (N:=2) (σ:=[(2,.ref 30),(3,.own 0 28)]) (lo:=[]) (n:=300) (ai)
    (ae (dN (n:=0) (t:=22) ⟨_,Tryz.underlying22⟩ rfl (l:=.ref 4) (fun _ _=>aF rfl aE)) (ae (aw (t:=3) (ah (n:=2) rfl) (ah (n:=4) rfl) (aK (by omega))) (ae (gD (n:=0) (m:=5) (k:=k) (x:=x) (R:=R) (t:=22) Tryz.underlying22 (by kernel_rfl) rfl rfl (aT (ah (n:=2) rfl) (by omega)) hx) (ae (dw (n:=5) (t:=35) (ls:=.ref 6::bf [7,10,13,16,19,22,25]) (by kernel_rfl) (by kernel_rfl) rfl (fJ (x:=x) rfl ⟨⟨rfl,rfl,rfl⟩,⟨rfl,rfl,rfl⟩,⟨rfl,rfl,rfl⟩,⟨rfl,rfl,rfl⟩,⟨rfl,rfl,rfl⟩,⟨rfl,rfl,rfl⟩,⟨rfl,rfl,rfl⟩,trivial⟩)) (ae (mC (u:=0) (k:=0) (m:=3) (m':=28) (c:=29) (n:=6) (ns:=[7,10,13,16,19,22,25]) (S:=(aU R (k))) (x:=x) (r:=.one .sl0) rfl rfl rfl rfl ⟨⟨rfl,rfl,rfl⟩,⟨rfl,rfl,rfl⟩,⟨rfl,rfl,rfl⟩,⟨rfl,rfl,rfl⟩,⟨rfl,rfl,rfl⟩,⟨rfl,rfl,rfl⟩,⟨rfl,rfl,rfl⟩,trivial⟩ (h2 x (List.mem_of_getElem? hx)) (df h2 k (by omega))) (ae (aw (t:=40) (ah (n:=29) rfl) (aG (c:=0)) (cc (by omega))) (ae (cj (m:=30) (t:=3) (ah (n:=2) rfl) (aG (c:=1)) rfl rfl (by omega) (by omega)) (aj))))))))
    (by kernel_rfl) (obs:=[]) (by kernel_rfl) aD (cmP (by kernel_rfl)) (aB (sgi (n:=2) (u:=(((k:Nat):Int)+1)) (v:=((k+1:Nat):Int)) rfl (ah (n:=30) rfl) (by omega)) (aB (sgr (n:=3) (m:=28) (k:=0) rfl rfl (gE hx).symm) aI)) (Nat.zero_le _)
  ·refine aO (N:=4) (ρx:=frs (iC R v j x)++(([.rowW R.length (bT R),.row stT ([]:List St).length (az ([]:List St))]:List Vp)++(([.val (.int .i64 ((j:Nat):Int)),.row stT (aU R (j)).length (az (aU R (j)))]:List Vp)++(([.val (.int .i64 (R.length:Int)),.plcW x.qs,.val (.int .i64 x.tm),.val (.bool x.r0.s),.dig x.r0.L x.r0.p,.dig x.r0.N x.r0.q,.val (.bool x.r1.s),.dig x.r1.L x.r1.p,.dig x.r1.N x.r1.q,.val (.bool x.r2.s),.dig x.r2.L x.r2.p,.dig x.r2.N x.r2.q,.val (.bool x.r3.s),.dig x.r3.L x.r3.p,.dig x.r3.N x.r3.q,.val (.bool x.r4.s),.dig x.r4.L x.r4.p,.dig x.r4.N x.r4.q,.val (.bool x.r5.s),.dig x.r5.L x.r5.p,.dig x.r5.N x.r5.q,.val (.bool x.r6.s),.dig x.r6.L x.r6.p,.dig x.r6.N x.r6.q,.row stT ((bZ (aU R (j)) x).1).length (az ((bZ (aU R (j)) x).1)),.val (.int .i64 ((bZ (aU R (j)) x).2))]:List Vp))))) (cmX (by kernel_rfl)) (by kernel_rfl) (Nat.zero_le _) ?_
   exact aJ (N:=2) (σ:=[(2,.ref 29)]) (lo:=[]) (n:=300) (ai)
    (ae (dN (n:=0) (t:=22) ⟨_,Tryz.underlying22⟩ rfl (l:=.ref 4) (fun _ _=>aF rfl aE)) (ae (aw (t:=3) (ah (n:=2) rfl) (ah (n:=4) rfl) (aK (by omega))) (ae (gD (n:=0) (m:=5) (k:=j) (x:=x) (R:=R) (t:=22) Tryz.underlying22 (by kernel_rfl) rfl rfl (aT (ah (n:=2) rfl) (by omega)) hx) (ae (dw (n:=5) (t:=35) (ls:=.ref 6::bf [7,10,13,16,19,22,25]) (by kernel_rfl) (by kernel_rfl) rfl (fJ (x:=x) rfl ⟨⟨rfl,rfl,rfl⟩,⟨rfl,rfl,rfl⟩,⟨rfl,rfl,rfl⟩,⟨rfl,rfl,rfl⟩,⟨rfl,rfl,rfl⟩,⟨rfl,rfl,rfl⟩,⟨rfl,rfl,rfl⟩,trivial⟩)) (ae (mC (u:=0) (k:=0) (m:=3) (m':=28) (c:=29) (n:=6) (ns:=[7,10,13,16,19,22,25]) (S:=(aU R (j))) (x:=x) (r:=.one .sl0) rfl rfl rfl rfl ⟨⟨rfl,rfl,rfl⟩,⟨rfl,rfl,rfl⟩,⟨rfl,rfl,rfl⟩,⟨rfl,rfl,rfl⟩,⟨rfl,rfl,rfl⟩,⟨rfl,rfl,rfl⟩,⟨rfl,rfl,rfl⟩,trivial⟩ (h2 x (List.mem_of_getElem? hx)) (df h2 j (by omega))) (ae (aw (t:=40) (ah (n:=29) rfl) (aG (c:=0)) (pN (by omega))) (aj)))))))
    (by kernel_rfl) (obs:=[]) (by kernel_rfl) aD (cmP (by kernel_rfl)) (aB (sgi (n:=2) (u:=(bZ (aU R (j)) x).2) (v:=(bZ (aU R j) x).2) rfl (ah (n:=29) rfl) (by omega)) aI) (Nat.zero_le _)
 refine(aX (ρ:=frs (iC R v j x)++(([.rowW R.length (bT R),.row stT ([]:List St).length (az ([]:List St))]:List Vp)++(([.val (.int .i64 ((bZ (aU R j) x).2))]:List Vp)))) (w:=w) (fuel:=300) (args:=[.one (.ref 0)]) (vs:=[v]) (r:=.tup [.one (.nilp),.one (.ref 2)]) (lo:=[some (nA,.ret,nB)]) (obs:=[⟨aZ Tryz.f16 0,nA,.ret,nB⟩])
  (ai)
  (ae (sW (u:=0) (k:=0) (m:=1) (r:=.one .sl0) rfl) (aj)) (by kernel_rfl) Tryz.func16 (by kernel_rfl) (bw hL0 aD) ⟨dc (m:=0) rfl hR,trivial⟩).mono ?_
 rintro e w' ⟨v,rfl,⟨vs,rfl,h1⟩,h2⟩
 match vs,h1 with
 | [x1,x2],h1=>
  have e1:x1= .pointer none:=h1.1
  have e2:x2= .int .i64 _:=bj rfl h1.2.1
  subst e1;subst e2
  exact⟨rfl,h2⟩
end Go.Proofs.YtfhinmdhjlmikaaGreat
namespace Go.Proofs.YtfhinmdhjlmikaaGreat
set_option linter.unusedSimpArgs false
set_option linter.unusedVariables false
set_option maxRecDepth 100000
open Go.RowKit
theorem kn:∀ {S:List St} {b:Int} {k:Nat},(∀(i:Nat) (x:St),i<k→S[i]? =some x→x.tm<b)→(∀x,S[k]? =some x→¬x.tm<b)→k≤S.length→plN S b=k
 | [],_,k,_,_,hk=>by simp at hk;subst hk;rfl
 | s::S,b,0,_,h,_=>by
  have:=h s rfl
  simp[plN,this]
 | s::S,b,k+1,h1,h2,hk=>by
  have h0:=h1 0 s (by omega) rfl
  simp only[plN,if_pos h0]
  rw[kn (S:=S) (b:=b) (k:=k) (fun i x hi hx=>h1 (i+1) x (by omega) (by simpa using hx)) (fun x hx=>h2 x (by simpa using hx)) (by simp at hk;omega)]
/-- What lies around a time. -/
inductive Road (S:List St) (a:Int):St→St→Int→Prop
 | E (h:S.length=0):Road S a zst zst 6
 | O1 (f:St) (hf:S[0]? =some f) (hn:0<S.length) (ha:a<f.tm):Road S a zst zst 17
 | O2 (f:St) (hf:S[0]? =some f) (hb:f.tm≤a) (l:St) (hl:S[S.length - 1]? =some l) (hn:0<S.length) (ha:l.tm<a):Road S a zst zst 17
 | Q (f:St) (hf:S[0]? =some f) (hb:f.tm≤a) (l:St) (hl:S[S.length - 1]? =some l) (hn:0<S.length) (ha:a≤l.tm) (y:St) (hy:S[plN S a]? =some y) (ey:y.tm=a) (hp:plN S a<S.length) (eq1:plN S (a+1)=plN S a+1):Road S a y y 0
 | M (f:St) (hf:S[0]? =some f) (hb:f.tm≤a) (l:St) (hl:S[S.length - 1]? =some l) (hn:0<S.length) (ha:a≤l.tm) (y:St) (hy:S[plN S a]? =some y) (ey:a<y.tm) (hp:plN S a<S.length) (h0:0<plN S a) (eq1:plN S (a+1)=plN S a) (z:St) (hz:S[plN S a - 1]? =some z):Road S a z y 0
theorem road {S:List St} (hS:GoodS S) (a:Int):∃z y c,Road S a z y c:=by
 by_cases h0:S.length=0
 ·exact⟨_,_,_,.E h0⟩
 ·obtain⟨f,hf⟩:∃f,S[0]? =some f:=⟨_,List.getElem?_eq_getElem (by omega)⟩
  obtain⟨l,hl⟩:∃f,S[S.length - 1]? =some f:=⟨_,List.getElem?_eq_getElem (by omega)⟩
  by_cases ha:a<f.tm
  ·exact⟨_,_,_,.O1 f hf (by omega) ha⟩
  ·by_cases hb:l.tm<a
   ·exact⟨_,_,_,.O2 f hf (by omega) l hl (by omega) hb⟩
   ·have hle:=bg S a
    have hp:plN S a<S.length:=by
     by_cases e:plN S a=S.length
     ·obtain⟨x,h1,h2⟩:=dv (S:=S) (a:=a) (k:=S.length - 1) (by omega)
      rw[hl]at h1;injection h1 with h1;subst h1;exact absurd h2 hb
     ·omega
    obtain⟨y,hy,hge⟩:=sE hp
    by_cases ey:y.tm=a
    ·refine⟨_,_,_,.Q f hf (by omega) l hl (by omega) (by omega) y hy ey hp (kn (fun i x hi hx=> ?_) (fun x hx=> ?_) (by omega))⟩
     ·by_cases e:i=plN S a
      ·subst e;rw[hy]at hx;injection hx with hx;subst hx;omega
      ·obtain⟨x',h1,h2⟩:=dv (S:=S) (a:=a) (k:=i) (by omega)
       rw[h1]at hx;injection hx with hx;subst hx;omega
     ·have:=hS.sort _ _ _ _ (Nat.lt_succ_self _) hy hx;omega
    ·have h1:0<plN S a:=by
      by_cases e:plN S a=0
      ·rw[e,hf]at hy;injection hy with hy;subst hy;omega
      ·omega
     obtain⟨z,hz⟩:∃f,S[plN S a - 1]? =some f:=⟨_,List.getElem?_eq_getElem (by omega)⟩
     refine⟨_,_,_,.M f hf (by omega) l hl (by omega) (by omega) y hy (by omega) hp h1 (kn (fun i x hi hx=> ?_) (fun x hx=> ?_) hle) z hz⟩
     ·obtain⟨x',h3,h2⟩:=dv (S:=S) (a:=a) (k:=i) hi
      rw[h3]at hx;injection hx with hx;subst hx;omega
     ·rw[hy]at hx;injection hx with hx;subst hx;omega
/-- The pose at a time. -/
noncomputable def atP (z y:St) (c a:Int):Pq:=
 if c≠0 then Pq.zero else if z.tm=y.tm then y.pose else Pq.mk (z.pose.rot.way (z.pose.rot.inv.mul y.pose.rot) (Fq.ratio (a - z.tm) (y.tm - z.tm))) (z.pose.pos.lerp y.pose.pos (Fq.ratio (a - z.tm) (y.tm - z.tm)))
section
variable {S:List St} {a:Int} {z y:St} {c:Int} {w:World} {g:Nat} {sl:Value}
theorem aaV (h:TrkS 79 w g sl S) (hS:GoodS S) (hr:Road S a z y c):Calls Tryz.prog 13 (.pointer (some ⟨g,0,none⟩)::[.int .i64 a]).toArray w fun e w'=>∃v0 v1:Value,e= .returned (.tuple #[v0,v1,.int .i64 c])∧cn w' v0 z∧cn w' v1 y∧Below w.heap.size w w':=by
 have hl:=hS.len
 cases hr with
 | E h0=>exact aaF S a h hl h0
 | O1 f hf hn ha=>exact xD S a h hl f hf hn ha
 | O2 f hf hb l hl' hn ha=>exact xE S a h hl f hf hb l hl' hn ha
 | Q f hf hb l hl' hn ha y hy ey hp eq1=>exact aaG S a h hl f hf hb l hl' hn ha _ hy ey hp (hS.at hy).ok (hS.at hy).good
 | M f hf hb l hl' hn ha y hy ey hp h0 eq1 z hz=>exact aaH S a h hl f hf hb l hl' hn ha _ hy ey hp h0 (hS.at hy).ok (hS.at hy).good _ hz (hS.at hz).ok (hS.at hz).good
theorem xV (h:TrkS 86 w g sl S) (hS:GoodS S) (hr:Road S a z y c):Calls Tryz.prog 30 (.pointer (some ⟨g,0,none⟩)::[.int .i64 a]).toArray w fun e w'=>∃v0 v1:Value,e= .returned (.tuple #[v0,v1,.int .i64 c])∧cn w' v0 z∧cn w' v1 y∧Below w.heap.size w w':=by
 have hl:=hS.len
 cases hr with
 | E h0=>exact pU S a h hl hS.sort h0
 | O1 f hf hn ha=>exact n4 S a h hl hS.sort f hf hn ha
 | O2 f hf hb l hl' hn ha=>exact n5 S a h hl hS.sort f hf hb l hl' hn ha
 | Q f hf hb l hl' hn ha y hy ey hp eq1=>exact pV S a h hl hS.sort f hf hb l hl' hn ha _ hy ey hp eq1
 | M f hf hb l hl' hn ha y hy ey hp h0 eq1 z hz=>exact pW S a h hl hS.sort f hf hb l hl' hn ha _ hy ey hp h0 eq1 _ hz
theorem q_AtS (h:TrkS 79 w g sl S) (hS:GoodS S) (hr:Road S a z y c):Calls Tryz.prog 12 (.pointer (some ⟨g,0,none⟩)::[.int .i64 a]).toArray w fun e w'=>∃v0:Value,e= .returned (.tuple #[v0,.int .i64 c])∧dA w' v0 (atP z y c a)∧Below w.heap.size w w':=by
 have hl:=hS.len
 cases hr with
 | E h0=>exact q_AtE S a h hl h0
 | O1 f hf hn ha=>exact q_AtO1 S a h hl f hf hn ha
 | O2 f hf hb l hl' hn ha=>exact q_AtO2 S a h hl f hf hb l hl' hn ha
 | Q f hf hb l hl' hn ha y hy ey hp eq1=>
  rw[show atP z z 0 a=z.pose by simp[atP]]
  exact q_AtQ S a h hl f hf hb l hl' hn ha _ hy ey hp (hS.at hy).ok (hS.at hy).good
 | M f hf hb l hl' hn ha y hy ey hp h0 eq1 z hz=>
  have h1:=dv (S:=S) (a:=a) (k:=plN S a - 1) (by omega)
  obtain⟨z',h2,h3⟩:=h1
  rw[hz]at h2;injection h2 with h2;subst h2
  have gy:=hS.at hy;have gz:=hS.at hz
  rw[show atP z y 0 a=_ by simp only[atP];rw[if_neg (by omega),if_neg (by omega)]]
  exact q_AtM S a h hl f hf hb l hl' hn ha _ hy ey hp h0 gy.ok gy.good _ hz gz.ok gz.good gy.lo gy.hi gz.lo h3 (hS.adj _ _ _ hz (by rw[←hy];congr 1;omega))
theorem q_rAtS (h:TrkS 86 w g sl S) (hS:GoodS S) (hr:Road S a z y c):Calls Tryz.prog 31 (.pointer (some ⟨g,0,none⟩)::[.int .i64 a]).toArray w fun e w'=>∃v0:Value,e= .returned (.tuple #[v0,.int .i64 c])∧dA w' v0 (atP z y c a)∧Below w.heap.size w w':=by
 have hl:=hS.len
 cases hr with
 | E h0=>exact q_rAtE S a h hl hS.sort h0
 | O1 f hf hn ha=>exact q_rAtO1 S a h hl hS.sort f hf hn ha
 | O2 f hf hb l hl' hn ha=>exact q_rAtO2 S a h hl hS.sort f hf hb l hl' hn ha
 | Q f hf hb l hl' hn ha y hy ey hp eq1=>
  rw[show atP z z 0 a=z.pose by simp[atP]]
  exact q_rAtQ S a h hl hS.sort f hf hb l hl' hn ha _ hy ey hp eq1 (hS.at hy).ok (hS.at hy).good
 | M f hf hb l hl' hn ha y hy ey hp h0 eq1 z hz=>
  have h1:=dv (S:=S) (a:=a) (k:=plN S a - 1) (by omega)
  obtain⟨z',h2,h3⟩:=h1
  rw[hz]at h2;injection h2 with h2;subst h2
  have gy:=hS.at hy;have gz:=hS.at hz
  rw[show atP z y 0 a=_ by simp only[atP];rw[if_neg (by omega),if_neg (by omega)]]
  exact q_rAtM S a h hl hS.sort f hf hb l hl' hn ha _ hy ey hp h0 eq1 _ hz gy.ok gy.good gz.ok gz.good gy.lo gy.hi gz.lo h3 (hS.adj _ _ _ hz (by rw[←hy];congr 1;omega))
theorem q_DropS (h:TrkS 79 w g sl S) (hS:GoodS S):Calls Tryz.prog 26 (.pointer (some ⟨g,0,none⟩)::[.int .i64 a]).toArray w fun e w'=>e= .returned (.int .i64 ((plN S (a+1) - 1:Nat):Int))∧TrkM 79 w g sl (S.drop (plN S (a+1) - 1)) w':=by
 have hl:=hS.len
 have hle:=bg S a
 have hb:∀(i:Nat) (x:St),i<plN S a→S[i]? =some x→x.tm<a+1:=fun i x hi hx=>by
  obtain⟨x',h1,h2⟩:=dv hi
  rw[hx]at h1;injection h1 with h1;subst h1;omega
 have hd:S.drop 0=S:=rfl
 by_cases hp:plN S a<S.length
 ·obtain⟨y,hy,hge⟩:=sE hp
  by_cases ey:y.tm=a
  ·have eq1:plN S (a+1)=plN S a+1:=kn (fun i x hi hx=>by
    by_cases e:i=plN S a
    ·subst e;rw[hy]at hx;injection hx with hx;subst hx;omega
    ·exact hb i x (by omega) hx) (fun x hx=>by have:=hS.sort _ _ _ _ (Nat.lt_succ_self _) hy hx;omega) (by omega)
   rw[eq1,Nat.add_sub_cancel]
   by_cases h0:plN S a=0
   ·rw[h0];exact q_DropQ0 S a h hl y hy hp (by omega) h0
   ·exact q_DropQ1 S a h hl y hy hp (by omega) (by omega)
  ·have eq1:plN S (a+1)=plN S a:=kn hb (fun x hx=>by rw[hy]at hx;injection hx with hx;subst hx;omega) hle
   rw[eq1]
   by_cases h0:plN S a≤1
   ·rw[show plN S a - 1=0 by omega];exact q_DropG0 S a h hl y hy hp (by omega) h0
   ·rw[show((plN S a - 1:Nat):Int)=((plN S a:Nat):Int) - 1 by omega];exact q_DropG1 S a h hl y hy hp (by omega) (by omega)
 ·have hp:plN S a=S.length:=by omega
  have eq1:plN S (a+1)=plN S a:=kn hb (fun x hx=>by have:=(List.getElem?_eq_some_iff.1 hx).1;omega) hle
  rw[eq1]
  by_cases h0:plN S a≤1
  ·rw[show plN S a - 1=0 by omega];exact q_DropE0 S a h hl hp h0
  ·rw[show((plN S a - 1:Nat):Int)=((plN S a:Nat):Int) - 1 by omega];exact q_DropE1 S a h hl hp (by omega)
end
end Go.Proofs.YtfhinmdhjlmikaaGreat
