/- Tracks: what a track is, what Add makes of it. Tracks: rows as they come in. Tracks: Add at a stamp as it comes in; instances of Add and of New. Tracks: Of. Tracks: what lies around a time, and the pose there. Tracks: which numbers are short. Tracks: instances of their methods; which lists agree. -/
import Derived.Test.YtfhinmdhjlmikaaGreatP20
namespace Go.Proofs.YtfhinmdhjlmikaaGreat
set_option linter.unusedSimpArgs false
set_option linter.unusedVariables false
set_option maxRecDepth 100000
open Go.RowKit
structure GoodT (s:St):Prop where
 ok:s.pose.ok 2
 good:s.pose.good
 lo:0≤s.tm
 hi:s.tm≤1099511627776
/-- The stamps of a track. -/
structure GoodS (S:List St):Prop where
 len:S.length≤64
 all:∀x∈S,GoodT x
 sort:dO S
 adj:∀(i:Nat) (x y:St),S[i]? =some x→S[i+1]? =some y→¬opp x.pose y.pose
theorem GoodS.at {S:List St} (h:GoodS S) {k:Nat} {x:St} (hx:S[k]? =some x):GoodT x:=h.all x (List.mem_of_getElem? hx)
theorem GoodS.nil:GoodS []:=⟨by simp,fun x h=>by simp at h,fun i j x y _ h=>by simp at h,fun i x y h=>by simp at h⟩
theorem GoodS.drop {S:List St} (h:GoodS S) (k:Nat):GoodS (S.drop k) where
 len:=by have:=h.len;rw[List.length_drop];omega
 all:=fun x hx=>h.all x (List.mem_of_mem_drop hx)
 sort:=fun i j x y hij hx hy=>by rw[List.getElem?_drop]at hx hy;exact h.sort _ _ _ _ (by omega) hx hy
 adj:=fun i x y hx hy=>by rw[List.getElem?_drop]at hx hy;exact h.adj (k+i) x y hx (by rw[←hy];rfl)
theorem rZ {S:List St} {p i:Nat} {s:St} (hp:p≤S.length) (h:i<p):(aJ S p s)[i]? =S[i]? :=by
 unfold aJ
 rw[List.getElem?_append_left (by rw[List.length_take];omega),List.getElem?_take,if_pos h]
theorem r7 {S:List St} {p:Nat} {s:St} (hp:p≤S.length):(aJ S p s)[p]? =some s:=by
 unfold aJ
 have h1:(S.take p).length=p:=by rw[List.length_take];omega
 rw[List.getElem?_append_right (by omega),h1,Nat.sub_self];rfl
theorem pn {S:List St} {p i:Nat} {s:St} (hp:p≤S.length) (h:p≤i):(aJ S p s)[i+1]? =S[i]? :=by
 unfold aJ
 have h1:(S.take p).length=p:=by rw[List.length_take];omega
 rw[List.getElem?_append_right (by omega),h1,show i+1 - p=(i - p)+1 by omega,List.getElem?_cons_succ,List.getElem?_drop,show p+(i - p)=i by omega]
theorem ud {S:List St} {s:St} (h:dO S) (hn:∀y,S[plN S s.tm]? =some y→y.tm≠s.tm):dO (aJ S (plN S s.tm) s):=by
 have hp:=a9 S s.tm
 have hb:∀i x,i<plN S s.tm→S[i]? =some x→x.tm<s.tm:=fun i x hi hx=>by
  obtain⟨x',h1,h2⟩:=dl hi
  rw[h1]at hx;injection hx with hx;subst hx;exact h2
 have ha:∀i x,plN S s.tm≤i→S[i]? =some x→s.tm<x.tm:=fun i x hi hx=>by
  have h1:=fc h hi hx
  by_cases e:i=plN S s.tm
  ·subst e;have:=hn x hx;omega
  ·have hl:plN S s.tm<S.length:=by have:=(List.getElem?_eq_some_iff.1 hx).1;omega
   have h2:=h _ _ _ _ (show plN S s.tm<i by omega) (List.getElem?_eq_getElem hl) hx
   have h3:=fc h (Nat.le_refl _) (List.getElem?_eq_getElem hl)
   omega
 intro i j x y hij hx hy
 rcases Nat.lt_trichotomy i (plN S s.tm)with hi | hi | hi
 ·rw[rZ hp hi]at hx
  rcases Nat.lt_trichotomy j (plN S s.tm)with hj | hj | hj
  ·rw[rZ hp hj]at hy;exact h _ _ _ _ hij hx hy
  ·subst hj;rw[r7 hp]at hy;injection hy with hy;subst hy;exact hb i x hi hx
  ·obtain⟨j,rfl⟩:∃k,j=k+1:=⟨j - 1,by omega⟩
   rw[pn hp (by omega)]at hy
   have:=hb i x hi hx;have:=ha j y (by omega) hy;omega
 ·subst hi;rw[r7 hp]at hx;injection hx with hx;subst hx
  obtain⟨j,rfl⟩:∃k,j=k+1:=⟨j - 1,by omega⟩
  rw[pn hp (by omega)]at hy;exact ha j y (by omega) hy
 ·obtain⟨j,rfl⟩:∃k,j=k+1:=⟨j - 1,by omega⟩
  obtain⟨i,rfl⟩:∃k,i=k+1:=⟨i - 1,by omega⟩
  rw[pn hp (by omega)]at hx hy
  exact h _ _ _ _ (by omega) hx hy
theorem yi {S:List St} {s:St} (h:GoodS S) (hz:∀z,0<plN S s.tm→S[plN S s.tm - 1]? =some z→¬opp z.pose s.pose) (hy:∀y,S[plN S s.tm]? =some y→¬opp s.pose y.pose):∀(i:Nat) (x y:St),(aJ S (plN S s.tm) s)[i]? =some x→(aJ S (plN S s.tm) s)[i+1]? =some y→¬opp x.pose y.pose:=by
 have hp:=a9 S s.tm
 intro i x y hx hy'
 rcases Nat.lt_trichotomy i (plN S s.tm)with hi | hi | hi
 ·rw[rZ hp hi]at hx
  by_cases e:i+1=plN S s.tm
  ·rw[e,r7 hp]at hy';injection hy' with hy';subst hy'
   exact hz x (by omega) (by rw[←e];exact hx)
  ·rw[rZ hp (by omega)]at hy';exact h.adj i x y hx hy'
 ·subst hi;rw[r7 hp]at hx;injection hx with hx;subst hx
  rw[pn hp (Nat.le_refl _)]at hy';exact hy y hy'
 ·obtain⟨i,rfl⟩:∃k,i=k+1:=⟨i - 1,by omega⟩
  rw[pn hp (by omega)]at hx hy'
  exact h.adj i x y hx hy'
open Classical in
/-- What Add makes of a list, and its answer. -/
noncomputable def iZ (S:List St) (s:St):List St×Int:=
 if s.tm<0∨1099511627776<s.tm then(S,4)
 else if∃y,S[plN S s.tm]? =some y∧y.tm=s.tm∧y.pose=s.pose then(S,0)
 else if∃y,S[plN S s.tm]? =some y∧y.tm=s.tm then(S,7)
 else if (∃z,0<plN S s.tm∧S[plN S s.tm - 1]? =some z∧opp z.pose s.pose)∨(∃y,S[plN S s.tm]? =some y∧opp s.pose y.pose)then(S,21)
 else if S.length<64 then(aJ S (plN S s.tm) s,0)else((aJ S (plN S s.tm) s).drop 1,0)
theorem mS {S:List St} {s:St} (h:GoodS S) (hs:s.pose.ok 2) (gs:s.pose.good):GoodS (iZ S s).1:=by
 unfold iZ
 split
 ·exact h
 ·rename_i ht
  split
  ·exact h
  ·split
   ·exact h
   ·rename_i h1 h2
    split
    ·exact h
    ·rename_i h3
     have hp:=a9 S s.tm
     have hn:∀y,S[plN S s.tm]? =some y→y.tm≠s.tm:=fun y hy e=>h2 ⟨y,hy,e⟩
     have hz:∀z,0<plN S s.tm→S[plN S s.tm - 1]? =some z→¬opp z.pose s.pose:=fun z h0 hz ho=>h3 (.inl ⟨z,h0,hz,ho⟩)
     have hy:∀y,S[plN S s.tm]? =some y→¬opp s.pose y.pose:=fun y hy ho=>h3 (.inr ⟨y,hy,ho⟩)
     have hg:∀x∈aJ S (plN S s.tm) s,GoodT x:=fun x hx=>by
      unfold aJ at hx
      rcases List.mem_append.1 hx with hx | hx
      ·exact h.all x (List.mem_of_mem_take hx)
      ·rcases List.mem_cons.1 hx with hx | hx
       ·subst hx;exact⟨hs,gs,by omega,by omega⟩
       ·exact h.all x (List.mem_of_mem_drop hx)
     have hl:=bi (s:=s) hp
     split
     ·exact⟨by show(aJ S (plN S s.tm) s).length≤64;omega,hg,ud h.sort hn,yi h hz hy⟩
     ·have hd:((aJ S (plN S s.tm) s).drop 1).length=(aJ S (plN S s.tm) s).length - 1:=List.length_drop ..
      have hlen:=h.len
      refine⟨by show((aJ S (plN S s.tm) s).drop 1).length≤64;omega,fun x hx=>hg x (List.mem_of_mem_drop hx),fun i j x y hij hx hy'=> ?_,fun i x y hx hy'=> ?_⟩
      ·simp only[List.getElem?_drop]at hx hy'
       exact ud h.sort hn _ _ _ _ (by omega) hx hy'
      ·simp only[List.getElem?_drop]at hx hy'
       exact yi h hz hy (1+i) x y hx (by rw[←hy'];rfl)
theorem q_Add (S:List St) (s:St) (v:Value) {w:World} {g:Nat} {sl:Value} (h:TrkS 79 w g sl S) (i:ce w v s) (hs:s.pose.ok 2) (gs:s.pose.good) (hS:GoodS S):
  Calls Tryz.prog 14 (.pointer (some ⟨g,0,none⟩)::[v]).toArray w fun e w'=>e= .returned (.int .i64 (iZ S s).2)∧TrkM 79 w g sl (iZ S s).1 w':=by
 have hp:=a9 S s.tm
 have hlen:=hS.len
 unfold iZ
 split
 ·rename_i ht
  rcases ht with ht | ht
  ·exact q_addLo S s v h i hs gs hlen ht
  ·exact q_addHi S s v h i hs gs hlen ht
 ·rename_i ht
  have r0:0≤s.tm:=by omega
  have r1:s.tm≤1099511627776:=by omega
  split
  ·rename_i h1
   obtain⟨y,hy,ey,ep⟩:=h1
   have hg:=hS.at hy
   exact zB S s v h i hs gs hlen r0 r1 (List.getElem?_eq_some_iff.1 hy).1 y hy hg.ok hg.good ey ep
  ·rename_i h1
   split
   ·rename_i h2
    obtain⟨y,hy,ey⟩:=h2
    have hg:=hS.at hy
    exact q_addBad S s v h i hs gs hlen r0 r1 (List.getElem?_eq_some_iff.1 hy).1 y hy hg.ok hg.good ey (fun e=>h1 ⟨y,hy,ey,e⟩)
   ·rename_i h2
    have hpz:∀hz:0<plN S s.tm,∃z,S[plN S s.tm - 1]? =some z:=fun hz=>⟨_,List.getElem?_eq_getElem (by omega)⟩
    by_cases hq:plN S s.tm<S.length
    ·obtain⟨y,hy⟩:∃y,S[plN S s.tm]? =some y:=⟨_,List.getElem?_eq_getElem hq⟩
     have hg:=hS.at hy
     have ey:y.tm≠s.tm:=fun e=>h2 ⟨y,hy,e⟩
     have ho:=fc hS.sort (Nat.le_refl _) hy
     by_cases hp0:plN S s.tm=0
     ·split
      ·rename_i h3
       have oy:opp s.pose y.pose:=by
        rcases h3 with⟨z,h0,_⟩ | ⟨y',hy',o⟩
        ·omega
        ·rw[hy]at hy';injection hy' with hy';subst hy';exact o
       exact q_addB0 S s v h i hs gs hlen r0 r1 hq hp0 y hy hg.ok hg.good ey ho oy
      ·rename_i h3
       have oy:¬opp s.pose y.pose:=fun o=>h3 (.inr ⟨y,hy,o⟩)
       split
       ·rename_i hl;exact q_addI0 S s v h i hs gs hlen r0 r1 hq hp0 y hy hg.ok hg.good ey ho oy hl
       ·exact q_addI0D S s v h i hs gs hlen r0 r1 hq hp0 y hy hg.ok hg.good ey ho oy (by omega)
     ·obtain⟨z,hz⟩:=hpz (by omega)
      have hgz:=hS.at hz
      by_cases oz:opp z.pose s.pose
      ·rw[if_pos (.inl ⟨z,by omega,hz,oz⟩)]
       exact q_addBM S s v h i hs gs hlen r0 r1 hq y hy hg.ok hg.good ey ho z hz hgz.ok hgz.good (by omega) oz
      ·by_cases oy:opp s.pose y.pose
       ·rw[if_pos (.inr ⟨y,hy,oy⟩)]
        exact q_addBN S s v h i hs gs hlen r0 r1 hq y hy hg.ok hg.good ey ho z hz hgz.ok hgz.good (by omega) oz oy
       ·rw[if_neg (fun h3=>by
         rcases h3 with⟨z',_,hz',o⟩ | ⟨y',hy',o⟩
         ·rw[hz]at hz';injection hz' with hz';subst hz';exact oz o
         ·rw[hy]at hy';injection hy' with hy';subst hy';exact oy o)]
        split
        ·rename_i hl;exact q_addIM S s v h i hs gs hlen r0 r1 hq y hy hg.ok hg.good ey ho z hz hgz.ok hgz.good (by omega) oz oy hl
        ·exact q_addIMD S s v h i hs gs hlen r0 r1 hq y hy hg.ok hg.good ey ho z hz hgz.ok hgz.good (by omega) oz oy (by omega)
    ·have hq:plN S s.tm=S.length:=by omega
     have hny:∀y,S[plN S s.tm]? ≠some y:=fun y hy=>by have:=(List.getElem?_eq_some_iff.1 hy).1;omega
     by_cases hp0:plN S s.tm=0
     ·rw[if_neg (fun h3=>by
       rcases h3 with⟨z',h0,_⟩ | ⟨y',hy',o⟩
       ·omega
       ·exact hny _ hy'),if_pos (by omega)]
      exact q_addN S s v h i hs gs hlen r0 r1 hq hp0
     ·obtain⟨z,hz⟩:=hpz (by omega)
      have hgz:=hS.at hz
      by_cases oz:opp z.pose s.pose
      ·rw[if_pos (.inl ⟨z,by omega,hz,oz⟩)]
       exact q_addBE S s v h i hs gs hlen r0 r1 hq z hz hgz.ok hgz.good (by omega) oz
      ·rw[if_neg (fun h3=>by
        rcases h3 with⟨z',_,hz',o⟩ | ⟨y',hy',o⟩
        ·rw[hz]at hz';injection hz' with hz';subst hz';exact oz o
        ·exact hny _ hy')]
       split
       ·rename_i hl;exact q_addIE S s v h i hs gs hlen r0 r1 hq z hz hgz.ok hgz.good (by omega) oz hl
       ·exact q_addIED S s v h i hs gs hlen r0 r1 hq z hz hgz.ok hgz.good (by omega) oz (by omega)
theorem q_rtAdd (S:List St) (s:St) (v:Value) {w:World} {g:Nat} {sl:Value} (h:TrkS 86 w g sl S) (i:ce w v s) (hs:s.pose.ok 2) (gs:s.pose.good) (hS:GoodS S):
  Calls Tryz.prog 32 (.pointer (some ⟨g,0,none⟩)::[v]).toArray w fun e w'=>e= .returned (.int .i64 (iZ S s).2)∧TrkM 86 w g sl (iZ S s).1 w':=by
 have hp:=a9 S s.tm
 have hlen:=hS.len
 unfold iZ
 split
 ·rename_i ht
  rcases ht with ht | ht
  ·exact q_raddLo S s v h i hs gs hlen ht
  ·exact q_raddHi S s v h i hs gs hlen ht
 ·rename_i ht
  have r0:0≤s.tm:=by omega
  have r1:s.tm≤1099511627776:=by omega
  split
  ·rename_i h1
   obtain⟨y,hy,ey,ep⟩:=h1
   have hg:=hS.at hy
   exact wP S s v h i hs gs hlen r0 r1 (List.getElem?_eq_some_iff.1 hy).1 y hy hg.ok hg.good ey ep
  ·rename_i h1
   split
   ·rename_i h2
    obtain⟨y,hy,ey⟩:=h2
    have hg:=hS.at hy
    exact zV S s v h i hs gs hlen r0 r1 (List.getElem?_eq_some_iff.1 hy).1 y hy hg.ok hg.good ey (fun e=>h1 ⟨y,hy,ey,e⟩)
   ·rename_i h2
    have hpz:∀hz:0<plN S s.tm,∃z,S[plN S s.tm - 1]? =some z:=fun hz=>⟨_,List.getElem?_eq_getElem (by omega)⟩
    by_cases hq:plN S s.tm<S.length
    ·obtain⟨y,hy⟩:∃y,S[plN S s.tm]? =some y:=⟨_,List.getElem?_eq_getElem hq⟩
     have hg:=hS.at hy
     have ey:y.tm≠s.tm:=fun e=>h2 ⟨y,hy,e⟩
     have ho:=fc hS.sort (Nat.le_refl _) hy
     by_cases hp0:plN S s.tm=0
     ·split
      ·rename_i h3
       have oy:opp s.pose y.pose:=by
        rcases h3 with⟨z,h0,_⟩ | ⟨y',hy',o⟩
        ·omega
        ·rw[hy]at hy';injection hy' with hy';subst hy';exact o
       exact q_raddB0 S s v h i hs gs hlen r0 r1 hq hp0 y hy hg.ok hg.good ey ho oy
      ·rename_i h3
       have oy:¬opp s.pose y.pose:=fun o=>h3 (.inr ⟨y,hy,o⟩)
       split
       ·rename_i hl;exact q_raddI0 S s v h i hs gs hlen r0 r1 hq hp0 y hy hg.ok hg.good ey ho oy hl
       ·exact zW S s v h i hs gs hlen r0 r1 hq hp0 y hy hg.ok hg.good ey ho oy (by omega)
     ·obtain⟨z,hz⟩:=hpz (by omega)
      have hgz:=hS.at hz
      by_cases oz:opp z.pose s.pose
      ·rw[if_pos (.inl ⟨z,by omega,hz,oz⟩)]
       exact q_raddBM S s v h i hs gs hlen r0 r1 hq y hy hg.ok hg.good ey ho z hz hgz.ok hgz.good (by omega) oz
      ·by_cases oy:opp s.pose y.pose
       ·rw[if_pos (.inr ⟨y,hy,oy⟩)]
        exact q_raddBN S s v h i hs gs hlen r0 r1 hq y hy hg.ok hg.good ey ho z hz hgz.ok hgz.good (by omega) oz oy
       ·rw[if_neg (fun h3=>by
         rcases h3 with⟨z',_,hz',o⟩ | ⟨y',hy',o⟩
         ·rw[hz]at hz';injection hz' with hz';subst hz';exact oz o
         ·rw[hy]at hy';injection hy' with hy';subst hy';exact oy o)]
        split
        ·rename_i hl;exact q_raddIM S s v h i hs gs hlen r0 r1 hq y hy hg.ok hg.good ey ho z hz hgz.ok hgz.good (by omega) oz oy hl
        ·exact zY S s v h i hs gs hlen r0 r1 hq y hy hg.ok hg.good ey ho z hz hgz.ok hgz.good (by omega) oz oy (by omega)
    ·have hq:plN S s.tm=S.length:=by omega
     have hny:∀y,S[plN S s.tm]? ≠some y:=fun y hy=>by have:=(List.getElem?_eq_some_iff.1 hy).1;omega
     by_cases hp0:plN S s.tm=0
     ·rw[if_neg (fun h3=>by
       rcases h3 with⟨z',h0,_⟩ | ⟨y',hy',o⟩
       ·omega
       ·exact hny _ hy'),if_pos (by omega)]
      exact q_raddN S s v h i hs gs hlen r0 r1 hq hp0
     ·obtain⟨z,hz⟩:=hpz (by omega)
      have hgz:=hS.at hz
      by_cases oz:opp z.pose s.pose
      ·rw[if_pos (.inl ⟨z,by omega,hz,oz⟩)]
       exact q_raddBE S s v h i hs gs hlen r0 r1 hq z hz hgz.ok hgz.good (by omega) oz
      ·rw[if_neg (fun h3=>by
        rcases h3 with⟨z',_,hz',o⟩ | ⟨y',hy',o⟩
        ·rw[hz]at hz';injection hz' with hz';subst hz';exact oz o
        ·exact hny _ hy')]
       split
       ·rename_i hl;exact q_raddIE S s v h i hs gs hlen r0 r1 hq z hz hgz.ok hgz.good (by omega) oz hl
       ·exact zX S s v h i hs gs hlen r0 r1 hq z hz hgz.ok hgz.good (by omega) oz (by omega)
end Go.Proofs.YtfhinmdhjlmikaaGreat
namespace Go.Proofs.YtfhinmdhjlmikaaGreat
set_option linter.unusedSimpArgs false
set_option linter.unusedVariables false
set_option maxRecDepth 100000
open Go.RowKit
theorem ue {w w':World} {X:Nat→Prop} {b o:Nat} (k:Chg w w' X) (hb:b<w.heap.size) (hX:¬X b):w'.cell? ⟨b,o,none⟩=w.cell? ⟨b,o,none⟩:=by
 unfold World.cell?
 simp only[k.blk b hb hX]
/-- A row that came in: nothing is known of its block but the parts. -/
def Vp.rowW (n:Nat) (qs:List Vp):Vp:=.of (fun w v=>(qs=[]∧n=0∧∃a c,v= .slice a 0 c)∨∃b o c,v= .slice (some ⟨b,o,none⟩) n c∧n≠0∧b<w.heap.size∧∀j q,qs[j]? =some q→∃u,w.cell? ⟨b,o+j,none⟩=some u∧q.p w u∧∀g,¬q.fp w u g)
 (fun v g=>∃o n c,v= .slice (some ⟨g,o,none⟩) n c∧n≠0)
 (fun w w' X v h k hX=>h.imp id fun⟨b,o,c,e,hn,hb,hq⟩=>⟨b,o,c,e,hn,Nat.lt_of_lt_of_le hb k.size,fun j q hj=>by
  obtain⟨u,h1,h2,h3⟩:=hq j q hj
  obtain⟨c1,c2⟩:=q.ch w w' X u h2 k (fun g hg=>absurd hg (h3 g))
  exact⟨u,by rw[ue k hb (hX b ⟨o,n,c,e,hn⟩)];exact h1,c1,fun g hg=>h3 g (c2 g hg)⟩⟩)
 (fun w v g h ⟨o',n',c',e',hn'⟩=>by
  rcases h with⟨_,_,a,c,e⟩ | ⟨b,o,c,e,_,hb,_⟩
  ·rw[e]at e';injection e' with _ e1 _;exact absurd e1.symm hn'
  ·rw[e]at e';injection e' with e1 _ _;injection e1 with e1;injection e1 with e1 _ _;subst e1
   exact hb)
 (fun w v h=>by
  rcases h with⟨_,_,a,c,e⟩ | ⟨b,o,c,e,_⟩<;>subst e<;>exact kk)
def Vp.plcW (qs:List Vp):Vp:=.of (fun w v=>∃b o,v= .pointer (some ⟨b,o,none⟩)∧b<w.heap.size∧∀j q,qs[j]? =some q→∃u,w.cell? ⟨b,o+j,none⟩=some u∧q.p w u∧∀g,¬q.fp w u g)
 (fun v g=>∃o,v= .pointer (some ⟨g,o,none⟩))
 (fun w w' X v ⟨b,o,e,hb,hq⟩ k hX=>⟨b,o,e,Nat.lt_of_lt_of_le hb k.size,fun j q hj=>by
  obtain⟨u,h1,h2,h3⟩:=hq j q hj
  obtain⟨c1,c2⟩:=q.ch w w' X u h2 k (fun g hg=>absurd hg (h3 g))
  exact⟨u,by rw[ue k hb (hX b ⟨o,e⟩)];exact h1,c1,fun g hg=>h3 g (c2 g hg)⟩⟩)
 (fun w v g ⟨b,o,e,hb,_⟩ ⟨o',e'⟩=>by
  rw[e]at e';injection e' with e1;injection e1 with e1;injection e1 with e1 _ _;subst e1
  exact hb)
 (fun w v ⟨b,o,e,_⟩=>by subst e;exact tg)
section
variable {ρ:Rho} {n m k L:Nat} {t e:TypeId} {B:Blk} {w:World} {qs:List Vp}
theorem o_lenW (ht:∃e,Tryz.prog.underlying t=some (.slice e)) (hn:ρ[n]? =some (.rowW L qs)) {l:Leaf} (hl:∀B w,l.holds ρ B w (.int .i64 (L:Int))):(OIns.mk (.len t) [.one (.ref n)] (.one l)).Ok Tryz.prog ρ:=fun B w vs hv=>by
 match vs,hv with
 | [v1],hv=>
  obtain⟨s,h1,h2,_⟩:=hv.1
  rw[hn]at h1;injection h1 with h1;subst h1
  obtain⟨a,c,rfl⟩:∃a c,v1= .slice a L c:=by
   rcases h2 with⟨_,rfl,a,c,e⟩ | ⟨b,o,c,e,_⟩
   ·exact⟨_,_,e⟩
   ·exact⟨_,_,e⟩
  obtain⟨e,he⟩:=ht
  refine⟨.int .i64 (L:Int),hl B w,fun ts ty h0=> ?_⟩
  simp[Builtin.len_,h0,Sem.run_bind,run_underlying he,Result.andThen,goInt]
theorem o_iaW {l:Leaf} {sz:Nat} {qs':List Vp} (ht:Tryz.prog.underlying t=some (.slice e)) (hz:szB Tryz.prog e=some sz) (hn:ρ[n]? =some (.rowW L qs)) (hm:ρ[m]? =some (.plcW qs')) (hl:∀B w x,l.holds ρ B w x→x= .int .i64 (k:Int)) (hk:k<L) (hq0:qs≠ [])
  (hq:∀(j:Nat) (q:Vp),qs'[j]? =some q→qs[k*sz+j]? =some q):(OIns.mk (.ia t) [.one (.ref n),.one l] (.one (.ref m))).Ok Tryz.prog ρ:=fun B w vs hv=>by
 match vs,hv with
 | [v1,v2],hv=>
  obtain⟨s,h1,h2,h3⟩:=hv.1
  rw[hn]at h1;injection h1 with h1;subst h1
  have e2:=hl _ _ _ hv.2.1
  subst e2
  rcases h2 with⟨h,_⟩ | ⟨b,o,c,rfl,hc,hb,h4⟩
  ·exact absurd h hq0
  ·refine⟨.pointer (some ⟨b,o+k*sz,none⟩),⟨_,hm,⟨b,o+k*sz,rfl,hb,fun j q hj=> ?_⟩,fun g ⟨o',e'⟩=> ?_⟩,?_⟩
   ·obtain⟨u,k1,k2⟩:=h4 _ q (hq j q hj)
    exact⟨u,by rw[Nat.add_assoc];exact k1,k2⟩
   ·injection e' with e1;injection e1 with e1;injection e1 with e1 _ _;subst e1
    exact h3 _ ⟨_,_,_,rfl,hc⟩
   ·simp[Instr.indexAt,asIntOf,Sem.run_bind,run_underlying ht,bD hz,Result.andThen,hk,dF]
theorem po {f off sz:Nat} {qs':List Vp} (ht:fldB Tryz.prog t f=some (off,sz+1)) (hn:ρ[n]? =some (.plcW qs)) (hm:ρ[m]? =some (.plcW qs')) (hq:∀(j:Nat) (q:Vp),qs'[j]? =some q→qs[off+j]? =some q):(OIns.mk (.fa t f) [.one (.ref n)] (.one (.ref m))).Ok Tryz.prog ρ:=fun B w vs hv=>by
 match vs,hv with
 | [v1],hv=>
  obtain⟨s,h1,h2,h3⟩:=hv.1
  rw[hn]at h1;injection h1 with h1;subst h1
  obtain⟨b,o,rfl,hb,h4⟩:=h2
  unfold fldB at ht
  split at ht
  ·rename_i fs hu
   split at ht
   ·rename_i fd hf
    cases hz:szB Tryz.prog fd.type with
    | none=>rw[hz]at ht;cases ht
    | some k=>
     rw[hz]at ht
     simp only[Option.map_some,Option.some.injEq,Prod.mk.injEq]at ht
     obtain⟨rfl,rfl⟩:=ht
     refine⟨.pointer (some ⟨b,o+fd.offset,none⟩),⟨_,hm,⟨b,o+fd.offset,rfl,hb,fun j q hj=> ?_⟩,fun g ⟨o',e'⟩=> ?_⟩,?_⟩
     ·obtain⟨u,k1,k2⟩:=h4 _ q (hq j q hj)
      exact⟨u,by rw[Nat.add_assoc];exact k1,k2⟩
     ·injection e' with e1;injection e1 with e1;injection e1 with e1 _ _;subst e1
      exact h3 _ ⟨_,rfl⟩
     ·simp[Instr.fieldAt,Instr.sureAddr,fieldPlace,Sem.run_bind,run_underlying hu,hf,bD hz,Result.andThen,dF]
   ·cases ht
  ·cases ht
theorem o_ldW {q:Vp} {l:Leaf} (ht:sL Tryz.prog t=some false) (hn:ρ[n]? =some (.plcW (q::qs))) (hl:∀B w x,q.p w x→(∀g,¬q.fp w x g)→l.holds ρ B w x):(OIns.mk (.ld t) [.one (.ref n)] (.one l)).Ok Tryz.prog ρ:=fun B w vs hv=>by
 match vs,hv with
 | [v1],hv=>
  obtain⟨s,h1,h2,_⟩:=hv.1
  rw[hn]at h1;injection h1 with h1;subst h1
  obtain⟨b,o,rfl,hb,h4⟩:=h2
  obtain⟨u,k1,k2,k3⟩:=h4 0 q rfl
  refine⟨u,hl B w u k2 k3,?_⟩
  have:=gR (p:=Tryz.prog) (w:=w) (ad:=⟨b,o,none⟩) (v:=u) k1
  simp[Instr.loadAt,Instr.sureAddr,loadVar,Sem.run_bind,gD ht,this,Result.andThen]
theorem LQ.holdsW {b:Nat}:∀ {ls:List Leaf} {qs:List Vp} {o:Nat},LQ ρ ls qs→(∀(j:Nat) (q:Vp),qs[j]? =some q→∃u,w.cell? ⟨b,o+j,none⟩=some u∧q.p w u∧∀g,¬q.fp w u g)→
  ∃vs:List Value,aO ρ B w ls vs∧∀(j:Nat) (v:Value),vs[j]? =some v→w.cell? ⟨b,o+j,none⟩=some v
 | [],_,_,_,_=>⟨[],trivial,fun _ _ h=>by simp at h⟩
 | l::ls,q::qs,o,h,hq=>by
  obtain⟨u,k1,k2,k3⟩:=hq 0 q rfl
  obtain⟨vs,e1,e2⟩:=LQ.holdsW (ls:=ls) (qs:=qs) (o:=o+1) h.2 (fun j q hj=>by rw[Nat.add_assoc,Nat.add_comm 1 j];exact hq (j+1) q (by simpa using hj))
  refine⟨u::vs,⟨h.1 B w u k2 k3,e1⟩,fun j v hv=> ?_⟩
  cases j with
  | zero=>simp at hv;subst hv;exact k1
  | succ j=>rw[Nat.add_comm j 1,←Nat.add_assoc];exact e2 j v (by simpa using hv)
 | _::_,[],_,h,_=>h.elim
theorem j8 {p:Program} {g o:Nat}:∀(vs:List Value) (i:Nat) (acc:Array Value),
  (∀k v,vs[k]? =some v→w.cell? ⟨g,o+(i+k),none⟩=some v)→(loadCellsFrom ⟨g,o,none⟩ i vs.length acc).run p w= .ok (acc++vs.toArray) w
 | [],i,acc,_=>by simp[loadCellsFrom]
 | v::vs,i,acc,hv=>by
  have h1:=hv 0 v rfl
  rw[Nat.add_zero]at h1
  have h2:=j8 (p:=p) vs (i+1) (acc.push v) (fun k u hu=>by
   have:=hv (k+1) u (by simpa using hu)
   rwa [show i+(k+1)=i+1+k from by omega]at this)
  simp only[List.length_cons,loadCellsFrom]
  rw[Sem.run_bind,dF,gR h1]
  simp only[Result.andThen]
  rw[h2]
  simp
theorem iS {ls:List Leaf} (ht:sL Tryz.prog t=some true) (hz:szB Tryz.prog t=some ls.length) (hn:ρ[n]? =some (.plcW qs)) (hl:LQ ρ ls qs):(OIns.mk (.ld t) [.one (.ref n)] (.agg ls)).Ok Tryz.prog ρ:=fun B w vs hv=>by
 match vs,hv with
 | [v1],hv=>
  obtain⟨s,h1,h2,_⟩:=hv.1
  rw[hn]at h1;injection h1 with h1;subst h1
  obtain⟨b,o,rfl,hb,h4⟩:=h2
  obtain⟨us,e1,e2⟩:=hl.holdsW (B:=B) h4
  refine⟨.agg us.toArray,⟨us,rfl,e1⟩,?_⟩
  have:=j8 (p:=Tryz.prog) (w:=w) (g:=b) (o:=o) us 0 #[] (fun k u hu=>by rw[Nat.zero_add];exact e2 k u hu)
  rw[e1.len]at this
  simp[Instr.loadAt,Instr.sureAddr,loadVar,loadCells,Sem.run_bind,gD ht,bD hz,this,Result.andThen]
theorem hr0 {x:RSt}:∀(j:Nat) (q:Vp),x.qs[j]? =some q→x.qs[0+j]? =some q:=fun j q h=>by rw[Nat.zero_add];exact h
theorem hr1 {x:RSt}:∀(j:Nat) (q:Vp),(mN x.rs)[j]? =some q→x.qs[1+j]? =some q:=fun j q h=>by rw[Nat.add_comm];exact h
end
/-- A list that lies in a new variable. -/
def RowN (ρ:Rho) (l:Leaf) (S:List St):Prop:=(l= .sl0∧S=[])∨∃k m,l= .own k m∧(ρ[m]? =some (.row stT S.length (az S))∨ρ[m]? =some (.ownr stT 22 S.length (az S)))
def runMk (p:Program) (C:List Inst) (L:List OIns) (fn:Func) (args:List SV) (u:Nat) (T:TypeId) (fuel:Nat) (lo:Los):Option (AV×Leaf×List LOb):=
 match mw p C L fn args [] fuel lo with
 | some (r,s,obs)=>match s.vars[u]? with
  | some (t,[some l])=>if t=T then some (r,l,obs)else none
  | _=>none
 | none=>none
/-- A function that makes a track. -/
theorem uf {ρ:Rho} {w:World} {C:List Inst} {L:List OIns} {T:TypeId} {u:Nat} {l:Leaf} {S:List St} (hC:∀i∈C,i.Ok0 Tryz.prog ρ (.of w)) (hO:∀i∈L,i.Ok Tryz.prog ρ) {f:FuncId} {fn:Func} (hf:Tryz.prog.funcs[f]? =some fn) {args:List SV} {vs:List Value} {fuel:Nat} {lo:Los} {r:AV} {obs:List LOb}
  (hr:runMk Tryz.prog C L fn args u T fuel lo=some (r,l,obs)) (hl:∀o∈obs,o.Ok Tryz.prog ρ (.of w) fn.ntmps) (ha:cG ρ noB w args vs) (hS:RowN ρ l S):
  Calls Tryz.prog f vs.toArray w (fun e w'=>∃v B' g sl,e= .returned v∧r.holds ρ B' w' v∧B'.v u=some g∧w.heap.size≤g∧TrkS T w' g sl S∧(∀b,sl.ownBlock=some b→w.heap.size≤b∧dn w' b)∧Below w.heap.size w w'):=by
 obtain⟨s,hr,hs⟩:∃s,mw Tryz.prog C L fn args [] fuel lo=some (r,s,obs)∧s.vars[u]? =some (T,[some l]):=by
  unfold runMk at hr
  split at hr
  ·rename_i r' s obs' h1
   split at hr
   ·rename_i t l' h2
    split at hr
    ·rename_i ht
     subst ht
     simp only[Option.some.injEq,Prod.mk.injEq]at hr
     obtain⟨rfl,rfl,rfl⟩:=hr
     exact⟨s,h1,h2⟩
    ·cases hr
   ·cases hr
  ·cases hr
 refine(lI (E:=.of w) (B:=noB) hC hO (by kernel_rfl) hf hr hl (fun hn=>oL hn ha)).mono ?_
 rintro e w' ⟨v,B',a',rfl,h1,hi,hv⟩
 obtain⟨g,cs,e1,e2,e3,_⟩:=hi.var (x:=u) (t:=T) (ls:=[l]) hv hs (Nat.succ_pos _) (by show 1≤100000;decide)
 have hcs:∃sl,cs.toList=[sl]∧l.holds ρ B' w' sl:=by
  match hc:cs.toList,e3 with
  | [sl],e3=>exact⟨sl,rfl,e3.1⟩
  | [],e3=>exact e3.elim
  | _::_::_,e3=>exact e3.2.elim
 obtain⟨sl,h2,h3⟩:=hcs
 have hcs:cs=#[sl]:=by rw[←Array.toList_inj];exact h2
 subst hcs
 have hge:w.heap.size≤g:=by
  rcases(hi.blk _ _ e1).1 with h | h
  ·exact h
  ·exact h.elim
 refine⟨v,B',g,sl,rfl,h1,e1,hge,?_,?_,hi.below.to⟩
 ·rcases hS with⟨rfl,rfl⟩ | ⟨k,m,rfl,hm⟩
  ·have e:sl= .slice none 0 0:=h3
   subst e
   exact⟨e2,.inl ⟨rfl,rfl,rfl⟩,fun b hb=>by cases hb⟩
  ·have hrow:(Vp.row stT S.length (az S)).p w' sl:=by
    rcases hm with hm | hm
    ·exact(g7 hm h3).1
    ·exact gZ (g7 hm h3).1
   obtain⟨_,_,_,_,k4⟩:=h3
   exact⟨e2,hrow,fun b hb e=>by subst e;exact hi.inj.vo _ _ _ e1 (k4 b hb)⟩
 ·rcases hS with⟨rfl,rfl⟩ | ⟨k,m,rfl,hm⟩
  ·have e:sl= .slice none 0 0:=h3
   subst e
   exact fun b hb=>by cases hb
  ·obtain⟨_,_,_,_,k4⟩:=h3
   exact fun b hb=>by
    obtain⟨h5,h6⟩:=hi.own _ _ (k4 b hb)
    rcases h5 with h5 | h5
    ·exact⟨h5,h6⟩
    ·exact h5.elim
theorem q_tNew (w:World):Calls Tryz.prog 27 #[] w fun e w'=>∃g sl,e= .returned (.pointer (some ⟨g,0,none⟩))∧w.heap.size≤g∧TrkS 79 w' g sl []∧(∀b,sl.ownBlock=some b→w.heap.size≤b∧dn w' b)∧Below w.heap.size w w':=by
 refine(uf (ρ:=[]) (w:=w) (fuel:=300) (args:=[]) (vs:=[]) (lo:=[]) (obs:=[]) (r:=.v (.one (.ptr 0 0))) (u:=0) (l:=.sl0) (S:=[]) (T:=79) ai aj Tryz.func27 (by kernel_rfl) aC trivial (.inl ⟨rfl,rfl⟩)).mono ?_
 rintro e w' ⟨v,B',g,sl,rfl,⟨g',h1,rfl⟩,h2,h3⟩
 rw[h2]at h1;injection h1 with h1;subst h1
 exact⟨_,_,rfl,h3⟩
theorem q_rtNew (w:World):Calls Tryz.prog 28 #[] w fun e w'=>∃g sl,e= .returned (.pointer (some ⟨g,0,none⟩))∧w.heap.size≤g∧TrkS 86 w' g sl []∧(∀b,sl.ownBlock=some b→w.heap.size≤b∧dn w' b)∧Below w.heap.size w w':=by
 refine(uf (ρ:=[]) (w:=w) (fuel:=300) (args:=[]) (vs:=[]) (lo:=[]) (obs:=[]) (r:=.v (.one (.ptr 0 0))) (u:=0) (l:=.sl0) (S:=[]) (T:=86) ai aj Tryz.func28 (by kernel_rfl) aC trivial (.inl ⟨rfl,rfl⟩)).mono ?_
 rintro e w' ⟨v,B',g,sl,rfl,⟨g',h1,rfl⟩,h2,h3⟩
 rw[h2]at h1;injection h1 with h1;subst h1
 exact⟨_,_,rfl,h3⟩
end Go.Proofs.YtfhinmdhjlmikaaGreat
namespace Go.Proofs.YtfhinmdhjlmikaaGreat
set_option linter.unusedSimpArgs false
set_option linter.unusedVariables false
set_option maxRecDepth 100000
open Go.RowKit
/-- Numbers of at most two digits. -/
def RSt.two (x:RSt):Prop:=∀r∈x.rs,r.L≤2∧r.N≤2
theorem RSt.two.sm {x:RSt} (h:x.two):x.sm:=by
 have g:∀r∈x.rs,r.L≤1000000∧r.N≤1000000:=fun r hr=>⟨Nat.le_trans (h r hr).1 (by decide),Nat.le_trans (h r hr).2 (by decide)⟩
 exact⟨g _ (by simp[RSt.rs]),g _ (by simp[RSt.rs]),g _ (by simp[RSt.rs]),g _ (by simp[RSt.rs]),g _ (by simp[RSt.rs]),g _ (by simp[RSt.rs]),g _ (by simp[RSt.rs])⟩
theorem wV {x:RSt} {s:St} (h:x.two) (e:x=s.raw) (g:s.pose.good):s.pose.ok 2:=by
 subst e
 have q:∀y:Fq,y.raw∈s.raw.rs→y.valid=true→y.ok 2:=fun y hy hv=>⟨(h _ hy).1,(h _ hy).2,Fq.valid.n hv⟩
 exact⟨⟨q _ (by simp[RSt.rs,St.raw]) g.rot.comp.w,q _ (by simp[RSt.rs,St.raw]) g.rot.comp.x,q _ (by simp[RSt.rs,St.raw]) g.rot.comp.y,q _ (by simp[RSt.rs,St.raw]) g.rot.comp.z⟩,⟨q _ (by simp[RSt.rs,St.raw]) g.pos.x,q _ (by simp[RSt.rs,St.raw]) g.pos.y,q _ (by simp[RSt.rs,St.raw]) g.pos.z⟩⟩
theorem ug {x:RSt} (h:mc x.r0 x.r1 x.r2 x.r3 x.r4 x.r5 x.r6=true):∃s:St,x=s.raw∧s.pose.good:=by
 unfold mc nD jY at h
 simp only[Bool.and_eq_true]at h
 obtain⟨⟨⟨h0,h1,h2,h3⟩,h7⟩,h4,h5,h6⟩:=h
 have m0:=du h0;have m1:=du h1;have m2:=du h2;have m3:=du h3
 have m4:=du h4;have m5:=du h5;have m6:=du h6
 have gc:(Qq.mk ⟨x.r0.s,x.r0.p,x.r0.q⟩ ⟨x.r1.s,x.r1.p,x.r1.q⟩ ⟨x.r2.s,x.r2.p,x.r2.q⟩ ⟨x.r3.s,x.r3.p,x.r3.q⟩).comp:=⟨m0.2,m1.2,m2.2,m3.2⟩
 refine⟨⟨x.tm,⟨⟨⟨x.r0.s,x.r0.p,x.r0.q⟩,⟨x.r1.s,x.r1.p,x.r1.q⟩,⟨x.r2.s,x.r2.p,x.r2.q⟩,⟨x.r3.s,x.r3.p,x.r3.q⟩⟩,⟨⟨x.r4.s,x.r4.p,x.r4.q⟩,⟨x.r5.s,x.r5.p,x.r5.q⟩,⟨x.r6.s,x.r6.p,x.r6.q⟩⟩⟩⟩,?_,⟨nV gc (Fq.same_iff.1 h7),⟨m4.2,m5.2,m6.2⟩⟩⟩
 have e0:=m0.1;have e1:=m1.1;have e2:=m2.1;have e3:=m3.1;have e4:=m4.1;have e5:=m5.1;have e6:=m6.1
 obtain⟨tm,r0,r1,r2,r3,r4,r5,r6⟩:=x
 simp only at e0 e1 e2 e3 e4 e5 e6
 unfold St.raw
 simp only[←e0,←e1,←e2,←e3,←e4,←e5,←e6]
open Classical in
/-- What Add makes of a list at a stamp as it comes in. -/
noncomputable def eX (S:List St) (x:RSt):List St×Int:=if h:∃s:St,x=s.raw∧s.pose.good then iZ S h.choose else(S,4)
theorem hH {S:List St} {x:RSt} (h:GoodS S) (h2:x.two):GoodS (eX S x).1:=by
 unfold eX
 split
 ·rename_i hx
  exact mS h (wV h2 hx.choose_spec.1 hx.choose_spec.2) hx.choose_spec.2
 ·exact h
theorem q_AddR (S:List St) (x:RSt) (v:Value) {w:World} {g:Nat} {sl:Value} (h:TrkS 79 w g sl S) (i:nE w v x) (h2:x.two) (hS:GoodS S):
  Calls Tryz.prog 14 (.pointer (some ⟨g,0,none⟩)::[v]).toArray w fun e w'=>e= .returned (.int .i64 (eX S x).2)∧TrkM 79 w g sl (eX S x).1 w':=by
 unfold eX
 split
 ·rename_i hx
  exact q_Add S hx.choose v h (by rw[←tX,←hx.choose_spec.1];exact i) (wV h2 hx.choose_spec.1 hx.choose_spec.2) hx.choose_spec.2 hS
 ·rename_i hx
  by_cases r0:x.tm<0
  ·exact q_addRLo S x v h i h2.sm r0
  ·by_cases r1:1099511627776<x.tm
   ·exact q_addRHi S x v h i h2.sm r1
   ·exact zS S x v h i h2.sm (by omega) (by omega) (Bool.eq_false_iff.2 (fun e=>hx (ug e)))
theorem q_rtAddR (S:List St) (x:RSt) (v:Value) {w:World} {g:Nat} {sl:Value} (h:TrkS 86 w g sl S) (i:nE w v x) (h2:x.two) (hS:GoodS S):
  Calls Tryz.prog 32 (.pointer (some ⟨g,0,none⟩)::[v]).toArray w fun e w'=>e= .returned (.int .i64 (eX S x).2)∧TrkM 86 w g sl (eX S x).1 w':=by
 unfold eX
 split
 ·rename_i hx
  exact q_rtAdd S hx.choose v h (by rw[←tX,←hx.choose_spec.1];exact i) (wV h2 hx.choose_spec.1 hx.choose_spec.2) hx.choose_spec.2 hS
 ·rename_i hx
  by_cases r0:x.tm<0
  ·exact zT S x v h i h2.sm r0
  ·by_cases r1:1099511627776<x.tm
   ·exact zU S x v h i h2.sm r1
   ·exact wO S x v h i h2.sm (by omega) (by omega) (Bool.eq_false_iff.2 (fun e=>hx (ug e)))
section
variable {ρ:Rho} {n m m' k c u:Nat} {S:List St} {x:RSt} {ns:List Nat} {r:SV}
theorem I_AddR (hm:ρ[m]? =some (.row stT S.length (az S))) (hm':ρ[m']? =some (.row stT (eX S x).1.length (az (eX S x).1))) (hc:ρ[c]? =some (.val (.int .i64 (eX S x).2))) (hn:ρ[n]? =some (.val (.int .i64 x.tm))) (ha:AtR ρ ns x.rs) (h2:x.two) (hS:GoodS S):
  (OIns.mk (.mut 14 ⟨[k],[(u,79,[.own k m])],[(u,79,[.own k m'])],none,[],[.one (.ref c)]⟩) [.one (.ptr u 0),.agg (.ref n::bo ns)] r).Ok Tryz.prog ρ:=
 lZ (args:=[.agg (.ref n::bo ns)]) (aA Tryz.func14 rfl rfl) hm hm' (fun B w g sl vs _ ht hv=>by
  match vs,hv with
  | [v],hv=>
   refine(q_AddR S x v ht ((dV hn ha).1 hv.1) h2 hS).mono ?_
   rintro e w' ⟨rfl,h3⟩
   exact⟨_,rfl,fun B'=>aH hc aE,h3⟩)
theorem I_rtAddR (hm:ρ[m]? =some (.row stT S.length (az S))) (hm':ρ[m']? =some (.row stT (eX S x).1.length (az (eX S x).1))) (hc:ρ[c]? =some (.val (.int .i64 (eX S x).2))) (hn:ρ[n]? =some (.val (.int .i64 x.tm))) (ha:AtR ρ ns x.rs) (h2:x.two) (hS:GoodS S):
  (OIns.mk (.mut 32 ⟨[k],[(u,86,[.own k m])],[(u,86,[.own k m'])],none,[],[.one (.ref c)]⟩) [.one (.ptr u 0),.agg (.ref n::bo ns)] r).Ok Tryz.prog ρ:=
 lZ (args:=[.agg (.ref n::bo ns)]) (aA Tryz.func32 rfl rfl) hm hm' (fun B w g sl vs _ ht hv=>by
  match vs,hv with
  | [v],hv=>
   refine(q_rtAddR S x v ht ((dV hn ha).1 hv.1) h2 hS).mono ?_
   rintro e w' ⟨rfl,h3⟩
   exact⟨_,rfl,fun B'=>aH hc aE,h3⟩)
theorem I_tNew (hm:ρ[m]? =some (.row stT ([]:List St).length (az []))):(OIns.mk (.mut 27 ⟨[k],[],[],some (u,79,[.own k m]),[],[.one (.ptr u 0)]⟩) [] r).Ok Tryz.prog ρ:=
 x6 (args:=[]) (aA Tryz.func27 rfl rfl) hm (fun B w vs _ hv=>by
  match vs,hv with
  | [],_=>
   refine(q_tNew w).mono ?_
   rintro e w' ⟨g,sl,rfl,h1,h2,h3,h4⟩
   exact⟨_,g,sl,rfl,fun B' hB=>⟨g,hB,rfl⟩,h1,h2,h3,h4⟩)
theorem I_rtNew (hm:ρ[m]? =some (.row stT ([]:List St).length (az []))):(OIns.mk (.mut 28 ⟨[k],[],[],some (u,86,[.own k m]),[],[.one (.ptr u 0)]⟩) [] r).Ok Tryz.prog ρ:=
 x6 (args:=[]) (aA Tryz.func28 rfl rfl) hm (fun B w vs _ hv=>by
  match vs,hv with
  | [],_=>
   refine(q_rtNew w).mono ?_
   rintro e w' ⟨g,sl,rfl,h1,h2,h3,h4⟩
   exact⟨_,g,sl,rfl,fun B' hB=>⟨g,hB,rfl⟩,h1,h2,h3,h4⟩)
end
end Go.Proofs.YtfhinmdhjlmikaaGreat
namespace Go.Proofs.YtfhinmdhjlmikaaGreat
set_option linter.unusedSimpArgs false
set_option linter.unusedVariables false
set_option maxRecDepth 100000
open Go.RowKit
theorem jU {ρ:Rho} {m:Nat} {s:Vp} {w:World} {v:Value} (hm:ρ[m]? =some s) (h:s.p w v):(Leaf.ref m).holds ρ noB w v:=⟨s,hm,h,fun g _ hB=>by
 rcases hB with⟨x,hB⟩ | ⟨x,hB⟩
 ·cases hB
 ·exact hB⟩
end Go.Proofs.YtfhinmdhjlmikaaGreat
namespace Go.Proofs.YtfhinmdhjlmikaaGreat
set_option linter.unusedSimpArgs false
set_option linter.unusedVariables false
set_option maxRecDepth 100000
open Go.RowKit
theorem jV:∀ {S:List St} {b:Int} {k:Nat},(∀(i:Nat) (x:St),i<k→S[i]? =some x→x.tm<b)→(∀x,S[k]? =some x→¬x.tm<b)→k≤S.length→plN S b=k
 | [],_,k,_,_,hk=>by simp at hk;subst hk;rfl
 | s::S,b,0,_,h,_=>by
  have:=h s rfl
  simp[plN,this]
 | s::S,b,k+1,h1,h2,hk=>by
  have h0:=h1 0 s (by omega) rfl
  simp only[plN,if_pos h0]
  rw[jV (S:=S) (b:=b) (k:=k) (fun i x hi hx=>h1 (i+1) x (by omega) (by simpa using hx)) (fun x hx=>h2 x (by simpa using hx)) (by simp at hk;omega)]
/-- What lies around a time. -/
inductive Road (S:List St) (a:Int):St→St→Int→Prop
 | E (h:S.length=0):Road S a zst zst 6
 | O1 (f:St) (hf:S[0]? =some f) (hn:0<S.length) (ha:a<f.tm):Road S a zst zst 17
 | O2 (f:St) (hf:S[0]? =some f) (hb:f.tm≤a) (l:St) (hl:S[S.length - 1]? =some l) (hn:0<S.length) (ha:l.tm<a):Road S a zst zst 17
 | Q (f:St) (hf:S[0]? =some f) (hb:f.tm≤a) (l:St) (hl:S[S.length - 1]? =some l) (hn:0<S.length) (ha:a≤l.tm) (y:St) (hy:S[plN S a]? =some y) (ey:y.tm=a) (hp:plN S a<S.length) (eq1:plN S (a+1)=plN S a+1):Road S a y y 0
 | M (f:St) (hf:S[0]? =some f) (hb:f.tm≤a) (l:St) (hl:S[S.length - 1]? =some l) (hn:0<S.length) (ha:a≤l.tm) (y:St) (hy:S[plN S a]? =some y) (ey:a<y.tm) (hp:plN S a<S.length) (h0:0<plN S a) (eq1:plN S (a+1)=plN S a) (z:St) (hz:S[plN S a - 1]? =some z):Road S a z y 0
theorem road {S:List St} (hS:GoodS S) (a:Int):∃z y c,Road S a z y c:=by
 by_cases h0:S.length=0
 ·exact⟨_,_,_,.E h0⟩
 ·obtain⟨f,hf⟩:∃f,S[0]? =some f:=⟨_,List.getElem?_eq_getElem (by omega)⟩
  obtain⟨l,hl⟩:∃f,S[S.length - 1]? =some f:=⟨_,List.getElem?_eq_getElem (by omega)⟩
  by_cases ha:a<f.tm
  ·exact⟨_,_,_,.O1 f hf (by omega) ha⟩
  ·by_cases hb:l.tm<a
   ·exact⟨_,_,_,.O2 f hf (by omega) l hl (by omega) hb⟩
   ·have hle:=a9 S a
    have hp:plN S a<S.length:=by
     by_cases e:plN S a=S.length
     ·obtain⟨x,h1,h2⟩:=dl (S:=S) (a:=a) (k:=S.length - 1) (by omega)
      rw[hl]at h1;injection h1 with h1;subst h1;exact absurd h2 hb
     ·omega
    obtain⟨y,hy,hge⟩:=rM hp
    by_cases ey:y.tm=a
    ·refine⟨_,_,_,.Q f hf (by omega) l hl (by omega) (by omega) y hy ey hp (jV (fun i x hi hx=> ?_) (fun x hx=> ?_) (by omega))⟩
     ·by_cases e:i=plN S a
      ·subst e;rw[hy]at hx;injection hx with hx;subst hx;omega
      ·obtain⟨x',h1,h2⟩:=dl (S:=S) (a:=a) (k:=i) (by omega)
       rw[h1]at hx;injection hx with hx;subst hx;omega
     ·have:=hS.sort _ _ _ _ (Nat.lt_succ_self _) hy hx;omega
    ·have h1:0<plN S a:=by
      by_cases e:plN S a=0
      ·rw[e,hf]at hy;injection hy with hy;subst hy;omega
      ·omega
     obtain⟨z,hz⟩:∃f,S[plN S a - 1]? =some f:=⟨_,List.getElem?_eq_getElem (by omega)⟩
     refine⟨_,_,_,.M f hf (by omega) l hl (by omega) (by omega) y hy (by omega) hp h1 (jV (fun i x hi hx=> ?_) (fun x hx=> ?_) hle) z hz⟩
     ·obtain⟨x',h3,h2⟩:=dl (S:=S) (a:=a) (k:=i) hi
      rw[h3]at hx;injection hx with hx;subst hx;omega
     ·rw[hy]at hx;injection hx with hx;subst hx;omega
/-- The pose at a time. -/
noncomputable def atP (z y:St) (c a:Int):Pq:=
 if c≠0 then Pq.zero else if z.tm=y.tm then y.pose else Pq.mk (z.pose.rot.way (z.pose.rot.inv.mul y.pose.rot) (Fq.ratio (a - z.tm) (y.tm - z.tm))) (z.pose.pos.lerp y.pose.pos (Fq.ratio (a - z.tm) (y.tm - z.tm)))
section
variable {S:List St} {a:Int} {z y:St} {c:Int} {w:World} {g:Nat} {sl:Value}
theorem z6 (h:TrkS 79 w g sl S) (hS:GoodS S) (hr:Road S a z y c):Calls Tryz.prog 13 (.pointer (some ⟨g,0,none⟩)::[.int .i64 a]).toArray w fun e w'=>∃v0 v1:Value,e= .returned (.tuple #[v0,v1,.int .i64 c])∧ce w' v0 z∧ce w' v1 y∧Below w.heap.size w w':=by
 have hl:=hS.len
 cases hr with
 | E h0=>exact zM S a h hl h0
 | O1 f hf hn ha=>exact wE S a h hl f hf hn ha
 | O2 f hf hb l hl' hn ha=>exact wF S a h hl f hf hb l hl' hn ha
 | Q f hf hb l hl' hn ha y hy ey hp eq1=>exact zN S a h hl f hf hb l hl' hn ha _ hy ey hp (hS.at hy).ok (hS.at hy).good
 | M f hf hb l hl' hn ha y hy ey hp h0 eq1 z hz=>exact zO S a h hl f hf hb l hl' hn ha _ hy ey hp h0 (hS.at hy).ok (hS.at hy).good _ hz (hS.at hz).ok (hS.at hz).good
theorem wW (h:TrkS 86 w g sl S) (hS:GoodS S) (hr:Road S a z y c):Calls Tryz.prog 30 (.pointer (some ⟨g,0,none⟩)::[.int .i64 a]).toArray w fun e w'=>∃v0 v1:Value,e= .returned (.tuple #[v0,v1,.int .i64 c])∧ce w' v0 z∧ce w' v1 y∧Below w.heap.size w w':=by
 have hl:=hS.len
 cases hr with
 | E h0=>exact pk S a h hl hS.sort h0
 | O1 f hf hn ha=>exact nj S a h hl hS.sort f hf hn ha
 | O2 f hf hb l hl' hn ha=>exact nm S a h hl hS.sort f hf hb l hl' hn ha
 | Q f hf hb l hl' hn ha y hy ey hp eq1=>exact pl S a h hl hS.sort f hf hb l hl' hn ha _ hy ey hp eq1
 | M f hf hb l hl' hn ha y hy ey hp h0 eq1 z hz=>exact pm S a h hl hS.sort f hf hb l hl' hn ha _ hy ey hp h0 eq1 _ hz
theorem q_AtS (h:TrkS 79 w g sl S) (hS:GoodS S) (hr:Road S a z y c):Calls Tryz.prog 12 (.pointer (some ⟨g,0,none⟩)::[.int .i64 a]).toArray w fun e w'=>∃v0:Value,e= .returned (.tuple #[v0,.int .i64 c])∧dt w' v0 (atP z y c a)∧Below w.heap.size w w':=by
 have hl:=hS.len
 cases hr with
 | E h0=>exact q_AtE S a h hl h0
 | O1 f hf hn ha=>exact q_AtO1 S a h hl f hf hn ha
 | O2 f hf hb l hl' hn ha=>exact q_AtO2 S a h hl f hf hb l hl' hn ha
 | Q f hf hb l hl' hn ha y hy ey hp eq1=>
  rw[show atP z z 0 a=z.pose by simp[atP]]
  exact q_AtQ S a h hl f hf hb l hl' hn ha _ hy ey hp (hS.at hy).ok (hS.at hy).good
 | M f hf hb l hl' hn ha y hy ey hp h0 eq1 z hz=>
  have h1:=dl (S:=S) (a:=a) (k:=plN S a - 1) (by omega)
  obtain⟨z',h2,h3⟩:=h1
  rw[hz]at h2;injection h2 with h2;subst h2
  have gy:=hS.at hy;have gz:=hS.at hz
  rw[show atP z y 0 a=_ by simp only[atP];rw[if_neg (by omega),if_neg (by omega)]]
  exact q_AtM S a h hl f hf hb l hl' hn ha _ hy ey hp h0 gy.ok gy.good _ hz gz.ok gz.good gy.lo gy.hi gz.lo h3 (hS.adj _ _ _ hz (by rw[←hy];congr 1;omega))
theorem q_rAtS (h:TrkS 86 w g sl S) (hS:GoodS S) (hr:Road S a z y c):Calls Tryz.prog 31 (.pointer (some ⟨g,0,none⟩)::[.int .i64 a]).toArray w fun e w'=>∃v0:Value,e= .returned (.tuple #[v0,.int .i64 c])∧dt w' v0 (atP z y c a)∧Below w.heap.size w w':=by
 have hl:=hS.len
 cases hr with
 | E h0=>exact q_rAtE S a h hl hS.sort h0
 | O1 f hf hn ha=>exact q_rAtO1 S a h hl hS.sort f hf hn ha
 | O2 f hf hb l hl' hn ha=>exact q_rAtO2 S a h hl hS.sort f hf hb l hl' hn ha
 | Q f hf hb l hl' hn ha y hy ey hp eq1=>
  rw[show atP z z 0 a=z.pose by simp[atP]]
  exact q_rAtQ S a h hl hS.sort f hf hb l hl' hn ha _ hy ey hp eq1 (hS.at hy).ok (hS.at hy).good
 | M f hf hb l hl' hn ha y hy ey hp h0 eq1 z hz=>
  have h1:=dl (S:=S) (a:=a) (k:=plN S a - 1) (by omega)
  obtain⟨z',h2,h3⟩:=h1
  rw[hz]at h2;injection h2 with h2;subst h2
  have gy:=hS.at hy;have gz:=hS.at hz
  rw[show atP z y 0 a=_ by simp only[atP];rw[if_neg (by omega),if_neg (by omega)]]
  exact q_rAtM S a h hl hS.sort f hf hb l hl' hn ha _ hy ey hp h0 eq1 _ hz gy.ok gy.good gz.ok gz.good gy.lo gy.hi gz.lo h3 (hS.adj _ _ _ hz (by rw[←hy];congr 1;omega))
theorem q_DropS (h:TrkS 79 w g sl S) (hS:GoodS S):Calls Tryz.prog 26 (.pointer (some ⟨g,0,none⟩)::[.int .i64 a]).toArray w fun e w'=>e= .returned (.int .i64 ((plN S (a+1) - 1:Nat):Int))∧TrkM 79 w g sl (S.drop (plN S (a+1) - 1)) w':=by
 have hl:=hS.len
 have hle:=a9 S a
 have hb:∀(i:Nat) (x:St),i<plN S a→S[i]? =some x→x.tm<a+1:=fun i x hi hx=>by
  obtain⟨x',h1,h2⟩:=dl hi
  rw[hx]at h1;injection h1 with h1;subst h1;omega
 have hd:S.drop 0=S:=rfl
 by_cases hp:plN S a<S.length
 ·obtain⟨y,hy,hge⟩:=rM hp
  by_cases ey:y.tm=a
  ·have eq1:plN S (a+1)=plN S a+1:=jV (fun i x hi hx=>by
    by_cases e:i=plN S a
    ·subst e;rw[hy]at hx;injection hx with hx;subst hx;omega
    ·exact hb i x (by omega) hx) (fun x hx=>by have:=hS.sort _ _ _ _ (Nat.lt_succ_self _) hy hx;omega) (by omega)
   rw[eq1,Nat.add_sub_cancel]
   by_cases h0:plN S a=0
   ·rw[h0];exact q_DropQ0 S a h hl y hy hp (by omega) h0
   ·exact q_DropQ1 S a h hl y hy hp (by omega) (by omega)
  ·have eq1:plN S (a+1)=plN S a:=jV hb (fun x hx=>by rw[hy]at hx;injection hx with hx;subst hx;omega) hle
   rw[eq1]
   by_cases h0:plN S a≤1
   ·rw[show plN S a - 1=0 by omega];exact q_DropG0 S a h hl y hy hp (by omega) h0
   ·rw[show((plN S a - 1:Nat):Int)=((plN S a:Nat):Int) - 1 by omega];exact q_DropG1 S a h hl y hy hp (by omega) (by omega)
 ·have hp:plN S a=S.length:=by omega
  have eq1:plN S (a+1)=plN S a:=jV hb (fun x hx=>by have:=(List.getElem?_eq_some_iff.1 hx).1;omega) hle
  rw[eq1]
  by_cases h0:plN S a≤1
  ·rw[show plN S a - 1=0 by omega];exact q_DropE0 S a h hl hp h0
  ·rw[show((plN S a - 1:Nat):Int)=((plN S a:Nat):Int) - 1 by omega];exact q_DropE1 S a h hl hp (by omega)
end
end Go.Proofs.YtfhinmdhjlmikaaGreat
namespace Go.Proofs.YtfhinmdhjlmikaaGreat
set_option linter.unusedSimpArgs false
set_option linter.unusedVariables false
set_option maxRecDepth 100000
open Go.RowKit
def Rq.tw (r:Rq):Bool:=decide (r.L≤2) && decide (r.N≤2)
def RSt.tw (x:RSt):Bool:=x.r0.tw && (x.r1.tw && (x.r2.tw && (x.r3.tw && (x.r4.tw && (x.r5.tw && x.r6.tw)))))
theorem Rq.tw_iff {r:Rq}:r.tw=true↔r.L≤2∧r.N≤2:=by simp[Rq.tw]
theorem RSt.tw_iff {x:RSt}:x.tw=true↔x.two:=by
 unfold RSt.tw RSt.two RSt.rs
 simp only[Bool.and_eq_true,Rq.tw_iff,List.mem_cons,List.not_mem_nil,or_false,forall_eq_or_imp,forall_eq]
def wX (r:Rq) (v:Value):List Fq:=[]
theorem q_shortT {w:World} (r:Rq) (v:Value) (i:IsL w v [r]) (hL:r.L≤2) (hN:r.N≤2):
  Calls Tryz.prog 35 #[v] w fun e w'=>e= .returned (.bool true)∧Below w.heap.size w w':=by
 refine(bu (ρ:=frs (wX r v)++([.val (.bool r.s),.dig r.L r.p,.dig r.N r.q,.val (.int .i64 (r.L:Int)),.val (.int .i64 (r.N:Int))]:List Vp)) (w:=w) (fuel:=300) (args:=[.agg [.ref 0,.ref 1,.ref 2]]) (vs:=[v]) (r:=.v (.one (.b true))) (lo:=[]) (obs:=[])
  (ai)
  (ae (tj (n:=1) (m:=3) (t:=23) ⟨_,Tryz.underlying23⟩ rfl rfl) (ae (aw (t:=3) (ah (n:=3) rfl) (aF (c:=2)) (cW (by omega))) (ae (tj (n:=2) (m:=4) (t:=23) ⟨_,Tryz.underlying23⟩ rfl rfl) (ae (aw (t:=3) (ah (n:=4) rfl) (aF (c:=2)) (cW (by omega))) (aj))))) (by kernel_rfl) Tryz.func35 (by kernel_rfl) aC ⟨(aM (ns:=[0]) (rs:=[r]) ⟨⟨rfl,rfl,rfl⟩,trivial⟩).2 i,trivial⟩).mono ?_
 rintro e w' ⟨v,rfl,h1,h2⟩
 have e1:v= .bool true:=h1
 subst e1
 exact⟨rfl,h2⟩
def wY (r:Rq) (v:Value):List Fq:=[]
theorem q_shortL {w:World} (r:Rq) (v:Value) (i:IsL w v [r]) (hL:2<r.L):
  Calls Tryz.prog 35 #[v] w fun e w'=>e= .returned (.bool false)∧Below w.heap.size w w':=by
 refine(bu (ρ:=frs (wY r v)++([.val (.bool r.s),.dig r.L r.p,.dig r.N r.q,.val (.int .i64 (r.L:Int))]:List Vp)) (w:=w) (fuel:=300) (args:=[.agg [.ref 0,.ref 1,.ref 2]]) (vs:=[v]) (r:=.v (.one (.b false))) (lo:=[]) (obs:=[])
  (ai)
  (ae (tj (n:=1) (m:=3) (t:=23) ⟨_,Tryz.underlying23⟩ rfl rfl) (ae (aw (t:=3) (ah (n:=3) rfl) (aF (c:=2)) (eE (by omega))) (aj))) (by kernel_rfl) Tryz.func35 (by kernel_rfl) aC ⟨(aM (ns:=[0]) (rs:=[r]) ⟨⟨rfl,rfl,rfl⟩,trivial⟩).2 i,trivial⟩).mono ?_
 rintro e w' ⟨v,rfl,h1,h2⟩
 have e1:v= .bool false:=h1
 subst e1
 exact⟨rfl,h2⟩
def wZ (r:Rq) (v:Value):List Fq:=[]
theorem q_shortN {w:World} (r:Rq) (v:Value) (i:IsL w v [r]) (hL:r.L≤2) (hN:2<r.N):
  Calls Tryz.prog 35 #[v] w fun e w'=>e= .returned (.bool false)∧Below w.heap.size w w':=by
 refine(bu (ρ:=frs (wZ r v)++([.val (.bool r.s),.dig r.L r.p,.dig r.N r.q,.val (.int .i64 (r.L:Int)),.val (.int .i64 (r.N:Int))]:List Vp)) (w:=w) (fuel:=300) (args:=[.agg [.ref 0,.ref 1,.ref 2]]) (vs:=[v]) (r:=.v (.one (.b false))) (lo:=[]) (obs:=[])
  (ai)
  (ae (tj (n:=1) (m:=3) (t:=23) ⟨_,Tryz.underlying23⟩ rfl rfl) (ae (aw (t:=3) (ah (n:=3) rfl) (aF (c:=2)) (cW (by omega))) (ae (tj (n:=2) (m:=4) (t:=23) ⟨_,Tryz.underlying23⟩ rfl rfl) (ae (aw (t:=3) (ah (n:=4) rfl) (aF (c:=2)) (eE (by omega))) (aj))))) (by kernel_rfl) Tryz.func35 (by kernel_rfl) aC ⟨(aM (ns:=[0]) (rs:=[r]) ⟨⟨rfl,rfl,rfl⟩,trivial⟩).2 i,trivial⟩).mono ?_
 rintro e w' ⟨v,rfl,h1,h2⟩
 have e1:v= .bool false:=h1
 subst e1
 exact⟨rfl,h2⟩
theorem q_short {w:World} (r:Rq) (v:Value) (i:IsL w v [r]):Calls Tryz.prog 35 #[v] w fun e w'=>e= .returned (.bool r.tw)∧Below w.heap.size w w':=by
 by_cases hL:r.L≤2
 ·by_cases hN:r.N≤2
  ·rw[Rq.tw_iff.2 ⟨hL,hN⟩];exact q_shortT r v i hL hN
  ·rw[show r.tw=false by simp[Rq.tw,hN]];exact q_shortN r v i hL (by omega)
 ·rw[show r.tw=false by simp[Rq.tw,hL]];exact q_shortL r v i (by omega)
theorem bv {ρ:Rho} {n:Nat} {r:Rq} {b:Bool} (hr:AtR ρ [n] [r]) (hb:r.tw=b):Inst.Ok Tryz.prog ρ ⟨35,[cP [n]],.v (.one (.b b))⟩:=
 ⟨aA Tryz.func35 rfl rfl,fun B w vs hB h=>by
  match vs,h with
  | [v],h=>
   refine(q_short r v ((aM hr).1 h.1)).mono ?_
   rintro e w' ⟨rfl,h2⟩
   exact⟨_,rfl,by subst hb;rfl,h2⟩⟩
def xq_fit0X (x:RSt) (v:Value):List Fq:=[]
theorem q_fit0 {w:World} (x:RSt) (v:Value) (i:IsL w v x.rs) (k0:x.r0.tw=false):
  Calls Tryz.prog 9 #[v] w fun e w'=>e= .returned (.bool false)∧Below w.heap.size w w':=by
 refine(bu (ρ:=frs (xq_fit0X x v)++([.val (.int .i64 x.tm),.val (.bool x.r0.s),.dig x.r0.L x.r0.p,.dig x.r0.N x.r0.q,.val (.bool x.r1.s),.dig x.r1.L x.r1.p,.dig x.r1.N x.r1.q,.val (.bool x.r2.s),.dig x.r2.L x.r2.p,.dig x.r2.N x.r2.q,.val (.bool x.r3.s),.dig x.r3.L x.r3.p,.dig x.r3.N x.r3.q,.val (.bool x.r4.s),.dig x.r4.L x.r4.p,.dig x.r4.N x.r4.q,.val (.bool x.r5.s),.dig x.r5.L x.r5.p,.dig x.r5.N x.r5.q,.val (.bool x.r6.s),.dig x.r6.L x.r6.p,.dig x.r6.N x.r6.q]:List Vp)) (w:=w) (fuel:=300) (args:=[.agg [.ref 1,.ref 2,.ref 3,.ref 4,.ref 5,.ref 6,.ref 7,.ref 8,.ref 9,.ref 10,.ref 11,.ref 12,.ref 13,.ref 14,.ref 15,.ref 16,.ref 17,.ref 18,.ref 19,.ref 20,.ref 21]]) (vs:=[v]) (r:=.v (.one (.b false))) (lo:=[]) (obs:=[])
  (af (bv (n:=1) (r:=x.r0) (b:=false) ⟨⟨rfl,rfl,rfl⟩,trivial⟩ k0) ai)
  aj (by kernel_rfl) Tryz.func9 (by kernel_rfl) aC ⟨(aM (ns:=[1,4,7,10,13,16,19]) (rs:=x.rs) ⟨⟨rfl,rfl,rfl⟩,⟨rfl,rfl,rfl⟩,⟨rfl,rfl,rfl⟩,⟨rfl,rfl,rfl⟩,⟨rfl,rfl,rfl⟩,⟨rfl,rfl,rfl⟩,⟨rfl,rfl,rfl⟩,trivial⟩).2 i,trivial⟩).mono ?_
 rintro e w' ⟨v,rfl,h1,h2⟩
 have e1:v= .bool false:=h1
 subst e1
 exact⟨rfl,h2⟩
def xq_fit1X (x:RSt) (v:Value):List Fq:=[]
theorem q_fit1 {w:World} (x:RSt) (v:Value) (i:IsL w v x.rs) (k0:x.r0.tw=true) (k1:x.r1.tw=false):
  Calls Tryz.prog 9 #[v] w fun e w'=>e= .returned (.bool false)∧Below w.heap.size w w':=by
 refine(bu (ρ:=frs (xq_fit1X x v)++([.val (.int .i64 x.tm),.val (.bool x.r0.s),.dig x.r0.L x.r0.p,.dig x.r0.N x.r0.q,.val (.bool x.r1.s),.dig x.r1.L x.r1.p,.dig x.r1.N x.r1.q,.val (.bool x.r2.s),.dig x.r2.L x.r2.p,.dig x.r2.N x.r2.q,.val (.bool x.r3.s),.dig x.r3.L x.r3.p,.dig x.r3.N x.r3.q,.val (.bool x.r4.s),.dig x.r4.L x.r4.p,.dig x.r4.N x.r4.q,.val (.bool x.r5.s),.dig x.r5.L x.r5.p,.dig x.r5.N x.r5.q,.val (.bool x.r6.s),.dig x.r6.L x.r6.p,.dig x.r6.N x.r6.q]:List Vp)) (w:=w) (fuel:=300) (args:=[.agg [.ref 1,.ref 2,.ref 3,.ref 4,.ref 5,.ref 6,.ref 7,.ref 8,.ref 9,.ref 10,.ref 11,.ref 12,.ref 13,.ref 14,.ref 15,.ref 16,.ref 17,.ref 18,.ref 19,.ref 20,.ref 21]]) (vs:=[v]) (r:=.v (.one (.b false))) (lo:=[]) (obs:=[])
  (af (bv (n:=1) (r:=x.r0) (b:=true) ⟨⟨rfl,rfl,rfl⟩,trivial⟩ k0) (af (bv (n:=4) (r:=x.r1) (b:=false) ⟨⟨rfl,rfl,rfl⟩,trivial⟩ k1) ai))
  aj (by kernel_rfl) Tryz.func9 (by kernel_rfl) aC ⟨(aM (ns:=[1,4,7,10,13,16,19]) (rs:=x.rs) ⟨⟨rfl,rfl,rfl⟩,⟨rfl,rfl,rfl⟩,⟨rfl,rfl,rfl⟩,⟨rfl,rfl,rfl⟩,⟨rfl,rfl,rfl⟩,⟨rfl,rfl,rfl⟩,⟨rfl,rfl,rfl⟩,trivial⟩).2 i,trivial⟩).mono ?_
 rintro e w' ⟨v,rfl,h1,h2⟩
 have e1:v= .bool false:=h1
 subst e1
 exact⟨rfl,h2⟩
def xq_fit2X (x:RSt) (v:Value):List Fq:=[]
theorem q_fit2 {w:World} (x:RSt) (v:Value) (i:IsL w v x.rs) (k0:x.r0.tw=true) (k1:x.r1.tw=true) (k2:x.r2.tw=false):
  Calls Tryz.prog 9 #[v] w fun e w'=>e= .returned (.bool false)∧Below w.heap.size w w':=by
 refine(bu (ρ:=frs (xq_fit2X x v)++([.val (.int .i64 x.tm),.val (.bool x.r0.s),.dig x.r0.L x.r0.p,.dig x.r0.N x.r0.q,.val (.bool x.r1.s),.dig x.r1.L x.r1.p,.dig x.r1.N x.r1.q,.val (.bool x.r2.s),.dig x.r2.L x.r2.p,.dig x.r2.N x.r2.q,.val (.bool x.r3.s),.dig x.r3.L x.r3.p,.dig x.r3.N x.r3.q,.val (.bool x.r4.s),.dig x.r4.L x.r4.p,.dig x.r4.N x.r4.q,.val (.bool x.r5.s),.dig x.r5.L x.r5.p,.dig x.r5.N x.r5.q,.val (.bool x.r6.s),.dig x.r6.L x.r6.p,.dig x.r6.N x.r6.q]:List Vp)) (w:=w) (fuel:=300) (args:=[.agg [.ref 1,.ref 2,.ref 3,.ref 4,.ref 5,.ref 6,.ref 7,.ref 8,.ref 9,.ref 10,.ref 11,.ref 12,.ref 13,.ref 14,.ref 15,.ref 16,.ref 17,.ref 18,.ref 19,.ref 20,.ref 21]]) (vs:=[v]) (r:=.v (.one (.b false))) (lo:=[]) (obs:=[])
  (af (bv (n:=1) (r:=x.r0) (b:=true) ⟨⟨rfl,rfl,rfl⟩,trivial⟩ k0) (af (bv (n:=4) (r:=x.r1) (b:=true) ⟨⟨rfl,rfl,rfl⟩,trivial⟩ k1) (af (bv (n:=7) (r:=x.r2) (b:=false) ⟨⟨rfl,rfl,rfl⟩,trivial⟩ k2) ai)))
  aj (by kernel_rfl) Tryz.func9 (by kernel_rfl) aC ⟨(aM (ns:=[1,4,7,10,13,16,19]) (rs:=x.rs) ⟨⟨rfl,rfl,rfl⟩,⟨rfl,rfl,rfl⟩,⟨rfl,rfl,rfl⟩,⟨rfl,rfl,rfl⟩,⟨rfl,rfl,rfl⟩,⟨rfl,rfl,rfl⟩,⟨rfl,rfl,rfl⟩,trivial⟩).2 i,trivial⟩).mono ?_
 rintro e w' ⟨v,rfl,h1,h2⟩
 have e1:v= .bool false:=h1
 subst e1
 exact⟨rfl,h2⟩
def xq_fit3X (x:RSt) (v:Value):List Fq:=[]
theorem q_fit3 {w:World} (x:RSt) (v:Value) (i:IsL w v x.rs) (k0:x.r0.tw=true) (k1:x.r1.tw=true) (k2:x.r2.tw=true) (k3:x.r3.tw=false):
  Calls Tryz.prog 9 #[v] w fun e w'=>e= .returned (.bool false)∧Below w.heap.size w w':=by
 refine(bu (ρ:=frs (xq_fit3X x v)++([.val (.int .i64 x.tm),.val (.bool x.r0.s),.dig x.r0.L x.r0.p,.dig x.r0.N x.r0.q,.val (.bool x.r1.s),.dig x.r1.L x.r1.p,.dig x.r1.N x.r1.q,.val (.bool x.r2.s),.dig x.r2.L x.r2.p,.dig x.r2.N x.r2.q,.val (.bool x.r3.s),.dig x.r3.L x.r3.p,.dig x.r3.N x.r3.q,.val (.bool x.r4.s),.dig x.r4.L x.r4.p,.dig x.r4.N x.r4.q,.val (.bool x.r5.s),.dig x.r5.L x.r5.p,.dig x.r5.N x.r5.q,.val (.bool x.r6.s),.dig x.r6.L x.r6.p,.dig x.r6.N x.r6.q]:List Vp)) (w:=w) (fuel:=300) (args:=[.agg [.ref 1,.ref 2,.ref 3,.ref 4,.ref 5,.ref 6,.ref 7,.ref 8,.ref 9,.ref 10,.ref 11,.ref 12,.ref 13,.ref 14,.ref 15,.ref 16,.ref 17,.ref 18,.ref 19,.ref 20,.ref 21]]) (vs:=[v]) (r:=.v (.one (.b false))) (lo:=[]) (obs:=[])
  (af (bv (n:=1) (r:=x.r0) (b:=true) ⟨⟨rfl,rfl,rfl⟩,trivial⟩ k0) (af (bv (n:=4) (r:=x.r1) (b:=true) ⟨⟨rfl,rfl,rfl⟩,trivial⟩ k1) (af (bv (n:=7) (r:=x.r2) (b:=true) ⟨⟨rfl,rfl,rfl⟩,trivial⟩ k2) (af (bv (n:=10) (r:=x.r3) (b:=false) ⟨⟨rfl,rfl,rfl⟩,trivial⟩ k3) ai))))
  aj (by kernel_rfl) Tryz.func9 (by kernel_rfl) aC ⟨(aM (ns:=[1,4,7,10,13,16,19]) (rs:=x.rs) ⟨⟨rfl,rfl,rfl⟩,⟨rfl,rfl,rfl⟩,⟨rfl,rfl,rfl⟩,⟨rfl,rfl,rfl⟩,⟨rfl,rfl,rfl⟩,⟨rfl,rfl,rfl⟩,⟨rfl,rfl,rfl⟩,trivial⟩).2 i,trivial⟩).mono ?_
 rintro e w' ⟨v,rfl,h1,h2⟩
 have e1:v= .bool false:=h1
 subst e1
 exact⟨rfl,h2⟩
def xq_fit4X (x:RSt) (v:Value):List Fq:=[]
theorem q_fit4 {w:World} (x:RSt) (v:Value) (i:IsL w v x.rs) (k0:x.r0.tw=true) (k1:x.r1.tw=true) (k2:x.r2.tw=true) (k3:x.r3.tw=true) (k4:x.r4.tw=false):
  Calls Tryz.prog 9 #[v] w fun e w'=>e= .returned (.bool false)∧Below w.heap.size w w':=by
 refine(bu (ρ:=frs (xq_fit4X x v)++([.val (.int .i64 x.tm),.val (.bool x.r0.s),.dig x.r0.L x.r0.p,.dig x.r0.N x.r0.q,.val (.bool x.r1.s),.dig x.r1.L x.r1.p,.dig x.r1.N x.r1.q,.val (.bool x.r2.s),.dig x.r2.L x.r2.p,.dig x.r2.N x.r2.q,.val (.bool x.r3.s),.dig x.r3.L x.r3.p,.dig x.r3.N x.r3.q,.val (.bool x.r4.s),.dig x.r4.L x.r4.p,.dig x.r4.N x.r4.q,.val (.bool x.r5.s),.dig x.r5.L x.r5.p,.dig x.r5.N x.r5.q,.val (.bool x.r6.s),.dig x.r6.L x.r6.p,.dig x.r6.N x.r6.q]:List Vp)) (w:=w) (fuel:=300) (args:=[.agg [.ref 1,.ref 2,.ref 3,.ref 4,.ref 5,.ref 6,.ref 7,.ref 8,.ref 9,.ref 10,.ref 11,.ref 12,.ref 13,.ref 14,.ref 15,.ref 16,.ref 17,.ref 18,.ref 19,.ref 20,.ref 21]]) (vs:=[v]) (r:=.v (.one (.b false))) (lo:=[]) (obs:=[])
  (af (bv (n:=1) (r:=x.r0) (b:=true) ⟨⟨rfl,rfl,rfl⟩,trivial⟩ k0) (af (bv (n:=4) (r:=x.r1) (b:=true) ⟨⟨rfl,rfl,rfl⟩,trivial⟩ k1) (af (bv (n:=7) (r:=x.r2) (b:=true) ⟨⟨rfl,rfl,rfl⟩,trivial⟩ k2) (af (bv (n:=10) (r:=x.r3) (b:=true) ⟨⟨rfl,rfl,rfl⟩,trivial⟩ k3) (af (bv (n:=13) (r:=x.r4) (b:=false) ⟨⟨rfl,rfl,rfl⟩,trivial⟩ k4) ai)))))
  aj (by kernel_rfl) Tryz.func9 (by kernel_rfl) aC ⟨(aM (ns:=[1,4,7,10,13,16,19]) (rs:=x.rs) ⟨⟨rfl,rfl,rfl⟩,⟨rfl,rfl,rfl⟩,⟨rfl,rfl,rfl⟩,⟨rfl,rfl,rfl⟩,⟨rfl,rfl,rfl⟩,⟨rfl,rfl,rfl⟩,⟨rfl,rfl,rfl⟩,trivial⟩).2 i,trivial⟩).mono ?_
 rintro e w' ⟨v,rfl,h1,h2⟩
 have e1:v= .bool false:=h1
 subst e1
 exact⟨rfl,h2⟩
def xq_fit5X (x:RSt) (v:Value):List Fq:=[]
theorem q_fit5 {w:World} (x:RSt) (v:Value) (i:IsL w v x.rs) (k0:x.r0.tw=true) (k1:x.r1.tw=true) (k2:x.r2.tw=true) (k3:x.r3.tw=true) (k4:x.r4.tw=true) (k5:x.r5.tw=false):
  Calls Tryz.prog 9 #[v] w fun e w'=>e= .returned (.bool false)∧Below w.heap.size w w':=by
 refine(bu (ρ:=frs (xq_fit5X x v)++([.val (.int .i64 x.tm),.val (.bool x.r0.s),.dig x.r0.L x.r0.p,.dig x.r0.N x.r0.q,.val (.bool x.r1.s),.dig x.r1.L x.r1.p,.dig x.r1.N x.r1.q,.val (.bool x.r2.s),.dig x.r2.L x.r2.p,.dig x.r2.N x.r2.q,.val (.bool x.r3.s),.dig x.r3.L x.r3.p,.dig x.r3.N x.r3.q,.val (.bool x.r4.s),.dig x.r4.L x.r4.p,.dig x.r4.N x.r4.q,.val (.bool x.r5.s),.dig x.r5.L x.r5.p,.dig x.r5.N x.r5.q,.val (.bool x.r6.s),.dig x.r6.L x.r6.p,.dig x.r6.N x.r6.q]:List Vp)) (w:=w) (fuel:=300) (args:=[.agg [.ref 1,.ref 2,.ref 3,.ref 4,.ref 5,.ref 6,.ref 7,.ref 8,.ref 9,.ref 10,.ref 11,.ref 12,.ref 13,.ref 14,.ref 15,.ref 16,.ref 17,.ref 18,.ref 19,.ref 20,.ref 21]]) (vs:=[v]) (r:=.v (.one (.b false))) (lo:=[]) (obs:=[])
  (af (bv (n:=1) (r:=x.r0) (b:=true) ⟨⟨rfl,rfl,rfl⟩,trivial⟩ k0) (af (bv (n:=4) (r:=x.r1) (b:=true) ⟨⟨rfl,rfl,rfl⟩,trivial⟩ k1) (af (bv (n:=7) (r:=x.r2) (b:=true) ⟨⟨rfl,rfl,rfl⟩,trivial⟩ k2) (af (bv (n:=10) (r:=x.r3) (b:=true) ⟨⟨rfl,rfl,rfl⟩,trivial⟩ k3) (af (bv (n:=13) (r:=x.r4) (b:=true) ⟨⟨rfl,rfl,rfl⟩,trivial⟩ k4) (af (bv (n:=16) (r:=x.r5) (b:=false) ⟨⟨rfl,rfl,rfl⟩,trivial⟩ k5) ai))))))
  aj (by kernel_rfl) Tryz.func9 (by kernel_rfl) aC ⟨(aM (ns:=[1,4,7,10,13,16,19]) (rs:=x.rs) ⟨⟨rfl,rfl,rfl⟩,⟨rfl,rfl,rfl⟩,⟨rfl,rfl,rfl⟩,⟨rfl,rfl,rfl⟩,⟨rfl,rfl,rfl⟩,⟨rfl,rfl,rfl⟩,⟨rfl,rfl,rfl⟩,trivial⟩).2 i,trivial⟩).mono ?_
 rintro e w' ⟨v,rfl,h1,h2⟩
 have e1:v= .bool false:=h1
 subst e1
 exact⟨rfl,h2⟩
def xq_fit6X (x:RSt) (v:Value):List Fq:=[]
theorem q_fit6 {w:World} (x:RSt) (v:Value) (i:IsL w v x.rs) (k0:x.r0.tw=true) (k1:x.r1.tw=true) (k2:x.r2.tw=true) (k3:x.r3.tw=true) (k4:x.r4.tw=true) (k5:x.r5.tw=true) (k6:x.r6.tw=false):
  Calls Tryz.prog 9 #[v] w fun e w'=>e= .returned (.bool false)∧Below w.heap.size w w':=by
 refine(bu (ρ:=frs (xq_fit6X x v)++([.val (.int .i64 x.tm),.val (.bool x.r0.s),.dig x.r0.L x.r0.p,.dig x.r0.N x.r0.q,.val (.bool x.r1.s),.dig x.r1.L x.r1.p,.dig x.r1.N x.r1.q,.val (.bool x.r2.s),.dig x.r2.L x.r2.p,.dig x.r2.N x.r2.q,.val (.bool x.r3.s),.dig x.r3.L x.r3.p,.dig x.r3.N x.r3.q,.val (.bool x.r4.s),.dig x.r4.L x.r4.p,.dig x.r4.N x.r4.q,.val (.bool x.r5.s),.dig x.r5.L x.r5.p,.dig x.r5.N x.r5.q,.val (.bool x.r6.s),.dig x.r6.L x.r6.p,.dig x.r6.N x.r6.q]:List Vp)) (w:=w) (fuel:=300) (args:=[.agg [.ref 1,.ref 2,.ref 3,.ref 4,.ref 5,.ref 6,.ref 7,.ref 8,.ref 9,.ref 10,.ref 11,.ref 12,.ref 13,.ref 14,.ref 15,.ref 16,.ref 17,.ref 18,.ref 19,.ref 20,.ref 21]]) (vs:=[v]) (r:=.v (.one (.b false))) (lo:=[]) (obs:=[])
  (af (bv (n:=1) (r:=x.r0) (b:=true) ⟨⟨rfl,rfl,rfl⟩,trivial⟩ k0) (af (bv (n:=4) (r:=x.r1) (b:=true) ⟨⟨rfl,rfl,rfl⟩,trivial⟩ k1) (af (bv (n:=7) (r:=x.r2) (b:=true) ⟨⟨rfl,rfl,rfl⟩,trivial⟩ k2) (af (bv (n:=10) (r:=x.r3) (b:=true) ⟨⟨rfl,rfl,rfl⟩,trivial⟩ k3) (af (bv (n:=13) (r:=x.r4) (b:=true) ⟨⟨rfl,rfl,rfl⟩,trivial⟩ k4) (af (bv (n:=16) (r:=x.r5) (b:=true) ⟨⟨rfl,rfl,rfl⟩,trivial⟩ k5) (af (bv (n:=19) (r:=x.r6) (b:=false) ⟨⟨rfl,rfl,rfl⟩,trivial⟩ k6) ai)))))))
  aj (by kernel_rfl) Tryz.func9 (by kernel_rfl) aC ⟨(aM (ns:=[1,4,7,10,13,16,19]) (rs:=x.rs) ⟨⟨rfl,rfl,rfl⟩,⟨rfl,rfl,rfl⟩,⟨rfl,rfl,rfl⟩,⟨rfl,rfl,rfl⟩,⟨rfl,rfl,rfl⟩,⟨rfl,rfl,rfl⟩,⟨rfl,rfl,rfl⟩,trivial⟩).2 i,trivial⟩).mono ?_
 rintro e w' ⟨v,rfl,h1,h2⟩
 have e1:v= .bool false:=h1
 subst e1
 exact⟨rfl,h2⟩
def xq_fit7X (x:RSt) (v:Value):List Fq:=[]
theorem q_fit7 {w:World} (x:RSt) (v:Value) (i:IsL w v x.rs) (k0:x.r0.tw=true) (k1:x.r1.tw=true) (k2:x.r2.tw=true) (k3:x.r3.tw=true) (k4:x.r4.tw=true) (k5:x.r5.tw=true) (k6:x.r6.tw=true):
  Calls Tryz.prog 9 #[v] w fun e w'=>e= .returned (.bool true)∧Below w.heap.size w w':=by
 refine(bu (ρ:=frs (xq_fit7X x v)++([.val (.int .i64 x.tm),.val (.bool x.r0.s),.dig x.r0.L x.r0.p,.dig x.r0.N x.r0.q,.val (.bool x.r1.s),.dig x.r1.L x.r1.p,.dig x.r1.N x.r1.q,.val (.bool x.r2.s),.dig x.r2.L x.r2.p,.dig x.r2.N x.r2.q,.val (.bool x.r3.s),.dig x.r3.L x.r3.p,.dig x.r3.N x.r3.q,.val (.bool x.r4.s),.dig x.r4.L x.r4.p,.dig x.r4.N x.r4.q,.val (.bool x.r5.s),.dig x.r5.L x.r5.p,.dig x.r5.N x.r5.q,.val (.bool x.r6.s),.dig x.r6.L x.r6.p,.dig x.r6.N x.r6.q]:List Vp)) (w:=w) (fuel:=300) (args:=[.agg [.ref 1,.ref 2,.ref 3,.ref 4,.ref 5,.ref 6,.ref 7,.ref 8,.ref 9,.ref 10,.ref 11,.ref 12,.ref 13,.ref 14,.ref 15,.ref 16,.ref 17,.ref 18,.ref 19,.ref 20,.ref 21]]) (vs:=[v]) (r:=.v (.one (.b true))) (lo:=[]) (obs:=[])
  (af (bv (n:=1) (r:=x.r0) (b:=true) ⟨⟨rfl,rfl,rfl⟩,trivial⟩ k0) (af (bv (n:=4) (r:=x.r1) (b:=true) ⟨⟨rfl,rfl,rfl⟩,trivial⟩ k1) (af (bv (n:=7) (r:=x.r2) (b:=true) ⟨⟨rfl,rfl,rfl⟩,trivial⟩ k2) (af (bv (n:=10) (r:=x.r3) (b:=true) ⟨⟨rfl,rfl,rfl⟩,trivial⟩ k3) (af (bv (n:=13) (r:=x.r4) (b:=true) ⟨⟨rfl,rfl,rfl⟩,trivial⟩ k4) (af (bv (n:=16) (r:=x.r5) (b:=true) ⟨⟨rfl,rfl,rfl⟩,trivial⟩ k5) (af (bv (n:=19) (r:=x.r6) (b:=true) ⟨⟨rfl,rfl,rfl⟩,trivial⟩ k6) ai)))))))
  aj (by kernel_rfl) Tryz.func9 (by kernel_rfl) aC ⟨(aM (ns:=[1,4,7,10,13,16,19]) (rs:=x.rs) ⟨⟨rfl,rfl,rfl⟩,⟨rfl,rfl,rfl⟩,⟨rfl,rfl,rfl⟩,⟨rfl,rfl,rfl⟩,⟨rfl,rfl,rfl⟩,⟨rfl,rfl,rfl⟩,⟨rfl,rfl,rfl⟩,trivial⟩).2 i,trivial⟩).mono ?_
 rintro e w' ⟨v,rfl,h1,h2⟩
 have e1:v= .bool true:=h1
 subst e1
 exact⟨rfl,h2⟩
theorem q_fit {w:World} (x:RSt) (v:Value) (i:IsL w v x.rs):Calls Tryz.prog 9 #[v] w fun e w'=>e= .returned (.bool x.tw)∧Below w.heap.size w w':=by
 rcases Bool.eq_false_or_eq_true x.r0.tw with k0 | k0
 case inr=>rw[show x.tw=false by simp[RSt.tw,k0]];exact q_fit0 x v i k0
 rcases Bool.eq_false_or_eq_true x.r1.tw with k1 | k1
 case inr=>rw[show x.tw=false by simp[RSt.tw,k0,k1]];exact q_fit1 x v i k0 k1
 rcases Bool.eq_false_or_eq_true x.r2.tw with k2 | k2
 case inr=>rw[show x.tw=false by simp[RSt.tw,k0,k1,k2]];exact q_fit2 x v i k0 k1 k2
 rcases Bool.eq_false_or_eq_true x.r3.tw with k3 | k3
 case inr=>rw[show x.tw=false by simp[RSt.tw,k0,k1,k2,k3]];exact q_fit3 x v i k0 k1 k2 k3
 rcases Bool.eq_false_or_eq_true x.r4.tw with k4 | k4
 case inr=>rw[show x.tw=false by simp[RSt.tw,k0,k1,k2,k3,k4]];exact q_fit4 x v i k0 k1 k2 k3 k4
 rcases Bool.eq_false_or_eq_true x.r5.tw with k5 | k5
 case inr=>rw[show x.tw=false by simp[RSt.tw,k0,k1,k2,k3,k4,k5]];exact q_fit5 x v i k0 k1 k2 k3 k4 k5
 rcases Bool.eq_false_or_eq_true x.r6.tw with k6 | k6
 case inr=>rw[show x.tw=false by simp[RSt.tw,k0,k1,k2,k3,k4,k5,k6]];exact q_fit6 x v i k0 k1 k2 k3 k4 k5 k6
 rw[show x.tw=true by simp[RSt.tw,k0,k1,k2,k3,k4,k5,k6]];exact q_fit7 x v i k0 k1 k2 k3 k4 k5 k6
theorem uh {ρ:Rho} {ns:List Nat} {x:RSt} {b:Bool} (hr:AtR ρ ns x.rs) (hb:x.tw=b):Inst.Ok Tryz.prog ρ ⟨9,[cP ns],.v (.one (.b b))⟩:=
 ⟨aA Tryz.func9 rfl rfl,fun B w vs hB h=>by
  match vs,h with
  | [v],h=>
   refine(q_fit x v ((aM hr).1 h.1)).mono ?_
   rintro e w' ⟨rfl,h2⟩
   exact⟨_,rfl,by subst hb;rfl,h2⟩⟩
end Go.Proofs.YtfhinmdhjlmikaaGreat
namespace Go.Proofs.YtfhinmdhjlmikaaGreat
set_option linter.unusedSimpArgs false
set_option linter.unusedVariables false
set_option maxRecDepth 100000
open Go.RowKit
theorem Pq.good.btw {a b:Pq} {m:Fq} (ga:a.good) (gb:b.good) (gm:m.valid=true):(Pq.mk (a.rot.way (a.rot.inv.mul b.rot) m) (a.pos.lerp b.pos m)).good:=Pq.good.mk (way_good ga.rot (gW (bJ ga.rot) gb.rot).comp gm) (ga.pos.lerp gb.pos gm)
theorem road_z {S:List St} {a:Int} {z y:St} {c:Int} (hS:GoodS S) (h:Road S a z y c) (h0:c=0):GoodT z∧GoodT y∧z.tm≤a∧a≤y.tm∧(z.tm=y.tm→z=y):=by
 cases h with
 | E _=>omega
 | O1 _ _ _ _=>omega
 | O2 _ _ _ _ _ _ _=>omega
 | Q f hf hb l hl hn ha y hy ey hp eq1=>exact⟨hS.at hy,hS.at hy,by omega,by omega,fun _=>rfl⟩
 | M f hf hb l hl hn ha y hy ey hp h1 eq1 z hz=>
  obtain⟨z',h2,h3⟩:=dl (S:=S) (a:=a) (k:=plN S a - 1) (by omega)
  rw[hz]at h2;injection h2 with h2;subst h2
  exact⟨hS.at hz,hS.at hy,by omega,by omega,by omega⟩
theorem r8 {S:List St} {a:Int} {z y:St} (hS:GoodS S) (h:Road S a z y 0):(atP z y 0 a).good∧(atP z y 0 a).ok 1000000:=by
 obtain⟨gz,gy,h1,h2,_⟩:=road_z hS h rfl
 unfold atP
 rw[if_neg (by omega)]
 split
 ·exact⟨gy.good,gy.ok.mono (by decide)⟩
 ·have zl:=gz.lo;have yh:=gy.hi
  have v:=dM (v:=a - z.tm) (u:=y.tm - z.tm) (by omega)
  have k:=eF (v:=a - z.tm) (u:=y.tm - z.tm) (by omega) (by omega) (by omega) (by omega) (by omega)
  exact⟨Pq.good.btw gz.good gy.good v,⟨(oY gz.ok.rot gy.ok.rot k gz.good.rot gy.good.rot v).mono (by decide),(gz.ok.pos.lerp gy.ok.pos k).mono (by decide)⟩⟩
section
variable {xs:List Fq} {ys:Rho} {n m m' u n0 n1:Nat} {k:Nat} {ks kr k0 k1:List Nat} {l la lc:Leaf} {S S':List St} {a c t:Int} {z y s:St} {r:SV}
theorem st_isC {ρ:Rho} {B:Blk} {w:World} {v:Value} {xs:List Fq} {ys:Rho} {ks:List Nat} {s:St} (ha:AtL xs ks s.pose.cs) (ht:s.tm=t):(SV.agg (.i .i64 t::bd ks)).holds (frs xs++ys) B w v↔ce w v s:=by
 constructor
 ·rintro⟨vs,rfl,h⟩
  match vs,h with
  | v0::vs,h=>
   have e:v0= .int .i64 t:=h.1
   subst e;subst ht
   exact⟨vs,rfl,(eU ha).1 h.2⟩
 ·rintro⟨cs,rfl,h⟩
  subst ht
  exact⟨.int .i64 s.tm::cs,rfl,rfl,(eU ha).2 h⟩
/-- Add of a stamp that is known. -/
theorem r9 (hm:(frs xs++ys)[m]? =some (.row stT S.length (az S))) (hm':(frs xs++ys)[m']? =some (.row stT S'.length (az S'))) (ha:AtL xs ks s.pose.cs) (ht:s.tm=t) (he:iZ S s=(S',c)) (hs:s.pose.ok 2) (gs:s.pose.good) (hS:GoodS S):
  (OIns.mk (.mut 14 ⟨[k],[(u,79,[.own k m])],[(u,79,[.own k m'])],none,[],[.one (.i .i64 c)]⟩) [.one (.ptr u 0),.agg (.i .i64 t::bd ks)] r).Ok Tryz.prog (frs xs++ys):=
 lZ (args:=[.agg (.i .i64 t::bd ks)]) (aA Tryz.func14 rfl rfl) hm hm' (fun B w g sl vs _ ht' hv=>by
  match vs,hv with
  | [v],hv=>
   refine(q_Add S s v ht' ((st_isC (ρ:=ys) ha ht).1 hv.1) hs gs hS).mono ?_
   rw[he]
   rintro e w' ⟨rfl,h3⟩
   exact⟨_,rfl,fun B'=>rfl,h3⟩)
theorem I_AtS (tl:go (frs xs++ys) u 79 l S) (ka:KI (frs xs++ys) la .i64 a) (hS:GoodS S) (hr:Road S a z y c) (ar:AtL xs kr (atP z y c a).cs) (hlc:∀B w,lc.holds (frs xs++ys) B w (.int .i64 c)):
  (OIns.mk (.mut 12 ⟨[],[(u,79,[l])],[],none,[],[row kr,.one lc]⟩) [.one (.ptr u 0),.one la] r).Ok Tryz.prog (frs xs++ys):=
 bV (args:=[.one la]) (aA Tryz.func12 rfl rfl) tl (fun B w g sl vs _ ht hv=>by
  match vs,hv with
  | [v],hv=>
   have e:=ka _ _ _ hv.1
   subst e
   refine(q_AtS ht hS hr).mono ?_
   rintro e w' ⟨v0,rfl,h1,h2⟩
   exact⟨_,rfl,fun B' _=>⟨[v0,.int .i64 c],rfl,(ag ar).2 h1,hlc _ _,trivial⟩,h2⟩)
end
/-- Poses that agree, as they lie in memory. -/
theorem I_rpEqR {ρ:Rho} {ns ns':List Nat} {s:St} (hr:AtR ρ ns s.raw.rs) (hr':AtR ρ ns' s.raw.rs) (hs:s.pose.ok 2):Inst.Ok Tryz.prog ρ ⟨15,[cP ns,cP ns'],.v (.one (.b true))⟩:=
 ⟨aA Tryz.func15 rfl rfl,fun B w vs hB h=>by
  match vs,h with
  | [v,v'],h=>
   refine(kM v v' s.pose s.pose w ((aM hr).1 h.1) ((aM hr').1 h.2.1) (hs.mono (by decide)) (hs.mono (by decide)) rfl).mono ?_
   rintro e w' ⟨rfl,h2⟩
   exact⟨_,rfl,rfl,h2⟩⟩
end Go.Proofs.YtfhinmdhjlmikaaGreat
