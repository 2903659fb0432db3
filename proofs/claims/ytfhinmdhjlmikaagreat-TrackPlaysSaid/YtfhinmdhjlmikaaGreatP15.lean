/- Tracks: calls of methods of tracks, of Clone and of Insert, as an executor meets them. Tracks: places of times in a list of stamps; walks with one answer. Tracks: ratios of numbers; the clones of fractions and of stamps. Tracks: clones, opposite rotations, places. -/
import Derived.Test.YtfhinmdhjlmikaaGreatP14
namespace Go.Proofs.YtfhinmdhjlmikaaGreat
set_option linter.unusedSimpArgs false
set_option linter.unusedVariables false
set_option maxRecDepth 100000
open Go.RowKit
section
variable {ρ:Rho} {n m m' k r j u:Nat} {T:TypeId} {B:Blk} {w:World} {S S':List St} {f:FuncId} {args xs:List SV} {l:Leaf}
theorem rK {g:Nat} (hi:BInj B) (hg:B.v u=some g) (hv:nz ρ B w (u,T,[.own k m])) (hm:ρ[m]? =some (.row stT S.length (az S))):∃sl,TrkS T w g sl S∧∀b,sl.ownBlock=some b→B.o k b:=by
 obtain⟨g',cs,e1,e2,e3,_⟩:=hv
 rw[hg]at e1;injection e1 with e1;subst e1
 have hcs:∃sl,cs.toList=[sl]∧(Leaf.own k m).holds ρ B w sl:=by
  match hc:cs.toList,e3 with
  | [sl],e3=>exact⟨sl,rfl,e3.1⟩
  | [],e3=>exact e3.elim
  | _::_::_,e3=>exact e3.2.elim
 obtain⟨sl,h2,h3⟩:=hcs
 have hcs:cs=#[sl]:=by rw[←Array.toList_inj];exact h2
 subst hcs
 obtain⟨k1,_,k3⟩:=g7 hm h3
 exact⟨sl,⟨e2,k1,fun b hb e=>by subst e;exact hi.vo _ _ _ hg (k3 _ hb)⟩,k3⟩
theorem xZ {y:Value} (h:fT y):∀(k:Nat) (n:Int),(#[y]:Array Value)[k]? ≠some (.int .u32 n):=fun k n hk=>by
 cases k with
 | zero=>simp at hk;exact h.2.2 n hk
 | succ k=>simp at hk
/-- A method that may change its track. -/
theorem lZ (hen:∀(vs:Array Value) (w:World),(callFunc f vs).run Tryz.prog w= .ok (.enter f vs) w) (hm:ρ[m]? =some (.row stT S.length (az S))) (hm':ρ[m']? =some (.row stT S'.length (az S'))) {r:SV}
  (h:∀B w g sl vs,BOk B w.heap.size→TrkS T w g sl S→cG ρ B w args vs→Calls Tryz.prog f (.pointer (some ⟨g,0,none⟩)::vs).toArray w (fun e w'=>∃v,e= .returned v∧(∀B',(sK xs).holds ρ B' w' v)∧TrkM T w g sl S' w')):
  (OIns.mk (.mut f ⟨[k],[(u,T,[.own k m])],[(u,T,[.own k m'])],none,[],xs⟩) (.one (.ptr u 0)::args) r).Ok Tryz.prog ρ:=fun B w vs hv=>by
 match vs,hv with
 | v0::vs,hv=>
  obtain⟨g,hg,rfl⟩:=hv.1
  refine⟨hen _ _,fun hbok hinj ho hov _ hpre=> ?_⟩
  obtain⟨sl,ht,hsl⟩:=rK hinj hg (hpre (u,T,[.own k m]) (List.mem_singleton.2 rfl)) hm
  refine(h B w g sl vs hbok ht hv.2).mono ?_
  rintro e w' ⟨v,rfl,hres,⟨sl',ht',hblk⟩,hk⟩
  have hold:∀b,sl'.ownBlock=some b→B.o k b∨(w.heap.size≤b∧dn w' b):=fun b hb=>(hblk b hb).imp (hsl b) id
  refine⟨v,⟨B.v,fun l b=>B.o l b∨(l=k∧sl'.ownBlock=some b)⟩,rfl,hres _,fun q hq=>(by cases hq),fun q hq=> ?_,fun q hq=>(by cases hq),hk.os,hk.tape,hk.output,fun _ _=>rfl,fun q g hq=>(by cases hq),fun l b hb=>.inl hb,fun l b hb=> ?_,fun l b hl hb=> ?_,⟨hinj.v,fun l l' b h1 h2=> ?_,fun x l b h1 h2=> ?_⟩,⟨hk.size,fun b hb hX=> ?_,fun b hX=> ?_⟩⟩
  ·simp only[List.mem_singleton]at hq
   subst hq
   exact⟨g,#[sl'],hg,ht'.blk,⟨row_own hm' ht'.row (fun b hb=>.inr ⟨rfl,hb⟩),trivial⟩,xZ ((Vp.row stT S'.length (az S')).fl _ _ ht'.row)⟩
  ·rcases hb with hb | ⟨rfl,hb⟩
   ·exact .inl hb
   ·exact(hold b hb).imp id (fun h=>⟨by simp,h.1⟩)
  ·have e:l=k:=by simpa using hl
   subst e
   have hun:B.o l b→dn w' b:=fun hb=>by
    have h1:=ho l b hb
    exact h1.blk (hk.block b h1.1 (fun e=>by have e:b=g:=e;subst e;exact hinj.vo _ _ _ hg hb)) hk.size
   rcases hb with hb | ⟨_,hb⟩
   ·exact hun hb
   ·rcases hold b hb with hb | hb
    ·exact hun hb
    ·exact hb.2
  ·rcases h1 with h1 | ⟨e1,h1⟩<;>rcases h2 with h2 | ⟨e2,h2⟩
   ·exact hinj.o _ _ _ h1 h2
   ·rcases hold b h2 with h | h
    ·rw[e2];exact hinj.o _ _ _ h1 h
    ·have:=hbok b (.inr ⟨l,h1⟩);omega
   ·rcases hold b h1 with h | h
    ·rw[e1];exact hinj.o _ _ _ h h2
    ·have:=hbok b (.inr ⟨l',h2⟩);omega
   ·rw[e1,e2]
  ·rcases h2 with h2 | ⟨_,h2⟩
   ·exact hinj.vo _ _ _ h1 h2
   ·rcases hold b h2 with h | h
    ·exact hinj.vo _ _ _ h1 h
    ·have:=hbok b (.inl ⟨x,h1⟩);omega
  ·exact hk.block b hb (fun e=>hX (.inr ⟨(u,T,[.own k m']),List.mem_singleton.2 rfl,by rw[show b=g from e];exact hg⟩))
  ·rcases hX with⟨l,_,hb⟩ | ⟨q,hq,hb⟩
   ·exact ho l b hb
   ·exact hov _ b hb
/-- A function that makes a track. -/
theorem x6 (hen:∀(vs:Array Value) (w:World),(callFunc f vs).run Tryz.prog w= .ok (.enter f vs) w) (hm:ρ[m]? =some (.row stT S.length (az S))) {r:SV}
  (h:∀B w vs,BOk B w.heap.size→cG ρ B w args vs→Calls Tryz.prog f vs.toArray w (fun e w'=>∃v g sl,e= .returned v∧(∀B',B'.v u=some g→(sK xs).holds ρ B' w' v)∧w.heap.size≤g∧TrkS T w' g sl S∧(∀b,sl.ownBlock=some b→w.heap.size≤b∧dn w' b)∧Below w.heap.size w w')):(OIns.mk (.mut f ⟨[k],[],[],some (u,T,[.own k m]),[],xs⟩) args r).Ok Tryz.prog ρ:=fun B w vs hv=>by
 refine⟨hen _ _,fun hbok hinj ho hov hnv _=> ?_⟩
 refine(h B w vs hbok hv).mono ?_
 rintro e w' ⟨v,g,sl,rfl,hres,hge,ht,hsl,hb⟩
 have hnone:=hnv _ rfl
 simp only at hnone
 refine⟨v,⟨fun x=>if x=u then some g else B.v x,fun l b=>B.o l b∨(l=k∧sl.ownBlock=some b)⟩,rfl,hres _ (by simp),fun q hq=>(by cases hq),fun q hq=>(by cases hq),fun q hq=> ?_,hb.os,hb.tape,hb.output,fun x hx=> ?_,fun q b hq hB=> ?_,fun l b hb=>.inl hb,fun l b hb'=> ?_,fun l b hl hb'=> ?_,⟨fun x y b h1 h2=> ?_,fun l l' b h1 h2=> ?_,fun x l b h1 h2=> ?_⟩,⟨hb.size,fun b hl _=>hb.block b hl,fun b hX=> ?_⟩⟩
 ·have e:(u,T,[Leaf.own k m])=q:=Option.some.inj hq
  subst e
  exact⟨g,#[sl],by simp,ht.blk,⟨row_own hm ht.row (fun b hb=>.inr ⟨rfl,hb⟩),trivial⟩,xZ ((Vp.row stT S.length (az S)).fl _ _ ht.row)⟩
 ·have:=hx _ rfl
  simp[this]
 ·have e:(u,T,[Leaf.own k m])=q:=Option.some.inj hq
  subst e
  simp only[if_true,Option.some.injEq]at hB
  omega
 ·rcases hb' with hb' | ⟨rfl,hb'⟩
  ·exact .inl hb'
  ·exact .inr ⟨by simp,(hsl b hb').1⟩
 ·rcases hb' with hb' | ⟨_,hb'⟩
  ·have h1:=ho l b hb'
   exact h1.blk (hb.block b h1.1) hb.size
  ·exact(hsl b hb').2
 ·by_cases e:x=u<;>by_cases e':y=u
  ·rw[e,e']
  ·simp only[e,e',if_true,if_false,Option.some.injEq]at h1 h2
   have:=hbok b (.inl ⟨y,h2⟩);omega
  ·simp only[e,e',if_true,if_false,Option.some.injEq]at h1 h2
   have:=hbok b (.inl ⟨x,h1⟩);omega
  ·simp only[e,e',if_false]at h1 h2
   exact hinj.v _ _ _ h1 h2
 ·rcases h1 with h1 | ⟨e1,h1⟩<;>rcases h2 with h2 | ⟨e2,h2⟩
  ·exact hinj.o _ _ _ h1 h2
  ·have:=hbok b (.inr ⟨l,h1⟩);have:=(hsl b h2).1;omega
  ·have:=hbok b (.inr ⟨l',h2⟩);have:=(hsl b h1).1;omega
  ·rw[e1,e2]
 ·by_cases e:x=u
  ·simp only[e,if_true,Option.some.injEq]at h1
   subst h1
   rcases h2 with h2 | ⟨_,h2⟩
   ·have:=hbok g (.inr ⟨l,h2⟩);omega
   ·exact ht.ne g h2 rfl
  ·simp only[e,if_false]at h1
   rcases h2 with h2 | ⟨_,h2⟩
   ·exact hinj.vo _ _ _ h1 h2
   ·have:=hbok b (.inl ⟨x,h1⟩);have:=(hsl b h2).1;omega
 ·rcases hX with⟨l,hl,hb'⟩ | ⟨q,hq,_⟩
  ·exact ho l b hb'
  ·cases hq
/-- A function that makes a row. -/
theorem row_new {s:Vp} (hen:∀(vs:Array Value) (w:World),(callFunc f vs).run Tryz.prog w= .ok (.enter f vs) w) (hm:ρ[m]? =some s) {r:SV} (hfp:∀w y g,s.fp w y g→y.ownBlock=some g)
  (h:∀B w vs,BOk B w.heap.size→cG ρ B w args vs→Calls Tryz.prog f vs.toArray w (fun e w'=>∃v,e= .returned v∧s.p w' v∧(∀b,v.ownBlock=some b→w.heap.size≤b∧dn w' b)∧Below w.heap.size w w')):
  (OIns.mk (.mut f ⟨[k],[],[],none,[],[.one (.own k m)]⟩) args r).Ok Tryz.prog ρ:=fun B w vs hv=>by
 refine⟨hen _ _,fun hbok hinj ho hov _ _=> ?_⟩
 refine(h B w vs hbok hv).mono ?_
 rintro e w' ⟨v,rfl,hp,hsl,hb⟩
 refine⟨v,⟨B.v,fun l b=>B.o l b∨(l=k∧v.ownBlock=some b)⟩,rfl,⟨s,hm,hp,fun g hg=>.inr ⟨rfl,hfp _ _ _ hg⟩,fun g hg=>.inr ⟨rfl,hg⟩⟩,fun q hq=>(by cases hq),fun q hq=>(by cases hq),fun q hq=>(by cases hq),hb.os,hb.tape,hb.output,fun _ _=>rfl,fun q b hq=>(by cases hq),fun l b hb=>.inl hb,fun l b hb'=> ?_,fun l b hl hb'=> ?_,⟨hinj.v,fun l l' b h1 h2=> ?_,fun x l b h1 h2=> ?_⟩,⟨hb.size,fun b hl _=>hb.block b hl,fun b hX=> ?_⟩⟩
 ·rcases hb' with hb' | ⟨rfl,hb'⟩
  ·exact .inl hb'
  ·exact .inr ⟨by simp,(hsl b hb').1⟩
 ·rcases hb' with hb' | ⟨_,hb'⟩
  ·have h1:=ho l b hb'
   exact h1.blk (hb.block b h1.1) hb.size
  ·exact(hsl b hb').2
 ·rcases h1 with h1 | ⟨e1,h1⟩<;>rcases h2 with h2 | ⟨e2,h2⟩
  ·exact hinj.o _ _ _ h1 h2
  ·have:=hbok b (.inr ⟨l,h1⟩);have:=(hsl b h2).1;omega
  ·have:=hbok b (.inr ⟨l',h2⟩);have:=(hsl b h1).1;omega
  ·rw[e1,e2]
 ·rcases h2 with h2 | ⟨_,h2⟩
  ·exact hinj.vo _ _ _ h1 h2
  ·have:=hbok b (.inl ⟨x,h1⟩);have:=(hsl b h2).1;omega
 ·rcases hX with⟨l,hl,hb'⟩ | ⟨q,hq,_⟩
  ·exact ho l b hb'
  ·cases hq
theorem rL {sz L:Nat} {qs:List Vp}:∀w y g,(Vp.ownr T sz L qs).fp w y g→y.ownBlock=some g:=fun _ _ _ h=>h
theorem vY {sz L:Nat} {qs:List Vp} {y:Value} (h:(Vp.ownr T sz L qs).p w y):∀b,y.ownBlock=some b→dn w b:=fun b hb=>by
 obtain⟨xs,⟨_,h0⟩,_⟩:=h
 exact(h0 b hb).x
/-- A leaf that is a row of stamps. -/
def RowL (ρ:Rho) (l:Leaf) (S:List St):Prop:=∀B w y,l.holds ρ B w y→(Vp.row stT S.length (az S)).p w y
theorem fq {sl:Value} {pin:Bool} (h:ρ[n]? =some (.rowB pin sl stT S.length (az S))):RowL ρ (.ref n) S:=fun _ _ _ hy=>(kP h hy).1
theorem rl_o (h:ρ[n]? =some (.row stT S.length (az S))):RowL ρ (.own j n) S:=fun _ _ _ hy=>(g7 h hy).1
theorem dk {r:SV} (hl:RowL ρ l S) (hm:ρ[m]? =some (.ownr stT 22 S.length (az S))) (hS:S.length≤1000000):(OIns.mk (.mut 49 ⟨[k],[],[],none,[],[.one (.own k m)]⟩) [.one l] r).Ok Tryz.prog ρ:=
 row_new (aA Tryz.func49 rfl rfl) hm rL (fun B w vs _ hv=>by
  match vs,hv with
  | [v],hv=>
   refine(q_CloneS v S w (hl _ _ _ hv.1) hS).mono ?_
   rintro e w' ⟨v',rfl,h1,h2,h3⟩
   exact⟨v',rfl,h1,fun b hb=>⟨h2 b hb,vY h1 b hb⟩,h3⟩)
/-- Insert of a stamp into a row of the call's own. -/
theorem zz {r:SV} {s:St} {xn i:Nat} {il:Leaf} (hn:ρ[n]? =some (.ownr stT 22 S.length (az S))) (hx:ρ[xn]? =some (.row stT 1 s.qs)) (hi:KI ρ il .i64 (i:Int)) (hm:ρ[m]? =some (.ownr stT 22 (S.length+1) (az (S.take i++s::S.drop i)))) (hle:i≤S.length) (hS:S.length≤1000000):
  (OIns.mk (.mut 48 ⟨[k],[],[],none,[],[.one (.own k m)]⟩) [.one (.own k n),.one il,.one (.ref xn)] r).Ok Tryz.prog ρ:=fun B w vs hv=>by
 match vs,hv with
 | [v,iv,xv],hv=>
  have e:=hi _ _ _ hv.2.1
  subst e
  obtain⟨h1,_,h3⟩:=g7 hn hv.1
  obtain⟨s',k1,k2,k3⟩:=hv.2.2.1
  rw[hx]at k1;injection k1 with k1;subst k1
  refine⟨aA Tryz.func48 rfl rfl _ _,fun hbok hinj ho hov _ _=> ?_⟩
  refine(zx v xv S s i w h1 k2 (fun g hg a n c e hag=> ?_) hle hS).mono ?_
  ·subst e
   have hsp:=lY k2 _ _ _ rfl
   obtain⟨ab,ao,asp⟩:=a
   simp only at hsp hag;subst hsp;subst hag
   exact k3 ab ⟨_,_,_,rfl⟩ (.inr ⟨k,h3 _ hg⟩)
  ·rintro e w' ⟨v',rfl,h5,hg,hold,hblk⟩
   have hsl:∀b,v'.ownBlock=some b→B.o k b∨w.heap.size≤b:=fun b hb=>(hblk b hb).imp (h3 b) id
   refine⟨v',⟨B.v,fun l b=>B.o l b∨(l=k∧v'.ownBlock=some b)⟩,rfl,⟨_,hm,h5,fun g hg=>.inr ⟨rfl,hg⟩,fun g hg=>.inr ⟨rfl,hg⟩⟩,fun q hq=>(by cases hq),fun q hq=>(by cases hq),fun q hq=>(by cases hq),hg.os,hg.tape,hg.output,fun _ _=>rfl,fun q b hq=>(by cases hq),fun l b hb=>.inl hb,fun l b hb'=> ?_,fun l b hl hb'=> ?_,⟨hinj.v,fun l l' b h1 h2=> ?_,fun x l b h1 h2=> ?_⟩,⟨hg.size,fun b hl hX=>hg.block b hl (fun e=>hX (.inl ⟨k,by simp,h3 b e.symm⟩)),fun b hX=> ?_⟩⟩
   ·rcases hb' with hb' | ⟨rfl,hb'⟩
    ·exact .inl hb'
    ·exact(hsl b hb').imp id (fun h=>⟨by simp,h⟩)
   ·have e:l=k:=by simpa using hl
    subst e
    have hun:B.o l b→dn w' b:=fun hb=>by
     have h1:=ho l b hb
     by_cases e:v.ownBlock=some b
     ·exact(hold b e).x
     ·exact h1.blk (hg.block b h1.1 (fun e'=>e e'.symm)) hg.size
    rcases hb' with hb' | ⟨_,hb'⟩
    ·exact hun hb'
    ·exact vY h5 b hb'
   ·rcases h1 with h1 | ⟨e1,h1⟩<;>rcases h2 with h2 | ⟨e2,h2⟩
    ·exact hinj.o _ _ _ h1 h2
    ·rcases hsl b h2 with h | h
     ·rw[e2];exact hinj.o _ _ _ h1 h
     ·have:=hbok b (.inr ⟨l,h1⟩);omega
    ·rcases hsl b h1 with h | h
     ·rw[e1];exact hinj.o _ _ _ h h2
     ·have:=hbok b (.inr ⟨l',h2⟩);omega
    ·rw[e1,e2]
   ·rcases h2 with h2 | ⟨_,h2⟩
    ·exact hinj.vo _ _ _ h1 h2
    ·rcases hsl b h2 with h | h
     ·exact hinj.vo _ _ _ h1 h
     ·have:=hbok b (.inl ⟨x,h1⟩);omega
   ·rcases hX with⟨l,hl,hb'⟩ | ⟨q,hq,_⟩
    ·exact ho l b hb'
    ·cases hq
end
end Go.Proofs.YtfhinmdhjlmikaaGreat
namespace Go.Proofs.YtfhinmdhjlmikaaGreat
set_option linter.unusedSimpArgs false
set_option linter.unusedVariables false
set_option maxRecDepth 100000
open Go.RowKit
/-- How many stamps lie before a time. -/
def plN:List St→Int→Nat
 | [],_=>0
 | s::S,a=>if s.tm<a then plN S a+1 else 0
theorem a9:∀(S:List St) (a:Int),plN S a≤S.length
 | [],_=>Nat.le_refl _
 | s::S,a=>by
  simp only[plN,List.length_cons]
  split
  ·have:=a9 S a;omega
  ·omega
theorem dl:∀ {S:List St} {a:Int} {k:Nat},k<plN S a→∃s,S[k]? =some s∧s.tm<a
 | [],_,_,h=>by simp[plN]at h
 | s::S,a,k,h=>by
  simp only[plN]at h
  split at h
  ·rename_i hs
   match k with
   | 0=>exact⟨s,rfl,hs⟩
   | k+1=>
    obtain⟨x,h1,h2⟩:=dl (S:=S) (a:=a) (k:=k) (by omega)
    exact⟨x,by simpa using h1,h2⟩
  ·omega
theorem rM:∀ {S:List St} {a:Int},plN S a<S.length→∃s,S[plN S a]? =some s∧¬s.tm<a
 | [],_,h=>by simp at h
 | s::S,a,h=>by
  simp only[plN]at h⊢
  split
  ·rename_i hs
   rw[if_pos hs]at h
   obtain⟨x,h1,h2⟩:=rM (S:=S) (a:=a) (by simp at h;omega)
   exact⟨x,by simpa using h1,h2⟩
  ·rename_i hs;exact⟨s,rfl,hs⟩
/-- The rotation between two poses is one by 180 degrees. -/
def opp (a b:Pq):Prop:=(a.rot.inv.mul b.rot).w.p=0
theorem cF {u v:Int} (h:u=v):fI .eql u v=some true:=by simp[fI,h]
theorem a8 {u v:Int} (h:u≠v):fI .eql u v=some false:=by simp[fI,h]
theorem cz {u v:Int} (h:u=v):fI .neq u v=some false:=by simp[fI,h]
theorem aL {u v:Int} (h:u<v):fI .lss u v=some true:=by simp[fI,h]
theorem aK {u v:Int} (h:¬u<v):fI .lss u v=some false:=by simp[fI,h]
theorem cW {u v:Int} (h:u≤v):fI .leq u v=some true:=by simp[fI,h]
theorem eE {u v:Int} (h:¬u≤v):fI .leq u v=some false:=by simp[fI,h]
theorem bm {u v:Int} (h:v<u):fI .gtr u v=some true:=by simp[fI,h]
theorem aQ {u v:Int} (h:¬v<u):fI .gtr u v=some false:=by simp[fI,h]
theorem g8 {u v:Int} (h:v≤u):fI .geq u v=some true:=by simp[fI,h]
theorem l7 {u v:Int} (h:¬v≤u):fI .geq u v=some false:=by simp[fI,h]
/-- A stamp as a value. -/
def ce (w:World) (v:Value) (s:St):Prop:=∃cs:List Value,v= .agg (.int .i64 s.tm::cs).toArray∧bR w (s.pose.cs.map Fq.raw) cs
theorem bc {xs:List Fq} {ys:Rho} {n:Nat} {ks:List Nat} {s:St} {B:Blk} {w:World} {v:Value} (hn:(frs xs++ys)[n]? =some (.val (.int .i64 s.tm))) (ha:AtL xs ks s.pose.cs):(SV.agg (.ref n::bd ks)).holds (frs xs++ys) B w v↔ce w v s:=by
 constructor
 ·rintro⟨vs,rfl,h⟩
  match vs,h with
  | v0::vs,h=>
   have:=bh hn h.1
   subst this
   exact⟨vs,rfl,(eU ha).1 h.2⟩
 ·rintro⟨cs,rfl,h⟩
  exact⟨.int .i64 s.tm::cs,rfl,aH hn aE,(eU ha).2 h⟩
/-- The answer of a method, and what lies in its track behind it. -/
def vZ (p:Program) (C:List Inst) (L:List OIns) (fn:Func) (args:List SV) (T:TypeId) (m:Nat) (fuel:Nat) (lo:Los):Option (AV×Leaf×List LOb):=
 match mw p C L fn args [(T,[.ref m])] fuel lo with
 | some (r,s,obs)=>match s.vars[0]? with
  | some (t,[some l])=>if t=T then some (r,l,obs)else none
  | _=>none
 | none=>none
section
variable {ρ:Rho} {w:World} {C:List Inst} {L:List OIns} {T:TypeId} {g m:Nat} {sl:Value} {S S':List St}
def RowF (ρ:Rho) (sl:Value) (l:Leaf) (S':List St):Prop:=(∃pin m',l= .ref m'∧ρ[m']? =some (.rowB pin sl stT S'.length (az S')))∨∃k m',l= .own k m'∧(ρ[m']? =some (.row stT S'.length (az S'))∨ρ[m']? =some (.ownr stT 22 S'.length (az S')))
theorem cf {m':Nat} {pin:Bool} (h:ρ[m']? =some (.rowB pin sl stT S'.length (az S'))):RowF ρ sl (.ref m') S':=.inl ⟨pin,m',rfl,h⟩
theorem rf_o {k m':Nat} (h:ρ[m']? =some (.row stT S'.length (az S'))):RowF ρ sl (.own k m') S':=.inr ⟨k,m',rfl,.inl h⟩
theorem l8 {k m':Nat} (h:ρ[m']? =some (.ownr stT 22 S'.length (az S'))):RowF ρ sl (.own k m') S':=.inr ⟨k,m',rfl,.inr h⟩
theorem jT (h:TrkS T w g sl S) (hC:∀i∈C,i.Ok0 Tryz.prog ρ (gO w g)) (hO:∀i∈L,i.Ok Tryz.prog ρ) {f:FuncId} {fn:Func} (hf:Tryz.prog.funcs[f]? =some fn) {args:List SV} {vs:List Value} {fuel:Nat} {lo:Los} {r:AV} {obs:List LOb} {l:Leaf}
  (hm:ρ[m]? =some (.rowB true sl stT S.length (az S))) (hr:vZ Tryz.prog C L fn args T m fuel lo=some (r,l,obs)) (hl:∀o∈obs,o.Ok Tryz.prog ρ (gO w g) fn.ntmps) (ha:cG ρ (pI g) w args vs) (hS:RowF ρ sl l S'):
  Calls Tryz.prog f vs.toArray w (fun e w'=>∃v B',e= .returned v∧r.holds ρ B' w' v∧TrkM T w g sl S' w'∧(l= .ref m→Below w.heap.size w w')∧∀k b,B'.o k b→w.heap.size≤b∧dn w' b):=by
 unfold vZ at hr
 split at hr
 ·rename_i r' s obs' h1
  split at hr
  ·rename_i t l' h2
   split at hr
   ·rename_i ht
    subst ht
    simp only[Option.some.injEq,Prod.mk.injEq]at hr
    obtain⟨rfl,rfl,rfl⟩:=hr
    exact vX h hC hO hf hm h1 hl ha h2 hS
   ·cases hr
  ·cases hr
 ·cases hr
theorem aG (h:TrkS T w g sl S) (hC:∀i∈C,i.Ok0 Tryz.prog ρ (gO w g)) (hO:∀i∈L,i.Ok Tryz.prog ρ) {f:FuncId} {fn:Func} (hf:Tryz.prog.funcs[f]? =some fn) {args:List SV} {vs:List Value} {fuel:Nat} {lo:Los} {r:AV} {obs:List LOb} {l:Leaf}
  (hm:ρ[m]? =some (.rowB true sl stT S.length (az S))) (hr:vZ Tryz.prog C L fn args T m fuel lo=some (r,l,obs)) (hl:∀o∈obs,o.Ok Tryz.prog ρ (gO w g) fn.ntmps) (ha:cG ρ (pI g) w args vs) (hS:RowF ρ sl l S'):
  Calls Tryz.prog f vs.toArray w (fun e w'=>∃v B',e= .returned v∧r.holds ρ B' w' v∧TrkM T w g sl S' w'∧(l= .ref m→Below w.heap.size w w')):=
 (jT h hC hO hf hm hr hl ha hS).mono fun _ _ ⟨v,B',h1,h2,h3,h4,_⟩=>⟨v,B',h1,h2,h3,h4⟩
/-- A method that writes nothing: nothing changes. -/
theorem bE:(SV.one (.ptr 0 0)).holds ρ (pI g) w (.pointer (some ⟨g,0,none⟩)):=⟨g,rfl,rfl⟩
theorem TrkM.same {w':World} (h:TrkM T w g sl S w') (h2:w'.heap[g]? =w.heap[g]?):Below w.heap.size w w':=
 ⟨h.kept.os,h.kept.tape,h.kept.output,h.kept.size,fun k hk=>by
  by_cases e:k=g
  ·subst e;exact h2
  ·exact h.kept.block k hk e⟩
end
end Go.Proofs.YtfhinmdhjlmikaaGreat
namespace Go.Proofs.YtfhinmdhjlmikaaGreat
set_option linter.unusedSimpArgs false
set_option linter.unusedVariables false
set_option maxRecDepth 100000
open Go.RowKit
theorem eF {v u:Int} (lv: -9223372036854775808≤v) (rv:v<9223372036854775808) (lu: -9223372036854775808≤u) (ru:u<9223372036854775808) (h0:u≠0):(Fq.ratio v u).ok 2:=Fq.ok_low (kn lv rv) (kn lu ru) (by omega)
theorem dM {v u:Int} (h0:u≠0):(Fq.ratio v u).valid=true:=jL (by omega)
section
variable {xs:List Fq} {ys:Rho} {k:Nat} {v u:Int} {l1 l2:Leaf}
theorem pe (h1:KI (frs xs++ys) l1 .i64 v) (h2:KI (frs xs++ys) l2 .i64 u) (lv: -9223372036854775808≤v) (rv:v<9223372036854775808) (lu: -9223372036854775808≤u) (ru:u<9223372036854775808) (h0:u≠0) (hk:xs[k]? =some (.ratio v u)):OkI xs ys ⟨42,[.one l1,.one l2],.tup [fr k,.one (.i .i64 0)]⟩:=
 ⟨aA Tryz.func42 rfl rfl,fun B w vs hB h=>by
  match vs,h with
  | [va,vb],h=>
   have e1:=h1 B w va h.1
   have e2:=h2 B w vb h.2.1
   subst e1;subst e2
   refine(q_fRatio v u w lv rv lu ru h0).mono ?_
   rintro e w' ⟨v,rfl,h1,h2⟩
   exact⟨_,rfl,⟨[v,.int .i64 0],rfl,(aI hk).2 h1,rfl,trivial⟩,h2⟩⟩
theorem tM (h1:KI (frs xs++ys) l1 .i64 v) (h2:KI (frs xs++ys) l2 .i64 u) (lv: -9223372036854775808≤v) (rv:v<9223372036854775808) (lu: -9223372036854775808≤u) (ru:u<9223372036854775808) (h0:u≠0) (hk:xs[k]? =some (.ratio v u)):OkI xs ys ⟨22,[.one l1,.one l2],.tup [fr k,.one (.i .i64 0)]⟩:=
 ⟨aA Tryz.func22 rfl rfl,fun B w vs hB h=>by
  match vs,h with
  | [va,vb],h=>
   have e1:=h1 B w va h.1
   have e2:=h2 B w vb h.2.1
   subst e1;subst e2
   refine(q_rRatio v u w lv rv lu ru h0).mono ?_
   rintro e w' ⟨v,rfl,h1,h2⟩
   exact⟨_,rfl,⟨[v,.int .i64 0],rfl,(aI hk).2 h1,rfl,trivial⟩,h2⟩⟩
end
theorem half_p:(Fq.ratio 1 2).p≠0:=by decide
theorem half_1:(Fq.ratio 1 2)≠(Fq.ofInt 1):=fun h=>absurd (congrArg Fq.q h) (by decide)
section
variable {ρ ρ':Rho} {n m k r N:Nat} {u v c:Int} {l l':Leaf} {t T e:TypeId} {B:Blk} {w:World} {x:St} {S:List St} {sl:Value} {pin:Bool}
theorem sgi {ρ':Rho} (h2:ρ'[n]? =some (.val (.int .i64 v))) (hl:KI ρ l .i64 u) (e:u=v) (ho:l.noPtr=true:=by rfl):oM ρ ρ' (n,l):=
 sg_val h2 ho (fun B w x h=>by have:=hl B w x h;subst this;subst e;exact⟨rfl,aE⟩)
theorem cmP {a b c d:Rho} (hN:(a++b).length=N):∀n,n<N→(a++(b++c))[n]? =(a++(b++d))[n]? :=fun n hn=>by
 have h1:n<(a++b).length:=by rw[hN];exact hn
 rw[←List.append_assoc a b c,←List.append_assoc a b d,List.getElem?_append_left h1,List.getElem?_append_left h1]
theorem l9 {a b b' c d:Rho} (hN:(a++(b++b')).length=N):∀n,n<N→(a++(b++(b'++c)))[n]? =(a++(b++(b'++d)))[n]? :=by
 have:=cmP (a:=a) (b:=b++b') (c:=c) (d:=d) hN
 simpa [List.append_assoc]using this
theorem cmX {a b c d:Rho} (hN:(a++(b++c)).length=N):∀n,n<N→(a++(b++c))[n]? =(a++(b++(c++d)))[n]? :=fun n hn=>by
 have h1:n<(a++(b++c)).length:=by rw[hN];exact hn
 rw[show a++(b++(c++d))=(a++(b++c))++d by simp[List.append_assoc],List.getElem?_append_left h1]
theorem pf {a b b' c d:Rho} (hN:(a++(b++(b'++c))).length=N):∀n,n<N→(a++(b++(b'++c)))[n]? =(a++(b++(b'++(c++d))))[n]? :=fun n hn=>by
 have h1:n<(a++(b++(b'++c))).length:=by rw[hN];exact hn
 rw[show a++(b++(b'++(c++d)))=(a++(b++(b'++c)))++d by simp[List.append_assoc],List.getElem?_append_left h1]
/-- A step with more unknowns. -/
theorem aV {E:Ent} {nt:Nat} {b:Code} {ρx:Rho} {s s2:MS} {e:Ex} (hc:∀n,n<N→ρ[n]? =ρx[n]?) (hk:s.cv N [] s=true) (hpn:E.pin.length≤s.vars.length) (h:jg Tryz.prog E nt b ρx s e ρ' s2):jg Tryz.prog E nt b ρ s e ρ' s2:=
 fun a w Q hs hQ=>h a w Q (MSt.conv hc aP hk hs hpn) hQ
theorem v4 {xs:List Fq} {ys:Rho}:∀ {ks:List Nat} {vs:List Fq},AtL xs ks vs→LQ (frs xs++ys) (bd ks) (frs vs)
 | [],[],_=>trivial
 | _::_,_::_,h=>⟨lq (jj h.1).1,lq (jj h.1).2.1,lq (jj h.1).2.2,v4 h.2⟩
 | [],_::_,h=>h.elim
 | _::_,[],h=>h.elim
theorem lq_st {xs:List Fq} {ys:Rho} {ks:List Nat} (hn:(frs xs++ys)[n]? =some (.val (.int .i64 x.tm))) (h:AtL xs ks x.pose.cs):LQ (frs xs++ys) (.ref n::bd ks) x.qs:=⟨lq hn,v4 h⟩
theorem hq0:∀(j:Nat) (q:Vp),x.qs[j]? =some q→x.qs[0+j]? =some q:=fun j q h=>by rw[Nat.zero_add];exact h
theorem hq1:∀(j:Nat) (q:Vp),(frs x.pose.cs)[j]? =some q→x.qs[1+j]? =some q:=fun j q h=>by rw[Nat.add_comm];exact h
theorem gh {S':List St} (ht:Tryz.prog.underlying t=some (.slice e)) (hz:szB Tryz.prog e=some 22) (hn:ρ[n]? =some (.rowB pin sl T S.length (az S))) (hS:S'=S.take k) (hm:ρ[m]? =some (.rowB false sl T S'.length (az S'))) (hl:KI ρ l .i64 (k:Int)) (hk:k≤S.length):(OIns.mk (.sl t false true) [.one (.ref n),.one l] (.one (.ref m))).Ok Tryz.prog ρ:=by
 subst hS
 refine o_slToB ht hz hn ?_ hl hk
 rw[hm,List.length_take,Nat.min_eq_left hk]
theorem dN {S':List St} (ht:Tryz.prog.underlying t=some (.slice e)) (hz:szB Tryz.prog e=some 22) (hn:ρ[n]? =some (.rowB pin sl T S.length (az S))) (hS:S'=S.drop k) (hm:ρ[m]? =some (.rowB false sl T S'.length (az S'))) (hl:KI ρ l .i64 (k:Int)) (hk:k≤S.length):(OIns.mk (.sl t true false) [.one (.ref n),.one l] (.one (.ref m))).Ok Tryz.prog ρ:=by
 subst hS
 exact o_slFrB ht hz hn (List.length_drop ..) hm hl hk
theorem g9 {S':List St} {j sz:Nat} (ht:Tryz.prog.underlying t=some (.slice e)) (hz:szB Tryz.prog e=some 22) (hn:ρ[n]? =some (.ownr T sz S.length (az S))) (hS:S'=S.drop k) (hm:ρ[m]? =some (.row T S'.length (az S'))) (hl:KI ρ l .i64 (k:Int)) (hk:k≤S.length):(OIns.mk (.sl t true false) [.one (.own j n),.one l] (.one (.own j m))).Ok Tryz.prog ρ:=by
 subst hS
 exact o_slFrN ht hz hn (List.length_drop ..) hm hl hk
end
section
variable {ρ:Rho} {n m k r j u:Nat} {T:TypeId} {B:Blk} {w:World} {S S':List St} {f:FuncId} {args xs:List SV} {l:Leaf} {sl0:Value} {pin:Bool}
theorem x9 {g:Nat} (hg:B.v u=some g) (hv:nz ρ B w (u,T,[.ref m])) (hm:ρ[m]? =some (.rowB pin sl0 stT S.length (az S))):∃sl,TrkS T w g sl S:=by
 obtain⟨g',cs,e1,e2,e3,_⟩:=hv
 rw[hg]at e1;injection e1 with e1;subst e1
 have hcs:∃sl,cs.toList=[sl]∧(Leaf.ref m).holds ρ B w sl:=by
  match hc:cs.toList,e3 with
  | [sl],e3=>exact⟨sl,rfl,e3.1⟩
  | [],e3=>exact e3.elim
  | _::_::_,e3=>exact e3.2.elim
 obtain⟨sl,h2,h3⟩:=hcs
 have hcs:cs=#[sl]:=by rw[←Array.toList_inj];exact h2
 subst hcs
 obtain⟨k1,_,k3⟩:=kP hm h3
 refine⟨sl,⟨e2,k1,fun b hb e=> ?_⟩⟩
 subst e
 obtain⟨a,n,c,rfl⟩:=vW k1
 cases a with
 | none=>cases hb
 | some a=>
  have hs:=lY k1 _ _ _ rfl
  obtain⟨ab,ao,asp⟩:=a
  simp only at hs;subst hs
  have e:ab=b:=Option.some.inj hb
  subst e
  exact k3 ab ⟨_,_,_,rfl⟩ (.inl ⟨u,hg⟩)
/-- A method that only reads, called by another method of the same track. -/
theorem zA (hen:∀(vs:Array Value) (w:World),(callFunc f vs).run Tryz.prog w= .ok (.enter f vs) w) (hm:ρ[m]? =some (.rowB pin sl0 stT S.length (az S))) {r:SV}
  (h:∀B w g sl vs,BOk B w.heap.size→TrkS T w g sl S→cG ρ B w args vs→Calls Tryz.prog f (.pointer (some ⟨g,0,none⟩)::vs).toArray w (fun e w'=>∃v,e= .returned v∧(∀B',BOk B' w.heap.size→(sK xs).holds ρ B' w' v)∧Below w.heap.size w w')):
  (OIns.mk (.mut f ⟨[],[(u,T,[.ref m])],[],none,[],xs⟩) (.one (.ptr u 0)::args) r).Ok Tryz.prog ρ:=fun B w vs hv=>by
 match vs,hv with
 | v0::vs,hv=>
  obtain⟨g,hg,rfl⟩:=hv.1
  refine⟨hen _ _,fun hbok hinj ho hov _ hpre=> ?_⟩
  obtain⟨sl,ht⟩:=x9 hg (hpre (u,T,[.ref m]) (List.mem_singleton.2 rfl)) hm
  refine(h B w g sl vs hbok ht hv.2).mono ?_
  rintro e w' ⟨v,rfl,hres,hb⟩
  exact⟨v,B,rfl,hres _ hbok,fun q hq=>(by cases hq),fun q hq=>(by cases hq),fun q hq=>(by cases hq),hb.os,hb.tape,hb.output,fun _ _=>rfl,fun q g hq=>(by cases hq),fun l b hb=>hb,fun l b hb=>.inl hb,fun l b hl _=>(by cases hl),hinj,⟨hb.size,fun b hl _=>hb.block b hl,fun b hX=>by
   rcases hX with⟨l,hl,_⟩ | ⟨q,hq,_⟩
   ·cases hl
   ·cases hq⟩⟩
theorem ql_row {xs:List Fq} {ys:Rho}:∀ {ks:List Nat} {vs:List Fq},AtL xs ks vs→QL (frs xs++ys) (bd ks) (frs vs)
 | [],[],_=>trivial
 | _::_,_::_,h=>⟨re (jj h.1).1,gN (jj h.1).2.1,gN (jj h.1).2.2,ql_row h.2⟩
 | [],_::_,h=>h.elim
 | _::_,[],h=>h.elim
theorem ql_st {xs:List Fq} {ys:Rho} {n:Nat} {x:St} {ks:List Nat} (hn:(frs xs++ys)[n]? =some (.val (.int .i64 x.tm))) (h:AtL xs ks x.pose.cs):QL (frs xs++ys) (.ref n::bd ks) x.qs:=⟨re hn,ql_row h⟩
/-- A slice of one stamp. -/
theorem gH {xs:List Fq} {ys:Rho} {n m:Nat} {ks:List Nat} {s:St} (hn:(frs xs++ys)[n]? =some (.val (.int .i64 s.tm))) (ha:AtL xs ks s.pose.cs) (hm:(frs xs++ys)[m]? =some (.row stT 1 s.qs)):(OIns.mk (.bs 22 1 [0]) [.agg (.ref n::bd ks)] (.one (.ref m))).Ok Tryz.prog (frs xs++ys):=by
 obtain⟨a1,a2,a3,a4,a5,a6,a7,rfl,h⟩:∃a1 a2 a3 a4 a5 a6 a7,ks=[a1,a2,a3,a4,a5,a6,a7]∧True:=by
  match ks,ha with
  | [a1,a2,a3,a4,a5,a6,a7],_=>exact⟨_,_,_,_,_,_,_,rfl,trivial⟩
 exact rf (m:=m) (ss:=[.agg (.ref n::bd [a1,a2,a3,a4,a5,a6,a7])]) (N:=1) (sz:=22) (z:=.i .i64 0::List.flatten (List.replicate 7 [.b false,.sl0,.sl0])) (qs:=s.qs) (ix:=[0]) (ls:=.ref n::bd [a1,a2,a3,a4,a5,a6,a7]) Tryz.underlying22 (by kernel_rfl) (by kernel_rfl) (by decide) (by decide) (by decide) rfl (by kernel_rfl) (ql_st hn ha) hm
end
/- The same for stamps, in short. -/
section
variable {xs:List Fq} {ys ρ:Rho} {n m k j:Nat} {l:Leaf} {x:St} {S:List St} {sl:Value} {pin:Bool} {ks:List Nat} {T:TypeId}
theorem iaB (hn:ρ[n]? =some (.rowB pin sl T S.length (az S))) (hm:ρ[m]? =some (.plc T x.qs)) (hl:KI ρ l .i64 (k:Int)) (hx:S[k]? =some x):(OIns.mk (.ia 22) [.one (.ref n),.one l] (.one (.ref m))).Ok Tryz.prog ρ:=o_iaB Tryz.underlying22 (by kernel_rfl) hn hm hl hx
theorem iaT (hn:ρ[n]? =some (.row T S.length (az S))) (hm:ρ[m]? =some (.plc T x.qs)) (hl:KI ρ l .i64 (k:Int)) (hx:S[k]? =some x):(OIns.mk (.ia 22) [.one (.ref n),.one l] (.one (.ref m))).Ok Tryz.prog ρ:=o_iaT Tryz.underlying22 (by kernel_rfl) hn hm hl hx
theorem fa0 (x:St) (n:Nat) (hn:ρ[n]? =some (.plc T x.qs)):(OIns.mk (.fa 35 0) [.one (.ref n)] (.one (.ref n))).Ok Tryz.prog ρ:=o_fa (off:=0) (sz:=0) (by kernel_rfl) hn hn hq0
theorem fa1 (x:St) (n m:Nat) (hn:ρ[n]? =some (.plc T x.qs)) (hm:ρ[m]? =some (.plc T (frs x.pose.cs))):(OIns.mk (.fa 35 1) [.one (.ref n)] (.one (.ref m))).Ok Tryz.prog ρ:=o_fa (off:=1) (sz:=20) (by kernel_rfl) hn hm hq1
theorem ldt (x:St) (n m:Nat) (hn:ρ[n]? =some (.plc T x.qs)) (hm:ρ[m]? =some (.val (.int .i64 x.tm))):(OIns.mk (.ld 3) [.one (.ref n)] (.one (.ref m))).Ok Tryz.prog ρ:=o_ldP (by kernel_rfl) hn (lq hm)
theorem ldp (x:St) (n:Nat) (ks:List Nat) (hn:(frs xs++ys)[n]? =some (.plc T (frs x.pose.cs))) (ha:AtL xs ks x.pose.cs):(OIns.mk (.ld 33) [.one (.ref n)] (.agg (bd ks))).Ok Tryz.prog (frs xs++ys):=by
 obtain⟨a1,a2,a3,a4,a5,a6,a7,rfl⟩:∃a1 a2 a3 a4 a5 a6 a7,ks=[a1,a2,a3,a4,a5,a6,a7]:=by
  match ks,ha with
  | [a1,a2,a3,a4,a5,a6,a7],_=>exact⟨_,_,_,_,_,_,_,rfl⟩
 exact ji (by kernel_rfl) (by kernel_rfl) hn (v4 ha)
theorem rN (x:St) (n m:Nat) (ks:List Nat) (hn:(frs xs++ys)[n]? =some (.plc T x.qs)) (hm:(frs xs++ys)[m]? =some (.val (.int .i64 x.tm))) (ha:AtL xs ks x.pose.cs):(OIns.mk (.ld 35) [.one (.ref n)] (.agg (.ref m::bd ks))).Ok Tryz.prog (frs xs++ys):=by
 obtain⟨a1,a2,a3,a4,a5,a6,a7,rfl⟩:∃a1 a2 a3 a4 a5 a6 a7,ks=[a1,a2,a3,a4,a5,a6,a7]:=by
  match ks,ha with
  | [a1,a2,a3,a4,a5,a6,a7],_=>exact⟨_,_,_,_,_,_,_,rfl⟩
 exact ji (by kernel_rfl) (by kernel_rfl) hn (lq_st hm ha)
theorem bW (n m:Nat) (hn:ρ[n]? =some (.rowB pin sl T S.length (az S))) (hm:ρ[m]? =some (.val (.int .i64 (S.length:Int)))):(OIns.mk (.len 22) [.one (.ref n)] (.one (.ref m))).Ok Tryz.prog ρ:=o_lenB ⟨_,Tryz.underlying22⟩ hn (fun _ _=>aH hm aE)
end
end Go.Proofs.YtfhinmdhjlmikaaGreat
namespace Go.Proofs.YtfhinmdhjlmikaaGreat
set_option linter.unusedSimpArgs false
set_option linter.unusedVariables false
set_option maxRecDepth 100000
open Go.RowKit
def xclFX (a:Fq):List Fq:=[a]
theorem q_clF (va:Value) (a:Fq) (w:World) (ia:IsQ w va a) (ha:a.ok 1000000000):
  Calls Tryz.prog 63 #[va] w fun e w'=>fC w a e w':=by
 refine(cRn (ρ:=frs (xclFX a)++([]:List Vp)) (args:=[fr 0]) (vs:=[va]) (r:=.v (fr 0))
  (af (lX (n:=1) (m:=1) rfl rfl (Nat.le_trans ha.p (by decide))) (af (lX (n:=2) (m:=2) rfl rfl (Nat.le_trans ha.q (by decide))) ai))
  aj Tryz.func63 (by kernel_rfl) ⟨(aI (xs:=xclFX a) (k:=0) rfl).2 ia,trivial⟩).mono ?_
 rintro e w' ⟨v,rfl,h1,h2⟩
 exact⟨v,rfl,(aI (xs:=xclFX a) (k:=0) rfl).1 h1,h2⟩
theorem pg {xs:List Fq} {ys:Rho} {ia:Nat} {a:Fq} {ir:Nat} (aa:xs[ia]? =some a) (ar:xs[ir]? =some a) (ha:a.ok 1000000000):OkI xs ys ⟨63,[fr ia],.v (fr ir)⟩:=
 ⟨aA Tryz.func63 rfl rfl,fun B w vs hB h=>by
  match vs,h with
  | [va],h=>
   refine(q_clF va a w ((aI aa).1 h.1) ha).mono ?_
   rintro e w' ⟨v,rfl,h1,h2⟩
   exact⟨v,rfl,(aI ar).2 h1,h2⟩⟩
def xclSX (s:St):List Fq:=s.pose.cs
theorem q_clS (v:Value) (s:St) (w:World) (i:ce w v s) (hs:s.pose.ok 1000000000):
  Calls Tryz.prog 41 #[v] w fun e w'=>∃v,e= .returned v∧ce w' v s∧Below w.heap.size w w':=by
 refine(cRn (ρ:=frs (xclSX s)++([.val (.int .i64 s.tm)]:List Vp)) (args:=[.agg (.ref 21::bd [0,1,2,3,4,5,6])]) (vs:=[v]) (r:=.v (.agg (.ref 21::bd [0,1,2,3,4,5,6])))
  (af (pg (ia:=0) (ir:=0) rfl rfl (hs.rot.w.mono (by decide))) (af (pg (ia:=1) (ir:=1) rfl rfl (hs.rot.x.mono (by decide))) (af (pg (ia:=2) (ir:=2) rfl rfl (hs.rot.y.mono (by decide))) (af (pg (ia:=3) (ir:=3) rfl rfl (hs.rot.z.mono (by decide))) (af (pg (ia:=4) (ir:=4) rfl rfl (hs.pos.x.mono (by decide))) (af (pg (ia:=5) (ir:=5) rfl rfl (hs.pos.y.mono (by decide))) (af (pg (ia:=6) (ir:=6) rfl rfl (hs.pos.z.mono (by decide))) ai)))))))
  aj Tryz.func41 (by kernel_rfl) ⟨(bc (xs:=xclSX s) (n:=21) (ks:=[0,1,2,3,4,5,6]) (s:=s) rfl ⟨rfl,rfl,rfl,rfl,rfl,rfl,rfl,trivial⟩).2 i,trivial⟩).mono ?_
 rintro e w' ⟨v,rfl,h1,h2⟩
 exact⟨v,rfl,(bc (xs:=xclSX s) (n:=21) (ks:=[0,1,2,3,4,5,6]) (s:=s) rfl ⟨rfl,rfl,rfl,rfl,rfl,rfl,rfl,trivial⟩).1 h1,h2⟩
theorem jw {xs:List Fq} {ys:Rho} {n:Nat} {ks:List Nat} {s:St} (hn:(frs xs++ys)[n]? =some (.val (.int .i64 s.tm))) (ha:AtL xs ks s.pose.cs) (hs:s.pose.ok 1000000000):OkI xs ys ⟨41,[.agg (.ref n::bd ks)],.v (.agg (.ref n::bd ks))⟩:=
 ⟨aA Tryz.func41 rfl rfl,fun B w vs hB h=>by
  match vs,h with
  | [v],h=>
   refine(q_clS v s w ((bc hn ha).1 h.1) hs).mono ?_
   rintro e w' ⟨v,rfl,h1,h2⟩
   exact⟨v,rfl,(bc hn ha).2 h1,h2⟩⟩
def yc:List Fq:=[(Fq.ratio 1 2)]
theorem q_tHalf (w:World):
  Calls Tryz.prog 38 #[] w fun e w'=>fC w (Fq.ratio 1 2) e w':=by
 refine(cRn (ρ:=frs (yc)++([]:List Vp)) (args:=[]) (vs:=[]) (r:=.v (fr 0))
  (af (tM (v:=1) (u:=2) (k:=0) (aF (c:=1)) (aF (c:=2)) (by decide) (by decide) (by decide) (by decide) (by decide) rfl) ai)
  aj Tryz.func38 (by kernel_rfl) trivial).mono ?_
 rintro e w' ⟨v,rfl,h1,h2⟩
 exact⟨v,rfl,(aI (xs:=yc) (k:=0) rfl).1 h1,h2⟩
theorem rO {xs:List Fq} {ys:Rho} {ir:Nat} (ar:xs[ir]? =some (Fq.ratio 1 2)):OkI xs ys ⟨38,[],.v (fr ir)⟩:=
 ⟨aA Tryz.func38 rfl rfl,fun B w vs hB h=>by
  match vs,h with
  | [],h=>
   refine(q_tHalf w).mono ?_
   rintro e w' ⟨v,rfl,h1,h2⟩
   exact⟨v,rfl,(aI ar).2 h1,h2⟩⟩
def xop1X (a:Pq) (b:Pq):List Fq:=(a.cs++(b.cs++([(Fq.ratio 1 2)]++(Pq.zero.cs))))
theorem q_op1 (va vb:Value) (a:Pq) (b:Pq) (w:World) (ia:dt w va a) (ib:dt w vb b) (ha:a.ok 100) (hb:b.ok 100) (ga:a.good) (gb:b.good) (hw:(a.rot.inv.mul b.rot).w.p=0):
  Calls Tryz.prog 47 #[va,vb] w fun e w'=>bH w (.bool true) e w':=by
 refine(cRn (ρ:=frs (xop1X a b)++([]:List Vp)) (args:=[row [0,1,2,3,4,5,6],row [7,8,9,10,11,12,13]]) (vs:=[va,vb]) (r:=.v (.one (.b true)))
  (af (pe (v:=1) (u:=2) (k:=14) (aF (c:=1)) (aF (c:=2)) (by decide) (by decide) (by decide) (by decide) (by decide) rfl) (af (I_poBtw4 (ka:=[0,1,2,3,4,5,6]) (a:=a) (kb:=[7,8,9,10,11,12,13]) (b:=b) (im:=14) (kr:=[15,16,17,18,19,20,21]) ⟨rfl,rfl,rfl,rfl,rfl,rfl,rfl,trivial⟩ ⟨rfl,rfl,rfl,rfl,rfl,rfl,rfl,trivial⟩ rfl ⟨rfl,rfl,rfl,rfl,rfl,rfl,rfl,trivial⟩ (ha.mono (by decide)) (hb.mono (by decide)) ((eF (v:=1) (u:=2) (by decide) (by decide) (by decide) (by decide) (by decide)).mono (by decide)) ga gb (dM (v:=1) (u:=2) (by decide)) hw half_p half_1) ai))
  aj Tryz.func47 (by kernel_rfl) ⟨(ag (xs:=xop1X a b) (ks:=[0,1,2,3,4,5,6]) (vs:=a.cs) ⟨rfl,rfl,rfl,rfl,rfl,rfl,rfl,trivial⟩).2 ia,⟨(ag (xs:=xop1X a b) (ks:=[7,8,9,10,11,12,13]) (vs:=b.cs) ⟨rfl,rfl,rfl,rfl,rfl,rfl,rfl,trivial⟩).2 ib,trivial⟩⟩).mono ?_
 rintro e w' ⟨v,rfl,h1,h2⟩
 exact⟨congrArg Ending.returned h1,h2⟩
theorem yd {xs:List Fq} {ys:Rho} {ka:List Nat} {kb:List Nat} {a:Pq} {b:Pq} (aa:AtL xs ka a.cs) (ab:AtL xs kb b.cs) (ha:a.ok 100) (hb:b.ok 100) (ga:a.good) (gb:b.good) (hw:(a.rot.inv.mul b.rot).w.p=0):OkI xs ys ⟨47,[row ka,row kb],.v (.one (.b true))⟩:=
 ⟨aA Tryz.func47 rfl rfl,fun B w vs hB h=>by
  match vs,h with
  | [va,vb],h=>
   refine(q_op1 va vb a b w ((ag aa).1 h.1) ((ag ab).1 h.2.1) ha hb ga gb hw).mono ?_
   rintro e w' ⟨rfl,h2⟩
   exact⟨_,rfl,rfl,h2⟩⟩
def xop0X (a:Pq) (b:Pq):List Fq:=(a.cs++(b.cs++([(Fq.ratio 1 2)]++((Pq.mk (a.rot.way (a.rot.inv.mul b.rot) (Fq.ratio 1 2)) (a.pos.lerp b.pos (Fq.ratio 1 2))).cs))))
theorem q_op0 (va vb:Value) (a:Pq) (b:Pq) (w:World) (ia:dt w va a) (ib:dt w vb b) (ha:a.ok 100) (hb:b.ok 100) (ga:a.good) (gb:b.good) (hw:(a.rot.inv.mul b.rot).w.p≠0):
  Calls Tryz.prog 47 #[va,vb] w fun e w'=>bH w (.bool false) e w':=by
 refine(cRn (ρ:=frs (xop0X a b)++([]:List Vp)) (args:=[row [0,1,2,3,4,5,6],row [7,8,9,10,11,12,13]]) (vs:=[va,vb]) (r:=.v (.one (.b false)))
  (af (pe (v:=1) (u:=2) (k:=14) (aF (c:=1)) (aF (c:=2)) (by decide) (by decide) (by decide) (by decide) (by decide) rfl) (af (tH (ka:=[0,1,2,3,4,5,6]) (a:=a) (kb:=[7,8,9,10,11,12,13]) (b:=b) (im:=14) (kr:=[15,16,17,18,19,20,21]) ⟨rfl,rfl,rfl,rfl,rfl,rfl,rfl,trivial⟩ ⟨rfl,rfl,rfl,rfl,rfl,rfl,rfl,trivial⟩ rfl ⟨rfl,rfl,rfl,rfl,rfl,rfl,rfl,trivial⟩ (ha.mono (by decide)) (hb.mono (by decide)) ((eF (v:=1) (u:=2) (by decide) (by decide) (by decide) (by decide) (by decide)).mono (by decide)) ga gb (dM (v:=1) (u:=2) (by decide)) hw) ai))
  aj Tryz.func47 (by kernel_rfl) ⟨(ag (xs:=xop0X a b) (ks:=[0,1,2,3,4,5,6]) (vs:=a.cs) ⟨rfl,rfl,rfl,rfl,rfl,rfl,rfl,trivial⟩).2 ia,⟨(ag (xs:=xop0X a b) (ks:=[7,8,9,10,11,12,13]) (vs:=b.cs) ⟨rfl,rfl,rfl,rfl,rfl,rfl,rfl,trivial⟩).2 ib,trivial⟩⟩).mono ?_
 rintro e w' ⟨v,rfl,h1,h2⟩
 exact⟨congrArg Ending.returned h1,h2⟩
theorem ma {xs:List Fq} {ys:Rho} {ka:List Nat} {kb:List Nat} {a:Pq} {b:Pq} (aa:AtL xs ka a.cs) (ab:AtL xs kb b.cs) (ha:a.ok 100) (hb:b.ok 100) (ga:a.good) (gb:b.good) (hw:(a.rot.inv.mul b.rot).w.p≠0):OkI xs ys ⟨47,[row ka,row kb],.v (.one (.b false))⟩:=
 ⟨aA Tryz.func47 rfl rfl,fun B w vs hB h=>by
  match vs,h with
  | [va,vb],h=>
   refine(q_op0 va vb a b w ((ag aa).1 h.1) ((ag ab).1 h.2.1) ha hb ga gb hw).mono ?_
   rintro e w' ⟨rfl,h2⟩
   exact⟨_,rfl,rfl,h2⟩⟩
def v9 (a:Pq) (b:Pq):List Fq:=(a.cs++(b.cs++([(Fq.ratio 1 2)]++(Pq.zero.cs))))
theorem q_rop1 (va vb:Value) (a:Pq) (b:Pq) (w:World) (ia:dt w va a) (ib:dt w vb b) (ha:a.ok 100) (hb:b.ok 100) (ga:a.good) (gb:b.good) (hw:(a.rot.inv.mul b.rot).w.p=0):
  Calls Tryz.prog 60 #[va,vb] w fun e w'=>bH w (.bool true) e w':=by
 refine(cRn (ρ:=frs (v9 a b)++([]:List Vp)) (args:=[row [0,1,2,3,4,5,6],row [7,8,9,10,11,12,13]]) (vs:=[va,vb]) (r:=.v (.one (.b true)))
  (af (rO (ir:=14) rfl) (af (I_rpBtw4 (ka:=[0,1,2,3,4,5,6]) (a:=a) (kb:=[7,8,9,10,11,12,13]) (b:=b) (im:=14) (kr:=[15,16,17,18,19,20,21]) ⟨rfl,rfl,rfl,rfl,rfl,rfl,rfl,trivial⟩ ⟨rfl,rfl,rfl,rfl,rfl,rfl,rfl,trivial⟩ rfl ⟨rfl,rfl,rfl,rfl,rfl,rfl,rfl,trivial⟩ (ha.mono (by decide)) (hb.mono (by decide)) ((eF (v:=1) (u:=2) (by decide) (by decide) (by decide) (by decide) (by decide)).mono (by decide)) ga gb (dM (v:=1) (u:=2) (by decide)) hw half_p half_1) ai))
  aj Tryz.func60 (by kernel_rfl) ⟨(ag (xs:=v9 a b) (ks:=[0,1,2,3,4,5,6]) (vs:=a.cs) ⟨rfl,rfl,rfl,rfl,rfl,rfl,rfl,trivial⟩).2 ia,⟨(ag (xs:=v9 a b) (ks:=[7,8,9,10,11,12,13]) (vs:=b.cs) ⟨rfl,rfl,rfl,rfl,rfl,rfl,rfl,trivial⟩).2 ib,trivial⟩⟩).mono ?_
 rintro e w' ⟨v,rfl,h1,h2⟩
 exact⟨congrArg Ending.returned h1,h2⟩
theorem rP {xs:List Fq} {ys:Rho} {ka:List Nat} {kb:List Nat} {a:Pq} {b:Pq} (aa:AtL xs ka a.cs) (ab:AtL xs kb b.cs) (ha:a.ok 100) (hb:b.ok 100) (ga:a.good) (gb:b.good) (hw:(a.rot.inv.mul b.rot).w.p=0):OkI xs ys ⟨60,[row ka,row kb],.v (.one (.b true))⟩:=
 ⟨aA Tryz.func60 rfl rfl,fun B w vs hB h=>by
  match vs,h with
  | [va,vb],h=>
   refine(q_rop1 va vb a b w ((ag aa).1 h.1) ((ag ab).1 h.2.1) ha hb ga gb hw).mono ?_
   rintro e w' ⟨rfl,h2⟩
   exact⟨_,rfl,rfl,h2⟩⟩
def wa (a:Pq) (b:Pq):List Fq:=(a.cs++(b.cs++([(Fq.ratio 1 2)]++((Pq.mk (a.rot.way (a.rot.inv.mul b.rot) (Fq.ratio 1 2)) (a.pos.lerp b.pos (Fq.ratio 1 2))).cs))))
theorem q_rop0 (va vb:Value) (a:Pq) (b:Pq) (w:World) (ia:dt w va a) (ib:dt w vb b) (ha:a.ok 100) (hb:b.ok 100) (ga:a.good) (gb:b.good) (hw:(a.rot.inv.mul b.rot).w.p≠0):
  Calls Tryz.prog 60 #[va,vb] w fun e w'=>bH w (.bool false) e w':=by
 refine(cRn (ρ:=frs (wa a b)++([]:List Vp)) (args:=[row [0,1,2,3,4,5,6],row [7,8,9,10,11,12,13]]) (vs:=[va,vb]) (r:=.v (.one (.b false)))
  (af (rO (ir:=14) rfl) (af (tI (ka:=[0,1,2,3,4,5,6]) (a:=a) (kb:=[7,8,9,10,11,12,13]) (b:=b) (im:=14) (kr:=[15,16,17,18,19,20,21]) ⟨rfl,rfl,rfl,rfl,rfl,rfl,rfl,trivial⟩ ⟨rfl,rfl,rfl,rfl,rfl,rfl,rfl,trivial⟩ rfl ⟨rfl,rfl,rfl,rfl,rfl,rfl,rfl,trivial⟩ (ha.mono (by decide)) (hb.mono (by decide)) ((eF (v:=1) (u:=2) (by decide) (by decide) (by decide) (by decide) (by decide)).mono (by decide)) ga gb (dM (v:=1) (u:=2) (by decide)) hw) ai))
  aj Tryz.func60 (by kernel_rfl) ⟨(ag (xs:=wa a b) (ks:=[0,1,2,3,4,5,6]) (vs:=a.cs) ⟨rfl,rfl,rfl,rfl,rfl,rfl,rfl,trivial⟩).2 ia,⟨(ag (xs:=wa a b) (ks:=[7,8,9,10,11,12,13]) (vs:=b.cs) ⟨rfl,rfl,rfl,rfl,rfl,rfl,rfl,trivial⟩).2 ib,trivial⟩⟩).mono ?_
 rintro e w' ⟨v,rfl,h1,h2⟩
 exact⟨congrArg Ending.returned h1,h2⟩
theorem iG {xs:List Fq} {ys:Rho} {ka:List Nat} {kb:List Nat} {a:Pq} {b:Pq} (aa:AtL xs ka a.cs) (ab:AtL xs kb b.cs) (ha:a.ok 100) (hb:b.ok 100) (ga:a.good) (gb:b.good) (hw:(a.rot.inv.mul b.rot).w.p≠0):OkI xs ys ⟨60,[row ka,row kb],.v (.one (.b false))⟩:=
 ⟨aA Tryz.func60 rfl rfl,fun B w vs hB h=>by
  match vs,h with
  | [va,vb],h=>
   refine(q_rop0 va vb a b w ((ag aa).1 h.1) ((ag ab).1 h.2.1) ha hb ga gb hw).mono ?_
   rintro e w' ⟨rfl,h2⟩
   exact⟨_,rfl,rfl,h2⟩⟩
def kQ:MS:=cM 28 [(0,.v (.one (.ptr 0 0))),(1,.v (.one (.ref 1))),(5,.v (.one (.i .i64 0)))] [(79,[some (.ref 0)])]
def iH:MS:=cM 28 [(0,.v (.one (.ptr 0 0))),(1,.v (.one (.ref 1))),(5,.v (.one (.ref 2)))] [(79,[some (.ref 0)])]
def gi (S:List St) (a:Int):List Fq:=[]
theorem q_placeE {w:World} {g:Nat} {sl:Value} (S:List St) (a:Int) (h:TrkS 79 w g sl S) (hS:S.length≤1000) (hp:plN S a=S.length):
  Calls Tryz.prog 45 (.pointer (some ⟨g,0,none⟩)::[.int .i64 a]).toArray w fun e w'=>e= .returned (.int .i64 ((plN S a:Nat):Int))∧Below w.heap.size w w':=by
 have hL0:LOb.Ok Tryz.prog (frs (gi S a)++(([.rowB true sl stT S.length (az S),.val (.int .i64 a)]:List Vp)++(([.val (.int .i64 ((plN S a:Nat):Int))]:List Vp)))) (gO w g) 28 ⟨bk Tryz.f45 0,kQ,.ext 0,iH⟩:=by
  refine bx (plN S a) (fun k=>frs (gi S a)++(([.rowB true sl stT S.length (az S),.val (.int .i64 a)]:List Vp)++(([.val (.int .i64 ((k:Nat):Int))]:List Vp)))) (fun _=>iH) ?_ ?_ ?_ (by decide) (Nat.le_add_left 1 _)
  ·intro a_ w_ h_
   exact MSt.conv (N:=2) (σ:=[(2,.i .i64 0)]) (cmP (by kernel_rfl)) (aD (sgi (n:=2) (u:=0) (v:=((0:Nat):Int)) rfl (aF (c:=0)) (by omega)) aP) (by kernel_rfl) h_ (Nat.le_add_left 1 _)
  ·intro k hk
   obtain⟨x,hx,hlt⟩:=dl hk
   have hle:=a9 S a
   refine aV (N:=3) (ρx:=frs (gi S a)++(([.rowB true sl stT S.length (az S),.val (.int .i64 a)]:List Vp)++(([.val (.int .i64 ((k:Nat):Int))]:List Vp)++(([.val (.int .i64 (S.length:Int)),.plc stT x.qs,.val (.int .i64 x.tm),.val (.int .i64 (((k:Nat):Int)+1))]:List Vp))))) (cmX (by kernel_rfl)) (by kernel_rfl) (Nat.le_add_left 1 _) ?_
   exact aR (N:=2) (σ:=[(2,.ref 6)]) (lo:=[]) (n:=300) (ai)
    (ae (bW 0 3 rfl rfl) (ae (aw (t:=3) (ah (n:=2) rfl) (ah (n:=3) rfl) (aL (by omega))) (ae (iaB (n:=0) (m:=4) rfl rfl (aU (ah (n:=2) rfl) (by omega)) hx) (ae (fa0 x 4 rfl) (ae (ldt x 4 5 rfl rfl) (ae (aw (t:=3) (ah (n:=5) rfl) (ah (n:=1) rfl) (aL (by omega))) (ae (cS (m:=6) (t:=3) (ah (n:=2) rfl) (aF (c:=1)) rfl rfl (by omega) (by omega)) (aj))))))))
    (by kernel_rfl) (obs:=[]) (by kernel_rfl) aC (cmP (by kernel_rfl)) (aD (sgi (n:=2) (u:=(((k:Nat):Int)+1)) (v:=((k+1:Nat):Int)) rfl (ah (n:=6) rfl) (by omega)) aP) (Nat.le_add_left 1 _)
  ·refine aV (N:=3) (ρx:=frs (gi S a)++(([.rowB true sl stT S.length (az S),.val (.int .i64 a)]:List Vp)++(([.val (.int .i64 ((plN S a:Nat):Int))]:List Vp)++(([.val (.int .i64 (S.length:Int))]:List Vp))))) (cmX (by kernel_rfl)) (by kernel_rfl) (Nat.le_add_left 1 _) ?_
   exact aR (N:=2) (σ:=[(2,.ref 2)]) (lo:=[]) (n:=300) (ai)
    (ae (bW 0 3 rfl rfl) (ae (aw (t:=3) (ah (n:=2) rfl) (ah (n:=3) rfl) (aK (by omega))) (aj)))
    (by kernel_rfl) (obs:=[]) (by kernel_rfl) aC (cmP (by kernel_rfl)) (aD (sgi (n:=2) (u:=((plN S a:Nat):Int)) (v:=((plN S a:Nat):Int)) rfl (ah (n:=2) rfl) (by omega)) aP) (Nat.le_add_left 1 _)
 refine(aG (ρ:=frs (gi S a)++(([.rowB true sl stT S.length (az S),.val (.int .i64 a)]:List Vp)++(([.val (.int .i64 ((plN S a:Nat):Int))]:List Vp)))) (w:=w) (fuel:=300) (m:=0) (S':=S) (args:=[.one (.ptr 0 0),.one (.ref 1)]) (vs:=[.pointer (some ⟨g,0,none⟩),.int .i64 a]) (r:=.v (.one (.ref 2))) (l:=.ref 0) (lo:=[some (kQ,.ext 0,iH)]) (obs:=[⟨bk Tryz.f45 0,kQ,.ext 0,iH⟩]) h
  (ai)
  aj Tryz.func45 rfl (by kernel_rfl) (bI hL0 aC) ⟨bE,⟨aH (n:=1) rfl aE,trivial⟩⟩ (cf rfl)).mono ?_
 rintro e w' ⟨v,B',rfl,h1,h2,h3⟩
 have e1:v= .int .i64 ((plN S a:Nat):Int):=bh rfl h1
 subst e1
 exact⟨rfl,h3 rfl⟩
def kR:MS:=cM 28 [(0,.v (.one (.ptr 0 0))),(1,.v (.one (.ref 1))),(5,.v (.one (.i .i64 0)))] [(79,[some (.ref 0)])]
def iI:MS:=cM 28 [(0,.v (.one (.ptr 0 0))),(1,.v (.one (.ref 1))),(5,.v (.one (.ref 2)))] [(79,[some (.ref 0)])]
def gj (S:List St) (a:Int):List Fq:=[]
theorem q_placeM {w:World} {g:Nat} {sl:Value} (S:List St) (a:Int) (h:TrkS 79 w g sl S) (hS:S.length≤1000) {x:St} (hx:S[plN S a]? =some x) (hlt:¬x.tm<a) (hp:plN S a<S.length):
  Calls Tryz.prog 45 (.pointer (some ⟨g,0,none⟩)::[.int .i64 a]).toArray w fun e w'=>e= .returned (.int .i64 ((plN S a:Nat):Int))∧Below w.heap.size w w':=by
 have hL0:LOb.Ok Tryz.prog (frs (gj S a)++(([.rowB true sl stT S.length (az S),.val (.int .i64 a)]:List Vp)++(([.val (.int .i64 ((plN S a:Nat):Int))]:List Vp)))) (gO w g) 28 ⟨bk Tryz.f45 0,kR,.ext 0,iI⟩:=by
  refine bx (plN S a) (fun k=>frs (gj S a)++(([.rowB true sl stT S.length (az S),.val (.int .i64 a)]:List Vp)++(([.val (.int .i64 ((k:Nat):Int))]:List Vp)))) (fun _=>iI) ?_ ?_ ?_ (by decide) (Nat.le_add_left 1 _)
  ·intro a_ w_ h_
   exact MSt.conv (N:=2) (σ:=[(2,.i .i64 0)]) (cmP (by kernel_rfl)) (aD (sgi (n:=2) (u:=0) (v:=((0:Nat):Int)) rfl (aF (c:=0)) (by omega)) aP) (by kernel_rfl) h_ (Nat.le_add_left 1 _)
  ·intro k hk
   obtain⟨x,hx,hlt⟩:=dl hk
   have hle:=a9 S a
   refine aV (N:=3) (ρx:=frs (gj S a)++(([.rowB true sl stT S.length (az S),.val (.int .i64 a)]:List Vp)++(([.val (.int .i64 ((k:Nat):Int))]:List Vp)++(([.val (.int .i64 (S.length:Int)),.plc stT x.qs,.val (.int .i64 x.tm),.val (.int .i64 (((k:Nat):Int)+1))]:List Vp))))) (cmX (by kernel_rfl)) (by kernel_rfl) (Nat.le_add_left 1 _) ?_
   exact aR (N:=2) (σ:=[(2,.ref 6)]) (lo:=[]) (n:=300) (ai)
    (ae (bW 0 3 rfl rfl) (ae (aw (t:=3) (ah (n:=2) rfl) (ah (n:=3) rfl) (aL (by omega))) (ae (iaB (n:=0) (m:=4) rfl rfl (aU (ah (n:=2) rfl) (by omega)) hx) (ae (fa0 x 4 rfl) (ae (ldt x 4 5 rfl rfl) (ae (aw (t:=3) (ah (n:=5) rfl) (ah (n:=1) rfl) (aL (by omega))) (ae (cS (m:=6) (t:=3) (ah (n:=2) rfl) (aF (c:=1)) rfl rfl (by omega) (by omega)) (aj))))))))
    (by kernel_rfl) (obs:=[]) (by kernel_rfl) aC (cmP (by kernel_rfl)) (aD (sgi (n:=2) (u:=(((k:Nat):Int)+1)) (v:=((k+1:Nat):Int)) rfl (ah (n:=6) rfl) (by omega)) aP) (Nat.le_add_left 1 _)
  ·refine aV (N:=3) (ρx:=frs (gj S a)++(([.rowB true sl stT S.length (az S),.val (.int .i64 a)]:List Vp)++(([.val (.int .i64 ((plN S a:Nat):Int))]:List Vp)++(([.val (.int .i64 (S.length:Int)),.plc stT x.qs,.val (.int .i64 x.tm)]:List Vp))))) (cmX (by kernel_rfl)) (by kernel_rfl) (Nat.le_add_left 1 _) ?_
   exact aR (N:=2) (σ:=[(2,.ref 2)]) (lo:=[]) (n:=300) (ai)
    (ae (bW 0 3 rfl rfl) (ae (aw (t:=3) (ah (n:=2) rfl) (ah (n:=3) rfl) (aL (by omega))) (ae (iaB (n:=0) (m:=4) rfl rfl (aU (ah (n:=2) rfl) (by omega)) hx) (ae (fa0 x 4 rfl) (ae (ldt x 4 5 rfl rfl) (ae (aw (t:=3) (ah (n:=5) rfl) (ah (n:=1) rfl) (aK (by omega))) (aj)))))))
    (by kernel_rfl) (obs:=[]) (by kernel_rfl) aC (cmP (by kernel_rfl)) (aD (sgi (n:=2) (u:=((plN S a:Nat):Int)) (v:=((plN S a:Nat):Int)) rfl (ah (n:=2) rfl) (by omega)) aP) (Nat.le_add_left 1 _)
 refine(aG (ρ:=frs (gj S a)++(([.rowB true sl stT S.length (az S),.val (.int .i64 a)]:List Vp)++(([.val (.int .i64 ((plN S a:Nat):Int))]:List Vp)))) (w:=w) (fuel:=300) (m:=0) (S':=S) (args:=[.one (.ptr 0 0),.one (.ref 1)]) (vs:=[.pointer (some ⟨g,0,none⟩),.int .i64 a]) (r:=.v (.one (.ref 2))) (l:=.ref 0) (lo:=[some (kR,.ext 0,iI)]) (obs:=[⟨bk Tryz.f45 0,kR,.ext 0,iI⟩]) h
  (ai)
  aj Tryz.func45 rfl (by kernel_rfl) (bI hL0 aC) ⟨bE,⟨aH (n:=1) rfl aE,trivial⟩⟩ (cf rfl)).mono ?_
 rintro e w' ⟨v,B',rfl,h1,h2,h3⟩
 have e1:v= .int .i64 ((plN S a:Nat):Int):=bh rfl h1
 subst e1
 exact⟨rfl,h3 rfl⟩
end Go.Proofs.YtfhinmdhjlmikaaGreat
