/- Tracks: rows as they come in. Tracks: Add at a stamp as it comes in; instances of Add and of New. Tracks: Of. Tracks: what lies around a time, and the pose there. Tracks: instances of their methods; which lists agree. Tracks: what lies around a time stays when stamps are dropped or added elsewhere. Trees of frames: the plain law. A tree is its links, in the order in which they were attached. Trees of frames: what keeps them trees. Tracks: rows of operations, and what they make of a track. Trees of frames: what the functions ask of a tree. Oracles of places, rows and maps whose parts have footprints of their own. Maps from texts: what their operations do. Trees of frames in memory: the blocks are named. -/
import Derived.Test.YtggfmklppkioeaaGreatP13
import Derived.MapKept
import Derived.Maps.RangeRun
namespace Go.Proofs.YtggfmklppkioeaaGreat
set_option linter.unusedSimpArgs false
set_option linter.unusedVariables false
set_option maxRecDepth 100000
open Go.RowKit
section
variable {ρ:Rho} {n m k L:Nat} {t e:TypeId} {B:Blk} {w:World} {qs:List Vp}
theorem hr0 {x:RSt}:∀(j:Nat) (q:Vp),x.qs[j]? =some q→x.qs[0+j]? =some q:=fun j q h=>by rw[Nat.zero_add];exact h
theorem hr1 {x:RSt}:∀(j:Nat) (q:Vp),(uG x.rs)[j]? =some q→x.qs[1+j]? =some q:=fun j q h=>by rw[Nat.add_comm];exact h
end
def RowN (ρ:Rho) (l:Leaf) (S:List St):Prop:=(l= .sl0∧S=[])∨∃k m,l= .own k m∧(ρ[m]? =some (.row stT S.length (aF S))∨ρ[m]? =some (.ownr stT 22 S.length (aF S)))
def runMk (p:Program) (C:List Inst) (L:List OIns) (fn:Func) (args:List SV) (u:Nat) (T:TypeId) (fuel:Nat) (lo:Los):Option (AV×Leaf×List LOb):=
 match ml p C L fn args [] fuel lo with
 | some (r,s,obs)=>match s.vars[u]? with
  | some (t,[some l])=>if t=T then some (r,l,obs)else none
  | _=>none
 | none=>none
theorem call_mkT {ρ:Rho} {w:World} {C:List Inst} {L:List OIns} {T:TypeId} {u:Nat} {l:Leaf} {S:List St} (hC:∀i∈C,i.Ok0 Tryz.prog ρ (.of w)) (hO:∀i∈L,i.OkE (.of w) Tryz.prog ρ) {f:FuncId} {fn:Func} (hf:Tryz.prog.funcs[f]? =some fn) {args:List SV} {vs:List Value} {fuel:Nat} {lo:Los} {r:AV} {obs:List LOb}
  (hr:runMk Tryz.prog C L fn args u T fuel lo=some (r,l,obs)) (hl:∀o∈obs,o.Ok Tryz.prog ρ (.of w) fn.ntmps) (ha:bW ρ noB w args vs) (hS:RowN ρ l S):
  Calls Tryz.prog f vs.toArray w (fun e w'=>∃v B' g sl,e= .returned v∧r.holds ρ B' w' v∧B'.v u=some g∧w.heap.size≤g∧TrkS T w' g sl S∧(∀b,sl.ownBlock=some b→w.heap.size≤b∧bC w' b)∧Below w.heap.size w w'):=by
 obtain⟨s,hr,hs⟩:∃s,ml Tryz.prog C L fn args [] fuel lo=some (r,s,obs)∧s.vars[u]? =some (T,[some l]):=by
  unfold runMk at hr;split at hr
  ·rename_i r' s obs' h1;split at hr
   ·rename_i t l' h2;split at hr
    ·rename_i ht;subst ht;simp only[Option.some.injEq,Prod.mk.injEq]at hr;obtain⟨rfl,rfl,rfl⟩:=hr;exact⟨s,h1,h2⟩
    ·cases hr
   ·cases hr
  ·cases hr
 refine(kW (E:=.of w) (B:=noB) hC hO (by kernel_rfl) hf hr hl (fun hn=>oM hn ha)).mono ?_;rintro e w' ⟨v,B',a',rfl,h1,hi,hv⟩;obtain⟨g,cs,e1,e2,e3,_⟩:=hi.var (x:=u) (t:=T) (ls:=[l]) hv hs (Nat.succ_pos _) (by show 1≤100000;decide);have hcs:∃sl,cs.toList=[sl]∧l.holds ρ B' w' sl:=by
  match hc:cs.toList,e3 with
  | [sl],e3=>exact⟨sl,rfl,e3.1⟩
  | [],e3=>exact e3.elim
  | _::_::_,e3=>exact e3.2.elim
 obtain⟨sl,h2,h3⟩:=hcs;have hcs:cs=#[sl]:=by rw[←Array.toList_inj];exact h2
 subst hcs;have hge:w.heap.size≤g:=by
  rcases(hi.blk _ _ e1).1 with h | h
  ·exact h
  ·exact h.elim
 refine⟨v,B',g,sl,rfl,h1,e1,hge,?_,?_,hi.below.to⟩
 ·rcases hS with⟨rfl,rfl⟩ | ⟨k,m,rfl,hm⟩
  ·have e:sl= .slice none 0 0:=h3;subst e;exact⟨e2,.inl ⟨rfl,rfl,rfl⟩,fun b hb=>by cases hb⟩
  ·have hrow:(Vp.row stT S.length (aF S)).p w' sl:=by
    rcases hm with hm | hm
    ·exact(ng hm h3).1
    ·exact iO (ng hm h3).1
   obtain⟨_,_,_,_,k4⟩:=h3;exact⟨e2,hrow,fun b hb e=>by subst e;exact hi.inj.vo _ _ _ e1 (k4 b hb)⟩
 ·rcases hS with⟨rfl,rfl⟩ | ⟨k,m,rfl,hm⟩
  ·have e:sl= .slice none 0 0:=h3;subst e;exact fun b hb=>by cases hb
  ·obtain⟨_,_,_,_,k4⟩:=h3;exact fun b hb=>by
    obtain⟨h5,h6⟩:=hi.own _ _ (k4 b hb);rcases h5 with h5 | h5
    ·exact⟨h5,h6⟩
    ·exact h5.elim
theorem q_tNew (w:World):Calls Tryz.prog 126 #[] w fun e w'=>∃g sl,e= .returned (.pointer (some ⟨g,0,none⟩))∧w.heap.size≤g∧TrkS 223 w' g sl []∧(∀b,sl.ownBlock=some b→w.heap.size≤b∧bC w' b)∧Below w.heap.size w w':=by
 refine(call_mkT (ρ:=[]) (w:=w) (fuel:=300) (args:=[]) (vs:=[]) (lo:=[]) (obs:=[]) (r:=.v (.one (.ptr 0 0))) (u:=0) (l:=.sl0) (S:=[]) (T:=223) ah ai Tryz.func126 (by kernel_rfl) aT trivial (.inl ⟨rfl,rfl⟩)).mono ?_;rintro e w' ⟨v,B',g,sl,rfl,⟨g',h1,rfl⟩,h2,h3⟩;rw[h2]at h1;injection h1 with h1;subst h1;exact⟨_,_,rfl,h3⟩
def RSt.two (x:RSt):Prop:=∀r∈x.rs,r.L≤2∧r.N≤2
theorem RSt.two.sm {x:RSt} (h:x.two):x.sm:=by
 have g:∀r∈x.rs,r.L≤1000000∧r.N≤1000000:=fun r hr=>⟨Nat.le_trans (h r hr).1 (by decide),Nat.le_trans (h r hr).2 (by decide)⟩
 exact⟨g _ (by simp[RSt.rs]),g _ (by simp[RSt.rs]),g _ (by simp[RSt.rs]),g _ (by simp[RSt.rs]),g _ (by simp[RSt.rs]),g _ (by simp[RSt.rs]),g _ (by simp[RSt.rs])⟩
theorem xi {x:RSt} {s:St} (h:x.two) (e:x=s.raw) (g:s.pose.good):s.pose.ok 2:=by
 subst e;have q:∀y:Fq,y.raw∈s.raw.rs→y.valid=true→y.ok 2:=fun y hy hv=>⟨(h _ hy).1,(h _ hy).2,Fq.valid.n hv⟩
 exact⟨⟨q _ (by simp[RSt.rs,St.raw]) g.rot.comp.w,q _ (by simp[RSt.rs,St.raw]) g.rot.comp.x,q _ (by simp[RSt.rs,St.raw]) g.rot.comp.y,q _ (by simp[RSt.rs,St.raw]) g.rot.comp.z⟩,⟨q _ (by simp[RSt.rs,St.raw]) g.pos.x,q _ (by simp[RSt.rs,St.raw]) g.pos.y,q _ (by simp[RSt.rs,St.raw]) g.pos.z⟩⟩
theorem pn {x:RSt} (h:pk x.r0 x.r1 x.r2 x.r3 x.r4 x.r5 x.r6=true):∃s:St,x=s.raw∧s.pose.good:=by
 unfold pk wP sM at h;simp only[Bool.and_eq_true]at h;obtain⟨⟨⟨h0,h1,h2,h3⟩,h7⟩,h4,h5,h6⟩:=h;have m0:=dL h0;have m1:=dL h1;have m2:=dL h2;have m3:=dL h3;have m4:=dL h4;have m5:=dL h5;have m6:=dL h6;have gc:(Qq.mk ⟨x.r0.s,x.r0.p,x.r0.q⟩ ⟨x.r1.s,x.r1.p,x.r1.q⟩ ⟨x.r2.s,x.r2.p,x.r2.q⟩ ⟨x.r3.s,x.r3.p,x.r3.q⟩).comp:=⟨m0.2,m1.2,m2.2,m3.2⟩;refine⟨⟨x.tm,⟨⟨⟨x.r0.s,x.r0.p,x.r0.q⟩,⟨x.r1.s,x.r1.p,x.r1.q⟩,⟨x.r2.s,x.r2.p,x.r2.q⟩,⟨x.r3.s,x.r3.p,x.r3.q⟩⟩,⟨⟨x.r4.s,x.r4.p,x.r4.q⟩,⟨x.r5.s,x.r5.p,x.r5.q⟩,⟨x.r6.s,x.r6.p,x.r6.q⟩⟩⟩⟩,?_,⟨yn gc (Fq.same_iff.1 h7),⟨m4.2,m5.2,m6.2⟩⟩⟩;have e0:=m0.1;have e1:=m1.1;have e2:=m2.1;have e3:=m3.1;have e4:=m4.1;have e5:=m5.1;have e6:=m6.1;obtain⟨tm,r0,r1,r2,r3,r4,r5,r6⟩:=x;simp only at e0 e1 e2 e3 e4 e5 e6;unfold St.raw;simp only[←e0,←e1,←e2,←e3,←e4,←e5,←e6]
open Classical in
noncomputable def qw (S:List St) (x:RSt):List St×Int:=if h:∃s:St,x=s.raw∧s.pose.good then sR S h.choose else(S,4)
theorem addR_good {S:List St} {x:RSt} (h:GoodS S) (h2:x.two):GoodS (qw S x).1:=by
 unfold qw;split
 ·rename_i hx;exact addS_good h (xi h2 hx.choose_spec.1 hx.choose_spec.2) hx.choose_spec.2
 ·exact h
theorem q_AddR (S:List St) (x:RSt) (v:Value) {w:World} {g:Nat} {sl:Value} (h:TrkS 223 w g sl S) (i:IsRS w v x) (h2:x.two) (hS:GoodS S):
  Calls Tryz.prog 127 (.pointer (some ⟨g,0,none⟩)::[v]).toArray w fun e w'=>e= .returned (.int .i64 (qw S x).2)∧TrkM 223 w g sl (qw S x).1 w':=by
 unfold qw;split
 ·rename_i hx;exact q_Add S hx.choose v h (by rw[←isRS_raw,←hx.choose_spec.1];exact i) (xi h2 hx.choose_spec.1 hx.choose_spec.2) hx.choose_spec.2 hS
 ·rename_i hx;by_cases r0:x.tm<0
  ·exact q_addRLo S x v h i h2.sm r0
  ·by_cases r1:1099511627776<x.tm
   ·exact q_addRHi S x v h i h2.sm r1
   ·exact q_addRBad S x v h i h2.sm (by omega) (by omega) (Bool.eq_false_iff.2 (fun e=>hx (pn e)))
section
variable {ρ:Rho} {n m m' k c u:Nat} {S:List St} {x:RSt} {ns:List Nat} {r:SV}
end
theorem yA {ρ:Rho} {m:Nat} {s:Vp} {w:World} {v:Value} (hm:ρ[m]? =some s) (h:s.p w v):(Leaf.ref m).holds ρ noB w v:=⟨s,hm,h,fun g _ hB=>by
 rcases hB with⟨x,hB⟩ | ⟨x,hB⟩
 ·cases hB
 ·exact hB⟩
theorem sS:∀ {S:List St} {b:Int} {k:Nat},(∀(i:Nat) (x:St),i<k→S[i]? =some x→x.tm<b)→(∀x,S[k]? =some x→¬x.tm<b)→k≤S.length→plN S b=k
 | [],_,k,_,_,hk=>by simp at hk;subst hk;rfl
 | s::S,b,0,_,h,_=>by
  have:=h s rfl;simp[plN,this]
 | s::S,b,k+1,h1,h2,hk=>by
  have h0:=h1 0 s (by omega) rfl;simp only[plN,if_pos h0];rw[sS (S:=S) (b:=b) (k:=k) (fun i x hi hx=>h1 (i+1) x (by omega) (by simpa using hx)) (fun x hx=>h2 x (by simpa using hx)) (by simp at hk;omega)]
inductive Road (S:List St) (a:Int):St→St→Int→Prop
 | E (h:S.length=0):Road S a zst zst 6
 | O1 (f:St) (hf:S[0]? =some f) (hn:0<S.length) (ha:a<f.tm):Road S a zst zst 17
 | O2 (f:St) (hf:S[0]? =some f) (hb:f.tm≤a) (l:St) (hl:S[S.length - 1]? =some l) (hn:0<S.length) (ha:l.tm<a):Road S a zst zst 17
 | Q (f:St) (hf:S[0]? =some f) (hb:f.tm≤a) (l:St) (hl:S[S.length - 1]? =some l) (hn:0<S.length) (ha:a≤l.tm) (y:St) (hy:S[plN S a]? =some y) (ey:y.tm=a) (hp:plN S a<S.length) (eq1:plN S (a+1)=plN S a+1):Road S a y y 0
 | M (f:St) (hf:S[0]? =some f) (hb:f.tm≤a) (l:St) (hl:S[S.length - 1]? =some l) (hn:0<S.length) (ha:a≤l.tm) (y:St) (hy:S[plN S a]? =some y) (ey:a<y.tm) (hp:plN S a<S.length) (h0:0<plN S a) (eq1:plN S (a+1)=plN S a) (z:St) (hz:S[plN S a - 1]? =some z):Road S a z y 0
theorem road {S:List St} (hS:GoodS S) (a:Int):∃z y c,Road S a z y c:=by
 by_cases h0:S.length=0
 ·exact⟨_,_,_,.E h0⟩
 ·obtain⟨f,hf⟩:∃f,S[0]? =some f:=⟨_,List.getElem?_eq_getElem (by omega)⟩;obtain⟨l,hl⟩:∃f,S[S.length - 1]? =some f:=⟨_,List.getElem?_eq_getElem (by omega)⟩;by_cases ha:a<f.tm
  ·exact⟨_,_,_,.O1 f hf (by omega) ha⟩
  ·by_cases hb:l.tm<a
   ·exact⟨_,_,_,.O2 f hf (by omega) l hl (by omega) hb⟩
   ·have hle:=bH S a;have hp:plN S a<S.length:=by
     by_cases e:plN S a=S.length
     ·obtain⟨x,h1,h2⟩:=fq (S:=S) (a:=a) (k:=S.length - 1) (by omega);rw[hl]at h1;injection h1 with h1;subst h1;exact absurd h2 hb
     ·omega
    obtain⟨y,hy,hge⟩:=wL hp;by_cases ey:y.tm=a
    ·refine⟨_,_,_,.Q f hf (by omega) l hl (by omega) (by omega) y hy ey hp (sS (fun i x hi hx=> ?_) (fun x hx=> ?_) (by omega))⟩
     ·by_cases e:i=plN S a
      ·subst e;rw[hy]at hx;injection hx with hx;subst hx;omega
      ·obtain⟨x',h1,h2⟩:=fq (S:=S) (a:=a) (k:=i) (by omega);rw[h1]at hx;injection hx with hx;subst hx;omega
     ·have:=hS.sort _ _ _ _ (Nat.lt_succ_self _) hy hx;omega
    ·have h1:0<plN S a:=by
      by_cases e:plN S a=0
      ·rw[e,hf]at hy;injection hy with hy;subst hy;omega
      ·omega
     obtain⟨z,hz⟩:∃f,S[plN S a - 1]? =some f:=⟨_,List.getElem?_eq_getElem (by omega)⟩;refine⟨_,_,_,.M f hf (by omega) l hl (by omega) (by omega) y hy (by omega) hp h1 (sS (fun i x hi hx=> ?_) (fun x hx=> ?_) hle) z hz⟩
     ·obtain⟨x',h3,h2⟩:=fq (S:=S) (a:=a) (k:=i) hi;rw[h3]at hx;injection hx with hx;subst hx;omega
     ·rw[hy]at hx;injection hx with hx;subst hx;omega
noncomputable def atP (z y:St) (c a:Int):Pq:=
 if c≠0 then Pq.zero else if z.tm=y.tm then y.pose else Pq.mk (z.pose.rot.way (z.pose.rot.inv.mul y.pose.rot) (Fq.ratio (a - z.tm) (y.tm - z.tm))) (z.pose.pos.lerp y.pose.pos (Fq.ratio (a - z.tm) (y.tm - z.tm)))
section
variable {S:List St} {a:Int} {z y:St} {c:Int} {w:World} {g:Nat} {sl:Value}
theorem q_AtS (h:TrkS 223 w g sl S) (hS:GoodS S) (hr:Road S a z y c):Calls Tryz.prog 98 (.pointer (some ⟨g,0,none⟩)::[.int .i64 a]).toArray w fun e w'=>∃v0:Value,e= .returned (.tuple #[v0,.int .i64 c])∧bw w' v0 (atP z y c a)∧Below w.heap.size w w':=by
 have hl:=hS.len
 cases hr with
 | E h0=>exact q_AtE S a h hl h0
 | O1 f hf hn ha=>exact q_AtO1 S a h hl f hf hn ha
 | O2 f hf hb l hl' hn ha=>exact q_AtO2 S a h hl f hf hb l hl' hn ha
 | Q f hf hb l hl' hn ha y hy ey hp eq1=>
  rw[show atP z z 0 a=z.pose by simp[atP]];exact q_AtQ S a h hl f hf hb l hl' hn ha _ hy ey hp (hS.at hy).ok (hS.at hy).good
 | M f hf hb l hl' hn ha y hy ey hp h0 eq1 z hz=>
  have h1:=fq (S:=S) (a:=a) (k:=plN S a - 1) (by omega);obtain⟨z',h2,h3⟩:=h1;rw[hz]at h2;injection h2 with h2;subst h2;have gy:=hS.at hy;have gz:=hS.at hz;rw[show atP z y 0 a=_ by simp only[atP];rw[if_neg (by omega),if_neg (by omega)]];exact q_AtM S a h hl f hf hb l hl' hn ha _ hy ey hp h0 gy.ok gy.good _ hz gz.ok gz.good gy.lo gy.hi gz.lo h3 (hS.adj _ _ _ hz (by rw[←hy];congr 1;omega))
end
theorem Pq.good.btw {a b:Pq} {m:Fq} (ga:a.good) (gb:b.good) (gm:m.valid=true):(Pq.mk (a.rot.way (a.rot.inv.mul b.rot) m) (a.pos.lerp b.pos m)).good:=Pq.good.mk (way_good ga.rot (fg (aZ ga.rot) gb.rot).comp gm) (ga.pos.lerp gb.pos gm)
theorem road_z {S:List St} {a:Int} {z y:St} {c:Int} (hS:GoodS S) (h:Road S a z y c) (h0:c=0):GoodT z∧GoodT y∧z.tm≤a∧a≤y.tm∧(z.tm=y.tm→z=y):=by
 cases h with
 | E _=>omega
 | O1 _ _ _ _=>omega
 | O2 _ _ _ _ _ _ _=>omega
 | Q f hf hb l hl hn ha y hy ey hp eq1=>exact⟨hS.at hy,hS.at hy,by omega,by omega,fun _=>rfl⟩
 | M f hf hb l hl hn ha y hy ey hp h1 eq1 z hz=>
  obtain⟨z',h2,h3⟩:=fq (S:=S) (a:=a) (k:=plN S a - 1) (by omega);rw[hz]at h2;injection h2 with h2;subst h2;exact⟨hS.at hz,hS.at hy,by omega,by omega,by omega⟩
section
variable {xs:List Fq} {ys:Rho} {n m m' u n0 n1:Nat} {k:Nat} {ks kr k0 k1:List Nat} {l la lc:Leaf} {S S':List St} {a c t:Int} {z y s:St} {r:SV}
end
section
variable {S S':List St} {i t a:Int} {z y:St}
theorem ends {S:List St} {k:Nat} {x:St} (hS:GoodS S) (hx:S[k]? =some x):∃f l,S[0]? =some f∧S[S.length - 1]? =some l∧f.tm≤x.tm∧x.tm≤l.tm∧k<S.length:=by
 have hk:=(List.getElem?_eq_some_iff.1 hx).1;refine⟨_,_,List.getElem?_eq_getElem (by omega),List.getElem?_eq_getElem (by omega),?_,?_,hk⟩
 ·rcases Nat.eq_zero_or_pos k with e | e
  ·subst e;rw[List.getElem?_eq_getElem hk]at hx;injection hx with hx;rw[hx];omega
  ·have:=hS.sort 0 k _ _ e (List.getElem?_eq_getElem (by omega)) hx;omega
 ·rcases Nat.lt_or_ge k (S.length - 1)with e | e
  ·have:=hS.sort k (S.length - 1) _ _ e hx (List.getElem?_eq_getElem (by omega));omega
  ·have e:k=S.length - 1:=by omega
   subst e;rw[List.getElem?_eq_getElem hk]at hx;injection hx with hx;rw[hx];omega
end
theorem atP_m {z y:St} {a:Int} (h:z.tm≠y.tm):atP z y 0 a=Pq.mk (z.pose.rot.way (z.pose.rot.inv.mul y.pose.rot) (Fq.ratio (a - z.tm) (y.tm - z.tm))) (z.pose.pos.lerp y.pose.pos (Fq.ratio (a - z.tm) (y.tm - z.tm))):=by
 unfold atP;rw[if_neg (by omega),if_neg h]
section
variable {xs:List Fq} {ys:Rho} {u:Nat} {l la:Leaf} {S:List St} {a:Int} {z y:St} {kr:List Nat} {E:Pq} {r:SV}
end
section
open Classical
abbrev Nm:=ByteArray
structure Lk where
 par:Nm
 fr:Int
 un:Int
 st:Bool
 po:Pq
 tr:List St
abbrev Tr:=List (Nm×Lk)
def Lk.has (x:Lk) (a:Int):Bool:=decide (x.fr≤a) && (decide (x.un= -1) || decide (a<x.un))
noncomputable def lks (R:Tr) (c:Nm):List Lk:=(R.filter fun q=>decide (q.1=c)).map (·.2)
noncomputable def tAt (R:Tr) (c:Nm) (a:Int):Option Lk:=(lks R c).find? (·.has a)
noncomputable def par (R:Tr) (a:Int) (c:Nm):Option Nm:=(tAt R c a).map (·.par)
theorem nX (c:Nm):lks [] c=[]:=rfl
theorem lM (q:Nm×Lk) (R:Tr) (c:Nm):lks (q::R) c=if q.1=c then q.2::lks R c else lks R c:=by
 unfold lks;by_cases h:q.1=c
 ·rw[if_pos h,List.filter_cons_of_pos (by simpa using h)];rfl
 ·rw[if_neg h,List.filter_cons_of_neg (by simpa using h)]
theorem gS (R Q:Tr) (c:Nm):lks (R++Q) c=lks R c++lks Q c:=by unfold lks;rw[List.filter_append,List.map_append]
theorem cn {R:Tr} {c:Nm} {x:Lk}:x∈lks R c↔(c,x)∈R:=by
 unfold lks;constructor
 ·intro h;obtain⟨q,h1,rfl⟩:=List.mem_map.1 h;obtain⟨h2,h3⟩:=List.mem_filter.1 h1;have e:q.1=c:=by simpa using h3
  subst e;exact h2
 ·intro h;exact List.mem_map.2 ⟨(c,x),List.mem_filter.2 ⟨h,by simp⟩,rfl⟩
def jH (L:List Lk):Prop:=L.Pairwise fun x y=>x.un≠ -1∧x.un≤y.fr
inductive Reach (R:Tr) (a:Int):Nm→Nm→Prop
 | refl (x:Nm):Reach R a x x
 | step {x y z:Nm} (h:par R a x=some y) (t:Reach R a y z):Reach R a x z
theorem Reach.snoc {R:Tr} {a:Int} {x y z:Nm} (h:Reach R a x y) (k:par R a y=some z):Reach R a x z:=by
 induction h with
 | refl x=>exact .step k (.refl _)
 | step h _ ih=>exact .step h (ih k)
theorem Reach.trans {R:Tr} {a:Int} {x y z:Nm} (h:Reach R a x y) (k:Reach R a y z):Reach R a x z:=by
 induction h with
 | refl x=>exact k
 | step h _ ih=>exact .step h (ih k)
def eC (R:Tr) (a:Int):Nm→Prop:=Acc fun y x=>par R a x=some y
theorem eC.no_loop {R:Tr} {a:Int} {x:Nm} (h:eC R a x):∀y,par R a x=some y→¬Reach R a y x:=by
 induction h with
 | intro x _ ih=>
  intro y hy hr
  cases hr with
  | refl=>exact ih _ hy _ hy (.refl _)
  | step h t=>exact ih y hy _ h (t.snoc hy)
theorem eC.tail {R:Tr} {a:Int} {x y:Nm} (h:eC R a x) (k:par R a x=some y):eC R a y:=Acc.inv h k
theorem eC.reach {R:Tr} {a:Int} {x y:Nm} (h:eC R a x) (k:Reach R a x y):eC R a y:=by
 induction k with
 | refl=>exact h
 | step e _ ih=>exact ih (h.tail e)
theorem eC.mono {R R':Tr} {a a':Int} (hp:∀x y,par R' a' x=some y→par R a x=some y) {x:Nm} (h:eC R a x):eC R' a' x:=by
 induction h with
 | intro x _ ih=>exact .intro x (fun y hy=>ih y (hp x y hy))
theorem eC.add {R R':Tr} {a:Int} {c p:Nm} (hc:∀x,x≠c→par R' a x=par R a x) (hn:par R' a c=some p) (hl:∀x,eC R a x) (hno:¬Reach R a p c):∀x,eC R' a x:=by
 have h1:∀x,eC R a x→¬Reach R a x c→eC R' a x:=by
  intro x h
  induction h with
  | intro x _ ih=>
   intro hno;refine .intro x (fun y hy=> ?_);have hx:x≠c:=fun e=>hno (e▸ .refl _)
   have hy:par R a x=some y:=by rw[←hc x hx];exact hy
   exact ih y hy (fun hr=>hno (.step hy hr))
 have h2:eC R' a c:=.intro c (fun y hy=>by
  have hy:par R' a c=some y:=hy;rw[hn]at hy;injection hy with hy;subst hy;exact h1 p (hl p) hno)
 intro x;have h:=hl x
 induction h with
 | intro x _ ih=>
  by_cases e:x=c
  ·subst e;exact h2
  ·exact .intro x (fun y hy=>ih y (by rw[←hc x e];exact hy))
noncomputable def up (R:Tr) (a:Int):Nat→Nm→Option Nm
 | 0,x=>some x
 | n+1,x=>(par R a x).bind (up R a n)
theorem par_mem {R:Tr} {a:Int} {x y:Nm} (h:par R a x=some y):x∈R.map (·.1):=by
 unfold par tAt at h
 cases hf:(lks R x).find? (·.has a)with
 | none=>rw[hf]at h;cases h
 | some q=>exact List.mem_map.2 ⟨(x,q),cn.1 (List.mem_of_find?_eq_some hf),rfl⟩
theorem iU:∀ {l m:List Nm},l.Nodup→(∀x∈l,x∈m)→l.length≤m.length
 | [],_,_,_=>Nat.zero_le _
 | x::l,m,hn,hs=>by
  obtain⟨h1,h2⟩:=List.nodup_cons.1 hn;obtain⟨s,t,rfl⟩:=List.append_of_mem (hs x (List.mem_cons_self ..));have h3:∀y∈l,y∈s++t:=fun y hy=>by
   have h4:=hs y (List.mem_cons_of_mem _ hy);rcases List.mem_append.1 h4 with h5 | h5
   ·exact List.mem_append.2 (.inl h5)
   ·rcases List.mem_cons.1 h5 with h6 | h6
    ·subst h6;exact absurd hy h1
    ·exact List.mem_append.2 (.inr h6)
  have h4:=iU h2 h3;simp only[List.length_cons,List.length_append]at h4⊢;omega
theorem eC.bound {R:Tr} {a:Int} {x:Nm} (h:eC R a x):∃(l:List Nm) (y:Nm),l.Nodup∧(∀z∈l,(z∈R.map (·.1)∧par R a z≠none)∧Reach R a x z)∧up R a l.length x=some y∧par R a y=none∧Reach R a x y:=by
 induction h with
 | intro x hx ih=>
  cases hp:par R a x with
  | none=>exact⟨[],x,List.nodup_nil,fun z hz=>(by cases hz),rfl,hp,.refl _⟩
  | some z=>
   obtain⟨l,y,h1,h2,h3,h4,h5⟩:=ih z hp;have hx:eC R a x:=.intro x hx;refine⟨x::l,y,List.nodup_cons.2 ⟨fun hm=>hx.no_loop z hp (h2 x hm).2,h1⟩,fun q hq=> ?_,?_,h4,.step hp h5⟩
   ·rcases List.mem_cons.1 hq with rfl | hq
    ·exact⟨⟨par_mem hp,by rw[hp];simp⟩,.refl _⟩
    ·exact⟨(h2 q hq).1,.step hp (h2 q hq).2⟩
   ·simp only[List.length_cons,up,hp,Option.bind_some];exact h3
theorem eC.root {R:Tr} {a:Int} {x:Nm} (h:eC R a x):∃n y,n≤R.length∧up R a n x=some y∧par R a y=none:=by
 obtain⟨l,y,h1,h2,h3,h4,_⟩:=h.bound;exact⟨l.length,y,by have:=iU h1 (fun z hz=>(h2 z hz).1.1);rwa [List.length_map]at this,h3,h4⟩
end
section
open Classical
abbrev mD:Int:=1099511627776
theorem dv {x:Lk} {a:Int}:x.has a=true↔x.fr≤a∧(x.un= -1∨a<x.un):=by simp[Lk.has]
theorem yB:∀ {L:List Lk} {x:Lk} {a:Int},jH L→x∈L→x.has a=true→L.find? (·.has a)=some x
 | [],_,_,_,h,_=>by cases h
 | y::L,x,a,hr,hm,hx=>by
  obtain⟨h1,h2⟩:=List.pairwise_cons.1 hr;rcases List.mem_cons.1 hm with rfl | hm
  ·rw[List.find?_cons_of_pos (by exact hx)]
  ·have h3:=h1 x hm;have h4:=dv.1 hx;have hy:¬(y.has a=true):=fun hy=>by
    have h5:=dv.1 hy;rcases h5.2 with h6 | h6
    ·exact h3.1 h6
    ·omega
   rw[List.find?_cons_of_neg (by exact hy)];exact yB h2 hm hx
theorem tAt_of {R:Tr} {c:Nm} {x:Lk} {a:Int} (hr:jH (lks R c)) (hm:(c,x)∈R) (hx:x.has a=true):tAt R c a=some x:=yB hr (cn.2 hm) hx
theorem nY {R:Tr} {c:Nm} {x:Lk} {a:Int} (h:tAt R c a=some x):(c,x)∈R∧x.has a=true:=by
 unfold tAt at h;exact⟨cn.1 (List.mem_of_find?_eq_some h),by have:=List.find?_some h;exact this⟩
theorem uK {R:Tr} {c:Nm} {a:Int} (h:∀x,(c,x)∈R→¬(x.has a=true)):tAt R c a=none:=by
 unfold tAt;exact List.find?_eq_none.2 (fun x hx=>h x (cn.1 hx))
theorem par_of {R:Tr} {c:Nm} {x:Lk} {a:Int} (hr:jH (lks R c)) (hm:(c,x)∈R) (hx:x.has a=true):par R a c=some x.par:=by unfold par;rw[tAt_of hr hm hx];rfl
theorem jl {R:Tr} {a:Int} {c y:Nm} (h:par R a c=some y):∃x,(c,x)∈R∧x.has a=true∧x.par=y:=by
 unfold par at h
 cases hf:tAt R c a with
 | none=>rw[hf]at h;cases h
 | some x=>rw[hf]at h;injection h with h;exact⟨x,(nY hf).1,(nY hf).2,h⟩
theorem uL {R:Tr} (hr:∀c,jH (lks R c)) {f a:Int} (hfa:f≤a) {x y:Nm} (h:Reach R a x y):∃s,f≤s∧s≤a∧(s=f∨∃q∈R,q.2.fr=s)∧∀t,s≤t→t≤a→Reach R t x y:=by
 induction h with
 | refl x=>exact⟨f,Int.le_refl _,hfa,.inl rfl,fun _ _ _=>.refl _⟩
 | @step x y z h _ ih=>
  obtain⟨s,h1,h2,h3,h4⟩:=ih;obtain⟨q,hq,hh,rfl⟩:=jl h;have h5:=dv.1 hh;have hp:∀t,q.fr≤t→t≤a→par R t x=some q.par:=fun t h6 h7=>par_of (hr x) hq (dv.2 ⟨h6,by rcases h5.2 with h8 | h8;exact .inl h8;exact .inr (by omega)⟩)
  by_cases hs:q.fr≤s
  ·exact⟨s,h1,h2,h3,fun t h6 h7=>.step (hp t (by omega) h7) (h4 t h6 h7)⟩
  ·exact⟨q.fr,by omega,h5.1,.inr ⟨(x,q),hq,rfl⟩,fun t h6 h7=>.step (hp t h6 h7) (h4 t (by omega) h7)⟩
structure TOk (R:Tr):Prop where
 row:∀c,jH (lks R c)
 tm:∀q∈R,0≤q.2.fr∧q.2.fr≤mD∧(q.2.un= -1∨q.2.fr<q.2.un∧q.2.un≤mD)
 acy:∀a x,eC R a x
 good:∀q∈R,GoodS q.2.tr
 pose:∀q∈R,q.2.st=true→q.2.po.good∧q.2.po.ok 2
theorem TOk.nil:TOk [] where
 row:=fun c=>by rw[nX];exact .nil
 tm:=fun q h=>by cases h
 acy:=fun a x=>.intro x (fun y h=>by obtain⟨z,hz,_⟩:=jl h;cases hz)
 good:=fun q h=>by cases h
 pose:=fun q h=>by cases h
def Cyc (R:Tr) (c p:Nm) (f:Int):Prop:=Reach R f p c∨∃q∈R,f<q.2.fr∧Reach R q.2.fr p c
def df (p:Nm) (f:Int):Lk:=⟨p,f, -1,false,Pq.zero,[]⟩
def lN (R:Tr) (c p:Nm) (f:Int):Tr:=R++ [(c,df p f)]
theorem jm (R:Tr) (c p:Nm) (f:Int) (y:Nm):lks (lN R c p f) y=if y=c then lks R y++ [df p f]else lks R y:=by
 unfold lN;rw[gS,lM,nX];by_cases h:c=y
 ·subst h;rw[if_pos rfl,if_pos rfl]
 ·rw[if_neg h,if_neg (fun e=>h e.symm),List.append_nil]
theorem nZ {R:Tr} {c p:Nm} {f:Int} (y:Nm) (a:Int):par (lN R c p f) a y=if y=c then(match par R a y with | some z=>some z | none=>if f≤a then some p else none)else par R a y:=by
 unfold par tAt;rw[jm];by_cases h:y=c
 ·rw[if_pos h,if_pos h,List.find?_append]
  cases hf:(lks R y).find? (·.has a)with
  | some x=>rfl
  | none=>
   by_cases ha:f≤a
   ·have:(df p f).has a=true:=dv.2 ⟨ha,.inl rfl⟩;simp only[Option.none_or,List.find?,this,if_pos ha];rfl
   ·have:(df p f).has a=false:=Bool.eq_false_iff.2 (fun e=>ha (dv.1 e).1);simp only[Option.none_or,List.find?,this,if_neg ha];rfl
 ·rw[if_neg h,if_neg h]
theorem TOk.att {R:Tr} (h:TOk R) {c p:Nm} {f:Int} (h0:0≤f) (h1:f≤mD) (hu:∀x∈lks R c,x.un≠ -1∧x.un≤f) (hc:¬Cyc R c p f):TOk (lN R c p f) where
 row:=fun y=>by
  rw[jm];split
  ·rename_i e;subst e;exact List.pairwise_append.2 ⟨h.row _,List.pairwise_singleton _ _,fun x hx z hz=>by
    simp only[List.mem_singleton]at hz;subst hz;exact hu x hx⟩
  ·exact h.row y
 tm:=fun q hq=>by
  rcases List.mem_append.1 hq with hq | hq
  ·exact h.tm q hq
  ·simp only[List.mem_singleton]at hq;subst hq;exact⟨h0,h1,.inl rfl⟩
 acy:=fun a x=>by
  by_cases ha:f≤a
  ·have hn:par R a c=none:=by
    unfold par;rw[uK (fun z hz hh=> ?_)];rfl;have h2:=hu z (cn.2 hz);rcases(dv.1 hh).2 with h3 | h3
    ·exact h2.1 h3
    ·omega
   refine eC.add (c:=c) (p:=p) (fun y hy=>by rw[nZ,if_neg hy]) (by rw[nZ,if_pos rfl,hn];simp[ha]) (h.acy a) (fun hr=> ?_) x;obtain⟨s,h2,h3,h4,h5⟩:=uL h.row ha hr;have hs:=h5 s (Int.le_refl _) h3;rcases h4 with rfl | ⟨q,hq,rfl⟩
   ·exact hc (.inl hs)
   ·by_cases e:q.2.fr=f
    ·rw[e]at hs;exact hc (.inl hs)
    ·exact hc (.inr ⟨q,hq,by omega,hs⟩)
  ·refine(h.acy a x).mono (fun y z hy=> ?_);rw[nZ]at hy;by_cases e:y=c
   ·rw[if_pos e]at hy
    cases hp:par R a y with
    | some w=>rw[hp]at hy;exact hy
    | none=>rw[hp]at hy;simp[ha]at hy
   ·rw[if_neg e]at hy;exact hy
 good:=fun q hq=>by
  rcases List.mem_append.1 hq with hq | hq
  ·exact h.good q hq
  ·simp only[List.mem_singleton]at hq;subst hq;exact GoodS.nil
 pose:=fun q hq hs=>by
  rcases List.mem_append.1 hq with hq | hq
  ·exact h.pose q hq hs
  ·simp only[List.mem_singleton]at hq;subst hq;cases hs
theorem cM (A B:Tr) (c:Nm) (x:Lk) (y:Nm):lks (A++(c,x)::B) y=if y=c then lks A y++x::lks B y else lks A y++lks B y:=by
 rw[gS,lM];by_cases h:c=y
 ·subst h;rw[if_pos rfl,if_pos rfl]
 ·rw[if_neg h,if_neg (fun e=>h e.symm)]
theorem pp {A B:Tr} {c:Nm} {x x':Lk} (e1:x'.par=x.par) (e2:x'.fr=x.fr) (e3:x'.un=x.un) (a:Int) (y:Nm):par (A++(c,x')::B) a y=par (A++(c,x)::B) a y:=by
 have hh:x'.has a=x.has a:=by unfold Lk.has;rw[e2,e3]
 unfold par tAt;rw[cM,cM];split
 ·rw[List.find?_append,List.find?_append]
  cases (lks A y).find? (·.has a)with
  | some z=>rfl
  | none=>
   simp only[Option.none_or,List.find?,hh]
   cases x.has a with
   | true=>simp[e1]
   | false=>rfl
 ·rfl
theorem TOk.same {A B:Tr} {c:Nm} {x x':Lk} (h:TOk (A++(c,x)::B)) (e1:x'.par=x.par) (e2:x'.fr=x.fr) (e3:x'.un=x.un) (hg:GoodS x'.tr) (hp:x'.st=true→x'.po.good∧x'.po.ok 2):TOk (A++(c,x')::B):=by
 have hm:∀q,q∈A++(c,x')::B→q∈A++(c,x)::B∨q=(c,x'):=fun q hq=>by
  rcases List.mem_append.1 hq with h1 | h1
  ·exact .inl (List.mem_append.2 (.inl h1))
  ·rcases List.mem_cons.1 h1 with h2 | h2
   ·exact .inr h2
   ·exact .inl (List.mem_append.2 (.inr (List.mem_cons_of_mem _ h2)))
 have hx:=h.tm (c,x) (List.mem_append.2 (.inr (List.mem_cons_self ..)));refine⟨fun y=> ?_,fun q hq=> ?_,fun a y=>(h.acy a y).mono (fun u v hu=>by rw[pp e1 e2 e3]at hu;exact hu),fun q hq=> ?_,fun q hq=> ?_⟩
 ·have h1:=h.row y;rw[cM]at h1⊢;split
  ·rename_i e;rw[if_pos e]at h1;obtain⟨p1,p2,p3⟩:=List.pairwise_append.1 h1;obtain⟨p4,p5⟩:=List.pairwise_cons.1 p2;refine List.pairwise_append.2 ⟨p1,List.pairwise_cons.2 ⟨fun z hz=> ?_,p5⟩,fun u hu z hz=> ?_⟩
   ·rw[e3];exact p4 z hz
   ·rcases List.mem_cons.1 hz with rfl | hz
    ·rw[e2];exact p3 u hu x (List.mem_cons_self ..)
    ·exact p3 u hu z (List.mem_cons_of_mem _ hz)
  ·rename_i e;rw[if_neg e]at h1;exact h1
 ·rcases hm q hq with h1 | rfl
  ·exact h.tm q h1
  ·show 0≤x'.fr∧_;rw[e2,e3];exact hx
 ·rcases hm q hq with h1 | rfl
  ·exact h.good q h1
  ·exact hg
 ·rcases hm q hq with h1 | rfl
  ·exact h.pose q h1
  ·exact hp
theorem jn {A B:Tr} {c:Nm} {x:Lk} (hr:jH (lks (A++(c,x)::B) c)) (hx:x.un= -1):lks B c=[]:=by
 rw[cM,if_pos rfl]at hr;obtain⟨_,p2,_⟩:=List.pairwise_append.1 hr;obtain⟨p4,_⟩:=List.pairwise_cons.1 p2
 cases hB:lks B c with
 | nil=>rfl
 | cons z l=>exact absurd hx (p4 z (by rw[hB];exact List.mem_cons_self ..)).1
theorem yC {A B:Tr} {c:Nm} {x:Lk} {u:Int} (hr:∀y,jH (lks (A++(c,x)::B) y)) (hx:x.un= -1) (a:Int) (y:Nm):
  par (A++(c,{x with un:=u})::B) a y=if y=c∧x.fr≤a∧u≤a∧u≠ -1 then none else par (A++(c,x)::B) a y:=by
 have hB:=jn (hr c) hx;unfold par tAt;rw[cM,cM];by_cases hy:y=c
 ·subst hy;have h1:=hr y;rw[cM,if_pos rfl]at h1;obtain⟨_,_,p3⟩:=List.pairwise_append.1 h1;rw[if_pos rfl,if_pos rfl,hB,List.find?_append,List.find?_append]
  cases hf:(lks A y).find? (·.has a)with
  | some z=>
   have hz:=List.mem_of_find?_eq_some hf;have hz2:z.has a=true:=by have:=List.find?_some hf;exact this
   have h3:=p3 z hz x (List.mem_cons_self ..);have h4:=dv.1 hz2;rw[if_neg (fun hh=>by rcases h4.2 with h5 | h5;exact h3.1 h5;omega)];rfl
  | none=>
   by_cases hc:x.fr≤a∧u≤a∧u≠ -1
   ·have:({x with un:=u}:Lk).has a=false:=Bool.eq_false_iff.2 (fun e=>by have:=(dv.1 e).2;simp only at this;omega);rw[if_pos ⟨rfl,hc⟩];simp[List.find?,this]
   ·rw[if_neg (fun hh=>hc hh.2)];have:({x with un:=u}:Lk).has a=x.has a:=by
     have e1:({x with un:=u}:Lk).has a=true↔x.has a=true:=by
      rw[dv,dv];simp only[hx];constructor
      ·rintro⟨h1,_⟩;exact⟨h1,.inl trivial⟩
      ·rintro⟨h1,_⟩;exact⟨h1,by omega⟩
     exact Bool.eq_iff_iff.2 e1
    simp only[Option.none_or,List.find?,this];cases x.has a<;>rfl
 ·rw[if_neg hy,if_neg hy,if_neg (fun hh=>hy hh.1)]
theorem TOk.det {A B:Tr} {c:Nm} {x:Lk} {u:Int} (h:TOk (A++(c,x)::B)) (hx:x.un= -1) (h1:x.fr<u) (h2:u≤mD):TOk (A++(c,{x with un:=u})::B):=by
 have hB:=jn (h.row c) hx;have hm:∀q,q∈A++(c,{x with un:=u})::B→q∈A++(c,x)::B∨q=(c,{x with un:=u}):=fun q hq=>by
  rcases List.mem_append.1 hq with h1 | h1
  ·exact .inl (List.mem_append.2 (.inl h1))
  ·rcases List.mem_cons.1 h1 with h2 | h2
   ·exact .inr h2
   ·exact .inl (List.mem_append.2 (.inr (List.mem_cons_of_mem _ h2)))
 have hm0:(c,x)∈A++(c,x)::B:=List.mem_append.2 (.inr (List.mem_cons_self ..));have hx0:=h.tm (c,x) hm0;refine⟨fun y=> ?_,fun q hq=> ?_,fun a y=>(h.acy a y).mono (fun s t hs=> ?_),fun q hq=> ?_,fun q hq=> ?_⟩
 ·have h3:=h.row y;rw[cM]at h3⊢;split
  ·rename_i e;subst e;rw[if_pos rfl,hB]at h3;rw[hB];obtain⟨p1,_,p3⟩:=List.pairwise_append.1 h3;exact List.pairwise_append.2 ⟨p1,List.pairwise_singleton _ _,fun u' hu z hz=>by
    simp only[List.mem_singleton]at hz;subst hz;exact p3 u' hu x (List.mem_cons_self ..)⟩
  ·rename_i e;rw[if_neg e]at h3;exact h3
 ·rcases hm q hq with h3 | rfl
  ·exact h.tm q h3
  ·exact⟨hx0.1,hx0.2.1,.inr ⟨h1,h2⟩⟩
 ·rw[yC h.row hx]at hs;split at hs
  ·cases hs
  ·exact hs
 ·rcases hm q hq with h3 | rfl
  ·exact h.good q h3
  ·exact h.good (c,x) hm0
 ·rcases hm q hq with h3 | rfl
  ·exact h.pose q h3
  ·exact h.pose (c,x) hm0
end
structure ROp where
 k:Int
 x:RSt
def ROp.r (o:ROp):Int:=o.k.tmod 4
def ROp.qs (o:ROp):List Vp:=.val (.int .u8 o.k)::o.x.qs
section
variable {ρ:Rho} {n m m' k j j':Nat} {t e:TypeId} {l:Leaf}
theorem QL.app {ls ls':List Leaf} {qs qs':List Vp} (h:QL ρ ls qs) (h':QL ρ ls' qs'):QL ρ (ls++ls') (qs++qs'):=by
 induction ls generalizing qs with
 | nil=>cases qs with
  | nil=>exact h'
  | cons=>exact h.elim
 | cons l ls ih=>cases qs with
  | nil=>exact h.elim
  | cons q qs=>exact⟨h.1,ih h.2⟩
end
section
variable {ρ:Rho} {n n' m u n0 n1:Nat} {l la lc:Leaf} {S:List St} {a c:Int} {z y:St} {ns k0 k1:List Nat} {r:SV}
end
section
open Classical
def PlAt (R:Tr) (c:Nm) (a:Int) (k:Nat) (x:Lk):Prop:=R[k]? =some (c,x)∧x.has a=true∧∀(i:Nat) (q:Nm×Lk),i<k→R[i]? =some q→¬(q.1=c∧q.2.has a=true)
def PlNo (R:Tr) (c:Nm) (a:Int):Prop:=∀(i:Nat) (q:Nm×Lk),R[i]? =some q→¬(q.1=c∧q.2.has a=true)
theorem PlNo.tAt {R:Tr} {c:Nm} {a:Int} (h:PlNo R c a):tAt R c a=none:=uK (fun x hx hh=>by
 obtain⟨i,hi,e⟩:=List.getElem_of_mem hx;exact h i (c,x) (by rw[List.getElem?_eq_getElem hi,e]) ⟨rfl,hh⟩)
theorem PlAt.tAt {R:Tr} {c:Nm} {a:Int} {k:Nat} {x:Lk} (hr:jH (lks R c)) (h:PlAt R c a k x):tAt R c a=some x:=tAt_of hr (List.mem_of_getElem? h.1) h.2.1
def eE (R:Tr) (c:Nm) (k:Nat) (x:Lk):Prop:=R[k]? =some (c,x)∧x.un= -1
def pq (R:Tr) (c:Nm):Prop:=∀(i:Nat) (q:Nm×Lk),R[i]? =some q→¬(q.1=c∧q.2.un= -1)
theorem pt {α:Type} {R:List α} {k:Nat} {q:α} (h:R[k]? =some q):∃A B,R=A++q::B∧A.length=k:=by
 obtain⟨hk,e⟩:=List.getElem?_eq_some_iff.1 h;exact⟨R.take k,R.drop (k+1),by rw[←e,←List.drop_eq_getElem_cons hk,List.take_append_drop],by rw[List.length_take];omega⟩
theorem eE.last {R:Tr} {c:Nm} {k:Nat} {x:Lk} (hr:jH (lks R c)) (h:eE R c k x):(lks R c).getLast? =some x:=by
 obtain⟨A,B,rfl,_⟩:=pt h.1;rw[cM,if_pos rfl,jn hr h.2,List.getLast?_append];rfl
theorem pq.last {R:Tr} {c:Nm} (h:pq R c) {x:Lk} (hx:(lks R c).getLast? =some x):x.un≠ -1:=fun e=>by
 obtain⟨i,hi,e2⟩:=List.getElem_of_mem (cn.1 (List.mem_of_getLast? hx));exact h i (c,x) (by rw[List.getElem?_eq_getElem hi,e2]) ⟨rfl,e⟩
theorem ended {L:List Lk} {f:Int} (hr:jH L) (hn:∀x∈L,x.un≠ -1) (htm:∀x∈L,x.fr<x.un) (hl:∀x,L.getLast? =some x→x.un≤f):∀x∈L,x.un≤f:=by
 induction L with
 | nil=>intro x hx;cases hx
 | cons y L ih=>
  obtain⟨h1,h2⟩:=List.pairwise_cons.1 hr
  cases L with
  | nil=>
   intro x hx;simp only[List.mem_singleton]at hx;subst hx;exact hl x rfl
  | cons z L=>
   have ih:=ih h2 (fun x hx=>hn x (List.mem_cons_of_mem _ hx)) (fun x hx=>htm x (List.mem_cons_of_mem _ hx)) (fun x hx=>hl x (by rw[List.getLast?_cons_cons];exact hx));intro x hx;rcases List.mem_cons.1 hx with rfl | hx
   ·have h3:=(h1 z (List.mem_cons_self ..)).2;have h4:=htm z (List.mem_cons_of_mem _ (List.mem_cons_self ..));have h5:=ih z (List.mem_cons_self ..);omega
   ·exact ih x hx
def a8 (R:Tr) (c:Nm):Prop:=∃q∈R,q.1=c∨q.2.par=c
def bS (P:Nm→Prop) (n:Nat):Prop:=∃l:List Nm,l.Nodup∧(∀x,x∈l↔P x)∧l.length=n
theorem bS.uniq {P:Nm→Prop} {n m:Nat} (h:bS P n) (k:bS P m):n=m:=by
 obtain⟨l,h1,h2,rfl⟩:=h;obtain⟨l',k1,k2,rfl⟩:=k;exact Nat.le_antisymm (iU h1 (fun x hx=>(k2 x).2 ((h2 x).1 hx))) (iU k1 (fun x hx=>(h2 x).2 ((k2 x).1 hx)))
theorem bS.add {P:Nm→Prop} {n:Nat} {c:Nm} (h:bS P n) (hc:¬P c):bS (fun x=>P x∨x=c) (n+1):=by
 obtain⟨l,h1,h2,rfl⟩:=h;refine⟨c::l,List.nodup_cons.2 ⟨fun hm=>hc ((h2 c).1 hm),h1⟩,fun x=> ?_,rfl⟩;rw[List.mem_cons,h2];exact or_comm
theorem bS.same {P Q:Nm→Prop} {n:Nat} (h:bS P n) (e:∀x,P x↔Q x):bS Q n:=by
 obtain⟨l,h1,h2,h3⟩:=h;exact⟨l,h1,fun x=>(h2 x).trans (e x),h3⟩
inductive AttS (isN:Nm→Prop) (R:Tr) (c p:Nm) (f:Int):Tr→Int→Prop
 | name (h:¬(isN c∧isN p)):AttS isN R c p f R 5
 | time (h:isN c∧isN p) (ht:f<0∨mD<f∨(∃k x,eE R c k x)∨∃x∈lks R c,f<x.un):AttS isN R c p f R 17
 | full (h:isN c∧isN p) (h0:0≤f) (h1:f≤mD) (h2:pq R c) (h3:∀x∈lks R c,x.un≤f) (n:Nat) (hn:bS (fun x=>a8 R x∨x=c∨x=p) n) (hf:24<n∨64≤(lks R c).length):AttS isN R c p f R 15
 | cycle (h:isN c∧isN p) (h0:0≤f) (h1:f≤mD) (h2:pq R c) (h3:∀x∈lks R c,x.un≤f) (n:Nat) (hn:bS (fun x=>a8 R x∨x=c∨x=p) n) (hf:n≤24∧(lks R c).length<64) (hc:Cyc R c p f):AttS isN R c p f R 19
 | ok (h:isN c∧isN p) (h0:0≤f) (h1:f≤mD) (h2:pq R c) (h3:∀x∈lks R c,x.un≤f) (n:Nat) (hn:bS (fun x=>a8 R x∨x=c∨x=p) n) (hf:n≤24∧(lks R c).length<64) (hc:¬Cyc R c p f):AttS isN R c p f (lN R c p f) 0
theorem AttS.tok {isN:Nm→Prop} {R R':Tr} {c p:Nm} {f e:Int} (hR:TOk R) (h:AttS isN R c p f R' e):TOk R':=by
 cases h with
 | ok _ h0 h1 h2 h3 _ _ _ hc=>
  refine hR.att h0 h1 (fun x hx=>⟨fun e=> ?_,h3 x hx⟩) hc;obtain⟨i,hi,e2⟩:=List.getElem_of_mem (cn.1 hx);exact h2 i (c,x) (by rw[List.getElem?_eq_getElem hi,e2]) ⟨rfl,e⟩
 | _=>exact hR
theorem known_att {R:Tr} {c p:Nm} {f:Int} (x:Nm):a8 (lN R c p f) x↔a8 R x∨x=c∨x=p:=by
 unfold a8 lN;constructor
 ·rintro⟨q,hq,h⟩;rcases List.mem_append.1 hq with hq | hq
  ·exact .inl ⟨q,hq,h⟩
  ·simp only[List.mem_singleton]at hq;subst hq;rcases h with h | h
   ·exact .inr (.inl h.symm)
   ·exact .inr (.inr h.symm)
 ·rintro(⟨q,hq,h⟩ | rfl | rfl)
  ·exact⟨q,List.mem_append.2 (.inl hq),h⟩
  ·exact⟨_,List.mem_append.2 (.inr (List.mem_singleton.2 rfl)),.inl rfl⟩
  ·exact⟨_,List.mem_append.2 (.inr (List.mem_singleton.2 rfl)),.inr rfl⟩
theorem known_mid {A B:Tr} {c:Nm} {x x':Lk} (e:x'.par=x.par) (y:Nm):a8 (A++(c,x')::B) y↔a8 (A++(c,x)::B) y:=by
 have g:∀ {x x':Lk},x'.par=x.par→a8 (A++(c,x')::B) y→a8 (A++(c,x)::B) y:=by
  rintro x x' e ⟨q,hq,h⟩;rcases List.mem_append.1 hq with hq | hq
  ·exact⟨q,List.mem_append.2 (.inl hq),h⟩
  ·rcases List.mem_cons.1 hq with rfl | hq
   ·exact⟨(c,x),List.mem_append.2 (.inr (List.mem_cons_self ..)),by rw[←e];exact h⟩
   ·exact⟨q,List.mem_append.2 (.inr (List.mem_cons_of_mem _ hq)),h⟩
 exact⟨g e,g e.symm⟩
structure TSm (R:Tr):Prop where
 cnt:∃n,n≤24∧bS (a8 R) n
 per:∀c,(lks R c).length≤64
theorem TSm.nil:TSm []:=⟨⟨0,by decide,[],List.nodup_nil,fun x=>⟨fun h=>(by cases h),fun⟨q,h,_⟩=>(by cases h)⟩,rfl⟩,fun c=>by rw[nX];exact Nat.zero_le _⟩
theorem AttS.tsm {isN:Nm→Prop} {R R':Tr} {c p:Nm} {f e:Int} (hR:TSm R) (h:AttS isN R c p f R' e):TSm R':=by
 cases h with
 | ok _ h0 h1 h2 h3 n hn hf hc=>
  refine⟨⟨n,hf.1,hn.same (fun x=>(known_att x).symm)⟩,fun y=> ?_⟩;rw[jm];split
  ·rename_i e;subst e;rw[List.length_append];have:=hf.2;simp only[List.length_cons,List.length_nil];omega
  ·exact hR.per y
 | _=>exact hR
theorem TSm.mid {A B:Tr} {c:Nm} {x x':Lk} (h:TSm (A++(c,x)::B)) (e:x'.par=x.par):TSm (A++(c,x')::B):=by
 obtain⟨⟨n,h1,h2⟩,h3⟩:=h;refine⟨⟨n,h1,h2.same (fun y=>(known_mid e y).symm)⟩,fun y=> ?_⟩;have h4:=h3 y;rw[cM]at h4⊢;split
 ·rename_i e2;rw[if_pos e2]at h4;simpa using h4
 ·rename_i e2;rw[if_neg e2]at h4;exact h4
theorem short_way {R:Tr} {a:Int} {x:Nm} (hR:TOk R) (hS:TSm R) (hx:a8 R x):∃n y,n≤23∧up R a n x=some y∧par R a y=none:=by
 obtain⟨l,y,h1,h2,h3,h4,h5⟩:=(hR.acy a x).bound;obtain⟨n,hn,m,k1,k2,rfl⟩:=hS.cnt;have ky:a8 R y:=by
  cases h5 with
  | refl=>exact hx
  | step e t=>
   have:∀ {u v:Nm},a8 R u→Reach R a u v→a8 R v:=by
    intro u v hu hr
    induction hr with
    | refl=>exact hu
    | step e _ ih=>
     obtain⟨z,hz,_,rfl⟩:=jl e;exact ih ⟨_,hz,.inr rfl⟩
   exact this hx (.step e t)
 have hl:∀z∈y::l,z∈m:=fun z hz=>by
  rcases List.mem_cons.1 hz with rfl | hz
  ·exact(k2 _).2 ky
  ·obtain⟨q,hq,rfl⟩:=List.mem_map.1 (h2 z hz).1.1;exact(k2 _).2 ⟨q,hq,.inl rfl⟩
 have hny:y∉l:=fun hm=>(h2 y hm).1.2 h4
 have:=iU (List.nodup_cons.2 ⟨hny,h1⟩) hl;simp only[List.length_cons]at this;exact⟨l.length,y,by omega,h3,h4⟩
end
section
variable {P:Program} {w:World} {t kt et:TypeId} {b clock:Nat} {es:Array MapEntry} {c:ByteArray}
theorem sU (hk:P.underlying kt=some .string) (em:Bool):(Instr.checkKey em 10000 kt (.string c)).run P w= .ok () w:=by
 rw[Instr.checkKey];simp[Sem.run_bind,run_underlying hk,Result.andThen]
theorem pu {r:Option (Nat×Value)} (ht:P.underlying t=some (.map kt et)) (hk:P.underlying kt=some .string) (hb:w.heap[b]? =some (.map es clock)) (hf:Instr.findNow .string (.string c) es.toList 0=some r) {z:Value} (hz:(zeroValue et).run P w= .ok z w):
  (Instr.lookup t (.map (some b)) (.string c) false).run P w= .ok (match r with | some (_,v)=>v | none=>z) w:=by
 unfold Instr.lookup Instr.findKey;simp only[Sem.run_bind,run_underlying ht,Result.andThen,getObj,Sem.run,hb,sU hk,run_underlying hk,hf]
 cases r with
 | none=>simp[Sem.run_bind,hz,Result.andThen,hf]
 | some x=>simp[Sem.run_bind,Result.andThen,hf]
end
section
variable {ρ:Rho} {n m k j:Nat} {t T e:TypeId} {B:Blk} {w:World} {qs:List Vp} {q:Vp} {l:Leaf}
end
section
open Go.MapKept
def dq (w:World) (b:Nat) (l:List (ByteArray×Value)):Prop:=∃(es:Array MapEntry) (clock:Nat),w.heap[b]? =some (.map es clock)∧Stamped es clock∧es.toList.map (fun e=>(e.key,e.val))=l.map fun p=>(Value.string p.1,p.2)
open Classical in
noncomputable def pw (l:List (ByteArray×Value)) (c:ByteArray) (v:Value):List (ByteArray×Value):=if c∈l.map (·.1)then l.map (fun p=>if p.1=c then(c,v)else p)else l++ [(c,v)]
section
variable {w w':World} {b clock:Nat} {l:List (ByteArray×Value)} {es:Array MapEntry} {c:ByteArray} {v:Value} {P:Program} {t kt et:TypeId}
theorem lO (he:es.toList.map (fun e=>(e.key,e.val))=l.map fun p=>(Value.string p.1,p.2)) (j:Nat):(es.toList[j]?).map (fun e=>(e.key,e.val))=(l[j]?).map fun p=>(Value.string p.1,p.2):=by
 have:=congrArg (fun l:List (Value×Value)=>l[j]?) he;simpa using this
theorem jo {j:Nat} {e:MapEntry} (he:es.toList.map (fun e=>(e.key,e.val))=l.map fun p=>(Value.string p.1,p.2)) (hj:es.toList[j]? =some e):∃p,l[j]? =some p∧e.key= .string p.1∧e.val=p.2:=by
 have h:=lO he j;rw[hj]at h
 cases h2:l[j]? with
 | none=>rw[h2]at h;cases h
 | some p=>
  rw[h2]at h;simp only[Option.map_some,Option.some.injEq,Prod.mk.injEq]at h;exact⟨p,rfl,h.1,h.2⟩
theorem n3 {j:Nat} {p:ByteArray×Value} (he:es.toList.map (fun e=>(e.key,e.val))=l.map fun p=>(Value.string p.1,p.2)) (hj:l[j]? =some p):∃e,es.toList[j]? =some e∧e.key= .string p.1∧e.val=p.2:=by
 have h:=lO he j;rw[hj]at h
 cases h2:es.toList[j]? with
 | none=>rw[h2]at h;cases h
 | some e=>
  rw[h2]at h;simp only[Option.map_some,Option.some.injEq,Prod.mk.injEq]at h;exact⟨e,rfl,h.1,h.2⟩
theorem ents_key (he:es.toList.map (fun e=>(e.key,e.val))=l.map fun p=>(Value.string p.1,p.2)):∀x∈es.toList,IsKey .string x.key:=fun x hx=>by
 obtain⟨j,hj,e⟩:=List.getElem_of_mem hx;obtain⟨p,_,h,_⟩:=jo he (j:=j) (e:=x) (by rw[List.getElem?_eq_getElem hj,e]);rw[h];trivial
theorem mE (he:es.toList.map (fun e=>(e.key,e.val))=l.map fun p=>(Value.string p.1,p.2)) (c:ByteArray):
  (Instr.findNow .string (.string c) es.toList 0=some none∧c∉l.map (·.1)∧∀x∈es.toList,x.key≠ .string c)∨∃j e v,Instr.findNow .string (.string c) es.toList 0=some (some (j,v))∧es[j]? =some e∧e.key= .string c∧e.val=v∧l[j]? =some (c,v):=by
 rcases findNow_spec (d:=.string) (k:=.string c) trivial es.toList 0 (ents_key he)with⟨h1,h2⟩ | ⟨j,e,h1,h2,h3⟩
 ·refine .inl ⟨h1,fun hm=> ?_,h2⟩;obtain⟨p,hp,rfl⟩:=List.mem_map.1 hm;obtain⟨j,hj,e⟩:=List.getElem_of_mem hp;obtain⟨x,k1,k2,_⟩:=n3 he (j:=j) (p:=p) (by rw[List.getElem?_eq_getElem hj,e]);exact h2 x (List.mem_of_getElem? k1) k2
 ·rw[Nat.zero_add]at h1;obtain⟨⟨c',v'⟩,k1,k2,k3⟩:=jo he h2;rw[h3]at k2;injection k2 with k2;subst k2;exact .inr ⟨j,e,_,h1,by simpa using h2,h3,rfl,by rw[k1,k3]⟩
theorem kg (hs:Stamped es clock) (he:es.toList.map (fun e=>(e.key,e.val))=l.map fun p=>(Value.string p.1,p.2)):(l.map (·.1)).Nodup:=by
 have h:=((stamped_iff _ _).1 hs).2.2;rw[List.Nodup,List.pairwise_map,List.pairwise_iff_getElem];rw[List.pairwise_iff_getElem]at h;intro i j hi hj hij e;obtain⟨x,a1,a2,_⟩:=n3 he (List.getElem?_eq_getElem hi);obtain⟨y,b1,b2,_⟩:=n3 he (List.getElem?_eq_getElem hj);obtain⟨hi',ex⟩:=List.getElem?_eq_some_iff.1 a1;obtain⟨hj',ey⟩:=List.getElem?_eq_some_iff.1 b1;exact h i j hi' hj' hij (by rw[ex,ey,a2,b2,e])
theorem dq.nodup (h:dq w b l):(l.map (·.1)).Nodup:=by obtain⟨es,clock,_,hs,he⟩:=h;exact kg hs he
theorem dq.look (h:dq w b l) (ht:P.underlying t=some (.map kt et)) (hk:P.underlying kt=some .string) {z:Value} (hz:(zeroValue et).run P w= .ok z w) (c:ByteArray):
  (Instr.lookup t (.map (some b)) (.string c) false).run P w= .ok (((l.find? fun p=>decide (p.1=c)).map (·.2)).getD z) w:=by
 obtain⟨es,clock,hb,hs,he⟩:=h;rcases mE he c with⟨h1,h2,_⟩ | ⟨j,e,v,h1,h2,h3,h4,h5⟩
 ·rw[pu ht hk hb h1 hz,List.find?_eq_none.2 (fun p hp=>by
   have:p.1≠c:=fun e=>h2 (List.mem_map.2 ⟨p,hp,e⟩)
   simpa using this)]
  rfl
 ·have hf:(l.find? fun p=>decide (p.1=c))=some (c,v):=by
   rw[List.find?_eq_some_iff_getElem];obtain⟨hj,e5⟩:=List.getElem?_eq_some_iff.1 h5;refine⟨by simp,j,hj,e5,fun i hi=> ?_⟩;have hn:=kg hs he;rw[List.Nodup,List.pairwise_map,List.pairwise_iff_getElem]at hn;have:=hn i j (Nat.lt_trans hi hj) hj hi;rw[e5]at this;simpa using this
  rw[pu ht hk hb h1 hz,hf];rfl
abbrev stM (w:World) (b:Nat) (o:Obj):World:= {w with heap:=w.heap.setIfInBounds b o}
theorem stM_at (hb:w.heap[b]? =some (.map es clock)) (o:Obj):(stM w b o).heap[b]? =some o:=(heap_set hb).1
theorem fM (hb:w.heap[b]? =some (.map es clock)) (o:Obj):Upd w b (stM w b o):=⟨rfl,rfl,rfl,by simp,fun k hk=>(heap_set hb).2 k hk⟩
theorem yD {f:MapEntry→MapEntry} {j:Nat} (hs:Stamped es clock) (he:es.toList.map (fun e=>(e.key,e.val))=l.map fun p=>(Value.string p.1,p.2)) {e:MapEntry} (hj:es[j]? =some e) (hk:e.key= .string c) (hf:(f e).key= .string c) {v:Value} (hv:(f e).val=v):
  (es.modify j f).toList.map (fun e=>(e.key,e.val))=(pw l c v).map fun p=>(Value.string p.1,p.2):=by
 have hj':es.toList[j]? =some e:=by simpa using hj
 obtain⟨⟨c',u⟩,k1,k2,_⟩:=jo he hj';rw[hk]at k2;injection k2 with k2;subst k2;have hm:c∈l.map (·.1):=List.mem_map.2 ⟨_,List.mem_of_getElem? k1,rfl⟩;have hn:=kg hs he;rw[pw,if_pos hm];apply List.ext_getElem?;intro i;simp only[List.getElem?_map,Array.getElem?_toList,Array.getElem?_modify];have hi:=lO he i;rw[Array.getElem?_toList]at hi;by_cases e2:j=i
 ·subst e2;rw[if_pos rfl,hj,k1];simp[hf,hv]
 ·rw[if_neg e2,hi]
  cases h3:l[i]? with
  | none=>rfl
  | some p=>
   have hne:p.1≠c:=fun e3=>by
    obtain⟨hi2,e4⟩:=List.getElem?_eq_some_iff.1 h3;obtain⟨hj2,e5⟩:=List.getElem?_eq_some_iff.1 k1;rw[List.Nodup,List.pairwise_map,List.pairwise_iff_getElem]at hn;rcases Nat.lt_or_ge i j with h | h
    ·exact hn i j hi2 hj2 h (by rw[e4,e5];exact e3)
    ·exact hn j i hj2 hi2 (by omega) (by rw[e4,e5];exact e3.symm)
   simp[hne]
theorem uM (he:es.toList.map (fun e=>(e.key,e.val))=l.map fun p=>(Value.string p.1,p.2)) (hc:c∉l.map (·.1)) (v:Value) (n:Nat):(es.push ⟨.string c,v,n⟩).toList.map (fun e=>(e.key,e.val))=(pw l c v).map fun p=>(Value.string p.1,p.2):=by
 rw[pw,if_neg hc,Array.toList_push,List.map_append,he,List.map_append];rfl
theorem dq.update (h:dq w b l) (ht:P.underlying t=some (.map kt et)) (hk:P.underlying kt=some .string) (c:ByteArray) (v:Value):
  ∃w',(Instr.mapUpdate t (.map (some b)) (.string c) v).run P w= .ok () w'∧dq w' b (pw l c v)∧Upd w b w':=by
 obtain⟨es,clock,hb,hs,he⟩:=h;have hkc:IsKey .string (.string c):=trivial;rcases mE he c with⟨h1,h2,h3⟩ | ⟨j,e,u,h1,h2,h3,h4,h5⟩
 ·refine⟨stM w b (.map (es.push ⟨.string c,v,clock⟩) (clock+1)),by simp[Instr.mapUpdate,run_underlying ht,Go.MapKept.run_getObj_map hb,run_checkKey hk hkc,run_findKey hk h1,run_setObj_map _ hb,Result.andThen],⟨_,_,(heap_set hb).1,stamped_push hs h3,uM he h2 v clock⟩,fM hb _⟩
 ·refine⟨stM w b (.map (es.modify j fun e=> {e with key:=.string c,val:=v}) clock),by simp[Instr.mapUpdate,run_underlying ht,Go.MapKept.run_getObj_map hb,run_checkKey hk hkc,run_findKey hk h1,h2,h3,run_keyThatStays hkc,run_setObj_map _ hb,Result.andThen],⟨_,_,(heap_set hb).1,stamped_modify hs _ _ (fun _ _=>rfl) (fun e' _ he'=> ?_),yD hs he h2 h3 rfl rfl⟩,fM hb _⟩;rw[h2]at he';injection he' with he';subst he';exact h3.symm
theorem dq.entry (h:dq w b l) (ht:P.underlying t=some (.map kt et)) (hk:P.underlying kt=some .string) {z:Value} (hz:∀w,(zeroValue et).run P w= .ok z w) (c:ByteArray) (v:Value):
  ∃w1 u n w',(Instr.mapEntry t (.map (some b)) (.string c)).run P w= .ok (.tuple #[u,.int .i64 n]) w1∧(Instr.entryStore t (.map (some b)) (.int .i64 n) v).run P w1= .ok () w'∧dq w' b (pw l c v)∧Upd w b w1∧Upd w b w':=by
 obtain⟨es,clock,hb,hs,he⟩:=h;have hkc:IsKey .string (.string c):=trivial;have hs3:=(stamped_iff _ _).1 hs;rcases mE he c with⟨h1,h2,h3⟩ | ⟨j,e,u,h1,h2,h3,h4,h5⟩
 ·have hb1:=stM_at hb (.map (es.push ⟨.string c,z,clock⟩) (clock+1));have hfi:(es.push ⟨.string c,z,clock⟩).findIdx? (fun e=>(e.born:Int)==(clock:Int))=some es.size:=by
   rw[Array.findIdx?_eq_some_iff_getElem];refine⟨by simp,by simp,fun i hi=> ?_⟩;have h4:=hs3.1 es[i] (by simp);rw[Array.getElem_push_lt hi];simp;omega
  refine⟨stM w b (.map (es.push ⟨.string c,z,clock⟩) (clock+1)),z,clock,stM (stM w b (.map (es.push ⟨.string c,z,clock⟩) (clock+1))) b (.map ((es.push ⟨.string c,z,clock⟩).modify es.size fun e=> {e with val:=v}) (clock+1)),by simp[Instr.mapEntry,run_underlying ht,Go.MapKept.run_getObj_map hb,run_checkKey hk hkc,run_findKey hk h1,hz,run_setObj_map _ hb,Result.andThen,goInt],by simp only[Instr.entryStore,Sem.run_bind,Go.MapKept.run_getObj_map hb1,asInt,asIntOf,Sem.run_pure,Result.andThen,hfi,run_setObj_map _ hb1],⟨_,_,(heap_set hb1).1,stamped_modify (stamped_push hs h3) _ _ (fun _ _=>rfl) (fun _ _ _=>rfl),?_⟩,fM hb _,(fM hb _).trans (fM hb1 _)⟩;have e2:(es.push ⟨.string c,z,clock⟩).modify es.size (fun e=> {e with val:=v})=es.push ⟨.string c,v,clock⟩:=by
   apply Array.ext_getElem?;intro i;rw[Array.getElem?_modify,Array.getElem?_push,Array.getElem?_push];by_cases e3:i=es.size
   ·subst e3;simp
   ·rw[if_neg (Ne.symm e3),if_neg e3,if_neg e3]
  rw[e2];exact uM he h2 v clock
 ·have hj':es.toList[j]? =some e:=by simpa using h2
  have hm1:Stamped (es.modify j fun e=> {e with key:=.string c}) clock:=stamped_modify hs _ _ (fun _ _=>rfl) (fun e' _ he'=>by rw[h2]at he';injection he' with he';subst he';exact h3.symm);have hb1:=stM_at hb (.map (es.modify j fun e=> {e with key:=.string c}) clock);have e0:(es.modify j fun e=> {e with key:=.string c})=es:=by
   apply Array.ext_getElem?;intro i;rw[Array.getElem?_modify];by_cases e3:j=i
   ·subst e3;rw[if_pos rfl,h2];simp[←h3]
   ·rw[if_neg e3]
  rw[e0]at hb1;have hfi:es.findIdx? (fun x=>(x.born:Int)==(e.born:Int))=some j:=by
   rw[Array.findIdx?_eq_some_iff_getElem];obtain⟨hj2,e4⟩:=Array.getElem?_eq_some_iff.1 h2;refine⟨hj2,by simp[e4],fun i hi=> ?_⟩;have hn:=hs3.2.1;rw[List.Nodup,List.pairwise_map,List.pairwise_iff_getElem]at hn;have:=hn i j (by simp;omega) (by simpa using hj2) hi;simp only[Array.getElem_toList,e4]at this;simp;omega
  refine⟨stM w b (.map es clock),u,e.born,stM (stM w b (.map es clock)) b (.map (es.modify j fun e=> {e with val:=v}) clock),by simp only[Instr.mapEntry,Sem.run_bind,run_underlying ht,Go.MapKept.run_getObj_map hb,run_checkKey hk hkc,run_findKey hk h1,h2,h3,Option.map_some,Option.getD_some,run_keyThatStays hkc,e0,run_setObj_map _ hb,Result.andThen,goInt,Sem.run_pure],by simp only[Instr.entryStore,Sem.run_bind,Go.MapKept.run_getObj_map hb1,asInt,asIntOf,Sem.run_pure,Result.andThen,hfi,run_setObj_map _ hb1],⟨_,_,(heap_set hb1).1,stamped_modify hs _ _ (fun _ _=>rfl) (fun _ _ _=>rfl),yD hs he h2 h3 h3 rfl⟩,fM hb _,(fM hb _).trans (fM hb1 _)⟩
theorem dq.other (h:dq w b l) (e:w'.heap[b]? =w.heap[b]?):dq w' b l:=by
 obtain⟨es,clock,hb,h⟩:=h;exact⟨es,clock,by rw[e];exact hb,h⟩
theorem dq.lt (h:dq w b l):b<w.heap.size:=by obtain⟨es,clock,hb,h⟩:=h;exact(Array.getElem?_eq_some_iff.1 hb).1
theorem dq.own (h:dq w b l):bC w b:=⟨h.lt,fun k n hk=>by
 obtain⟨es,clock,hb,h⟩:=h;simp[World.cell?,hb]at hk⟩
def Vis (es:Array MapEntry) (seen:Array Nat) (l:List (ByteArray×Value)) (p:ByteArray×Value):Prop:=∃(j:Nat) (e:MapEntry),es.toList[j]? =some e∧l[j]? =some p∧e.born∈seen.toList
def sV (w:World) (r m:Nat) (l:List (ByteArray×Value)) (V:ByteArray×Value→Prop) (k:Nat):Prop:=
 ∃(es:Array MapEntry) (clock since c0:Nat) (seen:Array Nat),w.heap[r]? =some (.mapIter (some m) since seen c0)∧since≤c0∧since≤clock∧w.heap[m]? =some (.map es clock)∧Stamped es clock∧es.toList.map (fun e=>(e.key,e.val))=l.map (fun p=>(Value.string p.1,p.2))∧
  (∀x∈es.toList,x.born<since)∧(∀p,V p↔Vis es seen l p)∧(leftOf es seen).size=k
theorem left_push {es:Array MapEntry} {seen:Array Nat} {e:MapEntry} (h:e∈(leftOf es seen).toList):(leftOf es (seen.push e.born)).size<(leftOf es seen).size:=by
 have e1:(leftOf es (seen.push e.born)).toList=(leftOf es seen).toList.filter fun x=> !decide (x.born=e.born):=by
  unfold leftOf;rw[Array.toList_filter,Array.toList_filter,List.filter_filter]
  congr 1
  funext x
  by_cases h1:x.born=e.born<;>simp[h1]
 rw[←Array.length_toList,←Array.length_toList,e1];refine Nat.lt_of_le_of_ne (List.length_filter_le _ _) (fun h2=> ?_);have:=List.length_filter_eq_length_iff.1 h2 e h;simp at this
theorem rk (h:dq w b l) (ht:P.underlying t=some (.map kt et)):∃w1 k,(Instr.range t (.map (some b))).run P w= .ok (.pointer (some ⟨w.heap.size,0,none⟩)) w1∧sV w1 w.heap.size b l (fun _=>False) k∧Below w.heap.size w w1∧w1.heap.size=w.heap.size+1:=by
 obtain⟨es,clock,hb,hs,he⟩:=h;have hs3:=(stamped_iff _ _).1 hs;refine⟨_,_,run_range_map w t kt et b es clock ht hb,⟨es,clock,clock,clock,#[],heap_alloc_new w _,Nat.le_refl _,Nat.le_refl _,by rw[heap_alloc_old w _ (Array.getElem?_eq_some_iff.1 hb).1];exact hb,hs,he,hs3.1,fun p=>⟨fun h=>h.elim,fun⟨_,_,_,_,h⟩=>by simp at h⟩,rfl⟩,(Below.refl _ _).alloc (Nat.le_refl _) _,Array.size_push ..⟩
theorem px {w1:World} {r k:Nat} (o:Obj) (hk:k≠r):(Go.ChangeMaps.setBlock w1 r o).heap[k]? =w1.heap[k]? :=by
 show(w1.heap.setIfInBounds r o)[k]? =_;rw[Array.getElem?_setIfInBounds_ne (Ne.symm hk)]
theorem upd_setb {w1:World} {r:Nat} (hw:w1=w∨w1=w.drew) (o:Obj):Upd w r (Go.ChangeMaps.setBlock w1 r o):=by
 have hs:(Go.ChangeMaps.setBlock w1 r o).heap.size=w1.heap.size:=Array.size_setIfInBounds ..;rcases hw with rfl | rfl
 ·exact⟨rfl,rfl,rfl,hs,fun k hk=>px o hk⟩
 ·exact⟨rfl,rfl,rfl,hs,fun k hk=>px o hk⟩
theorem uN {r m k:Nat} {V:ByteArray×Value→Prop} (h:sV w r m l V k) (ty:TypeId):
  ((Instr.next (.pointer (some ⟨r,0,none⟩)) false ty).run P w= .ok (.tuple #[.bool false]) w∧∀p∈l,V p)∨
  ∃p∈l,∃w1 k1,k1<k∧(Instr.next (.pointer (some ⟨r,0,none⟩)) false ty).run P w= .ok (.tuple #[.bool true,.string p.1,p.2]) w1∧(Instr.entry (.pointer (some ⟨r,0,none⟩))).run P w1= .ok (.tuple #[.string p.1,p.2]) w1∧sV w1 r m l (fun x=>V x∨x=p) k1∧Upd w r w1:=by
 obtain⟨es,clock,since,c0,seen,hr,hsc,hsc2,hb,hs,he,hold,hV,hk⟩:=h;have hs3:=(stamped_iff _ _).1 hs;rcases run_next_at (P:=P) w ty r m since c0 seen es clock hr hb hold hsc with⟨h1,h2⟩ | ⟨e,h1,w1,h2,h3⟩
 ·refine .inl ⟨h2,fun p hp=>(hV p).2 ?_⟩;obtain⟨j,hj,ep⟩:=List.getElem_of_mem hp;obtain⟨e,k1,_,_⟩:=n3 he (j:=j) (p:=p) (by rw[List.getElem?_eq_getElem hj,ep]);refine⟨j,e,k1,by rw[List.getElem?_eq_getElem hj,ep],?_⟩;have h3:leftOf es seen=#[]:=Array.eq_empty_of_size_eq_zero h1;unfold leftOf at h3;rw[Array.filter_eq_empty_iff]at h3;have:=h3 e (by simpa using List.mem_of_getElem? k1);simpa using this
 ·have hes:e∈es.toList∧e.born∉seen.toList:=by
   unfold leftOf at h1;simpa using h1
  obtain⟨j,hj,ee⟩:=List.getElem_of_mem hes.1;have hje:es.toList[j]? =some e:=by rw[List.getElem?_eq_getElem hj,ee]
  obtain⟨p,k1,k2,k3⟩:=jo he hje;have hne:r≠m:=fun e2=>by subst e2;rw[hr]at hb;cases hb
  have hr1:w1.heap[r]? =some (.mapIter (some m) since seen c0):=by rcases h2 with rfl | rfl<;>exact hr
  have hm1:w1.heap[m]? =some (.map es clock):=by rcases h2 with rfl | rfl<;>exact hb
  have hlt:r<w1.heap.size:=(Array.getElem?_eq_some_iff.1 hr1).1;have g1:(Go.ChangeMaps.setBlock w1 r (.mapIter (some m) since (seen.push e.born) clock)).heap[r]? =some (.mapIter (some m) since (seen.push e.born) clock):=by simp[Go.ChangeMaps.setBlock,hlt]
  have g2:(Go.ChangeMaps.setBlock w1 r (.mapIter (some m) since (seen.push e.born) clock)).heap[m]? =some (.map es clock):=by simp[Go.ChangeMaps.setBlock,hne,hm1]
  refine .inr ⟨p,List.mem_of_getElem? k1,_,_,by rw[←hk];exact left_push h1,by rw[h3,k2,k3],by rw[run_entry_at _ r m since seen es clock e g1 g2 hes.1 hs3.2.1,k2,k3],⟨es,clock,since,clock,seen.push e.born,g1,hsc2,hsc2,g2,hs,he,hold,fun x=> ?_,rfl⟩,upd_setb h2 _⟩;show V x∨x=p↔_;rw[hV];constructor
  ·rintro(⟨i,y,a1,a2,a3⟩ | rfl)
   ·exact⟨i,y,a1,a2,by simp at a3⊢;exact .inl a3⟩
   ·exact⟨j,e,hje,k1,by simp⟩
  ·rintro⟨i,y,a1,a2,a3⟩;simp only[Array.toList_push,List.mem_append,List.mem_singleton]at a3;rcases a3 with a3 | a3
   ·exact .inl ⟨i,y,a1,a2,a3⟩
   ·right;have hn:=hs3.2.1;rw[List.Nodup,List.pairwise_map,List.pairwise_iff_getElem]at hn;obtain⟨hi,ey⟩:=List.getElem?_eq_some_iff.1 a1;have:i=j:=by
     rcases Nat.lt_trichotomy i j with h | h | h
     ·exact absurd (by rw[ey,ee];exact a3) (hn i j hi hj h)
     ·exact h
     ·exact absurd (by rw[ey,ee];exact a3.symm) (hn j i hj hi h)
    subst this;rw[k1]at a2;injection a2 with a2;exact a2.symm
theorem sV.other {r m k:Nat} {V:ByteArray×Value→Prop} (h:sV w r m l V k) (h1:w'.heap[r]? =w.heap[r]?) (h2:w'.heap[m]? =w.heap[m]?):sV w' r m l V k:=by
 obtain⟨es,clock,since,c0,seen,hr,hsc,hsc2,hb,h⟩:=h;exact⟨es,clock,since,c0,seen,by rw[h1];exact hr,hsc,hsc2,by rw[h2];exact hb,h⟩
end
end
section
open Go.MapKept
abbrev lkT:TypeId:=156
abbrev py:TypeId:=144
abbrev lpT:TypeId:=152
abbrev trT:TypeId:=223
abbrev mpT:TypeId:=142
abbrev ptB (b:Nat):Value:=.pointer (some ⟨b,0,none⟩)
structure Ln where
 x:Lk
 b:Nat
 g:Nat
 sl:Value
structure Ch where
 c:Nm
 rb:Nat
 cap:Nat
 ls:List Ln
def lnQ (c:Nm) (l:Ln):List Vp:=.val (.string c)::.val (.string l.x.par)::.val (.int .i64 l.x.fr)::.val (.int .i64 l.x.un)::.val (.bool l.x.st)::(frs l.x.po.cs++ [.val (ptB l.g)])
def kh (w:World) (cs:Array Value) (qs:List Vp):Prop:=cs.size=qs.length∧∀(j:Nat) (q:Vp),qs[j]? =some q→∃u,cs[j]? =some u∧q.p w u
structure LnAt (w:World) (c:Nm) (l:Ln):Prop where
 blk:∃cs,w.heap[l.b]? =some (.cells cs lkT (0,0))∧kh w cs (lnQ c l)
 trk:TrkS trT w l.g l.sl l.x.tr
structure ChAt (w:World) (ch:Ch):Prop where
 blk:∃cs,w.heap[ch.rb]? =some (.cells cs lpT (0,0))∧cs.size=ch.cap∧∀(j:Nat) (l:Ln),ch.ls[j]? =some l→cs[j]? =some (ptB l.b)
 le:ch.ls.length≤ch.cap
 cap:ch.cap≤maxLen
 ne:ch.ls≠ []
def Ln.fp (l:Ln):List Nat:=l.b::l.g::l.sl.ownBlock.toList
def Ch.fp (ch:Ch):List Nat:=ch.rb::ch.ls.flatMap Ln.fp
def fpT (t m:Nat) (E:List Ch):List Nat:=t::m::E.flatMap Ch.fp
def Ch.row (ch:Ch):Value:=.slice (some ⟨ch.rb,0,none⟩) ch.ls.length ch.cap
structure TM (w:World) (t m:Nat) (E:List Ch):Prop where
 tr:w.heap[t]? =some (.cells #[.map (some m)] py (0,0))
 mp:dq w m (E.map fun ch=>(ch.c,ch.row))
 rows:∀ch∈E,ChAt w ch
 lns:∀ch∈E,∀l∈ch.ls,LnAt w ch.c l
 nd:(fpT t m E).Nodup
 own:∀g∈fpT t m E,bC w g
def chE (E:List Ch) (c:Nm):Option Ch:=E.find? fun ch=>decide (ch.c=c)
def lsE (E:List Ch) (c:Nm):List Ln:=((chE E c).map (·.ls)).getD []
def mF (E:List Ch) (c:Nm):Value:=((chE E c).map Ch.row).getD (.slice none 0 0)
theorem cN {E:List Ch} {c:Nm} {ch:Ch} (h:chE E c=some ch):ch∈E∧ch.c=c:=⟨List.mem_of_find?_eq_some h,by simpa using List.find?_some h⟩
theorem chE_none {E:List Ch} {c:Nm} (h:chE E c=none) {ch:Ch} (hm:ch∈E):ch.c≠c:=by
 have:=List.find?_eq_none.1 h ch hm;simpa using this
theorem kh.chg {w w':World} {X:Nat→Prop} {cs:Array Value} {qs:List Vp} (h:kh w cs qs) (k:Chg w w' X) (hf:∀q∈qs,∀w v g,¬q.fp w v g):kh w' cs qs:=
 ⟨h.1,fun j q hq=>by
  obtain⟨u,h1,h2⟩:=h.2 j q hq;exact⟨u,h1,(q.ch w w' X u h2 k (fun g hg=>absurd hg (hf q (List.mem_of_getElem? hq) _ _ _))).1⟩⟩
theorem frs_fp:∀ {xs:List Fq} {q:Vp},q∈frs xs→∀w v g,¬q.fp w v g
 | [],_,h,_,_,_=>by cases h
 | x::xs,q,h,w,v,g=>by
  simp only[frs,List.mem_cons]at h;rcases h with rfl | rfl | rfl | h
  ·exact fun h=>h
  ·exact fun h=>h
  ·exact fun h=>h
  ·exact frs_fp h w v g
theorem sW {c:Nm} {l:Ln}:∀q∈lnQ c l,∀w v g,¬q.fp w v g:=by
 intro q hq;unfold lnQ at hq;simp only[List.mem_cons,List.mem_append,List.not_mem_nil,or_false]at hq;rcases hq with rfl | rfl | rfl | rfl | rfl | hq | rfl
 ·exact fun _ _ _ h=>h
 ·exact fun _ _ _ h=>h
 ·exact fun _ _ _ h=>h
 ·exact fun _ _ _ h=>h
 ·exact fun _ _ _ h=>h
 ·exact frs_fp hq
 ·exact fun _ _ _ h=>h
theorem TrkS.chg {w w':World} {X:Nat→Prop} {T:TypeId} {g:Nat} {sl:Value} {S:List St} (h:TrkS T w g sl S) (k:Chg w w' X) (hg:¬X g) (hs:∀b,sl.ownBlock=some b→¬X b):TrkS T w' g sl S:=
 ⟨by rw[k.blk g (Array.getElem?_eq_some_iff.1 h.blk).1 hg];exact h.blk,((Vp.row stT S.length (aF S)).ch w w' X sl h.row k (fun b hb=>hs b (by obtain⟨o,n,c,e⟩:=hb;rw[e];rfl))).1,h.ne⟩
theorem LnAt.chg {w w':World} {X:Nat→Prop} {c:Nm} {l:Ln} (h:LnAt w c l) (k:Chg w w' X) (hX:∀g∈l.fp,¬X g):LnAt w' c l:=by
 obtain⟨⟨cs,h1,h2⟩,h3⟩:=h;refine⟨⟨cs,by rw[k.blk _ (Array.getElem?_eq_some_iff.1 h1).1 (hX _ (List.mem_cons_self ..))];exact h1,h2.chg k sW⟩,h3.chg k (hX _ (by simp[Ln.fp])) (fun b hb=>hX b (by simp[Ln.fp,hb]))⟩
theorem ChAt.chg {w w':World} {X:Nat→Prop} {ch:Ch} (h:ChAt w ch) (k:Chg w w' X) (hX:¬X ch.rb):ChAt w' ch:=by
 obtain⟨⟨cs,h1,h2⟩,h3,h4,h5⟩:=h;exact⟨⟨cs,by rw[k.blk _ (Array.getElem?_eq_some_iff.1 h1).1 hX];exact h1,h2⟩,h3,h4,h5⟩
theorem sX {t m:Nat} {E:List Ch} {ch:Ch} (h:ch∈E) {g:Nat} (hg:g∈ch.fp):g∈fpT t m E:=List.mem_cons_of_mem _ (List.mem_cons_of_mem _ (List.mem_flatMap.2 ⟨ch,h,hg⟩))
theorem mem_fpL {t m:Nat} {E:List Ch} {ch:Ch} (h:ch∈E) {l:Ln} (hl:l∈ch.ls) {g:Nat} (hg:g∈l.fp):g∈fpT t m E:=sX h (List.mem_cons_of_mem _ (List.mem_flatMap.2 ⟨l,hl,hg⟩))
theorem TM.chg {w w':World} {X:Nat→Prop} {t m:Nat} {E:List Ch} (h:TM w t m E) (k:Chg w w' X) (hX:∀g∈fpT t m E,¬X g):TM w' t m E:=by
 obtain⟨h1,h2,h4,h5,h6,h7⟩:=h;refine⟨by rw[k.blk _ (Array.getElem?_eq_some_iff.1 h1).1 (hX _ (by simp[fpT]))];exact h1,h2.other (k.blk _ h2.lt (hX _ (by simp[fpT]))),fun ch hc=>(h4 ch hc).chg k (hX _ (sX hc (List.mem_cons_self ..))),fun ch hc l hl=>(h5 ch hc l hl).chg k (fun g hg=>hX g (mem_fpL hc hl hg)),h6,fun g hg=>(h7 g hg).blk (k.blk g (h7 g hg).1 (hX g hg)) k.size⟩
theorem TM.below {w w':World} {t m:Nat} {E:List Ch} (h:TM w t m E) (k:Below w.heap.size w w'):TM w' t m E:=h.chg (.below k) (fun _ _ h=>h)
section
variable {w:World} {t m:Nat} {E:List Ch} {c:Nm} {ch:Ch} {l:Ln} {k:Nat}
theorem TM.cell (h:TM w t m E):w.cell? ⟨t,0,none⟩=some (.map (some m)):=by rw[aA h.tr];rfl
theorem zero_lrow (w:World):(zeroValue 158).run Tryz.prog w= .ok (.slice none 0 0) w:=by rfl
theorem TM.look (h:TM w t m E) (c:Nm):(Instr.lookup mpT (.map (some m)) (.string c) false).run Tryz.prog w= .ok (mF E c) w:=by
 rw[h.mp.look (t:=mpT) Tryz.underlying142 (by kernel_rfl) (zero_lrow w) c,List.find?_map];unfold mF chE
 congr 1
 cases hf:E.find? (fun ch=>decide (ch.c=c))with
 | none=>
  have:E.find? ((fun p:ByteArray×Value=>decide (p.1=c))∘ fun ch=>(ch.c,ch.row))=none:=hf;rw[this];rfl
 | some ch=>
  have:E.find? ((fun p:ByteArray×Value=>decide (p.1=c))∘ fun ch=>(ch.c,ch.row))=some ch:=hf;rw[this];rfl
theorem TM.chAt (h:TM w t m E) (hc:chE E c=some ch):ChAt w ch:=h.rows ch (cN hc).1
theorem TM.ln (h:TM w t m E) (hc:chE E c=some ch) (hl:l∈ch.ls):LnAt w c l:=by
 obtain⟨h1,rfl⟩:=cN hc;exact h.lns ch h1 l hl
theorem ChAt.cell (h:ChAt w ch) (hk:ch.ls[k]? =some l):w.cell? ⟨ch.rb,k,none⟩=some (ptB l.b):=by
 obtain⟨⟨cs,h1,_,h2⟩,_⟩:=h;rw[aA h1];exact h2 k l hk
theorem LnAt.cellv {j:Nat} {v:Value} (h:LnAt w c l) (hj:(lnQ c l)[j]? =some (.val v)):w.cell? ⟨l.b,j,none⟩=some v:=by
 obtain⟨⟨cs,h1,h2⟩,_⟩:=h;obtain⟨u,h3,h4⟩:=h2.2 j _ hj;have e:u=v:=h4.1;rw[aA h1,h3,e]
theorem LnAt.par (h:LnAt w c l):w.cell? ⟨l.b,1,none⟩=some (.string l.x.par):=h.cellv rfl
theorem LnAt.fr (h:LnAt w c l):w.cell? ⟨l.b,2,none⟩=some (.int .i64 l.x.fr):=h.cellv rfl
theorem LnAt.un (h:LnAt w c l):w.cell? ⟨l.b,3,none⟩=some (.int .i64 l.x.un):=h.cellv rfl
theorem LnAt.st (h:LnAt w c l):w.cell? ⟨l.b,4,none⟩=some (.bool l.x.st):=h.cellv rfl
theorem LnAt.tp (h:LnAt w c l):w.cell? ⟨l.b,26,none⟩=some (ptB l.g):=h.cellv rfl
end
end
end Go.Proofs.YtggfmklppkioeaaGreat
