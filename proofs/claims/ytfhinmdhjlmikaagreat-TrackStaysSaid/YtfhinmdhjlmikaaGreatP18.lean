/- Tracks: rows as they come in. Tracks: Add at a stamp as it comes in; instances of Add and of New. Tracks: Of. Tracks: what lies around a time, and the pose there. -/
import Derived.Test.YtfhinmdhjlmikaaGreatP17
namespace Go.Proofs.YtfhinmdhjlmikaaGreat
set_option linter.unusedSimpArgs false
set_option linter.unusedVariables false
set_option maxRecDepth 100000
open Go.RowKit
theorem sJ {w w':World} {X:Nat→Prop} {b o:Nat} (k:Chg w w' X) (hb:b<w.heap.size) (hX:¬X b):w'.cell? ⟨b,o,none⟩=w.cell? ⟨b,o,none⟩:=by
 unfold World.cell?
 simp only[k.blk b hb hX]
/-- A row that came in: nothing is known of its block but the parts. -/
def Vp.rowW (n:Nat) (qs:List Vp):Vp:=.of (fun w v=>(qs=[]∧n=0∧∃a c,v= .slice a 0 c)∨∃b o c,v= .slice (some ⟨b,o,none⟩) n c∧n≠0∧b<w.heap.size∧∀j q,qs[j]? =some q→∃u,w.cell? ⟨b,o+j,none⟩=some u∧q.p w u∧∀g,¬q.fp w u g)
 (fun v g=>∃o n c,v= .slice (some ⟨g,o,none⟩) n c∧n≠0)
 (fun w w' X v h k hX=>h.imp id fun⟨b,o,c,e,hn,hb,hq⟩=>⟨b,o,c,e,hn,Nat.lt_of_lt_of_le hb k.size,fun j q hj=>by
  obtain⟨u,h1,h2,h3⟩:=hq j q hj
  obtain⟨c1,c2⟩:=q.ch w w' X u h2 k (fun g hg=>absurd hg (h3 g))
  exact⟨u,by rw[sJ k hb (hX b ⟨o,n,c,e,hn⟩)];exact h1,c1,fun g hg=>h3 g (c2 g hg)⟩⟩)
 (fun w v g h ⟨o',n',c',e',hn'⟩=>by
  rcases h with⟨_,_,a,c,e⟩ | ⟨b,o,c,e,_,hb,_⟩
  ·rw[e]at e';injection e' with _ e1 _;exact absurd e1.symm hn'
  ·rw[e]at e';injection e' with e1 _ _;injection e1 with e1;injection e1 with e1 _ _;subst e1
   exact hb)
 (fun w v h=>by
  rcases h with⟨_,_,a,c,e⟩ | ⟨b,o,c,e,_⟩<;>subst e<;>exact jH)
def Vp.plcW (qs:List Vp):Vp:=.of (fun w v=>∃b o,v= .pointer (some ⟨b,o,none⟩)∧b<w.heap.size∧∀j q,qs[j]? =some q→∃u,w.cell? ⟨b,o+j,none⟩=some u∧q.p w u∧∀g,¬q.fp w u g)
 (fun v g=>∃o,v= .pointer (some ⟨g,o,none⟩))
 (fun w w' X v ⟨b,o,e,hb,hq⟩ k hX=>⟨b,o,e,Nat.lt_of_lt_of_le hb k.size,fun j q hj=>by
  obtain⟨u,h1,h2,h3⟩:=hq j q hj
  obtain⟨c1,c2⟩:=q.ch w w' X u h2 k (fun g hg=>absurd hg (h3 g))
  exact⟨u,by rw[sJ k hb (hX b ⟨o,e⟩)];exact h1,c1,fun g hg=>h3 g (c2 g hg)⟩⟩)
 (fun w v g ⟨b,o,e,hb,_⟩ ⟨o',e'⟩=>by
  rw[e]at e';injection e' with e1;injection e1 with e1;injection e1 with e1 _ _;subst e1
  exact hb)
 (fun w v ⟨b,o,e,_⟩=>by subst e;exact rW)
section
variable {ρ:Rho} {n m k L:Nat} {t e:TypeId} {B:Blk} {w:World} {qs:List Vp}
theorem cZ (ht:∃e,Tryz.prog.underlying t=some (.slice e)) (hn:ρ[n]? =some (.rowW L qs)) {l:Leaf} (hl:∀B w,l.holds ρ B w (.int .i64 (L:Int))):(OIns.mk (.len t) [.one (.ref n)] (.one l)).Ok Tryz.prog ρ:=fun B w vs hv=>by
 match vs,hv with
 | [v1],hv=>
  obtain⟨s,h1,h2,_⟩:=hv.1
  rw[hn]at h1;injection h1 with h1;subst h1
  obtain⟨a,c,rfl⟩:∃a c,v1= .slice a L c:=by
   rcases h2 with⟨_,rfl,a,c,e⟩ | ⟨b,o,c,e,_⟩
   ·exact⟨_,_,e⟩
   ·exact⟨_,_,e⟩
  obtain⟨e,he⟩:=ht
  refine⟨.int .i64 (L:Int),hl B w,fun ts ty h0=> ?_⟩
  simp[Builtin.len_,h0,Sem.run_bind,run_underlying he,Result.andThen,goInt]
theorem o_iaW {l:Leaf} {sz:Nat} {qs':List Vp} (ht:Tryz.prog.underlying t=some (.slice e)) (hz:szB Tryz.prog e=some sz) (hn:ρ[n]? =some (.rowW L qs)) (hm:ρ[m]? =some (.plcW qs')) (hl:∀B w x,l.holds ρ B w x→x= .int .i64 (k:Int)) (hk:k<L) (hq0:qs≠ [])
  (hq:∀(j:Nat) (q:Vp),qs'[j]? =some q→qs[k*sz+j]? =some q):(OIns.mk (.ia t) [.one (.ref n),.one l] (.one (.ref m))).Ok Tryz.prog ρ:=fun B w vs hv=>by
 match vs,hv with
 | [v1,v2],hv=>
  obtain⟨s,h1,h2,h3⟩:=hv.1
  rw[hn]at h1;injection h1 with h1;subst h1
  have e2:=hl _ _ _ hv.2.1
  subst e2
  rcases h2 with⟨h,_⟩ | ⟨b,o,c,rfl,hc,hb,h4⟩
  ·exact absurd h hq0
  ·refine⟨.pointer (some ⟨b,o+k*sz,none⟩),⟨_,hm,⟨b,o+k*sz,rfl,hb,fun j q hj=> ?_⟩,fun g ⟨o',e'⟩=> ?_⟩,?_⟩
   ·obtain⟨u,k1,k2⟩:=h4 _ q (hq j q hj)
    exact⟨u,by rw[Nat.add_assoc];exact k1,k2⟩
   ·injection e' with e1;injection e1 with e1;injection e1 with e1 _ _;subst e1
    exact h3 _ ⟨_,_,_,rfl,hc⟩
   ·simp[Instr.indexAt,asIntOf,Sem.run_bind,run_underlying ht,bo hz,Result.andThen,hk,dk]
theorem sK {f off sz:Nat} {qs':List Vp} (ht:fldB Tryz.prog t f=some (off,sz+1)) (hn:ρ[n]? =some (.plcW qs)) (hm:ρ[m]? =some (.plcW qs')) (hq:∀(j:Nat) (q:Vp),qs'[j]? =some q→qs[off+j]? =some q):(OIns.mk (.fa t f) [.one (.ref n)] (.one (.ref m))).Ok Tryz.prog ρ:=fun B w vs hv=>by
 match vs,hv with
 | [v1],hv=>
  obtain⟨s,h1,h2,h3⟩:=hv.1
  rw[hn]at h1;injection h1 with h1;subst h1
  obtain⟨b,o,rfl,hb,h4⟩:=h2
  unfold fldB at ht
  split at ht
  ·rename_i fs hu
   split at ht
   ·rename_i fd hf
    cases hz:szB Tryz.prog fd.type with
    | none=>rw[hz]at ht;cases ht
    | some k=>
     rw[hz]at ht
     simp only[Option.map_some,Option.some.injEq,Prod.mk.injEq]at ht
     obtain⟨rfl,rfl⟩:=ht
     refine⟨.pointer (some ⟨b,o+fd.offset,none⟩),⟨_,hm,⟨b,o+fd.offset,rfl,hb,fun j q hj=> ?_⟩,fun g ⟨o',e'⟩=> ?_⟩,?_⟩
     ·obtain⟨u,k1,k2⟩:=h4 _ q (hq j q hj)
      exact⟨u,by rw[Nat.add_assoc];exact k1,k2⟩
     ·injection e' with e1;injection e1 with e1;injection e1 with e1 _ _;subst e1
      exact h3 _ ⟨_,rfl⟩
     ·simp[Instr.fieldAt,Instr.sureAddr,fieldPlace,Sem.run_bind,run_underlying hu,hf,bo hz,Result.andThen,dk]
   ·cases ht
  ·cases ht
theorem LQ.holdsW {b:Nat}:∀ {ls:List Leaf} {qs:List Vp} {o:Nat},LQ ρ ls qs→(∀(j:Nat) (q:Vp),qs[j]? =some q→∃u,w.cell? ⟨b,o+j,none⟩=some u∧q.p w u∧∀g,¬q.fp w u g)→
  ∃vs:List Value,aI ρ B w ls vs∧∀(j:Nat) (v:Value),vs[j]? =some v→w.cell? ⟨b,o+j,none⟩=some v
 | [],_,_,_,_=>⟨[],trivial,fun _ _ h=>by simp at h⟩
 | l::ls,q::qs,o,h,hq=>by
  obtain⟨u,k1,k2,k3⟩:=hq 0 q rfl
  obtain⟨vs,e1,e2⟩:=LQ.holdsW (ls:=ls) (qs:=qs) (o:=o+1) h.2 (fun j q hj=>by rw[Nat.add_assoc,Nat.add_comm 1 j];exact hq (j+1) q (by simpa using hj))
  refine⟨u::vs,⟨h.1 B w u k2 k3,e1⟩,fun j v hv=> ?_⟩
  cases j with
  | zero=>simp at hv;subst hv;exact k1
  | succ j=>rw[Nat.add_comm j 1,←Nat.add_assoc];exact e2 j v (by simpa using hv)
 | _::_,[],_,h,_=>h.elim
theorem jz {p:Program} {g o:Nat}:∀(vs:List Value) (i:Nat) (acc:Array Value),
  (∀k v,vs[k]? =some v→w.cell? ⟨g,o+(i+k),none⟩=some v)→(loadCellsFrom ⟨g,o,none⟩ i vs.length acc).run p w= .ok (acc++vs.toArray) w
 | [],i,acc,_=>by simp[loadCellsFrom]
 | v::vs,i,acc,hv=>by
  have h1:=hv 0 v rfl
  rw[Nat.add_zero]at h1
  have h2:=jz (p:=p) vs (i+1) (acc.push v) (fun k u hu=>by
   have:=hv (k+1) u (by simpa using hu)
   rwa [show i+(k+1)=i+1+k from by omega]at this)
  simp only[List.length_cons,loadCellsFrom]
  rw[Sem.run_bind,dk,jb h1]
  simp only[Result.andThen]
  rw[h2]
  simp
theorem iS {ls:List Leaf} (ht:tx Tryz.prog t=some true) (hz:szB Tryz.prog t=some ls.length) (hn:ρ[n]? =some (.plcW qs)) (hl:LQ ρ ls qs):(OIns.mk (.ld t) [.one (.ref n)] (.agg ls)).Ok Tryz.prog ρ:=fun B w vs hv=>by
 match vs,hv with
 | [v1],hv=>
  obtain⟨s,h1,h2,_⟩:=hv.1
  rw[hn]at h1;injection h1 with h1;subst h1
  obtain⟨b,o,rfl,hb,h4⟩:=h2
  obtain⟨us,e1,e2⟩:=hl.holdsW (B:=B) h4
  refine⟨.agg us.toArray,⟨us,rfl,e1⟩,?_⟩
  have:=jz (p:=Tryz.prog) (w:=w) (g:=b) (o:=o) us 0 #[] (fun k u hu=>by rw[Nat.zero_add];exact e2 k u hu)
  rw[e1.len]at this
  simp[Instr.loadAt,Instr.sureAddr,loadVar,loadCells,Sem.run_bind,gI ht,bo hz,this,Result.andThen]
theorem ov:∀ {R:List RSt} {k:Nat} {x:RSt} {j:Nat} {q:Vp},R[k]? =some x→x.qs[j]? =some q→(bc R)[k*22+j]? =some q
 | [],_,_,_,_,h,_=>by simp at h
 | s::R,0,x,j,q,h,hq=>by
  simp at h;subst h
  have hj:j<s.qs.length:=(List.getElem?_eq_some_iff.1 hq).1
  simp only[bc,List.flatMap_cons,Nat.zero_mul,Nat.zero_add]
  rw[List.getElem?_append_left hj];exact hq
 | s::R,k+1,x,j,q,h,hq=>by
  have:=ov (R:=R) (k:=k) (x:=x) (by simpa using h) hq
  have h22:s.qs.length=22:=rfl
  simp only[bc,List.flatMap_cons]at this⊢
  rw[List.getElem?_append_right (by rw[h22];omega),h22,show(k+1)*22+j - 22=k*22+j from by omega]
  exact this
theorem rowR_ne {R:List RSt} {k:Nat} {x:RSt} (h:R[k]? =some x):bc R≠ []:=fun e=>by
 have:=ov (j:=0) (q:=.val (.int .i64 x.tm)) h rfl
 rw[e]at this;simp at this
/-- The place of a stamp in a row that came in. -/
theorem iT {R:List RSt} {x:RSt} {l:Leaf} (ht:Tryz.prog.underlying t=some (.slice e)) (hz:szB Tryz.prog e=some 22) (hn:ρ[n]? =some (.rowW R.length (bc R))) (hm:ρ[m]? =some (.plcW x.qs)) (hl:KI ρ l .i64 (k:Int)) (hx:R[k]? =some x):(OIns.mk (.ia t) [.one (.ref n),.one l] (.one (.ref m))).Ok Tryz.prog ρ:=
 o_iaW ht hz hn hm hl (List.getElem?_eq_some_iff.1 hx).1 (rowR_ne hx) (fun _ _ hq=>ov hx hq)
theorem hr0 {x:RSt}:∀(j:Nat) (q:Vp),x.qs[j]? =some q→x.qs[0+j]? =some q:=fun j q h=>by rw[Nat.zero_add];exact h
theorem hr1 {x:RSt}:∀(j:Nat) (q:Vp),(mz x.rs)[j]? =some q→x.qs[1+j]? =some q:=fun j q h=>by rw[Nat.add_comm];exact h
end
/-- A list that lies in a new variable. -/
def RowN (ρ:Rho) (l:Leaf) (S:List St):Prop:=(l= .sl0∧S=[])∨∃k m,l= .own k m∧(ρ[m]? =some (.row stT S.length (aF S))∨ρ[m]? =some (.ownr stT 22 S.length (aF S)))
def runMk (p:Program) (C:List Inst) (L:List OIns) (fn:Func) (args:List SV) (u:Nat) (T:TypeId) (fuel:Nat) (lo:Los):Option (AV×Leaf×List LOb):=
 match lz p C L fn args [] fuel lo with
 | some (r,s,obs)=>match s.vars[u]? with
  | some (t,[some l])=>if t=T then some (r,l,obs)else none
  | _=>none
 | none=>none
/-- A function that makes a track. -/
theorem sL {ρ:Rho} {w:World} {C:List Inst} {L:List OIns} {T:TypeId} {u:Nat} {l:Leaf} {S:List St} (hC:∀i∈C,i.Ok0 Tryz.prog ρ (.of w)) (hO:∀i∈L,i.Ok Tryz.prog ρ) {f:FuncId} {fn:Func} (hf:Tryz.prog.funcs[f]? =some fn) {args:List SV} {vs:List Value} {fuel:Nat} {lo:Los} {r:AV} {obs:List LOb}
  (hr:runMk Tryz.prog C L fn args u T fuel lo=some (r,l,obs)) (hl:∀o∈obs,o.Ok Tryz.prog ρ (.of w) fn.ntmps) (ha:ct ρ noB w args vs) (hS:RowN ρ l S):
  Calls Tryz.prog f vs.toArray w (fun e w'=>∃v B' g sl,e= .returned v∧r.holds ρ B' w' v∧B'.v u=some g∧w.heap.size≤g∧TrkS T w' g sl S∧(∀b,sl.ownBlock=some b→w.heap.size≤b∧du w' b)∧Below w.heap.size w w'):=by
 obtain⟨s,hr,hs⟩:∃s,lz Tryz.prog C L fn args [] fuel lo=some (r,s,obs)∧s.vars[u]? =some (T,[some l]):=by
  unfold runMk at hr
  split at hr
  ·rename_i r' s obs' h1
   split at hr
   ·rename_i t l' h2
    split at hr
    ·rename_i ht
     subst ht
     simp only[Option.some.injEq,Prod.mk.injEq]at hr
     obtain⟨rfl,rfl,rfl⟩:=hr
     exact⟨s,h1,h2⟩
    ·cases hr
   ·cases hr
  ·cases hr
 refine(kD (E:=.of w) (B:=noB) hC hO (by kernel_rfl) hf hr hl (fun hn=>nP hn ha)).mono ?_
 rintro e w' ⟨v,B',a',rfl,h1,hi,hv⟩
 obtain⟨g,cs,e1,e2,e3,_⟩:=hi.var (x:=u) (t:=T) (ls:=[l]) hv hs (Nat.succ_pos _) (by show 1≤100000;decide)
 have hcs:∃sl,cs.toList=[sl]∧l.holds ρ B' w' sl:=by
  match hc:cs.toList,e3 with
  | [sl],e3=>exact⟨sl,rfl,e3.1⟩
  | [],e3=>exact e3.elim
  | _::_::_,e3=>exact e3.2.elim
 obtain⟨sl,h2,h3⟩:=hcs
 have hcs:cs=#[sl]:=by rw[←Array.toList_inj];exact h2
 subst hcs
 have hge:w.heap.size≤g:=by
  rcases(hi.blk _ _ e1).1 with h | h
  ·exact h
  ·exact h.elim
 refine⟨v,B',g,sl,rfl,h1,e1,hge,?_,?_,hi.below.to⟩
 ·rcases hS with⟨rfl,rfl⟩ | ⟨k,m,rfl,hm⟩
  ·have e:sl= .slice none 0 0:=h3
   subst e
   exact⟨e2,.inl ⟨rfl,rfl,rfl⟩,fun b hb=>by cases hb⟩
  ·have hrow:(Vp.row stT S.length (aF S)).p w' sl:=by
    rcases hm with hm | hm
    ·exact(kR hm h3).1
    ·exact kP (kR hm h3).1
   obtain⟨_,_,_,_,k4⟩:=h3
   exact⟨e2,hrow,fun b hb e=>by subst e;exact hi.inj.vo _ _ _ e1 (k4 b hb)⟩
 ·rcases hS with⟨rfl,rfl⟩ | ⟨k,m,rfl,hm⟩
  ·have e:sl= .slice none 0 0:=h3
   subst e
   exact fun b hb=>by cases hb
  ·obtain⟨_,_,_,_,k4⟩:=h3
   exact fun b hb=>by
    obtain⟨h5,h6⟩:=hi.own _ _ (k4 b hb)
    rcases h5 with h5 | h5
    ·exact⟨h5,h6⟩
    ·exact h5.elim
theorem q_tNew (w:World):Calls Tryz.prog 27 #[] w fun e w'=>∃g sl,e= .returned (.pointer (some ⟨g,0,none⟩))∧w.heap.size≤g∧TrkS 79 w' g sl []∧(∀b,sl.ownBlock=some b→w.heap.size≤b∧du w' b)∧Below w.heap.size w w':=by
 refine(sL (ρ:=[]) (w:=w) (fuel:=300) (args:=[]) (vs:=[]) (lo:=[]) (obs:=[]) (r:=.v (.one (.ptr 0 0))) (u:=0) (l:=.sl0) (S:=[]) (T:=79) ah ai Tryz.func27 (by kernel_rfl) aG trivial (.inl ⟨rfl,rfl⟩)).mono ?_
 rintro e w' ⟨v,B',g,sl,rfl,⟨g',h1,rfl⟩,h2,h3⟩
 rw[h2]at h1;injection h1 with h1;subst h1
 exact⟨_,_,rfl,h3⟩
end Go.Proofs.YtfhinmdhjlmikaaGreat
namespace Go.Proofs.YtfhinmdhjlmikaaGreat
set_option linter.unusedSimpArgs false
set_option linter.unusedVariables false
set_option maxRecDepth 100000
open Go.RowKit
/-- Numbers of at most two digits. -/
def RSt.two (x:RSt):Prop:=∀r∈x.rs,r.L≤2∧r.N≤2
theorem RSt.two.sm {x:RSt} (h:x.two):x.sm:=by
 have g:∀r∈x.rs,r.L≤1000000∧r.N≤1000000:=fun r hr=>⟨Nat.le_trans (h r hr).1 (by decide),Nat.le_trans (h r hr).2 (by decide)⟩
 exact⟨g _ (by simp[RSt.rs]),g _ (by simp[RSt.rs]),g _ (by simp[RSt.rs]),g _ (by simp[RSt.rs]),g _ (by simp[RSt.rs]),g _ (by simp[RSt.rs]),g _ (by simp[RSt.rs])⟩
theorem uT {x:RSt} {s:St} (h:x.two) (e:x=s.raw) (g:s.pose.good):s.pose.ok 2:=by
 subst e
 have q:∀y:Fq,y.raw∈s.raw.rs→y.valid=true→y.ok 2:=fun y hy hv=>⟨(h _ hy).1,(h _ hy).2,Fq.valid.n hv⟩
 exact⟨⟨q _ (by simp[RSt.rs,St.raw]) g.rot.comp.w,q _ (by simp[RSt.rs,St.raw]) g.rot.comp.x,q _ (by simp[RSt.rs,St.raw]) g.rot.comp.y,q _ (by simp[RSt.rs,St.raw]) g.rot.comp.z⟩,⟨q _ (by simp[RSt.rs,St.raw]) g.pos.x,q _ (by simp[RSt.rs,St.raw]) g.pos.y,q _ (by simp[RSt.rs,St.raw]) g.pos.z⟩⟩
theorem aaZ {x:RSt} (h:sy x.r0 x.r1 x.r2 x.r3 x.r4 x.r5 x.r6=true):∃s:St,x=s.raw∧s.pose.good:=by
 unfold sy uv qL at h
 simp only[Bool.and_eq_true]at h
 obtain⟨⟨⟨h0,h1,h2,h3⟩,h7⟩,h4,h5,h6⟩:=h
 have m0:=dV h0;have m1:=dV h1;have m2:=dV h2;have m3:=dV h3
 have m4:=dV h4;have m5:=dV h5;have m6:=dV h6
 have gc:(Qq.mk ⟨x.r0.s,x.r0.p,x.r0.q⟩ ⟨x.r1.s,x.r1.p,x.r1.q⟩ ⟨x.r2.s,x.r2.p,x.r2.q⟩ ⟨x.r3.s,x.r3.p,x.r3.q⟩).comp:=⟨m0.2,m1.2,m2.2,m3.2⟩
 refine⟨⟨x.tm,⟨⟨⟨x.r0.s,x.r0.p,x.r0.q⟩,⟨x.r1.s,x.r1.p,x.r1.q⟩,⟨x.r2.s,x.r2.p,x.r2.q⟩,⟨x.r3.s,x.r3.p,x.r3.q⟩⟩,⟨⟨x.r4.s,x.r4.p,x.r4.q⟩,⟨x.r5.s,x.r5.p,x.r5.q⟩,⟨x.r6.s,x.r6.p,x.r6.q⟩⟩⟩⟩,?_,⟨qG gc (Fq.same_iff.1 h7),⟨m4.2,m5.2,m6.2⟩⟩⟩
 have e0:=m0.1;have e1:=m1.1;have e2:=m2.1;have e3:=m3.1;have e4:=m4.1;have e5:=m5.1;have e6:=m6.1
 obtain⟨tm,r0,r1,r2,r3,r4,r5,r6⟩:=x
 simp only at e0 e1 e2 e3 e4 e5 e6
 unfold St.raw
 simp only[←e0,←e1,←e2,←e3,←e4,←e5,←e6]
open Classical in
/-- What Add makes of a list at a stamp as it comes in. -/
noncomputable def bE (S:List St) (x:RSt):List St×Int:=if h:∃s:St,x=s.raw∧s.pose.good then fF S h.choose else(S,4)
theorem eg {S:List St} {x:RSt} (h:GoodS S) (h2:x.two):GoodS (bE S x).1:=by
 unfold bE
 split
 ·rename_i hx
  exact jo h (uT h2 hx.choose_spec.1 hx.choose_spec.2) hx.choose_spec.2
 ·exact h
theorem q_AddR (S:List St) (x:RSt) (v:Value) {w:World} {g:Nat} {sl:Value} (h:TrkS 79 w g sl S) (i:jt w v x) (h2:x.two) (hS:GoodS S):
  Calls Tryz.prog 14 (.pointer (some ⟨g,0,none⟩)::[v]).toArray w fun e w'=>e= .returned (.int .i64 (bE S x).2)∧TrkM 79 w g sl (bE S x).1 w':=by
 unfold bE
 split
 ·rename_i hx
  exact q_Add S hx.choose v h (by rw[←aaO,←hx.choose_spec.1];exact i) (uT h2 hx.choose_spec.1 hx.choose_spec.2) hx.choose_spec.2 hS
 ·rename_i hx
  by_cases r0:x.tm<0
  ·exact aaX S x v h i h2.sm r0
  ·by_cases r1:1099511627776<x.tm
   ·exact aaY S x v h i h2.sm r1
   ·exact yn S x v h i h2.sm (by omega) (by omega) (Bool.eq_false_iff.2 (fun e=>hx (aaZ e)))
section
variable {ρ:Rho} {n m m' k c u:Nat} {S:List St} {x:RSt} {ns:List Nat} {r:SV}
theorem iU (hm:ρ[m]? =some (.row stT S.length (aF S))) (hm':ρ[m']? =some (.row stT (bE S x).1.length (aF (bE S x).1))) (hc:ρ[c]? =some (.val (.int .i64 (bE S x).2))) (hn:ρ[n]? =some (.val (.int .i64 x.tm))) (ha:AtR ρ ns x.rs) (h2:x.two) (hS:GoodS S):
  (OIns.mk (.mut 14 ⟨[k],[(u,79,[.own k m])],[(u,79,[.own k m'])],none,[],[.one (.ref c)]⟩) [.one (.ptr u 0),.agg (.ref n::cQ ns)] r).Ok Tryz.prog ρ:=
 qI (args:=[.agg (.ref n::cQ ns)]) (aC Tryz.func14 rfl rfl) hm hm' (fun B w g sl vs _ ht hv=>by
  match vs,hv with
  | [v],hv=>
   refine(q_AddR S x v ht ((eG hn ha).1 hv.1) h2 hS).mono ?_
   rintro e w' ⟨rfl,h3⟩
   exact⟨_,rfl,fun B'=>aD hc az,h3⟩)
theorem uU (hm:ρ[m]? =some (.row stT ([]:List St).length (aF []))):(OIns.mk (.mut 27 ⟨[k],[],[],some (u,79,[.own k m]),[],[.one (.ptr u 0)]⟩) [] r).Ok Tryz.prog ρ:=
 wt (args:=[]) (aC Tryz.func27 rfl rfl) hm (fun B w vs _ hv=>by
  match vs,hv with
  | [],_=>
   refine(q_tNew w).mono ?_
   rintro e w' ⟨g,sl,rfl,h1,h2,h3,h4⟩
   exact⟨_,g,sl,rfl,fun B' hB=>⟨g,hB,rfl⟩,h1,h2,h3,h4⟩)
end
/-- What the first stamps make of the empty track. -/
noncomputable def aB (R:List RSt) (k:Nat):List St:=(R.take k).foldl (fun S x=>(bE S x).1) []
theorem uV (R:List RSt):aB R 0=[]:=rfl
theorem fG {R:List RSt} {k:Nat} {x:RSt} (hx:R[k]? =some x):aB R (k+1)=(bE (aB R k) x).1:=by
 unfold aB
 rw[List.take_add_one,hx]
 simp
theorem aE {R:List RSt} (h:∀x∈R,x.two):∀k,k≤R.length→GoodS (aB R k)
 | 0,_=>GoodS.nil
 | k+1,hk=>by
  obtain⟨x,hx⟩:∃x,R[k]? =some x:=⟨_,List.getElem?_eq_getElem (by omega)⟩
  rw[fG hx]
  exact eg (aE h k (by omega)) (h x (List.mem_of_getElem? hx))
/-- The stamps can be added up to number j. -/
def cm (R:List RSt) (j:Nat):Prop:=j≤R.length∧∀k x,k<j→R[k]? =some x→(bE (aB R k) x).2=0
theorem qS (R:List RSt):cm R R.length∨∃j x,R[j]? =some x∧cm R j∧(bE (aB R j) x).2≠0:=by
 have:∀j,j≤R.length→cm R j∨∃i x,R[i]? =some x∧cm R i∧(bE (aB R i) x).2≠0:=by
  intro j
  induction j with
  | zero=>exact fun _=>.inl ⟨Nat.zero_le _,fun k x h=>by omega⟩
  | succ j ih=>
   intro hj
   rcases ih (by omega)with h | h
   ·obtain⟨x,hx⟩:∃x,R[j]? =some x:=⟨_,List.getElem?_eq_getElem (by omega)⟩
    by_cases h0:(bE (aB R j) x).2=0
    ·refine .inl ⟨hj,fun k y hk hy=> ?_⟩
     by_cases e:k=j
     ·subst e;rw[hx]at hy;injection hy with hy;subst hy;exact h0
     ·exact h.2 k y (by omega) hy
    ·exact .inr ⟨j,x,hx,h,h0⟩
   ·exact .inr h
 exact this _ (Nat.le_refl _)
end Go.Proofs.YtfhinmdhjlmikaaGreat
namespace Go.Proofs.YtfhinmdhjlmikaaGreat
set_option linter.unusedSimpArgs false
set_option linter.unusedVariables false
set_option maxRecDepth 100000
open Go.RowKit
theorem bJ {ρ:Rho} {m:Nat} {s:Vp} {w:World} {v:Value} (hm:ρ[m]? =some s) (h:s.p w v):(Leaf.ref m).holds ρ noB w v:=⟨s,hm,h,fun g _ hB=>by
 rcases hB with⟨x,hB⟩ | ⟨x,hB⟩
 ·cases hB
 ·exact hB⟩
def oA:MS:=dJ 23 [(4,.v (.one (.ptr 0 0))),(9,.v (.one (.ref 0))),(10,.v (.one (.ref 2))),(11,.v (.one (.i .i64 0)))] [(79,[some (.own 0 1)])]
def oB:MS:=dJ 23 [(4,.v (.one (.ptr 0 0))),(9,.v (.one (.ref 0))),(10,.v (.one (.ref 2)))] [(79,[some (.own 0 3)])]
def iV (R:List RSt) (v:Value):List Fq:=[]
theorem q_tOf0 {w:World} (R:List RSt) (v:Value) (hR:(Vp.rowW R.length (bc R)).p w v) (h2:∀x∈R,x.two) (hl:R.length≤100000) (hA:cm R R.length):
  Calls Tryz.prog 11 #[v] w fun e w'=>∃g sl,e= .returned (.tuple #[.pointer (some ⟨g,0,none⟩),.int .i64 0])∧w.heap.size≤g∧TrkS 79 w' g sl (aB R R.length)∧(∀b,sl.ownBlock=some b→w.heap.size≤b∧du w' b)∧Below w.heap.size w w':=by
 have hL0:LOb.Ok Tryz.prog (frs (iV R v)++(([.rowW R.length (bc R),.row stT ([]:List St).length (aF ([]:List St)),.val (.int .i64 (R.length:Int))]:List Vp)++(([.row stT (aB R R.length).length (aF (aB R R.length))]:List Vp)))) (Ent.of w) 23 ⟨cO Tryz.f11 0,oA,.ext 0,oB⟩:=by
  refine co R.length (fun k=>frs (iV R v)++(([.rowW R.length (bc R),.row stT ([]:List St).length (aF ([]:List St)),.val (.int .i64 (R.length:Int))]:List Vp)++(([.val (.int .i64 ((k:Nat):Int)),.row stT (aB R (k)).length (aF (aB R (k)))]:List Vp)))) (fun _=>dJ 23 [(4,.v (.one (.ptr 0 0))),(9,.v (.one (.ref 0))),(10,.v (.one (.ref 2))),(11,.v (.one (.ref 3)))] [(79,[some (.own 0 4)])]) ?_ ?_ ?_ (by decide) (Nat.zero_le _)
  ·intro a_ w_ h_
   exact MSt.conv (N:=3) (σ:=[(3,.i .i64 0),(4,.own 0 1)]) (cmP (by kernel_rfl)) (aW (sgi (n:=3) (u:=0) (v:=((0:Nat):Int)) rfl (aJ (c:=0)) (by omega)) (aW (sgr (n:=4) (m:=1) (k:=0) rfl rfl (by rfl)) bk)) (by kernel_rfl) h_ (Nat.zero_le _)
  ·intro k hk
   obtain⟨x,hx⟩:∃x,R[k]? =some x:=⟨_,List.getElem?_eq_getElem (by omega)⟩
   have h0:=hA.2 k x hk hx
   refine bO (N:=5) (ρx:=frs (iV R v)++(([.rowW R.length (bc R),.row stT ([]:List St).length (aF ([]:List St)),.val (.int .i64 (R.length:Int))]:List Vp)++(([.val (.int .i64 ((k:Nat):Int)),.row stT (aB R (k)).length (aF (aB R (k)))]:List Vp)++(([.plcW x.qs,.val (.int .i64 x.tm),.val (.bool x.r0.s),.dig x.r0.L x.r0.p,.dig x.r0.N x.r0.q,.val (.bool x.r1.s),.dig x.r1.L x.r1.p,.dig x.r1.N x.r1.q,.val (.bool x.r2.s),.dig x.r2.L x.r2.p,.dig x.r2.N x.r2.q,.val (.bool x.r3.s),.dig x.r3.L x.r3.p,.dig x.r3.N x.r3.q,.val (.bool x.r4.s),.dig x.r4.L x.r4.p,.dig x.r4.N x.r4.q,.val (.bool x.r5.s),.dig x.r5.L x.r5.p,.dig x.r5.N x.r5.q,.val (.bool x.r6.s),.dig x.r6.L x.r6.p,.dig x.r6.N x.r6.q,.row stT ((bE (aB R (k)) x).1).length (aF ((bE (aB R (k)) x).1)),.val (.int .i64 ((bE (aB R (k)) x).2)),.val (.int .i64 (((k:Nat):Int)+1))]:List Vp))))) (cmX (by kernel_rfl)) (by kernel_rfl) (Nat.zero_le _) ?_
   exact bv (N:=3) (σ:=[(3,.ref 30),(4,.own 0 28)]) (lo:=[]) (n:=300) (ah)
    (ae (aA (t:=3) (aj (n:=3) rfl) (aj (n:=2) rfl) (a8 (by omega))) (ae (iT (n:=0) (m:=5) (k:=k) (x:=x) (R:=R) (t:=22) Tryz.underlying22 (by kernel_rfl) rfl rfl (bf (aj (n:=3) rfl) (by omega)) hx) (ae (iS (n:=5) (t:=35) (ls:=.ref 6::cQ [7,10,13,16,19,22,25]) (by kernel_rfl) (by kernel_rfl) rfl (om (x:=x) rfl ⟨⟨rfl,rfl,rfl⟩,⟨rfl,rfl,rfl⟩,⟨rfl,rfl,rfl⟩,⟨rfl,rfl,rfl⟩,⟨rfl,rfl,rfl⟩,⟨rfl,rfl,rfl⟩,⟨rfl,rfl,rfl⟩,trivial⟩)) (ae (iU (u:=0) (k:=0) (m:=4) (m':=28) (c:=29) (n:=6) (ns:=[7,10,13,16,19,22,25]) (S:=(aB R (k))) (x:=x) (r:=.one .sl0) rfl rfl rfl rfl ⟨⟨rfl,rfl,rfl⟩,⟨rfl,rfl,rfl⟩,⟨rfl,rfl,rfl⟩,⟨rfl,rfl,rfl⟩,⟨rfl,rfl,rfl⟩,⟨rfl,rfl,rfl⟩,⟨rfl,rfl,rfl⟩,trivial⟩ (h2 x (List.mem_of_getElem? hx)) (aE h2 k (by omega))) (ae (aA (t:=40) (aj (n:=29) rfl) (aJ (c:=0)) (dS (by omega))) (ae (fY (m:=30) (t:=3) (aj (n:=3) rfl) (aJ (c:=1)) rfl rfl (by omega) (by omega)) (ai)))))))
    (by kernel_rfl) (obs:=[]) (by kernel_rfl) aG (cmP (by kernel_rfl)) (aW (sgi (n:=3) (u:=(((k:Nat):Int)+1)) (v:=((k+1:Nat):Int)) rfl (aj (n:=30) rfl) (by omega)) (aW (sgr (n:=4) (m:=28) (k:=0) rfl rfl (fG hx).symm) bk)) (Nat.zero_le _)
  ·refine bO (N:=5) (ρx:=frs (iV R v)++(([.rowW R.length (bc R),.row stT ([]:List St).length (aF ([]:List St)),.val (.int .i64 (R.length:Int))]:List Vp)++(([.val (.int .i64 ((R.length:Nat):Int)),.row stT (aB R (R.length)).length (aF (aB R (R.length)))]:List Vp)++(([]:List Vp))))) (cmX (by kernel_rfl)) (by kernel_rfl) (Nat.zero_le _) ?_
   exact bv (N:=3) (σ:=[(3,.own 0 4)]) (lo:=[]) (n:=300) (ah)
    (ae (aA (t:=3) (aj (n:=3) rfl) (aj (n:=2) rfl) (aU (by omega))) (ai))
    (by kernel_rfl) (obs:=[]) (by kernel_rfl) aG (cmP (by kernel_rfl)) (aW (sgr (n:=3) (m:=4) (k:=0) rfl rfl (by rfl)) bk) (Nat.zero_le _)
 refine(sL (ρ:=frs (iV R v)++(([.rowW R.length (bc R),.row stT ([]:List St).length (aF ([]:List St)),.val (.int .i64 (R.length:Int))]:List Vp)++(([.row stT (aB R R.length).length (aF (aB R R.length))]:List Vp)))) (w:=w) (fuel:=300) (args:=[.one (.ref 0)]) (vs:=[v]) (r:=.tup [.one (.ptr 0 0),.one (.i .i64 0)]) (lo:=[some (oA,.ext 0,oB)]) (obs:=[⟨cO Tryz.f11 0,oA,.ext 0,oB⟩]) (u:=0) (T:=79) (l:=.own 0 3) (S:=(aB R R.length))
  (ah)
  (ae (uU (u:=0) (k:=0) (m:=1) (r:=.one .sl0) rfl) (ae (cZ (n:=0) (t:=22) ⟨_,Tryz.underlying22⟩ rfl (l:=.ref 2) (fun _ _=>aD rfl az)) (ai))) Tryz.func11 (by kernel_rfl) (en hL0 aG) ⟨bJ (m:=0) rfl hR,trivial⟩ (.inr ⟨0,3,rfl,.inl rfl⟩)).mono ?_
 rintro e w' ⟨v,B',g,sl,rfl,⟨vs,rfl,h1⟩,h2,h3⟩
 match vs,h1 with
 | [x1,x2],h1=>
  obtain⟨g',k1,rfl⟩:=h1.1
  have e2:x2= .int .i64 0:=h1.2.1
  subst e2
  rw[h2]at k1;injection k1 with k1;subst k1
  exact⟨_,_,rfl,h3⟩
def oC:MS:=dJ 23 [(4,.v (.one (.ptr 0 0))),(9,.v (.one (.ref 0))),(10,.v (.one (.ref 2))),(11,.v (.one (.i .i64 0)))] [(79,[some (.own 0 1)])]
def oD:MS:=dJ 23 [(2,.v (.one (.nilp))),(3,.v (.one (.ref 3)))] []
def iW (R:List RSt) (v:Value) (j:Nat) (x:RSt):List Fq:=[]
theorem q_tOf1 {w:World} (R:List RSt) (v:Value) (j:Nat) (x:RSt) (hR:(Vp.rowW R.length (bc R)).p w v) (h2:∀x∈R,x.two) (hl:R.length≤100000) (hx:R[j]? =some x) (hA:cm R j) (hc:(bE (aB R j) x).2≠0):
  Calls Tryz.prog 11 #[v] w fun e w'=>e= .returned (.tuple #[.pointer none,.int .i64 (bE (aB R j) x).2])∧Below w.heap.size w w':=by
 have hjl:=(List.getElem?_eq_some_iff.1 hx).1
 have hL0:LOb.Ok Tryz.prog (frs (iW R v j x)++(([.rowW R.length (bc R),.row stT ([]:List St).length (aF ([]:List St)),.val (.int .i64 (R.length:Int))]:List Vp)++(([.val (.int .i64 ((bE (aB R j) x).2))]:List Vp)))) (Ent.of w) 23 ⟨cO Tryz.f11 0,oC,.ret,oD⟩:=by
  refine co j (fun k=>frs (iW R v j x)++(([.rowW R.length (bc R),.row stT ([]:List St).length (aF ([]:List St)),.val (.int .i64 (R.length:Int))]:List Vp)++(([.val (.int .i64 ((k:Nat):Int)),.row stT (aB R (k)).length (aF (aB R (k)))]:List Vp)))) (fun _=>dJ 23 [(4,.v (.one (.ptr 0 0))),(9,.v (.one (.ref 0))),(10,.v (.one (.ref 2))),(11,.v (.one (.ref 3)))] [(79,[some (.own 0 4)])]) ?_ ?_ ?_ (by decide) (Nat.zero_le _)
  ·intro a_ w_ h_
   exact MSt.conv (N:=3) (σ:=[(3,.i .i64 0),(4,.own 0 1)]) (cmP (by kernel_rfl)) (aW (sgi (n:=3) (u:=0) (v:=((0:Nat):Int)) rfl (aJ (c:=0)) (by omega)) (aW (sgr (n:=4) (m:=1) (k:=0) rfl rfl (by rfl)) bk)) (by kernel_rfl) h_ (Nat.zero_le _)
  ·intro k hk
   obtain⟨x,hx⟩:∃x,R[k]? =some x:=⟨_,List.getElem?_eq_getElem (by omega)⟩
   have h0:=hA.2 k x hk hx
   refine bO (N:=5) (ρx:=frs (iW R v j x)++(([.rowW R.length (bc R),.row stT ([]:List St).length (aF ([]:List St)),.val (.int .i64 (R.length:Int))]:List Vp)++(([.val (.int .i64 ((k:Nat):Int)),.row stT (aB R (k)).length (aF (aB R (k)))]:List Vp)++(([.plcW x.qs,.val (.int .i64 x.tm),.val (.bool x.r0.s),.dig x.r0.L x.r0.p,.dig x.r0.N x.r0.q,.val (.bool x.r1.s),.dig x.r1.L x.r1.p,.dig x.r1.N x.r1.q,.val (.bool x.r2.s),.dig x.r2.L x.r2.p,.dig x.r2.N x.r2.q,.val (.bool x.r3.s),.dig x.r3.L x.r3.p,.dig x.r3.N x.r3.q,.val (.bool x.r4.s),.dig x.r4.L x.r4.p,.dig x.r4.N x.r4.q,.val (.bool x.r5.s),.dig x.r5.L x.r5.p,.dig x.r5.N x.r5.q,.val (.bool x.r6.s),.dig x.r6.L x.r6.p,.dig x.r6.N x.r6.q,.row stT ((bE (aB R (k)) x).1).length (aF ((bE (aB R (k)) x).1)),.val (.int .i64 ((bE (aB R (k)) x).2)),.val (.int .i64 (((k:Nat):Int)+1))]:List Vp))))) (cmX (by kernel_rfl)) (by kernel_rfl) (Nat.zero_le _) ?_
   exact bv (N:=3) (σ:=[(3,.ref 30),(4,.own 0 28)]) (lo:=[]) (n:=300) (ah)
    (ae (aA (t:=3) (aj (n:=3) rfl) (aj (n:=2) rfl) (a8 (by omega))) (ae (iT (n:=0) (m:=5) (k:=k) (x:=x) (R:=R) (t:=22) Tryz.underlying22 (by kernel_rfl) rfl rfl (bf (aj (n:=3) rfl) (by omega)) hx) (ae (iS (n:=5) (t:=35) (ls:=.ref 6::cQ [7,10,13,16,19,22,25]) (by kernel_rfl) (by kernel_rfl) rfl (om (x:=x) rfl ⟨⟨rfl,rfl,rfl⟩,⟨rfl,rfl,rfl⟩,⟨rfl,rfl,rfl⟩,⟨rfl,rfl,rfl⟩,⟨rfl,rfl,rfl⟩,⟨rfl,rfl,rfl⟩,⟨rfl,rfl,rfl⟩,trivial⟩)) (ae (iU (u:=0) (k:=0) (m:=4) (m':=28) (c:=29) (n:=6) (ns:=[7,10,13,16,19,22,25]) (S:=(aB R (k))) (x:=x) (r:=.one .sl0) rfl rfl rfl rfl ⟨⟨rfl,rfl,rfl⟩,⟨rfl,rfl,rfl⟩,⟨rfl,rfl,rfl⟩,⟨rfl,rfl,rfl⟩,⟨rfl,rfl,rfl⟩,⟨rfl,rfl,rfl⟩,⟨rfl,rfl,rfl⟩,trivial⟩ (h2 x (List.mem_of_getElem? hx)) (aE h2 k (by omega))) (ae (aA (t:=40) (aj (n:=29) rfl) (aJ (c:=0)) (dS (by omega))) (ae (fY (m:=30) (t:=3) (aj (n:=3) rfl) (aJ (c:=1)) rfl rfl (by omega) (by omega)) (ai)))))))
    (by kernel_rfl) (obs:=[]) (by kernel_rfl) aG (cmP (by kernel_rfl)) (aW (sgi (n:=3) (u:=(((k:Nat):Int)+1)) (v:=((k+1:Nat):Int)) rfl (aj (n:=30) rfl) (by omega)) (aW (sgr (n:=4) (m:=28) (k:=0) rfl rfl (fG hx).symm) bk)) (Nat.zero_le _)
  ·refine bO (N:=5) (ρx:=frs (iW R v j x)++(([.rowW R.length (bc R),.row stT ([]:List St).length (aF ([]:List St)),.val (.int .i64 (R.length:Int))]:List Vp)++(([.val (.int .i64 ((j:Nat):Int)),.row stT (aB R (j)).length (aF (aB R (j)))]:List Vp)++(([.plcW x.qs,.val (.int .i64 x.tm),.val (.bool x.r0.s),.dig x.r0.L x.r0.p,.dig x.r0.N x.r0.q,.val (.bool x.r1.s),.dig x.r1.L x.r1.p,.dig x.r1.N x.r1.q,.val (.bool x.r2.s),.dig x.r2.L x.r2.p,.dig x.r2.N x.r2.q,.val (.bool x.r3.s),.dig x.r3.L x.r3.p,.dig x.r3.N x.r3.q,.val (.bool x.r4.s),.dig x.r4.L x.r4.p,.dig x.r4.N x.r4.q,.val (.bool x.r5.s),.dig x.r5.L x.r5.p,.dig x.r5.N x.r5.q,.val (.bool x.r6.s),.dig x.r6.L x.r6.p,.dig x.r6.N x.r6.q,.row stT ((bE (aB R (j)) x).1).length (aF ((bE (aB R (j)) x).1)),.val (.int .i64 ((bE (aB R (j)) x).2))]:List Vp))))) (cmX (by kernel_rfl)) (by kernel_rfl) (Nat.zero_le _) ?_
   exact bv (N:=3) (σ:=[(3,.ref 29)]) (lo:=[]) (n:=300) (ah)
    (ae (aA (t:=3) (aj (n:=3) rfl) (aj (n:=2) rfl) (a8 (by omega))) (ae (iT (n:=0) (m:=5) (k:=j) (x:=x) (R:=R) (t:=22) Tryz.underlying22 (by kernel_rfl) rfl rfl (bf (aj (n:=3) rfl) (by omega)) hx) (ae (iS (n:=5) (t:=35) (ls:=.ref 6::cQ [7,10,13,16,19,22,25]) (by kernel_rfl) (by kernel_rfl) rfl (om (x:=x) rfl ⟨⟨rfl,rfl,rfl⟩,⟨rfl,rfl,rfl⟩,⟨rfl,rfl,rfl⟩,⟨rfl,rfl,rfl⟩,⟨rfl,rfl,rfl⟩,⟨rfl,rfl,rfl⟩,⟨rfl,rfl,rfl⟩,trivial⟩)) (ae (iU (u:=0) (k:=0) (m:=4) (m':=28) (c:=29) (n:=6) (ns:=[7,10,13,16,19,22,25]) (S:=(aB R (j))) (x:=x) (r:=.one .sl0) rfl rfl rfl rfl ⟨⟨rfl,rfl,rfl⟩,⟨rfl,rfl,rfl⟩,⟨rfl,rfl,rfl⟩,⟨rfl,rfl,rfl⟩,⟨rfl,rfl,rfl⟩,⟨rfl,rfl,rfl⟩,⟨rfl,rfl,rfl⟩,trivial⟩ (h2 x (List.mem_of_getElem? hx)) (aE h2 j (by omega))) (ae (aA (t:=40) (aj (n:=29) rfl) (aJ (c:=0)) (fA (by omega))) (ai))))))
    (by kernel_rfl) (obs:=[]) (by kernel_rfl) aG (cmP (by kernel_rfl)) (aW (sgi (n:=3) (u:=(bE (aB R (j)) x).2) (v:=(bE (aB R j) x).2) rfl (aj (n:=29) rfl) (by omega)) bk) (Nat.zero_le _)
 refine(aH (ρ:=frs (iW R v j x)++(([.rowW R.length (bc R),.row stT ([]:List St).length (aF ([]:List St)),.val (.int .i64 (R.length:Int))]:List Vp)++(([.val (.int .i64 ((bE (aB R j) x).2))]:List Vp)))) (w:=w) (fuel:=300) (args:=[.one (.ref 0)]) (vs:=[v]) (r:=.tup [.one (.nilp),.one (.ref 3)]) (lo:=[some (oC,.ret,oD)]) (obs:=[⟨cO Tryz.f11 0,oC,.ret,oD⟩])
  (ah)
  (ae (uU (u:=0) (k:=0) (m:=1) (r:=.one .sl0) rfl) (ae (cZ (n:=0) (t:=22) ⟨_,Tryz.underlying22⟩ rfl (l:=.ref 2) (fun _ _=>aD rfl az)) (ai))) (by kernel_rfl) Tryz.func11 (by kernel_rfl) (en hL0 aG) ⟨bJ (m:=0) rfl hR,trivial⟩).mono ?_
 rintro e w' ⟨v,rfl,⟨vs,rfl,h1⟩,h2⟩
 match vs,h1 with
 | [x1,x2],h1=>
  have e1:x1= .pointer none:=h1.1
  have e2:x2= .int .i64 _:=bj rfl h1.2.1
  subst e1;subst e2
  exact⟨rfl,h2⟩
end Go.Proofs.YtfhinmdhjlmikaaGreat
namespace Go.Proofs.YtfhinmdhjlmikaaGreat
set_option linter.unusedSimpArgs false
set_option linter.unusedVariables false
set_option maxRecDepth 100000
open Go.RowKit
theorem jp:∀ {S:List St} {b:Int} {k:Nat},(∀(i:Nat) (x:St),i<k→S[i]? =some x→x.tm<b)→(∀x,S[k]? =some x→¬x.tm<b)→k≤S.length→plN S b=k
 | [],_,k,_,_,hk=>by simp at hk;subst hk;rfl
 | s::S,b,0,_,h,_=>by
  have:=h s rfl
  simp[plN,this]
 | s::S,b,k+1,h1,h2,hk=>by
  have h0:=h1 0 s (by omega) rfl
  simp only[plN,if_pos h0]
  rw[jp (S:=S) (b:=b) (k:=k) (fun i x hi hx=>h1 (i+1) x (by omega) (by simpa using hx)) (fun x hx=>h2 x (by simpa using hx)) (by simp at hk;omega)]
/-- What lies around a time. -/
inductive Road (S:List St) (a:Int):St→St→Int→Prop
 | E (h:S.length=0):Road S a zst zst 6
 | O1 (f:St) (hf:S[0]? =some f) (hn:0<S.length) (ha:a<f.tm):Road S a zst zst 17
 | O2 (f:St) (hf:S[0]? =some f) (hb:f.tm≤a) (l:St) (hl:S[S.length - 1]? =some l) (hn:0<S.length) (ha:l.tm<a):Road S a zst zst 17
 | Q (f:St) (hf:S[0]? =some f) (hb:f.tm≤a) (l:St) (hl:S[S.length - 1]? =some l) (hn:0<S.length) (ha:a≤l.tm) (y:St) (hy:S[plN S a]? =some y) (ey:y.tm=a) (hp:plN S a<S.length) (eq1:plN S (a+1)=plN S a+1):Road S a y y 0
 | M (f:St) (hf:S[0]? =some f) (hb:f.tm≤a) (l:St) (hl:S[S.length - 1]? =some l) (hn:0<S.length) (ha:a≤l.tm) (y:St) (hy:S[plN S a]? =some y) (ey:a<y.tm) (hp:plN S a<S.length) (h0:0<plN S a) (eq1:plN S (a+1)=plN S a) (z:St) (hz:S[plN S a - 1]? =some z):Road S a z y 0
theorem road {S:List St} (hS:GoodS S) (a:Int):∃z y c,Road S a z y c:=by
 by_cases h0:S.length=0
 ·exact⟨_,_,_,.E h0⟩
 ·obtain⟨f,hf⟩:∃f,S[0]? =some f:=⟨_,List.getElem?_eq_getElem (by omega)⟩
  obtain⟨l,hl⟩:∃f,S[S.length - 1]? =some f:=⟨_,List.getElem?_eq_getElem (by omega)⟩
  by_cases ha:a<f.tm
  ·exact⟨_,_,_,.O1 f hf (by omega) ha⟩
  ·by_cases hb:l.tm<a
   ·exact⟨_,_,_,.O2 f hf (by omega) l hl (by omega) hb⟩
   ·have hle:=bi S a
    have hp:plN S a<S.length:=by
     by_cases e:plN S a=S.length
     ·obtain⟨x,h1,h2⟩:=di (S:=S) (a:=a) (k:=S.length - 1) (by omega)
      rw[hl]at h1;injection h1 with h1;subst h1;exact absurd h2 hb
     ·omega
    obtain⟨y,hy,hge⟩:=qJ hp
    by_cases ey:y.tm=a
    ·refine⟨_,_,_,.Q f hf (by omega) l hl (by omega) (by omega) y hy ey hp (jp (fun i x hi hx=> ?_) (fun x hx=> ?_) (by omega))⟩
     ·by_cases e:i=plN S a
      ·subst e;rw[hy]at hx;injection hx with hx;subst hx;omega
      ·obtain⟨x',h1,h2⟩:=di (S:=S) (a:=a) (k:=i) (by omega)
       rw[h1]at hx;injection hx with hx;subst hx;omega
     ·have:=hS.sort _ _ _ _ (Nat.lt_succ_self _) hy hx;omega
    ·have h1:0<plN S a:=by
      by_cases e:plN S a=0
      ·rw[e,hf]at hy;injection hy with hy;subst hy;omega
      ·omega
     obtain⟨z,hz⟩:∃f,S[plN S a - 1]? =some f:=⟨_,List.getElem?_eq_getElem (by omega)⟩
     refine⟨_,_,_,.M f hf (by omega) l hl (by omega) (by omega) y hy (by omega) hp h1 (jp (fun i x hi hx=> ?_) (fun x hx=> ?_) hle) z hz⟩
     ·obtain⟨x',h3,h2⟩:=di (S:=S) (a:=a) (k:=i) hi
      rw[h3]at hx;injection hx with hx;subst hx;omega
     ·rw[hy]at hx;injection hx with hx;subst hx;omega
/-- The pose at a time. -/
noncomputable def atP (z y:St) (c a:Int):Pq:=
 if c≠0 then Pq.zero else if z.tm=y.tm then y.pose else Pq.mk (z.pose.rot.way (z.pose.rot.inv.mul y.pose.rot) (Fq.ratio (a - z.tm) (y.tm - z.tm))) (z.pose.pos.lerp y.pose.pos (Fq.ratio (a - z.tm) (y.tm - z.tm)))
section
variable {S:List St} {a:Int} {z y:St} {c:Int} {w:World} {g:Nat} {sl:Value}
theorem yp (h:TrkS 79 w g sl S) (hS:GoodS S) (hr:Road S a z y c):Calls Tryz.prog 13 (.pointer (some ⟨g,0,none⟩)::[.int .i64 a]).toArray w fun e w'=>∃v0 v1:Value,e= .returned (.tuple #[v0,v1,.int .i64 c])∧dm w' v0 z∧dm w' v1 y∧Below w.heap.size w w':=by
 have hl:=hS.len
 cases hr with
 | E h0=>exact yi S a h hl h0
 | O1 f hf hn ha=>exact uJ S a h hl f hf hn ha
 | O2 f hf hb l hl' hn ha=>exact uK S a h hl f hf hb l hl' hn ha
 | Q f hf hb l hl' hn ha y hy ey hp eq1=>exact yj S a h hl f hf hb l hl' hn ha _ hy ey hp (hS.at hy).ok (hS.at hy).good
 | M f hf hb l hl' hn ha y hy ey hp h0 eq1 z hz=>exact yk S a h hl f hf hb l hl' hn ha _ hy ey hp h0 (hS.at hy).ok (hS.at hy).good _ hz (hS.at hz).ok (hS.at hz).good
theorem q_AtS (h:TrkS 79 w g sl S) (hS:GoodS S) (hr:Road S a z y c):Calls Tryz.prog 12 (.pointer (some ⟨g,0,none⟩)::[.int .i64 a]).toArray w fun e w'=>∃v0:Value,e= .returned (.tuple #[v0,.int .i64 c])∧fw w' v0 (atP z y c a)∧Below w.heap.size w w':=by
 have hl:=hS.len
 cases hr with
 | E h0=>exact q_AtE S a h hl h0
 | O1 f hf hn ha=>exact q_AtO1 S a h hl f hf hn ha
 | O2 f hf hb l hl' hn ha=>exact q_AtO2 S a h hl f hf hb l hl' hn ha
 | Q f hf hb l hl' hn ha y hy ey hp eq1=>
  rw[show atP z z 0 a=z.pose by simp[atP]]
  exact q_AtQ S a h hl f hf hb l hl' hn ha _ hy ey hp (hS.at hy).ok (hS.at hy).good
 | M f hf hb l hl' hn ha y hy ey hp h0 eq1 z hz=>
  have h1:=di (S:=S) (a:=a) (k:=plN S a - 1) (by omega)
  obtain⟨z',h2,h3⟩:=h1
  rw[hz]at h2;injection h2 with h2;subst h2
  have gy:=hS.at hy;have gz:=hS.at hz
  rw[show atP z y 0 a=_ by simp only[atP];rw[if_neg (by omega),if_neg (by omega)]]
  exact q_AtM S a h hl f hf hb l hl' hn ha _ hy ey hp h0 gy.ok gy.good _ hz gz.ok gz.good gy.lo gy.hi gz.lo h3 (hS.adj _ _ _ hz (by rw[←hy];congr 1;omega))
theorem q_DropS (h:TrkS 79 w g sl S) (hS:GoodS S):Calls Tryz.prog 26 (.pointer (some ⟨g,0,none⟩)::[.int .i64 a]).toArray w fun e w'=>e= .returned (.int .i64 ((plN S (a+1) - 1:Nat):Int))∧TrkM 79 w g sl (S.drop (plN S (a+1) - 1)) w':=by
 have hl:=hS.len
 have hle:=bi S a
 have hb:∀(i:Nat) (x:St),i<plN S a→S[i]? =some x→x.tm<a+1:=fun i x hi hx=>by
  obtain⟨x',h1,h2⟩:=di hi
  rw[hx]at h1;injection h1 with h1;subst h1;omega
 have hd:S.drop 0=S:=rfl
 by_cases hp:plN S a<S.length
 ·obtain⟨y,hy,hge⟩:=qJ hp
  by_cases ey:y.tm=a
  ·have eq1:plN S (a+1)=plN S a+1:=jp (fun i x hi hx=>by
    by_cases e:i=plN S a
    ·subst e;rw[hy]at hx;injection hx with hx;subst hx;omega
    ·exact hb i x (by omega) hx) (fun x hx=>by have:=hS.sort _ _ _ _ (Nat.lt_succ_self _) hy hx;omega) (by omega)
   rw[eq1,Nat.add_sub_cancel]
   by_cases h0:plN S a=0
   ·rw[h0];exact aaV S a h hl y hy hp (by omega) h0
   ·exact aaW S a h hl y hy hp (by omega) (by omega)
  ·have eq1:plN S (a+1)=plN S a:=jp hb (fun x hx=>by rw[hy]at hx;injection hx with hx;subst hx;omega) hle
   rw[eq1]
   by_cases h0:plN S a≤1
   ·rw[show plN S a - 1=0 by omega];exact aaT S a h hl y hy hp (by omega) h0
   ·rw[show((plN S a - 1:Nat):Int)=((plN S a:Nat):Int) - 1 by omega];exact aaU S a h hl y hy hp (by omega) (by omega)
 ·have hp:plN S a=S.length:=by omega
  have eq1:plN S (a+1)=plN S a:=jp hb (fun x hx=>by have:=(List.getElem?_eq_some_iff.1 hx).1;omega) hle
  rw[eq1]
  by_cases h0:plN S a≤1
  ·rw[show plN S a - 1=0 by omega];exact aaR S a h hl hp h0
  ·rw[show((plN S a - 1:Nat):Int)=((plN S a:Nat):Int) - 1 by omega];exact aaS S a h hl hp (by omega)
end
end Go.Proofs.YtfhinmdhjlmikaaGreat
