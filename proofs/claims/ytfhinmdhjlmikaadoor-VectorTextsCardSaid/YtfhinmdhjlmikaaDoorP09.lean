/- An executor: operations one after the other; rows that grow no more. An executor: code and functions. An executor: functions. An executor: loops whose number of rounds is not known. An executor: what is known of unknowns; rows; operations on numbers, truth values and rows. -/
import Derived.Test.YtfhinmdhjlmikaaDoorP08
import Derived.Scope
namespace Go.Proofs.YtfhinmdhjlmikaaDoor
set_option linter.unusedSimpArgs false
set_option linter.unusedVariables false
set_option maxRecDepth 100000
open Go.RowKit
def t4 (p:Program) (C:List Inst) (L:List OIns) (nt:Nat) (ops:Array Oper) (s:MS) (j:Nat):Option MS:=
 match ops[j]? with
 | none=>none
 | some o=>match qj p C L nt ops (bo s) (dl s) o with
  | some (e,new)=>some (fe (iX s new) [(j,e)])
  | none=>none
def t5 (p:Program) (C:List Inst) (L:List OIns) (nt:Nat) (ops:Array Oper):List Nat→MS→Option MS
 | [],s=>some s
 | j::js,s=>match t4 p C L nt ops s j with
  | some s1=>t5 p C L nt ops js s1
  | none=>none
section
variable {p:Program} {ρ:Rho} {B B':Blk} {a a':Act} {w w':World} {w0:Ent} {C:List Inst} {L:List OIns} {nt i:Nat} {Q:Exit→Act→World→Prop} {o:Oper} {ops:Array Oper} {v:Value} {vt:List (TypeId×Nat)} {ks:List Nat} {X:Nat→Prop}
theorem qn (hC:∀i∈C,i.Ok0 p ρ w0) (hO:∀i∈L,i.Ok p ρ) {s:MS} {j:Nat} {e:Eff} {new:List (TypeId×Nat)} (ho:ops[j]? =some o) (he:qj p C L nt ops (bo s) (dl s) o=some (e,new)) (hs:MSt ρ w0 nt s a w) {K:Act→World→Prop} (hK:∀a' w',MSt ρ w0 nt (fe (iX s new) [(j,e)]) a' w'→K a' w'):wpOp p ops Q j K a w:=by
 obtain⟨B,hi,hv,hB⟩:=hs
 have hop:=rf (ρ:=ρ) (w0:=w0) (Q:=Q) hC hO ho he (vt:=dl s++(new++ [])) rfl
 have hal:=ri he
 refine hop B a w (by rw[List.append_nil];exact hi.ext new) (fun x _ c hc=>hv x c hc) (fun v hv'=> ?_) K (fun B' a' w' hp=>hK a' w' ⟨B',?_,fun x c hx=> ?_,fun v hv'=> ?_⟩)
 ·cases hb:B.v v with
  | none=>rfl
  | some g=>
   have h1:=hal v hv'
   have h2:=hB v (by rw[hb];simp)
   rw[h1.1,dU]at h2;omega
 ·rw[ft,iY]
  have:=hp.inv
  rwa [List.append_nil]at this
 ·have h1:=lL (fun x c h=>mX h) (ii hx)
  simp only[lkE]at h1
  cases hf:e.wr.find? (fun q=>q.1==x)with
  | some q=>
   rw[hf]at h1
   have h2:=List.find?_some hf
   have h3:=List.mem_of_find?_eq_some hf
   simp only[beq_iff_eq]at h2
   have h4:=hp.wr q h3
   simp only[Option.some.injEq]at h1
   rw[h2,h1]at h4
   exact h4
  | none=>
   rw[hf]at h1
   obtain⟨h1,h2⟩:=dS h1
   exact hp.keep x c (hv x c h1) (fun q hq e=>by have:=List.find?_eq_none.1 hf q hq;simp[e]at this) h2
 ·have hl2:(fe (iX s new) [(j,e)]).vars.length=s.vars.length+new.length:=by
   rw[←dU,ft,iY,List.length_append,dU]
  rw[hl2]
  cases hb:B.v v with
  | some g=>have:=hB v (by rw[hb];simp);omega
  | none=>
   have h1:=hal v (hp.new v hb hv')
   rw[h1.1,dU];omega
theorem pc (hC:∀i∈C,i.Ok0 p ρ w0) (hO:∀i∈L,i.Ok p ρ) {s s':MS} {j:Nat} (h:t4 p C L nt ops s j=some s') (hs:MSt ρ w0 nt s a w) {K:Act→World→Prop} (hK:∀a' w',MSt ρ w0 nt s' a' w'→K a' w'):wpOp p ops Q j K a w:=by
 unfold t4 at h
 split at h
 ·cases h
 ·rename_i o ho
  split at h
  ·rename_i e new he
   injection h with h;subst h
   exact qn hC hO ho he hs hK
  ·cases h
theorem lM (hC:∀i∈C,i.Ok0 p ρ w0) (hO:∀i∈L,i.Ok p ρ):∀ {js:List Nat} {s s':MS} {a:Act} {w:World},t5 p C L nt ops js s=some s'→MSt ρ w0 nt s a w→(∀a' w',MSt ρ w0 nt s' a' w'→Q .normal a' w')→wpOps p ops Q js a w
 | [],s,s',a,w,h,hs,hQ=>by
  simp only[t5,Option.some.injEq]at h;subst h
  simp only[wpOps]
  exact hQ a w hs
 | j::js,s,s',a,w,h,hs,hQ=>by
  simp only[t5]at h
  split at h
  ·rename_i s1 h1
   rw[wpOps_cons]
   exact pc hC hO h1 hs (fun a' w' hs'=>lM hC hO h hs' hQ)
  ·cases h
/-- Fewer blocks belong to objects of which the leaf does not speak. -/
theorem Leaf.holds.less {l:Leaf} (h:l.holds ρ B w v) (hv:∀x g,B'.v x=some g↔B.v x=some g) (ho:∀k g,B'.o k g→B.o k g) (hk:∀k∈l.objs,∀g,B.o k g→B'.o k g):l.holds ρ B' w v:=by
 cases l<;>simp only[Leaf.holds]at h⊢ <;>try exact h
 ·obtain⟨g,h1,h2⟩:=h;exact⟨g,(hv _ _).2 h1,h2⟩
 ·obtain⟨s,h1,h2,h3⟩:=h
  refine⟨s,h1,h2,fun g hg hx=>h3 g hg ?_⟩
  rcases hx with⟨x,hx⟩ | ⟨k,hx⟩
  ·exact .inl ⟨x,(hv _ _).1 hx⟩
  ·exact .inr ⟨k,ho _ _ hx⟩
 ·rename_i k m
  obtain⟨s,h1,h2,h3,h4⟩:=h
  exact⟨s,h1,h2,fun g hg=>hk k (by simp[Leaf.objs]) g (h3 g hg),fun g hg=>hk k (by simp[Leaf.objs]) g (h4 g hg)⟩
theorem ap.less (hv:∀x g,B'.v x=some g↔B.v x=some g) (ho:∀k g,B'.o k g→B.o k g):∀ {ls:List Leaf} {vs:List Value},ap ρ B w ls vs→(∀k∈ls.flatMap Leaf.objs,∀g,B.o k g→B'.o k g)→ap ρ B' w ls vs
 | [],[],_,_=>trivial
 | _::_,_::_,h,hn=>⟨h.1.less hv ho (fun k hk=>hn k (by simp[hk])),ap.less hv ho h.2 (fun k hk=>hn k (by rw[List.flatMap_cons];exact List.mem_append.2 (.inr hk)))⟩
 | [],_::_,h,_=>h.elim
 | _::_,[],h,_=>h.elim
theorem SV.holds.less {s:SV} (h:s.holds ρ B w v) (hv:∀x g,B'.v x=some g↔B.v x=some g) (ho:∀k g,B'.o k g→B.o k g) (hk:∀k∈s.objs,∀g,B.o k g→B'.o k g):s.holds ρ B' w v:=by
 cases s with
 | one l=>exact Leaf.holds.less h hv ho hk
 | agg ls=>obtain⟨vs,e,h⟩:=h;exact⟨vs,e,h.less hv ho hk⟩
theorem ct.less (hv:∀x g,B'.v x=some g↔B.v x=some g) (ho:∀k g,B'.o k g→B.o k g):∀ {ls:List SV} {vs:List Value},ct ρ B w ls vs→(∀k∈ls.flatMap SV.objs,∀g,B.o k g→B'.o k g)→ct ρ B' w ls vs
 | [],[],_,_=>trivial
 | _::_,_::_,h,hn=>⟨h.1.less hv ho (fun k hk=>hn k (by simp[hk])),ct.less hv ho h.2 (fun k hk=>hn k (by rw[List.flatMap_cons];exact List.mem_append.2 (.inr hk)))⟩
 | [],_::_,h,_=>h.elim
 | _::_,[],h,_=>h.elim
theorem AV.holds.less {c:AV} (h:c.holds ρ B w v) (hv:∀x g,B'.v x=some g↔B.v x=some g) (ho:∀k g,B'.o k g→B.o k g) (hk:∀k∈c.objs,∀g,B.o k g→B'.o k g):c.holds ρ B' w v:=by
 cases c with
 | v s=>exact SV.holds.less h hv ho hk
 | tup xs=>obtain⟨vs,e,h⟩:=h;exact⟨vs,e,h.less hv ho hk⟩
 | any=>exact h
/-- A row that grows no more. -/
def wu (i n n':Nat) (l:Leaf):Option Leaf:=match l with
 | .own k m=>if k=i then(if m=n then some (.ref n')else none)else some l
 | _=>some l
def xT (i n n':Nat):Option AV→Option AV
 | some (.v (.one l))=>(wu i n n' l).map fun l=>.v (.one l)
 | some c=>if c.hit [i]then none else some c
 | none=>none
def sr (i n n':Nat) (s:MS):MS:=⟨s.slots.map (xT i n n'),s.vars.map fun v=>(v.1,v.2.map (rg [i]))⟩
def wv (L:List OIns) (id:Nat) (s:MS):MS:=L.foldl (fun s o=>match o.key,o.xs,o.r with
 | .frz r i,[.one (.ref n)],.one (.ref n')=>if r=id then sr i n n' s else s
 | _,_,_=>s) s
theorem qo {n n' rid:Nat} {s:MS} (hr:(OIns.mk (.frz rid i) [.one (.ref n)] (.one (.ref n'))).Ok p ρ) (hs:MSt ρ w0 nt s a w):MSt ρ w0 nt (sr i n n' s) a w:=by
 obtain⟨B,hi,hv,hB⟩:=hs
 have less:∀ {c:AV} {u:Value},c.holds ρ B w u→c.hit [i]=false→c.holds ρ ⟨B.v,fun k g=>k≠i∧B.o k g⟩ w u:=fun {c u} h hn=>h.less (fun _ _=>Iff.rfl) (fun _ _ h=>h.2) (fun k hk g hg=>⟨fun e=>by
  subst e
  have:=List.any_eq_false.1 hn k hk
  simp at this,hg⟩)
 have vte:dl (sr i n n' s)=dl s:=by unfold dl sr;simp[List.map_map,Function.comp_def]
 refine⟨⟨B.v,fun k g=>k≠i∧B.o k g⟩,⟨fun x g hg=>by rw[vte];exact hi.blk x g hg,fun k g hg=>hi.own k g hg.2,⟨hi.inj.v,fun k l g h1 h2=>hi.inj.o k l g h1.2 h2.2,fun x k g h1 h2=>hi.inj.vo x k g h1 h2.2⟩,hi.below,hi.size,hi.dfr,hi.pin⟩,fun x c hx=> ?_,fun x hx=>by simpa [sr]using hB x hx⟩
 unfold bo sr at hx
 simp only at hx
 split at hx
 ·rename_i hxs
  rw[List.getElem?_map]at hx
  cases e:s.slots[x]? with
  | none=>rw[e]at hx;simp at hx
  | some d=>
   rw[e]at hx
   have h1:xT i n n' d=some c:=by simpa using hx
   cases d with
   | none=>cases h1
   | some d=>
    have h2:=hv x d (by unfold bo;rw[if_pos hxs,e])
    unfold bF at h2⊢
    rw[if_pos hxs]at h2⊢
    obtain⟨u,k1,k2⟩:=h2
    refine⟨u,k1,?_⟩
    have other:(if d.hit [i]then none else some d)=some c→c.holds ρ ⟨B.v,fun k g=>k≠i∧B.o k g⟩ w u:=fun h=>by
     split at h
     ·cases h
     ·rename_i hn;injection h with h;subst h
      exact less k2 (by simpa using hn)
    cases d with
    | v sv=>
     cases sv with
     | one l=>
      simp only[xT]at h1
      cases hf:wu i n n' l with
      | none=>rw[hf]at h1;cases h1
      | some l'=>
       rw[hf]at h1
       simp only[Option.map_some,Option.some.injEq]at h1
       subst h1
       cases l with
       | own k m=>
        simp only[wu]at hf
        split at hf
        ·rename_i hk
         subst hk
         split at hf
         ·rename_i hm
          subst hm
          injection hf with hf;subst hf
          obtain⟨q,q1,q2,q3,q4⟩:=k2
          have h5:(Leaf.ref m).holds ρ ⟨B.v,fun l g=>l≠k∧B.o l g⟩ w u:=⟨q,q1,q2,fun g hg hx=>by
           rcases hx with⟨x,hx⟩ | ⟨l,hl,hx⟩
           ·exact hi.inj.vo _ _ _ hx (q3 g hg)
           ·exact hl (hi.inj.o _ _ _ hx (q3 g hg))⟩
          exact hr _ w [u] ⟨h5,trivial⟩
         ·cases hf
        ·rename_i hk
         injection hf with hf;subst hf
         exact less (c:=.v (.one (.own k m))) k2 (by simpa [AV.hit,AV.objs,SV.objs,Leaf.objs]using hk)
       | _=>
        simp only[wu,Option.some.injEq]at hf
        subst hf
        exact less k2 (by rfl)
     | agg ls=>exact other h1
    | tup xs=>exact other h1
    | any=>exact other h1
 ·rename_i hxs
  have hk:bo (lH [i] s) x=some c:=by
   unfold bo lH
   rw[if_neg hxs]
   exact hx
  obtain⟨h1,h2⟩:=dS (mW hk)
  have h3:=hv x c h1
  unfold bF at h3⊢
  rw[if_neg hxs]at h3⊢
  obtain⟨g,cs,ty,u,k1,k2,k3,k4⟩:=h3
  exact⟨g,cs,ty,u,k1,k2,k3,less k4 h2⟩
theorem lN {id:Nat}:∀ {L:List OIns} {s:MS},(∀i∈L,i.Ok p ρ)→MSt ρ w0 nt s a w→MSt ρ w0 nt (wv L id s) a w
 | [],s,_,hs=>hs
 | q::L,s,hO,hs=>by
  unfold wv
  rw[List.foldl_cons]
  refine lN (fun i hi=>hO i (List.mem_cons_of_mem _ hi)) ?_
  split
  ·rename_i r i n n' h1 h2 h3
   split
   ·refine qo (p:=p) (rid:=r) ?_ hs
    have:=hO q (by simp)
    obtain⟨k,xs,rr⟩:=q
    simp only at h1 h2 h3
    subst h1;subst h2;subst h3
    exact this
   ·exact hs
  ·exact hs
end
/-- A region, its operations in any order, or one after the other. -/
def su (p:Program) (C:List Inst) (L:List OIns) (nt id:Nat) (ops:Array Oper) (draw:Bool) (s:MS):Option MS:=
 match xS p C L nt ops (wv L id s)with
 | some s1=>some s1
 | none=>if draw then none else t5 p C L nt ops (List.range ops.size) (wv L id s)
section
variable {p:Program} {ρ:Rho} {a:Act} {w:World} {w0:Ent} {C:List Inst} {L:List OIns} {nt:Nat} {Q:Exit→Act→World→Prop} {ops:Array Oper}
theorem lO (hC:∀i∈C,i.Ok0 p ρ w0) (hO:∀i∈L,i.Ok p ρ) (hm:p.follows .mixedOrders=true) {s s':MS} {id:Nat} {draw:Bool} (h:su p C L nt id ops draw s=some s') (hs:MSt ρ w0 nt s a w)
  (hQ:∀a' w',MSt ρ w0 nt s' a' w'→Q .normal a' w'):(Code.region id ops draw).wp p Q a w:=by
 have hs':=lN (p:=p) (id:=id) hO hs
 unfold su at h
 split at h
 ·rename_i s1 hr
  injection h with h;subst h
  exact qm hC hO hm hr hs' hQ
 ·cases draw with
  | true=>simp at h
  | false=>
   simp only[Bool.false_eq_true,if_false]at h
   exact wp_region (lM hC hO h hs' hQ)
end
end Go.Proofs.YtfhinmdhjlmikaaDoor
namespace Go.Proofs.YtfhinmdhjlmikaaDoor
set_option linter.unusedSimpArgs false
set_option linter.unusedVariables false
set_option maxRecDepth 100000
open Go.RowKit
inductive Ex where
 | nrm
 | ext (id:Nat)
 | ret
 deriving DecidableEq
def Ex.exit:Ex→Exit
 | .nrm=>.normal
 | .ext id=>.exit id
 | .ret=>.ret
def df (p:Program) (C:List Inst) (L:List OIns) (nt:Nat):Nat→Code→MS→Option (Ex×MS)
 | 0,_,_=>none
 | n+1,c,s=>match c with
  | .skip=>some (.nrm,s)
  | .region id ops draw=>(su p C L nt id ops draw s).map fun s=>(.nrm,s)
  | .seq a b=>match df p C L nt n a s with
   | some (.nrm,s1)=>df p C L nt n b s1
   | r=>r
  | .cond c x y=>match evL (bo s) c with
   | some (.b true)=>df p C L nt n x s
   | some (.b false)=>df p C L nt n y s
   | _=>none
  | .block id b=>match df p C L nt n b s with
   | some (.ext i,s1)=>if i=id then some (.nrm,s1)else some (.ext i,s1)
   | r=>r
  | .loop b=>match df p C L nt n b s with
   | some (.nrm,s1)=>df p C L nt n (.loop b) s1
   | r=>r
  | .exit id=>some (.ext id,s)
  | .ret=>some (.ret,s)
  | .scope b=>df p C L nt n b s
  | .label _=>some (.nrm,s)
  | _=>none
section
variable {p:Program} {ρ:Rho} {a:Act} {w:World} {w0:Ent} {C:List Inst} {L:List OIns} {nt:Nat} {Q:Exit→Act→World→Prop}
/-- A loop goes through its rounds one after the other. -/
theorem gC {c:Code} (I:Nat→Act→World→Prop) (N:Nat) (h0:I 0 a w) (round:∀k a w,k≤N→I k a w→c.wp p (Exit.then (fun a' w'=>k<N∧I (k+1) a' w') Q) a w):(Code.loop c).wp p Q a w:=by
 intro b k cs
 have key:∀n j a w,N - j=n→j≤N→I j a w→
   ∃e a' w',Q e a' w'∧Arrives p (lone (b.at a (.code c::.inLoop c::k)) cs w) b k cs e a' w':=by
  intro n
  induction n with
  | zero=>
   intro j a w hn hj hI
   obtain⟨e,a₁,w₁,hq,harr⟩:=round j a w hj hI b (.inLoop c::k) cs
   cases e with
   | normal=>obtain⟨h,_⟩:=hq;omega
   | exit id=>exact⟨_,a₁,w₁,hq,.pass (x:=.inLoop c) rfl (fun _ _=>.inl (by simp)) harr⟩
   | goto l=>exact⟨_,a₁,w₁,hq,.pass (x:=.inLoop c) rfl (fun _ _=>.inl (by simp)) harr⟩
   | ret=>exact⟨_,a₁,w₁,hq,.pass (x:=.inLoop c) rfl (fun _ _=>.inl (by simp)) harr⟩
   | panic ch=>exact⟨_,a₁,w₁,hq,.pass (x:=.inLoop c) rfl (fun _ _=>.inl (by simp)) harr⟩
   | outgrown=>exact⟨_,a₁,w₁,hq,.pass (x:=.inLoop c) rfl (fun _ _=>.inl (by simp)) harr⟩
  | succ n ih=>
   intro j a w hn hj hI
   obtain⟨e,a₁,w₁,hq,harr⟩:=round j a w hj hI b (.inLoop c::k) cs
   cases e with
   | normal=>
    obtain⟨hlt,hI₁⟩:=hq
    obtain⟨e₂,a₂,w₂,hq₂,harr₂⟩:=ih (j+1) a₁ w₁ (by omega) (by omega) hI₁
    exact⟨e₂,a₂,w₂,hq₂,.of_steps (Steps.trans harr (.one step_inLoop)) harr₂⟩
   | exit id=>exact⟨_,a₁,w₁,hq,.pass (x:=.inLoop c) rfl (fun _ _=>.inl (by simp)) harr⟩
   | goto l=>exact⟨_,a₁,w₁,hq,.pass (x:=.inLoop c) rfl (fun _ _=>.inl (by simp)) harr⟩
   | ret=>exact⟨_,a₁,w₁,hq,.pass (x:=.inLoop c) rfl (fun _ _=>.inl (by simp)) harr⟩
   | panic ch=>exact⟨_,a₁,w₁,hq,.pass (x:=.inLoop c) rfl (fun _ _=>.inl (by simp)) harr⟩
   | outgrown=>exact⟨_,a₁,w₁,hq,.pass (x:=.inLoop c) rfl (fun _ _=>.inl (by simp)) harr⟩
 obtain⟨e,a',w',hq,harr⟩:=key (N - 0) 0 a w rfl (by omega) h0
 exact⟨e,a',w',hq,.of_steps (.one step_loop) harr⟩
theorem nR {s:MS} {x:Operand} {l:Leaf} (hs:MSt ρ w0 nt s a w) (h:evL (bo s) x=some l):∃B,l.holds ρ B w (a.eval x):=by
 obtain⟨B,_,hv,_⟩:=hs
 exact⟨B,dG (fun y _ c hc=>hv y c hc) h⟩
theorem bG (hC:∀i∈C,i.Ok0 p ρ w0) (hO:∀i∈L,i.Ok p ρ) (hm:p.follows .mixedOrders=true):∀ {n:Nat} {c:Code} {s s':MS} {e:Ex} {a:Act} {w:World} {Q:Exit→Act→World→Prop},df p C L nt n c s=some (e,s')→
  MSt ρ w0 nt s a w→(∀a' w',MSt ρ w0 nt s' a' w'→Q e.exit a' w')→c.wp p Q a w
 | 0,_,_,_,_,_,_,_,h,_,_=>by simp[df]at h
 | n+1,c,s,s',e,a,w,Q,h,hs,hQ=>by
  cases c with
  | skip=>
   simp[df]at h;obtain⟨rfl,rfl⟩:=h
   exact wp_skip (hQ a w hs)
  | region id ops draw=>
   simp only[df]at h
   cases hr:su p C L nt id ops draw s with
   | none=>rw[hr]at h;cases h
   | some s1=>
    rw[hr]at h;simp at h;obtain⟨rfl,rfl⟩:=h
    exact lO hC hO hm hr hs hQ
  | seq x y=>
   simp only[df]at h
   split at h
   ·rename_i s1 h1
    refine wp_seq (bG hC hO hm h1 hs (fun a' w' hs'=> ?_))
    exact bG hC hO hm h hs' hQ
   ·rename_i hne
    refine wp_seq (bG hC hO hm h hs (fun a' w' hs'=> ?_))
    cases e with
    | nrm=>exact absurd h (hne s')
    | ext id=>exact hQ a' w' hs'
    | ret=>exact hQ a' w' hs'
  | cond k x y=>
   simp only[df]at h
   split at h
   ·rename_i hk
    obtain⟨B,hb⟩:=nR hs hk
    exact wp_cond_true hb (bG hC hO hm h hs hQ)
   ·rename_i hk
    obtain⟨B,hb⟩:=nR hs hk
    exact wp_cond_false hb (bG hC hO hm h hs hQ)
   ·cases h
  | block id b=>
   simp only[df]at h
   split at h
   ·rename_i i s1 h1
    refine wp_block (bG hC hO hm h1 hs (fun a' w' hs'=> ?_))
    split at h
    ·rename_i hi
     simp at h;obtain⟨rfl,rfl⟩:=h
     show if i=id then _ else _
     rw[if_pos hi];exact hQ a' w' hs'
    ·rename_i hi
     simp at h;obtain⟨rfl,rfl⟩:=h
     show if i=id then _ else _
     rw[if_neg hi];exact hQ a' w' hs'
   ·rename_i hne
    refine wp_block (bG hC hO hm h hs (fun a' w' hs'=> ?_))
    cases e with
    | nrm=>exact hQ a' w' hs'
    | ext id=>exact absurd h (hne id s')
    | ret=>exact hQ a' w' hs'
  | loop b=>
   have key:∀(n:Nat) (s:MS),df p C L nt n (.loop b) s=some (e,s')→∃(N:Nat) (S:Nat→MS),S 0=s∧∀k,k≤N→∃m r,m<n∧df p C L nt m b (S k)=some r∧((k<N∧r=(.nrm,S (k+1)))∨(k=N∧r=(e,s')∧r.1≠ .nrm)):=by
    intro n
    induction n with
    | zero=>intro s h;simp[df]at h
    | succ n ih=>
     intro s h
     simp only[df]at h
     split at h
     ·rename_i s1 h1
      obtain⟨N,S,h2,h3⟩:=ih s1 h
      refine⟨N+1,fun k=>match k with | 0=>s | k+1=>S k,rfl,fun k hk=> ?_⟩
      match k with
      | 0=>exact⟨n,_,by omega,h1,.inl ⟨by omega,by rw[←h2]⟩⟩
      | k+1=>
       obtain⟨m,r,k1,k2,k3⟩:=h3 k (by omega)
       exact⟨m,r,by omega,k2,k3.imp (fun⟨x,y⟩=>⟨by omega,y⟩) (fun⟨x,y⟩=>⟨by omega,y⟩)⟩
     ·rename_i hne
      refine⟨0,fun _=>s,rfl,fun k hk=>⟨n,(e,s'),by omega,h,.inr ⟨by omega,rfl,fun he=>hne s' ?_⟩⟩⟩
      simp only at he
      rw[h,he]
   obtain⟨N,S,h0,hS⟩:=key (n+1) s h
   refine gC (fun k a w=>MSt ρ w0 nt (S k) a w) N (by rw[h0];exact hs) (fun k a w hk hI=> ?_)
   obtain⟨m,r,hmn,hr,hor⟩:=hS k hk
   obtain⟨e1,s1⟩:=r
   refine bG hC hO hm hr hI (fun a' w' hs'=> ?_)
   rcases hor with⟨h1,h2⟩ | ⟨h1,h2,h3⟩
   ·simp at h2;obtain⟨rfl,rfl⟩:=h2
    exact⟨h1,hs'⟩
   ·simp at h2;obtain⟨rfl,rfl⟩:=h2
    cases e1 with
    | nrm=>exact absurd rfl h3
    | ext id=>exact hQ a' w' hs'
    | ret=>exact hQ a' w' hs'
  | exit id=>
   simp[df]at h;obtain⟨rfl,rfl⟩:=h
   exact wp_exit (hQ a w hs)
  | ret=>
   simp[df]at h;obtain⟨rfl,rfl⟩:=h
   exact wp_ret (hQ a w hs)
  | scope b=>
   simp only[df]at h
   refine wp_scope_straight (bG hC hO hm h hs (fun a' w' hs'=> ?_))
   cases e<;>exact hQ a' w' hs'
  | label l=>
   simp[df]at h;obtain⟨rfl,rfl⟩:=h
   exact wp_label (hQ a w hs)
  | _=>simp[df]at h
termination_by n=>n
end
end Go.Proofs.YtfhinmdhjlmikaaDoor
namespace Go.Proofs.YtfhinmdhjlmikaaDoor
set_option linter.unusedSimpArgs false
set_option linter.unusedVariables false
set_option maxRecDepth 100000
open Go.RowKit
def xg (p:Program) (s:MS):ResultVar→Option SV
 | .tmp t=>evS (bo s) (.tmp t)
 | .cell t ty=>match bY p [] (bo s) (.load ty (.tmp t))with
  | some (.v x,_)=>some x
  | _=>none
def pd (p:Program) (s:MS):List ResultVar→Option (List SV)
 | []=>some []
 | r::rs=>match xg p s r,pd p s rs with
  | some x,some xs=>some (x::xs)
  | _,_=>none
def sw (p:Program) (s:MS) (rs:List ResultVar):Option AV:=
 match pd p s rs with
 | some [x]=>some (.v x)
 | some xs=>some (.tup xs)
 | none=>none
def Leaf.noPtr:Leaf→Bool
 | .ptr _ _=>false
 | .own _ _=>false
 | _=>true
def SV.noPtr:SV→Bool
 | .one l=>l.noPtr
 | .agg ls=>ls.all Leaf.noPtr
def AV.noPtr:AV→Bool
 | .v s=>s.noPtr
 | .tup xs=>xs.all SV.noPtr
 | .any=>true
def ij (args:List SV) (n:Nat):List (Option AV):=args.map (fun s=>some (.v s))++List.replicate (n - args.length) none
/-- The answer of a function. -/
def t6 (p:Program) (C:List Inst) (L:List OIns) (fn:Func) (args:List SV) (fuel:Nat):Option AV:=
 if args.length≤fn.ntmps∧fn.ntmps≤100000 then
  match fn.body with
  | some c=>match df p C L fn.ntmps fuel c ⟨ij args fn.ntmps,[]⟩with
   | some (.ext _,_)=>none
   | some (_,s)=>match sw p s fn.results.toList with
    | some r=>if r.noPtr then some r else none
    | none=>none
   | none=>none
  | none=>none
 else none
def t7 (tmps:Array Value):ResultVar→Sem Value
 | .tmp t=>pure (tmps.getD t undef)
 | .cell t ty=>do loadVar ty (←asAddr (tmps.getD t undef))
theorem qp (fn:Func) (tmps:Array Value):results fn tmps=(do let vs←fn.results.mapM (t7 tmps);pure (if h:vs.size=1 then vs[0]else .tuple vs)):=by
 unfold results
 congr 1
section
variable {p:Program} {ρ:Rho} {B:Blk} {a:Act} {w:World} {w0:Ent} {C:List Inst} {L:List OIns} {nt:Nat}
theorem Leaf.holds.free {l:Leaf} {v:Value} (h:l.holds ρ B w v) (hn:l.noPtr=true):l.holds ρ noB w v:=by
 cases l<;>first
  | exact h
  | (simp[Leaf.noPtr]at hn;done)
  | (obtain⟨s,h1,h2,_⟩:=h;exact⟨s,h1,h2,fun g hg hx=>nM hx⟩)
theorem ap.free:∀ {ls:List Leaf} {vs:List Value},ap ρ B w ls vs→ls.all Leaf.noPtr=true→ap ρ noB w ls vs
 | [],[],_,_=>trivial
 | _::_,_::_,h,hn=>by
  simp only[List.all_cons,Bool.and_eq_true]at hn
  exact⟨h.1.free hn.1,ap.free h.2 hn.2⟩
 | [],_::_,h,_=>h.elim
 | _::_,[],h,_=>h.elim
theorem SV.holds.free {s:SV} {v:Value} (h:s.holds ρ B w v) (hn:s.noPtr=true):s.holds ρ noB w v:=by
 cases s with
 | one l=>exact Leaf.holds.free h hn
 | agg ls=>obtain⟨vs,e,h⟩:=h;exact⟨vs,e,h.free hn⟩
theorem ct.free:∀ {ls:List SV} {vs:List Value},ct ρ B w ls vs→ls.all SV.noPtr=true→ct ρ noB w ls vs
 | [],[],_,_=>trivial
 | _::_,_::_,h,hn=>by
  simp only[List.all_cons,Bool.and_eq_true]at hn
  exact⟨h.1.free hn.1,ct.free h.2 hn.2⟩
 | [],_::_,h,_=>h.elim
 | _::_,[],h,_=>h.elim
theorem AV.holds.free {s:AV} {v:Value} (h:s.holds ρ B w v) (hn:s.noPtr=true):s.holds ρ noB w v:=by
 cases s with
 | v s=>exact SV.holds.free h hn
 | tup xs=>obtain⟨vs,e,h⟩:=h;exact⟨vs,e,h.free hn⟩
 | any=>exact h
theorem sx {v:Value} {ad:Addr} (h:v= .pointer (some ad)):(asAddr v).run p w= .ok ad w:=by subst h;rfl
theorem jI {s:MS} (hv:∀x c,bo s x=some c→bF ρ B a w x c):∀ {rs:List ResultVar} {xs:List SV},pd p s rs=some xs→
  ∃vs:List Value,(rs.mapM (t7 a.tmps)).run p w= .ok vs w∧ct ρ B w xs vs
 | [],xs,h=>by simp[pd]at h;subst h;exact⟨[],by simp,trivial⟩
 | r::rs,xs,h=>by
  simp only[pd]at h
  split at h
  ·rename_i x xs' h1 h2
   simp at h;subst h
   obtain⟨vs,h3,h4⟩:=jI hv h2
   have one:∃v,(t7 a.tmps r).run p w= .ok v w∧x.holds ρ B w v:=by
    cases r with
    | tmp t=>exact⟨a.tmps.getD t undef,rfl,dF (x:=.tmp t) (fun y _ c hc=>hv y c hc) h1⟩
    | cell t ty=>
     simp only[xg]at h1
     split at h1
     ·rename_i y rd hp
      injection h1 with h1;subst h1
      obtain⟨ad,u,e1,e2,e3⟩:=oV (p:=p) hp (fun y _ c hc=>hv y c hc) (fun y _ c hc=>hv y c hc)
      refine⟨u,?_,e3⟩
      have e1':a.tmps.getD t undef= .pointer (some ad):=e1
      simp only[t7,Sem.run_bind,sx e1',Result.andThen,e2]
     ·cases h1
   obtain⟨v,h5,h6⟩:=one
   refine⟨v::vs,?_,h6,h4⟩
   simp only[List.mapM_cons,Sem.run_bind,Sem.run_pure]
   rw[h5]
   simp only[Result.andThen]
   rw[h3]
  ·cases h
theorem pe {s:MS} (hv:∀x c,bo s x=some c→bF ρ B a w x c) {fn:Func} {r:AV} (h:sw p s fn.results.toList=some r):∃v,(results fn a.tmps).run p w= .ok v w∧r.holds ρ B w v:=by
 have arr:∀vs:List Value,(fn.results.toList.mapM (t7 a.tmps)).run p w= .ok vs w→
   (results fn a.tmps).run p w= .ok (if h:vs.toArray.size=1 then vs.toArray[0]else .tuple vs.toArray) w:=by
  intro vs hvs
  rw[qp,Sem.run_bind]
  have:∀(f:ResultVar→Sem Value) (xs:Array ResultVar),(xs.toList.mapM f).run p w= .ok vs w→(xs.mapM f).run p w= .ok vs.toArray w:=by
   intro f xs hx
   obtain⟨l⟩:=xs
   simp only[List.mapM_toArray,map_eq_pure_bind,Sem.run_bind,hx,Result.andThen,Sem.run_pure]
  rw[this _ _ hvs];rfl
 unfold sw at h
 split at h
 ·rename_i x hx
  injection h with h;subst h
  obtain⟨vs,h1,h2⟩:=jI hv hx
  match vs,h2 with
  | [v],h2=>exact⟨v,by rw[arr _ h1];rfl,h2.1⟩
 ·rename_i xs hne hx
  injection h with h;subst h
  obtain⟨vs,h1,h2⟩:=jI hv hx
  refine⟨.tuple vs.toArray,?_,vs,rfl,h2⟩
  rw[arr _ h1,dif_neg]
  intro h3
  match vs,xs,h2 with
  | [],[],_=>simp at h3
  | [_],[y],_=>exact hne y rfl
  | _::_::_,_,_=>simp at h3
 ·cases h
theorem ct.len:∀ {ls:List SV} {vs:List Value},ct ρ B w ls vs→vs.length=ls.length
 | [],[],_=>rfl
 | _::_,_::_,h=>by simp[h.2.len]
 | [],_::_,h=>h.elim
 | _::_,[],h=>h.elim
/-- Where a function begins: its arguments; variables of the caller's that it may change. -/
theorem ww {E:Ent} {args:List SV} {vs:List Value} {vars:List (TypeId×List Leaf)} (hI:BInj B) (ho:∀k g,B.o k g→E.X g∧fq E.w g) (hp:∀x g,E.pin[x]? =some g↔B.v x=some g) (hl:E.pin.length=vars.length)
  (hv:∀x q,vars[x]? =some q→(∀g,B.v x=some g→E.X g)∧qe ρ B E.w (x,q)) (hn:args.length≤nt) (ha:ct ρ B E.w args vs):
  MSt ρ E nt ⟨ij args nt,vars.map fun q=>(q.1,q.2.map some)⟩ {tmps:=vs.toArray++Array.replicate (nt - vs.toArray.size) undef,defers:=[]} E.w:=by
 have hlen:=ha.len
 have hlt:∀x g,B.v x=some g→∃q,vars[x]? =some q:=fun x g h=>by
  have:=(List.getElem?_eq_some_iff.1 ((hp x g).2 h)).1
  exact⟨_,List.getElem?_eq_getElem (by omega)⟩
 refine⟨B,⟨fun x g hg=> ?_,fun k g hg=>⟨.inr (ho k g hg).1,(ho k g hg).2⟩,hI,.refl,by simp;omega,rfl,fun x g h=>(hp x g).1 h⟩,fun x c hx=> ?_,fun x hx=> ?_⟩
 ·obtain⟨q,hq⟩:=hlt x g hg
  obtain⟨h1,g',cs,h2,h3,h4,h5⟩:=hv x q hq
  rw[hg]at h2;injection h2 with h2;subst h2
  refine⟨.inr (h1 g hg),cs,q.1,?_,h3,h5⟩
  have:=h4.len
  unfold dl
  simp only[List.getElem?_map,hq,Option.map_some,List.length_map,Option.some.injEq,Prod.mk.injEq,true_and]
  simpa using this.symm
 ·unfold bo at hx
  split at hx
  ·rename_i hx1
   unfold bF
   rw[if_pos hx1]
   simp only at hx
   unfold ij at hx
   by_cases hxa:x<args.length
   ·rw[List.getElem?_append_left (by simpa using hxa),List.getElem?_map,List.getElem?_eq_getElem hxa]at hx
    simp at hx;subst hx
    obtain⟨v,h1,h2⟩:=ha.get (List.getElem?_eq_getElem hxa)
    refine⟨v,?_,h2⟩
    simp only
    rw[Array.getElem?_append_left (by simp;omega)]
    simpa using h1
   ·rw[List.getElem?_append_right (by simp;omega)]at hx
    simp only[List.getElem?_replicate]at hx
    split at hx
    ·rename_i hq
     split at hq
     ·simp at hq;subst hq;cases hx
     ·cases hq
    ·cases hx
  ·rename_i hx1
   simp only[List.getElem?_map]at hx
   cases hq:vars[x / 100000 - 1]? with
   | none=>rw[hq]at hx;simp at hx
   | some q=>
    rw[hq]at hx
    simp only[Option.map_some,List.getElem?_map]at hx
    cases hl':q.2[x % 100000]? with
    | none=>rw[hl']at hx;simp at hx
    | some l=>
     rw[hl']at hx
     simp only[Option.map_some,Option.some.injEq]at hx
     subst hx
     obtain⟨_,g,cs,h2,h3,h4,h5⟩:=hv _ q hq
     obtain⟨u,h6,h7⟩:=h4.get hl'
     unfold bF
     rw[if_neg hx1]
     exact⟨g,cs,_,u,h2,h3,by rw[←Array.getElem?_toList];exact h6,h7⟩
 ·cases hb:B.v x with
  | none=>exact absurd hb hx
  | some g=>
   obtain⟨q,hq⟩:=hlt x g hb
   simpa using (List.getElem?_eq_some_iff.1 hq).1
theorem wA:BInj noB:=⟨fun _ _ _ h=>by(cases h),fun _ _ _ h=>h.elim,fun _ _ _ h=>by(cases h)⟩
theorem pf {args:List SV} {vs:List Value} (hn:args.length≤nt) (ha:ct ρ noB w args vs):MSt ρ (.of w) nt ⟨ij args nt,[]⟩ {tmps:=vs.toArray++Array.replicate (nt - vs.toArray.size) undef,defers:=[]} w:=
 ww (E:=.of w) (vars:=[]) wA (fun _ _ h=>h.elim) (fun x g=>⟨fun h=>by simp at h,fun h=>by(cases h)⟩) rfl (fun x q h=>by simp at h) hn ha
/-- A function answers what the executor reckons. -/
theorem pg (hC:∀i∈C,i.Ok0 p ρ (.of w)) (hO:∀i∈L,i.Ok p ρ) (hm:p.follows .mixedOrders=true) {f:FuncId} {fn:Func} (hf:p.funcs[f]? =some fn) {args:List SV} {vs:List Value} {fuel:Nat} {r:AV}
  (h:t6 p C L fn args fuel=some r) (ha:ct ρ noB w args vs):Calls p f vs.toArray w (fun e w'=>∃v,e= .returned v∧r.holds ρ noB w' v∧Below w.heap.size w w'):=by
 unfold t6 at h
 split at h
 ·rename_i hn
  split at h
  ·rename_i c hb
   have hst:=pf hn.1 ha
   have hret:∀ {s:MS} {e:Ex},df p C L fn.ntmps fuel c ⟨ij args fn.ntmps,[]⟩=some (e,s)→e= .nrm∨e= .ret→(match sw p s fn.results.toList with | some r=>if r.noPtr then some r else none | none=>none)=some r→
     Calls p f vs.toArray w (fun e w'=>∃v,e= .returned v∧r.holds ρ noB w' v∧Below w.heap.size w w'):=by
    intro s e he hor hr
    split at hr
    ·rename_i r' hr'
     split at hr
     ·rename_i hnp
      injection hr with hr;subst hr
      refine calls_of_wp hf hb (bG hC hO hm he hst (fun a' w' hs'=> ?_))
      obtain⟨B,hi,hv,_⟩:=hs'
      obtain⟨v,h1,h2⟩:=pe (p:=p) hv hr'
      rcases hor with rfl | rfl
      ·exact⟨hi.dfr,v,h1,v,rfl,h2.free hnp,hi.below.to⟩
      ·exact⟨hi.dfr,v,h1,v,rfl,h2.free hnp,hi.below.to⟩
     ·cases hr
    ·cases hr
   split at h
   ·cases h
   ·rename_i e s he hx
    have hor:e= .nrm∨e= .ret:=by
     cases e with
     | nrm=>exact .inl rfl
     | ret=>exact .inr rfl
     | ext id=>exact(he id rfl).elim
    exact hret hx hor h
   ·cases h
  ·cases h
 ·cases h
end
end Go.Proofs.YtfhinmdhjlmikaaDoor
namespace Go.Proofs.YtfhinmdhjlmikaaDoor
set_option linter.unusedSimpArgs false
set_option linter.unusedVariables false
set_option maxRecDepth 100000
open Go.RowKit
/-- What is known, said with other unknowns: those below N stay, the others are given by σ; places and variables may be left out. -/
def Leaf.cv (N V:Nat) (σ:List (Nat×Leaf)) (l l':Leaf):Bool:=
 match l' with
 | .ref n=>if n<N then decide (l= .ref n)else σ.contains (n,l) && (match l with | .own _ _=>false | _=>true)
 | .ptr x o=>decide (l= .ptr x o) && decide (x<V)
 | .own k m=>if m<N then decide (l= .own k m)else σ.contains (m,l) && (match l with | .own k' _=>decide (k'=k) | _=>false)
 | _=>decide (l=l')
def fu (N V:Nat) (σ:List (Nat×Leaf)):List Leaf→List Leaf→Bool
 | [],[]=>true
 | l::ls,k::ks=>l.cv N V σ k && fu N V σ ls ks
 | _,_=>false
def SV.cv (N V:Nat) (σ:List (Nat×Leaf)):SV→SV→Bool
 | .one l,.one k=>l.cv N V σ k
 | .agg ls,.agg ks=>fu N V σ ls ks
 | _,_=>false
def mY (N V:Nat) (σ:List (Nat×Leaf)):List SV→List SV→Bool
 | [],[]=>true
 | l::ls,k::ks=>l.cv N V σ k && mY N V σ ls ks
 | _,_=>false
def AV.cv (N V:Nat) (σ:List (Nat×Leaf)):AV→AV→Bool
 | .v l,.v k=>l.cv N V σ k
 | .tup ls,.tup ks=>mY N V σ ls ks
 | .any,.any=>true
 | _,_=>false
def dP (N V:Nat) (σ:List (Nat×Leaf)):List (Option AV)→List (Option AV)→Bool
 | _,[]=>true
 | _::cs,none::ds=>dP N V σ cs ds
 | some c::cs,some d::ds=>c.cv N V σ d && dP N V σ cs ds
 | _,_=>false
def bJ (N V:Nat) (σ:List (Nat×Leaf)):List (Option Leaf)→List (Option Leaf)→Bool
 | [],[]=>true
 | _::cs,none::ds=>bJ N V σ cs ds
 | some c::cs,some d::ds=>c.cv N V σ d && bJ N V σ cs ds
 | _,_=>false
def jJ (N V:Nat) (σ:List (Nat×Leaf)):List (TypeId×List (Option Leaf))→List (TypeId×List (Option Leaf))→Bool
 | _,[]=>true
 | (t,cs)::r,(t',ds)::r'=>decide (t=t') && (bJ N V σ cs ds && jJ N V σ r r')
 | _,_=>false
def MS.cv (N:Nat) (σ:List (Nat×Leaf)) (s s':MS):Bool:=dP N s'.vars.length σ s.slots s'.slots && jJ N s'.vars.length σ s.vars s'.vars
section
variable {ρ ρ':Rho} {B:Blk} {a:Act} {w:World} {w0:Ent} {nt N V:Nat} {σ:List (Nat×Leaf)} {s s':MS} {v:Value}
def iZ (V:Nat) (B:Blk):Blk:=⟨fun x=>if x<V then B.v x else none,B.o⟩
/-- B' has fewer variables than B. -/
structure CutOk (B B':Blk):Prop where
 v:∀x g,B'.v x=some g→B.v x=some g
 o:B'.o=B.o
theorem CutOk.has {B B':Blk} (h:CutOk B B') {g:Nat} (k:B'.has g):B.has g:=by
 rcases k with⟨x,k⟩ | ⟨x,k⟩
 ·exact .inl ⟨x,h.v _ _ k⟩
 ·rw[h.o]at k;exact .inr ⟨x,k⟩
/-- A leaf of the same kind about another unknown. -/
def Leaf.like:Leaf→Nat→Leaf
 | .own k _,n=>.own k n
 | _,n=>.ref n
theorem nS:CutOk B (iZ V B):=⟨fun x g h=>by
 unfold iZ at h
 simp only at h
 split at h
 ·exact h
 ·exact(by cases h),rfl⟩
def kj (ρ ρ':Rho) (q:Nat×Leaf):Prop:=∀B B' w v,CutOk B B'→q.2.holds ρ B w v→(Leaf.like q.2 q.1).holds ρ' B' w v
def hE (ρ ρ':Rho) (σ:List (Nat×Leaf)):Prop:=∀q∈σ,kj ρ ρ' q
theorem Leaf.cv_holds (hc:∀n,n<N→ρ[n]? =ρ'[n]?) (hσ:hE ρ ρ' σ) {l l':Leaf} (h:l.cv N V σ l'=true) (hl:l.holds ρ B w v):l'.holds ρ' (iZ V B) w v:=by
 cases l' with
 | ref n=>
  simp only[Leaf.cv]at h
  split at h
  ·rename_i hn
   have h:=of_decide_eq_true h
   subst h
   obtain⟨q,h1,h2,h3⟩:=hl
   exact⟨q,by rw[←hc n hn];exact h1,h2,fun g hg hx=>h3 g hg (nS.has hx)⟩
  ·simp only[Bool.and_eq_true]at h
   have h1:=hσ (n,l) (List.contains_iff_mem.1 h.1) _ (iZ V B) _ _ nS hl
   cases l with
   | own k m=>simp at h
   | _=>exact h1
 | own k m=>
  simp only[Leaf.cv]at h
  split at h
  ·rename_i hn
   have h:=of_decide_eq_true h
   subst h
   obtain⟨q,h1,h2,h3,h4⟩:=hl
   exact⟨q,by rw[←hc m hn];exact h1,h2,h3,h4⟩
  ·simp only[Bool.and_eq_true]at h
   have h1:=hσ (m,l) (List.contains_iff_mem.1 h.1) _ (iZ V B) _ _ nS hl
   cases l with
   | own k' m'=>
    have h2:k'=k:=by simpa using h.2
    subst h2
    exact h1
   | _=>simp at h
 | ptr x o=>
  simp only[Leaf.cv,Bool.and_eq_true,decide_eq_true_eq]at h
  obtain⟨rfl,hx⟩:=h
  obtain⟨g,h1,h2⟩:=hl
  exact⟨g,by show(if x<V then B.v x else none)=_;rw[if_pos hx];exact h1,h2⟩
 | _=>
  simp only[Leaf.cv,decide_eq_true_eq]at h
  subst h
  exact hl
theorem gD (hc:∀n,n<N→ρ[n]? =ρ'[n]?) (hσ:hE ρ ρ' σ):∀ {l l':List Leaf} {vs:List Value},fu N V σ l l'=true→ap ρ B w l vs→ap ρ' (iZ V B) w l' vs
 | [],[],[],_,_=>trivial
 | _::_,_::_,_::_,h,hl=>by
  simp only[fu,Bool.and_eq_true]at h
  exact⟨Leaf.cv_holds hc hσ h.1 hl.1,gD hc hσ h.2 hl.2⟩
 | [],[],_::_,_,h=>h.elim
 | [],_::_,_,h,_=>by simp[fu]at h
 | _::_,[],_,h,_=>by simp[fu]at h
 | _::_,_::_,[],_,h=>h.elim
theorem SV.cv_holds (hc:∀n,n<N→ρ[n]? =ρ'[n]?) (hσ:hE ρ ρ' σ) {l l':SV} (h:l.cv N V σ l'=true) (hl:l.holds ρ B w v):l'.holds ρ' (iZ V B) w v:=by
 cases l<;>cases l'<;>simp only[SV.cv]at h
 ·exact Leaf.cv_holds hc hσ h hl
 ·cases h
 ·cases h
 ·obtain⟨vs,e,hl⟩:=hl;exact⟨vs,e,gD hc hσ h hl⟩
theorem kk (hc:∀n,n<N→ρ[n]? =ρ'[n]?) (hσ:hE ρ ρ' σ):∀ {l l':List SV} {vs:List Value},mY N V σ l l'=true→ct ρ B w l vs→ct ρ' (iZ V B) w l' vs
 | [],[],[],_,_=>trivial
 | _::_,_::_,_::_,h,hl=>by
  simp only[mY,Bool.and_eq_true]at h
  exact⟨SV.cv_holds hc hσ h.1 hl.1,kk hc hσ h.2 hl.2⟩
 | [],[],_::_,_,h=>h.elim
 | [],_::_,_,h,_=>by simp[mY]at h
 | _::_,[],_,h,_=>by simp[mY]at h
 | _::_,_::_,[],_,h=>h.elim
theorem AV.cv_holds (hc:∀n,n<N→ρ[n]? =ρ'[n]?) (hσ:hE ρ ρ' σ) {l l':AV} (h:l.cv N V σ l'=true) (hl:l.holds ρ B w v):l'.holds ρ' (iZ V B) w v:=by
 cases l<;>cases l'<;>simp only[AV.cv]at h<;>try (cases h)
 ·exact SV.cv_holds hc hσ h hl
 ·obtain⟨vs,e,hl⟩:=hl;exact⟨vs,e,kk hc hσ h hl⟩
 ·exact hl
theorem gE:∀ {cs ds:List (Option AV)} {i:Nat} {d:AV},dP N V σ cs ds=true→ds[i]? =some (some d)→∃c,cs[i]? =some (some c)∧c.cv N V σ d=true
 | _,[],_,_,_,h=>by simp at h
 | _::cs,none::ds,0,_,_,h=>by simp at h
 | _::cs,none::ds,i+1,d,h,hd=>by
  simp only[dP]at h
  obtain⟨c,h1,h2⟩:=gE (cs:=cs) (ds:=ds) (i:=i) (d:=d) h (by simpa using hd)
  exact⟨c,by simpa using h1,h2⟩
 | some c::cs,some d'::ds,0,d,h,hd=>by
  simp only[dP,Bool.and_eq_true]at h
  simp at hd;subst hd
  exact⟨c,rfl,h.1⟩
 | some c::cs,some d'::ds,i+1,d,h,hd=>by
  simp only[dP,Bool.and_eq_true]at h
  obtain⟨c,h1,h2⟩:=gE (cs:=cs) (ds:=ds) (i:=i) (d:=d) h.2 (by simpa using hd)
  exact⟨c,by simpa using h1,h2⟩
 | [],none::ds,_,_,h,_=>by simp[dP]at h
 | [],some _::ds,_,_,h,_=>by simp[dP]at h
 | none::_,some _::_,_,_,h,_=>by simp[dP]at h
theorem gF:∀ {cs ds:List (Option Leaf)} {i:Nat} {d:Leaf},bJ N V σ cs ds=true→ds[i]? =some (some d)→∃c,cs[i]? =some (some c)∧c.cv N V σ d=true
 | [],[],_,_,_,h=>by simp at h
 | _::cs,none::ds,0,_,_,h=>by simp at h
 | _::cs,none::ds,i+1,d,h,hd=>by
  simp only[bJ]at h
  obtain⟨c,h1,h2⟩:=gF (cs:=cs) (ds:=ds) (i:=i) (d:=d) h (by simpa using hd)
  exact⟨c,by simpa using h1,h2⟩
 | some c::cs,some d'::ds,0,d,h,hd=>by
  simp only[bJ,Bool.and_eq_true]at h
  simp at hd;subst hd
  exact⟨c,rfl,h.1⟩
 | some c::cs,some d'::ds,i+1,d,h,hd=>by
  simp only[bJ,Bool.and_eq_true]at h
  obtain⟨c,h1,h2⟩:=gF (cs:=cs) (ds:=ds) (i:=i) (d:=d) h.2 (by simpa using hd)
  exact⟨c,by simpa using h1,h2⟩
 | [],none::ds,_,_,h,_=>by simp[bJ]at h
 | [],some _::ds,_,_,h,_=>by simp[bJ]at h
 | none::_,some _::_,_,_,h,_=>by simp[bJ]at h
 | _::_,[],_,_,h,_=>by simp[bJ]at h
theorem gG:∀ {cs ds:List (Option Leaf)},bJ N V σ cs ds=true→cs.length=ds.length
 | [],[],_=>rfl
 | _::cs,none::ds,h=>by simp only[bJ]at h;simp[gG h]
 | some _::cs,some _::ds,h=>by simp only[bJ,Bool.and_eq_true]at h;simp[gG h.2]
 | [],none::ds,h=>by simp[bJ]at h
 | [],some _::ds,h=>by simp[bJ]at h
 | none::_,some _::_,h=>by simp[bJ]at h
 | _::_,[],h=>by simp[bJ]at h
theorem il:∀ {cs ds:List (TypeId×List (Option Leaf))} {i:Nat} {d:TypeId×List (Option Leaf)},jJ N V σ cs ds=true→ds[i]? =some d→∃c,cs[i]? =some (d.1,c)∧bJ N V σ c d.2=true
 | _,[],_,_,_,h=>by simp at h
 | (t,c)::cs,(t',d')::ds,0,d,h,hd=>by
  simp only[jJ,Bool.and_eq_true,decide_eq_true_eq]at h
  simp at hd;subst hd
  exact⟨c,by simp[h.1],h.2.1⟩
 | (t,c)::cs,(t',d')::ds,i+1,d,h,hd=>by
  simp only[jJ,Bool.and_eq_true,decide_eq_true_eq]at h
  obtain⟨c,h1,h2⟩:=il (cs:=cs) (ds:=ds) (i:=i) (d:=d) h.2.2 (by simpa using hd)
  exact⟨c,by simpa using h1,h2⟩
 | [],_::_,_,_,h,_=>by simp[jJ]at h
theorem MSt.conv (hc:∀n,n<N→ρ[n]? =ρ'[n]?) (hσ:hE ρ ρ' σ) (h:s.cv N σ s'=true) (hs:MSt ρ w0 nt s a w) (hpn:w0.pin.length≤s'.vars.length:=by exact Nat.zero_le _):MSt ρ' w0 nt s' a w:=by
 unfold MS.cv at h
 simp only[Bool.and_eq_true]at h
 obtain⟨hS,hV⟩:=h
 obtain⟨B,hi,hk,hv⟩:=hs
 have htab:∀v,v<s'.vars.length→(dl s')[v]? =(dl s)[v]? :=fun v hv=>by
  obtain⟨c,h1,h2⟩:=il hV (List.getElem?_eq_getElem hv)
  unfold dl
  rw[List.getElem?_map,List.getElem?_map,List.getElem?_eq_getElem hv,h1]
  simp[gG h2]
 have hcut:∀x g,(iZ s'.vars.length B).v x=some g→x<s'.vars.length∧B.v x=some g:=fun x g h=>by
  unfold iZ at h
  simp only at h
  split at h
  ·rename_i h1;exact⟨h1,h⟩
  ·cases h
 refine⟨iZ s'.vars.length B,⟨fun v g hg=> ?_,hi.own,⟨fun v v' g h1 h2=>hi.inj.v v v' g (hcut _ _ h1).2 (hcut _ _ h2).2,hi.inj.o,fun x k g h1 h2=>hi.inj.vo x k g (hcut _ _ h1).2 h2⟩,hi.below,hi.size,hi.dfr,fun x g h=> ?_⟩,fun x c hx=> ?_,fun v h=> ?_⟩
 ·obtain⟨h1,h2⟩:=hcut v g hg
  obtain⟨h3,cs,ty,h4,h5⟩:=hi.blk v g h2
  exact⟨h3,cs,ty,by rw[htab v h1];exact h4,h5⟩
 ·show(if x<s'.vars.length then B.v x else none)=_
  rw[if_pos (by have:=(List.getElem?_eq_some_iff.1 h).1;omega)];exact hi.pin x g h
 ·unfold bo at hx
  by_cases hx1:x<100000
  ·rw[if_pos hx1]at hx
   have hd:s'.slots[x]? =some (some c):=by
    cases e:s'.slots[x]? with
    | none=>rw[e]at hx;cases hx
    | some d=>rw[e]at hx;simp at hx;rw[hx]
   obtain⟨c0,h1,h2⟩:=gE hS hd
   have:=hk x c0 (by unfold bo;rw[if_pos hx1,h1])
   unfold bF at this⊢
   rw[if_pos hx1]at this⊢
   obtain⟨u,h3,h4⟩:=this
   exact⟨u,h3,AV.cv_holds hc hσ h2 h4⟩
  ·rw[if_neg hx1]at hx
   have:∃d l,s'.vars[x / 100000 - 1]? =some d∧d.2[x % 100000]? =some (some l)∧c= .v (.one l):=by
    cases e:s'.vars[x / 100000 - 1]? with
    | none=>rw[e]at hx;simp at hx
    | some d=>
     rw[e]at hx
     cases e2:d.2[x % 100000]? with
     | none=>simp[e2]at hx
     | some l=>
      cases l with
      | none=>simp[e2]at hx
      | some l=>simp[e2]at hx;exact⟨d,l,rfl,e2,hx.symm⟩
   obtain⟨d,l,hd,hl,rfl⟩:=this
   obtain⟨c,h1,h2⟩:=il hV hd
   obtain⟨l0,h3,h4⟩:=gF h2 hl
   have:=hk x (.v (.one l0)) (by unfold bo;rw[if_neg hx1,h1];simp[h3])
   unfold bF at this⊢
   rw[if_neg hx1]at this⊢
   obtain⟨g,cs,ty,u,h5,h6,h7,h8⟩:=this
   have hlt:x / 100000 - 1<s'.vars.length:=(List.getElem?_eq_some_iff.1 hd).1
   exact⟨g,cs,ty,u,by unfold iZ;simp only;rw[if_pos hlt];exact h5,h6,h7,Leaf.cv_holds hc hσ h4 h8⟩
 ·cases e:(iZ s'.vars.length B).v v with
  | none=>exact absurd e h
  | some g=>exact(hcut v g e).1
end
/-- A loop of which it is asked that it leads from s to s2. -/
structure LOb where
 b:Code
 s:MS
 e:Ex
 s2:MS
abbrev Los:=List (Option (MS×Ex×MS))
/-- Some places are known. -/
def qq (n:Nat) (l:List (Nat×AV)) (vs:List (TypeId×List (Option Leaf))):MS:=⟨(List.range n).map fun i=>l.lookup i,vs⟩
/-- As df; what is asked of loops is taken from a list: where they begin, how they end (none: the loop is unrolled). -/
def cS (p:Program) (C:List Inst) (L:List OIns) (nt:Nat):Nat→Code→MS→Los→Option (Ex×MS×Los×List LOb)
 | 0,_,_,_=>none
 | n+1,c,s,lo=>match c with
  | .skip=>some (.nrm,s,lo,[])
  | .region id ops draw=>(su p C L nt id ops draw s).map fun s=>(.nrm,s,lo,[])
  | .seq a b=>match cS p C L nt n a s lo with
   | some (.nrm,s1,lo1,o1)=>match cS p C L nt n b s1 lo1 with
    | some (e,s2,lo2,o2)=>some (e,s2,lo2,o1++o2)
    | none=>none
   | r=>r
  | .cond c x y=>match evL (bo s) c with
   | some (.b true)=>cS p C L nt n x s lo
   | some (.b false)=>cS p C L nt n y s lo
   | _=>none
  | .block id b=>match cS p C L nt n b s lo with
   | some (.ext i,s1,lo1,o1)=>if i=id then some (.nrm,s1,lo1,o1)else some (.ext i,s1,lo1,o1)
   | r=>r
  | .loop b=>match lo with
   | some (s0,e,s2)::lo1=>if s.cv 1000000 [] s0∧e≠ .nrm then some (e,s2,lo1,[⟨b,s0,e,s2⟩])else none
   | none::lo1=>(df p C L nt n (.loop b) s).map fun r=>(r.1,r.2,lo1,[])
   | []=>(df p C L nt n (.loop b) s).map fun r=>(r.1,r.2,[],[])
  | .exit id=>some (.ext id,s,lo,[])
  | .ret=>some (.ret,s,lo,[])
  | .scope b=>cS p C L nt n b s lo
  | .label _=>some (.nrm,s,lo,[])
  | _=>none
def eR:Code→List Code
 | .seq a b=>eR a++eR b
 | .cond _ x y=>eR x++eR y
 | .block _ b=>eR b
 | .scope b=>eR b
 | .loop b=>b::eR b
 | _=>[]
/-- The body of the k-th loop of a function. -/
def aO (fn:Func) (k:Nat):Code:=match fn.body with | some c=>(eR c)[k]?.getD .skip | none=>.skip
/-- A piece of code leads from s to s2. -/
def t8 (p:Program) (ρ:Rho) (w0:Ent) (nt:Nat) (b:Code) (s:MS) (e:Ex) (s2:MS):Prop:=
 ∀(a:Act) (w:World) (Q:Exit→Act→World→Prop),MSt ρ w0 nt s a w→(∀a' w',MSt ρ w0 nt s2 a' w'→Q e.exit a' w')→b.wp p Q a w
def LOb.Ok (p:Program) (ρ:Rho) (w0:Ent) (nt:Nat) (o:LOb):Prop:=w0.pin.length≤o.s.vars.length∧t8 p ρ w0 nt (.loop o.b) o.s o.e o.s2
section
variable {p:Program} {ρ:Rho} {a:Act} {w:World} {w0:Ent} {C:List Inst} {L:List OIns} {nt:Nat} {Q:Exit→Act→World→Prop}
theorem bB (hC:∀i∈C,i.Ok0 p ρ w0) (hO:∀i∈L,i.Ok p ρ) (hm:p.follows .mixedOrders=true):∀ {n:Nat} {c:Code} {s s':MS} {e:Ex} {lo lo':Los} {obs:List LOb},cS p C L nt n c s lo=some (e,s',lo',obs)→
  (∀o∈obs,o.Ok p ρ w0 nt)→t8 p ρ w0 nt c s e s'
 | 0,_,_,_,_,_,_,_,h,_=>by simp[cS]at h
 | n+1,c,s,s',e,lo,lo',obs,h,ho=>by
  intro a w Q hs hQ
  cases c with
  | skip=>
   simp[cS]at h;obtain⟨rfl,rfl,rfl,rfl⟩:=h
   exact wp_skip (hQ a w hs)
  | region id ops draw=>
   simp only[cS]at h
   cases hr:su p C L nt id ops draw s with
   | none=>rw[hr]at h;cases h
   | some s1=>
    rw[hr]at h;simp at h;obtain⟨rfl,rfl,rfl,rfl⟩:=h
    exact lO hC hO hm hr hs hQ
  | seq x y=>
   simp only[cS]at h
   split at h
   ·rename_i s1 lo1 o1 h1
    split at h
    ·rename_i e2 s2 lo2 o2 h2
     simp at h;obtain⟨rfl,rfl,rfl,rfl⟩:=h
     refine wp_seq (bB hC hO hm h1 (fun o hh=>ho o (List.mem_append.2 (.inl hh))) a w _ hs (fun a' w' hs'=> ?_))
     exact bB hC hO hm h2 (fun o hh=>ho o (List.mem_append.2 (.inr hh))) a' w' Q hs' hQ
    ·cases h
   ·rename_i hne
    refine wp_seq (bB hC hO hm h ho a w _ hs (fun a' w' hs'=> ?_))
    cases e with
    | nrm=>exact absurd h (hne s' lo' obs)
    | ext id=>exact hQ a' w' hs'
    | ret=>exact hQ a' w' hs'
  | cond k x y=>
   simp only[cS]at h
   split at h
   ·rename_i hk
    obtain⟨B,hb⟩:=nR hs hk
    exact wp_cond_true hb (bB hC hO hm h ho a w Q hs hQ)
   ·rename_i hk
    obtain⟨B,hb⟩:=nR hs hk
    exact wp_cond_false hb (bB hC hO hm h ho a w Q hs hQ)
   ·cases h
  | block id b=>
   simp only[cS]at h
   split at h
   ·rename_i i s1 lo1 o1 h1
    split at h
    ·rename_i hi
     simp at h;obtain⟨rfl,rfl,rfl,rfl⟩:=h
     refine wp_block (bB hC hO hm h1 ho a w _ hs (fun a' w' hs'=> ?_))
     show if i=id then _ else _
     rw[if_pos hi];exact hQ a' w' hs'
    ·rename_i hi
     simp at h;obtain⟨rfl,rfl,rfl,rfl⟩:=h
     refine wp_block (bB hC hO hm h1 ho a w _ hs (fun a' w' hs'=> ?_))
     show if i=id then _ else _
     rw[if_neg hi];exact hQ a' w' hs'
   ·rename_i hne
    refine wp_block (bB hC hO hm h ho a w _ hs (fun a' w' hs'=> ?_))
    cases e with
    | nrm=>exact hQ a' w' hs'
    | ext id=>exact absurd h (hne id s' lo' obs)
    | ret=>exact hQ a' w' hs'
  | loop b=>
   simp only[cS]at h
   split at h
   ·rename_i s0 e2 s2 lo1
    split at h
    ·rename_i hc
     simp at h;obtain⟨rfl,rfl,rfl,rfl⟩:=h
     have hob:=ho ⟨b,s0,e2,s2⟩ (by simp)
     exact hob.2 a w Q (MSt.conv (fun _ _=>rfl) (fun q h=>by cases h) hc.1 hs hob.1) hQ
    ·cases h
   ·rename_i lo1
    cases hr:df p C L nt n (.loop b) s with
    | none=>rw[hr]at h;cases h
    | some r=>
     rw[hr]at h;simp at h;obtain⟨rfl,rfl,rfl,rfl⟩:=h
     exact bG hC hO hm (e:=r.1) (s':=r.2) hr hs hQ
   ·cases hr:df p C L nt n (.loop b) s with
    | none=>rw[hr]at h;cases h
    | some r=>
     rw[hr]at h;simp at h;obtain⟨rfl,rfl,rfl,rfl⟩:=h
     exact bG hC hO hm (e:=r.1) (s':=r.2) hr hs hQ
  | exit id=>
   simp[cS]at h;obtain⟨rfl,rfl,rfl,rfl⟩:=h
   exact wp_exit (hQ a w hs)
  | ret=>
   simp[cS]at h;obtain⟨rfl,rfl,rfl,rfl⟩:=h
   exact wp_ret (hQ a w hs)
  | scope b=>
   simp only[cS]at h
   refine wp_scope_straight (bB hC hO hm h ho a w _ hs (fun a' w' hs'=> ?_))
   cases e<;>exact hQ a' w' hs'
  | label l=>
   simp[cS]at h;obtain⟨rfl,rfl,rfl,rfl⟩:=h
   exact wp_label (hQ a w hs)
  | _=>simp[cS]at h
termination_by n=>n
/-- A piece of code leads from s, with the unknowns ρ, to s2, with the unknowns ρ'. -/
def fR (p:Program) (w0:Ent) (nt:Nat) (b:Code) (ρ:Rho) (s:MS) (e:Ex) (ρ':Rho) (s2:MS):Prop:=
 ∀(a:Act) (w:World) (Q:Exit→Act→World→Prop),MSt ρ w0 nt s a w→(∀a' w',MSt ρ' w0 nt s2 a' w'→Q e.exit a' w')→b.wp p Q a w
/-- What is reckoned leads there. -/
def chk (p:Program) (C:List Inst) (L:List OIns) (nt n:Nat) (c:Code) (s:MS) (lo:Los) (e:Ex) (N:Nat) (σ:List (Nat×Leaf)) (s2:MS):Option (List LOb):=
 match cS p C L nt n c s lo with
 | some (e',T,_,obs)=>if e'=e∧T.cv N σ s2 then some obs else none
 | none=>none
theorem bP {ρ':Rho} {C:List Inst} {L:List OIns} (hC:∀i∈C,i.Ok0 p ρ w0) (hO:∀i∈L,i.Ok p ρ) (hm:p.follows .mixedOrders=true) {n N:Nat} {c:Code} {s s2:MS} {e:Ex} {lo:Los} {σ:List (Nat×Leaf)} {obs:List LOb}
  (h:chk p C L nt n c s lo e N σ s2=some obs) (ho:∀o∈obs,o.Ok p ρ w0 nt) (hc:∀n,n<N→ρ[n]? =ρ'[n]?) (hσ:hE ρ ρ' σ) (hpn:w0.pin.length≤s2.vars.length:=by exact Nat.zero_le _):fR p w0 nt c ρ s e ρ' s2:=by
 intro a w Q hs hQ
 unfold chk at h
 split at h
 ·rename_i e' T lo' obs' he
  split at h
  ·rename_i hk
   simp at h;subst h
   obtain⟨rfl,hk⟩:=hk
   exact bB hC hO hm he ho a w Q hs (fun a' w' hT=>hQ a' w' (MSt.conv hc hσ hk hT hpn))
  ·cases h
 ·cases h
/-- A loop round by round: what is known at the beginning of round k. -/
theorem eT {b:Code} {s s':MS} {e:Ex} (N:Nat) (ρs:Nat→Rho) (S:Nat→MS) (h0:∀a w,MSt ρ w0 nt s a w→MSt (ρs 0) w0 nt (S 0) a w)
  (hr:∀k,k<N→fR p w0 nt b (ρs k) (S k) .nrm (ρs (k+1)) (S (k+1))) (hN:fR p w0 nt b (ρs N) (S N) e ρ s') (he:e≠ .nrm) (hpn:w0.pin.length≤s.vars.length:=by exact Nat.zero_le _):LOb.Ok p ρ w0 nt ⟨b,s,e,s'⟩:=by
 refine⟨hpn,?_⟩
 intro a w Q hs hQ
 refine gC (fun k a w=>MSt (ρs k) w0 nt (S k) a w) N (h0 a w hs) (fun k a w hk hI=> ?_)
 by_cases hkN:k<N
 ·exact hr k hkN a w _ hI (fun a' w' hT=>⟨hkN,hT⟩)
 ·obtain rfl:k=N:=by omega
  refine hN a w _ hI (fun a' w' hT=> ?_)
  cases e with
  | nrm=>exact absurd rfl he
  | ext id=>exact hQ a' w' hT
  | ret=>exact hQ a' w' hT
end
/-- The answer of a function with such loops. -/
def ua (p:Program) (C:List Inst) (L:List OIns) (fn:Func) (args:List SV) (fuel:Nat) (lo:Los):Option (AV×List LOb):=
 if args.length≤fn.ntmps∧fn.ntmps≤100000 then
  match fn.body with
  | some c=>match cS p C L fn.ntmps fuel c ⟨ij args fn.ntmps,[]⟩ lo with
   | some (.ext _,_,_,_)=>none
   | some (_,s,_,obs)=>match sw p s fn.results.toList with
    | some r=>if r.noPtr then some (r,obs)else none
    | none=>none
   | none=>none
  | none=>none
 else none
section
variable {p:Program} {ρ:Rho} {w:World} {C:List Inst} {L:List OIns}
theorem ak (hC:∀i∈C,i.Ok0 p ρ (.of w)) (hO:∀i∈L,i.Ok p ρ) (hm:p.follows .mixedOrders=true) {f:FuncId} {fn:Func} (hf:p.funcs[f]? =some fn) {args:List SV} {vs:List Value} {fuel:Nat} {lo:Los} {r:AV} {obs:List LOb}
  (h:ua p C L fn args fuel lo=some (r,obs)) (hl:∀o∈obs,o.Ok p ρ (.of w) fn.ntmps) (ha:ct ρ noB w args vs):Calls p f vs.toArray w (fun e w'=>∃v,e= .returned v∧r.holds ρ noB w' v∧Below w.heap.size w w'):=by
 unfold ua at h
 split at h
 ·rename_i hn
  split at h
  ·rename_i c hb
   have hst:=pf hn.1 ha
   have hret:∀ {s:MS} {e:Ex} {lo':Los} {obs':List LOb},cS p C L fn.ntmps fuel c ⟨ij args fn.ntmps,[]⟩ lo=some (e,s,lo',obs')→e= .nrm∨e= .ret→(match sw p s fn.results.toList with | some r=>if r.noPtr then some (r,obs')else none | none=>none)=some (r,obs)→
     Calls p f vs.toArray w (fun e w'=>∃v,e= .returned v∧r.holds ρ noB w' v∧Below w.heap.size w w'):=by
    intro s e lo' obs' he hor hr
    split at hr
    ·rename_i r' hr'
     split at hr
     ·rename_i hnp
      simp at hr;obtain⟨rfl,rfl⟩:=hr
      refine calls_of_wp hf hb (bB hC hO hm he hl _ _ _ hst (fun a' w' hs'=> ?_))
      obtain⟨B,hi,hv,_⟩:=hs'
      obtain⟨v,h1,h2⟩:=pe (p:=p) hv hr'
      rcases hor with rfl | rfl
      ·exact⟨hi.dfr,v,h1,v,rfl,h2.free hnp,hi.below.to⟩
      ·exact⟨hi.dfr,v,h1,v,rfl,h2.free hnp,hi.below.to⟩
     ·cases hr
    ·cases hr
   split at h
   ·cases h
   ·rename_i e s lo' obs' he hx
    have hor:e= .nrm∨e= .ret:=by
     cases e with
     | nrm=>exact .inl rfl
     | ret=>exact .inr rfl
     | ext id=>exact(he id rfl).elim
    exact hret hx hor h
   ·cases h
  ·cases h
 ·cases h
theorem aI {w0:Ent} {nt:Nat}:∀o∈([]:List LOb),o.Ok p ρ w0 nt:=fun o h=>by cases h
theorem aX {w0:Ent} {nt:Nat} {o:LOb} {l:List LOb} (h:o.Ok p ρ w0 nt) (r:∀o∈l,o.Ok p ρ w0 nt):∀j∈o::l,j.Ok p ρ w0 nt:=fun j hj=>by
 rcases List.mem_cons.1 hj with rfl | hj
 ·exact h
 ·exact r j hj
theorem bV {ρ':Rho}:hE ρ ρ' []:=fun q h=>by cases h
theorem aU {ρ':Rho} {q:Nat×Leaf} {σ:List (Nat×Leaf)} (h:kj ρ ρ' q) (r:hE ρ ρ' σ):hE ρ ρ' (q::σ):=fun j hj=>by
 rcases List.mem_cons.1 hj with rfl | hj
 ·exact h
 ·exact r j hj
/-- An unknown is one of the others. -/
theorem ff {ρ':Rho} {n m:Nat} {x:Vp} (h1:ρ[m]? =some x) (h2:ρ'[n]? =some x):kj ρ ρ' (n,.ref m):=fun _ _ _ _ hB ⟨q,h3,h4,h5⟩=>⟨q,by rw[h2,←h1];exact h3,h4,fun g hg hx=>h5 g hg (hB.has hx)⟩
theorem sg_own {ρ':Rho} {n m k:Nat} {x:Vp} (h1:ρ[m]? =some x) (h2:ρ'[n]? =some x):kj ρ ρ' (n,.own k m):=fun _ _ _ _ hB ⟨q,h3,h4,h5,h6⟩=>⟨q,by rw[h2,←h1];exact h3,h4,fun g hg=>by rw[hB.o];exact h5 g hg,fun g hg=>by rw[hB.o];exact h6 g hg⟩
theorem ub {ρ':Rho} {n:Nat} {l:Leaf} {u:Value} (h2:ρ'[n]? =some (.val u)) (ho:l.noPtr=true) (hl:∀B w v,l.holds ρ B w v→v=u∧gx v):kj ρ ρ' (n,l):=fun B _ w v _ h=>by
 cases l with
 | own k m=>simp[Leaf.noPtr]at ho
 | _=>exact⟨_,h2,hl B w v h,fun _ h=>h.elim⟩
end
end Go.Proofs.YtfhinmdhjlmikaaDoor
namespace Go.Proofs.YtfhinmdhjlmikaaDoor
set_option linter.unusedSimpArgs false
set_option linter.unusedVariables false
set_option maxRecDepth 100000
open Go.RowKit
abbrev fv (f:FuncId):Prop:=∀(vs:Array Value) (w:World),(callFunc f vs).run Tryd.prog w= .ok (.enter f vs) w
theorem ag {ρ:Rho} {w:Ent}:∀i∈([]:List Inst),i.Ok0 Tryd.prog ρ w:=fun i h=>by cases h
theorem ae {ρ:Rho} {w:Ent} {i:Inst} {l:List Inst} (h:i.Ok Tryd.prog ρ) (r:∀i∈l,i.Ok0 Tryd.prog ρ w):∀j∈i::l,j.Ok0 Tryd.prog ρ w:=fun j hj=>by
 rcases List.mem_cons.1 hj with rfl | hj
 ·exact h.to0 w
 ·exact r j hj
theorem ah {ρ:Rho}:∀i∈([]:List OIns),i.Ok Tryd.prog ρ:=fun i h=>by cases h
theorem ac {ρ:Rho} {i:OIns} {l:List OIns} (h:i.Ok Tryd.prog ρ) (r:∀i∈l,i.Ok Tryd.prog ρ):∀j∈i::l,j.Ok Tryd.prog ρ:=fun j hj=>by
 rcases List.mem_cons.1 hj with rfl | hj
 ·exact h
 ·exact r j hj
section
variable {ρ:Rho} {n m k:Nat} {u v c:Int} {b d:Bool} {l:Leaf} {t:TypeId} {B:Blk} {w:World} {ik:IntKind} {x:Value}
theorem aV:gx (.int .i64 u):=⟨fun _ h=>by(cases h),fun _ h=>by(cases h),fun _ h=>by(cases h)⟩
theorem mZ:gx (.bool b):=⟨fun _ h=>by(cases h),fun _ h=>by(cases h),fun _ h=>by(cases h)⟩
theorem aC {s:ByteArray}:gx (.string s):=⟨fun _ h=>by(cases h),fun _ h=>by(cases h),fun _ h=>by(cases h)⟩
theorem nT (h:ik≠ .u32):gx (.int ik u):=⟨fun _ h=>by(cases h),fun _ h=>by(cases h),fun n e=>by injection e with e1 e2;exact h e1⟩
theorem lP {a:Option Addr} {L cp:Nat}:gx (.slice a L cp):=⟨fun _ h=>by(cases h),fun _ h=>by(cases h),fun _ h=>by(cases h)⟩
theorem uc {a:Option Addr}:gx (.pointer a):=⟨fun _ h=>by(cases h),fun _ h=>by(cases h),fun _ h=>by(cases h)⟩
theorem aj {v x:Value} (hn:ρ[n]? =some (.val v)) (h:(Leaf.ref n).holds ρ B w x):x=v:=by
 obtain⟨s,h1,h2⟩:=h
 rw[hn]at h1;injection h1 with h1;subst h1;exact h2.1.1
theorem am {v:Value} (hn:ρ[n]? =some (.val v)) (hf:gx v):(Leaf.ref n).holds ρ B w v:=⟨_,hn,⟨rfl,hf⟩,fun _ h=>h.elim⟩
/-- A leaf that holds a number, a truth value, a text. -/
theorem li (h:u=c):∀B w,(Leaf.i .i64 c).holds ρ B w (.int .i64 u):=fun _ _=>by subst h;rfl
theorem lb (h:b=d):∀B w,(Leaf.b d).holds ρ B w (.bool b):=fun _ _=>by subst h;rfl
theorem lr (hn:ρ[n]? =some (.val (.int .i64 u))):∀B w,(Leaf.ref n).holds ρ B w (.int .i64 u):=fun _ _=>am hn aV
theorem lrb (hn:ρ[n]? =some (.val (.bool b))):∀B w,(Leaf.ref n).holds ρ B w (.bool b):=fun _ _=>am hn mZ
theorem ls {s:ByteArray} (hn:ρ[n]? =some (.val (.string s))):∀B w,(Leaf.ref n).holds ρ B w (.string s):=fun _ _=>am hn aC
theorem ud {s:Bool} {x:Value} (h:ρ[n]? =some (.val (.bool s))):(Leaf.ref n).holds ρ B w x↔x= .bool s:=
 ⟨aj h,fun e=>by subst e;exact am h mZ⟩
theorem gf {L N:Nat} {x:Value} (h:ρ[n]? =some (.dig L N)):(Leaf.ref n).holds ρ B w x↔IsR w (.agg #[x]) L N:=by
 constructor
 ·rintro⟨t,h1,h2,_⟩
  rw[h]at h1;injection h1 with h1;subst h1;exact h2
 ·intro h2;exact⟨_,h,h2,fun _ h=>h.elim⟩
/-- Comparisons of a number of any kind with a constant; one less. -/
theorem cU (hn:ρ[n]? =some (.val (.int ik u))) (h:(u==c)=b):(OIns.mk (.bin .eql t) [.one (.ref n),.one (.i ik c)] (.one (.b b))).Ok Tryd.prog ρ:=fun B w vs hv=>by
 match vs,hv with
 | [v1,v2],hv=>
  have e:=aj (B:=B) hn hv.1
  have e2:v2= .int ik c:=hv.2.1
  subst e;subst e2
  exact⟨.bool b,rfl,fun xo yo=>by simp[eqGuard,binOp,Op.intCmp,Sem.run_bind,Result.andThen,h]⟩
theorem ba (hn:ρ[n]? =some (.val (.int ik u))) (h:(u !=c)=b):(OIns.mk (.bin .neq t) [.one (.ref n),.one (.i ik c)] (.one (.b b))).Ok Tryd.prog ρ:=fun B w vs hv=>by
 match vs,hv with
 | [v1,v2],hv=>
  have e:=aj (B:=B) hn hv.1
  have e2:v2= .int ik c:=hv.2.1
  subst e;subst e2
  exact⟨.bool b,rfl,fun xo yo=>by simp[eqGuard,binOp,Op.intCmp,Sem.run_bind,Result.andThen,h]⟩
theorem gH (hn:ρ[n]? =some (.val (.int ik u))) (h:(decide (u<c))=b):(OIns.mk (.bin .lss t) [.one (.ref n),.one (.i ik c)] (.one (.b b))).Ok Tryd.prog ρ:=fun B w vs hv=>by
 match vs,hv with
 | [v1,v2],hv=>
  have e:=aj (B:=B) hn hv.1
  have e2:v2= .int ik c:=hv.2.1
  subst e;subst e2
  exact⟨.bool b,rfl,fun xo yo=>by rw[←h];simp[eqGuard,binOp,Op.intCmp,Sem.run_bind,Result.andThen]⟩
theorem gI (hn:ρ[n]? =some (.val (.int ik u))) (h:(decide (u≤c))=b):(OIns.mk (.bin .leq t) [.one (.ref n),.one (.i ik c)] (.one (.b b))).Ok Tryd.prog ρ:=fun B w vs hv=>by
 match vs,hv with
 | [v1,v2],hv=>
  have e:=aj (B:=B) hn hv.1
  have e2:v2= .int ik c:=hv.2.1
  subst e;subst e2
  exact⟨.bool b,rfl,fun xo yo=>by rw[←h];simp[eqGuard,binOp,Op.intCmp,Sem.run_bind,Result.andThen]⟩
theorem cM (hn:ρ[n]? =some (.val (.int ik u))) (h:(decide (c<u))=b):(OIns.mk (.bin .gtr t) [.one (.ref n),.one (.i ik c)] (.one (.b b))).Ok Tryd.prog ρ:=fun B w vs hv=>by
 match vs,hv with
 | [v1,v2],hv=>
  have e:=aj (B:=B) hn hv.1
  have e2:v2= .int ik c:=hv.2.1
  subst e;subst e2
  exact⟨.bool b,rfl,fun xo yo=>by rw[←h];simp[eqGuard,binOp,Op.intCmp,Sem.run_bind,Result.andThen]⟩
theorem ph (hn:ρ[n]? =some (.val (.int .i64 u))) (h:decide (u≤c)=b):(OIns.mk (.bin .leq t) [.one (.ref n),.one (.i .i64 c)] (.one (.b b))).Ok Tryd.prog ρ:=gI hn h
theorem jK (hn:ρ[n]? =some (.val (.int .i64 u))) (hm:ρ[m]? =some (.val (.int .i64 v))) (hv:v=u - c) (h1: -9223372036854775808≤u - c) (h2:u - c≤9223372036854775807):(OIns.mk (.bin .sub t) [.one (.ref n),.one (.i .i64 c)] (.one (.ref m))).Ok Tryd.prog ρ:=fun B w vs hv'=>by
 match vs,hv' with
 | [v1,v2],hv'=>
  have e:=aj (B:=B) hn hv'.1
  have e2:v2= .int .i64 c:=hv'.2.1
  subst e;subst e2;subst hv
  refine⟨.int .i64 (u - c),am (B:=B) hm aV,fun xo yo=> ?_⟩
  simp[eqGuard,binOp,Op.intArith,Sem.run_bind,Result.andThen,Go.IntWalk.i64_in _ ⟨h1,h2⟩]
theorem eu (hn:ρ[n]? =some (.val (.int .i64 u))) (hm:ρ[m]? =some (.val (.int .i64 v))) (hv:v=u+c) (h1: -9223372036854775808≤u+c) (h2:u+c≤9223372036854775807):(OIns.mk (.bin .add t) [.one (.ref n),.one (.i .i64 c)] (.one (.ref m))).Ok Tryd.prog ρ:=fun B w vs hv'=>by
 match vs,hv' with
 | [v1,v2],hv'=>
  have e:=aj (B:=B) hn hv'.1
  have e2:v2= .int .i64 c:=hv'.2.1
  subst e;subst e2;subst hv
  refine⟨.int .i64 (u+c),am (B:=B) hm aV,fun xo yo=> ?_⟩
  simp[eqGuard,binOp,Op.intArith,Sem.run_bind,Result.andThen,Go.IntWalk.i64_in _ ⟨h1,h2⟩]
/-- Comparisons of two unknown numbers. -/
theorem cD (hn:ρ[n]? =some (.val (.int ik u))) (hm:ρ[m]? =some (.val (.int ik v))) (h:(decide (u<v))=b):(OIns.mk (.bin .lss t) [.one (.ref n),.one (.ref m)] (.one (.b b))).Ok Tryd.prog ρ:=fun B w vs hv=>by
 match vs,hv with
 | [v1,v2],hv=>
  have e:=aj (B:=B) hn hv.1
  have e2:=aj (B:=B) hm hv.2.1
  subst e;subst e2
  exact⟨.bool b,rfl,fun xo yo=>by rw[←h];simp[eqGuard,binOp,Op.intCmp,Sem.run_bind,Result.andThen]⟩
/-- The length of a row of digits. -/
theorem pi {L N:Nat} (ht:∃e,Tryd.prog.underlying t=some (.slice e)) (hn:ρ[n]? =some (.dig L N)) (hm:ρ[m]? =some (.val (.int .i64 (L:Int)))):(OIns.mk (.len t) [.one (.ref n)] (.one (.ref m))).Ok Tryd.prog ρ:=fun B w vs hv=>by
 match vs,hv with
 | [v1],hv=>
  obtain⟨a,c,e,_⟩:=(gf (B:=B) (w:=w) hn).1 hv.1
  obtain rfl:v1= .slice a L c:=by
   injection e with e
   have:=congrArg (fun x:Array Value=>x[0]?) e
   simpa using this
  obtain⟨e,he⟩:=ht
  refine⟨.int .i64 (L:Int),lr hm B w,fun ts ty h0=> ?_⟩
  simp[Builtin.len_,h0,Sem.run_bind,run_underlying he,Result.andThen,goInt]
theorem du {u c:Int} (h:u=c):(u !=c)=false:=by simpa using h
theorem cm {u c:Int} (h:u≠c):(u !=c)=true:=by simpa using h
theorem fS {u c:Int} (h:u=c):(u==c)=true:=by simpa using h
theorem im {u c:Int} (h:u≠c):(u==c)=false:=by simpa using h
/-- Truth values. -/
theorem qr (ht:eN Tryd.prog t=true):Tryd.prog.underlying t=some .bool:=by
 unfold eN at ht
 split at ht
 ·assumption
 ·cases ht
theorem pj (ht:eN Tryd.prog t=true) (b c:Bool):(Op.equal t (.bool b) (.bool c)).run Tryd.prog w= .ok (b==c) w:=by
 unfold Op.equal Op.maxDepth Op.equalIn
 rw[Sem.run_bind,run_underlying (qr ht)];rfl
/-- Two truth values, each known as a leaf, compared: what comes out is known (d), or an unknown. -/
theorem lQ {y:Leaf} {c:Bool} {z:Leaf} (ht:eN Tryd.prog t=true) (hx:∀B w x,l.holds ρ B w x→x= .bool b) (hy:∀B w x,y.holds ρ B w x→x= .bool c) (hz:∀B w,z.holds ρ B w (.bool (b==c))):(OIns.mk (.bin .eql t) [.one l,.one y] (.one z)).Ok Tryd.prog ρ:=fun B w vs hv=>by
 match vs,hv with
 | [v1,v2],hv=>
  have e1:=hx _ _ _ hv.1
  have e2:=hy _ _ _ hv.2.1
  subst e1;subst e2
  exact⟨.bool (b==c),hz B w,fun xo yo=>by simp[eqGuard,binOp,Sem.run_bind,pj ht,Result.andThen]⟩
theorem o_bne {y:Leaf} {c:Bool} {z:Leaf} (ht:eN Tryd.prog t=true) (hx:∀B w x,l.holds ρ B w x→x= .bool b) (hy:∀B w x,y.holds ρ B w x→x= .bool c) (hz:∀B w,z.holds ρ B w (.bool (b !=c))):(OIns.mk (.bin .neq t) [.one l,.one y] (.one z)).Ok Tryd.prog ρ:=fun B w vs hv=>by
 match vs,hv with
 | [v1,v2],hv=>
  have e1:=hx _ _ _ hv.1
  have e2:=hy _ _ _ hv.2.1
  subst e1;subst e2
  exact⟨.bool (b !=c),hz B w,fun xo yo=>by simp[eqGuard,binOp,Sem.run_bind,pj ht,Result.andThen];cases b<;>cases c<;>rfl⟩
theorem bl (b:Bool):∀B w x,(Leaf.b b).holds ρ B w x→x= .bool b:=fun _ _ _ h=>h
theorem br (hn:ρ[n]? =some (.val (.bool b))):∀B w x,(Leaf.ref n).holds ρ B w x→x= .bool b:=fun _ _ _ h=>aj hn h
end
/-- A row of parts: what its cells are. -/
def Vp.row (T:TypeId) (n:Nat) (qs:List Vp):Vp:=.of (fun w v=>(qs=[]∧n=0∧v= .slice none 0 0)∨∃b o c cs,v= .slice (some ⟨b,o,none⟩) n c∧n≤c∧w.heap[b]? =some (.cells cs T (0,0))∧∀j q,qs[j]? =some q→∃u,cs[o+j]? =some u∧q.p w u∧∀g,¬q.fp w u g)
 (fun v g=>∃o n c,v= .slice (some ⟨g,o,none⟩) n c)
 (fun w w' X v h k hX=>h.imp id fun⟨b,o,c,cs,e,hn,hb,hq⟩=>⟨b,o,c,cs,e,hn,by rw[k.blk b (Array.getElem?_eq_some_iff.1 hb).1 (hX b ⟨o,n,c,e⟩)];exact hb,fun j q hj=>by
  obtain⟨u,h1,h2,h3⟩:=hq j q hj
  obtain⟨c1,c2⟩:=q.ch w w' X u h2 k (fun g hg=>absurd hg (h3 g))
  exact⟨u,h1,c1,fun g hg=>h3 g (c2 g hg)⟩⟩)
 (fun w v g h ⟨o',n',c',e'⟩=>by
  rcases h with⟨_,_,e⟩ | ⟨b,o,c,cs,e,_,hb,_⟩
  ·rw[e]at e';cases e'
  ·rw[e]at e';injection e' with e1 _ _;injection e1 with e1;injection e1 with e1 _ _;subst e1
   exact(Array.getElem?_eq_some_iff.1 hb).1)
 (fun w v h=>by
  rcases h with⟨_,_,e⟩ | ⟨b,o,c,cs,e,_⟩<;>subst e<;>exact lP)
/-- A place in such a row. -/
def Vp.plc (T:TypeId) (qs:List Vp):Vp:=.of (fun w v=>∃b o cs,v= .pointer (some ⟨b,o,none⟩)∧w.heap[b]? =some (.cells cs T (0,0))∧∀j q,qs[j]? =some q→∃u,cs[o+j]? =some u∧q.p w u∧∀g,¬q.fp w u g)
 (fun v g=>∃o,v= .pointer (some ⟨g,o,none⟩))
 (fun w w' X v ⟨b,o,cs,e,hb,hq⟩ k hX=>⟨b,o,cs,e,by rw[k.blk b (Array.getElem?_eq_some_iff.1 hb).1 (hX b ⟨o,e⟩)];exact hb,fun j q hj=>by
  obtain⟨u,h1,h2,h3⟩:=hq j q hj
  obtain⟨c1,c2⟩:=q.ch w w' X u h2 k (fun g hg=>absurd hg (h3 g))
  exact⟨u,h1,c1,fun g hg=>h3 g (c2 g hg)⟩⟩)
 (fun w v g ⟨b,o,cs,e,hb,_⟩ ⟨o',e'⟩=>by
  rw[e]at e';injection e' with e1;injection e1 with e1;injection e1 with e1 _ _;subst e1
  exact(Array.getElem?_eq_some_iff.1 hb).1)
 (fun w v ⟨b,o,cs,e,_⟩=>by subst e;exact uc)
section
variable {ρ:Rho} {n m k L:Nat} {t T e:TypeId} {B:Blk} {w:World} {qs:List Vp} {u:Int}
theorem nU {v:Value} (h:(Vp.row T L qs).p w v):∃a c,v= .slice a L c:=by
 rcases h with⟨_,rfl,e⟩ | ⟨b,o,c,cs,e,_⟩
 ·exact⟨_,_,e⟩
 ·exact⟨_,_,e⟩
theorem ue (ht:∃e,Tryd.prog.underlying t=some (.slice e)) (hn:ρ[n]? =some (.row T L qs)) {l:Leaf} (hl:∀B w,l.holds ρ B w (.int .i64 (L:Int))):(OIns.mk (.len t) [.one (.ref n)] (.one l)).Ok Tryd.prog ρ:=fun B w vs hv=>by
 match vs,hv with
 | [v1],hv=>
  obtain⟨s,h1,h2,_⟩:=hv.1
  rw[hn]at h1;injection h1 with h1;subst h1
  obtain⟨a,c,rfl⟩:=nU h2
  obtain⟨e,he⟩:=ht
  refine⟨.int .i64 (L:Int),hl B w,fun ts ty h0=> ?_⟩
  simp[Builtin.len_,h0,Sem.run_bind,run_underlying he,Result.andThen,goInt]
/-- The place of the k-th part. -/
theorem uf {l:Leaf} {sz:Nat} {qs':List Vp} (ht:Tryd.prog.underlying t=some (.slice e)) (hz:szB Tryd.prog e=some sz) (hn:ρ[n]? =some (.row T L qs)) (hm:ρ[m]? =some (.plc T qs')) (hl:∀B w x,l.holds ρ B w x→x= .int .i64 (k:Int)) (hk:k<L) (hq0:qs≠ [])
  (hq:∀(j:Nat) (q:Vp),qs'[j]? =some q→qs[k*sz+j]? =some q):(OIns.mk (.ia t) [.one (.ref n),.one l] (.one (.ref m))).Ok Tryd.prog ρ:=fun B w vs hv=>by
 match vs,hv with
 | [v1,v2],hv=>
  obtain⟨s,h1,h2,h3⟩:=hv.1
  rw[hn]at h1;injection h1 with h1;subst h1
  have e2:=hl _ _ _ hv.2.1
  subst e2
  rcases h2 with⟨h,_⟩ | ⟨b,o,c,cs,rfl,hc,hb,h4⟩
  ·exact absurd h hq0
  ·refine⟨.pointer (some ⟨b,o+k*sz,none⟩),⟨_,hm,⟨b,o+k*sz,cs,rfl,hb,fun j q hj=> ?_⟩,fun g ⟨o',e'⟩=> ?_⟩,?_⟩
   ·obtain⟨u,k1,k2⟩:=h4 _ q (hq j q hj)
    exact⟨u,by rw[Nat.add_assoc];exact k1,k2⟩
   ·injection e' with e1;injection e1 with e1;injection e1 with e1 _ _;subst e1
    exact h3 _ ⟨_,_,_,rfl⟩
   ·simp[Instr.indexAt,asIntOf,Sem.run_bind,run_underlying ht,cg hz,Result.andThen,hk,fO]
/-- What lies at a place: one cell, several cells. -/
theorem o_ldP {q:Vp} {l:Leaf} (ht:oS Tryd.prog t=some false) (hn:ρ[n]? =some (.plc T (q::qs))) (hl:∀B w x,q.p w x→(∀g,¬q.fp w x g)→l.holds ρ B w x):(OIns.mk (.ld t) [.one (.ref n)] (.one l)).Ok Tryd.prog ρ:=fun B w vs hv=>by
 match vs,hv with
 | [v1],hv=>
  obtain⟨s,h1,h2,_⟩:=hv.1
  rw[hn]at h1;injection h1 with h1;subst h1
  obtain⟨b,o,cs,rfl,hb,h4⟩:=h2
  obtain⟨u,k1,k2,k3⟩:=h4 0 q rfl
  refine⟨u,hl B w u k2 k3,?_⟩
  have:=gS (p:=Tryd.prog) (w:=w) (ad:=⟨b,o,none⟩) (v:=u) (by rw[gT hb];exact k1)
  simp[Instr.loadAt,Instr.sureAddr,loadVar,Sem.run_bind,fN ht,this,Result.andThen]
theorem lq {q:Vp} (h:ρ[m]? =some q):∀B w x,q.p w x→(∀g,¬q.fp w x g)→(Leaf.ref m).holds ρ B w x:=fun _ _ _ h1 h2=>⟨q,h,h1,fun g hg=>absurd hg (h2 g)⟩
/-- Leaves that hold what these properties say; the other way round. -/
def LQ (ρ:Rho):List Leaf→List Vp→Prop
 | [],_=>True
 | l::ls,q::qs=>(∀B w x,q.p w x→(∀g,¬q.fp w x g)→l.holds ρ B w x)∧LQ ρ ls qs
 | _::_,[]=>False
def QL (ρ:Rho):List Leaf→List Vp→Prop
 | [],[]=>True
 | l::ls,q::qs=>(∀B w x,l.holds ρ B w x→q.p w x∧∀g,¬q.fp w x g)∧QL ρ ls qs
 | _,_=>False
theorem xU {u:Value} (h:ρ[m]? =some (.val u)):∀B w x,(Leaf.ref m).holds ρ B w x→(Vp.val u).p w x∧∀g,¬(Vp.val u).fp w x g:=fun _ _ _ ⟨q,h1,h2,_⟩=>by
 rw[h]at h1;injection h1 with h1;subst h1;exact⟨h2,fun _ h=>h⟩
theorem dL {L N:Nat} (h:ρ[m]? =some (.dig L N)):∀B w x,(Leaf.ref m).holds ρ B w x→(Vp.dig L N).p w x∧∀g,¬(Vp.dig L N).fp w x g:=fun _ _ _ ⟨q,h1,h2,_⟩=>by
 rw[h]at h1;injection h1 with h1;subst h1;exact⟨h2,fun _ h=>h⟩
theorem LQ.holds:∀ {ls:List Leaf} {qs:List Vp} {cs:Array Value} {o:Nat},LQ ρ ls qs→(∀(j:Nat) (q:Vp),qs[j]? =some q→∃u,cs[o+j]? =some u∧q.p w u∧∀g,¬q.fp w u g)→
  ∃vs:List Value,ap ρ B w ls vs∧∀(j:Nat) (v:Value),vs[j]? =some v→cs[o+j]? =some v
 | [],_,_,_,_,_=>⟨[],trivial,fun _ _ h=>by simp at h⟩
 | l::ls,q::qs,cs,o,h,hq=>by
  obtain⟨u,k1,k2,k3⟩:=hq 0 q rfl
  obtain⟨vs,e1,e2⟩:=LQ.holds (ls:=ls) (qs:=qs) (cs:=cs) (o:=o+1) h.2 (fun j q hj=>by
   obtain⟨u,k1,k2⟩:=hq (j+1) q (by simpa using hj)
   exact⟨u,by rw[show o+1+j=o+(j+1)from by omega];exact k1,k2⟩)
  refine⟨u::vs,⟨h.1 B w u k2 k3,e1⟩,fun j v hj=> ?_⟩
  match j with
  | 0=>simp at hj;subst hj;exact k1
  | j+1=>have:=e2 j v (by simpa using hj);rwa [show o+1+j=o+(j+1)from by omega]at this
 | _::_,[],_,_,h,_=>h.elim
theorem QL.get:∀ {ls:List Leaf} {qs:List Vp} {vs:List Value} {j:Nat} {q:Vp},QL ρ ls qs→ap ρ B w ls vs→qs[j]? =some q→∃u,vs[j]? =some u∧q.p w u∧∀g,¬q.fp w u g
 | [],[],_,_,_,_,_,h=>by simp at h
 | _::_,_::_,v::_,0,_,h,hl,hq=>by simp at hq;subst hq;exact⟨v,rfl,h.1 B w v hl.1⟩
 | _::ls,_::qs,_::vs,j+1,q,h,hl,hq=>by
  obtain⟨u,k1,k2⟩:=QL.get (ls:=ls) (qs:=qs) (vs:=vs) (j:=j) h.2 hl.2 (by simpa using hq)
  exact⟨u,by simpa using k1,k2⟩
 | _::_,_::_,[],_,_,_,hl,_=>hl.elim
 | [],_::_,_,_,_,h,_,_=>h.elim
 | _::_,[],_,_,_,h,_,_=>h.elim
theorem xh {ls:List Leaf} (ht:oS Tryd.prog t=some true) (hz:szB Tryd.prog t=some ls.length) (hn:ρ[n]? =some (.plc T qs)) (hl:LQ ρ ls qs):(OIns.mk (.ld t) [.one (.ref n)] (.agg ls)).Ok Tryd.prog ρ:=fun B w vs hv=>by
 match vs,hv with
 | [v1],hv=>
  obtain⟨s,h1,h2,_⟩:=hv.1
  rw[hn]at h1;injection h1 with h1;subst h1
  obtain⟨b,o,cs,rfl,hb,h4⟩:=h2
  obtain⟨us,e1,e2⟩:=hl.holds (B:=B) h4
  refine⟨.agg us.toArray,⟨us,rfl,e1⟩,?_⟩
  have:=fP (p:=Tryd.prog) (o:=o) hb us 0 #[] (fun k u hu=>by rw[Nat.zero_add];exact e2 k u hu)
  rw[e1.len]at this
  simp[Instr.loadAt,Instr.sureAddr,loadVar,loadCells,Sem.run_bind,fN ht,cg hz,this,Result.andThen]
def ug (z:List Leaf) (n:Nat):List Leaf:=(List.range n).map fun i=>z.getD (i % z.length) .sl0
/-- A slice of parts. -/
theorem i5 {ss:List SV} {ix:List Nat} {z ls:List Leaf} {sz N:Nat} (ht:Tryd.prog.underlying t=some (.slice e)) (hz:szB Tryd.prog e=some sz) (hzl:oT Tryd.prog e=some z) (hle:N*sz≤2^24) (hpos:N*sz≠0) (hz0:z.length≠0) (hix:ix.length=ss.length)
  (hf:iR (fun i=>some (i*sz,sz)) (ug z (N*sz)) (ix.zip ss)=some ls) (hq:QL ρ ls qs) (hm:ρ[m]? =some (.row e N qs)):(OIns.mk (.bs t N ix) ss (.one (.ref m))).Ok Tryd.prog ρ:=fun B w vs hv hB=>by
 obtain⟨zv,hz1,hz2⟩:=eO (p:=Tryd.prog) (ρ:=ρ) (B:=B) (w:=w) hzl
 have hlen:vs.length=ss.length:=hv.len
 have hzlen:zv.cells.size=z.length:=by have:=hz2.len;simpa using this
 have h0:ap ρ B w (ug z (N*sz)) ((Array.range (N*sz)).map (zv.cells[· % zv.cells.size]!)).toList:=by
  refine ap.mk (by simp[ug]) (fun k l v h1 h2=> ?_)
  have hk:k<N*sz:=by have:=(List.getElem?_eq_some_iff.1 h1).1;simpa [ug]using this
  have hk2:k % z.length<z.length:=Nat.mod_lt _ (by omega)
  simp only[ug,List.getElem?_map,List.getElem?_range hk,Option.map_some,Option.some.injEq]at h1
  obtain⟨v',h3,h4⟩:=hz2.get (List.getElem?_eq_getElem hk2)
  rw[List.getD_eq_getElem?_getD,List.getElem?_eq_getElem hk2,Option.getD_some]at h1
  subst h1
  have h5:v=v':=by
   simp only[Array.toList_map,List.getElem?_map,Array.toList_range,List.getElem?_range hk,Option.map_some,Option.some.injEq,hzlen]at h2
   rw[Array.getElem?_toList]at h3
   rw[←h2]
   have hk3:k % z.length<zv.cells.size:=by omega
   rw[getElem!_pos zv.cells _ hk3]
   rw[Array.getElem?_eq_getElem hk3]at h3
   exact Option.some.inj h3
  subst h5
  exact h4
 have hzip1:(ix.zip vs).map (·.1)=(ix.zip ss).map (·.1):=by rw[List.map_fst_zip (by omega),List.map_fst_zip (by omega)]
 have hzip2:ct ρ B w ((ix.zip ss).map (·.2)) ((ix.zip vs).map (·.2)):=by rw[List.map_snd_zip (by omega),List.map_snd_zip (by omega)];exact hv
 obtain⟨out,ho1,ho2⟩:=fQ hf hzip1 hzip2 h0
 refine⟨.slice (some ⟨w.heap.size,0,none⟩) N N,w.alloc (.cells out e),⟨_,hm,.inr ⟨w.heap.size,0,N,out,rfl,Nat.le_refl _,heap_alloc_new w _,fun j q hj=> ?_⟩,fun g ⟨o',n',c',e'⟩ hx=> ?_⟩,?_,eF w _⟩
 ·obtain⟨u,k1,k2,k3⟩:=hq.get ho2 hj
  obtain⟨c1,c2⟩:=q.ch _ _ _ _ k2 (.below (eF w (.cells out e))) (fun _ _ h=>h)
  exact⟨u,by rw[Nat.zero_add,←Array.getElem?_toList];exact k1,c1,fun g hg=>k3 g (c2 g hg)⟩
 ·injection e' with e1;injection e1 with e1;injection e1 with e1 _ _;subst e1
  have:=hB _ hx;omega
 ·unfold Instr.buildSlice
  simp only[Sem.run_bind,run_underlying ht,cg hz,Result.andThen]
  rw[if_neg (by omega),if_neg hpos]
  simp only[Sem.run_bind,hz1,Result.andThen,Sem.run_pure,List.toList_toArray]
  rw[ho1]
  rfl
end
theorem cRn {ρ:Rho} {w:World} {C:List Inst} {L:List OIns} (hC:∀i∈C,i.Ok0 Tryd.prog ρ (.of w)) (hO:∀i∈L,i.Ok Tryd.prog ρ) {f:FuncId} {fn:Func} (hf:Tryd.prog.funcs[f]? =some fn) {args:List SV} {vs:List Value} {r:AV} (h:t6 Tryd.prog C L fn args 300=some r) (ha:ct ρ noB w args vs):Calls Tryd.prog f vs.toArray w (fun e w'=>∃v,e= .returned v∧r.holds ρ noB w' v∧Below w.heap.size w w'):=pg hC hO (by kernel_rfl) hf h ha
end Go.Proofs.YtfhinmdhjlmikaaDoor
