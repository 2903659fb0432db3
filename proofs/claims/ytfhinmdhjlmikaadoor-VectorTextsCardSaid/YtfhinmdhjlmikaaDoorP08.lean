/- An executor: the effect of an operation. An executor: rows that grow; calls that change objects and variables. An executor: stores; every operation has the effect that is reckoned. An executor: regions, code, functions. -/
import Derived.Test.YtfhinmdhjlmikaaDoorP07
namespace Go.Proofs.YtfhinmdhjlmikaaDoor
set_option linter.unusedSimpArgs false
set_option linter.unusedVariables false
set_option maxRecDepth 100000
open Go.RowKit
/-- What a call gives: asked of whoever uses it. -/
structure Inst where
 f:FuncId
 args:List SV
 res:AV
def Inst.Ok (p:Program) (ρ:Rho) (i:Inst):Prop:=
 (∀(vs:Array Value) (w:World),(callFunc i.f vs).run p w= .ok (.enter i.f vs) w)∧
 ∀(B:Blk) (w:World) (vs:List Value),BOk B w.heap.size→ct ρ B w i.args vs→Calls p i.f vs.toArray w (fun e w'=>∃v,e= .returned v∧i.res.holds ρ B w' v∧Below w.heap.size w w')
/-- The same, of worlds that come behind w0 with its memory as it was. -/
def Inst.Ok0 (p:Program) (ρ:Rho) (w0:Ent) (i:Inst):Prop:=
 (∀(vs:Array Value) (w:World),(callFunc i.f vs).run p w= .ok (.enter i.f vs) w)∧
 ∀(B:Blk) (w:World) (vs:List Value),w0.kept w→BOk B w.heap.size→ct ρ B w i.args vs→Calls p i.f vs.toArray w (fun e w'=>∃v,e= .returned v∧i.res.holds ρ B w' v∧Below w.heap.size w w')
theorem Inst.Ok.to0 {p:Program} {ρ:Rho} {i:Inst} (h:i.Ok p ρ) (w0:Ent):i.Ok0 p ρ w0:=⟨h.1,fun B w vs _ hB hv=>h.2 B w vs hB hv⟩
def wrD (d:Option Tmp) (c:AV):List (Nat×AV):=match d with | some d=>[(d,c)] | none=>[]
def okD (nt:Nat) (d:Option Tmp):Bool:=match d with | some d=>decide (d<nt) && decide (d<100000) | none=>true
def dc (v:Nat):Nat→List Leaf→List (Nat×AV)
 | _,[]=>[]
 | k,l::ls=>(kC v k,.v (.one l))::dc v (k+1) ls
def iU (ls:List Leaf):Bool:=ls.all Leaf.flat
def q8 (C:List Inst) (f:FuncId) (xs:List SV):Option AV:=match C.find? (fun i=>decide (i.f=f) && decide (i.args=xs))with | some i=>some i.res | none=>none
def gA (op:Op):List Nat:=op.operands.toList.flatMap rdO
def o0 (L:List OIns) (f:FuncId) (xs:List SV) (pb:MutD→Bool):Option MutD:=match L.find? (fun o=>match o.key with | .mut g d=>(decide (g=f) && decide (o.xs=xs)) && pb d | _=>false)with
 | some ⟨.mut _ d,_,_⟩=>some d
 | _=>none
def iV (i:Nat):Leaf→Bool
 | .sl0=>true
 | .own k _=>k==i
 | _=>false
def tR (lk:Nat→Option AV) (vts:List (TypeId×Nat)) (q:Nat×TypeId×List Leaf):Bool:=
 decide (vts[q.1]? =some (q.2.1,q.2.2.length)) && (decide (0<q.2.2.length∧q.2.2.length≤100000) && decide (fM lk q.1 0 q.2.2.length=some q.2.2))
def usE (vts:List (TypeId×Nat)) (q:Nat×TypeId×List Leaf):Bool:=decide (vts[q.1]? =some (q.2.1,q.2.2.length)) && decide (q.2.2.length≤100000)
def nvE (vts:List (TypeId×Nat)):Option (Nat×TypeId×List Leaf)→Bool
 | some q=>decide (q.1=vts.length∧vts.length<OW∧q.2.2.length≤100000)
 | none=>true
def lE (nt:Nat) (args:List Operand):List (Nat×SV)→Option (List (Nat×AV))
 | []=>some []
 | (i,c)::r=>match args[i]?,lE nt args r with
  | some (.tmp t),some l=>if t<100000∧t<nt then some ((t,.v c)::l)else none
  | _,_=>none
def nvW:Option (Nat×TypeId×List Leaf)→List (Nat×AV)
 | some q=>dc q.1 0 q.2.2
 | none=>[]
/-- The effect of a call that changes objects or variables. -/
def tS (nt:Nat) (lk:Nat→Option AV) (vts:List (TypeId×Nat)) (op:Op) (args:List Operand) (dst:Option Tmp) (d:MutD):Option (Eff×List (TypeId×Nat)):=
 if d.pre.all (tR lk vts) && (d.us.all (usE vts) && nvE vts d.nv)then
  match lE nt args d.keep with
  | some kw=>if kw.all (fun q=>decide (dst≠some q.1))then some (⟨gA op++d.pre.flatMap (fun q=>iQ q.1 0 q.2.2.length),wrD dst (wi d.xs)++(kw++(d.us.flatMap (fun q=>dc q.1 0 q.2.2)++nvW d.nv)),d.nv.map (·.1),d.ks,[]⟩,d.nv.toList.map fun q=>(q.2.1,q.2.2.length))else none
  | none=>none
 else none
/-- The effect of an operation; the variable that it makes. -/
def o3 (p:Program) (C:List Inst) (L:List OIns) (nt:Nat) (lk:Nat→Option AV) (vts:List (TypeId×Nat)) (o:Oper):Option (Eff×List (TypeId×Nat)):=
 if !okD nt o.dst then none else
 let pv:Option (Eff×List (TypeId×Nat)):=match mQ p L lk o.op with
  | some (c,rd)=>some (⟨gA o.op++rd,wrD o.dst c,none,[],[]⟩,[])
  | none=>none
 match o.op with
 | .alloc t=>match o.dst,oT p t with
  | some d,some z=>if iU z∧z.length≤100000∧vts.length<OW then some (⟨[],(d,.v (.one (.ptr vts.length 0)))::dc vts.length 0 z,some vts.length,[],[]⟩,[(t,z.length)])else none
  | _,_=>none
 | .box t x=>match o.dst,evS lk x with
  | some d,some s=>if iU s.leaves∧s.leaves.length≤100000∧vts.length<OW then some (⟨rdO x,(d,.v (.one (.ptr vts.length 0)))::dc vts.length 0 s.leaves,some vts.length,[],[]⟩,[(t,s.leaves.length)])else none
  | _,_=>none
 | .store t x y=>match o.dst,evL lk x,evS lk y with
  | none,some (.ptr v off),some s=>match vts[v]? with
   | some (_,n)=>if szB p t=some s.leaves.length∧iU s.leaves∧off+s.leaves.length≤n∧n≤100000∧v<OW then some (⟨rdO x++rdO y,dc v off s.leaves,none,[],[]⟩,[])else none
   | none=>none
  | _,_,_=>none
 | .call k=>match k.callee with
  | .value z=>match evL lk z,kD lk k.args.toList with
   | some (.fn f),some xs=>match q8 C f xs with
    | some r=>some (⟨gA o.op,wrD o.dst r,none,[],[]⟩,[])
    | none=>match o0 L f xs (fun d=>d.pre.all (tR lk vts))with
     | some d=>tS nt lk vts o.op k.args.toList o.dst d
     | none=>none
   | _,_=>none
  | .builtin .append=>match o.dst,k.args.toList,k.argTypes.toList with
   | some d,[x,y],[t,t']=>match evL lk x,evL lk y with
    | some lx,some ly=>if t=t' then match cf L (.app t) [.one lx,.one ly]with
      | some (.one (.own i m))=>if iV i lx then some (⟨gA o.op,[(d,.v (.one (.own i m)))],none,[i],[]⟩,[])else none
      | _=>none
     else none
    | _,_=>none
   | _,_,_=>none
  | _=>pv
 | .buildSlice t n parts=>match o.dst,kD lk (parts.toList.map (·.2))with
  | some _,some xs=>(cf L (.bs t n (parts.toList.map (·.1))) xs).map fun r=>(⟨gA o.op,wrD o.dst (.v r),none,[],[]⟩,[])
  | _,_=>none
 | _=>pv
/-- With the operation's guard. -/
def qj (p:Program) (C:List Inst) (L:List OIns) (nt:Nat) (ops:Array Oper) (lk:Nat→Option AV) (vts:List (TypeId×Nat)) (o:Oper):Option (Eff×List (TypeId×Nat)):=
 match o.guard with
 | none=>o3 p C L nt lk vts o
 | some (g,b)=>match bQ ops g with
  | some t=>match evA lk (.tmp t)with
   | some (.v (.one (.b x)))=>if x=b then(o3 p C L nt lk vts o).map fun e=>({e.1 with rd:=t::e.1.rd},e.2)else if okD nt o.dst then some (⟨[t],wrD o.dst .any,none,[],[]⟩,[])else none
   | some .any=>if okD nt o.dst then some (⟨[t],wrD o.dst .any,none,[],[]⟩,[])else none
   | _=>none
  | none=>none
section
variable {p:Program} {ρ:Rho} {B B':Blk} {a a':Act} {w w':World} {w0:Ent} {C:List Inst} {L:List OIns} {lk:Nat→Option AV} {vt:List (TypeId×Nat)} {nt:Nat} {Q:Exit→Act→World→Prop} {o:Oper} {ops:Array Oper}
theorem bF.below {x:Nat} {c:AV} (h:bF ρ B a w x c) (hB:BLe B B') (hN:p7 w.heap.size B B') (hb:Below w.heap.size w w') (ht:x<100000→a'.tmps[x]? =a.tmps[x]?):bF ρ B' a' w' x c:=by
 unfold bF at h⊢
 split at h
 ·rename_i hx
  rw[if_pos hx]
  obtain⟨u,h1,h2⟩:=h
  exact⟨u,by rw[ht hx];exact h1,h2.mono hB hN hb⟩
 ·rename_i hx
  rw[if_neg hx]
  obtain⟨g,cs,ty,u,h1,h2,h3,h4⟩:=h
  exact⟨g,cs,ty,u,hB.v _ _ h1,by rw[hb.block g (Array.getElem?_eq_some_iff.1 h2).1];exact h2,h3,h4.mono hB hN hb⟩
theorem Inv.below' (h:Inv vt w0 nt B a w) (hb:Below w.heap.size w w') (hs:a'.tmps.size=a.tmps.size) (hd:a'.defers=a.defers):Inv vt w0 nt B a' w':=
 ⟨fun v g hv=>by
  obtain⟨h1,cs,ty,h2,h3,h4⟩:=h.blk v g hv
  exact⟨h1,cs,ty,h2,by rw[hb.block g (Array.getElem?_eq_some_iff.1 h3).1];exact h3,h4⟩,
  fun k g hv=>by
  obtain⟨h1,h2⟩:=h.own k g hv
  exact⟨h1,h2.blk (hb.block g h2.1) hb.size⟩,
  h.inj,h.below.below hb,by rw[hs,h.size],by rw[hd,h.dfr],h.pin⟩
theorem iW (d:Option Tmp) (v:Value):(a.put d v).tmps.size=a.tmps.size:=by cases d<;>simp[Act.put]
theorem kX (d:Option Tmp) (v:Value):(a.put d v).defers=a.defers:=by cases d<;>rfl
theorem lF {d:Option Tmp} {v:Value} {x:Nat} (h:∀t,d=some t→t≠x):(a.put d v).tmps[x]? =a.tmps[x]? :=by
 cases d with
 | none=>rfl
 | some t=>simp[Act.put,Array.getElem?_setIfInBounds,h t rfl]
theorem nQ {d:Tmp} {v:Value} (h:d<a.tmps.size):(a.put (some d) v).tmps[d]? =some v:=by simp[Act.put,h]
/-- An operation that makes a value and only adds to the world, no variable. -/
theorem eo {rd:List Nat} {d:Option Tmp} {c:AV} {v:Value} (hi:Inv vt w0 nt B a w) (hd:okD nt d=true) (hb:Below w.heap.size w w') (hv:c.holds ρ B w' v):
  Post ρ vt w0 nt ⟨rd,wrD d c,none,[],[]⟩ B a w B (a.put d v) w':=by
 refine⟨BLe.refl,hi.below' hb (iW _ _) (kX _ _),fun q hq=> ?_,fun x c' hx hne _=>hx.below BLe.refl .refl hb (fun _=>lF (fun t ht=> ?_)),fun u h1 h2=>absurd h1 h2⟩
 ·cases d with
  | none=>cases hq
  | some t=>
   simp only[wrD,List.mem_singleton]at hq
   subst hq
   simp only[okD,Bool.and_eq_true,decide_eq_true_eq]at hd
   unfold bF
   rw[if_pos hd.2]
   exact⟨v,nQ (by rw[hi.size];exact hd.1),hv⟩
 ·subst ht
  exact hne (t,c) (by simp[wrD])
theorem ie:∀ {ls:List Leaf} {v k:Nat} {q:Nat×AV},q∈dc v k ls↔∃j l,ls[j]? =some l∧q=(kC v (k+j),.v (.one l))
 | [],v,k,q=>by simp[dc]
 | l::ls,v,k,q=>by
  simp only[dc,List.mem_cons,ie (ls:=ls)]
  constructor
  ·rintro(rfl | ⟨j,l',h1,rfl⟩)
   ·exact⟨0,l,rfl,rfl⟩
   ·exact⟨j+1,l',by simpa using h1,by rw[show k+1+j=k+(j+1)from by omega]⟩
  ·rintro⟨j,l',h1,rfl⟩
   match j with
   | 0=>simp at h1;subst h1;exact .inl rfl
   | j+1=>exact .inr ⟨j,l',by simpa using h1,by rw[show k+1+j=k+(j+1)from by omega]⟩
theorem Inv.bok (hi:Inv vt w0 nt B a w):BOk B w.heap.size:=fun g h=>by
 rcases h with⟨x,h⟩ | ⟨k,h⟩
 ·obtain⟨_,cs,ty,_,h3,_⟩:=hi.blk x g h
  exact(Array.getElem?_eq_some_iff.1 h3).1
 ·exact(hi.own k g h).2.1
/-- A new variable. -/
theorem o4 {rd:List Nat} {d:Tmp} {t:TypeId} {ls:List Leaf} {cs:Array Value} {nv:Nat} (hi:Inv vt w0 nt B a w) (hd:okD nt (some d)=true) (hf:iU ls=true) (hl:ls.length≤100000) (hc:ap ρ B w ls cs.toList)
  (hv:vt[nv]? =some (t,ls.length)) (hn:B.v nv=none):
  Post ρ vt w0 nt ⟨rd,(d,.v (.one (.ptr nv 0)))::dc nv 0 ls,some nv,[],[]⟩ B a w (⟨fun v=>if v=nv then some w.heap.size else B.v v,B.o⟩:Blk) (a.put (some d) (.pointer (some ⟨w.heap.size,0,none⟩))) (w.alloc (.cells cs t)):=by
 have hle:BLe B (⟨fun v=>if v=nv then some w.heap.size else B.v v,B.o⟩:Blk):=⟨fun v g h=>by
  show(if v=nv then _ else _)=_
  rw[if_neg (fun e=>by rw[e,hn]at h;cases h)];exact h,fun _ _ h=>h⟩
 have hN:p7 w.heap.size B (⟨fun v=>if v=nv then some w.heap.size else B.v v,B.o⟩:Blk):=fun g hg=>by
  rcases hg with⟨x,hx⟩ | ⟨k,hk⟩
  ·by_cases e:x=nv
   ·simp only[e,if_true,Option.some.injEq]at hx;exact .inr (by omega)
   ·simp only[e,if_false]at hx;exact .inl (.inl ⟨x,hx⟩)
  ·exact .inl (.inr ⟨k,hk⟩)
 have hb:=eF w (.cells cs t)
 have hnew:(w.alloc (.cells cs t)).heap[w.heap.size]? =some (.cells cs t (0,0)):=heap_alloc_new w _
 have hlt:∀v g,B.v v=some g→g<w.heap.size:=fun v g h=>hi.bok g (.inl ⟨v,h⟩)
 have hlen:cs.size=ls.length:=by have:=hc.len;simpa using this
 refine⟨hle,⟨fun v g hg=> ?_,fun k g hg=> ?_,⟨fun v v' g h1 h2=> ?_,hi.inj.o,fun v k g h1 h2=> ?_⟩,hi.below.below hb,by rw[iW,hi.size],by rw[kX,hi.dfr],fun x g h=>hle.v _ _ (hi.pin x g h)⟩,fun q hq=> ?_,fun x c hx hne _=>hx.below hle hN hb (fun _=>lF (fun t ht=> ?_)),fun u h1 h2=> ?_⟩
 ·by_cases e:v=nv
  ·subst e
   simp only[if_true,Option.some.injEq]at hg
   subst hg
   refine⟨.inl hi.below.size,cs,t,by rw[hv,hlen],hnew,fun k n hk=> ?_⟩
   rw[←Array.getElem?_toList]at hk
   have hkl:k<ls.length:=by rw[←hc.len];exact(List.getElem?_eq_some_iff.1 hk).1
   obtain⟨u,h1,h2⟩:=hc.get (List.getElem?_eq_getElem hkl)
   rw[hk]at h1;injection h1 with h1;subst h1
   exact(h2.flat (List.all_eq_true.1 hf _ (List.getElem_mem hkl))).2.2 n rfl
  ·simp only[e,if_false]at hg
   obtain⟨h1,cs',ty,h2,h3,h4⟩:=hi.blk v g hg
   exact⟨h1,cs',ty,h2,by rw[hb.block g (hlt v g hg)];exact h3,h4⟩
 ·obtain⟨h1,h2⟩:=hi.own k g hg
  exact⟨h1,h2.blk (hb.block g h2.1) hb.size⟩
 ·by_cases e:v=nv<;>by_cases e':v'=nv
  ·rw[e,e']
  ·simp only[e,e',if_true,if_false,Option.some.injEq]at h1 h2
   have:=hlt v' g h2;omega
  ·simp only[e,e',if_true,if_false,Option.some.injEq]at h1 h2
   have:=hlt v g h1;omega
  ·simp only[e,e',if_false]at h1 h2
   exact hi.inj.v v v' g h1 h2
 ·by_cases e:v=nv
  ·simp only[e,if_true,Option.some.injEq]at h1
   have:=(hi.own k g h2).2.1;omega
  ·simp only[e,if_false]at h1
   exact hi.inj.vo v k g h1 h2
 ·rcases List.mem_cons.1 hq with rfl | hq
  ·simp only[okD,Bool.and_eq_true,decide_eq_true_eq]at hd
   unfold bF
   rw[if_pos hd.2]
   exact⟨_,nQ (by rw[hi.size];exact hd.1),w.heap.size,by simp,rfl⟩
  ·obtain⟨j,l,h1,rfl⟩:=ie.1 hq
   have hjl:=(List.getElem?_eq_some_iff.1 h1).1
   obtain⟨u,h2,h3⟩:=hc.get h1
   rw[Nat.zero_add,gU (by omega)]
   exact⟨w.heap.size,cs,t,u,by simp,hnew,by rw[←Array.getElem?_toList];exact h2,(h3.mono hle hN hb:Leaf.holds ρ _ _ l u)⟩
 ·injection ht with ht;subst ht
  exact hne (d,.v (.one (.ptr nv 0))) (by simp)
 ·by_cases e:u=nv
  ·rw[e]
  ·simp only[e,if_false]at h2;exact absurd h1 h2
end
end Go.Proofs.YtfhinmdhjlmikaaDoor
namespace Go.Proofs.YtfhinmdhjlmikaaDoor
set_option linter.unusedSimpArgs false
set_option linter.unusedVariables false
set_option maxRecDepth 100000
open Go.RowKit
section
variable {p:Program} {ρ:Rho} {B B':Blk} {a a':Act} {w w':World} {w0:Ent} {C:List Inst} {L:List OIns} {nt i:Nat} {Q:Exit→Act→World→Prop} {o:Oper} {ops:Array Oper} {v:Value} {vt:List (TypeId×Nat)} {ks:List Nat} {X:Nat→Prop} {lk:Nat→Option AV}
/-- The objects ks may have more blocks now, and there may be a new variable; blocks X of these objects and of variables may have changed. -/
structure Reb (B B':Blk) (ks:List Nat) (w w':World) (X:Nat→Prop):Prop where
 le:BLe B B'
 new:p7 w.heap.size B B'
 old:∀g,X g→(∃k∈ks,B.o k g)∨∃x,B.v x=some g
 inj:BInj B
 chg:Chg w w' X
theorem Leaf.holds.reb {l:Leaf} (h:l.holds ρ B w v) (hn:∀k∈l.objs,k∉ks) (r:Reb B B' ks w w' X):l.holds ρ B' w' v:=by
 cases l<;>simp only[Leaf.holds]at h⊢ <;>try exact h
 ·obtain⟨g,h1,h2⟩:=h
  exact⟨g,r.le.v _ _ h1,h2⟩
 ·obtain⟨s,h1,h2,h3⟩:=h
  obtain⟨c1,c2⟩:=s.ch _ _ _ _ h2 r.chg (fun g hg hX=>h3 g hg (by
   rcases r.old g hX with⟨k,_,h⟩ | ⟨x,h⟩
   ·exact .inr ⟨k,h⟩
   ·exact .inl ⟨x,h⟩))
  refine⟨s,h1,c1,fun g hg hx=> ?_⟩
  rcases r.new g hx with h | h
  ·exact h3 g (c2 g hg) h
  ·have:=s.lt _ _ _ h2 (c2 g hg);omega
 ·rename_i k m
  obtain⟨s,h1,h2,h3,h4⟩:=h
  have hk:k∉ks:=hn k (by simp[Leaf.objs])
  obtain⟨c1,c2⟩:=s.ch _ _ _ _ h2 r.chg (fun g hg hX=>by
   rcases r.old g hX with⟨l,hl,h⟩ | ⟨x,h⟩
   ·have:=r.inj.o _ _ _ h (h3 g hg);subst this;exact hk hl
   ·exact r.inj.vo _ _ _ h (h3 g hg))
  exact⟨s,h1,c1,fun g hg=>r.le.o _ _ (h3 g (c2 g hg)),fun g hg=>r.le.o _ _ (h4 g hg)⟩
theorem ap.reb (r:Reb B B' ks w w' X):∀ {ls:List Leaf} {vs:List Value},ap ρ B w ls vs→(∀k∈ls.flatMap Leaf.objs,k∉ks)→ap ρ B' w' ls vs
 | [],[],_,_=>trivial
 | _::_,_::_,h,hn=>⟨h.1.reb (fun k hk=>hn k (by simp[hk])) r,ap.reb r h.2 (fun k hk=>hn k (by rw[List.flatMap_cons];exact List.mem_append.2 (.inr hk)))⟩
 | [],_::_,h,_=>h.elim
 | _::_,[],h,_=>h.elim
theorem SV.holds.reb {s:SV} (h:s.holds ρ B w v) (hn:∀k∈s.objs,k∉ks) (r:Reb B B' ks w w' X):s.holds ρ B' w' v:=by
 cases s with
 | one l=>exact Leaf.holds.reb h hn r
 | agg ls=>obtain⟨vs,e,h⟩:=h;exact⟨vs,e,h.reb r hn⟩
theorem ct.reb (r:Reb B B' ks w w' X):∀ {ls:List SV} {vs:List Value},ct ρ B w ls vs→(∀k∈ls.flatMap SV.objs,k∉ks)→ct ρ B' w' ls vs
 | [],[],_,_=>trivial
 | _::_,_::_,h,hn=>⟨h.1.reb (fun k hk=>hn k (by simp[hk])) r,ct.reb r h.2 (fun k hk=>hn k (by rw[List.flatMap_cons];exact List.mem_append.2 (.inr hk)))⟩
 | [],_::_,h,_=>h.elim
 | _::_,[],h,_=>h.elim
theorem AV.holds.reb {c:AV} (h:c.holds ρ B w v) (hn:c.hit ks=false) (r:Reb B B' ks w w' X):c.holds ρ B' w' v:=by
 have hn:∀k∈c.objs,k∉ks:=fun k hk=>by
  unfold AV.hit at hn
  have:=List.any_eq_false.1 hn k hk
  simpa using this
 cases c with
 | v s=>exact SV.holds.reb h hn r
 | tup xs=>obtain⟨vs,e,h⟩:=h;exact⟨vs,e,h.reb r hn⟩
 | any=>exact h
theorem bF.reb {x:Nat} {c:AV} (h:bF ρ B a w x c) (hn:c.hit ks=false) (r:Reb B B' ks w w' X) (hsm:¬x<100000→∀g,B.v (x / 100000 - 1)=some g→g<w.heap.size→(∀cs ty,w.heap[g]? =some (.cells cs ty (0,0))→x % 100000<cs.size→¬X g)) (ht:x<100000→a'.tmps[x]? =a.tmps[x]?):bF ρ B' a' w' x c:=by
 unfold bF at h⊢
 split at h
 ·rename_i hx
  rw[if_pos hx]
  obtain⟨u,h1,h2⟩:=h
  exact⟨u,by rw[ht hx];exact h1,h2.reb hn r⟩
 ·rename_i hx
  rw[if_neg hx]
  obtain⟨g,cs,ty,u,h1,h2,h3,h4⟩:=h
  have hlt:=(Array.getElem?_eq_some_iff.1 h2).1
  exact⟨g,cs,ty,u,r.le.v _ _ h1,by rw[r.chg.blk g hlt (hsm hx g h1 hlt cs ty h2 (Array.getElem?_eq_some_iff.1 h3).1)];exact h2,h3,h4.reb hn r⟩
theorem o5 {lx:Leaf} {x:Value} (h:iV i lx=true) (hl:lx.holds ρ B w x):∀g,x.ownBlock=some g→B.o i g:=by
 intro g hg
 cases lx with
 | sl0=>
  have e:x= .slice none 0 0:=hl
  subst e;cases hg
 | own k m=>
  have:k=i:=by simpa [iV]using h
  subst this
  obtain⟨s,_,_,_,h4⟩:=hl
  exact h4 g hg
 | _=>simp[iV]at h
/-- An append to a row that the call itself made. -/
theorem xQ (hO:∀i∈L,i.Ok p ρ) {k:Call} {d:Tmp} {x y:Operand} {t:TypeId} {lx ly:Leaf} {m:Nat} (hop:o.op= .call k) (hcal:k.callee= .builtin .append) (hd:o.dst=some d) (hargs:k.args.toList=[x,y]) (htt:k.argTypes.toList=[t,t]) (hx:evL lk x=some lx) (hy:evL lk y=some ly)
  (hf:cf L (.app t) [.one lx,.one ly]=some (.one (.own i m))) (hsame:iV i lx=true) (hdd:okD nt (some d)=true) (hi:Inv vt w0 nt B a w) (Hx:a7 ρ B a w lk x) (Hy:a7 ρ B a w lk y) {rd:List Nat}
  {K:Act→World→Prop} (hK:∀B' a' w',Post ρ vt w0 nt ⟨rd,[(d,.v (.one (.own i m)))],none,[i],[]⟩ B a w B' a' w'→K a' w'):Oper.wp p o a w K Q:=by
 have ex:=dG Hx hx
 have ey:=dG Hy hy
 have hold:=o5 hsame ex
 obtain⟨v,w',hrun,hgrow,hox,hblk,s1,hs1,hp1,hfp1⟩:=(dT hO hf) B w [a.eval x,a.eval y] ⟨ex,ey,trivial⟩ o.type
 simp only[okD,Bool.and_eq_true,decide_eq_true_eq]at hdd
 have hex:(execOp a.eval o).run p w= .ok (.value v) w':=by
  obtain⟨cal,args,tt⟩:=k
  simp only at hcal hargs htt
  subst hcal
  have ea:args=#[x,y]:=by rw[←Array.toList_inj];exact hargs
  have et:tt=#[t,t]:=by rw[←Array.toList_inj];exact htt
  subst ea;subst et
  unfold execOp
  simp only[hop,resolve,invoke,builtin,Sem.run_bind,Sem.run_pure,Result.andThen_ok,List.map_toArray,List.map_cons,List.map_nil,hrun]
 unfold Oper.wp
 rw[hex,Oper.upon_value,hd]
 have hne:∀k g,k≠i→B.o k g→v.ownBlock≠some g:=fun k g hx hBx hg=>by
  rcases(hblk g hg).1 with h | h
  ·exact hx (hi.inj.o _ _ _ hBx (hold g h))
  ·have:=hi.bok g (.inr ⟨k,hBx⟩);omega
 have hnv:∀x g,B.v x=some g→v.ownBlock≠some g:=fun x g hBx hg=>by
  rcases(hblk g hg).1 with h | h
  ·exact hi.inj.vo _ _ _ hBx (hold g h)
  ·have:=hi.bok g (.inl ⟨x,hBx⟩);omega
 have r:Reb B ⟨B.v,fun k g=>B.o k g∨(k=i∧v.ownBlock=some g)⟩ [i] w w' (fun g=>(a.eval x).ownBlock=some g):=by
  refine⟨⟨fun _ _ h=>h,fun _ _ h=>.inl h⟩,fun g hg=> ?_,fun g hX=>.inl ⟨i,by simp,hold g hX⟩,hi.inj,⟨hgrow.size,fun g hg hX=>hgrow.block g hg (fun e=>hX e.symm),fun g hX=>(hi.own _ g (hold g hX)).2⟩⟩
  rcases hg with⟨x,h⟩ | ⟨k,h | ⟨_,h⟩⟩
  ·exact .inl (.inl ⟨x,h⟩)
  ·exact .inl (.inr ⟨k,h⟩)
  ·exact(hblk g h).1.imp (fun h=>.inr ⟨i,hold g h⟩) id
 have hsm:∀x g,B.v x=some g→w'.heap[g]? =w.heap[g]? :=fun x g hBx=>hgrow.block g (hi.bok g (.inl ⟨x,hBx⟩)) (fun e=>hi.inj.vo _ _ _ hBx (hold g e.symm))
 have hmay:∀g,v.ownBlock=some g→w0.may g:=fun g hg=>by
  rcases(hblk g hg).1 with h | h
  ·exact(hi.own _ g (hold g h)).1
  ·exact .ge hi.below h
 refine hK ⟨B.v,fun k g=>B.o k g∨(k=i∧v.ownBlock=some g)⟩ _ w' ⟨r.le,⟨fun x g hg=> ?_,fun k g hg=> ?_,⟨hi.inj.v,fun k l g h1 h2=> ?_,fun x k g h1 h2=> ?_⟩,?_,by rw[iW,hi.size],by rw[kX,hi.dfr],hi.pin⟩,fun q hq=> ?_,fun z c hz hne' hh=> ?_,fun u h1 h2=>absurd h1 h2⟩
 ·obtain⟨h1,cs,ty,h2,h3,h4⟩:=hi.blk x g hg
  exact⟨h1,cs,ty,h2,by rw[hsm x g hg];exact h3,h4⟩
 ·rcases hg with hg | ⟨rfl,hg⟩
  ·obtain⟨h1,h2⟩:=hi.own k g hg
   refine⟨h1,?_⟩
   by_cases e:(a.eval x).ownBlock=some g
   ·exact hox g e
   ·exact h2.blk (hgrow.block g h2.1 (fun e'=>e e'.symm)) hgrow.size
  ·exact⟨hmay g hg,(hblk g hg).2.2⟩
 ·rcases h1 with h1 | ⟨e1,h1⟩<;>rcases h2 with h2 | ⟨e2,h2⟩
  ·exact hi.inj.o k l g h1 h2
  ·by_cases e:k=i
   ·rw[e,e2]
   ·exact absurd h2 (hne k g e h1)
  ·by_cases e:l=i
   ·rw[e,e1]
   ·exact absurd h1 (hne l g e h2)
  ·rw[e1,e2]
 ·rcases h2 with h2 | ⟨_,h2⟩
  ·exact hi.inj.vo x k g h1 h2
  ·exact hnv x g h1 h2
 ·refine⟨hgrow.os.trans hi.below.os,hgrow.tape.trans hi.below.tape,hgrow.output.trans hi.below.output,Nat.le_trans hi.below.size hgrow.size,fun g hg hX=>(hgrow.block g (Nat.lt_of_lt_of_le hg hi.below.size) (fun e=> ?_)).trans (hi.below.block g hg hX)⟩
  rcases(hi.own _ g (hold g e.symm)).1 with h | h
  ·omega
  ·exact hX h
 ·simp only[List.mem_singleton]at hq
  subst hq
  unfold bF
  rw[if_pos hdd.2]
  exact⟨v,nQ (by rw[hi.size];exact hdd.1),s1,hs1,hp1,fun g hg=>.inr ⟨rfl,hfp1 g hg⟩,fun g hg=>.inr ⟨rfl,hg⟩⟩
 ·refine hz.reb hh r (fun _ g h1 _ _ _ _ _ h2=>hi.inj.vo _ _ _ h1 (hold g h2)) (fun _=>lF (fun t ht=>by injection ht with ht;subst ht;exact hne' (d,.v (.one (.own i m))) (by simp)))
theorem tT (hO:∀i∈L,i.Ok p ρ) {f:FuncId} {xs:List SV} {d:MutD} {pb:MutD→Bool} (h:o0 L f xs pb=some d):∃r,(OIns.mk (.mut f d) xs r).Ok p ρ:=by
 unfold o0 at h
 split at h
 ·rename_i g d' xs' r hf
  injection h with h;subst h
  have h1:=List.find?_some hf
  simp only[Bool.and_eq_true,decide_eq_true_eq]at h1
  obtain⟨⟨rfl,rfl⟩,_⟩:=h1
  exact⟨r,hO _ (List.mem_of_find?_eq_some hf)⟩
 ·cases h
theorem o6 {args:List Operand}:∀ {l:List (Nat×SV)} {kw:List (Nat×AV)} {q:Nat×AV},lE nt args l=some kw→q∈kw→q.1<100000∧q.1<nt∧∃r∈l,args[r.1]? =some (.tmp q.1)∧q.2= .v r.2
 | [],kw,q,h,hq=>by simp only[lE,Option.some.injEq]at h;subst h;cases hq
 | (i,c)::r,kw,q,h,hq=>by
  simp only[lE]at h
  split at h
  ·rename_i t l ht hl
   split at h
   ·rename_i htl
    injection h with h;subst h
    rcases List.mem_cons.1 hq with rfl | hq
    ·exact⟨htl.1,htl.2,(i,c),by simp,ht,rfl⟩
    ·obtain⟨h1,h2,r',h3,h4⟩:=o6 hl hq
     exact⟨h1,h2,r',List.mem_cons_of_mem _ h3,h4⟩
   ·cases h
  ·cases h
theorem wk {vts:List (TypeId×Nat)} {rest:List (TypeId×Nat)} {q:Nat×TypeId×List Leaf} (h:tR lk vts q=true) (hvt:vt=vts++rest) (hi:Inv vt w0 nt B a w) (H:∀x∈iQ q.1 0 q.2.2.length,∀c,lk x=some c→bF ρ B a w x c):qe ρ B w q:=by
 simp only[tR,Bool.and_eq_true,decide_eq_true_eq]at h
 obtain⟨h1,⟨h2,h3⟩,h4⟩:=h
 obtain⟨_,hc⟩:=d9 h4 (by omega) H
 obtain⟨g,cs,ty,e1,e2,vs,e3,e4⟩:=hc h2
 obtain⟨_,cs',ty',f1,f2,f3⟩:=hi.blk q.1 g e1
 rw[e2]at f2;injection f2 with f2;injection f2 with f2 f2';subst f2;subst f2'
 rw[hvt,List.getElem?_append_left (List.getElem?_eq_some_iff.1 h1).1,h1]at f1
 simp only[Option.some.injEq,Prod.mk.injEq]at f1
 obtain⟨rfl,f1⟩:=f1
 refine⟨g,cs,e1,e2,?_,f3⟩
 have hl:=e3.len
 have:vs=cs.toList:=List.ext_getElem? (fun k=>by
  by_cases hk:k<vs.length
  ·have:=e4 k vs[k] (List.getElem?_eq_getElem hk)
   rw[Nat.zero_add]at this
   rw[List.getElem?_eq_getElem hk,Array.getElem?_toList,this]
  ·rw[List.getElem?_eq_none (by omega),List.getElem?_eq_none (by simp;omega)])
 rw[←this];exact e3
theorem qe.loc {q:Nat×TypeId×List Leaf} {k:Nat} {l:Leaf} (h:qe ρ B w q) (hk:k<100000) (hl:q.2.2[k]? =some l):bF ρ B a w (kC q.1 k) (.v (.one l)):=by
 obtain⟨g,cs,h1,h2,h3,_⟩:=h
 obtain⟨u,h4,h5⟩:=h3.get hl
 rw[gU hk]
 exact⟨g,cs,_,u,h1,h2,by rw[←Array.getElem?_toList];exact h4,h5⟩
theorem wl (hO:∀i∈L,i.Ok p ρ) {k:Call} {z:Operand} {f:FuncId} {xs:List SV} {d:MutD} {vts rest:List (TypeId×Nat)} {kw:List (Nat×AV)} (hop:o.op= .call k) (hcal:k.callee= .value z) (hz:evL lk z=some (.fn f)) (hxs:kD lk k.args.toList=some xs) {pb:MutD→Bool} (hf:o0 L f xs pb=some d)
  (hpre:∀x∈d.pre,tR lk vts x=true) (hus:∀x∈d.us,usE vts x=true) (hnv:nvE vts d.nv=true) (hkw:lE nt k.args.toList d.keep=some kw) (hkd:kw.all (fun q=>decide (o.dst≠some q.1))=true) (hdd:okD nt o.dst=true)
  (hvt:vt=vts++((d.nv.toList.map fun q=>(q.2.1,q.2.2.length))++rest)) (hi:Inv vt w0 nt B a w) (H:∀x∈gA o.op++d.pre.flatMap (fun q=>iQ q.1 0 q.2.2.length),∀c,lk x=some c→bF ρ B a w x c) (hn:∀v,d.nv.map (·.1)=some v→B.v v=none)
  {K:Act→World→Prop} (hK:∀B' a' w',Post ρ vt w0 nt ⟨gA o.op++d.pre.flatMap (fun q=>iQ q.1 0 q.2.2.length),wrD o.dst (wi d.xs)++(kw++(d.us.flatMap (fun q=>dc q.1 0 q.2.2)++nvW d.nv)),d.nv.map (·.1),d.ks,[]⟩ B a w B' a' w'→K a' w'):Oper.wp p o a w K Q:=by
 have HO:∀x∈gA o.op,∀c,lk x=some c→bF ρ B a w x c:=fun x hx=>H x (List.mem_append.2 (.inl hx))
 obtain⟨r0,hr0⟩:=tT hO hf
 obtain⟨cal,args,tt⟩:=k
 simp only at hcal hxs hkw
 subst hcal
 have HA:∀x∈args.toList,a7 ρ B a w lk x:=fun x hx y hy c hc=>HO y (by rw[hop];unfold gA;exact List.mem_flatMap.2 ⟨x,by simp only[Op.operands,Call.operands,Array.toList_append,List.mem_append];exact .inr hx,hy⟩) c hc
 have e1:a.eval z=fnV f:=dG (fun y hy c hc=>HO y (by rw[hop];unfold gA;exact List.mem_flatMap.2 ⟨z,by simp[Op.operands,Call.operands],hy⟩) c hc) hz
 have e2:=en hxs HA
 obtain⟨hent,hcall⟩:=hr0 B w (args.toList.map a.eval) e2
 have ea:(args.toList.map a.eval).toArray=args.map a.eval:=by rw[←Array.toList_map,Array.toArray_toList]
 rw[ea]at hent hcall
 have hex:(execOp a.eval o).run p w= .ok (.enter f (args.map a.eval)) w:=by
  simp[execOp,hop,resolve,invoke,Deferred.ofValue,e1,hent,Result.andThen]
 unfold Oper.wp
 rw[hex,Oper.upon_enter]
 have hnone:∀q,d.nv=some q→B.v q.1=none:=fun q hq=>hn q.1 (by rw[hq];rfl)
 have hnvi:∀q,d.nv=some q→q.1=vts.length∧q.2.2.length≤100000:=fun q hq=>by
  rw[hq]at hnv;simp only[nvE,decide_eq_true_eq]at hnv;exact⟨hnv.1,hnv.2.2⟩
 refine(hcall hi.bok hi.inj (fun k g h=>(hi.own k g h).2) (fun x g h=> ?_) hnone (fun q hq=> ?_)).mono ?_
 ·obtain⟨_,cs,ty,_,h3,h4⟩:=hi.blk x g h
  exact .mk' h3 h4
 ·exact wk (hpre q hq) hvt hi (fun x hx c hc=>H x (List.mem_append.2 (.inr (List.mem_flatMap.2 ⟨q,hq,hx⟩))) c hc)
 ·rintro e w' ⟨v,B',rfl,hres,hkeep,hus',hnv',hm⟩
  have hBv:∀x g,B.v x=some g→B'.v x=some g:=fun x g h=>by
   rw[hm.v x (fun q hq e=>by subst e;rw[hnone q hq]at h;cases h)];exact h
  have hBn:∀x g,B'.v x=some g→(∃q,d.nv=some q∧x=q.1∧w.heap.size≤g)∨B.v x=some g:=fun x g h=>by
   by_cases e:∃q,d.nv=some q∧x=q.1
   ·obtain⟨q,hq,rfl⟩:=e
    exact .inl ⟨q,hq,rfl,hm.nv q g hq h⟩
   ·rw[hm.v x (fun q hq e'=>e ⟨q,hq,e'⟩)]at h
    exact .inr h
  have r:Reb B B' d.ks w w' (fun g=>(∃k∈d.ks,B.o k g)∨∃q∈d.us,B.v q.1=some g):=by
   refine⟨⟨hBv,hm.o⟩,fun g hg=> ?_,fun g h=>h.imp id (fun⟨q,_,h⟩=>⟨_,h⟩),hi.inj,hm.chg⟩
   rcases hg with⟨x,h⟩ | ⟨k,h⟩
   ·rcases hBn x g h with⟨_,_,_,h⟩ | h
    ·exact .inr h
    ·exact .inl (.inl ⟨x,h⟩)
   ·exact(hm.new k g h).imp (fun h=>.inr ⟨k,h⟩) (fun h=>h.2)
  have husv:∀q∈d.us,vts[q.1]? =some (q.2.1,q.2.2.length)∧q.2.2.length≤100000:=fun q hq=>by
   have:=hus q hq;simp only[usE,Bool.and_eq_true,decide_eq_true_eq]at this;exact this
  have hblk:∀x g,B.v x=some g→(∀q∈d.us,q.1≠x)→w'.heap[g]? =w.heap[g]? :=fun x g h hne=>hm.chg.blk g (hi.bok g (.inl ⟨x,h⟩)) (fun hX=>by
   rcases hX with⟨k,_,h2⟩ | ⟨q,hq,h2⟩
   ·exact hi.inj.vo _ _ _ h h2
   ·exact hne q hq (hi.inj.v _ _ _ h2 h))
  refine hK B' _ w' ⟨r.le,⟨fun x g hg=> ?_,fun k g hg=> ?_,hm.inj,?_,by rw[iW,hi.size],by rw[kX,hi.dfr],fun x g h=>hBv _ _ (hi.pin x g h)⟩,fun q hq=> ?_,fun x c hx hne hh=> ?_,fun u h1 h2=> ?_⟩
  ·rcases hBn x g hg with⟨q,hq,rfl,hge⟩ | hb
   ·obtain⟨g',cs,e1,e2,e3,e4⟩:=hnv' q hq
    rw[hg]at e1;injection e1 with e1;subst e1
    refine⟨.ge hi.below hge,cs,_,?_,e2,e4⟩
    have h2:=e3.len
    rw[hvt,List.getElem?_append_right (by rw[(hnvi q hq).1];exact Nat.le_refl _),(hnvi q hq).1,Nat.sub_self,hq]
    simpa using h2.symm
   ·obtain⟨h1,cs,ty,h2,h3,h4⟩:=hi.blk x g hb
    by_cases hu:∃q∈d.us,q.1=x
    ·obtain⟨q,hq,rfl⟩:=hu
     obtain⟨g',cs',e1,e2,e3,e4⟩:=hus' q hq
     rw[hg]at e1;injection e1 with e1;subst e1
     refine⟨h1,cs',_,?_,e2,e4⟩
     have h5:=(husv q hq).1
     rw[hvt,List.getElem?_append_left (List.getElem?_eq_some_iff.1 h5).1,h5]
     have h6:=e3.len
     simpa using h6.symm
    ·exact⟨h1,cs,ty,h2,by rw[hblk x g hb (fun q hq e=>hu ⟨q,hq,e⟩)];exact h3,h4⟩
  ·rcases hm.new k g hg with h | ⟨hk,h⟩
   ·obtain⟨h2,h3⟩:=hi.own k g h
    refine⟨h2,?_⟩
    by_cases hk:k∈d.ks
    ·exact hm.own k g hk hg
    ·refine h3.blk (hm.chg.blk g h3.1 (fun hX=> ?_)) hm.chg.size
     rcases hX with⟨l,hl,h'⟩ | ⟨q,_,h'⟩
     ·have:=hi.inj.o _ _ _ h' h;subst this;exact hk hl
     ·exact hi.inj.vo _ _ _ h' h
   ·exact⟨.ge hi.below h,hm.own k g hk hg⟩
  ·refine⟨hm.os.trans hi.below.os,hm.tape.trans hi.below.tape,hm.output.trans hi.below.output,Nat.le_trans hi.below.size hm.chg.size,fun g hg hX=>(hm.chg.blk g (Nat.lt_of_lt_of_le hg hi.below.size) (fun h=> ?_)).trans (hi.below.block g hg hX)⟩
   have hmay:w0.may g:=by
    rcases h with⟨l,_,h⟩ | ⟨q,_,h⟩
    ·exact(hi.own l g h).1
    ·exact(hi.blk _ g h).1
   rcases hmay with h | h
   ·omega
   ·exact hX h
  ·
   rcases List.mem_append.1 hq with hq | hq
   ·cases hd:o.dst with
    | none=>rw[hd]at hq;cases hq
    | some t=>
     rw[hd]at hq hdd
     simp only[wrD,List.mem_singleton]at hq
     subst hq
     simp only[okD,Bool.and_eq_true,decide_eq_true_eq]at hdd
     unfold bF
     rw[if_pos hdd.2]
     exact⟨v,nQ (by rw[hi.size];exact hdd.1),hres⟩
   ·rcases List.mem_append.1 hq with hq | hq
    ·obtain⟨h1,h2,q',h3,h4,h5⟩:=o6 hkw hq
     obtain⟨u,h6,h7⟩:=hkeep q' h3
     have hdne:=of_decide_eq_true (List.all_eq_true.1 hkd q hq)
     rw[List.getElem?_map,h4]at h6
     simp only[Option.map_some,Option.some.injEq]at h6
     unfold bF
     rw[if_pos h1,h5]
     refine⟨u,?_,h7⟩
     rw[lF (fun t' ht' e=>hdne (by rw[ht',e])),←h6]
     simp[Act.eval,h2,hi.size]
    ·rcases List.mem_append.1 hq with hq | hq
     ·obtain⟨q',h1,h2⟩:=List.mem_flatMap.1 hq
      obtain⟨j,l,h3,rfl⟩:=ie.1 h2
      have hl:=(List.getElem?_eq_some_iff.1 h3).1
      exact(hus' q' h1).loc (by have:=(husv q' h1).2;omega) (by rw[Nat.zero_add];exact h3)
     ·cases hd:d.nv with
      | none=>rw[hd]at hq;cases hq
      | some q'=>
       rw[hd]at hq
       obtain⟨j,l,h3,rfl⟩:=ie.1 hq
       have hl:=(List.getElem?_eq_some_iff.1 h3).1
       exact(hnv' q' hd).loc (by have:=(hnvi q' hd).2;omega) (by rw[Nat.zero_add];exact h3)
  ·refine hx.reb hh r (fun hxs g h1 hlt cs ty h2 h3 hX=> ?_) (fun hxs=>lF (fun t ht e=> ?_))
   ·rcases hX with⟨k,_,h⟩ | ⟨q,hq,h⟩
    ·exact hi.inj.vo _ _ _ h1 h
    ·have h4:=hi.inj.v _ _ _ h h1
     obtain⟨h5,h6⟩:=husv q hq
     obtain⟨_,cs',ty',f1,f2,_⟩:=hi.blk _ g h1
     rw[h2]at f2;injection f2 with f2;injection f2 with f2 _;subst f2
     rw[←h4,hvt,List.getElem?_append_left (List.getElem?_eq_some_iff.1 h5).1,h5]at f1
     simp only[Option.some.injEq,Prod.mk.injEq]at f1
     have hl:x % 100000<q.2.2.length:=by rw[f1.2];exact h3
     refine hne (kC q.1 (0+x % 100000),.v (.one q.2.2[x % 100000])) ?_ ?_
     ·refine List.mem_append.2 (.inr (List.mem_append.2 (.inr (List.mem_append.2 (.inl (List.mem_flatMap.2 ⟨q,hq,ie.2 ⟨_,_,List.getElem?_eq_getElem hl,rfl⟩⟩))))))
     ·unfold kC
      have h7:=Nat.div_add_mod x 100000
      simp only
      omega
   ·rw[ht]at hne
    exact hne (t,wi d.xs) (by simp[wrD]) e
  ·cases hb:B'.v u with
   | none=>exact absurd hb h2
   | some g=>
    rcases hBn u g hb with⟨q,hq,rfl,_⟩ | h
    ·simp[hq]
    ·rw[h1]at h;cases h
/-- A call that changes objects or variables. -/
theorem xR (hO:∀i∈L,i.Ok p ρ) {k:Call} {z:Operand} {f:FuncId} {xs:List SV} {d:MutD} {vts new rest:List (TypeId×Nat)} {e:Eff} (hop:o.op= .call k) (hcal:k.callee= .value z) (hz:evL lk z=some (.fn f)) (hxs:kD lk k.args.toList=some xs) {pb:MutD→Bool} (hf:o0 L f xs pb=some d)
  (h:tS nt lk vts o.op k.args.toList o.dst d=some (e,new)) (hdd:okD nt o.dst=true) (hvt:vt=vts++(new++rest)) (hi:Inv vt w0 nt B a w) (H:∀x∈e.rd,∀c,lk x=some c→bF ρ B a w x c) (hn:∀v,e.al=some v→B.v v=none)
  {K:Act→World→Prop} (hK:∀B' a' w',Post ρ vt w0 nt e B a w B' a' w'→K a' w'):Oper.wp p o a w K Q:=by
 unfold tS at h
 split at h
 ·rename_i hck
  simp only[Bool.and_eq_true,List.all_eq_true]at hck
  obtain⟨hpre,hus,hnv⟩:=hck
  cases hkw:lE nt k.args.toList d.keep with
  | none=>rw[hkw]at h;cases h
  | some kw=>
   rw[hkw]at h
   simp only at h
   split at h
   ·rename_i hkd
    simp only[Option.some.injEq,Prod.mk.injEq]at h
    obtain⟨rfl,rfl⟩:=h
    exact wl hO hop hcal hz hxs hf hpre hus hnv hkw hkd hdd hvt hi H hn hK
   ·cases h
 ·cases h
end
end Go.Proofs.YtfhinmdhjlmikaaDoor
namespace Go.Proofs.YtfhinmdhjlmikaaDoor
set_option linter.unusedSimpArgs false
set_option linter.unusedVariables false
set_option maxRecDepth 100000
open Go.RowKit
section
variable {p:Program} {ρ:Rho} {B B':Blk} {a a':Act} {w w':World} {w0:Ent} {C:List Inst} {L:List OIns} {lk:Nat→Option AV} {vt:List (TypeId×Nat)} {nt:Nat} {Q:Exit→Act→World→Prop} {o:Oper} {ops:Array Oper}
theorem qk {g k:Nat} {v:Value} {cs:Array Value} {ty:TypeId} (h:w.heap[g]? =some (.cells cs ty (0,0))) (hk:k<cs.size) (hv:gx v):(Go.store ⟨g,k,none⟩ v).run p w= .ok () (w.setCell ⟨g,k,none⟩ v):=by
 have h1:w.cell? ⟨g,k,none⟩=some cs[k]:=by rw[gT h];exact Array.getElem?_eq_getElem hk
 have h2:w.frozen? ⟨g,k,none⟩=false:=frozen_of_row w g k _ _ h
 have h3:=hv.1
 have h4:=hv.2.1
 unfold Go.store
 cases v with
 | agg cs=>exact absurd rfl (h3 cs)
 | tuple vs=>exact absurd rfl (h4 vs)
 | _=>simp[Sem.run,h1,h2]
theorem gB {g o:Nat} {ty:TypeId}:∀(vs:List Value) (i:Nat) (w:World) (cs:Array Value),w.heap[g]? =some (.cells cs ty (0,0))→o+i+vs.length≤cs.size→(∀v∈vs,gx v)→
  ∃w' cs',(storeCells ⟨g,o,none⟩ vs i).run p w= .ok () w'∧Upd w g w'∧w'.heap[g]? =some (.cells cs' ty (0,0))∧cs'.size=cs.size∧
   (∀k v,vs[k]? =some v→cs'[o+i+k]? =some v)∧∀k,(k<o+i∨o+i+vs.length≤k)→cs'[k]? =cs[k]?
 | [],i,w,cs,h,_,_=>⟨w,cs,by simp[storeCells],⟨rfl,rfl,rfl,rfl,fun _ _=>rfl⟩,h,rfl,by simp,fun _ _=>rfl⟩
 | v::vs,i,w,cs,h,hle,hv=>by
  simp only[List.length_cons]at hle
  have h1:=qk (p:=p) (k:=o+i) h (by omega) (hv v (by simp))
  have h2:=heap_setCell_same w g (o+i) _ _ v h
  obtain⟨w',cs',e1,e2,e3,e4,e5,e6⟩:=gB (o:=o) vs (i+1) (w.setCell ⟨g,o+i,none⟩ v) (cs.setIfInBounds (o+i) v) h2 (by simp;omega) (fun u hu=>hv u (List.mem_cons_of_mem _ hu))
  have hlen:=e4
  refine⟨w',cs',?_,(Upd.cell w g (o+i) v).trans e2,e3,by rw[e4];simp,fun k u hu=> ?_,fun k hk=> ?_⟩
  ·unfold storeCells
   rw[Sem.run_bind,fO,h1]
   exact e1
  ·match k with
   | 0=>
    simp at hu;subst hu
    rw[e6 (o+i+0) (by omega)]
    simp[show o+i<cs.size from by omega]
   | k+1=>
    have:=e5 k u (by simpa using hu)
    rwa [show o+(i+1)+k=o+i+(k+1)from by omega]at this
  ·rw[e6 k (by simp only[List.length_cons]at hk;omega)]
   simp only[List.length_cons]at hk
   rw[Array.getElem?_setIfInBounds,if_neg (by omega)]
theorem bF.upd {x g:Nat} {c:AV} (h:bF ρ B a w x c) (o:fq w g) (u:Upd w g w') (hb:∃x,B.v x=some g) (hi:BInj B) (hx:¬x<100000→∀g' cs ty y,B.v (x / 100000 - 1)=some g'→w.heap[g']? =some (.cells cs ty (0,0))→cs[x % 100000]? =some y→∃cs',w'.heap[g']? =some (.cells cs' ty (0,0))∧cs'[x % 100000]? =some y):bF ρ B a w' x c:=by
 unfold bF at h⊢
 split at h
 ·rename_i hx
  rw[if_pos hx]
  obtain⟨v,h1,h2⟩:=h
  exact⟨v,h1,h2.upd o u hb hi⟩
 ·rename_i hn
  rw[if_neg hn]
  obtain⟨g',cs,ty,v,h1,h2,h3,h4⟩:=h
  obtain⟨cs',h5,h6⟩:=hx hn g' cs ty v h1 h2 h3
  exact⟨g',cs',ty,v,h1,h5,h6,h4.upd o u hb hi⟩
theorem tU {t:TypeId} {x y:Operand} {v off n:Nat} {ty:TypeId} {s:SV} (ho:o.op= .store t x y) (hd:o.dst=none) (hx:evL lk x=some (.ptr v off)) (hy:evS lk y=some s) (hvt:vt[v]? =some (ty,n))
  (hs:szB p t=some s.leaves.length) (hf:iU s.leaves=true) (hle:off+s.leaves.length≤n) (hn:n≤100000) (hi:Inv vt w0 nt B a w) (Hx:a7 ρ B a w lk x) (Hy:a7 ρ B a w lk y) {rd:List Nat}
  {K:Act→World→Prop} (hK:∀B' a' w',Post ρ vt w0 nt ⟨rd,dc v off s.leaves,none,[],[]⟩ B a w B' a' w'→K a' w'):Oper.wp p o a w K Q:=by
 obtain⟨g,hg,e1⟩:=(dG Hx hx:Leaf.holds ρ B w (.ptr v off) (a.eval x))
 have e2:=dF Hy hy
 have hc:=e2.cells
 obtain⟨hge,cs,ty',f1,f2,f3⟩:=hi.blk v g hg
 rw[hvt]at f1
 simp only[Option.some.injEq,Prod.mk.injEq]at f1
 obtain⟨rfl,rfl⟩:=f1
 have hlen:=hc.len
 have hflat:∀u∈(a.eval y).cells.toList,gx u:=fun u hu=>by
  obtain⟨k,hk,rfl⟩:=List.getElem_of_mem hu
  obtain⟨z,h1,h2⟩:=hc.get (List.getElem?_eq_getElem (show k<s.leaves.length by omega))
  rw[List.getElem?_eq_getElem hk]at h1
  injection h1 with h1
  rw[h1]
  exact h2.flat (List.all_eq_true.1 hf _ (List.getElem_mem _))
 obtain⟨w',cs',g1,g2,g3,g4,g5,g6⟩:=gB (p:=p) (o:=off) (a.eval y).cells.toList 0 w cs f2 (by omega) hflat
 have ow:fq w g:=.mk' f2 f3
 have hrun:(execOp a.eval o).run p w= .ok .skip w':=by
  unfold execOp;rw[ho]
  simp only[Sem.run_bind,Instr.storeAt,e1,Instr.sureAddr,Sem.run_pure,Result.andThen,storeVar,cg hs]
  rw[if_neg (by simp only[ne_eq,Classical.not_not];simpa using hlen)]
  rw[g1]
 unfold Oper.wp
 rw[hrun,Oper.upon_skip,hd]
 show K a w'
 have hcell:∀g' cs1 ty1,w.heap[g']? =some (.cells cs1 ty1 (0,0))→∃cs2,w'.heap[g']? =some (.cells cs2 ty1 (0,0))∧cs2.size=cs1.size∧(g'≠g→cs2=cs1):=fun g' cs1 ty1 h=>by
  by_cases e:g'=g
  ·subst e
   rw[f2]at h;injection h with h;injection h with h h2;subst h;subst h2
   exact⟨cs',g3,g4,fun h=>absurd rfl h⟩
  ·exact⟨cs1,by rw[g2.block g' e];exact h,rfl,fun _=>rfl⟩
 refine hK B a w' ⟨BLe.refl,⟨fun v' g' hg'=> ?_,fun v' g' hg'=> ?_,hi.inj,hi.below.upd g2 hge,hi.size,hi.dfr,hi.pin⟩,fun q hq=> ?_,fun z c hz hne _=>hz.upd ow g2 ⟨_,hg⟩ hi.inj (fun hz1 g' cs1 ty1 y1 h1 h2 h3=> ?_),fun u h1 h2=>absurd h1 h2⟩
 ·obtain⟨h1,cs1,ty1,h2,h3,h4⟩:=hi.blk v' g' hg'
  obtain⟨cs2,k1,k2,k3⟩:=hcell g' cs1 ty1 h3
  refine⟨h1,cs2,ty1,by rw[k2];exact h2,k1,fun k m hk=> ?_⟩
  by_cases e:g'=g
  ·subst e
   rw[g3]at k1;injection k1 with k1;injection k1 with k1 _;subst k1
   by_cases hin:k<off∨off+(a.eval y).cells.toList.length≤k
   ·rw[g6 k (by simpa using hin)]at hk
    exact f3 k m hk
   ·have hk2:k - off<(a.eval y).cells.toList.length:=by omega
    have:=g5 (k - off) _ (List.getElem?_eq_getElem hk2)
    rw[show off+0+(k - off)=k from by omega,hk]at this
    injection this with this
    exact(hflat _ (List.getElem_mem hk2)).2.2 m this.symm
  ·rw[k3 e]at hk;exact h4 k m hk
 ·obtain⟨h1,h2⟩:=hi.own v' g' hg'
  have hne:g'≠g:=fun e=>by subst e;exact hi.inj.vo _ _ _ hg hg'
  exact⟨h1,h2.blk (g2.block g' hne) (by rw[g2.size];exact Nat.le_refl _)⟩
 ·obtain⟨j,l,h1,rfl⟩:=ie.1 hq
  have hj:=(List.getElem?_eq_some_iff.1 h1).1
  obtain⟨u,h2,h3⟩:=hc.get h1
  rw[gU (by omega)]
  exact⟨g,cs',ty,u,hg,g3,by have:=g5 j u h2;simpa using this,(h3.upd ow g2 ⟨_,hg⟩ hi.inj:Leaf.holds ρ B w' l u)⟩
 ·by_cases e:g'=g
  ·subst e
   rw[f2]at h2;injection h2 with h2;injection h2 with h2 h2';subst h2;subst h2'
   refine⟨cs',g3,?_⟩
   have hv:=hi.inj.v _ _ _ h1 hg
   by_cases hin:z % 100000<off∨off+(a.eval y).cells.toList.length≤z % 100000
   ·rw[g6 _ (by simpa using hin)];exact h3
   ·have hk2:z % 100000 - off<s.leaves.length:=by omega
    refine absurd ?_ (hne (kC v (off+(z % 100000 - off)),.v (.one s.leaves[z % 100000 - off])) (ie.2 ⟨_,_,List.getElem?_eq_getElem hk2,rfl⟩))
    unfold kC
    have:z / 100000=v+1:=by omega
    have h5:=Nat.div_add_mod z 100000
    simp only
    omega
  ·obtain⟨cs2,k1,k2,k3⟩:=hcell g' cs1 ty1 h2
   exact⟨cs2,k1,by rw[k3 e];exact h3⟩
theorem tV (hC:∀i∈C,i.Ok0 p ρ w0) {f:FuncId} {xs:List SV} {r:AV} (h:q8 C f xs=some r):(Inst.mk f xs r).Ok0 p ρ w0:=by
 unfold q8 at h
 split at h
 ·rename_i i hi
  simp at h;subst h
  have h1:=List.find?_some hi
  simp only[Bool.and_eq_true,decide_eq_true_eq]at h1
  have:=hC i (List.mem_of_find?_eq_some hi)
  obtain⟨f',xs',r'⟩:=i
  obtain⟨rfl,rfl⟩:=h1
  exact this
 ·cases h
theorem wm (hC:∀i∈C,i.Ok0 p ρ w0) {k:Call} {z:Operand} {f:FuncId} {xs:List SV} {r:AV} (ho:o.op= .call k) (hk:k.callee= .value z) (hz:evL lk z=some (.fn f)) (hxs:kD lk k.args.toList=some xs) (hr:q8 C f xs=some r)
  (hd:okD nt o.dst=true) (hi:Inv vt w0 nt B a w) (H:∀x∈(Op.call k).operands.toList,a7 ρ B a w lk x) {rd:List Nat}
  {K:Act→World→Prop} (hK:∀B' a' w',Post ρ vt w0 nt ⟨rd,wrD o.dst r,none,[],[]⟩ B a w B' a' w'→K a' w'):Oper.wp p o a w K Q:=by
 obtain⟨cal,args,tt⟩:=k
 simp only at hk hxs
 subst hk
 have e1:a.eval z=fnV f:=dG (H z (by simp[Op.operands,Call.operands])) hz
 have e2:=en hxs (fun x hx=>H x (by simp only[Op.operands,Call.operands,Array.toList_append,List.mem_append];exact .inr hx))
 obtain⟨hen,hcall⟩:=tV hC hr
 have hc:=hcall B w _ hi.below hi.bok e2
 have ea:(args.toList.map a.eval).toArray=args.map a.eval:=by rw[←Array.toList_map,Array.toArray_toList]
 rw[ea]at hc
 unfold Oper.wp
 have:(execOp a.eval o).run p w= .ok (.enter f (args.map a.eval)) w:=by
  simp[execOp,ho,resolve,invoke,Deferred.ofValue,e1,hen,Result.andThen]
 rw[this,Oper.upon_enter]
 refine hc.mono ?_
 rintro e w' ⟨v,rfl,h1,h2⟩
 exact hK B _ w' (eo hi hd h2 h1)
theorem ws (hO:∀i∈L,i.Ok p ρ) {c:AV} {rd:List Nat} (h:mQ p L lk o.op=some (c,rd)) (hd:okD nt o.dst=true) (hi:Inv vt w0 nt B a w) (H:∀x∈gA o.op++rd,∀c,lk x=some c→bF ρ B a w x c)
  {rd':List Nat} {K:Act→World→Prop} (hK:∀B' a' w',Post ρ vt w0 nt ⟨rd',wrD o.dst c,none,[],[]⟩ B a w B' a' w'→K a' w'):Oper.wp p o a w K Q:=by
 obtain⟨u,h1,h2⟩:=sn hO h (fun x hx y hy c hc=>H y (List.mem_append.2 (.inl (by unfold gA;exact List.mem_flatMap.2 ⟨x,hx,hy⟩))) c hc) (fun y hy c hc=>H y (List.mem_append.2 (.inr hy)) c hc)
 unfold Oper.wp
 rw[h1,Oper.upon_value]
 exact hK B _ w (eo hi hd (Below.refl _ _) h2)
theorem q9:∀(l:List (Nat×Operand)),(l.map (·.1)).zip ((l.map (·.2)).map a.eval)=l.map fun q=>(q.1,a.eval q.2)
 | []=>rfl
 | _::l=>congrArg (_:: ·) (q9 l)
theorem ok_bs (hO:∀i∈L,i.Ok p ρ) {t:TypeId} {n:Nat} {parts:Array (Nat×Operand)} {xs:List SV} {r:SV} (ho:o.op= .buildSlice t n parts) (hxs:kD lk (parts.toList.map (·.2))=some xs) (hr:cf L (.bs t n (parts.toList.map (·.1))) xs=some r)
  (hd:okD nt o.dst=true) (hi:Inv vt w0 nt B a w) (H:∀x∈(Op.buildSlice t n parts).operands.toList,a7 ρ B a w lk x) {rd:List Nat}
  {K:Act→World→Prop} (hK:∀B' a' w',Post ρ vt w0 nt ⟨rd,wrD o.dst (.v r),none,[],[]⟩ B a w B' a' w'→K a' w'):Oper.wp p o a w K Q:=by
 have e2:=en hxs (fun x hx=>H x (by simpa [Op.operands]using hx))
 obtain⟨v,w',h1,h2,h3⟩:=(dT hO hr) B w _ e2 hi.bok
 rw[q9]at h2
 have:(execOp a.eval o).run p w= .ok (.value v) w':=by
  unfold execOp
  rw[ho]
  have e3:(parts.map fun x=>match x with | (i,x)=>(i,a.eval x))=(parts.toList.map fun q=>(q.1,a.eval q.2)).toArray:=by
   obtain⟨l⟩:=parts;simp
  simp only[Sem.run_bind]
  rw[e3,h2];rfl
 unfold Oper.wp
 rw[this,Oper.upon_value]
 exact hK B _ w' (eo hi hd h3 h1)
theorem re (hC:∀i∈C,i.Ok0 p ρ w0) (hO:∀i∈L,i.Ok p ρ) {vts new rest:List (TypeId×Nat)} {e:Eff} (h:o3 p C L nt lk vts o=some (e,new)) (hvt:vt=vts++(new++rest)) (hi:Inv vt w0 nt B a w)
  (H:∀x∈e.rd,∀c,lk x=some c→bF ρ B a w x c) (hn:∀v,e.al=some v→B.v v=none) {K:Act→World→Prop} (hK:∀B' a' w',Post ρ vt w0 nt e B a w B' a' w'→K a' w'):Oper.wp p o a w K Q:=by
 unfold o3 at h
 split at h
 ·cases h
 ·rename_i hd
  have hd:okD nt o.dst=true:=by simpa using hd
  have hpv:∀ {h:(match mQ p L lk o.op with | some (c,rd)=>some (Eff.mk (gA o.op++rd) (wrD o.dst c) none [] [],([]:List (TypeId×Nat))) | none=>none)=some (e,new)},Oper.wp p o a w K Q:=by
   intro h
   split at h
   ·rename_i c rd hp
    simp at h;obtain⟨rfl,rfl⟩:=h
    exact ws hO hp hd hi H hK
   ·cases h
  dsimp only at h
  split at h
  ·
   rename_i t ho
   split at h
   ·rename_i d z hdd hz
    split at h
    ·rename_i hc
     simp at h;obtain⟨rfl,rfl⟩:=h
     obtain⟨zv,hz1,hz2⟩:=eO (ρ:=ρ) (B:=B) (w:=w) hz
     have hrun:(execOp a.eval o).run p w= .ok (.value (.pointer (some ⟨w.heap.size,0,none⟩))) (w.alloc (.cells zv.cells t)):=by
      unfold execOp;rw[ho]
      simp only[Instr.alloc,Sem.run_bind,hz1,Result.andThen,newVar,newRow,Go.newObj,Sem.run,Sem.run_pure];rfl
     unfold Oper.wp
     rw[hrun,Oper.upon_value,hdd]
     rw[hdd]at hd
     exact hK _ _ _ (o4 hi hd hc.1 hc.2.1 hz2 (by rw[hvt];simp) (hn _ rfl))
    ·cases h
   ·cases h
  ·
   rename_i t x ho
   split at h
   ·rename_i d s hdd hs
    split at h
    ·rename_i hc
     simp at h;obtain⟨rfl,rfl⟩:=h
     have e2:=dF (fun y hy c hc=>H y hy c hc) hs
     have hrun:(execOp a.eval o).run p w= .ok (.value (.pointer (some ⟨w.heap.size,0,none⟩))) (w.alloc (.cells (a.eval x).cells t)):=by
      unfold execOp;rw[ho]
      simp only[Instr.box,Sem.run_bind,Result.andThen,newVar,newRow,Go.newObj,Sem.run,Sem.run_pure];rfl
     unfold Oper.wp
     rw[hrun,Oper.upon_value,hdd]
     rw[hdd]at hd
     exact hK _ _ _ (o4 hi hd hc.1 hc.2.1 e2.cells (by rw[hvt];simp) (hn _ rfl))
    ·cases h
   ·cases h
  ·
   rename_i t x y ho
   split at h
   ·rename_i v off s hdd hx hy
    split at h
    ·rename_i ty n hv
     split at h
     ·rename_i hc
      simp at h;obtain⟨rfl,rfl⟩:=h
      exact tU ho hdd hx hy (by rw[hvt,List.getElem?_append_left (List.getElem?_eq_some_iff.1 hv).1];exact hv) hc.1 hc.2.1 hc.2.2.1 hc.2.2.2.1 hi (fun z hz c hc=>H z (List.mem_append.2 (.inl hz)) c hc) (fun z hz c hc=>H z (List.mem_append.2 (.inr hz)) c hc) hK
     ·cases h
    ·cases h
   ·cases h
  ·
   rename_i k ho
   split at h
   ·rename_i z hk
    split at h
    ·rename_i f xs hz hxs
     split at h
     ·rename_i r hr
      simp only[Option.some.injEq,Prod.mk.injEq]at h;obtain⟨rfl,rfl⟩:=h
      rw[ho]at H
      exact wm hC ho hk hz hxs hr hd hi (fun x hx y hy c hc=>H y (by unfold gA;exact List.mem_flatMap.2 ⟨x,hx,hy⟩) c hc) hK
     ·split at h
      ·rename_i d hf
       exact xR hO ho hk hz hxs hf h hd hvt hi H hn hK
      ·cases h
    ·cases h
   ·rename_i hk
    split at h
    ·rename_i d x y t t' hdd hargs htt
     split at h
     ·rename_i lx ly hx hy
      split at h
      ·rename_i ett
       subst ett
       split at h
       ·rename_i i m hf
        split at h
        ·rename_i hs
         simp only[Option.some.injEq,Prod.mk.injEq]at h;obtain⟨rfl,rfl⟩:=h
         have HH:∀z∈k.args.toList,a7 ρ B a w lk z:=fun z hz y hy c hc=>H y (by rw[ho];unfold gA;exact List.mem_flatMap.2 ⟨z,by simp only[Op.operands,Call.operands,Array.toList_append,List.mem_append];exact .inr hz,hy⟩) c hc
         exact xQ hO ho hk hdd hargs htt hx hy hf hs (by rw[←hdd];exact hd) hi (HH x (by rw[hargs];simp)) (HH y (by rw[hargs];simp)) hK
        ·cases h
       ·cases h
      ·cases h
     ·cases h
    ·cases h
   ·exact hpv (h:=h)
  ·
   rename_i t n parts ho
   split at h
   ·rename_i d xs hdd hxs
    cases hr:cf L (.bs t n (parts.toList.map (·.1))) xs with
    | none=>rw[hr]at h;cases h
    | some r=>
     rw[hr]at h;simp only[Option.map_some,Option.some.injEq,Prod.mk.injEq]at h;obtain⟨rfl,rfl⟩:=h
     rw[ho]at H
     exact ok_bs hO ho hxs hr hd hi (fun x hx y hy c hc=>H y (by unfold gA;exact List.mem_flatMap.2 ⟨x,hx,hy⟩) c hc) hK
   ·cases h
  ·exact hpv (h:=h)
theorem rf (hC:∀i∈C,i.Ok0 p ρ w0) (hO:∀i∈L,i.Ok p ρ) {vts new rest:List (TypeId×Nat)} {e:Eff} {j:Nat} (hj:ops[j]? =some o) (h:qj p C L nt ops lk vts o=some (e,new)) (hvt:vt=vts++(new++rest)):
  tK p ρ vt w0 nt ops Q j lk e:=by
 intro B a w hi H hn K hK
 unfold qj at h
 unfold wpOp
 rw[hj]
 show if Region.wanted o (yielded ops a.tmps)=true then _ else _
 split at h
 ·rename_i hg
  rw[if_pos (by unfold Region.wanted;rw[hg])]
  exact .inl (re hC hO h hvt hi H hn hK)
 ·rename_i g b hg
  split at h
  ·rename_i t ht
   split at h
   ·rename_i x hx
    have hy:t∈e.rd→yielded ops a.tmps g=some x:=fun hm=>by
     have e1:a.eval (.tmp t)= .bool x:=mU (fun y hy c hc=>by
      simp only[rdO,List.mem_singleton]at hy;subst hy;exact H _ hm c hc) hx
     have e2:(ops[g]?).bind (·.dst)=some t:=by
      unfold bQ at ht
      cases ho:ops[g]? with
      | none=>rw[ho]at ht;cases ht
      | some o=>rw[ho]at ht;exact ht
     have e3:a.tmps[t]? =some (.bool x):=by
      simp only[Act.eval,Array.getD_eq_getD_getElem?]at e1
      cases hq:a.tmps[t]? with
      | none=>rw[hq]at e1;cases e1
      | some u=>rw[hq]at e1;simp at e1;rw[e1]
     unfold yielded
     rw[e2]
     simp only[Option.bind_some,e3]
    split at h
    ·rename_i hxb
     cases he:o3 p C L nt lk vts o with
     | none=>rw[he]at h;cases h
     | some q=>
      rw[he]at h
      obtain⟨e0,new0⟩:=q
      simp at h
      obtain⟨rfl,rfl⟩:=h
      rw[if_pos (by unfold Region.wanted;rw[hg];show(yielded ops a.tmps g==some b)=true;rw[hy (by simp),hxb];simp)]
      exact .inl (re hC hO he hvt hi (fun y hy c hc=>H y (List.mem_cons_of_mem _ hy) c hc) hn (fun B' a' w' hp=>hK B' a' w' ⟨hp.le,hp.inv,hp.wr,hp.keep,hp.new⟩))
    ·rename_i hxb
     split at h
     ·rename_i hd
      simp at h;obtain⟨rfl,rfl⟩:=h
      rw[if_neg (by unfold Region.wanted;rw[hg];show¬(yielded ops a.tmps g==some b)=true;rw[hy (by simp)];simpa using hxb)]
      exact hK B _ w (eo hi hd (Below.refl _ _) rfl)
     ·cases h
   ·rename_i hx
    split at h
    ·rename_i hd
     simp at h;obtain⟨rfl,rfl⟩:=h
     have e1:a.eval (.tmp t)=undef:=mU (fun y hy c hc=>by
      simp only[rdO,List.mem_singleton]at hy;subst hy;exact H _ (by simp) c hc) hx
     have e2:(ops[g]?).bind (·.dst)=some t:=by
      unfold bQ at ht
      cases ho:ops[g]? with
      | none=>rw[ho]at ht;cases ht
      | some o=>rw[ho]at ht;exact ht
     have e4:yielded ops a.tmps g=none:=by
      unfold yielded
      rw[e2]
      simp only[Option.bind_some]
      simp only[Act.eval,Array.getD_eq_getD_getElem?]at e1
      cases hq:a.tmps[t]? with
      | none=>rfl
      | some u=>rw[hq]at e1;simp at e1;rw[e1];rfl
     rw[if_neg (by unfold Region.wanted;rw[hg];show¬(yielded ops a.tmps g==some b)=true;rw[e4];simp)]
     exact hK B _ w (eo hi hd (Below.refl _ _) rfl)
    ·cases h
   ·cases h
  ·cases h
end
end Go.Proofs.YtfhinmdhjlmikaaDoor
namespace Go.Proofs.YtfhinmdhjlmikaaDoor
set_option linter.unusedSimpArgs false
set_option linter.unusedVariables false
set_option maxRecDepth 100000
open Go.RowKit
def ig (o:Oper):List Nat:=(o.after.toList.filter (Region.binds .any)).map (·.on)
def objsO:Option AV→List Nat
 | some c=>c.objs
 | none=>[]
/-- .. with the objects of which the operation's values speak. -/
def Eff.note (e:Eff) (lk:Nat→Option AV):Eff:=⟨e.rd,e.wr,e.al,e.ks,e.ms++(e.rd.flatMap (fun x=>objsO (lk x))++e.wr.flatMap (fun q=>q.2.objs))⟩
theorem Eff.note_wf {e:Eff} {lk:Nat→Option AV}:(e.note lk).Wf lk:=
 ⟨fun x hx c hc k hk=>List.mem_append.2 (.inr (List.mem_append.2 (.inl (List.mem_flatMap.2 ⟨x,hx,by rw[hc];exact hk⟩)))),
  fun q hq k hk=>List.mem_append.2 (.inr (List.mem_append.2 (.inr (List.mem_flatMap.2 ⟨q,hq,hk⟩))))⟩
theorem tK.note {p:Program} {ρ:Rho} {vt:List (TypeId×Nat)} {w0:Ent} {nt j:Nat} {ops:Array Oper} {Q:Exit→Act→World→Prop} {lk lk':Nat→Option AV} {e:Eff} (h:tK p ρ vt w0 nt ops Q j lk e):tK p ρ vt w0 nt ops Q j lk (e.note lk'):=
 fun B a w hi H hn K hK=>h B a w hi H hn K (fun B' a' w' hp=>hK B' a' w' ⟨hp.le,hp.inv,hp.wr,hp.keep,hp.new⟩)
def kh (p:Program) (C:List Inst) (L:List OIns) (nt:Nat) (ops:Array Oper) (b:Nat→Option AV):List Oper→Nat→List Nat→List (TypeId×Nat)→dE→Option (dE×List (TypeId×Nat))
 | [],_,_,vts,effs=>some (effs,vts)
 | o::r,j,ancs,vts,effs=>
  if (ig o).all (fun k=>decide (k<j))then
   match qj p C L nt ops (lkE b effs) vts o with
   | some (e,new)=>if qZ ((ig o).foldl (fun m k=>m ||| (ancs.getD k 0 ||| 1 <<< k)) 0) effs (e.note (lkE b effs))then
     kh p C L nt ops b r (j+1) (ancs++ [(ig o).foldl (fun m k=>m ||| (ancs.getD k 0 ||| 1 <<< k)) 0]) (vts++new) ((j,e.note (lkE b effs))::effs)else none
   | none=>none
  else none
/-- What is known of slots and variables. -/
structure MS where
 slots:List (Option AV)
 vars:List (TypeId×List (Option Leaf))
def bo (s:MS) (x:Nat):Option AV:=
 if x<100000 then(match s.slots[x]? with | some c=>c | none=>none)else
 match s.vars[x / 100000 - 1]? with
 | some v=>(match v.2[x % 100000]? with | some (some l)=>some (.v (.one l)) | _=>none)
 | none=>none
def tW:AV→Option Leaf
 | .v (.one l)=>some l
 | _=>none
def lG:List (TypeId×List (Option Leaf))→Nat→Nat→Option Leaf→List (TypeId×List (Option Leaf))
 | [],_,_,_=>[]
 | v::r,0,k,l=>(v.1,v.2.set k l)::r
 | v::r,i+1,k,l=>v::lG r i k l
def mV (s:MS) (q:Nat×AV):MS:=
 if q.1<100000 then {s with slots:=s.slots.set q.1 (some q.2)}else {s with vars:=lG s.vars (q.1 / 100000 - 1) (q.1 % 100000) (tW q.2)}
def ql (s:MS):List (Nat×AV)→MS
 | []=>s
 | q::r=>mV (ql s r) q
def rg (ks:List Nat):Option Leaf→Option Leaf
 | some l=>if l.objs.any ks.contains then none else some l
 | none=>none
/-- What is known without the objects ks. -/
def lH (ks:List Nat) (s:MS):MS:=⟨s.slots.map (fil ks),s.vars.map fun v=>(v.1,v.2.map (rg ks))⟩
def o7 (ks:List Nat) (s:MS):MS:=match ks with
 | []=>s
 | k::ks=>lH (k::ks) s
def fe (s:MS):dE→MS
 | []=>s
 | (_,e)::r=>ql (o7 e.ks (fe s r)) e.wr
def dl (s:MS):List (TypeId×Nat):=s.vars.map fun x=>(x.1,x.2.length)
def iX (s:MS) (new:List (TypeId×Nat)):MS:= {s with vars:=s.vars++new.map fun x=>(x.1,List.replicate x.2 none)}
def xS (p:Program) (C:List Inst) (L:List OIns) (nt:Nat) (ops:Array Oper) (s:MS):Option MS:=
 match kh p C L nt ops (bo s) ops.toList 0 [] (dl s) []with
 | some (effs,vts)=>some (fe (iX s (vts.drop s.vars.length)) effs)
 | none=>none
section
variable {p:Program} {ρ:Rho} {B:Blk} {a:Act} {w:World} {w0:Ent} {C:List Inst} {L:List OIns} {nt:Nat} {Q:Exit→Act→World→Prop} {o:Oper} {ops:Array Oper} {b:Nat→Option AV}
theorem jH:∀ {l:List Oper} {j:Nat} {ancs:List Nat} {vts vts':List (TypeId×Nat)} {effs effs':dE},kh p C L nt ops b l j ancs vts effs=some (effs',vts')→∃rest,vts'=vts++rest
 | [],_,_,vts,vts',_,_,h=>by simp[kh]at h;exact⟨[],by rw[h.2];simp⟩
 | o::r,j,ancs,vts,vts',effs,effs',h=>by
  simp only[kh]at h
  split at h
  ·split at h
   ·rename_i e new _
    split at h
    ·obtain⟨rest,hr⟩:=jH h
     exact⟨new++rest,by rw[hr,List.append_assoc]⟩
    ·cases h
   ·cases h
  ·cases h
theorem wt {lk:Nat→Option AV} {vts new:List (TypeId×Nat)} {op:Op} {args:List Operand} {dst:Option Tmp} {d:MutD} {e:Eff} (h:tS nt lk vts op args dst d=some (e,new)):∀v,e.al=some v→v=vts.length∧new.length=1∧vts.length<OW:=by
 unfold tS at h
 split at h
 ·rename_i hc
  split at h
  ·split at h
   ·simp only[Option.some.injEq,Prod.mk.injEq]at h
    obtain⟨rfl,rfl⟩:=h
    intro v hv
    simp only[Bool.and_eq_true]at hc
    have hn:=hc.2.2
    cases hd:d.nv with
    | none=>simp[hd]at hv
    | some q=>
     simp only[hd,Option.map_some,Option.some.injEq]at hv
     rw[hd]at hn
     simp only[nvE,decide_eq_true_eq]at hn
     exact⟨by omega,by simp,hn.2.1⟩
   ·cases h
  ·cases h
 ·cases h
theorem rh {lk:Nat→Option AV} {vts new:List (TypeId×Nat)} {e:Eff} (h:o3 p C L nt lk vts o=some (e,new)):∀v,e.al=some v→v=vts.length∧new.length=1∧vts.length<OW:=by
 unfold o3 at h
 split at h
 ·cases h
 ·dsimp only at h
  have hpv:∀ {h:(match mQ p L lk o.op with | some (c,rd)=>some (Eff.mk (gA o.op++rd) (wrD o.dst c) none [] [],([]:List (TypeId×Nat))) | none=>none)=some (e,new)},∀v,e.al=some v→v=vts.length∧new.length=1∧vts.length<OW:=by
   intro h
   split at h
   ·simp at h;obtain⟨rfl,rfl⟩:=h
    intro v hv;cases hv
   ·cases h
  split at h
  ·split at h
   ·split at h
    ·rename_i hc
     simp at h;obtain⟨rfl,rfl⟩:=h
     intro v hv;injection hv with hv;exact⟨hv.symm,rfl,hc.2.2⟩
    ·cases h
   ·cases h
  ·split at h
   ·split at h
    ·rename_i hc
     simp at h;obtain⟨rfl,rfl⟩:=h
     intro v hv;injection hv with hv;exact⟨hv.symm,rfl,hc.2.2⟩
    ·cases h
   ·cases h
  ·split at h
   ·split at h
    ·split at h
     ·simp at h;obtain⟨rfl,rfl⟩:=h
      intro v hv;cases hv
     ·cases h
    ·cases h
   ·cases h
  ·split at h
   ·split at h
    ·split at h
     ·simp only[Option.some.injEq,Prod.mk.injEq]at h;obtain⟨rfl,rfl⟩:=h;intro v hv;cases hv
     ·split at h
      ·exact wt h
      ·cases h
    ·cases h
   ·split at h
    ·split at h
     ·split at h
      ·split at h
       ·split at h
        ·simp only[Option.some.injEq,Prod.mk.injEq]at h;obtain⟨rfl,rfl⟩:=h;intro v hv;cases hv
        ·cases h
       ·cases h
      ·cases h
     ·cases h
    ·cases h
   ·exact hpv (h:=h)
  ·rename_i t n parts ho
   split at h
   ·rename_i d xs hdd hxs
    cases hr:cf L (.bs t n (parts.toList.map (·.1))) xs with
    | none=>rw[hr]at h;cases h
    | some r=>rw[hr]at h;simp only[Option.map_some,Option.some.injEq,Prod.mk.injEq]at h;obtain⟨rfl,rfl⟩:=h;intro v hv;cases hv
   ·cases h
  ·exact hpv (h:=h)
theorem ri {lk:Nat→Option AV} {vts new:List (TypeId×Nat)} {e:Eff} (h:qj p C L nt ops lk vts o=some (e,new)):∀v,e.al=some v→v=vts.length∧new.length=1∧vts.length<OW:=by
 unfold qj at h
 split at h
 ·exact rh h
 ·split at h
  ·split at h
   ·split at h
    ·cases he:o3 p C L nt lk vts o with
     | none=>rw[he]at h;cases h
     | some q=>
      rw[he]at h
      obtain⟨e0,new0⟩:=q
      simp at h
      obtain⟨rfl,rfl⟩:=h
      intro v hv
      exact rh he v hv
    ·split at h
     ·simp at h;obtain⟨rfl,rfl⟩:=h;intro v hv;cases hv
     ·cases h
   ·split at h
    ·simp at h;obtain⟨rfl,rfl⟩:=h;intro v hv;cases hv
    ·cases h
   ·cases h
  ·cases h
theorem lI {f:Nat→Nat}:∀ {l:List Nat} {m0 i:Nat},(l.foldl (fun m k=>m ||| (f k ||| 1 <<< k)) m0).testBit i=true→m0.testBit i=true∨∃k∈l,(f k).testBit i=true∨i=k
 | [],_,_,h=>.inl h
 | k::l,m0,i,h=>by
  rcases lI (l:=l) h with h | ⟨k',h1,h2⟩
  ·simp only[Nat.testBit_or,Bool.or_eq_true]at h
   rcases h with h | h | h
   ·exact .inl h
   ·exact .inr ⟨k,by simp,.inl h⟩
   ·rw[Nat.one_shiftLeft,Nat.testBit_two_pow]at h
    have h':k=i:=by simpa using h
    exact .inr ⟨k,by simp,.inr h'.symm⟩
  ·exact .inr ⟨k',List.mem_cons_of_mem _ h1,h2⟩
theorem lJ {j:Nat} (h:ops[j]? =some o):bR .any ops j=ig o:=by unfold bR ig;rw[h]
theorem lK (hC:∀i∈C,i.Ok0 p ρ w0) (hO:∀i∈L,i.Ok p ρ) {nb:Nat}:∀ {l:List Oper} {j:Nat} {ancs:List Nat} {vts vts':List (TypeId×Nat)} {effs effs':dE},kh p C L nt ops b l j ancs vts effs=some (effs',vts')→
  l=ops.toList.drop j→j≤ops.size→effs.length=j→ancs.length=j→(∀k,k<j→q6 .any ops (ancs.getD k 0) k)→(∀k,k<j→∀i∈bR .any ops k,i<k)→nb≤vts.length→(∀q∈effs,∀v,q.2.al=some v→v<vts.length)→
  lw p ρ vts' w0 nt .any ops Q b nb effs→lw p ρ vts' w0 nt .any ops Q b nb effs'∧effs'.length=ops.size∧(∀k,k<ops.size→∀i∈bR .any ops k,i<k)∧(∀q∈effs',∀v,q.2.al=some v→v<vts'.length)
 | [],j,ancs,vts,vts',effs,effs',h,hl,hj,he,_,_,hd,_,hal,hg=>by
  simp[kh]at h
  obtain⟨rfl,rfl⟩:=h
  have:ops.size≤j:=by
   have:=congrArg List.length hl
   simp at this;omega
  have hje:j=ops.size:=by omega
  exact⟨hg,by rw[he,hje],by rw[←hje];exact hd,hal⟩
 | o::r,j,ancs,vts,vts',effs,effs',h,hl,hj,he,hna,ha,hd,hnb,hal,hg=>by
  have hjl:j<ops.size:=by
   have:=congrArg List.length hl
   simp at this;omega
  have hoj:ops[j]? =some o:=by
   have:=congrArg (fun x=>x[0]?) hl
   simp only[List.getElem?_cons_zero,List.getElem?_drop,Nat.add_zero,Array.getElem?_toList]at this
   exact this.symm
  have hr:r=ops.toList.drop (j+1):=by
   have:=congrArg List.tail hl
   simpa using this
  simp only[kh]at h
  split at h
  ·rename_i hpr
   have hpr':∀k∈ig o,k<j:=fun k hk=>by simpa using List.all_eq_true.1 hpr k hk
   split at h
   ·rename_i e new heff
    split at h
    ·rename_i hok
     obtain⟨rest,hrest⟩:=jH h
     have halv:=ri heff
     have hanc:q6 .any ops ((ig o).foldl (fun m k=>m ||| (ancs.getD k 0 ||| 1 <<< k)) 0) j:=by
      intro i hi T hT hp
      rcases lI (f:=fun k=>ancs.getD k 0) hi with h | ⟨k,h1,h2 | h2⟩
      ·simp at h
      ·have hkT:=hp k (by rw[lJ hoj];exact h1)
       exact ha k (hpr' k h1) i h2 T hT (fun i' hi'=>hT k hkT i' hi')
      ·rw[h2];exact hp k (by rw[lJ hoj];exact h1)
     refine lK hC hO h hr (by omega) (by simp[he]) (by simp[hna]) (fun k hk=> ?_) (fun k hk i hi=> ?_) (by simp;omega) (fun q hq v hv=> ?_) ⟨he.symm,?_,⟨_,hanc,hok⟩,Eff.note_wf,fun v hv=> ?_,hg⟩
     ·by_cases hkj:k<j
      ·have:=ha k hkj
       rwa [List.getD_eq_getElem?_getD,List.getElem?_append_left (by omega),←List.getD_eq_getElem?_getD]
      ·obtain rfl:k=j:=by omega
       rw[List.getD_eq_getElem?_getD,List.getElem?_append_right (by omega)]
       simpa [hna]using hanc
     ·by_cases hkj:k<j
      ·exact hd k hkj i hi
      ·obtain rfl:k=j:=by omega
       rw[lJ hoj]at hi;exact hpr' i hi
     ·rcases List.mem_cons.1 hq with rfl | hq
      ·have:=halv v hv
       simp;omega
      ·have:=hal q hq v hv
       simp;omega
     ·exact(rf hC hO hoj heff (by rw[hrest,List.append_assoc])).note
     ·have:=halv v hv
      exact⟨⟨by omega,by omega⟩,fun q hq hqv=>by have:=hal q hq v hqv;omega⟩
    ·cases h
   ·cases h
  ·cases h
/-- What is known holds. -/
def MSt (ρ:Rho) (w0:Ent) (nt:Nat) (s:MS) (a:Act) (w:World):Prop:=
 ∃B,Inv (dl s) w0 nt B a w∧(∀x c,bo s x=some c→bF ρ B a w x c)∧∀v,B.v v≠none→v<s.vars.length
theorem o8:∀ {vs:List (TypeId×List (Option Leaf))} {i k:Nat} {l:Option Leaf} {i':Nat},(lG vs i k l)[i']? =if i'=i then(vs[i]?).map (fun v=>(v.1,v.2.set k l))else vs[i']?
 | [],i,k,l,i'=>by simp[lG]
 | v::r,0,k,l,0=>by simp[lG]
 | v::r,0,k,l,i'+1=>by simp[lG]
 | v::r,i+1,k,l,0=>by simp[lG]
 | v::r,i+1,k,l,i'+1=>by
  simp only[lG,List.getElem?_cons_succ,o8 (vs:=r),Nat.add_right_cancel_iff]
theorem o9:∀ {vs:List (TypeId×List (Option Leaf))} {i k:Nat} {l:Option Leaf},(lG vs i k l).map (fun x=>(x.1,x.2.length))=vs.map (fun x=>(x.1,x.2.length))
 | [],_,_,_=>rfl
 | v::r,0,k,l=>by simp[lG]
 | v::r,i+1,k,l=>by simp[lG,o9 (vs:=r)]
theorem sp {s:MS} {q:Nat×AV} {x:Nat} {c:AV} (h:bo (mV s q) x=some c):(x=q.1∧c=q.2)∨(x≠q.1∧bo s x=some c):=by
 unfold mV at h
 split at h
 ·rename_i hq
  unfold bo at h⊢
  simp only at h⊢
  split at h
  ·rename_i hx
   rw[if_pos hx]
   by_cases e:x=q.1
   ·subst e
    rw[List.getElem?_set_self']at h
    cases hs:s.slots[q.1]? with
    | none=>rw[hs]at h;simp at h
    | some y=>rw[hs]at h;simp at h;exact .inl ⟨rfl,h.symm⟩
   ·rw[List.getElem?_set_ne (fun h=>e h.symm)]at h
    exact .inr ⟨e,h⟩
  ·rename_i hx
   rw[if_neg hx]
   exact .inr ⟨fun e=>hx (by rw[e];exact hq),h⟩
 ·rename_i hq
  unfold bo at h⊢
  simp only at h⊢
  split at h
  ·rename_i hx
   rw[if_pos hx]
   exact .inr ⟨fun e=>hq (by rw[←e];exact hx),h⟩
  ·rename_i hx
   rw[if_neg hx]
   rw[o8]at h
   by_cases e:x / 100000 - 1=q.1 / 100000 - 1
   ·rw[if_pos e]at h
    cases hv:s.vars[q.1 / 100000 - 1]? with
    | none=>rw[hv]at h;simp at h
    | some v=>
     rw[hv]at h
     simp only[Option.map_some]at h
     by_cases e2:x % 100000=q.1 % 100000
     ·have hxq:x=q.1:=by
       have h1:=Nat.div_add_mod x 100000
       have h2:=Nat.div_add_mod q.1 100000
       omega
      rw[e2]at h
      cases hs:v.2[q.1 % 100000]? with
      | none=>rw[List.getElem?_set_self',hs]at h;simp at h
      | some y=>
       rw[List.getElem?_set_self (List.getElem?_eq_some_iff.1 hs).1]at h
       cases hl:tW q.2 with
       | none=>rw[hl]at h;simp at h
       | some l=>
        rw[hl]at h;simp at h
        refine .inl ⟨hxq,?_⟩
        unfold tW at hl
        split at hl
        ·rename_i l' hq2
         injection hl with hl;subst hl
         rw[hq2];exact h.symm
        ·cases hl
     ·rw[List.getElem?_set_ne (fun h=>e2 h.symm)]at h
      refine .inr ⟨fun e'=>e2 (by rw[e']),?_⟩
      rw[e,hv];exact h
   ·rw[if_neg e]at h
    exact .inr ⟨fun e'=>e (by rw[e']),h⟩
theorem pa {s:MS} {x:Nat} {c:AV}:∀ {l:List (Nat×AV)},bo (ql s l) x=some c→(match l.find? (fun q=>q.1==x)with | some q=>some q.2 | none=>bo s x)=some c
 | [],h=>h
 | q::l,h=>by
  rcases sp (s:=ql s l) h with⟨e1,e2⟩ | ⟨h1,h2⟩
  ·rw[List.find?_cons_of_pos (by simpa using e1.symm),e2]
  ·rw[List.find?_cons_of_neg (by simpa using fun e=>h1 e.symm)]
   exact pa h2
theorem mW {ks:List Nat} {s:MS} {x:Nat} {c:AV} (h:bo (lH ks s) x=some c):fil ks (bo s x)=some c:=by
 unfold bo lH at h
 unfold bo
 simp only at h
 split at h
 ·rename_i hx
  rw[if_pos hx]
  rw[List.getElem?_map]at h
  cases e:s.slots[x]? with
  | none=>rw[e]at h;simp at h
  | some d=>rw[e]at h;simpa using h
 ·rename_i hx
  rw[if_neg hx]
  rw[List.getElem?_map]at h
  cases e:s.vars[x / 100000 - 1]? with
  | none=>rw[e]at h;simp at h
  | some d=>
   rw[e]at h
   simp only[Option.map_some,List.getElem?_map]at h
   cases e2:d.2[x % 100000]? with
   | none=>rw[e2]at h;simp at h
   | some l=>
    rw[e2]at h
    simp only[Option.map_some]at h
    cases l with
    | none=>simp[rg]at h
    | some l=>
     simp only[rg]at h
     split at h
     ·rename_i l' hl
      split at hl
      ·cases hl
      ·rename_i hn
       injection hl with hl
       injection hl with hl
       subst hl
       injection h with h
       subst h
       simp only[e2]
       exact gz rfl (by simpa [AV.hit,AV.objs,SV.objs]using hn)
     ·cases h
theorem sq {ks:List Nat} {s:MS} {x:Nat} {c:AV} (h:bo (o7 ks s) x=some c):fil ks (bo s x)=some c:=by
 cases ks with
 | nil=>exact gz h (by simp[AV.hit])
 | cons k ks=>exact mW h
theorem tX {ks:List Nat} {s:MS}:dl (lH ks s)=dl s:=by
 unfold dl lH
 simp[List.map_map,Function.comp_def]
theorem tY {ks:List Nat} {s:MS}:dl (o7 ks s)=dl s:=by
 cases ks with
 | nil=>rfl
 | cons k ks=>exact tX
theorem ii {s:MS} {x:Nat} {c:AV}:∀ {r:dE},bo (fe s r) x=some c→lkE (bo s) r x=some c
 | [],h=>h
 | (_,e)::r,h=>by
  have h1:=pa (s:=o7 e.ks (fe s r)) h
  simp only[lkE]
  split at h1
  ·rename_i q hq;rw[hq];exact h1
  ·rename_i hq
   rw[hq]
   obtain⟨h2,h3⟩:=dS (sq h1)
   exact gz (ii h2) h3
theorem lL {b b':Nat→Option AV} (h:∀x c,b x=some c→b' x=some c):∀ {r:dE} {x:Nat} {c:AV},lkE b r x=some c→lkE b' r x=some c
 | [],x,c,e=>h x c e
 | (_,e)::r,x,c,he=>by
  simp only[lkE]at he⊢
  split at he
  ·exact he
  ·obtain⟨h1,h2⟩:=dS he
   exact gz (lL h h1) h2
theorem mX {s:MS} {new:List (TypeId×Nat)} {x:Nat} {c:AV} (h:bo (iX s new) x=some c):bo s x=some c:=by
 unfold bo iX at *
 simp only at *
 split at h
 ·rename_i hx;rw[if_pos hx];exact h
 ·rename_i hx
  rw[if_neg hx]
  by_cases hv:x / 100000 - 1<s.vars.length
  ·rw[List.getElem?_append_left hv]at h;exact h
  ·rw[List.getElem?_append_right (by omega)]at h
   exfalso
   split at h
   ·rename_i v hv2
    rw[List.getElem?_map]at hv2
    cases hn:new[x / 100000 - 1 - s.vars.length]? with
    | none=>rw[hn]at hv2;cases hv2
    | some y=>
     rw[hn]at hv2;simp at hv2;subst hv2
     split at h
     ·rename_i l hl
      simp only[List.getElem?_replicate]at hl
      split at hl<;>cases hl
     ·cases h
   ·cases h
theorem tZ {s:MS} {q:Nat×AV}:dl (mV s q)=dl s:=by
 unfold mV
 split
 ·rfl
 ·exact o9
theorem rj {s:MS}:∀ {l:List (Nat×AV)},dl (ql s l)=dl s
 | []=>rfl
 | q::l=>by show dl (mV (ql s l) q)=_;rw[tZ,rj]
theorem ft {s:MS}:∀ {r:dE},dl (fe s r)=dl s
 | []=>rfl
 | (_,e)::r=>by show dl (ql (o7 e.ks (fe s r)) e.wr)=_;rw[rj,tY,ft]
theorem dU {s:MS}:(dl s).length=s.vars.length:=by simp[dl]
theorem iY {s:MS} {new:List (TypeId×Nat)}:dl (iX s new)=dl s++new:=by
 have:∀l:List (TypeId×Nat),(l.map fun x=>(x.1,List.replicate x.2 (none:Option Leaf))).map (fun x=>(x.1,x.2.length))=l:=fun l=>by
  induction l with
  | nil=>rfl
  | cons x l ih=>simp only[List.map_cons,ih,List.length_replicate]
 simp only[dl,iX,List.map_append,this]
theorem Inv.ext {vt:List (TypeId×Nat)} (h:Inv vt w0 nt B a w) (new:List (TypeId×Nat)):Inv (vt++new) w0 nt B a w:=
 ⟨fun v g hv=>by
  obtain⟨h1,cs,ty,h2,h3⟩:=h.blk v g hv
  exact⟨h1,cs,ty,by rw[List.getElem?_append_left (List.getElem?_eq_some_iff.1 h2).1];exact h2,h3⟩,h.own,h.inj,h.below,h.size,h.dfr,h.pin⟩
theorem qm (hC:∀i∈C,i.Ok0 p ρ w0) (hO:∀i∈L,i.Ok p ρ) (hm:p.follows .mixedOrders=true) {s s':MS} {id:Nat} {draw:Bool} (h:xS p C L nt ops s=some s') (hs:MSt ρ w0 nt s a w)
  (hQ:∀a' w',MSt ρ w0 nt s' a' w'→Q .normal a' w'):(Code.region id ops draw).wp p Q a w:=by
 unfold xS at h
 split at h
 ·rename_i effs vts he
  simp at h;subst h
  obtain⟨rest,hrest⟩:=jH he
  obtain⟨hg,hlen,hdown,hal⟩:=lK (ρ:=ρ) (w0:=w0) (Q:=Q) (nb:=s.vars.length) hC hO he (by simp) (by omega) rfl rfl (fun k hk=>by omega) (fun k hk=>by omega) (by rw[dU];omega) (fun q hq=>by cases hq) trivial
  obtain⟨B,hi,hv,hB⟩:=hs
  have hnew:vts.drop s.vars.length=rest:=by rw[hrest,←dU,List.drop_left]
  have start:∀w1,Below w.heap.size w w1→StT ρ vts w0 nt (bo s) s.vars.length effs [] a w1:=fun w1 hb=>by
   refine StT.start (B:=B) ?_ (fun x c hx=>(hv x c hx).below BLe.refl .refl hb (fun _=>rfl)) hB
   rw[hrest]
   exact(hi.below' hb rfl rfl).ext rest
  have fin:∀a' w',StF ρ vts w0 nt (lkE (bo s) effs) s.vars.length effs a' w'→Q .normal a' w':=fun a' w' ⟨B',h1,h2,h3⟩=>by
   refine hQ a' w' ⟨B',?_,fun x c hx=>h2 x c (lL (fun x c h=>mX h) (ii hx)),fun v hv=> ?_⟩
   ·rw[ft,hnew,iY,←hrest];exact h1
   ·have hl:(fe (iX s (vts.drop s.vars.length)) effs).vars.length=vts.length:=by rw[←dU,ft,hnew,iY,←hrest]
    rw[hl]
    rcases h3 v hv with h | ⟨q,hq,hqv⟩
    ·have:s.vars.length≤vts.length:=by rw[hrest,List.length_append,dU];omega
     omega
    ·exact hal q hq v hqv
  cases draw with
  | true=>exact wp_region_any hm (sc hg hlen hdown (start _ (aJ (Below.refl _ _) 1)) fin)
  | false=>exact wp_region (p9 hg hlen hdown (start _ (Below.refl _ _)) fin)
 ·cases h
end
end Go.Proofs.YtfhinmdhjlmikaaDoor
