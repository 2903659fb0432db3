/- Regions that draw their order: a table of what each operation makes; one small proof for each operation. Short forms for tables: what has been found, what is put. The operations of regions that draw their order, one proof a kind: package natural, rows of digits, variables, constants. awake: the chapter's examples. Argument variables of the statements; sizes. The reference's digit and Trim. The reference's digit as an operation of a region that draws its order. The reference's Cmp. The reference's Add. The reference's Sub. The reference's Mul. The reference's operations in regions that draw their order. The reference's Bits, Of, bit. More operations of regions that draw their order. -/
import Derived.Test.YtfhinmdhjlmikaaGreatP03
namespace Go.Proofs.YtfhinmdhjlmikaaGreat
set_option linter.unusedSimpArgs false
set_option linter.unusedVariables false
set_option maxRecDepth 100000
open Go.RowKit
/-- A property of a value that what is only added to the world does not change. -/
structure Sp where
 p:World→Value→Prop
 st:∀w w' v,p w v→Below w.heap.size w w'→p w' v
def Sp.val (u:Value):Sp:=⟨fun _ v=>v=u,fun _ _ _ h _=>h⟩
def Sp.any:Sp:=⟨fun _ _=>True,fun _ _ _ _ _=>trivial⟩
def Sp.nat (N:Nat):Sp:=⟨fun w v=>IsN w v N,fun _ _ _ h hb=>IsN.mono h hb⟩
def Sp.new (base N:Nat):Sp:=⟨fun w v=>bj base w v N,fun _ _ _ h hb=>bj.mono h hb⟩
def Sp.row (L N:Nat):Sp:=⟨fun w v=>∃g,v= .slice (some ⟨g,0,none⟩) L L∧bw w g L N,fun _ _ _ h hb=>by obtain⟨g,rfl,h⟩:=h;exact⟨g,rfl,h.mono hb h.lt⟩⟩
/-- Slot t holds a value with the property s. -/
def Has (a:Act) (w:World) (t:Tmp) (s:Sp):Prop:=∃v,a.tmps[t]? =some v∧s.p w v
def Is (a:Act) (w:World) (x:Operand) (s:Sp):Prop:=s.p w (a.eval x)
theorem Has.is {a:Act} {w:World} {t:Tmp} {s:Sp} (h:Has a w t s):Is a w (.tmp t) s:=by
 obtain⟨v,h1,h2⟩:=h
 unfold Is Act.eval
 simp only[Array.getD_eq_getD_getElem?,h1,Option.getD_some]
 exact h2
theorem Is.const {a:Act} {w:World} {v:Value}:Is a w (.const v) (.val v):=rfl
theorem Has.mono {a:Act} {w w':World} {t:Tmp} {s:Sp} (h:Has a w t s) (hb:Below w.heap.size w w'):Has a w' t s:=by
 obtain⟨v,h1,h2⟩:=h;exact⟨v,h1,s.st _ _ _ h2 hb⟩
section
variable {P:Program} {ops:Array Oper} {Q:Exit→Act→World→Prop} {md:Region.Mode}
/-- The operation makes a value with the property s, and only adds to the world. -/
def Arm (P:Program) (Q:Exit→Act→World→Prop) (o:Oper) (a:Act) (w:World) (s:Sp):Prop:=
 ∀K:Act→World→Prop,(∀v w',s.p w' v→Below w.heap.size w w'→K (a.put o.dst v) w')→Oper.wp P o a w K Q
def aT (D:List (Nat×Tmp×Sp)):List (Nat×Tmp):=D.map fun x=>(x.1,x.2.1)
theorem jE {D:List (Nat×Tmp)} {f:Nat→Value} {a:Act} (t:Tmp) (h:t∉D.map (·.2)):(dh D f a).tmps[t]? =a.tmps[t]? :=by
 induction D generalizing a with
 | nil=>rfl
 | cons p D ih=>
  rw[List.map_cons,List.mem_cons]at h
  have h1:p.2≠t:=fun e=>h (.inl e.symm)
  show(dh D f (a.put (some p.2) (f p.1))).tmps[t]? =_
  rw[ih (fun e=>h (.inr e))]
  simp[Act.put,Array.getElem?_setIfInBounds,h1]
theorem yz {D:List (Nat×Tmp)} {f:Nat→Value} {a:Act}:(dh D f a).tmps.size=a.tmps.size:=by
 induction D generalizing a with
 | nil=>rfl
 | cons p D ih=>show(dh D f (a.put (some p.2) (f p.1))).tmps.size=_;rw[ih];simp[Act.put]
theorem sF {D:List (Nat×Tmp)} {f:Nat→Value} {a:Act}:(dh D f a).defers=a.defers:=by
 induction D generalizing a with
 | nil=>rfl
 | cons p D ih=>show(dh D f (a.put (some p.2) (f p.1))).defers=_;rw[ih];rfl
theorem qR {D:List (Nat×Tmp)} {f:Nat→Value} {a:Act} (hn:(D.map (·.2)).Nodup) {i:Nat} {t:Tmp} (hm:(i,t)∈D) (ht:t<a.tmps.size):(dh D f a).tmps[t]? =some (f i):=by
 induction D generalizing a with
 | nil=>cases hm
 | cons p D ih=>
  rw[List.map_cons,List.nodup_cons]at hn
  show(dh D f (a.put (some p.2) (f p.1))).tmps[t]? =_
  rcases List.mem_cons.1 hm with rfl | hm'
  ·rw[jE t hn.1]
   simp[Act.put,ht]
  ·exact ih hn.2 hm' (by simpa [Act.put]using ht)
theorem cL {D:List (Nat×Tmp×Sp)} {i:Nat} {t:Tmp} {s:Sp} (h:(i,t,s)∈D):(i,t)∈aT D:=List.mem_map.2 ⟨_,h,rfl⟩
theorem keyed {D:List (Nat×Tmp×Sp)} (hp:(D.map (·.1)).Nodup):∀y∈D,∀z∈D,y.1=z.1→y=z:=by
 induction D with
 | nil=>intro y hy;cases hy
 | cons d D ih=>
  rw[List.map_cons,List.nodup_cons]at hp
  intro y hy z hz hyz
  rcases List.mem_cons.1 hy with rfl | hy'<;>rcases List.mem_cons.1 hz with rfl | hz'
  ·rfl
  ·exact absurd (List.mem_map.2 ⟨z,hz',hyz.symm⟩) hp.1
  ·exact absurd (List.mem_map.2 ⟨y,hy',hyz⟩) hp.1
  ·exact ih hp.2 y hy' z hz' hyz
/-- The table's checks that do not look at the properties. -/
def mV (md:Region.Mode) (ops:Array Oper) (E:List (Nat×Tmp)) (n:Nat) (l:Array Bool) (size:Nat):Bool:=
 nJ md ops n (E.map (·.1)) l && E.all (fun p=>cQ ops p.1==some p.2) && decide ((E.map (·.2)).Nodup) && decide ((E.map (·.1)).Nodup) && E.all (fun p=>decide (p.2<size))
theorem oc (D:List (Nat×Tmp×Sp)) (n:Nat) {l:Array Bool} {a:Act} {w:World} {fuel:Nat} (sz:Nat) (hsz:a.tmps.size=sz)
  (hok:mV md ops (aT D) n l sz=true)
  (hstep:∀x∈D,∀(a':Act) (w':World),Below w.heap.size w w'→(∀t,t∉(aT D).map (·.2)→a'.tmps[t]? =a.tmps[t]?)→(∀i t s,(i,t,s)∈D→i∈cR md ops x.1→Has a' w' t s)→
   ∃o,ops[x.1]? =some o∧Region.wanted o (yielded ops a'.tmps)=true∧Arm P Q o a' w' x.2.2)
  (hrest:∀(f:Nat→Value) w',Below w.heap.size w w'→(∀i t s,(i,t,s)∈D→s.p w' (f i))→wpAny P md ops Q fuel (bA ((aT D).map (·.1)) l) (dh (aT D) f a) w'):
  wpAny P md ops Q (fuel+D.length) l a w:=by
 unfold mV at hok
 simp only[Bool.and_eq_true,decide_eq_true_eq]at hok
 obtain⟨⟨⟨⟨hph,hds⟩,hnt⟩,hni⟩,hlt⟩:=hok
 have ht:∀p∈aT D,p.2<a.tmps.size:=fun p hp=>by rw[hsz];simpa using List.all_eq_true.1 hlt p hp
 have hlen:D.length=(aT D).length:=by simp[aT]
 rw[hlen]
 refine ie (fuel:=fuel) (aT D) n (fun _=>false) (fun i v w'=>∀t s,(i,t,s)∈D→s.p w' v) hph hds hnt (fun i _ v w1 w2 h hb t s hm=>s.st _ _ _ (h t s hm) hb) (fun i _ h=>by cases h) ?_ ?_
 ·intro p hp f w' hb hF K hK
  obtain⟨x,hx,rfl⟩:=List.mem_map.1 hp
  obtain⟨o,ho,hw,harm⟩:=hstep x hx (dh (aT D) f a) w' hb (fun t h=>jE t h) (fun i t s hm hpr=>
   ⟨f i,qR hnt (cL hm) (ht _ (cL hm)),hF i (List.mem_map.2 ⟨_,cL hm,rfl⟩) hpr t s hm⟩)
  unfold wpOp
  rw[ho]
  show if Region.wanted o (yielded ops (dh (aT D) f a).tmps)=true then _ else _
  rw[if_pos hw]
  refine .inl (harm K (fun v w'' hv hbv=> ?_))
  have hd:=List.all_eq_true.1 hds _ hp
  rw[beq_iff_eq]at hd
  have hdo:o.dst=some x.2.1:=by
   have:cQ ops x.1=o.dst:=by unfold cQ;rw[ho]
   rw[←this];exact hd
  rw[hdo]
  refine hK v w'' (fun t s hm=> ?_) hbv (fun h=>by cases h)
  have e:(x.1,x.2.1,x.2.2)∈D:=hx
  have key:=keyed (D:=D) (by simpa [aT,Function.comp_def]using hni)
  have e2:=key _ hm _ e rfl
  simp only[Prod.mk.injEq,true_and]at e2
  rw[e2.2];exact hv
 ·intro f w' hb hF _
  exact hrest f w' hb (fun i t s hm=>hF i (List.mem_map.2 ⟨_,cL hm,rfl⟩) t s hm)
theorem yA (D:List (Nat×Tmp×Sp)) (n:Nat) {l:Array Bool} {a:Act} {w:World} {fuel:Nat} (sz:Nat) (hsz:a.tmps.size=sz)
  (hok:mV md ops (aT D) n l sz=true)
  (hstep:∀x∈D,∀(a':Act) (w':World),Below w.heap.size w w'→(∀t,t∉(aT D).map (·.2)→a'.tmps[t]? =a.tmps[t]?)→(∀i t s,(i,t,s)∈D→i∈cR md ops x.1→Has a' w' t s)→
   ∃o,ops[x.1]? =some o∧Region.wanted o (yielded ops a'.tmps)=true∧Arm P Q o a' w' x.2.2)
  (hrest:∀a' w',Below w.heap.size w w'→a'.tmps.size=sz→a'.defers=a.defers→(∀t,t∉(aT D).map (·.2)→a'.tmps[t]? =a.tmps[t]?)→(∀i t s,(i,t,s)∈D→Has a' w' t s)→
   wpAny P md ops Q fuel (bA ((aT D).map (·.1)) l) a' w'):
  wpAny P md ops Q (fuel+D.length) l a w:=by
 refine oc D n sz hsz hok hstep ?_
 unfold mV at hok
 simp only[Bool.and_eq_true,decide_eq_true_eq]at hok
 obtain⟨⟨⟨⟨hph,hds⟩,hnt⟩,hni⟩,hlt⟩:=hok
 have ht:∀p∈aT D,p.2<a.tmps.size:=fun p hp=>by rw[hsz];simpa using List.all_eq_true.1 hlt p hp
 intro f w' hb hF
 exact hrest _ w' hb (by rw[yz,hsz]) sF (fun t h=>jE t h) (fun i t s hm=>
  ⟨f i,qR hnt (cL hm) (ht _ (cL hm)),hF i t s hm⟩)
def e8 (r:Nat):Code→Option (Array Oper)
 | .region i ops _=>if i=r then some ops else none
 | .seq a b=>match e8 r a with | some x=>some x | none=>e8 r b
 | .cond _ a b=>match e8 r a with | some x=>some x | none=>e8 r b
 | .block _ b=>e8 r b
 | .loop b=>e8 r b
 | .scope b=>e8 r b
 | .rangeFunc _ _ a b=>match e8 r a with | some x=>some x | none=>e8 r b
 | _=>none
/-- The operations of region r of the function. -/
def dI (f:Func) (r:Nat):Array Oper:=match f.body with | some c=>(e8 r c).getD #[] | none=> #[]
def iW {α:Type} (p:α→Prop):List α→Prop
 | []=>True
 | x::l=>p x∧iW p l
theorem iW.mem {α:Type} {p:α→Prop} {l:List α} (h:iW p l):∀x∈l,p x:=by
 induction l with
 | nil=>intro x hx;cases hx
 | cons y l ih=>
  intro x hx
  rcases List.mem_cons.1 hx with rfl | hx
  ·exact h.1
  ·exact ih h.2 x hx
/-- What an operation finds: the slots that no operation of the table writes are as they were; the slots of its forerunners have their properties. -/
structure Found (md:Region.Mode) (ops:Array Oper) (D:List (Nat×Tmp×Sp)) (j:Nat) (w:World) (a a':Act) (w':World):Prop where
 below:Below w.heap.size w w'
 out:∀t,((aT D).map (·.2)).contains t=false→a'.tmps[t]? =a.tmps[t]?
 at':∀(i:Nat) (t:Tmp) (s:Sp),D[i]? =some (i,t,s)→(cR md ops j).contains i=true→Has a' w' t s
structure Made' (D:List (Nat×Tmp×Sp)) (w:World) (a a':Act) (w':World):Prop where
 below:Below w.heap.size w w'
 size:a'.tmps.size=a.tmps.size
 defers:a'.defers=a.defers
 out:∀t,((aT D).map (·.2)).contains t=false→a'.tmps[t]? =a.tmps[t]?
 at':∀(i:Nat) (t:Tmp) (s:Sp),D[i]? =some (i,t,s)→Has a' w' t s
theorem Found.keep {D:List (Nat×Tmp×Sp)} {j:Nat} {w w':World} {a a':Act} (h:Found md ops D j w a a' w') (t:Tmp) (v:Value) (ht:((aT D).map (·.2)).contains t=false) (hv:a.tmps[t]? =some v):Has a' w' t (.val v):=
 ⟨v,(h.out t ht).trans hv,rfl⟩
theorem Made'.keep {D:List (Nat×Tmp×Sp)} {w w':World} {a a':Act} (h:Made' D w a a' w') (t:Tmp) (v:Value) (ht:((aT D).map (·.2)).contains t=false) (hv:a.tmps[t]? =some v):Has a' w' t (.val v):=
 ⟨v,(h.out t ht).trans hv,rfl⟩
/-- A whole region that draws its order, by a table. -/
theorem wp_tab (f:Func) (r:Nat) (D:List (Nat×Tmp×Sp)) {id:Nat} {ops':Array Oper} {a:Act} {w:World} (hops:dI f r=ops') (hm:P.follows .mixedOrders=true)
  (hlen:(dI f r).size=D.length) (hok:mV .any (dI f r) (aT D) 0 (Array.replicate D.length false) a.tmps.size=true)
  (hdone:Region.ready .any (dI f r) (bA ((aT D).map (·.1)) (Array.replicate D.length false))=[])
  (steps:iW (fun x=>∀(a':Act) (w':World),Found .any (dI f r) D x.1 w a a' w'→∃o,(dI f r)[x.1]? =some o∧Region.wanted o (yielded (dI f r) a'.tmps)=true∧Arm P Q o a' w' x.2.2) D)
  (hrest:∀a' w',Made' D w a a' w'→Q .normal a' w'):(Code.region id ops' true).wp P Q a w:=by
 subst hops
 refine wp_region_any hm ?_
 have hb0:Below w.heap.size w w.drew:=bg (Below.refl _ _) 1
 change wpAny P .any _ Q _ _ _ w.drew
 rw[hlen]
 have hcon:∀t,((aT D).map (·.2)).contains t=false→t∉(aT D).map (·.2):=fun t h hm=>by
  rw[List.contains_iff_mem.2 hm]at h;cases h
 have hmem:∀(i:Nat) (t:Tmp) (s:Sp),D[i]? =some (i,t,s)→(i,t,s)∈D:=fun i t s h=>List.mem_of_getElem? h
 have main:=yA (P:=P) (Q:=Q) (fuel:=0) D 0 (l:=Array.replicate D.length false) (a:=a) (w:=w.drew) a.tmps.size rfl hok
  (fun x hx a' w' hb hout hin=>steps.mem x hx a' w' ⟨hb0.trans (hb.mono hb0.size),fun t h=>hout t (hcon t h),fun i t s h1 h2=>hin i t s (hmem i t s h1) (List.contains_iff_mem.1 h2)⟩)
  (fun a' w' hb hsz hdf hout hin=>wpAny_done hdone (hrest a' w' ⟨hb0.trans (hb.mono hb0.size),hsz,hdf,fun t h=>hout t (hcon t h),fun i t s h=>hin i t s (hmem i t s h)⟩) 0)
 rw[Nat.zero_add]at main
 exact main
/-- As wp_tab; what comes behind finds the frame written out, the table's slots holding values g i. -/
theorem gA (f:Func) (r:Nat) (D:List (Nat×Tmp×Sp)) {id:Nat} {ops':Array Oper} {a:Act} {w:World} (hops:dI f r=ops') (hm:P.follows .mixedOrders=true)
  (hlen:(dI f r).size=D.length) (hok:mV .any (dI f r) (aT D) 0 (Array.replicate D.length false) a.tmps.size=true)
  (hdone:Region.ready .any (dI f r) (bA ((aT D).map (·.1)) (Array.replicate D.length false))=[])
  (steps:iW (fun x=>∀(a':Act) (w':World),Found .any (dI f r) D x.1 w a a' w'→∃o,(dI f r)[x.1]? =some o∧Region.wanted o (yielded (dI f r) a'.tmps)=true∧Arm P Q o a' w' x.2.2) D)
  (hrest:∀(g:Nat→Value) w',Below w.heap.size w w'→(∀(i:Nat) (t:Tmp) (s:Sp),D[i]? =some (i,t,s)→s.p w' (g i))→Q .normal (dh (aT D) g a) w'):(Code.region id ops' true).wp P Q a w:=by
 subst hops
 refine wp_region_any hm ?_
 have hb0:Below w.heap.size w w.drew:=bg (Below.refl _ _) 1
 change wpAny P .any _ Q _ _ _ w.drew
 rw[hlen]
 have hcon:∀t,((aT D).map (·.2)).contains t=false→t∉(aT D).map (·.2):=fun t h hm=>by
  rw[List.contains_iff_mem.2 hm]at h;cases h
 have hmem:∀(i:Nat) (t:Tmp) (s:Sp),D[i]? =some (i,t,s)→(i,t,s)∈D:=fun i t s h=>List.mem_of_getElem? h
 have main:=oc (P:=P) (Q:=Q) (fuel:=0) D 0 (l:=Array.replicate D.length false) (a:=a) (w:=w.drew) a.tmps.size rfl hok
  (fun x hx a' w' hb hout hin=>steps.mem x hx a' w' ⟨hb0.trans (hb.mono hb0.size),fun t h=>hout t (hcon t h),fun i t s h1 h2=>hin i t s (hmem i t s h1) (List.contains_iff_mem.1 h2)⟩)
  (fun g w' hb hin=>wpAny_done hdone (hrest g w' (hb0.trans (hb.mono hb0.size)) (fun i t s h=>hin i t s (hmem i t s h))) 0)
 rw[Nat.zero_add]at main
 exact main
theorem aB {o:Oper} {y:Nat→Option Bool} (h:o.guard=none):Region.wanted o y=true:=by unfold Region.wanted;rw[h]
theorem Arm.weaken {o:Oper} {a:Act} {w:World} {s s':Sp} (h:Arm P Q o a w s) (hs:∀w v,s.p w v→s'.p w v):Arm P Q o a w s':=
 fun K hK=>h K (fun v w' h1 h2=>hK v w' (hs _ _ h1) h2)
theorem qS {o:Oper} {a:Act} {w:World} {s:Sp} (v:Value) (hr:(execOp a.eval o).run P w= .ok (.value v) w) (hv:s.p w v):Arm P Q o a w s:=by
 intro K hK
 unfold Oper.wp
 rw[hr]
 exact hK v w hv (Below.refl _ _)
theorem bO {o:Oper} {a:Act} {w:World} {s:Sp} {x:Operand} (ho:o.op= .move x∨o.op= .assign x) (hx:Is a w x s):Arm P Q o a w s:=by
 refine qS (a.eval x) ?_ hx
 rcases ho with ho | ho<;>(unfold execOp;rw[ho];rfl)
/-- An operation on constants. -/
theorem ll {o:Oper} {a:Act} {w:World} {s:Sp} {f:FuncId} {xs:Array Operand} {tt:Array TypeId} {R:Ending→World→Prop} (ho:o.op= .call {callee:=.value (.func f),args:=xs,argTypes:=tt})
  (hen:∀(vs:Array Value) w,(callFunc f vs).run P w= .ok (.enter f vs) w) (hc:Calls P f (xs.map a.eval) w R) (hR:∀e w',R e w'→∃v,e= .returned v∧s.p w' v∧Below w.heap.size w w'):Arm P Q o a w s:=by
 intro K hK
 unfold Oper.wp
 have:(execOp a.eval o).run P w= .ok (.enter f (xs.map a.eval)) w:=by
  simp[execOp,ho,resolve,invoke,Deferred.ofValue,Act.eval,hen,Result.andThen]
 rw[this,Oper.upon_enter]
 refine hc.mono ?_
 intro e w' hr
 obtain⟨v,rfl,h1,h2⟩:=hR e w' hr
 exact hK v w' h1 h2
end
end Go.Proofs.YtfhinmdhjlmikaaGreat
namespace Go.Proofs.YtfhinmdhjlmikaaGreat
set_option linter.unusedSimpArgs false
set_option linter.unusedVariables false
set_option maxRecDepth 100000
open Go.RowKit
section
variable {md:Region.Mode} {ops:Array Oper} {D:List (Nat×Tmp×Sp)} {w w':World} {a a':Act} {j:Nat}
theorem Found.f (F:Found md ops D j w a a' w') (i:Nat) {t:Tmp} {s:Sp} (h:D[i]? =some (i,t,s)) (h2:(cR md ops j).contains i=true:=by kernel_rfl):Is a' w' (.tmp t) s:=(F.at' i t s h h2).is
theorem Found.k (F:Found md ops D j w a a' w') (t:Tmp) (v:Value) (h:((aT D).map (·.2)).contains t=false:=by kernel_rfl) (h2:a.tmps[t]? =some v:=by rfl):Is a' w' (.tmp t) (.val v):=(F.keep t v h h2).is
end
end Go.Proofs.YtfhinmdhjlmikaaGreat
namespace Go.Proofs.YtfhinmdhjlmikaaGreat
set_option linter.unusedSimpArgs false
set_option linter.unusedVariables false
set_option maxRecDepth 100000
open Go.RowKit
theorem aA {f:FuncId} {fn:Func} (hf:Tryz.prog.funcs[f]? =some fn) (hname:(fn.name== "runtime.NumGoroutine")=false) (hb:fn.body.isNone=false) (args:Array Value) (w:World):
  (callFunc f args).run Tryz.prog w= .ok (.enter f args) w:=by
 have h1:fn.name≠ "runtime.NumGoroutine" :=by simpa using hname
 simp[callFunc,hf,h1]
 intro h
 simp[h]at hb
theorem ofNew {w w':World} {N:Nat} {e:Ending} (h:dD w N e w'):∃v,e= .returned v∧(Sp.nat N).p w' v∧Below w.heap.size w w':=by
 obtain⟨v,rfl,hn,hb⟩:=h;exact⟨v,rfl,hn.isN,hb⟩
theorem ofV {w w':World} {u:Value} {e:Ending} (h:bH w u e w'):∃v,e= .returned v∧(Sp.val u).p w' v∧Below w.heap.size w w':=⟨u,h.1,rfl,h.2⟩
/-- Block g is a variable that holds the number N. -/
def cC (w:World) (g N:Nat):Prop:=∃a c,bf w g a (nl N) c∧IsN w (.agg #[.slice a (nl N) c]) N
theorem cC.mono {w w':World} {g N:Nat} (h:cC w g N) (hb:Below w.heap.size w w'):cC w' g N:=by
 obtain⟨a,c,h1,h2⟩:=h;exact⟨a,c,h1.mono hb h1.lt,h2.mono hb⟩
section
variable {ops:Array Oper} {Q:Exit→Act→World→Prop} {o:Oper} {a:Act} {w:World} {x y:Operand} {m n:Nat} {tt:Array TypeId}
theorem run_load (w:World) (g L c:Nat) (s:Option Addr) (h:bf w g s L c):(Instr.loadAt 25 (.pointer (some ⟨g,0,none⟩))).run Tryz.prog w= .ok (.agg #[.slice s L c]) w:=by
 have c1:=h.cell
 go_simp
theorem cd {g:Nat} (ho:o.op= .load 25 x) (hx:Is a w x (.val (.pointer (some ⟨g,0,none⟩)))) (h:cC w g n):Arm Tryz.prog Q o a w (.nat n):=by
 obtain⟨s,c,h1,h2⟩:=h
 have hx':a.eval x= .pointer (some ⟨g,0,none⟩):=hx
 refine qS (.agg #[.slice s (nl n) c]) ?_ h2
 unfold execOp
 rw[ho]
 simp only[hx',Sem.run_bind,run_load w g (nl n) c s h1,Result.andThen,Sem.run_pure]
theorem xr {f:FuncId} {s:Sp} {R:World→Ending→World→Prop} (ho:o.op= .call {callee:=.value (.func f),args:=#[x,y],argTypes:=tt}) (hen:∀(vs:Array Value) w,(callFunc f vs).run Tryz.prog w= .ok (.enter f vs) w)
  (hx:Is a w x (.nat m)) (hy:Is a w y (.nat n)) (hc:∀va vb w,IsN w va m→IsN w vb n→Calls Tryz.prog f #[va,vb] w (R w)) (hR:∀e w',R w e w'→∃v,e= .returned v∧s.p w' v∧Below w.heap.size w w'):Arm Tryz.prog Q o a w s:=
 ll ho hen (R:=R w) (by simpa using hc _ _ w hx hy) hR
theorem dY {op:BinOp} {t t':TypeId} {u v r:Value} (ho:o.op= .binOp op t x y t') (hx:Is a w x (.val u)) (hy:Is a w y (.val v)) (hg:∀w:World,(eqGuard op t x y u v).run Tryz.prog w= .ok () w)
  (hr:∀w:World,(binOp op t u v).run Tryz.prog w= .ok r w):Arm Tryz.prog Q o a w (.val r):=by
 have hx':a.eval x=u:=hx
 have hy':a.eval y=v:=hy
 refine qS r ?_ rfl
 unfold execOp
 rw[ho]
 simp only[hx',hy',Sem.run_bind,hg,hr,Result.andThen,Sem.run_pure]
end
end Go.Proofs.YtfhinmdhjlmikaaGreat
namespace Go.Proofs.YtfhinmdhjlmikaaGreat
set_option linter.unusedSimpArgs false
set_option linter.unusedVariables false
set_option maxRecDepth 100000
open Go.RowKit
theorem nlb {N:Nat} (h:N<4294967296^4):nl N≤1000000000000:=Nat.le_trans (aZ.2 h) (by decide)
theorem cC.of {w:World} {g c N:Nat} {a:Option Addr} (h:bf w g a (nl N) c) (hn:IsN w (.agg #[.slice a (nl N) c]) N):cC w g N:=⟨a,c,h,hn⟩
end Go.Proofs.YtfhinmdhjlmikaaGreat
namespace Go.Proofs.YtfhinmdhjlmikaaGreat
set_option linter.unusedSimpArgs false
set_option linter.unusedVariables false
set_option maxRecDepth 100000
open Go.RowKit
/-- Block g is a variable that holds a row of L digits of value N (leading zeros allowed). -/
def ij (w:World) (g L N:Nat):Prop:=∃a c,bf w g a L c∧IsR w (.agg #[.slice a L c]) L N
theorem ij.mono {w w':World} {g L N:Nat} (h:ij w g L N) (hb:Below w.heap.size w w'):ij w' g L N:=by
 obtain⟨a,c,h1,h2⟩:=h;exact⟨a,c,h1.mono hb h1.lt,h2.mono hb⟩
theorem ij.isI {w:World} {g L N:Nat} (h:ij w g L N) (hl:nl N=L):cC w g N:=by
 subst hl;exact h
theorem ij.made {w:World} {a:Option Addr} {L c N:Nat} (h:IsR w (.agg #[.slice a L c]) L N):ij (w.alloc (.cells #[.slice a L c] 25)) w.heap.size L N:=
 ⟨a,c,bf.made w a L c,h.mono ((Below.refl _ _).alloc (Nat.le_refl _) _)⟩
theorem io (w:World) (o:Obj):Below w.heap.size w (w.alloc o):=(Below.refl _ _).alloc (Nat.le_refl _) o
theorem box1 {w:World} {a:Option Addr} {L c N:Nat} (h:IsR w (.agg #[.slice a L c]) L N):
  Below w.heap.size w (w.alloc (.cells #[.slice a L c] 25))∧ij (w.alloc (.cells #[.slice a L c] 25)) w.heap.size L N:=⟨io w _,ij.made h⟩
theorem yB {w:World} {a b:Option Addr} {L c N L2 c2 N2:Nat} (h:IsR w (.agg #[.slice a L c]) L N) (h2:IsR w (.agg #[.slice b L2 c2]) L2 N2):
  Below w.heap.size w ((w.alloc (.cells #[.slice a L c] 25)).alloc (.cells #[.slice b L2 c2] 25))∧
  ij ((w.alloc (.cells #[.slice a L c] 25)).alloc (.cells #[.slice b L2 c2] 25)) w.heap.size L N∧
  ij ((w.alloc (.cells #[.slice a L c] 25)).alloc (.cells #[.slice b L2 c2] 25)) (w.heap.size+1) L2 N2:=by
 obtain⟨k1,k2⟩:=box1 h
 obtain⟨k3,k4⟩:=box1 (h2.mono k1)
 refine⟨k1.trans (k3.mono k1.size),k2.mono k3,?_⟩
 rw[World.size_alloc]at k4
 exact k4
theorem sm_up {N d e:Nat} (h:N<4294967296^d) (he:d≤e):N<4294967296^e:=Nat.lt_of_lt_of_le h (Nat.pow_le_pow_right (by decide) he)
theorem sm_add {a b d e:Nat} (h:a<4294967296^d) (h':b<4294967296^e):a+b<4294967296^(d+e+1):=by
 have h1:=sm_up h (Nat.le_add_right d e)
 have h2:=sm_up h' (Nat.le_add_left e d)
 rw[Nat.pow_succ];omega
theorem sm_mul {a b d e:Nat} (h:a<4294967296^d) (h':b<4294967296^e):a*b<4294967296^(d+e):=by
 rw[Nat.pow_add]
 rcases Nat.eq_zero_or_pos b with rfl | hb
 ·rw[Nat.mul_zero];exact Nat.mul_pos (Nat.lt_of_le_of_lt (Nat.zero_le _) h) h'
 ·exact Nat.lt_of_lt_of_le ((Nat.mul_lt_mul_right hb).2 h) (Nat.mul_le_mul_left _ (Nat.le_of_lt h'))
section
variable {Q:Exit→Act→World→Prop} {o:Oper} {a:Act} {w:World} {tt:Array TypeId}
end
end Go.Proofs.YtfhinmdhjlmikaaGreat
namespace Go.Proofs.YtfhinmdhjlmikaaGreat
set_option linter.unusedSimpArgs false
set_option linter.unusedVariables false
set_option maxRecDepth 100000
open Go.RowKit
theorem D_over {m L i:Nat} (h:m<4294967296^L) (hi:L≤i):D m i=0:=by
 unfold D
 rw[Nat.div_eq_of_lt (Nat.lt_of_lt_of_le h (Nat.pow_le_pow_right (by decide) hi))]
theorem xt (va:Value) (L m i:Nat) (w:World) (ha:IsR w va L m) (hL:L≤60000000000000) (hi:i≤60000000000000):
  Calls Tryz.prog 134 #[va,.int .i64 (i:Int)] w fun e w'=>bH w (.int .u64 ((D m i:Nat):Int)) e w':=by
 obtain⟨a,ca,rfl,hca,ra⟩:=ha
 have hw:=io w (.cells #[.slice a L ca] 25)
 have v1:=bf.made w a L ca
 have ra0:=ra.mono hw
 have c1:=v1.cell
 go_enter Tryz.func134,Tryz.ntmps134
 by_cases h:L≤i
 ·have h0:=D_over ra.lt h
  have h':(L:Int)≤(i:Int):=by omega
  go_wp2
  go_ret
  exact⟨by rw[h0];rfl,hw⟩
 ·obtain⟨b1,o1,rfl,h1⟩:=ra0.cells (by omega)
  have d1:=h1 i (by omega)
  have h':¬(L:Int)≤(i:Int):=by omega
  have hlt:=cT m i
  go_wp2
  go_ret
  exact⟨rfl,hw⟩
theorem GR.newC {w w':World} {base L c N:Nat} {a:Option Addr} (h:GR w base (.slice a L c) L N) (hl:nl N=L) (hb:Below w.heap.size w w'):bj base w' (.agg #[.slice a (nl N) c]) N:=by
 obtain⟨a',c',e,hLc,hrw,hown⟩:=h.open
 cases e
 refine⟨a,c,rfl,by omega,fun hL=> ?_⟩
 obtain⟨g,rfl,hg,hgs,hf⟩:=hown (by omega)
 obtain⟨b,o,e,hd⟩:=hrw.cells (by omega)
 cases e
 exact⟨g,0,rfl,hg,fun j hj=>(hb.cell (p:=⟨g,0+j,none⟩) hgs).trans (hd j (by omega)),fun j hj=>(hb.frozen (p:=⟨g,0+j,none⟩) hgs).trans (hf _)⟩
theorem lm (N i:Nat):N % 4294967296^i+D N i*4294967296^i=N % 4294967296^(i+1):=by
 rw[Nat.mod_pow_succ]
 unfold D
 rw[Nat.mul_comm]
set_option maxHeartbeats 1000000 in
theorem od (a:Option Addr) (L c N:Nat) (w:World) (ra:Rw w a L N) (hL:L≤20000000000000):
  Calls Tryz.prog 80 #[.slice a L c] w fun e w'=>dD w N e w':=by
 have hw:=io w (.cells #[.slice none 0 0] 25)
 have v0:=bf.made w none 0 0
 have ra0:=ra.mono hw
 have hnl:nl N≤L:=aZ.2 ra.lt
 go_enter Tryz.func80,Tryz.ntmps80
 go_upto_region 1 with(fail)
 go_cut [3] (fun s3 wx=>s3= .int .i64 (L:Int)∧Below w.heap.size w wx∧bf wx w.heap.size none 0 0)
 case first=>
  go_wp2_with fail
  go_meet
  case rel=>exact⟨rfl,hw,v0⟩
 case rest=>
  obtain⟨rfl,hb0,v1⟩:=hcut
  clear hw v0 ra0
  have ra0:=ra.mono hb0
  have hsz:=v1.lt
  go_upto_block 0 with(fail)
  go_cut [3] (fun s3 wx=>s3= .int .i64 ((nl N:Nat):Int)∧wx=wc)
  case first=>
   go_wp2_with fail
   go_loopw [3] (fun s3 wr=>∃n:Nat,s3= .int .i64 (n:Int)∧n≤L∧nl N≤n∧wr=wc) (fun s3 _=>(intOf s3).toNat)
   case atStart=>exact⟨L,rfl,Nat.le_refl _,hnl,rfl⟩
   case round=>
    obtain⟨n,rfl,hn,hnn,rfl⟩:=hrel
    by_cases hz:0<n∧D N (n - 1)=0
    ·obtain⟨hn0,hd0⟩:=hz
     obtain⟨b1,o1,rfl,h1⟩:=ra0.cells (by omega)
     have d1:=h1 (n - 1) (by omega)
     rw[hd0]at d1
     have e1:((n:Int) - 1)=((n - 1:Nat):Int):=by omega
     have hlt:(0:Int)<(n:Int):=by omega
     have hle:nl N≤n - 1:=i5 (by omega) hd0
     have HD:=Lib.hid hd0
     clear hd0
     go_wp2_with fail
     go_roundw
     case rel=>exact⟨n - 1,by go_num,by omega,hle,trivial⟩
     case measure=>simp[intOf];omega
    ·have hN:nl N=n:=by
      rcases Nat.lt_or_ge (nl N) n with h | h
      ·exact absurd ⟨by omega,hJ (by omega)⟩ hz
      ·omega
     subst hN
     rcases Nat.eq_zero_or_pos (nl N)with h | h
     ·have h0:¬(0:Int)<((nl N:Nat):Int):=by omega
      have H:=Lib.hid h
      clear h hz
      go_wp2_with fail
      go_meet
      case rel=>exact⟨rfl,rfl⟩
     ·have hne:D N (nl N - 1)≠0:=fun e=>hz ⟨h,e⟩
      obtain⟨b1,o1,rfl,h1⟩:=ra0.cells (by omega)
      have d1:=h1 (nl N - 1) (by omega)
      have e1:(((nl N:Nat):Int) - 1)=((nl N - 1:Nat):Int):=by omega
      have hlt:(0:Int)<((nl N:Nat):Int):=by omega
      have hne':¬((D N (nl N - 1):Nat):Int)=0:=by omega
      clear hz hne
      go_wp2_with fail
      go_meet
      case rel=>exact⟨rfl,rfl⟩
  case rest=>
   obtain⟨rfl,rfl⟩:=hcut
   go_wp2_with fail
   go_loopw [4,5] (fun s4 s5 wr=>∃i:Nat,i≤nl N∧s5= .int .i64 (i:Int)∧GR wr (w.heap.size+1) s4 i (N % 4294967296^i)∧Below (w.heap.size+1) wc wr∧w.heap.size+1≤wr.heap.size) (fun _ s5 _=>nl N - (intOf s5).toNat)
   case atStart=>exact⟨0,Nat.zero_le _,rfl,by rw[Nat.pow_zero,Nat.mod_one];exact GR.nil _ _,Below.refl _ _,hsz⟩
   case round=>
    obtain⟨i,hi,rfl,hgr,hbr,hsr⟩:=hrel
    by_cases hlt:i<nl N
    ·have ra1:=ra.mono (hb0.trans (hbr.mono (Nat.le_succ _)))
     obtain⟨b1,o1,rfl,h1⟩:=ra1.cells (by omega)
     have d1:=h1 i (by omega)
     have hdl:=cT N i
     obtain⟨a',c',rfl,hLc,hrw,hown⟩:=hgr.open
     go_wp2_with (at_builtin;refine dc rfl _ _ rfl (w.heap.size+1) (.slice a' i c') i (N % 4294967296^i) (D N i) rfl hgr hsr rfl hdl (by omega) ?_)
     intro v' w' hg' hb' hs'
     rw[lm]at hg'
     go_wp2_with fail
     go_roundw
     case rel=>exact⟨i+1,by omega,by go_num,hg',hbr.trans hb',hs'⟩
     case measure=>simp[intOf];omega
    ·obtain rfl:i=nl N:=by omega
     rw[Nat.mod_eq_of_lt (eH N)]at hgr
     obtain⟨a',c',rfl,hLc,hrw,hown⟩:=hgr.open
     have vr:=v1.mono hbr (Nat.lt_succ_self _)
     have cr:=vr.cell
     have fr:=vr.frozen
     have hn:=(hgr.newC rfl (Below.refl _ _)).setVar (u:=.slice a' (nl N) c') vr
     go_wp2
     exact bodyPost_ret (eZ rfl _ _ w.heap.size _ rfl vr.set.cell) rfl ⟨_,rfl,hn.weaken (Nat.le_succ _),(hb0.trans (hbr.mono (Nat.le_succ _))).setCell (Nat.le_refl _) _⟩
end Go.Proofs.YtfhinmdhjlmikaaGreat
namespace Go.Proofs.YtfhinmdhjlmikaaGreat
set_option linter.unusedSimpArgs false
set_option linter.unusedVariables false
set_option maxRecDepth 100000
open Go.RowKit
section
variable {Q:Exit→Act→World→Prop} {o:Oper} {a:Act} {w:World} {x y:Operand} {tt:Array TypeId}
theorem ck {m i:Nat} (ho:o.op= .call {callee:=.value (.func 134),args:=#[x,y],argTypes:=tt}) (hx:Is a w x (.nat m)) (hy:Is a w y (.val (.int .i64 (i:Int)))) (hm:nl m≤1000000000000) (hi:i≤60000000000000):
  Arm Tryz.prog Q o a w (.val (.int .u64 ((D m i:Nat):Int))):=by
 refine ll ho (aA Tryz.func134 rfl rfl) (R:=bH w (.int .u64 ((D m i:Nat):Int))) ?_ (fun _ _ h=>ofV h)
 have hy':a.eval y= .int .i64 (i:Int):=hy
 simpa [hy']using xt _ (nl m) m i w hx (by omega) hi
end
theorem cC.cell {w:World} {g N:Nat} (h:cC w g N):∃a c,w.cell? ⟨g,0,none⟩=some (.slice a (nl N) c):=by
 obtain⟨a,c,h1,_⟩:=h;exact⟨a,c,h1.cell⟩
theorem sG {m n k:Nat} (h:m / 4294967296^(k+1)=n / 4294967296^(k+1)) (hd:D m k=D n k):m / 4294967296^k=n / 4294967296^k:=by
 rw[dg m k,dg n k,h,hd]
theorem GR.below {w w':World} {base L N:Nat} {v:Value} (h:GR w base v L N) (hb:Below w.heap.size w w'):GR w' base v L N:=by
 refine⟨h.1,h.2.1,?_⟩
 rcases h.2.2 with⟨h1,h0⟩ | ⟨g,c,cur,rfl,hbg,hg,hr⟩
 ·exact .inl ⟨h1,h0⟩
 ·exact .inr ⟨g,c,cur,rfl,hbg,(hb.block g (Array.getElem?_eq_some_iff.1 hg).1).trans hg,hr⟩
theorem i8 (x y z:Nat) (hz:x+y=z) (h:z<18446744073709551616) (w:World):(binOp BinOp.add 91 (.int .u64 (x:Int)) (.int .u64 (y:Int))).run Tryz.prog w= .ok (.int .u64 (z:Int)) w:=by
 subst hz
 have e:((x:Int)+(y:Int)) % 18446744073709551616=((x+y:Nat):Int):=by omega
 go_simp
 exact e
theorem sH (x y z:Nat) (hz:x=y+z) (h:x<18446744073709551616) (w:World):(binOp BinOp.sub 91 (.int .u64 (x:Int)) (.int .u64 (y:Int))).run Tryz.prog w= .ok (.int .u64 (z:Int)) w:=by
 subst hz
 have e:(((y+z:Nat):Int) - (y:Int)) % 18446744073709551616=(z:Int):=by omega
 go_simp
 exact e
end Go.Proofs.YtfhinmdhjlmikaaGreat
namespace Go.Proofs.YtfhinmdhjlmikaaGreat
set_option linter.unusedSimpArgs false
set_option linter.unusedVariables false
set_option maxRecDepth 100000
open Go.RowKit
def jF (ga gb m n k:Nat):List (Nat×Tmp×Sp):=
  [(0,18,.nat (m)),
  (1,19,.val (Value.int IntKind.i64 ((k:Nat)))),
  (2,20,.val (Value.int IntKind.u64 (((D (m) (k):Nat):Int)))),
  (3,21,.nat (n)),
  (4,22,.val (Value.int IntKind.i64 ((k:Nat)))),
  (5,23,.val (Value.int IntKind.u64 (((D (n) (k):Nat):Int)))),
  (6,24,.val (Value.bool (decide (((D m k:Nat):Int)<((D n k:Nat):Int)))))]
def nK (ga gb m n k:Nat):List (Nat×Tmp×Sp):=
  [(0,25,.nat (m)),
  (1,26,.val (Value.int IntKind.i64 ((k:Nat)))),
  (2,27,.val (Value.int IntKind.u64 (((D (m) (k):Nat):Int)))),
  (3,28,.nat (n)),
  (4,29,.val (Value.int IntKind.i64 ((k:Nat)))),
  (5,30,.val (Value.int IntKind.u64 (((D (n) (k):Nat):Int)))),
  (6,31,.val (Value.bool (decide (((D m k:Nat):Int)>((D n k:Nat):Int)))))]
set_option maxRecDepth 100000 in
set_option maxHeartbeats 1000000 in
theorem mo (va vb:Value) (m n:Nat) (w:World) (ha:IsN w va m) (hb:IsN w vb n) (hm:nl m≤1000000000000) (hn:nl n≤1000000000000):
  Calls Tryz.prog 109 #[va,vb] w fun e w'=>bH w (.int .i64 (dX m n)) e w':=by
 obtain⟨a,ca,rfl,hca,ra⟩:=ha
 obtain⟨b,cb,rfl,hcb,rb⟩:=hb
 obtain⟨k0,k1,k2⟩:=yB (L:=nl m) (c:=ca) (N:=m) (L2:=nl n) (c2:=cb) (N2:=n) ⟨a,ca,rfl,hca,ra⟩ ⟨b,cb,rfl,hcb,rb⟩
 obtain⟨M,hM1,hM2,hM3⟩:∃M,nl m≤M∧nl n≤M∧Hid (M=nl m∨M=nl n):=by
  rcases Nat.le_total (nl m) (nl n)with h | h
  ·exact⟨nl n,h,Nat.le_refl _,Lib.hid (.inr rfl)⟩
  ·exact⟨nl m,Nat.le_refl _,h,Lib.hid (.inl rfl)⟩
 go_enter Tryz.func109,Tryz.ntmps109
 go_upto_region 1 with(fail)
 go_cut [5] (fun s5 wx=>s5= .int .i64 ((M:Int) - 1)∧cC wx w.heap.size m∧cC wx (w.heap.size+1) n∧Below w.heap.size w wx)
 case first=>
  obtain⟨ya,da,qa,ia⟩:=k1
  have ea:=qa.cell
  obtain⟨yb,db,qb,ib⟩:=k2
  have eb:=qb.cell
  rcases Nat.lt_or_ge (nl m) (nl n)with hlt | hge
  ·obtain rfl:M=nl n:=by have:=hM3.out;omega
   go_wp2_with fail
   go_meet
   case rel=>exact⟨rfl,⟨ya,da,qa,ia⟩,⟨yb,db,qb,ib⟩,k0⟩
  ·obtain rfl:M=nl m:=by have:=hM3.out;omega
   have hge':¬nl m<nl n:=by omega
   go_wp2_with fail
   go_meet
   case rel=>exact⟨rfl,⟨ya,da,qa,ia⟩,⟨yb,db,qb,ib⟩,k0⟩
 case rest=>
  obtain⟨rfl,Va,Vb,hb1⟩:=hcut
  clear k0 k1 k2 ra rb
  have hM:M≤1000000000000:=by rcases hM3.out with h | h<;>omega
  go_wp2_with fail
  go_loopw [5] (fun s5 wr=>∃k:Nat,k≤M∧s5= .int .i64 ((k:Int) - 1)∧Hid (m / 4294967296^k=n / 4294967296^k)∧cC wr w.heap.size m∧cC wr (w.heap.size+1) n∧Below w.heap.size w wr) (fun s5 _=>((intOf s5)+1).toNat)
  case atStart=>exact⟨M,Nat.le_refl _,rfl,Lib.hid (by rw[Nat.div_eq_of_lt (aZ.1 hM1),Nat.div_eq_of_lt (aZ.1 hM2)]),Va,Vb,hb1⟩
  case round=>
   obtain⟨k,hk,rfl,HR,Va,Vb,hb1⟩:=hrel
   cases k with
   | zero=>
    go_wp2
    go_ret
    exact⟨by rw[kY (by simpa using HR.out)];rfl,hb1⟩
   | succ k=>
    have hk60:k≤60000000000000:=by omega
    have e:(((k+1:Nat):Int) - 1)=(k:Int):=by omega
    simp only[e]
    clear e
    rcases Nat.lt_trichotomy (D m k) (D n k)with h | h | h
    ·have h':((D m k:Nat):Int)<((D n k:Nat):Int):=by omega
     go_upto_region 4 with(fail)
     refine gA Tryz.f109 4 (jF w.heap.size (w.heap.size+1) m n k) (by kernel_rfl) (by kernel_rfl) rfl (by kernel_rfl) (by kernel_rfl) ?_ ?_
     ·refine⟨fun a' w' F=>⟨_,rfl,aB rfl,cd rfl (F.keep 2 (Value.pointer (some ⟨w.heap.size,0,none⟩)) (by kernel_rfl) rfl).is (Va.mono F.below)⟩,?_⟩
      refine⟨fun a' w' F=>⟨_,rfl,aB rfl,bO (.inl rfl) (F.keep 5 (Value.int IntKind.i64 ((k:Nat))) (by kernel_rfl) rfl).is⟩,?_⟩
      refine⟨fun a' w' F=>⟨_,rfl,aB rfl,ck rfl (F.f 0 rfl) (F.f 1 rfl) (hm) (hk60)⟩,?_⟩
      refine⟨fun a' w' F=>⟨_,rfl,aB rfl,cd rfl (F.keep 3 (Value.pointer (some ⟨w.heap.size+1,0,none⟩)) (by kernel_rfl) rfl).is (Vb.mono F.below)⟩,?_⟩
      refine⟨fun a' w' F=>⟨_,rfl,aB rfl,bO (.inl rfl) (F.keep 5 (Value.int IntKind.i64 ((k:Nat))) (by kernel_rfl) rfl).is⟩,?_⟩
      refine⟨fun a' w' F=>⟨_,rfl,aB rfl,ck rfl (F.f 3 rfl) (F.f 4 rfl) (hn) (hk60)⟩,?_⟩
      refine⟨fun a' w' F=>⟨_,rfl,aB rfl,dY rfl (F.f 2 rfl) (F.f 5 rfl) (fun _=>rfl) (fun _=>by go_simp)⟩,?_⟩
      exact trivial
     intro gp wp bp G
     have ep6:gp 6=Value.bool (decide (((D m k:Nat):Int)<((D n k:Nat):Int))):=G 6 24 _ rfl
     simp only[jF]
     simp only[dh,aT,List.map_cons,List.map_nil,List.foldl_cons,List.foldl_nil,Act.put,List.setIfInBounds_toArray,List.set_cons_zero,List.set_cons_succ,ep6]
     clear G
     go_wp2_with fail
     go_ret
     exact⟨by rw[gt (gw HR.out h)];rfl,hb1.trans (bp.mono hb1.size)⟩
    ·have h1':¬((D m k:Nat):Int)<((D n k:Nat):Int):=by omega
     have h2':¬((D n k:Nat):Int)<((D m k:Nat):Int):=by omega
     have HD:=Lib.hid h
     clear h
     go_upto_region 4 with(fail)
     refine gA Tryz.f109 4 (jF w.heap.size (w.heap.size+1) m n k) (by kernel_rfl) (by kernel_rfl) rfl (by kernel_rfl) (by kernel_rfl) ?_ ?_
     ·refine⟨fun a' w' F=>⟨_,rfl,aB rfl,cd rfl (F.keep 2 (Value.pointer (some ⟨w.heap.size,0,none⟩)) (by kernel_rfl) rfl).is (Va.mono F.below)⟩,?_⟩
      refine⟨fun a' w' F=>⟨_,rfl,aB rfl,bO (.inl rfl) (F.keep 5 (Value.int IntKind.i64 ((k:Nat))) (by kernel_rfl) rfl).is⟩,?_⟩
      refine⟨fun a' w' F=>⟨_,rfl,aB rfl,ck rfl (F.f 0 rfl) (F.f 1 rfl) (hm) (hk60)⟩,?_⟩
      refine⟨fun a' w' F=>⟨_,rfl,aB rfl,cd rfl (F.keep 3 (Value.pointer (some ⟨w.heap.size+1,0,none⟩)) (by kernel_rfl) rfl).is (Vb.mono F.below)⟩,?_⟩
      refine⟨fun a' w' F=>⟨_,rfl,aB rfl,bO (.inl rfl) (F.keep 5 (Value.int IntKind.i64 ((k:Nat))) (by kernel_rfl) rfl).is⟩,?_⟩
      refine⟨fun a' w' F=>⟨_,rfl,aB rfl,ck rfl (F.f 3 rfl) (F.f 4 rfl) (hn) (hk60)⟩,?_⟩
      refine⟨fun a' w' F=>⟨_,rfl,aB rfl,dY rfl (F.f 2 rfl) (F.f 5 rfl) (fun _=>rfl) (fun _=>by go_simp)⟩,?_⟩
      exact trivial
     intro gp wp bp G
     have ep6:gp 6=Value.bool (decide (((D m k:Nat):Int)<((D n k:Nat):Int))):=G 6 24 _ rfl
     simp only[jF]
     simp only[dh,aT,List.map_cons,List.map_nil,List.foldl_cons,List.foldl_nil,Act.put,List.setIfInBounds_toArray,List.set_cons_zero,List.set_cons_succ,ep6]
     clear G
     replace Va:=Va.mono bp
     replace Vb:=Vb.mono bp
     go_upto_region 6 with(fail)
     refine gA Tryz.f109 6 (nK w.heap.size (w.heap.size+1) m n k) (by kernel_rfl) (by kernel_rfl) rfl (by kernel_rfl) (by kernel_rfl) ?_ ?_
     ·refine⟨fun a' w' F=>⟨_,rfl,aB rfl,cd rfl (F.keep 2 (Value.pointer (some ⟨w.heap.size,0,none⟩)) (by kernel_rfl) rfl).is (Va.mono F.below)⟩,?_⟩
      refine⟨fun a' w' F=>⟨_,rfl,aB rfl,bO (.inl rfl) (F.keep 5 (Value.int IntKind.i64 ((k:Nat))) (by kernel_rfl) rfl).is⟩,?_⟩
      refine⟨fun a' w' F=>⟨_,rfl,aB rfl,ck rfl (F.f 0 rfl) (F.f 1 rfl) (hm) (hk60)⟩,?_⟩
      refine⟨fun a' w' F=>⟨_,rfl,aB rfl,cd rfl (F.keep 3 (Value.pointer (some ⟨w.heap.size+1,0,none⟩)) (by kernel_rfl) rfl).is (Vb.mono F.below)⟩,?_⟩
      refine⟨fun a' w' F=>⟨_,rfl,aB rfl,bO (.inl rfl) (F.keep 5 (Value.int IntKind.i64 ((k:Nat))) (by kernel_rfl) rfl).is⟩,?_⟩
      refine⟨fun a' w' F=>⟨_,rfl,aB rfl,ck rfl (F.f 3 rfl) (F.f 4 rfl) (hn) (hk60)⟩,?_⟩
      refine⟨fun a' w' F=>⟨_,rfl,aB rfl,dY rfl (F.f 2 rfl) (F.f 5 rfl) (fun _=>rfl) (fun _=>by go_simp)⟩,?_⟩
      exact trivial
     intro gq wq bq G
     have eq6:gq 6=Value.bool (decide (((D m k:Nat):Int)>((D n k:Nat):Int))):=G 6 31 _ rfl
     simp only[nK]
     simp only[dh,aT,List.map_cons,List.map_nil,List.foldl_cons,List.foldl_nil,Act.put,List.setIfInBounds_toArray,List.set_cons_zero,List.set_cons_succ,eq6]
     clear G
     go_wp2_with fail
     go_roundw
     case rel=>exact⟨k,by omega,by go_num,Lib.hid (sG HR.out HD.out),Va.mono bq,Vb.mono bq,(hb1.trans (bp.mono hb1.size)).trans (bq.mono (hb1.trans (bp.mono hb1.size)).size)⟩
     case measure=>simp[intOf]<;>omega
    ·have h1':¬((D m k:Nat):Int)<((D n k:Nat):Int):=by omega
     have h2':((D n k:Nat):Int)<((D m k:Nat):Int):=by omega
     go_upto_region 4 with(fail)
     refine gA Tryz.f109 4 (jF w.heap.size (w.heap.size+1) m n k) (by kernel_rfl) (by kernel_rfl) rfl (by kernel_rfl) (by kernel_rfl) ?_ ?_
     ·refine⟨fun a' w' F=>⟨_,rfl,aB rfl,cd rfl (F.keep 2 (Value.pointer (some ⟨w.heap.size,0,none⟩)) (by kernel_rfl) rfl).is (Va.mono F.below)⟩,?_⟩
      refine⟨fun a' w' F=>⟨_,rfl,aB rfl,bO (.inl rfl) (F.keep 5 (Value.int IntKind.i64 ((k:Nat))) (by kernel_rfl) rfl).is⟩,?_⟩
      refine⟨fun a' w' F=>⟨_,rfl,aB rfl,ck rfl (F.f 0 rfl) (F.f 1 rfl) (hm) (hk60)⟩,?_⟩
      refine⟨fun a' w' F=>⟨_,rfl,aB rfl,cd rfl (F.keep 3 (Value.pointer (some ⟨w.heap.size+1,0,none⟩)) (by kernel_rfl) rfl).is (Vb.mono F.below)⟩,?_⟩
      refine⟨fun a' w' F=>⟨_,rfl,aB rfl,bO (.inl rfl) (F.keep 5 (Value.int IntKind.i64 ((k:Nat))) (by kernel_rfl) rfl).is⟩,?_⟩
      refine⟨fun a' w' F=>⟨_,rfl,aB rfl,ck rfl (F.f 3 rfl) (F.f 4 rfl) (hn) (hk60)⟩,?_⟩
      refine⟨fun a' w' F=>⟨_,rfl,aB rfl,dY rfl (F.f 2 rfl) (F.f 5 rfl) (fun _=>rfl) (fun _=>by go_simp)⟩,?_⟩
      exact trivial
     intro gp wp bp G
     have ep6:gp 6=Value.bool (decide (((D m k:Nat):Int)<((D n k:Nat):Int))):=G 6 24 _ rfl
     simp only[jF]
     simp only[dh,aT,List.map_cons,List.map_nil,List.foldl_cons,List.foldl_nil,Act.put,List.setIfInBounds_toArray,List.set_cons_zero,List.set_cons_succ,ep6]
     clear G
     replace Va:=Va.mono bp
     replace Vb:=Vb.mono bp
     go_upto_region 6 with(fail)
     refine gA Tryz.f109 6 (nK w.heap.size (w.heap.size+1) m n k) (by kernel_rfl) (by kernel_rfl) rfl (by kernel_rfl) (by kernel_rfl) ?_ ?_
     ·refine⟨fun a' w' F=>⟨_,rfl,aB rfl,cd rfl (F.keep 2 (Value.pointer (some ⟨w.heap.size,0,none⟩)) (by kernel_rfl) rfl).is (Va.mono F.below)⟩,?_⟩
      refine⟨fun a' w' F=>⟨_,rfl,aB rfl,bO (.inl rfl) (F.keep 5 (Value.int IntKind.i64 ((k:Nat))) (by kernel_rfl) rfl).is⟩,?_⟩
      refine⟨fun a' w' F=>⟨_,rfl,aB rfl,ck rfl (F.f 0 rfl) (F.f 1 rfl) (hm) (hk60)⟩,?_⟩
      refine⟨fun a' w' F=>⟨_,rfl,aB rfl,cd rfl (F.keep 3 (Value.pointer (some ⟨w.heap.size+1,0,none⟩)) (by kernel_rfl) rfl).is (Vb.mono F.below)⟩,?_⟩
      refine⟨fun a' w' F=>⟨_,rfl,aB rfl,bO (.inl rfl) (F.keep 5 (Value.int IntKind.i64 ((k:Nat))) (by kernel_rfl) rfl).is⟩,?_⟩
      refine⟨fun a' w' F=>⟨_,rfl,aB rfl,ck rfl (F.f 3 rfl) (F.f 4 rfl) (hn) (hk60)⟩,?_⟩
      refine⟨fun a' w' F=>⟨_,rfl,aB rfl,dY rfl (F.f 2 rfl) (F.f 5 rfl) (fun _=>rfl) (fun _=>by go_simp)⟩,?_⟩
      exact trivial
     intro gq wq bq G
     have eq6:gq 6=Value.bool (decide (((D m k:Nat):Int)>((D n k:Nat):Int))):=G 6 31 _ rfl
     simp only[nK]
     simp only[dh,aT,List.map_cons,List.map_nil,List.foldl_cons,List.foldl_nil,Act.put,List.setIfInBounds_toArray,List.set_cons_zero,List.set_cons_succ,eq6]
     clear G
     go_wp2_with fail
     go_ret
     exact⟨by rw[jD (gw HR.out.symm h)];rfl,(hb1.trans (bp.mono hb1.size)).trans (bq.mono (hb1.trans (bp.mono hb1.size)).size)⟩
end Go.Proofs.YtfhinmdhjlmikaaGreat
namespace Go.Proofs.YtfhinmdhjlmikaaGreat
set_option linter.unusedSimpArgs false
set_option linter.unusedVariables false
set_option maxRecDepth 100000
open Go.RowKit
def nL (ga gb m n i S X:Nat):List (Nat×Tmp×Sp):=
  [(0,20,.nat (m)),
  (1,21,.val (Value.int IntKind.i64 ((i:Nat)))),
  (2,22,.val (Value.int IntKind.u64 (((D (m) (i):Nat):Int)))),
  (3,23,.nat (n)),
  (4,24,.val (Value.int IntKind.i64 ((i:Nat)))),
  (5,25,.val (Value.int IntKind.u64 (((D (n) (i):Nat):Int)))),
  (6,26,.val (Value.int IntKind.u64 (((S:Nat):Int)))),
  (7,27,.val (Value.int IntKind.u64 (((cy m n i:Nat):Int)))),
  (8,28,.val (Value.int IntKind.u64 (((X:Nat):Int)))),
  (9,8,.val (Value.int IntKind.u64 (((X:Nat):Int))))]
theorem max_of (m n:Nat):∃M,m≤M∧n≤M∧(M=m∨M=n)∧((m<n∧M=n)∨(¬m<n∧M=m)):=by
 rcases Nat.lt_or_ge m n with h | h
 ·exact⟨n,by omega,by omega,.inr rfl,.inl ⟨h,rfl⟩⟩
 ·exact⟨m,by omega,by omega,.inl rfl,.inr ⟨by omega,rfl⟩⟩
set_option maxRecDepth 100000 in
set_option maxHeartbeats 1000000 in
theorem jG (va vb:Value) (m n:Nat) (w:World) (ha:IsN w va m) (hb:IsN w vb n) (hm:nl m≤1000000000000) (hn:nl n≤1000000000000):
  Calls Tryz.prog 107 #[va,vb] w fun e w'=>dD w (m+n) e w':=by
 obtain⟨a,ca,rfl,hca,ra⟩:=ha
 obtain⟨b,cb,rfl,hcb,rb⟩:=hb
 obtain⟨k0,k1,k2⟩:=yB (L:=nl m) (c:=ca) (N:=m) (L2:=nl n) (c2:=cb) (N2:=n) ⟨a,ca,rfl,hca,ra⟩ ⟨b,cb,rfl,hcb,rb⟩
 have k3:=io ((w.alloc (.cells #[.slice a (nl m) ca] 25)).alloc (.cells #[.slice b (nl n) cb] 25)) (.cells #[.slice none 0 0] 25)
 have k4:=bf.made ((w.alloc (.cells #[.slice a (nl m) ca] 25)).alloc (.cells #[.slice b (nl n) cb] 25)) none 0 0
 rw[World.size_alloc,World.size_alloc]at k4
 replace k0:=k0.trans (k3.mono k0.size)
 replace k1:=ij.mono k1 k3
 replace k2:=ij.mono k2 k3
 obtain⟨M,hM1,hM2,hM3,hMM⟩:=max_of (nl m) (nl n)
 have hM:M≤1000000000000:=by rcases hM3 with h | h<;>omega
 clear hM3
 replace hMM:=Lib.hid hMM
 go_enter Tryz.func107,Tryz.ntmps107
 go_upto_region 1 with(fail)
 go_cut [5] (fun s5 wx=>s5= .slice none 0 0∧cC wx w.heap.size m∧cC wx (w.heap.size+1) n∧bf wx (w.heap.size+1+1) none 0 0∧Below w.heap.size w wx)
 case first=>
  go_wp2_with fail
  go_meet
  case rel=>exact⟨rfl,k1,k2,k4,k0⟩
 case rest=>
  obtain⟨rfl,Va,Vb,vr,hb1⟩:=hcut
  clear k0 k1 k2 k3 k4 ra rb
  go_wp2_with fail
  go_loopw [5,6,7] (fun s5 s6 s7 wr=>∃i:Nat,i≤M+1∧s7= .int .i64 (i:Int)∧s6= .int .u64 ((cy m n i:Nat):Int)∧GR wr wc.heap.size s5 i ((m+n) % 4294967296^i)∧Below wc.heap.size wc wr) (fun _ _ s7 _=>M+1 - (intOf s7).toNat)
  case atStart=>exact⟨0,Nat.zero_le _,rfl,by rw[nG];rfl,by rw[Nat.pow_zero,Nat.mod_one];exact GR.nil _ _,Below.refl _ _⟩
  case round=>
   obtain⟨i,hi,rfl,rfl,hgr,hbr⟩:=hrel
   have Va1:=Va.mono hbr
   have Vb1:=Vb.mono hbr
   obtain⟨ya,da,qa,ia⟩:=Va1
   have ea:=qa.cell
   obtain⟨yb,db,qb,ib⟩:=Vb1
   have eb:=qb.cell
   have hi60:i≤60000000000000:=by omega
   have hcy:=mU m n i
   by_cases hlt:i≤M
   ·have hst:=kW m n i
    have hd:=cT (m+n) i
    obtain⟨S,hS⟩:∃S:Nat,Hid (S=D m i+D n i):=⟨_,Lib.hid rfl⟩
    obtain⟨X,hX⟩:∃X:Nat,Hid (X=S+cy m n i):=⟨_,Lib.hid rfl⟩
    have hSb:S<8589934592:=by have:=cT m i;have:=cT n i;have:=hS.out;omega
    have hXb:X<8589934593:=by have:=hX.out;omega
    have hrem:((X:Nat):Int) % 4294967296=((D (m+n) i:Nat):Int):=by have:=hX.out;have:=hS.out;omega
    have hquo:((X:Nat):Int) / 4294967296=((cy m n (i+1):Nat):Int):=by have:=hX.out;have:=hS.out;omega
    clear hst
    have hcy2:=mU m n (i+1)
    have Va:cC wr w.heap.size m:=⟨ya,da,qa,ia⟩
    have Vb:cC wr (w.heap.size+1) n:=⟨yb,db,qb,ib⟩
    rcases hMM.out with⟨hmx,hme⟩ | ⟨hmx,hme⟩
    ·have hle:i≤nl n:=by omega
     have HME:=Lib.hid hme
     clear hme hlt
     go_upto_region 6 with(fail)
     refine gA Tryz.f107 6 (nL w.heap.size (w.heap.size+1) m n i S X) (by kernel_rfl) (by kernel_rfl) rfl (by kernel_rfl) (by kernel_rfl) ?_ ?_
     ·refine⟨fun a' w' F=>⟨_,rfl,aB rfl,cd rfl (F.keep 2 (Value.pointer (some ⟨w.heap.size,0,none⟩)) (by kernel_rfl) rfl).is (Va.mono F.below)⟩,?_⟩
      refine⟨fun a' w' F=>⟨_,rfl,aB rfl,bO (.inl rfl) (F.keep 7 (Value.int IntKind.i64 ((i:Nat))) (by kernel_rfl) rfl).is⟩,?_⟩
      refine⟨fun a' w' F=>⟨_,rfl,aB rfl,ck rfl (F.f 0 rfl) (F.f 1 rfl) (hm) (hi60)⟩,?_⟩
      refine⟨fun a' w' F=>⟨_,rfl,aB rfl,cd rfl (F.keep 3 (Value.pointer (some ⟨w.heap.size+1,0,none⟩)) (by kernel_rfl) rfl).is (Vb.mono F.below)⟩,?_⟩
      refine⟨fun a' w' F=>⟨_,rfl,aB rfl,bO (.inl rfl) (F.keep 7 (Value.int IntKind.i64 ((i:Nat))) (by kernel_rfl) rfl).is⟩,?_⟩
      refine⟨fun a' w' F=>⟨_,rfl,aB rfl,ck rfl (F.f 3 rfl) (F.f 4 rfl) (hn) (hi60)⟩,?_⟩
      refine⟨fun a' w' F=>⟨_,rfl,aB rfl,dY rfl (F.f 2 rfl) (F.f 5 rfl) (fun _=>rfl) (i8 _ _ _ hS.out.symm (by have:=hSb;omega))⟩,?_⟩
      refine⟨fun a' w' F=>⟨_,rfl,aB rfl,bO (.inl rfl) (F.keep 6 (Value.int IntKind.u64 (((cy m n i:Nat):Int))) (by kernel_rfl) rfl).is⟩,?_⟩
      refine⟨fun a' w' F=>⟨_,rfl,aB rfl,dY rfl (F.f 6 rfl) (F.f 7 rfl) (fun _=>rfl) (i8 _ _ _ hX.out.symm (by have:=hXb;omega))⟩,?_⟩
      refine⟨fun a' w' F=>⟨_,rfl,aB rfl,bO (.inr rfl) (F.f 8 rfl)⟩,?_⟩
      exact trivial
     intro gp wp bp G
     have ep9:gp 9=Value.int IntKind.u64 (((X:Nat):Int)):=G 9 8 _ rfl
     simp only[nL]
     simp only[dh,aT,List.map_cons,List.map_nil,List.foldl_cons,List.foldl_nil,Act.put,List.setIfInBounds_toArray,List.set_cons_zero,List.set_cons_succ,ep9]
     clear G
     have hgr1:=hgr.below bp
     have hb2:=hbr.trans (bp.mono hbr.size)
     have hsr1:=hb2.size
     obtain⟨a',c',rfl,hLc,hrw,hown⟩:=hgr1.open
     clear hgr ea qa ia eb qb ib Va Vb
     go_wp2_with (at_builtin;refine dc rfl _ _ rfl wc.heap.size (.slice a' i c') i ((m+n) % 4294967296^i) (D (m+n) i) rfl hgr1 hsr1 rfl hd (by omega) ?_)
     intro v' w' hg' hb' hs'
     rw[lm]at hg'
     go_wp2_with fail
     go_roundw
     case rel=>exact⟨i+1,by omega,by go_num,rfl,hg',hb2.trans hb'⟩
     case measure=>simp[intOf]<;>omega
    ·have hle:i≤nl m:=by omega
     have HME:=Lib.hid hme
     clear hme hlt
     go_upto_region 6 with(fail)
     refine gA Tryz.f107 6 (nL w.heap.size (w.heap.size+1) m n i S X) (by kernel_rfl) (by kernel_rfl) rfl (by kernel_rfl) (by kernel_rfl) ?_ ?_
     ·refine⟨fun a' w' F=>⟨_,rfl,aB rfl,cd rfl (F.keep 2 (Value.pointer (some ⟨w.heap.size,0,none⟩)) (by kernel_rfl) rfl).is (Va.mono F.below)⟩,?_⟩
      refine⟨fun a' w' F=>⟨_,rfl,aB rfl,bO (.inl rfl) (F.keep 7 (Value.int IntKind.i64 ((i:Nat))) (by kernel_rfl) rfl).is⟩,?_⟩
      refine⟨fun a' w' F=>⟨_,rfl,aB rfl,ck rfl (F.f 0 rfl) (F.f 1 rfl) (hm) (hi60)⟩,?_⟩
      refine⟨fun a' w' F=>⟨_,rfl,aB rfl,cd rfl (F.keep 3 (Value.pointer (some ⟨w.heap.size+1,0,none⟩)) (by kernel_rfl) rfl).is (Vb.mono F.below)⟩,?_⟩
      refine⟨fun a' w' F=>⟨_,rfl,aB rfl,bO (.inl rfl) (F.keep 7 (Value.int IntKind.i64 ((i:Nat))) (by kernel_rfl) rfl).is⟩,?_⟩
      refine⟨fun a' w' F=>⟨_,rfl,aB rfl,ck rfl (F.f 3 rfl) (F.f 4 rfl) (hn) (hi60)⟩,?_⟩
      refine⟨fun a' w' F=>⟨_,rfl,aB rfl,dY rfl (F.f 2 rfl) (F.f 5 rfl) (fun _=>rfl) (i8 _ _ _ hS.out.symm (by have:=hSb;omega))⟩,?_⟩
      refine⟨fun a' w' F=>⟨_,rfl,aB rfl,bO (.inl rfl) (F.keep 6 (Value.int IntKind.u64 (((cy m n i:Nat):Int))) (by kernel_rfl) rfl).is⟩,?_⟩
      refine⟨fun a' w' F=>⟨_,rfl,aB rfl,dY rfl (F.f 6 rfl) (F.f 7 rfl) (fun _=>rfl) (i8 _ _ _ hX.out.symm (by have:=hXb;omega))⟩,?_⟩
      refine⟨fun a' w' F=>⟨_,rfl,aB rfl,bO (.inr rfl) (F.f 8 rfl)⟩,?_⟩
      exact trivial
     intro gp wp bp G
     have ep9:gp 9=Value.int IntKind.u64 (((X:Nat):Int)):=G 9 8 _ rfl
     simp only[nL]
     simp only[dh,aT,List.map_cons,List.map_nil,List.foldl_cons,List.foldl_nil,Act.put,List.setIfInBounds_toArray,List.set_cons_zero,List.set_cons_succ,ep9]
     clear G
     have hgr1:=hgr.below bp
     have hb2:=hbr.trans (bp.mono hbr.size)
     have hsr1:=hb2.size
     obtain⟨a',c',rfl,hLc,hrw,hown⟩:=hgr1.open
     clear hgr ea qa ia eb qb ib Va Vb
     go_wp2_with (at_builtin;refine dc rfl _ _ rfl wc.heap.size (.slice a' i c') i ((m+n) % 4294967296^i) (D (m+n) i) rfl hgr1 hsr1 rfl hd (by omega) ?_)
     intro v' w' hg' hb' hs'
     rw[lm]at hg'
     go_wp2_with fail
     go_roundw
     case rel=>exact⟨i+1,by omega,by go_num,rfl,hg',hb2.trans hb'⟩
     case measure=>simp[intOf]<;>omega
   ·obtain rfl:i=M+1:=by omega
    have hsum:m+n<4294967296^(M+1):=by
     have h1:=aZ.1 hM1
     have h2:=aZ.1 hM2
     rw[Nat.pow_succ];omega
    rw[Nat.mod_eq_of_lt hsum]at hgr
    obtain⟨a',c',rfl,hLc,hrw,hown⟩:=hgr.open
    rcases hMM.out with⟨hmx,hme⟩ | ⟨hmx,hme⟩
    ·generalize hi1:M+1=i at *
     have hle:¬i≤nl n:=by omega
     have HME:=Lib.hid hme
     clear hme hlt
     go_wp2_with fail
     refine(od a' i c' (m+n) _ hrw (by omega)).mono ?_
     rintro e w2 ⟨v2,rfl,⟨x2,c2,rfl,hc2,hx2⟩,bb⟩
     have n2:bj wc.heap.size w2 (.agg #[.slice x2 (nl (m+n)) c2]) (m+n):=bj.weaken (base:=wr.heap.size) ⟨x2,c2,rfl,hc2,hx2⟩ hbr.size
     have vr2:=(vr.mono hbr vr.lt).mono bb (Nat.lt_of_lt_of_le vr.lt hbr.size)
     have cr:=vr2.cell
     have fr:=vr2.frozen
     have n3:=n2.setVar (u:=.slice x2 (nl (m+n)) c2) vr2
     go_wp2
     exact bodyPost_ret (eZ rfl _ _ (w.heap.size+1+1) _ rfl vr2.set.cell) rfl ⟨_,rfl,n3.weaken hb1.size,((hb1.trans (hbr.mono hb1.size)).trans (bb.mono (Nat.le_trans hb1.size hbr.size))).setCell (p:=⟨w.heap.size+1+1,0,none⟩) (by simp;omega) _⟩
    ·generalize hi1:M+1=i at *
     have hle:¬i≤nl m:=by omega
     have HME:=Lib.hid hme
     clear hme hlt
     go_wp2_with fail
     refine(od a' i c' (m+n) _ hrw (by omega)).mono ?_
     rintro e w2 ⟨v2,rfl,⟨x2,c2,rfl,hc2,hx2⟩,bb⟩
     have n2:bj wc.heap.size w2 (.agg #[.slice x2 (nl (m+n)) c2]) (m+n):=bj.weaken (base:=wr.heap.size) ⟨x2,c2,rfl,hc2,hx2⟩ hbr.size
     have vr2:=(vr.mono hbr vr.lt).mono bb (Nat.lt_of_lt_of_le vr.lt hbr.size)
     have cr:=vr2.cell
     have fr:=vr2.frozen
     have n3:=n2.setVar (u:=.slice x2 (nl (m+n)) c2) vr2
     go_wp2
     exact bodyPost_ret (eZ rfl _ _ (w.heap.size+1+1) _ rfl vr2.set.cell) rfl ⟨_,rfl,n3.weaken hb1.size,((hb1.trans (hbr.mono hb1.size)).trans (bb.mono (Nat.le_trans hb1.size hbr.size))).setCell (p:=⟨w.heap.size+1+1,0,none⟩) (by simp;omega) _⟩
end Go.Proofs.YtfhinmdhjlmikaaGreat
namespace Go.Proofs.YtfhinmdhjlmikaaGreat
set_option linter.unusedSimpArgs false
set_option linter.unusedVariables false
set_option maxRecDepth 100000
open Go.RowKit
def xu (ga gb m n d i S T X:Nat):List (Nat×Tmp×Sp):=
  [(0,22,.nat (m)),
  (1,23,.val (Value.int IntKind.i64 ((i:Nat)))),
  (2,24,.val (Value.int IntKind.u64 (((D (m) (i):Nat):Int)))),
  (3,25,.val (Value.int IntKind.u64 (((S:Nat):Int)))),
  (4,26,.nat (n)),
  (5,27,.val (Value.int IntKind.i64 ((i:Nat)))),
  (6,28,.val (Value.int IntKind.u64 (((D (n) (i):Nat):Int)))),
  (7,29,.val (Value.int IntKind.u64 (((T:Nat):Int)))),
  (8,30,.val (Value.int IntKind.u64 (((cy n d i:Nat):Int)))),
  (9,31,.val (Value.int IntKind.u64 (((X:Nat):Int)))),
  (10,9,.val (Value.int IntKind.u64 (((X:Nat):Int))))]
set_option maxRecDepth 100000 in
set_option maxHeartbeats 1000000 in
theorem pX (va vb:Value) (m n:Nat) (w:World) (ha:IsN w va m) (hb:IsN w vb n) (hm:nl m≤1000000000000) (hn:nl n≤1000000000000):
  Calls Tryz.prog 110 #[va,vb] w fun e w'=>n5 w m n e w':=by
 obtain⟨a,ca,rfl,hca,ra⟩:=ha
 obtain⟨b,cb,rfl,hcb,rb⟩:=hb
 obtain⟨k0,k1,k2⟩:=yB (L:=nl m) (c:=ca) (N:=m) (L2:=nl n) (c2:=cb) (N2:=n) ⟨a,ca,rfl,hca,ra⟩ ⟨b,cb,rfl,hcb,rb⟩
 have k3:=io ((w.alloc (.cells #[.slice a (nl m) ca] 25)).alloc (.cells #[.slice b (nl n) cb] 25)) (.cells #[.slice none 0 0] 25)
 have k4:=bf.made ((w.alloc (.cells #[.slice a (nl m) ca] 25)).alloc (.cells #[.slice b (nl n) cb] 25)) none 0 0
 rw[World.size_alloc,World.size_alloc]at k4
 replace k0:=k0.trans (k3.mono k0.size)
 replace k1:=ij.mono k1 k3
 replace k2:=ij.mono k2 k3
 go_enter Tryz.func110,Tryz.ntmps110
 go_upto_region 0 with(fail)
 go_cut [2,3,4,5] (fun s2 s3 s4 s5 wx=>s2= .pointer (some ⟨w.heap.size,0,none⟩)∧s3= .pointer (some ⟨w.heap.size+1,0,none⟩)∧s4= .pointer (some ⟨w.heap.size+1+1,0,none⟩)∧s5= .bool false∧cC wx w.heap.size m∧cC wx (w.heap.size+1) n∧bf wx (w.heap.size+1+1) none 0 0∧Below w.heap.size w wx)
 case first=>
  go_wp2_with fail
  go_meet
  case rel=>exact⟨rfl,rfl,rfl,rfl,k1,k2,k4,k0⟩
 case rest=>
  obtain⟨rfl,rfl,rfl,rfl,Va,Vb,vr,hb1⟩:=hcut
  clear k0 k1 k2 k3 k4 ra rb
  have Va1:=Va
  have Vb1:=Vb
  obtain⟨ya,da,qa,ia⟩:=Va1
  have ea:=qa.cell
  obtain⟨yb,db,qb,ib⟩:=Vb1
  have eb:=qb.cell
  go_wp2_with fail
  refine(mo _ _ m n _ ia ib hm hn).mono ?_
  rintro e w1 ⟨rfl,bb⟩
  replace Va:=Va.mono bb
  replace Vb:=Vb.mono bb
  replace vr:=vr.mono bb vr.lt
  replace hb1:=hb1.trans (bb.mono hb1.size)
  clear ea qa ia eb qb ib bb
  have cr:=vr.cell
  have fr:=vr.frozen
  by_cases hmn:m<n
  ·rw[gt hmn]
   have hle:¬n≤m:=by omega
   have h0:m - n=0:=by omega
   go_wp2
   exact bodyPost_ret (kX rfl _ _ (w.heap.size+1+1) (.slice none 0 0) (.bool false) rfl rfl vr.set.cell) rfl ⟨_,by rw[decide_eq_false hle],by rw[h0];exact bj.of_zero,hb1.setCell (p:=⟨w.heap.size+1+1,0,none⟩) (by simp;omega) _⟩
  ·obtain⟨d,hd0⟩:∃d,m=n+d:=⟨m - n,by omega⟩
   have hcm:¬dX m n<0:=by
    rcases Nat.lt_or_ge n m with h | h
    ·rw[jD h];decide
    ·rw[kY (by omega)];decide
   have hret:decide (n≤m)=true:=decide_eq_true (by omega)
   have hmd:m - n=d:=by omega
   have HD:=Lib.hid hd0
   clear hd0 hmn
   have HR:=Lib.hid hret
   have HM:=Lib.hid hmd
   clear hret hmd
   go_wp2_with fail
   have hb1':=hb1
   generalize hwc:w1=wc at *
   go_loopw [6,7,8] (fun s6 s7 s8 wr=>∃i:Nat,i≤nl m∧s8= .int .i64 (i:Int)∧s7= .int .u64 ((cy n d i:Nat):Int)∧GR wr wc.heap.size s6 i (d % 4294967296^i)∧Below wc.heap.size wc wr) (fun _ _ s8 _=>nl m - (intOf s8).toNat)
   case atStart=>exact⟨0,Nat.zero_le _,rfl,by rw[nG];rfl,by rw[Nat.pow_zero,Nat.mod_one];exact GR.nil _ _,Below.refl _ _⟩
   case round=>
    obtain⟨i,hi,rfl,rfl,hgr,hbr⟩:=hrel
    clear cr fr
    have Va1:=Va.mono hbr
    have Vb1:=Vb.mono hbr
    obtain⟨ya,da,qa,ia⟩:=Va1
    have ea:=qa.cell
    obtain⟨yb,db,qb,ib⟩:=Vb1
    have eb:=qb.cell
    have hi60:i≤60000000000000:=by omega
    have hcy:=mU n d i
    by_cases hlt:i<nl m
    ·have hst:=kW n d i
     rw[←HD.out]at hst
     have hd:=cT d i
     have hdn:=cT n i
     have hdm:=cT m i
     have hcy2:=mU n d (i+1)
     obtain⟨S,hS⟩:∃S:Nat,Hid (S=4294967296+D m i):=⟨_,Lib.hid rfl⟩
     obtain⟨T,hT⟩:∃T:Nat,Hid (S=D n i+T):=⟨S - D n i,Lib.hid (by have:=hS.out;omega)⟩
     obtain⟨X,hX⟩:∃X:Nat,Hid (T=cy n d i+X):=⟨T - cy n d i,Lib.hid (by have:=hS.out;have:=hT.out;omega)⟩
     obtain⟨Y,hY⟩:∃Y:Nat,Hid (Y+cy n d (i+1)=1):=⟨1 - cy n d (i+1),Lib.hid (by omega)⟩
     have hSb:S<8589934592:=by have:=hS.out;omega
     have hTb:T<8589934592:=by have:=hT.out;omega
     have hXb:X<8589934592:=by have:=hX.out;omega
     have hYb:Y≤1:=by have:=hY.out;omega
     have hrem:((X:Nat):Int) % 4294967296=((D d i:Nat):Int):=by have:=hX.out;have:=hS.out;have:=hT.out;omega
     have hquo:((X:Nat):Int) / 4294967296=((Y:Nat):Int):=by have:=hX.out;have:=hS.out;have:=hT.out;have:=hY.out;omega
     have hbor:(1:Int) - ((Y:Nat):Int)=((cy n d (i+1):Nat):Int):=by have:=hY.out;omega
     clear hst hdn hdm
     have Va:cC wr w.heap.size m:=⟨ya,da,qa,ia⟩
     have Vb:cC wr (w.heap.size+1) n:=⟨yb,db,qb,ib⟩
     go_upto_region 8 with(fail)
     refine gA Tryz.f110 8 (xu w.heap.size (w.heap.size+1) m n d i S T X) (by kernel_rfl) (by kernel_rfl) rfl (by kernel_rfl) (by kernel_rfl) ?_ ?_
     ·refine⟨fun a' w' F=>⟨_,rfl,aB rfl,cd rfl (F.keep 2 (Value.pointer (some ⟨w.heap.size,0,none⟩)) (by kernel_rfl) rfl).is (Va.mono F.below)⟩,?_⟩
      refine⟨fun a' w' F=>⟨_,rfl,aB rfl,bO (.inl rfl) (F.keep 8 (Value.int IntKind.i64 ((i:Nat))) (by kernel_rfl) rfl).is⟩,?_⟩
      refine⟨fun a' w' F=>⟨_,rfl,aB rfl,ck rfl (F.f 0 rfl) (F.f 1 rfl) (hm) (hi60)⟩,?_⟩
      refine⟨fun a' w' F=>⟨_,rfl,aB rfl,dY rfl Is.const (F.f 2 rfl) (fun _=>rfl) (i8 4294967296 _ _ hS.out.symm (by have:=hSb;omega))⟩,?_⟩
      refine⟨fun a' w' F=>⟨_,rfl,aB rfl,cd rfl (F.keep 3 (Value.pointer (some ⟨w.heap.size+1,0,none⟩)) (by kernel_rfl) rfl).is (Vb.mono F.below)⟩,?_⟩
      refine⟨fun a' w' F=>⟨_,rfl,aB rfl,bO (.inl rfl) (F.keep 8 (Value.int IntKind.i64 ((i:Nat))) (by kernel_rfl) rfl).is⟩,?_⟩
      refine⟨fun a' w' F=>⟨_,rfl,aB rfl,ck rfl (F.f 4 rfl) (F.f 5 rfl) (hn) (hi60)⟩,?_⟩
      refine⟨fun a' w' F=>⟨_,rfl,aB rfl,dY rfl (F.f 3 rfl) (F.f 6 rfl) (fun _=>rfl) (sH _ _ _ hT.out (by have:=hSb;omega))⟩,?_⟩
      refine⟨fun a' w' F=>⟨_,rfl,aB rfl,bO (.inl rfl) (F.keep 7 (Value.int IntKind.u64 (((cy n d i:Nat):Int))) (by kernel_rfl) rfl).is⟩,?_⟩
      refine⟨fun a' w' F=>⟨_,rfl,aB rfl,dY rfl (F.f 7 rfl) (F.f 8 rfl) (fun _=>rfl) (sH _ _ _ hX.out (by have:=hTb;omega))⟩,?_⟩
      refine⟨fun a' w' F=>⟨_,rfl,aB rfl,bO (.inr rfl) (F.f 9 rfl)⟩,?_⟩
      exact trivial
     intro gp wp bp G
     have ep10:gp 10=Value.int IntKind.u64 (((X:Nat):Int)):=G 10 9 _ rfl
     simp only[xu]
     simp only[dh,aT,List.map_cons,List.map_nil,List.foldl_cons,List.foldl_nil,Act.put,List.setIfInBounds_toArray,List.set_cons_zero,List.set_cons_succ,ep10]
     clear G
     have hgr1:=hgr.below bp
     have hb2:=hbr.trans (bp.mono hbr.size)
     have hsr1:=hb2.size
     obtain⟨a',c',rfl,hLc,hrw,hown⟩:=hgr1.open
     clear hgr ea qa ia eb qb ib Va Vb
     go_wp2_with (at_builtin;refine dc rfl _ _ rfl wc.heap.size (.slice a' i c') i (d % 4294967296^i) (D d i) rfl hgr1 hsr1 rfl hd (by omega) ?_)
     intro v' w' hg' hb' hs'
     rw[lm]at hg'
     go_wp2_with fail
     go_roundw
     case rel=>exact⟨i+1,by omega,by go_num,rfl,hg',hb2.trans hb'⟩
     case measure=>simp[intOf]<;>omega
    ·obtain rfl:i=nl m:=by omega
     have hsum:d<4294967296^nl m:=Nat.lt_of_le_of_lt (by have:=HD.out;omega) (eH m)
     rw[Nat.mod_eq_of_lt hsum]at hgr
     obtain⟨a',c',rfl,hLc,hrw,hown⟩:=hgr.open
     go_wp2_with fail
     refine(od a' (nl m) c' d _ hrw (by omega)).mono ?_
     rintro e w2 ⟨v2,rfl,⟨x2,c2,rfl,hc2,hx2⟩,bb⟩
     have n2:bj wc.heap.size w2 (.agg #[.slice x2 (nl d) c2]) d:=bj.weaken (base:=wr.heap.size) ⟨x2,c2,rfl,hc2,hx2⟩ hbr.size
     have vr2:=(vr.mono hbr vr.lt).mono bb (Nat.lt_of_lt_of_le vr.lt hbr.size)
     have cr:=vr2.cell
     have fr:=vr2.frozen
     have n3:=n2.setVar (u:=.slice x2 (nl d) c2) vr2
     go_wp2
     exact bodyPost_ret (kX rfl _ _ (w.heap.size+1+1) _ (.bool true) rfl rfl vr2.set.cell) rfl ⟨_,by rw[HR.out],by rw[HM.out];exact n3.weaken hb1.size,((hb1.trans (hbr.mono hb1.size)).trans (bb.mono (Nat.le_trans hb1.size hbr.size))).setCell (p:=⟨w.heap.size+1+1,0,none⟩) (by simp;omega) _⟩
end Go.Proofs.YtfhinmdhjlmikaaGreat
namespace Go.Proofs.YtfhinmdhjlmikaaGreat
set_option linter.unusedSimpArgs false
set_option linter.unusedVariables false
set_option maxRecDepth 100000
open Go.RowKit
theorem bw.drewN {w:World} {g L N:Nat} (h:bw w g L N) (q:Nat):bw (w.drewN q) g L N:=h
theorem bj.setLow {w:World} {base N:Nat} {v u:Value} (h:bj base w v N) (p:Addr) (hp:p.block<base):bj base (w.setCell p u) v N:=by
 obtain⟨x,cap,rfl,hc,hx⟩:=h
 refine⟨x,cap,rfl,hc,fun hL=> ?_⟩
 obtain⟨b,off,rfl,hb,hd,hf⟩:=hx hL
 have hne:b≠p.block:=by omega
 refine⟨b,off,rfl,hb,fun j hj=> ?_,fun j hj=> ?_⟩
 ·rw[World.cell?_of_block (Below.heap_setCell w p u b hne)];exact hd j hj
 ·rw[World.frozen?_of_block (Below.heap_setCell w p u b hne)];exact hf j hj
set_option maxHeartbeats 1000000 in
theorem yC (va vb:Value) (m n:Nat) (w:World) (ha:IsN w va m) (hb:IsN w vb n) (hm:nl m≤1000000000000) (hn:nl n≤1000000000000):
  Calls Tryz.prog 111 #[va,vb] w fun e w'=>dD w (m*n) e w':=by
 obtain⟨a,ca,rfl,hca,ra⟩:=ha
 obtain⟨b,cb,rfl,hcb,rb⟩:=hb
 have hw:Below w.heap.size w (((w.alloc (.cells #[.slice a (nl m) ca] 25)).alloc (.cells #[.slice b (nl n) cb] 25)).alloc (.cells #[.slice none 0 0] 25)):=(((Below.refl _ _).alloc (Nat.le_refl _) _).alloc (by simp) _).alloc (by simp;omega) _
 go_enter Tryz.func111,Tryz.ntmps111
 go_upto_region 1 with(fail)
 go_cut [5] (fun s5 wx=>∃g,s5= .slice (some ⟨g,0,none⟩) (nl m+nl n) (nl m+nl n)∧bw wx g (nl m+nl n) 0∧Made w wx (w.heap.size+1+1) g∧
   wx.cell? ⟨w.heap.size,0,none⟩=some (.slice a (nl m) ca)∧wx.cell? ⟨w.heap.size+1,0,none⟩=some (.slice b (nl n) cb))
 case first=>
  have hown:=bw.made (((w.alloc (.cells #[.slice a (nl m) ca] 25)).alloc (.cells #[.slice b (nl n) cb] 25)).alloc (.cells #[.slice none 0 0] 25)) (nl m+nl n)
  go_wp2_with (at_make;refine cm rfl _ _ rfl _ _ _ _ (nl m+nl n) rfl rfl (by omega) (by omega) (by omega) ?_)
  go_meet
  case rel=>exact⟨_,rfl,by simpa using hown,⟨hw.alloc (by simp;omega) _,by omega,by simp,by simp,by simp[go_sem],by simp[go_sem]⟩,by simp[go_sem],by simp[go_sem]⟩
 case rest=>
  obtain⟨g,rfl,hown,hmade,hca',hcb'⟩:=hcut
  have hlt1:=hmade.lt
  go_wp2_with fail
  go_loopw [6] (fun s6 wr=>∃i:Nat,i≤nl m∧s6= .int .i64 i∧bw wr g (nl m+nl n) ((m % 4294967296^i)*n)∧Below g wc wr)
   (fun i _=>nl m - (intOf i).toNat)
  case atStart=>exact⟨0,Nat.zero_le _,rfl,by simpa [Nat.mod_one]using hown,Below.refl _ _⟩
  case round=>
   obtain⟨i,hi,rfl,ho,hbr⟩:=hrel
   have hmr:=hmade.step hbr
   have c0:=(hbr.cell (p:=⟨w.heap.size,0,none⟩) (by show w.heap.size<g;omega)).trans hca'
   by_cases hlt:i<nl m
   ·have c2:=(hbr.cell (p:=⟨w.heap.size+1,0,none⟩) (by show w.heap.size+1<g;omega)).trans hcb'
    have hdx:=cT m i
    go_wp2_with fail
    go_loopw [7,8] (fun s7 s8 wq=>∃k O c:Nat,k≤nl n∧s8= .int .i64 k∧s7= .int .u64 (c:Int)∧c<4294967296∧bw wq g (nl m+nl n) O∧i6 m n i k O c∧Below g wc wq)
     (fun _ s _=>nl n - (intOf s).toNat)
    case atStart=>exact⟨0,(m % 4294967296^i)*n,0,Nat.zero_le _,rfl,rfl,by decide,ho,i6.start m n i,hbr⟩
    case round=>
     obtain⟨k,O,c,hk,rfl,rfl,hc,hoq,hat,hbq⟩:=hrel
     have hmq:=hmade.step hbq
     clear ho hbr hmr c0 c2
     have c0:=(hbq.cell (p:=⟨w.heap.size,0,none⟩) (by show w.heap.size<g;omega)).trans hca'
     have c2:=(hbq.cell (p:=⟨w.heap.size+1,0,none⟩) (by show w.heap.size+1<g;omega)).trans hcb'
     by_cases hlt2:k<nl n
     ·have raq:=ra.mono hmq.below
      obtain⟨b1,o1,rfl,h1⟩:=raq.cells (by omega)
      have c1:=h1 i hlt
      have rbq:=rb.mono hmq.below
      obtain⟨b2,o2,rfl,h2⟩:=rbq.cells (by omega)
      have c3:=h2 k hlt2
      have hdy:=cT n k
      have c4:=hoq.cell (p:=i+k) (by omega)
      have f4:=hoq.frozen (i+k)
      have hdo:=cT O (i+k)
      have hxy:((D m i:Nat):Int)*((D n k:Nat):Int)≤18446744065119617025:=by
       have h:=Nat.mul_le_mul (show D m i≤4294967295 by omega) (show D n k≤4294967295 by omega)
       have h':((D m i*D n k:Nat):Int)≤18446744065119617025:=by omega
       simpa using h'
      have hxy0:0≤((D m i:Nat):Int)*((D n k:Nat):Int):=Int.mul_nonneg (by omega) (by omega)
      have HT:=hat.step hlt2
      go_wp2_with fail
      go_quiet (fail)
      go_wp2
      go_roundw
      case rel=>
       have hst:=fun q=>(hoq.drewN q).store (p:=i+k) (e:=(D m i*D n k+D O (i+k)+c) % 4294967296) (by omega) (Nat.mod_lt _ (by decide))
       exact⟨k+1,_,_,by omega,by go_num,by simp,by rw[Nat.div_lt_iff_lt_mul (by decide)];omega,by simpa using hst _,HT,by simpa using (bg hbq _).setCell (p:=⟨g,i+k,none⟩) (Nat.le_refl _) _⟩
      case measure=>simp[intOf]<;>omega
     ·obtain rfl:k=nl n:=by omega
      have c4:=hoq.cell (p:=i+nl n) (by omega)
      have f4:=hoq.frozen (i+nl n)
      have hst:=hoq.store (p:=i+nl n) (e:=c) (by omega) hc
      rw[hat.last]at hst
      have hbs:=hbq.setCell (p:=⟨g,i+nl n,none⟩) (Nat.le_refl _) (.int .u32 (c:Int))
      go_wp2
      go_roundw
      case rel=>exact⟨i+1,by omega,by go_num,hst,hbs⟩
      case measure=>simp[intOf]<;>omega
   ·obtain rfl:i=nl m:=by omega
    rw[uq]at ho
    go_wp2_with fail
    refine(od _ (nl m+nl n) (nl m+nl n) (m*n) _ ho.rw' (by omega)).mono ?_
    rintro e w1 ⟨v1,rfl,⟨x1,c1,rfl,hc1,hx1⟩,hb2⟩
    obtain⟨hcc,hff⟩:=hmr.after hb2
    have hb0:=hmr.below
    have hz:=hmr.lt
    have hz2:=hmr.size
    have n2:bj wr.heap.size w1 (.agg #[.slice x1 (nl (m*n)) c1]) (m*n):=⟨x1,c1,rfl,hc1,hx1⟩
    have n3:=(n2.setLow (u:=.slice x1 (nl (m*n)) c1) ⟨w.heap.size+1+1,0,none⟩ (by show w.heap.size+1+1<wr.heap.size;omega)).weaken hb0.size
    have hB:=(hb0.trans (hb2.mono hb0.size)).setCell (p:=⟨w.heap.size+1+1,0,none⟩) (by show w.heap.size≤w.heap.size+1+1;omega) (.slice x1 (nl (m*n)) c1)
    go_wp2
    exact bodyPost_ret (eZ rfl _ _ (w.heap.size+1+1) _ rfl (World.cell?_setCell_same _ _ _ hcc)) rfl ⟨_,rfl,n3,hB⟩
end Go.Proofs.YtfhinmdhjlmikaaGreat
namespace Go.Proofs.YtfhinmdhjlmikaaGreat
set_option linter.unusedSimpArgs false
set_option linter.unusedVariables false
set_option maxRecDepth 100000
open Go.RowKit
section
variable {Q:Exit→Act→World→Prop} {o:Oper} {a:Act} {w:World} {x y:Operand} {m n:Nat} {tt:Array TypeId}
theorem arm_rAdd (ho:o.op= .call {callee:=.value (.func 107),args:=#[x,y],argTypes:=tt}) (hx:Is a w x (.nat m)) (hy:Is a w y (.nat n)) (hm:nl m≤1000000000000) (hn:nl n≤1000000000000) {N:Nat} (hN:m+n=N):Arm Tryz.prog Q o a w (.nat N):=by
 subst hN
 exact xr ho (aA Tryz.func107 rfl rfl) hx hy (R:=fun w=>dD w (m+n)) (fun va vb w h1 h2=>jG va vb m n w h1 h2 hm hn) (fun _ _ h=>ofNew h)
end
end Go.Proofs.YtfhinmdhjlmikaaGreat
namespace Go.Proofs.YtfhinmdhjlmikaaGreat
set_option linter.unusedSimpArgs false
set_option linter.unusedVariables false
set_option maxRecDepth 100000
open Go.RowKit
theorem yD {x:Nat} (h:x≠0):eL x=eL (x / 2)+1:=by
 unfold eL
 rw[if_neg h,Nat.log2_def]
 by_cases h2:2≤x
 ·rw[if_pos h2,if_neg (by omega)]
 ·rw[if_neg h2,if_pos (by omega)]
theorem uG {N:Nat} (h:N≠0):eL N=32*(nl N - 1)+eL (D N (nl N - 1)):=by
 rw[sj h]
 have ht:D N (nl N - 1)≠0:=xj h
 have hlt:=cT N (nl N - 1)
 have h1:nl (D N (nl N - 1))=1:=by
  have:=eo ht
  have:=(aZ (N:=D N (nl N - 1)) (k:=1)).2 (by rw[Nat.pow_one];exact hlt)
  omega
 have h2:=sj ht
 rw[h1]at h2
 have h3:D (D N (nl N - 1)) 0=D N (nl N - 1):=by
  show D N (nl N - 1) / 4294967296^0 % 4294967296=_
  rw[Nat.pow_zero,Nat.div_one,Nat.mod_eq_of_lt hlt]
 simp only[Nat.sub_self,h3,Nat.mul_zero,Nat.zero_add]at h2
 rw[h2]
set_option maxRecDepth 100000 in
theorem uH (va:Value) (N:Nat) (w:World) (ha:IsN w va N) (hN:nl N≤1000000000000):
  Calls Tryz.prog 106 #[va] w fun e w'=>bH w (.int .i64 ((eL N:Nat):Int)) e w':=by
 obtain⟨a,ca,rfl,hca,ra⟩:=ha
 have hw:=io w (.cells #[.slice a (nl N) ca] 25)
 have v1:=bf.made w a (nl N) ca
 have ra0:=ra.mono hw
 by_cases h0:N=0
 ·have e1:nl N=0:=j9.2 h0
  have e2:eL N=0:=by unfold eL;rw[if_pos h0]
  have HE2:=Lib.hid e2
  rw[e1]at ra0 hw hca v1⊢
  clear e1 e2 ra hN
  have c1:=v1.cell
  go_enter Tryz.func106,Tryz.ntmps106
  go_wp2
  go_ret
  exact⟨by rw[HE2.out];rfl,hw⟩
 ·have hp:=eo h0
  have hne:(((nl N:Nat):Int)==0)=false:=by rw[beq_eq_false_iff_ne];omega
  have HT:=Lib.hid (uG h0)
  have hdl:=cT N (nl N - 1)
  obtain⟨T,hT⟩:∃T:Nat,Hid (T=D N (nl N - 1)):=⟨_,Lib.hid rfl⟩
  obtain⟨b1,o1,rfl,h1⟩:=ra0.cells (by omega)
  have d1:=h1 (nl N - 1) (by omega)
  rw[←hT.out]at d1 hdl
  obtain⟨P,hP⟩:∃P:Nat,Hid (P=nl N - 1):=⟨_,Lib.hid rfl⟩
  have e1:((nl N:Int) - 1)=((P:Nat):Int):=by have:=hP.out;omega
  have hPb:P≤1000000000000:=by have:=hP.out;omega
  rw[←hP.out]at d1
  have c1:=v1.cell
  have hlT:eL T≤32:=by
   rcases Nat.eq_zero_or_pos T with h | h
   ·rw[h];decide
   ·unfold eL;rw[if_neg (by omega)];have:=(Nat.log2_lt (n:=T) (k:=32) (by omega)).2 (by simpa using hdl);omega
  have htot:eL N=32*(nl N - 1)+eL T:=by rw[HT.out,hT.out]
  have HTOT:=Lib.hid htot
  clear htot h0
  have hlN:eL N≤32000000000032:=by have:=HTOT.out;omega
  go_enter Tryz.func106,Tryz.ntmps106
  go_wp2_with fail
  go_loopw [3,4] (fun s3 s4 wr=>∃c x:Nat,s3= .int .i64 (c:Int)∧s4= .int .u32 (x:Int)∧x<4294967296∧Hid (eL N=c+eL x)∧wr=w.alloc (.cells #[.slice (some ⟨b1,o1,none⟩) (nl N) ca] 25)) (fun _ s4 _=>(intOf s4).toNat)
  case atStart=>exact⟨32*P,T,by go_num,rfl,hdl,by rw[hP.out];exact HTOT,rfl⟩
  case round=>
   obtain⟨c,x,rfl,rfl,hx,HL,rfl⟩:=hrel
   have hcN:c≤32000000000032:=by have:=HL.out;omega
   by_cases hx0:x=0
   ·subst hx0
    have hc:eL N=c:=by have h:=HL.out;have h2:eL 0=0:=rfl;omega
    have HC:=Lib.hid hc
    clear hc
    go_wp2
    go_ret
    exact⟨by rw[HC.out];rfl,hw⟩
   ·have hxp:(0:Int)<(x:Int):=by omega
    have hst:=yD hx0
    have HS:=Lib.hid (show eL N=(c+1)+eL (x / 2)by have h:=HL.out;omega)
    obtain⟨y,hy⟩:∃y:Nat,Hid (y=x / 2):=⟨_,Lib.hid rfl⟩
    have hq:((x:Nat):Int) / 2=((y:Nat):Int):=by have:=hy.out;omega
    have hlt:y<x:=by have:=hy.out;omega
    rw[←hy.out]at HS
    clear hst hx0
    go_wp2_with fail
    go_roundw
    case rel=>exact⟨c+1,y,by go_num,rfl,by omega,HS,trivial⟩
    case measure=>simp[intOf]<;>omega
theorem oe (n:Nat) (w:World) (hn:n<18446744073709551616):
  Calls Tryz.prog 54 #[.int .u64 (n:Int)] w fun e w'=>dD w n e w':=by
 have hw:=io w (.cells #[.slice none 0 0] 25)
 have v0:=bf.made w none 0 0
 have hown:=bw.two (w.alloc (.cells #[.slice none 0 0] 25)) n hn
 have b2:=hw.alloc (by simp) (.cells #[.int .u32 ((n:Int) % 4294967296),.int .u32 ((n:Int) / 4294967296)] 113)
 have v1:=bf.mono v0 (io _ (.cells #[.int .u32 ((n:Int) % 4294967296),.int .u32 ((n:Int) / 4294967296)] 113)) v0.lt
 rw[World.size_alloc]at hown
 go_enter Tryz.func54,Tryz.ntmps54
 go_wp2_with fail
 refine(od _ 2 2 n _ hown.rw' (by omega)).mono ?_
 rintro e w2 ⟨v2,rfl,⟨x2,c2,rfl,hc2,hx2⟩,bb⟩
 have n2:bj w.heap.size w2 (.agg #[.slice x2 (nl n) c2]) n:=bj.weaken (by exact⟨x2,c2,rfl,hc2,hx2⟩) b2.size
 have vr2:=v1.mono bb v1.lt
 have cr:=vr2.cell
 have fr:=vr2.frozen
 have n3:=n2.setVar (u:=.slice x2 (nl n) c2) vr2
 have hB:=(b2.trans (bb.mono b2.size)).setCell (p:=⟨w.heap.size,0,none⟩) (Nat.le_refl _) (.slice x2 (nl n) c2)
 go_wp2
 exact bodyPost_ret (eZ rfl _ _ w.heap.size _ rfl vr2.set.cell) rfl ⟨_,rfl,n3,hB⟩
end Go.Proofs.YtfhinmdhjlmikaaGreat
namespace Go.Proofs.YtfhinmdhjlmikaaGreat
set_option linter.unusedSimpArgs false
set_option linter.unusedVariables false
set_option maxRecDepth 100000
open Go.RowKit
section
variable {Q:Exit→Act→World→Prop} {o:Oper} {a:Act} {w:World} {x y:Operand} {m n:Nat} {tt:Array TypeId}
/-- A variable that holds a row of L digits, leading zeros allowed. -/
def Sp.raw (L N:Nat):Sp:=⟨fun w v=>IsR w v L N,fun _ _ _ h hb=>IsR.mono h hb⟩
end
end Go.Proofs.YtfhinmdhjlmikaaGreat
