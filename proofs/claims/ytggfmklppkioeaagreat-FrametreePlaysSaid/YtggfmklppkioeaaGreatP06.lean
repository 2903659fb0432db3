/- An executor: the effect of an operation. An executor: rows that grow; calls that change objects and variables. An executor: stores; every operation has the effect that is reckoned. An executor: regions, code, functions. An executor: operations one after the other; rows that grow no more. An executor: code and functions. An executor: functions. -/
import Derived.Test.YtggfmklppkioeaaGreatP05
import Derived.Scope
namespace Go.Proofs.YtggfmklppkioeaaGreat
set_option linter.unusedSimpArgs false
set_option linter.unusedVariables false
set_option maxRecDepth 100000
open Go.RowKit
open _root_.Go.RowKit renaming Below → AG
open _root_.Go renaming Calls → AH,Exit → Bf,Func → BW,FuncId → BA,Operand → AZ,Program → A0
open _root_.Go.Act renaming eval → Db,put → AN
open _root_.Array renaming getD_eq_getD_getElem? → EG,getElem?_eq_some_iff → A8,getElem?_setIfInBounds → Eh,getElem?_toList → BU,replicate → Cs,toArray_toList → Ek,toList_append → EJ,toList_map → D9
open _root_.Go.RowKit.Below renaming refl → AL
open _root_.Bool renaming and_eq_true → Bo
open _root_.Go.Call renaming operands → EI
open _root_.Go.Code renaming region → Dc
open _root_.Function renaming comp_def → E9
open _root_.List renaming all_eq_true → Cd,append_assoc → DG,append_nil → Ds,find?_some → DU,flatMap_cons → Cq,getD_eq_getElem?_getD → Fu,getElem?_append_left → Bw,getElem?_append_right → Bq,getElem?_eq_getElem → AU,getElem?_eq_none → Fr,getElem?_eq_some_iff → A5,getElem?_map → BB,length → Ef,length_append → By,length_cons → Bz,map_cons → Bu,map_map → CG,mem_append → AJ,mem_cons → A3,mem_cons_of_mem → Bg,mem_flatMap → Br,mem_of_find?_eq_some → Dq,mem_singleton → Ct,replicate → EF
open _root_.Nat renaming div_add_mod → Ce,le_refl → AK,le_trans → AI,lt_of_lt_of_le → Bt,zero_add → Bh
open _root_.Go.Op renaming operands → Dr
open _root_.Go.Oper renaming upon_value → El,wp → Bn
open _root_.Option renaming bind_some → Em,map_some → BF,some → A9
open _root_.Prod renaming mk → B3
open _root_.Go.Region renaming wanted → A7
open _root_.Go.Result renaming andThen → AX
open _root_.Go.Sem renaming run_bind → AO,run_pure → BC
open _root_.Go.Proofs.Tryz renaming prog → AE
structure Inst where
 f:BA
 args:List SV
 res:AV
def Inst.Ok(p:A0)(ρ:Rho)(i:Inst):Prop:=
 (∀(vs:Array Value)(w:World),(callFunc i.f vs).run p w= .ok (.enter i.f vs) w)/\
 ∀(B:Blk)(w:World)(vs:List Value),BOk B w.heap.size->cO ρ B w i.args vs->AH p i.f vs.toArray w (λe w'=>∃v,e= .returned v/\i.res.holds ρ B w' v/\AG w.heap.size w w')
def Inst.Ok0(p:A0)(ρ:Rho)(w0:Ent)(i:Inst):Prop:=
 (∀(vs:Array Value)(w:World),(callFunc i.f vs).run p w= .ok (.enter i.f vs) w)/\
 ∀(B:Blk)(w:World)(vs:List Value),w0.kept w->BOk B w.heap.size->cO ρ B w i.args vs->AH p i.f vs.toArray w (λe w'=>∃v,e= .returned v/\i.res.holds ρ B w' v/\AG w.heap.size w w')
variable{ρ:Rho}
theorem Inst.Ok.to0{p:A0}{i:Inst}(h:i.Ok p ρ)(w0:Ent):i.Ok0 p ρ w0:=⟨h.1,λB w vs _ hB hv=>h.2 B w vs hB hv⟩
def wrD(d:Option Tmp)(c:AV):List (Nat×AV):=match d with | some d=>[(d,c)] | none=>[]
def okD(nt:Nat)(d:Option Tmp):Bool:=match d with | some d=>decide (d<nt) && decide (d<100000) | none=>true
def dC(v:Nat):Nat->List Leaf->List (Nat×AV)
 | _,[]=>[]
 | k,l::ls=>(mu v k,.v (.one l))::dC v (k+1) ls
def mz(ls:List Leaf):Bool:=ls.all Leaf.flat
def aaB(C:List Inst)(f:BA)(xs:List SV):Option AV:=match C.find? (λi=>decide (i.f=f) && decide (i.args=xs))with | some i=>some i.res | none=>none
def jd(op:Op):List Nat:=op.operands.toList.flatMap rdO
def wg(L:List OIns)(f:BA)(xs:List SV)(pb:MutD->Bool):Option MutD:=match L.find? (λo=>match o.key with | .mut g d=>(decide (g=f) && decide (o.xs=xs)) && pb d | _=>false)with
 | some ⟨.mut _ d,_,_⟩=>some d
 | _=>none
def mA(i:Nat):Leaf->Bool
 | .sl0=>true
 | .own k _=>k==i
 | _=>false
def preE(lk:Nat->Option AV)(vts:List (TypeId×Nat))(q:Nat×TypeId×List Leaf):Bool:=
 decide (vts[q.1]? =some (q.2.1,q.2.2.length)) && (decide (0<q.2.2.length/\q.2.2.length<=100000) && decide (iH lk q.1 0 q.2.2.length=some q.2.2))
def usE(vts:List (TypeId×Nat))(q:Nat×TypeId×List Leaf):Bool:=decide (vts[q.1]? =some (q.2.1,q.2.2.length)) && decide (q.2.2.length<=100000)
def nvE(vts:List (TypeId×Nat)):Option (Nat×TypeId×List Leaf)->Bool
 | some q=>decide (q.1=vts.length/\vts.length<OW/\q.2.2.length<=100000)
 | none=>true
def pS(nt:Nat)(args:List AZ):List (Nat×SV)->Option (List (Nat×AV))
 | []=>some []
 | (i,c)::r=>match args[i]?,pS nt args r with
  | some (.tmp t),some l=>if t<100000/\t<nt then some ((t,.v c)::l)else none
  | _,_=>none
def nvW:Option (Nat×TypeId×List Leaf)->List (Nat×AV)
 | some q=>dC q.1 0 q.2.2
 | none=>[]
def mutE(nt:Nat)(lk:Nat->Option AV)(vts:List (TypeId×Nat))(op:Op)(args:List AZ)(dst:Option Tmp)(d:MutD):Option (Eff×List (TypeId×Nat)):=
 if d.pre.all (preE lk vts) && (d.us.all (usE vts) && nvE vts d.nv)then
  match pS nt args d.keep with
  | some kw=>if kw.all (λq=>decide (dst≠some q.1))then some (⟨jd op++d.pre.flatMap (λq=>mv q.1 0 q.2.2.length),wrD dst (mutR d.xs)++(kw++(d.us.flatMap (λq=>dC q.1 0 q.2.2)++nvW d.nv)),d.nv.map (·.1),d.ks,[]⟩,d.nv.toList.map λq=>(q.2.1,q.2.2.length))else none
  | none=>none
 else none
def wh(p:A0)(C:List Inst)(L:List OIns)(nt:Nat)(lk:Nat->Option AV)(vts:List (TypeId×Nat))(o:Oper):Option (Eff×List (TypeId×Nat)):=
 if !okD nt o.dst then none else
 let pv:Option (Eff×List (TypeId×Nat)):=match si p L lk o.op with
  | some (c,rd)=>some (⟨jd o.op++rd,wrD o.dst c,none,[],[]⟩,[])
  | none=>none
 match o.op with
 | .alloc t=>match o.dst,vV p t with
  | some d,some z=>if mz z/\z.length<=100000/\vts.length<OW then some (⟨[],(d,.v (.one (.ptr vts.length 0)))::dC vts.length 0 z,some vts.length,[],[]⟩,[(t,z.length)])else none
  | _,_=>none
 | .box t x=>match o.dst,evS lk x with
  | some d,some s=>if mz s.leaves/\s.leaves.length<=100000/\vts.length<OW then some (⟨rdO x,(d,.v (.one (.ptr vts.length 0)))::dC vts.length 0 s.leaves,some vts.length,[],[]⟩,[(t,s.leaves.length)])else none
  | _,_=>none
 | .store t x y=>match o.dst,evL lk x,evS lk y with
  | none,some (.ptr v off),some s=>match vts[v]? with
   | some (_,n)=>if szB p t=some s.leaves.length/\mz s.leaves/\off+s.leaves.length<=n/\n<=100000/\v<OW then some (⟨rdO x++rdO y,dC v off s.leaves,none,[],[]⟩,[])else none
   | none=>none
  | _,_,_=>none
 | .call k=>match k.callee with
  | .value z=>match evL lk z,oU lk k.args.toList with
   | some (.fn f),some xs=>match aaB C f xs with
    | some r=>some (⟨jd o.op,wrD o.dst r,none,[],[]⟩,[])
    | none=>match wg L f xs (λd=>d.pre.all (preE lk vts))with
     | some d=>mutE nt lk vts o.op k.args.toList o.dst d
     | none=>none
   | _,_=>none
  | .builtin .append=>match o.dst,k.args.toList,k.argTypes.toList with
   | some d,[x,y],[t,t']=>match evL lk x,evL lk y with
    | some lx,some ly=>if t=t' then match cM L (.app t) [.one lx,.one ly]with
      | some (.one (.own i m))=>if mA i lx then some (⟨jd o.op,[(d,.v (.one (.own i m)))],none,[i],[]⟩,[])else none
      | _=>none
     else none
    | _,_=>none
   | _,_,_=>none
  | _=>pv
 | .buildSlice t n parts=>match o.dst,oU lk (parts.toList.map (·.2))with
  | some _,some xs=>(cM L (.bs t n (parts.toList.map (·.1))) xs).map λr=>(⟨jd o.op,wrD o.dst (.v r),none,[],[]⟩,[])
  | _,_=>none
 | _=>pv
def yG(p:A0)(C:List Inst)(L:List OIns)(nt:Nat)(ops:Array Oper)(lk:Nat->Option AV)(vts:List (TypeId×Nat))(o:Oper):Option (Eff×List (TypeId×Nat)):=
 match o.guard with
 | none=>wh p C L nt lk vts o
 | some (g,b)=>match cf ops g with
  | some t=>match evA lk (.tmp t)with
   | some (.v (.one (.b x)))=>if x=b then(wh p C L nt lk vts o).map λe=>({e.1 with rd:=t::e.1.rd},e.2)else if okD nt o.dst then some (⟨[t],wrD o.dst .any,none,[],[]⟩,[])else none
   | some .any=>if okD nt o.dst then some (⟨[t],wrD o.dst .any,none,[],[]⟩,[])else none
   | _=>none
  | none=>none
section
variable {p:A0} {ρ:Rho} {B B':Blk} {a a':Act} {w w':World} {w0:Ent} {C:List Inst} {L:List OIns} {lk:Nat->Option AV} {vt:List (TypeId×Nat)} {nt:Nat} {Q:Bf->Act->World->Prop} {o:Oper} {ops:Array Oper}
theorem bK.below{x:Nat}{c:AV}(h:bK ρ B a w x c)(hB:BLe B B')(H:yx w.heap.size B B')(hb:AG w.heap.size w w')(ht:x<100000->a'.tmps[x]? =a.tmps[x]?):bK ρ B' a' w' x c:=by
 unfold bK at h⊢;split at h
 ·rename_i G;rw[if_pos G];obtain⟨u,h1,h2⟩:=h;exact⟨u,by rw[ht G];exact h1,h2.mono hB H hb⟩
 ·rename_i G;rw[if_neg G];obtain⟨g,cs,ty,u,h1,h2,h3,h4⟩:=h;exact⟨g,cs,ty,u,hB.v _ _ h1,by rw[hb.block g (A8.1 h2).1];exact h2,h3,h4.mono hB H hb⟩
theorem Inv.below'(h:Inv vt w0 nt B a w)(hb:AG w.heap.size w w')(hs:a'.tmps.size=a.tmps.size)(G:a'.defers=a.defers):Inv vt w0 nt B a' w':=
 ⟨λv g hv=>by
  obtain⟨h1,cs,ty,h2,h3,h4⟩:=h.blk v g hv;exact⟨h1,cs,ty,h2,by rw[hb.block g (A8.1 h3).1];exact h3,h4⟩,
  λk g hv=>by
  obtain⟨h1,h2⟩:=h.own k g hv;exact⟨h1,h2.blk (hb.block g h2.1) hb.size⟩,
  h.inj,h.below.below hb,by rw[hs,h.size],by rw[G,h.dfr],h.pin⟩
theorem mB(d:Option Tmp)(v:Value):(a.put d v).tmps.size=a.tmps.size:=by cases d<;>simp[AN]
theorem pa(d:Option Tmp)(v:Value):(a.put d v).defers=a.defers:=by cases d<;>rfl
variable{d:Option Tmp}{v:Value}
theorem pT{x:Nat}(h:∀t,d=some t->t≠x):(a.put d v).tmps[x]? =a.tmps[x]? :=by
 cases d with
 | none=>rfl
 | some t=>simp[AN,Eh,h t rfl]
theorem tT{d:Tmp}(h:d<a.tmps.size):(a.put (some d) v).tmps[d]? =some v:=by simp[AN,h]
theorem fL{rd:List Nat}{c:AV}(hi:Inv vt w0 nt B a w)(G:okD nt d=true)(hb:AG w.heap.size w w')(hv:c.holds ρ B w' v):
  Post ρ vt w0 nt ⟨rd,wrD d c,none,[],[]⟩ B a w B (a.put d v) w':=by
 refine⟨BLe.refl,hi.below' hb (mB _ _) (pa _ _),λq I=> ?_,λx K J H _=>J.below BLe.refl .refl hb (λ_=>pT (λt ht=> ?_)),λu h1 h2=>absurd h1 h2⟩
 ·cases d with
  | none=>cases I
  | some t=>
   simp only[wrD,Ct]at I;subst I;simp only[okD,Bo,decide_eq_true_eq]at G;unfold bK;rw[if_pos G.2];exact⟨v,tT (by rw[hi.size];exact G.1),hv⟩
 ·subst ht;exact H (t,c) (by simp[wrD])
theorem lw:∀ {ls:List Leaf} {v k:Nat} {q:Nat×AV},q∈dC v k ls↔∃j l,ls[j]? =some l/\q=(mu v (k+j),.v (.one l))
 | [],v,k,q=>by simp[dC]
 | l::ls,v,k,q=>by
  simp only[dC,A3,lw (ls:=ls)];constructor
  ·rintro(rfl | ⟨j,G,h1,rfl⟩)
   ·exact⟨0,l,rfl,rfl⟩
   ·exact⟨j+1,G,by simpa using h1,by rw[show k+1+j=k+(j+1)from Aa]⟩
  ·rintro⟨j,G,h1,rfl⟩
   match j with
   | 0=>simp at h1;subst h1;exact .inl rfl
   | j+1=>exact .inr ⟨j,G,by simpa using h1,by rw[show k+1+j=k+(j+1)from Aa]⟩
theorem Inv.bok(hi:Inv vt w0 nt B a w):BOk B w.heap.size:=λg h=>by
 rcases h with⟨x,h⟩ | ⟨k,h⟩
 ·obtain⟨_,cs,ty,_,h3,_⟩:=hi.blk x g h;exact(A8.1 h3).1
 ·exact(hi.own k g h).2.1
theorem wi{rd:List Nat}{d:Tmp}{t:TypeId}{ls:List Leaf}{cs:Array Value}{nv:Nat}(hi:Inv vt w0 nt B a w)(Z:okD nt (some d)=true)(hf:mz ls=true)(hl:ls.length<=100000)(hc:az ρ B w ls cs.toList)
  (hv:vt[nv]? =some (t,ls.length))(hn:B.v nv=none):
  Post ρ vt w0 nt ⟨rd,(d,.v (.one (.ptr nv 0)))::dC nv 0 ls,some nv,[],[]⟩ B a w (⟨λv=>if v=nv then some w.heap.size else B.v v,B.o⟩:Blk) (a.put (some d) (.pointer (some ⟨w.heap.size,0,none⟩))) (w.alloc (.cells cs t)):=by
 have H:BLe B (⟨λv=>if v=nv then some w.heap.size else B.v v,B.o⟩:Blk):=⟨λv g h=>by
  show(if v=nv then _ else _)=_;rw[if_neg (λe=>by rw[e,hn]at h;cases h)];exact h,λ_ _ h=>h⟩
 have hN:yx w.heap.size B (⟨λv=>if v=nv then some w.heap.size else B.v v,B.o⟩:Blk):=λg G=>by
  rcases G with⟨x,V⟩ | ⟨k,K⟩
  ·by_cases e:x=nv
   ·simp only[e,if_true,A9.injEq]at V;exact .inr Aa
   ·simp only[e,if_false]at V;exact .inl (.inl ⟨x,V⟩)
  ·exact .inl (.inr ⟨k,K⟩)
 have hb:=gM w (.cells cs t);have I:(w.alloc (.cells cs t)).heap[w.heap.size]? =some (.cells cs t (0,0)):=heap_alloc_new w _;have J:∀v g,B.v v=some g->g<w.heap.size:=λv g h=>hi.bok g (.inl ⟨v,h⟩)
 have U:cs.size=ls.length:=by have:=hc.len;simpa using this
 refine⟨H,⟨λv g G=> ?_,λk g G=> ?_,⟨λv v' g h1 h2=> ?_,hi.inj.o,λv k g h1 h2=> ?_⟩,hi.below.below hb,by rw[mB,hi.size],by rw[pa,hi.dfr],λx g h=>H.v _ _ (hi.pin x g h)⟩,λq hq=> ?_,λx c V aa _=>V.below H hN hb (λ_=>pT (λt ht=> ?_)),λu h1 h2=> ?_⟩
 ·by_cases e:v=nv
  ·subst e;simp only[if_true,A9.injEq]at G;subst G;refine⟨.inl hi.below.size,cs,t,by rw[hv,U],I,λk n K=> ?_⟩;rw[<-BU]at K;have P:k<ls.length:=by rw[<-hc.len];exact(A5.1 K).1
   obtain⟨u,h1,h2⟩:=hc.get (AU P);rw[K]at h1;injection h1 with h1;subst h1;exact(h2.flat (Cd.1 hf _ (List.getElem_mem P))).2.2 n rfl
  ·simp only[e,if_false]at G;obtain⟨h1,Y,ty,h2,h3,h4⟩:=hi.blk v g G;exact⟨h1,Y,ty,h2,by rw[hb.block g (J v g G)];exact h3,h4⟩
 ·obtain⟨h1,h2⟩:=hi.own k g G;exact⟨h1,h2.blk (hb.block g h2.1) hb.size⟩
 ·by_cases e:v=nv<;>by_cases e':v'=nv
  ·rw[e,e']
  ·simp only[e,e',if_true,if_false,A9.injEq]at h1 h2;have:=J v' g h2;omega
  ·simp only[e,e',if_true,if_false,A9.injEq]at h1 h2;have:=J v g h1;omega
  ·simp only[e,e',if_false]at h1 h2;exact hi.inj.v v v' g h1 h2
 ·by_cases e:v=nv
  ·simp only[e,if_true,A9.injEq]at h1;have:=(hi.own k g h2).2.1;omega
  ·simp only[e,if_false]at h1;exact hi.inj.vo v k g h1 h2
 ·rcases A3.1 hq with rfl | hq
  ·simp only[okD,Bo,decide_eq_true_eq]at Z;unfold bK;rw[if_pos Z.2];exact⟨_,tT (by rw[hi.size];exact Z.1),w.heap.size,Ag,rfl⟩
  ·obtain⟨j,l,h1,rfl⟩:=lw.1 hq;have ab:=(A5.1 h1).1;obtain⟨u,h2,h3⟩:=hc.get h1;rw[Bh,gN Aa];exact⟨w.heap.size,cs,t,u,Ag,I,by rw[<-BU];exact h2,(h3.mono H hN hb:Leaf.holds ρ _ _ l u)⟩
 ·injection ht with ht;subst ht;exact aa (d,.v (.one (.ptr nv 0))) Ag
 ·by_cases e:u=nv
  ·rw[e]
  ·simp only[e,if_false]at h2;exact absurd h1 h2
end
section
variable {p:A0} {ρ:Rho} {B B':Blk} {a a':Act} {w w':World} {w0:Ent} {C:List Inst} {L:List OIns} {nt i:Nat} {Q:Bf->Act->World->Prop} {o:Oper} {ops:Array Oper} {v:Value} {vt:List (TypeId×Nat)} {ks:List Nat} {X:Nat->Prop} {lk:Nat->Option AV}
structure Reb(B B':Blk)(ks:List Nat)(w w':World)(X:Nat->Prop):Prop where
 le:BLe B B'
 new:yx w.heap.size B B'
 old:∀g,X g->(∃k∈ks,B.o k g)\/∃x,B.v x=some g
 inj:BInj B
 chg:Chg w w' X
theorem Leaf.holds.reb{l:Leaf}(h:l.holds ρ B w v)(hn:∀k∈l.objs,k∉ks)(r:Reb B B' ks w w' X):l.holds ρ B' w' v:=by
 cases l<;>simp only[Leaf.holds]at h⊢ <;>try exact h
 ·obtain⟨g,h1,h2⟩:=h;exact⟨g,r.le.v _ _ h1,h2⟩
 ·obtain⟨s,h1,h2,h3⟩:=h;obtain⟨c1,c2⟩:=s.ch _ _ _ _ h2 r.chg (λg G H=>h3 g G (by
   rcases r.old g H with⟨k,_,h⟩ | ⟨x,h⟩
   ·exact .inr ⟨k,h⟩
   ·exact .inl ⟨x,h⟩))
  refine⟨s,h1,c1,λg G J=> ?_⟩;rcases r.new g J with h | h
  ·exact h3 g (c2 g G) h
  ·have:=s.lt _ _ _ h2 (c2 g G);omega
 ·rename_i k m;obtain⟨s,h1,h2,h3,h4⟩:=h;have I:k∉ks:=hn k (by simp[Leaf.objs]);obtain⟨c1,c2⟩:=s.ch _ _ _ _ h2 r.chg (λg G H=>by
   rcases r.old g H with⟨l,hl,h⟩ | ⟨x,h⟩
   ·have:=r.inj.o _ _ _ h (h3 g G);subst this;exact I hl
   ·exact r.inj.vo _ _ _ h (h3 g G))
  exact⟨s,h1,c1,λg G=>r.le.o _ _ (h3 g (c2 g G)),λg G=>r.le.o _ _ (h4 g G)⟩
theorem az.reb(r:Reb B B' ks w w' X):∀ {ls:List Leaf} {vs:List Value},az ρ B w ls vs->(∀k∈ls.flatMap Leaf.objs,k∉ks)->az ρ B' w' ls vs
 | [],[],_,_=>trivial
 | _::_,_::_,h,hn=>⟨h.1.reb (λk G=>hn k (by simp[G])) r,az.reb r h.2 (λk G=>hn k (by rw[Cq];exact AJ.2 (.inr G)))⟩
 | [],_::_,h,_=>h.elim
 | _::_,[],h,_=>h.elim
theorem SV.holds.reb{s:SV}(h:s.holds ρ B w v)(hn:∀k∈s.objs,k∉ks)(r:Reb B B' ks w w' X):s.holds ρ B' w' v:=by
 cases s with
 | one l=>exact Leaf.holds.reb h hn r
 | agg ls=>obtain⟨vs,e,h⟩:=h;exact⟨vs,e,h.reb r hn⟩
theorem cO.reb(r:Reb B B' ks w w' X):∀ {ls:List SV} {vs:List Value},cO ρ B w ls vs->(∀k∈ls.flatMap SV.objs,k∉ks)->cO ρ B' w' ls vs
 | [],[],_,_=>trivial
 | _::_,_::_,h,hn=>⟨h.1.reb (λk G=>hn k (by simp[G])) r,cO.reb r h.2 (λk G=>hn k (by rw[Cq];exact AJ.2 (.inr G)))⟩
 | [],_::_,h,_=>h.elim
 | _::_,[],h,_=>h.elim
theorem AV.holds.reb{c:AV}(h:c.holds ρ B w v)(hn:c.hit ks=false)(r:Reb B B' ks w w' X):c.holds ρ B' w' v:=by
 have hn:∀k∈c.objs,k∉ks:=λk G=>by
  unfold AV.hit at hn;have:=List.any_eq_false.1 hn k G;simpa using this
 cases c with
 | v s=>exact SV.holds.reb h hn r
 | tup xs=>obtain⟨vs,e,h⟩:=h;exact⟨vs,e,h.reb r hn⟩
 | any=>exact h
theorem bK.reb{x:Nat}{c:AV}(h:bK ρ B a w x c)(hn:c.hit ks=false)(r:Reb B B' ks w w' X)(I:¬x<100000->∀g,B.v (x / 100000 - 1)=some g->g<w.heap.size->(∀cs ty,w.heap[g]? =some (.cells cs ty (0,0))->x % 100000<cs.size->¬X g))(ht:x<100000->a'.tmps[x]? =a.tmps[x]?):bK ρ B' a' w' x c:=by
 unfold bK at h⊢;split at h
 ·rename_i H;rw[if_pos H];obtain⟨u,h1,h2⟩:=h;exact⟨u,by rw[ht H];exact h1,h2.reb hn r⟩
 ·rename_i H;rw[if_neg H];obtain⟨g,cs,ty,u,h1,h2,h3,h4⟩:=h;have G:=(A8.1 h2).1;exact⟨g,cs,ty,u,r.le.v _ _ h1,by rw[r.chg.blk g G (I H g h1 G cs ty h2 (A8.1 h3).1)];exact h2,h3,h4.reb hn r⟩
theorem wj{G:Leaf}{x:Value}(h:mA i G=true)(hl:G.holds ρ B w x):∀g,x.ownBlock=some g->B.o i g:=by
 intro g H
 cases G with
 | sl0=>
  have e:x= .slice none 0 0:=hl;subst e;cases H
 | own k m=>
  have:k=i:=by simpa [mA]using h
  subst this;obtain⟨s,_,_,_,h4⟩:=hl;exact h4 g H
 | _=>simp[mA]at h
variable{k:Call}{K:Act->World->Prop}
theorem ok_app(hO:∀i∈L,i.OkE w0 p ρ){d:Tmp}{x y:AZ}{t:TypeId}{lx ly:Leaf}{m:Nat}(aq:o.op= .call k)(Y:k.callee= .builtin .append)(hd:o.dst=some d)(U:k.args.toList=[x,y])(an:k.argTypes.toList=[t,t])(hx:evL lk x=some lx)(hy:evL lk y=some ly)
  (hf:cM L (.app t) [.one lx,.one ly]=some (.one (.own i m)))(aa:mA i lx=true)(Z:okD nt (some d)=true)(hi:Inv vt w0 nt B a w)(Hx:bg ρ B a w lk x)(Hy:bg ρ B a w lk y){rd:List Nat}
 (hK:∀B' a' w',Post ρ vt w0 nt ⟨rd,[(d,.v (.one (.own i m)))],none,[i],[]⟩ B a w B' a' w'->K a' w'):Bn p o a w K Q:=by
 have ex:=d6 Hx hx;have ey:=d6 Hy hy;have H:=wj aa ex;obtain⟨v,w',am,G,ar,P,s1,av,au,ab⟩:=(eT hO (λ_ _ h=>by cases h) hf) B w [a.eval x,a.eval y] ⟨ex,ey,trivial⟩ o.type;simp only[okD,Bo,decide_eq_true_eq]at Z;have ao:(execOp a.eval o).run p w= .ok (.value v) w':=by
  obtain⟨ay,args,tt⟩:=k;simp only at Y U an;subst Y;have ea:args=#[x,y]:=by rw[<-Array.toList_inj];exact U
  have et:tt=#[t,t]:=by rw[<-Array.toList_inj];exact an
  subst ea;subst et;unfold execOp;simp only[aq,resolve,invoke,builtin,AO,BC,Result.andThen_ok,List.map_toArray,Bu,List.map_nil,am]
 unfold Bn;rw[ao,El,hd];have ad:∀k g,k≠i->B.o k g->v.ownBlock≠some g:=λk g hx J I=>by
  rcases(P g I).1 with h | h
  ·exact hx (hi.inj.o _ _ _ J (H g h))
  ·have:=hi.bok g (.inr ⟨k,J⟩);omega
 have ap:∀x g,B.v x=some g->v.ownBlock≠some g:=λx g J I=>by
  rcases(P g I).1 with h | h
  ·exact hi.inj.vo _ _ _ J (H g h)
  ·have:=hi.bok g (.inl ⟨x,J⟩);omega
 have r:Reb B ⟨B.v,λk g=>B.o k g\/(k=i/\v.ownBlock=some g)⟩ [i] w w' (λg=>(a.eval x).ownBlock=some g):=by
  refine⟨⟨λ_ _ h=>h,λ_ _ h=>.inl h⟩,λg I=> ?_,λg V=>.inl ⟨i,Ag,H g V⟩,hi.inj,⟨G.size,λg I V=>G.block g I (λe=>V e.symm),λg V=>(hi.own _ g (H g V)).2⟩⟩;rcases I with⟨x,h⟩ | ⟨k,h | ⟨_,h⟩⟩
  ·exact .inl (.inl ⟨x,h⟩)
  ·exact .inl (.inr ⟨k,h⟩)
  ·exact(P g h).1.imp (λh=>.inr ⟨i,H g h⟩) id
 have ax:∀x g,B.v x=some g->w'.heap[g]? =w.heap[g]? :=λx g J=>G.block g (hi.bok g (.inl ⟨x,J⟩)) (λe=>hi.inj.vo _ _ _ J (H g e.symm))
 have ac:∀g,v.ownBlock=some g->w0.may g:=λg I=>by
  rcases(P g I).1 with h | h
  ·exact(hi.own _ g (H g h)).1
  ·exact .ge hi.below h
 refine hK ⟨B.v,λk g=>B.o k g\/(k=i/\v.ownBlock=some g)⟩ _ w' ⟨r.le,⟨λx g I=> ?_,λk g I=> ?_,⟨hi.inj.v,λk l g h1 h2=> ?_,λx k g h1 h2=> ?_⟩,?_,by rw[mB,hi.size],by rw[pa,hi.dfr],hi.pin⟩,λq hq=> ?_,λz c hz ak hh=> ?_,λu h1 h2=>absurd h1 h2⟩
 ·obtain⟨h1,cs,ty,h2,h3,h4⟩:=hi.blk x g I;exact⟨h1,cs,ty,h2,by rw[ax x g I];exact h3,h4⟩
 ·rcases I with I | ⟨rfl,I⟩
  ·obtain⟨h1,h2⟩:=hi.own k g I;refine⟨h1,?_⟩;by_cases e:(a.eval x).ownBlock=some g
   ·exact ar g e
   ·exact h2.blk (G.block g h2.1 (λe'=>e e'.symm)) G.size
  ·exact⟨ac g I,(P g I).2.2⟩
 ·rcases h1 with h1 | ⟨e1,h1⟩<;>rcases h2 with h2 | ⟨e2,h2⟩
  ·exact hi.inj.o k l g h1 h2
  ·by_cases e:k=i
   ·rw[e,e2]
   ·exact absurd h2 (ad k g e h1)
  ·by_cases e:l=i
   ·rw[e,e1]
   ·exact absurd h1 (ad l g e h2)
  ·rw[e1,e2]
 ·rcases h2 with h2 | ⟨_,h2⟩
  ·exact hi.inj.vo x k g h1 h2
  ·exact ap x g h1 h2
 ·refine⟨G.os.trans hi.below.os,G.tape.trans hi.below.tape,G.output.trans hi.below.output,AI hi.below.size G.size,λg I V=>(G.block g (Bt I hi.below.size) (λe=> ?_)).trans (hi.below.block g I V)⟩;rcases(hi.own _ g (H g e.symm)).1 with h | h
  ·omega
  ·exact V h
 ·simp only[Ct]at hq;subst hq;unfold bK;rw[if_pos Z.2];exact⟨v,tT (by rw[hi.size];exact Z.1),s1,av,au,λg I=>.inr ⟨rfl,ab g I⟩,λg I=>.inr ⟨rfl,I⟩⟩
 ·refine hz.reb hh r (λ_ g h1 _ _ _ _ _ h2=>hi.inj.vo _ _ _ h1 (H g h2)) (λ_=>pT (λt ht=>by injection ht with ht;subst ht;exact ak (d,.v (.one (.own i m))) Ag))
variable{f:BA}{xs:List SV}{d:MutD}
theorem findM_ok(G:∀i∈L,i.OkE w0 p ρ){H:MutD->Bool}(h:wg L f xs H=some d):∃r,(OIns.mk (.mut f d) xs r).OkE w0 p ρ:=by
 unfold wg at h;split at h
 ·rename_i g J I r hf;injection h with h;subst h;have h1:=DU hf;simp only[Bo,decide_eq_true_eq]at h1;obtain⟨⟨rfl,rfl⟩,_⟩:=h1;exact⟨r,G _ (Dq hf)⟩
 ·cases h
theorem wk{args:List AZ}:∀ {l:List (Nat×SV)} {I:List (Nat×AV)} {q:Nat×AV},pS nt args l=some I->q∈I->q.1<100000/\q.1<nt/\∃r∈l,args[r.1]? =some (.tmp q.1)/\q.2= .v r.2
 | [],I,q,h,G=>by simp only[pS,A9.injEq]at h;subst h;cases G
 | (i,c)::r,I,q,h,G=>by
  simp only[pS]at h;split at h
  ·rename_i t l ht hl;split at h
   ·rename_i H;injection h with h;subst h;rcases A3.1 G with rfl | G
    ·exact⟨H.1,H.2,(i,c),Ag,ht,rfl⟩
    ·obtain⟨h1,h2,J,h3,h4⟩:=wk hl G;exact⟨h1,h2,J,Bg _ h3,h4⟩
   ·cases h
  ·cases h
variable{rest:List (TypeId×Nat)}{q:Nat×TypeId×List Leaf}
theorem preE_ok{G:List (TypeId×Nat)}(h:preE lk G q=true)(J:vt=G++rest)(hi:Inv vt w0 nt B a w)(H:∀x∈mv q.1 0 q.2.2.length,∀c,lk x=some c->bK ρ B a w x c):vW ρ B w q:=by
 simp only[preE,Bo,decide_eq_true_eq]at h;obtain⟨h1,⟨h2,h3⟩,h4⟩:=h;obtain⟨_,hc⟩:=fj h4 Aa H;obtain⟨g,cs,ty,K,P,vs,U,Y⟩:=hc h2;obtain⟨_,V,Z,f1,f2,f3⟩:=hi.blk q.1 g K;rw[P]at f2;injection f2 with f2;injection f2 with f2 I;subst f2;subst I;rw[J,Bw (A5.1 h1).1,h1]at f1;simp only[A9.injEq,B3.injEq]at f1;obtain⟨rfl,f1⟩:=f1;refine⟨g,cs,K,P,?_,f3⟩;have hl:=U.len;have:vs=cs.toList:=List.ext_getElem? (λk=>by
  by_cases hk:k<vs.length
  ·have:=Y k vs[k] (AU hk);rw[Bh]at this;rw[AU hk,BU,this]
  ·rw[Fr Aa,Fr (by simp;omega)])
 rw[<-this];exact U
theorem vW.loc{k:Nat}{l:Leaf}(h:vW ρ B w q)(G:k<100000)(hl:q.2.2[k]? =some l):bK ρ B a w (mu q.1 k) (.v (.one l)):=by
 obtain⟨g,cs,h1,h2,h3,_⟩:=h;obtain⟨u,h4,h5⟩:=h3.get hl;rw[gN G];exact⟨g,cs,_,u,h1,h2,by rw[<-BU];exact h4,h5⟩
variable{pb:MutD->Bool}
theorem ok_mut1(hO:∀i∈L,i.OkE w0 p ρ){z:AZ}{J:List (TypeId×Nat)}{kw:List (Nat×AV)}(av:o.op= .call k)(an:k.callee= .value z)(hz:evL lk z=some (.fn f))(am:oU lk k.args.toList=some xs)(hf:wg L f xs pb=some d)
  (a4:∀x∈d.pre,preE lk J x=true)(be:∀x∈d.us,usE J x=true)(ad:nvE J d.nv=true)(a2:pS nt k.args.toList d.keep=some kw)(a9:kw.all (λq=>decide (o.dst≠some q.1))=true)(ac:okD nt o.dst=true)
  (ak:vt=J++((d.nv.toList.map λq=>(q.2.1,q.2.2.length))++rest))(hi:Inv vt w0 nt B a w)(H:∀x∈jd o.op++d.pre.flatMap (λq=>mv q.1 0 q.2.2.length),∀c,lk x=some c->bK ρ B a w x c)(hn:∀v,d.nv.map (·.1)=some v->B.v v=none)
 (hK:∀B' a' w',Post ρ vt w0 nt ⟨jd o.op++d.pre.flatMap (λq=>mv q.1 0 q.2.2.length),wrD o.dst (mutR d.xs)++(kw++(d.us.flatMap (λq=>dC q.1 0 q.2.2)++nvW d.nv)),d.nv.map (·.1),d.ks,[]⟩ B a w B' a' w'->K a' w'):Bn p o a w K Q:=by
 have HO:∀x∈jd o.op,∀c,lk x=some c->bK ρ B a w x c:=λx hx=>H x (AJ.2 (.inl hx))
 obtain⟨r0,hr0⟩:=findM_ok hO hf;obtain⟨bi,args,tt⟩:=k;simp only at an am a2;subst an;have HA:∀x∈args.toList,bg ρ B a w lk x:=λx hx y hy c hc=>HO y (by rw[av];unfold jd;exact Br.2 ⟨x,by simp only[Dr,EI,EJ,AJ];exact .inr hx,hy⟩) c hc
 have U:a.eval z=fnV f:=d6 (λy hy c hc=>HO y (by rw[av];unfold jd;exact Br.2 ⟨z,by simp[Dr,EI],hy⟩) c hc) hz;have e2:=fK am HA;obtain⟨ao,V⟩:=hr0 B w (args.toList.map a.eval) hi.pin e2;have ea:(args.toList.map a.eval).toArray=args.map a.eval:=by rw[<-D9,Ek]
 rw[ea]at ao V;have a6:(execOp a.eval o).run p w= .ok (.enter f (args.map a.eval)) w:=by
  simp[execOp,av,resolve,invoke,Deferred.ofValue,U,ao,AX]
 unfold Bn;rw[a6,Oper.upon_enter];have Z:∀q,d.nv=some q->B.v q.1=none:=λq G=>hn q.1 (by rw[G];rfl)
 have aa:∀q,d.nv=some q->q.1=J.length/\q.2.2.length<=100000:=λq G=>by
  rw[G]at ad;simp only[nvE,decide_eq_true_eq]at ad;exact⟨ad.1,ad.2.2⟩
 refine(V hi.bok hi.inj (λk g h=>(hi.own k g h).2) (λx g h=> ?_) Z (λq G=> ?_)).mono ?_
 ·obtain⟨_,cs,ty,_,h3,h4⟩:=hi.blk x g h;exact .mk' h3 h4
 ·exact preE_ok (a4 q G) ak hi (λx hx c hc=>H x (AJ.2 (.inr (Br.2 ⟨q,G,hx⟩))) c hc)
 ·rintro e w' ⟨v,B',rfl,a5,au,aq,ap,I⟩;have ay:∀x g,B.v x=some g->B'.v x=some g:=λx g h=>by
   rw[I.v x (λq G e=>by subst e;rw[Z q G]at h;cases h)];exact h
  have ar:∀x g,B'.v x=some g->(∃q,d.nv=some q/\x=q.1/\w.heap.size<=g)\/B.v x=some g:=λx g h=>by
   by_cases e:∃q,d.nv=some q/\x=q.1
   ·obtain⟨q,G,rfl⟩:=e;exact .inl ⟨q,G,rfl,I.nv q g G h⟩
   ·rw[I.v x (λq G e'=>e ⟨q,G,e'⟩)]at h;exact .inr h
  have r:Reb B B' d.ks w w' (λg=>(∃k∈d.ks,B.o k g)\/∃q∈d.us,B.v q.1=some g):=by
   refine⟨⟨ay,I.o⟩,λg P=> ?_,λg h=>h.imp id (λ⟨q,_,h⟩=>⟨_,h⟩),hi.inj,I.chg⟩;rcases P with⟨x,h⟩ | ⟨k,h⟩
   ·rcases ar x g h with⟨_,_,_,h⟩ | h
    ·exact .inr h
    ·exact .inl (.inl ⟨x,h⟩)
   ·exact(I.new k g h).imp (λh=>.inr ⟨k,h⟩) (λh=>h.2)
  have ab:∀q∈d.us,J[q.1]? =some (q.2.1,q.2.2.length)/\q.2.2.length<=100000:=λq G=>by
   have:=be q G;simp only[usE,Bo,decide_eq_true_eq]at this;exact this
  have a0:∀x g,B.v x=some g->(∀q∈d.us,q.1≠x)->w'.heap[g]? =w.heap[g]? :=λx g h Y=>I.chg.blk g (hi.bok g (.inl ⟨x,h⟩)) (λhX=>by
   rcases hX with⟨k,_,h2⟩ | ⟨q,G,h2⟩
   ·exact hi.inj.vo _ _ _ h h2
   ·exact Y q G (hi.inj.v _ _ _ h2 h))
  refine hK B' _ w' ⟨r.le,⟨λx g P=> ?_,λk g P=> ?_,I.inj,?_,by rw[mB,hi.size],by rw[pa,hi.dfr],λx g h=>ay _ _ (hi.pin x g h)⟩,λq G=> ?_,λx c hx Y hh=> ?_,λu h1 h2=> ?_⟩
  ·rcases ar x g P with⟨q,G,rfl,a7⟩ | hb
   ·obtain⟨g',cs,U,e2,e3,e4⟩:=ap q G;rw[P]at U;injection U with U;subst U;refine⟨.ge hi.below a7,cs,_,?_,e2,e4⟩;have h2:=e3.len;rw[ak,Bq (by rw[(aa q G).1];exact AK _),(aa q G).1,Nat.sub_self,G];simpa using h2.symm
   ·obtain⟨h1,cs,ty,h2,h3,h4⟩:=hi.blk x g hb;by_cases hu:∃q∈d.us,q.1=x
    ·obtain⟨q,G,rfl⟩:=hu;obtain⟨g',ax,U,e2,e3,e4⟩:=aq q G;rw[P]at U;injection U with U;subst U;refine⟨h1,ax,_,?_,e2,e4⟩;have h5:=(ab q G).1;rw[ak,Bw (A5.1 h5).1,h5];have h6:=e3.len;simpa using h6.symm
    ·exact⟨h1,cs,ty,h2,by rw[a0 x g hb (λq G e=>hu ⟨q,G,e⟩)];exact h3,h4⟩
  ·rcases I.new k g P with h | ⟨hk,h⟩
   ·obtain⟨h2,h3⟩:=hi.own k g h;refine⟨h2,?_⟩;by_cases hk:k∈d.ks
    ·exact I.own k g hk P
    ·refine h3.blk (I.chg.blk g h3.1 (λhX=> ?_)) I.chg.size;rcases hX with⟨l,hl,h'⟩ | ⟨q,_,h'⟩
     ·have:=hi.inj.o _ _ _ h' h;subst this;exact hk hl
     ·exact hi.inj.vo _ _ _ h' h
   ·exact⟨.ge hi.below h,I.own k g hk P⟩
  ·refine⟨I.os.trans hi.below.os,I.tape.trans hi.below.tape,I.output.trans hi.below.output,AI hi.below.size I.chg.size,λg P hX=>(I.chg.blk g (Bt P hi.below.size) (λh=> ?_)).trans (hi.below.block g P hX)⟩;have a3:w0.may g:=by
    rcases h with⟨l,_,h⟩ | ⟨q,_,h⟩
    ·exact(hi.own l g h).1
    ·exact(hi.blk _ g h).1
   rcases a3 with h | h
   ·omega
   ·exact hX h
  ·
   rcases AJ.1 G with G | G
   ·cases hd:o.dst with
    | none=>rw[hd]at G;cases G
    | some t=>
     rw[hd]at G ac;simp only[wrD,Ct]at G;subst G;simp only[okD,Bo,decide_eq_true_eq]at ac;unfold bK;rw[if_pos ac.2];exact⟨v,tT (by rw[hi.size];exact ac.1),a5⟩
   ·rcases AJ.1 G with G | G
    ·obtain⟨h1,h2,q',h3,h4,h5⟩:=wk a2 G;obtain⟨u,h6,h7⟩:=au q' h3;have a1:=of_decide_eq_true (Cd.1 a9 q G);rw[BB,h4]at h6;simp only[BF,A9.injEq]at h6;unfold bK;rw[if_pos h1,h5];refine⟨u,?_,h7⟩;rw[pT (λt' bb e=>a1 (by rw[bb,e])),<-h6];simp[Db,h2,hi.size]
    ·rcases AJ.1 G with G | G
     ·obtain⟨q',h1,h2⟩:=Br.1 G;obtain⟨j,l,h3,rfl⟩:=lw.1 h2;have hl:=(A5.1 h3).1;exact(aq q' h1).loc (by have:=(ab q' h1).2;omega) (by rw[Bh];exact h3)
     ·cases hd:d.nv with
      | none=>rw[hd]at G;cases G
      | some q'=>
       rw[hd]at G;obtain⟨j,l,h3,rfl⟩:=lw.1 G;have hl:=(A5.1 h3).1;exact(ap q' hd).loc (by have:=(aa q' hd).2;omega) (by rw[Bh];exact h3)
  ·refine hx.reb hh r (λam g h1 bp cs ty h2 h3 hX=> ?_) (λam=>pT (λt ht e=> ?_))
   ·rcases hX with⟨k,_,h⟩ | ⟨q,G,h⟩
    ·exact hi.inj.vo _ _ _ h1 h
    ·have h4:=hi.inj.v _ _ _ h h1;obtain⟨h5,h6⟩:=ab q G;obtain⟨_,ax,bq,f1,f2,_⟩:=hi.blk _ g h1;rw[h2]at f2;injection f2 with f2;injection f2 with f2 _;subst f2;rw[<-h4,ak,Bw (A5.1 h5).1,h5]at f1;simp only[A9.injEq,B3.injEq]at f1;have hl:x % 100000<q.2.2.length:=by rw[f1.2];exact h3
     refine Y (mu q.1 (0+x % 100000),.v (.one q.2.2[x % 100000])) ?_ ?_
     ·refine AJ.2 (.inr (AJ.2 (.inr (AJ.2 (.inl (Br.2 ⟨q,G,lw.2 ⟨_,_,AU hl,rfl⟩⟩))))))
     ·unfold mu;have h7:=Ce x 100000;simp only;omega
   ·rw[ht]at Y;exact Y (t,mutR d.xs) (by simp[wrD]) e
  ·cases hb:B'.v u with
   | none=>exact absurd hb h2
   | some g=>
    rcases ar u g hb with⟨q,G,rfl,_⟩ | h
    ·simp[G]
    ·rw[h1]at h;cases h
theorem ok_mut(hO:∀i∈L,i.OkE w0 p ρ){z:AZ}{P new:List (TypeId×Nat)}{e:Eff}(Z:o.op= .call k)(G:k.callee= .value z)(hz:evL lk z=some (.fn f))(ac:oU lk k.args.toList=some xs)(hf:wg L f xs pb=some d)
  (h:mutE nt lk P o.op k.args.toList o.dst d=some (e,new))(U:okD nt o.dst=true)(ab:vt=P++(new++rest))(hi:Inv vt w0 nt B a w)(H:∀x∈e.rd,∀c,lk x=some c->bK ρ B a w x c)(hn:∀v,e.al=some v->B.v v=none)
 (hK:∀B' a' w',Post ρ vt w0 nt e B a w B' a' w'->K a' w'):Bn p o a w K Q:=by
 unfold mutE at h;split at h
 ·rename_i I;simp only[Bo,Cd]at I;obtain⟨J,aa,Y⟩:=I
  cases hkw:pS nt k.args.toList d.keep with
  | none=>rw[hkw]at h;cases h
  | some kw=>
   rw[hkw]at h;simp only at h;split at h
   ·rename_i V;simp only[A9.injEq,B3.injEq]at h;obtain⟨rfl,rfl⟩:=h;exact ok_mut1 hO Z G hz ac hf J aa Y hkw V U ab hi H hn hK
   ·cases h
 ·cases h
end
section
variable {p:A0} {ρ:Rho} {B B':Blk} {a a':Act} {w w':World} {w0:Ent} {C:List Inst} {L:List OIns} {lk:Nat->Option AV} {vt:List (TypeId×Nat)} {nt:Nat} {Q:Bf->Act->World->Prop} {o:Oper} {ops:Array Oper}
variable{g:Nat}{ty:TypeId}
theorem yH{k:Nat}{v:Value}{cs:Array Value}(h:w.heap[g]? =some (.cells cs ty (0,0)))(G:k<cs.size)(hv:eO v):(Go.store ⟨g,k,none⟩ v).run p w= .ok () (w.setCell ⟨g,k,none⟩ v):=by
 have h1:w.cell? ⟨g,k,none⟩=some cs[k]:=by rw[aE h];exact Array.getElem?_eq_getElem G
 have h2:w.frozen? ⟨g,k,none⟩=false:=frozen_of_row w g k _ _ h;have h3:=hv.1;have h4:=hv.2.1;unfold Go.store
 cases v with
 | agg cs=>exact absurd rfl (h3 cs)
 | tuple vs=>exact absurd rfl (h4 vs)
 | _=>simp[Sem.run,h1,h2]
theorem fM{o:Nat}:∀(vs:List Value)(i:Nat)(w:World)(cs:Array Value),w.heap[g]? =some (.cells cs ty (0,0))->o+i+vs.length<=cs.size->(∀v∈vs,eO v)->
  ∃w' G,(storeCells ⟨g,o,none⟩ vs i).run p w= .ok () w'/\Upd w g w'/\w'.heap[g]? =some (.cells G ty (0,0))/\G.size=cs.size/\
   (∀k v,vs[k]? =some v->G[o+i+k]? =some v)/\∀k,(k<o+i\/o+i+vs.length<=k)->G[k]? =cs[k]?
 | [],i,w,cs,h,_,_=>⟨w,cs,by simp[storeCells],⟨rfl,rfl,rfl,rfl,λ_ _=>rfl⟩,h,rfl,Ag,λ_ _=>rfl⟩
 | v::vs,i,w,cs,h,hle,hv=>by
  simp only[Bz]at hle;have h1:=yH (p:=p) (k:=o+i) h Aa (hv v Ag);have h2:=heap_setCell_same w g (o+i) _ _ v h;obtain⟨w',G,U,V,Y,I,Z,J⟩:=fM (o:=o) vs (i+1) (w.setCell ⟨g,o+i,none⟩ v) (cs.setIfInBounds (o+i) v) h2 (by simp;omega) (λu H=>hv u (Bg _ H));have P:=I;refine⟨w',G,?_,(Upd.cell w g (o+i) v).trans V,Y,by rw[I];simp,λk u H=> ?_,λk K=> ?_⟩
  ·unfold storeCells;rw[AO,cE,h1];exact U
  ·match k with
   | 0=>
    simp at H;subst H;rw[J (o+i+0) Aa];simp[show o+i<cs.size from Aa]
   | k+1=>
    have:=Z k u (by simpa using H);rwa [show o+(i+1)+k=o+i+(k+1)from Aa]at this
  ·rw[J k (by simp only[Bz]at K;omega)];simp only[Bz]at K;rw[Eh,if_neg Aa]
theorem bK.upd{x:Nat}{c:AV}(h:bK ρ B a w x c)(o:bF w g)(u:Upd w g w')(hb:∃x,B.v x=some g)(hi:BInj B)(I:¬x<100000->∀H cs ty y,B.v (x / 100000 - 1)=some H->w.heap[H]? =some (.cells cs ty (0,0))->cs[x % 100000]? =some y->∃G,w'.heap[H]? =some (.cells G ty (0,0))/\G[x % 100000]? =some y):bK ρ B a w' x c:=by
 unfold bK at h⊢;split at h
 ·rename_i I;rw[if_pos I];obtain⟨v,h1,h2⟩:=h;exact⟨v,h1,h2.upd o u hb hi⟩
 ·rename_i hn;rw[if_neg hn];obtain⟨H,cs,ty,v,h1,h2,h3,h4⟩:=h;obtain⟨G,h5,h6⟩:=I hn H cs ty v h1 h2 h3;exact⟨H,G,ty,v,h1,h5,h6,h4.upd o u hb hi⟩
variable{rd:List Nat}{K:Act->World->Prop}
theorem ok_store{t:TypeId}{x y:AZ}{v off n:Nat}{s:SV}(ho:o.op= .store t x y)(hd:o.dst=none)(hx:evL lk x=some (.ptr v off))(hy:evS lk y=some s)(an:vt[v]? =some (ty,n))
  (hs:szB p t=some s.leaves.length)(hf:mz s.leaves=true)(ao:off+s.leaves.length<=n)(hn:n<=100000)(hi:Inv vt w0 nt B a w)(Hx:bg ρ B a w lk x)(Hy:bg ρ B a w lk y) 
 (hK:∀B' a' w',Post ρ vt w0 nt ⟨rd,dC v off s.leaves,none,[],[]⟩ B a w B' a' w'->K a' w'):Bn p o a w K Q:=by
 obtain⟨g,hg,e1⟩:=(d6 Hx hx:Leaf.holds ρ B w (.ptr v off) (a.eval x));have e2:=d5 Hy hy;have hc:=e2.cells;obtain⟨am,cs,aq,f1,f2,f3⟩:=hi.blk v g hg;rw[an]at f1;simp only[A9.injEq,B3.injEq]at f1;obtain⟨rfl,rfl⟩:=f1;have ac:=hc.len;have U:∀u∈(a.eval y).cells.toList,eO u:=λu hu=>by
  obtain⟨k,hk,rfl⟩:=List.getElem_of_mem hu;obtain⟨z,h1,h2⟩:=hc.get (AU (show k<s.leaves.length by omega));rw[AU hk]at h1;injection h1 with h1;rw[h1];exact h2.flat (Cd.1 hf _ (List.getElem_mem _))
 obtain⟨w',aa,g1,g2,g3,g4,g5,g6⟩:=fM (p:=p) (o:=off) (a.eval y).cells.toList 0 w cs f2 Aa U;have ow:bF w g:=.mk' f2 f3;have ad:(execOp a.eval o).run p w= .ok .skip w':=by
  unfold execOp;rw[ho];simp only[AO,Instr.storeAt,e1,Instr.sureAddr,BC,AX,storeVar,ba hs];rw[if_neg (by simp only[ne_eq,Classical.not_not];simpa using ac)];rw[g1]
 unfold Bn;rw[ad,Oper.upon_skip,hd];show K a w';have P:∀H G I,w.heap[H]? =some (.cells G I (0,0))->∃J,w'.heap[H]? =some (.cells J I (0,0))/\J.size=G.size/\(H≠g->J=G):=λH G I h=>by
  by_cases e:H=g
  ·subst e;rw[f2]at h;injection h with h;injection h with h h2;subst h;subst h2;exact⟨aa,g3,g4,λh=>absurd rfl h⟩
  ·exact⟨G,by rw[g2.block H e];exact h,rfl,λ_=>rfl⟩
 refine hK B a w' ⟨BLe.refl,⟨λv' H V=> ?_,λv' H V=> ?_,hi.inj,hi.below.upd g2 am,hi.size,hi.dfr,hi.pin⟩,λq hq=> ?_,λz c hz ab _=>hz.upd ow g2 ⟨_,hg⟩ hi.inj (λap H G I y1 h1 h2 h3=> ?_),λu h1 h2=>absurd h1 h2⟩
 ·obtain⟨h1,G,I,h2,h3,h4⟩:=hi.blk v' H V;obtain⟨J,Z,k2,k3⟩:=P H G I h3;refine⟨h1,J,I,by rw[k2];exact h2,Z,λk m hk=> ?_⟩;by_cases e:H=g
  ·subst e;rw[g3]at Z;injection Z with Z;injection Z with Z _;subst Z;by_cases hin:k<off\/off+(a.eval y).cells.toList.length<=k
   ·rw[g6 k (by simpa using hin)]at hk;exact f3 k m hk
   ·have Y:k - off<(a.eval y).cells.toList.length:=Aa
    have:=g5 (k - off) _ (AU Y);rw[show off+0+(k - off)=k from Aa,hk]at this;injection this with this;exact(U _ (List.getElem_mem Y)).2.2 m this.symm
  ·rw[k3 e]at hk;exact h4 k m hk
 ·obtain⟨h1,h2⟩:=hi.own v' H V;have ab:H≠g:=λe=>by subst e;exact hi.inj.vo _ _ _ hg V
  exact⟨h1,h2.blk (g2.block H ab) (by rw[g2.size];exact AK _)⟩
 ·obtain⟨j,l,h1,rfl⟩:=lw.1 hq;have hj:=(A5.1 h1).1;obtain⟨u,h2,h3⟩:=hc.get h1;rw[gN Aa];exact⟨g,aa,ty,u,hg,g3,by have:=g5 j u h2;simpa using this,(h3.upd ow g2 ⟨_,hg⟩ hi.inj:Leaf.holds ρ B w' l u)⟩
 ·by_cases e:H=g
  ·subst e;rw[f2]at h2;injection h2 with h2;injection h2 with h2 ak;subst h2;subst ak;refine⟨aa,g3,?_⟩;have hv:=hi.inj.v _ _ _ h1 hg;by_cases hin:z % 100000<off\/off+(a.eval y).cells.toList.length<=z % 100000
   ·rw[g6 _ (by simpa using hin)];exact h3
   ·have Y:z % 100000 - off<s.leaves.length:=Aa
    refine absurd ?_ (ab (mu v (off+(z % 100000 - off)),.v (.one s.leaves[z % 100000 - off])) (lw.2 ⟨_,_,AU Y,rfl⟩));unfold mu;have:z / 100000=v+1:=Aa
    have h5:=Ce z 100000;simp only;omega
  ·obtain⟨J,Z,k2,k3⟩:=P H G I h2;exact⟨J,Z,by rw[k3 e];exact h3⟩
variable{xs:List SV}
theorem findC_ok(G:∀i∈C,i.Ok0 p ρ w0){f:BA}{r:AV}(h:aaB C f xs=some r):(Inst.mk f xs r).Ok0 p ρ w0:=by
 unfold aaB at h;split at h
 ·rename_i i hi;simp at h;subst h;have h1:=DU hi;simp only[Bo,decide_eq_true_eq]at h1;have:=G i (Dq hi);obtain⟨I,H,J⟩:=i;obtain⟨rfl,rfl⟩:=h1;exact this
 ·cases h
theorem ok_call(hC:∀i∈C,i.Ok0 p ρ w0){k:Call}{z:AZ}{f:BA}{r:AV}(ho:o.op= .call k)(P:k.callee= .value z)(hz:evL lk z=some (.fn f))(I:oU lk k.args.toList=some xs)(hr:aaB C f xs=some r)
  (hd:okD nt o.dst=true)(hi:Inv vt w0 nt B a w)(H:∀x∈(Op.call k).operands.toList,bg ρ B a w lk x) 
 (hK:∀B' a' w',Post ρ vt w0 nt ⟨rd,wrD o.dst r,none,[],[]⟩ B a w B' a' w'->K a' w'):Bn p o a w K Q:=by
 obtain⟨U,args,tt⟩:=k;simp only at P I;subst P;have V:a.eval z=fnV f:=d6 (H z (by simp[Dr,EI])) hz;have Y:=fK I (λx hx=>H x (by simp only[Dr,EI,EJ,AJ];exact .inr hx));obtain⟨J,G⟩:=findC_ok hC hr;have hc:=G B w _ hi.below hi.bok Y;have Z:(args.toList.map a.eval).toArray=args.map a.eval:=by rw[<-D9,Ek]
 rw[Z]at hc;unfold Bn;have:(execOp a.eval o).run p w= .ok (.enter f (args.map a.eval)) w:=by
  simp[execOp,ho,resolve,invoke,Deferred.ofValue,V,J,AX]
 rw[this,Oper.upon_enter];refine hc.mono ?_;rintro e w' ⟨v,rfl,h1,h2⟩;exact hK B _ w' (fL hi hd h2 h1)
theorem ok_pure(J:∀i∈L,i.OkE w0 p ρ){c:AV}(h:si p L lk o.op=some (c,rd))(P:okD nt o.dst=true)(hi:Inv vt w0 nt B a w)(H:∀x∈jd o.op++rd,∀c,lk x=some c->bK ρ B a w x c)
  {G:List Nat}(I:∀B' a' w',Post ρ vt w0 nt ⟨G,wrD o.dst c,none,[],[]⟩ B a w B' a' w'->K a' w'):Bn p o a w K Q:=by
 obtain⟨u,h1,h2⟩:=makes_any J h (λx U y hy c hc=>H y (AJ.2 (.inl (by unfold jd;exact Br.2 ⟨x,U,hy⟩))) c hc) (λy hy c hc=>H y (AJ.2 (.inr hy)) c hc);unfold Bn;rw[h1,El];exact I B _ w (fL hi P (AL _ _) h2)
theorem aaC:∀(l:List (Nat×AZ)),(l.map (·.1)).zip ((l.map (·.2)).map a.eval)=l.map λq=>(q.1,a.eval q.2)
 | []=>rfl
 | _::l=>congrArg (_:: ·) (aaC l)
theorem ok_bs(U:∀i∈L,i.OkE w0 p ρ){t:TypeId}{n:Nat}{parts:Array (Nat×AZ)}{r:SV}(Y:o.op= .buildSlice t n parts)(G:oU lk (parts.toList.map (·.2))=some xs)(hr:cM L (.bs t n (parts.toList.map (·.1))) xs=some r)
  (V:okD nt o.dst=true)(hi:Inv vt w0 nt B a w)(H:∀x∈(Op.buildSlice t n parts).operands.toList,bg ρ B a w lk x) 
 (P:∀B' a' w',Post ρ vt w0 nt ⟨rd,wrD o.dst (.v r),none,[],[]⟩ B a w B' a' w'->K a' w'):Bn p o a w K Q:=by
 have I:=fK G (λx Z=>H x (by simpa [Dr]using Z));obtain⟨v,w',h1,h2,h3⟩:=(eT U (λ_ _ h=>by cases h) hr) B w _ I hi.bok;rw[aaC]at h2;have:(execOp a.eval o).run p w= .ok (.value v) w':=by
  unfold execOp;rw[Y];have J:(parts.map λx=>match x with | (i,x)=>(i,a.eval x))=(parts.toList.map λq=>(q.1,a.eval q.2)).toArray:=by
   obtain⟨l⟩:=parts;simp
  simp only[AO];rw[J,h2];rfl
 unfold Bn;rw[this,El];exact P B _ w' (fL hi V h3 h1)
variable{new rest:List (TypeId×Nat)}
theorem aaD(hC:∀i∈C,i.Ok0 p ρ w0)(hO:∀i∈L,i.OkE w0 p ρ){ab:List (TypeId×Nat)}{e:Eff}(h:wh p C L nt lk ab o=some (e,new))(V:vt=ab++(new++rest))(hi:Inv vt w0 nt B a w)
  (H:∀x∈e.rd,∀c,lk x=some c->bK ρ B a w x c)(hn:∀v,e.al=some v->B.v v=none)(Z:∀B' a' w',Post ρ vt w0 nt e B a w B' a' w'->K a' w'):Bn p o a w K Q:=by
 unfold wh at h;split at h
 ·cases h
 ·rename_i P;have P:okD nt o.dst=true:=by simpa using P
  have aa:∀ {h:(match si p L lk o.op with | some (c,rd)=>some (Eff.mk (jd o.op++rd) (wrD o.dst c) none [] [],([]:List (TypeId×Nat))) | none=>none)=some (e,new)},Bn p o a w K Q:=by
   intro h;split at h
   ·rename_i c rd hp;simp at h;obtain⟨rfl,rfl⟩:=h;exact ok_pure hO hp P hi H Z
   ·cases h
  dsimp only at h;split at h
  ·
   rename_i t J;split at h
   ·rename_i d z G hz;split at h
    ·rename_i hc;simp at h;obtain⟨rfl,rfl⟩:=h;obtain⟨zv,ak,am⟩:=gn (ρ:=ρ) (B:=B) (w:=w) hz;have U:(execOp a.eval o).run p w= .ok (.value (.pointer (some ⟨w.heap.size,0,none⟩))) (w.alloc (.cells zv.cells t)):=by
      unfold execOp;rw[J];simp only[Instr.alloc,AO,ak,AX,newVar,newRow,Go.newObj,Sem.run,BC];rfl
     unfold Bn;rw[U,El,G];rw[G]at P;exact Z _ _ _ (wi hi P hc.1 hc.2.1 am (by rw[V];simp) (hn _ rfl))
    ·cases h
   ·cases h
  ·
   rename_i t x J;split at h
   ·rename_i d s G hs;split at h
    ·rename_i hc;simp at h;obtain⟨rfl,rfl⟩:=h;have e2:=d5 (λy hy c hc=>H y hy c hc) hs;have U:(execOp a.eval o).run p w= .ok (.value (.pointer (some ⟨w.heap.size,0,none⟩))) (w.alloc (.cells (a.eval x).cells t)):=by
      unfold execOp;rw[J];simp only[Instr.box,AO,AX,newVar,newRow,Go.newObj,Sem.run,BC];rfl
     unfold Bn;rw[U,El,G];rw[G]at P;exact Z _ _ _ (wi hi P hc.1 hc.2.1 e2.cells (by rw[V];simp) (hn _ rfl))
    ·cases h
   ·cases h
  ·
   rename_i t x y J;split at h
   ·rename_i v off s G hx hy;split at h
    ·rename_i ty n hv;split at h
     ·rename_i hc;simp at h;obtain⟨rfl,rfl⟩:=h;exact ok_store J G hx hy (by rw[V,Bw (A5.1 hv).1];exact hv) hc.1 hc.2.1 hc.2.2.1 hc.2.2.2.1 hi (λz hz c hc=>H z (AJ.2 (.inl hz)) c hc) (λz hz c hc=>H z (AJ.2 (.inr hz)) c hc) Z
     ·cases h
    ·cases h
   ·cases h
  ·
   rename_i k J;split at h
   ·rename_i z hk;split at h
    ·rename_i f xs hz Y;split at h
     ·rename_i r hr;simp only[A9.injEq,B3.injEq]at h;obtain⟨rfl,rfl⟩:=h;rw[J]at H;exact ok_call hC J hk hz Y hr P hi (λx hx y hy c hc=>H y (by unfold jd;exact Br.2 ⟨x,hx,hy⟩) c hc) Z
     ·split at h
      ·rename_i d hf;exact ok_mut hO J hk hz Y hf h P V hi H hn Z
      ·cases h
    ·cases h
   ·rename_i hk;split at h
    ·rename_i d x y t t' G I ad;split at h
     ·rename_i lx ly hx hy;split at h
      ·rename_i ac;subst ac;split at h
       ·rename_i i m hf;split at h
        ·rename_i hs;simp only[A9.injEq,B3.injEq]at h;obtain⟨rfl,rfl⟩:=h;have HH:∀z∈k.args.toList,bg ρ B a w lk z:=λz hz y hy c hc=>H y (by rw[J];unfold jd;exact Br.2 ⟨z,by simp only[Dr,EI,EJ,AJ];exact .inr hz,hy⟩) c hc
         exact ok_app hO J hk G I ad hx hy hf hs (by rw[<-G];exact P) hi (HH x (by rw[I];simp)) (HH y (by rw[I];simp)) Z
        ·cases h
       ·cases h
      ·cases h
     ·cases h
    ·cases h
   ·exact aa (h:=h)
  ·
   rename_i t n parts J;split at h
   ·rename_i d xs G Y
    cases hr:cM L (.bs t n (parts.toList.map (·.1))) xs with
    | none=>rw[hr]at h;cases h
    | some r=>
     rw[hr]at h;simp only[BF,A9.injEq,B3.injEq]at h;obtain⟨rfl,rfl⟩:=h;rw[J]at H;exact ok_bs hO J Y hr P hi (λx hx y hy c hc=>H y (by unfold jd;exact Br.2 ⟨x,hx,hy⟩) c hc) Z
   ·cases h
  ·exact aa (h:=h)
theorem aaE(hC:∀i∈C,i.Ok0 p ρ w0)(hO:∀i∈L,i.OkE w0 p ρ){J:List (TypeId×Nat)}{e:Eff}{j:Nat}(hj:ops[j]? =some o)(h:yG p C L nt ops lk J o=some (e,new))(U:vt=J++(new++rest)):
  OpOk p ρ vt w0 nt ops Q j lk e:=by
 intro B a w hi H hn K V;unfold yG at h;unfold wpOp;rw[hj];show if A7 o (yielded ops a.tmps)=true then _ else _
 split at h
 ·rename_i P;rw[if_pos (by unfold A7;rw[P])];exact .inl (aaD hC hO h U hi H hn V)
 ·rename_i g b P;split at h
  ·rename_i t ht;split at h
   ·rename_i x hx;have hy:t∈e.rd->yielded ops a.tmps g=some x:=λhm=>by
     have G:a.eval (.tmp t)= .bool x:=su (λy hy c hc=>by
      simp only[rdO,Ct]at hy;subst hy;exact H _ hm c hc) hx
     have Y:(ops[g]?).bind (·.dst)=some t:=by
      unfold cf at ht
      cases ho:ops[g]? with
      | none=>rw[ho]at ht;cases ht
      | some o=>rw[ho]at ht;exact ht
     have e3:a.tmps[t]? =some (.bool x):=by
      simp only[Db,EG]at G
      cases hq:a.tmps[t]? with
      | none=>rw[hq]at G;cases G
      | some u=>rw[hq]at G;simp at G;rw[G]
     unfold yielded;rw[Y];simp only[Em,e3]
    split at h
    ·rename_i I
     cases he:wh p C L nt lk J o with
     | none=>rw[he]at h;cases h
     | some q=>
      rw[he]at h;obtain⟨e0,aa⟩:=q;simp at h;obtain⟨rfl,rfl⟩:=h;rw[if_pos (by unfold A7;rw[P];show(yielded ops a.tmps g==some b)=true;rw[hy Ag,I];simp)];exact .inl (aaD hC hO he U hi (λy hy c hc=>H y (Bg _ hy) c hc) hn (λB' a' w' hp=>V B' a' w' ⟨hp.le,hp.inv,hp.wr,hp.keep,hp.new⟩))
    ·rename_i I;split at h
     ·rename_i Z;simp at h;obtain⟨rfl,rfl⟩:=h;rw[if_neg (by unfold A7;rw[P];show¬(yielded ops a.tmps g==some b)=true;rw[hy Ag];simpa using I)];exact V B _ w (fL hi Z (AL _ _) rfl)
     ·cases h
   ·rename_i hx;split at h
    ·rename_i Z;simp at h;obtain⟨rfl,rfl⟩:=h;have G:a.eval (.tmp t)=undef:=su (λy hy c hc=>by
      simp only[rdO,Ct]at hy;subst hy;exact H _ Ag c hc) hx
     have Y:(ops[g]?).bind (·.dst)=some t:=by
      unfold cf at ht
      cases ho:ops[g]? with
      | none=>rw[ho]at ht;cases ht
      | some o=>rw[ho]at ht;exact ht
     have e4:yielded ops a.tmps g=none:=by
      unfold yielded;rw[Y];simp only[Em];simp only[Db,EG]at G
      cases hq:a.tmps[t]? with
      | none=>rfl
      | some u=>rw[hq]at G;simp at G;rw[G];rfl
     rw[if_neg (by unfold A7;rw[P];show¬(yielded ops a.tmps g==some b)=true;rw[e4];simp)];exact V B _ w (fL hi Z (AL _ _) rfl)
    ·cases h
   ·cases h
  ·cases h
end
def lz(o:Oper):List Nat:=(o.after.toList.filter (Region.binds .any)).map (·.on)
def objsO:Option AV->List Nat
 | some c=>c.objs
 | none=>[]
def Eff.note(e:Eff)(lk:Nat->Option AV):Eff:=⟨e.rd,e.wr,e.al,e.ks,e.ms++(e.rd.flatMap (λx=>objsO (lk x))++e.wr.flatMap (λq=>q.2.objs))⟩
variable{e:Eff}{lk:Nat->Option AV}
theorem Eff.note_wf:(e.note lk).Wf lk:=
 ⟨λx I c hc k G=>AJ.2 (.inr (AJ.2 (.inl (Br.2 ⟨x,I,by rw[hc];exact G⟩)))),
  λq H k G=>AJ.2 (.inr (AJ.2 (.inr (Br.2 ⟨q,H,G⟩))))⟩
variable{vt:List (TypeId×Nat)}{j:Nat}
theorem OpOk.note{p:A0}{w0:Ent}{nt:Nat}{ops:Array Oper}{Q:Bf->Act->World->Prop}{G:Nat->Option AV}(h:OpOk p ρ vt w0 nt ops Q j lk e):OpOk p ρ vt w0 nt ops Q j lk (e.note G):=
 λB a w hi H hn K I=>h B a w hi H hn K (λB' a' w' hp=>I B' a' w' ⟨hp.le,hp.inv,hp.wr,hp.keep,hp.new⟩)
def oF(p:A0)(C:List Inst)(L:List OIns)(nt:Nat)(ops:Array Oper)(b:Nat->Option AV):List Oper->Nat->List Nat->List (TypeId×Nat)->dY->Option (dY×List (TypeId×Nat))
 | [],_,_,vts,effs=>some (effs,vts)
 | o::r,j,ancs,vts,effs=>
  if (lz o).all (λk=>decide (k<j))then
   match yG p C L nt ops (lkE b effs) vts o with
   | some (e,new)=>if aay ((lz o).foldl (λm k=>m ||| (ancs.getD k 0 ||| 1 <<< k)) 0) effs (e.note (lkE b effs))then
     oF p C L nt ops b r (j+1) (ancs++ [(lz o).foldl (λm k=>m ||| (ancs.getD k 0 ||| 1 <<< k)) 0]) (vts++new) ((j,e.note (lkE b effs))::effs)else none
   | none=>none
  else none
structure MS where
 slots:List (Option AV)
 vars:List (TypeId×List (Option Leaf))
def bA(s:MS)(x:Nat):Option AV:=
 if x<100000 then(match s.slots[x]? with | some c=>c | none=>none)else
 match s.vars[x / 100000 - 1]? with
 | some v=>(match v.2[x % 100000]? with | some (some l)=>some (.v (.one l)) | _=>none)
 | none=>none
def leafA:AV->Option Leaf
 | .v (.one l)=>some l
 | _=>none
def pU:List (TypeId×List (Option Leaf))->Nat->Nat->Option Leaf->List (TypeId×List (Option Leaf))
 | [],_,_,_=>[]
 | v::r,0,k,l=>(v.1,v.2.set k l)::r
 | v::r,i+1,k,l=>v::pU r i k l
def sw(s:MS)(q:Nat×AV):MS:=
 if q.1<100000 then {s with slots:=s.slots.set q.1 (some q.2)}else {s with vars:=pU s.vars (q.1 / 100000 - 1) (q.1 % 100000) (leafA q.2)}
def yI(s:MS):List (Nat×AV)->MS
 | []=>s
 | q::r=>sw (yI s r) q
def aaF(ks:List Nat):Option Leaf->Option Leaf
 | some l=>if l.objs.any ks.contains then none else some l
 | none=>none
def pV(ks:List Nat)(s:MS):MS:=⟨s.slots.map (fil ks),s.vars.map λv=>(v.1,v.2.map (aaF ks))⟩
def wm(ks:List Nat)(s:MS):MS:=match ks with
 | []=>s
 | k::ks=>pV (k::ks) s
def gF(s:MS):dY->MS
 | []=>s
 | (_,e)::r=>yI (wm e.ks (gF s r)) e.wr
def dg(s:MS):List (TypeId×Nat):=s.vars.map λx=>(x.1,x.2.length)
def mC(s:MS)(new:List (TypeId×Nat)):MS:= {s with vars:=s.vars++new.map λx=>(x.1,EF x.2 none)}
def regX(p:A0)(C:List Inst)(L:List OIns)(nt:Nat)(ops:Array Oper)(s:MS):Option MS:=
 match oF p C L nt ops (bA s) ops.toList 0 [] (dg s) []with
 | some (effs,vts)=>some (gF (mC s (vts.drop s.vars.length)) effs)
 | none=>none
section
variable {p:A0} {ρ:Rho} {B:Blk} {a:Act} {w:World} {w0:Ent} {C:List Inst} {L:List OIns} {nt:Nat} {Q:Bf->Act->World->Prop} {o:Oper} {ops:Array Oper} {b:Nat->Option AV}
theorem nK:∀ {l:List Oper} {j:Nat} {J:List Nat} {I G:List (TypeId×Nat)} {K H:dY},oF p C L nt ops b l j J I K=some (H,G)->∃rest,G=I++rest
 | [],_,_,I,G,_,_,h=>by simp[oF]at h;exact⟨[],by rw[h.2];simp⟩
 | o::r,j,J,I,G,K,H,h=>by
  simp only[oF]at h;split at h
  ·split at h
   ·rename_i e new _;split at h
    ·obtain⟨rest,P⟩:=nK h;exact⟨new++rest,by rw[P,DG]⟩
    ·cases h
   ·cases h
  ·cases h
variable{G new:List (TypeId×Nat)}
theorem mutE_al{op:Op}{args:List AZ}{H:Option Tmp}{d:MutD}(h:mutE nt lk G op args H d=some (e,new)):∀v,e.al=some v->v=G.length/\new.length=1/\G.length<OW:=by
 unfold mutE at h;split at h
 ·rename_i hc;split at h
  ·split at h
   ·simp only[A9.injEq,B3.injEq]at h;obtain⟨rfl,rfl⟩:=h;intro v hv;simp only[Bo]at hc;have hn:=hc.2.2
    cases hd:d.nv with
    | none=>simp[hd]at hv
    | some q=>
     simp only[hd,BF,A9.injEq]at hv;rw[hd]at hn;simp only[nvE,decide_eq_true_eq]at hn;exact⟨Aa,Ag,hn.2.1⟩
   ·cases h
  ·cases h
 ·cases h
theorem aaG(h:wh p C L nt lk G o=some (e,new)):∀v,e.al=some v->v=G.length/\new.length=1/\G.length<OW:=by
 unfold wh at h;split at h
 ·cases h
 ·dsimp only at h;have H:∀ {h:(match si p L lk o.op with | some (c,rd)=>some (Eff.mk (jd o.op++rd) (wrD o.dst c) none [] [],([]:List (TypeId×Nat))) | none=>none)=some (e,new)},∀v,e.al=some v->v=G.length/\new.length=1/\G.length<OW:=by
   intro h;split at h
   ·simp at h;obtain⟨rfl,rfl⟩:=h;intro v hv;cases hv
   ·cases h
  split at h
  ·split at h
   ·split at h
    ·rename_i hc;simp at h;obtain⟨rfl,rfl⟩:=h;intro v hv;injection hv with hv;exact⟨hv.symm,rfl,hc.2.2⟩
    ·cases h
   ·cases h
  ·split at h
   ·split at h
    ·rename_i hc;simp at h;obtain⟨rfl,rfl⟩:=h;intro v hv;injection hv with hv;exact⟨hv.symm,rfl,hc.2.2⟩
    ·cases h
   ·cases h
  ·split at h
   ·split at h
    ·split at h
     ·simp at h;obtain⟨rfl,rfl⟩:=h;intro v hv;cases hv
     ·cases h
    ·cases h
   ·cases h
  ·split at h
   ·split at h
    ·split at h
     ·simp only[A9.injEq,B3.injEq]at h;obtain⟨rfl,rfl⟩:=h;intro v hv;cases hv
     ·split at h
      ·exact mutE_al h
      ·cases h
    ·cases h
   ·split at h
    ·split at h
     ·split at h
      ·split at h
       ·split at h
        ·simp only[A9.injEq,B3.injEq]at h;obtain⟨rfl,rfl⟩:=h;intro v hv;cases hv
        ·cases h
       ·cases h
      ·cases h
     ·cases h
    ·cases h
   ·exact H (h:=h)
  ·rename_i t n parts K;split at h
   ·rename_i d xs I J
    cases hr:cM L (.bs t n (parts.toList.map (·.1))) xs with
    | none=>rw[hr]at h;cases h
    | some r=>rw[hr]at h;simp only[BF,A9.injEq,B3.injEq]at h;obtain⟨rfl,rfl⟩:=h;intro v hv;cases hv
   ·cases h
  ·exact H (h:=h)
theorem aaH(h:yG p C L nt ops lk G o=some (e,new)):∀v,e.al=some v->v=G.length/\new.length=1/\G.length<OW:=by
 unfold yG at h;split at h
 ·exact aaG h
 ·split at h
  ·split at h
   ·split at h
    ·cases he:wh p C L nt lk G o with
     | none=>rw[he]at h;cases h
     | some q=>
      rw[he]at h;obtain⟨I,H⟩:=q;simp at h;obtain⟨rfl,rfl⟩:=h;intro v hv;exact aaG he v hv
    ·split at h
     ·simp at h;obtain⟨rfl,rfl⟩:=h;intro v hv;cases hv
     ·cases h
   ·split at h
    ·simp at h;obtain⟨rfl,rfl⟩:=h;intro v hv;cases hv
    ·cases h
   ·cases h
  ·cases h
theorem pW{f:Nat->Nat}:∀ {l:List Nat} {G i:Nat},(l.foldl (λm k=>m ||| (f k ||| 1 <<< k)) G).testBit i=true->G.testBit i=true\/∃k∈l,(f k).testBit i=true\/i=k
 | [],_,_,h=>.inl h
 | k::l,G,i,h=>by
  rcases pW (l:=l) h with h | ⟨I,h1,h2⟩
  ·simp only[Nat.testBit_or,Bool.or_eq_true]at h;rcases h with h | h | h
   ·exact .inl h
   ·exact .inr ⟨k,Ag,.inl h⟩
   ·rw[Nat.one_shiftLeft,Nat.testBit_two_pow]at h;have H:k=i:=by simpa using h
    exact .inr ⟨k,Ag,.inr H.symm⟩
  ·exact .inr ⟨I,Bg _ h1,h2⟩
theorem pX(h:ops[j]? =some o):cg .any ops j=lz o:=by unfold cg lz;rw[h]
theorem pY(hC:∀i∈C,i.Ok0 p ρ w0)(hO:∀i∈L,i.OkE w0 p ρ){nb:Nat}:∀ {l:List Oper} {j:Nat} {H:List Nat} {K J:List (TypeId×Nat)} {I G:dY},oF p C L nt ops b l j H K I=some (G,J)->
  l=ops.toList.drop j->j<=ops.size->I.length=j->H.length=j->(∀k,k<j->aaz .any ops (H.getD k 0) k)->(∀k,k<j->∀i∈cg .any ops k,i<k)->nb<=K.length->(∀q∈I,∀v,q.2.al=some v->v<K.length)->
  pM p ρ J w0 nt .any ops Q b nb I->pM p ρ J w0 nt .any ops Q b nb G/\G.length=ops.size/\(∀k,k<ops.size->∀i∈cg .any ops k,i<k)/\(∀q∈G,∀v,q.2.al=some v->v<J.length)
 | [],j,H,K,J,I,G,h,hl,hj,he,_,_,hd,_,hal,hg=>by
  simp[oF]at h;obtain⟨rfl,rfl⟩:=h;have:ops.size<=j:=by
   have:=congrArg Ef hl;simp at this;omega
  have ab:j=ops.size:=Aa
  exact⟨hg,by rw[he,ab],by rw[<-ab];exact hd,hal⟩
 | o::r,j,H,K,J,I,G,h,hl,hj,he,hna,ha,hd,hnb,hal,hg=>by
  have ao:j<ops.size:=by
   have:=congrArg Ef hl;simp at this;omega
  have P:ops[j]? =some o:=by
   have:=congrArg (λx=>x[0]?) hl;simp only[List.getElem?_cons_zero,List.getElem?_drop,Nat.add_zero,BU]at this;exact this.symm
  have hr:r=ops.toList.drop (j+1):=by
   have:=congrArg List.tail hl;simpa using this
  simp only[oF]at h;split at h
  ·rename_i am;have Z:∀k∈lz o,k<j:=λk hk=>by simpa using Cd.1 am k hk
   split at h
   ·rename_i e new Y;split at h
    ·rename_i ak;obtain⟨rest,aa⟩:=nK h;have U:=aaH Y;have V:aaz .any ops ((lz o).foldl (λm k=>m ||| (H.getD k 0 ||| 1 <<< k)) 0) j:=by
      intro i hi T hT hp;rcases pW (f:=λk=>H.getD k 0) hi with h | ⟨k,h1,h2 | h2⟩
      ·simp at h
      ·have ad:=hp k (by rw[pX P];exact h1);exact ha k (Z k h1) i h2 T hT (λi' ac=>hT k ad i' ac)
      ·rw[h2];exact hp k (by rw[pX P];exact h1)
     refine pY hC hO h hr Aa (by simp[he]) (by simp[hna]) (λk hk=> ?_) (λk hk i hi=> ?_) (by simp;omega) (λq hq v hv=> ?_) ⟨he.symm,?_,⟨_,V,ak⟩,Eff.note_wf,λv hv=> ?_,hg⟩
     ·by_cases hkj:k<j
      ·have:=ha k hkj;rwa [Fu,Bw Aa,<-Fu]
      ·obtain rfl:k=j:=Aa
       rw[Fu,Bq Aa];simpa [hna]using V
     ·by_cases hkj:k<j
      ·exact hd k hkj i hi
      ·obtain rfl:k=j:=Aa
       rw[pX P]at hi;exact Z i hi
     ·rcases A3.1 hq with rfl | hq
      ·have:=U v hv;simp;omega
      ·have:=hal q hq v hv;simp;omega
     ·exact(aaE hC hO P Y (by rw[aa,DG])).note
     ·have:=U v hv;exact⟨⟨Aa,Aa⟩,λq hq an=>by have:=hal q hq v an;omega⟩
    ·cases h
   ·cases h
  ·cases h
def MSt(ρ:Rho)(w0:Ent)(nt:Nat)(s:MS)(a:Act)(w:World):Prop:=
 ∃B,Inv (dg s) w0 nt B a w/\(∀x c,bA s x=some c->bK ρ B a w x c)/\∀v,B.v v≠none->v<s.vars.length
theorem wn:∀ {vs:List (TypeId×List (Option Leaf))} {i k:Nat} {l:Option Leaf} {G:Nat},(pU vs i k l)[G]? =if G=i then(vs[i]?).map (λv=>(v.1,v.2.set k l))else vs[G]?
 | [],i,k,l,G=>by simp[pU]
 | v::r,0,k,l,0=>by simp[pU]
 | v::r,0,k,l,G+1=>by simp[pU]
 | v::r,i+1,k,l,0=>by simp[pU]
 | v::r,i+1,k,l,G+1=>by
  simp only[pU,List.getElem?_cons_succ,wn (vs:=r),Nat.add_right_cancel_iff]
theorem ws:∀ {vs:List (TypeId×List (Option Leaf))} {i k:Nat} {l:Option Leaf},(pU vs i k l).map (λx=>(x.1,x.2.length))=vs.map (λx=>(x.1,x.2.length))
 | [],_,_,_=>rfl
 | v::r,0,k,l=>by simp[pU]
 | v::r,i+1,k,l=>by simp[pU,ws (vs:=r)]
variable{s:MS}{x:Nat}{c:AV}
theorem msSet_get{q:Nat×AV}(h:bA (sw s q) x=some c):(x=q.1/\c=q.2)\/(x≠q.1/\bA s x=some c):=by
 unfold sw at h;split at h
 ·rename_i H;unfold bA at h⊢;simp only at h⊢;split at h
  ·rename_i G;rw[if_pos G];by_cases e:x=q.1
   ·subst e;rw[List.getElem?_set_self']at h
    cases hs:s.slots[q.1]? with
    | none=>rw[hs]at h;simp at h
    | some y=>rw[hs]at h;simp at h;exact .inl ⟨rfl,h.symm⟩
   ·rw[List.getElem?_set_ne (λh=>e h.symm)]at h;exact .inr ⟨e,h⟩
  ·rename_i G;rw[if_neg G];exact .inr ⟨λe=>G (by rw[e];exact H),h⟩
 ·rename_i H;unfold bA at h⊢;simp only at h⊢;split at h
  ·rename_i G;rw[if_pos G];exact .inr ⟨λe=>H (by rw[<-e];exact G),h⟩
  ·rename_i G;rw[if_neg G];rw[wn]at h;by_cases e:x / 100000 - 1=q.1 / 100000 - 1
   ·rw[if_pos e]at h
    cases hv:s.vars[q.1 / 100000 - 1]? with
    | none=>rw[hv]at h;simp at h
    | some v=>
     rw[hv]at h;simp only[BF]at h;by_cases e2:x % 100000=q.1 % 100000
     ·have J:x=q.1:=by
       have h1:=Ce x 100000;have h2:=Ce q.1 100000;omega
      rw[e2]at h
      cases hs:v.2[q.1 % 100000]? with
      | none=>rw[List.getElem?_set_self',hs]at h;simp at h
      | some y=>
       rw[List.getElem?_set_self (A5.1 hs).1]at h
       cases hl:leafA q.2 with
       | none=>rw[hl]at h;simp at h
       | some l=>
        rw[hl]at h;simp at h;refine .inl ⟨J,?_⟩;unfold leafA at hl;split at hl
        ·rename_i K I;injection hl with hl;subst hl;rw[I];exact h.symm
        ·cases hl
     ·rw[List.getElem?_set_ne (λh=>e2 h.symm)]at h;refine .inr ⟨λe'=>e2 (by rw[e']),?_⟩;rw[e,hv];exact h
   ·rw[if_neg e]at h;exact .inr ⟨λe'=>e (by rw[e']),h⟩
theorem wt:∀ {l:List (Nat×AV)},bA (yI s l) x=some c->(match l.find? (λq=>q.1==x)with | some q=>some q.2 | none=>bA s x)=some c
 | [],h=>h
 | q::l,h=>by
  rcases msSet_get (s:=yI s l) h with⟨G,H⟩ | ⟨h1,h2⟩
  ·rw[List.find?_cons_of_pos (by simpa using G.symm),H]
  ·rw[List.find?_cons_of_neg (by simpa using λe=>h1 e.symm)];exact wt h2
variable{ks:List Nat}
theorem sx(h:bA (pV ks s) x=some c):fil ks (bA s x)=some c:=by
 unfold bA pV at h;unfold bA;simp only at h;split at h
 ·rename_i G;rw[if_pos G];rw[BB]at h
  cases e:s.slots[x]? with
  | none=>rw[e]at h;simp at h
  | some d=>rw[e]at h;simpa using h
 ·rename_i G;rw[if_neg G];rw[BB]at h
  cases e:s.vars[x / 100000 - 1]? with
  | none=>rw[e]at h;simp at h
  | some d=>
   rw[e]at h;simp only[BF,BB]at h
   cases e2:d.2[x % 100000]? with
   | none=>rw[e2]at h;simp at h
   | some l=>
    rw[e2]at h;simp only[BF]at h
    cases l with
    | none=>simp[aaF]at h
    | some l=>
     simp only[aaF]at h;split at h
     ·rename_i H hl;split at hl
      ·cases hl
      ·rename_i hn;injection hl with hl;injection hl with hl;subst hl;injection h with h;subst h;simp only[e2];exact jc rfl (by simpa [AV.hit,AV.objs,SV.objs]using hn)
     ·cases h
theorem kill0_get(h:bA (wm ks s) x=some c):fil ks (bA s x)=some c:=by
 cases ks with
 | nil=>exact jc h (by simp[AV.hit])
 | cons k ks=>exact sx h
theorem killS_vt:dg (pV ks s)=dg s:=by
 unfold dg pV;simp[CG,E9]
theorem kill0_vt:dg (wm ks s)=dg s:=by
 cases ks with
 | nil=>rfl
 | cons k ks=>exact killS_vt
theorem lA:∀ {r:dY},bA (gF s r) x=some c->lkE (bA s) r x=some c
 | [],h=>h
 | (_,e)::r,h=>by
  have h1:=wt (s:=wm e.ks (gF s r)) h;simp only[lkE];split at h1
  ·rename_i q G;rw[G];exact h1
  ·rename_i G;rw[G];obtain⟨h2,h3⟩:=eR (kill0_get h1);exact jc (lA h2) h3
theorem pZ{b G:Nat->Option AV}(h:∀x c,b x=some c->G x=some c):∀ {r:dY} {x:Nat} {c:AV},lkE b r x=some c->lkE G r x=some c
 | [],x,c,e=>h x c e
 | (_,e)::r,x,c,he=>by
  simp only[lkE]at he⊢;split at he
  ·exact he
  ·obtain⟨h1,h2⟩:=eR he;exact jc (pZ h h1) h2
theorem sy(h:bA (mC s new) x=some c):bA s x=some c:=by
 unfold bA mC at *;simp only at *;split at h
 ·rename_i H;rw[if_pos H];exact h
 ·rename_i H;rw[if_neg H];by_cases hv:x / 100000 - 1<s.vars.length
  ·rw[Bw hv]at h;exact h
  ·rw[Bq Aa]at h;exfalso;split at h
   ·rename_i v G;rw[BB]at G
    cases hn:new[x / 100000 - 1 - s.vars.length]? with
    | none=>rw[hn]at G;cases G
    | some y=>
     rw[hn]at G;simp at G;subst G;split at h
     ·rename_i l hl;simp only[List.getElem?_replicate]at hl;split at hl<;>cases hl
     ·cases h
   ·cases h
theorem msSet_vt{q:Nat×AV}:dg (sw s q)=dg s:=by
 unfold sw;split
 ·rfl
 ·exact ws
theorem aaI:∀ {l:List (Nat×AV)},dg (yI s l)=dg s
 | []=>rfl
 | q::l=>by show dg (sw (yI s l) q)=_;rw[msSet_vt,aaI]
theorem gO:∀ {r:dY},dg (gF s r)=dg s
 | []=>rfl
 | (_,e)::r=>by show dg (yI (wm e.ks (gF s r)) e.wr)=_;rw[aaI,kill0_vt,gO]
theorem eU:(dg s).length=s.vars.length:=by simp[dg]
theorem mD:dg (mC s new)=dg s++new:=by
 have:∀l:List (TypeId×Nat),(l.map λx=>(x.1,EF x.2 (none:Option Leaf))).map (λx=>(x.1,x.2.length))=l:=λl=>by
  induction l with
  | nil=>rfl
  | cons x l ih=>simp only[Bu,ih,List.length_replicate]
 simp only[dg,mC,List.map_append,this]
theorem Inv.ext(h:Inv vt w0 nt B a w)(new:List (TypeId×Nat)):Inv (vt++new) w0 nt B a w:=
 ⟨λv g hv=>by
  obtain⟨h1,cs,ty,h2,h3⟩:=h.blk v g hv;exact⟨h1,cs,ty,by rw[Bw (A5.1 h2).1];exact h2,h3⟩,h.own,h.inj,h.below,h.size,h.dfr,h.pin⟩
theorem yJ(hC:∀i∈C,i.Ok0 p ρ w0)(hO:∀i∈L,i.OkE w0 p ρ)(hm:p.follows .mixedOrders=true){s':MS}{id:Nat}{K:Bool}(h:regX p C L nt ops s=some s')(hs:MSt ρ w0 nt s a w)
  (hQ:∀a' w',MSt ρ w0 nt s' a' w'->Q .normal a' w'):(Dc id ops K).wp p Q a w:=by
 unfold regX at h;split at h
 ·rename_i H I he;simp at h;subst h;obtain⟨rest,G⟩:=nK he;obtain⟨hg,P,J,V⟩:=pY (ρ:=ρ) (w0:=w0) (Q:=Q) (nb:=s.vars.length) hC hO he Ag Aa rfl rfl (λk hk=>Aa) (λk hk=>Aa) (by rw[eU];omega) (λq Y=>by cases Y) trivial;obtain⟨B,hi,hv,hB⟩:=hs;have U:I.drop s.vars.length=rest:=by rw[G,<-eU,List.drop_left]
  have start:∀w1,AG w.heap.size w w1->StT ρ I w0 nt (bA s) s.vars.length H [] a w1:=λw1 hb=>by
   refine StT.start (B:=B) ?_ (λx c hx=>(hv x c hx).below BLe.refl .refl hb (λ_=>rfl)) hB;rw[G];exact(hi.below' hb rfl rfl).ext rest
  have fin:∀a' w',StF ρ I w0 nt (lkE (bA s) H) s.vars.length H a' w'->Q .normal a' w':=λa' w' ⟨B',h1,h2,h3⟩=>by
   refine hQ a' w' ⟨B',?_,λx c hx=>h2 x c (pZ (λx c h=>sy h) (lA hx)),λv hv=> ?_⟩
   ·rw[gO,U,mD,<-G];exact h1
   ·have hl:(gF (mC s (I.drop s.vars.length)) H).vars.length=I.length:=by rw[<-eU,gO,U,mD,<-G]
    rw[hl];rcases h3 v hv with h | ⟨q,Y,Z⟩
    ·have:s.vars.length<=I.length:=by rw[G,By,eU];omega
     omega
    ·exact V q Y v Z
  cases K with
  | true=>exact wp_region_any hm (any_sound hg P J (start _ (aF (AL _ _) 1)) fin)
  | false=>exact wp_region (yz hg P J (start _ (AL _ _)) fin)
 ·cases h
end
def stepS(p:A0)(C:List Inst)(L:List OIns)(nt:Nat)(ops:Array Oper)(s:MS)(j:Nat):Option MS:=
 match ops[j]? with
 | none=>none
 | some o=>match yG p C L nt ops (bA s) (dg s) o with
  | some (e,new)=>some (gF (mC s new) [(j,e)])
  | none=>none
def seqX(p:A0)(C:List Inst)(L:List OIns)(nt:Nat)(ops:Array Oper):List Nat->MS->Option MS
 | [],s=>some s
 | j::js,s=>match stepS p C L nt ops s j with
  | some s1=>seqX p C L nt ops js s1
  | none=>none
section
variable {p:A0} {ρ:Rho} {B B':Blk} {a a':Act} {w w':World} {w0:Ent} {C:List Inst} {L:List OIns} {nt i:Nat} {Q:Bf->Act->World->Prop} {o:Oper} {ops:Array Oper} {v:Value} {vt:List (TypeId×Nat)} {ks:List Nat} {X:Nat->Prop}
variable{K:Act->World->Prop}
theorem yL(U:∀i∈C,i.Ok0 p ρ w0)(Y:∀i∈L,i.OkE w0 p ρ){s:MS}{new:List (TypeId×Nat)}(Z:ops[j]? =some o)(P:yG p C L nt ops (bA s) (dg s) o=some (e,new))(hs:MSt ρ w0 nt s a w)(V:∀a' w',MSt ρ w0 nt (gF (mC s new) [(j,e)]) a' w'->K a' w'):wpOp p ops Q j K a w:=by
 obtain⟨B,hi,hv,hB⟩:=hs;have J:=aaE (ρ:=ρ) (w0:=w0) (Q:=Q) U Y Z P (vt:=dg s++(new++ [])) rfl;have H:=aaH P;refine J B a w (by rw[Ds];exact hi.ext new) (λx _ c hc=>hv x c hc) (λv G=> ?_) K (λB' a' w' hp=>V a' w' ⟨B',?_,λx c hx=> ?_,λv G=> ?_⟩)
 ·cases hb:B.v v with
  | none=>rfl
  | some g=>
   have h1:=H v G;have h2:=hB v (by rw[hb];simp);rw[h1.1,eU]at h2;omega
 ·rw[gO,mD];have:=hp.inv;rwa [Ds]at this
 ·have h1:=pZ (λx c h=>sy h) (lA hx);simp only[lkE]at h1
  cases hf:e.wr.find? (λq=>q.1==x)with
  | some q=>
   rw[hf]at h1;have h2:=DU hf;have h3:=Dq hf;simp only[beq_iff_eq]at h2;have h4:=hp.wr q h3;simp only[A9.injEq]at h1;rw[h2,h1]at h4;exact h4
  | none=>
   rw[hf]at h1;obtain⟨h1,h2⟩:=eR h1;exact hp.keep x c (hv x c h1) (λq hq e=>by have:=List.find?_eq_none.1 hf q hq;simp[e]at this) h2
 ·have I:(gF (mC s new) [(j,e)]).vars.length=s.vars.length+new.length:=by
   rw[<-eU,gO,mD,By,eU]
  rw[I]
  cases hb:B.v v with
  | some g=>have:=hB v (by rw[hb];simp);omega
  | none=>
   have h1:=H v (hp.new v hb G);rw[h1.1,eU];omega
theorem wu(G:∀i∈C,i.Ok0 p ρ w0)(I:∀i∈L,i.OkE w0 p ρ){s s':MS}(h:stepS p C L nt ops s j=some s')(hs:MSt ρ w0 nt s a w)(H:∀a' w',MSt ρ w0 nt s' a' w'->K a' w'):wpOp p ops Q j K a w:=by
 unfold stepS at h;split at h
 ·cases h
 ·rename_i o P;split at h
  ·rename_i e new J;injection h with h;subst h;exact yL G I P J hs H
  ·cases h
theorem p6(I:∀i∈C,i.Ok0 p ρ w0)(J:∀i∈L,i.OkE w0 p ρ):∀ {H:List Nat} {s s':MS} {a:Act} {w:World},seqX p C L nt ops H s=some s'->MSt ρ w0 nt s a w->(∀a' w',MSt ρ w0 nt s' a' w'->Q .normal a' w')->wpOps p ops Q H a w
 | [],s,s',a,w,h,hs,hQ=>by
  simp only[seqX,A9.injEq]at h;subst h;simp only[wpOps];exact hQ a w hs
 | j::H,s,s',a,w,h,hs,hQ=>by
  simp only[seqX]at h;split at h
  ·rename_i K h1;rw[wpOps_cons];exact wu I J h1 hs (λa' w' G=>p6 I J h G hQ)
  ·cases h
theorem Leaf.holds.less{l:Leaf}(h:l.holds ρ B w v)(hv:∀x g,B'.v x=some g↔B.v x=some g)(J:∀k g,B'.o k g->B.o k g)(I:∀k∈l.objs,∀g,B.o k g->B'.o k g):l.holds ρ B' w v:=by
 cases l<;>simp only[Leaf.holds]at h⊢ <;>try exact h
 ·obtain⟨g,h1,h2⟩:=h;exact⟨g,(hv _ _).2 h1,h2⟩
 ·obtain⟨s,h1,h2,h3⟩:=h;refine⟨s,h1,h2,λg G H=>h3 g G ?_⟩;rcases H with⟨x,H⟩ | ⟨k,H⟩
  ·exact .inl ⟨x,(hv _ _).1 H⟩
  ·exact .inr ⟨k,J _ _ H⟩
 ·rename_i k m;obtain⟨s,h1,h2,h3,h4⟩:=h;exact⟨s,h1,h2,λg G=>I k (by simp[Leaf.objs]) g (h3 g G),λg G=>I k (by simp[Leaf.objs]) g (h4 g G)⟩
theorem az.less(hv:∀x g,B'.v x=some g↔B.v x=some g)(H:∀k g,B'.o k g->B.o k g):∀ {ls:List Leaf} {vs:List Value},az ρ B w ls vs->(∀k∈ls.flatMap Leaf.objs,∀g,B.o k g->B'.o k g)->az ρ B' w ls vs
 | [],[],_,_=>trivial
 | _::_,_::_,h,hn=>⟨h.1.less hv H (λk G=>hn k (by simp[G])),az.less hv H h.2 (λk G=>hn k (by rw[Cq];exact AJ.2 (.inr G)))⟩
 | [],_::_,h,_=>h.elim
 | _::_,[],h,_=>h.elim
theorem SV.holds.less{s:SV}(h:s.holds ρ B w v)(hv:∀x g,B'.v x=some g↔B.v x=some g)(H:∀k g,B'.o k g->B.o k g)(G:∀k∈s.objs,∀g,B.o k g->B'.o k g):s.holds ρ B' w v:=by
 cases s with
 | one l=>exact Leaf.holds.less h hv H G
 | agg ls=>obtain⟨vs,e,h⟩:=h;exact⟨vs,e,h.less hv H G⟩
theorem cO.less(hv:∀x g,B'.v x=some g↔B.v x=some g)(H:∀k g,B'.o k g->B.o k g):∀ {ls:List SV} {vs:List Value},cO ρ B w ls vs->(∀k∈ls.flatMap SV.objs,∀g,B.o k g->B'.o k g)->cO ρ B' w ls vs
 | [],[],_,_=>trivial
 | _::_,_::_,h,hn=>⟨h.1.less hv H (λk G=>hn k (by simp[G])),cO.less hv H h.2 (λk G=>hn k (by rw[Cq];exact AJ.2 (.inr G)))⟩
 | [],_::_,h,_=>h.elim
 | _::_,[],h,_=>h.elim
theorem AV.holds.less{c:AV}(h:c.holds ρ B w v)(hv:∀x g,B'.v x=some g↔B.v x=some g)(H:∀k g,B'.o k g->B.o k g)(G:∀k∈c.objs,∀g,B.o k g->B'.o k g):c.holds ρ B' w v:=by
 cases c with
 | v s=>exact SV.holds.less h hv H G
 | tup xs=>obtain⟨vs,e,h⟩:=h;exact⟨vs,e,h.less hv H G⟩
 | any=>exact h
def frzL(i n n':Nat)(l:Leaf):Option Leaf:=match l with
 | .own k m=>if k=i then(if m=n then some (.ref n')else none)else some l
 | _=>some l
def frzA(i n n':Nat):Option AV->Option AV
 | some (.v (.one l))=>(frzL i n n' l).map λl=>.v (.one l)
 | some c=>if c.hit [i]then none else some c
 | none=>none
def frz1(i n n':Nat)(s:MS):MS:=⟨s.slots.map (frzA i n n'),s.vars.map λv=>(v.1,v.2.map (aaF [i]))⟩
def frzS(L:List OIns)(id:Nat)(s:MS):MS:=L.foldl (λs o=>match o.key,o.xs,o.r with
 | .frz r i,[.one (.ref n)],.one (.ref n')=>if r=id then frz1 i n n' s else s
 | _,_,_=>s) s
theorem yM{n K rid:Nat}{s:MS}(hr:(OIns.mk (.frz rid i) [.one (.ref n)] (.one (.ref K))).Ok p ρ)(hs:MSt ρ w0 nt s a w):MSt ρ w0 nt (frz1 i n K s) a w:=by
 obtain⟨B,hi,hv,hB⟩:=hs;have less:∀ {c:AV} {u:Value},c.holds ρ B w u->c.hit [i]=false->c.holds ρ ⟨B.v,λk g=>k≠i/\B.o k g⟩ w u:=λ{c u} h hn=>h.less (λ_ _=>Iff.rfl) (λ_ _ h=>h.2) (λk J g I=>⟨λe=>by
  subst e;have:=List.any_eq_false.1 hn k J;simp at this,I⟩)
 have U:dg (frz1 i n K s)=dg s:=by unfold dg frz1;simp[CG,E9]
 refine⟨⟨B.v,λk g=>k≠i/\B.o k g⟩,⟨λx g I=>by rw[U];exact hi.blk x g I,λk g I=>hi.own k g I.2,⟨hi.inj.v,λk l g h1 h2=>hi.inj.o k l g h1.2 h2.2,λx k g h1 h2=>hi.inj.vo x k g h1 h2.2⟩,hi.below,hi.size,hi.dfr,hi.pin⟩,λx c G=> ?_,λx G=>by simpa [frz1]using hB x G⟩;unfold bA frz1 at G;simp only at G;split at G
 ·rename_i H;rw[BB]at G
  cases e:s.slots[x]? with
  | none=>rw[e]at G;simp at G
  | some d=>
   rw[e]at G;have h1:frzA i n K d=some c:=by simpa using G
   cases d with
   | none=>cases h1
   | some d=>
    have h2:=hv x d (by unfold bA;rw[if_pos H,e]);unfold bK at h2⊢;rw[if_pos H]at h2⊢;obtain⟨u,P,k2⟩:=h2;refine⟨u,P,?_⟩;have other:(if d.hit [i]then none else some d)=some c->c.holds ρ ⟨B.v,λk g=>k≠i/\B.o k g⟩ w u:=λh=>by
     split at h
     ·cases h
     ·rename_i hn;injection h with h;subst h;exact less k2 (by simpa using hn)
    cases d with
    | v sv=>
     cases sv with
     | one l=>
      simp only[frzA]at h1
      cases hf:frzL i n K l with
      | none=>rw[hf]at h1;cases h1
      | some l'=>
       rw[hf]at h1;simp only[BF,A9.injEq]at h1;subst h1
       cases l with
       | own k m=>
        simp only[frzL]at hf;split at hf
        ·rename_i J;subst J;split at hf
         ·rename_i V;subst V;injection hf with hf;subst hf;obtain⟨q,Z,q2,q3,q4⟩:=k2;have h5:(Leaf.ref m).holds ρ ⟨B.v,λl g=>l≠k/\B.o l g⟩ w u:=⟨q,Z,q2,λg I G=>by
           rcases G with⟨x,G⟩ | ⟨l,hl,G⟩
           ·exact hi.inj.vo _ _ _ G (q3 g I)
           ·exact hl (hi.inj.o _ _ _ G (q3 g I))⟩
          exact hr _ w [u] ⟨h5,trivial⟩
         ·cases hf
        ·rename_i J;injection hf with hf;subst hf;exact less (c:=.v (.one (.own k m))) k2 (by simpa [AV.hit,AV.objs,SV.objs,Leaf.objs]using J)
       | _=>
        simp only[frzL,A9.injEq]at hf;subst hf;exact less k2 Ai
     | agg ls=>exact other h1
    | tup xs=>exact other h1
    | any=>exact other h1
 ·rename_i H;have J:bA (pV [i] s) x=some c:=by
   unfold bA pV;rw[if_neg H];exact G
  obtain⟨h1,h2⟩:=eR (sx J);have h3:=hv x c h1;unfold bK at h3⊢;rw[if_neg H]at h3⊢;obtain⟨g,cs,ty,u,P,k2,k3,Y⟩:=h3;exact⟨g,cs,ty,u,P,k2,k3,less Y h2⟩
theorem p7{id:Nat}:∀ {L:List OIns} {s:MS},(∀i∈L,i.OkE w0 p ρ)->MSt ρ w0 nt s a w->MSt ρ w0 nt (frzS L id s) a w
 | [],s,_,hs=>hs
 | q::L,s,hO,hs=>by
  unfold frzS;rw[List.foldl_cons];refine p7 (λi hi=>hO i (Bg _ hi)) ?_;split
  ·rename_i r i n G h1 h2 h3;split
   ·refine yM (p:=p) (rid:=r) ?_ hs;have:=hO q Ag;obtain⟨k,xs,H⟩:=q;simp only at h1 h2 h3;subst h1;subst h2;subst h3;exact this
   ·exact hs
  ·exact hs
end
def regZ(p:A0)(C:List Inst)(L:List OIns)(nt id:Nat)(ops:Array Oper)(draw:Bool)(s:MS):Option MS:=
 match regX p C L nt ops (frzS L id s)with
 | some s1=>some s1
 | none=>if draw then none else seqX p C L nt ops (List.range ops.size) (frzS L id s)
section
variable {p:A0} {ρ:Rho} {a:Act} {w:World} {w0:Ent} {C:List Inst} {L:List OIns} {nt:Nat} {Q:Bf->Act->World->Prop} {ops:Array Oper}
theorem p8(J:∀i∈C,i.Ok0 p ρ w0)(I:∀i∈L,i.OkE w0 p ρ)(P:p.follows .mixedOrders=true){s s':MS}{id:Nat}{G:Bool}(h:regZ p C L nt id ops G s=some s')(hs:MSt ρ w0 nt s a w)
  (K:∀a' w',MSt ρ w0 nt s' a' w'->Q .normal a' w'):(Dc id ops G).wp p Q a w:=by
 have H:=p7 (p:=p) (id:=id) I hs;unfold regZ at h;split at h
 ·rename_i V U;injection h with h;subst h;exact yJ J I P U H K
 ·cases G with
  | true=>simp at h
  | false=>
   simp only[Bool.false_eq_true,if_false]at h;exact wp_region (p6 J I h H K)
end
inductive Ex where
 | nrm
 | ext (id:Nat)
 | ret
 deriving DecidableEq
def Ex.exit:Ex->Bf
 | .nrm=>.normal
 | .ext id=>.exit id
 | .ret=>.ret
def dF(p:A0)(C:List Inst)(L:List OIns)(nt:Nat):Nat->Code->MS->Option (Ex×MS)
 | 0,_,_=>none
 | n+1,c,s=>match c with
  | .skip=>some (.nrm,s)
  | .region id ops draw=>(regZ p C L nt id ops draw s).map λs=>(.nrm,s)
  | .seq a b=>match dF p C L nt n a s with
   | some (.nrm,s1)=>dF p C L nt n b s1
   | r=>r
  | .cond c x y=>match evL (bA s) c with
   | some (.b true)=>dF p C L nt n x s
   | some (.b false)=>dF p C L nt n y s
   | _=>none
  | .block id b=>match dF p C L nt n b s with
   | some (.ext i,s1)=>if i=id then some (.nrm,s1)else some (.ext i,s1)
   | r=>r
  | .loop b=>match dF p C L nt n b s with
   | some (.nrm,s1)=>dF p C L nt n (.loop b) s1
   | r=>r
  | .exit id=>some (.ext id,s)
  | .ret=>some (.ret,s)
  | .scope b=>dF p C L nt n b s
  | .label _=>some (.nrm,s)
  | _=>none
section
variable {p:A0} {ρ:Rho} {a:Act} {w:World} {w0:Ent} {C:List Inst} {L:List OIns} {nt:Nat} {Q:Bf->Act->World->Prop}
theorem wp_loop_rounds{c:Code}(I:Nat->Act->World->Prop)(N:Nat)(h0:I 0 a w)(round:∀k a w,k<=N->I k a w->c.wp p (Exit.then (λa' w'=>k<N/\I (k+1) a' w') Q) a w):(Code.loop c).wp p Q a w:=by
 intro b k cs;have key:∀n j a w,N - j=n->j<=N->I j a w->
   ∃e a' w',Q e a' w'/\Arrives p (lone (b.at a (.code c::.inLoop c::k)) cs w) b k cs e a' w':=by
  intro n
  induction n with
  | zero=>
   intro j a w hn Y U;obtain⟨e,J,K,H,G⟩:=round j a w Y U b (.inLoop c::k) cs
   cases e with
   | normal=>obtain⟨h,_⟩:=H;omega
   | exit id=>exact⟨_,J,K,H,.pass (x:=.inLoop c) rfl (λ_ _=>.inl Ag) G⟩
   | goto l=>exact⟨_,J,K,H,.pass (x:=.inLoop c) rfl (λ_ _=>.inl Ag) G⟩
   | ret=>exact⟨_,J,K,H,.pass (x:=.inLoop c) rfl (λ_ _=>.inl Ag) G⟩
   | panic ch=>exact⟨_,J,K,H,.pass (x:=.inLoop c) rfl (λ_ _=>.inl Ag) G⟩
   | outgrown=>exact⟨_,J,K,H,.pass (x:=.inLoop c) rfl (λ_ _=>.inl Ag) G⟩
  | succ n ih=>
   intro j a w hn Y U;obtain⟨e,J,K,H,G⟩:=round j a w Y U b (.inLoop c::k) cs
   cases e with
   | normal=>
    obtain⟨aa,V⟩:=H;obtain⟨e₂,a₂,w₂,Z,P⟩:=ih (j+1) J K Aa Aa V;exact⟨e₂,a₂,w₂,Z,.of_steps (Steps.trans G (.one step_inLoop)) P⟩
   | exit id=>exact⟨_,J,K,H,.pass (x:=.inLoop c) rfl (λ_ _=>.inl Ag) G⟩
   | goto l=>exact⟨_,J,K,H,.pass (x:=.inLoop c) rfl (λ_ _=>.inl Ag) G⟩
   | ret=>exact⟨_,J,K,H,.pass (x:=.inLoop c) rfl (λ_ _=>.inl Ag) G⟩
   | panic ch=>exact⟨_,J,K,H,.pass (x:=.inLoop c) rfl (λ_ _=>.inl Ag) G⟩
   | outgrown=>exact⟨_,J,K,H,.pass (x:=.inLoop c) rfl (λ_ _=>.inl Ag) G⟩
 obtain⟨e,a',w',H,G⟩:=key (N - 0) 0 a w rfl Aa h0;exact⟨e,a',w',H,.of_steps (.one step_loop) G⟩
theorem tU{s:MS}{x:AZ}{l:Leaf}(hs:MSt ρ w0 nt s a w)(h:evL (bA s) x=some l):∃B,l.holds ρ B w (a.eval x):=by
 obtain⟨B,_,hv,_⟩:=hs;exact⟨B,d6 (λy _ c hc=>hv y c hc) h⟩
theorem bS(I:∀i∈C,i.Ok0 p ρ w0)(J:∀i∈L,i.OkE w0 p ρ)(K:p.follows .mixedOrders=true):∀ {n:Nat} {c:Code} {s s':MS} {e:Ex} {a:Act} {w:World} {Q:Bf->Act->World->Prop},dF p C L nt n c s=some (e,s')->
  MSt ρ w0 nt s a w->(∀a' w',MSt ρ w0 nt s' a' w'->Q e.exit a' w')->c.wp p Q a w
 | 0,_,_,_,_,_,_,_,h,_,_=>by simp[dF]at h
 | n+1,c,s,s',e,a,w,Q,h,hs,hQ=>by
  cases c with
  | skip=>
   simp[dF]at h;obtain⟨rfl,rfl⟩:=h;exact wp_skip (hQ a w hs)
  | region id ops draw=>
   simp only[dF]at h
   cases U:regZ p C L nt id ops draw s with
   | none=>rw[U]at h;cases h
   | some V=>
    rw[U]at h;simp at h;obtain⟨rfl,rfl⟩:=h;exact p8 I J K U hs hQ
  | seq x y=>
   simp only[dF]at h;split at h
   ·rename_i V h1;refine wp_seq (bS I J K h1 hs (λa' w' G=> ?_));exact bS I J K h G hQ
   ·rename_i H;refine wp_seq (bS I J K h hs (λa' w' G=> ?_))
    cases e with
    | nrm=>exact absurd h (H s')
    | ext id=>exact hQ a' w' G
    | ret=>exact hQ a' w' G
  | cond k x y=>
   simp only[dF]at h;split at h
   ·rename_i P;obtain⟨B,hb⟩:=tU hs P;exact wp_cond_true hb (bS I J K h hs hQ)
   ·rename_i P;obtain⟨B,hb⟩:=tU hs P;exact wp_cond_false hb (bS I J K h hs hQ)
   ·cases h
  | block id b=>
   simp only[dF]at h;split at h
   ·rename_i i V h1;refine wp_block (bS I J K h1 hs (λa' w' G=> ?_));split at h
    ·rename_i hi;simp at h;obtain⟨rfl,rfl⟩:=h;show if i=id then _ else _
     rw[if_pos hi];exact hQ a' w' G
    ·rename_i hi;simp at h;obtain⟨rfl,rfl⟩:=h;show if i=id then _ else _
     rw[if_neg hi];exact hQ a' w' G
   ·rename_i H;refine wp_block (bS I J K h hs (λa' w' G=> ?_))
    cases e with
    | nrm=>exact hQ a' w' G
    | ext id=>exact absurd h (H id s')
    | ret=>exact hQ a' w' G
  | loop b=>
   have key:∀(n:Nat)(s:MS),dF p C L nt n (.loop b) s=some (e,s')->∃(N:Nat)(S:Nat->MS),S 0=s/\∀k,k<=N->∃m r,m<n/\dF p C L nt m b (S k)=some r/\((k<N/\r=(.nrm,S (k+1)))\/(k=N/\r=(e,s')/\r.1≠ .nrm)):=by
    intro n
    induction n with
    | zero=>intro s h;simp[dF]at h
    | succ n ih=>
     intro s h;simp only[dF]at h;split at h
     ·rename_i V h1;obtain⟨N,S,h2,h3⟩:=ih V h;refine⟨N+1,λk=>match k with | 0=>s | k+1=>S k,rfl,λk P=> ?_⟩
      match k with
      | 0=>exact⟨n,_,Aa,h1,.inl ⟨Aa,by rw[<-h2]⟩⟩
      | k+1=>
       obtain⟨m,r,k1,k2,k3⟩:=h3 k Aa;exact⟨m,r,Aa,k2,k3.imp (λ⟨x,y⟩=>⟨Aa,y⟩) (λ⟨x,y⟩=>⟨Aa,y⟩)⟩
     ·rename_i H;refine⟨0,λ_=>s,rfl,λk P=>⟨n,(e,s'),Aa,h,.inr ⟨Aa,rfl,λZ=>H s' ?_⟩⟩⟩;simp only at Z;rw[h,Z]
   obtain⟨N,S,h0,hS⟩:=key (n+1) s h;refine wp_loop_rounds (λk a w=>MSt ρ w0 nt (S k) a w) N (by rw[h0];exact hs) (λk a w P hI=> ?_);obtain⟨m,r,aa,U,Y⟩:=hS k P;obtain⟨e1,V⟩:=r;refine bS I J K U hI (λa' w' G=> ?_);rcases Y with⟨h1,h2⟩ | ⟨h1,h2,h3⟩
   ·simp at h2;obtain⟨rfl,rfl⟩:=h2;exact⟨h1,G⟩
   ·simp at h2;obtain⟨rfl,rfl⟩:=h2
    cases e1 with
    | nrm=>exact absurd rfl h3
    | ext id=>exact hQ a' w' G
    | ret=>exact hQ a' w' G
  | exit id=>
   simp[dF]at h;obtain⟨rfl,rfl⟩:=h;exact wp_exit (hQ a w hs)
  | ret=>
   simp[dF]at h;obtain⟨rfl,rfl⟩:=h;exact wp_ret (hQ a w hs)
  | scope b=>
   simp only[dF]at h;refine wp_scope_straight (bS I J K h hs (λa' w' G=> ?_))
   cases e<;>exact hQ a' w' G
  | label l=>
   simp[dF]at h;obtain⟨rfl,rfl⟩:=h;exact wp_label (hQ a w hs)
  | _=>simp[dF]at h
termination_by n=>n
end
def resA1(p:A0)(s:MS):ResultVar->Option SV
 | .tmp t=>evS (bA s) (.tmp t)
 | .cell t ty=>match cn p [] (bA s) (.load ty (.tmp t))with
  | some (.v x,_)=>some x
  | _=>none
def wv(p:A0)(s:MS):List ResultVar->Option (List SV)
 | []=>some []
 | r::rs=>match resA1 p s r,wv p s rs with
  | some x,some xs=>some (x::xs)
  | _,_=>none
def tV(p:A0)(s:MS)(rs:List ResultVar):Option AV:=
 match wv p s rs with
 | some [x]=>some (.v x)
 | some xs=>some (.tup xs)
 | none=>none
def Leaf.noPtr:Leaf->Bool
 | .ptr _ _=>false
 | .own _ _=>false
 | _=>true
def SV.noPtr:SV->Bool
 | .one l=>l.noPtr
 | .agg ls=>ls.all Leaf.noPtr
def AV.noPtr:AV->Bool
 | .v s=>s.noPtr
 | .tup xs=>xs.all SV.noPtr
 | .any=>true
def gG(args:List SV)(n:Nat):List (Option AV):=args.map (λs=>some (.v s))++EF (n - args.length) none
def runFn(p:A0)(C:List Inst)(L:List OIns)(fn:BW)(args:List SV)(fuel:Nat):Option AV:=
 if args.length<=fn.ntmps/\fn.ntmps<=100000 then
  match fn.body with
  | some c=>match dF p C L fn.ntmps fuel c ⟨gG args fn.ntmps,[]⟩with
   | some (.ext _,_)=>none
   | some (_,s)=>match tV p s fn.results.toList with
    | some r=>if r.noPtr then some r else none
    | none=>none
   | none=>none
  | none=>none
 else none
def resM(tmps:Array Value):ResultVar->Sem Value
 | .tmp t=>pure (tmps.getD t undef)
 | .cell t ty=>do loadVar ty (<-asAddr (tmps.getD t undef))
theorem yN(fn:BW)(tmps:Array Value):results fn tmps=(do let vs<-fn.results.mapM (resM tmps);pure (if h:vs.size=1 then vs[0]else .tuple vs)):=by
 unfold results
 congr 1
section
variable {p:A0} {ρ:Rho} {B:Blk} {a:Act} {w:World} {w0:Ent} {C:List Inst} {L:List OIns} {nt:Nat}
variable{v:Value}
theorem Leaf.holds.free{l:Leaf}(h:l.holds ρ B w v)(hn:l.noPtr=true):l.holds ρ noB w v:=by
 cases l<;>first
  | exact h
  | (simp[Leaf.noPtr]at hn;done)
  | (obtain⟨s,h1,h2,_⟩:=h;exact⟨s,h1,h2,λg H G=>tQ G⟩)
theorem az.free:∀ {ls:List Leaf} {vs:List Value},az ρ B w ls vs->ls.all Leaf.noPtr=true->az ρ noB w ls vs
 | [],[],_,_=>trivial
 | _::_,_::_,h,hn=>by
  simp only[List.all_cons,Bo]at hn;exact⟨h.1.free hn.1,az.free h.2 hn.2⟩
 | [],_::_,h,_=>h.elim
 | _::_,[],h,_=>h.elim
theorem SV.holds.free{s:SV}(h:s.holds ρ B w v)(hn:s.noPtr=true):s.holds ρ noB w v:=by
 cases s with
 | one l=>exact Leaf.holds.free h hn
 | agg ls=>obtain⟨vs,e,h⟩:=h;exact⟨vs,e,h.free hn⟩
theorem cO.free:∀ {ls:List SV} {vs:List Value},cO ρ B w ls vs->ls.all SV.noPtr=true->cO ρ noB w ls vs
 | [],[],_,_=>trivial
 | _::_,_::_,h,hn=>by
  simp only[List.all_cons,Bo]at hn;exact⟨h.1.free hn.1,cO.free h.2 hn.2⟩
 | [],_::_,h,_=>h.elim
 | _::_,[],h,_=>h.elim
theorem AV.holds.free{s:AV}(h:s.holds ρ B w v)(hn:s.noPtr=true):s.holds ρ noB w v:=by
 cases s with
 | v s=>exact SV.holds.free h hn
 | tup xs=>obtain⟨vs,e,h⟩:=h;exact⟨vs,e,h.free hn⟩
 | any=>exact h
theorem asAddr_of{ad:Addr}(h:v= .pointer (some ad)):(asAddr v).run p w= .ok ad w:=by subst h;rfl
theorem nL{s:MS}(hv:∀x c,bA s x=some c->bK ρ B a w x c):∀ {rs:List ResultVar} {xs:List SV},wv p s rs=some xs->
  ∃vs:List Value,(rs.mapM (resM a.tmps)).run p w= .ok vs w/\cO ρ B w xs vs
 | [],xs,h=>by simp[wv]at h;subst h;exact⟨[],Ag,trivial⟩
 | r::rs,xs,h=>by
  simp only[wv]at h;split at h
  ·rename_i x P h1 h2;simp at h;subst h;obtain⟨vs,h3,h4⟩:=nL hv h2;have one:∃v,(resM a.tmps r).run p w= .ok v w/\x.holds ρ B w v:=by
    cases r with
    | tmp t=>exact⟨a.tmps.getD t undef,rfl,d5 (x:=.tmp t) (λy _ c hc=>hv y c hc) h1⟩
    | cell t ty=>
     simp only[resA1]at h1;split at h1
     ·rename_i y rd hp;injection h1 with h1;subst h1;obtain⟨H,u,I,J,K⟩:=vZ (p:=p) hp (λy _ c hc=>hv y c hc) (λy _ c hc=>hv y c hc);refine⟨u,?_,K⟩;have G:a.tmps.getD t undef= .pointer (some H):=I;simp only[resM,AO,asAddr_of G,AX,J]
     ·cases h1
   obtain⟨v,h5,h6⟩:=one;refine⟨v::vs,?_,h6,h4⟩;simp only[List.mapM_cons,AO,BC];rw[h5];simp only[AX];rw[h3]
  ·cases h
theorem p9{s:MS}(hv:∀x c,bA s x=some c->bK ρ B a w x c){fn:BW}{r:AV}(h:tV p s fn.results.toList=some r):∃v,(results fn a.tmps).run p w= .ok v w/\r.holds ρ B w v:=by
 have G:∀vs:List Value,(fn.results.toList.mapM (resM a.tmps)).run p w= .ok vs w->
   (results fn a.tmps).run p w= .ok (if h:vs.toArray.size=1 then vs.toArray[0]else .tuple vs.toArray) w:=by
  intro vs J;rw[yN,AO];have:∀(f:ResultVar->Sem Value)(xs:Array ResultVar),(xs.toList.mapM f).run p w= .ok vs w->(xs.mapM f).run p w= .ok vs.toArray w:=by
   intro f xs H;obtain⟨l⟩:=xs;simp only[List.mapM_toArray,map_eq_pure_bind,AO,H,AX,BC]
  rw[this _ _ J];rfl
 unfold tV at h;split at h
 ·rename_i x H;injection h with h;subst h;obtain⟨vs,h1,h2⟩:=nL hv H
  match vs,h2 with
  | [v],h2=>exact⟨v,by rw[G _ h1];rfl,h2.1⟩
 ·rename_i xs I H;injection h with h;subst h;obtain⟨vs,h1,h2⟩:=nL hv H;refine⟨.tuple vs.toArray,?_,vs,rfl,h2⟩;rw[G _ h1,dif_neg];intro h3
  match vs,xs,h2 with
  | [],[],_=>simp at h3
  | [_],[y],_=>exact I y rfl
  | _::_::_,_,_=>simp at h3
 ·cases h
theorem cO.len:∀ {ls:List SV} {vs:List Value},cO ρ B w ls vs->vs.length=ls.length
 | [],[],_=>rfl
 | _::_,_::_,h=>by simp[h.2.len]
 | [],_::_,h=>h.elim
 | _::_,[],h=>h.elim
variable{args:List SV}{vs:List Value}
theorem start_V{E:Ent}{vars:List (TypeId×List Leaf)}(Y:BInj B)(U:∀k g,B.o k g->E.X g/\bF E.w g)(hp:∀x g,E.pin[x]? =some g↔B.v x=some g)(hl:E.pin.length=vars.length)
  (hv:∀x q,vars[x]? =some q->(∀g,B.v x=some g->E.X g)/\vW ρ B E.w (x,q))(hn:args.length<=nt)(ha:cO ρ B E.w args vs):
  MSt ρ E nt ⟨gG args nt,vars.map λq=>(q.1,q.2.map some)⟩ {tmps:=vs.toArray++Cs (nt - vs.toArray.size) undef,defers:=[]} E.w:=by
 have P:=ha.len;have K:∀x g,B.v x=some g->∃q,vars[x]? =some q:=λx g h=>by
  have:=(A5.1 ((hp x g).2 h)).1;exact⟨_,AU Aa⟩
 refine⟨B,⟨λx g J=> ?_,λk g J=>⟨.inr (U k g J).1,(U k g J).2⟩,Y,.refl,by simp;omega,rfl,λx g h=>(hp x g).1 h⟩,λx c G=> ?_,λx G=> ?_⟩
 ·obtain⟨q,H⟩:=K x g J;obtain⟨h1,Z,cs,h2,h3,h4,h5⟩:=hv x q H;rw[J]at h2;injection h2 with h2;subst h2;refine⟨.inr (h1 g J),cs,q.1,?_,h3,h5⟩;have:=h4.len;unfold dg;simp only[BB,H,BF,List.length_map,A9.injEq,B3.injEq,true_and];simpa using this.symm
 ·unfold bA at G;split at G
  ·rename_i I;unfold bK;rw[if_pos I];simp only at G;unfold gG at G;by_cases hxa:x<args.length
   ·rw[Bw (by simpa using hxa),BB,AU hxa]at G;simp at G;subst G;obtain⟨v,h1,h2⟩:=ha.get (AU hxa);refine⟨v,?_,h2⟩;simp only;rw[Array.getElem?_append_left (by simp;omega)];simpa using h1
   ·rw[Bq (by simp;omega)]at G;simp only[List.getElem?_replicate]at G;split at G
    ·rename_i H;split at H
     ·simp at H;subst H;cases G
     ·cases H
    ·cases G
  ·rename_i I;simp only[BB]at G
   cases H:vars[x / 100000 - 1]? with
   | none=>rw[H]at G;simp at G
   | some q=>
    rw[H]at G;simp only[BF,BB]at G
    cases hl':q.2[x % 100000]? with
    | none=>rw[hl']at G;simp at G
    | some l=>
     rw[hl']at G;simp only[BF,A9.injEq]at G;subst G;obtain⟨_,g,cs,h2,h3,h4,h5⟩:=hv _ q H;obtain⟨u,h6,V⟩:=h4.get hl';unfold bK;rw[if_neg I];exact⟨g,cs,_,u,h2,h3,by rw[<-BU];exact h6,V⟩
 ·cases hb:B.v x with
  | none=>exact absurd hb G
  | some g=>
   obtain⟨q,H⟩:=K x g hb;simpa using (A5.1 H).1
theorem noB_inj:BInj noB:=⟨λ_ _ _ h=>by(cases h),λ_ _ _ h=>h.elim,λ_ _ _ h=>by(cases h)⟩
theorem Aq{p:Prop}(h:p:=by simp at h):p:=h
theorem qd(hn:args.length<=nt)(ha:cO ρ noB w args vs):MSt ρ (.of w) nt ⟨gG args nt,[]⟩ {tmps:=vs.toArray++Cs (nt - vs.toArray.size) undef,defers:=[]} w:=
 start_V (E:=.of w) (vars:=[]) noB_inj (λ_ _ h=>h.elim) (λx g=>⟨λh=>Aq,λh=>by(cases h)⟩) rfl (λx q h=>Aq) hn ha
theorem ww(Y:∀i∈C,i.Ok0 p ρ (.of w))(Z:∀i∈L,i.OkE (.of w) p ρ)(hm:p.follows .mixedOrders=true){f:BA}{fn:BW}(hf:p.funcs[f]? =some fn){fuel:Nat}{r:AV}
  (h:runFn p C L fn args fuel=some r)(ha:cO ρ noB w args vs):AH p f vs.toArray w (λe w'=>∃v,e= .returned v/\r.holds ρ noB w' v/\AG w.heap.size w w'):=by
 unfold runFn at h;split at h
 ·rename_i hn;split at h
  ·rename_i c hb;have V:=qd hn.1 ha;have J:∀ {s:MS} {e:Ex},dF p C L fn.ntmps fuel c ⟨gG args fn.ntmps,[]⟩=some (e,s)->e= .nrm\/e= .ret->(match tV p s fn.results.toList with | some r=>if r.noPtr then some r else none | none=>none)=some r->
     AH p f vs.toArray w (λe w'=>∃v,e= .returned v/\r.holds ρ noB w' v/\AG w.heap.size w w'):=by
    intro s e K G H;split at H
    ·rename_i r' P;split at H
     ·rename_i I;injection H with H;subst H;refine calls_of_wp hf hb (bS Y Z hm K V (λa' w' U=> ?_));obtain⟨B,hi,hv,_⟩:=U;obtain⟨v,h1,h2⟩:=p9 (p:=p) hv P;rcases G with rfl | rfl
      ·exact⟨hi.dfr,v,h1,v,rfl,h2.free I,hi.below.to⟩
      ·exact⟨hi.dfr,v,h1,v,rfl,h2.free I,hi.below.to⟩
     ·cases H
    ·cases H
   split at h
   ·cases h
   ·rename_i e s K hx;have G:e= .nrm\/e= .ret:=by
     cases e with
     | nrm=>exact .inl rfl
     | ret=>exact .inr rfl
     | ext id=>exact(K id rfl).elim
    exact J hx G h
   ·cases h
  ·cases h
 ·cases h
end
theorem cRn{w:World}{C:List Inst}{L:List OIns}(G:∀i∈C,i.Ok0 AE ρ (.of w))(H:∀i∈L,i.OkE (.of w) AE ρ){f:BA}{fn:BW}(hf:AE.funcs[f]? =some fn){args:List SV}{vs:List Value}{r:AV}(h:runFn AE C L fn args 300=some r)(ha:cO ρ noB w args vs):AH AE f vs.toArray w (λe w'=>∃v,e= .returned v/\r.holds ρ noB w' v/\AG w.heap.size w w'):=ww G H Ab hf h ha
end Go.Proofs.YtggfmklppkioeaaGreat
