/- An executor: the operations of a region in whatever order. An executor: a region as a whole. An executor: operations that make a value and leave memory alone. An executor: operations that make a value do what is said of them. An executor: operations that make a value, one by one. An executor: wholes, operators, all operations that make a value. -/
import Derived.Test.YtfhinmdhjlmikaaDoorP06
import Derived.Laws.Sem
namespace Go.Proofs.YtfhinmdhjlmikaaDoor
set_option linter.unusedSimpArgs false
set_option linter.unusedVariables false
set_option maxRecDepth 100000
open Go.RowKit
/-- Places: slot t is number t; cell k of variable v is number (v + 1) * 100000 + k. -/
def bF (ρ:Rho) (B:Blk) (a:Act) (w:World) (x:Nat) (c:AV):Prop:=
 if x<100000 then∃u,a.tmps[x]? =some u∧c.holds ρ B w u
 else∃g cs ty u,B.v (x / 100000 - 1)=some g∧w.heap[g]? =some (.cells cs ty (0,0))∧cs[x % 100000]? =some u∧c.holds ρ B w u
/-- What an operation reads and writes, the variable that it makes, the objects that it changes (ks) and speaks of (ms). -/
structure Eff where
 rd:List Nat
 wr:List (Nat×AV)
 al:Option Nat
 ks:List Nat
 ms:List Nat
def Leaf.objs:Leaf→List Nat
 | .own k _=>[k]
 | _=>[]
def SV.objs:SV→List Nat
 | .one l=>l.objs
 | .agg ls=>ls.flatMap Leaf.objs
def AV.objs:AV→List Nat
 | .v s=>s.objs
 | .tup xs=>xs.flatMap SV.objs
 | .any=>[]
/-- Does what is known of a value fall with the objects ks? -/
def AV.hit (ks:List Nat) (c:AV):Bool:=c.objs.any ks.contains
def fil (ks:List Nat):Option AV→Option AV
 | some c=>if c.hit ks then none else some c
 | none=>none
theorem dS {ks:List Nat} {o:Option AV} {c:AV} (h:fil ks o=some c):o=some c∧c.hit ks=false:=by
 cases o with
 | none=>cases h
 | some d=>
  simp only[fil]at h
  split at h
  ·cases h
  ·rename_i hn;injection h with h;subst h;exact⟨rfl,by simpa using hn⟩
theorem gz {ks:List Nat} {o:Option AV} {c:AV} (h:o=some c) (hn:c.hit ks=false):fil ks o=some c:=by subst h;simp[fil,hn]
/-- Where a call begins: its world, the blocks of the caller's that it may change, and those that are its first variables. -/
structure Ent where
 w:World
 X:Nat→Prop
 pin:List Nat
def Ent.may (e:Ent) (g:Nat):Prop:=e.w.heap.size≤g∨e.X g
structure Ent.kept (e:Ent) (w:World):Prop where
 os:w.os=e.w.os
 tape:w.tape=e.w.tape
 output:w.output=e.w.output
 size:e.w.heap.size≤w.heap.size
 block:∀k,k<e.w.heap.size→¬e.X k→w.heap[k]? =e.w.heap[k]?
/-- A call that changes nothing of what was there. -/
abbrev Ent.of (w:World):Ent:=⟨w,fun _=>False,[]⟩
theorem Ent.kept.refl {e:Ent}:e.kept e.w:=⟨rfl,rfl,rfl,Nat.le_refl _,fun _ _ _=>rfl⟩
theorem Ent.kept.to {w0 w:World} (h:(Ent.of w0).kept w):Below w0.heap.size w0 w:=⟨h.os,h.tape,h.output,h.size,fun k hk=>h.block k hk (fun h=>h)⟩
theorem Ent.kept.below {e:Ent} {w w':World} (h:e.kept w) (hb:Below w.heap.size w w'):e.kept w':=
 ⟨hb.os.trans h.os,hb.tape.trans h.tape,hb.output.trans h.output,Nat.le_trans h.size hb.size,fun k hk hX=>(hb.block k (Nat.lt_of_lt_of_le hk h.size)).trans (h.block k hk hX)⟩
theorem Ent.kept.upd {e:Ent} {w w':World} {g:Nat} (h:e.kept w) (u:Upd w g w') (hg:e.may g):e.kept w':=
 ⟨u.os.trans h.os,u.tape.trans h.tape,u.output.trans h.output,by rw[u.size];exact h.size,fun k hk hX=>(u.block k (fun e=>by subst e;rcases hg with h | h;(omega);exact hX h)).trans (h.block k hk hX)⟩
theorem Ent.may.ge {e:Ent} {w:World} (h:e.kept w) {g:Nat} (hg:w.heap.size≤g):e.may g:=.inl (Nat.le_trans h.size hg)
structure Inv (vt:List (TypeId×Nat)) (w0:Ent) (nt:Nat) (B:Blk) (a:Act) (w:World):Prop where
 blk:∀v g,B.v v=some g→w0.may g∧∃cs ty,vt[v]? =some (ty,cs.size)∧w.heap[g]? =some (.cells cs ty (0,0))∧(∀(k:Nat) (n:Int),cs[k]? ≠some (.int .u32 n))
 own:∀k g,B.o k g→w0.may g∧fq w g
 inj:BInj B
 below:w0.kept w
 size:a.tmps.size=nt
 dfr:a.defers=[]
 pin:∀x g,w0.pin[x]? =some g→B.v x=some g
/-- What an operation leaves behind. -/
structure Post (ρ:Rho) (vt:List (TypeId×Nat)) (w0:Ent) (nt:Nat) (e:Eff) (B:Blk) (a:Act) (w:World) (B':Blk) (a':Act) (w':World):Prop where
 le:BLe B B'
 inv:Inv vt w0 nt B' a' w'
 wr:∀p∈e.wr,bF ρ B' a' w' p.1 p.2
 keep:∀x c,bF ρ B a w x c→(∀p∈e.wr,p.1≠x)→c.hit e.ks=false→bF ρ B' a' w' x c
 new:∀v,B.v v=none→B'.v v≠none→e.al=some v
/-- Operation j, from a state of which lk tells what is known, has effect e. -/
def tK (P:Program) (ρ:Rho) (vt:List (TypeId×Nat)) (w0:Ent) (nt:Nat) (ops:Array Oper) (Q:Exit→Act→World→Prop) (j:Nat) (lk:Nat→Option AV) (e:Eff):Prop:=
 ∀B a w,Inv vt w0 nt B a w→(∀x∈e.rd,∀c,lk x=some c→bF ρ B a w x c)→(∀v,e.al=some v→B.v v=none)→
  ∀K:Act→World→Prop,(∀B' a' w',Post ρ vt w0 nt e B a w B' a' w'→K a' w')→wpOp P ops Q j K a w
abbrev dE:=List (Nat×Eff)
/-- What is known of a place behind some operations (the newest first). -/
def lkE (b:Nat→Option AV):dE→Nat→Option AV
 | [],x=>b x
 | (_,e)::r,x=>match e.wr.find? (fun p=>p.1==x)with
  | some p=>some p.2
  | none=>fil e.ks (lkE b r x)
def dk (b:Nat→Option AV) (T:List Nat):dE→Nat→Option AV
 | [],x=>b x
 | (i,e)::r,x=>if T.contains i then(match e.wr.find? (fun p=>p.1==x)with
  | some p=>some p.2
  | none=>fil e.ks (dk b T r x))else dk b T r x
def jF (e e':Eff):Bool:=
 e'.wr.all (fun p=> !e.rd.contains p.1 && !e.wr.any (fun q=>q.1==p.1)) && (e'.rd.all (fun x=> !e.wr.any (fun q=>q.1==x)) && (e'.ks.all (fun k=> !e.ks.contains k && !e.ms.contains k) && e.ks.all (fun k=> !e'.ms.contains k)))
/-- An effect names the objects of which its values speak. -/
structure Eff.Wf (e:Eff) (lk:Nat→Option AV):Prop where
 rd:∀x∈e.rd,∀c,lk x=some c→∀k∈c.objs,k∈e.ms
 wr:∀p∈e.wr,∀k∈p.2.objs,k∈e.ms
def qZ (m:Nat) (r:dE) (e:Eff):Bool:=r.all fun p=>m.testBit p.1 || jF e p.2
section
variable {P:Program} {ρ:Rho} {vt:List (TypeId×Nat)} {w0:Ent} {nt:Nat} {ops:Array Oper} {Q:Exit→Act→World→Prop} {b:Nat→Option AV} {md:Region.Mode}
def p8 (md:Region.Mode) (ops:Array Oper) (T:List Nat):Prop:=∀j∈T,∀k∈bR md ops j,k∈T
def q6 (md:Region.Mode) (ops:Array Oper) (m j:Nat):Prop:=∀i,m.testBit i=true→∀T,p8 md ops T→(∀k∈bR md ops j,k∈T)→i∈T
/-- A run through the operations in the order of the text. -/
def lw (P:Program) (ρ:Rho) (vt:List (TypeId×Nat)) (w0:Ent) (nt:Nat) (md:Region.Mode) (ops:Array Oper) (Q:Exit→Act→World→Prop) (b:Nat→Option AV) (nb:Nat):dE→Prop
 | []=>True
 | (j,e)::r=>j=r.length∧tK P ρ vt w0 nt ops Q j (lkE b r) e∧(∃m,q6 md ops m j∧qZ m r e=true)∧e.Wf (lkE b r)∧(∀v,e.al=some v→(nb≤v∧v<OW)∧∀p∈r,p.2.al≠some v)∧lw P ρ vt w0 nt md ops Q b nb r
theorem lz (T:List Nat) (x y:dE):dk b T (x++y)=dk (dk b T y) T x:=by
 induction x with
 | nil=>rfl
 | cons p x ih=>
  funext z
  obtain⟨i,e⟩:=p
  simp only[List.cons_append,dk,ih]
theorem tL (T:List Nat) (r:dE) (h:∀p∈r,p.1∈T):dk b T r=lkE b r:=by
 induction r with
 | nil=>rfl
 | cons p x ih=>
  funext z
  obtain⟨i,e⟩:=p
  have h1:T.contains i=true:=List.contains_iff_mem.2 (h (i,e) (by simp))
  simp only[dk,lkE,h1,if_true,ih (fun p hp=>h p (List.mem_cons_of_mem _ hp))]
theorem mL {l:List (Nat×AV)} {x:Nat} (h:∀p∈l,p.1≠x):l.find? (fun p=>p.1==x)=none:=by
 rw[List.find?_eq_none]
 intro p hp
 simpa using h p hp
theorem mM {l:List (Nat×AV)} {x:Nat} {p:Nat×AV} (h:l.find? (fun p=>p.1==x)=some p):p∈l∧p.1=x:=
 ⟨List.mem_of_find?_eq_some h,by simpa using List.find?_some h⟩
theorem q7 {l:List (Nat×AV)} {x:Nat} (h:l.find? (fun p=>p.1==x)=none):∀p∈l,p.1≠x:=fun p hp e=>by
 have:=List.find?_eq_none.1 h p hp;simp[e]at this
/-- Where what is known of a place comes from. -/
theorem nO {T:List Nat} {x:Nat} {c:AV}:∀ {hi:dE} {f:Nat→Option AV},dk f T hi x=some c→
  (∃p∈hi,p.1∈T∧(∃q∈p.2.wr,q.1=x∧q.2=c)∧∀f':Nat→Option AV,dk f' T hi x=some c)∨
  (f x=some c∧(∀p∈hi,p.1∈T→∀q∈p.2.wr,q.1≠x)∧∀f':Nat→Option AV,f' x=some c→dk f' T hi x=some c)
 | [],f,h=>.inr ⟨h,fun p hp=>by(cases hp),fun f' h=>h⟩
 | (i,e)::hi,f,h=>by
  simp only[dk]at h
  by_cases hT:T.contains i=true
  ·rw[if_pos hT]at h
   split at h
   ·rename_i p hp
    injection h with h
    obtain⟨h1,h2⟩:=mM hp
    refine .inl ⟨(i,e),by simp,List.contains_iff_mem.1 hT,⟨p,h1,h2,h⟩,fun f'=> ?_⟩
    simp only[dk,if_pos hT,hp,h]
   ·rename_i hp
    obtain⟨h1,h2⟩:=dS h
    rcases nO h1 with⟨p,k1,k2,k3,k4⟩ | ⟨k1,k2,k3⟩
    ·refine .inl ⟨p,List.mem_cons_of_mem _ k1,k2,k3,fun f'=> ?_⟩
     simp only[dk,if_pos hT,hp]
     exact gz (k4 f') h2
    ·refine .inr ⟨k1,fun p hp' hpT=> ?_,fun f' hf=> ?_⟩
     ·rcases List.mem_cons.1 hp' with rfl | hp'
      ·exact q7 hp
      ·exact k2 p hp' hpT
     ·simp only[dk,if_pos hT,hp]
      exact gz (k3 f' hf) h2
  ·rw[if_neg hT]at h
   rcases nO h with⟨p,k1,k2,k3,k4⟩ | ⟨k1,k2,k3⟩
   ·exact .inl ⟨p,List.mem_cons_of_mem _ k1,k2,k3,fun f'=>by simp only[dk,if_neg hT];exact k4 f'⟩
   ·refine .inr ⟨k1,fun p hp' hpT=> ?_,fun f' hf=>by simp only[dk,if_neg hT];exact k3 f' hf⟩
    rcases List.mem_cons.1 hp' with rfl | hp'
    ·exact absurd (List.contains_iff_mem.2 hpT) hT
    ·exact k2 p hp' hpT
theorem mN {T:List Nat} {x:Nat} {c:AV} {f:Nat→Option AV} (hf:f x=some c):∀ {hi:dE},(∀p∈hi,p.1∈T→(∀q∈p.2.wr,q.1≠x)∧c.hit p.2.ks=false)→dk f T hi x=some c
 | [],_=>hf
 | (i,e)::hi,h=>by
  have ih:=mN hf (hi:=hi) (fun p hp=>h p (List.mem_cons_of_mem _ hp))
  simp only[dk]
  by_cases hT:T.contains i=true
  ·obtain⟨h1,h2⟩:=h (i,e) (by simp) (List.contains_iff_mem.1 hT)
   rw[if_pos hT,mL h1]
   exact gz ih h2
  ·rw[if_neg hT];exact ih
theorem mO {c:AV} {ks:List Nat} (h:∀k∈c.objs,k∉ks):c.hit ks=false:=by
 unfold AV.hit
 rw[List.any_eq_false]
 intro k hk
 simpa using h k hk
structure NC (e e':Eff):Prop where
 wr:∀p∈e'.wr,p.1∉e.rd∧∀q∈e.wr,q.1≠p.1
 rd:∀x∈e'.rd,∀q∈e.wr,q.1≠x
 ks:∀k∈e'.ks,k∉e.ks∧k∉e.ms
 ms:∀k∈e.ks,k∉e'.ms
theorem lA {e e':Eff} (h:jF e e'=true):NC e e':=by
 unfold jF at h
 simp only[Bool.and_eq_true,List.all_eq_true,Bool.not_eq_true',List.any_eq_false,beq_iff_eq,List.contains_eq_mem,decide_eq_false_iff_not]at h
 exact⟨h.1,h.2.1,h.2.2.1,h.2.2.2⟩
theorem lw.split {nb:Nat} {r:dE} (h:lw P ρ vt w0 nt md ops Q b nb r) {j:Nat} (hj:j<r.length):∃hi e lo,r=hi++(j,e)::lo∧lo.length=j∧lw P ρ vt w0 nt md ops Q b nb ((j,e)::lo)∧
  (∀p∈hi,j<p.1∧(∃m,q6 md ops m p.1∧(m.testBit j=true∨jF p.2 e=true))∧(∀v,p.2.al=some v→e.al≠some v)∧∀q∈p.2.wr,∀k∈q.2.objs,k∈p.2.ms):=by
 induction r with
 | nil=>simp at hj
 | cons p r ih=>
  obtain⟨i,e⟩:=p
  obtain⟨h1,h2,h3,hw,h4,h5⟩:=h
  by_cases hji:j=i
  ·subst hji
   exact⟨[],e,r,rfl,h1.symm,⟨h1,h2,h3,hw,h4,h5⟩,fun p hp=>by cases hp⟩
  ·have hj':j<r.length:=by simp at hj;omega
   obtain⟨hi,e',lo,rfl,e2,hg,hall⟩:=ih h5 hj'
   refine⟨(i,e)::hi,e',lo,rfl,e2,hg,fun p hp=> ?_⟩
   rcases List.mem_cons.1 hp with rfl | hp
   ·obtain⟨m,hm,hok⟩:=h3
    refine⟨by simp only;omega,⟨m,hm,?_⟩,fun v hv=>(h4 v hv).2 (j,e') (by simp),hw.wr⟩
    unfold qZ at hok
    have:=List.all_eq_true.1 hok (j,e') (by simp)
    simpa using this
   ·exact hall p hp
theorem lw.idx {nb:Nat} {r:dE} (h:lw P ρ vt w0 nt md ops Q b nb r):∀p∈r,p.1<r.length:=by
 induction r with
 | nil=>intro p hp;cases hp
 | cons p r ih=>
  obtain⟨i,e⟩:=p
  obtain⟨h1,h2,h3,hw,h4,h5⟩:=h
  intro q hq
  rcases List.mem_cons.1 hq with rfl | hq
  ·simp only[List.length_cons];omega
  ·have:=ih h5 q hq;simp only[List.length_cons];omega
theorem tM {T:List Nat} {e:Eff} {x:Nat} {c:AV} (hx:x∈e.rd):∀ {lo:dE},(∀p∈lo,p.1∈T∨jF e p.2=true)→lkE b lo x=some c→dk b T lo x=some c
 | [],_,h=>h
 | (i,e')::lo,h,hc=>by
  simp only[dk,lkE]at hc⊢
  have ih':=tM (c:=c) hx (lo:=lo) (fun p hp=>h p (List.mem_cons_of_mem _ hp))
  by_cases hiT:T.contains i=true
  ·rw[if_pos hiT]
   split at hc
   ·exact hc
   ·obtain⟨h1,h2⟩:=dS hc
    exact gz (ih' h1) h2
  ·rw[if_neg hiT]
   rcases h (i,e') (by simp)with h | h
   ·exact absurd (List.contains_iff_mem.2 h) hiT
   ·rw[mL (fun q hq he=>((lA h).wr q hq).1 (by rw[he];exact hx))]at hc
    exact ih' (dS hc).1
theorem jG {T:List Nat} {j:Nat}:∀ {r:dE} {b:Nat→Option AV},(∀p∈r,p.1≠j)→dk b (T++ [j]) r=dk b T r
 | [],_,_=>rfl
 | (i,e')::r,b,h=>by
  funext z
  have hc:(T++ [j]).contains i=T.contains i:=by
   have:=h (i,e') (by simp)
   simp only at this
   rw[Bool.eq_iff_iff];simp[this]
  simp only[dk,hc,jG (r:=r) (b:=b) (fun p hp=>h p (List.mem_cons_of_mem _ hp))]
/-- What holds when the operations of T are done. -/
def StT (ρ:Rho) (vt:List (TypeId×Nat)) (w0:Ent) (nt:Nat) (b:Nat→Option AV) (nb:Nat) (r:dE) (T:List Nat) (a:Act) (w:World):Prop:=
 ∃B,Inv vt w0 nt B a w∧(∀x c,dk b T r x=some c→bF ρ B a w x c)∧(∀v,B.v v≠none→v<nb∨∃p∈r,p.1∈T∧p.2.al=some v)
theorem oR {nb:Nat} {r:dE} (hg:lw P ρ vt w0 nt md ops Q b nb r) {T:List Nat} {j:Nat} (hj:j<r.length) (hT:p8 md ops T) (hjT:j∉T) (hp:∀k∈bR md ops j,k∈T)
  {a:Act} {w:World} (h:StT ρ vt w0 nt b nb r T a w) {K:Act→World→Prop} (hK:∀a' w',StT ρ vt w0 nt b nb r (T++ [j]) a' w'→K a' w'):wpOp P ops Q j K a w:=by
 obtain⟨hi,e,lo,rfl,hlo,⟨_,hop,⟨m,hm,hok⟩,hwf,hal,hgl⟩,hhi⟩:=hg.split hj
 obtain⟨B,hinv,hval,hB⟩:=h
 have hhi':∀p∈hi,p.1∈T→NC p.2 e:=fun p hp1 hp2=>by
  obtain⟨_,⟨m',hm',hor⟩,_⟩:=hhi p hp1
  rcases hor with hor | hor
  ·exact absurd (hm' j hor T hT (fun k hk=>hT _ hp2 k hk)) hjT
  ·exact lA hor
 have hlo':∀p∈lo,p.1∈T∨jF e p.2=true:=fun p hp1=>by
  unfold qZ at hok
  have:=List.all_eq_true.1 hok p hp1
  simp only[Bool.or_eq_true]at this
  rcases this with h | h
  ·exact .inl (hm _ h T hT hp)
  ·exact .inr h
 have hTj:T.contains j=false:=by simpa using hjT
 refine hop B a w hinv (fun x hx c hc=> ?_) (fun v hv=> ?_) K (fun B' a' w' hpost=>hK a' w' ⟨B',hpost.inv,fun x c hc=> ?_,fun v hv=> ?_⟩)
 ·refine hval x c ?_
  rw[lz]
  refine mN ?_ (fun p hp1 hp2=> ?_)
  ·simp only[dk,hTj,Bool.false_eq_true,if_false]
   exact tM hx hlo' hc
  ·have h1:=hhi' p hp1 hp2
   exact⟨fun q hq=>h1.rd x hx q hq,mO (fun k hk hkp=>h1.ms k hkp (hwf.rd x hx c hc k hk))⟩
 ·have h0:=hal v hv
  cases hBv:B.v v with
  | none=>rfl
  | some g=>
   rcases hB v (by rw[hBv];simp)with h | ⟨p,hp1,hp2,hp3⟩
   ·omega
   ·rcases List.mem_append.1 hp1 with h | h
    ·exact absurd hv ((hhi p h).2.2.1 v hp3)
    ·rcases List.mem_cons.1 h with rfl | h
     ·exact absurd hp2 hjT
     ·exact absurd hp3 (h0.2 p h)
 ·
  have hTj':(T++ [j]).contains j=true:=by simp
  have hhij:∀p∈hi,p.1≠j:=fun p hp=>by have:=(hhi p hp).1;omega
  have hloj:∀p∈lo,p.1≠j:=fun p hp=>by have:=hgl.idx p hp;omega
  rw[lz,jG hhij]at hc
  have hval':=hval x c
  rw[lz]at hval'
  rcases nO hc with⟨p,k1,k2,⟨q,k3,k4,k5⟩,k6⟩ | ⟨k1,k2,k3⟩
  ·have h1:=hhi' p k1 k2
   subst k4;subst k5
   refine hpost.keep _ _ (hval' (k6 _)) (fun p' hp'=>fun e'=>(h1.wr p' hp').2 q k3 e'.symm) (mO (fun k hk hke=>(h1.ks k hke).2 ((hhi p k1).2.2.2 q k3 k hk)))
  ·simp only[dk,hTj',if_true]at k1
   split at k1
   ·rename_i p hp
    injection k1 with k1;subst k1
    obtain⟨h1,h2⟩:=mM hp
    subst h2
    exact hpost.wr p h1
   ·rename_i hp
    obtain⟨h1,h2⟩:=dS k1
    rw[jG hloj]at h1
    refine hpost.keep x c (hval' (k3 _ ?_)) (q7 hp) h2
    simp only[dk,hTj,Bool.false_eq_true,if_false]
    exact h1
 ·cases hBv:B.v v with
  | some g=>
   rcases hB v (by rw[hBv];simp)with h | ⟨p,h1,h2,h3⟩
   ·exact .inl h
   ·exact .inr ⟨p,h1,List.mem_append.2 (.inl h2),h3⟩
  | none=>exact .inr ⟨(j,e),by simp,by simp,hpost.new v hBv hv⟩
end
end Go.Proofs.YtfhinmdhjlmikaaDoor
namespace Go.Proofs.YtfhinmdhjlmikaaDoor
set_option linter.unusedSimpArgs false
set_option linter.unusedVariables false
set_option maxRecDepth 100000
open Go.RowKit
section
variable {P:Program} {ρ:Rho} {vt:List (TypeId×Nat)} {w0:Ent} {nt:Nat} {ops:Array Oper} {Q:Exit→Act→World→Prop} {b:Nat→Option AV} {md:Region.Mode}
/-- What holds when all operations are done. -/
def StF (ρ:Rho) (vt:List (TypeId×Nat)) (w0:Ent) (nt:Nat) (lk:Nat→Option AV) (nb:Nat) (r:dE) (a:Act) (w:World):Prop:=
 ∃B,Inv vt w0 nt B a w∧(∀x c,lk x=some c→bF ρ B a w x c)∧(∀v,B.v v≠none→v<nb∨∃p∈r,p.2.al=some v)
theorem StT.done {nb:Nat} {r:dE} {T:List Nat} {a:Act} {w:World} (h:StT ρ vt w0 nt b nb r T a w) (hT:∀p∈r,p.1∈T):StF ρ vt w0 nt (lkE b r) nb r a w:=by
 obtain⟨B,h1,h2,h3⟩:=h
 rw[tL T r hT]at h2
 exact⟨B,h1,h2,fun v hv=>(h3 v hv).imp id (fun⟨p,h,_,e⟩=>⟨p,h,e⟩)⟩
theorem tN (r:dE):dk b [] r=b:=by
 induction r with
 | nil=>rfl
 | cons p r ih=>funext x;obtain⟨i,e⟩:=p;simp[dk,ih]
theorem StT.start {nb:Nat} {r:dE} {a:Act} {w:World} {B:Blk} (h1:Inv vt w0 nt B a w) (h2:∀x c,b x=some c→bF ρ B a w x c) (h3:∀v,B.v v≠none→v<nb):StT ρ vt w0 nt b nb r [] a w:=
 ⟨B,h1,by rw[tN];exact h2,fun v hv=>.inl (h3 v hv)⟩
theorem sc {nb:Nat} {r:dE} (hg:lw P ρ vt w0 nt md ops Q b nb r) (hlen:r.length=ops.size) (hdown:∀j,j<ops.size→∀k∈bR md ops j,k<j) {a:Act} {w:World}
  (h:StT ρ vt w0 nt b nb r [] a w) (hQ:∀a' w',StF ρ vt w0 nt (lkE b r) nb r a' w'→Q .normal a' w'):wpAny P md ops Q ops.size (Array.replicate ops.size false) a w:=by
 have main:∀(z:Nat) (T:List Nat) (a':Act) (w':World),T.Nodup→(∀i∈T,i<ops.size)→T.length+z=ops.size→p8 md ops T→StT ρ vt w0 nt b nb r T a' w'→
   wpAny P md ops Q z (aS T (Array.replicate ops.size false)) a' w':=by
  intro z
  induction z with
  | zero=>
   intro T a' w' hTn hT hl hcl hS
   have hall:∀i,i<ops.size→i∈T:=by
    intro i hi
    apply Classical.byContradiction
    intro hni
    have h1:(i::T).length≤(List.range ops.size).length:=nw (List.nodup_cons.2 ⟨hni,hTn⟩) (fun k hk=>by
     rcases List.mem_cons.1 hk with rfl | hk
     ·exact List.mem_range.2 hi
     ·exact List.mem_range.2 (hT k hk))
    simp at h1;omega
   refine⟨?_,hQ _ _ (hS.done (fun p hp=>hall _ (by have:=hg.idx p hp;omega)))⟩
   apply List.eq_nil_iff_forall_not_mem.2
   intro j hj
   obtain⟨hjs,hj0,_⟩:=gn hj
   rw[aY]at hj0
   simp[hall j hjs,hjs]at hj0
  | succ z ih=>
   intro T a' w' hTn hT hl hcl hS
   have hready:∀j∈Region.ready md ops (aS T (Array.replicate ops.size false)),j<ops.size∧j∉T∧∀k∈bR md ops j,k∈T:=by
    intro j hj
    obtain⟨hjs,hj0,hjp⟩:=gn hj
    have hjT:j∉T:=by
     intro h
     rw[aY]at hj0
     simp[h,hjs]at hj0
    refine⟨hjs,hjT,fun k hk=> ?_⟩
    have h1:=hjp k hk
    rw[aY]at h1
    apply Classical.byContradiction
    intro hkT
    have hkD:k<ops.size:=by have:=hdown j hjs k hk;omega
    simp[hkT,hkD]at h1
   have hex:∃i,i<ops.size∧i∉T:=by
    apply Classical.byContradiction
    intro hno
    have hall:∀i∈List.range ops.size,i∈T:=fun i hi=>Classical.byContradiction fun h=>hno ⟨i,List.mem_range.1 hi,h⟩
    have:=nw List.nodup_range hall
    simp at this;omega
   have hsome:∃i∈Region.ready md ops (aS T (Array.replicate ops.size false)),True:=by
    have key:∀(m i:Nat),i≤m→i<ops.size→i∉T→∃i∈Region.ready md ops (aS T (Array.replicate ops.size false)),True:=by
     intro m
     induction m with
     | zero=>
      intro i him hi hiT
      refine⟨i,iF (by omega) (by rw[aY];simp[hiT,hi]) (fun k hk=> ?_),trivial⟩
      have:=hdown i (by omega) k hk
      omega
     | succ m ihm=>
      intro i him hi hiT
      by_cases hall:∀k∈bR md ops i,k∈T
      ·refine⟨i,iF (by omega) (by rw[aY];simp[hiT,hi]) (fun k hk=> ?_),trivial⟩
       have hkD:=hT k (hall k hk)
       rw[aY];simp[hall k hk,hkD]
      ·simp only[Classical.not_forall]at hall
       obtain⟨k,hk,hkT⟩:=hall
       have hki:=hdown i (by omega) k hk
       exact ihm k (by omega) (by omega) hkT
    obtain⟨i,hi,hiT⟩:=hex
    exact key i i (Nat.le_refl _) hi hiT
   refine⟨fun h=> ?_,fun j hj=> ?_⟩
   ·obtain⟨i,hi,_⟩:=hsome
    rw[h]at hi;cases hi
   ·obtain⟨hjD,hjT,hjp⟩:=hready j hj
    refine oR hg (by omega) hcl hjT hjp hS (fun a'' w'' hS'=> ?_)
    have e:(aS T (Array.replicate ops.size false)).setIfInBounds j true=aS (T++ [j]) (Array.replicate ops.size false):=by unfold aS;rw[List.foldl_append];rfl
    rw[e]
    refine ih (T++ [j]) a'' w'' ?_ ?_ ?_ ?_ hS'
    ·exact List.nodup_append.2 ⟨hTn,by simp,by intro x hx y hy;simp at hy;subst hy;exact fun h=>hjT (h▸hx)⟩
    ·intro i hi
     rcases List.mem_append.1 hi with h | h
     ·exact hT i h
     ·simp at h;rw[h];exact hjD
    ·simp;omega
    ·intro i hi k hk
     rcases List.mem_append.1 hi with h | h
     ·exact List.mem_append.2 (.inl (hcl i h k hk))
     ·simp at h;subst h;exact List.mem_append.2 (.inl (hjp k hk))
 exact main ops.size [] a w (by simp) (by simp) (by simp) (fun j hj=>by cases hj) h
/-- A region that keeps the order of its text. -/
theorem p9 {nb:Nat} {r:dE} (hg:lw P ρ vt w0 nt md ops Q b nb r) (hlen:r.length=ops.size) (hdown:∀j,j<ops.size→∀k∈bR md ops j,k<j) {a:Act} {w:World}
  (h:StT ρ vt w0 nt b nb r [] a w) (hQ:∀a' w',StF ρ vt w0 nt (lkE b r) nb r a' w'→Q .normal a' w'):wpOps P ops Q (List.range ops.size) a w:=by
 have main:∀(z j:Nat) (a':Act) (w':World),j+z=ops.size→StT ρ vt w0 nt b nb r (List.range j) a' w'→wpOps P ops Q (List.range' j z) a' w':=by
  intro z
  induction z with
  | zero=>
   intro j a' w' hj hS
   simp only[List.range'_zero,wpOps]
   exact hQ _ _ (hS.done (fun p hp=>by have:=hg.idx p hp;simp;omega))
  | succ z ih=>
   intro j a' w' hj hS
   rw[List.range'_succ,wpOps_cons]
   refine oR (T:=List.range j) hg (by omega) (fun i hi k hk=> ?_) (by simp) (fun k hk=> ?_) hS (fun a'' w'' hS'=> ?_)
   ·have h1:=List.mem_range.1 hi
    have:=hdown i (by omega) k hk
    exact List.mem_range.2 (by omega)
   ·exact List.mem_range.2 (hdown j (by omega) k hk)
   ·rw[←List.range_succ]at hS'
    exact ih (j+1) a'' w'' (by omega) hS'
 have:=main ops.size 0 a w (by simp) (by simpa using h)
 rwa [←List.range_eq_range']at this
end
end Go.Proofs.YtfhinmdhjlmikaaDoor
namespace Go.Proofs.YtfhinmdhjlmikaaDoor
set_option linter.unusedSimpArgs false
set_option linter.unusedVariables false
set_option maxRecDepth 100000
open Go.RowKit
/-- What a call changes: objects ks; variables us (their cells behind it; pre: before); a new variable nv; what its arguments are behind it (keep); its answers xs. -/
structure MutD where
 ks:List Nat
 pre:List (Nat×TypeId×List Leaf)
 us:List (Nat×TypeId×List Leaf)
 nv:Option (Nat×TypeId×List Leaf)
 keep:List (Nat×SV)
 xs:List SV
 deriving DecidableEq
def wi:List SV→AV
 | [x]=>.v x
 | xs=>.tup xs
inductive Key where
 | mut (f:FuncId) (d:MutD)
 | bin (op:BinOp) (t:TypeId)
 | un (op:UnOp)
 | conv (s d:TypeId)
 | len (t:TypeId)
 | idx (t:TypeId)
 | ia (t:TypeId)
 | fa (t:TypeId) (f:Nat)
 | ld (t:TypeId)
 | sl (t:TypeId) (lo hi:Bool)
 | bs (t:TypeId) (n:Nat) (ix:List Nat)
 | app (t:TypeId)
 | frz (r i:Nat)
 | max
 deriving DecidableEq
/-- What an operation on unknown values gives: asked of whoever uses it. -/
structure OIns where
 key:Key
 xs:List SV
 r:SV
def kC (v k:Nat):Nat:=(v+1)*100000+k
def aggD:TypeDesc→Bool
 | .struct _=>true
 | .array .. =>true
 | _=>false
def oS (p:Program) (t:TypeId):Option Bool:=(p.underlying t).map aggD
def szB (p:Program) (t:TypeId):Option Nat:=(p.info? t).map (·.size)
def evA (lk:Nat→Option AV):Operand→Option AV
 | .tmp t=>if t<100000 then lk t else none
 | .const v=>(svC v).map .v
 | .func f=>some (.v (.one (.fn f)))
 | .global _=>none
def evS (lk:Nat→Option AV) (x:Operand):Option SV:=match evA lk x with | some (.v s)=>some s | _=>none
def evL (lk:Nat→Option AV) (x:Operand):Option Leaf:=match evS lk x with | some (.one l)=>some l | _=>none
def rdO:Operand→List Nat
 | .tmp t=>[t]
 | _=>[]
def fM (lk:Nat→Option AV) (v:Nat):Nat→Nat→Option (List Leaf)
 | _,0=>some []
 | k,n+1=>match lk (kC v k)with
  | some (.v (.one l))=>(fM lk v (k+1) n).map (l:: ·)
  | _=>none
def iQ (v k n:Nat):List Nat:=(List.range n).map fun j=>kC v (k+j)
def SV.leaves:SV→List Leaf
 | .one l=>[l]
 | .agg ls=>ls
def qc {α:Type} (ls:List α) (off:Nat):List α→List α
 | []=>ls
 | v::vs=>qc (ls.set off v) (off+1) vs
def iR (place:Nat→Option (Nat×Nat)) (ls:List Leaf):List (Nat×SV)→Option (List Leaf)
 | []=>some ls
 | (i,s)::rest=>match place i with
  | none=>none
  | some (off,size)=>if s.leaves.length=size∧off+s.leaves.length≤ls.length then iR place (qc ls off s.leaves) rest else none
def iS (lk:Nat→Option AV):List (Nat×Operand)→Option (List (Nat×SV))
 | []=>some []
 | (i,x)::r=>match evS lk x,iS lk r with
  | some s,some l=>some ((i,s)::l)
  | _,_=>none
def oT (p:Program) (t:TypeId):Option (List Leaf):=match (p.info? t).bind (·.zero)with | some z=>eM z.cells.toList | none=>none
def nP (p:Program) (fs:Array Field) (i:Nat):Option (Nat×Nat):=match fs[i]? with | some f=>(szB p f.type).map fun n=>(f.offset,n) | none=>none
def mP (p:Program) (t:TypeId) (ls:List Leaf) (off:Nat):Option SV:=
 match oS p t with
 | some true=>match szB p t with
  | some n=>if off+n≤ls.length then some (.agg ((ls.drop off).take n))else none
  | none=>none
 | some false=>(ls[off]?).map .one
 | none=>none
def eN (p:Program) (t:TypeId):Bool:=match p.underlying t with | some .bool=>true | _=>false
def qd (bt:Bool) (op:BinOp) (x y:Leaf):Option Leaf:=
 match x,y with
 | .b a,.b c=>if bt then match op with | .eql=>some (.b (a==c)) | .neq=>some (.b (!(a==c))) | _=>none else none
 | .i k a,.i k' c=>if k=k' then match op with
   | .eql=>some (.b (decide (a=c))) | .neq=>some (.b (!decide (a=c))) | .lss=>some (.b (decide (a<c))) | .leq=>some (.b (decide (a≤c))) | .gtr=>some (.b (decide (c<a))) | .geq=>some (.b (decide (c≤a)))
   | .add=>some (.i k (k.wrap (a+c))) | .sub=>some (.i k (k.wrap (a - c))) | .mul=>some (.i k (k.wrap (a*c)))
   | _=>none else none
 | _,_=>none
def cf (L:List OIns) (k:Key) (xs:List SV):Option SV:=match L.find? (fun o=>decide (o.key=k) && decide (o.xs=xs))with | some o=>some o.r | none=>none
def wj (x:Leaf):Option Nat:=match x with | .i _ n=>if 0≤n then some n.toNat else none | _=>none
/-- The value of an operation, and the cells that it reads. -/
def bY (p:Program) (L:List OIns) (lk:Nat→Option AV) (op:Op):Option (AV×List Nat):=
 match op with
 | .move x=>(evA lk x).map (·,[])
 | .assign x=>(evA lk x).map (·,[])
 | .pick c x y=>match evL lk c with
  | some (.b true)=>(evA lk x).map (·,[])
  | some (.b false)=>(evA lk y).map (·,[])
  | _=>none
 | .extract x k=>match evA lk x with
  | some (.tup xs)=>(xs[k]?).map fun s=>(.v s,[])
  | _=>none
 | .load t x=>match evL lk x with
  | some (.ptr v o)=>match oS p t with
   | some true=>match szB p t with
    | some n=>if o+n≤100000∧0<n then(fM lk v o n).map fun ls=>(.v (.agg ls),iQ v o n)else none
    | none=>none
   | some false=>if o+1≤100000 then match fM lk v o 1 with
    | some [l]=>some (.v (.one l),iQ v o 1)
    | _=>none else none
   | none=>none
  | _=>none
 | .fieldAddr s x f=>match evL lk x,p.underlying s with
  | some (.ptr v o),some (.struct fs)=>match fs[f]? with
   | some fd=>match szB p fd.type with
    | some (_+1)=>some (.v (.one (.ptr v (o+fd.offset))),[])
    | _=>none
   | none=>none
  | _,_=>none
 | .indexAddr t x ix=>match evL lk x,p.underlying t,evL lk ix with
  | some (.ptr v o),some (.array len e),some l=>match wj l,szB p e with
   | some i,some n=>if i<len then some (.v (.one (.ptr v (o+i*n))),[])else none
   | _,_=>none
  | _,_,_=>none
 | .build t parts=>match oT p t,iS lk parts.toList,p.underlying t with
  | some z,some ps,some (.struct fs)=>if fs.all (fun f=>(szB p f.type).isSome)then(iR (nP p fs) z ps).map fun ls=>(.v (.agg ls),[])else none
  | some z,some ps,some (.array _ e)=>match szB p e with
   | some n=>(iR (fun i=>some (i*n,n)) z ps).map fun ls=>(.v (.agg ls),[])
   | none=>none
  | _,_,_=>none
 | .field t x f=>match evS lk x,p.underlying t with
  | some (.agg ls),some (.struct fs)=>match fs[f]? with
   | some fd=>(mP p fd.type ls fd.offset).map fun s=>(.v s,[])
   | none=>none
  | _,_=>none
 | .index t x ix=>match evS lk x,p.underlying t,evL lk ix with
  | some (.agg ls),some (.array len e),some l=>match wj l,szB p e with
   | some i,some n=>if i<len then(mP p e ls (i*n)).map fun s=>(.v s,[])else none
   | _,_=>none
  | _,_,_=>none
 | .binOp op t x y _=>match evS lk x,evS lk y with
  | some (.one a),some (.one c)=>match qd (eN p t) op a c with
   | some l=>some (.v (.one l),[])
   | none=>(cf L (.bin op t) [.one a,.one c]).map fun s=>(.v s,[])
  | some a,some c=>(cf L (.bin op t) [a,c]).map fun s=>(.v s,[])
  | _,_=>none
 | .unOp .not _ x=>match evL lk x with
  | some (.b c)=>some (.v (.one (.b (!c))),[])
  | some l=>(cf L (.un .not) [.one l]).map fun s=>(.v s,[])
  | none=>none
 | .unOp op _ x=>match evS lk x with
  | some s=>(cf L (.un op) [s]).map fun s=>(.v s,[])
  | none=>none
 | .convert s d x=>match evL lk x,p.underlying s,p.underlying d with
  | some (.i _ n),some (.int _),some (.int k)=>some (.v (.one (.i k (k.wrap n))),[])
  | some l,_,_=>(cf L (.conv s d) [.one l]).map fun s=>(.v s,[])
  | none,_,_=>(match evS lk x with | some a=>(cf L (.conv s d) [a]).map fun s=>(.v s,[]) | none=>none)
 | .call c=>match c.callee,c.args.toList,c.argTypes[0]? with
  | .builtin .len,[x],some t=>match evS lk x with
   | some a=>(cf L (.len t) [a]).map fun s=>(.v s,[])
   | none=>none
  | .builtin .max,[x,y],some _=>match evS lk x,evS lk y with
   | some a,some b=>(cf L .max [a,b]).map fun s=>(.v s,[])
   | _,_=>none
  | _,_,_=>none
 | _=>none
/-- Operations whose answer is asked of whoever uses them. -/
def tO:Op→Option (Key×List Operand)
 | .index t x i=>some (.idx t,[x,i])
 | .indexAddr t x i=>some (.ia t,[x,i])
 | .fieldAddr t x f=>some (.fa t f,[x])
 | .load t x=>some (.ld t,[x])
 | .slice t x none none none=>some (.sl t false false,[x])
 | .slice t x (some l) none none=>some (.sl t true false,[x,l])
 | .slice t x none (some h) none=>some (.sl t false true,[x,h])
 | .slice t x (some l) (some h) none=>some (.sl t true true,[x,l,h])
 | _=>none
def kD (lk:Nat→Option AV):List Operand→Option (List SV)
 | []=>some []
 | x::xs=>match evS lk x,kD lk xs with
  | some s,some l=>some (s::l)
  | _,_=>none
def nilO (lk:Nat→Option AV):Op→Option AV
 | .nilCheck x=>match evL lk x with
  | some (.ptr v o)=>some (.v (.one (.ptr v o)))
  | _=>none
 | _=>none
/-- Reckoned, or asked. -/
def mQ (p:Program) (L:List OIns) (lk:Nat→Option AV) (op:Op):Option (AV×List Nat):=
 match bY p L lk op with
 | some r=>some r
 | none=>match nilO lk op with
  | some c=>some (c,[])
  | none=>match tO op with
   | some (k,xs)=>match kD lk xs with
    | some ss=>(cf L k ss).map fun s=>(.v s,[])
    | none=>none
   | none=>none
/-- A row that the call itself made. -/
def ownP (ρ:Rho) (r:SV) (w:World) (v:Value):Prop:=match r with
 | .one (.own _ m)=>∃s,ρ[m]? =some s∧s.p w v∧∀g,s.fp w v g→v.ownBlock=some g
 | _=>False
/-- What is known of a variable as a whole. -/
def qe (ρ:Rho) (B:Blk) (w:World) (q:Nat×TypeId×List Leaf):Prop:=
 ∃g cs,B.v q.1=some g∧w.heap[g]? =some (.cells cs q.2.1 (0,0))∧ap ρ B w q.2.2 cs.toList∧∀(k:Nat) (n:Int),cs[k]? ≠some (.int .u32 n)
/-- What a call changes of memory, and whose it is. -/
structure Mut (d:MutD) (B B':Blk) (w w':World):Prop where
 os:w'.os=w.os
 tape:w'.tape=w.tape
 output:w'.output=w.output
 v:∀x,(∀q,d.nv=some q→x≠q.1)→B'.v x=B.v x
 nv:∀q g,d.nv=some q→B'.v q.1=some g→w.heap.size≤g
 o:∀k g,B.o k g→B'.o k g
 new:∀k g,B'.o k g→B.o k g∨(k∈d.ks∧w.heap.size≤g)
 own:∀k g,k∈d.ks→B'.o k g→fq w' g
 inj:BInj B'
 chg:Chg w w' (fun g=>(∃k∈d.ks,B.o k g)∨∃q∈d.us,B.v q.1=some g)
/-- What is asked of such an answer. -/
def OIns.Ok (p:Program) (ρ:Rho) (i:OIns):Prop:=∀(B:Blk) (w:World) (vs:List Value),ct ρ B w i.xs vs→
 match i.key,vs with
 | .bin op t,[x,y]=>∃v,i.r.holds ρ B w v∧∀xo yo,((do eqGuard op t xo yo x y;binOp op t x y:Sem Value)).run p w= .ok v w
 | .un op,[x]=>∃v,i.r.holds ρ B w v∧(Op.unary op x).run p w= .ok v w
 | .conv s d,[x]=>∃v,i.r.holds ρ B w v∧(convert s d x).run p w= .ok v w
 | .len t,[x]=>∃v,i.r.holds ρ B w v∧∀(ts:Array TypeId) ty,ts[0]? =some t→(Builtin.len_ ts ty #[x]).run p w= .ok v w
 | .idx t,[x,y]=>∃v,i.r.holds ρ B w v∧(Instr.index t x y).run p w= .ok v w
 | .ia t,[x,y]=>∃v,i.r.holds ρ B w v∧(Instr.indexAt t x y).run p w= .ok v w
 | .ld t,[x]=>∃v,i.r.holds ρ B w v∧(Instr.loadAt t x).run p w= .ok v w
 | .fa t f,[x]=>∃v,i.r.holds ρ B w v∧(Instr.fieldAt t x f).run p w= .ok v w
 | .sl t false false,[x]=>∃v,i.r.holds ρ B w v∧(Instr.sliceAt t x none none none).run p w= .ok v w
 | .sl t true false,[x,y]=>∃v,i.r.holds ρ B w v∧(Instr.sliceAt t x (some y) none none).run p w= .ok v w
 | .sl t false true,[x,y]=>∃v,i.r.holds ρ B w v∧(Instr.sliceAt t x none (some y) none).run p w= .ok v w
 | .app t,[x,y]=>∀ty,∃v w',(Builtin.append_ #[t,t] ty #[x,y]).run p w= .ok v w'∧w.grownBy w' x.ownBlock∧(∀g,x.ownBlock=some g→fq w' g)∧(∀g,v.ownBlock=some g→(x.ownBlock=some g∨w.heap.size≤g)∧g<w'.heap.size∧fq w' g)∧ownP ρ i.r w' v
 | .frz _ _,[x]=>i.r.holds ρ B w x
 | .max,[x,y]=>∃v,i.r.holds ρ B w v∧∀(ts:Array TypeId) ty,(Builtin.max_ ts ty #[x,y]).run p w= .ok v w
 | .mut f d,vs=>(callFunc f vs.toArray).run p w= .ok (.enter f vs.toArray) w∧(BOk B w.heap.size→BInj B→(∀k g,B.o k g→fq w g)→(∀x g,B.v x=some g→fq w g)→(∀q,d.nv=some q→B.v q.1=none)→(∀q∈d.pre,qe ρ B w q)→
   Calls p f vs.toArray w (fun e w'=>∃v B',e= .returned v∧(wi d.xs).holds ρ B' w' v∧(∀q∈d.keep,∃u,vs[q.1]? =some u∧q.2.holds ρ B' w' u)∧(∀q∈d.us,qe ρ B' w' q)∧(∀q,d.nv=some q→qe ρ B' w' q)∧Mut d B B' w w'))
 | .bs t n ix,vs=>BOk B w.heap.size→∃v w',i.r.holds ρ B w' v∧(Instr.buildSlice t n (ix.zip vs).toArray).run p w= .ok v w'∧Below w.heap.size w w'
 | .sl t true true,[x,y,z]=>∃v,i.r.holds ρ B w v∧(Instr.sliceAt t x (some y) (some z) none).run p w= .ok v w
 | _,_=>True
section
variable {ρ:Rho} {L:List OIns} {B:Blk} {a:Act} {w:World} {lk:Nat→Option AV} {x:Operand}
theorem mR {c:AV} (h:∀y∈rdO x,∀c,lk y=some c→bF ρ B a w y c) (e:evA lk x=some c):c.holds ρ B w (a.eval x):=by
 cases x with
 | tmp t=>
  simp only[evA]at e
  split at e
  ·rename_i ht
   obtain⟨u,h1,h2⟩:=(by have:=h t (by simp[rdO]) c e;unfold bF at this;rwa [if_pos ht]at this:∃u,a.tmps[t]? =some u∧c.holds ρ B w u)
   have:a.eval (.tmp t)=u:=by simp only[Act.eval,Array.getD_eq_getD_getElem?,h1,Option.getD_some]
   rw[this];exact h2
  ·cases e
 | const v=>
  simp only[evA]at e
  cases h1:svC v with
  | none=>rw[h1]at e;cases e
  | some s=>rw[h1]at e;simp at e;subst e;exact sb h1
 | func f=>simp only[evA,Option.some.injEq]at e;subst e;rfl
 | global g=>simp[evA]at e
theorem mS {s:SV} (h:∀y∈rdO x,∀c,lk y=some c→bF ρ B a w y c) (e:evS lk x=some s):s.holds ρ B w (a.eval x):=by
 unfold evS at e
 split at e
 ·rename_i s' h1
  injection e with e;subst e
  exact mR h h1
 ·cases e
theorem sd {l:Leaf} (h:∀y∈rdO x,∀c,lk y=some c→bF ρ B a w y c) (e:evL lk x=some l):l.holds ρ B w (a.eval x):=by
 unfold evL at e
 split at e
 ·rename_i s' h1
  injection e with e;subst e
  exact mS h h1
 ·cases e
end
end Go.Proofs.YtfhinmdhjlmikaaDoor
namespace Go.Proofs.YtfhinmdhjlmikaaDoor
set_option linter.unusedSimpArgs false
set_option linter.unusedVariables false
set_option maxRecDepth 100000
open Go.RowKit
section
variable {p:Program} {ρ:Rho} {B:Blk} {a:Act} {w:World} {t:TypeId}
theorem run_underlying {d:TypeDesc} (h:p.underlying t=some d):(underlying t).run p w= .ok d w:=by
 simp[underlying,program,Sem.run_bind,Sem.run,h,Result.andThen]
theorem oU {i:TypeInfo} (h:p.info? t=some i):(typeInfo t).run p w= .ok i w:=by
 simp[typeInfo,program,Sem.run_bind,Sem.run,h,Result.andThen]
theorem cg {n:Nat} (h:szB p t=some n):(sizeOf t).run p w= .ok n w:=by
 unfold szB at h
 cases hi:p.info? t with
 | none=>rw[hi]at h;cases h
 | some i=>rw[hi]at h;simp at h;subst h;simp[sizeOf,Sem.run_bind,oU hi,Result.andThen]
theorem fN {b:Bool} (h:oS p t=some b):(isAgg t).run p w= .ok b w:=by
 unfold oS at h
 cases hi:p.underlying t with
 | none=>rw[hi]at h;cases h
 | some d=>
  rw[hi]at h;simp at h;subst h
  unfold isAgg
  rw[Sem.run_bind,run_underlying hi]
  cases d<;>rfl
theorem se {z:Value} (h:(p.info? t).bind (·.zero)=some z):(zeroValue t).run p w= .ok z w:=by
 cases hi:p.info? t with
 | none=>rw[hi]at h;cases h
 | some i=>rw[hi]at h;simp at h;simp[zeroValue,Sem.run_bind,oU hi,Result.andThen,h]
theorem gS {ad:Addr} {v:Value} (h:w.cell? ad=some v):(Go.load ad).run p w= .ok v w:=by
 simp[Go.load,Sem.run,h]
theorem fO (g o k:Nat):(⟨g,o,none⟩:Addr).add k=⟨g,o+k,none⟩:=by
 unfold Addr.add
 split
 ·subst_vars;rfl
 ·rfl
theorem gT {g o:Nat} {cs:Array Value} {ty:TypeId} {fz:Nat×Nat} (h:w.heap[g]? =some (.cells cs ty fz)):w.cell? ⟨g,o,none⟩=cs[o]? :=by
 simp[World.cell?,h]
theorem fP {g o:Nat} {cs:Array Value} {ty:TypeId} (h:w.heap[g]? =some (.cells cs ty (0,0))):∀(vs:List Value) (i:Nat) (acc:Array Value),
  (∀k v,vs[k]? =some v→cs[o+(i+k)]? =some v)→(loadCellsFrom ⟨g,o,none⟩ i vs.length acc).run p w= .ok (acc++vs.toArray) w
 | [],i,acc,_=>by simp[loadCellsFrom]
 | v::vs,i,acc,hv=>by
  have h1:=hv 0 v rfl
  rw[Nat.add_zero]at h1
  have h2:=fP h vs (i+1) (acc.push v) (fun k u hu=>by
   have:=hv (k+1) u (by simpa using hu)
   rwa [show i+(k+1)=i+1+k from by omega]at this)
  simp only[List.length_cons,loadCellsFrom]
  rw[Sem.run_bind,fO,gS (by rw[gT h];exact h1)]
  simp only[Result.andThen]
  rw[h2]
  simp
theorem gU {v k:Nat} {c:AV} (hk:k<100000):bF ρ B a w (kC v k) c↔∃g cs ty u,B.v v=some g∧w.heap[g]? =some (.cells cs ty (0,0))∧cs[k]? =some u∧c.holds ρ B w u:=by
 unfold bF kC
 rw[if_neg (by omega),show((v+1)*100000+k) / 100000 - 1=v from by omega,show((v+1)*100000+k) % 100000=k from by omega]
theorem d9 {lk:Nat→Option AV} {v:Nat}:∀ {n k:Nat} {ls:List Leaf},fM lk v k n=some ls→k+n≤100000→(∀x∈iQ v k n,∀c,lk x=some c→bF ρ B a w x c)→
  ls.length=n∧(0<n→∃g cs ty,B.v v=some g∧w.heap[g]? =some (.cells cs ty (0,0))∧∃vs:List Value,ap ρ B w ls vs∧∀j u,vs[j]? =some u→cs[k+j]? =some u)
 | 0,k,ls,h,_,_=>by simp[fM]at h;subst h;exact⟨rfl,fun h=>by omega⟩
 | n+1,k,ls,h,hk,hx=>by
  simp only[fM]at h
  split at h
  ·rename_i l hl
   cases hr:fM lk v (k+1) n with
   | none=>rw[hr]at h;cases h
   | some r=>
    rw[hr]at h;simp at h;subst h
    have h0:=hx (kC v k) (by unfold iQ;simp only[List.mem_map,List.mem_range];exact⟨0,by omega,by simp⟩) _ hl
    rw[gU (by omega)]at h0
    obtain⟨g,cs,ty,u,e1,e2,e3,e4⟩:=h0
    obtain⟨hlen,hrest⟩:=d9 hr (by omega) (fun x hx' c hc=>hx x (by
     unfold iQ at hx'⊢
     simp only[List.mem_map,List.mem_range]at hx'⊢
     obtain⟨j,hj,rfl⟩:=hx'
     exact⟨j+1,by omega,by congr 1;omega⟩) c hc)
    refine⟨by simp[hlen],fun _=>⟨g,cs,ty,e1,e2,?_⟩⟩
    by_cases hn:n=0
    ·subst hn
     have:r=[]:=List.eq_nil_of_length_eq_zero hlen
     subst this
     exact⟨[u],⟨e4,trivial⟩,fun j x hj=>by
      match j with
      | 0=>simp at hj;subst hj;simpa using e3
      | j+1=>simp at hj⟩
    ·obtain⟨g',cs',ty',f1,f2,vs,f3,f4⟩:=hrest (by omega)
     rw[e1]at f1;injection f1 with f1;subst f1
     rw[e2]at f2;injection f2 with f2;injection f2 with f2 f2';subst f2
     exact⟨u::vs,⟨e4,f3⟩,fun j x hj=>by
      match j with
      | 0=>simp at hj;subst hj;simpa using e3
      | j+1=>
       have:=f4 j x (by simpa using hj)
       rwa [show k+1+j=k+(j+1)from by omega]at this⟩
  ·cases h
theorem ap.one {l:Leaf} {vs:List Value} (h:ap ρ B w [l] vs):∃v,vs=[v]∧l.holds ρ B w v:=by
 match vs,h with
 | [v],h=>exact⟨v,rfl,h.1⟩
theorem ap.set:∀ {ls:List Leaf} {vs:List Value} {k:Nat} {l:Leaf} {v:Value},ap ρ B w ls vs→l.holds ρ B w v→ap ρ B w (ls.set k l) (vs.set k v)
 | [],[],_,_,_,_,_=>by simp[ap]
 | _::_,_::_,0,_,_,h,k=>⟨k,h.2⟩
 | _::_,_::_,n+1,_,_,h,k=>⟨h.1,ap.set h.2 k⟩
 | [],_::_,_,_,_,h,_=>h.elim
 | _::_,[],_,_,_,h,_=>h.elim
theorem ap.setRng:∀ {ns:List Leaf} {us:List Value} {ls:List Leaf} {vs:List Value} {k:Nat},ap ρ B w ns us→ap ρ B w ls vs→ap ρ B w (qc ls k ns) (qc vs k us)
 | [],[],_,_,_,_,h=>h
 | _::_,_::_,_,_,_,k,h=>by unfold qc;exact ap.setRng k.2 (h.set k.1)
 | [],_::_,_,_,_,h,_=>h.elim
 | _::_,[],_,_,_,h,_=>h.elim
theorem SV.holds.cells {s:SV} {v:Value} (h:s.holds ρ B w v):ap ρ B w s.leaves v.cells.toList:=by
 cases s with
 | agg ls=>obtain⟨vs,rfl,h⟩:=h;simpa [Value.cells,SV.leaves]using h
 | one l=>
  have hc:v.cells=#[v]:=by
   cases l<;>simp only[SV.holds,Leaf.holds]at h
   ·subst h;rfl
   ·subst h;rfl
   ·obtain⟨g,_,rfl⟩:=h;rfl
   ·subst h;rfl
   ·obtain⟨s,_,h,_⟩:=h
    have:=(s.fl _ _ h).1
    cases v<;>first | rfl | exact absurd rfl (this _)
   ·subst h;rfl
   ·subst h;rfl
   ·subst h;rfl
   ·obtain⟨s,_,h,_⟩:=h
    have:=(s.fl _ _ h).1
    cases v<;>first | rfl | exact absurd rfl (this _)
  rw[hc]
  exact⟨h,trivial⟩
theorem mT {cs:Array Value}:∀(vs:List Value) (n off:Nat) (cs:Array Value),((vs.zipIdx n).foldl (fun(cs:Array Value) (x:Value×Nat)=>cs.setIfInBounds (off+x.2) x.1) cs).toList=qc cs.toList (off+n) vs
 | [],_,_,_=>rfl
 | v::vs,n,off,cs=>by
  simp only[List.zipIdx_cons,List.foldl_cons]
  rw[mT (cs:=cs) vs (n+1) off]
  simp[qc,Nat.add_assoc]
theorem fQ {place:Nat→Option (Nat×Nat)}:∀ {ps:List (Nat×SV)} {us:List (Nat×Value)} {z z':List Leaf} {cells:Array Value},iR place z ps=some z'→
  us.map (·.1)=ps.map (·.1)→ct ρ B w (ps.map (·.2)) (us.map (·.2))→ap ρ B w z cells.toList→∃out:Array Value,Instr.fill place cells us=some out∧ap ρ B w z' out.toList
 | [],[],z,z',cells,h,_,_,hz=>by simp[iR]at h;subst h;exact⟨cells,rfl,hz⟩
 | (i,s)::ps,(j,u)::us,z,z',cells,h,he,hs,hz=>by
  simp only[List.map_cons,List.cons.injEq]at he
  obtain⟨rfl,he⟩:=he
  simp only[iR]at h
  unfold Instr.fill
  cases hp:place j with
  | none=>rw[hp]at h;cases h
  | some x=>
   obtain⟨off,size⟩:=x
   rw[hp]at h
   simp only at h⊢
   split at h
   ·rename_i hc
    have hcl:=hs.1.cells
    have h1:=hcl.len
    have h2:=hz.len
    simp only[Array.length_toList]at h1 h2
    rw[if_neg (by
     simp only[ne_eq,Bool.or_eq_true,decide_eq_true_eq,not_or,Classical.not_not,Nat.not_lt]
     have:=hc.1
     have:=hc.2
     omega)]
    refine fQ h he hs.2 ?_
    have:=mT (cs:=cells) u.cells.toList 0 off cells
    rw[Nat.add_zero]at this
    rw[←Array.toList_zipIdx]at this
    simp only[Array.foldl_toList]at this
    rw[this]
    exact ap.setRng hcl hz
   ·cases h
 | [],_::_,_,_,_,_,he,_,_=>by simp at he
 | _::_,[],_,_,_,_,he,_,_=>by simp at he
end
end Go.Proofs.YtfhinmdhjlmikaaDoor
namespace Go.Proofs.YtfhinmdhjlmikaaDoor
set_option linter.unusedSimpArgs false
set_option linter.unusedVariables false
set_option maxRecDepth 100000
open Go.RowKit
section
variable {p:Program} {ρ:Rho} {B:Blk} {a:Act} {w:World} {L:List OIns} {lk:Nat→Option AV} {c:AV} {rd:List Nat} {o:Oper}
/-- What is known of the operands. -/
def a7 (ρ:Rho) (B:Blk) (a:Act) (w:World) (lk:Nat→Option AV) (x:Operand):Prop:=∀y∈rdO x,∀c,lk y=some c→bF ρ B a w y c
def dt (p:Program) (ρ:Rho) (B:Blk) (a:Act) (w:World) (o:Oper) (c:AV):Prop:=∃u,(execOp a.eval o).run p w= .ok (.value u) w∧c.holds ρ B w u
theorem mU {x:Operand} {c:AV} (h:a7 ρ B a w lk x) (e:evA lk x=some c):c.holds ρ B w (a.eval x):=mR h e
theorem dF {x:Operand} {c:SV} (h:a7 ρ B a w lk x) (e:evS lk x=some c):c.holds ρ B w (a.eval x):=mS h e
theorem dG {x:Operand} {c:Leaf} (h:a7 ρ B a w lk x) (e:evL lk x=some c):c.holds ρ B w (a.eval x):=sd h e
theorem lB {x:Operand} (ho:o.op= .move x∨o.op= .assign x) (h:(evA lk x).map (·,([]:List Nat))=some (c,rd)) (H:a7 ρ B a w lk x):dt p ρ B a w o c:=by
 cases e:evA lk x with
 | none=>rw[e]at h;cases h
 | some d=>
  rw[e]at h;simp at h;obtain⟨rfl,_⟩:=h
  refine⟨a.eval x,?_,mU H e⟩
  rcases ho with ho | ho<;>(unfold execOp;rw[ho];rfl)
theorem qf {k x y:Operand} (ho:o.op= .pick k x y) (h:bY p L lk (.pick k x y)=some (c,rd)) (Hk:a7 ρ B a w lk k) (Hx:a7 ρ B a w lk x) (Hy:a7 ρ B a w lk y):dt p ρ B a w o c:=by
 simp only[bY]at h
 split at h
 ·rename_i e0
  have e1:a.eval k= .bool true:=dG Hk e0
  cases e:evA lk x with
  | none=>rw[e]at h;cases h
  | some d=>
   rw[e]at h;simp at h;obtain⟨rfl,_⟩:=h
   exact⟨a.eval x,by unfold execOp;rw[ho];simp only[e1];rfl,mU Hx e⟩
 ·rename_i e0
  have e1:a.eval k= .bool false:=dG Hk e0
  cases e:evA lk y with
  | none=>rw[e]at h;cases h
  | some d=>
   rw[e]at h;simp at h;obtain⟨rfl,_⟩:=h
   exact⟨a.eval y,by unfold execOp;rw[ho];simp only[e1];rfl,mU Hy e⟩
 ·cases h
theorem mu {x:Operand} {k:Nat} (ho:o.op= .extract x k) (h:bY p L lk (.extract x k)=some (c,rd)) (H:a7 ρ B a w lk x):dt p ρ B a w o c:=by
 simp only[bY]at h
 split at h
 ·rename_i xs e
  obtain⟨vs,e1,e2⟩:=(mU H e:AV.holds ρ B w (.tup xs) (a.eval x))
  cases e3:xs[k]? with
  | none=>rw[e3]at h;cases h
  | some s=>
   rw[e3]at h;simp at h;obtain⟨rfl,_⟩:=h
   obtain⟨v,h1,h2⟩:=e2.get e3
   refine⟨v,?_,h2⟩
   unfold execOp;rw[ho]
   simp[e1,Instr.extract,h1,Sem.run_bind,Result.andThen]
 ·cases h
/-- A variable is read. -/
theorem oV {t:TypeId} {x:Operand} (h:bY p L lk (.load t x)=some (c,rd)) (H:a7 ρ B a w lk x) (H2:∀y∈rd,∀c,lk y=some c→bF ρ B a w y c):
  ∃ad u,a.eval x= .pointer (some ad)∧(loadVar t ad).run p w= .ok u w∧c.holds ρ B w u:=by
 simp only[bY]at h
 split at h
 ·rename_i v off e
  obtain⟨g,hg,e1⟩:=(dG H e:Leaf.holds ρ B w (.ptr v off) (a.eval x))
  refine⟨⟨g,off,none⟩,?_⟩
  split at h
  ·rename_i hagg
   split at h
   ·rename_i n hn
    split at h
    ·rename_i hle
     cases e3:fM lk v off n with
     | none=>rw[e3]at h;cases h
     | some ls=>
      rw[e3]at h;simp at h;obtain⟨rfl,rfl⟩:=h
      obtain⟨hlen,hrest⟩:=d9 (a:=a) e3 hle.1 H2
      obtain⟨g',cs,ty,f1,f2,vs,f3,f4⟩:=hrest hle.2
      rw[hg]at f1;injection f1 with f1;subst f1
      refine⟨.agg vs.toArray,e1,?_,vs,rfl,f3⟩
      have hl:vs.length=n:=by rw[f3.len,hlen]
      have:=fP (p:=p) (o:=off) f2 vs 0 #[] (fun k u hu=>by rw[Nat.zero_add];exact f4 k u hu)
      rw[hl]at this
      simp[loadVar,loadCells,Sem.run_bind,fN hagg,cg hn,this,Result.andThen]
    ·cases h
   ·cases h
  ·rename_i hagg
   split at h
   ·rename_i hle
    split at h
    ·rename_i l e3
     simp at h;obtain⟨rfl,rfl⟩:=h
     obtain⟨hlen,hrest⟩:=d9 (a:=a) e3 hle H2
     obtain⟨g',cs,ty,f1,f2,vs,f3,f4⟩:=hrest (by decide)
     rw[hg]at f1;injection f1 with f1;subst f1
     obtain⟨u,rfl,hu⟩:=f3.one
     refine⟨u,e1,?_,hu⟩
     have:=gS (p:=p) (ad:=⟨g,off,none⟩) (v:=u) (by rw[gT f2];exact f4 0 u rfl)
     simp[loadVar,Sem.run_bind,fN hagg,this,Result.andThen]
    ·cases h
   ·cases h
  ·cases h
 ·cases h
theorem qg {t:TypeId} {x:Operand} (ho:o.op= .load t x) (h:bY p L lk (.load t x)=some (c,rd)) (H:a7 ρ B a w lk x) (H2:∀y∈rd,∀c,lk y=some c→bF ρ B a w y c):dt p ρ B a w o c:=by
 obtain⟨ad,u,e1,e2,e3⟩:=oV h H H2
 refine⟨u,?_,e3⟩
 unfold execOp;rw[ho]
 simp[e1,Instr.loadAt,Instr.sureAddr,Sem.run_bind,e2,Result.andThen]
theorem kE {t:TypeId} {x:Operand} {f:Nat} (ho:o.op= .fieldAddr t x f) (h:bY p L lk (.fieldAddr t x f)=some (c,rd)) (H:a7 ρ B a w lk x):dt p ρ B a w o c:=by
 simp only[bY]at h
 split at h
 ·rename_i v off fs e hu
  obtain⟨g,hg,e1⟩:=(dG H e:Leaf.holds ρ B w (.ptr v off) (a.eval x))
  split at h
  ·rename_i fd hf
   split at h
   ·rename_i n hn
    simp at h;obtain⟨rfl,rfl⟩:=h
    refine⟨_,?_,g,hg,rfl⟩
    unfold execOp;rw[ho]
    simp[e1,Instr.fieldAt,Instr.sureAddr,fieldPlace,Sem.run_bind,run_underlying hu,hf,cg hn,Result.andThen,fO]
   ·cases h
  ·cases h
 ·cases h
theorem lC {l:Leaf} {i:Nat} {v:Value} (h:wj l=some i) (hl:l.holds ρ B w v):∃k,v= .int k (i:Int):=by
 unfold wj at h
 split at h
 ·rename_i k n
  split at h
  ·rename_i hn
   simp at h;subst h
   exact⟨k,by rw[show v= .int k n from hl,Int.toNat_of_nonneg hn]⟩
  ·cases h
 ·cases h
theorem kF {t:TypeId} {x ix:Operand} (ho:o.op= .indexAddr t x ix) (h:bY p L lk (.indexAddr t x ix)=some (c,rd)) (H:a7 ρ B a w lk x) (Hi:a7 ρ B a w lk ix):dt p ρ B a w o c:=by
 simp only[bY]at h
 split at h
 ·rename_i v off len e l h1 hu h3
  obtain⟨g,hg,e1⟩:=(dG H h1:Leaf.holds ρ B w (.ptr v off) (a.eval x))
  split at h
  ·rename_i i n hi hn
   obtain⟨k,e2⟩:=lC hi (dG Hi h3)
   split at h
   ·rename_i hlt
    simp at h;obtain⟨rfl,rfl⟩:=h
    refine⟨_,?_,g,hg,rfl⟩
    unfold execOp;rw[ho]
    simp[e1,e2,Instr.indexAt,Instr.sureAddr,asIntOf,Sem.run_bind,run_underlying hu,cg hn,Result.andThen,fO,hlt]
   ·cases h
  ·cases h
 ·cases h
theorem lD {t:TypeId} {ls:List Leaf} {off:Nat} {s:SV} {cs:Array Value} (h:mP p t ls off=some s) (hc:ap ρ B w ls cs.toList):∃v,(part t cs off).run p w= .ok v w∧s.holds ρ B w v:=by
 unfold mP at h
 split at h
 ·rename_i hagg
  split at h
  ·rename_i n hn
   split at h
   ·rename_i hle
    simp at h;subst h
    refine⟨.agg (cs.extract off (off+n)),by unfold part;rw[Sem.run_bind,fN hagg];simp only[Result.andThen,if_true,Sem.run_bind,cg hn,Sem.run_pure],(cs.extract off (off+n)).toList,by rw[Array.toArray_toList],?_⟩
    have hlen:=hc.len
    refine ap.mk ?_ (fun k l v hk hv=> ?_)
    ·simp only[Array.length_toList,Array.size_extract,List.length_take,List.length_drop]at hlen⊢;omega
    ·have hkn:k<n:=by
      rw[List.getElem?_take]at hk
      by_cases h:k<n
      ·exact h
      ·rw[if_neg h]at hk;cases hk
     rw[List.getElem?_take,if_pos hkn,List.getElem?_drop]at hk
     obtain⟨u,h1,h2⟩:=hc.get hk
     have:v=u:=by
      have hv':(cs.extract off (off+n))[k]? =some v:=by rw[←Array.getElem?_toList];exact hv
      rw[Array.getElem?_extract]at hv'
      simp only[Array.getElem?_toList]at h1
      split at hv'
      ·rw[h1]at hv';injection hv' with e;exact e.symm
      ·cases hv'
     rw[this];exact h2
   ·cases h
  ·cases h
 ·rename_i hagg
  cases hl:ls[off]? with
  | none=>rw[hl]at h;cases h
  | some l=>
   rw[hl]at h;simp at h;subst h
   obtain⟨u,h1,h2⟩:=hc.get hl
   refine⟨u,?_,h2⟩
   simp only[Array.getElem?_toList]at h1
   simp[part,Sem.run_bind,fN hagg,Result.andThen,h1]
 ·cases h
theorem oW {t:TypeId} {x:Operand} {f:Nat} (ho:o.op= .field t x f) (h:bY p L lk (.field t x f)=some (c,rd)) (H:a7 ρ B a w lk x):dt p ρ B a w o c:=by
 simp only[bY]at h
 split at h
 ·rename_i ls fs h1 hu
  obtain⟨vs,e1,e2⟩:=(dF H h1:SV.holds ρ B w (.agg ls) (a.eval x))
  split at h
  ·rename_i fd hf
   cases hp:mP p fd.type ls fd.offset with
   | none=>rw[hp]at h;cases h
   | some s=>
    rw[hp]at h;simp at h;obtain⟨rfl,rfl⟩:=h
    obtain⟨v,h2,h3⟩:=lD (cs:=vs.toArray) hp (by simpa using e2)
    refine⟨v,?_,h3⟩
    unfold execOp;rw[ho]
    simp[e1,Instr.field,asAgg,Sem.run_bind,run_underlying hu,hf,h2,Result.andThen]
  ·cases h
 ·cases h
theorem oX {t:TypeId} {x ix:Operand} (ho:o.op= .index t x ix) (h:bY p L lk (.index t x ix)=some (c,rd)) (H:a7 ρ B a w lk x) (Hi:a7 ρ B a w lk ix):dt p ρ B a w o c:=by
 simp only[bY]at h
 split at h
 ·rename_i ls len e l h1 hu h3
  obtain⟨vs,e1,e2⟩:=(dF H h1:SV.holds ρ B w (.agg ls) (a.eval x))
  split at h
  ·rename_i i n hi hn
   obtain⟨k,e3⟩:=lC hi (dG Hi h3)
   split at h
   ·rename_i hlt
    cases hp:mP p e ls (i*n)with
    | none=>rw[hp]at h;cases h
    | some s=>
     rw[hp]at h;simp at h;obtain⟨rfl,rfl⟩:=h
     obtain⟨v,h4,h5⟩:=lD (cs:=vs.toArray) hp (by simpa using e2)
     refine⟨v,?_,h5⟩
     unfold execOp;rw[ho]
     simp[e1,e3,Instr.index,asIntOf,Sem.run_bind,run_underlying hu,cg hn,h4,Result.andThen,hlt]
   ·cases h
  ·cases h
 ·cases h
end
end Go.Proofs.YtfhinmdhjlmikaaDoor
namespace Go.Proofs.YtfhinmdhjlmikaaDoor
set_option linter.unusedSimpArgs false
set_option linter.unusedVariables false
set_option maxRecDepth 100000
open Go.RowKit
section
variable {p:Program} {ρ:Rho} {B:Blk} {a:Act} {w:World} {L:List OIns} {lk:Nat→Option AV} {c:AV} {rd:List Nat} {o:Oper}
theorem iT {α β:Type} (f:α→Sem β) (g:α→β):∀(xs:List α),(∀x∈xs,(f x).run p w= .ok (g x) w)→(xs.mapM f).run p w= .ok (xs.map g) w
 | [],_=>by simp
 | x::xs,h=>by
  have ih:=iT f g xs (fun y hy=>h y (List.mem_cons_of_mem _ hy))
  simp only[List.mapM_cons,Sem.run_bind,h x (by simp),Result.andThen,ih,Sem.run_pure,List.map_cons]
theorem oY {α β:Type} (f:α→Sem β) (g:α→β) (xs:Array α) (h:∀x∈xs.toList,(f x).run p w= .ok (g x) w):(xs.mapM f).run p w= .ok (xs.map g) w:=by
 obtain⟨l⟩:=xs
 have:=iT f g l (by simpa using h)
 simp only[List.mapM_toArray,map_eq_pure_bind,Sem.run_bind,this,Result.andThen,Sem.run_pure,List.map_toArray]
theorem fc:∀ {ps:List (Nat×Operand)} {ss:List (Nat×SV)},iS lk ps=some ss→(∀x∈ps,a7 ρ B a w lk x.2)→
  (ps.map (fun x=>(x.1,a.eval x.2))).map (·.1)=ss.map (·.1)∧ct ρ B w (ss.map (·.2)) ((ps.map (fun x=>(x.1,a.eval x.2))).map (·.2))
 | [],ss,h,_=>by simp[iS]at h;subst h;exact⟨rfl,trivial⟩
 | (i,x)::r,ss,h,H=>by
  simp only[iS]at h
  split at h
  ·rename_i s l h1 h2
   simp at h;subst h
   obtain⟨e1,e2⟩:=fc h2 (fun y hy=>H y (List.mem_cons_of_mem _ hy))
   exact⟨by simpa using e1,dF (H (i,x) (by simp)) h1,e2⟩
  ·cases h
theorem eO {t:TypeId} {z:List Leaf} (h:oT p t=some z):∃v,(zeroValue t).run p w= .ok v w∧ap ρ B w z v.cells.toList:=by
 unfold oT at h
 split at h
 ·rename_i v hv
  exact⟨v,se hv,fb h⟩
 ·cases h
theorem oZ {t:TypeId} {ps:Array (Nat×Operand)} (ho:o.op= .build t ps) (h:bY p L lk (.build t ps)=some (c,rd)) (H:∀x∈ps.toList,a7 ρ B a w lk x.2):dt p ρ B a w o c:=by
 simp only[bY]at h
 split at h
 ·rename_i z ss fs h1 h2 hu
  obtain⟨zv,hz,hz2⟩:=eO (ρ:=ρ) (B:=B) (w:=w) h1
  obtain⟨e1,e2⟩:=fc h2 H
  split at h
  ·rename_i hall
   cases hf:iR (nP p fs) z ss with
   | none=>rw[hf]at h;cases h
   | some ls=>
    rw[hf]at h;simp at h;obtain⟨rfl,rfl⟩:=h
    let g:Field→Nat×Nat:=fun f=>(f.offset,(szB p f.type).getD 0)
    have hm:(fs.mapM (fun f=>do pure (f.offset,←sizeOf f.type):Field→Sem (Nat×Nat))).run p w= .ok (fs.map g) w:=by
     refine oY _ g fs (fun f hf=> ?_)
     have h3:(szB p f.type).isSome=true:=by
      have:=Array.all_eq_true.1 hall
      obtain⟨i,hi,rfl⟩:=List.getElem_of_mem hf
      simp only[Array.getElem_toList]
      exact this i (by simpa using hi)
     cases hs:szB p f.type with
     | none=>rw[hs]at h3;cases h3
     | some n=>simp only[Sem.run_bind,cg hs,Result.andThen,Sem.run_pure];show _=Result.ok (f.offset,(szB p f.type).getD 0) w;rw[hs];rfl
    have hpl:nP p fs=fun i=>(fs.map g)[i]? :=by
     funext i
     unfold nP
     rw[Array.getElem?_map]
     cases hi:fs[i]? with
     | none=>rfl
     | some f=>
      have h3:(szB p f.type).isSome=true:=by
       have:=Array.all_eq_true.1 hall
       obtain⟨_,rfl⟩:=Array.getElem?_eq_some_iff.1 hi
       exact this i (Array.getElem?_eq_some_iff.1 hi).1
      cases hs:szB p f.type with
      | none=>rw[hs]at h3;cases h3
      | some n=>show Option.map _ (szB p f.type)=some (f.offset,(szB p f.type).getD 0);rw[hs];rfl
    rw[hpl]at hf
    obtain⟨out,h4,h5⟩:=fQ hf e1 e2 hz2
    refine⟨.agg out,?_,out.toList,by rw[Array.toArray_toList],h5⟩
    have e3:(ps.map (fun x=>(x.1,a.eval x.2))).toList=ps.toList.map (fun x=>(x.1,a.eval x.2)):=by simp
    unfold execOp;rw[ho]
    simp only[Instr.build,Sem.run_bind,hz,run_underlying hu,Result.andThen,hm,e3,h4,Sem.run_pure]
  ·cases h
 ·rename_i z ss len e h1 h2 hu
  obtain⟨zv,hz,hz2⟩:=eO (ρ:=ρ) (B:=B) (w:=w) h1
  obtain⟨e1,e2⟩:=fc h2 H
  split at h
  ·rename_i n hn
   cases hf:iR (fun i=>some (i*n,n)) z ss with
   | none=>rw[hf]at h;cases h
   | some ls=>
    rw[hf]at h;simp at h;obtain⟨rfl,rfl⟩:=h
    obtain⟨out,h4,h5⟩:=fQ hf e1 e2 hz2
    refine⟨.agg out,?_,out.toList,by rw[Array.toArray_toList],h5⟩
    have e3:(ps.map (fun x=>(x.1,a.eval x.2))).toList=ps.toList.map (fun x=>(x.1,a.eval x.2)):=by simp
    unfold execOp;rw[ho]
    simp only[Instr.build,Sem.run_bind,hz,run_underlying hu,Result.andThen,cg hn,e3,h4,Sem.run_pure]
  ·cases h
 ·cases h
theorem qh {op:BinOp} {x y l:Leaf} {vx vy:Value} {t:TypeId} {xo yo:Operand} (h:qd (eN p t) op x y=some l) (hx:x.holds ρ B w vx) (hy:y.holds ρ B w vy):
  ∃v,l.holds ρ B w v∧((do eqGuard op t xo yo vx vy;binOp op t vx vy:Sem Value)).run p w= .ok v w:=by
 unfold qd at h
 split at h
 ·rename_i b1 b2
  have e1:vx= .bool b1:=hx
  have e2:vy= .bool b2:=hy
  subst e1;subst e2
  split at h
  ·rename_i hb
   have hu:p.underlying t=some .bool:=by
    unfold eN at hb
    split at hb
    ·assumption
    ·cases hb
   have he:(Op.equal t (.bool b1) (.bool b2)).run p w= .ok (b1==b2) w:=by
    unfold Op.equal Op.maxDepth Op.equalIn
    rw[Sem.run_bind,run_underlying hu];rfl
   cases op<;>simp only[Option.some.injEq,reduceCtorEq]at h<;>(subst h;refine⟨_,rfl,?_⟩;simp[eqGuard,binOp,Sem.run_bind,he,Result.andThen])
  ·cases h
 ·rename_i k1 n1 k2 n2
  have e1:vx= .int k1 n1:=hx
  have e2:vy= .int k2 n2:=hy
  subst e1;subst e2
  split at h
  ·rename_i hk;subst hk
   cases op<;>simp only[Option.some.injEq,reduceCtorEq]at h<;>(subst h;refine⟨_,rfl,?_⟩;simp[eqGuard,binOp,Op.intCmp,Op.intArith,Sem.run_bind,Result.andThen])<;>rfl
  ·cases h
 ·cases h
theorem dT (hO:∀i∈L,i.Ok p ρ) {k:Key} {xs:List SV} {s:SV} (h:cf L k xs=some s):(OIns.mk k xs s).Ok p ρ:=by
 unfold cf at h
 split at h
 ·rename_i i hi
  simp at h;subst h
  have h1:=List.find?_some hi
  simp only[Bool.and_eq_true,decide_eq_true_eq]at h1
  have:=hO i (List.mem_of_find?_eq_some hi)
  obtain⟨k',xs',r'⟩:=i
  obtain⟨rfl,rfl⟩:=h1
  exact this
 ·cases h
theorem sf (hO:∀i∈L,i.Ok p ρ) {op:BinOp} {t ty:TypeId} {x y:Operand} (ho:o.op= .binOp op t x y ty) (h:bY p L lk (.binOp op t x y ty)=some (c,rd)) (Hx:a7 ρ B a w lk x) (Hy:a7 ρ B a w lk y):dt p ρ B a w o c:=by
 have fin:∀v,((do eqGuard op t x y (a.eval x) (a.eval y);binOp op t (a.eval x) (a.eval y):Sem Value)).run p w= .ok v w→(execOp a.eval o).run p w= .ok (.value v) w:=by
  intro v hv
  unfold execOp;rw[ho]
  simp only
  rw[Sem.run_bind,hv];rfl
 simp only[bY]at h
 have orac:∀(s1 s2:SV),s1.holds ρ B w (a.eval x)→s2.holds ρ B w (a.eval y)→(cf L (.bin op t) [s1,s2]).map (fun s=>(AV.v s,([]:List Nat)))=some (c,rd)→dt p ρ B a w o c:=by
  intro s1 s2 hs1 hs2 hf
  cases e:cf L (.bin op t) [s1,s2]with
  | none=>rw[e]at hf;cases hf
  | some s=>
   rw[e]at hf;simp at hf;obtain⟨rfl,_⟩:=hf
   obtain⟨v,h1,h2⟩:=(dT hO e) B w [a.eval x,a.eval y] ⟨hs1,hs2,trivial⟩
   exact⟨v,fin v (h2 x y),h1⟩
 split at h
 ·rename_i s1 s2 e1 e2
  split at h
  ·rename_i l hl
   simp at h;obtain⟨rfl,_⟩:=h
   obtain⟨v,h1,h2⟩:=qh (xo:=x) (yo:=y) hl (dF Hx e1) (dF Hy e2)
   exact⟨v,fin v h2,h1⟩
  ·exact orac _ _ (dF Hx e1) (dF Hy e2) h
 ·rename_i s1 s2 _ e1 e2
  exact orac _ _ (dF Hx e1) (dF Hy e2) h
 ·cases h
theorem tP (hO:∀i∈L,i.Ok p ρ) {op:UnOp} {t:TypeId} {x:Operand} (ho:o.op= .unOp op t x) (h:bY p L lk (.unOp op t x)=some (c,rd)) (Hx:a7 ρ B a w lk x):dt p ρ B a w o c:=by
 have fin:∀v,(Op.unary op (a.eval x)).run p w= .ok v w→(execOp a.eval o).run p w= .ok (.value v) w:=by
  intro v hv
  unfold execOp;rw[ho]
  simp only
  rw[Sem.run_bind,hv];rfl
 have orac:∀(s1:SV),s1.holds ρ B w (a.eval x)→(cf L (.un op) [s1]).map (fun s=>(AV.v s,([]:List Nat)))=some (c,rd)→dt p ρ B a w o c:=by
  intro s1 hs1 hf
  cases e:cf L (.un op) [s1]with
  | none=>rw[e]at hf;cases hf
  | some s=>
   rw[e]at hf;simp at hf;obtain⟨rfl,_⟩:=hf
   obtain⟨v,h1,h2⟩:=(dT hO e) B w [a.eval x] ⟨hs1,trivial⟩
   exact⟨v,fin v h2,h1⟩
 cases op with
 | not=>
  simp only[bY]at h
  split at h
  ·rename_i b e
   simp at h;obtain⟨rfl,_⟩:=h
   have e1:a.eval x= .bool b:=dG Hx e
   exact⟨_,fin (.bool (!b)) (by rw[e1];rfl),rfl⟩
  ·rename_i l _ e
   exact orac (.one l) (dG Hx e) h
  ·cases h
 | _=>
  simp only[bY]at h
  split at h
  ·rename_i s e
   exact orac _ (dF Hx e) h
  ·cases h
theorem qi (hO:∀i∈L,i.Ok p ρ) {s d:TypeId} {x:Operand} (ho:o.op= .convert s d x) (h:bY p L lk (.convert s d x)=some (c,rd)) (Hx:a7 ρ B a w lk x):dt p ρ B a w o c:=by
 have fin:∀v,(convert s d (a.eval x)).run p w= .ok v w→(execOp a.eval o).run p w= .ok (.value v) w:=by
  intro v hv
  unfold execOp;rw[ho]
  simp only
  rw[Sem.run_bind,hv];rfl
 have orac:∀(s1:SV),s1.holds ρ B w (a.eval x)→(cf L (.conv s d) [s1]).map (fun s=>(AV.v s,([]:List Nat)))=some (c,rd)→dt p ρ B a w o c:=by
  intro s1 hs1 hf
  cases e:cf L (.conv s d) [s1]with
  | none=>rw[e]at hf;cases hf
  | some s=>
   rw[e]at hf;simp at hf;obtain⟨rfl,_⟩:=hf
   obtain⟨v,h1,h2⟩:=(dT hO e) B w [a.eval x] ⟨hs1,trivial⟩
   exact⟨v,fin v h2,h1⟩
 simp only[bY]at h
 split at h
 ·rename_i k0 n k1 k e1 e2 e3
  simp at h;obtain⟨rfl,_⟩:=h
  have e4:a.eval x= .int k0 n:=dG Hx e1
  refine⟨_,fin (.int k (k.wrap n)) ?_,rfl⟩
  rw[e4];unfold convert
  rw[Sem.run_bind,run_underlying e2]
  simp only[Result.andThen]
  rw[Sem.run_bind,run_underlying e3];rfl
 ·rename_i l _ e
  exact orac (.one l) (dG Hx (by assumption)) h
 ·split at h
  ·rename_i s1 e
   exact orac _ (dF Hx e) h
  ·cases h
theorem si (hO:∀i∈L,i.Ok p ρ) {k:Call} (ho:o.op= .call k) (h:bY p L lk (.call k)=some (c,rd)) (H:∀x∈k.args.toList,a7 ρ B a w lk x):dt p ρ B a w o c:=by
 obtain⟨cal,args,tt⟩:=k
 simp only[bY]at h
 split at h
 ·rename_i x t e2 ht
  split at h
  ·rename_i s e
   cases e3:cf L (.len t) [s]with
   | none=>rw[e3]at h;cases h
   | some r=>
    rw[e3]at h;simp at h;obtain⟨rfl,_⟩:=h
    obtain⟨v,h1,h2⟩:=(dT hO e3) B w [a.eval x] ⟨dF (H x (by simp[e2])) e,trivial⟩
    refine⟨v,?_,h1⟩
    have ea:args=#[x]:=by
     obtain⟨l⟩:=args
     simp only at e2
     subst e2;rfl
    subst ea
    unfold execOp;rw[ho]
    simp only[resolve,Sem.run_bind,Sem.run_pure,Result.andThen,invoke,builtin]
    have:=h2 tt o.type ht
    simp only[List.map_toArray,List.map_cons,List.map_nil]
    rw[this]
  ·cases h
 ·rename_i x y _ e2 ht
  split at h
  ·rename_i s s' e e'
   cases e3:cf L .max [s,s']with
   | none=>rw[e3]at h;cases h
   | some r=>
    rw[e3]at h;simp at h;obtain⟨rfl,_⟩:=h
    obtain⟨v,h1,h2⟩:=(dT hO e3) B w [a.eval x,a.eval y] ⟨dF (H x (by simp[e2])) e,dF (H y (by simp[e2])) e',trivial⟩
    refine⟨v,?_,h1⟩
    have ea:args=#[x,y]:=by
     obtain⟨l⟩:=args
     simp only at e2
     subst e2;rfl
    subst ea
    unfold execOp;rw[ho]
    simp only[resolve,Sem.run_bind,Sem.run_pure,Result.andThen,invoke,builtin]
    have:=h2 tt o.type
    simp only[List.map_toArray,List.map_cons,List.map_nil]
    rw[this]
  ·cases h
 ·cases h
theorem sj (hO:∀i∈L,i.Ok p ρ) (h:bY p L lk o.op=some (c,rd)) (H:∀x∈o.op.operands.toList,a7 ρ B a w lk x) (H2:∀y∈rd,∀c,lk y=some c→bF ρ B a w y c):dt p ρ B a w o c:=by
 obtain⟨op,ho⟩:∃op,o.op=op:=⟨_,rfl⟩
 rw[ho]at h H
 cases op with
 | move x=>exact lB (.inl ho) h (H x (by simp[Op.operands]))
 | assign x=>exact lB (.inr ho) h (H x (by simp[Op.operands]))
 | pick k x y=>exact qf ho h (H k (by simp[Op.operands])) (H x (by simp[Op.operands])) (H y (by simp[Op.operands]))
 | extract x k=>exact mu ho h (H x (by simp[Op.operands]))
 | load t x=>exact qg ho h (H x (by simp[Op.operands])) H2
 | fieldAddr t x f=>exact kE ho h (H x (by simp[Op.operands]))
 | indexAddr t x ix=>exact kF ho h (H x (by simp[Op.operands])) (H ix (by simp[Op.operands]))
 | build t ps=>exact oZ ho h (fun x hx=>H x.2 (by simp only[Op.operands,List.mem_map];exact⟨x,hx,rfl⟩))
 | field t x f=>exact oW ho h (H x (by simp[Op.operands]))
 | index t x ix=>exact oX ho h (H x (by simp[Op.operands])) (H ix (by simp[Op.operands]))
 | binOp op t x y ty=>exact sf hO ho h (H x (by simp[Op.operands])) (H y (by simp[Op.operands]))
 | unOp op t x=>exact tP hO ho h (H x (by simp[Op.operands]))
 | convert s d x=>exact qi hO ho h (H x (by simp[Op.operands]))
 | call k=>exact si hO ho h (fun x hx=>H x (by simp only[Op.operands,Call.operands,Array.toList_append,List.mem_append];exact .inr hx))
 | _=>simp[bY]at h
theorem en:∀ {xs:List Operand} {ss:List SV},kD lk xs=some ss→(∀x∈xs,a7 ρ B a w lk x)→ct ρ B w ss (xs.map a.eval)
 | [],ss,h,_=>by simp[kD]at h;subst h;trivial
 | x::xs,ss,h,H=>by
  simp only[kD]at h
  split at h
  ·rename_i s l h1 h2
   simp at h;subst h
   exact⟨dF (H x (by simp)) h1,en h2 (fun y hy=>H y (List.mem_cons_of_mem _ hy))⟩
  ·cases h
theorem sk (hO:∀i∈L,i.Ok p ρ) {k:Key} {xs:List Operand} {ss:List SV} {s:SV} (hg:tO o.op=some (k,xs)) (hs:kD lk xs=some ss) (hf:cf L k ss=some s) (H:∀x∈xs,a7 ρ B a w lk x):dt p ρ B a w o (.v s):=by
 have hv:=en hs H
 have hk:=(dT hO hf) B w _ hv
 obtain⟨op,ho⟩:∃op,o.op=op:=⟨_,rfl⟩
 rw[ho]at hg
 unfold tO at hg
 split at hg<;>first | (cases hg;done) | skip
 all_goals
  simp only[Option.some.injEq,Prod.mk.injEq]at hg
  obtain⟨rfl,rfl⟩:=hg
  obtain⟨v,h1,h2⟩:=hk
  refine⟨v,?_,h1⟩
  unfold execOp
  rw[ho]
  simp only[Option.map_some,Option.map_none]
  rw[Sem.run_bind]
  first | rw[h2] | skip
  rfl
theorem tQ {op:Op} {k:Key} {xs:List Operand} (hg:tO op=some (k,xs)):∀x∈xs,x∈op.operands.toList:=by
 unfold tO at hg
 split at hg<;>first | (cases hg;done) | skip
 all_goals
  simp only[Option.some.injEq,Prod.mk.injEq]at hg
  obtain⟨rfl,rfl⟩:=hg
  simp[Op.operands]
theorem sn (hO:∀i∈L,i.Ok p ρ) (h:mQ p L lk o.op=some (c,rd)) (H:∀x∈o.op.operands.toList,a7 ρ B a w lk x) (H2:∀y∈rd,∀c,lk y=some c→bF ρ B a w y c):dt p ρ B a w o c:=by
 unfold mQ at h
 split at h
 ·rename_i r hr
  simp only[Option.some.injEq]at h
  subst h
  exact sj hO hr H H2
 ·split at h
  ·rename_i c' hn
   simp only[Option.some.injEq,Prod.mk.injEq]at h
   obtain⟨rfl,rfl⟩:=h
   obtain⟨op,ho⟩:∃op,o.op=op:=⟨_,rfl⟩
   rw[ho]at hn H
   unfold nilO at hn
   split at hn
   ·rename_i x
    split at hn
    ·rename_i v off e
     simp only[Option.some.injEq]at hn
     subst hn
     obtain⟨g,hg,e1⟩:=(dG (H x (by simp[Op.operands])) e:Leaf.holds ρ B w (.ptr v off) (a.eval x))
     refine⟨_,?_,g,hg,rfl⟩
     unfold execOp
     rw[ho]
     simp only[e1]
     rfl
    ·cases hn
   ·cases hn
  ·split at h
   ·rename_i k xs hg
    split at h
    ·rename_i ss hs
     cases hf:cf L k ss with
     | none=>rw[hf]at h;cases h
     | some s=>
      rw[hf]at h
      simp only[Option.map_some,Option.some.injEq,Prod.mk.injEq]at h
      obtain⟨rfl,rfl⟩:=h
      exact sk hO hg hs hf (fun x hx=>H x (tQ hg x hx))
    ·cases h
   ·cases h
end
end Go.Proofs.YtfhinmdhjlmikaaDoor
