/- An executor: a region as a whole. An executor: operations that make a value and leave memory alone. An executor: operations that make a value do what is said of them. An executor: operations that make a value, one by one. An executor: wholes, operators, all operations that make a value. An executor: the effect of an operation. -/
import Derived.Test.YtggfmklppkioeaaGreatP04
import Derived.Laws.Sem
namespace Go.Proofs.YtggfmklppkioeaaGreat
set_option linter.unusedSimpArgs false
set_option linter.unusedVariables false
set_option maxRecDepth 100000
open Go.RowKit
section
variable {P:Program} {ρ:Rho} {vt:List (TypeId×Nat)} {w0:Ent} {nt:Nat} {ops:Array Oper} {Q:Exit→Act→World→Prop} {b:Nat→Option AV} {md:Region.Mode}
def StF (ρ:Rho) (vt:List (TypeId×Nat)) (w0:Ent) (nt:Nat) (lk:Nat→Option AV) (nb:Nat) (r:dN) (a:Act) (w:World):Prop:=
 ∃B,Inv vt w0 nt B a w∧(∀x c,lk x=some c→bu ρ B a w x c)∧(∀v,B.v v≠none→v<nb∨∃p∈r,p.2.al=some v)
theorem StT.done {nb:Nat} {r:dN} {T:List Nat} {a:Act} {w:World} (h:StT ρ vt w0 nt b nb r T a w) (hT:∀p∈r,p.1∈T):StF ρ vt w0 nt (lkE b r) nb r a w:=by
 obtain⟨B,h1,h2,h3⟩:=h;rw[valT_all T r hT]at h2;exact⟨B,h1,h2,fun v hv=>(h3 v hv).imp id (fun⟨p,h,_,e⟩=>⟨p,h,e⟩)⟩
theorem valT_nil (r:dN):dF b [] r=b:=by
 induction r with
 | nil=>rfl
 | cons p r ih=>funext x;obtain⟨i,e⟩:=p;simp[dF,ih]
theorem StT.start {nb:Nat} {r:dN} {a:Act} {w:World} {B:Blk} (h1:Inv vt w0 nt B a w) (h2:∀x c,b x=some c→bu ρ B a w x c) (h3:∀v,B.v v≠none→v<nb):StT ρ vt w0 nt b nb r [] a w:=
 ⟨B,h1,by rw[valT_nil];exact h2,fun v hv=>.inl (h3 v hv)⟩
theorem zg {nb:Nat} {r:dN} (hg:oe P ρ vt w0 nt md ops Q b nb r) (hlen:r.length=ops.size) (hdown:∀j,j<ops.size→∀k∈cf md ops j,k<j) {a:Act} {w:World}
  (h:StT ρ vt w0 nt b nb r [] a w) (hQ:∀a' w',StF ρ vt w0 nt (lkE b r) nb r a' w'→Q .normal a' w'):wpAny P md ops Q ops.size (Array.replicate ops.size false) a w:=by
 have main:∀(z:Nat) (T:List Nat) (a':Act) (w':World),T.Nodup→(∀i∈T,i<ops.size)→T.length+z=ops.size→vP md ops T→StT ρ vt w0 nt b nb r T a' w'→
   wpAny P md ops Q z (ba T (Array.replicate ops.size false)) a' w':=by
  intro z
  induction z with
  | zero=>
   intro T a' w' hTn hT hl hcl hS;have hall:∀i,i<ops.size→i∈T:=by
    intro i hi;apply Classical.byContradiction;intro hni;have h1:(i::T).length≤(List.range ops.size).length:=rT (List.nodup_cons.2 ⟨hni,hTn⟩) (fun k hk=>by
     rcases List.mem_cons.1 hk with rfl | hk
     ·exact List.mem_range.2 hi
     ·exact List.mem_range.2 (hT k hk))
    simp at h1;omega
   refine⟨?_,hQ _ _ (hS.done (fun p hp=>hall _ (by have:=hg.idx p hp;omega)))⟩;apply List.eq_nil_iff_forall_not_mem.2;intro j hj;obtain⟨hjs,hj0,_⟩:=ij hj;rw[bb]at hj0;simp[hall j hjs,hjs]at hj0
  | succ z ih=>
   intro T a' w' hTn hT hl hcl hS;have hready:∀j∈Region.ready md ops (ba T (Array.replicate ops.size false)),j<ops.size∧j∉T∧∀k∈cf md ops j,k∈T:=by
    intro j hj;obtain⟨hjs,hj0,hjp⟩:=ij hj;have hjT:j∉T:=by
     intro h;rw[bb]at hj0;simp[h,hjs]at hj0
    refine⟨hjs,hjT,fun k hk=> ?_⟩;have h1:=hjp k hk;rw[bb]at h1;apply Classical.byContradiction;intro hkT;have hkD:k<ops.size:=by have:=hdown j hjs k hk;omega
    simp[hkT,hkD]at h1
   have hex:∃i,i<ops.size∧i∉T:=by
    apply Classical.byContradiction;intro hno;have hall:∀i∈List.range ops.size,i∈T:=fun i hi=>Classical.byContradiction fun h=>hno ⟨i,List.mem_range.1 hi,h⟩
    have:=rT List.nodup_range hall;simp at this;omega
   have hsome:∃i∈Region.ready md ops (ba T (Array.replicate ops.size false)),True:=by
    have key:∀(m i:Nat),i≤m→i<ops.size→i∉T→∃i∈Region.ready md ops (ba T (Array.replicate ops.size false)),True:=by
     intro m
     induction m with
     | zero=>
      intro i him hi hiT;refine⟨i,kH (by omega) (by rw[bb];simp[hiT,hi]) (fun k hk=> ?_),trivial⟩;have:=hdown i (by omega) k hk;omega
     | succ m ihm=>
      intro i him hi hiT;by_cases hall:∀k∈cf md ops i,k∈T
      ·refine⟨i,kH (by omega) (by rw[bb];simp[hiT,hi]) (fun k hk=> ?_),trivial⟩;have hkD:=hT k (hall k hk);rw[bb];simp[hall k hk,hkD]
      ·simp only[Classical.not_forall]at hall;obtain⟨k,hk,hkT⟩:=hall;have hki:=hdown i (by omega) k hk;exact ihm k (by omega) (by omega) hkT
    obtain⟨i,hi,hiT⟩:=hex;exact key i i (Nat.le_refl _) hi hiT
   refine⟨fun h=> ?_,fun j hj=> ?_⟩
   ·obtain⟨i,hi,_⟩:=hsome;rw[h]at hi;cases hi
   ·obtain⟨hjD,hjT,hjp⟩:=hready j hj;refine tM hg (by omega) hcl hjT hjp hS (fun a'' w'' hS'=> ?_);have e:(ba T (Array.replicate ops.size false)).setIfInBounds j true=ba (T++ [j]) (Array.replicate ops.size false):=by unfold ba;rw[List.foldl_append];rfl
    rw[e];refine ih (T++ [j]) a'' w'' ?_ ?_ ?_ ?_ hS'
    ·exact List.nodup_append.2 ⟨hTn,by simp,by intro x hx y hy;simp at hy;subst hy;exact fun h=>hjT (h▸hx)⟩
    ·intro i hi;rcases List.mem_append.1 hi with h | h
     ·exact hT i h
     ·simp at h;rw[h];exact hjD
    ·simp;omega
    ·intro i hi k hk;rcases List.mem_append.1 hi with h | h
     ·exact List.mem_append.2 (.inl (hcl i h k hk))
     ·simp at h;subst h;exact List.mem_append.2 (.inl (hjp k hk))
 exact main ops.size [] a w (by simp) (by simp) (by simp) (fun j hj=>by cases hj) h
theorem vQ {nb:Nat} {r:dN} (hg:oe P ρ vt w0 nt md ops Q b nb r) (hlen:r.length=ops.size) (hdown:∀j,j<ops.size→∀k∈cf md ops j,k<j) {a:Act} {w:World}
  (h:StT ρ vt w0 nt b nb r [] a w) (hQ:∀a' w',StF ρ vt w0 nt (lkE b r) nb r a' w'→Q .normal a' w'):wpOps P ops Q (List.range ops.size) a w:=by
 have main:∀(z j:Nat) (a':Act) (w':World),j+z=ops.size→StT ρ vt w0 nt b nb r (List.range j) a' w'→wpOps P ops Q (List.range' j z) a' w':=by
  intro z
  induction z with
  | zero=>
   intro j a' w' hj hS;simp only[List.range'_zero,wpOps];exact hQ _ _ (hS.done (fun p hp=>by have:=hg.idx p hp;simp;omega))
  | succ z ih=>
   intro j a' w' hj hS;rw[List.range'_succ,wpOps_cons];refine tM (T:=List.range j) hg (by omega) (fun i hi k hk=> ?_) (by simp) (fun k hk=> ?_) hS (fun a'' w'' hS'=> ?_)
   ·have h1:=List.mem_range.1 hi;have:=hdown i (by omega) k hk;exact List.mem_range.2 (by omega)
   ·exact List.mem_range.2 (hdown j (by omega) k hk)
   ·rw[←List.range_succ]at hS';exact ih (j+1) a'' w'' (by omega) hS'
 have:=main ops.size 0 a w (by simp) (by simpa using h);rwa [←List.range_eq_range']at this
end
structure MutD where
 ks:List Nat
 pre:List (Nat×TypeId×List Leaf)
 us:List (Nat×TypeId×List Leaf)
 nv:Option (Nat×TypeId×List Leaf)
 keep:List (Nat×SV)
 xs:List SV
 deriving DecidableEq
def zh:List SV→AV
 | [x]=>.v x
 | xs=>.tup xs
inductive Key where
 | mut (f:FuncId) (d:MutD)
 | bin (op:BinOp) (t:TypeId)
 | un (op:UnOp)
 | conv (s d:TypeId)
 | len (t:TypeId)
 | idx (t:TypeId)
 | ia (t:TypeId)
 | fa (t:TypeId) (f:Nat)
 | ld (t:TypeId)
 | sl (t:TypeId) (lo hi:Bool)
 | bs (t:TypeId) (n:Nat) (ix:List Nat)
 | app (t:TypeId)
 | frz (r i:Nat)
 | max
 | nc
 | lku (t:TypeId)
 deriving DecidableEq
structure OIns where
 key:Key
 xs:List SV
 r:SV
def kL (v k:Nat):Nat:=(v+1)*100000+k
def aggD:TypeDesc→Bool
 | .struct _=>true
 | .array .. =>true
 | _=>false
def zi (p:Program) (t:TypeId):Option Bool:=(p.underlying t).map aggD
def szB (p:Program) (t:TypeId):Option Nat:=(p.info? t).map (·.size)
def evA (lk:Nat→Option AV):Operand→Option AV
 | .tmp t=>if t<100000 then lk t else none
 | .const v=>(svC v).map .v
 | .func f=>some (.v (.one (.fn f)))
 | .global _=>none
def evS (lk:Nat→Option AV) (x:Operand):Option SV:=match evA lk x with | some (.v s)=>some s | _=>none
def evL (lk:Nat→Option AV) (x:Operand):Option Leaf:=match evS lk x with | some (.one l)=>some l | _=>none
def rdO:Operand→List Nat
 | .tmp t=>[t]
 | _=>[]
def gI (lk:Nat→Option AV) (v:Nat):Nat→Nat→Option (List Leaf)
 | _,0=>some []
 | k,n+1=>match lk (kL v k)with
  | some (.v (.one l))=>(gI lk v (k+1) n).map (l:: ·)
  | _=>none
def kM (v k n:Nat):List Nat:=(List.range n).map fun j=>kL v (k+j)
def SV.leaves:SV→List Leaf
 | .one l=>[l]
 | .agg ls=>ls
def vR {α:Type} (ls:List α) (off:Nat):List α→List α
 | []=>ls
 | v::vs=>vR (ls.set off v) (off+1) vs
def kN (place:Nat→Option (Nat×Nat)) (ls:List Leaf):List (Nat×SV)→Option (List Leaf)
 | []=>some ls
 | (i,s)::rest=>match place i with
  | none=>none
  | some (off,size)=>if s.leaves.length=size∧off+s.leaves.length≤ls.length then kN place (vR ls off s.leaves) rest else none
def kO (lk:Nat→Option AV):List (Nat×Operand)→Option (List (Nat×SV))
 | []=>some []
 | (i,x)::r=>match evS lk x,kO lk r with
  | some s,some l=>some ((i,s)::l)
  | _,_=>none
def tN (p:Program) (t:TypeId):Option (List Leaf):=match (p.info? t).bind (·.zero)with | some z=>fG z.cells.toList | none=>none
def sa (p:Program) (fs:Array Field) (i:Nat):Option (Nat×Nat):=match fs[i]? with | some f=>(szB p f.type).map fun n=>(f.offset,n) | none=>none
def qJ (p:Program) (t:TypeId) (ls:List Leaf) (off:Nat):Option SV:=
 match zi p t with
 | some true=>match szB p t with
  | some n=>if off+n≤ls.length then some (.agg ((ls.drop off).take n))else none
  | none=>none
 | some false=>(ls[off]?).map .one
 | none=>none
def fH (p:Program) (t:TypeId):Bool:=match p.underlying t with | some .bool=>true | _=>false
def vS (bt:Bool) (op:BinOp) (x y:Leaf):Option Leaf:=
 match x,y with
 | .b a,.b c=>if bt then match op with | .eql=>some (.b (a==c)) | .neq=>some (.b (!(a==c))) | _=>none else none
 | .i k a,.i k' c=>if k=k' then match op with
   | .eql=>some (.b (decide (a=c))) | .neq=>some (.b (!decide (a=c))) | .lss=>some (.b (decide (a<c))) | .leq=>some (.b (decide (a≤c))) | .gtr=>some (.b (decide (c<a))) | .geq=>some (.b (decide (c≤a)))
   | .add=>some (.i k (k.wrap (a+c))) | .sub=>some (.i k (k.wrap (a - c))) | .mul=>some (.i k (k.wrap (a*c)))
   | _=>none else none
 | _,_=>none
def cw (L:List OIns) (k:Key) (xs:List SV):Option SV:=match L.find? (fun o=>decide (o.key=k) && decide (o.xs=xs))with | some o=>some o.r | none=>none
def idxI (x:Leaf):Option Nat:=match x with | .i _ n=>if 0≤n then some n.toNat else none | _=>none
def cd (p:Program) (L:List OIns) (lk:Nat→Option AV) (op:Op):Option (AV×List Nat):=
 match op with
 | .move x=>(evA lk x).map (·,[])
 | .assign x=>(evA lk x).map (·,[])
 | .pick c x y=>match evL lk c with
  | some (.b true)=>(evA lk x).map (·,[])
  | some (.b false)=>(evA lk y).map (·,[])
  | _=>none
 | .extract x k=>match evA lk x with
  | some (.tup xs)=>(xs[k]?).map fun s=>(.v s,[])
  | _=>none
 | .load t x=>match evL lk x with
  | some (.ptr v o)=>match zi p t with
   | some true=>match szB p t with
    | some n=>if o+n≤100000∧0<n then(gI lk v o n).map fun ls=>(.v (.agg ls),kM v o n)else none
    | none=>none
   | some false=>if o+1≤100000 then match gI lk v o 1 with
    | some [l]=>some (.v (.one l),kM v o 1)
    | _=>none else none
   | none=>none
  | _=>none
 | .fieldAddr s x f=>match evL lk x,p.underlying s with
  | some (.ptr v o),some (.struct fs)=>match fs[f]? with
   | some fd=>match szB p fd.type with
    | some (_+1)=>some (.v (.one (.ptr v (o+fd.offset))),[])
    | _=>none
   | none=>none
  | _,_=>none
 | .indexAddr t x ix=>match evL lk x,p.underlying t,evL lk ix with
  | some (.ptr v o),some (.array len e),some l=>match idxI l,szB p e with
   | some i,some n=>if i<len then some (.v (.one (.ptr v (o+i*n))),[])else none
   | _,_=>none
  | _,_,_=>none
 | .build t parts=>match tN p t,kO lk parts.toList,p.underlying t with
  | some z,some ps,some (.struct fs)=>if fs.all (fun f=>(szB p f.type).isSome)then(kN (sa p fs) z ps).map fun ls=>(.v (.agg ls),[])else none
  | some z,some ps,some (.array _ e)=>match szB p e with
   | some n=>(kN (fun i=>some (i*n,n)) z ps).map fun ls=>(.v (.agg ls),[])
   | none=>none
  | _,_,_=>none
 | .field t x f=>match evS lk x,p.underlying t with
  | some (.agg ls),some (.struct fs)=>match fs[f]? with
   | some fd=>(qJ p fd.type ls fd.offset).map fun s=>(.v s,[])
   | none=>none
  | _,_=>none
 | .index t x ix=>match evS lk x,p.underlying t,evL lk ix with
  | some (.agg ls),some (.array len e),some l=>match idxI l,szB p e with
   | some i,some n=>if i<len then(qJ p e ls (i*n)).map fun s=>(.v s,[])else none
   | _,_=>none
  | _,_,_=>none
 | .binOp op t x y _=>match evS lk x,evS lk y with
  | some (.one a),some (.one c)=>match vS (fH p t) op a c with
   | some l=>some (.v (.one l),[])
   | none=>(cw L (.bin op t) [.one a,.one c]).map fun s=>(.v s,[])
  | some a,some c=>(cw L (.bin op t) [a,c]).map fun s=>(.v s,[])
  | _,_=>none
 | .unOp .not _ x=>match evL lk x with
  | some (.b c)=>some (.v (.one (.b (!c))),[])
  | some l=>(cw L (.un .not) [.one l]).map fun s=>(.v s,[])
  | none=>none
 | .unOp op _ x=>match evS lk x with
  | some s=>(cw L (.un op) [s]).map fun s=>(.v s,[])
  | none=>none
 | .convert s d x=>match evL lk x,p.underlying s,p.underlying d with
  | some (.i _ n),some (.int _),some (.int k)=>some (.v (.one (.i k (k.wrap n))),[])
  | some l,_,_=>(cw L (.conv s d) [.one l]).map fun s=>(.v s,[])
  | none,_,_=>(match evS lk x with | some a=>(cw L (.conv s d) [a]).map fun s=>(.v s,[]) | none=>none)
 | .call c=>match c.callee,c.args.toList,c.argTypes[0]? with
  | .builtin .len,[x],some t=>match evS lk x with
   | some a=>(cw L (.len t) [a]).map fun s=>(.v s,[])
   | none=>none
  | .builtin .max,[x,y],some _=>match evS lk x,evS lk y with
   | some a,some b=>(cw L .max [a,b]).map fun s=>(.v s,[])
   | _,_=>none
  | _,_,_=>none
 | _=>none
def zj:Op→Option (Key×List Operand)
 | .index t x i=>some (.idx t,[x,i])
 | .indexAddr t x i=>some (.ia t,[x,i])
 | .fieldAddr t x f=>some (.fa t f,[x])
 | .load t x=>some (.ld t,[x])
 | .nilCheck x=>some (.nc,[x])
 | .lookup t x i false=>some (.lku t,[x,i])
 | .slice t x none none none=>some (.sl t false false,[x])
 | .slice t x (some l) none none=>some (.sl t true false,[x,l])
 | .slice t x none (some h) none=>some (.sl t false true,[x,h])
 | .slice t x (some l) (some h) none=>some (.sl t true true,[x,l,h])
 | _=>none
def nw (lk:Nat→Option AV):List Operand→Option (List SV)
 | []=>some []
 | x::xs=>match evS lk x,nw lk xs with
  | some s,some l=>some (s::l)
  | _,_=>none
def nilO (lk:Nat→Option AV):Op→Option AV
 | .nilCheck x=>match evL lk x with
  | some (.ptr v o)=>some (.v (.one (.ptr v o)))
  | _=>none
 | _=>none
def qK (p:Program) (L:List OIns) (lk:Nat→Option AV) (op:Op):Option (AV×List Nat):=
 match cd p L lk op with
 | some r=>some r
 | none=>match nilO lk op with
  | some c=>some (c,[])
  | none=>match zj op with
   | some (k,xs)=>match nw lk xs with
    | some ss=>(cw L k ss).map fun s=>(.v s,[])
    | none=>none
   | none=>none
def ownP (ρ:Rho) (r:SV) (w:World) (v:Value):Prop:=match r with
 | .one (.own _ m)=>∃s,ρ[m]? =some s∧s.p w v∧∀g,s.fp w v g→v.ownBlock=some g
 | _=>False
def ol (ρ:Rho) (B:Blk) (w:World) (q:Nat×TypeId×List Leaf):Prop:=
 ∃g cs,B.v q.1=some g∧w.heap[g]? =some (.cells cs q.2.1 (0,0))∧aC ρ B w q.2.2 cs.toList∧∀(k:Nat) (n:Int),cs[k]? ≠some (.int .u32 n)
structure Mut (d:MutD) (B B':Blk) (w w':World):Prop where
 os:w'.os=w.os
 tape:w'.tape=w.tape
 output:w'.output=w.output
 v:∀x,(∀q,d.nv=some q→x≠q.1)→B'.v x=B.v x
 nv:∀q g,d.nv=some q→B'.v q.1=some g→w.heap.size≤g
 o:∀k g,B.o k g→B'.o k g
 new:∀k g,B'.o k g→B.o k g∨(k∈d.ks∧w.heap.size≤g)
 own:∀k g,k∈d.ks→B'.o k g→bC w' g
 inj:BInj B'
 chg:Chg w w' (fun g=>(∃k∈d.ks,B.o k g)∨∃q∈d.us,B.v q.1=some g)
def MutOk (p:Program) (ρ:Rho) (f:FuncId) (d:MutD) (B:Blk) (w:World) (vs:List Value):Prop:=(callFunc f vs.toArray).run p w= .ok (.enter f vs.toArray) w∧(BOk B w.heap.size→BInj B→(∀k g,B.o k g→bC w g)→(∀x g,B.v x=some g→bC w g)→(∀q,d.nv=some q→B.v q.1=none)→(∀q∈d.pre,ol ρ B w q)→
   Calls p f vs.toArray w (fun e w'=>∃v B',e= .returned v∧(zh d.xs).holds ρ B' w' v∧(∀q∈d.keep,∃u,vs[q.1]? =some u∧q.2.holds ρ B' w' u)∧(∀q∈d.us,ol ρ B' w' q)∧(∀q,d.nv=some q→ol ρ B' w' q)∧Mut d B B' w w'))
def OIns.Ok (p:Program) (ρ:Rho) (i:OIns):Prop:=∀(B:Blk) (w:World) (vs:List Value),bW ρ B w i.xs vs→
 match i.key,vs with
 | .bin op t,[x,y]=>∃v,i.r.holds ρ B w v∧∀xo yo,((do eqGuard op t xo yo x y;binOp op t x y:Sem Value)).run p w= .ok v w
 | .un op,[x]=>∃v,i.r.holds ρ B w v∧(Op.unary op x).run p w= .ok v w
 | .conv s d,[x]=>∃v,i.r.holds ρ B w v∧(convert s d x).run p w= .ok v w
 | .len t,[x]=>∃v,i.r.holds ρ B w v∧∀(ts:Array TypeId) ty,ts[0]? =some t→(Builtin.len_ ts ty #[x]).run p w= .ok v w
 | .idx t,[x,y]=>∃v,i.r.holds ρ B w v∧(Instr.index t x y).run p w= .ok v w
 | .ia t,[x,y]=>∃v,i.r.holds ρ B w v∧(Instr.indexAt t x y).run p w= .ok v w
 | .ld t,[x]=>∃v,i.r.holds ρ B w v∧(Instr.loadAt t x).run p w= .ok v w
 | .fa t f,[x]=>∃v,i.r.holds ρ B w v∧(Instr.fieldAt t x f).run p w= .ok v w
 | .sl t false false,[x]=>∃v,i.r.holds ρ B w v∧(Instr.sliceAt t x none none none).run p w= .ok v w
 | .sl t true false,[x,y]=>∃v,i.r.holds ρ B w v∧(Instr.sliceAt t x (some y) none none).run p w= .ok v w
 | .sl t false true,[x,y]=>∃v,i.r.holds ρ B w v∧(Instr.sliceAt t x none (some y) none).run p w= .ok v w
 | .app t,[x,y]=>∀ty,∃v w',(Builtin.append_ #[t,t] ty #[x,y]).run p w= .ok v w'∧w.grownBy w' x.ownBlock∧(∀g,x.ownBlock=some g→bC w' g)∧(∀g,v.ownBlock=some g→(x.ownBlock=some g∨w.heap.size≤g)∧g<w'.heap.size∧bC w' g)∧ownP ρ i.r w' v
 | .frz _ _,[x]=>i.r.holds ρ B w x
 | .nc,[x]=>∃ad,x= .pointer (some ad)∧i.r.holds ρ B w x
 | .lku t,[x,y]=>∃v,i.r.holds ρ B w v∧(Instr.lookup t x y false).run p w= .ok v w
 | .max,[x,y]=>∃v,i.r.holds ρ B w v∧∀(ts:Array TypeId) ty,(Builtin.max_ ts ty #[x,y]).run p w= .ok v w
 | .mut f d,vs=>MutOk p ρ f d B w vs
 | .bs t n ix,vs=>BOk B w.heap.size→∃v w',i.r.holds ρ B w' v∧(Instr.buildSlice t n (ix.zip vs).toArray).run p w= .ok v w'∧Below w.heap.size w w'
 | .sl t true true,[x,y,z]=>∃v,i.r.holds ρ B w v∧(Instr.sliceAt t x (some y) (some z) none).run p w= .ok v w
 | _,_=>True
def OIns.OkE (E:Ent) (p:Program) (ρ:Rho) (i:OIns):Prop:=match i.key with
 | .mut f d=>∀(B:Blk) (w:World) (vs:List Value),(∀x g,E.pin[x]? =some g→B.v x=some g)→bW ρ B w i.xs vs→MutOk p ρ f d B w vs
 | _=>i.Ok p ρ
theorem OIns.Ok.e {E:Ent} {p:Program} {ρ:Rho} {i:OIns} (h:i.Ok p ρ):i.OkE E p ρ:=by
 obtain⟨k,xs,r⟩:=i;cases k<;>first | exact h | exact fun B w vs _ hv=>h B w vs hv
section
variable {ρ:Rho} {L:List OIns} {B:Blk} {a:Act} {w:World} {lk:Nat→Option AV} {x:Operand}
theorem qL {c:AV} (h:∀y∈rdO x,∀c,lk y=some c→bu ρ B a w y c) (e:evA lk x=some c):c.holds ρ B w (a.eval x):=by
 cases x with
 | tmp t=>
  simp only[evA]at e;split at e
  ·rename_i ht;obtain⟨u,h1,h2⟩:=(by have:=h t (by simp[rdO]) c e;unfold bu at this;rwa [if_pos ht]at this:∃u,a.tmps[t]? =some u∧c.holds ρ B w u);have:a.eval (.tmp t)=u:=by simp only[Act.eval,Array.getD_eq_getD_getElem?,h1,Option.getD_some]
   rw[this];exact h2
  ·cases e
 | const v=>
  simp only[evA]at e
  cases h1:svC v with
  | none=>rw[h1]at e;cases e
  | some s=>rw[h1]at e;simp at e;subst e;exact zf h1
 | func f=>simp only[evA,Option.some.injEq]at e;subst e;rfl
 | global g=>simp[evA]at e
theorem qM {s:SV} (h:∀y∈rdO x,∀c,lk y=some c→bu ρ B a w y c) (e:evS lk x=some s):s.holds ρ B w (a.eval x):=by
 unfold evS at e;split at e
 ·rename_i s' h1;injection e with e;subst e;exact qL h h1
 ·cases e
theorem zk {l:Leaf} (h:∀y∈rdO x,∀c,lk y=some c→bu ρ B a w y c) (e:evL lk x=some l):l.holds ρ B w (a.eval x):=by
 unfold evL at e;split at e
 ·rename_i s' h1;injection e with e;subst e;exact qM h h1
 ·cases e
end
section
variable {p:Program} {ρ:Rho} {B:Blk} {a:Act} {w:World} {t:TypeId}
theorem run_underlying {d:TypeDesc} (h:p.underlying t=some d):(underlying t).run p w= .ok d w:=by
 simp[underlying,program,Sem.run_bind,Sem.run,h,Result.andThen]
theorem tO {i:TypeInfo} (h:p.info? t=some i):(typeInfo t).run p w= .ok i w:=by
 simp[typeInfo,program,Sem.run_bind,Sem.run,h,Result.andThen]
theorem bm {n:Nat} (h:szB p t=some n):(sizeOf t).run p w= .ok n w:=by
 unfold szB at h
 cases hi:p.info? t with
 | none=>rw[hi]at h;cases h
 | some i=>rw[hi]at h;simp at h;subst h;simp[sizeOf,Sem.run_bind,tO hi,Result.andThen]
theorem ja {b:Bool} (h:zi p t=some b):(isAgg t).run p w= .ok b w:=by
 unfold zi at h
 cases hi:p.underlying t with
 | none=>rw[hi]at h;cases h
 | some d=>
  rw[hi]at h;simp at h;subst h;unfold isAgg;rw[Sem.run_bind,run_underlying hi];cases d<;>rfl
theorem zm {z:Value} (h:(p.info? t).bind (·.zero)=some z):(zeroValue t).run p w= .ok z w:=by
 cases hi:p.info? t with
 | none=>rw[hi]at h;cases h
 | some i=>rw[hi]at h;simp at h;simp[zeroValue,Sem.run_bind,tO hi,Result.andThen,h]
theorem mg {ad:Addr} {v:Value} (h:w.cell? ad=some v):(Go.load ad).run p w= .ok v w:=by
 simp[Go.load,Sem.run,h]
theorem dr (g o k:Nat):(⟨g,o,none⟩:Addr).add k=⟨g,o+k,none⟩:=by
 unfold Addr.add;split
 ·subst_vars;rfl
 ·rfl
theorem aA {g o:Nat} {cs:Array Value} {ty:TypeId} {fz:Nat×Nat} (h:w.heap[g]? =some (.cells cs ty fz)):w.cell? ⟨g,o,none⟩=cs[o]? :=by
 simp[World.cell?,h]
theorem gJ {g o:Nat} {cs:Array Value} {ty:TypeId} (h:w.heap[g]? =some (.cells cs ty (0,0))):∀(vs:List Value) (i:Nat) (acc:Array Value),
  (∀k v,vs[k]? =some v→cs[o+(i+k)]? =some v)→(loadCellsFrom ⟨g,o,none⟩ i vs.length acc).run p w= .ok (acc++vs.toArray) w
 | [],i,acc,_=>by simp[loadCellsFrom]
 | v::vs,i,acc,hv=>by
  have h1:=hv 0 v rfl;rw[Nat.add_zero]at h1;have h2:=gJ h vs (i+1) (acc.push v) (fun k u hu=>by
   have:=hv (k+1) u (by simpa using hu);rwa [show i+(k+1)=i+1+k from by omega]at this)
  simp only[List.length_cons,loadCellsFrom];rw[Sem.run_bind,dr,mg (by rw[aA h];exact h1)];simp only[Result.andThen];rw[h2];simp
theorem gi {v k:Nat} {c:AV} (hk:k<100000):bu ρ B a w (kL v k) c↔∃g cs ty u,B.v v=some g∧w.heap[g]? =some (.cells cs ty (0,0))∧cs[k]? =some u∧c.holds ρ B w u:=by
 unfold bu kL;rw[if_neg (by omega),show((v+1)*100000+k) / 100000 - 1=v from by omega,show((v+1)*100000+k) % 100000=k from by omega]
theorem eI {lk:Nat→Option AV} {v:Nat}:∀ {n k:Nat} {ls:List Leaf},gI lk v k n=some ls→k+n≤100000→(∀x∈kM v k n,∀c,lk x=some c→bu ρ B a w x c)→
  ls.length=n∧(0<n→∃g cs ty,B.v v=some g∧w.heap[g]? =some (.cells cs ty (0,0))∧∃vs:List Value,aC ρ B w ls vs∧∀j u,vs[j]? =some u→cs[k+j]? =some u)
 | 0,k,ls,h,_,_=>by simp[gI]at h;subst h;exact⟨rfl,fun h=>by omega⟩
 | n+1,k,ls,h,hk,hx=>by
  simp only[gI]at h;split at h
  ·rename_i l hl
   cases hr:gI lk v (k+1) n with
   | none=>rw[hr]at h;cases h
   | some r=>
    rw[hr]at h;simp at h;subst h;have h0:=hx (kL v k) (by unfold kM;simp only[List.mem_map,List.mem_range];exact⟨0,by omega,by simp⟩) _ hl;rw[gi (by omega)]at h0;obtain⟨g,cs,ty,u,e1,e2,e3,e4⟩:=h0;obtain⟨hlen,hrest⟩:=eI hr (by omega) (fun x hx' c hc=>hx x (by
     unfold kM at hx'⊢;simp only[List.mem_map,List.mem_range]at hx'⊢;obtain⟨j,hj,rfl⟩:=hx';exact⟨j+1,by omega,by congr 1;omega⟩) c hc)
    refine⟨by simp[hlen],fun _=>⟨g,cs,ty,e1,e2,?_⟩⟩;by_cases hn:n=0
    ·subst hn;have:r=[]:=List.eq_nil_of_length_eq_zero hlen;subst this;exact⟨[u],⟨e4,trivial⟩,fun j x hj=>by
      match j with
      | 0=>simp at hj;subst hj;simpa using e3
      | j+1=>simp at hj⟩
    ·obtain⟨g',cs',ty',f1,f2,vs,f3,f4⟩:=hrest (by omega);rw[e1]at f1;injection f1 with f1;subst f1;rw[e2]at f2;injection f2 with f2;injection f2 with f2 f2';subst f2;exact⟨u::vs,⟨e4,f3⟩,fun j x hj=>by
      match j with
      | 0=>simp at hj;subst hj;simpa using e3
      | j+1=>
       have:=f4 j x (by simpa using hj);rwa [show k+1+j=k+(j+1)from by omega]at this⟩
  ·cases h
theorem aC.one {l:Leaf} {vs:List Value} (h:aC ρ B w [l] vs):∃v,vs=[v]∧l.holds ρ B w v:=by
 match vs,h with
 | [v],h=>exact⟨v,rfl,h.1⟩
theorem aC.set:∀ {ls:List Leaf} {vs:List Value} {k:Nat} {l:Leaf} {v:Value},aC ρ B w ls vs→l.holds ρ B w v→aC ρ B w (ls.set k l) (vs.set k v)
 | [],[],_,_,_,_,_=>by simp[aC]
 | _::_,_::_,0,_,_,h,k=>⟨k,h.2⟩
 | _::_,_::_,n+1,_,_,h,k=>⟨h.1,aC.set h.2 k⟩
 | [],_::_,_,_,_,h,_=>h.elim
 | _::_,[],_,_,_,h,_=>h.elim
theorem aC.setRng:∀ {ns:List Leaf} {us:List Value} {ls:List Leaf} {vs:List Value} {k:Nat},aC ρ B w ns us→aC ρ B w ls vs→aC ρ B w (vR ls k ns) (vR vs k us)
 | [],[],_,_,_,_,h=>h
 | _::_,_::_,_,_,_,k,h=>by unfold vR;exact aC.setRng k.2 (h.set k.1)
 | [],_::_,_,_,_,h,_=>h.elim
 | _::_,[],_,_,_,h,_=>h.elim
theorem SV.holds.cells {s:SV} {v:Value} (h:s.holds ρ B w v):aC ρ B w s.leaves v.cells.toList:=by
 cases s with
 | agg ls=>obtain⟨vs,rfl,h⟩:=h;simpa [Value.cells,SV.leaves]using h
 | one l=>
  have hc:v.cells=#[v]:=by
   cases l<;>simp only[SV.holds,Leaf.holds]at h
   ·subst h;rfl
   ·subst h;rfl
   ·obtain⟨g,_,rfl⟩:=h;rfl
   ·subst h;rfl
   ·obtain⟨s,_,h,_⟩:=h;have:=(s.fl _ _ h).1;cases v<;>first | rfl | exact absurd rfl (this _)
   ·subst h;rfl
   ·subst h;rfl
   ·subst h;rfl
   ·obtain⟨s,_,h,_⟩:=h;have:=(s.fl _ _ h).1;cases v<;>first | rfl | exact absurd rfl (this _)
  rw[hc];exact⟨h,trivial⟩
theorem qN {cs:Array Value}:∀(vs:List Value) (n off:Nat) (cs:Array Value),((vs.zipIdx n).foldl (fun(cs:Array Value) (x:Value×Nat)=>cs.setIfInBounds (off+x.2) x.1) cs).toList=vR cs.toList (off+n) vs
 | [],_,_,_=>rfl
 | v::vs,n,off,cs=>by
  simp only[List.zipIdx_cons,List.foldl_cons];rw[qN (cs:=cs) vs (n+1) off];simp[vR,Nat.add_assoc]
theorem gK {place:Nat→Option (Nat×Nat)}:∀ {ps:List (Nat×SV)} {us:List (Nat×Value)} {z z':List Leaf} {cells:Array Value},kN place z ps=some z'→
  us.map (·.1)=ps.map (·.1)→bW ρ B w (ps.map (·.2)) (us.map (·.2))→aC ρ B w z cells.toList→∃out:Array Value,Instr.fill place cells us=some out∧aC ρ B w z' out.toList
 | [],[],z,z',cells,h,_,_,hz=>by simp[kN]at h;subst h;exact⟨cells,rfl,hz⟩
 | (i,s)::ps,(j,u)::us,z,z',cells,h,he,hs,hz=>by
  simp only[List.map_cons,List.cons.injEq]at he;obtain⟨rfl,he⟩:=he;simp only[kN]at h;unfold Instr.fill
  cases hp:place j with
  | none=>rw[hp]at h;cases h
  | some x=>
   obtain⟨off,size⟩:=x;rw[hp]at h;simp only at h⊢;split at h
   ·rename_i hc;have hcl:=hs.1.cells;have h1:=hcl.len;have h2:=hz.len;simp only[Array.length_toList]at h1 h2;rw[if_neg (by
     simp only[ne_eq,Bool.or_eq_true,decide_eq_true_eq,not_or,Classical.not_not,Nat.not_lt];have:=hc.1;have:=hc.2;omega)]
    refine gK h he hs.2 ?_;have:=qN (cs:=cells) u.cells.toList 0 off cells;rw[Nat.add_zero]at this;rw[←Array.toList_zipIdx]at this;simp only[Array.foldl_toList]at this;rw[this];exact aC.setRng hcl hz
   ·cases h
 | [],_::_,_,_,_,_,he,_,_=>by simp at he
 | _::_,[],_,_,_,_,he,_,_=>by simp at he
end
section
variable {p:Program} {ρ:Rho} {B:Blk} {a:Act} {w:World} {L:List OIns} {lk:Nat→Option AV} {c:AV} {rd:List Nat} {o:Oper}
def bc (ρ:Rho) (B:Blk) (a:Act) (w:World) (lk:Nat→Option AV) (x:Operand):Prop:=∀y∈rdO x,∀c,lk y=some c→bu ρ B a w y c
def dJ (p:Program) (ρ:Rho) (B:Blk) (a:Act) (w:World) (o:Oper) (c:AV):Prop:=∃u,(execOp a.eval o).run p w= .ok (.value u) w∧c.holds ρ B w u
theorem qO {x:Operand} {c:AV} (h:bc ρ B a w lk x) (e:evA lk x=some c):c.holds ρ B w (a.eval x):=qL h e
theorem dP {x:Operand} {c:SV} (h:bc ρ B a w lk x) (e:evS lk x=some c):c.holds ρ B w (a.eval x):=qM h e
theorem dQ {x:Operand} {c:Leaf} (h:bc ρ B a w lk x) (e:evL lk x=some c):c.holds ρ B w (a.eval x):=zk h e
theorem om {x:Operand} (ho:o.op= .move x∨o.op= .assign x) (h:(evA lk x).map (·,([]:List Nat))=some (c,rd)) (H:bc ρ B a w lk x):dJ p ρ B a w o c:=by
 cases e:evA lk x with
 | none=>rw[e]at h;cases h
 | some d=>
  rw[e]at h;simp at h;obtain⟨rfl,_⟩:=h;refine⟨a.eval x,?_,qO H e⟩;rcases ho with ho | ho<;>(unfold execOp;rw[ho];rfl)
theorem vT {k x y:Operand} (ho:o.op= .pick k x y) (h:cd p L lk (.pick k x y)=some (c,rd)) (Hk:bc ρ B a w lk k) (Hx:bc ρ B a w lk x) (Hy:bc ρ B a w lk y):dJ p ρ B a w o c:=by
 simp only[cd]at h;split at h
 ·rename_i e0;have e1:a.eval k= .bool true:=dQ Hk e0
  cases e:evA lk x with
  | none=>rw[e]at h;cases h
  | some d=>
   rw[e]at h;simp at h;obtain⟨rfl,_⟩:=h;exact⟨a.eval x,by unfold execOp;rw[ho];simp only[e1];rfl,qO Hx e⟩
 ·rename_i e0;have e1:a.eval k= .bool false:=dQ Hk e0
  cases e:evA lk y with
  | none=>rw[e]at h;cases h
  | some d=>
   rw[e]at h;simp at h;obtain⟨rfl,_⟩:=h;exact⟨a.eval y,by unfold execOp;rw[ho];simp only[e1];rfl,qO Hy e⟩
 ·cases h
theorem qt {x:Operand} {k:Nat} (ho:o.op= .extract x k) (h:cd p L lk (.extract x k)=some (c,rd)) (H:bc ρ B a w lk x):dJ p ρ B a w o c:=by
 simp only[cd]at h;split at h
 ·rename_i xs e;obtain⟨vs,e1,e2⟩:=(qO H e:AV.holds ρ B w (.tup xs) (a.eval x))
  cases e3:xs[k]? with
  | none=>rw[e3]at h;cases h
  | some s=>
   rw[e3]at h;simp at h;obtain⟨rfl,_⟩:=h;obtain⟨v,h1,h2⟩:=e2.get e3;refine⟨v,?_,h2⟩;unfold execOp;rw[ho];simp[e1,Instr.extract,h1,Sem.run_bind,Result.andThen]
 ·cases h
theorem tP {t:TypeId} {x:Operand} (h:cd p L lk (.load t x)=some (c,rd)) (H:bc ρ B a w lk x) (H2:∀y∈rd,∀c,lk y=some c→bu ρ B a w y c):
  ∃ad u,a.eval x= .pointer (some ad)∧(loadVar t ad).run p w= .ok u w∧c.holds ρ B w u:=by
 simp only[cd]at h;split at h
 ·rename_i v off e;obtain⟨g,hg,e1⟩:=(dQ H e:Leaf.holds ρ B w (.ptr v off) (a.eval x));refine⟨⟨g,off,none⟩,?_⟩;split at h
  ·rename_i hagg;split at h
   ·rename_i n hn;split at h
    ·rename_i hle
     cases e3:gI lk v off n with
     | none=>rw[e3]at h;cases h
     | some ls=>
      rw[e3]at h;simp at h;obtain⟨rfl,rfl⟩:=h;obtain⟨hlen,hrest⟩:=eI (a:=a) e3 hle.1 H2;obtain⟨g',cs,ty,f1,f2,vs,f3,f4⟩:=hrest hle.2;rw[hg]at f1;injection f1 with f1;subst f1;refine⟨.agg vs.toArray,e1,?_,vs,rfl,f3⟩;have hl:vs.length=n:=by rw[f3.len,hlen]
      have:=gJ (p:=p) (o:=off) f2 vs 0 #[] (fun k u hu=>by rw[Nat.zero_add];exact f4 k u hu);rw[hl]at this;simp[loadVar,loadCells,Sem.run_bind,ja hagg,bm hn,this,Result.andThen]
    ·cases h
   ·cases h
  ·rename_i hagg;split at h
   ·rename_i hle;split at h
    ·rename_i l e3;simp at h;obtain⟨rfl,rfl⟩:=h;obtain⟨hlen,hrest⟩:=eI (a:=a) e3 hle H2;obtain⟨g',cs,ty,f1,f2,vs,f3,f4⟩:=hrest (by decide);rw[hg]at f1;injection f1 with f1;subst f1;obtain⟨u,rfl,hu⟩:=f3.one;refine⟨u,e1,?_,hu⟩;have:=mg (p:=p) (ad:=⟨g,off,none⟩) (v:=u) (by rw[aA f2];exact f4 0 u rfl);simp[loadVar,Sem.run_bind,ja hagg,this,Result.andThen]
    ·cases h
   ·cases h
  ·cases h
 ·cases h
theorem vU {t:TypeId} {x:Operand} (ho:o.op= .load t x) (h:cd p L lk (.load t x)=some (c,rd)) (H:bc ρ B a w lk x) (H2:∀y∈rd,∀c,lk y=some c→bu ρ B a w y c):dJ p ρ B a w o c:=by
 obtain⟨ad,u,e1,e2,e3⟩:=tP h H H2;refine⟨u,?_,e3⟩;unfold execOp;rw[ho];simp[e1,Instr.loadAt,Instr.sureAddr,Sem.run_bind,e2,Result.andThen]
theorem nz {t:TypeId} {x:Operand} {f:Nat} (ho:o.op= .fieldAddr t x f) (h:cd p L lk (.fieldAddr t x f)=some (c,rd)) (H:bc ρ B a w lk x):dJ p ρ B a w o c:=by
 simp only[cd]at h;split at h
 ·rename_i v off fs e hu;obtain⟨g,hg,e1⟩:=(dQ H e:Leaf.holds ρ B w (.ptr v off) (a.eval x));split at h
  ·rename_i fd hf;split at h
   ·rename_i n hn;simp at h;obtain⟨rfl,rfl⟩:=h;refine⟨_,?_,g,hg,rfl⟩;unfold execOp;rw[ho];simp[e1,Instr.fieldAt,Instr.sureAddr,fieldPlace,Sem.run_bind,run_underlying hu,hf,bm hn,Result.andThen,dr]
   ·cases h
  ·cases h
 ·cases h
theorem oo {l:Leaf} {i:Nat} {v:Value} (h:idxI l=some i) (hl:l.holds ρ B w v):∃k,v= .int k (i:Int):=by
 unfold idxI at h;split at h
 ·rename_i k n;split at h
  ·rename_i hn;simp at h;subst h;exact⟨k,by rw[show v= .int k n from hl,Int.toNat_of_nonneg hn]⟩
  ·cases h
 ·cases h
theorem nD {t:TypeId} {x ix:Operand} (ho:o.op= .indexAddr t x ix) (h:cd p L lk (.indexAddr t x ix)=some (c,rd)) (H:bc ρ B a w lk x) (Hi:bc ρ B a w lk ix):dJ p ρ B a w o c:=by
 simp only[cd]at h;split at h
 ·rename_i v off len e l h1 hu h3;obtain⟨g,hg,e1⟩:=(dQ H h1:Leaf.holds ρ B w (.ptr v off) (a.eval x));split at h
  ·rename_i i n hi hn;obtain⟨k,e2⟩:=oo hi (dQ Hi h3);split at h
   ·rename_i hlt;simp at h;obtain⟨rfl,rfl⟩:=h;refine⟨_,?_,g,hg,rfl⟩;unfold execOp;rw[ho];simp[e1,e2,Instr.indexAt,Instr.sureAddr,asIntOf,Sem.run_bind,run_underlying hu,bm hn,Result.andThen,dr,hlt]
   ·cases h
  ·cases h
 ·cases h
theorem ot {t:TypeId} {ls:List Leaf} {off:Nat} {s:SV} {cs:Array Value} (h:qJ p t ls off=some s) (hc:aC ρ B w ls cs.toList):∃v,(part t cs off).run p w= .ok v w∧s.holds ρ B w v:=by
 unfold qJ at h;split at h
 ·rename_i hagg;split at h
  ·rename_i n hn;split at h
   ·rename_i hle;simp at h;subst h;refine⟨.agg (cs.extract off (off+n)),by unfold part;rw[Sem.run_bind,ja hagg];simp only[Result.andThen,if_true,Sem.run_bind,bm hn,Sem.run_pure],(cs.extract off (off+n)).toList,by rw[Array.toArray_toList],?_⟩;have hlen:=hc.len;refine aC.mk ?_ (fun k l v hk hv=> ?_)
    ·simp only[Array.length_toList,Array.size_extract,List.length_take,List.length_drop]at hlen⊢;omega
    ·have hkn:k<n:=by
      rw[List.getElem?_take]at hk;by_cases h:k<n
      ·exact h
      ·rw[if_neg h]at hk;cases hk
     rw[List.getElem?_take,if_pos hkn,List.getElem?_drop]at hk;obtain⟨u,h1,h2⟩:=hc.get hk;have:v=u:=by
      have hv':(cs.extract off (off+n))[k]? =some v:=by rw[←Array.getElem?_toList];exact hv
      rw[Array.getElem?_extract]at hv';simp only[Array.getElem?_toList]at h1;split at hv'
      ·rw[h1]at hv';injection hv' with e;exact e.symm
      ·cases hv'
     rw[this];exact h2
   ·cases h
  ·cases h
 ·rename_i hagg
  cases hl:ls[off]? with
  | none=>rw[hl]at h;cases h
  | some l=>
   rw[hl]at h;simp at h;subst h;obtain⟨u,h1,h2⟩:=hc.get hl;refine⟨u,?_,h2⟩;simp only[Array.getElem?_toList]at h1;simp[part,Sem.run_bind,ja hagg,Result.andThen,h1]
 ·cases h
theorem tQ {t:TypeId} {x:Operand} {f:Nat} (ho:o.op= .field t x f) (h:cd p L lk (.field t x f)=some (c,rd)) (H:bc ρ B a w lk x):dJ p ρ B a w o c:=by
 simp only[cd]at h;split at h
 ·rename_i ls fs h1 hu;obtain⟨vs,e1,e2⟩:=(dP H h1:SV.holds ρ B w (.agg ls) (a.eval x));split at h
  ·rename_i fd hf
   cases hp:qJ p fd.type ls fd.offset with
   | none=>rw[hp]at h;cases h
   | some s=>
    rw[hp]at h;simp at h;obtain⟨rfl,rfl⟩:=h;obtain⟨v,h2,h3⟩:=ot (cs:=vs.toArray) hp (by simpa using e2);refine⟨v,?_,h3⟩;unfold execOp;rw[ho];simp[e1,Instr.field,asAgg,Sem.run_bind,run_underlying hu,hf,h2,Result.andThen]
  ·cases h
 ·cases h
theorem tR {t:TypeId} {x ix:Operand} (ho:o.op= .index t x ix) (h:cd p L lk (.index t x ix)=some (c,rd)) (H:bc ρ B a w lk x) (Hi:bc ρ B a w lk ix):dJ p ρ B a w o c:=by
 simp only[cd]at h;split at h
 ·rename_i ls len e l h1 hu h3;obtain⟨vs,e1,e2⟩:=(dP H h1:SV.holds ρ B w (.agg ls) (a.eval x));split at h
  ·rename_i i n hi hn;obtain⟨k,e3⟩:=oo hi (dQ Hi h3);split at h
   ·rename_i hlt
    cases hp:qJ p e ls (i*n)with
    | none=>rw[hp]at h;cases h
    | some s=>
     rw[hp]at h;simp at h;obtain⟨rfl,rfl⟩:=h;obtain⟨v,h4,h5⟩:=ot (cs:=vs.toArray) hp (by simpa using e2);refine⟨v,?_,h5⟩;unfold execOp;rw[ho];simp[e1,e3,Instr.index,asIntOf,Sem.run_bind,run_underlying hu,bm hn,h4,Result.andThen,hlt]
   ·cases h
  ·cases h
 ·cases h
end
section
variable {p:Program} {ρ:Rho} {B:Blk} {a:Act} {w:World} {L:List OIns} {lk:Nat→Option AV} {c:AV} {rd:List Nat} {o:Oper}
theorem kP {α β:Type} (f:α→Sem β) (g:α→β):∀(xs:List α),(∀x∈xs,(f x).run p w= .ok (g x) w)→(xs.mapM f).run p w= .ok (xs.map g) w
 | [],_=>by simp
 | x::xs,h=>by
  have ih:=kP f g xs (fun y hy=>h y (List.mem_cons_of_mem _ hy));simp only[List.mapM_cons,Sem.run_bind,h x (by simp),Result.andThen,ih,Sem.run_pure,List.map_cons]
theorem tS {α β:Type} (f:α→Sem β) (g:α→β) (xs:Array α) (h:∀x∈xs.toList,(f x).run p w= .ok (g x) w):(xs.mapM f).run p w= .ok (xs.map g) w:=by
 obtain⟨l⟩:=xs;have:=kP f g l (by simpa using h);simp only[List.mapM_toArray,map_eq_pure_bind,Sem.run_bind,this,Result.andThen,Sem.run_pure,List.map_toArray]
theorem fU:∀ {ps:List (Nat×Operand)} {ss:List (Nat×SV)},kO lk ps=some ss→(∀x∈ps,bc ρ B a w lk x.2)→
  (ps.map (fun x=>(x.1,a.eval x.2))).map (·.1)=ss.map (·.1)∧bW ρ B w (ss.map (·.2)) ((ps.map (fun x=>(x.1,a.eval x.2))).map (·.2))
 | [],ss,h,_=>by simp[kO]at h;subst h;exact⟨rfl,trivial⟩
 | (i,x)::r,ss,h,H=>by
  simp only[kO]at h;split at h
  ·rename_i s l h1 h2;simp at h;subst h;obtain⟨e1,e2⟩:=fU h2 (fun y hy=>H y (List.mem_cons_of_mem _ hy));exact⟨by simpa using e1,dP (H (i,x) (by simp)) h1,e2⟩
  ·cases h
theorem fI {t:TypeId} {z:List Leaf} (h:tN p t=some z):∃v,(zeroValue t).run p w= .ok v w∧aC ρ B w z v.cells.toList:=by
 unfold tN at h;split at h
 ·rename_i v hv;exact⟨v,zm hv,fT h⟩
 ·cases h
theorem tT {t:TypeId} {ps:Array (Nat×Operand)} (ho:o.op= .build t ps) (h:cd p L lk (.build t ps)=some (c,rd)) (H:∀x∈ps.toList,bc ρ B a w lk x.2):dJ p ρ B a w o c:=by
 simp only[cd]at h;split at h
 ·rename_i z ss fs h1 h2 hu;obtain⟨zv,hz,hz2⟩:=fI (ρ:=ρ) (B:=B) (w:=w) h1;obtain⟨e1,e2⟩:=fU h2 H;split at h
  ·rename_i hall
   cases hf:kN (sa p fs) z ss with
   | none=>rw[hf]at h;cases h
   | some ls=>
    rw[hf]at h;simp at h;obtain⟨rfl,rfl⟩:=h
    let g:Field→Nat×Nat:=fun f=>(f.offset,(szB p f.type).getD 0)
    have hm:(fs.mapM (fun f=>do pure (f.offset,←sizeOf f.type):Field→Sem (Nat×Nat))).run p w= .ok (fs.map g) w:=by
     refine tS _ g fs (fun f hf=> ?_);have h3:(szB p f.type).isSome=true:=by
      have:=Array.all_eq_true.1 hall;obtain⟨i,hi,rfl⟩:=List.getElem_of_mem hf;simp only[Array.getElem_toList];exact this i (by simpa using hi)
     cases hs:szB p f.type with
     | none=>rw[hs]at h3;cases h3
     | some n=>simp only[Sem.run_bind,bm hs,Result.andThen,Sem.run_pure];show _=Result.ok (f.offset,(szB p f.type).getD 0) w;rw[hs];rfl
    have hpl:sa p fs=fun i=>(fs.map g)[i]? :=by
     funext i
     unfold sa;rw[Array.getElem?_map]
     cases hi:fs[i]? with
     | none=>rfl
     | some f=>
      have h3:(szB p f.type).isSome=true:=by
       have:=Array.all_eq_true.1 hall;obtain⟨_,rfl⟩:=Array.getElem?_eq_some_iff.1 hi;exact this i (Array.getElem?_eq_some_iff.1 hi).1
      cases hs:szB p f.type with
      | none=>rw[hs]at h3;cases h3
      | some n=>show Option.map _ (szB p f.type)=some (f.offset,(szB p f.type).getD 0);rw[hs];rfl
    rw[hpl]at hf;obtain⟨out,h4,h5⟩:=gK hf e1 e2 hz2;refine⟨.agg out,?_,out.toList,by rw[Array.toArray_toList],h5⟩;have e3:(ps.map (fun x=>(x.1,a.eval x.2))).toList=ps.toList.map (fun x=>(x.1,a.eval x.2)):=by simp
    unfold execOp;rw[ho];simp only[Instr.build,Sem.run_bind,hz,run_underlying hu,Result.andThen,hm,e3,h4,Sem.run_pure]
  ·cases h
 ·rename_i z ss len e h1 h2 hu;obtain⟨zv,hz,hz2⟩:=fI (ρ:=ρ) (B:=B) (w:=w) h1;obtain⟨e1,e2⟩:=fU h2 H;split at h
  ·rename_i n hn
   cases hf:kN (fun i=>some (i*n,n)) z ss with
   | none=>rw[hf]at h;cases h
   | some ls=>
    rw[hf]at h;simp at h;obtain⟨rfl,rfl⟩:=h;obtain⟨out,h4,h5⟩:=gK hf e1 e2 hz2;refine⟨.agg out,?_,out.toList,by rw[Array.toArray_toList],h5⟩;have e3:(ps.map (fun x=>(x.1,a.eval x.2))).toList=ps.toList.map (fun x=>(x.1,a.eval x.2)):=by simp
    unfold execOp;rw[ho];simp only[Instr.build,Sem.run_bind,hz,run_underlying hu,Result.andThen,bm hn,e3,h4,Sem.run_pure]
  ·cases h
 ·cases h
theorem vV {op:BinOp} {x y l:Leaf} {vx vy:Value} {t:TypeId} {xo yo:Operand} (h:vS (fH p t) op x y=some l) (hx:x.holds ρ B w vx) (hy:y.holds ρ B w vy):
  ∃v,l.holds ρ B w v∧((do eqGuard op t xo yo vx vy;binOp op t vx vy:Sem Value)).run p w= .ok v w:=by
 unfold vS at h;split at h
 ·rename_i b1 b2;have e1:vx= .bool b1:=hx;have e2:vy= .bool b2:=hy;subst e1;subst e2;split at h
  ·rename_i hb;have hu:p.underlying t=some .bool:=by
    unfold fH at hb;split at hb
    ·assumption
    ·cases hb
   have he:(Op.equal t (.bool b1) (.bool b2)).run p w= .ok (b1==b2) w:=by
    unfold Op.equal Op.maxDepth Op.equalIn;rw[Sem.run_bind,run_underlying hu];rfl
   cases op<;>simp only[Option.some.injEq,reduceCtorEq]at h<;>(subst h;refine⟨_,rfl,?_⟩;simp[eqGuard,binOp,Sem.run_bind,he,Result.andThen])
  ·cases h
 ·rename_i k1 n1 k2 n2;have e1:vx= .int k1 n1:=hx;have e2:vy= .int k2 n2:=hy;subst e1;subst e2;split at h
  ·rename_i hk;subst hk;cases op<;>simp only[Option.some.injEq,reduceCtorEq]at h<;>(subst h;refine⟨_,rfl,?_⟩;simp[eqGuard,binOp,Op.intCmp,Op.intArith,Sem.run_bind,Result.andThen])<;>rfl
  ·cases h
 ·cases h
theorem er {E:Ent} (hO:∀i∈L,i.OkE E p ρ) {k:Key} {xs:List SV} {s:SV} (hk:∀f d,k≠ .mut f d) (h:cw L k xs=some s):(OIns.mk k xs s).Ok p ρ:=by
 unfold cw at h;split at h
 ·rename_i i hi;simp at h;subst h;have h1:=List.find?_some hi;simp only[Bool.and_eq_true,decide_eq_true_eq]at h1;have:=hO i (List.mem_of_find?_eq_some hi);obtain⟨k',xs',r'⟩:=i;obtain⟨rfl,rfl⟩:=h1;cases k'<;>first | exact this | exact absurd rfl (hk _ _)
 ·cases h
theorem zn {E:Ent} (hO:∀i∈L,i.OkE E p ρ) {op:BinOp} {t ty:TypeId} {x y:Operand} (ho:o.op= .binOp op t x y ty) (h:cd p L lk (.binOp op t x y ty)=some (c,rd)) (Hx:bc ρ B a w lk x) (Hy:bc ρ B a w lk y):dJ p ρ B a w o c:=by
 have fin:∀v,((do eqGuard op t x y (a.eval x) (a.eval y);binOp op t (a.eval x) (a.eval y):Sem Value)).run p w= .ok v w→(execOp a.eval o).run p w= .ok (.value v) w:=by
  intro v hv;unfold execOp;rw[ho];simp only;rw[Sem.run_bind,hv];rfl
 simp only[cd]at h;have orac:∀(s1 s2:SV),s1.holds ρ B w (a.eval x)→s2.holds ρ B w (a.eval y)→(cw L (.bin op t) [s1,s2]).map (fun s=>(AV.v s,([]:List Nat)))=some (c,rd)→dJ p ρ B a w o c:=by
  intro s1 s2 hs1 hs2 hf
  cases e:cw L (.bin op t) [s1,s2]with
  | none=>rw[e]at hf;cases hf
  | some s=>
   rw[e]at hf;simp at hf;obtain⟨rfl,_⟩:=hf;obtain⟨v,h1,h2⟩:=(er hO (fun _ _ h=>by cases h) e) B w [a.eval x,a.eval y] ⟨hs1,hs2,trivial⟩;exact⟨v,fin v (h2 x y),h1⟩
 split at h
 ·rename_i s1 s2 e1 e2;split at h
  ·rename_i l hl;simp at h;obtain⟨rfl,_⟩:=h;obtain⟨v,h1,h2⟩:=vV (xo:=x) (yo:=y) hl (dP Hx e1) (dP Hy e2);exact⟨v,fin v h2,h1⟩
  ·exact orac _ _ (dP Hx e1) (dP Hy e2) h
 ·rename_i s1 s2 _ e1 e2;exact orac _ _ (dP Hx e1) (dP Hy e2) h
 ·cases h
theorem makes_un {E:Ent} (hO:∀i∈L,i.OkE E p ρ) {op:UnOp} {t:TypeId} {x:Operand} (ho:o.op= .unOp op t x) (h:cd p L lk (.unOp op t x)=some (c,rd)) (Hx:bc ρ B a w lk x):dJ p ρ B a w o c:=by
 have fin:∀v,(Op.unary op (a.eval x)).run p w= .ok v w→(execOp a.eval o).run p w= .ok (.value v) w:=by
  intro v hv;unfold execOp;rw[ho];simp only;rw[Sem.run_bind,hv];rfl
 have orac:∀(s1:SV),s1.holds ρ B w (a.eval x)→(cw L (.un op) [s1]).map (fun s=>(AV.v s,([]:List Nat)))=some (c,rd)→dJ p ρ B a w o c:=by
  intro s1 hs1 hf
  cases e:cw L (.un op) [s1]with
  | none=>rw[e]at hf;cases hf
  | some s=>
   rw[e]at hf;simp at hf;obtain⟨rfl,_⟩:=hf;obtain⟨v,h1,h2⟩:=(er hO (fun _ _ h=>by cases h) e) B w [a.eval x] ⟨hs1,trivial⟩;exact⟨v,fin v h2,h1⟩
 cases op with
 | not=>
  simp only[cd]at h;split at h
  ·rename_i b e;simp at h;obtain⟨rfl,_⟩:=h;have e1:a.eval x= .bool b:=dQ Hx e;exact⟨_,fin (.bool (!b)) (by rw[e1];rfl),rfl⟩
  ·rename_i l _ e;exact orac (.one l) (dQ Hx e) h
  ·cases h
 | _=>
  simp only[cd]at h;split at h
  ·rename_i s e;exact orac _ (dP Hx e) h
  ·cases h
theorem vW {E:Ent} (hO:∀i∈L,i.OkE E p ρ) {s d:TypeId} {x:Operand} (ho:o.op= .convert s d x) (h:cd p L lk (.convert s d x)=some (c,rd)) (Hx:bc ρ B a w lk x):dJ p ρ B a w o c:=by
 have fin:∀v,(convert s d (a.eval x)).run p w= .ok v w→(execOp a.eval o).run p w= .ok (.value v) w:=by
  intro v hv;unfold execOp;rw[ho];simp only;rw[Sem.run_bind,hv];rfl
 have orac:∀(s1:SV),s1.holds ρ B w (a.eval x)→(cw L (.conv s d) [s1]).map (fun s=>(AV.v s,([]:List Nat)))=some (c,rd)→dJ p ρ B a w o c:=by
  intro s1 hs1 hf
  cases e:cw L (.conv s d) [s1]with
  | none=>rw[e]at hf;cases hf
  | some s=>
   rw[e]at hf;simp at hf;obtain⟨rfl,_⟩:=hf;obtain⟨v,h1,h2⟩:=(er hO (fun _ _ h=>by cases h) e) B w [a.eval x] ⟨hs1,trivial⟩;exact⟨v,fin v h2,h1⟩
 simp only[cd]at h;split at h
 ·rename_i k0 n k1 k e1 e2 e3;simp at h;obtain⟨rfl,_⟩:=h;have e4:a.eval x= .int k0 n:=dQ Hx e1;refine⟨_,fin (.int k (k.wrap n)) ?_,rfl⟩;rw[e4];unfold convert;rw[Sem.run_bind,run_underlying e2];simp only[Result.andThen];rw[Sem.run_bind,run_underlying e3];rfl
 ·rename_i l _ e;exact orac (.one l) (dQ Hx (by assumption)) h
 ·split at h
  ·rename_i s1 e;exact orac _ (dP Hx e) h
  ·cases h
theorem zo {E:Ent} (hO:∀i∈L,i.OkE E p ρ) {k:Call} (ho:o.op= .call k) (h:cd p L lk (.call k)=some (c,rd)) (H:∀x∈k.args.toList,bc ρ B a w lk x):dJ p ρ B a w o c:=by
 obtain⟨cal,args,tt⟩:=k;simp only[cd]at h;split at h
 ·rename_i x t e2 ht;split at h
  ·rename_i s e
   cases e3:cw L (.len t) [s]with
   | none=>rw[e3]at h;cases h
   | some r=>
    rw[e3]at h;simp at h;obtain⟨rfl,_⟩:=h;obtain⟨v,h1,h2⟩:=(er hO (fun _ _ h=>by cases h) e3) B w [a.eval x] ⟨dP (H x (by simp[e2])) e,trivial⟩;refine⟨v,?_,h1⟩;have ea:args=#[x]:=by
     obtain⟨l⟩:=args;simp only at e2;subst e2;rfl
    subst ea;unfold execOp;rw[ho];simp only[resolve,Sem.run_bind,Sem.run_pure,Result.andThen,invoke,builtin];have:=h2 tt o.type ht;simp only[List.map_toArray,List.map_cons,List.map_nil];rw[this]
  ·cases h
 ·rename_i x y _ e2 ht;split at h
  ·rename_i s s' e e'
   cases e3:cw L .max [s,s']with
   | none=>rw[e3]at h;cases h
   | some r=>
    rw[e3]at h;simp at h;obtain⟨rfl,_⟩:=h;obtain⟨v,h1,h2⟩:=(er hO (fun _ _ h=>by cases h) e3) B w [a.eval x,a.eval y] ⟨dP (H x (by simp[e2])) e,dP (H y (by simp[e2])) e',trivial⟩;refine⟨v,?_,h1⟩;have ea:args=#[x,y]:=by
     obtain⟨l⟩:=args;simp only at e2;subst e2;rfl
    subst ea;unfold execOp;rw[ho];simp only[resolve,Sem.run_bind,Sem.run_pure,Result.andThen,invoke,builtin];have:=h2 tt o.type;simp only[List.map_toArray,List.map_cons,List.map_nil];rw[this]
  ·cases h
 ·cases h
theorem zp {E:Ent} (hO:∀i∈L,i.OkE E p ρ) (h:cd p L lk o.op=some (c,rd)) (H:∀x∈o.op.operands.toList,bc ρ B a w lk x) (H2:∀y∈rd,∀c,lk y=some c→bu ρ B a w y c):dJ p ρ B a w o c:=by
 obtain⟨op,ho⟩:∃op,o.op=op:=⟨_,rfl⟩;rw[ho]at h H
 cases op with
 | move x=>exact om (.inl ho) h (H x (by simp[Op.operands]))
 | assign x=>exact om (.inr ho) h (H x (by simp[Op.operands]))
 | pick k x y=>exact vT ho h (H k (by simp[Op.operands])) (H x (by simp[Op.operands])) (H y (by simp[Op.operands]))
 | extract x k=>exact qt ho h (H x (by simp[Op.operands]))
 | load t x=>exact vU ho h (H x (by simp[Op.operands])) H2
 | fieldAddr t x f=>exact nz ho h (H x (by simp[Op.operands]))
 | indexAddr t x ix=>exact nD ho h (H x (by simp[Op.operands])) (H ix (by simp[Op.operands]))
 | build t ps=>exact tT ho h (fun x hx=>H x.2 (by simp only[Op.operands,List.mem_map];exact⟨x,hx,rfl⟩))
 | field t x f=>exact tQ ho h (H x (by simp[Op.operands]))
 | index t x ix=>exact tR ho h (H x (by simp[Op.operands])) (H ix (by simp[Op.operands]))
 | binOp op t x y ty=>exact zn hO ho h (H x (by simp[Op.operands])) (H y (by simp[Op.operands]))
 | unOp op t x=>exact makes_un hO ho h (H x (by simp[Op.operands]))
 | convert s d x=>exact vW hO ho h (H x (by simp[Op.operands]))
 | call k=>exact zo hO ho h (fun x hx=>H x (by simp only[Op.operands,Call.operands,Array.toList_append,List.mem_append];exact .inr hx))
 | _=>simp[cd]at h
theorem eY:∀ {xs:List Operand} {ss:List SV},nw lk xs=some ss→(∀x∈xs,bc ρ B a w lk x)→bW ρ B w ss (xs.map a.eval)
 | [],ss,h,_=>by simp[nw]at h;subst h;trivial
 | x::xs,ss,h,H=>by
  simp only[nw]at h;split at h
  ·rename_i s l h1 h2;simp at h;subst h;exact⟨dP (H x (by simp)) h1,eY h2 (fun y hy=>H y (List.mem_cons_of_mem _ hy))⟩
  ·cases h
theorem zq {E:Ent} (hO:∀i∈L,i.OkE E p ρ) {k:Key} {xs:List Operand} {ss:List SV} {s:SV} (hg:zj o.op=some (k,xs)) (hs:nw lk xs=some ss) (hf:cw L k ss=some s) (H:∀x∈xs,bc ρ B a w lk x):dJ p ρ B a w o (.v s):=by
 have hv:=eY hs H;have hk:=(er hO (fun f d e=>by subst e;revert hg;unfold zj;split<;>simp) hf) B w _ hv;obtain⟨op,ho⟩:∃op,o.op=op:=⟨_,rfl⟩;rw[ho]at hg;unfold zj at hg;split at hg<;>first | (cases hg;done) | skip
 all_goals
  simp only[Option.some.injEq,Prod.mk.injEq]at hg;obtain⟨rfl,rfl⟩:=hg
  first
  | (obtain⟨v,h1,h2⟩:=hk;refine⟨v,?_,h1⟩;unfold execOp;rw[ho];simp only[Option.map_some,Option.map_none];rw[Sem.run_bind];(first | rw[h2] | skip);rfl)
  | (obtain⟨ad,h1,h2⟩:=hk;refine⟨_,?_,h2⟩;unfold execOp;rw[ho];simp only[h1];rfl)
theorem genO_sub {op:Op} {k:Key} {xs:List Operand} (hg:zj op=some (k,xs)):∀x∈xs,x∈op.operands.toList:=by
 unfold zj at hg;split at hg<;>first | (cases hg;done) | skip
 all_goals
  simp only[Option.some.injEq,Prod.mk.injEq]at hg;obtain⟨rfl,rfl⟩:=hg;simp[Op.operands]
theorem zr {E:Ent} (hO:∀i∈L,i.OkE E p ρ) (h:qK p L lk o.op=some (c,rd)) (H:∀x∈o.op.operands.toList,bc ρ B a w lk x) (H2:∀y∈rd,∀c,lk y=some c→bu ρ B a w y c):dJ p ρ B a w o c:=by
 unfold qK at h;split at h
 ·rename_i r hr;simp only[Option.some.injEq]at h;subst h;exact zp hO hr H H2
 ·split at h
  ·rename_i c' hn;simp only[Option.some.injEq,Prod.mk.injEq]at h;obtain⟨rfl,rfl⟩:=h;obtain⟨op,ho⟩:∃op,o.op=op:=⟨_,rfl⟩;rw[ho]at hn H;unfold nilO at hn;split at hn
   ·rename_i x;split at hn
    ·rename_i v off e;simp only[Option.some.injEq]at hn;subst hn;obtain⟨g,hg,e1⟩:=(dQ (H x (by simp[Op.operands])) e:Leaf.holds ρ B w (.ptr v off) (a.eval x));refine⟨_,?_,g,hg,rfl⟩;unfold execOp;rw[ho];simp only[e1];rfl
    ·cases hn
   ·cases hn
  ·split at h
   ·rename_i k xs hg;split at h
    ·rename_i ss hs
     cases hf:cw L k ss with
     | none=>rw[hf]at h;cases h
     | some s=>
      rw[hf]at h;simp only[Option.map_some,Option.some.injEq,Prod.mk.injEq]at h;obtain⟨rfl,rfl⟩:=h;exact zq hO hg hs hf (fun x hx=>H x (genO_sub hg x hx))
    ·cases h
   ·cases h
end
structure Inst where
 f:FuncId
 args:List SV
 res:AV
def Inst.Ok (p:Program) (ρ:Rho) (i:Inst):Prop:=
 (∀(vs:Array Value) (w:World),(callFunc i.f vs).run p w= .ok (.enter i.f vs) w)∧
 ∀(B:Blk) (w:World) (vs:List Value),BOk B w.heap.size→bW ρ B w i.args vs→Calls p i.f vs.toArray w (fun e w'=>∃v,e= .returned v∧i.res.holds ρ B w' v∧Below w.heap.size w w')
def Inst.Ok0 (p:Program) (ρ:Rho) (w0:Ent) (i:Inst):Prop:=
 (∀(vs:Array Value) (w:World),(callFunc i.f vs).run p w= .ok (.enter i.f vs) w)∧
 ∀(B:Blk) (w:World) (vs:List Value),w0.kept w→BOk B w.heap.size→bW ρ B w i.args vs→Calls p i.f vs.toArray w (fun e w'=>∃v,e= .returned v∧i.res.holds ρ B w' v∧Below w.heap.size w w')
theorem Inst.Ok.to0 {p:Program} {ρ:Rho} {i:Inst} (h:i.Ok p ρ) (w0:Ent):i.Ok0 p ρ w0:=⟨h.1,fun B w vs _ hB hv=>h.2 B w vs hB hv⟩
def wrD (d:Option Tmp) (c:AV):List (Nat×AV):=match d with | some d=>[(d,c)] | none=>[]
def okD (nt:Nat) (d:Option Tmp):Bool:=match d with | some d=>decide (d<nt) && decide (d<100000) | none=>true
def dt (v:Nat):Nat→List Leaf→List (Nat×AV)
 | _,[]=>[]
 | k,l::ls=>(kL v k,.v (.one l))::dt v (k+1) ls
def kQ (ls:List Leaf):Bool:=ls.all Leaf.flat
def xV (C:List Inst) (f:FuncId) (xs:List SV):Option AV:=match C.find? (fun i=>decide (i.f=f) && decide (i.args=xs))with | some i=>some i.res | none=>none
def iz (op:Op):List Nat:=op.operands.toList.flatMap rdO
def tU (L:List OIns) (f:FuncId) (xs:List SV) (pb:MutD→Bool):Option MutD:=match L.find? (fun o=>match o.key with | .mut g d=>(decide (g=f) && decide (o.xs=xs)) && pb d | _=>false)with
 | some ⟨.mut _ d,_,_⟩=>some d
 | _=>none
def kR (i:Nat):Leaf→Bool
 | .sl0=>true
 | .own k _=>k==i
 | _=>false
def preE (lk:Nat→Option AV) (vts:List (TypeId×Nat)) (q:Nat×TypeId×List Leaf):Bool:=
 decide (vts[q.1]? =some (q.2.1,q.2.2.length)) && (decide (0<q.2.2.length∧q.2.2.length≤100000) && decide (gI lk q.1 0 q.2.2.length=some q.2.2))
def usE (vts:List (TypeId×Nat)) (q:Nat×TypeId×List Leaf):Bool:=decide (vts[q.1]? =some (q.2.1,q.2.2.length)) && decide (q.2.2.length≤100000)
def nvE (vts:List (TypeId×Nat)):Option (Nat×TypeId×List Leaf)→Bool
 | some q=>decide (q.1=vts.length∧vts.length<OW∧q.2.2.length≤100000)
 | none=>true
def ov (nt:Nat) (args:List Operand):List (Nat×SV)→Option (List (Nat×AV))
 | []=>some []
 | (i,c)::r=>match args[i]?,ov nt args r with
  | some (.tmp t),some l=>if t<100000∧t<nt then some ((t,.v c)::l)else none
  | _,_=>none
def nvW:Option (Nat×TypeId×List Leaf)→List (Nat×AV)
 | some q=>dt q.1 0 q.2.2
 | none=>[]
def mutE (nt:Nat) (lk:Nat→Option AV) (vts:List (TypeId×Nat)) (op:Op) (args:List Operand) (dst:Option Tmp) (d:MutD):Option (Eff×List (TypeId×Nat)):=
 if d.pre.all (preE lk vts) && (d.us.all (usE vts) && nvE vts d.nv)then
  match ov nt args d.keep with
  | some kw=>if kw.all (fun q=>decide (dst≠some q.1))then some (⟨iz op++d.pre.flatMap (fun q=>kM q.1 0 q.2.2.length),wrD dst (zh d.xs)++(kw++(d.us.flatMap (fun q=>dt q.1 0 q.2.2)++nvW d.nv)),d.nv.map (·.1),d.ks,[]⟩,d.nv.toList.map fun q=>(q.2.1,q.2.2.length))else none
  | none=>none
 else none
def tV (p:Program) (C:List Inst) (L:List OIns) (nt:Nat) (lk:Nat→Option AV) (vts:List (TypeId×Nat)) (o:Oper):Option (Eff×List (TypeId×Nat)):=
 if !okD nt o.dst then none else
 let pv:Option (Eff×List (TypeId×Nat)):=match qK p L lk o.op with
  | some (c,rd)=>some (⟨iz o.op++rd,wrD o.dst c,none,[],[]⟩,[])
  | none=>none
 match o.op with
 | .alloc t=>match o.dst,tN p t with
  | some d,some z=>if kQ z∧z.length≤100000∧vts.length<OW then some (⟨[],(d,.v (.one (.ptr vts.length 0)))::dt vts.length 0 z,some vts.length,[],[]⟩,[(t,z.length)])else none
  | _,_=>none
 | .box t x=>match o.dst,evS lk x with
  | some d,some s=>if kQ s.leaves∧s.leaves.length≤100000∧vts.length<OW then some (⟨rdO x,(d,.v (.one (.ptr vts.length 0)))::dt vts.length 0 s.leaves,some vts.length,[],[]⟩,[(t,s.leaves.length)])else none
  | _,_=>none
 | .store t x y=>match o.dst,evL lk x,evS lk y with
  | none,some (.ptr v off),some s=>match vts[v]? with
   | some (_,n)=>if szB p t=some s.leaves.length∧kQ s.leaves∧off+s.leaves.length≤n∧n≤100000∧v<OW then some (⟨rdO x++rdO y,dt v off s.leaves,none,[],[]⟩,[])else none
   | none=>none
  | _,_,_=>none
 | .call k=>match k.callee with
  | .value z=>match evL lk z,nw lk k.args.toList with
   | some (.fn f),some xs=>match xV C f xs with
    | some r=>some (⟨iz o.op,wrD o.dst r,none,[],[]⟩,[])
    | none=>match tU L f xs (fun d=>d.pre.all (preE lk vts))with
     | some d=>mutE nt lk vts o.op k.args.toList o.dst d
     | none=>none
   | _,_=>none
  | .builtin .append=>match o.dst,k.args.toList,k.argTypes.toList with
   | some d,[x,y],[t,t']=>match evL lk x,evL lk y with
    | some lx,some ly=>if t=t' then match cw L (.app t) [.one lx,.one ly]with
      | some (.one (.own i m))=>if kR i lx then some (⟨iz o.op,[(d,.v (.one (.own i m)))],none,[i],[]⟩,[])else none
      | _=>none
     else none
    | _,_=>none
   | _,_,_=>none
  | _=>pv
 | .buildSlice t n parts=>match o.dst,nw lk (parts.toList.map (·.2))with
  | some _,some xs=>(cw L (.bs t n (parts.toList.map (·.1))) xs).map fun r=>(⟨iz o.op,wrD o.dst (.v r),none,[],[]⟩,[])
  | _,_=>none
 | _=>pv
def vX (p:Program) (C:List Inst) (L:List OIns) (nt:Nat) (ops:Array Oper) (lk:Nat→Option AV) (vts:List (TypeId×Nat)) (o:Oper):Option (Eff×List (TypeId×Nat)):=
 match o.guard with
 | none=>tV p C L nt lk vts o
 | some (g,b)=>match cD ops g with
  | some t=>match evA lk (.tmp t)with
   | some (.v (.one (.b x)))=>if x=b then(tV p C L nt lk vts o).map fun e=>({e.1 with rd:=t::e.1.rd},e.2)else if okD nt o.dst then some (⟨[t],wrD o.dst .any,none,[],[]⟩,[])else none
   | some .any=>if okD nt o.dst then some (⟨[t],wrD o.dst .any,none,[],[]⟩,[])else none
   | _=>none
  | none=>none
section
variable {p:Program} {ρ:Rho} {B B':Blk} {a a':Act} {w w':World} {w0:Ent} {C:List Inst} {L:List OIns} {lk:Nat→Option AV} {vt:List (TypeId×Nat)} {nt:Nat} {Q:Exit→Act→World→Prop} {o:Oper} {ops:Array Oper}
theorem bu.below {x:Nat} {c:AV} (h:bu ρ B a w x c) (hB:BLe B B') (hN:vO w.heap.size B B') (hb:Below w.heap.size w w') (ht:x<100000→a'.tmps[x]? =a.tmps[x]?):bu ρ B' a' w' x c:=by
 unfold bu at h⊢;split at h
 ·rename_i hx;rw[if_pos hx];obtain⟨u,h1,h2⟩:=h;exact⟨u,by rw[ht hx];exact h1,h2.mono hB hN hb⟩
 ·rename_i hx;rw[if_neg hx];obtain⟨g,cs,ty,u,h1,h2,h3,h4⟩:=h;exact⟨g,cs,ty,u,hB.v _ _ h1,by rw[hb.block g (Array.getElem?_eq_some_iff.1 h2).1];exact h2,h3,h4.mono hB hN hb⟩
theorem Inv.below' (h:Inv vt w0 nt B a w) (hb:Below w.heap.size w w') (hs:a'.tmps.size=a.tmps.size) (hd:a'.defers=a.defers):Inv vt w0 nt B a' w':=
 ⟨fun v g hv=>by
  obtain⟨h1,cs,ty,h2,h3,h4⟩:=h.blk v g hv;exact⟨h1,cs,ty,h2,by rw[hb.block g (Array.getElem?_eq_some_iff.1 h3).1];exact h3,h4⟩,
  fun k g hv=>by
  obtain⟨h1,h2⟩:=h.own k g hv;exact⟨h1,h2.blk (hb.block g h2.1) hb.size⟩,
  h.inj,h.below.below hb,by rw[hs,h.size],by rw[hd,h.dfr],h.pin⟩
theorem kS (d:Option Tmp) (v:Value):(a.put d v).tmps.size=a.tmps.size:=by cases d<;>simp[Act.put]
theorem nK (d:Option Tmp) (v:Value):(a.put d v).defers=a.defers:=by cases d<;>rfl
theorem oA {d:Option Tmp} {v:Value} {x:Nat} (h:∀t,d=some t→t≠x):(a.put d v).tmps[x]? =a.tmps[x]? :=by
 cases d with
 | none=>rfl
 | some t=>simp[Act.put,Array.getElem?_setIfInBounds,h t rfl]
theorem sb {d:Tmp} {v:Value} (h:d<a.tmps.size):(a.put (some d) v).tmps[d]? =some v:=by simp[Act.put,h]
theorem eZ {rd:List Nat} {d:Option Tmp} {c:AV} {v:Value} (hi:Inv vt w0 nt B a w) (hd:okD nt d=true) (hb:Below w.heap.size w w') (hv:c.holds ρ B w' v):
  Post ρ vt w0 nt ⟨rd,wrD d c,none,[],[]⟩ B a w B (a.put d v) w':=by
 refine⟨BLe.refl,hi.below' hb (kS _ _) (nK _ _),fun q hq=> ?_,fun x c' hx hne _=>hx.below BLe.refl .refl hb (fun _=>oA (fun t ht=> ?_)),fun u h1 h2=>absurd h1 h2⟩
 ·cases d with
  | none=>cases hq
  | some t=>
   simp only[wrD,List.mem_singleton]at hq;subst hq;simp only[okD,Bool.and_eq_true,decide_eq_true_eq]at hd;unfold bu;rw[if_pos hd.2];exact⟨v,sb (by rw[hi.size];exact hd.1),hv⟩
 ·subst ht;exact hne (t,c) (by simp[wrD])
theorem jN:∀ {ls:List Leaf} {v k:Nat} {q:Nat×AV},q∈dt v k ls↔∃j l,ls[j]? =some l∧q=(kL v (k+j),.v (.one l))
 | [],v,k,q=>by simp[dt]
 | l::ls,v,k,q=>by
  simp only[dt,List.mem_cons,jN (ls:=ls)];constructor
  ·rintro(rfl | ⟨j,l',h1,rfl⟩)
   ·exact⟨0,l,rfl,rfl⟩
   ·exact⟨j+1,l',by simpa using h1,by rw[show k+1+j=k+(j+1)from by omega]⟩
  ·rintro⟨j,l',h1,rfl⟩
   match j with
   | 0=>simp at h1;subst h1;exact .inl rfl
   | j+1=>exact .inr ⟨j,l',by simpa using h1,by rw[show k+1+j=k+(j+1)from by omega]⟩
theorem Inv.bok (hi:Inv vt w0 nt B a w):BOk B w.heap.size:=fun g h=>by
 rcases h with⟨x,h⟩ | ⟨k,h⟩
 ·obtain⟨_,cs,ty,_,h3,_⟩:=hi.blk x g h;exact(Array.getElem?_eq_some_iff.1 h3).1
 ·exact(hi.own k g h).2.1
theorem tW {rd:List Nat} {d:Tmp} {t:TypeId} {ls:List Leaf} {cs:Array Value} {nv:Nat} (hi:Inv vt w0 nt B a w) (hd:okD nt (some d)=true) (hf:kQ ls=true) (hl:ls.length≤100000) (hc:aC ρ B w ls cs.toList)
  (hv:vt[nv]? =some (t,ls.length)) (hn:B.v nv=none):
  Post ρ vt w0 nt ⟨rd,(d,.v (.one (.ptr nv 0)))::dt nv 0 ls,some nv,[],[]⟩ B a w (⟨fun v=>if v=nv then some w.heap.size else B.v v,B.o⟩:Blk) (a.put (some d) (.pointer (some ⟨w.heap.size,0,none⟩))) (w.alloc (.cells cs t)):=by
 have hle:BLe B (⟨fun v=>if v=nv then some w.heap.size else B.v v,B.o⟩:Blk):=⟨fun v g h=>by
  show(if v=nv then _ else _)=_;rw[if_neg (fun e=>by rw[e,hn]at h;cases h)];exact h,fun _ _ h=>h⟩
 have hN:vO w.heap.size B (⟨fun v=>if v=nv then some w.heap.size else B.v v,B.o⟩:Blk):=fun g hg=>by
  rcases hg with⟨x,hx⟩ | ⟨k,hk⟩
  ·by_cases e:x=nv
   ·simp only[e,if_true,Option.some.injEq]at hx;exact .inr (by omega)
   ·simp only[e,if_false]at hx;exact .inl (.inl ⟨x,hx⟩)
  ·exact .inl (.inr ⟨k,hk⟩)
 have hb:=r7 w (.cells cs t);have hnew:(w.alloc (.cells cs t)).heap[w.heap.size]? =some (.cells cs t (0,0)):=heap_alloc_new w _;have hlt:∀v g,B.v v=some g→g<w.heap.size:=fun v g h=>hi.bok g (.inl ⟨v,h⟩)
 have hlen:cs.size=ls.length:=by have:=hc.len;simpa using this
 refine⟨hle,⟨fun v g hg=> ?_,fun k g hg=> ?_,⟨fun v v' g h1 h2=> ?_,hi.inj.o,fun v k g h1 h2=> ?_⟩,hi.below.below hb,by rw[kS,hi.size],by rw[nK,hi.dfr],fun x g h=>hle.v _ _ (hi.pin x g h)⟩,fun q hq=> ?_,fun x c hx hne _=>hx.below hle hN hb (fun _=>oA (fun t ht=> ?_)),fun u h1 h2=> ?_⟩
 ·by_cases e:v=nv
  ·subst e;simp only[if_true,Option.some.injEq]at hg;subst hg;refine⟨.inl hi.below.size,cs,t,by rw[hv,hlen],hnew,fun k n hk=> ?_⟩;rw[←Array.getElem?_toList]at hk;have hkl:k<ls.length:=by rw[←hc.len];exact(List.getElem?_eq_some_iff.1 hk).1
   obtain⟨u,h1,h2⟩:=hc.get (List.getElem?_eq_getElem hkl);rw[hk]at h1;injection h1 with h1;subst h1;exact(h2.flat (List.all_eq_true.1 hf _ (List.getElem_mem hkl))).2.2 n rfl
  ·simp only[e,if_false]at hg;obtain⟨h1,cs',ty,h2,h3,h4⟩:=hi.blk v g hg;exact⟨h1,cs',ty,h2,by rw[hb.block g (hlt v g hg)];exact h3,h4⟩
 ·obtain⟨h1,h2⟩:=hi.own k g hg;exact⟨h1,h2.blk (hb.block g h2.1) hb.size⟩
 ·by_cases e:v=nv<;>by_cases e':v'=nv
  ·rw[e,e']
  ·simp only[e,e',if_true,if_false,Option.some.injEq]at h1 h2;have:=hlt v' g h2;omega
  ·simp only[e,e',if_true,if_false,Option.some.injEq]at h1 h2;have:=hlt v g h1;omega
  ·simp only[e,e',if_false]at h1 h2;exact hi.inj.v v v' g h1 h2
 ·by_cases e:v=nv
  ·simp only[e,if_true,Option.some.injEq]at h1;have:=(hi.own k g h2).2.1;omega
  ·simp only[e,if_false]at h1;exact hi.inj.vo v k g h1 h2
 ·rcases List.mem_cons.1 hq with rfl | hq
  ·simp only[okD,Bool.and_eq_true,decide_eq_true_eq]at hd;unfold bu;rw[if_pos hd.2];exact⟨_,sb (by rw[hi.size];exact hd.1),w.heap.size,by simp,rfl⟩
  ·obtain⟨j,l,h1,rfl⟩:=jN.1 hq;have hjl:=(List.getElem?_eq_some_iff.1 h1).1;obtain⟨u,h2,h3⟩:=hc.get h1;rw[Nat.zero_add,gi (by omega)];exact⟨w.heap.size,cs,t,u,by simp,hnew,by rw[←Array.getElem?_toList];exact h2,(h3.mono hle hN hb:Leaf.holds ρ _ _ l u)⟩
 ·injection ht with ht;subst ht;exact hne (d,.v (.one (.ptr nv 0))) (by simp)
 ·by_cases e:u=nv
  ·rw[e]
  ·simp only[e,if_false]at h2;exact absurd h1 h2
end
end Go.Proofs.YtggfmklppkioeaaGreat
