/- lookup.Latest: what is answered. The plain law of poses: they form a group that acts on points and keeps distances. The example that the laws of package lookup try first: its tree, plainly. Texts of fractions, by the executor. Rows of texts, compared. Vectors and translations of whole numbers. A region by the executor, in the middle of a walk. lookup.Latest. Calls on no tree, as an executor meets them. What arguments of the type roboticslaw29.Query are. How transforms compose, plainly. Trees of frames as unknowns of the executor. Texts of poses of package pose. The frames of the Top laws. The example that the laws Top.. try: its tree, plainly. The executor's state in the middle of a walk: any number of variables. What LookupConsistent asks of a tree, by the executor. Which poses are tiny, as they come in. What arguments of the type []roboticstop.Turn are. The pose of a turn. A turn in a variable of its own. -/
import Derived.Test.YtggfmklppkioeaaGreatP18
import Derived.Sort.CutIn
import Derived.Shelf.Strings.OnBuilder
namespace Go.Proofs.YtggfmklppkioeaaGreat
set_option linter.unusedSimpArgs false
set_option linter.unusedVariables false
set_option maxRecDepth 100000
open Go.RowKit
open Classical
structure EndS (W5 wr:World) (g:Nat) (v:Value) (xs:List Int):Prop where
 row:IntsAt wr g v xs
 kb:Kb W5.heap.size g W5 wr
 own:∀k,v.ownBlock=some k→W5.heap.size≤k∨k=g
theorem EndS.below {W5 wr w':World} {g:Nat} {v:Value} {xs:List Int} (h:EndS W5 wr g v xs) (hb:Below wr.heap.size wr w'):EndS W5 w' g v xs:=
 ⟨iY h.row (fun k hk=>hb.block k (mL h.row hk).2),h.kb.trans (Kb.below (hb.mono h.kb.size)),h.own⟩
theorem EndS.alloc {W5 wr:World} {g:Nat} {v:Value} {xs:List Int} (h:EndS W5 wr g v xs) (o:Obj):EndS W5 (wr.alloc o) g v xs:=h.below ((Below.refl _ _).alloc (Nat.le_refl _) o)
theorem EndS.grown {W5 wr w':World} {g:Nat} {v v':Value} {xs ys:List Int} (h:EndS W5 wr g v xs) (hg:wr.grownBy w' v.ownBlock) (hr:IntsAt w' g v' ys) (ho:v'.ownBlock=v.ownBlock∨v'.ownBlock=some wr.heap.size):EndS W5 w' g v' ys:=
 ⟨hr,h.kb.grown hg h.kb.size h.own,fun k hk=>by
  rcases ho with e | e
  ·exact h.own k (e▸hk)
  ·rw[e]at hk;injection hk with hk;subst hk;exact .inl h.kb.size⟩
theorem EndS.app {W5 wr:World} {g:Nat} {v:Value} {xs:List Int} {ty:TypeId} (x:Int) (h:EndS W5 wr g v xs) (hb:g≤wr.heap.size) (hl:xs.length≤100000):
  ∃v' w',(Builtin.append_ #[171,171] ty #[v,.slice (some ⟨wr.heap.size,0,none⟩) 1 1]).run Tryz.prog (wr.alloc (.cells #[.int .i64 x] 3))= .ok v' w'∧EndS W5 w' g v' (xs++ [x])∧∀B,B<wr.heap.size→v.ownBlock≠some B→w'.heap[B]? =wr.heap[B]? ∧v'.ownBlock≠some B:=by
 have hmx:(1000000:Nat)≤maxLen:=by unfold maxLen;omega
 obtain⟨i0,hi,hz0,hz1,hz2⟩:=info_parts (show(Tryz.prog.info? 3).map (fun i=>(i.zero,i.size,i.bytes))=some (some (.int .i64 0),1,8)by kernel_rfl);have h2:=h.alloc (.cells #[.int .i64 x] 3);obtain⟨v',w',k1,k2,k3,_,k5⟩:=run_append_own_at (P:=Tryz.prog) (w:=wr.alloc (.cells #[.int .i64 x] 3)) g 171 ty 3 i0 (.int .i64 0) 1 8 Tryz.underlying171 hi hz0 hz1 hz2 rfl (by decide) v xs.length (xs.map (Value.int .i64)) h2.row ⟨wr.heap.size,0,none⟩ 1 1 [.int .i64 x] (by simp) (fun j u hu=>by
  rw[dr,Nat.zero_add,aA (heap_alloc_new wr _)]
  cases j with
  | zero=>simpa using hu
  | succ j=>simp at hu) (fun u hu=>by simp only[List.mem_singleton]at hu;subst hu;rfl) (by omega) (by omega) (by rw[asz];omega)
 refine⟨v',w',k1,h2.grown k3 ?_ k5,fun B hB hn=>⟨?_,fun e=> ?_⟩⟩
 ·show w'.ownsRow g 3 1 v' (xs++ [x]).length ((xs++ [x]).map (Value.int .i64));rw[List.length_append,List.map_append];exact k2
 ·rw[k3.block B (by rw[asz];omega) (fun e=>hn e.symm)];exact heap_alloc_old _ _ hB
 ·rcases k5 with e2 | e2
  ·exact hn (e2▸e)
  ·rw[e2,asz]at e;injection e with e;omega
structure RdS (W5 wc:World) (g B:Nat) (v:Value) (xs:List Int) (q:Nm×Lk):Prop where
 es:EndS W5 wc g v xs
 lk:wc.heap[B]? =some (.cells #[.string q.1,.string q.2.par,.int .i64 q.2.fr,.int .i64 q.2.un] 76 (0,0))
 nb:v.ownBlock≠some B
theorem RdS.lt {W5 wc:World} {g B:Nat} {v:Value} {xs:List Int} {q:Nm×Lk} (h:RdS W5 wc g B v xs q):B<wc.heap.size:=(Array.getElem?_eq_some_iff.1 h.lk).1
theorem RdS.below {W5 wc w':World} {g B:Nat} {v:Value} {xs:List Int} {q:Nm×Lk} (h:RdS W5 wc g B v xs q) (k:Below wc.heap.size wc w'):RdS W5 w' g B v xs q:=
 ⟨h.es.below k,(k.block B h.lt).trans h.lk,h.nb⟩
theorem RdS.app {W5 wc:World} {g B:Nat} {v:Value} {xs:List Int} {q:Nm×Lk} {ty:TypeId} (x:Int) (h:RdS W5 wc g B v xs q) (hb:g≤wc.heap.size) (hl:xs.length≤100000):
  ∃v' w',(Builtin.append_ #[171,171] ty #[v,.slice (some ⟨wc.heap.size,0,none⟩) 1 1]).run Tryz.prog (wc.alloc (.cells #[.int .i64 x] 3))= .ok v' w'∧RdS W5 w' g B v' (xs++ [x]) q:=by
 obtain⟨v',w',h1,h2,h3⟩:=h.es.app (ty:=ty) x hb hl;exact⟨v',w',h1,h2,(h3 B h.lt h.nb).1.trans h.lk,(h3 B h.lt h.nb).2⟩
theorem RdS.c0 {W5 wc:World} {g B:Nat} {v:Value} {xs:List Int} {q:Nm×Lk} (h:RdS W5 wc g B v xs q):wc.cell? ⟨B,0,none⟩=some (.string q.1)∧wc.cell? ⟨B,2,none⟩=some (.int .i64 q.2.fr)∧wc.cell? ⟨B,3,none⟩=some (.int .i64 q.2.un):=
 ⟨by rw[aA h.lk];rfl,by rw[aA h.lk];rfl,by rw[aA h.lk];rfl⟩
abbrev lkW (wr:World) (q:Nm×Lk):World:=(wr.alloc (.cells #[.string ⟨#[]⟩,.string ⟨#[]⟩,.int .i64 0,.int .i64 0] 76)).setCells wr.heap.size 0 (lkCs q)
theorem RdS.start {W5 wr:World} {g:Nat} {v:Value} {xs:List Int} (q:Nm×Lk) (h:EndS W5 wr g v xs):RdS W5 (lkW wr q) g wr.heap.size v xs q where
 es:=h.below (aX _ 0 _ ((Below.refl _ _).alloc (Nat.le_refl _) _) (Nat.le_refl _))
 lk:=by
  unfold lkW;rw[cX (lkCs q) _ wr.heap.size 0 _ _ (heap_alloc_new wr _),gT (by simp[lkCs])];rfl
 nb:=fun e=>by have:=(mL h.row e).2;omega
end Go.Proofs.YtggfmklppkioeaaGreat
namespace Go.Proofs.YtggfmklppkioeaaGreat
set_option linter.unusedSimpArgs false
set_option linter.unusedVariables false
set_option maxRecDepth 100000
open Go.RowKit
def VR.add (a b:VR):VR:=⟨a.x+b.x,a.y+b.y,a.z+b.z⟩
def VR.sub (a b:VR):VR:=⟨a.x - b.x,a.y - b.y,a.z - b.z⟩
theorem VR.app_sub (q:QR) (u v:VR):q.app (u.sub v)=(q.app u).sub (q.app v):=by unfold QR.app QR.rot VR.sub VR.smul;ext<;>simp only<;>grind
section
variable {p q:Qq} {x y v u:Vq} {a b c:Pq}
theorem sub_r (hx:x.good) (hy:y.good):(x.sub y).r=x.r.sub y.r:=by
 have h:=yg hx hy;unfold VR.sub Vq.r;ext<;>simp only[h]
theorem r_sub (h:q.good) (hx:x.good) (hy:y.good):q.app (x.sub y)=(q.app x).sub (q.app y):=
 Vq.inj_r (ci h (hx.sub hy)) ((ci h hx).sub (ci h hy)) (by
  rw[qX h (hx.sub hy),sub_r hx hy,VR.app_sub,sub_r (ci h hx) (ci h hy),qX h hx,qX h hy])
theorem conj_m (a:QR) (h:a.nrm≠0):Sim QR.one (a.conj.mul a):=⟨a.nrm,h,by unfold QR.mul QR.conj QR.one QR.smul QR.nrm;ext<;>simp only<;>grind⟩
theorem g_inv' (h:q.good):q.inv.mul q=Qq.id:=by
 refine um (fg (aZ h) h) nN ?_;have h1:=(yj (aZ h) h).symm.trans (((yk h).symm).mul (Sim.refl q.r));rw[id_r];exact h1.trans (conj_m q.r (dK h)).symm
theorem o_rigid (ga:a.good) (gu:u.good) (gv:v.good):a.sq u v=(u.sub v).dot (u.sub v):=by
 have e:(a.app u).sub (a.app v)=a.rot.app (u.sub v):=by
  rw[r_sub ga.rot gu gv];have g1:=ci ga.rot gu;have g2:=ci ga.rot gv;have h1:=mX g1 ga.pos;have h2:=mX g2 ga.pos;have h3:=yg (g1.add ga.pos) (g2.add ga.pos);have h4:=yg g1 g2;show((a.rot.app u).add a.pos).sub ((a.rot.app v).add a.pos)=_;exact Vq.inj ((g1.add ga.pos).sub (g2.add ga.pos)) (g1.sub g2) (by grind) (by grind) (by grind)
 unfold Pq.sq;rw[e,r_dot ga.rot (gu.sub gv) (gu.sub gv)]
end
end Go.Proofs.YtggfmklppkioeaaGreat
namespace Go.Proofs.YtggfmklppkioeaaGreat
set_option linter.unusedSimpArgs false
set_option linter.unusedVariables false
set_option maxRecDepth 100000
open Go.RowKit
open Classical
def sh (x y z:Int):Pq:=⟨Qq.id,Vq.of x y z⟩
theorem sh_good (x y z:Int):(sh x y z).good:=⟨nN,Vq.good.of x y z⟩
theorem sh_ok {x y z:Int} (hx: -1000000≤x∧x≤1000000) (hy: -1000000≤y∧y≤1000000) (hz: -1000000≤z∧z≤1000000):(sh x y z).ok 2:=
 ⟨oX,⟨aL (by omega) (by omega),aL (by omega) (by omega),aL (by omega) (by omega)⟩⟩
theorem vi {S:List St} {a:Int} {p:Pq} (g:p.good):qw S (St.mk a p).raw=sR S ⟨a,p⟩:=by
 have h:∃s:St,(St.mk a p).raw=s.raw∧s.pose.good:=⟨⟨a,p⟩,rfl,g⟩;unfold qw;rw[dif_pos h];have h1:=h.choose_spec.1;generalize h.choose=s at *;obtain⟨b,q⟩:=s;have e1:=uX h1;have e2:a=b:=by simp only[St.raw,RSt.mk.injEq]at h1;exact h1.1
 rw[e1,e2]
abbrev nC:Nm:=nm1 99
abbrev awS:List St:=[⟨0,sh 1 0 0⟩,⟨10,sh 3 0 0⟩]
abbrev awB:Lk:=⟨nA,0, -1,false,Pq.zero,awS⟩
abbrev awC:Lk:=⟨nA,5, -1,true,sh 0 1 0,[]⟩
end Go.Proofs.YtggfmklppkioeaaGreat
namespace Go.Proofs.YtggfmklppkioeaaGreat
set_option linter.unusedSimpArgs false
set_option linter.unusedVariables false
set_option maxRecDepth 100000
open Go.RowKit
theorem q_fFormat (va:Value) (x:Fq) (w:World) (ha:IsQ w va x) (h:x.ok 1000000000):
  Calls Tryz.prog 73 #[va] w fun e w'=>cI w (.string x.fmt) e w':=by
 by_cases c0:x.q=1
 ·rcases Bool.eq_false_or_eq_true (x.s)with c1 | c1
  ·have z1:=dl x.p;have z2:=dl x.q;have z3:=h.p;have z4:=h.q;refine(cRn (ρ:=[.dig (nl x.p) x.p,.dig (nl x.q) x.q,.val (.string (cC x.p)),.row 31 1 [.dig (nl x.q) x.q],.val (.string ((ByteArray.mk #[45])++(cC x.p)))]) (args:=[.agg [.b true,.ref 0,.ref 1]]) (vs:=[va]) (r:=.v (.one (.ref 4)))
    (ae (mn (i:=0) rfl (ls (n:=2) rfl) (Nat.le_trans h.p (by decide))) (ae (jF (n:=3) rfl (decide_eq_true c0) (Nat.le_trans h.q (by decide))) ah))
    (af (gM (m:=3) (ss:=[nt 1]) (N:=1) (sz:=1) (z:=[.sl0]) (qs:=[.dig (nl x.q) x.q]) (ix:=[0]) (ls:=[.ref 1]) Tryz.underlying251 (by kernel_rfl) (by kernel_rfl) (by decide) (by decide) (by decide) rfl (by kernel_rfl) ⟨bG rfl,trivial⟩ rfl) (af (kZ (n:=2) (m:=4) (s:=(ByteArray.mk #[45])) (z:=(cC x.p)) (t:=9) (by kernel_rfl) rfl rfl (by simp only[ByteArray.size_append,bsz,List.size_toArray,List.length_cons,List.length_nil];omega)) (ai))) Tryz.func73 (by kernel_rfl) ⟨(inF ha (lb c1) rfl rfl),trivial⟩).mono ?_
   rintro e w' ⟨v,rfl,h1,h2⟩;have h1:=(aO rfl h1);subst h1;exact⟨by unfold Fq.fmt;simp[ByteArray.append_assoc,c0,c1],h2⟩
  ·have z1:=dl x.p;have z2:=dl x.q;have z3:=h.p;have z4:=h.q;refine(cRn (ρ:=[.dig (nl x.p) x.p,.dig (nl x.q) x.q,.val (.string (cC x.p)),.row 31 1 [.dig (nl x.q) x.q]]) (args:=[.agg [.b false,.ref 0,.ref 1]]) (vs:=[va]) (r:=.v (.one (.ref 2)))
    (ae (mn (i:=0) rfl (ls (n:=2) rfl) (Nat.le_trans h.p (by decide))) (ae (jF (n:=3) rfl (decide_eq_true c0) (Nat.le_trans h.q (by decide))) ah))
    (af (gM (m:=3) (ss:=[nt 1]) (N:=1) (sz:=1) (z:=[.sl0]) (qs:=[.dig (nl x.q) x.q]) (ix:=[0]) (ls:=[.ref 1]) Tryz.underlying251 (by kernel_rfl) (by kernel_rfl) (by decide) (by decide) (by decide) rfl (by kernel_rfl) ⟨bG rfl,trivial⟩ rfl) (ai)) Tryz.func73 (by kernel_rfl) ⟨(inF ha (lb c1) rfl rfl),trivial⟩).mono ?_
   rintro e w' ⟨v,rfl,h1,h2⟩;have h1:=(aO rfl h1);subst h1;exact⟨by unfold Fq.fmt;simp[ByteArray.append_assoc,c0,c1],h2⟩
 ·rcases Bool.eq_false_or_eq_true (x.s)with c1 | c1
  ·have z1:=dl x.p;have z2:=dl x.q;have z3:=h.p;have z4:=h.q;refine(cRn (ρ:=[.dig (nl x.p) x.p,.dig (nl x.q) x.q,.val (.string (cC x.p)),.row 31 1 [.dig (nl x.q) x.q],.val (.string (cC x.q)),.val (.string ((ByteArray.mk #[47])++(cC x.q))),.val (.string ((cC x.p)++((ByteArray.mk #[47])++(cC x.q)))),.val (.string ((ByteArray.mk #[45])++((cC x.p)++((ByteArray.mk #[47])++(cC x.q)))))]) (args:=[.agg [.b true,.ref 0,.ref 1]]) (vs:=[va]) (r:=.v (.one (.ref 7)))
    (ae (mn (i:=0) rfl (ls (n:=2) rfl) (Nat.le_trans h.p (by decide))) (ae (jF (n:=3) rfl (decide_eq_false c0) (Nat.le_trans h.q (by decide))) (ae (mn (i:=1) rfl (ls (n:=4) rfl) (Nat.le_trans h.q (by decide))) ah)))
    (af (gM (m:=3) (ss:=[nt 1]) (N:=1) (sz:=1) (z:=[.sl0]) (qs:=[.dig (nl x.q) x.q]) (ix:=[0]) (ls:=[.ref 1]) Tryz.underlying251 (by kernel_rfl) (by kernel_rfl) (by decide) (by decide) (by decide) rfl (by kernel_rfl) ⟨bG rfl,trivial⟩ rfl) (af (kZ (n:=4) (m:=5) (s:=(ByteArray.mk #[47])) (z:=(cC x.q)) (t:=9) (by kernel_rfl) rfl rfl (by simp only[ByteArray.size_append,bsz,List.size_toArray,List.length_cons,List.length_nil];omega)) (af (nM (n:=2) (m:=6) (k:=5) (s:=(cC x.p)) (z:=((ByteArray.mk #[47])++(cC x.q))) (t:=9) (by kernel_rfl) rfl rfl rfl (by simp only[ByteArray.size_append,bsz,List.size_toArray,List.length_cons,List.length_nil];omega)) (af (kZ (n:=6) (m:=7) (s:=(ByteArray.mk #[45])) (z:=((cC x.p)++((ByteArray.mk #[47])++(cC x.q)))) (t:=9) (by kernel_rfl) rfl rfl (by simp only[ByteArray.size_append,bsz,List.size_toArray,List.length_cons,List.length_nil];omega)) (ai))))) Tryz.func73 (by kernel_rfl) ⟨(inF ha (lb c1) rfl rfl),trivial⟩).mono ?_
   rintro e w' ⟨v,rfl,h1,h2⟩;have h1:=(aO rfl h1);subst h1;exact⟨by unfold Fq.fmt;simp[ByteArray.append_assoc,c0,c1],h2⟩
  ·have z1:=dl x.p;have z2:=dl x.q;have z3:=h.p;have z4:=h.q;refine(cRn (ρ:=[.dig (nl x.p) x.p,.dig (nl x.q) x.q,.val (.string (cC x.p)),.row 31 1 [.dig (nl x.q) x.q],.val (.string (cC x.q)),.val (.string ((ByteArray.mk #[47])++(cC x.q))),.val (.string ((cC x.p)++((ByteArray.mk #[47])++(cC x.q))))]) (args:=[.agg [.b false,.ref 0,.ref 1]]) (vs:=[va]) (r:=.v (.one (.ref 6)))
    (ae (mn (i:=0) rfl (ls (n:=2) rfl) (Nat.le_trans h.p (by decide))) (ae (jF (n:=3) rfl (decide_eq_false c0) (Nat.le_trans h.q (by decide))) (ae (mn (i:=1) rfl (ls (n:=4) rfl) (Nat.le_trans h.q (by decide))) ah)))
    (af (gM (m:=3) (ss:=[nt 1]) (N:=1) (sz:=1) (z:=[.sl0]) (qs:=[.dig (nl x.q) x.q]) (ix:=[0]) (ls:=[.ref 1]) Tryz.underlying251 (by kernel_rfl) (by kernel_rfl) (by decide) (by decide) (by decide) rfl (by kernel_rfl) ⟨bG rfl,trivial⟩ rfl) (af (kZ (n:=4) (m:=5) (s:=(ByteArray.mk #[47])) (z:=(cC x.q)) (t:=9) (by kernel_rfl) rfl rfl (by simp only[ByteArray.size_append,bsz,List.size_toArray,List.length_cons,List.length_nil];omega)) (af (nM (n:=2) (m:=6) (k:=5) (s:=(cC x.p)) (z:=((ByteArray.mk #[47])++(cC x.q))) (t:=9) (by kernel_rfl) rfl rfl rfl (by simp only[ByteArray.size_append,bsz,List.size_toArray,List.length_cons,List.length_nil];omega)) (ai)))) Tryz.func73 (by kernel_rfl) ⟨(inF ha (lb c1) rfl rfl),trivial⟩).mono ?_
   rintro e w' ⟨v,rfl,h1,h2⟩;have h1:=(aO rfl h1);subst h1;exact⟨by unfold Fq.fmt;simp[ByteArray.append_assoc,c0,c1],h2⟩
end Go.Proofs.YtggfmklppkioeaaGreat
namespace Go.Proofs.YtggfmklppkioeaaGreat
set_option linter.unusedSimpArgs false
set_option linter.unusedVariables false
set_option maxRecDepth 100000
open Go.RowKit
open Classical
def Nms (w:World) (v:Value) (L:List Nm):Prop:=∃ad cap,v= .slice ad L.length cap∧∀(k:Nat) (x:Nm),L[k]? =some x→∃b o,ad=some ⟨b,o,none⟩∧b<w.heap.size∧w.cell? ⟨b,o+k,none⟩=some (.string x)
theorem Nms.below {w w':World} {v:Value} {L:List Nm} (h:Nms w v L) (k:Below w.heap.size w w'):Nms w' v L:=by
 obtain⟨ad,cap,rfl,hc⟩:=h;refine⟨ad,cap,rfl,fun i x hx=> ?_⟩;obtain⟨b,o,e,hb,hx⟩:=hc i x hx;exact⟨b,o,e,Nat.lt_of_lt_of_le hb k.size,by rw[k.cell (p:=⟨b,_,none⟩) hb];exact hx⟩
end Go.Proofs.YtggfmklppkioeaaGreat
namespace Go.Proofs.YtggfmklppkioeaaGreat
set_option linter.unusedSimpArgs false
set_option linter.unusedVariables false
set_option maxRecDepth 100000
open Go.RowKit
def vj (x y z:Int):List Fq:=[(Fq.ofInt x),(Fq.ofInt y),(Fq.ofInt z)]
theorem q_fOfK {w:World} (x y z:Int) (hx: -100000≤x∧x≤100000) (hy: -100000≤y∧y≤100000) (hz: -100000≤z∧z≤100000):
  Calls Tryz.prog 23 #[.int .i64 x,.int .i64 y,.int .i64 z] w fun e w'=>fj w (Vq.of x y z) e w':=by
 refine(gL (ρ:=frs (vj x y z)++([.val (.int .i64 x),.val (.int .i64 y),.val (.int .i64 z)]:List Vp)) (w:=w) (fuel:=300) (args:=[.one (.ref 9),.one (.ref 10),.one (.ref 11)]) (vs:=[.int .i64 x,.int .i64 y,.int .i64 z]) (r:=.v (row [0,1,2])) (lo:=[]) (obs:=[])
  (ae (tc (k:=0) (u:=x) (aw (n:=9) rfl) rfl (by omega) (by omega)) (ae (tc (k:=1) (u:=y) (aw (n:=10) rfl) rfl (by omega) (by omega)) (ae (tc (k:=2) (u:=z) (aw (n:=11) rfl) rfl (by omega) (by omega)) ah)))
  ai (by kernel_rfl) Tryz.func23 (by kernel_rfl) aT ⟨aB (n:=9) rfl (aY (by decide)),⟨aB (n:=10) rfl (aY (by decide)),⟨aB (n:=11) rfl (aY (by decide)),trivial⟩⟩⟩).mono ?_
 rintro e w' ⟨v,rfl,h1,h2⟩;exact⟨v,rfl,(ag (xs:=vj x y z) (ks:=[0,1,2]) (vs:=[(Fq.ofInt x),(Fq.ofInt y),(Fq.ofInt z)]) ⟨rfl,rfl,rfl,trivial⟩).1 h1,h2⟩
theorem tk {xs:List Fq} {ys:Rho} {kr:List Nat} {l l' l'':Leaf} {x y z:Int} (h1:KI (frs xs++ys) l .i64 x) (h2:KI (frs xs++ys) l' .i64 y) (h3:KI (frs xs++ys) l'' .i64 z) (ar:AtL xs kr (Vq.of x y z).cs) (hx: -100000≤x∧x≤100000) (hy: -100000≤y∧y≤100000) (hz: -100000≤z∧z≤100000):OkI xs ys ⟨23,[.one l,.one l',.one l''],.v (row kr)⟩:=
 ⟨az Tryz.func23 rfl rfl,fun B w vs hB hv=>by
  match vs,hv with
  | [v0,v1,v2],hv=>
   have e0:=h1 _ _ _ hv.1;have e1:=h2 _ _ _ hv.2.1;have e2:=h3 _ _ _ hv.2.2.1;subst e0;subst e1;subst e2;refine(q_fOfK x y z hx hy hz).mono ?_;rintro e w' ⟨v,rfl,h3,h4⟩;exact⟨v,rfl,(ag ar).2 h3,h4⟩⟩
end Go.Proofs.YtggfmklppkioeaaGreat
namespace Go.Proofs.YtggfmklppkioeaaGreat
set_option linter.unusedSimpArgs false
set_option linter.unusedVariables false
set_option maxRecDepth 100000
open Go.RowKit
section
variable {p:Program} {ρ:Rho} {w0:Ent} {nt:Nat} {C:List Inst} {L:List OIns} {ops:Array Oper} {a:Act} {w:World}
def ko (ρ:Rho) (B:Blk) (w:World):List (Option AV)→List Value→Prop
 | [],_=>True
 | none::r,_::vs=>ko ρ B w r vs
 | some c::r,v::vs=>c.holds ρ B w v∧ko ρ B w r vs
 | _,_=>False
theorem ko.get {B:Blk}:∀ {k:List (Option AV)} {vs:List Value},ko ρ B w k vs→∀ {x:Nat} {c:AV},k[x]? =some (some c)→∃u,vs[x]? =some u∧c.holds ρ B w u
 | [],_,_,x,c,hx=>by cases hx
 | none::r,v::vs,h,0,c,hx=>by injection hx with hx;cases hx
 | none::r,v::vs,h,x+1,c,hx=>ko.get (k:=r) (vs:=vs) h (x:=x) hx
 | some c'::r,v::vs,h,0,c,hx=>by injection hx with hx;injection hx with hx;subst hx;exact⟨v,rfl,h.1⟩
 | some c'::r,v::vs,h,x+1,c,hx=>ko.get (k:=r) (vs:=vs) h.2 (x:=x) hx
theorem aC.at {B:Blk}:∀ {ls:List Leaf} {vs:List Value},aC ρ B w ls vs→∀ {j:Nat} {l:Leaf},ls[j]? =some l→∃u,vs[j]? =some u∧l.holds ρ B w u
 | [],[],_,j,l,hj=>by cases hj
 | l'::ls,v::vs,h,0,l,hj=>by injection hj with hj;subst hj;exact⟨v,rfl,h.1⟩
 | l'::ls,v::vs,h,j+1,l,hj=>aC.at (ls:=ls) (vs:=vs) h.2 (j:=j) hj
end
end Go.Proofs.YtggfmklppkioeaaGreat
namespace Go.Proofs.YtggfmklppkioeaaGreat
set_option linter.unusedSimpArgs false
set_option linter.unusedVariables false
set_option maxRecDepth 100000
open Go.RowKit Go.Shelf
open Classical
attribute [local go_sem] Oper.semAt_some
section
variable {n:Nat} {P:Program} {ops:Array Oper} {rest:List Oper} {op:Oper} {a:Act} {w w':World} {v:Value} {Q:Exit→Act→World→Prop}
end
structure LatB (w W:World) (t:Nat) (tq fr:Nm):Prop where
 b3:Boxed W w.heap.size 24 (ptB t)
 b4:Boxed W (w.heap.size+1) 9 (.string tq)
 b5:Boxed W (w.heap.size+1+1) 9 (.string fr)
 b6:Boxed W (w.heap.size+1+1+1) 3 (.int .i64 0)
 b7:Boxed W (w.heap.size+1+1+1+1) 40 (.int .i64 0)
 bel:Below w.heap.size w W
abbrev latW (w:World) (t:Nat) (tq fr:Nm):World:=((((w.alloc (.cells #[ptB t] 24)).alloc (.cells #[.string tq] 9)).alloc (.cells #[.string fr] 9)).alloc (.cells #[.int .i64 0] 3)).alloc (.cells #[.int .i64 0] 40)
theorem LatB.new (w:World) (t:Nat) (tq fr:Nm):LatB w (latW w t tq fr) t tq fr where
 b3:=((((Boxed.new w _ _).alloc _).alloc _).alloc _).alloc _
 b4:=by have:=(((Boxed.new (w.alloc (.cells #[ptB t] 24)) 9 (.string tq)).alloc (.cells #[.string fr] 9)).alloc (.cells #[.int .i64 0] 3)).alloc (.cells #[.int .i64 0] 40);rw[asz]at this;exact this
 b5:=by have:=((Boxed.new ((w.alloc (.cells #[ptB t] 24)).alloc (.cells #[.string tq] 9)) 9 (.string fr)).alloc (.cells #[.int .i64 0] 3)).alloc (.cells #[.int .i64 0] 40);rw[asz,asz]at this;exact this
 b6:=by have:=(Boxed.new (((w.alloc (.cells #[ptB t] 24)).alloc (.cells #[.string tq] 9)).alloc (.cells #[.string fr] 9)) 3 (.int .i64 0)).alloc (.cells #[.int .i64 0] 40);rw[asz,asz,asz]at this;exact this
 b7:=by have:=Boxed.new ((((w.alloc (.cells #[ptB t] 24)).alloc (.cells #[.string tq] 9)).alloc (.cells #[.string fr] 9)).alloc (.cells #[.int .i64 0] 3)) 40 (.int .i64 0);rw[asz,asz,asz,asz]at this;exact this
 bel:=((((((Below.refl _ w).alloc (Nat.le_refl _) _).alloc (by simp) _).alloc (by simp;omega) _).alloc (by simp;omega) _).alloc (by simp;omega) _)
theorem LatB.kb {w W W':World} {t O:Nat} {tq fr:Nm} (h:LatB w W t tq fr) (k:Kb W.heap.size O W W') (hO:w.heap.size+5≤O):LatB w W' t tq fr:=
 have g:∀ {B:Nat} {T:TypeId} {v:Value},Boxed W B T v→B<w.heap.size+5→Boxed W' B T v:=fun hb hl=>(k.block _ hb.lt (by omega)).trans hb
 ⟨g h.b3 (by omega),g h.b4 (by omega),g h.b5 (by omega),g h.b6 (by omega),g h.b7 (by omega),⟨k.os.trans h.bel.os,k.tape.trans h.bel.tape,k.output.trans h.bel.output,Nat.le_trans h.bel.size k.size,fun i hi=>(k.block i (by have:=h.bel.size;omega) (by omega)).trans (h.bel.block i hi)⟩⟩
theorem LatB.below {w W W':World} {t:Nat} {tq fr:Nm} (h:LatB w W t tq fr) (k:Below W.heap.size W W'):LatB w W' t tq fr:=h.kb (O:=w.heap.size+5) (Kb.below k) (Nat.le_refl _)
theorem LatB.lt {w W:World} {t:Nat} {tq fr:Nm} (h:LatB w W t tq fr):w.heap.size+5≤W.heap.size:=h.b7.lt
theorem LatB.fin {w W:World} {t:Nat} {tq fr:Nm} (h:LatB w W t tq fr) (n c:Int):
  Boxed ((W.setCell ⟨w.heap.size+1+1+1,0,none⟩ (.int .i64 n)).setCell ⟨w.heap.size+1+1+1+1,0,none⟩ (.int .i64 c)) (w.heap.size+1+1+1) 3 (.int .i64 n)∧
  Boxed ((W.setCell ⟨w.heap.size+1+1+1,0,none⟩ (.int .i64 n)).setCell ⟨w.heap.size+1+1+1+1,0,none⟩ (.int .i64 c)) (w.heap.size+1+1+1+1) 40 (.int .i64 c)∧
  Below w.heap.size w ((W.setCell ⟨w.heap.size+1+1+1,0,none⟩ (.int .i64 n)).setCell ⟨w.heap.size+1+1+1+1,0,none⟩ (.int .i64 c)):=
 ⟨(h.b6.set _).other (by omega) _,(h.b7.other (by omega) _).set _,(h.bel.setCell (p:=⟨w.heap.size+1+1+1,0,none⟩) (by show w.heap.size≤w.heap.size+1+1+1;omega) _).setCell (p:=⟨w.heap.size+1+1+1+1,0,none⟩) (by show w.heap.size≤w.heap.size+1+1+1+1;omega) _⟩
section
variable {R:Tr} {tq fr:Nm} {xs:List Int}
end
end Go.Proofs.YtggfmklppkioeaaGreat
namespace Go.Proofs.YtggfmklppkioeaaGreat
set_option linter.unusedSimpArgs false
set_option linter.unusedVariables false
set_option maxRecDepth 100000
open Go.RowKit
section
variable {ρ:Rho} {n m k:Nat} {c p:Nm} {a u:Int} {l:Leaf} {sv:SV}
def KT (ρ:Rho) (l:Leaf) (c:Nm):Prop:=∀B w x,l.holds ρ B w x→x= .string c
theorem ku (h:ρ[n]? =some (.val (.string c))):KT ρ (.ref n) c:=fun _ _ _ hx=>aO h hx
theorem kt_c:KT ρ (.s c) c:=fun _ _ _ h=>h
theorem yN {t:TypeId} {b:Bool} (ht:oP Tryz.prog t=true) (h1:KT ρ l c) {l':Leaf} (h2:KT ρ l' p) (hb:decide (c=p)=b):(OIns.mk (.bin .eql t) [.one l,.one l'] (.one (.b b))).Ok Tryz.prog ρ:=fun B w vs hv=>by
 match vs,hv with
 | [v0,v1],hv=>
  have e0:=h1 _ _ _ hv.1;have e1:=h2 _ _ _ hv.2.1;subst e0;subst e1;subst hb;refine⟨_,rfl,fun xo yo=> ?_⟩;by_cases h:c=p
  ·subst h;have h3:(ByteArray.toList c==ByteArray.toList c)=true:=by simp
   simp[eqGuard,binOp,Op.stringOp,Sem.run_bind,Result.andThen,h3]
  ·have h3:=yE h;simp[eqGuard,binOp,Op.stringOp,Sem.run_bind,Result.andThen,h,h3]
end
end Go.Proofs.YtggfmklppkioeaaGreat
namespace Go.Proofs.YtggfmklppkioeaaGreat
set_option linter.unusedSimpArgs false
set_option linter.unusedVariables false
set_option maxRecDepth 100000
open Go.RowKit
open Go.ChangeShapes Go.WideShapes Go.ChangeAt Go.RowKit
structure Qry where
 a:Int
 b:Int
 c:Int
 t:Int
 o:Int
def Qry.cs (s:Qry):List Value:=[.int .u8 s.a,.int .u8 s.b,.int .u8 s.c,.int .i64 s.t,.int .i64 s.o]
abbrev Qry.val (s:Qry):Value:=.agg s.cs.toArray
structure Qry.Ok (s:Qry):Prop where
 a:0≤s.a∧s.a<256
 b:0≤s.b∧s.b<256
 c:0≤s.c∧s.c<256
 t: -9223372036854775808≤s.t∧s.t<9223372036854775808
 o: -9223372036854775808≤s.o∧s.o<9223372036854775808
section
variable {H:Type} {enc:TypeId×Value→H} {W:World}
theorem kv {t:Int} (h:(Lit.int .i64 t).wf=true): -9223372036854775808≤t∧t<9223372036854775808:=by
 simp[Lit.wf,IntKind.min,IntKind.max,IntKind.wrap,IntKind.bits,IntKind.signed]at h;omega
end
end Go.Proofs.YtggfmklppkioeaaGreat
namespace Go.Proofs.YtggfmklppkioeaaGreat
set_option linter.unusedSimpArgs false
set_option linter.unusedVariables false
set_option maxRecDepth 100000
open Go.RowKit
open Classical
section
variable {R:Tr} {a:Int} {x y z s p q:Nm} {l l1 l2:List Nm}
theorem Anc.reach (h:Anc R a x l) (hs:s∈l):Reach R a x s:=by
 induction h with
 | root hp=>simp only[List.mem_singleton]at hs;subst hs;exact .refl _
 | step hp t ih=>
  rcases List.mem_cons.1 hs with rfl | hs
  ·exact .refl _
  ·exact .step hp (ih hs)
theorem Anc.nodup (hR:TOk R) (h:Anc R a x l):l.Nodup:=by
 induction h with
 | root hp=>simp
 | @step x y l hp t ih=>
  refine List.nodup_cons.2 ⟨fun hm=> ?_,ih⟩;exact(hR.acy a x).no_loop y hp (t.reach hm)
theorem Anc.split (h:Anc R a x l) (hs:s∈l):∃l2,l=dh l s++l2∧Anc R a s l2:=by
 induction h with
 | @root x hp=>
  simp only[List.mem_singleton]at hs;subst hs;exact⟨[s],by simp[dh],.root hp⟩
 | @step x y l hp t ih=>
  by_cases e:x=s
  ·subst e;exact⟨x::l,by simp[dh],.step hp t⟩
  ·rcases List.mem_cons.1 hs with h | h
   ·exact absurd h.symm e
   ·obtain⟨l2,h1,h2⟩:=ih h;refine⟨l2,?_,h2⟩;have:dh (x::l) s=x::dh l s:=by simp[dh,e]
    rw[this,List.cons_append,←h1]
end
end Go.Proofs.YtggfmklppkioeaaGreat
namespace Go.Proofs.YtggfmklppkioeaaGreat
set_option linter.unusedSimpArgs false
set_option linter.unusedVariables false
set_option maxRecDepth 100000
open Go.RowKit
def Vp.tree (t m:Nat) (E:List Ch):Vp:=.of (fun w v=>v=ptB t∧TM w t m E) (fun _ g=>g∈fpT t m E)
 (fun w w' X v h k hX=>⟨h.1,h.2.chg k hX⟩) (fun w v g h hg=>h.2.lt g hg) (fun w v h=>by
  obtain⟨rfl,_⟩:=h;exact⟨fun _ h=>by(cases h),fun _ h=>by(cases h),fun _ h=>by(cases h)⟩)
section
variable {p:Program} {ρ:Rho} {w0:Ent} {nt:Nat} {C:List Inst} {L:List OIns} {a:Act} {w:World}
theorem ju {c:Code} {s:MS} {n x:Nat} {Q:Exit→Act→World→Prop} (hx:x<100000) (hC:∀i∈C,i.Ok0 p ρ w0) (hO:∀i∈L,i.OkE w0 p ρ) (hm:p.follows .mixedOrders=true)
  (h:(dj p C L nt n c s).bind (fun r=>if r.1= .ret then bf r.2 x else none)=some (.v (.one (.b true)))) (hs:MSt ρ w0 nt s a w) (hQ:∀a' w',a'.tmps.getD x undef= .bool true→a'.defers=[]→w0.kept w'→Q .ret a' w'):c.wp p Q a w:=by
 cases hr:dj p C L nt n c s with
 | none=>rw[hr]at h;cases h
 | some r=>
  obtain⟨e,s'⟩:=r;rw[hr]at h;have h:(if e= .ret then bf s' x else none)=some (.v (.one (.b true))):=h;split at h
  ·rename_i he;subst he;refine bE hC hO hm hr hs (fun a' w' ⟨B,hi,hv,_⟩=>hQ a' w' ?_ hi.dfr hi.below);have h2:=hv x _ h;unfold bu at h2;rw[if_pos hx]at h2;obtain⟨u,h3,h4⟩:=h2;have e:u= .bool true:=h4;subst e;simp[h3]
  ·cases h
end
section
variable {xs:List Fq} {ys:Rho} {n:Nat} {kr:List Nat} {l l' l'' lc:Leaf} {t m:Nat} {E:List Ch} {c d:Nm} {a e:Int} {p:Pq}
theorem kc_r {ρ:Rho} (h:ρ[n]? =some (.val (.int .i64 e))):∀B w,(Leaf.ref n).holds ρ B w (.int .i64 e):=fun _ _=>aB h aH
theorem pM {ρ:Rho} {B:Blk} {w:World} {v:Value} (ht:ρ[n]? =some (.tree t m E)) (h:(SV.one (.ref n)).holds ρ B w v):v=ptB t∧TM w t m E:=by
 obtain⟨s,k1,k2,_⟩:=h;rw[ht]at k1;injection k1 with k1;subst k1;exact k2
theorem mO (ht:(frs xs++ys)[n]? =some (.tree t m E)) (hE:Sane (trE E)) (h1:KT (frs xs++ys) l c) (h2:KT (frs xs++ys) l' d) (h3:KI (frs xs++ys) l'' .i64 a) (hp:bJ (trE E) a c d=(p,e)) (ar:AtL xs kr p.cs) (hc:∀B w,lc.holds (frs xs++ys) B w (.int .i64 e)):
  OkI xs ys ⟨18,[.one (.ref n),.one l,.one l',.one l''],.tup [row kr,.one lc]⟩:=
 ⟨az Tryz.func18 rfl rfl,fun B w vs hB hv=>by
  match vs,hv with
  | [v0,v1,v2,v3],hv=>
   obtain⟨e0,hT⟩:=pM ht hv.1;have e1:=h1 _ _ _ hv.2.1;have e2:=h2 _ _ _ hv.2.2.1;have e3:=h3 _ _ _ hv.2.2.2.1;subst e0;subst e1;subst e2;subst e3;refine(q_Find hT hE (find_ok hE _ _ _)).mono ?_;rw[hp];rintro e' w' ⟨v,rfl,h6,hw⟩;exact⟨_,rfl,⟨[v,.int .i64 e],rfl,(ag ar).2 h6,hc _ _,trivial⟩,hw⟩⟩
end
end Go.Proofs.YtggfmklppkioeaaGreat
namespace Go.Proofs
open Go.Shelf
def Tryz.laysJoin_ren:Go.Shelf.Ren:=⟨fun | 156=>74 | 165=>132 | 166=>133 | 169=>134 | 240=>192 | 241=>193 | 276=>240 | 277=>241 | n=>n,fun | 31=>68 | 9=>9 | 3=>3 | 4=>4 | 0=>0 | 20=>20 | 72=>198 | 76=>202 | 70=>195 | 37=>196 | 75=>201 | 127=>253 | 164=>286 | 5=>5 | 80=>204 | n=>n,fun | n=>n⟩
theorem Tryz.laysJoin:Go.Proofs.Lays.n156 Tryz.prog Tryz.laysJoin_ren:= {
 mixed:=by kernel_rfl
 f156:=Tryz.func74.trans (congrArg some (by kernel_rfl))
 f165:=Tryz.func132.trans (congrArg some (by kernel_rfl))
 f166:=Tryz.func133.trans (congrArg some (by kernel_rfl))
 f169:=Tryz.func134.trans (congrArg some (by kernel_rfl))
 f240:=Tryz.func192.trans (congrArg some (by kernel_rfl))
 f241:=Tryz.func193.trans (congrArg some (by kernel_rfl))
 f276:=Tryz.func240.trans (congrArg some (by kernel_rfl))
 f277:=Tryz.func241.trans (congrArg some (by kernel_rfl))
 t0:=Tryz.underlying0
 a0:=Tryz.isAgg0
 z0:=Tryz.sizeOf0
 v0:=Tryz.zeroValue0
 t3:=Tryz.underlying3
 a3:=Tryz.isAgg3
 z3:=Tryz.sizeOf3
 v3:=Tryz.zeroValue3
 t4:=Tryz.underlying4
 a4:=Tryz.isAgg4
 z4:=Tryz.sizeOf4
 v4:=Tryz.zeroValue4
 t9:=Tryz.underlying9
 a9:=Tryz.isAgg9
 z9:=Tryz.sizeOf9
 v9:=Tryz.zeroValue9
 t20:=Tryz.underlying20
 a20:=Tryz.isAgg20
 z20:=Tryz.sizeOf20
 v20:=Tryz.zeroValue20
 t31:=Tryz.underlying68
 a31:=Tryz.isAgg68
 z31:=Tryz.sizeOf68
 v31:=Tryz.zeroValue68
 t37:=Tryz.underlying196
 a37:=Tryz.isAgg196
 z37:=Tryz.sizeOf196
 v37:=Tryz.zeroValue196
 t70:=Tryz.underlying195
 a70:=Tryz.isAgg195
 z70:=Tryz.sizeOf195
 v70:=Tryz.zeroValue195
 t72:=Tryz.underlying198
 a72:=Tryz.isAgg198
 z72:=Tryz.sizeOf198
 v72:=Tryz.zeroValue198
 t75:=Tryz.underlying201
 a75:=Tryz.isAgg201
 z75:=Tryz.sizeOf201
 v75:=Tryz.zeroValue201
 t76:=Tryz.underlying202
 a76:=Tryz.isAgg202
 z76:=Tryz.sizeOf202
 v76:=Tryz.zeroValue202
 t127:=Tryz.underlying253
 a127:=Tryz.isAgg253
 z127:=Tryz.sizeOf253
 v127:=Tryz.zeroValue253
 t164:=Tryz.underlying286
 a164:=Tryz.isAgg286
 z164:=Tryz.sizeOf286
 v164:=Tryz.zeroValue286}
theorem Tryz.joinX:Builder.Extra Tryz.prog Tryz.laysJoin_ren where
 sizeBuilder:=by kernel_rfl
 liesBuilder:=by kernel_rfl
 t5:=Tryz.underlying5
 a5:=Tryz.isAgg5
 z5:=Tryz.sizeOf5
 v5:=Tryz.zeroValue5
 infoByte:=by kernel_rfl
 cellsByte:=by kernel_rfl
 sizeByte:=by kernel_rfl
 neB5:=by decide
end Go.Proofs
namespace Go.Proofs.YtggfmklppkioeaaGreat
set_option linter.unusedSimpArgs false
set_option linter.unusedVariables false
set_option maxRecDepth 100000
open Go.RowKit
variable {xs:List Fq} {ys:Rho} {i:Nat} {x:Fq} {l:Leaf}in
theorem cJ (hi:xs[i]? =some x) (hl:∀B w,l.holds (frs xs++ys) B w (.string x.fmt)) (ox:x.ok 1000000000):OkI xs ys ⟨73,[fr i],.v (.one l)⟩:=
 wt (az Tryz.func73 rfl rfl) (fun va w h1=>q_fFormat va x w h1 ox) hi hl
def vl (l:List ByteArray):ByteArray:=⟨(Lib.join (l.map (·.data.toList)) [32]).toArray⟩
theorem I_Join {xs:List Fq} {ys:Rho} {n:Nat} {ss:List ByteArray} {l:Leaf} (hn:(frs xs++ys)[n]? =some (.strs ss)) (hl:∀B w,l.holds (frs xs++ys) B w (.string (vl ss))) (h0:ss≠ []) (hs:(Lib.join (ss.map (·.data.toList)) [32]).length≤140737488355328) (hN:ss.length≤1000):OkI xs ys ⟨74,[.one (.ref n),.one (.s (ByteArray.mk #[32]))],.v (.one l)⟩:=
 ⟨az Tryz.func74 rfl rfl,fun B w vs hB h=>by
  match vs,h with
  | [va,vb],h=>
   have e2:vb= .string (ByteArray.mk #[32]):=h.2.1;subst e2;obtain⟨s,k1,k2,_⟩:=h.1;rw[hn]at k1;injection k1 with k1;subst k1;rcases k2 with⟨h1,_⟩ | ⟨b,o,c,cs,rfl,hc,hb,hq⟩
   ·exact absurd (List.map_eq_nil_iff.1 h1) h0
   ·refine(Any.strings_Join Tryz.laysJoin Tryz.joinX b o c ss (ByteArray.mk #[32]) w (fun j x hj=> ?_) (Array.getElem?_eq_some_iff.1 hb).1 (by omega) hc hs).mono ?_
    ·obtain⟨u,k3,k4,_⟩:=hq j (.val (.string x)) (by rw[List.getElem?_map,hj];rfl);rw[aA hb,k3,k4.1]
    ·rintro e w' ⟨rfl,h2⟩;exact⟨_,rfl,hl B w',h2⟩⟩
def Pq.text (a:Pq):ByteArray:=vl [a.rot.w.fmt,a.rot.x.fmt,a.rot.y.fmt,a.rot.z.fmt,a.pos.x.fmt,a.pos.y.fmt,a.pos.z.fmt]
theorem cK {x:Fq} {d:Nat} (h:x.ok d):x.fmt.size≤20*d+4:=by
 have h1:=dl x.p;have h2:=dl x.q;have h3:=h.p;have h4:=h.q;unfold Fq.fmt;split<;>split<;>(try simp only[ByteArray.size_append,bsz,List.size_toArray,List.length_cons,List.length_nil])<;>omega
def yO (a:Pq):List Fq:=a.cs
theorem q_poEnc (va:Value) (a:Pq) (w:World) (ia:bw w va a) (ha:a.ok 10000):Calls Tryz.prog 20 #[va] w fun e w'=>cI w (.string a.text) e w':=by
 have z0:=cK (show(a.rot.w).ok 10000 from ha.rot.w);have z1:=cK (show(a.rot.x).ok 10000 from ha.rot.x);have z2:=cK (show(a.rot.y).ok 10000 from ha.rot.y);have z3:=cK (show(a.rot.z).ok 10000 from ha.rot.z);have z4:=cK (show(a.pos.x).ok 10000 from ha.pos.x);have z5:=cK (show(a.pos.y).ok 10000 from ha.pos.y);have z6:=cK (show(a.pos.z).ok 10000 from ha.pos.z);have hjoin:(Lib.join ([a.rot.w.fmt,a.rot.x.fmt,a.rot.y.fmt,a.rot.z.fmt,a.pos.x.fmt,a.pos.y.fmt,a.pos.z.fmt].map (·.data.toList)) [32]).length≤140737488355328:=by simp only[List.map_cons,List.map_nil,Lib.join,List.intercalate,List.intersperse,List.flatten_cons,List.flatten_nil,List.length_append,List.length_cons,List.length_nil,Array.length_toList];simp only[ByteArray.size]at *;omega
 refine(cRn (ρ:=frs (yO a)++([.row 33 7 [.val (.bool a.rot.w.s),.dig (nl a.rot.w.p) a.rot.w.p,.dig (nl a.rot.w.q) a.rot.w.q,.val (.bool a.rot.x.s),.dig (nl a.rot.x.p) a.rot.x.p,.dig (nl a.rot.x.q) a.rot.x.q,.val (.bool a.rot.y.s),.dig (nl a.rot.y.p) a.rot.y.p,.dig (nl a.rot.y.q) a.rot.y.q,.val (.bool a.rot.z.s),.dig (nl a.rot.z.p) a.rot.z.p,.dig (nl a.rot.z.q) a.rot.z.q,.val (.bool a.pos.x.s),.dig (nl a.pos.x.p) a.pos.x.p,.dig (nl a.pos.x.q) a.pos.x.q,.val (.bool a.pos.y.s),.dig (nl a.pos.y.p) a.pos.y.p,.dig (nl a.pos.y.q) a.pos.y.q,.val (.bool a.pos.z.s),.dig (nl a.pos.z.p) a.pos.z.p,.dig (nl a.pos.z.q) a.pos.z.q],.plc 33 [.val (.bool a.rot.w.s),.dig (nl a.rot.w.p) a.rot.w.p,.dig (nl a.rot.w.q) a.rot.w.q],.val (.string a.rot.w.fmt),.row 9 1 [.val (.string a.rot.w.fmt)],.ownr 9 1 1 [.val (.string a.rot.w.fmt)],.plc 33 [.val (.bool a.rot.x.s),.dig (nl a.rot.x.p) a.rot.x.p,.dig (nl a.rot.x.q) a.rot.x.q],.val (.string a.rot.x.fmt),.row 9 1 [.val (.string a.rot.x.fmt)],.ownr 9 1 2 [.val (.string a.rot.w.fmt),.val (.string a.rot.x.fmt)],.plc 33 [.val (.bool a.rot.y.s),.dig (nl a.rot.y.p) a.rot.y.p,.dig (nl a.rot.y.q) a.rot.y.q],.val (.string a.rot.y.fmt),.row 9 1 [.val (.string a.rot.y.fmt)],.ownr 9 1 3 [.val (.string a.rot.w.fmt),.val (.string a.rot.x.fmt),.val (.string a.rot.y.fmt)],.plc 33 [.val (.bool a.rot.z.s),.dig (nl a.rot.z.p) a.rot.z.p,.dig (nl a.rot.z.q) a.rot.z.q],.val (.string a.rot.z.fmt),.row 9 1 [.val (.string a.rot.z.fmt)],.ownr 9 1 4 [.val (.string a.rot.w.fmt),.val (.string a.rot.x.fmt),.val (.string a.rot.y.fmt),.val (.string a.rot.z.fmt)],.plc 33 [.val (.bool a.pos.x.s),.dig (nl a.pos.x.p) a.pos.x.p,.dig (nl a.pos.x.q) a.pos.x.q],.val (.string a.pos.x.fmt),.row 9 1 [.val (.string a.pos.x.fmt)],.ownr 9 1 5 [.val (.string a.rot.w.fmt),.val (.string a.rot.x.fmt),.val (.string a.rot.y.fmt),.val (.string a.rot.z.fmt),.val (.string a.pos.x.fmt)],.plc 33 [.val (.bool a.pos.y.s),.dig (nl a.pos.y.p) a.pos.y.p,.dig (nl a.pos.y.q) a.pos.y.q],.val (.string a.pos.y.fmt),.row 9 1 [.val (.string a.pos.y.fmt)],.ownr 9 1 6 [.val (.string a.rot.w.fmt),.val (.string a.rot.x.fmt),.val (.string a.rot.y.fmt),.val (.string a.rot.z.fmt),.val (.string a.pos.x.fmt),.val (.string a.pos.y.fmt)],.plc 33 [.val (.bool a.pos.z.s),.dig (nl a.pos.z.p) a.pos.z.p,.dig (nl a.pos.z.q) a.pos.z.q],.val (.string a.pos.z.fmt),.row 9 1 [.val (.string a.pos.z.fmt)],.ownr 9 1 7 [.val (.string a.rot.w.fmt),.val (.string a.rot.x.fmt),.val (.string a.rot.y.fmt),.val (.string a.rot.z.fmt),.val (.string a.pos.x.fmt),.val (.string a.pos.y.fmt),.val (.string a.pos.z.fmt)],.row 9 7 [.val (.string a.rot.w.fmt),.val (.string a.rot.x.fmt),.val (.string a.rot.y.fmt),.val (.string a.rot.z.fmt),.val (.string a.pos.x.fmt),.val (.string a.pos.y.fmt),.val (.string a.pos.z.fmt)],.val (.string (vl [a.rot.w.fmt,a.rot.x.fmt,a.rot.y.fmt,a.rot.z.fmt,a.pos.x.fmt,a.pos.y.fmt,a.pos.z.fmt]))]:List Vp)) (args:=[row [0,1,2,3,4,5,6]]) (vs:=[va]) (r:=.v (.one (.ref 51)))
  (ae (cJ (i:=0) rfl (ls (n:=23) rfl) (ha.rot.w.mono (by decide))) (ae (cJ (i:=1) rfl (ls (n:=27) rfl) (ha.rot.x.mono (by decide))) (ae (cJ (i:=2) rfl (ls (n:=31) rfl) (ha.rot.y.mono (by decide))) (ae (cJ (i:=3) rfl (ls (n:=35) rfl) (ha.rot.z.mono (by decide))) (ae (cJ (i:=4) rfl (ls (n:=39) rfl) (ha.pos.x.mono (by decide))) (ae (cJ (i:=5) rfl (ls (n:=43) rfl) (ha.pos.y.mono (by decide))) (ae (cJ (i:=6) rfl (ls (n:=47) rfl) (ha.pos.z.mono (by decide))) (ae (I_Join (n:=50) (ss:=[a.rot.w.fmt,a.rot.x.fmt,a.rot.y.fmt,a.rot.z.fmt,a.pos.x.fmt,a.pos.y.fmt,a.pos.z.fmt]) rfl (ls (n:=51) rfl) (by simp) hjoin (by simp)) ah))))))))
  (af (gM (m:=21) (ss:=[fr 0,fr 1,fr 2,fr 3,fr 4,fr 5,fr 6]) (N:=7) (sz:=3) (z:=[.b false,.sl0,.sl0]) (qs:=[.val (.bool a.rot.w.s),.dig (nl a.rot.w.p) a.rot.w.p,.dig (nl a.rot.w.q) a.rot.w.q,.val (.bool a.rot.x.s),.dig (nl a.rot.x.p) a.rot.x.p,.dig (nl a.rot.x.q) a.rot.x.q,.val (.bool a.rot.y.s),.dig (nl a.rot.y.p) a.rot.y.p,.dig (nl a.rot.y.q) a.rot.y.q,.val (.bool a.rot.z.s),.dig (nl a.rot.z.p) a.rot.z.p,.dig (nl a.rot.z.q) a.rot.z.q,.val (.bool a.pos.x.s),.dig (nl a.pos.x.p) a.pos.x.p,.dig (nl a.pos.x.q) a.pos.x.q,.val (.bool a.pos.y.s),.dig (nl a.pos.y.p) a.pos.y.p,.dig (nl a.pos.y.q) a.pos.y.q,.val (.bool a.pos.z.s),.dig (nl a.pos.z.p) a.pos.z.p,.dig (nl a.pos.z.q) a.pos.z.q]) (ix:=[0,1,2,3,4,5,6]) (ls:=[.ref 0,.ref 1,.ref 2,.ref 3,.ref 4,.ref 5,.ref 6,.ref 7,.ref 8,.ref 9,.ref 10,.ref 11,.ref 12,.ref 13,.ref 14,.ref 15,.ref 16,.ref 17,.ref 18,.ref 19,.ref 20]) Tryz.underlying124 (by kernel_rfl) (by kernel_rfl) (by decide) (by decide) (by decide) rfl (by kernel_rfl) ⟨dk rfl,bG rfl,bG rfl,dk rfl,bG rfl,bG rfl,dk rfl,bG rfl,bG rfl,dk rfl,bG rfl,bG rfl,dk rfl,bG rfl,bG rfl,dk rfl,bG rfl,bG rfl,dk rfl,bG rfl,bG rfl,trivial⟩ rfl) (af (wi (n:=21) (t:=124) ⟨_,Tryz.underlying124⟩ rfl (li rfl)) (af (kY (k:=0) (l:=.i .i64 0) (sz:=3) (qs':=[.val (.bool a.rot.w.s),.dig (nl a.rot.w.p) a.rot.w.p,.dig (nl a.rot.w.q) a.rot.w.q]) (n:=21) (m:=22) Tryz.underlying124 (by kernel_rfl) rfl rfl (fun _ _ _ h=>h) (by decide) (by simp) (fun j q hq=>by match j,hq with | 0,hq=>simp at hq;subst hq;rfl | 1,hq=>simp at hq;subst hq;rfl | 2,hq=>simp at hq;subst hq;rfl | j+3,hq=>simp at hq)) (af (fe (n:=22) (T:=33) (qs:=[.val (.bool a.rot.w.s),.dig (nl a.rot.w.p) a.rot.w.p,.dig (nl a.rot.w.q) a.rot.w.q]) (ls:=[.ref 0,.ref 1,.ref 2]) (t:=33) (by kernel_rfl) (by kernel_rfl) rfl ⟨lq rfl,lq rfl,lq rfl,trivial⟩) (af (gM (m:=24) (ss:=[.one (.ref 23)]) (N:=1) (sz:=1) (z:=[.s (ByteArray.mk #[])]) (qs:=[.val (.string a.rot.w.fmt)]) (ix:=[0]) (ls:=[.ref 23]) Tryz.underlying68 (by kernel_rfl) (by kernel_rfl) (by decide) (by decide) (by decide) rfl (by kernel_rfl) ⟨dk rfl,trivial⟩ rfl) (af (j5 (i:=0) (sz:=1) (bytes:=16) (L:=0) (M:=1) (qs:=[]) (qs':=[.val (.string a.rot.w.fmt)]) (m:=25) (r:=24) (T:=9) Tryz.underlying68 (by kernel_rfl) (.inl ⟨rfl,rfl,rfl⟩) rfl rfl rfl rfl rfl (by decide) (by decide) (by decide)) (af (kY (k:=1) (l:=.i .i64 1) (sz:=3) (qs':=[.val (.bool a.rot.x.s),.dig (nl a.rot.x.p) a.rot.x.p,.dig (nl a.rot.x.q) a.rot.x.q]) (n:=21) (m:=26) Tryz.underlying124 (by kernel_rfl) rfl rfl (fun _ _ _ h=>h) (by decide) (by simp) (fun j q hq=>by match j,hq with | 0,hq=>simp at hq;subst hq;rfl | 1,hq=>simp at hq;subst hq;rfl | 2,hq=>simp at hq;subst hq;rfl | j+3,hq=>simp at hq)) (af (fe (n:=26) (T:=33) (qs:=[.val (.bool a.rot.x.s),.dig (nl a.rot.x.p) a.rot.x.p,.dig (nl a.rot.x.q) a.rot.x.q]) (ls:=[.ref 3,.ref 4,.ref 5]) (t:=33) (by kernel_rfl) (by kernel_rfl) rfl ⟨lq rfl,lq rfl,lq rfl,trivial⟩) (af (gM (m:=28) (ss:=[.one (.ref 27)]) (N:=1) (sz:=1) (z:=[.s (ByteArray.mk #[])]) (qs:=[.val (.string a.rot.x.fmt)]) (ix:=[0]) (ls:=[.ref 27]) Tryz.underlying68 (by kernel_rfl) (by kernel_rfl) (by decide) (by decide) (by decide) rfl (by kernel_rfl) ⟨dk rfl,trivial⟩ rfl) (af (j5 (i:=0) (sz:=1) (bytes:=16) (L:=1) (M:=1) (qs:=[.val (.string a.rot.w.fmt)]) (qs':=[.val (.string a.rot.x.fmt)]) (m:=29) (r:=28) (T:=9) Tryz.underlying68 (by kernel_rfl) (.inr ⟨25,rfl,rfl⟩) rfl rfl rfl rfl rfl (by decide) (by decide) (by decide)) (af (kY (k:=2) (l:=.i .i64 2) (sz:=3) (qs':=[.val (.bool a.rot.y.s),.dig (nl a.rot.y.p) a.rot.y.p,.dig (nl a.rot.y.q) a.rot.y.q]) (n:=21) (m:=30) Tryz.underlying124 (by kernel_rfl) rfl rfl (fun _ _ _ h=>h) (by decide) (by simp) (fun j q hq=>by match j,hq with | 0,hq=>simp at hq;subst hq;rfl | 1,hq=>simp at hq;subst hq;rfl | 2,hq=>simp at hq;subst hq;rfl | j+3,hq=>simp at hq)) (af (fe (n:=30) (T:=33) (qs:=[.val (.bool a.rot.y.s),.dig (nl a.rot.y.p) a.rot.y.p,.dig (nl a.rot.y.q) a.rot.y.q]) (ls:=[.ref 6,.ref 7,.ref 8]) (t:=33) (by kernel_rfl) (by kernel_rfl) rfl ⟨lq rfl,lq rfl,lq rfl,trivial⟩) (af (gM (m:=32) (ss:=[.one (.ref 31)]) (N:=1) (sz:=1) (z:=[.s (ByteArray.mk #[])]) (qs:=[.val (.string a.rot.y.fmt)]) (ix:=[0]) (ls:=[.ref 31]) Tryz.underlying68 (by kernel_rfl) (by kernel_rfl) (by decide) (by decide) (by decide) rfl (by kernel_rfl) ⟨dk rfl,trivial⟩ rfl) (af (j5 (i:=0) (sz:=1) (bytes:=16) (L:=2) (M:=1) (qs:=[.val (.string a.rot.w.fmt),.val (.string a.rot.x.fmt)]) (qs':=[.val (.string a.rot.y.fmt)]) (m:=33) (r:=32) (T:=9) Tryz.underlying68 (by kernel_rfl) (.inr ⟨29,rfl,rfl⟩) rfl rfl rfl rfl rfl (by decide) (by decide) (by decide)) (af (kY (k:=3) (l:=.i .i64 3) (sz:=3) (qs':=[.val (.bool a.rot.z.s),.dig (nl a.rot.z.p) a.rot.z.p,.dig (nl a.rot.z.q) a.rot.z.q]) (n:=21) (m:=34) Tryz.underlying124 (by kernel_rfl) rfl rfl (fun _ _ _ h=>h) (by decide) (by simp) (fun j q hq=>by match j,hq with | 0,hq=>simp at hq;subst hq;rfl | 1,hq=>simp at hq;subst hq;rfl | 2,hq=>simp at hq;subst hq;rfl | j+3,hq=>simp at hq)) (af (fe (n:=34) (T:=33) (qs:=[.val (.bool a.rot.z.s),.dig (nl a.rot.z.p) a.rot.z.p,.dig (nl a.rot.z.q) a.rot.z.q]) (ls:=[.ref 9,.ref 10,.ref 11]) (t:=33) (by kernel_rfl) (by kernel_rfl) rfl ⟨lq rfl,lq rfl,lq rfl,trivial⟩) (af (gM (m:=36) (ss:=[.one (.ref 35)]) (N:=1) (sz:=1) (z:=[.s (ByteArray.mk #[])]) (qs:=[.val (.string a.rot.z.fmt)]) (ix:=[0]) (ls:=[.ref 35]) Tryz.underlying68 (by kernel_rfl) (by kernel_rfl) (by decide) (by decide) (by decide) rfl (by kernel_rfl) ⟨dk rfl,trivial⟩ rfl) (af (j5 (i:=0) (sz:=1) (bytes:=16) (L:=3) (M:=1) (qs:=[.val (.string a.rot.w.fmt),.val (.string a.rot.x.fmt),.val (.string a.rot.y.fmt)]) (qs':=[.val (.string a.rot.z.fmt)]) (m:=37) (r:=36) (T:=9) Tryz.underlying68 (by kernel_rfl) (.inr ⟨33,rfl,rfl⟩) rfl rfl rfl rfl rfl (by decide) (by decide) (by decide)) (af (kY (k:=4) (l:=.i .i64 4) (sz:=3) (qs':=[.val (.bool a.pos.x.s),.dig (nl a.pos.x.p) a.pos.x.p,.dig (nl a.pos.x.q) a.pos.x.q]) (n:=21) (m:=38) Tryz.underlying124 (by kernel_rfl) rfl rfl (fun _ _ _ h=>h) (by decide) (by simp) (fun j q hq=>by match j,hq with | 0,hq=>simp at hq;subst hq;rfl | 1,hq=>simp at hq;subst hq;rfl | 2,hq=>simp at hq;subst hq;rfl | j+3,hq=>simp at hq)) (af (fe (n:=38) (T:=33) (qs:=[.val (.bool a.pos.x.s),.dig (nl a.pos.x.p) a.pos.x.p,.dig (nl a.pos.x.q) a.pos.x.q]) (ls:=[.ref 12,.ref 13,.ref 14]) (t:=33) (by kernel_rfl) (by kernel_rfl) rfl ⟨lq rfl,lq rfl,lq rfl,trivial⟩) (af (gM (m:=40) (ss:=[.one (.ref 39)]) (N:=1) (sz:=1) (z:=[.s (ByteArray.mk #[])]) (qs:=[.val (.string a.pos.x.fmt)]) (ix:=[0]) (ls:=[.ref 39]) Tryz.underlying68 (by kernel_rfl) (by kernel_rfl) (by decide) (by decide) (by decide) rfl (by kernel_rfl) ⟨dk rfl,trivial⟩ rfl) (af (j5 (i:=0) (sz:=1) (bytes:=16) (L:=4) (M:=1) (qs:=[.val (.string a.rot.w.fmt),.val (.string a.rot.x.fmt),.val (.string a.rot.y.fmt),.val (.string a.rot.z.fmt)]) (qs':=[.val (.string a.pos.x.fmt)]) (m:=41) (r:=40) (T:=9) Tryz.underlying68 (by kernel_rfl) (.inr ⟨37,rfl,rfl⟩) rfl rfl rfl rfl rfl (by decide) (by decide) (by decide)) (af (kY (k:=5) (l:=.i .i64 5) (sz:=3) (qs':=[.val (.bool a.pos.y.s),.dig (nl a.pos.y.p) a.pos.y.p,.dig (nl a.pos.y.q) a.pos.y.q]) (n:=21) (m:=42) Tryz.underlying124 (by kernel_rfl) rfl rfl (fun _ _ _ h=>h) (by decide) (by simp) (fun j q hq=>by match j,hq with | 0,hq=>simp at hq;subst hq;rfl | 1,hq=>simp at hq;subst hq;rfl | 2,hq=>simp at hq;subst hq;rfl | j+3,hq=>simp at hq)) (af (fe (n:=42) (T:=33) (qs:=[.val (.bool a.pos.y.s),.dig (nl a.pos.y.p) a.pos.y.p,.dig (nl a.pos.y.q) a.pos.y.q]) (ls:=[.ref 15,.ref 16,.ref 17]) (t:=33) (by kernel_rfl) (by kernel_rfl) rfl ⟨lq rfl,lq rfl,lq rfl,trivial⟩) (af (gM (m:=44) (ss:=[.one (.ref 43)]) (N:=1) (sz:=1) (z:=[.s (ByteArray.mk #[])]) (qs:=[.val (.string a.pos.y.fmt)]) (ix:=[0]) (ls:=[.ref 43]) Tryz.underlying68 (by kernel_rfl) (by kernel_rfl) (by decide) (by decide) (by decide) rfl (by kernel_rfl) ⟨dk rfl,trivial⟩ rfl) (af (j5 (i:=0) (sz:=1) (bytes:=16) (L:=5) (M:=1) (qs:=[.val (.string a.rot.w.fmt),.val (.string a.rot.x.fmt),.val (.string a.rot.y.fmt),.val (.string a.rot.z.fmt),.val (.string a.pos.x.fmt)]) (qs':=[.val (.string a.pos.y.fmt)]) (m:=45) (r:=44) (T:=9) Tryz.underlying68 (by kernel_rfl) (.inr ⟨41,rfl,rfl⟩) rfl rfl rfl rfl rfl (by decide) (by decide) (by decide)) (af (kY (k:=6) (l:=.i .i64 6) (sz:=3) (qs':=[.val (.bool a.pos.z.s),.dig (nl a.pos.z.p) a.pos.z.p,.dig (nl a.pos.z.q) a.pos.z.q]) (n:=21) (m:=46) Tryz.underlying124 (by kernel_rfl) rfl rfl (fun _ _ _ h=>h) (by decide) (by simp) (fun j q hq=>by match j,hq with | 0,hq=>simp at hq;subst hq;rfl | 1,hq=>simp at hq;subst hq;rfl | 2,hq=>simp at hq;subst hq;rfl | j+3,hq=>simp at hq)) (af (fe (n:=46) (T:=33) (qs:=[.val (.bool a.pos.z.s),.dig (nl a.pos.z.p) a.pos.z.p,.dig (nl a.pos.z.q) a.pos.z.q]) (ls:=[.ref 18,.ref 19,.ref 20]) (t:=33) (by kernel_rfl) (by kernel_rfl) rfl ⟨lq rfl,lq rfl,lq rfl,trivial⟩) (af (gM (m:=48) (ss:=[.one (.ref 47)]) (N:=1) (sz:=1) (z:=[.s (ByteArray.mk #[])]) (qs:=[.val (.string a.pos.z.fmt)]) (ix:=[0]) (ls:=[.ref 47]) Tryz.underlying68 (by kernel_rfl) (by kernel_rfl) (by decide) (by decide) (by decide) rfl (by kernel_rfl) ⟨dk rfl,trivial⟩ rfl) (af (j5 (i:=0) (sz:=1) (bytes:=16) (L:=6) (M:=1) (qs:=[.val (.string a.rot.w.fmt),.val (.string a.rot.x.fmt),.val (.string a.rot.y.fmt),.val (.string a.rot.z.fmt),.val (.string a.pos.x.fmt),.val (.string a.pos.y.fmt)]) (qs':=[.val (.string a.pos.z.fmt)]) (m:=49) (r:=48) (T:=9) Tryz.underlying68 (by kernel_rfl) (.inr ⟨45,rfl,rfl⟩) rfl rfl rfl rfl rfl (by decide) (by decide) (by decide)) (af (o_frz (n:=49) (m:=50) (r:=7) (i:=0) (L:=7) (qs:=[.val (.string a.rot.w.fmt),.val (.string a.rot.x.fmt),.val (.string a.rot.y.fmt),.val (.string a.rot.z.fmt),.val (.string a.pos.x.fmt),.val (.string a.pos.y.fmt),.val (.string a.pos.z.fmt)]) rfl rfl) (ai)))))))))))))))))))))))))))))))) Tryz.func20 (by kernel_rfl) ⟨(ag (xs:=yO a) (ks:=[0,1,2,3,4,5,6]) (vs:=a.cs) ⟨rfl,rfl,rfl,rfl,rfl,rfl,rfl,trivial⟩).2 ia,trivial⟩).mono ?_
 rintro e w' ⟨v,rfl,h1,h2⟩;obtain⟨sv,q1,q2⟩:=h1;have q3:some (Vp.val (.string (vl [a.rot.w.fmt,a.rot.x.fmt,a.rot.y.fmt,a.rot.z.fmt,a.pos.x.fmt,a.pos.y.fmt,a.pos.z.fmt])))=some sv:=q1;injection q3 with q3;subst q3;have q4:v= .string (vl [a.rot.w.fmt,a.rot.x.fmt,a.rot.y.fmt,a.rot.z.fmt,a.pos.x.fmt,a.pos.y.fmt,a.pos.z.fmt]):=q2.1.1;exact⟨by rw[q4];rfl,h2⟩
theorem I_poEnc {xs:List Fq} {ys:Rho} {ks:List Nat} {a:Pq} {l:Leaf} (ar:AtL xs ks a.cs) (hl:∀B w,l.holds (frs xs++ys) B w (.string a.text)) (ha:a.ok 10000):OkI xs ys ⟨20,[row ks],.v (.one l)⟩:=
 ⟨az Tryz.func20 rfl rfl,fun B w vs hB h=>by
  match vs,h with
  | [x],h=>
   refine(q_poEnc x a w ((ag ar).1 h.1) ha).mono ?_;rintro e w' ⟨rfl,h2⟩;exact⟨_,rfl,hl B w',h2⟩⟩
end Go.Proofs.YtggfmklppkioeaaGreat
namespace Go.Proofs.YtggfmklppkioeaaGreat
set_option linter.unusedSimpArgs false
set_option linter.unusedVariables false
set_option maxRecDepth 100000
open Go.RowKit
def tn:List Nm:=[⟨#[109,97,112]⟩,⟨#[111,100,111,109]⟩,⟨#[98,97,115,101]⟩,⟨#[97,114,109]⟩,⟨#[116,111,111,108]⟩,⟨#[101,121,101]⟩]
def frm (n:Int):Nm:=tn.getD ((if n<0 then -(n+1)else n) % 6).toNat ⟨#[]⟩
theorem isNm_w {l:List UInt8} (h0:0<l.length) (h16:l.length≤16) (h:∀c∈l,xl c):dG ⟨l.toArray⟩:=⟨h0,h16,fun i hi=>h _ (List.getElem_mem (l:=l) (n:=i) hi)⟩
theorem tu:∀c∈tn,dG c:=by
 intro c hc;simp only[tn,List.mem_cons,List.not_mem_nil,or_false]at hc;rcases hc with rfl | rfl | rfl | rfl | rfl | rfl<;>exact isNm_w (by decide) (by decide) (by decide)
theorem frm_at (n:Int):∃(k:Nat) (c:Nm),k<6∧(if n<0 then -(n+1)else n) % 6=(k:Int)∧tn[k]? =some c∧frm n=c:=by
 have h:((if n<0 then -(n+1)else n) % 6).toNat<6:=by omega
 refine⟨((if n<0 then -(n+1)else n) % 6).toNat,frm n,h,by omega,?_,rfl⟩;unfold frm;rw[List.getD_eq_getElem?_getD]
 cases hx:tn[((if n<0 then -(n+1)else n) % 6).toNat]? with
 | none=>have:=List.getElem?_eq_none_iff.1 hx;simp[tn]at this;omega
 | some c=>rfl
theorem frm_nm (n:Int):dG (frm n):=by
 obtain⟨k,c,_,_,h,e⟩:=frm_at n;rw[e];exact tu c (List.mem_of_getElem? h)
theorem vn {n:Int} (h: -9223372036854775808≤n∧n<9223372036854775808) (m:Int) (hm:m=if n<0 then -(n+1)else n) {k:Nat} (hk:(if n<0 then -(n+1)else n) % 6=(k:Int)):m.tmod 6=(k:Int):=by
 rw[←hm]at hk;rw[Int.tmod_eq_emod_of_nonneg (by split at hm<;>omega)];exact hk
set_option maxHeartbeats 1000000 in
theorem jv {w:World} (n:Int) (h: -9223372036854775808≤n∧n<9223372036854775808):Calls Tryz.prog 17 #[.int .i64 n] w fun e w'=>e= .returned (.string (frm n))∧Below w.heap.size w w':=by
 obtain⟨k,c,hk6,hk,hc,e⟩:=frm_at n;rw[e];obtain⟨w1,hw1⟩:∃w1,w.alloc (.cells #[.string ⟨#[109,97,112]⟩,.string ⟨#[111,100,111,109]⟩,.string ⟨#[98,97,115,101]⟩,.string ⟨#[97,114,109]⟩,.string ⟨#[116,111,111,108]⟩,.string ⟨#[101,121,101]⟩] 9)=w1:=⟨_,rfl⟩;have hb1:Below w.heap.size w w1:=by rw[←hw1];exact(Below.refl _ _).alloc (Nat.le_refl _) _
 have hnew:w1.heap[w.heap.size]? =some (.cells (tn.map Value.string).toArray 9 (0,0)):=by rw[←hw1];exact heap_alloc_new w _
 have hcell:w1.cell? ⟨w.heap.size,k,none⟩=some (.string c):=by
  rw[aA hnew];simp only[List.getElem?_toArray,List.getElem?_map,hc,Option.map_some]
 have HB:=Lib.hid hb1;clear hb1 hnew hc e;obtain⟨B,hB⟩:∃B,w.heap.size=B:=⟨_,rfl⟩;rw[hB]at hcell;have hk5:(k:Int)<6:=by omega
 by_cases hn:n<0
 ·have hi:=vn h (-(n+1)) (by rw[if_pos hn]) hk;have c0:decide (n<0)=true:=decide_eq_true hn;have hw:wrap64 (-wrap64 (n+1))= -(n+1):=by
   unfold wrap64;omega
  rw[←hw]at hi;clear hk h hn hw;go_enter Tryz.func17,Tryz.ntmps17
  go_wp2;go_ret;exact⟨rfl,HB.out⟩
 ·have hi:=vn h n (by rw[if_neg hn]) hk;have c0:decide (n<0)=false:=decide_eq_false hn;clear hk h hn;go_enter Tryz.func17,Tryz.ntmps17
  go_wp2;go_ret;exact⟨rfl,HB.out⟩
end Go.Proofs.YtggfmklppkioeaaGreat
namespace Go.Proofs.YtggfmklppkioeaaGreat
set_option linter.unusedSimpArgs false
set_option linter.unusedVariables false
set_option maxRecDepth 100000
open Go.RowKit
open Classical
abbrev bZ:Nm:=⟨#[97,114,109]⟩
abbrev bq:Nm:=⟨#[98,97,115,101]⟩
theorem nTT:bZ≠bq:=fun e=>by
 have:=congrArg ByteArray.size e;exact absurd this (by decide)
theorem iArm:dG bZ:=tu _ (by simp[tn])
theorem iBase:dG bq:=tu _ (by simp[tn])
abbrev twS:List St:=[⟨0,Pq.id⟩,⟨100,sh 10 0 0⟩]
abbrev twB:Lk:=⟨bq,0, -1,false,Pq.zero,twS⟩
theorem tw_u1 {R R':Tr} {e:Int} (hR:REq R []) (d:AttS dG R bZ bq 0 R' e):e=0∧REq R' [(bZ,df bq 0)]:=by
 have k:AttS dG [] bZ bq 0 (lN [] bZ bq 0) 0:=.ok ⟨iArm,iBase⟩ (by decide) (by decide) (fun i q h=>by simp at h) (fun x h=>by cases h) 2 ⟨[bZ,bq],by simp[nTT],fun x=>by
  have:¬a8 [] x:=fun⟨q,hq,_⟩=>by cases hq
  simp[this],rfl⟩ ⟨by decide,by decide⟩ (fun h=>by
  rcases h with h | ⟨q,hq,_⟩
  ·cases h with
   | step h _=>obtain⟨q,hq,_⟩:=jl h;cases hq
  ·cases hq)
 exact d.uniq hR k
theorem tk_b {x:Lk}:lks [(bZ,x)] bZ=[x]:=by rw[lM,if_pos rfl,nX]
theorem tw_u2 {R R':Tr} {e:Int} (hT:TOk R) (hR:REq R [(bZ,df bq 0)]) (d:SetS (km 0 Pq.id) R bZ 0 R' e):e=0∧REq R' [(bZ,{df bq 0 with tr:=[⟨0,Pq.id⟩]})]:=by
 have ha:km 0 Pq.id (df bq 0).tr=([⟨0,Pq.id⟩],0):=by
  rw[show km 0 Pq.id (df bq 0).tr=qw [] (St.mk 0 Pq.id).raw from rfl,vi Pq.good.id];unfold sR;simp[aN,plN]
 have k:SetS (km 0 Pq.id) [(bZ,df bq 0)] bZ 0 ([]++(bZ,{df bq 0 with tr:=(km 0 Pq.id (df bq 0).tr).1})::[]) (km 0 Pq.id (df bq 0).tr).2:=
  .ok (A:=[]) (B:=[]) rfl (by unfold tAt;rw[tk_b];rfl) rfl
 rw[ha]at k;exact d.uniq hT hR k
theorem tw_u3 {R R':Tr} {e:Int} (hT:TOk R) (hR:REq R [(bZ,{df bq 0 with tr:=[⟨0,Pq.id⟩]})]) (d:SetS (km 100 (sh 10 0 0)) R bZ 100 R' e):e=0∧REq R' [(bZ,twB)]:=by
 have hop:¬opp Pq.id (sh 10 0 0):=by
  unfold opp;have e1:Pq.id.rot.inv.mul (sh 10 0 0).rot=Qq.id:=g_inv' nN;rw[e1];decide
 have ha:km 100 (sh 10 0 0) [⟨0,Pq.id⟩]=(twS,0):=by
  rw[show km 100 (sh 10 0 0) [⟨0,Pq.id⟩]=qw [⟨0,Pq.id⟩] (St.mk 100 (sh 10 0 0)).raw from rfl,vi (sh_good _ _ _)];unfold sR;simp[aN,plN,hop]
 have k:SetS (km 100 (sh 10 0 0)) [(bZ,{df bq 0 with tr:=[⟨0,Pq.id⟩]})] bZ 100 ([]++(bZ,{df bq 0 with tr:=(km 100 (sh 10 0 0) [⟨0,Pq.id⟩]).1})::[]) (km 100 (sh 10 0 0) [⟨0,Pq.id⟩]).2:=
  .ok (A:=[]) (B:=[]) (x:= {df bq 0 with tr:=[⟨0,Pq.id⟩]}) rfl (by unfold tAt;rw[tk_b];rfl) rfl
 rw[ha]at k;exact d.uniq hT hR k
section
variable {R:Tr} {a:Int} (hR:REq R [(bZ,twB)])
include hR
theorem tw_l:lks R bZ=[twB]:=by rw[hR bZ,tk_b]
theorem tw_m {q:Nm×Lk}:q∈R↔q=(bZ,twB):=by rw[hR.mem];simp
theorem tw_t (h:0≤a):tAt R bZ a=some twB:=by
 have:twB.has a=true:=dv.2 ⟨h,.inl rfl⟩;unfold tAt;rw[tw_l hR];simp only[List.find?,this]
theorem tw_p (h:0≤a):par R a bZ=some bq:=by unfold par;rw[tw_t hR h];rfl
theorem tw_pb:par R a bq=none:=by
 cases hp:par R a bq with
 | none=>rfl
 | some y=>
  obtain⟨q,hq,_,_⟩:=jl hp;exact absurd (congrArg Prod.fst ((tw_m hR).1 hq)) nTT.symm
theorem tw_k:a8 R bZ∧a8 R bq:=⟨⟨_,(tw_m hR).2 rfl,.inl rfl⟩,⟨_,(tw_m hR).2 rfl,.inr rfl⟩⟩
theorem tw_ab:eF R a bq=[bq]:=te (.root (tw_pb hR))
theorem tw_aa (h:0≤a):eF R a bZ=[bZ,bq]:=te (.step (tw_p hR h) (.root (tw_pb hR)))
theorem tw_e (h:0≤a):dR R bZ a=trkP twS a:=by unfold dR;rw[tw_t hR h];rfl
theorem yP (h:0≤a):bx R a bZ bq=(bq,0):=by
 unfold bx;rw[if_pos (tw_k hR),tw_aa hR h,tw_ab hR];simp[pI,nTT]
theorem tw_bel (h:0≤a):dh (eF R a bZ) bq=[bZ]:=by rw[tw_aa hR h];simp[dh,nTT]
theorem tw_na:dh (eF R a bq) bq=[]:=by rw[tw_ab hR];simp[dh]
theorem tw_ub:upP R a bq bq=(Pq.id,0):=by unfold upP;rw[tw_na hR];rfl
theorem tw_ua {p:Pq} (h:0≤a) (k:trkP twS a=(p,0)):upP R a bZ bq=(p.mul Pq.id,0):=by
 unfold upP;rw[tw_bel hR h];unfold gE;rw[tw_e hR h,k,if_pos rfl];rfl
theorem tw_ua0 {p:Pq} {c:Int} (h:0≤a) (k:trkP twS a=(p,c)) (hc:c≠0):upP R a bZ bq=(Pq.zero,c):=by
 unfold upP;rw[tw_bel hR h];unfold gE;rw[tw_e hR h,k,if_neg hc]
end
def nF:Pq:=⟨Qq.id,⟨⟨false,5,2⟩,Fq.ofInt 0,Fq.ofInt 0⟩⟩
theorem tw_k25:trkP twS 25=(nF,0):=by
 have e:atP ⟨0,Pq.id⟩ ⟨100,sh 10 0 0⟩ 0 25=nF:=by
  rw[atP_m (by decide)];kernel_rfl
 simp[trkP,plN,e]
theorem tw_k101:trkP twS 101=(Pq.zero,17):=by
 unfold trkP;simp only[List.getElem?_cons_zero,List.length_cons,List.length_nil];rw[show(0+1+1 - 1:Nat)=1 from rfl,show twS[1]? =some ⟨100,sh 10 0 0⟩from rfl];simp only;rw[if_pos (.inr (by decide))]
section
variable {R:Tr} (hR:REq R [(bZ,twB)])
include hR
theorem tw_f1:bJ R 25 bq bZ=(nF,0):=by
 rw[findP_ok (yP hR (by decide)) (tw_ua hR (by decide) tw_k25) (tw_ub hR)];rw[show Pq.id.inv.mul (nF.mul Pq.id)=nF by kernel_rfl]
theorem tw_f2:bJ R 101 bq bZ=(Pq.zero,17):=findP_up (yP hR (by decide)) (tw_ua0 hR (by decide) tw_k101 (by decide)) (by decide)
end
theorem tw_text:nF.text=⟨#[49,32,48,32,48,32,48,32,53,47,50,32,48,32,48]⟩:=by kernel_rfl
theorem tw_ok:nF.ok 2:=⟨oX,⟨⟨by decide,by decide,by decide⟩,aL (by decide) (by decide),aL (by decide) (by decide)⟩⟩
end Go.Proofs.YtggfmklppkioeaaGreat
namespace Go.Proofs.YtggfmklppkioeaaGreat
set_option linter.unusedSimpArgs false
set_option linter.unusedVariables false
set_option maxRecDepth 100000
open Go.RowKit
section
variable {ρ:Rho} {nt:Nat} {w:World}
def blkL (bs:List Nat):Blk:=⟨fun x=>bs[x]?,fun _ _=>False⟩
theorem pN {bs:List Nat} {g:Nat} (h:(blkL bs).has g):g∈bs:=by
 rcases h with⟨x,h⟩ | ⟨k,h⟩
 ·exact List.mem_of_getElem? h
 ·exact h.elim
theorem i5 {we:World} {V:List (TypeId×Nat×List Value×List Leaf)} {known:List (Option AV)} {ts:List Value} (hb:Below we.heap.size we w) (hnd:(V.map (·.2.1)).Nodup)
  (hv:∀x∈V,we.heap.size≤x.2.1∧w.heap[x.2.1]? =some (.cells x.2.2.1.toArray x.1 (0,0))∧(∀u∈x.2.2.1,noU u)∧aC ρ (blkL (V.map (·.2.1))) w x.2.2.2 x.2.2.1)
  (hk:ko ρ (blkL (V.map (·.2.1))) w known ts) (hn:ts.length=nt):MSt ρ (Ent.of we) nt ⟨known++List.replicate (nt - known.length) none,V.map fun x=>(x.1,x.2.2.2.map some)⟩ ⟨ts.toArray,[]⟩ w:=by
 have hat:∀ {v g:Nat},(V.map (·.2.1))[v]? =some g→∃x,V[v]? =some x∧x.2.1=g:=fun {v g} h=>by
  rw[List.getElem?_map]at h
  cases hx:V[v]? with
  | none=>rw[hx]at h;cases h
  | some x=>rw[hx]at h;injection h with h;exact⟨x,rfl,h⟩
 refine⟨blkL (V.map (·.2.1)),⟨fun v g hv'=> ?_,fun k g h=>h.elim,⟨fun x y g hx hy=> ?_,fun k l g h=>h.elim,fun x k g hx h=>h⟩,⟨hb.os,hb.tape,hb.output,hb.size,fun k hk _=>hb.block k hk⟩,by simpa using hn,rfl,fun x g h=>by simp[Ent.of]at h⟩,fun x c hx=> ?_,fun v hv'=> ?_⟩
 ·obtain⟨⟨T,b,cs,l⟩,h1,rfl⟩:=hat hv';obtain⟨h2,h3,h4,h5⟩:=hv _ (List.mem_of_getElem? h1);have q0:=h5.len;refine⟨.inl h2,cs.toArray,T,by simp[cO,h1,q0],h3,fun k n hk=> ?_⟩;exact h4 _ (List.mem_of_getElem? (show cs[k]? =some (.int .u32 n)by simpa using hk)) n rfl
 ·obtain⟨h1,e1⟩:=List.getElem?_eq_some_iff.1 hx;obtain⟨h2,e2⟩:=List.getElem?_eq_some_iff.1 hy;exact(List.getElem_inj hnd).1 (e1.trans e2.symm)
 ·unfold bf at hx;split at hx
  ·rename_i hlt;unfold bu;rw[if_pos hlt];simp only at hx;have hx2:(known++List.replicate (nt - known.length) none)[x]? =some (some c):=by
    cases hq:(known++List.replicate (nt - known.length) none)[x]? with
    | none=>rw[hq]at hx;cases hx
    | some o=>rw[hq]at hx;simp only at hx;rw[hx]
   have hx3:known[x]? =some (some c):=by
    by_cases hl:x<known.length
    ·rwa [List.getElem?_append_left hl]at hx2
    ·rw[List.getElem?_append_right (by omega),List.getElem?_replicate]at hx2;split at hx2
     ·injection hx2 with hx2;cases hx2
     ·cases hx2
   obtain⟨u,h3,h4⟩:=hk.get hx3;exact⟨u,by simpa using h3,h4⟩
  ·rename_i hlt;unfold bu;rw[if_neg hlt];simp only[List.getElem?_map]at hx
   cases h1:V[x / 100000 - 1]? with
   | none=>rw[h1]at hx;simp at hx
   | some y=>
    obtain⟨T,b,cs,ls⟩:=y;rw[h1]at hx;simp only[Option.map_some,List.getElem?_map]at hx
    cases hl:ls[x % 100000]? with
    | none=>rw[hl]at hx;cases hx
    | some l=>
     rw[hl]at hx;simp only[Option.map_some,Option.some.injEq]at hx;subst hx;obtain⟨h2,h3,_,h5⟩:=hv _ (List.mem_of_getElem? h1);obtain⟨u,h6,h7⟩:=h5.at hl;exact⟨b,cs.toArray,T,u,by show(V.map (·.2.1))[_]? =_;rw[List.getElem?_map,h1];rfl,h3,by simpa using h6,h7⟩
 ·show v<(V.map _).length;rw[List.length_map]
  cases h:V[v]? with
  | none=>
   refine absurd ?_ hv';show(V.map (·.2.1))[v]? =none;rw[List.getElem?_map,h];rfl
  | some x=>exact(List.getElem?_eq_some_iff.1 h).1
end
end Go.Proofs.YtggfmklppkioeaaGreat
namespace Go.Proofs.YtggfmklppkioeaaGreat
set_option linter.unusedSimpArgs false
set_option linter.unusedVariables false
set_option maxRecDepth 100000
open Go.RowKit
def headR:Code→Option Nat
 | .seq c _=>headR c
 | .region i _ _=>some i
 | _=>none
def restC (n:Nat):Code→Option Code
 | .seq c d=>if headR (.seq c d)=some n then some (.seq c d)else match restC n c with
  | some c'=>some c'
  | none=>restC n d
 | .region i o b=>if i=n then some (.region i o b)else none
 | _=>none
def gV (n:Nat) (p:Program) (f:FuncId):Option Code:=(p.funcs[f]?).bind fun fn=>fn.body.bind (restC n)
theorem kc_c {ρ:Rho} {e:Int}:∀B w,(Leaf.i .i64 e).holds ρ B w (.int .i64 e):=fun _ _=>rfl
end Go.Proofs.YtggfmklppkioeaaGreat
namespace Go.Proofs.YtggfmklppkioeaaGreat
set_option linter.unusedSimpArgs false
set_option linter.unusedVariables false
set_option maxRecDepth 100000
open Go.RowKit
def oneL (r:Rq):Prop:=r.L≤1∧r.N≤1
set_option maxHeartbeats 2000000 in
theorem q_tiny {w:World} {v:Value} {r0 r1 r2 r3 r4 r5 r6:Rq} (h:IsL w v [r0,r1,r2,r3,r4,r5,r6]):
  Calls Tryz.prog 66 #[v] w fun e w'=>(∃b,e= .returned (.bool b)∧(b=true→pk r0 r1 r2 r3 r4 r5 r6=true∧∀r∈ [r0,r1,r2,r3,r4,r5,r6],oneL r))∧Below w.heap.size w w':=by
 have HV:=Lib.hid h;obtain⟨cs,rfl,a0,c0,b0,d0,cs0,rfl, -, -,a1,c1,b1,d1,cs1,rfl, -, -,a2,c2,b2,d2,cs2,rfl, -, -,a3,c3,b3,d3,cs3,rfl, -, -,a4,c4,b4,d4,cs4,rfl, -, -,a5,c5,b5,d5,cs5,rfl, -, -,a6,c6,b6,d6,cs6,rfl, -, -,rfl⟩:=h;obtain⟨w1,hw1⟩:∃w1,w.alloc (.cells #[.bool r0.s,.slice a0 r0.L c0,.slice b0 r0.N d0,.bool r1.s,.slice a1 r1.L c1,.slice b1 r1.N d1,.bool r2.s,.slice a2 r2.L c2,.slice b2 r2.N d2,.bool r3.s,.slice a3 r3.L c3,.slice b3 r3.N d3,.bool r4.s,.slice a4 r4.L c4,.slice b4 r4.N d4,.bool r5.s,.slice a5 r5.L c5,.slice b5 r5.N d5,.bool r6.s,.slice a6 r6.L c6,.slice b6 r6.N d6] 39)=w1:=⟨_,rfl⟩;obtain⟨w2,hw2⟩:∃w2,w1.alloc (.cells #[.bool r0.s,.slice a0 r0.L c0,.slice b0 r0.N d0,.bool r1.s,.slice a1 r1.L c1,.slice b1 r1.N d1,.bool r2.s,.slice a2 r2.L c2,.slice b2 r2.N d2,.bool r3.s,.slice a3 r3.L c3,.slice b3 r3.N d3,.bool r4.s,.slice a4 r4.L c4,.slice b4 r4.N d4,.bool r5.s,.slice a5 r5.L c5,.slice b5 r5.N d5,.bool r6.s,.slice a6 r6.L c6,.slice b6 r6.N d6] 33)=w2:=⟨_,rfl⟩;have hb1:Below w.heap.size w w1:=by rw[←hw1];exact(Below.refl _ _).alloc (Nat.le_refl _) _
 have hb2:Below w1.heap.size w1 w2:=by rw[←hw2];exact(Below.refl _ _).alloc (Nat.le_refl _) _
 have hc1:w1.heap[w.heap.size]? =some (.cells #[.bool r0.s,.slice a0 r0.L c0,.slice b0 r0.N d0,.bool r1.s,.slice a1 r1.L c1,.slice b1 r1.N d1,.bool r2.s,.slice a2 r2.L c2,.slice b2 r2.N d2,.bool r3.s,.slice a3 r3.L c3,.slice b3 r3.N d3,.bool r4.s,.slice a4 r4.L c4,.slice b4 r4.N d4,.bool r5.s,.slice a5 r5.L c5,.slice b5 r5.N d5,.bool r6.s,.slice a6 r6.L c6,.slice b6 r6.N d6] 39 (0,0)):=by rw[←hw1];exact heap_alloc_new w _
 have hc2:w2.heap[w1.heap.size]? =some (.cells #[.bool r0.s,.slice a0 r0.L c0,.slice b0 r0.N d0,.bool r1.s,.slice a1 r1.L c1,.slice b1 r1.N d1,.bool r2.s,.slice a2 r2.L c2,.slice b2 r2.N d2,.bool r3.s,.slice a3 r3.L c3,.slice b3 r3.N d3,.bool r4.s,.slice a4 r4.L c4,.slice b4 r4.N d4,.bool r5.s,.slice a5 r5.L c5,.slice b5 r5.N d5,.bool r6.s,.slice a6 r6.L c6,.slice b6 r6.N d6] 33 (0,0)):=by rw[←hw2];exact heap_alloc_new w1 _
 have hs1:w1.heap.size=w.heap.size+1:=by rw[←hw1];exact asz _ _
 obtain⟨B1,hB1⟩:∃B,w.heap.size=B:=⟨_,rfl⟩;obtain⟨B2,hB2⟩:∃B,w1.heap.size=B:=⟨_,rfl⟩;have HC:=Lib.hid (show∀k,k<7→∃r a c b d,[r0,r1,r2,r3,r4,r5,r6][k]? =some r∧w2.cell? ⟨B2,k*3+1,none⟩=some (.slice a r.L c)∧w2.cell? ⟨B2,k*3+2,none⟩=some (.slice b r.N d)from fun k hk=>by
  rw[←hB2]
  match k,hk with
  | 0,_=>exact⟨r0,a0,c0,b0,d0,rfl,by rw[aA hc2];rfl,by rw[aA hc2];rfl⟩
  | 1,_=>exact⟨r1,a1,c1,b1,d1,rfl,by rw[aA hc2];rfl,by rw[aA hc2];rfl⟩
  | 2,_=>exact⟨r2,a2,c2,b2,d2,rfl,by rw[aA hc2];rfl,by rw[aA hc2];rfl⟩
  | 3,_=>exact⟨r3,a3,c3,b3,d3,rfl,by rw[aA hc2];rfl,by rw[aA hc2];rfl⟩
  | 4,_=>exact⟨r4,a4,c4,b4,d4,rfl,by rw[aA hc2];rfl,by rw[aA hc2];rfl⟩
  | 5,_=>exact⟨r5,a5,c5,b5,d5,rfl,by rw[aA hc2];rfl,by rw[aA hc2];rfl⟩
  | 6,_=>exact⟨r6,a6,c6,b6,d6,rfl,by rw[aA hc2];rfl,by rw[aA hc2];rfl⟩
  | k+7,hk=>omega)
 have HRG:=Lib.hid (show w2.rangeAt w.heap.size 0 [.bool r0.s,.slice a0 r0.L c0,.slice b0 r0.N d0,.bool r1.s,.slice a1 r1.L c1,.slice b1 r1.N d1,.bool r2.s,.slice a2 r2.L c2,.slice b2 r2.N d2,.bool r3.s,.slice a3 r3.L c3,.slice b3 r3.N d3,.bool r4.s,.slice a4 r4.L c4,.slice b4 r4.N d4,.bool r5.s,.slice a5 r5.L c5,.slice b5 r5.N d5,.bool r6.s,.slice a6 r6.L c6,.slice b6 r6.N d6]from fZ (fun j u hj=>by rw[aA hc1];simpa using hj) hb2 (by omega));have HB:=Lib.hid (hb1.trans (hb2.mono hb1.size));rw[hB1]at hc1;have f0:w1.cell? ⟨B1,0,none⟩=some (.bool r0.s):=by rw[aA hc1];rfl
 have f1:w1.cell? ⟨B1,1,none⟩=some (.slice a0 r0.L c0):=by rw[aA hc1];rfl
 have f2:w1.cell? ⟨B1,2,none⟩=some (.slice b0 r0.N d0):=by rw[aA hc1];rfl
 have f3:w1.cell? ⟨B1,3,none⟩=some (.bool r1.s):=by rw[aA hc1];rfl
 have f4:w1.cell? ⟨B1,4,none⟩=some (.slice a1 r1.L c1):=by rw[aA hc1];rfl
 have f5:w1.cell? ⟨B1,5,none⟩=some (.slice b1 r1.N d1):=by rw[aA hc1];rfl
 have f6:w1.cell? ⟨B1,6,none⟩=some (.bool r2.s):=by rw[aA hc1];rfl
 have f7:w1.cell? ⟨B1,7,none⟩=some (.slice a2 r2.L c2):=by rw[aA hc1];rfl
 have f8:w1.cell? ⟨B1,8,none⟩=some (.slice b2 r2.N d2):=by rw[aA hc1];rfl
 have f9:w1.cell? ⟨B1,9,none⟩=some (.bool r3.s):=by rw[aA hc1];rfl
 have f10:w1.cell? ⟨B1,10,none⟩=some (.slice a3 r3.L c3):=by rw[aA hc1];rfl
 have f11:w1.cell? ⟨B1,11,none⟩=some (.slice b3 r3.N d3):=by rw[aA hc1];rfl
 have f12:w1.cell? ⟨B1,12,none⟩=some (.bool r4.s):=by rw[aA hc1];rfl
 have f13:w1.cell? ⟨B1,13,none⟩=some (.slice a4 r4.L c4):=by rw[aA hc1];rfl
 have f14:w1.cell? ⟨B1,14,none⟩=some (.slice b4 r4.N d4):=by rw[aA hc1];rfl
 have f15:w1.cell? ⟨B1,15,none⟩=some (.bool r5.s):=by rw[aA hc1];rfl
 have f16:w1.cell? ⟨B1,16,none⟩=some (.slice a5 r5.L c5):=by rw[aA hc1];rfl
 have f17:w1.cell? ⟨B1,17,none⟩=some (.slice b5 r5.N d5):=by rw[aA hc1];rfl
 have f18:w1.cell? ⟨B1,18,none⟩=some (.bool r6.s):=by rw[aA hc1];rfl
 have f19:w1.cell? ⟨B1,19,none⟩=some (.slice a6 r6.L c6):=by rw[aA hc1];rfl
 have f20:w1.cell? ⟨B1,20,none⟩=some (.slice b6 r6.N d6):=by rw[aA hc1];rfl
 clear hc1 hc2 hb1 hb2 hs1;go_enter Tryz.func66,Tryz.ntmps66
 go_upto_region 2 with(fail)
 clear f0 f1 f2 f3 f4 f5 f6 f7 f8 f9 f10 f11 f12 f13 f14 f15 f16 f17 f18 f19 f20;go_wp2;go_loopw [4] (fun s4 wr=>∃k:Nat,k≤7∧s4= .int .i64 (k:Int)∧wr=w2∧Hid (∀(i:Nat) (r:Rq),i<k→[r0,r1,r2,r3,r4,r5,r6][i]? =some r→oneL r)) (fun s4 _=>7 - (intOf s4).toNat)
 case atStart=>exact⟨0,Nat.zero_le _,rfl,rfl,Lib.hid (fun i r hi=>absurd hi (Nat.not_lt_zero _))⟩
 case round=>
  obtain⟨k,hk,rfl,hwr,HO⟩:=hrel;obtain rfl:=hwr;rcases Nat.lt_or_ge k 7 with hlt | hge
  ·obtain⟨r,a,c,b,d,hr,e1,e2⟩:=HC.out k hlt;have HR:=Lib.hid hr;have hk7:(k:Int)<7:=by omega
   clear hr;by_cases g1:1<r.L
   ·have q1:decide ((1:Int)<(r.L:Int))=true:=decide_eq_true (by omega);go_wp2;go_ret;exact⟨⟨_,rfl,fun h=>by cases h⟩,HB.out⟩
   ·have q1:decide ((1:Int)<(r.L:Int))=false:=decide_eq_false (by omega);by_cases g2:1<r.N
    ·have q2:decide ((1:Int)<(r.N:Int))=true:=decide_eq_true (by omega);go_wp2;go_ret;exact⟨⟨_,rfl,fun h=>by cases h⟩,HB.out⟩
    ·have q2:decide ((1:Int)<(r.N:Int))=false:=decide_eq_false (by omega);go_wp2;go_roundw
     case rel=>exact⟨k+1,by omega,by go_num,by trivial,Lib.hid (fun i x hi hx=>by
      rcases Nat.lt_or_ge i k with h | h
      ·exact HO.out i x h hx
      ·obtain rfl:i=k:=by omega
       rw[HR.out]at hx;injection hx with hx;subst hx;exact⟨by omega,by omega⟩)⟩
     case measure=>simp[intOf];omega
  ·obtain rfl:k=7:=by omega
   have HL':∀r∈ [r0,r1,r2,r3,r4,r5,r6],r.L≤1000000∧r.N≤1000000:=fun r hr=>by
    obtain⟨i,hi⟩:=List.getElem?_of_mem hr;have h1:=HO.out i r (by have:=(List.getElem?_eq_some_iff.1 hi).1;simpa using this) hi;exact⟨Nat.le_trans h1.1 (by decide),Nat.le_trans h1.2 (by decide)⟩
   have hval:=(kf _ r0 r1 r2 r3 r4 r5 r6 wr (HV.out.mono HB.out) (HL' r0 (by simp)).1 (HL' r0 (by simp)).2 (HL' r1 (by simp)).1 (HL' r1 (by simp)).2 (HL' r2 (by simp)).1 (HL' r2 (by simp)).2 (HL' r3 (by simp)).1 (HL' r3 (by simp)).2 (HL' r4 (by simp)).1 (HL' r4 (by simp)).2 (HL' r5 (by simp)).1 (HL' r5 (by simp)).2 (HL' r6 (by simp)).1 (HL' r6 (by simp)).2);have hrg:=HRG.out;rw[hB1]at hrg;have HRG2:=Lib.hid hrg;clear HL' hrg;go_upto_region 7 with(fail)
   refine wp_region_list ?_;refine wpList_load_mid rfl _ _ rfl B1 0 rfl [.bool r0.s,.slice a0 r0.L c0,.slice b0 r0.N d0,.bool r1.s,.slice a1 r1.L c1,.slice b1 r1.N d1,.bool r2.s,.slice a2 r2.L c2,.slice b2 r2.N d2,.bool r3.s,.slice a3 r3.L c3,.slice b3 r3.N d3,.bool r4.s,.slice a4 r4.L c4,.slice b4 r4.N d4,.bool r5.s,.slice a5 r5.L c5,.slice b5 r5.N d5,.bool r6.s,.slice a6 r6.L c6,.slice b6 r6.N d6] _ HRG2.out Tryz.underlying39 rfl (by kernel_rfl) ?_;go_wp2_with (go_at_call 122;refine hval.mono ?_;rintro e w3 ⟨rfl,hb3⟩;have HB3:=Lib.hid hb3;clear hb3)
   go_ret;exact⟨⟨_,rfl,fun h=>⟨h,fun r hr=>by
    obtain⟨i,hi⟩:=List.getElem?_of_mem hr;exact HO.out i r (by have:=(List.getElem?_eq_some_iff.1 hi).1;simpa using this) hi⟩⟩,HB.out.trans (HB3.out.mono HB.out.size)⟩
end Go.Proofs.YtggfmklppkioeaaGreat
namespace Go.Proofs.YtggfmklppkioeaaGreat
set_option linter.unusedSimpArgs false
set_option linter.unusedVariables false
set_option maxRecDepth 100000
open Go.RowKit
open Go.ChangeShapes Go.WideShapes Go.ChangeAt Go.RowKit
structure Turn where
 k:Int
 a:Int
 b:Int
 t:Int
 r0:Rq
 r1:Rq
 r2:Rq
 r3:Rq
 r4:Rq
 r5:Rq
 r6:Rq
def Turn.rs (x:Turn):List Rq:=[x.r0,x.r1,x.r2,x.r3,x.r4,x.r5,x.r6]
abbrev I64 (n:Int):Prop:= -9223372036854775808≤n∧n<9223372036854775808
structure Turn.Ok (x:Turn):Prop where
 k:I64 x.k
 a:I64 x.a
 b:I64 x.b
 t:I64 x.t
def Turn.Cs (w:World) (x:Turn) (l:List Value):Prop:=∃cs,l= .int .i64 x.k::.int .i64 x.a::.int .i64 x.b::.int .i64 x.t::cs∧aM w x.rs cs
def fN (w:World) (v:Value) (R:List Turn):Prop:=(R=[]∧∃a c,v= .slice a 0 c)∨∃b o c,v= .slice (some ⟨b,o,none⟩) R.length c∧R≠ []∧b<w.heap.size∧∀i x,R[i]? =some x→∃l,x.Cs w l∧∀j u,l[j]? =some u→w.cell? ⟨b,o+(i*25+j),none⟩=some u
theorem fN.below {w w':World} {v:Value} {R:List Turn} (h:fN w v R) (k:Below w.heap.size w w'):fN w' v R:=
 h.imp id (fun⟨b,o,c,e,hn,hb,hq⟩=>⟨b,o,c,e,hn,Nat.lt_of_lt_of_le hb k.size,fun i x hi=>by
  obtain⟨l,⟨cs,e1,h1⟩,h2⟩:=hq i x hi;exact⟨l,⟨cs,e1,h1.mono k⟩,fun j u hu=>by rw[k.cell (p:=⟨b,_,none⟩) hb];exact h2 j u hu⟩⟩)
section
variable {H:Type} {enc:TypeId×Value→H} {W:World}
theorem open_turn {fuel:Nat} {l:List Value} {x:DataW H×List MemPlace} (hl:l.length=25) (hf:DataW.trod enc Tryz.prog W 0 (fun _=>true) true fuel 114 l=some x):∃s:Turn,s.Ok∧s.Cs W l:=by
 have hci:Tryz.prog.cellsOf 3=1:=by kernel_rfl
 have hcp:Tryz.prog.cellsOf 39=21:=by kernel_rfl
 obtain⟨xs,n,_,hx,_,hlen,hg⟩:=DataW.trod_struct Tryz.underlying114 hf
 match xs,hlen with
 | [y0,y1,y2,y3,y4],_=>
  have h0:=hg 0 _ rfl;have h1:=hg 1 _ rfl;have h2:=hg 2 _ rfl;have h3:=hg 3 _ rfl;have h4:=hg 4 _ rfl;simp[Value.cells,hci,hcp]at h0 h1 h2 h3 h4
  match l,hl with
  | u0::u1::u2::u3::l,hl=>
   simp at h0 h1 h2 h3 h4 hl;obtain⟨t0,e0,f0⟩:=DataW.trod_int Tryz.underlying3 h0;obtain⟨t1,e1,f1⟩:=DataW.trod_int Tryz.underlying3 h1;obtain⟨t2,e2,f2⟩:=DataW.trod_int Tryz.underlying3 h2;obtain⟨t3,e3,f3⟩:=DataW.trod_int Tryz.underlying3 h3;simp at e0 e1 e2 e3;subst e0 e1 e2 e3;rw[List.take_of_length_le (by omega)]at h4;obtain⟨r0,r1,r2,r3,r4,r5,r6,k⟩:=xx hl h4;exact⟨⟨t0,t1,t2,t3,r0,r1,r2,r3,r4,r5,r6⟩,⟨kv f0.2,kv f1.2,kv f2.2,kv f3.2⟩,l,rfl,k⟩
theorem xF {v:Value} {d:DataW H} {p:List MemPlace} {base:Nat} (hval:Value.okWide Tryz.prog W .any base 22 v) (h:DataW.Trod enc Tryz.prog W 0 (fun _=>true) true 22 v d p):
  ∃R:List Turn,(∀s∈R,s.Ok)∧fN W v R:=by
 obtain⟨a0,len0,cap0,rfl⟩:=okWide_slice Tryz.underlying22 hval;obtain⟨fuel,hf⟩:=h;have hc25:Tryz.prog.cellsOf 114=25:=by kernel_rfl
 rcases Go.Deep.open_slice Tryz.underlying22 hf with⟨hcs,_⟩ | ⟨a,len,cap,m,n,D,Pl,hcs,_,hlc,_,hm,_,hx⟩
 ·simp[Value.cells]at hcs;obtain⟨rfl,rfl,rfl⟩:=hcs;exact⟨[],fun _ h=>(by cases h),.inl ⟨rfl,_,_,rfl⟩⟩
 ·simp[Value.cells]at hcs;obtain⟨rfl,rfl,rfl⟩:=hcs;have hlm:len0≤m:=by rw[hm];split<;>omega
  by_cases h0:len0=0
  ·subst h0;exact⟨[],fun _ h=>(by cases h),.inl ⟨rfl,_,_,rfl⟩⟩
  ·have hcells:∀i,i<len0→∃cs',(∀j,j<25→W.cell? ((a.add (i*25)).add j)=cs'[j]?)∧cs'.length=25∧DataW.trod enc Tryz.prog W 0 (fun _=>true) true n 114 cs'=some (D i,Pl i):=fun i hi=>by
    obtain⟨cs',h1,h2⟩:=hx i (by omega);rw[hc25]at h1;obtain⟨_,hl,hcell⟩:=World.cells?_some h1;exact⟨cs',hcell,hl,h2⟩
   obtain⟨b,o,spot⟩:=a;have hspot:spot=none:=by
    obtain⟨cs',h1,h2,_⟩:=hcells 0 (by omega);have h3:=h1 0 (by omega);rw[List.getElem?_eq_getElem (show 0<cs'.length by omega)]at h3;have h4:=World.cell?_spot h3;simpa [Addr.add]using h4
   subst hspot;simp only[dr]at hcells;have hst:∀i,∃s:Turn,i<len0→s.Ok∧∃l,s.Cs W l∧∀j u,l[j]? =some u→W.cell? ⟨b,o+(i*25+j),none⟩=some u:=by
    intro i;by_cases hi:i<len0
    ·obtain⟨cs',hcell,hl,h2⟩:=hcells i hi;obtain⟨s,hs,hcs⟩:=open_turn hl h2;refine⟨s,fun _=>⟨hs,cs',hcs,fun j u hu=> ?_⟩⟩;have hj:j<25:=by have:=(List.getElem?_eq_some_iff.1 hu).1;omega
     rw[←Nat.add_assoc,hcell j hj];exact hu
    ·exact⟨⟨0,0,0,0,Fq.zero.raw,Fq.zero.raw,Fq.zero.raw,Fq.zero.raw,Fq.zero.raw,Fq.zero.raw,Fq.zero.raw⟩,fun h=>absurd h hi⟩
   obtain⟨f,hf'⟩:=Classical.axiomOfChoice hst;have hlen:((List.range len0).map f).length=len0:=by simp
   have hget:∀i s,((List.range len0).map f)[i]? =some s→i<len0∧s=f i:=fun i s hi=>by
    have hi2:i<len0:=by have:=(List.getElem?_eq_some_iff.1 hi).1;rw[hlen]at this;exact this
    rw[List.getElem?_map,List.getElem?_range hi2]at hi;exact⟨hi2,by simpa using hi.symm⟩
   refine⟨(List.range len0).map f,fun s hs=> ?_,.inr ⟨b,o,cap0,by rw[hlen],fun e=> ?_,?_,fun i s hi=> ?_⟩⟩
   ·obtain⟨i,hi,e⟩:=List.getElem_of_mem hs;obtain⟨h1,h2⟩:=hget i s (by rw[List.getElem?_eq_getElem hi,e]);subst h2;exact(hf' i h1).1
   ·rw[e]at hlen;exact h0 hlen.symm
   ·obtain⟨cs',h1,h2,_⟩:=hcells 0 (by omega);have h3:=h1 0 (by omega);rw[List.getElem?_eq_getElem (show 0<cs'.length by omega)]at h3;unfold World.cell? at h3;split at h3
    ·rename_i hh;exact(Array.getElem?_eq_some_iff.1 hh).1
    ·cases h3
   ·obtain⟨h1,h2⟩:=hget i s hi;subst h2;exact(hf' i h1).2
end
end Go.Proofs.YtggfmklppkioeaaGreat
namespace Go.Proofs.YtggfmklppkioeaaGreat
set_option linter.unusedSimpArgs false
set_option linter.unusedVariables false
set_option maxRecDepth 100000
open Go.RowKit
theorem tiny_pose {x:Turn} (h:pk x.r0 x.r1 x.r2 x.r3 x.r4 x.r5 x.r6=true) (h1:∀r∈x.rs,oneL r):∃p:Pq,p.good∧p.ok 2∧x.rs=p.cs.map Fq.raw:=by
 obtain⟨s,e,g⟩:=pn (x:=⟨0,x.r0,x.r1,x.r2,x.r3,x.r4,x.r5,x.r6⟩) h;refine⟨s.pose,g,xi (fun r hr=> ?_) e g,?_⟩
 ·have:=h1 r hr;exact⟨Nat.le_trans this.1 (by decide),Nat.le_trans this.2 (by decide)⟩
 ·have:=congrArg RSt.rs e;exact this
theorem turn_isOq {w:World} {v:Value} {x:Turn} {p:Pq} (e:x.rs=p.cs.map Fq.raw) (h:IsL w v x.rs):bw w v p:=by
 rw[e]at h;exact h
end Go.Proofs.YtggfmklppkioeaaGreat
namespace Go.Proofs.YtggfmklppkioeaaGreat
set_option linter.unusedSimpArgs false
set_option linter.unusedVariables false
set_option maxRecDepth 100000
open Go.RowKit
def gW:List Value:=.int .i64 0::.int .i64 0::.int .i64 0::.int .i64 0::aD
theorem Turn.Cs.len {x:Turn} {w:World} {l:List Value} (h:x.Cs w l):l.length=25:=by
 obtain⟨cs,rfl,hc⟩:=h;have:=bY hc;simp only[List.length_cons,this];rfl
theorem Turn.Cs.one {x:Turn} {w:World} {l:List Value} (h:x.Cs w l):l.toArray.all (·.oneCell')=true:=by
 obtain⟨cs,rfl,hc⟩:=h;refine all_oneCell_toArray (fun u hu=> ?_);simp only[List.mem_cons]at hu;rcases hu with rfl | rfl | rfl | rfl | hu
 ·rfl
 ·rfl
 ·rfl
 ·rfl
 ·exact fx hc u hu
theorem rp {l:List Value} (hl:l.length=25):(Tryz.prog.info? 114).map (·.size)=some l.toArray.size:=by rw[List.size_toArray,hl];kernel_rfl
structure TurnV (w W:World) (B:Nat) (x:Turn) (l:List Value):Prop where
 blk:W.heap[B]? =some (.cells l.toArray 114 (0,0))
 bel:Below w.heap.size w W
 ge:w.heap.size=B
 cs:x.Cs W l
theorem TurnV.mk' (w:World) {x:Turn} {l:List Value} (h:x.Cs w l):(w.alloc (.cells gW.toArray 114)).there w.heap.size 0 25∧TurnV w ((w.alloc (.cells gW.toArray 114)).setCells w.heap.size 0 l) w.heap.size x l:=by
 have hn:=heap_alloc_new w (.cells gW.toArray 114);have hb:Below w.heap.size w (w.alloc (.cells gW.toArray 114)):=(Below.refl _ w).alloc (Nat.le_refl _) _;have hl:=h.len;have hb2:=aX l 0 _ hb (Nat.le_refl w.heap.size);refine⟨mM hn,?_,hb2,rfl,?_⟩
 ·rw[cX l _ _ 0 _ _ hn,gT (by simp[gW,aD,hl])]
 ·obtain⟨cs,e,hc⟩:=h;exact⟨cs,e,hc.mono hb2⟩
theorem TurnV.cell {w W W':World} {B:Nat} {x:Turn} {l:List Value} (h:TurnV w W B x l) (k:Below W.heap.size W W'):W'.rangeAt B 0 l:=fun j u hj=>by
 have hlt:=(Array.getElem?_eq_some_iff.1 h.blk).1;rw[k.cell (p:=⟨B,_,none⟩) hlt,aA h.blk];simpa using hj
theorem TurnV.lt {w W:World} {B:Nat} {x:Turn} {l:List Value} (h:TurnV w W B x l):B<W.heap.size:=(Array.getElem?_eq_some_iff.1 h.blk).1
theorem co {P:Program} {ops:Array Oper} {Q:Exit→Act→World→Prop} {a:Act} {w:World} {rest:List Oper} {o:Oper} (hw:Region.wanted o (yielded ops a.tmps)=true)
  (h:∀K:Act→World→Prop,(∀a w,wpList P ops Q rest a w→K a w)→o.wp P a w K Q):wpList P ops Q (o::rest) a w:=wpList_step fun K hK=>by rw[if_pos hw];exact h K hK
end Go.Proofs.YtggfmklppkioeaaGreat
