/- lookup.Latest: what is answered. The plain law of poses: they form a group that acts on points and keeps distances. The example that the laws of package lookup try first: its tree, plainly. The example that the laws of package lookup try first: what is found in it. Vectors and translations of whole numbers. A region by the executor, in the middle of a walk. lookup.Latest. lookup.Latest: the walk. -/
import Derived.Test.YtggfmklppkioeaaGreatP20
import Derived.Sort.CutIn
namespace Go.Proofs.YtggfmklppkioeaaGreat
set_option linter.unusedSimpArgs false
set_option linter.unusedVariables false
set_option maxRecDepth 100000
open Go.RowKit
section
open Classical
noncomputable def vJ (R:Tr) (q:Nm×Lk):List Int:=(if 0≤q.2.un then [q.2.un - 1]else [])++ [q.2.fr - 1]++(if (fW R q.1 q.2.fr).2.2=true then [(fW R q.1 q.2.fr).2.1]else [])
noncomputable def dy (R:Tr) (l:List (Nm×Lk)):List Int:=ei::l.flatMap (vJ R)
theorem xY (R:Tr) (l:List (Nm×Lk)) (q:Nm×Lk):dy R (l++ [q])=dy R l++vJ R q:=by unfold dy;simp
theorem endQ_len (R:Tr) (q:Nm×Lk):(vJ R q).length≤3:=by
 unfold vJ;rw[List.length_append,List.length_append];split<;>split<;>simp
theorem nR (R:Tr):∀(l:List (Nm×Lk)),(dy R l).length≤1+3*l.length
 | []=>by simp[dy]
 | q::l=>by
  have h:=nR R l;have k:=endQ_len R q;unfold dy at *;simp only[List.length_cons,List.flatMap_cons,List.length_append]at *;omega
def oJ (R:Tr) (x:Int):Prop:=x=ei∨∃q∈R,(0≤q.2.un∧x=q.2.un - 1)∨x=q.2.fr - 1∨((fW R q.1 q.2.fr).2.2=true∧x=(fW R q.1 q.2.fr).2.1)
theorem endsL_mem {R:Tr} {l:List (Nm×Lk)} (hl:∀q,q∈l↔q∈R) (x:Int):x∈dy R l↔oJ R x:=by
 unfold dy oJ;rw[List.mem_cons,List.mem_flatMap];refine or_congr Iff.rfl ⟨fun⟨q,hq,h⟩=>⟨q,(hl q).1 hq,?_⟩,fun⟨q,hq,h⟩=>⟨q,(hl q).2 hq,?_⟩⟩
 ·unfold vJ at h;rcases List.mem_append.1 h with h | h
  ·rcases List.mem_append.1 h with h | h
   ·split at h
    ·rename_i hu;exact .inl ⟨hu,by simpa using h⟩
    ·cases h
   ·exact .inr (.inl (by simpa using h))
  ·split at h
   ·rename_i hu;exact .inr (.inr ⟨hu,by simpa using h⟩)
   ·cases h
 ·unfold vJ;rcases h with⟨h1,rfl⟩ | rfl | ⟨h1,rfl⟩
  ·rw[if_pos h1];simp
  ·simp
  ·rw[if_pos h1];simp
def vK (R:Tr) (tq fr:Nm) (n e:Int):Prop:=
 (¬(aN R fr∧aN R tq)∧n=0∧e=6)∨
 ((aN R fr∧aN R tq)∧((e=0∧0≤n∧oJ R n∧(aH R n tq fr).2=0∧∀x,oJ R x→0≤x→(aH R x tq fr).2=0→x≤n)∨(e=17∧n=0∧∀x,oJ R x→0≤x→(aH R x tq fr).2≠0)))
theorem lkRow_mem {R:Tr} {L:List Nm} (hL:∀q∈R,q.1∈L) (q:Nm×Lk):q∈fL R L↔q∈R:=by
 unfold fL;rw[List.mem_flatMap];constructor
 ·rintro⟨c,_,h⟩;obtain⟨x,hx,rfl⟩:=List.mem_map.1 h;exact ck.1 hx
 ·intro h;exact⟨q.1,hL q h,List.mem_map.2 ⟨q.2,ck.2 h,rfl⟩⟩
structure EndS (W5 wr:World) (g:Nat) (v:Value) (xs:List Int):Prop where
 row:iF wr g v xs
 kb:Kb W5.heap.size g W5 wr
 own:∀k,v.ownBlock=some k→W5.heap.size≤k∨k=g
theorem EndS.below {W5 wr w':World} {g:Nat} {v:Value} {xs:List Int} (h:EndS W5 wr g v xs) (hb:Below wr.heap.size wr w'):EndS W5 w' g v xs:=
 ⟨dR h.row (fun k hk=>hb.block k (cP h.row hk).2),h.kb.trans (Kb.below (hb.mono h.kb.size)),h.own⟩
theorem EndS.alloc {W5 wr:World} {g:Nat} {v:Value} {xs:List Int} (h:EndS W5 wr g v xs) (o:Obj):EndS W5 (wr.alloc o) g v xs:=h.below ((Below.refl _ _).alloc (Nat.le_refl _) o)
theorem EndS.grown {W5 wr w':World} {g:Nat} {v v':Value} {xs ys:List Int} (h:EndS W5 wr g v xs) (hg:wr.grownBy w' v.ownBlock) (hr:iF w' g v' ys) (ho:v'.ownBlock=v.ownBlock∨v'.ownBlock=some wr.heap.size):EndS W5 w' g v' ys:=
 ⟨hr,h.kb.grown hg h.kb.size h.own,fun k hk=>by
  rcases ho with e | e
  ·exact h.own k (e▸hk)
  ·rw[e]at hk;injection hk with hk;subst hk;exact .inl h.kb.size⟩
theorem EndS.app {W5 wr:World} {g:Nat} {v:Value} {xs:List Int} {ty:TypeId} (x:Int) (h:EndS W5 wr g v xs) (hb:g≤wr.heap.size) (hl:xs.length≤100000):
  ∃v' w',(Builtin.append_ #[171,171] ty #[v,.slice (some ⟨wr.heap.size,0,none⟩) 1 1]).run Tryz.prog (wr.alloc (.cells #[.int .i64 x] 3))= .ok v' w'∧EndS W5 w' g v' (xs++ [x])∧∀B,B<wr.heap.size→v.ownBlock≠some B→w'.heap[B]? =wr.heap[B]? ∧v'.ownBlock≠some B:=by
 have hmx:(1000000:Nat)≤maxLen:=by unfold maxLen;omega
 obtain⟨i0,hi,hz0,hz1,hz2⟩:=info_parts (show(Tryz.prog.info? 3).map (fun i=>(i.zero,i.size,i.bytes))=some (some (.int .i64 0),1,8)by kernel_rfl);have h2:=h.alloc (.cells #[.int .i64 x] 3);obtain⟨v',w',k1,k2,k3,_,k5⟩:=run_append_own_at (P:=Tryz.prog) (w:=wr.alloc (.cells #[.int .i64 x] 3)) g 171 ty 3 i0 (.int .i64 0) 1 8 Tryz.underlying171 hi hz0 hz1 hz2 rfl (by decide) v xs.length (xs.map (Value.int .i64)) h2.row ⟨wr.heap.size,0,none⟩ 1 1 [.int .i64 x] (by simp) (fun j u hu=>by
  rw[cM,Nat.zero_add,aR (heap_alloc_new wr _)]
  cases j with
  | zero=>simpa using hu
  | succ j=>simp at hu) (fun u hu=>by simp only[List.mem_singleton]at hu;subst hu;rfl) (by omega) (by omega) (by rw[asz];omega)
 refine⟨v',w',k1,h2.grown k3 ?_ k5,fun B hB hn=>⟨?_,fun e=> ?_⟩⟩
 ·show w'.ownsRow g 3 1 v' (xs++ [x]).length ((xs++ [x]).map (Value.int .i64));rw[List.length_append,List.map_append];exact k2
 ·rw[k3.block B (by rw[asz];omega) (fun e=>hn e.symm)];exact heap_alloc_old _ _ hB
 ·rcases k5 with e2 | e2
  ·exact hn (e2▸e)
  ·rw[e2,asz]at e;injection e with e;omega
structure RdS (W5 wc:World) (g B:Nat) (v:Value) (xs:List Int) (q:Nm×Lk):Prop where
 es:EndS W5 wc g v xs
 lk:wc.heap[B]? =some (.cells #[.string q.1,.string q.2.par,.int .i64 q.2.fr,.int .i64 q.2.un] 76 (0,0))
 nb:v.ownBlock≠some B
theorem RdS.lt {W5 wc:World} {g B:Nat} {v:Value} {xs:List Int} {q:Nm×Lk} (h:RdS W5 wc g B v xs q):B<wc.heap.size:=(Array.getElem?_eq_some_iff.1 h.lk).1
theorem RdS.below {W5 wc w':World} {g B:Nat} {v:Value} {xs:List Int} {q:Nm×Lk} (h:RdS W5 wc g B v xs q) (k:Below wc.heap.size wc w'):RdS W5 w' g B v xs q:=
 ⟨h.es.below k,(k.block B h.lt).trans h.lk,h.nb⟩
theorem RdS.app {W5 wc:World} {g B:Nat} {v:Value} {xs:List Int} {q:Nm×Lk} {ty:TypeId} (x:Int) (h:RdS W5 wc g B v xs q) (hb:g≤wc.heap.size) (hl:xs.length≤100000):
  ∃v' w',(Builtin.append_ #[171,171] ty #[v,.slice (some ⟨wc.heap.size,0,none⟩) 1 1]).run Tryz.prog (wc.alloc (.cells #[.int .i64 x] 3))= .ok v' w'∧RdS W5 w' g B v' (xs++ [x]) q:=by
 obtain⟨v',w',h1,h2,h3⟩:=h.es.app (ty:=ty) x hb hl;exact⟨v',w',h1,h2,(h3 B h.lt h.nb).1.trans h.lk,(h3 B h.lt h.nb).2⟩
theorem RdS.c0 {W5 wc:World} {g B:Nat} {v:Value} {xs:List Int} {q:Nm×Lk} (h:RdS W5 wc g B v xs q):wc.cell? ⟨B,0,none⟩=some (.string q.1)∧wc.cell? ⟨B,2,none⟩=some (.int .i64 q.2.fr)∧wc.cell? ⟨B,3,none⟩=some (.int .i64 q.2.un):=
 ⟨by rw[aR h.lk];rfl,by rw[aR h.lk];rfl,by rw[aR h.lk];rfl⟩
abbrev lkW (wr:World) (q:Nm×Lk):World:=(wr.alloc (.cells #[.string ⟨#[]⟩,.string ⟨#[]⟩,.int .i64 0,.int .i64 0] 76)).setCells wr.heap.size 0 (dX q)
theorem RdS.start {W5 wr:World} {g:Nat} {v:Value} {xs:List Int} (q:Nm×Lk) (h:EndS W5 wr g v xs):RdS W5 (lkW wr q) g wr.heap.size v xs q where
 es:=h.below (aI _ 0 _ ((Below.refl _ _).alloc (Nat.le_refl _) _) (Nat.le_refl _))
 lk:=by
  unfold lkW;rw[eJ (dX q) _ wr.heap.size 0 _ _ (heap_alloc_new wr _),lL (by simp[dX])];rfl
 nb:=fun e=>by have:=(cP h.row e).2;omega
theorem lk_there (wr:World) (q:Nm×Lk):(wr.alloc (.cells #[.string ⟨#[]⟩,.string ⟨#[]⟩,.int .i64 0,.int .i64 0] 76)).there wr.heap.size 0 (dX q).toArray.size:=by
 have:=nP (heap_alloc_new wr (.cells #[.string ⟨#[]⟩,.string ⟨#[]⟩,.int .i64 0,.int .i64 0] 76));simpa [dX]using this
end
def VR.add (a b:VR):VR:=⟨a.x+b.x,a.y+b.y,a.z+b.z⟩
def VR.sub (a b:VR):VR:=⟨a.x - b.x,a.y - b.y,a.z - b.z⟩
theorem VR.app_add (q:QR) (u v:VR):q.app (u.add v)=(q.app u).add (q.app v):=by unfold QR.app QR.rot VR.add VR.smul;ext<;>simp only<;>grind
section
variable {p q:Qq} {x y v u:Vq} {a b c:Pq}
theorem add_r (hx:x.good) (hy:y.good):(x.add y).r=x.r.add y.r:=by
 have h:=eT hx hy;unfold VR.add Vq.r;ext<;>simp only[h]
theorem r_add (h:q.good) (hx:x.good) (hy:y.good):q.app (x.add y)=(q.app x).add (q.app y):=
 Vq.inj_r (bm h (hx.add hy)) ((bm h hx).add (bm h hy)) (by
  rw[oc h (hx.add hy),add_r hx hy,VR.app_add,add_r (bm h hx) (bm h hy),oc h hx,oc h hy])
theorem r_id (hx:x.good):Qq.id.app x=x:=Vq.inj_r (bm dO hx) hx (by rw[oc dO hx,zT,app_one])
theorem v_opp (hx:x.good):x.add (x.scale (Fq.ofInt (-1)))=Vq.of 0 0 0:=by
 have h1:=dM hx (aE (-1));have h2:=eT hx (hx.scale (aE (-1)));have h3:=of_v 0 0 0;have h4:=cB (-1);exact Vq.inj (hx.add (hx.scale (aE _))) (Vq.good.of 0 0 0) (by grind) (by grind) (by grind)
theorem r_zero (h:q.good):q.app (Vq.of 0 0 0)=Vq.of 0 0 0:=by
 have g:=Vq.good.of 0 0 0;have h1:=r_add h g g;rw[wK g]at h1;have h2:=s_back (bm h g) (bm h g);rw[←h1]at h2;have h3:=sub_v (bm h g) (bm h g);have h4:=of_v 0 0 0;rw[←h2];exact Vq.inj ((bm h g).sub (bm h g)) g (by grind) (by grind) (by grind)
theorem r_forth (h:q.good) (hx:x.good):q.app (q.inv.app x)=x:=by rw[←r_mul h (aX h) hx,g_inv h,r_id hx]
theorem s_zero' (hx:x.good):(Vq.of 0 0 0).add x=x:=by rw[s_comm (Vq.good.of 0 0 0) hx,wK hx]
theorem Pq.ext' (h:a.rot=b.rot) (k:a.pos=b.pos):a=b:=by cases a;cases b;simp only at h k;subst h;subst k;rfl
theorem conj_m (a:QR) (h:a.nrm≠0):Sim QR.one (a.conj.mul a):=⟨a.nrm,h,by unfold QR.mul QR.conj QR.one QR.smul QR.nrm;ext<;>simp only<;>grind⟩
theorem g_inv' (h:q.good):q.inv.mul q=Qq.id:=by
 refine gI (bJ (aX h) h) dO ?_;have h1:=(eu (aX h) h).symm.trans (((sF h).symm).mul (Sim.refl q.r));rw[zT];exact h1.trans (conj_m q.r (de h)).symm
theorem o_act (ga:a.good) (gb:b.good) (gv:v.good):(a.mul b).app v=a.app (b.app v):=by
 show((a.rot.mul b.rot).app v).add ((a.rot.app b.pos).add a.pos)=(a.rot.app ((b.rot.app v).add b.pos)).add a.pos;rw[r_mul ga.rot gb.rot gv,r_add ga.rot (bm gb.rot gv) gb.pos,s_assoc (bm ga.rot (bm gb.rot gv)) (bm ga.rot gb.pos) ga.pos]
theorem fe (ga:a.good) (gb:b.good) (gc:c.good):(a.mul b).mul c=a.mul (b.mul c):=
 Pq.ext' (g_assoc ga.rot gb.rot gc.rot) (o_act ga gb gc.pos)
theorem o_idv (gv:v.good):Pq.id.app v=v:=by
 show(Qq.id.app v).add (Vq.of 0 0 0)=v;rw[r_id gv,wK gv]
theorem vL (ga:a.good):a.mul Pq.id=a:=Pq.ext' (g_one ga.rot) (by
 show(a.rot.app (Vq.of 0 0 0)).add a.pos=a.pos;rw[r_zero ga.rot,s_zero' ga.pos])
theorem nS (ga:a.good):Pq.id.mul a=a:=Pq.ext' (g_one' ga.rot) (o_idv ga.pos)
theorem zf (ga:a.good):a.mul a.inv=Pq.id:=Pq.ext' (g_inv ga.rot) (by
 show(a.rot.app (a.rot.inv.app (a.pos.scale (Fq.ofInt (-1))))).add a.pos=Vq.of 0 0 0;have g:=ga.pos.scale (aE (-1));rw[r_forth ga.rot g,s_comm g ga.pos,v_opp ga.pos])
theorem qv (ga:a.good):a.inv.mul a=Pq.id:=Pq.ext' (g_inv' ga.rot) (by
 show(a.rot.inv.app a.pos).add (a.rot.inv.app (a.pos.scale (Fq.ofInt (-1))))=Vq.of 0 0 0;have g:=ga.pos.scale (aE (-1));have gi:=aX ga.rot;rw[←r_add gi ga.pos g,v_opp ga.pos,r_zero gi])
end
section
open Classical
def sh (x y z:Int):Pq:=⟨Qq.id,Vq.of x y z⟩
theorem tI (x y z:Int):(sh x y z).good:=⟨dO,Vq.good.of x y z⟩
theorem kM {x y z:Int} (hx: -1000000≤x∧x≤1000000) (hy: -1000000≤y∧y≤1000000) (hz: -1000000≤z∧z≤1000000):(sh x y z).ok 2:=
 ⟨rA,⟨aO (by omega) (by omega),aO (by omega) (by omega),aO (by omega) (by omega)⟩⟩
theorem vM {S:List St} {a:Int} {p:Pq} (g:p.good):qK S (St.mk a p).raw=tj S ⟨a,p⟩:=by
 have h:∃s:St,(St.mk a p).raw=s.raw∧s.pose.good:=⟨⟨a,p⟩,rfl,g⟩;unfold qK;rw[dif_pos h];have h1:=h.choose_spec.1;generalize h.choose=s at *;obtain⟨b,q⟩:=s;have e1:=vA h1;have e2:a=b:=by simp only[St.raw,RSt.mk.injEq]at h1;exact h1.1
 rw[e1,e2]
abbrev nC:Nm:=nm1 99
abbrev nX:Nm:=nm1 120
theorem nAC:nA≠nC:=nO (by decide)
theorem nBC:nB≠nC:=nO (by decide)
theorem nAX:nA≠nX:=nO (by decide)
theorem nBX:nB≠nX:=nO (by decide)
theorem nCX:nC≠nX:=nO (by decide)
theorem iC:dx nC:=isNm1 (.inl ⟨by decide,by decide⟩)
abbrev awS:List St:=[⟨0,sh 1 0 0⟩,⟨10,sh 3 0 0⟩]
abbrev awB:Lk:=⟨nA,0, -1,false,Pq.zero,awS⟩
abbrev awC:Lk:=⟨nA,5, -1,true,sh 0 1 0,[]⟩
theorem aw_u1 {R R':Tr} {e:Int} (hR:REq R []) (d:AttS dx R nB nA 0 R' e):e=0∧REq R' [(nB,bV nA 0)]:=by
 have k:AttS dx [] nB nA 0 (lC [] nB nA 0) 0:=.ok ⟨iB,iA⟩ (by decide) (by decide) (fun i q h=>by simp at h) (fun x h=>by cases h) 2 ⟨[nB,nA],by simp[nAB.symm],fun x=>by
  have:¬aN [] x:=fun⟨q,hq,_⟩=>by cases hq
  simp[this],rfl⟩ ⟨by decide,by decide⟩ (fun h=>by
  rcases h with h | ⟨q,hq,_⟩
  ·cases h with
   | step h _=>obtain⟨q,hq,_⟩:=io h;cases hq
  ·cases hq)
 exact d.uniq hR k
theorem aw_t1 {a:Int} {x:Nm} (h:par [(nB,bV nA 0)] a x≠none):x=nB:=by
 cases hp:par [(nB,bV nA 0)] a x with
 | none=>exact absurd hp h
 | some y=>
  obtain⟨q,hq,_,_⟩:=io hp;simp only[List.mem_singleton]at hq;exact congrArg Prod.fst hq
theorem aw_u2 {R R':Tr} {e:Int} (hR:REq R [(nB,bV nA 0)]) (d:AttS dx R nC nA 5 R' e):e=0∧REq R' [(nB,bV nA 0),(nC,bV nA 5)]:=by
 have hl:lks [(nB,bV nA 0)] nC=[]:=by rw[eH,if_neg nBC,kf]
 have k:AttS dx [(nB,bV nA 0)] nC nA 5 (lC [(nB,bV nA 0)] nC nA 5) 0:=.ok ⟨iC,iA⟩ (by decide) (by decide) (fun i q h k=>by
   have:=List.mem_of_getElem? h;simp only[List.mem_singleton]at this;subst this;exact nBC k.1) (fun x h=>by rw[hl]at h;cases h) 3 ⟨[nC,nB,nA],by simp[nAB.symm,nAC.symm,nBC.symm],fun x=>by
  have:aN [(nB,bV nA 0)] x↔x=nB∨x=nA:=⟨fun⟨q,hq,h⟩=>by
   simp only[List.mem_singleton]at hq;subst hq;rcases h with h | h
   ·exact .inl h.symm
   ·exact .inr h.symm,fun h=>⟨_,List.mem_singleton.2 rfl,by rcases h with rfl | rfl;exact .inl rfl;exact .inr rfl⟩⟩
  show _↔aN [(nB,bV nA 0)] x∨x=nC∨x=nA;rw[this];simp only[List.mem_cons,List.not_mem_nil,or_false];constructor
  ·rintro(h | h | h)
   ·exact .inr (.inl h)
   ·exact .inl (.inl h)
   ·exact .inr (.inr h)
  ·rintro((h | h) | h | h)
   ·exact .inr (.inl h)
   ·exact .inr (.inr h)
   ·exact .inl h
   ·exact .inr (.inr h),rfl⟩ ⟨by decide,by rw[hl];decide⟩ (fun h=>by
  rcases h with h | ⟨q,hq,h,_⟩
  ·cases h with
   | step h _=>exact nAB (aw_t1 (by rw[h];simp))
  ·simp only[List.mem_singleton]at hq;subst hq;exact absurd h (by decide))
 exact d.uniq hR k
theorem aw_u3 {R R':Tr} {e:Int} (hT:TOk R) (hR:REq R [(nB,bV nA 0),(nC,bV nA 5)]) (d:FixS (decide (sh 0 1 0).good) (sh 0 1 0) R nC R' e):e=0∧REq R' [(nB,bV nA 0),(nC,awC)]:=by
 have k:FixS (decide (sh 0 1 0).good) (sh 0 1 0) [(nB,bV nA 0),(nC,bV nA 5)] nC ([(nB,bV nA 0)]++(nC,{bV nA 5 with st:=true,po:=sh 0 1 0})::[]) 0:=
  .ok (A:=[(nB,bV nA 0)]) (B:=[]) rfl rfl rfl rfl (decide_eq_true (tI _ _ _))
 exact d.uniq hT (hT.of_req hR) hR k
theorem lk_b {x y:Lk}:lks [(nB,x),(nC,y)] nB=[x]:=by rw[eH,if_pos rfl,eH,if_neg (fun e=>nBC e.symm),kf]
theorem lk_c {x y:Lk}:lks [(nB,x),(nC,y)] nC=[y]:=by rw[eH,if_neg nBC,eH,if_pos rfl,kf]
theorem aw_u4 {R R':Tr} {e:Int} (hT:TOk R) (hR:REq R [(nB,bV nA 0),(nC,awC)]) (d:SetS (kE 0 (sh 1 0 0)) R nB 0 R' e):e=0∧REq R' [(nB,{bV nA 0 with tr:=[⟨0,sh 1 0 0⟩]}),(nC,awC)]:=by
 have ha:kE 0 (sh 1 0 0) (bV nA 0).tr=([⟨0,sh 1 0 0⟩],0):=by
  rw[show kE 0 (sh 1 0 0) (bV nA 0).tr=qK [] (St.mk 0 (sh 1 0 0)).raw from rfl,vM (tI _ _ _)];unfold tj;simp[aP,plN]
 have k:SetS (kE 0 (sh 1 0 0)) [(nB,bV nA 0),(nC,awC)] nB 0 ([]++(nB,{bV nA 0 with tr:=(kE 0 (sh 1 0 0) (bV nA 0).tr).1})::[(nC,awC)]) (kE 0 (sh 1 0 0) (bV nA 0).tr).2:=
  .ok (A:=[]) (B:=[(nC,awC)]) rfl (by unfold tAt;rw[lk_b];rfl) rfl
 rw[ha]at k;exact d.uniq hT hR k
theorem aw_u5 {R R':Tr} {e:Int} (hT:TOk R) (hR:REq R [(nB,{bV nA 0 with tr:=[⟨0,sh 1 0 0⟩]}),(nC,awC)]) (d:SetS (kE 10 (sh 3 0 0)) R nB 10 R' e):e=0∧REq R' [(nB,awB),(nC,awC)]:=by
 have hop:¬opp (sh 1 0 0) (sh 3 0 0):=by
  unfold opp;have e1:(sh 1 0 0).rot.inv.mul (sh 3 0 0).rot=Qq.id:=g_inv' dO;rw[e1];decide
 have ha:kE 10 (sh 3 0 0) [⟨0,sh 1 0 0⟩]=(awS,0):=by
  rw[show kE 10 (sh 3 0 0) [⟨0,sh 1 0 0⟩]=qK [⟨0,sh 1 0 0⟩] (St.mk 10 (sh 3 0 0)).raw from rfl,vM (tI _ _ _)];unfold tj;simp[aP,plN,hop]
 have k:SetS (kE 10 (sh 3 0 0)) [(nB,{bV nA 0 with tr:=[⟨0,sh 1 0 0⟩]}),(nC,awC)] nB 10 ([]++(nB,{bV nA 0 with tr:=(kE 10 (sh 3 0 0) [⟨0,sh 1 0 0⟩]).1})::[(nC,awC)]) (kE 10 (sh 3 0 0) [⟨0,sh 1 0 0⟩]).2:=
  .ok (A:=[]) (B:=[(nC,awC)]) (x:= {bV nA 0 with tr:=[⟨0,sh 1 0 0⟩]}) rfl (by unfold tAt;rw[lk_b];rfl) rfl
 rw[ha]at k;exact d.uniq hT hR k
end
section
open Classical
section
variable {R:Tr} {a:Int} (hR:REq R [(nB,awB),(nC,awC)])
include hR
theorem aw_lb:lks R nB=[awB]:=by rw[hR nB,lk_b]
theorem aw_lc:lks R nC=[awC]:=by rw[hR nC,lk_c]
theorem mQ {q:Nm×Lk}:q∈R↔q=(nB,awB)∨q=(nC,awC):=by rw[hR.mem];simp
theorem aw_tb (h:0≤a):tAt R nB a=some awB:=by
 have:awB.has a=true:=cX.2 ⟨h,.inl rfl⟩;unfold tAt;rw[aw_lb hR];simp only[List.find?,this]
theorem aw_tc (h:5≤a):tAt R nC a=some awC:=by
 have:awC.has a=true:=cX.2 ⟨h,.inl rfl⟩;unfold tAt;rw[aw_lc hR];simp only[List.find?,this]
theorem aw_tc0 (h:a<5):tAt R nC a=none:=by
 have:awC.has a=false:=Bool.eq_false_iff.2 (fun e=>by have:=(cX.1 e).1;simp only at this;omega);unfold tAt;rw[aw_lc hR];simp only[List.find?,this]
theorem aw_pb (h:0≤a):par R a nB=some nA:=by unfold par;rw[aw_tb hR h];rfl
theorem aw_pc (h:5≤a):par R a nC=some nA:=by unfold par;rw[aw_tc hR h];rfl
theorem aw_pc0 (h:a<5):par R a nC=none:=by unfold par;rw[aw_tc0 hR h];rfl
theorem aw_pa:par R a nA=none:=by
 cases hp:par R a nA with
 | none=>rfl
 | some y=>
  obtain⟨q,hq,_,_⟩:=io hp;rcases(mQ hR).1 hq with e | e
  ·exact absurd (congrArg Prod.fst e) nAB
  ·exact absurd (congrArg Prod.fst e) nAC
theorem zg:aN R nA:=⟨_,(mQ hR).2 (.inl rfl),.inr rfl⟩
theorem vN:aN R nB:=⟨_,(mQ hR).2 (.inl rfl),.inl rfl⟩
theorem vO:aN R nC:=⟨_,(mQ hR).2 (.inr rfl),.inl rfl⟩
theorem aw_kx:¬aN R nX:=fun⟨q,hq,h⟩=>by
 rcases(mQ hR).1 hq with e | e<;>subst e
 ·rcases h with h | h
  ·exact nBX h
  ·exact nAX h
 ·rcases h with h | h
  ·exact nCX h
  ·exact nAX h
theorem zh:bd R a nA=[nA]:=ko (.root (aw_pa hR))
theorem vP (h:0≤a):bd R a nB=[nB,nA]:=ko (.step (aw_pb hR h) (.root (aw_pa hR)))
theorem aw_ac (h:5≤a):bd R a nC=[nC,nA]:=ko (.step (aw_pc hR h) (.root (aw_pa hR)))
theorem aw_ac0 (h:a<5):bd R a nC=[nC]:=ko (.root (aw_pc0 hR h))
theorem aw_eb (h:0≤a):cJ R nB a=trkP awS a:=by unfold cJ;rw[aw_tb hR h];rfl
theorem aw_ec (h:5≤a):cJ R nC a=(sh 0 1 0,0):=by unfold cJ;rw[aw_tc hR h];rfl
theorem qw (h:5≤a):aT R a nB nC=(nA,0):=by
 unfold aT;rw[if_pos ⟨vN hR,vO hR⟩,vP hR (by omega),aw_ac hR h];simp[jd,nBC,nAB.symm]
theorem aw_mba (h:0≤a):aT R a nB nA=(nA,0):=by
 unfold aT;rw[if_pos ⟨vN hR,zg hR⟩,vP hR h,zh hR];simp[jd,nAB.symm]
theorem aw_mab (h:0≤a):aT R a nA nB=(nA,0):=by
 unfold aT;rw[if_pos ⟨zg hR,vN hR⟩,vP hR h,zh hR];simp[jd]
theorem aw_mca (h:5≤a):aT R a nC nA=(nA,0):=by
 unfold aT;rw[if_pos ⟨vO hR,zg hR⟩,aw_ac hR h,zh hR];simp[jd,nAC.symm]
theorem aw_mbc0 (h:0≤a) (h5:a<5):aT R a nB nC=(ByteArray.empty,18):=by
 unfold aT;rw[if_pos ⟨vN hR,vO hR⟩,vP hR h,aw_ac0 hR h5];simp[jd,nBC,nAC]
theorem aw_ba (h:0≤a):bC (bd R a nB) nA=[nB]:=by rw[vP hR h];simp[bC,nAB.symm]
theorem aw_ca (h:5≤a):bC (bd R a nC) nA=[nC]:=by rw[aw_ac hR h];simp[bC,nAC.symm]
theorem aw_na:bC (bd R a nA) nA=[]:=by rw[zh hR];simp[bC]
theorem aw_uc (h:5≤a):upP R a nC nA=((sh 0 1 0).mul Pq.id,0):=by
 unfold upP;rw[aw_ca hR h];unfold co;rw[aw_ec hR h,if_pos rfl];rfl
theorem aw_ua:upP R a nA nA=(Pq.id,0):=by unfold upP;rw[aw_na hR];rfl
theorem zi {p:Pq} (h:0≤a) (k:trkP awS a=(p,0)):upP R a nB nA=(p.mul Pq.id,0):=by
 unfold upP;rw[aw_ba hR h];unfold co;rw[aw_eb hR h,k,if_pos rfl];rfl
theorem aw_ub0 {p:Pq} {c:Int} (h:0≤a) (k:trkP awS a=(p,c)) (hc:c≠0):upP R a nB nA=(Pq.zero,c):=by
 unfold upP;rw[aw_ba hR h];unfold co;rw[aw_eb hR h,k,if_neg hc]
end
theorem aw_k0:trkP awS 0=(sh 1 0 0,0):=by simp[trkP,plN]
theorem aw_k10:trkP awS 10=(sh 3 0 0,0):=by simp[trkP,plN]
theorem aw_k5:trkP awS 5=(sh 2 0 0,0):=by
 have e:atP ⟨0,sh 1 0 0⟩ ⟨10,sh 3 0 0⟩ 0 5=sh 2 0 0:=by
  rw[atP_m (by decide)];kernel_rfl
 simp[trkP,plN,e]
theorem aw_kl {a:Int} (h:10<a):trkP awS a=(Pq.zero,17):=by
 unfold trkP;simp only[List.getElem?_cons_zero,List.length_cons,List.length_nil];rw[show(0+1+1 - 1:Nat)=1 from rfl,show awS[1]? =some ⟨10,sh 3 0 0⟩from rfl];simp only;rw[if_pos (.inr h)]
section
variable {R:Tr} (hR:REq R [(nB,awB),(nC,awC)])
include hR
theorem aw_f1:aH R 5 nC nB=(sh 2 (-1) 0,0):=by
 rw[gQ (qw hR (by decide)) (zi hR (by decide) aw_k5) (aw_uc hR (by decide))];rw[show((sh 0 1 0).mul Pq.id).inv.mul ((sh 2 0 0).mul Pq.id)=sh 2 (-1) 0 by kernel_rfl]
theorem aw_f2:aH R 11 nA nB=(Pq.zero,17):=vF (aw_mba hR (by decide)) (aw_ub0 hR (by decide) (aw_kl (by decide)) (by decide)) (by decide)
theorem aw_f3:aH R 4 nC nB=(Pq.zero,18):=vE (aw_mbc0 hR (by decide) (by decide)) (by decide)
theorem aw_f4 (a:Int):aH R a nX nB=(Pq.zero,6):=vE (x:=ByteArray.empty) (by unfold aT;rw[if_neg (fun h=>aw_kx hR h.2)]) (by decide)
theorem aw_f5:(aH R 10 nC nB).2=0:=by rw[gQ (qw hR (by decide)) (zi hR (by decide) aw_k10) (aw_uc hR (by decide))]
theorem aw_f6:(aH R ei nC nB).2=17:=by rw[vF (qw hR (by decide)) (aw_ub0 hR (by decide) (aw_kl (by decide)) (by decide)) (by decide)]
theorem aw_f7:(aH R ei nA nC).2=0:=by rw[gQ (aw_mca hR (by decide)) (aw_uc hR (by decide)) (aw_ua hR)]
theorem aw_f8:acrP R nB 10 nB 0 nA=(sh (-2) 0 0,0):=by
 have h1:aH R 0 nA nB=(Pq.id.inv.mul ((sh 1 0 0).mul Pq.id),0):=gQ (aw_mba hR (by decide)) (zi hR (by decide) aw_k0) (aw_ua hR);have h2:aH R 10 nB nA=(((sh 3 0 0).mul Pq.id).inv.mul Pq.id,0):=gQ (aw_mab hR (by decide)) (aw_ua hR) (zi hR (by decide) aw_k10);unfold acrP;rw[h1,h2,if_neg (by simp),if_neg (by simp)];rw[show(((sh 3 0 0).mul Pq.id).inv.mul Pq.id).mul (Pq.id.inv.mul ((sh 1 0 0).mul Pq.id))=sh (-2) 0 0 by kernel_rfl]
theorem xZ (x:Int):oJ R x↔x=ei∨x= -1∨x=10∨x=4:=by
 have sb:fW R nB 0=(0,10,true):=by unfold fW;rw[aw_tb hR (by decide)];rfl
 have sc:fW R nC 5=(5,ei,true):=by unfold fW;rw[aw_tc hR (by decide)];rfl
 unfold oJ;constructor
 ·rintro(h | ⟨q,hq,h⟩)
  ·exact .inl h
  ·rcases(mQ hR).1 hq with rfl | rfl
   ·simp only[sb]at h;rcases h with⟨h,_⟩ | h | ⟨_,h⟩
    ·exact absurd h (by decide)
    ·exact .inr (.inl h)
    ·exact .inr (.inr (.inl h))
   ·simp only[sc]at h;rcases h with⟨h,_⟩ | h | ⟨_,h⟩
    ·exact absurd h (by decide)
    ·exact .inr (.inr (.inr h))
    ·exact .inl h
 ·rintro(h | h | h | h)
  ·exact .inl h
  ·exact .inr ⟨_,(mQ hR).2 (.inl rfl),.inr (.inl h)⟩
  ·exact .inr ⟨_,(mQ hR).2 (.inl rfl),.inr (.inr (by simp only[sb];exact⟨trivial,h⟩))⟩
  ·exact .inr ⟨_,(mQ hR).2 (.inr rfl),.inr (.inl h)⟩
theorem aw_lat1 {n e:Int} (h:vK R nC nB n e):n=10∧e=0:=by
 have m10:oJ R 10:=(xZ hR 10).2 (.inr (.inr (.inl rfl)));rcases h with⟨h,_⟩ | ⟨_,⟨he,h0,h1,h2,h3⟩ | ⟨_,_,h3⟩⟩
 ·exact absurd ⟨vN hR,vO hR⟩ h
 ·have h4:=h3 10 m10 (by decide) (aw_f5 hR);rcases(xZ hR n).1 h1 with rfl | rfl | rfl | rfl
  ·rw[aw_f6 hR]at h2;cases h2
  ·omega
  ·exact⟨rfl,he⟩
  ·omega
 ·exact absurd (aw_f5 hR) (h3 10 m10 (by decide))
theorem aw_lat2 {n e:Int} (h:vK R nA nC n e):n=1099511627776∧e=0:=by
 have mx:oJ R ei:=.inl rfl;rcases h with⟨h,_⟩ | ⟨_,⟨he,h0,h1,h2,h3⟩ | ⟨_,_,h3⟩⟩
 ·exact absurd ⟨vO hR,zg hR⟩ h
 ·have h4:=h3 ei mx (by decide) (aw_f7 hR);refine⟨?_,he⟩;unfold ei at h4;rcases(xZ hR n).1 h1 with rfl | rfl | rfl | rfl
  ·rfl
  ·omega
  ·omega
  ·omega
 ·exact absurd (aw_f7 hR) (h3 ei mx (by decide))
theorem aw_path:zc R 5 nB nC=[nB,nA,nC]:=by
 unfold zc;rw[qw hR (by decide),aw_ba hR (by decide),aw_ca hR (by decide)];rfl
end
end
def vQ (x y z:Int):List Fq:=[(Fq.ofInt x),(Fq.ofInt y),(Fq.ofInt z)]
theorem q_rOfK {w:World} (x y z:Int) (hx: -100000≤x∧x≤100000) (hy: -100000≤y∧y≤100000) (hz: -100000≤z∧z≤100000):
  Calls Tryz.prog 64 #[.int .i64 x,.int .i64 y,.int .i64 z] w fun e w'=>fB w (Vq.of x y z) e w':=by
 refine(eX (ρ:=frs (vQ x y z)++([.val (.int .i64 x),.val (.int .i64 y),.val (.int .i64 z)]:List Vp)) (w:=w) (fuel:=300) (args:=[.one (.ref 9),.one (.ref 10),.one (.ref 11)]) (vs:=[.int .i64 x,.int .i64 y,.int .i64 z]) (r:=.v (row [0,1,2])) (lo:=[]) (obs:=[])
  (ae (iy (k:=0) (u:=x) (aw (n:=9) rfl) rfl (by omega) (by omega)) (ae (iy (k:=1) (u:=y) (aw (n:=10) rfl) rfl (by omega) (by omega)) (ae (iy (k:=2) (u:=z) (aw (n:=11) rfl) rfl (by omega) (by omega)) ai)))
  aj (by kernel_rfl) Tryz.func64 (by kernel_rfl) aW ⟨aC (n:=9) rfl (bo (by decide)),⟨aC (n:=10) rfl (bo (by decide)),⟨aC (n:=11) rfl (bo (by decide)),trivial⟩⟩⟩).mono ?_
 rintro e w' ⟨v,rfl,h1,h2⟩;exact⟨v,rfl,(ah (xs:=vQ x y z) (ks:=[0,1,2]) (vs:=[(Fq.ofInt x),(Fq.ofInt y),(Fq.ofInt z)]) ⟨rfl,rfl,rfl,trivial⟩).1 h1,h2⟩
theorem I_rOfK {xs:List Fq} {ys:Rho} {kr:List Nat} {l l' l'':Leaf} {x y z:Int} (h1:KI (frs xs++ys) l .i64 x) (h2:KI (frs xs++ys) l' .i64 y) (h3:KI (frs xs++ys) l'' .i64 z) (ar:AtL xs kr (Vq.of x y z).cs) (hx: -100000≤x∧x≤100000) (hy: -100000≤y∧y≤100000) (hz: -100000≤z∧z≤100000):OkI xs ys ⟨64,[.one l,.one l',.one l''],.v (row kr)⟩:=
 ⟨aA Tryz.func64 rfl rfl,fun B w vs hB hv=>by
  match vs,hv with
  | [v0,v1,v2],hv=>
   have e0:=h1 _ _ _ hv.1;have e1:=h2 _ _ _ hv.2.1;have e2:=h3 _ _ _ hv.2.2.1;subst e0;subst e1;subst e2;refine(q_rOfK x y z hx hy hz).mono ?_;rintro e w' ⟨v,rfl,h3,h4⟩;exact⟨v,rfl,(ah ar).2 h3,h4⟩⟩
def rQ (x y z:Int):List Fq:=(Pq.id.cs++([(Vq.of x y z).x,(Vq.of x y z).y,(Vq.of x y z).z]))
theorem o7 {w:World} (x y z:Int) (hx: -100000≤x∧x≤100000) (hy: -100000≤y∧y≤100000) (hz: -100000≤z∧z≤100000):
  Calls Tryz.prog 114 #[.int .i64 x,.int .i64 y,.int .i64 z] w fun e w'=>iK w (sh x y z) e w':=by
 refine(eX (ρ:=frs (rQ x y z)++([.val (.int .i64 x),.val (.int .i64 y),.val (.int .i64 z)]:List Vp)) (w:=w) (fuel:=300) (args:=[.one (.ref 30),.one (.ref 31),.one (.ref 32)]) (vs:=[.int .i64 x,.int .i64 y,.int .i64 z]) (r:=.v (row [0,1,2,3,7,8,9])) (lo:=[]) (obs:=[])
  (ae (xa (kr:=[0,1,2,3,4,5,6]) ⟨rfl,rfl,rfl,rfl,rfl,rfl,rfl,trivial⟩) (ae (I_rOfK (kr:=[7,8,9]) (aw (n:=30) rfl) (aw (n:=31) rfl) (aw (n:=32) rfl) ⟨rfl,rfl,rfl,trivial⟩ hx hy hz) ai))
  aj (by kernel_rfl) Tryz.func114 (by kernel_rfl) aW ⟨aC (n:=30) rfl (bo (by decide)),⟨aC (n:=31) rfl (bo (by decide)),⟨aC (n:=32) rfl (bo (by decide)),trivial⟩⟩⟩).mono ?_
 rintro e w' ⟨v,rfl,h1,h2⟩;exact⟨v,rfl,(ah (xs:=rQ x y z) (ks:=[0,1,2,3,7,8,9]) (vs:=(Pq.id.rot.cs++([(Vq.of x y z).x,(Vq.of x y z).y,(Vq.of x y z).z]))) ⟨rfl,rfl,rfl,rfl,rfl,rfl,rfl,trivial⟩).1 h1,h2⟩
section
variable {p:Program} {ρ:Rho} {w0:Ent} {nt:Nat} {C:List Inst} {L:List OIns} {ops:Array Oper} {a:Act} {w:World}
theorem reg_bool {s:MS} {id:Nat} {draw:Bool} {Q:Exit→Act→World→Prop} {x:Nat} (hx:x<100000) (hC:∀i∈C,i.Ok0 p ρ w0) (hO:∀i∈L,i.OkE w0 p ρ) (hm:p.follows .mixedOrders=true)
  (h:(regX p C L nt ops s).bind (fun s'=>bh s' x)=some (.v (.one (.b true)))) (hs:MSt ρ w0 nt s a w) (hQ:∀a' w',a'.tmps.getD x undef= .bool true→a'.defers=[]→w0.kept w'→Q .normal a' w'):(Code.region id ops draw).wp p Q a w:=by
 cases hr:regX p C L nt ops s with
 | none=>rw[hr]at h;cases h
 | some s'=>
  rw[hr]at h;have h:bh s' x=some (.v (.one (.b true))):=h;refine pw hC hO hm hr hs (fun a' w' ⟨B,hi,hv,_⟩=>hQ a' w' ?_ hi.dfr hi.below);have h2:=hv x _ h;unfold bB at h2;rw[if_pos hx]at h2;obtain⟨u,h3,h4⟩:=h2;have e:u= .bool true:=h4;subst e;simp[h3]
def jX (ρ:Rho) (B:Blk) (w:World):List (Option AV)→List Value→Prop
 | [],_=>True
 | none::r,_::vs=>jX ρ B w r vs
 | some c::r,v::vs=>c.holds ρ B w v∧jX ρ B w r vs
 | _,_=>False
theorem jX.get {B:Blk}:∀ {k:List (Option AV)} {vs:List Value},jX ρ B w k vs→∀ {x:Nat} {c:AV},k[x]? =some (some c)→∃u,vs[x]? =some u∧c.holds ρ B w u
 | [],_,_,x,c,hx=>by cases hx
 | none::r,v::vs,h,0,c,hx=>by injection hx with hx;cases hx
 | none::r,v::vs,h,x+1,c,hx=>jX.get (k:=r) (vs:=vs) h (x:=x) hx
 | some c'::r,v::vs,h,0,c,hx=>by injection hx with hx;injection hx with hx;subst hx;exact⟨v,rfl,h.1⟩
 | some c'::r,v::vs,h,x+1,c,hx=>jX.get (k:=r) (vs:=vs) h.2 (x:=x) hx
def qN (b0 b1:Nat):Blk:=⟨fun x=>if x=0 then some b0 else if x=1 then some b1 else none,fun _ _=>False⟩
theorem blk2_has {b0 b1 g:Nat} (h:(qN b0 b1).has g):g=b0∨g=b1:=by
 rcases h with⟨x,h⟩ | ⟨k,h⟩
 ·simp only[qN]at h;split at h
  ·injection h with h;exact .inl h.symm
  ·split at h
   ·injection h with h;exact .inr h.symm
   ·cases h
 ·exact h.elim
theorem aB.at {B:Blk}:∀ {ls:List Leaf} {vs:List Value},aB ρ B w ls vs→∀ {j:Nat} {l:Leaf},ls[j]? =some l→∃u,vs[j]? =some u∧l.holds ρ B w u
 | [],[],_,j,l,hj=>by cases hj
 | l'::ls,v::vs,h,0,l,hj=>by injection hj with hj;subst hj;exact⟨v,rfl,h.1⟩
 | l'::ls,v::vs,h,j+1,l,hj=>aB.at (ls:=ls) (vs:=vs) h.2 (j:=j) hj
theorem mst_two {we:World} {T:TypeId} {b0 b1:Nat} {cs0 cs1:List Value} {l0 l1:List Leaf} {known:List (Option AV)} {ts:List Value} (hne:b0≠b1) (hb:Below we.heap.size we w) (g0:we.heap.size≤b0) (g1:we.heap.size≤b1)
  (h0:w.heap[b0]? =some (.cells cs0.toArray T (0,0))) (h1:w.heap[b1]? =some (.cells cs1.toArray T (0,0))) (n0:∀u∈cs0,noU u) (n1:∀u∈cs1,noU u) (k0:aB ρ (qN b0 b1) w l0 cs0) (k1:aB ρ (qN b0 b1) w l1 cs1)
  (hk:jX ρ (qN b0 b1) w known ts) (hn:ts.length=nt):MSt ρ (Ent.of we) nt ⟨known++List.replicate (nt - known.length) none,[(T,l0.map some),(T,l1.map some)]⟩ ⟨ts.toArray,[]⟩ w:=by
 have q0:=k0.len;have q1:=k1.len;refine⟨qN b0 b1,⟨fun v g hv=> ?_,fun k g h=>h.elim,⟨fun x y g hx hy=> ?_,fun k l g h=>h.elim,fun x k g hx h=>h⟩,⟨hb.os,hb.tape,hb.output,hb.size,fun k hk _=>hb.block k hk⟩,by simpa using hn,rfl,fun x g h=>by simp[Ent.of]at h⟩,fun x c hx=> ?_,fun v hv=> ?_⟩
 ·simp only[qN]at hv;split at hv
  ·rename_i e;subst e;injection hv with hv;subst hv;refine⟨.inl g0,cs0.toArray,T,by simp[cT,q0],h0,fun k n hk=> ?_⟩;have:=List.mem_of_getElem? (show cs0[k]? =some (.int .u32 n)by simpa using hk);exact n0 _ this n rfl
  ·split at hv
   ·rename_i e;subst e;injection hv with hv;subst hv;refine⟨.inl g1,cs1.toArray,T,by simp[cT,q1],h1,fun k n hk=> ?_⟩;have:=List.mem_of_getElem? (show cs1[k]? =some (.int .u32 n)by simpa using hk);exact n1 _ this n rfl
   ·cases hv
 ·simp only[qN]at hx hy;split at hx
  ·injection hx with hx;split at hy
   ·omega
   ·split at hy
    ·injection hy with hy;omega
    ·cases hy
  ·split at hx
   ·injection hx with hx;split at hy
    ·injection hy with hy;omega
    ·split at hy
     ·omega
     ·cases hy
   ·cases hx
 ·unfold bh at hx;split at hx
  ·rename_i hlt;unfold bB;rw[if_pos hlt];simp only at hx;have hx2:(known++List.replicate (nt - known.length) none)[x]? =some (some c):=by
    cases hq:(known++List.replicate (nt - known.length) none)[x]? with
    | none=>rw[hq]at hx;cases hx
    | some o=>rw[hq]at hx;simp only at hx;rw[hx]
   have hx3:known[x]? =some (some c):=by
    by_cases hl:x<known.length
    ·rwa [List.getElem?_append_left hl]at hx2
    ·rw[List.getElem?_append_right (by omega),List.getElem?_replicate]at hx2;split at hx2
     ·injection hx2 with hx2;cases hx2
     ·cases hx2
   obtain⟨u,h3,h4⟩:=hk.get hx3;exact⟨u,by simpa using h3,h4⟩
  ·rename_i hlt;unfold bB;rw[if_neg hlt]
   match hq:x / 100000 - 1,hx with
   | 0,hx=>
    simp only[List.getElem?_cons_zero,List.getElem?_map]at hx
    cases hl:l0[x % 100000]? with
    | none=>rw[hl]at hx;cases hx
    | some l=>
     rw[hl]at hx;simp only[Option.map_some,Option.some.injEq]at hx;subst hx;obtain⟨u,h3,h4⟩:=k0.at hl;exact⟨b0,cs0.toArray,T,u,rfl,h0,by simpa using h3,h4⟩
   | 1,hx=>
    simp only[List.getElem?_cons_succ,List.getElem?_cons_zero,List.getElem?_map]at hx
    cases hl:l1[x % 100000]? with
    | none=>rw[hl]at hx;cases hx
    | some l=>
     rw[hl]at hx;simp only[Option.map_some,Option.some.injEq]at hx;subst hx;obtain⟨u,h3,h4⟩:=k1.at hl;exact⟨b1,cs1.toArray,T,u,rfl,h1,by simpa using h3,h4⟩
   | n+2,hx=>simp at hx
 ·simp only[qN]at hv;show v<2;split at hv
  ·omega
  ·split at hv
   ·omega
   ·exact absurd rfl hv
end
theorem zj {xs:List Fq} {ys:Rho} {kr:List Nat} (x y z:Int) (ar:AtL xs kr (sh x y z).cs) (hx: -100000≤x∧x≤100000) (hy: -100000≤y∧y≤100000) (hz: -100000≤z∧z≤100000):OkI xs ys ⟨114,[.one (.i .i64 x),.one (.i .i64 y),.one (.i .i64 z)],.v (row kr)⟩:=
 ⟨aA Tryz.func114 rfl rfl,fun B w vs hB hv=>by
  match vs,hv with
  | [v0,v1,v2],hv=>
   have e0:v0= .int .i64 x:=hv.1;have e1:v1= .int .i64 y:=hv.2.1;have e2:v2= .int .i64 z:=hv.2.2.1;subst e0;subst e1;subst e2;refine(o7 x y z hx hy hz).mono ?_;rintro e w' ⟨v,rfl,h3,h4⟩;exact⟨v,rfl,(ah ar).2 h3,h4⟩⟩
theorem I_names {ρ:Rho} {n:Nat} {L:List Nm} (hn:ρ[n]? =some (.row 9 L.length (nmQ L))) (hL:L.length≤1000):Inst.Ok Tryz.prog ρ ⟨62,[.one (.ref n),.one (.ref n)],.v (.one (.b true))⟩:=
 ⟨aA Tryz.func62 rfl rfl,fun B w vs hB hv=>by
  match vs,hv with
  | [v0,v1],hv=>
   obtain⟨s,k1,k2,_⟩:=hv.1;obtain⟨s',k3,k4,_⟩:=hv.2.1;rw[hn]at k1 k3;injection k1 with k1;injection k3 with k3;subst k1;subst k3;refine(q_names2 (zd k2) (zd k4) hL hL).mono ?_;rintro e w' ⟨rfl,hb⟩;exact⟨_,rfl,by simp[AV.holds,SV.holds,Leaf.holds],hb⟩⟩
theorem ql_s {ρ:Rho} (c:Nm):∀B w x,(Leaf.s c).holds ρ B w x→(Vp.val (.string c)).p w x∧∀g,¬(Vp.val (.string c)).fp w x g:=fun _ _ _ h=>⟨⟨h,by have h:_=_:=h;subst h;exact gG⟩,fun _ h=>h⟩
theorem o_bs3 {ρ:Rho} {m:Nat} (a b c:Nm) (hm:ρ[m]? =some (.row 9 3 (nmQ [a,b,c]))):(OIns.mk (.bs 68 3 [0,1,2]) [.one (.s a),.one (.s b),.one (.s c)] (.one (.ref m))).Ok Tryz.prog ρ:=
 uA (m:=m) (ss:=[.one (.s a),.one (.s b),.one (.s c)]) (N:=3) (sz:=1) (z:=[.s ⟨#[]⟩]) (qs:=nmQ [a,b,c]) (ix:=[0,1,2]) (ls:=[.s a,.s b,.s c]) Tryz.underlying68 (by kernel_rfl) (by kernel_rfl) (by decide) (by decide) (by decide) rfl rfl ⟨ql_s a,ql_s b,ql_s c,trivial⟩ hm
section
open Go.RowKit Go.Shelf
open Classical
attribute [local go_sem] Oper.semAt_some
section
variable {n:Nat} {P:Program} {ops:Array Oper} {rest:List Oper} {op:Oper} {a:Act} {w w':World} {v:Value} {Q:Exit→Act→World→Prop}
theorem bU (hgd:op.guard=none) (hr:(execOp a.eval op).run P w= .ok (.value v) w') (h:wpListIn Fence.wide n P ops Q rest (a.put op.dst v) w'):wpListIn Fence.wide n P ops Q (op::rest) a w:=
 wpListIn_plain hgd fun K hK=>by
  unfold Oper.wpIn;refine⟨fun _ _=>trivial,?_⟩;show op.uponIn _ _ _ _ _ _ ((execOp a.eval op).run P w);rw[hr];exact hK _ _ h
theorem wpIn_load (hgd:op.guard=none) (ty:TypeId) (x:Operand) (ho:op.op= .load ty x) (b o:Nat) (hx:a.eval x= .pointer (some ⟨b,o,none⟩)) (cs:List Value) (d:TypeDesc) (hc:w.rangeAt b o cs)
  (hu:P.underlying ty=some d) (hd:d.isRow=true) (hi:(P.info? ty).map (·.size)=some cs.length) (h:wpListIn Fence.wide n P ops Q rest (a.put op.dst (.agg cs.toArray)) w):wpListIn Fence.wide n P ops Q (op::rest) a w:=
 bU hgd (by
  unfold execOp;simp only[ho,hx,Instr.loadAt,Instr.sureAddr,Sem.run_bind,Sem.run_pure,Result.andThen_ok,run_loadVar_mid w b o ty cs d hc hu hd hi]) h
theorem x0 (hgd:op.guard=none) (ty:TypeId) (x y:Operand) (ho:op.op= .store ty x y) (b o:Nat) (cells:Array Value) (hx:a.eval x= .pointer (some ⟨b,o,none⟩)) (hy:a.eval y= .agg cells)
  (ht:w.there b o cells.size) (hi:(P.info? ty).map (·.size)=some cells.size) (h1:cells.all (·.oneCell')=true) (h:wpListIn Fence.wide n P ops Q rest (a.put op.dst undef) (w.setCells b o cells.toList)):wpListIn Fence.wide n P ops Q (op::rest) a w:=
 wpListIn_plain hgd fun K hK=>by
  unfold Oper.wpIn;refine⟨fun _ _=>trivial,?_⟩;show op.uponIn _ _ _ _ _ _ ((execOp a.eval op).run P w);unfold execOp;simp only[ho,hx,hy,Instr.storeAt,Instr.sureAddr,Sem.run_bind,Sem.run_pure,Result.andThen_ok,run_storeVar_mid w b o ty cells ht hi h1];exact hK _ _ h
theorem qx {v':Value} {s x:Operand} {t:TypeId} (hgd:op.guard=none) (ho:op.op= .call {callee:=.builtin .append,args:=#[s,x],argTypes:=#[t,t]}) {y:Value} (hs:a.eval s=v) (hx:a.eval x=y)
  (hr:(Builtin.append_ #[t,t] op.type #[v,y]).run P w= .ok v' w') (h:wpListIn Fence.wide n P ops Q rest (a.put op.dst v') w'):wpListIn Fence.wide n P ops Q (op::rest) a w:=
 bU hgd (by
  unfold execOp;simp only[ho,resolve,invoke,builtin,Sem.run_bind,Sem.run_pure,Result.andThen_ok,List.map_toArray,List.map_cons,List.map_nil,hs,hx,hr]) h
end
structure LatB (w W:World) (t:Nat) (tq fr:Nm):Prop where
 b3:Boxed W w.heap.size 24 (ptB t)
 b4:Boxed W (w.heap.size+1) 9 (.string tq)
 b5:Boxed W (w.heap.size+1+1) 9 (.string fr)
 b6:Boxed W (w.heap.size+1+1+1) 3 (.int .i64 0)
 b7:Boxed W (w.heap.size+1+1+1+1) 40 (.int .i64 0)
 bel:Below w.heap.size w W
abbrev latW (w:World) (t:Nat) (tq fr:Nm):World:=((((w.alloc (.cells #[ptB t] 24)).alloc (.cells #[.string tq] 9)).alloc (.cells #[.string fr] 9)).alloc (.cells #[.int .i64 0] 3)).alloc (.cells #[.int .i64 0] 40)
theorem LatB.new (w:World) (t:Nat) (tq fr:Nm):LatB w (latW w t tq fr) t tq fr where
 b3:=((((Boxed.new w _ _).alloc _).alloc _).alloc _).alloc _
 b4:=by have:=(((Boxed.new (w.alloc (.cells #[ptB t] 24)) 9 (.string tq)).alloc (.cells #[.string fr] 9)).alloc (.cells #[.int .i64 0] 3)).alloc (.cells #[.int .i64 0] 40);rw[asz]at this;exact this
 b5:=by have:=((Boxed.new ((w.alloc (.cells #[ptB t] 24)).alloc (.cells #[.string tq] 9)) 9 (.string fr)).alloc (.cells #[.int .i64 0] 3)).alloc (.cells #[.int .i64 0] 40);rw[asz,asz]at this;exact this
 b6:=by have:=(Boxed.new (((w.alloc (.cells #[ptB t] 24)).alloc (.cells #[.string tq] 9)).alloc (.cells #[.string fr] 9)) 3 (.int .i64 0)).alloc (.cells #[.int .i64 0] 40);rw[asz,asz,asz]at this;exact this
 b7:=by have:=Boxed.new ((((w.alloc (.cells #[ptB t] 24)).alloc (.cells #[.string tq] 9)).alloc (.cells #[.string fr] 9)).alloc (.cells #[.int .i64 0] 3)) 40 (.int .i64 0);rw[asz,asz,asz,asz]at this;exact this
 bel:=((((((Below.refl _ w).alloc (Nat.le_refl _) _).alloc (by simp) _).alloc (by simp;omega) _).alloc (by simp;omega) _).alloc (by simp;omega) _)
theorem LatB.kb {w W W':World} {t O:Nat} {tq fr:Nm} (h:LatB w W t tq fr) (k:Kb W.heap.size O W W') (hO:w.heap.size+5≤O):LatB w W' t tq fr:=
 have g:∀ {B:Nat} {T:TypeId} {v:Value},Boxed W B T v→B<w.heap.size+5→Boxed W' B T v:=fun hb hl=>(k.block _ hb.lt (by omega)).trans hb
 ⟨g h.b3 (by omega),g h.b4 (by omega),g h.b5 (by omega),g h.b6 (by omega),g h.b7 (by omega),⟨k.os.trans h.bel.os,k.tape.trans h.bel.tape,k.output.trans h.bel.output,Nat.le_trans h.bel.size k.size,fun i hi=>(k.block i (by have:=h.bel.size;omega) (by omega)).trans (h.bel.block i hi)⟩⟩
theorem LatB.below {w W W':World} {t:Nat} {tq fr:Nm} (h:LatB w W t tq fr) (k:Below W.heap.size W W'):LatB w W' t tq fr:=h.kb (O:=w.heap.size+5) (Kb.below k) (Nat.le_refl _)
theorem LatB.lt {w W:World} {t:Nat} {tq fr:Nm} (h:LatB w W t tq fr):w.heap.size+5≤W.heap.size:=h.b7.lt
theorem LatB.fin {w W:World} {t:Nat} {tq fr:Nm} (h:LatB w W t tq fr) (n c:Int):
  Boxed ((W.setCell ⟨w.heap.size+1+1+1,0,none⟩ (.int .i64 n)).setCell ⟨w.heap.size+1+1+1+1,0,none⟩ (.int .i64 c)) (w.heap.size+1+1+1) 3 (.int .i64 n)∧
  Boxed ((W.setCell ⟨w.heap.size+1+1+1,0,none⟩ (.int .i64 n)).setCell ⟨w.heap.size+1+1+1+1,0,none⟩ (.int .i64 c)) (w.heap.size+1+1+1+1) 40 (.int .i64 c)∧
  Below w.heap.size w ((W.setCell ⟨w.heap.size+1+1+1,0,none⟩ (.int .i64 n)).setCell ⟨w.heap.size+1+1+1+1,0,none⟩ (.int .i64 c)):=
 ⟨(h.b6.set _).other (by omega) _,(h.b7.other (by omega) _).set _,(h.bel.setCell (p:=⟨w.heap.size+1+1+1,0,none⟩) (by show w.heap.size≤w.heap.size+1+1+1;omega) _).setCell (p:=⟨w.heap.size+1+1+1+1,0,none⟩) (by show w.heap.size≤w.heap.size+1+1+1+1;omega) _⟩
theorem int_new (w:World) (x:Int):iF (w.alloc (.cells #[.int .i64 x] 3)) w.heap.size (.slice (some ⟨w.heap.size,0,none⟩) 1 1) [x]:=
 ⟨rfl,.inr ⟨w.heap.size,1,_,rfl,Nat.le_refl _,heap_alloc_new w _,Nat.le_refl _,by unfold maxLen;omega,rfl,rfl⟩⟩
theorem lnk_at {w:World} {ad:Option Addr} {n cap:Nat} {l:List (Nm×Lk)} (h:gw w (.slice ad n cap) l) (hn:n=l.length) {i:Nat} {q:Nm×Lk} (hq:l[i]? =some q):∃g,ad=some ⟨g,0,none⟩∧g<w.heap.size∧w.rangeAt g (i*4) (dX q):=by
 subst hn;have hc:∀j u,(dX q)[j]? =some u→∃g,ad=some ⟨g,0,none⟩∧w.cell? ⟨g,i*4+j,none⟩=some u:=fun j u hu=>km h.1 (by rw[flat4 hq (by have:=(List.getElem?_eq_some_iff.1 hu).1;exact this)];exact hu)
 obtain⟨g,hg,_⟩:=hc 0 _ rfl;refine⟨g,hg,(cP h.1 (g:=g) (by rw[hg];rfl)).2,fun j u hu=> ?_⟩;obtain⟨g',hg',h2⟩:=hc j u hu;rw[hg]at hg';injection hg' with hg';injection hg' with hg';subst hg';exact h2
def okZ (R:Tr) (tq fr:Nm) (z:Int):Prop:=0≤z∧(aH R z tq fr).2=0
theorem rr_get {n j:Nat} (h:j<n):(List.range n).reverse[n - 1 - j]? =some j:=by
 rw[List.getElem?_reverse (by simp;omega),List.length_range,List.getElem?_range (by omega)]
 congr 1;omega
theorem rr_pre {n i:Nat} {pre:List Nat} (h:pre++ [i] <+:(List.range n).reverse):i<n∧∀j,i<j→j<n→j∈pre:=by
 obtain⟨tl,h⟩:=h;have hl:=congrArg List.length h;simp only[List.length_append,List.length_reverse,List.length_range,List.length_cons,List.length_nil]at hl;have h1:(pre++ [i]++tl)[pre.length]? =some i:=by simp
 rw[h]at h1;have h2:=rr_get (n:=n) (j:=n - 1 - pre.length) (by omega);rw[show n - 1 - (n - 1 - pre.length)=pre.length by omega,h1]at h2;injection h2 with h2;refine⟨by omega,fun j h3 h4=> ?_⟩;have h5:=rr_get h4;rw[←h,List.append_assoc,List.getElem?_append_left (by omega)]at h5;exact List.mem_of_getElem? h5
section
variable {R:Tr} {tq fr:Nm} {xs:List Int}
theorem lat_ix {zs:List Int} {x:Int} (h:x∈zs):∃j,j<zs.length∧zs.getD j 0=x:=by
 obtain⟨j,hj,e⟩:=List.getElem_of_mem h;exact⟨j,hj,by rw[List.getD_eq_getElem?_getD,List.getElem?_eq_getElem hj];exact e⟩
theorem lat_stop (hk:aN R fr∧aN R tq) (hm:∀x,x∈xs↔oJ R x) {pre:List Nat} {i:Nat} (hp:pre++ [i] <+:(List.range (Lib.compact (srt xs)).length).reverse) (hno:∀u∈pre,¬okZ R tq fr ((Lib.compact (srt xs)).getD u 0)) (hok:okZ R tq fr ((Lib.compact (srt xs)).getD i 0)):vK R tq fr ((Lib.compact (srt xs)).getD i 0) 0:=by
 obtain⟨h1,h2⟩:=rr_pre hp;have hx:=cs_asc xs;have hmem:=fun x=>(cs_mem xs x).trans (hm x)
 generalize Lib.compact (srt xs)=zs at *;refine .inr ⟨hk,.inl ⟨rfl,hok.1,(hmem _).1 ?_,hok.2,fun x hx1 h0 hc=> ?_⟩⟩
 ·rw[List.getD_eq_getElem?_getD,List.getElem?_eq_getElem h1];exact List.getElem_mem h1
 ·obtain⟨j,hj,rfl⟩:=lat_ix ((hmem x).2 hx1);rcases Nat.lt_trichotomy i j with h | h | h
  ·exact absurd ⟨h0,hc⟩ (hno j (h2 j h hj))
  ·subst h;exact Int.le_refl _
  ·have:=List.pairwise_iff_getElem.1 hx j i hj h1 h;rw[List.getD_eq_getElem?_getD,List.getElem?_eq_getElem hj,List.getD_eq_getElem?_getD,List.getElem?_eq_getElem h1];exact this
theorem lat_done (hk:aN R fr∧aN R tq) (hm:∀x,x∈xs↔oJ R x) (hno:∀u∈(List.range (Lib.compact (srt xs)).length).reverse,¬okZ R tq fr ((Lib.compact (srt xs)).getD u 0)):vK R tq fr 0 17:=by
 have hmem:=fun x=>(cs_mem xs x).trans (hm x)
 generalize Lib.compact (srt xs)=zs at *;refine .inr ⟨hk,.inr ⟨rfl,rfl,fun x hx1 h0 hc=> ?_⟩⟩;obtain⟨j,hj,rfl⟩:=lat_ix ((hmem x).2 hx1);exact hno j (by simp;exact hj) ⟨h0,hc⟩
end
end
section
open Go.RowKit Go.Shelf
open Classical
attribute [local go_sem] Oper.semAt_some
set_option maxRecDepth 100000 in
set_option maxHeartbeats 4000000 in
theorem vR {w:World} {t m:Nat} {E:List Ch} {tq fr:Nm} (hT:TM w t m E) (hE:Sane (trE E)):
  Calls Tryz.prog 50 #[ptB t,.string tq,.string fr] w fun e w'=>∃n c,e= .returned (.tuple #[.int .i64 n,.int .i64 c])∧vK (trE E) tq fr n c∧Below w.heap.size w w':=by
 refine(callsIn_wide (n:=3)).1 ?_;have h3:(1:Nat)≤3:=by decide
 have hb1:=LatB.new w t tq fr;obtain⟨W1,hW1⟩:∃W1,latW w t tq fr=W1:=⟨_,rfl⟩;rw[hW1]at hb1;have HT:=Lib.hid (show∀wq,Below w.heap.size w wq→TM wq t m E from fun wq k=>hT.below k);have hk1:=mP (HT.out W1 hb1.bel) hE tq;have HK2:=Lib.hid (show∀wq,Below w.heap.size w wq→Calls Tryz.prog 108 #[ptB t,.string fr] wq fun e w'=>e= .returned (.bool (decide (aN (trE E) fr)))∧Below wq.heap.size wq w' from fun wq k=>mP (HT.out wq k) hE fr);have HE:=Lib.hid hE;have HTM:=Lib.hid hT;have HB1:=Lib.hid hb1;have c3:=hb1.b3.cell;have c4:=hb1.b4.cell;clear hT hE hb1;refine callsIn_of_wp_marks Tryz.func50 rfl trivial ?_ rfl;simp only[Tryz.ntmps50,List.size_toArray,List.length_cons,List.length_nil,Nat.reduceAdd,Nat.reduceSub,Array.replicate_succ,Array.replicate_zero,List.push_toArray,List.append_toArray,List.nil_append,List.cons_append]
 gi_upto_region 1 with(fail)
 try rw[show((((w.alloc (.cells #[ptB t] 24)).alloc (.cells #[.string tq] 9)).alloc (.cells #[.string fr] 9)).alloc (.cells #[.int .i64 0] 3)).alloc (.cells #[.int .i64 0] 40)=W1 from hW1]
 clear hW1;have HNO:=Lib.hid (show¬(aN (trE E) fr∧aN (trE E) tq)→vK (trE E) tq fr 0 6 from fun h=>.inl ⟨h,rfl,rfl⟩);by_cases ky:aN (trE E) tq
 ·rw[decide_eq_true ky]at hk1;by_cases kx:aN (trE E) fr
  ·rw[decide_eq_true kx]at HK2;have HKK:=Lib.hid (And.intro kx ky);clear kx ky HNO
   gi_upto_region 3 with(first
    | (refine⟨trivial,?_⟩;gi_at_call 108;refine(callsIn_wide.2 hk1).mono ?_;clear hk1;rintro e w2 ⟨rfl,hb⟩;have hb2:=HB1.out.below hb;have d3:=hb2.b3.cell;have d5:=hb2.b5.cell;have HB2:=Lib.hid hb2;have hk2:=HK2.out w2 hb2.bel;clear hb hb2)
    | (refine⟨trivial,?_⟩;gi_at_call 108;refine(callsIn_wide.2 hk2).mono ?_;clear hk2;rintro e w3 ⟨rfl,hb⟩;have HB3:=Lib.hid (HB2.out.below hb);clear hb))
   clear c3 c4 d3 d5 HB1 HB2 HK2
   gi_upto_region 4 with(fail)
   obtain⟨W4,hW4⟩:∃W4,w3.alloc (.cells #[.int .i64 1099511627776] 3)=W4:=⟨_,rfl⟩;try rw[hW4]
   have hint:=int_new w3 1099511627776;have hg3:=HB3.out.lt;have hb4:=HB3.out.below (W':=W4) (by rw[←hW4];exact(Below.refl _ _).alloc (Nat.le_refl _) _);have hs4:W4.heap.size=w3.heap.size+1:=by rw[←hW4];exact asz _ _
   have hn8:w3.heap.size∉fpT t m E:=fun hm=>by have:=HTM.out.lt _ hm;omega
   have hX8:bD W4 w3.heap.size:=.mk' (show W4.heap[w3.heap.size]? =some (.cells #[.int .i64 1099511627776] 3 (0,0))by rw[←hW4];exact heap_alloc_new _ _) (fun k n hk=>by cases k<;>simp at hk);rw[hW4]at hint;have hli:=(q_Links (HT.out W4 hb4.bel) HE.out).mono (show∀e w',_→∃ad nl cap,∃LR:List (Nm×Lk),e= .returned (.slice ad nl cap)∧Hid (gw w' (.slice ad nl cap) LR∧nl=LR.length∧(∀q,q∈LR↔q∈trE E)∧nl≤2000∧(∀g,ad=some ⟨g,0,none⟩→W4.heap.size≤g)∧Below W4.heap.size W4 w')from by
    rintro e w' ⟨v,L,rfl,h1,h2,_,_,h5,h6⟩;obtain⟨ad,cap,rfl⟩:=fK h1.1;have h7:=nQ HE.out.sm (L:=L);have h8:=E_len HTM.out HE.out.sm;have h9:=h2.length_eq;rw[List.length_map]at h9;exact⟨ad,_,cap,_,rfl,Lib.hid ⟨h1,rfl,lkRow_mem (fun q hq=>by
     obtain⟨ch,hch,ln,hln,e⟩:=cF.1 hq;subst e;exact(h2.mem_iff).2 (List.mem_map.2 ⟨ch,hch,rfl⟩)),by omega,fun g hg=>h5 g (by rw[hg];rfl),h6⟩⟩)
   have c3:=hb4.b3.cell;have HB4:=Lib.hid hb4;obtain⟨g8,hg8⟩:∃g,w3.heap.size=g:=⟨_,rfl⟩;rw[hg8]at hint hs4 hn8 hX8 hg3;have HINT:=Lib.hid hint;have HX8:=Lib.hid (And.intro hn8 hX8);clear hW4 hint hb4 hn8 hX8 HB3
   gi_upto_region 5 with(refine⟨trivial,?_⟩;gi_at_call 35;refine(callsIn_wide.2 hli).mono ?_;clear hli;rintro e W5 ⟨adl,nl,cpl,LR,rfl,HL⟩)
   have hb45:=HL.out.2.2.2.2.2;have hb5:=HB4.out.below hb45;have HB5:=Lib.hid hb5;have HLR:=Lib.hid (show∀(i:Nat) (q:Nm×Lk),LR[i]? =some q→∃g,adl=some ⟨g,0,none⟩∧W4.heap.size≤g∧g<W5.heap.size∧W5.rangeAt g (i*4) (dX q)from fun i q hq=>by
    obtain⟨g,h1,h2,h3⟩:=lnk_at HL.out.1 HL.out.2.1 hq;exact⟨g,h1,HL.out.2.2.2.2.1 g h1,h2,h3⟩)
   have HES:=Lib.hid (show EndS W5 W5 g8 (.slice (some ⟨g8,0,none⟩) 1 1) (dy (trE E) (LR.take 0))from⟨dR HINT.out (fun g hg=>hb45.block g (cP HINT.out hg).2),Kb.refl _ _ _,fun k hk=>.inr (by injection hk with hk;exact hk.symm)⟩);have HTW:=Lib.hid (show∀wq,Kb W5.heap.size g8 W5 wq→TM wq t m E from fun wq k=>k.tm (HT.out W5 hb5.bel) HX8.out.1 (HX8.out.2.blk (hb45.block g8 (by omega)) hb45.size));have hnl:=HL.out.2.2.2.1;have hnl2:(nl:Int)≤2000:=by omega
   have hg5:g8<W5.heap.size:=by have:=hb45.size;omega
   have HLM:=Lib.hid (And.intro HL.out.2.1 HL.out.2.2.1);clear hb45 hb5 HL HB4 HINT HX8 HT c3
   gi_loopw [8,34] (fun s8 s34 wr=>∃k:Nat,k≤nl∧s34= .int .i64 (k:Int)∧Hid (EndS W5 wr g8 s8 (dy (trE E) (LR.take k)))) (fun _ s34 _=>nl - (intOf s34).toNat)
   case atStart=>exact⟨0,Nat.zero_le _,rfl,HES⟩
   case round=>
    clear HES;obtain⟨k,hk,rfl,HS⟩:=hrel;rcases Nat.lt_or_ge k nl with hlt | hge
    ·obtain⟨q,hq⟩:∃q,LR[k]? =some q:=⟨_,List.getElem?_eq_getElem (by rw[←HLM.out.1];exact hlt)⟩;obtain⟨g,rfl,hgg,hgl,hrg0⟩:=HLR.out k q hq;have hrg:wr.rangeAt g (k*4) (dX q):=fun j u hu=>by rw[HS.out.kb.cell hgl (by omega)];exact hrg0 j u hu
     have hqm:=(HLM.out.2 q).1 (List.mem_of_getElem? hq);have htm:=HE.out.ok.tm q hqm;have hxl:(dy (trE E) (LR.take k)).length≤7000:=by
      have:=nR (trE E) (LR.take k);rw[List.length_take]at this;omega
     have HNX:=Lib.hid (show dy (trE E) (LR.take (k+1))=dy (trE E) (LR.take k)++vJ (trE E) q by rw[List.take_add_one,hq];exact xY _ _ _);have HRG:=Lib.hid hrg;have HQM:=Lib.hid hqm;have hlt':(k:Int)<(nl:Int):=by omega
     obtain⟨xs,hxs⟩:∃xs,dy (trE E) (LR.take k)=xs:=⟨_,rfl⟩;rw[hxs]at HS HNX hxl;clear hq hrg hrg0 hqm hgg hgl hxs
     gi_upto_region 6 with(fail)
     refine wpIn_region_list ?_;refine bU rfl (v:=.pointer (some ⟨g,k*4,none⟩)) (w':=wr) (by go_simp) ?_;refine wpIn_load rfl _ _ rfl g (k*4) rfl (dX q) _ HRG.out Tryz.underlying76 rfl (by kernel_rfl) ?_;refine bU rfl (v:=.pointer (some ⟨wr.heap.size,0,none⟩)) (w':=wr.alloc (.cells #[.string ⟨#[]⟩,.string ⟨#[]⟩,.int .i64 0,.int .i64 0] 76)) (by go_simp;try rfl) ?_;refine x0 rfl _ _ _ rfl wr.heap.size 0 (dX q).toArray rfl rfl (lk_there wr q) (by kernel_rfl) (all_oneCell_toArray (fun u hu=>(qp u hu).1)) ?_;have hrd:=RdS.start q HS.out
     change wpListIn _ _ _ _ _ _ _ (lkW wr q)
     generalize lkW wr q=W6 at *;obtain⟨Bl,hBl⟩:∃B,wr.heap.size=B:=⟨_,rfl⟩;rw[hBl]at hrd⊢;obtain⟨f0,f2,f3⟩:=hrd.c0;have hle:g8≤W6.heap.size:=by have:=hrd.es.kb.size;omega
     have HR:=Lib.hid hrd;clear HS HRG hBl hrd;have hw1:IntKind.i64.wrap (q.2.un - 1)=q.2.un - 1:=by rw[IntKind.wrap_i64];unfold ei at htm;omega
     have hw2:IntKind.i64.wrap (q.2.fr - 1)=q.2.fr - 1:=by rw[IntKind.wrap_i64];unfold ei at htm;omega
     clear htm;have HEQ:=Lib.hid (show vJ (trE E) q=(if 0≤q.2.un then [q.2.un - 1]else [])++ [q.2.fr - 1]++(if (fW (trE E) q.1 q.2.fr).2.2=true then [(fW (trE E) q.1 q.2.fr).2.1]else [])from rfl);have HSP:=Lib.hid (show∀wq,Kb W5.heap.size g8 W5 wq→Calls Tryz.prog 43 #[ptB t,.string q.1,.int .i64 q.2.fr] wq fun e w'=>e= .returned (za (fW (trE E) q.1 q.2.fr))∧Below wq.heap.size wq w' from fun wq k=>q_Span (HTW.out wq k) HE.out.ok q.1 q.2.fr);obtain⟨un,hun⟩:∃u,q.2.un=u:=⟨_,rfl⟩;obtain⟨fq,hfq⟩:∃u,q.2.fr=u:=⟨_,rfl⟩;obtain⟨cn,hcn⟩:∃u,q.1=u:=⟨_,rfl⟩;obtain⟨sp,hsp⟩:∃s,fW (trE E) q.1 q.2.fr=s:=⟨_,rfl⟩;rw[hsp,hun,hfq]at HEQ;rw[hsp,hcn,hfq]at HSP;rw[hun]at f3 hw1;rw[hfq]at f2 hw2;rw[hcn]at f0;have HC:=Lib.hid (show∀wq v ys,RdS W5 wq g8 Bl v ys q→wq.cell? ⟨Bl,0,none⟩=some (.string cn)∧wq.cell? ⟨Bl,2,none⟩=some (.int .i64 fq)∧wq.cell? ⟨w.heap.size,0,none⟩=some (ptB t)∧g8≤wq.heap.size from fun wq v ys hr=>by
      have:=hr.c0;rw[hcn,hfq]at this;exact⟨this.1,this.2.1,(HB5.out.kb hr.es.kb hg3).b3.cell,by have:=hr.es.kb.size;omega⟩)
     clear hun hfq hcn hsp;obtain⟨s1,s2,s3⟩:=sp
     gi_upto_if 40 with(fail)
     gi_cut [8,40]from 86 (fun s8 _ wc=>∃ys,Hid (ys=xs++(if 0≤un then [un - 1]else []))∧Hid (RdS W5 wc g8 Bl s8 ys q))
     case first=>
      by_cases hu:0≤un
      ·have HU:=Lib.hid hu
       gi_upto_region 8 with(fail)
       obtain⟨v8,W8,hrun,hrd8⟩:=HR.out.app (ty:=171) (un - 1) hle (by omega);have HR8:=Lib.hid hrd8;have HRUN:=Lib.hid hrun;clear hrun hrd8;refine wpIn_region_list ?_;refine bU rfl (v:=u8) (w':=W6) (by rfl) ?_;refine bU rfl (v:=.pointer (some ⟨Bl,3,none⟩)) (w':=W6) (by go_simp) ?_;refine bU rfl (v:=.int .i64 un) (w':=W6) (by go_simp) ?_;refine bU rfl (v:=.int .i64 (un - 1)) (w':=W6) (by go_simp) ?_;refine bU rfl (v:=.slice (some ⟨W6.heap.size,0,none⟩) 1 1) (w':=W6.alloc (.cells #[.int .i64 (un - 1)] 3)) (by go_simp) ?_;refine qx rfl rfl rfl rfl HRUN.out ?_;clear HRUN HR
       gi_wp2
       gi_meet
       case rel=>exact⟨_,Lib.hid (by have:=HU.out;rw[if_pos (by omega)]),HR8⟩
      ·have HU:=Lib.hid hu
       gi_wp2
       gi_meet
       case rel=>exact⟨_,Lib.hid (by have:=HU.out;rw[if_neg (by omega),List.append_nil]),HR⟩
     case rest=>
      obtain⟨ys,HY,HR1⟩:=hcut;clear f0 f2 f3 hw1 HR hle;obtain⟨f0,f2,c3,hle⟩:=HC.out _ _ _ HR1.out;have hyl:ys.length≤7001:=by
       rw[HY.out,List.length_append];split<;>simp<;>omega
      gi_upto_region 9 with(fail)
      obtain⟨v9,W9,hrun,hrd9⟩:=HR1.out.app (ty:=171) (fq - 1) hle (by omega);have HR9:=Lib.hid hrd9;have HRUN:=Lib.hid hrun;clear hrun hrd9;refine wpIn_region_list ?_;refine bU rfl (v:=u8) (w':=wc) (by rfl) ?_;refine bU rfl (v:=.pointer (some ⟨Bl,2,none⟩)) (w':=wc) (by go_simp) ?_;refine bU rfl (v:=.int .i64 fq) (w':=wc) (by go_simp) ?_;refine bU rfl (v:=.int .i64 (fq - 1)) (w':=wc) (by go_simp) ?_;refine bU rfl (v:=.slice (some ⟨wc.heap.size,0,none⟩) 1 1) (w':=wc.alloc (.cells #[.int .i64 (fq - 1)] 3)) (by go_simp) ?_;refine qx rfl rfl rfl rfl HRUN.out ?_;clear HRUN HR1 f0 f2 c3 hle;obtain⟨f0,f2,c3,hle⟩:=HC.out _ _ _ HR9.out;have hsp9:=HSP.out W9 HR9.out.es.kb;have hw3:IntKind.i64.wrap ((k:Int)+1)=(k:Int)+1:=by rw[IntKind.wrap_i64];omega
      cases s3 with
      | false=>
       have HX:=Lib.hid (show dy (trE E) (LR.take (k+1))=ys++ [fq - 1]by rw[HNX.out,HEQ.out,HY.out];simp)
       gi_wp2_with (refine⟨trivial,?_⟩;gi_at_call 43;refine(callsIn_wide.2 hsp9).mono ?_;clear hsp9;rintro e W10 ⟨rfl,hb⟩;have HR10:=Lib.hid (HR9.out.below hb);clear hb)
       go_roundw
       case rel=>exact⟨k+1,by omega,by go_num,Lib.hid (by rw[HX.out];exact HR10.out.es)⟩
       case measure=>simp[intOf];omega
      | true=>
       have HX:=Lib.hid (show dy (trE E) (LR.take (k+1))=ys++ [fq - 1]++ [s2]by rw[HNX.out,HEQ.out,HY.out];simp)
       gi_upto_region 12 with(refine⟨trivial,?_⟩;gi_at_call 43;refine(callsIn_wide.2 hsp9).mono ?_;clear hsp9;rintro e W10 ⟨rfl,hb⟩;have HR10:=Lib.hid (HR9.out.below hb);clear hb)
       obtain⟨v12,W12,hrun,hrd12⟩:=HR10.out.app (ty:=171) s2 (HC.out _ _ _ HR10.out).2.2.2 (by rw[List.length_append];simp;omega);have HR12:=Lib.hid hrd12;have HRUN:=Lib.hid hrun;clear hrun hrd12;refine wpIn_region_list ?_;refine bU rfl (v:=v9) (w':=W10) (by rfl) ?_;refine bU rfl (v:=.int .i64 s2) (w':=W10) (by rfl) ?_;refine bU rfl (v:=.slice (some ⟨W10.heap.size,0,none⟩) 1 1) (w':=W10.alloc (.cells #[.int .i64 s2] 3)) (by go_simp) ?_;refine qx rfl rfl rfl rfl HRUN.out ?_;clear HRUN HR9 HR10
       gi_wp2
       go_roundw
       case rel=>exact⟨k+1,by omega,by go_num,Lib.hid (by rw[HX.out];exact HR12.out.es)⟩
       case measure=>simp[intOf];omega
    ·obtain rfl:k=nl:=by omega
     have HM:=Lib.hid (show∀x,x∈dy (trE E) (LR.take k)↔oJ (trE E) x from fun x=>by rw[HLM.out.1,List.take_length];exact endsL_mem HLM.out.2 x);have hxl:(dy (trE E) (LR.take k)).length≤7000:=by
      have:=nR (trE E) (LR.take k);rw[List.length_take]at this;omega
     have hx0:(dy (trE E) (LR.take k))≠ []:=by unfold dy;simp
     generalize dy (trE E) (LR.take k)=xs at *;have hnn:u8≠ .slice none 0 0:=fun e=>by
      have:=HS.out.row.1;rcases HS.out.row.2 with⟨_,h⟩ | ⟨g,cap,cur,h,_⟩
      ·exact hx0 (List.eq_nil_of_length_eq_zero h)
      ·rw[e]at h;cases h
     have hso:=q_SortI HS.out.row hnn (by omega);have hl2:(srt xs).length=xs.length:=List.length_mergeSort xs;have hco:∀w14,iF w14 g8 u8 (srt xs)→EndS W5 w14 g8 u8 (srt xs)→Calls Tryz.prog 111 #[u8] w14 fun e w'=>∃g cap,e= .returned (.slice (some ⟨g,0,none⟩) (Lib.compact (srt xs)).length cap)∧Hid (EndS W5 w' g8 (.slice (some ⟨g,0,none⟩) (Lib.compact (srt xs)).length cap) (Lib.compact (srt xs))):=fun w14 h1 h2=>(xW h1 hnn (by omega)).mono (by
      rintro e w' ⟨v',rfl,k1,k2,k3,k4⟩;obtain⟨ad,cap,rfl⟩:=fK k1;rcases id k1.2 with⟨e,_⟩ | ⟨g,cap',cur,e,_⟩
      ·exact absurd e k3
      ·injection e with e1 _ _;subst e1;exact⟨g,cap,rfl,Lib.hid (h2.grown k4 k1 (.inl k2))⟩)
     have hbk:=fun W g c=>xX W (some ⟨g,0,none⟩) (Lib.compact (srt xs)).length c
     have HCO:=Lib.hid hco;clear hk hge HLR HLM hnl2 hnl hx0 hnn hco
     gi_wp2_with (first
      | (refine⟨trivial,?_⟩;gi_at_call 109;refine(callsIn_wide.2 hso).mono ?_;clear hso;rintro e w14 ⟨rfl,hi,hg⟩;have hes:=HS.out.grown hg hi (.inl rfl);have HS14:=Lib.hid hes;have hco:=HCO.out w14 hi hes;clear hi hg hes HS)
      | (refine⟨trivial,?_⟩;gi_at_call 111;refine(callsIn_wide.2 hco).mono ?_;clear hco;rintro e W15 ⟨g,cap,rfl,HS15⟩;clear HS14)
      | (refine⟨trivial,?_⟩;gi_at_call 110;refine(callsIn_wide.2 (hbk _ _ _)).mono ?_;clear hbk;rintro e w' ⟨rfl,rfl⟩))
     have HZS:=Lib.hid (show∀(pre:List Nat) (i:Nat),pre++ [i] <+:(List.range (Lib.compact (srt xs)).length).reverse→(∀u∈pre,¬okZ (trE E) tq fr ((Lib.compact (srt xs)).getD u 0))→okZ (trE E) tq fr ((Lib.compact (srt xs)).getD i 0)→vK (trE E) tq fr ((Lib.compact (srt xs)).getD i 0) 0 from fun pre i=>lat_stop HKK.out HM.out);have HZD:=Lib.hid (show(∀u∈(List.range (Lib.compact (srt xs)).length).reverse,¬okZ (trE E) tq fr ((Lib.compact (srt xs)).getD u 0))→vK (trE E) tq fr 0 17 from lat_done HKK.out HM.out);have hzl:(Lib.compact (srt xs)).length≤7000:=Nat.le_trans (cs_len xs) hxl;generalize hzs:Lib.compact (srt xs)=zs at *;have hE15:=HS15.out;have hB15:=HB5.out.kb hE15.kb hg3;have hg:=cP hE15.row (g:=g) rfl;obtain⟨WB,hWB⟩:∃WB,W15.alloc (.cells #[.slice (some ⟨g,0,none⟩) zs.length cap] 171)=WB:=⟨_,rfl⟩;try rw[hWB]
     have hbw:Below W15.heap.size W15 WB:=by rw[←hWB];exact(Below.refl _ _).alloc (Nat.le_refl _) _
     have hsw:WB.heap.size=W15.heap.size+1:=by rw[←hWB];exact asz _ _
     have hnw:WB.heap[W15.heap.size]? =some (.cells #[.slice (some ⟨g,0,none⟩) zs.length cap] 171 (0,0)):=by rw[←hWB];exact heap_alloc_new _ _
     have hl15:=hB15.lt;have hseq:=bw_stops 2 (by decide) (w:=WB) (O:=w.heap.size+1+1+1) (B1:=W15.heap.size) (g:=g) (cap:=cap) (zs:=zs) ⟨by omega,by omega⟩ ⟨by omega,by omega⟩ (by omega) (by rw[aR hnw];rfl) (fun j z hz=>by
      obtain⟨g',e,hc⟩:=km hE15.row (show(zs.map (Value.int .i64))[j]? =some (.int .i64 z)by rw[List.getElem?_map,hz];rfl);injection e with e;injection e with e;subst e;rw[hbw.cell (p:=⟨g,j,none⟩) hg.2];exact hc)
     have hBW:=hB15.below hbw;have HBW:=Lib.hid hBW;have HTB:=Lib.hid ((HTW.out W15 hE15.kb).below hbw);clear hE15 hB15 hg hbw hnw hl15 hWB hzs HS15 HCO HTW HTM HB5 HM hl2 hxl;have hl6:=hBW.lt;clear hBW;refine wpIn_rangeFunc_ownG (F:=Fence.wide) (n:=3) rfl h3 (gf:=175) (lb:=#[.pointer (some ⟨W15.heap.size,0,none⟩)]) rfl trivial (aA Tryz.func175 (by kernel_rfl) rfl)
      hseq (fun {_ _ _} h k=>h.trans k) (kb_b (Nat.le_refl _)) (Below.refl _ _) (fun _=>rfl)
      (fun pre W=>(∀u∈pre,¬okZ (trE E) tq fr (zs.getD u 0))∧Below WB.heap.size WB W)
      (fun c pre W=>(c= .ret∧∃pre0 i,pre=pre0++ [i]∧(∀u∈pre0,¬okZ (trE E) tq fr (zs.getD u 0))∧okZ (trE E) tq fr (zs.getD i 0)∧Boxed W (w.heap.size+1+1+1) 3 (.int .i64 (zs.getD i 0))∧Boxed W (w.heap.size+1+1+1+1) 40 (.int .i64 0))∧Below w.heap.size w W∧WB.heap.size≤W.heap.size)
      (OwnFrom.and (ownFrom_pure _ _) (ownFrom_below (Nat.le_refl _) (Nat.le_refl _)))
      (fun c s W W' row hs hg hr=>⟨⟨hs.1.1,by
       obtain⟨pre0,z,k1,k2,k3,k4,k5⟩:=hs.1.2;exact⟨pre0,z,k1,k2,k3,k4.kept hg (fun e=>by have:=(hr _ e.symm).1;omega),k5.kept hg (fun e=>by have:=(hr _ e.symm).1;omega)⟩⟩,hs.2.1.grown hg (by have:=hs.2.2;omega) (fun k e=>by have:=(hr _ e).1;omega),Nat.le_trans hs.2.2 hg.size⟩)
      ⟨fun _ h=>(by cases h),Below.refl _ _⟩
      (fun i=> {tmps:=#[ptB t,.string tq,.string fr,.pointer (some ⟨w.heap.size,0,none⟩),.pointer (some ⟨w.heap.size+1,0,none⟩),.pointer (some ⟨w.heap.size+1+1,0,none⟩),.pointer (some ⟨w.heap.size+1+1+1,0,none⟩),.pointer (some ⟨w.heap.size+1+1+1+1,0,none⟩),u8,undef,u10,u11,u12,u13,undef,.int .i64 (zs.getD i 0),ptB t,.bool false,.bool false,ptB t,.string tq,.bool true,.bool false,.bool false,.bool false,ptB t,.string fr,.bool true,.bool false,.bool false,.slice (some ⟨g8,0,none⟩) 1 1,ptB t,.slice adl k cpl,.int .i64 (k:Int),.int .i64 (k:Int),.bool false,u36,u37,u38,u39,u40,u41,u42,u43,u44,u45,u46,u47,u48,u49,u50,u51,u52,u53,u54,u55,u56,u57,u58,u59,u60,u61,u62,u63,u64,u65,u66,u67,u68,u8,.tuple #[],u8,.slice (some ⟨g,0,none⟩) zs.length cap,.func (.func 175) #[] #[.pointer (some ⟨W15.heap.size,0,none⟩)],.int .i64 (i:Int),.int .i64 (zs.getD i 0),undef,undef,undef,undef,undef,undef,undef,undef,undef,undef],defers:=[]}) ?assign ?body ?done ?stop
     case assign=>
      intro l i W K hK;generalize hzi:zs.getD i 0=z at *
      gi_wp2
      exact hK
     case body=>
      rintro l pre i W ⟨hpre,hB⟩ hlt;have hbW:=HBW.out.below hB;have c3:=hbW.b3.cell;have c4:=hbW.b4.cell;have c5:=hbW.b5.cell;obtain⟨z,hz⟩:∃z,zs.getD i 0=z:=⟨_,rfl⟩;have hcan:=q_Can (HTB.out.below hB) HE.out (fX HE.out z tq fr);have HB:=Lib.hid hB;have HP:=Lib.hid hpre;have HI:=Lib.hid hz;have HBX:=Lib.hid hbW;clear hbW hB hpre hlt;rw[hz];have hkp:∀w',Below W.heap.size W w'→KeepsOthers W w':=fun w' h=>⟨h.size,fun k o hk _=>(h.block k (Array.getElem?_eq_some_iff.1 hk).1).trans hk⟩
      have HKP:=Lib.hid hkp;clear hkp hz;by_cases hz:0≤z
      ·have HZ:=Lib.hid hz;by_cases hc:(aH (trE E) z tq fr).2=0
       ·rw[decide_eq_true hc]at hcan;have HC:=Lib.hid hc;clear hc
        gi_wp2_with (refine⟨trivial,?_⟩;gi_at_call 19;refine(CallsIn.inRound l (callsIn_wide.2 hcan)).mono ?_;clear hcan;rintro e W7 ⟨rfl,hb⟩;have hb7:=HBX.out.below hb;have e6:=hb7.b6.cell;have f6:=hb7.b6.frozen;have e7:=hb7.b7.cell;have f7:=hb7.b7.frozen;have HB7:=Lib.hid hb7;have HBB:=Lib.hid hb;clear hb hb7)
        obtain⟨k6,k7,kb⟩:=HB7.out.fin z 0;exact⟨((HKP.out _ HBB.out).trans ((KeepsOthers.setCell _ _ _).trans (KeepsOthers.setCell _ _ _))).from _,⟨⟨rfl,pre,i,rfl,HP.out,by rw[HI.out];exact⟨HZ.out,HC.out⟩,by rw[HI.out];exact k6,k7⟩,kb,by have:=HB.out.size;have:=HBB.out.size;simp;omega⟩⟩
       ·rw[decide_eq_false hc]at hcan;have HC:=Lib.hid hc;clear hc
        gi_wp2_with (refine⟨trivial,?_⟩;gi_at_call 19;refine(CallsIn.inRound l (callsIn_wide.2 hcan)).mono ?_;clear hcan;rintro e W7 ⟨rfl,hb⟩;have HBB:=Lib.hid hb;clear hb)
        refine⟨(HKP.out _ HBB.out).from _,Kb.below (HBB.out.mono HB.out.size),⟨fun u hu=> ?_,HB.out.trans (HBB.out.mono HB.out.size)⟩⟩;rcases List.mem_append.1 hu with h | h
        ·exact HP.out u h
        ·simp only[List.mem_singleton]at h;subst h;rw[HI.out];exact fun h=>HC.out h.2
      ·have hz':decide (0≤z)=false:=decide_eq_false hz;have HZ:=Lib.hid (show¬okZ (trE E) tq fr z from fun h=>hz h.1);clear hz hcan
       gi_wp2_with (refine And.intro (show Fence.fn _ 19 from trivial) ?_)
       refine⟨KeepsFrom.refl _ _,Kb.refl _ _ _,⟨fun u hu=> ?_,HB.out⟩⟩;rcases List.mem_append.1 hu with h | h
       ·exact HP.out u h
       ·simp only[List.mem_singleton]at h;subst h;rw[HI.out];exact HZ.out
     case done=>
      rintro D ys W hD rfl ⟨hpre,hB⟩ hK;have hbW:=HBW.out.below hB;have e6:=hbW.b6.cell;have f6:=hbW.b6.frozen;have e7:=hbW.b7.cell;have f7:=hbW.b7.frozen;obtain⟨k6,k7,kb⟩:=hbW.fin 0 17;have HS7:=Lib.hid (((KeepsOthers.setCell W ⟨w.heap.size+1+1+1,0,none⟩ (.int .i64 0)).trans (KeepsOthers.setCell _ ⟨w.heap.size+1+1+1+1,0,none⟩ (.int .i64 17))).same D _ hK rfl);have HLS:=Lib.hid (HZD.out hpre);have K6:=Lib.hid k6;have K7:=Lib.hid k7;have KB:=Lib.hid kb;have hDs:WB.heap.size≤((W.setCell ⟨w.heap.size+1+1+1,0,none⟩ (.int .i64 0)).setCell ⟨w.heap.size+1+1+1+1,0,none⟩ (.int .i64 17)).heap.size:=by simpa using hB.size
      clear hbW hpre hB k6 k7 kb
      gi_wp2
      generalize (W.setCell ⟨w.heap.size+1+1+1,0,none⟩ (.int .i64 0)).setCell ⟨w.heap.size+1+1+1+1,0,none⟩ (.int .i64 17)=WZ at *;refine⟨by simp,.inl ⟨_,_,rfl,run_takeDeferred HS7.out,?_⟩⟩;have hg:=grownBy_putObj' WZ D (.deferred none);have B8':=K6.out.kept hg (fun e=>by injection e with e;omega);have B9':=K7.out.kept hg (fun e=>by injection e with e;omega);exact⟨_,en rfl _ _ rfl rfl (cU Tryz.underlying3 rfl B8'.cell) (cU Tryz.underlying40 rfl B9'.cell),_,_,rfl,HLS.out,KB.out.trans (belowK_b (w:=w) (Nat.le_refl _) WZ D _ _ (by omega) HS7.out rfl rfl)⟩
     case stop=>
      rintro D c pre W hD hpre ⟨⟨rfl,pre0,i,hp0,hno,hok,b6,b7⟩,hB,hsz⟩ hK;subst hp0;have HLS:=Lib.hid (HZS.out pre0 i hpre hno hok);have B6:=Lib.hid b6;have B7:=Lib.hid b7;have KB:=Lib.hid hB;clear hpre hno hok b6 b7 hB
      gi_wp2
      refine⟨by simp,.inl ⟨_,_,rfl,run_takeDeferred hK,?_⟩⟩;have hg:=grownBy_putObj' W D (.deferred none);have B8':=B6.out.kept hg (fun e=>by injection e with e;omega);have B9':=B7.out.kept hg (fun e=>by injection e with e;omega);exact⟨_,en rfl _ _ rfl rfl (cU Tryz.underlying3 rfl B8'.cell) (cU Tryz.underlying40 rfl B9'.cell),_,_,rfl,HLS.out,KB.out.trans (belowK_b (w:=w) (Nat.le_refl _) W D _ _ (by omega) hK rfl rfl)⟩
  ·have HN:=Lib.hid (HNO.out (fun h=>kx h.1));rw[decide_eq_false kx]at HK2;clear kx ky HNO
   gi_wp2_with (first
    | (refine⟨trivial,?_⟩;gi_at_call 108;refine(callsIn_wide.2 hk1).mono ?_;clear hk1;rintro e w2 ⟨rfl,hb⟩;have hb2:=HB1.out.below hb;have d3:=hb2.b3.cell;have d5:=hb2.b5.cell;have HB2:=Lib.hid hb2;have hk2:=HK2.out w2 hb2.bel;clear hb hb2)
    | (refine⟨trivial,?_⟩;gi_at_call 108;refine(callsIn_wide.2 hk2).mono ?_;clear hk2;rintro e w3 ⟨rfl,hb⟩;have hb3:=HB2.out.below hb;have e6:=hb3.b6.cell;have f6:=hb3.b6.frozen;have e7:=hb3.b7.cell;have f7:=hb3.b7.frozen;have HB3:=Lib.hid hb3;clear hb hb3))
   obtain⟨k6,k7,kb⟩:=HB3.out.fin 0 6;exact⟨_,en rfl _ _ rfl rfl (cU Tryz.underlying3 rfl k6.cell) (cU Tryz.underlying40 rfl k7.cell),_,_,rfl,HN.out,kb⟩
 ·have HN:=Lib.hid (HNO.out (fun h=>ky h.2));rw[decide_eq_false ky]at hk1;clear ky HNO HK2
  gi_wp2_with (first
   | (refine⟨trivial,?_⟩;gi_at_call 108;refine(callsIn_wide.2 hk1).mono ?_;clear hk1;rintro e w3 ⟨rfl,hb⟩;have hb3:=HB1.out.below hb;have e6:=hb3.b6.cell;have f6:=hb3.b6.frozen;have e7:=hb3.b7.cell;have f7:=hb3.b7.frozen;have HB3:=Lib.hid hb3;clear hb hb3)
   | (refine And.intro (show Fence.wide.fn 108 from trivial) ?_))
  obtain⟨k6,k7,kb⟩:=HB3.out.fin 0 6;exact⟨_,en rfl _ _ rfl rfl (cU Tryz.underlying3 rfl k6.cell) (cU Tryz.underlying40 rfl k7.cell),_,_,rfl,HN.out,kb⟩
end
end Go.Proofs.YtggfmklppkioeaaGreat
