/- Tables for a part of a region: what is left of the region comes behind; new variables. The reference's bit. The state of the reference's DivMod. The reference's DivMod. The reference's Gcd. The reference's Gcd and a negation as operations of a region that draws its order; a variable written behind a table. The reference's Format. Fractions in memory; tables of regions whose operations may be skipped. Fractions: stores, the operations of tables. Make of package fraction. Mul, Neg of package fraction; Neg of the reference. Add of package fraction. Stores that leave an unnamed world behind; calls of whatever contract in tables. An executor: abstract values, what they say of values in memory. -/
import Derived.Test.YtfhinmdhjlmikaaGreatP04
import Derived.Laws.AppendOwn
namespace Go.Proofs.YtfhinmdhjlmikaaGreat
set_option linter.unusedSimpArgs false
set_option linter.unusedVariables false
set_option maxRecDepth 100000
open Go.RowKit
section
variable {P:Program} {ops:Array Oper} {Q:Exit→Act→World→Prop} {md:Region.Mode}
theorem iW.of_all {α:Type} {p:α→Prop} (h:∀x,p x):∀l,iW p l
 | []=>trivial
 | x::l=>⟨h x,iW.of_all h l⟩
/-- As Arm; where al, the value lies in a new block. -/
def ArmB (P:Program) (Q:Exit→Act→World→Prop) (al:Bool) (o:Oper) (a:Act) (w:World) (s:Sp):Prop:=
 ∀K:Act→World→Prop,(∀v w',s.p w' v→Below w.heap.size w w'→(al=true→w.heap.size≤blk v)→K (a.put o.dst v) w')→Oper.wp P o a w K Q
theorem Arm.b {o:Oper} {a:Act} {w:World} {s:Sp} (h:Arm P Q o a w s):ArmB P Q false o a w s:=fun K hK=>h K (fun v w' h1 h2=>hK v w' h1 h2 (fun h=>by cases h))
theorem xw (f:Func) (r:Nat) (D:List (Nat×Tmp×Sp)) (Al:Nat→Bool) (n fuel:Nat) {id:Nat} {ops':Array Oper} {a:Act} {w:World} (hops:dI f r=ops') (hm:P.follows .mixedOrders=true)
  (hlen:(dI f r).size=fuel+D.length) (hok:mV .any (dI f r) (aT D) n (Array.replicate (fuel+D.length) false) a.tmps.size=true)
  (hal:iW (fun x=>Al x.1=true→∀w v,x.2.2.p w v→blk v<w.heap.size) D)
  (steps:iW (fun x=>∀(a':Act) (w':World),Found .any (dI f r) D x.1 w a a' w'→∃o,(dI f r)[x.1]? =some o∧Region.wanted o (yielded (dI f r) a'.tmps)=true∧ArmB P Q (Al x.1) o a' w' x.2.2) D)
  (hrest:∀(g:Nat→Value) w',Below w.heap.size w w'→(∀(i:Nat) (t:Tmp) (s:Sp),D[i]? =some (i,t,s)→s.p w' (g i))→(∀i j:Nat,((aT D).map (·.1)).contains i=true→((aT D).map (·.1)).contains j=true→Al i=true→Al j=true→i≠j→blk (g i)≠blk (g j))→
   wpAny P .any (dI f r) Q fuel (bA ((aT D).map (·.1)) (Array.replicate (fuel+D.length) false)) (dh (aT D) g a) w'):(Code.region id ops' true).wp P Q a w:=by
 subst hops
 refine wp_region_any hm ?_
 have hb0:Below w.heap.size w w.drew:=bg (Below.refl _ _) 1
 change wpAny P .any _ Q _ _ _ w.drew
 rw[hlen]
 unfold mV at hok
 simp only[Bool.and_eq_true,decide_eq_true_eq]at hok
 obtain⟨⟨⟨⟨hph,hds⟩,hnt⟩,hni⟩,hlt⟩:=hok
 have ht:∀p∈aT D,p.2<a.tmps.size:=fun p hp=>by simpa using List.all_eq_true.1 hlt p hp
 have hcon:∀t,((aT D).map (·.2)).contains t=false→t∉(aT D).map (·.2):=fun t h hm=>by
  rw[List.contains_iff_mem.2 hm]at h;cases h
 have hmem:∀(i:Nat) (t:Tmp) (s:Sp),D[i]? =some (i,t,s)→(i,t,s)∈D:=fun i t s h=>List.mem_of_getElem? h
 have key:=keyed (D:=D) (by simpa [aT,Function.comp_def]using hni)
 have hlen2:D.length=(aT D).length:=by simp[aT]
 rw[hlen2]at hph hrest⊢
 refine ie (fuel:=fuel) (aT D) n Al (fun i v w'=>∀t s,(i,t,s)∈D→s.p w' v) hph hds hnt (fun i _ v w1 w2 h hb t s hm=>s.st _ _ _ (h t s hm) hb) ?_ ?_ ?_
 ·intro i hi hA v w' h
  obtain⟨p,hp,rfl⟩:=List.mem_map.1 hi
  obtain⟨x,hx,rfl⟩:=List.mem_map.1 hp
  exact hal.mem x hx hA w' v (h x.2.1 x.2.2 hx)
 ·intro p hp g w' hb hF K hK
  obtain⟨x,hx,rfl⟩:=List.mem_map.1 hp
  obtain⟨o,ho,hw,harm⟩:=steps.mem x hx (dh (aT D) g a) w' ⟨hb0.trans (hb.mono hb0.size),fun t h=>jE t (hcon t h),fun i t s h1 h2=>
   ⟨g i,qR hnt (cL (hmem i t s h1)) (ht _ (cL (hmem i t s h1))),hF i (List.mem_map.2 ⟨_,cL (hmem i t s h1),rfl⟩) (List.contains_iff_mem.1 h2) t s (hmem i t s h1)⟩⟩
  unfold wpOp
  rw[ho]
  show if Region.wanted o (yielded (dI f r) (dh (aT D) g a).tmps)=true then _ else _
  rw[if_pos hw]
  refine .inl (harm K (fun v w'' hv hbv hA=> ?_))
  have hd:=List.all_eq_true.1 hds _ hp
  rw[beq_iff_eq]at hd
  have hdo:o.dst=some x.2.1:=by
   have:cQ (dI f r) x.1=o.dst:=by unfold cQ;rw[ho]
   rw[←this];exact hd
  rw[hdo]
  refine hK v w'' (fun t s hm=> ?_) hbv hA
  have e2:=key _ hm _ (show(x.1,x.2.1,x.2.2)∈D from hx) rfl
  simp only[Prod.mk.injEq,true_and]at e2
  rw[e2.2];exact hv
 ·intro g w' hb hF hsep
  exact hrest g w' (hb0.trans (hb.mono hb0.size)) (fun i t s h=>hF i (List.mem_map.2 ⟨_,cL (hmem i t s h),rfl⟩) t s (hmem i t s h))
   (fun i j hi hj=>hsep i (List.contains_iff_mem.1 hi) j (List.contains_iff_mem.1 hj))
end
/-- The address of a new variable of the call's own, not yet written. -/
def Sp.var (base:Nat):Sp:=⟨fun w v=>∃g,v= .pointer (some ⟨g,0,none⟩)∧base≤g∧bf w g none 0 0,fun _ _ _ h hb=>by obtain⟨g,h1,h2,h3⟩:=h;exact⟨g,h1,h2,h3.mono hb h3.lt⟩⟩
section
variable {Q:Exit→Act→World→Prop} {o:Oper} {a:Act} {w:World} {x y:Operand} {m n:Nat} {tt:Array TypeId}
theorem ofNewB {w w':World} {base N:Nat} {e:Ending} (hb0:base≤w.heap.size) (h:dD w N e w'):∃v,e= .returned v∧(Sp.new base N).p w' v∧Below w.heap.size w w':=by
 obtain⟨v,rfl,hn,hb⟩:=h;exact⟨v,rfl,hn.weaken hb0,hb⟩
theorem pY {base:Nat} (hb:base≤w.heap.size) (ho:o.op= .call {callee:=.value (.func 107),args:=#[x,y],argTypes:=tt}) (hx:Is a w x (.nat m)) (hy:Is a w y (.nat n)) (hm:nl m≤1000000000000) (hn:nl n≤1000000000000) {N:Nat} (hN:m+n=N):Arm Tryz.prog Q o a w (.new base N):=by
 subst hN
 exact xr ho (aA Tryz.func107 rfl rfl) hx hy (R:=fun w=>dD w (m+n)) (fun va vb w h1 h2=>jG va vb m n w h1 h2 hm hn) (fun _ _ h=>ofNewB hb h)
theorem xx (ho:o.op= .call {callee:=.value (.func 54),args:=#[x],argTypes:=tt}) (hx:Is a w x (.val (.int .u64 (n:Int)))) (hn:n<18446744073709551616):Arm Tryz.prog Q o a w (.nat n):=by
 refine ll ho (aA Tryz.func54 rfl rfl) (R:=fun e w'=>dD w n e w') ?_ (fun _ _ h=>ofNew h)
 have hx':a.eval x= .int .u64 (n:Int):=hx
 simpa [hx']using oe n w hn
theorem Is.new {base:Nat} (h:Is a w x (.new base m)):Is a w x (.nat m):=bj.isN h
end
theorem yE {w:World} {g L c:Nat} {s:Option Addr} {u:Value} (hu:∃s' L' c',u= .slice s' L' c') (h:bf w g s L c):(Instr.storeAt 25 (.pointer (some ⟨g,0,none⟩)) (.agg #[u])).run Tryz.prog w= .ok () (w.setCell ⟨g,0,none⟩ u):=by
 obtain⟨s',L',c',rfl⟩:=hu
 have c1:=h.cell
 have f1:=h.frozen
 go_simp
theorem wp_store {Q:Exit→Act→World→Prop} {o:Oper} {a:Act} {w:World} {K:Act→World→Prop} {x y:Operand} {g L c:Nat} {s:Option Addr} {u:Value} (hop:o.op= .store 25 x y) (hd:o.dst=none)
  (hx:a.eval x= .pointer (some ⟨g,0,none⟩)) (hy:a.eval y= .agg #[u]) (hu:∃s' L' c',u= .slice s' L' c') (hv:bf w g s L c) (hK:K a (w.setCell ⟨g,0,none⟩ u)):Oper.wp Tryz.prog o a w K Q:=by
 unfold Oper.wp execOp
 rw[hop]
 simp only[hx,hy,Sem.run_bind,yE hu hv,Result.andThen,Sem.run_pure,Oper.upon_skip]
 rw[hd]
 exact hK
/-- The store that is left. -/
theorem mW {Q:Exit→Act→World→Prop} {md:Region.Mode} {ops:Array Oper} {o:Oper} {a:Act} {w:World} {j fuel:Nat} {listed:Array Bool} {x y:Operand} {g L c:Nat} {s:Option Addr} {u:Value}
  (hr:Region.ready md ops listed=[j]) (ho:ops[j]? =some o) (hop:o.op= .store 25 x y) (hg:o.guard=none) (hd:o.dst=none)
  (hx:a.eval x= .pointer (some ⟨g,0,none⟩)) (hy:a.eval y= .agg #[u]) (hu:∃s' L' c',u= .slice s' L' c') (hv:bf w g s L c) (h:wpAny Tryz.prog md ops Q fuel (listed.setIfInBounds j true) a (w.setCell ⟨g,0,none⟩ u)):
  wpAny Tryz.prog md ops Q (fuel+1) listed a w:=by
 refine wpAny_ready hr (by simp) (AllReady.cons ho (fun K hK=> ?_) AllReady.nil)
 rw[if_pos (aB hg)]
 exact wp_store hop hd hx hy hu hv (hK _ _ h)
end Go.Proofs.YtfhinmdhjlmikaaGreat
namespace Go.Proofs.YtfhinmdhjlmikaaGreat
set_option linter.unusedSimpArgs false
set_option linter.unusedVariables false
set_option maxRecDepth 100000
open Go.RowKit
theorem bit_of (m i:Nat):D m (i / 32) / 2^(i % 32) % 2=m / 2^i % 2:=by
 unfold D
 have h1:(4294967296:Nat)^(i / 32)=2^(32*(i / 32)):=by rw[Nat.pow_mul]
 have h3:∀X s:Nat,s≤32→X % 4294967296 / 2^s=X / 2^s % 2^(32 - s):=by
  intro X s hs
  rw[show(4294967296:Nat)=2^s*2^(32 - s)by rw[←Nat.pow_add,show s+(32 - s)=32 by omega],Nat.mod_mul_right_div_self]
 rw[h3 _ _ (by omega),h1,Nat.div_div_eq_div_mul,←Nat.pow_add,Nat.div_add_mod]
 have h4:(2:Nat)∣ 2^(32 - i % 32):=⟨2^(31 - i % 32),by rw[←Nat.pow_succ',show(31 - i % 32).succ=32 - i % 32 by omega]⟩
 exact Nat.mod_mod_of_dvd _ h4
theorem c_bit (va:Value) (m i:Nat) (w:World) (ha:IsN w va m) (hm:nl m≤1000000000000) (hi:i≤60000000000000):
  Calls Tryz.prog 108 #[va,.int .i64 (i:Int)] w fun e w'=>bH w (.int .u64 ((m / 2^i % 2:Nat):Int)) e w':=by
 obtain⟨a,ca,rfl,hca,ra⟩:=ha
 obtain⟨k0,k1⟩:=box1 (L:=nl m) (c:=ca) (N:=m) ⟨a,ca,rfl,hca,ra⟩
 obtain⟨y1,d1,q1,i1⟩:=k1
 have e1:=q1.cell
 obtain⟨P,hP⟩:∃P:Nat,Hid (P=i / 32):=⟨_,Lib.hid rfl⟩
 obtain⟨R,hR⟩:∃R:Nat,Hid (R=i % 32):=⟨_,Lib.hid rfl⟩
 have hq:(i:Int) / 32=(P:Int):=by have:=hP.out;omega
 have hq':Int.tdiv (i:Int) 32=(P:Int):=by rw[Int.tdiv_eq_ediv_of_nonneg (by omega)];exact hq
 have hr:(i:Int) % 32=(R:Int):=by have:=hR.out;omega
 have hr':Int.tmod (i:Int) 32=(R:Int):=by rw[Int.tmod_eq_emod_of_nonneg (by omega)];exact hr
 have hR32:R≤31:=by have:=hR.out;omega
 have hPb:P≤60000000000000:=by have:=hP.out;omega
 have hbit:D m P / 2^R % 2=m / 2^i % 2:=by rw[hP.out,hR.out];exact bit_of m i
 have HB:=Lib.hid hbit
 clear hbit
 obtain⟨V,hV⟩:∃V:Nat,Hid (V=D m P):=⟨_,Lib.hid rfl⟩
 have hVb:V≤4294967295:=by have:=cT m P;have:=hV.out;omega
 go_enter Tryz.func108,Tryz.ntmps108
 go_wp2_with fail
 refine(xt _ (nl m) m P _ i1 (by omega) hPb).mono ?_
 rintro e w1 ⟨rfl,bb⟩
 rw[←hV.out]
 have hb1:=k0.trans (bb.mono k0.size)
 go_wp2_with fail
 go_loopw [5,6] (fun s5 s6 wr=>∃k x:Nat,k≤R∧s6= .int .i64 (k:Int)∧s5= .int .u64 (x:Int)∧Hid (x=V / 2^k)∧x≤4294967295∧wr=w1) (fun _ s6 _=>R - (intOf s6).toNat)
 case atStart=>exact⟨0,V,Nat.zero_le _,rfl,rfl,Lib.hid (by simp),hVb,rfl⟩
 case round=>
  obtain⟨k,x,hk,rfl,rfl,HX,hxb,rfl⟩:=hrel
  by_cases hlt:k<R
  ·obtain⟨y,hy⟩:∃y:Nat,Hid (y=x / 2):=⟨_,Lib.hid rfl⟩
   have hq2:((x:Nat):Int) / 2=((y:Nat):Int):=by have:=hy.out;omega
   have hyb:y≤4294967295:=by have:=hy.out;omega
   go_wp2_with fail
   go_roundw
   case rel=>exact⟨k+1,y,by omega,by go_num,rfl,Lib.hid (by rw[hy.out,HX.out,Nat.pow_succ,Nat.div_div_eq_div_mul]),hyb,trivial⟩
   case measure=>simp[intOf]<;>omega
  ·obtain rfl:k=R:=by omega
   obtain⟨y,hy⟩:∃y:Nat,Hid (y=x % 2):=⟨_,Lib.hid rfl⟩
   have hq2:((x:Nat):Int) % 2=((y:Nat):Int):=by have:=hy.out;omega
   go_wp2
   go_ret
   refine⟨?_,hb1⟩
   rw[←HB.out,←hV.out,←HX.out]
   refine congrArg Ending.returned (congrArg (Value.int IntKind.u64) ?_)
   have:=hy.out
   omega
end Go.Proofs.YtfhinmdhjlmikaaGreat
namespace Go.Proofs.YtfhinmdhjlmikaaGreat
set_option linter.unusedSimpArgs false
set_option linter.unusedVariables false
set_option maxRecDepth 100000
open Go.RowKit
/-- Two result variables, quotient and remainder in variables of their own, the arguments in theirs. -/
structure DM (w wr:World) (m n q r:Nat):Prop where
 below:Below w.heap.size w wr
 va:cC wr w.heap.size m
 vb:cC wr (w.heap.size+1) n
 r1:bf wr (w.heap.size+2) none 0 0
 r2:bf wr (w.heap.size+3) none 0 0
 vq:ig w.heap.size wr (w.heap.size+4) q
 vr:ig w.heap.size wr (w.heap.size+5) r
theorem DM.mono {w wr w':World} {m n q r:Nat} (h:DM w wr m n q r) (hb:Below wr.heap.size wr w'):DM w w' m n q r:=
 ⟨h.below.trans (hb.mono h.below.size),h.va.mono hb,h.vb.mono hb,h.r1.mono hb h.r1.lt,h.r2.mono hb h.r2.lt,h.vq.mono (B:=0) hb,h.vr.mono (B:=0) hb⟩
theorem cC.setOther {w:World} {g N g' L' c':Nat} {a':Option Addr} {u:Value} (h:cC w g N) (h':bf w g' a' L' c') (hne:g'≠g):cC (w.setCell ⟨g',0,none⟩ u) g N:=by
 obtain⟨a,c,h1,h2⟩:=h
 exact⟨a,c,h1.setOther _ _ hne,h2.setVar h'⟩
theorem ig.setOther {w:World} {base g N g' L' c':Nat} {a':Option Addr} {u:Value} (h:ig base w g N) (h':bf w g' a' L' c') (hne:g'≠g):ig base (w.setCell ⟨g',0,none⟩ u) g N:=by
 obtain⟨a,c,h1,h2⟩:=h
 exact⟨a,c,h1.setOther _ _ hne,h2.setVar h'⟩
theorem ig.setN {w:World} {base g M N c:Nat} {x:Option Addr} (h:ig base w g M) (hn:bj base w (.agg #[.slice x (nl N) c]) N):ig base (w.setCell ⟨g,0,none⟩ (.slice x (nl N) c)) g N:=by
 obtain⟨a,c',h1,h2⟩:=h
 exact⟨x,c,h1.set,hn.setVar h1⟩
theorem DM.setr {w wr:World} {m n q r N c:Nat} {x:Option Addr} (h:DM w wr m n q r) (hn:bj w.heap.size wr (.agg #[.slice x (nl N) c]) N):DM w (wr.setCell ⟨w.heap.size+5,0,none⟩ (.slice x (nl N) c)) m n q N:=by
 obtain⟨a,c',h1,h2⟩:=h.vr
 exact⟨h.below.setCell (p:=⟨w.heap.size+5,0,none⟩) (Nat.le_add_right _ _) _,h.va.setOther h1 (by omega),h.vb.setOther h1 (by omega),h.r1.setOther _ _ (by simp),h.r2.setOther _ _ (by simp),h.vq.setOther h1 (by omega),h.vr.setN hn⟩
theorem DM.setq {w wr:World} {m n q r N c:Nat} {x:Option Addr} (h:DM w wr m n q r) (hn:bj w.heap.size wr (.agg #[.slice x (nl N) c]) N):DM w (wr.setCell ⟨w.heap.size+4,0,none⟩ (.slice x (nl N) c)) m n N r:=by
 obtain⟨a,c',h1,h2⟩:=h.vq
 exact⟨h.below.setCell (p:=⟨w.heap.size+4,0,none⟩) (Nat.le_add_right _ _) _,h.va.setOther h1 (by omega),h.vb.setOther h1 (by omega),h.r1.setOther _ _ (by simp),h.r2.setOther _ _ (by simp),h.vq.setN hn,h.vr.setOther h1 (by omega)⟩
theorem xy {Y n q r:Nat} (h:Y=n*q+r) (hr:r<n):Y / n=q∧Y % n=r:=
 (Nat.div_mod_unique (by omega)).2 ⟨by omega,hr⟩
theorem qT (m k:Nat):m / 2^k=2*(m / 2^(k+1))+m / 2^k % 2:=by
 rw[Nat.pow_succ,←Nat.div_div_eq_div_mul];omega
theorem lt_len2 (m:Nat):m<2^eL m:=by
 unfold eL
 split
 ·omega
 ·exact Nat.lt_log2_self
/-- One round of the long division in binary digits. -/
theorem dm_round {m n k:Nat} (hn:0<n):(n≤m / 2^(k+1) % n+m / 2^(k+1) % n+m / 2^k % 2→m / 2^k / n=m / 2^(k+1) / n+m / 2^(k+1) / n+1∧m / 2^k % n=m / 2^(k+1) % n+m / 2^(k+1) % n+m / 2^k % 2 - n)∧
  (m / 2^(k+1) % n+m / 2^(k+1) % n+m / 2^k % 2<n→m / 2^k / n=m / 2^(k+1) / n+m / 2^(k+1) / n∧m / 2^k % n=m / 2^(k+1) % n+m / 2^(k+1) % n+m / 2^k % 2):=by
 have h1:=qT m k
 have h2:=Nat.div_add_mod (m / 2^(k+1)) n
 have h3:=Nat.mod_lt (m / 2^(k+1)) hn
 generalize m / 2^(k+1)=X at *
 generalize m / 2^k=Y at *
 generalize hb:Y % 2=b at *
 have hb2:b<2:=by omega
 generalize X / n=q at *
 generalize X % n=r at *
 subst h2
 have e1:n*(q+q)=n*q+n*q:=Nat.mul_add n q q
 have e2:n*(q+q+1)=n*q+n*q+n:=by rw[Nat.mul_add,e1,Nat.mul_one]
 refine⟨fun h=>xy ?_ (by omega),fun h=>xy ?_ h⟩
 ·rw[h1,e2];omega
 ·rw[h1,e1];omega
/-- The two results are laid into their variables, in whatever order. -/
theorem DM.fin {w w0:World} {m n q r cq cr:Nat} {aq ar:Option Addr} (h:DM w w0 m n q r) (hq:bf w0 (w.heap.size+4) aq (nl q) cq) (nq:bj w.heap.size w0 (.agg #[.slice aq (nl q) cq]) q)
  (hr:bf w0 (w.heap.size+5) ar (nl r) cr) (nr:bj w.heap.size w0 (.agg #[.slice ar (nl r) cr]) r) (w1:World)
  (hw:w1=(w0.setCell ⟨w.heap.size+2,0,none⟩ (.slice aq (nl q) cq)).setCell ⟨w.heap.size+3,0,none⟩ (.slice ar (nl r) cr)∨w1=(w0.setCell ⟨w.heap.size+3,0,none⟩ (.slice ar (nl r) cr)).setCell ⟨w.heap.size+2,0,none⟩ (.slice aq (nl q) cq)):
  bf w1 (w.heap.size+2) aq (nl q) cq∧bf w1 (w.heap.size+3) ar (nl r) cr∧bj w.heap.size w1 (.agg #[.slice aq (nl q) cq]) q∧bj w.heap.size w1 (.agg #[.slice ar (nl r) cr]) r∧Below w.heap.size w w1:=by
 rcases hw with rfl | rfl
 ·have k2:=h.r2.setOther ⟨w.heap.size+2,0,none⟩ (.slice aq (nl q) cq) (by simp)
  exact⟨h.r1.set.setOther _ _ (by simp),k2.set,(nq.setVar h.r1).setVar k2,(nr.setVar h.r1).setVar k2,(h.below.setCell (p:=⟨w.heap.size+2,0,none⟩) (Nat.le_add_right _ _) _).setCell (p:=⟨w.heap.size+3,0,none⟩) (Nat.le_add_right _ _) _⟩
 ·have k1:=h.r1.setOther ⟨w.heap.size+3,0,none⟩ (.slice ar (nl r) cr) (by simp)
  exact⟨k1.set,h.r2.set.setOther _ _ (by simp),(nq.setVar h.r2).setVar k1,(nr.setVar h.r2).setVar k1,(h.below.setCell (p:=⟨w.heap.size+3,0,none⟩) (Nat.le_add_right _ _) _).setCell (p:=⟨w.heap.size+2,0,none⟩) (Nat.le_add_right _ _) _⟩
section
variable {Q:Exit→Act→World→Prop} {o:Oper} {a:Act} {w:World} {x y:Operand} {m n:Nat} {tt:Array TypeId}
theorem arm_bit {i:Nat} (ho:o.op= .call {callee:=.value (.func 108),args:=#[x,y],argTypes:=tt}) (hx:Is a w x (.nat m)) (hy:Is a w y (.val (.int .i64 (i:Int)))) (hm:nl m≤1000000000000) (hi:i≤60000000000000) {b:Nat} (hb:m / 2^i % 2=b):
  Arm Tryz.prog Q o a w (.val (.int .u64 (b:Int))):=by
 subst hb
 refine ll ho (aA Tryz.func108 rfl rfl) (R:=bH w (.int .u64 ((m / 2^i % 2:Nat):Int))) ?_ (fun _ _ h=>ofV h)
 have hy':a.eval y= .int .i64 (i:Int):=hy
 simpa [hy']using c_bit _ m i w hx hm hi
end
end Go.Proofs.YtfhinmdhjlmikaaGreat
namespace Go.Proofs.YtfhinmdhjlmikaaGreat
set_option linter.unusedSimpArgs false
set_option linter.unusedVariables false
set_option maxRecDepth 100000
open Go.RowKit
theorem ig.isI {base:Nat} {w:World} {g N:Nat} (h:ig base w g N):cC w g N:=by
 obtain⟨a,c,h1,h2⟩:=h;exact⟨a,c,h1,h2.isN⟩
theorem og {a b:Nat} (h:a≤b) (hb:nl b≤100000000000):nl a≤1000000000000:=Nat.le_trans (eu h) (by omega)
theorem yF {a b d:Nat} (h:a≤2*b+1) (hb:nl b≤d):nl a≤d+1:=by
 have h1:=aZ.1 hb
 refine aZ.2 (Nat.lt_of_le_of_lt h ?_)
 rw[Nat.pow_succ]
 generalize 4294967296^d=P at *
 omega
theorem sI {a b:Nat} (h:a≤2*b+1) (hb:nl b≤100000000000):nl a≤1000000000000:=Nat.le_trans (yF h hb) (by decide)
theorem len2_le {m d:Nat} (h:nl m≤d):eL m≤32*d:=by
 unfold eL
 split
 ·omega
 ·rename_i hm0
  have h2:m<2^(32*d):=by rw[Nat.pow_mul];exact aZ.1 h
  have:=(Nat.log2_lt hm0).2 h2
  omega
def dmTab7 (w:World) (m r k S b R1:Nat):List (Nat×Tmp×Sp):=
  [(0,25,.nat (r)),
  (1,26,.nat (r)),
  (2,27,.nat (S)),
  (3,28,.nat (m)),
  (4,29,.val (Value.int IntKind.i64 ((k:Nat)))),
  (5,30,.val (Value.int IntKind.u64 ((b:Nat)))),
  (6,31,.nat (b)),
  (7,32,.new w.heap.size (R1))]
def xz (w:World) (T0 T:Nat):List (Nat×Tmp×Sp):=
  [(0,46,.nat (T0)),
  (1,47,.nat (1)),
  (2,48,.new w.heap.size (T))]
set_option maxRecDepth 100000 in
set_option maxHeartbeats 2000000 in
theorem ln (va vb:Value) (m n:Nat) (w:World) (ha:IsN w va m) (hb:IsN w vb n) (hm:nl m≤100000000000) (hn:nl n≤100000000000) (h0:n≠0):
  Calls Tryz.prog 79 #[va,vb] w fun e w'=>ii w (m / n) (m % n) 0 e w':=by
 obtain⟨a,ca,rfl,hca,ra⟩:=ha
 obtain⟨b,cb,rfl,hcb,rb⟩:=hb
 have hnp:=eo h0
 have hm':nl m≤1000000000000:=by omega
 have hn':nl n≤1000000000000:=by omega
 have HN0:=Lib.hid h0
 clear h0
 go_enter Tryz.func79,Tryz.ntmps79
 go_upto_region 0 with(fail)
 go_cut [2,3,4,5,6] (fun s2 s3 s4 s5 s6 wx=>s2= .pointer (some ⟨w.heap.size,0,none⟩)∧s3= .pointer (some ⟨w.heap.size+1,0,none⟩)∧s4= .pointer (some ⟨w.heap.size+2,0,none⟩)∧s5= .pointer (some ⟨w.heap.size+3,0,none⟩)∧
   cC wx w.heap.size m∧cC wx (w.heap.size+1) n∧bf wx (w.heap.size+2) none 0 0∧bf wx (w.heap.size+3) none 0 0∧Below w.heap.size w wx∧wx.heap.size=w.heap.size+4)
 case first=>
  obtain⟨k0,k1,k2⟩:=yB (L:=nl m) (c:=ca) (N:=m) (L2:=nl n) (c2:=cb) (N2:=n) ⟨a,ca,rfl,hca,ra⟩ ⟨b,cb,rfl,hcb,rb⟩
  have hz:((w.alloc (.cells #[.slice a (nl m) ca] 25)).alloc (.cells #[.slice b (nl n) cb] 25)).heap.size=w.heap.size+2:=by simp
  generalize hw2:(w.alloc (.cells #[.slice a (nl m) ca] 25)).alloc (.cells #[.slice b (nl n) cb] 25)=w2 at *
  obtain⟨j0,j1,j2⟩:=yB (w:=w2) (a:=none) (L:=0) (c:=0) (N:=0) (b:=none) (L2:=0) (c2:=0) (N2:=0) ⟨none,0,rfl,by omega,by decide,fun h=>by omega⟩ ⟨none,0,rfl,by omega,by decide,fun h=>by omega⟩
  have v1:=bf.made w2 none 0 0
  have v2:=bf.made (w2.alloc (.cells #[.slice none 0 0] 25)) none 0 0
  have v1':=v1.mono (io _ (.cells #[.slice none 0 0] 25)) v1.lt
  rw[World.size_alloc]at v2
  rw[hz]at v1' v2
  subst hw2
  go_wp2_with fail
  go_meet
  case rel=>exact⟨rfl,rfl,rfl,rfl,ij.mono k1 j0,ij.mono k2 j0,v1',v2,k0.trans (j0.mono k0.size),by simp⟩
 case rest=>
  obtain⟨rfl,rfl,rfl,rfl,Va,Vb,vr1,vr2,hb1,hsz⟩:=hcut
  clear ra rb hca hcb
  go_upto_region 1 with(fail)
  go_cut [7,8] (fun s7 s8 wx=>s7= .pointer (some ⟨w.heap.size+4,0,none⟩)∧s8= .pointer (some ⟨w.heap.size+5,0,none⟩)∧DM w wx m n 0 0)
  case first=>
   obtain⟨k0,k1,k2⟩:=uD wc none none 0 0 0 0
   rw[hsz]at k1 k2
   have hB:=hb1.trans (k0.mono hb1.size)
   have nn:∀wz,bj w.heap.size wz (.agg #[.slice none (nl 0) 0]) 0:=fun wz=>by rw[bZ];exact bj.of_zero
   have hD:DM w ((wc.alloc (.cells #[.slice none 0 0] 25)).alloc (.cells #[.slice none 0 0] 25)) m n 0 0:=
    ⟨hB,Va.mono k0,Vb.mono k0,vr1.mono k0 vr1.lt,vr2.mono k0 vr2.lt,⟨none,0,by rw[bZ];exact k1,nn _⟩,⟨none,0,by rw[bZ];exact k2,nn _⟩⟩
   go_wp2_with fail
   go_meet
   case rel=>exact⟨rfl,rfl,hD⟩
  case rest=>
   clear Va Vb vr1 vr2 hb1 hsz
   obtain⟨rfl,rfl,hd⟩:=hcut
   have hq0:∀K:Nat,True:=fun _=>trivial
   obtain⟨yb,db,qb,ib⟩:=hd.vb
   have eb:=qb.cell
   obtain⟨ya,da,qa,ia⟩:=hd.va
   have ea:=qa.cell
   have hne:((nl n:Nat):Int)≠0:=by omega
   go_wp2_with fail
   refine(uH _ m _ ia hm').mono ?_
   rintro e w1 ⟨rfl,bb⟩
   replace hd:=hd.mono bb
   clear ea qa ia eb qb ib bb
   have hlen:eL m≤32000000000000:=Nat.le_trans (len2_le hm) (by decide)
   have HL:=Lib.hid (lt_len2 m)
   generalize eL m=K at *
   go_wp2_with fail
   go_loopw [9] (fun s9 wr=>∃k:Nat,k≤K∧s9= .int .i64 ((k:Int) - 1)∧DM w wr m n (m / 2^k / n) (m / 2^k % n)) (fun s9 _=>((intOf s9)+1).toNat)
   case atStart=>exact⟨K,Nat.le_refl _,rfl,by rw[Nat.div_eq_of_lt HL.out,Nat.zero_div,Nat.zero_mod];exact hd⟩
   case round=>
    clear hd
    obtain⟨k,hk,rfl,hd⟩:=hrel
    cases k with
    | zero=>
     rw[Nat.pow_zero,Nat.div_one]at hd
     obtain⟨aq,cq,kq,nq⟩:=hd.vq
     obtain⟨ar,cr,kr,nr⟩:=hd.vr
     have c4:=kq.cell
     have c5:=kr.cell
     have f2:=hd.r1.frozen
     have f3:=hd.r2.frozen
     have c2:=hd.r1.cell
     have c3:=hd.r2.cell
     have hfin:=hd.fin kq nq kr nr
     obtain⟨q0,hq0'⟩:∃N:Nat,Hid (N=m / n):=⟨_,Lib.hid rfl⟩
     obtain⟨r0,hr0'⟩:∃N:Nat,Hid (N=m % n):=⟨_,Lib.hid rfl⟩
     rw[←hq0'.out,←hr0'.out]at hd
     rw[←hq0'.out]at kq nq
     rw[←hr0'.out]at kr nr
     clear hfin c2 c3 c4 c5 f2 f3
     go_upto_region 12 with(fail)
     refine wp_region_any (by kernel_rfl) ?_
     change wpAny _ _ _ _ _ _ _ (World.drew _)
     have bz:Below wr.heap.size wr (World.drew wr):=bg (Below.refl _ _) 1
     have hd3:=hd.mono bz
     have kq3:=kq.mono bz kq.lt
     have kr3:=kr.mono bz kr.lt
     have nq3:=nq.mono bz
     have nr3:=nr.mono bz
     clear bz
     generalize World.drew wr=w3 at *
     have c4:=kq3.cell
     have c5:=kr3.cell
     have f2:=hd3.r1.frozen
     have c2:=hd3.r1.cell
     have kr4:=kr3.setOther ⟨w.heap.size+2,0,none⟩ (.slice aq (nl q0) cq) (by simp)
     have c5':=kr4.cell
     have r24:=hd3.r2.setOther ⟨w.heap.size+2,0,none⟩ (.slice aq (nl q0) cq) (by simp)
     have c3':=r24.cell
     have f3':=r24.frozen
     obtain⟨p1,p2,p3,p4,p5⟩:=hd3.fin kq3 nq3 kr3 nr3 _ (.inl rfl)
     have c6:=p1.cell
     have c7:=p2.cell
     refine eM (i:=0) (t:=2) (d:=some 49) (v:=?v12_0_1) rfl rfl (by decide) rfl rfl (by kernel_rfl) (by kernel_rfl) (fun _ _ _ h=>h) ⟨by rfl,?hy12_0_1⟩ ?_
     case hy12_0_1=>(go_simp;try with_reducible rfl)
     try simp only[Act.put,List.setIfInBounds_toArray,List.set_cons_zero,List.set_cons_succ]
     refine wpAny_ready (rs:=[1,2]) (by kernel_rfl) (by simp) ?_
     refine AllReady.cons rfl (fun K hK=> ?_) ?_
     ·go_simp
      refine hK _ _ ?_
      clear hK K
      try simp only[Act.put,List.setIfInBounds_toArray,List.set_cons_zero,List.set_cons_succ]
      refine wpAny_ready (rs:=[2]) (by kernel_rfl) (by simp) ?_
      refine AllReady.cons rfl (fun K hK=> ?_) AllReady.nil
      go_simp
      refine hK _ _ ?_
      clear hK K
      try simp only[Act.put,List.setIfInBounds_toArray,List.set_cons_zero,List.set_cons_succ]
      refine wpAny_ready (rs:=[3]) (by kernel_rfl) (by simp) ?_
      refine AllReady.cons rfl (fun K hK=> ?_) AllReady.nil
      go_simp
      refine hK _ _ ?_
      clear hK K
      refine gx (i:=4) (d:=some 6) (v:=?v12_4_5) rfl rfl (by kernel_rfl) (by kernel_rfl) (by kernel_rfl) (fun _ _ _ h=>h) (Or.inl ⟨by rfl,?hy12_4_5⟩) ?_
      case hy12_4_5=>(intro w;go_simp;try with_reducible rfl)
      try simp only[Act.put,List.setIfInBounds_toArray,List.set_cons_zero,List.set_cons_succ]
      refine wpAny_done (by kernel_rfl) ?_ _
      go_wp2
      exact bodyPost_ret (n6 rfl _ _ (w.heap.size+2) (w.heap.size+3) _ _ _ rfl rfl rfl c6 c7) rfl ⟨_,_,rfl,by rw[←hq0'.out];exact p3,by rw[←hr0'.out];exact p4,p5⟩
     refine AllReady.cons rfl (fun K hK=> ?_) ?_
     ·go_simp
      refine hK _ _ ?_
      clear hK K
      try simp only[Act.put,List.setIfInBounds_toArray,List.set_cons_zero,List.set_cons_succ]
      refine wpAny_ready (rs:=[1]) (by kernel_rfl) (by simp) ?_
      refine AllReady.cons rfl (fun K hK=> ?_) AllReady.nil
      go_simp
      refine hK _ _ ?_
      clear hK K
      try simp only[Act.put,List.setIfInBounds_toArray,List.set_cons_zero,List.set_cons_succ]
      refine wpAny_ready (rs:=[3]) (by kernel_rfl) (by simp) ?_
      refine AllReady.cons rfl (fun K hK=> ?_) AllReady.nil
      go_simp
      refine hK _ _ ?_
      clear hK K
      refine gx (i:=4) (d:=some 6) (v:=?v12_4_8) rfl rfl (by kernel_rfl) (by kernel_rfl) (by kernel_rfl) (fun _ _ _ h=>h) (Or.inl ⟨by rfl,?hy12_4_8⟩) ?_
      case hy12_4_8=>(intro w;go_simp;try with_reducible rfl)
      try simp only[Act.put,List.setIfInBounds_toArray,List.set_cons_zero,List.set_cons_succ]
      refine wpAny_done (by kernel_rfl) ?_ _
      go_wp2
      exact bodyPost_ret (n6 rfl _ _ (w.heap.size+2) (w.heap.size+3) _ _ _ rfl rfl rfl c6 c7) rfl ⟨_,_,rfl,by rw[←hq0'.out];exact p3,by rw[←hr0'.out];exact p4,p5⟩
     exact AllReady.nil
    | succ k=>
     have hk60:k≤60000000000000:=by omega
     have e:(((k+1:Nat):Int) - 1)=(k:Int):=by omega
     simp only[e]
     clear e
     have hrd:=dm_round (m:=m) (n:=n) (k:=k) (Nat.pos_of_ne_zero HN0.out)
     have hrn:=Nat.mod_lt (m / 2^(k+1)) (Nat.pos_of_ne_zero HN0.out)
     have hqm:m / 2^(k+1) / n≤m:=Nat.le_trans (Nat.div_le_self _ _) (Nat.div_le_self _ _)
     have hqm2:m / 2^k / n≤m:=Nat.le_trans (Nat.div_le_self _ _) (Nat.div_le_self _ _)
     have HRD:=Lib.hid hrd
     clear hrd
     obtain⟨q,hq⟩:∃q:Nat,Hid (q=m / 2^(k+1) / n):=⟨_,Lib.hid rfl⟩
     obtain⟨r,hr⟩:∃r:Nat,Hid (r=m / 2^(k+1) % n):=⟨_,Lib.hid rfl⟩
     obtain⟨b,hb⟩:∃b:Nat,Hid (b=m / 2^k % 2):=⟨_,Lib.hid rfl⟩
     rw[←hq.out,←hr.out]at hd
     rw[←hq.out]at hqm
     rw[←hr.out]at hrn
     have hrd:=HRD.out
     rw[←hq.out,←hr.out,←hb.out]at hrd
     have HRD:=Lib.hid hrd
     clear hrd
     have hb2:b≤1:=by have:=hb.out;omega
     obtain⟨S,hS⟩:∃S:Nat,Hid (S=r+r):=⟨_,Lib.hid rfl⟩
     obtain⟨R1,hR1⟩:∃R1:Nat,Hid (R1=S+b):=⟨_,Lib.hid rfl⟩
     have hr':nl r≤1000000000000:=og (Nat.le_of_lt hrn) hn
     have hq':nl q≤1000000000000:=og hqm hm
     have hS':nl S≤1000000000000:=sI (b:=n) (by have:=hS.out;omega) hn
     have hR1':nl R1≤1000000000000:=sI (b:=n) (by have:=hS.out;have:=hR1.out;omega) hn
     have hb':nl b≤1000000000000:=nlb (by have:(2:Nat)≤4294967296^4:=(by decide);omega)
     obtain⟨x8,c8,k8,n8⟩:=hd.vr
     have f8:=k8.frozen
     go_upto_region 7 with(fail)
     refine xw Tryz.f79 7 (dmTab7 w m r k S b R1) (fun _=>false) 4 1 (by kernel_rfl) (by kernel_rfl) (by kernel_rfl) (by kernel_rfl) (iW.of_all (fun _ h=>by cases h) _) ?_ ?_
     ·refine⟨fun a' w' F=>⟨_,rfl,aB rfl,(cd rfl (F.keep 8 (Value.pointer (some ⟨w.heap.size+5,0,none⟩)) (by kernel_rfl) rfl).is (hd.vr.isI.mono F.below)).b⟩,?_⟩
      refine⟨fun a' w' F=>⟨_,rfl,aB rfl,(cd rfl (F.keep 8 (Value.pointer (some ⟨w.heap.size+5,0,none⟩)) (by kernel_rfl) rfl).is (hd.vr.isI.mono F.below)).b⟩,?_⟩
      refine⟨fun a' w' F=>⟨_,rfl,aB rfl,(arm_rAdd rfl (F.f 0 rfl) (F.f 1 rfl) (hr') (hr') hS.out.symm).b⟩,?_⟩
      refine⟨fun a' w' F=>⟨_,rfl,aB rfl,(cd rfl (F.keep 2 (Value.pointer (some ⟨w.heap.size,0,none⟩)) (by kernel_rfl) rfl).is (hd.va.mono F.below)).b⟩,?_⟩
      refine⟨fun a' w' F=>⟨_,rfl,aB rfl,(bO (.inl rfl) (F.keep 9 (Value.int IntKind.i64 ((k:Nat))) (by kernel_rfl) rfl).is).b⟩,?_⟩
      refine⟨fun a' w' F=>⟨_,rfl,aB rfl,(arm_bit rfl (F.f 3 rfl) (F.f 4 rfl) (hm') hk60 hb.out.symm).b⟩,?_⟩
      refine⟨fun a' w' F=>⟨_,rfl,aB rfl,(xx (n:=b) rfl (F.f 5 rfl) (by omega)).b⟩,?_⟩
      refine⟨fun a' w' F=>⟨_,rfl,aB rfl,(pY (Nat.le_trans hd.below.size F.below.size) rfl (F.f 2 rfl) (F.f 6 rfl) (hS') (hb') hR1.out.symm).b⟩,?_⟩
      exact trivial
     intro gp wp bp G Gs
     obtain⟨v7,e7,n7⟩:∃v,gp 7=v∧bj w.heap.size wp v R1:=⟨_,rfl,G 7 32 _ rfl⟩
     obtain⟨x7,c7,rfl,hc7,hx7⟩:=n7
     have n7:bj w.heap.size wp (.agg #[.slice x7 (nl R1) c7]) R1:=⟨x7,c7,rfl,hc7,hx7⟩
     have hd1:=hd.mono bp
     have hd2:=hd1.setr n7
     have f8':=(k8.mono bp k8.lt).frozen
     have cc8:=(k8.mono bp k8.lt).cell
     clear G Gs hc7 hx7 f8
     simp only[dmTab7]
     simp only[dh,aT,List.map_cons,List.map_nil,List.foldl_cons,List.foldl_nil,Act.put,List.setIfInBounds_toArray,List.set_cons_zero,List.set_cons_succ,e7]
     refine mW (j:=8) (by kernel_rfl) rfl rfl rfl rfl rfl rfl ⟨_,_,_,rfl⟩ (k8.mono bp k8.lt) ?_
     refine wpAny_done (by kernel_rfl) ?_ _
     generalize wp.setCell ⟨w.heap.size+5,0,none⟩ (.slice x7 (nl R1) c7)=w7 at *
     clear hd hd1 bp n7 k8 n8 f8' cc8 e7
     obtain⟨Q2,hQ2⟩:∃N:Nat,Hid (N=q+q):=⟨_,Lib.hid rfl⟩
     obtain⟨yq,dq,kq,nq⟩:=hd2.vq
     have eq4:=kq.cell
     go_wp2_with fail
     refine(jG _ _ q q _ nq.isN nq.isN hq' hq').mono ?_
     rintro e w8 ⟨v8,rfl,nn,bb⟩
     rw[←hQ2.out]at nn
     obtain⟨x8,c8,rfl,hc8,hx8⟩:=nn
     have hd3:=hd2.mono bb
     have n8:bj w.heap.size w8 (.agg #[.slice x8 (nl Q2) c8]) Q2:=bj.weaken (base:=w7.heap.size) ⟨x8,c8,rfl,hc8,hx8⟩ hd2.below.size
     have hd4:=hd3.setq n8
     obtain⟨yq3,dq3,kq3,_⟩:=hd3.vq
     have cq3:=kq3.cell
     have fq3:=kq3.frozen
     obtain⟨yr,dr,kr,nr⟩:=hd4.vr
     have er:=kr.cell
     obtain⟨yb,db',kb,ib⟩:=hd4.vb
     have eb:=kb.cell
     clear eq4 kq nq hx8 hc8
     go_wp2_with fail
     refine(mo _ _ R1 n _ nr.isN ib hR1' hn').mono ?_
     rintro e w9 ⟨rfl,bb9⟩
     have hd5:=hd4.mono bb9
     clear er eb kr nr kb ib cq3 fq3 kq3 n8 hd2 hd3 bb
     by_cases hge:n≤R1
     ·have hcm:¬dX R1 n<0:=by
       rcases Nat.lt_or_ge n R1 with h | h
       ·rw[jD h];decide
       ·rw[kY (by omega)];decide
      have hge':n≤r+r+b:=by have:=hR1.out;have:=hS.out;omega
      obtain⟨R2,hR2⟩:∃N:Nat,Hid (N=R1 - n):=⟨_,Lib.hid rfl⟩
      obtain⟨T,hT⟩:∃N:Nat,Hid (N=Q2+1):=⟨_,Lib.hid rfl⟩
      have e1:m / 2^k / n=T:=by rw[(HRD.out.1 hge').1,hT.out,hQ2.out]
      have e2:m / 2^k % n=R2:=by rw[(HRD.out.1 hge').2,hR2.out,hR1.out,hS.out]
      have E1:=Lib.hid e1
      have E2:=Lib.hid e2
      have hT0':nl Q2≤1000000000000:=by
       refine og (b:=m) ?_ hm
       have:=hT.out
       rw[e1]at hqm2
       omega
      clear e1 e2
      obtain⟨yr,dr,kr,nr⟩:=hd5.vr
      have er:=kr.cell
      obtain⟨yb,db',kb,ib⟩:=hd5.vb
      have eb:=kb.cell
      go_wp2_with fail
      refine(pX _ _ R1 n _ nr.isN ib hR1' hn').mono ?_
      rintro e w10 ⟨v10,rfl,nn,bb10⟩
      rw[←hR2.out]at nn
      obtain⟨x10,c10,rfl,hc10,hx10⟩:=nn
      have hd6:=hd5.mono bb10
      have n10:bj w.heap.size w10 (.agg #[.slice x10 (nl R2) c10]) R2:=bj.weaken (base:=w9.heap.size) ⟨x10,c10,rfl,hc10,hx10⟩ hd5.below.size
      have hd:=hd6.setr n10
      obtain⟨yr3,dr3,kr3,_⟩:=hd6.vr
      have cr3:=kr3.cell
      have fr3:=kr3.frozen
      clear er eb kr nr kb ib hx10 hc10
      go_upto_region 11 with(fail)
      refine xw Tryz.f79 11 (xz w Q2 T) (fun _=>false) 4 1 (by kernel_rfl) (by kernel_rfl) (by kernel_rfl) (by kernel_rfl) (iW.of_all (fun _ h=>by cases h) _) ?_ ?_
      ·refine⟨fun a' w' F=>⟨_,rfl,aB rfl,(cd rfl (F.keep 7 (Value.pointer (some ⟨w.heap.size+4,0,none⟩)) (by kernel_rfl) rfl).is (hd.vq.isI.mono F.below)).b⟩,?_⟩
       refine⟨fun a' w' F=>⟨_,rfl,aB rfl,(xx (n:=1) rfl Is.const (by decide)).b⟩,?_⟩
       refine⟨fun a' w' F=>⟨_,rfl,aB rfl,(pY (Nat.le_trans hd.below.size F.below.size) rfl (F.f 0 rfl) (F.f 1 rfl) (hT0') (nlb (by decide)) hT.out.symm).b⟩,?_⟩
       exact trivial
      intro gy wy by_ G Gs
      generalize w10.setCell ⟨w.heap.size+5,0,none⟩ (.slice x10 (nl R2) c10)=w11 at *
      obtain⟨v2,e2,n2⟩:∃v,gy 2=v∧bj w.heap.size wy v T:=⟨_,rfl,G 2 48 _ rfl⟩
      obtain⟨x2,c2,rfl,hc2,hx2⟩:=n2
      have n2:bj w.heap.size wy (.agg #[.slice x2 (nl T) c2]) T:=⟨x2,c2,rfl,hc2,hx2⟩
      have hd7:=hd.mono by_
      have hd8:=hd7.setq n2
      obtain⟨yq7,dq7,kq7,_⟩:=hd7.vq
      clear G Gs hc2 hx2
      simp only[xz]
      simp only[dh,aT,List.map_cons,List.map_nil,List.foldl_cons,List.foldl_nil,Act.put,List.setIfInBounds_toArray,List.set_cons_zero,List.set_cons_succ,e2]
      refine mW (j:=3) (by kernel_rfl) rfl rfl rfl rfl rfl rfl ⟨_,_,_,rfl⟩ kq7 ?_
      refine wpAny_done (by kernel_rfl) ?_ _
      go_wp2_with fail
      go_roundw
      case rel=>exact⟨k,by omega,by go_num,by rw[E1.out,E2.out];exact hd8⟩
      case measure=>simp[intOf]<;>omega
     ·have hlt':r+r+b<n:=by have:=hR1.out;have:=hS.out;omega
      have e1:m / 2^k / n=Q2:=by rw[(HRD.out.2 hlt').1,hQ2.out]
      have e2:m / 2^k % n=R1:=by rw[(HRD.out.2 hlt').2,hR1.out,hS.out]
      have E1:=Lib.hid e1
      have E2:=Lib.hid e2
      clear e1 e2
      rw[gt (by omega)]
      go_wp2_with fail
      go_roundw
      case rel=>exact⟨k,by omega,by go_num,by rw[E1.out,E2.out];exact hd5⟩
      case measure=>simp[intOf]<;>omega
end Go.Proofs.YtfhinmdhjlmikaaGreat
namespace Go.Proofs.YtfhinmdhjlmikaaGreat
set_option linter.unusedSimpArgs false
set_option linter.unusedVariables false
set_option maxRecDepth 100000
open Go.RowKit
structure GT (w wx:World) (x y:Nat):Prop where
 below:Below w.heap.size w wx
 res:bf wx (w.heap.size+2) none 0 0
 v1:cC wx w.heap.size x
 v2:cC wx (w.heap.size+1) y
theorem GT.mono {w wx w':World} {x y:Nat} (h:GT w wx x y) (hb:Below wx.heap.size wx w'):GT w w' x y:=
 ⟨h.below.trans (hb.mono h.below.size),h.res.mono hb h.res.lt,h.v1.mono hb,h.v2.mono hb⟩
theorem gt_set {w w1:World} {x0 y0 M N cx cy:Nat} {x y:Option Addr} (h:GT w w1 x0 y0) (hx:IsN w1 (.agg #[.slice x (nl M) cx]) M) (hy:IsN w1 (.agg #[.slice y (nl N) cy]) N):
  GT w ((w1.setCell ⟨w.heap.size,0,none⟩ (.slice x (nl M) cx)).setCell ⟨w.heap.size+1,0,none⟩ (.slice y (nl N) cy)) M N:=by
 obtain⟨a1,c1,b1,n1⟩:=h.v1
 obtain⟨a2,c2,b2,n2⟩:=h.v2
 have b2':=b2.setOther ⟨w.heap.size,0,none⟩ (.slice x (nl M) cx) (by simp)
 exact⟨(h.below.setCell (p:=⟨w.heap.size,0,none⟩) (Nat.le_refl _) _).setCell (p:=⟨w.heap.size+1,0,none⟩) (Nat.le_succ _) _,(h.res.setOther _ _ (by simp)).setOther _ _ (by simp),
  ⟨x,cx,b1.set.setOther _ _ (by simp),(hx.setVar b1).setVar b2'⟩,⟨y,cy,b2'.set,(hy.setVar b1).setVar b2'⟩⟩
noncomputable def valI (w:World) (g:Nat):Nat:=Classical.epsilon (fun N=>cC w g N)
theorem cC.val {w:World} {g N:Nat} (h:cC w g N):valI w g=N:=by
 obtain⟨a',c',hb',hn'⟩:=Classical.epsilon_spec (p:=fun N=>cC w g N) ⟨N,h⟩
 obtain⟨a,c,hb,hn⟩:=h
 have e:=hb'.symm.trans hb
 simp only[Option.some.injEq,Obj.cells.injEq,Array.mk.injEq,List.cons.injEq,Value.slice.injEq,and_true]at e
 rw[e.1,e.2.1,e.2.2]at hn'
 exact hn'.unique hn
set_option maxRecDepth 100000 in
set_option maxHeartbeats 4000000 in
theorem yG (va vb:Value) (m n:Nat) (w:World) (ha:IsN w va m) (hb:IsN w vb n) (hm:nl m≤100000000000) (hn:nl n≤100000000000):
  Calls Tryz.prog 78 #[va,vb] w fun e w'=>RetN w (Nat.gcd m n) e w':=by
 obtain⟨a,ca,rfl,hca,ra⟩:=ha
 obtain⟨b,cb,rfl,hcb,rb⟩:=hb
 go_enter Tryz.func78,Tryz.ntmps78
 go_upto_region 0 with(fail)
 go_cut [2,3,4] (fun s2 s3 s4 wx=>s2= .pointer (some ⟨w.heap.size,0,none⟩)∧s3= .pointer (some ⟨w.heap.size+1,0,none⟩)∧s4= .pointer (some ⟨w.heap.size+2,0,none⟩)∧GT w wx m n)
 case first=>
  obtain⟨k0,k1,k2⟩:=yB (L:=nl m) (c:=ca) (N:=m) (L2:=nl n) (c2:=cb) (N2:=n) ⟨a,ca,rfl,hca,ra⟩ ⟨b,cb,rfl,hcb,rb⟩
  have k3:=io ((w.alloc (.cells #[.slice a (nl m) ca] 25)).alloc (.cells #[.slice b (nl n) cb] 25)) (.cells #[.slice none 0 0] 25)
  have k4:=bf.made ((w.alloc (.cells #[.slice a (nl m) ca] 25)).alloc (.cells #[.slice b (nl n) cb] 25)) none 0 0
  rw[World.size_alloc,World.size_alloc]at k4
  have hT:GT w _ m n:=⟨k0.trans (k3.mono k0.size),k4,ij.mono k1 k3,ij.mono k2 k3⟩
  go_wp2_with fail
  go_meet
  case rel=>exact⟨rfl,rfl,rfl,hT⟩
 case rest=>
  obtain⟨rfl,rfl,rfl,hT⟩:=hcut
  clear ra rb hca hcb
  go_wp2_with fail
  go_loopw [] (fun wr=>∃x y:Nat,Hid (Nat.gcd x y=Nat.gcd m n)∧nl x≤100000000000∧nl y≤100000000000∧GT w wr x y) (fun wr=>valI wr (w.heap.size+1))
  case atStart=>exact⟨m,n,Lib.hid rfl,hm,hn,hT⟩
  case round=>
   clear hT
   obtain⟨x,y,HXY,hx,hy,hs⟩:=hrel
   obtain⟨ax,cx,vx,nx⟩:=hs.v1
   obtain⟨ay,cy,vy,ny⟩:=hs.v2
   have c5:=vx.cell
   have c6:=vy.cell
   have cr:=hs.res.cell
   have fr:=hs.res.frozen
   by_cases hy0:y=0
   ·subst hy0
    rw[bZ]at c6
    have hx0:x=Nat.gcd m n:=by have:=HXY.out;rwa [Nat.gcd_zero_right]at this
    have HX0:=Lib.hid hx0
    clear hx0
    have hfin:=nx.setVar (u:=.slice ax (nl x) cx) hs.res
    have hcell:=(hs.res.set (a':=ax) (L':=nl x) (c':=cx)).cell
    have hbel:=hs.below.setCell (p:=⟨w.heap.size+2,0,none⟩) (Nat.le_add_right _ _) (.slice ax (nl x) cx)
    go_wp2
    exact bodyPost_ret (eZ rfl _ _ (w.heap.size+2) _ rfl hcell) rfl ⟨_,rfl,by rw[←HX0.out];exact hfin,hbel⟩
   ·have hny:=eo hy0
    have HY0:=Lib.hid hy0
    clear hy0
    go_wp2_with fail
    refine(ln _ _ x y _ nx ny hx hy HY0.out).mono ?_
    rintro e w1 ⟨vq,vr,rfl,nq,nr,hb1⟩
    obtain⟨R0,hR0⟩:∃N:Nat,Hid (N=x % y):=⟨_,Lib.hid rfl⟩
    obtain⟨Q0,hQ0⟩:∃N:Nat,Hid (N=x / y):=⟨_,Lib.hid rfl⟩
    rw[←hR0.out]at nr
    rw[←hQ0.out]at nq
    obtain⟨aq,cq,rfl,hcq,hxq⟩:=nq
    obtain⟨ar,cr',rfl,hcr,hxr⟩:=nr
    obtain⟨k0,k1,k2⟩:=uD w1 aq ar (nl Q0) cq (nl R0) cr'
    have nr:IsN w1 (.agg #[.slice ar (nl R0) cr']) R0:=bj.isN ⟨ar,cr',rfl,hcr,hxr⟩
    have hb2:=hb1.trans (k0.mono hb1.size)
    go_upto_region 3 with(fail)
    have k3:=bg (Below.refl ((w1.alloc (.cells #[.slice aq (nl Q0) cq] 25)).alloc (.cells #[.slice ar (nl R0) cr'] 25)).heap.size ((w1.alloc (.cells #[.slice aq (nl Q0) cq] 25)).alloc (.cells #[.slice ar (nl R0) cr'] 25))) 1
    refine wp_region_any (by kernel_rfl) ?_
    change wpAny _ _ _ _ _ _ _ (World.drew _)
    have hs3:=hs.mono (hb2.trans (k3.mono hb2.size))
    have nr3:=nr.mono (k0.trans (k3.mono k0.size))
    have ny3:=ny.mono (hb2.trans (k3.mono hb2.size))
    have v8:bf (World.drewN _ 1) (w1.heap.size+1) ar (nl R0) cr':=k2.mono k3 k2.lt
    have vy3:=vy.mono (hb2.trans (k3.mono hb2.size)) vy.lt
    have vx3:=vx.mono (hb2.trans (k3.mono hb2.size)) vx.lt
    have hl8:w1.heap.size+1≠w.heap.size:=by have:=vx.lt;have:=hb1.size;omega
    have hmod:=Nat.mod_lt x (Nat.pos_of_ne_zero HY0.out)
    rw[←hR0.out]at hmod
    have hgc:Nat.gcd y R0=Nat.gcd m n:=by rw[hR0.out,←HXY.out,Nat.gcd_comm x y,Nat.gcd_rec y x,Nat.gcd_comm]
    have HGC:=Lib.hid hgc
    have hnr:nl R0≤100000000000:=Nat.le_trans (eu (Nat.le_of_lt hmod)) hy
    clear hgc c5 c6 cr fr k0 k1 k2 k3 hb2 hxq hxr
    change GT w (World.drew _) x y at hs3
    change IsN (World.drew _) _ _ at nr3
    change IsN (World.drew _) _ _ at ny3
    change bf (World.drew _) _ _ _ _ at v8
    change bf (World.drew _) _ _ _ _ at vy3
    change bf (World.drew _) _ _ _ _ at vx3
    generalize World.drew _=w3 at *
    have hT':=gt_set hs3 ny3 nr3
    have v8':=v8.setOther ⟨w.heap.size,0,none⟩ (.slice ay (nl y) cy) (fun e=>hl8 e.symm)
    have vy3':=vy3.setOther ⟨w.heap.size,0,none⟩ (.slice ay (nl y) cy) (by simp)
    have hsv:=hs.v2.val
    have htv:=hT'.v2.val
    have c6:=vy3.cell
    have c8:=v8.cell
    have f5:=vx3.frozen
    have c5:=vx3.cell
    have c6':=vy3'.cell
    have f6':=vy3'.frozen
    have c8':=v8'.cell
    refine eM (i:=0) (t:=2) (d:=some 19) (v:=?v3_0_1) rfl rfl (by decide) rfl rfl (by kernel_rfl) (by kernel_rfl) (fun _ _ _ h=>h) ⟨by rfl,?hy3_0_1⟩ ?_
    case hy3_0_1=>(go_simp;try with_reducible rfl)
    try simp only[Act.put,List.setIfInBounds_toArray,List.set_cons_zero,List.set_cons_succ]
    refine wpAny_ready (rs:=[1,2]) (by kernel_rfl) (by simp) ?_
    refine AllReady.cons rfl (fun K hK=> ?_) ?_
    ·go_simp
     refine hK _ _ ?_
     clear hK K
     try simp only[Act.put,List.setIfInBounds_toArray,List.set_cons_zero,List.set_cons_succ]
     refine wpAny_ready (rs:=[2]) (by kernel_rfl) (by simp) ?_
     refine AllReady.cons rfl (fun K hK=> ?_) AllReady.nil
     go_simp
     refine hK _ _ ?_
     clear hK K
     try simp only[Act.put,List.setIfInBounds_toArray,List.set_cons_zero,List.set_cons_succ]
     refine wpAny_ready (rs:=[3]) (by kernel_rfl) (by simp) ?_
     refine AllReady.cons rfl (fun K hK=> ?_) AllReady.nil
     go_simp
     refine hK _ _ ?_
     clear hK K
     try simp only[Act.put,List.setIfInBounds_toArray,List.set_cons_zero,List.set_cons_succ]
     refine wpAny_done (by kernel_rfl) ?_ _
     go_wp2_with fail
     go_roundw
     case rel=>exact⟨y,R0,HGC,hy,hnr,hT'⟩
     case measure=>rw[hsv,htv];exact hmod
    refine AllReady.cons rfl (fun K hK=> ?_) ?_
    ·go_simp
     refine hK _ _ ?_
     clear hK K
     try simp only[Act.put,List.setIfInBounds_toArray,List.set_cons_zero,List.set_cons_succ]
     refine wpAny_ready (rs:=[1]) (by kernel_rfl) (by simp) ?_
     refine AllReady.cons rfl (fun K hK=> ?_) AllReady.nil
     go_simp
     refine hK _ _ ?_
     clear hK K
     try simp only[Act.put,List.setIfInBounds_toArray,List.set_cons_zero,List.set_cons_succ]
     refine wpAny_ready (rs:=[3]) (by kernel_rfl) (by simp) ?_
     refine AllReady.cons rfl (fun K hK=> ?_) AllReady.nil
     go_simp
     refine hK _ _ ?_
     clear hK K
     try simp only[Act.put,List.setIfInBounds_toArray,List.set_cons_zero,List.set_cons_succ]
     refine wpAny_done (by kernel_rfl) ?_ _
     go_wp2_with fail
     go_roundw
     case rel=>exact⟨y,R0,HGC,hy,hnr,hT'⟩
     case measure=>rw[hsv,htv];exact hmod
    exact AllReady.nil
end Go.Proofs.YtfhinmdhjlmikaaGreat
namespace Go.Proofs.YtfhinmdhjlmikaaGreat
set_option linter.unusedSimpArgs false
set_option linter.unusedVariables false
set_option maxRecDepth 100000
open Go.RowKit
section
variable {Q:Exit→Act→World→Prop} {o:Oper} {a:Act} {w:World} {x y:Operand} {m n:Nat} {tt:Array TypeId}
end
theorem IsN.shape {w:World} {v:Value} {N:Nat} (h:IsN w v N):∃x c,v= .agg #[.slice x (nl N) c]:=by
 obtain⟨x,c,rfl,_⟩:=h;exact⟨x,c,rfl⟩
/-- A new variable is written: it holds N, the others what they held. -/
theorem cC.put {w:World} {g N c:Nat} {x:Option Addr} (hv:bf w g none 0 0) (hn:IsN w (.agg #[.slice x (nl N) c]) N):cC (w.setCell ⟨g,0,none⟩ (.slice x (nl N) c)) g N:=
 ⟨x,c,hv.set,hn.setVar hv⟩
end Go.Proofs.YtfhinmdhjlmikaaGreat
namespace Go.Proofs.YtfhinmdhjlmikaaGreat
set_option linter.unusedSimpArgs false
set_option linter.unusedVariables false
set_option maxRecDepth 100000
open Go.RowKit
theorem cC.set {w:World} {g L c c' N:Nat} {a a':Option Addr} (h:bf w g a L c) (hn:IsN w (.agg #[.slice a' (nl N) c']) N):cC (w.setCell ⟨g,0,none⟩ (.slice a' (nl N) c')) g N:=⟨a',c',h.set,hn.setVar h⟩
end Go.Proofs.YtfhinmdhjlmikaaGreat
namespace Go.Proofs.YtfhinmdhjlmikaaGreat
set_option linter.unusedSimpArgs false
set_option linter.unusedVariables false
set_option maxRecDepth 100000
open Go.RowKit
section
variable {P:Program} {Q:Exit→Act→World→Prop} {md:Region.Mode}
/-- An operation of a table: it runs, or it is skipped. -/
def xA (P:Program) (Q:Exit→Act→World→Prop) (ops:Array Oper) (al:Bool) (j:Nat) (a':Act) (w':World) (s:Sp):Prop:=
 ∃o,ops[j]? =some o∧((Region.wanted o (yielded ops a'.tmps)=true∧ArmB P Q al o a' w' s)∨(Region.wanted o (yielded ops a'.tmps)=false∧al=false∧s.p w' undef))
theorem xA.run {ops:Array Oper} {al:Bool} {j:Nat} {a':Act} {w':World} {s:Sp} {o:Oper} (ho:ops[j]? =some o) (hw:Region.wanted o (yielded ops a'.tmps)=true) (h:ArmB P Q al o a' w' s):xA P Q ops al j a' w' s:=⟨o,ho,.inl ⟨hw,h⟩⟩
theorem xA.skip {ops:Array Oper} {j:Nat} {a':Act} {w':World} {s:Sp} {o:Oper} (ho:ops[j]? =some o) (hw:Region.wanted o (yielded ops a'.tmps)=false) (h:s.p w' undef):xA P Q ops false j a' w' s:=⟨o,ho,.inr ⟨hw,rfl,h⟩⟩
end
/-- v is the fraction of sign s, numerator p, denominator q: valid numbers. -/
def IsF (w:World) (v:Value) (s:Bool) (p q:Nat):Prop:=∃a c b d,v= .agg #[.bool s,.slice a (nl p) c,.slice b (nl q) d]∧IsN w (.agg #[.slice a (nl p) c]) p∧IsN w (.agg #[.slice b (nl q) d]) q
theorem IsF.mono {w w':World} {v:Value} {s:Bool} {p q:Nat} (h:IsF w v s p q) (hb:Below w.heap.size w w'):IsF w' v s p q:=by
 obtain⟨a,c,b,d,rfl,h1,h2⟩:=h;exact⟨a,c,b,d,rfl,h1.mono hb,h2.mono hb⟩
/-- Block g is a fraction variable of the call's own with these cells. -/
def cw (w:World) (g:Nat) (s:Bool) (a:Option Addr) (L c:Nat) (b:Option Addr) (M d:Nat):Prop:=w.heap[g]? =some (.cells #[.bool s,.slice a L c,.slice b M d] 27 (0,0))
section
variable {w w':World} {g L c M d B:Nat} {s:Bool} {a b:Option Addr}
theorem cw.lt (h:cw w g s a L c b M d):g<w.heap.size:=(Array.getElem?_eq_some_iff.1 h).1
theorem cw.mono (h:cw w g s a L c b M d) (hb:Below B w w') (hB:g<B):cw w' g s a L c b M d:=(hb.block g hB).trans h
theorem cw.cell1 (h:cw w g s a L c b M d):w.cell? ⟨g,1,none⟩=some (.slice a L c):=by rw[cell_of_row w g 1 _ _ (0,0) h];rfl
theorem cw.cell2 (h:cw w g s a L c b M d):w.cell? ⟨g,2,none⟩=some (.slice b M d):=by rw[cell_of_row w g 2 _ _ (0,0) h];rfl
theorem cw.frozen (h:cw w g s a L c b M d) (j:Nat):w.frozen? ⟨g,j,none⟩=false:=frozen_of_row w g j _ _ h
theorem cw.made (w:World) (s:Bool) (a:Option Addr) (L c:Nat) (b:Option Addr) (M d:Nat):cw (w.alloc (.cells #[.bool s,.slice a L c,.slice b M d] 27)) w.heap.size s a L c b M d:=heap_alloc_new w _
end
/-- Block g is a variable that holds the fraction. -/
def iw (w:World) (g:Nat) (s:Bool) (p q:Nat):Prop:=∃a c b d,cw w g s a (nl p) c b (nl q) d∧IsN w (.agg #[.slice a (nl p) c]) p∧IsN w (.agg #[.slice b (nl q) d]) q
theorem iw.mono {w w':World} {g p q:Nat} {s:Bool} (h:iw w g s p q) (hb:Below w.heap.size w w'):iw w' g s p q:=by
 obtain⟨a,c,b,d,h0,h1,h2⟩:=h;exact⟨a,c,b,d,h0.mono hb h0.lt,h1.mono hb,h2.mono hb⟩
def Sp.fr (s:Bool) (p q:Nat):Sp:=⟨fun w v=>IsF w v s p q,fun _ _ _ h hb=>h.mono hb⟩
def RetF (W:World) (s:Bool) (p q:Nat) (e:Ending) (w':World):Prop:=∃v,e= .returned v∧IsF w' v s p q∧Below W.heap.size W w'
theorem c_isZero (va:Value) (m:Nat) (w:World) (ha:IsN w va m) (hm:nl m≤1000000000000):
  Calls Tryz.prog 86 #[va] w fun e w'=>bH w (.bool (decide (m=0))) e w':=by
 obtain⟨a,ca,rfl,hca,ra⟩:=ha
 have hw:=io w (.cells #[.slice a (nl m) ca] 25)
 have v1:=bf.made w a (nl m) ca
 have c1:=v1.cell
 have e:(((nl m:Nat):Int)==0)=decide (m=0):=by
  rw[Bool.eq_iff_iff];simp[j9]
 go_enter Tryz.func86,Tryz.ntmps86
 go_wp2
 go_ret
 exact⟨by first | rfl | (rw[←e];rfl) | simp_all,hw⟩
theorem c_zero (va:Value) (m:Nat) (w:World) (ha:IsN w va m) (hm:nl m≤1000000000000):
  Calls Tryz.prog 77 #[va] w fun e w'=>bH w (.bool (decide (m=0))) e w':=by
 obtain⟨a,ca,rfl,hca,ra⟩:=ha
 have hw:=io w (.cells #[.slice a (nl m) ca] 25)
 have v1:=bf.made w a (nl m) ca
 have c1:=v1.cell
 have e:(((nl m:Nat):Int)==0)=decide (m=0):=by
  rw[Bool.eq_iff_iff];simp[j9]
 go_enter Tryz.func77,Tryz.ntmps77
 go_wp2
 go_ret
 exact⟨by first | rfl | (rw[←e];rfl) | simp_all,hw⟩
end Go.Proofs.YtfhinmdhjlmikaaGreat
namespace Go.Proofs.YtfhinmdhjlmikaaGreat
set_option linter.unusedSimpArgs false
set_option linter.unusedVariables false
set_option maxRecDepth 100000
open Go.RowKit
/-- The fraction variable g is written. -/
def putF (w:World) (g:Nat) (s:Bool) (a:Option Addr) (L c:Nat) (b:Option Addr) (M d:Nat):World:=
 ((w.setCell ⟨g,0,none⟩ (.bool s)).setCell ⟨g,1,none⟩ (.slice a L c)).setCell ⟨g,2,none⟩ (.slice b M d)
section
variable {w:World} {g L c M d L' c' M' d':Nat} {s s':Bool} {a b a' b':Option Addr}
theorem cw.put (h:cw w g s a L c b M d):cw (putF w g s' a' L' c' b' M' d') g s' a' L' c' b' M' d':=by
 have h1:=heap_setCell_same w g 0 _ _ (.bool s') h
 have h2:=heap_setCell_same _ g 1 _ _ (.slice a' L' c') h1
 have h3:=heap_setCell_same _ g 2 _ _ (.slice b' M' d') h2
 exact h3
theorem yH {k:Nat} (hk:k≠g):(putF w g s a L c b M d).heap[k]? =w.heap[k]? :=by
 unfold putF
 rw[Below.heap_setCell _ _ _ k hk,Below.heap_setCell _ _ _ k hk,Below.heap_setCell _ _ _ k hk]
theorem cw.ne (h:cw w g s a L c b M d) {k o:Nat} {x:Int} {ki:IntKind} (hd:w.cell? ⟨k,o,none⟩=some (.int ki x)):k≠g:=by
 rintro rfl
 rw[cell_of_row w k o _ _ (0,0) h]at hd
 match o,hd with
 | 0,hd=>cases hd
 | 1,hd=>cases hd
 | 2,hd=>cases hd
 | (o+3),hd=>simp at hd
theorem IsN.putF {v:Value} {N:Nat} (h:IsN w v N) (hg:cw w g s a L c b M d):IsN (putF w g s' a' L' c' b' M' d') v N:=by
 obtain⟨x,cap,rfl,hc,hx⟩:=h
 refine⟨x,cap,rfl,hc,hx.lt,fun hL=> ?_⟩
 obtain⟨k,off,rfl,hd⟩:=hx.cells hL
 have hne:k≠g:=hg.ne (by simpa using hd 0 hL)
 refine⟨k,off,rfl,fun j hj=> ?_⟩
 rw[World.cell?_of_block (yH (by simpa using hne))];exact hd j hj
theorem IsF.putF {v:Value} {t:Bool} {p q:Nat} (h:IsF w v t p q) (hg:cw w g s a L c b M d):IsF (putF w g s' a' L' c' b' M' d') v t p q:=by
 obtain⟨x,cx,y,cy,rfl,h1,h2⟩:=h;exact⟨x,cx,y,cy,rfl,h1.putF hg,h2.putF hg⟩
end
section
variable {Q:Exit→Act→World→Prop} {o:Oper} {a:Act} {w:World} {x y z:Operand} {m n p q g:Nat} {s:Bool} {tt:Array TypeId}
end
/-- The end of a contract that hands back a fraction and an error's number. -/
def RetFE (W:World) (s:Bool) (p q:Nat) (c:Int) (e:Ending) (w':World):Prop:=∃v,e= .returned (.tuple #[v,.int .i64 c])∧IsF w' v s p q∧Below W.heap.size W w'
theorem IsF.zero (w:World):IsF w (.agg #[.bool false,.slice none 0 0,.slice none 0 0]) false 0 0:=by
 have h:IsN w (.agg #[.slice none (nl 0) 0]) 0:=by rw[bZ];exact bj.isN (base:=0) bj.of_zero
 exact⟨none,0,none,0,by rw[bZ],h,h⟩
theorem iw.of {w:World} {g p q c d:Nat} {s:Bool} {a b:Option Addr} (h:cw w g s a (nl p) c b (nl q) d) (h1:IsN w (.agg #[.slice a (nl p) c]) p) (h2:IsN w (.agg #[.slice b (nl q) d]) q):iw w g s p q:=⟨a,c,b,d,h,h1,h2⟩
end Go.Proofs.YtfhinmdhjlmikaaGreat
namespace Go.Proofs.YtfhinmdhjlmikaaGreat
set_option linter.unusedSimpArgs false
set_option linter.unusedVariables false
set_option maxRecDepth 100000
open Go.RowKit
/-- The sign of a fraction in lowest terms. -/
def dR (s:Bool) (m:Nat):Bool:=s && !decide (m=0)
end Go.Proofs.YtfhinmdhjlmikaaGreat
namespace Go.Proofs.YtfhinmdhjlmikaaGreat
set_option linter.unusedSimpArgs false
set_option linter.unusedVariables false
set_option maxRecDepth 100000
open Go.RowKit
def ff (m n:Nat):Nat:=m / Nat.gcd m n
def fB (m n:Nat):Nat:=n / Nat.gcd m n
theorem aX {m n d e:Nat} (hm:nl m≤d) (hn:nl n≤e):nl (m*n)≤d+e:=aZ.2 (sm_mul (aZ.1 hm) (aZ.1 hn))
end Go.Proofs.YtfhinmdhjlmikaaGreat
namespace Go.Proofs.YtfhinmdhjlmikaaGreat
set_option linter.unusedSimpArgs false
set_option linter.unusedVariables false
set_option maxRecDepth 100000
open Go.RowKit
theorem cw.setOther {w:World} {g L c M d:Nat} {s:Bool} {a b:Option Addr} (h:cw w g s a L c b M d) (p:Addr) (u:Value) (hp:p.block≠g):cw (w.setCell p u) g s a L c b M d:=
 (Below.heap_setCell w p u g (fun e=>hp e.symm)).trans h
theorem iw.setOther {w:World} {g p q g' L' c':Nat} {s:Bool} {a':Option Addr} {u:Value} (h:iw w g s p q) (h':bf w g' a' L' c') (hne:g'≠g):iw (w.setCell ⟨g',0,none⟩ u) g s p q:=by
 obtain⟨a,c,b,d,h0,h1,h2⟩:=h
 exact⟨a,c,b,d,h0.setOther _ _ hne,h1.setVar h',h2.setVar h'⟩
theorem iw.lt {w:World} {g p q:Nat} {s:Bool} (h:iw w g s p q):g<w.heap.size:=by obtain⟨_,_,_,_,h,_⟩:=h;exact h.lt
theorem cC.lt {w:World} {g N:Nat} (h:cC w g N):g<w.heap.size:=by obtain⟨_,_,h,_⟩:=h;exact h.lt
/-- The sum of two fractions over one denominator: its sign before reduction, its numerator. -/
def dm (s s':Bool) (X Y:Nat):Bool:=if s=s' then s else if Y≤X then s else s'
def di (s s':Bool) (X Y:Nat):Nat:=if s=s' then X+Y else if Y≤X then X - Y else Y - X
theorem nl_add2 {m n d:Nat} (hm:nl m≤d) (hn:nl n≤d):nl (m+n)≤d+d+1:=aZ.2 (sm_add (aZ.1 hm) (aZ.1 hn))
theorem addM_le (s s':Bool) (X Y:Nat):di s s' X Y≤X+Y:=by unfold di;by_cases h:s=s'<;>by_cases h2:Y≤X<;>simp only[h,h2,if_true,if_false]<;>omega
end Go.Proofs.YtfhinmdhjlmikaaGreat
namespace Go.Proofs.YtfhinmdhjlmikaaGreat
set_option linter.unusedSimpArgs false
set_option linter.unusedVariables false
set_option maxRecDepth 100000
open Go.RowKit
/-- In w' only block g may differ from what it was in w. -/
structure Upd (w:World) (g:Nat) (w':World):Prop where
 os:w'.os=w.os
 tape:w'.tape=w.tape
 output:w'.output=w.output
 size:w'.heap.size=w.heap.size
 block:∀k,k≠g→w'.heap[k]? =w.heap[k]?
theorem Upd.cell (w:World) (g k:Nat) (u:Value):Upd w g (w.setCell ⟨g,k,none⟩ u):=⟨rfl,rfl,rfl,by simp[World.setCell],fun i hi=>Below.heap_setCell _ _ _ _ hi⟩
theorem Upd.trans {a b c:World} {g:Nat} (h:Upd a g b) (k:Upd b g c):Upd a g c:=⟨k.os.trans h.os,k.tape.trans h.tape,k.output.trans h.output,k.size.trans h.size,fun i hi=>(k.block i hi).trans (h.block i hi)⟩
theorem Upd.below {W w w':World} {g B:Nat} (h:Below B W w) (u:Upd w g w') (hB:B≤g):Below B W w':=
 h.trans ⟨u.os,u.tape,u.output,by rw[u.size];exact Nat.le_refl _,fun k hk=>u.block k (by omega)⟩
/-- Block g is a variable: no row of digits lies there. -/
def Own (w:World) (g:Nat):Prop:=∃(cs:Array Value) (t:TypeId),w.heap[g]? =some (Obj.cells cs t (0,0))∧∀(k:Nat) (n:Int),cs[k]? ≠some (Value.int .u32 n)
theorem bf.own {w:World} {g L c:Nat} {a:Option Addr} (h:bf w g a L c):Own w g:=⟨_,_,h,fun k n=>by
 match k with
 | 0=>intro h;cases h
 | k+1=>intro h;simp at h⟩
theorem cw.own {w:World} {g L c M d:Nat} {s:Bool} {a b:Option Addr} (h:cw w g s a L c b M d):Own w g:=⟨_,_,h,fun k n=>by
 match k with
 | 0=>intro h;cases h
 | 1=>intro h;cases h
 | 2=>intro h;cases h
 | k+3=>intro h;simp at h⟩
theorem cC.own {w:World} {g N:Nat} (h:cC w g N):Own w g:=by obtain⟨_,_,h,_⟩:=h;exact h.own
theorem iw.own {w:World} {g p q:Nat} {s:Bool} (h:iw w g s p q):Own w g:=by obtain⟨_,_,_,_,h,_⟩:=h;exact h.own
theorem Own.ne {w:World} {g k o:Nat} {x:Int} (h:Own w g) (hd:w.cell? ⟨k,o,none⟩=some (.int .u32 x)):k≠g:=by
 rintro rfl
 obtain⟨cs,t,h1,h2⟩:=h
 rw[cell_of_row w k o _ _ (0,0) h1]at hd
 exact h2 o x hd
section
variable {w w':World} {g g' N L c M d p q:Nat} {s:Bool} {a b:Option Addr}
theorem IsR.upd {v:Value} {L N:Nat} (h:IsR w v L N) (o:Own w g) (u:Upd w g w'):IsR w' v L N:=by
 obtain⟨x,cap,rfl,hc,hx⟩:=h
 refine⟨x,cap,rfl,hc,hx.lt,fun hL=> ?_⟩
 obtain⟨b,off,rfl,hd⟩:=hx.cells hL
 have hne:b≠g:=o.ne (by simpa using hd 0 hL)
 refine⟨b,off,rfl,fun j hj=> ?_⟩
 rw[World.cell?_of_block (u.block b hne)];exact hd j hj
theorem IsN.upd {v:Value} (h:IsN w v N) (o:Own w g) (u:Upd w g w'):IsN w' v N:=IsR.upd h o u
theorem IsF.upd {v:Value} (h:IsF w v s p q) (o:Own w g) (u:Upd w g w'):IsF w' v s p q:=by
 obtain⟨x,cx,y,cy,rfl,h1,h2⟩:=h;exact⟨x,cx,y,cy,rfl,h1.upd o u,h2.upd o u⟩
theorem bf.upd (h:bf w g' a L c) (o:Own w g) (u:Upd w g w') (hn:g'≠g):bf w' g' a L c:=(u.block g' hn).trans h
theorem cw.upd (h:cw w g' s a L c b M d) (o:Own w g) (u:Upd w g w') (hn:g'≠g):cw w' g' s a L c b M d:=(u.block g' hn).trans h
theorem cC.upd (h:cC w g' N) (o:Own w g) (u:Upd w g w') (hn:g'≠g):cC w' g' N:=by
 obtain⟨x,cx,h1,h2⟩:=h;exact⟨x,cx,h1.upd o u hn,h2.upd o u⟩
theorem iw.upd (h:iw w g' s p q) (o:Own w g) (u:Upd w g w') (hn:g'≠g):iw w' g' s p q:=by
 obtain⟨x,cx,y,cy,h0,h1,h2⟩:=h;exact⟨x,cx,y,cy,h0.upd o u hn,h1.upd o u,h2.upd o u⟩
theorem cC.zero (h:bf w g none 0 0):cC w g 0:=⟨none,0,by rw[bZ];exact h,by rw[bZ];exact bj.isN (base:=0) bj.of_zero⟩
theorem iw.zero (h:cw w g false none 0 0 none 0 0):iw w g false 0 0:=by
 have h0:IsN w (.agg #[.slice none (nl 0) 0]) 0:=by rw[bZ];exact bj.isN (base:=0) bj.of_zero
 exact⟨none,0,none,0,by rw[bZ];exact h,h0,h0⟩
end
section
variable {Q:Exit→Act→World→Prop} {md:Region.Mode} {ops:Array Oper} {o:Oper} {a:Act} {w:World} {j fuel:Nat} {listed:Array Bool} {x y:Operand} {g L c M d N p q:Nat} {s t:Bool} {u v:Option Addr}
theorem bf.any (h:bf w g u L c):∃s L c,bf w g s L c:=⟨_,_,_,h⟩
theorem cC.any (h:cC w g N):∃s L c,bf w g s L c:=by obtain⟨_,_,h,_⟩:=h;exact⟨_,_,_,h⟩
theorem cw.any (h:cw w g s u L c v M d):∃s u L c v M d,cw w g s u L c v M d:=⟨_,_,_,_,_,_,_,h⟩
theorem iw.any (h:iw w g s p q):∃s u L c v M d,cw w g s u L c v M d:=by obtain⟨_,_,_,_,h,_⟩:=h;exact⟨_,_,_,_,_,_,_,h⟩
end
section
variable {Q:Exit→Act→World→Prop} {md:Region.Mode} {ops:Array Oper} {o:Oper} {a:Act} {w:World} {j fuel:Nat} {listed:Array Bool} {x y:Operand} {g L c M d N p q:Nat} {s t:Bool} {u v:Option Addr}
section
variable {f:FuncId} {S S1 S2 S3:Sp} {z:Operand} {tt:Array TypeId} {R:World→Ending→World→Prop}
end
end
theorem res_N {fn:Func} {p:Tmp} (h:fn.results=#[.cell p 25]) {tmps:Array Value} {w:World} {g L c:Nat} {a:Option Addr}
  (hp:tmps[p]? =some (.pointer (some ⟨g,0,none⟩))) (hv:bf w g a L c):(results fn tmps).run Tryz.prog w= .ok (.agg #[.slice a L c]) w:=by
 have c0:=hv.cell
 simp[results,h,hp,asAddr,loadVar,go_sem,c0]
theorem resN {w:World}:Below w.heap.size w (w.alloc (.cells #[.slice none 0 0] 25))∧bf (w.alloc (.cells #[.slice none 0 0] 25)) w.heap.size none 0 0:=⟨io w _,bf.made w none 0 0⟩
/-- A fraction: sign, numerator, denominator. -/
structure Fq where
 s:Bool
 p:Nat
 q:Nat
abbrev IsQ (w:World) (v:Value) (x:Fq):Prop:=IsF w v x.s x.p x.q
def fC (W:World) (x:Fq) (e:Ending) (w':World):Prop:=RetF W x.s x.p x.q e w'
def oh (W:World) (x:Fq) (c:Int) (e:Ending) (w':World):Prop:=RetFE W x.s x.p x.q c e w'
def Fq.low (s:Bool) (m n:Nat):Fq:=⟨dR s m,ff m n,fB m n⟩
def Fq.neg (x:Fq):Fq:=⟨dR (!x.s) x.p,x.p,x.q⟩
def Fq.add (x y:Fq):Fq:=.low (dm x.s y.s (x.p*y.q) (y.p*x.q)) (di x.s y.s (x.p*y.q) (y.p*x.q)) (x.q*y.q)
def Fq.mul (x y:Fq):Fq:=.low (x.s !=y.s) (x.p*y.p) (x.q*y.q)
def Fq.div (x y:Fq):Fq:=.low (x.s !=y.s) (x.p*y.q) (x.q*y.p)
def Fq.sub (x y:Fq):Fq:=x.add y.neg
def Fq.sgn (x:Fq):Int:=if x.p=0 then 0 else if x.s then -1 else 1
def Fq.cmp (x y:Fq):Int:=(x.sub y).sgn
def Fq.zero:Fq:=⟨false,0,0⟩
/-- At most d digits; the denominator is not zero. -/
structure Fq.ok (d:Nat) (x:Fq):Prop where
 p:nl x.p≤d
 q:nl x.q≤d
 n:x.q≠0
section
variable {x y:Fq} {d e:Nat}
theorem Fq.ok.mono (h:x.ok d) (hd:d≤e):x.ok e:=⟨Nat.le_trans h.p hd,Nat.le_trans h.q hd,h.n⟩
theorem Fq.ok_low {s:Bool} {m n:Nat} (hm:nl m≤d) (hn:nl n≤d) (h0:n≠0):(Fq.low s m n).ok d:=
 ⟨Nat.le_trans (eu (Nat.div_le_self _ _)) hm,Nat.le_trans (eu (Nat.div_le_self _ _)) hn,fun h=>by
  have h1:n / Nat.gcd m n=0:=h
  rw[Nat.div_eq_zero_iff]at h1
  have h2:=Nat.gcd_pos_of_pos_right m (Nat.pos_of_ne_zero h0)
  have h3:=Nat.gcd_le_right m (Nat.pos_of_ne_zero h0)
  omega⟩
theorem Fq.ok.neg (h:x.ok d):x.neg.ok d:=⟨h.p,h.q,h.n⟩
theorem Fq.ok.mul (h:x.ok d) (k:y.ok e):(x.mul y).ok (d+e):=Fq.ok_low (aX h.p k.p) (aX h.q k.q) (Nat.mul_ne_zero h.n k.n)
theorem Fq.ok.div (h:x.ok d) (k:y.ok e) (h0:y.p≠0):(x.div y).ok (d+e):=Fq.ok_low (aX h.p k.q) (aX h.q k.p) (Nat.mul_ne_zero h.n h0)
theorem Fq.ok.add (h:x.ok d) (k:y.ok e):(x.add y).ok (d+e+(d+e)+1):=
 Fq.ok_low (Nat.le_trans (eu (addM_le _ _ _ _)) (nl_add2 (aX h.p k.q) (Nat.le_trans (aX k.p h.q) (by omega)))) (Nat.le_trans (aX h.q k.q) (by omega)) (Nat.mul_ne_zero h.n k.n)
theorem Fq.ok.sub (h:x.ok d) (k:y.ok e):(x.sub y).ok (d+e+(d+e)+1):=h.add k.neg
end
end Go.Proofs.YtfhinmdhjlmikaaGreat
namespace Go.Proofs.YtfhinmdhjlmikaaGreat
set_option linter.unusedSimpArgs false
set_option linter.unusedVariables false
set_option maxRecDepth 100000
open Go.RowKit
/-- The value of a function. -/
abbrev fnV (f:FuncId):Value:=.func (.func f) #[] #[]
/-- A value of one cell that may be stored into a variable. -/
def fT (v:Value):Prop:=(∀cs,v≠ .agg cs)∧(∀vs,v≠ .tuple vs)∧∀n,v≠ .int .u32 n
/-- No digit lies in block g. -/
def dn (w:World) (g:Nat):Prop:=g<w.heap.size∧∀(k:Nat) (n:Int),w.cell? ⟨g,k,none⟩≠some (.int .u32 n)
theorem dn.mk' {w:World} {g:Nat} {cs:Array Value} {t:TypeId} (h:w.heap[g]? =some (Obj.cells cs t (0,0))) (hc:∀(k:Nat) (n:Int),cs[k]? ≠some (Value.int .u32 n)):dn w g:=
 ⟨(Array.getElem?_eq_some_iff.1 h).1,fun k n hk=>hc k n (by rw[cell_of_row w g k _ _ (0,0) h]at hk;exact hk)⟩
theorem Own.x {w:World} {g:Nat} (h:Own w g):dn w g:=by obtain⟨cs,t,h1,h2⟩:=h;exact .mk' h1 h2
theorem dn.blk {w w':World} {g:Nat} (h:dn w g) (e:w'.heap[g]? =w.heap[g]?) (hs:w.heap.size≤w'.heap.size):dn w' g:=⟨Nat.lt_of_lt_of_le h.1 hs,fun k n hk=>h.2 k n (by rw[←World.cell?_of_block (w:=w) (w':=w') (a:=⟨g,k,none⟩) e];exact hk)⟩
/-- Only the blocks of X, in which no digits lie, may have changed. -/
structure Chg (w w':World) (X:Nat→Prop):Prop where
 size:w.heap.size≤w'.heap.size
 blk:∀g,g<w.heap.size→¬X g→w'.heap[g]? =w.heap[g]?
 own:∀g,X g→dn w g
/-- A property of a value and of the blocks that it names; fp: those of these blocks that are no digits. -/
structure Vp where
 p:World→Value→Prop
 fp:World→Value→Nat→Prop
 ch:∀w w' X v,p w v→Chg w w' X→(∀g,fp w v g→¬X g)→p w' v∧∀g,fp w' v g→fp w v g
 lt:∀w v g,p w v→fp w v g→g<w.heap.size
 fl:∀w v,p w v→fT v
/-- .. the blocks are told by the value alone. -/
def Vp.of (p:World→Value→Prop) (fp:Value→Nat→Prop) (ch:∀w w' X v,p w v→Chg w w' X→(∀g,fp v g→¬X g)→p w' v) (lt:∀w v g,p w v→fp v g→g<w.heap.size) (fl:∀w v,p w v→fT v):Vp:=
 ⟨p,fun _=>fp,fun w w' X v h c k=>⟨ch w w' X v h c k,fun _ h=>h⟩,lt,fl⟩
theorem IsR.chg {w w':World} {X:Nat→Prop} {v:Value} {L N:Nat} (h:IsR w v L N) (k:Chg w w' X):IsR w' v L N:=by
 obtain⟨x,cap,rfl,hc,hx⟩:=h
 refine⟨x,cap,rfl,hc,hx.lt,fun hL=> ?_⟩
 obtain⟨b,off,rfl,hd⟩:=hx.cells hL
 have hb:w'.heap[b]? =w.heap[b]? :=k.blk b (hd.lt hL) (fun hX=>(k.own b hX).2 off _ (by simpa using hd 0 hL))
 refine⟨b,off,rfl,fun j hj=> ?_⟩
 rw[World.cell?_of_block hb];exact hd j hj
def Vp.val (u:Value):Vp:=.of (fun _ v=>v=u∧fT v) (fun _ _=>False) (fun _ _ _ _ h _ _=>h) (fun _ _ _ _ h=>h.elim) (fun _ _ h=>h.2)
/-- A row of digits. -/
def Vp.dig (L N:Nat):Vp:=.of (fun w v=>IsR w (.agg #[v]) L N) (fun _ _=>False) (fun _ _ _ _ h k _=>h.chg k) (fun _ _ _ _ h=>h.elim) (fun w v h=>by
 obtain⟨a,c,e,_⟩:=h
 have e2:v= .slice a L c:=by
  injection e with e
  have:=congrArg (fun x:Array Value=>x[0]?) e
  simpa using this
 subst e2
 exact⟨fun _ h=>by(cases h),fun _ h=>by(cases h),fun _ h=>by(cases h)⟩)
theorem Chg.below {w w':World} (h:Below w.heap.size w w'):Chg w w' (fun _=>False):=⟨h.size,fun g hg _=>h.block g hg,fun _ h=>h.elim⟩
theorem Chg.upd {w w':World} {g:Nat} (o:dn w g) (u:Upd w g w'):Chg w w' (fun x=>x=g):=⟨by rw[u.size];exact Nat.le_refl _,fun k _ hk=>u.block k hk,fun k hk=>by subst hk;exact o⟩
abbrev Rho:=List Vp
/-- What is known of one cell. -/
inductive Leaf where
 | b (x:Bool)
 | i (k:IntKind) (n:Int)
 | ptr (v off:Nat)
 | nilp
 | ref (n:Nat)
 | fn (f:FuncId)
 | sl0
 | s (x:ByteArray)
 | own (i n:Nat)
 deriving DecidableEq
inductive SV where
 | one (l:Leaf)
 | agg (ls:List Leaf)
 deriving DecidableEq
inductive AV where
 | v (s:SV)
 | tup (xs:List SV)
 | any
 deriving DecidableEq
/-- Which block is which variable, and which blocks belong to which object. -/
structure Blk where
 v:Nat→Option Nat
 o:Nat→Nat→Prop
def noB:Blk:=⟨fun _=>none,fun _ _=>False⟩
def Blk.has (B:Blk) (g:Nat):Prop:=(∃x,B.v x=some g)∨∃k,B.o k g
theorem qU {g:Nat}:¬noB.has g:=by rintro(⟨x,h⟩ | ⟨k,h⟩);(cases h);exact h
/-- From here on the numbers are those of rows that the call itself made and may append to. -/
abbrev OW:Nat:=1000000
def Leaf.holds (ρ:Rho) (B:Blk) (w:World) (l:Leaf) (v:Value):Prop:=
 match l with
 | .b x=>v= .bool x
 | .i k n=>v= .int k n
 | .ptr x o=>∃g,B.v x=some g∧v= .pointer (some ⟨g,o,none⟩)
 | .nilp=>v= .pointer none
 | .ref n=>∃s,ρ[n]? =some s∧s.p w v∧∀g,s.fp w v g→¬B.has g
 | .fn f=>v=fnV f
 | .sl0=>v= .slice none 0 0
 | .s x=>v= .string x
 | .own k m=>∃s,ρ[m]? =some s∧s.p w v∧(∀g,s.fp w v g→B.o k g)∧∀g,v.ownBlock=some g→B.o k g
def aO (ρ:Rho) (B:Blk) (w:World):List Leaf→List Value→Prop
 | [],[]=>True
 | l::ls,v::vs=>l.holds ρ B w v∧aO ρ B w ls vs
 | _,_=>False
def SV.holds (ρ:Rho) (B:Blk) (w:World) (s:SV) (v:Value):Prop:=
 match s with
 | .one l=>l.holds ρ B w v
 | .agg ls=>∃vs:List Value,v= .agg vs.toArray∧aO ρ B w ls vs
def cG (ρ:Rho) (B:Blk) (w:World):List SV→List Value→Prop
 | [],[]=>True
 | l::ls,v::vs=>l.holds ρ B w v∧cG ρ B w ls vs
 | _,_=>False
def AV.holds (ρ:Rho) (B:Blk) (w:World) (s:AV) (v:Value):Prop:=
 match s with
 | .v s=>s.holds ρ B w v
 | .tup xs=>∃vs:List Value,v= .tuple vs.toArray∧cG ρ B w xs vs
 | .any=>v=undef
section
variable {ρ:Rho} {B B':Blk} {w w':World} {g:Nat} {v:Value}
structure BLe (B B':Blk):Prop where
 v:∀x g,B.v x=some g→B'.v x=some g
 o:∀k g,B.o k g→B'.o k g
/-- B' has new variables only beyond n. -/
def uI (n:Nat) (B B':Blk):Prop:=∀g,B'.has g→B.has g∨n≤g
def BOk (B:Blk) (n:Nat):Prop:=∀g,B.has g→g<n
theorem BLe.refl:BLe B B:=⟨fun _ _ h=>h,fun _ _ h=>h⟩
theorem uI.refl {n:Nat}:uI n B B:=fun _ h=>.inl h
/-- No block belongs to two. -/
structure BInj (B:Blk):Prop where
 v:∀x y g,B.v x=some g→B.v y=some g→x=y
 o:∀k l g,B.o k g→B.o l g→k=l
 vo:∀x k g,B.v x=some g→¬B.o k g
theorem Leaf.holds.mono {l:Leaf} (h:l.holds ρ B w v) (hB:BLe B B') (hN:uI w.heap.size B B') (hb:Below w.heap.size w w'):l.holds ρ B' w' v:=by
 cases l<;>simp only[Leaf.holds]at h⊢ <;>try exact h
 ·obtain⟨g,h1,h2⟩:=h;exact⟨g,hB.v _ _ h1,h2⟩
 ·obtain⟨s,h1,h2,h3⟩:=h
  obtain⟨c1,c2⟩:=s.ch _ _ _ _ h2 (.below hb) (fun _ _ h=>h)
  refine⟨s,h1,c1,fun g hg hx=> ?_⟩
  rcases hN g hx with h | h
  ·exact h3 g (c2 g hg) h
  ·have:=s.lt _ _ _ h2 (c2 g hg);omega
 ·obtain⟨s,h1,h2,h3,h4⟩:=h
  obtain⟨c1,c2⟩:=s.ch _ _ _ _ h2 (.below hb) (fun _ _ h=>h)
  exact⟨s,h1,c1,fun g hg=>hB.o _ _ (h3 g (c2 g hg)),fun g hg=>hB.o _ _ (h4 g hg)⟩
theorem Leaf.holds.upd {l:Leaf} (h:l.holds ρ B w v) (o:dn w g) (u:Upd w g w') (hx:∃x,B.v x=some g) (hi:BInj B):l.holds ρ B w' v:=by
 obtain⟨x,hx⟩:=hx
 cases l<;>simp only[Leaf.holds]at h⊢ <;>try exact h
 ·obtain⟨s,h1,h2,h3⟩:=h
  obtain⟨c1,c2⟩:=s.ch _ _ _ _ h2 (.upd o u) (fun k hk e=>by subst e;exact h3 _ hk (.inl ⟨x,hx⟩))
  exact⟨s,h1,c1,fun g hg=>h3 g (c2 g hg)⟩
 ·obtain⟨s,h1,h2,h3,h4⟩:=h
  obtain⟨c1,c2⟩:=s.ch _ _ _ _ h2 (.upd o u) (fun k hk e=>by subst e;exact hi.vo _ _ _ hx (h3 _ hk))
  exact⟨s,h1,c1,fun g hg=>h3 g (c2 g hg),h4⟩
theorem aO.all:∀ {ls:List Leaf} {vs:List Value},aO ρ B w ls vs→(∀(l:Leaf) (v:Value),Leaf.holds ρ B w l v→Leaf.holds ρ B' w' l v)→aO ρ B' w' ls vs
 | [],[],_,_=>trivial
 | _::_,_::_,h,f=>⟨f _ _ h.1,aO.all h.2 f⟩
 | [],_::_,h,_=>h.elim
 | _::_,[],h,_=>h.elim
theorem SV.holds.all {s:SV} (h:s.holds ρ B w v) (f:∀(l:Leaf) (v:Value),Leaf.holds ρ B w l v→Leaf.holds ρ B' w' l v):s.holds ρ B' w' v:=by
 cases s with
 | one l=>exact f _ _ h
 | agg ls=>obtain⟨vs,e,h⟩:=h;exact⟨vs,e,aO.all h f⟩
theorem cG.all:∀ {ls:List SV} {vs:List Value},cG ρ B w ls vs→(∀(l:Leaf) (v:Value),Leaf.holds ρ B w l v→Leaf.holds ρ B' w' l v)→cG ρ B' w' ls vs
 | [],[],_,_=>trivial
 | _::_,_::_,h,f=>⟨h.1.all f,cG.all h.2 f⟩
 | [],_::_,h,_=>h.elim
 | _::_,[],h,_=>h.elim
theorem AV.holds.all {s:AV} (h:s.holds ρ B w v) (f:∀(l:Leaf) (v:Value),Leaf.holds ρ B w l v→Leaf.holds ρ B' w' l v):s.holds ρ B' w' v:=by
 cases s with
 | v s=>exact SV.holds.all h f
 | tup ls=>obtain⟨vs,e,h⟩:=h;exact⟨vs,e,h.all f⟩
 | any=>exact h
theorem AV.holds.mono {s:AV} (h:s.holds ρ B w v) (hB:BLe B B') (hN:uI w.heap.size B B') (hb:Below w.heap.size w w'):s.holds ρ B' w' v:=h.all (fun _ _ h=>h.mono hB hN hb)
theorem AV.holds.upd {s:AV} (h:s.holds ρ B w v) (o:dn w g) (u:Upd w g w') (hx:∃x,B.v x=some g) (hi:BInj B):s.holds ρ B w' v:=h.all (fun _ _ h=>h.upd o u hx hi)
theorem aO.len:∀ {ls:List Leaf} {vs:List Value},aO ρ B w ls vs→vs.length=ls.length
 | [],[],_=>rfl
 | _::_,_::_,h=>by simp[h.2.len]
 | [],_::_,h=>h.elim
 | _::_,[],h=>h.elim
theorem aO.get:∀ {ls:List Leaf} {vs:List Value} {k:Nat} {l:Leaf},aO ρ B w ls vs→ls[k]? =some l→∃v,vs[k]? =some v∧l.holds ρ B w v
 | [],[],_,_,_,h=>by simp at h
 | _::_,v::_,0,_,h,e=>by simp at e;subst e;exact⟨v,rfl,h.1⟩
 | _::ls,_::vs,k+1,l,h,e=>by
  obtain⟨u,h1,h2⟩:=aO.get (k:=k) (l:=l) h.2 (by simpa using e)
  exact⟨u,by simpa using h1,h2⟩
 | [],_::_,_,_,h,_=>h.elim
 | _::_,[],_,_,h,_=>h.elim
theorem aO.mk:∀ {ls:List Leaf} {vs:List Value},vs.length=ls.length→(∀(k:Nat) (l:Leaf) (v:Value),ls[k]? =some l→vs[k]? =some v→l.holds ρ B w v)→aO ρ B w ls vs
 | [],[],_,_=>trivial
 | l::ls,v::vs,e,h=>⟨h 0 l v rfl rfl,aO.mk (by simpa using e) (fun k l v h1 h2=>h (k+1) l v (by simpa using h1) (by simpa using h2))⟩
 | [],_::_,e,_=>by simp at e
 | _::_,[],e,_=>by simp at e
theorem cG.get:∀ {ls:List SV} {vs:List Value} {k:Nat} {l:SV},cG ρ B w ls vs→ls[k]? =some l→∃v,vs[k]? =some v∧l.holds ρ B w v
 | [],[],_,_,_,h=>by simp at h
 | _::_,v::_,0,_,h,e=>by simp at e;subst e;exact⟨v,rfl,h.1⟩
 | _::ls,_::vs,k+1,l,h,e=>by
  obtain⟨u,h1,h2⟩:=cG.get (k:=k) (l:=l) h.2 (by simpa using e)
  exact⟨u,by simpa using h1,h2⟩
 | [],_::_,_,_,h,_=>h.elim
 | _::_,[],_,_,h,_=>h.elim
theorem aO.append:∀ {ls ls':List Leaf} {vs vs':List Value},aO ρ B w ls vs→aO ρ B w ls' vs'→aO ρ B w (ls++ls') (vs++vs')
 | [],_,[],_,_,k=>k
 | _::_,_,_::_,_,h,k=>⟨h.1,aO.append h.2 k⟩
 | [],_,_::_,_,h,_=>h.elim
 | _::_,_,[],_,h,_=>h.elim
/-- Leaves that may lie in a variable. -/
def Leaf.flat:Leaf→Bool
 | .i .u32 _=>false
 | _=>true
theorem Leaf.holds.flat {l:Leaf} (h:l.holds ρ B w v) (hf:l.flat=true):fT v:=by
 cases l<;>simp only[Leaf.holds]at h
 ·subst h;exact⟨fun _ h=>by(cases h),fun _ h=>by(cases h),fun _ h=>by(cases h)⟩
 ·subst h
  rename_i k n
  exact⟨fun _ h=>by(cases h),fun _ h=>by(cases h),fun m h=>by
   injection h with h1 h2;subst h1;simp[Leaf.flat]at hf⟩
 ·obtain⟨g,_,h⟩:=h;subst h;exact⟨fun _ h=>by(cases h),fun _ h=>by(cases h),fun _ h=>by(cases h)⟩
 ·subst h;exact⟨fun _ h=>by(cases h),fun _ h=>by(cases h),fun _ h=>by(cases h)⟩
 ·obtain⟨s,_,h,_⟩:=h;exact s.fl _ _ h
 ·subst h;exact⟨fun _ h=>by(cases h),fun _ h=>by(cases h),fun _ h=>by(cases h)⟩
 ·subst h;exact⟨fun _ h=>by(cases h),fun _ h=>by(cases h),fun _ h=>by(cases h)⟩
 ·subst h;exact⟨fun _ h=>by(cases h),fun _ h=>by(cases h),fun _ h=>by(cases h)⟩
 ·obtain⟨s,_,h,_⟩:=h;exact s.fl _ _ h
end
/-- A constant as a leaf. -/
def pZ:Value→Option Leaf
 | .bool x=>some (.b x)
 | .int k n=>some (.i k n)
 | .pointer none=>some .nilp
 | .slice none 0 0=>some .sl0
 | .string s=>some (.s s)
 | _=>none
theorem mX {ρ:Rho} {B:Blk} {w:World} {v:Value} {l:Leaf} (h:pZ v=some l):l.holds ρ B w v:=by
 unfold pZ at h
 split at h<;>first | (injection h with h;subst h;rfl) | cases h
def gB:List Value→Option (List Leaf)
 | []=>some []
 | v::vs=>match pZ v,gB vs with
  | some l,some ls=>some (l::ls)
  | _,_=>none
theorem gK {ρ:Rho} {B:Blk} {w:World}:∀ {vs:List Value} {ls:List Leaf},gB vs=some ls→aO ρ B w ls vs
 | [],ls,h=>by simp[gB]at h;subst h;trivial
 | v::vs,ls,h=>by
  unfold gB at h
  cases h1:pZ v with
  | none=>rw[h1]at h;simp at h
  | some l=>
   cases h2:gB vs with
   | none=>rw[h1,h2]at h;simp at h
   | some l2=>rw[h1,h2]at h;simp at h;subst h;exact⟨mX h1,gK h2⟩
def svC:Value→Option SV
 | .agg cs=>(gB cs.toList).map .agg
 | v=>(pZ v).map .one
theorem yI {ρ:Rho} {B:Blk} {w:World} {v:Value} {s:SV} (h:svC v=some s):s.holds ρ B w v:=by
 unfold svC at h
 split at h
 ·rename_i cs
  cases h1:gB cs.toList with
  | none=>rw[h1]at h;cases h
  | some l=>rw[h1]at h;simp at h;subst h;exact⟨cs.toList,by simp,gK h1⟩
 ·cases h1:pZ v with
  | none=>rw[h1]at h;cases h
  | some l=>rw[h1]at h;simp at h;subst h;exact mX h1
end Go.Proofs.YtfhinmdhjlmikaaGreat
