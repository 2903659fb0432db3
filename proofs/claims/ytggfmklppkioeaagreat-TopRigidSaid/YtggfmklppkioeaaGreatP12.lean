/- Tracks: ratios of numbers; the clones of fractions and of stamps. Tracks: clones, opposite rotations, places. Tracks: Add at a stamp with a valid pose. Rows of fractions as they come in. -/
import Derived.Test.YtggfmklppkioeaaGreatP11
namespace Go.Proofs.YtggfmklppkioeaaGreat
set_option linter.unusedSimpArgs false
set_option linter.unusedVariables false
set_option maxRecDepth 100000
open Go.RowKit
theorem pf {v u:Int} (lv: -9223372036854775808≤v) (rv:v<9223372036854775808) (lu: -9223372036854775808≤u) (ru:u<9223372036854775808) (h0:u≠0):(Fq.ratio v u).ok 2:=Fq.ok_low (oQ lv rv) (oQ lu ru) (by omega)
theorem fL {v u:Int} (h0:u≠0):(Fq.ratio v u).valid=true:=jd (by omega)
section
variable {xs:List Fq} {ys:Rho} {k:Nat} {v u:Int} {l1 l2:Leaf}
theorem pg (h1:KI (frs xs++ys) l1 .i64 v) (h2:KI (frs xs++ys) l2 .i64 u) (lv: -9223372036854775808≤v) (rv:v<9223372036854775808) (lu: -9223372036854775808≤u) (ru:u<9223372036854775808) (h0:u≠0) (hk:xs[k]? =some (.ratio v u)):OkI xs ys ⟨166,[.one l1,.one l2],.tup [fr k,.one (.i .i64 0)]⟩:=
 ⟨az Tryz.func166 rfl rfl,fun B w vs hB h=>by
  match vs,h with
  | [va,vb],h=>
   have e1:=h1 B w va h.1;have e2:=h2 B w vb h.2.1;subst e1;subst e2;refine(q_fRatio v u w lv rv lu ru h0).mono ?_;rintro e w' ⟨v,rfl,h1,h2⟩;exact⟨_,rfl,⟨[v,.int .i64 0],rfl,(aI hk).2 h1,rfl,trivial⟩,h2⟩⟩
end
theorem half_p:(Fq.ratio 1 2).p≠0:=by decide
theorem half_1:(Fq.ratio 1 2)≠(Fq.ofInt 1):=fun h=>absurd (congrArg Fq.q h) (by decide)
section
variable {ρ ρ':Rho} {n m k r N:Nat} {u v c:Int} {l l':Leaf} {t T e:TypeId} {B:Blk} {w:World} {x:St} {S:List St} {sl:Value} {pin:Bool}
theorem sgi {ρ':Rho} (h2:ρ'[n]? =some (.val (.int .i64 v))) (hl:KI ρ l .i64 u) (e:u=v) (ho:l.noPtr=true:=by rfl):ya ρ ρ' (n,l):=
 sg_val h2 ho (fun B w x h=>by have:=hl B w x h;subst this;subst e;exact⟨rfl,aH⟩)
theorem cmP {a b c d:Rho} (hN:(a++b).length=N):∀n,n<N→(a++(b++c))[n]? =(a++(b++d))[n]? :=fun n hn=>by
 have h1:n<(a++b).length:=by rw[hN];exact hn
 rw[←List.append_assoc a b c,←List.append_assoc a b d,List.getElem?_append_left h1,List.getElem?_append_left h1]
theorem cmX {a b c d:Rho} (hN:(a++(b++c)).length=N):∀n,n<N→(a++(b++c))[n]? =(a++(b++(c++d)))[n]? :=fun n hn=>by
 have h1:n<(a++(b++c)).length:=by rw[hN];exact hn
 rw[show a++(b++(c++d))=(a++(b++c))++d by simp[List.append_assoc],List.getElem?_append_left h1]
theorem ew {E:Ent} {nt:Nat} {b:Code} {ρx:Rho} {s s2:MS} {e:Ex} (hc:∀n,n<N→ρ[n]? =ρx[n]?) (hk:s.cv N [] s=true) (hpn:E.pin.length≤s.vars.length) (h:oN Tryz.prog E nt b ρx s e ρ' s2):oN Tryz.prog E nt b ρ s e ρ' s2:=
 fun a w Q hs hQ=>h a w Q (MSt.conv hc cZ hk hs hpn) hQ
theorem wO {xs:List Fq} {ys:Rho}:∀ {ks:List Nat} {vs:List Fq},AtL xs ks vs→LQ (frs xs++ys) (bT ks) (frs vs)
 | [],[],_=>trivial
 | _::_,_::_,h=>⟨lq (iI h.1).1,lq (iI h.1).2.1,lq (iI h.1).2.2,wO h.2⟩
 | [],_::_,h=>h.elim
 | _::_,[],h=>h.elim
theorem lq_st {xs:List Fq} {ys:Rho} {ks:List Nat} (hn:(frs xs++ys)[n]? =some (.val (.int .i64 x.tm))) (h:AtL xs ks x.pose.cs):LQ (frs xs++ys) (.ref n::bT ks) x.qs:=⟨lq hn,wO h⟩
theorem hq0:∀(j:Nat) (q:Vp),x.qs[j]? =some q→x.qs[0+j]? =some q:=fun j q h=>by rw[Nat.zero_add];exact h
theorem hq1:∀(j:Nat) (q:Vp),(frs x.pose.cs)[j]? =some q→x.qs[1+j]? =some q:=fun j q h=>by rw[Nat.add_comm];exact h
theorem ph {S':List St} {j sz:Nat} (ht:Tryz.prog.underlying t=some (.slice e)) (hz:szB Tryz.prog e=some 22) (hn:ρ[n]? =some (.ownr T sz S.length (aF S))) (hS:S'=S.drop k) (hm:ρ[m]? =some (.row T S'.length (aF S'))) (hl:KI ρ l .i64 (k:Int)) (hk:k≤S.length):(OIns.mk (.sl t true false) [.one (.own j n),.one l] (.one (.own j m))).Ok Tryz.prog ρ:=by
 subst hS;exact o_slFrN ht hz hn (List.length_drop ..) hm hl hk
end
section
variable {ρ:Rho} {n m k r j u:Nat} {T:TypeId} {B:Blk} {w:World} {S S':List St} {f:FuncId} {args xs:List SV} {l:Leaf} {sl0:Value} {pin:Bool}
theorem yt {g:Nat} (hg:B.v u=some g) (hv:ol ρ B w (u,T,[.ref m])) (hm:ρ[m]? =some (.rowB pin sl0 stT S.length (aF S))):∃sl,TrkS T w g sl S:=by
 obtain⟨g',cs,e1,e2,e3,_⟩:=hv;rw[hg]at e1;injection e1 with e1;subst e1;have hcs:∃sl,cs.toList=[sl]∧(Leaf.ref m).holds ρ B w sl:=by
  match hc:cs.toList,e3 with
  | [sl],e3=>exact⟨sl,rfl,e3.1⟩
  | [],e3=>exact e3.elim
  | _::_::_,e3=>exact e3.2.elim
 obtain⟨sl,h2,h3⟩:=hcs;have hcs:cs=#[sl]:=by rw[←Array.toList_inj];exact h2
 subst hcs;obtain⟨k1,_,k3⟩:=pd hm h3;refine⟨sl,⟨e2,k1,fun b hb e=> ?_⟩⟩;subst e;obtain⟨a,n,c,rfl⟩:=row_sl k1
 cases a with
 | none=>cases hb
 | some a=>
  have hs:=uB k1 _ _ _ rfl;obtain⟨ab,ao,asp⟩:=a;simp only at hs;subst hs;have e:ab=b:=Option.some.inj hb;subst e;exact k3 ab ⟨_,_,_,rfl⟩ (.inl ⟨u,hg⟩)
theorem zX (hen:∀(vs:Array Value) (w:World),(callFunc f vs).run Tryz.prog w= .ok (.enter f vs) w) (hm:ρ[m]? =some (.rowB pin sl0 stT S.length (aF S))) {r:SV}
  (h:∀B w g sl vs,BOk B w.heap.size→TrkS T w g sl S→bW ρ B w args vs→Calls Tryz.prog f (.pointer (some ⟨g,0,none⟩)::vs).toArray w (fun e w'=>∃v,e= .returned v∧(∀B',BOk B' w.heap.size→(zh xs).holds ρ B' w' v)∧Below w.heap.size w w')):
  (OIns.mk (.mut f ⟨[],[(u,T,[.ref m])],[],none,[],xs⟩) (.one (.ptr u 0)::args) r).Ok Tryz.prog ρ:=fun B w vs hv=>by
 match vs,hv with
 | v0::vs,hv=>
  obtain⟨g,hg,rfl⟩:=hv.1;refine⟨hen _ _,fun hbok hinj ho hov _ hpre=> ?_⟩;obtain⟨sl,ht⟩:=yt hg (hpre (u,T,[.ref m]) (List.mem_singleton.2 rfl)) hm;refine(h B w g sl vs hbok ht hv.2).mono ?_;rintro e w' ⟨v,rfl,hres,hb⟩;exact⟨v,B,rfl,hres _ hbok,fun q hq=>(by cases hq),fun q hq=>(by cases hq),fun q hq=>(by cases hq),hb.os,hb.tape,hb.output,fun _ _=>rfl,fun q g hq=>(by cases hq),fun l b hb=>hb,fun l b hb=>.inl hb,fun l b hl _=>(by cases hl),hinj,⟨hb.size,fun b hl _=>hb.block b hl,fun b hX=>by
   rcases hX with⟨l,hl,_⟩ | ⟨q,hq,_⟩
   ·cases hl
   ·cases hq⟩⟩
theorem ql_row {xs:List Fq} {ys:Rho}:∀ {ks:List Nat} {vs:List Fq},AtL xs ks vs→QL (frs xs++ys) (bT ks) (frs vs)
 | [],[],_=>trivial
 | _::_,_::_,h=>⟨dk (iI h.1).1,bG (iI h.1).2.1,bG (iI h.1).2.2,ql_row h.2⟩
 | [],_::_,h=>h.elim
 | _::_,[],h=>h.elim
theorem ql_st {xs:List Fq} {ys:Rho} {n:Nat} {x:St} {ks:List Nat} (hn:(frs xs++ys)[n]? =some (.val (.int .i64 x.tm))) (h:AtL xs ks x.pose.cs):QL (frs xs++ys) (.ref n::bT ks) x.qs:=⟨dk hn,ql_row h⟩
theorem pi {xs:List Fq} {ys:Rho} {n m:Nat} {ks:List Nat} {s:St} (hn:(frs xs++ys)[n]? =some (.val (.int .i64 s.tm))) (ha:AtL xs ks s.pose.cs) (hm:(frs xs++ys)[m]? =some (.row stT 1 s.qs)):(OIns.mk (.bs 183 1 [0]) [.agg (.ref n::bT ks)] (.one (.ref m))).Ok Tryz.prog (frs xs++ys):=by
 obtain⟨a1,a2,a3,a4,a5,a6,a7,rfl,h⟩:∃a1 a2 a3 a4 a5 a6 a7,ks=[a1,a2,a3,a4,a5,a6,a7]∧True:=by
  match ks,ha with
  | [a1,a2,a3,a4,a5,a6,a7],_=>exact⟨_,_,_,_,_,_,_,rfl,trivial⟩
 exact gM (m:=m) (ss:=[.agg (.ref n::bT [a1,a2,a3,a4,a5,a6,a7])]) (N:=1) (sz:=22) (z:=.i .i64 0::List.flatten (List.replicate 7 [.b false,.sl0,.sl0])) (qs:=s.qs) (ix:=[0]) (ls:=.ref n::bT [a1,a2,a3,a4,a5,a6,a7]) Tryz.underlying183 (by kernel_rfl) (by kernel_rfl) (by decide) (by decide) (by decide) rfl (by kernel_rfl) (ql_st hn ha) hm
end
section
variable {xs:List Fq} {ys ρ:Rho} {n m k j:Nat} {l:Leaf} {x:St} {S:List St} {sl:Value} {pin:Bool} {ks:List Nat} {T:TypeId}
theorem iaB (hn:ρ[n]? =some (.rowB pin sl T S.length (aF S))) (hm:ρ[m]? =some (.plc T x.qs)) (hl:KI ρ l .i64 (k:Int)) (hx:S[k]? =some x):(OIns.mk (.ia 183) [.one (.ref n),.one l] (.one (.ref m))).Ok Tryz.prog ρ:=o_iaB Tryz.underlying183 (by kernel_rfl) hn hm hl hx
theorem fa0 (x:St) (n:Nat) (hn:ρ[n]? =some (.plc T x.qs)):(OIns.mk (.fa 120 0) [.one (.ref n)] (.one (.ref n))).Ok Tryz.prog ρ:=o_fa (off:=0) (sz:=0) (by kernel_rfl) hn hn hq0
theorem fa1 (x:St) (n m:Nat) (hn:ρ[n]? =some (.plc T x.qs)) (hm:ρ[m]? =some (.plc T (frs x.pose.cs))):(OIns.mk (.fa 120 1) [.one (.ref n)] (.one (.ref m))).Ok Tryz.prog ρ:=o_fa (off:=1) (sz:=20) (by kernel_rfl) hn hm hq1
theorem ldt (x:St) (n m:Nat) (hn:ρ[n]? =some (.plc T x.qs)) (hm:ρ[m]? =some (.val (.int .i64 x.tm))):(OIns.mk (.ld 3) [.one (.ref n)] (.one (.ref m))).Ok Tryz.prog ρ:=o_ldP (by kernel_rfl) hn (lq hm)
theorem ldp (x:St) (n:Nat) (ks:List Nat) (hn:(frs xs++ys)[n]? =some (.plc T (frs x.pose.cs))) (ha:AtL xs ks x.pose.cs):(OIns.mk (.ld 39) [.one (.ref n)] (.agg (bT ks))).Ok Tryz.prog (frs xs++ys):=by
 obtain⟨a1,a2,a3,a4,a5,a6,a7,rfl⟩:∃a1 a2 a3 a4 a5 a6 a7,ks=[a1,a2,a3,a4,a5,a6,a7]:=by
  match ks,ha with
  | [a1,a2,a3,a4,a5,a6,a7],_=>exact⟨_,_,_,_,_,_,_,rfl⟩
 exact fe (by kernel_rfl) (by kernel_rfl) hn (wO ha)
theorem ldst (x:St) (n m:Nat) (ks:List Nat) (hn:(frs xs++ys)[n]? =some (.plc T x.qs)) (hm:(frs xs++ys)[m]? =some (.val (.int .i64 x.tm))) (ha:AtL xs ks x.pose.cs):(OIns.mk (.ld 120) [.one (.ref n)] (.agg (.ref m::bT ks))).Ok Tryz.prog (frs xs++ys):=by
 obtain⟨a1,a2,a3,a4,a5,a6,a7,rfl⟩:∃a1 a2 a3 a4 a5 a6 a7,ks=[a1,a2,a3,a4,a5,a6,a7]:=by
  match ks,ha with
  | [a1,a2,a3,a4,a5,a6,a7],_=>exact⟨_,_,_,_,_,_,_,rfl⟩
 exact fe (by kernel_rfl) (by kernel_rfl) hn (lq_st hm ha)
theorem ft (n m:Nat) (hn:ρ[n]? =some (.rowB pin sl T S.length (aF S))) (hm:ρ[m]? =some (.val (.int .i64 (S.length:Int)))):(OIns.mk (.len 183) [.one (.ref n)] (.one (.ref m))).Ok Tryz.prog ρ:=o_lenB ⟨_,Tryz.underlying183⟩ hn (fun _ _=>aB hm aH)
end
def xclFX (a:Fq):List Fq:=[a]
theorem q_clF (va:Value) (a:Fq) (w:World) (ia:IsQ w va a) (ha:a.ok 1000000000):
  Calls Tryz.prog 214 #[va] w fun e w'=>jx w a e w':=by
 refine(cRn (ρ:=frs (xclFX a)++([]:List Vp)) (args:=[fr 0]) (vs:=[va]) (r:=.v (fr 0))
  (ae (lJ (n:=1) (m:=1) rfl rfl (Nat.le_trans ha.p (by decide))) (ae (lJ (n:=2) (m:=2) rfl rfl (Nat.le_trans ha.q (by decide))) ah))
  ai Tryz.func214 (by kernel_rfl) ⟨(aI (xs:=xclFX a) (k:=0) rfl).2 ia,trivial⟩).mono ?_
 rintro e w' ⟨v,rfl,h1,h2⟩;exact⟨v,rfl,(aI (xs:=xclFX a) (k:=0) rfl).1 h1,h2⟩
theorem pj {xs:List Fq} {ys:Rho} {ia:Nat} {a:Fq} {ir:Nat} (aa:xs[ia]? =some a) (ar:xs[ir]? =some a) (ha:a.ok 1000000000):OkI xs ys ⟨214,[fr ia],.v (fr ir)⟩:=
 ⟨az Tryz.func214 rfl rfl,fun B w vs hB h=>by
  match vs,h with
  | [va],h=>
   refine(q_clF va a w ((aI aa).1 h.1) ha).mono ?_;rintro e w' ⟨v,rfl,h1,h2⟩;exact⟨v,rfl,(aI ar).2 h1,h2⟩⟩
def xclSX (s:St):List Fq:=s.pose.cs
theorem q_clS (v:Value) (s:St) (w:World) (i:gA w v s) (hs:s.pose.ok 1000000000):
  Calls Tryz.prog 165 #[v] w fun e w'=>∃v,e= .returned v∧gA w' v s∧Below w.heap.size w w':=by
 refine(cRn (ρ:=frs (xclSX s)++([.val (.int .i64 s.tm)]:List Vp)) (args:=[.agg (.ref 21::bT [0,1,2,3,4,5,6])]) (vs:=[v]) (r:=.v (.agg (.ref 21::bT [0,1,2,3,4,5,6])))
  (ae (pj (ia:=0) (ir:=0) rfl rfl (hs.rot.w.mono (by decide))) (ae (pj (ia:=1) (ir:=1) rfl rfl (hs.rot.x.mono (by decide))) (ae (pj (ia:=2) (ir:=2) rfl rfl (hs.rot.y.mono (by decide))) (ae (pj (ia:=3) (ir:=3) rfl rfl (hs.rot.z.mono (by decide))) (ae (pj (ia:=4) (ir:=4) rfl rfl (hs.pos.x.mono (by decide))) (ae (pj (ia:=5) (ir:=5) rfl rfl (hs.pos.y.mono (by decide))) (ae (pj (ia:=6) (ir:=6) rfl rfl (hs.pos.z.mono (by decide))) ah)))))))
  ai Tryz.func165 (by kernel_rfl) ⟨(cE (xs:=xclSX s) (n:=21) (ks:=[0,1,2,3,4,5,6]) (s:=s) rfl ⟨rfl,rfl,rfl,rfl,rfl,rfl,rfl,trivial⟩).2 i,trivial⟩).mono ?_
 rintro e w' ⟨v,rfl,h1,h2⟩;exact⟨v,rfl,(cE (xs:=xclSX s) (n:=21) (ks:=[0,1,2,3,4,5,6]) (s:=s) rfl ⟨rfl,rfl,rfl,rfl,rfl,rfl,rfl,trivial⟩).1 h1,h2⟩
theorem nh {xs:List Fq} {ys:Rho} {n:Nat} {ks:List Nat} {s:St} (hn:(frs xs++ys)[n]? =some (.val (.int .i64 s.tm))) (ha:AtL xs ks s.pose.cs) (hs:s.pose.ok 1000000000):OkI xs ys ⟨165,[.agg (.ref n::bT ks)],.v (.agg (.ref n::bT ks))⟩:=
 ⟨az Tryz.func165 rfl rfl,fun B w vs hB h=>by
  match vs,h with
  | [v],h=>
   refine(q_clS v s w ((cE hn ha).1 h.1) hs).mono ?_;rintro e w' ⟨v,rfl,h1,h2⟩;exact⟨v,rfl,(cE hn ha).2 h1,h2⟩⟩
def xop1X (a:Pq) (b:Pq):List Fq:=(a.cs++(b.cs++([(Fq.ratio 1 2)]++(Pq.zero.cs))))
theorem q_op1 (va vb:Value) (a:Pq) (b:Pq) (w:World) (ia:bw w va a) (ib:bw w vb b) (ha:a.ok 100) (hb:b.ok 100) (ga:a.good) (gb:b.good) (hw:(a.rot.inv.mul b.rot).w.p=0):
  Calls Tryz.prog 186 #[va,vb] w fun e w'=>cI w (.bool true) e w':=by
 refine(cRn (ρ:=frs (xop1X a b)++([]:List Vp)) (args:=[row [0,1,2,3,4,5,6],row [7,8,9,10,11,12,13]]) (vs:=[va,vb]) (r:=.v (.one (.b true)))
  (ae (pg (v:=1) (u:=2) (k:=14) (aS (c:=1)) (aS (c:=2)) (by decide) (by decide) (by decide) (by decide) (by decide) rfl) (ae (I_poBtw4 (ka:=[0,1,2,3,4,5,6]) (a:=a) (kb:=[7,8,9,10,11,12,13]) (b:=b) (im:=14) (kr:=[15,16,17,18,19,20,21]) ⟨rfl,rfl,rfl,rfl,rfl,rfl,rfl,trivial⟩ ⟨rfl,rfl,rfl,rfl,rfl,rfl,rfl,trivial⟩ rfl ⟨rfl,rfl,rfl,rfl,rfl,rfl,rfl,trivial⟩ (ha.mono (by decide)) (hb.mono (by decide)) ((pf (v:=1) (u:=2) (by decide) (by decide) (by decide) (by decide) (by decide)).mono (by decide)) ga gb (fL (v:=1) (u:=2) (by decide)) hw half_p half_1) ah))
  ai Tryz.func186 (by kernel_rfl) ⟨(ag (xs:=xop1X a b) (ks:=[0,1,2,3,4,5,6]) (vs:=a.cs) ⟨rfl,rfl,rfl,rfl,rfl,rfl,rfl,trivial⟩).2 ia,⟨(ag (xs:=xop1X a b) (ks:=[7,8,9,10,11,12,13]) (vs:=b.cs) ⟨rfl,rfl,rfl,rfl,rfl,rfl,rfl,trivial⟩).2 ib,trivial⟩⟩).mono ?_
 rintro e w' ⟨v,rfl,h1,h2⟩;exact⟨congrArg Ending.returned h1,h2⟩
theorem yu {xs:List Fq} {ys:Rho} {ka:List Nat} {kb:List Nat} {a:Pq} {b:Pq} (aa:AtL xs ka a.cs) (ab:AtL xs kb b.cs) (ha:a.ok 100) (hb:b.ok 100) (ga:a.good) (gb:b.good) (hw:(a.rot.inv.mul b.rot).w.p=0):OkI xs ys ⟨186,[row ka,row kb],.v (.one (.b true))⟩:=
 ⟨az Tryz.func186 rfl rfl,fun B w vs hB h=>by
  match vs,h with
  | [va,vb],h=>
   refine(q_op1 va vb a b w ((ag aa).1 h.1) ((ag ab).1 h.2.1) ha hb ga gb hw).mono ?_;rintro e w' ⟨rfl,h2⟩;exact⟨_,rfl,rfl,h2⟩⟩
def xop0X (a:Pq) (b:Pq):List Fq:=(a.cs++(b.cs++([(Fq.ratio 1 2)]++((Pq.mk (a.rot.way (a.rot.inv.mul b.rot) (Fq.ratio 1 2)) (a.pos.lerp b.pos (Fq.ratio 1 2))).cs))))
theorem q_op0 (va vb:Value) (a:Pq) (b:Pq) (w:World) (ia:bw w va a) (ib:bw w vb b) (ha:a.ok 100) (hb:b.ok 100) (ga:a.good) (gb:b.good) (hw:(a.rot.inv.mul b.rot).w.p≠0):
  Calls Tryz.prog 186 #[va,vb] w fun e w'=>cI w (.bool false) e w':=by
 refine(cRn (ρ:=frs (xop0X a b)++([]:List Vp)) (args:=[row [0,1,2,3,4,5,6],row [7,8,9,10,11,12,13]]) (vs:=[va,vb]) (r:=.v (.one (.b false)))
  (ae (pg (v:=1) (u:=2) (k:=14) (aS (c:=1)) (aS (c:=2)) (by decide) (by decide) (by decide) (by decide) (by decide) rfl) (ae (uw (ka:=[0,1,2,3,4,5,6]) (a:=a) (kb:=[7,8,9,10,11,12,13]) (b:=b) (im:=14) (kr:=[15,16,17,18,19,20,21]) ⟨rfl,rfl,rfl,rfl,rfl,rfl,rfl,trivial⟩ ⟨rfl,rfl,rfl,rfl,rfl,rfl,rfl,trivial⟩ rfl ⟨rfl,rfl,rfl,rfl,rfl,rfl,rfl,trivial⟩ (ha.mono (by decide)) (hb.mono (by decide)) ((pf (v:=1) (u:=2) (by decide) (by decide) (by decide) (by decide) (by decide)).mono (by decide)) ga gb (fL (v:=1) (u:=2) (by decide)) hw) ah))
  ai Tryz.func186 (by kernel_rfl) ⟨(ag (xs:=xop0X a b) (ks:=[0,1,2,3,4,5,6]) (vs:=a.cs) ⟨rfl,rfl,rfl,rfl,rfl,rfl,rfl,trivial⟩).2 ia,⟨(ag (xs:=xop0X a b) (ks:=[7,8,9,10,11,12,13]) (vs:=b.cs) ⟨rfl,rfl,rfl,rfl,rfl,rfl,rfl,trivial⟩).2 ib,trivial⟩⟩).mono ?_
 rintro e w' ⟨v,rfl,h1,h2⟩;exact⟨congrArg Ending.returned h1,h2⟩
theorem lK {xs:List Fq} {ys:Rho} {ka:List Nat} {kb:List Nat} {a:Pq} {b:Pq} (aa:AtL xs ka a.cs) (ab:AtL xs kb b.cs) (ha:a.ok 100) (hb:b.ok 100) (ga:a.good) (gb:b.good) (hw:(a.rot.inv.mul b.rot).w.p≠0):OkI xs ys ⟨186,[row ka,row kb],.v (.one (.b false))⟩:=
 ⟨az Tryz.func186 rfl rfl,fun B w vs hB h=>by
  match vs,h with
  | [va,vb],h=>
   refine(q_op0 va vb a b w ((ag aa).1 h.1) ((ag ab).1 h.2.1) ha hb ga gb hw).mono ?_;rintro e w' ⟨rfl,h2⟩;exact⟨_,rfl,rfl,h2⟩⟩
def j7:MS:=qu 28 [(0,.v (.one (.ptr 0 0))),(1,.v (.one (.ref 1))),(5,.v (.one (.i .i64 0)))] [(223,[some (.ref 0)])]
def gQ:MS:=qu 28 [(0,.v (.one (.ptr 0 0))),(1,.v (.one (.ref 1))),(5,.v (.one (.ref 2)))] [(223,[some (.ref 0)])]
def fu (S:List St) (a:Int):List Fq:=[]
theorem q_placeE {w:World} {g:Nat} {sl:Value} (S:List St) (a:Int) (h:TrkS 223 w g sl S) (hS:S.length≤1000) (hp:plN S a=S.length):
  Calls Tryz.prog 185 (.pointer (some ⟨g,0,none⟩)::[.int .i64 a]).toArray w fun e w'=>e= .returned (.int .i64 ((plN S a:Nat):Int))∧Below w.heap.size w w':=by
 have hL0:LOb.Ok Tryz.prog (frs (fu S a)++(([.rowB true sl stT S.length (aF S),.val (.int .i64 a)]:List Vp)++(([.val (.int .i64 ((plN S a:Nat):Int))]:List Vp)))) (jB w g) 28 ⟨iE Tryz.f185 0,j7,.ext 0,gQ⟩:=by
  refine fK (plN S a) (fun k=>frs (fu S a)++(([.rowB true sl stT S.length (aF S),.val (.int .i64 a)]:List Vp)++(([.val (.int .i64 ((k:Nat):Int))]:List Vp)))) (fun _=>gQ) ?_ ?_ ?_ (by decide) (Nat.le_add_left 1 _)
  ·intro a_ w_ h_;exact MSt.conv (N:=2) (σ:=[(2,.i .i64 0)]) (cmP (by kernel_rfl)) (cg (sgi (n:=2) (u:=0) (v:=((0:Nat):Int)) rfl (aS (c:=0)) (by omega)) cZ) (by kernel_rfl) h_ (Nat.le_add_left 1 _)
  ·intro k hk;obtain⟨x,hx,hlt⟩:=fq hk;have hle:=bH S a;refine ew (N:=3) (ρx:=frs (fu S a)++(([.rowB true sl stT S.length (aF S),.val (.int .i64 a)]:List Vp)++(([.val (.int .i64 ((k:Nat):Int))]:List Vp)++(([.val (.int .i64 (S.length:Int)),.plc stT x.qs,.val (.int .i64 x.tm),.val (.int .i64 (((k:Nat):Int)+1))]:List Vp))))) (cmX (by kernel_rfl)) (by kernel_rfl) (Nat.le_add_left 1 _) ?_;exact dB (N:=2) (σ:=[(2,.ref 6)]) (lo:=[]) (n:=300) (ah)
    (af (ft 0 3 rfl rfl) (af (aE (t:=3) (aw (n:=2) rfl) (aw (n:=3) rfl) (bp (by omega))) (af (iaB (n:=0) (m:=4) rfl rfl (cm (aw (n:=2) rfl) (by omega)) hx) (af (fa0 x 4 rfl) (af (ldt x 4 5 rfl rfl) (af (aE (t:=3) (aw (n:=5) rfl) (aw (n:=1) rfl) (bp (by omega))) (af (sK (m:=6) (t:=3) (aw (n:=2) rfl) (aS (c:=1)) rfl rfl (by omega) (by omega)) (ai))))))))
    (by kernel_rfl) (obs:=[]) (by kernel_rfl) aT (cmP (by kernel_rfl)) (cg (sgi (n:=2) (u:=(((k:Nat):Int)+1)) (v:=((k+1:Nat):Int)) rfl (aw (n:=6) rfl) (by omega)) cZ) (Nat.le_add_left 1 _)
  ·refine ew (N:=3) (ρx:=frs (fu S a)++(([.rowB true sl stT S.length (aF S),.val (.int .i64 a)]:List Vp)++(([.val (.int .i64 ((plN S a:Nat):Int))]:List Vp)++(([.val (.int .i64 (S.length:Int))]:List Vp))))) (cmX (by kernel_rfl)) (by kernel_rfl) (Nat.le_add_left 1 _) ?_;exact dB (N:=2) (σ:=[(2,.ref 2)]) (lo:=[]) (n:=300) (ah)
    (af (ft 0 3 rfl rfl) (af (aE (t:=3) (aw (n:=2) rfl) (aw (n:=3) rfl) (aW (by omega))) (ai)))
    (by kernel_rfl) (obs:=[]) (by kernel_rfl) aT (cmP (by kernel_rfl)) (cg (sgi (n:=2) (u:=((plN S a:Nat):Int)) (v:=((plN S a:Nat):Int)) rfl (aw (n:=2) rfl) (by omega)) cZ) (Nat.le_add_left 1 _)
 refine(aP (ρ:=frs (fu S a)++(([.rowB true sl stT S.length (aF S),.val (.int .i64 a)]:List Vp)++(([.val (.int .i64 ((plN S a:Nat):Int))]:List Vp)))) (w:=w) (fuel:=300) (m:=0) (S':=S) (args:=[.one (.ptr 0 0),.one (.ref 1)]) (vs:=[.pointer (some ⟨g,0,none⟩),.int .i64 a]) (r:=.v (.one (.ref 2))) (l:=.ref 0) (lo:=[some (j7,.ext 0,gQ)]) (obs:=[⟨iE Tryz.f185 0,j7,.ext 0,gQ⟩]) h
  (ah)
  ai Tryz.func185 rfl (by kernel_rfl) (nL hL0 aT) ⟨dy,⟨aB (n:=1) rfl aH,trivial⟩⟩ (eL rfl)).mono ?_
 rintro e w' ⟨v,B',rfl,h1,h2,h3⟩;have e1:v= .int .i64 ((plN S a:Nat):Int):=aO rfl h1;subst e1;exact⟨rfl,h3 rfl⟩
def j8:MS:=qu 28 [(0,.v (.one (.ptr 0 0))),(1,.v (.one (.ref 1))),(5,.v (.one (.i .i64 0)))] [(223,[some (.ref 0)])]
def gR:MS:=qu 28 [(0,.v (.one (.ptr 0 0))),(1,.v (.one (.ref 1))),(5,.v (.one (.ref 2)))] [(223,[some (.ref 0)])]
def fv (S:List St) (a:Int):List Fq:=[]
theorem q_placeM {w:World} {g:Nat} {sl:Value} (S:List St) (a:Int) (h:TrkS 223 w g sl S) (hS:S.length≤1000) {x:St} (hx:S[plN S a]? =some x) (hlt:¬x.tm<a) (hp:plN S a<S.length):
  Calls Tryz.prog 185 (.pointer (some ⟨g,0,none⟩)::[.int .i64 a]).toArray w fun e w'=>e= .returned (.int .i64 ((plN S a:Nat):Int))∧Below w.heap.size w w':=by
 have hL0:LOb.Ok Tryz.prog (frs (fv S a)++(([.rowB true sl stT S.length (aF S),.val (.int .i64 a)]:List Vp)++(([.val (.int .i64 ((plN S a:Nat):Int))]:List Vp)))) (jB w g) 28 ⟨iE Tryz.f185 0,j8,.ext 0,gR⟩:=by
  refine fK (plN S a) (fun k=>frs (fv S a)++(([.rowB true sl stT S.length (aF S),.val (.int .i64 a)]:List Vp)++(([.val (.int .i64 ((k:Nat):Int))]:List Vp)))) (fun _=>gR) ?_ ?_ ?_ (by decide) (Nat.le_add_left 1 _)
  ·intro a_ w_ h_;exact MSt.conv (N:=2) (σ:=[(2,.i .i64 0)]) (cmP (by kernel_rfl)) (cg (sgi (n:=2) (u:=0) (v:=((0:Nat):Int)) rfl (aS (c:=0)) (by omega)) cZ) (by kernel_rfl) h_ (Nat.le_add_left 1 _)
  ·intro k hk;obtain⟨x,hx,hlt⟩:=fq hk;have hle:=bH S a;refine ew (N:=3) (ρx:=frs (fv S a)++(([.rowB true sl stT S.length (aF S),.val (.int .i64 a)]:List Vp)++(([.val (.int .i64 ((k:Nat):Int))]:List Vp)++(([.val (.int .i64 (S.length:Int)),.plc stT x.qs,.val (.int .i64 x.tm),.val (.int .i64 (((k:Nat):Int)+1))]:List Vp))))) (cmX (by kernel_rfl)) (by kernel_rfl) (Nat.le_add_left 1 _) ?_;exact dB (N:=2) (σ:=[(2,.ref 6)]) (lo:=[]) (n:=300) (ah)
    (af (ft 0 3 rfl rfl) (af (aE (t:=3) (aw (n:=2) rfl) (aw (n:=3) rfl) (bp (by omega))) (af (iaB (n:=0) (m:=4) rfl rfl (cm (aw (n:=2) rfl) (by omega)) hx) (af (fa0 x 4 rfl) (af (ldt x 4 5 rfl rfl) (af (aE (t:=3) (aw (n:=5) rfl) (aw (n:=1) rfl) (bp (by omega))) (af (sK (m:=6) (t:=3) (aw (n:=2) rfl) (aS (c:=1)) rfl rfl (by omega) (by omega)) (ai))))))))
    (by kernel_rfl) (obs:=[]) (by kernel_rfl) aT (cmP (by kernel_rfl)) (cg (sgi (n:=2) (u:=(((k:Nat):Int)+1)) (v:=((k+1:Nat):Int)) rfl (aw (n:=6) rfl) (by omega)) cZ) (Nat.le_add_left 1 _)
  ·refine ew (N:=3) (ρx:=frs (fv S a)++(([.rowB true sl stT S.length (aF S),.val (.int .i64 a)]:List Vp)++(([.val (.int .i64 ((plN S a:Nat):Int))]:List Vp)++(([.val (.int .i64 (S.length:Int)),.plc stT x.qs,.val (.int .i64 x.tm)]:List Vp))))) (cmX (by kernel_rfl)) (by kernel_rfl) (Nat.le_add_left 1 _) ?_;exact dB (N:=2) (σ:=[(2,.ref 2)]) (lo:=[]) (n:=300) (ah)
    (af (ft 0 3 rfl rfl) (af (aE (t:=3) (aw (n:=2) rfl) (aw (n:=3) rfl) (bp (by omega))) (af (iaB (n:=0) (m:=4) rfl rfl (cm (aw (n:=2) rfl) (by omega)) hx) (af (fa0 x 4 rfl) (af (ldt x 4 5 rfl rfl) (af (aE (t:=3) (aw (n:=5) rfl) (aw (n:=1) rfl) (aW (by omega))) (ai)))))))
    (by kernel_rfl) (obs:=[]) (by kernel_rfl) aT (cmP (by kernel_rfl)) (cg (sgi (n:=2) (u:=((plN S a:Nat):Int)) (v:=((plN S a:Nat):Int)) rfl (aw (n:=2) rfl) (by omega)) cZ) (Nat.le_add_left 1 _)
 refine(aP (ρ:=frs (fv S a)++(([.rowB true sl stT S.length (aF S),.val (.int .i64 a)]:List Vp)++(([.val (.int .i64 ((plN S a:Nat):Int))]:List Vp)))) (w:=w) (fuel:=300) (m:=0) (S':=S) (args:=[.one (.ptr 0 0),.one (.ref 1)]) (vs:=[.pointer (some ⟨g,0,none⟩),.int .i64 a]) (r:=.v (.one (.ref 2))) (l:=.ref 0) (lo:=[some (j8,.ext 0,gR)]) (obs:=[⟨iE Tryz.f185 0,j8,.ext 0,gR⟩]) h
  (ah)
  ai Tryz.func185 rfl (by kernel_rfl) (nL hL0 aT) ⟨dy,⟨aB (n:=1) rfl aH,trivial⟩⟩ (eL rfl)).mono ?_
 rintro e w' ⟨v,B',rfl,h1,h2,h3⟩;have e1:v= .int .i64 ((plN S a:Nat):Int):=aO rfl h1;subst e1;exact⟨rfl,h3 rfl⟩
def zst:St:=⟨0,Pq.zero⟩
def j9 (s y z:St):List Fq:=[s.pose.rot.w,s.pose.rot.x,s.pose.rot.y,s.pose.rot.z,s.pose.pos.x,s.pose.pos.y,s.pose.pos.z,y.pose.rot.w,y.pose.rot.x,y.pose.rot.y,y.pose.rot.z,y.pose.pos.x,y.pose.pos.y,y.pose.pos.z,z.pose.rot.w,z.pose.rot.x,z.pose.rot.y,z.pose.rot.z,z.pose.pos.x,z.pose.pos.y,z.pose.pos.z]
def aN (S:List St) (i:Nat) (s:St):List St:=S.take i++s::S.drop i
theorem bI {S:List St} {i:Nat} {s:St} (h:i≤S.length):(aN S i s).length=S.length+1:=by
 simp only[aN,List.length_append,List.length_take,List.length_cons,List.length_drop];omega
theorem q_place (S:List St) (a:Int) {w:World} {g:Nat} {sl:Value} (h:TrkS 223 w g sl S) (hS:S.length≤1000):
  Calls Tryz.prog 185 (.pointer (some ⟨g,0,none⟩)::[.int .i64 a]).toArray w fun e w'=>e= .returned (.int .i64 ((plN S a:Nat):Int))∧Below w.heap.size w w':=by
 by_cases hp:plN S a<S.length
 ·obtain⟨x,hx,hlt⟩:=wL hp;exact q_placeM S a h hS hx hlt hp
 ·exact q_placeE S a h hS (by have:=bH S a;omega)
section
variable {ρ:Rho} {n m k r j u i:Nat} {a:Int} {S S':List St} {l la il:Leaf} {sl0:Value} {pin:Bool} {s:St} {xn:Nat}
theorem de {r:SV} (hm:ρ[m]? =some (.rowB pin sl0 stT S.length (aF S))) (ha:KI ρ la .i64 a) (hn:ρ[n]? =some (.val (.int .i64 ((plN S a:Nat):Int)))) (hS:S.length≤1000):(OIns.mk (.mut 185 ⟨[],[(u,223,[.ref m])],[],none,[],[.one (.ref n)]⟩) [.one (.ptr u 0),.one la] r).Ok Tryz.prog ρ:=
 zX (args:=[.one la]) (az Tryz.func185 rfl rfl) hm (fun B w g sl vs _ ht hv=>by
  match vs,hv with
  | [v],hv=>
   have e:=ha _ _ _ hv.1;subst e;refine(q_place S a ht hS).mono ?_;rintro e w' ⟨rfl,h2⟩;exact⟨_,rfl,fun B' _=>aB hn aH,h2⟩)
theorem dz {r:SV} (hn:ρ[n]? =some (.ownr stT 22 S.length (aF S))) (hx:ρ[xn]? =some (.row stT 1 s.qs)) (hi:KI ρ il .i64 (i:Int)) (hm:ρ[m]? =some (.ownr stT 22 (aN S i s).length (aF (aN S i s)))) (hle:i≤S.length) (hS:S.length≤1000000):
  (OIns.mk (.mut 187 ⟨[k],[],[],none,[],[.one (.own k m)]⟩) [.one (.own k n),.one il,.one (.ref xn)] r).Ok Tryz.prog ρ:=
 zV hn hx hi (by rw[hm,bI hle];rfl) hle hS
end
theorem q_addLo {w:World} {g:Nat} {sl:Value} (S:List St) (s:St) (v:Value) (h:TrkS 223 w g sl S) (i:gA w v s) (hs:s.pose.ok 2) (gs:s.pose.good) (hS:S.length≤64) (r0:s.tm<0):
  Calls Tryz.prog 127 (.pointer (some ⟨g,0,none⟩)::[v]).toArray w fun e w'=>e= .returned (.int .i64 4)∧TrkM 223 w g sl S w':=by
 have hle:=bH S s.tm;have hin:=bI (s:=s) hle;have hdr:((aN S (plN S s.tm) s).drop 1).length=(aN S (plN S s.tm) s).length - 1:=List.length_drop ..;have ht1:(S.take (plN S s.tm)).length=plN S s.tm:=by rw[List.length_take];omega
 have ht2:(S.take (plN S s.tm)++ [s]).length=plN S s.tm+1:=by rw[List.length_append,ht1];rfl
 refine(aP (ρ:=frs (j9 s zst zst)++([.rowB true sl stT S.length (aF S),.val (.int .i64 s.tm)]:List Vp)) (w:=w) (fuel:=300) (m:=63) (S':=S) (args:=[.one (.ptr 0 0),.agg (.ref 64::bT [0,1,2,3,4,5,6])]) (vs:=[.pointer (some ⟨g,0,none⟩),v]) (r:=.v (.one (.i .i64 4))) (l:=.ref 63) (lo:=[]) (obs:=[]) h
  (ah)
  (af (bR (y:=0) (o:=0) (t:=154) ⟨_,Tryz.underlying154⟩) (af (aE (t:=3) (aw (n:=64) rfl) (aS (c:=0)) (bp (by omega))) (ai))) Tryz.func127 rfl (by kernel_rfl) aT ⟨dy,⟨(cE (n:=64) (ks:=[0,1,2,3,4,5,6]) (s:=s) rfl ⟨rfl,rfl,rfl,rfl,rfl,rfl,rfl,trivial⟩).2 i,trivial⟩⟩ (eL rfl)).mono ?_
 rintro e w' ⟨v,B',rfl,h1,h2,h3⟩;have e1:v= .int .i64 4:=h1;subst e1;exact⟨rfl,h2⟩
theorem q_addHi {w:World} {g:Nat} {sl:Value} (S:List St) (s:St) (v:Value) (h:TrkS 223 w g sl S) (i:gA w v s) (hs:s.pose.ok 2) (gs:s.pose.good) (hS:S.length≤64) (r0:1099511627776<s.tm):
  Calls Tryz.prog 127 (.pointer (some ⟨g,0,none⟩)::[v]).toArray w fun e w'=>e= .returned (.int .i64 4)∧TrkM 223 w g sl S w':=by
 have hle:=bH S s.tm;have hin:=bI (s:=s) hle;have hdr:((aN S (plN S s.tm) s).drop 1).length=(aN S (plN S s.tm) s).length - 1:=List.length_drop ..;have ht1:(S.take (plN S s.tm)).length=plN S s.tm:=by rw[List.length_take];omega
 have ht2:(S.take (plN S s.tm)++ [s]).length=plN S s.tm+1:=by rw[List.length_append,ht1];rfl
 refine(aP (ρ:=frs (j9 s zst zst)++([.rowB true sl stT S.length (aF S),.val (.int .i64 s.tm)]:List Vp)) (w:=w) (fuel:=300) (m:=63) (S':=S) (args:=[.one (.ptr 0 0),.agg (.ref 64::bT [0,1,2,3,4,5,6])]) (vs:=[.pointer (some ⟨g,0,none⟩),v]) (r:=.v (.one (.i .i64 4))) (l:=.ref 63) (lo:=[]) (obs:=[]) h
  (ah)
  (af (bR (y:=0) (o:=0) (t:=154) ⟨_,Tryz.underlying154⟩) (af (aE (t:=3) (aw (n:=64) rfl) (aS (c:=0)) (aW (by omega))) (af (aE (t:=3) (aw (n:=64) rfl) (aS (c:=1099511627776)) (cj (by omega))) (ai)))) Tryz.func127 rfl (by kernel_rfl) aT ⟨dy,⟨(cE (n:=64) (ks:=[0,1,2,3,4,5,6]) (s:=s) rfl ⟨rfl,rfl,rfl,rfl,rfl,rfl,rfl,trivial⟩).2 i,trivial⟩⟩ (eL rfl)).mono ?_
 rintro e w' ⟨v,B',rfl,h1,h2,h3⟩;have e1:v= .int .i64 4:=h1;subst e1;exact⟨rfl,h2⟩
theorem zY {w:World} {g:Nat} {sl:Value} (S:List St) (s:St) (v:Value) (h:TrkS 223 w g sl S) (i:gA w v s) (hs:s.pose.ok 2) (gs:s.pose.good) (hS:S.length≤64) (r0:0≤s.tm) (r1:s.tm≤1099511627776) (hq:plN S s.tm<S.length) (y:St) (hy:S[plN S s.tm]? =some y) (ky:y.pose.ok 2) (gy:y.pose.good) (ey:y.tm=s.tm) (ep:y.pose=s.pose):
  Calls Tryz.prog 127 (.pointer (some ⟨g,0,none⟩)::[v]).toArray w fun e w'=>e= .returned (.int .i64 0)∧TrkM 223 w g sl S w':=by
 have hle:=bH S s.tm;have hin:=bI (s:=s) hle;have hdr:((aN S (plN S s.tm) s).drop 1).length=(aN S (plN S s.tm) s).length - 1:=List.length_drop ..;have ht1:(S.take (plN S s.tm)).length=plN S s.tm:=by rw[List.length_take];omega
 have ht2:(S.take (plN S s.tm)++ [s]).length=plN S s.tm+1:=by rw[List.length_append,ht1];rfl
 refine(aP (ρ:=frs (j9 s y zst)++([.rowB true sl stT S.length (aF S),.val (.int .i64 s.tm),.val (.int .i64 ((plN S s.tm:Nat):Int)),.val (.int .i64 (S.length:Int)),.plc stT y.qs,.val (.int .i64 y.tm),.plc stT (frs y.pose.cs)]:List Vp)) (w:=w) (fuel:=300) (m:=63) (S':=S) (args:=[.one (.ptr 0 0),.agg (.ref 64::bT [0,1,2,3,4,5,6])]) (vs:=[.pointer (some ⟨g,0,none⟩),v]) (r:=.v (.one (.i .i64 0))) (l:=.ref 63) (lo:=[]) (obs:=[]) h
  (ae (bV (ka:=[0,1,2,3,4,5,6]) (a:=s.pose) ⟨rfl,rfl,rfl,rfl,rfl,rfl,rfl,trivial⟩ (hs.mono (by decide)) gs) (ae (wG (ka:=[7,8,9,10,11,12,13]) (a:=y.pose) (kb:=[0,1,2,3,4,5,6]) (b:=s.pose) ⟨rfl,rfl,rfl,rfl,rfl,rfl,rfl,trivial⟩ ⟨rfl,rfl,rfl,rfl,rfl,rfl,rfl,trivial⟩ (ky.mono (by decide)) (hs.mono (by decide)) ep gy gs) ah))
  (af (bR (y:=0) (o:=0) (t:=154) ⟨_,Tryz.underlying154⟩) (af (aE (t:=3) (aw (n:=64) rfl) (aS (c:=0)) (aW (by omega))) (af (aE (t:=3) (aw (n:=64) rfl) (aS (c:=1099511627776)) (aV (by omega))) (af (de (u:=0) (m:=63) (S:=S) (a:=s.tm) (n:=65) (r:=.one .sl0) rfl (aw (n:=64) rfl) rfl (by omega)) (af (ft 63 66 rfl rfl) (af (aE (t:=3) (aw (n:=65) rfl) (aw (n:=66) rfl) (bp (by omega))) (af (iaB (n:=63) (m:=67) rfl rfl (cm (aw (n:=65) rfl) (by omega)) hy) (af (fa0 y 67 rfl) (af (ldt y 67 68 rfl rfl) (af (aE (t:=3) (aw (n:=68) rfl) (aw (n:=64) rfl) (iP (by omega))) (af (fa1 y 67 69 rfl rfl) (af (ldp y 69 [7,8,9,10,11,12,13] rfl ⟨rfl,rfl,rfl,rfl,rfl,rfl,rfl,trivial⟩) (ai))))))))))))) Tryz.func127 rfl (by kernel_rfl) aT ⟨dy,⟨(cE (n:=64) (ks:=[0,1,2,3,4,5,6]) (s:=s) rfl ⟨rfl,rfl,rfl,rfl,rfl,rfl,rfl,trivial⟩).2 i,trivial⟩⟩ (eL rfl)).mono ?_
 rintro e w' ⟨v,B',rfl,h1,h2,h3⟩;have e1:v= .int .i64 0:=h1;subst e1;exact⟨rfl,h2⟩
theorem q_addBad {w:World} {g:Nat} {sl:Value} (S:List St) (s:St) (v:Value) (h:TrkS 223 w g sl S) (i:gA w v s) (hs:s.pose.ok 2) (gs:s.pose.good) (hS:S.length≤64) (r0:0≤s.tm) (r1:s.tm≤1099511627776) (hq:plN S s.tm<S.length) (y:St) (hy:S[plN S s.tm]? =some y) (ky:y.pose.ok 2) (gy:y.pose.good) (ey:y.tm=s.tm) (ep:y.pose≠s.pose):
  Calls Tryz.prog 127 (.pointer (some ⟨g,0,none⟩)::[v]).toArray w fun e w'=>e= .returned (.int .i64 7)∧TrkM 223 w g sl S w':=by
 have hle:=bH S s.tm;have hin:=bI (s:=s) hle;have hdr:((aN S (plN S s.tm) s).drop 1).length=(aN S (plN S s.tm) s).length - 1:=List.length_drop ..;have ht1:(S.take (plN S s.tm)).length=plN S s.tm:=by rw[List.length_take];omega
 have ht2:(S.take (plN S s.tm)++ [s]).length=plN S s.tm+1:=by rw[List.length_append,ht1];rfl
 refine(aP (ρ:=frs (j9 s y zst)++([.rowB true sl stT S.length (aF S),.val (.int .i64 s.tm),.val (.int .i64 ((plN S s.tm:Nat):Int)),.val (.int .i64 (S.length:Int)),.plc stT y.qs,.val (.int .i64 y.tm),.plc stT (frs y.pose.cs)]:List Vp)) (w:=w) (fuel:=300) (m:=63) (S':=S) (args:=[.one (.ptr 0 0),.agg (.ref 64::bT [0,1,2,3,4,5,6])]) (vs:=[.pointer (some ⟨g,0,none⟩),v]) (r:=.v (.one (.i .i64 7))) (l:=.ref 63) (lo:=[]) (obs:=[]) h
  (ae (bV (ka:=[0,1,2,3,4,5,6]) (a:=s.pose) ⟨rfl,rfl,rfl,rfl,rfl,rfl,rfl,trivial⟩ (hs.mono (by decide)) gs) (ae (wI (ka:=[7,8,9,10,11,12,13]) (a:=y.pose) (kb:=[0,1,2,3,4,5,6]) (b:=s.pose) ⟨rfl,rfl,rfl,rfl,rfl,rfl,rfl,trivial⟩ ⟨rfl,rfl,rfl,rfl,rfl,rfl,rfl,trivial⟩ (ky.mono (by decide)) (hs.mono (by decide)) ep gy gs) ah))
  (af (bR (y:=0) (o:=0) (t:=154) ⟨_,Tryz.underlying154⟩) (af (aE (t:=3) (aw (n:=64) rfl) (aS (c:=0)) (aW (by omega))) (af (aE (t:=3) (aw (n:=64) rfl) (aS (c:=1099511627776)) (aV (by omega))) (af (de (u:=0) (m:=63) (S:=S) (a:=s.tm) (n:=65) (r:=.one .sl0) rfl (aw (n:=64) rfl) rfl (by omega)) (af (ft 63 66 rfl rfl) (af (aE (t:=3) (aw (n:=65) rfl) (aw (n:=66) rfl) (bp (by omega))) (af (iaB (n:=63) (m:=67) rfl rfl (cm (aw (n:=65) rfl) (by omega)) hy) (af (fa0 y 67 rfl) (af (ldt y 67 68 rfl rfl) (af (aE (t:=3) (aw (n:=68) rfl) (aw (n:=64) rfl) (iP (by omega))) (af (fa1 y 67 69 rfl rfl) (af (ldp y 69 [7,8,9,10,11,12,13] rfl ⟨rfl,rfl,rfl,rfl,rfl,rfl,rfl,trivial⟩) (ai))))))))))))) Tryz.func127 rfl (by kernel_rfl) aT ⟨dy,⟨(cE (n:=64) (ks:=[0,1,2,3,4,5,6]) (s:=s) rfl ⟨rfl,rfl,rfl,rfl,rfl,rfl,rfl,trivial⟩).2 i,trivial⟩⟩ (eL rfl)).mono ?_
 rintro e w' ⟨v,B',rfl,h1,h2,h3⟩;have e1:v= .int .i64 7:=h1;subst e1;exact⟨rfl,h2⟩
theorem q_addB0 {w:World} {g:Nat} {sl:Value} (S:List St) (s:St) (v:Value) (h:TrkS 223 w g sl S) (i:gA w v s) (hs:s.pose.ok 2) (gs:s.pose.good) (hS:S.length≤64) (r0:0≤s.tm) (r1:s.tm≤1099511627776) (hq:plN S s.tm<S.length) (hp:plN S s.tm=0) (y:St) (hy:S[plN S s.tm]? =some y) (ky:y.pose.ok 2) (gy:y.pose.good) (ey:y.tm≠s.tm) (ho:¬y.tm<s.tm) (oy:opp s.pose y.pose):
  Calls Tryz.prog 127 (.pointer (some ⟨g,0,none⟩)::[v]).toArray w fun e w'=>e= .returned (.int .i64 21)∧TrkM 223 w g sl S w':=by
 have hle:=bH S s.tm;have hin:=bI (s:=s) hle;have hdr:((aN S (plN S s.tm) s).drop 1).length=(aN S (plN S s.tm) s).length - 1:=List.length_drop ..;have ht1:(S.take (plN S s.tm)).length=plN S s.tm:=by rw[List.length_take];omega
 have ht2:(S.take (plN S s.tm)++ [s]).length=plN S s.tm+1:=by rw[List.length_append,ht1];rfl
 refine(aP (ρ:=frs (j9 s y zst)++([.rowB true sl stT S.length (aF S),.val (.int .i64 s.tm),.val (.int .i64 ((plN S s.tm:Nat):Int)),.val (.int .i64 (S.length:Int)),.plc stT y.qs,.val (.int .i64 y.tm),.plc stT (frs y.pose.cs)]:List Vp)) (w:=w) (fuel:=300) (m:=63) (S':=S) (args:=[.one (.ptr 0 0),.agg (.ref 64::bT [0,1,2,3,4,5,6])]) (vs:=[.pointer (some ⟨g,0,none⟩),v]) (r:=.v (.one (.i .i64 21))) (l:=.ref 63) (lo:=[]) (obs:=[]) h
  (ae (bV (ka:=[0,1,2,3,4,5,6]) (a:=s.pose) ⟨rfl,rfl,rfl,rfl,rfl,rfl,rfl,trivial⟩ (hs.mono (by decide)) gs) (ae (yu (ka:=[0,1,2,3,4,5,6]) (a:=s.pose) (kb:=[7,8,9,10,11,12,13]) (b:=y.pose) ⟨rfl,rfl,rfl,rfl,rfl,rfl,rfl,trivial⟩ ⟨rfl,rfl,rfl,rfl,rfl,rfl,rfl,trivial⟩ (hs.mono (by decide)) (ky.mono (by decide)) gs gy oy) ah))
  (af (bR (y:=0) (o:=0) (t:=154) ⟨_,Tryz.underlying154⟩) (af (aE (t:=3) (aw (n:=64) rfl) (aS (c:=0)) (aW (by omega))) (af (aE (t:=3) (aw (n:=64) rfl) (aS (c:=1099511627776)) (aV (by omega))) (af (de (u:=0) (m:=63) (S:=S) (a:=s.tm) (n:=65) (r:=.one .sl0) rfl (aw (n:=64) rfl) rfl (by omega)) (af (ft 63 66 rfl rfl) (af (aE (t:=3) (aw (n:=65) rfl) (aw (n:=66) rfl) (bp (by omega))) (af (iaB (n:=63) (m:=67) rfl rfl (cm (aw (n:=65) rfl) (by omega)) hy) (af (fa0 y 67 rfl) (af (ldt y 67 68 rfl rfl) (af (aE (t:=3) (aw (n:=68) rfl) (aw (n:=64) rfl) (bX (by omega))) (af (aE (t:=3) (aw (n:=65) rfl) (aS (c:=0)) (aV (by omega))) (af (fa1 y 67 69 rfl rfl) (af (ldp y 69 [7,8,9,10,11,12,13] rfl ⟨rfl,rfl,rfl,rfl,rfl,rfl,rfl,trivial⟩) (ai)))))))))))))) Tryz.func127 rfl (by kernel_rfl) aT ⟨dy,⟨(cE (n:=64) (ks:=[0,1,2,3,4,5,6]) (s:=s) rfl ⟨rfl,rfl,rfl,rfl,rfl,rfl,rfl,trivial⟩).2 i,trivial⟩⟩ (eL rfl)).mono ?_
 rintro e w' ⟨v,B',rfl,h1,h2,h3⟩;have e1:v= .int .i64 21:=h1;subst e1;exact⟨rfl,h2⟩
theorem q_addBE {w:World} {g:Nat} {sl:Value} (S:List St) (s:St) (v:Value) (h:TrkS 223 w g sl S) (i:gA w v s) (hs:s.pose.ok 2) (gs:s.pose.good) (hS:S.length≤64) (r0:0≤s.tm) (r1:s.tm≤1099511627776) (hq:plN S s.tm=S.length) (z:St) (hz:S[plN S s.tm - 1]? =some z) (kz:z.pose.ok 2) (gz:z.pose.good) (hp:0<plN S s.tm) (oz:opp z.pose s.pose):
  Calls Tryz.prog 127 (.pointer (some ⟨g,0,none⟩)::[v]).toArray w fun e w'=>e= .returned (.int .i64 21)∧TrkM 223 w g sl S w':=by
 have hle:=bH S s.tm;have hin:=bI (s:=s) hle;have hdr:((aN S (plN S s.tm) s).drop 1).length=(aN S (plN S s.tm) s).length - 1:=List.length_drop ..;have ht1:(S.take (plN S s.tm)).length=plN S s.tm:=by rw[List.length_take];omega
 have ht2:(S.take (plN S s.tm)++ [s]).length=plN S s.tm+1:=by rw[List.length_append,ht1];rfl
 refine(aP (ρ:=frs (j9 s zst z)++([.rowB true sl stT S.length (aF S),.val (.int .i64 s.tm),.val (.int .i64 ((plN S s.tm:Nat):Int)),.val (.int .i64 (S.length:Int)),.val (.int .i64 (((plN S s.tm:Nat):Int) - 1)),.plc stT z.qs,.plc stT (frs z.pose.cs)]:List Vp)) (w:=w) (fuel:=300) (m:=63) (S':=S) (args:=[.one (.ptr 0 0),.agg (.ref 64::bT [0,1,2,3,4,5,6])]) (vs:=[.pointer (some ⟨g,0,none⟩),v]) (r:=.v (.one (.i .i64 21))) (l:=.ref 63) (lo:=[]) (obs:=[]) h
  (ae (bV (ka:=[0,1,2,3,4,5,6]) (a:=s.pose) ⟨rfl,rfl,rfl,rfl,rfl,rfl,rfl,trivial⟩ (hs.mono (by decide)) gs) (ae (yu (ka:=[14,15,16,17,18,19,20]) (a:=z.pose) (kb:=[0,1,2,3,4,5,6]) (b:=s.pose) ⟨rfl,rfl,rfl,rfl,rfl,rfl,rfl,trivial⟩ ⟨rfl,rfl,rfl,rfl,rfl,rfl,rfl,trivial⟩ (kz.mono (by decide)) (hs.mono (by decide)) gz gs oz) ah))
  (af (bR (y:=0) (o:=0) (t:=154) ⟨_,Tryz.underlying154⟩) (af (aE (t:=3) (aw (n:=64) rfl) (aS (c:=0)) (aW (by omega))) (af (aE (t:=3) (aw (n:=64) rfl) (aS (c:=1099511627776)) (aV (by omega))) (af (de (u:=0) (m:=63) (S:=S) (a:=s.tm) (n:=65) (r:=.one .sl0) rfl (aw (n:=64) rfl) rfl (by omega)) (af (ft 63 66 rfl rfl) (af (aE (t:=3) (aw (n:=65) rfl) (aw (n:=66) rfl) (aW (by omega))) (af (aE (t:=3) (aw (n:=65) rfl) (aS (c:=0)) (cj (by omega))) (af (eb (m:=67) (t:=3) (aw (n:=65) rfl) (aS (c:=1)) rfl rfl (by omega) (by omega)) (af (iaB (n:=63) (m:=68) rfl rfl (cm (aw (n:=67) rfl) (by omega)) hz) (af (fa1 z 68 69 rfl rfl) (af (ldp z 69 [14,15,16,17,18,19,20] rfl ⟨rfl,rfl,rfl,rfl,rfl,rfl,rfl,trivial⟩) (ai)))))))))))) Tryz.func127 rfl (by kernel_rfl) aT ⟨dy,⟨(cE (n:=64) (ks:=[0,1,2,3,4,5,6]) (s:=s) rfl ⟨rfl,rfl,rfl,rfl,rfl,rfl,rfl,trivial⟩).2 i,trivial⟩⟩ (eL rfl)).mono ?_
 rintro e w' ⟨v,B',rfl,h1,h2,h3⟩;have e1:v= .int .i64 21:=h1;subst e1;exact⟨rfl,h2⟩
theorem q_addBM {w:World} {g:Nat} {sl:Value} (S:List St) (s:St) (v:Value) (h:TrkS 223 w g sl S) (i:gA w v s) (hs:s.pose.ok 2) (gs:s.pose.good) (hS:S.length≤64) (r0:0≤s.tm) (r1:s.tm≤1099511627776) (hq:plN S s.tm<S.length) (y:St) (hy:S[plN S s.tm]? =some y) (ky:y.pose.ok 2) (gy:y.pose.good) (ey:y.tm≠s.tm) (ho:¬y.tm<s.tm) (z:St) (hz:S[plN S s.tm - 1]? =some z) (kz:z.pose.ok 2) (gz:z.pose.good) (hp:0<plN S s.tm) (oz:opp z.pose s.pose):
  Calls Tryz.prog 127 (.pointer (some ⟨g,0,none⟩)::[v]).toArray w fun e w'=>e= .returned (.int .i64 21)∧TrkM 223 w g sl S w':=by
 have hle:=bH S s.tm;have hin:=bI (s:=s) hle;have hdr:((aN S (plN S s.tm) s).drop 1).length=(aN S (plN S s.tm) s).length - 1:=List.length_drop ..;have ht1:(S.take (plN S s.tm)).length=plN S s.tm:=by rw[List.length_take];omega
 have ht2:(S.take (plN S s.tm)++ [s]).length=plN S s.tm+1:=by rw[List.length_append,ht1];rfl
 refine(aP (ρ:=frs (j9 s y z)++([.rowB true sl stT S.length (aF S),.val (.int .i64 s.tm),.val (.int .i64 ((plN S s.tm:Nat):Int)),.val (.int .i64 (S.length:Int)),.plc stT y.qs,.val (.int .i64 y.tm),.val (.int .i64 (((plN S s.tm:Nat):Int) - 1)),.plc stT z.qs,.plc stT (frs z.pose.cs)]:List Vp)) (w:=w) (fuel:=300) (m:=63) (S':=S) (args:=[.one (.ptr 0 0),.agg (.ref 64::bT [0,1,2,3,4,5,6])]) (vs:=[.pointer (some ⟨g,0,none⟩),v]) (r:=.v (.one (.i .i64 21))) (l:=.ref 63) (lo:=[]) (obs:=[]) h
  (ae (bV (ka:=[0,1,2,3,4,5,6]) (a:=s.pose) ⟨rfl,rfl,rfl,rfl,rfl,rfl,rfl,trivial⟩ (hs.mono (by decide)) gs) (ae (yu (ka:=[14,15,16,17,18,19,20]) (a:=z.pose) (kb:=[0,1,2,3,4,5,6]) (b:=s.pose) ⟨rfl,rfl,rfl,rfl,rfl,rfl,rfl,trivial⟩ ⟨rfl,rfl,rfl,rfl,rfl,rfl,rfl,trivial⟩ (kz.mono (by decide)) (hs.mono (by decide)) gz gs oz) ah))
  (af (bR (y:=0) (o:=0) (t:=154) ⟨_,Tryz.underlying154⟩) (af (aE (t:=3) (aw (n:=64) rfl) (aS (c:=0)) (aW (by omega))) (af (aE (t:=3) (aw (n:=64) rfl) (aS (c:=1099511627776)) (aV (by omega))) (af (de (u:=0) (m:=63) (S:=S) (a:=s.tm) (n:=65) (r:=.one .sl0) rfl (aw (n:=64) rfl) rfl (by omega)) (af (ft 63 66 rfl rfl) (af (aE (t:=3) (aw (n:=65) rfl) (aw (n:=66) rfl) (bp (by omega))) (af (iaB (n:=63) (m:=67) rfl rfl (cm (aw (n:=65) rfl) (by omega)) hy) (af (fa0 y 67 rfl) (af (ldt y 67 68 rfl rfl) (af (aE (t:=3) (aw (n:=68) rfl) (aw (n:=64) rfl) (bX (by omega))) (af (aE (t:=3) (aw (n:=65) rfl) (aS (c:=0)) (cj (by omega))) (af (eb (m:=69) (t:=3) (aw (n:=65) rfl) (aS (c:=1)) rfl rfl (by omega) (by omega)) (af (iaB (n:=63) (m:=70) rfl rfl (cm (aw (n:=69) rfl) (by omega)) hz) (af (fa1 z 70 71 rfl rfl) (af (ldp z 71 [14,15,16,17,18,19,20] rfl ⟨rfl,rfl,rfl,rfl,rfl,rfl,rfl,trivial⟩) (ai)))))))))))))))) Tryz.func127 rfl (by kernel_rfl) aT ⟨dy,⟨(cE (n:=64) (ks:=[0,1,2,3,4,5,6]) (s:=s) rfl ⟨rfl,rfl,rfl,rfl,rfl,rfl,rfl,trivial⟩).2 i,trivial⟩⟩ (eL rfl)).mono ?_
 rintro e w' ⟨v,B',rfl,h1,h2,h3⟩;have e1:v= .int .i64 21:=h1;subst e1;exact⟨rfl,h2⟩
theorem q_addBN {w:World} {g:Nat} {sl:Value} (S:List St) (s:St) (v:Value) (h:TrkS 223 w g sl S) (i:gA w v s) (hs:s.pose.ok 2) (gs:s.pose.good) (hS:S.length≤64) (r0:0≤s.tm) (r1:s.tm≤1099511627776) (hq:plN S s.tm<S.length) (y:St) (hy:S[plN S s.tm]? =some y) (ky:y.pose.ok 2) (gy:y.pose.good) (ey:y.tm≠s.tm) (ho:¬y.tm<s.tm) (z:St) (hz:S[plN S s.tm - 1]? =some z) (kz:z.pose.ok 2) (gz:z.pose.good) (hp:0<plN S s.tm) (oz:¬opp z.pose s.pose) (oy:opp s.pose y.pose):
  Calls Tryz.prog 127 (.pointer (some ⟨g,0,none⟩)::[v]).toArray w fun e w'=>e= .returned (.int .i64 21)∧TrkM 223 w g sl S w':=by
 have hle:=bH S s.tm;have hin:=bI (s:=s) hle;have hdr:((aN S (plN S s.tm) s).drop 1).length=(aN S (plN S s.tm) s).length - 1:=List.length_drop ..;have ht1:(S.take (plN S s.tm)).length=plN S s.tm:=by rw[List.length_take];omega
 have ht2:(S.take (plN S s.tm)++ [s]).length=plN S s.tm+1:=by rw[List.length_append,ht1];rfl
 refine(aP (ρ:=frs (j9 s y z)++([.rowB true sl stT S.length (aF S),.val (.int .i64 s.tm),.val (.int .i64 ((plN S s.tm:Nat):Int)),.val (.int .i64 (S.length:Int)),.plc stT y.qs,.val (.int .i64 y.tm),.val (.int .i64 (((plN S s.tm:Nat):Int) - 1)),.plc stT z.qs,.plc stT (frs z.pose.cs),.plc stT (frs y.pose.cs)]:List Vp)) (w:=w) (fuel:=300) (m:=63) (S':=S) (args:=[.one (.ptr 0 0),.agg (.ref 64::bT [0,1,2,3,4,5,6])]) (vs:=[.pointer (some ⟨g,0,none⟩),v]) (r:=.v (.one (.i .i64 21))) (l:=.ref 63) (lo:=[]) (obs:=[]) h
  (ae (bV (ka:=[0,1,2,3,4,5,6]) (a:=s.pose) ⟨rfl,rfl,rfl,rfl,rfl,rfl,rfl,trivial⟩ (hs.mono (by decide)) gs) (ae (lK (ka:=[14,15,16,17,18,19,20]) (a:=z.pose) (kb:=[0,1,2,3,4,5,6]) (b:=s.pose) ⟨rfl,rfl,rfl,rfl,rfl,rfl,rfl,trivial⟩ ⟨rfl,rfl,rfl,rfl,rfl,rfl,rfl,trivial⟩ (kz.mono (by decide)) (hs.mono (by decide)) gz gs oz) (ae (yu (ka:=[0,1,2,3,4,5,6]) (a:=s.pose) (kb:=[7,8,9,10,11,12,13]) (b:=y.pose) ⟨rfl,rfl,rfl,rfl,rfl,rfl,rfl,trivial⟩ ⟨rfl,rfl,rfl,rfl,rfl,rfl,rfl,trivial⟩ (hs.mono (by decide)) (ky.mono (by decide)) gs gy oy) ah)))
  (af (bR (y:=0) (o:=0) (t:=154) ⟨_,Tryz.underlying154⟩) (af (aE (t:=3) (aw (n:=64) rfl) (aS (c:=0)) (aW (by omega))) (af (aE (t:=3) (aw (n:=64) rfl) (aS (c:=1099511627776)) (aV (by omega))) (af (de (u:=0) (m:=63) (S:=S) (a:=s.tm) (n:=65) (r:=.one .sl0) rfl (aw (n:=64) rfl) rfl (by omega)) (af (ft 63 66 rfl rfl) (af (aE (t:=3) (aw (n:=65) rfl) (aw (n:=66) rfl) (bp (by omega))) (af (iaB (n:=63) (m:=67) rfl rfl (cm (aw (n:=65) rfl) (by omega)) hy) (af (fa0 y 67 rfl) (af (ldt y 67 68 rfl rfl) (af (aE (t:=3) (aw (n:=68) rfl) (aw (n:=64) rfl) (bX (by omega))) (af (aE (t:=3) (aw (n:=65) rfl) (aS (c:=0)) (cj (by omega))) (af (eb (m:=69) (t:=3) (aw (n:=65) rfl) (aS (c:=1)) rfl rfl (by omega) (by omega)) (af (iaB (n:=63) (m:=70) rfl rfl (cm (aw (n:=69) rfl) (by omega)) hz) (af (fa1 z 70 71 rfl rfl) (af (ldp z 71 [14,15,16,17,18,19,20] rfl ⟨rfl,rfl,rfl,rfl,rfl,rfl,rfl,trivial⟩) (af (fa1 y 67 72 rfl rfl) (af (ldp y 72 [7,8,9,10,11,12,13] rfl ⟨rfl,rfl,rfl,rfl,rfl,rfl,rfl,trivial⟩) (ai)))))))))))))))))) Tryz.func127 rfl (by kernel_rfl) aT ⟨dy,⟨(cE (n:=64) (ks:=[0,1,2,3,4,5,6]) (s:=s) rfl ⟨rfl,rfl,rfl,rfl,rfl,rfl,rfl,trivial⟩).2 i,trivial⟩⟩ (eL rfl)).mono ?_
 rintro e w' ⟨v,B',rfl,h1,h2,h3⟩;have e1:v= .int .i64 21:=h1;subst e1;exact⟨rfl,h2⟩
theorem q_addN {w:World} {g:Nat} {sl:Value} (S:List St) (s:St) (v:Value) (h:TrkS 223 w g sl S) (i:gA w v s) (hs:s.pose.ok 2) (gs:s.pose.good) (hS:S.length≤64) (r0:0≤s.tm) (r1:s.tm≤1099511627776) (hq:plN S s.tm=S.length) (hp:plN S s.tm=0):
  Calls Tryz.prog 127 (.pointer (some ⟨g,0,none⟩)::[v]).toArray w fun e w'=>e= .returned (.int .i64 0)∧TrkM 223 w g sl (aN S (plN S s.tm) s) w':=by
 have hle:=bH S s.tm;have hin:=bI (s:=s) hle;have hdr:((aN S (plN S s.tm) s).drop 1).length=(aN S (plN S s.tm) s).length - 1:=List.length_drop ..;have ht1:(S.take (plN S s.tm)).length=plN S s.tm:=by rw[List.length_take];omega
 have ht2:(S.take (plN S s.tm)++ [s]).length=plN S s.tm+1:=by rw[List.length_append,ht1];rfl
 refine(aP (ρ:=frs (j9 s zst zst)++([.rowB true sl stT S.length (aF S),.val (.int .i64 s.tm),.val (.int .i64 ((plN S s.tm:Nat):Int)),.val (.int .i64 (S.length:Int)),.ownr stT 22 S.length (aF S),.row stT 1 s.qs,.ownr stT 22 (aN S (plN S s.tm) s).length (aF (aN S (plN S s.tm) s)),.val (.int .i64 ((aN S (plN S s.tm) s).length:Int))]:List Vp)) (w:=w) (fuel:=300) (m:=63) (S':=aN S (plN S s.tm) s) (args:=[.one (.ptr 0 0),.agg (.ref 64::bT [0,1,2,3,4,5,6])]) (vs:=[.pointer (some ⟨g,0,none⟩),v]) (r:=.v (.one (.i .i64 0))) (l:=.own 0 69) (lo:=[]) (obs:=[]) h
  (ae (bV (ka:=[0,1,2,3,4,5,6]) (a:=s.pose) ⟨rfl,rfl,rfl,rfl,rfl,rfl,rfl,trivial⟩ (hs.mono (by decide)) gs) (ae (nh (n:=64) (ks:=[0,1,2,3,4,5,6]) (s:=s) rfl ⟨rfl,rfl,rfl,rfl,rfl,rfl,rfl,trivial⟩ (hs.mono (by decide))) ah))
  (af (bR (y:=0) (o:=0) (t:=154) ⟨_,Tryz.underlying154⟩) (af (aE (t:=3) (aw (n:=64) rfl) (aS (c:=0)) (aW (by omega))) (af (aE (t:=3) (aw (n:=64) rfl) (aS (c:=1099511627776)) (aV (by omega))) (af (de (u:=0) (m:=63) (S:=S) (a:=s.tm) (n:=65) (r:=.one .sl0) rfl (aw (n:=64) rfl) rfl (by omega)) (af (ft 63 66 rfl rfl) (af (aE (t:=3) (aw (n:=65) rfl) (aw (n:=66) rfl) (aW (by omega))) (af (aE (t:=3) (aw (n:=65) rfl) (aS (c:=0)) (aV (by omega))) (af (dp (k:=0) (m:=67) (S:=S) (r:=.one .sl0) (wK (n:=63) rfl) rfl (by omega)) (af (pi (n:=64) (ks:=[0,1,2,3,4,5,6]) (m:=68) (s:=s) rfl ⟨rfl,rfl,rfl,rfl,rfl,rfl,rfl,trivial⟩ rfl) (af (dz (k:=0) (n:=67) (xn:=68) (i:=plN S s.tm) (s:=s) (m:=69) (r:=.one .sl0) rfl rfl (cm (aw (n:=65) rfl) (by omega)) rfl (by omega) (by omega)) (af (j6 (j:=0) (n:=69) (t:=183) ⟨_,Tryz.underlying183⟩ rfl (l:=.ref 70) (fun _ _=>aB rfl aH)) (af (aE (t:=3) (aw (n:=70) rfl) (aS (c:=64)) (aV (by omega))) (ai))))))))))))) Tryz.func127 rfl (by kernel_rfl) aT ⟨dy,⟨(cE (n:=64) (ks:=[0,1,2,3,4,5,6]) (s:=s) rfl ⟨rfl,rfl,rfl,rfl,rfl,rfl,rfl,trivial⟩).2 i,trivial⟩⟩ (wN rfl)).mono ?_
 rintro e w' ⟨v,B',rfl,h1,h2,h3⟩;have e1:v= .int .i64 0:=h1;subst e1;exact⟨rfl,h2⟩
theorem q_addI0 {w:World} {g:Nat} {sl:Value} (S:List St) (s:St) (v:Value) (h:TrkS 223 w g sl S) (i:gA w v s) (hs:s.pose.ok 2) (gs:s.pose.good) (hS:S.length≤64) (r0:0≤s.tm) (r1:s.tm≤1099511627776) (hq:plN S s.tm<S.length) (hp:plN S s.tm=0) (y:St) (hy:S[plN S s.tm]? =some y) (ky:y.pose.ok 2) (gy:y.pose.good) (ey:y.tm≠s.tm) (ho:¬y.tm<s.tm) (oy:¬opp s.pose y.pose) (hl:S.length<64):
  Calls Tryz.prog 127 (.pointer (some ⟨g,0,none⟩)::[v]).toArray w fun e w'=>e= .returned (.int .i64 0)∧TrkM 223 w g sl (aN S (plN S s.tm) s) w':=by
 have hle:=bH S s.tm;have hin:=bI (s:=s) hle;have hdr:((aN S (plN S s.tm) s).drop 1).length=(aN S (plN S s.tm) s).length - 1:=List.length_drop ..;have ht1:(S.take (plN S s.tm)).length=plN S s.tm:=by rw[List.length_take];omega
 have ht2:(S.take (plN S s.tm)++ [s]).length=plN S s.tm+1:=by rw[List.length_append,ht1];rfl
 refine(aP (ρ:=frs (j9 s y zst)++([.rowB true sl stT S.length (aF S),.val (.int .i64 s.tm),.val (.int .i64 ((plN S s.tm:Nat):Int)),.val (.int .i64 (S.length:Int)),.plc stT y.qs,.val (.int .i64 y.tm),.plc stT (frs y.pose.cs),.ownr stT 22 S.length (aF S),.row stT 1 s.qs,.ownr stT 22 (aN S (plN S s.tm) s).length (aF (aN S (plN S s.tm) s)),.val (.int .i64 ((aN S (plN S s.tm) s).length:Int))]:List Vp)) (w:=w) (fuel:=300) (m:=63) (S':=aN S (plN S s.tm) s) (args:=[.one (.ptr 0 0),.agg (.ref 64::bT [0,1,2,3,4,5,6])]) (vs:=[.pointer (some ⟨g,0,none⟩),v]) (r:=.v (.one (.i .i64 0))) (l:=.own 0 72) (lo:=[]) (obs:=[]) h
  (ae (bV (ka:=[0,1,2,3,4,5,6]) (a:=s.pose) ⟨rfl,rfl,rfl,rfl,rfl,rfl,rfl,trivial⟩ (hs.mono (by decide)) gs) (ae (lK (ka:=[0,1,2,3,4,5,6]) (a:=s.pose) (kb:=[7,8,9,10,11,12,13]) (b:=y.pose) ⟨rfl,rfl,rfl,rfl,rfl,rfl,rfl,trivial⟩ ⟨rfl,rfl,rfl,rfl,rfl,rfl,rfl,trivial⟩ (hs.mono (by decide)) (ky.mono (by decide)) gs gy oy) (ae (nh (n:=64) (ks:=[0,1,2,3,4,5,6]) (s:=s) rfl ⟨rfl,rfl,rfl,rfl,rfl,rfl,rfl,trivial⟩ (hs.mono (by decide))) ah)))
  (af (bR (y:=0) (o:=0) (t:=154) ⟨_,Tryz.underlying154⟩) (af (aE (t:=3) (aw (n:=64) rfl) (aS (c:=0)) (aW (by omega))) (af (aE (t:=3) (aw (n:=64) rfl) (aS (c:=1099511627776)) (aV (by omega))) (af (de (u:=0) (m:=63) (S:=S) (a:=s.tm) (n:=65) (r:=.one .sl0) rfl (aw (n:=64) rfl) rfl (by omega)) (af (ft 63 66 rfl rfl) (af (aE (t:=3) (aw (n:=65) rfl) (aw (n:=66) rfl) (bp (by omega))) (af (iaB (n:=63) (m:=67) rfl rfl (cm (aw (n:=65) rfl) (by omega)) hy) (af (fa0 y 67 rfl) (af (ldt y 67 68 rfl rfl) (af (aE (t:=3) (aw (n:=68) rfl) (aw (n:=64) rfl) (bX (by omega))) (af (aE (t:=3) (aw (n:=65) rfl) (aS (c:=0)) (aV (by omega))) (af (fa1 y 67 69 rfl rfl) (af (ldp y 69 [7,8,9,10,11,12,13] rfl ⟨rfl,rfl,rfl,rfl,rfl,rfl,rfl,trivial⟩) (af (dp (k:=0) (m:=70) (S:=S) (r:=.one .sl0) (wK (n:=63) rfl) rfl (by omega)) (af (pi (n:=64) (ks:=[0,1,2,3,4,5,6]) (m:=71) (s:=s) rfl ⟨rfl,rfl,rfl,rfl,rfl,rfl,rfl,trivial⟩ rfl) (af (dz (k:=0) (n:=70) (xn:=71) (i:=plN S s.tm) (s:=s) (m:=72) (r:=.one .sl0) rfl rfl (cm (aw (n:=65) rfl) (by omega)) rfl (by omega) (by omega)) (af (j6 (j:=0) (n:=72) (t:=183) ⟨_,Tryz.underlying183⟩ rfl (l:=.ref 73) (fun _ _=>aB rfl aH)) (af (aE (t:=3) (aw (n:=73) rfl) (aS (c:=64)) (aV (by omega))) (ai))))))))))))))))))) Tryz.func127 rfl (by kernel_rfl) aT ⟨dy,⟨(cE (n:=64) (ks:=[0,1,2,3,4,5,6]) (s:=s) rfl ⟨rfl,rfl,rfl,rfl,rfl,rfl,rfl,trivial⟩).2 i,trivial⟩⟩ (wN rfl)).mono ?_
 rintro e w' ⟨v,B',rfl,h1,h2,h3⟩;have e1:v= .int .i64 0:=h1;subst e1;exact⟨rfl,h2⟩
theorem q_addIE {w:World} {g:Nat} {sl:Value} (S:List St) (s:St) (v:Value) (h:TrkS 223 w g sl S) (i:gA w v s) (hs:s.pose.ok 2) (gs:s.pose.good) (hS:S.length≤64) (r0:0≤s.tm) (r1:s.tm≤1099511627776) (hq:plN S s.tm=S.length) (z:St) (hz:S[plN S s.tm - 1]? =some z) (kz:z.pose.ok 2) (gz:z.pose.good) (hp:0<plN S s.tm) (oz:¬opp z.pose s.pose) (hl:S.length<64):
  Calls Tryz.prog 127 (.pointer (some ⟨g,0,none⟩)::[v]).toArray w fun e w'=>e= .returned (.int .i64 0)∧TrkM 223 w g sl (aN S (plN S s.tm) s) w':=by
 have hle:=bH S s.tm;have hin:=bI (s:=s) hle;have hdr:((aN S (plN S s.tm) s).drop 1).length=(aN S (plN S s.tm) s).length - 1:=List.length_drop ..;have ht1:(S.take (plN S s.tm)).length=plN S s.tm:=by rw[List.length_take];omega
 have ht2:(S.take (plN S s.tm)++ [s]).length=plN S s.tm+1:=by rw[List.length_append,ht1];rfl
 refine(aP (ρ:=frs (j9 s zst z)++([.rowB true sl stT S.length (aF S),.val (.int .i64 s.tm),.val (.int .i64 ((plN S s.tm:Nat):Int)),.val (.int .i64 (S.length:Int)),.val (.int .i64 (((plN S s.tm:Nat):Int) - 1)),.plc stT z.qs,.plc stT (frs z.pose.cs),.ownr stT 22 S.length (aF S),.row stT 1 s.qs,.ownr stT 22 (aN S (plN S s.tm) s).length (aF (aN S (plN S s.tm) s)),.val (.int .i64 ((aN S (plN S s.tm) s).length:Int))]:List Vp)) (w:=w) (fuel:=300) (m:=63) (S':=aN S (plN S s.tm) s) (args:=[.one (.ptr 0 0),.agg (.ref 64::bT [0,1,2,3,4,5,6])]) (vs:=[.pointer (some ⟨g,0,none⟩),v]) (r:=.v (.one (.i .i64 0))) (l:=.own 0 72) (lo:=[]) (obs:=[]) h
  (ae (bV (ka:=[0,1,2,3,4,5,6]) (a:=s.pose) ⟨rfl,rfl,rfl,rfl,rfl,rfl,rfl,trivial⟩ (hs.mono (by decide)) gs) (ae (lK (ka:=[14,15,16,17,18,19,20]) (a:=z.pose) (kb:=[0,1,2,3,4,5,6]) (b:=s.pose) ⟨rfl,rfl,rfl,rfl,rfl,rfl,rfl,trivial⟩ ⟨rfl,rfl,rfl,rfl,rfl,rfl,rfl,trivial⟩ (kz.mono (by decide)) (hs.mono (by decide)) gz gs oz) (ae (nh (n:=64) (ks:=[0,1,2,3,4,5,6]) (s:=s) rfl ⟨rfl,rfl,rfl,rfl,rfl,rfl,rfl,trivial⟩ (hs.mono (by decide))) ah)))
  (af (bR (y:=0) (o:=0) (t:=154) ⟨_,Tryz.underlying154⟩) (af (aE (t:=3) (aw (n:=64) rfl) (aS (c:=0)) (aW (by omega))) (af (aE (t:=3) (aw (n:=64) rfl) (aS (c:=1099511627776)) (aV (by omega))) (af (de (u:=0) (m:=63) (S:=S) (a:=s.tm) (n:=65) (r:=.one .sl0) rfl (aw (n:=64) rfl) rfl (by omega)) (af (ft 63 66 rfl rfl) (af (aE (t:=3) (aw (n:=65) rfl) (aw (n:=66) rfl) (aW (by omega))) (af (aE (t:=3) (aw (n:=65) rfl) (aS (c:=0)) (cj (by omega))) (af (eb (m:=67) (t:=3) (aw (n:=65) rfl) (aS (c:=1)) rfl rfl (by omega) (by omega)) (af (iaB (n:=63) (m:=68) rfl rfl (cm (aw (n:=67) rfl) (by omega)) hz) (af (fa1 z 68 69 rfl rfl) (af (ldp z 69 [14,15,16,17,18,19,20] rfl ⟨rfl,rfl,rfl,rfl,rfl,rfl,rfl,trivial⟩) (af (dp (k:=0) (m:=70) (S:=S) (r:=.one .sl0) (wK (n:=63) rfl) rfl (by omega)) (af (pi (n:=64) (ks:=[0,1,2,3,4,5,6]) (m:=71) (s:=s) rfl ⟨rfl,rfl,rfl,rfl,rfl,rfl,rfl,trivial⟩ rfl) (af (dz (k:=0) (n:=70) (xn:=71) (i:=plN S s.tm) (s:=s) (m:=72) (r:=.one .sl0) rfl rfl (cm (aw (n:=65) rfl) (by omega)) rfl (by omega) (by omega)) (af (j6 (j:=0) (n:=72) (t:=183) ⟨_,Tryz.underlying183⟩ rfl (l:=.ref 73) (fun _ _=>aB rfl aH)) (af (aE (t:=3) (aw (n:=73) rfl) (aS (c:=64)) (aV (by omega))) (ai))))))))))))))))) Tryz.func127 rfl (by kernel_rfl) aT ⟨dy,⟨(cE (n:=64) (ks:=[0,1,2,3,4,5,6]) (s:=s) rfl ⟨rfl,rfl,rfl,rfl,rfl,rfl,rfl,trivial⟩).2 i,trivial⟩⟩ (wN rfl)).mono ?_
 rintro e w' ⟨v,B',rfl,h1,h2,h3⟩;have e1:v= .int .i64 0:=h1;subst e1;exact⟨rfl,h2⟩
theorem q_addIM {w:World} {g:Nat} {sl:Value} (S:List St) (s:St) (v:Value) (h:TrkS 223 w g sl S) (i:gA w v s) (hs:s.pose.ok 2) (gs:s.pose.good) (hS:S.length≤64) (r0:0≤s.tm) (r1:s.tm≤1099511627776) (hq:plN S s.tm<S.length) (y:St) (hy:S[plN S s.tm]? =some y) (ky:y.pose.ok 2) (gy:y.pose.good) (ey:y.tm≠s.tm) (ho:¬y.tm<s.tm) (z:St) (hz:S[plN S s.tm - 1]? =some z) (kz:z.pose.ok 2) (gz:z.pose.good) (hp:0<plN S s.tm) (oz:¬opp z.pose s.pose) (oy:¬opp s.pose y.pose) (hl:S.length<64):
  Calls Tryz.prog 127 (.pointer (some ⟨g,0,none⟩)::[v]).toArray w fun e w'=>e= .returned (.int .i64 0)∧TrkM 223 w g sl (aN S (plN S s.tm) s) w':=by
 have hle:=bH S s.tm;have hin:=bI (s:=s) hle;have hdr:((aN S (plN S s.tm) s).drop 1).length=(aN S (plN S s.tm) s).length - 1:=List.length_drop ..;have ht1:(S.take (plN S s.tm)).length=plN S s.tm:=by rw[List.length_take];omega
 have ht2:(S.take (plN S s.tm)++ [s]).length=plN S s.tm+1:=by rw[List.length_append,ht1];rfl
 refine(aP (ρ:=frs (j9 s y z)++([.rowB true sl stT S.length (aF S),.val (.int .i64 s.tm),.val (.int .i64 ((plN S s.tm:Nat):Int)),.val (.int .i64 (S.length:Int)),.plc stT y.qs,.val (.int .i64 y.tm),.val (.int .i64 (((plN S s.tm:Nat):Int) - 1)),.plc stT z.qs,.plc stT (frs z.pose.cs),.plc stT (frs y.pose.cs),.ownr stT 22 S.length (aF S),.row stT 1 s.qs,.ownr stT 22 (aN S (plN S s.tm) s).length (aF (aN S (plN S s.tm) s)),.val (.int .i64 ((aN S (plN S s.tm) s).length:Int))]:List Vp)) (w:=w) (fuel:=300) (m:=63) (S':=aN S (plN S s.tm) s) (args:=[.one (.ptr 0 0),.agg (.ref 64::bT [0,1,2,3,4,5,6])]) (vs:=[.pointer (some ⟨g,0,none⟩),v]) (r:=.v (.one (.i .i64 0))) (l:=.own 0 75) (lo:=[]) (obs:=[]) h
  (ae (bV (ka:=[0,1,2,3,4,5,6]) (a:=s.pose) ⟨rfl,rfl,rfl,rfl,rfl,rfl,rfl,trivial⟩ (hs.mono (by decide)) gs) (ae (lK (ka:=[14,15,16,17,18,19,20]) (a:=z.pose) (kb:=[0,1,2,3,4,5,6]) (b:=s.pose) ⟨rfl,rfl,rfl,rfl,rfl,rfl,rfl,trivial⟩ ⟨rfl,rfl,rfl,rfl,rfl,rfl,rfl,trivial⟩ (kz.mono (by decide)) (hs.mono (by decide)) gz gs oz) (ae (lK (ka:=[0,1,2,3,4,5,6]) (a:=s.pose) (kb:=[7,8,9,10,11,12,13]) (b:=y.pose) ⟨rfl,rfl,rfl,rfl,rfl,rfl,rfl,trivial⟩ ⟨rfl,rfl,rfl,rfl,rfl,rfl,rfl,trivial⟩ (hs.mono (by decide)) (ky.mono (by decide)) gs gy oy) (ae (nh (n:=64) (ks:=[0,1,2,3,4,5,6]) (s:=s) rfl ⟨rfl,rfl,rfl,rfl,rfl,rfl,rfl,trivial⟩ (hs.mono (by decide))) ah))))
  (af (bR (y:=0) (o:=0) (t:=154) ⟨_,Tryz.underlying154⟩) (af (aE (t:=3) (aw (n:=64) rfl) (aS (c:=0)) (aW (by omega))) (af (aE (t:=3) (aw (n:=64) rfl) (aS (c:=1099511627776)) (aV (by omega))) (af (de (u:=0) (m:=63) (S:=S) (a:=s.tm) (n:=65) (r:=.one .sl0) rfl (aw (n:=64) rfl) rfl (by omega)) (af (ft 63 66 rfl rfl) (af (aE (t:=3) (aw (n:=65) rfl) (aw (n:=66) rfl) (bp (by omega))) (af (iaB (n:=63) (m:=67) rfl rfl (cm (aw (n:=65) rfl) (by omega)) hy) (af (fa0 y 67 rfl) (af (ldt y 67 68 rfl rfl) (af (aE (t:=3) (aw (n:=68) rfl) (aw (n:=64) rfl) (bX (by omega))) (af (aE (t:=3) (aw (n:=65) rfl) (aS (c:=0)) (cj (by omega))) (af (eb (m:=69) (t:=3) (aw (n:=65) rfl) (aS (c:=1)) rfl rfl (by omega) (by omega)) (af (iaB (n:=63) (m:=70) rfl rfl (cm (aw (n:=69) rfl) (by omega)) hz) (af (fa1 z 70 71 rfl rfl) (af (ldp z 71 [14,15,16,17,18,19,20] rfl ⟨rfl,rfl,rfl,rfl,rfl,rfl,rfl,trivial⟩) (af (fa1 y 67 72 rfl rfl) (af (ldp y 72 [7,8,9,10,11,12,13] rfl ⟨rfl,rfl,rfl,rfl,rfl,rfl,rfl,trivial⟩) (af (dp (k:=0) (m:=73) (S:=S) (r:=.one .sl0) (wK (n:=63) rfl) rfl (by omega)) (af (pi (n:=64) (ks:=[0,1,2,3,4,5,6]) (m:=74) (s:=s) rfl ⟨rfl,rfl,rfl,rfl,rfl,rfl,rfl,trivial⟩ rfl) (af (dz (k:=0) (n:=73) (xn:=74) (i:=plN S s.tm) (s:=s) (m:=75) (r:=.one .sl0) rfl rfl (cm (aw (n:=65) rfl) (by omega)) rfl (by omega) (by omega)) (af (j6 (j:=0) (n:=75) (t:=183) ⟨_,Tryz.underlying183⟩ rfl (l:=.ref 76) (fun _ _=>aB rfl aH)) (af (aE (t:=3) (aw (n:=76) rfl) (aS (c:=64)) (aV (by omega))) (ai))))))))))))))))))))))) Tryz.func127 rfl (by kernel_rfl) aT ⟨dy,⟨(cE (n:=64) (ks:=[0,1,2,3,4,5,6]) (s:=s) rfl ⟨rfl,rfl,rfl,rfl,rfl,rfl,rfl,trivial⟩).2 i,trivial⟩⟩ (wN rfl)).mono ?_
 rintro e w' ⟨v,B',rfl,h1,h2,h3⟩;have e1:v= .int .i64 0:=h1;subst e1;exact⟨rfl,h2⟩
theorem q_addI0D {w:World} {g:Nat} {sl:Value} (S:List St) (s:St) (v:Value) (h:TrkS 223 w g sl S) (i:gA w v s) (hs:s.pose.ok 2) (gs:s.pose.good) (hS:S.length≤64) (r0:0≤s.tm) (r1:s.tm≤1099511627776) (hq:plN S s.tm<S.length) (hp:plN S s.tm=0) (y:St) (hy:S[plN S s.tm]? =some y) (ky:y.pose.ok 2) (gy:y.pose.good) (ey:y.tm≠s.tm) (ho:¬y.tm<s.tm) (oy:¬opp s.pose y.pose) (hl:S.length=64):
  Calls Tryz.prog 127 (.pointer (some ⟨g,0,none⟩)::[v]).toArray w fun e w'=>e= .returned (.int .i64 0)∧TrkM 223 w g sl ((aN S (plN S s.tm) s).drop 1) w':=by
 have hle:=bH S s.tm;have hin:=bI (s:=s) hle;have hdr:((aN S (plN S s.tm) s).drop 1).length=(aN S (plN S s.tm) s).length - 1:=List.length_drop ..;have ht1:(S.take (plN S s.tm)).length=plN S s.tm:=by rw[List.length_take];omega
 have ht2:(S.take (plN S s.tm)++ [s]).length=plN S s.tm+1:=by rw[List.length_append,ht1];rfl
 refine(aP (ρ:=frs (j9 s y zst)++([.rowB true sl stT S.length (aF S),.val (.int .i64 s.tm),.val (.int .i64 ((plN S s.tm:Nat):Int)),.val (.int .i64 (S.length:Int)),.plc stT y.qs,.val (.int .i64 y.tm),.plc stT (frs y.pose.cs),.ownr stT 22 S.length (aF S),.row stT 1 s.qs,.ownr stT 22 (aN S (plN S s.tm) s).length (aF (aN S (plN S s.tm) s)),.val (.int .i64 ((aN S (plN S s.tm) s).length:Int)),.row stT ((aN S (plN S s.tm) s).drop 1).length (aF ((aN S (plN S s.tm) s).drop 1)),.ownr stT 22 ((aN S (plN S s.tm) s).drop 1).length (aF ((aN S (plN S s.tm) s).drop 1))]:List Vp)) (w:=w) (fuel:=300) (m:=63) (S':=(aN S (plN S s.tm) s).drop 1) (args:=[.one (.ptr 0 0),.agg (.ref 64::bT [0,1,2,3,4,5,6])]) (vs:=[.pointer (some ⟨g,0,none⟩),v]) (r:=.v (.one (.i .i64 0))) (l:=.own 1 75) (lo:=[]) (obs:=[]) h
  (ae (bV (ka:=[0,1,2,3,4,5,6]) (a:=s.pose) ⟨rfl,rfl,rfl,rfl,rfl,rfl,rfl,trivial⟩ (hs.mono (by decide)) gs) (ae (lK (ka:=[0,1,2,3,4,5,6]) (a:=s.pose) (kb:=[7,8,9,10,11,12,13]) (b:=y.pose) ⟨rfl,rfl,rfl,rfl,rfl,rfl,rfl,trivial⟩ ⟨rfl,rfl,rfl,rfl,rfl,rfl,rfl,trivial⟩ (hs.mono (by decide)) (ky.mono (by decide)) gs gy oy) (ae (nh (n:=64) (ks:=[0,1,2,3,4,5,6]) (s:=s) rfl ⟨rfl,rfl,rfl,rfl,rfl,rfl,rfl,trivial⟩ (hs.mono (by decide))) ah)))
  (af (bR (y:=0) (o:=0) (t:=154) ⟨_,Tryz.underlying154⟩) (af (aE (t:=3) (aw (n:=64) rfl) (aS (c:=0)) (aW (by omega))) (af (aE (t:=3) (aw (n:=64) rfl) (aS (c:=1099511627776)) (aV (by omega))) (af (de (u:=0) (m:=63) (S:=S) (a:=s.tm) (n:=65) (r:=.one .sl0) rfl (aw (n:=64) rfl) rfl (by omega)) (af (ft 63 66 rfl rfl) (af (aE (t:=3) (aw (n:=65) rfl) (aw (n:=66) rfl) (bp (by omega))) (af (iaB (n:=63) (m:=67) rfl rfl (cm (aw (n:=65) rfl) (by omega)) hy) (af (fa0 y 67 rfl) (af (ldt y 67 68 rfl rfl) (af (aE (t:=3) (aw (n:=68) rfl) (aw (n:=64) rfl) (bX (by omega))) (af (aE (t:=3) (aw (n:=65) rfl) (aS (c:=0)) (aV (by omega))) (af (fa1 y 67 69 rfl rfl) (af (ldp y 69 [7,8,9,10,11,12,13] rfl ⟨rfl,rfl,rfl,rfl,rfl,rfl,rfl,trivial⟩) (af (dp (k:=0) (m:=70) (S:=S) (r:=.one .sl0) (wK (n:=63) rfl) rfl (by omega)) (af (pi (n:=64) (ks:=[0,1,2,3,4,5,6]) (m:=71) (s:=s) rfl ⟨rfl,rfl,rfl,rfl,rfl,rfl,rfl,trivial⟩ rfl) (af (dz (k:=0) (n:=70) (xn:=71) (i:=plN S s.tm) (s:=s) (m:=72) (r:=.one .sl0) rfl rfl (cm (aw (n:=65) rfl) (by omega)) rfl (by omega) (by omega)) (af (j6 (j:=0) (n:=72) (t:=183) ⟨_,Tryz.underlying183⟩ rfl (l:=.ref 73) (fun _ _=>aB rfl aH)) (af (aE (t:=3) (aw (n:=73) rfl) (aS (c:=64)) (cj (by omega))) (af (ph (j:=0) (n:=72) (m:=74) (k:=1) (t:=183) Tryz.underlying183 (by kernel_rfl) rfl (by rfl) rfl (cm (aS (c:=1)) (by omega)) (by omega)) (af (dp (k:=1) (m:=75) (S:=((aN S (plN S s.tm) s).drop 1)) (r:=.one .sl0) (rl_o (j:=0) (n:=74) rfl) rfl (by omega)) (ai))))))))))))))))))))) Tryz.func127 rfl (by kernel_rfl) aT ⟨dy,⟨(cE (n:=64) (ks:=[0,1,2,3,4,5,6]) (s:=s) rfl ⟨rfl,rfl,rfl,rfl,rfl,rfl,rfl,trivial⟩).2 i,trivial⟩⟩ (wN rfl)).mono ?_
 rintro e w' ⟨v,B',rfl,h1,h2,h3⟩;have e1:v= .int .i64 0:=h1;subst e1;exact⟨rfl,h2⟩
theorem q_addIED {w:World} {g:Nat} {sl:Value} (S:List St) (s:St) (v:Value) (h:TrkS 223 w g sl S) (i:gA w v s) (hs:s.pose.ok 2) (gs:s.pose.good) (hS:S.length≤64) (r0:0≤s.tm) (r1:s.tm≤1099511627776) (hq:plN S s.tm=S.length) (z:St) (hz:S[plN S s.tm - 1]? =some z) (kz:z.pose.ok 2) (gz:z.pose.good) (hp:0<plN S s.tm) (oz:¬opp z.pose s.pose) (hl:S.length=64):
  Calls Tryz.prog 127 (.pointer (some ⟨g,0,none⟩)::[v]).toArray w fun e w'=>e= .returned (.int .i64 0)∧TrkM 223 w g sl ((aN S (plN S s.tm) s).drop 1) w':=by
 have hle:=bH S s.tm;have hin:=bI (s:=s) hle;have hdr:((aN S (plN S s.tm) s).drop 1).length=(aN S (plN S s.tm) s).length - 1:=List.length_drop ..;have ht1:(S.take (plN S s.tm)).length=plN S s.tm:=by rw[List.length_take];omega
 have ht2:(S.take (plN S s.tm)++ [s]).length=plN S s.tm+1:=by rw[List.length_append,ht1];rfl
 refine(aP (ρ:=frs (j9 s zst z)++([.rowB true sl stT S.length (aF S),.val (.int .i64 s.tm),.val (.int .i64 ((plN S s.tm:Nat):Int)),.val (.int .i64 (S.length:Int)),.val (.int .i64 (((plN S s.tm:Nat):Int) - 1)),.plc stT z.qs,.plc stT (frs z.pose.cs),.ownr stT 22 S.length (aF S),.row stT 1 s.qs,.ownr stT 22 (aN S (plN S s.tm) s).length (aF (aN S (plN S s.tm) s)),.val (.int .i64 ((aN S (plN S s.tm) s).length:Int)),.row stT ((aN S (plN S s.tm) s).drop 1).length (aF ((aN S (plN S s.tm) s).drop 1)),.ownr stT 22 ((aN S (plN S s.tm) s).drop 1).length (aF ((aN S (plN S s.tm) s).drop 1))]:List Vp)) (w:=w) (fuel:=300) (m:=63) (S':=(aN S (plN S s.tm) s).drop 1) (args:=[.one (.ptr 0 0),.agg (.ref 64::bT [0,1,2,3,4,5,6])]) (vs:=[.pointer (some ⟨g,0,none⟩),v]) (r:=.v (.one (.i .i64 0))) (l:=.own 1 75) (lo:=[]) (obs:=[]) h
  (ae (bV (ka:=[0,1,2,3,4,5,6]) (a:=s.pose) ⟨rfl,rfl,rfl,rfl,rfl,rfl,rfl,trivial⟩ (hs.mono (by decide)) gs) (ae (lK (ka:=[14,15,16,17,18,19,20]) (a:=z.pose) (kb:=[0,1,2,3,4,5,6]) (b:=s.pose) ⟨rfl,rfl,rfl,rfl,rfl,rfl,rfl,trivial⟩ ⟨rfl,rfl,rfl,rfl,rfl,rfl,rfl,trivial⟩ (kz.mono (by decide)) (hs.mono (by decide)) gz gs oz) (ae (nh (n:=64) (ks:=[0,1,2,3,4,5,6]) (s:=s) rfl ⟨rfl,rfl,rfl,rfl,rfl,rfl,rfl,trivial⟩ (hs.mono (by decide))) ah)))
  (af (bR (y:=0) (o:=0) (t:=154) ⟨_,Tryz.underlying154⟩) (af (aE (t:=3) (aw (n:=64) rfl) (aS (c:=0)) (aW (by omega))) (af (aE (t:=3) (aw (n:=64) rfl) (aS (c:=1099511627776)) (aV (by omega))) (af (de (u:=0) (m:=63) (S:=S) (a:=s.tm) (n:=65) (r:=.one .sl0) rfl (aw (n:=64) rfl) rfl (by omega)) (af (ft 63 66 rfl rfl) (af (aE (t:=3) (aw (n:=65) rfl) (aw (n:=66) rfl) (aW (by omega))) (af (aE (t:=3) (aw (n:=65) rfl) (aS (c:=0)) (cj (by omega))) (af (eb (m:=67) (t:=3) (aw (n:=65) rfl) (aS (c:=1)) rfl rfl (by omega) (by omega)) (af (iaB (n:=63) (m:=68) rfl rfl (cm (aw (n:=67) rfl) (by omega)) hz) (af (fa1 z 68 69 rfl rfl) (af (ldp z 69 [14,15,16,17,18,19,20] rfl ⟨rfl,rfl,rfl,rfl,rfl,rfl,rfl,trivial⟩) (af (dp (k:=0) (m:=70) (S:=S) (r:=.one .sl0) (wK (n:=63) rfl) rfl (by omega)) (af (pi (n:=64) (ks:=[0,1,2,3,4,5,6]) (m:=71) (s:=s) rfl ⟨rfl,rfl,rfl,rfl,rfl,rfl,rfl,trivial⟩ rfl) (af (dz (k:=0) (n:=70) (xn:=71) (i:=plN S s.tm) (s:=s) (m:=72) (r:=.one .sl0) rfl rfl (cm (aw (n:=65) rfl) (by omega)) rfl (by omega) (by omega)) (af (j6 (j:=0) (n:=72) (t:=183) ⟨_,Tryz.underlying183⟩ rfl (l:=.ref 73) (fun _ _=>aB rfl aH)) (af (aE (t:=3) (aw (n:=73) rfl) (aS (c:=64)) (cj (by omega))) (af (ph (j:=0) (n:=72) (m:=74) (k:=1) (t:=183) Tryz.underlying183 (by kernel_rfl) rfl (by rfl) rfl (cm (aS (c:=1)) (by omega)) (by omega)) (af (dp (k:=1) (m:=75) (S:=((aN S (plN S s.tm) s).drop 1)) (r:=.one .sl0) (rl_o (j:=0) (n:=74) rfl) rfl (by omega)) (ai))))))))))))))))))) Tryz.func127 rfl (by kernel_rfl) aT ⟨dy,⟨(cE (n:=64) (ks:=[0,1,2,3,4,5,6]) (s:=s) rfl ⟨rfl,rfl,rfl,rfl,rfl,rfl,rfl,trivial⟩).2 i,trivial⟩⟩ (wN rfl)).mono ?_
 rintro e w' ⟨v,B',rfl,h1,h2,h3⟩;have e1:v= .int .i64 0:=h1;subst e1;exact⟨rfl,h2⟩
theorem q_addIMD {w:World} {g:Nat} {sl:Value} (S:List St) (s:St) (v:Value) (h:TrkS 223 w g sl S) (i:gA w v s) (hs:s.pose.ok 2) (gs:s.pose.good) (hS:S.length≤64) (r0:0≤s.tm) (r1:s.tm≤1099511627776) (hq:plN S s.tm<S.length) (y:St) (hy:S[plN S s.tm]? =some y) (ky:y.pose.ok 2) (gy:y.pose.good) (ey:y.tm≠s.tm) (ho:¬y.tm<s.tm) (z:St) (hz:S[plN S s.tm - 1]? =some z) (kz:z.pose.ok 2) (gz:z.pose.good) (hp:0<plN S s.tm) (oz:¬opp z.pose s.pose) (oy:¬opp s.pose y.pose) (hl:S.length=64):
  Calls Tryz.prog 127 (.pointer (some ⟨g,0,none⟩)::[v]).toArray w fun e w'=>e= .returned (.int .i64 0)∧TrkM 223 w g sl ((aN S (plN S s.tm) s).drop 1) w':=by
 have hle:=bH S s.tm;have hin:=bI (s:=s) hle;have hdr:((aN S (plN S s.tm) s).drop 1).length=(aN S (plN S s.tm) s).length - 1:=List.length_drop ..;have ht1:(S.take (plN S s.tm)).length=plN S s.tm:=by rw[List.length_take];omega
 have ht2:(S.take (plN S s.tm)++ [s]).length=plN S s.tm+1:=by rw[List.length_append,ht1];rfl
 refine(aP (ρ:=frs (j9 s y z)++([.rowB true sl stT S.length (aF S),.val (.int .i64 s.tm),.val (.int .i64 ((plN S s.tm:Nat):Int)),.val (.int .i64 (S.length:Int)),.plc stT y.qs,.val (.int .i64 y.tm),.val (.int .i64 (((plN S s.tm:Nat):Int) - 1)),.plc stT z.qs,.plc stT (frs z.pose.cs),.plc stT (frs y.pose.cs),.ownr stT 22 S.length (aF S),.row stT 1 s.qs,.ownr stT 22 (aN S (plN S s.tm) s).length (aF (aN S (plN S s.tm) s)),.val (.int .i64 ((aN S (plN S s.tm) s).length:Int)),.row stT ((aN S (plN S s.tm) s).drop 1).length (aF ((aN S (plN S s.tm) s).drop 1)),.ownr stT 22 ((aN S (plN S s.tm) s).drop 1).length (aF ((aN S (plN S s.tm) s).drop 1))]:List Vp)) (w:=w) (fuel:=300) (m:=63) (S':=(aN S (plN S s.tm) s).drop 1) (args:=[.one (.ptr 0 0),.agg (.ref 64::bT [0,1,2,3,4,5,6])]) (vs:=[.pointer (some ⟨g,0,none⟩),v]) (r:=.v (.one (.i .i64 0))) (l:=.own 1 78) (lo:=[]) (obs:=[]) h
  (ae (bV (ka:=[0,1,2,3,4,5,6]) (a:=s.pose) ⟨rfl,rfl,rfl,rfl,rfl,rfl,rfl,trivial⟩ (hs.mono (by decide)) gs) (ae (lK (ka:=[14,15,16,17,18,19,20]) (a:=z.pose) (kb:=[0,1,2,3,4,5,6]) (b:=s.pose) ⟨rfl,rfl,rfl,rfl,rfl,rfl,rfl,trivial⟩ ⟨rfl,rfl,rfl,rfl,rfl,rfl,rfl,trivial⟩ (kz.mono (by decide)) (hs.mono (by decide)) gz gs oz) (ae (lK (ka:=[0,1,2,3,4,5,6]) (a:=s.pose) (kb:=[7,8,9,10,11,12,13]) (b:=y.pose) ⟨rfl,rfl,rfl,rfl,rfl,rfl,rfl,trivial⟩ ⟨rfl,rfl,rfl,rfl,rfl,rfl,rfl,trivial⟩ (hs.mono (by decide)) (ky.mono (by decide)) gs gy oy) (ae (nh (n:=64) (ks:=[0,1,2,3,4,5,6]) (s:=s) rfl ⟨rfl,rfl,rfl,rfl,rfl,rfl,rfl,trivial⟩ (hs.mono (by decide))) ah))))
  (af (bR (y:=0) (o:=0) (t:=154) ⟨_,Tryz.underlying154⟩) (af (aE (t:=3) (aw (n:=64) rfl) (aS (c:=0)) (aW (by omega))) (af (aE (t:=3) (aw (n:=64) rfl) (aS (c:=1099511627776)) (aV (by omega))) (af (de (u:=0) (m:=63) (S:=S) (a:=s.tm) (n:=65) (r:=.one .sl0) rfl (aw (n:=64) rfl) rfl (by omega)) (af (ft 63 66 rfl rfl) (af (aE (t:=3) (aw (n:=65) rfl) (aw (n:=66) rfl) (bp (by omega))) (af (iaB (n:=63) (m:=67) rfl rfl (cm (aw (n:=65) rfl) (by omega)) hy) (af (fa0 y 67 rfl) (af (ldt y 67 68 rfl rfl) (af (aE (t:=3) (aw (n:=68) rfl) (aw (n:=64) rfl) (bX (by omega))) (af (aE (t:=3) (aw (n:=65) rfl) (aS (c:=0)) (cj (by omega))) (af (eb (m:=69) (t:=3) (aw (n:=65) rfl) (aS (c:=1)) rfl rfl (by omega) (by omega)) (af (iaB (n:=63) (m:=70) rfl rfl (cm (aw (n:=69) rfl) (by omega)) hz) (af (fa1 z 70 71 rfl rfl) (af (ldp z 71 [14,15,16,17,18,19,20] rfl ⟨rfl,rfl,rfl,rfl,rfl,rfl,rfl,trivial⟩) (af (fa1 y 67 72 rfl rfl) (af (ldp y 72 [7,8,9,10,11,12,13] rfl ⟨rfl,rfl,rfl,rfl,rfl,rfl,rfl,trivial⟩) (af (dp (k:=0) (m:=73) (S:=S) (r:=.one .sl0) (wK (n:=63) rfl) rfl (by omega)) (af (pi (n:=64) (ks:=[0,1,2,3,4,5,6]) (m:=74) (s:=s) rfl ⟨rfl,rfl,rfl,rfl,rfl,rfl,rfl,trivial⟩ rfl) (af (dz (k:=0) (n:=73) (xn:=74) (i:=plN S s.tm) (s:=s) (m:=75) (r:=.one .sl0) rfl rfl (cm (aw (n:=65) rfl) (by omega)) rfl (by omega) (by omega)) (af (j6 (j:=0) (n:=75) (t:=183) ⟨_,Tryz.underlying183⟩ rfl (l:=.ref 76) (fun _ _=>aB rfl aH)) (af (aE (t:=3) (aw (n:=76) rfl) (aS (c:=64)) (cj (by omega))) (af (ph (j:=0) (n:=75) (m:=77) (k:=1) (t:=183) Tryz.underlying183 (by kernel_rfl) rfl (by rfl) rfl (cm (aS (c:=1)) (by omega)) (by omega)) (af (dp (k:=1) (m:=78) (S:=((aN S (plN S s.tm) s).drop 1)) (r:=.one .sl0) (rl_o (j:=0) (n:=77) rfl) rfl (by omega)) (ai))))))))))))))))))))))))) Tryz.func127 rfl (by kernel_rfl) aT ⟨dy,⟨(cE (n:=64) (ks:=[0,1,2,3,4,5,6]) (s:=s) rfl ⟨rfl,rfl,rfl,rfl,rfl,rfl,rfl,trivial⟩).2 i,trivial⟩⟩ (wN rfl)).mono ?_
 rintro e w' ⟨v,B',rfl,h1,h2,h3⟩;have e1:v= .int .i64 0:=h1;subst e1;exact⟨rfl,h2⟩
def fW:List Nat→List Leaf
 | []=>[]
 | n::ns=>.ref n::.ref (n+1)::.ref (n+2)::fW ns
def fX (ns:List Nat):SV:=.agg (fW ns)
def AtR (ρ:Rho):List Nat→List Rq→Prop
 | [],[]=>True
 | n::ns,r::rs=>(ρ[n]? =some (.val (.bool r.s))∧ρ[n+1]? =some (.dig r.L r.p)∧ρ[n+2]? =some (.dig r.N r.q))∧AtR ρ ns rs
 | _,_=>False
def Rq.vld (r:Rq):Bool:=decide (nl r.p=r.L∧nl r.q=r.N) && (Fq.mk r.s r.p r.q).valid
section
variable {ρ:Rho} {xs:List Fq} {ys:Rho} {n m k:Nat} {u v:Int} {l:Leaf} {t:TypeId} {B:Blk} {w:World} {r:Rq}
theorem fw:∀ {ns:List Nat} {rs:List Rq} {cs:List Value},AtR ρ ns rs→(aC ρ B w (fW ns) cs↔aM w rs cs)
 | [],[],cs,_=>by
  constructor
  ·intro h;match cs,h with | [],_=>rfl
  ·intro h;have h:cs=[]:=h;subst h;trivial
 | n::ns,r::rs,cs,h=>by
  obtain⟨⟨h1,h2,h3⟩,h4⟩:=h;have ih:=fun cs=>fw (ns:=ns) (rs:=rs) (cs:=cs) h4
  constructor
  ·intro hl
   match cs,hl with
   | u1::u2::u3::cs',hl=>
    obtain⟨g1,g2,g3,g4⟩:=hl;have e1:=(leafB h1).1 g1;have e2:=(iF h2).1 g2;have e3:=(iF h3).1 g3;obtain⟨a,c,rfl⟩:=jg e2;obtain⟨b,d,rfl⟩:=jg e3;subst e1;exact⟨a,c,b,d,cs',rfl,e2,e3,(ih cs').1 g4⟩
   | [],hl=>exact hl.elim
   | [_],hl=>exact hl.2.elim
   | [_,_],hl=>exact hl.2.2.elim
  ·rintro⟨a,c,b,d,cs',rfl,i1,i2,i3⟩;exact⟨(leafB h1).2 rfl,(iF h2).2 i1,(iF h3).2 i2,(ih cs').2 i3⟩
 | [],_::_,_,h=>h.elim
 | _::_,[],_,h=>h.elim
theorem bB {ns:List Nat} {rs:List Rq} {x:Value} (h:AtR ρ ns rs):(fX ns).holds ρ B w x↔IsL w x rs:=by
 constructor
 ·rintro⟨cs,rfl,h1⟩;exact⟨cs,rfl,(fw h).1 h1⟩
 ·rintro⟨cs,rfl,h1⟩;exact⟨cs,rfl,(fw h).2 h1⟩
theorem isL_FR {x:Value} (h:IsL w x [r]):ug w x r.s r.L r.p r.N r.q:=by
 obtain⟨cs,rfl,a,c,b,d,cs',rfl,i1,i2,e⟩:=h;have e:cs'=[]:=e;subst e;exact⟨a,c,b,d,rfl,i1,i2⟩
theorem dL (h:r.vld=true):r=(Fq.mk r.s r.p r.q).raw∧(Fq.mk r.s r.p r.q).valid=true:=by
 unfold Rq.vld at h;simp only[Bool.and_eq_true,decide_eq_true_eq]at h;obtain⟨⟨h1,h2⟩,h3⟩:=h;refine⟨?_,h3⟩;obtain⟨s,L,p,N,q⟩:=r;simp only at h1 h2;subst h1;subst h2;rfl
theorem zZ (x:Value) (w:World) (h:IsL w x [r]) (hL:r.L≤1000000) (hN:r.N≤1000000):Calls Tryz.prog 235 #[x] w fun e w'=>cI w (.bool r.vld) e w':=by
 have hf:=isL_FR h;by_cases hc:nl r.p=r.L∧nl r.q=r.N
 ·have e:r.vld=(Fq.mk r.s r.p r.q).valid:=by unfold Rq.vld;simp[hc]
  rw[e];exact uh x ⟨r.s,r.p,r.q⟩ w (hf.isQ hc.1 hc.2) (by show nl r.p≤_;omega) (by show nl r.q≤_;omega)
 ·have e:r.vld=false:=by unfold Rq.vld;simp[hc]
  rw[e];exact zz x r.s r.L r.p r.N r.q w hf hL hN hc
theorem instX {f:FuncId} {b d:Bool} (hen:jy f) (hc:∀x w,IsL w x [r]→Calls Tryz.prog f #[x] w (fun e w'=>cI w (.bool b) e w')) (hr:AtR (frs xs++ys) [n] [r]) (h:b=d):OkI xs ys ⟨f,[fX [n]],.v (.one (.b d))⟩:=
 ⟨hen,fun B w vs hB hv=>by
  match vs,hv with
  | [va],hv=>
   refine(hc va w ((bB hr).1 hv.1)).mono ?_;rintro e w' ⟨rfl,h2⟩;exact⟨_,rfl,by subst h;rfl,h2⟩⟩
theorem bh {d:Bool} (hr:AtR (frs xs++ys) [n] [r]) (h:r.vld=d) (hL:r.L≤1000000) (hN:r.N≤1000000):OkI xs ys ⟨235,[fX [n]],.v (.one (.b d))⟩:=
 instX (az Tryz.func235 rfl rfl) (fun x w hx=>zZ x w hx hL hN) hr h
end
theorem sL {r:Rq} (h:r.vld=true):nl r.p=r.L∧nl r.q=r.N:=by
 unfold Rq.vld at h;simp only[Bool.and_eq_true,decide_eq_true_eq]at h;exact h.1
def Rq.sh (r:Rq):Bool:=decide (r.L≤4) && decide (r.N≤4)
def Rq.sm (r:Rq):Bool:=r.sh && r.vld
end Go.Proofs.YtggfmklppkioeaaGreat
