/- An executor: rows that the call itself made, appended to and left. Stamps and rows of stamps: what an executor asks of them. Package slices: Clone of digits and of stamps, Insert of a stamp. Tracks: what an executor asks of rows that belong to an object; methods of tracks. Tracks: a track in memory; how its methods are walked and called. Tracks: calls of methods of tracks, of Clone and of Insert, as an executor meets them. Tracks: places of times in a list of stamps; walks with one answer. -/
import Derived.Test.YtggfmklppkioeaaGreatP10
import Derived.Lib.SliceRun
import Derived.Lib.Overlaps
import Derived.Lib.AppendZerosOnto
import Derived.Lib.JoinLaws
import Derived.Laws.Externs
import Derived.Shelf.RegionOpenPlain
namespace Go.Proofs.YtggfmklppkioeaaGreat
set_option linter.unusedSimpArgs false
set_option linter.unusedVariables false
set_option maxRecDepth 100000
open Go.RowKit
theorem lG {v:Value} (h:dU v):v.oneCell'=true:=by
 cases v with
 | agg cs=>exact absurd rfl (h.1 cs)
 | tuple vs=>exact absurd rfl (h.2.1 vs)
 | _=>rfl
def bA (w:World) (qs:List Vp) (xs:List Value):Prop:=xs.length=qs.length∧∀(j:Nat) (q:Vp),qs[j]? =some q→∃u,xs[j]? =some u∧q.p w u∧∀g,¬q.fp w u g
theorem bA.append {w:World} {qs qs':List Vp} {xs xs':List Value} (h:bA w qs xs) (h':bA w qs' xs'):bA w (qs++qs') (xs++xs'):=by
 refine⟨by simp[h.1,h'.1],fun j q hj=> ?_⟩;by_cases hl:j<qs.length
 ·rw[List.getElem?_append_left hl]at hj;obtain⟨u,h1,h2⟩:=h.2 j q hj;exact⟨u,by rw[List.getElem?_append_left (by rw[h.1];exact hl)];exact h1,h2⟩
 ·rw[List.getElem?_append_right (by omega)]at hj;obtain⟨u,h1,h2⟩:=h'.2 _ q hj;exact⟨u,by rw[List.getElem?_append_right (by rw[h.1];omega),h.1];exact h1,h2⟩
theorem bA.chg {w w':World} {X:Nat→Prop} {qs:List Vp} {xs:List Value} (h:bA w qs xs) (k:Chg w w' X):bA w' qs xs:=
 ⟨h.1,fun j q hj=>by
  obtain⟨u,h1,h2,h3⟩:=h.2 j q hj;obtain⟨c1,c2⟩:=q.ch w w' X u h2 k (fun g hg=>absurd hg (h3 g));exact⟨u,h1,c1,fun g hg=>h3 g (c2 g hg)⟩⟩
theorem bA.flat {w:World} {qs:List Vp} {xs:List Value} (h:bA w qs xs):∀u∈xs,dU u:=fun u hu=>by
 obtain⟨j,hj,rfl⟩:=List.getElem_of_mem hu;have hq:j<qs.length:=by rw[←h.1];exact hj
 obtain⟨u',h1,h2,_⟩:=h.2 j _ (List.getElem?_eq_getElem hq);rw[List.getElem?_eq_getElem hj]at h1;injection h1 with h1;rw[h1];exact qs[j].fl w u' h2
def noU (u:Value):Prop:=∀n,u≠ .int .u32 n
def dZ (w:World) (T:TypeId) (sz:Nat) (v:Value) (L:Nat) (xs:List Value):Prop:=w.ownsRow 0 T sz v L xs∧∀g,v.ownBlock=some g→Own w g
theorem j4 {w:World} {g:Nat} {cs:Array Value} {t:TypeId} (h:w.heap[g]? =some (.cells cs t (0,0))) (hc:∀u∈cs.toList,noU u):Own w g:=
 ⟨cs,t,h,fun k n hk=>hc (.int .u32 n) (by rw[←Array.getElem?_toList]at hk;exact List.mem_of_getElem? hk) n rfl⟩
theorem zR {w:World} {g:Nat} {cs:Array Value} {t:TypeId} {fz:Nat×Nat} (h:w.heap[g]? =some (.cells cs t fz)) (o:Own w g):∀u∈cs.toList,noU u:=fun u hu n e=>by
 obtain⟨cs',t',h1,h2⟩:=o;rw[h]at h1;injection h1 with h1;injection h1 with h1 _ _;subst h1;obtain⟨k,hk⟩:=List.getElem?_of_mem hu;rw[Array.getElem?_toList,e]at hk;exact h2 k n hk
theorem ux {z:Array Value} (hz:∀u∈z.toList,noU u) (h0:0<z.size) (n:Nat):∀u∈(Builtin.zeroCells z n).toList,noU u:=fun u hu=>by
 unfold Builtin.zeroCells at hu;simp only[Array.toList_map,Array.toList_range,List.mem_map]at hu;obtain⟨i,_,rfl⟩:=hu;have hk:i % z.size<z.size:=Nat.mod_lt _ h0;rw[getElem!_pos z _ hk];exact hz _ (by simp)
theorem sJ {p:Program} {w:World} {t ty e:TypeId} {i:TypeInfo} {z:Value} (ht:p.underlying t=some (.slice e)) (hi:p.info? e=some i) (hz:i.zero=some z) (hzs:z.cells.size=i.size) (hsz:0<i.size) (hzu:∀u∈z.cells.toList,noU u)
  {v:Value} {n:Nat} {xs:List Value} (ho:dZ w e i.size v n xs) {a:Addr} {m c:Nat} {news:List Value} (hl:news.length=m*i.size) (hnews:∀j u,news[j]? =some u→w.cell? (a.add j)=some u) (h1:∀u∈news,u.oneCell'=true) (hnu:∀u∈news,noU u)
  (hm:0<m) (hb:(n+m)*i.bytes≤140737488355328) (hn:n+m≤1000000000000000):
  ∃v' w',(Builtin.append_ #[t,t] ty #[v,.slice (some a) m c]).run p w= .ok v' w'∧w.grownBy w' v.ownBlock∧(∀g,v.ownBlock=some g→Own w' g)∧(∀g,v'.ownBlock=some g→v.ownBlock=some g∨w.heap.size≤g)∧dZ w' e i.size v' (n+m) (xs++news):=by
 obtain⟨hown,hOwn⟩:=ho;have hlen:(xs++news).length=(n+m)*i.size:=by rw[List.length_append,hown.1,hl,Nat.add_mul]
 have hmax:n+m≤maxLen:=by simp only[maxLen];omega
 have moved:∀old,(∀u∈xs,noU u)→
   w.grownBy (w.drew.alloc (.cells (xs.toArray++news.toArray++Builtin.zeroCells z.cells (grownCap w (n+m) old e - (n+m))) e)) v.ownBlock∧
   dZ (w.drew.alloc (.cells (xs.toArray++news.toArray++Builtin.zeroCells z.cells (grownCap w (n+m) old e - (n+m))) e)) e i.size (.slice (some ⟨w.heap.size,0,none⟩) (n+m) (grownCap w (n+m) old e)) (n+m) (xs++news):=by
  intro old hxu;have h2:=grownCap_ge w (n+m) old e;have hnew:=heap_alloc_new w.drew (.cells (xs.toArray++news.toArray++Builtin.zeroCells z.cells (grownCap w (n+m) old e - (n+m))) e);refine⟨⟨rfl,rfl,rfl,by simp,fun k hk _=>heap_alloc_old w.drew _ hk⟩,⟨hlen,.inr ⟨w.heap.size,_,_,rfl,Nat.zero_le _,hnew,h2,grownCap_le_maxLen w (n+m) old e hmax,?_,?_⟩⟩,fun g hg=> ?_⟩
  ·simp only[Array.size_append,List.size_toArray,size_zeroCells,hzs,hown.1,hl];rw[←Nat.add_mul,←Nat.add_mul]
   congr 1;omega
  ·simp only[Array.toList_append,List.append_assoc];rw[←List.append_assoc,←hlen];exact List.take_left
  ·injection hg with hg;subst hg;refine j4 hnew (fun u hu=> ?_);simp only[Array.toList_append,List.mem_append]at hu;rcases hu with(hu | hu) | hu
   ·exact hxu u hu
   ·exact hnu u hu
   ·exact ux hzu (by omega) _ u hu
 rcases hown.2 with⟨rfl,rfl⟩ | ⟨g,cap,cur,rfl,hbg,hg,hnc,hcm,hcs,htake⟩
 ·have hx:xs=[]:=List.eq_nil_of_length_eq_zero (by simpa using hown.1);subst hx;have hr:=run_append_nil (P:=p) w t ty e i z ht hi hz a m c news hl hnews (by omega) (by omega) (by have:=hb;simp only[Nat.zero_add]at this;omega);have h2:=moved 0 (fun u hu=>by cases hu);simp only[Nat.zero_add,List.nil_append,Array.empty_append]at h2⊢;exact⟨_,_,hr,h2.1,fun g hg=>(by cases hg),fun g hg=>.inr (by have h:w.heap.size=g:=Option.some.inj hg;omega),h2.2⟩
 ·have hcu:=zR hg (hOwn g rfl);by_cases hroom:n+m≤cap
  ·have hfit:n*i.size+news.length≤cur.size:=by rw[hl,hcs,←Nat.add_mul];exact Nat.mul_le_mul_right _ hroom
   have hr:=run_append_room (P:=p) w t ty e i ht hi g n cap cur hg a m c news hl hnews h1 hroom hfit;have hset:=setRow_heap w g cur (cur.toList.take (n*i.size)++news++cur.toList.drop (n*i.size+news.length)).toArray e (0,0) hg;refine⟨_,_,hr,⟨rfl,rfl,rfl,by simp,fun k _ hk=>setRow_other w g k _ (fun e=>hk (by simp[Value.ownBlock,e]))⟩,fun g' hg'=> ?_,fun g' hg'=>.inl hg',⟨hlen,.inr ⟨g,cap,_,rfl,hbg,hset,hroom,hcm,?_,?_⟩⟩,fun g' hg'=> ?_⟩
   ·injection hg' with hg';subst hg';refine j4 hset (fun u hu=> ?_);simp only[List.mem_append]at hu;rcases hu with(hu | hu) | hu
    ·exact hcu u (List.mem_of_mem_take hu)
    ·exact hnu u hu
    ·exact hcu u (List.mem_of_mem_drop hu)
   ·simp only[List.size_toArray,List.length_append,List.length_take,List.length_drop,Array.length_toList];omega
   ·rw[htake,←hlen];exact List.take_left
   ·injection hg' with hg';subst hg';refine j4 hset (fun u hu=> ?_);simp only[List.mem_append]at hu;rcases hu with(hu | hu) | hu
    ·exact hcu u (List.mem_of_mem_take hu)
    ·exact hnu u hu
    ·exact hcu u (List.mem_of_mem_drop hu)
  ·have holds:∀j u,xs[j]? =some u→w.cell? ((⟨g,0,none⟩:Addr).add j)=some u:=hown.cells (g:=g) rfl;have hr:=run_append_grow (P:=p) w t ty e i z ht hi hz ⟨g,0,none⟩ n cap xs hown.1 holds a m c news hl hnews (by omega) (by omega) (growslice_fits (by omega) hb);have h2:=moved cap (fun u hu=>hcu u (by rw[←htake]at hu;exact List.mem_of_mem_take hu));exact⟨_,_,hr,h2.1,fun g' hg'=>by
    injection hg' with hg';subst hg';obtain⟨cs,t,k1,k2⟩:=hOwn g rfl;exact⟨cs,t,(heap_alloc_old w.drew _ (Array.getElem?_eq_some_iff.1 k1).1).trans k1,k2⟩,fun g' hg'=>.inr (by have h:w.heap.size=g':=Option.some.inj hg';omega),h2.2⟩
def Vp.ownr (T:TypeId) (sz L:Nat) (qs:List Vp):Vp:=.of (fun w v=>∃xs,dZ w T sz v L xs∧bA w qs xs)
 (fun v g=>v.ownBlock=some g)
 (fun w w' X v ⟨xs,⟨⟨h1,h2⟩,h0⟩,k⟩ hc hX=>by
  have hsame:∀g,v.ownBlock=some g→w'.heap[g]? =w.heap[g]? :=fun g hg=>hc.blk g (by obtain⟨cs,t,h,_⟩:=h0 g hg;exact(Array.getElem?_eq_some_iff.1 h).1) (hX g hg)
  refine⟨xs,⟨⟨h1,h2.imp id fun⟨g,cap,cur,e,hb,hg,hr⟩=>⟨g,cap,cur,e,hb,by rw[hsame g (by rw[e];rfl)];exact hg,hr⟩⟩,fun g hg=> ?_⟩,k.chg hc⟩;obtain⟨cs,t,h3,h4⟩:=h0 g hg;exact⟨cs,t,by rw[hsame g hg];exact h3,h4⟩)
 (fun w v g ⟨xs,⟨_,h0⟩,_⟩ hg=>by obtain⟨cs,t,h,_⟩:=h0 g hg;exact(Array.getElem?_eq_some_iff.1 h).1)
 (fun w v ⟨xs,⟨⟨_,h⟩,_⟩,_⟩=>by
  rcases h with⟨rfl,_⟩ | ⟨g',cap,cur,rfl,_⟩<;>exact oO)
section
variable {ρ:Rho} {n m r k i L M:Nat} {t T:TypeId} {qs qs':List Vp} {z:Value} {ti:TypeInfo} {l:Leaf}
theorem lH {w:World} {x:Value} (hx:(Vp.row T M qs').p w x) (h0:qs'≠ []):∃a c news,x= .slice (some a) M c∧bA w qs' news∧(∀j u,news[j]? =some u→w.cell? (a.add j)=some u):=by
 rcases hx with⟨h,_⟩ | ⟨b,o,c,cs,rfl,hc,hb,hq⟩
 ·exact absurd h h0
 ·have:∃news:List Value,bA w qs' news∧∀j u,news[j]? =some u→cs[o+j]? =some u:=by
   clear h0 hc hb
   induction qs' generalizing o with
   | nil=>exact⟨[],⟨rfl,fun j q h=>by simp at h⟩,fun j u h=>by simp at h⟩
   | cons q qs ih=>
    obtain⟨u,h1,h2,h3⟩:=hq 0 q rfl;obtain⟨news,h4,h5⟩:=ih (o+1) (fun j q hj=>by
     obtain⟨u,h1,h2⟩:=hq (j+1) q (by simpa using hj);exact⟨u,by rw[show o+1+j=o+(j+1)from by omega];exact h1,h2⟩)
    refine⟨u::news,⟨by simp[h4.1],fun j q' hj=> ?_⟩,fun j u' hj=> ?_⟩
    ·match j with
     | 0=>simp at hj;subst hj;exact⟨u,rfl,h2,h3⟩
     | j+1=>obtain⟨u',k1,k2⟩:=h4.2 j q' (by simpa using hj);exact⟨u',by simpa using k1,k2⟩
    ·match j with
     | 0=>simp at hj;subst hj;exact h1
     | j+1=>have:=h5 j u' (by simpa using hj);rwa [show o+1+j=o+(j+1)from by omega]at this
  obtain⟨news,h1,h2⟩:=this;exact⟨⟨b,o,none⟩,c,news,rfl,h1,fun j u hj=>by rw[dr,aA hb];exact h2 j u hj⟩
def BefO (ρ:Rho) (i:Nat) (T:TypeId) (sz L:Nat) (qs:List Vp) (l:Leaf):Prop:=(l= .sl0∧L=0∧qs=[])∨∃n,l= .own i n∧ρ[n]? =some (.ownr T sz L qs)
theorem o_app (ht:Tryz.prog.underlying t=some (.slice T)) (hi:Tryz.prog.info? T=some ti) (hz:ti.zero=some z) (hzs:z.cells.size=ti.size) (hsz:0<ti.size) (hzu:∀u∈z.cells.toList,noU u)
  (hl:BefO ρ i T ti.size L qs l) (hr:ρ[r]? =some (.row T M qs')) (hm:ρ[m]? =some (.ownr T ti.size (L+M) (qs++qs'))) (hq:qs'.length=M*ti.size) (hM:0<M) (hb:(L+M)*ti.bytes≤140737488355328) (hn:L+M≤1000000000000000):
  (OIns.mk (.app t) [.one l,.one (.ref r)] (.one (.own i m))).Ok Tryz.prog ρ:=fun B w vs hv=>by
 match vs,hv with
 | [v1,v2],hv=>
  have h1:∃xs,dZ w T ti.size v1 L xs∧bA w qs xs:=by
   rcases hl with⟨rfl,rfl,rfl⟩ | ⟨n,rfl,hn⟩
   ·have e:v1= .slice none 0 0:=hv.1;subst e;exact⟨[],⟨World.ownsRow_nil _ _ _ _,fun g hg=>by cases hg⟩,rfl,fun j q h=>by simp at h⟩
   ·obtain⟨s,k1,k2,_⟩:=hv.1;rw[hn]at k1;injection k1 with k1;subst k1;exact k2
  obtain⟨xs,hox,hcx⟩:=h1;obtain⟨s,k1,k2,_⟩:=hv.2.1;rw[hr]at k1;injection k1 with k1;subst k1;have hq0:qs'≠ []:=fun e=>by subst e;simp at hq;have:=Nat.mul_pos hM hsz;omega
  obtain⟨a,c,news,rfl,hcn,hcell⟩:=lH k2 hq0;intro ty;obtain⟨v',w',hrun,hg,hold,hblk,hown⟩:=sJ (p:=Tryz.prog) (ty:=ty) (c:=c) ht hi hz hzs hsz hzu hox (by rw[hcn.1,hq]) hcell (fun u hu=>lG (hcn.flat u hu)) (fun u hu=>fun n e=>(hcn.flat u hu).2.2 n e) hM hb hn;have hchg:Chg w w' (fun g=>v1.ownBlock=some g):=⟨hg.size,fun g h1 h2=>hg.block g h1 (fun e=>h2 e.symm),fun g h=>(hox.2 g h).x⟩;refine⟨v',w',hrun,hg,fun g h=>(hold g h).x,fun g hgv=>⟨hblk g hgv,?_,(hown.2 g hgv).x⟩,_,hm,⟨xs++news,hown,(hcx.append hcn).chg hchg⟩,fun g hgv=>hgv⟩;obtain⟨cs,t,h,_⟩:=hown.2 g hgv;exact(Array.getElem?_eq_some_iff.1 h).1
theorem iO {w:World} {v:Value} {sz:Nat} (h:(Vp.ownr T sz L qs).p w v):(Vp.row T L qs).p w v:=by
 obtain⟨xs,⟨⟨h1,h2⟩,_⟩,h3⟩:=h;rcases h2 with⟨rfl,rfl⟩ | ⟨g,cap,cur,rfl,_,hg,hn,_,hcs,htake⟩
 ·refine .inl ⟨?_,rfl,rfl⟩;have:xs.length=0:=by simpa using h1
  exact List.eq_nil_of_length_eq_zero (by rw[←h3.1];exact this)
 ·refine .inr ⟨g,0,cap,cur,rfl,hn,hg,fun j q hj=> ?_⟩;obtain⟨u,k1,k2⟩:=h3.2 j q hj;refine⟨u,?_,k2⟩;rw[←htake,List.getElem?_take]at k1;split at k1
  ·rw[Nat.zero_add,←Array.getElem?_toList];exact k1
  ·cases k1
theorem o_frz {sz:Nat} (hn:ρ[n]? =some (.ownr T sz L qs)) (hm:ρ[m]? =some (.row T L qs)):(OIns.mk (.frz r i) [.one (.ref n)] (.one (.ref m))).Ok Tryz.prog ρ:=fun B w vs hv=>by
 match vs,hv with
 | [v1],hv=>
  obtain⟨s,h1,h2,h3⟩:=hv.1;rw[hn]at h1;injection h1 with h1;subst h1;exact⟨_,hm,iO h2,fun g ⟨o,n',c,e⟩=>h3 g (by rw[e];rfl)⟩
def noUb:Value→Bool
 | .int .u32 _=>false
 | _=>true
def appB (p:Program) (T:TypeId) (sz bytes:Nat):Bool:=match p.info? T with
 | some ti=>(match ti.zero with | some z=>z.cells.size==sz && z.cells.toList.all noUb | none=>false) && (ti.size==sz && (ti.bytes==bytes && decide (0<sz)))
 | none=>false
theorem j5 {sz bytes K:Nat} {qs2:List Vp} (ht:Tryz.prog.underlying t=some (.slice T)) (hB:appB Tryz.prog T sz bytes=true) (hl:BefO ρ i T sz L qs l) (hr:ρ[r]? =some (.row T M qs')) (hm:ρ[m]? =some (.ownr T sz K qs2)) (hK:K=L+M) (h2:qs2=qs++qs')
  (hq:qs'.length=M*sz) (hM:0<M) (hb:(L+M)*bytes≤140737488355328) (hn:L+M≤1000000000000000):(OIns.mk (.app t) [.one l,.one (.ref r)] (.one (.own i m))).Ok Tryz.prog ρ:=by
 unfold appB at hB;split at hB
 ·rename_i ti hi;simp only[Bool.and_eq_true,beq_iff_eq,decide_eq_true_eq]at hB;obtain⟨hz,h3,h4,h5⟩:=hB;split at hz
  ·rename_i z hz';simp only[Bool.and_eq_true,beq_iff_eq]at hz;subst h3;subst h4;subst hK;subst h2;refine o_app ht hi hz' hz.1 h5 (fun u hu n e=> ?_) hl hr hm hq hM hb hn;have:=List.all_eq_true.1 hz.2 u hu;subst e;exact Bool.noConfusion (show false=true from this)
  ·cases hz
 ·cases hB
end
structure St where
 tm:Int
 pose:Pq
def St.qs (s:St):List Vp:=.val (.int .i64 s.tm)::frs s.pose.cs
def aF (S:List St):List Vp:=S.flatMap St.qs
theorem St.qs_len (s:St):s.qs.length=22:=rfl
theorem fm:∀(S:List St),(aF S).length=S.length*22
 | []=>rfl
 | s::S=>by
  have:=fm S;simp only[aF,List.flatMap_cons,List.length_append,List.length_cons,St.qs_len]at this⊢;omega
theorem lI (S S':List St):aF (S++S')=aF S++aF S':=by simp[aF]
theorem uy:∀ {S:List St} {k:Nat} {x:St} {j:Nat} {q:Vp},S[k]? =some x→x.qs[j]? =some q→(aF S)[k*22+j]? =some q
 | [],_,_,_,_,h,_=>by simp at h
 | s::S,0,x,j,q,h,hq=>by
  simp at h;subst h;have hj:j<s.qs.length:=(List.getElem?_eq_some_iff.1 hq).1;simp only[aF,List.flatMap_cons,Nat.zero_mul,Nat.zero_add];rw[List.getElem?_append_left hj];exact hq
 | s::S,k+1,x,j,q,h,hq=>by
  have:=uy (S:=S) (k:=k) (x:=x) (by simpa using h) hq;simp only[aF,List.flatMap_cons]at this⊢;rw[List.getElem?_append_right (by rw[St.qs_len];omega),St.qs_len,show(k+1)*22+j - 22=k*22+j from by omega];exact this
theorem zS (S:List St) (k:Nat) (hk:k≤S.length) (j:Nat) (q:Vp) (h:(aF (S.drop k))[j]? =some q):(aF S)[k*22+j]? =some q:=by
 have h1:aF S=aF (S.take k)++aF (S.drop k):=by rw[←lI,List.take_append_drop]
 have h2:(aF (S.take k)).length=k*22:=by rw[fm,List.length_take];congr 1;omega
 rw[h1,List.getElem?_append_right (by omega),h2,Nat.add_sub_cancel_left];exact h
theorem rowS_ne {S:List St} {k:Nat} {x:St} (h:S[k]? =some x):aF S≠ []:=fun e=>by
 have:=fm S;have h2:=(List.getElem?_eq_some_iff.1 h).1;rw[e]at this;simp at this;omega
def KI (ρ:Rho) (l:Leaf) (k:IntKind) (u:Int):Prop:=∀B w x,l.holds ρ B w x→x= .int k u
section
variable {ρ:Rho} {n m k r:Nat} {u v c:Int} {b d:Bool} {l l':Leaf} {t T e:TypeId} {B:Blk} {w:World} {ik:IntKind} {x:St} {S:List St}
theorem aS:KI ρ (.i ik c) ik c:=fun _ _ _ h=>h
theorem aw (h:ρ[n]? =some (.val (.int ik u))):KI ρ (.ref n) ik u:=fun _ _ _ hx=>aO h hx
theorem cm (h:KI ρ l ik u) (e:u=v):KI ρ l ik v:=e▸h
def jA (op:BinOp) (u v:Int):Option Bool:=match op with
 | .eql=>some (u==v)
 | .neq=>some (u !=v)
 | .lss=>some (decide (u<v))
 | .leq=>some (decide (u≤v))
 | .gtr=>some (decide (v<u))
 | .geq=>some (decide (v≤u))
 | _=>none
theorem aE {op:BinOp} (h1:KI ρ l ik u) (h2:KI ρ l' ik v) (hb:jA op u v=some b):(OIns.mk (.bin op t) [.one l,.one l'] (.one (.b b))).Ok Tryz.prog ρ:=fun B w vs hv=>by
 match vs,hv with
 | [v1,v2],hv=>
  have e:=h1 _ _ _ hv.1;have e2:=h2 _ _ _ hv.2.1;subst e;subst e2;refine⟨.bool b,rfl,fun xo yo=> ?_⟩;cases op<;>simp only[jA,Option.some.injEq]at hb<;>first | (cases hb;done) | (subst hb;simp[eqGuard,binOp,Op.intCmp,Sem.run_bind,Result.andThen])
theorem eb (h1:KI ρ l .i64 u) (h2:KI ρ l' .i64 v) (hm:ρ[m]? =some (.val (.int .i64 c))) (hc:c=u - v) (k1: -9223372036854775808≤u - v) (k2:u - v≤9223372036854775807):(OIns.mk (.bin .sub t) [.one l,.one l'] (.one (.ref m))).Ok Tryz.prog ρ:=fun B w vs hv=>by
 match vs,hv with
 | [v1,v2],hv=>
  have e:=h1 _ _ _ hv.1;have e2:=h2 _ _ _ hv.2.1;subst e;subst e2;subst hc;refine⟨.int .i64 (u - v),aB hm aH,fun xo yo=> ?_⟩;have hw:IntKind.i64.wrap (u - v)=u - v:=by rw[IntKind.wrap_i64];omega
  simp[eqGuard,binOp,Op.intArith,Sem.run_bind,Result.andThen,hw]
theorem sK (h1:KI ρ l .i64 u) (h2:KI ρ l' .i64 v) (hm:ρ[m]? =some (.val (.int .i64 c))) (hc:c=u+v) (k1: -9223372036854775808≤u+v) (k2:u+v≤9223372036854775807):(OIns.mk (.bin .add t) [.one l,.one l'] (.one (.ref m))).Ok Tryz.prog ρ:=fun B w vs hv=>by
 match vs,hv with
 | [v1,v2],hv=>
  have e:=h1 _ _ _ hv.1;have e2:=h2 _ _ _ hv.2.1;subst e;subst e2;subst hc;refine⟨.int .i64 (u+v),aB hm aH,fun xo yo=> ?_⟩;have hw:IntKind.i64.wrap (u+v)=u+v:=by rw[IntKind.wrap_i64];omega
  simp[eqGuard,binOp,Op.intArith,Sem.run_bind,Result.andThen,hw]
theorem run_eqPN {P:Program} {e:TypeId} (he:P.underlying t=some (.pointer e)) (a:Addr):(Op.equal t (.pointer (some a)) (.pointer none)).run P w= .ok false w:=by
 unfold Op.equal Op.maxDepth Op.equalIn;rw[Sem.run_bind,run_underlying he];rfl
theorem bR {y:Nat} {o:Nat} (ht:∃e,Tryz.prog.underlying t=some (.pointer e)):(OIns.mk (.bin .eql t) [.one (.ptr y o),.one .nilp] (.one (.b false))).Ok Tryz.prog ρ:=fun B w vs hv=>by
 match vs,hv with
 | [v1,v2],hv=>
  obtain⟨g,_,e⟩:=hv.1;have e2:v2= .pointer none:=hv.2.1;subst e;subst e2;obtain⟨e,he⟩:=ht;exact⟨.bool false,rfl,fun xo yo=>by simp[eqGuard,binOp,Sem.run_bind,run_eqPN he,Result.andThen]⟩
theorem row_at {v:Value} {qs:List Vp} {L:Nat} (h:(Vp.row T L qs).p w v) (h0:qs≠ []):∃b o c cs,v= .slice (some ⟨b,o,none⟩) L c∧L≤c∧w.heap[b]? =some (.cells cs T (0,0))∧∀j q,qs[j]? =some q→∃u,cs[o+j]? =some u∧q.p w u∧∀g,¬q.fp w u g:=by
 rcases h with⟨h,_⟩ | h
 ·exact absurd h h0
 ·exact h
end
theorem q_CloneU (v:Value) (L N:Nat) (w:World) (h:IsR w (.agg #[v]) L N) (hL:L≤1000000000000):
  Calls Tryz.prog 213 #[v] w fun e w'=>∃v',e= .returned v'∧IsR w' (.agg #[v']) L N∧Below w.heap.size w w':=by
 obtain⟨a,c,e,hc,hr⟩:=h;have e2:v= .slice a L c:=by
  injection e with e;have:=congrArg (fun x:Array Value=>x[0]?) e;simpa using this
 subst e2;have q:∀(w:World) (a:Option Addr) (n c n' c':Nat),(binOp .eql 29 (.slice a n c) (.slice none n' c')).run Tryz.prog w= .ok (.bool a.isNone) w:=fun w a n c n' c'=>Lib.run_eql_slice_nil w _ _ a n c n' c' Tryz.underlying29
 cases a with
 | none=>
  have h0:L=0:=by
   apply Classical.byContradiction;intro h0;obtain⟨b,o,e,_⟩:=hr.cells (by omega);cases e
  subst h0;have hN:N=0:=by have:=hr.lt;simpa using this
  subst hN;go_enter Tryz.func213,Tryz.ntmps213
  go_wp2;go_ret;exact⟨_,rfl,lm w,Below.refl _ _⟩
 | some a=>
  have hw:=r7 w (.cells #[] 237);have hr':=hr.mono hw;go_enter Tryz.func213,Tryz.ntmps213
  go_wp2_with (at_builtin;refine eV rfl _ _ rfl w.heap.size _ rfl (World.ownsRow_made w #[] 0 (Nat.le_refl _) (Nat.zero_le _) rfl) (by simp) (some a) L c N rfl hr' (by omega) ?_)
  intro a' c' w' hcp hc' hgb;go_wp2;go_ret;refine⟨_,rfl,⟨a',c',rfl,hc',hr.lt,fun h0=> ?_⟩,?_⟩
  ·obtain⟨g,e,_,hd,_⟩:=hcp h0;exact⟨g,0,e,hd⟩
  ·exact hw.trans (en hgb w.heap.size (by simp) (fun k hk=>by simp[Value.ownBlock]at hk;omega))
theorem lJ {ρ:Rho} {n m L N:Nat} (hn:ρ[n]? =some (.dig L N)) (hm:ρ[m]? =some (.dig L N)) (hL:L≤1000000000000):Inst.Ok Tryz.prog ρ ⟨213,[.one (.ref n)],.v (.one (.ref m))⟩:=
 ⟨az Tryz.func213 rfl rfl,fun B w vs hB h=>by
  match vs,h with
  | [v],h=>
   obtain⟨s,h1,h2,_⟩:=h.1;rw[hn]at h1;injection h1 with h1;subst h1;refine(q_CloneU v L N w h2 hL).mono ?_;rintro e w' ⟨v',rfl,h3,h4⟩;exact⟨_,rfl,⟨_,hm,h3,fun _ h=>h.elim⟩,h4⟩⟩
theorem fo {P:Program} {w w':World} {ops:Array Oper} {rest:List Oper} {o:Oper} {a:Act} {Q:Exit→Act→World→Prop} (hgd:o.guard=none) (s x:Operand) (t:TypeId)
  (ho:o.op= .call {callee:=.builtin .append,args:=#[s,x],argTypes:=#[t,t]}) (v u:Value) (hs:a.eval s=v) (hx:a.eval x=u) {v':Value}
  (hr:(Builtin.append_ #[t,t] o.type #[v,u]).run P w= .ok v' w') (h:wpList P ops Q rest (a.put o.dst v') w'):wpList P ops Q (o::rest) a w:=
 wpList_plain hgd fun _ hK=>by
  unfold Oper.wp execOp;simp only[ho,resolve,invoke,builtin,Sem.run_bind,Sem.run_pure,Result.andThen_ok,List.map_toArray,List.map_cons,List.map_nil,hs,hx,hr];exact hK _ _ h
theorem run_app0 {p:Program} {w:World} {t ty e:TypeId} (ht:p.underlying t=some (.slice e)) {sz:Nat} (hz:szB p e=some sz) (a b:Option Addr) (n c k:Nat) (hn:n≤c):(Builtin.append_ #[t,t] ty #[.slice a n c,.slice b 0 k]).run p w= .ok (.slice a n c) w:=by
 have h1:(Builtin.firstCells sz 0 (.slice b 0 k)).run p w= .ok #[] w:=by
  cases b<;>simp[Builtin.firstCells,loadCells,loadCellsFrom]
 cases a<;>simp[Builtin.append_,run_underlying ht,bm hz,Builtin.lenOf,hn,h1,storeCells]
theorem uz {p:Program} {w:World} {t ty T:TypeId} {sz bytes:Nat} (ht:p.underlying t=some (.slice T)) (hB:appB p T sz bytes=true) {v x:Value} {n M:Nat} {xs:List Value} {qs qs':List Vp} (ho:dZ w T sz v n xs) (hc:bA w qs xs) (hx:(Vp.row T M qs').p w x) (hq:qs'.length=M*sz)
  (hb:(n+M)*bytes≤140737488355328) (hn:n+M≤1000000000000000):
  ∃v' w',(Builtin.append_ #[t,t] ty #[v,x]).run p w= .ok v' w'∧w.grownBy w' v.ownBlock∧(∀g,v.ownBlock=some g→Own w' g)∧(∀g,v'.ownBlock=some g→v.ownBlock=some g∨w.heap.size≤g)∧(Vp.ownr T sz (n+M) (qs++qs')).p w' v':=by
 unfold appB at hB;split at hB
 ·rename_i ti hi;simp only[Bool.and_eq_true,beq_iff_eq,decide_eq_true_eq]at hB;obtain⟨hz,h3,h4,h5⟩:=hB;split at hz
  ·rename_i z hz';simp only[Bool.and_eq_true,beq_iff_eq]at hz;subst h3;subst h4;by_cases hM:M=0
   ·subst hM;have hq0:qs'=[]:=List.eq_nil_of_length_eq_zero (by simpa using hq);subst hq0;have hs:∃a c,v= .slice a n c∧n≤c:=by
     rcases ho.1.2 with⟨rfl,rfl⟩ | ⟨g,cap,cur,rfl,_,_,hnc,_⟩
     ·exact⟨none,0,rfl,Nat.le_refl _⟩
     ·exact⟨_,_,rfl,hnc⟩
    obtain⟨a,c,rfl,hac⟩:=hs;obtain⟨b,k,rfl⟩:=kX hx;have hsz:szB p T=some ti.size:=by unfold szB;rw[hi];rfl
    exact⟨_,w,run_app0 ht hsz _ _ _ _ _ hac,⟨rfl,rfl,rfl,Nat.le_refl _,fun _ _ _=>rfl⟩,ho.2,fun g hg=>.inl hg,by rw[List.append_nil];exact⟨xs,ho,hc⟩⟩
   ·have hM:0<M:=by omega
    have hq0:qs'≠ []:=fun e=>by subst e;simp at hq;have:=Nat.mul_pos hM h5;omega
    obtain⟨a,c,news,rfl,hcn,hcell⟩:=lH hx hq0;obtain⟨v',w',hrun,hg,hold,hblk,hown⟩:=sJ (p:=p) (ty:=ty) (c:=c) ht hi hz' hz.1 h5 (fun u hu n e=>by
     have:=List.all_eq_true.1 hz.2 u hu;subst e;exact Bool.noConfusion (show false=true from this)) ho (by rw[hcn.1,hq]) hcell (fun u hu=>lG (hcn.flat u hu)) (fun u hu=>fun n e=>(hcn.flat u hu).2.2 n e) hM hb hn
    have hchg:Chg w w' (fun g=>v.ownBlock=some g):=⟨hg.size,fun g h1 h2=>hg.block g h1 (fun e=>h2 e.symm),fun g h=>(ho.2 g h).x⟩;exact⟨v',w',hrun,hg,hold,hblk,xs++news,hown,(hc.append hcn).chg hchg⟩
  ·cases hz
 ·cases hB
def stT:TypeId:=120
theorem q_CloneS (v:Value) (S:List St) (w:World) (h:(Vp.row stT S.length (aF S)).p w v) (hS:S.length≤1000000):
  Calls Tryz.prog 188 #[v] w fun e w'=>∃v',e= .returned v'∧(Vp.ownr stT 22 S.length (aF S)).p w' v'∧(∀g,v'.ownBlock=some g→w.heap.size≤g)∧Below w.heap.size w w':=by
 have q:∀(w:World) (a:Option Addr) (n c n' c':Nat),(binOp .eql 183 (.slice a n c) (.slice none n' c')).run Tryz.prog w= .ok (.bool a.isNone) w:=fun w a n c n' c'=>Lib.run_eql_slice_nil w _ _ a n c n' c' Tryz.underlying183
 have hh:=h;rcases h with⟨h1,h2,rfl⟩ | ⟨b,o,c,cs,rfl,hc,hb,hq⟩
 ·go_enter Tryz.func188,Tryz.ntmps188
  go_wp2;go_ret;refine⟨_,rfl,⟨[],⟨?_,fun g hg=>by cases hg⟩,?_⟩,fun g hg=>(by cases hg),Below.refl _ _⟩
  ·rw[h2];exact World.ownsRow_nil _ _ _ _
  ·rw[h1];exact⟨rfl,fun j q h=>by simp at h⟩
 ·have hw:=r7 w (.cells #[] stT);have h':(Vp.row stT S.length (aF S)).p (w.alloc (.cells #[] stT)) (.slice (some ⟨b,o,none⟩) S.length c):=((Vp.row stT S.length (aF S)).ch _ _ _ _ hh (.below hw) (fun _ _ h=>h)).1;have he:dZ (w.alloc (.cells #[] stT)) stT 22 (.slice (some ⟨w.heap.size,0,none⟩) 0 0) 0 []:=by
   refine⟨World.ownsRow_made w #[] 0 (Nat.zero_le _) (Nat.zero_le _) rfl,fun g hg=> ?_⟩;injection hg with hg;subst hg;exact⟨#[],stT,heap_alloc_new w _,fun k n=>by simp⟩
  obtain⟨v',w',hr,hg,_,hblk,h3⟩:=uz (p:=Tryz.prog) (ty:=183) (qs:=[]) (bytes:=400) Tryz.underlying183 (by kernel_rfl) he ⟨rfl,fun j q h=>by simp at h⟩ h' (fm S) (by omega) (by omega);have h4:∀g,v'.ownBlock=some g→w.heap.size≤g:=fun g hg'=>by
   rcases hblk g hg' with h | h
   ·have h:w.heap.size=g:=Option.some.inj h;omega
   ·simp at h;omega
  have h5:Below w.heap.size w w':=hw.trans (en hg w.heap.size (by simp) (fun k hk=>by simp[Value.ownBlock]at hk;omega));rw[Nat.zero_add,List.nil_append]at h3;clear hg hblk;clear hq hb h' he hh;go_enter Tryz.func188,Tryz.ntmps188
  go_wp2_with (at_builtin;refine fo rfl _ _ 183 rfl _ _ rfl rfl hr ?_)
  go_wp2;go_ret;exact⟨_,rfl,h3,h4,h5⟩
theorem jk {p:Program} {w:World} {dT sT ty e:TypeId} {sz:Nat} (ht:p.underlying dT=some (.slice e)) (hz:szB p e=some sz) {g o L C M C':Nat} {a:Addr} {cs:Array Value} {T:TypeId} {news:List Value} (h:w.heap[g]? =some (.cells cs T (0,0)))
  (hn:news.length=Nat.min M L*sz) (hs:∀j u,news[j]? =some u→w.cell? (a.add j)=some u) (hle:o+news.length≤cs.size) (hf:∀u∈news,dU u):
  ∃w' cs',(Builtin.copy_ #[dT,sT] ty #[.slice (some ⟨g,o,none⟩) L C,.slice (some a) M C']).run p w= .ok (goInt (Nat.min M L)) w'∧Upd w g w'∧w'.heap[g]? =some (.cells cs' T (0,0))∧cs'.size=cs.size∧(∀k v,news[k]? =some v→cs'[o+k]? =some v)∧∀k,(k<o∨o+news.length≤k)→cs'[k]? =cs[k]? :=by
 obtain⟨w',cs',h1,h2,h3,h4,h5,h6⟩:=fb (p:=p) (o:=o) news 0 w cs h (by omega) hf;refine⟨w',cs',?_,h2,h3,h4,fun k v hk=>by have:=h5 k v hk;simpa using this,fun k hk=>h6 k (by omega)⟩;have hl:=run_loadCells_list (P:=p) w a news hs;rw[hn]at hl;simp[Builtin.copy_,run_underlying ht,bm hz,Builtin.lenOf,Builtin.firstCells,hl,h1]
theorem gZ {P:Program} {w w':World} {ops:Array Oper} {rest:List Oper} {o:Oper} {a:Act} {Q:Exit→Act→World→Prop} (hgd:o.guard=none) (d s:Operand) (t t':TypeId)
  (ho:o.op= .call {callee:=.builtin .copy,args:=#[d,s],argTypes:=#[t,t']}) (v u:Value) (hd:a.eval d=v) (hs:a.eval s=u) {v':Value}
  (hr:(Builtin.copy_ #[t,t'] o.type #[v,u]).run P w= .ok v' w') (h:wpList P ops Q rest (a.put o.dst v') w'):wpList P ops Q (o::rest) a w:=
 wpList_plain hgd fun _ hK=>by
  unfold Oper.wp execOp;simp only[ho,resolve,invoke,builtin,Sem.run_bind,Sem.run_pure,Result.andThen_ok,List.map_toArray,List.map_cons,List.map_nil,hd,hs,hr];exact hK _ _ h
theorem jG {P:Program} {ops:Array Oper} {o:Oper} {a:Act} {w w':World} {K:Act→World→Prop} {Q:Exit→Act→World→Prop} {E:Prop}
  (hg:o.guard=none) (d x:Operand) (dT sT:TypeId) (hop:o.op=Op.call {callee:=Callee.builtin Builtin.copy,args:=#[d,x],argTypes:=#[dT,sT]})
  (v u:Value) (hd:a.eval d=v) (hx:a.eval x=u) {v':Value} (hr:(Builtin.copy_ #[dT,sT] o.type #[v,u]).run P w= .ok v' w') (hK:K (a.put o.dst v') w'):
  if Region.wanted o (yielded ops a.tmps)=true then Oper.wp P o a w K Q else E:=by
 have hw:Region.wanted o (yielded ops a.tmps)=true:=by simp[Region.wanted,hg]
 rw[if_pos hw];unfold Oper.wp;simp[execOp,hop,resolve,invoke,builtin,hd,hx,hr,Result.andThen];exact hK
theorem ri {w:World} {S:List St} {s:St} {i:Nat} {xs news:List Value} (hi:i≤S.length) (hx:bA w (aF S) xs) (hn:bA w s.qs news):bA w (aF (S.take i++s::S.drop i)) (xs.take (i*22)++(news++xs.drop (i*22))):=by
 have e:aF (S.take i++s::S.drop i)=aF (S.take i)++(s.qs++aF (S.drop i)):=by rw[lI];rfl
 have h0:aF S=aF (S.take i)++aF (S.drop i):=by rw[←lI,List.take_append_drop]
 have hl:(aF (S.take i)).length=i*22:=by rw[fm,List.length_take];congr 1;omega
 have hxl:=hx.1;rw[fm]at hxl;rw[e];refine bA.append ⟨?_,fun j q hj=> ?_⟩ (bA.append hn ⟨?_,fun j q hj=> ?_⟩)
 ·rw[hl,List.length_take];omega
 ·have hjl:=(List.getElem?_eq_some_iff.1 hj).1;obtain⟨u,h1,h2⟩:=hx.2 j q (by rw[h0,List.getElem?_append_left hjl];exact hj);exact⟨u,by rw[List.getElem?_take,if_pos (by omega)];exact h1,h2⟩
 ·rw[List.length_drop,fm,List.length_drop];omega
 ·obtain⟨u,h1,h2⟩:=hx.2 (i*22+j) q (by rw[h0,List.getElem?_append_right (by omega),hl,Nat.add_sub_cancel_left];exact hj);exact⟨u,by rw[List.getElem?_drop];exact h1,h2⟩
def InsP (w:World) (v:Value) (S:List St) (s:St) (i:Nat) (e:Ending) (w':World):Prop:=
 ∃v',e= .returned v'∧(Vp.ownr stT 22 (S.length+1) (aF (S.take i++s::S.drop i))).p w' v'∧w.grownBy w' v.ownBlock∧(∀g,v.ownBlock=some g→Own w' g)∧∀g,v'.ownBlock=some g→v.ownBlock=some g∨w.heap.size≤g
theorem q_Ins1 (v x:Value) (S:List St) (s:St) (w:World) (hv:(Vp.ownr stT 22 S.length (aF S)).p w v) (hx:(Vp.row stT 1 s.qs).p w x) (hS:S.length≤1000000):
  Calls Tryz.prog 187 #[v,.int .i64 (S.length:Int),x] w fun e w'=>InsP w v S s S.length e w':=by
 obtain⟨xs,ho,hc⟩:=hv;obtain⟨v',w',hr,hg,hold,hblk,h3⟩:=uz (p:=Tryz.prog) (ty:=183) (bytes:=400) Tryz.underlying183 (by kernel_rfl) ho hc hx (by rfl) (by omega) (by omega);obtain⟨a,c,rfl,hac⟩:∃a c,v= .slice a S.length c∧S.length≤c:=by
  rcases ho.1.2 with⟨rfl,h0⟩ | ⟨g,cap,cur,rfl,_,_,hnc,_⟩
  ·exact⟨none,0,by rw[h0],by omega⟩
  ·exact⟨_,_,rfl,hnc⟩
 obtain⟨b,k,rfl⟩:=kX hx;have u0:∀w,(underlying 183).run Tryz.prog w= .ok (.slice 120) w:=fun w=>run_underlying Tryz.underlying183
 have hz:∀w,(Go.sizeOf 120).run Tryz.prog w= .ok 22 w:=fun w=>bm (by kernel_rfl)
 have hS1:(S.length:Int)≤1000000:=by omega
 have h3':(Vp.ownr stT 22 (S.length+1) (aF (S.take S.length++s::S.drop S.length))).p w' v':=by
  rw[List.take_length,List.drop_length,lI];simpa [aF,stT]using h3
 clear hx ho hc h3;by_cases hck:c=S.length
 ·subst hck;go_enter Tryz.func187,Tryz.ntmps187
  go_wp2_with (at_builtin;refine fo rfl _ _ 183 rfl _ _ rfl rfl hr ?_)
  go_ret;exact⟨_,rfl,h3',hg,hold,hblk⟩
 ·go_enter Tryz.func187,Tryz.ntmps187
  go_wp2_with (at_builtin;refine fo rfl _ _ 183 rfl _ _ rfl rfl hr ?_)
  go_ret;exact⟨_,rfl,h3',hg,hold,hblk⟩
theorem nE {P:Program} {w w':World} {ops:Array Oper} {rest:List Oper} {o:Oper} {a:Act} {Q:Exit→Act→World→Prop} (hgd:o.guard=none) (s x:Operand) (t t':TypeId)
  (ho:o.op= .call {callee:=.builtin .append,args:=#[s,x],argTypes:=#[t,t']}) (v u:Value) (hs:a.eval s=v) (hx:a.eval x=u) {v':Value}
  (hr:(Builtin.append_ #[t,t'] o.type #[v,u]).run P w= .ok v' w') (h:wpList P ops Q rest (a.put o.dst v') w'):wpList P ops Q (o::rest) a w:=
 wpList_plain hgd fun _ hK=>by
  unfold Oper.wp execOp;simp only[ho,resolve,invoke,builtin,Sem.run_bind,Sem.run_pure,Result.andThen_ok,List.map_toArray,List.map_cons,List.map_nil,hs,hx,hr];exact hK _ _ h
def z22:Array Value:=(Value.agg #[.int .i64 0,.bool false,.slice none 0 0,.slice none 0 0,.bool false,.slice none 0 0,.slice none 0 0,.bool false,.slice none 0 0,.slice none 0 0,.bool false,.slice none 0 0,.slice none 0 0,.bool false,.slice none 0 0,.slice none 0 0,.bool false,.slice none 0 0,.slice none 0 0,.bool false,.slice none 0 0,.slice none 0 0]).cells
theorem infoSt:(Tryz.prog.info? stT).map (fun i=>(i.zero,i.size,i.bytes))=some (some (.agg z22),22,400):=by kernel_rfl
theorem pc:z22.size=22:=rfl
theorem z22_noU:∀u∈z22.toList,noU u:=fun u hu n e=>by
 have h:z22.toList.all noUb=true:=by decide
 have:=List.all_eq_true.1 h u hu;subst e;exact Bool.noConfusion (show false=true from this)
theorem uA {cs:Array Value} {xs news:List Value} {n i:Nat} (hi:i≤n) (hxl:xs.length=n*22) (hnl:news.length=22) (hsz:(n+1)*22≤cs.size) (h1:∀k,k<i*22→cs[k]? =xs[k]?) (h2:∀k,k<22→cs[i*22+k]? =news[k]?) (h3:∀k,k<(n - i)*22→cs[(i+1)*22+k]? =xs[i*22+k]?):
  cs.toList.take ((n+1)*22)=xs.take (i*22)++(news++xs.drop (i*22)):=by
 apply List.ext_getElem?;intro k;rw[List.getElem?_take];by_cases hk:k<(n+1)*22
 ·rw[if_pos hk,Array.getElem?_toList];by_cases a1:k<i*22
  ·rw[h1 k a1,List.getElem?_append_left (by rw[List.length_take];omega),List.getElem?_take,if_pos a1]
  ·rw[List.getElem?_append_right (by rw[List.length_take];omega),List.length_take,show min (i*22) xs.length=i*22 from by omega];by_cases a2:k<(i+1)*22
   ·have:=h2 (k - i*22) (by omega);rw[show i*22+(k - i*22)=k from by omega]at this;rw[this,List.getElem?_append_left (by omega)]
   ·have:=h3 (k - (i+1)*22) (by omega);rw[show(i+1)*22+(k - (i+1)*22)=k from by omega]at this;rw[this,List.getElem?_append_right (by omega),hnl,List.getElem?_drop]
    congr 1;omega
 ·rw[if_neg hk,List.getElem?_eq_none];simp only[List.length_append,List.length_take,List.length_drop];omega
set_option maxHeartbeats 4000000 in
theorem q_Ins2 (g cap:Nat) (x:Value) (S:List St) (s:St) (i:Nat) (w:World) (hv:(Vp.ownr stT 22 S.length (aF S)).p w (.slice (some ⟨g,0,none⟩) S.length cap)) (hx:(Vp.row stT 1 s.qs).p w x) (hi:i<S.length) (hroom:cap<S.length+1) (hS:S.length≤1000000):
  Calls Tryz.prog 187 #[.slice (some ⟨g,0,none⟩) S.length cap,.int .i64 (i:Int),x] w fun e w'=>InsP w (.slice (some ⟨g,0,none⟩) S.length cap) S s i e w':=by
 obtain⟨xs,⟨⟨hxl,ho⟩,hown⟩,hc⟩:=hv;have hO1:=hown g rfl;obtain⟨cur,hg,hnc,hcs,htake⟩:∃cur,w.heap[g]? =some (.cells cur stT (0,0))∧S.length≤cap∧cur.size=cap*22∧cur.toList.take (S.length*22)=xs:=by
  rcases ho with⟨h,_⟩ | ⟨g',cap',cur,e,_,h1,h2,_,h3,h4⟩
  ·cases h
  ·injection e with e1 e2 e3;injection e1 with e1;injection e1 with e1;subst e1;subst e3;exact⟨cur,h1,h2,h3,h4⟩
 have hcap:cap=S.length:=by omega
 subst hcap;obtain⟨ax,cx,news,rfl,hcn,hcell⟩:=lH hx (by intro e;cases e);obtain⟨ti,hti,tz,tsz,tby⟩:=info_parts infoSt;obtain⟨n,hn⟩:∃n,n=S.length:=⟨_,rfl⟩;rw[←hn]at hxl hi hS hcs htake⊢;have hnl:news.length=22:=hcn.1;have hgl:g<w.heap.size:=(Array.getElem?_eq_some_iff.1 hg).1;have hxcell:∀j u,xs[j]? =some u→w.cell? ⟨g,j,none⟩=some u:=fun j u hj=>by
  rw[aA hg,←Array.getElem?_toList];rw[←htake,List.getElem?_take]at hj;split at hj
  ·exact hj
  ·cases hj
 have hfx:∀u∈xs,dU u:=hc.flat;have hfn:∀u∈news,dU u:=hcn.flat;obtain⟨G,hG⟩:∃G,G=grownCap w (n+1) n stT:=⟨_,rfl⟩;have hGn:n+1≤G:=by rw[hG];exact grownCap_ge w _ _ _
 have hGm:G≤maxLen:=by rw[hG];exact grownCap_le_maxLen w (n+1) n stT (by unfold maxLen;omega)
 obtain⟨ROW,hROW⟩:∃ROW:Array Value,ROW=(xs.take (i*22)).toArray++Builtin.zeroCells z22 (n+1 - i)++Builtin.zeroCells z22 (G - (n+1)):=⟨_,rfl⟩;have hRs:ROW.size=G*22:=by
  rw[hROW];simp only[Array.size_append,List.size_toArray,size_zeroCells,pc,List.length_take,hxl];omega
 have hold:(Builtin.firstCells ti.size i (.slice (some ⟨g,0,none⟩) i n)).run Tryz.prog w.drew= .ok (xs.take (i*22)).toArray w.drew:=by
  rw[tsz];exact run_firstCells_some w.drew 22 i ⟨g,0,none⟩ i n (xs.take (i*22)) (by rw[List.length_take];omega) (fun j v hj=>by
   rw[Addr.add_lit,Nat.zero_add];rw[List.getElem?_take]at hj;split at hj
   ·exact hxcell j v hj
   ·cases hj)
 have hrz:(Builtin.append_ #[183,3] 183 #[.slice (some ⟨g,0,none⟩) i n,.int .i64 ((n:Int)+1 - (i:Int))]).run Tryz.prog w=
   .ok (.slice (some ⟨w.heap.size,0,none⟩) (n+1) G) (w.drew.alloc (.cells ROW stT)):=by
  have h:=Lib.run_append_grow_zeros (P:=Tryz.prog) w 183 3 183 stT ti _ .i64 .i64 Tryz.underlying183 Tryz.underlying3 hti tz (some ⟨g,0,none⟩) i n (xs.take (i*22)) hold (n+1 - i) (by omega) (by rw[tsz];omega) (by omega) (by omega) (by rw[tby];omega) (by rw[tby,show i+(n+1 - i)=n+1 from by omega];exact growslice_fits (by omega) (by omega));rw[show i+(n+1 - i)=n+1 from by omega,←hG]at h;rw[show(n:Int)+1 - (i:Int)=((n+1 - i:Nat):Int)from by omega,hROW];exact h
 obtain⟨W1,hW1⟩:∃W1,W1=w.drew.alloc (.cells ROW stT):=⟨_,rfl⟩;rw[←hW1]at hrz;have hh1:W1.heap[w.heap.size]? =some (.cells ROW stT (0,0)):=by rw[hW1];exact heap_alloc_new w.drew _
 have hb1:Below w.heap.size w W1:=by rw[hW1];exact(bg (Below.refl _ _) 1).trans ((r7 w.drew _).mono (Nat.le_refl _))
 obtain⟨W2,cs2,hr2,up2,hh2,sz2,in2,jS⟩:=jk (p:=Tryz.prog) (dT:=183) (sT:=183) (ty:=3) (sz:=22) (o:=i*22) (L:=n+1 - i) (C:=G - i) (M:=1) (C':=cx) (a:=ax) (news:=news) Tryz.underlying183 (by kernel_rfl) hh1
  (by rw[hnl];simp only[Nat.min_def];split<;>omega) (fun j u hj=>by have:=hcell j u hj;rw[←hb1.cell (p:=ax.add j) (block_lt_of_cell this)]at this;exact this) (by rw[hnl,hRs];omega) hfn
 have hdl:(xs.drop (i*22)).length=(n - i)*22:=by rw[List.length_drop,hxl];omega
 obtain⟨W3,cs3,hr3,up3,hh3,sz3,in3,out3⟩:=jk (p:=Tryz.prog) (w:=W2.drew) (dT:=183) (sT:=183) (ty:=3) (sz:=22) (o:=(i+1)*22) (L:=n - i) (C:=G - (i+1)) (M:=n - i) (C':=n - i) (a:=⟨g,i*22,none⟩) (news:=xs.drop (i*22)) Tryz.underlying183 (by kernel_rfl) hh2
  (by rw[hdl];simp only[Nat.min_self]) (fun j u hj=>by
   rw[List.getElem?_drop]at hj;have h1:=hxcell _ u hj;rw[Addr.add_lit];have h2:W2.heap[g]? =w.heap[g]? :=(up2.block g (by omega)).trans (hb1.block g hgl);have h3:W2.drew.cell? ⟨g,i*22+j,none⟩=w.cell? ⟨g,i*22+j,none⟩:=World.cell?_of_block (w:=w) (w':=W2.drew) (a:=⟨g,i*22+j,none⟩) h2;rw[h3];exact h1) (by rw[hdl,sz2,hRs];omega) (fun u hu=>hfx u (List.mem_of_mem_drop hu))
 have k1:∀k,k<i*22→cs3[k]? =xs[k]? :=fun k hk=>by
  rw[out3 k (.inl (by omega)),jS k (.inl hk),hROW,Array.append_assoc,Array.getElem?_append_left (by simp;omega)];simp[List.getElem?_take,hk]
 have k2:∀k,k<22→cs3[i*22+k]? =news[k]? :=fun k hk=>by
  rw[out3 _ (.inl (by omega)),in2 k _ (List.getElem?_eq_getElem (by omega)),List.getElem?_eq_getElem (by omega)]
 have k3:∀k,k<(n - i)*22→cs3[(i+1)*22+k]? =xs[i*22+k]? :=fun k hk=>by
  rw[in3 k _ (List.getElem?_eq_getElem (by omega)),List.getElem_drop,List.getElem?_eq_getElem]
 have hfin:(Vp.ownr stT 22 (n+1) (aF (S.take i++s::S.drop i))).p W3 (.slice (some ⟨w.heap.size,0,none⟩) (n+1) G):=by
  have hb3:Below w.heap.size w W3:=(hb1.trans ⟨up2.os,up2.tape,up2.output,by rw[up2.size];exact Nat.le_refl _,fun k hk=>up2.block k (by omega)⟩).trans ⟨up3.os,up3.tape,up3.output,by rw[up3.size];exact Nat.le_refl _,fun k hk=>up3.block k (by omega)⟩;refine⟨xs.take (i*22)++(news++xs.drop (i*22)),⟨⟨?_,.inr ⟨w.heap.size,G,cs3,rfl,Nat.zero_le _,hh3,hGn,hGm,by rw[sz3,sz2,hRs],?_⟩⟩,fun g' hg'=> ?_⟩,?_⟩
  ·simp only[List.length_append,List.length_take,hdl,hxl,hnl];omega
  ·exact uA (by omega) hxl hnl (by rw[sz3,sz2,hRs];omega) k1 k2 k3
  ·injection hg' with hg';subst hg';refine⟨cs3,stT,hh3,fun k m hk=> ?_⟩;by_cases a1:k<i*22
   ·rw[k1 k a1]at hk;exact(hfx _ (List.mem_of_getElem? hk)).2.2 m rfl
   ·by_cases a2:k<(i+1)*22
    ·rw[show k=i*22+(k - i*22)from by omega,k2 _ (by omega)]at hk;exact(hfn _ (List.mem_of_getElem? hk)).2.2 m rfl
    ·by_cases a3:k<(n+1)*22
     ·rw[show k=(i+1)*22+(k - (i+1)*22)from by omega,k3 _ (by omega)]at hk;exact(hfx _ (List.mem_of_getElem? hk)).2.2 m rfl
     ·rw[out3 k (.inr (by rw[hdl];omega)),jS k (.inr (by rw[hnl];omega)),hROW,Array.getElem?_append_right (by simp only[Array.size_append,List.size_toArray,size_zeroCells,pc,List.length_take,hxl];omega)]at hk;exact ux z22_noU (by rw[pc];decide) _ _ (by rw[←Array.getElem?_toList]at hk;exact List.mem_of_getElem? hk) m rfl
  ·subst hn;exact(ri (by omega) hc hcn).chg (.below hb3)
 have hgrow:w.grownBy W3 (some g):=by
  refine⟨?_,?_,?_,?_,fun k hk hne=> ?_⟩
  ·rw[up3.os];exact up2.os.trans hb1.os
  ·rw[up3.tape];exact up2.tape.trans hb1.tape
  ·rw[up3.output];exact up2.output.trans hb1.output
  ·rw[up3.size];show _≤W2.heap.size;rw[up2.size];exact hb1.size
  ·exact(up3.block k (by omega)).trans ((up2.block k (by omega)).trans (hb1.block k hk))
 have hOg:Own W3 g:=by
  obtain⟨cs,t,h1,h2⟩:=hO1;exact⟨cs,t,by rw[up3.block g (by omega)];exact(up2.block g (by omega)).trans ((hb1.block g hgl).trans h1),h2⟩
 have u0:∀w,(underlying 183).run Tryz.prog w= .ok (.slice 120) w:=fun w=>run_underlying Tryz.underlying183
 have hz:∀w,(Go.sizeOf 120).run Tryz.prog w= .ok 22 w:=fun w=>bm (by kernel_rfl)
 have hw1:IntKind.i64.wrap ((n:Int)+1)=(n:Int)+1:=by rw[IntKind.wrap_i64];omega
 have hw2:IntKind.i64.wrap ((i:Int)+1)=(i:Int)+1:=by rw[IntKind.wrap_i64];omega
 have hw3:IntKind.i64.wrap ((n:Int)+1 - (i:Int))=(n:Int)+1 - (i:Int):=by rw[IntKind.wrap_i64];omega
 have b1:¬((i:Int)=(n:Int)):=by omega
 have b2:(n:Int)<(n:Int)+1:=by omega
 have b3:(i:Int)≤(n:Int):=by omega
 have b4:(0:Int)≤(i:Int)+1:=by omega
 have b5:((i:Int)+1).toNat=i+1:=by omega
 have b6:¬(G=i):=by omega
 have b7:¬(G=i+1):=by omega
 have b8:¬(n=i):=by omega
 have b9:(i:Int)+1≤(n:Int)+1:=by omega
 have c1:i≤n:=by omega
 have c2:i≤n+1:=by omega
 have c3:i+1≤n+1:=by omega
 have c4:n+1 - (i+1)=n - i:=by omega
 have mixed:Tryz.prog.follows .mixedOrders=true:=by kernel_rfl
 subst hn;have HF:=hfin;have HG:=hgrow;have HO:=hOg;clear hfin hgrow hOg k1 k2 k3 in2 in3 jS out3 hxcell hcell hold hROW hG hW1 hcn hc hx hfx hfn hh1 hh2 hh3 hb1 up2 up3 htake;go_enter Tryz.func187,Tryz.ntmps187
 go_wp2_with (first
  | (at_builtin;refine nE rfl _ _ _ _ rfl _ _ rfl rfl hrz ?_)
  | (at_builtin;refine gZ rfl _ _ _ _ rfl _ _ rfl rfl hr2 ?_))
 go_region_law_o (refine jG rfl _ _ 183 183 rfl (.slice (some ⟨w.heap.size,(i+1)*22,none⟩) (S.length - i) (G - (i+1))) (.slice (some ⟨g,i*22,none⟩) (S.length - i) (S.length - i)) (by simp[Act.eval,Act.put]) (by simp[Act.eval,Act.put]) hr3 ?_)
 go_wp2;go_ret;exact⟨_,rfl,HF,HG,fun g' h=>(by have h:g=g':=Option.some.inj h;subst h;exact HO),fun g' h=>.inr (by have h:w.heap.size=g':=Option.some.inj h;omega)⟩
set_option maxHeartbeats 4000000 in
theorem q_Ins3 (g cap:Nat) (x:Value) (S:List St) (s:St) (i:Nat) (w:World) (hv:(Vp.ownr stT 22 S.length (aF S)).p w (.slice (some ⟨g,0,none⟩) S.length cap)) (hx:(Vp.row stT 1 s.qs).p w x) (hxb:∀a n c,x= .slice (some a) n c→a.block≠g) (hi:i<S.length) (hroom:S.length+1≤cap) (hS:S.length≤1000000):
  Calls Tryz.prog 187 #[.slice (some ⟨g,0,none⟩) S.length cap,.int .i64 (i:Int),x] w fun e w'=>InsP w (.slice (some ⟨g,0,none⟩) S.length cap) S s i e w':=by
 obtain⟨xs,⟨⟨hxl,ho⟩,hown⟩,hc⟩:=hv;have hO1:=hown g rfl;obtain⟨cur,hg,hnc,hcm,hcs,htake⟩:∃cur,w.heap[g]? =some (.cells cur stT (0,0))∧S.length≤cap∧cap≤maxLen∧cur.size=cap*22∧cur.toList.take (S.length*22)=xs:=by
  rcases ho with⟨h,_⟩ | ⟨g',cap',cur,e,_,h1,h2,h5,h3,h4⟩
  ·cases h
  ·injection e with e1 e2 e3;injection e1 with e1;injection e1 with e1;subst e1;subst e3;exact⟨cur,h1,h2,h5,h3,h4⟩
 obtain⟨vb,vo,cx,vcs,rfl,hcx,hvb,hvq⟩:=row_at hx (by intro e;cases e);obtain⟨ax,cx',news,e,hcn,hcell⟩:=lH hx (by intro e;cases e);injection e with e1 e2 e3;injection e1 with e1;subst e1;subst e3;have hvg:vb≠g:=hxb _ _ _ rfl;obtain⟨n,hn⟩:∃n,n=S.length:=⟨_,rfl⟩;rw[←hn]at hxl hi hS hroom hnc htake⊢;have hnl:news.length=22:=hcn.1;have hgl:g<w.heap.size:=(Array.getElem?_eq_some_iff.1 hg).1;have hxcell:∀j u,xs[j]? =some u→w.cell? ⟨g,j,none⟩=some u:=fun j u hj=>by
  rw[aA hg,←Array.getElem?_toList];rw[←htake,List.getElem?_take]at hj;split at hj
  ·exact hj
  ·cases hj
 have hxc:∀k,k<n*22→cur[k]? =xs[k]? :=fun k hk=>by rw[←htake,List.getElem?_take,if_pos hk,Array.getElem?_toList]
 have hfx:∀u∈xs,dU u:=hc.flat;have hfn:∀u∈news,dU u:=hcn.flat;have hz0:∀w,(Go.sizeOf 120).run Tryz.prog w= .ok 22 w:=fun w=>bm (by kernel_rfl)
 have hov:∀lb cb,(callFunc 237 #[.slice (some ⟨vb,vo,none⟩) 1 cx,.slice (some ⟨g,(i+1)*22,none⟩) lb cb]).run Tryz.prog w= .ok (.value (.bool false)) w:=fun lb cb=>by
  rw[run_callFunc_extern Tryz.func237 (by kernel_rfl) (by kernel_rfl) (by kernel_rfl) (e:=Extern.SlicesOverlaps.overlaps #[183,183] #[4]) (by kernel_rfl),
   Lib.run_overlaps_apart w 183 4 120 Tryz.underlying183 22 hz0 ⟨vb,vo,none⟩ ⟨g,(i+1)*22,none⟩ 1 cx lb cb hvg stT stT vcs.size cur.size (by unfold World.shape?;rw[hvb]) (by unfold World.shape?;rw[hg]) (by rw[hcs];omega) (frozen_of_row w vb vo vcs _ hvb) (frozen_of_row w vb vcs.size vcs _ hvb)]
  rfl
 have hdl:(xs.drop (i*22)).length=(n - i)*22:=by rw[List.length_drop,hxl];omega
 obtain⟨W1,cs1,hr1,up1,hh1,sz1,in1,out1⟩:=jk (p:=Tryz.prog) (w:=w.drew) (dT:=183) (sT:=183) (ty:=3) (sz:=22) (o:=(i+1)*22) (L:=n - i) (C:=cap - (i+1)) (M:=n+1 - i) (C':=cap - i) (a:=⟨g,i*22,none⟩) (news:=xs.drop (i*22)) Tryz.underlying183 (by kernel_rfl) hg
  (by rw[hdl];simp only[Nat.min_def];split<;>omega) (fun j u hj=>by
   rw[List.getElem?_drop]at hj;rw[Addr.add_lit];exact hxcell _ u hj) (by rw[hdl,hcs];omega) (fun u hu=>hfx u (List.mem_of_mem_drop hu))
 obtain⟨W2,cs2,hr2,up2,hh2,sz2,in2,jS⟩:=jk (p:=Tryz.prog) (dT:=183) (sT:=183) (ty:=3) (sz:=22) (o:=i*22) (L:=n+1 - i) (C:=cap - i) (M:=1) (C':=cx) (a:=⟨vb,vo,none⟩) (news:=news) Tryz.underlying183 (by kernel_rfl) hh1
  (by rw[hnl];simp only[Nat.min_def];split<;>omega) (fun j u hj=>by
   have h1:=hcell j u hj;have h2:W1.heap[vb]? =w.heap[vb]? :=up1.block vb hvg;rw[Addr.add_lit]at h1⊢;rw[World.cell?_of_block (w:=w) (w':=W1) (a:=⟨vb,vo+j,none⟩) h2];exact h1) (by rw[hnl,sz1,hcs];omega) hfn
 have k1:∀k,k<i*22→cs2[k]? =xs[k]? :=fun k hk=>by
  rw[jS k (.inl hk),out1 k (.inl (by omega)),hxc k (by omega)]
 have k2:∀k,k<22→cs2[i*22+k]? =news[k]? :=fun k hk=>by
  rw[in2 k _ (List.getElem?_eq_getElem (by omega)),List.getElem?_eq_getElem (by omega)]
 have k3:∀k,k<(n - i)*22→cs2[(i+1)*22+k]? =xs[i*22+k]? :=fun k hk=>by
  rw[jS _ (.inr (by omega)),in1 k _ (List.getElem?_eq_getElem (by omega)),List.getElem_drop,List.getElem?_eq_getElem]
 have hOg:Own W2 g:=by
  obtain⟨cs,t,h1,h2⟩:=hO1;rw[hg]at h1;injection h1 with h1;injection h1 with h1 _;subst h1;refine⟨cs2,stT,hh2,fun k m hk=> ?_⟩;by_cases a1:k<i*22
  ·rw[k1 k a1]at hk;exact(hfx _ (List.mem_of_getElem? hk)).2.2 m rfl
  ·by_cases a2:k<(i+1)*22
   ·rw[show k=i*22+(k - i*22)from by omega,k2 _ (by omega)]at hk;exact(hfn _ (List.mem_of_getElem? hk)).2.2 m rfl
   ·by_cases a3:k<(n+1)*22
    ·rw[show k=(i+1)*22+(k - (i+1)*22)from by omega,k3 _ (by omega)]at hk;exact(hfx _ (List.mem_of_getElem? hk)).2.2 m rfl
    ·rw[jS k (.inr (by rw[hnl];omega)),out1 k (.inr (by rw[hdl];omega))]at hk;exact h2 k m hk
 have hgrow:w.grownBy W2 (some g):=by
  refine⟨up2.os.trans up1.os,up2.tape.trans up1.tape,up2.output.trans up1.output,?_,fun k hk hne=> ?_⟩
  ·rw[up2.size];show _≤W1.heap.size;rw[up1.size];exact Nat.le_refl _
  ·have:k≠g:=fun e=>hne (by rw[e])
   exact(up2.block k this).trans (up1.block k this)
 have hfin:(Vp.ownr stT 22 (n+1) (aF (S.take i++s::S.drop i))).p W2 (.slice (some ⟨g,0,none⟩) (n+1) cap):=by
  refine⟨xs.take (i*22)++(news++xs.drop (i*22)),⟨⟨?_,.inr ⟨g,cap,cs2,rfl,Nat.zero_le _,hh2,hroom,hcm,by rw[sz2,sz1,hcs],?_⟩⟩,fun g' hg'=> ?_⟩,?_⟩
  ·simp only[List.length_append,List.length_take,hdl,hxl,hnl];omega
  ·exact uA (by omega) hxl hnl (by rw[sz2,sz1,hcs];omega) k1 k2 k3
  ·have:g=g':=Option.some.inj hg';subst this;exact hOg
  ·subst hn;refine(ri (by omega) hc hcn).chg (X:=fun x=>x=g) ⟨hgrow.size,fun k hk hX=>hgrow.block k hk (fun e=>hX (Option.some.inj e)),fun k hk=> ?_⟩;subst hk;exact hO1.x
 have u0:∀w,(underlying 183).run Tryz.prog w= .ok (.slice 120) w:=fun w=>run_underlying Tryz.underlying183
 have hw1:IntKind.i64.wrap ((n:Int)+1)=(n:Int)+1:=by rw[IntKind.wrap_i64];omega
 have hw2:IntKind.i64.wrap ((i:Int)+1)=(i:Int)+1:=by rw[IntKind.wrap_i64];omega
 have b1:¬((i:Int)=(n:Int)):=by omega
 have b2:¬((cap:Int)<(n:Int)+1):=by omega
 have b3:(i:Int)≤(n:Int):=by omega
 have b4:(0:Int)≤(i:Int)+1:=by omega
 have b5:((i:Int)+1).toNat=i+1:=by omega
 have b6:¬(cap=i):=by omega
 have b7:¬(cap=i+1):=by omega
 have b9:(i:Int)+1≤(n:Int)+1:=by omega
 have b10:(0:Int)≤(n:Int)+1:=by omega
 have b13:(i:Int)≤(n:Int)+1:=by omega
 have b11:(n:Int)+1≤(cap:Int):=by omega
 have b12:((n:Int)+1).toNat=n+1:=by omega
 have c0:n+1≤cap:=hroom;have c1:i≤n:=by omega
 have c2:i≤n+1:=by omega
 have c3:i+1≤n+1:=by omega
 have c4:n+1 - (i+1)=n - i:=by omega
 have mixed:Tryz.prog.follows .mixedOrders=true:=by kernel_rfl
 subst hn;have HF:=hfin;have HG:=hgrow;have HO:=hOg;clear hfin hgrow hOg k1 k2 k3 in1 in2 out1 jS hxcell hxc hcell hcn hc hx hfx hfn hh1 hh2 up1 up2 htake hvb hvq hxb hg;go_enter Tryz.func187,Tryz.ntmps187
 go_wp2_with (simp only[hov])
 go_region_law_o (refine jG rfl _ _ 183 183 rfl (.slice (some ⟨g,(i+1)*22,none⟩) (S.length - i) (cap - (i+1))) (.slice (some ⟨g,i*22,none⟩) (S.length+1 - i) (cap - i)) (by simp[Act.eval,Act.put]) (by simp[Act.eval,Act.put]) hr1 ?_)
 go_wp2_with (at_builtin;refine gZ rfl _ _ _ _ rfl _ _ rfl rfl hr2 ?_)
 go_ret;exact⟨_,rfl,HF,HG,fun g' h=>(by have h:g=g':=Option.some.inj h;subst h;exact HO),fun g' h=>.inl h⟩
theorem zT (v x:Value) (S:List St) (s:St) (i:Nat) (w:World) (hv:(Vp.ownr stT 22 S.length (aF S)).p w v) (hx:(Vp.row stT 1 s.qs).p w x) (hxb:∀g,v.ownBlock=some g→∀a n c,x= .slice (some a) n c→a.block≠g) (hi:i≤S.length) (hS:S.length≤1000000):
  Calls Tryz.prog 187 #[v,.int .i64 (i:Int),x] w fun e w'=>InsP w v S s i e w':=by
 by_cases h:i=S.length
 ·subst h;exact q_Ins1 v x S s w hv hx hS
 ·have hv':=hv;obtain⟨xs,⟨⟨_,ho⟩,_⟩,_⟩:=hv';rcases ho with⟨rfl,h0⟩ | ⟨g,cap,cur,rfl,_,_,hnc,_⟩
  ·omega
  ·by_cases hr:S.length+1≤cap
   ·exact q_Ins3 g cap x S s i w hv hx (hxb g rfl) (by omega) hr hS
   ·exact q_Ins2 g cap x S s i w hv hx (by omega) (by omega) hS
section
variable {ρ:Rho} {n m k r j:Nat} {u v c:Int} {b d:Bool} {l l':Leaf} {t T e:TypeId} {B:Blk} {w:World} {ik:IntKind} {x:St} {S:List St} {qs:List Vp} {L sz:Nat}
theorem ng {s:Vp} {y:Value} (hn:ρ[n]? =some s) (h:(Leaf.own j n).holds ρ B w y):s.p w y∧(∀g,s.fp w y g→B.o j g)∧∀g,y.ownBlock=some g→B.o j g:=by
 obtain⟨s',h1,h2,h3,h4⟩:=h;rw[hn]at h1;injection h1 with h1;subst h1;exact⟨h2,h3,h4⟩
theorem j6 (ht:∃e,Tryz.prog.underlying t=some (.slice e)) (hn:ρ[n]? =some (.ownr T sz L qs)) (hl:∀B w,l.holds ρ B w (.int .i64 (L:Int))):(OIns.mk (.len t) [.one (.own j n)] (.one l)).Ok Tryz.prog ρ:=fun B w vs hv=>by
 match vs,hv with
 | [v1],hv=>
  obtain⟨a,c,rfl⟩:=kX (iO (ng hn hv.1).1);obtain⟨e,he⟩:=ht;refine⟨.int .i64 (L:Int),hl B w,fun ts ty h0=> ?_⟩;simp[Builtin.len_,h0,Sem.run_bind,run_underlying he,Result.andThen,goInt]
theorem run_slFr {p:Program} {v1:Value} (ht:p.underlying t=some (.slice e)) (hz:szB p e=some 22) (h:(Vp.row T S.length (aF S)).p w v1) (hk:k≤S.length):∃y,(Instr.sliceAt t v1 (some (.int .i64 (k:Int))) none none).run p w= .ok y w∧(Vp.row T (S.length - k) (aF (S.drop k))).p w y∧∀g,y.ownBlock=some g→v1.ownBlock=some g:=by
 rcases h with⟨h,h0,rfl⟩ | ⟨b,o,c,cs,rfl,hc,hb,hq⟩
 ·have hk0:k=0:=by omega
  subst hk0;refine⟨.slice none 0 0,?_,.inl ⟨by simpa using h,by simpa using h0,rfl⟩,fun g h=>h⟩;simp[Instr.sliceAt,Instr.slice,Instr.sliceBounds,Instr.sliceBound,asIntOf,Sem.run_bind,run_underlying ht,bm hz,Result.andThen,h0]
 ·refine⟨.slice (some ⟨b,if c=k then o else o+k*22,none⟩) (S.length - k) (c - k),?_,.inr ⟨b,_,_,cs,rfl,by omega,hb,fun j q hj=> ?_⟩,fun g h=>h⟩
  ·have h4:(k:Int)≤(S.length:Int):=by omega
   by_cases hck:c=k
   ·simp[Instr.sliceAt,Instr.slice,Instr.sliceBounds,Instr.sliceBound,asIntOf,Sem.run_bind,run_underlying ht,bm hz,Result.andThen,h4,hk,hck]
   ·simp[Instr.sliceAt,Instr.slice,Instr.sliceBounds,Instr.sliceBound,asIntOf,Sem.run_bind,run_underlying ht,bm hz,Result.andThen,h4,hk,hck,dr]
  ·by_cases hck:c=k
   ·have h5:S.drop k=[]:=List.drop_eq_nil_of_le (by omega);rw[h5]at hj;simp[aF]at hj
   ·rw[if_neg hck,Nat.add_assoc];exact hq _ q (zS S k hk j q hj)
theorem row_fp {y:Value} {g:Nat} (h:(Vp.row T L qs).fp w y g):y.ownBlock=some g:=by obtain⟨o,n,c,rfl⟩:=h;rfl
theorem row_own {y:Value} (hm:ρ[m]? =some (.row T L qs)) (h:(Vp.row T L qs).p w y) (hb:∀g,y.ownBlock=some g→B.o j g):(Leaf.own j m).holds ρ B w y:=⟨_,hm,h,fun g hg=>hb g (row_fp hg),hb⟩
theorem o_slFrN (ht:Tryz.prog.underlying t=some (.slice e)) (hz:szB Tryz.prog e=some 22) (hn:ρ[n]? =some (.ownr T sz S.length (aF S))) (hr:r=S.length - k) (hm:ρ[m]? =some (.row T r (aF (S.drop k)))) (hl:KI ρ l .i64 (k:Int)) (hk:k≤S.length):(OIns.mk (.sl t true false) [.one (.own j n),.one l] (.one (.own j m))).Ok Tryz.prog ρ:=fun B w vs hv=>by
 match vs,hv with
 | [v1,v2],hv=>
  obtain⟨h2,_,h4⟩:=ng hn hv.1;have e2:=hl _ _ _ hv.2.1;subst e2;subst hr;obtain⟨y,h5,h6,h7⟩:=run_slFr (p:=Tryz.prog) ht hz (iO h2) hk;exact⟨y,row_own hm h6 (fun g hg=>h4 g (h7 g hg)),h5⟩
end
def Vp.rowB (pin:Bool) (sl:Value) (T:TypeId) (L:Nat) (qs:List Vp):Vp:=.of (fun w v=>(Vp.row T L qs).p w v∧(∀b,v.ownBlock=some b→sl.ownBlock=some b)∧(pin=true→v=sl))
 (fun v g=>∃o n c,v= .slice (some ⟨g,o,none⟩) n c)
 (fun w w' X v h k hX=>⟨((Vp.row T L qs).ch w w' X v h.1 k hX).1,h.2⟩)
 (fun w v g h hg=>(Vp.row T L qs).lt w v g h.1 hg)
 (fun w v h=>(Vp.row T L qs).fl w v h.1)
section
variable {ρ:Rho} {n m k r j:Nat} {u v c:Int} {b d:Bool} {l l':Leaf} {t T e:TypeId} {B:Blk} {w:World} {ik:IntKind} {x:St} {S:List St} {qs:List Vp} {L sz:Nat} {sl:Value} {pin:Bool}
theorem pd {y:Value} (hn:ρ[n]? =some (.rowB pin sl T L qs)) (h:(Leaf.ref n).holds ρ B w y):(Vp.row T L qs).p w y∧(∀b,y.ownBlock=some b→sl.ownBlock=some b)∧∀g,(∃o n c,y= .slice (some ⟨g,o,none⟩) n c)→¬B.has g:=by
 obtain⟨s',h1,h2,h3⟩:=h;rw[hn]at h1;injection h1 with h1;subst h1;exact⟨h2.1,h2.2.1,h3⟩
theorem o_lenB (ht:∃e,Tryz.prog.underlying t=some (.slice e)) (hn:ρ[n]? =some (.rowB pin sl T L qs)) (hl:∀B w,l.holds ρ B w (.int .i64 (L:Int))):(OIns.mk (.len t) [.one (.ref n)] (.one l)).Ok Tryz.prog ρ:=fun B w vs hv=>by
 match vs,hv with
 | [v1],hv=>
  obtain⟨a,c,rfl⟩:=kX (pd hn hv.1).1;obtain⟨e,he⟩:=ht;refine⟨.int .i64 (L:Int),hl B w,fun ts ty h0=> ?_⟩;simp[Builtin.len_,h0,Sem.run_bind,run_underlying he,Result.andThen,goInt]
theorem o_iaB (ht:Tryz.prog.underlying t=some (.slice e)) (hz:szB Tryz.prog e=some 22) (hn:ρ[n]? =some (.rowB pin sl T S.length (aF S))) (hm:ρ[m]? =some (.plc T x.qs)) (hl:KI ρ l .i64 (k:Int)) (hx:S[k]? =some x):(OIns.mk (.ia t) [.one (.ref n),.one l] (.one (.ref m))).Ok Tryz.prog ρ:=fun B w vs hv=>by
 match vs,hv with
 | [v1,v2],hv=>
  obtain⟨h2,_,h3⟩:=pd hn hv.1;have e2:=hl _ _ _ hv.2.1;subst e2;obtain⟨b,o,c,cs,rfl,hc,hb,hq⟩:=row_at h2 (rowS_ne hx);have hk:=(List.getElem?_eq_some_iff.1 hx).1;refine⟨.pointer (some ⟨b,o+k*22,none⟩),⟨_,hm,⟨b,o+k*22,cs,rfl,hb,fun i q hi=> ?_⟩,fun g ⟨o',e'⟩=> ?_⟩,?_⟩
  ·obtain⟨u,k1,k2⟩:=hq _ q (uy hx hi);exact⟨u,by rw[Nat.add_assoc];exact k1,k2⟩
  ·injection e' with e1;injection e1 with e1;injection e1 with e1 _ _;subst e1;exact h3 _ ⟨_,_,_,rfl⟩
  ·simp[Instr.indexAt,asIntOf,Sem.run_bind,run_underlying ht,bm hz,Result.andThen,hk,dr]
theorem uB {y:Value} (h:(Vp.row T L qs).p w y):∀a n c,y= .slice (some a) n c→a.spot=none:=fun a n c e=>by
 rcases h with⟨_,_,h⟩ | ⟨b,o,c',cs,h,_⟩
 ·rw[h]at e;cases e
 ·rw[h]at e;injection e with e;injection e with e;subst e;rfl
theorem row_sl {y:Value} (h:(Vp.row T L qs).p w y):∃a n c,y= .slice a n c:=by
 rcases h with⟨_,_,h⟩ | ⟨b,o,c',cs,h,_⟩<;>exact⟨_,_,_,h⟩
end
structure TrkS (T:TypeId) (w:World) (g:Nat) (sl:Value) (S:List St):Prop where
 blk:w.heap[g]? =some (.cells #[sl] T (0,0))
 row:(Vp.row stT S.length (aF S)).p w sl
 ne:∀b,sl.ownBlock=some b→b≠g
structure TrkM (T:TypeId) (w:World) (g:Nat) (sl:Value) (S':List St) (w':World):Prop where
 ex:∃sl',TrkS T w' g sl' S'∧∀b,sl'.ownBlock=some b→sl.ownBlock=some b∨(w.heap.size≤b∧bC w' b)
 kept:(Ent.mk w (fun x=>x=g) []).kept w'
def jB (w:World) (g:Nat):Ent:=⟨w,fun x=>x=g,[g]⟩
def qv (g:Nat):Blk:=⟨fun x=>if x=0 then some g else none,fun _ _=>False⟩
section
variable {ρ:Rho} {w:World} {C:List Inst} {L:List OIns} {T:TypeId} {g m:Nat} {sl:Value} {S S':List St} {pin:Bool}
theorem trkB_inj:BInj (qv g):=⟨fun x y h e1 e2=>by
 unfold qv at e1 e2;simp only at e1 e2;split at e1<;>split at e2<;>first | omega | (cases e1;done) | (cases e2;done),fun _ _ _ h=>h.elim,fun _ _ _ _ h=>h⟩
theorem zU (h:TrkS T w g sl S) (hm:ρ[m]? =some (.rowB true sl stT S.length (aF S))) {args:List SV} {vs:List Value} {nt:Nat} (hn:args.length≤nt) (ha:bW ρ (qv g) w args vs):
  MSt ρ (jB w g) nt ⟨fc args nt,[(T,[.ref m])].map fun q=>(q.1,q.2.map some)⟩ {tmps:=vs.toArray++Array.replicate (nt - vs.toArray.size) undef,defers:=[]} w:=by
 have hg:=(Array.getElem?_eq_some_iff.1 h.blk).1;refine x9 (E:=jB w g) (B:=qv g) (vars:=[(T,[.ref m])]) trkB_inj (fun _ _ h=>h.elim) (fun x y=> ?_) rfl (fun x q hq=> ?_) hn ha
 ·show [g][x]? =some y↔(if x=0 then some g else none)=some y
  cases x with
  | zero=>simp
  | succ x=>simp
 ·cases x with
  | succ x=>simp at hq
  | zero=>
   simp only[List.getElem?_cons_zero,Option.some.injEq]at hq;subst hq;refine⟨fun y hy=> ?_,g,#[sl],rfl,h.blk,⟨⟨_,hm,⟨h.row,fun _ hb=>hb,fun _=>rfl⟩,fun b hb hB=> ?_⟩,trivial⟩,fun k n hk=> ?_⟩
   ·have:some g=some y:=hy;show y=g;exact(Option.some.inj this).symm
   ·rcases hB with⟨y,hy⟩ | ⟨_,hy⟩
    ·unfold qv at hy;simp only at hy;split at hy
     ·have e:=Option.some.inj hy;obtain⟨o,n,c,e'⟩:=hb;exact h.ne b (by rw[e'];rfl) e.symm
     ·cases hy
    ·exact hy
   ·cases k with
    | zero=>
     simp only[List.getElem?_toArray,List.getElem?_cons_zero,Option.some.injEq]at hk;have:=(Vp.row stT S.length (aF S)).fl w sl h.row;exact this.2.2 n hk
    | succ k=>simp at hk
theorem wJ (h:TrkS T w g sl S) (hC:∀i∈C,i.Ok0 Tryz.prog ρ (jB w g)) (hO:∀i∈L,i.OkE (jB w g) Tryz.prog ρ) {f:FuncId} {fn:Func} (hf:Tryz.prog.funcs[f]? =some fn) {args:List SV} {vs:List Value} {fuel:Nat} {lo:Los} {r:AV} {s:MS} {obs:List LOb} {l:Leaf}
  (hm:ρ[m]? =some (.rowB true sl stT S.length (aF S))) (hr:ml Tryz.prog C L fn args [(T,[.ref m])] fuel lo=some (r,s,obs)) (hl:∀o∈obs,o.Ok Tryz.prog ρ (jB w g) fn.ntmps) (ha:bW ρ (qv g) w args vs) (hs:s.vars[0]? =some (T,[some l]))
  (hS:(∃pin m',l= .ref m'∧ρ[m']? =some (.rowB pin sl stT S'.length (aF S')))∨∃k m',l= .own k m'∧(ρ[m']? =some (.row stT S'.length (aF S'))∨ρ[m']? =some (.ownr stT 22 S'.length (aF S')))):
  Calls Tryz.prog f vs.toArray w (fun e w'=>∃v B',e= .returned v∧r.holds ρ B' w' v∧TrkM T w g sl S' w'∧(l= .ref m→Below w.heap.size w w')∧∀k b,B'.o k b→w.heap.size≤b∧bC w' b):=by
 refine(kW (E:=jB w g) (B:=qv g) hC hO (by kernel_rfl) hf hr hl (fun hn=>zU h hm hn ha)).mono ?_;rintro e w' ⟨v,B',a',rfl,h1,hi,hv⟩
 suffices hh:(∃sl',TrkS T w' g sl' S'∧∀b,sl'.ownBlock=some b→sl.ownBlock=some b∨(w.heap.size≤b∧bC w' b))∧(l= .ref m→w'.heap[g]? =w.heap[g]?)from
  ⟨v,B',rfl,h1,⟨hh.1,⟨hi.below.os,hi.below.tape,hi.below.output,hi.below.size,fun k hk hX=>hi.below.block k hk hX⟩⟩,fun e=>⟨hi.below.os,hi.below.tape,hi.below.output,hi.below.size,fun k hk=>by
   by_cases e2:k=g
   ·subst e2;exact hh.2 e
   ·exact hi.below.block k hk e2⟩,fun k b hb=>by
   have hp:=hi.pin 0 g rfl;obtain⟨h4,h5⟩:=hi.own _ _ hb;rcases h4 with h4 | h4
   ·exact⟨h4,h5⟩
   ·have h4:b=g:=h4;subst h4;exact absurd hb (hi.inj.vo _ _ _ hp)⟩
 obtain⟨g',cs,e1,e2,e3,_⟩:=hi.var (x:=0) (t:=T) (ls:=[l]) hv hs (Nat.succ_pos _) (by show 1≤100000;decide);have hp:=hi.pin 0 g rfl;rw[hp]at e1;injection e1 with e1;subst e1;have hcs:∃sl',cs.toList=[sl']∧l.holds ρ B' w' sl':=by
  match hc:cs.toList,e3 with
  | [sl'],e3=>exact⟨sl',rfl,e3.1⟩
  | [],e3=>exact e3.elim
  | _::_::_,e3=>exact e3.2.elim
 obtain⟨sl',h2,h3⟩:=hcs;have hcs:cs=#[sl']:=by rw[←Array.toList_inj];exact h2
 subst hcs;refine⟨?_,fun e=> ?_⟩;rcases hS with⟨pin,m',rfl,hm'⟩ | ⟨k,m',rfl,hm'⟩
 ·obtain⟨k1,k2,k3⟩:=pd hm' h3;exact⟨sl',⟨e2,k1,fun b hb e=>h.ne b (k2 b hb) e⟩,fun b hb=>.inl (k2 b hb)⟩
 ·have hrow:(Vp.row stT S'.length (aF S')).p w' sl':=by
   rcases hm' with hm' | hm'
   ·exact(ng hm' h3).1
   ·exact iO (ng hm' h3).1
  obtain⟨_,_,_,_,k4⟩:=h3;have hb:∀b,sl'.ownBlock=some b→b≠g∧w.heap.size≤b∧bC w' b:=fun b hb=>by
   have k5:=k4 b hb;have k6:b≠g:=fun e=>by subst e;exact hi.inj.vo _ _ _ hp k5
   obtain⟨k7,k8⟩:=hi.own _ _ k5;rcases k7 with k7 | k7
   ·exact⟨k6,k7,k8⟩
   ·exact absurd k7 k6
  exact⟨sl',⟨e2,hrow,fun b hb'=>(hb b hb').1⟩,fun b hb'=>.inr (hb b hb').2⟩
 ·subst e;obtain⟨s',k1,k2,_⟩:=h3;rw[hm]at k1;injection k1 with k1;subst k1;rw[e2,k2.2.2 rfl,h.blk]
end
section
variable {ρ:Rho} {n m m' k r j u:Nat} {T:TypeId} {B:Blk} {w:World} {S S':List St} {f:FuncId} {args xs:List SV} {l:Leaf}
theorem row_new {s:Vp} (hen:∀(vs:Array Value) (w:World),(callFunc f vs).run Tryz.prog w= .ok (.enter f vs) w) (hm:ρ[m]? =some s) {r:SV} (hfp:∀w y g,s.fp w y g→y.ownBlock=some g)
  (h:∀B w vs,BOk B w.heap.size→bW ρ B w args vs→Calls Tryz.prog f vs.toArray w (fun e w'=>∃v,e= .returned v∧s.p w' v∧(∀b,v.ownBlock=some b→w.heap.size≤b∧bC w' b)∧Below w.heap.size w w')):
  (OIns.mk (.mut f ⟨[k],[],[],none,[],[.one (.own k m)]⟩) args r).Ok Tryz.prog ρ:=fun B w vs hv=>by
 refine⟨hen _ _,fun hbok hinj ho hov _ _=> ?_⟩;refine(h B w vs hbok hv).mono ?_;rintro e w' ⟨v,rfl,hp,hsl,hb⟩;refine⟨v,⟨B.v,fun l b=>B.o l b∨(l=k∧v.ownBlock=some b)⟩,rfl,⟨s,hm,hp,fun g hg=>.inr ⟨rfl,hfp _ _ _ hg⟩,fun g hg=>.inr ⟨rfl,hg⟩⟩,fun q hq=>(by cases hq),fun q hq=>(by cases hq),fun q hq=>(by cases hq),hb.os,hb.tape,hb.output,fun _ _=>rfl,fun q b hq=>(by cases hq),fun l b hb=>.inl hb,fun l b hb'=> ?_,fun l b hl hb'=> ?_,⟨hinj.v,fun l l' b h1 h2=> ?_,fun x l b h1 h2=> ?_⟩,⟨hb.size,fun b hl _=>hb.block b hl,fun b hX=> ?_⟩⟩
 ·rcases hb' with hb' | ⟨rfl,hb'⟩
  ·exact .inl hb'
  ·exact .inr ⟨by simp,(hsl b hb').1⟩
 ·rcases hb' with hb' | ⟨_,hb'⟩
  ·have h1:=ho l b hb';exact h1.blk (hb.block b h1.1) hb.size
  ·exact(hsl b hb').2
 ·rcases h1 with h1 | ⟨e1,h1⟩<;>rcases h2 with h2 | ⟨e2,h2⟩
  ·exact hinj.o _ _ _ h1 h2
  ·have:=hbok b (.inr ⟨l,h1⟩);have:=(hsl b h2).1;omega
  ·have:=hbok b (.inr ⟨l',h2⟩);have:=(hsl b h1).1;omega
  ·rw[e1,e2]
 ·rcases h2 with h2 | ⟨_,h2⟩
  ·exact hinj.vo _ _ _ h1 h2
  ·have:=hbok b (.inl ⟨x,h1⟩);have:=(hsl b h2).1;omega
 ·rcases hX with⟨l,hl,hb'⟩ | ⟨q,hq,_⟩
  ·exact ho l b hb'
  ·cases hq
theorem ownr_fp {sz L:Nat} {qs:List Vp}:∀w y g,(Vp.ownr T sz L qs).fp w y g→y.ownBlock=some g:=fun _ _ _ h=>h
theorem ownr_x {sz L:Nat} {qs:List Vp} {y:Value} (h:(Vp.ownr T sz L qs).p w y):∀b,y.ownBlock=some b→bC w b:=fun b hb=>by
 obtain⟨xs,⟨_,h0⟩,_⟩:=h;exact(h0 b hb).x
def RowL (ρ:Rho) (l:Leaf) (S:List St):Prop:=∀B w y,l.holds ρ B w y→(Vp.row stT S.length (aF S)).p w y
theorem wK {sl:Value} {pin:Bool} (h:ρ[n]? =some (.rowB pin sl stT S.length (aF S))):RowL ρ (.ref n) S:=fun _ _ _ hy=>(pd h hy).1
theorem rl_o (h:ρ[n]? =some (.row stT S.length (aF S))):RowL ρ (.own j n) S:=fun _ _ _ hy=>(ng h hy).1
theorem dp {r:SV} (hl:RowL ρ l S) (hm:ρ[m]? =some (.ownr stT 22 S.length (aF S))) (hS:S.length≤1000000):(OIns.mk (.mut 188 ⟨[k],[],[],none,[],[.one (.own k m)]⟩) [.one l] r).Ok Tryz.prog ρ:=
 row_new (az Tryz.func188 rfl rfl) hm ownr_fp (fun B w vs _ hv=>by
  match vs,hv with
  | [v],hv=>
   refine(q_CloneS v S w (hl _ _ _ hv.1) hS).mono ?_;rintro e w' ⟨v',rfl,h1,h2,h3⟩;exact⟨v',rfl,h1,fun b hb=>⟨h2 b hb,ownr_x h1 b hb⟩,h3⟩)
theorem zV {r:SV} {s:St} {xn i:Nat} {il:Leaf} (hn:ρ[n]? =some (.ownr stT 22 S.length (aF S))) (hx:ρ[xn]? =some (.row stT 1 s.qs)) (hi:KI ρ il .i64 (i:Int)) (hm:ρ[m]? =some (.ownr stT 22 (S.length+1) (aF (S.take i++s::S.drop i)))) (hle:i≤S.length) (hS:S.length≤1000000):
  (OIns.mk (.mut 187 ⟨[k],[],[],none,[],[.one (.own k m)]⟩) [.one (.own k n),.one il,.one (.ref xn)] r).Ok Tryz.prog ρ:=fun B w vs hv=>by
 match vs,hv with
 | [v,iv,xv],hv=>
  have e:=hi _ _ _ hv.2.1;subst e;obtain⟨h1,_,h3⟩:=ng hn hv.1;obtain⟨s',k1,k2,k3⟩:=hv.2.2.1;rw[hx]at k1;injection k1 with k1;subst k1;refine⟨az Tryz.func187 rfl rfl _ _,fun hbok hinj ho hov _ _=> ?_⟩;refine(zT v xv S s i w h1 k2 (fun g hg a n c e hag=> ?_) hle hS).mono ?_
  ·subst e;have hsp:=uB k2 _ _ _ rfl;obtain⟨ab,ao,asp⟩:=a;simp only at hsp hag;subst hsp;subst hag;exact k3 ab ⟨_,_,_,rfl⟩ (.inr ⟨k,h3 _ hg⟩)
  ·rintro e w' ⟨v',rfl,h5,hg,hold,hblk⟩;have hsl:∀b,v'.ownBlock=some b→B.o k b∨w.heap.size≤b:=fun b hb=>(hblk b hb).imp (h3 b) id
   refine⟨v',⟨B.v,fun l b=>B.o l b∨(l=k∧v'.ownBlock=some b)⟩,rfl,⟨_,hm,h5,fun g hg=>.inr ⟨rfl,hg⟩,fun g hg=>.inr ⟨rfl,hg⟩⟩,fun q hq=>(by cases hq),fun q hq=>(by cases hq),fun q hq=>(by cases hq),hg.os,hg.tape,hg.output,fun _ _=>rfl,fun q b hq=>(by cases hq),fun l b hb=>.inl hb,fun l b hb'=> ?_,fun l b hl hb'=> ?_,⟨hinj.v,fun l l' b h1 h2=> ?_,fun x l b h1 h2=> ?_⟩,⟨hg.size,fun b hl hX=>hg.block b hl (fun e=>hX (.inl ⟨k,by simp,h3 b e.symm⟩)),fun b hX=> ?_⟩⟩
   ·rcases hb' with hb' | ⟨rfl,hb'⟩
    ·exact .inl hb'
    ·exact(hsl b hb').imp id (fun h=>⟨by simp,h⟩)
   ·have e:l=k:=by simpa using hl
    subst e;have hun:B.o l b→bC w' b:=fun hb=>by
     have h1:=ho l b hb;by_cases e:v.ownBlock=some b
     ·exact(hold b e).x
     ·exact h1.blk (hg.block b h1.1 (fun e'=>e e'.symm)) hg.size
    rcases hb' with hb' | ⟨_,hb'⟩
    ·exact hun hb'
    ·exact ownr_x h5 b hb'
   ·rcases h1 with h1 | ⟨e1,h1⟩<;>rcases h2 with h2 | ⟨e2,h2⟩
    ·exact hinj.o _ _ _ h1 h2
    ·rcases hsl b h2 with h | h
     ·rw[e2];exact hinj.o _ _ _ h1 h
     ·have:=hbok b (.inr ⟨l,h1⟩);omega
    ·rcases hsl b h1 with h | h
     ·rw[e1];exact hinj.o _ _ _ h h2
     ·have:=hbok b (.inr ⟨l',h2⟩);omega
    ·rw[e1,e2]
   ·rcases h2 with h2 | ⟨_,h2⟩
    ·exact hinj.vo _ _ _ h1 h2
    ·rcases hsl b h2 with h | h
     ·exact hinj.vo _ _ _ h1 h
     ·have:=hbok b (.inl ⟨x,h1⟩);omega
   ·rcases hX with⟨l,hl,hb'⟩ | ⟨q,hq,_⟩
    ·exact ho l b hb'
    ·cases hq
end
def plN:List St→Int→Nat
 | [],_=>0
 | s::S,a=>if s.tm<a then plN S a+1 else 0
theorem bH:∀(S:List St) (a:Int),plN S a≤S.length
 | [],_=>Nat.le_refl _
 | s::S,a=>by
  simp only[plN,List.length_cons];split
  ·have:=bH S a;omega
  ·omega
theorem fq:∀ {S:List St} {a:Int} {k:Nat},k<plN S a→∃s,S[k]? =some s∧s.tm<a
 | [],_,_,h=>by simp[plN]at h
 | s::S,a,k,h=>by
  simp only[plN]at h;split at h
  ·rename_i hs
   match k with
   | 0=>exact⟨s,rfl,hs⟩
   | k+1=>
    obtain⟨x,h1,h2⟩:=fq (S:=S) (a:=a) (k:=k) (by omega);exact⟨x,by simpa using h1,h2⟩
  ·omega
theorem wL:∀ {S:List St} {a:Int},plN S a<S.length→∃s,S[plN S a]? =some s∧¬s.tm<a
 | [],_,h=>by simp at h
 | s::S,a,h=>by
  simp only[plN]at h⊢;split
  ·rename_i hs;rw[if_pos hs]at h;obtain⟨x,h1,h2⟩:=wL (S:=S) (a:=a) (by simp at h;omega);exact⟨x,by simpa using h1,h2⟩
  ·rename_i hs;exact⟨s,rfl,hs⟩
def opp (a b:Pq):Prop:=(a.rot.inv.mul b.rot).w.p=0
theorem iP {u v:Int} (h:u=v):jA .eql u v=some true:=by simp[jA,h]
theorem bX {u v:Int} (h:u≠v):jA .eql u v=some false:=by simp[jA,h]
theorem uC {u v:Int} (h:u≠v):jA .neq u v=some true:=by simp[jA,h]
theorem bp {u v:Int} (h:u<v):jA .lss u v=some true:=by simp[jA,h]
theorem aW {u v:Int} (h:¬u<v):jA .lss u v=some false:=by simp[jA,h]
theorem cj {u v:Int} (h:v<u):jA .gtr u v=some true:=by simp[jA,h]
theorem aV {u v:Int} (h:¬v<u):jA .gtr u v=some false:=by simp[jA,h]
def gA (w:World) (v:Value) (s:St):Prop:=∃cs:List Value,v= .agg (.int .i64 s.tm::cs).toArray∧aM w (s.pose.cs.map Fq.raw) cs
theorem cE {xs:List Fq} {ys:Rho} {n:Nat} {ks:List Nat} {s:St} {B:Blk} {w:World} {v:Value} (hn:(frs xs++ys)[n]? =some (.val (.int .i64 s.tm))) (ha:AtL xs ks s.pose.cs):(SV.agg (.ref n::bT ks)).holds (frs xs++ys) B w v↔gA w v s:=by
 constructor
 ·rintro⟨vs,rfl,h⟩
  match vs,h with
  | v0::vs,h=>
   have:=aO hn h.1;subst this;exact⟨vs,rfl,(gr ha).1 h.2⟩
 ·rintro⟨cs,rfl,h⟩;exact⟨.int .i64 s.tm::cs,rfl,aB hn aH,(gr ha).2 h⟩
def wM (p:Program) (C:List Inst) (L:List OIns) (fn:Func) (args:List SV) (T:TypeId) (m:Nat) (fuel:Nat) (lo:Los):Option (AV×Leaf×List LOb):=
 match ml p C L fn args [(T,[.ref m])] fuel lo with
 | some (r,s,obs)=>match s.vars[0]? with
  | some (t,[some l])=>if t=T then some (r,l,obs)else none
  | _=>none
 | none=>none
section
variable {ρ:Rho} {w:World} {C:List Inst} {L:List OIns} {T:TypeId} {g m:Nat} {sl:Value} {S S':List St}
def RowF (ρ:Rho) (sl:Value) (l:Leaf) (S':List St):Prop:=(∃pin m',l= .ref m'∧ρ[m']? =some (.rowB pin sl stT S'.length (aF S')))∨∃k m',l= .own k m'∧(ρ[m']? =some (.row stT S'.length (aF S'))∨ρ[m']? =some (.ownr stT 22 S'.length (aF S')))
theorem eL {m':Nat} {pin:Bool} (h:ρ[m']? =some (.rowB pin sl stT S'.length (aF S'))):RowF ρ sl (.ref m') S':=.inl ⟨pin,m',rfl,h⟩
theorem wN {k m':Nat} (h:ρ[m']? =some (.ownr stT 22 S'.length (aF S'))):RowF ρ sl (.own k m') S':=.inr ⟨k,m',rfl,.inr h⟩
theorem zW (h:TrkS T w g sl S) (hC:∀i∈C,i.Ok0 Tryz.prog ρ (jB w g)) (hO:∀i∈L,i.OkE (jB w g) Tryz.prog ρ) {f:FuncId} {fn:Func} (hf:Tryz.prog.funcs[f]? =some fn) {args:List SV} {vs:List Value} {fuel:Nat} {lo:Los} {r:AV} {obs:List LOb} {l:Leaf}
  (hm:ρ[m]? =some (.rowB true sl stT S.length (aF S))) (hr:wM Tryz.prog C L fn args T m fuel lo=some (r,l,obs)) (hl:∀o∈obs,o.Ok Tryz.prog ρ (jB w g) fn.ntmps) (ha:bW ρ (qv g) w args vs) (hS:RowF ρ sl l S'):
  Calls Tryz.prog f vs.toArray w (fun e w'=>∃v B',e= .returned v∧r.holds ρ B' w' v∧TrkM T w g sl S' w'∧(l= .ref m→Below w.heap.size w w')∧∀k b,B'.o k b→w.heap.size≤b∧bC w' b):=by
 unfold wM at hr;split at hr
 ·rename_i r' s obs' h1;split at hr
  ·rename_i t l' h2;split at hr
   ·rename_i ht;subst ht;simp only[Option.some.injEq,Prod.mk.injEq]at hr;obtain⟨rfl,rfl,rfl⟩:=hr;exact wJ h hC hO hf hm h1 hl ha h2 hS
   ·cases hr
  ·cases hr
 ·cases hr
theorem aP (h:TrkS T w g sl S) (hC:∀i∈C,i.Ok0 Tryz.prog ρ (jB w g)) (hO:∀i∈L,i.OkE (jB w g) Tryz.prog ρ) {f:FuncId} {fn:Func} (hf:Tryz.prog.funcs[f]? =some fn) {args:List SV} {vs:List Value} {fuel:Nat} {lo:Los} {r:AV} {obs:List LOb} {l:Leaf}
  (hm:ρ[m]? =some (.rowB true sl stT S.length (aF S))) (hr:wM Tryz.prog C L fn args T m fuel lo=some (r,l,obs)) (hl:∀o∈obs,o.Ok Tryz.prog ρ (jB w g) fn.ntmps) (ha:bW ρ (qv g) w args vs) (hS:RowF ρ sl l S'):
  Calls Tryz.prog f vs.toArray w (fun e w'=>∃v B',e= .returned v∧r.holds ρ B' w' v∧TrkM T w g sl S' w'∧(l= .ref m→Below w.heap.size w w')):=
 (zW h hC hO hf hm hr hl ha hS).mono fun _ _ ⟨v,B',h1,h2,h3,h4,_⟩=>⟨v,B',h1,h2,h3,h4⟩
theorem dy:(SV.one (.ptr 0 0)).holds ρ (qv g) w (.pointer (some ⟨g,0,none⟩)):=⟨g,rfl,rfl⟩
theorem TrkM.same {w':World} (h:TrkM T w g sl S w') (h2:w'.heap[g]? =w.heap[g]?):Below w.heap.size w w':=
 ⟨h.kept.os,h.kept.tape,h.kept.output,h.kept.size,fun k hk=>by
  by_cases e:k=g
  ·subst e;exact h2
  ·exact h.kept.block k hk e⟩
end
end Go.Proofs.YtggfmklppkioeaaGreat
