/- Trees of frames: a link more in memory. Trees of frames: Attach, where it does. Trees of frames: Attach. What is true of a tree depends on the links of each child only. Trees of frames: a track changes in memory. Whole numbers of small kinds: rests, conversions. Poses of steps; copies of poses. What an argument of type api.Nat is: a row of digits. What arguments of the types api.Pose, api.Vec, api.Frac are: rows of fractions, leading zeros allowed, no longer than the argument's bulk. What arguments of the type []api.Stamped are: rows of stamps, leading zeros allowed. What arguments of the type []api.Stamped are: rows of stamps. Trees of frames: Set, Fixed. Trees of frames: Fixed. -/
import Derived.Test.YtggfmklppkioeaaGreatP15
import Derived.Deep.AppendLies
import Derived.Deep.RegionHeld3
import Derived.WalkKit
import Derived.ProofKit
import Derived.OpenShut
import Derived.ShutString
import Derived.ChangeOld
import Derived.Below
import Derived.Test.YtggfmklppkioeaaGreatRows
import Derived.SizedLaws
import Derived.Deep.Strs
import Derived.Deep.Slices
import Derived.Deep.MidRow
import Derived.Deep.Cut
namespace Go.Proofs.YtggfmklppkioeaaGreat
set_option linter.unusedSimpArgs false
set_option linter.unusedVariables false
set_option maxRecDepth 100000
open Go.RowKit
def cW (c p:Nm) (f:Int) (g:Nat):Array Value:=#[.string c,.string p,.int .i64 f,.int .i64 (-1),.bool false,.bool false,.slice none 0 0,.slice none 0 0,.bool false,.slice none 0 0,.slice none 0 0,.bool false,.slice none 0 0,.slice none 0 0,.bool false,.slice none 0 0,.slice none 0 0,.bool false,.slice none 0 0,.slice none 0 0,.bool false,.slice none 0 0,.slice none 0 0,.bool false,.slice none 0 0,.slice none 0 0,ptB g]
def All2 (w:World):List Vp→List Value→Prop
 | [],[]=>True
 | q::qs,v::vs=>q.p w v∧All2 w qs vs
 | _,_=>False
theorem All2.get {w:World}:∀ {qs:List Vp} {vs:List Value},All2 w qs vs→vs.length=qs.length∧∀(j:Nat) (q:Vp),qs[j]? =some q→∃u,vs[j]? =some u∧q.p w u
 | [],[],_=>⟨rfl,fun j q h=>by simp at h⟩
 | q::qs,v::vs,h=>by
  obtain⟨h1,h2⟩:=h.2.get;refine⟨by simp[h1],fun j q' hq=> ?_⟩
  cases j with
  | zero=>simp at hq;subst hq;exact⟨v,rfl,h.1⟩
  | succ j=>simpa using h2 j q' (by simpa using hq)
 | [],_::_,h=>h.elim
 | _::_,[],h=>h.elim
theorem All2.cells {w:World} {qs:List Vp} {vs:List Value} (h:All2 w qs vs):kh w vs.toArray qs:=⟨by simpa using h.get.1,fun j q hq=>by simpa using h.get.2 j q hq⟩
theorem lR {w:World}:(Vp.dig (nl 0) 0).p w (.slice none 0 0):=by
 rw[bv];exact⟨none,0,rfl,Nat.le_refl _,⟨by simp,fun h=>absurd h (by simp)⟩⟩
theorem gD {w:World} {v:Value} (h:dU v):(Vp.val v).p w v:=⟨rfl,h⟩
theorem iW {w:World} {c p:Nm} {f:Int} {b g:Nat} {sl:Value}:kh w (cW c p f g) (lnQ c ⟨df p f,b,g,sl⟩):=
 All2.cells (vs:=(cW c p f g).toList) ⟨gD cT,gD cT,gD aH,gD aH,gD bU,gD bU,lR,lR,gD bU,lR,lR,gD bU,lR,lR,gD bU,lR,lR,gD bU,lR,lR,gD bU,lR,lR,gD bU,lR,lR,gD ue,trivial⟩
theorem fp_add {A O B N Q:List Nat} {g2 n:Nat} (h:(A++(O++B)++Q).Nodup) (hlt:∀x∈A++(O++B)++Q,x<n) (hg:g2∈O∨n≤g2) (hN:(g2::N).Nodup) (hn:∀x∈N,n≤x):(A++(g2::(B++N))++Q).Nodup:=by
 have hp:(A++(g2::(B++N))++Q).Perm ((A++B++Q)++(g2::N)):=List.perm_iff_count.2 (fun x=>by simp only[List.count_append,List.count_cons];omega);have hp2:(A++(O++B)++Q).Perm ((A++B++Q)++O):=List.perm_iff_count.2 (fun x=>by simp only[List.count_append];omega);rw[hp.nodup_iff];rw[hp2.nodup_iff]at h;obtain⟨h1,h2,h3⟩:=List.nodup_append.1 h;refine List.nodup_append.2 ⟨h1,hN,fun a ha b hb e=> ?_⟩;subst e;have halt:a<n:=hlt a ((hp2.mem_iff).2 (List.mem_append.2 (.inl ha)));rcases List.mem_cons.1 hb with rfl | hb
 ·rcases hg with hg | hg
  ·exact h3 a ha a hg rfl
  ·omega
 ·have:=hn a hb;omega
def AtC (E:List Ch) (c:Nm) (E1 E2:List Ch) (O:List Nat) (ls:List Ln):Prop:=(O=[]∧ls=[]∧E=E1∧E2=[]∧chE E c=none)∨∃rb cap,O=[rb]∧E=E1++⟨c,rb,cap,ls⟩::E2
theorem AtC.fp {E:List Ch} {c:Nm} {E1 E2:List Ch} {O:List Nat} {ls:List Ln} (h:AtC E c E1 E2 O ls) (t m:Nat):fpT t m E=(t::m::E1.flatMap Ch.fp)++(O++ls.flatMap Ln.fp)++E2.flatMap Ch.fp:=by
 rcases h with⟨rfl,rfl,rfl,rfl,_⟩ | ⟨rb,cap,rfl,rfl⟩
 ·simp[fpT]
 ·simp[fpT,Ch.fp,List.flatMap_append,List.flatMap_cons,List.append_assoc]
theorem att_fp (t m:Nat) (c:Nm) (E1 E2:List Ch) (g2 cap2:Nat) (ls:List Ln) (l:Ln):fpT t m (E1++⟨c,g2,cap2,ls++ [l]⟩::E2)=(t::m::E1.flatMap Ch.fp)++(g2::(ls.flatMap Ln.fp++l.fp))++E2.flatMap Ch.fp:=by
 simp[fpT,Ch.fp,List.flatMap_append,List.flatMap_cons,List.append_assoc]
theorem AtC.put {E:List Ch} {c:Nm} {E1 E2:List Ch} {O:List Nat} {ls:List Ln} (h:AtC E c E1 E2 O ls) (hn:(E.map (·.c)).Nodup) (g2 cap2:Nat) (l:Ln):
  pw (E.map fun ch=>(ch.c,ch.row)) c (.slice (some ⟨g2,0,none⟩) (ls.length+1) cap2)=(E1++⟨c,g2,cap2,ls++ [l]⟩::E2).map fun ch=>(ch.c,ch.row):=by
 have e:(⟨c,g2,cap2,ls++ [l]⟩:Ch).row= .slice (some ⟨g2,0,none⟩) (ls.length+1) cap2:=by simp[Ch.row]
 rcases h with⟨rfl,rfl,rfl,rfl,hc⟩ | ⟨rb,cap,rfl,rfl⟩
 ·have hc2:c∉(E.map fun ch=>(ch.c,ch.row)).map (·.1):=fun hm=>by
   rw[List.map_map]at hm;obtain⟨ch,h1,h2⟩:=List.mem_map.1 hm;exact chE_none hc h1 h2
  rw[pw,if_neg hc2,List.map_append,List.map_cons,e];rfl
 ·have hm:c∈((E1++(⟨c,rb,cap,ls⟩:Ch)::E2).map fun ch=>(ch.c,ch.row)).map (·.1):=by simp
  rw[pw,if_pos hm,List.map_map,List.map_append,List.map_cons,List.map_append,List.map_cons,e];rw[List.map_append,List.map_cons,List.nodup_append,List.nodup_cons]at hn;obtain⟨_,⟨h2,_⟩,h3⟩:=hn;have k1:∀ch∈E1,ch.c≠c:=fun ch hc e=>h3 _ (List.mem_map.2 ⟨ch,hc,rfl⟩) c (List.mem_cons_self ..) e
  have k2:∀ch∈E2,ch.c≠c:=fun ch hc e=>h2 (List.mem_map.2 ⟨ch,hc,e⟩)
  congr 1
  ·exact List.map_congr_left (fun ch hc=>by simp[k1 ch hc])
  ·congr 1
   ·simp
   ·exact List.map_congr_left (fun ch hc=>by simp[k2 ch hc])
theorem asz (w:World) (o:Obj):(w.alloc o).heap.size=w.heap.size+1:=Array.size_push ..
set_option maxHeartbeats 2000000 in
theorem yG {w4 w5:World} {t m:Nat} {E:List Ch} {c p:Nm} {f:Int} {E1 E2:List Ch} {O:List Nat} {ls:List Ln} {g:Nat} {sl v:Value} (hT:TM w4 t m E) (hA:AtC E c E1 E2 O ls) (hl64:ls.length<64)
  (hg:w4.heap.size≤g) (hTk:TrkS trT w5 g sl []) (hso:∀b,sl.ownBlock=some b→w4.heap.size≤b∧bC w5 b) (hb5:Below w4.heap.size w4 w5) (hv:∀k,v.ownBlock=some k→k∈O) (hro:dZ w4 lpT 1 v ls.length (ls.map fun l=>ptB l.b)):
  ∃(g2 cap2:Nat) (w8 w9:World),(Builtin.append_ #[158,158] 158 #[v,.slice (some ⟨w5.heap.size+1,0,none⟩) 1 1]).run Tryz.prog ((w5.alloc (.cells (cW c p f g) lkT)).alloc (.cells #[ptB w5.heap.size] lpT))= .ok (.slice (some ⟨g2,0,none⟩) (ls.length+1) cap2) w8∧w8.cell? ⟨t,0,none⟩=some (.map (some m))∧
   (Instr.mapUpdate mpT (.map (some m)) (.string c) (.slice (some ⟨g2,0,none⟩) (ls.length+1) cap2)).run Tryz.prog w8= .ok () w9∧w9.cell? ⟨t,0,none⟩=some (.map (some m))∧TPost w4 t m E w9 (E1++⟨c,g2,cap2,ls++ [⟨df p f,w5.heap.size,g,sl⟩]⟩::E2):=by
 have hb7:Below w5.heap.size w5 ((w5.alloc (.cells (cW c p f g) lkT)).alloc (.cells #[ptB w5.heap.size] lpT)):=((Below.refl _ _).alloc (Nat.le_refl _) _).alloc (by rw[asz];omega) _;have hs7:((w5.alloc (.cells (cW c p f g) lkT)).alloc (.cells #[ptB w5.heap.size] lpT)).heap.size=w5.heap.size+1+1:=by rw[asz,asz]
 have hn7:((w5.alloc (.cells (cW c p f g) lkT)).alloc (.cells #[ptB w5.heap.size] lpT)).heap[w5.heap.size]? =some (.cells (cW c p f g) lkT (0,0)):=by
  rw[heap_alloc_old _ _ (by rw[asz];omega),heap_alloc_new]
 have hn8:((w5.alloc (.cells (cW c p f g) lkT)).alloc (.cells #[ptB w5.heap.size] lpT)).heap[w5.heap.size+1]? =some (.cells #[ptB w5.heap.size] lpT (0,0)):=by
  have:=heap_alloc_new (w5.alloc (.cells (cW c p f g) lkT)) (.cells #[ptB w5.heap.size] lpT);rwa [asz]at this
 generalize hw7:(w5.alloc (.cells (cW c p f g) lkT)).alloc (.cells #[ptB w5.heap.size] lpT)=w7 at *;have hvlt0:∀k,v.ownBlock=some k→k<w4.heap.size:=fun k hk=>by
  obtain⟨cs,T,h1,_⟩:=hro.2 k hk;exact(Array.getElem?_eq_some_iff.1 h1).1
 have h47:∀k,k<w4.heap.size→w7.heap[k]? =w4.heap[k]? :=fun k hk=>by rw[hb7.block k (Nat.lt_of_lt_of_le hk hb5.size),hb5.block k hk]
 have hro7:dZ w7 lpT 1 v ls.length (ls.map fun l=>ptB l.b):=by
  obtain⟨⟨h1,h2⟩,h3⟩:=hro;refine⟨⟨h1,h2.imp id ?_⟩,fun k hk=> ?_⟩
  ·rintro⟨k,cap,cur,e,hb,hg,hr⟩;exact⟨k,cap,cur,e,hb,by rw[h47 k (Array.getElem?_eq_some_iff.1 hg).1];exact hg,hr⟩
  ·obtain⟨cs,T,k1,k2⟩:=h3 k hk;exact⟨cs,T,by rw[h47 k (Array.getElem?_eq_some_iff.1 k1).1];exact k1,k2⟩
 obtain⟨i0,hi,hz0,hz1,hz2⟩:=info_parts (P:=Tryz.prog) (e:=lpT) (z:=.pointer none) (size:=1) (bytes:=8) (by kernel_rfl);obtain⟨v',w8,happ,hgrow,hvO,hat,hown,hOwn⟩:=sJ (p:=Tryz.prog) (w:=w7) (t:=158) (ty:=158) (e:=lpT) (i:=i0) (z:=.pointer none) Tryz.underlying158 hi hz0 (by rw[hz1];rfl) (by omega) (fun u hu n e=>by
  have:u= .pointer none:=by simpa [Value.cells]using hu
  subst this;cases e) (v:=v) (n:=ls.length) (xs:=ls.map fun l=>ptB l.b) (by rw[hz1];exact hro7) (a:=⟨w5.heap.size+1,0,none⟩) (m:=1) (c:=1) (news:=[ptB w5.heap.size]) (by rw[hz1];rfl)
  (World.news_of_block hn8) (fun u hu=>by simp at hu;subst hu;rfl) (fun u hu n e=>by simp at hu;subst hu;cases e) (by omega) (by rw[hz2];omega) (by omega)
 rw[hz1]at hown;have hlt:=hT.lt;have hnd:=hT.nd;have hfp:=hA.fp t m;rw[hfp]at hnd hlt;have h45:=hb5.size;have hOin:∀k∈O,k∈fpT t m E:=fun k hk=>by rw[hfp];simp[hk]
 have hvlt:∀k,v.ownBlock=some k→k<w4.heap.size:=fun k hk=>hT.lt k (hOin k (hv k hk))
 have hmlt:m<w4.heap.size:=hT.lt m (by simp[fpT]);have htlt:t<w4.heap.size:=hT.lt t (by simp[fpT]);have hmO:m∉O:=fun hm=>by
  rw[List.nodup_append,List.nodup_append]at hnd;exact hnd.1.2.2 m (by simp) m (by simp[hm]) rfl
 have htO:t∉O:=fun hm=>by
  rw[List.nodup_append,List.nodup_append]at hnd;exact hnd.1.2.2 t (by simp) t (by simp[hm]) rfl
 have htm:t≠m:=fun e=>by
  subst e;have:=hT.nd;simp[fpT]at this
 have k8:∀k,k<w4.heap.size→k∉O→w8.heap[k]? =w4.heap[k]? :=fun k hk hO=>by
  rw[hgrow.block k (by omega) (fun e=>hO (hv k e.symm)),hb7.block k (by omega),hb5.block k hk]
 have k8':∀k,w4.heap.size≤k→k<w7.heap.size→w8.heap[k]? =w7.heap[k]? :=fun k hk hk2=>hgrow.block k hk2 (fun e=>by have:=hvlt k e.symm;omega)
 have hs8:w7.heap.size≤w8.heap.size:=hgrow.size;obtain⟨hxl,⟨_,h0⟩ | ⟨g2,cap2,cur,rfl,_,hcur,hc1,hc2,hc3,hc4⟩⟩:=hown
 ·omega
 replace hat:v.ownBlock=some g2∨w7.heap.size≤g2:=hat g2 rfl
 have hM8:dq w8 m (E.map fun ch=>(ch.c,ch.row)):=hT.mp.other (k8 m hmlt hmO);obtain⟨w9,hmu,hM9,hu9⟩:=dq.update (P:=Tryz.prog) (t:=mpT) hM8 Tryz.underlying142 (by kernel_rfl) c (.slice (some ⟨g2,0,none⟩) (ls.length+1) cap2);rw[hA.put hT.keys g2 cap2 ⟨df p f,w5.heap.size,g,sl⟩]at hM9;have hg2m:g2≠m:=fun e=>by
  rcases hat with h | h
  ·exact hmO (e▸hv g2 h)
  ·omega
 have k9:∀k,k<w4.heap.size→k≠m→k∉O→w9.heap[k]? =w4.heap[k]? :=fun k hk hm hO=>by rw[hu9.block k hm];exact k8 k hk hO
 have hs9:w9.heap.size=w8.heap.size:=hu9.size;have hX:Chg w4 w9 (fun k=>k=m∨k∈O):=⟨by omega,fun k hk hn=>k9 k hk (fun e=>hn (.inl e)) (fun e=>hn (.inr e)),fun k hk=>hT.own k (by
  rcases hk with rfl | hk
  ·simp[fpT]
  ·exact hOin k hk)⟩
 have hX59:Chg w5 w9 (fun k=>k=m∨k∈O):=⟨by have:=hb7.size;omega,fun k hk hn=>by
  rw[hu9.block k (fun e=>hn (.inl e)),hgrow.block k (by omega) (fun e=>hn (.inr (hv k e.symm)))];exact hb7.block k hk,fun k hk=>by
  have hkm:k∈fpT t m E:=by
   rcases hk with rfl | hk
   ·simp[fpT]
   ·exact hOin k hk
  exact(hT.own k hkm).blk (hb5.block k (hT.lt k hkm)) h45⟩
 have hcur9:w9.heap[g2]? =some (.cells cur lpT (0,0)):=by rw[hu9.block g2 hg2m];exact hcur
 have hcget:∀(j:Nat) (l:Ln),(ls++ [⟨df p f,w5.heap.size,g,sl⟩])[j]? =some l→cur[j]? =some (ptB l.b):=fun j l hj=>by
  have h1:(((ls++ [(⟨df p f,w5.heap.size,g,sl⟩:Ln)]).map fun l=>ptB l.b)[j]?)=some (ptB l.b):=by rw[List.getElem?_map,hj];rfl
  rw[List.map_append,List.map_cons,List.map_nil,←hc4,List.getElem?_take]at h1;split at h1
  ·simpa using h1
  ·cases h1
 have hglt:g<w5.heap.size:=(Array.getElem?_eq_some_iff.1 hTk.blk).1;have hbO:∀k,w4.heap.size≤k→¬(k=m∨k∈O):=fun k hk h=>by
  rcases h with rfl | h
  ·omega
  ·have:=hT.lt k (hOin k h);omega
 have hTk9:TrkS trT w9 g sl []:=hTk.chg hX59 (hbO g hg) (fun b hb=>hbO b (hso b hb).1);have hlb9:w9.heap[w5.heap.size]? =some (.cells (cW c p f g) lkT (0,0)):=by
  rw[hu9.block _ (by omega),k8' _ (by omega) (by omega)];exact hn7
 have hLn:LnAt w9 c ⟨df p f,w5.heap.size,g,sl⟩:=⟨⟨_,hlb9,iW⟩,hTk9⟩;have hg2d:g2∈O∨w5.heap.size+1+1≤g2:=hat.imp (hv g2) (fun h=>by omega);have hslt:∀b,sl.ownBlock=some b→b<w5.heap.size:=fun b hb=>(hso b hb).2.1
 have hN:(g2::(⟨df p f,w5.heap.size,g,sl⟩:Ln).fp).Nodup:=by
  refine List.nodup_cons.2 ⟨fun hm=> ?_,List.nodup_cons.2 ⟨fun hm=> ?_,List.nodup_cons.2 ⟨fun hm=> ?_,by cases sl.ownBlock<;>simp⟩⟩⟩
  ·simp only[Ln.fp,List.mem_cons,Option.mem_toList]at hm;rcases hg2d with h | h
   ·have:=hT.lt _ (hOin _ h);rcases hm with h2 | h2 | h2
    ·omega
    ·omega
    ·have:=(hso _ h2).1;omega
   ·rcases hm with h2 | h2 | h2
    ·omega
    ·omega
    ·have:=hslt _ h2;omega
  ·simp only[List.mem_cons,Option.mem_toList]at hm;rcases hm with h2 | h2
   ·omega
   ·have:=hslt _ h2;omega
  ·simp only[Option.mem_toList]at hm;exact hTk.ne _ hm rfl
 have hNge:∀x∈(⟨df p f,w5.heap.size,g,sl⟩:Ln).fp,w4.heap.size≤x:=fun x hx=>by
  simp only[Ln.fp,List.mem_cons,Option.mem_toList]at hx;rcases hx with rfl | rfl | hx
  ·omega
  ·exact hg
  ·exact(hso x hx).1
 have hownX:∀x∈(⟨df p f,w5.heap.size,g,sl⟩:Ln).fp,bC w9 x:=fun x hx=>by
  simp only[Ln.fp,List.mem_cons,Option.mem_toList]at hx;rcases hx with rfl | rfl | hx
  ·refine .mk' hlb9 (fun k n hk=> ?_);obtain⟨q,hq⟩:∃q,(lnQ c (⟨df p f,w5.heap.size,g,sl⟩:Ln))[k]? =some q:=⟨_,List.getElem?_eq_getElem (by
    have:=(iW (w:=w9) (c:=c) (p:=p) (f:=f) (b:=w5.heap.size) (g:=g) (sl:=sl)).1;rw[←this];exact(Array.getElem?_eq_some_iff.1 hk).1)⟩
   obtain⟨u,h1,h2⟩:=(iW (w:=w9) (c:=c) (p:=p) (f:=f) (b:=w5.heap.size) (g:=g) (sl:=sl)).2 k q hq;rw[hk]at h1;injection h1 with h1;subst h1;exact(q.fl _ _ h2).2.2 n rfl
  ·refine .mk' hTk9.blk (fun k n hk=> ?_)
   cases k with
   | zero=>
    simp at hk;subst hk;exact((Vp.row stT 0 (aF [])).fl w9 _ hTk9.row).2.2 n rfl
   | succ k=>simp at hk
  ·exact(hso x hx).2.blk (hX59.blk x (hslt x hx) (hbO x (hso x hx).1)) hX59.size
 have hXn:∀k∈fpT t m E,(k=m∨k∈O)→k=m∨k∈O:=fun _ _ h=>h
 have hch:∀ch∈E1++E2,ch∈E∧∀k∈ch.fp,¬(k=m∨k∈O):=fun ch hc=>by
  have hin:ch∈E:=by
   rcases hA with⟨_,_,rfl,rfl,_⟩ | ⟨rb,cap,_,rfl⟩
   ·simpa using hc
   ·rcases List.mem_append.1 hc with h | h
    ·exact List.mem_append.2 (.inl h)
    ·exact List.mem_append.2 (.inr (List.mem_cons_of_mem _ h))
  refine⟨hin,fun k hk hkO=> ?_⟩;rw[List.nodup_append,List.nodup_append]at hnd;rcases List.mem_append.1 hc with h | h
  ·have hkA:k∈E1.flatMap Ch.fp:=List.mem_flatMap.2 ⟨ch,h,hk⟩;rcases hkO with rfl | hkO
   ·have:=hnd.1.1;simp only[List.nodup_cons,List.mem_cons]at this;exact this.2.1 hkA
   ·exact hnd.1.2.2 k (List.mem_cons_of_mem _ (List.mem_cons_of_mem _ hkA)) k (List.mem_append.2 (.inl hkO)) rfl
  ·have hkQ:k∈E2.flatMap Ch.fp:=List.mem_flatMap.2 ⟨ch,h,hk⟩;rcases hkO with rfl | hkO
   ·exact hnd.2.2 k (by simp) k hkQ rfl
   ·exact hnd.2.2 k (by simp[hkO]) k hkQ rfl
 have hls:∀l∈ls,LnAt w4 c l∧∀k∈l.fp,¬(k=m∨k∈O):=fun l hl=>by
  refine⟨?_,fun k hk hkO=> ?_⟩
  ·rcases hA with⟨_,rfl,_⟩ | ⟨rb,cap,_,rfl⟩
   ·cases hl
   ·exact hT.lns ⟨c,rb,cap,ls⟩ (List.mem_append.2 (.inr (List.mem_cons_self ..))) l hl
  ·have hkB:k∈ls.flatMap Ln.fp:=List.mem_flatMap.2 ⟨l,hl,hk⟩;rw[List.nodup_append,List.nodup_append]at hnd;rcases hkO with rfl | hkO
   ·exact hnd.1.2.2 k (by simp) k (List.mem_append.2 (.inr hkB)) rfl
   ·have:=hnd.1.2.1;rw[List.nodup_append]at this;exact this.2.2 k hkO k hkB rfl
 have hcur':bC w9 g2:=(hOwn g2 rfl).x.blk (hu9.block g2 hg2m) (by omega);have hdis:∀x,x∈(t::m::E1.flatMap Ch.fp)∨x∈ls.flatMap Ln.fp∨x∈E2.flatMap Ch.fp→x∈fpT t m E∧x∉O:=fun x hx=>by
  refine⟨by rw[hfp];simp only[List.mem_append];rcases hx with h | h | h<;>simp[h],fun hO=> ?_⟩;rw[List.nodup_append,List.nodup_append]at hnd;rcases hx with h | h | h
  ·exact hnd.1.2.2 x h x (List.mem_append.2 (.inl hO)) rfl
  ·have:=hnd.1.2.1;rw[List.nodup_append]at this;exact this.2.2 x hO x h rfl
  ·exact hnd.2.2 x (List.mem_append.2 (.inr (List.mem_append.2 (.inl hO)))) x h rfl
 have hmem:∀x∈fpT t m (E1++⟨c,g2,cap2,ls++ [⟨df p f,w5.heap.size,g,sl⟩]⟩::E2),(x∈fpT t m E∧x∉O)∨x=g2∨x∈(⟨df p f,w5.heap.size,g,sl⟩:Ln).fp:=fun x hx=>by
  rw[att_fp]at hx;simp only[List.mem_append,List.mem_cons]at hx;rcases hx with(h | h | h | h) | h
  ·exact .inl (hdis x (.inl (by simpa using h)))
  ·exact .inr (.inl h)
  ·exact .inl (hdis x (.inr (.inl h)))
  ·exact .inr (.inr h)
  ·exact .inl (hdis x (.inr (.inr h)))
 have hsplit:∀ch∈E1++(⟨c,g2,cap2,ls++ [⟨df p f,w5.heap.size,g,sl⟩]⟩:Ch)::E2,ch∈E1++E2∨ch=⟨c,g2,cap2,ls++ [⟨df p f,w5.heap.size,g,sl⟩]⟩:=fun ch hc=>by
  rcases List.mem_append.1 hc with h | h
  ·exact .inl (List.mem_append.2 (.inl h))
  ·rcases List.mem_cons.1 h with h | h
   ·exact .inr h
   ·exact .inl (List.mem_append.2 (.inr h))
 have hct:w9.cell? ⟨t,0,none⟩=some (.map (some m)):=by rw[World.cell?_of_block (w:=w4) (k9 t htlt htm htO)];exact hT.cell
 have hct8:w8.cell? ⟨t,0,none⟩=some (.map (some m)):=by rw[World.cell?_of_block (w:=w4) (k8 t htlt htO)];exact hT.cell
 refine⟨g2,cap2,w8,w9,happ,hct8,hmu,hct,⟨⟨?_,hM9,fun ch hc=> ?_,fun ch hc l hl=> ?_,?_,fun k hk=> ?_⟩,⟨?_,?_,?_,?_,fun k hk hn=> ?_⟩,fun k hk=> ?_⟩⟩
 ·rw[k9 t htlt htm htO];exact hT.tr
 ·rcases hsplit ch hc with h | rfl
  ·obtain⟨h1,h2⟩:=hch ch h;exact(hT.rows ch h1).chg hX (h2 _ (List.mem_cons_self ..))
  ·exact⟨⟨cur,hcur9,by show cur.size=cap2;omega,hcget⟩,by simpa using hc1,hc2,by simp⟩
 ·rcases hsplit ch hc with h | rfl
  ·obtain⟨h1,h2⟩:=hch ch h;exact(hT.lns ch h1 l hl).chg hX (fun k hk=>h2 k (List.mem_cons_of_mem _ (List.mem_flatMap.2 ⟨l,hl,hk⟩)))
  ·rcases List.mem_append.1 hl with hl | hl
   ·obtain⟨h1,h2⟩:=hls l hl;exact h1.chg hX h2
   ·simp only[List.mem_singleton]at hl;subst hl;exact hLn
 ·rw[att_fp];exact fp_add hnd hlt (hg2d.imp id (fun h=>by omega)) hN hNge
 ·rcases hmem k hk with⟨h1,h2⟩ | rfl | h1
  ·by_cases hkm:k=m
   ·subst hkm;exact hM9.own
   ·exact(hT.own k h1).blk (k9 k (hT.lt k h1) hkm h2) hX.size
  ·exact hcur'
  ·exact hownX k h1
 ·exact hu9.os.trans (hgrow.os.trans (hb7.os.trans hb5.os))
 ·exact hu9.tape.trans (hgrow.tape.trans (hb7.tape.trans hb5.tape))
 ·exact hu9.output.trans (hgrow.output.trans (hb7.output.trans hb5.output))
 ·exact hX.size
 ·exact k9 k hk (fun e=>hn (e▸(by simp[fpT]))) (fun h=>hn (hOin k h))
 ·rcases hmem k hk with⟨h1,_⟩ | rfl | h1
  ·exact .inl h1
  ·rcases hg2d with h | h
   ·exact .inl (hOin _ h)
   ·exact .inr (by omega)
  ·exact .inr (hNge k h1)
section
variable {w:World} {t m:Nat} {E:List Ch} {c p:Nm} {f:Int}
theorem xu (w:World):(Op.equal mpT (.map (some m)) (.map none)).run Tryz.prog w= .ok false w:=by
 unfold Op.equal Op.maxDepth Op.equalIn;rw[Sem.run_bind,run_underlying Tryz.underlying142];rfl
theorem pA (w:World):(binOp .eql mpT (.map (some m)) (.map none)).run Tryz.prog w= .ok (.bool false) w:=by
 simp[binOp,Sem.run_bind,xu,Result.andThen]
theorem uS {P:Program} {ops:Array Oper} {o:Oper} {a:Act} {w w':World} {v v':Value} {K:Act→World→Prop} {Q:Exit→Act→World→Prop} {X:Prop} {s x:Operand} {t:TypeId} (hgd:o.guard=none)
  (ho:o.op= .call {callee:=.builtin .append,args:=#[s,x],argTypes:=#[t,t]}) {y:Value} (hs:a.eval s=v) (hx:a.eval x=y) (hr:(Builtin.append_ #[t,t] o.type #[v,y]).run P w= .ok v' w') (h:K (a.put o.dst v') w'):
  if Region.wanted o (yielded ops a.tmps)=true then Oper.wp P o a w K Q else X:=by
 have hw:Region.wanted o (yielded ops a.tmps)=true:=by simp[Region.wanted,hgd]
 rw[if_pos hw];unfold Oper.wp execOp;simp only[ho,resolve,invoke,builtin,Sem.run_bind,Sem.run_pure,Result.andThen_ok,List.map_toArray,List.map_cons,List.map_nil,hs,hx,hr];exact h
def REq (R R':Tr):Prop:=∀c,lks R c=lks R' c
theorem lks_none {E:List Ch} {c:Nm} (h:∀ch∈E,ch.c≠c):lks (trE E) c=[]:=by
 refine List.eq_nil_iff_forall_not_mem.2 (fun x hx=> ?_);obtain⟨ch,h1,l,_,e⟩:=dM.1 (cn.1 hx);exact h ch h1 (congrArg (·.1) e).symm
theorem yH {E1 E2:List Ch} {O:List Nat} {ls:List Ln} (hA:AtC E c E1 E2 O ls) (hn:(E.map (·.c)).Nodup) (g2 cap2 b g:Nat) (sl:Value):REq (trE (E1++⟨c,g2,cap2,ls++ [⟨df p f,b,g,sl⟩]⟩::E2)) (lN (trE E) c p f):=by
 intro y;have e1:trE (E1++(⟨c,g2,cap2,ls++ [⟨df p f,b,g,sl⟩]⟩:Ch)::E2)=trE E1++((ls++ [(⟨df p f,b,g,sl⟩:Ln)]).map (fun l=>(c,l.x))++trE E2):=by simp[trE,List.flatMap_append,List.flatMap_cons]
 rw[e1,gS,gS,sZ,jm];rcases hA with⟨rfl,rfl,rfl,rfl,hc⟩ | ⟨rb,cap,rfl,rfl⟩
 ·have e2:lks (trE ([]:List Ch)) y=[]:=rfl;rw[e2,List.append_nil];by_cases h:c=y
  ·subst h;rw[if_pos rfl,if_pos rfl];rfl
  ·rw[if_neg h,if_neg (Ne.symm h),List.append_nil]
 ·have e2:trE (E1++(⟨c,rb,cap,ls⟩:Ch)::E2)=trE E1++(ls.map (fun l=>(c,l.x))++trE E2):=by simp[trE,List.flatMap_append,List.flatMap_cons]
  rw[e2,gS,gS,sZ];by_cases h:c=y
  ·subst h;rw[List.map_append,List.map_cons,List.nodup_append,List.nodup_cons]at hn;have e3:lks (trE E2) c=[]:=lks_none (fun ch hc e=>hn.2.1.1 (List.mem_map.2 ⟨ch,hc,e⟩));rw[if_pos rfl,if_pos rfl,if_pos rfl,e3,List.map_append];simp
  ·rw[if_neg h,if_neg h,if_neg (Ne.symm h)]
theorem TM.drew (h:TM w t m E):TM w.drew t m E:=h.below (Below.refl _ _).drew
theorem TPost.pre {w4 w9:World} {E':List Ch} (hb:Below w.heap.size w w4) (hT:TM w t m E) (hP:TPost w4 t m E w9 E'):TPost w t m E w9 E':=
 ⟨hP.tm,⟨hP.kp.os.trans hb.os,hP.kp.tape.trans hb.tape,hP.kp.output.trans hb.output,Nat.le_trans hb.size hP.kp.size,fun k hk hn=>(hP.kp.block k (Nat.lt_of_lt_of_le hk hb.size) hn).trans (hb.block k hk)⟩,fun g hg=>(hP.fp g hg).imp id (fun h=>Nat.le_trans hb.size h)⟩
theorem TM.ownRow {ch:Ch} (h:TM w t m E) (hc:chE E c=some ch):dZ w lpT 1 ch.row ch.ls.length (ch.ls.map fun l=>ptB l.b):=by
 obtain⟨⟨cs,h1,h2,h3⟩,h4,h5,_⟩:=h.chAt hc;refine⟨⟨by simp,.inr ⟨ch.rb,ch.cap,cs,rfl,Nat.zero_le _,h1,h4,h5,by omega,?_⟩⟩,fun k hk=> ?_⟩
 ·apply List.ext_getElem?;intro j;rw[List.getElem?_take,List.getElem?_map,Nat.mul_one];split
  ·rename_i hj;obtain⟨l,hl⟩:∃l,ch.ls[j]? =some l:=⟨_,List.getElem?_eq_getElem hj⟩;rw[hl,Array.getElem?_toList,h3 j l hl];rfl
  ·rename_i hj;rw[List.getElem?_eq_none (by omega)];rfl
 ·have hk:ch.rb=k:=by simpa [Ch.row,Value.ownBlock]using hk
  subst hk;have ho:=h.own ch.rb (sX (cN hc).1 (List.mem_cons_self ..));exact⟨cs,lpT,h1,fun k n hn=>ho.2 k n (by rw[aA h1];exact hn)⟩
theorem atC_some {ch:Ch} (hc:chE E c=some ch):∃E1 E2,AtC E c E1 E2 [ch.rb] ch.ls:=by
 obtain⟨_,A,B,rfl,_⟩:=List.find?_eq_some_iff_append.1 hc;have e:=(cN hc).2;obtain⟨c',rb,cap,ls⟩:=ch;simp only at e;subst e;exact⟨A,B,.inr ⟨rb,cap,rfl,rfl⟩⟩
open Classical in
theorem q_att_new {n0:Nat} (h:TM w t m E) (hE:TOk (trE E)) (hc:dG c) (hp:dG p) (ht:TimeOk E c f) (hn:bS (fun x=>a8 (trE E) x∨x=c∨x=p) n0) (h24:n0≤24) (h64:(lsE E c).length<64) (hy:¬Cyc (trE E) c p f):
  Calls Tryz.prog 67 #[ptB t,.string c,.string p,.int .i64 f] w fun e w'=>e= .returned (.int .i64 0)∧∃E',TPost w t m E w' E'∧REq (trE E') (lN (trE E) c p f):=by
 have k1:=jI (w:=w) hc;have k2:=jI (w:=w) hp;have h1:=h.cell;have h2:=h.look c;have hop:=kj h c;have hkn:=lP h;have c1:decide (f<0)=false:=decide_eq_false (by have:=ht.lo;omega);have c2:decide (1099511627776<f)=false:=decide_eq_false (by have:=ht.hi;omega);rw[ht.op]at hop
 change Calls _ _ _ _ (fun e w'=>e= .returned (.pointer none)∧w'=w)at hop
 have HN:=Lib.hid hn;have h24':decide ((24:Int)<(n0:Int))=false:=decide_eq_false (by omega);have HT:=Lib.hid h;have HE:=Lib.hid hE;have HY:=Lib.hid (decide_eq_false hy)
 cases hch:chE E c with
 | none=>
  replace h2:(Instr.lookup mpT (.map (some m)) (.string c) false).run Tryz.prog w= .ok (.slice none 0 0) w:=by rw[h2];unfold mF;rw[hch];rfl
  have HA:=Lib.hid (show AtC E c E [] [] []from .inl ⟨rfl,rfl,rfl,rfl,hch⟩);clear hc hp ht hn h24 h hch h64 hE hy;go_enter Tryz.func67,Tryz.ntmps67
  go_wp2_with (first
   | (go_at_call 123;with_reducible refine k1.mono ?_;rintro e w' ⟨rfl,hw'⟩;obtain rfl:=hw'.symm)
   | (go_at_call 123;with_reducible refine k2.mono ?_;rintro e w' ⟨rfl,hw'⟩;obtain rfl:=hw'.symm)
   | (go_at_call 124;refine hop.mono ?_;rintro e w' ⟨rfl,hw'⟩;obtain rfl:=hw'.symm)
   | (go_at_call 89;refine hkn.mono ?_;rintro e w1 ⟨b,l,rfl,hS,hbl,hl,hb⟩;obtain⟨w2,w3,hm1,hm2,hm3,hu3⟩:=ec hS hl HN.out;have HB:=Lib.hid (hu3.below hb hbl);have hcy:=n4 (HT.out.below HB.out) HE.out c p f;rw[HY.out]at hcy;clear hb hl hS hbl hu3)
   | (go_at_call 125;refine hcy.mono ?_;rintro e w4 ⟨rfl,hb4⟩;have HB4:=Lib.hid (HB.out.trans (hb4.mono HB.out.size));have h14:=(HT.out.below HB4.out).cell;have h15:=pA (m:=m) w4;clear hb4))
  clear k1 k2 hop hkn c1 c2 h24' hcy hm1 hm2 hm3 h1 h2 h15;have HI:=Lib.hid (show t<w4.heap.size from(HT.out.below HB4.out).lt t (by simp[fpT]));have HT4:=Lib.hid (HT.out.below HB4.out).drew
  go_region_held3 (fun w'=>w'.cell? ⟨t,0,none⟩=some (.map (some m))) (first | assumption | go_keep)
   (first
    | (go_at_call 126;refine(q_tNew _).mono ?_;rintro e w5 ⟨g,sl,rfl,hg,hTk,hso,hb5⟩;have hS5:w5.cell? ⟨t,0,none⟩=some (.map (some m)):=(by rw[hb5.cell (p:=⟨t,0,none⟩) HI.out];exact h14);obtain⟨g2,cap2,w8,w9,happ,hS8,hmu,hS9,hP⟩:=yG (c:=c) (p:=p) (f:=f) (v:=.slice none 0 0) HT4.out HA.out (by decide) hg hTk hso hb5 (fun k hk=>by cases hk) ⟨World.ownsRow_nil _ _ _ _,fun k hk=>by cases hk⟩;have HAP:=Lib.hid happ;have HP:=Lib.hid hP;have HR:=Lib.hid (yH (p:=p) (f:=f) HA.out HT4.out.keys g2 cap2 w5.heap.size g sl);replace hmu:(Instr.mapUpdate mpT (.map (some m)) (.string c) (.slice (some ⟨g2,0,none⟩) 1 cap2)).run Tryz.prog w8= .ok () w9:=hmu;clear hb5 hTk hso hg happ hP)
    | (refine uS rfl rfl rfl rfl HAP.out ?_;clear HAP))
  go_wp2;go_ret;exact⟨rfl,_,HP.out.pre HB4.out.drew HT.out,HR.out⟩
 | some ch=>
  have H:=h.chAt hch;have hpos:=List.length_pos_iff.2 H.ne;have hls:lsE E c=ch.ls:=by unfold lsE;rw[hch];rfl
  rw[hls]at h64;obtain⟨E1,E2,hA⟩:=atC_some hch;have HA:=Lib.hid hA;obtain⟨l0,hl0⟩:∃l,ch.ls[ch.ls.length - 1]? =some l:=⟨_,List.getElem?_eq_getElem (by omega)⟩;have hcl:=H.cell hl0;have hun:=(h.ln hch (List.mem_of_getElem? hl0)).un;have hle:decide (f<l0.x.un)=false:=decide_eq_false (by
   have:=ht.la l0 (by rw[hls,List.getLast?_eq_getElem?];exact hl0);omega)
  replace h2:(Instr.lookup mpT (.map (some m)) (.string c) false).run Tryz.prog w= .ok (.slice (some ⟨ch.rb,0,none⟩) ch.ls.length ch.cap) w:=by rw[h2];unfold mF;rw[hch];rfl
  have hm:(ch.ls.length:Int)≤9223372036854775807:=by omega
  have hk:((ch.ls.length:Int) - 1).toNat=ch.ls.length - 1:=by omega
  have hk0:(0:Int)<ch.ls.length:=by omega
  have hk1:(1:Int)≤ch.ls.length:=by omega
  have hk2:(ch.ls.length:Int) - 1<ch.ls.length:=by omega
  have hk64:decide ((64:Int)≤ch.ls.length)=false:=decide_eq_false (by omega);have H64:=Lib.hid h64;have HCH:=Lib.hid hch;generalize l0.b=lb at *;generalize l0.x.un=un at *;clear hc hp ht hn h24 h hch h64 hE hy H hpos hls hA hl0;go_enter Tryz.func67,Tryz.ntmps67
  go_wp2_with (first
   | (go_at_call 123;with_reducible refine k1.mono ?_;rintro e w' ⟨rfl,hw'⟩;obtain rfl:=hw'.symm)
   | (go_at_call 123;with_reducible refine k2.mono ?_;rintro e w' ⟨rfl,hw'⟩;obtain rfl:=hw'.symm)
   | (go_at_call 124;refine hop.mono ?_;rintro e w' ⟨rfl,hw'⟩;obtain rfl:=hw'.symm)
   | (go_at_call 89;refine hkn.mono ?_;rintro e w1 ⟨b,l,rfl,hS,hbl,hl,hb⟩;obtain⟨w2,w3,hm1,hm2,hm3,hu3⟩:=ec hS hl HN.out;have HB:=Lib.hid (hu3.below hb hbl);have hcy:=n4 (HT.out.below HB.out) HE.out c p f;rw[HY.out]at hcy;clear hb hl hS hbl hu3)
   | (go_at_call 125;refine hcy.mono ?_;rintro e w4 ⟨rfl,hb4⟩;have HB4:=Lib.hid (HB.out.trans (hb4.mono HB.out.size));have h14:=(HT.out.below HB4.out).cell;have h15:=pA (m:=m) w4;clear hb4))
  clear k1 k2 hop hkn c1 c2 h24' hcy hm1 hm2 hm3 h1 h2 h15 hcl hun hle hm hk hk0 hk1 hk2 hk64;have HI:=Lib.hid (show t<w4.heap.size from(HT.out.below HB4.out).lt t (by simp[fpT]));have HT4:=Lib.hid (HT.out.below HB4.out).drew
  go_region_held3 (fun w'=>w'.cell? ⟨t,0,none⟩=some (.map (some m))) (first | assumption | go_keep)
   (first
    | (go_at_call 126;refine(q_tNew _).mono ?_;rintro e w5 ⟨g,sl,rfl,hg,hTk,hso,hb5⟩;have hS5:w5.cell? ⟨t,0,none⟩=some (.map (some m)):=(by rw[hb5.cell (p:=⟨t,0,none⟩) HI.out];exact h14);obtain⟨g2,cap2,w8,w9,happ,hS8,hmu,hS9,hP⟩:=yG (c:=c) (p:=p) (f:=f) (v:=ch.row) HT4.out HA.out H64.out hg hTk hso hb5 (fun k hk=>by simp[Ch.row,Value.ownBlock]at hk;simp[hk]) (HT4.out.ownRow HCH.out);have HAP:=Lib.hid happ;have HP:=Lib.hid hP;have HR:=Lib.hid (yH (p:=p) (f:=f) HA.out HT4.out.keys g2 cap2 w5.heap.size g sl);clear hb5 hTk hso hg happ hP)
    | (refine uS rfl rfl rfl rfl HAP.out ?_;clear HAP))
  go_wp2;go_ret;exact⟨rfl,_,HP.out.pre HB4.out.drew HT.out,HR.out⟩
end
theorem REq.refl (R:Tr):REq R R:=fun _=>rfl
theorem REq.symm {R R':Tr} (h:REq R R'):REq R' R:=fun c=>(h c).symm
theorem REq.trans {R R' R'':Tr} (h:REq R R') (k:REq R' R''):REq R R'':=fun c=>(h c).trans (k c)
section
variable {R R':Tr} {c p x:Nm} {f a:Int}
theorem REq.mem (h:REq R R') (q:Nm×Lk):q∈R↔q∈R':=by
 obtain⟨c,x⟩:=q;rw[←cn,←cn,h c]
theorem REq.tAt (h:REq R R') (c:Nm) (a:Int):tAt R c a=tAt R' c a:=by unfold Go.Proofs.YtggfmklppkioeaaGreat.tAt;rw[h c]
theorem REq.par (h:REq R R') (a:Int) (c:Nm):par R a c=par R' a c:=by unfold Go.Proofs.YtggfmklppkioeaaGreat.par;rw[h.tAt]
theorem REq.reach (h:REq R R') {a:Int} {x y:Nm} (k:Reach R a x y):Reach R' a x y:=by
 induction k with
 | refl=>exact .refl _
 | step e _ ih=>exact .step (by rw[←h.par];exact e) ih
theorem REq.reach_iff (h:REq R R') {a:Int} {x y:Nm}:Reach R a x y↔Reach R' a x y:=⟨h.reach,h.symm.reach⟩
theorem REq.known (h:REq R R') (x:Nm):a8 R x↔a8 R' x:=by
 unfold a8;exact⟨fun⟨q,h1,h2⟩=>⟨q,(h.mem q).1 h1,h2⟩,fun⟨q,h1,h2⟩=>⟨q,(h.mem q).2 h1,h2⟩⟩
theorem REq.cyc (h:REq R R'):Cyc R c p f↔Cyc R' c p f:=by
 unfold Cyc;rw[h.reach_iff];refine or_congr Iff.rfl ⟨fun⟨q,h1,h2,h3⟩=>⟨q,(h.mem q).1 h1,h2,h.reach h3⟩,fun⟨q,h1,h2,h3⟩=>⟨q,(h.mem q).2 h1,h2,h.symm.reach h3⟩⟩
theorem TOk.of_req (h:TOk R) (e:REq R R'):TOk R' where
 row:=fun c=>by rw[←e c];exact h.row c
 tm:=fun q hq=>h.tm q ((e.mem q).2 hq)
 acy:=fun a x=>(h.acy a x).mono (fun u v hu=>by rw[e.par];exact hu)
 good:=fun q hq=>h.good q ((e.mem q).2 hq)
 pose:=fun q hq=>h.pose q ((e.mem q).2 hq)
theorem TSm.of_req (h:TSm R) (e:REq R R'):TSm R':=by
 obtain⟨⟨n,h1,h2⟩,h3⟩:=h;exact⟨⟨n,h1,h2.same e.known⟩,fun c=>by rw[←e c];exact h3 c⟩
end
theorem uT {R:Tr} {c:Nm}:pq R c↔∀x∈lks R c,x.un≠ -1:=by
 constructor
 ·intro h x hx e;obtain⟨i,hi,e2⟩:=List.getElem_of_mem (cn.1 hx);exact h i (c,x) (by rw[List.getElem?_eq_getElem hi,e2]) ⟨rfl,e⟩
 ·rintro h i ⟨c',x⟩ hi ⟨h1,h2⟩;simp only at h1 h2;subst h1;exact h x (cn.2 (List.mem_of_getElem? hi)) h2
section
variable {w:World} {t m:Nat} {E:List Ch} {c p:Nm} {f:Int}
open Classical in
theorem uU (h:TM w t m E) (hE:TOk (trE E)) (hc:Nam c) (hp:Nam p):
  Calls Tryz.prog 67 #[ptB t,.string c,.string p,.int .i64 f] w fun e w'=>∃E' R' code,e= .returned (.int .i64 code)∧TPost w t m E w' E'∧REq (trE E') R'∧AttS dG (trE E) c p f R' code:=by
 by_cases hn:dG c∧dG p
 ·by_cases ht:f<0∨1099511627776<f∨(∃l,opL (lsE E c)=some l)∨∃l,(lsE E c).getLast? =some l∧f<l.x.un
  ·refine(xp h hn.1 hn.2 ht).mono ?_;rintro e w' ⟨rfl,hw⟩;obtain rfl:=hw.symm;refine⟨E,trE E,17,rfl,.refl h (Below.refl _ _),.refl _,.time hn ?_⟩;rcases ht with ht | ht | ⟨l,ht⟩ | ⟨l,ht,hl⟩
   ·exact .inl ht
   ·exact .inr (.inl ht)
   ·refine .inr (.inr (.inl ?_));obtain⟨hun,ch,hch,hk⟩:=lQ ht;have hq:=dM.2 ⟨ch,(cN hch).1,l,List.mem_of_getElem? hk,rfl⟩;rw[(cN hch).2]at hq;obtain⟨k,hk1,hk2⟩:=List.getElem_of_mem hq;exact⟨k,l.x,by rw[List.getElem?_eq_getElem hk1,hk2],hun⟩
   ·refine .inr (.inr (.inr ⟨l.x,?_,hl⟩));rw[jp h.keys];exact List.mem_map.2 ⟨l,List.mem_of_getLast? ht,rfl⟩
  ·have hop:opL (lsE E c)=none:=by
    cases ho:opL (lsE E c)with
    | none=>rfl
    | some l=>exact absurd (.inr (.inr (.inl ⟨l,ho⟩))) ht
   have hT:TimeOk E c f:=⟨by omega,by omega,hop,fun l hl=>by
    by_cases h1:f<l.x.un
    ·exact absurd (.inr (.inr (.inr ⟨l,hl,h1⟩))) ht
    ·omega⟩
   have hno:=pz h hE hop;have hen:∀x∈lks (trE E) c,x.un≤f:=by
    refine ended (hE.row c) (uT.1 hno) (fun x hx=> ?_) (fun x hx=> ?_)
    ·have h1:=hE.tm _ (cn.1 hx);have h2:=uT.1 hno x hx;simp only at h1;rcases h1.2.2 with h3 | h3
     ·exact absurd h3 h2
     ·exact h3.1
    ·rw[jp h.keys,List.getLast?_map]at hx
     cases hl:(lsE E c).getLast? with
     | none=>rw[hl]at hx;cases hx
     | some l=>
      rw[hl]at hx;simp only[Option.map_some,Option.some.injEq]at hx;subst hx;exact hT.la l hl
   have hlen:(lks (trE E) c).length=(lsE E c).length:=by rw[jp h.keys,List.length_map]
   have hlo:=hT.lo;have hhi:=hT.hi;obtain⟨n,hcn⟩:=xq (trE E) c p;by_cases h24:24<n
   ·refine(xr h hn.1 hn.2 hT hcn h24).mono ?_;rintro e w' ⟨rfl,hb⟩;exact⟨E,trE E,15,rfl,.refl h hb,.refl _,.full hn hlo hhi hno hen n hcn (.inl h24)⟩
   ·by_cases h64:64≤(lsE E c).length
    ·refine(xt h hn.1 hn.2 hT hcn (by omega) h64).mono ?_;rintro e w' ⟨rfl,hb⟩;exact⟨E,trE E,15,rfl,.refl h hb,.refl _,.full hn hlo hhi hno hen n hcn (.inr (by omega))⟩
    ·by_cases hy:Cyc (trE E) c p f
     ·refine(q_att_cyc h hE hn.1 hn.2 hT hcn (by omega) (by omega) hy).mono ?_;rintro e w' ⟨rfl,hb⟩;exact⟨E,trE E,19,rfl,.refl h hb,.refl _,.cycle hn hlo hhi hno hen n hcn ⟨by omega,by omega⟩ hy⟩
     ·refine(q_att_new h hE hn.1 hn.2 hT hcn (by omega) (by omega) hy).mono ?_;rintro e w' ⟨rfl,E',hP,hR⟩;exact⟨E',_,0,rfl,hP,hR,.ok hn hlo hhi hno hen n hcn ⟨by omega,by omega⟩ hy⟩
 ·refine(xm hc hp hn).mono ?_;rintro e w' ⟨rfl,hw⟩;obtain rfl:=hw.symm;exact⟨E,trE E,5,rfl,.refl h (Below.refl _ _),.refl _,.name hn⟩
end
section
variable {w w':World} {t m:Nat} {E1 E2:List Ch} {c:Nm} {rb cap:Nat} {L1 L2:List Ln} {l:Ln} {S':List St}
abbrev yI (l:Ln) (S':List St) (sl':Value):Ln:= {l with x:= {l.x with tr:=S'},sl:=sl'}
theorem TM.trk (h:TM w t m (cQ E1 E2 c rb cap L1 L2 l)) (hM:TrkM trT w l.g l.sl S' w'):∃sl',TPost w t m (cQ E1 E2 c rb cap L1 L2 l) w' (cQ E1 E2 c rb cap L1 L2 (yI l S' sl')):=by
 obtain⟨⟨sl',hS,hb⟩,hk⟩:=hM;have hown:∀g∈l.fp,bC w g:=fun g hg=>h.own g (h.sub g hg)
 have hmid:=h.mid;have hnd:=h.lnd;have hgfp:l.g∈l.fp:=by simp[Ln.fp]
 have hbg:l.b≠l.g:=fun e=>by
  unfold Ln.fp at hnd;exact(List.nodup_cons.1 hnd).1 (e▸List.mem_cons_self ..)
 have hc:Chg w w' (· ∈l.fp):=⟨hk.size,fun g hg hn=>hk.block g hg (fun e=>hn (by rw[show g=l.g from e];exact hgfp)),hown⟩;have hc1:Chg w w' (· =l.g):=⟨hk.size,fun g hg hn=>hk.block g hg hn,fun g hg=>hown g (by rw[show g=l.g from hg];exact hgfp)⟩;obtain⟨⟨cs,h1,h2⟩,h3⟩:=hmid;have hblt:l.b<w.heap.size:=(Array.getElem?_eq_some_iff.1 h1).1;have hbe:w'.heap[l.b]? =w.heap[l.b]? :=hk.block _ hblt (fun e=>hbg e);have hL:LnAt w' c (yI l S' sl'):=⟨⟨cs,by rw[show(yI l S' sl').b=l.b from rfl,hbe];exact h1,h2.chg hc1 sW⟩,hS⟩;have hfl:=(Vp.row stT S'.length (aF S')).fl w' _ hS.row;refine⟨sl',h.put (l':=yI l S' sl') rfl rfl (fun b hb2=>(hb b hb2).imp id (·.1)) hL (fun g hg=> ?_) hc,⟨hk.os,hk.tape,hk.output,hk.size,fun g hg hn=>hk.block g hg (fun e=>hn (by rw[show g=l.g from e];exact h.sub _ hgfp))⟩,fun g hg=> ?_⟩
 ·have hg:g∈l.b::l.g::sl'.ownBlock.toList:=hg;simp only[List.mem_cons,Option.mem_toList]at hg;rcases hg with rfl | rfl | hg
  ·exact(hown _ (List.mem_cons_self ..)).blk hbe hk.size
  ·refine .mk' hS.blk (fun k n hk=> ?_)
   cases k with
   | zero=>simp at hk;exact hfl.2.2 n hk
   | succ k=>simp at hk
  ·rcases hb g hg with h4 | h4
   ·have hgm:g∈l.fp:=by simp[Ln.fp,h4]
    exact(hown g hgm).blk (hk.block g (hown g hgm).1 (fun e=>hS.ne g hg e)) hk.size
   ·exact h4.2
 ·rw[eN]at hg⊢;simp only[List.mem_append]at hg⊢;rcases hg with(hg | hg) | hg
  ·exact .inl (.inl (.inl hg))
  ·have hg:g∈l.b::l.g::sl'.ownBlock.toList:=hg;simp only[List.mem_cons,Option.mem_toList]at hg;rcases hg with rfl | rfl | hg
   ·exact .inl (.inl (.inr (List.mem_cons_self ..)))
   ·exact .inl (.inl (.inr hgfp))
   ·rcases hb g hg with h4 | h4
    ·exact .inl (.inl (.inr (by simp[Ln.fp,h4])))
    ·exact .inr h4.1
  ·exact .inl (.inr hg)
end
section
variable {ρ:Rho} {n m:Nat} {u c r:Int} {ik kd:IntKind} {l:Leaf} {t s d:TypeId}
theorem hZ (hs:Tryz.prog.underlying s=some (.int ik)) (hd:Tryz.prog.underlying d=some (.int .i64)) (h1:KI ρ l ik u) (hm:ρ[m]? =some (.val (.int .i64 u))) (k1: -9223372036854775808≤u) (k2:u≤9223372036854775807):(OIns.mk (.conv s d) [.one l] (.one (.ref m))).Ok Tryz.prog ρ:=fun B w vs hv=>by
 match vs,hv with
 | [v1],hv=>
  have e:=h1 _ _ _ hv.1;subst e;refine⟨.int .i64 u,aB hm aH,?_⟩;have hw:IntKind.i64.wrap u=u:=by rw[IntKind.wrap_i64];omega
  simp[convert,Conv.intToInt,Sem.run_bind,run_underlying hs,run_underlying hd,Result.andThen,hw]
end
theorem I_intK {xs:List Fq} {ys:Rho} {l:Leaf} {k:Nat} {u:Int} (f:FuncId) (hen:∀(vs:Array Value) (w:World),(callFunc f vs).run Tryz.prog w= .ok (.enter f vs) w) (h:∀w:World,Calls Tryz.prog f #[.int .i64 u] w fun e w'=>jx w (Fq.ofInt u) e w') (h1:KI (frs xs++ys) l .i64 u) (hk:xs[k]? =some (.ofInt u)):OkI xs ys ⟨f,[.one l],.v (fr k)⟩:=
 ⟨hen,fun B w vs hB h0=>by
  match vs,h0 with
  | [va],h0=>
   have e:=h1 _ _ _ h0.1;subst e;refine(h w).mono ?_;rintro e w' ⟨v,rfl,h2,h3⟩;exact⟨v,rfl,(aI hk).2 h2,h3⟩⟩
theorem tc {xs:List Fq} {ys:Rho} {l:Leaf} {k:Nat} {u:Int} (h1:KI (frs xs++ys) l .i64 u) (hk:xs[k]? =some (.ofInt u)) (lu: -9223372036854775808≤u) (ru:u<9223372036854775808):OkI xs ys ⟨80,[.one l],.v (fr k)⟩:=I_intK _ (az Tryz.func80 rfl rfl) (fun w=>q_fInt u w lu ru) h1 hk
def xffrX (a:Fq):List Fq:=[a]
theorem q_ffr (va:Value) (a:Fq) (w:World) (ia:IsQ w va a) (ha:a.ok 1000000000):
  Calls Tryz.prog 163 #[va] w fun e w'=>jx w a e w':=by
 refine(cRn (ρ:=frs (xffrX a)++([]:List Vp)) (args:=[fr 0]) (vs:=[va]) (r:=.v (fr 0))
  (ae (lJ (n:=1) (m:=1) rfl rfl (Nat.le_trans ha.p (by decide))) (ae (lJ (n:=2) (m:=2) rfl rfl (Nat.le_trans ha.q (by decide))) ah))
  ai Tryz.func163 (by kernel_rfl) ⟨(aI (xs:=xffrX a) (k:=0) rfl).2 ia,trivial⟩).mono ?_
 rintro e w' ⟨v,rfl,h1,h2⟩;exact⟨v,rfl,(aI (xs:=xffrX a) (k:=0) rfl).1 h1,h2⟩
theorem pB {xs:List Fq} {ys:Rho} {ia:Nat} {a:Fq} {ir:Nat} (aa:xs[ia]? =some a) (ar:xs[ir]? =some a) (ha:a.ok 1000000000):OkI xs ys ⟨163,[fr ia],.v (fr ir)⟩:=
 ⟨az Tryz.func163 rfl rfl,fun B w vs hB h=>by
  match vs,h with
  | [va],h=>
   refine(q_ffr va a w ((aI aa).1 h.1) ha).mono ?_;rintro e w' ⟨v,rfl,h1,h2⟩;exact⟨v,rfl,(aI ar).2 h1,h2⟩⟩
def xfcpX (a:Pq):List Fq:=a.cs
theorem q_fcp (va:Value) (a:Pq) (w:World) (ia:bw w va a) (ha:a.ok 1000000000):
  Calls Tryz.prog 97 #[va] w fun e w'=>o8 w a e w':=by
 refine(cRn (ρ:=frs (xfcpX a)++([]:List Vp)) (args:=[row [0,1,2,3,4,5,6]]) (vs:=[va]) (r:=.v (row [0,1,2,3,4,5,6]))
  (ae (pB (ia:=0) (ir:=0) rfl rfl (ha.rot.w.mono (by decide))) (ae (pB (ia:=1) (ir:=1) rfl rfl (ha.rot.x.mono (by decide))) (ae (pB (ia:=2) (ir:=2) rfl rfl (ha.rot.y.mono (by decide))) (ae (pB (ia:=3) (ir:=3) rfl rfl (ha.rot.z.mono (by decide))) (ae (pB (ia:=4) (ir:=4) rfl rfl (ha.pos.x.mono (by decide))) (ae (pB (ia:=5) (ir:=5) rfl rfl (ha.pos.y.mono (by decide))) (ae (pB (ia:=6) (ir:=6) rfl rfl (ha.pos.z.mono (by decide))) ah)))))))
  ai Tryz.func97 (by kernel_rfl) ⟨(ag (xs:=xfcpX a) (ks:=[0,1,2,3,4,5,6]) (vs:=a.cs) ⟨rfl,rfl,rfl,rfl,rfl,rfl,rfl,trivial⟩).2 ia,trivial⟩).mono ?_
 rintro e w' ⟨v,rfl,h1,h2⟩;exact⟨v,rfl,(ag (xs:=xfcpX a) (ks:=[0,1,2,3,4,5,6]) (vs:=a.cs) ⟨rfl,rfl,rfl,rfl,rfl,rfl,rfl,trivial⟩).1 h1,h2⟩
section
open Go.ChangeShapes Go.WideShapes Go.ChangeAt Go.RowKit
theorem lS (f:Nat→Nat) (hf:∀j,f j<4294967296):∀L,∃N,N<4294967296^L∧∀j,j<L→D N j=f j
 | 0=>⟨0,by simp,fun j h=>by omega⟩
 | L+1=>by
  obtain⟨N,h1,h2⟩:=lS f hf L;refine⟨upd N L (f L),ii (Nat.lt_of_lt_of_le h1 (Nat.pow_le_pow_right (by decide) (Nat.le_succ L))) (Nat.lt_succ_self L) (hf L),fun j hj=> ?_⟩;by_cases e:j=L
  ·subst e;exact jK N j (f j) (hf j)
  ·rw[fD N L (f L) j (hf L) e];exact h2 j (by omega)
end
section
open Go.ChangeShapes Go.WideShapes Go.ChangeAt Go.RowKit
section
variable {H:Type} {enc:TypeId×Value→H} {W:World}
theorem bulk_one (d:DataW H):1≤Rows.uptoBulk d:=by
 cases d with
 | lit l=>cases l<;>simp[Rows.uptoBulk]
 | nil=>simp[Rows.uptoBulk]
 | ptr d=>simp[Rows.uptoBulk]
 | slice elems spare=>simp[Rows.uptoBulk]
 | agg parts=>simp[Rows.uptoBulk]
 | iface t d=>simp[Rows.uptoBulk]
 | map fF=>simp[Rows.uptoBulk]
 | held h=>simp[Rows.uptoBulk]
theorem uV:∀l:List (DataW H),l.length≤Rows.uptoBulkAll l
 | []=>Nat.zero_le _
 | d::l=>by have:=bulk_one d;have:=uV l;simp only[Rows.uptoBulkAll,List.length_cons];omega
theorem rm {fuel:Nat} {u:Value} {x:DataW H×List MemPlace} (hf:DataW.trod enc Tryz.prog W 0 (fun _=>true) true fuel 31 [u]=some x):
  ∃a L cap m,u= .slice a L cap∧IsR W (.agg #[.slice a L cap]) L m∧L≤Rows.uptoBulk x.1:=by
 obtain⟨y0,n,hy,hl0,h1⟩:=trod_struct1 Tryz.underlying31 hf;have hc2:Tryz.prog.cellsOf 29=1:=by kernel_rfl
 simp[hc2]at h1;rcases open_ints Tryz.underlying29 Tryz.underlying237 (by kernel_rfl) h1 with⟨hcs,_⟩ | ⟨x',l,c,zs,hcs,_,hl,hm,hz,hx0,hcell,hwz⟩
 ·simp at hcs;subst hcs;exact⟨none,0,0,0,rfl,⟨none,0,rfl,Nat.le_refl _,by simp,fun h=>by omega⟩,Nat.zero_le _⟩
 ·simp at hcs;subst hcs;obtain⟨N,hN,hD⟩:=lS (fun j=>(zs.getD j 0).toNat) (fun j=>by
   have:=range_u32 hwz j;have e:zs.getD j 0=zs[j]?.getD 0:=by simp
   rw[e];omega) l
  refine⟨some x',l,c,N,rfl,⟨some x',c,rfl,hl,hN,fun h0=> ?_⟩,?_⟩
  ·obtain⟨b,off,spot⟩:=x';have hc0:=hcell 0 (by rw[hz];simp;omega);have hspot:spot=none:=by simpa [Addr.add]using World.cell?_spot hc0
   subst hspot;refine⟨b,off,rfl,fun j hj=> ?_⟩;have h2:=hcell j (by rw[hz];simp;omega);have hadd:(⟨b,off,none⟩:Addr).add j=⟨b,off+j,none⟩:=by unfold Addr.add;split<;>simp_all
   rw[hadd]at h2;rw[h2,hD j hj];have:=range_u32 hwz j;have e:zs.getD j 0=zs[j]?.getD 0:=by simp
   rw[e,Int.toNat_of_nonneg this.1]
  ·have h4:(lits (H:=H) .u32 (zs.take l)).length=l:=by
    simp only[lits,List.length_map,List.length_take];have:l≤zs.length:=by rw[hz];simp;omega
    omega
   have h5:=uV (lits (H:=H) .u32 (zs.take l));rw[hy];simp only[Rows.uptoBulk,Rows.uptoBulkAll,hx0];omega
theorem dA {fuel:Nat} {u0 u1 u2:Value} {x:DataW H×List MemPlace} (hf:DataW.trod enc Tryz.prog W 0 (fun _=>true) true fuel 33 [u0,u1,u2]=some x):
  ∃(r:Rq) (a b:Option Addr) (c d:Nat),u0= .bool r.s∧u1= .slice a r.L c∧u2= .slice b r.N d∧IsR W (.agg #[.slice a r.L c]) r.L r.p∧IsR W (.agg #[.slice b r.N d]) r.N r.q∧r.L≤Rows.uptoBulk x.1∧r.N≤Rows.uptoBulk x.1:=by
 have hcn:Tryz.prog.cellsOf 31=1:=by kernel_rfl
 have hcb:Tryz.prog.cellsOf 4=1:=by kernel_rfl
 obtain⟨y0,y1,y2,n,hy,hl0,h0,h1,h2⟩:=Go.Deep.trod_struct3 Tryz.underlying33 hf;simp[hcn,hcb]at h0 h1 h2;obtain⟨s,h3,_⟩:=DataW.trod_bool Tryz.underlying4 h0;obtain rfl:u0= .bool s:=by simpa using h3
 obtain⟨a,L,c,m,rfl,i1,l1⟩:=rm h1;obtain⟨a',N,c',k,rfl,i2,l2⟩:=rm h2;have hk:Rows.uptoBulk y1.1≤Rows.uptoBulk x.1∧Rows.uptoBulk y2.1≤Rows.uptoBulk x.1:=by rw[hy];simp only[Rows.uptoBulk,Rows.uptoBulkAll];omega
 exact⟨⟨s,L,m,N,k⟩,a,a',c,c',rfl,rfl,rfl,i1,i2,Nat.le_trans l1 hk.1,Nat.le_trans l2 hk.2⟩
theorem xw {fuel:Nat} {l:List Value} {x:DataW H×List MemPlace} (hl:l.length=12) (hf:DataW.trod enc Tryz.prog W 0 (fun _=>true) true fuel 35 l=some x):
  ∃r0 r1 r2 r3:Rq,aM W [r0,r1,r2,r3] l∧(r0.L≤Rows.uptoBulk x.1∧r0.N≤Rows.uptoBulk x.1)∧(r1.L≤Rows.uptoBulk x.1∧r1.N≤Rows.uptoBulk x.1)∧(r2.L≤Rows.uptoBulk x.1∧r2.N≤Rows.uptoBulk x.1)∧(r3.L≤Rows.uptoBulk x.1∧r3.N≤Rows.uptoBulk x.1):=by
 have hcf:Tryz.prog.cellsOf 33=3:=by kernel_rfl
 match l,hl with
 | [u0,u1,u2,u3,u4,u5,u6,u7,u8,u9,u10,u11],_=>
  obtain⟨xs,n,_,hx,_,hlen,hg⟩:=DataW.trod_struct Tryz.underlying35 hf
  match xs,hlen with
  | [y0,y1,y2,y3],_=>
   have h0:=hg 0 _ rfl;have h1:=hg 1 _ rfl;have h2:=hg 2 _ rfl;have h3:=hg 3 _ rfl;simp[Value.cells,hcf]at h0 h1 h2 h3;obtain⟨r0,a0,b0,c0,d0,rfl,rfl,rfl,i0,j0,s0,t0⟩:=dA h0;obtain⟨r1,a1,b1,c1,d1,rfl,rfl,rfl,i1,j1,s1,t1⟩:=dA h1;obtain⟨r2,a2,b2,c2,d2,rfl,rfl,rfl,i2,j2,s2,t2⟩:=dA h2;obtain⟨r3,a3,b3,c3,d3,rfl,rfl,rfl,i3,j3,s3,t3⟩:=dA h3;have hb:x.1=_:=congrArg Prod.fst hx;simp only[List.map_cons,List.map_nil]at hb;have hk:Rows.uptoBulk y0.1≤Rows.uptoBulk x.1∧Rows.uptoBulk y1.1≤Rows.uptoBulk x.1∧Rows.uptoBulk y2.1≤Rows.uptoBulk x.1∧Rows.uptoBulk y3.1≤Rows.uptoBulk x.1:=by rw[hb];simp only[Rows.uptoBulk,Rows.uptoBulkAll];omega
   exact⟨r0,r1,r2,r3,⟨a0,c0,b0,d0,_,rfl,i0,j0,a1,c1,b1,d1,_,rfl,i1,j1,a2,c2,b2,d2,_,rfl,i2,j2,a3,c3,b3,d3,_,rfl,i3,j3,rfl⟩,⟨by omega,by omega⟩,⟨by omega,by omega⟩,⟨by omega,by omega⟩,⟨by omega,by omega⟩⟩
theorem open_vecu {fuel:Nat} {l:List Value} {x:DataW H×List MemPlace} (hl:l.length=9) (hf:DataW.trod enc Tryz.prog W 0 (fun _=>true) true fuel 37 l=some x):
  ∃r0 r1 r2:Rq,aM W [r0,r1,r2] l∧(r0.L≤Rows.uptoBulk x.1∧r0.N≤Rows.uptoBulk x.1)∧(r1.L≤Rows.uptoBulk x.1∧r1.N≤Rows.uptoBulk x.1)∧(r2.L≤Rows.uptoBulk x.1∧r2.N≤Rows.uptoBulk x.1):=by
 have hcf:Tryz.prog.cellsOf 33=3:=by kernel_rfl
 match l,hl with
 | [u0,u1,u2,u3,u4,u5,u6,u7,u8],_=>
  obtain⟨xs,n,_,hx,_,hlen,hg⟩:=DataW.trod_struct Tryz.underlying37 hf
  match xs,hlen with
  | [y0,y1,y2],_=>
   have h0:=hg 0 _ rfl;have h1:=hg 1 _ rfl;have h2:=hg 2 _ rfl;simp[Value.cells,hcf]at h0 h1 h2;obtain⟨r0,a0,b0,c0,d0,rfl,rfl,rfl,i0,j0,s0,t0⟩:=dA h0;obtain⟨r1,a1,b1,c1,d1,rfl,rfl,rfl,i1,j1,s1,t1⟩:=dA h1;obtain⟨r2,a2,b2,c2,d2,rfl,rfl,rfl,i2,j2,s2,t2⟩:=dA h2;have hb:x.1=_:=congrArg Prod.fst hx;simp only[List.map_cons,List.map_nil]at hb;have hk:Rows.uptoBulk y0.1≤Rows.uptoBulk x.1∧Rows.uptoBulk y1.1≤Rows.uptoBulk x.1∧Rows.uptoBulk y2.1≤Rows.uptoBulk x.1:=by rw[hb];simp only[Rows.uptoBulk,Rows.uptoBulkAll];omega
   exact⟨r0,r1,r2,⟨a0,c0,b0,d0,_,rfl,i0,j0,a1,c1,b1,d1,_,rfl,i1,j1,a2,c2,b2,d2,_,rfl,i2,j2,rfl⟩,⟨by omega,by omega⟩,⟨by omega,by omega⟩,⟨by omega,by omega⟩⟩
theorem pC:∀ {l l':List Rq} {cs cs':List Value},aM W l cs→aM W l' cs'→aM W (l++l') (cs++cs')
 | [],_,cs,_,h,h'=>by have h:cs=[]:=h;subst h;exact h'
 | r::l,l',cs,cs',h,h'=>by
  obtain⟨a,c,b,d,cs1,rfl,i1,i2,h3⟩:=h;exact⟨a,c,b,d,cs1++cs',rfl,i1,i2,pC h3 h'⟩
end
end
section
open Go.ChangeShapes Go.WideShapes Go.ChangeAt Go.RowKit
section
variable {H:Type} {enc:TypeId×Value→H} {W:World}
theorem xx {fuel:Nat} {l:List Value} {x:DataW H×List MemPlace} (hl:l.length=21) (hf:DataW.trod enc Tryz.prog W 0 (fun _=>true) true fuel 39 l=some x):
  ∃r0 r1 r2 r3 r4 r5 r6:Rq,aM W [r0,r1,r2,r3,r4,r5,r6] l:=by
 have hcq:Tryz.prog.cellsOf 35=12:=by kernel_rfl
 have hcv:Tryz.prog.cellsOf 37=9:=by kernel_rfl
 obtain⟨xs,n,_,hx,_,hlen,hg⟩:=DataW.trod_struct Tryz.underlying39 hf
 match xs,hlen with
 | [y0,y1],_=>
  have h0:=hg 0 _ rfl;have h1:=hg 1 _ rfl;simp[Value.cells,hcq,hcv]at h0 h1;obtain⟨r0,r1,r2,r3,k0,_⟩:=xw (by simp;omega) h0;obtain⟨r4,r5,r6,k1,_⟩:=open_vecu (by simp;omega) h1;refine⟨r0,r1,r2,r3,r4,r5,r6,?_⟩;have h:=pC k0 k1;have e:l.take 12++(l.drop 12).take 9=l:=by rw[List.take_of_length_le (show(l.drop 12).length≤9 by simp;omega),List.take_append_drop]
  rw[e]at h;exact h
end
end
section
open Go.ChangeShapes Go.WideShapes Go.ChangeAt Go.RowKit
section
variable {H:Type} {enc:TypeId×Value→H} {W:World}
theorem uW:∀ {rs:List Rq} {cs:List Value} {j:Nat} {q:Vp},aM W rs cs→(uG rs)[j]? =some q→∃u,cs[j]? =some u∧q.p W u∧∀g,¬q.fp W u g
 | [],_,_,_,_,h=>by simp[uG]at h
 | r::rs,cs,j,q,hc,h=>by
  obtain⟨a,c,b,d,cs',rfl,h1,h2,h3⟩:=hc;simp only[uG,List.flatMap_cons]at h
  match j,h with
  | 0,h=>simp at h;subst h;exact⟨_,rfl,⟨rfl,bU⟩,fun _ h=>h⟩
  | 1,h=>simp at h;subst h;exact⟨_,rfl,h1,fun _ h=>h⟩
  | 2,h=>simp at h;subst h;exact⟨_,rfl,h2,fun _ h=>h⟩
  | j+3,h=>
   obtain⟨u,k1,k2⟩:=uW (rs:=rs) (cs:=cs') (j:=j) (q:=q) h3 (by simpa [uG]using h);exact⟨u,by simpa using k1,k2⟩
end
end
inductive SetS (add:List St→List St×Int) (R:Tr) (c:Nm) (a:Int):Tr→Int→Prop
 | none (h:tAt R c a=none):SetS add R c a R 18
 | still {x:Lk} (h:tAt R c a=some x) (hs:x.st=true):SetS add R c a R 10
 | ok {A B:Tr} {x:Lk} (e:R=A++(c,x)::B) (h:tAt R c a=some x) (hs:x.st=false):SetS add R c a (A++(c,{x with tr:=(add x.tr).1})::B) (add x.tr).2
inductive FixS (ok:Bool) (p:Pq) (R:Tr) (c:Nm):Tr→Int→Prop
 | none (h:pq R c):FixS ok p R c R 18
 | state {k:Nat} {x:Lk} (h:eE R c k x) (hs:x.st=true∨x.tr≠ []):FixS ok p R c R 10
 | range {k:Nat} {x:Lk} (h:eE R c k x) (hs:x.st=false) (ht:x.tr=[]) (hp:ok=false):FixS ok p R c R 4
 | ok {A B:Tr} {x:Lk} (e:R=A++(c,x)::B) (h:x.un= -1) (hs:x.st=false) (ht:x.tr=[]) (hp:ok=true):FixS ok p R c (A++(c,{x with st:=true,po:=p})::B) 0
theorem tAt_E {w:World} {t m:Nat} {E:List Ch} (h:TM w t m E) {c:Nm} {a:Int} {o:Option Ln} (hl:atE E c a=o):tAt (trE E) c a=o.map (·.x):=by rw[←h.tAt,hl]
abbrev stV (a:Int) (cs:List Value):Value:=.agg (.int .i64 a::cs).toArray
theorem xy {cs:List Value} (h:cs.length=21):∃c0 c1 c2 c3 c4 c5 c6 c7 c8 c9 c10 c11 c12 c13 c14 c15 c16 c17 c18 c19 c20,cs=[c0,c1,c2,c3,c4,c5,c6,c7,c8,c9,c10,c11,c12,c13,c14,c15,c16,c17,c18,c19,c20]:=by
 match cs,h with
 | [c0,c1,c2,c3,c4,c5,c6,c7,c8,c9,c10,c11,c12,c13,c14,c15,c16,c17,c18,c19,c20],_=>exact⟨_,_,_,_,_,_,_,_,_,_,_,_,_,_,_,_,_,_,_,_,_,rfl⟩
set_option maxHeartbeats 1000000 in
theorem q_Set {w:World} {t m:Nat} {E:List Ch} {c:Nm} {a:Int} {cs:List Value} (h:TM w t m E) (hl:cs.length=21) (add:List St→List St×Int)
  (hadd:∀w' g sl S,(∃l∈lsE E c,S=l.x.tr)→Below w.heap.size w w'→TrkS trT w' g sl S→Calls Tryz.prog 127 #[ptB g,stV a cs] w' fun e w''=>e= .returned (.int .i64 (add S).2)∧TrkM trT w' g sl (add S).1 w''):
  Calls Tryz.prog 69 #[ptB t,.string c,stV a cs] w fun e w'=>∃E' R' code,e= .returned (.int .i64 code)∧TPost w t m E w' E'∧REq (trE E') R'∧SetS add (trE E) c a R' code:=by
 obtain⟨w1,hw1⟩:∃w1,w.alloc (.cells (.int .i64 a::cs).toArray 120)=w1:=⟨_,rfl⟩;have hb1:Below w.heap.size w w1:=by rw[←hw1];exact(Below.refl _ _).alloc (Nat.le_refl _) _
 have hnew:w1.heap[w.heap.size]? =some (.cells (.int .i64 a::cs).toArray 120 (0,0)):=by rw[←hw1];exact heap_alloc_new w _
 have h1:=h.below hb1;have hat:=yF h1 c a;generalize hB:w.heap.size=B at *;have hcell:w1.cell? ⟨B,0,none⟩=some (.int .i64 a):=by rw[aA hnew];rfl
 cases hl0:atE E c a with
 | none=>
  rw[hl0]at hat
  change Calls _ _ _ _ (fun e w'=>e= .returned (.pointer none)∧w'=w1)at hat
  have HP:=Lib.hid (show∃E' R' code,Ending.returned (.int .i64 18)= .returned (.int .i64 code)∧TPost w t m E w1 E'∧REq (trE E') R'∧SetS add (trE E) c a R' code from⟨E,_,18,rfl,.refl h (by rw[hB];exact hb1),.refl _,.none (tAt_E h hl0)⟩);clear h h1 hl0 hb1 hnew hadd hl;go_enter Tryz.func69,Tryz.ntmps69
  go_wp2_with (go_at_call 90;refine hat.mono ?_;rintro e w' ⟨rfl,hw'⟩;obtain rfl:=hw'.symm)
  go_ret;exact HP.out
 | some l=>
  rw[hl0]at hat
  change Calls _ _ _ _ (fun e w'=>e= .returned (ptB l.b)∧w'=w1)at hat
  obtain⟨ch,hch,hlm,hL⟩:=mG h1 hl0;have hst:=hL.st;have htp:=hL.tp;have hta:tAt (trE E) c a=some l.x:=tAt_E h hl0
  cases hx:l.x.st with
  | true=>
   rw[hx]at hst;have HP:=Lib.hid (show∃E' R' code,Ending.returned (.int .i64 10)= .returned (.int .i64 code)∧TPost w t m E w1 E'∧REq (trE E') R'∧SetS add (trE E) c a R' code from⟨E,_,10,rfl,.refl h (by rw[hB];exact hb1),.refl _,.still hta hx⟩);clear h h1 hl0 hb1 hnew hadd hl hch hlm hL hta hx htp;generalize l.b=lb at *;go_enter Tryz.func69,Tryz.ntmps69
   go_wp2_with (go_at_call 90;refine hat.mono ?_;rintro e w' ⟨rfl,hw'⟩;obtain rfl:=hw'.symm)
   go_ret;exact HP.out
  | false=>
   rw[hx]at hst;obtain⟨k,hk,ek⟩:=List.getElem_of_mem hlm;have hk':ch.ls[k]? =some l:=by rw[List.getElem?_eq_getElem hk,ek]
   obtain⟨E1,E2,L1,L2,hE,_,hls⟩:=xk hch hk';have hT1:TM w1.drew t m (cQ E1 E2 c ch.rb ch.cap L1 L2 l):=by rw[←hE];exact h1.drew
   have hAdd:=hadd w1.drew l.g l.sl l.x.tr ⟨l,(by unfold lsE;rw[hch];exact hlm),rfl⟩ hb1.drew hT1.mid.trk;have HP:=Lib.hid (show∀w'',TrkM trT w1.drew l.g l.sl (add l.x.tr).1 w''→(∀j,w''.cell? ⟨l.b,j,none⟩=w1.cell? ⟨l.b,j,none⟩)∧(∀j,w''.cell? ⟨B,j,none⟩=w1.cell? ⟨B,j,none⟩)∧∃E' R' code,Ending.returned (.int .i64 (add l.x.tr).2)= .returned (.int .i64 code)∧TPost w t m E w'' E'∧REq (trE E') R'∧SetS add (trE E) c a R' code from fun w'' hM=>by
    have hlg:l.g<B:=by rw[←hB];exact h.lt l.g (by rw[hE];exact hT1.sub _ (by simp[Ln.fp]))
    have hlb:l.b<w1.heap.size:=by
     obtain⟨⟨cs,k1,_⟩,_⟩:=hL;exact(Array.getElem?_eq_some_iff.1 k1).1
    have hne:l.b≠l.g:=fun e=>by
     have hnd:=hT1.lnd;unfold Ln.fp at hnd;exact(List.nodup_cons.1 hnd).1 (e▸List.mem_cons_self ..)
    have hBs:B<w1.heap.size:=(Array.getElem?_eq_some_iff.1 hnew).1;refine⟨fun j=>World.cell?_of_block (hM.kept.block l.b hlb hne),fun j=>World.cell?_of_block (hM.kept.block B hBs (fun e=>by have e:B=l.g:=e;omega)),?_⟩;obtain⟨sl',hP⟩:=hT1.trk hM;refine⟨_,_,_,rfl,TPost.pre (by rw[hB];exact hb1.drew) h (by rw[hE];exact hP),.refl _,?_⟩;have hE2:trE E=(trE E1++L1.map fun l=>(c,l.x))++(c,l.x)::((L2.map fun l=>(c,l.x))++trE E2):=by rw[hE,gC]
    rw[gC];exact .ok hE2 hta hx)
   have HA:=Lib.hid hAdd;have hrg:w1.rangeAt B 0 (.int .i64 a::cs):=fun j v hv=>by rw[aA hnew,Nat.zero_add];simpa using hv
   have hsz:(Tryz.prog.info? 120).map (·.size)=some (.int .i64 a::cs:List Value).length:=by rw[List.length_cons,hl];kernel_rfl
   clear h h1 hl0 hb1 hnew hadd hl hch hlm hL hta hx hk hk' ek hls hT1 hAdd hE;generalize l.b=lb at *;generalize l.g=lg at *;generalize (add l.x.tr).2=code at *;go_enter Tryz.func69,Tryz.ntmps69
   go_wp2_with (go_at_call 90;refine hat.mono ?_;rintro e w' ⟨rfl,hw'⟩;obtain rfl:=hw'.symm)
   refine wp_region_held_drew (S:=fun w'=>w'.cell? ⟨lb,26,none⟩=some (ptB lg)∧w'.rangeAt B 0 (.int .i64 a::cs)) (by kernel_rfl) ⟨by simpa using htp,by simpa using hrg⟩ (fun hHeld=> ?_);refine wpAnyH_take (i:=0) (v:=ptB lb) rfl (by kernel_rfl) (by kernel_rfl) (by kernel_rfl) (fun _ _ _ h=>h) (Or.inl ⟨by rfl,fun w hw=>by rfl⟩) hHeld ?_;refine wpAnyH_take (i:=1) (v:=ptB lb) rfl (by kernel_rfl) (by kernel_rfl) (by kernel_rfl) (fun _ _ _ h=>h) (Or.inl ⟨by rfl,fun w hw=>by go_simp⟩) hHeld ?_;refine wpAnyH_take (i:=2) (v:=.pointer (some ⟨lb,26,none⟩)) rfl (by kernel_rfl) (by kernel_rfl) (by kernel_rfl) (fun _ _ _ h=>h) (Or.inl ⟨by rfl,fun w hw=>by go_simp⟩) hHeld ?_;refine wpAnyH_take (i:=3) (v:=ptB lg) rfl (by kernel_rfl) (by kernel_rfl) (by kernel_rfl) (fun _ _ _ h=>h) (Or.inl ⟨by rfl,fun w hw=>by have:=hw.1;go_simp⟩) hHeld ?_;refine wpAnyH_take (i:=4) (v:=stV a cs) rfl (by kernel_rfl) (by kernel_rfl) (by kernel_rfl) (fun _ _ _ h=>h) (yieldsIf_load_mid (by rfl) _ _ rfl B 0 rfl _ _ (fun w hw=>hw.2) Tryz.underlying120 rfl hsz) hHeld ?_;refine wpAnyH_ready (rs:=[5]) (by kernel_rfl) (by simp) ?_;refine AllReadyH.cons rfl (fun K hK=> ?_) AllReadyH.nil;go_simp;go_at_call 127
   refine HA.out.mono ?_;rintro e w2 ⟨rfl,hM⟩;obtain⟨e1,e2,hq⟩:=HP.out _ hM;have HQ:=Lib.hid hq;refine hK.out _ _ ⟨(e1 26).trans htp,fun j v hv=>(e2 _).trans (hrg j v hv)⟩ (fun hHeld2=> ?_);clear hK K hM e1 e2 hq hHeld;refine wpAnyH_take (i:=6) (v:=.int .i64 code) rfl (by kernel_rfl) (by kernel_rfl) (by kernel_rfl) (fun _ _ _ h=>h) (Or.inl ⟨by rfl,fun w hw=>by rfl⟩) hHeld2 ?_;refine wpAnyH_done (by kernel_rfl) ?_ _;go_wp2;go_ret;exact HQ.out
def iX (cs:Array Value):Nat→List Value→Array Value
 | _,[]=>cs
 | o,v::vs=>iX (cs.setIfInBounds o v) (o+1) vs
theorem pD:∀(vs:List Value) (cs:Array Value) (o:Nat),(iX cs o vs).size=cs.size
 | [],_,_=>rfl
 | v::vs,cs,o=>by rw[iX,pD];simp
theorem mJ:∀(vs:List Value) (cs:Array Value) (o j:Nat),o+vs.length≤cs.size→(iX cs o vs)[j]? =if o≤j∧j<o+vs.length then vs[j - o]? else cs[j]?
 | [],cs,o,j,_=>by rw[iX,if_neg (by simp only[List.length_nil];omega)]
 | v::vs,cs,o,j,h=>by
  simp only[List.length_cons]at h⊢;rw[iX,mJ vs _ _ _ (by simp;omega),Array.getElem?_setIfInBounds];by_cases h1:o+1≤j∧j<o+1+vs.length
  ·rw[if_pos h1,if_pos (by omega),show j - o=(j - (o+1))+1 by omega];rfl
  ·rw[if_neg h1];by_cases h2:o=j
   ·subst h2;rw[if_pos rfl,if_pos (by omega),if_pos (by omega),Nat.sub_self];rfl
   ·rw[if_neg h2,if_neg (by omega)]
theorem ck:∀(vs:List Value) (w:World) (b o:Nat),Upd w b (w.setCells b o vs)
 | [],w,b,o=>⟨rfl,rfl,rfl,rfl,fun _ _=>rfl⟩
 | v::vs,w,b,o=>(Upd.cell w b o v).trans (ck vs _ b (o+1))
theorem cX:∀(vs:List Value) (w:World) (b o:Nat) (cs:Array Value) (T:TypeId),w.heap[b]? =some (.cells cs T (0,0))→(w.setCells b o vs).heap[b]? =some (.cells (iX cs o vs) T (0,0))
 | [],w,b,o,cs,T,h=>h
 | v::vs,w,b,o,cs,T,h=>cX vs _ b (o+1) _ T (heap_setCell_same w b o cs T v h)
theorem TM.setB {w w':World} {t m:Nat} {E1 E2:List Ch} {c:Nm} {rb cap:Nat} {L1 L2:List Ln} {l l':Ln} (h:TM w t m (cQ E1 E2 c rb cap L1 L2 l)) (u:Upd w l.b w') (hc:∃cs,w'.heap[l.b]? =some (.cells cs lkT (0,0))∧kh w' cs (lnQ c l')) (hb:l'.b=l.b) (hg:l'.g=l.g) (hs:l'.sl=l.sl) (ht:l'.x.tr=l.x.tr):
  TPost w t m (cQ E1 E2 c rb cap L1 L2 l) w' (cQ E1 E2 c rb cap L1 L2 l'):=by
 have hown:∀g∈l.fp,bC w g:=fun g hg=>h.own g (h.sub g hg)
 have hn:=h.lnd;have e:l'.fp=l.fp:=by unfold Ln.fp;rw[hb,hg,hs]
 have hlb:bC w l.b:=hown _ (List.mem_cons_self ..);have hc1:Chg w w' (· =l.b):=.upd hlb u;have hk:Chg w w' (· ∈l.fp):=⟨by rw[u.size];exact Nat.le_refl _,fun g _ hg=>u.block g (fun e=>hg (e▸List.mem_cons_self ..)),hown⟩;have hn2:l.b≠l.g∧∀b,l.sl.ownBlock=some b→b≠l.b:=by
  unfold Ln.fp at hn;obtain⟨a1,_⟩:=List.nodup_cons.1 hn;exact⟨fun e=>a1 (e▸List.mem_cons_self ..),fun b hb e=>a1 (e▸List.mem_cons_of_mem _ (by simp[hb]))⟩
 obtain⟨cs,h1,h2⟩:=hc;have hox:bC w' l.b:=.mk' h1 (fun k n hk=>by
  obtain⟨q,hq⟩:∃q,(lnQ c l')[k]? =some q:=⟨_,List.getElem?_eq_getElem (by rw[←h2.1];exact(Array.getElem?_eq_some_iff.1 hk).1)⟩;obtain⟨v,k1,k2⟩:=h2.2 k q hq;rw[hk]at k1;injection k1 with k1;subst k1;exact(q.fl _ _ k2).2.2 n rfl)
 refine⟨h.put hb hg (fun b hb=>.inl (hs▸hb)) ⟨⟨cs,by rw[hb];exact h1,h2⟩,by rw[hg,hs,ht];exact h.mid.trk.chg hc1 (fun e=>hn2.1 e.symm) hn2.2⟩ (fun g hg'=> ?_) hk,.upd u (h.sub _ (List.mem_cons_self ..)),fun g hg'=>.inl ?_⟩
 ·rw[e]at hg';by_cases e2:g=l.b
  ·subst e2;exact hox
  ·exact(hown g hg').blk (u.block g e2) (by rw[u.size];exact Nat.le_refl _)
 ·rw[eN]at hg'⊢;rw[hb,hg,hs]at hg';exact hg'
theorem bY {w:World}:∀ {rs:List Rq} {cs:List Value},aM w rs cs→cs.length=3*rs.length
 | [],cs,h=>by have h:cs=[]:=h;subst h;rfl
 | r::rs,cs,h=>by
  obtain⟨a,c,b,d,cs',rfl,_,_,h⟩:=h;have:=bY h;simp only[List.length_cons,this];omega
theorem fx {w:World}:∀ {rs:List Rq} {cs:List Value},aM w rs cs→∀v∈cs,v.oneCell'=true
 | [],cs,h,v,hv=>by have h:cs=[]:=h;subst h;cases hv
 | r::rs,cs,h,v,hv=>by
  obtain⟨a,c,b,d,cs',rfl,_,_,h⟩:=h;simp only[List.mem_cons]at hv;rcases hv with rfl | rfl | rfl | hv
  ·rfl
  ·rfl
  ·rfl
  ·exact fx h v hv
theorem fixed_mem {w:World} {t m:Nat} {E1 E2:List Ch} {c:Nm} {rb cap:Nat} {L1 L2:List Ln} {l:Ln} {p:Pq} {cs:List Value} (h:TM w t m (cQ E1 E2 c rb cap L1 L2 l)) (hv:bw w (.agg cs.toArray) p):
  TPost w t m (cQ E1 E2 c rb cap L1 L2 l) ((w.setCell ⟨l.b,4,none⟩ (.bool true)).setCells l.b 5 cs) (cQ E1 E2 c rb cap L1 L2 {l with x:= {l.x with st:=true,po:=p}}):=by
 obtain⟨cs0,e0,hc⟩:=hv;have e0:cs=cs0:=by injection e0 with e0;simpa using e0
 subst e0;have hlen:cs.length=21:=bY hc;obtain⟨⟨C,h1,h2,h3⟩,_⟩:=h.mid;have hCs:C.size=27:=h2;have u:Upd w l.b ((w.setCell ⟨l.b,4,none⟩ (.bool true)).setCells l.b 5 cs):=(Upd.cell w l.b 4 _).trans (ck cs _ l.b 5);have hk:Chg w ((w.setCell ⟨l.b,4,none⟩ (.bool true)).setCells l.b 5 cs) (· =l.b):=.upd (h.own _ (h.sub _ (List.mem_cons_self ..))) u;refine h.setB u ⟨iX (C.setIfInBounds 4 (.bool true)) 5 cs,cX cs _ l.b 5 _ lkT (heap_setCell_same w l.b 4 C lkT _ h1),by rw[pD,Array.size_setIfInBounds];exact hCs,fun j q hq=> ?_⟩ rfl rfl rfl rfl;rw[mJ _ _ _ _ (by simp[hCs,hlen]),hlen];by_cases hj:5≤j∧j<5+21
 ·rw[if_pos hj];have hq2:(uG [p.rot.w.raw,p.rot.x.raw,p.rot.y.raw,p.rot.z.raw,p.pos.x.raw,p.pos.y.raw,p.pos.z.raw])[j - 5]? =some q:=by
   have e:lnQ c {l with x:= {l.x with st:=true,po:=p}}=[.val (.string c),.val (.string l.x.par),.val (.int .i64 l.x.fr),.val (.int .i64 l.x.un),.val (.bool true)]++(frs p.cs++ [.val (ptB l.g)]):=rfl;rw[e,List.getElem?_append_right (by simp;omega)]at hq;rw[List.getElem?_append_left (by show j - 5<21;omega)]at hq;exact hq
  obtain⟨v,k1,k2,k3⟩:=uW hc hq2;exact⟨v,k1,(q.ch _ _ _ v k2 hk (fun g hg=>absurd hg (k3 g))).1⟩
 ·rw[if_neg hj,Array.getElem?_setIfInBounds];by_cases h4:4=j
  ·subst h4;rw[if_pos rfl,if_pos (by omega)];have:q= .val (.bool true):=by
    have e:(lnQ c {l with x:= {l.x with st:=true,po:=p}})[4]? =some (.val (.bool true)):=rfl;rw[e]at hq;injection hq with hq;exact hq.symm
   subst this;exact⟨_,rfl,rfl,bU⟩
  ·rw[if_neg h4];have hq2:(lnQ c l)[j]? =some q:=by
    rw[←hq];unfold lnQ;rcases Nat.lt_or_ge j 5 with h5 | h5
    ·match j,h5,h4 with
     | 0,_,_=>rfl
     | 1,_,_=>rfl
     | 2,_,_=>rfl
     | 3,_,_=>rfl
     | n+4,h5,h4=>exact absurd (show 4=n+4 by omega) h4
    ·obtain⟨i,rfl⟩:∃i,j=26+i:=⟨j - 26,by omega⟩;have e1:∀x:Pq,(frs x.cs++ [Vp.val (ptB l.g)])[21+i]? =[Vp.val (ptB l.g)][i]? :=fun x=>by
      rw[List.getElem?_append_right (by show 21≤21+i;omega)];show [Vp.val (ptB l.g)][21+i - 21]? =_;rw[Nat.add_sub_cancel_left]
     have e2:∀(a b c d e:Vp) (M:List Vp),(a::b::c::d::e::M)[26+i]? =M[21+i]? :=fun a b c d e M=>by
      rw[show 26+i=(21+i)+1+1+1+1+1 by omega];rfl
     rw[e2,e2,e1,e1]
   obtain⟨v,k1,k2⟩:=h3 j q hq2;have hqm:q∈lnQ c l:=List.mem_of_getElem? hq2;exact⟨v,k1,(q.ch _ _ _ v k2 hk (fun g hg=>absurd hg (sW q hqm _ _ _))).1⟩
theorem aj {P:Program} {ops:Array Oper} {rest:List Oper} {op:Oper} {a:Act} {w w':World} {v:Value} {Q:Exit→Act→World→Prop} (hgd:op.guard=none) (hr:(execOp a.eval op).run P w= .ok (.value v) w')
  (h:wpList P ops Q rest (a.put op.dst v) w'):wpList P ops Q (op::rest) a w:=
 wpList_plain hgd fun K hK=>by
  unfold Oper.wp;rw[hr];exact hK _ _ h
theorem LnAt.frz {w:World} {c:Nm} {l:Ln} (h:LnAt w c l) (j:Nat):w.frozen? ⟨l.b,j,none⟩=false:=by
 obtain⟨⟨cs,h1,_⟩,_⟩:=h;simp[World.frozen?,h1]
theorem LnAt.thr {w:World} {c:Nm} {l:Ln} (h:LnAt w c l) (v:Value):(w.setCell ⟨l.b,4,none⟩ v).there l.b 5 21:=fun j hj=>by
 obtain⟨⟨cs,h1,h2,_⟩,_⟩:=h;have h2:cs.size=27:=h2;have h3:=heap_setCell_same w l.b 4 cs lkT v h1;refine⟨?_,by simp[World.frozen?,h3]⟩;rw[aA h3,Array.getElem?_eq_getElem (by simp[h2];omega)];rfl
theorem opAt_E {w:World} {t m:Nat} {E:List Ch} {c:Nm} {l:Ln} (_:TM w t m E) (ho:opL (lsE E c)=some l):∃k,eE (trE E) c k l.x:=by
 obtain⟨hun,ch,hc,hk⟩:=lQ ho;have hq:=dM.2 ⟨ch,(cN hc).1,l,List.mem_of_getElem? hk,rfl⟩;rw[(cN hc).2]at hq;obtain⟨k,hk1,hk2⟩:=List.getElem_of_mem hq;exact⟨k,by rw[List.getElem?_eq_getElem hk1,hk2],hun⟩
set_option maxHeartbeats 1000000 in
theorem q_Fixed {w:World} {t m:Nat} {E:List Ch} {c:Nm} {cs:List Value} {p:Pq} {ok:Bool} (h:TM w t m E) (hE:TOk (trE E)) (hv:bw w (.agg cs.toArray) p) (hp:p.ok 1000)
  (hval:∀w',Below w.heap.size w w'→Calls Tryz.prog 122 #[.agg cs.toArray] w' fun e w''=>e= .returned (.bool ok)∧Below w'.heap.size w' w''):
  Calls Tryz.prog 70 #[ptB t,.string c,.agg cs.toArray] w fun e w'=>∃E' R' code,e= .returned (.int .i64 code)∧TPost w t m E w' E'∧REq (trE E') R'∧FixS ok p (trE E) c R' code:=by
 obtain⟨w1,hw1⟩:∃w1,w.alloc (.cells cs.toArray 39)=w1:=⟨_,rfl⟩;have hb1:Below w.heap.size w w1:=by rw[←hw1];exact(Below.refl _ _).alloc (Nat.le_refl _) _
 have hs1:w1.heap.size=w.heap.size+1:=by rw[←hw1];exact asz _ _
 have hnew:w1.heap[w.heap.size]? =some (.cells cs.toArray 39 (0,0)):=by rw[←hw1];exact heap_alloc_new w _
 have h1:=h.below hb1;have hop:=kj h1 c;have hlen:cs.length=21:=by
  obtain⟨cs0,e0,hc⟩:=hv;have e0:cs=cs0:=by injection e0 with e0;simpa using e0
  subst e0;exact bY hc
 have hcp:∀w',Below w.heap.size w w'→Calls Tryz.prog 97 #[.agg cs.toArray] w' fun e w''=>o8 w' p e w'':=fun w' hb=>q_fcp _ p w' (hv.mono hb) (hp.mono (by decide))
 generalize hB:w.heap.size=B at *
 cases hl0:opL (lsE E c)with
 | none=>
  rw[hl0]at hop
  change Calls _ _ _ _ (fun e w'=>e= .returned (.pointer none)∧w'=w1)at hop
  have HP:=Lib.hid (show∃E' R' code,Ending.returned (.int .i64 18)= .returned (.int .i64 code)∧TPost w t m E w1 E'∧REq (trE E') R'∧FixS ok p (trE E) c R' code from⟨E,_,18,rfl,.refl h (by rw[hB];exact hb1),.refl _,.none (pz h hE hl0)⟩);clear h h1 hl0 hb1 hnew hval hcp hlen hv hp hE hs1;go_enter Tryz.func70,Tryz.ntmps70
  go_wp2_with (go_at_call 124;refine hop.mono ?_;rintro e w' ⟨rfl,hw'⟩;obtain rfl:=hw'.symm)
  go_ret;exact HP.out
 | some l=>
  rw[hl0]at hop
  change Calls _ _ _ _ (fun e w'=>e= .returned (ptB l.b)∧w'=w1)at hop
  obtain⟨k,hk⟩:=opAt_E h hl0;obtain⟨hun,ch,hch,hkl⟩:=lQ hl0;have hL:=h1.ln hch (List.mem_of_getElem? hkl);have hst:=hL.st;have htp:=hL.tp
  cases hx:l.x.st with
  | true=>
   rw[hx]at hst;have HP:=Lib.hid (show∃E' R' code,Ending.returned (.int .i64 10)= .returned (.int .i64 code)∧TPost w t m E w1 E'∧REq (trE E') R'∧FixS ok p (trE E) c R' code from⟨E,_,10,rfl,.refl h (by rw[hB];exact hb1),.refl _,.state hk (.inl hx)⟩);clear h h1 hl0 hb1 hnew hval hcp hlen hv hp hE hs1 hk hun hch hkl hL htp hx;generalize l.b=lb at *;go_enter Tryz.func70,Tryz.ntmps70
   go_wp2_with (go_at_call 124;refine hop.mono ?_;rintro e w' ⟨rfl,hw'⟩;obtain rfl:=hw'.symm)
   go_ret;exact HP.out
  | false=>
   rw[hx]at hst;have hg64:l.x.tr.length≤64:=(hE.good _ (List.mem_of_getElem? hk.1)).len;have hln:=q_Len l.x.tr hL.trk hg64;have HB1:=Lib.hid hb1;have HT:=Lib.hid h;by_cases ht:l.x.tr=[]
   ·have hln0:Calls Tryz.prog 128 #[ptB l.g] w1 fun e w'=>e= .returned (.int .i64 0)∧Below w1.heap.size w1 w':=by rw[ht]at hln;exact hln
    have hrg:w1.rangeAt B 0 cs:=fun j v hv=>by rw[aA hnew,Nat.zero_add];simpa using hv
    have hsz:(Tryz.prog.info? 39).map (·.size)=some 21:=by kernel_rfl
    have hBlt:B<w1.heap.size:=by omega
    have HLD:=Lib.hid (show∀w',Below w1.heap.size w1 w'→w'.rangeAt B 0 cs from fun w' hb j v hv=>by rw[hb.cell (p:=⟨B,_,none⟩) hBlt];exact hrg j v hv);have HSZ:=Lib.hid (show(Tryz.prog.info? 39).map (·.size)=some cs.length by rw[hsz,hlen]);have HV:=Lib.hid hval
    cases ok with
    | false=>
     have HP:=Lib.hid (show∀w2 w3,Below w1.heap.size w1 w2→Below w2.heap.size w2 w3→∃E' R' code,Ending.returned (.int .i64 4)= .returned (.int .i64 code)∧TPost w t m E w3 E'∧REq (trE E') R'∧FixS false p (trE E) c R' code from fun w2 w3 k2 k3=>⟨E,_,4,rfl,.refl h (by rw[hB];exact hb1.trans ((k2.trans (k3.mono k2.size)).mono (by omega))),.refl _,.range hk hx ht rfl⟩);clear h h1 hl0 hb1 hnew hval hcp hlen hv hp hE hk hun hch hkl hL hx hln ht hrg hsz hBlt hg64;generalize l.b=lb at *;generalize l.g=lg at *;go_enter Tryz.func70,Tryz.ntmps70
     go_upto_region 8 with(first
      | (go_at_call 124;refine hop.mono ?_;rintro e w' ⟨rfl,hw'⟩;obtain rfl:=hw'.symm)
      | (go_at_call 128;refine hln0.mono ?_;rintro e w2 ⟨rfl,k2⟩;have hld2:=Lib.hid (HLD.out w2 k2);have hval2:=HV.out w2 (HB1.out.trans (k2.mono (by omega)));have K2:=Lib.hid k2;clear k2))
     refine wp_region_list ?_;refine wpList_load_mid rfl _ _ rfl B 0 rfl cs _ hld2.out Tryz.underlying39 rfl HSZ.out ?_;go_wp2_with (go_at_call 122;refine hval2.mono ?_;rintro e w3 ⟨rfl,k3⟩;have HQ:=Lib.hid (HP.out w2 w3 K2.out k3);clear k3)
     go_ret;exact HQ.out
    | true=>
     have hk':=hkl;obtain⟨E1,E2,L1,L2,hE2,_,hls⟩:=xk hch hk';have HF:=Lib.hid (show∀w4 cs4,Below w1.heap.size w1 w4→bw w4 (.agg cs4.toArray) p→w4.cell? ⟨l.b,4,none⟩=some (.bool false)∧w4.frozen? ⟨l.b,4,none⟩=false∧
       (w4.setCell ⟨l.b,4,none⟩ (.bool true)).there l.b 5 cs4.length∧(Tryz.prog.info? 39).map (·.size)=some cs4.toArray.size∧cs4.toArray.all (·.oneCell')=true∧
       ∃E' R' code,Ending.returned (.int .i64 0)= .returned (.int .i64 code)∧TPost w t m E ((w4.setCell ⟨l.b,4,none⟩ (.bool true)).setCells l.b 5 cs4) E'∧REq (trE E') R'∧FixS true p (trE E) c R' code from fun w4 cs4 kb hi=>by
      have hT4:TM w4 t m (cQ E1 E2 c ch.rb ch.cap L1 L2 l):=by rw[←hE2];exact h1.below kb
      have hL4:=hT4.mid;have hbb:Below B w w4:=hb1.trans (kb.mono (by omega));have hc4:∃cs0:List Value,Value.agg cs4.toArray= .agg cs0.toArray∧aM w4 _ cs0:=hi;obtain⟨cs0,e0,hc4⟩:=hc4;have e0:cs4=cs0:=by injection e0 with e0;simpa using e0
      subst e0;refine⟨by have:=hL4.st;rwa [hx]at this,hL4.frz 4,by rw[show cs4.length=21 from bY hc4];exact hL4.thr _,by rw[hsz,List.size_toArray,show cs4.length=21 from bY hc4],all_oneCell_toArray (fx hc4),_,_,0,rfl,TPost.pre (by rw[hB];exact hbb) h (by rw[hE2];exact fixed_mem hT4 hi),.refl _,?_⟩;have e2:trE E=(trE E1++L1.map fun l=>(c,l.x))++(c,l.x)::((L2.map fun l=>(c,l.x))++trE E2):=by rw[hE2,gC]
      rw[gC];exact .ok e2 hun hx ht rfl)
     have HC:=Lib.hid hcp;clear h h1 hl0 hb1 hnew hval hcp hlen hv hp hE hk hun hch hkl hL hx hln ht hrg hsz hBlt hg64 hk' hE2 hls;generalize l.b=lb at *;generalize l.g=lg at *;go_enter Tryz.func70,Tryz.ntmps70
     go_upto_region 8 with(first
      | (go_at_call 124;refine hop.mono ?_;rintro e w' ⟨rfl,hw'⟩;obtain rfl:=hw'.symm)
      | (go_at_call 128;refine hln0.mono ?_;rintro e w2 ⟨rfl,k2⟩;have hld2:=Lib.hid (HLD.out w2 k2);have hval2:=HV.out w2 (HB1.out.trans (k2.mono (by omega)));have K2:=Lib.hid k2;clear k2))
     refine wp_region_list ?_;refine wpList_load_mid rfl _ _ rfl B 0 rfl cs _ hld2.out Tryz.underlying39 rfl HSZ.out ?_;go_upto_region 10 with(go_at_call 122;refine hval2.mono ?_;rintro e w3 ⟨rfl,k3⟩;have K3:=Lib.hid (K2.out.trans (k3.mono K2.out.size));have hld3:=Lib.hid (HLD.out w3 K3.out);have hcp3:=HC.out w3 (HB1.out.trans (K3.out.mono (by omega)));clear k3)
     refine wp_region_list ?_;refine aj rfl (v:=ptB lb) (w':=w3) (by rfl) ?_;refine aj rfl (v:=ptB lb) (w':=w3) (by rfl) ?_;refine wpList_load_mid rfl _ _ rfl B 0 rfl cs _ hld3.out Tryz.underlying39 rfl HSZ.out ?_;refine wpList_plain rfl (fun K hK=> ?_);go_simp;go_at_call 97
     refine hcp3.mono ?_;rintro e w4 ⟨v,rfl,hv4,k4⟩;obtain⟨cs4,rfl,hc4⟩:=hv4;obtain⟨hst4,hfz4,hth,hsz4,hone,hq4⟩:=HF.out w4 cs4 (K3.out.trans (k4.mono K3.out.size)) ⟨cs4,rfl,hc4⟩;have HQ:=Lib.hid hq4;refine hK _ _ ?_;clear hK K hc4 k4 hq4;refine aj rfl (v:=ptB lb) (w':=w4) (by go_simp) ?_;refine aj rfl (v:=.pointer (some ⟨lb,4,none⟩)) (w':=w4) (by go_simp) ?_;refine wpList_plain rfl (fun K hK=> ?_);go_simp;refine hK _ _ ?_;clear hK K;refine aj rfl (v:=ptB lb) (w':=w4.setCell ⟨lb,4,none⟩ (.bool true)) (by go_simp) ?_;refine aj rfl (v:=.pointer (some ⟨lb,5,none⟩)) (w':=w4.setCell ⟨lb,4,none⟩ (.bool true)) (by go_simp) ?_;refine wpList_store_mid rfl _ _ _ rfl lb 5 cs4.toArray rfl rfl (by simpa using hth) hsz4 hone ?_;go_wp2;go_ret;exact HQ.out
   ·have HP:=Lib.hid (show∀w2,Below w1.heap.size w1 w2→∃E' R' code,Ending.returned (.int .i64 10)= .returned (.int .i64 code)∧TPost w t m E w2 E'∧REq (trE E') R'∧FixS ok p (trE E) c R' code from fun w2 k2=>⟨E,_,10,rfl,.refl h (by rw[hB];exact hb1.trans (k2.mono (by omega))),.refl _,.state hk (.inr ht)⟩);have hpos:(0:Int)<(l.x.tr.length:Int):=by have:=List.length_pos_iff.2 ht;omega
    change Calls Tryz.prog 128 #[ptB l.g] w1 _ at hln
    clear h h1 hl0 hb1 hnew hval hcp hlen hv hp hE hk hun hch hkl hL hx ht hg64 hs1;generalize l.b=lb at *;generalize l.g=lg at *;generalize (l.x.tr.length:Int)=n at *;go_enter Tryz.func70,Tryz.ntmps70
    go_wp2_with (first
     | (go_at_call 124;refine hop.mono ?_;rintro e w' ⟨rfl,hw'⟩;obtain rfl:=hw'.symm)
     | (go_at_call 128;refine hln.mono ?_;rintro e w2 ⟨rfl,k2⟩;have HQ:=Lib.hid (HP.out w2 k2);clear k2))
    go_ret;exact HQ.out
end Go.Proofs.YtggfmklppkioeaaGreat
