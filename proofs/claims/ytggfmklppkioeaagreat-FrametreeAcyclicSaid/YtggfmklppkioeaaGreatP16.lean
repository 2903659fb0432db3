/- Trees of frames: Set, Fixed. Trees of frames: Fixed. Trees of frames: what steps do; they keep trees. What arguments of the type []roboticslaw28.Step are: rows of steps. Trees of frames: names and steps of the statements; no tree. The transform of an edge of no tree. Trees of frames: a step of the statements is done to a tree. slices.Sorted(maps.Keys(m)): the shelf's contracts, laid (printed by the kit's lay-iter.mjs, names set for the templates). Trees of frames: Frames: the keys of a set in ascending order. -/
import Derived.Test.YtggfmklppkioeaaGreatP15
import Derived.Deep.MidRow
import Derived.Deep.Cut
import Derived.Laws.ResultCell
import Derived.Shelf.SlIter.Nil
import Derived.Shelf.SortM.Plain
import Derived.Shelf.SortM.SortNone
import Derived.Ground.GgzProg
import Derived.Ground.SlgmProg
namespace Go.Proofs.YtggfmklppkioeaaGreat
set_option linter.unusedSimpArgs false
set_option linter.unusedVariables false
set_option maxRecDepth 100000
open Go.RowKit
/-- What a step does to the link that holds, or to the open one. -/
inductive SetS (add:List St→List St×Int) (R:Tr) (c:Nm) (a:Int):Tr→Int→Prop
 | none (h:tAt R c a=none):SetS add R c a R 18
 | still {x:Lk} (h:tAt R c a=some x) (hs:x.st=true):SetS add R c a R 10
 | ok {A B:Tr} {x:Lk} (e:R=A++(c,x)::B) (h:tAt R c a=some x) (hs:x.st=false):SetS add R c a (A++(c,{x with tr:=(add x.tr).1})::B) (add x.tr).2
inductive FixS (ok:Bool) (p:Pq) (R:Tr) (c:Nm):Tr→Int→Prop
 | none (h:qU R c):FixS ok p R c R 18
 | state {k:Nat} {x:Lk} (h:sA R c k x) (hs:x.st=true∨x.tr≠ []):FixS ok p R c R 10
 | range {k:Nat} {x:Lk} (h:sA R c k x) (hs:x.st=false) (ht:x.tr=[]) (hp:ok=false):FixS ok p R c R 4
 | ok {A B:Tr} {x:Lk} (e:R=A++(c,x)::B) (h:x.un= -1) (hs:x.st=false) (ht:x.tr=[]) (hp:ok=true):FixS ok p R c (A++(c,{x with st:=true,po:=p})::B) 0
theorem tAt_E {w:World} {t m:Nat} {E:List Ch} (h:TM w t m E) {c:Nm} {a:Int} {o:Option Ln} (hl:atE E c a=o):tAt (trE E) c a=o.map (·.x):=by rw[←h.tAt,hl]
/-- A stamp as an argument: its time, its parts. -/
abbrev stV (a:Int) (cs:List Value):Value:=.agg (.int .i64 a::cs).toArray
theorem aax {cs:List Value} (h:cs.length=21):∃c0 c1 c2 c3 c4 c5 c6 c7 c8 c9 c10 c11 c12 c13 c14 c15 c16 c17 c18 c19 c20,cs=[c0,c1,c2,c3,c4,c5,c6,c7,c8,c9,c10,c11,c12,c13,c14,c15,c16,c17,c18,c19,c20]:=by
 match cs,h with
 | [c0,c1,c2,c3,c4,c5,c6,c7,c8,c9,c10,c11,c12,c13,c14,c15,c16,c17,c18,c19,c20],_=>exact⟨_,_,_,_,_,_,_,_,_,_,_,_,_,_,_,_,_,_,_,_,_,rfl⟩
set_option maxHeartbeats 1000000 in
theorem q_Set {w:World} {t m:Nat} {E:List Ch} {c:Nm} {a:Int} {cs:List Value} (h:TM w t m E) (hl:cs.length=21) (add:List St→List St×Int)
  (hadd:∀w' g sl S,(∃l∈lsE E c,S=l.x.tr)→Below w.heap.size w w'→TrkS trT w' g sl S→Calls Tryz.prog 127 #[ptB g,stV a cs] w' fun e w''=>e= .returned (.int .i64 (add S).2)∧TrkM trT w' g sl (add S).1 w''):
  Calls Tryz.prog 69 #[ptB t,.string c,stV a cs] w fun e w'=>∃E' R' code,e= .returned (.int .i64 code)∧TPost w t m E w' E'∧REq (trE E') R'∧SetS add (trE E) c a R' code:=by
 obtain⟨w1,hw1⟩:∃w1,w.alloc (.cells (.int .i64 a::cs).toArray 120)=w1:=⟨_,rfl⟩
 have hb1:Below w.heap.size w w1:=by rw[←hw1];exact(Below.refl _ _).alloc (Nat.le_refl _) _
 have hnew:w1.heap[w.heap.size]? =some (.cells (.int .i64 a::cs).toArray 120 (0,0)):=by rw[←hw1];exact heap_alloc_new w _
 have h1:=h.below hb1
 have hat:=aal h1 c a
 generalize hB:w.heap.size=B at *
 have hcell:w1.cell? ⟨B,0,none⟩=some (.int .i64 a):=by rw[ba hnew];rfl
 cases hl0:atE E c a with
 | none=>
  rw[hl0]at hat
  change Calls _ _ _ _ (fun e w'=>e= .returned (.pointer none)∧w'=w1)at hat
  have HP:=Lib.hid (show∃E' R' code,Ending.returned (.int .i64 18)= .returned (.int .i64 code)∧TPost w t m E w1 E'∧REq (trE E') R'∧SetS add (trE E) c a R' code from⟨E,_,18,rfl,.refl h (by rw[hB];exact hb1),.refl _,.none (tAt_E h hl0)⟩)
  clear h h1 hl0 hb1 hnew hadd hl
  go_enter Tryz.func69,Tryz.ntmps69
  go_wp2_with (go_at_call 90;refine hat.mono ?_;rintro e w' ⟨rfl,hw'⟩;obtain rfl:=hw'.symm)
  go_ret
  exact HP.out
 | some l=>
  rw[hl0]at hat
  change Calls _ _ _ _ (fun e w'=>e= .returned (ptB l.b)∧w'=w1)at hat
  obtain⟨ch,hch,hlm,hL⟩:=q6 h1 hl0
  have hst:=hL.st
  have htp:=hL.tp
  have hta:tAt (trE E) c a=some l.x:=tAt_E h hl0
  cases hx:l.x.st with
  | true=>
   rw[hx]at hst
   have HP:=Lib.hid (show∃E' R' code,Ending.returned (.int .i64 10)= .returned (.int .i64 code)∧TPost w t m E w1 E'∧REq (trE E') R'∧SetS add (trE E) c a R' code from⟨E,_,10,rfl,.refl h (by rw[hB];exact hb1),.refl _,.still hta hx⟩)
   clear h h1 hl0 hb1 hnew hadd hl hch hlm hL hta hx htp
   generalize l.b=lb at *
   go_enter Tryz.func69,Tryz.ntmps69
   go_wp2_with (go_at_call 90;refine hat.mono ?_;rintro e w' ⟨rfl,hw'⟩;obtain rfl:=hw'.symm)
   go_ret
   exact HP.out
  | false=>
   rw[hx]at hst
   obtain⟨k,hk,ek⟩:=List.getElem_of_mem hlm
   have hk':ch.ls[k]? =some l:=by rw[List.getElem?_eq_getElem hk,ek]
   obtain⟨E1,E2,L1,L2,hE,_,hls⟩:=uv hch hk'
   have hT1:TM w1.drew t m (cn E1 E2 c ch.rb ch.cap L1 L2 l):=by rw[←hE];exact h1.drew
   have hAdd:=hadd w1.drew l.g l.sl l.x.tr ⟨l,(by unfold lsE;rw[hch];exact hlm),rfl⟩ hb1.drew hT1.mid.trk
   have HP:=Lib.hid (show∀w'',TrkM trT w1.drew l.g l.sl (add l.x.tr).1 w''→(∀j,w''.cell? ⟨l.b,j,none⟩=w1.cell? ⟨l.b,j,none⟩)∧(∀j,w''.cell? ⟨B,j,none⟩=w1.cell? ⟨B,j,none⟩)∧∃E' R' code,Ending.returned (.int .i64 (add l.x.tr).2)= .returned (.int .i64 code)∧TPost w t m E w'' E'∧REq (trE E') R'∧SetS add (trE E) c a R' code from fun w'' hM=>by
    have hlg:l.g<B:=by rw[←hB];exact h.lt l.g (by rw[hE];exact hT1.sub _ (by simp[Ln.fp]))
    have hlb:l.b<w1.heap.size:=by
     obtain⟨⟨cs,k1,_⟩,_⟩:=hL
     exact(Array.getElem?_eq_some_iff.1 k1).1
    have hne:l.b≠l.g:=fun e=>by
     have hnd:=hT1.lnd
     unfold Ln.fp at hnd
     exact(List.nodup_cons.1 hnd).1 (e▸List.mem_cons_self ..)
    have hBs:B<w1.heap.size:=(Array.getElem?_eq_some_iff.1 hnew).1
    refine⟨fun j=>World.cell?_of_block (hM.kept.block l.b hlb hne),fun j=>World.cell?_of_block (hM.kept.block B hBs (fun e=>by have e:B=l.g:=e;omega)),?_⟩
    obtain⟨sl',hP⟩:=hT1.trk hM
    refine⟨_,_,_,rfl,TPost.pre (by rw[hB];exact hb1.drew) h (by rw[hE];exact hP),.refl _,?_⟩
    have hE2:trE E=(trE E1++L1.map fun l=>(c,l.x))++(c,l.x)::((L2.map fun l=>(c,l.x))++trE E2):=by rw[hE,eU]
    rw[eU]
    exact .ok hE2 hta hx)
   have HA:=Lib.hid hAdd
   have hrg:w1.rangeAt B 0 (.int .i64 a::cs):=fun j v hv=>by rw[ba hnew,Nat.zero_add];simpa using hv
   have hsz:(Tryz.prog.info? 120).map (·.size)=some (.int .i64 a::cs:List Value).length:=by rw[List.length_cons,hl];kernel_rfl
   clear h h1 hl0 hb1 hnew hadd hl hch hlm hL hta hx hk hk' ek hls hT1 hAdd hE
   generalize l.b=lb at *
   generalize l.g=lg at *
   generalize (add l.x.tr).2=code at *
   go_enter Tryz.func69,Tryz.ntmps69
   go_wp2_with (go_at_call 90;refine hat.mono ?_;rintro e w' ⟨rfl,hw'⟩;obtain rfl:=hw'.symm)
   refine wp_region_held_drew (S:=fun w'=>w'.cell? ⟨lb,26,none⟩=some (ptB lg)∧w'.rangeAt B 0 (.int .i64 a::cs)) (by kernel_rfl) ⟨by simpa using htp,by simpa using hrg⟩ (fun hHeld=> ?_)
   refine wpAnyH_take (i:=0) (v:=ptB lb) rfl (by kernel_rfl) (by kernel_rfl) (by kernel_rfl) (fun _ _ _ h=>h) (Or.inl ⟨by rfl,fun w hw=>by rfl⟩) hHeld ?_
   refine wpAnyH_take (i:=1) (v:=ptB lb) rfl (by kernel_rfl) (by kernel_rfl) (by kernel_rfl) (fun _ _ _ h=>h) (Or.inl ⟨by rfl,fun w hw=>by go_simp⟩) hHeld ?_
   refine wpAnyH_take (i:=2) (v:=.pointer (some ⟨lb,26,none⟩)) rfl (by kernel_rfl) (by kernel_rfl) (by kernel_rfl) (fun _ _ _ h=>h) (Or.inl ⟨by rfl,fun w hw=>by go_simp⟩) hHeld ?_
   refine wpAnyH_take (i:=3) (v:=ptB lg) rfl (by kernel_rfl) (by kernel_rfl) (by kernel_rfl) (fun _ _ _ h=>h) (Or.inl ⟨by rfl,fun w hw=>by have:=hw.1;go_simp⟩) hHeld ?_
   refine wpAnyH_take (i:=4) (v:=stV a cs) rfl (by kernel_rfl) (by kernel_rfl) (by kernel_rfl) (fun _ _ _ h=>h) (yieldsIf_load_mid (by rfl) _ _ rfl B 0 rfl _ _ (fun w hw=>hw.2) Tryz.underlying120 rfl hsz) hHeld ?_
   refine wpAnyH_ready (rs:=[5]) (by kernel_rfl) (by simp) ?_
   refine AllReadyH.cons rfl (fun K hK=> ?_) AllReadyH.nil
   go_simp
   go_at_call 127
   refine HA.out.mono ?_
   rintro e w2 ⟨rfl,hM⟩
   obtain⟨e1,e2,hq⟩:=HP.out _ hM
   have HQ:=Lib.hid hq
   refine hK.out _ _ ⟨(e1 26).trans htp,fun j v hv=>(e2 _).trans (hrg j v hv)⟩ (fun hHeld2=> ?_)
   clear hK K hM e1 e2 hq hHeld
   refine wpAnyH_take (i:=6) (v:=.int .i64 code) rfl (by kernel_rfl) (by kernel_rfl) (by kernel_rfl) (fun _ _ _ h=>h) (Or.inl ⟨by rfl,fun w hw=>by rfl⟩) hHeld2 ?_
   refine wpAnyH_done (by kernel_rfl) ?_ _
   go_wp2
   go_ret
   exact HQ.out
/-- A block's cells, some of them anew. -/
def mO (cs:Array Value):Nat→List Value→Array Value
 | _,[]=>cs
 | o,v::vs=>mO (cs.setIfInBounds o v) (o+1) vs
theorem oT:∀(vs:List Value) (cs:Array Value) (o:Nat),(mO cs o vs).size=cs.size
 | [],_,_=>rfl
 | v::vs,cs,o=>by rw[mO,oT];simp
theorem pR:∀(vs:List Value) (cs:Array Value) (o j:Nat),o+vs.length≤cs.size→(mO cs o vs)[j]? =if o≤j∧j<o+vs.length then vs[j - o]? else cs[j]?
 | [],cs,o,j,_=>by rw[mO,if_neg (by simp only[List.length_nil];omega)]
 | v::vs,cs,o,j,h=>by
  simp only[List.length_cons]at h⊢
  rw[mO,pR vs _ _ _ (by simp;omega),Array.getElem?_setIfInBounds]
  by_cases h1:o+1≤j∧j<o+1+vs.length
  ·rw[if_pos h1,if_pos (by omega),show j - o=(j - (o+1))+1 by omega];rfl
  ·rw[if_neg h1]
   by_cases h2:o=j
   ·subst h2;rw[if_pos rfl,if_pos (by omega),if_pos (by omega),Nat.sub_self];rfl
   ·rw[if_neg h2,if_neg (by omega)]
theorem lO:∀(vs:List Value) (w:World) (b o:Nat),Upd w b (w.setCells b o vs)
 | [],w,b,o=>⟨rfl,rfl,rfl,rfl,fun _ _=>rfl⟩
 | v::vs,w,b,o=>(Upd.cell w b o v).trans (lO vs _ b (o+1))
theorem mP:∀(vs:List Value) (w:World) (b o:Nat) (cs:Array Value) (T:TypeId),w.heap[b]? =some (.cells cs T (0,0))→(w.setCells b o vs).heap[b]? =some (.cells (mO cs o vs) T (0,0))
 | [],w,b,o,cs,T,h=>h
 | v::vs,w,b,o,cs,T,h=>mP vs _ b (o+1) _ T (heap_setCell_same w b o cs T v h)
/-- A link's block is written. -/
theorem TM.setB {w w':World} {t m:Nat} {E1 E2:List Ch} {c:Nm} {rb cap:Nat} {L1 L2:List Ln} {l l':Ln} (h:TM w t m (cn E1 E2 c rb cap L1 L2 l)) (u:Upd w l.b w') (hc:∃cs,w'.heap[l.b]? =some (.cells cs lkT (0,0))∧j9 w' cs (lnQ c l')) (hb:l'.b=l.b) (hg:l'.g=l.g) (hs:l'.sl=l.sl) (ht:l'.x.tr=l.x.tr):
  TPost w t m (cn E1 E2 c rb cap L1 L2 l) w' (cn E1 E2 c rb cap L1 L2 l'):=by
 have hown:∀g∈l.fp,bB w g:=fun g hg=>h.own g (h.sub g hg)
 have hn:=h.lnd
 have e:l'.fp=l.fp:=by unfold Ln.fp;rw[hb,hg,hs]
 have hlb:bB w l.b:=hown _ (List.mem_cons_self ..)
 have hc1:Chg w w' (· =l.b):=.upd hlb u
 have hk:Chg w w' (· ∈l.fp):=⟨by rw[u.size];exact Nat.le_refl _,fun g _ hg=>u.block g (fun e=>hg (e▸List.mem_cons_self ..)),hown⟩
 have hn2:l.b≠l.g∧∀b,l.sl.ownBlock=some b→b≠l.b:=by
  unfold Ln.fp at hn
  obtain⟨a1,_⟩:=List.nodup_cons.1 hn
  exact⟨fun e=>a1 (e▸List.mem_cons_self ..),fun b hb e=>a1 (e▸List.mem_cons_of_mem _ (by simp[hb]))⟩
 obtain⟨cs,h1,h2⟩:=hc
 have hox:bB w' l.b:=.mk' h1 (fun k n hk=>by
  obtain⟨q,hq⟩:∃q,(lnQ c l')[k]? =some q:=⟨_,List.getElem?_eq_getElem (by rw[←h2.1];exact(Array.getElem?_eq_some_iff.1 hk).1)⟩
  obtain⟨v,k1,k2⟩:=h2.2 k q hq
  rw[hk]at k1;injection k1 with k1;subst k1
  exact(q.fl _ _ k2).2.2 n rfl)
 refine⟨h.put hb hg (fun b hb=>.inl (hs▸hb)) ⟨⟨cs,by rw[hb];exact h1,h2⟩,by rw[hg,hs,ht];exact h.mid.trk.chg hc1 (fun e=>hn2.1 e.symm) hn2.2⟩ (fun g hg'=> ?_) hk,.upd u (h.sub _ (List.mem_cons_self ..)),fun g hg'=>.inl ?_⟩
 ·rw[e]at hg'
  by_cases e2:g=l.b
  ·subst e2;exact hox
  ·exact(hown g hg').blk (u.block g e2) (by rw[u.size];exact Nat.le_refl _)
 ·rw[dC]at hg'⊢
  rw[hb,hg,hs]at hg';exact hg'
theorem cB {w:World}:∀ {rs:List Rq} {cs:List Value},bq w rs cs→cs.length=3*rs.length
 | [],cs,h=>by have h:cs=[]:=h;subst h;rfl
 | r::rs,cs,h=>by
  obtain⟨a,c,b,d,cs',rfl,_,_,h⟩:=h
  have:=cB h
  simp only[List.length_cons,this];omega
theorem oU {w:World}:∀ {rs:List Rq} {cs:List Value},bq w rs cs→∀v∈cs,v.oneCell'=true
 | [],cs,h,v,hv=>by have h:cs=[]:=h;subst h;cases hv
 | r::rs,cs,h,v,hv=>by
  obtain⟨a,c,b,d,cs',rfl,_,_,h⟩:=h
  simp only[List.mem_cons]at hv
  rcases hv with rfl | rfl | rfl | hv
  ·rfl
  ·rfl
  ·rfl
  ·exact oU h v hv
/-- A link is made still. -/
theorem xy {w:World} {t m:Nat} {E1 E2:List Ch} {c:Nm} {rb cap:Nat} {L1 L2:List Ln} {l:Ln} {p:Pq} {cs:List Value} (h:TM w t m (cn E1 E2 c rb cap L1 L2 l)) (hv:dY w (.agg cs.toArray) p):
  TPost w t m (cn E1 E2 c rb cap L1 L2 l) ((w.setCell ⟨l.b,4,none⟩ (.bool true)).setCells l.b 5 cs) (cn E1 E2 c rb cap L1 L2 {l with x:= {l.x with st:=true,po:=p}}):=by
 obtain⟨cs0,e0,hc⟩:=hv
 have e0:cs=cs0:=by injection e0 with e0;simpa using e0
 subst e0
 have hlen:cs.length=21:=cB hc
 obtain⟨⟨C,h1,h2,h3⟩,_⟩:=h.mid
 have hCs:C.size=27:=h2
 have u:Upd w l.b ((w.setCell ⟨l.b,4,none⟩ (.bool true)).setCells l.b 5 cs):=(Upd.cell w l.b 4 _).trans (lO cs _ l.b 5)
 have hk:Chg w ((w.setCell ⟨l.b,4,none⟩ (.bool true)).setCells l.b 5 cs) (· =l.b):=.upd (h.own _ (h.sub _ (List.mem_cons_self ..))) u
 refine h.setB u ⟨mO (C.setIfInBounds 4 (.bool true)) 5 cs,mP cs _ l.b 5 _ lkT (heap_setCell_same w l.b 4 C lkT _ h1),by rw[oT,Array.size_setIfInBounds];exact hCs,fun j q hq=> ?_⟩ rfl rfl rfl rfl
 rw[pR _ _ _ _ (by simp[hCs,hlen]),hlen]
 by_cases hj:5≤j∧j<5+21
 ·rw[if_pos hj]
  have hq2:(uo [p.rot.w.raw,p.rot.x.raw,p.rot.y.raw,p.rot.z.raw,p.pos.x.raw,p.pos.y.raw,p.pos.z.raw])[j - 5]? =some q:=by
   have e:lnQ c {l with x:= {l.x with st:=true,po:=p}}=[.val (.string c),.val (.string l.x.par),.val (.int .i64 l.x.fr),.val (.int .i64 l.x.un),.val (.bool true)]++(frs p.cs++ [.val (ptB l.g)]):=rfl
   rw[e,List.getElem?_append_right (by simp;omega)]at hq
   rw[List.getElem?_append_left (by show j - 5<21;omega)]at hq
   exact hq
  obtain⟨v,k1,k2,k3⟩:=sK hc hq2
  exact⟨v,k1,(q.ch _ _ _ v k2 hk (fun g hg=>absurd hg (k3 g))).1⟩
 ·rw[if_neg hj,Array.getElem?_setIfInBounds]
  by_cases h4:4=j
  ·subst h4
   rw[if_pos rfl,if_pos (by omega)]
   have:q= .val (.bool true):=by
    have e:(lnQ c {l with x:= {l.x with st:=true,po:=p}})[4]? =some (.val (.bool true)):=rfl
    rw[e]at hq;injection hq with hq;exact hq.symm
   subst this
   exact⟨_,rfl,rfl,bJ⟩
  ·rw[if_neg h4]
   have hq2:(lnQ c l)[j]? =some q:=by
    rw[←hq]
    unfold lnQ
    rcases Nat.lt_or_ge j 5 with h5 | h5
    ·match j,h5,h4 with
     | 0,_,_=>rfl
     | 1,_,_=>rfl
     | 2,_,_=>rfl
     | 3,_,_=>rfl
     | n+4,h5,h4=>exact absurd (show 4=n+4 by omega) h4
    ·obtain⟨i,rfl⟩:∃i,j=26+i:=⟨j - 26,by omega⟩
     have e1:∀x:Pq,(frs x.cs++ [Vp.val (ptB l.g)])[21+i]? =[Vp.val (ptB l.g)][i]? :=fun x=>by
      rw[List.getElem?_append_right (by show 21≤21+i;omega)]
      show [Vp.val (ptB l.g)][21+i - 21]? =_
      rw[Nat.add_sub_cancel_left]
     have e2:∀(a b c d e:Vp) (M:List Vp),(a::b::c::d::e::M)[26+i]? =M[21+i]? :=fun a b c d e M=>by
      rw[show 26+i=(21+i)+1+1+1+1+1 by omega];rfl
     rw[e2,e2,e1,e1]
   obtain⟨v,k1,k2⟩:=h3 j q hq2
   have hqm:q∈lnQ c l:=List.mem_of_getElem? hq2
   exact⟨v,k1,(q.ch _ _ _ v k2 hk (fun g hg=>absurd hg (qY q hqm _ _ _))).1⟩
end Go.Proofs.YtggfmklppkioeaaGreat
namespace Go.Proofs.YtggfmklppkioeaaGreat
set_option linter.unusedSimpArgs false
set_option linter.unusedVariables false
set_option maxRecDepth 100000
open Go.RowKit
theorem aF {P:Program} {ops:Array Oper} {rest:List Oper} {op:Oper} {a:Act} {w w':World} {v:Value} {Q:Exit→Act→World→Prop} (hgd:op.guard=none) (hr:(execOp a.eval op).run P w= .ok (.value v) w')
  (h:wpList P ops Q rest (a.put op.dst v) w'):wpList P ops Q (op::rest) a w:=
 wpList_plain hgd fun K hK=>by
  unfold Oper.wp
  rw[hr]
  exact hK _ _ h
theorem LnAt.frz {w:World} {c:Nm} {l:Ln} (h:LnAt w c l) (j:Nat):w.frozen? ⟨l.b,j,none⟩=false:=by
 obtain⟨⟨cs,h1,_⟩,_⟩:=h
 simp[World.frozen?,h1]
theorem LnAt.thr {w:World} {c:Nm} {l:Ln} (h:LnAt w c l) (v:Value):(w.setCell ⟨l.b,4,none⟩ v).there l.b 5 21:=fun j hj=>by
 obtain⟨⟨cs,h1,h2,_⟩,_⟩:=h
 have h2:cs.size=27:=h2
 have h3:=heap_setCell_same w l.b 4 cs lkT v h1
 refine⟨?_,by simp[World.frozen?,h3]⟩
 rw[ba h3,Array.getElem?_eq_getElem (by simp[h2];omega)];rfl
theorem opAt_E {w:World} {t m:Nat} {E:List Ch} {c:Nm} {l:Ln} (_:TM w t m E) (ho:opL (lsE E c)=some l):∃k,sA (trE E) c k l.x:=by
 obtain⟨hun,ch,hc,hk⟩:=lM ho
 have hq:=cZ.2 ⟨ch,(cK hc).1,l,List.mem_of_getElem? hk,rfl⟩
 rw[(cK hc).2]at hq
 obtain⟨k,hk1,hk2⟩:=List.getElem_of_mem hq
 exact⟨k,by rw[List.getElem?_eq_getElem hk1,hk2],hun⟩
set_option maxHeartbeats 1000000 in
theorem q_Fixed {w:World} {t m:Nat} {E:List Ch} {c:Nm} {cs:List Value} {p:Pq} {ok:Bool} (h:TM w t m E) (hE:TOk (trE E)) (hv:dY w (.agg cs.toArray) p) (hp:p.ok 1000)
  (hval:∀w',Below w.heap.size w w'→Calls Tryz.prog 122 #[.agg cs.toArray] w' fun e w''=>e= .returned (.bool ok)∧Below w'.heap.size w' w''):
  Calls Tryz.prog 70 #[ptB t,.string c,.agg cs.toArray] w fun e w'=>∃E' R' code,e= .returned (.int .i64 code)∧TPost w t m E w' E'∧REq (trE E') R'∧FixS ok p (trE E) c R' code:=by
 obtain⟨w1,hw1⟩:∃w1,w.alloc (.cells cs.toArray 39)=w1:=⟨_,rfl⟩
 have hb1:Below w.heap.size w w1:=by rw[←hw1];exact(Below.refl _ _).alloc (Nat.le_refl _) _
 have hs1:w1.heap.size=w.heap.size+1:=by rw[←hw1];exact asz _ _
 have hnew:w1.heap[w.heap.size]? =some (.cells cs.toArray 39 (0,0)):=by rw[←hw1];exact heap_alloc_new w _
 have h1:=h.below hb1
 have hop:=ke h1 c
 have hlen:cs.length=21:=by
  obtain⟨cs0,e0,hc⟩:=hv
  have e0:cs=cs0:=by injection e0 with e0;simpa using e0
  subst e0;exact cB hc
 have hcp:∀w',Below w.heap.size w w'→Calls Tryz.prog 97 #[.agg cs.toArray] w' fun e w''=>oo w' p e w'':=fun w' hb=>q_fcp _ p w' (hv.mono hb) (hp.mono (by decide))
 generalize hB:w.heap.size=B at *
 cases hl0:opL (lsE E c)with
 | none=>
  rw[hl0]at hop
  change Calls _ _ _ _ (fun e w'=>e= .returned (.pointer none)∧w'=w1)at hop
  have HP:=Lib.hid (show∃E' R' code,Ending.returned (.int .i64 18)= .returned (.int .i64 code)∧TPost w t m E w1 E'∧REq (trE E') R'∧FixS ok p (trE E) c R' code from⟨E,_,18,rfl,.refl h (by rw[hB];exact hb1),.refl _,.none (oO h hE hl0)⟩)
  clear h h1 hl0 hb1 hnew hval hcp hlen hv hp hE hs1
  go_enter Tryz.func70,Tryz.ntmps70
  go_wp2_with (go_at_call 124;refine hop.mono ?_;rintro e w' ⟨rfl,hw'⟩;obtain rfl:=hw'.symm)
  go_ret
  exact HP.out
 | some l=>
  rw[hl0]at hop
  change Calls _ _ _ _ (fun e w'=>e= .returned (ptB l.b)∧w'=w1)at hop
  obtain⟨k,hk⟩:=opAt_E h hl0
  obtain⟨hun,ch,hch,hkl⟩:=lM hl0
  have hL:=h1.ln hch (List.mem_of_getElem? hkl)
  have hst:=hL.st
  have htp:=hL.tp
  cases hx:l.x.st with
  | true=>
   rw[hx]at hst
   have HP:=Lib.hid (show∃E' R' code,Ending.returned (.int .i64 10)= .returned (.int .i64 code)∧TPost w t m E w1 E'∧REq (trE E') R'∧FixS ok p (trE E) c R' code from⟨E,_,10,rfl,.refl h (by rw[hB];exact hb1),.refl _,.state hk (.inl hx)⟩)
   clear h h1 hl0 hb1 hnew hval hcp hlen hv hp hE hs1 hk hun hch hkl hL htp hx
   generalize l.b=lb at *
   go_enter Tryz.func70,Tryz.ntmps70
   go_wp2_with (go_at_call 124;refine hop.mono ?_;rintro e w' ⟨rfl,hw'⟩;obtain rfl:=hw'.symm)
   go_ret
   exact HP.out
  | false=>
   rw[hx]at hst
   have hg64:l.x.tr.length≤64:=(hE.good _ (List.mem_of_getElem? hk.1)).len
   have hln:=q_Len l.x.tr hL.trk hg64
   have HB1:=Lib.hid hb1
   have HT:=Lib.hid h
   by_cases ht:l.x.tr=[]
   ·have hln0:Calls Tryz.prog 128 #[ptB l.g] w1 fun e w'=>e= .returned (.int .i64 0)∧Below w1.heap.size w1 w':=by rw[ht]at hln;exact hln
    have hrg:w1.rangeAt B 0 cs:=fun j v hv=>by rw[ba hnew,Nat.zero_add];simpa using hv
    have hsz:(Tryz.prog.info? 39).map (·.size)=some 21:=by kernel_rfl
    have hBlt:B<w1.heap.size:=by omega
    have HLD:=Lib.hid (show∀w',Below w1.heap.size w1 w'→w'.rangeAt B 0 cs from fun w' hb j v hv=>by rw[hb.cell (p:=⟨B,_,none⟩) hBlt];exact hrg j v hv)
    have HSZ:=Lib.hid (show(Tryz.prog.info? 39).map (·.size)=some cs.length by rw[hsz,hlen])
    have HV:=Lib.hid hval
    cases ok with
    | false=>
     have HP:=Lib.hid (show∀w2 w3,Below w1.heap.size w1 w2→Below w2.heap.size w2 w3→∃E' R' code,Ending.returned (.int .i64 4)= .returned (.int .i64 code)∧TPost w t m E w3 E'∧REq (trE E') R'∧FixS false p (trE E) c R' code from fun w2 w3 k2 k3=>⟨E,_,4,rfl,.refl h (by rw[hB];exact hb1.trans ((k2.trans (k3.mono k2.size)).mono (by omega))),.refl _,.range hk hx ht rfl⟩)
     clear h h1 hl0 hb1 hnew hval hcp hlen hv hp hE hk hun hch hkl hL hx hln ht hrg hsz hBlt hg64
     generalize l.b=lb at *
     generalize l.g=lg at *
     go_enter Tryz.func70,Tryz.ntmps70
     go_upto_region 8 with(first
      | (go_at_call 124;refine hop.mono ?_;rintro e w' ⟨rfl,hw'⟩;obtain rfl:=hw'.symm)
      | (go_at_call 128;refine hln0.mono ?_;rintro e w2 ⟨rfl,k2⟩;have hld2:=Lib.hid (HLD.out w2 k2);have hval2:=HV.out w2 (HB1.out.trans (k2.mono (by omega)));have K2:=Lib.hid k2;clear k2))
     refine wp_region_list ?_
     refine wpList_load_mid rfl _ _ rfl B 0 rfl cs _ hld2.out Tryz.underlying39 rfl HSZ.out ?_
     go_wp2_with (go_at_call 122;refine hval2.mono ?_;rintro e w3 ⟨rfl,k3⟩;have HQ:=Lib.hid (HP.out w2 w3 K2.out k3);clear k3)
     go_ret
     exact HQ.out
    | true=>
     have hk':=hkl
     obtain⟨E1,E2,L1,L2,hE2,_,hls⟩:=uv hch hk'
     have HF:=Lib.hid (show∀w4 cs4,Below w1.heap.size w1 w4→dY w4 (.agg cs4.toArray) p→w4.cell? ⟨l.b,4,none⟩=some (.bool false)∧w4.frozen? ⟨l.b,4,none⟩=false∧
       (w4.setCell ⟨l.b,4,none⟩ (.bool true)).there l.b 5 cs4.length∧(Tryz.prog.info? 39).map (·.size)=some cs4.toArray.size∧cs4.toArray.all (·.oneCell')=true∧
       ∃E' R' code,Ending.returned (.int .i64 0)= .returned (.int .i64 code)∧TPost w t m E ((w4.setCell ⟨l.b,4,none⟩ (.bool true)).setCells l.b 5 cs4) E'∧REq (trE E') R'∧FixS true p (trE E) c R' code from fun w4 cs4 kb hi=>by
      have hT4:TM w4 t m (cn E1 E2 c ch.rb ch.cap L1 L2 l):=by rw[←hE2];exact h1.below kb
      have hL4:=hT4.mid
      have hbb:Below B w w4:=hb1.trans (kb.mono (by omega))
      have hc4:∃cs0:List Value,Value.agg cs4.toArray= .agg cs0.toArray∧bq w4 _ cs0:=hi
      obtain⟨cs0,e0,hc4⟩:=hc4
      have e0:cs4=cs0:=by injection e0 with e0;simpa using e0
      subst e0
      refine⟨by have:=hL4.st;rwa [hx]at this,hL4.frz 4,by rw[show cs4.length=21 from cB hc4];exact hL4.thr _,by rw[hsz,List.size_toArray,show cs4.length=21 from cB hc4],all_oneCell_toArray (oU hc4),_,_,0,rfl,TPost.pre (by rw[hB];exact hbb) h (by rw[hE2];exact xy hT4 hi),.refl _,?_⟩
      have e2:trE E=(trE E1++L1.map fun l=>(c,l.x))++(c,l.x)::((L2.map fun l=>(c,l.x))++trE E2):=by rw[hE2,eU]
      rw[eU]
      exact .ok e2 hun hx ht rfl)
     have HC:=Lib.hid hcp
     clear h h1 hl0 hb1 hnew hval hcp hlen hv hp hE hk hun hch hkl hL hx hln ht hrg hsz hBlt hg64 hk' hE2 hls
     generalize l.b=lb at *
     generalize l.g=lg at *
     go_enter Tryz.func70,Tryz.ntmps70
     go_upto_region 8 with(first
      | (go_at_call 124;refine hop.mono ?_;rintro e w' ⟨rfl,hw'⟩;obtain rfl:=hw'.symm)
      | (go_at_call 128;refine hln0.mono ?_;rintro e w2 ⟨rfl,k2⟩;have hld2:=Lib.hid (HLD.out w2 k2);have hval2:=HV.out w2 (HB1.out.trans (k2.mono (by omega)));have K2:=Lib.hid k2;clear k2))
     refine wp_region_list ?_
     refine wpList_load_mid rfl _ _ rfl B 0 rfl cs _ hld2.out Tryz.underlying39 rfl HSZ.out ?_
     go_upto_region 10 with(go_at_call 122;refine hval2.mono ?_;rintro e w3 ⟨rfl,k3⟩;have K3:=Lib.hid (K2.out.trans (k3.mono K2.out.size));have hld3:=Lib.hid (HLD.out w3 K3.out);have hcp3:=HC.out w3 (HB1.out.trans (K3.out.mono (by omega)));clear k3)
     refine wp_region_list ?_
     refine aF rfl (v:=ptB lb) (w':=w3) (by rfl) ?_
     refine aF rfl (v:=ptB lb) (w':=w3) (by rfl) ?_
     refine wpList_load_mid rfl _ _ rfl B 0 rfl cs _ hld3.out Tryz.underlying39 rfl HSZ.out ?_
     refine wpList_plain rfl (fun K hK=> ?_)
     go_simp
     go_at_call 97
     refine hcp3.mono ?_
     rintro e w4 ⟨v,rfl,hv4,k4⟩
     obtain⟨cs4,rfl,hc4⟩:=hv4
     obtain⟨hst4,hfz4,hth,hsz4,hone,hq4⟩:=HF.out w4 cs4 (K3.out.trans (k4.mono K3.out.size)) ⟨cs4,rfl,hc4⟩
     have HQ:=Lib.hid hq4
     refine hK _ _ ?_
     clear hK K hc4 k4 hq4
     refine aF rfl (v:=ptB lb) (w':=w4) (by go_simp) ?_
     refine aF rfl (v:=.pointer (some ⟨lb,4,none⟩)) (w':=w4) (by go_simp) ?_
     refine wpList_plain rfl (fun K hK=> ?_)
     go_simp
     refine hK _ _ ?_
     clear hK K
     refine aF rfl (v:=ptB lb) (w':=w4.setCell ⟨lb,4,none⟩ (.bool true)) (by go_simp) ?_
     refine aF rfl (v:=.pointer (some ⟨lb,5,none⟩)) (w':=w4.setCell ⟨lb,4,none⟩ (.bool true)) (by go_simp) ?_
     refine wpList_store_mid rfl _ _ _ rfl lb 5 cs4.toArray rfl rfl (by simpa using hth) hsz4 hone ?_
     go_wp2
     go_ret
     exact HQ.out
   ·have HP:=Lib.hid (show∀w2,Below w1.heap.size w1 w2→∃E' R' code,Ending.returned (.int .i64 10)= .returned (.int .i64 code)∧TPost w t m E w2 E'∧REq (trE E') R'∧FixS ok p (trE E) c R' code from fun w2 k2=>⟨E,_,10,rfl,.refl h (by rw[hB];exact hb1.trans (k2.mono (by omega))),.refl _,.state hk (.inr ht)⟩)
    have hpos:(0:Int)<(l.x.tr.length:Int):=by have:=List.length_pos_iff.2 ht;omega
    change Calls Tryz.prog 128 #[ptB l.g] w1 _ at hln
    clear h h1 hl0 hb1 hnew hval hcp hlen hv hp hE hk hun hch hkl hL hx ht hg64 hs1
    generalize l.b=lb at *
    generalize l.g=lg at *
    generalize (l.x.tr.length:Int)=n at *
    go_enter Tryz.func70,Tryz.ntmps70
    go_wp2_with (first
     | (go_at_call 124;refine hop.mono ?_;rintro e w' ⟨rfl,hw'⟩;obtain rfl:=hw'.symm)
     | (go_at_call 128;refine hln.mono ?_;rintro e w2 ⟨rfl,k2⟩;have HQ:=Lib.hid (HP.out w2 k2);clear k2))
    go_ret
    exact HQ.out
end Go.Proofs.YtggfmklppkioeaaGreat
namespace Go.Proofs.YtggfmklppkioeaaGreat
set_option linter.unusedSimpArgs false
set_option linter.unusedVariables false
set_option maxRecDepth 100000
open Go.RowKit
open Classical
theorem aay {p q:Pq} {a b:Int} (h:(St.mk a p).raw=(St.mk b q).raw):p=q:=by
 have e:∀x y:Fq,x.raw=y.raw→x=y:=fun x y h=>by
  obtain⟨s,p,q⟩:=x
  obtain⟨s',p',q'⟩:=y
  simp only[Fq.raw,Rq.mk.injEq]at h
  obtain⟨h1,_,h2,_,h3⟩:=h
  subst h1;subst h2;subst h3;rfl
 simp only[St.raw,RSt.mk.injEq]at h
 obtain⟨_,h0,h1,h2,h3,h4,h5,h6⟩:=h
 obtain⟨⟨w,x,y,z⟩,⟨u,v,t⟩⟩:=p
 obtain⟨⟨w',x',y',z'⟩,⟨u',v',t'⟩⟩:=q
 simp only at h0 h1 h2 h3 h4 h5 h6
 rw[e _ _ h0,e _ _ h1,e _ _ h2,e _ _ h3,e _ _ h4,e _ _ h5,e _ _ h6]
theorem vN {p:Pq} {a:Int} (h:p.ok 2):(St.mk a p).raw.two:=fun r hr=>by
 simp only[RSt.rs,St.raw,List.mem_cons,List.not_mem_nil,or_false]at hr
 rcases hr with rfl | rfl | rfl | rfl | rfl | rfl | rfl
 ·exact⟨h.rot.w.p,h.rot.w.q⟩
 ·exact⟨h.rot.x.p,h.rot.x.q⟩
 ·exact⟨h.rot.y.p,h.rot.y.q⟩
 ·exact⟨h.rot.z.p,h.rot.z.q⟩
 ·exact⟨h.pos.x.p,h.pos.x.q⟩
 ·exact⟨h.pos.y.p,h.pos.y.q⟩
 ·exact⟨h.pos.z.p,h.pos.z.q⟩
theorem q_Val {w:World} {v:Value} {p:Pq} (i:dY w v p) (h:p.ok 2):Calls Tryz.prog 122 #[v] w fun e w'=>e= .returned (.bool (decide p.good))∧Below w.heap.size w w':=by
 by_cases g:p.good
 ·rw[decide_eq_true g]
  exact pJ v p w i (h.mono (by decide)) g
 ·rw[decide_eq_false g]
  have k:=St.sm (s:=⟨0,p⟩) h
  have:=oE v _ _ _ _ _ _ _ w i k.h0.1 k.h0.2 k.h1.1 k.h1.2 k.h2.1 k.h2.2 k.h3.1 k.h3.2 k.h4.1 k.h4.2 k.h5.1 k.h5.2 k.h6.1 k.h6.2
  have e:qQ p.rot.w.raw p.rot.x.raw p.rot.y.raw p.rot.z.raw p.pos.x.raw p.pos.y.raw p.pos.z.raw=false:=Bool.eq_false_iff.2 (fun e=>by
   obtain⟨s,h1,h2⟩:=sw (x:=(St.mk 0 p).raw) e
   exact g (aay (b:=s.tm) h1▸h2))
  rw[e]at this
  exact this
/-- What adding a stamp makes of a track. -/
noncomputable abbrev addP (a:Int) (p:Pq) (S:List St):List St×Int:=xi S (St.mk a p).raw
theorem q_SetP {w:World} {t m:Nat} {E:List Ch} {c:Nm} {a:Int} {p:Pq} {cs:List Value} (h:TM w t m E) (hE:TOk (trE E)) (hv:dY w (.agg cs.toArray) p) (h2:p.ok 2):
  Calls Tryz.prog 69 #[ptB t,.string c,stV a cs] w fun e w'=>∃E' R' code,e= .returned (.int .i64 code)∧TPost w t m E w' E'∧REq (trE E') R'∧SetS (addP a p) (trE E) c a R' code:=by
 have hv':=hv
 obtain⟨cs0,e0,hc⟩:=hv
 have e0:cs=cs0:=by injection e0 with e0;simpa using e0
 subst e0
 refine q_Set h (cB hc) _ (fun w' g sl S hS hb ht=> ?_)
 obtain⟨l,hl,rfl⟩:=hS
 have hg:GoodS l.x.tr:=by
  unfold lsE at hl
  cases hch:chE E c with
  | none=>rw[hch]at hl;cases hl
  | some ch=>rw[hch]at hl;exact hE.good _ (cZ.2 ⟨ch,(cK hch).1,l,hl,rfl⟩)
 exact q_AddR l.x.tr (St.mk a p).raw (stV a cs) ht ⟨cs,rfl,bq.mono hc hb⟩ (vN h2) hg
theorem q_FixP {w:World} {t m:Nat} {E:List Ch} {c:Nm} {p:Pq} {cs:List Value} (h:TM w t m E) (hE:TOk (trE E)) (hv:dY w (.agg cs.toArray) p) (h2:p.ok 2):
  Calls Tryz.prog 70 #[ptB t,.string c,.agg cs.toArray] w fun e w'=>∃E' R' code,e= .returned (.int .i64 code)∧TPost w t m E w' E'∧REq (trE E') R'∧FixS (decide p.good) p (trE E) c R' code:=
 q_Fixed h hE hv (h2.mono (by decide)) (fun _ hb=>q_Val (hv.mono hb) h2)
section
variable {R R':Tr} {c p:Nm} {a u e:Int} {q:Pq} {isN:Nm→Prop}
theorem DetS.tok (hR:TOk R) (h:DetS R c u R' e):TOk R':=by
 cases h with
 | ok e h h1 h2=>subst e;exact hR.det h h1 h2
 | _=>exact hR
theorem SetS.tok (hR:TOk R) (h2:q.ok 2) (h:SetS (addP a q) R c a R' e):TOk R':=by
 cases h with
 | ok e h hs=>
  subst e
  rename_i A B x
  have hm:(c,x)∈A++(c,x)::B:=List.mem_append.2 (.inr (List.mem_cons_self ..))
  exact hR.same (c:=c) rfl rfl rfl (xj (hR.good _ hm) (vN h2)) (fun hst=>by simp only at hst;rw[hs]at hst;cases hst)
 | _=>exact hR
theorem FixS.tok (hR:TOk R) (h2:q.ok 2) (h:FixS (decide q.good) q R c R' e):TOk R':=by
 cases h with
 | ok e h hs ht hp=>
  subst e
  rename_i A B x
  have hm:(c,x)∈A++(c,x)::B:=List.mem_append.2 (.inr (List.mem_cons_self ..))
  exact hR.same (c:=c) rfl rfl rfl (hR.good _ hm) (fun _=>⟨of_decide_eq_true hp,h2⟩)
 | _=>exact hR
theorem DetS.tsm (hR:TSm R) (h:DetS R c u R' e):TSm R':=by
 cases h with
 | ok e h h1 h2=>subst e;exact hR.mid rfl
 | _=>exact hR
theorem SetS.tsm {add:List St→List St×Int} (hR:TSm R) (h:SetS add R c a R' e):TSm R':=by
 cases h with
 | ok e h hs=>subst e;exact hR.mid rfl
 | _=>exact hR
theorem FixS.tsm {ok:Bool} (hR:TSm R) (h:FixS ok q R c R' e):TSm R':=by
 cases h with
 | ok e h hs ht hp=>subst e;exact hR.mid rfl
 | _=>exact hR
/-- The names in a tree. -/
def o6 (isN:Nm→Prop) (R:Tr):Prop:=∀q∈R,isN q.1∧isN q.2.par
theorem o6.mid {A B:Tr} {x x':Lk} (h:o6 isN (A++(c,x)::B)) (e:x'.par=x.par):o6 isN (A++(c,x')::B):=fun q hq=>by
 rcases List.mem_append.1 hq with h1 | h1
 ·exact h q (List.mem_append.2 (.inl h1))
 ·rcases List.mem_cons.1 h1 with rfl | h1
  ·have:=h (c,x) (List.mem_append.2 (.inr (List.mem_cons_self ..)))
   exact⟨this.1,by rw[e];exact this.2⟩
  ·exact h q (List.mem_append.2 (.inr (List.mem_cons_of_mem _ h1)))
theorem o6.att {f:Int} (h:o6 isN R) (hc:isN c) (hp:isN p):o6 isN (fD R c p f):=fun q hq=>by
 rcases List.mem_append.1 hq with h1 | h1
 ·exact h q h1
 ·simp only[List.mem_singleton]at h1;subst h1;exact⟨hc,hp⟩
theorem o6.req (h:o6 isN R) (e:REq R R'):o6 isN R':=fun q hq=>h q ((e.mem q).2 hq)
/-- A step: 0 Attach, 1 Detach, 2 Set, 3 Fixed. -/
structure Ax where
 k:Nat
 c:Nm
 p:Nm
 a:Int
 q:Pq
def DoS (R:Tr) (s:Ax) (R':Tr) (e:Int):Prop:=
 if s.k=1 then DetS R s.c s.a R' e else if s.k=2 then SetS (addP s.a s.q) R s.c s.a R' e else if s.k=3 then FixS (decide s.q.good) s.q R s.c R' e else AttS db R s.c s.p s.a R' e
/-- What is always true of a tree. -/
structure Sane (R:Tr):Prop where
 ok:TOk R
 sm:TSm R
 nm:o6 db R
theorem Sane.nil:Sane []:=⟨.nil,.nil,fun _ h=>by cases h⟩
theorem Sane.req (h:Sane R) (e:REq R R'):Sane R':=⟨h.ok.of_req e,h.sm.of_req e,h.nm.req e⟩
theorem DoS.sane {s:Ax} (h:Sane R) (h2:s.q.ok 2) (d:DoS R s R' e):Sane R':=by
 unfold DoS at d
 split at d
 ·refine⟨d.tok h.ok,d.tsm h.sm,?_⟩
  cases d with
  | ok e _ _ _=>have:=h.nm;rw[e]at this;exact this.mid rfl
  | _=>exact h.nm
 ·split at d
  ·refine⟨d.tok h.ok h2,d.tsm h.sm,?_⟩
   cases d with
   | ok e _ _=>have:=h.nm;rw[e]at this;exact this.mid rfl
   | _=>exact h.nm
  ·split at d
   ·refine⟨d.tok h.ok h2,d.tsm h.sm,?_⟩
    cases d with
    | ok e _ _ _ _=>have:=h.nm;rw[e]at this;exact this.mid rfl
    | _=>exact h.nm
   ·refine⟨d.tok h.ok,d.tsm h.sm,?_⟩
    cases d with
    | ok hn _ _ _ _ _ _ _ _=>exact h.nm.att hn.1 hn.2
    | _=>exact h.nm
end
/-- A tree of the call's own. -/
structure TInv (w0 w:World) (t m:Nat) (E:List Ch):Prop where
 tm:TM w t m E
 sane:Sane (trE E)
 own:∀g∈fpT t m E,w0.heap.size≤g
 bel:Below w0.heap.size w0 w
theorem TPost.bel {w0 w w':World} {t m:Nat} {E E':List Ch} (h:TPost w t m E w' E') (o:∀g∈fpT t m E,w0.heap.size≤g) (b:Below w0.heap.size w0 w):Below w0.heap.size w0 w':=
 ⟨h.kp.os.trans b.os,h.kp.tape.trans b.tape,h.kp.output.trans b.output,Nat.le_trans b.size h.kp.size,fun k hk=>(h.kp.block k (Nat.lt_of_lt_of_le hk b.size) (fun hm=>by have:=o k hm;omega)).trans (b.block k hk)⟩
theorem TInv.next {w0 w w':World} {t m:Nat} {E E':List Ch} {R':Tr} {s:Ax} {e:Int} (h:TInv w0 w t m E) (k:TPost w t m E w' E') (r:REq (trE E') R') (d:DoS (trE E) s R' e) (h2:s.q.ok 2):TInv w0 w' t m E':=
 ⟨k.tm,(d.sane h.sane h2).req r.symm,fun g hg=>(k.fp g hg).elim (h.own g) (fun h1=>Nat.le_trans h.bel.size h1),k.bel h.own h.bel⟩
theorem TInv.below {w0 w w':World} {t m:Nat} {E:List Ch} (h:TInv w0 w t m E) (b:Below w.heap.size w w'):TInv w0 w' t m E:=⟨h.tm.below b,h.sane,h.own,h.bel.trans (b.mono h.bel.size)⟩
end Go.Proofs.YtggfmklppkioeaaGreat
namespace Go.Proofs.YtggfmklppkioeaaGreat
set_option linter.unusedSimpArgs false
set_option linter.unusedVariables false
set_option maxRecDepth 100000
open Go.RowKit
open Go.ChangeShapes Go.WideShapes Go.ChangeAt Go.RowKit
/-- A step. -/
structure Stp where
 k:Int
 c:Int
 p:Int
 a:Int
 x:Int
 u:Int
def Stp.cs (s:Stp):List Value:=[.int .u8 s.k,.int .u8 s.c,.int .u8 s.p,.int .i16 s.a,.int .i8 s.x,.int .u8 s.u]
abbrev Stp.val (s:Stp):Value:=.agg s.cs.toArray
structure Stp.Ok (s:Stp):Prop where
 k:0≤s.k∧s.k<256
 c:0≤s.c∧s.c<256
 p:0≤s.p∧s.p<256
 a: -32768≤s.a∧s.a<32768
 x: -128≤s.x∧s.x<128
 u:0≤s.u∧s.u<256
/-- A row of steps. -/
def d9 (w:World) (v:Value) (R:List Stp):Prop:=(R=[]∧∃a c,v= .slice a 0 c)∨∃b o c,v= .slice (some ⟨b,o,none⟩) R.length c∧R≠ []∧b<w.heap.size∧∀i s,R[i]? =some s→∀j u,s.cs[j]? =some u→w.cell? ⟨b,o+(i*6+j),none⟩=some u
theorem d9.below {w w':World} {v:Value} {R:List Stp} (h:d9 w v R) (k:Below w.heap.size w w'):d9 w' v R:=
 h.imp id (fun⟨b,o,c,e,hn,hb,hq⟩=>⟨b,o,c,e,hn,Nat.lt_of_lt_of_le hb k.size,fun i s hi j u hu=>by rw[k.cell (p:=⟨b,_,none⟩) hb];exact hq i s hi j u hu⟩)
section
variable {H:Type} {enc:TypeId×Value→H} {W:World}
theorem sL {t:Int} (h:(Lit.int .u8 t).wf=true):0≤t∧t<256:=by
 simp[Lit.wf,IntKind.min,IntKind.max,IntKind.wrap,IntKind.bits,IntKind.signed]at h;omega
theorem i16_wf {t:Int} (h:(Lit.int .i16 t).wf=true): -32768≤t∧t<32768:=by
 simp[Lit.wf,IntKind.min,IntKind.max,IntKind.wrap,IntKind.bits,IntKind.signed]at h;omega
theorem i8_wf {t:Int} (h:(Lit.int .i8 t).wf=true): -128≤t∧t<128:=by
 simp[Lit.wf,IntKind.min,IntKind.max,IntKind.wrap,IntKind.bits,IntKind.signed]at h;omega
theorem sM {fuel:Nat} {l:List Value} {x:DataW H×List MemPlace} (hl:l.length=6) (hf:DataW.trod enc Tryz.prog W 0 (fun _=>true) true fuel 67 l=some x):∃s:Stp,s.Ok∧l=s.cs:=by
 have h8:Tryz.prog.cellsOf 5=1:=by kernel_rfl
 have h16:Tryz.prog.cellsOf 49=1:=by kernel_rfl
 have hi8:Tryz.prog.cellsOf 65=1:=by kernel_rfl
 obtain⟨xs,n,_,hx,_,hlen,hg⟩:=DataW.trod_struct Tryz.underlying67 hf
 match xs,hlen with
 | [y0,y1,y2,y3,y4,y5],_=>
  have k0:=hg 0 _ rfl
  have k1:=hg 1 _ rfl
  have k2:=hg 2 _ rfl
  have k3:=hg 3 _ rfl
  have k4:=hg 4 _ rfl
  have k5:=hg 5 _ rfl
  simp[Value.cells,h8,h16,hi8]at k0 k1 k2 k3 k4 k5
  match l,hl with
  | [u0,u1,u2,u3,u4,u5],_=>
   simp at k0 k1 k2 k3 k4 k5
   obtain⟨t0,e0,f0⟩:=DataW.trod_int Tryz.underlying5 k0
   obtain⟨t1,e1,f1⟩:=DataW.trod_int Tryz.underlying5 k1
   obtain⟨t2,e2,f2⟩:=DataW.trod_int Tryz.underlying5 k2
   obtain⟨t3,e3,f3⟩:=DataW.trod_int Tryz.underlying49 k3
   obtain⟨t4,e4,f4⟩:=DataW.trod_int Tryz.underlying65 k4
   obtain⟨t5,e5,f5⟩:=DataW.trod_int Tryz.underlying5 k5
   simp at e0 e1 e2 e3 e4 e5
   subst e0 e1 e2 e3 e4 e5
   exact⟨⟨t0,t1,t2,t3,t4,t5⟩,⟨sL f0.2,sL f1.2,sL f2.2,i16_wf f3.2,i8_wf f4.2,sL f5.2⟩,rfl⟩
theorem xz {v:Value} {d:DataW H} {p:List MemPlace} {base:Nat} (hval:Value.okWide Tryz.prog W .any base 67 v) (h:DataW.Trod enc Tryz.prog W 0 (fun _=>true) true 67 v d p):∃s:Stp,s.Ok∧v=s.val:=by
 obtain⟨cs,rfl,hcs⟩:=okWide_struct Tryz.underlying67 hval
 have hc:Tryz.prog.cellsOf 67=6:=by kernel_rfl
 rw[hc]at hcs
 obtain⟨l⟩:=cs
 have hl:l.length=6:=by simpa using hcs
 obtain⟨fuel,hf⟩:=h
 obtain⟨s,hs,rfl⟩:=sM hl hf
 exact⟨s,hs,rfl⟩
theorem kg {v:Value} {d:DataW H} {p:List MemPlace} {base:Nat} (hval:Value.okWide Tryz.prog W .any base 62 v) (h:DataW.Trod enc Tryz.prog W 0 (fun _=>true) true 62 v d p):
  ∃R:List Stp,(∀s∈R,s.Ok)∧d9 W v R:=by
 obtain⟨a0,len0,cap0,rfl⟩:=okWide_slice Tryz.underlying62 hval
 obtain⟨fuel,hf⟩:=h
 have hc6:Tryz.prog.cellsOf 67=6:=by kernel_rfl
 rcases Go.Deep.open_slice Tryz.underlying62 hf with⟨hcs,_⟩ | ⟨a,len,cap,m,n,D,Pl,hcs,_,hlc,_,hm,_,hx⟩
 ·simp[Value.cells]at hcs
  obtain⟨rfl,rfl,rfl⟩:=hcs
  exact⟨[],fun _ h=>(by cases h),.inl ⟨rfl,_,_,rfl⟩⟩
 ·simp[Value.cells]at hcs
  obtain⟨rfl,rfl,rfl⟩:=hcs
  have hlm:len0≤m:=by rw[hm];split<;>omega
  by_cases h0:len0=0
  ·subst h0
   exact⟨[],fun _ h=>(by cases h),.inl ⟨rfl,_,_,rfl⟩⟩
  ·have hcells:∀i,i<len0→∃cs',(∀j,j<6→W.cell? ((a.add (i*6)).add j)=cs'[j]?)∧cs'.length=6∧DataW.trod enc Tryz.prog W 0 (fun _=>true) true n 67 cs'=some (D i,Pl i):=fun i hi=>by
    obtain⟨cs',h1,h2⟩:=hx i (by omega)
    rw[hc6]at h1
    obtain⟨_,hl,hcell⟩:=World.cells?_some h1
    exact⟨cs',hcell,hl,h2⟩
   obtain⟨b,o,spot⟩:=a
   have hspot:spot=none:=by
    obtain⟨cs',h1,h2,_⟩:=hcells 0 (by omega)
    have h3:=h1 0 (by omega)
    rw[List.getElem?_eq_getElem (show 0<cs'.length by omega)]at h3
    have h4:=World.cell?_spot h3
    simpa [Addr.add]using h4
   subst hspot
   simp only[ck]at hcells
   have hst:∀i,∃s:Stp,i<len0→s.Ok∧∀j u,s.cs[j]? =some u→W.cell? ⟨b,o+(i*6+j),none⟩=some u:=by
    intro i
    by_cases hi:i<len0
    ·obtain⟨cs',hcell,hl,h2⟩:=hcells i hi
     obtain⟨s,hs,rfl⟩:=sM hl h2
     refine⟨s,fun _=>⟨hs,fun j u hu=> ?_⟩⟩
     have hj:j<6:=by have:=(List.getElem?_eq_some_iff.1 hu).1;exact this
     rw[←Nat.add_assoc,hcell j hj];exact hu
    ·exact⟨⟨0,0,0,0,0,0⟩,fun h=>absurd h hi⟩
   obtain⟨f,hf'⟩:=Classical.axiomOfChoice hst
   have hlen:((List.range len0).map f).length=len0:=by simp
   have hget:∀i s,((List.range len0).map f)[i]? =some s→i<len0∧s=f i:=fun i s hi=>by
    have hi2:i<len0:=by have:=(List.getElem?_eq_some_iff.1 hi).1;rw[hlen]at this;exact this
    rw[List.getElem?_map,List.getElem?_range hi2]at hi
    exact⟨hi2,by simpa using hi.symm⟩
   refine⟨(List.range len0).map f,fun s hs=> ?_,.inr ⟨b,o,cap0,by rw[hlen],fun e=> ?_,?_,fun i s hi=> ?_⟩⟩
   ·obtain⟨i,hi,e⟩:=List.getElem_of_mem hs
    obtain⟨h1,h2⟩:=hget i s (by rw[List.getElem?_eq_getElem hi,e])
    subst h2;exact(hf' i h1).1
   ·rw[e]at hlen;exact h0 hlen.symm
   ·obtain⟨cs',h1,h2,_⟩:=hcells 0 (by omega)
    have h3:=h1 0 (by omega)
    rw[List.getElem?_eq_getElem (show 0<cs'.length by omega)]at h3
    unfold World.cell? at h3
    split at h3
    ·rename_i hh
     exact(Array.getElem?_eq_some_iff.1 hh).1
    ·cases h3
   ·obtain⟨h1,h2⟩:=hget i s hi
    subst h2;exact(hf' i h1).2
end
end Go.Proofs.YtggfmklppkioeaaGreat
namespace Go.Proofs.YtggfmklppkioeaaGreat
set_option linter.unusedSimpArgs false
set_option linter.unusedVariables false
set_option maxRecDepth 100000
open Go.RowKit
def gQ:ByteArray:=ByteArray.mk #[102,103,104,105,106,107,108,109,110,111,112,113,114,115,116,117,118,119,120,121,122,97,98,99,100,101,65,66,67,68,69,70]
def bi (n:Int):Nm:=if n % 31=30 then pN else gQ.extract (n % 31).toNat ((n % 31).toNat+1)
theorem tab_one:∀k:Nat,k<30→db (gQ.extract k (k+1)):=by
 have h:∀k:Fin 30,∃c:UInt8,((97≤c.toNat∧c.toNat≤122)∨(65≤c.toNat∧c.toNat≤90))∧(gQ.extract k (k+1)).data.toList=[c]:=by
  intro k
  refine⟨gQ.data[k.1]?.getD 0,?_⟩
  revert k
  decide
 intro k hk
 obtain⟨c,h1,h2⟩:=h ⟨k,hk⟩
 refine⟨c,h1,?_⟩
 have h3:(gQ.extract k (k+1)).data=#[c]:=by rw[←Array.toList_inj];exact h2
 cases hx:gQ.extract k (k+1)with
 | mk d=>rw[hx]at h3;simp only at h3;rw[h3]
theorem pS (n:Int) (h:0≤n):Nam (bi n):=by
 unfold bi
 split
 ·exact .inr rfl
 ·exact .inl (tab_one _ (by omega))
theorem run_slS {t:TypeId} {s:ByteArray} {c u:Int} {w:World} (ht:qt Tryz.prog t=true) (h0:0≤c) (h1:c≤u) (h2:u≤s.size):(Instr.slice t (.string s) (some (.int .i64 c)) (some (.int .i64 u)) none).run Tryz.prog w= .ok (.string (s.extract c.toNat u.toNat)) w:=by
 have h3:0≤u:=by omega
 have h4:c≤(u.toNat:Int):=by omega
 have h5:c≤max u 0:=by omega
 simp[Instr.slice,Instr.sliceBounds,Instr.sliceBound,asIntOf,Sem.run_bind,run_underlying (wv ht),Result.andThen,h0,h1,h2,h3,h4,h5]
theorem mo {w:World} (n:Int) (h:0≤n∧n<256):Calls Tryz.prog 39 #[.int .u8 n] w fun e w'=>e= .returned (.string (bi n))∧w'=w:=by
 obtain⟨m,hm⟩:∃m,m=n.tmod 31:=⟨_,rfl⟩
 have hm2:n % 31=m:=by rw[hm,Int.tmod_eq_emod_of_nonneg h.1]
 have hm0:0≤m:=by omega
 have hm1:m<31:=by omega
 have hm':=hm.symm
 have HN:=Lib.hid (show bi n=if m=30 then pN else gQ.extract m.toNat (m.toNat+1)by unfold bi;rw[hm2])
 clear hm hm2
 by_cases c:m=30
 ·have HQ:=Lib.hid (show bi n=pN by rw[HN.out,if_pos c])
  subst c
  clear HN h
  go_enter Tryz.func39,Tryz.ntmps39
  go_wp2
  go_ret
  rw[HQ.out]
  exact⟨rfl,rfl⟩
 ·have HQ:=Lib.hid (show bi n=gQ.extract m.toNat (m.toNat+1)by rw[HN.out,if_neg c])
  have c':(m==30)=false:=beq_eq_false_iff_ne.2 c
  have hm3:m+1≤32:=by omega
  have ht:(m+1).toNat=m.toNat+1:=by omega
  have hsl:(Instr.slice 9 (.string (ByteArray.mk #[102,103,104,105,106,107,108,109,110,111,112,113,114,115,116,117,118,119,120,121,122,97,98,99,100,101,65,66,67,68,69,70])) (some (.int .i64 m)) (some (.int .i64 (m+1))) none).run Tryz.prog w= .ok (.string (gQ.extract m.toNat (m.toNat+1))) w:=by
   rw[←ht]
   exact run_slS (s:=gQ) (by kernel_rfl) hm0 (by omega) (by have:(gQ.size:Int)=32:=rfl;omega)
  clear HN c h hm3 ht
  go_enter Tryz.func39,Tryz.ntmps39
  go_wp2
  go_ret
  rw[HQ.out]
  exact⟨rfl,rfl⟩
/-! ### No tree. -/
section
variable {w:World} {c p:Nm} {a:Int} {v:Value}
abbrev o7:Value:=.pointer none
theorem n_at:Calls Tryz.prog 90 #[o7,.string c,.int .i64 a] w fun e w'=>e= .returned (.pointer none)∧w'=w:=by
 go_enter Tryz.func90,Tryz.ntmps90
 go_wp2
 go_ret
 exact⟨rfl,rfl⟩
theorem n_Parent:Calls Tryz.prog 34 #[o7,.string c,.int .i64 a] w fun e w'=>e= .returned (.tuple #[.string ByteArray.empty,.bool false])∧w'=w:=by
 go_enter Tryz.func34,Tryz.ntmps34
 go_wp2_with (go_at_call 90;refine n_at.mono ?_;rintro e w' ⟨rfl,hw'⟩;obtain rfl:=hw'.symm)
 go_ret2
 exact⟨rfl,rfl⟩
theorem n_Span:Calls Tryz.prog 43 #[o7,.string c,.int .i64 a] w fun e w'=>e= .returned (.tuple #[.int .i64 0,.int .i64 0,.bool false])∧w'=w:=by
 go_enter Tryz.func43,Tryz.ntmps43
 go_wp2_with (go_at_call 90;refine n_at.mono ?_;rintro e w' ⟨rfl,hw'⟩;obtain rfl:=hw'.symm)
 go_ret3
 exact⟨rfl,rfl⟩
theorem n_Root:Calls Tryz.prog 36 #[o7,.string c,.int .i64 a] w fun e w'=>e= .returned (.string ByteArray.empty)∧w'=w:=by
 go_enter Tryz.func36,Tryz.ntmps36
 go_wp2
 go_ret
 exact⟨rfl,rfl⟩
theorem n_Frames:Calls Tryz.prog 33 #[o7] w fun e w'=>e= .returned (.slice none 0 0)∧w'=w:=by
 go_enter Tryz.func33,Tryz.ntmps33
 go_wp2
 go_ret
 exact⟨rfl,rfl⟩
theorem n_Links:Calls Tryz.prog 35 #[o7] w fun e w'=>e= .returned (.slice none 0 0)∧w'=w:=by
 go_enter Tryz.func35,Tryz.ntmps35
 go_wp2
 go_ret
 exact⟨rfl,rfl⟩
theorem n_Attach:Calls Tryz.prog 67 #[o7,.string c,.string p,.int .i64 a] w fun e w'=>e= .returned (.int .i64 6)∧w'=w:=by
 go_enter Tryz.func67,Tryz.ntmps67
 go_wp2
 go_ret
 exact⟨rfl,rfl⟩
theorem n_Detach:Calls Tryz.prog 68 #[o7,.string c,.int .i64 a] w fun e w'=>e= .returned (.int .i64 6)∧w'=w:=by
 go_enter Tryz.func68,Tryz.ntmps68
 go_wp2
 go_ret
 exact⟨rfl,rfl⟩
theorem n_Set {cs:List Value}:Calls Tryz.prog 69 #[o7,.string c,stV a cs] w fun e w'=>e= .returned (.int .i64 6)∧Below w.heap.size w w':=by
 have hb:=(Below.refl w.heap.size w).alloc (Nat.le_refl _) (.cells (.int .i64 a::cs).toArray 120)
 go_enter Tryz.func69,Tryz.ntmps69
 go_wp2
 go_ret
 exact⟨rfl,hb⟩
theorem n_Fixed {cs:List Value}:Calls Tryz.prog 70 #[o7,.string c,.agg cs.toArray] w fun e w'=>e= .returned (.int .i64 6)∧Below w.heap.size w w':=by
 have hb:=(Below.refl w.heap.size w).alloc (Nat.le_refl _) (.cells cs.toArray 39)
 go_enter Tryz.func70,Tryz.ntmps70
 go_wp2
 go_ret
 exact⟨rfl,hb⟩
end
end Go.Proofs.YtggfmklppkioeaaGreat
namespace Go.Proofs.YtggfmklppkioeaaGreat
set_option linter.unusedSimpArgs false
set_option linter.unusedVariables false
set_option maxRecDepth 100000
open Go.RowKit
def uD:List Leaf:=[.b false,.sl0,.sl0,.b false,.sl0,.sl0,.b false,.sl0,.sl0,.b false,.sl0,.sl0,.b false,.sl0,.sl0,.b false,.sl0,.sl0,.b false,.sl0,.sl0]
def nw:List Value:=[.bool false,.slice none 0 0,.slice none 0 0,.bool false,.slice none 0 0,.slice none 0 0,.bool false,.slice none 0 0,.slice none 0 0,.bool false,.slice none 0 0,.slice none 0 0,.bool false,.slice none 0 0,.slice none 0 0,.bool false,.slice none 0 0,.slice none 0 0,.bool false,.slice none 0 0,.slice none 0 0]
theorem zero21_h {ρ:Rho} {B:Blk} {w:World}:az ρ B w uD nw:=⟨rfl,rfl,rfl,rfl,rfl,rfl,rfl,rfl,rfl,rfl,rfl,rfl,rfl,rfl,rfl,rfl,rfl,rfl,rfl,rfl,rfl,trivial⟩
theorem xA {ρ:Rho} {B:Blk} {w:World} {cs:List Value} (h:az ρ B w uD cs):cs=nw:=by
 have hl:=h.len
 match cs,hl,h with
 | [c0,c1,c2,c3,c4,c5,c6,c7,c8,c9,c10,c11,c12,c13,c14,c15,c16,c17,c18,c19,c20],_,h=>
  obtain⟨h0,h1,h2,h3,h4,h5,h6,h7,h8,h9,h10,h11,h12,h13,h14,h15,h16,h17,h18,h19,h20,_⟩:=h
  have e0:c0= .bool false:=h0
  subst e0
  have e1:c1= .slice none 0 0:=h1
  subst e1
  have e2:c2= .slice none 0 0:=h2
  subst e2
  have e3:c3= .bool false:=h3
  subst e3
  have e4:c4= .slice none 0 0:=h4
  subst e4
  have e5:c5= .slice none 0 0:=h5
  subst e5
  have e6:c6= .bool false:=h6
  subst e6
  have e7:c7= .slice none 0 0:=h7
  subst e7
  have e8:c8= .slice none 0 0:=h8
  subst e8
  have e9:c9= .bool false:=h9
  subst e9
  have e10:c10= .slice none 0 0:=h10
  subst e10
  have e11:c11= .slice none 0 0:=h11
  subst e11
  have e12:c12= .bool false:=h12
  subst e12
  have e13:c13= .slice none 0 0:=h13
  subst e13
  have e14:c14= .slice none 0 0:=h14
  subst e14
  have e15:c15= .bool false:=h15
  subst e15
  have e16:c16= .slice none 0 0:=h16
  subst e16
  have e17:c17= .slice none 0 0:=h17
  subst e17
  have e18:c18= .bool false:=h18
  subst e18
  have e19:c19= .slice none 0 0:=h19
  subst e19
  have e20:c20= .slice none 0 0:=h20
  subst e20
  rfl
def xn_EdgeX (c:ByteArray) (a:Int):List Fq:=[]
theorem n_Edge {w:World} (c:ByteArray) (a:Int):
  Calls Tryz.prog 41 #[.pointer none,.string c,.int .i64 a] w fun e w'=>e= .returned (.tuple #[.agg nw.toArray,.int .i64 6])∧Below w.heap.size w w':=by
 refine(bT (ρ:=frs (xn_EdgeX c a)++([.val (.string c),.val (.int .i64 a)]:List Vp)) (w:=w) (fuel:=300) (args:=[.one (.nilp),.one (.ref 0),.one (.ref 1)]) (vs:=[.pointer none,.string c,.int .i64 a]) (r:=.tup [.agg [.b false,.sl0,.sl0,.b false,.sl0,.sl0,.b false,.sl0,.sl0,.b false,.sl0,.sl0,.b false,.sl0,.sl0,.b false,.sl0,.sl0,.b false,.sl0,.sl0],.one (.i .i64 6)]) (lo:=[]) (obs:=[])
  (ah)
  (af (o_eqNN (t:=24) ⟨_,Tryz.underlying24⟩) (ai)) (by kernel_rfl) Tryz.func41 (by kernel_rfl) aV ⟨rfl,⟨aA (n:=0) rfl gB,⟨aA (n:=1) rfl aO,trivial⟩⟩⟩).mono ?_
 rintro e w' ⟨v,rfl,⟨vs,rfl,h1⟩,h2⟩
 match vs,h1 with
 | [x,y],h1=>
  obtain⟨⟨cs,rfl,h3⟩,h4,_⟩:=h1
  have h4:y= .int .i64 6:=h4
  subst h4
  have h5:=xA h3
  subst h5
  exact⟨rfl,h2⟩
end Go.Proofs.YtggfmklppkioeaaGreat
namespace Go.Proofs.YtggfmklppkioeaaGreat
set_option linter.unusedSimpArgs false
set_option linter.unusedVariables false
set_option maxRecDepth 100000
open Go.RowKit
open Classical
def uE (s:Stp):Ax:=⟨if s.k % 5=2 then 1 else if s.k % 5=3 then 2 else if s.k % 5=4 then 3 else 0,bi s.c,bi s.p,s.a,bj s.x s.u⟩
theorem dJ {x u:Int} (hx: -128≤x∧x<128) (_:0≤u∧u<256):(bj x u).ok 2:=by
 have h:∀v:Int, -300≤v→v<300→(Fq.ofInt v).ok 2:=fun v h1 h2=>bm (by omega) (by omega)
 refine⟨⟨?_,h 0 (by omega) (by omega),h 0 (by omega) (by omega),h _ (by omega) (by omega)⟩,⟨h x (by omega) (by omega),h 0 (by omega) (by omega),h 0 (by omega) (by omega)⟩⟩
 show(Fq.ofInt (if u % 8=7 then 2 else 1)).ok 2
 split
 ·exact h 2 (by omega) (by omega)
 ·exact h 1 (by omega) (by omega)
/-- Cells of a block that is not the tree's stay. -/
theorem TPost.cell {w w':World} {t m B:Nat} {E E':List Ch} (h:TPost w t m E w' E') (hB:B∉fpT t m E) (hl:B<w.heap.size) (j:Nat):w'.cell? ⟨B,j,none⟩=w.cell? ⟨B,j,none⟩:=World.cell?_of_block (h.kp.block B hl hB)
/-- What a step leaves. -/
def oV (w:World) (t m:Nat) (E:List Ch) (x:Ax) (e:Ending) (w':World):Prop:=∃E' R' code,e= .returned (.int .i64 code)∧TPost w t m E w' E'∧REq (trE E') R'∧DoS (trE E) x R' code
/-- Where a step begins: its argument has been laid into block B. -/
structure DoC (w w1:World) (t m B:Nat) (E:List Ch) (k c p a x u:Int):Prop where
 eq:w.alloc (.cells #[.int .u8 k,.int .u8 c,.int .u8 p,.int .i16 a,.int .i8 x,.int .u8 u] 67)=w1
 hB:w.heap.size=B
 tm:TM w1 t m E
 pre:∀(w2 w3:World) (E':List Ch),Below w1.heap.size w1 w2→TPost w2 t m E w3 E'→TPost w t m E w3 E'
 cel:∀(w2 w3:World) (E':List Ch),Below w1.heap.size w1 w2→TPost w2 t m E w3 E'→∀j v,w1.cell? ⟨B,j,none⟩=some v→w3.cell? ⟨B,j,none⟩=some v
 cel2:∀(w2:World),Below w1.heap.size w1 w2→∀j v,w1.cell? ⟨B,j,none⟩=some v→w2.cell? ⟨B,j,none⟩=some v
 f0:w1.cell? ⟨B,0,none⟩=some (.int .u8 k)
 f1:w1.cell? ⟨B,1,none⟩=some (.int .u8 c)
 f2:w1.cell? ⟨B,2,none⟩=some (.int .u8 p)
 f3:w1.cell? ⟨B,3,none⟩=some (.int .i16 a)
 f4:w1.cell? ⟨B,4,none⟩=some (.int .i8 x)
 f5:w1.cell? ⟨B,5,none⟩=some (.int .u8 u)
theorem do_c {w:World} {t m:Nat} {E:List Ch} (h:TM w t m E) (k c p a x u:Int):∃w1 B,DoC w w1 t m B E k c p a x u:=by
 obtain⟨w1,hw1⟩:∃w1,w.alloc (.cells #[.int .u8 k,.int .u8 c,.int .u8 p,.int .i16 a,.int .i8 x,.int .u8 u] 67)=w1:=⟨_,rfl⟩
 have hb1:Below w.heap.size w w1:=by rw[←hw1];exact(Below.refl _ _).alloc (Nat.le_refl _) _
 have hs1:w1.heap.size=w.heap.size+1:=by rw[←hw1];exact asz _ _
 have hnew:w1.heap[w.heap.size]? =some (.cells #[.int .u8 k,.int .u8 c,.int .u8 p,.int .i16 a,.int .i8 x,.int .u8 u] 67 (0,0)):=by rw[←hw1];exact heap_alloc_new w _
 have hBn:w.heap.size∉fpT t m E:=fun hm=>by have:=h.lt _ hm;omega
 exact⟨w1,w.heap.size,hw1,rfl,h.below hb1,fun _ _ _ k hP=>hP.pre (hb1.trans (k.mono hb1.size)) h,fun _ _ _ k hP j v hv=>by
   rw[hP.cell hBn (by have:=k.size;omega),k.cell (p:=⟨_,j,none⟩) (by show w.heap.size<_;omega)];exact hv,fun _ k j v hv=>by
   rw[k.cell (p:=⟨_,j,none⟩) (by show w.heap.size<_;omega)];exact hv,
  by rw[ba hnew];rfl,by rw[ba hnew];rfl,by rw[ba hnew];rfl,by rw[ba hnew];rfl,by rw[ba hnew];rfl,by rw[ba hnew];rfl⟩
set_option maxHeartbeats 2000000 in
theorem q_do1 {w w1:World} {t m B:Nat} {E:List Ch} {k c p a x u:Int} (C:DoC w w1 t m B E k c p a x u) (hE:TOk (trE E)) (hk:0≤k) (hc:0≤c∧c<256) (hp:0≤p∧p<256) (ha: -32768≤a∧a<32768) (hx: -128≤x∧x<128) (hu:0≤u∧u<256) (h5:k % 5=2):
  Calls Tryz.prog 32 #[ptB t,.agg #[.int .u8 k,.int .u8 c,.int .u8 p,.int .i16 a,.int .i8 x,.int .u8 u]] w fun e w'=>oV w t m E ⟨1,bi c,bi p,a,bj x u⟩ e w':=by
 have hk5:k.tmod 5=k % 5:=Int.tmod_eq_emod_of_nonneg hk
 have hwa:IntKind.i64.wrap a=a:=by rw[IntKind.wrap_i64];omega
 have HBD:=Lib.hid (show Below w1.heap.size w1 w1.drew from(Below.refl _ _).drew)
 have HPre:=Lib.hid C.pre
 have HCell:=Lib.hid C.cel
 have HCell2:=Lib.hid C.cel2
 have hw1:=C.eq
 have hB:=C.hB
 have f0:=C.f0
 have f1:=C.f1
 have f3:=C.f3
 have h2:=dJ hx hu
 rw[h5]at hk5
 have hdet:=aak C.tm.drew hE (bi c) a
 have HF:=Lib.hid (show∀E' code,DetS (trE E) (bi c) a (trE E') code→DoS (trE E) ⟨1,bi c,bi p,a,bj x u⟩ (trE E') code from fun E' code hd=>by unfold DoS;exact hd)
 clear C hE h2 hk h5
 go_enter Tryz.func32,Tryz.ntmps32
 go_wp2
 go_region_held3 (fun w'=>w'.cell? ⟨B,1,none⟩=some (.int .u8 c)∧w'.cell? ⟨B,3,none⟩=some (.int .i16 a)) (first | assumption | exact⟨f1,f3⟩ | go_keep)
  (first
   | (go_at_call 39;with_reducible refine(mo c hc).mono ?_;rintro e w' ⟨rfl,hw'⟩;obtain rfl:=hw'.symm)
   | (go_at_call 68;refine hdet.mono ?_;rintro e w2 ⟨E',code,rfl,hP,hD⟩;have HS:=(And.intro (HCell.out _ _ _ HBD.out hP 1 _ f1) (HCell.out _ _ _ HBD.out hP 3 _ f3));have HQ:=Lib.hid (And.intro (HPre.out _ _ _ HBD.out hP) (And.intro (REq.refl (trE E')) (HF.out _ _ hD)));clear hP hD))
 all_goals go_wp2
 all_goals go_ret
 all_goals exact⟨E',_,code,rfl,HQ.out.1,HQ.out.2.1,HQ.out.2.2⟩
set_option maxHeartbeats 2000000 in
theorem q_do2 {w w1:World} {t m B:Nat} {E:List Ch} {k c p a x u:Int} (C:DoC w w1 t m B E k c p a x u) (hE:TOk (trE E)) (hk:0≤k) (hc:0≤c∧c<256) (hp:0≤p∧p<256) (ha: -32768≤a∧a<32768) (hx: -128≤x∧x<128) (hu:0≤u∧u<256) (h5:k % 5=3):
  Calls Tryz.prog 32 #[ptB t,.agg #[.int .u8 k,.int .u8 c,.int .u8 p,.int .i16 a,.int .i8 x,.int .u8 u]] w fun e w'=>oV w t m E ⟨2,bi c,bi p,a,bj x u⟩ e w':=by
 have hk5:k.tmod 5=k % 5:=Int.tmod_eq_emod_of_nonneg hk
 have hwa:IntKind.i64.wrap a=a:=by rw[IntKind.wrap_i64];omega
 have HBD:=Lib.hid (show Below w1.heap.size w1 w1.drew from(Below.refl _ _).drew)
 have HPre:=Lib.hid C.pre
 have HCell:=Lib.hid C.cel
 have HCell2:=Lib.hid C.cel2
 have hw1:=C.eq
 have hB:=C.hB
 have f0:=C.f0
 have f1:=C.f1
 have f3:=C.f3
 have f4:=C.f4
 have f5:=C.f5
 have h2:=dJ hx hu
 rw[h5]at hk5
 have HSet:=Lib.hid (show∀(w2:World) (cs:List Value),Below w1.heap.size w1 w2→dY w2 (.agg cs.toArray) (bj x u)→Calls Tryz.prog 69 #[ptB t,.string (bi c),stV a cs] w2 fun e w'=>∃E' R' code,e= .returned (.int .i64 code)∧TPost w2 t m E w' E'∧REq (trE E') R'∧SetS (addP a (bj x u)) (trE E) (bi c) a R' code from fun w2 cs hb hi=>q_SetP (p:=bj x u) (cs:=cs) (C.tm.below hb) hE hi h2)
 have HF:=Lib.hid (show∀R' code,SetS (addP a (bj x u)) (trE E) (bi c) a R' code→DoS (trE E) ⟨2,bi c,bi p,a,bj x u⟩ R' code from fun R' code hd=>by unfold DoS;exact hd)
 clear C hE h2 hk h5
 go_enter Tryz.func32,Tryz.ntmps32
 go_wp2
 go_region_held3 (fun w'=>w'.cell? ⟨B,1,none⟩=some (.int .u8 c)∧w'.cell? ⟨B,3,none⟩=some (.int .i16 a)∧w'.cell? ⟨B,4,none⟩=some (.int .i8 x)∧w'.cell? ⟨B,5,none⟩=some (.int .u8 u)) (first | assumption | exact⟨f1,f3,f4,f5⟩ | go_keep)
  (first
   | (go_at_call 39;with_reducible refine(mo c hc).mono ?_;rintro e w' ⟨rfl,hw'⟩;obtain rfl:=hw'.symm)
   | (go_at_call 86;refine(uC x u hx hu).mono ?_;rintro e w2 ⟨v,rfl,hv,hb⟩;obtain⟨cs,rfl,hcs⟩:=hv;obtain⟨c0,c1,c2,c3,c4,c5,c6,c7,c8,c9,c10,c11,c12,c13,c14,c15,c16,c17,c18,c19,c20,rfl⟩:=aax (cB hcs);have HB2:=Lib.hid (HBD.out.trans hb);have HSA:=(And.intro (HCell2.out _ HB2.out 1 _ f1) (And.intro (HCell2.out _ HB2.out 3 _ f3) (And.intro (HCell2.out _ HB2.out 4 _ f4) (HCell2.out _ HB2.out 5 _ f5))));have hset:=HSet.out _ _ HB2.out ⟨_,rfl,hcs⟩;clear hcs hb)
   | (go_at_call 69;refine hset.mono ?_;rintro e w3 ⟨E',R',code,rfl,hP,hR,hD⟩;have HS:=(And.intro (HCell.out _ _ _ HB2.out hP 1 _ f1) (And.intro (HCell.out _ _ _ HB2.out hP 3 _ f3) (And.intro (HCell.out _ _ _ HB2.out hP 4 _ f4) (HCell.out _ _ _ HB2.out hP 5 _ f5))));have HQ:=Lib.hid (And.intro (HPre.out _ _ _ HB2.out hP) (And.intro hR (HF.out _ _ hD)));clear hP hD hR))
 all_goals go_wp2
 all_goals go_ret
 all_goals exact⟨E',_,code,rfl,HQ.out.1,HQ.out.2.1,HQ.out.2.2⟩
set_option maxHeartbeats 2000000 in
theorem q_do3 {w w1:World} {t m B:Nat} {E:List Ch} {k c p a x u:Int} (C:DoC w w1 t m B E k c p a x u) (hE:TOk (trE E)) (hk:0≤k) (hc:0≤c∧c<256) (hp:0≤p∧p<256) (ha: -32768≤a∧a<32768) (hx: -128≤x∧x<128) (hu:0≤u∧u<256) (h5:k % 5=4):
  Calls Tryz.prog 32 #[ptB t,.agg #[.int .u8 k,.int .u8 c,.int .u8 p,.int .i16 a,.int .i8 x,.int .u8 u]] w fun e w'=>oV w t m E ⟨3,bi c,bi p,a,bj x u⟩ e w':=by
 have hk5:k.tmod 5=k % 5:=Int.tmod_eq_emod_of_nonneg hk
 have hwa:IntKind.i64.wrap a=a:=by rw[IntKind.wrap_i64];omega
 have HBD:=Lib.hid (show Below w1.heap.size w1 w1.drew from(Below.refl _ _).drew)
 have HPre:=Lib.hid C.pre
 have HCell:=Lib.hid C.cel
 have HCell2:=Lib.hid C.cel2
 have hw1:=C.eq
 have hB:=C.hB
 have f0:=C.f0
 have f1:=C.f1
 have f4:=C.f4
 have f5:=C.f5
 have h2:=dJ hx hu
 rw[h5]at hk5
 have HFix:=Lib.hid (show∀(w2:World) (cs:List Value),Below w1.heap.size w1 w2→dY w2 (.agg cs.toArray) (bj x u)→Calls Tryz.prog 70 #[ptB t,.string (bi c),.agg cs.toArray] w2 fun e w'=>∃E' R' code,e= .returned (.int .i64 code)∧TPost w2 t m E w' E'∧REq (trE E') R'∧FixS (decide (bj x u).good) (bj x u) (trE E) (bi c) R' code from fun w2 cs hb hi=>q_FixP (p:=bj x u) (cs:=cs) (C.tm.below hb) hE hi h2)
 have HF:=Lib.hid (show∀R' code,FixS (decide (bj x u).good) (bj x u) (trE E) (bi c) R' code→DoS (trE E) ⟨3,bi c,bi p,a,bj x u⟩ R' code from fun R' code hd=>by unfold DoS;exact hd)
 clear C hE h2 hk h5
 go_enter Tryz.func32,Tryz.ntmps32
 go_wp2
 go_region_held3 (fun w'=>w'.cell? ⟨B,1,none⟩=some (.int .u8 c)∧w'.cell? ⟨B,4,none⟩=some (.int .i8 x)∧w'.cell? ⟨B,5,none⟩=some (.int .u8 u)) (first | assumption | exact⟨f1,f4,f5⟩ | go_keep)
  (first
   | (go_at_call 39;with_reducible refine(mo c hc).mono ?_;rintro e w' ⟨rfl,hw'⟩;obtain rfl:=hw'.symm)
   | (go_at_call 86;refine(uC x u hx hu).mono ?_;rintro e w2 ⟨v,rfl,hv,hb⟩;obtain⟨cs,rfl,hcs⟩:=hv;obtain⟨c0,c1,c2,c3,c4,c5,c6,c7,c8,c9,c10,c11,c12,c13,c14,c15,c16,c17,c18,c19,c20,rfl⟩:=aax (cB hcs);have HB2:=Lib.hid (HBD.out.trans hb);have HSA:=(And.intro (HCell2.out _ HB2.out 1 _ f1) (And.intro (HCell2.out _ HB2.out 4 _ f4) (HCell2.out _ HB2.out 5 _ f5)));have hfix:=HFix.out _ _ HB2.out ⟨_,rfl,hcs⟩;clear hcs hb)
   | (go_at_call 70;refine hfix.mono ?_;rintro e w3 ⟨E',R',code,rfl,hP,hR,hD⟩;have HS:=(And.intro (HCell.out _ _ _ HB2.out hP 1 _ f1) (And.intro (HCell.out _ _ _ HB2.out hP 4 _ f4) (HCell.out _ _ _ HB2.out hP 5 _ f5)));have HQ:=Lib.hid (And.intro (HPre.out _ _ _ HB2.out hP) (And.intro hR (HF.out _ _ hD)));clear hP hD hR))
 all_goals go_wp2
 all_goals go_ret
 all_goals exact⟨E',_,code,rfl,HQ.out.1,HQ.out.2.1,HQ.out.2.2⟩
set_option maxHeartbeats 2000000 in
theorem q_do0 {w w1:World} {t m B:Nat} {E:List Ch} {k c p a x u:Int} (C:DoC w w1 t m B E k c p a x u) (hE:TOk (trE E)) (hk:0≤k) (hc:0≤c∧c<256) (hp:0≤p∧p<256) (ha: -32768≤a∧a<32768) (hx: -128≤x∧x<128) (hu:0≤u∧u<256) (k2:k % 5≠2) (k3:k % 5≠3) (k4:k % 5≠4):
  Calls Tryz.prog 32 #[ptB t,.agg #[.int .u8 k,.int .u8 c,.int .u8 p,.int .i16 a,.int .i8 x,.int .u8 u]] w fun e w'=>oV w t m E ⟨0,bi c,bi p,a,bj x u⟩ e w':=by
 have hk5:k.tmod 5=k % 5:=Int.tmod_eq_emod_of_nonneg hk
 have hwa:IntKind.i64.wrap a=a:=by rw[IntKind.wrap_i64];omega
 have HBD:=Lib.hid (show Below w1.heap.size w1 w1.drew from(Below.refl _ _).drew)
 have HPre:=Lib.hid C.pre
 have HCell:=Lib.hid C.cel
 have HCell2:=Lib.hid C.cel2
 have hw1:=C.eq
 have hB:=C.hB
 have f0:=C.f0
 have f1:=C.f1
 have f2:=C.f2
 have f3:=C.f3
 have h2:=dJ hx hu
 obtain⟨r,hr⟩:∃r,k % 5=r:=⟨_,rfl⟩
 rw[hr]at hk5 k2 k3 k4
 have g2:(r==2)=false:=beq_eq_false_iff_ne.2 k2
 have g3:(r==3)=false:=beq_eq_false_iff_ne.2 k3
 have g4:(r==4)=false:=beq_eq_false_iff_ne.2 k4
 have hatt:=oR (f:=a) C.tm.drew hE (pS c hc.1) (pS p hp.1)
 have HF:=Lib.hid (show∀R' code,AttS db (trE E) (bi c) (bi p) a R' code→DoS (trE E) ⟨0,bi c,bi p,a,bj x u⟩ R' code from fun R' code hd=>by unfold DoS;exact hd)
 clear C hE h2 hk k2 k3 k4 hr
 go_enter Tryz.func32,Tryz.ntmps32
 go_wp2
 go_region_held3 (fun w'=>w'.cell? ⟨B,1,none⟩=some (.int .u8 c)∧w'.cell? ⟨B,2,none⟩=some (.int .u8 p)∧w'.cell? ⟨B,3,none⟩=some (.int .i16 a)) (first | assumption | exact⟨f1,f2,f3⟩ | go_keep)
  (first
   | (go_at_call 39;with_reducible refine(mo c hc).mono ?_;rintro e w' ⟨rfl,hw'⟩;obtain rfl:=hw'.symm)
   | (go_at_call 39;with_reducible refine(mo p hp).mono ?_;rintro e w' ⟨rfl,hw'⟩;obtain rfl:=hw'.symm)
   | (go_at_call 67;refine hatt.mono ?_;rintro e w3 ⟨E',R',code,rfl,hP,hR,hD⟩;have HS:=(And.intro (HCell.out _ _ _ HBD.out hP 1 _ f1) (And.intro (HCell.out _ _ _ HBD.out hP 2 _ f2) (HCell.out _ _ _ HBD.out hP 3 _ f3)));have HQ:=Lib.hid (And.intro (HPre.out _ _ _ HBD.out hP) (And.intro hR (HF.out _ _ hD)));clear hP hD hR))
 all_goals go_wp2
 all_goals go_ret
 all_goals exact⟨E',_,code,rfl,HQ.out.1,HQ.out.2.1,HQ.out.2.2⟩
theorem q_do {w:World} {t m:Nat} {E:List Ch} {s:Stp} (h:TM w t m E) (hE:TOk (trE E)) (hs:s.Ok):Calls Tryz.prog 32 #[ptB t,s.val] w fun e w'=>oV w t m E (uE s) e w':=by
 obtain⟨w1,B,C⟩:=do_c h s.k s.c s.p s.a s.x s.u
 unfold uE
 by_cases k2:s.k % 5=2
 ·rw[if_pos k2];exact q_do1 C hE hs.k.1 hs.c hs.p hs.a hs.x hs.u k2
 ·rw[if_neg k2]
  by_cases k3:s.k % 5=3
  ·rw[if_pos k3];exact q_do2 C hE hs.k.1 hs.c hs.p hs.a hs.x hs.u k3
  ·rw[if_neg k3]
   by_cases k4:s.k % 5=4
   ·rw[if_pos k4];exact q_do3 C hE hs.k.1 hs.c hs.p hs.a hs.x hs.u k4
   ·rw[if_neg k4];exact q_do0 C hE hs.k.1 hs.c hs.p hs.a hs.x hs.u k2 k3 k4
end Go.Proofs.YtggfmklppkioeaaGreat
namespace Go.Proofs.YtggfmklppkioeaaGreat
set_option linter.unusedSimpArgs false
set_option linter.unusedVariables false
set_option maxRecDepth 100000
open Go.RowKit Go.Maps Go.Sort Go.Shelf
def Tryz.keysB_ren:Go.Shelf.Ren:=⟨fun | 7=>88 | 10=>152 | n=>n,fun | 23=>150 | 26=>9 | 3=>4 | 28=>148 | 0=>0 | 27=>147 | 33=>166 | 4=>4 | n=>n,fun | n=>n⟩
theorem Tryz.keysB:Go.Proofs.SlLaysZ.n7 Tryz.prog Tryz.keysB_ren:= {
 mixed:=by kernel_rfl
 f7:=⟨Tryz.f88.name,by decide,Tryz.func88.trans (congrArg some (by kernel_rfl))⟩
 f10:=⟨Tryz.f152.name,by decide,Tryz.func152.trans (congrArg some (by kernel_rfl))⟩
 t0:=Tryz.underlying0
 a0:=Tryz.isAgg0
 z0:=Tryz.sizeOf0
 v0:=Tryz.zeroValue0
 t4:=Tryz.underlying4
 a4:=Tryz.isAgg4
 z4:=Tryz.sizeOf4
 v4:=Tryz.zeroValue4
 t23:=Tryz.underlying150
 a23:=Tryz.isAgg150
 z23:=Tryz.sizeOf150
 v23:=Tryz.zeroValue150
 t26:=Tryz.underlying9
 a26:=Tryz.isAgg9
 z26:=Tryz.sizeOf9
 v26:=Tryz.zeroValue9
 t27:=Tryz.underlying147
 a27:=Tryz.isAgg147
 z27:=Tryz.sizeOf147
 v27:=Tryz.zeroValue147
 t28:=Tryz.underlying148
 a28:=Tryz.isAgg148
 z28:=Tryz.sizeOf148
 v28:=Tryz.zeroValue148
 t33:=Tryz.underlying166
 a33:=Tryz.isAgg166
 z33:=Tryz.sizeOf166
 v33:=Tryz.zeroValue166}
def Tryz.sortedS_ren:Go.Shelf.Ren:=⟨fun | 6=>87 | 8=>150 | 9=>151 | 11=>205 | 13=>174 | 12=>206 | 23=>232 | 24=>233 | 14=>246 | 15=>247 | 16=>248 | 17=>249 | 18=>250 | 19=>251 | 20=>252 | 21=>253 | 22=>254 | 25=>282 | 26=>274 | 27=>275 | 28=>283 | 29=>284 | 30=>285 | 31=>303 | n=>n,fun | 26=>9 | 28=>148 | 24=>68 | 0=>0 | 3=>3 | 37=>234 | 48=>237 | 50=>178 | 4=>4 | 40=>273 | 39=>272 | 45=>277 | 5=>5 | 9=>9 | 51=>299 | 55=>303 | 57=>309 | 58=>310 | 33=>166 | n=>n,fun | n=>n⟩
theorem Tryz.sortedS:Go.Proofs.SlLaysZ.n6 Tryz.prog Tryz.sortedS_ren:= {
 mixed:=by kernel_rfl
 f6:=⟨Tryz.f87.name,by decide,Tryz.func87.trans (congrArg some (by kernel_rfl))⟩
 f8:=⟨Tryz.f150.name,by decide,Tryz.func150.trans (congrArg some (by kernel_rfl))⟩
 f11:=⟨Tryz.f205.name,by decide,Tryz.func205.trans (congrArg some (by kernel_rfl))⟩
 t0:=Tryz.underlying0
 a0:=Tryz.isAgg0
 z0:=Tryz.sizeOf0
 v0:=Tryz.zeroValue0
 t24:=Tryz.underlying68
 a24:=Tryz.isAgg68
 z24:=Tryz.sizeOf68
 v24:=Tryz.zeroValue68
 t26:=Tryz.underlying9
 a26:=Tryz.isAgg9
 z26:=Tryz.sizeOf9
 v26:=Tryz.zeroValue9
 t28:=Tryz.underlying148
 a28:=Tryz.isAgg148
 z28:=Tryz.sizeOf148
 v28:=Tryz.zeroValue148
 i26:=by kernel_rfl}
def Tryz.sortS_ren:Go.Shelf.Ren:=⟨fun | 6=>151 | 8=>174 | 9=>206 | 19=>232 | 20=>233 | 21=>246 | 22=>247 | 23=>248 | 24=>249 | 25=>250 | 26=>251 | 27=>252 | 28=>253 | 29=>254 | 36=>282 | 31=>274 | 32=>275 | 37=>283 | 38=>284 | 39=>285 | 41=>303 | n=>n,fun | 27=>68 | 29=>9 | 3=>3 | 32=>234 | 26=>68 | 0=>0 | 44=>237 | 46=>178 | 4=>4 | 36=>273 | 35=>272 | 41=>277 | 5=>5 | 9=>9 | 53=>299 | 57=>303 | 63=>309 | 64=>310 | n=>n,fun | n=>n⟩
theorem Tryz.sortS:Go.Proofs.SlLaysM.n6 Tryz.prog Tryz.sortS_ren:= {
 mixed:=by kernel_rfl
 f6:=⟨Tryz.f151.name,by decide,Tryz.func151.trans (congrArg some (by kernel_rfl))⟩
 f8:=Tryz.func174.trans (congrArg some (by kernel_rfl))
 f9:=⟨Tryz.f206.name,by decide,Tryz.func206.trans (congrArg some (by kernel_rfl))⟩
 f19:=Tryz.func232.trans (congrArg some (by kernel_rfl))
 f20:=Tryz.func233.trans (congrArg some (by kernel_rfl))
 f21:=⟨Tryz.f246.name,by decide,Tryz.func246.trans (congrArg some (by kernel_rfl))⟩
 f22:=⟨Tryz.f247.name,by decide,Tryz.func247.trans (congrArg some (by kernel_rfl))⟩
 f23:=⟨Tryz.f248.name,by decide,Tryz.func248.trans (congrArg some (by kernel_rfl))⟩
 f24:=⟨Tryz.f249.name,by decide,Tryz.func249.trans (congrArg some (by kernel_rfl))⟩
 f25:=⟨Tryz.f250.name,by decide,Tryz.func250.trans (congrArg some (by kernel_rfl))⟩
 f26:=⟨Tryz.f251.name,by decide,Tryz.func251.trans (congrArg some (by kernel_rfl))⟩
 f27:=⟨Tryz.f252.name,by decide,Tryz.func252.trans (congrArg some (by kernel_rfl))⟩
 f28:=⟨Tryz.f253.name,by decide,Tryz.func253.trans (congrArg some (by kernel_rfl))⟩
 f29:=⟨Tryz.f254.name,by decide,Tryz.func254.trans (congrArg some (by kernel_rfl))⟩
 f31:=Tryz.func274.trans (congrArg some (by kernel_rfl))
 f32:=Tryz.func275.trans (congrArg some (by kernel_rfl))
 f36:=⟨Tryz.f282.name,by decide,Tryz.func282.trans (congrArg some (by kernel_rfl))⟩
 f37:=⟨Tryz.f283.name,by decide,Tryz.func283.trans (congrArg some (by kernel_rfl))⟩
 f38:=⟨Tryz.f284.name,by decide,Tryz.func284.trans (congrArg some (by kernel_rfl))⟩
 f39:=⟨Tryz.f285.name,by decide,Tryz.func285.trans (congrArg some (by kernel_rfl))⟩
 f41:=⟨Tryz.f303.name,by decide,Tryz.func303.trans (congrArg some (by kernel_rfl))⟩
 t0:=Tryz.underlying0
 a0:=Tryz.isAgg0
 z0:=Tryz.sizeOf0
 v0:=Tryz.zeroValue0
 t3:=Tryz.underlying3
 a3:=Tryz.isAgg3
 z3:=Tryz.sizeOf3
 v3:=Tryz.zeroValue3
 t4:=Tryz.underlying4
 a4:=Tryz.isAgg4
 z4:=Tryz.sizeOf4
 v4:=Tryz.zeroValue4
 t5:=Tryz.underlying5
 a5:=Tryz.isAgg5
 z5:=Tryz.sizeOf5
 v5:=Tryz.zeroValue5
 t9:=Tryz.underlying9
 a9:=Tryz.isAgg9
 z9:=Tryz.sizeOf9
 v9:=Tryz.zeroValue9
 t26:=Tryz.underlying68
 a26:=Tryz.isAgg68
 z26:=Tryz.sizeOf68
 v26:=Tryz.zeroValue68
 t27:=Tryz.underlying68
 a27:=Tryz.isAgg68
 z27:=Tryz.sizeOf68
 v27:=Tryz.zeroValue68
 t29:=Tryz.underlying9
 a29:=Tryz.isAgg9
 z29:=Tryz.sizeOf9
 v29:=Tryz.zeroValue9
 t32:=Tryz.underlying234
 a32:=Tryz.isAgg234
 z32:=Tryz.sizeOf234
 v32:=Tryz.zeroValue234
 t35:=Tryz.underlying272
 a35:=Tryz.isAgg272
 z35:=Tryz.sizeOf272
 v35:=Tryz.zeroValue272
 t36:=Tryz.underlying273
 a36:=Tryz.isAgg273
 z36:=Tryz.sizeOf273
 v36:=Tryz.zeroValue273
 t41:=Tryz.underlying277
 a41:=Tryz.isAgg277
 z41:=Tryz.sizeOf277
 v41:=Tryz.zeroValue277
 t44:=Tryz.underlying237
 a44:=Tryz.isAgg237
 z44:=Tryz.sizeOf237
 v44:=Tryz.zeroValue237
 t46:=Tryz.underlying178
 a46:=Tryz.isAgg178
 z46:=Tryz.sizeOf178
 v46:=Tryz.zeroValue178
 t53:=Tryz.underlying299
 a53:=Tryz.isAgg299
 z53:=Tryz.sizeOf299
 v53:=Tryz.zeroValue299
 t57:=Tryz.underlying303
 a57:=Tryz.isAgg303
 z57:=Tryz.sizeOf303
 v57:=Tryz.zeroValue303
 t63:=Tryz.underlying309
 a63:=Tryz.isAgg309
 z63:=Tryz.sizeOf309
 v63:=Tryz.zeroValue309
 t64:=Tryz.underlying310
 a64:=Tryz.isAgg310
 z64:=Tryz.sizeOf310
 v64:=Tryz.zeroValue310}
theorem Tryz.sortsS (m:Nat):AnyZ.SortsIn Tryz.prog Tryz.sortedS_ren Fence.wide m:=
 ⟨fun blk off cap ss W hH hblk hsz=>callsIn_wide.2 (AnyM.slices_Sort_string Tryz.sortS blk off cap ss W hH hblk hsz),
  fun p cap W=>callsIn_wide.2 (AnyM.slices_Sort_string_none Tryz.sortS p cap W)⟩
theorem Tryz.maps_Keys_B (mb:Option Nat) (W:World):CallsIn Fence.wide 5 Tryz.prog 88 #[.map mb] W fun e w'=>e= .returned (.func (.func 152) #[] #[.pointer (some ⟨W.heap.size,0,none⟩)])∧w'=W.alloc (.cells #[.map mb] 150):=
 AnyZ.keys_in Tryz.keysB Fence.wide 5 trivial rfl mb W
set_option maxHeartbeats 1000000 in
theorem Tryz.slices_Sorted_keys_B {H:Type} (b nn:Nat) (D0:DataW H) (R:Value→Option (DataW H×List MemPlace)) (w:World) (hown:w.ownsMap Tryz.prog 9 R b nn D0) (hmax:Maps.size D0≤maxLen) (hbytes:Maps.size D0*16≤140737488355328):
  CallsIn Fence.wide 5 Tryz.prog 87 #[.func (.func 152) #[] #[.pointer (some ⟨w.heap.size,0,none⟩)]] (w.alloc (.cells #[.map (some b)] 150)) fun e w'=>∃(v:Value) (ss:List (List UInt8)),e= .returned v∧ss.Perm (strKeys D0)∧
   w'.ownsRow (w.alloc (.cells #[.map (some b)] 150)).heap.size 9 1 v ss.length ((ss.mergeSort (fun x y=>decide (x≤y))).map encStr)∧(v= .slice none 0 0↔ss=[])∧Below (w.alloc (.cells #[.map (some b)] 150)).heap.size (w.alloc (.cells #[.map (some b)] 150)) w':=by
 have hbl:=hown.lt
 have hseq:SeqGives Fence.wide 2 Tryz.prog 152 #[.pointer (some ⟨w.heap.size,0,none⟩)] encStr (fun ss=>ss.Perm (strKeys D0)) (Maps.size D0) (w.alloc (.cells #[.map (some b)] 150)):=
  AnyZ.keys_gives (ρ:=Tryz.keysB_ren) {Tryz.keysB with} Fence.wide _ trivial rfl (by omega) w.heap.size b nn D0 _ (by simp) (by simp) (by
   obtain⟨es,clock,hb,Ft,hs,hD⟩:=hown
   exact⟨es,clock,(Below.heap_alloc _ _ b hbl).trans hb,Ft,hs,hD⟩)
 exact AnyZ.sorted_in Tryz.sortedS Fence.wide 5 trivial trivial trivial trivial rfl (by omega) (Tryz.sortsS _) (enters_of Tryz.func151 (by kernel_rfl) rfl) 152 #[.pointer (some ⟨w.heap.size,0,none⟩)] trivial (enters_of Tryz.func152 (by kernel_rfl) rfl) _ _ hmax hbytes _ hseq
def Tryz.keysL_ren:Go.Shelf.Ren:=⟨fun | 7=>91 | 10=>154 | n=>n,fun | 23=>142 | 26=>9 | 3=>158 | 28=>148 | 0=>0 | 27=>147 | 33=>166 | 4=>4 | n=>n,fun | n=>n⟩
theorem Tryz.keysL:Go.Proofs.SlLaysZ.n7 Tryz.prog Tryz.keysL_ren:= {
 mixed:=by kernel_rfl
 f7:=⟨Tryz.f91.name,by decide,Tryz.func91.trans (congrArg some (by kernel_rfl))⟩
 f10:=⟨Tryz.f154.name,by decide,Tryz.func154.trans (congrArg some (by kernel_rfl))⟩
 t0:=Tryz.underlying0
 a0:=Tryz.isAgg0
 z0:=Tryz.sizeOf0
 v0:=Tryz.zeroValue0
 t4:=Tryz.underlying4
 a4:=Tryz.isAgg4
 z4:=Tryz.sizeOf4
 v4:=Tryz.zeroValue4
 t23:=Tryz.underlying142
 a23:=Tryz.isAgg142
 z23:=Tryz.sizeOf142
 v23:=Tryz.zeroValue142
 t26:=Tryz.underlying9
 a26:=Tryz.isAgg9
 z26:=Tryz.sizeOf9
 v26:=Tryz.zeroValue9
 t27:=Tryz.underlying147
 a27:=Tryz.isAgg147
 z27:=Tryz.sizeOf147
 v27:=Tryz.zeroValue147
 t28:=Tryz.underlying148
 a28:=Tryz.isAgg148
 z28:=Tryz.sizeOf148
 v28:=Tryz.zeroValue148
 t33:=Tryz.underlying166
 a33:=Tryz.isAgg166
 z33:=Tryz.sizeOf166
 v33:=Tryz.zeroValue166}
theorem Tryz.maps_Keys_L (mb:Option Nat) (W:World):CallsIn Fence.wide 5 Tryz.prog 91 #[.map mb] W fun e w'=>e= .returned (.func (.func 154) #[] #[.pointer (some ⟨W.heap.size,0,none⟩)])∧w'=W.alloc (.cells #[.map mb] 142):=
 AnyZ.keys_in Tryz.keysL Fence.wide 5 trivial rfl mb W
set_option maxHeartbeats 1000000 in
theorem Tryz.slices_Sorted_keys_L {H:Type} (b nn:Nat) (D0:DataW H) (R:Value→Option (DataW H×List MemPlace)) (w:World) (hown:w.ownsMap Tryz.prog 9 R b nn D0) (hmax:Maps.size D0≤maxLen) (hbytes:Maps.size D0*16≤140737488355328):
  CallsIn Fence.wide 5 Tryz.prog 87 #[.func (.func 154) #[] #[.pointer (some ⟨w.heap.size,0,none⟩)]] (w.alloc (.cells #[.map (some b)] 142)) fun e w'=>∃(v:Value) (ss:List (List UInt8)),e= .returned v∧ss.Perm (strKeys D0)∧
   w'.ownsRow (w.alloc (.cells #[.map (some b)] 142)).heap.size 9 1 v ss.length ((ss.mergeSort (fun x y=>decide (x≤y))).map encStr)∧(v= .slice none 0 0↔ss=[])∧Below (w.alloc (.cells #[.map (some b)] 142)).heap.size (w.alloc (.cells #[.map (some b)] 142)) w':=by
 have hbl:=hown.lt
 have hseq:SeqGives Fence.wide 2 Tryz.prog 154 #[.pointer (some ⟨w.heap.size,0,none⟩)] encStr (fun ss=>ss.Perm (strKeys D0)) (Maps.size D0) (w.alloc (.cells #[.map (some b)] 142)):=
  AnyZ.keys_gives (ρ:=Tryz.keysL_ren) {Tryz.keysL with} Fence.wide _ trivial rfl (by omega) w.heap.size b nn D0 _ (by simp) (by simp) (by
   obtain⟨es,clock,hb,Ft,hs,hD⟩:=hown
   exact⟨es,clock,(Below.heap_alloc _ _ b hbl).trans hb,Ft,hs,hD⟩)
 exact AnyZ.sorted_in Tryz.sortedS Fence.wide 5 trivial trivial trivial trivial rfl (by omega) (Tryz.sortsS _) (enters_of Tryz.func151 (by kernel_rfl) rfl) 154 #[.pointer (some ⟨w.heap.size,0,none⟩)] trivial (enters_of Tryz.func154 (by kernel_rfl) rfl) _ _ hmax hbytes _ hseq
end Go.Proofs.YtggfmklppkioeaaGreat
namespace Go.Proofs.YtggfmklppkioeaaGreat
set_option linter.unusedSimpArgs false
set_option linter.unusedVariables false
set_option maxRecDepth 100000
open Go.RowKit
open Go.MapKept Go.WideShapes
abbrev Re0:Value→Option (DataW Unit×List MemPlace):=fun _=>some (.lit (.bool true),[])
theorem cF.owns {P:Program} {k:TypeId} {w:World} {b:Nat} {l:List (ByteArray×Value)} (h:cF w b l) (hk:P.underlying k=some .string) (hs:l.length≤maxLen) (hn:∀p∈l,p.1.size≤maxLen):
  ∃D:DataW Unit,w.ownsMap P k Re0 b l.length D∧(strKeys D).Perm (l.map fun p=>p.1.data.toList)∧Maps.size D=l.length:=by
 obtain⟨es,clock,hb,hst,he⟩:=h
 have hlen:es.size=l.length:=by have:=congrArg List.length he;simpa using this
 have hrd:∀x∈es.toList,∃p∈l,x.key= .string p.1∧Go.WideElems.rd P k Re0 x=some (.string p.1.data.toList,.lit (.bool true)):=fun x hx=>by
  obtain⟨j,hj,e⟩:=List.getElem_of_mem hx
  obtain⟨p,h1,h2,_⟩:=iZ he (j:=j) (e:=x) (by rw[List.getElem?_eq_getElem hj,e])
  refine⟨p,List.mem_of_getElem? h1,h2,?_⟩
  have h3:=hn p (List.mem_of_getElem? h1)
  have h4:p.1.data.size≤maxLen:=h3
  simp[Go.WideElems.rd,keyOf,hk,mapKey,h2,Re0,h3]
 have hf:Go.WideElems.Fit P k Re0 es clock:=⟨by omega,hst,fun x hx=>by obtain⟨p,_,_,h⟩:=hrd x hx;exact⟨_,h⟩⟩
 refine⟨.map ((es.toList.map (Go.WideElems.rg P k Re0)).foldr DataW.insert []),⟨es,clock,hb,hf,by omega,rfl⟩,?_,?_⟩
 ·have h1:=(sorted_perm (es.toList.map (Go.WideElems.rg P k Re0))).map (fun p=>strOf p.1)
  refine List.Perm.trans h1 ?_
  rw[List.map_map]
  have e:es.toList.map ((fun p=>strOf p.1)∘ Go.WideElems.rg P k Re0)=l.map fun p=>p.1.data.toList:=by
   apply List.ext_getElem?
   intro j
   rw[List.getElem?_map,List.getElem?_map]
   have hg:=lK he j
   cases h2:es.toList[j]? with
   | none=>
    rw[h2]at hg
    cases h3:l[j]? with
    | none=>rfl
    | some p=>rw[h3]at hg;cases hg
   | some x=>
    obtain⟨p,h3,h4,_⟩:=iZ he h2
    obtain⟨p',_,h5,h6⟩:=hrd x (List.mem_of_getElem? h2)
    rw[h4]at h5;injection h5 with h5
    rw[h3]
    simp[Go.WideElems.rg,h6,strOf,h5]
  rw[e]
 ·show((es.toList.map (Go.WideElems.rg P k Re0)).foldr DataW.insert []).length=_
  rw[length_sorted,List.length_map,Array.length_toList,hlen]
/-- The bytes of a text, and back. -/
def txt (x:List UInt8):Nm:=⟨x.toArray⟩
theorem txt_of (c:Nm):txt c.data.toList=c:=by simp[txt]
theorem of_txt (x:List UInt8):(txt x).data.toList=x:=by simp[txt]
abbrev uF (a b:Nm):Prop:=a.data.toList≤b.data.toList
/-- The keys of a map, sorted. -/
theorem mQ {l:List (ByteArray×Value)} {D:DataW Unit} {ss:List (List UInt8)} (hl:(l.map (·.1)).Nodup) (hp:(strKeys D).Perm (l.map fun p=>p.1.data.toList)) (hss:ss.Perm (strKeys D)):
  ∃L:List Nm,((ss.mergeSort (fun x y=>decide (x≤y))).map encStr)=L.map Value.string∧L.length=ss.length∧L.Perm (l.map (·.1))∧L.Nodup∧L.Pairwise uF:=by
 have hpm:(ss.mergeSort (fun x y=>decide (x≤y))).Perm ss:=List.mergeSort_perm ..
 have hpp:((ss.mergeSort (fun x y=>decide (x≤y))).map txt).Perm (l.map (·.1)):=by
  have h1:=(hpm.trans (hss.trans hp)).map txt
  rw[List.map_map]at h1
  have e:(l.map (txt ∘ fun p=>p.1.data.toList))=l.map (·.1):=List.map_congr_left (fun p _=>txt_of p.1)
  rwa [e]at h1
 refine⟨(ss.mergeSort (fun x y=>decide (x≤y))).map txt,?_,by simp,hpp,hpp.nodup_iff.2 hl,?_⟩
 ·rw[List.map_map];rfl
 ·rw[List.pairwise_map]
  have h2:(ss.mergeSort (fun x y=>decide (x≤y))).Pairwise (fun a b=>leB a b=true):=List.pairwise_mergeSort (fun a b c h1 h2=>by simp only[leB,decide_eq_true_eq]at *;exact List.le_trans h1 h2) (fun a b=>by simp only[leB,Bool.or_eq_true,decide_eq_true_eq];exact List.le_total a b) ss
  refine h2.imp (fun {a b} h=> ?_)
  show(txt a).data.toList≤(txt b).data.toList
  rw[of_txt,of_txt]
  simpa [leB]using h
/-- A row of texts. -/
abbrev dl (w:World) (b0:Nat) (v:Value) (L:List Nm):Prop:=w.ownsRow b0 9 1 v L.length (L.map Value.string)
theorem q_keysB {w:World} {b:Nat} {l:List Nm} (h:dt w b l) (hs:l.length≤1000000) (hn:∀x∈l,x.size≤maxLen):
  (Calls Tryz.prog 88 #[.map (some b)] w fun e w'=>e= .returned (.func (.func 152) #[] #[.pointer (some ⟨w.heap.size,0,none⟩)])∧w'=w.alloc (.cells #[.map (some b)] 150))∧
  Calls Tryz.prog 87 #[.func (.func 152) #[] #[.pointer (some ⟨w.heap.size,0,none⟩)]] (w.alloc (.cells #[.map (some b)] 150)) fun e w'=>∃v L,e= .returned v∧dl w' w.heap.size v L∧L.Perm l∧L.Nodup∧L.Pairwise uF∧(v= .slice none 0 0↔L=[])∧Below w.heap.size w w':=by
 have hmx:(1000000:Nat)≤maxLen:=by unfold maxLen;omega
 obtain⟨D,hD,hp,hz⟩:=cF.owns (P:=Tryz.prog) (k:=9) h (by kernel_rfl) (by rw[List.length_map];omega) (fun p hp=>by obtain⟨c,hc,rfl⟩:=List.mem_map.1 hp;exact hn c hc)
 rw[List.length_map]at hD hz
 refine⟨callsIn_wide.1 (Tryz.maps_Keys_B (some b) w),(callsIn_wide.1 (Tryz.slices_Sorted_keys_B b l.length D Re0 w hD (by omega) (by omega))).mono ?_⟩
 rintro e w' ⟨v,ss,rfl,hS,hrow,hnil,hb⟩
 obtain⟨L,h1,h2,h3,h4,h5⟩:=mQ (cF.nodup h) hp hS
 rw[List.map_map]at h3
 have e:(l.map ((fun p:ByteArray×Value=>p.1)∘ fun c=>(c,Value.bool true)))=l:=by simp[Function.comp_def]
 rw[e]at h3
 refine⟨v,L,rfl,?_,h3,h4,h5,?_,((Below.refl _ w).alloc (Nat.le_refl _) _).trans (hb.mono (by rw[asz];omega))⟩
 ·show w'.ownsRow w.heap.size 9 1 v L.length (L.map Value.string)
  rw[←h1,h2]
  exact ownsRow_base_a hrow (by rw[asz];omega)
 ·rw[hnil]
  constructor
  ·intro h;apply List.eq_nil_of_length_eq_zero;rw[h2,h];rfl
  ·intro h;apply List.eq_nil_of_length_eq_zero;rw[←h2,h];rfl
theorem sN {w:World} {t m:Nat} {E:List Ch} (h:TM w t m E) (hS:TSm (trE E)) (hN:∀x,bo (trE E) x→x.size≤maxLen):Calls Tryz.prog 33 #[ptB t] w fun e w'=>∃v L,e= .returned v∧dl w' w.heap.size v L∧(∀x,x∈L↔bo (trE E) x)∧L.Nodup∧L.Pairwise uF∧(v= .slice none 0 0↔L=[])∧L.length≤24∧Below w.heap.size w w':=by
 have hkn:=i4 h
 have H:=Lib.hid (And.intro hS hN)
 clear h hS hN
 go_enter Tryz.func33,Tryz.ntmps33
 go_wp2_with (first
  | (go_at_call 89;refine hkn.mono ?_;rintro e w1 ⟨b,l,rfl,hM,hbl,hl,hb⟩;have hc:l.length≤24:=(by obtain⟨⟨⟨n,h1,h2⟩,_⟩,_⟩:=H.out;rw[bO.uniq ⟨l,hM.nodup,fun x=>(hl x).trans dI,rfl⟩ h2];exact h1);obtain⟨hk1,hk2⟩:=q_keysB hM (by omega) (fun x hx=>H.out.2 x (dI.1 ((hl x).1 hx)));have HB:=Lib.hid (And.intro hb (And.intro hl hc));clear hb hl hc hM hbl)
  | (go_at_call 88;refine hk1.mono ?_;rintro e w2 ⟨rfl,rfl⟩)
  | (go_at_call 87;refine hk2.mono ?_;rintro e w3 ⟨v,L,rfl,hrow,hp,hnd,hso,hnil,hb3⟩;have HR:=Lib.hid (And.intro hrow (And.intro hp (And.intro hnd (And.intro hso (And.intro hnil hb3)))));clear hrow hp hnd hso hnil hb3))
 go_ret
 obtain⟨hrow,hp,hnd,hso,hnil,hb3⟩:=HR.out
 obtain⟨hb,hl,hc⟩:=HB.out
 exact⟨v,L,rfl,ownsRow_base_a hrow hb.size,fun x=>(hp.mem_iff).trans ((hl x).trans dI),hnd,hso,hnil,by rw[hp.length_eq];exact hc,hb.trans (hb3.mono hb.size)⟩
end Go.Proofs.YtggfmklppkioeaaGreat
