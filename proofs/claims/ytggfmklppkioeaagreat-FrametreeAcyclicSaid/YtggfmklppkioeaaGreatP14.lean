/- Maps from texts: what their operations do. Trees of frames in memory: the blocks are named. Trees of frames: the link that holds at a time, the open link. Trees of frames: the frames that are known. Trees of frames: what changes in memory; Detach, Root, New. Trees of frames: Root, New. -/
import Derived.Test.YtggfmklppkioeaaGreatP13
import Derived.Maps.RangeRun
import Derived.LoopN
import Derived.Deep.LoopGhost
namespace Go.Proofs.YtggfmklppkioeaaGreat
set_option linter.unusedSimpArgs false
set_option linter.unusedVariables false
set_option maxRecDepth 100000
open Go.RowKit
open Go.MapKept
/-- The map in block b has these eZ, in this order. -/
def cF (w:World) (b:Nat) (l:List (ByteArray×Value)):Prop:=∃(es:Array MapEntry) (clock:Nat),w.heap[b]? =some (.map es clock)∧Stamped es clock∧es.toList.map (fun e=>(e.key,e.val))=l.map fun p=>(Value.string p.1,p.2)
open Classical in
noncomputable def oL (l:List (ByteArray×Value)) (c:ByteArray) (v:Value):List (ByteArray×Value):=if c∈l.map (·.1)then l.map (fun p=>if p.1=c then(c,v)else p)else l++ [(c,v)]
section
variable {w w':World} {b clock:Nat} {l:List (ByteArray×Value)} {es:Array MapEntry} {c:ByteArray} {v:Value} {P:Program} {t kt et:TypeId}
theorem lK (he:es.toList.map (fun e=>(e.key,e.val))=l.map fun p=>(Value.string p.1,p.2)) (j:Nat):(es.toList[j]?).map (fun e=>(e.key,e.val))=(l[j]?).map fun p=>(Value.string p.1,p.2):=by
 have:=congrArg (fun l:List (Value×Value)=>l[j]?) he
 simpa using this
theorem iZ {j:Nat} {e:MapEntry} (he:es.toList.map (fun e=>(e.key,e.val))=l.map fun p=>(Value.string p.1,p.2)) (hj:es.toList[j]? =some e):∃p,l[j]? =some p∧e.key= .string p.1∧e.val=p.2:=by
 have h:=lK he j
 rw[hj]at h
 cases h2:l[j]? with
 | none=>rw[h2]at h;cases h
 | some p=>
  rw[h2]at h
  simp only[Option.map_some,Option.some.injEq,Prod.mk.injEq]at h
  exact⟨p,rfl,h.1,h.2⟩
theorem nj {j:Nat} {p:ByteArray×Value} (he:es.toList.map (fun e=>(e.key,e.val))=l.map fun p=>(Value.string p.1,p.2)) (hj:l[j]? =some p):∃e,es.toList[j]? =some e∧e.key= .string p.1∧e.val=p.2:=by
 have h:=lK he j
 rw[hj]at h
 cases h2:es.toList[j]? with
 | none=>rw[h2]at h;cases h
 | some e=>
  rw[h2]at h
  simp only[Option.map_some,Option.some.injEq,Prod.mk.injEq]at h
  exact⟨e,rfl,h.1,h.2⟩
theorem aae (he:es.toList.map (fun e=>(e.key,e.val))=l.map fun p=>(Value.string p.1,p.2)):∀x∈es.toList,IsKey .string x.key:=fun x hx=>by
 obtain⟨j,hj,e⟩:=List.getElem_of_mem hx
 obtain⟨p,_,h,_⟩:=iZ he (j:=j) (e:=x) (by rw[List.getElem?_eq_getElem hj,e])
 rw[h];trivial
/-- Where the key stands. -/
theorem ml (he:es.toList.map (fun e=>(e.key,e.val))=l.map fun p=>(Value.string p.1,p.2)) (c:ByteArray):
  (Instr.findNow .string (.string c) es.toList 0=some none∧c∉l.map (·.1)∧∀x∈es.toList,x.key≠ .string c)∨∃j e v,Instr.findNow .string (.string c) es.toList 0=some (some (j,v))∧es[j]? =some e∧e.key= .string c∧e.val=v∧l[j]? =some (c,v):=by
 rcases findNow_spec (d:=.string) (k:=.string c) trivial es.toList 0 (aae he)with⟨h1,h2⟩ | ⟨j,e,h1,h2,h3⟩
 ·refine .inl ⟨h1,fun hm=> ?_,h2⟩
  obtain⟨p,hp,rfl⟩:=List.mem_map.1 hm
  obtain⟨j,hj,e⟩:=List.getElem_of_mem hp
  obtain⟨x,k1,k2,_⟩:=nj he (j:=j) (p:=p) (by rw[List.getElem?_eq_getElem hj,e])
  exact h2 x (List.mem_of_getElem? k1) k2
 ·rw[Nat.zero_add]at h1
  obtain⟨⟨c',v'⟩,k1,k2,k3⟩:=iZ he h2
  rw[h3]at k2;injection k2 with k2;subst k2
  exact .inr ⟨j,e,_,h1,by simpa using h2,h3,rfl,by rw[k1,k3]⟩
theorem j8 (hs:Stamped es clock) (he:es.toList.map (fun e=>(e.key,e.val))=l.map fun p=>(Value.string p.1,p.2)):(l.map (·.1)).Nodup:=by
 have h:=((stamped_iff _ _).1 hs).2.2
 rw[List.Nodup,List.pairwise_map,List.pairwise_iff_getElem]
 rw[List.pairwise_iff_getElem]at h
 intro i j hi hj hij e
 obtain⟨x,a1,a2,_⟩:=nj he (List.getElem?_eq_getElem hi)
 obtain⟨y,b1,b2,_⟩:=nj he (List.getElem?_eq_getElem hj)
 obtain⟨hi',ex⟩:=List.getElem?_eq_some_iff.1 a1
 obtain⟨hj',ey⟩:=List.getElem?_eq_some_iff.1 b1
 exact h i j hi' hj' hij (by rw[ex,ey,a2,b2,e])
theorem cF.nodup (h:cF w b l):(l.map (·.1)).Nodup:=by obtain⟨es,clock,_,hs,he⟩:=h;exact j8 hs he
theorem cF.look (h:cF w b l) (ht:P.underlying t=some (.map kt et)) (hk:P.underlying kt=some .string) {z:Value} (hz:(zeroValue et).run P w= .ok z w) (c:ByteArray):
  (Instr.lookup t (.map (some b)) (.string c) false).run P w= .ok (((l.find? fun p=>decide (p.1=c)).map (·.2)).getD z) w:=by
 obtain⟨es,clock,hb,hs,he⟩:=h
 rcases ml he c with⟨h1,h2,_⟩ | ⟨j,e,v,h1,h2,h3,h4,h5⟩
 ·rw[oK ht hk hb h1 hz,List.find?_eq_none.2 (fun p hp=>by
   have:p.1≠c:=fun e=>h2 (List.mem_map.2 ⟨p,hp,e⟩)
   simpa using this)]
  rfl
 ·have hf:(l.find? fun p=>decide (p.1=c))=some (c,v):=by
   rw[List.find?_eq_some_iff_getElem]
   obtain⟨hj,e5⟩:=List.getElem?_eq_some_iff.1 h5
   refine⟨by simp,j,hj,e5,fun i hi=> ?_⟩
   have hn:=j8 hs he
   rw[List.Nodup,List.pairwise_map,List.pairwise_iff_getElem]at hn
   have:=hn i j (Nat.lt_trans hi hj) hj hi
   rw[e5]at this
   simpa using this
  rw[oK ht hk hb h1 hz,hf]
  rfl
abbrev stM (w:World) (b:Nat) (o:Obj):World:= {w with heap:=w.heap.setIfInBounds b o}
theorem aaf (hb:w.heap[b]? =some (.map es clock)) (o:Obj):(stM w b o).heap[b]? =some o:=(heap_set hb).1
theorem en (hb:w.heap[b]? =some (.map es clock)) (o:Obj):Upd w b (stM w b o):=⟨rfl,rfl,rfl,by simp,fun k hk=>(heap_set hb).2 k hk⟩
theorem vI {f:MapEntry→MapEntry} {j:Nat} (hs:Stamped es clock) (he:es.toList.map (fun e=>(e.key,e.val))=l.map fun p=>(Value.string p.1,p.2)) {e:MapEntry} (hj:es[j]? =some e) (hk:e.key= .string c) (hf:(f e).key= .string c) {v:Value} (hv:(f e).val=v):
  (es.modify j f).toList.map (fun e=>(e.key,e.val))=(oL l c v).map fun p=>(Value.string p.1,p.2):=by
 have hj':es.toList[j]? =some e:=by simpa using hj
 obtain⟨⟨c',u⟩,k1,k2,_⟩:=iZ he hj'
 rw[hk]at k2;injection k2 with k2;subst k2
 have hm:c∈l.map (·.1):=List.mem_map.2 ⟨_,List.mem_of_getElem? k1,rfl⟩
 have hn:=j8 hs he
 rw[oL,if_pos hm]
 apply List.ext_getElem?
 intro i
 simp only[List.getElem?_map,Array.getElem?_toList,Array.getElem?_modify]
 have hi:=lK he i
 rw[Array.getElem?_toList]at hi
 by_cases e2:j=i
 ·subst e2
  rw[if_pos rfl,hj,k1]
  simp[hf,hv]
 ·rw[if_neg e2,hi]
  cases h3:l[i]? with
  | none=>rfl
  | some p=>
   have hne:p.1≠c:=fun e3=>by
    obtain⟨hi2,e4⟩:=List.getElem?_eq_some_iff.1 h3
    obtain⟨hj2,e5⟩:=List.getElem?_eq_some_iff.1 k1
    rw[List.Nodup,List.pairwise_map,List.pairwise_iff_getElem]at hn
    rcases Nat.lt_or_ge i j with h | h
    ·exact hn i j hi2 hj2 h (by rw[e4,e5];exact e3)
    ·exact hn j i hj2 hi2 (by omega) (by rw[e4,e5];exact e3.symm)
   simp[hne]
theorem sB (he:es.toList.map (fun e=>(e.key,e.val))=l.map fun p=>(Value.string p.1,p.2)) (hc:c∉l.map (·.1)) (v:Value) (n:Nat):(es.push ⟨.string c,v,n⟩).toList.map (fun e=>(e.key,e.val))=(oL l c v).map fun p=>(Value.string p.1,p.2):=by
 rw[oL,if_neg hc,Array.toList_push,List.map_append,he,List.map_append];rfl
theorem cF.update (h:cF w b l) (ht:P.underlying t=some (.map kt et)) (hk:P.underlying kt=some .string) (c:ByteArray) (v:Value):
  ∃w',(Instr.mapUpdate t (.map (some b)) (.string c) v).run P w= .ok () w'∧cF w' b (oL l c v)∧Upd w b w':=by
 obtain⟨es,clock,hb,hs,he⟩:=h
 have hkc:IsKey .string (.string c):=trivial
 rcases ml he c with⟨h1,h2,h3⟩ | ⟨j,e,u,h1,h2,h3,h4,h5⟩
 ·refine⟨stM w b (.map (es.push ⟨.string c,v,clock⟩) (clock+1)),by simp[Instr.mapUpdate,run_underlying ht,Go.MapKept.run_getObj_map hb,run_checkKey hk hkc,run_findKey hk h1,run_setObj_map _ hb,Result.andThen],⟨_,_,(heap_set hb).1,stamped_push hs h3,sB he h2 v clock⟩,en hb _⟩
 ·refine⟨stM w b (.map (es.modify j fun e=> {e with key:=.string c,val:=v}) clock),by simp[Instr.mapUpdate,run_underlying ht,Go.MapKept.run_getObj_map hb,run_checkKey hk hkc,run_findKey hk h1,h2,h3,run_keyThatStays hkc,run_setObj_map _ hb,Result.andThen],⟨_,_,(heap_set hb).1,stamped_modify hs _ _ (fun _ _=>rfl) (fun e' _ he'=> ?_),vI hs he h2 h3 rfl rfl⟩,en hb _⟩
  rw[h2]at he';injection he' with he';subst he';exact h3.symm
/-- An entry, then a store into it. -/
theorem cF.entry (h:cF w b l) (ht:P.underlying t=some (.map kt et)) (hk:P.underlying kt=some .string) {z:Value} (hz:∀w,(zeroValue et).run P w= .ok z w) (c:ByteArray) (v:Value):
  ∃w1 u n w',(Instr.mapEntry t (.map (some b)) (.string c)).run P w= .ok (.tuple #[u,.int .i64 n]) w1∧(Instr.entryStore t (.map (some b)) (.int .i64 n) v).run P w1= .ok () w'∧cF w' b (oL l c v)∧Upd w b w1∧Upd w b w':=by
 obtain⟨es,clock,hb,hs,he⟩:=h
 have hkc:IsKey .string (.string c):=trivial
 have hs3:=(stamped_iff _ _).1 hs
 rcases ml he c with⟨h1,h2,h3⟩ | ⟨j,e,u,h1,h2,h3,h4,h5⟩
 ·have hb1:=aaf hb (.map (es.push ⟨.string c,z,clock⟩) (clock+1))
  have hfi:(es.push ⟨.string c,z,clock⟩).findIdx? (fun e=>(e.born:Int)==(clock:Int))=some es.size:=by
   rw[Array.findIdx?_eq_some_iff_getElem]
   refine⟨by simp,by simp,fun i hi=> ?_⟩
   have h4:=hs3.1 es[i] (by simp)
   rw[Array.getElem_push_lt hi]
   simp;omega
  refine⟨stM w b (.map (es.push ⟨.string c,z,clock⟩) (clock+1)),z,clock,stM (stM w b (.map (es.push ⟨.string c,z,clock⟩) (clock+1))) b (.map ((es.push ⟨.string c,z,clock⟩).modify es.size fun e=> {e with val:=v}) (clock+1)),by simp[Instr.mapEntry,run_underlying ht,Go.MapKept.run_getObj_map hb,run_checkKey hk hkc,run_findKey hk h1,hz,run_setObj_map _ hb,Result.andThen,goInt],by simp only[Instr.entryStore,Sem.run_bind,Go.MapKept.run_getObj_map hb1,asInt,asIntOf,Sem.run_pure,Result.andThen,hfi,run_setObj_map _ hb1],⟨_,_,(heap_set hb1).1,stamped_modify (stamped_push hs h3) _ _ (fun _ _=>rfl) (fun _ _ _=>rfl),?_⟩,en hb _,(en hb _).trans (en hb1 _)⟩
  have e2:(es.push ⟨.string c,z,clock⟩).modify es.size (fun e=> {e with val:=v})=es.push ⟨.string c,v,clock⟩:=by
   apply Array.ext_getElem?
   intro i
   rw[Array.getElem?_modify,Array.getElem?_push,Array.getElem?_push]
   by_cases e3:i=es.size
   ·subst e3;simp
   ·rw[if_neg (Ne.symm e3),if_neg e3,if_neg e3]
  rw[e2]
  exact sB he h2 v clock
 ·have hj':es.toList[j]? =some e:=by simpa using h2
  have hm1:Stamped (es.modify j fun e=> {e with key:=.string c}) clock:=stamped_modify hs _ _ (fun _ _=>rfl) (fun e' _ he'=>by rw[h2]at he';injection he' with he';subst he';exact h3.symm)
  have hb1:=aaf hb (.map (es.modify j fun e=> {e with key:=.string c}) clock)
  have e0:(es.modify j fun e=> {e with key:=.string c})=es:=by
   apply Array.ext_getElem?
   intro i
   rw[Array.getElem?_modify]
   by_cases e3:j=i
   ·subst e3;rw[if_pos rfl,h2];simp[←h3]
   ·rw[if_neg e3]
  rw[e0]at hb1
  have hfi:es.findIdx? (fun x=>(x.born:Int)==(e.born:Int))=some j:=by
   rw[Array.findIdx?_eq_some_iff_getElem]
   obtain⟨hj2,e4⟩:=Array.getElem?_eq_some_iff.1 h2
   refine⟨hj2,by simp[e4],fun i hi=> ?_⟩
   have hn:=hs3.2.1
   rw[List.Nodup,List.pairwise_map,List.pairwise_iff_getElem]at hn
   have:=hn i j (by simp;omega) (by simpa using hj2) hi
   simp only[Array.getElem_toList,e4]at this
   simp;omega
  refine⟨stM w b (.map es clock),u,e.born,stM (stM w b (.map es clock)) b (.map (es.modify j fun e=> {e with val:=v}) clock),by simp only[Instr.mapEntry,Sem.run_bind,run_underlying ht,Go.MapKept.run_getObj_map hb,run_checkKey hk hkc,run_findKey hk h1,h2,h3,Option.map_some,Option.getD_some,run_keyThatStays hkc,e0,run_setObj_map _ hb,Result.andThen,goInt,Sem.run_pure],by simp only[Instr.entryStore,Sem.run_bind,Go.MapKept.run_getObj_map hb1,asInt,asIntOf,Sem.run_pure,Result.andThen,hfi,run_setObj_map _ hb1],⟨_,_,(heap_set hb1).1,stamped_modify hs _ _ (fun _ _=>rfl) (fun _ _ _=>rfl),vI hs he h2 h3 h3 rfl⟩,en hb _,(en hb _).trans (en hb1 _)⟩
theorem cF.other (h:cF w b l) (e:w'.heap[b]? =w.heap[b]?):cF w' b l:=by
 obtain⟨es,clock,hb,h⟩:=h
 exact⟨es,clock,by rw[e];exact hb,h⟩
theorem cF.lt (h:cF w b l):b<w.heap.size:=by obtain⟨es,clock,hb,h⟩:=h;exact(Array.getElem?_eq_some_iff.1 hb).1
theorem cF.own (h:cF w b l):bB w b:=⟨h.lt,fun k n hk=>by
 obtain⟨es,clock,hb,h⟩:=h
 simp[World.cell?,hb]at hk⟩
/-- Which eZ an iterator has handed out. -/
def Vis (es:Array MapEntry) (seen:Array Nat) (l:List (ByteArray×Value)) (p:ByteArray×Value):Prop:=∃(j:Nat) (e:MapEntry),es.toList[j]? =some e∧l[j]? =some p∧e.born∈seen.toList
/-- The iterator in block r goes through the map in block m; V: what it has handed out; k: what it has still to. -/
def qX (w:World) (r m:Nat) (l:List (ByteArray×Value)) (V:ByteArray×Value→Prop) (k:Nat):Prop:=
 ∃(es:Array MapEntry) (clock since c0:Nat) (seen:Array Nat),w.heap[r]? =some (.mapIter (some m) since seen c0)∧since≤c0∧since≤clock∧w.heap[m]? =some (.map es clock)∧Stamped es clock∧es.toList.map (fun e=>(e.key,e.val))=l.map (fun p=>(Value.string p.1,p.2))∧
  (∀x∈es.toList,x.born<since)∧(∀p,V p↔Vis es seen l p)∧(leftOf es seen).size=k
theorem xp {es:Array MapEntry} {seen:Array Nat} {e:MapEntry} (h:e∈(leftOf es seen).toList):(leftOf es (seen.push e.born)).size<(leftOf es seen).size:=by
 have e1:(leftOf es (seen.push e.born)).toList=(leftOf es seen).toList.filter fun x=> !decide (x.born=e.born):=by
  unfold leftOf
  rw[Array.toList_filter,Array.toList_filter,List.filter_filter]
  congr 1
  funext x
  by_cases h1:x.born=e.born<;>simp[h1]
 rw[←Array.length_toList,←Array.length_toList,e1]
 refine Nat.lt_of_le_of_ne (List.length_filter_le _ _) (fun h2=> ?_)
 have:=List.length_filter_eq_length_iff.1 h2 e h
 simp at this
theorem pM (h:cF w b l) (ht:P.underlying t=some (.map kt et)):∃w1 k,(Instr.range t (.map (some b))).run P w= .ok (.pointer (some ⟨w.heap.size,0,none⟩)) w1∧qX w1 w.heap.size b l (fun _=>False) k∧Below w.heap.size w w1∧w1.heap.size=w.heap.size+1:=by
 obtain⟨es,clock,hb,hs,he⟩:=h
 have hs3:=(stamped_iff _ _).1 hs
 refine⟨_,_,run_range_map w t kt et b es clock ht hb,⟨es,clock,clock,clock,#[],heap_alloc_new w _,Nat.le_refl _,Nat.le_refl _,by rw[heap_alloc_old w _ (Array.getElem?_eq_some_iff.1 hb).1];exact hb,hs,he,hs3.1,fun p=>⟨fun h=>h.elim,fun⟨_,_,_,_,h⟩=>by simp at h⟩,rfl⟩,(Below.refl _ _).alloc (Nat.le_refl _) _,Array.size_push ..⟩
theorem oM {w1:World} {r k:Nat} (o:Obj) (hk:k≠r):(Go.ChangeMaps.setBlock w1 r o).heap[k]? =w1.heap[k]? :=by
 show(w1.heap.setIfInBounds r o)[k]? =_
 rw[Array.getElem?_setIfInBounds_ne (Ne.symm hk)]
theorem aag {w1:World} {r:Nat} (hw:w1=w∨w1=w.drew) (o:Obj):Upd w r (Go.ChangeMaps.setBlock w1 r o):=by
 have hs:(Go.ChangeMaps.setBlock w1 r o).heap.size=w1.heap.size:=Array.size_setIfInBounds ..
 rcases hw with rfl | rfl
 ·exact⟨rfl,rfl,rfl,hs,fun k hk=>oM o hk⟩
 ·exact⟨rfl,rfl,rfl,hs,fun k hk=>oM o hk⟩
theorem sC {r m k:Nat} {V:ByteArray×Value→Prop} (h:qX w r m l V k) (ty:TypeId):
  ((Instr.next (.pointer (some ⟨r,0,none⟩)) false ty).run P w= .ok (.tuple #[.bool false]) w∧∀p∈l,V p)∨
  ∃p∈l,∃w1 k1,k1<k∧(Instr.next (.pointer (some ⟨r,0,none⟩)) false ty).run P w= .ok (.tuple #[.bool true,.string p.1,p.2]) w1∧(Instr.entry (.pointer (some ⟨r,0,none⟩))).run P w1= .ok (.tuple #[.string p.1,p.2]) w1∧qX w1 r m l (fun x=>V x∨x=p) k1∧Upd w r w1:=by
 obtain⟨es,clock,since,c0,seen,hr,hsc,hsc2,hb,hs,he,hold,hV,hk⟩:=h
 have hs3:=(stamped_iff _ _).1 hs
 rcases run_next_at (P:=P) w ty r m since c0 seen es clock hr hb hold hsc with⟨h1,h2⟩ | ⟨e,h1,w1,h2,h3⟩
 ·refine .inl ⟨h2,fun p hp=>(hV p).2 ?_⟩
  obtain⟨j,hj,ep⟩:=List.getElem_of_mem hp
  obtain⟨e,k1,_,_⟩:=nj he (j:=j) (p:=p) (by rw[List.getElem?_eq_getElem hj,ep])
  refine⟨j,e,k1,by rw[List.getElem?_eq_getElem hj,ep],?_⟩
  have h3:leftOf es seen=#[]:=Array.eq_empty_of_size_eq_zero h1
  unfold leftOf at h3
  rw[Array.filter_eq_empty_iff]at h3
  have:=h3 e (by simpa using List.mem_of_getElem? k1)
  simpa using this
 ·have hes:e∈es.toList∧e.born∉seen.toList:=by
   unfold leftOf at h1
   simpa using h1
  obtain⟨j,hj,ee⟩:=List.getElem_of_mem hes.1
  have hje:es.toList[j]? =some e:=by rw[List.getElem?_eq_getElem hj,ee]
  obtain⟨p,k1,k2,k3⟩:=iZ he hje
  have hne:r≠m:=fun e2=>by subst e2;rw[hr]at hb;cases hb
  have hr1:w1.heap[r]? =some (.mapIter (some m) since seen c0):=by rcases h2 with rfl | rfl<;>exact hr
  have hm1:w1.heap[m]? =some (.map es clock):=by rcases h2 with rfl | rfl<;>exact hb
  have hlt:r<w1.heap.size:=(Array.getElem?_eq_some_iff.1 hr1).1
  have g1:(Go.ChangeMaps.setBlock w1 r (.mapIter (some m) since (seen.push e.born) clock)).heap[r]? =some (.mapIter (some m) since (seen.push e.born) clock):=by simp[Go.ChangeMaps.setBlock,hlt]
  have g2:(Go.ChangeMaps.setBlock w1 r (.mapIter (some m) since (seen.push e.born) clock)).heap[m]? =some (.map es clock):=by simp[Go.ChangeMaps.setBlock,hne,hm1]
  refine .inr ⟨p,List.mem_of_getElem? k1,_,_,by rw[←hk];exact xp h1,by rw[h3,k2,k3],by rw[run_entry_at _ r m since seen es clock e g1 g2 hes.1 hs3.2.1,k2,k3],⟨es,clock,since,clock,seen.push e.born,g1,hsc2,hsc2,g2,hs,he,hold,fun x=> ?_,rfl⟩,aag h2 _⟩
  show V x∨x=p↔_
  rw[hV]
  constructor
  ·rintro(⟨i,y,a1,a2,a3⟩ | rfl)
   ·exact⟨i,y,a1,a2,by simp at a3⊢;exact .inl a3⟩
   ·exact⟨j,e,hje,k1,by simp⟩
  ·rintro⟨i,y,a1,a2,a3⟩
   simp only[Array.toList_push,List.mem_append,List.mem_singleton]at a3
   rcases a3 with a3 | a3
   ·exact .inl ⟨i,y,a1,a2,a3⟩
   ·right
    have hn:=hs3.2.1
    rw[List.Nodup,List.pairwise_map,List.pairwise_iff_getElem]at hn
    obtain⟨hi,ey⟩:=List.getElem?_eq_some_iff.1 a1
    have:i=j:=by
     rcases Nat.lt_trichotomy i j with h | h | h
     ·exact absurd (by rw[ey,ee];exact a3) (hn i j hi hj h)
     ·exact h
     ·exact absurd (by rw[ey,ee];exact a3.symm) (hn j i hj hi h)
    subst this
    rw[k1]at a2;injection a2 with a2;exact a2.symm
theorem qX.other {r m k:Nat} {V:ByteArray×Value→Prop} (h:qX w r m l V k) (h1:w'.heap[r]? =w.heap[r]?) (h2:w'.heap[m]? =w.heap[m]?):qX w' r m l V k:=by
 obtain⟨es,clock,since,c0,seen,hr,hsc,hsc2,hb,h⟩:=h
 exact⟨es,clock,since,c0,seen,by rw[h1];exact hr,hsc,hsc2,by rw[h2];exact hb,h⟩
end
end Go.Proofs.YtggfmklppkioeaaGreat
namespace Go.Proofs.YtggfmklppkioeaaGreat
set_option linter.unusedSimpArgs false
set_option linter.unusedVariables false
set_option maxRecDepth 100000
open Go.RowKit
open Go.MapKept
abbrev lkT:TypeId:=156
abbrev oN:TypeId:=144
abbrev lpT:TypeId:=152
abbrev trT:TypeId:=223
abbrev mpT:TypeId:=142
abbrev ptB (b:Nat):Value:=.pointer (some ⟨b,0,none⟩)
/-- A link in memory: its block, its track's, the track's row. -/
structure Ln where
 x:Lk
 b:Nat
 g:Nat
 sl:Value
/-- A child in memory: the row of its links. -/
structure Ch where
 c:Nm
 rb:Nat
 cap:Nat
 ls:List Ln
def lnQ (c:Nm) (l:Ln):List Vp:=.val (.string c)::.val (.string l.x.par)::.val (.int .i64 l.x.fr)::.val (.int .i64 l.x.un)::.val (.bool l.x.st)::(frs l.x.po.cs++ [.val (ptB l.g)])
def j9 (w:World) (cs:Array Value) (qs:List Vp):Prop:=cs.size=qs.length∧∀(j:Nat) (q:Vp),qs[j]? =some q→∃u,cs[j]? =some u∧q.p w u
structure LnAt (w:World) (c:Nm) (l:Ln):Prop where
 blk:∃cs,w.heap[l.b]? =some (.cells cs lkT (0,0))∧j9 w cs (lnQ c l)
 trk:TrkS trT w l.g l.sl l.x.tr
structure ChAt (w:World) (ch:Ch):Prop where
 blk:∃cs,w.heap[ch.rb]? =some (.cells cs lpT (0,0))∧cs.size=ch.cap∧∀(j:Nat) (l:Ln),ch.ls[j]? =some l→cs[j]? =some (ptB l.b)
 le:ch.ls.length≤ch.cap
 cap:ch.cap≤maxLen
 ne:ch.ls≠ []
def Ln.fp (l:Ln):List Nat:=l.b::l.g::l.sl.ownBlock.toList
def Ch.fp (ch:Ch):List Nat:=ch.rb::ch.ls.flatMap Ln.fp
def fpT (t m:Nat) (E:List Ch):List Nat:=t::m::E.flatMap Ch.fp
def Ch.row (ch:Ch):Value:=.slice (some ⟨ch.rb,0,none⟩) ch.ls.length ch.cap
structure TM (w:World) (t m:Nat) (E:List Ch):Prop where
 tr:w.heap[t]? =some (.cells #[.map (some m)] oN (0,0))
 mp:cF w m (E.map fun ch=>(ch.c,ch.row))
 rows:∀ch∈E,ChAt w ch
 lns:∀ch∈E,∀l∈ch.ls,LnAt w ch.c l
 nd:(fpT t m E).Nodup
 own:∀g∈fpT t m E,bB w g
/-- The row of a child. -/
def chE (E:List Ch) (c:Nm):Option Ch:=E.find? fun ch=>decide (ch.c=c)
def lsE (E:List Ch) (c:Nm):List Ln:=((chE E c).map (·.ls)).getD []
def lL (E:List Ch) (c:Nm):Value:=((chE E c).map Ch.row).getD (.slice none 0 0)
theorem cK {E:List Ch} {c:Nm} {ch:Ch} (h:chE E c=some ch):ch∈E∧ch.c=c:=⟨List.mem_of_find?_eq_some h,by simpa using List.find?_some h⟩
theorem sD {E:List Ch} {c:Nm} (h:chE E c=none) {ch:Ch} (hm:ch∈E):ch.c≠c:=by
 have:=List.find?_eq_none.1 h ch hm
 simpa using this
/-! ### What lies in memory stays while other blocks change. -/
theorem j9.chg {w w':World} {X:Nat→Prop} {cs:Array Value} {qs:List Vp} (h:j9 w cs qs) (k:Chg w w' X) (hf:∀q∈qs,∀w v g,¬q.fp w v g):j9 w' cs qs:=
 ⟨h.1,fun j q hq=>by
  obtain⟨u,h1,h2⟩:=h.2 j q hq
  exact⟨u,h1,(q.ch w w' X u h2 k (fun g hg=>absurd hg (hf q (List.mem_of_getElem? hq) _ _ _))).1⟩⟩
theorem aah:∀ {xs:List Fq} {q:Vp},q∈frs xs→∀w v g,¬q.fp w v g
 | [],_,h,_,_,_=>by cases h
 | x::xs,q,h,w,v,g=>by
  simp only[frs,List.mem_cons]at h
  rcases h with rfl | rfl | rfl | h
  ·exact fun h=>h
  ·exact fun h=>h
  ·exact fun h=>h
  ·exact aah h w v g
theorem qY {c:Nm} {l:Ln}:∀q∈lnQ c l,∀w v g,¬q.fp w v g:=by
 intro q hq
 unfold lnQ at hq
 simp only[List.mem_cons,List.mem_append,List.not_mem_nil,or_false]at hq
 rcases hq with rfl | rfl | rfl | rfl | rfl | hq | rfl
 ·exact fun _ _ _ h=>h
 ·exact fun _ _ _ h=>h
 ·exact fun _ _ _ h=>h
 ·exact fun _ _ _ h=>h
 ·exact fun _ _ _ h=>h
 ·exact aah hq
 ·exact fun _ _ _ h=>h
theorem TrkS.chg {w w':World} {X:Nat→Prop} {T:TypeId} {g:Nat} {sl:Value} {S:List St} (h:TrkS T w g sl S) (k:Chg w w' X) (hg:¬X g) (hs:∀b,sl.ownBlock=some b→¬X b):TrkS T w' g sl S:=
 ⟨by rw[k.blk g (Array.getElem?_eq_some_iff.1 h.blk).1 hg];exact h.blk,((Vp.row stT S.length (aC S)).ch w w' X sl h.row k (fun b hb=>hs b (by obtain⟨o,n,c,e⟩:=hb;rw[e];rfl))).1,h.ne⟩
theorem LnAt.chg {w w':World} {X:Nat→Prop} {c:Nm} {l:Ln} (h:LnAt w c l) (k:Chg w w' X) (hX:∀g∈l.fp,¬X g):LnAt w' c l:=by
 obtain⟨⟨cs,h1,h2⟩,h3⟩:=h
 refine⟨⟨cs,by rw[k.blk _ (Array.getElem?_eq_some_iff.1 h1).1 (hX _ (List.mem_cons_self ..))];exact h1,h2.chg k qY⟩,h3.chg k (hX _ (by simp[Ln.fp])) (fun b hb=>hX b (by simp[Ln.fp,hb]))⟩
theorem ChAt.chg {w w':World} {X:Nat→Prop} {ch:Ch} (h:ChAt w ch) (k:Chg w w' X) (hX:¬X ch.rb):ChAt w' ch:=by
 obtain⟨⟨cs,h1,h2⟩,h3,h4,h5⟩:=h
 exact⟨⟨cs,by rw[k.blk _ (Array.getElem?_eq_some_iff.1 h1).1 hX];exact h1,h2⟩,h3,h4,h5⟩
theorem qZ {t m:Nat} {E:List Ch} {ch:Ch} (h:ch∈E) {g:Nat} (hg:g∈ch.fp):g∈fpT t m E:=List.mem_cons_of_mem _ (List.mem_cons_of_mem _ (List.mem_flatMap.2 ⟨ch,h,hg⟩))
theorem mem_fpL {t m:Nat} {E:List Ch} {ch:Ch} (h:ch∈E) {l:Ln} (hl:l∈ch.ls) {g:Nat} (hg:g∈l.fp):g∈fpT t m E:=qZ h (List.mem_cons_of_mem _ (List.mem_flatMap.2 ⟨l,hl,hg⟩))
theorem TM.chg {w w':World} {X:Nat→Prop} {t m:Nat} {E:List Ch} (h:TM w t m E) (k:Chg w w' X) (hX:∀g∈fpT t m E,¬X g):TM w' t m E:=by
 obtain⟨h1,h2,h4,h5,h6,h7⟩:=h
 refine⟨by rw[k.blk _ (Array.getElem?_eq_some_iff.1 h1).1 (hX _ (by simp[fpT]))];exact h1,h2.other (k.blk _ h2.lt (hX _ (by simp[fpT]))),fun ch hc=>(h4 ch hc).chg k (hX _ (qZ hc (List.mem_cons_self ..))),fun ch hc l hl=>(h5 ch hc l hl).chg k (fun g hg=>hX g (mem_fpL hc hl hg)),h6,fun g hg=>(h7 g hg).blk (k.blk g (h7 g hg).1 (hX g hg)) k.size⟩
theorem TM.below {w w':World} {t m:Nat} {E:List Ch} (h:TM w t m E) (k:Below w.heap.size w w'):TM w' t m E:=h.chg (.below k) (fun _ _ h=>h)
/-! ### What is read. -/
section
variable {w:World} {t m:Nat} {E:List Ch} {c:Nm} {ch:Ch} {l:Ln} {k:Nat}
theorem TM.cell (h:TM w t m E):w.cell? ⟨t,0,none⟩=some (.map (some m)):=by rw[ba h.tr];rfl
theorem xq (w:World):(zeroValue 158).run Tryz.prog w= .ok (.slice none 0 0) w:=by rfl
theorem TM.look (h:TM w t m E) (c:Nm):(Instr.lookup mpT (.map (some m)) (.string c) false).run Tryz.prog w= .ok (lL E c) w:=by
 rw[h.mp.look (t:=mpT) Tryz.underlying142 (by kernel_rfl) (xq w) c,List.find?_map]
 unfold lL chE
 congr 1
 cases hf:E.find? (fun ch=>decide (ch.c=c))with
 | none=>
  have:E.find? ((fun p:ByteArray×Value=>decide (p.1=c))∘ fun ch=>(ch.c,ch.row))=none:=hf
  rw[this];rfl
 | some ch=>
  have:E.find? ((fun p:ByteArray×Value=>decide (p.1=c))∘ fun ch=>(ch.c,ch.row))=some ch:=hf
  rw[this];rfl
theorem TM.chAt (h:TM w t m E) (hc:chE E c=some ch):ChAt w ch:=h.rows ch (cK hc).1
theorem TM.ln (h:TM w t m E) (hc:chE E c=some ch) (hl:l∈ch.ls):LnAt w c l:=by
 obtain⟨h1,rfl⟩:=cK hc
 exact h.lns ch h1 l hl
theorem ChAt.cell (h:ChAt w ch) (hk:ch.ls[k]? =some l):w.cell? ⟨ch.rb,k,none⟩=some (ptB l.b):=by
 obtain⟨⟨cs,h1,_,h2⟩,_⟩:=h
 rw[ba h1];exact h2 k l hk
theorem LnAt.cellv {j:Nat} {v:Value} (h:LnAt w c l) (hj:(lnQ c l)[j]? =some (.val v)):w.cell? ⟨l.b,j,none⟩=some v:=by
 obtain⟨⟨cs,h1,h2⟩,_⟩:=h
 obtain⟨u,h3,h4⟩:=h2.2 j _ hj
 have e:u=v:=h4.1
 rw[ba h1,h3,e]
theorem LnAt.par (h:LnAt w c l):w.cell? ⟨l.b,1,none⟩=some (.string l.x.par):=h.cellv rfl
theorem LnAt.fr (h:LnAt w c l):w.cell? ⟨l.b,2,none⟩=some (.int .i64 l.x.fr):=h.cellv rfl
theorem LnAt.un (h:LnAt w c l):w.cell? ⟨l.b,3,none⟩=some (.int .i64 l.x.un):=h.cellv rfl
theorem LnAt.st (h:LnAt w c l):w.cell? ⟨l.b,4,none⟩=some (.bool l.x.st):=h.cellv rfl
theorem LnAt.tp (h:LnAt w c l):w.cell? ⟨l.b,26,none⟩=some (ptB l.g):=h.cellv rfl
end
end Go.Proofs.YtggfmklppkioeaaGreat
namespace Go.Proofs.YtggfmklppkioeaaGreat
set_option linter.unusedSimpArgs false
set_option linter.unusedVariables false
set_option maxRecDepth 100000
open Go.RowKit
def ptO (o:Option Ln):Value:=match o with | some l=>ptB l.b | none=>.pointer none
theorem uu {w:World} {c:Nm} {l:Ln} (h:LnAt w c l) (a:Int):Calls Tryz.prog 153 #[ptB l.b,.int .i64 a] w fun e w'=>e= .returned (.bool (l.x.has a))∧w'=w:=by
 have h2:=h.fr
 have h3:=h.un
 have e:l.x.has a=(decide (l.x.fr≤a) && (decide (l.x.un= -1) || decide (a<l.x.un))):=rfl
 generalize l.x.has a=r at e⊢
 generalize l.b=b at h2 h3⊢
 generalize l.x.fr=f at h2 e
 generalize l.x.un=u at h3 e
 clear h
 by_cases c1:f≤a
 ·by_cases c2:u= -1
  ·subst c2
   simp[c1]at e;subst e
   go_enter Tryz.func153,Tryz.ntmps153
   go_wp2
   go_ret
   exact⟨rfl,rfl⟩
  ·have c2':(u== -1)=false:=beq_eq_false_iff_ne.2 c2
   simp[c1,c2]at e;subst e
   clear c2
   go_enter Tryz.func153,Tryz.ntmps153
   go_wp2
   go_ret
   exact⟨rfl,rfl⟩
 ·have c1':decide (f≤a)=false:=decide_eq_false c1
  simp[c1]at e;subst e
  go_enter Tryz.func153,Tryz.ntmps153
  go_wp2
  go_ret
  exact⟨rfl,rfl⟩
theorem xr {L:List Ln} {P:Ln→Bool} {k:Nat} {x:Ln} (hx:L[k]? =some x) (hn:∀j y,j<k→L[j]? =some y→P y=false) (hp:P x=true):L.find? P=some x:=by
 rw[List.find?_eq_some_iff_getElem]
 obtain⟨h1,h2⟩:=List.getElem?_eq_some_iff.1 hx
 exact⟨hp,k,h1,h2,fun j hj=>by simpa using hn j _ hj (List.getElem?_eq_getElem (Nat.lt_trans hj h1))⟩
theorem q_at {w:World} {t m:Nat} {E:List Ch} (h:TM w t m E) (c:Nm) (a:Int):Calls Tryz.prog 90 #[ptB t,.string c,.int .i64 a] w fun e w'=>e= .returned (ptO ((lsE E c).find? (·.x.has a)))∧w'=w:=by
 have h1:=h.cell
 have h2:=h.look c
 unfold lsE
 unfold lL at h2
 cases hc:chE E c with
 | none=>
  rw[hc]at h2
  simp only[Option.map_none,Option.getD_none]at h2⊢
  clear h hc
  go_enter Tryz.func90,Tryz.ntmps90
  go_wp2
  refine _root_.Go.wp_loop_rounds 1 ?_
  rw[rounds_succ]
  go_wp2
  go_ret
  exact⟨rfl,rfl⟩
 | some ch=>
  rw[hc]at h2
  simp only[Option.map_some,Option.getD_some]at h2⊢
  have H:=h.chAt hc
  have HL:∀l,l∈ch.ls→LnAt w c l:=fun l hl=>h.ln hc hl
  have hm:(ch.ls.length:Int)≤9223372036854775807:=by have:=H.le;have:=H.cap;unfold maxLen at this;omega
  have HC:=fun k l=>H.cell (k:=k) (l:=l)
  unfold Ch.row at h2
  clear h hc H
  generalize ch.rb=rb at h2 HC
  generalize ch.cap=cap at h2
  generalize ch.ls=L at *
  go_enter Tryz.func90,Tryz.ntmps90
  go_wp2
  go_loopw [18] (fun s18 wr=>∃k:Nat,k≤L.length∧s18= .int .i64 (k:Int)∧wr=w∧Hid (∀j y,j<k→L[j]? =some y→y.x.has a=false)) (fun s18 _=>L.length - (intOf s18).toNat)
  case atStart=>exact⟨0,Nat.zero_le _,rfl,rfl,Lib.hid (fun j y hj=>absurd hj (Nat.not_lt_zero j))⟩
  case round=>
   obtain⟨k,hk,rfl,rfl,HR⟩:=hrel
   rcases Nat.lt_or_ge k L.length with hlt | hge
   ·obtain⟨l,hl⟩:∃l,L[k]? =some l:=⟨_,List.getElem?_eq_getElem hlt⟩
    have hcl:=HC k l hl
    have hct:=uu (HL l (List.mem_of_getElem? hl)) a
    have HLL:=Lib.hid hl
    clear hl HC HL
    rcases Bool.eq_false_or_eq_true (l.x.has a)with hb | hb
    ·rw[hb]at hct
     have HF:=Lib.hid (show ptO (L.find? (·.x.has a))=ptB l.b by rw[xr HLL.out HR.out hb];rfl)
     clear hb
     generalize l.b=lb at *
     go_wp2_with (go_at_call 153;refine hct.mono ?_;rintro e w' ⟨rfl,rfl⟩)
     go_ret
     rw[HF.out]
     exact⟨rfl,rfl⟩
    ·rw[hb]at hct
     have HR2:=Lib.hid (show∀j y,j<k+1→L[j]? =some y→y.x.has a=false from fun j y hj hy=>by
      rcases Nat.lt_or_ge j k with h | h
      ·exact HR.out j y h hy
      ·obtain rfl:j=k:=by omega
       rw[HLL.out]at hy;injection hy with hy;subst hy;exact hb)
     clear hb
     generalize l.b=lb at *
     go_wp2_with (go_at_call 153;refine hct.mono ?_;rintro e w' ⟨rfl,rfl⟩)
     go_roundw
     case rel=>exact⟨k+1,by omega,by go_num,by trivial,HR2⟩
     case measure=>simp[intOf];omega
   ·have hkl:k=L.length:=by omega
    subst hkl
    have HF:=Lib.hid (show ptO (L.find? (·.x.has a))= .pointer none by
     rw[List.find?_eq_none.2 (fun y hy=>by
      obtain⟨j,hj,e⟩:=List.getElem_of_mem hy
      have:=HR.out j y hj (by rw[List.getElem?_eq_getElem hj,e])
      simp[this])];rfl)
    clear HC HL HR hge hk
    go_wp2
    go_ret
    rw[HF.out]
    exact⟨rfl,rfl⟩
/-- The open link. -/
def opL (L:List Ln):Option Ln:=match L.getLast? with | some l=>if l.x.un= -1 then some l else none | none=>none
theorem ke {w:World} {t m:Nat} {E:List Ch} (h:TM w t m E) (c:Nm):Calls Tryz.prog 124 #[ptB t,.string c] w fun e w'=>e= .returned (ptO (opL (lsE E c)))∧w'=w:=by
 have h1:=h.cell
 have h2:=h.look c
 unfold lsE
 unfold lL at h2
 cases hc:chE E c with
 | none=>
  rw[hc]at h2
  simp only[Option.map_none,Option.getD_none]at h2⊢
  clear h hc
  go_enter Tryz.func124,Tryz.ntmps124
  go_wp2
  go_ret
  exact⟨rfl,rfl⟩
 | some ch=>
  rw[hc]at h2
  simp only[Option.map_some,Option.getD_some]at h2⊢
  have H:=h.chAt hc
  obtain⟨n,hn⟩:∃n,ch.ls.length=n+1:=⟨ch.ls.length - 1,by have:=List.length_pos_iff.2 H.ne;omega⟩
  obtain⟨l,hl⟩:∃l,ch.ls[n]? =some l:=⟨_,List.getElem?_eq_getElem (by omega)⟩
  have hll:ch.ls.getLast? =some l:=by rw[List.getLast?_eq_getElem?,hn];exact hl
  have hm:((n+1:Nat):Int)≤9223372036854775807:=by have:=H.le;have:=H.cap;unfold maxLen at this;omega
  have hL:=h.ln hc (List.mem_of_getElem? hl)
  have hcl:=H.cell hl
  have hun:=hL.un
  have HO:=Lib.hid (show opL ch.ls=if l.x.un= -1 then some l else none by unfold opL;rw[hll])
  unfold Ch.row at h2
  rw[hn]at h2
  have hp:ptO (some l)=ptB l.b:=rfl
  obtain⟨N,hN⟩:∃N,N=n+1:=⟨_,rfl⟩
  obtain rfl:n=N - 1:=by omega
  rw[←hN]at h2 hm
  have hpos:((N:Int)==0)=false:=beq_eq_false_iff_ne.2 (by omega)
  have hk:((N:Int) - 1).toNat=N - 1:=by omega
  have hk1:(1:Int)≤N:=by omega
  have hk2:(N:Int) - 1<N:=by omega
  by_cases c1:l.x.un= -1
  ·rw[if_pos c1]at HO
   have HF:=Lib.hid (show ptO (opL ch.ls)=ptB l.b by rw[HO.out];rfl)
   rw[c1]at hun
   clear h hc H hL hl hll HO hp hn c1 hN
   generalize ch.rb=rb at *
   generalize ch.cap=cap at *
   generalize l.b=lb at *
   go_enter Tryz.func124,Tryz.ntmps124
   go_wp2
   go_ret
   rw[HF.out]
   exact⟨rfl,rfl⟩
  ·rw[if_neg c1]at HO
   have HF:=Lib.hid (show ptO (opL ch.ls)= .pointer none by rw[HO.out];rfl)
   have c2:(l.x.un== -1)=false:=beq_eq_false_iff_ne.2 c1
   clear h hc H hL hl hll HO hp hn c1 hN
   generalize ch.rb=rb at *
   generalize ch.cap=cap at *
   generalize l.b=lb at *
   generalize l.x.un=u at *
   go_enter Tryz.func124,Tryz.ntmps124
   go_wp2
   go_ret
   rw[HF.out]
   exact⟨rfl,rfl⟩
/-- The link of a child that holds at a time. -/
def atE (E:List Ch) (c:Nm) (a:Int):Option Ln:=(lsE E c).find? (·.x.has a)
theorem q6 {w:World} {t m:Nat} {E:List Ch} (h:TM w t m E) {c:Nm} {a:Int} {l:Ln} (hl:atE E c a=some l):∃ch,chE E c=some ch∧l∈ch.ls∧LnAt w c l:=by
 unfold atE lsE at hl
 cases hc:chE E c with
 | none=>rw[hc]at hl;cases hl
 | some ch=>
  rw[hc]at hl
  have:=List.mem_of_find?_eq_some hl
  exact⟨ch,rfl,this,h.ln hc this⟩
theorem sE {w:World} {t m:Nat} {E:List Ch} (h:TM w t m E) (c:Nm) (a:Int):Calls Tryz.prog 34 #[ptB t,.string c,.int .i64 a] w fun e w'=>e= .returned (match atE E c a with | some l=>.tuple #[.string l.x.par,.bool true] | none=>.tuple #[.string ByteArray.empty,.bool false])∧w'=w:=by
 have hat:=q_at h c a
 change Calls _ _ _ _ (fun e w'=>e= .returned (ptO (atE E c a))∧w'=w)at hat
 cases hl:atE E c a with
 | none=>
  rw[hl]at hat
  change Calls _ _ _ _ (fun e w'=>e= .returned (.pointer none)∧w'=w)at hat
  clear h hl
  go_enter Tryz.func34,Tryz.ntmps34
  go_wp2_with (go_at_call 90;refine hat.mono ?_;rintro e w' ⟨rfl,rfl⟩)
  go_ret2
  exact⟨rfl,rfl⟩
 | some l=>
  rw[hl]at hat
  change Calls _ _ _ _ (fun e w'=>e= .returned (ptB l.b)∧w'=w)at hat
  obtain⟨_,_,_,hL⟩:=q6 h hl
  have h1:=hL.par
  clear h hl hL
  generalize l.b=lb at *
  simp only
  generalize l.x.par=p at *
  go_enter Tryz.func34,Tryz.ntmps34
  go_wp2_with (go_at_call 90;refine hat.mono ?_;rintro e w' ⟨rfl,rfl⟩)
  go_ret2
  exact⟨rfl,rfl⟩
theorem aai {o f:Nm} (h:o≠f):(ByteArray.toList o==ByteArray.toList f)=false:=by
 refine beq_eq_false_iff_ne.2 (fun e=>h ?_)
 rw[Go.ByteArray.toList_eq,Go.ByteArray.toList_eq]at e
 obtain⟨⟨x⟩⟩:=o
 obtain⟨⟨y⟩⟩:=f
 simp at e;subst e;rfl
theorem Reach.nil {R:Tr} {a:Int} {o f:Nm} (h:par R a o=none) (k:Reach R a o f):o=f:=by
 cases k with
 | refl=>rfl
 | step e _=>rw[h]at e;cases e
theorem Reach.next {R:Tr} {a:Int} {o z f:Nm} (h:par R a o=some z) (hn:o≠f):Reach R a o f↔Reach R a z f:=by
 constructor
 ·intro k
  cases k with
  | refl=>exact absurd rfl hn
  | step e t=>rw[h]at e;injection e with e;subst e;exact t
 ·exact .step h
theorem q_above {w:World} {t m:Nat} {E:List Ch} {R:Tr} (h:TM w t m E) (hR:∀c a,(atE E c a).map (·.x)=tAt R c a) (f o:Nm) (a:Int) (he:ec R a o) (b:Bool) (hb:b=true↔Reach R a o f):
  Calls Tryz.prog 184 #[ptB t,.string f,.string o,.int .i64 a] w fun e w'=>e= .returned (.bool b)∧w'=w:=by
 obtain⟨n,y,_,hy,hz⟩:=he.root
 have H:=Lib.hid h
 have HRR:=Lib.hid hR
 have HZ:=Lib.hid hz
 have HY:=Lib.hid hy
 have HB:=Lib.hid hb
 clear h hR hz hy he hb
 go_enter Tryz.func184,Tryz.ntmps184
 go_wp2
 go_loopg [2] n (fun k s2 wr=>∃(o':Nm),s2= .string o'∧wr=w∧Hid (up R a k o'=some y)∧Hid (b=true↔Reach R a o' f))
 case atStart=>exact⟨o,rfl,rfl,HY,HB⟩
 case round=>
  obtain⟨o',rfl,rfl,HU,HB'⟩:=hrel
  clear HB HY
  by_cases hf:o'=f
  ·subst hf
   have hbt:b=true:=HB'.out.2 (.refl _)
   subst hbt
   go_wp2
   go_ret
   exact⟨rfl,rfl⟩
  ·have hat:=q_at H.out o' a
   change Calls _ _ _ _ (fun e w'=>e= .returned (ptO (atE E o' a))∧w'=wr)at hat
   have hpr:par R a o'=(atE E o' a).map (·.x.par):=by unfold par;rw[←HRR.out,Option.map_map];rfl
   have hne:=aai hf
   cases hl:atE E o' a with
   | none=>
    rw[hl]at hat hpr
    change Calls _ _ _ _ (fun e w'=>e= .returned (.pointer none)∧w'=wr)at hat
    have hbf:b=false:=Bool.eq_false_iff.2 (fun e=>hf (Reach.nil hpr (HB'.out.1 e)))
    subst hbf
    clear hl hf hpr
    go_wp2_with (go_at_call 90;refine hat.mono ?_;rintro e w' ⟨rfl,rfl⟩)
    go_ret
    exact⟨rfl,rfl⟩
   | some l=>
    rw[hl]at hat hpr
    change Calls _ _ _ _ (fun e w'=>e= .returned (ptB l.b)∧w'=wr)at hat
    obtain⟨_,_,_,hL⟩:=q6 H.out hl
    have h1:=hL.par
    have hpr:par R a o'=some l.x.par:=hpr
    have HB2:=Lib.hid (HB'.out.trans (Reach.next hpr hf))
    cases gk with
    | zero=>
     have e:o'=y:=by have:=HU.out;simp only[up,Option.some.injEq]at this;exact this
     subst e
     rw[HZ.out]at hpr;cases hpr
    | succ k=>
     have HU2:=Lib.hid (show up R a k l.x.par=some y by have:=HU.out;simp only[up,hpr,Option.bind_some]at this;exact this)
     clear hl hL HU HB' hf hpr
     generalize l.b=lb at *
     generalize l.x.par=p at *
     go_wp2_with (go_at_call 90;refine hat.mono ?_;rintro e w' ⟨rfl,rfl⟩)
     go_roundg k
     case measure=>omega
     case rel=>exact⟨p,rfl,by trivial,HU2,HB2⟩
end Go.Proofs.YtggfmklppkioeaaGreat
namespace Go.Proofs.YtggfmklppkioeaaGreat
set_option linter.unusedSimpArgs false
set_option linter.unusedVariables false
set_option maxRecDepth 100000
open Go.RowKit
/-- A set of texts. -/
def dt (w:World) (b:Nat) (l:List Nm):Prop:=cF w b (l.map fun c=>(c,Value.bool true))
open Classical in
noncomputable def mm (l:List Nm) (c:Nm):List Nm:=if c∈l then l else l++ [c]
theorem sF (l:List Nm) (c:Nm):oL (l.map fun c=>(c,Value.bool true)) c (.bool true)=(mm l c).map fun c=>(c,Value.bool true):=by
 have e:c∈(l.map fun c=>(c,Value.bool true)).map (·.1)↔c∈l:=by simp
 unfold oL mm
 by_cases h:c∈l
 ·rw[if_pos (e.2 h),if_pos h,List.map_map]
  refine List.map_congr_left (fun x _=> ?_)
  simp only[Function.comp]
  split
  ·rename_i h2;rw[←h2]
  ·rfl
 ·rw[if_neg (fun h2=>h (e.1 h2)),if_neg h,List.map_append];rfl
theorem gN {l:List Nm} {c x:Nm}:x∈mm l c↔x∈l∨x=c:=by
 unfold mm
 split
 ·rename_i h
  exact⟨.inl,fun h2=>h2.elim id (fun e=>e▸h)⟩
 ·simp
abbrev smT:TypeId:=150
theorem dt.upd {w:World} {b:Nat} {l:List Nm} (h:dt w b l) (c:Nm):∃w',(Instr.mapUpdate smT (.map (some b)) (.string c) (.bool true)).run Tryz.prog w= .ok () w'∧dt w' b (mm l c)∧Upd w b w':=by
 obtain⟨w',h1,h2,h3⟩:=cF.update (P:=Tryz.prog) (t:=smT) h Tryz.underlying150 (by kernel_rfl) c (.bool true)
 rw[sF]at h2
 exact⟨w',h1,h2,h3⟩
theorem dt.ent {w:World} {b:Nat} {l:List Nm} (h:dt w b l) (c:Nm):∃w1 u n w',(Instr.mapEntry smT (.map (some b)) (.string c)).run Tryz.prog w= .ok (.tuple #[u,.int .i64 n]) w1∧(Instr.entryStore smT (.map (some b)) (.int .i64 n) (.bool true)).run Tryz.prog w1= .ok () w'∧dt w' b (mm l c)∧Upd w b w':=by
 obtain⟨w1,u,n,w',h1,h2,h3,_,h4⟩:=cF.entry (P:=Tryz.prog) (t:=smT) (z:=.bool false) h Tryz.underlying150 (by kernel_rfl) (fun w=>by rfl) c (.bool true)
 rw[sF]at h3
 exact⟨w1,u,n,w',h1,h2,h3,h4⟩
theorem dt.nodup {w:World} {b:Nat} {l:List Nm} (h:dt w b l):l.Nodup:=by
 have:=cF.nodup h
 rwa [List.map_map,show((fun x:ByteArray×Value=>x.1)∘ fun c:Nm=>(c,Value.bool true))=id from rfl,List.map_id]at this
theorem aaj (t:TypeId) (w:World):∃w1,(Instr.makeMap t none).run Tryz.prog w= .ok (.map (some w.heap.size)) w1∧cF w1 w.heap.size []∧Below w.heap.size w w1∧w1.heap.size=w.heap.size+1:=
 ⟨_,run_makeMap t w,⟨#[],0,heap_alloc_new w _,Go.MapKept.stamped_empty 0,rfl⟩,(Below.refl _ _).alloc (Nat.le_refl _) _,Array.size_push ..⟩
theorem TM.uniq {w:World} {t m:Nat} {E:List Ch} (h:TM w t m E) {ch ch':Ch} (h1:ch∈E) (h2:ch'∈E) (e:ch'.c=ch.c):ch'=ch:=by
 have hn:=h.mp.nodup
 rw[List.map_map]at hn
 obtain⟨i,hi,e1⟩:=List.getElem_of_mem h1
 obtain⟨j,hj,e2⟩:=List.getElem_of_mem h2
 rw[List.Nodup,List.pairwise_map,List.pairwise_iff_getElem]at hn
 rcases Nat.lt_trichotomy i j with h | h | h
 ·exact absurd (show E[i].c=E[j].c by rw[e1,e2,e]) (hn i j hi hj h)
 ·subst h;rw[←e1,←e2]
 ·exact absurd (show E[j].c=E[i].c by rw[e1,e2,e]) (hn j i hj hi h)
theorem TM.upd {w w':World} {t m:Nat} {E:List Ch} {g:Nat} (h:TM w t m E) (u:Upd w g w') (o:bB w g) (hg:g∉fpT t m E):TM w' t m E:=h.chg (.upd o u) (fun k hk e=>hg (e▸hk))
theorem TM.lt {w:World} {t m:Nat} {E:List Ch} (h:TM w t m E):∀g∈fpT t m E,g<w.heap.size:=fun g hg=>(h.own g hg).1
def q7 (E:List Ch) (x:Nm):Prop:=∃ch∈E,∃l∈ch.ls,x=ch.c∨x=l.x.par
theorem i4 {w:World} {t m:Nat} {E:List Ch} (h:TM w t m E):Calls Tryz.prog 89 #[ptB t] w fun e w'=>∃b l,e= .returned (.map (some b))∧dt w' b l∧w.heap.size≤b∧(∀x,x∈l↔q7 E x)∧Below w.heap.size w w':=by
 obtain⟨w1,hmk,hM,hb1,hs1⟩:=aaj smT w
 have h':=h.below hb1
 obtain⟨w2,k0,hrg,hR,hb2,hs2⟩:=pM (P:=Tryz.prog) (t:=mpT) h'.mp Tryz.underlying142
 rw[hs1]at hrg hR hs2
 have H2:=h'.below hb2
 have hM2:dt w2 w.heap.size []:=hM.other (hb2.block _ hM.lt)
 have hB:=hb1.trans (hb2.mono (by omega))
 have c1:=h'.cell
 generalize hbb:w.heap.size=B at *
 generalize hrr:B+1=r at *
 clear hM h' hb1 hb2 hs1
 go_enter Tryz.func89,Tryz.ntmps89
 go_wp2
 have hT0:=Lib.hid H2
 have hlow:=Lib.hid (show∀g∈fpT t m E,g<B from fun g hg=>by have:=h.lt g hg;omega)
 have hbr:=Lib.hid (show B<r by omega)
 have hR0:=Lib.hid hR
 have hM0:=Lib.hid hM2
 have hB0:=Lib.hid hB
 have hu:=Lib.hid (fun(ch ch':Ch)=>h.uniq (ch:=ch) (ch':=ch'))
 have hrz:=Lib.hid (show r<w2.heap.size by omega)
 clear h hR hM2 hB H2 hrr hbb hs2 hmk hrg c1
 go_loopg [] k0 (fun k wr=>∃(V:ByteArray×Value→Prop) (l:List Nm),Hid (qX wr r m (E.map fun ch=>(ch.c,ch.row)) V k)∧Hid (dt wr B l)∧Hid (TM wr t m E)∧Hid (Below B w wr)∧Hid (r<wr.heap.size)∧Hid (∀x,x∈l↔∃ch∈E,V (ch.c,ch.row)∧∃ln∈ch.ls,x=ch.c∨x=ln.x.par))
 case atStart=>exact⟨_,_,hR0,hM0,hT0,hB0,hrz,Lib.hid (fun x=>⟨fun h=>(by cases h),fun⟨_,_,h,_⟩=>h.elim⟩)⟩
 case round=>
  clear hT0 hR0 hM0 hB0 hrz
  obtain⟨V,l,hR,hM,hT,hB,hrz,hL⟩:=hrel
  rcases sC (P:=Tryz.prog) hR.out 0 with⟨hnx,hall⟩ | ⟨p,hp,w3,k3,hk3,hnx,hen,hR3,hu3⟩
  ·have HA:=Lib.hid hall
   clear hall
   go_wp2
   go_ret
   refine⟨B,l,rfl,hM.out,Nat.le_refl _,fun x=> ?_,hB.out⟩
   rw[hL.out]
   exact⟨fun⟨ch,h1,_,h2⟩=>⟨ch,h1,h2⟩,fun⟨ch,h1,h2⟩=>⟨ch,h1,HA.out _ (List.mem_map.2 ⟨ch,h1,rfl⟩),h2⟩⟩
  ·obtain⟨ch,hch,rfl⟩:=List.mem_map.1 hp
   have hrlt:=hrz.out
   have horX:bB wr r:=⟨hrlt,fun k n hk=>by
    obtain⟨es,clock,since,c0,seen,h,_⟩:=hR.out
    simp[World.cell?,h]at hk⟩
   have hT3:=Lib.hid (hT.out.upd hu3 horX (fun hm=>by have:=hlow.out r hm;have:=hbr.out;omega))
   have hM3:=Lib.hid (show dt w3 B l from hM.out.other (hu3.block _ (by have:=hbr.out;omega)))
   have hB3:=Lib.hid (hu3.below hB.out (by have:=hbr.out;omega))
   have hrz3:=Lib.hid (show r<w3.heap.size by rw[hu3.size];exact hrlt)
   have HR3:=Lib.hid hR3
   have H:=hT.out.rows ch hch
   have hm:(ch.ls.length:Int)≤9223372036854775807:=by have:=H.le;have:=H.cap;unfold maxLen at this;omega
   clear hT hM hR hB hrz hrlt horX H hR3 hu3 hp
   change (Instr.next _ _ _).run _ _= .ok (.tuple #[.bool true,.string ch.c,ch.row]) w3 at hnx
   change (Instr.entry _).run _ _= .ok (.tuple #[.string ch.c,ch.row]) w3 at hen
   unfold Ch.row at hnx hen
   obtain⟨n,hn⟩:∃n,n=ch.ls.length:=⟨_,rfl⟩
   rw[←hn]at hnx hen hm
   have HN:=Lib.hid hn
   clear hn
   go_wp2
   go_loopw [21] (fun s21 wq=>∃(j:Nat) (l':List Nm),j≤n∧s21= .int .i64 (j:Int)∧Hid (qX wq r m (E.map fun ch=>(ch.c,ch.row)) (fun x=>V x∨x=(ch.c,ch.row)) k3)∧Hid (dt wq B l')∧Hid (TM wq t m E)∧Hid (Below B w wq)∧Hid (r<wq.heap.size)∧Hid (∀x,x∈l'↔x∈l∨∃(i:Nat) (ln:Ln),i<j∧ch.ls[i]? =some ln∧(x=ch.c∨x=ln.x.par))) (fun s21 _=>n - (intOf s21).toNat)
   case atStart=>exact⟨0,l,Nat.zero_le _,rfl,HR3,hM3,hT3,hB3,hrz3,Lib.hid (fun x=>⟨.inl,fun h=>h.elim id (fun⟨i,_,h,_⟩=>absurd h (Nat.not_lt_zero i))⟩)⟩
   case round=>
    clear HR3 hM3 hT3 hB3 hrz3 hnx hen
    obtain⟨j,l',hj,rfl,hR,hM,hT,hB,hrz,hL'⟩:=hrel
    rcases Nat.lt_or_ge j n with hlt | hge
    ·obtain⟨ln,hln⟩:∃ln,ch.ls[j]? =some ln:=⟨_,List.getElem?_eq_getElem (by rw[←HN.out];exact hlt)⟩
     have hcl:=(hT.out.rows ch hch).cell hln
     have hpar:=(hT.out.lns ch hch ln (List.mem_of_getElem? hln)).par
     have HLN:=Lib.hid hln
     obtain⟨w4,h4,hM4,hu4⟩:=hM.out.upd ch.c
     obtain⟨w5,u,n5,w6,h5,h6,hM6,hu6⟩:=hM4.ent ln.x.par
     have u46:=hu4.trans hu6
     have hoB:bB wr B:=hM.out.own
     have hT6:=Lib.hid (hT.out.upd u46 hoB (fun hm=>by have:=hlow.out B hm;omega))
     have hM6':=Lib.hid hM6
     have hR6:=Lib.hid (hR.out.other (u46.block r (by have:=hbr.out;omega)) (u46.block m (by have:=hlow.out m (by simp[fpT]);omega)))
     have hB6:=Lib.hid (u46.below hB.out (Nat.le_refl _))
     have hrz6:=Lib.hid (show r<w6.heap.size by rw[u46.size];exact hrz.out)
     have hL6:=Lib.hid (show∀x,x∈mm (mm l' ch.c) ln.x.par↔x∈l∨∃(i:Nat) (ln:Ln),i<j+1∧ch.ls[i]? =some ln∧(x=ch.c∨x=ln.x.par)from fun x=>by
      rw[gN,gN,hL'.out]
      constructor
      ·rintro(((h | ⟨i,y,a1,a2,a3⟩) | rfl) | rfl)
       ·exact .inl h
       ·exact .inr ⟨i,y,by omega,a2,a3⟩
       ·exact .inr ⟨j,ln,by omega,HLN.out,.inl rfl⟩
       ·exact .inr ⟨j,ln,by omega,HLN.out,.inr rfl⟩
      ·rintro(h | ⟨i,y,a1,a2,a3⟩)
       ·exact .inl (.inl (.inl h))
       ·rcases Nat.lt_or_ge i j with h | h
        ·exact .inl (.inl (.inr ⟨i,y,h,a2,a3⟩))
        ·obtain rfl:i=j:=by omega
         rw[HLN.out]at a2;injection a2 with a2;subst a2
         rcases a3 with rfl | rfl
         ·exact .inl (.inr rfl)
         ·exact .inr rfl)
     clear hln hM4 hM6 hu4 hu6 u46 hoB hR hM hT hB hrz hL'
     generalize ln.b=lb at *
     generalize mm (mm l' ch.c) ln.x.par=l6 at *
     generalize ln.x.par=pr at *
     go_wp2
     go_roundw
     case rel=>exact⟨j+1,l6,by omega,by go_num,hR6,hM6',hT6,hB6,hrz6,hL6⟩
     case measure=>simp[intOf];omega
    ·obtain rfl:j=n:=by omega
     have hL6:=Lib.hid (show∀x,x∈l'↔∃ch'∈E,(V (ch'.c,ch'.row)∨(ch'.c,ch'.row)=(ch.c,ch.row))∧∃ln∈ch'.ls,x=ch'.c∨x=ln.x.par from fun x=>by
      rw[hL'.out,hL.out]
      constructor
      ·rintro(⟨ch',a1,a2,a3⟩ | ⟨i,y,a1,a2,a3⟩)
       ·exact⟨ch',a1,.inl a2,a3⟩
       ·exact⟨ch,hch,.inr rfl,y,List.mem_of_getElem? a2,a3⟩
      ·rintro⟨ch',a1,a2 | a2,y,a3,a4⟩
       ·exact .inl ⟨ch',a1,a2,y,a3,a4⟩
       ·have e:ch'=ch:=hu.out ch ch' hch a1 (congrArg (·.1) a2)
        subst e
        obtain⟨i,hi,e2⟩:=List.getElem_of_mem a3
        exact .inr ⟨i,y,by rw[HN.out];exact hi,by rw[List.getElem?_eq_getElem hi,e2],a4⟩)
     clear hL hL'
     go_wp2
     go_roundg k3
     case measure=>exact hk3
     case rel=>exact⟨_,l',hR,hM,hT,hB,hrz,hL6⟩
/-- The links of a tree in memory. -/
def trE (E:List Ch):Tr:=E.flatMap fun ch=>ch.ls.map fun l=>(ch.c,l.x)
theorem cZ {E:List Ch} {q:Nm×Lk}:q∈trE E↔∃ch∈E,∃l∈ch.ls,q=(ch.c,l.x):=by
 unfold trE
 rw[List.mem_flatMap]
 constructor
 ·rintro⟨ch,h1,h2⟩
  obtain⟨l,h3,rfl⟩:=List.mem_map.1 h2
  exact⟨ch,h1,l,h3,rfl⟩
 ·rintro⟨ch,h1,l,h3,rfl⟩
  exact⟨ch,h1,List.mem_map.2 ⟨l,h3,rfl⟩⟩
theorem q8 (d c:Nm) (ls:List Ln):lks (ls.map fun l=>(d,l.x)) c=if d=c then ls.map (·.x)else []:=by
 induction ls with
 | nil=>split<;>rfl
 | cons l ls ih=>
  rw[List.map_cons,oH,ih]
  by_cases h:d=c
  ·simp only[if_pos h,List.map_cons]
  ·simp only[if_neg h]
theorem fu:∀ {E:List Ch},(E.map (·.c)).Nodup→∀c,lks (trE E) c=(lsE E c).map (·.x)
 | [],_,_=>rfl
 | ch::E,h,c=>by
  obtain⟨h1,h2⟩:=List.nodup_cons.1 h
  have ih:=fu h2 c
  have e:trE (ch::E)=(ch.ls.map fun l=>(ch.c,l.x))++trE E:=rfl
  rw[e,ft,q8,ih]
  unfold lsE chE
  by_cases hc:ch.c=c
  ·rw[if_pos hc,List.find?_cons_of_pos (by simpa using hc)]
   have:E.find? (fun ch=>decide (ch.c=c))=none:=List.find?_eq_none.2 (fun x hx=>by
    have:x.c≠c:=fun e=>h1 (List.mem_map.2 ⟨x,hx,e.trans hc.symm⟩)
    simpa using this)
   rw[this]
   simp
  ·rw[if_neg hc,List.find?_cons_of_neg (by simpa using hc),List.nil_append]
theorem TM.keys {w:World} {t m:Nat} {E:List Ch} (h:TM w t m E):(E.map (·.c)).Nodup:=by
 have hn:=h.mp.nodup
 rwa [List.map_map]at hn
theorem TM.tAt {w:World} {t m:Nat} {E:List Ch} (h:TM w t m E) (c:Nm) (a:Int):(atE E c a).map (·.x)=tAt (trE E) c a:=by
 unfold atE Go.Proofs.YtggfmklppkioeaaGreat.tAt
 rw[fu h.keys,List.find?_map]
 rfl
open Classical in
theorem sG {w:World} {t m:Nat} {E:List Ch} (h:TM w t m E) (hE:TOk (trE E)) (f o:Nm) (a:Int):
  Calls Tryz.prog 184 #[ptB t,.string f,.string o,.int .i64 a] w fun e w'=>e= .returned (.bool (decide (Reach (trE E) a o f)))∧w'=w:=
 q_above h h.tAt f o a (hE.acy a o) _ (by simp)
open Classical in
set_option maxHeartbeats 400000 in
theorem np {w:World} {t m:Nat} {E:List Ch} (h:TM w t m E) (hE:TOk (trE E)) (c p:Nm) (f:Int):Calls Tryz.prog 125 #[ptB t,.string c,.string p,.int .i64 f] w fun e w'=>e= .returned (.bool (decide (Cyc (trE E) c p f)))∧Below w.heap.size w w':=by
 have hab:=sG h hE c p f
 by_cases hr:Reach (trE E) f p c
 ·have hcy:Cyc (trE E) c p f:=.inl hr
  rw[decide_eq_true hcy]
  rw[decide_eq_true hr]at hab
  clear h hr hcy hE
  go_enter Tryz.func125,Tryz.ntmps125
  go_wp2_with (go_at_call 184;refine hab.mono ?_;rintro e w' ⟨rfl,hw'⟩;obtain rfl:=hw'.symm)
  go_ret
  exact⟨rfl,Below.refl _ _⟩
 ·rw[decide_eq_false hr]at hab
  obtain⟨w2,k0,hrg,hR,hb2,hs2⟩:=pM (P:=Tryz.prog) (t:=mpT) h.mp Tryz.underlying142
  have H2:=h.below hb2
  have c1:=h.cell
  obtain⟨r,hrr⟩:∃r,w.heap.size=r:=⟨_,rfl⟩
  rw[hrr]at hrg hR hs2
  have hlow:=Lib.hid (show∀g∈fpT t m E,g<r from fun g hg=>by have:=h.lt g hg;omega)
  have hT0:=Lib.hid H2
  have hR0:=Lib.hid hR
  have hB0:=Lib.hid hb2
  have hu:=Lib.hid (fun(ch ch':Ch)=>h.uniq (ch:=ch) (ch':=ch'))
  have hwr:=Lib.hid (show w.heap.size≤r by omega)
  have hrz:=Lib.hid (show r<w2.heap.size by omega)
  have HE:=Lib.hid hE
  have HNR:=Lib.hid hr
  obtain⟨b,hbb⟩:∃b,b=decide (Cyc (trE E) c p f):=⟨_,rfl⟩
  have HBB:=Lib.hid hbb
  rw[←hbb]
  clear h hR H2 hs2 hr hE hbb hb2
  go_enter Tryz.func125,Tryz.ntmps125
  go_wp2_with (go_at_call 184;refine hab.mono ?_;rintro e w' ⟨rfl,hw'⟩;obtain rfl:=hw'.symm)
  clear hab hrg c1 hrr
  go_loopg [] k0 (fun k wr=>∃(V:ByteArray×Value→Prop),Hid (qX wr r m (E.map fun ch=>(ch.c,ch.row)) V k)∧Hid (TM wr t m E)∧Hid (Below w.heap.size w wr)∧Hid (r<wr.heap.size)∧Hid (∀ch∈E,V (ch.c,ch.row)→∀ln∈ch.ls,¬(f<ln.x.fr∧Reach (trE E) ln.x.fr p c)))
  case atStart=>exact⟨_,hR0,hT0,hB0,hrz,Lib.hid (fun _ _ h=>h.elim)⟩
  case round=>
   clear hT0 hR0 hB0 hrz
   obtain⟨V,hR,hT,hB,hrz,hL⟩:=hrel
   rcases sC (P:=Tryz.prog) hR.out 0 with⟨hnx,hall⟩ | ⟨q,hp,w3,k3,hk3,hnx,hen,hR3,hu3⟩
   ·have hbf:b=false:=by
     rw[HBB.out]
     refine decide_eq_false ?_
     rintro(h1 | ⟨q,h1,h2,h3⟩)
     ·exact HNR.out h1
     ·obtain⟨ch,a1,l,a2,rfl⟩:=cZ.1 h1
      exact hL.out ch a1 (hall _ (List.mem_map.2 ⟨ch,a1,rfl⟩)) l a2 ⟨h2,h3⟩
    subst hbf
    clear hall
    go_wp2
    go_ret
    exact⟨rfl,hB.out⟩
   ·obtain⟨ch,hch,rfl⟩:=List.mem_map.1 hp
    have hrlt:=hrz.out
    have horX:bB wr r:=⟨hrlt,fun k n hk=>by
     obtain⟨es,clock,since,c0,seen,h,_⟩:=hR.out
     simp[World.cell?,h]at hk⟩
    have hT3:=Lib.hid (hT.out.upd hu3 horX (fun hm=>by have:=hlow.out r hm;omega))
    have hB3:=Lib.hid (hu3.below hB.out hwr.out)
    have hrz3:=Lib.hid (show r<w3.heap.size by rw[hu3.size];exact hrlt)
    have HR3:=Lib.hid hR3
    have H:=hT.out.rows ch hch
    have hm:(ch.ls.length:Int)≤9223372036854775807:=by have:=H.le;have:=H.cap;unfold maxLen at this;omega
    clear hT hR hB hrz hrlt horX H hR3 hu3 hp
    change (Instr.next _ _ _).run _ _= .ok (.tuple #[.bool true,.string ch.c,ch.row]) w3 at hnx
    change (Instr.entry _).run _ _= .ok (.tuple #[.string ch.c,ch.row]) w3 at hen
    unfold Ch.row at hnx hen
    obtain⟨n,hn⟩:∃n,n=ch.ls.length:=⟨_,rfl⟩
    rw[←hn]at hnx hen hm
    have HN:=Lib.hid hn
    clear hn
    go_wp2
    go_loopw [29] (fun s29 wq=>∃(j:Nat),j≤n∧s29= .int .i64 (j:Int)∧wq=w3∧Hid (∀(i:Nat) (ln:Ln),i<j→ch.ls[i]? =some ln→¬(f<ln.x.fr∧Reach (trE E) ln.x.fr p c))) (fun s29 _=>n - (intOf s29).toNat)
    case atStart=>exact⟨0,Nat.zero_le _,rfl,rfl,Lib.hid (fun i _ h=>absurd h (Nat.not_lt_zero i))⟩
    case round=>
     clear hnx hen
     obtain⟨j,hj,rfl,rfl,hL'⟩:=hrel
     rcases Nat.lt_or_ge j n with hlt | hge
     ·obtain⟨ln,hln⟩:∃ln,ch.ls[j]? =some ln:=⟨_,List.getElem?_eq_getElem (by rw[←HN.out];exact hlt)⟩
      have hmem:=List.mem_of_getElem? hln
      have hcl:=(hT3.out.rows ch hch).cell hln
      have hfr:=(hT3.out.lns ch hch ln hmem).fr
      have HLN:=Lib.hid hln
      have hab:=sG hT3.out HE.out c p ln.x.fr
      have hq:=cZ.2 ⟨ch,hch,ln,hmem,rfl⟩
      by_cases h1:f<ln.x.fr
      ·by_cases h2:Reach (trE E) ln.x.fr p c
       ·have hbt:b=true:=by rw[HBB.out];exact decide_eq_true (.inr ⟨_,hq,h1,h2⟩)
        subst hbt
        rw[decide_eq_true h2]at hab
        clear h2 hq hmem hln
        generalize ln.x.fr=fr at *
        generalize ln.b=lb at *
        go_wp2_with (go_at_call 184;refine hab.mono ?_;rintro e w' ⟨rfl,hw'⟩;obtain rfl:=hw'.symm)
        go_ret
        exact⟨rfl,hB3.out⟩
       ·rw[decide_eq_false h2]at hab
        have hL2:=Lib.hid (show∀(i:Nat) (ln:Ln),i<j+1→ch.ls[i]? =some ln→¬(f<ln.x.fr∧Reach (trE E) ln.x.fr p c)from fun i y hi hy=>by
         rcases Nat.lt_or_ge i j with h | h
         ·exact hL'.out i y h hy
         ·obtain rfl:i=j:=by omega
          rw[HLN.out]at hy;injection hy with hy;subst hy
          exact fun h=>h2 h.2)
        clear h2 hq hmem hln hL'
        generalize ln.x.fr=fr at *
        generalize ln.b=lb at *
        go_wp2_with (go_at_call 184;refine hab.mono ?_;rintro e w' ⟨rfl,hw'⟩;obtain rfl:=hw'.symm)
        go_roundw
        case rel=>exact⟨j+1,by omega,by go_num,by trivial,hL2⟩
        case measure=>simp[intOf];omega
      ·have h1':decide (f<ln.x.fr)=false:=decide_eq_false h1
       have hL2:=Lib.hid (show∀(i:Nat) (ln:Ln),i<j+1→ch.ls[i]? =some ln→¬(f<ln.x.fr∧Reach (trE E) ln.x.fr p c)from fun i y hi hy=>by
        rcases Nat.lt_or_ge i j with h | h
        ·exact hL'.out i y h hy
        ·obtain rfl:i=j:=by omega
         rw[HLN.out]at hy;injection hy with hy;subst hy
         exact fun h=>h1 h.1)
       clear hab hq hmem hln hL' h1
       generalize ln.x.fr=fr at *
       generalize ln.b=lb at *
       go_wp2
       go_roundw
       case rel=>exact⟨j+1,by omega,by go_num,by trivial,hL2⟩
       case measure=>simp[intOf];omega
     ·obtain rfl:j=n:=by omega
      have hL2:=Lib.hid (show∀ch'∈E,(V (ch'.c,ch'.row)∨(ch'.c,ch'.row)=(ch.c,ch.row))→∀ln∈ch'.ls,¬(f<ln.x.fr∧Reach (trE E) ln.x.fr p c)from fun ch' a1 a2 ln a3=>by
       rcases a2 with a2 | a2
       ·exact hL.out ch' a1 a2 ln a3
       ·have e:ch'=ch:=hu.out ch ch' hch a1 (congrArg (·.1) a2)
        subst e
        obtain⟨i,hi,e2⟩:=List.getElem_of_mem a3
        exact hL'.out i ln (by rw[HN.out];exact hi) (by rw[List.getElem?_eq_getElem hi,e2]))
      clear hL hL'
      go_wp2
      go_roundg k3
      case measure=>exact hk3
      case rel=>exact⟨_,HR3,hT3,hB3,hrz3,hL2⟩
end Go.Proofs.YtggfmklppkioeaaGreat
namespace Go.Proofs.YtggfmklppkioeaaGreat
set_option linter.unusedSimpArgs false
set_option linter.unusedVariables false
set_option maxRecDepth 100000
open Go.RowKit
theorem fp_put {A B o o':List Nat} {b g n:Nat} (h:(A++(b::g::o)++B).Nodup) (hlt:∀x∈A++(b::g::o)++B,x<n) (ho:∀x∈o',x∈o∨n≤x) (hn:o'.Nodup):(A++(b::g::o')++B).Nodup:=by
 simp only[List.nodup_append,List.nodup_cons,List.mem_cons,List.mem_append]at h hlt⊢
 obtain⟨⟨h1,⟨h2,h3,h4⟩,h5⟩,h6,h7⟩:=h
 have lt:∀x∈o',∀y,((y∈A∨y=b∨y=g∨y∈o)∨y∈B)→(x∉o)→y≠x:=fun x hx y hy hxo e=>by
  have:=hlt y hy
  rcases ho x hx with h | h
  ·exact hxo h
  ·omega
 refine⟨⟨h1,⟨fun h=> ?_,fun h=> ?_,hn⟩,fun a ha c hc=> ?_⟩,h6,fun a ha c hc=> ?_⟩
 ·rcases h with h | h
  ·exact h2 (.inl h)
  ·by_cases hb:b∈o
   ·exact h2 (.inr hb)
   ·exact lt b h b (.inl (.inr (.inl rfl))) hb rfl
 ·by_cases hg:g∈o
  ·exact h3 hg
  ·exact lt g h g (.inl (.inr (.inr (.inl rfl)))) hg rfl
 ·rcases hc with rfl | rfl | hc
  ·exact h5 a ha _ (.inl rfl)
  ·exact h5 a ha _ (.inr (.inl rfl))
  ·by_cases hco:c∈o
   ·exact h5 a ha _ (.inr (.inr hco))
   ·exact lt c hc a (.inl (.inl ha)) hco
 ·rcases ha with ha | rfl | rfl | ha
  ·exact h7 a (.inl ha) c hc
  ·exact h7 _ (.inr (.inl rfl)) c hc
  ·exact h7 _ (.inr (.inr (.inl rfl))) c hc
  ·by_cases hao:a∈o
   ·exact h7 a (.inr (.inr (.inr hao))) c hc
   ·exact fun e=>lt a ha c (.inr hc) hao e.symm
def cn (E1 E2:List Ch) (c:Nm) (rb cap:Nat) (L1 L2:List Ln) (l:Ln):List Ch:=E1++⟨c,rb,cap,L1++l::L2⟩::E2
theorem dC (t m:Nat) (E1 E2:List Ch) (c:Nm) (rb cap:Nat) (L1 L2:List Ln) (l:Ln):fpT t m (cn E1 E2 c rb cap L1 L2 l)=(t::m::(E1.flatMap Ch.fp++rb::L1.flatMap Ln.fp))++(l.b::l.g::l.sl.ownBlock.toList)++(L2.flatMap Ln.fp++E2.flatMap Ch.fp):=by
 simp[fpT,cn,Ch.fp,Ln.fp,List.flatMap_append,List.flatMap_cons,List.append_assoc]
theorem eU (E1 E2:List Ch) (c:Nm) (rb cap:Nat) (L1 L2:List Ln) (l:Ln):trE (cn E1 E2 c rb cap L1 L2 l)=(trE E1++L1.map fun l=>(c,l.x))++(c,l.x)::((L2.map fun l=>(c,l.x))++trE E2):=by
 simp[trE,cn,List.flatMap_append,List.flatMap_cons,List.append_assoc]
theorem TM.put {w w':World} {t m:Nat} {E1 E2:List Ch} {c:Nm} {rb cap:Nat} {L1 L2:List Ln} {l l':Ln} (h:TM w t m (cn E1 E2 c rb cap L1 L2 l)) (hb:l'.b=l.b) (hg:l'.g=l.g)
  (ho:∀b,l'.sl.ownBlock=some b→l.sl.ownBlock=some b∨w.heap.size≤b) (hL:LnAt w' c l') (hown:∀g∈l'.fp,bB w' g) (k:Chg w w' (· ∈l.fp)):TM w' t m (cn E1 E2 c rb cap L1 L2 l'):=by
 have hnd:=h.nd
 have hlt:=h.lt
 rw[dC]at hnd hlt
 have hon:(l'.sl.ownBlock.toList).Nodup:=by cases l'.sl.ownBlock<;>simp
 have hnd':(fpT t m (cn E1 E2 c rb cap L1 L2 l')).Nodup:=by
  rw[dC,hb,hg]
  refine fp_put hnd hlt (fun x hx=> ?_) hon
  have hx:l'.sl.ownBlock=some x:=by simpa using hx
  exact(ho x hx).imp (fun h=>by simp[h]) id
 have hdis:∀x,(x∈(t::m::(E1.flatMap Ch.fp++rb::L1.flatMap Ln.fp))∨x∈(L2.flatMap Ln.fp++E2.flatMap Ch.fp))→x∉l.fp:=fun x hx hl=>by
  rw[List.nodup_append,List.nodup_append]at hnd
  have hl:x∈l.b::l.g::l.sl.ownBlock.toList:=hl
  rcases hx with hx | hx
  ·exact hnd.1.2.2 x hx x hl rfl
  ·exact hnd.2.2 x (List.mem_append.2 (.inr hl)) x hx rfl
 have hchE:∀ch∈E1++E2,ch∈cn E1 E2 c rb cap L1 L2 l:=fun ch hc=>by
  unfold cn
  rcases List.mem_append.1 hc with h | h
  ·exact List.mem_append.2 (.inl h)
  ·exact List.mem_append.2 (.inr (List.mem_cons_of_mem _ h))
 have hchd:∀ch∈E1++E2,∀g∈ch.fp,g∉l.fp:=fun ch hc g hg'=>by
  refine hdis g ?_
  rcases List.mem_append.1 hc with h | h
  ·exact .inl (List.mem_cons_of_mem _ (List.mem_cons_of_mem _ (List.mem_append.2 (.inl (List.mem_flatMap.2 ⟨ch,h,hg'⟩)))))
  ·exact .inr (List.mem_append.2 (.inr (List.mem_flatMap.2 ⟨ch,h,hg'⟩)))
 have hlnd:∀y∈L1++L2,∀g∈y.fp,g∉l.fp:=fun y hy g hg'=>by
  refine hdis g ?_
  rcases List.mem_append.1 hy with h | h
  ·exact .inl (List.mem_cons_of_mem _ (List.mem_cons_of_mem _ (List.mem_append.2 (.inr (List.mem_cons_of_mem _ (List.mem_flatMap.2 ⟨y,h,hg'⟩))))))
  ·exact .inr (List.mem_append.2 (.inl (List.mem_flatMap.2 ⟨y,h,hg'⟩)))
 have hmid:(⟨c,rb,cap,L1++l::L2⟩:Ch)∈cn E1 E2 c rb cap L1 L2 l:=List.mem_append.2 (.inr (List.mem_cons_self ..))
 have hsplit:∀ch∈cn E1 E2 c rb cap L1 L2 l',ch∈E1++E2∨ch=⟨c,rb,cap,L1++l'::L2⟩:=fun ch hc=>by
  unfold cn at hc
  rcases List.mem_append.1 hc with h | h
  ·exact .inl (List.mem_append.2 (.inl h))
  ·rcases List.mem_cons.1 h with h | h
   ·exact .inr h
   ·exact .inl (List.mem_append.2 (.inr h))
 have hm:m∉l.fp:=hdis m (.inl (by simp))
 have ht:t∉l.fp:=hdis t (.inl (by simp))
 have hrb:rb∉l.fp:=hdis rb (.inl (by simp))
 refine⟨by rw[k.blk _ (Array.getElem?_eq_some_iff.1 h.tr).1 ht];exact h.tr,?_,fun ch hc=> ?_,fun ch hc y hy=> ?_,hnd',fun g hg'=> ?_⟩
 ·have:=h.mp.other (k.blk _ h.mp.lt hm)
  simpa [cn,Ch.row]using this
 ·rcases hsplit ch hc with h1 | rfl
  ·exact(h.rows ch (hchE ch h1)).chg k (hchd ch h1 _ (List.mem_cons_self ..))
  ·obtain⟨⟨cs,h1,h2,h3⟩,h4,h5,_⟩:=(h.rows _ hmid).chg k hrb
   refine⟨⟨cs,h1,h2,fun j y hy=> ?_⟩,by simpa using h4,h5,by simp⟩
   rcases Nat.lt_trichotomy j L1.length with hj | hj | hj
   ·refine h3 j y ?_
    rw[List.getElem?_append_left hj]at hy⊢;exact hy
   ·subst hj
    rw[List.getElem?_append_right (Nat.le_refl _),Nat.sub_self]at hy
    simp at hy;subst hy
    rw[hb]
    exact h3 L1.length l (by rw[List.getElem?_append_right (Nat.le_refl _),Nat.sub_self];rfl)
   ·refine h3 j y ?_
    rw[List.getElem?_append_right (by omega),List.getElem?_cons,if_neg (by omega)]at hy⊢;exact hy
 ·rcases hsplit ch hc with h1 | rfl
  ·exact(h.lns ch (hchE ch h1) y hy).chg k (fun g hg'=>hchd ch h1 g (List.mem_cons_of_mem _ (List.mem_flatMap.2 ⟨y,hy,hg'⟩)))
  ·have hy:y∈L1++l'::L2:=hy
   have hy2:y=l'∨y∈L1++L2:=by
    simp only[List.mem_append,List.mem_cons]at hy⊢
    rcases hy with h | h | h
    ·exact .inr (.inl h)
    ·exact .inl h
    ·exact .inr (.inr h)
   rcases hy2 with rfl | hy2
   ·exact hL
   ·have hym:y∈(⟨c,rb,cap,L1++l::L2⟩:Ch).ls:=by
     show y∈L1++l::L2
     simp only[List.mem_append,List.mem_cons]at hy2⊢
     exact hy2.imp id .inr
    exact(h.lns _ hmid y hym).chg k (hlnd y hy2)
 ·rw[dC,List.mem_append,List.mem_append]at hg'
  have hold:∀x,(x∈(t::m::(E1.flatMap Ch.fp++rb::L1.flatMap Ln.fp))∨x∈(L2.flatMap Ln.fp++E2.flatMap Ch.fp))→bB w' x:=fun x hx=>by
   have hox:bB w x:=h.own x (by
    rw[dC,List.mem_append,List.mem_append]
    exact hx.imp .inl id)
   exact hox.blk (k.blk x hox.1 (hdis x hx)) k.size
  rcases hg' with(h1 | h1) | h1
  ·exact hold g (.inl h1)
  ·exact hown g h1
  ·exact hold g (.inr h1)
theorem set_own {w:World} {b k:Nat} {v:Value} {cs:Array Value} {T:TypeId} (hb:w.heap[b]? =some (.cells cs T (0,0))) (o:bB w b) (hv:∀n,v≠ .int .u32 n):bB (w.setCell ⟨b,k,none⟩ v) b:=by
 refine .mk' (heap_setCell_same w b k cs T v hb) (fun j n hj=> ?_)
 rw[Array.getElem?_setIfInBounds]at hj
 split at hj
 ·split at hj
  ·injection hj with hj;exact hv n hj
  ·cases hj
 ·exact o.2 j n (by rw[ba hb];exact hj)
/-- Only the blocks of F, and new ones, have changed. -/
abbrev Kp (w:World) (F:List Nat) (w':World):Prop:=(Ent.mk w (fun g=>g∈F) []).kept w'
theorem Kp.chg {w w':World} {F:List Nat} (k:Kp w F w') (o:∀g∈F,bB w g):Chg w w' (· ∈F):=⟨k.size,k.block,o⟩
theorem Kp.of_below {w w':World} {F:List Nat} (h:Below w.heap.size w w'):Kp w F w':=⟨h.os,h.tape,h.output,h.size,fun k hk _=>h.block k hk⟩
theorem Kp.upd {w w':World} {F:List Nat} {g:Nat} (u:Upd w g w') (hg:g∈F):Kp w F w':=⟨u.os,u.tape,u.output,by rw[u.size];exact Nat.le_refl _,fun k _ hk=>u.block k (fun e=>hk (e▸hg))⟩
theorem Kp.mono {w w':World} {F F':List Nat} (h:Kp w F w') (hF:∀g∈F,g∈F'):Kp w F' w':=⟨h.os,h.tape,h.output,h.size,fun k hk hn=>h.block k hk (fun hm=>hn (hF k hm))⟩
/-- What a call on a tree leaves in memory. -/
structure TPost (w:World) (t m:Nat) (E:List Ch) (w':World) (E':List Ch):Prop where
 tm:TM w' t m E'
 kp:Kp w (fpT t m E) w'
 fp:∀g∈fpT t m E',g∈fpT t m E∨w.heap.size≤g
theorem TPost.refl {w w':World} {t m:Nat} {E:List Ch} (h:TM w t m E) (hb:Below w.heap.size w w'):TPost w t m E w' E:=⟨h.below hb,.of_below hb,fun _ h=>.inl h⟩
theorem uv {E:List Ch} {c:Nm} {ch:Ch} {k:Nat} {l:Ln} (hc:chE E c=some ch) (hk:ch.ls[k]? =some l):∃E1 E2 L1 L2,E=cn E1 E2 c ch.rb ch.cap L1 L2 l∧L1.length=k∧ch.ls=L1++l::L2:=by
 obtain⟨_,A,B,rfl,_⟩:=List.find?_eq_some_iff_append.1 hc
 have e:=(cK hc).2
 obtain⟨L1,L2,h1,h2⟩:=oJ hk
 refine⟨A,B,L1,L2,?_,h2,h1⟩
 unfold cn
 obtain⟨c',rb,cap,ls⟩:=ch
 simp only at e h1⊢
 subst e;subst h1;rfl
theorem TM.lnd {w:World} {t m:Nat} {E1 E2:List Ch} {c:Nm} {rb cap:Nat} {L1 L2:List Ln} {l:Ln} (h:TM w t m (cn E1 E2 c rb cap L1 L2 l)):l.fp.Nodup:=by
 have hnd:=h.nd
 rw[dC,List.nodup_append,List.nodup_append]at hnd
 exact hnd.1.2.1
theorem TM.sub {w:World} {t m:Nat} {E1 E2:List Ch} {c:Nm} {rb cap:Nat} {L1 L2:List Ln} {l:Ln} (_:TM w t m (cn E1 E2 c rb cap L1 L2 l)):∀g∈l.fp,g∈fpT t m (cn E1 E2 c rb cap L1 L2 l):=fun g hg=>by
 rw[dC];exact List.mem_append.2 (.inl (List.mem_append.2 (.inr hg)))
theorem TM.mid {w:World} {t m:Nat} {E1 E2:List Ch} {c:Nm} {rb cap:Nat} {L1 L2:List Ln} {l:Ln} (h:TM w t m (cn E1 E2 c rb cap L1 L2 l)):LnAt w c l:=
 h.lns ⟨c,rb,cap,L1++l::L2⟩ (List.mem_append.2 (.inr (List.mem_cons_self ..))) l (List.mem_append.2 (.inr (List.mem_cons_self ..)))
theorem LnAt.setv {w:World} {c:Nm} {l l':Ln} {j:Nat} {v:Value} (h:LnAt w c l) (hn:l.fp.Nodup) (o:bB w l.b) (hv:dr v) (hq:lnQ c l'=(lnQ c l).set j (.val v)) (hb:l'.b=l.b) (hg:l'.g=l.g) (hs:l'.sl=l.sl) (ht:l'.x.tr=l.x.tr):LnAt (w.setCell ⟨l.b,j,none⟩ v) c l':=by
 obtain⟨⟨cs,h1,h2,h3⟩,h4⟩:=h
 have hk:Chg w (w.setCell ⟨l.b,j,none⟩ v) (fun x=>x=l.b):=.upd o (Upd.cell w l.b j v)
 have hn2:l.b≠l.g∧∀b,l.sl.ownBlock=some b→b≠l.b:=by
  unfold Ln.fp at hn
  obtain⟨a1,_⟩:=List.nodup_cons.1 hn
  exact⟨fun e=>a1 (e▸List.mem_cons_self ..),fun b hb e=>a1 (e▸List.mem_cons_of_mem _ (by simp[hb]))⟩
 refine⟨⟨cs.setIfInBounds j v,by rw[hb];exact heap_setCell_same w l.b j cs lkT v h1,by rw[hq];simpa using h2,fun i q hi=> ?_⟩,by rw[hg,hs,ht];exact h4.chg hk (fun e=>hn2.1 e.symm) hn2.2⟩
 rw[hq,List.getElem?_set]at hi
 rw[Array.getElem?_setIfInBounds]
 split at hi
 ·rename_i e;subst e
  split at hi
  ·rename_i hlt
   injection hi with hi;subst hi
   rw[if_pos rfl,if_pos (by rw[h2];exact hlt)]
   exact⟨v,rfl,rfl,hv⟩
  ·cases hi
 ·rename_i e
  rw[if_neg e]
  obtain⟨u,k1,k2⟩:=h3 i q hi
  have hqm:q∈lnQ c l:=List.mem_of_getElem? hi
  exact⟨u,k1,(q.ch _ _ _ u k2 hk (fun g hg=>absurd hg (qY q hqm _ _ _))).1⟩
/-- A cell of a link is written. -/
theorem TM.setv {w:World} {t m:Nat} {E1 E2:List Ch} {c:Nm} {rb cap:Nat} {L1 L2:List Ln} {l l':Ln} {j:Nat} {v:Value} (h:TM w t m (cn E1 E2 c rb cap L1 L2 l)) (hv:dr v) (hq:lnQ c l'=(lnQ c l).set j (.val v)) (hb:l'.b=l.b) (hg:l'.g=l.g) (hs:l'.sl=l.sl) (ht:l'.x.tr=l.x.tr):
  TPost w t m (cn E1 E2 c rb cap L1 L2 l) (w.setCell ⟨l.b,j,none⟩ v) (cn E1 E2 c rb cap L1 L2 l'):=by
 have hown:∀g∈l.fp,bB w g:=fun g hg=>h.own g (h.sub g hg)
 have hn:=h.lnd
 have hmid:=h.mid
 have u:=Upd.cell w l.b j v
 have e:l'.fp=l.fp:=by unfold Ln.fp;rw[hb,hg,hs]
 obtain⟨⟨cs,h1,_⟩,_⟩:=h.mid
 have hlb:bB w l.b:=hown _ (List.mem_cons_self ..)
 have hc:Chg w (w.setCell ⟨l.b,j,none⟩ v) (· ∈l.fp):=⟨by rw[u.size];exact Nat.le_refl _,fun g _ hg=>u.block g (fun e=>hg (e▸List.mem_cons_self ..)),hown⟩
 refine⟨h.put hb hg (fun b hb=>.inl (hs▸hb)) (hmid.setv hn hlb hv hq hb hg hs ht) (fun g hg'=> ?_) hc,.upd u (h.sub _ (List.mem_cons_self ..)),fun g hg'=>.inl ?_⟩
 ·rw[e]at hg'
  by_cases e2:g=l.b
  ·subst e2;exact set_own h1 hlb (fun n=>hv.2.2 n)
  ·exact(hown g hg').blk (u.block g e2) (by rw[u.size];exact Nat.le_refl _)
 ·rw[dC]at hg'⊢
  rw[hb,hg,hs]at hg';exact hg'
/-- What Detach does. -/
inductive DetS (R:Tr) (c:Nm) (u:Int):Tr→Int→Prop
 | none (h:qU R c):DetS R c u R 6
 | time {k:Nat} {x:Lk} (h:sA R c k x) (ht:u≤x.fr∨mj<u):DetS R c u R 17
 | ok {A B:Tr} {x:Lk} (e:R=A++(c,x)::B) (h:x.un= -1) (h1:x.fr<u) (h2:u≤mj):DetS R c u (A++(c,{x with un:=u})::B) 0
theorem oO {w:World} {t m:Nat} {E:List Ch} (h:TM w t m E) (hE:TOk (trE E)) {c:Nm} (ho:opL (lsE E c)=none):qU (trE E) c:=by
 rintro i ⟨c',x⟩ hi ⟨h1,h2⟩
 simp only at h1 h2;subst h1
 have hm:=List.mem_of_getElem? hi
 obtain⟨A,B,e,_⟩:=oJ hi
 have hr:=hE.row c'
 have e2:lks (trE E) c'=lks A c'++x::lks B c':=by rw[e,cY,if_pos rfl]
 have e3:lks B c'=[]:=iY (A:=A) (c:=c') (x:=x) (by rw[←e];exact hr) h2
 rw[e3,fu h.keys]at e2
 unfold opL at ho
 cases hl:(lsE E c').getLast? with
 | none=>
  have:=List.getLast?_eq_none_iff.1 hl
  rw[this]at e2;simp at e2
 | some l=>
  have h4:((lsE E c').map (·.x)).getLast? =some l.x:=by rw[List.getLast?_map,hl];rfl
  rw[e2,List.getLast?_append]at h4
  simp at h4
  rw[hl]at ho
  simp only at ho
  rw[if_pos (by rw[←h4];exact h2)]at ho
  cases ho
theorem lM {E:List Ch} {c:Nm} {l:Ln} (ho:opL (lsE E c)=some l):l.x.un= -1∧∃ch,chE E c=some ch∧ch.ls[ch.ls.length - 1]? =some l:=by
 unfold opL at ho
 cases hl:(lsE E c).getLast? with
 | none=>rw[hl]at ho;cases ho
 | some l'=>
  rw[hl]at ho
  simp only at ho
  split at ho
  ·rename_i h1
   injection ho with ho;subst ho
   refine⟨h1,?_⟩
   unfold lsE at hl
   cases hc:chE E c with
   | none=>rw[hc]at hl;cases hl
   | some ch=>
    rw[hc]at hl
    exact⟨ch,rfl,by rw[←List.getLast?_eq_getElem?];exact hl⟩
  ·cases ho
theorem aak {w:World} {t m:Nat} {E:List Ch} (h:TM w t m E) (hE:TOk (trE E)) (c:Nm) (u:Int):Calls Tryz.prog 68 #[ptB t,.string c,.int .i64 u] w fun e w'=>∃E' code,e= .returned (.int .i64 code)∧TPost w t m E w' E'∧DetS (trE E) c u (trE E') code:=by
 have hop:=ke h c
 cases ho:opL (lsE E c)with
 | none=>
  rw[ho]at hop
  change Calls _ _ _ _ (fun e w'=>e= .returned (.pointer none)∧w'=w)at hop
  have HP:=Lib.hid (show∃E' code,Ending.returned (.int .i64 6)= .returned (.int .i64 code)∧TPost w t m E w E'∧DetS (trE E) c u (trE E') code from⟨E,6,rfl,.refl h (Below.refl _ _),.none (oO h hE ho)⟩)
  clear h hE ho
  go_enter Tryz.func68,Tryz.ntmps68
  go_wp2_with (go_at_call 124;refine hop.mono ?_;rintro e w' ⟨rfl,hw'⟩;obtain rfl:=hw'.symm)
  go_ret
  exact HP.out
 | some l=>
  rw[ho]at hop
  change Calls _ _ _ _ (fun e w'=>e= .returned (ptB l.b)∧w'=w)at hop
  obtain⟨hun,ch,hc,hk⟩:=lM ho
  have hL:=h.ln hc (List.mem_of_getElem? hk)
  have hfr:=hL.fr
  have hq:=cZ.2 ⟨ch,(cK hc).1,l,List.mem_of_getElem? hk,rfl⟩
  rw[(cK hc).2]at hq
  obtain⟨k,hk1,hk2⟩:=List.getElem_of_mem hq
  have hpos:sA (trE E) c k l.x:=⟨by rw[List.getElem?_eq_getElem hk1,hk2],hun⟩
  by_cases c1:u≤l.x.fr
  ·have HP:=Lib.hid (show∃E' code,Ending.returned (.int .i64 17)= .returned (.int .i64 code)∧TPost w t m E w E'∧DetS (trE E) c u (trE E') code from⟨E,17,rfl,.refl h (Below.refl _ _),.time hpos (.inl c1)⟩)
   clear h hE ho hL hq hpos hk hun hc hk1 hk2
   generalize l.x.fr=fr at *
   generalize l.b=lb at *
   go_enter Tryz.func68,Tryz.ntmps68
   go_wp2_with (go_at_call 124;refine hop.mono ?_;rintro e w' ⟨rfl,hw'⟩;obtain rfl:=hw'.symm)
   go_ret
   exact HP.out
  ·by_cases c2:1099511627776<u
   ·have HP:=Lib.hid (show∃E' code,Ending.returned (.int .i64 17)= .returned (.int .i64 code)∧TPost w t m E w E'∧DetS (trE E) c u (trE E') code from⟨E,17,rfl,.refl h (Below.refl _ _),.time hpos (.inr c2)⟩)
    clear h hE ho hL hq hpos hk hun hc hk1 hk2
    generalize l.x.fr=fr at *
    generalize l.b=lb at *
    go_enter Tryz.func68,Tryz.ntmps68
    go_wp2_with (go_at_call 124;refine hop.mono ?_;rintro e w' ⟨rfl,hw'⟩;obtain rfl:=hw'.symm)
    go_ret
    exact HP.out
   ·obtain⟨E1,E2,L1,L2,rfl,_,hls⟩:=uv hc hk
    have c1':decide (u≤l.x.fr)=false:=decide_eq_false c1
    have c2':decide (1099511627776<u)=false:=decide_eq_false c2
    have HP:=Lib.hid (show∃E' code,Ending.returned (.int .i64 0)= .returned (.int .i64 code)∧TPost w t m (cn E1 E2 c ch.rb ch.cap L1 L2 l) (w.setCell ⟨l.b,3,none⟩ (.int .i64 u)) E'∧DetS (trE (cn E1 E2 c ch.rb ch.cap L1 L2 l)) c u (trE E') code from by
     refine⟨cn E1 E2 c ch.rb ch.cap L1 L2 {l with x:= {l.x with un:=u}},0,rfl,?_,?_⟩
     ·exact h.setv (l':= {l with x:= {l.x with un:=u}}) aO rfl rfl rfl rfl rfl
     ·rw[eU,eU]
      exact .ok rfl hun (by omega) (by unfold mj;omega))
    have hcu:=hL.un
    have hfz:w.frozen? ⟨l.b,3,none⟩=false:=by
     obtain⟨⟨cs,h1,_⟩,_⟩:=hL
     simp[World.frozen?,h1]
    clear h hE ho hL hq hpos hk hun hc hk1 hk2 c1 c2 hls
    generalize l.x.fr=fr at *
    generalize l.b=lb at *
    go_enter Tryz.func68,Tryz.ntmps68
    go_wp2_with (go_at_call 124;refine hop.mono ?_;rintro e w' ⟨rfl,hw'⟩;obtain rfl:=hw'.symm)
    go_ret
    exact HP.out
end Go.Proofs.YtggfmklppkioeaaGreat
namespace Go.Proofs.YtggfmklppkioeaaGreat
set_option linter.unusedSimpArgs false
set_option linter.unusedVariables false
set_option maxRecDepth 100000
open Go.RowKit
theorem dI {E:List Ch} {x:Nm}:q7 E x↔bo (trE E) x:=by
 unfold q7 bo
 constructor
 ·rintro⟨ch,h1,l,h2,h3⟩
  exact⟨(ch.c,l.x),cZ.2 ⟨ch,h1,l,h2,rfl⟩,h3.imp Eq.symm Eq.symm⟩
 ·rintro⟨q,h1,h2⟩
  obtain⟨ch,a1,l,a2,rfl⟩:=cZ.1 h1
  exact⟨ch,a1,l,a2,h2.imp Eq.symm Eq.symm⟩
open Classical in
theorem dt.look {w:World} {b:Nat} {l:List Nm} (h:dt w b l) (c:Nm):(Instr.lookup smT (.map (some b)) (.string c) false).run Tryz.prog w= .ok (.bool (decide (c∈l))) w:=by
 rw[cF.look (P:=Tryz.prog) (t:=smT) (z:=.bool false) h Tryz.underlying150 (by kernel_rfl) (by rfl) c,List.find?_map]
 congr 1
 by_cases hc:c∈l
 ·rw[decide_eq_true hc]
  have:∃y,l.find? ((fun p:ByteArray×Value=>decide (p.1=c))∘ fun c=>(c,Value.bool true))=some y:=by
   cases hf:l.find? ((fun p:ByteArray×Value=>decide (p.1=c))∘ fun c=>(c,Value.bool true))with
   | some y=>exact⟨y,rfl⟩
   | none=>
    have:=List.find?_eq_none.1 hf c hc
    simp at this
  obtain⟨y,hy⟩:=this
  rw[hy];rfl
 ·rw[decide_eq_false hc,List.find?_eq_none.2 (fun x hx=>by
   have:x≠c:=fun e=>hc (e▸hx)
   simpa using this)]
  rfl
open Classical in
theorem dt.lookT {w:World} {b:Nat} {l:List Nm} (h:dt w b l) {c:Nm} (hc:c∈l):(Instr.lookup smT (.map (some b)) (.string c) false).run Tryz.prog w= .ok (.bool true) w:=by rw[h.look,decide_eq_true hc]
open Classical in
theorem dt.lookF {w:World} {b:Nat} {l:List Nm} (h:dt w b l) {c:Nm} (hc:c∉l):(Instr.lookup smT (.map (some b)) (.string c) false).run Tryz.prog w= .ok (.bool false) w:=by rw[h.look,decide_eq_false hc]
def vJ (R:Tr) (a:Int) (x y:Nm):Prop:=(¬bo R x∧y=ByteArray.empty)∨(bo R x∧Reach R a x y∧par R a y=none)
theorem aal {w:World} {t m:Nat} {E:List Ch} (h:TM w t m E) (c:Nm) (a:Int):Calls Tryz.prog 90 #[ptB t,.string c,.int .i64 a] w fun e w'=>e= .returned (ptO (atE E c a))∧w'=w:=q_at h c a
theorem aam {w:World} {t m:Nat} {E:List Ch} (h:TM w t m E) (hE:TOk (trE E)) (x:Nm) (a:Int):Calls Tryz.prog 36 #[ptB t,.string x,.int .i64 a] w fun e w'=>∃y,e= .returned (.string y)∧vJ (trE E) a x y∧Below w.heap.size w w':=by
 have hkn:=i4 h
 by_cases hx:bo (trE E) x
 ·obtain⟨n,y,_,hy,hz⟩:=(hE.acy a x).root
  have HP:=Lib.hid (show vJ (trE E) a x y from .inr ⟨hx,oI hy,hz⟩)
  have HX:=Lib.hid hx
  have HY:=Lib.hid hy
  have HZ:=Lib.hid hz
  have H:=Lib.hid h
  clear hx hy hz h
  go_enter Tryz.func36,Tryz.ntmps36
  go_wp2_with (first
   | (go_at_call 89;refine hkn.mono ?_;rintro e w1 ⟨b,l,rfl,hS,_,hl,hb⟩;have hlk:=hS.lookT ((hl x).2 (dI.2 HX.out));have H1:=Lib.hid (H.out.below hb);have hat:=aal H1.out x a;have HB:=Lib.hid hb;clear hb hl hS)
   | (go_at_call 90;refine hat.mono ?_;rintro e w' ⟨rfl,hw'⟩;obtain rfl:=hw'.symm))
  clear hlk hat H hkn HX
  go_loopg [1,7] n (fun k s1 s7 wr=>∃f,s1= .string f∧s7=ptO (atE E f a)∧wr=w1∧Hid (up (trE E) a k f=some y))
  case atStart=>exact⟨x,rfl,rfl,rfl,HY⟩
  case round=>
   clear HY
   obtain⟨f,rfl,rfl,rfl,HU⟩:=hrel
   have hpr:par (trE E) a f=(atE E f a).map (·.x.par):=by unfold par;rw[←H1.out.tAt,Option.map_map];rfl
   cases hl:atE E f a with
   | none=>
    rw[hl]at hpr
    have hfy:f=y:=by
     have:=HU.out
     cases gk with
     | zero=>simp only[up,Option.some.injEq]at this;exact this
     | succ k=>simp only[up,hpr,Option.map_none,Option.bind_none]at this;cases this
    subst hfy
    clear hpr hl HU HZ
    change (Code.wp _ _ _ _ _)
    have hp:ptO (none:Option Ln)= .pointer none:=rfl
    go_wp2
    go_ret
    exact⟨_,rfl,HP.out,HB.out⟩
   | some l=>
    rw[hl]at hpr
    obtain⟨_,_,_,hL⟩:=q6 H1.out hl
    have h1:=hL.par
    have hpr:par (trE E) a f=some l.x.par:=hpr
    cases gk with
    | zero=>
     have e:f=y:=by have:=HU.out;simp only[up,Option.some.injEq]at this;exact this
     subst e
     rw[HZ.out]at hpr;cases hpr
    | succ k=>
     have HU2:=Lib.hid (show up (trE E) a k l.x.par=some y by have:=HU.out;simp only[up,hpr,Option.bind_some]at this;exact this)
     have hat:=aal H1.out l.x.par a
     have hp:ptO (some l)=ptB l.b:=rfl
     clear hl hL HU hpr
     generalize l.b=lb at *
     generalize l.x.par=p at *
     go_wp2_with (go_at_call 90;refine hat.mono ?_;rintro e w' ⟨rfl,hw'⟩;obtain rfl:=hw'.symm)
     go_roundg k
     case measure=>omega
     case rel=>exact⟨p,rfl,rfl,by trivial,HU2⟩
 ·have HX:=Lib.hid hx
  clear hx
  go_enter Tryz.func36,Tryz.ntmps36
  go_wp2_with (go_at_call 89;refine hkn.mono ?_;rintro e w1 ⟨b,l,rfl,hS,_,hl,hb⟩;have hlk:=hS.lookF (fun h=>HX.out (dI.1 ((hl x).1 h)));have HB:=Lib.hid hb;clear hb hl hS)
  go_ret
  exact⟨_,rfl,.inl ⟨HX.out,rfl⟩,HB.out⟩
theorem aan (w:World):Calls Tryz.prog 31 #[] w fun e w'=>∃t m,e= .returned (ptB t)∧TM w' t m []∧w.heap.size≤t∧w.heap.size≤m∧Below w.heap.size w w':=by
 obtain⟨w1,hmk,hM,hb1,hs1⟩:=aaj mpT w
 have hb2:=mS w1 (.cells #[.map (some w.heap.size)] oN)
 have hp:(w1.alloc (.cells #[.map (some w.heap.size)] oN)).heap[w1.heap.size]? =some (.cells #[.map (some w.heap.size)] oN (0,0)):=heap_alloc_new w1 _
 have HP:=Lib.hid (show∃t m,Ending.returned (ptB w1.heap.size)= .returned (ptB t)∧TM (w1.alloc (.cells #[.map (some w.heap.size)] oN)) t m []∧w.heap.size≤t∧w.heap.size≤m∧Below w.heap.size w (w1.alloc (.cells #[.map (some w.heap.size)] oN))from by
  have hM2:cF (w1.alloc (.cells #[.map (some w.heap.size)] oN)) w.heap.size []:=hM.other (hb2.block _ hM.lt)
  refine⟨w1.heap.size,w.heap.size,rfl,⟨hp,hM2,fun _ h=>(by cases h),fun _ h=>(by cases h),?_,fun g hg=> ?_⟩,by omega,Nat.le_refl _,hb1.trans (hb2.mono (by omega))⟩
  ·simp[fpT];omega
  ·simp only[fpT,List.flatMap_nil,List.mem_cons,List.not_mem_nil,or_false]at hg
   rcases hg with rfl | rfl
   ·exact .mk' hp (fun k n hk=>by cases k<;>simp at hk)
   ·exact hM2.own)
 clear hM hb1 hb2 hp hs1
 generalize w.heap.size=m at *
 go_enter Tryz.func31,Tryz.ntmps31
 go_wp2
 go_ret
 exact HP.out
end Go.Proofs.YtggfmklppkioeaaGreat
