/- Maps from texts: what their operations do. -/
import Derived.Test.YtggfmklppkioeaaGreatM07
import Derived.Maps.RangeRun
import Derived.LoopN
import Derived.Deep.LoopGhost
import Derived.Deep.AppendLies
import Derived.Deep.RegionHeld3
import Derived.Deep.MidRow
import Derived.Laws.ResultCell
import Derived.WalkKit
import Derived.ProofKit
import Derived.OpenShut
import Derived.ShutString
import Derived.ChangeOld
import Derived.Below
import Derived.Test.YtggfmklppkioeaaGreatRows
import Derived.SizedLaws
import Derived.Deep.Strs
import Derived.Deep.Slices
import Derived.OrdersHeld
import Derived.RegionTactic
namespace Go.Proofs.YtggfmklppkioeaaGreat
set_option linter.unusedSimpArgs false
set_option linter.unusedVariables false
set_option maxRecDepth 100000
open Go.RowKit
open _root_.Go.RowKit renaming Below → Bi
open _root_.Go renaming Calls → AC,MapEntry → DG,Program → AW,heap_alloc_new → Bm,heap_alloc_old → EV,heap_setCell_same → CZ,wpAnyH_take → BQ
open _root_.Go.Act renaming put → AI
open _root_.Array renaming findIdx?_eq_some_iff_getElem → F2,getElem?_eq_none → Fy,getElem?_eq_some_iff → AZ,getElem?_modify → FQ,getElem?_setIfInBounds → DQ,getElem?_toList → GQ,length_toList → EB,size_setIfInBounds → F0
open _root_.Go.RowKit.Below renaming refl → AF
open _root_.Go.Builtin renaming append_ → BM
open _root_.ByteArray renaming toList → Fi
open _root_.Go.Ending renaming returned → BF
open _root_.Go.ChangeMaps renaming setBlock → ET
open _root_.Go.MapKept renaming run_getObj_map → ES
open _root_.Go.Instr renaming index → Eb,lookup → C5,mapUpdate → Ef
open _root_.Int renaming tmod_eq_emod_of_nonneg → DS
open _root_.Go.Lib renaming hid → AA
open _root_.List renaming append_assoc → CO,append_nil → CP,ext_getElem? → DI,find?_eq_none → CW,flatMap_append → DB,flatMap_cons → Cw,getElem?_append_left → Bz,getElem?_append_right → Bv,getElem?_eq_getElem → AJ,getElem?_eq_some_iff → AX,getElem?_map → Bp,getElem?_take → BI,getElem_of_mem → BK,getLast?_eq_getElem? → FH,length_cons → Bg,length_pos_iff → Fh,map_append → Ce,map_congr_left → Et,map_cons → Bq,map_map → CE,map_nil → BS,mem_append → AG,mem_cons → AS,mem_cons_of_mem → Bf,mem_cons_self → Bo,mem_flatMap → Br,mem_map → Ba,mem_of_find?_eq_some → Dg,mem_of_getElem? → A0,mem_singleton → BD,nodup_append → BJ,nodup_cons → Bu,not_mem_nil → Dt,pairwise_iff_getElem → Ee,pairwise_map → DN
open _root_.Nat renaming le_refl → AE,le_trans → AD,lt_of_lt_of_le → Bt,lt_or_ge → Bc,lt_trans → Dq,lt_trichotomy → Dr,not_lt_zero → CX,sub_self → Df,zero_add → A5,zero_le → AY
open _root_.Go.Oper renaming wp → Bk
open _root_.Option renaming getD_some → DL,map_none → FB,map_some → BG,mem_toList → Eg,some → A3
open _root_.Or renaming inl → AR
open _root_.Go.Region renaming noSelect → Fz,ready → BY,wanted → A6
open _root_.Go.Result renaming andThen → AQ
open _root_.Go.Sem renaming run_bind → AH,run_pure → Bw
open _root_.Go.Proofs.Tryz renaming func67 → CQ,ntmps67 → CY,prog → AB,underlying142 → Fg,underlying150 → FR,underlying5 → Dm
open _root_.Go.Value renaming bool → Cs,ownBlock → Cx,string → Bb
open _root_.Go.World renaming cell?_of_block → BZ,frozen? → Dl
section
open Go.MapKept
def dF(w:World)(b:Nat)(l:List (ByteArray×Value)):Prop:=∃(es:Array DG)(clock:Nat),w.heap[b]? =some (.map es clock)/\Stamped es clock/\es.toList.map (λe=>(e.key,e.val))=l.map λp=>(Bb p.1,p.2)
open Classical in
noncomputable def qk (l:List (ByteArray×Value)) (c:ByteArray) (v:Value):List (ByteArray×Value):=if c∈l.map (·.1)then l.map (fun p=>if p.1=c then(c,v)else p)else l++ [(c,v)]
section
variable {w w':World} {b clock:Nat} {l:List (ByteArray×Value)} {es:Array DG} {c:ByteArray} {v:Value} {P:AW} {t kt et:TypeId}
theorem mJ(C:es.toList.map (λe=>(e.key,e.val))=l.map λp=>(Bb p.1,p.2))(j:Nat):(es.toList[j]?).map (λe=>(e.key,e.val))=(l[j]?).map λp=>(Bb p.1,p.2):=by
 have:=congrArg (λl:List (Value×Value)=>l[j]?) C;simpa using this
variable{j:Nat}{e:DG}
theorem ko(C:es.toList.map (λe=>(e.key,e.val))=l.map λp=>(Bb p.1,p.2))(F:es.toList[j]? =some e):∃p,l[j]? =some p/\e.key= .string p.1/\e.val=p.2:=by
 have h:=mJ C j;rw[F]at h
 cases h2:l[j]? with
 | none=>rw[h2]at h;cases h
 | some p=>
  rw[h2]at h;simp only[BG,A3.injEq,Prod.mk.injEq]at h;exact⟨p,rfl,h.1,h.2⟩
theorem o8{p:ByteArray×Value}(C:es.toList.map (λe=>(e.key,e.val))=l.map λp=>(Bb p.1,p.2))(F:l[j]? =some p):∃e,es.toList[j]? =some e/\e.key= .string p.1/\e.val=p.2:=by
 have h:=mJ C j;rw[F]at h
 cases h2:es.toList[j]? with
 | none=>rw[h2]at h;cases h
 | some e=>
  rw[h2]at h;simp only[BG,A3.injEq,Prod.mk.injEq]at h;exact⟨e,rfl,h.1,h.2⟩
theorem ents_key(C:es.toList.map (λe=>(e.key,e.val))=l.map λp=>(Bb p.1,p.2)):∀x∈es.toList,IsKey .string x.key:=λx G=>by
 obtain⟨j,F,e⟩:=BK G;obtain⟨p,_,h,_⟩:=ko C (j:=j) (e:=x) (by rw[AJ F,e]);rw[h];trivial
theorem nY(C:es.toList.map (λe=>(e.key,e.val))=l.map λp=>(Bb p.1,p.2))(c:ByteArray):
  (Instr.findNow .string (.string c) es.toList 0=some none/\c∉l.map (·.1)/\∀x∈es.toList,x.key≠ .string c)\/∃j e v,Instr.findNow .string (.string c) es.toList 0=some (some (j,v))/\es[j]? =some e/\e.key= .string c/\e.val=v/\l[j]? =some (c,v):=by
 rcases findNow_spec (d:=.string) (k:=.string c) trivial es.toList 0 (ents_key C)with⟨h1,h2⟩ | ⟨j,e,h1,h2,h3⟩
 ·refine .inl ⟨h1,λH=> ?_,h2⟩;obtain⟨p,hp,rfl⟩:=Ba.1 H;obtain⟨j,G,e⟩:=BK hp;obtain⟨x,F,k2,_⟩:=o8 C (j:=j) (p:=p) (by rw[AJ G,e]);exact h2 x (A0 F) k2
 ·rw[A5]at h1;obtain⟨⟨I,v'⟩,F,k2,k3⟩:=ko C h2;rw[h3]at k2;injection k2 with k2;subst k2;exact .inr ⟨j,e,_,h1,by simpa using h2,h3,rfl,by rw[F,k3]⟩
theorem lj(hs:Stamped es clock)(H:es.toList.map (λe=>(e.key,e.val))=l.map λp=>(Bb p.1,p.2)):(l.map (·.1)).Nodup:=by
 have h:=((stamped_iff _ _).1 hs).2.2;rw[List.Nodup,DN,Ee];rw[Ee]at h;intro i j hi V F e;obtain⟨x,I,J,_⟩:=o8 H (AJ hi);obtain⟨y,K,U,_⟩:=o8 H (AJ V);obtain⟨C,ex⟩:=AX.1 I;obtain⟨G,ey⟩:=AX.1 K;exact h i j C G F (by rw[ex,ey,J,U,e])
theorem dF.nodup(h:dF w b l):(l.map (·.1)).Nodup:=by obtain⟨es,clock,_,hs,C⟩:=h;exact lj hs C
theorem dF.look(h:dF w b l)(ht:P.underlying t=some (.map kt et))(H:P.underlying kt=some .string){z:Value}(hz:(zeroValue et).run P w= .ok z w)(c:ByteArray):
  (C5 t (.map (some b)) (.string c) false).run P w= .ok (((l.find? λp=>decide (p.1=c)).map (·.2)).getD z) w:=by
 obtain⟨es,clock,hb,hs,G⟩:=h;rcases nY G c with⟨h1,h2,_⟩ | ⟨j,e,v,h1,h2,h3,J,I⟩
 ·rw[qj ht H hb h1 hz,CW.2 (λp hp=>by
   have:p.1≠c:=λe=>h2 (Ba.2 ⟨p,hp,e⟩)
   simpa using this)]
  rfl
 ·have hf:(l.find? λp=>decide (p.1=c))=some (c,v):=by
   rw[List.find?_eq_some_iff_getElem];obtain⟨C,F⟩:=AX.1 I;refine⟨Ad,j,C,F,λi hi=> ?_⟩;have hn:=lj hs G;rw[List.Nodup,DN,Ee]at hn;have:=hn i j (Dq hi C) C hi;rw[F]at this;simpa using this
  rw[qj ht H hb h1 hz,hf];rfl
abbrev stM(w:World)(b:Nat)(o:Obj):World:= {w with heap:=w.heap.setIfInBounds b o}
theorem stM_at(hb:w.heap[b]? =some (.map es clock))(o:Obj):(stM w b o).heap[b]? =some o:=(heap_set hb).1
theorem gT(hb:w.heap[b]? =some (.map es clock))(o:Obj):Upd w b (stM w b o):=⟨rfl,rfl,rfl,Ad,λk C=>(heap_set hb).2 k C⟩
theorem aaQ{f:DG->DG}(hs:Stamped es clock)(G:es.toList.map (λe=>(e.key,e.val))=l.map λp=>(Bb p.1,p.2))(Y:es[j]? =some e)(Z:e.key= .string c)(hf:(f e).key= .string c){v:Value}(hv:(f e).val=v):
  (es.modify j f).toList.map (λe=>(e.key,e.val))=(qk l c v).map λp=>(Bb p.1,p.2):=by
 have H:es.toList[j]? =some e:=by simpa using Y
 obtain⟨⟨c',u⟩,J,k2,_⟩:=ko G H;rw[Z]at k2;injection k2 with k2;subst k2;have hm:c∈l.map (·.1):=Ba.2 ⟨_,A0 J,rfl⟩;have hn:=lj hs G;rw[qk,if_pos hm];apply DI;intro i;simp only[Bp,GQ,FQ];have hi:=mJ G i;rw[GQ]at hi;by_cases e2:j=i
 ·subst e2;rw[if_pos rfl,Y,J];simp[hf,hv]
 ·rw[if_neg e2,hi]
  cases h3:l[i]? with
  | none=>rfl
  | some p=>
   have I:p.1≠c:=λK=>by
    obtain⟨C,U⟩:=AX.1 h3;obtain⟨F,V⟩:=AX.1 J;rw[List.Nodup,DN,Ee]at hn;rcases Bc i j with h | h
    ·exact hn i j C F h (by rw[U,V];exact K)
    ·exact hn j i F C no (by rw[U,V];exact K.symm)
   simp[I]
theorem wO(C:es.toList.map (λe=>(e.key,e.val))=l.map λp=>(Bb p.1,p.2))(hc:c∉l.map (·.1))(v:Value)(n:Nat):(es.push ⟨.string c,v,n⟩).toList.map (λe=>(e.key,e.val))=(qk l c v).map λp=>(Bb p.1,p.2):=by
 rw[qk,if_neg hc,Array.toList_push,Ce,C,Ce];rfl
theorem dF.update(h:dF w b l)(ht:P.underlying t=some (.map kt et))(G:P.underlying kt=some .string)(c:ByteArray)(v:Value):
  ∃w',(Ef t (.map (some b)) (.string c) v).run P w= .ok () w'/\dF w' b (qk l c v)/\Upd w b w':=by
 obtain⟨es,clock,hb,hs,H⟩:=h;have F:IsKey .string (.string c):=trivial;rcases nY H c with⟨h1,h2,h3⟩ | ⟨j,e,u,h1,h2,h3,I,J⟩
 ·refine⟨stM w b (.map (es.push ⟨.string c,v,clock⟩) (clock+1)),by simp[Ef,run_underlying ht,ES hb,run_checkKey G F,run_findKey G h1,run_setObj_map _ hb,AQ],⟨_,_,(heap_set hb).1,stamped_push hs h3,wO H h2 v clock⟩,gT hb _⟩
 ·refine⟨stM w b (.map (es.modify j λe=> {e with key:=.string c,val:=v}) clock),by simp[Ef,run_underlying ht,ES hb,run_checkKey G F,run_findKey G h1,h2,h3,run_keyThatStays F,run_setObj_map _ hb,AQ],⟨_,_,(heap_set hb).1,stamped_modify hs _ _ (λ_ _=>rfl) (λe' _ C=> ?_),aaQ hs H h2 h3 rfl rfl⟩,gT hb _⟩;rw[h2]at C;injection C with C;subst C;exact h3.symm
theorem dF.entry(h:dF w b l)(ht:P.underlying t=some (.map kt et))(K:P.underlying kt=some .string){z:Value}(hz:∀w,(zeroValue et).run P w= .ok z w)(c:ByteArray)(v:Value):
  ∃V u n w',(Instr.mapEntry t (.map (some b)) (.string c)).run P w= .ok (.tuple #[u,.int .i64 n]) V/\(Instr.entryStore t (.map (some b)) (.int .i64 n) v).run P V= .ok () w'/\dF w' b (qk l c v)/\Upd w b V/\Upd w b w':=by
 obtain⟨es,clock,hb,hs,U⟩:=h;have H:IsKey .string (.string c):=trivial;have J:=(stamped_iff _ _).1 hs;rcases nY U c with⟨h1,h2,h3⟩ | ⟨j,e,u,h1,h2,h3,h4,h5⟩
 ·have C:=stM_at hb (.map (es.push ⟨.string c,z,clock⟩) (clock+1));have G:(es.push ⟨.string c,z,clock⟩).findIdx? (λe=>(e.born:Int)==(clock:Int))=some es.size:=by
   rw[F2];refine⟨Ad,Ad,λi hi=> ?_⟩;have h4:=J.1 es[i] Ad;rw[Array.getElem_push_lt hi];simp;omega
  refine⟨stM w b (.map (es.push ⟨.string c,z,clock⟩) (clock+1)),z,clock,stM (stM w b (.map (es.push ⟨.string c,z,clock⟩) (clock+1))) b (.map ((es.push ⟨.string c,z,clock⟩).modify es.size λe=> {e with val:=v}) (clock+1)),by simp[Instr.mapEntry,run_underlying ht,ES hb,run_checkKey K H,run_findKey K h1,hz,run_setObj_map _ hb,AQ,goInt],by simp only[Instr.entryStore,AH,ES C,asInt,asIntOf,Bw,AQ,G,run_setObj_map _ C],⟨_,_,(heap_set C).1,stamped_modify (stamped_push hs h3) _ _ (λ_ _=>rfl) (λ_ _ _=>rfl),?_⟩,gT hb _,(gT hb _).trans (gT C _)⟩;have e2:(es.push ⟨.string c,z,clock⟩).modify es.size (λe=> {e with val:=v})=es.push ⟨.string c,v,clock⟩:=by
   apply Array.ext_getElem?;intro i;rw[FQ,Array.getElem?_push,Array.getElem?_push];by_cases e3:i=es.size
   ·subst e3;simp
   ·rw[if_neg (Ne.symm e3),if_neg e3,if_neg e3]
  rw[e2];exact wO U h2 v clock
 ·have aa:es.toList[j]? =some e:=by simpa using h2
  have ab:Stamped (es.modify j λe=> {e with key:=.string c}) clock:=stamped_modify hs _ _ (λ_ _=>rfl) (λe' _ F=>by rw[h2]at F;injection F with F;subst F;exact h3.symm);have C:=stM_at hb (.map (es.modify j λe=> {e with key:=.string c}) clock);have Y:(es.modify j λe=> {e with key:=.string c})=es:=by
   apply Array.ext_getElem?;intro i;rw[FQ];by_cases e3:j=i
   ·subst e3;rw[if_pos rfl,h2];simp[<-h3]
   ·rw[if_neg e3]
  rw[Y]at C;have G:es.findIdx? (λx=>(x.born:Int)==(e.born:Int))=some j:=by
   rw[F2];obtain⟨I,Z⟩:=AZ.1 h2;refine⟨I,by simp[Z],λi hi=> ?_⟩;have hn:=J.2.1;rw[List.Nodup,DN,Ee]at hn;have:=hn i j (by simp;omega) (by simpa using I) hi;simp only[Array.getElem_toList,Z]at this;simp;omega
  refine⟨stM w b (.map es clock),u,e.born,stM (stM w b (.map es clock)) b (.map (es.modify j λe=> {e with val:=v}) clock),by simp only[Instr.mapEntry,AH,run_underlying ht,ES hb,run_checkKey K H,run_findKey K h1,h2,h3,BG,DL,run_keyThatStays H,Y,run_setObj_map _ hb,AQ,goInt,Bw],by simp only[Instr.entryStore,AH,ES C,asInt,asIntOf,Bw,AQ,G,run_setObj_map _ C],⟨_,_,(heap_set C).1,stamped_modify hs _ _ (λ_ _=>rfl) (λ_ _ _=>rfl),aaQ hs U h2 h3 h3 rfl⟩,gT hb _,(gT hb _).trans (gT C _)⟩
theorem dF.other(h:dF w b l)(e:w'.heap[b]? =w.heap[b]?):dF w' b l:=by
 obtain⟨es,clock,hb,h⟩:=h;exact⟨es,clock,by rw[e];exact hb,h⟩
theorem dF.lt(h:dF w b l):b<w.heap.size:=by obtain⟨es,clock,hb,h⟩:=h;exact(AZ.1 hb).1
theorem dF.own(h:dF w b l):bw w b:=⟨h.lt,λk n C=>by
 obtain⟨es,clock,hb,h⟩:=h;simp[World.cell?,hb]at C⟩
def Vis(es:Array DG)(seen:Array Nat)(l:List (ByteArray×Value))(p:ByteArray×Value):Prop:=∃(j:Nat)(e:DG),es.toList[j]? =some e/\l[j]? =some p/\e.born∈seen.toList
def tW(w:World)(r m:Nat)(l:List (ByteArray×Value))(V:ByteArray×Value->Prop)(k:Nat):Prop:=
 ∃(es:Array DG)(clock since c0:Nat)(seen:Array Nat),w.heap[r]? =some (.mapIter (some m) since seen c0)/\since<=c0/\since<=clock/\w.heap[m]? =some (.map es clock)/\Stamped es clock/\es.toList.map (λe=>(e.key,e.val))=l.map (λp=>(Bb p.1,p.2))/\
  (∀x∈es.toList,x.born<since)/\(∀p,V p↔Vis es seen l p)/\(leftOf es seen).size=k
theorem left_push{es:Array DG}{C:Array Nat}(h:e∈(leftOf es C).toList):(leftOf es (C.push e.born)).size<(leftOf es C).size:=by
 have F:(leftOf es (C.push e.born)).toList=(leftOf es C).toList.filter λx=> !decide (x.born=e.born):=by
  unfold leftOf;rw[Array.toList_filter,Array.toList_filter,List.filter_filter]
  congr 1
  funext x
  by_cases h1:x.born=e.born<;>simp[h1]
 rw[<-EB,<-EB,F];refine Nat.lt_of_le_of_ne (List.length_filter_le _ _) (λh2=> ?_);have:=List.length_filter_eq_length_iff.1 h2 e h;simp at this
theorem su(h:dF w b l)(ht:P.underlying t=some (.map kt et)):∃C k,(Instr.range t (.map (some b))).run P w= .ok (.pointer (some ⟨w.heap.size,0,none⟩)) C/\tW C w.heap.size b l (λ_=>False) k/\Bi w.heap.size w C/\C.heap.size=w.heap.size+1:=by
 obtain⟨es,clock,hb,hs,G⟩:=h;have F:=(stamped_iff _ _).1 hs;refine⟨_,_,run_range_map w t kt et b es clock ht hb,⟨es,clock,clock,clock,#[],Bm w _,AE _,AE _,by rw[EV w _ (AZ.1 hb).1];exact hb,hs,G,F.1,λp=>⟨λh=>h.elim,λ⟨_,_,_,_,h⟩=>Ao⟩,rfl⟩,(AF _ _).alloc (AE _) _,Array.size_push ..⟩
variable{r k:Nat}
theorem ql{C:World}(o:Obj)(F:k≠r):(ET C r o).heap[k]? =C.heap[k]? :=by
 show(C.heap.setIfInBounds r o)[k]? =_;rw[Array.getElem?_setIfInBounds_ne (Ne.symm F)]
theorem upd_setb{C:World}(G:C=w\/C=w.drew)(o:Obj):Upd w r (ET C r o):=by
 have hs:(ET C r o).heap.size=C.heap.size:=F0 ..;rcases G with rfl | rfl
 ·exact⟨rfl,rfl,rfl,hs,λk F=>ql o F⟩
 ·exact⟨rfl,rfl,rfl,hs,λk F=>ql o F⟩
variable{V:ByteArray×Value->Prop}
theorem wP{m:Nat}(h:tW w r m l V k)(ty:TypeId):
  ((Instr.next (.pointer (some ⟨r,0,none⟩)) false ty).run P w= .ok (.tuple #[.bool false]) w/\∀p∈l,V p)\/
  ∃p∈l,∃G I,I<k/\(Instr.next (.pointer (some ⟨r,0,none⟩)) false ty).run P w= .ok (.tuple #[.bool true,.string p.1,p.2]) G/\(Instr.entry (.pointer (some ⟨r,0,none⟩))).run P G= .ok (.tuple #[.string p.1,p.2]) G/\tW G r m l (λx=>V x\/x=p) I/\Upd w r G:=by
 obtain⟨es,clock,C,c0,F,hr,am,K,hb,hs,he,J,hV,hk⟩:=h;have ab:=(stamped_iff _ _).1 hs;rcases run_next_at (P:=P) w ty r m C c0 F es clock hr hb J am with⟨h1,h2⟩ | ⟨e,h1,G,h2,h3⟩
 ·refine .inl ⟨h2,λp hp=>(hV p).2 ?_⟩;obtain⟨j,Y,ep⟩:=BK hp;obtain⟨e,I,_,_⟩:=o8 he (j:=j) (p:=p) (by rw[AJ Y,ep]);refine⟨j,e,I,by rw[AJ Y,ep],?_⟩;have h3:leftOf es F=#[]:=Array.eq_empty_of_size_eq_zero h1;unfold leftOf at h3;rw[Array.filter_eq_empty_iff]at h3;have:=h3 e (by simpa using A0 I);simpa using this
 ·have Z:e∈es.toList/\e.born∉F.toList:=by
   unfold leftOf at h1;simpa using h1
  obtain⟨j,Y,ee⟩:=BK Z.1;have aa:es.toList[j]? =some e:=by rw[AJ Y,ee]
  obtain⟨p,I,k2,k3⟩:=ko he aa;have ak:r≠m:=λe2=>by subst e2;rw[hr]at hb;cases hb
  have hr1:G.heap[r]? =some (.mapIter (some m) C F c0):=by rcases h2 with rfl | rfl<;>exact hr
  have ad:G.heap[m]? =some (.map es clock):=by rcases h2 with rfl | rfl<;>exact hb
  have ac:r<G.heap.size:=(AZ.1 hr1).1;have g1:(ET G r (.mapIter (some m) C (F.push e.born) clock)).heap[r]? =some (.mapIter (some m) C (F.push e.born) clock):=by simp[ET,ac]
  have g2:(ET G r (.mapIter (some m) C (F.push e.born) clock)).heap[m]? =some (.map es clock):=by simp[ET,ak,ad]
  refine .inr ⟨p,A0 I,_,_,by rw[<-hk];exact left_push h1,by rw[h3,k2,k3],by rw[run_entry_at _ r m C F es clock e g1 g2 Z.1 ab.2.1,k2,k3],⟨es,clock,C,clock,F.push e.born,g1,K,K,g2,hs,he,J,λx=> ?_,rfl⟩,upd_setb h2 _⟩;show V x\/x=p↔_;rw[hV];constructor
  ·rintro(⟨i,y,a1,U,H⟩ | rfl)
   ·exact⟨i,y,a1,U,by simp at H⊢;exact .inl H⟩
   ·exact⟨j,e,aa,I,Ad⟩
  ·rintro⟨i,y,a1,U,H⟩;simp only[Array.toList_push,AG,BD]at H;rcases H with H | H
   ·exact .inl ⟨i,y,a1,U,H⟩
   ·right;have hn:=ab.2.1;rw[List.Nodup,DN,Ee]at hn;obtain⟨hi,ey⟩:=AX.1 a1;have:i=j:=by
     rcases Dr i j with h | h | h
     ·exact absurd (by rw[ey,ee];exact H) (hn i j hi Y h)
     ·exact h
     ·exact absurd (by rw[ey,ee];exact H.symm) (hn j i Y hi h)
    subst this;rw[I]at U;injection U with U;exact U.symm
theorem tW.other{m:Nat}(h:tW w r m l V k)(h1:w'.heap[r]? =w.heap[r]?)(h2:w'.heap[m]? =w.heap[m]?):tW w' r m l V k:=by
 obtain⟨es,clock,C,c0,G,I,H,F,hb,h⟩:=h;exact⟨es,clock,C,c0,G,by rw[h1];exact I,H,F,by rw[h2];exact hb,h⟩
end
end
section
open Go.MapKept
abbrev lkT:TypeId:=156
abbrev qm:TypeId:=144
abbrev lpT:TypeId:=152
abbrev trT:TypeId:=223
abbrev mpT:TypeId:=142
abbrev ptB(b:Nat):Value:=.pointer (some ⟨b,0,none⟩)
structure Ln where
 x:Lk
 b:Nat
 g:Nat
 sl:Value
structure Ch where
 c:Nm
 rb:Nat
 cap:Nat
 ls:List Ln
def lnQ(c:Nm)(l:Ln):List Vp:=.val (.string c)::.val (.string l.x.par)::.val (.int .i64 l.x.fr)::.val (.int .i64 l.x.un)::.val (.bool l.x.st)::(frs l.x.po.cs++ [.val (ptB l.g)])
def ll(w:World)(cs:Array Value)(qs:List Vp):Prop:=cs.size=qs.length/\∀(j:Nat)(q:Vp),qs[j]? =some q->∃u,cs[j]? =some u/\q.p w u
structure LnAt(w:World)(c:Nm)(l:Ln):Prop where
 blk:∃cs,w.heap[l.b]? =some (.cells cs lkT (0,0))/\ll w cs (lnQ c l)
 trk:TrkS trT w l.g l.sl l.x.tr
structure ChAt(w:World)(ch:Ch):Prop where
 blk:∃cs,w.heap[ch.rb]? =some (.cells cs lpT (0,0))/\cs.size=ch.cap/\∀(j:Nat)(l:Ln),ch.ls[j]? =some l->cs[j]? =some (ptB l.b)
 le:ch.ls.length<=ch.cap
 cap:ch.cap<=maxLen
 ne:ch.ls≠ []
def Ln.fp(l:Ln):List Nat:=l.b::l.g::l.sl.ownBlock.toList
def Ch.fp(ch:Ch):List Nat:=ch.rb::ch.ls.flatMap Ln.fp
def fpT(t m:Nat)(E:List Ch):List Nat:=t::m::E.flatMap Ch.fp
def Ch.row(ch:Ch):Value:=.slice (some ⟨ch.rb,0,none⟩) ch.ls.length ch.cap
structure TM(w:World)(t m:Nat)(E:List Ch):Prop where
 tr:w.heap[t]? =some (.cells #[.map (some m)] qm (0,0))
 mp:dF w m (E.map λch=>(ch.c,ch.row))
 rows:∀ch∈E,ChAt w ch
 lns:∀ch∈E,∀l∈ch.ls,LnAt w ch.c l
 nd:(fpT t m E).Nodup
 own:∀g∈fpT t m E,bw w g
def chE(E:List Ch)(c:Nm):Option Ch:=E.find? λch=>decide (ch.c=c)
def lsE(E:List Ch)(c:Nm):List Ln:=((chE E c).map (·.ls)).getD []
def mK(E:List Ch)(c:Nm):Value:=((chE E c).map Ch.row).getD (.slice none 0 0)
variable{E:List Ch}{c:Nm}{ch:Ch}
theorem cD(h:chE E c=some ch):ch∈E/\ch.c=c:=⟨Dg h,by simpa using List.find?_some h⟩
theorem wQ(h:chE E c=none)(C:ch∈E):ch.c≠c:=by
 have:=CW.1 h ch C;simpa using this
variable{w w':World}{X:Nat->Prop}
theorem ll.chg{cs:Array Value}{qs:List Vp}(h:ll w cs qs)(k:Chg w w' X)(hf:∀q∈qs,∀w v g,¬q.fp w v g):ll w' cs qs:=
 ⟨h.1,λj q C=>by
  obtain⟨u,h1,h2⟩:=h.2 j q C;exact⟨u,h1,(q.ch w w' X u h2 k (λg F=>absurd F (hf q (A0 C) _ _ _))).1⟩⟩
theorem frs_fp:∀ {xs:List Fq} {q:Vp},q∈frs xs->∀w v g,¬q.fp w v g
 | [],_,h,_,_,_=>by cases h
 | x::xs,q,h,w,v,g=>by
  simp only[frs,AS]at h;rcases h with rfl | rfl | rfl | h
  ·exact λh=>h
  ·exact λh=>h
  ·exact λh=>h
  ·exact frs_fp h w v g
theorem tX{l:Ln}:∀q∈lnQ c l,∀w v g,¬q.fp w v g:=by
 intro q C;unfold lnQ at C;simp only[AS,AG,Dt,or_false]at C;rcases C with rfl | rfl | rfl | rfl | rfl | C | rfl
 ·exact λ_ _ _ h=>h
 ·exact λ_ _ _ h=>h
 ·exact λ_ _ _ h=>h
 ·exact λ_ _ _ h=>h
 ·exact λ_ _ _ h=>h
 ·exact frs_fp C
 ·exact λ_ _ _ h=>h
variable{g:Nat}
theorem TrkS.chg{T:TypeId}{sl:Value}{S:List St}(h:TrkS T w g sl S)(k:Chg w w' X)(C:¬X g)(hs:∀b,sl.ownBlock=some b->¬X b):TrkS T w' g sl S:=
 ⟨by rw[k.blk g (AZ.1 h.blk).1 C];exact h.blk,((Vp.row stT S.length (bB S)).ch w w' X sl h.row k (λb hb=>hs b (by obtain⟨o,n,c,e⟩:=hb;rw[e];rfl))).1,h.ne⟩
theorem LnAt.chg{l:Ln}(h:LnAt w c l)(k:Chg w w' X)(C:∀g∈l.fp,¬X g):LnAt w' c l:=by
 obtain⟨⟨cs,h1,h2⟩,h3⟩:=h;refine⟨⟨cs,by rw[k.blk _ (AZ.1 h1).1 (C _ (Bo ..))];exact h1,h2.chg k tX⟩,h3.chg k (C _ (by simp[Ln.fp])) (λb hb=>C b (by simp[Ln.fp,hb]))⟩
theorem ChAt.chg(h:ChAt w ch)(k:Chg w w' X)(G:¬X ch.rb):ChAt w' ch:=by
 obtain⟨⟨cs,h1,h2⟩,h3,C,F⟩:=h;exact⟨⟨cs,by rw[k.blk _ (AZ.1 h1).1 G];exact h1,h2⟩,h3,C,F⟩
variable{t m:Nat}
theorem tY(h:ch∈E)(C:g∈ch.fp):g∈fpT t m E:=Bf _ (Bf _ (Br.2 ⟨ch,h,C⟩))
theorem mem_fpL(h:ch∈E){l:Ln}(hl:l∈ch.ls)(C:g∈l.fp):g∈fpT t m E:=tY h (Bf _ (Br.2 ⟨l,hl,C⟩))
theorem TM.chg(h:TM w t m E)(k:Chg w w' X)(C:∀g∈fpT t m E,¬X g):TM w' t m E:=by
 obtain⟨h1,h2,H,I,J,G⟩:=h;refine⟨by rw[k.blk _ (AZ.1 h1).1 (C _ (by simp[fpT]))];exact h1,h2.other (k.blk _ h2.lt (C _ (by simp[fpT]))),λch hc=>(H ch hc).chg k (C _ (tY hc (Bo ..))),λch hc l hl=>(I ch hc l hl).chg k (λg F=>C g (mem_fpL hc hl F)),J,λg F=>(G g F).blk (k.blk g (G g F).1 (C g F)) k.size⟩
theorem TM.below(h:TM w t m E)(k:Bi w.heap.size w w'):TM w' t m E:=h.chg (.below k) (λ_ _ h=>h)
section
variable {w:World} {t m:Nat} {E:List Ch} {c:Nm} {ch:Ch} {l:Ln} {k:Nat}
theorem TM.cell(h:TM w t m E):w.cell? ⟨t,0,none⟩=some (.map (some m)):=by rw[aH h.tr];rfl
theorem zero_lrow(w:World):(zeroValue 158).run AB w= .ok (.slice none 0 0) w:=Af
theorem TM.look(h:TM w t m E)(c:Nm):(C5 mpT (.map (some m)) (.string c) false).run AB w= .ok (mK E c) w:=by
 rw[h.mp.look (t:=mpT) Fg Aa (zero_lrow w) c,List.find?_map];unfold mK chE
 congr 1
 cases hf:E.find? (λch=>decide (ch.c=c))with
 | none=>
  have:E.find? ((λp:ByteArray×Value=>decide (p.1=c))∘ λch=>(ch.c,ch.row))=none:=hf;rw[this];rfl
 | some ch=>
  have:E.find? ((λp:ByteArray×Value=>decide (p.1=c))∘ λch=>(ch.c,ch.row))=some ch:=hf;rw[this];rfl
theorem TM.chAt(h:TM w t m E)(hc:chE E c=some ch):ChAt w ch:=h.rows ch (cD hc).1
theorem TM.ln(h:TM w t m E)(hc:chE E c=some ch)(hl:l∈ch.ls):LnAt w c l:=by
 obtain⟨h1,rfl⟩:=cD hc;exact h.lns ch h1 l hl
theorem ChAt.cell(h:ChAt w ch)(C:ch.ls[k]? =some l):w.cell? ⟨ch.rb,k,none⟩=some (ptB l.b):=by
 obtain⟨⟨cs,h1,_,h2⟩,_⟩:=h;rw[aH h1];exact h2 k l C
theorem LnAt.cellv{j:Nat}{v:Value}(h:LnAt w c l)(F:(lnQ c l)[j]? =some (.val v)):w.cell? ⟨l.b,j,none⟩=some v:=by
 obtain⟨⟨cs,h1,h2⟩,_⟩:=h;obtain⟨u,h3,C⟩:=h2.2 j _ F;have e:u=v:=C.1;rw[aH h1,h3,e]
theorem LnAt.par(h:LnAt w c l):w.cell? ⟨l.b,1,none⟩=some (.string l.x.par):=h.cellv rfl
theorem LnAt.fr(h:LnAt w c l):w.cell? ⟨l.b,2,none⟩=some (.int .i64 l.x.fr):=h.cellv rfl
theorem LnAt.un(h:LnAt w c l):w.cell? ⟨l.b,3,none⟩=some (.int .i64 l.x.un):=h.cellv rfl
theorem LnAt.st(h:LnAt w c l):w.cell? ⟨l.b,4,none⟩=some (.bool l.x.st):=h.cellv rfl
theorem LnAt.tp(h:LnAt w c l):w.cell? ⟨l.b,26,none⟩=some (ptB l.g):=h.cellv rfl
end
end
def ptO(o:Option Ln):Value:=match o with | some l=>ptB l.b | none=>.pointer none
variable{w:World}{c:Nm}
theorem zk{l:Ln}(h:LnAt w c l)(a:Int):AC AB 153 #[ptB l.b,.int .i64 a] w λe w'=>e= .returned (.bool (l.x.has a))/\w'=w:=by
 have h2:=h.fr;have h3:=h.un;have e:l.x.has a=(decide (l.x.fr<=a) && (decide (l.x.un= -1) || decide (a<l.x.un))):=rfl;generalize l.x.has a=r at e⊢;generalize l.b=b at h2 h3⊢;generalize l.x.fr=f at h2 e;generalize l.x.un=u at h3 e;clear h;by_cases c1:f<=a
 ·by_cases c2:u= -1
  ·subst c2;simp[c1]at e;subst e;go_enter Tryz.func153,Tryz.ntmps153
   go_wp2;go_ret;exact Ai
  ·have F:(u== -1)=false:=beq_eq_false_iff_ne.2 c2;simp[c1,c2]at e;subst e;clear c2;go_enter Tryz.func153,Tryz.ntmps153
   go_wp2;go_ret;exact Ai
 ·have C:decide (f<=a)=false:=decide_eq_false c1;simp[c1]at e;subst e;go_enter Tryz.func153,Tryz.ntmps153
  go_wp2;go_ret;exact Ai
variable{k:Nat}
theorem find_step{L:List Ln}{P:Ln->Bool}{x:Ln}(F:L[k]? =some x)(hn:∀j y,j<k->L[j]? =some y->P y=false)(hp:P x=true):L.find? P=some x:=by
 rw[List.find?_eq_some_iff_getElem];obtain⟨h1,h2⟩:=AX.1 F;exact⟨hp,k,h1,h2,λj C=>by simpa using hn j _ C (AJ (Dq C h1))⟩
variable{t m:Nat}{E:List Ch}
theorem q_at(h:TM w t m E)(c:Nm)(a:Int):AC AB 90 #[ptB t,.string c,.int .i64 a] w λe w'=>e= .returned (ptO ((lsE E c).find? (·.x.has a)))/\w'=w:=by
 have h1:=h.cell;have h2:=h.look c;unfold lsE;unfold mK at h2
 cases hc:chE E c with
 | none=>
  rw[hc]at h2;simp only[FB,Option.getD_none]at h2⊢;clear h hc;go_enter Tryz.func90,Tryz.ntmps90
  go_wp2;refine _root_.Go.wp_loop_rounds 1 ?_;rw[rounds_succ];go_wp2;go_ret;exact Ai
 | some ch=>
  rw[hc]at h2;simp only[BG,DL]at h2⊢;have H:=h.chAt hc;have V:∀l,l∈ch.ls->LnAt w c l:=λl hl=>h.ln hc hl
  have hm:(ch.ls.length:Int)<=9223372036854775807:=by have:=H.le;have:=H.cap;unfold maxLen at this;omega
  have J:=λk l=>H.cell (k:=k) (l:=l)
  unfold Ch.row at h2;clear h hc H;generalize ch.rb=rb at h2 J;generalize ch.cap=cap at h2;generalize ch.ls=L at *;go_enter Tryz.func90,Tryz.ntmps90
  go_wp2;go_loopw [18] (λF wr=>∃k:Nat,k<=L.length/\F= .int .i64 (k:Int)/\wr=w/\Hid (∀j y,j<k->L[j]? =some y->y.x.has a=false)) (λF _=>L.length - (intOf F).toNat)
  case atStart=>exact⟨0,AY _,rfl,rfl,AA (λj y I=>absurd I (CX j))⟩
  case round=>
   obtain⟨k,hk,rfl,rfl,K⟩:=hrel;rcases Bc k L.length with ab | Z
   ·obtain⟨l,hl⟩:∃l,L[k]? =some l:=⟨_,AJ ab⟩;have ac:=J k l hl;have C:=zk (V l (A0 hl)) a;have G:=AA hl;clear hl J V;rcases Bool.eq_false_or_eq_true (l.x.has a)with hb | hb
    ·rw[hb]at C;have U:=AA (show ptO (L.find? (·.x.has a))=ptB l.b by rw[find_step G.out K.out hb];rfl);clear hb;generalize l.b=lb at *;go_wp2_with (go_at_call 153;refine C.mono ?_;rintro e w' ⟨rfl,rfl⟩)
     go_ret;rw[U.out];exact Ai
    ·rw[hb]at C;have Y:=AA (show∀j y,j<k+1->L[j]? =some y->y.x.has a=false from λj y I hy=>by
      rcases Bc j k with h | h
      ·exact K.out j y h hy
      ·obtain rfl:j=k:=no
       rw[G.out]at hy;injection hy with hy;subst hy;exact hb)
     clear hb;generalize l.b=lb at *;go_wp2_with (go_at_call 153;refine C.mono ?_;rintro e w' ⟨rfl,rfl⟩)
     go_roundw
     case rel=>exact⟨k+1,no,by go_num,by trivial,Y⟩
     case measure=>simp[intOf];omega
   ·have aa:k=L.length:=no
    subst aa;have U:=AA (show ptO (L.find? (·.x.has a))= .pointer none by
     rw[CW.2 (λy hy=>by
      obtain⟨j,I,e⟩:=BK hy;have:=K.out j y I (by rw[AJ I,e]);simp[this])];rfl)
    clear J V K Z hk;go_wp2;go_ret;rw[U.out];exact Ai
def opL(L:List Ln):Option Ln:=match L.getLast? with | some l=>if l.x.un= -1 then some l else none | none=>none
theorem lm(h:TM w t m E)(c:Nm):AC AB 124 #[ptB t,.string c] w λe w'=>e= .returned (ptO (opL (lsE E c)))/\w'=w:=by
 have h1:=h.cell;have h2:=h.look c;unfold lsE;unfold mK at h2
 cases hc:chE E c with
 | none=>
  rw[hc]at h2;simp only[FB,Option.getD_none]at h2⊢;clear h hc;go_enter Tryz.func124,Tryz.ntmps124
  go_wp2;go_ret;exact Ai
 | some ch=>
  rw[hc]at h2;simp only[BG,DL]at h2⊢;have H:=h.chAt hc;obtain⟨n,hn⟩:∃n,ch.ls.length=n+1:=⟨ch.ls.length - 1,by have:=Fh.2 H.ne;omega⟩;obtain⟨l,hl⟩:∃l,ch.ls[n]? =some l:=⟨_,AJ no⟩;have C:ch.ls.getLast? =some l:=by rw[FH,hn];exact hl
  have hm:((n+1:Nat):Int)<=9223372036854775807:=by have:=H.le;have:=H.cap;unfold maxLen at this;omega
  have I:=h.ln hc (A0 hl);have V:=H.cell hl;have K:=I.un;have F:=AA (show opL ch.ls=if l.x.un= -1 then some l else none by unfold opL;rw[C]);unfold Ch.row at h2;rw[hn]at h2;have hp:ptO (some l)=ptB l.b:=rfl;obtain⟨N,J⟩:∃N,N=n+1:=⟨_,rfl⟩;obtain rfl:n=N - 1:=no
  rw[<-J]at h2 hm;have U:((N:Int)==0)=false:=beq_eq_false_iff_ne.2 no;have hk:((N:Int) - 1).toNat=N - 1:=no
  have Y:(1:Int)<=N:=no
  have Z:(N:Int) - 1<N:=no
  by_cases c1:l.x.un= -1
  ·rw[if_pos c1]at F;have G:=AA (show ptO (opL ch.ls)=ptB l.b by rw[F.out];rfl);rw[c1]at K;clear h hc H I hl C F hp hn c1 J;generalize ch.rb=rb at *;generalize ch.cap=cap at *;generalize l.b=lb at *;go_enter Tryz.func124,Tryz.ntmps124
   go_wp2;go_ret;rw[G.out];exact Ai
  ·rw[if_neg c1]at F;have G:=AA (show ptO (opL ch.ls)= .pointer none by rw[F.out];rfl);have c2:(l.x.un== -1)=false:=beq_eq_false_iff_ne.2 c1;clear h hc H I hl C F hp hn c1 J;generalize ch.rb=rb at *;generalize ch.cap=cap at *;generalize l.b=lb at *;generalize l.x.un=u at *;go_enter Tryz.func124,Tryz.ntmps124
   go_wp2;go_ret;rw[G.out];exact Ai
def atE(E:List Ch)(c:Nm)(a:Int):Option Ln:=(lsE E c).find? (·.x.has a)
variable{a:Int}
theorem lp(h:TM w t m E){l:Ln}(hl:atE E c a=some l):∃ch,chE E c=some ch/\l∈ch.ls/\LnAt w c l:=by
 unfold atE lsE at hl
 cases hc:chE E c with
 | none=>rw[hc]at hl;cases hl
 | some ch=>
  rw[hc]at hl;have:=Dg hl;exact⟨ch,rfl,this,h.ln hc this⟩
theorem wR(h:TM w t m E)(c:Nm)(a:Int):AC AB 34 #[ptB t,.string c,.int .i64 a] w λe w'=>e= .returned (match atE E c a with | some l=>.tuple #[.string l.x.par,.bool true] | none=>.tuple #[.string ByteArray.empty,.bool false])/\w'=w:=by
 have C:=q_at h c a
 change AC _ _ _ _ (λe w'=>e= .returned (ptO (atE E c a))/\w'=w)at C
 cases hl:atE E c a with
 | none=>
  rw[hl]at C
  change AC _ _ _ _ (λe w'=>e= .returned (.pointer none)/\w'=w)at C
  clear h hl;go_enter Tryz.func34,Tryz.ntmps34
  go_wp2_with (go_at_call 90;refine C.mono ?_;rintro e w' ⟨rfl,rfl⟩)
  go_ret2
  exact Ai
 | some l=>
  rw[hl]at C
  change AC _ _ _ _ (λe w'=>e= .returned (ptB l.b)/\w'=w)at C
  obtain⟨_,_,_,F⟩:=lp h hl;have h1:=F.par;clear h hl F;generalize l.b=lb at *;simp only;generalize l.x.par=p at *;go_enter Tryz.func34,Tryz.ntmps34
  go_wp2_with (go_at_call 90;refine C.mono ?_;rintro e w' ⟨rfl,rfl⟩)
  go_ret2
  exact Ai
theorem gU{o f:Nm}(h:o≠f):(Fi o==Fi f)=false:=by
 refine beq_eq_false_iff_ne.2 (λe=>h ?_);rw[Go.ByteArray.toList_eq,Go.ByteArray.toList_eq]at e;obtain⟨⟨x⟩⟩:=o;obtain⟨⟨y⟩⟩:=f;simp at e;subst e;rfl
variable{R:Tr}
theorem Reach.nil{o f:Nm}(h:par R a o=none)(k:Reach R a o f):o=f:=by
 cases k with
 | refl=>rfl
 | step e _=>rw[h]at e;cases e
theorem Reach.next{o z f:Nm}(h:par R a o=some z)(hn:o≠f):Reach R a o f↔Reach R a z f:=by
 constructor
 ·intro k
  cases k with
  | refl=>exact absurd rfl hn
  | step e t=>rw[h]at e;injection e with e;subst e;exact t
 ·exact .step h
theorem q_above(h:TM w t m E)(hR:∀c a,(atE E c a).map (·.x)=tAt R c a)(f o:Nm)(a:Int)(he:iM R a o)(b:Bool)(hb:b=true↔Reach R a o f):
  AC AB 184 #[ptB t,.string f,.string o,.int .i64 a] w λe w'=>e= .returned (.bool b)/\w'=w:=by
 obtain⟨n,y,_,hy,hz⟩:=he.root;have H:=AA h;have K:=AA hR;have HZ:=AA hz;have HY:=AA hy;have HB:=AA hb;clear h hR hz hy he hb;go_enter Tryz.func184,Tryz.ntmps184
 go_wp2;go_loopg [2] n (λk s2 wr=>∃(G:Nm),s2= .string G/\wr=w/\Hid (up R a k G=some y)/\Hid (b=true↔Reach R a G f))
 case atStart=>exact⟨o,rfl,rfl,HY,HB⟩
 case round=>
  obtain⟨G,rfl,rfl,U,I⟩:=hrel;clear HB HY;by_cases hf:G=f
  ·subst hf;have Z:b=true:=I.out.2 (.refl _);subst Z;go_wp2;go_ret;exact Ai
  ·have F:=q_at H.out G a
   change AC _ _ _ _ (λe w'=>e= .returned (ptO (atE E G a))/\w'=wr)at F
   have C:par R a G=(atE E G a).map (·.x.par):=by unfold par;rw[<-K.out,Option.map_map];rfl
   have aa:=gU hf
   cases hl:atE E G a with
   | none=>
    rw[hl]at F C
    change AC _ _ _ _ (λe w'=>e= .returned (.pointer none)/\w'=wr)at F
    have Y:b=false:=Bool.eq_false_iff.2 (λe=>hf (Reach.nil C (I.out.1 e)));subst Y;clear hl hf C;go_wp2_with (go_at_call 90;refine F.mono ?_;rintro e w' ⟨rfl,rfl⟩)
    go_ret;exact Ai
   | some l=>
    rw[hl]at F C
    change AC _ _ _ _ (λe w'=>e= .returned (ptB l.b)/\w'=wr)at F
    obtain⟨_,_,_,hL⟩:=lp H.out hl;have h1:=hL.par;have C:par R a G=some l.x.par:=C;have J:=AA (I.out.trans (Reach.next C hf))
    cases gk with
    | zero=>
     have e:G=y:=by have:=U.out;simp only[up,A3.injEq]at this;exact this
     subst e;rw[HZ.out]at C;cases C
    | succ k=>
     have V:=AA (show up R a k l.x.par=some y by have:=U.out;simp only[up,C,Option.bind_some]at this;exact this);clear hl hL U I hf C;generalize l.b=lb at *;generalize l.x.par=p at *;go_wp2_with (go_at_call 90;refine F.mono ?_;rintro e w' ⟨rfl,rfl⟩)
     go_roundg k
     case measure=>omega
     case rel=>exact⟨p,rfl,by trivial,V,J⟩
def jP(w:World)(b:Nat)(l:List Nm):Prop:=dF w b (l.map λc=>(c,Cs true))
open Classical in
noncomputable def nZ (l:List Nm) (c:Nm):List Nm:=if c∈l then l else l++ [c]
theorem wU(l:List Nm)(c:Nm):qk (l.map λc=>(c,Cs true)) c (.bool true)=(nZ l c).map λc=>(c,Cs true):=by
 have e:c∈(l.map λc=>(c,Cs true)).map (·.1)↔c∈l:=Ad
 unfold qk nZ;by_cases h:c∈l
 ·rw[if_pos (e.2 h),if_pos h,CE];refine Et (λx _=> ?_);simp only[Function.comp];split
  ·rename_i h2;rw[<-h2]
  ·rfl
 ·rw[if_neg (λh2=>h (e.1 h2)),if_neg h,Ce];rfl
variable{l:List Nm}{x:Nm}
theorem jQ:x∈nZ l c↔x∈l\/x=c:=by
 unfold nZ;split
 ·rename_i h;exact⟨.inl,λh2=>h2.elim id (λe=>e▸h)⟩
 ·simp
abbrev smT:TypeId:=150
variable{b:Nat}
theorem jP.upd(h:jP w b l)(c:Nm):∃w',(Ef smT (.map (some b)) (.string c) (.bool true)).run AB w= .ok () w'/\jP w' b (nZ l c)/\Upd w b w':=by
 obtain⟨w',h1,h2,h3⟩:=dF.update (P:=AB) (t:=smT) h FR Aa c (.bool true);rw[wU]at h2;exact⟨w',h1,h2,h3⟩
theorem jP.ent(h:jP w b l)(c:Nm):∃C u n w',(Instr.mapEntry smT (.map (some b)) (.string c)).run AB w= .ok (.tuple #[u,.int .i64 n]) C/\(Instr.entryStore smT (.map (some b)) (.int .i64 n) (.bool true)).run AB C= .ok () w'/\jP w' b (nZ l c)/\Upd w b w':=by
 obtain⟨C,u,n,w',h1,h2,h3,_,F⟩:=dF.entry (P:=AB) (t:=smT) (z:=.bool false) h FR Aa (λw=>Af) c (.bool true);rw[wU]at h3;exact⟨C,u,n,w',h1,h2,h3,F⟩
theorem jP.nodup(h:jP w b l):l.Nodup:=by
 have:=dF.nodup h;rwa [CE,show((λx:ByteArray×Value=>x.1)∘ λc:Nm=>(c,Cs true))=id from rfl,List.map_id]at this
theorem mk_map(t:TypeId)(w:World):∃C,(Instr.makeMap t none).run AB w= .ok (.map (some w.heap.size)) C/\dF C w.heap.size []/\Bi w.heap.size w C/\C.heap.size=w.heap.size+1:=
 ⟨_,run_makeMap t w,⟨#[],0,Bm w _,Go.MapKept.stamped_empty 0,rfl⟩,(AF _ _).alloc (AE _) _,Array.size_push ..⟩
variable{ch:Ch}
theorem TM.uniq(h:TM w t m E){ch':Ch}(h1:ch∈E)(h2:ch'∈E)(e:ch'.c=ch.c):ch'=ch:=by
 have hn:=h.mp.nodup;rw[CE]at hn;obtain⟨i,hi,C⟩:=BK h1;obtain⟨j,G,F⟩:=BK h2;rw[List.Nodup,DN,Ee]at hn;rcases Dr i j with h | h | h
 ·exact absurd (show E[i].c=E[j].c by rw[C,F,e]) (hn i j hi G h)
 ·subst h;rw[<-C,<-F]
 ·exact absurd (show E[j].c=E[i].c by rw[C,F,e]) (hn j i G hi h)
variable{w':World}{g:Nat}
theorem TM.upd(h:TM w t m E)(u:Upd w g w')(o:bw w g)(C:g∉fpT t m E):TM w' t m E:=h.chg (.upd o u) (λk F e=>C (e▸F))
theorem TM.lt(h:TM w t m E):∀g∈fpT t m E,g<w.heap.size:=λg C=>(h.own g C).1
def tZ(E:List Ch)(x:Nm):Prop:=∃ch∈E,∃l∈ch.ls,x=ch.c\/x=l.x.par
theorem mL(h:TM w t m E):AC AB 89 #[ptB t] w λe w'=>∃b l,e= .returned (.map (some b))/\jP w' b l/\w.heap.size<=b/\(∀x,x∈l↔tZ E x)/\Bi w.heap.size w w':=by
 obtain⟨w1,cp,J,ax,b8⟩:=mk_map smT w;have h':=h.below ax;obtain⟨w2,k0,b1,U,ak,b9⟩:=su (P:=AB) (t:=mpT) h'.mp Fg;rw[b8]at b1 U b9;have H2:=h'.below ak;have a9:jP w2 w.heap.size []:=J.other (ak.block _ J.lt);have hB:=ax.trans (ak.mono no);have c1:=h'.cell;generalize hbb:w.heap.size=B at *;generalize hrr:B+1=r at *;clear J h' ax ak b8;go_enter Tryz.func89,Tryz.ntmps89
 go_wp2;have bz:=AA H2;have Z:=AA (show∀g∈fpT t m E,g<B from λg hg=>by have:=h.lt g hg;omega);have am:=AA (show B<r by omega);have bq:=AA U;have a7:=AA a9;have a5:=AA hB;have hu:=AA (λ(ch C:Ch)=>h.uniq (ch:=ch) (ch':=C));have F:=AA (show r<w2.heap.size by omega);clear h U a9 hB H2 hrr hbb b9 cp b1 c1;go_loopg [] k0 (λk wr=>∃(V:ByteArray×Value->Prop)(l:List Nm),Hid (tW wr r m (E.map λch=>(ch.c,ch.row)) V k)/\Hid (jP wr B l)/\Hid (TM wr t m E)/\Hid (Bi B w wr)/\Hid (r<wr.heap.size)/\Hid (∀x,x∈l↔∃ch∈E,V (ch.c,ch.row)/\∃ln∈ch.ls,x=ch.c\/x=ln.x.par))
 case atStart=>exact⟨_,_,bq,a7,bz,a5,F,AA (λx=>⟨λh=>(by cases h),λ⟨_,_,h,_⟩=>h.elim⟩)⟩
 case round=>
  clear bz bq a7 a5 F;obtain⟨V,l,U,J,hT,hB,F,hL⟩:=hrel;rcases wP (P:=AB) U.out 0 with⟨aa,ap⟩ | ⟨p,hp,w3,k3,cm,aa,an,bt,ac⟩
  ·have HA:=AA ap;clear ap;go_wp2;go_ret;refine⟨B,l,rfl,J.out,AE _,λx=> ?_,hB.out⟩;rw[hL.out];exact⟨λ⟨ch,h1,_,h2⟩=>⟨ch,h1,h2⟩,λ⟨ch,h1,h2⟩=>⟨ch,h1,HA.out _ (Ba.2 ⟨ch,h1,rfl⟩),h2⟩⟩
  ·obtain⟨ch,Y,rfl⟩:=Ba.1 hp;have ab:=F.out;have aq:bw wr r:=⟨ab,λk n hk=>by
    obtain⟨es,clock,cq,c0,cu,h,_⟩:=U.out;simp[World.cell?,h]at hk⟩
   have bO:=AA (hT.out.upd ac aq (λhm=>by have:=Z.out r hm;have:=am.out;omega));have bb:=AA (show jP w3 B l from J.out.other (ac.block _ (by have:=am.out;omega)));have a6:=AA (ac.below hB.out (by have:=am.out;omega));have ar:=AA (show r<w3.heap.size by rw[ac.size];exact ab);have a0:=AA bt;have H:=hT.out.rows ch Y;have hm:(ch.ls.length:Int)<=9223372036854775807:=by have:=H.le;have:=H.cap;unfold maxLen at this;omega
   clear hT J U hB F ab aq H bt ac hp
   change (Instr.next _ _ _).run _ _= .ok (.tuple #[.bool true,.string ch.c,ch.row]) w3 at aa
   change (Instr.entry _).run _ _= .ok (.tuple #[.string ch.c,ch.row]) w3 at an
   unfold Ch.row at aa an;obtain⟨n,hn⟩:∃n,n=ch.ls.length:=⟨_,rfl⟩;rw[<-hn]at aa an hm;have HN:=AA hn;clear hn;go_wp2;go_loopw [21] (λay wq=>∃(j:Nat)(l':List Nm),j<=n/\ay= .int .i64 (j:Int)/\Hid (tW wq r m (E.map λch=>(ch.c,ch.row)) (λx=>V x\/x=(ch.c,ch.row)) k3)/\Hid (jP wq B l')/\Hid (TM wq t m E)/\Hid (Bi B w wq)/\Hid (r<wq.heap.size)/\Hid (∀x,x∈l'↔x∈l\/∃(i:Nat)(ln:Ln),i<j/\ch.ls[i]? =some ln/\(x=ch.c\/x=ln.x.par))) (λay _=>n - (intOf ay).toNat)
   case atStart=>exact⟨0,l,AY _,rfl,a0,bb,bO,a6,ar,AA (λx=>⟨.inl,λh=>h.elim id (λ⟨i,_,h,_⟩=>absurd h (CX i))⟩)⟩
   case round=>
    clear a0 bb bO a6 ar aa an;obtain⟨j,l',hj,rfl,U,J,hT,hB,F,ad⟩:=hrel;rcases Bc j n with cn | cx
    ·obtain⟨ln,ao⟩:∃ln,ch.ls[j]? =some ln:=⟨_,AJ (by rw[<-HN.out];exact cn)⟩;have cv:=(hT.out.rows ch Y).cell ao;have cr:=(hT.out.lns ch Y ln (A0 ao)).par;have au:=AA ao;obtain⟨w4,h4,be,ca⟩:=J.out.upd ch.c;obtain⟨w5,u,n5,w6,h5,h6,bi,cb⟩:=be.ent ln.x.par;have I:=ca.trans cb;have b0:bw wr B:=J.out.own;have cl:=AA (hT.out.upd I b0 (λhm=>by have:=Z.out B hm;omega));have bp:=AA bi;have cd:=AA (U.out.other (I.block r (by have:=am.out;omega)) (I.block m (by have:=Z.out m (by simp[fpT]);omega)));have cc:=AA (I.below hB.out (AE _));have b2:=AA (show r<w6.heap.size by rw[I.size];exact F.out);have av:=AA (show∀x,x∈nZ (nZ l' ch.c) ln.x.par↔x∈l\/∃(i:Nat)(ln:Ln),i<j+1/\ch.ls[i]? =some ln/\(x=ch.c\/x=ln.x.par)from λx=>by
      rw[jQ,jQ,ad.out];constructor
      ·rintro(((h | ⟨i,y,a1,G,K⟩) | rfl) | rfl)
       ·exact .inl h
       ·exact .inr ⟨i,y,no,G,K⟩
       ·exact .inr ⟨j,ln,no,au.out,.inl rfl⟩
       ·exact .inr ⟨j,ln,no,au.out,.inr rfl⟩
      ·rintro(h | ⟨i,y,a1,G,K⟩)
       ·exact .inl (.inl (.inl h))
       ·rcases Bc i j with h | h
        ·exact .inl (.inl (.inr ⟨i,y,h,G,K⟩))
        ·obtain rfl:i=j:=no
         rw[au.out]at G;injection G with G;subst G;rcases K with rfl | rfl
         ·exact .inl (.inr rfl)
         ·exact .inr rfl)
     clear ao be bi ca cb I b0 U J hT hB F ad;generalize ln.b=lb at *;generalize nZ (nZ l' ch.c) ln.x.par=l6 at *;generalize ln.x.par=pr at *;go_wp2;go_roundw
     case rel=>exact⟨j+1,l6,no,by go_num,cd,bp,cl,cc,b2,av⟩
     case measure=>simp[intOf];omega
    ·obtain rfl:j=n:=no
     have av:=AA (show∀x,x∈l'↔∃C∈E,(V (C.c,C.row)\/(C.c,C.row)=(ch.c,ch.row))/\∃ln∈C.ls,x=C.c\/x=ln.x.par from λx=>by
      rw[ad.out,hL.out];constructor
      ·rintro(⟨C,a1,G,K⟩ | ⟨i,y,a1,G,K⟩)
       ·exact⟨C,a1,.inl G,K⟩
       ·exact⟨ch,Y,.inr rfl,y,A0 G,K⟩
      ·rintro⟨C,a1,G | G,y,K,a4⟩
       ·exact .inl ⟨C,a1,G,y,K,a4⟩
       ·have e:C=ch:=hu.out ch C Y a1 (congrArg (·.1) G);subst e;obtain⟨i,hi,e2⟩:=BK K;exact .inr ⟨i,y,by rw[HN.out];exact hi,by rw[AJ hi,e2],a4⟩)
     clear hL ad;go_wp2;go_roundg k3
     case measure=>exact cm
     case rel=>exact⟨_,l',U,J,hT,hB,F,av⟩
def trE(E:List Ch):Tr:=E.flatMap λch=>ch.ls.map λl=>(ch.c,l.x)
theorem cE{q:Nm×Lk}:q∈trE E↔∃ch∈E,∃l∈ch.ls,q=(ch.c,l.x):=by
 unfold trE;rw[Br];constructor
 ·rintro⟨ch,h1,h2⟩;obtain⟨l,h3,rfl⟩:=Ba.1 h2;exact⟨ch,h1,l,h3,rfl⟩
 ·rintro⟨ch,h1,l,h3,rfl⟩;exact⟨ch,h1,Ba.2 ⟨l,h3,rfl⟩⟩
theorem t6(d c:Nm)(ls:List Ln):lks (ls.map λl=>(d,l.x)) c=if d=c then ls.map (·.x)else []:=by
 induction ls with
 | nil=>split<;>rfl
 | cons l ls ih=>
  rw[Bq,d8,ih];by_cases h:d=c
  ·simp only[if_pos h,Bq]
  ·simp only[if_neg h]
theorem ji:∀ {E:List Ch},(E.map (·.c)).Nodup->∀c,lks (trE E) c=(lsE E c).map (·.x)
 | [],_,_=>rfl
 | ch::E,h,c=>by
  obtain⟨h1,h2⟩:=Bu.1 h;have F:=ji h2 c;have e:trE (ch::E)=(ch.ls.map λl=>(ch.c,l.x))++trE E:=rfl;rw[e,gS,t6,F];unfold lsE chE;by_cases hc:ch.c=c
  ·rw[if_pos hc,List.find?_cons_of_pos (by simpa using hc)];have:E.find? (λch=>decide (ch.c=c))=none:=CW.2 (λx C=>by
    have:x.c≠c:=λe=>h1 (Ba.2 ⟨x,C,e.trans hc.symm⟩)
    simpa using this)
   rw[this];simp
  ·rw[if_neg hc,List.find?_cons_of_neg (by simpa using hc),List.nil_append]
theorem TM.keys(h:TM w t m E):(E.map (·.c)).Nodup:=by
 have hn:=h.mp.nodup;rwa [CE]at hn
theorem TM.tAt(h:TM w t m E)(c:Nm)(a:Int):(atE E c a).map (·.x)=tAt (trE E) c a:=by
 unfold atE Go.Proofs.YtggfmklppkioeaaGreat.tAt;rw[ji h.keys,List.find?_map];rfl
open Classical in
theorem wX {w:World} {t m:Nat} {E:List Ch} (h:TM w t m E) (hE:TOk (trE E)) (f o:Nm) (a:Int):
  AC AB 184 #[ptB t,.string f,.string o,.int .i64 a] w fun e w'=>e= .returned (.bool (decide (Reach (trE E) a o f)))∧w'=w:=
 q_above h h.tAt f o a (hE.acy a o) _ (by simp)
open Classical in
set_option maxHeartbeats 400000 in
theorem o9 {w:World} {t m:Nat} {E:List Ch} (h:TM w t m E) (hE:TOk (trE E)) (c p:Nm) (f:Int):AC AB 125 #[ptB t,.string c,.string p,.int .i64 f] w fun e w'=>e= .returned (.bool (decide (Cyc (trE E) c p f)))∧Bi w.heap.size w w':=by
 have hab:=wX h hE c p f;by_cases hr:Reach (trE E) f p c
 ·have hcy:Cyc (trE E) c p f:=.inl hr;rw[decide_eq_true hcy];rw[decide_eq_true hr]at hab;clear h hr hcy hE;go_enter Tryz.func125,Tryz.ntmps125
  go_wp2_with (go_at_call 184;refine hab.mono ?_;rintro e w' ⟨rfl,hw'⟩;obtain rfl:=hw'.symm)
  go_ret;exact⟨rfl,AF _ _⟩
 ·rw[decide_eq_false hr]at hab;obtain⟨w2,k0,hrg,hR,hb2,hs2⟩:=su (P:=AB) (t:=mpT) h.mp Fg;have H2:=h.below hb2;have c1:=h.cell;obtain⟨r,hrr⟩:∃r,w.heap.size=r:=⟨_,rfl⟩;rw[hrr]at hrg hR hs2;have hlow:=AA (show∀g∈fpT t m E,g<r from fun g hg=>by have:=h.lt g hg;omega);have hT0:=AA H2;have hR0:=AA hR;have hB0:=AA hb2;have hu:=AA (fun(ch ch':Ch)=>h.uniq (ch:=ch) (ch':=ch'));have hwr:=AA (show w.heap.size≤r by omega);have hrz:=AA (show r<w2.heap.size by omega);have HE:=AA hE;have HNR:=AA hr;obtain⟨b,hbb⟩:∃b,b=decide (Cyc (trE E) c p f):=⟨_,rfl⟩;have HBB:=AA hbb;rw[←hbb];clear h hR H2 hs2 hr hE hbb hb2;go_enter Tryz.func125,Tryz.ntmps125
  go_wp2_with (go_at_call 184;refine hab.mono ?_;rintro e w' ⟨rfl,hw'⟩;obtain rfl:=hw'.symm)
  clear hab hrg c1 hrr;go_loopg [] k0 (fun k wr=>∃(V:ByteArray×Value→Prop),Hid (tW wr r m (E.map fun ch=>(ch.c,ch.row)) V k)∧Hid (TM wr t m E)∧Hid (Bi w.heap.size w wr)∧Hid (r<wr.heap.size)∧Hid (∀ch∈E,V (ch.c,ch.row)→∀ln∈ch.ls,¬(f<ln.x.fr∧Reach (trE E) ln.x.fr p c)))
  case atStart=>exact⟨_,hR0,hT0,hB0,hrz,AA (fun _ _ h=>h.elim)⟩
  case round=>
   clear hT0 hR0 hB0 hrz;obtain⟨V,hR,hT,hB,hrz,hL⟩:=hrel;rcases wP (P:=AB) hR.out 0 with⟨hnx,hall⟩ | ⟨q,hp,w3,k3,hk3,hnx,hen,hR3,hu3⟩
   ·have hbf:b=false:=by
     rw[HBB.out];refine decide_eq_false ?_;rintro(h1 | ⟨q,h1,h2,h3⟩)
     ·exact HNR.out h1
     ·obtain⟨ch,a1,l,a2,rfl⟩:=cE.1 h1;exact hL.out ch a1 (hall _ (Ba.2 ⟨ch,a1,rfl⟩)) l a2 ⟨h2,h3⟩
    subst hbf;clear hall;go_wp2;go_ret;exact⟨rfl,hB.out⟩
   ·obtain⟨ch,hch,rfl⟩:=Ba.1 hp;have hrlt:=hrz.out;have horX:bw wr r:=⟨hrlt,fun k n hk=>by
     obtain⟨es,clock,since,c0,seen,h,_⟩:=hR.out;simp[World.cell?,h]at hk⟩
    have hT3:=AA (hT.out.upd hu3 horX (fun hm=>by have:=hlow.out r hm;omega));have hB3:=AA (hu3.below hB.out hwr.out);have hrz3:=AA (show r<w3.heap.size by rw[hu3.size];exact hrlt);have HR3:=AA hR3;have H:=hT.out.rows ch hch;have hm:(ch.ls.length:Int)≤9223372036854775807:=by have:=H.le;have:=H.cap;unfold maxLen at this;omega
    clear hT hR hB hrz hrlt horX H hR3 hu3 hp
    change (Instr.next _ _ _).run _ _= .ok (.tuple #[.bool true,.string ch.c,ch.row]) w3 at hnx
    change (Instr.entry _).run _ _= .ok (.tuple #[.string ch.c,ch.row]) w3 at hen
    unfold Ch.row at hnx hen;obtain⟨n,hn⟩:∃n,n=ch.ls.length:=⟨_,rfl⟩;rw[←hn]at hnx hen hm;have HN:=AA hn;clear hn;go_wp2;go_loopw [29] (fun s29 wq=>∃(j:Nat),j≤n∧s29= .int .i64 (j:Int)∧wq=w3∧Hid (∀(i:Nat)(ln:Ln),i<j→ch.ls[i]? =some ln→¬(f<ln.x.fr∧Reach (trE E) ln.x.fr p c))) (fun s29 _=>n - (intOf s29).toNat)
    case atStart=>exact⟨0,AY _,rfl,rfl,AA (fun i _ h=>absurd h (CX i))⟩
    case round=>
     clear hnx hen;obtain⟨j,hj,rfl,rfl,hL'⟩:=hrel;rcases Bc j n with hlt | hge
     ·obtain⟨ln,hln⟩:∃ln,ch.ls[j]? =some ln:=⟨_,AJ (by rw[←HN.out];exact hlt)⟩;have hmem:=A0 hln;have hcl:=(hT3.out.rows ch hch).cell hln;have hfr:=(hT3.out.lns ch hch ln hmem).fr;have HLN:=AA hln;have hab:=wX hT3.out HE.out c p ln.x.fr;have hq:=cE.2 ⟨ch,hch,ln,hmem,rfl⟩;by_cases h1:f<ln.x.fr
      ·by_cases h2:Reach (trE E) ln.x.fr p c
       ·have hbt:b=true:=by rw[HBB.out];exact decide_eq_true (.inr ⟨_,hq,h1,h2⟩)
        subst hbt;rw[decide_eq_true h2]at hab;clear h2 hq hmem hln;generalize ln.x.fr=fr at *;generalize ln.b=lb at *;go_wp2_with (go_at_call 184;refine hab.mono ?_;rintro e w' ⟨rfl,hw'⟩;obtain rfl:=hw'.symm)
        go_ret;exact⟨rfl,hB3.out⟩
       ·rw[decide_eq_false h2]at hab;have hL2:=AA (show∀(i:Nat)(ln:Ln),i<j+1→ch.ls[i]? =some ln→¬(f<ln.x.fr∧Reach (trE E) ln.x.fr p c)from fun i y hi hy=>by
         rcases Bc i j with h | h
         ·exact hL'.out i y h hy
         ·obtain rfl:i=j:=by omega
          rw[HLN.out]at hy;injection hy with hy;subst hy;exact fun h=>h2 h.2)
        clear h2 hq hmem hln hL';generalize ln.x.fr=fr at *;generalize ln.b=lb at *;go_wp2_with (go_at_call 184;refine hab.mono ?_;rintro e w' ⟨rfl,hw'⟩;obtain rfl:=hw'.symm)
        go_roundw
        case rel=>exact⟨j+1,by omega,by go_num,by trivial,hL2⟩
        case measure=>simp[intOf];omega
      ·have h1':decide (f<ln.x.fr)=false:=decide_eq_false h1;have hL2:=AA (show∀(i:Nat)(ln:Ln),i<j+1→ch.ls[i]? =some ln→¬(f<ln.x.fr∧Reach (trE E) ln.x.fr p c)from fun i y hi hy=>by
        rcases Bc i j with h | h
        ·exact hL'.out i y h hy
        ·obtain rfl:i=j:=by omega
         rw[HLN.out]at hy;injection hy with hy;subst hy;exact fun h=>h1 h.1)
       clear hab hq hmem hln hL' h1;generalize ln.x.fr=fr at *;generalize ln.b=lb at *;go_wp2;go_roundw
       case rel=>exact⟨j+1,by omega,by go_num,by trivial,hL2⟩
       case measure=>simp[intOf];omega
     ·obtain rfl:j=n:=by omega
      have hL2:=AA (show∀ch'∈E,(V (ch'.c,ch'.row)∨(ch'.c,ch'.row)=(ch.c,ch.row))→∀ln∈ch'.ls,¬(f<ln.x.fr∧Reach (trE E) ln.x.fr p c)from fun ch' a1 a2 ln a3=>by
       rcases a2 with a2 | a2
       ·exact hL.out ch' a1 a2 ln a3
       ·have e:ch'=ch:=hu.out ch ch' hch a1 (congrArg (·.1) a2);subst e;obtain⟨i,hi,e2⟩:=BK a3;exact hL'.out i ln (by rw[HN.out];exact hi) (by rw[AJ hi,e2]))
      clear hL hL';go_wp2;go_roundg k3
      case measure=>exact hk3
      case rel=>exact⟨_,HR3,hT3,hB3,hrz3,hL2⟩
variable{n:Nat}
theorem fp_put{A B o o':List Nat}{b:Nat}(h:(A++(b::g::o)++B).Nodup)(C:∀x∈A++(b::g::o)++B,x<n)(J:∀x∈o',x∈o\/n<=x)(hn:o'.Nodup):(A++(b::g::o')++B).Nodup:=by
 simp only[BJ,Bu,AS,AG]at h C⊢;obtain⟨⟨h1,⟨h2,h3,U⟩,G⟩,I,F⟩:=h;have lt:∀x∈o',∀y,((y∈A\/y=b\/y=g\/y∈o)\/y∈B)->(x∉o)->y≠x:=λx K y hy H e=>by
  have:=C y hy;rcases J x K with h | h
  ·exact H h
  ·omega
 refine⟨⟨h1,⟨λh=> ?_,λh=> ?_,hn⟩,λa ha c hc=> ?_⟩,I,λa ha c hc=> ?_⟩
 ·rcases h with h | h
  ·exact h2 (.inl h)
  ·by_cases hb:b∈o
   ·exact h2 (.inr hb)
   ·exact lt b h b (.inl (.inr (.inl rfl))) hb rfl
 ·by_cases hg:g∈o
  ·exact h3 hg
  ·exact lt g h g (.inl (.inr (.inr (.inl rfl)))) hg rfl
 ·rcases hc with rfl | rfl | hc
  ·exact G a ha _ (.inl rfl)
  ·exact G a ha _ (.inr (.inl rfl))
  ·by_cases hco:c∈o
   ·exact G a ha _ (.inr (.inr hco))
   ·exact lt c hc a (.inl (.inl ha)) hco
 ·rcases ha with ha | rfl | rfl | ha
  ·exact F a (.inl ha) c hc
  ·exact F _ (.inr (.inl rfl)) c hc
  ·exact F _ (.inr (.inr (.inl rfl))) c hc
  ·by_cases hao:a∈o
   ·exact F a (.inr (.inr (.inr hao))) c hc
   ·exact λe=>lt a ha c (.inr hc) hao e.symm
def dh(E1 E2:List Ch)(c:Nm)(rb cap:Nat)(L1 L2:List Ln)(l:Ln):List Ch:=E1++⟨c,rb,cap,L1++l::L2⟩::E2
theorem fO(t m:Nat)(C F:List Ch)(c:Nm)(rb cap:Nat)(G L2:List Ln)(l:Ln):fpT t m (dh C F c rb cap G L2 l)=(t::m::(C.flatMap Ch.fp++rb::G.flatMap Ln.fp))++(l.b::l.g::l.sl.ownBlock.toList)++(L2.flatMap Ln.fp++F.flatMap Ch.fp):=by
 simp[fpT,dh,Ch.fp,Ln.fp,DB,Cw,CO]
theorem iO(C F:List Ch)(c:Nm)(rb cap:Nat)(G L2:List Ln)(l:Ln):trE (dh C F c rb cap G L2 l)=(trE C++G.map λl=>(c,l.x))++(c,l.x)::((L2.map λl=>(c,l.x))++trE F):=by
 simp[trE,dh,DB,Cw,CO]
variable{rb cap:Nat}{L2:List Ln}{l l':Ln}
theorem TM.put{J K:List Ch}{G:List Ln}(h:TM w t m (dh J K c rb cap G L2 l))(hb:l'.b=l.b)(hg:l'.g=l.g)
  (ho:∀b,l'.sl.ownBlock=some b->l.sl.ownBlock=some b\/w.heap.size<=b)(hL:LnAt w' c l')(am:∀g∈l'.fp,bw w' g)(k:Chg w w' (· ∈l.fp)):TM w' t m (dh J K c rb cap G L2 l'):=by
 have U:=h.nd;have ad:=h.lt;rw[fO]at U ad;have ao:(l'.sl.ownBlock.toList).Nodup:=by cases l'.sl.ownBlock<;>simp
 have ak:(fpT t m (dh J K c rb cap G L2 l')).Nodup:=by
  rw[fO,hb,hg];refine fp_put U ad (λx I=> ?_) ao;have I:l'.sl.ownBlock=some x:=by simpa using I
  exact(ho x I).imp (λh=>by simp[h]) id
 have F:∀x,(x∈(t::m::(J.flatMap Ch.fp++rb::G.flatMap Ln.fp))\/x∈(L2.flatMap Ln.fp++K.flatMap Ch.fp))->x∉l.fp:=λx I hl=>by
  rw[BJ,BJ]at U;have hl:x∈l.b::l.g::l.sl.ownBlock.toList:=hl;rcases I with I | I
  ·exact U.1.2.2 x I x hl rfl
  ·exact U.2.2 x (AG.2 (.inr hl)) x I rfl
 have Y:∀ch∈J++K,ch∈dh J K c rb cap G L2 l:=λch hc=>by
  unfold dh;rcases AG.1 hc with h | h
  ·exact AG.2 (.inl h)
  ·exact AG.2 (.inr (Bf _ h))
 have Z:∀ch∈J++K,∀g∈ch.fp,g∉l.fp:=λch hc g C=>by
  refine F g ?_;rcases AG.1 hc with h | h
  ·exact .inl (Bf _ (Bf _ (AG.2 (.inl (Br.2 ⟨ch,h,C⟩)))))
  ·exact .inr (AG.2 (.inr (Br.2 ⟨ch,h,C⟩)))
 have ac:∀y∈G++L2,∀g∈y.fp,g∉l.fp:=λy hy g C=>by
  refine F g ?_;rcases AG.1 hy with h | h
  ·exact .inl (Bf _ (Bf _ (AG.2 (.inr (Bf _ (Br.2 ⟨y,h,C⟩))))))
  ·exact .inr (AG.2 (.inl (Br.2 ⟨y,h,C⟩)))
 have aa:(⟨c,rb,cap,G++l::L2⟩:Ch)∈dh J K c rb cap G L2 l:=AG.2 (.inr (Bo ..));have H:∀ch∈dh J K c rb cap G L2 l',ch∈J++K\/ch=⟨c,rb,cap,G++l'::L2⟩:=λch hc=>by
  unfold dh at hc;rcases AG.1 hc with h | h
  ·exact .inl (AG.2 (.inl h))
  ·rcases AS.1 h with h | h
   ·exact .inr h
   ·exact .inl (AG.2 (.inr h))
 have hm:m∉l.fp:=F m (.inl Ad);have ht:t∉l.fp:=F t (.inl Ad);have ap:rb∉l.fp:=F rb (.inl Ad);refine⟨by rw[k.blk _ (AZ.1 h.tr).1 ht];exact h.tr,?_,λch hc=> ?_,λch hc y hy=> ?_,ak,λg C=> ?_⟩
 ·have:=h.mp.other (k.blk _ h.mp.lt hm);simpa [dh,Ch.row]using this
 ·rcases H ch hc with h1 | rfl
  ·exact(h.rows ch (Y ch h1)).chg k (Z ch h1 _ (Bo ..))
  ·obtain⟨⟨cs,h1,h2,h3⟩,h4,h5,_⟩:=(h.rows _ aa).chg k ap;refine⟨⟨cs,h1,h2,λj y hy=> ?_⟩,by simpa using h4,h5,by simp⟩;rcases Dr j G.length with hj | hj | hj
   ·refine h3 j y ?_;rw[Bz hj]at hy⊢;exact hy
   ·subst hj;rw[Bv (AE _),Df]at hy;simp at hy;subst hy;rw[hb];exact h3 G.length l (by rw[Bv (AE _),Df];rfl)
   ·refine h3 j y ?_;rw[Bv no,List.getElem?_cons,if_neg no]at hy⊢;exact hy
 ·rcases H ch hc with h1 | rfl
  ·exact(h.lns ch (Y ch h1) y hy).chg k (λg C=>Z ch h1 g (Bf _ (Br.2 ⟨y,hy,C⟩)))
  ·have hy:y∈G++l'::L2:=hy;have V:y=l'\/y∈G++L2:=by
    simp only[AG,AS]at hy⊢;rcases hy with h | h | h
    ·exact .inr (.inl h)
    ·exact .inl h
    ·exact .inr (.inr h)
   rcases V with rfl | V
   ·exact hL
   ·have aq:y∈(⟨c,rb,cap,G++l::L2⟩:Ch).ls:=by
     show y∈G++l::L2;simp only[AG,AS]at V⊢;exact V.imp id .inr
    exact(h.lns _ aa y aq).chg k (ac y V)
 ·rw[fO,AG,AG]at C;have ab:∀x,(x∈(t::m::(J.flatMap Ch.fp++rb::G.flatMap Ln.fp))\/x∈(L2.flatMap Ln.fp++K.flatMap Ch.fp))->bw w' x:=λx I=>by
   have an:bw w x:=h.own x (by
    rw[fO,AG,AG];exact I.imp .inl id)
   exact an.blk (k.blk x an.1 (F x I)) k.size
  rcases C with(h1 | h1) | h1
  ·exact ab g (.inl h1)
  ·exact am g h1
  ·exact ab g (.inr h1)
variable{v:Value}{cs:Array Value}
theorem set_own{T:TypeId}(hb:w.heap[b]? =some (.cells cs T (0,0)))(o:bw w b)(F:∀n,v≠ .int .u32 n):bw (w.setCell ⟨b,k,none⟩ v) b:=by
 refine .mk' (CZ w b k cs T v hb) (λj n C=> ?_);rw[DQ]at C;split at C
 ·split at C
  ·injection C with C;exact F n C
  ·cases C
 ·exact o.2 j n (by rw[aH hb];exact C)
abbrev Kp(w:World)(F:List Nat)(w':World):Prop:=(Ent.mk w (λg=>g∈F) []).kept w'
theorem Kp.of_below{F:List Nat}(h:Bi w.heap.size w w'):Kp w F w':=⟨h.os,h.tape,h.output,h.size,λk C _=>h.block k C⟩
theorem Kp.upd{F:List Nat}(u:Upd w g w')(C:g∈F):Kp w F w':=⟨u.os,u.tape,u.output,by rw[u.size];exact AE _,λk _ G=>u.block k (λe=>G (e▸C))⟩
structure TPost(w:World)(t m:Nat)(E:List Ch)(w':World)(E':List Ch):Prop where
 tm:TM w' t m E'
 kp:Kp w (fpT t m E) w'
 fp:∀g∈fpT t m E',g∈fpT t m E\/w.heap.size<=g
theorem TPost.refl(h:TM w t m E)(hb:Bi w.heap.size w w'):TPost w t m E w' E:=⟨h.below hb,.of_below hb,λ_ h=>.inl h⟩
theorem zm(hc:chE E c=some ch)(I:ch.ls[k]? =some l):∃G H C F,E=dh G H c ch.rb ch.cap C F l/\C.length=k/\ch.ls=C++l::F:=by
 obtain⟨_,A,B,rfl,_⟩:=List.find?_eq_some_iff_append.1 hc;have e:=(cD hc).2;obtain⟨C,F,h1,h2⟩:=d9 I;refine⟨A,B,C,F,?_,h2,h1⟩;unfold dh;obtain⟨J,rb,cap,ls⟩:=ch;simp only at e h1⊢;subst e;subst h1;rfl
variable{F G:List Ch}
theorem TM.lnd{H:List Ln}(h:TM w t m (dh F G c rb cap H L2 l)):l.fp.Nodup:=by
 have C:=h.nd;rw[fO,BJ,BJ]at C;exact C.1.2.1
theorem TM.sub{C:List Ch}{G:List Ln}(_:TM w t m (dh C F c rb cap G L2 l)):∀g∈l.fp,g∈fpT t m (dh C F c rb cap G L2 l):=λg H=>by
 rw[fO];exact AG.2 (.inl (AG.2 (.inr H)))
theorem TM.mid{C:List Ln}(h:TM w t m (dh F G c rb cap C L2 l)):LnAt w c l:=
 h.lns ⟨c,rb,cap,C++l::L2⟩ (AG.2 (.inr (Bo ..))) l (AG.2 (.inr (Bo ..)))
variable{j:Nat}
theorem LnAt.setv(h:LnAt w c l)(hn:l.fp.Nodup)(o:bw w l.b)(V:fB v)(K:lnQ c l'=(lnQ c l).set j (.val v))(hb:l'.b=l.b)(F:l'.g=l.g)(hs:l'.sl=l.sl)(ht:l'.x.tr=l.x.tr):LnAt (w.setCell ⟨l.b,j,none⟩ v) c l':=by
 obtain⟨⟨cs,h1,h2,h3⟩,U⟩:=h;have J:Chg w (w.setCell ⟨l.b,j,none⟩ v) (λx=>x=l.b):=.upd o (Upd.cell w l.b j v);have C:l.b≠l.g/\∀b,l.sl.ownBlock=some b->b≠l.b:=by
  unfold Ln.fp at hn;obtain⟨I,_⟩:=Bu.1 hn;exact⟨λe=>I (e▸Bo ..),λb hb e=>I (e▸Bf _ (by simp[hb]))⟩
 refine⟨⟨cs.setIfInBounds j v,by rw[hb];exact CZ w l.b j cs lkT v h1,by rw[K];simpa using h2,λi q hi=> ?_⟩,by rw[F,hs,ht];exact U.chg J (λe=>C.1 e.symm) C.2⟩;rw[K,List.getElem?_set]at hi;rw[DQ];split at hi
 ·rename_i e;subst e;split at hi
  ·rename_i G;injection hi with hi;subst hi;rw[if_pos rfl,if_pos (by rw[h2];exact G)];exact⟨v,rfl,rfl,V⟩
  ·cases hi
 ·rename_i e;rw[if_neg e];obtain⟨u,Y,k2⟩:=h3 i q hi;have H:q∈lnQ c l:=A0 hi;exact⟨u,Y,(q.ch _ _ _ u k2 J (λg F=>absurd F (tX q H _ _ _))).1⟩
theorem TM.setv{J K:List Ch}{U:List Ln}(h:TM w t m (dh J K c rb cap U L2 l))(V:fB v)(Y:lnQ c l'=(lnQ c l).set j (.val v))(hb:l'.b=l.b)(G:l'.g=l.g)(hs:l'.sl=l.sl)(ht:l'.x.tr=l.x.tr):
  TPost w t m (dh J K c rb cap U L2 l) (w.setCell ⟨l.b,j,none⟩ v) (dh J K c rb cap U L2 l'):=by
 have F:∀g∈l.fp,bw w g:=λg G=>h.own g (h.sub g G)
 have hn:=h.lnd;have I:=h.mid;have u:=Upd.cell w l.b j v;have e:l'.fp=l.fp:=by unfold Ln.fp;rw[hb,G,hs]
 obtain⟨⟨cs,h1,_⟩,_⟩:=h.mid;have H:bw w l.b:=F _ (Bo ..);have hc:Chg w (w.setCell ⟨l.b,j,none⟩ v) (· ∈l.fp):=⟨by rw[u.size];exact AE _,λg _ G=>u.block g (λe=>G (e▸Bo ..)),F⟩;refine⟨h.put hb G (λb hb=>.inl (hs▸hb)) (I.setv hn H V Y hb G hs ht) (λg C=> ?_) hc,.upd u (h.sub _ (Bo ..)),λg C=>.inl ?_⟩
 ·rw[e]at C;by_cases e2:g=l.b
  ·subst e2;exact set_own h1 H (λn=>V.2.2 n)
  ·exact(F g C).blk (u.block g e2) (by rw[u.size];exact AE _)
 ·rw[fO]at C⊢;rw[hb,G,hs]at C;exact C
inductive DetS(R:Tr)(c:Nm)(u:Int):Tr->Int->Prop
 | none (h:qi R c):DetS R c u R 6
 | time {k:Nat} {x:Lk} (h:eO R c k x) (ht:u<=x.fr\/bC<u):DetS R c u R 17
 | ok {A B:Tr} {x:Lk} (e:R=A++(c,x)::B) (h:x.un= -1) (h1:x.fr<u) (h2:u<=bC):DetS R c u (A++(c,{x with un:=u})::B) 0
theorem qn(h:TM w t m E)(J:TOk (trE E))(F:opL (lsE E c)=none):qi (trE E) c:=by
 rintro i ⟨C,x⟩ hi ⟨h1,h2⟩;simp only at h1 h2;subst h1;have U:=A0 hi;obtain⟨A,B,e,_⟩:=d9 hi;have K:=J.row C;have G:lks (trE E) C=lks A C++x::lks B C:=by rw[e,dg,if_pos rfl]
 have I:lks B C=[]:=kn (A:=A) (c:=C) (x:=x) (by rw[<-e];exact K) h2;rw[I,ji h.keys]at G;unfold opL at F
 cases hl:(lsE E C).getLast? with
 | none=>
  have:=List.getLast?_eq_none_iff.1 hl;rw[this]at G;simp at G
 | some l=>
  have H:((lsE E C).map (·.x)).getLast? =some l.x:=by rw[List.getLast?_map,hl];rfl
  rw[G,List.getLast?_append]at H;simp at H;rw[hl]at F;simp only at F;rw[if_pos (by rw[<-H];exact h2)]at F;cases F
theorem mM(C:opL (lsE E c)=some l):l.x.un= -1/\∃ch,chE E c=some ch/\ch.ls[ch.ls.length - 1]? =some l:=by
 unfold opL at C
 cases hl:(lsE E c).getLast? with
 | none=>rw[hl]at C;cases C
 | some l'=>
  rw[hl]at C;simp only at C;split at C
  ·rename_i h1;injection C with C;subst C;refine⟨h1,?_⟩;unfold lsE at hl
   cases hc:chE E c with
   | none=>rw[hc]at hl;cases hl
   | some ch=>
    rw[hc]at hl;exact⟨ch,rfl,by rw[<-FH];exact hl⟩
  ·cases C
theorem q_Detach(h:TM w t m E)(Z:TOk (trE E))(c:Nm)(u:Int):AC AB 68 #[ptB t,.string c,.int .i64 u] w λe w'=>∃E' C,e= .returned (.int .i64 C)/\TPost w t m E w' E'/\DetS (trE E) c u (trE E') C:=by
 have F:=lm h c
 cases ho:opL (lsE E c)with
 | none=>
  rw[ho]at F
  change AC _ _ _ _ (λe w'=>e= .returned (.pointer none)/\w'=w)at F
  have U:=AA (show∃E' C,BF (.int .i64 6)= .returned (.int .i64 C)/\TPost w t m E w E'/\DetS (trE E) c u (trE E') C from⟨E,6,rfl,.refl h (AF _ _),.none (qn h Z ho)⟩);clear h Z ho;go_enter Tryz.func68,Tryz.ntmps68
  go_wp2_with (go_at_call 124;refine F.mono ?_;rintro e w' ⟨rfl,H⟩;obtain rfl:=H.symm)
  go_ret;exact U.out
 | some l=>
  rw[ho]at F
  change AC _ _ _ _ (λe w'=>e= .returned (ptB l.b)/\w'=w)at F
  obtain⟨I,ch,hc,Y⟩:=mM ho;have V:=h.ln hc (A0 Y);have ak:=V.fr;have hq:=cE.2 ⟨ch,(cD hc).1,l,A0 Y,rfl⟩;rw[(cD hc).2]at hq;obtain⟨k,J,K⟩:=BK hq;have G:eO (trE E) c k l.x:=⟨by rw[AJ J,K],I⟩;by_cases c1:u<=l.x.fr
  ·have U:=AA (show∃E' C,BF (.int .i64 17)= .returned (.int .i64 C)/\TPost w t m E w E'/\DetS (trE E) c u (trE E') C from⟨E,17,rfl,.refl h (AF _ _),.time G (.inl c1)⟩);clear h Z ho V hq G Y I hc J K;generalize l.x.fr=fr at *;generalize l.b=lb at *;go_enter Tryz.func68,Tryz.ntmps68
   go_wp2_with (go_at_call 124;refine F.mono ?_;rintro e w' ⟨rfl,H⟩;obtain rfl:=H.symm)
   go_ret;exact U.out
  ·by_cases c2:1099511627776<u
   ·have U:=AA (show∃E' C,BF (.int .i64 17)= .returned (.int .i64 C)/\TPost w t m E w E'/\DetS (trE E) c u (trE E') C from⟨E,17,rfl,.refl h (AF _ _),.time G (.inr c2)⟩);clear h Z ho V hq G Y I hc J K;generalize l.x.fr=fr at *;generalize l.b=lb at *;go_enter Tryz.func68,Tryz.ntmps68
    go_wp2_with (go_at_call 124;refine F.mono ?_;rintro e w' ⟨rfl,H⟩;obtain rfl:=H.symm)
    go_ret;exact U.out
   ·obtain⟨E1,E2,L1,L2,rfl,_,aa⟩:=zm hc Y;have ab:decide (u<=l.x.fr)=false:=decide_eq_false c1;have ac:decide (1099511627776<u)=false:=decide_eq_false c2;have U:=AA (show∃E' C,BF (.int .i64 0)= .returned (.int .i64 C)/\TPost w t m (dh E1 E2 c ch.rb ch.cap L1 L2 l) (w.setCell ⟨l.b,3,none⟩ (.int .i64 u)) E'/\DetS (trE (dh E1 E2 c ch.rb ch.cap L1 L2 l)) c u (trE E') C from by
     refine⟨dh E1 E2 c ch.rb ch.cap L1 L2 {l with x:= {l.x with un:=u}},0,rfl,?_,?_⟩
     ·exact h.setv (l':= {l with x:= {l.x with un:=u}}) ck rfl rfl rfl rfl rfl
     ·rw[iO,iO];exact .ok rfl I no (by unfold bC;omega))
    have ad:=V.un;have am:w.frozen? ⟨l.b,3,none⟩=false:=by
     obtain⟨⟨cs,h1,_⟩,_⟩:=V;simp[Dl,h1]
    clear h Z ho V hq G Y I hc J K c1 c2 aa;generalize l.x.fr=fr at *;generalize l.b=lb at *;go_enter Tryz.func68,Tryz.ntmps68
    go_wp2_with (go_at_call 124;refine F.mono ?_;rintro e w' ⟨rfl,H⟩;obtain rfl:=H.symm)
    go_ret;exact U.out
theorem ku:tZ E x↔aC (trE E) x:=by
 unfold tZ aC;constructor
 ·rintro⟨ch,h1,l,h2,h3⟩;exact⟨(ch.c,l.x),cE.2 ⟨ch,h1,l,h2,rfl⟩,h3.imp Eq.symm Eq.symm⟩
 ·rintro⟨q,h1,h2⟩;obtain⟨ch,C,l,F,rfl⟩:=cE.1 h1;exact⟨ch,C,l,F,h2.imp Eq.symm Eq.symm⟩
theorem sw(h:TM w t m E)(c:Nm)(a:Int):AC AB 90 #[ptB t,.string c,.int .i64 a] w λe w'=>e= .returned (ptO (atE E c a))/\w'=w:=q_at h c a
theorem q_New(w:World):AC AB 31 #[] w λe w'=>∃t m,e= .returned (ptB t)/\TM w' t m []/\w.heap.size<=t/\w.heap.size<=m/\Bi w.heap.size w w':=by
 obtain⟨C,Y,I,H,J⟩:=mk_map mpT w;have F:=iz C (.cells #[.map (some w.heap.size)] qm);have hp:(C.alloc (.cells #[.map (some w.heap.size)] qm)).heap[C.heap.size]? =some (.cells #[.map (some w.heap.size)] qm (0,0)):=Bm C _;have U:=AA (show∃t m,BF (ptB C.heap.size)= .returned (ptB t)/\TM (C.alloc (.cells #[.map (some w.heap.size)] qm)) t m []/\w.heap.size<=t/\w.heap.size<=m/\Bi w.heap.size w (C.alloc (.cells #[.map (some w.heap.size)] qm))from by
  have G:dF (C.alloc (.cells #[.map (some w.heap.size)] qm)) w.heap.size []:=I.other (F.block _ I.lt);refine⟨C.heap.size,w.heap.size,rfl,⟨hp,G,λ_ h=>(by cases h),λ_ h=>(by cases h),?_,λg K=> ?_⟩,no,AE _,H.trans (F.mono no)⟩
  ·simp[fpT];omega
  ·simp only[fpT,List.flatMap_nil,AS,Dt,or_false]at K;rcases K with rfl | rfl
   ·exact .mk' hp (λk n V=>by cases k<;>simp at V)
   ·exact G.own)
 clear I H F hp J;generalize w.heap.size=m at *;go_enter Tryz.func31,Tryz.ntmps31
 go_wp2;go_ret;exact U.out
abbrev qo(c:UInt8):Prop:=(97<=c.toNat/\c.toNat<=122)\/(65<=c.toNat/\c.toNat<=90)
theorem q_classL(n:Int)(h1:97<=n)(h2:n<=122):AC AB 183 #[.int .u8 n] w λe w'=>e= .returned (.int .i64 3)/\w'=w:=by
 have C:(n==32)=false:=beq_eq_false_iff_ne.2 no;have F:(n==9)=false:=beq_eq_false_iff_ne.2 no;have G:(n==10)=false:=beq_eq_false_iff_ne.2 no;have H:(n==35)=false:=beq_eq_false_iff_ne.2 no;go_enter Tryz.func183,Tryz.ntmps183
 go_wp2;go_ret;exact Ai
theorem q_classU(n:Int)(h1:65<=n)(h2:n<=90):AC AB 183 #[.int .u8 n] w λe w'=>e= .returned (.int .i64 3)/\w'=w:=by
 have C:(n==32)=false:=beq_eq_false_iff_ne.2 no;have F:(n==9)=false:=beq_eq_false_iff_ne.2 no;have G:(n==10)=false:=beq_eq_false_iff_ne.2 no;have H:(n==35)=false:=beq_eq_false_iff_ne.2 no;have I:decide (97<=n)=false:=decide_eq_false no;go_enter Tryz.func183,Tryz.ntmps183
 go_wp2;go_ret;exact Ai
theorem q_class1:AC AB 183 #[.int .u8 49] w λe w'=>e= .returned (.int .i64 4)/\w'=w:=by
 go_enter Tryz.func183,Tryz.ntmps183
 go_wp2;go_ret;exact Ai
theorem q_classN(c:UInt8)(h:qo c):AC AB 183 #[.int .u8 (c.toNat:Int)] w λe w'=>e= .returned (.int .i64 3)/\w'=w:=by
 rcases h with⟨h1,h2⟩ | ⟨h1,h2⟩
 ·exact q_classL _ no no
 ·exact q_classU _ no no
abbrev nm1(c:UInt8):Nm:= {data:=#[c]}
abbrev qp:Nm:= {data:=#[49,120]}
def bY(c:Nm):Prop:=0<c.size/\c.size<=16/\∀i (h:i<c.size),qo (c[i]'h)
theorem aaR{a:UInt8}(h:qo a):bY (nm1 a):=⟨Nat.one_pos,(by decide:1<=16),λi hi=>by
 have h1:i<1:=hi;obtain rfl:i=0:=no
 exact h⟩
theorem sx(c:Nm)(h:bY c):AC AB 123 #[.string c] w λe w'=>e= .returned (.bool true)/\w'=w:=by
 obtain⟨h0,ab,hl⟩:=h;have G:∀i (hi:i<c.size),AC AB 183 #[.int .u8 ((c[i]'hi).toNat:Int)] w λe w'=>e= .returned (.int .i64 3)/\w'=w:=λi hi=>q_classN _ (hl i hi)
 have H:∀i (hi:i<c.size),(Eb 9 (.string c) (.int .i64 (i:Int))).run AB w= .ok (.int .u8 ((c[i]'hi).toNat:Int)) w:=λi hi=>by
  have h1:c[i]? =some (c[i]'hi):=by simp[hi]
  simp[Eb,asIntOf,AH,run_underlying Tryz.underlying9,AQ,h1]
 have J:=qW (s:=c) no;have ad:¬c.toList=[]:=by intro e;rw[e]at J;cases J
 have F:=G 0 h0;have Y:(Eb 9 (.string c) (.int .i64 0)).run AB w= .ok (.int .u8 ((c[0]'h0).toNat:Int)) w:=H 0 h0;have Z:=AA G;have aa:=AA H;obtain⟨n,hn⟩:∃n,n=c.size:=⟨_,rfl⟩;have C:decide ((16:Int)<(c.size:Int))=false:=decide_eq_false no;generalize (c[0]'h0).toNat=b0 at F Y;clear hl G H;go_enter Tryz.func123,Tryz.ntmps123
 obtain⟨m,hm⟩:∃m,c.size=m:=⟨_,rfl⟩;clear hn;rw[hm]at C ab;go_wp2_with (go_at_call 183;refine F.mono ?_;rintro e w' ⟨rfl,K⟩;obtain rfl:=K.symm)
 clear F Y J ad C;subst hm;have am:(c.size:Int)<=16:=no
 go_loopw [20] (λU wr=>∃i:Nat,i<=c.size/\U= .int .i64 (i:Int)/\wr=w) (λU _=>c.size - (intOf U).toNat)
 case atStart=>exact⟨0,AY _,rfl,rfl⟩
 case round=>
  obtain⟨i,hi,rfl,ak⟩:=hrel;obtain rfl:=ak;rcases Bc i c.size with I | an
  ·have V:=Z.out i I;have ac:=aa.out i I;generalize (c[i]'I).toNat=bi at V ac;go_wp2_with (go_at_call 183;refine V.mono ?_;rintro e w' ⟨rfl,K⟩;obtain rfl:=K.symm)
   go_roundw
   case rel=>exact⟨i+1,no,by go_num,by trivial⟩
   case measure=>simp[intOf];omega
  ·obtain rfl:i=c.size:=no
   go_wp2;go_ret;exact⟨rfl,by trivial⟩
theorem q_IsNameB:AC AB 123 #[.string qp] w λe w'=>e= .returned (.bool false)/\w'=w:=by
 have hc:=q_class1 (w:=w);go_enter Tryz.func123,Tryz.ntmps123
 go_wp2_with (go_at_call 183;refine hc.mono ?_;rintro e w' ⟨rfl,C⟩;obtain rfl:=C.symm)
 go_ret;exact Ai
def Nam(c:Nm):Prop:=bY c\/c=qp
theorem aaS:¬bY qp:=λh=>by
 have:=h.2.2 0 it
 revert this
 decide
theorem xa(c:Nm)(h:Nam c):∃b:Bool,(b=true↔bY c)/\AC AB 123 #[.string c] w λe w'=>e= .returned (.bool b)/\w'=w:=by
 rcases h with h | rfl
 ·exact⟨true,⟨λ_=>h,λ_=>rfl⟩,sx c h⟩
 ·exact⟨false,⟨λh=>(by cases h),λh=>absurd h aaS⟩,q_IsNameB⟩
section
variable {w:World} {t m:Nat} {E:List Ch} {c p:Nm} {f:Int}
theorem zn(hc:Nam c)(hp:Nam p)(h:¬(bY c/\bY p)):AC AB 67 #[ptB t,.string c,.string p,.int .i64 f] w λe w'=>e= .returned (.int .i64 5)/\w'=w:=by
 obtain⟨G,h1,F⟩:=xa (w:=w) c hc;obtain⟨H,h2,k2⟩:=xa (w:=w) p hp
 cases G with
 | false=>
  clear h1 h2 k2 h hc hp;go_enter CQ,CY
  go_wp2_with (go_at_call 123;with_reducible refine F.mono ?_;rintro e w' ⟨rfl,C⟩;obtain rfl:=C.symm)
  go_ret;exact Ai
 | true=>
  cases H with
  | true=>exact absurd ⟨h1.1 rfl,h2.1 rfl⟩ h
  | false=>
   clear h1 h2 h hc hp;go_enter CQ,CY
   go_wp2_with (first
    | (go_at_call 123;with_reducible refine F.mono ?_;rintro e w' ⟨rfl,C⟩;obtain rfl:=C.symm)
    | (go_at_call 123;with_reducible refine k2.mono ?_;rintro e w' ⟨rfl,C⟩;obtain rfl:=C.symm))
   go_ret;exact Ai
theorem kN(h:bY c):AC AB 123 #[.string c] w λe w'=>e= .returned (.bool true)/\w'=w:=sx c h
theorem zo(h:TM w t m E)(hc:bY c)(hp:bY p)(ht:f<0\/1099511627776<f\/(∃l,opL (lsE E c)=some l)\/∃l,(lsE E c).getLast? =some l/\f<l.x.un):
  AC AB 67 #[ptB t,.string c,.string p,.int .i64 f] w λe w'=>e= .returned (.int .i64 17)/\w'=w:=by
 have I:=kN (w:=w) hc;have k2:=kN (w:=w) hp;have h1:=h.cell;have h2:=h.look c;have F:=lm h c;clear hc hp;by_cases c1:f<0
 ·clear ht F h;generalize mK E c=v at h2;go_enter CQ,CY
  go_wp2_with (first
    | (go_at_call 123;with_reducible refine I.mono ?_;rintro e w' ⟨rfl,C⟩;obtain rfl:=C.symm)
    | (go_at_call 123;with_reducible refine k2.mono ?_;rintro e w' ⟨rfl,C⟩;obtain rfl:=C.symm))
  go_ret;exact Ai
 ·have K:decide (f<0)=false:=decide_eq_false c1;by_cases c2:1099511627776<f
  ·clear ht F h c1;generalize mK E c=v at h2;go_enter CQ,CY
   go_wp2_with (first
    | (go_at_call 123;with_reducible refine I.mono ?_;rintro e w' ⟨rfl,C⟩;obtain rfl:=C.symm)
    | (go_at_call 123;with_reducible refine k2.mono ?_;rintro e w' ⟨rfl,C⟩;obtain rfl:=C.symm))
   go_ret;exact Ai
  ·have U:decide (1099511627776<f)=false:=decide_eq_false c2
   cases ho:opL (lsE E c)with
   | some l=>
    rw[ho]at F
    change AC _ _ _ _ (λe w'=>e= .returned (ptB l.b)/\w'=w)at F
    clear ht h c1 c2 ho;generalize mK E c=v at h2;generalize l.b=lb at F;go_enter CQ,CY
    go_wp2_with (first
     | (go_at_call 123;with_reducible refine I.mono ?_;rintro e w' ⟨rfl,C⟩;obtain rfl:=C.symm)
     | (go_at_call 123;with_reducible refine k2.mono ?_;rintro e w' ⟨rfl,C⟩;obtain rfl:=C.symm)
     | (go_at_call 124;refine F.mono ?_;rintro e w' ⟨rfl,C⟩;obtain rfl:=C.symm))
    go_ret;exact Ai
   | none=>
    rw[ho]at F ht
    change AC _ _ _ _ (λe w'=>e= .returned (.pointer none)/\w'=w)at F
    obtain⟨l,hl,ab⟩:∃l,(lsE E c).getLast? =some l/\f<l.x.un:=by
     rcases ht with ht | ht | ⟨_,ht⟩ | ht
     ·exact absurd ht c1
     ·exact absurd ht c2
     ·cases ht
     ·exact ht
    unfold lsE at hl
    cases hch:chE E c with
    | none=>rw[hch]at hl;cases hl
    | some ch=>
     rw[hch]at hl;have H:=h.chAt hch;have hl:ch.ls.getLast? =some l:=hl;obtain⟨N,J⟩:∃N,N=ch.ls.length:=⟨_,rfl⟩;have G:=Fh.2 H.ne;rw[FH,<-J]at hl;have V:=H.cell hl;have ac:=(h.ln hch (A0 hl)).un;have hm:(N:Int)<=9223372036854775807:=by have:=H.le;have:=H.cap;unfold maxLen at this;omega
     have hk:((N:Int) - 1).toNat=N - 1:=no
     have Y:(0:Int)<N:=no
     have Z:(1:Int)<=N:=no
     have aa:(N:Int) - 1<N:=no
     replace h2:(C5 mpT (.map (some m)) (.string c) false).run AB w= .ok (.slice (some ⟨ch.rb,0,none⟩) N ch.cap) w:=by rw[h2];unfold mK;rw[hch,J];rfl
     clear ht h c1 c2 ho H hl hch G J;generalize ch.rb=rb at *;generalize ch.cap=cap at *;generalize l.b=lb at *;generalize l.x.un=un at *;go_enter CQ,CY
     go_wp2_with (first
      | (go_at_call 123;with_reducible refine I.mono ?_;rintro e w' ⟨rfl,C⟩;obtain rfl:=C.symm)
      | (go_at_call 123;with_reducible refine k2.mono ?_;rintro e w' ⟨rfl,C⟩;obtain rfl:=C.symm)
      | (go_at_call 124;refine F.mono ?_;rintro e w' ⟨rfl,C⟩;obtain rfl:=C.symm))
     go_ret;exact Ai
theorem lw{l:List Nm}(h:l.Nodup)(c:Nm):(nZ l c).Nodup:=by
 unfold nZ;split
 ·exact h
 ·rename_i hc;exact BJ.2 ⟨h,Ad,λa ha b hb=>by simp at hb;subst hb;exact λe=>hc (e▸ha)⟩
theorem dedup:∀l:List Nm,∃C:List Nm,C.Nodup/\∀x,x∈C↔x∈l
 | []=>⟨[],List.nodup_nil,λ_=>Iff.rfl⟩
 | c::l=>by
  obtain⟨C,h1,h2⟩:=dedup l;exact⟨nZ C c,lw h1 c,λx=>by rw[jQ,h2,AS];exact or_comm⟩
theorem zp(R:Tr)(c p:Nm):∃n,ci (λx=>aC R x\/x=c\/x=p) n:=by
 obtain⟨l,h1,h2⟩:=dedup (c::p::(R.flatMap λq=>[q.1,q.2.par]));refine⟨l.length,l,h1,λx=> ?_,rfl⟩;rw[h2];simp only[AS,Br,aC,Dt,or_false];constructor
 ·rintro(h | h | ⟨q,h,C⟩)
  ·exact .inr (.inl h)
  ·exact .inr (.inr h)
  ·exact .inl ⟨q,h,C.imp Eq.symm Eq.symm⟩
 ·rintro(⟨q,h,C⟩ | h | h)
  ·exact .inr (.inr ⟨q,h,C.imp Eq.symm Eq.symm⟩)
  ·exact .inl h
  ·exact .inr (.inl h)
theorem jP.len{l:List Nm}(h:jP w b l):(Builtin.len_ #[smT] 3 #[.map (some b)]).run AB w= .ok (.int .i64 (l.length:Int)) w:=by
 obtain⟨es,clock,h1,_,h2⟩:=h;have h3:es.size=l.length:=by have:=congrArg List.length h2;simpa using this
 simp[Builtin.len_,AH,run_underlying FR,AQ,ES h1,goInt,h3]
theorem eR{G:World}{J:Nat}{l:List Nm}(I:jP G b l)(hl:∀x,x∈l↔tZ E x)(hn:ci (λx=>aC (trE E) x\/x=c\/x=p) J):
  ∃(F C:World),(Ef smT (.map (some b)) (.string c) (.bool true)).run AB G= .ok () F/\(Ef smT (.map (some b)) (.string p) (.bool true)).run AB F= .ok () C/\(Builtin.len_ #[smT] 3 #[.map (some b)]).run AB C= .ok (.int .i64 (J:Int)) C/\Upd G b C:=by
 obtain⟨F,h1,h2,h3⟩:=I.upd c;obtain⟨C,K,U,V⟩:=h2.upd p;have H:=U.len;rw[ci.uniq ⟨_,lw (lw I.nodup c) p,λx=> ?_,rfl⟩ hn]at H
 ·exact⟨F,C,h1,K,H,h3.trans V⟩
 rw[jQ,jQ,hl,ku,or_assoc]
structure TimeOk(E:List Ch)(c:Nm)(f:Int):Prop where
 lo:0<=f
 hi:f<=1099511627776
 op:opL (lsE E c)=none
 la:∀l,(lsE E c).getLast? =some l->l.x.un<=f
theorem n9(h:TM w t m E)(ht:TimeOk E c f)(C:chE E c=some ch):∃(N rb cap lb:Nat)(un:Int),(C5 mpT (.map (some m)) (.string c) false).run AB w= .ok (.slice (some ⟨rb,0,none⟩) N cap) w/\w.cell? ⟨rb,N - 1,none⟩=some (ptB lb)/\
  w.cell? ⟨lb,3,none⟩=some (.int .i64 un)/\N=(lsE E c).length/\(N:Int)<=9223372036854775807/\((N:Int) - 1).toNat=N - 1/\(0:Int)<N/\(1:Int)<=N/\(N:Int) - 1<N/\decide (f<un)=false:=by
 have H:=h.chAt C;have G:=Fh.2 H.ne;have hl:lsE E c=ch.ls:=by unfold lsE;rw[C];rfl
 obtain⟨l,F⟩:∃l,ch.ls[ch.ls.length - 1]? =some l:=⟨_,AJ no⟩;refine⟨ch.ls.length,ch.rb,ch.cap,l.b,l.x.un,by rw[h.look c];unfold mK;rw[C];rfl,H.cell F,(h.ln C (A0 F)).un,by rw[hl],by have:=H.le;have:=H.cap;unfold maxLen at this;omega,no,no,no,no,decide_eq_false ?_⟩;have:=ht.la l (by rw[hl,FH];exact F);omega
theorem zq{n0:Nat}(h:TM w t m E)(hc:bY c)(hp:bY p)(ht:TimeOk E c f)(hn:ci (λx=>aC (trE E) x\/x=c\/x=p) n0)(I:24<n0):
  AC AB 67 #[ptB t,.string c,.string p,.int .i64 f] w λe w'=>e= .returned (.int .i64 15)/\mBw w w':=by
 have k1:=kN (w:=w) hc;have k2:=kN (w:=w) hp;have h1:=h.cell;have h2:=h.look c;have H:=lm h c;have K:=mL h;have c1:decide (f<0)=false:=decide_eq_false (by have:=ht.lo;omega);have c2:decide (1099511627776<f)=false:=decide_eq_false (by have:=ht.hi;omega);rw[ht.op]at H
 change AC _ _ _ _ (λe w'=>e= .returned (.pointer none)/\w'=w)at H
 have HN:=AA hn;have aa:(24:Int)<(n0:Int):=no
 cases hch:chE E c with
 | none=>
  replace h2:(C5 mpT (.map (some m)) (.string c) false).run AB w= .ok (.slice none 0 0) w:=by rw[h2];unfold mK;rw[hch];rfl
  clear hc hp ht hn I h hch;go_enter CQ,CY
  go_wp2_with (first
   | (go_at_call 123;with_reducible refine k1.mono ?_;rintro e w' ⟨rfl,C⟩;obtain rfl:=C.symm)
   | (go_at_call 123;with_reducible refine k2.mono ?_;rintro e w' ⟨rfl,C⟩;obtain rfl:=C.symm)
   | (go_at_call 124;refine H.mono ?_;rintro e w' ⟨rfl,C⟩;obtain rfl:=C.symm)
   | (go_at_call 89;refine K.mono ?_;rintro e w1 ⟨b,l,rfl,J,F,hl,hb⟩;obtain⟨w2,w3,V,Y,Z,G⟩:=eR J hl HN.out;have U:=AA (G.below hb F);clear hb hl J F G))
  go_ret;exact⟨rfl,U.out⟩
 | some ch=>
  obtain⟨N,rb,cap,lb,un,am,ab,an,hN,hm,hk,ac,ad,ak,hu⟩:=n9 h ht hch;clear h2;clear hc hp ht hn I h hch hN;go_enter CQ,CY
  go_wp2_with (first
   | (go_at_call 123;with_reducible refine k1.mono ?_;rintro e w' ⟨rfl,C⟩;obtain rfl:=C.symm)
   | (go_at_call 123;with_reducible refine k2.mono ?_;rintro e w' ⟨rfl,C⟩;obtain rfl:=C.symm)
   | (go_at_call 124;refine H.mono ?_;rintro e w' ⟨rfl,C⟩;obtain rfl:=C.symm)
   | (go_at_call 89;refine K.mono ?_;rintro e w1 ⟨b,l,rfl,J,F,hl,hb⟩;obtain⟨w2,w3,V,Y,Z,G⟩:=eR J hl HN.out;have U:=AA (G.below hb F);clear hb hl J F G))
  go_ret;exact⟨rfl,U.out⟩
theorem zr{U:Nat}(h:TM w t m E)(hc:bY c)(hp:bY p)(ht:TimeOk E c f)(hn:ci (λx=>aC (trE E) x\/x=c\/x=p) U)(J:U<=24)(F:64<=(lsE E c).length):
  AC AB 67 #[ptB t,.string c,.string p,.int .i64 f] w λe w'=>e= .returned (.int .i64 15)/\mBw w w':=by
 have k1:=kN (w:=w) hc;have k2:=kN (w:=w) hp;have h1:=h.cell;have h2:=h.look c;have G:=lm h c;have K:=mL h;have c1:decide (f<0)=false:=decide_eq_false (by have:=ht.lo;omega);have c2:decide (1099511627776<f)=false:=decide_eq_false (by have:=ht.hi;omega);rw[ht.op]at G
 change AC _ _ _ _ (λe w'=>e= .returned (.pointer none)/\w'=w)at G
 have HN:=AA hn;have V:decide ((24:Int)<(U:Int))=false:=decide_eq_false no
 cases hch:chE E c with
 | none=>unfold lsE at F;rw[hch]at F;exact absurd F Ad
 | some ch=>
  obtain⟨N,rb,cap,lb,un,am,ab,aq,hN,hm,hk,ac,ad,ak,hu⟩:=n9 h ht hch;clear h2;have aa:(64:Int)<=N:=no
  clear hc hp ht hn J h hch hN F;go_enter CQ,CY
  go_wp2_with (first
   | (go_at_call 123;with_reducible refine k1.mono ?_;rintro e w' ⟨rfl,C⟩;obtain rfl:=C.symm)
   | (go_at_call 123;with_reducible refine k2.mono ?_;rintro e w' ⟨rfl,C⟩;obtain rfl:=C.symm)
   | (go_at_call 124;refine G.mono ?_;rintro e w' ⟨rfl,C⟩;obtain rfl:=C.symm)
   | (go_at_call 89;refine K.mono ?_;rintro e w1 ⟨b,l,rfl,Y,H,hl,hb⟩;obtain⟨w2,w3,an,ao,ap,I⟩:=eR Y hl HN.out;have Z:=AA (I.below hb H);clear hb hl Y H I))
  go_ret;exact⟨rfl,Z.out⟩
open Classical in
theorem q_att_cyc {n0:Nat} (h:TM w t m E) (hE:TOk (trE E)) (hc:bY c) (hp:bY p) (ht:TimeOk E c f) (hn:ci (fun x=>aC (trE E) x∨x=c∨x=p) n0) (h24:n0≤24) (h64:(lsE E c).length<64) (hy:Cyc (trE E) c p f):
  AC AB 67 #[ptB t,.string c,.string p,.int .i64 f] w fun e w'=>e= .returned (.int .i64 19)∧mBw w w':=by
 have k1:=kN (w:=w) hc;have k2:=kN (w:=w) hp;have h1:=h.cell;have h2:=h.look c;have hop:=lm h c;have hkn:=mL h;have c1:decide (f<0)=false:=decide_eq_false (by have:=ht.lo;omega);have c2:decide (1099511627776<f)=false:=decide_eq_false (by have:=ht.hi;omega);rw[ht.op]at hop
 change AC _ _ _ _ (fun e w'=>e= .returned (.pointer none)∧w'=w)at hop
 have HN:=AA hn;have h24':decide ((24:Int)<(n0:Int))=false:=decide_eq_false (by omega);have HT:=AA h;have HE:=AA hE;have HY:=AA (decide_eq_true hy)
 cases hch:chE E c with
 | none=>
  replace h2:(C5 mpT (.map (some m)) (.string c) false).run AB w= .ok (.slice none 0 0) w:=by rw[h2];unfold mK;rw[hch];rfl
  clear hc hp ht hn h24 h hch h64 hE hy;go_enter CQ,CY
  go_wp2_with (first
   | (go_at_call 123;with_reducible refine k1.mono ?_;rintro e w' ⟨rfl,hw'⟩;obtain rfl:=hw'.symm)
   | (go_at_call 123;with_reducible refine k2.mono ?_;rintro e w' ⟨rfl,hw'⟩;obtain rfl:=hw'.symm)
   | (go_at_call 124;refine hop.mono ?_;rintro e w' ⟨rfl,hw'⟩;obtain rfl:=hw'.symm)
   | (go_at_call 89;refine hkn.mono ?_;rintro e w1 ⟨b,l,rfl,hS,hbl,hl,hb⟩;obtain⟨w2,w3,hm1,hm2,hm3,hu3⟩:=eR hS hl HN.out;have HB:=AA (hu3.below hb hbl);have hcy:=o9 (HT.out.below HB.out) HE.out c p f;rw[HY.out]at hcy;clear hb hl hS hbl hu3)
   | (go_at_call 125;refine hcy.mono ?_;rintro e w4 ⟨rfl,hb4⟩;have HB4:=AA hb4;clear hb4))
  go_ret;exact⟨rfl,HB.out.trans (HB4.out.mono HB.out.size)⟩
 | some ch=>
  obtain⟨N,rb,cap,lb,un,hl2,hcl,hun,hN,hm,hk,hk0,hk1,hk2,hu⟩:=n9 h ht hch;clear h2;have hN2:decide ((64:Int)≤N)=false:=decide_eq_false (by omega);clear hc hp ht hn h24 h hch h64 hE hy hN;go_enter CQ,CY
  go_wp2_with (first
   | (go_at_call 123;with_reducible refine k1.mono ?_;rintro e w' ⟨rfl,hw'⟩;obtain rfl:=hw'.symm)
   | (go_at_call 123;with_reducible refine k2.mono ?_;rintro e w' ⟨rfl,hw'⟩;obtain rfl:=hw'.symm)
   | (go_at_call 124;refine hop.mono ?_;rintro e w' ⟨rfl,hw'⟩;obtain rfl:=hw'.symm)
   | (go_at_call 89;refine hkn.mono ?_;rintro e w1 ⟨b,l,rfl,hS,hbl,hl,hb⟩;obtain⟨w2,w3,hm1,hm2,hm3,hu3⟩:=eR hS hl HN.out;have HB:=AA (hu3.below hb hbl);have hcy:=o9 (HT.out.below HB.out) HE.out c p f;rw[HY.out]at hcy;clear hb hl hS hbl hu3)
   | (go_at_call 125;refine hcy.mono ?_;rintro e w4 ⟨rfl,hb4⟩;have HB4:=AA hb4;clear hb4))
  go_ret;exact⟨rfl,HB.out.trans (HB4.out.mono HB.out.size)⟩
end
def dv(c p:Nm)(f:Int)(g:Nat):Array Value:=#[.string c,.string p,.int .i64 f,.int .i64 (-1),.bool false,.bool false,.slice none 0 0,.slice none 0 0,.bool false,.slice none 0 0,.slice none 0 0,.bool false,.slice none 0 0,.slice none 0 0,.bool false,.slice none 0 0,.slice none 0 0,.bool false,.slice none 0 0,.slice none 0 0,.bool false,.slice none 0 0,.slice none 0 0,.bool false,.slice none 0 0,.slice none 0 0,ptB g]
def All2(w:World):List Vp->List Value->Prop
 | [],[]=>True
 | q::qs,v::vs=>q.p w v/\All2 w qs vs
 | _,_=>False
theorem All2.get:∀ {qs:List Vp} {vs:List Value},All2 w qs vs->vs.length=qs.length/\∀(j:Nat)(q:Vp),qs[j]? =some q->∃u,vs[j]? =some u/\q.p w u
 | [],[],_=>⟨rfl,λj q h=>Ao⟩
 | q::qs,v::vs,h=>by
  obtain⟨h1,h2⟩:=h.2.get;refine⟨by simp[h1],λj F C=> ?_⟩
  cases j with
  | zero=>simp at C;subst C;exact⟨v,rfl,h.1⟩
  | succ j=>simpa using h2 j F At
 | [],_::_,h=>h.elim
 | _::_,[],h=>h.elim
variable{vs:List Value}
theorem All2.cells{qs:List Vp}(h:All2 w qs vs):ll w vs.toArray qs:=⟨by simpa using h.get.1,λj q C=>by simpa using h.get.2 j q C⟩
theorem mN:(Vp.dig (nl 0) 0).p w (.slice none 0 0):=by
 rw[bL];exact⟨none,0,rfl,AE _,⟨Ad,λh=>absurd h Ad⟩⟩
theorem iP(h:fB v):(Vp.val v).p w v:=⟨rfl,h⟩
theorem jR{p:Nm}{f:Int}{sl:Value}:ll w (dv c p f g) (lnQ c ⟨bG p f,b,g,sl⟩):=
 All2.cells (vs:=(dv c p f g).toList) ⟨iP gi,iP gi,iP ck,iP ck,iP bK,iP bK,mN,mN,iP bK,mN,mN,iP bK,mN,mN,iP bK,mN,mN,iP bK,mN,mN,iP bK,mN,mN,iP bK,mN,mN,iP pL,trivial⟩
variable{O:List Nat}
theorem fp_add{A B N Q:List Nat}{g2:Nat}(h:(A++(O++B)++Q).Nodup)(G:∀x∈A++(O++B)++Q,x<n)(F:g2∈O\/n<=g2)(I:(g2::N).Nodup)(hn:∀x∈N,n<=x):(A++(g2::(B++N))++Q).Nodup:=by
 have hp:(A++(g2::(B++N))++Q).Perm ((A++B++Q)++(g2::N)):=List.perm_iff_count.2 (λx=>by simp only[List.count_append,List.count_cons];omega);have C:(A++(O++B)++Q).Perm ((A++B++Q)++O):=List.perm_iff_count.2 (λx=>by simp only[List.count_append];omega);rw[hp.nodup_iff];rw[C.nodup_iff]at h;obtain⟨h1,h2,h3⟩:=BJ.1 h;refine BJ.2 ⟨h1,I,λa ha b hb e=> ?_⟩;subst e;have H:a<n:=G a ((C.mem_iff).2 (AG.2 (.inl ha)));rcases AS.1 hb with rfl | hb
 ·rcases F with F | F
  ·exact h3 a ha a F rfl
  ·omega
 ·have:=hn a hb;omega
def AtC(E:List Ch)(c:Nm)(E1 E2:List Ch)(O:List Nat)(ls:List Ln):Prop:=(O=[]/\ls=[]/\E=E1/\E2=[]/\chE E c=none)\/∃rb cap,O=[rb]/\E=E1++⟨c,rb,cap,ls⟩::E2
variable{ls:List Ln}
theorem AtC.fp{C:List Ch}(h:AtC E c C F O ls)(t m:Nat):fpT t m E=(t::m::C.flatMap Ch.fp)++(O++ls.flatMap Ln.fp)++F.flatMap Ch.fp:=by
 rcases h with⟨rfl,rfl,rfl,rfl,_⟩ | ⟨rb,cap,rfl,rfl⟩
 ·simp[fpT]
 ·simp[fpT,Ch.fp,DB,Cw,CO]
theorem att_fp(t m:Nat)(c:Nm)(F G:List Ch)(g2 C:Nat)(ls:List Ln)(l:Ln):fpT t m (F++⟨c,g2,C,ls++ [l]⟩::G)=(t::m::F.flatMap Ch.fp)++(g2::(ls.flatMap Ln.fp++l.fp))++G.flatMap Ch.fp:=by
 simp[fpT,Ch.fp,DB,Cw,CO]
theorem AtC.put(h:AtC E c F G O ls)(hn:(E.map (·.c)).Nodup)(g2 C:Nat)(l:Ln):
  qk (E.map λch=>(ch.c,ch.row)) c (.slice (some ⟨g2,0,none⟩) (ls.length+1) C)=(F++⟨c,g2,C,ls++ [l]⟩::G).map λch=>(ch.c,ch.row):=by
 have e:(⟨c,g2,C,ls++ [l]⟩:Ch).row= .slice (some ⟨g2,0,none⟩) (ls.length+1) C:=by simp[Ch.row]
 rcases h with⟨rfl,rfl,rfl,rfl,hc⟩ | ⟨rb,cap,rfl,rfl⟩
 ·have I:c∉(E.map λch=>(ch.c,ch.row)).map (·.1):=λH=>by
   rw[CE]at H;obtain⟨ch,h1,h2⟩:=Ba.1 H;exact wQ hc h1 h2
  rw[qk,if_neg I,Ce,Bq,e];rfl
 ·have H:c∈((F++(⟨c,rb,cap,ls⟩:Ch)::G).map λch=>(ch.c,ch.row)).map (·.1):=Ad
  rw[qk,if_pos H,CE,Ce,Bq,Ce,Bq,e];rw[Ce,Bq,BJ,Bu]at hn;obtain⟨_,⟨h2,_⟩,h3⟩:=hn;have J:∀ch∈F,ch.c≠c:=λch hc e=>h3 _ (Ba.2 ⟨ch,hc,rfl⟩) c (Bo ..) e
  have k2:∀ch∈G,ch.c≠c:=λch hc e=>h2 (Ba.2 ⟨ch,hc,e⟩)
  congr 1
  ·exact Et (λch hc=>by simp[J ch hc])
  ·congr 1
   ·simp
   ·exact Et (λch hc=>by simp[k2 ch hc])
theorem asz(w:World)(o:Obj):(w.alloc o).heap.size=w.heap.size+1:=Array.size_push ..
variable{E1 E2:List Ch}
set_option maxHeartbeats 2000000 in
theorem aaT{J F:World}{p:Nm}{f:Int}{sl:Value}(U:TM J t m E)(hA:AtC E c E1 E2 O ls)(db:ls.length<64)
  (hg:J.heap.size<=g)(a4:TrkS trT F g sl [])(ad:∀b,sl.ownBlock=some b->J.heap.size<=b/\bw F b)(aa:Bi J.heap.size J F)(hv:∀k,v.ownBlock=some k->k∈O)(cc:aX J lpT 1 v ls.length (ls.map λl=>ptB l.b)):
  ∃(g2 H:Nat)(w8 Z:World),(BM #[158,158] 158 #[v,.slice (some ⟨F.heap.size+1,0,none⟩) 1 1]).run AB ((F.alloc (.cells (dv c p f g) lkT)).alloc (.cells #[ptB F.heap.size] lpT))= .ok (.slice (some ⟨g2,0,none⟩) (ls.length+1) H) w8/\w8.cell? ⟨t,0,none⟩=some (.map (some m))/\
   (Ef mpT (.map (some m)) (.string c) (.slice (some ⟨g2,0,none⟩) (ls.length+1) H)).run AB w8= .ok () Z/\Z.cell? ⟨t,0,none⟩=some (.map (some m))/\TPost J t m E Z (E1++⟨c,g2,H,ls++ [⟨bG p f,F.heap.size,g,sl⟩]⟩::E2):=by
 have ab:Bi F.heap.size F ((F.alloc (.cells (dv c p f g) lkT)).alloc (.cells #[ptB F.heap.size] lpT)):=((AF _ _).alloc (AE _) _).alloc (by rw[asz];omega) _;have dr:((F.alloc (.cells (dv c p f g) lkT)).alloc (.cells #[ptB F.heap.size] lpT)).heap.size=F.heap.size+1+1:=by rw[asz,asz]
 have c4:((F.alloc (.cells (dv c p f g) lkT)).alloc (.cells #[ptB F.heap.size] lpT)).heap[F.heap.size]? =some (.cells (dv c p f g) lkT (0,0)):=by
  rw[EV _ _ (by rw[asz];omega),Bm]
 have c5:((F.alloc (.cells (dv c p f g) lkT)).alloc (.cells #[ptB F.heap.size] lpT)).heap[F.heap.size+1]? =some (.cells #[ptB F.heap.size] lpT (0,0)):=by
  have:=Bm (F.alloc (.cells (dv c p f g) lkT)) (.cells #[ptB F.heap.size] lpT);rwa [asz]at this
 generalize hw7:(F.alloc (.cells (dv c p f g) lkT)).alloc (.cells #[ptB F.heap.size] lpT)=w7 at *;have c6:∀k,v.ownBlock=some k->k<J.heap.size:=λk C=>by
  obtain⟨cs,T,h1,_⟩:=cc.2 k C;exact(AZ.1 h1).1
 have bp:∀k,k<J.heap.size->w7.heap[k]? =J.heap[k]? :=λk C=>by rw[ab.block k (Bt C aa.size),aa.block k C]
 have cd:aX w7 lpT 1 v ls.length (ls.map λl=>ptB l.b):=by
  obtain⟨⟨h1,h2⟩,h3⟩:=cc;refine⟨⟨h1,h2.imp id ?_⟩,λk C=> ?_⟩
  ·rintro⟨k,cap,cur,e,hb,hg,hr⟩;exact⟨k,cap,cur,e,hb,by rw[bp k (AZ.1 hg).1];exact hg,hr⟩
  ·obtain⟨cs,T,k1,k2⟩:=h3 k C;exact⟨cs,T,by rw[bp k (AZ.1 k1).1];exact k1,k2⟩
 obtain⟨i0,hi,c7,av,c8⟩:=info_parts (P:=AB) (e:=lpT) (z:=.pointer none) (size:=1) (bytes:=8) Aa;obtain⟨v',w8,bt,I,d0,au,a2,bq⟩:=tM (p:=AB) (w:=w7) (t:=158) (ty:=158) (e:=lpT) (i:=i0) (z:=.pointer none) Tryz.underlying158 hi c7 (by rw[av];rfl) no (λu hu n e=>by
  have:u= .pointer none:=by simpa [Value.cells]using hu
  subst this;cases e) (v:=v) (n:=ls.length) (xs:=ls.map λl=>ptB l.b) (by rw[av];exact cd) (a:=⟨F.heap.size+1,0,none⟩) (m:=1) (c:=1) (news:=[ptB F.heap.size]) (by rw[av];rfl)
  (World.news_of_block c5) (λu hu=>by simp at hu;subst hu;rfl) (λu hu n e=>by simp at hu;subst hu;cases e) no (by rw[c8];omega) no
 rw[av]at a2;have b9:=U.lt;have G:=U.nd;have bb:=hA.fp t m;rw[bb]at G b9;have cn:=aa.size;have K:∀k∈O,k∈fpT t m E:=λk C=>by rw[bb];simp[C]
 have cm:∀k,v.ownBlock=some k->k<J.heap.size:=λk C=>U.lt k (K k (hv k C))
 have cb:m<J.heap.size:=U.lt m (by simp[fpT]);have ar:t<J.heap.size:=U.lt t (by simp[fpT]);have ca:m∉O:=λhm=>by
  rw[BJ,BJ]at G;exact G.1.2.2 m Ad m (by simp[hm]) rfl
 have bi:t∉O:=λhm=>by
  rw[BJ,BJ]at G;exact G.1.2.2 t Ad t (by simp[hm]) rfl
 have cl:t≠m:=λe=>by
  subst e;have:=U.nd;simp[fpT]at this
 have k8:∀k,k<J.heap.size->k∉O->w8.heap[k]? =J.heap[k]? :=λk C hO=>by
  rw[I.block k no (λe=>hO (hv k e.symm)),ab.block k no,aa.block k C]
 have c9:∀k,J.heap.size<=k->k<w7.heap.size->w8.heap[k]? =w7.heap[k]? :=λk C c1=>I.block k c1 (λe=>by have:=cm k e.symm;omega)
 have ds:w7.heap.size<=w8.heap.size:=I.size;obtain⟨d1,⟨_,h0⟩ | ⟨g2,H,cur,rfl,_,b0,cr,cu,dq,cv⟩⟩:=a2
 ·omega
 replace au:v.ownBlock=some g2\/w7.heap.size<=g2:=au g2 rfl
 have cq:dF w8 m (E.map λch=>(ch.c,ch.row)):=U.mp.other (k8 m cb ca);obtain⟨Z,c3,a3,Y⟩:=dF.update (P:=AB) (t:=mpT) cq Fg Aa c (.slice (some ⟨g2,0,none⟩) (ls.length+1) H);rw[hA.put U.keys g2 H ⟨bG p f,F.heap.size,g,sl⟩]at a3;have ay:g2≠m:=λe=>by
  rcases au with h | h
  ·exact ca (e▸hv g2 h)
  ·omega
 have k9:∀k,k<J.heap.size->k≠m->k∉O->Z.heap[k]? =J.heap[k]? :=λk C hm hO=>by rw[Y.block k hm];exact k8 k C hO
 have dT:Z.heap.size=w8.heap.size:=Y.size;have hX:Chg J Z (λk=>k=m\/k∈O):=⟨no,λk C hn=>k9 k C (λe=>hn (.inl e)) (λe=>hn (.inr e)),λk C=>U.own k (by
  rcases C with rfl | C
  ·simp[fpT]
  ·exact K k C)⟩
 have am:Chg F Z (λk=>k=m\/k∈O):=⟨by have:=ab.size;omega,λk C hn=>by
  rw[Y.block k (λe=>hn (.inl e)),I.block k no (λe=>hn (.inr (hv k e.symm)))];exact ab.block k C,λk C=>by
  have ap:k∈fpT t m E:=by
   rcases C with rfl | C
   ·simp[fpT]
   ·exact K k C
  exact(U.own k ap).blk (aa.block k (U.lt k ap)) cn⟩
 have a9:Z.heap[g2]? =some (.cells cur lpT (0,0)):=by rw[Y.block g2 ay];exact b0
 have a6:∀(j:Nat)(l:Ln),(ls++ [⟨bG p f,F.heap.size,g,sl⟩])[j]? =some l->cur[j]? =some (ptB l.b):=λj l hj=>by
  have h1:(((ls++ [(⟨bG p f,F.heap.size,g,sl⟩:Ln)]).map λl=>ptB l.b)[j]?)=some (ptB l.b):=by rw[Bp,hj];rfl
  rw[Ce,Bq,BS,<-cv,BI]at h1;split at h1
  ·simpa using h1
  ·cases h1
 have da:g<F.heap.size:=(AZ.1 a4.blk).1;have a5:∀k,J.heap.size<=k->¬(k=m\/k∈O):=λk C h=>by
  rcases h with rfl | h
  ·omega
  ·have:=U.lt k (K k h);omega
 have ak:TrkS trT Z g sl []:=a4.chg am (a5 g hg) (λb hb=>a5 b (ad b hb).1);have a0:Z.heap[F.heap.size]? =some (.cells (dv c p f g) lkT (0,0)):=by
  rw[Y.block _ no,c9 _ no no];exact c4
 have cp:LnAt Z c ⟨bG p f,F.heap.size,g,sl⟩:=⟨⟨_,a0,jR⟩,ak⟩;have ao:g2∈O\/F.heap.size+1+1<=g2:=au.imp (hv g2) (λh=>no);have aq:∀b,sl.ownBlock=some b->b<F.heap.size:=λb hb=>(ad b hb).2.1
 have hN:(g2::(⟨bG p f,F.heap.size,g,sl⟩:Ln).fp).Nodup:=by
  refine Bu.2 ⟨λhm=> ?_,Bu.2 ⟨λhm=> ?_,Bu.2 ⟨λhm=> ?_,by cases sl.ownBlock<;>simp⟩⟩⟩
  ·simp only[Ln.fp,AS,Eg]at hm;rcases ao with h | h
   ·have:=U.lt _ (K _ h);rcases hm with h2 | h2 | h2
    ·omega
    ·omega
    ·have:=(ad _ h2).1;omega
   ·rcases hm with h2 | h2 | h2
    ·omega
    ·omega
    ·have:=aq _ h2;omega
  ·simp only[AS,Eg]at hm;rcases hm with h2 | h2
   ·omega
   ·have:=aq _ h2;omega
  ·simp only[Eg]at hm;exact a4.ne _ hm rfl
 have ax:∀x∈(⟨bG p f,F.heap.size,g,sl⟩:Ln).fp,J.heap.size<=x:=λx hx=>by
  simp only[Ln.fp,AS,Eg]at hx;rcases hx with rfl | rfl | hx
  ·omega
  ·exact hg
  ·exact(ad x hx).1
 have be:∀x∈(⟨bG p f,F.heap.size,g,sl⟩:Ln).fp,bw Z x:=λx hx=>by
  simp only[Ln.fp,AS,Eg]at hx;rcases hx with rfl | rfl | hx
  ·refine .mk' a0 (λk n C=> ?_);obtain⟨q,hq⟩:∃q,(lnQ c (⟨bG p f,F.heap.size,g,sl⟩:Ln))[k]? =some q:=⟨_,AJ (by
    have:=(jR (w:=Z) (c:=c) (p:=p) (f:=f) (b:=F.heap.size) (g:=g) (sl:=sl)).1;rw[<-this];exact(AZ.1 C).1)⟩
   obtain⟨u,h1,h2⟩:=(jR (w:=Z) (c:=c) (p:=p) (f:=f) (b:=F.heap.size) (g:=g) (sl:=sl)).2 k q hq;rw[C]at h1;injection h1 with h1;subst h1;exact(q.fl _ _ h2).2.2 n rfl
  ·refine .mk' ak.blk (λk n C=> ?_)
   cases k with
   | zero=>
    simp at C;subst C;exact((Vp.row stT 0 (bB [])).fl Z _ ak.row).2.2 n rfl
   | succ k=>simp at C
  ·exact(ad x hx).2.blk (am.blk x (aq x hx) (a5 x (ad x hx).1)) am.size
 have dc:∀k∈fpT t m E,(k=m\/k∈O)->k=m\/k∈O:=λ_ _ h=>h
 have bz:∀ch∈E1++E2,ch∈E/\∀k∈ch.fp,¬(k=m\/k∈O):=λch hc=>by
  have cz:ch∈E:=by
   rcases hA with⟨_,_,rfl,rfl,_⟩ | ⟨rb,cap,_,rfl⟩
   ·simpa using hc
   ·rcases AG.1 hc with h | h
    ·exact AG.2 (.inl h)
    ·exact AG.2 (.inr (Bf _ h))
  refine⟨cz,λk C V=> ?_⟩;rw[BJ,BJ]at G;rcases AG.1 hc with h | h
  ·have b1:k∈E1.flatMap Ch.fp:=Br.2 ⟨ch,h,C⟩;rcases V with rfl | V
   ·have:=G.1.1;simp only[Bu,AS]at this;exact this.2.1 b1
   ·exact G.1.2.2 k (Bf _ (Bf _ b1)) k (AG.2 (.inl V)) rfl
  ·have b8:k∈E2.flatMap Ch.fp:=Br.2 ⟨ch,h,C⟩;rcases V with rfl | V
   ·exact G.2.2 k Ad k b8 rfl
   ·exact G.2.2 k (by simp[V]) k b8 rfl
 have c2:∀l∈ls,LnAt J c l/\∀k∈l.fp,¬(k=m\/k∈O):=λl hl=>by
  refine⟨?_,λk C V=> ?_⟩
  ·rcases hA with⟨_,rfl,_⟩ | ⟨rb,cap,_,rfl⟩
   ·cases hl
   ·exact U.lns ⟨c,rb,cap,ls⟩ (AG.2 (.inr (Bo ..))) l hl
  ·have b2:k∈ls.flatMap Ln.fp:=Br.2 ⟨l,hl,C⟩;rw[BJ,BJ]at G;rcases V with rfl | V
   ·exact G.1.2.2 k Ad k (AG.2 (.inr b2)) rfl
   ·have:=G.1.2.1;rw[BJ]at this;exact this.2.2 k V k b2 rfl
 have a7:bw Z g2:=(bq g2 rfl).x.blk (Y.block g2 ay) no;have an:∀x,x∈(t::m::E1.flatMap Ch.fp)\/x∈ls.flatMap Ln.fp\/x∈E2.flatMap Ch.fp->x∈fpT t m E/\x∉O:=λx hx=>by
  refine⟨by rw[bb];simp only[AG];rcases hx with h | h | h<;>simp[h],λhO=> ?_⟩;rw[BJ,BJ]at G;rcases hx with h | h | h
  ·exact G.1.2.2 x h x (AG.2 (.inl hO)) rfl
  ·have:=G.1.2.1;rw[BJ]at this;exact this.2.2 x hO x h rfl
  ·exact G.2.2 x (AG.2 (.inr (AG.2 (.inl hO)))) x h rfl
 have a1:∀x∈fpT t m (E1++⟨c,g2,H,ls++ [⟨bG p f,F.heap.size,g,sl⟩]⟩::E2),(x∈fpT t m E/\x∉O)\/x=g2\/x∈(⟨bG p f,F.heap.size,g,sl⟩:Ln).fp:=λx hx=>by
  rw[att_fp]at hx;simp only[AG,AS]at hx;rcases hx with(h | h | h | h) | h
  ·exact .inl (an x (.inl Au))
  ·exact .inr (.inl h)
  ·exact .inl (an x (.inr (.inl h)))
  ·exact .inr (.inr h)
  ·exact .inl (an x (.inr (.inr h)))
 have ac:∀ch∈E1++(⟨c,g2,H,ls++ [⟨bG p f,F.heap.size,g,sl⟩]⟩:Ch)::E2,ch∈E1++E2\/ch=⟨c,g2,H,ls++ [⟨bG p f,F.heap.size,g,sl⟩]⟩:=λch hc=>by
  rcases AG.1 hc with h | h
  ·exact .inl (AG.2 (.inl h))
  ·rcases AS.1 h with h | h
   ·exact .inr h
   ·exact .inl (AG.2 (.inr h))
 have cx:Z.cell? ⟨t,0,none⟩=some (.map (some m)):=by rw[BZ (w:=J) (k9 t ar cl bi)];exact U.cell
 have bO:w8.cell? ⟨t,0,none⟩=some (.map (some m)):=by rw[BZ (w:=J) (k8 t ar bi)];exact U.cell
 refine⟨g2,H,w8,Z,bt,bO,c3,cx,⟨⟨?_,a3,λch hc=> ?_,λch hc l hl=> ?_,?_,λk C=> ?_⟩,⟨?_,?_,?_,?_,λk C hn=> ?_⟩,λk C=> ?_⟩⟩
 ·rw[k9 t ar cl bi];exact U.tr
 ·rcases ac ch hc with h | rfl
  ·obtain⟨h1,h2⟩:=bz ch h;exact(U.rows ch h1).chg hX (h2 _ (Bo ..))
  ·exact⟨⟨cur,a9,by show cur.size=H;omega,a6⟩,by simpa using cr,cu,by simp⟩
 ·rcases ac ch hc with h | rfl
  ·obtain⟨h1,h2⟩:=bz ch h;exact(U.lns ch h1 l hl).chg hX (λk C=>h2 k (Bf _ (Br.2 ⟨l,hl,C⟩)))
  ·rcases AG.1 hl with hl | hl
   ·obtain⟨h1,h2⟩:=c2 l hl;exact h1.chg hX h2
   ·simp only[BD]at hl;subst hl;exact cp
 ·rw[att_fp];exact fp_add G b9 (ao.imp id (λh=>no)) hN ax
 ·rcases a1 k C with⟨h1,h2⟩ | rfl | h1
  ·by_cases ap:k=m
   ·subst ap;exact a3.own
   ·exact(U.own k h1).blk (k9 k (U.lt k h1) ap h2) hX.size
  ·exact a7
  ·exact be k h1
 ·exact Y.os.trans (I.os.trans (ab.os.trans aa.os))
 ·exact Y.tape.trans (I.tape.trans (ab.tape.trans aa.tape))
 ·exact Y.output.trans (I.output.trans (ab.output.trans aa.output))
 ·exact hX.size
 ·exact k9 k C (λe=>hn (e▸(by simp[fpT]))) (λh=>hn (K k h))
 ·rcases a1 k C with⟨h1,_⟩ | rfl | h1
  ·exact .inl h1
  ·rcases ao with h | h
   ·exact .inl (K _ h)
   ·exact .inr no
  ·exact .inr (ax k h1)
theorem k_tNew(w:World):AC AB 126 #[] w λe w'=>∃g sl,e= .returned (.pointer (some ⟨g,0,none⟩))/\w.heap.size<=g/\TrkS 223 w' g sl []/\(∀b,sl.ownBlock=some b->w.heap.size<=b/\bw w' b)/\mBw w w':=by
 go_enter Tryz.func126,Tryz.ntmps126
 go_wp2;go_ret;exact⟨w.heap.size,.slice none 0 0,rfl,AE _,⟨Bm w _,.inl ⟨rfl,rfl,rfl⟩,λb hb=>by cases hb⟩,λb hb=>(by cases hb),(AF _ _).alloc (AE _) _⟩
theorem k_rtNew(w:World):AC AB 161 #[] w λe w'=>∃g sl,e= .returned (.pointer (some ⟨g,0,none⟩))/\w.heap.size<=g/\TrkS 185 w' g sl []/\(∀b,sl.ownBlock=some b->w.heap.size<=b/\bw w' b)/\mBw w w':=by
 go_enter Tryz.func161,Tryz.ntmps161
 go_wp2;go_ret;exact⟨w.heap.size,.slice none 0 0,rfl,AE _,⟨Bm w _,.inl ⟨rfl,rfl,rfl⟩,λb hb=>by cases hb⟩,λb hb=>(by cases hb),(AF _ _).alloc (AE _) _⟩
section
variable {w:World} {t m:Nat} {E:List Ch} {c p:Nm} {f:Int}
theorem zt(w:World):(Op.equal mpT (.map (some m)) (.map none)).run AB w= .ok false w:=by
 unfold Op.equal Op.maxDepth Op.equalIn;rw[AH,run_underlying Fg];rfl
theorem qq(w:World):(binOp .eql mpT (.map (some m)) (.map none)).run AB w= .ok (.bool false) w:=by
 simp[binOp,AH,zt,AQ]
theorem xb{P:AW}{ops:Array Oper}{o:Oper}{a:Act}{w:World}{v':Value}{K:Act->World->Prop}{Q:Exit->Act->World->Prop}{X:Prop}{s x:Operand}{t:TypeId}(C:o.guard=none)
  (F:o.op= .call {callee:=.builtin .append,args:=#[s,x],argTypes:=#[t,t]}){y:Value}(hs:a.eval s=v)(H:a.eval x=y)(hr:(BM #[t,t] o.type #[v,y]).run P w= .ok v' w')(h:K (a.put o.dst v') w'):
  if A6 o (yielded ops a.tmps)=true then Bk P o a w K Q else X:=by
 have G:A6 o (yielded ops a.tmps)=true:=by simp[A6,C]
 rw[if_pos G];unfold Bk execOp;simp only[F,resolve,invoke,builtin,AH,Bw,Result.andThen_ok,List.map_toArray,Bq,BS,hs,H,hr];exact h
def REq(R R':Tr):Prop:=∀c,lks R c=lks R' c
theorem lks_none{E:List Ch}{c:Nm}(h:∀ch∈E,ch.c≠c):lks (trE E) c=[]:=by
 refine List.eq_nil_iff_forall_not_mem.2 (λx C=> ?_);obtain⟨ch,h1,l,_,e⟩:=cE.1 (bU.1 C);exact h ch h1 (congrArg (·.1) e).symm
theorem aaU(K:AtC E c G F O ls)(hn:(E.map (·.c)).Nodup)(g2 C b g:Nat)(sl:Value):REq (trE (G++⟨c,g2,C,ls++ [⟨bG p f,b,g,sl⟩]⟩::F)) (jx (trE E) c p f):=by
 intro y;have I:trE (G++(⟨c,g2,C,ls++ [⟨bG p f,b,g,sl⟩]⟩:Ch)::F)=trE G++((ls++ [(⟨bG p f,b,g,sl⟩:Ln)]).map (λl=>(c,l.x))++trE F):=by simp[trE,DB,Cw]
 rw[I,gS,gS,t6,km];rcases K with⟨rfl,rfl,rfl,rfl,hc⟩ | ⟨rb,cap,rfl,rfl⟩
 ·have H:lks (trE ([]:List Ch)) y=[]:=rfl;rw[H,CP];by_cases h:c=y
  ·subst h;rw[if_pos rfl,if_pos rfl];rfl
  ·rw[if_neg h,if_neg (Ne.symm h),CP]
 ·have H:trE (G++(⟨c,rb,cap,ls⟩:Ch)::F)=trE G++(ls.map (λl=>(c,l.x))++trE F):=by simp[trE,DB,Cw]
  rw[H,gS,gS,t6];by_cases h:c=y
  ·subst h;rw[Ce,Bq,BJ,Bu]at hn;have J:lks (trE F) c=[]:=lks_none (λch hc e=>hn.2.1.1 (Ba.2 ⟨ch,hc,e⟩));rw[if_pos rfl,if_pos rfl,if_pos rfl,J,Ce];simp
  ·rw[if_neg h,if_neg h,if_neg (Ne.symm h)]
theorem TM.drew(h:TM w t m E):TM w.drew t m E:=h.below (AF _ _).drew
theorem TPost.pre{G H:World}{E':List Ch}(hb:Bi w.heap.size w G)(J:TM w t m E)(C:TPost G t m E H E'):TPost w t m E H E':=
 ⟨C.tm,⟨C.kp.os.trans hb.os,C.kp.tape.trans hb.tape,C.kp.output.trans hb.output,AD hb.size C.kp.size,λk F hn=>(C.kp.block k (Bt F hb.size) hn).trans (hb.block k F)⟩,λg I=>(C.fp g I).imp id (λh=>AD hb.size h)⟩
theorem TM.ownRow(h:TM w t m E)(hc:chE E c=some ch):aX w lpT 1 ch.row ch.ls.length (ch.ls.map λl=>ptB l.b):=by
 obtain⟨⟨cs,h1,h2,h3⟩,G,H,_⟩:=h.chAt hc;refine⟨⟨Ad,.inr ⟨ch.rb,ch.cap,cs,rfl,AY _,h1,G,H,no,?_⟩⟩,λk C=> ?_⟩
 ·apply DI;intro j;rw[BI,Bp,Nat.mul_one];split
  ·rename_i F;obtain⟨l,hl⟩:∃l,ch.ls[j]? =some l:=⟨_,AJ F⟩;rw[hl,GQ,h3 j l hl];rfl
  ·rename_i F;rw[List.getElem?_eq_none no];rfl
 ·have C:ch.rb=k:=by simpa [Ch.row,Cx]using C
  subst C;have I:=h.own ch.rb (tY (cD hc).1 (Bo ..));exact⟨cs,lpT,h1,λk n hn=>I.2 k n (by rw[aH h1];exact hn)⟩
theorem atC_some(hc:chE E c=some ch):∃C F,AtC E c C F [ch.rb] ch.ls:=by
 obtain⟨_,A,B,rfl,_⟩:=List.find?_eq_some_iff_append.1 hc;have e:=(cD hc).2;obtain⟨G,rb,cap,ls⟩:=ch;simp only at e;subst e;exact⟨A,B,.inr ⟨rb,cap,rfl,rfl⟩⟩
open Classical in
theorem q_att_new {n0:Nat} (h:TM w t m E) (hE:TOk (trE E)) (hc:bY c) (hp:bY p) (ht:TimeOk E c f) (hn:ci (fun x=>aC (trE E) x∨x=c∨x=p) n0) (h24:n0≤24) (h64:(lsE E c).length<64) (hy:¬Cyc (trE E) c p f):
  AC AB 67 #[ptB t,.string c,.string p,.int .i64 f] w fun e w'=>e= .returned (.int .i64 0)∧∃E',TPost w t m E w' E'∧REq (trE E') (jx (trE E) c p f):=by
 have k1:=kN (w:=w) hc;have k2:=kN (w:=w) hp;have h1:=h.cell;have h2:=h.look c;have hop:=lm h c;have hkn:=mL h;have c1:decide (f<0)=false:=decide_eq_false (by have:=ht.lo;omega);have c2:decide (1099511627776<f)=false:=decide_eq_false (by have:=ht.hi;omega);rw[ht.op]at hop
 change AC _ _ _ _ (fun e w'=>e= .returned (.pointer none)∧w'=w)at hop
 have HN:=AA hn;have h24':decide ((24:Int)<(n0:Int))=false:=decide_eq_false (by omega);have HT:=AA h;have HE:=AA hE;have HY:=AA (decide_eq_false hy)
 cases hch:chE E c with
 | none=>
  replace h2:(C5 mpT (.map (some m)) (.string c) false).run AB w= .ok (.slice none 0 0) w:=by rw[h2];unfold mK;rw[hch];rfl
  have HA:=AA (show AtC E c E [] [] []from .inl ⟨rfl,rfl,rfl,rfl,hch⟩);clear hc hp ht hn h24 h hch h64 hE hy;go_enter CQ,CY
  go_wp2_with (first
   | (go_at_call 123;with_reducible refine k1.mono ?_;rintro e w' ⟨rfl,hw'⟩;obtain rfl:=hw'.symm)
   | (go_at_call 123;with_reducible refine k2.mono ?_;rintro e w' ⟨rfl,hw'⟩;obtain rfl:=hw'.symm)
   | (go_at_call 124;refine hop.mono ?_;rintro e w' ⟨rfl,hw'⟩;obtain rfl:=hw'.symm)
   | (go_at_call 89;refine hkn.mono ?_;rintro e w1 ⟨b,l,rfl,hS,hbl,hl,hb⟩;obtain⟨w2,w3,hm1,hm2,hm3,hu3⟩:=eR hS hl HN.out;have HB:=AA (hu3.below hb hbl);have hcy:=o9 (HT.out.below HB.out) HE.out c p f;rw[HY.out]at hcy;clear hb hl hS hbl hu3)
   | (go_at_call 125;refine hcy.mono ?_;rintro e w4 ⟨rfl,hb4⟩;have HB4:=AA (HB.out.trans (hb4.mono HB.out.size));have h14:=(HT.out.below HB4.out).cell;have h15:=qq (m:=m) w4;clear hb4))
  clear k1 k2 hop hkn c1 c2 h24' hcy hm1 hm2 hm3 h1 h2 h15;have HI:=AA (show t<w4.heap.size from(HT.out.below HB4.out).lt t (by simp[fpT]));have HT4:=AA (HT.out.below HB4.out).drew
  go_region_held3 (fun w'=>w'.cell? ⟨t,0,none⟩=some (.map (some m))) (first | assumption | go_keep)
   (first
    | (go_at_call 126;refine(k_tNew _).mono ?_;rintro e w5 ⟨g,sl,rfl,hg,hTk,hso,hb5⟩;have hS5:w5.cell? ⟨t,0,none⟩=some (.map (some m)):=(by rw[hb5.cell (p:=⟨t,0,none⟩) HI.out];exact h14);obtain⟨g2,cap2,w8,w9,happ,hS8,hmu,hS9,hP⟩:=aaT (c:=c) (p:=p) (f:=f) (v:=.slice none 0 0) HT4.out HA.out (by decide) hg hTk hso hb5 (fun k hk=>by cases hk) ⟨World.ownsRow_nil _ _ _ _,fun k hk=>by cases hk⟩;have HAP:=AA happ;have HP:=AA hP;have HR:=AA (aaU (p:=p) (f:=f) HA.out HT4.out.keys g2 cap2 w5.heap.size g sl);replace hmu:(Ef mpT (.map (some m)) (.string c) (.slice (some ⟨g2,0,none⟩) 1 cap2)).run AB w8= .ok () w9:=hmu;clear hb5 hTk hso hg happ hP)
    | (refine xb rfl rfl rfl rfl HAP.out ?_;clear HAP))
  go_wp2;go_ret;exact⟨rfl,_,HP.out.pre HB4.out.drew HT.out,HR.out⟩
 | some ch=>
  have H:=h.chAt hch;have hpos:=Fh.2 H.ne;have hls:lsE E c=ch.ls:=by unfold lsE;rw[hch];rfl
  rw[hls]at h64;obtain⟨E1,E2,hA⟩:=atC_some hch;have HA:=AA hA;obtain⟨l0,hl0⟩:∃l,ch.ls[ch.ls.length - 1]? =some l:=⟨_,AJ (by omega)⟩;have hcl:=H.cell hl0;have hun:=(h.ln hch (A0 hl0)).un;have hle:decide (f<l0.x.un)=false:=decide_eq_false (by
   have:=ht.la l0 (by rw[hls,FH];exact hl0);omega)
  replace h2:(C5 mpT (.map (some m)) (.string c) false).run AB w= .ok (.slice (some ⟨ch.rb,0,none⟩) ch.ls.length ch.cap) w:=by rw[h2];unfold mK;rw[hch];rfl
  have hm:(ch.ls.length:Int)≤9223372036854775807:=by omega
  have hk:((ch.ls.length:Int) - 1).toNat=ch.ls.length - 1:=by omega
  have hk0:(0:Int)<ch.ls.length:=by omega
  have hk1:(1:Int)≤ch.ls.length:=by omega
  have hk2:(ch.ls.length:Int) - 1<ch.ls.length:=by omega
  have hk64:decide ((64:Int)≤ch.ls.length)=false:=decide_eq_false (by omega);have H64:=AA h64;have HCH:=AA hch;generalize l0.b=lb at *;generalize l0.x.un=un at *;clear hc hp ht hn h24 h hch h64 hE hy H hpos hls hA hl0;go_enter CQ,CY
  go_wp2_with (first
   | (go_at_call 123;with_reducible refine k1.mono ?_;rintro e w' ⟨rfl,hw'⟩;obtain rfl:=hw'.symm)
   | (go_at_call 123;with_reducible refine k2.mono ?_;rintro e w' ⟨rfl,hw'⟩;obtain rfl:=hw'.symm)
   | (go_at_call 124;refine hop.mono ?_;rintro e w' ⟨rfl,hw'⟩;obtain rfl:=hw'.symm)
   | (go_at_call 89;refine hkn.mono ?_;rintro e w1 ⟨b,l,rfl,hS,hbl,hl,hb⟩;obtain⟨w2,w3,hm1,hm2,hm3,hu3⟩:=eR hS hl HN.out;have HB:=AA (hu3.below hb hbl);have hcy:=o9 (HT.out.below HB.out) HE.out c p f;rw[HY.out]at hcy;clear hb hl hS hbl hu3)
   | (go_at_call 125;refine hcy.mono ?_;rintro e w4 ⟨rfl,hb4⟩;have HB4:=AA (HB.out.trans (hb4.mono HB.out.size));have h14:=(HT.out.below HB4.out).cell;have h15:=qq (m:=m) w4;clear hb4))
  clear k1 k2 hop hkn c1 c2 h24' hcy hm1 hm2 hm3 h1 h2 h15 hcl hun hle hm hk hk0 hk1 hk2 hk64;have HI:=AA (show t<w4.heap.size from(HT.out.below HB4.out).lt t (by simp[fpT]));have HT4:=AA (HT.out.below HB4.out).drew
  go_region_held3 (fun w'=>w'.cell? ⟨t,0,none⟩=some (.map (some m))) (first | assumption | go_keep)
   (first
    | (go_at_call 126;refine(k_tNew _).mono ?_;rintro e w5 ⟨g,sl,rfl,hg,hTk,hso,hb5⟩;have hS5:w5.cell? ⟨t,0,none⟩=some (.map (some m)):=(by rw[hb5.cell (p:=⟨t,0,none⟩) HI.out];exact h14);obtain⟨g2,cap2,w8,w9,happ,hS8,hmu,hS9,hP⟩:=aaT (c:=c) (p:=p) (f:=f) (v:=ch.row) HT4.out HA.out H64.out hg hTk hso hb5 (fun k hk=>by simp[Ch.row,Cx]at hk;simp[hk]) (HT4.out.ownRow HCH.out);have HAP:=AA happ;have HP:=AA hP;have HR:=AA (aaU (p:=p) (f:=f) HA.out HT4.out.keys g2 cap2 w5.heap.size g sl);clear hb5 hTk hso hg happ hP)
    | (refine xb rfl rfl rfl rfl HAP.out ?_;clear HAP))
  go_wp2;go_ret;exact⟨rfl,_,HP.out.pre HB4.out.drew HT.out,HR.out⟩
end
theorem REq.refl(R:Tr):REq R R:=λ_=>rfl
theorem REq.symm{C:Tr}(h:REq R C):REq C R:=λc=>(h c).symm
theorem REq.trans{F C:Tr}(h:REq R F)(k:REq F C):REq R C:=λc=>(h c).trans (k c)
section
variable {R R':Tr} {c p x:Nm} {f a:Int}
theorem REq.mem(h:REq R R')(q:Nm×Lk):q∈R↔q∈R':=by
 obtain⟨c,x⟩:=q;rw[<-bU,<-bU,h c]
theorem REq.tAt(h:REq R R')(c:Nm)(a:Int):tAt R c a=tAt R' c a:=by unfold Go.Proofs.YtggfmklppkioeaaGreat.tAt;rw[h c]
theorem REq.par(h:REq R R')(a:Int)(c:Nm):par R a c=par R' a c:=by unfold Go.Proofs.YtggfmklppkioeaaGreat.par;rw[h.tAt]
theorem REq.reach(h:REq R R'){a:Int}{x y:Nm}(k:Reach R a x y):Reach R' a x y:=by
 induction k with
 | refl=>exact .refl _
 | step e _ ih=>exact .step (by rw[<-h.par];exact e) ih
theorem REq.reach_iff(h:REq R R'){a:Int}{x y:Nm}:Reach R a x y↔Reach R' a x y:=⟨h.reach,h.symm.reach⟩
theorem REq.known(h:REq R R')(x:Nm):aC R x↔aC R' x:=by
 unfold aC;exact⟨λ⟨q,h1,h2⟩=>⟨q,(h.mem q).1 h1,h2⟩,λ⟨q,h1,h2⟩=>⟨q,(h.mem q).2 h1,h2⟩⟩
theorem REq.cyc(h:REq R R'):Cyc R c p f↔Cyc R' c p f:=by
 unfold Cyc;rw[h.reach_iff];refine or_congr Iff.rfl ⟨λ⟨q,h1,h2,h3⟩=>⟨q,(h.mem q).1 h1,h2,h.reach h3⟩,λ⟨q,h1,h2,h3⟩=>⟨q,(h.mem q).2 h1,h2,h.symm.reach h3⟩⟩
theorem TOk.of_req(h:TOk R)(e:REq R R'):TOk R' where
 row:=λc=>by rw[<-e c];exact h.row c
 tm:=λq C=>h.tm q ((e.mem q).2 C)
 acy:=λa x=>(h.acy a x).mono (λu v F=>by rw[e.par];exact F)
 good:=λq C=>h.good q ((e.mem q).2 C)
 pose:=λq C=>h.pose q ((e.mem q).2 C)
theorem TSm.of_req(h:TSm R)(e:REq R R'):TSm R':=by
 obtain⟨⟨n,h1,h2⟩,h3⟩:=h;exact⟨⟨n,h1,h2.same e.known⟩,λc=>by rw[<-e c];exact h3 c⟩
end
theorem xc:qi R c↔∀x∈lks R c,x.un≠ -1:=by
 constructor
 ·intro h x F e;obtain⟨i,hi,C⟩:=BK (bU.1 F);exact h i (c,x) (by rw[AJ hi,C]) ⟨rfl,e⟩
 ·rintro h i ⟨G,x⟩ hi ⟨h1,h2⟩;simp only at h1 h2;subst h1;exact h x (bU.2 (A0 hi)) h2
section
variable {w:World} {t m:Nat} {E:List Ch} {c p:Nm} {f:Int}
open Classical in
theorem qr (h:TM w t m E) (hE:TOk (trE E)) (hc:Nam c) (hp:Nam p):
  AC AB 67 #[ptB t,.string c,.string p,.int .i64 f] w fun e w'=>∃E' R' code,e= .returned (.int .i64 code)∧TPost w t m E w' E'∧REq (trE E') R'∧AttS bY (trE E) c p f R' code:=by
 by_cases hn:bY c∧bY p
 ·by_cases ht:f<0∨1099511627776<f∨(∃l,opL (lsE E c)=some l)∨∃l,(lsE E c).getLast? =some l∧f<l.x.un
  ·refine(zo h hn.1 hn.2 ht).mono ?_;rintro e w' ⟨rfl,hw⟩;obtain rfl:=hw.symm;refine⟨E,trE E,17,rfl,.refl h (AF _ _),.refl _,.time hn ?_⟩;rcases ht with ht | ht | ⟨l,ht⟩ | ⟨l,ht,hl⟩
   ·exact .inl ht
   ·exact .inr (.inl ht)
   ·refine .inr (.inr (.inl ?_));obtain⟨hun,ch,hch,hk⟩:=mM ht;have hq:=cE.2 ⟨ch,(cD hch).1,l,A0 hk,rfl⟩;rw[(cD hch).2]at hq;obtain⟨k,hk1,hk2⟩:=BK hq;exact⟨k,l.x,by rw[AJ hk1,hk2],hun⟩
   ·refine .inr (.inr (.inr ⟨l.x,?_,hl⟩));rw[ji h.keys];exact Ba.2 ⟨l,List.mem_of_getLast? ht,rfl⟩
  ·have hop:opL (lsE E c)=none:=by
    cases ho:opL (lsE E c)with
    | none=>rfl
    | some l=>exact absurd (.inr (.inr (.inl ⟨l,ho⟩))) ht
   have hT:TimeOk E c f:=⟨by omega,by omega,hop,fun l hl=>by
    by_cases h1:f<l.x.un
    ·exact absurd (.inr (.inr (.inr ⟨l,hl,h1⟩))) ht
    ·omega⟩
   have hno:=qn h hE hop;have hen:∀x∈lks (trE E) c,x.un≤f:=by
    refine ended (hE.row c) (xc.1 hno) (fun x hx=> ?_) (fun x hx=> ?_)
    ·have h1:=hE.tm _ (bU.1 hx);have h2:=xc.1 hno x hx;simp only at h1;rcases h1.2.2 with h3 | h3
     ·exact absurd h3 h2
     ·exact h3.1
    ·rw[ji h.keys,List.getLast?_map]at hx
     cases hl:(lsE E c).getLast? with
     | none=>rw[hl]at hx;cases hx
     | some l=>
      rw[hl]at hx;simp only[BG,A3.injEq]at hx;subst hx;exact hT.la l hl
   have hlen:(lks (trE E) c).length=(lsE E c).length:=by rw[ji h.keys,List.length_map]
   have hlo:=hT.lo;have hhi:=hT.hi;obtain⟨n,hcn⟩:=zp (trE E) c p;by_cases h24:24<n
   ·refine(zq h hn.1 hn.2 hT hcn h24).mono ?_;rintro e w' ⟨rfl,hb⟩;exact⟨E,trE E,15,rfl,.refl h hb,.refl _,.full hn hlo hhi hno hen n hcn (.inl h24)⟩
   ·by_cases h64:64≤(lsE E c).length
    ·refine(zr h hn.1 hn.2 hT hcn (by omega) h64).mono ?_;rintro e w' ⟨rfl,hb⟩;exact⟨E,trE E,15,rfl,.refl h hb,.refl _,.full hn hlo hhi hno hen n hcn (.inr (by omega))⟩
    ·by_cases hy:Cyc (trE E) c p f
     ·refine(q_att_cyc h hE hn.1 hn.2 hT hcn (by omega) (by omega) hy).mono ?_;rintro e w' ⟨rfl,hb⟩;exact⟨E,trE E,19,rfl,.refl h hb,.refl _,.cycle hn hlo hhi hno hen n hcn ⟨by omega,by omega⟩ hy⟩
     ·refine(q_att_new h hE hn.1 hn.2 hT hcn (by omega) (by omega) hy).mono ?_;rintro e w' ⟨rfl,E',hP,hR⟩;exact⟨E',_,0,rfl,hP,hR,.ok hn hlo hhi hno hen n hcn ⟨by omega,by omega⟩ hy⟩
 ·refine(zn hc hp hn).mono ?_;rintro e w' ⟨rfl,hw⟩;obtain rfl:=hw.symm;exact⟨E,trE E,5,rfl,.refl h (AF _ _),.refl _,.name hn⟩
end
section
variable {w w':World} {t m:Nat} {E1 E2:List Ch} {c:Nm} {rb cap:Nat} {L1 L2:List Ln} {l:Ln} {S':List St}
abbrev setTr(l:Ln)(S':List St)(sl':Value):Ln:= {l with x:= {l.x with tr:=S'},sl:=sl'}
theorem TM.trk(h:TM w t m (dh E1 E2 c rb cap L1 L2 l))(hM:TrkM trT w l.g l.sl S' w'):∃sl',TPost w t m (dh E1 E2 c rb cap L1 L2 l) w' (dh E1 E2 c rb cap L1 L2 (setTr l S' sl')):=by
 obtain⟨⟨sl',Z,hb⟩,F⟩:=hM;have G:∀g∈l.fp,bw w g:=λg C=>h.own g (h.sub g C)
 have V:=h.mid;have Y:=h.lnd;have H:l.g∈l.fp:=by simp[Ln.fp]
 have ab:l.b≠l.g:=λe=>by
  unfold Ln.fp at Y;exact(Bu.1 Y).1 (e▸Bo ..)
 have hc:Chg w w' (· ∈l.fp):=⟨F.size,λg C hn=>F.block g C (λe=>hn (by rw[show g=l.g from e];exact H)),G⟩;have ac:Chg w w' (· =l.g):=⟨F.size,λg C hn=>F.block g C hn,λg C=>G g (by rw[show g=l.g from C];exact H)⟩;obtain⟨⟨cs,h1,h2⟩,h3⟩:=V;have K:l.b<w.heap.size:=(AZ.1 h1).1;have J:w'.heap[l.b]? =w.heap[l.b]? :=F.block _ K (λe=>ab e);have hL:LnAt w' c (setTr l S' sl'):=⟨⟨cs,by rw[show(setTr l S' sl').b=l.b from rfl,J];exact h1,h2.chg ac tX⟩,Z⟩;have ad:=(Vp.row stT S'.length (bB S')).fl w' _ Z.row;refine⟨sl',h.put (l':=setTr l S' sl') rfl rfl (λb aa=>(hb b aa).imp id (·.1)) hL (λg C=> ?_) hc,⟨F.os,F.tape,F.output,F.size,λg C hn=>F.block g C (λe=>hn (by rw[show g=l.g from e];exact h.sub _ H))⟩,λg C=> ?_⟩
 ·have C:g∈l.b::l.g::sl'.ownBlock.toList:=C;simp only[AS,Eg]at C;rcases C with rfl | rfl | C
  ·exact(G _ (Bo ..)).blk J F.size
  ·refine .mk' Z.blk (λk n F=> ?_)
   cases k with
   | zero=>simp at F;exact ad.2.2 n F
   | succ k=>simp at F
  ·rcases hb g C with I | I
   ·have U:g∈l.fp:=by simp[Ln.fp,I]
    exact(G g U).blk (F.block g (G g U).1 (λe=>Z.ne g C e)) F.size
   ·exact I.2
 ·rw[fO]at C⊢;simp only[AG]at C⊢;rcases C with(C | C) | C
  ·exact .inl (.inl (.inl C))
  ·have C:g∈l.b::l.g::sl'.ownBlock.toList:=C;simp only[AS,Eg]at C;rcases C with rfl | rfl | C
   ·exact .inl (.inl (.inr (Bo ..)))
   ·exact .inl (.inl (.inr H))
   ·rcases hb g C with I | I
    ·exact .inl (.inl (.inr (by simp[Ln.fp,I])))
    ·exact .inr I.1
  ·exact .inl (.inr C)
end
def zero21:List Leaf:=[.b false,.sl0,.sl0,.b false,.sl0,.sl0,.b false,.sl0,.sl0,.b false,.sl0,.sl0,.b false,.sl0,.sl0,.b false,.sl0,.sl0,.b false,.sl0,.sl0]
def ai:List Value:=[.bool false,.slice none 0 0,.slice none 0 0,.bool false,.slice none 0 0,.slice none 0 0,.bool false,.slice none 0 0,.slice none 0 0,.bool false,.slice none 0 0,.slice none 0 0,.bool false,.slice none 0 0,.slice none 0 0,.bool false,.slice none 0 0,.slice none 0 0,.bool false,.slice none 0 0,.slice none 0 0]
theorem zero21_h{ρ:Rho}{B:Blk}:aD ρ B w zero21 ai:=⟨rfl,rfl,rfl,rfl,rfl,rfl,rfl,rfl,rfl,rfl,rfl,rfl,rfl,rfl,rfl,rfl,rfl,rfl,rfl,rfl,rfl,trivial⟩
def mO(cs:Array Value):Nat->List Value->Array Value
 | _,[]=>cs
 | o,v::vs=>mO (cs.setIfInBounds o v) (o+1) vs
theorem qt:∀(vs:List Value)(cs:Array Value)(o:Nat),(mO cs o vs).size=cs.size
 | [],_,_=>rfl
 | v::vs,cs,o=>by rw[mO,qt];simp
theorem oa:∀(vs:List Value)(cs:Array Value)(o j:Nat),o+vs.length<=cs.size->(mO cs o vs)[j]? =if o<=j/\j<o+vs.length then vs[j - o]? else cs[j]?
 | [],cs,o,j,_=>by rw[mO,if_neg (by simp only[List.length_nil];omega)]
 | v::vs,cs,o,j,h=>by
  simp only[Bg]at h⊢;rw[mO,oa vs _ _ _ (by simp;omega),DQ];by_cases h1:o+1<=j/\j<o+1+vs.length
  ·rw[if_pos h1,if_pos no,show j - o=(j - (o+1))+1 by omega];rfl
  ·rw[if_neg h1];by_cases h2:o=j
   ·subst h2;rw[if_pos rfl,if_pos no,if_pos no,Df];rfl
   ·rw[if_neg h2,if_neg no]
theorem co:∀(vs:List Value)(w:World)(b o:Nat),Upd w b (w.setCells b o vs)
 | [],w,b,o=>⟨rfl,rfl,rfl,rfl,λ_ _=>rfl⟩
 | v::vs,w,b,o=>(Upd.cell w b o v).trans (co vs _ b (o+1))
theorem ft:∀(vs:List Value)(w:World)(b o:Nat)(cs:Array Value)(T:TypeId),w.heap[b]? =some (.cells cs T (0,0))->(w.setCells b o vs).heap[b]? =some (.cells (mO cs o vs) T (0,0))
 | [],w,b,o,cs,T,h=>h
 | v::vs,w,b,o,cs,T,h=>ft vs _ b (o+1) _ T (CZ w b o cs T v h)
theorem aE:∀ {rs:List Rq} {cs:List Value},bo w rs cs->cs.length=3*rs.length
 | [],cs,h=>by have h:cs=[]:=h;subst h;rfl
 | r::rs,cs,h=>by
  obtain⟨a,c,b,d,C,rfl,_,_,h⟩:=h;have:=aE h;simp only[Bg,this];omega
theorem eT:∀ {rs:List Rq} {cs:List Value},bo w rs cs->∀v∈cs,v.oneCell'=true
 | [],cs,h,v,C=>by have h:cs=[]:=h;subst h;cases C
 | r::rs,cs,h,v,C=>by
  obtain⟨a,c,b,d,F,rfl,_,_,h⟩:=h;simp only[AS]at C;rcases C with rfl | rfl | rfl | C
  ·rfl
  ·rfl
  ·rfl
  ·exact eT h v C
theorem aQ{B:Nat}{a:World}:∀(vs:List Value)(o:Nat)(w:World){b:Nat},Bi B a w->B<=b->Bi B a (w.setCells b o vs)
 | [],_,_,_,h,_=>h
 | v::r,o,w,b,h,hb=>by
  rw[World.setCells];exact aQ r (o+1) _ (h.setCell (p:=⟨b,o,none⟩) hb v) hb
theorem oc{B:Nat}{T:TypeId}(h:w.heap[B]? =some (.cells cs T (0,0))):w.there B 0 cs.size:=λj C=>by
 refine⟨?_,by simp[Dl,h]⟩;rw[aH h,A5,Array.getElem?_eq_getElem C];rfl
theorem mP:∀ {xs:List Fq} {cs:List Value},cs.length=3*xs.length->(∀(j:Nat)(q:Vp),(frs xs)[j]? =some q->∃u,cs[j]? =some u/\q.p w u)->bo w (xs.map Fq.raw) cs
 | [],cs,hl,_=>by
  have:cs=[]:=List.eq_nil_of_length_eq_zero (by simpa using hl);exact this
 | x::xs,cs,hl,h=>by
  match cs,hl with
  | c0::c1::c2::cs,hl=>
   obtain⟨K,F,I⟩:=h 0 _ rfl;obtain⟨U,G,C⟩:=h 1 _ rfl;obtain⟨V,H,k2⟩:=h 2 _ rfl;injection F with F;injection G with G;injection H with H;subst F;subst G;subst H;have I:c0= .bool x.s:=I.1;subst I;have C:IsR w (.agg #[c1]) (nl x.p) x.p:=C;have k2:IsR w (.agg #[c2]) (nl x.q) x.q:=k2;obtain⟨a,c,f1,r1⟩:=id C;obtain⟨b,d,f2,r2⟩:=id k2;have f1:c1= .slice a (nl x.p) c:=by injection f1 with f1;simpa using f1
   have f2:c2= .slice b (nl x.q) d:=by injection f2 with f2;simpa using f2
   subst f1;subst f2;exact⟨a,c,b,d,cs,rfl,C,k2,mP (by simp at hl;omega) (λj q J=>by
    obtain⟨u,g1,g2⟩:=h (j+3) q (by simpa [frs]using J);exact⟨u,by simpa using g1,g2⟩)⟩
theorem dB(w:World):aR w (.agg ai.toArray) Pq.zero:=⟨ai,rfl,iG (n:=7) (zero21_h (ρ:=[]) (B:=noB))⟩
theorem lz{C:Array Value}(h:C.size=vs.length):mO C 0 vs=vs.toArray:=by
 apply Array.ext_getElem?;intro i;rw[oa _ _ _ _ no];by_cases hi:i<vs.length
 ·rw[if_pos ⟨no,no⟩];simp
 ·rw[if_neg no,Fy no,Fy (by simp;omega)]
theorem sy{P:AW}{fn:Func}{p u:Tmp}{ty:TypeId}(h:fn.results=#[.cell p ty,.tmp u])(tmps:Array Value)(w:World)(g:Nat)(t:TypeId)(cs:Array Value)(fr:Nat×Nat)(d:TypeDesc)
  (hp:tmps.getD p undef= .pointer (some ⟨g,0,none⟩))(F:w.heap[g]? =some (.cells cs t fr))
  (G:P.underlying ty=some d)(C:(match d with | .struct _ | .array _ _=>true | _=>false)=true)(hi:(P.info? ty).map (·.size)=some cs.size):
  (results fn tmps).run P w= .ok (.tuple #[.agg cs,tmps.getD u undef]) w:=by
 rw[results_cell_tmp h,hp];simp[asAddr,AQ,run_loadVar_row w g t ty cs fr d F G C hi]
section
variable {ρ:Rho} {n m:Nat} {u c r:Int} {ik kd:IntKind} {l:Leaf} {t s d:TypeId}
theorem t7(c u:Int)(m:Nat)(t:TypeId)(h1:KI ρ l .u8 u)(H:ρ[m]? =some (.val (.int .u8 r)))(hr:u.tmod c=r)(h0:¬(c=0)):(OIns.mk (.bin .rem t) [.one l,.one (.i .u8 c)] (.one (.ref m))).Ok AB ρ:=λB w vs C=>by
 match vs,C with
 | [v0,v1],C=>
  have F:=h1 _ _ _ C.1;have G:v1= .int .u8 c:=C.2.1;subst F;subst G;subst hr;refine⟨.int .u8 (u.tmod c),bx _ H (cZ it),λI J=> ?_⟩;simp[eqGuard,binOp,Op.intDiv,h0,AH,AQ]
theorem aaV(d s:TypeId)(m:Nat)(hs:AB.underlying s=some (.int ik))(F:AB.underlying d=some (.int .i64))(h1:KI ρ l ik u)(G:ρ[m]? =some (.val (.int .i64 u)))(I: -9223372036854775808<=u)(k2:u<=9223372036854775807):(OIns.mk (.conv s d) [.one l] (.one (.ref m))).Ok AB ρ:=λB w vs C=>by
 match vs,C with
 | [v1],C=>
  have e:=h1 _ _ _ C.1;subst e;refine⟨.int .i64 u,bx _ G ck,?_⟩;have H:IntKind.i64.wrap u=u:=by rw[IntKind.wrap_i64];omega
  simp[convert,Conv.intToInt,AH,run_underlying hs,run_underlying F,AQ,H]
end
variable{xs:List Fq}{ys:Rho}
theorem I_intK{l:Leaf}{u:Int}(f:FuncId)(C:∀(vs:Array Value)(w:World),(callFunc f vs).run AB w= .ok (.enter f vs) w)(h:∀w:World,AC AB f #[.int .i64 u] w λe w'=>fg w (Fq.ofInt u) e w')(h1:KI (frs xs++ys) l .i64 u)(F:xs[k]? =some (.ofInt u)):OkI xs ys ⟨f,[.one l],.v (fr k)⟩:=
 ⟨C,λB w vs G h0=>by
  match vs,h0 with
  | [va],h0=>
   have e:=h1 _ _ _ h0.1;subst e;refine(h w).mono ?_;rintro e w' ⟨v,rfl,h2,h3⟩;exact⟨v,rfl,(aw _ _ F).2 h2,h3⟩⟩
theorem jj(k:Nat)(u:Int){l:Leaf}(h1:KI (frs xs++ys) l .i64 u)(C:xs[k]? =some (.ofInt u))(F: -9223372036854775808<=u)(G:u<9223372036854775808):OkI xs ys ⟨51,[.one l],.v (fr k)⟩:=I_intK _ (ah Tryz.func51 rfl rfl) (λw=>q_rInt u w F G) h1 C
def dw(x u:Int):Pq:=⟨⟨Fq.ofInt (if u % 8=7 then 2 else 1),Fq.ofInt 0,Fq.ofInt 0,Fq.ofInt (u % 7)⟩,⟨Fq.ofInt x,Fq.ofInt 0,Fq.ofInt 0⟩⟩
def xq_Pose0X(x u:Int):List Fq:=(Pq.id.cs++([(Fq.ofInt x),(Fq.ofInt (u % 7))]))
theorem q_Pose0(x u:Int)(H: -128<=x/\x<128)(C:0<=u/\u<256)(G:u % 8≠7):
  AC AB 86 #[.int .i8 x,.int .u8 u] w λe w'=>jt w (dw x u) e w':=by
 refine(cR1 (xq_Pose0X x u) [.val (.int .i8 x),.val (.int .u8 u),.val (.int .i64 x),.val (.int .u8 (u % 7)),.val (.int .i64 (u % 7)),.val (.int .u8 (u % 8))] [.one (.ref 27),.one (.ref 28)] [.int .i8 x,.int .u8 u] (.v (row [0,1,2,8,7,5,6])) (il3 (zf [0,1,2,3,4,5,6] Ae) (jj 7 x (iJ 29 rfl) rfl no no) (jj 8 (u % 7) (iJ 31 rfl) rfl no no)) (aj (aaV 2 65 29 Tryz.underlying65 Tryz.underlying2 (iJ 27 rfl) rfl no no) (aj (t7 7 u 30 5 (iJ 28 rfl) rfl (DS C.1) it) (aj (aaV 2 5 31 Dm Tryz.underlying2 (iJ 30 rfl) rfl no no) (aj (t7 8 u 32 5 (iJ 28 rfl) rfl (DS C.1) it) (aj (o_int (t:=5) (iJ 32 rfl) (wD 7) (ib_eql_f no)) (az)))))) Tryz.func86 ⟨bx 27 rfl (cZ it),⟨bx 28 rfl (cZ it),trivial⟩⟩).mono ?_;rintro e w' ⟨v,rfl,h1,h2⟩;have F:dw x u=⟨⟨Fq.ofInt 1,Fq.ofInt 0,Fq.ofInt 0,Fq.ofInt (u % 7)⟩,⟨Fq.ofInt x,Fq.ofInt 0,Fq.ofInt 0⟩⟩:=by unfold dw;rw[if_neg G]
 rw[F];exact⟨v,rfl,rO1 h1,h2⟩
def xq_Pose1X(x u:Int):List Fq:=(Pq.id.cs++([(Fq.ofInt x),(Fq.ofInt (u % 7)),(Fq.ofInt 2)]))
theorem q_Pose1(x u:Int)(H: -128<=x/\x<128)(C:0<=u/\u<256)(G:u % 8=7):
  AC AB 86 #[.int .i8 x,.int .u8 u] w λe w'=>jt w (dw x u) e w':=by
 refine(cR1 (xq_Pose1X x u) [.val (.int .i8 x),.val (.int .u8 u),.val (.int .i64 x),.val (.int .u8 (u % 7)),.val (.int .i64 (u % 7)),.val (.int .u8 (u % 8))] [.one (.ref 30),.one (.ref 31)] [.int .i8 x,.int .u8 u] (.v (row [9,1,2,8,7,5,6])) (il4 (zf [0,1,2,3,4,5,6] Ae) (jj 7 x (iJ 32 rfl) rfl no no) (jj 8 (u % 7) (iJ 34 rfl) rfl no no) (jJ 9 rfl it it)) (aj (aaV 2 65 32 Tryz.underlying65 Tryz.underlying2 (iJ 30 rfl) rfl no no) (aj (t7 7 u 33 5 (iJ 31 rfl) rfl (DS C.1) it) (aj (aaV 2 5 34 Dm Tryz.underlying2 (iJ 33 rfl) rfl no no) (aj (t7 8 u 35 5 (iJ 31 rfl) rfl (DS C.1) it) (aj (o_int (t:=5) (iJ 35 rfl) (wD 7) (ib_eql_t no)) (az)))))) Tryz.func86 ⟨bx 30 rfl (cZ it),⟨bx 31 rfl (cZ it),trivial⟩⟩).mono ?_;rintro e w' ⟨v,rfl,h1,h2⟩;have F:dw x u=⟨⟨Fq.ofInt 2,Fq.ofInt 0,Fq.ofInt 0,Fq.ofInt (u % 7)⟩,⟨Fq.ofInt x,Fq.ofInt 0,Fq.ofInt 0⟩⟩:=by unfold dw;rw[if_pos G]
 rw[F];exact⟨v,rfl,rO1 h1,h2⟩
theorem q_Pose(x u:Int)(F: -128<=x/\x<128)(C:0<=u/\u<256):AC AB 86 #[.int .i8 x,.int .u8 u] w λe w'=>jt w (dw x u) e w':=by
 by_cases h:u % 8=7
 ·exact q_Pose1 x u F C h
 ·exact q_Pose0 x u F C h
def xffrX(a:Fq):List Fq:=[a]
theorem q_ffr(va:Value)(a:Fq)(w:World)(ia:IsQ w va a)(ha:a.ok 1000000000):
  AC AB 163 #[va] w λe w'=>fg w a e w':=by
 exact(cR0 (xffrX a) [fr 0] [va] (.v (fr 0)) (il2 (mI 1 1 rfl rfl (AD ha.p it)) (mI 2 2 rfl rfl (AD ha.q it))) Tryz.func163 ⟨(aw 0 (xffrX a) rfl).2 ia,trivial⟩).mono (mMo λh=>(aw 0 (xffrX a) rfl).1 h)
theorem qu(ia F:Nat){a:Fq}(G:xs[ia]? =some a)(H:xs[F]? =some a)(ha:a.ok 1000000000):OkI xs ys ⟨163,[fr ia],.v (fr F)⟩:=
 mI1 Tryz.func163 λC=>(q_ffr _ a _ ((aw _ _ G).1 C) ha).mono (mMo λh=>(aw _ _ H).2 h)
def xfcpX(a:Pq):List Fq:=a.cs
theorem q_fcp(va:Value)(a:Pq)(w:World)(ia:aR w va a)(ha:a.ok 1000000000):
  AC AB 97 #[va] w λe w'=>jt w a e w':=by
 exact(cR0 (xfcpX a) [row [0,1,2,3,4,5,6]] [va] (.v (row [0,1,2,3,4,5,6])) (il7 (qu 0 0 rfl rfl (ha.rot.w.mono it)) (qu 1 1 rfl rfl (ha.rot.x.mono it)) (qu 2 2 rfl rfl (ha.rot.y.mono it)) (qu 3 3 rfl rfl (ha.rot.z.mono it)) (qu 4 4 rfl rfl (ha.pos.x.mono it)) (qu 5 5 rfl rfl (ha.pos.y.mono it)) (qu 6 6 rfl rfl (ha.pos.z.mono it))) Tryz.func97 ⟨rO2 ia,trivial⟩).mono (mMo λh=>rO1 h)
section
open Go.ChangeShapes Go.WideShapes Go.ChangeAt Go.RowKit
section
variable {H:Type} {enc:TypeId×Value->H} {W:World}
theorem iQ:∀ {rs:List Rq} {cs:List Value} {j:Nat} {q:Vp},bo W rs cs->(tP rs)[j]? =some q->∃u,cs[j]? =some u/\q.p W u/\∀g,¬q.fp W u g
 | [],_,_,_,_,h=>by simp[tP]at h
 | r::rs,cs,j,q,hc,h=>by
  obtain⟨a,c,b,d,C,rfl,h1,h2,h3⟩:=hc;simp only[tP,Cw]at h
  match j,h with
  | 0,h=>simp at h;subst h;exact⟨_,rfl,⟨rfl,bK⟩,λ_ h=>h⟩
  | 1,h=>simp at h;subst h;exact⟨_,rfl,h1,λ_ h=>h⟩
  | 2,h=>simp at h;subst h;exact⟨_,rfl,h2,λ_ h=>h⟩
  | j+3,h=>
   obtain⟨u,F,k2⟩:=iQ (rs:=rs) (cs:=C) (j:=j) (q:=q) h3 (by simpa [tP]using h);exact⟨u,by simpa using F,k2⟩
theorem st_qs{x:RSt}{cs:List Value}{q:Vp}(hc:bo W x.rs cs)(h:x.qs[j]? =some q):∃u,(.int .i64 x.tm::cs)[j]? =some u/\q.p W u/\∀g,¬q.fp W u g:=by
 cases j with
 | zero=>
  simp[RSt.qs]at h;subst h;exact⟨_,rfl,⟨rfl,ck⟩,λ_ h=>h⟩
 | succ j=>
  obtain⟨u,C,k2⟩:=iQ (j:=j) (q:=q) hc (by simpa [RSt.qs]using h);exact⟨u,by simpa using C,k2⟩
end
end
inductive SetS(add:List St->List St×Int)(R:Tr)(c:Nm)(a:Int):Tr->Int->Prop
 | none (h:tAt R c a=none):SetS add R c a R 18
 | still {x:Lk} (h:tAt R c a=some x) (hs:x.st=true):SetS add R c a R 10
 | ok {A B:Tr} {x:Lk} (e:R=A++(c,x)::B) (h:tAt R c a=some x) (hs:x.st=false):SetS add R c a (A++(c,{x with tr:=(add x.tr).1})::B) (add x.tr).2
inductive FixS(ok:Bool)(p:Pq)(R:Tr)(c:Nm):Tr->Int->Prop
 | none (h:qi R c):FixS ok p R c R 18
 | state {k:Nat} {x:Lk} (h:eO R c k x) (hs:x.st=true\/x.tr≠ []):FixS ok p R c R 10
 | range {k:Nat} {x:Lk} (h:eO R c k x) (hs:x.st=false) (ht:x.tr=[]) (hp:ok=false):FixS ok p R c R 4
 | ok {A B:Tr} {x:Lk} (e:R=A++(c,x)::B) (h:x.un= -1) (hs:x.st=false) (ht:x.tr=[]) (hp:ok=true):FixS ok p R c (A++(c,{x with st:=true,po:=p})::B) 0
theorem tAt_E(h:TM w t m E){o:Option Ln}(hl:atE E c a=o):tAt (trE E) c a=o.map (·.x):=by rw[<-h.tAt,hl]
abbrev stV(a:Int)(cs:List Value):Value:=.agg (.int .i64 a::cs).toArray
variable{cs:List Value}
theorem zu(h:cs.length=21):∃c0 c1 c2 c3 c4 c5 c6 c7 c8 c9 C F G I J K U V Y Z aa,cs=[c0,c1,c2,c3,c4,c5,c6,c7,c8,c9,C,F,G,I,J,K,U,V,Y,Z,aa]:=by
 match cs,h with
 | [c0,c1,c2,c3,c4,c5,c6,c7,c8,c9,C,F,G,I,J,K,U,V,Y,Z,aa],_=>exact⟨_,_,_,_,_,_,_,_,_,_,_,_,_,_,_,_,_,_,_,_,_,rfl⟩
set_option maxHeartbeats 1000000 in
theorem q_Set(h:TM w t m E)(hl:cs.length=21)(add:List St->List St×Int)
  (Y:∀w' g sl S,(∃l∈lsE E c,S=l.x.tr)->Bi w.heap.size w w'->TrkS trT w' g sl S->AC AB 127 #[ptB g,stV a cs] w' λe V=>e= .returned (.int .i64 (add S).2)/\TrkM trT w' g sl (add S).1 V):
  AC AB 69 #[ptB t,.string c,stV a cs] w λe w'=>∃E' R' C,e= .returned (.int .i64 C)/\TPost w t m E w' E'/\REq (trE E') R'/\SetS add (trE E) c a R' C:=by
 obtain⟨J,au⟩:∃J,w.alloc (.cells (.int .i64 a::cs).toArray 120)=J:=⟨_,rfl⟩;have I:Bi w.heap.size w J:=by rw[<-au];exact(AF _ _).alloc (AE _) _
 have G:J.heap[w.heap.size]? =some (.cells (.int .i64 a::cs).toArray 120 (0,0)):=by rw[<-au];exact Bm w _
 have h1:=h.below I;have U:=sw h1 c a;generalize hB:w.heap.size=B at *;have ay:J.cell? ⟨B,0,none⟩=some (.int .i64 a):=by rw[aH G];rfl
 cases hl0:atE E c a with
 | none=>
  rw[hl0]at U
  change AC _ _ _ _ (λe w'=>e= .returned (.pointer none)/\w'=J)at U
  have HP:=AA (show∃E' R' C,BF (.int .i64 18)= .returned (.int .i64 C)/\TPost w t m E J E'/\REq (trE E') R'/\SetS add (trE E) c a R' C from⟨E,_,18,rfl,.refl h (by rw[hB];exact I),.refl _,.none (tAt_E h hl0)⟩);clear h h1 hl0 I G Y hl;go_enter Tryz.func69,Tryz.ntmps69
  go_wp2_with (go_at_call 90;refine U.mono ?_;rintro e w' ⟨rfl,aa⟩;obtain rfl:=aa.symm)
  go_ret;exact HP.out
 | some l=>
  rw[hl0]at U
  change AC _ _ _ _ (λe w'=>e= .returned (ptB l.b)/\w'=J)at U
  obtain⟨ch,ac,ad,hL⟩:=lp h1 hl0;have ar:=hL.st;have an:=hL.tp;have ak:tAt (trE E) c a=some l.x:=tAt_E h hl0
  cases hx:l.x.st with
  | true=>
   rw[hx]at ar;have HP:=AA (show∃E' R' C,BF (.int .i64 10)= .returned (.int .i64 C)/\TPost w t m E J E'/\REq (trE E') R'/\SetS add (trE E) c a R' C from⟨E,_,10,rfl,.refl h (by rw[hB];exact I),.refl _,.still ak hx⟩);clear h h1 hl0 I G Y hl ac ad hL ak hx an;generalize l.b=lb at *;go_enter Tryz.func69,Tryz.ntmps69
   go_wp2_with (go_at_call 90;refine U.mono ?_;rintro e w' ⟨rfl,aa⟩;obtain rfl:=aa.symm)
   go_ret;exact HP.out
  | false=>
   rw[hx]at ar;obtain⟨k,hk,ek⟩:=BK ad;have ao:ch.ls[k]? =some l:=by rw[AJ hk,ek]
   obtain⟨E1,E2,L1,L2,hE,_,a1⟩:=zm ac ao;have Z:TM J.drew t m (dh E1 E2 c ch.rb ch.cap L1 L2 l):=by rw[<-hE];exact h1.drew
   have am:=Y J.drew l.g l.sl l.x.tr ⟨l,(by unfold lsE;rw[ac];exact ad),rfl⟩ I.drew Z.mid.trk;have HP:=AA (show∀V,TrkM trT J.drew l.g l.sl (add l.x.tr).1 V->(∀j,V.cell? ⟨l.b,j,none⟩=J.cell? ⟨l.b,j,none⟩)/\(∀j,V.cell? ⟨B,j,none⟩=J.cell? ⟨B,j,none⟩)/\∃E' R' C,BF (.int .i64 (add l.x.tr).2)= .returned (.int .i64 C)/\TPost w t m E V E'/\REq (trE E') R'/\SetS add (trE E) c a R' C from λV hM=>by
    have a4:l.g<B:=by rw[<-hB];exact h.lt l.g (by rw[hE];exact Z.sub _ (by simp[Ln.fp]))
    have a0:l.b<J.heap.size:=by
     obtain⟨⟨cs,k1,_⟩,_⟩:=hL;exact(AZ.1 k1).1
    have a2:l.b≠l.g:=λe=>by
     have ap:=Z.lnd;unfold Ln.fp at ap;exact(Bu.1 ap).1 (e▸Bo ..)
    have av:B<J.heap.size:=(AZ.1 G).1;refine⟨λj=>BZ (hM.kept.block l.b a0 a2),λj=>BZ (hM.kept.block B av (λe=>by have e:B=l.g:=e;omega)),?_⟩;obtain⟨sl',hP⟩:=Z.trk hM;refine⟨_,_,_,rfl,TPost.pre (by rw[hB];exact I.drew) h (by rw[hE];exact hP),.refl _,?_⟩;have ax:trE E=(trE E1++L1.map λl=>(c,l.x))++(c,l.x)::((L2.map λl=>(c,l.x))++trE E2):=by rw[hE,iO]
    rw[iO];exact .ok ax ak hx)
   have HA:=AA am;have aq:J.rangeAt B 0 (.int .i64 a::cs):=λj v hv=>by rw[aH G,A5];simpa using hv
   have a3:(AB.info? 120).map (·.size)=some (.int .i64 a::cs:List Value).length:=by rw[Bg,hl];kernel_rfl
   clear h h1 hl0 I G Y hl ac ad hL ak hx hk ao ek a1 Z am hE;generalize l.b=lb at *;generalize l.g=lg at *;generalize (add l.x.tr).2=C at *;go_enter Tryz.func69,Tryz.ntmps69
   go_wp2_with (go_at_call 90;refine U.mono ?_;rintro e w' ⟨rfl,aa⟩;obtain rfl:=aa.symm)
   refine wp_region_held_drew (S:=λw'=>w'.cell? ⟨lb,26,none⟩=some (ptB lg)/\w'.rangeAt B 0 (.int .i64 a::cs)) Aa ⟨by simpa using an,by simpa using aq⟩ (λF=> ?_);refine BQ (i:=0) (v:=ptB lb) rfl Aa Aa Aa (λ_ _ _ h=>h) (AR ⟨Af,λw hw=>Af⟩) F ?_;refine BQ (i:=1) (v:=ptB lb) rfl Aa Aa Aa (λ_ _ _ h=>h) (AR ⟨Af,λw hw=>Ah⟩) F ?_;refine BQ (i:=2) (v:=.pointer (some ⟨lb,26,none⟩)) rfl Aa Aa Aa (λ_ _ _ h=>h) (AR ⟨Af,λw hw=>Ah⟩) F ?_;refine BQ (i:=3) (v:=ptB lg) rfl Aa Aa Aa (λ_ _ _ h=>h) (AR ⟨Af,λw hw=>by have:=hw.1;go_simp⟩) F ?_;refine BQ (i:=4) (v:=stV a cs) rfl Aa Aa Aa (λ_ _ _ h=>h) (yieldsIf_load_mid Af _ _ rfl B 0 rfl _ _ (λw hw=>hw.2) Tryz.underlying120 rfl a3) F ?_;refine wpAnyH_ready (rs:=[5]) Aa Ad ?_;refine AllReadyH.cons rfl (λK hK=> ?_) AllReadyH.nil;go_simp;go_at_call 127
   refine HA.out.mono ?_;rintro e w2 ⟨rfl,hM⟩;obtain⟨e1,e2,hq⟩:=HP.out _ hM;have HQ:=AA hq;refine hK.out _ _ ⟨(e1 26).trans an,λj v hv=>(e2 _).trans (aq j v hv)⟩ (λab=> ?_);clear hK K hM e1 e2 hq F;refine BQ (i:=6) (v:=.int .i64 C) rfl Aa Aa Aa (λ_ _ _ h=>h) (AR ⟨Af,λw hw=>Af⟩) ab ?_;refine wpAnyH_done Aa ?_ _;go_wp2;go_ret;exact HQ.out
theorem TM.setB{L1:List Ln}(h:TM w t m (dh E1 E2 c rb cap L1 L2 l))(u:Upd w l.b w')(hc:∃cs,w'.heap[l.b]? =some (.cells cs lkT (0,0))/\ll w' cs (lnQ c l'))(hb:l'.b=l.b)(G:l'.g=l.g)(hs:l'.sl=l.sl)(ht:l'.x.tr=l.x.tr):
  TPost w t m (dh E1 E2 c rb cap L1 L2 l) w' (dh E1 E2 c rb cap L1 L2 l'):=by
 have F:∀g∈l.fp,bw w g:=λg G=>h.own g (h.sub g G)
 have hn:=h.lnd;have e:l'.fp=l.fp:=by unfold Ln.fp;rw[hb,G,hs]
 have V:bw w l.b:=F _ (Bo ..);have U:Chg w w' (· =l.b):=.upd V u;have J:Chg w w' (· ∈l.fp):=⟨by rw[u.size];exact AE _,λg _ G=>u.block g (λe=>G (e▸Bo ..)),F⟩;have I:l.b≠l.g/\∀b,l.sl.ownBlock=some b->b≠l.b:=by
  unfold Ln.fp at hn;obtain⟨Z,_⟩:=Bu.1 hn;exact⟨λe=>Z (e▸Bo ..),λb hb e=>Z (e▸Bf _ (by simp[hb]))⟩
 obtain⟨cs,h1,h2⟩:=hc;have Y:bw w' l.b:=.mk' h1 (λk n J=>by
  obtain⟨q,hq⟩:∃q,(lnQ c l')[k]? =some q:=⟨_,AJ (by rw[<-h2.1];exact(AZ.1 J).1)⟩;obtain⟨v,K,k2⟩:=h2.2 k q hq;rw[J]at K;injection K with K;subst K;exact(q.fl _ _ k2).2.2 n rfl)
 refine⟨h.put hb G (λb hb=>.inl (hs▸hb)) ⟨⟨cs,by rw[hb];exact h1,h2⟩,by rw[G,hs,ht];exact h.mid.trk.chg U (λe=>I.1 e.symm) I.2⟩ (λg C=> ?_) J,.upd u (h.sub _ (Bo ..)),λg C=>.inl ?_⟩
 ·rw[e]at C;by_cases e2:g=l.b
  ·subst e2;exact Y
  ·exact(F g C).blk (u.block g e2) (by rw[u.size];exact AE _)
 ·rw[fO]at C⊢;rw[hb,G,hs]at C;exact C
theorem fixed_mem{L1:List Ln}{p:Pq}(h:TM w t m (dh E1 E2 c rb cap L1 L2 l))(hv:aR w (.agg cs.toArray) p):
  TPost w t m (dh E1 E2 c rb cap L1 L2 l) ((w.setCell ⟨l.b,4,none⟩ (.bool true)).setCells l.b 5 cs) (dh E1 E2 c rb cap L1 L2 {l with x:= {l.x with st:=true,po:=p}}):=by
 obtain⟨U,J,hc⟩:=hv;have J:cs=U:=by injection J with J;simpa using J
 subst J;have G:cs.length=21:=aE hc;obtain⟨⟨C,h1,h2,h3⟩,_⟩:=h.mid;have K:C.size=27:=h2;have u:Upd w l.b ((w.setCell ⟨l.b,4,none⟩ (.bool true)).setCells l.b 5 cs):=(Upd.cell w l.b 4 _).trans (co cs _ l.b 5);have hk:Chg w ((w.setCell ⟨l.b,4,none⟩ (.bool true)).setCells l.b 5 cs) (· =l.b):=.upd (h.own _ (h.sub _ (Bo ..))) u;refine h.setB u ⟨mO (C.setIfInBounds 4 (.bool true)) 5 cs,ft cs _ l.b 5 _ lkT (CZ w l.b 4 C lkT _ h1),by rw[qt,F0];exact K,λj q I=> ?_⟩ rfl rfl rfl rfl;rw[oa _ _ _ _ (by simp[K,G]),G];by_cases hj:5<=j/\j<5+21
 ·rw[if_pos hj];have F:(tP [p.rot.w.raw,p.rot.x.raw,p.rot.y.raw,p.rot.z.raw,p.pos.x.raw,p.pos.y.raw,p.pos.z.raw])[j - 5]? =some q:=by
   have e:lnQ c {l with x:= {l.x with st:=true,po:=p}}=[.val (.string c),.val (.string l.x.par),.val (.int .i64 l.x.fr),.val (.int .i64 l.x.un),.val (.bool true)]++(frs p.cs++ [.val (ptB l.g)]):=rfl;rw[e,Bv (by simp;omega)]at I;rw[Bz (by show j - 5<21;omega)]at I;exact I
  obtain⟨v,k1,k2,k3⟩:=iQ hc F;exact⟨v,k1,(q.ch _ _ _ v k2 hk (λg Y=>absurd Y (k3 g))).1⟩
 ·rw[if_neg hj,DQ];by_cases h4:4=j
  ·subst h4;rw[if_pos rfl,if_pos no];have:q= .val (.bool true):=by
    have e:(lnQ c {l with x:= {l.x with st:=true,po:=p}})[4]? =some (.val (.bool true)):=rfl;rw[e]at I;injection I with I;exact I.symm
   subst this;exact⟨_,rfl,rfl,bK⟩
  ·rw[if_neg h4];have F:(lnQ c l)[j]? =some q:=by
    rw[<-I];unfold lnQ;rcases Bc j 5 with V | V
    ·match j,V,h4 with
     | 0,_,_=>rfl
     | 1,_,_=>rfl
     | 2,_,_=>rfl
     | 3,_,_=>rfl
     | n+4,V,h4=>exact absurd (show 4=n+4 by omega) h4
    ·obtain⟨i,rfl⟩:∃i,j=26+i:=⟨j - 26,no⟩;have e1:∀x:Pq,(frs x.cs++ [Vp.val (ptB l.g)])[21+i]? =[Vp.val (ptB l.g)][i]? :=λx=>by
      rw[Bv (by show 21<=21+i;omega)];show [Vp.val (ptB l.g)][21+i - 21]? =_;rw[Nat.add_sub_cancel_left]
     have e2:∀(a b c d e:Vp)(M:List Vp),(a::b::c::d::e::M)[26+i]? =M[21+i]? :=λa b c d e M=>by
      rw[show 26+i=(21+i)+1+1+1+1+1 by omega];rfl
     rw[e2,e2,e1,e1]
   obtain⟨v,k1,k2⟩:=h3 j q F;have Z:q∈lnQ c l:=A0 F;exact⟨v,k1,(q.ch _ _ _ v k2 hk (λg Y=>absurd Y (tX q Z _ _ _))).1⟩
def headR:Code->Option Nat
 | .seq c _=>headR c
 | .region i _ _=>some i
 | _=>none
def restC(n:Nat):Code->Option Code
 | .seq c d=>if headR (.seq c d)=some n then some (.seq c d)else match restC n c with
  | some c'=>some c'
  | none=>restC n d
 | .region i o b=>if i=n then some (.region i o b)else none
 | _=>none
def restOf(n:Nat)(p:AW)(f:FuncId):Option Code:=(p.funcs[f]?).bind λfn=>fn.body.bind (restC n)
def look(i:Nat):List (Nat×Value)->Option Value
 | []=>none
 | (j,v)::l=>if j=i then some v else look i l
structure Kn(n:Nat)(l:List (Nat×Value))(a:Act):Prop where
 sz:a.tmps.size=n
 df:a.defers=[]
 at':∀i v,look i l=some v->a.tmps[i]? =some v
section
variable {n d i:Nat} {l l':List (Nat×Value)} {a:Act} {v u:Value}
def allK(a:Act):List (Nat×Value)->Prop
 | []=>True
 | (i,v)::l=>a.tmps[i]? =some v/\allK a l
theorem Kn.mk0(h1:a.tmps.size=n)(h2:a.defers=[])(h:allK a l):Kn n l a:=⟨h1,h2,λi v=>by
 induction l with
 | nil=>intro e;cases e
 | cons x l ih=>
  obtain⟨j,u⟩:=x;intro e;unfold look at e;split at e
  ·rename_i C;subst C;injection e with e;subst e;exact h.1
  ·exact ih h.2 e⟩
theorem Kn.ev(h:Kn n l a)(e:look i l=some v):a.eval (.tmp i)=v:=by
 have:=h.at' i v e;simp[Act.eval,this]
theorem Kn.getD(h:Kn n l a)(e:look i l=some v):a.tmps.getD i undef=v:=by
 have:=h.at' i v e;simp[this]
theorem Kn.gt{n:Nat}{l:List (Nat×Value)}{a:Act}{v:Value}(h:Kn n l a)(i:Nat)(e:look i l=some v:=by rfl):a.tmps.getD i undef=v:=h.getD e
theorem Kn.put(h:Kn n l a)(F:d<n):Kn n ((d,v)::l) (a.put (some d) v):=by
 refine⟨by simp[AI,h.sz],h.df,λi u e=> ?_⟩;unfold look at e;split at e
 ·rename_i C;subst C;injection e with e;subst e;simp[AI,h.sz,F]
 ·rename_i C;have:=h.at' i u e;simp only[AI];rw[Array.getElem?_setIfInBounds_ne C];exact this
theorem Kn.sub(h:Kn n l a)(k:∀i v,look i l'=some v->look i l=some v):Kn n l' a:=⟨h.sz,h.df,λi v e=>h.at' i v (k i v e)⟩
def allL(l:List (Nat×Value)):List (Nat×Value)->Prop
 | []=>True
 | (i,v)::l'=>look i l=some v/\allL l l'
theorem xd{i:Nat}{v:Value}:∀ {l'},allL l l'->look i l'=some v->look i l=some v
 | [],_,e=>by cases e
 | (j,u)::l',h,e=>by
  unfold look at e;split at e
  ·rename_i C;subst C;injection e with e;subst e;exact h.1
  ·exact xd h.2 e
theorem Kn.cut(h:Kn n l a)(k:allL l l'):Kn n l' a:=h.sub λ_ _ e=>xd k e
end
section
variable {P:AW} {ops:Array Oper} {Q:Exit->Act->World->Prop} {md:Region.Mode} {S:World->Prop} {n d i fuel:Nat} {oi:Oper} {v:Value} {l:List (Nat×Value)} {listed:Array Bool} {a:Act} {w w':World} {rest:List Oper} {o:Oper}
theorem wpAnyH_k(F:Kn n l a)(hi:ops[i]? =some oi)(hs:Fz ops=true)(hf:Region.free md ops listed i=true)(hr:(BY md ops listed).contains i=true)
  (C:oi.dst=some d)(hn:d<n)(G:∀c a a' w,a'.defers=a.defers->Q (.panic c) a w->Q (.panic c) a' w)(J:oi.guard=none)(hy:∀a w,Kn n l a->S w->(execOp a.eval oi).run P w= .ok (.value v) w)(I:S w)
  (h:∀a',Kn n ((d,v)::l) a'->wpAnyH P md ops Q S fuel (listed.setIfInBounds i true) a' w):wpAnyH P md ops Q S (fuel+1) listed a w:=by
 refine BQ (v:=v) hi hs hf hr (λc a w h=>G c (a.put oi.dst v) a w (by rw[C];rfl) h) (.inl ⟨ag J,λw K=>hy a w F K⟩) I ?_;rw[C];exact h _ (F.put hn)
theorem ec(i:Nat)(v:Value)(F:Kn n l a)(hi:ops[i]? =some oi)(hs:Fz ops=true)(hf:Region.free md ops listed i=true)(hr:(BY md ops listed).contains i=true)
  (C:oi.dst=some d)(hn:d<n)(G:∀c a a' w,a'.defers=a.defers->Q (.panic c) a w->Q (.panic c) a' w)(I:oi.guard=none)(hy:∀a w,Kn n l a->(execOp a.eval oi).run P w= .ok (.value v) w)
  (h:∀a',Kn n ((d,v)::l) a'->wpAny P md ops Q fuel (listed.setIfInBounds i true) a' w):wpAny P md ops Q (fuel+1) listed a w:=by
 refine wpAny_take (v:=v) hi hs hf hr (λc a w h=>G c (a.put oi.dst v) a w (by rw[C];rfl) h) (.inl ⟨ag I,λw=>hy a w F⟩) ?_;rw[C];exact h _ (F.put hn)
theorem jS{K:Act->World->Prop}(I:Kn n l a)(hi:ops[i]? =some oi)(F:oi.dst=some d)(hn:d<n)(G:oi.guard=none)(hy:(execOp a.eval oi).run P w= .ok (.value v) w')
  (h:∀a',Kn n ((d,v)::l) a'->K a' w'):wpOp P ops Q i K a w:=wpOp_step hi λJ C=>by
 rw[if_pos (ag G)];unfold Bk;rw[hy,Oper.upon_value,F];exact C _ _ (h _ (I.put hn))
theorem fW(i:Nat)(hr:BY md ops listed=[i])(h:wpOp P ops Q i (wpAny P md ops Q fuel (listed.setIfInBounds i true)) a w):wpAny P md ops Q (fuel+1) listed a w:=
 wpAny_all hr Ad λj C=>by
  obtain rfl:j=i:=by simpa using C
  exact h
theorem sB(i j:Nat)(hr:BY md ops listed=[i,j])(h1:wpOp P ops Q i (wpAny P md ops Q fuel (listed.setIfInBounds i true)) a w)(h2:wpOp P ops Q j (wpAny P md ops Q fuel (listed.setIfInBounds j true)) a w):wpAny P md ops Q (fuel+1) listed a w:=
 wpAny_all hr Ad λk C=>by
  rcases AS.1 C with rfl | C
  ·exact h1
  ·obtain rfl:k=j:=by simpa using C
   exact h2
theorem xe{id:Nat}{a:Act}{w:World}(G:P.follows .mixedOrders=true)(h:∀C F,C=ops->F=Q->wpAny P .any C F ops.size (Array.replicate ops.size false) a w.drew):(Code.region id ops true).wp P Q a w:=wp_region_any G (h ops Q rfl rfl)
end
end Go.Proofs.YtggfmklppkioeaaGreat
