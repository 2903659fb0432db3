/- Rows of the call's own; rows of steps; what steps leave of the parents. Facts of the program that FrametreeAcyclic asks for, one by one: all at once is more than the kernel holds. Trees of frames: Links. Trees of frames: plain facts of the rows of links, of roots. FrametreeAcyclic: at no time do the frames form a cycle, and each has one parent at most. -/
import Derived.Test.YtggfmklppkioeaaGreatP17
import Derived.Deep.Cut
import Derived.Test.YtggfmklppkioeaaGreatRows
import Derived.WalkKit
import Derived.ProofKit
import Derived.OpenShut
import Derived.ChangeOld
namespace Go.Proofs.YtggfmklppkioeaaGreat
set_option linter.unusedSimpArgs false
set_option linter.unusedVariables false
set_option maxRecDepth 100000
open Go.RowKit
open Classical
section
variable {w w':World} {b sz n j:Nat} {T:TypeId} {v u:Value} {xs:List Value} {ad:Option Addr} {cap:Nat}
theorem row_keep (h:w.ownsRow b T sz v n xs) (k:∀g,v.ownBlock=some g→w'.heap[g]? =w.heap[g]?):w'.ownsRow b T sz v n xs:=
 ⟨h.1,h.2.imp id fun⟨g,cap,cur,e,hb,hg,hr⟩=>⟨g,cap,cur,e,hb,by rw[k g (by rw[e];rfl)];exact hg,hr⟩⟩
theorem row_lt (h:w.ownsRow b T sz v n xs) {g:Nat} (hg:v.ownBlock=some g):b≤g∧g<w.heap.size:=by
 rcases h.2 with⟨rfl,_⟩ | ⟨g',cap,cur,rfl,hb,hc,_⟩
 ·cases hg
 ·have e:g'=g:=Option.some.inj hg
  subst e
  exact⟨hb,(Array.getElem?_eq_some_iff.1 hc).1⟩
theorem row_form (h:w.ownsRow b T sz v n xs):∃ad cap,v= .slice ad n cap:=by
 rcases h.2 with⟨rfl,rfl⟩ | ⟨g',cap,cur,rfl,_⟩
 ·exact⟨_,_,rfl⟩
 ·exact⟨_,_,rfl⟩
theorem orow_at (h:w.ownsRow b T sz (.slice ad n cap) n xs) (hj:xs[j]? =some u):∃g,ad=some ⟨g,0,none⟩∧w.cell? ⟨g,j,none⟩=some u:=by
 rcases h.2 with⟨e,rfl⟩ | ⟨g',cap',cur,e,_⟩
 ·have:xs=[]:=List.eq_nil_of_length_eq_zero (by rw[h.1];omega)
  subst this;cases hj
 ·injection e with e1 _ _
  subst e1
  have:=h.cells (g:=g') rfl j u hj
  rw[ck,Nat.zero_add]at this
  exact⟨g',rfl,this⟩
theorem bM.keep (h:bM w T sz v n xs) (k:∀g,v.ownBlock=some g→w'.heap[g]? =w.heap[g]?):bM w' T sz v n xs:=
 ⟨row_keep h.1 k,fun g hg=>by
  obtain⟨cs,t,h1,h2⟩:=h.2 g hg
  exact⟨cs,t,by rw[k g hg];exact h1,h2⟩⟩
theorem run_appK {p:Program} {t ty e:TypeId} {bytes:Nat} (ht:p.underlying t=some (.slice e)) (hB:wS p e sz bytes=true) (ho:bM w e sz v n xs) {a:Addr} {m c:Nat} {news:List Value} (hl:news.length=m*sz) (hnews:∀j u,news[j]? =some u→w.cell? (a.add j)=some u) (h1:∀u∈news,u.oneCell'=true) (hnu:∀u∈news,noU u)
  (hm:0<m) (hb:(n+m)*bytes≤140737488355328) (hn:n+m≤1000000000000000):
  ∃v' w',(Builtin.append_ #[t,t] ty #[v,.slice (some a) m c]).run p w= .ok v' w'∧w.grownBy w' v.ownBlock∧(∀g,v'.ownBlock=some g→v.ownBlock=some g∨w.heap.size≤g)∧bM w' e sz v' (n+m) (xs++news):=by
 unfold wS at hB
 split at hB
 ·rename_i ti hi
  simp only[Bool.and_eq_true,beq_iff_eq,decide_eq_true_eq]at hB
  obtain⟨hz,h3,h4,h5⟩:=hB
  split at hz
  ·rename_i z hz'
   simp only[Bool.and_eq_true,beq_iff_eq]at hz
   subst h3;subst h4
   obtain⟨v',w',k1,k2,_,k4,k5⟩:=nh (ty:=ty) (c:=c) ht hi hz' hz.1 h5 (fun u hu n e=>by
    have:=List.all_eq_true.1 hz.2 u hu
    subst e;exact Bool.noConfusion (show false=true from this)) ho hl hnews h1 hnu hm hb hn
   exact⟨v',w',k1,k2,k4,k5⟩
  ·cases hz
 ·cases hB
end
theorem wpList_app {P:Program} {ops:Array Oper} {rest:List Oper} {o:Oper} {a:Act} {w w':World} {v v':Value} {Q:Exit→Act→World→Prop} {s x:Operand} {t:TypeId} (hgd:o.guard=none)
  (ho:o.op= .call {callee:=.builtin .append,args:=#[s,x],argTypes:=#[t,t]}) {y:Value} (hs:a.eval s=v) (hx:a.eval x=y) (hr:(Builtin.append_ #[t,t] o.type #[v,y]).run P w= .ok v' w') (h:wpList P ops Q rest (a.put o.dst v') w'):wpList P ops Q (o::rest) a w:=
 aF hgd (by
  unfold execOp
  simp only[ho,resolve,invoke,builtin,Sem.run_bind,Sem.run_pure,Result.andThen_ok,List.map_toArray,List.map_cons,List.map_nil,hs,hx,hr]) h
theorem below_setCells {B:Nat} {a:World}:∀(vs:List Value) (o:Nat) (w:World) {b:Nat},Below B a w→B≤b→Below B a (w.setCells b o vs)
 | [],_,_,_,h,_=>h
 | v::r,o,w,b,h,hb=>by
  rw[World.setCells]
  exact below_setCells r (o+1) _ (h.setCell (p:=⟨b,o,none⟩) hb v) hb
/-! ### Rows of steps. -/
theorem d9.row {w:World} {v:Value} {R:List Stp} (h:d9 w v R):∃ad c,v= .slice ad R.length c∧∀i s,R[i]? =some s→∃b o,ad=some ⟨b,o,none⟩∧b<w.heap.size∧w.rangeAt b (o+i*6) s.cs:=by
 rcases h with⟨rfl,a,c,rfl⟩ | ⟨b,o,c,rfl,_,hb,hq⟩
 ·exact⟨a,c,rfl,fun i s hi=>by cases i<;>cases hi⟩
 ·exact⟨_,c,rfl,fun i s hi=>⟨b,o,rfl,hb,fun j u hu=>by rw[Nat.add_assoc];exact hq i s hi j u hu⟩⟩
theorem rangeAt_below {w w':World} {B b o:Nat} {cs:List Value} (h:w.rangeAt b o cs) (k:Below B w w') (hb:b<B):w'.rangeAt b o cs:=fun j v hv=>by
 rw[k.cell (p:=⟨b,_,none⟩) hb];exact h j v hv
theorem there_new {w:World} {B:Nat} {cs:Array Value} {T:TypeId} (h:w.heap[B]? =some (.cells cs T (0,0))):w.there B 0 cs.size:=fun j hj=>by
 refine⟨?_,by simp[World.frozen?,h]⟩
 rw[ba h,Nat.zero_add,Array.getElem?_eq_getElem hj];rfl
abbrev stpZ:Obj:=.cells #[.int .u8 0,.int .u8 0,.int .u8 0,.int .i16 0,.int .i8 0,.int .u8 0] 67
theorem stp_there (w:World):(w.alloc stpZ).there w.heap.size 0 6:=there_new (heap_alloc_new w stpZ)
theorem stp_one (s:Stp):s.cs.toArray.all (·.oneCell')=true:=by simp[Stp.cs,Value.oneCell']
theorem stp_store (w:World) (s:Stp):((w.alloc stpZ).setCells w.heap.size 0 s.cs).rangeAt w.heap.size 0 s.cs∧Below w.heap.size w ((w.alloc stpZ).setCells w.heap.size 0 s.cs):=
 ⟨World.rangeAt_setCells_same _ _ _ _ (stp_there w),below_setCells s.cs 0 _ ((Below.refl w.heap.size w).alloc (Nat.le_refl _) stpZ) (Nat.le_refl _)⟩
/-! ### Parents. -/
noncomputable def pOf (R:Tr) (a:Int) (c:Nm):Nm:=(par R a c).getD ByteArray.empty
theorem q_ParentG {w:World} {t m:Nat} {E:List Ch} (h:TM w t m E) (c:Nm) (a:Int):Calls Tryz.prog 34 #[ptB t,.string c,.int .i64 a] w fun e w'=>e= .returned (.tuple #[.string (pOf (trE E) a c),.bool (par (trE E) a c).isSome])∧w'=w:=by
 cases hp:par (trE E) a c with
 | some p=>unfold pOf;rw[hp];exact mq h hp
 | none=>unfold pOf;rw[hp];exact pT h hp
theorem DoS.par {R R':Tr} {s:Ax} {e a:Int} (hR:TOk R) (d:DoS R s R' e) (ha:a<s.a) (h0:0≤a) (c:Nm):par R' a c=par R a c:=by
 unfold DoS at d
 split at d
 ·cases d with
  | ok e h h1 h2=>
   subst e
   rw[qT hR.row h,if_neg (fun hh=>by have:=hh.2.2.1;omega)]
  | _=>rfl
 ·split at d
  ·cases d with
   | ok e h hs=>subst e;refine gM ?_ ?_ ?_ a c<;>rfl
   | _=>rfl
  ·split at d
   ·cases d with
    | ok e h hs ht hp=>subst e;refine gM ?_ ?_ ?_ a c<;>rfl
    | _=>rfl
   ·cases d with
    | ok hn _ _ _ _ _ _ _ _=>
     rw[iX]
     split
     ·cases hp:Go.Proofs.YtggfmklppkioeaaGreat.par R a c with
      | some z=>rfl
      | none=>simp only;rw[if_neg (by omega)]
     ·rfl
    | _=>rfl
theorem TPost.trans {w w' w'':World} {t m:Nat} {E E' E'':List Ch} (h:TPost w t m E w' E') (k:TPost w' t m E' w'' E''):TPost w t m E w'' E'':=
 ⟨k.tm,⟨k.kp.os.trans h.kp.os,k.kp.tape.trans h.kp.tape,k.kp.output.trans h.kp.output,Nat.le_trans h.kp.size k.kp.size,fun g hg hn=>(k.kp.block g (Nat.lt_of_lt_of_le hg h.kp.size) (fun hm=>(h.fp g hm).elim hn (fun h2=>absurd hg (Nat.not_lt.2 h2)))).trans (h.kp.block g hg hn)⟩,
  fun g hg=>(k.fp g hg).elim (h.fp g) (fun h2=>.inr (Nat.le_trans h.kp.size h2))⟩
theorem axOf_q {s:Stp} (hs:s.Ok):(uE s).q.ok 2:=dJ hs.x hs.u
theorem Sane.short {R:Tr} (h:Sane R) {x:Nm} (hx:bo R x):x.size≤maxLen:=by
 obtain⟨q,hq,h1 | h1⟩:=hx
 ·obtain⟨a,_,e⟩:=(h.nm q hq).1
  rw[←h1,e];unfold maxLen;exact Nat.le_trans (show(nm1 a).size≤1 from by simp[nm1,ByteArray.size]) (by decide)
 ·obtain⟨a,_,e⟩:=(h.nm q hq).2
  rw[←h1,e];unfold maxLen;exact Nat.le_trans (show(nm1 a).size≤1 from by simp[nm1,ByteArray.size]) (by decide)
end Go.Proofs.YtggfmklppkioeaaGreat
namespace Go.Proofs.YtggfmklppkioeaaGreat
set_option linter.unusedSimpArgs false
set_option linter.unusedVariables false
set_option maxRecDepth 100000
private theorem band {a b:Bool} (h:a=true) (k:b=true):(a && b)=true:=by rw[h,k];rfl
theorem iz:(Rows.frametreeAcyclicRow.wf (OpenSpec.ofChange Rows.frametreeAcyclicSpec))=true:=by kernel_rfl
theorem iC:(laidOutB Tryz.prog)=true:=by kernel_rfl
theorem iD:(mapsRowed Tryz.prog)=true:=by kernel_rfl
theorem iE:(Tryz.f6.params.all (Tryz.prog.readableRec ·))=true:=by kernel_rfl
theorem iF:(namedTie Tryz.prog Rows.frametreeAcyclicRow.named Rows.frametreeAcyclicSpec.vars)=true:=by kernel_rfl
theorem iG:((Rows.frametreeAcyclicRow.stops==[]))=true:=by kernel_rfl
theorem iH:((Tryz.prog.stops==[]))=true:=by kernel_rfl
theorem iI:((Rows.frametreeAcyclicRow.knobs==[]))=true:=by kernel_rfl
theorem iJ:((Tryz.prog.stopKnobs==[]))=true:=by kernel_rfl
theorem iK:((Rows.frametreeAcyclicRow.inPlace==Tryz.prog.inPlace 6))=true:=by kernel_rfl
theorem fF:((Rows.frametreeAcyclicRow.unfollowed==Tryz.prog.unfollowed 6))=true:=by kernel_rfl
theorem fG:((Rows.frametreeAcyclicRow.recurses==Tryz.prog.recurses 6))=true:=by kernel_rfl
theorem fH:((Rows.frametreeAcyclicRow.named==Tryz.prog.varsNamed 6))=true:=by kernel_rfl
theorem fI:((Rows.frametreeAcyclicRow.maps==(Tryz.f6.params.toList++Rows.frametreeAcyclicSpec.plain.varTypes Tryz.prog).any (Tryz.prog.mapsRec ·)))=true:=by kernel_rfl
theorem fJ:((Rows.frametreeAcyclicRow.ifaces==(Tryz.f6.params.toList++Rows.frametreeAcyclicSpec.plain.varTypes Tryz.prog).any (Tryz.prog.ifacesRec ·)))=true:=by kernel_rfl
theorem fK:((Rows.frametreeAcyclicRow.mapsOut==Tryz.prog.mapsAmong Tryz.f6.resultTypes.toList))=true:=by kernel_rfl
theorem fL:((Rows.frametreeAcyclicRow.loops==(Tryz.f6.params.toList++Rows.frametreeAcyclicSpec.plain.varTypes Tryz.prog).any (Tryz.prog.loopsFrom ·)))=true:=by kernel_rfl
theorem fM:((Rows.frametreeAcyclicRow.wideKeys==(Tryz.f6.params.toList++Rows.frametreeAcyclicSpec.plain.varTypes Tryz.prog++Tryz.f6.resultTypes.toList).any (Tryz.prog.wideKeysFrom ·)))=true:=by kernel_rfl
theorem fN:(Rows.frametreeAcyclicSpec.vars.all (Tryz.prog.varReadable ·))=true:=by kernel_rfl
theorem fO:(Tryz.f6.resultTypes.all (fun t=>Tryz.prog.readableRec t && decide (t<Tryz.prog.types.size)))=true:=by kernel_rfl
theorem fP:((Rows.frametreeAcyclicRow.ifacesOut==Tryz.f6.resultTypes.toList.any (Tryz.prog.ifacesRec ·)))=true:=by kernel_rfl
theorem fQ:((Rows.frametreeAcyclicRow.loopsOut==Tryz.f6.resultTypes.toList.any (Tryz.prog.loopsFrom ·)))=true:=by kernel_rfl
theorem fR:((Rows.frametreeAcyclicRow.plainKeys==Tryz.prog.plainKeys))=true:=by kernel_rfl
theorem fS:(Rows.frametreeAcyclicRow.shortTexts.isNone)=true:=by kernel_rfl
theorem fT:(Tryz.prog.stopsHeard)=true:=by kernel_rfl
theorem fU:(Tryz.prog.mayEnter)=true:=by kernel_rfl
theorem fV:((Rows.frametreeAcyclicRow.lifted==Tryz.prog.liftsFinal))=true:=by kernel_rfl
theorem fW:((Tryz.prog.make==some Rows.frametreeAcyclicRow.make))=true:=by kernel_rfl
theorem fX:((Rows.frametreeAcyclicRow.kinds==(if Rows.frametreeAcyclicRow.domain.isEmpty then []else Tryz.f6.params.toList.map fun t=>match Tryz.prog.underlying t with | some (.int k)=>some k | _=>none)))=true:=by kernel_rfl
theorem fY:((Rows.frametreeAcyclicRow.pinned==Rows.frametreeAcyclicRow.pinnedBy))=true:=by kernel_rfl
theorem fZ:((Rows.frametreeAcyclicRow.veiled==(Tryz.f6.params.toList++Rows.frametreeAcyclicSpec.plain.varTypes Tryz.prog++Tryz.f6.resultTypes.toList).any (Tryz.prog.veiledRec ·)))=true:=by kernel_rfl
theorem gd:(Rows.frametreeAcyclicRow.veiledFits Tryz.prog Tryz.f6.params.toList (Tryz.f6.params.toList++Rows.frametreeAcyclicSpec.plain.varTypes Tryz.prog++Tryz.f6.resultTypes.toList))=true:=by kernel_rfl
set_option maxRecDepth 100000 in
theorem eW:joinedFacts Tryz.prog 6 Tryz.f6 Rows.frametreeAcyclicSpec Rows.frametreeAcyclicRow=true:=by
 unfold joinedFacts
 exact band (band (band (band (band (band (band (band (band (band (band (band (band (band (band (band (band (band (band (band (band (band (band (band (band (band (band (band (band (band (band (iz) iC) iD) iE) iF) iG) iH) iI) iJ) iK) fF) fG) fH) fI) fJ) fK) fL) fM) fN) fO) fP) fQ) fR) fS) fT) fU) fV) fW) fX) fY) fZ) gd
end Go.Proofs.YtggfmklppkioeaaGreat
namespace Go.Proofs.YtggfmklppkioeaaGreat
set_option linter.unusedSimpArgs false
set_option linter.unusedVariables false
set_option maxRecDepth 100000
open Go.RowKit Go.MapKept
open Classical
def fw (q:Nm×Lk):List Value:=[.string q.1,.string q.2.par,.int .i64 q.2.fr,.int .i64 q.2.un]
noncomputable def cj (R:Tr) (L:List Nm):List (Nm×Lk):=L.flatMap fun c=>(lks R c).map fun x=>(c,x)
abbrev fx (w:World) (v:Value) (l:List (Nm×Lk)):Prop:=bM w 76 4 v l.length (l.flatMap fw)
theorem sO {q:Nm×Lk}:∀u∈fw q,u.oneCell'=true∧noU u:=fun u hu=>by
 simp only[fw,List.mem_cons,List.not_mem_nil,or_false]at hu
 rcases hu with rfl | rfl | rfl | rfl<;>exact⟨rfl,fun n e=>by cases e⟩
theorem lnk_app {w:World} {v:Value} {l:List (Nm×Lk)} {g:Nat} {x:Nm×Lk} {ty:TypeId} (h:fx w v l) (hl:l.length≤2000) (hg:∀j u,(fw x)[j]? =some u→w.cell? ((⟨g,0,none⟩:Addr).add j)=some u) {B:Nat} {w0:World} (hb:Below B w0 w) (hB:B≤w.heap.size) (ho:∀g,v.ownBlock=some g→B≤g):
  ∃v' w',(Builtin.append_ #[73,73] ty #[v,.slice (some ⟨g,0,none⟩) 1 1]).run Tryz.prog w= .ok v' w'∧fx w' v' (l++ [x])∧Below B w0 w'∧∀g,v'.ownBlock=some g→B≤g:=by
 obtain⟨v',w',k1,k2,k3,k4⟩:=run_appK (p:=Tryz.prog) (ty:=ty) (c:=1) (m:=1) (sz:=4) (bytes:=48) Tryz.underlying73 (by kernel_rfl) h rfl hg (fun u hu=>(sO u hu).1) (fun u hu=>(sO u hu).2) (by decide) (by omega) (by omega)
 refine⟨v',w',k1,?_,hb.grown k2 hB (fun k hk=>ho k hk),fun g hg=>(k3 g hg).elim (ho g) (fun h=>Nat.le_trans hB h)⟩
 show bM w' _ 4 v' (l++ [x]).length _
 rw[List.length_append,List.flatMap_append,show [x].flatMap fw=fw x by simp]
 exact k4
theorem E_len {E:List Ch} {w:World} {t m:Nat} (h:TM w t m E) (hS:TSm (trE E)):E.length≤24:=by
 obtain⟨n,hn,l,h1,h2,rfl⟩:=hS.cnt
 rw[←List.length_map (f:=(·.c))]
 refine Nat.le_trans (eT h.keys (fun x hx=> ?_)) hn
 obtain⟨ch,hch,rfl⟩:=List.mem_map.1 hx
 have hne:=(h.rows ch hch).ne
 obtain⟨ln,hln⟩:=List.exists_mem_of_ne_nil _ hne
 exact(h2 _).2 ⟨_,cZ.2 ⟨ch,hch,ln,hln,rfl⟩,.inl rfl⟩
theorem mu {R:Tr} (hS:TSm R):∀ {L:List Nm},(cj R L).length≤L.length*64
 | []=>Nat.zero_le _
 | c::L=>by
  have h1:=hS.per c
  have h2:=mu hS (L:=L)
  have e:cj R (c::L)=(lks R c).map (fun x=>(c,x))++cj R L:=rfl
  rw[e,List.length_append,List.length_map,List.length_cons,Nat.add_mul];omega
theorem uI (R:Tr) (L:List Nm) (c:Nm):cj R (L++ [c])=cj R L++(lks R c).map fun x=>(c,x):=by
 unfold cj;rw[List.flatMap_append];simp
theorem q_keysL {w:World} {t m:Nat} {E:List Ch} (h:TM w t m E) (hS:TSm (trE E)) (hn:∀x,bo (trE E) x→x.size≤maxLen):
  (Calls Tryz.prog 91 #[.map (some m)] w fun e w'=>e= .returned (.func (.func 154) #[] #[.pointer (some ⟨w.heap.size,0,none⟩)])∧w'=w.alloc (.cells #[.map (some m)] mpT))∧
  Calls Tryz.prog 87 #[.func (.func 154) #[] #[.pointer (some ⟨w.heap.size,0,none⟩)]] (w.alloc (.cells #[.map (some m)] mpT)) fun e w'=>∃v L,e= .returned v∧dl w' w.heap.size v L∧L.Perm (E.map (·.c))∧L.Nodup∧L.Pairwise uF∧Below w.heap.size w w':=by
 have hmx:(1000000:Nat)≤maxLen:=by unfold maxLen;omega
 have hlen:=E_len h hS
 obtain⟨D,hD,hp,hz⟩:=cF.owns (P:=Tryz.prog) (k:=9) h.mp (by kernel_rfl) (by rw[List.length_map];omega) (fun p hp=>by
  obtain⟨ch,hch,rfl⟩:=List.mem_map.1 hp
  obtain⟨ln,hln⟩:=List.exists_mem_of_ne_nil _ (h.rows ch hch).ne
  exact hn _ ⟨_,cZ.2 ⟨ch,hch,ln,hln,rfl⟩,.inl rfl⟩)
 rw[List.length_map]at hD hz
 refine⟨callsIn_wide.1 (Tryz.maps_Keys_L (some m) w),(callsIn_wide.1 (Tryz.slices_Sorted_keys_L m E.length D Re0 w hD (by omega) (by omega))).mono ?_⟩
 rintro e w' ⟨v,ss,rfl,hSS,hrow,hnil,hb⟩
 obtain⟨L,h1,h2,h3,h4,h5⟩:=mQ (cF.nodup h.mp) hp hSS
 rw[List.map_map]at h3
 refine⟨v,L,rfl,?_,h3,h4,h5,((Below.refl _ w).alloc (Nat.le_refl _) _).trans (hb.mono (by rw[asz];omega))⟩
 show w'.ownsRow w.heap.size 9 1 v L.length (L.map Value.string)
 rw[←h1,h2]
 exact ownsRow_base_a hrow (by rw[asz];omega)
set_option maxHeartbeats 2000000 in
theorem q_Links {w:World} {t m:Nat} {E:List Ch} (h:TM w t m E) (hE:Sane (trE E)):Calls Tryz.prog 35 #[ptB t] w fun e w'=>∃v L,e= .returned v∧fx w' v (cj (trE E) L)∧L.Perm (E.map (·.c))∧L.Nodup∧L.Pairwise uF∧(∀g,v.ownBlock=some g→w.heap.size≤g)∧Below w.heap.size w w':=by
 obtain⟨hk1,hk2⟩:=q_keysL h hE.sm (fun x hx=>hE.short hx)
 have hk3:=hk2.mono (show∀e w',_→∃ad n cap,∃L:List Nm,e= .returned (.slice ad n cap)∧Hid (dl w' w.heap.size (.slice ad n cap) L∧n=L.length∧L.Perm (E.map (·.c))∧L.Nodup∧L.Pairwise uF∧Below w.heap.size w w')from by
  rintro e w' ⟨v,L,rfl,h1,h2,h3,h4,h5⟩
  obtain⟨ad,cap,rfl⟩:=row_form h1
  exact⟨ad,_,cap,L,rfl,Lib.hid ⟨h1,rfl,h2,h3,h4,h5⟩⟩)
 have h1:=h.cell
 have H:=Lib.hid h
 have HS:=Lib.hid hE
 clear h hE hk2
 go_enter Tryz.func35,Tryz.ntmps35
 go_wp2_with (first
  | (go_at_call 91;refine hk1.mono ?_;rintro e w2 ⟨rfl,rfl⟩)
  | (go_at_call 87;refine hk3.mono ?_;rintro e w3 ⟨ad,n,cap,L,rfl,HR⟩))
 clear hk1 hk3
 have hn24:n≤24:=by rw[HR.out.2.1,HR.out.2.2.1.length_eq,List.length_map];exact E_len H.out HS.out.sm
 go_loopw [3,17] (fun s3 s17 wr=>∃(k:Nat),k≤n∧s17= .int .i64 (k:Int)∧Hid (fx wr s3 (cj (trE E) (L.take k)))∧Hid (∀g,s3.ownBlock=some g→w3.heap.size≤g)∧Hid (Below w3.heap.size w3 wr)) (fun _ s17 _=>n - (intOf s17).toNat)
 case atStart=>exact⟨0,Nat.zero_le _,rfl,Lib.hid (by rw[List.take_zero];exact⟨World.ownsRow_nil _ _ _ _,fun g hg=>by cases hg⟩),Lib.hid (fun g hg=>by cases hg),Lib.hid (Below.refl _ _)⟩
 case round=>
  obtain⟨k,hk,rfl,HL,HO,HB⟩:=hrel
  rcases Nat.lt_or_ge k n with hlt | hge
  ·obtain⟨c,hc⟩:∃c,L[k]? =some c:=⟨_,List.getElem?_eq_getElem (by rw[←HR.out.2.1];exact hlt)⟩
   obtain⟨g,hg,hc0⟩:=orow_at (by have:=HR.out.1;unfold dl at this;rw[←HR.out.2.1]at this;exact this) (show(L.map Value.string)[k]? =some (.string c)by rw[List.getElem?_map,hc];rfl)
   have hgl:=(row_lt HR.out.1 (g:=g) (by rw[hg];rfl)).2
   subst hg
   have hcc:wr.cell? ⟨g,k,none⟩=some (.string c):=by rw[HB.out.cell (p:=⟨g,k,none⟩) hgl];exact hc0
   have hb3:=HR.out.2.2.2.2.2
   have hT:=(H.out.below hb3).below HB.out
   cases hch:chE E c with
   | none=>
    obtain⟨ch,h2,h3⟩:=List.mem_map.1 ((HR.out.2.2.1.mem_iff).1 (List.mem_of_getElem? hc))
    exact absurd h3 (sD hch h2)
   | some ch=>
    have h4:=hT.cell
    have h5:=hT.look c
    have hCA:=hT.chAt hch
    have hm2:(ch.ls.length:Int)≤9223372036854775807:=by have:=hCA.le;have:=hCA.cap;unfold maxLen at this;omega
    have h5':(Instr.lookup mpT (.map (some m)) (.string c) false).run Tryz.prog wr= .ok (.slice (some ⟨ch.rb,0,none⟩) ch.ls.length ch.cap) wr:=by rw[h5];unfold lL;rw[hch];rfl
    have hlk:lks (trE E) c=ch.ls.map (·.x):=by rw[fu H.out.keys];unfold lsE;rw[hch];rfl
    have HLK:=Lib.hid hlk
    have HC:=Lib.hid hc
    have HCH:=Lib.hid hch
    have HLN:=Lib.hid (show∀wq:World,Below w3.heap.size w3 wq→TM wq t m E from fun wq k=>(H.out.below hb3).below k)
    have h64:=HS.out.sm.per c
    rw[hlk,List.length_map]at h64
    obtain⟨n2,hn2⟩:∃n2,n2=ch.ls.length:=⟨_,rfl⟩
    rw[←hn2]at h5' hm2 h64
    have HN2:=Lib.hid hn2
    clear h5 hCA hT hlk hc hch hn2 hb3 hc0 hgl
    go_wp2
    go_loopw [3,28] (fun s3 s28 wq=>∃(j:Nat),j≤n2∧s28= .int .i64 (j:Int)∧Hid (fx wq s3 (cj (trE E) (L.take k)++(ch.ls.take j).map fun l=>(c,l.x)))∧Hid (∀g,s3.ownBlock=some g→w3.heap.size≤g)∧Hid (Below w3.heap.size w3 wq)) (fun _ s28 _=>n2 - (intOf s28).toNat)
    case atStart=>exact⟨0,Nat.zero_le _,rfl,by rw[List.take_zero,List.map_nil,List.append_nil];exact HL,HO,HB⟩
    case round=>
     clear HL HO HB h4 h5' hcc
     obtain⟨j,hj,rfl,HL,HO,HB⟩:=hrel
     rcases Nat.lt_or_ge j n2 with hlt2 | hge
     ·obtain⟨ln,hln⟩:∃ln,ch.ls[j]? =some ln:=⟨_,List.getElem?_eq_getElem (by rw[←HN2.out];exact hlt2)⟩
      have hT:=HLN.out wr HB.out
      have hcl:=(hT.chAt HCH.out).cell hln
      have hLn:=hT.ln HCH.out (List.mem_of_getElem? hln)
      have hrg:wr.rangeAt ln.b 0 (fw (c,ln.x)):=fun i v hv=>by
       rw[Nat.zero_add]
       match i,hv with
       | 0,hv=>injection hv with hv;subst hv;exact hLn.cellv rfl
       | 1,hv=>injection hv with hv;subst hv;exact hLn.par
       | 2,hv=>injection hv with hv;subst hv;exact hLn.fr
       | 3,hv=>injection hv with hv;subst hv;exact hLn.un
       | i+4,hv=>simp[fw]at hv
      have hg1:∀(i:Nat) (u:Value),(fw (c,ln.x))[i]? =some u→(wr.alloc (.cells (fw (c,ln.x)).toArray 76)).cell? ((⟨wr.heap.size,0,none⟩:Addr).add i)=some u:=fun i u hu=>by
       rw[ck,Nat.zero_add,ba (heap_alloc_new wr _)];simpa using hu
      have hLlen:(cj (trE E) (L.take k)++(ch.ls.take j).map fun l=>(c,l.x)).length≤2000:=by
       have h1:=mu HS.out.sm (L:=L.take k)
       rw[List.length_take]at h1
       rw[List.length_append,List.length_map,List.length_take]
       omega
      obtain⟨v5,w5,hrun,hW5,hB5,hO5⟩:=lnk_app (ty:=73) (x:=(c,ln.x)) (HL.out.keep (w':=wr.alloc (.cells (fw (c,ln.x)).toArray 76)) (fun g hg=>heap_alloc_old wr _ (row_lt HL.out.1 hg).2)) hLlen hg1 (HB.out.alloc HB.out.size _) (by rw[asz];have:=HB.out.size;omega) HO.out
      have HW5:=Lib.hid (show fx w5 v5 (cj (trE E) (L.take k)++(ch.ls.take (j+1)).map fun l=>(c,l.x))by
       rw[List.take_add_one,hln,List.map_append,←List.append_assoc];exact hW5)
      have HB5:=Lib.hid hB5
      have HO5:=Lib.hid hO5
      have HRUN:=Lib.hid hrun
      have HRG:=Lib.hid hrg
      clear hW5 hB5 hO5 hg1 hrun hLlen hrg hLn hT hln HL HO HB
      generalize ln.b=lb at *
      generalize ln.x=x at *
      go_upto_region 10 with(fail)
      refine wp_region_list ?_
      refine aF rfl (v:=u3) (w':=wr) (by rfl) ?_
      refine aF rfl (v:=ptB lb) (w':=wr) (by rfl) ?_
      refine aF rfl (v:=ptB lb) (w':=wr) (by go_simp) ?_
      refine aF rfl (v:=ptB lb) (w':=wr) (by go_simp) ?_
      refine wpList_load_mid rfl _ _ rfl lb 0 rfl (fw (c,x)) _ HRG.out Tryz.underlying76 rfl (by kernel_rfl) ?_
      refine aF rfl (v:=.slice (some ⟨wr.heap.size,0,none⟩) 1 1) (w':=wr.alloc (.cells (fw (c,x)).toArray 76)) (by unfold fw;go_simp) ?_
      refine wpList_app rfl rfl rfl rfl HRUN.out ?_
      go_wp2
      go_roundw
      case rel=>exact⟨j+1,by omega,by go_num,HW5,HO5,HB5⟩
      case measure=>simp[intOf];omega
     ·obtain rfl:j=n2:=by omega
      have HL2:=Lib.hid (show fx wr u3 (cj (trE E) (L.take (k+1)))by
       have h1:=HL.out
       rw[List.take_add_one,HC.out,Option.toList_some,uI,HLK.out]
       rw[HN2.out,List.take_length]at h1
       rw[List.map_map]
       exact h1)
      clear HL
      go_wp2
      go_roundw
      case rel=>exact⟨k+1,by omega,by go_num,HL2,HO,HB⟩
      case measure=>simp[intOf];omega
  ·obtain rfl:k=n:=by omega
   have HQ:=Lib.hid (show∃v L',Ending.returned u3= .returned v∧fx wr v (cj (trE E) L')∧L'.Perm (E.map (·.c))∧L'.Nodup∧L'.Pairwise uF∧(∀g,v.ownBlock=some g→w.heap.size≤g)∧Below w.heap.size w wr from by
    obtain⟨_,h1,h2,h3,h4,h5⟩:=HR.out
    have h6:=HL.out
    rw[h1,List.take_length]at h6
    exact⟨u3,L,rfl,h6,h2,h3,h4,fun g hg=>Nat.le_trans h5.size (HO.out g hg),h5.trans (HB.out.mono h5.size)⟩)
   clear HB HL HO
   go_wp2
   go_ret
   exact HQ.out
end Go.Proofs.YtggfmklppkioeaaGreat
namespace Go.Proofs.YtggfmklppkioeaaGreat
set_option linter.unusedSimpArgs false
set_option linter.unusedVariables false
set_option maxRecDepth 100000
open Go.RowKit
open Classical
theorem flat4:∀ {l:List (Nm×Lk)} {i j:Nat} {q:Nm×Lk},l[i]? =some q→j<4→(l.flatMap fw)[i*4+j]? =(fw q)[j]?
 | [],i,j,q,h,_=>by cases h
 | p::l,0,j,q,h,hj=>by
  simp only[List.getElem?_cons_zero,Option.some.injEq]at h
  subst h
  rw[List.flatMap_cons,List.getElem?_append_left (by show 0*4+j<4;omega),Nat.zero_mul,Nat.zero_add]
 | p::l,i+1,j,q,h,hj=>by
  rw[List.flatMap_cons,List.getElem?_append_right (by show 4≤(i+1)*4+j;omega)]
  have e:(i+1)*4+j - (fw p).length=i*4+j:=by show(i+1)*4+j - 4=_;omega
  rw[e]
  exact flat4 (by simpa using h) hj
theorem pU {R:Tr} {L:List Nm} {q:Nm×Lk} (h:q∈cj R L):q∈R∧q.1∈L:=by
 obtain⟨c,hc,h⟩:=List.mem_flatMap.1 h
 obtain⟨x,hx,rfl⟩:=List.mem_map.1 h
 exact⟨ce.1 hx,hc⟩
theorem sP {R:Tr} (hR:TOk R):∀ {L:List Nm},L.Nodup→(cj R L).Pairwise fun p q=>p.1=q.1→p.2.un≠ -1∧p.2.un≤q.2.fr
 | [],_=>List.Pairwise.nil
 | c::L,h=>by
  obtain⟨h1,h2⟩:=List.nodup_cons.1 h
  have e:cj R (c::L)=(lks R c).map (fun x=>(c,x))++cj R L:=rfl
  rw[e,List.pairwise_append]
  refine⟨?_,sP hR h2,fun p hp q hq e=> ?_⟩
  ·rw[List.pairwise_map]
   refine(hR.row c).imp ?_
   intro a b h _
   exact h
  ·obtain⟨x,_,rfl⟩:=List.mem_map.1 hp
   have:=(pU hq).2
   rw[←e]at this
   exact absurd this h1
theorem end_uniq {R:Tr} {a:Int} {x y z:Nm} (h:Reach R a x y) (hy:par R a y=none) (k:Reach R a x z) (hz:par R a z=none):y=z:=by
 induction h with
 | refl=>exact k.nil hy
 | step e _ ih=>
  cases k with
  | refl=>rw[hz]at e;cases e
  | step e' t=>
   rw[e]at e';injection e' with e';subst e'
   exact ih hy t
theorem xG {R:Tr} {a:Int} {x y z:Nm} {n:Nat} (hx:bo R x) (hu:up R a n x=some y) (hy:par R a y=none) (h:vJ R a x z):z=y:=by
 rcases h with⟨h,_⟩ | ⟨_,h1,h2⟩
 ·exact absurd hx h
 ·exact end_uniq h1 h2 (oI hu) hy
theorem lk_next {R:Tr} {L:List Nm} (hR:TOk R) (hL:L.Nodup) {i:Nat} {p q:Nm×Lk} (hp:(cj R L)[i]? =some p) (hq:(cj R L)[i+1]? =some q) (e:p.1=q.1):0≤p.2.un∧p.2.un≤q.2.fr:=by
 obtain⟨h1,e1⟩:=List.getElem?_eq_some_iff.1 hp
 obtain⟨h2,e2⟩:=List.getElem?_eq_some_iff.1 hq
 have h3:=List.pairwise_iff_getElem.1 (sP hR hL) i (i+1) h1 h2 (Nat.lt_succ_self i)
 rw[e1,e2]at h3
 have h4:=h3 e
 have h5:=hR.tm p (pU (List.mem_of_getElem? hp)).1
 exact⟨by rcases h5.2.2 with h6 | h6<;>omega,h4.2⟩
end Go.Proofs.YtggfmklppkioeaaGreat
namespace Go.Proofs.YtggfmklppkioeaaGreat
set_option linter.unusedSimpArgs false
set_option linter.unusedVariables false
set_option maxRecDepth 100000
open Go.RowKit
open Classical
set_option maxHeartbeats 4000000 in
theorem xH {w:World} {v0:Value} (R0:List Stp) (hs0:∀s∈R0,s.Ok) (k0:d9 w v0 R0):
  Calls Tryz.prog 6 #[v0] w fun e w'=>e= .returned (.bool true)∧Below w.heap.size w w':=by
 obtain⟨ad0,c0,rfl,hr0⟩:=k0.row
 have haw:=lP w
 have HR0:=Lib.hid hr0
 have HO0:=Lib.hid hs0
 obtain⟨n0,hn0⟩:∃n,n=R0.length:=⟨_,rfl⟩
 rw[←hn0]
 have HN0:=Lib.hid hn0
 clear hr0 hs0 k0 hn0
 by_cases b0:60<n0
 ·have c0':decide ((60:Int)<(n0:Int))=true:=decide_eq_true (by omega)
  go_enter Tryz.func6,Tryz.ntmps6
  go_wp2_with (go_at_call 30;refine haw.mono ?_;rintro e w1 ⟨rfl,hb⟩;have HB:=Lib.hid hb;clear hb)
  go_ret
  exact⟨rfl,HB.out⟩
 have c0':decide ((60:Int)<(n0:Int))=false:=decide_eq_false (by omega)
 clear haw
 have hnew:=aan w
 have hm0:(n0:Int)≤60:=by omega
 go_enter Tryz.func6,Tryz.ntmps6
 go_wp2_with (go_at_call 31;refine hnew.mono ?_;rintro e w1 ⟨t,m,rfl,hT,h1,h2,h3⟩;have HI0:=Lib.hid (TInv.new hT h1 h2 h3);clear hnew hT h1 h2 h3)
 go_loopw [4] (fun s4 wr=>∃(k:Nat) (E:List Ch),k≤n0∧s4= .int .i64 (k:Int)∧Hid (TInv w wr t m E)) (fun s4 _=>n0 - (intOf s4).toNat)
 case atStart=>exact⟨0,_,Nat.zero_le _,rfl,HI0⟩
 case round=>
  clear HI0
  obtain⟨k,E,hk,rfl,HI⟩:=hrel
  rcases Nat.lt_or_ge k n0 with hlt | hge
  ·obtain⟨s,hs⟩:∃s,R0[k]? =some s:=⟨_,List.getElem?_eq_getElem (by rw[←HN0.out];exact hlt)⟩
   obtain⟨b,o,rfl,hb,hrg⟩:=HR0.out k s hs
   have hso:=HO0.out s (List.mem_of_getElem? hs)
   have hld:=Lib.hid (rangeAt_below hrg HI.out.bel hb)
   have hdo:=q_do HI.out.tm HI.out.sane.ok hso
   have HX:=Lib.hid (fun w' E' R' code (hP:TPost wr t m E w' E') (hR:REq (trE E') R') (hD:DoS (trE E) (uE s) R' code)=>HI.out.next hP hR hD (axOf_q hso))
   clear hs hb hrg hso
   go_upto_region 9 with(fail)
   refine wp_region_list ?_
   refine aF rfl (v:=ptB t) (w':=wr) (by rfl) ?_
   refine aF rfl (v:=.slice (some ⟨b,o,none⟩) n0 c0) (w':=wr) (by rfl) ?_
   refine aF rfl (v:=.int .i64 (k:Int)) (w':=wr) (by rfl) ?_
   refine aF rfl (v:=.pointer (some ⟨b,o+k*6,none⟩)) (w':=wr) (by go_simp) ?_
   refine wpList_load_mid rfl _ _ rfl b (o+k*6) rfl s.cs _ hld.out Tryz.underlying67 rfl (by kernel_rfl) ?_
   go_wp2_with (go_at_call 32;refine hdo.mono ?_;rintro e w2 ⟨E',R',code,rfl,hP,hR,hD⟩;have HI2:=Lib.hid (HX.out _ _ _ _ hP hR hD);clear hP hR hD)
   go_roundw
   case rel=>exact⟨k+1,E',by omega,by go_num,HI2⟩
   case measure=>simp[intOf];omega
  ·obtain rfl:k=n0:=by omega
   have hli:=(q_Links HI.out.tm HI.out.sane).mono (show∀e w',_→∃ad n cap,∃L:List Nm,e= .returned (.slice ad n cap)∧Hid (fx w' (.slice ad n cap) (cj (trE E) L)∧n=(cj (trE E) L).length∧L.Nodup∧n≤2000∧Below wr.heap.size wr w')from by
    rintro e w' ⟨v,L,rfl,h1,h2,h3,_,_,h5⟩
    obtain⟨ad,cap,rfl⟩:=row_form h1.1
    have h6:=mu HI.out.sane.sm (L:=L)
    have h7:=E_len HI.out.tm HI.out.sane.sm
    have h8:=h2.length_eq
    rw[List.length_map]at h8
    exact⟨ad,_,cap,L,rfl,Lib.hid ⟨h1,rfl,h3,by omega,h5⟩⟩)
   have hfr:∀w2,Below wr.heap.size wr w2→Calls Tryz.prog 33 #[ptB t] w2 fun e w'=>∃ad n cap,∃F:List Nm,e= .returned (.slice ad n cap)∧Hid (dl w' w2.heap.size (.slice ad n cap) F∧n=F.length∧(∀x,x∈F↔bo (trE E) x)∧n≤24∧Below w2.heap.size w2 w'):=fun w2 hb=>
    (sN (HI.out.tm.below hb) HI.out.sane.sm (fun x hx=>HI.out.sane.short hx)).mono (by
     rintro e w' ⟨v,L,rfl,h1,h4,_,_,_,h2,h3⟩
     obtain⟨ad,cap,rfl⟩:=row_form h1
     exact⟨ad,_,cap,L,rfl,Lib.hid ⟨h1,rfl,h4,h2,h3⟩⟩)
   have HFR:=Lib.hid hfr
   clear HR0 HO0 hfr HN0 hk hge
   go_wp2_with (first
    | (go_at_call 35;refine hli.mono ?_;rintro e w2 ⟨adl,nl,cpl,Ls,rfl,HL⟩;have hfr:=HFR.out w2 HL.out.2.2.2.2;have hnl:=HL.out.2.2.2.1)
    | (go_at_call 33;refine hfr.mono ?_;rintro e w3 ⟨adf,nf,cpf,Fs,rfl,HF⟩;have hnf:decide ((24:Int)<(nf:Int))=false:=(by have:=HF.out.2.2.2.1;exact decide_eq_false (by omega));clear hfr))
   have hb2:=HL.out.2.2.2.2
   have hb3:=HF.out.2.2.2.2
   have hbA:=hb2.trans (hb3.mono hb2.size)
   have hl2:∀g,Value.ownBlock (.slice adl nl cpl)=some g→g<w2.heap.size:=fun g hg=>(row_lt HL.out.1.1 hg).2
   have HT:=Lib.hid (show∀wq:World,Below w3.heap.size w3 wq→TM wq t m E from fun wq k=>(HI.out.tm.below hbA).below k)
   have HLR:=Lib.hid (show∀wq:World,Below w3.heap.size w3 wq→∀(i:Nat) (q:Nm×Lk),(cj (trE E) Ls)[i]? =some q→∃g,adl=some ⟨g,0,none⟩∧wq.rangeAt g (i*4) (fw q)from fun wq kb i q hq=>by
    have h1:=HL.out.1.1
    rw[←HL.out.2.1]at h1
    have hc:∀j u,(fw q)[j]? =some u→∃g,adl=some ⟨g,0,none⟩∧w2.cell? ⟨g,i*4+j,none⟩=some u:=fun j u hu=>orow_at h1 (by rw[flat4 hq (by have:=(List.getElem?_eq_some_iff.1 hu).1;exact this)];exact hu)
    obtain⟨g,hg,_⟩:=hc 0 _ rfl
    refine⟨g,hg,fun j u hu=> ?_⟩
    obtain⟨g',hg',h2⟩:=hc j u hu
    rw[hg]at hg';injection hg' with hg';injection hg' with hg';subst hg'
    have hlt:=hl2 g (by rw[hg];rfl)
    rw[kb.cell (p:=⟨g,_,none⟩) (Nat.lt_of_lt_of_le hlt hb3.size),hb3.cell (p:=⟨g,_,none⟩) hlt]
    exact h2)
   have HFN:=Lib.hid (show∀wq:World,Below w3.heap.size w3 wq→∀(i:Nat) (c:Nm),Fs[i]? =some c→∃g,adf=some ⟨g,0,none⟩∧wq.cell? ⟨g,i,none⟩=some (.string c)from fun wq kb i c hc=>by
    have h1:=HF.out.1
    unfold dl at h1
    rw[←HF.out.2.1]at h1
    obtain⟨g1,e1,q1⟩:=orow_at h1 (show(Fs.map Value.string)[i]? =some (.string c)by rw[List.getElem?_map,hc];rfl)
    exact⟨g1,e1,by rw[kb.cell (p:=⟨g1,i,none⟩) (row_lt h1 (g:=g1) (by rw[e1];rfl)).2];exact q1⟩)
   have HSN:=Lib.hid HI.out.sane
   have HBW:=Lib.hid (HI.out.bel.trans (hbA.mono HI.out.bel.size))
   have HNL:=Lib.hid HL.out.2.1
   have HND:=Lib.hid HL.out.2.2.1
   have HNF:=Lib.hid HF.out.2.1
   have HKN:=Lib.hid HF.out.2.2.1
   have hnl2:(nl:Int)≤2000:=by omega
   have hnf2:(nf:Int)≤24:=by have:=HF.out.2.2.2.1;omega
   clear HI HL HF hli HFR hb2 hb3 hbA hl2 hnl hnf
   go_loopw [7] (fun s7 wq=>∃(i:Nat),i≤2*nl∧s7= .int .i64 (i:Int)∧Hid (Below w3.heap.size w3 wq)) (fun s7 _=>2*nl - (intOf s7).toNat)
   case atStart=>exact⟨0,Nat.zero_le _,rfl,Lib.hid (Below.refl _ _)⟩
   case round=>
    obtain⟨i,hi,rfl,HB⟩:=hrel
    rcases Nat.lt_or_ge i (2*nl)with hlt | hge
    ·have hwi:((i:Int)<2*(nl:Int))=True:=eq_true (by omega)
     have hq2:(i:Int).tdiv 2=((i / 2:Nat):Int):=by rw[Int.tdiv_eq_ediv_of_nonneg (by omega)];omega
     have hq3:(i:Int).tmod 2=((i % 2:Nat):Int):=by rw[Int.tmod_eq_emod_of_nonneg (by omega)];omega
     have hq4:i / 2<nl:=by omega
     obtain⟨q,hq⟩:∃q,(cj (trE E) Ls)[i / 2]? =some q:=⟨_,List.getElem?_eq_getElem (by rw[←HNL.out];exact hq4)⟩
     obtain⟨g,rfl,hrg⟩:=HLR.out wr HB.out (i / 2) q hq
     have f2:wr.cell? ⟨g,i / 2*4+2,none⟩=some (.int .i64 q.2.fr):=hrg 2 _ rfl
     have f3:wr.cell? ⟨g,i / 2*4+3,none⟩=some (.int .i64 q.2.un):=hrg 3 _ rfl
     clear hrg hq
     generalize q.2.fr=fr at *
     generalize q.2.un=un at *
     generalize i / 2=i2 at *
     go_upto_if 56 with(fail)
     go_cut [8,54,55,56]from 151 (fun s8 _ _ _ wc=>∃v:Int,s8= .int .i64 v∧wc=wr)
     case first=>
      by_cases hp:i % 2=1
      ·rw[hp]at hq3
       go_wp2
       go_meet
       case rel=>exact⟨un,rfl,rfl⟩
      ·have hq5:(((i % 2:Nat):Int)==1)=false:=beq_eq_false_iff_ne.2 (by omega)
       go_wp2
       go_meet
       case rel=>exact⟨fr,rfl,rfl⟩
     case rest=>
      obtain⟨v,rfl,rfl⟩:=hcut
      clear f2 f3 hq2 hq3 hq4 hwi
      by_cases hv:v<0
      ·go_wp2
       go_roundw
       case rel=>exact⟨i+1,by omega,by go_num,HB⟩
       case measure=>simp[intOf];omega
      ·have hv':decide (v<0)=false:=decide_eq_false hv
       clear hv
       go_wp2
       go_loopw [9] (fun s9 wq=>∃(j:Nat),j≤nf∧s9= .int .i64 (j:Int)∧Hid (Below w3.heap.size w3 wq)) (fun s9 _=>nf - (intOf s9).toNat)
       case atStart=>exact⟨0,Nat.zero_le _,rfl,HB⟩
       case round=>
        clear HB
        obtain⟨j,hj,rfl,HB⟩:=hrel
        rcases Nat.lt_or_ge j nf with hlj | hge
        ·obtain⟨c,hc⟩:∃c,Fs[j]? =some c:=⟨_,List.getElem?_eq_getElem (by rw[←HNF.out];exact hlj)⟩
         obtain⟨gf,rfl,hcf⟩:=HFN.out wr HB.out j c hc
         have hkc:=(HKN.out c).1 (List.mem_of_getElem? hc)
         obtain⟨nn,y,hn23,hup,hend⟩:=xm (a:=v) HSN.out.ok HSN.out.sm hkc
         have hpa:=q_ParentG (HT.out wr HB.out) c v
         have HPG:=Lib.hid (show∀f,Calls Tryz.prog 34 #[ptB t,.string f,.int .i64 v] wr fun e w'=>e= .returned (.tuple #[.string (pOf (trE E) v f),.bool (par (trE E) v f).isSome])∧w'=wr from fun f=>q_ParentG (HT.out wr HB.out) f v)
         have hro:=(aam (HT.out wr HB.out) HSN.out.ok c v).mono (show∀e w',_→e= .returned (.string y)∧Hid (Below w3.heap.size w3 w')from by
          rintro e w' ⟨z,rfl,h1,h2⟩
          exact⟨by rw[xG hkc hup hend h1],Lib.hid (HB.out.trans (h2.mono HB.out.size))⟩)
         have HUP:=Lib.hid hup
         have HEND:=Lib.hid hend
         clear hc hkc hup hend
         generalize hp0:pOf (trE E) v c=p0 at hpa
         generalize hp1:(par (trE E) v c).isSome=p1 at hpa
         have HP0:=Lib.hid hp0
         have HP1:=Lib.hid hp1
         clear hp0 hp1
         go_wp2_with (go_at_call 34;refine hpa.mono ?_;rintro e w4 ⟨rfl,hw4⟩;obtain rfl:=hw4.symm)
         clear hpa
         go_loopg [10,11,12,13] nn (fun gk s10 s11 s12 s13 wq=>∃(f p:Nm) (b:Bool),s10= .string f∧s11= .int .i64 ((nn - gk:Nat):Int)∧s12= .string p∧s13= .bool b∧wq=wr∧Hid (up (trE E) v gk f=some y)∧Hid (pOf (trE E) v f=p)∧Hid ((par (trE E) v f).isSome=b)∧gk≤nn)
         case atStart=>exact⟨c,p0,p1,rfl,by rw[Nat.sub_self];rfl,rfl,rfl,rfl,HUP,HP0,HP1,Nat.le_refl _⟩
         case round=>
          clear HUP HP0 HP1
          obtain⟨f,p,b,rfl,rfl,rfl,rfl,hwq,HU,HPP,HBB,hgk⟩:=hrel
          obtain rfl:=hwq
          cases gk with
          | zero=>
           have e:f=y:=by have:=HU.out;simp only[up,Option.some.injEq]at this;exact this
           subst e
           have hb:b=false:=by rw[←HBB.out,HEND.out];rfl
           subst hb
           clear HU HPP HBB HEND HPG
           go_wp2_with (go_at_call 36;refine hro.mono ?_;rintro e w6 ⟨rfl,HB6⟩)
           go_roundw
           case rel=>exact⟨j+1,by omega,by go_num,HB6⟩
           case measure=>simp[intOf];omega
          | succ gk=>
           cases hpr:par (trE E) v f with
           | none=>have:=HU.out;simp only[up,hpr,Option.bind_none]at this;cases this
           | some z=>
            have hb:b=true:=by rw[←HBB.out,hpr];rfl
            have hz:p=z:=by rw[←HPP.out];unfold pOf;rw[hpr];rfl
            subst hb;subst hz
            have HU2:=Lib.hid (show up (trE E) v gk p=some y by have:=HU.out;simp only[up,hpr,Option.bind_some]at this;exact this)
            have hst:decide (((nn - (gk+1):Nat):Int)<24)=true:=decide_eq_true (by omega)
            have hpa:=HPG.out p
            obtain⟨s,hs⟩:∃s,s=nn - (gk+1):=⟨_,rfl⟩
            rw[←hs]at hst
            have hs2:nn - gk=s+1:=by omega
            have hsm:(s:Int)≤24:=by omega
            have HS2:=Lib.hid hs2
            rw[←hs]
            generalize hp0:pOf (trE E) v p=p0 at hpa
            generalize hp1:(par (trE E) v p).isSome=p1 at hpa
            have HP0:=Lib.hid hp0
            have HP1:=Lib.hid hp1
            clear hp0 hp1 hs hs2 HU HPP HBB hpr
            go_wp2_with (go_at_call 34;refine hpa.mono ?_;rintro e w4 ⟨rfl,hw4⟩;obtain rfl:=hw4.symm)
            go_roundg gk
            case measure=>omega
            case rel=>exact⟨p,p0,p1,rfl,by rw[HS2.out];go_num,rfl,rfl,by trivial,HU2,HP0,HP1,by omega⟩
        ·obtain rfl:j=nf:=by omega
         go_wp2
         go_roundw
         case rel=>exact⟨i+1,by omega,by go_num,HB⟩
         case measure=>simp[intOf];omega
    ·obtain rfl:i=2*nl:=by omega
     have hwi:(((2*nl:Nat):Int)<2*(nl:Int))=False:=eq_false (by omega)
     clear hi hge
     generalize (2*nl:Nat)=i at *
     have hnl3:nl≤2000:=by omega
     clear HFN HKN HNF
     go_wp2
     go_loopw [14] (fun s14 wq=>∃(k:Nat),(k=0∨k+1≤nl)∧s14= .int .i64 ((k:Int)+1)∧Hid (Below w3.heap.size w3 wq)) (fun s14 _=>nl+1 - (intOf s14).toNat)
     case atStart=>exact⟨0,.inl rfl,rfl,HB⟩
     case round=>
      clear hwi HB
      obtain⟨k,hk,rfl,HB⟩:=hrel
      rcases Nat.lt_or_ge (k+1) nl with hlt | hge
      ·have hlt':((k:Int)+1<(nl:Int))=True:=eq_true (by omega)
       obtain⟨p,hp⟩:∃q,(cj (trE E) Ls)[k]? =some q:=⟨_,List.getElem?_eq_getElem (by rw[←HNL.out];omega)⟩
       obtain⟨q,hq⟩:∃q,(cj (trE E) Ls)[k+1]? =some q:=⟨_,List.getElem?_eq_getElem (by rw[←HNL.out];omega)⟩
       obtain⟨g,rfl,hrg⟩:=HLR.out wr HB.out k p hp
       obtain⟨g',hg',hrg'⟩:=HLR.out wr HB.out (k+1) q hq
       injection hg' with hg';injection hg' with hg';subst hg'
       have f0:wr.cell? ⟨g,k*4,none⟩=some (.string p.1):=hrg 0 _ rfl
       have f3:wr.cell? ⟨g,k*4+3,none⟩=some (.int .i64 p.2.un):=hrg 3 _ rfl
       have h0:wr.cell? ⟨g,(k+1)*4,none⟩=some (.string q.1):=hrg' 0 _ rfl
       have h2:wr.cell? ⟨g,(k+1)*4+2,none⟩=some (.int .i64 q.2.fr):=hrg' 2 _ rfl
       have hnx:=lk_next HSN.out.ok HND.out hp hq
       have hkn:((k:Int)+1).toNat=k+1:=by omega
       clear hrg hrg' hp hq
       generalize p.1=pc at *
       generalize p.2.un=pu at *
       generalize q.1=qc at *
       generalize q.2.fr=qf at *
       by_cases he:pc=qc
       ·subst he
        obtain⟨z1,z2⟩:=hnx rfl
        have z1':decide (pu<0)=false:=decide_eq_false (by omega)
        have z2':decide (qf<pu)=false:=decide_eq_false (by omega)
        have HBD:=Lib.hid (show Below w3.heap.size w3 wr.drew from HB.out.drew)
        clear z1 z2 hnx
        go_wp2
        go_region
        go_wp2
        go_roundw
        case rel=>exact⟨k+1,.inr (by omega),by go_num,HBD⟩
        case measure=>simp[intOf];omega
       ·have hne:=aai (fun e=>he e.symm:qc≠pc)
        have HBD:=Lib.hid (show Below w3.heap.size w3 wr.drew from HB.out.drew)
        clear hnx he f3 h2
        go_wp2
        go_region
        go_wp2
        go_roundw
        case rel=>exact⟨k+1,.inr (by omega),by go_num,HBD⟩
        case measure=>simp[intOf];omega
      ·have hlt':((k:Int)+1<(nl:Int))=False:=eq_false (by omega)
       have haw:=lP wr
       have HB2:=Lib.hid (HBW.out.trans (HB.out.mono HBW.out.size))
       clear HLR HSN HND HNL HT HB HBW hge hk
       go_wp2_with (go_at_call 30;refine haw.mono ?_;rintro e w6 ⟨rfl,hb⟩;have HB6:=Lib.hid (HB2.out.trans (hb.mono HB2.out.size));clear hb)
       go_ret
       exact⟨rfl,HB6.out⟩
end Go.Proofs.YtggfmklppkioeaaGreat
