/- Facts of the program that FrametreeKeeps asks for, one by one: all at once is more than the kernel holds. Rows of the call's own; rows of steps; what steps leave of the parents. FrametreeKeeps: what happened before a time stays. -/
import Derived.Test.YtggfmklppkioeaaGreatP17
import Derived.Test.YtggfmklppkioeaaGreatRows
import Derived.WalkKit
import Derived.ProofKit
import Derived.OpenShut
import Derived.ChangeOld
import Derived.Deep.Cut
namespace Go.Proofs.YtggfmklppkioeaaGreat
set_option linter.unusedSimpArgs false
set_option linter.unusedVariables false
set_option maxRecDepth 100000
private theorem band {a b:Bool} (h:a=true) (k:b=true):(a && b)=true:=by rw[h,k];rfl
theorem kh:(Rows.frametreeKeepsRow.wf (OpenSpec.ofChange Rows.frametreeKeepsSpec))=true:=by kernel_rfl
theorem kj:(laidOutB Tryz.prog)=true:=by kernel_rfl
theorem kk:(mapsRowed Tryz.prog)=true:=by kernel_rfl
theorem km:(Tryz.f5.params.all (Tryz.prog.readableRec ·))=true:=by kernel_rfl
theorem kn:(namedTie Tryz.prog Rows.frametreeKeepsRow.named Rows.frametreeKeepsSpec.vars)=true:=by kernel_rfl
theorem ko:((Rows.frametreeKeepsRow.stops==[]))=true:=by kernel_rfl
theorem ku:((Tryz.prog.stops==[]))=true:=by kernel_rfl
theorem kv:((Rows.frametreeKeepsRow.knobs==[]))=true:=by kernel_rfl
theorem kx:((Tryz.prog.stopKnobs==[]))=true:=by kernel_rfl
theorem kA:((Rows.frametreeKeepsRow.inPlace==Tryz.prog.inPlace 5))=true:=by kernel_rfl
theorem jj:((Rows.frametreeKeepsRow.unfollowed==Tryz.prog.unfollowed 5))=true:=by kernel_rfl
theorem jk:((Rows.frametreeKeepsRow.recurses==Tryz.prog.recurses 5))=true:=by kernel_rfl
theorem jl:((Rows.frametreeKeepsRow.named==Tryz.prog.varsNamed 5))=true:=by kernel_rfl
theorem jm:((Rows.frametreeKeepsRow.maps==(Tryz.f5.params.toList++Rows.frametreeKeepsSpec.plain.varTypes Tryz.prog).any (Tryz.prog.mapsRec ·)))=true:=by kernel_rfl
theorem jn:((Rows.frametreeKeepsRow.ifaces==(Tryz.f5.params.toList++Rows.frametreeKeepsSpec.plain.varTypes Tryz.prog).any (Tryz.prog.ifacesRec ·)))=true:=by kernel_rfl
theorem jo:((Rows.frametreeKeepsRow.mapsOut==Tryz.prog.mapsAmong Tryz.f5.resultTypes.toList))=true:=by kernel_rfl
theorem jp:((Rows.frametreeKeepsRow.loops==(Tryz.f5.params.toList++Rows.frametreeKeepsSpec.plain.varTypes Tryz.prog).any (Tryz.prog.loopsFrom ·)))=true:=by kernel_rfl
theorem jq:((Rows.frametreeKeepsRow.wideKeys==(Tryz.f5.params.toList++Rows.frametreeKeepsSpec.plain.varTypes Tryz.prog++Tryz.f5.resultTypes.toList).any (Tryz.prog.wideKeysFrom ·)))=true:=by kernel_rfl
theorem jr:(Rows.frametreeKeepsSpec.vars.all (Tryz.prog.varReadable ·))=true:=by kernel_rfl
theorem jt:(Tryz.f5.resultTypes.all (fun t=>Tryz.prog.readableRec t && decide (t<Tryz.prog.types.size)))=true:=by kernel_rfl
theorem ju:((Rows.frametreeKeepsRow.ifacesOut==Tryz.f5.resultTypes.toList.any (Tryz.prog.ifacesRec ·)))=true:=by kernel_rfl
theorem jv:((Rows.frametreeKeepsRow.loopsOut==Tryz.f5.resultTypes.toList.any (Tryz.prog.loopsFrom ·)))=true:=by kernel_rfl
theorem jw:((Rows.frametreeKeepsRow.plainKeys==Tryz.prog.plainKeys))=true:=by kernel_rfl
theorem jx:(Rows.frametreeKeepsRow.shortTexts.isNone)=true:=by kernel_rfl
theorem jy:(Tryz.prog.stopsHeard)=true:=by kernel_rfl
theorem jz:(Tryz.prog.mayEnter)=true:=by kernel_rfl
theorem jA:((Rows.frametreeKeepsRow.lifted==Tryz.prog.liftsFinal))=true:=by kernel_rfl
theorem jB:((Tryz.prog.make==some Rows.frametreeKeepsRow.make))=true:=by kernel_rfl
theorem jC:((Rows.frametreeKeepsRow.kinds==(if Rows.frametreeKeepsRow.domain.isEmpty then []else Tryz.f5.params.toList.map fun t=>match Tryz.prog.underlying t with | some (.int k)=>some k | _=>none)))=true:=by kernel_rfl
theorem jD:((Rows.frametreeKeepsRow.pinned==Rows.frametreeKeepsRow.pinnedBy))=true:=by kernel_rfl
theorem jE:((Rows.frametreeKeepsRow.veiled==(Tryz.f5.params.toList++Rows.frametreeKeepsSpec.plain.varTypes Tryz.prog++Tryz.f5.resultTypes.toList).any (Tryz.prog.veiledRec ·)))=true:=by kernel_rfl
theorem jF:(Rows.frametreeKeepsRow.veiledFits Tryz.prog Tryz.f5.params.toList (Tryz.f5.params.toList++Rows.frametreeKeepsSpec.plain.varTypes Tryz.prog++Tryz.f5.resultTypes.toList))=true:=by kernel_rfl
set_option maxRecDepth 100000 in
theorem fE:joinedFacts Tryz.prog 5 Tryz.f5 Rows.frametreeKeepsSpec Rows.frametreeKeepsRow=true:=by
 unfold joinedFacts
 exact band (band (band (band (band (band (band (band (band (band (band (band (band (band (band (band (band (band (band (band (band (band (band (band (band (band (band (band (band (band (band (kh) kj) kk) km) kn) ko) ku) kv) kx) kA) jj) jk) jl) jm) jn) jo) jp) jq) jr) jt) ju) jv) jw) jx) jy) jz) jA) jB) jC) jD) jE) jF
end Go.Proofs.YtggfmklppkioeaaGreat
namespace Go.Proofs.YtggfmklppkioeaaGreat
set_option linter.unusedSimpArgs false
set_option linter.unusedVariables false
set_option maxRecDepth 100000
open Go.RowKit
open Classical
section
variable {w w':World} {b sz n j:Nat} {T:TypeId} {v u:Value} {xs:List Value} {ad:Option Addr} {cap:Nat}
theorem row_keep (h:w.ownsRow b T sz v n xs) (k:∀g,v.ownBlock=some g→w'.heap[g]? =w.heap[g]?):w'.ownsRow b T sz v n xs:=
 ⟨h.1,h.2.imp id fun⟨g,cap,cur,e,hb,hg,hr⟩=>⟨g,cap,cur,e,hb,by rw[k g (by rw[e];rfl)];exact hg,hr⟩⟩
theorem row_lt (h:w.ownsRow b T sz v n xs) {g:Nat} (hg:v.ownBlock=some g):b≤g∧g<w.heap.size:=by
 rcases h.2 with⟨rfl,_⟩ | ⟨g',cap,cur,rfl,hb,hc,_⟩
 ·cases hg
 ·have e:g'=g:=Option.some.inj hg
  subst e
  exact⟨hb,(Array.getElem?_eq_some_iff.1 hc).1⟩
theorem row_form (h:w.ownsRow b T sz v n xs):∃ad cap,v= .slice ad n cap:=by
 rcases h.2 with⟨rfl,rfl⟩ | ⟨g',cap,cur,rfl,_⟩
 ·exact⟨_,_,rfl⟩
 ·exact⟨_,_,rfl⟩
theorem orow_at (h:w.ownsRow b T sz (.slice ad n cap) n xs) (hj:xs[j]? =some u):∃g,ad=some ⟨g,0,none⟩∧w.cell? ⟨g,j,none⟩=some u:=by
 rcases h.2 with⟨e,rfl⟩ | ⟨g',cap',cur,e,_⟩
 ·have:xs=[]:=List.eq_nil_of_length_eq_zero (by rw[h.1];omega)
  subst this;cases hj
 ·injection e with e1 _ _
  subst e1
  have:=h.cells (g:=g') rfl j u hj
  rw[ck,Nat.zero_add]at this
  exact⟨g',rfl,this⟩
theorem bM.keep (h:bM w T sz v n xs) (k:∀g,v.ownBlock=some g→w'.heap[g]? =w.heap[g]?):bM w' T sz v n xs:=
 ⟨row_keep h.1 k,fun g hg=>by
  obtain⟨cs,t,h1,h2⟩:=h.2 g hg
  exact⟨cs,t,by rw[k g hg];exact h1,h2⟩⟩
theorem run_appK {p:Program} {t ty e:TypeId} {bytes:Nat} (ht:p.underlying t=some (.slice e)) (hB:wS p e sz bytes=true) (ho:bM w e sz v n xs) {a:Addr} {m c:Nat} {news:List Value} (hl:news.length=m*sz) (hnews:∀j u,news[j]? =some u→w.cell? (a.add j)=some u) (h1:∀u∈news,u.oneCell'=true) (hnu:∀u∈news,noU u)
  (hm:0<m) (hb:(n+m)*bytes≤140737488355328) (hn:n+m≤1000000000000000):
  ∃v' w',(Builtin.append_ #[t,t] ty #[v,.slice (some a) m c]).run p w= .ok v' w'∧w.grownBy w' v.ownBlock∧(∀g,v'.ownBlock=some g→v.ownBlock=some g∨w.heap.size≤g)∧bM w' e sz v' (n+m) (xs++news):=by
 unfold wS at hB
 split at hB
 ·rename_i ti hi
  simp only[Bool.and_eq_true,beq_iff_eq,decide_eq_true_eq]at hB
  obtain⟨hz,h3,h4,h5⟩:=hB
  split at hz
  ·rename_i z hz'
   simp only[Bool.and_eq_true,beq_iff_eq]at hz
   subst h3;subst h4
   obtain⟨v',w',k1,k2,_,k4,k5⟩:=nh (ty:=ty) (c:=c) ht hi hz' hz.1 h5 (fun u hu n e=>by
    have:=List.all_eq_true.1 hz.2 u hu
    subst e;exact Bool.noConfusion (show false=true from this)) ho hl hnews h1 hnu hm hb hn
   exact⟨v',w',k1,k2,k4,k5⟩
  ·cases hz
 ·cases hB
end
theorem wpList_app {P:Program} {ops:Array Oper} {rest:List Oper} {o:Oper} {a:Act} {w w':World} {v v':Value} {Q:Exit→Act→World→Prop} {s x:Operand} {t:TypeId} (hgd:o.guard=none)
  (ho:o.op= .call {callee:=.builtin .append,args:=#[s,x],argTypes:=#[t,t]}) {y:Value} (hs:a.eval s=v) (hx:a.eval x=y) (hr:(Builtin.append_ #[t,t] o.type #[v,y]).run P w= .ok v' w') (h:wpList P ops Q rest (a.put o.dst v') w'):wpList P ops Q (o::rest) a w:=
 aF hgd (by
  unfold execOp
  simp only[ho,resolve,invoke,builtin,Sem.run_bind,Sem.run_pure,Result.andThen_ok,List.map_toArray,List.map_cons,List.map_nil,hs,hx,hr]) h
theorem below_setCells {B:Nat} {a:World}:∀(vs:List Value) (o:Nat) (w:World) {b:Nat},Below B a w→B≤b→Below B a (w.setCells b o vs)
 | [],_,_,_,h,_=>h
 | v::r,o,w,b,h,hb=>by
  rw[World.setCells]
  exact below_setCells r (o+1) _ (h.setCell (p:=⟨b,o,none⟩) hb v) hb
/-! ### Rows of steps. -/
theorem d9.row {w:World} {v:Value} {R:List Stp} (h:d9 w v R):∃ad c,v= .slice ad R.length c∧∀i s,R[i]? =some s→∃b o,ad=some ⟨b,o,none⟩∧b<w.heap.size∧w.rangeAt b (o+i*6) s.cs:=by
 rcases h with⟨rfl,a,c,rfl⟩ | ⟨b,o,c,rfl,_,hb,hq⟩
 ·exact⟨a,c,rfl,fun i s hi=>by cases i<;>cases hi⟩
 ·exact⟨_,c,rfl,fun i s hi=>⟨b,o,rfl,hb,fun j u hu=>by rw[Nat.add_assoc];exact hq i s hi j u hu⟩⟩
theorem rangeAt_below {w w':World} {B b o:Nat} {cs:List Value} (h:w.rangeAt b o cs) (k:Below B w w') (hb:b<B):w'.rangeAt b o cs:=fun j v hv=>by
 rw[k.cell (p:=⟨b,_,none⟩) hb];exact h j v hv
theorem there_new {w:World} {B:Nat} {cs:Array Value} {T:TypeId} (h:w.heap[B]? =some (.cells cs T (0,0))):w.there B 0 cs.size:=fun j hj=>by
 refine⟨?_,by simp[World.frozen?,h]⟩
 rw[ba h,Nat.zero_add,Array.getElem?_eq_getElem hj];rfl
abbrev stpZ:Obj:=.cells #[.int .u8 0,.int .u8 0,.int .u8 0,.int .i16 0,.int .i8 0,.int .u8 0] 67
theorem stp_there (w:World):(w.alloc stpZ).there w.heap.size 0 6:=there_new (heap_alloc_new w stpZ)
theorem stp_one (s:Stp):s.cs.toArray.all (·.oneCell')=true:=by simp[Stp.cs,Value.oneCell']
theorem stp_store (w:World) (s:Stp):((w.alloc stpZ).setCells w.heap.size 0 s.cs).rangeAt w.heap.size 0 s.cs∧Below w.heap.size w ((w.alloc stpZ).setCells w.heap.size 0 s.cs):=
 ⟨World.rangeAt_setCells_same _ _ _ _ (stp_there w),below_setCells s.cs 0 _ ((Below.refl w.heap.size w).alloc (Nat.le_refl _) stpZ) (Nat.le_refl _)⟩
/-! ### Parents. -/
noncomputable def pOf (R:Tr) (a:Int) (c:Nm):Nm:=(par R a c).getD ByteArray.empty
theorem q_ParentG {w:World} {t m:Nat} {E:List Ch} (h:TM w t m E) (c:Nm) (a:Int):Calls Tryz.prog 34 #[ptB t,.string c,.int .i64 a] w fun e w'=>e= .returned (.tuple #[.string (pOf (trE E) a c),.bool (par (trE E) a c).isSome])∧w'=w:=by
 cases hp:par (trE E) a c with
 | some p=>unfold pOf;rw[hp];exact mq h hp
 | none=>unfold pOf;rw[hp];exact pT h hp
theorem DoS.par {R R':Tr} {s:Ax} {e a:Int} (hR:TOk R) (d:DoS R s R' e) (ha:a<s.a) (h0:0≤a) (c:Nm):par R' a c=par R a c:=by
 unfold DoS at d
 split at d
 ·cases d with
  | ok e h h1 h2=>
   subst e
   rw[qT hR.row h,if_neg (fun hh=>by have:=hh.2.2.1;omega)]
  | _=>rfl
 ·split at d
  ·cases d with
   | ok e h hs=>subst e;refine gM ?_ ?_ ?_ a c<;>rfl
   | _=>rfl
  ·split at d
   ·cases d with
    | ok e h hs ht hp=>subst e;refine gM ?_ ?_ ?_ a c<;>rfl
    | _=>rfl
   ·cases d with
    | ok hn _ _ _ _ _ _ _ _=>
     rw[iX]
     split
     ·cases hp:Go.Proofs.YtggfmklppkioeaaGreat.par R a c with
      | some z=>rfl
      | none=>simp only;rw[if_neg (by omega)]
     ·rfl
    | _=>rfl
theorem TPost.trans {w w' w'':World} {t m:Nat} {E E' E'':List Ch} (h:TPost w t m E w' E') (k:TPost w' t m E' w'' E''):TPost w t m E w'' E'':=
 ⟨k.tm,⟨k.kp.os.trans h.kp.os,k.kp.tape.trans h.kp.tape,k.kp.output.trans h.kp.output,Nat.le_trans h.kp.size k.kp.size,fun g hg hn=>(k.kp.block g (Nat.lt_of_lt_of_le hg h.kp.size) (fun hm=>(h.fp g hm).elim hn (fun h2=>absurd hg (Nat.not_lt.2 h2)))).trans (h.kp.block g hg hn)⟩,
  fun g hg=>(k.fp g hg).elim (h.fp g) (fun h2=>.inr (Nat.le_trans h.kp.size h2))⟩
theorem axOf_q {s:Stp} (hs:s.Ok):(uE s).q.ok 2:=dJ hs.x hs.u
theorem Sane.short {R:Tr} (h:Sane R) {x:Nm} (hx:bo R x):x.size≤maxLen:=by
 obtain⟨q,hq,h1 | h1⟩:=hx
 ·obtain⟨a,_,e⟩:=(h.nm q hq).1
  rw[←h1,e];unfold maxLen;exact Nat.le_trans (show(nm1 a).size≤1 from by simp[nm1,ByteArray.size]) (by decide)
 ·obtain⟨a,_,e⟩:=(h.nm q hq).2
  rw[←h1,e];unfold maxLen;exact Nat.le_trans (show(nm1 a).size≤1 from by simp[nm1,ByteArray.size]) (by decide)
end Go.Proofs.YtggfmklppkioeaaGreat
namespace Go.Proofs.YtggfmklppkioeaaGreat
set_option linter.unusedSimpArgs false
set_option linter.unusedVariables false
set_option maxRecDepth 100000
open Go.RowKit
open Classical
abbrev oW (w:World) (v:Value) (R:Tr) (a:Int) (L:List Nm):Prop:=bM w 9 1 v L.length (L.map fun c=>.string (pOf R a c))
theorem was_app {w:World} {v:Value} {R:Tr} {a:Int} {L:List Nm} {g:Nat} {x:Nm} {ty:TypeId} (h:oW w v R a L) (hl:L.length≤100) (hg:∀j u,[Value.string (pOf R a x)][j]? =some u→w.cell? ((⟨g,0,none⟩:Addr).add j)=some u) {B:Nat} {w0:World} (hb:Below B w0 w) (hB:B≤w.heap.size) (ho:∀g,v.ownBlock=some g→B≤g):
  ∃v' w',(Builtin.append_ #[68,68] ty #[v,.slice (some ⟨g,0,none⟩) 1 1]).run Tryz.prog w= .ok v' w'∧oW w' v' R a (L++ [x])∧Below B w0 w'∧∀g,v'.ownBlock=some g→B≤g:=by
 obtain⟨v',w',k1,k2,k3,k4⟩:=run_appK (p:=Tryz.prog) (ty:=ty) (c:=1) (m:=1) (sz:=1) (bytes:=16) Tryz.underlying68 (by kernel_rfl) h rfl hg (fun u hu=>by simp at hu;subst hu;rfl) (fun u hu=>by simp at hu;subst hu;intro n e;cases e) (by decide) (by omega) (by omega)
 refine⟨v',w',k1,?_,hb.grown k2 hB (fun k hk=>ho k hk),fun g hg=>(k3 g hg).elim (ho g) (fun h=>Nat.le_trans hB h)⟩
 show bM w' _ 1 v' (L++ [x]).length _
 rw[List.length_append,List.map_append]
 exact k4
set_option maxHeartbeats 4000000 in
theorem q_Keeps {w:World} {v0 v1:Value} (R0 R1:List Stp) (a:Int) (hs0:∀s∈R0,s.Ok) (hs1:∀s∈R1,s.Ok) (k0:d9 w v0 R0) (k1:d9 w v1 R1) (ha:0≤a∧a<256):
  Calls Tryz.prog 5 #[v0,v1,.int .u8 a] w fun e w'=>e= .returned (.bool true)∧Below w.heap.size w w':=by
 obtain⟨ad0,c0,rfl,hr0⟩:=k0.row
 obtain⟨ad1,c1,rfl,hr1⟩:=k1.row
 have haw:=lP w
 have HR0:=Lib.hid hr0
 have HR1:=Lib.hid hr1
 have HO0:=Lib.hid hs0
 have HO1:=Lib.hid hs1
 obtain⟨n0,hn0⟩:∃n,n=R0.length:=⟨_,rfl⟩
 obtain⟨n1,hn1⟩:∃n,n=R1.length:=⟨_,rfl⟩
 rw[←hn0,←hn1]
 have HN0:=Lib.hid hn0
 have HN1:=Lib.hid hn1
 clear hr0 hr1 hs0 hs1 k0 k1 hn0 hn1
 have hwa:IntKind.i64.wrap a=a:=by rw[IntKind.wrap_i64];omega
 have HA0:=Lib.hid ha.1
 clear ha
 by_cases b0:25<n0
 ·have c0':decide ((25:Int)<(n0:Int))=true:=decide_eq_true (by omega)
  go_enter Tryz.func5,Tryz.ntmps5
  go_wp2_with (go_at_call 30;refine haw.mono ?_;rintro e w1 ⟨rfl,hb⟩;have HB:=Lib.hid hb;clear hb)
  go_ret
  exact⟨rfl,HB.out⟩
 have c0':decide ((25:Int)<(n0:Int))=false:=decide_eq_false (by omega)
 by_cases b1:25<n1
 ·have c1':decide ((25:Int)<(n1:Int))=true:=decide_eq_true (by omega)
  go_enter Tryz.func5,Tryz.ntmps5
  go_wp2_with (go_at_call 30;refine haw.mono ?_;rintro e w1 ⟨rfl,hb⟩;have HB:=Lib.hid hb;clear hb)
  go_ret
  exact⟨rfl,HB.out⟩
 have c1':decide ((25:Int)<(n1:Int))=false:=decide_eq_false (by omega)
 clear haw
 have hnew:=aan w
 have hm0:(n0:Int)≤25:=by omega
 have hm1:(n1:Int)≤25:=by omega
 go_enter Tryz.func5,Tryz.ntmps5
 go_wp2_with (go_at_call 31;refine hnew.mono ?_;rintro e w1 ⟨t,m,rfl,hT,h1,h2,h3⟩;have HI0:=Lib.hid (TInv.new hT h1 h2 h3);clear hnew hT h1 h2 h3)
 go_loopw [8] (fun s8 wr=>∃(k:Nat) (E:List Ch),k≤n0∧s8= .int .i64 (k:Int)∧Hid (TInv w wr t m E)) (fun s8 _=>n0 - (intOf s8).toNat)
 case atStart=>exact⟨0,_,Nat.zero_le _,rfl,HI0⟩
 case round=>
  clear HI0
  obtain⟨k,E,hk,rfl,HI⟩:=hrel
  rcases Nat.lt_or_ge k n0 with hlt | hge
  ·obtain⟨s,hs⟩:∃s,R0[k]? =some s:=⟨_,List.getElem?_eq_getElem (by rw[←HN0.out];exact hlt)⟩
   obtain⟨b,o,rfl,hb,hrg⟩:=HR0.out k s hs
   have hso:=HO0.out s (List.mem_of_getElem? hs)
   have hld:=Lib.hid (rangeAt_below hrg HI.out.bel hb)
   have hdo:=q_do HI.out.tm HI.out.sane.ok hso
   have HX:=Lib.hid (fun w' E' R' code (hP:TPost wr t m E w' E') (hR:REq (trE E') R') (hD:DoS (trE E) (uE s) R' code)=>HI.out.next hP hR hD (axOf_q hso))
   clear hs hb hrg hso
   go_upto_region 9 with(fail)
   refine wp_region_list ?_
   refine aF rfl (v:=ptB t) (w':=wr) (by rfl) ?_
   refine aF rfl (v:=.slice (some ⟨b,o,none⟩) n0 c0) (w':=wr) (by rfl) ?_
   refine aF rfl (v:=.int .i64 (k:Int)) (w':=wr) (by rfl) ?_
   refine aF rfl (v:=.pointer (some ⟨b,o+k*6,none⟩)) (w':=wr) (by go_simp) ?_
   refine wpList_load_mid rfl _ _ rfl b (o+k*6) rfl s.cs _ hld.out Tryz.underlying67 rfl (by kernel_rfl) ?_
   go_wp2_with (go_at_call 32;refine hdo.mono ?_;rintro e w2 ⟨E',R',code,rfl,hP,hR,hD⟩;have HI2:=Lib.hid (HX.out _ _ _ _ hP hR hD);clear hP hR hD)
   go_roundw
   case rel=>exact⟨k+1,E',by omega,by go_num,HI2⟩
   case measure=>simp[intOf];omega
  ·obtain rfl:k=n0:=by omega
   have hfr:=(sN HI.out.tm HI.out.sane.sm (fun x hx=>HI.out.sane.short hx)).mono (show∀e w',_→∃ad n cap,∃L:List Nm,e= .returned (.slice ad n cap)∧Hid (dl w' wr.heap.size (.slice ad n cap) L∧n=L.length∧L.length≤24∧Below wr.heap.size wr w')from by
    rintro e w' ⟨v,L,rfl,h1,_,_,_,_,h2,h3⟩
    obtain⟨ad,cap,rfl⟩:=row_form h1
    exact⟨ad,_,cap,L,rfl,Lib.hid ⟨h1,rfl,h2,h3⟩⟩)
   go_wp2_with (go_at_call 33;refine hfr.mono ?_;rintro e w2 ⟨adf,nf,cpf,L,rfl,HF⟩;have HI2:=Lib.hid (HI.out.below HF.out.2.2.2))
   clear hfr HR0 HO0
   have hnf:(nf:Int)≤24:=by rw[HF.out.2.1];have:=HF.out.2.2.1;omega
   go_loopw [10,11] (fun s10 s11 wq=>∃(j:Nat),j≤nf∧s11= .int .i64 (j:Int)∧Hid (oW wq s10 (trE E) a (L.take j))∧Hid (∀g,s10.ownBlock=some g→w2.heap.size≤g)∧Hid (Below w2.heap.size w2 wq)) (fun _ s11 _=>nf - (intOf s11).toNat)
   case atStart=>exact⟨0,Nat.zero_le _,rfl,Lib.hid (by rw[List.take_zero];exact⟨World.ownsRow_nil _ _ _ _,fun g hg=>by cases hg⟩),Lib.hid (fun g hg=>by cases hg),Lib.hid (Below.refl _ _)⟩
   case round=>
    obtain⟨j,hj,rfl,HW,HO,HB⟩:=hrel
    rcases Nat.lt_or_ge j nf with hlt | hge
    ·obtain⟨c,hc⟩:∃c,L[j]? =some c:=⟨_,List.getElem?_eq_getElem (by rw[←HF.out.2.1];exact hlt)⟩
     obtain⟨g,hg,hc0⟩:=orow_at (by have:=HF.out.1;unfold dl at this;rw[←HF.out.2.1]at this;exact this) (show(L.map Value.string)[j]? =some (.string c)by rw[List.getElem?_map,hc];rfl)
     have hgl:=(row_lt HF.out.1 (g:=g) (by rw[hg];rfl)).2
     subst hg
     have hcc:wr.cell? ⟨g,j,none⟩=some (.string c):=by rw[HB.out.cell (p:=⟨g,j,none⟩) hgl];exact hc0
     have hpa:=q_ParentG (HI2.out.tm.below HB.out) c a
     obtain⟨x,hx⟩:∃x,pOf (trE E) a c=x:=⟨_,rfl⟩
     obtain⟨y,hy⟩:∃y,(par (trE E) a c).isSome=y:=⟨_,rfl⟩
     rw[hx,hy]at hpa
     have HX:=Lib.hid hx
     have HC:=Lib.hid hc
     clear hx hy hc hc0 hgl
     go_upto_region 16 with(go_at_call 34;refine hpa.mono ?_;rintro e w3 ⟨rfl,hw3⟩;obtain rfl:=hw3.symm)
     refine wp_region_list ?_
     have hg1:∀(i:Nat) (u:Value),[Value.string (pOf (trE E) a c)][i]? =some u→(wr.alloc (.cells #[.string x] 9)).cell? ((⟨wr.heap.size,0,none⟩:Addr).add i)=some u:=fun i u hu=>by
      rw[ck,Nat.zero_add,ba (heap_alloc_new wr _)]
      rw[HX.out]at hu
      cases i with
      | zero=>simpa using hu
      | succ i=>simp at hu
     obtain⟨v5,w5,hrun,hW5,hB5,hO5⟩:=was_app (ty:=68) (x:=c) (HW.out.keep (w':=wr.alloc (.cells #[.string x] 9)) (fun g hg=>heap_alloc_old wr _ (row_lt HW.out.1 hg).2)) (by rw[List.length_take];omega) hg1 (HB.out.alloc HB.out.size _) (by rw[asz];have:=HB.out.size;omega) HO.out
     have HW5:=Lib.hid (show oW w5 v5 (trE E) a (L.take (j+1))by rw[List.take_add_one,HC.out];exact hW5)
     have HB5:=Lib.hid hB5
     have HO5:=Lib.hid hO5
     have HRUN:=Lib.hid hrun
     clear hW5 hB5 hO5 hg1 hrun hpa hcc
     refine aF rfl (v:=u10) (w':=wr) (by rfl) ?_
     refine aF rfl (v:=.string x) (w':=wr) (by rfl) ?_
     refine aF rfl (v:=.slice (some ⟨wr.heap.size,0,none⟩) 1 1) (w':=wr.alloc (.cells #[.string x] 9)) (by go_simp) ?_
     refine wpList_app rfl rfl rfl rfl HRUN.out ?_
     go_wp2
     go_roundw
     case rel=>exact⟨j+1,by omega,by go_num,HW5,HO5,HB5⟩
     case measure=>simp[intOf];omega
    ·obtain rfl:j=nf:=by omega
     have HW2:oW wr u10 (trE E) a L:=by have:=HW.out;rw[HF.out.2.1,List.take_length]at this;exact this
     obtain⟨adw,cpw,ew⟩:=row_form HW2.1
     rw[←HF.out.2.1]at ew
     subst ew
     have HI3:=HI2.out.below HB.out
     have HKR:=Lib.hid (show∀(wq:World) (E':List Ch),TPost wr t m E wq E'→∀(i:Nat) (c:Nm),L[i]? =some c→(∃g,adf=some ⟨g,0,none⟩∧wq.cell? ⟨g,i,none⟩=some (.string c))∧∃g,adw=some ⟨g,0,none⟩∧wq.cell? ⟨g,i,none⟩=some (.string (pOf (trE E) a c))from fun wq E' hP i c hc=>by
      have h1:=HF.out.1
      have h2:=HW2.1
      unfold dl at h1
      rw[←HF.out.2.1]at h1 h2
      obtain⟨g1,e1,q1⟩:=orow_at h1 (show(L.map Value.string)[i]? =some (.string c)by rw[List.getElem?_map,hc];rfl)
      obtain⟨g2,e2,q2⟩:=orow_at h2 (show(L.map fun c=>Value.string (pOf (trE E) a c))[i]? =some (.string (pOf (trE E) a c))by rw[List.getElem?_map,hc];rfl)
      have l1:=row_lt h1 (g:=g1) (by rw[e1];rfl)
      have l2:=row_lt h2 (g:=g2) (by rw[e2];rfl)
      have l3:=HO.out g2 (by rw[e2];rfl)
      have hsz:=HB.out.size
      refine⟨⟨g1,e1,?_⟩,g2,e2,?_⟩
      ·rw[hP.cell (fun hm=>by have:=HI.out.tm.lt _ hm;omega) (by omega),HB.out.cell (p:=⟨g1,i,none⟩) l1.2];exact q1
      ·rw[hP.cell (fun hm=>by have:=HI2.out.tm.lt _ hm;omega) l2.2];exact q2)
     have HP3:=Lib.hid (TPost.refl HI3.tm (Below.refl _ wr))
     have HJ3:=Lib.hid HI3
     have HNL:=Lib.hid HF.out.2.1
     obtain⟨wC,hwC⟩:∃wC,wC=wr:=⟨_,rfl⟩
     rw[←hwC]at HKR HP3
     have HWC:=Lib.hid hwC
     clear HW2 HW HO HB HF HI HI2 hwC HI3
     clear HN0 hk hge
     go_wp2
     go_loopw [14] (fun s14 wq=>∃(i:Nat) (E':List Ch),i≤n1∧s14= .int .i64 (i:Int)∧Hid (TInv w wq t m E')∧Hid (TPost wC t m E wq E')∧Hid (∀c,par (trE E') a c=par (trE E) a c)) (fun s14 _=>n1 - (intOf s14).toNat)
     case atStart=>exact⟨0,E,Nat.zero_le _,rfl,HJ3,by rw[←HWC.out];exact HP3,Lib.hid (fun _=>rfl)⟩
     case round=>
      clear HJ3 HP3
      obtain⟨i,E',hi,rfl,HI,HP,HPA⟩:=hrel
      rcases Nat.lt_or_ge i n1 with hlt | hge
      ·obtain⟨s,hs⟩:∃s,R1[i]? =some s:=⟨_,List.getElem?_eq_getElem (by rw[←HN1.out];exact hlt)⟩
       obtain⟨b,o,rfl,hb,hrg⟩:=HR1.out i s hs
       have hso:=HO1.out s (List.mem_of_getElem? hs)
       have hld:=Lib.hid (rangeAt_below hrg HI.out.bel hb)
       clear hs hb hrg
       go_upto_region 20 with(fail)
       refine wp_region_list ?_
       refine aF rfl (v:=.slice (some ⟨b,o,none⟩) n1 c1) (w':=wr) (by rfl) ?_
       refine aF rfl (v:=.int .i64 (i:Int)) (w':=wr) (by rfl) ?_
       refine aF rfl (v:=.pointer (some ⟨b,o+i*6,none⟩)) (w':=wr) (by go_simp) ?_
       refine wpList_load_mid rfl _ _ rfl b (o+i*6) rfl s.cs _ hld.out Tryz.underlying67 rfl (by kernel_rfl) ?_
       refine aF rfl (v:=.pointer (some ⟨wr.heap.size,0,none⟩)) (w':=wr.alloc (.cells #[.int .u8 0,.int .u8 0,.int .u8 0,.int .i16 0,.int .i8 0,.int .u8 0] 67)) (by go_simp) ?_
       obtain⟨hrg,hbb⟩:=stp_store wr s
       refine wpList_store_mid rfl _ _ _ rfl wr.heap.size 0 s.cs.toArray rfl rfl (stp_there wr) (by kernel_rfl) (stp_one s) ?_
       change wpList _ _ _ _ _ ((wr.alloc stpZ).setCells wr.heap.size 0 s.cs)
       generalize (wr.alloc stpZ).setCells wr.heap.size 0 s.cs=w4 at hrg hbb⊢
       have f3:w4.cell? ⟨wr.heap.size,3,none⟩=some (.int .i16 s.a):=hrg 3 _ rfl
       have hws:IntKind.i64.wrap s.a=s.a:=by have:=hso.a;rw[IntKind.wrap_i64];omega
       have hdo:=q_do (HI.out.tm.below hbb) HI.out.sane.ok hso
       have HYtggfmklppkioeaaGreat:=Lib.hid (show a<s.a→∀(w':World) (E'':List Ch) (R':Tr) (code:Int),TPost w4 t m E' w' E''→REq (trE E'') R'→DoS (trE E') (uE s) R' code→TInv w w' t m E''∧TPost wC t m E w' E''∧∀c,par (trE E'') a c=par (trE E) a c from fun hlt w' E'' R' code hQ hR hD=>
        ⟨(HI.out.below hbb).next hQ hR hD (axOf_q hso),HP.out.trans (hQ.pre hbb HI.out.tm),fun c=>by rw[hR.par,DoS.par HI.out.sane.ok hD hlt HA0.out,HPA.out]⟩)
       have HI4:=Lib.hid (HI.out.below hbb)
       have HP4:=Lib.hid (HP.out.trans (TPost.refl HI.out.tm hbb))
       have HRG:=Lib.hid hrg
       obtain⟨B,hB⟩:∃B,wr.heap.size=B:=⟨_,rfl⟩
       rw[hB]at f3 HRG⊢
       clear hrg hbb hso hld HI HP hB
       by_cases hsa:s.a≤a
       ·clear hdo HYtggfmklppkioeaaGreat
        go_wp2
        go_roundw
        case rel=>exact⟨i+1,E',by omega,by go_num,HI4,HP4,HPA⟩
        case measure=>simp[intOf];omega
       ·have hsa':decide (s.a≤a)=false:=decide_eq_false hsa
        have HLT:=Lib.hid (show a<s.a by omega)
        clear hsa
        go_upto_region 22 with(fail)
        refine wp_region_list ?_
        refine aF rfl (v:=ptB t) (w':=w4) (by rfl) ?_
        refine wpList_load_mid rfl _ _ rfl B 0 rfl s.cs _ HRG.out Tryz.underlying67 rfl (by kernel_rfl) ?_
        go_wp2_with (go_at_call 32;refine hdo.mono ?_;rintro e w5 ⟨E'',R',code,rfl,hP,hR,hD⟩;have HQ:=Lib.hid (HYtggfmklppkioeaaGreat.out HLT.out _ _ _ _ hP hR hD);clear hP hR hD)
        go_roundw
        case rel=>exact⟨i+1,E'',by omega,by go_num,Lib.hid HQ.out.1,Lib.hid HQ.out.2.1,Lib.hid HQ.out.2.2⟩
        case measure=>simp[intOf];omega
      ·obtain rfl:i=n1:=by omega
       have HKK:=Lib.hid (HKR.out _ _ HP.out)
       clear HR1 HKR HP HWC HN1 hi hge HO1
       go_wp2
       go_loopw [16] (fun s16 wq=>∃(i:Nat),i≤j∧s16= .int .i64 (i:Int)∧wq=wr) (fun s16 _=>j - (intOf s16).toNat)
       case atStart=>exact⟨0,Nat.zero_le _,rfl,rfl⟩
       case round=>
        obtain⟨i2,hi2,rfl,rfl⟩:=hrel
        rcases Nat.lt_or_ge i2 j with hlt | hge
        ·obtain⟨c,hc⟩:∃c,L[i2]? =some c:=⟨_,List.getElem?_eq_getElem (by rw[←HNL.out];exact hlt)⟩
         obtain⟨⟨g1,hg1,q1⟩,g2,hg2,q2⟩:=HKK.out i2 c hc
         subst hg1;subst hg2
         have hpa:=q_ParentG HI.out.tm c a
         rw[show pOf (trE E') a c=pOf (trE E) a c by unfold pOf;rw[HPA.out]]at hpa
         clear hc
         generalize pOf (trE E) a c=x at *
         generalize (par (trE E') a c).isSome=y at *
         go_wp2_with (go_at_call 34;refine hpa.mono ?_;rintro e w3 ⟨rfl,hw3⟩;obtain rfl:=hw3.symm)
         go_roundw
         case rel=>exact⟨i2+1,by omega,by go_num,by trivial⟩
         case measure=>simp[intOf];omega
        ·have haw:=lP wr
         have HB:=Lib.hid HI.out.bel
         clear HKK HI HPA
         obtain rfl:i2=j:=by omega
         go_wp2_with (go_at_call 30;refine haw.mono ?_;rintro e w6 ⟨rfl,hb⟩;have HB6:=Lib.hid (HB.out.trans (hb.mono HB.out.size));clear hb)
         go_ret
         exact⟨rfl,HB6.out⟩
end Go.Proofs.YtggfmklppkioeaaGreat
