/- Steps in worlds that lie above one: what is loaded is told by facts about that one world; steps find field, index, load, length and comparison themselves. Variables that a walk makes. Tracks in memory, read by steps that find themselves: place. Tracks in memory: Len, Span, what lies around a time. Trees of frames: Fixed. Tracks in memory: the pose at a time. Whether a pose is valid, answered by both. Tracks in memory: what Add changes. Tracks in memory: Add. Trees of frames: what steps do; they keep trees. What arguments of the type []roboticslaw28.Step are: rows of steps. Trees of frames: names and steps of the statements; no tree. -/
import Derived.Test.YtggfmklppkioeaaGreatP13
import Derived.Deep.Cut
import Derived.Laws.ResultCell
namespace Go.Proofs.YtggfmklppkioeaaGreat
set_option linter.unusedSimpArgs false
set_option linter.unusedVariables false
set_option maxRecDepth 100000
open Go.RowKit
open _root_.Go.RowKit renaming Below → AG
open _root_.Go renaming Calls → AH,Exit → Bf,Operand → AZ,Program → A0,all_oneCell_toArray → EC,bodyPost_ret → A6,heap_alloc_new → BE,results_tmp → B9,results_tmp3 → CP,wpList_load_mid → EY,wpList_plain → Ck,wp_block → AY,wp_exit → CO,wp_region_list → CC,wp_ret → Bk,wp_seq → AP,wp_skip → Bm
open _root_.Array renaming getElem?_eq_some_iff → A8
open _root_.Go.RowKit.Below renaming refl → AL
open _root_.Bool renaming eq_false_iff → EM
open _root_.Go.Code renaming region → Dc
open _root_.Go.DataW renaming trod_int → EU
open _root_.Go.Ending renaming returned → A4
open _root_.Go.Exit renaming inBlock → D4
open _root_.Go.Instr renaming fieldAt → Ei,loadAt → CN,slice → DY,storeAt → EH,sureAddr → Ej
open _root_.Go.Lib renaming hid → AF
open _root_.List renaming getElem?_eq_getElem → AU,getElem?_eq_some_iff → A5,getElem?_map → BB,getElem?_of_mem → DH,getElem?_range → D8,getElem_of_mem → BN,length_cons → Bz,length_drop → Cv,length_map → Cf,mem_append → AJ,mem_cons → A3,mem_cons_self → Bj,mem_of_getElem? → Bb,range → BO,size_toArray → Cc
open _root_.Nat renaming add_assoc → CX,le_refl → AK,le_trans → AI,lt_of_lt_of_le → Bt,zero_add → Bh,zero_le → Bc
open _root_.Option renaming map_some → BF
open _root_.Go.Region renaming ready → BV,wanted → A7
open _root_.Go.Result renaming andThen → AX
open _root_.Go.Sem renaming run_bind → AO,run_pure → BC
open _root_.Go.Proofs.Tryz renaming func186 → Et,prog → AE,underlying120 → D3,underlying39 → C7,underlying5 → DJ
open _root_.Go.Value renaming int → AW
open _root_.Go.World renaming frozen? → Dg
def LdB(w0:World)(t:TypeId)(p v:Value):Prop:=∀w,AG w0.heap.size w0 w->(CN t p).run AE w= .ok v w
structure Bx(R:Prop):Prop where
 out:R
def fldO(p:A0)(t:TypeId)(i:Nat):Option Nat:=match fldB p t i with
 | some (off,_+1)=>some off
 | _=>none
def cpI(op:BinOp)(i j:Int):Bool->Prop
 | true=>match op with | .lss=>i<j | .leq=>i<=j | .gtr=>j<i | .geq=>j<=i | .eql=>i=j | .neq=>i≠j | _=>False
 | false=>match op with | .lss=>j<=i | .leq=>j<i | .gtr=>i<=j | .geq=>i<j | .eql=>i≠j | .neq=>i=j | _=>False
section
variable {w0 w w1:World} {t e s:TypeId} {p v vx vy:Value} {n d i k m c z off b o' j:Nat} {o oj:Oper} {l:List (Nat×Value)} {a:Act} {x y:AZ} {ops:Array Oper} {rest:List Oper} {Q:Bf->Act->World->Prop}
theorem LdB.mono(h:LdB w0 t p v)(hb:AG w0.heap.size w0 w1):LdB w1 t p v:=λw k=>h w (hb.trans (k.mono hb.size))
theorem LdB.one(ht:vU AE t=some false)(hb:b<w0.heap.size)(hc:w0.cell? ⟨b,k,none⟩=some v):LdB w0 t (.pointer (some ⟨b,k,none⟩)) v:=λw h=>by
 have:=nJ (p:=AE) (w:=w) (ad:=⟨b,k,none⟩) (v:=v) ((h.cell hb).trans hc);simp[CN,Ej,loadVar,AO,iI ht,this,AX]
theorem LdB.row{cs:List Value}{D:TypeDesc}(H:AE.underlying t=some D)(C:D.isRow=true)(hi:(AE.info? t).map (·.size)=some cs.length)(hb:b<w0.heap.size)(hc:w0.rangeAt b k cs):LdB w0 t (.pointer (some ⟨b,k,none⟩)) (.agg cs.toArray):=λw h=>
 run_loadAt_mid w b k t cs D (λj v G=>(h.cell hb).trans (hc j v G)) H C hi
theorem aa6(G:Kn n l a)(H:o.op= .load t x)(I:evK l x=some vx)(C:LdB w0 t vx v)(hb:AG w0.heap.size w0 w):(execOp a.eval o).run AE w= .ok (.value v) w:=jG G H I (C w hb)
theorem run_fo(hf:fldO AE t i=some off):(Ei t (.pointer (some ⟨b,o',none⟩)) i).run AE w= .ok (.pointer (some ⟨b,o'+off,none⟩)) w:=by
 unfold fldO at hf;split at hf
 ·rename_i h;injection hf with hf;subst hf;unfold fldB at h;split at h
  ·rename_i I H;split at h
   ·rename_i C G
    cases hz:szB AE C.type with
    | none=>rw[hz]at h;cases h
    | some k=>
     rw[hz]at h;simp only[BF,Option.some.injEq,Prod.mk.injEq]at h;obtain⟨rfl,rfl⟩:=h;simp[Ei,Ej,fieldPlace,AO,run_underlying H,G,ba hz,AX,cE]
   ·cases h
  ·cases h
 ·cases hf
theorem aa7(C:Kn n l a)(G:o.op= .fieldAddr t x i)(H:evK l x=some (.pointer (some ⟨b,o',none⟩)))(hf:fldO AE t i=some off):(execOp a.eval o).run AE w= .ok (.value (.pointer (some ⟨b,o'+off,none⟩))) w:=xO C G H (run_fo hf)
variable{g:Int}
theorem kx_io(C:Kn n l a)(G:o.op= .indexAddr t x y)(I:evK l x=some (.slice (some ⟨b,o',none⟩) m c))(hy:evK l y=some (.int .i64 g))(H:AE.underlying t=some (.slice e))(hz:szB AE e=some z)(h:0<=g/\g<(m:Int)):(execOp a.eval o).run AE w= .ok (.value (.pointer (some ⟨b,o'+g.toNat*z,none⟩))) w:=
 xN C G I hy (by simp[Instr.indexAt,asIntOf,AO,run_underlying H,ba hz,AX,h,cE])
variable{op:BinOp}{h:Int}
theorem uU{C:IntKind}{r:Bool}(G:Kn n l a)(H:o.op= .binOp op t x y s)(I:evK l x=some (.int C g))(hy:evK l y=some (.int C h))(hc:cpI op g h r):(execOp a.eval o).run AE w= .ok (.value (.bool r)) w:=by
 refine xM G H I hy ?_;cases op<;>cases r<;>simp only[cpI]at hc<;>first | (exact hc.elim) | (simp[eqGuard,binOp,Op.intCmp,AO,AX];first | omega | (subst hc;simp) | simp[hc])
theorem kx_np{A:Addr}(G:Kn n l a)(H:o.op= .binOp .eql t x y s)(I:evK l x=some (.pointer (some A)))(hy:evK l y=some (.pointer none))(C:AE.underlying t=some (.pointer e)):(execOp a.eval o).run AE w= .ok (.value (.bool false)) w:=
 xM G H I hy (by simp[eqGuard,binOp,AO,run_eqPN C,AX])
theorem kx_len{A:Option Addr}(C:Kn n l a)(G:o.op= .call {callee:=.builtin .len,args:=#[x],argTypes:=#[t]})(I:evK l x=some (.slice A m c))(H:AE.underlying t=some (.slice e)):(execOp a.eval o).run AE w= .ok (.value (.int .i64 (m:Int))) w:=by
 have h1:=C.evx I;unfold execOp;simp only[G,resolve,invoke,builtin,AO,BC,Result.andThen_ok,List.map_toArray,List.map_cons,List.map_nil,h1];simp[Builtin.len_,AO,run_underlying H,AX,goInt]
theorem vS(G:Kn n l a)(h:∀ {a'},Kn n ((d,v)::l) a'->wpList AE ops Q rest a' w)(C:o.dst=some d:=by rfl)(hn:d<n:=by decide)(H:A7 o (yielded ops a.tmps)=true:=by first | exact eX rfl | exact e8 (by assumption) rfl rfl rfl rfl)
  (hy:(execOp a.eval o).run AE w= .ok (.value v) w:=by first | exact fU (by assumption) rfl rfl | exact aa7 (by assumption) rfl rfl rfl | exact aa6 (by assumption) rfl rfl (by assumption) (by assumption) | exact jF (by assumption) rfl rfl | exact kR (by assumption) rfl rfl | exact aa4 (by assumption) rfl rfl rfl | exact kx_len (by assumption) rfl rfl rfl | exact kx_io (by assumption) rfl rfl rfl rfl rfl (by omega) | exact kx_ex (by assumption) rfl rfl rfl | exact aa5 (by assumption) rfl rfl | exact uU (r:=true) (by assumption) rfl rfl rfl (by first | exact rfl | (simp only[cpI];omega)) | exact uU (r:=false) (by assumption) rfl rfl rfl (by first | exact rfl | (simp only[cpI];omega)) | exact kx_np (by assumption) rfl rfl rfl rfl):wpList AE ops Q (o::rest) a w:=wl H G C hn hy λ_=>h
variable{K:Act->Prop}
theorem uS(H:Kn n l a)(h:∀ {a'},Kn n ((d,v)::l) a'->wpQuiet AE ops (λw=>AG w0.heap.size w0 w) K rest a')(G:o.dst=some d:=by rfl)(hn:d<n:=by decide)(C:A7 o (yielded ops a.tmps)=true:=by first | exact eX rfl | exact e8 (by assumption) rfl rfl rfl rfl)
  (hy:∀w,AG w0.heap.size w0 w->(execOp a.eval o).run AE w= .ok (.value v) w:=by intro w C;first | exact fU (by assumption) rfl rfl | exact aa7 (by assumption) rfl rfl rfl | exact aa6 (by assumption) rfl rfl (by assumption) C | exact jF (by assumption) rfl rfl | exact kR (by assumption) rfl rfl | exact aa4 (by assumption) rfl rfl rfl | exact kx_len (by assumption) rfl rfl rfl | exact kx_io (by assumption) rfl rfl rfl rfl rfl (by omega) | exact kx_ex (by assumption) rfl rfl rfl | exact aa5 (by assumption) rfl rfl | exact uU (r:=true) (by assumption) rfl rfl rfl (by first | exact rfl | (simp only[cpI];omega)) | exact uU (r:=false) (by assumption) rfl rfl rfl (by first | exact rfl | (simp only[cpI];omega))):wpQuiet AE ops (λw=>AG w0.heap.size w0 w) K (o::rest) a:=wq C H G hn v hy λ_=>h
theorem vN(C:Kn n l a)(r:Int)(H:∀ {a'},Kn n ((d,.int .i64 r)::l) a'->wpList AE ops Q rest a' w)(G:o.dst=some d:=by rfl)(hn:d<n:=by decide)(J:A7 o (yielded ops a.tmps)=true:=by first | exact eX rfl | exact e8 (by assumption) rfl rfl rfl rfl)(I:o.op= .binOp op 3 x y s:=by rfl)(K:evK l x=some (.int .i64 g):=by rfl)(hy:evK l y=some (.int .i64 h):=by rfl)
  (hr:((op= .add/\r=g+h)\/(op= .sub/\r=g - h))/\ -9223372036854775808<=r/\r<9223372036854775808:=by constructor<;>first | exact .inl ⟨rfl,by omega⟩ | exact .inr ⟨rfl,by omega⟩ | omega):wpList AE ops Q (o::rest) a w:=wl J C G hn (xM C I K hy (by
   obtain⟨⟨rfl,e⟩ | ⟨rfl,e⟩,h1,h2⟩:=hr
   ·exact rk e h1 h2
   ·exact fV e h1 h2)) λ_=>H
theorem uN(C:Kn n l a)(r:Int)(H:∀ {a'},Kn n ((d,.int .i64 r)::l) a'->wpQuiet AE ops (λw=>AG w0.heap.size w0 w) K rest a')(G:o.dst=some d:=by rfl)(hn:d<n:=by decide)(J:A7 o (yielded ops a.tmps)=true:=by first | exact eX rfl | exact e8 (by assumption) rfl rfl rfl rfl)(I:o.op= .binOp op 3 x y s:=by rfl)(P:evK l x=some (.int .i64 g):=by rfl)(hy:evK l y=some (.int .i64 h):=by rfl)
  (hr:((op= .add/\r=g+h)\/(op= .sub/\r=g - h))/\ -9223372036854775808<=r/\r<9223372036854775808:=by constructor<;>first | exact .inl ⟨rfl,by omega⟩ | exact .inr ⟨rfl,by omega⟩ | omega):wpQuiet AE ops (λw=>AG w0.heap.size w0 w) K (o::rest) a:=wq J C G hn _ (λw _=>xM C I P hy (by
   obtain⟨⟨rfl,e⟩ | ⟨rfl,e⟩,h1,h2⟩:=hr
   ·exact rk e h1 h2
   ·exact fV e h1 h2)) λ_=>H
theorem uC{C:Call}{f:FuncId}{vs:List Value}(G:Kn n l a)(v:Value)(J:∀args w,(callFunc f args).run AE w= .ok (.enter f args) w)(H:∀w,AG w0.heap.size w0 w->AH AE f vs.toArray w λe w'=>e= .returned v/\AG w.heap.size w w')(h:∀ {a'},Kn n ((d,v)::l) a'->wpQuiet AE ops (λw=>AG w0.heap.size w0 w) K rest a')(I:o.dst=some d:=by rfl)(hn:d<n:=by decide)
  (P:o.op= .call C:=by rfl)(hc:C.callee= .value (.func f):=by rfl)(V:zU l C.args.toList=some vs:=by rfl)(U:A7 o (yielded ops a.tmps)=true:=by first | exact eX rfl | exact e8 (by assumption) rfl rfl rfl rfl):wpQuiet AE ops (λw=>AG w0.heap.size w0 w) K (o::rest) a:=by
 unfold wpQuiet;rw[if_pos U];refine⟨v,λw hb=>by
  unfold Oper.quietAt;rw[gA G P hc V J];exact⟨rfl,(H w hb).mono λe w' h=>⟨h.1,hb.trans (h.2.mono hb.size)⟩⟩,?_⟩
 rw[I];exact h (G.put hn)
theorem ro{id:Nat}{y:Code}(G:AE.follows .mixedOrders=true)(hB:Region.lexB .any ops=true)(hb:AG w0.heap.size w0 w)(h:wpQuiet AE ops (λw=>AG w0.heap.size w0 w) (λa'=>∀w',AG w0.heap.size w0 w'->y.wp AE Q a' w') ops.toList a):((Dc id ops true).seq y).wp AE Q a w:=
 AP (wp_region_quiet (C:=λw=>AG w0.heap.size w0 w) G hB hb.drew h)
theorem wp_quN{id:Nat}(G:AE.follows .mixedOrders=true)(hB:Region.lexB .any ops=true)(hb:AG w0.heap.size w0 w)(h:wpQuiet AE ops (λw=>AG w0.heap.size w0 w) (λa'=>∀w',AG w0.heap.size w0 w'->Q .normal a' w') ops.toList a):(Dc id ops true).wp AE Q a w:=
 wp_region_quiet (C:=λw=>AG w0.heap.size w0 w) G hB hb.drew h
variable{R:Prop}
theorem sD(C:Kn n l a)(G:R)(h:Kn n l a->Bx R->wpList AE ops Q rest a w:=by intro C G;(repeat ((first | refine vS C ?_ | refine wZ C ?_);clear C;intro a C));revert a C;exact @Bx.out _ G):wpList AE ops Q rest a w:=h C ⟨G⟩
variable{H:Code}
theorem sA(C:Kn n l a)(G:R)(h:Kn n l a->Bx R->H.wp AE Q a w:=by intro C G;(repeat first | refine AP ?_ | refine AY ?_);refine bC ?_;(repeat ((first | refine vS C ?_ | refine wZ C ?_);clear C;intro a C));revert a C;exact @Bx.out _ G):H.wp AE Q a w:=h C ⟨G⟩
theorem sZ(C:Kn n l a)(G:R)(h:Kn n l a->Bx R->wpList AE ops Q rest a w:=by intro C G;(repeat ((first | refine vS C ?_ | refine wZ C ?_);clear C;intro a C));refine wln ?_;(repeat first | with_reducible refine thn ?_ | with_reducible refine ibn ?_);revert a C;exact @Bx.out _ G):wpList AE ops Q rest a w:=h C ⟨G⟩
theorem sX(C:Kn n l a)(G:R)(h:Kn n l a->Bx R->H.wp AE Q a w:=by intro C G;(repeat first | refine AP ?_ | refine AY ?_);refine bC ?_;(repeat ((first | refine vS C ?_ | refine wZ C ?_);clear C;intro a C));refine wln ?_;(repeat first | with_reducible refine thn ?_ | with_reducible refine ibn ?_);revert a C;exact @Bx.out _ G):H.wp AE Q a w:=h C ⟨G⟩
theorem uD(C:Kn n l a)(G:R)(h:Kn n l a->Bx R->wpQuiet AE ops (λw=>AG w0.heap.size w0 w) K rest a:=by intro C G;(repeat ((first | refine uS C ?_ | refine qZk C ?_);clear C;intro a C));revert a C;exact @Bx.out _ G):wpQuiet AE ops (λw=>AG w0.heap.size w0 w) K rest a:=h C ⟨G⟩
theorem uA(C:Kn n l a)(G:R)(h:Kn n l a->Bx R->H.wp AE Q a w:=by intro C G;(repeat first | refine AP ?_ | refine AY ?_);refine wp_quN (by kernel_rfl) (by kernel_rfl) (by assumption) ?_;(repeat ((first | refine uS C ?_ | refine qZk C ?_);clear C;intro a C));revert a C;exact @Bx.out _ G):H.wp AE Q a w:=h C ⟨G⟩
theorem uZ(C:Kn n l a)(G:R)(h:Kn n l a->Bx R->wpQuiet AE ops (λw=>AG w0.heap.size w0 w) K rest a:=by intro C G;(repeat ((first | refine uS C ?_ | refine qZk C ?_);clear C;intro a C));refine wqn (λw' H=> ?_);(repeat first | with_reducible refine thn ?_ | with_reducible refine ibn ?_);revert a C w' H;exact @Bx.out _ G):wpQuiet AE ops (λw=>AG w0.heap.size w0 w) K rest a:=h C ⟨G⟩
theorem uX{I:Code}(C:Kn n l a)(G:R)(h:Kn n l a->Bx R->I.wp AE Q a w:=by intro C G;(repeat first | refine AP ?_ | refine AY ?_);refine wp_quN (by kernel_rfl) (by kernel_rfl) (by assumption) ?_;(repeat ((first | refine uS C ?_ | refine qZk C ?_);clear C;intro a C));refine wqn (λw' H=> ?_);(repeat first | with_reducible refine thn ?_ | with_reducible refine ibn ?_);revert a C w' H;exact @Bx.out _ G):I.wp AE Q a w:=h C ⟨G⟩
end
structure VB(w W:World)(t:TypeId)(B:Nat)(vs:Array Value):Prop where
 blk:W.heap[B]? =some (.cells vs t (0,0))
 bel:AG w.heap.size w W
 ge:w.heap.size<=B
 nu:∀u∈vs.toList,noU u
def nuB:Value->Bool
 | .int .u32 _=>false
 | _=>true
variable{vs:Array Value}
theorem nuB_all(h:vs.toList.all nuB=true):∀u∈vs.toList,noU u:=λu C n e=>by
 have:=List.all_eq_true.1 h u C;subst e;cases this
section
variable {w0 w W W':World} {t t' e s:TypeId} {p v vx vy:Value} {n d i k m z B:Nat} {o:Oper} {l:List (Nat×Value)} {a:Act} {x y:AZ} {ops:Array Oper} {rest:List Oper} {Q:Bf->Act->World->Prop} {vs:Array Value} {cs ps:List Value}
theorem VB.next(V:VB w W t B vs)(k:AG W.heap.size W W'):VB w W' t B vs:=⟨by rw[k.block B (A8.1 V.blk).1];exact V.blk,V.bel.trans (k.mono V.bel.size),V.ge,V.nu⟩
theorem VB.one(V:VB w W t B vs)(hc:vs[k]? =some v)(ht:vU AE t'=some false:=by rfl):LdB W t' (.pointer (some ⟨B,k,none⟩)) v:=.one ht (A8.1 V.blk).1 (by rw[aE V.blk];exact hc)
theorem VB.row{D:TypeDesc}(V:VB w W t B vs)(hc:∀j u,ps[j]? =some u->vs[k+j]? =some u)(hi:(AE.info? t').map (·.size)=some ps.length)(H:AE.underlying t'=some D:=by rfl)(C:D.isRow=true:=by rfl):LdB W t' (.pointer (some ⟨B,k,none⟩)) (.agg ps.toArray):=
 .row H C hi (A8.1 V.blk).1 (λj u G=>by rw[aE V.blk];exact hc j u G)
theorem VB.new(w:World)(t:TypeId)(vs:Array Value)(h:∀u∈vs.toList,noU u):VB w (w.alloc (.cells vs t)) t w.heap.size vs:=⟨BE w _,(AL _ w).alloc (AK _) _,AK _,h⟩
theorem VB.own(V:VB w W t B vs):Own W B:=od V.blk V.nu
theorem vA(G:Kn n l a)(z:Nat)(h:∀ {a' W B vs},VB w W t B vs->vs.size=z->Kn n ((d,.pointer (some ⟨B,0,none⟩))::l) a'->wpList AE ops Q rest a' W)(C:o.dst=some d:=by rfl)(hn:d<n:=by decide)(H:o.op= .alloc t:=by rfl)(hz:((AE.info? t).bind (·.zero)).map (λu=>(u.cells.size,u.cells.toList.all nuB))=some (z,true):=by kernel_rfl)(I:A7 o (yielded ops a.tmps)=true:=by first | exact eX rfl | exact e8 (by assumption) rfl rfl rfl rfl):wpList AE ops Q (o::rest) a w:=by
 cases hq:(AE.info? t).bind (·.zero)with
 | none=>rw[hq]at hz;cases hz
 | some u=>
  rw[hq]at hz;refine wl I G C hn (tj (v:=.pointer (some ⟨w.heap.size,0,none⟩)) (w':=w.alloc (.cells u.cells t)) H ?_) λ_=>h (VB.new w t u.cells (nuB_all (by injection hz with hz;injection hz))) (by injection hz with hz;injection hz)
  simp only[Instr.alloc,AO,sn hq,AX,newVar,newRow,Go.newObj,Sem.run,BC];rfl
theorem vX(I:∀u∈cs,noU u)(C:Kn n l a)(h:∀ {a' W B},VB w W t B cs.toArray->Kn n ((d,.pointer (some ⟨B,0,none⟩))::l) a'->wpList AE ops Q rest a' W)(G:o.dst=some d:=by rfl)(hn:d<n:=by decide)(H:o.op= .box t x:=by rfl)(K:evK l x=some (.agg cs.toArray):=by rfl)(J:A7 o (yielded ops a.tmps)=true:=by first | exact eX rfl | exact e8 (by assumption) rfl rfl rfl rfl):wpList AE ops Q (o::rest) a w:=by
 refine wl J C G hn (v:=.pointer (some ⟨w.heap.size,0,none⟩)) (w':=w.alloc (.cells cs.toArray t)) ?_ λ_=>h (VB.new w t _ (by simpa using I))
 unfold execOp;simp only[H];rw[C.evx K];simp only[Instr.box,AO,AX,newVar,newRow,Go.newObj,Sem.run,BC];rfl
theorem VB.fill(V:VB w W t B vs)(hz:vs.size=cs.length)(h1:cs.toArray.all (·.oneCell')=true)(C:∀u∈cs,noU u)(hi:(AE.info? t).map (·.size)=some cs.length):∃W',(EH t (.pointer (some ⟨B,0,none⟩)) (.agg cs.toArray)).run AE W= .ok () W'/\VB w W' t B cs.toArray/\Upd W B W':=by
 have ht:W.there B 0 cs.toArray.size:=by have:=ie V.blk;rwa [hz,<-Cc]at this
 refine⟨_,run_storeAt_mid W B 0 t cs.toArray ht (by rw[Cc];exact hi) h1,⟨?_,bQ _ 0 _ V.bel V.ge,V.ge,At⟩,cS _ W B 0⟩;rw[dH _ W B 0 _ _ V.blk,iT (by rw[hz]),Array.toArray_toList]
theorem VB.upd{H:TypeId}{C:Nat}{us:Array Value}(V:VB w W t B vs)(u:Upd W C W')(G:B≠C)(V2:VB w W' H C us):VB w W' t B vs:=⟨(u.block B G).trans V.blk,V2.bel,V.ge,V.nu⟩
theorem vF(V:VB w W t B vs)(hz:vs.size=cs.length)(h1:cs.toArray.all (·.oneCell')=true)(hu:∀u∈cs,noU u)(hk:Kn n l a)(h:∀ {a' W'},VB w W' t B cs.toArray->Upd W B W'->Kn n l a'->wpList AE ops Q rest a' W')(hi:(AE.info? t).map (·.size)=some cs.length)(hd:o.dst=none:=by rfl)(ho:o.op= .store t x y:=by rfl)(hx:evK l x=some (.pointer (some ⟨B,0,none⟩)):=by rfl)(hy:evK l y=some (.agg cs.toArray):=by rfl)
  (hw:A7 o (yielded ops a.tmps)=true:=by first | exact eX rfl | exact e8 (by assumption) rfl rfl rfl rfl):wpList AE ops Q (o::rest) a W:=by
 obtain⟨W',hr,V',u⟩:=V.fill hz h1 hu hi;exact wls hw hk hd (tg hk ho hx hy hr) λ_=>h V' u
end
variable{Q:Bf->Act->World->Prop}{a:Act}{w:World}
theorem ibo{id j:Nat}(h:Q (.exit j) a w)(C:j≠id:=by decide):D4 id Q (.exit j) a w:=by simp only[D4,if_neg C];exact h
theorem rets(h:Q .ret a w):Exit.noGoto Q .ret a w:=h
variable{rs:List Rq}{u:Int}
theorem zW{cs:List Value}(h:aW w rs cs):(AW .i64 u::cs).toArray.all (·.oneCell')=true:=EC (λv hv=>by
 rcases A3.1 hv with rfl | hv
 ·rfl
 ·exact eD h v hv)
theorem cr_nu{cs:List Value}(h:aW w rs cs):∀v∈cs,noU v:=λv hv n e=>by
 obtain⟨k,C⟩:=DH hv;exact h.noInt k n (by rw[C,e])
theorem rp{cs:List Value}(h:aW w rs cs):∀v∈(AW .i64 u::cs),noU v:=λv hv=>by
 rcases A3.1 hv with rfl | hv
 ·intro n e;cases e
 ·exact cr_nu h v hv
theorem fW{P:A0}{x y:Code}(I:Act->World->Prop)(C:x.wp P (Exit.then I Q) a w)(hy:∀a w,I a w->y.wp P Q a w):(Code.seq x y).wp P Q a w:=
 AP (wp_mono C λe a w h=>by cases e<;>first | exact hy _ _ h | exact h)
variable{v:Value}{ops:Array Oper}
theorem yK{H:World->Prop}{n d:Nat}{o:Oper}{l:List (Nat×Value)}{md:Region.Mode}{fuel:Nat}{C:Array Bool}(i:Nat)(G:Kn n l a)(J:H w)(h:∀ {a'},Kn n ((d,v)::l) a'->wpAnyH AE md ops Q H fuel (C.setIfInBounds i true) a' w)
  (hi:ops[i]? =some o:=by rfl)(hs:Region.noSelect ops=true:=by kernel_rfl)(hf:Region.free md ops C i=true:=by kernel_rfl)(hr:(BV md ops C).contains i=true:=by kernel_rfl)(K:o.dst=some d:=by rfl)(hn:d<n:=by decide)(I:∀c a a' w,a'.defers=a.defers->Q (.panic c) a w->Q (.panic c) a' w:=by exact λc a a' w e h=>⟨e.trans h.1,h.2⟩)(P:o.guard=none:=by rfl)
  (hy:∀a w,Kn n l a->H w->(execOp a.eval o).run AE w= .ok (.value v) w:=by intro a w G U;first | exact fU G rfl rfl | exact aa7 G rfl rfl rfl | exact jF G rfl rfl | exact kR G rfl rfl | exact aa6 G rfl rfl (by assumption) U | exact kx_io G rfl rfl rfl rfl rfl (by omega)):wpAnyH AE md ops Q H (fuel+1) C a w:=bD G hi hs hf hr K hn I P hy J λ_=>h
def StL(w:World)(b o:Nat)(x:St):Prop:=LdB w 3 (.pointer (some ⟨b,o,none⟩)) (.int .i64 x.tm)/\∃cs,aW w (x.pose.cs.map Fq.raw) cs/\LdB w 39 (.pointer (some ⟨b,o+1,none⟩)) (.agg cs.toArray)/\LdB w 120 (.pointer (some ⟨b,o,none⟩)) (.agg (.int .i64 x.tm::cs).toArray)
section
variable {w:World} {g:Nat} {sl:Value} {T:TypeId} {S:List St}
theorem TrkS.form(h:TrkS T w g sl S):∃C c,sl= .slice C S.length c/\LdB w 183 (.pointer (some ⟨g,0,none⟩)) sl:=by
 have e:∃C c,sl= .slice C S.length c:=by
  rcases h.row with⟨_,h2,e⟩ | ⟨b,o,c,cs,e,_⟩
  ·exact⟨_,_,by rw[h2];exact e⟩
  ·exact⟨_,_,e⟩
 obtain⟨C,c,e⟩:=e;exact⟨C,c,e,.one Ab (A8.1 h.blk).1 (by rw[aE h.blk];rfl)⟩
theorem TrkS.parts(h:TrkS T w g sl S)(h0:S≠ []):∃b o c,sl= .slice (some ⟨b,o,none⟩) S.length c/\∀k x,S[k]? =some x->StL w b (o+k*22) x:=by
 obtain⟨s,hs⟩:=List.exists_mem_of_ne_nil _ h0;obtain⟨i,hi⟩:=DH hs;obtain⟨b,o,c,C,e,_,hb,J⟩:=row_at h.row (rowS_ne hi);have hl:=(A8.1 hb).1;refine⟨b,o,c,e,λk x K=> ?_⟩;have hc:∀j q,x.qs[j]? =some q->∃u,w.cell? ⟨b,o+k*22+j,none⟩=some u/\q.p w u:=λj q G=>by
  obtain⟨u,h1,h2,_⟩:=J _ q (xe K G);exact⟨u,by rw[aE hb,CX];exact h1,h2⟩
 have H:∀j,j<22->∃u,w.cell? ⟨b,o+k*22+j,none⟩=some u:=λj G=>by
  obtain⟨u,h1,_⟩:=hc j _ (AU (by rw[St.qs_len];exact G));exact⟨u,h1⟩
 let f:Nat->Value:=λj=>(w.cell? ⟨b,o+k*22+j,none⟩).getD undef
 have hf:∀j,j<22->w.cell? ⟨b,o+k*22+j,none⟩=some (f j):=λj G=>by
  obtain⟨u,h1⟩:=H j G;show _=some ((w.cell? ⟨b,o+k*22+j,none⟩).getD undef);rw[h1];rfl
 have h1:f 0= .int .i64 x.tm:=by
  obtain⟨u,h1,h2⟩:=hc 0 _ rfl;have:=hf 0 th;rw[h1]at this;injection this with this;rw[<-this];exact h2.1
 have I:∀j u,((BO 21).map λj=>f (j+1))[j]? =some u->w.cell? ⟨b,o+k*22+(j+1),none⟩=some u:=λj u G=>by
  have hl:j<21:=by have:=(A5.1 G).1;simpa using this
  rw[BB,D8 hl]at G;injection G with G;rw[hf _ Aa,<-G]
 refine⟨.one Ab hl (by have:=hf 0 th;rw[h1]at this;exact this),(BO 21).map λj=>f (j+1),nh (by simp;rfl) (λj q G=> ?_),.row C7 rfl (by rw[Cf,List.length_range];rfl) hl (λj u G=>by rw[CX (o+k*22),Nat.add_comm 1];exact I j u G),.row D3 rfl (by rw[Bz,Cf,List.length_range];rfl) hl (λj u G=> ?_)⟩
 ·obtain⟨u,P,k2⟩:=hc (j+1) q G;have hl:j<21:=(A5.1 G).1;refine⟨u,?_,k2⟩;rw[BB,D8 hl];have:=hf (j+1) Aa;rw[P]at this;exact this.symm
 ·cases j with
  | zero=>simp only[List.getElem?_cons_zero]at G;rw[<-G,<-h1];exact hf 0 th
  | succ j=>exact I j u AB
end
variable{t:TypeId}
theorem run_fd{G:Array Field}{C:Field}{i z:Nat}{us:Array Value}(J:AE.underlying t=some (.struct G))(I:G[i]? =some C)(ha:vU AE C.type=some true)(hz:szB AE C.type=some z)(H:us.extract C.offset (C.offset+z)=vs):(Instr.field t (.agg us) i).run AE w= .ok (.agg vs) w:=by
 simp[Instr.field,part,asAgg,AO,run_underlying J,I,iI ha,ba hz,AX,H]
section
variable {w w0 W:World} {n B:Nat} {o:Oper} {l:List (Nat×Value)} {a:Act} {x y:AZ} {ops:Array Oper} {rest:List Oper} {Q:Bf->Act->World->Prop} {vs:Array Value} {cs:List Value} {s:St} {p:Pq}
theorem vFS(V:VB w W 120 B vs)(hz:vs.size=22)(hc:aW w0 (s.pose.cs.map Fq.raw) cs)(hk:Kn n l a)(h:∀ {a' W'},VB w W' 120 B (AW .i64 s.tm::cs).toArray->Upd W B W'->Kn n l a'->wpList AE ops Q rest a' W')(hd:o.dst=none:=by rfl)(ho:o.op= .store 120 x y:=by rfl)(hx:evK l x=some (.pointer (some ⟨B,0,none⟩)):=by rfl)(hy:evK l y=some (.agg (AW .i64 s.tm::cs).toArray):=by rfl)
  (hw:A7 o (yielded ops a.tmps)=true:=by first | exact eX rfl | exact e8 (by assumption) rfl rfl rfl rfl):wpList AE ops Q (o::rest) a W:=vF V (by rw[hz,Bz,aB hc];rfl) (zW hc) (rp hc) hk h (by rw[Bz,aB hc];rfl) hd ho hx hy hw
theorem vFR(V:VB w W t B vs)(hc:aW w0 rs cs)(hz:vs.size=3*rs.length)(hk:Kn n l a)(h:∀ {a' W'},VB w W' t B cs.toArray->Upd W B W'->Kn n l a'->wpList AE ops Q rest a' W')(hi:(AE.info? t).map (·.size)=some (3*rs.length):=by kernel_rfl)(hd:o.dst=none:=by rfl)(ho:o.op= .store t x y:=by rfl)(hx:evK l x=some (.pointer (some ⟨B,0,none⟩)):=by rfl)(hy:evK l y=some (.agg cs.toArray):=by rfl)
  (hw:A7 o (yielded ops a.tmps)=true:=by first | exact eX rfl | exact e8 (by assumption) rfl rfl rfl rfl):wpList AE ops Q (o::rest) a W:=vF V (by rw[hz,aB hc]) (EC (eD hc)) (cr_nu hc) hk h (by rw[aB hc];exact hi) hd ho hx hy hw
theorem VB.st(V:VB w W 120 B (AW .i64 s.tm::cs).toArray)(hc:aW w0 (s.pose.cs.map Fq.raw) cs):LdB W 3 (.pointer (some ⟨B,0,none⟩)) (.int .i64 s.tm)/\LdB W 39 (.pointer (some ⟨B,1,none⟩)) (.agg cs.toArray)/\LdB W 120 (.pointer (some ⟨B,0,none⟩)) (.agg (AW .i64 s.tm::cs).toArray):=
 ⟨V.one rfl,V.row (λj u C=>by rw[Nat.add_comm];simpa using C) (by rw[aB hc];rfl),V.row (λj u C=>by rw[Bh];simpa using C) (by rw[Bz,aB hc];rfl)⟩
theorem VB.fr{D:TypeDesc}(V:VB w W t B cs.toArray)(hc:aW w0 rs cs)(hi:(AE.info? t).map (·.size)=some (3*rs.length):=by kernel_rfl)(H:AE.underlying t=some D:=by rfl)(C:D.isRow=true:=by rfl):LdB W t (.pointer (some ⟨B,0,none⟩)) (.agg cs.toArray):=
 V.row (λj u G=>by rw[Bh];simpa using G) (by rw[aB hc];exact hi) H C
theorem VB.ret(V:VB w W 39 B vs)(hl:vs.size=21){fn:Func}{p u:Tmp}(hr:fn.results=#[.cell p 39,.tmp u])(tmps:Array Value)(hp:tmps.getD p undef= .pointer (some ⟨B,0,none⟩)):
  (results fn tmps).run AE W= .ok (.tuple #[.agg vs,tmps.getD u undef]) W:=
 tc hr tmps W B _ _ _ _ hp V.blk C7 rfl (by rw[hl];kernel_rfl)
theorem TrkS.mono{T:TypeId}{g:Nat}{sl:Value}{S:List St}{w':World}(h:TrkS T w g sl S)(hb:AG w.heap.size w w'):TrkS T w' g sl S:=
 ⟨by rw[hb.block g (A8.1 h.blk).1];exact h.blk,((Vp.row stT S.length (bx S)).ch w w' _ sl h.row (Chg.below hb) (λ_ _ h=>h)).1,h.ne⟩
theorem kx_fd(C:Kn n l a)(G:o.op= .field 120 x 1)(H:evK l x=some (.agg (AW .i64 u::cs).toArray))(hl:cs.length=21):(execOp a.eval o).run AE w= .ok (.value (.agg cs.toArray)) w:=by
 have h:(Instr.field 120 (.agg (AW .i64 u::cs).toArray) 1).run AE w= .ok (.agg cs.toArray) w:=run_fd D3 rfl Ab Ab (by
  rw[List.extract_toArray];show(List.take (1+21 - 1) (List.drop 1 (AW .i64 u::cs))).toArray=_;rw[List.drop_one,List.tail_cons,List.take_of_length_le Aa])
 unfold execOp;simp only[G];rw[C.evx H];simp only[AO,h];rfl
end
abbrev ptG(g:Nat):Value:=.pointer (some ⟨g,0,none⟩)
variable{S:List St}
theorem ii{k:Nat}{x:St}(h:S[k]? =some x):S≠ []:=λe=>by subst e;simp at h
theorem k_place{g:Nat}{sl:Value}(h:TrkS 223 w g sl S)(a:Int)(hS:S.length<=1000):
  AH AE 185 #[ptG g,.int .i64 a] w λe w'=>e= .returned (.int .i64 ((plN S a:Nat):Int))/\AG w.heap.size w w':=by
 have hp:=gH S a;obtain⟨ad,c,P,f0⟩:=h.form;go_enter Tryz.func185,Tryz.ntmps185
 refine bW (n:=28) [(0,ptG g),(1,.int .i64 a)] λC=> ?_
 refine aO ?_;refine sD C ?_;intro _ C;refine wle ?_;refine aO ?_;refine sD C ?_;intro _ C;refine wle ?_;subst P;refine wp_bl (λa' wr=>∃k:Nat,Kn 28 [(0,ptG g),(1,.int .i64 a),(5,.int .i64 (k:Int))] a'/\k<=plN S a/\AG w.heap.size w wr) (λa' _=>S.length - (intOf (a'.tmps.getD 5 undef)).toNat) ⟨0,C.ct,Bc _,AL _ _⟩ (λa' wr V=> ?_);obtain⟨k,C,Y,hb⟩:=V;have Z:(intOf (a'.tmps.getD 5 undef)).toNat=k:=by rw[C.getD (i:=5) rfl];simp[intOf]
 rw[Z];by_cases hlt:k<plN S a
 ·obtain⟨x,H,U⟩:=eo hlt;obtain⟨b,o,c2,e,G⟩:=h.parts (ii H);injection e with I J K;subst I;subst K;clear J;obtain⟨f1,_⟩:=G k x H;refine AP ?_;refine aO ?_;refine sD C ?_;intro _ C;refine wle ?_;refine bu C rfl (Bm (thn ?_));refine AY ?_;refine bC ?_;refine sD C ?_;intro _ C;refine vN C ((k+1:Nat)) λC=> ?_
  refine sD C ?_;intro _ C;refine wln (ibn (thn ⟨⟨k+1,C.ct,hlt,hb⟩,?_⟩));rw[C.getD (i:=5) rfl];simp only[intOf];omega
 ·obtain rfl:k=plN S a:=Aa
  by_cases hn:plN S a<S.length
  ·obtain⟨x,H,U⟩:=uz hn;obtain⟨b,o,c2,e,G⟩:=h.parts (ii H);injection e with I J K;subst I;subst K;clear J;obtain⟨f1,_⟩:=G _ x H;refine AP ?_;refine aO ?_;refine sD C ?_;intro _ C;refine wle ?_;refine aX C rfl (CO (thx (thx (ibx (thn ?_)))));refine aO ?_;refine sD C ?_;intro _ C;refine wle ?_;refine Bk ?_
   repeat first | refine ck ?_ | refine cN ?_
   refine A6 (B9 rfl _ _ _) C.df ?_;rw[C.getD (i:=4) rfl];exact⟨rfl,hb⟩
  ·refine AP ?_;refine aO ?_;refine sD C ?_;intro _ C;refine wle ?_;refine aX C rfl (CO (thx (thx (ibx (thn ?_)))));refine aO ?_;refine sD C ?_;intro _ C;refine wle ?_;refine Bk ?_
   repeat first | refine ck ?_ | refine cN ?_
   refine A6 (B9 rfl _ _ _) C.df ?_;rw[C.getD (i:=4) rfl];exact⟨rfl,hb⟩
section
variable {w:World} {g:Nat} {sl:Value} {S:List St}
theorem k_Len(h:TrkS 223 w g sl S):AH AE 128 #[ptG g] w λe w'=>e= .returned (.int .i64 (S.length:Int))/\AG w.heap.size w w':=by
 obtain⟨G,c,rfl,f0⟩:=h.form;have hb:=AL w.heap.size w;go_enter Tryz.func128,Tryz.ntmps128
 refine bW (n:=10) [(0,ptG g)] λC=> ?_
 refine aO ?_;refine sD C ?_;intro _ C;refine wle ?_;refine AP ?_;refine aO ?_;refine sD C ?_;intro _ C;refine wle ?_;refine aX C rfl (Bm (thn ?_));refine aO ?_;refine sD C ?_;intro _ C;refine wle ?_;refine Bk ?_
 repeat first | refine ck ?_ | refine cN ?_
 refine A6 (B9 rfl _ _ _) C.df ?_;rw[C.getD (i:=2) rfl];exact⟨rfl,hb⟩
theorem k_rLen(h:TrkS 185 w g sl S):AH AE 157 #[ptG g] w λe w'=>e= .returned (.int .i64 (S.length:Int))/\AG w.heap.size w w':=by
 obtain⟨G,c,rfl,f0⟩:=h.form;have hb:=AL w.heap.size w;go_enter Tryz.func157,Tryz.ntmps157
 refine bW (n:=8) [(0,ptG g)] λC=> ?_
 refine aO ?_;refine sD C ?_;intro _ C;refine wle ?_;refine aO ?_;refine sD C ?_;intro _ C;refine wle ?_;refine Bk ?_
 repeat first | refine ck ?_ | refine cN ?_
 refine A6 (B9 rfl _ _ _) C.df ?_;rw[C.getD (i:=2) rfl];exact⟨rfl,hb⟩
theorem kEnds{S:List St}:S.length=0/\bJ S=(0,0,false)\/∃f l,0<S.length/\S[0]? =some f/\S[S.length - 1]? =some l/\bJ S=(f.tm,l.tm,true):=by
 by_cases h0:S.length=0
 ·have e:S=[]:=List.eq_nil_of_length_eq_zero h0;subst e;exact .inl Aj
 ·obtain⟨f,hf⟩:∃f,S[0]? =some f:=⟨_,AU Aa⟩;obtain⟨l,hl⟩:∃f,S[S.length - 1]? =some f:=⟨_,AU Aa⟩;exact .inr ⟨f,l,Aa,hf,hl,by unfold bJ;rw[hf,hl]⟩
theorem k_Span(h:TrkS 223 w g sl S)(hn:S.length<=1000):AH AE 100 #[ptG g] w λe w'=>e= .returned (.tuple #[.int .i64 (bJ S).1,.int .i64 (bJ S).2.1,.bool (bJ S).2.2])/\AG w.heap.size w w':=by
 obtain⟨V,c,I,f0⟩:=h.form;have hb:=AL w.heap.size w;go_enter Tryz.func100,Tryz.ntmps100
 refine bW (n:=35) [(0,ptG g)] λC=> ?_
 subst I;refine aO ?_;refine sD C ?_;intro _ C;refine wle ?_;rcases kEnds (S:=S)with⟨h0,H⟩ | ⟨f,l,h0,hf,hl,H⟩
 ·rw[H];refine AP ?_;refine aO ?_;refine sD C ?_;intro _ C;refine wle ?_;refine bu C rfl ?_;refine aO ?_;refine sD C ?_;intro _ C;refine wle ?_;refine Bk ?_
  repeat first | refine ck ?_ | refine cN ?_
  refine A6 (CP rfl _ _ _) C.df ?_;rw[C.getD (i:=2) rfl,C.getD (i:=3) rfl,C.getD (i:=4) rfl];exact⟨rfl,hb⟩
 ·obtain⟨b,o,c2,e,G⟩:=h.parts (ii hf);injection e with K P U;subst K;subst U;clear P;obtain⟨f1,_⟩:=G _ f hf;obtain⟨f2,_⟩:=G _ l hl;rw[H];refine AP ?_;refine aO ?_;refine sD C ?_;intro _ C;refine wle ?_;refine aX C rfl (Bm (thn ?_));refine ro Ab Ab Ao ?_;refine uD C ?_;intro _ C;refine uN C ((S.length - 1:Nat)) λC=> ?_
  refine uD C ?_;intro _ C;refine wqn (λw' J=> ?_);refine Bk ?_
  repeat first | refine ck ?_ | refine cN ?_
  refine A6 (CP rfl _ _ _) C.df ?_;rw[C.getD (i:=2) rfl,C.getD (i:=3) rfl,C.getD (i:=4) rfl];exact⟨rfl,J⟩
theorem k_rSpan(h:TrkS 185 w g sl S)(hn:S.length<=1000):AH AE 101 #[ptG g] w λe w'=>e= .returned (.tuple #[.int .i64 (bJ S).1,.int .i64 (bJ S).2.1,.bool (bJ S).2.2])/\AG w.heap.size w w':=by
 obtain⟨V,c,I,f0⟩:=h.form;have hb:=AL w.heap.size w;go_enter Tryz.func101,Tryz.ntmps101
 refine bW (n:=31) [(0,ptG g)] λC=> ?_
 subst I;refine aO ?_;refine sD C ?_;intro _ C;refine wle ?_;rcases kEnds (S:=S)with⟨h0,H⟩ | ⟨f,l,h0,hf,hl,H⟩
 ·rw[H];refine AP ?_;refine aO ?_;refine sD C ?_;intro _ C;refine wle ?_;refine bu C rfl ?_;refine aO ?_;refine sD C ?_;intro _ C;refine wle ?_;refine Bk ?_
  repeat first | refine ck ?_ | refine cN ?_
  refine A6 (CP rfl _ _ _) C.df ?_;rw[C.getD (i:=2) rfl,C.getD (i:=3) rfl,C.getD (i:=4) rfl];exact⟨rfl,hb⟩
 ·obtain⟨b,o,c2,e,G⟩:=h.parts (ii hf);injection e with K P U;subst K;subst U;clear P;obtain⟨f1,_⟩:=G _ f hf;obtain⟨f2,_⟩:=G _ l hl;rw[H];refine AP ?_;refine aO ?_;refine sD C ?_;intro _ C;refine wle ?_;refine aX C rfl (Bm (thn ?_));refine ro Ab Ab Ao ?_;refine uD C ?_;intro _ C;refine uN C ((S.length - 1:Nat)) λC=> ?_
  refine uD C ?_;intro _ C;refine wqn (λw' J=> ?_);refine Bk ?_
  repeat first | refine ck ?_ | refine cN ?_
  refine A6 (CP rfl _ _ _) C.df ?_;rw[C.getD (i:=2) rfl,C.getD (i:=3) rfl,C.getD (i:=4) rfl];exact⟨rfl,J⟩
theorem Road.at{a:Int}{z y:St}{c:Int}(hr:Road S a z y c):c=6/\S.length=0\/∃f l,0<S.length/\S[0]? =some f/\S[S.length - 1]? =some l/\((c=17/\(a<f.tm\/f.tm<=a/\l.tm<a))\/(c=0/\f.tm<=a/\a<=l.tm/\plN S a<S.length/\S[plN S a]? =some y/\(y.tm=a/\z=y\/a<y.tm/\0<plN S a/\S[plN S a - 1]? =some z))):=by
 cases hr with
 | E h=>exact .inl ⟨rfl,h⟩
 | O1 f hf hn ha=>exact .inr ⟨f,_,hn,hf,AU Aa,.inl ⟨rfl,.inl ha⟩⟩
 | O2 f hf hb l hl hn ha=>exact .inr ⟨f,l,hn,hf,hl,.inl ⟨rfl,.inr ⟨hb,ha⟩⟩⟩
 | Q f hf hb l hl hn ha y hy ey hp eq1=>exact .inr ⟨f,l,hn,hf,hl,.inr ⟨rfl,hb,ha,hp,hy,.inl ⟨ey,rfl⟩⟩⟩
 | M f hf hb l hl hn ha y hy ey hp h0 eq1 z hz=>exact .inr ⟨f,l,hn,hf,hl,.inr ⟨rfl,hb,ha,hp,hy,.inr ⟨ey,h0,hz⟩⟩⟩
set_option maxHeartbeats 1000000 in
theorem k_around(h:TrkS 223 w g sl S)(hn:S.length<=1000){a:Int}{z y:St}{c:Int}(ab:Road S a z y c):AH AE 164 #[ptG g,.int .i64 a] w λe w'=>∃i j:Nat,e= .returned (.tuple #[.int .i64 i,.int .i64 j,.int .i64 c])/\(c=0->S[i]? =some z/\S[j]? =some y/\(i=j/\y.tm=a/\z=y\/j=i+1/\z.tm<a/\a<y.tm))/\AG w.heap.size w w':=by
 obtain⟨ad,c1,ac,f0⟩:=h.form;have hb:=AL w.heap.size w;go_enter Tryz.func164,Tryz.ntmps164
 refine bW (n:=77) [(0,ptG g),(1,.int .i64 a)] λC=> ?_
 subst ac;refine aO ?_;refine sD C ?_;intro _ C;refine wle ?_;refine wp_scope_straight ?_;rcases ab.at with⟨rfl,h0⟩ | ⟨f,l,h0,hf,hl,K⟩
 ·refine AP (AY ?_);refine aO ?_;refine sD C ?_;intro _ C;refine wle ?_;refine bu C rfl ?_;refine aO ?_;refine sD C ?_;intro _ C;refine wle ?_;refine Bk ?_
  repeat first | refine ck ?_ | refine cN ?_ | refine rets ?_
  refine A6 (CP rfl _ _ _) C.df ?_;rw[C.getD (i:=4) rfl,C.getD (i:=5) rfl,C.getD (i:=6) rfl];exact⟨0,0,rfl,(λh=>by cases h),hb⟩
 ·obtain⟨b,o,c2,e,P⟩:=h.parts (ii hf);injection e with e1 e2 e3;subst e1;subst e3;clear e2;obtain⟨f1,_⟩:=P _ f hf;obtain⟨f2,_⟩:=P _ l hl;rcases K with⟨rfl,K⟩ | ⟨rfl,r1,r2,hp,hy,K⟩
  ·rcases K with K | ⟨K,ao⟩
   ·refine AP (AY ?_);refine aO ?_;refine sD C ?_;intro _ C;refine wle ?_;refine aX C rfl ?_;refine ro Ab Ab Ao ?_;refine uD C ?_;intro _ C;refine wqn (λw' G=> ?_);refine bu C rfl ?_;refine aO ?_;refine sD C ?_;intro _ C;refine wle ?_;refine Bk ?_
    repeat first | refine ck ?_ | refine cN ?_ | refine rets ?_
    refine A6 (CP rfl _ _ _) C.df ?_;rw[C.getD (i:=4) rfl,C.getD (i:=5) rfl,C.getD (i:=6) rfl];exact⟨0,0,rfl,(λh=>by cases h),G⟩
   ·refine AP (AY ?_);refine aO ?_;refine sD C ?_;intro _ C;refine wle ?_;refine aX C rfl ?_;refine ro Ab Ab Ao ?_;refine uD C ?_;intro _ C;refine uN C ((S.length - 1:Nat)) λC=> ?_
    refine uD C ?_;intro _ C;refine wqn (λw' G=> ?_);refine bu C rfl ?_;refine aO ?_;refine sD C ?_;intro _ C;refine wle ?_;refine Bk ?_
    repeat first | refine ck ?_ | refine cN ?_ | refine rets ?_
    refine A6 (CP rfl _ _ _) C.df ?_;rw[C.getD (i:=4) rfl,C.getD (i:=5) rfl,C.getD (i:=6) rfl];exact⟨0,0,rfl,(λh=>by cases h),G⟩
  ·refine AP (AY ?_);refine aO ?_;refine sD C ?_;intro _ C;refine wle ?_;refine aX C rfl ?_;refine ro Ab Ab Ao ?_;refine uD C ?_;intro _ C;refine uN C ((S.length - 1:Nat)) λC=> ?_
   refine uD C ?_;intro _ C;refine wqn (λw' G=> ?_);refine aX C rfl ?_;refine Bm (ibn (thn ?_));clear hb;refine aO ?_;refine sD C ?_;intro _ C;refine wle ?_;refine AP (wp_label (thn ?_));refine sX C ?_;intro _ C;have C:=C.ct (l':=[(1,.int .i64 a),(52,.slice (some ⟨b,o,none⟩) S.length c1),(53,.int .i64 (S.length:Int)),(54,.int .i64 0)]);refine l9 (λa' wr=>∃k:Nat,Kn 77 [(1,.int .i64 a),(52,.slice (some ⟨b,o,none⟩) S.length c1),(53,.int .i64 (S.length:Int)),(54,.int .i64 (k:Int))] a'/\k<=plN S a/\AG w.heap.size w wr) (λa' _=>S.length - (intOf (a'.tmps.getD 54 undef)).toNat) ⟨0,C,Bc _,G⟩ (λa' wr hI=> ?_);obtain⟨k,C,aa,hb⟩:=hI;have hm:(intOf (a'.tmps.getD 54 undef)).toNat=k:=by rw[C.getD (i:=54) rfl];simp[intOf]
   rw[hm];obtain⟨x,U⟩:∃x,S[k]? =some x:=⟨_,AU Aa⟩;obtain⟨f3,cs,Z,_,f4⟩:=P _ x U;refine sX C ?_;intro _ C
   repeat first | refine AP ?_ | refine AY ?_
   refine bu C rfl (Bm ?_)
   repeat first | with_reducible refine thn ?_ | with_reducible refine ibn ?_
   refine AP (AY ?_);refine sA C ?_;intro _ C;refine vA C 22 λV hz C=> ?_
   refine sD C ?_;intro _ C;refine vFS V hz Z C λ{_ W} V _ C=> ?_
   have f5:=V.one (k:=0) (v:=.int .i64 x.tm) (t':=3) rfl;have am:=AL W.heap.size W;have J:=hb.trans (V.bel.mono hb.size);refine wln (thn ?_);refine AY ?_;rcases Nat.lt_or_eq_of_le aa with Y | rfl
   ·obtain⟨x',H,ap⟩:=eo Y;rw[U]at H;injection H with H;subst H;refine sX C ?_;intro _ C
    repeat first | refine AP ?_ | refine AY ?_
    refine aX C rfl ?_;refine sX C ?_;intro _ C
    repeat first | refine AP ?_ | refine AY ?_
    refine aX C rfl ?_;refine Bm (ibn (ibn (thn ?_)))
    repeat first | refine AP ?_ | refine AY ?_
    refine bC ?_;refine vN C ((k+1:Nat)) λC=> ?_
    refine sD C ?_;intro _ C;refine wln (thn ⟨⟨k+1,C.ct,Y,J⟩,?_⟩);rw[C.getD (i:=54) rfl];simp only[intOf];omega
   ·rw[hy]at U;injection U with U;subst U;rcases K with⟨ey,rfl⟩ | ⟨ey,an,hz⟩
    ·refine sX C ?_;intro _ C
     repeat first | refine AP ?_ | refine AY ?_
     refine bu C rfl ?_;refine sX C ?_;intro _ C;refine CO ?_
     repeat first | refine thx ?_ | refine ibx ?_ | refine ibo ?_
     refine thn ?_;refine sX C ?_;intro _ C;refine Bk ?_
     repeat first | refine ck ?_ | refine cN ?_ | refine rets ?_
     refine A6 (CP rfl _ _ _) C.df ?_;rw[C.getD (i:=4) rfl,C.getD (i:=5) rfl,C.getD (i:=6) rfl];exact⟨_,_,rfl,λ_=>⟨hy,hy,.inl ⟨rfl,ey,rfl⟩⟩,J⟩
    ·obtain⟨z',I,ak⟩:=eo (S:=S) (a:=a) (k:=plN S a - 1) Aa;rw[hz]at I;injection I with I;subst I;refine sX C ?_;intro _ C
     repeat first | refine AP ?_ | refine AY ?_
     refine aX C rfl ?_;refine sX C ?_;intro _ C
     repeat first | refine AP ?_ | refine AY ?_
     refine bu C rfl ?_;refine sA C ?_;intro _ C;refine vN C ((plN S a - 1:Nat)) λC=> ?_
     refine sZ C ?_;intro _ C;refine CO ?_
     repeat first | refine thx ?_ | refine ibx ?_ | refine ibo ?_
     refine thn ?_;refine sX C ?_;intro _ C;refine Bk ?_
     repeat first | refine ck ?_ | refine cN ?_ | refine rets ?_
     refine A6 (CP rfl _ _ _) C.df ?_;rw[C.getD (i:=4) rfl,C.getD (i:=5) rfl,C.getD (i:=6) rfl];exact⟨_,_,rfl,λ_=>⟨hz,hy,.inr ⟨Aa,ak,ey⟩⟩,J⟩
end
variable{w':World}
theorem aD{P:A0}{rest:List Oper}{op:Oper}(C:op.guard=none)(hr:(execOp a.eval op).run P w= .ok (.value v) w')
  (h:wpList P ops Q rest (a.put op.dst v) w'):wpList P ops Q (op::rest) a w:=
 Ck C λK G=>by
  unfold Oper.wp;rw[hr];exact G _ _ h
variable{c:Nm}
theorem LnAt.frz{l:Ln}(h:LnAt w c l)(j:Nat):w.frozen? ⟨l.b,j,none⟩=false:=by
 obtain⟨⟨cs,h1,_⟩,_⟩:=h;simp[Dg,h1]
theorem LnAt.thr{l:Ln}(h:LnAt w c l)(v:Value):(w.setCell ⟨l.b,4,none⟩ v).there l.b 5 21:=λj C=>by
 obtain⟨⟨cs,h1,h2,_⟩,_⟩:=h;have h2:cs.size=27:=h2;have h3:=heap_setCell_same w l.b 4 cs lkT v h1;refine⟨?_,by simp[Dg,h3]⟩;rw[aE h3,Array.getElem?_eq_getElem (by simp[h2];omega)];rfl
variable{t m:Nat}{E:List Ch}
theorem opAt_E{l:Ln}(_:TM w t m E)(K:opL (lsE E c)=some l):∃k,eA (trE E) c k l.x:=by
 obtain⟨H,ch,hc,J⟩:=m9 K;have I:=cG.2 ⟨ch,(cF hc).1,l,Bb J,rfl⟩;rw[(cF hc).2]at I;obtain⟨k,C,G⟩:=BN I;exact⟨k,by rw[AU C,G],H⟩
variable{p:Pq}
set_option maxHeartbeats 1000000 in
theorem q_Fixed{cs:List Value}{ok:Bool}(h:TM w t m E)(hE:TOk (trE E))(hv:bh w (.agg cs.toArray) p)(hp:p.ok 1000)
  (J:∀w',AG w.heap.size w w'->AH AE 122 #[.agg cs.toArray] w' λe a4=>e= .returned (.bool ok)/\AG w'.heap.size w' a4):
  AH AE 70 #[ptB t,.string c,.agg cs.toArray] w λe w'=>∃E' R' code,e= .returned (.int .i64 code)/\TPost w t m E w' E'/\REq (trE E') R'/\FixS ok p (trE E) c R' code:=by
 obtain⟨w1,a3⟩:∃w1,w.alloc (.cells cs.toArray 39)=w1:=⟨_,rfl⟩;have G:AG w.heap.size w w1:=by rw[<-a3];exact(AL _ _).alloc (AK _) _
 have a2:w1.heap.size=w.heap.size+1:=by rw[<-a3];exact asz _ _
 have I:w1.heap[w.heap.size]? =some (.cells cs.toArray 39 (0,0)):=by rw[<-a3];exact BE w _
 have h1:=h.below G;have P:=l7 h1 c;have H:cs.length=21:=by
  obtain⟨aa,e0,hc⟩:=hv;have e0:cs=aa:=by injection e0 with e0;simpa using e0
  subst e0;exact aB hc
 have ac:∀w',AG w.heap.size w w'->AH AE 97 #[.agg cs.toArray] w' λe a4=>qC w' p e a4:=λw' hb=>q_fcp _ p w' (hv.mono hb) (hp.mono th)
 generalize hB:w.heap.size=B at *
 cases hl0:opL (lsE E c)with
 | none=>
  rw[hl0]at P
  change AH _ _ _ _ (λe w'=>e= .returned (.pointer none)/\w'=w1)at P
  have HP:=AF (show∃E' R' code,A4 (.int .i64 18)= .returned (.int .i64 code)/\TPost w t m E w1 E'/\REq (trE E') R'/\FixS ok p (trE E) c R' code from⟨E,_,18,rfl,.refl h (by rw[hB];exact G),.refl _,.none (qX h hE hl0)⟩);clear h h1 hl0 G I J ac H hv hp hE a2;go_enter Tryz.func70,Tryz.ntmps70
  go_wp2_with (go_at_call 124;refine P.mono ?_;rintro e w' ⟨rfl,U⟩;obtain rfl:=U.symm)
  go_ret;exact HP.out
 | some l=>
  rw[hl0]at P
  change AH _ _ _ _ (λe w'=>e= .returned (ptB l.b)/\w'=w1)at P
  obtain⟨k,hk⟩:=opAt_E h hl0;obtain⟨ap,ch,ab,ad⟩:=m9 hl0;have hL:=h1.ln ab (Bb ad);have bi:=hL.st;have b0:=hL.tp
  cases hx:l.x.st with
  | true=>
   rw[hx]at bi;have HP:=AF (show∃E' R' code,A4 (.int .i64 10)= .returned (.int .i64 code)/\TPost w t m E w1 E'/\REq (trE E') R'/\FixS ok p (trE E) c R' code from⟨E,_,10,rfl,.refl h (by rw[hB];exact G),.refl _,.state hk (.inl hx)⟩);clear h h1 hl0 G I J ac H hv hp hE a2 hk ap ab ad hL b0 hx;generalize l.b=lb at *;go_enter Tryz.func70,Tryz.ntmps70
   go_wp2_with (go_at_call 124;refine P.mono ?_;rintro e w' ⟨rfl,U⟩;obtain rfl:=U.symm)
   go_ret;exact HP.out
  | false=>
   rw[hx]at bi;have an:l.x.tr.length<=64:=(hE.good _ (Bb hk.1)).len;have ak:=k_Len hL.trk;have av:=AF G;have HT:=AF h;by_cases ht:l.x.tr=[]
   ·have au:AH AE 128 #[ptB l.g] w1 λe w'=>e= .returned (.int .i64 0)/\AG w1.heap.size w1 w':=by rw[ht]at ak;exact ak
    have a1:w1.rangeAt B 0 cs:=λj v hv=>by rw[aE I,Bh];simpa using hv
    have ar:(AE.info? 39).map (·.size)=some 21:=Ab
    have am:B<w1.heap.size:=Aa
    have ax:=AF (show∀w',AG w1.heap.size w1 w'->w'.rangeAt B 0 cs from λw' hb j v hv=>by rw[hb.cell (p:=⟨B,_,none⟩) am];exact a1 j v hv);have ay:=AF (show(AE.info? 39).map (·.size)=some cs.length by rw[ar,H]);have HV:=AF J
    cases ok with
    | false=>
     have HP:=AF (show∀w2 w3,AG w1.heap.size w1 w2->AG w2.heap.size w2 w3->∃E' R' code,A4 (.int .i64 4)= .returned (.int .i64 code)/\TPost w t m E w3 E'/\REq (trE E') R'/\FixS false p (trE E) c R' code from λw2 w3 k2 k3=>⟨E,_,4,rfl,.refl h (by rw[hB];exact G.trans ((k2.trans (k3.mono k2.size)).mono Aa)),.refl _,.range hk hx ht rfl⟩);clear h h1 hl0 G I J ac H hv hp hE hk ap ab ad hL hx ak ht a1 ar am an;generalize l.b=lb at *;generalize l.g=lg at *;go_enter Tryz.func70,Tryz.ntmps70
     go_upto_region 8 with(first
      | (go_at_call 124;refine P.mono ?_;rintro e w' ⟨rfl,U⟩;obtain rfl:=U.symm)
      | (go_at_call 128;refine au.mono ?_;rintro e w2 ⟨rfl,k2⟩;have ao:=AF (ax.out w2 k2);have Z:=HV.out w2 (av.out.trans (k2.mono Aa));have K2:=AF k2;clear k2))
     refine CC ?_;refine EY rfl _ _ rfl B 0 rfl cs _ ao.out C7 rfl ay.out ?_;go_wp2_with (go_at_call 122;refine Z.mono ?_;rintro e w3 ⟨rfl,k3⟩;have HQ:=AF (HP.out w2 w3 K2.out k3);clear k3)
     go_ret;exact HQ.out
    | true=>
     have a7:=ad;obtain⟨E1,E2,L1,L2,aq,_,bt⟩:=zN ab a7;have HF:=AF (show∀Y C,AG w1.heap.size w1 Y->bh Y (.agg C.toArray) p->Y.cell? ⟨l.b,4,none⟩=some (.bool false)/\Y.frozen? ⟨l.b,4,none⟩=false/\
       (Y.setCell ⟨l.b,4,none⟩ (.bool true)).there l.b 5 C.length/\(AE.info? 39).map (·.size)=some C.toArray.size/\C.toArray.all (·.oneCell')=true/\
       ∃E' R' code,A4 (.int .i64 0)= .returned (.int .i64 code)/\TPost w t m E ((Y.setCell ⟨l.b,4,none⟩ (.bool true)).setCells l.b 5 C) E'/\REq (trE E') R'/\FixS true p (trE E) c R' code from λY C kb hi=>by
      have a5:TM Y t m (cZ E1 E2 c ch.rb ch.cap L1 L2 l):=by rw[<-aq];exact h1.below kb
      have a0:=a5.mid;have bq:AG B w Y:=G.trans (kb.mono Aa);have V:∃aa:List Value,Value.agg C.toArray= .agg aa.toArray/\aW Y _ aa:=hi;obtain⟨aa,e0,V⟩:=V;have e0:C=aa:=by injection e0 with e0;simpa using e0
      subst e0;refine⟨by have:=a0.st;rwa [hx]at this,a0.frz 4,by rw[show C.length=21 from aB V];exact a0.thr _,by rw[ar,Cc,show C.length=21 from aB V],EC (eD V),_,_,0,rfl,TPost.pre (by rw[hB];exact bq) h (by rw[aq];exact fixed_mem a5 hi),.refl _,?_⟩;have e2:trE E=(trE E1++L1.map λl=>(c,l.x))++(c,l.x)::((L2.map λl=>(c,l.x))++trE E2):=by rw[aq,gZ]
      rw[gZ];exact .ok e2 ap hx ht rfl)
     have HC:=AF ac;clear h h1 hl0 G I J ac H hv hp hE hk ap ab ad hL hx ak ht a1 ar am an a7 aq bt;generalize l.b=lb at *;generalize l.g=lg at *;go_enter Tryz.func70,Tryz.ntmps70
     go_upto_region 8 with(first
      | (go_at_call 124;refine P.mono ?_;rintro e w' ⟨rfl,U⟩;obtain rfl:=U.symm)
      | (go_at_call 128;refine au.mono ?_;rintro e w2 ⟨rfl,k2⟩;have ao:=AF (ax.out w2 k2);have Z:=HV.out w2 (av.out.trans (k2.mono Aa));have K2:=AF k2;clear k2))
     refine CC ?_;refine EY rfl _ _ rfl B 0 rfl cs _ ao.out C7 rfl ay.out ?_;go_upto_region 10 with(go_at_call 122;refine Z.mono ?_;rintro e w3 ⟨rfl,k3⟩;have K3:=AF (K2.out.trans (k3.mono K2.out.size));have a9:=AF (ax.out w3 K3.out);have a6:=HC.out w3 (av.out.trans (K3.out.mono Aa));clear k3)
     refine CC ?_;refine aD rfl (v:=ptB lb) (w':=w3) Ai ?_;refine aD rfl (v:=ptB lb) (w':=w3) Ai ?_;refine EY rfl _ _ rfl B 0 rfl cs _ a9.out C7 rfl ay.out ?_;refine Ck rfl (λK hK=> ?_);go_simp;go_at_call 97
     refine a6.mono ?_;rintro e Y ⟨v,rfl,b1,k4⟩;obtain⟨C,rfl,V⟩:=b1;obtain⟨b4,b2,bz,bp,bb,be⟩:=HF.out Y C (K3.out.trans (k4.mono K3.out.size)) ⟨C,rfl,V⟩;have HQ:=AF be;refine hK _ _ ?_;clear hK K V k4 be;refine aD rfl (v:=ptB lb) (w':=Y) Am ?_;refine aD rfl (v:=.pointer (some ⟨lb,4,none⟩)) (w':=Y) Am ?_;refine Ck rfl (λK hK=> ?_);go_simp;refine hK _ _ ?_;clear hK K;refine aD rfl (v:=ptB lb) (w':=Y.setCell ⟨lb,4,none⟩ (.bool true)) Am ?_;refine aD rfl (v:=.pointer (some ⟨lb,5,none⟩)) (w':=Y.setCell ⟨lb,4,none⟩ (.bool true)) Am ?_;refine wpList_store_mid rfl _ _ _ rfl lb 5 C.toArray rfl rfl (by simpa using bz) bp bb ?_;go_wp2;go_ret;exact HQ.out
   ·have HP:=AF (show∀w2,AG w1.heap.size w1 w2->∃E' R' code,A4 (.int .i64 10)= .returned (.int .i64 code)/\TPost w t m E w2 E'/\REq (trE E') R'/\FixS ok p (trE E) c R' code from λw2 k2=>⟨E,_,10,rfl,.refl h (by rw[hB];exact G.trans (k2.mono Aa)),.refl _,.state hk (.inr ht)⟩);have b3:(0:Int)<(l.x.tr.length:Int):=by have:=List.length_pos_iff.2 ht;omega
    change AH AE 128 #[ptB l.g] w1 _ at ak
    clear h h1 hl0 G I J ac H hv hp hE hk ap ab ad hL hx ht an a2;generalize l.b=lb at *;generalize l.g=lg at *;generalize (l.x.tr.length:Int)=n at *;go_enter Tryz.func70,Tryz.ntmps70
    go_wp2_with (first
     | (go_at_call 124;refine P.mono ?_;rintro e w' ⟨rfl,U⟩;obtain rfl:=U.symm)
     | (go_at_call 128;refine ak.mono ?_;rintro e w2 ⟨rfl,k2⟩;have HQ:=AF (HP.out w2 k2);clear k2))
    go_ret;exact HQ.out
section
variable {w:World} {g:Nat} {sl:Value} {S:List St}
theorem aa8{x:Value}{q:Fq}(h:IsQ w x q):∃cs,x= .agg cs.toArray/\aW w [q.raw] cs:=by
 obtain⟨a,c,b,d,e,C,G⟩:=h;exact⟨_,e,a,c,b,d,[],rfl,C,G,rfl⟩
set_option maxHeartbeats 1000000 in
theorem k_At(h:TrkS 223 w g sl S)(hS:GoodS S){a:Int}{z y:St}{c:Int}(hrd:Road S a z y c):AH AE 98 #[ptG g,.int .i64 a] w λe w'=>∃v,e= .returned (.tuple #[v,.int .i64 c])/\bh w' v (atP z y c a)/\AG w.heap.size w w':=by
 have hn:=hS.len;go_enter Tryz.func98,Tryz.ntmps98
 refine bW (n:=65) [(0,ptG g),(1,.int .i64 a)] λhk=> ?_
 repeat first | refine AP ?_ | refine AY ?_
 refine bC ?_;refine vA hk 21 λ{_ W0 B vs} V hz hk=> ?_
 refine sZ hk ?_;intro _ hk;have h:=h.mono V.bel;obtain⟨ad,c1,hsl,f0⟩:=h.form;have hb:=AL W0.heap.size W0;refine sA hk ?_;intro _ hk;refine wC hk (ai Tryz.func164 rfl rfl) (k_around h (by omega) hrd) λ{e w1} hr=> ?_
 obtain⟨i,j,rfl,hij,hb1⟩:=hr;refine⟨_,rfl,λ_ hk=> ?_⟩;clear hb;refine sZ hk ?_;intro _ hk;by_cases hc:c=0
 ·subst hc;obtain⟨hi,hj,hij⟩:=hij rfl;obtain⟨b,o,c2,e,hst⟩:=h.parts (ii hi);subst hsl;injection e with e1 e2 e3;subst e1;subst e3;clear e2;obtain⟨f1,cz,hcz,f2,f3⟩:=hst _ z hi;have hil:=(A5.1 hi).1;have hjl:=(A5.1 hj).1;refine sX hk ?_;intro _ hk
  repeat first | refine AP ?_ | refine AY ?_
  refine aX hk rfl (Bm ?_)
  repeat first | with_reducible refine thn ?_ | with_reducible refine ibn ?_
  refine sA hk ?_;intro _ hk;refine vA hk 22 λV9 hz9 hk=> ?_
  refine vFS V9 hz9 hcz hk λ{_ W9} V9 _ hk=> ?_
  refine wln ?_
  repeat first | with_reducible refine thn ?_ | with_reducible refine ibn ?_
  have b9:=hb1.trans (V9.bel.mono hb1.size);obtain⟨g1,g2,g3⟩:=V9.st hcz;have r9:=AL W9.heap.size W9;have gz:=hS.at hi;have gy:=hS.at hj;rcases hij with⟨rfl,ey,rfl⟩ | ⟨hne,hza,hay⟩
  ·rw[show atP z z 0 a=z.pose by simp[atP]];refine sX hk ?_;intro _ hk
   repeat first | refine AP ?_ | refine AY ?_
   refine bu hk rfl ?_;refine sA hk ?_;intro _ hk;refine wC hk (ai Tryz.func165 rfl rfl) (q_clS _ z W9 ⟨cz,rfl,hcz.mono b9⟩ (gz.ok.mono (by decide))) λ{e w3} hr=> ?_
   obtain⟨_,rfl,⟨cs2,rfl,hc2⟩,hb3⟩:=hr;refine⟨_,rfl,λ_ hk=> ?_⟩;refine wY hk (.agg cs2.toArray) (kx_fd hk rfl rfl (by rw[aB hc2];rfl)) λhk=> ?_
   have V4:=V.next (b9.trans (hb3.mono b9.size));refine vFR V4 hc2 hz hk λV5 U hk=> ?_
   refine sZ hk ?_;intro _ hk;refine Bk ?_
   repeat first | refine ck ?_ | refine cN ?_
   refine A6 (V5.ret (by rw[Cc,aB hc2];rfl) rfl _ (hk.getD (i:=4) rfl)) hk.df ?_;rw[hk.getD (i:=5) rfl];exact⟨_,rfl,⟨cs2,rfl,hc2.upd V4.own U⟩,V5.bel⟩
  ·have z0:=gz.lo;have z1:=gz.hi;have y0:=gy.lo;have y1:=gy.hi;obtain⟨f4,cy,hcy,f5,f6⟩:=hst _ y hj;refine sX hk ?_;intro _ hk
   repeat first | refine AP ?_ | refine AY ?_
   refine aX hk rfl (Bm ?_)
   repeat first | with_reducible refine thn ?_ | with_reducible refine ibn ?_
   refine sA hk ?_;intro _ hk;refine vA hk 22 λV10 hz10 hk=> ?_
   refine vFS V10 hz10 hcy hk λ{_ W10} V10 _ hk=> ?_
   refine wln ?_
   repeat first | with_reducible refine thn ?_ | with_reducible refine ibn ?_
   have b10:=b9.trans (V10.bel.mono b9.size);have g1:=g1.mono V10.bel;have g2:=g2.mono V10.bel;obtain⟨k1,k2,k3⟩:=V10.st hcy;have r10:=AL W10.heap.size W10;refine sA hk ?_;intro _ hk;refine vN hk ((a - z.tm)) λhk=> ?_
   refine sD hk ?_;intro _ hk;refine vN hk ((y.tm - z.tm)) λhk=> ?_
   refine wC hk (ai Tryz.func166 rfl rfl) (wJ (a - z.tm) (y.tm - z.tm) W10 (by omega) (by omega) (by omega) (by omega) (by omega)) λ{e w11} hr=> ?_
   obtain⟨v,rfl,hq,hb11⟩:=hr;obtain⟨cm,rfl,hcm⟩:=aa8 hq;refine⟨_,rfl,λ_ hk=> ?_⟩;refine sD hk ?_;intro _ hk;refine vA hk 3 λV11 hz11 hk=> ?_
   refine vFR V11 hcm hz11 hk λ{_ W11} V11 _ hk=> ?_
   refine sZ hk ?_;intro _ hk;have b11:=hb11.trans (V11.bel.mono hb11.size);have b12:=b10.trans (b11.mono b10.size);have g2:=g2.mono b11;have k2:=k2.mono b11;have f:=V11.fr hcm;have r11:=AL W11.heap.size W11;refine sA hk ?_;intro _ hk;refine wC hk (ai Tryz.func167 rfl rfl) (xb _ _ _ z.pose y.pose (Fq.ratio (a - z.tm) (y.tm - z.tm)) W11 ⟨cz,rfl,hcz.mono b12⟩ ⟨cy,rfl,hcy.mono b12⟩ (hq.mono V11.bel) (gz.ok.mono (by decide)) (gy.ok.mono (by decide)) ((fS (by omega) (by omega) (by omega) (by omega) (by omega)).mono (by decide)) gz.good gy.good (dk (by omega)) (hS.adj i z y hi (by rw[<-hne];exact hj))) λ{e w13} hr=> ?_
   obtain⟨_,rfl,⟨cr,rfl,hcr⟩,hb13⟩:=hr;refine⟨_,rfl,λ_ hk=> ?_⟩;refine sD hk ?_;intro _ hk;have V4:=V.next (b12.trans (hb13.mono b12.size));refine vFR V4 hcr hz hk λV5 U hk=> ?_
   refine sZ hk ?_;intro _ hk;refine Bk ?_
   repeat first | refine ck ?_ | refine cN ?_
   refine A6 (V5.ret (by rw[Cc,aB hcr];rfl) rfl _ (hk.getD (i:=4) rfl)) hk.df ?_;rw[hk.getD (i:=5) rfl,show atP z y 0 a=_ from(if_neg (by simp)).trans (if_neg (by omega))];exact⟨_,rfl,⟨cr,rfl,hcr.upd V4.own U⟩,V5.bel⟩
 ·rw[show atP z y c a=Pq.zero from if_pos hc];refine sX hk ?_;intro _ hk
  repeat first | refine AP ?_ | refine AY ?_
  refine bu hk rfl ?_
  repeat first | refine AP ?_ | refine AY ?_
  refine bC ?_;refine wY hk (.agg aC.toArray) (by unfold aC;go_simp;try rfl) λhk=> ?_
  refine sD hk ?_;intro _ hk;obtain⟨cs,e,hcs⟩:=iS w1;injection e with e;refine vFR (V.next hb1) (cs:=aC) (rs:=Pq.zero.cs.map Fq.raw) (by rw[show aC=cs from by simpa using congrArg Array.toList e];exact hcs) hz hk λV2 _ hk=> ?_
  refine sZ hk ?_;intro _ hk;refine Bk ?_
  repeat first | refine ck ?_ | refine cN ?_
  refine A6 (V2.ret rfl rfl _ (hk.getD (i:=4) rfl)) hk.df ?_;rw[hk.getD (i:=5) rfl];exact⟨_,rfl,iS _,V2.bel⟩
end
section
open Classical
theorem xP{q:Pq}{a b:Int}(h:(St.mk a p).raw=(St.mk b q).raw):p=q:=by
 have e:∀x y:Fq,x.raw=y.raw->x=y:=λx y h=>by
  obtain⟨s,p,q⟩:=x;obtain⟨H,C,G⟩:=y;simp only[Fq.raw,Rq.mk.injEq]at h;obtain⟨h1,_,h2,_,h3⟩:=h;subst h1;subst h2;subst h3;rfl
 simp only[St.raw,RSt.mk.injEq]at h;obtain⟨_,h0,h1,h2,h3,h4,h5,h6⟩:=h;obtain⟨⟨w,x,y,z⟩,⟨u,v,t⟩⟩:=p;obtain⟨⟨w',J,K,P⟩,⟨I,v',t'⟩⟩:=q;simp only at h0 h1 h2 h3 h4 h5 h6;rw[e _ _ h0,e _ _ h1,e _ _ h2,e _ _ h3,e _ _ h4,e _ _ h5,e _ _ h6]
theorem q_Val(i:bh w v p)(h:p.ok 2):AH AE 122 #[v] w λe w'=>e= .returned (.bool (decide p.good))/\AG w.heap.size w w':=by
 by_cases g:p.good
 ·rw[decide_eq_true g];exact q_poValid v p w i (h.mono th) g
 ·rw[decide_eq_false g];have k:=St.sm (s:=⟨0,p⟩) h;have:=zK v _ _ _ _ _ _ _ w i k.h0.1 k.h0.2 k.h1.1 k.h1.2 k.h2.1 k.h2.2 k.h3.1 k.h3.2 k.h4.1 k.h4.2 k.h5.1 k.h5.2 k.h6.1 k.h6.2;have e:oZ p.rot.w.raw p.rot.x.raw p.rot.y.raw p.rot.z.raw p.pos.x.raw p.pos.y.raw p.pos.z.raw=false:=EM.2 (λe=>by
   obtain⟨s,h1,h2⟩:=xy (x:=(St.mk 0 p).raw) e;exact g (xP (b:=s.tm) h1▸h2))
  rw[e]at this;exact this
theorem q_rVal(i:bh w v p)(h:p.ok 2):AH AE 158 #[v] w λe w'=>e= .returned (.bool (decide p.good))/\AG w.heap.size w w':=by
 by_cases g:p.good
 ·rw[decide_eq_true g];exact q_rpValid v p w i (h.mono th) g
 ·rw[decide_eq_false g];have k:=St.sm (s:=⟨0,p⟩) h;have:=zL v _ _ _ _ _ _ _ w i k.h0.1 k.h0.2 k.h1.1 k.h1.2 k.h2.1 k.h2.2 k.h3.1 k.h3.2 k.h4.1 k.h4.2 k.h5.1 k.h5.2 k.h6.1 k.h6.2;have e:oZ p.rot.w.raw p.rot.x.raw p.rot.y.raw p.rot.z.raw p.pos.x.raw p.pos.y.raw p.pos.z.raw=false:=EM.2 (λe=>by
   obtain⟨s,h1,h2⟩:=xy (x:=(St.mk 0 p).raw) e;exact g (xP (b:=s.tm) h1▸h2))
  rw[e]at this;exact this
end
section
variable {w:World} {g:Nat} {sl:Value} {S:List St}
theorem Vp.mono{q:Vp}(h:q.p w v)(hb:AG w.heap.size w w'):q.p w' v:=(q.ch w w' _ v h (Chg.below hb) (λ_ _ h=>h)).1
variable{T:TypeId}
theorem TrkM.keep(h:TrkS T w g sl S)(hb:AG w.heap.size w w'):TrkM T w g sl S w':=⟨⟨sl,h.mono hb,λ_ h=>.inl h⟩,Ent.kept.refl.below hb⟩
theorem TrkM.set{C:World}{x v':Value}{S':List St}(U:g<w.heap.size)(k:(Ent.mk w (λx=>x=g) []).kept C)(hc:C.heap[g]? =some (.cells #[x] T (0,0)))(P:noU x)(hr:(Vp.row stT S'.length (bx S')).p C v')(hf:∀b,v'.ownBlock=some b->w.heap.size<=b/\bF C b):TrkM T w g sl S' (C.setCell ⟨g,0,none⟩ v')/\TrkS T (C.setCell ⟨g,0,none⟩ v') g v' S':=by
 have G:∀b,v'.ownBlock=some b->b≠g:=λb hb e=>by have:=(hf b hb).1;omega
 have u:=Upd.cell C g 0 v';have K:bF C g:=.mk' hc (λk n H=>by
  cases k with
  | zero=>simp at H;exact P n H
  | succ k=>simp at H)
 have I:=((Vp.row stT S'.length (bx S')).ch C _ _ v' hr (Chg.upd K u) (λb hb e=>G b (by obtain⟨o,n,c,rfl⟩:=hb;rfl) e)).1;have J:TrkS T (C.setCell ⟨g,0,none⟩ v') g v' S':=⟨by rw[Go.heap_setCell_same C g 0 _ _ v' hc];rfl,I,G⟩;exact⟨⟨⟨v',J,λb hb=>.inr ⟨(hf b hb).1,(hf b hb).2.blk (u.block b (G b hb)) (by rw[u.size];exact AK _)⟩⟩,k.upd u (.inr rfl)⟩,J⟩
section
variable {v vx:Value} {n d i B:Nat} {o:Oper} {l:List (Nat×Value)} {a:Act} {ops:Array Oper} {Q:Bf->Act->World->Prop} {md:Region.Mode} {fuel:Nat} {listed:Array Bool} {P:A0} {H:World->Prop} {w':World} {cs:List Value} {s:St} {x y:AZ} {t e:TypeId}
theorem yV(i:Nat)(U:Kn n l a)(v:Value)(w':World)(hy:∀ {o},ops[i]? =some o->(execOp a.eval o).run P w= .ok (.value v) w')(G:H w')(h:∀ {a'},Kn n ((d,v)::l) a'->wpAnyH P md ops Q H fuel (listed.setIfInBounds i true) a' w')(hr:BV md ops listed=[i]:=by kernel_rfl)(hi:ops[i]? =some o:=by rfl)(I:o.dst=some d:=by rfl)(hn:d<n:=by decide)(J:o.guard=none:=by rfl):wpAnyH P md ops Q H (fuel+1) listed a w:=
 wpAnyH_all hr Ag λj K=>by
  obtain rfl:j=i:=by simpa using K
  exact jE U hi I hn J (hy hi) (λa' C=>⟨G,h C⟩)
theorem yW(i:Nat)(hk:Kn n l a)(w':World)(hy:∀ {o},ops[i]? =some o->(execOp a.eval o).run P w= .ok .skip w')(hS:H w')(h:∀ {a'},Kn n l a'->wpAnyH P md ops Q H fuel (listed.setIfInBounds i true) a' w')(hr:BV md ops listed=[i]:=by kernel_rfl)(hi:ops[i]? =some o:=by rfl)(hd:o.dst=none:=by rfl)(hg:o.guard=none:=by rfl):wpAnyH P md ops Q H (fuel+1) listed a w:=
 wpAnyH_all hr (by simp) λj hj=>by
  obtain rfl:j=i:=by simpa using hj
  exact wpOp_s hk hi hd hg (hy hi) (λa' hk'=>⟨hS,h hk'⟩)
theorem ld_st(h:w.heap[B]? =some (.cells (AW .i64 s.tm::cs).toArray 120 (0,0)))(hl:cs.length=21):(CN 120 (.pointer (some ⟨B,0,none⟩))).run AE w= .ok (.agg (AW .i64 s.tm::cs).toArray) w:=
 LdB.row (w0:=w) D3 rfl (by rw[Bz,hl];rfl) (A8.1 h).1 (λj v C=>by rw[aE h,Bh];simpa using C) w (AL _ _)
theorem aa9(hl:cs.length=21):(Instr.buildSlice 183 1 #[(0,.agg (AW .i64 s.tm::cs).toArray)]).run AE w= .ok (.slice (some ⟨w.heap.size,0,none⟩) 1 1) (w.alloc (.cells (AW .i64 s.tm::cs).toArray 120)):=by
 generalize s.tm=a
 match cs,hl with
 | [c0,c1,c2,c3,c4,c5,c6,c7,c8,c9,c10,c11,c12,c13,c14,c15,c16,c17,c18,c19,c20],_=>go_simp
theorem aba{W:World}{B:Nat}(h:W.heap[B]? =some (.cells (AW .i64 s.tm::cs).toArray stT (0,0)))(hc:aW W (s.pose.cs.map Fq.raw) cs):(Vp.row stT 1 s.qs).p W (.slice (some ⟨B,0,none⟩) 1 1):=
 .inr ⟨B,0,1,_,rfl,AK _,h,λj q C=>by
  obtain⟨u,h1,h2⟩:=st_qs (x:=s.raw) (cs:=cs) hc C;have h1:(AW .i64 s.tm::cs)[j]? =some u:=h1;exact⟨u,by rw[Bh];simpa using h1,h2⟩⟩
theorem py{x:Value}{ad:Option Addr}{c:Nat}(h:w.heap[g]? =some (.cells #[x] T (0,0))):(EH 183 (.pointer (some ⟨g,0,none⟩)) (.slice ad m c)).run AE w= .ok () (w.setCell ⟨g,0,none⟩ (.slice ad m c)):=by
 have h2:w.cell? ⟨g,0,none⟩=some x:=by rw[aE h];rfl
 have h3:w.frozen? ⟨g,0,none⟩=false:=by simp[Dg,h]
 clear h;go_simp
theorem kx_sf{vx:Value}{r:Value}(C:Kn n l a)(G:o.op= .slice t x (some y) none none)(I:evK l x=some vx)(hy:evK l y=some v)(hr:(Instr.sliceAt t vx (some v) none none).run P w= .ok r w):(execOp a.eval o).run P w= .ok (.value r) w:=by
 unfold execOp;simp only[G];rw[C.evx I];simp only[BF,Option.map_none];rw[C.evx hy];simp only[AO,hr];rfl
end
end
section
open Classical
variable {w:World} {g:Nat} {sl:Value} {S:List St}
theorem q_oppP{va vb:Value}{a b:Pq}(ia:bh w va a)(I:bh w vb b)(ha:a.ok 2)(hb:b.ok 2)(C:a.good)(G:b.good):AH AE 186 #[va,vb] w λe w'=>e= .returned (.bool (decide (opp a b)))/\AG w.heap.size w w':=by
 by_cases h:opp a b
 ·rw[decide_eq_true h];exact q_op1 va vb a b w ia I (ha.mono th) (hb.mono th) C G h
 ·rw[decide_eq_false h];exact q_op0 va vb a b w ia I (ha.mono th) (hb.mono th) C G h
theorem q_eqlP{va vb:Value}{a b:Pq}(ia:bh w va a)(I:bh w vb b)(ha:a.ok 2)(hb:b.ok 2)(C:a.good)(G:b.good):AH AE 55 #[va,vb] w λe w'=>e= .returned (.bool (decide (a=b)))/\AG w.heap.size w w':=by
 by_cases h:a=b
 ·rw[decide_eq_true h];exact zn va vb a b w ia I (ha.mono th) (hb.mono th) h C G
 ·rw[decide_eq_false h];exact zo va vb a b w ia I (ha.mono th) (hb.mono th) h C G
noncomputable def gI(S:List St)(s:St):List St×Int:=by
 exact if s.tm<0\/1099511627776<s.tm\/¬s.pose.good then(S,4)else uG S s
theorem addQ_good{s:St}(h:s.pose.good):gI S s=uG S s:=by
 unfold gI uG;by_cases h1:s.tm<0\/1099511627776<s.tm
 ·rw[if_pos (by rcases h1 with h1 | h1;exact .inl h1;exact .inr (.inl h1)),if_pos h1]
 ·rw[if_neg (by rintro(k | k | k);exact h1 (.inl k);exact h1 (.inr k);exact k h)]
theorem addQ_ok{s:St}(h:GoodS S)(h2:s.pose.ok 2):GoodS (gI S s).1:=by
 by_cases g:s.pose.good
 ·rw[addQ_good g];exact addS_good h h2 g
 ·rw[show gI S s=(S,4)from if_pos (.inr (.inr g))];exact h
set_option maxHeartbeats 2000000 in
theorem k_Add{s:St}(h:TrkS 223 w g sl S)(i:zq w v s)(hs:s.pose.ok 2)(hS:GoodS S):AH AE 127 #[ptG g,v] w λe w'=>e= .returned (.int .i64 (gI S s).2)/\TrkM 223 w g sl (gI S s).1 w':=by
 have hn:=hS.len;obtain⟨cs,rfl,hcs⟩:=i;go_enter Tryz.func127,Tryz.ntmps127
 refine bW (n:=125) [(0,ptG g),(1,.agg (AW .i64 s.tm::cs).toArray)] λhk=> ?_
 repeat first | refine AP ?_ | refine AY ?_
 refine bC ?_;refine vX (rp hcs) hk λ{_ W B} V hk=> ?_
 refine sZ hk ?_;intro _ hk;obtain⟨f1,f2,f3⟩:=V.st hcs;have hb:=AL W.heap.size W;have hm:=h.mono V.bel;obtain⟨ad,c1,hsl,f0⟩:=hm.form;have hvl:=q_Val (w:=W) ⟨cs,rfl,hcs.mono V.bel⟩ hs;have hx4:∀w',AG W.heap.size W w'->(S,(4:Int))=gI S s->TrkM 223 w g sl (gI S s).1 w':=λw' hb e=>by
  rw[<-e];exact .keep h (V.bel.trans (hb.mono V.bel.size))
 refine sX hk ?_;intro _ hk
 repeat first | refine AP ?_ | refine AY ?_
 refine aX hk rfl ?_;by_cases h1:s.tm<0
 ·have e:(S,(4:Int))=gI S s:=(if_pos (.inl h1)).symm;refine sX hk ?_;intro _ hk
  repeat first | refine AP ?_ | refine AY ?_
  refine bu hk rfl ?_;refine sX hk ?_;intro _ hk;refine Bk ?_
  repeat first | refine ck ?_ | refine cN ?_
  refine A6 (B9 rfl _ _ _) hk.df ?_;rw[hk.getD (i:=4) rfl];exact⟨by rw[<-e],hx4 _ hb e⟩
 ·by_cases h2:1099511627776<s.tm
  ·have e:(S,(4:Int))=gI S s:=(if_pos (.inr (.inl h2))).symm;refine sX hk ?_;intro _ hk
   repeat first | refine AP ?_ | refine AY ?_
   refine bu hk rfl ?_;refine sX hk ?_;intro _ hk;refine Bk ?_
   repeat first | refine ck ?_ | refine cN ?_
   refine A6 (B9 rfl _ _ _) hk.df ?_;rw[hk.getD (i:=4) rfl];exact⟨by rw[<-e],hx4 _ hb e⟩
  ·refine sA hk ?_;intro _ hk;refine wC hk (ai Tryz.func122 rfl rfl) (hvl) λ{e w1} hr=> ?_
   obtain⟨rfl,hb1⟩:=hr;refine⟨_,rfl,λ_ hk=> ?_⟩;by_cases h3:s.pose.good
   ·have e:gI S s=uG S s:=if_neg (by simp[h1,h2,h3]);rw[decide_eq_true h3]at hk;refine sZ hk ?_;intro _ hk
    repeat first | refine AP ?_ | refine AY ?_
    refine aX hk rfl (Bm ?_)
    repeat first | with_reducible refine thn ?_ | with_reducible refine ibn ?_
    rw[e];unfold uG;rw[if_neg (by omega)];have hx:∀w',AG W.heap.size W w'->TrkM 223 w g sl S w':=λw' hb=>.keep h (V.bel.trans (hb.mono V.bel.size))
    have his:∀w',AG W.heap.size W w'->bh w' (.agg cs.toArray) s.pose:=λw' hb=>⟨cs,rfl,(hcs.mono V.bel).mono hb⟩
    clear hx4 hvl e;refine sA hk ?_;intro _ hk;refine wC hk (ai Tryz.func185 rfl rfl) (k_place (hm.mono hb1) s.tm (by omega)) λ{e w2} hr=> ?_
    obtain⟨rfl,hb2⟩:=hr;refine⟨_,rfl,λ_ hk=> ?_⟩;refine sZ hk ?_;intro _ hk;have hb3:=hb1.trans (hb2.mono hb1.size);have hp:=gH S s.tm;clear hb hb1 hb2;have hk:=hk.ct (l':=[(0,ptG g),(3,.pointer (some ⟨B,0,none⟩)),(5,.int .i64 ((plN S s.tm:Nat):Int))]);have hy:∀y,S[plN S s.tm]? =some y->∃b o c,sl= .slice (some ⟨b,o,none⟩) S.length c/\StL W b (o+plN S s.tm*22) y:=λy hy=>by
     obtain⟨b,o,c2,e,hst⟩:=hm.parts (ii hy);exact⟨b,o,c2,e,hst _ y hy⟩
    refine fW (λa' w'=>Kn 125 [(0,ptG g),(3,.pointer (some ⟨B,0,none⟩)),(5,.int .i64 ((plN S s.tm:Nat):Int))] a'/\AG W.heap.size W w'/\¬∃y,S[plN S s.tm]? =some y/\y.tm=s.tm) ?_ (λa' w' hI=> ?_)
    ·by_cases hlt:plN S s.tm<S.length
     ·obtain⟨y,hyy⟩:∃y,S[plN S s.tm]? =some y:=⟨_,AU hlt⟩;obtain⟨b,o,c2,e,f4,cy,hcy,f5,f6⟩:=hy y hyy;subst hsl;injection e with e1 e2 e3;subst e1;subst e3;clear e2;have gy:=hS.at hyy;by_cases ey:y.tm=s.tm
      ·refine uX hk ?_;intro _ hk w' hw'
       repeat first | refine AP ?_ | refine AY ?_
       refine bu hk rfl ?_;by_cases ep:y.pose=s.pose
       ·rw[if_pos ⟨y,hyy,ey,ep⟩];refine uA hk ?_;intro _ hk;refine uC hk (.bool true) (ai Tryz.func55 rfl rfl) (λw hb=>by have:=q_eqlP (w:=w) ⟨cy,rfl,hcy.mono hb⟩ (his w hb) gy.ok hs gy.good h3;rwa [decide_eq_true ep]at this) λhk=> ?_
        refine wqn (λw' hw'=> ?_)
        repeat first | with_reducible refine thn ?_ | with_reducible refine ibn ?_
        repeat first | refine AP ?_ | refine AY ?_
        refine bu hk rfl ?_;refine sX hk ?_;intro _ hk;refine Bk ?_
        repeat first | refine ck ?_ | refine cN ?_
        refine A6 (B9 rfl _ _ _) hk.df ?_;rw[hk.getD (i:=4) rfl];exact⟨rfl,hx _ (by assumption)⟩
       ·rw[if_neg (by rintro⟨y',h,_,h2⟩;rw[hyy]at h;injection h with h;subst h;exact ep h2),if_pos ⟨y,hyy,ey⟩];refine uA hk ?_;intro _ hk;refine uC hk (.bool false) (ai Tryz.func55 rfl rfl) (λw hb=>by have:=q_eqlP (w:=w) ⟨cy,rfl,hcy.mono hb⟩ (his w hb) gy.ok hs gy.good h3;rwa [decide_eq_false ep]at this) λhk=> ?_
        refine wqn (λw' hw'=> ?_)
        repeat first | with_reducible refine thn ?_ | with_reducible refine ibn ?_
        repeat first | refine AP ?_ | refine AY ?_
        refine aX hk rfl (Bm ?_)
        repeat first | with_reducible refine thn ?_ | with_reducible refine ibn ?_
        refine sX hk ?_;intro _ hk;refine Bk ?_
        repeat first | refine ck ?_ | refine cN ?_
        refine A6 (B9 rfl _ _ _) hk.df ?_;rw[hk.getD (i:=4) rfl];exact⟨rfl,hx _ (by assumption)⟩
      ·refine uX hk ?_;intro _ hk w' hw'
       repeat first | refine AP ?_ | refine AY ?_
       refine aX hk rfl (Bm ?_)
       repeat first | with_reducible refine thn ?_ | with_reducible refine ibn ?_
       exact⟨hk.ct,by assumption,by rintro⟨y',h,h2⟩;rw[hyy]at h;injection h with h;subst h;exact ey h2⟩
     ·subst hsl;refine uX hk ?_;intro _ hk w' hw'
      repeat first | refine AP ?_ | refine AY ?_
      refine aX hk rfl (Bm ?_)
      repeat first | with_reducible refine thn ?_ | with_reducible refine ibn ?_
      exact⟨hk.ct,by assumption,by rintro⟨y',h,h2⟩;exact hlt (A5.1 h).1⟩
    ·obtain⟨hk,hb,hny⟩:=hI;rw[if_neg (by rintro⟨y,h,h2,_⟩;exact hny ⟨y,h,h2⟩),if_neg hny];obtain⟨ob,hob⟩:∃ob:Bool,ob=decide ((∃z,0<plN S s.tm/\S[plN S s.tm - 1]? =some z/\opp z.pose s.pose)\/∃y,S[plN S s.tm]? =some y/\opp s.pose y.pose):=⟨_,rfl⟩;have hop:∀ {x y:Pq} {vx vy:Value},bh W vx x->bh W vy y->x.ok 2->y.ok 2->x.good->y.good->∀b,decide (opp x y)=b->∀w',AG W.heap.size W w'->AH AE 186 #[vx,vy] w' λe w1=>e= .returned (.bool b)/\AG w'.heap.size w' w1:=λix iy hx hy gx gy b e w' hb=>e▸q_oppP (ix.mono hb) (iy.mono hb) hx hy gx gy
     have is0:bh W (.agg cs.toArray) s.pose:=⟨cs,rfl,hcs.mono V.bel⟩;refine fW (λa' w'=>Kn 125 [(0,ptG g),(3,.pointer (some ⟨B,0,none⟩)),(5,.int .i64 ((plN S s.tm:Nat):Int))] a'/\AG W.heap.size W w'/\ob=false) ?_ (λa' w' hI=> ?_)
     ·refine fW (λa' w'=>Kn 125 [(0,ptG g),(3,.pointer (some ⟨B,0,none⟩)),(5,.int .i64 ((plN S s.tm:Nat):Int)),(96,.bool ob)] a'/\AG W.heap.size W w') ?_ (λa' w' hI=> ?_)
      ·have hyp:(S.length<=plN S s.tm/\∀y,S[plN S s.tm]? ≠some y)\/∃y b o c,plN S s.tm<S.length/\S[plN S s.tm]? =some y/\sl= .slice (some ⟨b,o,none⟩) S.length c/\StL W b (o+plN S s.tm*22) y:=by
        by_cases hlt:plN S s.tm<S.length
        ·obtain⟨b,o,c,e⟩:=hy _ (AU hlt);exact .inr ⟨_,b,o,c,hlt,AU hlt,e⟩
        ·exact .inl ⟨by omega,λy h=>hlt (A5.1 h).1⟩
       by_cases h0:0<plN S s.tm
       ·obtain⟨z,hz⟩:∃z,S[plN S s.tm - 1]? =some z:=⟨_,AU (by omega)⟩;obtain⟨b,o,c2,e,hst⟩:=hm.parts (ii hz);obtain⟨f4,cz,hcz,f5,f6⟩:=hst _ z hz;have gz:=hS.at hz;subst hsl;injection e with e1 e2 e3;subst e1;subst e3;clear e2;by_cases oz:opp z.pose s.pose
        ·obtain rfl:ob=true:=hob.trans (decide_eq_true (.inl ⟨z,h0,hz,oz⟩));refine uA hk ?_;intro _ hk;refine uN hk ((plN S s.tm - 1:Nat)) λhk=> ?_
         refine uD hk ?_;intro _ hk;refine uC hk (.bool true) (ai Et rfl rfl) (λw hb=>hop ⟨cz,rfl,hcz⟩ is0 gz.ok hs gz.good h3 _ (decide_eq_true oz) w hb) λhk=> ?_
         refine uZ hk ?_;intro _ hk w' hw';exact⟨hk.ct,by assumption⟩
        ·rcases hyp with⟨h4,h5⟩ | ⟨y,b',o',c',h4,hyy,e,f7,cy,hcy,f8,f9⟩
         ·obtain rfl:ob=false:=hob.trans (decide_eq_false (by rintro(⟨z',_,h,h6⟩ | ⟨y,h,_⟩);(rw[hz]at h;injection h with h;subst h;exact oz h6);exact h5 y h));refine uA hk ?_;intro _ hk;refine uN hk ((plN S s.tm - 1:Nat)) λhk=> ?_
          refine uD hk ?_;intro _ hk;refine uC hk (.bool false) (ai Et rfl rfl) (λw hb=>hop ⟨cz,rfl,hcz⟩ is0 gz.ok hs gz.good h3 _ (decide_eq_false oz) w hb) λhk=> ?_
          refine uZ hk ?_;intro _ hk w' hw';exact⟨hk.ct,by assumption⟩
         ·have gy:=hS.at hyy;injection e with e1 e2 e3;injection e1 with e1;injection e1 with e1 e4;subst e1;subst e4;subst e3;clear e2;obtain rfl:ob=decide (opp s.pose y.pose):=hob.trans (decide_eq_decide.2 ⟨by rintro(⟨z',_,h,h6⟩ | ⟨y',h,h6⟩);(rw[hz]at h;injection h with h;subst h;exact absurd h6 oz);(rw[hyy]at h;injection h with h;subst h;exact h6),λh=>.inr ⟨y,hyy,h⟩⟩);refine uA hk ?_;intro _ hk;refine uN hk ((plN S s.tm - 1:Nat)) λhk=> ?_
          refine uD hk ?_;intro _ hk;refine uC hk (.bool false) (ai Et rfl rfl) (λw hb=>hop ⟨cz,rfl,hcz⟩ is0 gz.ok hs gz.good h3 _ (decide_eq_false oz) w hb) λhk=> ?_
          refine uD hk ?_;intro _ hk;refine uC hk (_) (ai Et rfl rfl) (λw hb=>hop is0 ⟨cy,rfl,hcy⟩ hs gy.ok h3 gy.good _ rfl w hb) λhk=> ?_
          refine uZ hk ?_;intro _ hk w' hw';exact⟨hk.ct,by assumption⟩
       ·rcases hyp with⟨h4,h5⟩ | ⟨y,b',o',c',h4,hyy,e,f7,cy,hcy,f8,f9⟩
        ·obtain rfl:ob=false:=hob.trans (decide_eq_false (by rintro(⟨z',h,_⟩ | ⟨y,h,_⟩);exact h0 h;exact h5 y h));subst hsl;refine uX hk ?_;intro _ hk w' hw';exact⟨hk.ct,by assumption⟩
        ·have gy:=hS.at hyy;subst hsl;injection e with e1 e2 e3;subst e1;subst e3;clear e2;obtain rfl:ob=decide (opp s.pose y.pose):=hob.trans (decide_eq_decide.2 ⟨by rintro(⟨z',h,_⟩ | ⟨y',h,h6⟩);exact absurd h h0;(rw[hyy]at h;injection h with h;subst h;exact h6),λh=>.inr ⟨y,hyy,h⟩⟩);refine uA hk ?_;intro _ hk;refine uC hk (_) (ai Et rfl rfl) (λw hb=>hop is0 ⟨cy,rfl,hcy⟩ hs gy.ok h3 gy.good _ rfl w hb) λhk=> ?_
         refine uZ hk ?_;intro _ hk w' hw';exact⟨hk.ct,by assumption⟩
      ·obtain⟨hk,hb⟩:=hI
       cases ob with
       | true=>
        rw[if_pos (of_decide_eq_true hob.symm)]
        repeat first | refine AP ?_ | refine AY ?_
        refine bu hk rfl ?_;refine sX hk ?_;intro _ hk;refine Bk ?_
        repeat first | refine ck ?_ | refine cN ?_
        refine A6 (B9 rfl _ _ _) hk.df ?_;rw[hk.getD (i:=4) rfl];exact⟨rfl,hx _ hb⟩
       | false=>
        repeat first | refine AP ?_ | refine AY ?_
        refine aX hk rfl (Bm ?_)
        repeat first | with_reducible refine thn ?_ | with_reducible refine ibn ?_
        exact⟨hk.ct,hb,rfl⟩
     ·obtain⟨hk,hb,rfl⟩:=hI;rw[if_neg (of_decide_eq_false hob.symm)];clear hop hob hny his;subst hsl;have hSB:∀w',AG W.heap.size W w'->w'.heap[B]? =some (.cells (AW .i64 s.tm::cs).toArray 120 (0,0)):=λw' k=>(k.block B (A8.1 V.blk).1).trans V.blk
      have hl21:cs.length=21:=by rw[aB hcs];rfl
      have hgl:=(A8.1 h.blk).1;refine AP ?_;refine wp_region_held_drew (S:=λw'=>w'.heap[B]? =some (.cells (AW .i64 s.tm::cs).toArray 120 (0,0))) (by kernel_rfl) (hSB _ hb.drew) (λhH=> ?_);have hb3:=hb.drew;refine yK 0 hk hH λhk=> ?_
      refine yK 1 hk hH λhk=> ?_
      refine yK 2 hk hH λhk=> ?_
      refine yK 3 hk hH λhk=> ?_
      refine yK 6 hk hH λhk=> ?_
      refine yK 7 hk hH (λhk=> ?_) (hy:=λa w hk hw=>jG hk rfl rfl (ld_st hw hl21));refine yV 4 hk _ _ (λe=>by cases e;exact aa6 hk rfl rfl f0 hb3) hH λhk=> ?_
      refine jH hk (i:=5) (by kernel_rfl) rfl rfl rfl (by decide) (gA hk rfl rfl rfl (ai Tryz.func188 rfl rfl)) (xg _ S _ (hm.mono hb3).row (by omega)) (λe w4 hr=> ?_);obtain⟨v4,rfl,ho4,hf4,hb4⟩:=hr;have hb5:=hb3.trans (hb4.mono hb3.size);refine⟨v4,rfl,hSB _ hb5,λ_ hk=> ?_⟩;refine jH hk (i:=8) (by kernel_rfl) rfl rfl rfl (by decide) (gA hk rfl rfl rfl (ai Tryz.func165 rfl rfl)) (q_clS _ s w4 ⟨cs,rfl,(hcs.mono V.bel).mono hb5⟩ (hs.mono (by decide))) (λe w5 hr=> ?_);obtain⟨_,rfl,⟨c5,rfl,hc5⟩,hb6⟩:=hr;have hb7:=hb5.trans (hb6.mono hb5.size);refine⟨_,rfl,hSB _ hb7,λ_ hk=> ?_⟩;have V6:=VB.new w5 stT (AW .i64 s.tm::c5).toArray (by simpa using rp hc5);have hb8:=hb7.trans (V6.bel.mono hb7.size);refine yV 9 hk _ _ (λe=>by cases e;exact oq hk rfl rfl (aa9 (by rw[aB hc5];rfl))) (hSB _ hb8) λhk=> ?_
      have ho6:=Vp.mono (Vp.mono ho4 hb6) V6.bel;have hlt4:∀b,v4.ownBlock=some b->b<w4.heap.size:=λb hb=>(Vp.ownr stT 22 S.length (bx S)).lt w4 v4 b ho4 hb
      refine jH hk (i:=10) (by kernel_rfl) rfl rfl rfl (by decide) (gA hk rfl rfl rfl (ai Tryz.func187 rfl rfl)) (q_InsertS v4 _ S s (plN S s.tm) _ ho6 (aba V6.blk (hc5.mono V6.bel)) (λb hb a n c e=>by injection e with e;injection e with e;subst e;have:=hlt4 b hb;have:=hb6.size;show w5.heap.size≠b;omega) hp (by omega)) (λe w7 hr=> ?_);obtain⟨v7,rfl,ho7,hg7,_,hf7⟩:=hr;have hb9:AG W.heap.size W w7:=hb8.grown hg7 hb8.size (λb h=>AI hb3.size (hf4 b h));refine⟨_,rfl,hSB _ hb9,λ_ hk=> ?_⟩;refine yV 11 hk _ _ (λe=>by cases e;exact jF hk rfl rfl) (hSB _ hb9) λhk=> ?_
      refine yV 12 hk _ _ (λe=>by cases e;exact aa7 hk rfl rfl rfl) (hSB _ hb9) λhk=> ?_
      obtain⟨a7,c7,rfl⟩:=iL (eV ho7);have hc7:=(hb9.block g (Bt hgl V.bel.size)).trans hm.blk;obtain⟨hM,hT⟩:=TrkM.set (sl:=.slice ad S.length c1) (S':=fT S (plN S s.tm) s) hgl (Ent.kept.refl.below (V.bel.trans (hb9.mono V.bel.size))) hc7 (λn e=>by cases e) (by rw[gW hp];exact eV ho7) (λb hb=>by
       refine⟨?_,uy ho7 b hb⟩;have h1:=V.bel.size;have h2:=hb3.size;have h3:=hb8.size;rcases hf7 b hb with h | h
       ·have:=hf4 b h;omega
       ·omega)
      refine yW 13 hk _ (λe=>by cases e;exact tg hk rfl rfl rfl (py hc7)) ((Below.heap_setCell _ _ _ _ (by have:=V.ge;show B≠g;omega)).trans (hSB _ hb9)) λhk=>wpAnyH_done (by kernel_rfl) ?_ _
      clear hf7 ho7 hg7 hb9 hc7 ho6 hlt4 hb8 V6 hb7 hb6 hc5 hf4 ho4 hb5 hb4 hb3 hH hSB f0 f1 f2 f3;generalize w7.setCell ⟨g,0,none⟩ _=W8 at hM hT⊢;obtain⟨_,_,_,f8⟩:=hT.form;have hb:=AL W8.heap.size W8;have hk:=hk.ct (l':=[(0,ptG g)])
      repeat first | with_reducible refine thn ?_ | with_reducible refine ibn ?_
      by_cases h64:S.length<64
      ·rw[if_pos h64];refine sX hk ?_;intro _ hk
       repeat first | refine AP ?_ | refine AY ?_
       refine aX hk rfl (Bm ?_)
       repeat first | with_reducible refine thn ?_ | with_reducible refine ibn ?_
       refine sX hk ?_;intro _ hk;refine Bk ?_
       repeat first | refine ck ?_ | refine cN ?_
       refine A6 (B9 rfl _ _ _) hk.df ?_;rw[hk.getD (i:=4) rfl];exact⟨rfl,hM⟩
      ·rw[if_neg h64];obtain⟨y,hy,hrow,_⟩:=qK (p:=AE) (t:=183) (k:=1) Tryz.underlying183 (by kernel_rfl) hT.row (by rw[gW hp];omega);rw[<-Cv]at hrow;refine sX hk ?_;intro _ hk
       repeat first | refine AP ?_ | refine AY ?_
       refine bu hk rfl ?_;refine sA hk ?_;intro _ hk;refine wY hk y (kx_sf hk rfl rfl rfl hy) λhk=> ?_
       refine wC hk (ai Tryz.func188 rfl rfl) (xg y _ W8 hrow (by rw[Cv,gW hp];omega)) λ{e w9} hr=> ?_
       obtain⟨v9,rfl,ho9,hf9,hb9⟩:=hr;refine⟨_,rfl,λ_ hk=> ?_⟩;obtain⟨a9,c9,rfl⟩:=iL (eV ho9);have hc9:=(hb9.block g (Bt hgl hM.kept.size)).trans hT.blk;obtain⟨hM9,_⟩:=TrkM.set (sl:=.slice ad S.length c1) hgl (hM.kept.below hb9) hc9 (λn e=>by cases e) (eV ho9) (λb hb=>⟨AI hM.kept.size (hf9 b hb),uy ho9 b hb⟩);refine sD hk ?_;intro _ hk;refine wT hk (_) (hr:=py hc9) λhk=> ?_
       refine wln ?_
       repeat first | with_reducible refine thn ?_ | with_reducible refine ibn ?_
       refine sX hk ?_;intro _ hk;refine Bk ?_
       repeat first | refine ck ?_ | refine cN ?_
       refine A6 (B9 rfl _ _ _) hk.df ?_;rw[hk.getD (i:=4) rfl];exact⟨rfl,hM9⟩
   ·have e:(S,(4:Int))=gI S s:=(if_pos (.inr (.inr h3))).symm;rw[decide_eq_false h3]at hk;refine sZ hk ?_;intro _ hk
    repeat first | refine AP ?_ | refine AY ?_
    refine bu hk rfl ?_;refine sX hk ?_;intro _ hk;refine Bk ?_
    repeat first | refine ck ?_ | refine cN ?_
    refine A6 (B9 rfl _ _ _) hk.df ?_;rw[hk.getD (i:=4) rfl];exact⟨by rw[<-e],hx4 _ hb1 e⟩
end
section
open Classical
noncomputable abbrev xQ(a:Int)(p:Pq)(S:List St):List St×Int:=gI S ⟨a,p⟩
theorem q_SetP{a:Int}{cs:List Value}(h:TM w t m E)(I:TOk (trE E))(hv:bh w (.agg cs.toArray) p)(h2:p.ok 2):
  AH AE 69 #[ptB t,.string c,stV a cs] w λe w'=>∃E' R' code,e= .returned (.int .i64 code)/\TPost w t m E w' E'/\REq (trE E') R'/\SetS (xQ a p) (trE E) c a R' code:=by
 have U:=hv;obtain⟨G,C,hc⟩:=hv;have C:cs=G:=by injection C with C;simpa using C
 subst C;refine q_Set h (aB hc) _ (λw' g sl S J hb ht=> ?_);obtain⟨l,hl,rfl⟩:=J;have K:GoodS l.x.tr:=by
  unfold lsE at hl
  cases hch:chE E c with
  | none=>rw[hch]at hl;cases hl
  | some ch=>rw[hch]at hl;exact I.good _ (cG.2 ⟨ch,(cF hch).1,l,hl,rfl⟩)
 exact k_Add (s:=⟨a,p⟩) ht ⟨cs,rfl,aW.mono hc hb⟩ h2 K
theorem q_FixP{cs:List Value}(h:TM w t m E)(C:TOk (trE E))(hv:bh w (.agg cs.toArray) p)(h2:p.ok 2):
  AH AE 70 #[ptB t,.string c,.agg cs.toArray] w λe w'=>∃E' R' code,e= .returned (.int .i64 code)/\TPost w t m E w' E'/\REq (trE E') R'/\FixS (decide p.good) p (trE E) c R' code:=
 q_Fixed h C hv (h2.mono th) (λ_ hb=>q_Val (hv.mono hb) h2)
section
variable {R R':Tr} {c p:Nm} {a u e:Int} {q:Pq} {isN:Nm->Prop}
theorem DetS.tok(C:TOk R)(h:DetS R c u R' e):TOk R':=by
 cases h with
 | ok e h h1 h2=>subst e;exact C.det h h1 h2
 | _=>exact C
theorem SetS.tok(G:TOk R)(h2:q.ok 2)(h:SetS (xQ a q) R c a R' e):TOk R':=by
 cases h with
 | ok e h hs=>
  subst e;rename_i A B x;have I:(c,x)∈A++(c,x)::B:=AJ.2 (.inr (Bj ..));exact G.same (c:=c) rfl rfl rfl (addQ_ok (G.good _ I) h2) (λC=>by simp only at C;rw[hs]at C;cases C)
 | _=>exact G
theorem FixS.tok(C:TOk R)(h2:q.ok 2)(h:FixS (decide q.good) q R c R' e):TOk R':=by
 cases h with
 | ok e h hs ht hp=>
  subst e;rename_i A B x;have G:(c,x)∈A++(c,x)::B:=AJ.2 (.inr (Bj ..));exact C.same (c:=c) rfl rfl rfl (C.good _ G) (λ_=>⟨of_decide_eq_true hp,h2⟩)
 | _=>exact C
theorem DetS.tsm(C:TSm R)(h:DetS R c u R' e):TSm R':=by
 cases h with
 | ok e h h1 h2=>subst e;exact C.mid rfl
 | _=>exact C
theorem SetS.tsm{add:List St->List St×Int}(C:TSm R)(h:SetS add R c a R' e):TSm R':=by
 cases h with
 | ok e h hs=>subst e;exact C.mid rfl
 | _=>exact C
theorem FixS.tsm{ok:Bool}(C:TSm R)(h:FixS ok q R c R' e):TSm R':=by
 cases h with
 | ok e h hs ht hp=>subst e;exact C.mid rfl
 | _=>exact C
def rP(isN:Nm->Prop)(R:Tr):Prop:=∀q∈R,isN q.1/\isN q.2.par
theorem rP.mid{A B:Tr}{x C:Lk}(h:rP isN (A++(c,x)::B))(e:C.par=x.par):rP isN (A++(c,C)::B):=λq G=>by
 rcases AJ.1 G with h1 | h1
 ·exact h q (AJ.2 (.inl h1))
 ·rcases A3.1 h1 with rfl | h1
  ·have:=h (c,x) (AJ.2 (.inr (Bj ..)));exact⟨this.1,by rw[e];exact this.2⟩
  ·exact h q (AJ.2 (.inr (List.mem_cons_of_mem _ h1)))
theorem rP.att{f:Int}(h:rP isN R)(hc:isN c)(hp:isN p):rP isN (fx R c p f):=λq C=>by
 rcases AJ.1 C with h1 | h1
 ·exact h q h1
 ·simp only[List.mem_singleton]at h1;subst h1;exact⟨hc,hp⟩
theorem rP.req(h:rP isN R)(e:REq R R'):rP isN R':=λq C=>h q ((e.mem q).2 C)
structure Ax where
 k:Nat
 c:Nm
 p:Nm
 a:Int
 q:Pq
def DoS(R:Tr)(s:Ax)(R':Tr)(e:Int):Prop:=
 if s.k=1 then DetS R s.c s.a R' e else if s.k=2 then SetS (xQ s.a s.q) R s.c s.a R' e else if s.k=3 then FixS (decide s.q.good) s.q R s.c R' e else AttS cj R s.c s.p s.a R' e
structure Sane(R:Tr):Prop where
 ok:TOk R
 sm:TSm R
 nm:rP cj R
theorem Sane.nil:Sane []:=⟨.nil,.nil,λ_ h=>by cases h⟩
theorem Sane.req(h:Sane R)(e:REq R R'):Sane R':=⟨h.ok.of_req e,h.sm.of_req e,h.nm.req e⟩
theorem DoS.sane{s:Ax}(h:Sane R)(h2:s.q.ok 2)(d:DoS R s R' e):Sane R':=by
 unfold DoS at d;split at d
 ·refine⟨d.tok h.ok,d.tsm h.sm,?_⟩
  cases d with
  | ok e _ _ _=>have:=h.nm;rw[e]at this;exact this.mid rfl
  | _=>exact h.nm
 ·split at d
  ·refine⟨d.tok h.ok h2,d.tsm h.sm,?_⟩
   cases d with
   | ok e _ _=>have:=h.nm;rw[e]at this;exact this.mid rfl
   | _=>exact h.nm
  ·split at d
   ·refine⟨d.tok h.ok h2,d.tsm h.sm,?_⟩
    cases d with
    | ok e _ _ _ _=>have:=h.nm;rw[e]at this;exact this.mid rfl
    | _=>exact h.nm
   ·refine⟨d.tok h.ok,d.tsm h.sm,?_⟩
    cases d with
    | ok hn _ _ _ _ _ _ _ _=>exact h.nm.att hn.1 hn.2
    | _=>exact h.nm
end
structure TInv(w0 w:World)(t m:Nat)(E:List Ch):Prop where
 tm:TM w t m E
 sane:Sane (trE E)
 own:∀g∈fpT t m E,w0.heap.size<=g
 bel:AG w0.heap.size w0 w
variable{w0:World}
theorem TPost.bel{E':List Ch}(h:TPost w t m E w' E')(o:∀g∈fpT t m E,w0.heap.size<=g)(b:AG w0.heap.size w0 w):AG w0.heap.size w0 w':=
 ⟨h.kp.os.trans b.os,h.kp.tape.trans b.tape,h.kp.output.trans b.output,AI b.size h.kp.size,λk C=>(h.kp.block k (Bt C b.size) (λG=>by have:=o k G;omega)).trans (b.block k C)⟩
theorem TInv.next{E':List Ch}{R':Tr}{s:Ax}{e:Int}(h:TInv w0 w t m E)(k:TPost w t m E w' E')(r:REq (trE E') R')(d:DoS (trE E) s R' e)(h2:s.q.ok 2):TInv w0 w' t m E':=
 ⟨k.tm,(d.sane h.sane h2).req r.symm,λg C=>(k.fp g C).elim (h.own g) (λh1=>AI h.bel.size h1),k.bel h.own h.bel⟩
theorem TInv.below(h:TInv w0 w t m E)(b:AG w.heap.size w w'):TInv w0 w' t m E:=⟨h.tm.below b,h.sane,h.own,h.bel.trans (b.mono h.bel.size)⟩
end
section
open Go.ChangeShapes Go.WideShapes Go.ChangeAt Go.RowKit
structure Stp where
 k:Int
 c:Int
 p:Int
 a:Int
 x:Int
 u:Int
def Stp.cs(s:Stp):List Value:=[.int .u8 s.k,.int .u8 s.c,.int .u8 s.p,.int .i16 s.a,.int .i8 s.x,.int .u8 s.u]
abbrev Stp.val(s:Stp):Value:=.agg s.cs.toArray
structure Stp.Ok(s:Stp):Prop where
 k:0<=s.k/\s.k<256
 c:0<=s.c/\s.c<256
 p:0<=s.p/\s.p<256
 a: -32768<=s.a/\s.a<32768
 x: -128<=s.x/\s.x<128
 u:0<=s.u/\s.u<256
def ma(w:World)(v:Value)(R:List Stp):Prop:=(R=[]/\∃a c,v= .slice a 0 c)\/∃b o c,v= .slice (some ⟨b,o,none⟩) R.length c/\R≠ []/\b<w.heap.size/\∀i s,R[i]? =some s->∀j u,s.cs[j]? =some u->w.cell? ⟨b,o+(i*6+j),none⟩=some u
theorem ma.below{R:List Stp}(h:ma w v R)(k:AG w.heap.size w w'):ma w' v R:=
 h.imp id (λ⟨b,o,c,e,hn,hb,C⟩=>⟨b,o,c,e,hn,Bt hb k.size,λi s hi j u G=>by rw[k.cell (p:=⟨b,_,none⟩) hb];exact C i s hi j u G⟩)
section
variable {H:Type} {enc:TypeId×Value->H} {W:World}
variable{t:Int}
theorem xR(h:(Lit.int .u8 t).wf=true):0<=t/\t<256:=by
 simp[Lit.wf,IntKind.min,IntKind.max,IntKind.wrap,IntKind.bits,IntKind.signed]at h;omega
theorem i16_wf(h:(Lit.int .i16 t).wf=true): -32768<=t/\t<32768:=by
 simp[Lit.wf,IntKind.min,IntKind.max,IntKind.wrap,IntKind.bits,IntKind.signed]at h;omega
theorem i8_wf(h:(Lit.int .i8 t).wf=true): -128<=t/\t<128:=by
 simp[Lit.wf,IntKind.min,IntKind.max,IntKind.wrap,IntKind.bits,IntKind.signed]at h;omega
theorem open_stp{fuel:Nat}{l:List Value}{x:DataW H×List MemPlace}(hl:l.length=6)(hf:DataW.trod enc AE W 0 (λ_=>true) true fuel 67 l=some x):∃s:Stp,s.Ok/\l=s.cs:=by
 have h8:AE.cellsOf 5=1:=Ab
 have I:AE.cellsOf 49=1:=Ab
 have J:AE.cellsOf 65=1:=Ab
 obtain⟨xs,n,_,hx,_,G,C⟩:=DataW.trod_struct Tryz.underlying67 hf
 match xs,G with
 | [y0,y1,y2,y3,y4,y5],_=>
  have K:=C 0 _ rfl;have U:=C 1 _ rfl;have k2:=C 2 _ rfl;have k3:=C 3 _ rfl;have V:=C 4 _ rfl;have Y:=C 5 _ rfl;simp[Value.cells,h8,I,J]at K U k2 k3 V Y
  match l,hl with
  | [u0,u1,u2,u3,u4,u5],_=>
   simp at K U k2 k3 V Y;obtain⟨t0,Z,f0⟩:=EU DJ K;obtain⟨t1,e1,f1⟩:=EU DJ U;obtain⟨t2,e2,f2⟩:=EU DJ k2;obtain⟨t3,e3,f3⟩:=EU Tryz.underlying49 k3;obtain⟨t4,e4,f4⟩:=EU Tryz.underlying65 V;obtain⟨t5,e5,f5⟩:=EU DJ Y;simp at Z e1 e2 e3 e4 e5;subst Z e1 e2 e3 e4 e5;exact⟨⟨t0,t1,t2,t3,t4,t5⟩,⟨xR f0.2,xR f1.2,xR f2.2,i16_wf f3.2,i8_wf f4.2,xR f5.2⟩,rfl⟩
theorem zX{d:DataW H}{p:List MemPlace}{base:Nat}(ac:Value.okWide AE W .any base 62 v)(h:DataW.Trod enc AE W 0 (λ_=>true) true 62 v d p):
  ∃R:List Stp,(∀s∈R,s.Ok)/\ma W v R:=by
 obtain⟨a0,C,Z,rfl⟩:=okWide_slice Tryz.underlying62 ac;obtain⟨fuel,hf⟩:=h;have ak:AE.cellsOf 67=6:=Ab
 rcases Go.Deep.open_slice Tryz.underlying62 hf with⟨U,_⟩ | ⟨a,len,cap,m,n,D,Pl,U,_,an,_,hm,_,hx⟩
 ·simp[Value.cells]at U;obtain⟨rfl,rfl,rfl⟩:=U;exact⟨[],λ_ h=>(by cases h),.inl ⟨rfl,_,_,rfl⟩⟩
 ·simp[Value.cells]at U;obtain⟨rfl,rfl,rfl⟩:=U;have ao:C<=m:=by rw[hm];split<;>omega
  by_cases h0:C=0
  ·subst h0;exact⟨[],λ_ h=>(by cases h),.inl ⟨rfl,_,_,rfl⟩⟩
  ·have G:∀i,i<C->∃I,(∀j,j<6->W.cell? ((a.add (i*6)).add j)=I[j]?)/\I.length=6/\DataW.trod enc AE W 0 (λ_=>true) true n 67 I=some (D i,Pl i):=λi hi=>by
    obtain⟨I,h1,h2⟩:=hx i Aa;rw[ak]at h1;obtain⟨_,hl,J⟩:=World.cells?_some h1;exact⟨I,J,hl,h2⟩
   obtain⟨b,o,ad⟩:=a;have Y:ad=none:=by
    obtain⟨I,h1,h2,_⟩:=G 0 Aa;have h3:=h1 0 Aa;rw[AU (show 0<I.length by omega)]at h3;have h4:=World.cell?_spot h3;simpa [Addr.add]using h4
   subst Y;simp only[cE]at G;have am:∀i,∃s:Stp,i<C->s.Ok/\∀j u,s.cs[j]? =some u->W.cell? ⟨b,o+(i*6+j),none⟩=some u:=by
    intro i;by_cases hi:i<C
    ·obtain⟨I,J,hl,h2⟩:=G i hi;obtain⟨s,hs,rfl⟩:=open_stp hl h2;refine⟨s,λ_=>⟨hs,λj u hu=> ?_⟩⟩;have hj:j<6:=by have:=(A5.1 hu).1;exact this
     rw[<-CX,J j hj];exact hu
    ·exact⟨⟨0,0,0,0,0,0⟩,λh=>absurd h hi⟩
   obtain⟨f,aa⟩:=Classical.axiomOfChoice am;have K:((BO C).map f).length=C:=Ag
   have V:∀i s,((BO C).map f)[i]? =some s->i<C/\s=f i:=λi s hi=>by
    have ab:i<C:=by have:=(A5.1 hi).1;rw[K]at this;exact this
    rw[BB,D8 ab]at hi;exact⟨ab,by simpa using hi.symm⟩
   refine⟨(BO C).map f,λs hs=> ?_,.inr ⟨b,o,Z,by rw[K],λe=> ?_,?_,λi s hi=> ?_⟩⟩
   ·obtain⟨i,hi,e⟩:=BN hs;obtain⟨h1,h2⟩:=V i s AC;subst h2;exact(aa i h1).1
   ·rw[e]at K;exact h0 K.symm
   ·obtain⟨I,h1,h2,_⟩:=G 0 Aa;have h3:=h1 0 Aa;rw[AU (show 0<I.length by omega)]at h3;unfold World.cell? at h3;split at h3
    ·rename_i hh;exact(A8.1 hh).1
    ·cases h3
   ·obtain⟨h1,h2⟩:=V i s hi;subst h2;exact(aa i h1).2
end
end
def iZ:ByteArray:=ByteArray.mk #[102,103,104,105,106,107,108,109,110,111,112,113,114,115,116,117,118,119,120,121,122,97,98,99,100,101,65,66,67,68,69,70]
def aR(n:Int):Nm:=if n % 31=30 then q9 else iZ.extract (n % 31).toNat ((n % 31).toNat+1)
theorem tab_one:∀k:Nat,k<30->cj (iZ.extract k (k+1)):=by
 have h:∀k:Fin 30,∃c:UInt8,((97<=c.toNat/\c.toNat<=122)\/(65<=c.toNat/\c.toNat<=90))/\(iZ.extract k (k+1)).data.toList=[c]:=by
  intro k;refine⟨iZ.data[k.1]?.getD 0,?_⟩
  revert k
  decide
 intro k C;obtain⟨c,h1,h2⟩:=h ⟨k,C⟩;have h3:(iZ.extract k (k+1)).data=#[c]:=by rw[<-Array.toList_inj];exact h2
 have e:iZ.extract k (k+1)=nm1 c:=by
  cases hx:iZ.extract k (k+1)with
  | mk d=>rw[hx]at h3;simp only at h3;rw[h3]
 rw[e];exact isNm1 h1
theorem j6(n:Int)(h:0<=n):Nam (aR n):=by
 unfold aR;split
 ·exact .inr rfl
 ·exact .inl (tab_one _ Aa)
theorem run_slS{t:TypeId}{s:ByteArray}{c:Int}(ht:yQ AE t=true)(h0:0<=c)(h1:c<=u)(h2:u<=s.size):(DY t (.string s) (some (.int .i64 c)) (some (.int .i64 u)) none).run AE w= .ok (.string (s.extract c.toNat u.toNat)) w:=by
 have h3:0<=u:=Aa
 have h4:c<=(u.toNat:Int):=Aa
 have h5:c<=max u 0:=Aa
 simp[DY,Instr.sliceBounds,Instr.sliceBound,asIntOf,AO,run_underlying (str_under ht),AX,h0,h1,h2,h3,h4,h5]
theorem fe(n:Int)(h:0<=n/\n<256):AH AE 39 #[.int .u8 n] w λe w'=>e= .returned (.string (aR n))/\w'=w:=by
 obtain⟨m,J⟩:∃m,m=n.tmod 31:=⟨_,rfl⟩;have C:n % 31=m:=by rw[J,Int.tmod_eq_emod_of_nonneg h.1]
 have K:0<=m:=Aa
 have Y:m<31:=Aa
 have V:=J.symm;have G:=AF (show aR n=if m=30 then q9 else iZ.extract m.toNat (m.toNat+1)by unfold aR;rw[C]);clear J C;by_cases c:m=30
 ·have I:=AF (show aR n=q9 by rw[G.out,if_pos c]);subst c;clear G h;go_enter Tryz.func39,Tryz.ntmps39
  go_wp2;go_ret;rw[I.out];exact Aj
 ·have I:=AF (show aR n=iZ.extract m.toNat (m.toNat+1)by rw[G.out,if_neg c]);have c':(m==30)=false:=beq_eq_false_iff_ne.2 c;have U:m+1<=32:=Aa
  have ht:(m+1).toNat=m.toNat+1:=Aa
  have Z:(DY 9 (.string (ByteArray.mk #[102,103,104,105,106,107,108,109,110,111,112,113,114,115,116,117,118,119,120,121,122,97,98,99,100,101,65,66,67,68,69,70])) (some (.int .i64 m)) (some (.int .i64 (m+1))) none).run AE w= .ok (.string (iZ.extract m.toNat (m.toNat+1))) w:=by
   rw[<-ht];exact run_slS (s:=iZ) Ab K Aa (by have:(iZ.size:Int)=32:=rfl;omega)
  clear G c h U ht;go_enter Tryz.func39,Tryz.ntmps39
  go_wp2;go_ret;rw[I.out];exact Aj
section
variable {w:World} {c p:Nm} {a:Int} {v:Value}
end
end Go.Proofs.YtggfmklppkioeaaGreat
