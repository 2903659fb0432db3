/- Steps of plain regions over acts of which some slots are known. -/
import Derived.Test.YtggfmklppkioeaaGreatM08
import Derived.WalkKit
import Derived.Tactics
import Derived.Deep.MidRow
import Derived.Deep.Quiet
import Derived.Deep.Cut
import Derived.Laws.ResultCell
import Derived.Shelf.SlIter.Nil
import Derived.Shelf.SortM.Plain
import Derived.Shelf.SortM.SortNone
import Derived.Ground.GgzProg
import Derived.Ground.SlgmProg
namespace Go.Proofs.YtggfmklppkioeaaGreat
set_option linter.unusedSimpArgs false
set_option linter.unusedVariables false
set_option maxRecDepth 100000
open Go.RowKit
open _root_.Go renaming Addr → AU,Calls → AC,Ending → BB,Exit → A4,Operand → AP,Program → AW,TypeDesc → D2,all_oneCell_toArray → Fu,bodyPost_ret → A7,heap_alloc_new → Bm,results_tmp3 → Fs,wpList_load_mid → Dp,wpList_plain → BA,wpList_store_mid → BX,wp_block → Cq,wp_region_list → Bn,wp_ret → Ct,wp_seq → BP
open _root_.Go.RowKit renaming Below → Bi
open _root_.Go.Proofs renaming ownsRow_base_a → EW
open _root_.And renaming intro → By
open _root_.Array renaming getElem?_eq_some_iff → AZ,toArray_toList → ED
open _root_.Go.RowKit.Below renaming heap_alloc → Fo,refl → AF
open _root_.Bool renaming and_eq_true → BN
open _root_.Go.Builtin renaming append_ → BM
open _root_.ByteArray renaming empty → BW
open _root_.Go.Code renaming region → De
open _root_.Go.DataW renaming trod_int → Dn
open _root_.Go.Ending renaming returned → BF
open _root_.Go.Exit renaming inBlock → Ei
open _root_.Go.Fence renaming wide → Cd
open _root_.Go.WideElems renaming rg → FJ
open _root_.Go.Instr renaming buildSlice → DU,fieldAt → Fa,indexAt → E9,loadAt → CV,slice → DZ,storeAt → EC,sureAddr → DV
open _root_.Go.IntKind renaming i64 → Be,signed → HQ,wrap_i64 → Ci
open _root_.Go.Lib renaming hid → AA
open _root_.List renaming all_eq_true → Ca,eq_nil_of_length_eq_zero → CF,exists_mem_of_ne_nil → F1,flatMap_append → DB,flatMap_cons → Cw,getElem?_append_left → Bz,getElem?_append_right → Bv,getElem?_cons_zero → Ec,getElem?_eq_getElem → AJ,getElem?_eq_some_iff → AX,getElem?_map → Bp,getElem?_of_mem → Di,getElem?_range → Es,getElem_of_mem → BK,length_append → Bh,length_cons → Bg,length_drop → CB,length_map → Cg,length_take → A9,map_cons → Bq,map_map → CE,map_nil → BS,map_toArray → CJ,mem_append → AG,mem_cons → AS,mem_cons_self → Bo,mem_map → Ba,mem_of_getElem? → A0,not_mem_nil → Dt,range → Bj,size_toArray → Cb,take_add_one → El,take_length → EN
open _root_.Nat renaming add_assoc → C1,le_refl → AE,le_trans → AD,lt_of_lt_of_le → Bt,lt_or_ge → Bc,zero_add → A5,zero_le → AY
open _root_.Go.Oper renaming wp → Bk
open _root_.Option renaming bind_some → EG,map_some → BG,some → A3
open _root_.Go.Region renaming ready → BY,wanted → A6
open _root_.Go.Result renaming andThen → AQ,andThen_ok → CM
open _root_.Go.Sem renaming run_bind → AH,run_pure → Bw
open _root_.Go.Proofs.Tryz renaming func186 → EQ,func39 → Ej,prog → AB,underlying0 → Fl,underlying120 → Eh,underlying39 → CC,underlying4 → Ek,underlying5 → Dm,underlying68 → DE,underlying9 → DC,zeroValue0 → Fm,zeroValue4 → FI,zeroValue9 → JQ
open _root_.Go.Value renaming int → AK,string → Bb
open _root_.Go.World renaming frozen? → Dl
def evK(l:List (Nat×Value)):AP->Option Value
 | .tmp i=>look i l
 | .const v=>some v
 | .global g=>some (.pointer (some ⟨g,0,none⟩))
 | .func f=>some (.func (.func f) #[] #[])
def zw(l:List (Nat×Value)):List AP->Option (List Value)
 | []=>some []
 | x::xs=>(evK l x).bind λv=>(zw l xs).map (v:: ·)
section
variable {P:AW} {ops:Array Oper} {Q:A4->Act->World->Prop} {n d e i j:Nat} {o oj:Oper} {v u vx vy:Value} {l:List (Nat×Value)} {a:Act} {w w':World} {rest:List Oper} {x y z:AP} {b:Bool} {nx:Next}
theorem Kn.evx(h:Kn n l a)(e:evK l x=some v):a.eval x=v:=by
 cases x with
 | tmp i=>exact h.ev e
 | const c=>injection e
 | global g=>injection e
 | func f=>injection e
theorem Kn.args(h:Kn n l a):∀ {xs:List AP} {vs:List Value},zw l xs=some vs->xs.map a.eval=vs
 | [],vs,e=>by injection e
 | x::xs,vs,e=>by
  unfold zw at e
  cases hx:evK l x with
  | none=>rw[hx]at e;cases e
  | some v=>
   cases hy:zw l xs with
   | none=>rw[hx,hy]at e;cases e
   | some us=>
    rw[hx,hy]at e;injection e with e;rw[Bq,h.evx hx,h.args hy];exact e
theorem bk(n:Nat){c:Code}(l:List (Nat×Value))(h:∀ {a'},Kn n l a'->c.wp P Q a' w)(h1:a.tmps.size=n:=by rfl)(h2:a.defers=[]:=by rfl)(h3:allK a l:=by repeat (first | exact trivial | refine⟨rfl,?_⟩)):c.wp P Q a w:=h (Kn.mk0 h1 h2 h3)
theorem Kn.ct{l':List (Nat×Value)}(h:Kn n l a)(k:allL l l':=by repeat (first | exact trivial | refine⟨rfl,?_⟩)):Kn n l' a:=h.cut k
theorem fD(h:o.guard=none):A6 o (yielded ops a.tmps)=true:=ag h
theorem iR(G:Kn n l a)(h:o.guard=some (j,b))(F:ops[j]? =some oj)(C:oj.dst=some d)(H:look d l=some (.bool b)):A6 o (yielded ops a.tmps)=true:=by
 have:=G.at' d _ H;simp[A6,h,yielded,F,C,this]
theorem wanN{c:Bool}(G:Kn n l a)(h:o.guard=some (j,b))(F:ops[j]? =some oj)(C:oj.dst=some d)(H:look d l=some (.bool c))(hn:(c==b)=false):A6 o (yielded ops a.tmps)=false:=by
 have:=G.at' d _ H;simp only[A6,h,yielded,F,C,this,EG];simpa using hn
theorem wl(H:A6 o (yielded ops a.tmps)=true)(G:Kn n l a)(F:o.dst=some d)(hn:d<n)(hy:(execOp a.eval o).run P w= .ok (.value v) w')(h:∀a',Kn n ((d,v)::l) a'->wpList P ops Q rest a' w'):wpList P ops Q (o::rest) a w:=
 wpList_step λK C=>by
  rw[if_pos H];unfold Bk;rw[hy,Oper.upon_value,F];exact C _ _ (h _ (G.put hn))
theorem wl0(H:A6 o (yielded ops a.tmps)=false)(G:Kn n l a)(F:o.dst=some d)(hn:d<n)(h:∀a',Kn n ((d,undef)::l) a'->wpList P ops Q rest a' w):wpList P ops Q (o::rest) a w:=
 wpList_step λK C=>by
  rw[if_neg (by rw[H];simp),F];exact C _ _ (h _ (G.put hn))
theorem wls(H:A6 o (yielded ops a.tmps)=true)(G:Kn n l a)(F:o.dst=none)(hy:(execOp a.eval o).run P w= .ok .skip w')(h:∀a',Kn n l a'->wpList P ops Q rest a' w'):wpList P ops Q (o::rest) a w:=
 wpList_step λK C=>by
  rw[if_pos H];unfold Bk;rw[hy,Oper.upon_skip,F];exact C _ _ (h _ G)
variable{R:BB->World->Prop}{f:FuncId}
theorem wlc{args:Array Value}(J:A6 o (yielded ops a.tmps)=true)(H:Kn n l a)(G:o.dst=some d)(hn:d<n)(hy:(execOp a.eval o).run P w= .ok (.enter f args) w)(C:AC P f args w R)
  (h:∀e w',R e w'->∃v,e= .returned v/\∀a',Kn n ((d,v)::l) a'->wpList P ops Q rest a' w'):wpList P ops Q (o::rest) a w:=
 wpList_step λK F=>by
  rw[if_pos J];unfold Bk;rw[hy];refine C.mono (λe w' I=> ?_);obtain⟨v,rfl,h2⟩:=h e w' I;show K (a.put o.dst v) w';rw[G];exact F _ _ (h2 _ (H.put hn))
theorem wln(h:Q .normal a w):wpList P ops Q [] a w:=h
theorem mQ(C:Kn n l a)(F:o.op= .move x)(G:evK l x=some v):(execOp a.eval o).run P w= .ok (.value v) w:=by
 unfold execOp;simp only[F];rw[C.evx G];rfl
theorem qv(C:Kn n l a)(F:o.op= .assign x)(G:evK l x=some v):(execOp a.eval o).run P w= .ok (.value v) w:=by
 unfold execOp;simp only[F];rw[C.evx G];rfl
theorem kx_ex{vs:Array Value}(C:Kn n l a)(F:o.op= .extract x i)(H:evK l x=some (.tuple vs))(G:vs[i]? =some v):(execOp a.eval o).run P w= .ok (.value v) w:=by
 unfold execOp;simp only[F];rw[C.evx H];simp[Instr.extract,G,AH]
theorem lA{p:AU}(C:Kn n l a)(F:o.op= .nilCheck x)(G:evK l x=some (.pointer (some p))):(execOp a.eval o).run P w= .ok (.value (.pointer (some p))) w:=by
 unfold execOp;simp only[F];rw[C.evx G];rfl
theorem kx_pk(C:Kn n l a)(G:o.op= .pick z x y)(hz:evK l z=some (.bool b))(F:evK l (if b then x else y)=some v):(execOp a.eval o).run P w= .ok (.value v) w:=by
 unfold execOp;simp only[G];rw[C.evx hz];cases b<;>(simp only[Bool.false_eq_true,if_false,if_true]at F;have:=C.evx F;simp[asBool,AH,this])
variable{t:TypeId}
theorem kx_nt(C:Kn n l a)(F:o.op= .unOp .not t x)(G:evK l x=some (.bool b)):(execOp a.eval o).run P w= .ok (.value (.bool (!b))) w:=by
 unfold execOp;simp only[F];rw[C.evx G];simp[Op.unary,AH]
variable{s:TypeId}
theorem kx_b{op:BinOp}(C:Kn n l a)(F:o.op= .binOp op t x y s)(G:evK l x=some vx)(hy:evK l y=some vy)(hr:(do eqGuard op t x y vx vy;binOp op t vx vy:Sem Value).run P w= .ok v w):(execOp a.eval o).run P w= .ok (.value v) w:=by
 unfold execOp;simp only[F];rw[C.evx G,C.evx hy];simp only[AH]at hr⊢;rw[hr];rfl
theorem kx_cv(C:Kn n l a)(F:o.op= .convert t s x)(G:evK l x=some vx)(hr:(convert t s vx).run P w= .ok v w):(execOp a.eval o).run P w= .ok (.value v) w:=by
 unfold execOp;simp only[F];rw[C.evx G];simp only[AH,hr];rfl
theorem kx_ia(C:Kn n l a)(F:o.op= .indexAddr t x y)(G:evK l x=some vx)(hy:evK l y=some vy)(hr:(E9 t vx vy).run P w= .ok v w):(execOp a.eval o).run P w= .ok (.value v) w:=by
 unfold execOp;simp only[F];rw[C.evx G,C.evx hy];simp only[AH,hr];rfl
theorem kx_fa(C:Kn n l a)(F:o.op= .fieldAddr t x i)(G:evK l x=some vx)(hr:(Fa t vx i).run P w= .ok v w):(execOp a.eval o).run P w= .ok (.value v) w:=by
 unfold execOp;simp only[F];rw[C.evx G];simp only[AH,hr];rfl
theorem sC(C:Kn n l a)(F:o.op= .load t x)(G:evK l x=some vx)(hr:(CV t vx).run P w= .ok v w):(execOp a.eval o).run P w= .ok (.value v) w:=by
 unfold execOp;simp only[F];rw[C.evx G];simp only[AH,hr];rfl
theorem sE(C:Kn n l a)(F:o.op= .store t x y)(G:evK l x=some vx)(hy:evK l y=some vy)(hr:(EC t vx vy).run P w= .ok () w'):(execOp a.eval o).run P w= .ok .skip w':=by
 unfold execOp;simp only[F];rw[C.evx G,C.evx hy];simp only[AH,hr];rfl
theorem kx_al(C:o.op= .alloc t)(hr:(Instr.alloc t true (.tuple #[])).run P w= .ok v w'):(execOp a.eval o).run P w= .ok (.value v) w':=by
 unfold execOp;simp only[C];simp only[AH,hr];rfl
variable{vs:List Value}
theorem gV{c:Call}(F:Kn n l a)(G:o.op= .call c)(hc:c.callee= .value (.func f))(H:zw l c.args.toList=some vs)(C:∀args w,(callFunc f args).run P w= .ok (.enter f args) w):(execOp a.eval o).run P w= .ok (.enter f vs.toArray) w:=by
 have h1:c.args.map a.eval=vs.toArray:=by rw[<-F.args H,<-Array.toList_map,ED]
 have h2:a.eval (.func f)= .func (.func f) #[] #[]:=rfl;unfold execOp;simp only[G,resolve,hc,h1,h2,Deferred.ofValue,AH,Bw,CM,invoke];simpa using C vs.toArray w
theorem jT(C:Kn n l a)(F:o.op= .call {callee:=.builtin .append,args:=#[x,y],argTypes:=#[t,t]})(G:evK l x=some vx)(hy:evK l y=some vy)(hr:(BM #[t,t] o.type #[vx,vy]).run P w= .ok v w'):(execOp a.eval o).run P w= .ok (.value v) w':=by
 have h1:=C.evx G;have h2:=C.evx hy;unfold execOp;simp only[F,resolve,invoke,builtin,AH,Bw,CM,CJ,Bq,BS,h1,h2,hr]
theorem wS(F:Kn n l a)(h:∀ {a'},Kn n ((d,v)::l) a'->wpList P ops Q rest a' w)(C:o.dst=some d:=by rfl)(hn:d<n:=by decide)(G:A6 o (yielded ops a.tmps)=true:=by first | exact fD rfl | exact iR (by assumption) rfl rfl rfl rfl)
  (hy:(execOp a.eval o).run P w= .ok (.value v) w:=by first | exact mQ (by assumption) rfl rfl | exact qv (by assumption) rfl rfl | exact lA (by assumption) rfl rfl | exact kx_ex (by assumption) rfl rfl rfl | exact kx_nt (by assumption) rfl rfl | exact kx_pk (by assumption) rfl rfl rfl):wpList P ops Q (o::rest) a w:=wl G F C hn hy λ_=>h
theorem wZ(F:Kn n l a)(h:∀ {a'},Kn n ((d,undef)::l) a'->wpList P ops Q rest a' w)(C:o.dst=some d:=by rfl)(hn:d<n:=by decide)(G:A6 o (yielded ops a.tmps)=false:=by first | exact wanN (by assumption) rfl rfl rfl rfl rfl | exact wanU (by assumption) rfl rfl rfl rfl):wpList P ops Q (o::rest) a w:=wl0 G F C hn λ_=>h
theorem wF(C:Kn n l a)(v:Value)(h:∀ {a'},Kn n ((d,v)::l) a'->wpList P ops Q rest a' w)(F:o.dst=some d:=by rfl)(hn:d<n:=by decide)(G:o.op= .fieldAddr t x i:=by rfl)(I:evK l x=some vx:=by rfl)(hr:(Fa t vx i).run P w= .ok v w:=by go_simp)
  (H:A6 o (yielded ops a.tmps)=true:=by first | exact fD rfl | exact iR (by assumption) rfl rfl rfl rfl):wpList P ops Q (o::rest) a w:=wl H C F hn (kx_fa C G I hr) λ_=>h
theorem wI(C:Kn n l a)(v:Value)(h:∀ {a'},Kn n ((d,v)::l) a'->wpList P ops Q rest a' w)(F:o.dst=some d:=by rfl)(hn:d<n:=by decide)(G:o.op= .indexAddr t x y:=by rfl)(I:evK l x=some vx:=by rfl)(hy:evK l y=some vy:=by rfl)(hr:(E9 t vx vy).run P w= .ok v w:=by go_simp)
  (H:A6 o (yielded ops a.tmps)=true:=by first | exact fD rfl | exact iR (by assumption) rfl rfl rfl rfl):wpList P ops Q (o::rest) a w:=wl H C F hn (kx_ia C G I hy hr) λ_=>h
theorem wL(C:Kn n l a)(v:Value)(h:∀ {a'},Kn n ((d,v)::l) a'->wpList P ops Q rest a' w)(F:o.dst=some d:=by rfl)(hn:d<n:=by decide)(G:o.op= .load t x:=by rfl)(I:evK l x=some vx:=by rfl)(hr:(CV t vx).run P w= .ok v w:=by go_simp)
  (H:A6 o (yielded ops a.tmps)=true:=by first | exact fD rfl | exact iR (by assumption) rfl rfl rfl rfl):wpList P ops Q (o::rest) a w:=wl H C F hn (sC C G I hr) λ_=>h
theorem wB{op:BinOp}(C:Kn n l a)(v:Value)(h:∀ {a'},Kn n ((d,v)::l) a'->wpList P ops Q rest a' w)(F:o.dst=some d:=by rfl)(hn:d<n:=by decide)(G:o.op= .binOp op t x y s:=by rfl)(I:evK l x=some vx:=by rfl)(hy:evK l y=some vy:=by rfl)(hr:(do eqGuard op t x y vx vy;binOp op t vx vy:Sem Value).run P w= .ok v w:=by go_simp)
  (H:A6 o (yielded ops a.tmps)=true:=by first | exact fD rfl | exact iR (by assumption) rfl rfl rfl rfl):wpList P ops Q (o::rest) a w:=wl H C F hn (kx_b C G I hy hr) λ_=>h
theorem wV(C:Kn n l a)(v:Value)(h:∀ {a'},Kn n ((d,v)::l) a'->wpList P ops Q rest a' w)(F:o.dst=some d:=by rfl)(hn:d<n:=by decide)(G:o.op= .convert t s x:=by rfl)(I:evK l x=some vx:=by rfl)(hr:(convert t s vx).run P w= .ok v w:=by go_simp)
  (H:A6 o (yielded ops a.tmps)=true:=by first | exact fD rfl | exact iR (by assumption) rfl rfl rfl rfl):wpList P ops Q (o::rest) a w:=wl H C F hn (kx_cv C G I hr) λ_=>h
theorem wT(C:Kn n l a)(w':World)(h:∀ {a'},Kn n l a'->wpList P ops Q rest a' w')(F:o.dst=none:=by rfl)(G:o.op= .store t x y:=by rfl)(I:evK l x=some vx:=by rfl)(hy:evK l y=some vy:=by rfl)(hr:(EC t vx vy).run P w= .ok () w':=by go_simp)
  (H:A6 o (yielded ops a.tmps)=true:=by first | exact fD rfl | exact iR (by assumption) rfl rfl rfl rfl):wpList P ops Q (o::rest) a w:=wls H C F (sE C G I hy hr) λ_=>h
theorem wW(F:Kn n l a)(v:Value)(w':World)(hy:(execOp a.eval o).run P w= .ok (.value v) w')(h:∀ {a'},Kn n ((d,v)::l) a'->wpList P ops Q rest a' w')(C:o.dst=some d:=by rfl)(hn:d<n:=by decide)(G:A6 o (yielded ops a.tmps)=true:=by first | exact fD rfl | exact iR (by assumption) rfl rfl rfl rfl):wpList P ops Q (o::rest) a w:=wl G F C hn hy λ_=>h
theorem wY(F:Kn n l a)(v:Value)(hy:(execOp a.eval o).run P w= .ok (.value v) w)(h:∀ {a'},Kn n ((d,v)::l) a'->wpList P ops Q rest a' w)(C:o.dst=some d:=by rfl)(hn:d<n:=by decide)(G:A6 o (yielded ops a.tmps)=true:=by first | exact fD rfl | exact iR (by assumption) rfl rfl rfl rfl):wpList P ops Q (o::rest) a w:=wl G F C hn hy λ_=>h
theorem wC{c:Call}(C:Kn n l a)(H:∀args w,(callFunc f args).run P w= .ok (.enter f args) w)(F:AC P f vs.toArray w R)(h:∀ {e w'},R e w'->∃v,e= .returned v/\∀a',Kn n ((d,v)::l) a'->wpList P ops Q rest a' w')(G:o.dst=some d:=by rfl)(hn:d<n:=by decide)
  (I:o.op= .call c:=by rfl)(hc:c.callee= .value (.func f):=by rfl)(K:zw l c.args.toList=some vs:=by rfl)(J:A6 o (yielded ops a.tmps)=true:=by first | exact fD rfl | exact iR (by assumption) rfl rfl rfl rfl):wpList P ops Q (o::rest) a w:=wlc J C G hn (gV C I hc K H) F λ_ _=>h
theorem ij(C:Kn n l a)(F:o.op= .buildSlice t 1 #[(0,x)])(G:evK l x=some vx)(hr:(DU t 1 #[(0,vx)]).run P w= .ok v w'):(execOp a.eval o).run P w= .ok (.value v) w':=by
 unfold execOp;simp only[F,CJ,Bq,BS];rw[C.evx G];simp only[AH,hr];rfl
variable{K:Act->World->Prop}
theorem wpOp_c{args:Array Value}(J:Kn n l a)(hi:ops[i]? =some o)(I:o.guard=none)(H:o.dst=some d)(hn:d<n)(hy:(execOp a.eval o).run P w= .ok (.enter f args) w)(F:AC P f args w R)
  (h:∀e w',R e w'->∃v,e= .returned v/\∀a',Kn n ((d,v)::l) a'->K a' w'):wpOp P ops Q i K a w:=wpOp_step hi λC G=>by
 rw[if_pos (ag I)];unfold Bk;rw[hy];refine F.mono (λe w' U=> ?_);obtain⟨v,rfl,h2⟩:=h e w' U;show C (a.put o.dst v) w';rw[H];exact G _ _ (h2 _ (J.put hn))
theorem wpOp_s(H:Kn n l a)(hi:ops[i]? =some o)(F:o.dst=none)(G:o.guard=none)(hy:(execOp a.eval o).run P w= .ok .skip w')(h:∀a',Kn n l a'->K a' w'):wpOp P ops Q i K a w:=wpOp_step hi λI C=>by
 rw[if_pos (ag G)];unfold Bk;rw[hy,Oper.upon_skip,F];exact C _ _ (h _ H)
theorem wanU(G:Kn n l a)(h:o.guard=some (j,b))(F:ops[j]? =some oj)(C:oj.dst=some d)(H:look d l=some undef):A6 o (yielded ops a.tmps)=false:=by
 have:=G.at' d _ H;simp only[A6,h,yielded,F,C,this,EG];rfl
variable{C:World->Prop}{K:Act->Prop}
theorem wq(H:A6 o (yielded ops a.tmps)=true)(G:Kn n l a)(F:o.dst=some d)(hn:d<n)(v:Value)(hy:∀w,C w->(execOp a.eval o).run P w= .ok (.value v) w)(h:∀a',Kn n ((d,v)::l) a'->wpQuiet P ops C K rest a'):wpQuiet P ops C K (o::rest) a:=by
 unfold wpQuiet;rw[if_pos H];refine⟨v,λw hc=>by unfold Oper.quietAt;rw[hy w hc];exact Ai,?_⟩;rw[F];exact h _ (G.put hn)
theorem wq0(H:A6 o (yielded ops a.tmps)=false)(G:Kn n l a)(F:o.dst=some d)(hn:d<n)(h:∀a',Kn n ((d,undef)::l) a'->wpQuiet P ops C K rest a'):wpQuiet P ops C K (o::rest) a:=by
 unfold wpQuiet;rw[if_neg (by rw[H];simp),F];exact h _ (G.put hn)
theorem qZk(G:Kn n l a)(h:∀ {a'},Kn n ((d,undef)::l) a'->wpQuiet P ops C K rest a')(F:o.dst=some d:=by rfl)(hn:d<n:=by decide)(H:A6 o (yielded ops a.tmps)=false:=by first | exact wanN (by assumption) rfl rfl rfl rfl rfl | exact wanU (by assumption) rfl rfl rfl rfl):wpQuiet P ops C K (o::rest) a:=wq0 H G F hn λ_=>h
theorem wqn(h:K a):wpQuiet P ops C K [] a:=h
theorem jU{S:World->Prop}{md:Region.Mode}{F:Nat}{C:Array Bool}{args:Array Value}(V:Kn n l a)(hr:BY md ops C=[i])(hi:ops[i]? =some o)(K:o.guard=none)(J:o.dst=some d)(hn:d<n)(hy:(execOp a.eval o).run P w= .ok (.enter f args) w)(I:AC P f args w R)
  (h:∀e w',R e w'->∃v,e= .returned v/\S w'/\∀a',Kn n ((d,v)::l) a'->wpAnyH P md ops Q S F (C.setIfInBounds i true) a' w'):wpAnyH P md ops Q S (F+1) C a w:=
 wpAnyH_all hr Ad λj U=>by
  obtain rfl:j=i:=by simpa using U
  refine wpOp_c V hi K J hn hy I (λe w' hr=> ?_);obtain⟨v,H,hs,h2⟩:=h e w' hr;exact⟨v,H,λa' G=>⟨hs,h2 a' G⟩⟩
variable{K:Act->World->Prop}
theorem thn(h:K a w):Exit.then K Q .normal a w:=h
theorem jV(h:Q .ret a w):Exit.then K Q .ret a w:=h
variable{id:Nat}
theorem jW(h:Q .ret a w):Ei id Q .ret a w:=h
theorem thx(h:Q (.exit id) a w):Exit.then K Q (.exit id) a w:=h
theorem ibx(h:Q .normal a w):Ei id Q (.exit id) a w:=by simp only[Ei,if_true];exact h
theorem ibn(h:Q .normal a w):Ei id Q .normal a w:=h
theorem wp_bl{c y:Code}(I:Act->World->Prop)(μ:Act->World->Nat)(h0:I a w)(round:∀a w,I a w->c.wp P (Exit.then (λa' w'=>I a' w'/\μ a' w'<μ a w) (Ei id (Exit.then (y.wp P Q) Q))) a w):((Code.block id (Code.loop c)).seq y).wp P Q a w:=BP (Cq (wp_loop I μ h0 round))
theorem eU{c:Code}(I:Act->World->Prop)(μ:Act->World->Nat)(h0:I a w)(round:∀a w,I a w->c.wp P (Exit.then (λa' w'=>I a' w'/\μ a' w'<μ a w) (Ei id Q)) a w):(Code.block id (Code.loop c)).wp P Q a w:=Cq (wp_loop I μ h0 round)
theorem cV{y:Code}(h:wpList P ops (Exit.then (y.wp P Q) Q) ops.toList a w):((De id ops false).seq y).wp P Q a w:=BP (Bn h)
theorem wle{y:Code}(h:y.wp P Q a w):wpList P ops (Exit.then (y.wp P Q) Q) [] a w:=h
theorem qw{c:AP}{x y:Code}(C:Kn n l a)(hc:evK l c=some (.bool true))(h:x.wp P Q a w):(Code.cond c x y).wp P Q a w:=wp_cond_true (C.evx hc) h
theorem kO{c:AP}{x y:Code}(C:Kn n l a)(hc:evK l c=some (.bool false))(h:y.wp P Q a w):(Code.cond c x y).wp P Q a w:=wp_cond_false (C.evx hc) h
theorem bD(h:wpList P ops Q ops.toList a w):(De id ops false).wp P Q a w:=Bn h
end
variable{w:World}
theorem bi_add{x y z:Int}{X Y:AP}(h:z=x+y)(h1: -9223372036854775808<=z)(h2:z<9223372036854775808):(do eqGuard .add 3 X Y (.int .i64 x) (.int .i64 y);binOp .add 3 (.int .i64 x) (.int .i64 y):Sem Value).run AB w= .ok (.int .i64 z) w:=by
 have e:Be.wrap (x+y)=z:=by rw[Ci];omega
 clear h h1 h2;go_simp
theorem zx{x y z:Int}{X Y:AP}(h:z=x - y)(h1: -9223372036854775808<=z)(h2:z<9223372036854775808):(do eqGuard .sub 3 X Y (.int .i64 x) (.int .i64 y);binOp .sub 3 (.int .i64 x) (.int .i64 y):Sem Value).run AB w= .ok (.int .i64 z) w:=by
 have e:Be.wrap (x - y)=z:=by rw[Ci];omega
 clear h h1 h2;go_simp
def LdB(w0:World)(t:TypeId)(p v:Value):Prop:=∀w,mBw w0 w->(CV t p).run AB w= .ok v w
structure Bx(R:Prop):Prop where
 out:R
def fldO(p:AW)(t:TypeId)(i:Nat):Option Nat:=match fldB p t i with
 | some (off,_+1)=>some off
 | _=>none
def cpI(op:BinOp)(i j:Int):Bool->Prop
 | true=>match op with | .lss=>i<j | .leq=>i<=j | .gtr=>j<i | .geq=>j<=i | .eql=>i=j | .neq=>i≠j | _=>False
 | false=>match op with | .lss=>j<=i | .leq=>j<i | .gtr=>i<=j | .geq=>i<j | .eql=>i≠j | .neq=>i=j | _=>False
section
variable {w0 w w1:World} {t e s:TypeId} {p v vx vy:Value} {n d i k m c z off b o' j:Nat} {o oj:Oper} {l:List (Nat×Value)} {a:Act} {x y:AP} {ops:Array Oper} {rest:List Oper} {Q:A4->Act->World->Prop}
theorem LdB.mono(h:LdB w0 t p v)(hb:Bi w0.heap.size w0 w1):LdB w1 t p v:=λw k=>h w (hb.trans (k.mono hb.size))
theorem LdB.one(ht:uP AB t=some false)(hb:b<w0.heap.size)(hc:w0.cell? ⟨b,k,none⟩=some v):LdB w0 t (.pointer (some ⟨b,k,none⟩)) v:=λw h=>by
 have:=nH (p:=AB) (w:=w) (ad:=⟨b,k,none⟩) (v:=v) ((h.cell hb).trans hc);simp[CV,DV,loadVar,AH,iY ht,this,AQ]
theorem LdB.row{cs:List Value}{D:D2}(G:AB.underlying t=some D)(C:D.isRow=true)(hi:(AB.info? t).map (·.size)=some cs.length)(hb:b<w0.heap.size)(hc:w0.rangeAt b k cs):LdB w0 t (.pointer (some ⟨b,k,none⟩)) (.agg cs.toArray):=λw h=>
 run_loadAt_mid w b k t cs D (λj v F=>(h.cell hb).trans (hc j v F)) G C hi
theorem aaW(F:Kn n l a)(G:o.op= .load t x)(H:evK l x=some vx)(C:LdB w0 t vx v)(hb:Bi w0.heap.size w0 w):(execOp a.eval o).run AB w= .ok (.value v) w:=sC F G H (C w hb)
theorem run_fo(hf:fldO AB t i=some off):(Fa t (.pointer (some ⟨b,o',none⟩)) i).run AB w= .ok (.pointer (some ⟨b,o'+off,none⟩)) w:=by
 unfold fldO at hf;split at hf
 ·rename_i h;injection hf with hf;subst hf;unfold fldB at h;split at h
  ·rename_i H G;split at h
   ·rename_i C F
    cases hz:szB AB C.type with
    | none=>rw[hz]at h;cases h
    | some k=>
     rw[hz]at h;simp only[BG,A3.injEq,Prod.mk.injEq]at h;obtain⟨rfl,rfl⟩:=h;simp[Fa,DV,fieldPlace,AH,run_underlying G,F,ba hz,AQ,bM]
   ·cases h
  ·cases h
 ·cases hf
theorem aaX(C:Kn n l a)(F:o.op= .fieldAddr t x i)(G:evK l x=some (.pointer (some ⟨b,o',none⟩)))(hf:fldO AB t i=some off):(execOp a.eval o).run AB w= .ok (.value (.pointer (some ⟨b,o'+off,none⟩))) w:=kx_fa C F G (run_fo hf)
variable{g:Int}
theorem kx_io(C:Kn n l a)(F:o.op= .indexAddr t x y)(H:evK l x=some (.slice (some ⟨b,o',none⟩) m c))(hy:evK l y=some (.int .i64 g))(G:AB.underlying t=some (.slice e))(hz:szB AB e=some z)(h:0<=g/\g<(m:Int)):(execOp a.eval o).run AB w= .ok (.value (.pointer (some ⟨b,o'+g.toNat*z,none⟩))) w:=
 kx_ia C F H hy (by simp[E9,asIntOf,AH,run_underlying G,ba hz,AQ,h,bM])
variable{op:BinOp}{h:Int}
theorem qx{C:IntKind}{r:Bool}(F:Kn n l a)(G:o.op= .binOp op t x y s)(H:evK l x=some (.int C g))(hy:evK l y=some (.int C h))(hc:cpI op g h r):(execOp a.eval o).run AB w= .ok (.value (.bool r)) w:=by
 refine kx_b F G H hy ?_;cases op<;>cases r<;>simp only[cpI]at hc<;>first | (exact hc.elim) | (simp[eqGuard,binOp,Op.intCmp,AH,AQ];first | omega | (subst hc;simp) | simp[hc])
theorem kx_np{A:AU}(F:Kn n l a)(G:o.op= .binOp .eql t x y s)(H:evK l x=some (.pointer (some A)))(hy:evK l y=some (.pointer none))(C:AB.underlying t=some (.pointer e)):(execOp a.eval o).run AB w= .ok (.value (.bool false)) w:=
 kx_b F G H hy (by simp[eqGuard,binOp,AH,wE C,AQ])
theorem zy{A:Option AU}(C:Kn n l a)(F:o.op= .call {callee:=.builtin .len,args:=#[x],argTypes:=#[t]})(H:evK l x=some (.slice A m c))(G:AB.underlying t=some (.slice e)):(execOp a.eval o).run AB w= .ok (.value (.int .i64 (m:Int))) w:=by
 have h1:=C.evx H;unfold execOp;simp only[F,resolve,invoke,builtin,AH,Bw,CM,CJ,Bq,BS,h1];simp[Builtin.len_,AH,run_underlying G,AQ,goInt]
theorem vS(F:Kn n l a)(h:∀ {a'},Kn n ((d,v)::l) a'->wpList AB ops Q rest a' w)(C:o.dst=some d:=by rfl)(hn:d<n:=by decide)(G:A6 o (yielded ops a.tmps)=true:=by first | exact fD rfl | exact iR (by assumption) rfl rfl rfl rfl)
  (hy:(execOp a.eval o).run AB w= .ok (.value v) w:=by first | exact mQ (by assumption) rfl rfl | exact aaX (by assumption) rfl rfl rfl | exact aaW (by assumption) rfl rfl (by assumption) (by assumption) | exact lA (by assumption) rfl rfl | exact qv (by assumption) rfl rfl | exact kx_pk (by assumption) rfl rfl rfl | exact zy (by assumption) rfl rfl rfl | exact kx_io (by assumption) rfl rfl rfl rfl rfl (by omega) | exact kx_ex (by assumption) rfl rfl rfl | exact kx_nt (by assumption) rfl rfl | exact qx (r:=true) (by assumption) rfl rfl rfl (by first | exact rfl | (simp only[cpI];omega)) | exact qx (r:=false) (by assumption) rfl rfl rfl (by first | exact rfl | (simp only[cpI];omega)) | exact kx_np (by assumption) rfl rfl rfl rfl):wpList AB ops Q (o::rest) a w:=wl G F C hn hy λ_=>h
variable{K:Act->Prop}
theorem uS(G:Kn n l a)(h:∀ {a'},Kn n ((d,v)::l) a'->wpQuiet AB ops (λw=>mBw w0 w) K rest a')(F:o.dst=some d:=by rfl)(hn:d<n:=by decide)(C:A6 o (yielded ops a.tmps)=true:=by first | exact fD rfl | exact iR (by assumption) rfl rfl rfl rfl)
  (hy:∀w,mBw w0 w->(execOp a.eval o).run AB w= .ok (.value v) w:=by intro w C;first | exact mQ (by assumption) rfl rfl | exact aaX (by assumption) rfl rfl rfl | exact aaW (by assumption) rfl rfl (by assumption) C | exact lA (by assumption) rfl rfl | exact qv (by assumption) rfl rfl | exact kx_pk (by assumption) rfl rfl rfl | exact zy (by assumption) rfl rfl rfl | exact kx_io (by assumption) rfl rfl rfl rfl rfl (by omega) | exact kx_ex (by assumption) rfl rfl rfl | exact kx_nt (by assumption) rfl rfl | exact qx (r:=true) (by assumption) rfl rfl rfl (by first | exact rfl | (simp only[cpI];omega)) | exact qx (r:=false) (by assumption) rfl rfl rfl (by first | exact rfl | (simp only[cpI];omega))):wpQuiet AB ops (λw=>mBw w0 w) K (o::rest) a:=wq C G F hn v hy λ_=>h
theorem vN(C:Kn n l a)(r:Int)(G:∀ {a'},Kn n ((d,.int .i64 r)::l) a'->wpList AB ops Q rest a' w)(F:o.dst=some d:=by rfl)(hn:d<n:=by decide)(I:A6 o (yielded ops a.tmps)=true:=by first | exact fD rfl | exact iR (by assumption) rfl rfl rfl rfl)(H:o.op= .binOp op 3 x y s:=by rfl)(J:evK l x=some (.int .i64 g):=by rfl)(hy:evK l y=some (.int .i64 h):=by rfl)
  (hr:((op= .add/\r=g+h)\/(op= .sub/\r=g - h))/\ -9223372036854775808<=r/\r<9223372036854775808:=by constructor<;>first | exact .inl ⟨rfl,by omega⟩ | exact .inr ⟨rfl,by omega⟩ | omega):wpList AB ops Q (o::rest) a w:=wl I C F hn (kx_b C H J hy (by
   obtain⟨⟨rfl,e⟩ | ⟨rfl,e⟩,h1,h2⟩:=hr
   ·exact bi_add e h1 h2
   ·exact zx e h1 h2)) λ_=>G
theorem uN(C:Kn n l a)(r:Int)(G:∀ {a'},Kn n ((d,.int .i64 r)::l) a'->wpQuiet AB ops (λw=>mBw w0 w) K rest a')(F:o.dst=some d:=by rfl)(hn:d<n:=by decide)(I:A6 o (yielded ops a.tmps)=true:=by first | exact fD rfl | exact iR (by assumption) rfl rfl rfl rfl)(H:o.op= .binOp op 3 x y s:=by rfl)(J:evK l x=some (.int .i64 g):=by rfl)(hy:evK l y=some (.int .i64 h):=by rfl)
  (hr:((op= .add/\r=g+h)\/(op= .sub/\r=g - h))/\ -9223372036854775808<=r/\r<9223372036854775808:=by constructor<;>first | exact .inl ⟨rfl,by omega⟩ | exact .inr ⟨rfl,by omega⟩ | omega):wpQuiet AB ops (λw=>mBw w0 w) K (o::rest) a:=wq I C F hn _ (λw _=>kx_b C H J hy (by
   obtain⟨⟨rfl,e⟩ | ⟨rfl,e⟩,h1,h2⟩:=hr
   ·exact bi_add e h1 h2
   ·exact zx e h1 h2)) λ_=>G
theorem uC{C:Call}{f:FuncId}{vs:List Value}(F:Kn n l a)(v:Value)(I:∀args w,(callFunc f args).run AB w= .ok (.enter f args) w)(G:∀w,mBw w0 w->AC AB f vs.toArray w λe w'=>e= .returned v/\mBw w w')(h:∀ {a'},Kn n ((d,v)::l) a'->wpQuiet AB ops (λw=>mBw w0 w) K rest a')(H:o.dst=some d:=by rfl)(hn:d<n:=by decide)
  (J:o.op= .call C:=by rfl)(hc:C.callee= .value (.func f):=by rfl)(V:zw l C.args.toList=some vs:=by rfl)(U:A6 o (yielded ops a.tmps)=true:=by first | exact fD rfl | exact iR (by assumption) rfl rfl rfl rfl):wpQuiet AB ops (λw=>mBw w0 w) K (o::rest) a:=by
 unfold wpQuiet;rw[if_pos U];refine⟨v,λw hb=>by
  unfold Oper.quietAt;rw[gV F J hc V I];exact⟨rfl,(G w hb).mono λe w' h=>⟨h.1,hb.trans (h.2.mono hb.size)⟩⟩,?_⟩
 rw[H];exact h (F.put hn)
theorem t8{id:Nat}{y:Code}(G:AB.follows .mixedOrders=true)(F:Region.lexB .any ops=true)(hb:Bi w0.heap.size w0 w)(h:wpQuiet AB ops (λw=>mBw w0 w) (λa'=>∀w',mBw w0 w'->y.wp AB Q a' w') ops.toList a):((De id ops true).seq y).wp AB Q a w:=
 BP (wp_region_quiet (C:=λw=>mBw w0 w) G F hb.drew h)
theorem wp_quN{id:Nat}(G:AB.follows .mixedOrders=true)(F:Region.lexB .any ops=true)(hb:Bi w0.heap.size w0 w)(h:wpQuiet AB ops (λw=>mBw w0 w) (λa'=>∀w',mBw w0 w'->Q .normal a' w') ops.toList a):(De id ops true).wp AB Q a w:=
 wp_region_quiet (C:=λw=>mBw w0 w) G F hb.drew h
variable{P:AW}{R:Prop}
theorem mDn{a:Act}{w:World}{Q:A4->Act->World->Prop}{F:Code}(C:R)(h:Bx R->F.wp P Q a w:=by intro C;(repeat first | refine BP ?_ | refine Cq ?_);exact @Bx.out _ C):F.wp P Q a w:=h ⟨C⟩
theorem mUp{G:Prop}(C:R)(h:Bx R->G:=by intro C;(repeat first | with_reducible refine thn ?_ | with_reducible refine ibn ?_);exact @Bx.out _ C):G:=h ⟨C⟩
theorem mEx{G:Prop}(C:R)(h:Bx R->G:=by intro C;refine wp_exit ?_;(repeat first | refine thx ?_ | refine ibx ?_);(repeat first | with_reducible refine thn ?_ | with_reducible refine ibn ?_);exact @Bx.out _ C):G:=h ⟨C⟩
variable{G:Code}
theorem mCf{n:Nat}{l:List (Nat×Value)}{a:Act}{w:World}{Q:A4->Act->World->Prop}(F:Kn n l a)(C:R)(h:Kn n l a->Bx R->G.wp P Q a w:=by intro F C;(repeat first | refine BP ?_ | refine Cq ?_);refine kO F rfl ?_;exact @Bx.out _ C):G.wp P Q a w:=h F ⟨C⟩
theorem mCt{n:Nat}{l:List (Nat×Value)}{a:Act}{w:World}{Q:A4->Act->World->Prop}(F:Kn n l a)(C:R)(h:Kn n l a->Bx R->G.wp P Q a w:=by intro F C;(repeat first | refine BP ?_ | refine Cq ?_);refine qw F rfl ?_;exact @Bx.out _ C):G.wp P Q a w:=h F ⟨C⟩
theorem cB{n:Nat}{l:List (Nat×Value)}{a:Act}{w:World}{Q:A4->Act->World->Prop}(F:Kn n l a)(C:R)(h:Kn n l a->Bx R->G.wp P Q a w:=by intro F C;(repeat first | refine BP ?_ | refine Cq ?_);refine kO F rfl (wp_skip ?_);(repeat first | with_reducible refine thn ?_ | with_reducible refine ibn ?_);exact @Bx.out _ C):G.wp P Q a w:=h F ⟨C⟩
theorem lB{n:Nat}{l:List (Nat×Value)}{a:Act}{w:World}{Q:A4->Act->World->Prop}(F:Kn n l a)(C:R)(h:Kn n l a->Bx R->G.wp P Q a w:=by intro F C;(repeat first | refine BP ?_ | refine Cq ?_);refine qw F rfl (wp_skip ?_);(repeat first | with_reducible refine thn ?_ | with_reducible refine ibn ?_);exact @Bx.out _ C):G.wp P Q a w:=h F ⟨C⟩
variable{fn:Func}
theorem mR1{n i:Nat}{l:List (Nat×Value)}{a:Act}{w:World}{v:Value}{Q:BB->World->Prop}(C:Kn n l a)(h:Q (.returned v) w)(hf:fn.results=#[.tmp i]:=by rfl)(hl:look i l=some v:=by rfl):bodyPost P fn Q .ret a w:=A7 (results_tmp hf _ _ _) C.df (by rw[C.getD hl];exact h)
theorem mR2{n i j:Nat}{l:List (Nat×Value)}{a:Act}{w:World}{v u:Value}{Q:BB->World->Prop}(C:Kn n l a)(h:Q (.returned (.tuple #[v,u])) w)(hf:fn.results=#[.tmp i,.tmp j]:=by rfl)(hl:look i l=some v:=by rfl)(F:look j l=some u:=by rfl):bodyPost P fn Q .ret a w:=A7 (results_tmp2 hf _ _ _) C.df (by rw[C.getD hl,C.getD F];exact h)
theorem mR3{n i j k:Nat}{l:List (Nat×Value)}{a:Act}{w:World}{v u x:Value}{Q:BB->World->Prop}(C:Kn n l a)(h:Q (.returned (.tuple #[v,u,x])) w)(hf:fn.results=#[.tmp i,.tmp j,.tmp k]:=by rfl)(hl:look i l=some v:=by rfl)(F:look j l=some u:=by rfl)(G:look k l=some x:=by rfl):bodyPost P fn Q .ret a w:=A7 (Fs hf _ _ _) C.df (by rw[C.getD hl,C.getD F,C.getD G];exact h)
theorem mT1{n:Nat}{l:List (Nat×Value)}{a:Act}{w:World}{Q:A4->Act->World->Prop}(F:Kn n l a)(C:R)(h:Kn n l a->Bx R->G.wp P Q a w:=by intro F C;refine Ct ?_;(repeat first | refine jV ?_ | refine jW ?_ | exact mR1 F (@Bx.out _ C))):G.wp P Q a w:=h F ⟨C⟩
theorem mT2{n:Nat}{l:List (Nat×Value)}{a:Act}{w:World}{Q:A4->Act->World->Prop}(F:Kn n l a)(C:R)(h:Kn n l a->Bx R->G.wp P Q a w:=by intro F C;refine Ct ?_;(repeat first | refine jV ?_ | refine jW ?_ | exact mR2 F (@Bx.out _ C))):G.wp P Q a w:=h F ⟨C⟩
theorem mT3{n:Nat}{l:List (Nat×Value)}{a:Act}{w:World}{Q:A4->Act->World->Prop}(F:Kn n l a)(C:R)(h:Kn n l a->Bx R->G.wp P Q a w:=by intro F C;refine Ct ?_;(repeat first | refine jV ?_ | refine jW ?_ | exact mR3 F (@Bx.out _ C))):G.wp P Q a w:=h F ⟨C⟩
theorem sD(C:Kn n l a)(F:R)(h:Kn n l a->Bx R->wpList AB ops Q rest a w:=by intro C F;(repeat ((first | refine vS C ?_ | refine wZ C ?_);clear C;intro a C));revert a C;exact @Bx.out _ F):wpList AB ops Q rest a w:=h C ⟨F⟩
theorem sA(C:Kn n l a)(F:R)(h:Kn n l a->Bx R->G.wp AB Q a w:=by intro C F;(repeat first | refine BP ?_ | refine Cq ?_);refine bD ?_;(repeat ((first | refine vS C ?_ | refine wZ C ?_);clear C;intro a C));revert a C;exact @Bx.out _ F):G.wp AB Q a w:=h C ⟨F⟩
theorem sZ(C:Kn n l a)(F:R)(h:Kn n l a->Bx R->wpList AB ops Q rest a w:=by intro C F;(repeat ((first | refine vS C ?_ | refine wZ C ?_);clear C;intro a C));refine wln ?_;(repeat first | with_reducible refine thn ?_ | with_reducible refine ibn ?_);revert a C;exact @Bx.out _ F):wpList AB ops Q rest a w:=h C ⟨F⟩
theorem sX(C:Kn n l a)(F:R)(h:Kn n l a->Bx R->G.wp AB Q a w:=by intro C F;(repeat first | refine BP ?_ | refine Cq ?_);refine bD ?_;(repeat ((first | refine vS C ?_ | refine wZ C ?_);clear C;intro a C));refine wln ?_;(repeat first | with_reducible refine thn ?_ | with_reducible refine ibn ?_);revert a C;exact @Bx.out _ F):G.wp AB Q a w:=h C ⟨F⟩
theorem uD(C:Kn n l a)(F:R)(h:Kn n l a->Bx R->wpQuiet AB ops (λw=>mBw w0 w) K rest a:=by intro C F;(repeat ((first | refine uS C ?_ | refine qZk C ?_);clear C;intro a C));revert a C;exact @Bx.out _ F):wpQuiet AB ops (λw=>mBw w0 w) K rest a:=h C ⟨F⟩
theorem uA(C:Kn n l a)(F:R)(h:Kn n l a->Bx R->G.wp AB Q a w:=by intro C F;(repeat first | refine BP ?_ | refine Cq ?_);refine wp_quN (by kernel_rfl) (by kernel_rfl) (by assumption) ?_;(repeat ((first | refine uS C ?_ | refine qZk C ?_);clear C;intro a C));revert a C;exact @Bx.out _ F):G.wp AB Q a w:=h C ⟨F⟩
theorem uZ(C:Kn n l a)(F:R)(h:Kn n l a->Bx R->wpQuiet AB ops (λw=>mBw w0 w) K rest a:=by intro C F;(repeat ((first | refine uS C ?_ | refine qZk C ?_);clear C;intro a C));refine wqn (λw' G=> ?_);(repeat first | with_reducible refine thn ?_ | with_reducible refine ibn ?_);revert a C w' G;exact @Bx.out _ F):wpQuiet AB ops (λw=>mBw w0 w) K rest a:=h C ⟨F⟩
theorem uX{H:Code}(C:Kn n l a)(F:R)(h:Kn n l a->Bx R->H.wp AB Q a w:=by intro C F;(repeat first | refine BP ?_ | refine Cq ?_);refine wp_quN (by kernel_rfl) (by kernel_rfl) (by assumption) ?_;(repeat ((first | refine uS C ?_ | refine qZk C ?_);clear C;intro a C));refine wqn (λw' G=> ?_);(repeat first | with_reducible refine thn ?_ | with_reducible refine ibn ?_);revert a C w' G;exact @Bx.out _ F):H.wp AB Q a w:=h C ⟨F⟩
end
structure VB(w W:World)(t:TypeId)(B:Nat)(vs:Array Value):Prop where
 blk:W.heap[B]? =some (.cells vs t (0,0))
 bel:mBw w W
 ge:w.heap.size<=B
 nu:∀u∈vs.toList,noU u
def nuB:Value->Bool
 | .int .u32 _=>false
 | _=>true
variable{vs:Array Value}
theorem nuB_all(h:vs.toList.all nuB=true):∀u∈vs.toList,noU u:=λu C n e=>by
 have:=Ca.1 h u C;subst e;cases this
section
variable {w0 w W W':World} {t t' e s:TypeId} {p v vx vy:Value} {n d i k m z B:Nat} {o:Oper} {l:List (Nat×Value)} {a:Act} {x y:AP} {ops:Array Oper} {rest:List Oper} {Q:A4->Act->World->Prop} {vs:Array Value} {cs ps:List Value}
theorem VB.next(V:VB w W t B vs)(k:Bi W.heap.size W W'):VB w W' t B vs:=⟨by rw[k.block B (AZ.1 V.blk).1];exact V.blk,V.bel.trans (k.mono V.bel.size),V.ge,V.nu⟩
theorem VB.one(V:VB w W t B vs)(hc:vs[k]? =some v)(ht:uP AB t'=some false:=by rfl):LdB W t' (.pointer (some ⟨B,k,none⟩)) v:=.one ht (AZ.1 V.blk).1 (by rw[aH V.blk];exact hc)
theorem VB.row{D:D2}(V:VB w W t B vs)(hc:∀j u,ps[j]? =some u->vs[k+j]? =some u)(hi:(AB.info? t').map (·.size)=some ps.length)(G:AB.underlying t'=some D:=by rfl)(C:D.isRow=true:=by rfl):LdB W t' (.pointer (some ⟨B,k,none⟩)) (.agg ps.toArray):=
 .row G C hi (AZ.1 V.blk).1 (λj u F=>by rw[aH V.blk];exact hc j u F)
theorem VB.new(w:World)(t:TypeId)(vs:Array Value)(h:∀u∈vs.toList,noU u):VB w (w.alloc (.cells vs t)) t w.heap.size vs:=⟨Bm w _,(AF _ w).alloc (AE _) _,AE _,h⟩
theorem VB.own(V:VB w W t B vs):Own W B:=jf V.blk V.nu
theorem vA(F:Kn n l a)(z:Nat)(h:∀ {a' W B vs},VB w W t B vs->vs.size=z->Kn n ((d,.pointer (some ⟨B,0,none⟩))::l) a'->wpList AB ops Q rest a' W)(C:o.dst=some d:=by rfl)(hn:d<n:=by decide)(G:o.op= .alloc t:=by rfl)(hz:((AB.info? t).bind (·.zero)).map (λu=>(u.cells.size,u.cells.toList.all nuB))=some (z,true):=by kernel_rfl)(H:A6 o (yielded ops a.tmps)=true:=by first | exact fD rfl | exact iR (by assumption) rfl rfl rfl rfl):wpList AB ops Q (o::rest) a w:=by
 cases hq:(AB.info? t).bind (·.zero)with
 | none=>rw[hq]at hz;cases hz
 | some u=>
  rw[hq]at hz;refine wl H F C hn (kx_al (v:=.pointer (some ⟨w.heap.size,0,none⟩)) (w':=w.alloc (.cells u.cells t)) G ?_) λ_=>h (VB.new w t u.cells (nuB_all (by injection hz with hz;injection hz))) (by injection hz with hz;injection hz)
  simp only[Instr.alloc,AH,rK hq,AQ,newVar,newRow,Go.newObj,Sem.run,Bw];rfl
theorem vX(H:∀u∈cs,noU u)(C:Kn n l a)(h:∀ {a' W B},VB w W t B cs.toArray->Kn n ((d,.pointer (some ⟨B,0,none⟩))::l) a'->wpList AB ops Q rest a' W)(F:o.dst=some d:=by rfl)(hn:d<n:=by decide)(G:o.op= .box t x:=by rfl)(J:evK l x=some (.agg cs.toArray):=by rfl)(I:A6 o (yielded ops a.tmps)=true:=by first | exact fD rfl | exact iR (by assumption) rfl rfl rfl rfl):wpList AB ops Q (o::rest) a w:=by
 refine wl I C F hn (v:=.pointer (some ⟨w.heap.size,0,none⟩)) (w':=w.alloc (.cells cs.toArray t)) ?_ λ_=>h (VB.new w t _ (by simpa using H))
 unfold execOp;simp only[G];rw[C.evx J];simp only[Instr.box,AH,AQ,newVar,newRow,Go.newObj,Sem.run,Bw];rfl
theorem VB.fill(V:VB w W t B vs)(hz:vs.size=cs.length)(h1:cs.toArray.all (·.oneCell')=true)(C:∀u∈cs,noU u)(hi:(AB.info? t).map (·.size)=some cs.length):∃W',(EC t (.pointer (some ⟨B,0,none⟩)) (.agg cs.toArray)).run AB W= .ok () W'/\VB w W' t B cs.toArray/\Upd W B W':=by
 have ht:W.there B 0 cs.toArray.size:=by have:=oc V.blk;rwa [hz,<-Cb]at this
 refine⟨_,run_storeAt_mid W B 0 t cs.toArray ht (by rw[Cb];exact hi) h1,⟨?_,aQ _ 0 _ V.bel V.ge,V.ge,At⟩,co _ W B 0⟩;rw[ft _ W B 0 _ _ V.blk,lz (by rw[hz]),ED]
theorem VB.upd{G:TypeId}{C:Nat}{us:Array Value}(V:VB w W t B vs)(u:Upd W C W')(F:B≠C)(V2:VB w W' G C us):VB w W' t B vs:=⟨(u.block B F).trans V.blk,V2.bel,V.ge,V.nu⟩
theorem vF(V:VB w W t B vs)(hz:vs.size=cs.length)(h1:cs.toArray.all (·.oneCell')=true)(J:∀u∈cs,noU u)(C:Kn n l a)(h:∀ {a' W'},VB w W' t B cs.toArray->Upd W B W'->Kn n l a'->wpList AB ops Q rest a' W')(hi:(AB.info? t).map (·.size)=some cs.length)(G:o.dst=none:=by rfl)(H:o.op= .store t x y:=by rfl)(U:evK l x=some (.pointer (some ⟨B,0,none⟩)):=by rfl)(hy:evK l y=some (.agg cs.toArray):=by rfl)
  (K:A6 o (yielded ops a.tmps)=true:=by first | exact fD rfl | exact iR (by assumption) rfl rfl rfl rfl):wpList AB ops Q (o::rest) a W:=by
 obtain⟨W',I,F,u⟩:=V.fill hz h1 J hi;exact wls K C G (sE C H U hy I) λ_=>h F u
end
variable{Q:A4->Act->World->Prop}{a:Act}
theorem ibo{id j:Nat}(h:Q (.exit j) a w)(C:j≠id:=by decide):Ei id Q (.exit j) a w:=by simp only[Ei,if_neg C];exact h
theorem rets(h:Q .ret a w):Exit.noGoto Q .ret a w:=h
variable{rs:List Rq}
theorem zz{cs:List Value}{u:Int}(h:bo w rs cs):(AK .i64 u::cs).toArray.all (·.oneCell')=true:=Fu (λv C=>by
 rcases AS.1 C with rfl | C
 ·rfl
 ·exact eT h v C)
theorem cr_nu{cs:List Value}(h:bo w rs cs):∀v∈cs,noU v:=λv F n e=>by
 obtain⟨k,C⟩:=Di F;exact h.noInt k n (by rw[C,e])
theorem qy{cs:List Value}{u:Int}(h:bo w rs cs):∀v∈(AK .i64 u::cs),noU v:=λv C=>by
 rcases AS.1 C with rfl | C
 ·intro n e;cases e
 ·exact cr_nu h v C
variable{P:AW}
theorem gA{x y:Code}(I:Act->World->Prop)(C:x.wp P (Exit.then I Q) a w)(hy:∀a w,I a w->y.wp P Q a w):(Code.seq x y).wp P Q a w:=
 BP (wp_mono C λe a w h=>by cases e<;>first | exact hy _ _ h | exact h)
variable{v:Value}{ops:Array Oper}
theorem yK{H:World->Prop}{n d:Nat}{o:Oper}{l:List (Nat×Value)}{md:Region.Mode}{F:Nat}{C:Array Bool}(i:Nat)(G:Kn n l a)(J:H w)(h:∀ {a'},Kn n ((d,v)::l) a'->wpAnyH AB md ops Q H F (C.setIfInBounds i true) a' w)
  (hi:ops[i]? =some o:=by rfl)(hs:Region.noSelect ops=true:=by kernel_rfl)(hf:Region.free md ops C i=true:=by kernel_rfl)(hr:(BY md ops C).contains i=true:=by kernel_rfl)(K:o.dst=some d:=by rfl)(hn:d<n:=by decide)(I:∀c a a' w,a'.defers=a.defers->Q (.panic c) a w->Q (.panic c) a' w:=by exact λc a a' w e h=>⟨e.trans h.1,h.2⟩)(U:o.guard=none:=by rfl)
  (hy:∀a w,Kn n l a->H w->(execOp a.eval o).run AB w= .ok (.value v) w:=by intro a w G V;first | exact mQ G rfl rfl | exact aaX G rfl rfl rfl | exact lA G rfl rfl | exact qv G rfl rfl | exact aaW G rfl rfl (by assumption) V | exact kx_io G rfl rfl rfl rfl rfl (by omega)):wpAnyH AB md ops Q H (F+1) C a w:=wpAnyH_k G hi hs hf hr K hn I U hy J λ_=>h
def StL(w:World)(b o:Nat)(x:St):Prop:=LdB w 3 (.pointer (some ⟨b,o,none⟩)) (.int .i64 x.tm)/\∃cs,bo w (x.pose.cs.map Fq.raw) cs/\LdB w 39 (.pointer (some ⟨b,o+1,none⟩)) (.agg cs.toArray)/\LdB w 120 (.pointer (some ⟨b,o,none⟩)) (.agg (.int .i64 x.tm::cs).toArray)
section
variable {w:World} {g:Nat} {sl:Value} {T:TypeId} {S:List St}
theorem TrkS.form(h:TrkS T w g sl S):∃C c,sl= .slice C S.length c/\LdB w 183 (.pointer (some ⟨g,0,none⟩)) sl:=by
 have e:∃C c,sl= .slice C S.length c:=by
  rcases h.row with⟨_,h2,e⟩ | ⟨b,o,c,cs,e,_⟩
  ·exact⟨_,_,by rw[h2];exact e⟩
  ·exact⟨_,_,e⟩
 obtain⟨C,c,e⟩:=e;exact⟨C,c,e,.one Aa (AZ.1 h.blk).1 (by rw[aH h.blk];rfl)⟩
theorem TrkS.parts(h:TrkS T w g sl S)(h0:S≠ []):∃b o c,sl= .slice (some ⟨b,o,none⟩) S.length c/\∀k x,S[k]? =some x->StL w b (o+k*22) x:=by
 obtain⟨s,hs⟩:=F1 _ h0;obtain⟨i,hi⟩:=Di hs;obtain⟨b,o,c,C,e,_,hb,I⟩:=row_at h.row (rowS_ne hi);have hl:=(AZ.1 hb).1;refine⟨b,o,c,e,λk x J=> ?_⟩;have hc:∀j q,x.qs[j]? =some q->∃u,w.cell? ⟨b,o+k*22+j,none⟩=some u/\q.p w u:=λj q F=>by
  obtain⟨u,h1,h2,_⟩:=I _ q (wA J F);exact⟨u,by rw[aH hb,C1];exact h1,h2⟩
 have G:∀j,j<22->∃u,w.cell? ⟨b,o+k*22+j,none⟩=some u:=λj F=>by
  obtain⟨u,h1,_⟩:=hc j _ (AJ (by rw[St.qs_len];exact F));exact⟨u,h1⟩
 let f:Nat->Value:=λj=>(w.cell? ⟨b,o+k*22+j,none⟩).getD undef
 have hf:∀j,j<22->w.cell? ⟨b,o+k*22+j,none⟩=some (f j):=λj F=>by
  obtain⟨u,h1⟩:=G j F;show _=some ((w.cell? ⟨b,o+k*22+j,none⟩).getD undef);rw[h1];rfl
 have h1:f 0= .int .i64 x.tm:=by
  obtain⟨u,h1,h2⟩:=hc 0 _ rfl;have:=hf 0 it;rw[h1]at this;injection this with this;rw[<-this];exact h2.1
 have H:∀j u,((Bj 21).map λj=>f (j+1))[j]? =some u->w.cell? ⟨b,o+k*22+(j+1),none⟩=some u:=λj u F=>by
  have hl:j<21:=by have:=(AX.1 F).1;simpa using this
  rw[Bp,Es hl]at F;injection F with F;rw[hf _ no,<-F]
 refine⟨.one Aa hl (by have:=hf 0 it;rw[h1]at this;exact this),(Bj 21).map λj=>f (j+1),mP (by simp;rfl) (λj q F=> ?_),.row CC rfl (by rw[Cg,List.length_range];rfl) hl (λj u F=>by rw[C1 (o+k*22),Nat.add_comm 1];exact H j u F),.row Eh rfl (by rw[Bg,Cg,List.length_range];rfl) hl (λj u F=> ?_)⟩
 ·obtain⟨u,K,k2⟩:=hc (j+1) q F;have hl:j<21:=(AX.1 F).1;refine⟨u,?_,k2⟩;rw[Bp,Es hl];have:=hf (j+1) no;rw[K]at this;exact this.symm
 ·cases j with
  | zero=>simp only[Ec]at F;rw[<-F,<-h1];exact hf 0 it
  | succ j=>exact H j u Ay
end
variable{t:TypeId}
theorem run_fd{F:Array Field}{C:Field}{i z:Nat}{us:Array Value}(I:AB.underlying t=some (.struct F))(H:F[i]? =some C)(ha:uP AB C.type=some true)(hz:szB AB C.type=some z)(G:us.extract C.offset (C.offset+z)=vs):(Instr.field t (.agg us) i).run AB w= .ok (.agg vs) w:=by
 simp[Instr.field,part,asAgg,AH,run_underlying I,H,iY ha,ba hz,AQ,G]
section
variable {w w0 W:World} {n B:Nat} {o:Oper} {l:List (Nat×Value)} {a:Act} {x y:AP} {ops:Array Oper} {rest:List Oper} {Q:A4->Act->World->Prop} {vs:Array Value} {cs:List Value} {s:St} {p:Pq}
theorem vFS(V:VB w W 120 B vs)(hz:vs.size=22)(hc:bo w0 (s.pose.cs.map Fq.raw) cs)(F:Kn n l a)(h:∀ {a' W'},VB w W' 120 B (AK .i64 s.tm::cs).toArray->Upd W B W'->Kn n l a'->wpList AB ops Q rest a' W')(C:o.dst=none:=by rfl)(G:o.op= .store 120 x y:=by rfl)(I:evK l x=some (.pointer (some ⟨B,0,none⟩)):=by rfl)(hy:evK l y=some (.agg (AK .i64 s.tm::cs).toArray):=by rfl)
  (H:A6 o (yielded ops a.tmps)=true:=by first | exact fD rfl | exact iR (by assumption) rfl rfl rfl rfl):wpList AB ops Q (o::rest) a W:=vF V (by rw[hz,Bg,aE hc];rfl) (zz hc) (qy hc) F h (by rw[Bg,aE hc];rfl) C G I hy H
theorem vFR(V:VB w W t B vs)(hc:bo w0 rs cs)(hz:vs.size=3*rs.length)(F:Kn n l a)(h:∀ {a' W'},VB w W' t B cs.toArray->Upd W B W'->Kn n l a'->wpList AB ops Q rest a' W')(hi:(AB.info? t).map (·.size)=some (3*rs.length):=by kernel_rfl)(C:o.dst=none:=by rfl)(G:o.op= .store t x y:=by rfl)(I:evK l x=some (.pointer (some ⟨B,0,none⟩)):=by rfl)(hy:evK l y=some (.agg cs.toArray):=by rfl)
  (H:A6 o (yielded ops a.tmps)=true:=by first | exact fD rfl | exact iR (by assumption) rfl rfl rfl rfl):wpList AB ops Q (o::rest) a W:=vF V (by rw[hz,aE hc]) (Fu (eT hc)) (cr_nu hc) F h (by rw[aE hc];exact hi) C G I hy H
theorem VB.st(V:VB w W 120 B (AK .i64 s.tm::cs).toArray)(hc:bo w0 (s.pose.cs.map Fq.raw) cs):LdB W 3 (.pointer (some ⟨B,0,none⟩)) (.int .i64 s.tm)/\LdB W 39 (.pointer (some ⟨B,1,none⟩)) (.agg cs.toArray)/\LdB W 120 (.pointer (some ⟨B,0,none⟩)) (.agg (AK .i64 s.tm::cs).toArray):=
 ⟨V.one rfl,V.row (λj u C=>by rw[Nat.add_comm];simpa using C) (by rw[aE hc];rfl),V.row (λj u C=>by rw[A5];simpa using C) (by rw[Bg,aE hc];rfl)⟩
theorem VB.fr{D:D2}(V:VB w W t B cs.toArray)(hc:bo w0 rs cs)(hi:(AB.info? t).map (·.size)=some (3*rs.length):=by kernel_rfl)(G:AB.underlying t=some D:=by rfl)(C:D.isRow=true:=by rfl):LdB W t (.pointer (some ⟨B,0,none⟩)) (.agg cs.toArray):=
 V.row (λj u F=>by rw[A5];simpa using F) (by rw[aE hc];exact hi) G C
theorem VB.ret(V:VB w W 39 B vs)(hl:vs.size=21){fn:Func}{p u:Tmp}(hr:fn.results=#[.cell p 39,.tmp u])(tmps:Array Value)(hp:tmps.getD p undef= .pointer (some ⟨B,0,none⟩)):
  (results fn tmps).run AB W= .ok (.tuple #[.agg vs,tmps.getD u undef]) W:=
 sy hr tmps W B _ _ _ _ hp V.blk CC rfl (by rw[hl];kernel_rfl)
theorem TrkS.mono{T:TypeId}{g:Nat}{sl:Value}{S:List St}{w':World}(h:TrkS T w g sl S)(hb:Bi w.heap.size w w'):TrkS T w' g sl S:=
 ⟨by rw[hb.block g (AZ.1 h.blk).1];exact h.blk,((Vp.row stT S.length (bB S)).ch w w' _ sl h.row (Chg.below hb) (λ_ _ h=>h)).1,h.ne⟩
theorem kx_fd{u:Int}(C:Kn n l a)(F:o.op= .field 120 x 1)(G:evK l x=some (.agg (AK .i64 u::cs).toArray))(hl:cs.length=21):(execOp a.eval o).run AB w= .ok (.value (.agg cs.toArray)) w:=by
 have h:(Instr.field 120 (.agg (AK .i64 u::cs).toArray) 1).run AB w= .ok (.agg cs.toArray) w:=run_fd Eh rfl Aa Aa (by
  rw[List.extract_toArray];show(List.take (1+21 - 1) (List.drop 1 (AK .i64 u::cs))).toArray=_;rw[List.drop_one,List.tail_cons,List.take_of_length_le no])
 unfold execOp;simp only[F];rw[C.evx G];simp only[AH,h];rfl
end
abbrev ptG(g:Nat):Value:=.pointer (some ⟨g,0,none⟩)
variable{S:List St}
theorem jv{k:Nat}{x:St}(h:S[k]? =some x):S≠ []:=λe=>by subst e;simp at h
variable{g:Nat}
theorem k_place{sl:Value}{S:List St}(h:TrkS 223 w g sl S)(a:Int)(hS:S.length<=1000):
  AC AB 185 #[ptG g,.int .i64 a] w λe w'=>e= .returned (.int .i64 ((plN S a:Nat):Int))/\mBw w w':=by
 have hp:=ii S a;obtain⟨ad,c,K,f0⟩:=h.form;go_enter Tryz.func185,Tryz.ntmps185
 refine bk 28 [(0,ptG g),(1,.int .i64 a)] λC=> ?_
 refine cV ?_;refine sD C ?_;intro _ C;refine wle ?_;refine cV ?_;refine sD C ?_;intro _ C;refine wle ?_;subst K;refine wp_bl (λa' wr=>∃k:Nat,Kn 28 [(0,ptG g),(1,.int .i64 a),(5,.int .i64 (k:Int))] a'/\k<=plN S a/\mBw w wr) (λa' _=>S.length - (intOf (a'.tmps.getD 5 undef)).toNat) ⟨0,C.ct,AY _,AF _ _⟩ (λa' wr Y=> ?_);obtain⟨k,C,Z,hb⟩:=Y;have hm:(intOf (a'.tmps.getD 5 undef)).toNat=k:=by rw[C.gt 5];simp[intOf]
 rw[hm];by_cases hlt:k<plN S a
 ·obtain⟨x,G,U⟩:=eN hlt;obtain⟨b,o,V,e,F⟩:=h.parts (jv G);injection e with H I J;subst H;subst J;clear I;obtain⟨f1,_⟩:=F k x G;refine BP ?_;refine cV ?_;refine sD C ?_;intro _ C;refine wle ?_;refine qw C rfl (wp_skip (thn ?_));refine Cq ?_;refine bD ?_;refine sD C ?_;intro _ C;refine vN C ((k+1:Nat)) λC=> ?_
  refine sD C ?_;intro _ C;refine wln (ibn (thn ⟨⟨k+1,C.ct,hlt,hb⟩,?_⟩));rw[C.gt 5];simp only[intOf];omega
 ·obtain rfl:k=plN S a:=no
  by_cases hn:plN S a<S.length
  ·obtain⟨x,G,U⟩:=tO hn;obtain⟨b,o,V,e,F⟩:=h.parts (jv G);injection e with H I J;subst H;subst J;clear I;obtain⟨f1,_⟩:=F _ x G;refine BP ?_;refine cV ?_;refine sD C ?_;intro _ C;refine wle ?_;refine kO C rfl (wp_exit (thx (thx (ibx (thn ?_)))));refine cV ?_;refine sD C ?_;intro _ C;refine wle ?_;refine mT1 C ?_;exact⟨rfl,hb⟩
  ·refine BP ?_;refine cV ?_;refine sD C ?_;intro _ C;refine wle ?_;refine kO C rfl (wp_exit (thx (thx (ibx (thn ?_)))));refine cV ?_;refine sD C ?_;intro _ C;refine wle ?_;refine mT1 C ?_;exact⟨rfl,hb⟩
section
variable {w:World} {g:Nat} {sl:Value} {S:List St}
theorem k_Len(h:TrkS 223 w g sl S):AC AB 128 #[ptG g] w λe w'=>e= .returned (.int .i64 (S.length:Int))/\mBw w w':=by
 obtain⟨F,c,rfl,G⟩:=h.form;have hb:=AF w.heap.size w;go_enter Tryz.func128,Tryz.ntmps128
 refine bk 10 [(0,ptG g)] λC=> ?_
 refine cV ?_;refine sD C ?_;intro _ C;refine wle ?_;refine BP ?_;refine cV ?_;refine sD C ?_;intro _ C;refine wle ?_;refine kO C rfl (wp_skip (thn ?_));refine cV ?_;refine sD C ?_;intro _ C;refine wle ?_;refine mT1 C ?_;exact⟨rfl,hb⟩
theorem k_rLen(h:TrkS 185 w g sl S):AC AB 157 #[ptG g] w λe w'=>e= .returned (.int .i64 (S.length:Int))/\mBw w w':=by
 obtain⟨F,c,rfl,G⟩:=h.form;have hb:=AF w.heap.size w;go_enter Tryz.func157,Tryz.ntmps157
 refine bk 8 [(0,ptG g)] λC=> ?_
 refine cV ?_;refine sD C ?_;intro _ C;refine wle ?_;refine cV ?_;refine sD C ?_;intro _ C;refine wle ?_;refine mT1 C ?_;exact⟨rfl,hb⟩
theorem kEnds{S:List St}:S.length=0/\gR S=(0,0,false)\/∃f l,0<S.length/\S[0]? =some f/\S[S.length - 1]? =some l/\gR S=(f.tm,l.tm,true):=by
 by_cases h0:S.length=0
 ·have e:S=[]:=CF h0;subst e;exact .inl Ai
 ·obtain⟨f,hf⟩:∃f,S[0]? =some f:=⟨_,AJ no⟩;obtain⟨l,hl⟩:∃f,S[S.length - 1]? =some f:=⟨_,AJ no⟩;exact .inr ⟨f,l,no,hf,hl,by unfold gR;rw[hf,hl]⟩
theorem k_Span(h:TrkS 223 w g sl S)(hn:S.length<=1000):AC AB 100 #[ptG g] w λe w'=>e= .returned (.tuple #[.int .i64 (gR S).1,.int .i64 (gR S).2.1,.bool (gR S).2.2])/\mBw w w':=by
 obtain⟨V,c,H,Z⟩:=h.form;have hb:=AF w.heap.size w;go_enter Tryz.func100,Tryz.ntmps100
 refine bk 35 [(0,ptG g)] λC=> ?_
 subst H;refine cV ?_;refine sD C ?_;intro _ C;refine wle ?_;rcases kEnds (S:=S)with⟨h0,G⟩ | ⟨f,l,h0,hf,hl,G⟩
 ·rw[G];refine BP ?_;refine cV ?_;refine sD C ?_;intro _ C;refine wle ?_;refine qw C rfl ?_;refine cV ?_;refine sD C ?_;intro _ C;refine wle ?_;refine mT3 C ?_;exact⟨rfl,hb⟩
 ·obtain⟨b,o,Y,e,F⟩:=h.parts (jv hf);injection e with J K U;subst J;subst U;clear K;obtain⟨f1,_⟩:=F _ f hf;obtain⟨f2,_⟩:=F _ l hl;rw[G];refine BP ?_;refine cV ?_;refine sD C ?_;intro _ C;refine wle ?_;refine kO C rfl (wp_skip (thn ?_));refine t8 Aa Aa Ak ?_;refine uD C ?_;intro _ C;refine uN C ((S.length - 1:Nat)) λC=> ?_
  refine uD C ?_;intro _ C;refine wqn (λw' I=> ?_);refine mT3 C ?_;exact⟨rfl,I⟩
theorem Road.at{a:Int}{z y:St}{c:Int}(hr:Road S a z y c):c=6/\S.length=0\/∃f l,0<S.length/\S[0]? =some f/\S[S.length - 1]? =some l/\((c=17/\(a<f.tm\/f.tm<=a/\l.tm<a))\/(c=0/\f.tm<=a/\a<=l.tm/\plN S a<S.length/\S[plN S a]? =some y/\(y.tm=a/\z=y\/a<y.tm/\0<plN S a/\S[plN S a - 1]? =some z))):=by
 cases hr with
 | E h=>exact .inl ⟨rfl,h⟩
 | O1 f hf hn ha=>exact .inr ⟨f,_,hn,hf,AJ no,.inl ⟨rfl,.inl ha⟩⟩
 | O2 f hf hb l hl hn ha=>exact .inr ⟨f,l,hn,hf,hl,.inl ⟨rfl,.inr ⟨hb,ha⟩⟩⟩
 | Q f hf hb l hl hn ha y hy ey hp eq1=>exact .inr ⟨f,l,hn,hf,hl,.inr ⟨rfl,hb,ha,hp,hy,.inl ⟨ey,rfl⟩⟩⟩
 | M f hf hb l hl hn ha y hy ey hp h0 eq1 z hz=>exact .inr ⟨f,l,hn,hf,hl,.inr ⟨rfl,hb,ha,hp,hy,.inr ⟨ey,h0,hz⟩⟩⟩
set_option maxHeartbeats 1000000 in
theorem k_around(h:TrkS 223 w g sl S)(hn:S.length<=1000){a:Int}{z y:St}{c:Int}(ab:Road S a z y c):AC AB 164 #[ptG g,.int .i64 a] w λe w'=>∃i j:Nat,e= .returned (.tuple #[.int .i64 i,.int .i64 j,.int .i64 c])/\(c=0->S[i]? =some z/\S[j]? =some y/\(i=j/\y.tm=a/\z=y\/j=i+1/\z.tm<a/\a<y.tm))/\mBw w w':=by
 obtain⟨ad,c1,ac,f0⟩:=h.form;have hb:=AF w.heap.size w;go_enter Tryz.func164,Tryz.ntmps164
 refine bk 77 [(0,ptG g),(1,.int .i64 a)] λC=> ?_
 subst ac;refine cV ?_;refine sD C ?_;intro _ C;refine wle ?_;refine wp_scope_straight ?_;rcases ab.at with⟨rfl,h0⟩ | ⟨f,l,h0,hf,hl,J⟩
 ·refine BP (Cq ?_);refine cV ?_;refine sD C ?_;intro _ C;refine wle ?_;refine qw C rfl ?_;refine cV ?_;refine sD C ?_;intro _ C;refine wle ?_;refine Ct ?_
  repeat first | refine jV ?_ | refine jW ?_ | refine rets ?_
  refine A7 (Fs rfl _ _ _) C.df ?_;rw[C.gt 4,C.gt 5,C.gt 6];exact⟨0,0,rfl,(λh=>by cases h),hb⟩
 ·obtain⟨b,o,c2,e,K⟩:=h.parts (jv hf);injection e with e1 e2 e3;subst e1;subst e3;clear e2;obtain⟨f1,_⟩:=K _ f hf;obtain⟨f2,_⟩:=K _ l hl;rcases J with⟨rfl,J⟩ | ⟨rfl,r1,r2,hp,hy,J⟩
  ·rcases J with J | ⟨J,ao⟩
   ·refine BP (Cq ?_);refine cV ?_;refine sD C ?_;intro _ C;refine wle ?_;refine kO C rfl ?_;refine t8 Aa Aa Ak ?_;refine uD C ?_;intro _ C;refine wqn (λw' F=> ?_);refine qw C rfl ?_;refine cV ?_;refine sD C ?_;intro _ C;refine wle ?_;refine Ct ?_
    repeat first | refine jV ?_ | refine jW ?_ | refine rets ?_
    refine A7 (Fs rfl _ _ _) C.df ?_;rw[C.gt 4,C.gt 5,C.gt 6];exact⟨0,0,rfl,(λh=>by cases h),F⟩
   ·refine BP (Cq ?_);refine cV ?_;refine sD C ?_;intro _ C;refine wle ?_;refine kO C rfl ?_;refine t8 Aa Aa Ak ?_;refine uD C ?_;intro _ C;refine uN C ((S.length - 1:Nat)) λC=> ?_
    refine uD C ?_;intro _ C;refine wqn (λw' F=> ?_);refine qw C rfl ?_;refine cV ?_;refine sD C ?_;intro _ C;refine wle ?_;refine Ct ?_
    repeat first | refine jV ?_ | refine jW ?_ | refine rets ?_
    refine A7 (Fs rfl _ _ _) C.df ?_;rw[C.gt 4,C.gt 5,C.gt 6];exact⟨0,0,rfl,(λh=>by cases h),F⟩
  ·refine BP (Cq ?_);refine cV ?_;refine sD C ?_;intro _ C;refine wle ?_;refine kO C rfl ?_;refine t8 Aa Aa Ak ?_;refine uD C ?_;intro _ C;refine uN C ((S.length - 1:Nat)) λC=> ?_
   refine uD C ?_;intro _ C;refine wqn (λw' F=> ?_);refine kO C rfl ?_;refine wp_skip (ibn (thn ?_));clear hb;refine cV ?_;refine sD C ?_;intro _ C;refine wle ?_;refine BP (wp_label (thn ?_));refine sX C ?_;intro _ C;have C:=C.ct (l':=[(1,.int .i64 a),(52,.slice (some ⟨b,o,none⟩) S.length c1),(53,.int .i64 (S.length:Int)),(54,.int .i64 0)]);refine eU (λa' wr=>∃k:Nat,Kn 77 [(1,.int .i64 a),(52,.slice (some ⟨b,o,none⟩) S.length c1),(53,.int .i64 (S.length:Int)),(54,.int .i64 (k:Int))] a'/\k<=plN S a/\mBw w wr) (λa' _=>S.length - (intOf (a'.tmps.getD 54 undef)).toNat) ⟨0,C,AY _,F⟩ (λa' wr hI=> ?_);obtain⟨k,C,aa,hb⟩:=hI;have hm:(intOf (a'.tmps.getD 54 undef)).toNat=k:=by rw[C.gt 54];simp[intOf]
   rw[hm];obtain⟨x,U⟩:∃x,S[k]? =some x:=⟨_,AJ no⟩;obtain⟨f3,cs,Z,_,f4⟩:=K _ x U;refine sX C ?_;intro _ C;refine lB C ?_;refine BP (Cq ?_);refine sA C ?_;intro _ C;refine vA C 22 λV hz C=> ?_
   refine sD C ?_;intro _ C;refine vFS V hz Z C λ{_ W} V _ C=> ?_
   have f5:=V.one (k:=0) (v:=.int .i64 x.tm) (t':=3) rfl;have am:=AF W.heap.size W;have I:=hb.trans (V.bel.mono hb.size);refine wln (thn ?_);refine Cq ?_;rcases Nat.lt_or_eq_of_le aa with Y | rfl
   ·obtain⟨x',G,ap⟩:=eN Y;rw[U]at G;injection G with G;subst G;refine sX C ?_;intro _ C;refine mCf C ?_;refine sX C ?_;intro _ C;refine mCf C ?_;refine wp_skip (ibn (ibn (thn ?_)));refine mDn ?_;refine bD ?_;refine vN C ((k+1:Nat)) λC=> ?_
    refine sD C ?_;intro _ C;refine wln (thn ⟨⟨k+1,C.ct,Y,I⟩,?_⟩);rw[C.gt 54];simp only[intOf];omega
   ·rw[hy]at U;injection U with U;subst U;rcases J with⟨ey,rfl⟩ | ⟨ey,an,hz⟩
    ·refine sX C ?_;intro _ C;refine mCt C ?_;refine sX C ?_;intro _ C;refine wp_exit ?_
     repeat first | refine thx ?_ | refine ibx ?_ | refine ibo ?_
     refine thn ?_;refine sX C ?_;intro _ C;refine Ct ?_
     repeat first | refine jV ?_ | refine jW ?_ | refine rets ?_
     refine A7 (Fs rfl _ _ _) C.df ?_;rw[C.gt 4,C.gt 5,C.gt 6];exact⟨_,_,rfl,λ_=>⟨hy,hy,.inl ⟨rfl,ey,rfl⟩⟩,I⟩
    ·obtain⟨z',H,ak⟩:=eN (S:=S) (a:=a) (k:=plN S a - 1) no;rw[hz]at H;injection H with H;subst H;refine sX C ?_;intro _ C;refine mCf C ?_;refine sX C ?_;intro _ C;refine mCt C ?_;refine sA C ?_;intro _ C;refine vN C ((plN S a - 1:Nat)) λC=> ?_
     refine sZ C ?_;intro _ C;refine wp_exit ?_
     repeat first | refine thx ?_ | refine ibx ?_ | refine ibo ?_
     refine thn ?_;refine sX C ?_;intro _ C;refine Ct ?_
     repeat first | refine jV ?_ | refine jW ?_ | refine rets ?_
     refine A7 (Fs rfl _ _ _) C.df ?_;rw[C.gt 4,C.gt 5,C.gt 6];exact⟨_,_,rfl,λ_=>⟨hz,hy,.inr ⟨no,ak,ey⟩⟩,I⟩
end
variable{rest:List Oper}{w':World}
theorem ae{op:Oper}(C:op.guard=none)(hr:(execOp a.eval op).run P w= .ok (.value v) w')
  (h:wpList P ops Q rest (a.put op.dst v) w'):wpList P ops Q (op::rest) a w:=
 BA C λK F=>by
  unfold Bk;rw[hr];exact F _ _ h
variable{c:Nm}
theorem LnAt.frz{l:Ln}(h:LnAt w c l)(j:Nat):w.frozen? ⟨l.b,j,none⟩=false:=by
 obtain⟨⟨cs,h1,_⟩,_⟩:=h;simp[Dl,h1]
theorem LnAt.thr{l:Ln}(h:LnAt w c l)(v:Value):(w.setCell ⟨l.b,4,none⟩ v).there l.b 5 21:=λj C=>by
 obtain⟨⟨cs,h1,h2,_⟩,_⟩:=h;have h2:cs.size=27:=h2;have h3:=heap_setCell_same w l.b 4 cs lkT v h1;refine⟨?_,by simp[Dl,h3]⟩;rw[aH h3,Array.getElem?_eq_getElem (by simp[h2];omega)];rfl
variable{t m:Nat}{E:List Ch}
theorem opAt_E{l:Ln}(_:TM w t m E)(J:opL (lsE E c)=some l):∃k,eO (trE E) c k l.x:=by
 obtain⟨G,ch,hc,I⟩:=mM J;have H:=cE.2 ⟨ch,(cD hc).1,l,A0 I,rfl⟩;rw[(cD hc).2]at H;obtain⟨k,C,F⟩:=BK H;exact⟨k,by rw[AJ C,F],G⟩
variable{p:Pq}
set_option maxHeartbeats 1000000 in
theorem q_Fixed{cs:List Value}{ok:Bool}(h:TM w t m E)(hE:TOk (trE E))(hv:aR w (.agg cs.toArray) p)(hp:p.ok 1000)
  (J:∀w',Bi w.heap.size w w'->AC AB 122 #[.agg cs.toArray] w' λe a5=>e= .returned (.bool ok)/\Bi w'.heap.size w' a5):
  AC AB 70 #[ptB t,.string c,.agg cs.toArray] w λe w'=>∃E' Y C,e= .returned (.int .i64 C)/\TPost w t m E w' E'/\REq (trE E') Y/\FixS ok p (trE E) c Y C:=by
 obtain⟨w1,a4⟩:∃w1,w.alloc (.cells cs.toArray 39)=w1:=⟨_,rfl⟩;have G:Bi w.heap.size w w1:=by rw[<-a4];exact(AF _ _).alloc (AE _) _
 have a3:w1.heap.size=w.heap.size+1:=by rw[<-a4];exact asz _ _
 have I:w1.heap[w.heap.size]? =some (.cells cs.toArray 39 (0,0)):=by rw[<-a4];exact Bm w _
 have h1:=h.below G;have U:=lm h1 c;have H:cs.length=21:=by
  obtain⟨ab,e0,hc⟩:=hv;have e0:cs=ab:=by injection e0 with e0;simpa using e0
  subst e0;exact aE hc
 have ad:∀w',Bi w.heap.size w w'->AC AB 97 #[.agg cs.toArray] w' λe a5=>jt w' p e a5:=λw' hb=>q_fcp _ p w' (hv.mono hb) (hp.mono it)
 generalize hB:w.heap.size=B at *
 cases hl0:opL (lsE E c)with
 | none=>
  rw[hl0]at U
  change AC _ _ _ _ (λe w'=>e= .returned (.pointer none)/\w'=w1)at U
  have HP:=AA (show∃E' Y C,BF (.int .i64 18)= .returned (.int .i64 C)/\TPost w t m E w1 E'/\REq (trE E') Y/\FixS ok p (trE E) c Y C from⟨E,_,18,rfl,.refl h (by rw[hB];exact G),.refl _,.none (qn h hE hl0)⟩);clear h h1 hl0 G I J ad H hv hp hE a3;go_enter Tryz.func70,Tryz.ntmps70
  go_wp2_with (go_at_call 124;refine U.mono ?_;rintro e w' ⟨rfl,V⟩;obtain rfl:=V.symm)
  go_ret;exact HP.out
 | some l=>
  rw[hl0]at U
  change AC _ _ _ _ (λe w'=>e= .returned (ptB l.b)/\w'=w1)at U
  obtain⟨k,hk⟩:=opAt_E h hl0;obtain⟨aq,ch,ac,ak⟩:=mM hl0;have hL:=h1.ln ac (A0 ak);have bp:=hL.st;have b0:=hL.tp
  cases hx:l.x.st with
  | true=>
   rw[hx]at bp;have HP:=AA (show∃E' Y C,BF (.int .i64 10)= .returned (.int .i64 C)/\TPost w t m E w1 E'/\REq (trE E') Y/\FixS ok p (trE E) c Y C from⟨E,_,10,rfl,.refl h (by rw[hB];exact G),.refl _,.state hk (.inl hx)⟩);clear h h1 hl0 G I J ad H hv hp hE a3 hk aq ac ak hL b0 hx;generalize l.b=lb at *;go_enter Tryz.func70,Tryz.ntmps70
   go_wp2_with (go_at_call 124;refine U.mono ?_;rintro e w' ⟨rfl,V⟩;obtain rfl:=V.symm)
   go_ret;exact HP.out
  | false=>
   rw[hx]at bp;have ao:l.x.tr.length<=64:=(hE.good _ (A0 hk.1)).len;have am:=k_Len hL.trk;have ax:=AA G;have HT:=AA h;by_cases ht:l.x.tr=[]
   ·have av:AC AB 128 #[ptB l.g] w1 λe w'=>e= .returned (.int .i64 0)/\Bi w1.heap.size w1 w':=by rw[ht]at am;exact am
    have a2:w1.rangeAt B 0 cs:=λj v hv=>by rw[aH I,A5];simpa using hv
    have au:(AB.info? 39).map (·.size)=some 21:=Aa
    have an:B<w1.heap.size:=no
    have ay:=AA (show∀w',Bi w1.heap.size w1 w'->w'.rangeAt B 0 cs from λw' hb j v hv=>by rw[hb.cell (p:=⟨B,_,none⟩) an];exact a2 j v hv);have a0:=AA (show(AB.info? 39).map (·.size)=some cs.length by rw[au,H]);have HV:=AA J
    cases ok with
    | false=>
     have HP:=AA (show∀w2 w3,Bi w1.heap.size w1 w2->Bi w2.heap.size w2 w3->∃E' Y C,BF (.int .i64 4)= .returned (.int .i64 C)/\TPost w t m E w3 E'/\REq (trE E') Y/\FixS false p (trE E) c Y C from λw2 w3 k2 k3=>⟨E,_,4,rfl,.refl h (by rw[hB];exact G.trans ((k2.trans (k3.mono k2.size)).mono no)),.refl _,.range hk hx ht rfl⟩);clear h h1 hl0 G I J ad H hv hp hE hk aq ac ak hL hx am ht a2 au an ao;generalize l.b=lb at *;generalize l.g=lg at *;go_enter Tryz.func70,Tryz.ntmps70
     go_upto_region 8 with(first
      | (go_at_call 124;refine U.mono ?_;rintro e w' ⟨rfl,V⟩;obtain rfl:=V.symm)
      | (go_at_call 128;refine av.mono ?_;rintro e w2 ⟨rfl,k2⟩;have ap:=AA (ay.out w2 k2);have aa:=HV.out w2 (ax.out.trans (k2.mono no));have K2:=AA k2;clear k2))
     refine Bn ?_;refine Dp rfl _ _ rfl B 0 rfl cs _ ap.out CC rfl a0.out ?_;go_wp2_with (go_at_call 122;refine aa.mono ?_;rintro e w3 ⟨rfl,k3⟩;have HQ:=AA (HP.out w2 w3 K2.out k3);clear k3)
     go_ret;exact HQ.out
    | true=>
     have a9:=ak;obtain⟨E1,E2,L1,L2,ar,_,bz⟩:=zm ac a9;have HF:=AA (show∀w4 F,Bi w1.heap.size w1 w4->aR w4 (.agg F.toArray) p->w4.cell? ⟨l.b,4,none⟩=some (.bool false)/\w4.frozen? ⟨l.b,4,none⟩=false/\
       (w4.setCell ⟨l.b,4,none⟩ (.bool true)).there l.b 5 F.length/\(AB.info? 39).map (·.size)=some F.toArray.size/\F.toArray.all (·.oneCell')=true/\
       ∃E' Y C,BF (.int .i64 0)= .returned (.int .i64 C)/\TPost w t m E ((w4.setCell ⟨l.b,4,none⟩ (.bool true)).setCells l.b 5 F) E'/\REq (trE E') Y/\FixS true p (trE E) c Y C from λw4 F kb hi=>by
      have a6:TM w4 t m (dh E1 E2 c ch.rb ch.cap L1 L2 l):=by rw[<-ar];exact h1.below kb
      have a1:=a6.mid;have bt:Bi B w w4:=G.trans (kb.mono no);have Z:∃ab:List Value,Value.agg F.toArray= .agg ab.toArray/\bo w4 _ ab:=hi;obtain⟨ab,e0,Z⟩:=Z;have e0:F=ab:=by injection e0 with e0;simpa using e0
      subst e0;refine⟨by have:=a1.st;rwa [hx]at this,a1.frz 4,by rw[show F.length=21 from aE Z];exact a1.thr _,by rw[au,Cb,show F.length=21 from aE Z],Fu (eT Z),_,_,0,rfl,TPost.pre (by rw[hB];exact bt) h (by rw[ar];exact fixed_mem a6 hi),.refl _,?_⟩;have e2:trE E=(trE E1++L1.map λl=>(c,l.x))++(c,l.x)::((L2.map λl=>(c,l.x))++trE E2):=by rw[ar,iO]
      rw[iO];exact .ok e2 aq hx ht rfl)
     have HC:=AA ad;clear h h1 hl0 G I J ad H hv hp hE hk aq ac ak hL hx am ht a2 au an ao a9 ar bz;generalize l.b=lb at *;generalize l.g=lg at *;go_enter Tryz.func70,Tryz.ntmps70
     go_upto_region 8 with(first
      | (go_at_call 124;refine U.mono ?_;rintro e w' ⟨rfl,V⟩;obtain rfl:=V.symm)
      | (go_at_call 128;refine av.mono ?_;rintro e w2 ⟨rfl,k2⟩;have ap:=AA (ay.out w2 k2);have aa:=HV.out w2 (ax.out.trans (k2.mono no));have K2:=AA k2;clear k2))
     refine Bn ?_;refine Dp rfl _ _ rfl B 0 rfl cs _ ap.out CC rfl a0.out ?_;go_upto_region 10 with(go_at_call 122;refine aa.mono ?_;rintro e w3 ⟨rfl,k3⟩;have K3:=AA (K2.out.trans (k3.mono K2.out.size));have bb:=AA (ay.out w3 K3.out);have a7:=HC.out w3 (ax.out.trans (K3.out.mono no));clear k3)
     refine Bn ?_;refine ae rfl (v:=ptB lb) (w':=w3) Af ?_;refine ae rfl (v:=ptB lb) (w':=w3) Af ?_;refine Dp rfl _ _ rfl B 0 rfl cs _ bb.out CC rfl a0.out ?_;refine BA rfl (λK hK=> ?_);go_simp;go_at_call 97
     refine a7.mono ?_;rintro e w4 ⟨v,rfl,b1,k4⟩;obtain⟨F,rfl,Z⟩:=b1;obtain⟨b9,b2,bO,bq,be,bi⟩:=HF.out w4 F (K3.out.trans (k4.mono K3.out.size)) ⟨F,rfl,Z⟩;have HQ:=AA bi;refine hK _ _ ?_;clear hK K Z k4 bi;refine ae rfl (v:=ptB lb) (w':=w4) Ah ?_;refine ae rfl (v:=.pointer (some ⟨lb,4,none⟩)) (w':=w4) Ah ?_;refine BA rfl (λK hK=> ?_);go_simp;refine hK _ _ ?_;clear hK K;refine ae rfl (v:=ptB lb) (w':=w4.setCell ⟨lb,4,none⟩ (.bool true)) Ah ?_;refine ae rfl (v:=.pointer (some ⟨lb,5,none⟩)) (w':=w4.setCell ⟨lb,4,none⟩ (.bool true)) Ah ?_;refine BX rfl _ _ _ rfl lb 5 F.toArray rfl rfl (by simpa using bO) bq be ?_;go_wp2;go_ret;exact HQ.out
   ·have HP:=AA (show∀w2,Bi w1.heap.size w1 w2->∃E' Y C,BF (.int .i64 10)= .returned (.int .i64 C)/\TPost w t m E w2 E'/\REq (trE E') Y/\FixS ok p (trE E) c Y C from λw2 k2=>⟨E,_,10,rfl,.refl h (by rw[hB];exact G.trans (k2.mono no)),.refl _,.state hk (.inr ht)⟩);have b8:(0:Int)<(l.x.tr.length:Int):=by have:=List.length_pos_iff.2 ht;omega
    change AC AB 128 #[ptB l.g] w1 _ at am
    clear h h1 hl0 G I J ad H hv hp hE hk aq ac ak hL hx ht ao a3;generalize l.b=lb at *;generalize l.g=lg at *;generalize (l.x.tr.length:Int)=n at *;go_enter Tryz.func70,Tryz.ntmps70
    go_wp2_with (first
     | (go_at_call 124;refine U.mono ?_;rintro e w' ⟨rfl,V⟩;obtain rfl:=V.symm)
     | (go_at_call 128;refine am.mono ?_;rintro e w2 ⟨rfl,k2⟩;have HQ:=AA (HP.out w2 k2);clear k2))
    go_ret;exact HQ.out
section
variable {w:World} {g:Nat} {sl:Value} {S:List St}
theorem aaY{x:Value}{q:Fq}(h:IsQ w x q):∃cs,x= .agg cs.toArray/\bo w [q.raw] cs:=by
 obtain⟨a,c,b,d,e,C,F⟩:=h;exact⟨_,e,a,c,b,d,[],rfl,C,F,rfl⟩
set_option maxHeartbeats 1000000 in
theorem k_At(h:TrkS 223 w g sl S)(hS:GoodS S){a:Int}{z y:St}{c:Int}(a1:Road S a z y c):AC AB 98 #[ptG g,.int .i64 a] w λe w'=>∃v,e= .returned (.tuple #[v,.int .i64 c])/\aR w' v (atP z y c a)/\Bi w.heap.size w w':=by
 have hn:=hS.len;go_enter Tryz.func98,Tryz.ntmps98
 refine bk 65 [(0,ptG g),(1,.int .i64 a)] λC=> ?_
 refine mDn ?_;refine bD ?_;refine vA C 21 λ{_ W0 B vs} V hz C=> ?_
 refine sZ C ?_;intro _ C;have h:=h.mono V.bel;obtain⟨ad,c1,a2,f0⟩:=h.form;have hb:=AF W0.heap.size W0;refine sA C ?_;intro _ C;refine wC C (ah Tryz.func164 rfl rfl) (k_around h no a1) λ{e w1} hr=> ?_
 obtain⟨i,j,rfl,am,ab⟩:=hr;refine⟨_,rfl,λ_ C=> ?_⟩;clear hb;refine sZ C ?_;intro _ C;by_cases hc:c=0
 ·subst hc;obtain⟨hi,hj,am⟩:=am rfl;obtain⟨b,o,c2,e,ar⟩:=h.parts (jv hi);subst a2;injection e with e1 e2 e3;subst e1;subst e3;clear e2;obtain⟨f1,cz,J,f2,f3⟩:=ar _ z hi;have a5:=(AX.1 hi).1;have a6:=(AX.1 hj).1;refine sX C ?_;intro _ C;refine cB C ?_;refine sA C ?_;intro _ C;refine vA C 22 λV9 a3 C=> ?_
  refine vFS V9 a3 J C λ{_ W9} V9 _ C=> ?_
  refine wln ?_;refine mUp ?_;have b9:=ab.trans (V9.bel.mono ab.size);obtain⟨g1,g2,g3⟩:=V9.st J;have r9:=AF W9.heap.size W9;have gz:=hS.at hi;have gy:=hS.at hj;rcases am with⟨rfl,ey,rfl⟩ | ⟨a0,a7,a4⟩
  ·rw[show atP z z 0 a=z.pose by simp[atP]];refine sX C ?_;intro _ C;refine mCt C ?_;refine sA C ?_;intro _ C;refine wC C (ah Tryz.func165 rfl rfl) (q_clS _ z W9 ⟨cz,rfl,J.mono b9⟩ (gz.ok.mono it)) λ{e w3} hr=> ?_
   obtain⟨_,rfl,⟨ao,rfl,I⟩,ax⟩:=hr;refine⟨_,rfl,λ_ C=> ?_⟩;refine wY C (.agg ao.toArray) (kx_fd C rfl rfl (by rw[aE I];rfl)) λC=> ?_
   have V4:=V.next (b9.trans (ax.mono b9.size));refine vFR V4 I hz C λV5 U C=> ?_
   refine sZ C ?_;intro _ C;refine Ct ?_
   repeat first | refine jV ?_ | refine jW ?_
   refine A7 (V5.ret (by rw[Cb,aE I];rfl) rfl _ (C.gt 4)) C.df ?_;rw[C.gt 5];exact⟨_,rfl,⟨ao,rfl,I.upd V4.own U⟩,V5.bel⟩
  ·have z0:=gz.lo;have z1:=gz.hi;have y0:=gy.lo;have y1:=gy.hi;obtain⟨f4,cy,ak,f5,f6⟩:=ar _ y hj;refine sX C ?_;intro _ C;refine cB C ?_;refine sA C ?_;intro _ C;refine vA C 22 λF au C=> ?_
   refine vFS F au ak C λ{_ Y} F _ C=> ?_
   refine wln ?_;refine mUp ?_;have an:=b9.trans (F.bel.mono b9.size);have g1:=g1.mono F.bel;have g2:=g2.mono F.bel;obtain⟨k1,k2,k3⟩:=F.st ak;have a9:=AF Y.heap.size Y;refine sA C ?_;intro _ C;refine vN C ((a - z.tm)) λC=> ?_
   refine sD C ?_;intro _ C;refine vN C ((y.tm - z.tm)) λC=> ?_
   refine wC C (ah Tryz.func166 rfl rfl) (vG (a - z.tm) (y.tm - z.tm) Y no no no no no) λ{e be} hr=> ?_
   obtain⟨v,rfl,hq,K⟩:=hr;obtain⟨cm,rfl,aq⟩:=aaY hq;refine⟨_,rfl,λ_ C=> ?_⟩;refine sD C ?_;intro _ C;refine vA C 3 λG av C=> ?_
   refine vFR G aq av C λ{_ Z} G _ C=> ?_
   refine sZ C ?_;intro _ C;have aa:=K.trans (G.bel.mono K.size);have H:=an.trans (aa.mono an.size);have g2:=g2.mono aa;have k2:=k2.mono aa;have f:=G.fr aq;have bb:=AF Z.heap.size Z;refine sA C ?_;intro _ C;refine wC C (ah Tryz.func167 rfl rfl) (ws _ _ _ z.pose y.pose (Fq.ratio (a - z.tm) (y.tm - z.tm)) Z ⟨cz,rfl,J.mono H⟩ ⟨cy,rfl,ak.mono H⟩ (hq.mono G.bel) (gz.ok.mono it) (gy.ok.mono it) ((iK no no no no no).mono it) gz.good gy.good (du no) (hS.adj i z y hi (by rw[<-a0];exact hj))) λ{e bi} hr=> ?_
   obtain⟨_,rfl,⟨cr,rfl,ac⟩,ap⟩:=hr;refine⟨_,rfl,λ_ C=> ?_⟩;refine sD C ?_;intro _ C;have V4:=V.next (H.trans (ap.mono H.size));refine vFR V4 ac hz C λV5 U C=> ?_
   refine sZ C ?_;intro _ C;refine Ct ?_
   repeat first | refine jV ?_ | refine jW ?_
   refine A7 (V5.ret (by rw[Cb,aE ac];rfl) rfl _ (C.gt 4)) C.df ?_;rw[C.gt 5,show atP z y 0 a=_ from(if_neg Ad).trans (if_neg no)];exact⟨_,rfl,⟨cr,rfl,ac.upd V4.own U⟩,V5.bel⟩
 ·rw[show atP z y c a=Pq.zero from if_pos hc];refine sX C ?_;intro _ C;refine mCt C ?_;refine mDn ?_;refine bD ?_;refine wY C (.agg ai.toArray) (by unfold ai;go_simp;try rfl) λC=> ?_
  refine sD C ?_;intro _ C;obtain⟨cs,e,ay⟩:=dB w1;injection e with e;refine vFR (V.next ab) (cs:=ai) (rs:=Pq.zero.cs.map Fq.raw) (by rw[show ai=cs from by simpa using congrArg Array.toList e];exact ay) hz C λV2 _ C=> ?_
  refine sZ C ?_;intro _ C;refine Ct ?_
  repeat first | refine jV ?_ | refine jW ?_
  refine A7 (V2.ret rfl rfl _ (C.gt 4)) C.df ?_;rw[C.gt 5];exact⟨_,rfl,dB _,V2.bel⟩
end
section
open Classical
theorem q_poVal0{va:Value}{a:Pq}(ia:aR w va a)(ha:a.ok 1000000)(C:a.rot.comp)(hf:a.rot.first≠Fq.ofInt 1):AC AB 122 #[va] w λe w'=>bI w (.bool false) e w':=by
 exact(cR0 a.cs [row [0,1,2,3,4,5,6]] [va] (.v (.one (.b false))) (il1 (yO [0,1,2,3] a.rot Ab (ha.rot.mono it) C hf)) Tryz.func122 ⟨rO2 ia,trivial⟩).mono mMr
theorem q_rpVal0{va:Value}{a:Pq}(ia:aR w va a)(ha:a.ok 1000000)(C:a.rot.comp)(hf:a.rot.first≠Fq.ofInt 1):AC AB 158 #[va] w λe w'=>bI w (.bool false) e w':=by
 exact(cR0 a.cs [row [0,1,2,3,4,5,6]] [va] (.v (.one (.b false))) (il1 (yU [0,1,2,3] a.rot Ab (ha.rot.mono it) C hf)) Tryz.func158 ⟨rO2 ia,trivial⟩).mono mMr
theorem q_Val(i:aR w v p)(h:p.ok 2)(hc:p.rot.comp/\p.pos.good):AC AB 122 #[v] w λe w'=>e= .returned (.bool (decide p.good))/\mBw w w':=by
 by_cases g:p.good
 ·rw[decide_eq_true g];exact q_poValid v p w i (h.mono it) g
 ·rw[decide_eq_false g];exact q_poVal0 i (h.mono it) hc.1 (λe=>g ⟨aaG hc.1 e,hc.2⟩)
theorem q_rVal(i:aR w v p)(h:p.ok 2)(hc:p.rot.comp/\p.pos.good):AC AB 158 #[v] w λe w'=>e= .returned (.bool (decide p.good))/\mBw w w':=by
 by_cases g:p.good
 ·rw[decide_eq_true g];exact q_rpValid v p w i (h.mono it) g
 ·rw[decide_eq_false g];exact q_rpVal0 i (h.mono it) hc.1 (λe=>g ⟨aaG hc.1 e,hc.2⟩)
end
section
variable {w:World} {g:Nat} {sl:Value} {S:List St}
theorem Vp.mono{q:Vp}(h:q.p w v)(hb:Bi w.heap.size w w'):q.p w' v:=(q.ch w w' _ v h (Chg.below hb) (λ_ _ h=>h)).1
variable{T:TypeId}
theorem TrkM.keep(h:TrkS T w g sl S)(hb:Bi w.heap.size w w'):TrkM T w g sl S w':=⟨⟨sl,h.mono hb,λ_ h=>.inl h⟩,Ent.kept.refl.below hb⟩
theorem TrkM.set{C:World}{x v':Value}{S':List St}(U:g<w.heap.size)(k:(Ent.mk w (λx=>x=g) []).kept C)(hc:C.heap[g]? =some (.cells #[x] T (0,0)))(K:noU x)(hr:(Vp.row stT S'.length (bB S')).p C v')(hf:∀b,v'.ownBlock=some b->w.heap.size<=b/\bw C b):TrkM T w g sl S' (C.setCell ⟨g,0,none⟩ v')/\TrkS T (C.setCell ⟨g,0,none⟩ v') g v' S':=by
 have F:∀b,v'.ownBlock=some b->b≠g:=λb hb e=>by have:=(hf b hb).1;omega
 have u:=Upd.cell C g 0 v';have J:bw C g:=.mk' hc (λk n G=>by
  cases k with
  | zero=>simp at G;exact K n G
  | succ k=>simp at G)
 have H:=((Vp.row stT S'.length (bB S')).ch C _ _ v' hr (Chg.upd J u) (λb hb e=>F b (by obtain⟨o,n,c,rfl⟩:=hb;rfl) e)).1;have I:TrkS T (C.setCell ⟨g,0,none⟩ v') g v' S':=⟨by rw[Go.heap_setCell_same C g 0 _ _ v' hc];rfl,H,F⟩;exact⟨⟨⟨v',I,λb hb=>.inr ⟨(hf b hb).1,(hf b hb).2.blk (u.block b (F b hb)) (by rw[u.size];exact AE _)⟩⟩,k.upd u (.inr rfl)⟩,I⟩
section
variable {v vx:Value} {n d i B:Nat} {o:Oper} {l:List (Nat×Value)} {a:Act} {ops:Array Oper} {Q:A4->Act->World->Prop} {md:Region.Mode} {fuel:Nat} {listed:Array Bool} {P:AW} {H:World->Prop} {w':World} {cs:List Value} {s:St} {x y:AP} {t e:TypeId}
theorem yV(i:Nat)(K:Kn n l a)(v:Value)(w':World)(hy:∀ {o},ops[i]? =some o->(execOp a.eval o).run P w= .ok (.value v) w')(F:H w')(h:∀ {a'},Kn n ((d,v)::l) a'->wpAnyH P md ops Q H fuel (listed.setIfInBounds i true) a' w')(hr:BY md ops listed=[i]:=by kernel_rfl)(hi:ops[i]? =some o:=by rfl)(G:o.dst=some d:=by rfl)(hn:d<n:=by decide)(I:o.guard=none:=by rfl):wpAnyH P md ops Q H (fuel+1) listed a w:=
 wpAnyH_all hr Ad λj J=>by
  obtain rfl:j=i:=by simpa using J
  exact jS K hi G hn I (hy hi) (λa' C=>⟨F,h C⟩)
theorem yW(i:Nat)(K:Kn n l a)(w':World)(hy:∀ {o},ops[i]? =some o->(execOp a.eval o).run P w= .ok .skip w')(F:H w')(h:∀ {a'},Kn n l a'->wpAnyH P md ops Q H fuel (listed.setIfInBounds i true) a' w')(hr:BY md ops listed=[i]:=by kernel_rfl)(hi:ops[i]? =some o:=by rfl)(G:o.dst=none:=by rfl)(I:o.guard=none:=by rfl):wpAnyH P md ops Q H (fuel+1) listed a w:=
 wpAnyH_all hr Ad λj J=>by
  obtain rfl:j=i:=by simpa using J
  exact wpOp_s K hi G I (hy hi) (λa' C=>⟨F,h C⟩)
theorem ld_st(h:w.heap[B]? =some (.cells (AK .i64 s.tm::cs).toArray 120 (0,0)))(hl:cs.length=21):(CV 120 (.pointer (some ⟨B,0,none⟩))).run AB w= .ok (.agg (AK .i64 s.tm::cs).toArray) w:=
 LdB.row (w0:=w) Eh rfl (by rw[Bg,hl];rfl) (AZ.1 h).1 (λj v C=>by rw[aH h,A5];simpa using C) w (AF _ _)
theorem aaZ(hl:cs.length=21):(DU 183 1 #[(0,.agg (AK .i64 s.tm::cs).toArray)]).run AB w= .ok (.slice (some ⟨w.heap.size,0,none⟩) 1 1) (w.alloc (.cells (AK .i64 s.tm::cs).toArray 120)):=by
 generalize s.tm=a
 match cs,hl with
 | [c0,c1,c2,c3,c4,c5,c6,c7,c8,c9,c10,c11,c12,c13,c14,c15,c16,c17,c18,c19,c20],_=>go_simp
theorem aa0{W:World}{B:Nat}(h:W.heap[B]? =some (.cells (AK .i64 s.tm::cs).toArray stT (0,0)))(hc:bo W (s.pose.cs.map Fq.raw) cs):(Vp.row stT 1 s.qs).p W (.slice (some ⟨B,0,none⟩) 1 1):=
 .inr ⟨B,0,1,_,rfl,AE _,h,λj q C=>by
  obtain⟨u,h1,h2⟩:=st_qs (x:=s.raw) (cs:=cs) hc C;have h1:(AK .i64 s.tm::cs)[j]? =some u:=h1;exact⟨u,by rw[A5];simpa using h1,h2⟩⟩
theorem pa{x:Value}{ad:Option AU}{c:Nat}(h:w.heap[g]? =some (.cells #[x] T (0,0))):(EC 183 (.pointer (some ⟨g,0,none⟩)) (.slice ad m c)).run AB w= .ok () (w.setCell ⟨g,0,none⟩ (.slice ad m c)):=by
 have h2:w.cell? ⟨g,0,none⟩=some x:=by rw[aH h];rfl
 have h3:w.frozen? ⟨g,0,none⟩=false:=by simp[Dl,h]
 clear h;go_simp
theorem kx_sf{vx:Value}{r:Value}(C:Kn n l a)(F:o.op= .slice t x (some y) none none)(G:evK l x=some vx)(hy:evK l y=some v)(hr:(Instr.sliceAt t vx (some v) none none).run P w= .ok r w):(execOp a.eval o).run P w= .ok (.value r) w:=by
 unfold execOp;simp only[F];rw[C.evx G];simp only[BG,Option.map_none];rw[C.evx hy];simp only[AH,hr];rfl
end
end
section
open Classical
variable {w:World} {g:Nat} {sl:Value} {S:List St}
theorem q_oppP{va vb:Value}{a b:Pq}(ia:aR w va a)(G:aR w vb b)(ha:a.ok 2)(hb:b.ok 2)(C:a.good)(F:b.good):AC AB 186 #[va,vb] w λe w'=>e= .returned (.bool (decide (opp a b)))/\mBw w w':=by
 by_cases h:opp a b
 ·rw[decide_eq_true h];exact q_op1 va vb a b w ia G (ha.mono it) (hb.mono it) C F h
 ·rw[decide_eq_false h];exact q_op0 va vb a b w ia G (ha.mono it) (hb.mono it) C F h
theorem q_eqlP{va vb:Value}{a b:Pq}(ia:aR w va a)(G:aR w vb b)(ha:a.ok 2)(hb:b.ok 2)(C:a.good)(F:b.good):AC AB 55 #[va,vb] w λe w'=>e= .returned (.bool (decide (a=b)))/\mBw w w':=by
 by_cases h:a=b
 ·rw[decide_eq_true h];exact zc va vb a b w ia G (ha.mono it) (hb.mono it) h C F
 ·rw[decide_eq_false h];exact ze va vb a b w ia G (ha.mono it) (hb.mono it) h C F
noncomputable def fP(S:List St)(s:St):List St×Int:=by
 exact if s.tm<0\/1099511627776<s.tm\/¬s.pose.good then(S,4)else oP S s
theorem sF{s:St}(h:s.pose.good):fP S s=oP S s:=by
 unfold fP oP;by_cases h1:s.tm<0\/1099511627776<s.tm
 ·rw[if_pos (by rcases h1 with h1 | h1;exact .inl h1;exact .inr (.inl h1)),if_pos h1]
 ·rw[if_neg (by rintro(k | k | k);exact h1 (.inl k);exact h1 (.inr k);exact k h)]
theorem addQ_ok{s:St}(h:GoodS S)(h2:s.pose.ok 2):GoodS (fP S s).1:=by
 by_cases g:s.pose.good
 ·rw[sF g];exact addS_good h h2 g
 ·rw[show fP S s=(S,4)from if_pos (.inr (.inr g))];exact h
set_option maxHeartbeats 2000000 in
theorem k_Add{s:St}(h:TrkS 223 w g sl S)(i:zj w v s)(hs:s.pose.ok 2)(b8:s.pose.rot.comp/\s.pose.pos.good)(hS:GoodS S):AC AB 127 #[ptG g,v] w λe w'=>e= .returned (.int .i64 (fP S s).2)/\TrkM 223 w g sl (fP S s).1 w':=by
 have hn:=hS.len;obtain⟨cs,rfl,Y⟩:=i;go_enter Tryz.func127,Tryz.ntmps127
 refine bk 125 [(0,ptG g),(1,.agg (AK .i64 s.tm::cs).toArray)] λC=> ?_
 refine mDn ?_;refine bD ?_;refine vX (qy Y) C λ{_ W B} V C=> ?_
 refine sZ C ?_;intro _ C;obtain⟨f1,f2,f3⟩:=V.st Y;have hb:=AF W.heap.size W;have hm:=h.mono V.bel;obtain⟨ad,c1,ab,f0⟩:=hm.form;have b0:=q_Val (w:=W) ⟨cs,rfl,Y.mono V.bel⟩ hs b8;have av:∀w',mBw W w'->(S,(4:Int))=fP S s->TrkM 223 w g sl (fP S s).1 w':=λw' hb e=>by
  rw[<-e];exact .keep h (V.bel.trans (hb.mono V.bel.size))
 refine sX C ?_;intro _ C;refine mCf C ?_;by_cases h1:s.tm<0
 ·have e:(S,(4:Int))=fP S s:=(if_pos (.inl h1)).symm;refine sX C ?_;intro _ C;refine mCt C ?_;refine sX C ?_;intro _ C;refine mT1 C ?_;exact⟨by rw[<-e],av _ hb e⟩
 ·by_cases h2:1099511627776<s.tm
  ·have e:(S,(4:Int))=fP S s:=(if_pos (.inr (.inl h2))).symm;refine sX C ?_;intro _ C;refine mCt C ?_;refine sX C ?_;intro _ C;refine mT1 C ?_;exact⟨by rw[<-e],av _ hb e⟩
  ·refine sA C ?_;intro _ C;refine wC C (ah Tryz.func122 rfl rfl) (b0) λ{e w1} hr=> ?_
   obtain⟨rfl,ac⟩:=hr;refine⟨_,rfl,λ_ C=> ?_⟩;by_cases h3:s.pose.good
   ·have e:fP S s=oP S s:=if_neg (by simp[h1,h2,h3]);rw[decide_eq_true h3]at C;refine sZ C ?_;intro _ C;refine cB C ?_;rw[e];unfold oP;rw[if_neg no];have hx:∀w',mBw W w'->TrkM 223 w g sl S w':=λw' hb=>.keep h (V.bel.trans (hb.mono V.bel.size))
    have a3:∀w',mBw W w'->aR w' (.agg cs.toArray) s.pose:=λw' hb=>⟨cs,rfl,(Y.mono V.bel).mono hb⟩
    clear av b0 e;refine sA C ?_;intro _ C;refine wC C (ah Tryz.func185 rfl rfl) (k_place (hm.mono ac) s.tm no) λ{e w2} hr=> ?_
    obtain⟨rfl,be⟩:=hr;refine⟨_,rfl,λ_ C=> ?_⟩;refine sZ C ?_;intro _ C;have K:=ac.trans (be.mono ac.size);have hp:=ii S s.tm;clear hb ac be;have C:=C.ct (l':=[(0,ptG g),(3,.pointer (some ⟨B,0,none⟩)),(5,.int .i64 ((plN S s.tm:Nat):Int))]);have hy:∀y,S[plN S s.tm]? =some y->∃b o c,sl= .slice (some ⟨b,o,none⟩) S.length c/\StL W b (o+plN S s.tm*22) y:=λy hy=>by
     obtain⟨b,o,c2,e,bb⟩:=hm.parts (jv hy);exact⟨b,o,c2,e,bb _ y hy⟩
    refine gA (λa' w'=>Kn 125 [(0,ptG g),(3,.pointer (some ⟨B,0,none⟩)),(5,.int .i64 ((plN S s.tm:Nat):Int))] a'/\mBw W w'/\¬∃y,S[plN S s.tm]? =some y/\y.tm=s.tm) ?_ (λa' w' hI=> ?_)
    ·by_cases hlt:plN S s.tm<S.length
     ·obtain⟨y,F⟩:∃y,S[plN S s.tm]? =some y:=⟨_,AJ hlt⟩;obtain⟨b,o,c2,e,f4,cy,Z,f5,f6⟩:=hy y F;subst ab;injection e with e1 e2 e3;subst e1;subst e3;clear e2;have gy:=hS.at F;by_cases ey:y.tm=s.tm
      ·refine uX C ?_;intro _ C w' J;refine mCt C ?_;by_cases ep:y.pose=s.pose
       ·rw[if_pos ⟨y,F,ey,ep⟩];refine uA C ?_;intro _ C;refine uC C (.bool true) (ah Tryz.func55 rfl rfl) (λw hb=>by have:=q_eqlP (w:=w) ⟨cy,rfl,Z.mono hb⟩ (a3 w hb) gy.ok hs gy.good h3;rwa [decide_eq_true ep]at this) λC=> ?_
        refine wqn (λw' J=> ?_);refine mUp ?_;refine mCt C ?_;refine sX C ?_;intro _ C;refine mT1 C ?_;exact⟨rfl,hx _ Ak⟩
       ·rw[if_neg (by rintro⟨y',h,_,h2⟩;rw[F]at h;injection h with h;subst h;exact ep h2),if_pos ⟨y,F,ey⟩];refine uA C ?_;intro _ C;refine uC C (.bool false) (ah Tryz.func55 rfl rfl) (λw hb=>by have:=q_eqlP (w:=w) ⟨cy,rfl,Z.mono hb⟩ (a3 w hb) gy.ok hs gy.good h3;rwa [decide_eq_false ep]at this) λC=> ?_
        refine wqn (λw' J=> ?_);refine mUp ?_;refine cB C ?_;refine sX C ?_;intro _ C;refine mT1 C ?_;exact⟨rfl,hx _ Ak⟩
      ·refine uX C ?_;intro _ C w' J;refine cB C ?_;exact⟨C.ct,Ak,by rintro⟨y',h,h2⟩;rw[F]at h;injection h with h;subst h;exact ey h2⟩
     ·subst ab;refine uX C ?_;intro _ C w' J;refine cB C ?_;exact⟨C.ct,Ak,by rintro⟨y',h,h2⟩;exact hlt (AX.1 h).1⟩
    ·obtain⟨C,hb,a4⟩:=hI;rw[if_neg (by rintro⟨y,h,h2,_⟩;exact a4 ⟨y,h,h2⟩),if_neg a4];obtain⟨ob,U⟩:∃ob:Bool,ob=decide ((∃z,0<plN S s.tm/\S[plN S s.tm - 1]? =some z/\opp z.pose s.pose)\/∃y,S[plN S s.tm]? =some y/\opp s.pose y.pose):=⟨_,rfl⟩;have aa:∀ {x y:Pq} {vx vy:Value},aR W vx x->aR W vy y->x.ok 2->y.ok 2->x.good->y.good->∀b,decide (opp x y)=b->∀w',mBw W w'->AC AB 186 #[vx,vy] w' λe w1=>e= .returned (.bool b)/\mBw w' w1:=λix iy hx hy gx gy b e w' hb=>e▸q_oppP (ix.mono hb) (iy.mono hb) hx hy gx gy
     have an:aR W (.agg cs.toArray) s.pose:=⟨cs,rfl,Y.mono V.bel⟩;refine gA (λa' w'=>Kn 125 [(0,ptG g),(3,.pointer (some ⟨B,0,none⟩)),(5,.int .i64 ((plN S s.tm:Nat):Int))] a'/\mBw W w'/\ob=false) ?_ (λa' w' hI=> ?_)
     ·refine gA (λa' w'=>Kn 125 [(0,ptG g),(3,.pointer (some ⟨B,0,none⟩)),(5,.int .i64 ((plN S s.tm:Nat):Int)),(96,.bool ob)] a'/\mBw W w') ?_ (λa' w' hI=> ?_)
      ·have b1:(S.length<=plN S s.tm/\∀y,S[plN S s.tm]? ≠some y)\/∃y b o c,plN S s.tm<S.length/\S[plN S s.tm]? =some y/\sl= .slice (some ⟨b,o,none⟩) S.length c/\StL W b (o+plN S s.tm*22) y:=by
        by_cases hlt:plN S s.tm<S.length
        ·obtain⟨b,o,c,e⟩:=hy _ (AJ hlt);exact .inr ⟨_,b,o,c,hlt,AJ hlt,e⟩
        ·exact .inl ⟨no,λy h=>hlt (AX.1 h).1⟩
       by_cases h0:0<plN S s.tm
       ·obtain⟨z,hz⟩:∃z,S[plN S s.tm - 1]? =some z:=⟨_,AJ no⟩;obtain⟨b,o,c2,e,bb⟩:=hm.parts (jv hz);obtain⟨f4,cz,a1,f5,f6⟩:=bb _ z hz;have gz:=hS.at hz;subst ab;injection e with e1 e2 e3;subst e1;subst e3;clear e2;by_cases oz:opp z.pose s.pose
        ·obtain rfl:ob=true:=U.trans (decide_eq_true (.inl ⟨z,h0,hz,oz⟩));refine uA C ?_;intro _ C;refine uN C ((plN S s.tm - 1:Nat)) λC=> ?_
         refine uD C ?_;intro _ C;refine uC C (.bool true) (ah EQ rfl rfl) (λw hb=>aa ⟨cz,rfl,a1⟩ an gz.ok hs gz.good h3 _ (decide_eq_true oz) w hb) λC=> ?_
         refine uZ C ?_;intro _ C w' J;exact⟨C.ct,Ak⟩
        ·rcases b1 with⟨h4,h5⟩ | ⟨y,b',o',c',h4,F,e,f7,cy,Z,f8,f9⟩
         ·obtain rfl:ob=false:=U.trans (decide_eq_false (by rintro(⟨z',_,h,h6⟩ | ⟨y,h,_⟩);(rw[hz]at h;injection h with h;subst h;exact oz h6);exact h5 y h));refine uA C ?_;intro _ C;refine uN C ((plN S s.tm - 1:Nat)) λC=> ?_
          refine uD C ?_;intro _ C;refine uC C (.bool false) (ah EQ rfl rfl) (λw hb=>aa ⟨cz,rfl,a1⟩ an gz.ok hs gz.good h3 _ (decide_eq_false oz) w hb) λC=> ?_
          refine uZ C ?_;intro _ C w' J;exact⟨C.ct,Ak⟩
         ·have gy:=hS.at F;injection e with e1 e2 e3;injection e1 with e1;injection e1 with e1 e4;subst e1;subst e4;subst e3;clear e2;obtain rfl:ob=decide (opp s.pose y.pose):=U.trans (decide_eq_decide.2 ⟨by rintro(⟨z',_,h,h6⟩ | ⟨y',h,h6⟩);(rw[hz]at h;injection h with h;subst h;exact absurd h6 oz);(rw[F]at h;injection h with h;subst h;exact h6),λh=>.inr ⟨y,F,h⟩⟩);refine uA C ?_;intro _ C;refine uN C ((plN S s.tm - 1:Nat)) λC=> ?_
          refine uD C ?_;intro _ C;refine uC C (.bool false) (ah EQ rfl rfl) (λw hb=>aa ⟨cz,rfl,a1⟩ an gz.ok hs gz.good h3 _ (decide_eq_false oz) w hb) λC=> ?_
          refine uD C ?_;intro _ C;refine uC C (_) (ah EQ rfl rfl) (λw hb=>aa an ⟨cy,rfl,Z⟩ hs gy.ok h3 gy.good _ rfl w hb) λC=> ?_
          refine uZ C ?_;intro _ C w' J;exact⟨C.ct,Ak⟩
       ·rcases b1 with⟨h4,h5⟩ | ⟨y,b',o',c',h4,F,e,f7,cy,Z,f8,f9⟩
        ·obtain rfl:ob=false:=U.trans (decide_eq_false (by rintro(⟨z',h,_⟩ | ⟨y,h,_⟩);exact h0 h;exact h5 y h));subst ab;refine uX C ?_;intro _ C w' J;exact⟨C.ct,Ak⟩
        ·have gy:=hS.at F;subst ab;injection e with e1 e2 e3;subst e1;subst e3;clear e2;obtain rfl:ob=decide (opp s.pose y.pose):=U.trans (decide_eq_decide.2 ⟨by rintro(⟨z',h,_⟩ | ⟨y',h,h6⟩);exact absurd h h0;(rw[F]at h;injection h with h;subst h;exact h6),λh=>.inr ⟨y,F,h⟩⟩);refine uA C ?_;intro _ C;refine uC C (_) (ah EQ rfl rfl) (λw hb=>aa an ⟨cy,rfl,Z⟩ hs gy.ok h3 gy.good _ rfl w hb) λC=> ?_
         refine uZ C ?_;intro _ C w' J;exact⟨C.ct,Ak⟩
      ·obtain⟨C,hb⟩:=hI
       cases ob with
       | true=>
        rw[if_pos (of_decide_eq_true U.symm)];refine mCt C ?_;refine sX C ?_;intro _ C;refine mT1 C ?_;exact⟨rfl,hx _ hb⟩
       | false=>
        refine cB C ?_;exact⟨C.ct,hb,rfl⟩
     ·obtain⟨C,hb,rfl⟩:=hI;rw[if_neg (of_decide_eq_false U.symm)];clear aa U a4 a3;subst ab;have I:∀w',mBw W w'->w'.heap[B]? =some (.cells (AK .i64 s.tm::cs).toArray 120 (0,0)):=λw' k=>(k.block B (AZ.1 V.blk).1).trans V.blk
      have bz:cs.length=21:=by rw[aE Y];rfl
      have ar:=(AZ.1 h.blk).1;refine BP ?_;refine wp_region_held_drew (S:=λw'=>w'.heap[B]? =some (.cells (AK .i64 s.tm::cs).toArray 120 (0,0))) Aa (I _ hb.drew) (λhH=> ?_);have K:=hb.drew;refine yK 0 C hH λC=> ?_
      refine yK 1 C hH λC=> ?_
      refine yK 2 C hH λC=> ?_
      refine yK 3 C hH λC=> ?_
      refine yK 6 C hH λC=> ?_
      refine yK 7 C hH (λC=> ?_) (hy:=λa w C hw=>sC C rfl rfl (ld_st hw bz));refine yV 4 C _ _ (λe=>by cases e;exact aaW C rfl rfl f0 K) hH λC=> ?_
      refine jU C (i:=5) Aa rfl rfl rfl it (gV C rfl rfl rfl (ah Tryz.func188 rfl rfl)) (wG _ S _ (hm.mono K).row no) (λe w4 hr=> ?_);obtain⟨v4,rfl,a5,a2,bi⟩:=hr;have ak:=K.trans (bi.mono K.size);refine⟨v4,rfl,I _ ak,λ_ C=> ?_⟩;refine jU C (i:=8) Aa rfl rfl rfl it (gV C rfl rfl rfl (ah Tryz.func165 rfl rfl)) (q_clS _ s w4 ⟨cs,rfl,(Y.mono V.bel).mono ak⟩ (hs.mono it)) (λe w5 hr=> ?_);obtain⟨_,rfl,⟨c5,rfl,aq⟩,ao⟩:=hr;have ap:=ak.trans (ao.mono ak.size);refine⟨_,rfl,I _ ap,λ_ C=> ?_⟩;have V6:=VB.new w5 stT (AK .i64 s.tm::c5).toArray (by simpa using qy aq);have am:=ap.trans (V6.bel.mono ap.size);refine yV 9 C _ _ (λe=>by cases e;exact ij C rfl rfl (aaZ (by rw[aE aq];rfl))) (I _ am) λC=> ?_
      have bO:=Vp.mono (Vp.mono a5 ao) V6.bel;have ax:∀b,v4.ownBlock=some b->b<w4.heap.size:=λb hb=>(Vp.ownr stT 22 S.length (bB S)).lt w4 v4 b a5 hb
      refine jU C (i:=10) Aa rfl rfl rfl it (gV C rfl rfl rfl (ah Tryz.func187 rfl rfl)) (q_InsertS v4 _ S s (plN S s.tm) _ bO (aa0 V6.blk (aq.mono V6.bel)) (λb hb a n c e=>by injection e with e;injection e with e;subst e;have:=ax b hb;have:=ao.size;show w5.heap.size≠b;omega) hp no) (λe w7 hr=> ?_);obtain⟨v7,rfl,au,bt,_,bq⟩:=hr;have G:mBw W w7:=am.grown bt am.size (λb h=>AD K.size (a2 b h));refine⟨_,rfl,I _ G,λ_ C=> ?_⟩;refine yV 11 C _ _ (λe=>by cases e;exact lA C rfl rfl) (I _ G) λC=> ?_
      refine yV 12 C _ _ (λe=>by cases e;exact aaX C rfl rfl rfl) (I _ G) λC=> ?_
      obtain⟨a7,c7,rfl⟩:=ja (gr au);have a0:=(G.block g (Bt ar V.bel.size)).trans hm.blk;obtain⟨hM,hT⟩:=TrkM.set (sl:=.slice ad S.length c1) (S':=fC S (plN S s.tm) s) ar (Ent.kept.refl.below (V.bel.trans (G.mono V.bel.size))) a0 (λn e=>by cases e) (by rw[iL hp];exact gr au) (λb hb=>by
       refine⟨?_,tN au b hb⟩;have h1:=V.bel.size;have h2:=K.size;have h3:=am.size;rcases bq b hb with h | h
       ·have:=a2 b h;omega
       ·omega)
      refine yW 13 C _ (λe=>by cases e;exact sE C rfl rfl rfl (pa a0)) ((Below.heap_setCell _ _ _ _ (by have:=V.ge;show B≠g;omega)).trans (I _ G)) λC=>wpAnyH_done Aa ?_ _
      clear bq au bt G a0 bO ax am V6 ap ao aq a2 a5 ak bi K hH I f0 f1 f2 f3;generalize w7.setCell ⟨g,0,none⟩ _=W8 at hM hT⊢;obtain⟨_,_,_,f8⟩:=hT.form;have hb:=AF W8.heap.size W8;have C:=C.ct (l':=[(0,ptG g)]);refine mUp ?_;by_cases h64:S.length<64
      ·rw[if_pos h64];refine sX C ?_;intro _ C;refine cB C ?_;refine sX C ?_;intro _ C;refine mT1 C ?_;exact⟨rfl,hM⟩
      ·rw[if_neg h64];obtain⟨y,hy,ay,_⟩:=qe (p:=AB) (t:=183) (k:=1) Tryz.underlying183 Aa hT.row (by rw[iL hp];omega);rw[<-CB]at ay;refine sX C ?_;intro _ C;refine mCt C ?_;refine sA C ?_;intro _ C;refine wY C y (kx_sf C rfl rfl rfl hy) λC=> ?_
       refine wC C (ah Tryz.func188 rfl rfl) (wG y _ W8 ay (by rw[CB,iL hp];omega)) λ{e w9} hr=> ?_
       obtain⟨v9,rfl,a6,b9,G⟩:=hr;refine⟨_,rfl,λ_ C=> ?_⟩;obtain⟨a9,c9,rfl⟩:=ja (gr a6);have bp:=(G.block g (Bt ar hM.kept.size)).trans hT.blk;obtain⟨b2,_⟩:=TrkM.set (sl:=.slice ad S.length c1) ar (hM.kept.below G) bp (λn e=>by cases e) (gr a6) (λb hb=>⟨AD hM.kept.size (b9 b hb),tN a6 b hb⟩);refine sD C ?_;intro _ C;refine wT C (_) (hr:=pa bp) λC=> ?_
       refine wln ?_;refine mUp ?_;refine sX C ?_;intro _ C;refine mT1 C ?_;exact⟨rfl,b2⟩
   ·have e:(S,(4:Int))=fP S s:=(if_pos (.inr (.inr h3))).symm;rw[decide_eq_false h3]at C;refine sZ C ?_;intro _ C;refine mCt C ?_;refine sX C ?_;intro _ C;refine mT1 C ?_;exact⟨by rw[<-e],av _ ac e⟩
end
section
open Classical
noncomputable abbrev kI(a:Int)(p:Pq)(S:List St):List St×Int:=fP S ⟨a,p⟩
theorem zA{a:Int}{cs:List Value}(h:TM w t m E)(U:TOk (trE E))(K:aR w (.agg cs.toArray) p)(h2:p.ok 2)(I:p.rot.comp/\p.pos.good):
  AC AB 69 #[ptB t,.string c,stV a cs] w λe w'=>∃E' J C,e= .returned (.int .i64 C)/\TPost w t m E w' E'/\REq (trE E') J/\SetS (kI a p) (trE E) c a J C:=by
 have Z:=K;obtain⟨G,F,hc⟩:=K;have F:cs=G:=by injection F with F;simpa using F
 subst F;refine q_Set h (aE hc) _ (λw' g sl S V hb ht=> ?_);obtain⟨l,hl,rfl⟩:=V;have Y:GoodS l.x.tr:=by
  unfold lsE at hl
  cases hch:chE E c with
  | none=>rw[hch]at hl;cases hl
  | some ch=>rw[hch]at hl;exact U.good _ (cE.2 ⟨ch,(cD hch).1,l,hl,rfl⟩)
 exact k_Add (s:=⟨a,p⟩) ht ⟨cs,rfl,bo.mono hc hb⟩ h2 I Y
theorem q_FixP{cs:List Value}(h:TM w t m E)(J:TOk (trE E))(I:aR w (.agg cs.toArray) p)(h2:p.ok 2)(F:p.rot.comp/\p.pos.good):
  AC AB 70 #[ptB t,.string c,.agg cs.toArray] w λe w'=>∃E' G C,e= .returned (.int .i64 C)/\TPost w t m E w' E'/\REq (trE E') G/\FixS (decide p.good) p (trE E) c G C:=
 q_Fixed h J I (h2.mono it) (λ_ hb=>q_Val (I.mono hb) h2 F)
section
variable {R R':Tr} {c p:Nm} {a u e:Int} {q:Pq} {isN:Nm->Prop}
theorem DetS.tok(C:TOk R)(h:DetS R c u R' e):TOk R':=by
 cases h with
 | ok e h h1 h2=>subst e;exact C.det h h1 h2
 | _=>exact C
theorem SetS.tok(F:TOk R)(h2:q.ok 2)(h:SetS (kI a q) R c a R' e):TOk R':=by
 cases h with
 | ok e h hs=>
  subst e;rename_i A B x;have G:(c,x)∈A++(c,x)::B:=AG.2 (.inr (Bo ..));exact F.same (c:=c) rfl rfl rfl (addQ_ok (F.good _ G) h2) (λC=>by simp only at C;rw[hs]at C;cases C)
 | _=>exact F
theorem FixS.tok(C:TOk R)(h2:q.ok 2)(h:FixS (decide q.good) q R c R' e):TOk R':=by
 cases h with
 | ok e h hs ht hp=>
  subst e;rename_i A B x;have F:(c,x)∈A++(c,x)::B:=AG.2 (.inr (Bo ..));exact C.same (c:=c) rfl rfl rfl (C.good _ F) (λ_=>⟨of_decide_eq_true hp,h2⟩)
 | _=>exact C
theorem DetS.tsm(C:TSm R)(h:DetS R c u R' e):TSm R':=by
 cases h with
 | ok e h h1 h2=>subst e;exact C.mid rfl
 | _=>exact C
theorem SetS.tsm{add:List St->List St×Int}(C:TSm R)(h:SetS add R c a R' e):TSm R':=by
 cases h with
 | ok e h hs=>subst e;exact C.mid rfl
 | _=>exact C
theorem FixS.tsm{ok:Bool}(C:TSm R)(h:FixS ok q R c R' e):TSm R':=by
 cases h with
 | ok e h hs ht hp=>subst e;exact C.mid rfl
 | _=>exact C
def qY(isN:Nm->Prop)(R:Tr):Prop:=∀q∈R,isN q.1/\isN q.2.par
theorem qY.mid{A B:Tr}{x C:Lk}(h:qY isN (A++(c,x)::B))(e:C.par=x.par):qY isN (A++(c,C)::B):=λq F=>by
 rcases AG.1 F with h1 | h1
 ·exact h q (AG.2 (.inl h1))
 ·rcases AS.1 h1 with rfl | h1
  ·have:=h (c,x) (AG.2 (.inr (Bo ..)));exact⟨this.1,by rw[e];exact this.2⟩
  ·exact h q (AG.2 (.inr (List.mem_cons_of_mem _ h1)))
theorem qY.att{f:Int}(h:qY isN R)(hc:isN c)(hp:isN p):qY isN (jx R c p f):=λq C=>by
 rcases AG.1 C with h1 | h1
 ·exact h q h1
 ·simp only[List.mem_singleton]at h1;subst h1;exact⟨hc,hp⟩
theorem qY.req(h:qY isN R)(e:REq R R'):qY isN R':=λq C=>h q ((e.mem q).2 C)
structure Ax where
 k:Nat
 c:Nm
 p:Nm
 a:Int
 q:Pq
def DoS(R:Tr)(s:Ax)(R':Tr)(e:Int):Prop:=
 if s.k=1 then DetS R s.c s.a R' e else if s.k=2 then SetS (kI s.a s.q) R s.c s.a R' e else if s.k=3 then FixS (decide s.q.good) s.q R s.c R' e else AttS bY R s.c s.p s.a R' e
structure Sane(R:Tr):Prop where
 ok:TOk R
 sm:TSm R
 nm:qY bY R
theorem Sane.nil:Sane []:=⟨.nil,.nil,λ_ h=>by cases h⟩
theorem Sane.req(h:Sane R)(e:REq R R'):Sane R':=⟨h.ok.of_req e,h.sm.of_req e,h.nm.req e⟩
theorem DoS.sane{s:Ax}(h:Sane R)(h2:s.q.ok 2)(d:DoS R s R' e):Sane R':=by
 unfold DoS at d;split at d
 ·refine⟨d.tok h.ok,d.tsm h.sm,?_⟩
  cases d with
  | ok e _ _ _=>have:=h.nm;rw[e]at this;exact this.mid rfl
  | _=>exact h.nm
 ·split at d
  ·refine⟨d.tok h.ok h2,d.tsm h.sm,?_⟩
   cases d with
   | ok e _ _=>have:=h.nm;rw[e]at this;exact this.mid rfl
   | _=>exact h.nm
  ·split at d
   ·refine⟨d.tok h.ok h2,d.tsm h.sm,?_⟩
    cases d with
    | ok e _ _ _ _=>have:=h.nm;rw[e]at this;exact this.mid rfl
    | _=>exact h.nm
   ·refine⟨d.tok h.ok,d.tsm h.sm,?_⟩
    cases d with
    | ok hn _ _ _ _ _ _ _ _=>exact h.nm.att hn.1 hn.2
    | _=>exact h.nm
end
structure TInv(w0 w:World)(t m:Nat)(E:List Ch):Prop where
 tm:TM w t m E
 sane:Sane (trE E)
 own:∀g∈fpT t m E,w0.heap.size<=g
 bel:mBw w0 w
variable{w0:World}
theorem TPost.bel{E':List Ch}(h:TPost w t m E w' E')(o:∀g∈fpT t m E,w0.heap.size<=g)(b:Bi w0.heap.size w0 w):mBw w0 w':=
 ⟨h.kp.os.trans b.os,h.kp.tape.trans b.tape,h.kp.output.trans b.output,AD b.size h.kp.size,λk C=>(h.kp.block k (Bt C b.size) (λF=>by have:=o k F;omega)).trans (b.block k C)⟩
theorem TInv.next{E':List Ch}{R':Tr}{s:Ax}{e:Int}(h:TInv w0 w t m E)(k:TPost w t m E w' E')(r:REq (trE E') R')(d:DoS (trE E) s R' e)(h2:s.q.ok 2):TInv w0 w' t m E':=
 ⟨k.tm,(d.sane h.sane h2).req r.symm,λg C=>(k.fp g C).elim (h.own g) (λh1=>AD h.bel.size h1),k.bel h.own h.bel⟩
theorem TInv.below(h:TInv w0 w t m E)(b:Bi w.heap.size w w'):TInv w0 w' t m E:=⟨h.tm.below b,h.sane,h.own,h.bel.trans (b.mono h.bel.size)⟩
end
section
open Go.ChangeShapes Go.WideShapes Go.ChangeAt Go.RowKit
structure Stp where
 k:Int
 c:Int
 p:Int
 a:Int
 x:Int
 u:Int
def Stp.cs(s:Stp):List Value:=[.int .u8 s.k,.int .u8 s.c,.int .u8 s.p,.int .i16 s.a,.int .i8 s.x,.int .u8 s.u]
abbrev Stp.val(s:Stp):Value:=.agg s.cs.toArray
structure Stp.Ok(s:Stp):Prop where
 k:0<=s.k/\s.k<256
 c:0<=s.c/\s.c<256
 p:0<=s.p/\s.p<256
 a: -32768<=s.a/\s.a<32768
 x: -128<=s.x/\s.x<128
 u:0<=s.u/\s.u<256
def jX(w:World)(v:Value)(R:List Stp):Prop:=(R=[]/\∃a c,v= .slice a 0 c)\/∃b o c,v= .slice (some ⟨b,o,none⟩) R.length c/\R≠ []/\b<w.heap.size/\∀i s,R[i]? =some s->∀j u,s.cs[j]? =some u->w.cell? ⟨b,o+(i*6+j),none⟩=some u
theorem jX.below{R:List Stp}(h:jX w v R)(k:Bi w.heap.size w w'):jX w' v R:=
 h.imp id (λ⟨b,o,c,e,hn,hb,C⟩=>⟨b,o,c,e,hn,Bt hb k.size,λi s hi j u F=>by rw[k.cell (p:=⟨b,_,none⟩) hb];exact C i s hi j u F⟩)
section
variable {H:Type} {enc:TypeId×Value->H} {W:World}
variable{t:Int}
theorem qz(h:(Lit.int .u8 t).wf=true):0<=t/\t<256:=by
 simp[Lit.wf,IntKind.min,IntKind.max,IntKind.wrap,IntKind.bits,HQ]at h;omega
theorem i16_wf(h:(Lit.int .i16 t).wf=true): -32768<=t/\t<32768:=by
 simp[Lit.wf,IntKind.min,IntKind.max,IntKind.wrap,IntKind.bits,HQ]at h;omega
theorem i8_wf(h:(Lit.int .i8 t).wf=true): -128<=t/\t<128:=by
 simp[Lit.wf,IntKind.min,IntKind.max,IntKind.wrap,IntKind.bits,HQ]at h;omega
theorem open_stp{fuel:Nat}{l:List Value}{x:DataW H×List MemPlace}(hl:l.length=6)(hf:DataW.trod enc AB W 0 (λ_=>true) true fuel 67 l=some x):∃s:Stp,s.Ok/\l=s.cs:=by
 have h8:AB.cellsOf 5=1:=Aa
 have G:AB.cellsOf 49=1:=Aa
 have I:AB.cellsOf 65=1:=Aa
 obtain⟨xs,n,_,hx,_,F,C⟩:=DataW.trod_struct Tryz.underlying67 hf
 match xs,F with
 | [y0,y1,y2,y3,y4,y5],_=>
  have J:=C 0 _ rfl;have K:=C 1 _ rfl;have k2:=C 2 _ rfl;have k3:=C 3 _ rfl;have U:=C 4 _ rfl;have V:=C 5 _ rfl;simp[Value.cells,h8,G,I]at J K k2 k3 U V
  match l,hl with
  | [u0,u1,u2,u3,u4,u5],_=>
   simp at J K k2 k3 U V;obtain⟨t0,Y,f0⟩:=Dn Dm J;obtain⟨t1,Z,f1⟩:=Dn Dm K;obtain⟨t2,e2,f2⟩:=Dn Dm k2;obtain⟨t3,e3,f3⟩:=Dn Tryz.underlying49 k3;obtain⟨t4,e4,f4⟩:=Dn Tryz.underlying65 U;obtain⟨t5,e5,f5⟩:=Dn Dm V;simp at Y Z e2 e3 e4 e5;subst Y Z e2 e3 e4 e5;exact⟨⟨t0,t1,t2,t3,t4,t5⟩,⟨qz f0.2,qz f1.2,qz f2.2,i16_wf f3.2,i8_wf f4.2,qz f5.2⟩,rfl⟩
theorem zB{d:DataW H}{p:List MemPlace}{base:Nat}(ab:Value.okWide AB W .any base 62 v)(h:DataW.Trod enc AB W 0 (λ_=>true) true 62 v d p):
  ∃R:List Stp,(∀s∈R,s.Ok)/\jX W v R:=by
 obtain⟨a0,C,Y,rfl⟩:=okWide_slice Tryz.underlying62 ab;obtain⟨fuel,hf⟩:=h;have ad:AB.cellsOf 67=6:=Aa
 rcases Go.Deep.open_slice Tryz.underlying62 hf with⟨K,_⟩ | ⟨a,len,cap,m,n,D,Pl,K,_,am,_,hm,_,hx⟩
 ·simp[Value.cells]at K;obtain⟨rfl,rfl,rfl⟩:=K;exact⟨[],λ_ h=>(by cases h),.inl ⟨rfl,_,_,rfl⟩⟩
 ·simp[Value.cells]at K;obtain⟨rfl,rfl,rfl⟩:=K;have an:C<=m:=by rw[hm];split<;>omega
  by_cases h0:C=0
  ·subst h0;exact⟨[],λ_ h=>(by cases h),.inl ⟨rfl,_,_,rfl⟩⟩
  ·have F:∀i,i<C->∃G,(∀j,j<6->W.cell? ((a.add (i*6)).add j)=G[j]?)/\G.length=6/\DataW.trod enc AB W 0 (λ_=>true) true n 67 G=some (D i,Pl i):=λi hi=>by
    obtain⟨G,h1,h2⟩:=hx i no;rw[ad]at h1;obtain⟨_,hl,I⟩:=World.cells?_some h1;exact⟨G,I,hl,h2⟩
   obtain⟨b,o,ac⟩:=a;have V:ac=none:=by
    obtain⟨G,h1,h2,_⟩:=F 0 no;have h3:=h1 0 no;rw[AJ (show 0<G.length by omega)]at h3;have h4:=World.cell?_spot h3;simpa [Addr.add]using h4
   subst V;simp only[bM]at F;have ak:∀i,∃s:Stp,i<C->s.Ok/\∀j u,s.cs[j]? =some u->W.cell? ⟨b,o+(i*6+j),none⟩=some u:=by
    intro i;by_cases hi:i<C
    ·obtain⟨G,I,hl,h2⟩:=F i hi;obtain⟨s,hs,rfl⟩:=open_stp hl h2;refine⟨s,λ_=>⟨hs,λj u hu=> ?_⟩⟩;have hj:j<6:=by have:=(AX.1 hu).1;exact this
     rw[<-C1,I j hj];exact hu
    ·exact⟨⟨0,0,0,0,0,0⟩,λh=>absurd h hi⟩
   obtain⟨f,Z⟩:=Classical.axiomOfChoice ak;have J:((Bj C).map f).length=C:=Ad
   have U:∀i s,((Bj C).map f)[i]? =some s->i<C/\s=f i:=λi s hi=>by
    have aa:i<C:=by have:=(AX.1 hi).1;rw[J]at this;exact this
    rw[Bp,Es aa]at hi;exact⟨aa,by simpa using hi.symm⟩
   refine⟨(Bj C).map f,λs hs=> ?_,.inr ⟨b,o,Y,by rw[J],λe=> ?_,?_,λi s hi=> ?_⟩⟩
   ·obtain⟨i,hi,e⟩:=BK hs;obtain⟨h1,h2⟩:=U i s Az;subst h2;exact(Z i h1).1
   ·rw[e]at J;exact h0 J.symm
   ·obtain⟨G,h1,h2,_⟩:=F 0 no;have h3:=h1 0 no;rw[AJ (show 0<G.length by omega)]at h3;unfold World.cell? at h3;split at h3
    ·rename_i hh;exact(AZ.1 hh).1
    ·cases h3
   ·obtain⟨h1,h2⟩:=U i s hi;subst h2;exact(Z i h1).2
end
end
def jw:ByteArray:=ByteArray.mk #[102,103,104,105,106,107,108,109,110,111,112,113,114,115,116,117,118,119,120,121,122,97,98,99,100,101,65,66,67,68,69,70]
def cW(n:Int):Nm:=if n % 31=30 then qp else jw.extract (n % 31).toNat ((n % 31).toNat+1)
theorem tab_one:∀k:Nat,k<30->bY (jw.extract k (k+1)):=by
 have h:∀k:Fin 30,∃c:UInt8,((97<=c.toNat/\c.toNat<=122)\/(65<=c.toNat/\c.toNat<=90))/\(jw.extract k (k+1)).data.toList=[c]:=by
  intro k;refine⟨jw.data[k.1]?.getD 0,?_⟩
  revert k
  decide
 intro k C;obtain⟨c,h1,h2⟩:=h ⟨k,C⟩;have h3:(jw.extract k (k+1)).data=#[c]:=by rw[<-Array.toList_inj];exact h2
 have e:jw.extract k (k+1)=nm1 c:=by
  cases hx:jw.extract k (k+1)with
  | mk d=>rw[hx]at h3;simp only at h3;rw[h3]
 rw[e];exact aaR h1
theorem kv(n:Int)(h:0<=n):Nam (cW n):=by
 unfold cW;split
 ·exact .inr rfl
 ·exact .inl (tab_one _ no)
theorem run_slS{t:TypeId}{s:ByteArray}{c u:Int}(ht:yk AB t=true)(h0:0<=c)(h1:c<=u)(h2:u<=s.size):(DZ t (.string s) (some (.int .i64 c)) (some (.int .i64 u)) none).run AB w= .ok (.string (s.extract c.toNat u.toNat)) w:=by
 have h3:0<=u:=no
 have C:c<=(u.toNat:Int):=no
 have F:c<=max u 0:=no
 simp[DZ,Instr.sliceBounds,Instr.sliceBound,asIntOf,AH,run_underlying (str_under ht),AQ,h0,h1,h2,h3,C,F]
theorem oe(n:Int)(h:0<=n/\n<256):AC AB 39 #[.int .u8 n] w λe w'=>e= .returned (.string (cW n))/\w'=w:=by
 obtain⟨m,I⟩:∃m,m=n.tmod 31:=⟨_,rfl⟩;have C:n % 31=m:=by rw[I,Int.tmod_eq_emod_of_nonneg h.1]
 have J:0<=m:=no
 have V:m<31:=no
 have U:=I.symm;have F:=AA (show cW n=if m=30 then qp else jw.extract m.toNat (m.toNat+1)by unfold cW;rw[C]);clear I C;by_cases c:m=30
 ·have G:=AA (show cW n=qp by rw[F.out,if_pos c]);subst c;clear F h;go_enter Ej,Tryz.ntmps39
  go_wp2;go_ret;rw[G.out];exact Ai
 ·have G:=AA (show cW n=jw.extract m.toNat (m.toNat+1)by rw[F.out,if_neg c]);have Z:(m==30)=false:=beq_eq_false_iff_ne.2 c;have K:m+1<=32:=no
  have ht:(m+1).toNat=m.toNat+1:=no
  have Y:(DZ 9 (.string (ByteArray.mk #[102,103,104,105,106,107,108,109,110,111,112,113,114,115,116,117,118,119,120,121,122,97,98,99,100,101,65,66,67,68,69,70])) (some (.int .i64 m)) (some (.int .i64 (m+1))) none).run AB w= .ok (.string (jw.extract m.toNat (m.toNat+1))) w:=by
   rw[<-ht];exact run_slS (s:=jw) Aa J no (by have:(jw.size:Int)=32:=rfl;omega)
  clear F c h K ht;go_enter Ej,Tryz.ntmps39
  go_wp2;go_ret;rw[G.out];exact Ai
section
variable {w:World} {c p:Nm} {a:Int} {v:Value}
end
section
open Classical
def axOf(s:Stp):Ax:=⟨if s.k % 5=2 then 1 else if s.k % 5=3 then 2 else if s.k % 5=4 then 3 else 0,cW s.c,cW s.p,s.a,dw s.x s.u⟩
theorem kz(x u:Int):(dw x u).rot.comp/\(dw x u).pos.good:=⟨⟨aA _,aA _,aA _,aA _⟩,⟨aA _,aA _,aA _⟩⟩
theorem oh{x u:Int}(C: -128<=x/\x<128)(_:0<=u/\u<256):(dw x u).ok 2:=by
 have h:∀v:Int, -300<=v->v<300->(Fq.ofInt v).ok 2:=λv h1 h2=>aL _ no no
 refine⟨⟨?_,h 0 no no,h 0 no no,h _ no no⟩,⟨h x no no,h 0 no no,h 0 no no⟩⟩;show(Fq.ofInt (if u % 8=7 then 2 else 1)).ok 2;split
 ·exact h 2 no no
 ·exact h 1 no no
def DoPost(w:World)(t m:Nat)(E:List Ch)(x:Ax)(e:BB)(w':World):Prop:=∃E' R' code,e= .returned (.int .i64 code)/\TPost w t m E w' E'/\REq (trE E') R'/\DoS (trE E) x R' code
end
section
open Go.RowKit Go.Maps Go.Sort Go.Shelf
def Tryz.keysB_ren:Go.Shelf.Ren:=⟨λ| 7=>88 | 10=>152 | n=>n,λ| 23=>150 | 26=>9 | 3=>4 | 28=>148 | 0=>0 | 27=>147 | 33=>166 | 4=>4 | n=>n,λ| n=>n⟩
theorem Tryz.keysB:Go.Proofs.SlLaysZ.n7 AB Tryz.keysB_ren:= {
 mixed:=Aa
 f7:=⟨Tryz.f88.name,it,Tryz.func88.trans (congrArg some Aa)⟩
 f10:=⟨Tryz.f152.name,it,Tryz.func152.trans (congrArg some Aa)⟩
 t0:=Fl
 a0:=Tryz.isAgg0
 z0:=Tryz.sizeOf0
 v0:=Fm
 t4:=Ek
 a4:=Tryz.isAgg4
 z4:=Tryz.sizeOf4
 v4:=FI
 t23:=Tryz.underlying150
 a23:=Tryz.isAgg150
 z23:=Tryz.sizeOf150
 v23:=Tryz.zeroValue150
 t26:=DC
 a26:=Tryz.isAgg9
 z26:=Tryz.sizeOf9
 v26:=JQ
 t27:=Tryz.underlying147
 a27:=Tryz.isAgg147
 z27:=Tryz.sizeOf147
 v27:=Tryz.zeroValue147
 t28:=Tryz.underlying148
 a28:=Tryz.isAgg148
 z28:=Tryz.sizeOf148
 v28:=Tryz.zeroValue148
 t33:=Tryz.underlying166
 a33:=Tryz.isAgg166
 z33:=Tryz.sizeOf166
 v33:=Tryz.zeroValue166}
def Tryz.sortedS_ren:Go.Shelf.Ren:=⟨λ| 6=>87 | 8=>150 | 9=>151 | 11=>205 | 13=>174 | 12=>206 | 23=>232 | 24=>233 | 14=>246 | 15=>247 | 16=>248 | 17=>249 | 18=>250 | 19=>251 | 20=>252 | 21=>253 | 22=>254 | 25=>282 | 26=>274 | 27=>275 | 28=>283 | 29=>284 | 30=>285 | 31=>303 | n=>n,λ| 26=>9 | 28=>148 | 24=>68 | 0=>0 | 3=>3 | 37=>234 | 48=>237 | 50=>178 | 4=>4 | 40=>273 | 39=>272 | 45=>277 | 5=>5 | 9=>9 | 51=>299 | 55=>303 | 57=>309 | 58=>310 | 33=>166 | n=>n,λ| n=>n⟩
theorem Tryz.sortedS:Go.Proofs.SlLaysZ.n6 AB Tryz.sortedS_ren:= {
 mixed:=Aa
 f6:=⟨Tryz.f87.name,it,Tryz.func87.trans (congrArg some Aa)⟩
 f8:=⟨Tryz.f150.name,it,Tryz.func150.trans (congrArg some Aa)⟩
 f11:=⟨Tryz.f205.name,it,Tryz.func205.trans (congrArg some Aa)⟩
 t0:=Fl
 a0:=Tryz.isAgg0
 z0:=Tryz.sizeOf0
 v0:=Fm
 t24:=DE
 a24:=Tryz.isAgg68
 z24:=Tryz.sizeOf68
 v24:=Tryz.zeroValue68
 t26:=DC
 a26:=Tryz.isAgg9
 z26:=Tryz.sizeOf9
 v26:=JQ
 t28:=Tryz.underlying148
 a28:=Tryz.isAgg148
 z28:=Tryz.sizeOf148
 v28:=Tryz.zeroValue148
 i26:=by kernel_rfl}
def Tryz.sortS_ren:Go.Shelf.Ren:=⟨λ| 6=>151 | 8=>174 | 9=>206 | 19=>232 | 20=>233 | 21=>246 | 22=>247 | 23=>248 | 24=>249 | 25=>250 | 26=>251 | 27=>252 | 28=>253 | 29=>254 | 36=>282 | 31=>274 | 32=>275 | 37=>283 | 38=>284 | 39=>285 | 41=>303 | n=>n,λ| 27=>68 | 29=>9 | 3=>3 | 32=>234 | 26=>68 | 0=>0 | 44=>237 | 46=>178 | 4=>4 | 36=>273 | 35=>272 | 41=>277 | 5=>5 | 9=>9 | 53=>299 | 57=>303 | 63=>309 | 64=>310 | n=>n,λ| n=>n⟩
theorem Tryz.sortS:Go.Proofs.SlLaysM.n6 AB Tryz.sortS_ren:= {
 mixed:=Aa
 f6:=⟨Tryz.f151.name,it,Tryz.func151.trans (congrArg some Aa)⟩
 f8:=Tryz.func174.trans (congrArg some Aa)
 f9:=⟨Tryz.f206.name,it,Tryz.func206.trans (congrArg some Aa)⟩
 f19:=Tryz.func232.trans (congrArg some Aa)
 f20:=Tryz.func233.trans (congrArg some Aa)
 f21:=⟨Tryz.f246.name,it,Tryz.func246.trans (congrArg some Aa)⟩
 f22:=⟨Tryz.f247.name,it,Tryz.func247.trans (congrArg some Aa)⟩
 f23:=⟨Tryz.f248.name,it,Tryz.func248.trans (congrArg some Aa)⟩
 f24:=⟨Tryz.f249.name,it,Tryz.func249.trans (congrArg some Aa)⟩
 f25:=⟨Tryz.f250.name,it,Tryz.func250.trans (congrArg some Aa)⟩
 f26:=⟨Tryz.f251.name,it,Tryz.func251.trans (congrArg some Aa)⟩
 f27:=⟨Tryz.f252.name,it,Tryz.func252.trans (congrArg some Aa)⟩
 f28:=⟨Tryz.f253.name,it,Tryz.func253.trans (congrArg some Aa)⟩
 f29:=⟨Tryz.f254.name,it,Tryz.func254.trans (congrArg some Aa)⟩
 f31:=Tryz.func274.trans (congrArg some Aa)
 f32:=Tryz.func275.trans (congrArg some Aa)
 f36:=⟨Tryz.f282.name,it,Tryz.func282.trans (congrArg some Aa)⟩
 f37:=⟨Tryz.f283.name,it,Tryz.func283.trans (congrArg some Aa)⟩
 f38:=⟨Tryz.f284.name,it,Tryz.func284.trans (congrArg some Aa)⟩
 f39:=⟨Tryz.f285.name,it,Tryz.func285.trans (congrArg some Aa)⟩
 f41:=⟨Tryz.f303.name,it,Tryz.func303.trans (congrArg some Aa)⟩
 t0:=Fl
 a0:=Tryz.isAgg0
 z0:=Tryz.sizeOf0
 v0:=Fm
 t3:=Tryz.underlying3
 a3:=Tryz.isAgg3
 z3:=Tryz.sizeOf3
 v3:=Tryz.zeroValue3
 t4:=Ek
 a4:=Tryz.isAgg4
 z4:=Tryz.sizeOf4
 v4:=FI
 t5:=Dm
 a5:=Tryz.isAgg5
 z5:=Tryz.sizeOf5
 v5:=Tryz.zeroValue5
 t9:=DC
 a9:=Tryz.isAgg9
 z9:=Tryz.sizeOf9
 v9:=JQ
 t26:=DE
 a26:=Tryz.isAgg68
 z26:=Tryz.sizeOf68
 v26:=Tryz.zeroValue68
 t27:=DE
 a27:=Tryz.isAgg68
 z27:=Tryz.sizeOf68
 v27:=Tryz.zeroValue68
 t29:=DC
 a29:=Tryz.isAgg9
 z29:=Tryz.sizeOf9
 v29:=JQ
 t32:=Tryz.underlying234
 a32:=Tryz.isAgg234
 z32:=Tryz.sizeOf234
 v32:=Tryz.zeroValue234
 t35:=Tryz.underlying272
 a35:=Tryz.isAgg272
 z35:=Tryz.sizeOf272
 v35:=Tryz.zeroValue272
 t36:=Tryz.underlying273
 a36:=Tryz.isAgg273
 z36:=Tryz.sizeOf273
 v36:=Tryz.zeroValue273
 t41:=Tryz.underlying277
 a41:=Tryz.isAgg277
 z41:=Tryz.sizeOf277
 v41:=Tryz.zeroValue277
 t44:=Tryz.underlying237
 a44:=Tryz.isAgg237
 z44:=Tryz.sizeOf237
 v44:=Tryz.zeroValue237
 t46:=Tryz.underlying178
 a46:=Tryz.isAgg178
 z46:=Tryz.sizeOf178
 v46:=Tryz.zeroValue178
 t53:=Tryz.underlying299
 a53:=Tryz.isAgg299
 z53:=Tryz.sizeOf299
 v53:=Tryz.zeroValue299
 t57:=Tryz.underlying303
 a57:=Tryz.isAgg303
 z57:=Tryz.sizeOf303
 v57:=Tryz.zeroValue303
 t63:=Tryz.underlying309
 a63:=Tryz.isAgg309
 z63:=Tryz.sizeOf309
 v63:=Tryz.zeroValue309
 t64:=Tryz.underlying310
 a64:=Tryz.isAgg310
 z64:=Tryz.sizeOf310
 v64:=Tryz.zeroValue310}
theorem Tryz.sortsS(m:Nat):AnyZ.SortsIn AB Tryz.sortedS_ren Cd m:=
 ⟨λblk off cap I W G C F=>callsIn_wide.2 (AnyM.slices_Sort_string Tryz.sortS blk off cap I W G C F),
  λp cap W=>callsIn_wide.2 (AnyM.slices_Sort_string_none Tryz.sortS p cap W)⟩
theorem Tryz.maps_Keys_B(C:Option Nat)(W:World):CallsIn Cd 5 AB 88 #[.map C] W λe w'=>e= .returned (.func (.func 152) #[] #[.pointer (some ⟨W.heap.size,0,none⟩)])/\w'=W.alloc (.cells #[.map C] 150):=
 AnyZ.keys_in Tryz.keysB Cd 5 trivial rfl C W
set_option maxHeartbeats 1000000 in
theorem Tryz.slices_Sorted_keys_B{H:Type}(b nn:Nat)(D0:DataW H)(R:Value->Option (DataW H×List MemPlace))(w:World)(hown:w.ownsMap AB 9 R b nn D0)(hmax:Maps.size D0<=maxLen)(hbytes:Maps.size D0*16<=140737488355328):
  CallsIn Cd 5 AB 87 #[.func (.func 152) #[] #[.pointer (some ⟨w.heap.size,0,none⟩)]] (w.alloc (.cells #[.map (some b)] 150)) λe w'=>∃(v:Value) (ss:List (List UInt8)),e= .returned v/\ss.Perm (strKeys D0)/\
   w'.ownsRow (w.alloc (.cells #[.map (some b)] 150)).heap.size 9 1 v ss.length ((ss.mergeSort (λx y=>decide (x<=y))).map encStr)/\(v= .slice none 0 0↔ss=[])/\Bi (w.alloc (.cells #[.map (some b)] 150)).heap.size (w.alloc (.cells #[.map (some b)] 150)) w':=by
 have hbl:=hown.lt;have hseq:SeqGives Cd 2 AB 152 #[.pointer (some ⟨w.heap.size,0,none⟩)] encStr (λss=>ss.Perm (strKeys D0)) (Maps.size D0) (w.alloc (.cells #[.map (some b)] 150)):=
  AnyZ.keys_gives (ρ:=Tryz.keysB_ren) {Tryz.keysB with} Cd _ trivial rfl no w.heap.size b nn D0 _ Ad Ad (by
   obtain⟨es,clock,hb,Ft,hs,hD⟩:=hown;exact⟨es,clock,(Fo _ _ b hbl).trans hb,Ft,hs,hD⟩)
 exact AnyZ.sorted_in Tryz.sortedS Cd 5 trivial trivial trivial trivial rfl no (Tryz.sortsS _) (enters_of Tryz.func151 Aa rfl) 152 #[.pointer (some ⟨w.heap.size,0,none⟩)] trivial (enters_of Tryz.func152 Aa rfl) _ _ hmax hbytes _ hseq
def Tryz.keysL_ren:Go.Shelf.Ren:=⟨λ| 7=>91 | 10=>154 | n=>n,λ| 23=>142 | 26=>9 | 3=>158 | 28=>148 | 0=>0 | 27=>147 | 33=>166 | 4=>4 | n=>n,λ| n=>n⟩
theorem Tryz.keysL:Go.Proofs.SlLaysZ.n7 AB Tryz.keysL_ren:= {
 mixed:=Aa
 f7:=⟨Tryz.f91.name,it,Tryz.func91.trans (congrArg some Aa)⟩
 f10:=⟨Tryz.f154.name,it,Tryz.func154.trans (congrArg some Aa)⟩
 t0:=Fl
 a0:=Tryz.isAgg0
 z0:=Tryz.sizeOf0
 v0:=Fm
 t4:=Ek
 a4:=Tryz.isAgg4
 z4:=Tryz.sizeOf4
 v4:=FI
 t23:=Tryz.underlying142
 a23:=Tryz.isAgg142
 z23:=Tryz.sizeOf142
 v23:=Tryz.zeroValue142
 t26:=DC
 a26:=Tryz.isAgg9
 z26:=Tryz.sizeOf9
 v26:=JQ
 t27:=Tryz.underlying147
 a27:=Tryz.isAgg147
 z27:=Tryz.sizeOf147
 v27:=Tryz.zeroValue147
 t28:=Tryz.underlying148
 a28:=Tryz.isAgg148
 z28:=Tryz.sizeOf148
 v28:=Tryz.zeroValue148
 t33:=Tryz.underlying166
 a33:=Tryz.isAgg166
 z33:=Tryz.sizeOf166
 v33:=Tryz.zeroValue166}
theorem Tryz.maps_Keys_L(C:Option Nat)(W:World):CallsIn Cd 5 AB 91 #[.map C] W λe w'=>e= .returned (.func (.func 154) #[] #[.pointer (some ⟨W.heap.size,0,none⟩)])/\w'=W.alloc (.cells #[.map C] 142):=
 AnyZ.keys_in Tryz.keysL Cd 5 trivial rfl C W
set_option maxHeartbeats 1000000 in
theorem Tryz.slices_Sorted_keys_L{H:Type}(b nn:Nat)(D0:DataW H)(R:Value->Option (DataW H×List MemPlace))(w:World)(hown:w.ownsMap AB 9 R b nn D0)(hmax:Maps.size D0<=maxLen)(hbytes:Maps.size D0*16<=140737488355328):
  CallsIn Cd 5 AB 87 #[.func (.func 154) #[] #[.pointer (some ⟨w.heap.size,0,none⟩)]] (w.alloc (.cells #[.map (some b)] 142)) λe w'=>∃(v:Value) (ss:List (List UInt8)),e= .returned v/\ss.Perm (strKeys D0)/\
   w'.ownsRow (w.alloc (.cells #[.map (some b)] 142)).heap.size 9 1 v ss.length ((ss.mergeSort (λx y=>decide (x<=y))).map encStr)/\(v= .slice none 0 0↔ss=[])/\Bi (w.alloc (.cells #[.map (some b)] 142)).heap.size (w.alloc (.cells #[.map (some b)] 142)) w':=by
 have hbl:=hown.lt;have hseq:SeqGives Cd 2 AB 154 #[.pointer (some ⟨w.heap.size,0,none⟩)] encStr (λss=>ss.Perm (strKeys D0)) (Maps.size D0) (w.alloc (.cells #[.map (some b)] 142)):=
  AnyZ.keys_gives (ρ:=Tryz.keysL_ren) {Tryz.keysL with} Cd _ trivial rfl no w.heap.size b nn D0 _ Ad Ad (by
   obtain⟨es,clock,hb,Ft,hs,hD⟩:=hown;exact⟨es,clock,(Fo _ _ b hbl).trans hb,Ft,hs,hD⟩)
 exact AnyZ.sorted_in Tryz.sortedS Cd 5 trivial trivial trivial trivial rfl no (Tryz.sortsS _) (enters_of Tryz.func151 Aa rfl) 154 #[.pointer (some ⟨w.heap.size,0,none⟩)] trivial (enters_of Tryz.func154 Aa rfl) _ _ hmax hbytes _ hseq
end
section
open Go.MapKept Go.WideShapes
abbrev Re0:Value->Option (DataW Unit×List MemPlace):=λ_=>some (.lit (.bool true),[])
variable{l:List (ByteArray×Value)}
theorem dF.owns{k:TypeId}{b:Nat}(h:dF w b l)(hk:P.underlying k=some .string)(hs:l.length<=maxLen)(hn:∀p∈l,p.1.size<=maxLen):
  ∃D:DataW Unit,w.ownsMap P k Re0 b l.length D/\(strKeys D).Perm (l.map λp=>p.1.data.toList)/\Maps.size D=l.length:=by
 obtain⟨es,C,hb,U,J⟩:=h;have F:es.size=l.length:=by have:=congrArg List.length J;simpa using this
 have G:∀x∈es.toList,∃p∈l,x.key= .string p.1/\Go.WideElems.rd P k Re0 x=some (.string p.1.data.toList,.lit (.bool true)):=λx V=>by
  obtain⟨j,hj,e⟩:=BK V;obtain⟨p,h1,h2,_⟩:=ko J (j:=j) (e:=x) (by rw[AJ hj,e]);refine⟨p,A0 h1,h2,?_⟩;have h3:=hn p (A0 h1);have Y:p.1.data.size<=maxLen:=h3;simp[Go.WideElems.rd,keyOf,hk,mapKey,h2,Re0,h3]
 have hf:Go.WideElems.Fit P k Re0 es C:=⟨no,U,λx V=>by obtain⟨p,_,_,h⟩:=G x V;exact⟨_,h⟩⟩;refine⟨.map ((es.toList.map (FJ P k Re0)).foldr DataW.insert []),⟨es,C,hb,hf,no,rfl⟩,?_,?_⟩
 ·have h1:=(sorted_perm (es.toList.map (FJ P k Re0))).map (λp=>strOf p.1);refine List.Perm.trans h1 ?_;rw[CE];have e:es.toList.map ((λp=>strOf p.1)∘ FJ P k Re0)=l.map λp=>p.1.data.toList:=by
   apply List.ext_getElem?;intro j;rw[Bp,Bp];have K:=mJ J j
   cases h2:es.toList[j]? with
   | none=>
    rw[h2]at K
    cases h3:l[j]? with
    | none=>rfl
    | some p=>rw[h3]at K;cases K
   | some x=>
    obtain⟨p,h3,Y,_⟩:=ko J h2;obtain⟨p',_,I,Z⟩:=G x (A0 h2);rw[Y]at I;injection I with I;rw[h3];simp[FJ,Z,strOf,I]
  rw[e]
 ·show((es.toList.map (FJ P k Re0)).foldr DataW.insert []).length=_;rw[length_sorted,Cg,Array.length_toList,F]
def txt(x:List UInt8):Nm:=⟨x.toArray⟩
theorem txt_of(c:Nm):txt c.data.toList=c:=by simp[txt]
theorem of_txt(x:List UInt8):(txt x).data.toList=x:=by simp[txt]
abbrev zC(a b:Nm):Prop:=a.data.toList<=b.data.toList
theorem oH{D:DataW Unit}{C:List (List UInt8)}(hl:(l.map (·.1)).Nodup)(hp:(strKeys D).Perm (l.map λp=>p.1.data.toList))(I:C.Perm (strKeys D)):
  ∃L:List Nm,((C.mergeSort (λx y=>decide (x<=y))).map encStr)=L.map Bb/\L.length=C.length/\L.Perm (l.map (·.1))/\L.Nodup/\L.Pairwise zC:=by
 have G:(C.mergeSort (λx y=>decide (x<=y))).Perm C:=List.mergeSort_perm ..;have F:((C.mergeSort (λx y=>decide (x<=y))).map txt).Perm (l.map (·.1)):=by
  have h1:=(G.trans (I.trans hp)).map txt;rw[CE]at h1;have e:(l.map (txt ∘ λp=>p.1.data.toList))=l.map (·.1):=List.map_congr_left (λp _=>txt_of p.1);rwa [e]at h1
 refine⟨(C.mergeSort (λx y=>decide (x<=y))).map txt,?_,Ad,F,F.nodup_iff.2 hl,?_⟩
 ·rw[CE];rfl
 ·rw[List.pairwise_map];have h2:(C.mergeSort (λx y=>decide (x<=y))).Pairwise (λa b=>leB a b=true):=List.pairwise_mergeSort (λa b c h1 h2=>by simp only[leB,decide_eq_true_eq]at *;exact List.le_trans h1 h2) (λa b=>by simp only[leB,Bool.or_eq_true,decide_eq_true_eq];exact List.le_total a b) C;refine h2.imp (λ{a b} h=> ?_);show(txt a).data.toList<=(txt b).data.toList;rw[of_txt,of_txt];simpa [leB]using h
abbrev aZ(w:World)(b0:Nat)(v:Value)(L:List Nm):Prop:=w.ownsRow b0 9 1 v L.length (L.map Bb)
theorem q_keysB{b:Nat}{l:List Nm}(h:jP w b l)(hs:l.length<=1000000)(hn:∀x∈l,x.size<=maxLen):
  (AC AB 88 #[.map (some b)] w λe w'=>e= .returned (.func (.func 152) #[] #[.pointer (some ⟨w.heap.size,0,none⟩)])/\w'=w.alloc (.cells #[.map (some b)] 150))/\
  AC AB 87 #[.func (.func 152) #[] #[.pointer (some ⟨w.heap.size,0,none⟩)]] (w.alloc (.cells #[.map (some b)] 150)) λe w'=>∃v L,e= .returned v/\aZ w' w.heap.size v L/\L.Perm l/\L.Nodup/\L.Pairwise zC/\(v= .slice none 0 0↔L=[])/\mBw w w':=by
 have U:(1000000:Nat)<=maxLen:=by unfold maxLen;omega
 obtain⟨D,G,hp,hz⟩:=dF.owns (P:=AB) (k:=9) h Aa (by rw[Cg];omega) (λp hp=>by obtain⟨c,hc,rfl⟩:=Ba.1 hp;exact hn c hc);rw[Cg]at G hz;refine⟨callsIn_wide.1 (Tryz.maps_Keys_B (some b) w),(callsIn_wide.1 (Tryz.slices_Sorted_keys_B b l.length D Re0 w G no no)).mono ?_⟩;rintro e w' ⟨v,V,rfl,K,F,C,hb⟩;obtain⟨L,h1,h2,h3,I,J⟩:=oH (dF.nodup h) hp K;rw[CE]at h3;have e:(l.map ((λp:ByteArray×Value=>p.1)∘ λc=>(c,Value.bool true)))=l:=by simp[Function.comp_def]
 rw[e]at h3;refine⟨v,L,rfl,?_,h3,I,J,?_,((AF _ w).alloc (AE _) _).trans (hb.mono (by rw[asz];omega))⟩
 ·show w'.ownsRow w.heap.size 9 1 v L.length (L.map Bb);rw[<-h1,h2];exact EW F (by rw[asz];omega)
 ·rw[C];constructor
  ·intro h;apply CF;rw[h2,h];rfl
  ·intro h;apply CF;rw[<-h2,h];rfl
theorem q_Frames(h:TM w t m E)(hS:TSm (trE E))(hN:∀x,aC (trE E) x->x.size<=maxLen):AC AB 33 #[ptB t] w λe w'=>∃v L,e= .returned v/\aZ w' w.heap.size v L/\(∀x,x∈L↔aC (trE E) x)/\L.Nodup/\L.Pairwise zC/\(v= .slice none 0 0↔L=[])/\L.length<=24/\mBw w w':=by
 have Z:=mL h;have H:=AA (By hS hN);clear h hS hN;go_enter Tryz.func33,Tryz.ntmps33
 go_wp2_with (first
  | (go_at_call 89;refine Z.mono ?_;rintro e w1 ⟨b,l,rfl,K,U,hl,hb⟩;have hc:l.length<=24:=(by obtain⟨⟨⟨n,h1,h2⟩,_⟩,_⟩:=H.out;rw[ci.uniq ⟨l,K.nodup,λx=>(hl x).trans ku,rfl⟩ h2];exact h1);obtain⟨V,Y⟩:=q_keysB K no (λx hx=>H.out.2 x (ku.1 ((hl x).1 hx)));have HB:=AA (By hb (By hl hc));clear hb hl hc K U)
  | (go_at_call 88;refine V.mono ?_;rintro e w2 ⟨rfl,rfl⟩)
  | (go_at_call 87;refine Y.mono ?_;rintro e w3 ⟨v,L,rfl,F,hp,I,J,C,G⟩;have HR:=AA (By F (By hp (By I (By J (By C G)))));clear F hp I J C G))
 go_ret;obtain⟨F,hp,I,J,C,G⟩:=HR.out;obtain⟨hb,hl,hc⟩:=HB.out;exact⟨v,L,rfl,EW F hb.size,λx=>(hp.mem_iff).trans ((hl x).trans ku),I,J,C,by rw[hp.length_eq];exact hc,hb.trans (G.mono hb.size)⟩
end
section
open Classical
theorem TInv.new{w1:World}(h:TM w1 t m [])(ht:w.heap.size<=t)(F:w.heap.size<=m)(hb:Bi w.heap.size w w1):TInv w w1 t m []:=
 ⟨h,.nil,λg C=>by
  simp only[fpT,List.flatMap_nil,AS,Dt,or_false]at C;rcases C with rfl | rfl
  ·exact ht
  ·exact F,hb⟩
theorem TInv.att{w0:World}{E':List Ch}{R':Tr}{p:Nm}{f e:Int}(h:TInv w0 w t m E)(k:TPost w t m E w' E')(r:REq (trE E') R')(d:AttS bY (trE E) c p f R' e):TInv w0 w' t m E':=
 h.next (s:=⟨0,c,p,f,Pq.id⟩) (e:=e) k r (by unfold DoS;exact d) Pq.ok.id
theorem ol{a b:UInt8}(h:a≠b):nm1 a≠nm1 b:=λe=>h (by
 have:=congrArg ByteArray.data e;simpa [nm1]using this)
abbrev nA:Nm:=nm1 97
abbrev nB:Nm:=nm1 98
theorem nAB:nA≠nB:=ol it
theorem iA:bY nA:=aaR (.inl ⟨it,it⟩)
theorem iB:bY nB:=aaR (.inl ⟨it,it⟩)
theorem q_ParentS{p:Nm}{a:Int}(h:TM w t m E)(hp:par (trE E) a c=some p):AC AB 34 #[ptB t,.string c,.int .i64 a] w λe w'=>e= .returned (.tuple #[.string p,.bool true])/\w'=w:=by
 have h1:=wR h c a;unfold par at hp;rw[<-h.tAt]at hp
 cases hl:atE E c a with
 | none=>rw[hl]at hp;cases hp
 | some l=>
  rw[hl]at hp h1;have e:l.x.par=p:=by injection hp
  rw[<-e];exact h1
theorem q_ParentN{a:Int}(h:TM w t m E)(hp:par (trE E) a c=none):AC AB 34 #[ptB t,.string c,.int .i64 a] w λe w'=>e= .returned (.tuple #[.string BW,.bool false])/\w'=w:=by
 have h1:=wR h c a;unfold par at hp;rw[<-h.tAt]at hp
 cases hl:atE E c a with
 | none=>rw[hl]at h1;exact h1
 | some l=>rw[hl]at hp;cases hp
end
section
open Classical
section
variable {w w':World} {b sz n j:Nat} {T:TypeId} {v u:Value} {xs:List Value} {ad:Option AU} {cap:Nat}
theorem eh(h:w.ownsRow b T sz v n xs)(k:∀g,v.ownBlock=some g->w'.heap[g]? =w.heap[g]?):w'.ownsRow b T sz v n xs:=
 ⟨h.1,h.2.imp id λ⟨g,cap,cur,e,hb,C,F⟩=>⟨g,cap,cur,e,hb,by rw[k g (by rw[e];rfl)];exact C,F⟩⟩
theorem bV(h:w.ownsRow b T sz v n xs)(C:v.ownBlock=some g):b<=g/\g<w.heap.size:=by
 rcases h.2 with⟨rfl,_⟩ | ⟨F,cap,cur,rfl,hb,hc,_⟩
 ·cases C
 ·have e:F=g:=A3.inj C;subst e;exact⟨hb,(AZ.1 hc).1⟩
theorem cL(h:w.ownsRow b T sz v n xs):∃ad cap,v= .slice ad n cap:=by
 rcases h.2 with⟨rfl,rfl⟩ | ⟨C,cap,cur,rfl,_⟩
 ·exact⟨_,_,rfl⟩
 ·exact⟨_,_,rfl⟩
theorem cQ(h:w.ownsRow b T sz (.slice ad n cap) n xs)(G:xs[j]? =some u):∃g,ad=some ⟨g,0,none⟩/\w.cell? ⟨g,j,none⟩=some u:=by
 rcases h.2 with⟨e,rfl⟩ | ⟨F,C,cur,e,_⟩
 ·have:xs=[]:=CF (by rw[h.1];omega);subst this;cases G
 ·injection e with I _ _;subst I;have:=h.cells (g:=F) rfl j u G;rw[bM,A5]at this;exact⟨F,rfl,this⟩
theorem aX.keep(h:aX w T sz v n xs)(k:∀g,v.ownBlock=some g->w'.heap[g]? =w.heap[g]?):aX w' T sz v n xs:=
 ⟨eh h.1 k,λg C=>by
  obtain⟨cs,t,h1,h2⟩:=h.2 g C;exact⟨cs,t,by rw[k g C];exact h1,h2⟩⟩
theorem jY{p:AW}{t ty e:TypeId}{bytes:Nat}(ht:p.underlying t=some (.slice e))(F:appB p e sz bytes=true)(V:aX w e sz v n xs){a:AU}{c:Nat}{news:List Value}(hl:news.length=m*sz)(C:∀j u,news[j]? =some u->w.cell? (a.add j)=some u)(h1:∀u∈news,u.oneCell'=true)(G:∀u∈news,noU u)
  (U:0<m)(hb:(n+m)*bytes<=140737488355328)(hn:n+m<=1000000000000000):
  ∃v' w',(BM #[t,t] ty #[v,.slice (some a) m c]).run p w= .ok v' w'/\w.grownBy w' v.ownBlock/\(∀g,v'.ownBlock=some g->v.ownBlock=some g\/w.heap.size<=g)/\aX w' e sz v' (n+m) (xs++news):=by
 unfold appB at F;split at F
 ·rename_i ti hi;simp only[BN,beq_iff_eq,decide_eq_true_eq]at F;obtain⟨hz,h3,J,K⟩:=F;split at hz
  ·rename_i z I;simp only[BN,beq_iff_eq]at hz;subst h3;subst J;obtain⟨v',w',Z,k2,_,k4,k5⟩:=tM (ty:=ty) (c:=c) ht hi I hz.1 K (λu Y n e=>by
    have:=Ca.1 hz.2 u Y;subst e;exact Bool.noConfusion (show false=true from this)) V hl C h1 G U hb hn
   exact⟨v',w',Z,k2,k4,k5⟩
  ·cases hz
 ·cases F
end
theorem jk{o:Oper}{v':Value}{s x:AP}{t:TypeId}(C:o.guard=none)
  (F:o.op= .call {callee:=.builtin .append,args:=#[s,x],argTypes:=#[t,t]}){y:Value}(hs:a.eval s=v)(G:a.eval x=y)(hr:(BM #[t,t] o.type #[v,y]).run P w= .ok v' w')(h:wpList P ops Q rest (a.put o.dst v') w'):wpList P ops Q (o::rest) a w:=
 ae C (by
  unfold execOp;simp only[F,resolve,invoke,builtin,AH,Bw,CM,CJ,Bq,BS,hs,G,hr]) h
theorem jX.row{R:List Stp}(h:jX w v R):∃ad c,v= .slice ad R.length c/\∀i s,R[i]? =some s->∃b o,ad=some ⟨b,o,none⟩/\b<w.heap.size/\w.rangeAt b (o+i*6) s.cs:=by
 rcases h with⟨rfl,a,c,rfl⟩ | ⟨b,o,c,rfl,_,hb,C⟩
 ·exact⟨a,c,rfl,λi s hi=>by cases i<;>cases hi⟩
 ·exact⟨_,c,rfl,λi s hi=>⟨b,o,rfl,hb,λj u F=>by rw[C1];exact C i s hi j u F⟩⟩
noncomputable def pOf(R:Tr)(a:Int)(c:Nm):Nm:=(par R a c).getD BW
theorem q_ParentG(h:TM w t m E)(c:Nm)(a:Int):AC AB 34 #[ptB t,.string c,.int .i64 a] w λe w'=>e= .returned (.tuple #[.string (pOf (trE E) a c),.bool (par (trE E) a c).isSome])/\w'=w:=by
 cases hp:par (trE E) a c with
 | some p=>unfold pOf;rw[hp];exact q_ParentS h hp
 | none=>unfold pOf;rw[hp];exact q_ParentN h hp
theorem axOf_q{s:Stp}(hs:s.Ok):(axOf s).q.ok 2:=oh hs.x hs.u
theorem Sane.short{R:Tr}(h:Sane R){x:Nm}(F:aC R x):x.size<=maxLen:=by
 obtain⟨q,C,h1 | h1⟩:=F
 ·rw[<-h1];exact AD (h.nm q C).1.2.1 it
 ·rw[<-h1];exact AD (h.nm q C).2.2.1 it
end
variable{l:Ln}
theorem LnAt.pose(h:LnAt w c l):∃cs:List Value,cs.length=21/\w.rangeAt l.b 5 cs/\aR w (.agg cs.toArray) l.x.po:=by
 obtain⟨⟨C,h1,h2,h3⟩,_⟩:=h;have G:C.size=27:=h2;have J:∀j,j<21->(C.extract 5 26).toList[j]? =C[5+j]? :=λj F=>by
  rw[Array.getElem?_toList,Array.getElem?_extract];rw[if_pos no]
 refine⟨(C.extract 5 26).toList,by simp[G],λj v U=> ?_,⟨_,rfl,mP (xs:=l.x.po.cs) (by show(C.extract 5 26).toList.length=21;simp[G]) (λj q K=> ?_)⟩⟩
 ·have F:j<21:=by have:=(AX.1 U).1;simpa [G]using this
  rw[aH h1,<-J j F];exact U
 ·have F:j<21:=(AX.1 K).1;have I:(lnQ c l)[5+j]? =some q:=by
   show([.val (.string c),.val (.string l.x.par),.val (.int .i64 l.x.fr),.val (.int .i64 l.x.un),.val (.bool l.x.st)]++(frs l.x.po.cs++ [.val (ptB l.g)]):List Vp)[5+j]? =some q;rw[Bv Ad,Bz (by show 5+j - 5<21;omega)];rw[show 5+j - ([.val (.string c),.val (.string l.x.par),.val (.int .i64 l.x.fr),.val (.int .i64 l.x.un),.val (.bool l.x.st)]:List Vp).length=j from by show 5+j - 5=j;omega];exact K
  obtain⟨u,V,k2⟩:=h3 _ _ I;exact⟨u,by rw[J j F];exact V,k2⟩
noncomputable def trkP(S:List St)(a:Int):Pq×Int:=
 match S[0]?,S[S.length - 1]? with
 | some f,some l=>if a<f.tm\/l.tm<a then(Pq.zero,17)else
  (match S[plN S a]? with
  | some y=>if y.tm=a then(y.pose,0)else(match S[plN S a - 1]? with | some z=>(atP z y 0 a,0) | none=>(Pq.zero,17))
  | none=>(Pq.zero,17))
 | _,_=>(Pq.zero,6)
variable{a:Int}
theorem Road.trkP{z y:St}{c:Int}(h:Road S a z y c):trkP S a=(atP z y c a,c):=by
 unfold Go.Proofs.YtggfmklppkioeaaGreat.trkP
 cases h with
 | E h0=>
  have:S=[]:=CF h0;subst this;rfl
 | O1 f hf hn ha=>
  obtain⟨l,hl⟩:∃l,S[S.length - 1]? =some l:=⟨_,AJ no⟩;simp only[hf,hl];rw[if_pos (.inl ha)];unfold atP;rw[if_pos it]
 | O2 f hf hb l hl hn ha=>simp only[hf,hl];rw[if_pos (.inr ha)];unfold atP;rw[if_pos it]
 | Q f hf hb l hl hn ha y hy ey hp eq1=>
  simp only[hf,hl];rw[if_neg no];simp only[hy];rw[if_pos ey];unfold atP;rw[if_neg it,if_pos rfl]
 | M f hf hb l hl hn ha y hy ey hp h0 eq1 z hz=>
  simp only[hf,hl];rw[if_neg no];simp only[hy];rw[if_neg no];simp only[hz]
noncomputable def bv(R:Tr)(c:Nm)(a:Int):Pq×Int:=match tAt R c a with | none=>(Pq.zero,18) | some x=>if x.st then(x.po,0)else trkP x.tr a
structure PB(w0 W:World)(B:Nat)(vs:List Value):Prop where
 blk:W.heap[B]? =some (.cells vs.toArray 39 (0,0))
 len:vs.length=21
 bel:mBw w0 W
 ge:w0.heap.size<=B
 nu:∀u∈vs,noU u
theorem PB.new(w:World):PB w (w.alloc (.cells ai.toArray 39)) w.heap.size ai:=⟨Bm w _,rfl,(AF _ w).alloc (AE _) _,AE _,λu C n e=>by
 subst e;simp[ai]at C⟩
variable{w0 W:World}{B:Nat}{vs:List Value}
theorem PB.next{W':World}(h:PB w0 W B vs)(k:Bi W.heap.size W W'):PB w0 W' B vs:=
 ⟨by rw[k.block B (AZ.1 h.blk).1];exact h.blk,h.len,h.bel.trans (k.mono h.bel.size),h.ge,h.nu⟩
variable{us:List Value}
theorem PB.put(h:PB w0 W B vs)(C:us.length=21)(hn:∀u∈us,noU u):PB w0 (W.setCells B 0 us) B us:=
 ⟨by rw[ft us W B 0 _ _ h.blk,lz (by simp[h.len,C])],C,aQ us 0 W h.bel h.ge,h.ge,hn⟩
theorem PB.there(h:PB w0 W B vs):W.there B 0 21:=by
 have:=oc h.blk;rwa [Cb,h.len]at this
theorem bc(C:us.length=21):(AB.info? 39).map (·.size)=some us.toArray.size:=by rw[Cb,C];kernel_rfl
theorem dH(h:aR w v p):∃cs:List Value,v= .agg cs.toArray/\cs.length=21/\cs.toArray.all (·.oneCell')=true/\∀u∈cs,noU u:=by
 obtain⟨cs,rfl,hc⟩:=h;refine⟨cs,rfl,aE hc,Fu (eT hc),λu G n e=> ?_⟩;obtain⟨k,F,C⟩:=BK G;exact hc.noInt k n (by rw[AJ F,C,e])
theorem PB.keep(h:PB w0 W B vs)(i:aR W v p):aR (W.setCells B 0 us) v p:=by
 obtain⟨cs,rfl,hc⟩:=i;exact⟨cs,rfl,hc.upd (jf h.blk (λu C=>h.nu u At)) (co us W B 0)⟩
theorem PB.ret(h:PB w0 W B vs){fn:Func}{p u:Tmp}(hr:fn.results=#[.cell p 39,.tmp u])(tmps:Array Value)(hp:tmps.getD p undef= .pointer (some ⟨B,0,none⟩)):
  (results fn tmps).run AB W= .ok (.tuple #[.agg vs.toArray,tmps.getD u undef]) W:=
 sy hr tmps W B _ _ _ _ hp h.blk CC rfl (bc h.len)
theorem q_EdgeN(h:TM w t m E)(hl:atE E c a=none):
  AC AB 41 #[ptB t,.string c,.int .i64 a] w λe w'=>e= .returned (.tuple #[.agg ai.toArray,.int .i64 18])/\Bi w.heap.size w w':=by
 have F:=PB.new w;have C:=sw (h.below F.bel) c a;rw[hl]at C
 change AC _ _ _ _ (λe w'=>e= .returned (.pointer none)/\w'=_)at C
 have G:=AA F;obtain⟨W,J⟩:∃W,w.alloc (.cells ai.toArray 39)=W:=⟨_,rfl⟩;rw[J]at C G;clear h hl F;go_enter Tryz.func41,Tryz.ntmps41
 go_upto_region 0 with(fail)
 refine Bn ?_;refine ae rfl (v:=.pointer (some ⟨w.heap.size,0,none⟩)) (w':=W) (by subst J;go_simp;try rfl) ?_;obtain⟨B,U⟩:∃B,w.heap.size=B:=⟨_,rfl⟩;rw[U]at G⊢;clear J U;go_upto_region 5 with(go_at_call 90;refine C.mono ?_;rintro e w' ⟨rfl,K⟩;obtain rfl:=K.symm)
 refine Bn ?_;refine ae rfl (v:=.agg ai.toArray) (w':=W) (by unfold ai;go_simp;try rfl) ?_;refine BX rfl _ _ _ rfl B 0 ai.toArray rfl rfl G.out.there Aa Aa ?_;have I:=AA (G.out.put (us:=ai) rfl G.out.nu);generalize W.setCells B 0 ai.toArray.toList=V at *;go_wp2;refine A7 (I.out.ret rfl _ rfl) rfl ?_;exact⟨rfl,I.out.bel⟩
theorem q_EdgeS(h:TM w t m E)(hl:atE E c a=some l)(hs:l.x.st=true)(hk:l.x.po.ok 1000000):
  AC AB 41 #[ptB t,.string c,.int .i64 a] w λe w'=>∃v,e= .returned (.tuple #[v,.int .i64 0])/\aR w' v l.x.po/\Bi w.heap.size w w':=by
 have I:=PB.new w;have hT:=h.below I.bel;have C:=sw hT c a;rw[hl]at C
 change AC _ _ _ _ (λe w'=>e= .returned (ptB l.b)/\w'=_)at C
 obtain⟨_,_,_,hL⟩:=lp hT hl;obtain⟨cs,ak,J,am⟩:=hL.pose;have U:=hL.st;rw[hs]at U;have G:=q_fcp _ l.x.po _ am (hk.mono it);have HP:=AA I;obtain⟨W,hW⟩:∃W,w.alloc (.cells ai.toArray 39)=W:=⟨_,rfl⟩;rw[hW]at C HP J U G;have ab:=AA J;have ac:=AA (show(AB.info? 39).map (·.size)=some cs.length by rw[ak];kernel_rfl);clear h hl I hT hs hk hL J am;generalize l.b=lb at *;generalize l.x.po=po at *;go_enter Tryz.func41,Tryz.ntmps41
 go_upto_region 0 with(fail)
 refine Bn ?_;refine ae rfl (v:=.pointer (some ⟨w.heap.size,0,none⟩)) (w':=W) (by subst hW;go_simp;try rfl) ?_;obtain⟨B,hB⟩:∃B,w.heap.size=B:=⟨_,rfl⟩;rw[hB]at HP⊢;clear hW hB;go_upto_region 7 with(go_at_call 90;refine C.mono ?_;rintro e w' ⟨rfl,ap⟩;obtain rfl:=ap.symm)
 clear C U;refine Bn ?_;refine ae rfl (v:=ptB lb) (w':=W) Af ?_;refine ae rfl (v:=ptB lb) (w':=W) Ah ?_;refine ae rfl (v:=.pointer (some ⟨lb,5,none⟩)) (w':=W) Ah ?_;refine Dp rfl _ _ rfl lb 5 rfl cs _ ab.out CC rfl ac.out ?_;refine BA rfl (λK hK=> ?_);go_simp;go_at_call 97
 refine G.mono ?_;rintro e w4 ⟨v,rfl,Z,k4⟩;obtain⟨us,rfl,Y,an,ao⟩:=dH Z;have F:=HP.out.next k4;have aa:=AA (F.put (us:=us) Y ao);have HV:=AA (F.keep (us:=us) Z);have V:=F.there;rw[<-Y]at V;refine hK _ _ ?_;clear hK K Z k4 G ab ac HP;refine BX rfl _ _ _ rfl B 0 us.toArray rfl rfl (by simpa using V) (bc Y) an ?_;rw[show us.toArray.toList=us from rfl];generalize W2d:w4.setCells B 0 us=W2 at *;clear W2d F V an ao;go_wp2;refine A7 (aa.out.ret rfl _ rfl) rfl ?_;exact⟨_,rfl,HV.out,aa.out.bel⟩
theorem q_EdgeT(h:TM w t m E)(hE:TOk (trE E))(hl:atE E c a=some l)(hs:l.x.st=false):
  AC AB 41 #[ptB t,.string c,.int .i64 a] w λe w'=>∃v,e= .returned (.tuple #[v,.int .i64 (trkP l.x.tr a).2])/\aR w' v (trkP l.x.tr a).1/\Bi w.heap.size w w':=by
 have U:=PB.new w;have hT:=h.below U.bel;have C:=sw hT c a;rw[hl]at C
 change AC _ _ _ _ (λe w'=>e= .returned (ptB l.b)/\w'=_)at C
 obtain⟨ch,ac,ak,hL⟩:=lp hT hl;have J:=hE.good _ (cE.2 ⟨ch,(cD ac).1,l,ak,rfl⟩);obtain⟨z,y,cc,hr⟩:=road J a;have I:=k_At hL.trk J hr;have e1:=hr.trkP;have V:=hL.st;have ao:=hL.tp;rw[hs]at V;have aa:=AA (show(trkP l.x.tr a).1=atP z y cc a by rw[e1]);rw[show(trkP l.x.tr a).2=cc by rw[e1]];have HP:=AA U;obtain⟨W,hW⟩:∃W,w.alloc (.cells ai.toArray 39)=W:=⟨_,rfl⟩;rw[hW]at C HP V I ao;clear h hl U hT hs hL hE ac ak J hr e1;generalize l.b=lb at *;generalize l.g=lg at *;generalize (trkP l.x.tr a).1=po at *;go_enter Tryz.func41,Tryz.ntmps41
 go_upto_region 0 with(fail)
 refine Bn ?_;refine ae rfl (v:=.pointer (some ⟨w.heap.size,0,none⟩)) (w':=W) (by subst hW;go_simp;try rfl) ?_;obtain⟨B,hB⟩:∃B,w.heap.size=B:=⟨_,rfl⟩;rw[hB]at HP⊢;clear hW hB;go_upto_region 8 with(go_at_call 90;refine C.mono ?_;rintro e w' ⟨rfl,ap⟩;obtain rfl:=ap.symm)
 clear C V;refine Bn ?_;refine ae rfl (v:=ptB lb) (w':=W) Af ?_;refine ae rfl (v:=ptB lb) (w':=W) Ah ?_;refine ae rfl (v:=.pointer (some ⟨lb,26,none⟩)) (w':=W) Ah ?_;refine ae rfl (v:=ptB lg) (w':=W) Ah ?_;refine ae rfl (v:=.int .i64 a) (w':=W) Af ?_;refine BA rfl (λK hK=> ?_);go_simp;go_at_call 98
 refine I.mono ?_;rintro e w4 ⟨v,rfl,G,k4⟩;rw[<-aa.out]at G;obtain⟨us,rfl,Z,am,an⟩:=dH G;have F:=HP.out.next k4;have ab:=AA (F.put (us:=us) Z an);have HV:=AA (F.keep (us:=us) G);have Y:=F.there;rw[<-Z]at Y;refine hK _ _ ?_;clear hK K G k4 I HP aa;refine ae rfl (v:=.agg us.toArray) (w':=w4) Ah ?_;refine ae rfl (v:=.int .i64 cc) (w':=w4) Ah ?_;refine BX rfl _ _ _ rfl B 0 us.toArray rfl rfl (by simpa using Y) (bc Z) am ?_;rw[show us.toArray.toList=us from rfl];generalize W2d:w4.setCells B 0 us=W2 at *;clear W2d F Y am an;go_wp2;refine A7 (ab.out.ret rfl _ rfl) rfl ?_;exact⟨_,rfl,HV.out,ab.out.bel⟩
theorem q_Edge(h:TM w t m E)(G:TOk (trE E))(c:Nm)(a:Int):
  AC AB 41 #[ptB t,.string c,.int .i64 a] w λe w'=>∃v,e= .returned (.tuple #[v,.int .i64 (bv (trE E) c a).2])/\aR w' v (bv (trE E) c a).1/\mBw w w':=by
 unfold bv;rw[<-h.tAt]
 cases hl:atE E c a with
 | none=>
  refine(q_EdgeN h hl).mono ?_;rintro e w' ⟨rfl,hb⟩;exact⟨_,rfl,dB w',hb⟩
 | some l=>
  simp only[BG];obtain⟨ch,C,F,_⟩:=lp h hl
  cases hs:l.x.st with
  | true=>
   rw[if_pos rfl];exact q_EdgeS h hl hs ((G.pose _ (cE.2 ⟨ch,(cD C).1,l,F,rfl⟩) hs).2.mono it)
  | false=>
   rw[if_neg Ad];exact q_EdgeT h G hl hs
def jl(x:Lk):Int:=if x.un= -1 then bC else x.un - 1
noncomputable def sG(x:Lk):Int×Int×Bool:=
 if x.st then(x.fr,jl x,true)else
  (if (gR x.tr).2.2=true/\(gR x.tr).1<=min (gR x.tr).2.1 (jl x)then((gR x.tr).1,min (gR x.tr).2.1 (jl x),true)else(0,0,false))
noncomputable def ei(R:Tr)(c:Nm)(a:Int):Int×Int×Bool:=match tAt R c a with | none=>(0,0,false) | some x=>sG x
abbrev aa1(s:Int×Int×Bool):Value:=.tuple #[.int .i64 s.1,.int .i64 s.2.1,.bool s.2.2]
theorem q_SpanN(h:TM w t m E)(hl:atE E c a=none):
  AC AB 43 #[ptB t,.string c,.int .i64 a] w λe w'=>e= .returned (.tuple #[.int .i64 0,.int .i64 0,.bool false])/\mBw w w':=by
 have C:=sw h c a;rw[hl]at C
 change AC _ _ _ _ (λe w'=>e= .returned (.pointer none)/\w'=_)at C
 clear h hl;go_enter Tryz.func43,Tryz.ntmps43
 go_wp2_with (go_at_call 90;refine C.mono ?_;rintro e w' ⟨rfl,F⟩;obtain rfl:=F.symm)
 go_ret3
 exact⟨rfl,AF _ _⟩
theorem q_SpanI(h:TM w t m E)(hE:TOk (trE E))(hl:atE E c a=some l):
  AC AB 43 #[ptB t,.string c,.int .i64 a] w λe w'=>e= .returned (aa1 (sG l.x))/\Bi w.heap.size w w':=by
 have F:=sw h c a;rw[hl]at F
 change AC _ _ _ _ (λe w'=>e= .returned (ptB l.b)/\w'=_)at F
 obtain⟨ch,aa,ab,hL⟩:=lp h hl;have ao:=hE.good _ (cE.2 ⟨ch,(cD aa).1,l,ab,rfl⟩);have am:=hE.tm _ (cE.2 ⟨ch,(cD aa).1,l,ab,rfl⟩);have C:=k_Span hL.trk (AD ao.len it);have ay:=hL.un;have aq:=hL.fr;have ak:=hL.st;have ar:=hL.tp;have au: -1<=l.x.un/\l.x.un<=1099511627776:=by have:=am.1;have:=am.2.2;unfold bC at this;simp only at *;omega
 obtain⟨e,he⟩:∃e,e=jl l.x:=⟨_,rfl⟩;obtain⟨s,hs⟩:∃s,s=gR l.x.tr:=⟨_,rfl⟩;rw[<-hs]at C;have I:=AA (show sG l.x=if l.x.st then(l.x.fr,e,true)else(if s.2.2=true/\s.1<=min s.2.1 e then(s.1,min s.2.1 e,true)else(0,0,false))by rw[he,hs];rfl);unfold jl at he;obtain⟨J,V,Y⟩:=s;simp only at C I;generalize sG l.x=S at *;clear h hl hL hE aa ab ao am hs;generalize l.b=lb at *;generalize l.g=lg at *;generalize l.x.fr=fr at *;generalize l.x.un=un at *;generalize l.x.st=st at *;have key:∀(ap:Bool)(J V:Int)(Y:Bool),AC AB 100 (.pointer (some ⟨lg,0,none⟩)::[]).toArray w (λe w'=>e= .returned (.tuple #[.int .i64 J,.int .i64 V,.bool Y])/\Bi w.heap.size w w')->w.cell? ⟨lb,4,none⟩=some (.bool ap)->
   S=(if ap then(fr,e,true)else(if Y=true/\J<=min V e then(J,min V e,true)else(0,0,false)))->(un= -1->e=1099511627776)->(un≠ -1->e=un - 1)->AC AB 43 #[ptB t,.string c,.int .i64 a] w λe w'=>e= .returned (aa1 S)/\Bi w.heap.size w w':=by
  clear C ak I J V Y he st;intro st J V Y C ak an h1 h2;have I:=AA an;clear an;by_cases hu:un= -1
  ·obtain rfl:=h1 hu;subst hu;clear h1 h2
   cases st with
   | true=>
    go_enter Tryz.func43,Tryz.ntmps43
    go_wp2_with (go_at_call 90;refine F.mono ?_;rintro e w' ⟨rfl,G⟩;obtain rfl:=G.symm)
    go_ret3
    rw[I.out];exact⟨rfl,AF _ _⟩
   | false=>
    go_enter Tryz.func43,Tryz.ntmps43
    go_upto_region 11 with(first
     | (go_at_call 90;refine F.mono ?_;rintro e w' ⟨rfl,G⟩;obtain rfl:=G.symm)
     | (go_at_call 100;refine C.mono ?_;rintro e w2 ⟨rfl,k2⟩;have Z:=AA k2;clear k2))
    clear F C;obtain⟨U,K⟩:∃U,min V 1099511627776=U:=⟨_,rfl⟩;rw[K]at I⊢;clear K
    cases Y with
    | false=>
     go_wp2;go_ret3
     rw[I.out];exact⟨rfl,Z.out⟩
    | true=>
     by_cases hm:J<=U
     ·have ac:decide (U<J)=false:=decide_eq_false no;have HM:=AA hm;clear hm;go_wp2;go_ret3
      rw[I.out,if_neg Ad,if_pos (by simpa using HM.out)];exact⟨rfl,Z.out⟩
     ·have ac:decide (U<J)=true:=decide_eq_true no;have HM:=AA hm;clear hm;go_wp2;go_ret3
      rw[I.out,if_neg Ad,if_neg (by have:=HM.out;simp;omega)];exact⟨rfl,Z.out⟩
  ·obtain rfl:=h2 hu;have av:(un== -1)=false:=beq_eq_false_iff_ne.2 hu;have ax:Be.wrap (un - 1)=un - 1:=by rw[Ci];omega
   clear h1 h2 hu
   cases st with
   | true=>
    go_enter Tryz.func43,Tryz.ntmps43
    go_wp2_with (go_at_call 90;refine F.mono ?_;rintro e w' ⟨rfl,G⟩;obtain rfl:=G.symm)
    go_ret3
    rw[I.out];exact⟨rfl,AF _ _⟩
   | false=>
    go_enter Tryz.func43,Tryz.ntmps43
    go_upto_region 11 with(first
     | (go_at_call 90;refine F.mono ?_;rintro e w' ⟨rfl,G⟩;obtain rfl:=G.symm)
     | (go_at_call 100;refine C.mono ?_;rintro e w2 ⟨rfl,k2⟩;have Z:=AA k2;clear k2))
    clear F C;obtain⟨U,K⟩:∃U,min V (un - 1)=U:=⟨_,rfl⟩;rw[K]at I⊢;clear K
    cases Y with
    | false=>
     go_wp2;go_ret3
     rw[I.out];exact⟨rfl,Z.out⟩
    | true=>
     by_cases hm:J<=U
     ·have ac:decide (U<J)=false:=decide_eq_false no;have HM:=AA hm;clear hm;go_wp2;go_ret3
      rw[I.out,if_neg Ad,if_pos (by simpa using HM.out)];exact⟨rfl,Z.out⟩
     ·have ac:decide (U<J)=true:=decide_eq_true no;have HM:=AA hm;clear hm;go_wp2;go_ret3
      rw[I.out,if_neg Ad,if_neg (by have:=HM.out;simp;omega)];exact⟨rfl,Z.out⟩
 exact key st J V Y C ak I.out (λh=>by rw[he,if_pos h]) (λh=>by rw[he,if_neg h])
theorem q_Span(h:TM w t m E)(C:TOk (trE E))(c:Nm)(a:Int):
  AC AB 43 #[ptB t,.string c,.int .i64 a] w λe w'=>e= .returned (aa1 (ei (trE E) c a))/\mBw w w':=by
 unfold ei;rw[<-h.tAt]
 cases hl:atE E c a with
 | none=>exact q_SpanN h hl
 | some l=>exact q_SpanI h C hl
section
open Go.RowKit Go.MapKept
open Classical
def eu(q:Nm×Lk):List Value:=[.string q.1,.string q.2.par,.int .i64 q.2.fr,.int .i64 q.2.un]
noncomputable def gB(R:Tr)(L:List Nm):List (Nm×Lk):=L.flatMap λc=>(lks R c).map λx=>(c,x)
abbrev io(w:World)(v:Value)(l:List (Nm×Lk)):Prop:=aX w 76 4 v l.length (l.flatMap eu)
theorem qA{q:Nm×Lk}:∀u∈eu q,u.oneCell'=true/\noU u:=λu C=>by
 simp only[eu,AS,Dt,or_false]at C;rcases C with rfl | rfl | rfl | rfl<;>exact⟨rfl,λn e=>by cases e⟩
theorem lnk_app{l:List (Nm×Lk)}{x:Nm×Lk}{ty:TypeId}(h:io w v l)(hl:l.length<=2000)(C:∀j u,(eu x)[j]? =some u->w.cell? ((⟨g,0,none⟩:AU).add j)=some u)(hb:Bi B w0 w)(G:B<=w.heap.size)(I:∀g,v.ownBlock=some g->B<=g):
  ∃v' w',(BM #[73,73] ty #[v,.slice (some ⟨g,0,none⟩) 1 1]).run AB w= .ok v' w'/\io w' v' (l++ [x])/\Bi B w0 w'/\∀g,v'.ownBlock=some g->B<=g:=by
 obtain⟨v',w',K,k2,k3,U⟩:=jY (p:=AB) (ty:=ty) (c:=1) (m:=1) (sz:=4) (bytes:=48) Tryz.underlying73 Aa h rfl C (λu F=>(qA u F).1) (λu F=>(qA u F).2) it no no;refine⟨v',w',K,?_,hb.grown k2 G (λk J=>I k J),λg C=>(k3 g C).elim (I g) (λh=>AD G h)⟩;show aX w' _ 4 v' (l++ [x]).length _;rw[Bh,DB,show [x].flatMap eu=eu x by simp];exact U
theorem E_len(h:TM w t m E)(I:TSm (trE E)):E.length<=24:=by
 obtain⟨n,hn,l,h1,h2,rfl⟩:=I.cnt;rw[<-Cg (f:=(·.c))];refine AD (iN h.keys (λx J=> ?_)) hn;obtain⟨ch,C,rfl⟩:=Ba.1 J;have G:=(h.rows ch C).ne;obtain⟨ln,F⟩:=F1 _ G;exact(h2 _).2 ⟨_,cE.2 ⟨ch,C,ln,F,rfl⟩,.inl rfl⟩
theorem om{R:Tr}(C:TSm R):∀ {L:List Nm},(gB R L).length<=L.length*64
 | []=>AY _
 | c::L=>by
  have h1:=C.per c;have h2:=om C (L:=L);have e:gB R (c::L)=(lks R c).map (λx=>(c,x))++gB R L:=rfl;rw[e,Bh,Cg,Bg,Nat.add_mul];omega
theorem zD(R:Tr)(L:List Nm)(c:Nm):gB R (L++ [c])=gB R L++(lks R c).map λx=>(c,x):=by
 unfold gB;rw[DB];simp
theorem q_keysL(h:TM w t m E)(Z:TSm (trE E))(hn:∀x,aC (trE E) x->x.size<=maxLen):
  (AC AB 91 #[.map (some m)] w λe w'=>e= .returned (.func (.func 154) #[] #[.pointer (some ⟨w.heap.size,0,none⟩)])/\w'=w.alloc (.cells #[.map (some m)] mpT))/\
  AC AB 87 #[.func (.func 154) #[] #[.pointer (some ⟨w.heap.size,0,none⟩)]] (w.alloc (.cells #[.map (some m)] mpT)) λe w'=>∃v L,e= .returned v/\aZ w' w.heap.size v L/\L.Perm (E.map (·.c))/\L.Nodup/\L.Pairwise zC/\mBw w w':=by
 have aa:(1000000:Nat)<=maxLen:=by unfold maxLen;omega
 have K:=E_len h Z;obtain⟨D,J,hp,hz⟩:=dF.owns (P:=AB) (k:=9) h.mp Aa (by rw[Cg];omega) (λp hp=>by
  obtain⟨ch,C,rfl⟩:=Ba.1 hp;obtain⟨ln,I⟩:=F1 _ (h.rows ch C).ne;exact hn _ ⟨_,cE.2 ⟨ch,C,ln,I,rfl⟩,.inl rfl⟩)
 rw[Cg]at J hz;refine⟨callsIn_wide.1 (Tryz.maps_Keys_L (some m) w),(callsIn_wide.1 (Tryz.slices_Sorted_keys_L m E.length D Re0 w J no no)).mono ?_⟩;rintro e w' ⟨v,ss,rfl,G,F,U,hb⟩;obtain⟨L,h1,h2,h3,V,Y⟩:=oH (dF.nodup h.mp) hp G;rw[CE]at h3;refine⟨v,L,rfl,?_,h3,V,Y,((AF _ w).alloc (AE _) _).trans (hb.mono (by rw[asz];omega))⟩;show w'.ownsRow w.heap.size 9 1 v L.length (L.map Bb);rw[<-h1,h2];exact EW F (by rw[asz];omega)
set_option maxHeartbeats 2000000 in
theorem q_Links(h:TM w t m E)(hE:Sane (trE E)):AC AB 35 #[ptB t] w λe w'=>∃v L,e= .returned v/\io w' v (gB (trE E) L)/\L.Perm (E.map (·.c))/\L.Nodup/\L.Pairwise zC/\(∀g,v.ownBlock=some g->w.heap.size<=g)/\mBw w w':=by
 obtain⟨a4,a5⟩:=q_keysL h hE.sm (λx hx=>hE.short hx);have a6:=a5.mono (show∀e w',_->∃ad n cap,∃L:List Nm,e= .returned (.slice ad n cap)/\Hid (aZ w' w.heap.size (.slice ad n cap) L/\n=L.length/\L.Perm (E.map (·.c))/\L.Nodup/\L.Pairwise zC/\mBw w w')from by
  rintro e w' ⟨v,L,rfl,h1,h2,h3,h4,Z⟩;obtain⟨ad,cap,rfl⟩:=cL h1;exact⟨ad,_,cap,L,rfl,AA ⟨h1,rfl,h2,h3,h4,Z⟩⟩)
 have h1:=h.cell;have H:=AA h;have HS:=AA hE;clear h hE a5;go_enter Tryz.func35,Tryz.ntmps35
 go_wp2_with (first
  | (go_at_call 91;refine a4.mono ?_;rintro e w2 ⟨rfl,rfl⟩)
  | (go_at_call 87;refine a6.mono ?_;rintro e w3 ⟨ad,n,cap,L,rfl,U⟩))
 clear a4 a6;have b8:n<=24:=by rw[U.out.2.1,U.out.2.2.1.length_eq,Cg];exact E_len H.out HS.out.sm
 go_loopw [3,17] (λs3 an wr=>∃(k:Nat),k<=n/\an= .int .i64 (k:Int)/\Hid (io wr s3 (gB (trE E) (L.take k)))/\Hid (∀g,s3.ownBlock=some g->w3.heap.size<=g)/\Hid (mBw w3 wr)) (λ_ an _=>n - (intOf an).toNat)
 case atStart=>exact⟨0,AY _,rfl,AA (by rw[List.take_zero];exact⟨World.ownsRow_nil _ _ _ _,λg K=>by cases K⟩),AA (λg K=>by cases K),AA (AF _ _)⟩
 case round=>
  obtain⟨k,hk,rfl,J,Y,F⟩:=hrel;rcases Bc k n with b1 | b0
  ·obtain⟨c,hc⟩:∃c,L[k]? =some c:=⟨_,AJ (by rw[<-U.out.2.1];exact b1)⟩;obtain⟨g,K,a1⟩:=cQ (by have:=U.out.1;unfold aZ at this;rw[<-U.out.2.1]at this;exact this) (show(L.map Bb)[k]? =some (.string c)by rw[Bp,hc];rfl);have a3:=(bV U.out.1 (g:=g) (by rw[K];rfl)).2;subst K;have bO:wr.cell? ⟨g,k,none⟩=some (.string c):=by rw[F.out.cell (p:=⟨g,k,none⟩) a3];exact a1
   have ac:=U.out.2.2.2.2.2;have hT:=(H.out.below ac).below F.out
   cases hch:chE E c with
   | none=>
    obtain⟨ch,h2,h3⟩:=Ba.1 ((U.out.2.2.1.mem_iff).1 (A0 hc));exact absurd h3 (wQ hch h2)
   | some ch=>
    have h4:=hT.cell;have Z:=hT.look c;have ab:=hT.chAt hch;have b2:(ch.ls.length:Int)<=9223372036854775807:=by have:=ab.le;have:=ab.cap;unfold maxLen at this;omega
    have au:(Instr.lookup mpT (.map (some m)) (.string c) false).run AB wr= .ok (.slice (some ⟨ch.rb,0,none⟩) ch.ls.length ch.cap) wr:=by rw[Z];unfold mK;rw[hch];rfl
    have ak:lks (trE E) c=ch.ls.map (·.x):=by rw[ji H.out.keys];unfold lsE;rw[hch];rfl
    have bi:=AA ak;have HC:=AA hc;have ap:=AA hch;have bp:=AA (show∀wq:World,mBw w3 wq->TM wq t m E from λwq k=>(H.out.below ac).below k);have av:=HS.out.sm.per c;rw[ak,Cg]at av;obtain⟨n2,am⟩:∃n2,n2=ch.ls.length:=⟨_,rfl⟩;rw[<-am]at au b2 av;have aq:=AA am;clear Z ab hT ak hc hch am ac a1 a3;go_wp2;go_loopw [3,28] (λs3 ao wq=>∃(j:Nat),j<=n2/\ao= .int .i64 (j:Int)/\Hid (io wq s3 (gB (trE E) (L.take k)++(ch.ls.take j).map λl=>(c,l.x)))/\Hid (∀g,s3.ownBlock=some g->w3.heap.size<=g)/\Hid (mBw w3 wq)) (λ_ ao _=>n2 - (intOf ao).toNat)
    case atStart=>exact⟨0,AY _,rfl,by rw[List.take_zero,BS,List.append_nil];exact J,Y,F⟩
    case round=>
     clear J Y F h4 au bO;obtain⟨j,hj,rfl,J,Y,F⟩:=hrel;rcases Bc j n2 with a7 | b0
     ·obtain⟨ln,V⟩:∃ln,ch.ls[j]? =some ln:=⟨_,AJ (by rw[<-aq.out];exact a7)⟩;have hT:=bp.out wr F.out;have b9:=(hT.chAt ap.out).cell V;have I:=hT.ln ap.out (A0 V);have a9:wr.rangeAt ln.b 0 (eu (c,ln.x)):=λi v C=>by
       rw[A5]
       match i,C with
       | 0,C=>injection C with C;subst C;exact I.cellv rfl
       | 1,C=>injection C with C;subst C;exact I.par
       | 2,C=>injection C with C;subst C;exact I.fr
       | 3,C=>injection C with C;subst C;exact I.un
       | i+4,C=>simp[eu]at C
      have a2:∀(i:Nat)(u:Value),(eu (c,ln.x))[i]? =some u->(wr.alloc (.cells (eu (c,ln.x)).toArray 76)).cell? ((⟨wr.heap.size,0,none⟩:AU).add i)=some u:=λi u hu=>by
       rw[bM,A5,aH (Bm wr _)];simpa using hu
      have G:(gB (trE E) (L.take k)++(ch.ls.take j).map λl=>(c,l.x)).length<=2000:=by
       have h1:=om HS.out.sm (L:=L.take k);rw[A9]at h1;rw[Bh,Cg,A9];omega
      obtain⟨v5,w5,aa,a0,ax,ay⟩:=lnk_app (ty:=73) (x:=(c,ln.x)) (J.out.keep (w':=wr.alloc (.cells (eu (c,ln.x)).toArray 76)) (λg K=>heap_alloc_old wr _ (bV J.out.1 K).2)) G a2 (F.out.alloc F.out.size _) (by rw[asz];have:=F.out.size;omega) Y.out;have bz:=AA (show io w5 v5 (gB (trE E) (L.take k)++(ch.ls.take (j+1)).map λl=>(c,l.x))by
       rw[El,V,List.map_append,<-List.append_assoc];exact a0)
      have bb:=AA ax;have bq:=AA ay;have ar:=AA aa;have bt:=AA a9;clear a0 ax ay a2 aa G a9 I hT V J Y F;generalize ln.b=lb at *;generalize ln.x=x at *;go_upto_region 10 with(fail)
      refine Bn ?_;refine ae rfl (v:=u3) (w':=wr) Af ?_;refine ae rfl (v:=ptB lb) (w':=wr) Af ?_;refine ae rfl (v:=ptB lb) (w':=wr) Ah ?_;refine ae rfl (v:=ptB lb) (w':=wr) Ah ?_;refine Dp rfl _ _ rfl lb 0 rfl (eu (c,x)) _ bt.out Tryz.underlying76 rfl Aa ?_;refine ae rfl (v:=.slice (some ⟨wr.heap.size,0,none⟩) 1 1) (w':=wr.alloc (.cells (eu (c,x)).toArray 76)) (by unfold eu;go_simp) ?_;refine jk rfl rfl rfl rfl ar.out ?_;go_wp2;go_roundw
      case rel=>exact⟨j+1,no,by go_num,bz,bq,bb⟩
      case measure=>simp[intOf];omega
     ·obtain rfl:j=n2:=no
      have be:=AA (show io wr u3 (gB (trE E) (L.take (k+1)))by
       have h1:=J.out;rw[El,HC.out,Option.toList_some,zD,bi.out];rw[aq.out,EN]at h1;rw[CE];exact h1)
      clear J;go_wp2;go_roundw
      case rel=>exact⟨k+1,no,by go_num,be,Y,F⟩
      case measure=>simp[intOf];omega
  ·obtain rfl:k=n:=no
   have HQ:=AA (show∃v L',BF u3= .returned v/\io wr v (gB (trE E) L')/\L'.Perm (E.map (·.c))/\L'.Nodup/\L'.Pairwise zC/\(∀g,v.ownBlock=some g->w.heap.size<=g)/\mBw w wr from by
    obtain⟨_,h1,h2,h3,h4,Z⟩:=U.out;have h6:=J.out;rw[h1,EN]at h6;exact⟨u3,L,rfl,h6,h2,h3,h4,λg K=>AD Z.size (Y.out g K),Z.trans (F.out.mono Z.size)⟩)
   clear F J Y;go_wp2;go_ret;exact HQ.out
end
section
open Classical
theorem flat4:∀ {l:List (Nm×Lk)} {i j:Nat} {q:Nm×Lk},l[i]? =some q->j<4->(l.flatMap eu)[i*4+j]? =(eu q)[j]?
 | [],i,j,q,h,_=>by cases h
 | p::l,0,j,q,h,hj=>by
  simp only[Ec,A3.injEq]at h;subst h;rw[Cw,Bz (by show 0*4+j<4;omega),Nat.zero_mul,A5]
 | p::l,i+1,j,q,h,hj=>by
  rw[Cw,Bv (by show 4<=(i+1)*4+j;omega)];have e:(i+1)*4+j - (eu p).length=i*4+j:=by show(i+1)*4+j - 4=_;omega
  rw[e];exact flat4 Au hj
end
end Go.Proofs.YtggfmklppkioeaaGreat
