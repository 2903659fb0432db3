/- Steps of plain regions over acts of which some slots are known. -/
import Derived.Test.YtggfmklppkioeaaGreatL07
import Derived.WalkKit
import Derived.Tactics
import Derived.Deep.MidRow
import Derived.Deep.Quiet
import Derived.Deep.Cut
import Derived.Laws.ResultCell
import Derived.Shelf.SlIter.Nil
import Derived.Shelf.SortM.Plain
import Derived.Shelf.SortM.SortNone
import Derived.Ground.GgzProg
import Derived.Ground.SlgmProg
namespace Go.Proofs.YtggfmklppkioeaaGreat
set_option linter.unusedSimpArgs false
set_option linter.unusedVariables false
set_option maxRecDepth 100000
open Go.RowKit
open _root_.Go renaming Addr → A0,Calls → AF,Ending → By,Exit → A8,Operand → AS,Program → AZ,TypeDesc → D6,all_oneCell_toArray → Dt,bodyPost_ret → Ba,heap_alloc_new → Bs,results_tmp3 → FC,wpList_load_mid → Du,wpList_plain → BC,wp_block → Cr,wp_region_list → Bn,wp_ret → Cs,wp_seq → BQ
open _root_.Go.RowKit renaming Below → AW
open _root_.Go.Proofs renaming ownsRow_base_a → E4
open _root_.And renaming intro → BA
open _root_.Array renaming getElem?_eq_some_iff → A2,toArray_toList → EF
open _root_.Go.RowKit.Below renaming heap_alloc → Fx,refl → AH
open _root_.Bool renaming and_eq_true → BU
open _root_.Go.Builtin renaming append_ → BT
open _root_.ByteArray renaming empty → BZ,toList → Fp
open _root_.Go.Code renaming region → Dj
open _root_.Go.DataW renaming trod_int → Dr
open _root_.Go.Ending renaming returned → BF
open _root_.Go.Exit renaming inBlock → Eo
open _root_.Go.Fence renaming wide → Ce
open _root_.Go.WideElems renaming rg → FR
open _root_.Go.Instr renaming buildSlice → Eg,fieldAt → Fe,index → Ef,indexAt → Fd,loadAt → CX,slice → D4,storeAt → EE,sureAddr → DZ
open _root_.Go.IntKind renaming i64 → Bf,signed → Fh,wrap_i64 → Cf
open _root_.Go.Lib renaming hid → AE
open _root_.List renaming all_eq_true → Cc,eq_nil_of_length_eq_zero → CG,getElem?_drop → Cw,getElem?_eq_getElem → AM,getElem?_eq_some_iff → A1,getElem?_map → Bp,getElem?_of_mem → Dn,getElem?_range → Et,getElem?_take → BJ,getElem_of_mem → BL,length_cons → Bh,length_drop → CB,length_map → Cj,map_cons → Bq,map_map → CF,map_nil → BS,map_toArray → CJ,mem_append → AJ,mem_cons → AY,mem_cons_self → Bo,mem_flatMap → Br,mem_of_getElem? → A5,range → Bm,size_toArray → BW
open _root_.Nat renaming add_assoc → C3,le_refl → AI,le_trans → AG,lt_of_lt_of_le → Bv,lt_or_ge → Bg,not_lt_zero → Dd,zero_add → A7,zero_le → A3
open _root_.Go.Oper renaming wp → Bk
open _root_.Option renaming bind_some → EI,map_some → BG,some → A4
open _root_.Go.Region renaming ready → BK,wanted → A6
open _root_.Go.Result renaming andThen → AU,andThen_ok → CM
open _root_.Go.Sem renaming run_bind → AK,run_pure → Bu
open _root_.Go.Proofs.Tryz renaming func186 → ET,func39 → C0,func55 → EO,prog → AD,underlying0 → Fu,underlying120 → En,underlying39 → CD,underlying4 → DI,underlying5 → Dq,underlying68 → DJ,underlying9 → DG,zeroValue0 → Fv,zeroValue4 → FQ,zeroValue9 → Fw
open _root_.Go.Value renaming int → AN,string → Bc
open _root_.Go.World renaming frozen? → Dp
def evK(l:List (Nat×Value)):AS->Option Value
 | .tmp i=>look i l
 | .const v=>some v
 | .global g=>some (.pointer (some ⟨g,0,none⟩))
 | .func f=>some (.func (.func f) #[] #[])
def wh(l:List (Nat×Value)):List AS->Option (List Value)
 | []=>some []
 | x::xs=>(evK l x).bind λv=>(wh l xs).map (v:: ·)
section
variable {P:AZ} {ops:Array Oper} {Q:A8->Act->World->Prop} {n d e i j:Nat} {o oj:Oper} {v u vx vy:Value} {l:List (Nat×Value)} {a:Act} {w w':World} {rest:List Oper} {x y z:AS} {b:Bool} {nx:Next}
theorem Kn.evx(h:Kn n l a)(e:evK l x=some v):a.eval x=v:=by
 cases x with
 | tmp i=>exact h.ev e
 | const c=>injection e
 | global g=>injection e
 | func f=>injection e
theorem Kn.args(h:Kn n l a):∀ {xs:List AS} {vs:List Value},wh l xs=some vs->xs.map a.eval=vs
 | [],vs,e=>by injection e
 | x::xs,vs,e=>by
  unfold wh at e
  cases hx:evK l x with
  | none=>rw[hx]at e;cases e
  | some v=>
   cases hy:wh l xs with
   | none=>rw[hx,hy]at e;cases e
   | some us=>
    rw[hx,hy]at e;injection e with e;rw[Bq,h.evx hx,h.args hy];exact e
theorem bf(n:Nat){c:Code}(l:List (Nat×Value))(h:∀ {a'},Kn n l a'->c.wp P Q a' w)(h1:a.tmps.size=n:=by rfl)(h2:a.defers=[]:=by rfl)(h3:allK a l:=by repeat (first | exact trivial | refine⟨rfl,?_⟩)):c.wp P Q a w:=h (Kn.mk0 h1 h2 h3)
theorem Kn.ct{l':List (Nat×Value)}(h:Kn n l a)(k:allL l l':=by repeat (first | exact trivial | refine⟨rfl,?_⟩)):Kn n l' a:=h.cut k
theorem eV(h:o.guard=none):A6 o (yielded ops a.tmps)=true:=ah h
theorem fS(G:Kn n l a)(h:o.guard=some (j,b))(F:ops[j]? =some oj)(C:oj.dst=some d)(H:look d l=some (.bool b)):A6 o (yielded ops a.tmps)=true:=by
 have:=G.at' d _ H;simp[A6,h,yielded,F,C,this]
theorem wanN{c:Bool}(G:Kn n l a)(h:o.guard=some (j,b))(F:ops[j]? =some oj)(C:oj.dst=some d)(H:look d l=some (.bool c))(hn:(c==b)=false):A6 o (yielded ops a.tmps)=false:=by
 have:=G.at' d _ H;simp only[A6,h,yielded,F,C,this,EI];simpa using hn
theorem wl(H:A6 o (yielded ops a.tmps)=true)(G:Kn n l a)(F:o.dst=some d)(hn:d<n)(hy:(execOp a.eval o).run P w= .ok (.value v) w')(h:∀a',Kn n ((d,v)::l) a'->wpList P ops Q rest a' w'):wpList P ops Q (o::rest) a w:=
 wpList_step λK C=>by
  rw[if_pos H];unfold Bk;rw[hy,Oper.upon_value,F];exact C _ _ (h _ (G.put hn))
theorem wl0(H:A6 o (yielded ops a.tmps)=false)(G:Kn n l a)(F:o.dst=some d)(hn:d<n)(h:∀a',Kn n ((d,undef)::l) a'->wpList P ops Q rest a' w):wpList P ops Q (o::rest) a w:=
 wpList_step λK C=>by
  rw[if_neg (by rw[H];simp),F];exact C _ _ (h _ (G.put hn))
theorem wls(H:A6 o (yielded ops a.tmps)=true)(G:Kn n l a)(F:o.dst=none)(hy:(execOp a.eval o).run P w= .ok .skip w')(h:∀a',Kn n l a'->wpList P ops Q rest a' w'):wpList P ops Q (o::rest) a w:=
 wpList_step λK C=>by
  rw[if_pos H];unfold Bk;rw[hy,Oper.upon_skip,F];exact C _ _ (h _ G)
variable{R:By->World->Prop}{f:FuncId}
theorem wlc{args:Array Value}(J:A6 o (yielded ops a.tmps)=true)(H:Kn n l a)(G:o.dst=some d)(hn:d<n)(hy:(execOp a.eval o).run P w= .ok (.enter f args) w)(C:AF P f args w R)
  (h:∀e w',R e w'->∃v,e= .returned v/\∀a',Kn n ((d,v)::l) a'->wpList P ops Q rest a' w'):wpList P ops Q (o::rest) a w:=
 wpList_step λK F=>by
  rw[if_pos J];unfold Bk;rw[hy];refine C.mono (λe w' I=> ?_);obtain⟨v,rfl,h2⟩:=h e w' I;show K (a.put o.dst v) w';rw[G];exact F _ _ (h2 _ (H.put hn))
theorem wln(h:Q .normal a w):wpList P ops Q [] a w:=h
theorem jY(C:Kn n l a)(F:o.op= .move x)(G:evK l x=some v):(execOp a.eval o).run P w= .ok (.value v) w:=by
 unfold execOp;simp only[F];rw[C.evx G];rfl
theorem ju(C:Kn n l a)(F:o.op= .assign x)(G:evK l x=some v):(execOp a.eval o).run P w= .ok (.value v) w:=by
 unfold execOp;simp only[F];rw[C.evx G];rfl
theorem jZ{vs:Array Value}(C:Kn n l a)(F:o.op= .extract x i)(H:evK l x=some (.tuple vs))(G:vs[i]? =some v):(execOp a.eval o).run P w= .ok (.value v) w:=by
 unfold execOp;simp only[F];rw[C.evx H];simp[Instr.extract,G,AK]
theorem lG{p:A0}(C:Kn n l a)(F:o.op= .nilCheck x)(G:evK l x=some (.pointer (some p))):(execOp a.eval o).run P w= .ok (.value (.pointer (some p))) w:=by
 unfold execOp;simp only[F];rw[C.evx G];rfl
theorem yY(C:Kn n l a)(G:o.op= .pick z x y)(hz:evK l z=some (.bool b))(F:evK l (if b then x else y)=some v):(execOp a.eval o).run P w= .ok (.value v) w:=by
 unfold execOp;simp only[G];rw[C.evx hz];cases b<;>(simp only[Bool.false_eq_true,if_false,if_true]at F;have:=C.evx F;simp[asBool,AK,this])
variable{t:TypeId}
theorem acv(C:Kn n l a)(F:o.op= .unOp .not t x)(G:evK l x=some (.bool b)):(execOp a.eval o).run P w= .ok (.value (.bool (!b))) w:=by
 unfold execOp;simp only[F];rw[C.evx G];simp[Op.unary,AK]
variable{s:TypeId}
theorem kx_b{op:BinOp}(C:Kn n l a)(F:o.op= .binOp op t x y s)(G:evK l x=some vx)(hy:evK l y=some vy)(hr:(do eqGuard op t x y vx vy;binOp op t vx vy:Sem Value).run P w= .ok v w):(execOp a.eval o).run P w= .ok (.value v) w:=by
 unfold execOp;simp only[F];rw[C.evx G,C.evx hy];simp only[AK]at hr⊢;rw[hr];rfl
theorem kx_cv(C:Kn n l a)(F:o.op= .convert t s x)(G:evK l x=some vx)(hr:(convert t s vx).run P w= .ok v w):(execOp a.eval o).run P w= .ok (.value v) w:=by
 unfold execOp;simp only[F];rw[C.evx G];simp only[AK,hr];rfl
theorem kx_ia(C:Kn n l a)(F:o.op= .indexAddr t x y)(G:evK l x=some vx)(hy:evK l y=some vy)(hr:(Instr.indexAt t vx vy).run P w= .ok v w):(execOp a.eval o).run P w= .ok (.value v) w:=by
 unfold execOp;simp only[F];rw[C.evx G,C.evx hy];simp only[Sem.run_bind,hr];rfl
theorem kx_fa(C:Kn n l a)(F:o.op= .fieldAddr t x i)(G:evK l x=some vx)(hr:(Fe t vx i).run P w= .ok v w):(execOp a.eval o).run P w= .ok (.value v) w:=by
 unfold execOp;simp only[F];rw[C.evx G];simp only[AK,hr];rfl
theorem uw(C:Kn n l a)(F:o.op= .load t x)(G:evK l x=some vx)(hr:(CX t vx).run P w= .ok v w):(execOp a.eval o).run P w= .ok (.value v) w:=by
 unfold execOp;simp only[F];rw[C.evx G];simp only[AK,hr];rfl
theorem kT(C:Kn n l a)(F:o.op= .store t x y)(G:evK l x=some vx)(hy:evK l y=some vy)(hr:(EE t vx vy).run P w= .ok () w'):(execOp a.eval o).run P w= .ok .skip w':=by
 unfold execOp;simp only[F];rw[C.evx G,C.evx hy];simp only[AK,hr];rfl
theorem yZ(C:o.op= .alloc t)(hr:(Instr.alloc t true (.tuple #[])).run P w= .ok v w'):(execOp a.eval o).run P w= .ok (.value v) w':=by
 unfold execOp;simp only[C];simp only[AK,hr];rfl
variable{vs:List Value}
theorem dN{c:Call}(F:Kn n l a)(G:o.op= .call c)(hc:c.callee= .value (.func f))(H:wh l c.args.toList=some vs)(C:∀args w,(callFunc f args).run P w= .ok (.enter f args) w):(execOp a.eval o).run P w= .ok (.enter f vs.toArray) w:=by
 have h1:c.args.map a.eval=vs.toArray:=by rw[<-F.args H,<-Array.toList_map,EF]
 have h2:a.eval (.func f)= .func (.func f) #[] #[]:=rfl;unfold execOp;simp only[G,resolve,hc,h1,h2,Deferred.ofValue,AK,Bu,CM,invoke];simpa using C vs.toArray w
theorem ol(C:Kn n l a)(F:o.op= .call {callee:=.builtin .append,args:=#[x,y],argTypes:=#[t,t]})(G:evK l x=some vx)(hy:evK l y=some vy)(hr:(BT #[t,t] o.type #[vx,vy]).run P w= .ok v w'):(execOp a.eval o).run P w= .ok (.value v) w':=by
 have h1:=C.evx G;have h2:=C.evx hy;unfold execOp;simp only[F,resolve,invoke,builtin,AK,Bu,CM,CJ,Bq,BS,h1,h2,hr]
theorem wS(F:Kn n l a)(h:∀ {a'},Kn n ((d,v)::l) a'->wpList P ops Q rest a' w)(C:o.dst=some d:=by rfl)(hn:d<n:=by decide)(G:A6 o (yielded ops a.tmps)=true:=by first | exact eV rfl | exact fS (by assumption) rfl rfl rfl rfl)
  (hy:(execOp a.eval o).run P w= .ok (.value v) w:=by first | exact jY (by assumption) rfl rfl | exact ju (by assumption) rfl rfl | exact lG (by assumption) rfl rfl | exact jZ (by assumption) rfl rfl rfl | exact acv (by assumption) rfl rfl | exact yY (by assumption) rfl rfl rfl):wpList P ops Q (o::rest) a w:=wl G F C hn hy λ_=>h
theorem wZ(F:Kn n l a)(h:∀ {a'},Kn n ((d,undef)::l) a'->wpList P ops Q rest a' w)(C:o.dst=some d:=by rfl)(hn:d<n:=by decide)(G:A6 o (yielded ops a.tmps)=false:=by first | exact wanN (by assumption) rfl rfl rfl rfl rfl | exact wanU (by assumption) rfl rfl rfl rfl):wpList P ops Q (o::rest) a w:=wl0 G F C hn λ_=>h
theorem wF(C:Kn n l a)(v:Value)(h:∀ {a'},Kn n ((d,v)::l) a'->wpList P ops Q rest a' w)(F:o.dst=some d:=by rfl)(hn:d<n:=by decide)(G:o.op= .fieldAddr t x i:=by rfl)(I:evK l x=some vx:=by rfl)(hr:(Fe t vx i).run P w= .ok v w:=by go_simp)
  (H:A6 o (yielded ops a.tmps)=true:=by first | exact eV rfl | exact fS (by assumption) rfl rfl rfl rfl):wpList P ops Q (o::rest) a w:=wl H C F hn (kx_fa C G I hr) λ_=>h
theorem wI(C:Kn n l a)(v:Value)(h:∀ {a'},Kn n ((d,v)::l) a'->wpList P ops Q rest a' w)(F:o.dst=some d:=by rfl)(hn:d<n:=by decide)(G:o.op= .indexAddr t x y:=by rfl)(I:evK l x=some vx:=by rfl)(hy:evK l y=some vy:=by rfl)(hr:(Instr.indexAt t vx vy).run P w= .ok v w:=by go_simp)
  (H:Region.wanted o (yielded ops a.tmps)=true:=by first | exact eV rfl | exact fS (by assumption) rfl rfl rfl rfl):wpList P ops Q (o::rest) a w:=wl H C F hn (kx_ia C G I hy hr) λ_=>h
theorem wL(C:Kn n l a)(v:Value)(h:∀ {a'},Kn n ((d,v)::l) a'->wpList P ops Q rest a' w)(F:o.dst=some d:=by rfl)(hn:d<n:=by decide)(G:o.op= .load t x:=by rfl)(I:evK l x=some vx:=by rfl)(hr:(CX t vx).run P w= .ok v w:=by go_simp)
  (H:A6 o (yielded ops a.tmps)=true:=by first | exact eV rfl | exact fS (by assumption) rfl rfl rfl rfl):wpList P ops Q (o::rest) a w:=wl H C F hn (uw C G I hr) λ_=>h
theorem wB{op:BinOp}(C:Kn n l a)(v:Value)(h:∀ {a'},Kn n ((d,v)::l) a'->wpList P ops Q rest a' w)(F:o.dst=some d:=by rfl)(hn:d<n:=by decide)(G:o.op= .binOp op t x y s:=by rfl)(I:evK l x=some vx:=by rfl)(hy:evK l y=some vy:=by rfl)(hr:(do eqGuard op t x y vx vy;binOp op t vx vy:Sem Value).run P w= .ok v w:=by go_simp)
  (H:A6 o (yielded ops a.tmps)=true:=by first | exact eV rfl | exact fS (by assumption) rfl rfl rfl rfl):wpList P ops Q (o::rest) a w:=wl H C F hn (kx_b C G I hy hr) λ_=>h
theorem wV(C:Kn n l a)(v:Value)(h:∀ {a'},Kn n ((d,v)::l) a'->wpList P ops Q rest a' w)(F:o.dst=some d:=by rfl)(hn:d<n:=by decide)(G:o.op= .convert t s x:=by rfl)(I:evK l x=some vx:=by rfl)(hr:(convert t s vx).run P w= .ok v w:=by go_simp)
  (H:A6 o (yielded ops a.tmps)=true:=by first | exact eV rfl | exact fS (by assumption) rfl rfl rfl rfl):wpList P ops Q (o::rest) a w:=wl H C F hn (kx_cv C G I hr) λ_=>h
theorem wT(C:Kn n l a)(w':World)(h:∀ {a'},Kn n l a'->wpList P ops Q rest a' w')(F:o.dst=none:=by rfl)(G:o.op= .store t x y:=by rfl)(I:evK l x=some vx:=by rfl)(hy:evK l y=some vy:=by rfl)(hr:(EE t vx vy).run P w= .ok () w':=by go_simp)
  (H:A6 o (yielded ops a.tmps)=true:=by first | exact eV rfl | exact fS (by assumption) rfl rfl rfl rfl):wpList P ops Q (o::rest) a w:=wls H C F (kT C G I hy hr) λ_=>h
theorem wW(F:Kn n l a)(v:Value)(w':World)(hy:(execOp a.eval o).run P w= .ok (.value v) w')(h:∀ {a'},Kn n ((d,v)::l) a'->wpList P ops Q rest a' w')(C:o.dst=some d:=by rfl)(hn:d<n:=by decide)(G:A6 o (yielded ops a.tmps)=true:=by first | exact eV rfl | exact fS (by assumption) rfl rfl rfl rfl):wpList P ops Q (o::rest) a w:=wl G F C hn hy λ_=>h
theorem wY(F:Kn n l a)(v:Value)(hy:(execOp a.eval o).run P w= .ok (.value v) w)(h:∀ {a'},Kn n ((d,v)::l) a'->wpList P ops Q rest a' w)(C:o.dst=some d:=by rfl)(hn:d<n:=by decide)(G:A6 o (yielded ops a.tmps)=true:=by first | exact eV rfl | exact fS (by assumption) rfl rfl rfl rfl):wpList P ops Q (o::rest) a w:=wl G F C hn hy λ_=>h
theorem wC{c:Call}(C:Kn n l a)(H:∀args w,(callFunc f args).run P w= .ok (.enter f args) w)(F:AF P f vs.toArray w R)(h:∀ {e w'},R e w'->∃v,e= .returned v/\∀a',Kn n ((d,v)::l) a'->wpList P ops Q rest a' w')(G:o.dst=some d:=by rfl)(hn:d<n:=by decide)
  (I:o.op= .call c:=by rfl)(hc:c.callee= .value (.func f):=by rfl)(K:wh l c.args.toList=some vs:=by rfl)(J:A6 o (yielded ops a.tmps)=true:=by first | exact eV rfl | exact fS (by assumption) rfl rfl rfl rfl):wpList P ops Q (o::rest) a w:=wlc J C G hn (dN C I hc K H) F λ_ _=>h
theorem lH(C:Kn n l a)(F:o.op= .buildSlice t 1 #[(0,x)])(G:evK l x=some vx)(hr:(Eg t 1 #[(0,vx)]).run P w= .ok v w'):(execOp a.eval o).run P w= .ok (.value v) w':=by
 unfold execOp;simp only[F,CJ,Bq,BS];rw[C.evx G];simp only[AK,hr];rfl
variable{K:Act->World->Prop}
theorem wi{args:Array Value}(J:Kn n l a)(hi:ops[i]? =some o)(I:o.guard=none)(H:o.dst=some d)(hn:d<n)(hy:(execOp a.eval o).run P w= .ok (.enter f args) w)(F:AF P f args w R)
  (h:∀e w',R e w'->∃v,e= .returned v/\∀a',Kn n ((d,v)::l) a'->K a' w'):wpOp P ops Q i K a w:=wpOp_step hi λC G=>by
 rw[if_pos (ah I)];unfold Bk;rw[hy];refine F.mono (λe w' U=> ?_);obtain⟨v,rfl,h2⟩:=h e w' U;show C (a.put o.dst v) w';rw[H];exact G _ _ (h2 _ (J.put hn))
theorem wpOp_s(H:Kn n l a)(hi:ops[i]? =some o)(F:o.dst=none)(G:o.guard=none)(hy:(execOp a.eval o).run P w= .ok .skip w')(h:∀a',Kn n l a'->K a' w'):wpOp P ops Q i K a w:=wpOp_step hi λI C=>by
 rw[if_pos (ah G)];unfold Bk;rw[hy,Oper.upon_skip,F];exact C _ _ (h _ H)
theorem wanU(G:Kn n l a)(h:o.guard=some (j,b))(F:ops[j]? =some oj)(C:oj.dst=some d)(H:look d l=some undef):A6 o (yielded ops a.tmps)=false:=by
 have:=G.at' d _ H;simp only[A6,h,yielded,F,C,this,EI];rfl
variable{C:World->Prop}{K:Act->Prop}
theorem wq(H:A6 o (yielded ops a.tmps)=true)(G:Kn n l a)(F:o.dst=some d)(hn:d<n)(v:Value)(hy:∀w,C w->(execOp a.eval o).run P w= .ok (.value v) w)(h:∀a',Kn n ((d,v)::l) a'->wpQuiet P ops C K rest a'):wpQuiet P ops C K (o::rest) a:=by
 unfold wpQuiet;rw[if_pos H];refine⟨v,λw hc=>by unfold Oper.quietAt;rw[hy w hc];exact Ai,?_⟩;rw[F];exact h _ (G.put hn)
theorem wq0(H:A6 o (yielded ops a.tmps)=false)(G:Kn n l a)(F:o.dst=some d)(hn:d<n)(h:∀a',Kn n ((d,undef)::l) a'->wpQuiet P ops C K rest a'):wpQuiet P ops C K (o::rest) a:=by
 unfold wpQuiet;rw[if_neg (by rw[H];simp),F];exact h _ (G.put hn)
theorem qZk(G:Kn n l a)(h:∀ {a'},Kn n ((d,undef)::l) a'->wpQuiet P ops C K rest a')(F:o.dst=some d:=by rfl)(hn:d<n:=by decide)(H:A6 o (yielded ops a.tmps)=false:=by first | exact wanN (by assumption) rfl rfl rfl rfl rfl | exact wanU (by assumption) rfl rfl rfl rfl):wpQuiet P ops C K (o::rest) a:=wq0 H G F hn λ_=>h
theorem wqn(h:K a):wpQuiet P ops C K [] a:=h
theorem j3{S:World->Prop}{md:Region.Mode}{F:Nat}{C:Array Bool}{args:Array Value}(V:Kn n l a)(hr:BK md ops C=[i])(hi:ops[i]? =some o)(K:o.guard=none)(J:o.dst=some d)(hn:d<n)(hy:(execOp a.eval o).run P w= .ok (.enter f args) w)(I:AF P f args w R)
  (h:∀e w',R e w'->∃v,e= .returned v/\S w'/\∀a',Kn n ((d,v)::l) a'->wpAnyH P md ops Q S F (C.setIfInBounds i true) a' w'):wpAnyH P md ops Q S (F+1) C a w:=
 wpAnyH_all hr Ad λj U=>by
  obtain rfl:j=i:=by simpa using U
  refine wi V hi K J hn hy I (λe w' hr=> ?_);obtain⟨v,H,hs,h2⟩:=h e w' hr;exact⟨v,H,λa' G=>⟨hs,h2 a' G⟩⟩
variable{K:Act->World->Prop}
theorem thn(h:K a w):Exit.then K Q .normal a w:=h
theorem jB(h:Q .ret a w):Exit.then K Q .ret a w:=h
variable{id:Nat}
theorem jC(h:Q .ret a w):Eo id Q .ret a w:=h
theorem thx(h:Q (.exit id) a w):Exit.then K Q (.exit id) a w:=h
theorem ibx(h:Q .normal a w):Eo id Q (.exit id) a w:=by simp only[Eo,if_true];exact h
theorem ibn(h:Q .normal a w):Eo id Q .normal a w:=h
theorem wp_bl{c y:Code}(I:Act->World->Prop)(μ:Act->World->Nat)(h0:I a w)(round:∀a w,I a w->c.wp P (Exit.then (λa' w'=>I a' w'/\μ a' w'<μ a w) (Eo id (Exit.then (y.wp P Q) Q))) a w):((Code.block id (Code.loop c)).seq y).wp P Q a w:=BQ (Cr (wp_loop I μ h0 round))
theorem eW{c:Code}(I:Act->World->Prop)(μ:Act->World->Nat)(h0:I a w)(round:∀a w,I a w->c.wp P (Exit.then (λa' w'=>I a' w'/\μ a' w'<μ a w) (Eo id Q)) a w):(Code.block id (Code.loop c)).wp P Q a w:=Cr (wp_loop I μ h0 round)
theorem cU{y:Code}(h:wpList P ops (Exit.then (y.wp P Q) Q) ops.toList a w):((Dj id ops false).seq y).wp P Q a w:=BQ (Bn h)
theorem wle{y:Code}(h:y.wp P Q a w):wpList P ops (Exit.then (y.wp P Q) Q) [] a w:=h
theorem sB{c:AS}{x y:Code}(C:Kn n l a)(hc:evK l c=some (.bool true))(h:x.wp P Q a w):(Code.cond c x y).wp P Q a w:=wp_cond_true (C.evx hc) h
theorem kU{c:AS}{x y:Code}(C:Kn n l a)(hc:evK l c=some (.bool false))(h:y.wp P Q a w):(Code.cond c x y).wp P Q a w:=wp_cond_false (C.evx hc) h
theorem bg(h:wpList P ops Q ops.toList a w):(Dj id ops false).wp P Q a w:=Bn h
end
variable{w:World}
theorem bi_add{x y z:Int}{X Y:AS}(h:z=x+y)(h1: -9223372036854775808<=z)(h2:z<9223372036854775808):(do eqGuard .add 3 X Y (.int .i64 x) (.int .i64 y);binOp .add 3 (.int .i64 x) (.int .i64 y):Sem Value).run AD w= .ok (.int .i64 z) w:=by
 have e:Bf.wrap (x+y)=z:=by rw[Cf];omega
 clear h h1 h2;go_simp
theorem bi_sub{x y z:Int}{X Y:AS}(h:z=x - y)(h1: -9223372036854775808<=z)(h2:z<9223372036854775808):(do eqGuard .sub 3 X Y (.int .i64 x) (.int .i64 y);binOp .sub 3 (.int .i64 x) (.int .i64 y):Sem Value).run AD w= .ok (.int .i64 z) w:=by
 have e:Bf.wrap (x - y)=z:=by rw[Cf];omega
 clear h h1 h2;go_simp
def LdB(w0:World)(t:TypeId)(p v:Value):Prop:=∀w,mBw w0 w->(CX t p).run AD w= .ok v w
structure Bx(R:Prop):Prop where
 out:R
def fldO(p:AZ)(t:TypeId)(i:Nat):Option Nat:=match fldB p t i with
 | some (off,_+1)=>some off
 | _=>none
def cpI(op:BinOp)(i j:Int):Bool->Prop
 | true=>match op with | .lss=>i<j | .leq=>i<=j | .gtr=>j<i | .geq=>j<=i | .eql=>i=j | .neq=>i≠j | _=>False
 | false=>match op with | .lss=>j<=i | .leq=>j<i | .gtr=>i<=j | .geq=>i<j | .eql=>i≠j | .neq=>i=j | _=>False
section
variable {w0 w w1:World} {t e s:TypeId} {p v vx vy:Value} {n d i k m c z off b o' j:Nat} {o oj:Oper} {l:List (Nat×Value)} {a:Act} {x y:AS} {ops:Array Oper} {rest:List Oper} {Q:A8->Act->World->Prop}
theorem LdB.mono(h:LdB w0 t p v)(hb:AW w0.heap.size w0 w1):LdB w1 t p v:=λw k=>h w (hb.trans (k.mono hb.size))
theorem LdB.one(ht:xl AD t=some false)(hb:b<w0.heap.size)(hc:w0.cell? ⟨b,k,none⟩=some v):LdB w0 t (.pointer (some ⟨b,k,none⟩)) v:=λw h=>by
 have:=nI (p:=AD) (w:=w) (ad:=⟨b,k,none⟩) (v:=v) ((h.cell hb).trans hc);simp[CX,DZ,loadVar,AK,i9 ht,this,AU]
theorem LdB.row{cs:List Value}{D:D6}(G:AD.underlying t=some D)(C:D.isRow=true)(hi:(AD.info? t).map (·.size)=some cs.length)(hb:b<w0.heap.size)(hc:w0.rangeAt b k cs):LdB w0 t (.pointer (some ⟨b,k,none⟩)) (.agg cs.toArray):=λw h=>
 run_loadAt_mid w b k t cs D (λj v F=>(h.cell hb).trans (hc j v F)) G C hi
theorem uz(F:Kn n l a)(G:o.op= .load t x)(H:evK l x=some vx)(C:LdB w0 t vx v)(hb:AW w0.heap.size w0 w):(execOp a.eval o).run AD w= .ok (.value v) w:=uw F G H (C w hb)
theorem run_fo(hf:fldO AD t i=some off):(Fe t (.pointer (some ⟨b,o',none⟩)) i).run AD w= .ok (.pointer (some ⟨b,o'+off,none⟩)) w:=by
 unfold fldO at hf;split at hf
 ·rename_i h;injection hf with hf;subst hf;unfold fldB at h;split at h
  ·rename_i H G;split at h
   ·rename_i C F
    cases hz:szB AD C.type with
    | none=>rw[hz]at h;cases h
    | some k=>
     rw[hz]at h;simp only[BG,A4.injEq,Prod.mk.injEq]at h;obtain⟨rfl,rfl⟩:=h;simp[Fe,DZ,fieldPlace,AK,run_underlying G,F,ba hz,AU,bQ]
   ·cases h
  ·cases h
 ·cases hf
theorem acw(C:Kn n l a)(F:o.op= .fieldAddr t x i)(G:evK l x=some (.pointer (some ⟨b,o',none⟩)))(hf:fldO AD t i=some off):(execOp a.eval o).run AD w= .ok (.value (.pointer (some ⟨b,o'+off,none⟩))) w:=kx_fa C F G (run_fo hf)
variable{g:Int}
theorem kx_io(C:Kn n l a)(F:o.op= .indexAddr t x y)(H:evK l x=some (.slice (some ⟨b,o',none⟩) m c))(hy:evK l y=some (.int .i64 g))(G:Tryz.prog.underlying t=some (.slice e))(hz:szB Tryz.prog e=some z)(h:0<=g/\g<(m:Int)):(execOp a.eval o).run Tryz.prog w= .ok (.value (.pointer (some ⟨b,o'+g.toNat*z,none⟩))) w:=
 kx_ia C F H hy (by simp[Instr.indexAt,asIntOf,Sem.run_bind,run_underlying G,ba hz,Result.andThen,h,bQ])
variable{op:BinOp}{h:Int}
theorem j4{C:IntKind}{r:Bool}(F:Kn n l a)(G:o.op= .binOp op t x y s)(H:evK l x=some (.int C g))(hy:evK l y=some (.int C h))(hc:cpI op g h r):(execOp a.eval o).run AD w= .ok (.value (.bool r)) w:=by
 refine kx_b F G H hy ?_;cases op<;>cases r<;>simp only[cpI]at hc<;>first | (exact hc.elim) | (simp[eqGuard,binOp,Op.intCmp,AK,AU];first | omega | (subst hc;simp) | simp[hc])
theorem kx_np{A:A0}(F:Kn n l a)(G:o.op= .binOp .eql t x y s)(H:evK l x=some (.pointer (some A)))(hy:evK l y=some (.pointer none))(C:AD.underlying t=some (.pointer e)):(execOp a.eval o).run AD w= .ok (.value (.bool false)) w:=
 kx_b F G H hy (by simp[eqGuard,binOp,AK,run_eqPN C,AU])
theorem kx_len{A:Option A0}(C:Kn n l a)(F:o.op= .call {callee:=.builtin .len,args:=#[x],argTypes:=#[t]})(H:evK l x=some (.slice A m c))(G:AD.underlying t=some (.slice e)):(execOp a.eval o).run AD w= .ok (.value (.int .i64 (m:Int))) w:=by
 have h1:=C.evx H;unfold execOp;simp only[F,resolve,invoke,builtin,AK,Bu,CM,CJ,Bq,BS,h1];simp[Builtin.len_,AK,run_underlying G,AU,goInt]
theorem vS(F:Kn n l a)(h:∀ {a'},Kn n ((d,v)::l) a'->wpList AD ops Q rest a' w)(C:o.dst=some d:=by rfl)(hn:d<n:=by decide)(G:A6 o (yielded ops a.tmps)=true:=by first | exact eV rfl | exact fS (by assumption) rfl rfl rfl rfl)
  (hy:(execOp a.eval o).run AD w= .ok (.value v) w:=by first | exact jY (by assumption) rfl rfl | exact acw (by assumption) rfl rfl rfl | exact uz (by assumption) rfl rfl (by assumption) (by assumption) | exact lG (by assumption) rfl rfl | exact ju (by assumption) rfl rfl | exact yY (by assumption) rfl rfl rfl | exact kx_len (by assumption) rfl rfl rfl | exact kx_io (by assumption) rfl rfl rfl rfl rfl (by omega) | exact jZ (by assumption) rfl rfl rfl | exact acv (by assumption) rfl rfl | exact j4 (r:=true) (by assumption) rfl rfl rfl (by first | exact rfl | (simp only[cpI];omega)) | exact j4 (r:=false) (by assumption) rfl rfl rfl (by first | exact rfl | (simp only[cpI];omega)) | exact kx_np (by assumption) rfl rfl rfl rfl):wpList AD ops Q (o::rest) a w:=wl G F C hn hy λ_=>h
variable{K:Act->Prop}
theorem uS(G:Kn n l a)(h:∀ {a'},Kn n ((d,v)::l) a'->wpQuiet AD ops (λw=>mBw w0 w) K rest a')(F:o.dst=some d:=by rfl)(hn:d<n:=by decide)(C:A6 o (yielded ops a.tmps)=true:=by first | exact eV rfl | exact fS (by assumption) rfl rfl rfl rfl)
  (hy:∀w,mBw w0 w->(execOp a.eval o).run AD w= .ok (.value v) w:=by intro w C;first | exact jY (by assumption) rfl rfl | exact acw (by assumption) rfl rfl rfl | exact uz (by assumption) rfl rfl (by assumption) C | exact lG (by assumption) rfl rfl | exact ju (by assumption) rfl rfl | exact yY (by assumption) rfl rfl rfl | exact kx_len (by assumption) rfl rfl rfl | exact kx_io (by assumption) rfl rfl rfl rfl rfl (by omega) | exact jZ (by assumption) rfl rfl rfl | exact acv (by assumption) rfl rfl | exact j4 (r:=true) (by assumption) rfl rfl rfl (by first | exact rfl | (simp only[cpI];omega)) | exact j4 (r:=false) (by assumption) rfl rfl rfl (by first | exact rfl | (simp only[cpI];omega))):wpQuiet AD ops (λw=>mBw w0 w) K (o::rest) a:=wq C G F hn v hy λ_=>h
theorem vN(C:Kn n l a)(r:Int)(G:∀ {a'},Kn n ((d,.int .i64 r)::l) a'->wpList AD ops Q rest a' w)(F:o.dst=some d:=by rfl)(hn:d<n:=by decide)(I:A6 o (yielded ops a.tmps)=true:=by first | exact eV rfl | exact fS (by assumption) rfl rfl rfl rfl)(H:o.op= .binOp op 3 x y s:=by rfl)(J:evK l x=some (.int .i64 g):=by rfl)(hy:evK l y=some (.int .i64 h):=by rfl)
  (hr:((op= .add/\r=g+h)\/(op= .sub/\r=g - h))/\ -9223372036854775808<=r/\r<9223372036854775808:=by constructor<;>first | exact .inl ⟨rfl,by omega⟩ | exact .inr ⟨rfl,by omega⟩ | omega):wpList AD ops Q (o::rest) a w:=wl I C F hn (kx_b C H J hy (by
   obtain⟨⟨rfl,e⟩ | ⟨rfl,e⟩,h1,h2⟩:=hr
   ·exact bi_add e h1 h2
   ·exact bi_sub e h1 h2)) λ_=>G
theorem uN(C:Kn n l a)(r:Int)(G:∀ {a'},Kn n ((d,.int .i64 r)::l) a'->wpQuiet AD ops (λw=>mBw w0 w) K rest a')(F:o.dst=some d:=by rfl)(hn:d<n:=by decide)(I:A6 o (yielded ops a.tmps)=true:=by first | exact eV rfl | exact fS (by assumption) rfl rfl rfl rfl)(H:o.op= .binOp op 3 x y s:=by rfl)(J:evK l x=some (.int .i64 g):=by rfl)(hy:evK l y=some (.int .i64 h):=by rfl)
  (hr:((op= .add/\r=g+h)\/(op= .sub/\r=g - h))/\ -9223372036854775808<=r/\r<9223372036854775808:=by constructor<;>first | exact .inl ⟨rfl,by omega⟩ | exact .inr ⟨rfl,by omega⟩ | omega):wpQuiet AD ops (λw=>mBw w0 w) K (o::rest) a:=wq I C F hn _ (λw _=>kx_b C H J hy (by
   obtain⟨⟨rfl,e⟩ | ⟨rfl,e⟩,h1,h2⟩:=hr
   ·exact bi_add e h1 h2
   ·exact bi_sub e h1 h2)) λ_=>G
theorem uC{C:Call}{f:FuncId}{vs:List Value}(F:Kn n l a)(v:Value)(I:∀args w,(callFunc f args).run AD w= .ok (.enter f args) w)(G:∀w,mBw w0 w->AF AD f vs.toArray w λe w'=>e= .returned v/\mBw w w')(h:∀ {a'},Kn n ((d,v)::l) a'->wpQuiet AD ops (λw=>mBw w0 w) K rest a')(H:o.dst=some d:=by rfl)(hn:d<n:=by decide)
  (J:o.op= .call C:=by rfl)(hc:C.callee= .value (.func f):=by rfl)(V:wh l C.args.toList=some vs:=by rfl)(U:A6 o (yielded ops a.tmps)=true:=by first | exact eV rfl | exact fS (by assumption) rfl rfl rfl rfl):wpQuiet AD ops (λw=>mBw w0 w) K (o::rest) a:=by
 unfold wpQuiet;rw[if_pos U];refine⟨v,λw hb=>by
  unfold Oper.quietAt;rw[dN F J hc V I];exact⟨rfl,(G w hb).mono λe w' h=>⟨h.1,hb.trans (h.2.mono hb.size)⟩⟩,?_⟩
 rw[H];exact h (F.put hn)
theorem wj{id:Nat}{y:Code}(G:AD.follows .mixedOrders=true)(F:Region.lexB .any ops=true)(hb:AW w0.heap.size w0 w)(h:wpQuiet AD ops (λw=>mBw w0 w) (λa'=>∀w',mBw w0 w'->y.wp AD Q a' w') ops.toList a):((Dj id ops true).seq y).wp AD Q a w:=
 BQ (wp_region_quiet (C:=λw=>mBw w0 w) G F hb.drew h)
theorem wp_quN{id:Nat}(G:AD.follows .mixedOrders=true)(F:Region.lexB .any ops=true)(hb:AW w0.heap.size w0 w)(h:wpQuiet AD ops (λw=>mBw w0 w) (λa'=>∀w',mBw w0 w'->Q .normal a' w') ops.toList a):(Dj id ops true).wp AD Q a w:=
 wp_region_quiet (C:=λw=>mBw w0 w) G F hb.drew h
variable{P:AZ}{R:Prop}
theorem mDn{a:Act}{w:World}{Q:A8->Act->World->Prop}{F:Code}(C:R)(h:Bx R->F.wp P Q a w:=by intro C;(repeat first | refine BQ ?_ | refine Cr ?_);exact @Bx.out _ C):F.wp P Q a w:=h ⟨C⟩
theorem mUp{G:Prop}(C:R)(h:Bx R->G:=by intro C;(repeat first | with_reducible refine thn ?_ | with_reducible refine ibn ?_);exact @Bx.out _ C):G:=h ⟨C⟩
theorem mEx{G:Prop}(C:R)(h:Bx R->G:=by intro C;refine wp_exit ?_;(repeat first | refine thx ?_ | refine ibx ?_);(repeat first | with_reducible refine thn ?_ | with_reducible refine ibn ?_);exact @Bx.out _ C):G:=h ⟨C⟩
variable{G:Code}
theorem mCf{n:Nat}{l:List (Nat×Value)}{a:Act}{w:World}{Q:A8->Act->World->Prop}(F:Kn n l a)(C:R)(h:Kn n l a->Bx R->G.wp P Q a w:=by intro F C;(repeat first | refine BQ ?_ | refine Cr ?_);refine kU F rfl ?_;exact @Bx.out _ C):G.wp P Q a w:=h F ⟨C⟩
theorem mCt{n:Nat}{l:List (Nat×Value)}{a:Act}{w:World}{Q:A8->Act->World->Prop}(F:Kn n l a)(C:R)(h:Kn n l a->Bx R->G.wp P Q a w:=by intro F C;(repeat first | refine BQ ?_ | refine Cr ?_);refine sB F rfl ?_;exact @Bx.out _ C):G.wp P Q a w:=h F ⟨C⟩
theorem ci{n:Nat}{l:List (Nat×Value)}{a:Act}{w:World}{Q:A8->Act->World->Prop}(F:Kn n l a)(C:R)(h:Kn n l a->Bx R->G.wp P Q a w:=by intro F C;(repeat first | refine BQ ?_ | refine Cr ?_);refine kU F rfl (wp_skip ?_);(repeat first | with_reducible refine thn ?_ | with_reducible refine ibn ?_);exact @Bx.out _ C):G.wp P Q a w:=h F ⟨C⟩
theorem mD{n:Nat}{l:List (Nat×Value)}{a:Act}{w:World}{Q:A8->Act->World->Prop}(F:Kn n l a)(C:R)(h:Kn n l a->Bx R->G.wp P Q a w:=by intro F C;(repeat first | refine BQ ?_ | refine Cr ?_);refine sB F rfl (wp_skip ?_);(repeat first | with_reducible refine thn ?_ | with_reducible refine ibn ?_);exact @Bx.out _ C):G.wp P Q a w:=h F ⟨C⟩
variable{fn:Func}
theorem mR1{n i:Nat}{l:List (Nat×Value)}{a:Act}{w:World}{v:Value}{Q:By->World->Prop}(C:Kn n l a)(h:Q (.returned v) w)(hf:fn.results=#[.tmp i]:=by rfl)(hl:look i l=some v:=by rfl):bodyPost P fn Q .ret a w:=Ba (results_tmp hf _ _ _) C.df (by rw[C.getD hl];exact h)
theorem mR2{n i j:Nat}{l:List (Nat×Value)}{a:Act}{w:World}{v u:Value}{Q:By->World->Prop}(C:Kn n l a)(h:Q (.returned (.tuple #[v,u])) w)(hf:fn.results=#[.tmp i,.tmp j]:=by rfl)(hl:look i l=some v:=by rfl)(F:look j l=some u:=by rfl):bodyPost P fn Q .ret a w:=Ba (results_tmp2 hf _ _ _) C.df (by rw[C.getD hl,C.getD F];exact h)
theorem mR3{n i j k:Nat}{l:List (Nat×Value)}{a:Act}{w:World}{v u x:Value}{Q:By->World->Prop}(C:Kn n l a)(h:Q (.returned (.tuple #[v,u,x])) w)(hf:fn.results=#[.tmp i,.tmp j,.tmp k]:=by rfl)(hl:look i l=some v:=by rfl)(F:look j l=some u:=by rfl)(G:look k l=some x:=by rfl):bodyPost P fn Q .ret a w:=Ba (FC hf _ _ _) C.df (by rw[C.getD hl,C.getD F,C.getD G];exact h)
theorem mT1{n:Nat}{l:List (Nat×Value)}{a:Act}{w:World}{Q:A8->Act->World->Prop}(F:Kn n l a)(C:R)(h:Kn n l a->Bx R->G.wp P Q a w:=by intro F C;refine Cs ?_;(repeat first | refine jB ?_ | refine jC ?_ | exact mR1 F (@Bx.out _ C))):G.wp P Q a w:=h F ⟨C⟩
theorem mT2{n:Nat}{l:List (Nat×Value)}{a:Act}{w:World}{Q:A8->Act->World->Prop}(F:Kn n l a)(C:R)(h:Kn n l a->Bx R->G.wp P Q a w:=by intro F C;refine Cs ?_;(repeat first | refine jB ?_ | refine jC ?_ | exact mR2 F (@Bx.out _ C))):G.wp P Q a w:=h F ⟨C⟩
theorem mT3{n:Nat}{l:List (Nat×Value)}{a:Act}{w:World}{Q:A8->Act->World->Prop}(F:Kn n l a)(C:R)(h:Kn n l a->Bx R->G.wp P Q a w:=by intro F C;refine Cs ?_;(repeat first | refine jB ?_ | refine jC ?_ | exact mR3 F (@Bx.out _ C))):G.wp P Q a w:=h F ⟨C⟩
theorem sD(C:Kn n l a)(F:R)(h:Kn n l a->Bx R->wpList AD ops Q rest a w:=by intro C F;(repeat ((first | refine vS C ?_ | refine wZ C ?_);clear C;intro a C));revert a C;exact @Bx.out _ F):wpList AD ops Q rest a w:=h C ⟨F⟩
theorem sA(C:Kn n l a)(F:R)(h:Kn n l a->Bx R->G.wp AD Q a w:=by intro C F;(repeat first | refine BQ ?_ | refine Cr ?_);refine bg ?_;(repeat ((first | refine vS C ?_ | refine wZ C ?_);clear C;intro a C));revert a C;exact @Bx.out _ F):G.wp AD Q a w:=h C ⟨F⟩
theorem sZ(C:Kn n l a)(F:R)(h:Kn n l a->Bx R->wpList AD ops Q rest a w:=by intro C F;(repeat ((first | refine vS C ?_ | refine wZ C ?_);clear C;intro a C));refine wln ?_;(repeat first | with_reducible refine thn ?_ | with_reducible refine ibn ?_);revert a C;exact @Bx.out _ F):wpList AD ops Q rest a w:=h C ⟨F⟩
theorem sX(C:Kn n l a)(F:R)(h:Kn n l a->Bx R->G.wp AD Q a w:=by intro C F;(repeat first | refine BQ ?_ | refine Cr ?_);refine bg ?_;(repeat ((first | refine vS C ?_ | refine wZ C ?_);clear C;intro a C));refine wln ?_;(repeat first | with_reducible refine thn ?_ | with_reducible refine ibn ?_);revert a C;exact @Bx.out _ F):G.wp AD Q a w:=h C ⟨F⟩
theorem uD(C:Kn n l a)(F:R)(h:Kn n l a->Bx R->wpQuiet AD ops (λw=>mBw w0 w) K rest a:=by intro C F;(repeat ((first | refine uS C ?_ | refine qZk C ?_);clear C;intro a C));revert a C;exact @Bx.out _ F):wpQuiet AD ops (λw=>mBw w0 w) K rest a:=h C ⟨F⟩
theorem uA(C:Kn n l a)(F:R)(h:Kn n l a->Bx R->G.wp AD Q a w:=by intro C F;(repeat first | refine BQ ?_ | refine Cr ?_);refine wp_quN (by kernel_rfl) (by kernel_rfl) (by assumption) ?_;(repeat ((first | refine uS C ?_ | refine qZk C ?_);clear C;intro a C));revert a C;exact @Bx.out _ F):G.wp AD Q a w:=h C ⟨F⟩
theorem uZ(C:Kn n l a)(F:R)(h:Kn n l a->Bx R->wpQuiet AD ops (λw=>mBw w0 w) K rest a:=by intro C F;(repeat ((first | refine uS C ?_ | refine qZk C ?_);clear C;intro a C));refine wqn (λw' G=> ?_);(repeat first | with_reducible refine thn ?_ | with_reducible refine ibn ?_);revert a C w' G;exact @Bx.out _ F):wpQuiet AD ops (λw=>mBw w0 w) K rest a:=h C ⟨F⟩
theorem uX{H:Code}(C:Kn n l a)(F:R)(h:Kn n l a->Bx R->H.wp AD Q a w:=by intro C F;(repeat first | refine BQ ?_ | refine Cr ?_);refine wp_quN (by kernel_rfl) (by kernel_rfl) (by assumption) ?_;(repeat ((first | refine uS C ?_ | refine qZk C ?_);clear C;intro a C));refine wqn (λw' G=> ?_);(repeat first | with_reducible refine thn ?_ | with_reducible refine ibn ?_);revert a C w' G;exact @Bx.out _ F):H.wp AD Q a w:=h C ⟨F⟩
end
structure VB(w W:World)(t:TypeId)(B:Nat)(vs:Array Value):Prop where
 blk:W.heap[B]? =some (.cells vs t (0,0))
 bel:mBw w W
 ge:w.heap.size<=B
 nu:∀u∈vs.toList,noU u
def nuB:Value->Bool
 | .int .u32 _=>false
 | _=>true
variable{vs:Array Value}
theorem acx(h:vs.toList.all nuB=true):∀u∈vs.toList,noU u:=λu C n e=>by
 have:=Cc.1 h u C;subst e;cases this
section
variable {w0 w W W':World} {t t' e s:TypeId} {p v vx vy:Value} {n d i k m z B:Nat} {o:Oper} {l:List (Nat×Value)} {a:Act} {x y:AS} {ops:Array Oper} {rest:List Oper} {Q:A8->Act->World->Prop} {vs:Array Value} {cs ps:List Value}
theorem VB.next(V:VB w W t B vs)(k:AW W.heap.size W W'):VB w W' t B vs:=⟨by rw[k.block B (A2.1 V.blk).1];exact V.blk,V.bel.trans (k.mono V.bel.size),V.ge,V.nu⟩
theorem VB.one(V:VB w W t B vs)(hc:vs[k]? =some v)(ht:xl AD t'=some false:=by rfl):LdB W t' (.pointer (some ⟨B,k,none⟩)) v:=.one ht (A2.1 V.blk).1 (by rw[aH V.blk];exact hc)
theorem VB.row{D:D6}(V:VB w W t B vs)(hc:∀j u,ps[j]? =some u->vs[k+j]? =some u)(hi:(AD.info? t').map (·.size)=some ps.length)(G:AD.underlying t'=some D:=by rfl)(C:D.isRow=true:=by rfl):LdB W t' (.pointer (some ⟨B,k,none⟩)) (.agg ps.toArray):=
 .row G C hi (A2.1 V.blk).1 (λj u F=>by rw[aH V.blk];exact hc j u F)
theorem VB.new(w:World)(t:TypeId)(vs:Array Value)(h:∀u∈vs.toList,noU u):VB w (w.alloc (.cells vs t)) t w.heap.size vs:=⟨Bs w _,(AH _ w).alloc (AI _) _,AI _,h⟩
theorem VB.own(V:VB w W t B vs):Own W B:=jS V.blk V.nu
theorem vA(F:Kn n l a)(z:Nat)(h:∀ {a' W B vs},VB w W t B vs->vs.size=z->Kn n ((d,.pointer (some ⟨B,0,none⟩))::l) a'->wpList AD ops Q rest a' W)(C:o.dst=some d:=by rfl)(hn:d<n:=by decide)(G:o.op= .alloc t:=by rfl)(hz:((AD.info? t).bind (·.zero)).map (λu=>(u.cells.size,u.cells.toList.all nuB))=some (z,true):=by kernel_rfl)(H:A6 o (yielded ops a.tmps)=true:=by first | exact eV rfl | exact fS (by assumption) rfl rfl rfl rfl):wpList AD ops Q (o::rest) a w:=by
 cases hq:(AD.info? t).bind (·.zero)with
 | none=>rw[hq]at hz;cases hz
 | some u=>
  rw[hq]at hz;refine wl H F C hn (yZ (v:=.pointer (some ⟨w.heap.size,0,none⟩)) (w':=w.alloc (.cells u.cells t)) G ?_) λ_=>h (VB.new w t u.cells (acx (by injection hz with hz;injection hz))) (by injection hz with hz;injection hz)
  simp only[Instr.alloc,AK,nH hq,AU,newVar,newRow,Go.newObj,Sem.run,Bu];rfl
theorem vX(H:∀u∈cs,noU u)(C:Kn n l a)(h:∀ {a' W B},VB w W t B cs.toArray->Kn n ((d,.pointer (some ⟨B,0,none⟩))::l) a'->wpList AD ops Q rest a' W)(F:o.dst=some d:=by rfl)(hn:d<n:=by decide)(G:o.op= .box t x:=by rfl)(J:evK l x=some (.agg cs.toArray):=by rfl)(I:A6 o (yielded ops a.tmps)=true:=by first | exact eV rfl | exact fS (by assumption) rfl rfl rfl rfl):wpList AD ops Q (o::rest) a w:=by
 refine wl I C F hn (v:=.pointer (some ⟨w.heap.size,0,none⟩)) (w':=w.alloc (.cells cs.toArray t)) ?_ λ_=>h (VB.new w t _ (by simpa using H))
 unfold execOp;simp only[G];rw[C.evx J];simp only[Instr.box,AK,AU,newVar,newRow,Go.newObj,Sem.run,Bu];rfl
theorem VB.fill(V:VB w W t B vs)(hz:vs.size=cs.length)(h1:cs.toArray.all (·.oneCell')=true)(C:∀u∈cs,noU u)(hi:(AD.info? t).map (·.size)=some cs.length):∃W',(EE t (.pointer (some ⟨B,0,none⟩)) (.agg cs.toArray)).run AD W= .ok () W'/\VB w W' t B cs.toArray/\Upd W B W':=by
 have ht:W.there B 0 cs.toArray.size:=by have:=oc V.blk;rwa [hz,<-BW]at this
 refine⟨_,run_storeAt_mid W B 0 t cs.toArray ht (by rw[BW];exact hi) h1,⟨?_,aQ _ 0 _ V.bel V.ge,V.ge,At⟩,cA _ W B 0⟩;rw[fA _ W B 0 _ _ V.blk,lF (by rw[hz]),EF]
theorem VB.upd{G:TypeId}{C:Nat}{us:Array Value}(V:VB w W t B vs)(u:Upd W C W')(F:B≠C)(V2:VB w W' G C us):VB w W' t B vs:=⟨(u.block B F).trans V.blk,V2.bel,V.ge,V.nu⟩
theorem vF(V:VB w W t B vs)(hz:vs.size=cs.length)(h1:cs.toArray.all (·.oneCell')=true)(J:∀u∈cs,noU u)(C:Kn n l a)(h:∀ {a' W'},VB w W' t B cs.toArray->Upd W B W'->Kn n l a'->wpList AD ops Q rest a' W')(hi:(AD.info? t).map (·.size)=some cs.length)(G:o.dst=none:=by rfl)(H:o.op= .store t x y:=by rfl)(U:evK l x=some (.pointer (some ⟨B,0,none⟩)):=by rfl)(hy:evK l y=some (.agg cs.toArray):=by rfl)
  (K:A6 o (yielded ops a.tmps)=true:=by first | exact eV rfl | exact fS (by assumption) rfl rfl rfl rfl):wpList AD ops Q (o::rest) a W:=by
 obtain⟨W',I,F,u⟩:=V.fill hz h1 J hi;exact wls K C G (kT C H U hy I) λ_=>h F u
end
variable{Q:A8->Act->World->Prop}{a:Act}
theorem ibo{id j:Nat}(h:Q (.exit j) a w)(C:j≠id:=by decide):Eo id Q (.exit j) a w:=by simp only[Eo,if_neg C];exact h
theorem rets(h:Q .ret a w):Exit.noGoto Q .ret a w:=h
variable{rs:List Rq}
theorem aa7{cs:List Value}{u:Int}(h:aZ w rs cs):(AN .i64 u::cs).toArray.all (·.oneCell')=true:=Dt (λv C=>by
 rcases AY.1 C with rfl | C
 ·rfl
 ·exact ce h v C)
theorem sC{cs:List Value}(h:aZ w rs cs):∀v∈cs,noU v:=λv F n e=>by
 obtain⟨k,C⟩:=Dn F;exact h.noInt k n (by rw[C,e])
theorem sE{cs:List Value}{u:Int}(h:aZ w rs cs):∀v∈(AN .i64 u::cs),noU v:=λv C=>by
 rcases AY.1 C with rfl | C
 ·intro n e;cases e
 ·exact sC h v C
variable{P:AZ}
theorem gD{x y:Code}(I:Act->World->Prop)(C:x.wp P (Exit.then I Q) a w)(hy:∀a w,I a w->y.wp P Q a w):(Code.seq x y).wp P Q a w:=
 BQ (wp_mono C λe a w h=>by cases e<;>first | exact hy _ _ h | exact h)
variable{v:Value}{ops:Array Oper}
theorem yK{H:World->Prop}{n d:Nat}{o:Oper}{l:List (Nat×Value)}{md:Region.Mode}{F:Nat}{C:Array Bool}(i:Nat)(G:Kn n l a)(J:H w)(h:∀ {a'},Kn n ((d,v)::l) a'->wpAnyH AD md ops Q H F (C.setIfInBounds i true) a' w)
  (hi:ops[i]? =some o:=by rfl)(hs:Region.noSelect ops=true:=by kernel_rfl)(hf:Region.free md ops C i=true:=by kernel_rfl)(hr:(BK md ops C).contains i=true:=by kernel_rfl)(K:o.dst=some d:=by rfl)(hn:d<n:=by decide)(I:∀c a a' w,a'.defers=a.defers->Q (.panic c) a w->Q (.panic c) a' w:=by exact λc a a' w e h=>⟨e.trans h.1,h.2⟩)(U:o.guard=none:=by rfl)
  (hy:∀a w,Kn n l a->H w->(execOp a.eval o).run AD w= .ok (.value v) w:=by intro a w G V;first | exact jY G rfl rfl | exact acw G rfl rfl rfl | exact lG G rfl rfl | exact ju G rfl rfl | exact uz G rfl rfl (by assumption) V | exact kx_io G rfl rfl rfl rfl rfl (by omega)):wpAnyH AD md ops Q H (F+1) C a w:=wpAnyH_k G hi hs hf hr K hn I U hy J λ_=>h
def StL(w:World)(b o:Nat)(x:St):Prop:=LdB w 3 (.pointer (some ⟨b,o,none⟩)) (.int .i64 x.tm)/\∃cs,aZ w (x.pose.cs.map Fq.raw) cs/\LdB w 39 (.pointer (some ⟨b,o+1,none⟩)) (.agg cs.toArray)/\LdB w 120 (.pointer (some ⟨b,o,none⟩)) (.agg (.int .i64 x.tm::cs).toArray)
section
variable {w:World} {g:Nat} {sl:Value} {T:TypeId} {S:List St}
theorem TrkS.form(h:TrkS T w g sl S):∃C c,sl= .slice C S.length c/\LdB w 183 (.pointer (some ⟨g,0,none⟩)) sl:=by
 have e:∃C c,sl= .slice C S.length c:=by
  rcases h.row with⟨_,h2,e⟩ | ⟨b,o,c,cs,e,_⟩
  ·exact⟨_,_,by rw[h2];exact e⟩
  ·exact⟨_,_,e⟩
 obtain⟨C,c,e⟩:=e;exact⟨C,c,e,.one Aa (A2.1 h.blk).1 (by rw[aH h.blk];rfl)⟩
theorem TrkS.parts(h:TrkS T w g sl S)(h0:S≠ []):∃b o c,sl= .slice (some ⟨b,o,none⟩) S.length c/\∀k x,S[k]? =some x->StL w b (o+k*22) x:=by
 obtain⟨s,hs⟩:=List.exists_mem_of_ne_nil _ h0;obtain⟨i,hi⟩:=Dn hs;obtain⟨b,o,c,C,e,_,hb,I⟩:=row_at h.row (rowS_ne hi);have hl:=(A2.1 hb).1;refine⟨b,o,c,e,λk x J=> ?_⟩;have hc:∀j q,x.qs[j]? =some q->∃u,w.cell? ⟨b,o+k*22+j,none⟩=some u/\q.p w u:=λj q F=>by
  obtain⟨u,h1,h2,_⟩:=I _ q (yA J F);exact⟨u,by rw[aH hb,C3];exact h1,h2⟩
 have G:∀j,j<22->∃u,w.cell? ⟨b,o+k*22+j,none⟩=some u:=λj F=>by
  obtain⟨u,h1,_⟩:=hc j _ (AM (by rw[St.qs_len];exact F));exact⟨u,h1⟩
 let f:Nat->Value:=λj=>(w.cell? ⟨b,o+k*22+j,none⟩).getD undef
 have hf:∀j,j<22->w.cell? ⟨b,o+k*22+j,none⟩=some (f j):=λj F=>by
  obtain⟨u,h1⟩:=G j F;show _=some ((w.cell? ⟨b,o+k*22+j,none⟩).getD undef);rw[h1];rfl
 have h1:f 0= .int .i64 x.tm:=by
  obtain⟨u,h1,h2⟩:=hc 0 _ rfl;have:=hf 0 it;rw[h1]at this;injection this with this;rw[<-this];exact h2.1
 have H:∀j u,((Bm 21).map λj=>f (j+1))[j]? =some u->w.cell? ⟨b,o+k*22+(j+1),none⟩=some u:=λj u F=>by
  have hl:j<21:=by have:=(A1.1 F).1;simpa using this
  rw[Bp,Et hl]at F;injection F with F;rw[hf _ no,<-F]
 refine⟨.one Aa hl (by have:=hf 0 it;rw[h1]at this;exact this),(Bm 21).map λj=>f (j+1),mC (by simp;rfl) (λj q F=> ?_),.row CD rfl (by rw[Cj,List.length_range];rfl) hl (λj u F=>by rw[C3 (o+k*22),Nat.add_comm 1];exact H j u F),.row En rfl (by rw[Bh,Cj,List.length_range];rfl) hl (λj u F=> ?_)⟩
 ·obtain⟨u,K,k2⟩:=hc (j+1) q F;have hl:j<21:=(A1.1 F).1;refine⟨u,?_,k2⟩;rw[Bp,Et hl];have:=hf (j+1) no;rw[K]at this;exact this.symm
 ·cases j with
  | zero=>simp only[List.getElem?_cons_zero]at F;rw[<-F,<-h1];exact hf 0 it
  | succ j=>exact H j u Az
end
variable{t:TypeId}
theorem run_fd{F:Array Field}{C:Field}{i z:Nat}{us:Array Value}(I:AD.underlying t=some (.struct F))(H:F[i]? =some C)(ha:xl AD C.type=some true)(hz:szB AD C.type=some z)(G:us.extract C.offset (C.offset+z)=vs):(Instr.field t (.agg us) i).run AD w= .ok (.agg vs) w:=by
 simp[Instr.field,part,asAgg,AK,run_underlying I,H,i9 ha,ba hz,AU,G]
section
variable {w w0 W:World} {n B:Nat} {o:Oper} {l:List (Nat×Value)} {a:Act} {x y:AS} {ops:Array Oper} {rest:List Oper} {Q:A8->Act->World->Prop} {vs:Array Value} {cs:List Value} {s:St} {p:Pq}
theorem vFS(V:VB w W 120 B vs)(hz:vs.size=22)(hc:aZ w0 (s.pose.cs.map Fq.raw) cs)(F:Kn n l a)(h:∀ {a' W'},VB w W' 120 B (AN .i64 s.tm::cs).toArray->Upd W B W'->Kn n l a'->wpList AD ops Q rest a' W')(C:o.dst=none:=by rfl)(G:o.op= .store 120 x y:=by rfl)(I:evK l x=some (.pointer (some ⟨B,0,none⟩)):=by rfl)(hy:evK l y=some (.agg (AN .i64 s.tm::cs).toArray):=by rfl)
  (H:A6 o (yielded ops a.tmps)=true:=by first | exact eV rfl | exact fS (by assumption) rfl rfl rfl rfl):wpList AD ops Q (o::rest) a W:=vF V (by rw[hz,Bh,aw hc];rfl) (aa7 hc) (sE hc) F h (by rw[Bh,aw hc];rfl) C G I hy H
theorem vFR(V:VB w W t B vs)(hc:aZ w0 rs cs)(hz:vs.size=3*rs.length)(F:Kn n l a)(h:∀ {a' W'},VB w W' t B cs.toArray->Upd W B W'->Kn n l a'->wpList AD ops Q rest a' W')(hi:(AD.info? t).map (·.size)=some (3*rs.length):=by kernel_rfl)(C:o.dst=none:=by rfl)(G:o.op= .store t x y:=by rfl)(I:evK l x=some (.pointer (some ⟨B,0,none⟩)):=by rfl)(hy:evK l y=some (.agg cs.toArray):=by rfl)
  (H:A6 o (yielded ops a.tmps)=true:=by first | exact eV rfl | exact fS (by assumption) rfl rfl rfl rfl):wpList AD ops Q (o::rest) a W:=vF V (by rw[hz,aw hc]) (Dt (ce hc)) (sC hc) F h (by rw[aw hc];exact hi) C G I hy H
theorem VB.st(V:VB w W 120 B (AN .i64 s.tm::cs).toArray)(hc:aZ w0 (s.pose.cs.map Fq.raw) cs):LdB W 3 (.pointer (some ⟨B,0,none⟩)) (.int .i64 s.tm)/\LdB W 39 (.pointer (some ⟨B,1,none⟩)) (.agg cs.toArray)/\LdB W 120 (.pointer (some ⟨B,0,none⟩)) (.agg (AN .i64 s.tm::cs).toArray):=
 ⟨V.one rfl,V.row (λj u C=>by rw[Nat.add_comm];simpa using C) (by rw[aw hc];rfl),V.row (λj u C=>by rw[A7];simpa using C) (by rw[Bh,aw hc];rfl)⟩
theorem VB.fr{D:D6}(V:VB w W t B cs.toArray)(hc:aZ w0 rs cs)(hi:(AD.info? t).map (·.size)=some (3*rs.length):=by kernel_rfl)(G:AD.underlying t=some D:=by rfl)(C:D.isRow=true:=by rfl):LdB W t (.pointer (some ⟨B,0,none⟩)) (.agg cs.toArray):=
 V.row (λj u F=>by rw[A7];simpa using F) (by rw[aw hc];exact hi) G C
theorem VB.ret(V:VB w W 39 B vs)(hl:vs.size=21){fn:Func}{p u:Tmp}(hr:fn.results=#[.cell p 39,.tmp u])(tmps:Array Value)(hp:tmps.getD p undef= .pointer (some ⟨B,0,none⟩)):
  (results fn tmps).run AD W= .ok (.tuple #[.agg vs,tmps.getD u undef]) W:=
 oh hr tmps W B _ _ _ _ hp V.blk CD rfl (by rw[hl];kernel_rfl)
theorem TrkS.mono{T:TypeId}{g:Nat}{sl:Value}{S:List St}{w':World}(h:TrkS T w g sl S)(hb:AW w.heap.size w w'):TrkS T w' g sl S:=
 ⟨by rw[hb.block g (A2.1 h.blk).1];exact h.blk,((Vp.row stT S.length (bB S)).ch w w' _ sl h.row (Chg.below hb) (λ_ _ h=>h)).1,h.ne⟩
theorem kx_fd{u:Int}(C:Kn n l a)(F:o.op= .field 120 x 1)(G:evK l x=some (.agg (AN .i64 u::cs).toArray))(hl:cs.length=21):(execOp a.eval o).run AD w= .ok (.value (.agg cs.toArray)) w:=by
 have h:(Instr.field 120 (.agg (AN .i64 u::cs).toArray) 1).run AD w= .ok (.agg cs.toArray) w:=run_fd En rfl Aa Aa (by
  rw[List.extract_toArray];show(List.take (1+21 - 1) (List.drop 1 (AN .i64 u::cs))).toArray=_;rw[List.drop_one,List.tail_cons,List.take_of_length_le no])
 unfold execOp;simp only[F];rw[C.evx G];simp only[AK,h];rfl
end
abbrev ptG(g:Nat):Value:=.pointer (some ⟨g,0,none⟩)
variable{k:Nat}
theorem jv{S:List St}{x:St}(h:S[k]? =some x):S≠ []:=λe=>by subst e;simp at h
theorem k_place{g:Nat}{sl:Value}{S:List St}(h:TrkS 223 w g sl S)(a:Int)(hS:S.length<=1000):
  AF AD 185 #[ptG g,.int .i64 a] w λe w'=>e= .returned (.int .i64 ((plN S a:Nat):Int))/\mBw w w':=by
 have hp:=ii S a;obtain⟨ad,c,K,f0⟩:=h.form;go_enter Tryz.func185,Tryz.ntmps185
 refine bf 28 [(0,ptG g),(1,.int .i64 a)] λC=> ?_
 refine cU ?_;refine sD C ?_;intro _ C;refine wle ?_;refine cU ?_;refine sD C ?_;intro _ C;refine wle ?_;subst K;refine wp_bl (λa' wr=>∃k:Nat,Kn 28 [(0,ptG g),(1,.int .i64 a),(5,.int .i64 (k:Int))] a'/\k<=plN S a/\mBw w wr) (λa' _=>S.length - (intOf (a'.tmps.getD 5 undef)).toNat) ⟨0,C.ct,A3 _,AH _ _⟩ (λa' wr V=> ?_);obtain⟨k,C,Y,hb⟩:=V;have Z:(intOf (a'.tmps.getD 5 undef)).toNat=k:=by rw[C.gt 5];simp[intOf]
 rw[Z];by_cases hlt:k<plN S a
 ·obtain⟨x,G,U⟩:=eR hlt;obtain⟨b,o,c2,e,F⟩:=h.parts (jv G);injection e with H I J;subst H;subst J;clear I;obtain⟨f1,_⟩:=F k x G;refine BQ ?_;refine cU ?_;refine sD C ?_;intro _ C;refine wle ?_;refine sB C rfl (wp_skip (thn ?_));refine Cr ?_;refine bg ?_;refine sD C ?_;intro _ C;refine vN C ((k+1:Nat)) λC=> ?_
  refine sD C ?_;intro _ C;refine wln (ibn (thn ⟨⟨k+1,C.ct,hlt,hb⟩,?_⟩));rw[C.gt 5];simp only[intOf];omega
 ·obtain rfl:k=plN S a:=no
  by_cases hn:plN S a<S.length
  ·obtain⟨x,G,U⟩:=vP hn;obtain⟨b,o,c2,e,F⟩:=h.parts (jv G);injection e with H I J;subst H;subst J;clear I;obtain⟨f1,_⟩:=F _ x G;refine BQ ?_;refine cU ?_;refine sD C ?_;intro _ C;refine wle ?_;refine kU C rfl (wp_exit (thx (thx (ibx (thn ?_)))));refine cU ?_;refine sD C ?_;intro _ C;refine wle ?_;refine mT1 C ?_;exact⟨rfl,hb⟩
  ·refine BQ ?_;refine cU ?_;refine sD C ?_;intro _ C;refine wle ?_;refine kU C rfl (wp_exit (thx (thx (ibx (thn ?_)))));refine cU ?_;refine sD C ?_;intro _ C;refine wle ?_;refine mT1 C ?_;exact⟨rfl,hb⟩
section
variable {w:World} {g:Nat} {sl:Value} {S:List St}
theorem k_Len(h:TrkS 223 w g sl S):AF AD 128 #[ptG g] w λe w'=>e= .returned (.int .i64 (S.length:Int))/\mBw w w':=by
 obtain⟨F,c,rfl,G⟩:=h.form;have hb:=AH w.heap.size w;go_enter Tryz.func128,Tryz.ntmps128
 refine bf 10 [(0,ptG g)] λC=> ?_
 refine cU ?_;refine sD C ?_;intro _ C;refine wle ?_;refine BQ ?_;refine cU ?_;refine sD C ?_;intro _ C;refine wle ?_;refine kU C rfl (wp_skip (thn ?_));refine cU ?_;refine sD C ?_;intro _ C;refine wle ?_;refine mT1 C ?_;exact⟨rfl,hb⟩
theorem k_rLen(h:TrkS 185 w g sl S):AF AD 157 #[ptG g] w λe w'=>e= .returned (.int .i64 (S.length:Int))/\mBw w w':=by
 obtain⟨F,c,rfl,G⟩:=h.form;have hb:=AH w.heap.size w;go_enter Tryz.func157,Tryz.ntmps157
 refine bf 8 [(0,ptG g)] λC=> ?_
 refine cU ?_;refine sD C ?_;intro _ C;refine wle ?_;refine cU ?_;refine sD C ?_;intro _ C;refine wle ?_;refine mT1 C ?_;exact⟨rfl,hb⟩
theorem kEnds{S:List St}:S.length=0/\jt S=(0,0,false)\/∃f l,0<S.length/\S[0]? =some f/\S[S.length - 1]? =some l/\jt S=(f.tm,l.tm,true):=by
 by_cases h0:S.length=0
 ·have e:S=[]:=CG h0;subst e;exact .inl Ai
 ·obtain⟨f,hf⟩:∃f,S[0]? =some f:=⟨_,AM no⟩;obtain⟨l,hl⟩:∃f,S[S.length - 1]? =some f:=⟨_,AM no⟩;exact .inr ⟨f,l,no,hf,hl,by unfold jt;rw[hf,hl]⟩
theorem Ak{p:Prop}(h:p:=by assumption):p:=h
theorem k_Span(h:TrkS 223 w g sl S)(hn:S.length<=1000):AF AD 100 #[ptG g] w λe w'=>e= .returned (.tuple #[.int .i64 (jt S).1,.int .i64 (jt S).2.1,.bool (jt S).2.2])/\mBw w w':=by
 obtain⟨V,c,H,Y⟩:=h.form;have hb:=AH w.heap.size w;go_enter Tryz.func100,Tryz.ntmps100
 refine bf 35 [(0,ptG g)] λC=> ?_
 subst H;refine cU ?_;refine sD C ?_;intro _ C;refine wle ?_;rcases kEnds (S:=S)with⟨h0,G⟩ | ⟨f,l,h0,hf,hl,G⟩
 ·rw[G];refine BQ ?_;refine cU ?_;refine sD C ?_;intro _ C;refine wle ?_;refine sB C rfl ?_;refine cU ?_;refine sD C ?_;intro _ C;refine wle ?_;refine mT3 C ?_;exact⟨rfl,hb⟩
 ·obtain⟨b,o,c2,e,F⟩:=h.parts (jv hf);injection e with J K U;subst J;subst U;clear K;obtain⟨f1,_⟩:=F _ f hf;obtain⟨f2,_⟩:=F _ l hl;rw[G];refine BQ ?_;refine cU ?_;refine sD C ?_;intro _ C;refine wle ?_;refine kU C rfl (wp_skip (thn ?_));refine wj Aa Aa Ak ?_;refine uD C ?_;intro _ C;refine uN C ((S.length - 1:Nat)) λC=> ?_
  refine uD C ?_;intro _ C;refine wqn (λw' I=> ?_);refine mT3 C ?_;exact⟨rfl,I⟩
theorem Road.at{a:Int}{z y:St}{c:Int}(hr:Road S a z y c):c=6/\S.length=0\/∃f l,0<S.length/\S[0]? =some f/\S[S.length - 1]? =some l/\((c=17/\(a<f.tm\/f.tm<=a/\l.tm<a))\/(c=0/\f.tm<=a/\a<=l.tm/\plN S a<S.length/\S[plN S a]? =some y/\(y.tm=a/\z=y\/a<y.tm/\0<plN S a/\S[plN S a - 1]? =some z))):=by
 cases hr with
 | E h=>exact .inl ⟨rfl,h⟩
 | O1 f hf hn ha=>exact .inr ⟨f,_,hn,hf,AM no,.inl ⟨rfl,.inl ha⟩⟩
 | O2 f hf hb l hl hn ha=>exact .inr ⟨f,l,hn,hf,hl,.inl ⟨rfl,.inr ⟨hb,ha⟩⟩⟩
 | Q f hf hb l hl hn ha y hy ey hp eq1=>exact .inr ⟨f,l,hn,hf,hl,.inr ⟨rfl,hb,ha,hp,hy,.inl ⟨ey,rfl⟩⟩⟩
 | M f hf hb l hl hn ha y hy ey hp h0 eq1 z hz=>exact .inr ⟨f,l,hn,hf,hl,.inr ⟨rfl,hb,ha,hp,hy,.inr ⟨ey,h0,hz⟩⟩⟩
set_option maxHeartbeats 1000000 in
theorem k_around(h:TrkS 223 w g sl S)(hn:S.length<=1000){a:Int}{z y:St}{c:Int}(ab:Road S a z y c):AF AD 164 #[ptG g,.int .i64 a] w λe w'=>∃i j:Nat,e= .returned (.tuple #[.int .i64 i,.int .i64 j,.int .i64 c])/\(c=0->S[i]? =some z/\S[j]? =some y/\(i=j/\y.tm=a/\z=y\/j=i+1/\z.tm<a/\a<y.tm))/\mBw w w':=by
 obtain⟨ad,c1,ac,f0⟩:=h.form;have hb:=AH w.heap.size w;go_enter Tryz.func164,Tryz.ntmps164
 refine bf 77 [(0,ptG g),(1,.int .i64 a)] λC=> ?_
 subst ac;refine cU ?_;refine sD C ?_;intro _ C;refine wle ?_;refine wp_scope_straight ?_;rcases ab.at with⟨rfl,h0⟩ | ⟨f,l,h0,hf,hl,J⟩
 ·refine BQ (Cr ?_);refine cU ?_;refine sD C ?_;intro _ C;refine wle ?_;refine sB C rfl ?_;refine cU ?_;refine sD C ?_;intro _ C;refine wle ?_;refine Cs ?_
  repeat first | refine jB ?_ | refine jC ?_ | refine rets ?_
  refine Ba (FC rfl _ _ _) C.df ?_;rw[C.gt 4,C.gt 5,C.gt 6];exact⟨0,0,rfl,(λh=>by cases h),hb⟩
 ·obtain⟨b,o,c2,e,K⟩:=h.parts (jv hf);injection e with e1 e2 e3;subst e1;subst e3;clear e2;obtain⟨f1,_⟩:=K _ f hf;obtain⟨f2,_⟩:=K _ l hl;rcases J with⟨rfl,J⟩ | ⟨rfl,r1,r2,hp,hy,J⟩
  ·rcases J with J | ⟨J,ao⟩
   ·refine BQ (Cr ?_);refine cU ?_;refine sD C ?_;intro _ C;refine wle ?_;refine kU C rfl ?_;refine wj Aa Aa Ak ?_;refine uD C ?_;intro _ C;refine wqn (λw' F=> ?_);refine sB C rfl ?_;refine cU ?_;refine sD C ?_;intro _ C;refine wle ?_;refine Cs ?_
    repeat first | refine jB ?_ | refine jC ?_ | refine rets ?_
    refine Ba (FC rfl _ _ _) C.df ?_;rw[C.gt 4,C.gt 5,C.gt 6];exact⟨0,0,rfl,(λh=>by cases h),F⟩
   ·refine BQ (Cr ?_);refine cU ?_;refine sD C ?_;intro _ C;refine wle ?_;refine kU C rfl ?_;refine wj Aa Aa Ak ?_;refine uD C ?_;intro _ C;refine uN C ((S.length - 1:Nat)) λC=> ?_
    refine uD C ?_;intro _ C;refine wqn (λw' F=> ?_);refine sB C rfl ?_;refine cU ?_;refine sD C ?_;intro _ C;refine wle ?_;refine Cs ?_
    repeat first | refine jB ?_ | refine jC ?_ | refine rets ?_
    refine Ba (FC rfl _ _ _) C.df ?_;rw[C.gt 4,C.gt 5,C.gt 6];exact⟨0,0,rfl,(λh=>by cases h),F⟩
  ·refine BQ (Cr ?_);refine cU ?_;refine sD C ?_;intro _ C;refine wle ?_;refine kU C rfl ?_;refine wj Aa Aa Ak ?_;refine uD C ?_;intro _ C;refine uN C ((S.length - 1:Nat)) λC=> ?_
   refine uD C ?_;intro _ C;refine wqn (λw' F=> ?_);refine kU C rfl ?_;refine wp_skip (ibn (thn ?_));clear hb;refine cU ?_;refine sD C ?_;intro _ C;refine wle ?_;refine BQ (wp_label (thn ?_));refine sX C ?_;intro _ C;have C:=C.ct (l':=[(1,.int .i64 a),(52,.slice (some ⟨b,o,none⟩) S.length c1),(53,.int .i64 (S.length:Int)),(54,.int .i64 0)]);refine eW (λa' wr=>∃k:Nat,Kn 77 [(1,.int .i64 a),(52,.slice (some ⟨b,o,none⟩) S.length c1),(53,.int .i64 (S.length:Int)),(54,.int .i64 (k:Int))] a'/\k<=plN S a/\mBw w wr) (λa' _=>S.length - (intOf (a'.tmps.getD 54 undef)).toNat) ⟨0,C,A3 _,F⟩ (λa' wr hI=> ?_);obtain⟨k,C,aa,hb⟩:=hI;have hm:(intOf (a'.tmps.getD 54 undef)).toNat=k:=by rw[C.gt 54];simp[intOf]
   rw[hm];obtain⟨x,U⟩:∃x,S[k]? =some x:=⟨_,AM no⟩;obtain⟨f3,cs,Z,_,f4⟩:=K _ x U;refine sX C ?_;intro _ C;refine mD C ?_;refine BQ (Cr ?_);refine sA C ?_;intro _ C;refine vA C 22 λV hz C=> ?_
   refine sD C ?_;intro _ C;refine vFS V hz Z C λ{_ W} V _ C=> ?_
   have f5:=V.one (k:=0) (v:=.int .i64 x.tm) (t':=3) rfl;have am:=AH W.heap.size W;have I:=hb.trans (V.bel.mono hb.size);refine wln (thn ?_);refine Cr ?_;rcases Nat.lt_or_eq_of_le aa with Y | rfl
   ·obtain⟨x',G,ap⟩:=eR Y;rw[U]at G;injection G with G;subst G;refine sX C ?_;intro _ C;refine mCf C ?_;refine sX C ?_;intro _ C;refine mCf C ?_;refine wp_skip (ibn (ibn (thn ?_)));refine mDn ?_;refine bg ?_;refine vN C ((k+1:Nat)) λC=> ?_
    refine sD C ?_;intro _ C;refine wln (thn ⟨⟨k+1,C.ct,Y,I⟩,?_⟩);rw[C.gt 54];simp only[intOf];omega
   ·rw[hy]at U;injection U with U;subst U;rcases J with⟨ey,rfl⟩ | ⟨ey,an,hz⟩
    ·refine sX C ?_;intro _ C;refine mCt C ?_;refine sX C ?_;intro _ C;refine wp_exit ?_
     repeat first | refine thx ?_ | refine ibx ?_ | refine ibo ?_
     refine thn ?_;refine sX C ?_;intro _ C;refine Cs ?_
     repeat first | refine jB ?_ | refine jC ?_ | refine rets ?_
     refine Ba (FC rfl _ _ _) C.df ?_;rw[C.gt 4,C.gt 5,C.gt 6];exact⟨_,_,rfl,λ_=>⟨hy,hy,.inl ⟨rfl,ey,rfl⟩⟩,I⟩
    ·obtain⟨z',H,ak⟩:=eR (S:=S) (a:=a) (k:=plN S a - 1) no;rw[hz]at H;injection H with H;subst H;refine sX C ?_;intro _ C;refine mCf C ?_;refine sX C ?_;intro _ C;refine mCt C ?_;refine sA C ?_;intro _ C;refine vN C ((plN S a - 1:Nat)) λC=> ?_
     refine sZ C ?_;intro _ C;refine wp_exit ?_
     repeat first | refine thx ?_ | refine ibx ?_ | refine ibo ?_
     refine thn ?_;refine sX C ?_;intro _ C;refine Cs ?_
     repeat first | refine jB ?_ | refine jC ?_ | refine rets ?_
     refine Ba (FC rfl _ _ _) C.df ?_;rw[C.gt 4,C.gt 5,C.gt 6];exact⟨_,_,rfl,λ_=>⟨hz,hy,.inr ⟨no,ak,ey⟩⟩,I⟩
end
variable{rest:List Oper}{w':World}
theorem ae{op:Oper}(C:op.guard=none)(hr:(execOp a.eval op).run P w= .ok (.value v) w')
  (h:wpList P ops Q rest (a.put op.dst v) w'):wpList P ops Q (op::rest) a w:=
 BC C λK F=>by
  unfold Bk;rw[hr];exact F _ _ h
variable{c:Nm}
theorem LnAt.frz{l:Ln}(h:LnAt w c l)(j:Nat):w.frozen? ⟨l.b,j,none⟩=false:=by
 obtain⟨⟨cs,h1,_⟩,_⟩:=h;simp[Dp,h1]
theorem LnAt.thr{l:Ln}(h:LnAt w c l)(v:Value):(w.setCell ⟨l.b,4,none⟩ v).there l.b 5 21:=λj C=>by
 obtain⟨⟨cs,h1,h2,_⟩,_⟩:=h;have h2:cs.size=27:=h2;have h3:=heap_setCell_same w l.b 4 cs lkT v h1;refine⟨?_,by simp[Dp,h3]⟩;rw[aH h3,Array.getElem?_eq_getElem (by simp[h2];omega)];rfl
variable{t m:Nat}{E:List Ch}
theorem opAt_E{l:Ln}(_:TM w t m E)(J:opL (lsE E c)=some l):∃k,eT (trE E) c k l.x:=by
 obtain⟨G,ch,hc,I⟩:=mz J;have H:=cG.2 ⟨ch,(cF hc).1,l,A5 I,rfl⟩;rw[(cF hc).2]at H;obtain⟨k,C,F⟩:=BL H;exact⟨k,by rw[AM C,F],G⟩
variable{p:Pq}
set_option maxHeartbeats 1000000 in
theorem q_Fixed{cs:List Value}{ok:Bool}(h:TM w t m E)(hE:TOk (trE E))(hv:aR w (.agg cs.toArray) p)(hp:p.ok 1000)
  (J:∀w',AW w.heap.size w w'->AF AD 122 #[.agg cs.toArray] w' λe a5=>e= .returned (.bool ok)/\AW w'.heap.size w' a5):
  AF AD 70 #[ptB t,.string c,.agg cs.toArray] w λe w'=>∃E' Y C,e= .returned (.int .i64 C)/\TPost w t m E w' E'/\REq (trE E') Y/\FixS ok p (trE E) c Y C:=by
 obtain⟨w1,a4⟩:∃w1,w.alloc (.cells cs.toArray 39)=w1:=⟨_,rfl⟩;have G:AW w.heap.size w w1:=by rw[<-a4];exact(AH _ _).alloc (AI _) _
 have a3:w1.heap.size=w.heap.size+1:=by rw[<-a4];exact asz _ _
 have I:w1.heap[w.heap.size]? =some (.cells cs.toArray 39 (0,0)):=by rw[<-a4];exact Bs w _
 have h1:=h.below G;have U:=lC h1 c;have H:cs.length=21:=by
  obtain⟨ab,e0,hc⟩:=hv;have e0:cs=ab:=by injection e0 with e0;simpa using e0
  subst e0;exact aw hc
 have ad:∀w',AW w.heap.size w w'->AF AD 97 #[.agg cs.toArray] w' λe a5=>jq w' p e a5:=λw' hb=>q_fcp _ p w' (hv.mono hb) (hp.mono it)
 generalize hB:w.heap.size=B at *
 cases hl0:opL (lsE E c)with
 | none=>
  rw[hl0]at U
  change AF _ _ _ _ (λe w'=>e= .returned (.pointer none)/\w'=w1)at U
  have HP:=AE (show∃E' Y C,BF (.int .i64 18)= .returned (.int .i64 C)/\TPost w t m E w1 E'/\REq (trE E') Y/\FixS ok p (trE E) c Y C from⟨E,_,18,rfl,.refl h (by rw[hB];exact G),.refl _,.none (sk h hE hl0)⟩);clear h h1 hl0 G I J ad H hv hp hE a3;go_enter Tryz.func70,Tryz.ntmps70
  go_wp2_with (go_at_call 124;refine U.mono ?_;rintro e w' ⟨rfl,V⟩;obtain rfl:=V.symm)
  go_ret;exact HP.out
 | some l=>
  rw[hl0]at U
  change AF _ _ _ _ (λe w'=>e= .returned (ptB l.b)/\w'=w1)at U
  obtain⟨k,hk⟩:=opAt_E h hl0;obtain⟨aq,ch,ac,ak⟩:=mz hl0;have hL:=h1.ln ac (A5 ak);have bp:=hL.st;have b0:=hL.tp
  cases hx:l.x.st with
  | true=>
   rw[hx]at bp;have HP:=AE (show∃E' Y C,BF (.int .i64 10)= .returned (.int .i64 C)/\TPost w t m E w1 E'/\REq (trE E') Y/\FixS ok p (trE E) c Y C from⟨E,_,10,rfl,.refl h (by rw[hB];exact G),.refl _,.state hk (.inl hx)⟩);clear h h1 hl0 G I J ad H hv hp hE a3 hk aq ac ak hL b0 hx;generalize l.b=lb at *;go_enter Tryz.func70,Tryz.ntmps70
   go_wp2_with (go_at_call 124;refine U.mono ?_;rintro e w' ⟨rfl,V⟩;obtain rfl:=V.symm)
   go_ret;exact HP.out
  | false=>
   rw[hx]at bp;have ao:l.x.tr.length<=64:=(hE.good _ (A5 hk.1)).len;have am:=k_Len hL.trk;have ax:=AE G;have HT:=AE h;by_cases ht:l.x.tr=[]
   ·have av:AF AD 128 #[ptB l.g] w1 λe w'=>e= .returned (.int .i64 0)/\AW w1.heap.size w1 w':=by rw[ht]at am;exact am
    have a2:w1.rangeAt B 0 cs:=λj v hv=>by rw[aH I,A7];simpa using hv
    have au:(AD.info? 39).map (·.size)=some 21:=Aa
    have an:B<w1.heap.size:=no
    have ay:=AE (show∀w',AW w1.heap.size w1 w'->w'.rangeAt B 0 cs from λw' hb j v hv=>by rw[hb.cell (p:=⟨B,_,none⟩) an];exact a2 j v hv);have a0:=AE (show(AD.info? 39).map (·.size)=some cs.length by rw[au,H]);have HV:=AE J
    cases ok with
    | false=>
     have HP:=AE (show∀w2 w3,AW w1.heap.size w1 w2->AW w2.heap.size w2 w3->∃E' Y C,BF (.int .i64 4)= .returned (.int .i64 C)/\TPost w t m E w3 E'/\REq (trE E') Y/\FixS false p (trE E) c Y C from λw2 w3 k2 k3=>⟨E,_,4,rfl,.refl h (by rw[hB];exact G.trans ((k2.trans (k3.mono k2.size)).mono no)),.refl _,.range hk hx ht rfl⟩);clear h h1 hl0 G I J ad H hv hp hE hk aq ac ak hL hx am ht a2 au an ao;generalize l.b=lb at *;generalize l.g=lg at *;go_enter Tryz.func70,Tryz.ntmps70
     go_upto_region 8 with(first
      | (go_at_call 124;refine U.mono ?_;rintro e w' ⟨rfl,V⟩;obtain rfl:=V.symm)
      | (go_at_call 128;refine av.mono ?_;rintro e w2 ⟨rfl,k2⟩;have ap:=AE (ay.out w2 k2);have aa:=HV.out w2 (ax.out.trans (k2.mono no));have K2:=AE k2;clear k2))
     refine Bn ?_;refine Du rfl _ _ rfl B 0 rfl cs _ ap.out CD rfl a0.out ?_;go_wp2_with (go_at_call 122;refine aa.mono ?_;rintro e w3 ⟨rfl,k3⟩;have HQ:=AE (HP.out w2 w3 K2.out k3);clear k3)
     go_ret;exact HQ.out
    | true=>
     have a9:=ak;obtain⟨E1,E2,L1,L2,ar,_,bz⟩:=aaZ ac a9;have HF:=AE (show∀w4 F,AW w1.heap.size w1 w4->aR w4 (.agg F.toArray) p->w4.cell? ⟨l.b,4,none⟩=some (.bool false)/\w4.frozen? ⟨l.b,4,none⟩=false/\
       (w4.setCell ⟨l.b,4,none⟩ (.bool true)).there l.b 5 F.length/\(AD.info? 39).map (·.size)=some F.toArray.size/\F.toArray.all (·.oneCell')=true/\
       ∃E' Y C,BF (.int .i64 0)= .returned (.int .i64 C)/\TPost w t m E ((w4.setCell ⟨l.b,4,none⟩ (.bool true)).setCells l.b 5 F) E'/\REq (trE E') Y/\FixS true p (trE E) c Y C from λw4 F kb hi=>by
      have a6:TM w4 t m (dk E1 E2 c ch.rb ch.cap L1 L2 l):=by rw[<-ar];exact h1.below kb
      have a1:=a6.mid;have bt:AW B w w4:=G.trans (kb.mono no);have Z:∃ab:List Value,Value.agg F.toArray= .agg ab.toArray/\aZ w4 _ ab:=hi;obtain⟨ab,e0,Z⟩:=Z;have e0:F=ab:=by injection e0 with e0;simpa using e0
      subst e0;refine⟨by have:=a1.st;rwa [hx]at this,a1.frz 4,by rw[show F.length=21 from aw Z];exact a1.thr _,by rw[au,BW,show F.length=21 from aw Z],Dt (ce Z),_,_,0,rfl,TPost.pre (by rw[hB];exact bt) h (by rw[ar];exact fixed_mem a6 hi),.refl _,?_⟩;have e2:trE E=(trE E1++L1.map λl=>(c,l.x))++(c,l.x)::((L2.map λl=>(c,l.x))++trE E2):=by rw[ar,iQ]
      rw[iQ];exact .ok e2 aq hx ht rfl)
     have HC:=AE ad;clear h h1 hl0 G I J ad H hv hp hE hk aq ac ak hL hx am ht a2 au an ao a9 ar bz;generalize l.b=lb at *;generalize l.g=lg at *;go_enter Tryz.func70,Tryz.ntmps70
     go_upto_region 8 with(first
      | (go_at_call 124;refine U.mono ?_;rintro e w' ⟨rfl,V⟩;obtain rfl:=V.symm)
      | (go_at_call 128;refine av.mono ?_;rintro e w2 ⟨rfl,k2⟩;have ap:=AE (ay.out w2 k2);have aa:=HV.out w2 (ax.out.trans (k2.mono no));have K2:=AE k2;clear k2))
     refine Bn ?_;refine Du rfl _ _ rfl B 0 rfl cs _ ap.out CD rfl a0.out ?_;go_upto_region 10 with(go_at_call 122;refine aa.mono ?_;rintro e w3 ⟨rfl,k3⟩;have K3:=AE (K2.out.trans (k3.mono K2.out.size));have bb:=AE (ay.out w3 K3.out);have a7:=HC.out w3 (ax.out.trans (K3.out.mono no));clear k3)
     refine Bn ?_;refine ae rfl (v:=ptB lb) (w':=w3) Af ?_;refine ae rfl (v:=ptB lb) (w':=w3) Af ?_;refine Du rfl _ _ rfl B 0 rfl cs _ bb.out CD rfl a0.out ?_;refine BC rfl (λK hK=> ?_);go_simp;go_at_call 97
     refine a7.mono ?_;rintro e w4 ⟨v,rfl,b1,k4⟩;obtain⟨F,rfl,Z⟩:=b1;obtain⟨b9,b2,bO,bq,be,bi⟩:=HF.out w4 F (K3.out.trans (k4.mono K3.out.size)) ⟨F,rfl,Z⟩;have HQ:=AE bi;refine hK _ _ ?_;clear hK K Z k4 bi;refine ae rfl (v:=ptB lb) (w':=w4) Ah ?_;refine ae rfl (v:=.pointer (some ⟨lb,4,none⟩)) (w':=w4) Ah ?_;refine BC rfl (λK hK=> ?_);go_simp;refine hK _ _ ?_;clear hK K;refine ae rfl (v:=ptB lb) (w':=w4.setCell ⟨lb,4,none⟩ (.bool true)) Ah ?_;refine ae rfl (v:=.pointer (some ⟨lb,5,none⟩)) (w':=w4.setCell ⟨lb,4,none⟩ (.bool true)) Ah ?_;refine wpList_store_mid rfl _ _ _ rfl lb 5 F.toArray rfl rfl (by simpa using bO) bq be ?_;go_wp2;go_ret;exact HQ.out
   ·have HP:=AE (show∀w2,AW w1.heap.size w1 w2->∃E' Y C,BF (.int .i64 10)= .returned (.int .i64 C)/\TPost w t m E w2 E'/\REq (trE E') Y/\FixS ok p (trE E) c Y C from λw2 k2=>⟨E,_,10,rfl,.refl h (by rw[hB];exact G.trans (k2.mono no)),.refl _,.state hk (.inr ht)⟩);have b8:(0:Int)<(l.x.tr.length:Int):=by have:=List.length_pos_iff.2 ht;omega
    change AF AD 128 #[ptB l.g] w1 _ at am
    clear h h1 hl0 G I J ad H hv hp hE hk aq ac ak hL hx ht ao a3;generalize l.b=lb at *;generalize l.g=lg at *;generalize (l.x.tr.length:Int)=n at *;go_enter Tryz.func70,Tryz.ntmps70
    go_wp2_with (first
     | (go_at_call 124;refine U.mono ?_;rintro e w' ⟨rfl,V⟩;obtain rfl:=V.symm)
     | (go_at_call 128;refine am.mono ?_;rintro e w2 ⟨rfl,k2⟩;have HQ:=AE (HP.out w2 k2);clear k2))
    go_ret;exact HQ.out
section
variable {w:World} {g:Nat} {sl:Value} {S:List St}
theorem acz{x:Value}{q:Fq}(h:IsQ w x q):∃cs,x= .agg cs.toArray/\aZ w [q.raw] cs:=by
 obtain⟨a,c,b,d,e,i1,i2⟩:=h;exact⟨_,e,a,c,b,d,[],rfl,i1,i2,rfl⟩
set_option maxHeartbeats 1000000 in
theorem k_At(h:TrkS 223 w g sl S)(hS:GoodS S){a:Int}{z y:St}{c:Int}(a1:Road S a z y c):AF AD 98 #[ptG g,.int .i64 a] w λe w'=>∃v,e= .returned (.tuple #[v,.int .i64 c])/\aR w' v (atP z y c a)/\AW w.heap.size w w':=by
 have hn:=hS.len;go_enter Tryz.func98,Tryz.ntmps98
 refine bf 65 [(0,ptG g),(1,.int .i64 a)] λC=> ?_
 refine mDn ?_;refine bg ?_;refine vA C 21 λ{_ W0 B vs} V hz C=> ?_
 refine sZ C ?_;intro _ C;have h:=h.mono V.bel;obtain⟨ad,c1,a2,f0⟩:=h.form;have hb:=AH W0.heap.size W0;refine sA C ?_;intro _ C;refine wC C (af Tryz.func164 rfl rfl) (k_around h no a1) λ{e w1} hr=> ?_
 obtain⟨i,j,rfl,am,ab⟩:=hr;refine⟨_,rfl,λ_ C=> ?_⟩;clear hb;refine sZ C ?_;intro _ C;by_cases hc:c=0
 ·subst hc;obtain⟨hi,hj,am⟩:=am rfl;obtain⟨b,o,c2,e,ar⟩:=h.parts (jv hi);subst a2;injection e with e1 e2 e3;subst e1;subst e3;clear e2;obtain⟨f1,cz,J,f2,f3⟩:=ar _ z hi;have a5:=(A1.1 hi).1;have a6:=(A1.1 hj).1;refine sX C ?_;intro _ C;refine ci C ?_;refine sA C ?_;intro _ C;refine vA C 22 λV9 a3 C=> ?_
  refine vFS V9 a3 J C λ{_ W9} V9 _ C=> ?_
  refine wln ?_;refine mUp ?_;have b9:=ab.trans (V9.bel.mono ab.size);obtain⟨g1,g2,g3⟩:=V9.st J;have r9:=AH W9.heap.size W9;have gz:=hS.at hi;have gy:=hS.at hj;rcases am with⟨rfl,ey,rfl⟩ | ⟨a0,a7,a4⟩
  ·rw[show atP z z 0 a=z.pose by simp[atP]];refine sX C ?_;intro _ C;refine mCt C ?_;refine sA C ?_;intro _ C;refine wC C (af Tryz.func165 rfl rfl) (q_clS _ z W9 ⟨cz,rfl,J.mono b9⟩ (gz.ok.mono it)) λ{e w3} hr=> ?_
   obtain⟨_,rfl,⟨ao,rfl,I⟩,ax⟩:=hr;refine⟨_,rfl,λ_ C=> ?_⟩;refine wY C (.agg ao.toArray) (kx_fd C rfl rfl (by rw[aw I];rfl)) λC=> ?_
   have V4:=V.next (b9.trans (ax.mono b9.size));refine vFR V4 I hz C λV5 U C=> ?_
   refine sZ C ?_;intro _ C;refine Cs ?_
   repeat first | refine jB ?_ | refine jC ?_
   refine Ba (V5.ret (by rw[BW,aw I];rfl) rfl _ (C.gt 4)) C.df ?_;rw[C.gt 5];exact⟨_,rfl,⟨ao,rfl,I.upd V4.own U⟩,V5.bel⟩
  ·have z0:=gz.lo;have z1:=gz.hi;have y0:=gy.lo;have y1:=gy.hi;obtain⟨f4,cy,ak,f5,f6⟩:=ar _ y hj;refine sX C ?_;intro _ C;refine ci C ?_;refine sA C ?_;intro _ C;refine vA C 22 λF au C=> ?_
   refine vFS F au ak C λ{_ Y} F _ C=> ?_
   refine wln ?_;refine mUp ?_;have an:=b9.trans (F.bel.mono b9.size);have g1:=g1.mono F.bel;have g2:=g2.mono F.bel;obtain⟨k1,k2,k3⟩:=F.st ak;have a9:=AH Y.heap.size Y;refine sA C ?_;intro _ C;refine vN C ((a - z.tm)) λC=> ?_
   refine sD C ?_;intro _ C;refine vN C ((y.tm - z.tm)) λC=> ?_
   refine wC C (af Tryz.func166 rfl rfl) (xP (a - z.tm) (y.tm - z.tm) Y no no no no no) λ{e be} hr=> ?_
   obtain⟨v,rfl,hq,K⟩:=hr;obtain⟨cm,rfl,aq⟩:=acz hq;refine⟨_,rfl,λ_ C=> ?_⟩;refine sD C ?_;intro _ C;refine vA C 3 λG av C=> ?_
   refine vFR G aq av C λ{_ Z} G _ C=> ?_
   refine sZ C ?_;intro _ C;have aa:=K.trans (G.bel.mono K.size);have H:=an.trans (aa.mono an.size);have g2:=g2.mono aa;have k2:=k2.mono aa;have f:=G.fr aq;have bb:=AH Z.heap.size Z;refine sA C ?_;intro _ C;refine wC C (af Tryz.func167 rfl rfl) (yv _ _ _ z.pose y.pose (Fq.ratio (a - z.tm) (y.tm - z.tm)) Z ⟨cz,rfl,J.mono H⟩ ⟨cy,rfl,ak.mono H⟩ (hq.mono G.bel) (gz.ok.mono it) (gy.ok.mono it) ((iM no no no no no).mono it) gz.good gy.good (dv no) (hS.adj i z y hi (by rw[<-a0];exact hj))) λ{e bi} hr=> ?_
   obtain⟨_,rfl,⟨cr,rfl,ac⟩,ap⟩:=hr;refine⟨_,rfl,λ_ C=> ?_⟩;refine sD C ?_;intro _ C;have V4:=V.next (H.trans (ap.mono H.size));refine vFR V4 ac hz C λV5 U C=> ?_
   refine sZ C ?_;intro _ C;refine Cs ?_
   repeat first | refine jB ?_ | refine jC ?_
   refine Ba (V5.ret (by rw[BW,aw ac];rfl) rfl _ (C.gt 4)) C.df ?_;rw[C.gt 5,show atP z y 0 a=_ from(if_neg Ad).trans (if_neg no)];exact⟨_,rfl,⟨cr,rfl,ac.upd V4.own U⟩,V5.bel⟩
 ·rw[show atP z y c a=Pq.zero from if_pos hc];refine sX C ?_;intro _ C;refine mCt C ?_;refine mDn ?_;refine bg ?_;refine wY C (.agg ai.toArray) (by unfold ai;go_simp;try rfl) λC=> ?_
  refine sD C ?_;intro _ C;obtain⟨cs,e,ay⟩:=dC w1;injection e with e;refine vFR (V.next ab) (cs:=ai) (rs:=Pq.zero.cs.map Fq.raw) (by rw[show ai=cs from by simpa using congrArg Array.toList e];exact ay) hz C λV2 _ C=> ?_
  refine sZ C ?_;intro _ C;refine Cs ?_
  repeat first | refine jB ?_ | refine jC ?_
  refine Ba (V2.ret rfl rfl _ (C.gt 4)) C.df ?_;rw[C.gt 5];exact⟨_,rfl,dC _,V2.bel⟩
end
section
open Classical
theorem q_poVal0{va:Value}{a:Pq}(ia:aR w va a)(ha:a.ok 1000000)(C:a.rot.comp)(hf:a.rot.first≠Fq.ofInt 1):AF AD 122 #[va] w λe w'=>bH w (.bool false) e w':=by
 exact(cR0 a.cs [row [0,1,2,3,4,5,6]] [va] (.v (.one (.b false))) (il1 (aaA [0,1,2,3] a.rot Ab (ha.rot.mono it) C hf)) Tryz.func122 ⟨rO2 ia,trivial⟩).mono mMr
theorem q_rpVal0{va:Value}{a:Pq}(ia:aR w va a)(ha:a.ok 1000000)(C:a.rot.comp)(hf:a.rot.first≠Fq.ofInt 1):AF AD 158 #[va] w λe w'=>bH w (.bool false) e w':=by
 exact(cR0 a.cs [row [0,1,2,3,4,5,6]] [va] (.v (.one (.b false))) (il1 (aaG [0,1,2,3] a.rot Ab (ha.rot.mono it) C hf)) Tryz.func158 ⟨rO2 ia,trivial⟩).mono mMr
theorem q_Val(i:aR w v p)(h:p.ok 2)(hc:p.rot.comp/\p.pos.good):AF AD 122 #[v] w λe w'=>e= .returned (.bool (decide p.good))/\mBw w w':=by
 by_cases g:p.good
 ·rw[decide_eq_true g];exact q_poValid v p w i (h.mono it) g
 ·rw[decide_eq_false g];exact q_poVal0 i (h.mono it) hc.1 (λe=>g ⟨aca hc.1 e,hc.2⟩)
theorem q_rVal(i:aR w v p)(h:p.ok 2)(hc:p.rot.comp/\p.pos.good):AF AD 158 #[v] w λe w'=>e= .returned (.bool (decide p.good))/\mBw w w':=by
 by_cases g:p.good
 ·rw[decide_eq_true g];exact q_rpValid v p w i (h.mono it) g
 ·rw[decide_eq_false g];exact q_rpVal0 i (h.mono it) hc.1 (λe=>g ⟨aca hc.1 e,hc.2⟩)
end
section
variable {w:World} {g:Nat} {sl:Value} {S:List St}
theorem Vp.mono{q:Vp}(h:q.p w v)(hb:AW w.heap.size w w'):q.p w' v:=(q.ch w w' _ v h (Chg.below hb) (λ_ _ h=>h)).1
variable{T:TypeId}
theorem TrkM.keep(h:TrkS T w g sl S)(hb:AW w.heap.size w w'):TrkM T w g sl S w':=⟨⟨sl,h.mono hb,λ_ h=>.inl h⟩,Ent.kept.refl.below hb⟩
theorem TrkM.set{C:World}{x v':Value}{S':List St}(U:g<w.heap.size)(k:(Ent.mk w (λx=>x=g) []).kept C)(hc:C.heap[g]? =some (.cells #[x] T (0,0)))(K:noU x)(hr:(Vp.row stT S'.length (bB S')).p C v')(hf:∀b,v'.ownBlock=some b->w.heap.size<=b/\bv C b):TrkM T w g sl S' (C.setCell ⟨g,0,none⟩ v')/\TrkS T (C.setCell ⟨g,0,none⟩ v') g v' S':=by
 have F:∀b,v'.ownBlock=some b->b≠g:=λb hb e=>by have:=(hf b hb).1;omega
 have u:=Upd.cell C g 0 v';have J:bv C g:=.mk' hc (λk n G=>by
  cases k with
  | zero=>simp at G;exact K n G
  | succ k=>simp at G)
 have H:=((Vp.row stT S'.length (bB S')).ch C _ _ v' hr (Chg.upd J u) (λb hb e=>F b (by obtain⟨o,n,c,rfl⟩:=hb;rfl) e)).1;have I:TrkS T (C.setCell ⟨g,0,none⟩ v') g v' S':=⟨by rw[Go.heap_setCell_same C g 0 _ _ v' hc];rfl,H,F⟩;exact⟨⟨⟨v',I,λb hb=>.inr ⟨(hf b hb).1,(hf b hb).2.blk (u.block b (F b hb)) (by rw[u.size];exact AI _)⟩⟩,k.upd u (.inr rfl)⟩,I⟩
section
variable {v vx:Value} {n d i B:Nat} {o:Oper} {l:List (Nat×Value)} {a:Act} {ops:Array Oper} {Q:A8->Act->World->Prop} {md:Region.Mode} {fuel:Nat} {listed:Array Bool} {P:AZ} {H:World->Prop} {w':World} {cs:List Value} {s:St} {x y:AS} {t e:TypeId}
theorem yV(i:Nat)(K:Kn n l a)(v:Value)(w':World)(hy:∀ {o},ops[i]? =some o->(execOp a.eval o).run P w= .ok (.value v) w')(F:H w')(h:∀ {a'},Kn n ((d,v)::l) a'->wpAnyH P md ops Q H fuel (listed.setIfInBounds i true) a' w')(hr:BK md ops listed=[i]:=by kernel_rfl)(hi:ops[i]? =some o:=by rfl)(G:o.dst=some d:=by rfl)(hn:d<n:=by decide)(I:o.guard=none:=by rfl):wpAnyH P md ops Q H (fuel+1) listed a w:=
 wpAnyH_all hr Ad λj J=>by
  obtain rfl:j=i:=by simpa using J
  exact ij K hi G hn I (hy hi) (λa' C=>⟨F,h C⟩)
theorem yW(i:Nat)(K:Kn n l a)(w':World)(hy:∀ {o},ops[i]? =some o->(execOp a.eval o).run P w= .ok .skip w')(F:H w')(h:∀ {a'},Kn n l a'->wpAnyH P md ops Q H fuel (listed.setIfInBounds i true) a' w')(hr:BK md ops listed=[i]:=by kernel_rfl)(hi:ops[i]? =some o:=by rfl)(G:o.dst=none:=by rfl)(I:o.guard=none:=by rfl):wpAnyH P md ops Q H (fuel+1) listed a w:=
 wpAnyH_all hr Ad λj J=>by
  obtain rfl:j=i:=by simpa using J
  exact wpOp_s K hi G I (hy hi) (λa' C=>⟨F,h C⟩)
theorem ld_st(h:w.heap[B]? =some (.cells (AN .i64 s.tm::cs).toArray 120 (0,0)))(hl:cs.length=21):(CX 120 (.pointer (some ⟨B,0,none⟩))).run AD w= .ok (.agg (AN .i64 s.tm::cs).toArray) w:=
 LdB.row (w0:=w) En rfl (by rw[Bh,hl];rfl) (A2.1 h).1 (λj v C=>by rw[aH h,A7];simpa using C) w (AH _ _)
theorem acA(hl:cs.length=21):(Eg 183 1 #[(0,.agg (AN .i64 s.tm::cs).toArray)]).run AD w= .ok (.slice (some ⟨w.heap.size,0,none⟩) 1 1) (w.alloc (.cells (AN .i64 s.tm::cs).toArray 120)):=by
 generalize s.tm=a
 match cs,hl with
 | [c0,c1,c2,c3,c4,c5,c6,c7,c8,c9,c10,c11,c12,c13,c14,c15,c16,c17,c18,c19,c20],_=>go_simp
theorem acB{W:World}{B:Nat}(h:W.heap[B]? =some (.cells (AN .i64 s.tm::cs).toArray stT (0,0)))(hc:aZ W (s.pose.cs.map Fq.raw) cs):(Vp.row stT 1 s.qs).p W (.slice (some ⟨B,0,none⟩) 1 1):=
 .inr ⟨B,0,1,_,rfl,AI _,h,λj q C=>by
  obtain⟨u,h1,h2⟩:=st_qs (x:=s.raw) (cs:=cs) hc C;have h1:(AN .i64 s.tm::cs)[j]? =some u:=h1;exact⟨u,by rw[A7];simpa using h1,h2⟩⟩
theorem qJ{x:Value}{ad:Option A0}{c:Nat}(h:w.heap[g]? =some (.cells #[x] T (0,0))):(EE 183 (.pointer (some ⟨g,0,none⟩)) (.slice ad m c)).run AD w= .ok () (w.setCell ⟨g,0,none⟩ (.slice ad m c)):=by
 have h2:w.cell? ⟨g,0,none⟩=some x:=by rw[aH h];rfl
 have h3:w.frozen? ⟨g,0,none⟩=false:=by simp[Dp,h]
 clear h;go_simp
theorem kx_sf{vx:Value}{r:Value}(C:Kn n l a)(F:o.op= .slice t x (some y) none none)(G:evK l x=some vx)(hy:evK l y=some v)(hr:(Instr.sliceAt t vx (some v) none none).run P w= .ok r w):(execOp a.eval o).run P w= .ok (.value r) w:=by
 unfold execOp;simp only[F];rw[C.evx G];simp only[BG,Option.map_none];rw[C.evx hy];simp only[AK,hr];rfl
end
end
section
open Classical
variable {w:World} {g:Nat} {sl:Value} {S:List St}
theorem q_oppP{va vb:Value}{a b:Pq}(ia:aR w va a)(G:aR w vb b)(ha:a.ok 2)(hb:b.ok 2)(C:a.good)(F:b.good):AF AD 186 #[va,vb] w λe w'=>e= .returned (.bool (decide (opp a b)))/\mBw w w':=by
 by_cases h:opp a b
 ·rw[decide_eq_true h];exact q_op1 va vb a b w ia G (ha.mono it) (hb.mono it) C F h
 ·rw[decide_eq_false h];exact q_op0 va vb a b w ia G (ha.mono it) (hb.mono it) C F h
theorem q_eqlP{va vb:Value}{a b:Pq}(ia:aR w va a)(G:aR w vb b)(ha:a.ok 2)(hb:b.ok 2)(C:a.good)(F:b.good):AF AD 55 #[va,vb] w λe w'=>e= .returned (.bool (decide (a=b)))/\mBw w w':=by
 by_cases h:a=b
 ·rw[decide_eq_true h];exact lz va vb a b w ia G (ha.mono it) (hb.mono it) h C F
 ·rw[decide_eq_false h];exact aaS va vb a b w ia G (ha.mono it) (hb.mono it) h C F
noncomputable def fT(S:List St)(s:St):List St×Int:=by
 exact if s.tm<0\/1099511627776<s.tm\/¬s.pose.good then(S,4)else pY S s
theorem uB{s:St}(h:s.pose.good):fT S s=pY S s:=by
 unfold fT pY;by_cases h1:s.tm<0\/1099511627776<s.tm
 ·rw[if_pos (by rcases h1 with h1 | h1;exact .inl h1;exact .inr (.inl h1)),if_pos h1]
 ·rw[if_neg (by rintro(k | k | k);exact h1 (.inl k);exact h1 (.inr k);exact k h)]
theorem addQ_ok{s:St}(h:GoodS S)(h2:s.pose.ok 2):GoodS (fT S s).1:=by
 by_cases g:s.pose.good
 ·rw[uB g];exact addS_good h h2 g
 ·rw[show fT S s=(S,4)from if_pos (.inr (.inr g))];exact h
set_option maxHeartbeats 2000000 in
theorem k_Add{s:St}(h:TrkS 223 w g sl S)(i:aaX w v s)(hs:s.pose.ok 2)(b8:s.pose.rot.comp/\s.pose.pos.good)(hS:GoodS S):AF AD 127 #[ptG g,v] w λe w'=>e= .returned (.int .i64 (fT S s).2)/\TrkM 223 w g sl (fT S s).1 w':=by
 have hn:=hS.len;obtain⟨cs,rfl,Y⟩:=i;go_enter Tryz.func127,Tryz.ntmps127
 refine bf 125 [(0,ptG g),(1,.agg (AN .i64 s.tm::cs).toArray)] λC=> ?_
 refine mDn ?_;refine bg ?_;refine vX (sE Y) C λ{_ W B} V C=> ?_
 refine sZ C ?_;intro _ C;obtain⟨f1,f2,f3⟩:=V.st Y;have hb:=AH W.heap.size W;have hm:=h.mono V.bel;obtain⟨ad,c1,ab,f0⟩:=hm.form;have b0:=q_Val (w:=W) ⟨cs,rfl,Y.mono V.bel⟩ hs b8;have av:∀w',mBw W w'->(S,(4:Int))=fT S s->TrkM 223 w g sl (fT S s).1 w':=λw' hb e=>by
  rw[<-e];exact .keep h (V.bel.trans (hb.mono V.bel.size))
 refine sX C ?_;intro _ C;refine mCf C ?_;by_cases h1:s.tm<0
 ·have e:(S,(4:Int))=fT S s:=(if_pos (.inl h1)).symm;refine sX C ?_;intro _ C;refine mCt C ?_;refine sX C ?_;intro _ C;refine mT1 C ?_;exact⟨by rw[<-e],av _ hb e⟩
 ·by_cases h2:1099511627776<s.tm
  ·have e:(S,(4:Int))=fT S s:=(if_pos (.inr (.inl h2))).symm;refine sX C ?_;intro _ C;refine mCt C ?_;refine sX C ?_;intro _ C;refine mT1 C ?_;exact⟨by rw[<-e],av _ hb e⟩
  ·refine sA C ?_;intro _ C;refine wC C (af Tryz.func122 rfl rfl) (b0) λ{e w1} hr=> ?_
   obtain⟨rfl,ac⟩:=hr;refine⟨_,rfl,λ_ C=> ?_⟩;by_cases h3:s.pose.good
   ·have e:fT S s=pY S s:=if_neg (by simp[h1,h2,h3]);rw[decide_eq_true h3]at C;refine sZ C ?_;intro _ C;refine ci C ?_;rw[e];unfold pY;rw[if_neg no];have hx:∀w',mBw W w'->TrkM 223 w g sl S w':=λw' hb=>.keep h (V.bel.trans (hb.mono V.bel.size))
    have a3:∀w',mBw W w'->aR w' (.agg cs.toArray) s.pose:=λw' hb=>⟨cs,rfl,(Y.mono V.bel).mono hb⟩
    clear av b0 e;refine sA C ?_;intro _ C;refine wC C (af Tryz.func185 rfl rfl) (k_place (hm.mono ac) s.tm no) λ{e w2} hr=> ?_
    obtain⟨rfl,be⟩:=hr;refine⟨_,rfl,λ_ C=> ?_⟩;refine sZ C ?_;intro _ C;have K:=ac.trans (be.mono ac.size);have hp:=ii S s.tm;clear hb ac be;have C:=C.ct (l':=[(0,ptG g),(3,.pointer (some ⟨B,0,none⟩)),(5,.int .i64 ((plN S s.tm:Nat):Int))]);have hy:∀y,S[plN S s.tm]? =some y->∃b o c,sl= .slice (some ⟨b,o,none⟩) S.length c/\StL W b (o+plN S s.tm*22) y:=λy hy=>by
     obtain⟨b,o,c2,e,bb⟩:=hm.parts (jv hy);exact⟨b,o,c2,e,bb _ y hy⟩
    refine gD (λa' w'=>Kn 125 [(0,ptG g),(3,.pointer (some ⟨B,0,none⟩)),(5,.int .i64 ((plN S s.tm:Nat):Int))] a'/\mBw W w'/\¬∃y,S[plN S s.tm]? =some y/\y.tm=s.tm) ?_ (λa' w' hI=> ?_)
    ·by_cases hlt:plN S s.tm<S.length
     ·obtain⟨y,F⟩:∃y,S[plN S s.tm]? =some y:=⟨_,AM hlt⟩;obtain⟨b,o,c2,e,f4,cy,Z,f5,f6⟩:=hy y F;subst ab;injection e with e1 e2 e3;subst e1;subst e3;clear e2;have gy:=hS.at F;by_cases ey:y.tm=s.tm
      ·refine uX C ?_;intro _ C w' J;refine mCt C ?_;by_cases ep:y.pose=s.pose
       ·rw[if_pos ⟨y,F,ey,ep⟩];refine uA C ?_;intro _ C;refine uC C (.bool true) (af EO rfl rfl) (λw hb=>by have:=q_eqlP (w:=w) ⟨cy,rfl,Z.mono hb⟩ (a3 w hb) gy.ok hs gy.good h3;rwa [decide_eq_true ep]at this) λC=> ?_
        refine wqn (λw' J=> ?_);refine mUp ?_;refine mCt C ?_;refine sX C ?_;intro _ C;refine mT1 C ?_;exact⟨rfl,hx _ Ak⟩
       ·rw[if_neg (by rintro⟨y',h,_,h2⟩;rw[F]at h;injection h with h;subst h;exact ep h2),if_pos ⟨y,F,ey⟩];refine uA C ?_;intro _ C;refine uC C (.bool false) (af EO rfl rfl) (λw hb=>by have:=q_eqlP (w:=w) ⟨cy,rfl,Z.mono hb⟩ (a3 w hb) gy.ok hs gy.good h3;rwa [decide_eq_false ep]at this) λC=> ?_
        refine wqn (λw' J=> ?_);refine mUp ?_;refine ci C ?_;refine sX C ?_;intro _ C;refine mT1 C ?_;exact⟨rfl,hx _ Ak⟩
      ·refine uX C ?_;intro _ C w' J;refine ci C ?_;exact⟨C.ct,Ak,by rintro⟨y',h,h2⟩;rw[F]at h;injection h with h;subst h;exact ey h2⟩
     ·subst ab;refine uX C ?_;intro _ C w' J;refine ci C ?_;exact⟨C.ct,Ak,by rintro⟨y',h,h2⟩;exact hlt (A1.1 h).1⟩
    ·obtain⟨C,hb,a4⟩:=hI;rw[if_neg (by rintro⟨y,h,h2,_⟩;exact a4 ⟨y,h,h2⟩),if_neg a4];obtain⟨ob,U⟩:∃ob:Bool,ob=decide ((∃z,0<plN S s.tm/\S[plN S s.tm - 1]? =some z/\opp z.pose s.pose)\/∃y,S[plN S s.tm]? =some y/\opp s.pose y.pose):=⟨_,rfl⟩;have aa:∀ {x y:Pq} {vx vy:Value},aR W vx x->aR W vy y->x.ok 2->y.ok 2->x.good->y.good->∀b,decide (opp x y)=b->∀w',mBw W w'->AF AD 186 #[vx,vy] w' λe w1=>e= .returned (.bool b)/\mBw w' w1:=λix iy hx hy gx gy b e w' hb=>e▸q_oppP (ix.mono hb) (iy.mono hb) hx hy gx gy
     have an:aR W (.agg cs.toArray) s.pose:=⟨cs,rfl,Y.mono V.bel⟩;refine gD (λa' w'=>Kn 125 [(0,ptG g),(3,.pointer (some ⟨B,0,none⟩)),(5,.int .i64 ((plN S s.tm:Nat):Int))] a'/\mBw W w'/\ob=false) ?_ (λa' w' hI=> ?_)
     ·refine gD (λa' w'=>Kn 125 [(0,ptG g),(3,.pointer (some ⟨B,0,none⟩)),(5,.int .i64 ((plN S s.tm:Nat):Int)),(96,.bool ob)] a'/\mBw W w') ?_ (λa' w' hI=> ?_)
      ·have b1:(S.length<=plN S s.tm/\∀y,S[plN S s.tm]? ≠some y)\/∃y b o c,plN S s.tm<S.length/\S[plN S s.tm]? =some y/\sl= .slice (some ⟨b,o,none⟩) S.length c/\StL W b (o+plN S s.tm*22) y:=by
        by_cases hlt:plN S s.tm<S.length
        ·obtain⟨b,o,c,e⟩:=hy _ (AM hlt);exact .inr ⟨_,b,o,c,hlt,AM hlt,e⟩
        ·exact .inl ⟨no,λy h=>hlt (A1.1 h).1⟩
       by_cases h0:0<plN S s.tm
       ·obtain⟨z,hz⟩:∃z,S[plN S s.tm - 1]? =some z:=⟨_,AM no⟩;obtain⟨b,o,c2,e,bb⟩:=hm.parts (jv hz);obtain⟨f4,cz,a1,f5,f6⟩:=bb _ z hz;have gz:=hS.at hz;subst ab;injection e with e1 e2 e3;subst e1;subst e3;clear e2;by_cases oz:opp z.pose s.pose
        ·obtain rfl:ob=true:=U.trans (decide_eq_true (.inl ⟨z,h0,hz,oz⟩));refine uA C ?_;intro _ C;refine uN C ((plN S s.tm - 1:Nat)) λC=> ?_
         refine uD C ?_;intro _ C;refine uC C (.bool true) (af ET rfl rfl) (λw hb=>aa ⟨cz,rfl,a1⟩ an gz.ok hs gz.good h3 _ (decide_eq_true oz) w hb) λC=> ?_
         refine uZ C ?_;intro _ C w' J;exact⟨C.ct,Ak⟩
        ·rcases b1 with⟨h4,h5⟩ | ⟨y,b',o',c',h4,F,e,f7,cy,Z,f8,f9⟩
         ·obtain rfl:ob=false:=U.trans (decide_eq_false (by rintro(⟨z',_,h,h6⟩ | ⟨y,h,_⟩);(rw[hz]at h;injection h with h;subst h;exact oz h6);exact h5 y h));refine uA C ?_;intro _ C;refine uN C ((plN S s.tm - 1:Nat)) λC=> ?_
          refine uD C ?_;intro _ C;refine uC C (.bool false) (af ET rfl rfl) (λw hb=>aa ⟨cz,rfl,a1⟩ an gz.ok hs gz.good h3 _ (decide_eq_false oz) w hb) λC=> ?_
          refine uZ C ?_;intro _ C w' J;exact⟨C.ct,Ak⟩
         ·have gy:=hS.at F;injection e with e1 e2 e3;injection e1 with e1;injection e1 with e1 e4;subst e1;subst e4;subst e3;clear e2;obtain rfl:ob=decide (opp s.pose y.pose):=U.trans (decide_eq_decide.2 ⟨by rintro(⟨z',_,h,h6⟩ | ⟨y',h,h6⟩);(rw[hz]at h;injection h with h;subst h;exact absurd h6 oz);(rw[F]at h;injection h with h;subst h;exact h6),λh=>.inr ⟨y,F,h⟩⟩);refine uA C ?_;intro _ C;refine uN C ((plN S s.tm - 1:Nat)) λC=> ?_
          refine uD C ?_;intro _ C;refine uC C (.bool false) (af ET rfl rfl) (λw hb=>aa ⟨cz,rfl,a1⟩ an gz.ok hs gz.good h3 _ (decide_eq_false oz) w hb) λC=> ?_
          refine uD C ?_;intro _ C;refine uC C (_) (af ET rfl rfl) (λw hb=>aa an ⟨cy,rfl,Z⟩ hs gy.ok h3 gy.good _ rfl w hb) λC=> ?_
          refine uZ C ?_;intro _ C w' J;exact⟨C.ct,Ak⟩
       ·rcases b1 with⟨h4,h5⟩ | ⟨y,b',o',c',h4,F,e,f7,cy,Z,f8,f9⟩
        ·obtain rfl:ob=false:=U.trans (decide_eq_false (by rintro(⟨z',h,_⟩ | ⟨y,h,_⟩);exact h0 h;exact h5 y h));subst ab;refine uX C ?_;intro _ C w' J;exact⟨C.ct,Ak⟩
        ·have gy:=hS.at F;subst ab;injection e with e1 e2 e3;subst e1;subst e3;clear e2;obtain rfl:ob=decide (opp s.pose y.pose):=U.trans (decide_eq_decide.2 ⟨by rintro(⟨z',h,_⟩ | ⟨y',h,h6⟩);exact absurd h h0;(rw[F]at h;injection h with h;subst h;exact h6),λh=>.inr ⟨y,F,h⟩⟩);refine uA C ?_;intro _ C;refine uC C (_) (af ET rfl rfl) (λw hb=>aa an ⟨cy,rfl,Z⟩ hs gy.ok h3 gy.good _ rfl w hb) λC=> ?_
         refine uZ C ?_;intro _ C w' J;exact⟨C.ct,Ak⟩
      ·obtain⟨C,hb⟩:=hI
       cases ob with
       | true=>
        rw[if_pos (of_decide_eq_true U.symm)];refine mCt C ?_;refine sX C ?_;intro _ C;refine mT1 C ?_;exact⟨rfl,hx _ hb⟩
       | false=>
        refine ci C ?_;exact⟨C.ct,hb,rfl⟩
     ·obtain⟨C,hb,rfl⟩:=hI;rw[if_neg (of_decide_eq_false U.symm)];clear aa U a4 a3;subst ab;have I:∀w',mBw W w'->w'.heap[B]? =some (.cells (AN .i64 s.tm::cs).toArray 120 (0,0)):=λw' k=>(k.block B (A2.1 V.blk).1).trans V.blk
      have bz:cs.length=21:=by rw[aw Y];rfl
      have ar:=(A2.1 h.blk).1;refine BQ ?_;refine wp_region_held_drew (S:=λw'=>w'.heap[B]? =some (.cells (AN .i64 s.tm::cs).toArray 120 (0,0))) Aa (I _ hb.drew) (λhH=> ?_);have K:=hb.drew;refine yK 0 C hH λC=> ?_
      refine yK 1 C hH λC=> ?_
      refine yK 2 C hH λC=> ?_
      refine yK 3 C hH λC=> ?_
      refine yK 6 C hH λC=> ?_
      refine yK 7 C hH (λC=> ?_) (hy:=λa w C hw=>uw C rfl rfl (ld_st hw bz));refine yV 4 C _ _ (λe=>by cases e;exact uz C rfl rfl f0 K) hH λC=> ?_
      refine j3 C (i:=5) Aa rfl rfl rfl it (dN C rfl rfl rfl (af Tryz.func188 rfl rfl)) (yD _ S _ (hm.mono K).row no) (λe w4 hr=> ?_);obtain⟨v4,rfl,a5,a2,bi⟩:=hr;have ak:=K.trans (bi.mono K.size);refine⟨v4,rfl,I _ ak,λ_ C=> ?_⟩;refine j3 C (i:=8) Aa rfl rfl rfl it (dN C rfl rfl rfl (af Tryz.func165 rfl rfl)) (q_clS _ s w4 ⟨cs,rfl,(Y.mono V.bel).mono ak⟩ (hs.mono it)) (λe w5 hr=> ?_);obtain⟨_,rfl,⟨c5,rfl,aq⟩,ao⟩:=hr;have ap:=ak.trans (ao.mono ak.size);refine⟨_,rfl,I _ ap,λ_ C=> ?_⟩;have V6:=VB.new w5 stT (AN .i64 s.tm::c5).toArray (by simpa using sE aq);have am:=ap.trans (V6.bel.mono ap.size);refine yV 9 C _ _ (λe=>by cases e;exact lH C rfl rfl (acA (by rw[aw aq];rfl))) (I _ am) λC=> ?_
      have bO:=Vp.mono (Vp.mono a5 ao) V6.bel;have ax:∀b,v4.ownBlock=some b->b<w4.heap.size:=λb hb=>(Vp.ownr stT 22 S.length (bB S)).lt w4 v4 b a5 hb
      refine j3 C (i:=10) Aa rfl rfl rfl it (dN C rfl rfl rfl (af Tryz.func187 rfl rfl)) (q_InsertS v4 _ S s (plN S s.tm) _ bO (acB V6.blk (aq.mono V6.bel)) (λb hb a n c e=>by injection e with e;injection e with e;subst e;have:=ax b hb;have:=ao.size;show w5.heap.size≠b;omega) hp no) (λe w7 hr=> ?_);obtain⟨v7,rfl,au,bt,_,bq⟩:=hr;have G:mBw W w7:=am.grown bt am.size (λb h=>AG K.size (a2 b h));refine⟨_,rfl,I _ G,λ_ C=> ?_⟩;refine yV 11 C _ _ (λe=>by cases e;exact lG C rfl rfl) (I _ G) λC=> ?_
      refine yV 12 C _ _ (λe=>by cases e;exact acw C rfl rfl rfl) (I _ G) λC=> ?_
      obtain⟨a7,c7,rfl⟩:=jc (gB au);have a0:=(G.block g (Bv ar V.bel.size)).trans hm.blk;obtain⟨hM,hT⟩:=TrkM.set (sl:=.slice ad S.length c1) (S':=fF S (plN S s.tm) s) ar (Ent.kept.refl.below (V.bel.trans (G.mono V.bel.size))) a0 (λn e=>by cases e) (by rw[iN hp];exact gB au) (λb hb=>by
       refine⟨?_,vO au b hb⟩;have h1:=V.bel.size;have h2:=K.size;have h3:=am.size;rcases bq b hb with h | h
       ·have:=a2 b h;omega
       ·omega)
      refine yW 13 C _ (λe=>by cases e;exact kT C rfl rfl rfl (qJ a0)) ((Below.heap_setCell _ _ _ _ (by have:=V.ge;show B≠g;omega)).trans (I _ G)) λC=>wpAnyH_done Aa ?_ _
      clear bq au bt G a0 bO ax am V6 ap ao aq a2 a5 ak bi K hH I f0 f1 f2 f3;generalize w7.setCell ⟨g,0,none⟩ _=W8 at hM hT⊢;obtain⟨_,_,_,f8⟩:=hT.form;have hb:=AH W8.heap.size W8;have C:=C.ct (l':=[(0,ptG g)]);refine mUp ?_;by_cases h64:S.length<64
      ·rw[if_pos h64];refine sX C ?_;intro _ C;refine ci C ?_;refine sX C ?_;intro _ C;refine mT1 C ?_;exact⟨rfl,hM⟩
      ·rw[if_neg h64];obtain⟨y,hy,ay,_⟩:=rZ (p:=AD) (t:=183) (k:=1) Tryz.underlying183 Aa hT.row (by rw[iN hp];omega);rw[<-CB]at ay;refine sX C ?_;intro _ C;refine mCt C ?_;refine sA C ?_;intro _ C;refine wY C y (kx_sf C rfl rfl rfl hy) λC=> ?_
       refine wC C (af Tryz.func188 rfl rfl) (yD y _ W8 ay (by rw[CB,iN hp];omega)) λ{e w9} hr=> ?_
       obtain⟨v9,rfl,a6,b9,G⟩:=hr;refine⟨_,rfl,λ_ C=> ?_⟩;obtain⟨a9,c9,rfl⟩:=jc (gB a6);have bp:=(G.block g (Bv ar hM.kept.size)).trans hT.blk;obtain⟨b2,_⟩:=TrkM.set (sl:=.slice ad S.length c1) ar (hM.kept.below G) bp (λn e=>by cases e) (gB a6) (λb hb=>⟨AG hM.kept.size (b9 b hb),vO a6 b hb⟩);refine sD C ?_;intro _ C;refine wT C (_) (hr:=qJ bp) λC=> ?_
       refine wln ?_;refine mUp ?_;refine sX C ?_;intro _ C;refine mT1 C ?_;exact⟨rfl,b2⟩
   ·have e:(S,(4:Int))=fT S s:=(if_pos (.inr (.inr h3))).symm;rw[decide_eq_false h3]at C;refine sZ C ?_;intro _ C;refine mCt C ?_;refine sX C ?_;intro _ C;refine mT1 C ?_;exact⟨by rw[<-e],av _ ac e⟩
end
section
open Classical
noncomputable abbrev kM(a:Int)(p:Pq)(S:List St):List St×Int:=fT S ⟨a,p⟩
theorem aa8{a:Int}{cs:List Value}(h:TM w t m E)(U:TOk (trE E))(K:aR w (.agg cs.toArray) p)(h2:p.ok 2)(I:p.rot.comp/\p.pos.good):
  AF AD 69 #[ptB t,.string c,stV a cs] w λe w'=>∃E' J C,e= .returned (.int .i64 C)/\TPost w t m E w' E'/\REq (trE E') J/\SetS (kM a p) (trE E) c a J C:=by
 have Z:=K;obtain⟨G,F,hc⟩:=K;have F:cs=G:=by injection F with F;simpa using F
 subst F;refine q_Set h (aw hc) _ (λw' g sl S V hb ht=> ?_);obtain⟨l,hl,rfl⟩:=V;have Y:GoodS l.x.tr:=by
  unfold lsE at hl
  cases hch:chE E c with
  | none=>rw[hch]at hl;cases hl
  | some ch=>rw[hch]at hl;exact U.good _ (cG.2 ⟨ch,(cF hch).1,l,hl,rfl⟩)
 exact k_Add (s:=⟨a,p⟩) ht ⟨cs,rfl,aZ.mono hc hb⟩ h2 I Y
theorem q_FixP{cs:List Value}(h:TM w t m E)(J:TOk (trE E))(I:aR w (.agg cs.toArray) p)(h2:p.ok 2)(F:p.rot.comp/\p.pos.good):
  AF AD 70 #[ptB t,.string c,.agg cs.toArray] w λe w'=>∃E' G C,e= .returned (.int .i64 C)/\TPost w t m E w' E'/\REq (trE E') G/\FixS (decide p.good) p (trE E) c G C:=
 q_Fixed h J I (h2.mono it) (λ_ hb=>q_Val (I.mono hb) h2 F)
section
variable {R R':Tr} {c p:Nm} {a u e:Int} {q:Pq} {isN:Nm->Prop}
theorem DetS.tok(C:TOk R)(h:DetS R c u R' e):TOk R':=by
 cases h with
 | ok e h h1 h2=>subst e;exact C.det h h1 h2
 | _=>exact C
theorem SetS.tok(F:TOk R)(h2:q.ok 2)(h:SetS (kM a q) R c a R' e):TOk R':=by
 cases h with
 | ok e h hs=>
  subst e;rename_i A B x;have G:(c,x)∈A++(c,x)::B:=AJ.2 (.inr (Bo ..));exact F.same (c:=c) rfl rfl rfl (addQ_ok (F.good _ G) h2) (λC=>by simp only at C;rw[hs]at C;cases C)
 | _=>exact F
theorem FixS.tok(C:TOk R)(h2:q.ok 2)(h:FixS (decide q.good) q R c R' e):TOk R':=by
 cases h with
 | ok e h hs ht hp=>
  subst e;rename_i A B x;have F:(c,x)∈A++(c,x)::B:=AJ.2 (.inr (Bo ..));exact C.same (c:=c) rfl rfl rfl (C.good _ F) (λ_=>⟨of_decide_eq_true hp,h2⟩)
 | _=>exact C
theorem DetS.tsm(C:TSm R)(h:DetS R c u R' e):TSm R':=by
 cases h with
 | ok e h h1 h2=>subst e;exact C.mid rfl
 | _=>exact C
theorem SetS.tsm{add:List St->List St×Int}(C:TSm R)(h:SetS add R c a R' e):TSm R':=by
 cases h with
 | ok e h hs=>subst e;exact C.mid rfl
 | _=>exact C
theorem FixS.tsm{ok:Bool}(C:TSm R)(h:FixS ok q R c R' e):TSm R':=by
 cases h with
 | ok e h hs ht hp=>subst e;exact C.mid rfl
 | _=>exact C
def tk(isN:Nm->Prop)(R:Tr):Prop:=∀q∈R,isN q.1/\isN q.2.par
theorem tk.mid{A B:Tr}{x C:Lk}(h:tk isN (A++(c,x)::B))(e:C.par=x.par):tk isN (A++(c,C)::B):=λq F=>by
 rcases AJ.1 F with h1 | h1
 ·exact h q (AJ.2 (.inl h1))
 ·rcases AY.1 h1 with rfl | h1
  ·have:=h (c,x) (AJ.2 (.inr (Bo ..)));exact⟨this.1,by rw[e];exact this.2⟩
  ·exact h q (AJ.2 (.inr (List.mem_cons_of_mem _ h1)))
theorem tk.att{f:Int}(h:tk isN R)(hc:isN c)(hp:isN p):tk isN (jA R c p f):=λq C=>by
 rcases AJ.1 C with h1 | h1
 ·exact h q h1
 ·simp only[List.mem_singleton]at h1;subst h1;exact⟨hc,hp⟩
theorem tk.req(h:tk isN R)(e:REq R R'):tk isN R':=λq C=>h q ((e.mem q).2 C)
structure Ax where
 k:Nat
 c:Nm
 p:Nm
 a:Int
 q:Pq
def DoS(R:Tr)(s:Ax)(R':Tr)(e:Int):Prop:=
 if s.k=1 then DetS R s.c s.a R' e else if s.k=2 then SetS (kM s.a s.q) R s.c s.a R' e else if s.k=3 then FixS (decide s.q.good) s.q R s.c R' e else AttS bX R s.c s.p s.a R' e
structure Sane(R:Tr):Prop where
 ok:TOk R
 sm:TSm R
 nm:tk bX R
theorem Sane.nil:Sane []:=⟨.nil,.nil,λ_ h=>by cases h⟩
theorem Sane.req(h:Sane R)(e:REq R R'):Sane R':=⟨h.ok.of_req e,h.sm.of_req e,h.nm.req e⟩
theorem DoS.sane{s:Ax}(h:Sane R)(h2:s.q.ok 2)(d:DoS R s R' e):Sane R':=by
 unfold DoS at d;split at d
 ·refine⟨d.tok h.ok,d.tsm h.sm,?_⟩
  cases d with
  | ok e _ _ _=>have:=h.nm;rw[e]at this;exact this.mid rfl
  | _=>exact h.nm
 ·split at d
  ·refine⟨d.tok h.ok h2,d.tsm h.sm,?_⟩
   cases d with
   | ok e _ _=>have:=h.nm;rw[e]at this;exact this.mid rfl
   | _=>exact h.nm
  ·split at d
   ·refine⟨d.tok h.ok h2,d.tsm h.sm,?_⟩
    cases d with
    | ok e _ _ _ _=>have:=h.nm;rw[e]at this;exact this.mid rfl
    | _=>exact h.nm
   ·refine⟨d.tok h.ok,d.tsm h.sm,?_⟩
    cases d with
    | ok hn _ _ _ _ _ _ _ _=>exact h.nm.att hn.1 hn.2
    | _=>exact h.nm
end
structure TInv(w0 w:World)(t m:Nat)(E:List Ch):Prop where
 tm:TM w t m E
 sane:Sane (trE E)
 own:∀g∈fpT t m E,w0.heap.size<=g
 bel:mBw w0 w
variable{w0:World}
theorem TPost.bel{E':List Ch}(h:TPost w t m E w' E')(o:∀g∈fpT t m E,w0.heap.size<=g)(b:AW w0.heap.size w0 w):mBw w0 w':=
 ⟨h.kp.os.trans b.os,h.kp.tape.trans b.tape,h.kp.output.trans b.output,AG b.size h.kp.size,λk C=>(h.kp.block k (Bv C b.size) (λF=>by have:=o k F;omega)).trans (b.block k C)⟩
theorem TInv.next{E':List Ch}{R':Tr}{s:Ax}{e:Int}(h:TInv w0 w t m E)(k:TPost w t m E w' E')(r:REq (trE E') R')(d:DoS (trE E) s R' e)(h2:s.q.ok 2):TInv w0 w' t m E':=
 ⟨k.tm,(d.sane h.sane h2).req r.symm,λg C=>(k.fp g C).elim (h.own g) (λh1=>AG h.bel.size h1),k.bel h.own h.bel⟩
theorem TInv.below(h:TInv w0 w t m E)(b:AW w.heap.size w w'):TInv w0 w' t m E:=⟨h.tm.below b,h.sane,h.own,h.bel.trans (b.mono h.bel.size)⟩
end
section
open Go.ChangeShapes Go.WideShapes Go.ChangeAt Go.RowKit
structure Stp where
 k:Int
 c:Int
 p:Int
 a:Int
 x:Int
 u:Int
def Stp.cs(s:Stp):List Value:=[.int .u8 s.k,.int .u8 s.c,.int .u8 s.p,.int .i16 s.a,.int .i8 s.x,.int .u8 s.u]
abbrev Stp.val(s:Stp):Value:=.agg s.cs.toArray
structure Stp.Ok(s:Stp):Prop where
 k:0<=s.k/\s.k<256
 c:0<=s.c/\s.c<256
 p:0<=s.p/\s.p<256
 a: -32768<=s.a/\s.a<32768
 x: -128<=s.x/\s.x<128
 u:0<=s.u/\s.u<256
def io(w:World)(v:Value)(R:List Stp):Prop:=(R=[]/\∃a c,v= .slice a 0 c)\/∃b o c,v= .slice (some ⟨b,o,none⟩) R.length c/\R≠ []/\b<w.heap.size/\∀i s,R[i]? =some s->∀j u,s.cs[j]? =some u->w.cell? ⟨b,o+(i*6+j),none⟩=some u
theorem io.below{R:List Stp}(h:io w v R)(k:AW w.heap.size w w'):io w' v R:=
 h.imp id (λ⟨b,o,c,e,hn,hb,C⟩=>⟨b,o,c,e,hn,Bv hb k.size,λi s hi j u F=>by rw[k.cell (p:=⟨b,_,none⟩) hb];exact C i s hi j u F⟩)
section
variable {H:Type} {enc:TypeId×Value->H} {W:World}
variable{t:Int}
theorem sF(h:(Lit.int .u8 t).wf=true):0<=t/\t<256:=by
 simp[Lit.wf,IntKind.min,IntKind.max,IntKind.wrap,IntKind.bits,Fh]at h;omega
theorem i16_wf(h:(Lit.int .i16 t).wf=true): -32768<=t/\t<32768:=by
 simp[Lit.wf,IntKind.min,IntKind.max,IntKind.wrap,IntKind.bits,Fh]at h;omega
theorem i8_wf(h:(Lit.int .i8 t).wf=true): -128<=t/\t<128:=by
 simp[Lit.wf,IntKind.min,IntKind.max,IntKind.wrap,IntKind.bits,Fh]at h;omega
theorem open_stp{fuel:Nat}{l:List Value}{x:DataW H×List MemPlace}(hl:l.length=6)(hf:DataW.trod enc AD W 0 (λ_=>true) true fuel 67 l=some x):∃s:Stp,s.Ok/\l=s.cs:=by
 have h8:AD.cellsOf 5=1:=Aa
 have G:AD.cellsOf 49=1:=Aa
 have I:AD.cellsOf 65=1:=Aa
 obtain⟨xs,n,_,hx,_,F,C⟩:=DataW.trod_struct Tryz.underlying67 hf
 match xs,F with
 | [y0,y1,y2,y3,y4,y5],_=>
  have J:=C 0 _ rfl;have K:=C 1 _ rfl;have k2:=C 2 _ rfl;have k3:=C 3 _ rfl;have U:=C 4 _ rfl;have V:=C 5 _ rfl;simp[Value.cells,h8,G,I]at J K k2 k3 U V
  match l,hl with
  | [u0,u1,u2,u3,u4,u5],_=>
   simp at J K k2 k3 U V;obtain⟨t0,Y,f0⟩:=Dr Dq J;obtain⟨t1,Z,f1⟩:=Dr Dq K;obtain⟨t2,e2,f2⟩:=Dr Dq k2;obtain⟨t3,e3,f3⟩:=Dr Tryz.underlying49 k3;obtain⟨t4,e4,f4⟩:=Dr Tryz.underlying65 U;obtain⟨t5,e5,f5⟩:=Dr Dq V;simp at Y Z e2 e3 e4 e5;subst Y Z e2 e3 e4 e5;exact⟨⟨t0,t1,t2,t3,t4,t5⟩,⟨sF f0.2,sF f1.2,sF f2.2,i16_wf f3.2,i8_wf f4.2,sF f5.2⟩,rfl⟩
theorem lI{d:DataW H}{p:List MemPlace}{base:Nat}(ab:Value.okWide AD W .any base 62 v)(h:DataW.Trod enc AD W 0 (λ_=>true) true 62 v d p):
  ∃R:List Stp,(∀s∈R,s.Ok)/\io W v R:=by
 obtain⟨a0,C,Y,rfl⟩:=okWide_slice Tryz.underlying62 ab;obtain⟨fuel,hf⟩:=h;have ad:AD.cellsOf 67=6:=Aa
 rcases Go.Deep.open_slice Tryz.underlying62 hf with⟨K,_⟩ | ⟨a,len,cap,m,n,D,Pl,K,_,am,_,hm,_,hx⟩
 ·simp[Value.cells]at K;obtain⟨rfl,rfl,rfl⟩:=K;exact⟨[],λ_ h=>(by cases h),.inl ⟨rfl,_,_,rfl⟩⟩
 ·simp[Value.cells]at K;obtain⟨rfl,rfl,rfl⟩:=K;have an:C<=m:=by rw[hm];split<;>omega
  by_cases h0:C=0
  ·subst h0;exact⟨[],λ_ h=>(by cases h),.inl ⟨rfl,_,_,rfl⟩⟩
  ·have F:∀i,i<C->∃G,(∀j,j<6->W.cell? ((a.add (i*6)).add j)=G[j]?)/\G.length=6/\DataW.trod enc AD W 0 (λ_=>true) true n 67 G=some (D i,Pl i):=λi hi=>by
    obtain⟨G,h1,h2⟩:=hx i no;rw[ad]at h1;obtain⟨_,hl,I⟩:=World.cells?_some h1;exact⟨G,I,hl,h2⟩
   obtain⟨b,o,ac⟩:=a;have V:ac=none:=by
    obtain⟨G,h1,h2,_⟩:=F 0 no;have h3:=h1 0 no;rw[AM (show 0<G.length by omega)]at h3;have h4:=World.cell?_spot h3;simpa [Addr.add]using h4
   subst V;simp only[bQ]at F;have ak:∀i,∃s:Stp,i<C->s.Ok/\∀j u,s.cs[j]? =some u->W.cell? ⟨b,o+(i*6+j),none⟩=some u:=by
    intro i;by_cases hi:i<C
    ·obtain⟨G,I,hl,h2⟩:=F i hi;obtain⟨s,hs,rfl⟩:=open_stp hl h2;refine⟨s,λ_=>⟨hs,λj u hu=> ?_⟩⟩;have hj:j<6:=by have:=(A1.1 hu).1;exact this
     rw[<-C3,I j hj];exact hu
    ·exact⟨⟨0,0,0,0,0,0⟩,λh=>absurd h hi⟩
   obtain⟨f,Z⟩:=Classical.axiomOfChoice ak;have J:((Bm C).map f).length=C:=Ad
   have U:∀i s,((Bm C).map f)[i]? =some s->i<C/\s=f i:=λi s hi=>by
    have aa:i<C:=by have:=(A1.1 hi).1;rw[J]at this;exact this
    rw[Bp,Et aa]at hi;exact⟨aa,by simpa using hi.symm⟩
   refine⟨(Bm C).map f,λs hs=> ?_,.inr ⟨b,o,Y,by rw[J],λe=> ?_,?_,λi s hi=> ?_⟩⟩
   ·obtain⟨i,hi,e⟩:=BL hs;obtain⟨h1,h2⟩:=U i s AB;subst h2;exact(Z i h1).1
   ·rw[e]at J;exact h0 J.symm
   ·obtain⟨G,h1,h2,_⟩:=F 0 no;have h3:=h1 0 no;rw[AM (show 0<G.length by omega)]at h3;unfold World.cell? at h3;split at h3
    ·rename_i hh;exact(A2.1 hh).1
    ·cases h3
   ·obtain⟨h1,h2⟩:=U i s hi;subst h2;exact(Z i h1).2
end
end
def jw:ByteArray:=ByteArray.mk #[102,103,104,105,106,107,108,109,110,111,112,113,114,115,116,117,118,119,120,121,122,97,98,99,100,101,65,66,67,68,69,70]
def bM(n:Int):Nm:=if n % 31=30 then sq else jw.extract (n % 31).toNat ((n % 31).toNat+1)
theorem tab_one:∀k:Nat,k<30->bX (jw.extract k (k+1)):=by
 have h:∀k:Fin 30,∃c:UInt8,((97<=c.toNat/\c.toNat<=122)\/(65<=c.toNat/\c.toNat<=90))/\(jw.extract k (k+1)).data.toList=[c]:=by
  intro k;refine⟨jw.data[k.1]?.getD 0,?_⟩
  revert k
  decide
 intro k C;obtain⟨c,h1,h2⟩:=h ⟨k,C⟩;have h3:(jw.extract k (k+1)).data=#[c]:=by rw[<-Array.toList_inj];exact h2
 have e:jw.extract k (k+1)=nm1 c:=by
  cases hx:jw.extract k (k+1)with
  | mk d=>rw[hx]at h3;simp only at h3;rw[h3]
 rw[e];exact acp h1
theorem kE(n:Int)(h:0<=n):Nam (bM n):=by
 unfold bM;split
 ·exact .inr rfl
 ·exact .inl (tab_one _ no)
theorem run_slS{t:TypeId}{s:ByteArray}{c u:Int}(ht:aab AD t=true)(h0:0<=c)(h1:c<=u)(h2:u<=s.size):(D4 t (.string s) (some (.int .i64 c)) (some (.int .i64 u)) none).run AD w= .ok (.string (s.extract c.toNat u.toNat)) w:=by
 have h3:0<=u:=no
 have C:c<=(u.toNat:Int):=no
 have F:c<=max u 0:=no
 simp[D4,Instr.sliceBounds,Instr.sliceBound,asIntOf,AK,run_underlying (str_under ht),AU,h0,h1,h2,h3,C,F]
theorem gE(n:Int)(h:0<=n/\n<256):AF AD 39 #[.int .u8 n] w λe w'=>e= .returned (.string (bM n))/\w'=w:=by
 obtain⟨m,I⟩:∃m,m=n.tmod 31:=⟨_,rfl⟩;have C:n % 31=m:=by rw[I,Int.tmod_eq_emod_of_nonneg h.1]
 have J:0<=m:=no
 have V:m<31:=no
 have U:=I.symm;have F:=AE (show bM n=if m=30 then sq else jw.extract m.toNat (m.toNat+1)by unfold bM;rw[C]);clear I C;by_cases c:m=30
 ·have G:=AE (show bM n=sq by rw[F.out,if_pos c]);subst c;clear F h;go_enter C0,Tryz.ntmps39
  go_wp2;go_ret;rw[G.out];exact Ai
 ·have G:=AE (show bM n=jw.extract m.toNat (m.toNat+1)by rw[F.out,if_neg c]);have Z:(m==30)=false:=beq_eq_false_iff_ne.2 c;have K:m+1<=32:=no
  have ht:(m+1).toNat=m.toNat+1:=no
  have Y:(D4 9 (.string (ByteArray.mk #[102,103,104,105,106,107,108,109,110,111,112,113,114,115,116,117,118,119,120,121,122,97,98,99,100,101,65,66,67,68,69,70])) (some (.int .i64 m)) (some (.int .i64 (m+1))) none).run AD w= .ok (.string (jw.extract m.toNat (m.toNat+1))) w:=by
   rw[<-ht];exact run_slS (s:=jw) Aa J no (by have:(jw.size:Int)=32:=rfl;omega)
  clear F c h K ht;go_enter C0,Tryz.ntmps39
  go_wp2;go_ret;rw[G.out];exact Ai
section
variable {w:World} {c p:Nm} {a:Int} {v:Value}
end
section
open Classical
def axOf(s:Stp):Ax:=⟨if s.k % 5=2 then 1 else if s.k % 5=3 then 2 else if s.k % 5=4 then 3 else 0,bM s.c,bM s.p,s.a,dx s.x s.u⟩
theorem kF(x u:Int):(dx x u).rot.comp/\(dx x u).pos.good:=⟨⟨aB _,aB _,aB _,aB _⟩,⟨aB _,aB _,aB _⟩⟩
theorem oo{x u:Int}(C: -128<=x/\x<128)(_:0<=u/\u<256):(dx x u).ok 2:=by
 have h:∀v:Int, -300<=v->v<300->(Fq.ofInt v).ok 2:=λv h1 h2=>aL _ no no
 refine⟨⟨?_,h 0 no no,h 0 no no,h _ no no⟩,⟨h x no no,h 0 no no,h 0 no no⟩⟩;show(Fq.ofInt (if u % 8=7 then 2 else 1)).ok 2;split
 ·exact h 2 no no
 ·exact h 1 no no
def DoPost(w:World)(t m:Nat)(E:List Ch)(x:Ax)(e:By)(w':World):Prop:=∃E' R' code,e= .returned (.int .i64 code)/\TPost w t m E w' E'/\REq (trE E') R'/\DoS (trE E) x R' code
end
section
open Go.RowKit Go.Maps Go.Sort Go.Shelf
def Tryz.keysB_ren:Go.Shelf.Ren:=⟨λ| 7=>88 | 10=>152 | n=>n,λ| 23=>150 | 26=>9 | 3=>4 | 28=>148 | 0=>0 | 27=>147 | 33=>166 | 4=>4 | n=>n,λ| n=>n⟩
theorem Tryz.keysB:Go.Proofs.SlLaysZ.n7 AD Tryz.keysB_ren:= {
 mixed:=Aa
 f7:=⟨Tryz.f88.name,it,Tryz.func88.trans (congrArg some Aa)⟩
 f10:=⟨Tryz.f152.name,it,Tryz.func152.trans (congrArg some Aa)⟩
 t0:=Fu
 a0:=Tryz.isAgg0
 z0:=Tryz.sizeOf0
 v0:=Fv
 t4:=DI
 a4:=Tryz.isAgg4
 z4:=Tryz.sizeOf4
 v4:=FQ
 t23:=Tryz.underlying150
 a23:=Tryz.isAgg150
 z23:=Tryz.sizeOf150
 v23:=Tryz.zeroValue150
 t26:=DG
 a26:=Tryz.isAgg9
 z26:=Tryz.sizeOf9
 v26:=Fw
 t27:=Tryz.underlying147
 a27:=Tryz.isAgg147
 z27:=Tryz.sizeOf147
 v27:=Tryz.zeroValue147
 t28:=Tryz.underlying148
 a28:=Tryz.isAgg148
 z28:=Tryz.sizeOf148
 v28:=Tryz.zeroValue148
 t33:=Tryz.underlying166
 a33:=Tryz.isAgg166
 z33:=Tryz.sizeOf166
 v33:=Tryz.zeroValue166}
def Tryz.sortedS_ren:Go.Shelf.Ren:=⟨λ| 6=>87 | 8=>150 | 9=>151 | 11=>205 | 13=>174 | 12=>206 | 23=>232 | 24=>233 | 14=>246 | 15=>247 | 16=>248 | 17=>249 | 18=>250 | 19=>251 | 20=>252 | 21=>253 | 22=>254 | 25=>282 | 26=>274 | 27=>275 | 28=>283 | 29=>284 | 30=>285 | 31=>303 | n=>n,λ| 26=>9 | 28=>148 | 24=>68 | 0=>0 | 3=>3 | 37=>234 | 48=>237 | 50=>178 | 4=>4 | 40=>273 | 39=>272 | 45=>277 | 5=>5 | 9=>9 | 51=>299 | 55=>303 | 57=>309 | 58=>310 | 33=>166 | n=>n,λ| n=>n⟩
theorem Tryz.sortedS:Go.Proofs.SlLaysZ.n6 AD Tryz.sortedS_ren:= {
 mixed:=Aa
 f6:=⟨Tryz.f87.name,it,Tryz.func87.trans (congrArg some Aa)⟩
 f8:=⟨Tryz.f150.name,it,Tryz.func150.trans (congrArg some Aa)⟩
 f11:=⟨Tryz.f205.name,it,Tryz.func205.trans (congrArg some Aa)⟩
 t0:=Fu
 a0:=Tryz.isAgg0
 z0:=Tryz.sizeOf0
 v0:=Fv
 t24:=DJ
 a24:=Tryz.isAgg68
 z24:=Tryz.sizeOf68
 v24:=Tryz.zeroValue68
 t26:=DG
 a26:=Tryz.isAgg9
 z26:=Tryz.sizeOf9
 v26:=Fw
 t28:=Tryz.underlying148
 a28:=Tryz.isAgg148
 z28:=Tryz.sizeOf148
 v28:=Tryz.zeroValue148
 i26:=by kernel_rfl}
def Tryz.sortS_ren:Go.Shelf.Ren:=⟨λ| 6=>151 | 8=>174 | 9=>206 | 19=>232 | 20=>233 | 21=>246 | 22=>247 | 23=>248 | 24=>249 | 25=>250 | 26=>251 | 27=>252 | 28=>253 | 29=>254 | 36=>282 | 31=>274 | 32=>275 | 37=>283 | 38=>284 | 39=>285 | 41=>303 | n=>n,λ| 27=>68 | 29=>9 | 3=>3 | 32=>234 | 26=>68 | 0=>0 | 44=>237 | 46=>178 | 4=>4 | 36=>273 | 35=>272 | 41=>277 | 5=>5 | 9=>9 | 53=>299 | 57=>303 | 63=>309 | 64=>310 | n=>n,λ| n=>n⟩
theorem Tryz.sortS:Go.Proofs.SlLaysM.n6 AD Tryz.sortS_ren:= {
 mixed:=Aa
 f6:=⟨Tryz.f151.name,it,Tryz.func151.trans (congrArg some Aa)⟩
 f8:=Tryz.func174.trans (congrArg some Aa)
 f9:=⟨Tryz.f206.name,it,Tryz.func206.trans (congrArg some Aa)⟩
 f19:=Tryz.func232.trans (congrArg some Aa)
 f20:=Tryz.func233.trans (congrArg some Aa)
 f21:=⟨Tryz.f246.name,it,Tryz.func246.trans (congrArg some Aa)⟩
 f22:=⟨Tryz.f247.name,it,Tryz.func247.trans (congrArg some Aa)⟩
 f23:=⟨Tryz.f248.name,it,Tryz.func248.trans (congrArg some Aa)⟩
 f24:=⟨Tryz.f249.name,it,Tryz.func249.trans (congrArg some Aa)⟩
 f25:=⟨Tryz.f250.name,it,Tryz.func250.trans (congrArg some Aa)⟩
 f26:=⟨Tryz.f251.name,it,Tryz.func251.trans (congrArg some Aa)⟩
 f27:=⟨Tryz.f252.name,it,Tryz.func252.trans (congrArg some Aa)⟩
 f28:=⟨Tryz.f253.name,it,Tryz.func253.trans (congrArg some Aa)⟩
 f29:=⟨Tryz.f254.name,it,Tryz.func254.trans (congrArg some Aa)⟩
 f31:=Tryz.func274.trans (congrArg some Aa)
 f32:=Tryz.func275.trans (congrArg some Aa)
 f36:=⟨Tryz.f282.name,it,Tryz.func282.trans (congrArg some Aa)⟩
 f37:=⟨Tryz.f283.name,it,Tryz.func283.trans (congrArg some Aa)⟩
 f38:=⟨Tryz.f284.name,it,Tryz.func284.trans (congrArg some Aa)⟩
 f39:=⟨Tryz.f285.name,it,Tryz.func285.trans (congrArg some Aa)⟩
 f41:=⟨Tryz.f303.name,it,Tryz.func303.trans (congrArg some Aa)⟩
 t0:=Fu
 a0:=Tryz.isAgg0
 z0:=Tryz.sizeOf0
 v0:=Fv
 t3:=Tryz.underlying3
 a3:=Tryz.isAgg3
 z3:=Tryz.sizeOf3
 v3:=Tryz.zeroValue3
 t4:=DI
 a4:=Tryz.isAgg4
 z4:=Tryz.sizeOf4
 v4:=FQ
 t5:=Dq
 a5:=Tryz.isAgg5
 z5:=Tryz.sizeOf5
 v5:=Tryz.zeroValue5
 t9:=DG
 a9:=Tryz.isAgg9
 z9:=Tryz.sizeOf9
 v9:=Fw
 t26:=DJ
 a26:=Tryz.isAgg68
 z26:=Tryz.sizeOf68
 v26:=Tryz.zeroValue68
 t27:=DJ
 a27:=Tryz.isAgg68
 z27:=Tryz.sizeOf68
 v27:=Tryz.zeroValue68
 t29:=DG
 a29:=Tryz.isAgg9
 z29:=Tryz.sizeOf9
 v29:=Fw
 t32:=Tryz.underlying234
 a32:=Tryz.isAgg234
 z32:=Tryz.sizeOf234
 v32:=Tryz.zeroValue234
 t35:=Tryz.underlying272
 a35:=Tryz.isAgg272
 z35:=Tryz.sizeOf272
 v35:=Tryz.zeroValue272
 t36:=Tryz.underlying273
 a36:=Tryz.isAgg273
 z36:=Tryz.sizeOf273
 v36:=Tryz.zeroValue273
 t41:=Tryz.underlying277
 a41:=Tryz.isAgg277
 z41:=Tryz.sizeOf277
 v41:=Tryz.zeroValue277
 t44:=Tryz.underlying237
 a44:=Tryz.isAgg237
 z44:=Tryz.sizeOf237
 v44:=Tryz.zeroValue237
 t46:=Tryz.underlying178
 a46:=Tryz.isAgg178
 z46:=Tryz.sizeOf178
 v46:=Tryz.zeroValue178
 t53:=Tryz.underlying299
 a53:=Tryz.isAgg299
 z53:=Tryz.sizeOf299
 v53:=Tryz.zeroValue299
 t57:=Tryz.underlying303
 a57:=Tryz.isAgg303
 z57:=Tryz.sizeOf303
 v57:=Tryz.zeroValue303
 t63:=Tryz.underlying309
 a63:=Tryz.isAgg309
 z63:=Tryz.sizeOf309
 v63:=Tryz.zeroValue309
 t64:=Tryz.underlying310
 a64:=Tryz.isAgg310
 z64:=Tryz.sizeOf310
 v64:=Tryz.zeroValue310}
theorem Tryz.sortsS(m:Nat):AnyZ.SortsIn AD Tryz.sortedS_ren Ce m:=
 ⟨λblk off cap I W G C F=>callsIn_wide.2 (AnyM.slices_Sort_string Tryz.sortS blk off cap I W G C F),
  λp cap W=>callsIn_wide.2 (AnyM.slices_Sort_string_none Tryz.sortS p cap W)⟩
theorem Tryz.maps_Keys_B(C:Option Nat)(W:World):CallsIn Ce 5 AD 88 #[.map C] W λe w'=>e= .returned (.func (.func 152) #[] #[.pointer (some ⟨W.heap.size,0,none⟩)])/\w'=W.alloc (.cells #[.map C] 150):=
 AnyZ.keys_in Tryz.keysB Ce 5 trivial rfl C W
set_option maxHeartbeats 1000000 in
theorem Tryz.slices_Sorted_keys_B{H:Type}(b nn:Nat)(D0:DataW H)(R:Value->Option (DataW H×List MemPlace))(w:World)(hown:w.ownsMap AD 9 R b nn D0)(hmax:Maps.size D0<=maxLen)(hbytes:Maps.size D0*16<=140737488355328):
  CallsIn Ce 5 AD 87 #[.func (.func 152) #[] #[.pointer (some ⟨w.heap.size,0,none⟩)]] (w.alloc (.cells #[.map (some b)] 150)) λe w'=>∃(v:Value) (ss:List (List UInt8)),e= .returned v/\ss.Perm (strKeys D0)/\
   w'.ownsRow (w.alloc (.cells #[.map (some b)] 150)).heap.size 9 1 v ss.length ((ss.mergeSort (λx y=>decide (x<=y))).map encStr)/\(v= .slice none 0 0↔ss=[])/\AW (w.alloc (.cells #[.map (some b)] 150)).heap.size (w.alloc (.cells #[.map (some b)] 150)) w':=by
 have hbl:=hown.lt;have hseq:SeqGives Ce 2 AD 152 #[.pointer (some ⟨w.heap.size,0,none⟩)] encStr (λss=>ss.Perm (strKeys D0)) (Maps.size D0) (w.alloc (.cells #[.map (some b)] 150)):=
  AnyZ.keys_gives (ρ:=Tryz.keysB_ren) {Tryz.keysB with} Ce _ trivial rfl no w.heap.size b nn D0 _ Ad Ad (by
   obtain⟨es,clock,hb,Ft,hs,hD⟩:=hown;exact⟨es,clock,(Fx _ _ b hbl).trans hb,Ft,hs,hD⟩)
 exact AnyZ.sorted_in Tryz.sortedS Ce 5 trivial trivial trivial trivial rfl no (Tryz.sortsS _) (enters_of Tryz.func151 Aa rfl) 152 #[.pointer (some ⟨w.heap.size,0,none⟩)] trivial (enters_of Tryz.func152 Aa rfl) _ _ hmax hbytes _ hseq
def Tryz.keysL_ren:Go.Shelf.Ren:=⟨λ| 7=>91 | 10=>154 | n=>n,λ| 23=>142 | 26=>9 | 3=>158 | 28=>148 | 0=>0 | 27=>147 | 33=>166 | 4=>4 | n=>n,λ| n=>n⟩
theorem Tryz.keysL:Go.Proofs.SlLaysZ.n7 AD Tryz.keysL_ren:= {
 mixed:=Aa
 f7:=⟨Tryz.f91.name,it,Tryz.func91.trans (congrArg some Aa)⟩
 f10:=⟨Tryz.f154.name,it,Tryz.func154.trans (congrArg some Aa)⟩
 t0:=Fu
 a0:=Tryz.isAgg0
 z0:=Tryz.sizeOf0
 v0:=Fv
 t4:=DI
 a4:=Tryz.isAgg4
 z4:=Tryz.sizeOf4
 v4:=FQ
 t23:=Tryz.underlying142
 a23:=Tryz.isAgg142
 z23:=Tryz.sizeOf142
 v23:=Tryz.zeroValue142
 t26:=DG
 a26:=Tryz.isAgg9
 z26:=Tryz.sizeOf9
 v26:=Fw
 t27:=Tryz.underlying147
 a27:=Tryz.isAgg147
 z27:=Tryz.sizeOf147
 v27:=Tryz.zeroValue147
 t28:=Tryz.underlying148
 a28:=Tryz.isAgg148
 z28:=Tryz.sizeOf148
 v28:=Tryz.zeroValue148
 t33:=Tryz.underlying166
 a33:=Tryz.isAgg166
 z33:=Tryz.sizeOf166
 v33:=Tryz.zeroValue166}
theorem Tryz.maps_Keys_L(C:Option Nat)(W:World):CallsIn Ce 5 AD 91 #[.map C] W λe w'=>e= .returned (.func (.func 154) #[] #[.pointer (some ⟨W.heap.size,0,none⟩)])/\w'=W.alloc (.cells #[.map C] 142):=
 AnyZ.keys_in Tryz.keysL Ce 5 trivial rfl C W
set_option maxHeartbeats 1000000 in
theorem Tryz.slices_Sorted_keys_L{H:Type}(b nn:Nat)(D0:DataW H)(R:Value->Option (DataW H×List MemPlace))(w:World)(hown:w.ownsMap AD 9 R b nn D0)(hmax:Maps.size D0<=maxLen)(hbytes:Maps.size D0*16<=140737488355328):
  CallsIn Ce 5 AD 87 #[.func (.func 154) #[] #[.pointer (some ⟨w.heap.size,0,none⟩)]] (w.alloc (.cells #[.map (some b)] 142)) λe w'=>∃(v:Value) (ss:List (List UInt8)),e= .returned v/\ss.Perm (strKeys D0)/\
   w'.ownsRow (w.alloc (.cells #[.map (some b)] 142)).heap.size 9 1 v ss.length ((ss.mergeSort (λx y=>decide (x<=y))).map encStr)/\(v= .slice none 0 0↔ss=[])/\AW (w.alloc (.cells #[.map (some b)] 142)).heap.size (w.alloc (.cells #[.map (some b)] 142)) w':=by
 have hbl:=hown.lt;have hseq:SeqGives Ce 2 AD 154 #[.pointer (some ⟨w.heap.size,0,none⟩)] encStr (λss=>ss.Perm (strKeys D0)) (Maps.size D0) (w.alloc (.cells #[.map (some b)] 142)):=
  AnyZ.keys_gives (ρ:=Tryz.keysL_ren) {Tryz.keysL with} Ce _ trivial rfl no w.heap.size b nn D0 _ Ad Ad (by
   obtain⟨es,clock,hb,Ft,hs,hD⟩:=hown;exact⟨es,clock,(Fx _ _ b hbl).trans hb,Ft,hs,hD⟩)
 exact AnyZ.sorted_in Tryz.sortedS Ce 5 trivial trivial trivial trivial rfl no (Tryz.sortsS _) (enters_of Tryz.func151 Aa rfl) 154 #[.pointer (some ⟨w.heap.size,0,none⟩)] trivial (enters_of Tryz.func154 Aa rfl) _ _ hmax hbytes _ hseq
end
section
open Go.MapKept Go.WideShapes
abbrev Re0:Value->Option (DataW Unit×List MemPlace):=λ_=>some (.lit (.bool true),[])
variable{l:List (ByteArray×Value)}
theorem dH.owns{k:TypeId}{b:Nat}(h:dH w b l)(hk:P.underlying k=some .string)(hs:l.length<=maxLen)(hn:∀p∈l,p.1.size<=maxLen):
  ∃D:DataW Unit,w.ownsMap P k Re0 b l.length D/\(strKeys D).Perm (l.map λp=>p.1.data.toList)/\Maps.size D=l.length:=by
 obtain⟨es,C,hb,U,J⟩:=h;have F:es.size=l.length:=by have:=congrArg List.length J;simpa using this
 have G:∀x∈es.toList,∃p∈l,x.key= .string p.1/\Go.WideElems.rd P k Re0 x=some (.string p.1.data.toList,.lit (.bool true)):=λx V=>by
  obtain⟨j,hj,e⟩:=BL V;obtain⟨p,h1,h2,_⟩:=kC J (j:=j) (e:=x) (by rw[AM hj,e]);refine⟨p,A5 h1,h2,?_⟩;have h3:=hn p (A5 h1);have Y:p.1.data.size<=maxLen:=h3;simp[Go.WideElems.rd,keyOf,hk,mapKey,h2,Re0,h3]
 have hf:Go.WideElems.Fit P k Re0 es C:=⟨no,U,λx V=>by obtain⟨p,_,_,h⟩:=G x V;exact⟨_,h⟩⟩;refine⟨.map ((es.toList.map (FR P k Re0)).foldr DataW.insert []),⟨es,C,hb,hf,no,rfl⟩,?_,?_⟩
 ·have h1:=(sorted_perm (es.toList.map (FR P k Re0))).map (λp=>strOf p.1);refine List.Perm.trans h1 ?_;rw[CF];have e:es.toList.map ((λp=>strOf p.1)∘ FR P k Re0)=l.map λp=>p.1.data.toList:=by
   apply List.ext_getElem?;intro j;rw[Bp,Bp];have K:=mv J j
   cases h2:es.toList[j]? with
   | none=>
    rw[h2]at K
    cases h3:l[j]? with
    | none=>rfl
    | some p=>rw[h3]at K;cases K
   | some x=>
    obtain⟨p,h3,Y,_⟩:=kC J h2;obtain⟨p',_,I,Z⟩:=G x (A5 h2);rw[Y]at I;injection I with I;rw[h3];simp[FR,Z,strOf,I]
  rw[e]
 ·show((es.toList.map (FR P k Re0)).foldr DataW.insert []).length=_;rw[length_sorted,Cj,Array.length_toList,F]
def txt(x:List UInt8):Nm:=⟨x.toArray⟩
theorem txt_of(c:Nm):txt c.data.toList=c:=by simp[txt]
theorem of_txt(x:List UInt8):(txt x).data.toList=x:=by simp[txt]
abbrev aa9(a b:Nm):Prop:=a.data.toList<=b.data.toList
theorem pQ{D:DataW Unit}{C:List (List UInt8)}(hl:(l.map (·.1)).Nodup)(hp:(strKeys D).Perm (l.map λp=>p.1.data.toList))(I:C.Perm (strKeys D)):
  ∃L:List Nm,((C.mergeSort (λx y=>decide (x<=y))).map encStr)=L.map Bc/\L.length=C.length/\L.Perm (l.map (·.1))/\L.Nodup/\L.Pairwise aa9:=by
 have G:(C.mergeSort (λx y=>decide (x<=y))).Perm C:=List.mergeSort_perm ..;have F:((C.mergeSort (λx y=>decide (x<=y))).map txt).Perm (l.map (·.1)):=by
  have h1:=(G.trans (I.trans hp)).map txt;rw[CF]at h1;have e:(l.map (txt ∘ λp=>p.1.data.toList))=l.map (·.1):=List.map_congr_left (λp _=>txt_of p.1);rwa [e]at h1
 refine⟨(C.mergeSort (λx y=>decide (x<=y))).map txt,?_,Ad,F,F.nodup_iff.2 hl,?_⟩
 ·rw[CF];rfl
 ·rw[List.pairwise_map];have h2:(C.mergeSort (λx y=>decide (x<=y))).Pairwise (λa b=>leB a b=true):=List.pairwise_mergeSort (λa b c h1 h2=>by simp only[leB,decide_eq_true_eq]at *;exact List.le_trans h1 h2) (λa b=>by simp only[leB,Bool.or_eq_true,decide_eq_true_eq];exact List.le_total a b) C;refine h2.imp (λ{a b} h=> ?_);show(txt a).data.toList<=(txt b).data.toList;rw[of_txt,of_txt];simpa [leB]using h
abbrev aU(w:World)(b0:Nat)(v:Value)(L:List Nm):Prop:=w.ownsRow b0 9 1 v L.length (L.map Bc)
theorem q_keysB{b:Nat}{l:List Nm}(h:jV w b l)(hs:l.length<=1000000)(hn:∀x∈l,x.size<=maxLen):
  (AF AD 88 #[.map (some b)] w λe w'=>e= .returned (.func (.func 152) #[] #[.pointer (some ⟨w.heap.size,0,none⟩)])/\w'=w.alloc (.cells #[.map (some b)] 150))/\
  AF AD 87 #[.func (.func 152) #[] #[.pointer (some ⟨w.heap.size,0,none⟩)]] (w.alloc (.cells #[.map (some b)] 150)) λe w'=>∃v L,e= .returned v/\aU w' w.heap.size v L/\L.Perm l/\L.Nodup/\L.Pairwise aa9/\(v= .slice none 0 0↔L=[])/\mBw w w':=by
 have U:(1000000:Nat)<=maxLen:=by unfold maxLen;omega
 obtain⟨D,G,hp,hz⟩:=dH.owns (P:=AD) (k:=9) h Aa (by rw[Cj];omega) (λp hp=>by obtain⟨c,hc,rfl⟩:=List.mem_map.1 hp;exact hn c hc);rw[Cj]at G hz;refine⟨callsIn_wide.1 (Tryz.maps_Keys_B (some b) w),(callsIn_wide.1 (Tryz.slices_Sorted_keys_B b l.length D Re0 w G no no)).mono ?_⟩;rintro e w' ⟨v,V,rfl,K,F,C,hb⟩;obtain⟨L,h1,h2,h3,I,J⟩:=pQ (dH.nodup h) hp K;rw[CF]at h3;have e:(l.map ((λp:ByteArray×Value=>p.1)∘ λc=>(c,Value.bool true)))=l:=by simp[Function.comp_def]
 rw[e]at h3;refine⟨v,L,rfl,?_,h3,I,J,?_,((AH _ w).alloc (AI _) _).trans (hb.mono (by rw[asz];omega))⟩
 ·show w'.ownsRow w.heap.size 9 1 v L.length (L.map Bc);rw[<-h1,h2];exact E4 F (by rw[asz];omega)
 ·rw[C];constructor
  ·intro h;apply CG;rw[h2,h];rfl
  ·intro h;apply CG;rw[<-h2,h];rfl
theorem q_Frames(h:TM w t m E)(hS:TSm (trE E))(hN:∀x,aF (trE E) x->x.size<=maxLen):AF AD 33 #[ptB t] w λe w'=>∃v L,e= .returned v/\aU w' w.heap.size v L/\(∀x,x∈L↔aF (trE E) x)/\L.Nodup/\L.Pairwise aa9/\(v= .slice none 0 0↔L=[])/\L.length<=24/\mBw w w':=by
 have Z:=my h;have H:=AE (BA hS hN);clear h hS hN;go_enter Tryz.func33,Tryz.ntmps33
 go_wp2_with (first
  | (go_at_call 89;refine Z.mono ?_;rintro e w1 ⟨b,l,rfl,K,U,hl,hb⟩;have hc:l.length<=24:=(by obtain⟨⟨⟨n,h1,h2⟩,_⟩,_⟩:=H.out;rw[ck.uniq ⟨l,K.nodup,λx=>(hl x).trans kD,rfl⟩ h2];exact h1);obtain⟨V,Y⟩:=q_keysB K no (λx hx=>H.out.2 x (kD.1 ((hl x).1 hx)));have HB:=AE (BA hb (BA hl hc));clear hb hl hc K U)
  | (go_at_call 88;refine V.mono ?_;rintro e w2 ⟨rfl,rfl⟩)
  | (go_at_call 87;refine Y.mono ?_;rintro e w3 ⟨v,L,rfl,F,hp,I,J,C,G⟩;have HR:=AE (BA F (BA hp (BA I (BA J (BA C G)))));clear F hp I J C G))
 go_ret;obtain⟨F,hp,I,J,C,G⟩:=HR.out;obtain⟨hb,hl,hc⟩:=HB.out;exact⟨v,L,rfl,E4 F hb.size,λx=>(hp.mem_iff).trans ((hl x).trans kD),I,J,C,by rw[hp.length_eq];exact hc,hb.trans (G.mono hb.size)⟩
end
section
open Classical
theorem TInv.new{w1:World}(h:TM w1 t m [])(ht:w.heap.size<=t)(F:w.heap.size<=m)(hb:AW w.heap.size w w1):TInv w w1 t m []:=
 ⟨h,.nil,λg C=>by
  simp only[fpT,List.flatMap_nil,AY,List.not_mem_nil,or_false]at C;rcases C with rfl | rfl
  ·exact ht
  ·exact F,hb⟩
theorem TInv.att{w0:World}{E':List Ch}{R':Tr}{p:Nm}{f e:Int}(h:TInv w0 w t m E)(k:TPost w t m E w' E')(r:REq (trE E') R')(d:AttS bX (trE E) c p f R' e):TInv w0 w' t m E':=
 h.next (s:=⟨0,c,p,f,Pq.id⟩) (e:=e) k r (by unfold DoS;exact d) Pq.ok.id
theorem oq{a b:UInt8}(h:a≠b):nm1 a≠nm1 b:=λe=>h (by
 have:=congrArg ByteArray.data e;simpa [nm1]using this)
abbrev nA:Nm:=nm1 97
abbrev nB:Nm:=nm1 98
theorem nAB:nA≠nB:=oq it
theorem iA:bX nA:=acp (.inl ⟨it,it⟩)
theorem iB:bX nB:=acp (.inl ⟨it,it⟩)
theorem q_ParentS{p:Nm}{a:Int}(h:TM w t m E)(hp:par (trE E) a c=some p):AF AD 34 #[ptB t,.string c,.int .i64 a] w λe w'=>e= .returned (.tuple #[.string p,.bool true])/\w'=w:=by
 have h1:=yO h c a;unfold par at hp;rw[<-h.tAt]at hp
 cases hl:atE E c a with
 | none=>rw[hl]at hp;cases hp
 | some l=>
  rw[hl]at hp h1;have e:l.x.par=p:=by injection hp
  rw[<-e];exact h1
theorem q_ParentN{a:Int}(h:TM w t m E)(hp:par (trE E) a c=none):AF AD 34 #[ptB t,.string c,.int .i64 a] w λe w'=>e= .returned (.tuple #[.string BZ,.bool false])/\w'=w:=by
 have h1:=yO h c a;unfold par at hp;rw[<-h.tAt]at hp
 cases hl:atE E c a with
 | none=>rw[hl]at h1;exact h1
 | some l=>rw[hl]at hp;cases hp
end
section
open Classical
section
variable {w w':World} {b sz n j:Nat} {T:TypeId} {v u:Value} {xs:List Value} {ad:Option A0} {cap:Nat}
theorem en(h:w.ownsRow b T sz v n xs)(k:∀g,v.ownBlock=some g->w'.heap[g]? =w.heap[g]?):w'.ownsRow b T sz v n xs:=
 ⟨h.1,h.2.imp id λ⟨g,cap,cur,e,hb,C,F⟩=>⟨g,cap,cur,e,hb,by rw[k g (by rw[e];rfl)];exact C,F⟩⟩
theorem cf(h:w.ownsRow b T sz v n xs){g:Nat}(C:v.ownBlock=some g):b<=g/\g<w.heap.size:=by
 rcases h.2 with⟨rfl,_⟩ | ⟨F,cap,cur,rfl,hb,hc,_⟩
 ·cases C
 ·have e:F=g:=A4.inj C;subst e;exact⟨hb,(A2.1 hc).1⟩
theorem cV(h:w.ownsRow b T sz v n xs):∃ad cap,v= .slice ad n cap:=by
 rcases h.2 with⟨rfl,rfl⟩ | ⟨C,cap,cur,rfl,_⟩
 ·exact⟨_,_,rfl⟩
 ·exact⟨_,_,rfl⟩
theorem di(h:w.ownsRow b T sz (.slice ad n cap) n xs)(G:xs[j]? =some u):∃g,ad=some ⟨g,0,none⟩/\w.cell? ⟨g,j,none⟩=some u:=by
 rcases h.2 with⟨e,rfl⟩ | ⟨F,C,cur,e,_⟩
 ·have:xs=[]:=CG (by rw[h.1];omega);subst this;cases G
 ·injection e with I _ _;subst I;have:=h.cells (g:=F) rfl j u G;rw[bQ,A7]at this;exact⟨F,rfl,this⟩
theorem a8.keep(h:a8 w T sz v n xs)(k:∀g,v.ownBlock=some g->w'.heap[g]? =w.heap[g]?):a8 w' T sz v n xs:=
 ⟨en h.1 k,λg C=>by
  obtain⟨cs,t,h1,h2⟩:=h.2 g C;exact⟨cs,t,by rw[k g C];exact h1,h2⟩⟩
theorem mE{p:AZ}{t ty e:TypeId}{bytes:Nat}(ht:p.underlying t=some (.slice e))(F:appB p e sz bytes=true)(V:a8 w e sz v n xs){a:A0}{c:Nat}{news:List Value}(hl:news.length=m*sz)(C:∀j u,news[j]? =some u->w.cell? (a.add j)=some u)(h1:∀u∈news,u.oneCell'=true)(G:∀u∈news,noU u)
  (U:0<m)(hb:(n+m)*bytes<=140737488355328)(hn:n+m<=1000000000000000):
  ∃v' w',(BT #[t,t] ty #[v,.slice (some a) m c]).run p w= .ok v' w'/\w.grownBy w' v.ownBlock/\(∀g,v'.ownBlock=some g->v.ownBlock=some g\/w.heap.size<=g)/\a8 w' e sz v' (n+m) (xs++news):=by
 unfold appB at F;split at F
 ·rename_i ti hi;simp only[BU,beq_iff_eq,decide_eq_true_eq]at F;obtain⟨hz,h3,J,K⟩:=F;split at hz
  ·rename_i z I;simp only[BU,beq_iff_eq]at hz;subst h3;subst J;obtain⟨v',w',Z,k2,_,k4,k5⟩:=vM (ty:=ty) (c:=c) ht hi I hz.1 K (λu Y n e=>by
    have:=Cc.1 hz.2 u Y;subst e;exact Bool.noConfusion (show false=true from this)) V hl C h1 G U hb hn
   exact⟨v',w',Z,k2,k4,k5⟩
  ·cases hz
 ·cases F
end
theorem jk{o:Oper}{v':Value}{s x:AS}{t:TypeId}(C:o.guard=none)
  (F:o.op= .call {callee:=.builtin .append,args:=#[s,x],argTypes:=#[t,t]}){y:Value}(hs:a.eval s=v)(G:a.eval x=y)(hr:(BT #[t,t] o.type #[v,y]).run P w= .ok v' w')(h:wpList P ops Q rest (a.put o.dst v') w'):wpList P ops Q (o::rest) a w:=
 ae C (by
  unfold execOp;simp only[F,resolve,invoke,builtin,AK,Bu,CM,CJ,Bq,BS,hs,G,hr]) h
theorem io.row{R:List Stp}(h:io w v R):∃ad c,v= .slice ad R.length c/\∀i s,R[i]? =some s->∃b o,ad=some ⟨b,o,none⟩/\b<w.heap.size/\w.rangeAt b (o+i*6) s.cs:=by
 rcases h with⟨rfl,a,c,rfl⟩ | ⟨b,o,c,rfl,_,hb,C⟩
 ·exact⟨a,c,rfl,λi s hi=>by cases i<;>cases hi⟩
 ·exact⟨_,c,rfl,λi s hi=>⟨b,o,rfl,hb,λj u F=>by rw[C3];exact C i s hi j u F⟩⟩
noncomputable def pOf(R:Tr)(a:Int)(c:Nm):Nm:=(par R a c).getD BZ
theorem q_ParentG(h:TM w t m E)(c:Nm)(a:Int):AF AD 34 #[ptB t,.string c,.int .i64 a] w λe w'=>e= .returned (.tuple #[.string (pOf (trE E) a c),.bool (par (trE E) a c).isSome])/\w'=w:=by
 cases hp:par (trE E) a c with
 | some p=>unfold pOf;rw[hp];exact q_ParentS h hp
 | none=>unfold pOf;rw[hp];exact q_ParentN h hp
theorem axOf_q{s:Stp}(hs:s.Ok):(axOf s).q.ok 2:=oo hs.x hs.u
theorem Sane.short{R:Tr}(h:Sane R){x:Nm}(F:aF R x):x.size<=maxLen:=by
 obtain⟨q,C,h1 | h1⟩:=F
 ·rw[<-h1];exact AG (h.nm q C).1.2.1 it
 ·rw[<-h1];exact AG (h.nm q C).2.2.1 it
end
section
open Classical
abbrev rlT:TypeId:=162
abbrev rrT:TypeId:=81
abbrev rkT:TypeId:=185
structure Rl where
 c:Nm
 x:Lk
 g:Nat
 sl:Value
def Rl.qs(l:Rl):List Vp:=lnQ l.c ⟨l.x,0,l.g,l.sl⟩
def rlQ(L:List Rl):List Vp:=L.flatMap Rl.qs
def trR(L:List Rl):Tr:=L.map λl=>(l.c,l.x)
def fpR(t:Nat)(v:Value)(L:List Rl):List Nat:=t::(v.ownBlock.toList++L.flatMap λl=>l.g::l.sl.ownBlock.toList)
structure RM(w:World)(t:Nat)(v:Value)(L:List Rl):Prop where
 tr:w.heap[t]? =some (.cells #[v] rrT (0,0))
 row:∃xs,a8 w rlT 27 v L.length xs/\aO w (rlQ L) xs
 trk:∀l∈L,TrkS rkT w l.g l.sl l.x.tr
 nd:(fpR t v L).Nodup
 own:∀g∈fpR t v L,bv w g
theorem gG(l:Rl):l.qs.length=27:=rfl
theorem wk:∀ {L:List Rl} {k j:Nat} {l:Rl},L[k]? =some l->j<27->(rlQ L)[k*27+j]? =l.qs[j]?
 | [],_,_,_,h,_=>by cases h
 | l'::L,0,j,l,h,hj=>by
  injection h with h;subst h;show(l'.qs++rlQ L)[0*27+j]? =_;rw[Nat.zero_mul,A7,List.getElem?_append_left (by rw[gG];exact hj)]
 | l'::L,k+1,j,l,h,hj=>by
  show(l'.qs++rlQ L)[(k+1)*27+j]? =_;rw[List.getElem?_append_right (by rw[gG];omega),gG,show(k+1)*27+j - 27=k*27+j by omega];exact wk (L:=L) h hj
theorem qK:∀L:List Rl,(rlQ L).length=L.length*27
 | []=>rfl
 | l::L=>by
  show(l.qs++rlQ L).length=_;rw[List.length_append,gG,qK L,Bh];omega
section
variable {w w':World} {t:Nat} {v:Value} {L:List Rl} {k j:Nat} {l:Rl} {u:Value}
theorem RM.chg{X:Nat->Prop}(h:RM w t v L)(c:Chg w w' X)(F:∀g∈fpR t v L,¬X g):RM w' t v L:=by
 obtain⟨h1,h2,h3,I,G⟩:=h;refine⟨by rw[c.blk _ (A2.1 h1).1 (F _ (by simp[fpR]))];exact h1,?_,λl hl=> ?_,I,λg C=>(G g C).blk (c.blk g (G g C).1 (F g C)) c.size⟩
 ·obtain⟨xs,J,k2⟩:=h2;exact((Vp.ownr rlT 27 L.length (rlQ L)).ch w w' X v ⟨xs,J,k2⟩ c (λg C=>F g (by have C:v.ownBlock=some g:=C;simp[fpR,C]))).1
 ·refine(h3 l hl).chg c (F _ ?_) (λb hb=>F b ?_)
  ·simp only[fpR,AY,AJ,Br];exact .inr (.inr ⟨l,hl,.inl rfl⟩)
  ·simp only[fpR,AY,AJ,Br];exact .inr (.inr ⟨l,hl,.inr (by simp[hb])⟩)
theorem RM.below(h:RM w t v L)(b:AW w.heap.size w w'):RM w' t v L:=h.chg (.below b) (λ_ _ h=>h)
theorem RM.lt(h:RM w t v L):∀g∈fpR t v L,g<w.heap.size:=λg C=>(h.own g C).1
theorem RM.cell(h:RM w t v L):w.cell? ⟨t,0,none⟩=some v:=by rw[aH h.tr];rfl
theorem RM.form(h:RM w t v L):∃ad c,v= .slice ad L.length c:=by
 obtain⟨xs,h1,_⟩:=h.row;exact cV h1.1
structure LkAt(w:World)(b k:Nat)(l:Rl)(cs:List Value):Prop where
 len:cs.length=27
 rg:w.rangeAt b (k*27) cs
 c:w.cell? ⟨b,k*27,none⟩=some (.string l.c)
 par:w.cell? ⟨b,k*27+1,none⟩=some (.string l.x.par)
 fr:w.cell? ⟨b,k*27+2,none⟩=some (.int .i64 l.x.fr)
 un:w.cell? ⟨b,k*27+3,none⟩=some (.int .i64 l.x.un)
 st:w.cell? ⟨b,k*27+4,none⟩=some (.bool l.x.st)
 tp:w.cell? ⟨b,k*27+26,none⟩=some (ptB l.g)
 k2:cs[2]? =some (.int .i64 l.x.fr)
 k3:cs[3]? =some (.int .i64 l.x.un)
 qs:aO w l.qs cs
theorem RM.at(h:RM w t v L)(U:L[k]? =some l):∃b c cs,v= .slice (some ⟨b,0,none⟩) L.length c/\LkAt w b k l cs:=by
 obtain⟨ad,c,e⟩:=h.form;obtain⟨xs,⟨h1,_⟩,h3⟩:=h.row;rw[e]at h1;have Y:=(A1.1 U).1;have aa:xs.length=L.length*27:=by rw[h3.1,qK]
 have G:∀j v,j<27->l.qs[j]? =some (.val v)->xs[k*27+j]? =some v:=λj v C hv=>by
  obtain⟨u,V,k2,_⟩:=h3.2 (k*27+j) _ (by rw[wk U C];exact hv);have J:u=v:=k2.1;rw[V,J]
 have h0:=G 0 _ it rfl;obtain⟨b,rfl,h2⟩:=di h1 h0;have hc:∀j u,xs[j]? =some u->w.cell? ⟨b,j,none⟩=some u:=λj u C=>by
  obtain⟨g,I,J⟩:=di h1 C;injection I with I;injection I with I _ _;subst I;exact J
 have K:∀j u,j<27->xs[k*27+j]? =some u->((xs.drop (k*27)).take 27)[j]? =some u:=λj u C Z=>by rw[BJ,if_pos C,Cw];exact Z
 refine⟨b,c,(xs.drop (k*27)).take 27,e,⟨by simp;omega,λj u C=> ?_,hc _ _ h0,hc _ _ (G 1 _ it rfl),hc _ _ (G 2 _ it rfl),hc _ _ (G 3 _ it rfl),hc _ _ (G 4 _ it rfl),hc _ _ (G 26 _ it rfl),K _ _ it (G 2 _ it rfl),K _ _ it (G 3 _ it rfl),⟨by rw[gG];simp;omega,λj q C=>by
  have F:j<27:=(A1.1 C).1;obtain⟨u,V,k2,k3⟩:=h3.2 (k*27+j) q (by rw[wk U F];exact C);exact⟨u,K j u F V,k2,k3⟩⟩⟩⟩
 rw[BJ]at C;split at C
 ·rw[Cw]at C;exact hc _ _ C
 ·cases C
end
theorem link_size{cs:List Value}(h:cs.length=27):(AD.info? rlT).map (·.size)=some cs.length:=by rw[h];kernel_rfl
set_option maxHeartbeats 1000000 in
theorem q_holds{cs:List Value}{x:Lk}{a:Int}(hl:cs.length=27)(h2:cs[2]? =some (.int .i64 x.fr))(h3:cs[3]? =some (.int .i64 x.un)):
  AF AD 162 #[.agg cs.toArray,.int .i64 a] w λe w'=>e= .returned (.bool (x.has a))/\AW w.heap.size w w':=by
 obtain⟨w1,J⟩:∃w1,w.alloc (.cells cs.toArray rlT)=w1:=⟨_,rfl⟩;have I:AW w.heap.size w w1:=by rw[<-J];exact(AH _ _).alloc (AI _) _
 have C:w1.heap[w.heap.size]? =some (.cells cs.toArray rlT (0,0)):=by rw[<-J];exact Bs w _
 have f2:w1.cell? ⟨w.heap.size,2,none⟩=some (.int .i64 x.fr):=by rw[aH C];simpa using h2
 have Y:w1.cell? ⟨w.heap.size,3,none⟩=some (.int .i64 x.un):=by rw[aH C];simpa using h3
 have K:=AE I;generalize Z:w.heap.size=B at *;clear I C hl h2 h3;have F:x.has a=(decide (x.fr<=a) && (decide (x.un= -1) || decide (a<x.un))):=rfl;by_cases g1:x.fr<=a
 ·have U:decide (x.fr<=a)=true:=decide_eq_true g1;rw[U]at F;by_cases g2:x.un= -1
  ·have V:(x.un== -1)=true:=by simp[g2]
   rw[decide_eq_true g2]at F;have G:=AE F;clear F g1 g2;go_enter Tryz.func162,Tryz.ntmps162
   go_wp2;go_ret;exact⟨by rw[G.out];rfl,K.out⟩
  ·have V:(x.un== -1)=false:=by simp[g2]
   rw[decide_eq_false g2]at F;have G:=AE F;clear F g1 g2;go_enter Tryz.func162,Tryz.ntmps162
   go_wp2;go_ret;exact⟨by rw[G.out];rfl,K.out⟩
 ·have U:decide (x.fr<=a)=false:=decide_eq_false g1;rw[U]at F;have G:=AE F;clear F g1;go_enter Tryz.func162,Tryz.ntmps162
  go_wp2;go_ret;exact⟨by rw[G.out];rfl,K.out⟩
end
section
open Classical
theorem eo{o:Oper}(F:A6 o (yielded ops a.tmps)=true)
  (h:∀K:Act->World->Prop,(∀a w,wpList P ops Q rest a w->K a w)->o.wp P a w K Q):wpList P ops Q (o::rest) a w:=wpList_step λK C=>by rw[if_pos F];exact h K C
theorem kV{d:Nm}(h:c=d):(Fp c==Fp d)=true:=by subst h;simp
variable{L:List Rl}
theorem j5{l:Rl}(h:L[k]? =some l):(trR L)[k]? =some (l.c,l.x):=by unfold trR;rw[Bp,h];rfl
theorem kG{q:Nm×Lk}(h:(trR L)[k]? =some q):∃l,L[k]? =some l/\q=(l.c,l.x):=by
 unfold trR at h;rw[Bp]at h
 cases hl:L[k]? with
 | none=>rw[hl]at h;cases h
 | some l=>rw[hl]at h;injection h with h;exact⟨l,rfl,h.symm⟩
def PlS(L:List Rl)(c:Nm)(a:Int)(i:Int):Prop:=(i= -1/\PlNo (trR L) c a)\/∃(k:Nat)(l:Rl),i=(k:Int)/\L[k]? =some l/\l.c=c/\PlAt (trR L) c a k l.x
set_option maxHeartbeats 2000000 in
theorem mF(h:RM w t v L)(c:Nm)(a:Int)(hn:L.length<=1000000):AF AD 96 #[ptB t,.string c,.int .i64 a] w λe w'=>∃i,e= .returned (.int .i64 i)/\PlS L c a i/\mBw w w':=by
 have HM:=AE (show∀wq,mBw w wq->RM wq t v L from λwq k=>h.below k);obtain⟨ad,cp,hv⟩:=h.form;obtain⟨n,hN⟩:∃n,n=L.length:=⟨_,rfl⟩;have HN:=AE hN;rw[<-hN]at hv hn;subst hv;have an:(n:Int)<=1000000:=no
 clear h hN hn;go_enter Tryz.func96,Tryz.ntmps96
 go_wp2;go_loopw [7] (λs7 wr=>∃k:Nat,k<=n/\s7= .int .i64 (k:Int)/\Hid (mBw w wr)/\Hid (∀i l,i<k->L[i]? =some l->¬(l.c=c/\l.x.has a=true))) (λs7 _=>n - (intOf s7).toNat)
 case atStart=>exact⟨0,A3 _,rfl,AE (AH _ _),AE (λi l hi=>absurd hi (Dd _))⟩
 case round=>
  obtain⟨k,hk,rfl,I,HO⟩:=hrel;have ac:=(HM.out wr I.out).cell;rcases Bg k n with ab | ak
  ·have am:(k:Int)<(n:Int):=no
   obtain⟨l,hl⟩:∃l,L[k]? =some l:=⟨_,AM (by rw[<-HN.out];exact ab)⟩;obtain⟨b,c2,cs,e,A⟩:=(HM.out wr I.out).at hl;injection e with U _ e3;subst U;subst e3;have fc:=A.c;have Z:=AE hl;have HA:=AE A;have Y:=q_holds (w:=wr) (x:=l.x) (a:=a) A.len A.k2 A.k3;have aa:=AE (link_size A.len);clear A hl;go_upto_region 4 with(fail)
   by_cases g1:l.c=c
   ·have q1:=kV g1;refine Bn ?_;refine BC rfl (λK C=> ?_);go_simp;refine C _ _ ?_;clear C K;refine BC rfl (λK C=> ?_);go_simp;refine C _ _ ?_;clear C K;refine BC rfl (λK C=> ?_);go_simp;refine C _ _ ?_;clear C K;refine BC rfl (λK C=> ?_);go_simp;refine C _ _ ?_;clear C K;refine BC rfl (λK C=> ?_);go_simp;refine C _ _ ?_;clear C K;refine BC rfl (λK C=> ?_);go_simp;refine C _ _ ?_;clear C K;refine BC rfl (λK C=> ?_);go_simp;refine C _ _ ?_;clear C K;refine BC rfl (λK C=> ?_);go_simp;refine C _ _ ?_;clear C K;refine BC rfl (λK C=> ?_);go_simp;refine C _ _ ?_;clear C K;refine BC rfl (λK C=> ?_);go_simp;refine C _ _ ?_;clear C K;refine BC rfl (λK C=> ?_);go_simp;refine C _ _ ?_;clear C K;refine eo ?_ (λK C=> ?_)
    ·rfl
    go_simp;refine C _ _ ?_;clear C K;refine eo ?_ (λK C=> ?_)
    ·rfl
    go_simp;refine C _ _ ?_;clear C K;refine eo ?_ (λK C=> ?_)
    ·rfl
    go_simp;refine C _ _ ?_;clear C K;refine eo ?_ (λK C=> ?_)
    ·rfl
    go_simp;refine C _ _ ?_;clear C K;refine eo ?_ (λK C=> ?_)
    ·rfl
    go_simp;refine C _ _ ?_;clear C K;refine eo ?_ (λK C=> ?_)
    ·rfl
    go_simp;refine C _ _ ?_;clear C K;refine eo ?_ (λK C=> ?_)
    ·rfl
    refine wp_load_mid _ _ rfl b (k*27) rfl cs _ HA.out.rg Tryz.underlying162 rfl aa.out ?_;refine C _ _ ?_;clear C K;refine eo ?_ (λK C=> ?_)
    ·rfl
    go_simp;refine C _ _ ?_;clear C K;refine eo ?_ (λK C=> ?_)
    ·rfl
    go_simp;go_at_call 162
    refine Y.mono ?_;rintro e w2 ⟨rfl,V⟩;refine C _ _ ?_;have J:=AE (I.out.trans (V.mono I.out.size));clear C K Y V
    cases hh:l.x.has a with
    | true=>
     go_wp2;go_ret;exact⟨_,rfl,.inr ⟨k,l,rfl,Z.out,g1,by rw[<-g1];exact j5 Z.out,hh,λi q hi hq ⟨U,e2⟩=>by
      obtain⟨G,k1,rfl⟩:=kG hq;exact HO.out i G hi k1 ⟨U,e2⟩⟩,J.out⟩
    | false=>
     go_wp2;go_roundw
     case rel=>exact⟨k+1,no,by go_num,J,AE (λi G hi F=>by
      rcases Bg i k with h | h
      ·exact HO.out i G h F
      ·obtain rfl:i=k:=no
       rw[Z.out]at F;injection F with F;subst F;exact λe=>by rw[hh]at e;cases e.2)⟩
     case measure=>simp[intOf];omega
   ·have q1:=gW g1;go_wp2;go_roundw
    case rel=>exact⟨k+1,no,by go_num,I,AE (λi G hi F=>by
     rcases Bg i k with h | h
     ·exact HO.out i G h F
     ·obtain rfl:i=k:=no
      rw[Z.out]at F;injection F with F;subst F;exact λe=>g1 e.1)⟩
    case measure=>simp[intOf];omega
  ·obtain rfl:k=n:=no
   go_wp2;go_ret;exact⟨_,rfl,.inl ⟨rfl,λi q hq ⟨U,e2⟩=>by
    obtain⟨G,k1,rfl⟩:=kG hq;exact HO.out i G (by have:=(A1.1 k1).1;rw[HN.out];exact this) k1 ⟨U,e2⟩⟩,I.out⟩
end
section
open Classical
def OpS(L:List Rl)(c:Nm)(i:Int):Prop:=(i= -1/\sd (trR L) c)\/∃(k:Nat)(l:Rl),i=(k:Int)/\L[k]? =some l/\l.c=c/\eT (trR L) c k l.x
variable{L:List Rl}
set_option maxHeartbeats 2000000 in
theorem wm(h:RM w t v L)(c:Nm)(hn:L.length<=1000000):AF AD 155 #[ptB t,.string c] w λe w'=>∃i,e= .returned (.int .i64 i)/\OpS L c i/\w'=w:=by
 have aa:=h.cell;have HM:=AE h;obtain⟨ad,cp,hv⟩:=h.form;obtain⟨n,U⟩:∃n,n=L.length:=⟨_,rfl⟩;have HN:=AE U;rw[<-U]at hv hn;subst hv;have ak:(n:Int)<=1000000:=no
 clear h U hn;go_enter Tryz.func155,Tryz.ntmps155
 go_wp2;go_loopw [5] (λs5 wr=>∃k:Nat,k<=n/\s5= .int .i64 (k:Int)/\wr=w/\Hid (∀i l,i<k->L[i]? =some l->¬(l.c=c/\l.x.un= -1))) (λs5 _=>n - (intOf s5).toNat)
 case atStart=>exact⟨0,A3 _,rfl,rfl,AE (λi l hi=>absurd hi (Dd _))⟩
 case round=>
  obtain⟨k,hk,rfl,Z,HO⟩:=hrel;obtain rfl:=Z;rcases Bg k n with V | ab
  ·have ac:(k:Int)<(n:Int):=no
   obtain⟨l,hl⟩:∃l,L[k]? =some l:=⟨_,AM (by rw[<-HN.out];exact V)⟩;obtain⟨b,c2,cs,e,A⟩:=HM.out.at hl;injection e with K _ e3;subst K;subst e3;have fc:=A.c;have fu:=A.un;have J:=AE hl;clear A hl;have I:=AE (show¬(l.c=c/\l.x.un= -1)->∀i G,i<k+1->L[i]? =some G->¬(G.c=c/\G.x.un= -1)from λY i G hi C=>by
    rcases Bg i k with h | h
    ·exact HO.out i G h C
    ·obtain rfl:i=k:=no
     rw[J.out]at C;injection C with C;subst C;exact Y)
   by_cases g1:l.c=c
   ·have q1:=kV g1;by_cases g2:l.x.un= -1
    ·have q2:(l.x.un== -1)=true:=by simp[g2]
     have F:=AE (BA g1 g2);clear g1 g2;go_wp2;go_ret;exact⟨_,rfl,.inr ⟨k,l,rfl,J.out,F.out.1,by rw[<-F.out.1];exact j5 J.out,F.out.2⟩,rfl⟩
    ·have q2:(l.x.un== -1)=false:=by simp[g2]
     have F:=AE g2;clear g1 g2;go_wp2;go_roundw
     case rel=>exact⟨k+1,no,by go_num,by trivial,AE (I.out (λe=>F.out e.2))⟩
     case measure=>simp[intOf];omega
   ·have q1:=gW g1;have F:=AE g1;clear g1;go_wp2;go_roundw
    case rel=>exact⟨k+1,no,by go_num,by trivial,AE (I.out (λe=>F.out e.1))⟩
    case measure=>simp[intOf];omega
  ·obtain rfl:k=n:=no
   go_wp2;go_ret;exact⟨_,rfl,.inl ⟨rfl,λi q hq ⟨K,e2⟩=>by
    obtain⟨G,k1,rfl⟩:=kG hq;exact HO.out i G (by have:=(A1.1 k1).1;rw[HN.out];exact this) k1 ⟨K,e2⟩⟩,rfl⟩
theorem j6:aF (trR L) c↔∃(i:Nat)(l:Rl),L[i]? =some l/\(l.c=c\/l.x.par=c):=by
 unfold aF;constructor
 ·rintro⟨q,C,h⟩;obtain⟨i,hi⟩:=Dn C;obtain⟨l,F,rfl⟩:=kG hi;exact⟨i,l,F,h⟩
 ·rintro⟨i,l,h1,h2⟩;exact⟨_,A5 (j5 h1),h2⟩
set_option maxHeartbeats 2000000 in
theorem iT(h:RM w t v L)(c:Nm)(hn:L.length<=1000000):AF AD 103 #[ptB t,.string c] w λe w'=>e= .returned (.bool (decide (aF (trR L) c)))/\w'=w:=by
 have aa:=h.cell;have HM:=AE h;obtain⟨ad,cp,hv⟩:=h.form;obtain⟨n,I⟩:∃n,n=L.length:=⟨_,rfl⟩;have Y:=AE I;rw[<-I]at hv hn;subst hv;have ak:(n:Int)<=1000000:=no
 clear h I hn;go_enter Tryz.func103,Tryz.ntmps103
 go_wp2;go_loopw [5] (λV wr=>∃k:Nat,k<=n/\V= .int .i64 (k:Int)/\wr=w/\Hid (∀i l,i<k->L[i]? =some l->¬(l.c=c\/l.x.par=c))) (λV _=>n - (intOf V).toNat)
 case atStart=>exact⟨0,A3 _,rfl,rfl,AE (λi l hi=>absurd hi (Dd _))⟩
 case round=>
  obtain⟨k,hk,rfl,K,Z⟩:=hrel;obtain rfl:=K;rcases Bg k n with J | ab
  ·have ac:(k:Int)<(n:Int):=no
   obtain⟨l,hl⟩:∃l,L[k]? =some l:=⟨_,AM (by rw[<-Y.out];exact J)⟩;obtain⟨b,c2,cs,e,A⟩:=HM.out.at hl;injection e with e1 _ e3;subst e1;subst e3;have fc:=A.c;have fp:=A.par;have G:=AE hl;clear A hl;by_cases g1:l.c=c
   ·have q1:=kV g1;have F:=AE g1;clear g1;go_wp2;go_ret;exact⟨by rw[decide_eq_true (j6.2 ⟨k,l,G.out,.inl F.out⟩)];rfl,rfl⟩
   ·have q1:=gW g1;by_cases g2:l.x.par=c
    ·have q2:=kV g2;have F:=AE g2;clear g1 g2;go_wp2;go_ret;exact⟨by rw[decide_eq_true (j6.2 ⟨k,l,G.out,.inr F.out⟩)];rfl,rfl⟩
    ·have q2:=gW g2;have F:=AE (show¬(l.c=c\/l.x.par=c)from λh=>h.elim g1 g2);clear g1 g2;go_wp2;go_roundw
     case rel=>exact⟨k+1,no,by go_num,by trivial,AE (λi U hi C=>by
      rcases Bg i k with h | h
      ·exact Z.out i U h C
      ·obtain rfl:i=k:=no
       rw[G.out]at C;injection C with C;subst C;exact F.out)⟩
     case measure=>simp[intOf];omega
  ·obtain rfl:k=n:=no
   go_wp2;go_ret;exact⟨by rw[decide_eq_false (λh=>by
    obtain⟨i,U,k1,k2⟩:=j6.1 h;exact Z.out i U (by have:=(A1.1 k1).1;rw[Y.out];exact this) k1 k2)];rfl,rfl⟩
end
section
open Classical
section
variable {L:List Rl} {c:Nm} {a i:Int}
theorem PlS.par(h:PlS L c a i)(F:TOk (trR L)):(i= -1/\par (trR L) a c=none)\/∃(k:Nat)(l:Rl),i=(k:Int)/\L[k]? =some l/\l.c=c/\tAt (trR L) c a=some l.x:=by
 rcases h with⟨h1,h2⟩ | ⟨k,l,h1,h2,h3,C⟩
 ·exact .inl ⟨h1,by unfold Go.Proofs.YtggfmklppkioeaaGreat.par;rw[h2.tAt];rfl⟩
 ·exact .inr ⟨k,l,h1,h2,h3,C.tAt (F.row c)⟩
end
variable{R:Tr}{a:Int}
theorem acC:∀ {n:Nat} {x y z:Nm},up R a n x=some y->par R a y=some z->up R a (n+1) x=some z
 | 0,x,y,z,h,hp=>by simp only[up,A4.injEq]at h;subst h;simp[up,hp]
 | n+1,x,y,z,h,hp=>by
  simp only[up]at h
  cases hq:par R a x with
  | none=>rw[hq]at h;cases h
  | some q=>
   rw[hq]at h;have:=acC (n:=n) h hp;show(par R a x).bind (up R a (n+1))=some z;rw[hq];exact this
theorem acD:∀ {n m:Nat} {x y:Nm},up R a n x=some y->par R a y=none->n<m->up R a m x=none
 | 0,m+1,x,y,h,hp,_=>by simp only[up,A4.injEq]at h;subst h;simp[up,hp]
 | n+1,m+1,x,y,h,hp,hm=>by
  simp only[up]at h⊢
  cases hq:par R a x with
  | none=>rfl
  | some q=>rw[hq]at h;exact acD (n:=n) h hp no
theorem up_le(C:TOk R){n:Nat}{x y:Nm}(h:up R a n x=some y):n<=R.length:=by
 obtain⟨m,z,h1,h2,h3⟩:=(C.acy a x).root;rcases Bg m n with hl | hl
 ·rw[acD h2 h3 hl]at h;cases h
 ·omega
theorem reach_iff{x:Nm}(h:x≠c):Reach R a x c↔∃y,par R a x=some y/\Reach R a y c:=by
 constructor
 ·intro k
  cases k with
  | refl=>exact absurd rfl h
  | step e t=>exact⟨_,e,t⟩
 ·rintro⟨y,e,t⟩;exact .step e t
theorem wn(L:List Rl):(trR L).length=L.length:=by unfold trR;rw[Cj]
set_option maxHeartbeats 2000000 in
theorem q_ParentR{L:List Rl}(h:RM w t v L)(hR:TOk (trR L))(c:Nm)(a:Int)(hn:L.length<=1000000):AF AD 40 #[ptB t,.string c,.int .i64 a] w λe w'=>e= .returned (.tuple #[.string (pOf (trR L) a c),.bool (par (trR L) a c).isSome])/\mBw w w':=by
 have C:=mF h c a hn;have U:=AE (show∀wq,mBw w wq->RM wq t v L from λwq k=>h.below k);obtain⟨ad,cp,V⟩:=h.form;obtain⟨n,I⟩:∃n,n=L.length:=⟨_,rfl⟩;have Y:=AE I;rw[<-I]at V hn;subst V;have ac:(n:Int)<=1000000:=no
 clear h I hn;go_enter Tryz.func40,Tryz.ntmps40
 go_upto_if 14 with(go_at_call 96;refine C.mono ?_;rintro e w1 ⟨i,rfl,hi,hb⟩;have Z:=AE (hi.par hR);have F:=AE hb;clear C hi hb)
 rcases Z.out with⟨hi,hp⟩ | ⟨k,l,hi,J,hc,hp⟩
 ·subst hi;have G:=AE hp;clear hp;go_wp2;go_ret2
  exact⟨by unfold pOf;rw[G.out];rfl,F.out⟩
 ·subst hi;have K:=(A1.1 J).1;have ab:(k:Int)<(n:Int):=by rw[Y.out];omega
  have q0:decide ((k:Int)<0)=false:=decide_eq_false no;have aa:=(U.out w1 F.out).cell;obtain⟨b,c2,cs,e,A⟩:=(U.out w1 F.out).at J;injection e with e1 _ e3;subst e1;subst e3;have fp:=A.par;have G:=AE (show par (trR L) a c=some l.x.par by unfold par;rw[hp];rfl);clear A hp J K hc;go_wp2;go_ret2
  exact⟨by unfold pOf;rw[G.out];rfl,F.out⟩
set_option maxHeartbeats 2000000 in
theorem q_meetsR{L:List Rl}(h:RM w t v L)(hR:TOk (trR L))(p c:Nm)(a:Int)(hn:L.length<=1000000):AF AD 212 #[ptB t,.string p,.string c,.int .i64 a] w λe w'=>e= .returned (.bool (decide (Reach (trR L) a p c)))/\mBw w w':=by
 have V:=AE (show∀wq,mBw w wq->RM wq t v L from λwq k=>h.below k);have Y:=AE (show∀wq x,mBw w wq->AF AD 96 #[ptB t,.string x,.int .i64 a] wq λe w'=>∃i,e= .returned (.int .i64 i)/\PlS L x a i/\mBw wq w' from λwq x k=>mF (h.below k) x a hn);have HR:=AE hR;obtain⟨ad,cp,hv⟩:=h.form;obtain⟨n,Z⟩:∃n,n=L.length:=⟨_,rfl⟩;have HN:=AE Z;rw[<-Z]at hv hn;subst hv;have ao:(n:Int)<=1000000:=no
 obtain⟨b,hb⟩:∃b,decide (Reach (trR L) a p c)=b:=⟨_,rfl⟩;have G:=AE hb;rw[hb];clear h Z hn hR hb;go_enter Tryz.func212,Tryz.ntmps212
 go_wp2;go_loopw [1,9] (λs1 s9 wr=>∃(k:Nat)(x:Nm),k<=2*n+1/\s9= .int .i64 (k:Int)/\s1= .string x/\Hid (mBw w wr)/\Hid (up (trR L) a k p=some x/\(Reach (trR L) a p c↔Reach (trR L) a x c))) (λ_ s9 _=>2*n+2 - (intOf s9).toNat)
 case atStart=>exact⟨0,p,A3 _,rfl,rfl,AE (AH _ _),AE ⟨rfl,Iff.rfl⟩⟩
 case round=>
  obtain⟨k,x,hk,rfl,rfl,F,J⟩:=hrel;have ac:=(V.out wr F.out).cell;have an:k<=n:=by
   have:=up_le HR.out J.out.1;rw[wn,<-HN.out]at this;exact this
  have am:(k:Int)<=2*(n:Int):=no
  have K:=Y.out wr x F.out;by_cases g1:x=c
  ·have q1:=kV g1;have U:=AE (show b=true by rw[<-G.out];exact decide_eq_true (J.out.2.2 (g1▸ .refl _)));clear g1;go_wp2;go_ret;exact⟨by rw[U.out];rfl,F.out⟩
  ·have q1:=gW g1;have U:=AE (reach_iff (R:=trR L) (a:=a) g1);clear g1;go_upto_if 29 with(go_at_call 96;refine K.mono ?_;rintro e w1 ⟨i,rfl,hi,hb⟩;have HP:=AE (hi.par HR.out);have C:=AE (F.out.trans (hb.mono F.out.size));clear K hi hb)
   rcases HP.out with⟨hi,hp⟩ | ⟨j,l,hi,hj,hc,hp⟩
   ·subst hi;have I:=AE (show b=false by rw[<-G.out];exact decide_eq_false (λhr=>by
     obtain⟨y,e,_⟩:=U.out.1 (J.out.2.1 hr);rw[hp]at e;cases e))
    clear hp;go_wp2;go_ret;exact⟨by rw[I.out];rfl,C.out⟩
   ·subst hi;have aa:=(A1.1 hj).1;have ak:(j:Int)<(n:Int):=by rw[HN.out];omega
    have q0:decide ((j:Int)<0)=false:=decide_eq_false no;have ab:=(V.out w1 C.out).cell;obtain⟨b2,c2,cs,e,A⟩:=(V.out w1 C.out).at hj;injection e with e1 _ e3;subst e1;subst e3;have fp:=A.par;have I:=AE (show par (trR L) a x=some l.x.par by unfold par;rw[hp];rfl);clear A hp hj aa hc;go_wp2;go_roundw
    case rel=>exact⟨k+1,l.x.par,no,by go_num,rfl,C,AE ⟨acC J.out.1 I.out,J.out.2.trans (U.out.trans ⟨λ⟨y,e,t⟩=>by rw[I.out]at e;injection e with e;rw[e];exact t,λt=>⟨_,I.out,t⟩⟩)⟩⟩
    case measure=>simp[intOf];omega
end
section
open Classical
theorem cyc_at{L:List Rl}{p:Nm}{f:Int}:Cyc (trR L) c p f↔Reach (trR L) f p c\/∃(i:Nat)(l:Rl),L[i]? =some l/\f<l.x.fr/\Reach (trR L) l.x.fr p c:=by
 unfold Cyc;refine or_congr Iff.rfl ⟨λ⟨q,C,h1,h2⟩=> ?_,λ⟨i,l,h,h1,h2⟩=>⟨_,A5 (j5 h),h1,h2⟩⟩;obtain⟨i,hi⟩:=Dn C;obtain⟨l,F,rfl⟩:=kG hi;exact⟨i,l,F,h1,h2⟩
set_option maxHeartbeats 2000000 in
theorem q_cycleR{L:List Rl}(h:RM w t v L)(hR:TOk (trR L))(c p:Nm)(f:Int)(hn:L.length<=1000000):AF AD 160 #[ptB t,.string c,.string p,.int .i64 f] w λe w'=>e= .returned (.bool (decide (Cyc (trR L) c p f)))/\mBw w w':=by
 have HM:=AE (show∀wq,mBw w wq->RM wq t v L from λwq k=>h.below k);have Y:=AE (show∀wq a,mBw w wq->AF AD 212 #[ptB t,.string p,.string c,.int .i64 a] wq λe w'=>e= .returned (.bool (decide (Reach (trR L) a p c)))/\mBw wq w' from λwq a k=>q_meetsR (h.below k) hR p c a hn);obtain⟨ad,cp,hv⟩:=h.form;obtain⟨n,hN⟩:∃n,n=L.length:=⟨_,rfl⟩;have HN:=AE hN;rw[<-hN]at hv hn;subst hv;have ao:(n:Int)<=1000000:=no
 have C:=Y.out w f (AH _ _);obtain⟨b,hb⟩:∃b,decide (Cyc (trR L) c p f)=b:=⟨_,rfl⟩;have K:=AE hb;rw[hb];clear h hN hn hR hb;by_cases g0:Reach (trR L) f p c
 ·rw[decide_eq_true g0]at C;have I:=AE (show b=true by rw[<-K.out];exact decide_eq_true (.inl g0));clear g0;go_enter Tryz.func160,Tryz.ntmps160
  go_wp2_with (go_at_call 212;refine C.mono ?_;rintro e w1 ⟨rfl,hb⟩;have F:=AE hb;clear C hb)
  go_ret;exact⟨by rw[I.out];rfl,F.out⟩
 rw[decide_eq_false g0]at C;have aa:=AE g0;clear g0;go_enter Tryz.func160,Tryz.ntmps160
 go_wp2_with (go_at_call 212;refine C.mono ?_;rintro e w1 ⟨rfl,hb⟩;have V:=AE hb;clear C hb)
 go_loopw [9] (λs9 wr=>∃k:Nat,k<=n/\s9= .int .i64 (k:Int)/\Hid (mBw w wr)/\Hid (∀i l,i<k->L[i]? =some l->¬(f<l.x.fr/\Reach (trR L) l.x.fr p c))) (λs9 _=>n - (intOf s9).toNat)
 case atStart=>exact⟨0,A3 _,rfl,V,AE (λi l hi=>absurd hi (Dd _))⟩
 case round=>
  clear V;obtain⟨k,hk,rfl,F,HO⟩:=hrel;have ak:=(HM.out wr F.out).cell;rcases Bg k n with ab | am
  ·have an:(k:Int)<(n:Int):=no
   obtain⟨l,hl⟩:∃l,L[k]? =some l:=⟨_,AM (by rw[<-HN.out];exact ab)⟩;obtain⟨b2,c2,cs,e,A⟩:=(HM.out wr F.out).at hl;injection e with e1 _ e3;subst e1;subst e3;have ff:=A.fr;have HL:=AE hl;have C:=Y.out wr l.x.fr F.out;clear A hl;have Z:=AE (show¬(f<l.x.fr/\Reach (trR L) l.x.fr p c)->∀i U,i<k+1->L[i]? =some U->¬(f<U.x.fr/\Reach (trR L) U.x.fr p c)from λac i U hi G=>by
    rcases Bg i k with h | h
    ·exact HO.out i U h G
    ·obtain rfl:i=k:=no
     rw[HL.out]at G;injection G with G;subst G;exact ac)
   by_cases g1:f<l.x.fr
   ·have q1:decide (f<l.x.fr)=true:=decide_eq_true g1;by_cases g2:Reach (trR L) l.x.fr p c
    ·rw[decide_eq_true g2]at C;have I:=AE (show b=true by rw[<-K.out];exact decide_eq_true (cyc_at.2 (.inr ⟨k,l,HL.out,g1,g2⟩)));clear g1 g2;go_wp2_with (go_at_call 212;refine C.mono ?_;rintro e w1 ⟨rfl,hb⟩;have J:=AE (F.out.trans (hb.mono F.out.size));clear C hb)
     go_ret;exact⟨by rw[I.out];rfl,J.out⟩
    ·rw[decide_eq_false g2]at C;have I:=AE g2;clear g1 g2;go_wp2_with (go_at_call 212;refine C.mono ?_;rintro e w1 ⟨rfl,hb⟩;have J:=AE (F.out.trans (hb.mono F.out.size));clear C hb)
     go_roundw
     case rel=>exact⟨k+1,no,by go_num,J,AE (Z.out (λe=>I.out e.2))⟩
     case measure=>simp[intOf];omega
   ·have q1:decide (f<l.x.fr)=false:=decide_eq_false g1;have I:=AE g1;clear g1 C;go_wp2;go_roundw
    case rel=>exact⟨k+1,no,by go_num,F,AE (Z.out (λe=>I.out e.1))⟩
    case measure=>simp[intOf];omega
  ·obtain rfl:k=n:=no
   have I:=AE (show b=false by
    rw[<-K.out];refine decide_eq_false (λh=> ?_);rcases cyc_at.1 h with h | ⟨i,U,k1,k2⟩
    ·exact aa.out h
    ·exact HO.out i U (by have:=(A1.1 k1).1;rw[HN.out];exact this) k1 k2)
   go_wp2;go_ret;exact⟨by rw[I.out];rfl,F.out⟩
end
section
open Classical
theorem q_letL(n:Int)(h1:97<=n)(h2:n<=122):AF AD 210 #[.int .u8 n] w λe w'=>e= .returned (.bool true)/\w'=w:=by
 have C:decide (97<=n)=true:=decide_eq_true h1;have F:decide (n<=122)=true:=decide_eq_true h2;go_enter Tryz.func210,Tryz.ntmps210
 go_wp2;go_ret;exact Ai
theorem q_letU(n:Int)(h1:65<=n)(h2:n<=90):AF AD 210 #[.int .u8 n] w λe w'=>e= .returned (.bool true)/\w'=w:=by
 have C:decide (97<=n)=false:=decide_eq_false no;have F:decide (65<=n)=true:=decide_eq_true h1;have G:decide (n<=90)=true:=decide_eq_true h2;go_enter Tryz.func210,Tryz.ntmps210
 go_wp2;go_ret;exact Ai
theorem uE(c:UInt8)(h:sn c):AF AD 210 #[.int .u8 (c.toNat:Int)] w λe w'=>e= .returned (.bool true)/\w'=w:=by
 rcases h with⟨h1,h2⟩ | ⟨h1,h2⟩
 ·exact q_letL _ no no
 ·exact q_letU _ no no
theorem aba:AF AD 210 #[.int .u8 49] w λe w'=>e= .returned (.bool false)/\w'=w:=by
 go_enter Tryz.func210,Tryz.ntmps210
 go_wp2;go_ret;exact Ai
theorem q_wordR(c:UInt8)(h:sn c):AF AD 211 #[.int .u8 (c.toNat:Int)] w λe w'=>e= .returned (.bool true)/\w'=w:=by
 have hl:=uE (w:=w) c h;generalize (c.toNat:Int)=n at hl;clear h;go_enter Tryz.func211,Tryz.ntmps211
 go_wp2_with (go_at_call 210;refine hl.mono ?_;rintro e w' ⟨rfl,C⟩;obtain rfl:=C.symm)
 go_ret;exact Ai
theorem abb(c:Nm)(h:bX c):AF AD 159 #[.string c] w λe w'=>e= .returned (.bool true)/\w'=w:=by
 obtain⟨h0,ab,hl⟩:=h;have V:∀i (hi:i<c.size),AF AD 211 #[.int .u8 ((c[i]'hi).toNat:Int)] w λe w'=>e= .returned (.bool true)/\w'=w:=λi hi=>q_wordR _ (hl i hi)
 have G:∀i (hi:i<c.size),(Ef 9 (.string c) (.int .i64 (i:Int))).run AD w= .ok (.int .u8 ((c[i]'hi).toNat:Int)) w:=λi hi=>by
  have h1:c[i]? =some (c[i]'hi):=by simp[hi]
  simp[Ef,asIntOf,AK,run_underlying DG,AU,h1]
 have F:=uE (w:=w) _ (hl 0 h0);have Y:(Ef 9 (.string c) (.int .i64 0)).run AD w= .ok (.int .u8 ((c[0]'h0).toNat:Int)) w:=G 0 h0;have Z:=AE V;have aa:=AE G;have K:decide ((c.size:Int)<1)=false:=decide_eq_false no;have C:decide ((16:Int)<(c.size:Int))=false:=decide_eq_false no;generalize (c[0]'h0).toNat=b0 at F Y;clear hl V G;go_enter Tryz.func159,Tryz.ntmps159
 obtain⟨m,hm⟩:∃m,c.size=m:=⟨_,rfl⟩;rw[hm]at C ab K;go_wp2_with (go_at_call 210;refine F.mono ?_;rintro e w' ⟨rfl,J⟩;obtain rfl:=J.symm)
 clear F Y C K;subst hm;have am:(c.size:Int)<=16:=no
 go_loopw [3] (λs3 wr=>∃i:Nat,i<=c.size/\s3= .int .i64 (i:Int)/\wr=w) (λs3 _=>c.size - (intOf s3).toNat)
 case atStart=>exact⟨0,A3 _,rfl,rfl⟩
 case round=>
  obtain⟨i,hi,rfl,ak⟩:=hrel;obtain rfl:=ak;rcases Bg i c.size with I | an
  ·have U:=Z.out i I;have ac:=aa.out i I;generalize (c[i]'I).toNat=bi at U ac;go_wp2_with (go_at_call 211;refine U.mono ?_;rintro e w' ⟨rfl,J⟩;obtain rfl:=J.symm)
   go_roundw
   case rel=>exact⟨i+1,no,by go_num,by trivial⟩
   case measure=>simp[intOf];omega
  ·obtain rfl:i=c.size:=no
   go_wp2;go_ret;exact⟨rfl,by trivial⟩
theorem abc:AF AD 159 #[.string sq] w λe w'=>e= .returned (.bool false)/\w'=w:=by
 have hc:=aba (w:=w);go_enter Tryz.func159,Tryz.ntmps159
 go_wp2_with (go_at_call 210;refine hc.mono ?_;rintro e w' ⟨rfl,C⟩;obtain rfl:=C.symm)
 go_ret;exact Ai
theorem uF(c:Nm)(h:Nam c):AF AD 159 #[.string c] w λe w'=>e= .returned (.bool (decide (bX c)))/\w'=w:=by
 rcases h with h | rfl
 ·rw[decide_eq_true h];exact abb c h
 ·rw[decide_eq_false acq];exact abc
end
end Go.Proofs.YtggfmklppkioeaaGreat
