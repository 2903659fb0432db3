/- Package slices: Clone of digits and of stamps, Insert of a stamp. Tracks: what an executor asks of rows that belong to an object; methods of tracks. Tracks: a track in memory; how its methods are walked and called. Tracks: calls of methods of tracks, of Clone and of Insert, as an executor meets them. Tracks: places of times in a list of stamps; walks with one answer. Tracks: ratios of numbers; the clones of fractions and of stamps. Tracks: clones, opposite rotations, places. Tracks: Add at a stamp with a valid pose. Rows of fractions as they come in. Which poses are valid, as they come in. Tracks: stamps as they come in; calls of methods that read; appends of stamps; more loops. Tracks: stamps as they come in, List. Tracks: what a track is, what Add makes of it. Tracks: rows as they come in. Tracks: Add at a stamp as it comes in; instances of Add and of New. Tracks: what lies around a time, and the pose there. Tracks: instances of their methods; which lists agree. Tracks: instances of Of, List, Span, Len, Drop, fits. Tracks: what lies around a time stays when stamps are dropped or added elsewhere. -/
import Derived.Test.YtggfmklppkioeaaGreatP10
import Derived.Lib.SliceRun
import Derived.Lib.Overlaps
import Derived.Lib.AppendZerosOnto
import Derived.Lib.JoinLaws
import Derived.Laws.Externs
import Derived.Shelf.RegionOpenPlain
namespace Go.Proofs.YtggfmklppkioeaaGreat
set_option linter.unusedSimpArgs false
set_option linter.unusedVariables false
set_option maxRecDepth 100000
open Go.RowKit
open _root_.Go.RowKit renaming Below → AG
open _root_.Go renaming Calls → AH,FuncId → BA,Operand → AZ,Program → A0,frozen_of_row → Dh,heap_alloc_new → BE,wpList_plain → Ck
open _root_.Go.Act renaming eval → Db,put → AN
open _root_.Array renaming getElem?_eq_some_iff → A8,getElem?_toList → BU
open _root_.Go.RowKit.Below renaming refl → AL
open _root_.Bool renaming and_eq_true → Bo,eq_false_or_eq_true → BG
open _root_.Go.Builtin renaming append_ → Ca,firstCells → Ee,zeroCells → Es
open _root_.Go.Ending renaming returned → A4
open _root_.Go.Instr renaming slice → DY,sliceAt → CT,sliceBound → EP,sliceBounds → EO
open _root_.Go.IntKind renaming i64 → Bd,wrap_i64 → BQ
open _root_.List renaming all_eq_true → Cd,getElem?_append_left → Bw,getElem?_append_right → Bq,getElem?_drop → Cp,getElem?_eq_getElem → AU,getElem?_eq_some_iff → A5,getElem?_take → BP,length_append → By,length_cons → Bz,length_drop → Cv,length_take → Bp,map_cons → Bu,map_nil → BZ,map_toArray → C1,mem_of_getElem? → Bb,mem_of_mem_drop → DX,size_toArray → Cc
open _root_.Nat renaming le_refl → AK,le_trans → AI,lt_trichotomy → Dz,zero_add → Bh,zero_le → Bc
open _root_.Go.Oper renaming wp → Bn
open _root_.Option renaming some → A9
open _root_.Go.Region renaming wanted → A7
open _root_.Go.Result renaming andThen → AX,andThen_ok → Da
open _root_.Go.Sem renaming run_bind → AO,run_pure → BC
open _root_.Go.Proofs.Tryz renaming func181 → CK,func182 → Ep,func186 → Et,func207 → Eu,func208 → DW,func209 → Er,prog → AE,underlying183 → CA
open _root_.Go.Value renaming ownBlock → CI
open _root_.Go.World renaming cell?_of_block → BM
theorem q_CloneU(v:Value)(L N:Nat)(w:World)(h:IsR w (.agg #[v]) L N)(hL:L<=1000000000000):
  AH AE 213 #[v] w λe w'=>∃v',e= .returned v'/\IsR w' (.agg #[v']) L N/\AG w.heap.size w w':=by
 obtain⟨a,c,e,hc,G⟩:=h;have V:v= .slice a L c:=by
  injection e with e;have:=congrArg (λx:Array Value=>x[0]?) e;simpa using this
 subst V;have q:∀(w:World)(a:Option Addr)(n c P C:Nat),(binOp .eql 29 (.slice a n c) (.slice none P C)).run AE w= .ok (.bool a.isNone) w:=λw a n c P C=>Lib.run_eql_slice_nil w _ _ a n c P C Tryz.underlying29
 cases a with
 | none=>
  have h0:L=0:=by
   apply Classical.byContradiction;intro h0;obtain⟨b,o,e,_⟩:=G.cells Aa;cases e
  subst h0;have Y:N=0:=by have:=G.lt;simpa using this
  subst Y;go_enter Tryz.func213,Tryz.ntmps213
  go_wp2;go_ret;exact⟨_,rfl,isR00 w,AL _ _⟩
 | some a=>
  have U:=gM w (.cells #[] 237);have K:=G.mono U;go_enter Tryz.func213,Tryz.ntmps213
  go_wp2_with (at_builtin;refine fI rfl _ _ rfl w.heap.size _ rfl (World.ownsRow_made w #[] 0 (AK _) (Bc _) rfl) Ag (some a) L c N rfl K Aa ?_)
  intro a' C w' I H J;go_wp2;go_ret;refine⟨_,rfl,⟨a',C,rfl,H,G.lt,λh0=> ?_⟩,?_⟩
  ·obtain⟨g,e,_,Z,_⟩:=I h0;exact⟨g,0,e,Z⟩
  ·exact U.trans (eL J w.heap.size Ag (λk hk=>by simp[CI]at hk;omega))
variable{n L:Nat}
theorem mV{ρ:Rho}{m N:Nat}(hn:ρ[n]? =some (.dig L N))(G:ρ[m]? =some (.dig L N))(C:L<=1000000000000):Inst.Ok AE ρ ⟨213,[.one (.ref n)],.v (.one (.ref m))⟩:=
 ⟨ai Tryz.func213 rfl rfl,λB w vs hB h=>by
  match vs,h with
  | [v],h=>
   obtain⟨s,h1,h2,_⟩:=h.1;rw[hn]at h1;injection h1 with h1;subst h1;refine(q_CloneU v L N w h2 C).mono ?_;rintro e w' ⟨v',rfl,h3,h4⟩;exact⟨_,rfl,⟨_,G,h3,λ_ h=>h.elim⟩,h4⟩⟩
variable{P:A0}{w w':World}{ops:Array Oper}{rest:List Oper}{o:Oper}{a:Act}{Q:Exit->Act->World->Prop}{v':Value}
theorem fR(C:o.guard=none)(s x:AZ)(t:TypeId)
  (H:o.op= .call {callee:=.builtin .append,args:=#[s,x],argTypes:=#[t,t]})(v u:Value)(hs:a.eval s=v)(I:a.eval x=u) 
  (hr:(Ca #[t,t] o.type #[v,u]).run P w= .ok v' w')(h:wpList P ops Q rest (a.put o.dst v') w'):wpList P ops Q (o::rest) a w:=
 Ck C λ_ G=>by
  unfold Bn execOp;simp only[H,resolve,invoke,builtin,AO,BC,Da,C1,Bu,BZ,hs,I,hr];exact G _ _ h
variable{p:A0}{ty:TypeId}{sz:Nat}
theorem run_app0{t e:TypeId}(ht:p.underlying t=some (.slice e))(hz:szB p e=some sz)(a b:Option Addr)(n c k:Nat)(hn:n<=c):(Ca #[t,t] ty #[.slice a n c,.slice b 0 k]).run p w= .ok (.slice a n c) w:=by
 have h1:(Ee sz 0 (.slice b 0 k)).run p w= .ok #[] w:=by
  cases b<;>simp[Ee,loadCells,loadCellsFrom]
 cases a<;>simp[Ca,run_underlying ht,ba hz,Builtin.lenOf,hn,h1,storeCells]
variable{T:TypeId}{x:Value}{xs:List Value}
theorem qH{t:TypeId}{bytes:Nat}(ht:p.underlying t=some (.slice T))(hB:appB p T sz bytes=true){v:Value}{M:Nat}{qs qs':List Vp}(K:aY w T sz v n xs)(hc:aK w qs xs)(hx:(Vp.row T M qs').p w x)(hq:qs'.length=M*sz)
  (hb:(n+M)*bytes<=140737488355328)(hn:n+M<=1000000000000000):
  ∃v' w',(Ca #[t,t] ty #[v,x]).run p w= .ok v' w'/\w.grownBy w' v.ownBlock/\(∀g,v.ownBlock=some g->Own w' g)/\(∀g,v'.ownBlock=some g->v.ownBlock=some g\/w.heap.size<=g)/\(Vp.ownr T sz (n+M) (qs++qs')).p w' v':=by
 unfold appB at hB;split at hB
 ·rename_i ti hi;simp only[Bo,beq_iff_eq,decide_eq_true_eq]at hB;obtain⟨hz,h3,h4,h5⟩:=hB;split at hz
  ·rename_i z ad;simp only[Bo,beq_iff_eq]at hz;subst h3;subst h4;by_cases hM:M=0
   ·subst hM;have hq0:qs'=[]:=List.eq_nil_of_length_eq_zero (by simpa using hq);subst hq0;have hs:∃a c,v= .slice a n c/\n<=c:=by
     rcases K.1.2 with⟨rfl,rfl⟩ | ⟨g,cap,ak,rfl,_,_,ab,_⟩
     ·exact⟨none,0,rfl,AK _⟩
     ·exact⟨_,_,rfl,ab⟩
    obtain⟨a,c,rfl,aa⟩:=hs;obtain⟨b,k,rfl⟩:=iL hx;have ac:szB p T=some ti.size:=by unfold szB;rw[hi];rfl
    exact⟨_,w,run_app0 ht ac _ _ _ _ _ aa,⟨rfl,rfl,rfl,AK _,λ_ _ _=>rfl⟩,K.2,λg J=>.inl J,by rw[List.append_nil];exact⟨xs,K,hc⟩⟩
   ·have hM:0<M:=Aa
    have hq0:qs'≠ []:=λe=>by subst e;simp at hq;have:=Nat.mul_pos hM h5;omega
    obtain⟨a,c,Z,rfl,C,G⟩:=qG hx hq0;obtain⟨v',w',V,J,P,H,U⟩:=ux (p:=p) (ty:=ty) (c:=c) ht hi ad hz.1 h5 (λu Y n e=>by
     have:=Cd.1 hz.2 u Y;subst e;exact Bool.noConfusion (show false=true from this)) K (by rw[C.1,hq]) G (λu Y=>ft (C.flat u Y)) (λu Y=>λn e=>(C.flat u Y).2.2 n e) hM hb hn
    have I:Chg w w' (λg=>v.ownBlock=some g):=⟨J.size,λg h1 h2=>J.block g h1 (λe=>h2 e.symm),λg h=>(K.2 g h).x⟩;exact⟨v',w',V,J,P,H,xs++Z,U,(hc.append C).chg I⟩
  ·cases hz
 ·cases hB
def stT:TypeId:=120
theorem xg(v:Value)(S:List St)(w:World)(h:(Vp.row stT S.length (bx S)).p w v)(hS:S.length<=1000000):
  AH AE 188 #[v] w λe w'=>∃v',e= .returned v'/\(Vp.ownr stT 22 S.length (bx S)).p w' v'/\(∀g,v'.ownBlock=some g->w.heap.size<=g)/\AG w.heap.size w w':=by
 have q:∀(w:World)(a:Option Addr)(n c J H:Nat),(binOp .eql 183 (.slice a n c) (.slice none J H)).run AE w= .ok (.bool a.isNone) w:=λw a n c J H=>Lib.run_eql_slice_nil w _ _ a n c J H CA
 have U:=h;rcases h with⟨h1,h2,rfl⟩ | ⟨b,o,c,cs,rfl,hc,hb,Z⟩
 ·go_enter Tryz.func188,Tryz.ntmps188
  go_wp2;go_ret;refine⟨_,rfl,⟨[],⟨?_,λg C=>by cases C⟩,?_⟩,λg C=>(by cases C),AL _ _⟩
  ·rw[h2];exact World.ownsRow_nil _ _ _ _
  ·rw[h1];exact⟨rfl,λj q h=>Aq⟩
 ·have V:=gM w (.cells #[] stT);have K:(Vp.row stT S.length (bx S)).p (w.alloc (.cells #[] stT)) (.slice (some ⟨b,o,none⟩) S.length c):=((Vp.row stT S.length (bx S)).ch _ _ _ _ U (.below V) (λ_ _ h=>h)).1;have P:aY (w.alloc (.cells #[] stT)) stT 22 (.slice (some ⟨w.heap.size,0,none⟩) 0 0) 0 []:=by
   refine⟨World.ownsRow_made w #[] 0 (Bc _) (Bc _) rfl,λg C=> ?_⟩;injection C with C;subst C;exact⟨#[],stT,BE w _,λk n=>Ag⟩
  obtain⟨v',w',hr,C,_,G,h3⟩:=qH (p:=AE) (ty:=183) (qs:=[]) (bytes:=400) CA Ab P ⟨rfl,λj q h=>Aq⟩ K (dS S) Aa Aa;have h4:∀g,v'.ownBlock=some g->w.heap.size<=g:=λg I=>by
   rcases G g I with h | h
   ·have h:w.heap.size=g:=A9.inj h;omega
   ·simp at h;omega
  have h5:AG w.heap.size w w':=V.trans (eL C w.heap.size Ag (λk Y=>by simp[CI]at Y;omega));rw[Bh,List.nil_append]at h3;clear C G;clear Z hb K P U;go_enter Tryz.func188,Tryz.ntmps188
  go_wp2_with (at_builtin;refine fR rfl _ _ 183 rfl _ _ rfl rfl hr ?_)
  go_wp2;go_ret;exact⟨_,rfl,h3,h4,h5⟩
variable{cs:Array Value}{news:List Value}
theorem jY{dT sT e:TypeId}(ht:p.underlying dT=some (.slice e))(hz:szB p e=some sz){g o C M C':Nat}{a:Addr}(h:w.heap[g]? =some (.cells cs T (0,0)))
  (hn:news.length=Nat.min M L*sz)(hs:∀j u,news[j]? =some u->w.cell? (a.add j)=some u)(I:o+news.length<=cs.size)(hf:∀u∈news,eO u):
  ∃w' G,(Builtin.copy_ #[dT,sT] ty #[.slice (some ⟨g,o,none⟩) L C,.slice (some a) M C']).run p w= .ok (goInt (Nat.min M L)) w'/\Upd w g w'/\w'.heap[g]? =some (.cells G T (0,0))/\G.size=cs.size/\(∀k v,news[k]? =some v->G[o+k]? =some v)/\∀k,(k<o\/o+news.length<=k)->G[k]? =cs[k]? :=by
 obtain⟨w',G,h1,h2,h3,h4,h5,h6⟩:=fM (p:=p) (o:=o) news 0 w cs h Aa hf;refine⟨w',G,?_,h2,h3,h4,λk v H=>by have:=h5 k v H;simpa using this,λk H=>h6 k Aa⟩;have hl:=run_loadCells_list (P:=p) w a news hs;rw[hn]at hl;simp[Builtin.copy_,run_underlying ht,ba hz,Builtin.lenOf,Ee,hl,h1]
theorem iY(C:o.guard=none)(d s:AZ)(t t':TypeId)
  (I:o.op= .call {callee:=.builtin .copy,args:=#[d,s],argTypes:=#[t,t']})(v u:Value)(H:a.eval d=v)(hs:a.eval s=u) 
  (hr:(Builtin.copy_ #[t,t'] o.type #[v,u]).run P w= .ok v' w')(h:wpList P ops Q rest (a.put o.dst v') w'):wpList P ops Q (o::rest) a w:=
 Ck C λ_ G=>by
  unfold Bn execOp;simp only[I,resolve,invoke,builtin,AO,BC,Da,C1,Bu,BZ,H,hs,hr];exact G _ _ h
theorem kN{K:Act->World->Prop}{E:Prop}
  (I:o.guard=none)(d x:AZ)(dT sT:TypeId)(C:o.op=Op.call {callee:=Callee.builtin Builtin.copy,args:=#[d,x],argTypes:=#[dT,sT]})
  (v u:Value)(H:a.eval d=v)(U:a.eval x=u)(hr:(Builtin.copy_ #[dT,sT] o.type #[v,u]).run P w= .ok v' w')(G:K (a.put o.dst v') w'):
  if A7 o (yielded ops a.tmps)=true then Bn P o a w K Q else E:=by
 have J:A7 o (yielded ops a.tmps)=true:=by simp[A7,I]
 rw[if_pos J];unfold Bn;simp[execOp,C,resolve,invoke,builtin,H,U,hr,AX];exact G
variable{S:List St}{s:St}{i:Nat}
theorem sU(hi:i<=S.length)(H:aK w (bx S) xs)(hn:aK w s.qs news):aK w (bx (S.take i++s::S.drop i)) (xs.take (i*22)++(news++xs.drop (i*22))):=by
 have e:bx (S.take i++s::S.drop i)=bx (S.take i)++(s.qs++bx (S.drop i)):=by rw[jy];rfl
 have h0:bx S=bx (S.take i)++bx (S.drop i):=by rw[<-jy,List.take_append_drop]
 have hl:(bx (S.take i)).length=i*22:=by rw[dS,Bp];congr 1;omega
 have I:=H.1;rw[dS]at I;rw[e];refine aK.append ⟨?_,λj q C=> ?_⟩ (aK.append hn ⟨?_,λj q C=> ?_⟩)
 ·rw[hl,Bp];omega
 ·have G:=(A5.1 C).1;obtain⟨u,h1,h2⟩:=H.2 j q (by rw[h0,Bw G];exact C);exact⟨u,by rw[BP,if_pos Aa];exact h1,h2⟩
 ·rw[Cv,dS,Cv];omega
 ·obtain⟨u,h1,h2⟩:=H.2 (i*22+j) q (by rw[h0,Bq Aa,hl,Nat.add_sub_cancel_left];exact C);exact⟨u,by rw[Cp];exact h1,h2⟩
def InsP(w:World)(v:Value)(S:List St)(s:St)(i:Nat)(e:Ending)(w':World):Prop:=
 ∃v',e= .returned v'/\(Vp.ownr stT 22 (S.length+1) (bx (S.take i++s::S.drop i))).p w' v'/\w.grownBy w' v.ownBlock/\(∀g,v.ownBlock=some g->Own w' g)/\∀g,v'.ownBlock=some g->v.ownBlock=some g\/w.heap.size<=g
theorem q_Ins1(v x:Value)(S:List St)(s:St)(w:World)(hv:(Vp.ownr stT 22 S.length (bx S)).p w v)(K:(Vp.row stT 1 s.qs).p w x)(hS:S.length<=1000000):
  AH AE 187 #[v,.int .i64 (S.length:Int),x] w λe w'=>InsP w v S s S.length e w':=by
 obtain⟨xs,J,hc⟩:=hv;obtain⟨v',w',U,P,G,C,h3⟩:=qH (p:=AE) (ty:=183) (bytes:=400) CA Ab J hc K Ai Aa Aa;obtain⟨a,c,rfl,Z⟩:∃a c,v= .slice a S.length c/\S.length<=c:=by
  rcases J.1.2 with⟨rfl,h0⟩ | ⟨g,cap,V,rfl,_,_,I,_⟩
  ·exact⟨none,0,by rw[h0],Aa⟩
  ·exact⟨_,_,rfl,I⟩
 obtain⟨b,k,rfl⟩:=iL K;have u0:∀w,(underlying 183).run AE w= .ok (.slice 120) w:=λw=>run_underlying CA
 have hz:∀w,(Go.sizeOf 120).run AE w= .ok 22 w:=λw=>ba Ab
 have Y:(S.length:Int)<=1000000:=Aa
 have H:(Vp.ownr stT 22 (S.length+1) (bx (S.take S.length++s::S.drop S.length))).p w' v':=by
  rw[List.take_length,List.drop_length,jy];simpa [bx,stT]using h3
 clear K J hc h3;by_cases hck:c=S.length
 ·subst hck;go_enter Tryz.func187,Tryz.ntmps187
  go_wp2_with (at_builtin;refine fR rfl _ _ 183 rfl _ _ rfl rfl U ?_)
  go_ret;exact⟨_,rfl,H,P,G,C⟩
 ·go_enter Tryz.func187,Tryz.ntmps187
  go_wp2_with (at_builtin;refine fR rfl _ _ 183 rfl _ _ rfl rfl U ?_)
  go_ret;exact⟨_,rfl,H,P,G,C⟩
theorem oX(C:o.guard=none)(s x:AZ)(t t':TypeId)
  (H:o.op= .call {callee:=.builtin .append,args:=#[s,x],argTypes:=#[t,t']})(v u:Value)(hs:a.eval s=v)(I:a.eval x=u) 
  (hr:(Ca #[t,t'] o.type #[v,u]).run P w= .ok v' w')(h:wpList P ops Q rest (a.put o.dst v') w'):wpList P ops Q (o::rest) a w:=
 Ck C λ_ G=>by
  unfold Bn execOp;simp only[H,resolve,invoke,builtin,AO,BC,Da,C1,Bu,BZ,hs,I,hr];exact G _ _ h
def z22:Array Value:=(Value.agg #[.int .i64 0,.bool false,.slice none 0 0,.slice none 0 0,.bool false,.slice none 0 0,.slice none 0 0,.bool false,.slice none 0 0,.slice none 0 0,.bool false,.slice none 0 0,.slice none 0 0,.bool false,.slice none 0 0,.slice none 0 0,.bool false,.slice none 0 0,.slice none 0 0,.bool false,.slice none 0 0,.slice none 0 0]).cells
theorem infoSt:(AE.info? stT).map (λi=>(i.zero,i.size,i.bytes))=some (some (.agg z22),22,400):=Ab
theorem qJ:z22.size=22:=rfl
theorem z22_noU:∀u∈z22.toList,noU u:=λu C n e=>by
 have h:z22.toList.all noUb=true:=th
 have:=Cd.1 h u C;subst e;exact Bool.noConfusion (show false=true from this)
theorem xh(hi:i<=n)(H:xs.length=n*22)(C:news.length=22)(G:(n+1)*22<=cs.size)(h1:∀k,k<i*22->cs[k]? =xs[k]?)(h2:∀k,k<22->cs[i*22+k]? =news[k]?)(h3:∀k,k<(n - i)*22->cs[(i+1)*22+k]? =xs[i*22+k]?):
  cs.toList.take ((n+1)*22)=xs.take (i*22)++(news++xs.drop (i*22)):=by
 apply List.ext_getElem?;intro k;rw[BP];by_cases hk:k<(n+1)*22
 ·rw[if_pos hk,BU];by_cases a1:k<i*22
  ·rw[h1 k a1,Bw (by rw[Bp];omega),BP,if_pos a1]
  ·rw[Bq (by rw[Bp];omega),Bp,show min (i*22) xs.length=i*22 from Aa];by_cases a2:k<(i+1)*22
   ·have:=h2 (k - i*22) Aa;rw[show i*22+(k - i*22)=k from Aa]at this;rw[this,Bw Aa]
   ·have:=h3 (k - (i+1)*22) Aa;rw[show(i+1)*22+(k - (i+1)*22)=k from Aa]at this;rw[this,Bq Aa,C,Cp]
    congr 1;omega
 ·rw[if_neg hk,List.getElem?_eq_none];simp only[By,Bp,Cv];omega
set_option maxHeartbeats 4000000 in
theorem q_Ins2(g cap:Nat)(x:Value)(S:List St)(s:St)(i:Nat)(w:World)(hv:(Vp.ownr stT 22 S.length (bx S)).p w (.slice (some ⟨g,0,none⟩) S.length cap))(hx:(Vp.row stT 1 s.qs).p w x)(hi:i<S.length)(cz:cap<S.length+1)(hS:S.length<=1000000):
  AH AE 187 #[.slice (some ⟨g,0,none⟩) S.length cap,.int .i64 (i:Int),x] w λe w'=>InsP w (.slice (some ⟨g,0,none⟩) S.length cap) S s i e w':=by
 obtain⟨xs,⟨⟨ad,ho⟩,bq⟩,hc⟩:=hv;have cm:=bq g rfl;obtain⟨ac,hg,c9,cq,Z⟩:∃ac,w.heap[g]? =some (.cells ac stT (0,0))/\S.length<=cap/\ac.size=cap*22/\ac.toList.take (S.length*22)=xs:=by
  rcases ho with⟨h,_⟩ | ⟨g',c7,ac,e,_,h1,h2,_,h3,h4⟩
  ·cases h
  ·injection e with e1 e2 e3;injection e1 with e1;injection e1 with e1;subst e1;subst e3;exact⟨ac,h1,h2,h3,h4⟩
 have bb:cap=S.length:=Aa
 subst bb;obtain⟨ax,cx,J,rfl,ar,am⟩:=qG hx (by intro e;cases e);obtain⟨ti,c5,tz,cc,cb⟩:=info_parts infoSt;obtain⟨n,hn⟩:∃n,n=S.length:=⟨_,rfl⟩;rw[<-hn]at ad hi hS cq Z⊢;have ao:J.length=22:=ar.1;have be:g<w.heap.size:=(A8.1 hg).1;have U:∀j u,xs[j]? =some u->w.cell? ⟨g,j,none⟩=some u:=λj u hj=>by
  rw[aE hg,<-BU];rw[<-Z,BP]at hj;split at hj
  ·exact hj
  ·cases hj
 have av:∀u∈xs,eO u:=hc.flat;have a4:∀u∈J,eO u:=ar.flat;obtain⟨G,hG⟩:∃G,G=grownCap w (n+1) n stT:=⟨_,rfl⟩;have cl:n+1<=G:=by rw[hG];exact grownCap_ge w _ _ _
 have cd:G<=maxLen:=by rw[hG];exact grownCap_le_maxLen w (n+1) n stT (by unfold maxLen;omega)
 obtain⟨ab,Y⟩:∃ab:Array Value,ab=(xs.take (i*22)).toArray++Es z22 (n+1 - i)++Es z22 (G - (n+1)):=⟨_,rfl⟩;have ap:ab.size=G*22:=by
  rw[Y];simp only[Array.size_append,Cc,size_zeroCells,qJ,Bp,ad];omega
 have a0:(Ee ti.size i (.slice (some ⟨g,0,none⟩) i n)).run AE w.drew= .ok (xs.take (i*22)).toArray w.drew:=by
  rw[cc];exact run_firstCells_some w.drew 22 i ⟨g,0,none⟩ i n (xs.take (i*22)) (by rw[Bp];omega) (λj v hj=>by
   rw[Addr.add_lit,Bh];rw[BP]at hj;split at hj
   ·exact U j v hj
   ·cases hj)
 have bt:(Ca #[183,3] 183 #[.slice (some ⟨g,0,none⟩) i n,.int .i64 ((n:Int)+1 - (i:Int))]).run AE w=
   .ok (.slice (some ⟨w.heap.size,0,none⟩) (n+1) G) (w.drew.alloc (.cells ab stT)):=by
  have h:=Lib.run_append_grow_zeros (P:=AE) w 183 3 183 stT ti _ .i64 .i64 CA Tryz.underlying3 c5 tz (some ⟨g,0,none⟩) i n (xs.take (i*22)) a0 (n+1 - i) Aa (by rw[cc];omega) Aa Aa (by rw[cb];omega) (by rw[cb,show i+(n+1 - i)=n+1 from Aa];exact growslice_fits Aa Aa);rw[show i+(n+1 - i)=n+1 from Aa,<-hG]at h;rw[show(n:Int)+1 - (i:Int)=((n+1 - i:Nat):Int)from Aa,Y];exact h
 obtain⟨W1,aq⟩:∃W1,W1=w.drew.alloc (.cells ab stT):=⟨_,rfl⟩;rw[<-aq]at bt;have bi:W1.heap[w.heap.size]? =some (.cells ab stT (0,0)):=by rw[aq];exact BE w.drew _
 have K:AG w.heap.size w W1:=by rw[aq];exact(aF (AL _ _) 1).trans ((gM w.drew _).mono (AK _))
 obtain⟨W2,c8,cr,H,bp,a7,bz,lE⟩:=jY (p:=AE) (dT:=183) (sT:=183) (ty:=3) (sz:=22) (o:=i*22) (L:=n+1 - i) (C:=G - i) (M:=1) (C':=cx) (a:=ax) (news:=J) CA Ab bi
  (by rw[ao];simp only[Nat.min_def];split<;>omega) (λj u hj=>by have:=am j u hj;rw[<-K.cell (p:=ax.add j) (block_lt_of_cell this)]at this;exact this) (by rw[ao,ap];omega) a4
 have au:(xs.drop (i*22)).length=(n - i)*22:=by rw[Cv,ad];omega
 obtain⟨W3,ak,cu,I,a6,ca,b0,aa⟩:=jY (p:=AE) (w:=W2.drew) (dT:=183) (sT:=183) (ty:=3) (sz:=22) (o:=(i+1)*22) (L:=n - i) (C:=G - (i+1)) (M:=n - i) (C':=n - i) (a:=⟨g,i*22,none⟩) (news:=xs.drop (i*22)) CA Ab bp
  (by rw[au];simp only[Nat.min_self]) (λj u hj=>by
   rw[Cp]at hj;have h1:=U _ u hj;rw[Addr.add_lit];have h2:W2.heap[g]? =w.heap[g]? :=(H.block g Aa).trans (K.block g be);have h3:W2.drew.cell? ⟨g,i*22+j,none⟩=w.cell? ⟨g,i*22+j,none⟩:=BM (w:=w) (w':=W2.drew) (a:=⟨g,i*22+j,none⟩) h2;rw[h3];exact h1) (by rw[au,a7,ap];omega) (λu hu=>av u (DX hu))
 have k1:∀k,k<i*22->ak[k]? =xs[k]? :=λk V=>by
  rw[aa k (.inl Aa),lE k (.inl V),Y,Array.append_assoc,Array.getElem?_append_left (by simp;omega)];simp[BP,V]
 have k2:∀k,k<22->ak[i*22+k]? =J[k]? :=λk V=>by
  rw[aa _ (.inl Aa),bz k _ (AU Aa),AU Aa]
 have k3:∀k,k<(n - i)*22->ak[(i+1)*22+k]? =xs[i*22+k]? :=λk V=>by
  rw[b0 k _ (AU Aa),List.getElem_drop,AU]
 have ay:(Vp.ownr stT 22 (n+1) (bx (S.take i++s::S.drop i))).p W3 (.slice (some ⟨w.heap.size,0,none⟩) (n+1) G):=by
  have cp:AG w.heap.size w W3:=(K.trans ⟨H.os,H.tape,H.output,by rw[H.size];exact AK _,λk V=>H.block k Aa⟩).trans ⟨I.os,I.tape,I.output,by rw[I.size];exact AK _,λk V=>I.block k Aa⟩;refine⟨xs.take (i*22)++(J++xs.drop (i*22)),⟨⟨?_,.inr ⟨w.heap.size,G,ak,rfl,Bc _,a6,cl,cd,by rw[ca,a7,ap],?_⟩⟩,λg' a5=> ?_⟩,?_⟩
  ·simp only[By,Bp,au,ad,ao];omega
  ·exact xh Aa ad ao (by rw[ca,a7,ap];omega) k1 k2 k3
  ·injection a5 with a5;subst a5;refine⟨ak,stT,a6,λk m V=> ?_⟩;by_cases a1:k<i*22
   ·rw[k1 k a1]at V;exact(av _ (Bb V)).2.2 m rfl
   ·by_cases a2:k<(i+1)*22
    ·rw[show k=i*22+(k - i*22)from Aa,k2 _ Aa]at V;exact(a4 _ (Bb V)).2.2 m rfl
    ·by_cases a3:k<(n+1)*22
     ·rw[show k=(i+1)*22+(k - (i+1)*22)from Aa,k3 _ Aa]at V;exact(av _ (Bb V)).2.2 m rfl
     ·rw[aa k (.inr (by rw[au];omega)),lE k (.inr (by rw[ao];omega)),Y,Array.getElem?_append_right (by simp only[Array.size_append,Cc,size_zeroCells,qJ,Bp,ad];omega)]at V;exact xd z22_noU (by rw[qJ];decide) _ _ (by rw[<-BU]at V;exact Bb V) m rfl
  ·subst hn;exact(sU Aa hc ar).chg (.below cp)
 have an:w.grownBy W3 (some g):=by
  refine⟨?_,?_,?_,?_,λk V da=> ?_⟩
  ·rw[I.os];exact H.os.trans K.os
  ·rw[I.tape];exact H.tape.trans K.tape
  ·rw[I.output];exact H.output.trans K.output
  ·rw[I.size];show _<=W2.heap.size;rw[H.size];exact K.size
  ·exact(I.block k Aa).trans ((H.block k Aa).trans (K.block k V))
 have a9:Own W3 g:=by
  obtain⟨cs,t,h1,h2⟩:=cm;exact⟨cs,t,by rw[I.block g Aa];exact(H.block g Aa).trans ((K.block g be).trans h1),h2⟩
 have u0:∀w,(underlying 183).run AE w= .ok (.slice 120) w:=λw=>run_underlying CA
 have hz:∀w,(Go.sizeOf 120).run AE w= .ok 22 w:=λw=>ba Ab
 have db:Bd.wrap ((n:Int)+1)=(n:Int)+1:=by rw[BQ];omega
 have dq:Bd.wrap ((i:Int)+1)=(i:Int)+1:=by rw[BQ];omega
 have dr:Bd.wrap ((n:Int)+1 - (i:Int))=(n:Int)+1 - (i:Int):=by rw[BQ];omega
 have b1:¬((i:Int)=(n:Int)):=Aa
 have b2:(n:Int)<(n:Int)+1:=Aa
 have b3:(i:Int)<=(n:Int):=Aa
 have b4:(0:Int)<=(i:Int)+1:=Aa
 have b5:((i:Int)+1).toNat=i+1:=Aa
 have b6:¬(G=i):=Aa
 have b7:¬(G=i+1):=Aa
 have b8:¬(n=i):=Aa
 have b9:(i:Int)+1<=(n:Int)+1:=Aa
 have c1:i<=n:=Aa
 have c2:i<=n+1:=Aa
 have c3:i+1<=n+1:=Aa
 have c4:n+1 - (i+1)=n - i:=Aa
 have c6:AE.follows .mixedOrders=true:=Ab
 subst hn;have HF:=ay;have HG:=an;have HO:=a9;clear ay an a9 k1 k2 k3 bz b0 lE aa U am a0 Y hG aq ar hc hx av a4 bi bp a6 K H I Z;go_enter Tryz.func187,Tryz.ntmps187
 go_wp2_with (first
  | (at_builtin;refine oX rfl _ _ _ _ rfl _ _ rfl rfl bt ?_)
  | (at_builtin;refine iY rfl _ _ _ _ rfl _ _ rfl rfl cr ?_))
 go_region_law_o (refine kN rfl _ _ 183 183 rfl (.slice (some ⟨w.heap.size,(i+1)*22,none⟩) (S.length - i) (G - (i+1))) (.slice (some ⟨g,i*22,none⟩) (S.length - i) (S.length - i)) (by simp[Db,AN]) (by simp[Db,AN]) cu ?_)
 go_wp2;go_ret;exact⟨_,rfl,HF,HG,λg' h=>(by have h:g=g':=A9.inj h;subst h;exact HO),λg' h=>.inr (by have h:w.heap.size=g':=A9.inj h;omega)⟩
set_option maxHeartbeats 4000000 in
theorem q_Ins3(g cap:Nat)(x:Value)(S:List St)(s:St)(i:Nat)(w:World)(hv:(Vp.ownr stT 22 S.length (bx S)).p w (.slice (some ⟨g,0,none⟩) S.length cap))(hx:(Vp.row stT 1 s.qs).p w x)(a9:∀a n c,x= .slice (some a) n c->a.block≠g)(hi:i<S.length)(P:S.length+1<=cap)(hS:S.length<=1000000):
  AH AE 187 #[.slice (some ⟨g,0,none⟩) S.length cap,.int .i64 (i:Int),x] w λe w'=>InsP w (.slice (some ⟨g,0,none⟩) S.length cap) S s i e w':=by
 obtain⟨xs,⟨⟨ap,ho⟩,a6⟩,hc⟩:=hv;have a4:=a6 g rfl;obtain⟨K,hg,bz,bq,ab,J⟩:∃K,w.heap[g]? =some (.cells K stT (0,0))/\S.length<=cap/\cap<=maxLen/\K.size=cap*22/\K.toList.take (S.length*22)=xs:=by
  rcases ho with⟨h,_⟩ | ⟨g',cm,K,e,_,h1,h2,h5,h3,h4⟩
  ·cases h
  ·injection e with e1 e2 e3;injection e1 with e1;injection e1 with e1;subst e1;subst e3;exact⟨K,h1,h2,h5,h3,h4⟩
 obtain⟨vb,vo,cx,aq,rfl,c6,ao,cc⟩:=row_at hx (by intro e;cases e);obtain⟨ax,c5,G,e,ak,aa⟩:=qG hx (by intro e;cases e);injection e with e1 e2 e3;injection e1 with e1;subst e1;subst e3;have a7:vb≠g:=a9 _ _ _ rfl;obtain⟨n,hn⟩:∃n,n=S.length:=⟨_,rfl⟩;rw[<-hn]at ap hi hS P bz J⊢;have ac:G.length=22:=ak.1;have c7:g<w.heap.size:=(A8.1 hg).1;have V:∀j u,xs[j]? =some u->w.cell? ⟨g,j,none⟩=some u:=λj u hj=>by
  rw[aE hg,<-BU];rw[<-J,BP]at hj;split at hj
  ·exact hj
  ·cases hj
 have bb:∀k,k<n*22->K[k]? =xs[k]? :=λk I=>by rw[<-J,BP,if_pos I,BU]
 have an:∀u∈xs,eO u:=hc.flat;have av:∀u∈G,eO u:=ak.flat;have cd:∀w,(Go.sizeOf 120).run AE w= .ok 22 w:=λw=>ba Ab
 have b8:∀lb cb,(callFunc 237 #[.slice (some ⟨vb,vo,none⟩) 1 cx,.slice (some ⟨g,(i+1)*22,none⟩) lb cb]).run AE w= .ok (.value (.bool false)) w:=λlb cb=>by
  rw[run_callFunc_extern Tryz.func237 Ab Ab Ab (e:=Extern.SlicesOverlaps.overlaps #[183,183] #[4]) Ab,
   Lib.run_overlaps_apart w 183 4 120 CA 22 cd ⟨vb,vo,none⟩ ⟨g,(i+1)*22,none⟩ 1 cx lb cb a7 stT stT aq.size K.size (by unfold World.shape?;rw[ao]) (by unfold World.shape?;rw[hg]) (by rw[ab];omega) (Dh w vb vo aq _ ao) (Dh w vb aq.size aq _ ao)]
  rfl
 have am:(xs.drop (i*22)).length=(n - i)*22:=by rw[Cv,ap];omega
 obtain⟨W1,cz,hr1,U,a5,a0,be,ad⟩:=jY (p:=AE) (w:=w.drew) (dT:=183) (sT:=183) (ty:=3) (sz:=22) (o:=(i+1)*22) (L:=n - i) (C:=cap - (i+1)) (M:=n+1 - i) (C':=cap - i) (a:=⟨g,i*22,none⟩) (news:=xs.drop (i*22)) CA Ab hg
  (by rw[am];simp only[Nat.min_def];split<;>omega) (λj u hj=>by
   rw[Cp]at hj;rw[Addr.add_lit];exact V _ u hj) (by rw[am,ab];omega) (λu hu=>an u (DX hu))
 obtain⟨W2,Z,ca,Y,ay,bp,bi,lE⟩:=jY (p:=AE) (dT:=183) (sT:=183) (ty:=3) (sz:=22) (o:=i*22) (L:=n+1 - i) (C:=cap - i) (M:=1) (C':=cx) (a:=⟨vb,vo,none⟩) (news:=G) CA Ab a5
  (by rw[ac];simp only[Nat.min_def];split<;>omega) (λj u hj=>by
   have h1:=aa j u hj;have h2:W1.heap[vb]? =w.heap[vb]? :=U.block vb a7;rw[Addr.add_lit]at h1⊢;rw[BM (w:=w) (w':=W1) (a:=⟨vb,vo+j,none⟩) h2];exact h1) (by rw[ac,a0,ab];omega) av
 have k1:∀k,k<i*22->Z[k]? =xs[k]? :=λk I=>by
  rw[lE k (.inl I),ad k (.inl Aa),bb k Aa]
 have k2:∀k,k<22->Z[i*22+k]? =G[k]? :=λk I=>by
  rw[bi k _ (AU Aa),AU Aa]
 have k3:∀k,k<(n - i)*22->Z[(i+1)*22+k]? =xs[i*22+k]? :=λk I=>by
  rw[lE _ (.inr Aa),be k _ (AU Aa),List.getElem_drop,AU]
 have au:Own W2 g:=by
  obtain⟨cs,t,h1,h2⟩:=a4;rw[hg]at h1;injection h1 with h1;injection h1 with h1 _;subst h1;refine⟨Z,stT,ay,λk m I=> ?_⟩;by_cases a1:k<i*22
  ·rw[k1 k a1]at I;exact(an _ (Bb I)).2.2 m rfl
  ·by_cases a2:k<(i+1)*22
   ·rw[show k=i*22+(k - i*22)from Aa,k2 _ Aa]at I;exact(av _ (Bb I)).2.2 m rfl
   ·by_cases a3:k<(n+1)*22
    ·rw[show k=(i+1)*22+(k - (i+1)*22)from Aa,k3 _ Aa]at I;exact(an _ (Bb I)).2.2 m rfl
    ·rw[lE k (.inr (by rw[ac];omega)),ad k (.inr (by rw[am];omega))]at I;exact h2 k m I
 have H:w.grownBy W2 (some g):=by
  refine⟨Y.os.trans U.os,Y.tape.trans U.tape,Y.output.trans U.output,?_,λk I b0=> ?_⟩
  ·rw[Y.size];show _<=W1.heap.size;rw[U.size];exact AK _
  ·have:k≠g:=λe=>b0 (by rw[e])
   exact(Y.block k this).trans (U.block k this)
 have ar:(Vp.ownr stT 22 (n+1) (bx (S.take i++s::S.drop i))).p W2 (.slice (some ⟨g,0,none⟩) (n+1) cap):=by
  refine⟨xs.take (i*22)++(G++xs.drop (i*22)),⟨⟨?_,.inr ⟨g,cap,Z,rfl,Bc _,ay,P,bq,by rw[bp,a0,ab],?_⟩⟩,λg' bt=> ?_⟩,?_⟩
  ·simp only[By,Bp,am,ap,ac];omega
  ·exact xh Aa ap ac (by rw[bp,a0,ab];omega) k1 k2 k3
  ·have:g=g':=A9.inj bt;subst this;exact au
  ·subst hn;refine(sU Aa hc ak).chg (X:=λx=>x=g) ⟨H.size,λk I hX=>H.block k I (λe=>hX (A9.inj e)),λk I=> ?_⟩;subst I;exact a4.x
 have u0:∀w,(underlying 183).run AE w= .ok (.slice 120) w:=λw=>run_underlying CA
 have c8:Bd.wrap ((n:Int)+1)=(n:Int)+1:=by rw[BQ];omega
 have c9:Bd.wrap ((i:Int)+1)=(i:Int)+1:=by rw[BQ];omega
 have b1:¬((i:Int)=(n:Int)):=Aa
 have b2:¬((cap:Int)<(n:Int)+1):=Aa
 have b3:(i:Int)<=(n:Int):=Aa
 have b4:(0:Int)<=(i:Int)+1:=Aa
 have b5:((i:Int)+1).toNat=i+1:=Aa
 have b6:¬(cap=i):=Aa
 have b7:¬(cap=i+1):=Aa
 have b9:(i:Int)+1<=(n:Int)+1:=Aa
 have cp:(0:Int)<=(n:Int)+1:=Aa
 have cu:(i:Int)<=(n:Int)+1:=Aa
 have cq:(n:Int)+1<=(cap:Int):=Aa
 have cr:((n:Int)+1).toNat=n+1:=Aa
 have c0:n+1<=cap:=P;have c1:i<=n:=Aa
 have c2:i<=n+1:=Aa
 have c3:i+1<=n+1:=Aa
 have c4:n+1 - (i+1)=n - i:=Aa
 have cl:AE.follows .mixedOrders=true:=Ab
 subst hn;have HF:=ar;have HG:=H;have HO:=au;clear ar H au k1 k2 k3 be bi ad lE V bb aa ak hc hx an av a5 ay U Y J ao cc a9 hg;go_enter Tryz.func187,Tryz.ntmps187
 go_wp2_with (simp only[b8])
 go_region_law_o (refine kN rfl _ _ 183 183 rfl (.slice (some ⟨g,(i+1)*22,none⟩) (S.length - i) (cap - (i+1))) (.slice (some ⟨g,i*22,none⟩) (S.length+1 - i) (cap - i)) (by simp[Db,AN]) (by simp[Db,AN]) hr1 ?_)
 go_wp2_with (at_builtin;refine iY rfl _ _ _ _ rfl _ _ rfl rfl ca ?_)
 go_ret;exact⟨_,rfl,HF,HG,λg' h=>(by have h:g=g':=A9.inj h;subst h;exact HO),λg' h=>.inl h⟩
theorem q_InsertS(v x:Value)(S:List St)(s:St)(i:Nat)(w:World)(hv:(Vp.ownr stT 22 S.length (bx S)).p w v)(H:(Vp.row stT 1 s.qs).p w x)(I:∀g,v.ownBlock=some g->∀a n c,x= .slice (some a) n c->a.block≠g)(hi:i<=S.length)(C:S.length<=1000000):
  AH AE 187 #[v,.int .i64 (i:Int),x] w λe w'=>InsP w v S s i e w':=by
 by_cases h:i=S.length
 ·subst h;exact q_Ins1 v x S s w hv H C
 ·have G:=hv;obtain⟨xs,⟨⟨_,P⟩,_⟩,_⟩:=G;rcases P with⟨rfl,h0⟩ | ⟨g,cap,J,rfl,_,_,K,_⟩
  ·omega
  ·by_cases hr:S.length+1<=cap
   ·exact q_Ins3 g cap x S s i w hv H (I g rfl) Aa hr C
   ·exact q_Ins2 g cap x S s i w hv H Aa Aa C
section
variable {ρ:Rho} {n m k r j:Nat} {u v c:Int} {b d:Bool} {l l':Leaf} {t T e:TypeId} {B:Blk} {w:World} {ik:IntKind} {x:St} {S:List St} {qs:List Vp} {L sz:Nat}
theorem own_p{s:Vp}{y:Value}(hn:ρ[n]? =some s)(h:(Leaf.own j n).holds ρ B w y):s.p w y/\(∀g,s.fp w y g->B.o j g)/\∀g,y.ownBlock=some g->B.o j g:=by
 obtain⟨C,h1,h2,h3,h4⟩:=h;rw[hn]at h1;injection h1 with h1;subst h1;exact⟨h2,h3,h4⟩
theorem run_slTo{v1:Value}(ht:p.underlying t=some (.slice e))(hz:szB p e=some 22)(h:(Vp.row T S.length (bx S)).p w v1)(I:k<=S.length):∃y,(CT t v1 none (some (.int .i64 (k:Int))) none).run p w= .ok y w/\(Vp.row T k (bx (S.take k))).p w y/\∀g,y.ownBlock=some g->v1.ownBlock=some g:=by
 rcases h with⟨h,h0,rfl⟩ | ⟨b,o,c,cs,rfl,hc,hb,H⟩
 ·have C:k=0:=Aa
  subst C;refine⟨.slice none 0 0,?_,.inl ⟨by simp[bx],rfl,rfl⟩,λg h=>h⟩;simp[CT,DY,EO,EP,asIntOf,AO,run_underlying ht,ba hz,AX,h0]
 ·refine⟨.slice (some ⟨b,o,none⟩) k c,?_,.inr ⟨b,o,c,cs,rfl,Aa,hb,λj q G=>H j q (rowS_take S k j q G)⟩,λg h=>h⟩;have h4:k<=c:=Aa
  simp[CT,DY,EO,EP,asIntOf,AO,run_underlying ht,ba hz,AX,h4,add_zero']
theorem qK{v1:Value}(ht:p.underlying t=some (.slice e))(hz:szB p e=some 22)(h:(Vp.row T S.length (bx S)).p w v1)(G:k<=S.length):∃y,(CT t v1 (some (.int .i64 (k:Int))) none none).run p w= .ok y w/\(Vp.row T (S.length - k) (bx (S.drop k))).p w y/\∀g,y.ownBlock=some g->v1.ownBlock=some g:=by
 rcases h with⟨h,h0,rfl⟩ | ⟨b,o,c,cs,rfl,hc,hb,I⟩
 ·have H:k=0:=Aa
  subst H;refine⟨.slice none 0 0,?_,.inl ⟨by simpa using h,by simpa using h0,rfl⟩,λg h=>h⟩;simp[CT,DY,EO,EP,asIntOf,AO,run_underlying ht,ba hz,AX,h0]
 ·refine⟨.slice (some ⟨b,if c=k then o else o+k*22,none⟩) (S.length - k) (c - k),?_,.inr ⟨b,_,_,cs,rfl,Aa,hb,λj q C=> ?_⟩,λg h=>h⟩
  ·have h4:(k:Int)<=(S.length:Int):=Aa
   by_cases hck:c=k
   ·simp[CT,DY,EO,EP,asIntOf,AO,run_underlying ht,ba hz,AX,h4,G,hck]
   ·simp[CT,DY,EO,EP,asIntOf,AO,run_underlying ht,ba hz,AX,h4,G,hck,cE]
  ·by_cases hck:c=k
   ·have h5:S.drop k=[]:=List.drop_eq_nil_of_le Aa;rw[h5]at C;simp[bx]at C
   ·rw[if_neg hck,Nat.add_assoc];exact I _ q (rowS_drop S k G j q C)
end
section
variable {ρ:Rho} {n m k r j:Nat} {u v c:Int} {b d:Bool} {l l':Leaf} {t T e:TypeId} {B:Blk} {w:World} {ik:IntKind} {x:St} {S:List St} {qs:List Vp} {L sz:Nat} {sl:Value} {pin:Bool}
end
structure TrkS(T:TypeId)(w:World)(g:Nat)(sl:Value)(S:List St):Prop where
 blk:w.heap[g]? =some (.cells #[sl] T (0,0))
 row:(Vp.row stT S.length (bx S)).p w sl
 ne:∀b,sl.ownBlock=some b->b≠g
structure TrkM(T:TypeId)(w:World)(g:Nat)(sl:Value)(S':List St)(w':World):Prop where
 ex:∃sl',TrkS T w' g sl' S'/\∀b,sl'.ownBlock=some b->sl.ownBlock=some b\/(w.heap.size<=b/\bF w' b)
 kept:(Ent.mk w (λx=>x=g) []).kept w'
section
variable {ρ:Rho} {w:World} {C:List Inst} {L:List OIns} {T:TypeId} {g m:Nat} {sl:Value} {S S':List St} {pin:Bool}
end
section
variable {ρ:Rho} {n m m' k r j u:Nat} {T:TypeId} {B:Blk} {w:World} {S S':List St} {f:BA} {args xs:List SV} {l:Leaf}
theorem uy{qs:List Vp}{y:Value}(h:(Vp.ownr T sz L qs).p w y):∀b,y.ownBlock=some b->bF w b:=λb hb=>by
 obtain⟨xs,⟨_,h0⟩,_⟩:=h;exact(h0 b hb).x
end
def plN:List St->Int->Nat
 | [],_=>0
 | s::S,a=>if s.tm<a then plN S a+1 else 0
theorem gH:∀(S:List St)(a:Int),plN S a<=S.length
 | [],_=>AK _
 | s::S,a=>by
  simp only[plN,Bz];split
  ·have:=gH S a;omega
  ·omega
theorem eo:∀ {S:List St} {a:Int} {k:Nat},k<plN S a->∃s,S[k]? =some s/\s.tm<a
 | [],_,_,h=>by simp[plN]at h
 | s::S,a,k,h=>by
  simp only[plN]at h;split at h
  ·rename_i hs
   match k with
   | 0=>exact⟨s,rfl,hs⟩
   | k+1=>
    obtain⟨x,h1,h2⟩:=eo (S:=S) (a:=a) (k:=k) (by omega);exact⟨x,by simpa using h1,h2⟩
  ·omega
theorem uz:∀ {S:List St} {a:Int},plN S a<S.length->∃s,S[plN S a]? =some s/\¬s.tm<a
 | [],_,h=>by simp at h
 | s::S,a,h=>by
  simp only[plN]at h⊢;split
  ·rename_i hs;rw[if_pos hs]at h;obtain⟨x,h1,h2⟩:=uz (S:=S) (a:=a) (by simp at h;omega);exact⟨x,by simpa using h1,h2⟩
  ·rename_i hs;exact⟨s,rfl,hs⟩
def opp(a b:Pq):Prop:=(a.rot.inv.mul b.rot).w.p=0
variable{u v:Int}
theorem ib_eql_t(h:u=v):intB .eql u v=some true:=by simp[intB,h]
theorem ib_eql_f(h:u≠v):intB .eql u v=some false:=by simp[intB,h]
def zq(w:World)(v:Value)(s:St):Prop:=∃cs:List Value,v= .agg (.int .i64 s.tm::cs).toArray/\aW w (s.pose.cs.map Fq.raw) cs
variable{xs:List Fq}{ys:Rho}
theorem st_isS{ks:List Nat}{B:Blk}{v:Value}(hn:(frs xs++ys)[n]? =some (.val (.int .i64 s.tm)))(ha:AtL xs ks s.pose.cs):(SV.agg (.ref n::sJ ks)).holds (frs xs++ys) B w v↔zq w v s:=by
 constructor
 ·rintro⟨vs,rfl,h⟩
  match vs,h with
  | v0::vs,h=>
   have:=cU hn h.1;subst this;exact⟨vs,rfl,(gS ha).1 h.2⟩
 ·rintro⟨cs,rfl,h⟩;exact⟨.int .i64 s.tm::cs,rfl,bY hn cw,(gS ha).2 h⟩
section
variable {ρ:Rho} {w:World} {C:List Inst} {L:List OIns} {T:TypeId} {g m:Nat} {sl:Value} {S S':List St}
theorem TrkM.same(h:TrkM T w g sl S w')(h2:w'.heap[g]? =w.heap[g]?):AG w.heap.size w w':=
 ⟨h.kept.os,h.kept.tape,h.kept.output,h.kept.size,λk G=>by
  by_cases e:k=g
  ·subst e;exact h2
  ·exact h.kept.block k G e⟩
end
theorem fS(H: -9223372036854775808<=v)(J:v<9223372036854775808)(G: -9223372036854775808<=u)(I:u<9223372036854775808)(h0:u≠0):(Fq.ratio v u).ok 2:=Fq.ok_low (lD H J) (lD G I) Aa
theorem dk(h0:u≠0):(Fq.ratio v u).valid=true:=jR Aa
section
variable {xs:List Fq} {ys:Rho} {k:Nat} {v u:Int} {l1 l2:Leaf}
theorem xi(h1:KI (frs xs++ys) l1 .i64 v)(h2:KI (frs xs++ys) l2 .i64 u)(K: -9223372036854775808<=v)(U:v<9223372036854775808)(J: -9223372036854775808<=u)(P:u<9223372036854775808)(h0:u≠0)(I:xs[k]? =some (.ratio v u)):OkI xs ys ⟨166,[.one l1,.one l2],.tup [fr k,.one (.i .i64 0)]⟩:=
 ⟨ai Tryz.func166 rfl rfl,λB w vs hB h=>by
  match vs,h with
  | [va,vb],h=>
   have G:=h1 B w va h.1;have H:=h2 B w vb h.2.1;subst G;subst H;refine(wJ v u w K U J P h0).mono ?_;rintro e w' ⟨v,rfl,h1,h2⟩;exact⟨_,rfl,⟨[v,.int .i64 0],rfl,(aw I).2 h1,rfl,trivial⟩,h2⟩⟩
theorem I_ratioR(h1:KI (frs xs++ys) l1 .i64 v)(h2:KI (frs xs++ys) l2 .i64 u)(K: -9223372036854775808<=v)(U:v<9223372036854775808)(J: -9223372036854775808<=u)(P:u<9223372036854775808)(h0:u≠0)(I:xs[k]? =some (.ratio v u)):OkI xs ys ⟨169,[.one l1,.one l2],.tup [fr k,.one (.i .i64 0)]⟩:=
 ⟨ai Tryz.func169 rfl rfl,λB w vs hB h=>by
  match vs,h with
  | [va,vb],h=>
   have G:=h1 B w va h.1;have H:=h2 B w vb h.2.1;subst G;subst H;refine(wK v u w K U J P h0).mono ?_;rintro e w' ⟨v,rfl,h1,h2⟩;exact⟨_,rfl,⟨[v,.int .i64 0],rfl,(aw I).2 h1,rfl,trivial⟩,h2⟩⟩
end
theorem half_p:(Fq.ratio 1 2).p≠0:=th
theorem half_1:(Fq.ratio 1 2)≠(Fq.ofInt 1):=λh=>absurd (congrArg Fq.q h) th
section
variable {ρ ρ':Rho} {n m k r N:Nat} {u v c:Int} {l l':Leaf} {t T e:TypeId} {B:Blk} {w:World} {x:St} {S:List St} {sl:Value} {pin:Bool}
theorem hq0:∀(j:Nat)(q:Vp),x.qs[j]? =some q->x.qs[0+j]? =some q:=λj q h=>by rw[Bh];exact h
theorem hq1:∀(j:Nat)(q:Vp),(frs x.pose.cs)[j]? =some q->x.qs[1+j]? =some q:=λj q h=>by rw[Nat.add_comm];exact h
end
section
variable {ρ:Rho} {n m k r j u:Nat} {T:TypeId} {B:Blk} {w:World} {S S':List St} {f:BA} {args xs:List SV} {l:Leaf} {sl0:Value} {pin:Bool}
end
section
variable {xs:List Fq} {ys ρ:Rho} {n m k j:Nat} {l:Leaf} {x:St} {S:List St} {sl:Value} {pin:Bool} {ks:List Nat} {T:TypeId}
end
def xclFX(a:Fq):List Fq:=[a]
theorem q_clF(va:Value)(a:Fq)(w:World)(ia:IsQ w va a)(ha:a.ok 1000000000):
  AH AE 214 #[va] w λe w'=>eN w a e w':=by
 refine(cRn (ρ:=frs (xclFX a)++([]:List Vp)) (args:=[fr 0]) (vs:=[va]) (r:=.v (fr 0))
  (ae (mV (n:=1) (m:=1) rfl rfl (AI ha.p th)) (ae (mV (n:=2) (m:=2) rfl rfl (AI ha.q th)) ag))
  ah Tryz.func214 Ab ⟨(aw (xs:=xclFX a) (k:=0) rfl).2 ia,trivial⟩).mono ?_
 rintro e w' ⟨v,rfl,h1,h2⟩;exact⟨v,rfl,(aw (xs:=xclFX a) (k:=0) rfl).1 h1,h2⟩
theorem qM{ia:Nat}{a:Fq}{ir:Nat}(G:xs[ia]? =some a)(H:xs[ir]? =some a)(ha:a.ok 1000000000):OkI xs ys ⟨214,[fr ia],.v (fr ir)⟩:=
 ⟨ai Tryz.func214 rfl rfl,λB w vs hB h=>by
  match vs,h with
  | [va],h=>
   refine(q_clF va a w ((aw G).1 h.1) ha).mono ?_;rintro e w' ⟨v,rfl,h1,h2⟩;exact⟨v,rfl,(aw H).2 h1,h2⟩⟩
def xclSX(s:St):List Fq:=s.pose.cs
theorem q_clS(v:Value)(s:St)(w:World)(i:zq w v s)(hs:s.pose.ok 1000000000):
  AH AE 165 #[v] w λe w'=>∃v,e= .returned v/\zq w' v s/\AG w.heap.size w w':=by
 refine(cRn (ρ:=frs (xclSX s)++([.val (.int .i64 s.tm)]:List Vp)) (args:=[.agg (.ref 21::sJ [0,1,2,3,4,5,6])]) (vs:=[v]) (r:=.v (.agg (.ref 21::sJ [0,1,2,3,4,5,6])))
  (ae (qM (ia:=0) (ir:=0) rfl rfl (hs.rot.w.mono th)) (ae (qM (ia:=1) (ir:=1) rfl rfl (hs.rot.x.mono th)) (ae (qM (ia:=2) (ir:=2) rfl rfl (hs.rot.y.mono th)) (ae (qM (ia:=3) (ir:=3) rfl rfl (hs.rot.z.mono th)) (ae (qM (ia:=4) (ir:=4) rfl rfl (hs.pos.x.mono th)) (ae (qM (ia:=5) (ir:=5) rfl rfl (hs.pos.y.mono th)) (ae (qM (ia:=6) (ir:=6) rfl rfl (hs.pos.z.mono th)) ag)))))))
  ah Tryz.func165 Ab ⟨(st_isS (xs:=xclSX s) (n:=21) (ks:=[0,1,2,3,4,5,6]) (s:=s) rfl Af).2 i,trivial⟩).mono ?_
 rintro e w' ⟨v,rfl,h1,h2⟩;exact⟨v,rfl,(st_isS (xs:=xclSX s) (n:=21) (ks:=[0,1,2,3,4,5,6]) (s:=s) rfl Af).1 h1,h2⟩
def aaT:List Fq:=[(Fq.ratio 1 2)]
theorem q_tHalf(w:World):
  AH AE 255 #[] w λe w'=>eN w (Fq.ratio 1 2) e w':=by
 refine(cRn (ρ:=frs (aaT)++([]:List Vp)) (args:=[]) (vs:=[]) (r:=.v (fr 0))
  (ae (I_ratioR (v:=1) (u:=2) (k:=0) (xf (c:=1)) (xf (c:=2)) th th th th th rfl) ag)
  ah Tryz.func255 Ab trivial).mono ?_
 rintro e w' ⟨v,rfl,h1,h2⟩;exact⟨v,rfl,(aw (xs:=aaT) (k:=0) rfl).1 h1,h2⟩
theorem aaU{ir:Nat}(G:xs[ir]? =some (Fq.ratio 1 2)):OkI xs ys ⟨255,[],.v (fr ir)⟩:=
 ⟨ai Tryz.func255 rfl rfl,λB w vs hB h=>by
  match vs,h with
  | [],h=>
   refine(q_tHalf w).mono ?_;rintro e w' ⟨v,rfl,h1,h2⟩;exact⟨v,rfl,(aw G).2 h1,h2⟩⟩
def xop1X(a:Pq)(b:Pq):List Fq:=(a.cs++(b.cs++([(Fq.ratio 1 2)]++(Pq.zero.cs))))
theorem q_op1(va vb:Value)(a:Pq)(b:Pq)(w:World)(ia:bh w va a)(J:bh w vb b)(ha:a.ok 100)(hb:b.ok 100)(G:a.good)(H:b.good)(I:(a.rot.inv.mul b.rot).w.p=0):
  AH AE 186 #[va,vb] w λe w'=>bk w (.bool true) e w':=by
 refine(cRn (ρ:=frs (xop1X a b)++([]:List Vp)) (args:=[row [0,1,2,3,4,5,6],row [7,8,9,10,11,12,13]]) (vs:=[va,vb]) (r:=.v (.one (.b true)))
  (ae (xi (v:=1) (u:=2) (k:=14) (xf (c:=1)) (xf (c:=2)) th th th th th rfl) (ae (I_poBtw4 (ka:=[0,1,2,3,4,5,6]) (a:=a) (kb:=[7,8,9,10,11,12,13]) (b:=b) (im:=14) (kr:=[15,16,17,18,19,20,21]) Af Af rfl Af (ha.mono th) (hb.mono th) ((fS (v:=1) (u:=2) th th th th th).mono th) G H (dk (v:=1) (u:=2) th) I half_p half_1) ag))
  ah Et Ab ⟨(af (xs:=xop1X a b) (ks:=[0,1,2,3,4,5,6]) (vs:=a.cs) Af).2 ia,⟨(af (xs:=xop1X a b) (ks:=[7,8,9,10,11,12,13]) (vs:=b.cs) Af).2 J,trivial⟩⟩).mono ?_
 rintro e w' ⟨v,rfl,h1,h2⟩;exact⟨congrArg A4 h1,h2⟩
def xop0X(a:Pq)(b:Pq):List Fq:=(a.cs++(b.cs++([(Fq.ratio 1 2)]++((Pq.mk (a.rot.way (a.rot.inv.mul b.rot) (Fq.ratio 1 2)) (a.pos.lerp b.pos (Fq.ratio 1 2))).cs))))
theorem q_op0(va vb:Value)(a:Pq)(b:Pq)(w:World)(ia:bh w va a)(J:bh w vb b)(ha:a.ok 100)(hb:b.ok 100)(G:a.good)(H:b.good)(I:(a.rot.inv.mul b.rot).w.p≠0):
  AH AE 186 #[va,vb] w λe w'=>bk w (.bool false) e w':=by
 refine(cRn (ρ:=frs (xop0X a b)++([]:List Vp)) (args:=[row [0,1,2,3,4,5,6],row [7,8,9,10,11,12,13]]) (vs:=[va,vb]) (r:=.v (.one (.b false)))
  (ae (xi (v:=1) (u:=2) (k:=14) (xf (c:=1)) (xf (c:=2)) th th th th th rfl) (ae (I_poBtw1 (ka:=[0,1,2,3,4,5,6]) (a:=a) (kb:=[7,8,9,10,11,12,13]) (b:=b) (im:=14) (kr:=[15,16,17,18,19,20,21]) Af Af rfl Af (ha.mono th) (hb.mono th) ((fS (v:=1) (u:=2) th th th th th).mono th) G H (dk (v:=1) (u:=2) th) I) ag))
  ah Et Ab ⟨(af (xs:=xop0X a b) (ks:=[0,1,2,3,4,5,6]) (vs:=a.cs) Af).2 ia,⟨(af (xs:=xop0X a b) (ks:=[7,8,9,10,11,12,13]) (vs:=b.cs) Af).2 J,trivial⟩⟩).mono ?_
 rintro e w' ⟨v,rfl,h1,h2⟩;exact⟨congrArg A4 h1,h2⟩
def zr(a:Pq)(b:Pq):List Fq:=(a.cs++(b.cs++([(Fq.ratio 1 2)]++(Pq.zero.cs))))
theorem q_rop1(va vb:Value)(a:Pq)(b:Pq)(w:World)(ia:bh w va a)(J:bh w vb b)(ha:a.ok 100)(hb:b.ok 100)(G:a.good)(H:b.good)(I:(a.rot.inv.mul b.rot).w.p=0):
  AH AE 207 #[va,vb] w λe w'=>bk w (.bool true) e w':=by
 refine(cRn (ρ:=frs (zr a b)++([]:List Vp)) (args:=[row [0,1,2,3,4,5,6],row [7,8,9,10,11,12,13]]) (vs:=[va,vb]) (r:=.v (.one (.b true)))
  (ae (aaU (ir:=14) rfl) (ae (I_rpBtw4 (ka:=[0,1,2,3,4,5,6]) (a:=a) (kb:=[7,8,9,10,11,12,13]) (b:=b) (im:=14) (kr:=[15,16,17,18,19,20,21]) Af Af rfl Af (ha.mono th) (hb.mono th) ((fS (v:=1) (u:=2) th th th th th).mono th) G H (dk (v:=1) (u:=2) th) I half_p half_1) ag))
  ah Eu Ab ⟨(af (xs:=zr a b) (ks:=[0,1,2,3,4,5,6]) (vs:=a.cs) Af).2 ia,⟨(af (xs:=zr a b) (ks:=[7,8,9,10,11,12,13]) (vs:=b.cs) Af).2 J,trivial⟩⟩).mono ?_
 rintro e w' ⟨v,rfl,h1,h2⟩;exact⟨congrArg A4 h1,h2⟩
def zs(a:Pq)(b:Pq):List Fq:=(a.cs++(b.cs++([(Fq.ratio 1 2)]++((Pq.mk (a.rot.way (a.rot.inv.mul b.rot) (Fq.ratio 1 2)) (a.pos.lerp b.pos (Fq.ratio 1 2))).cs))))
theorem q_rop0(va vb:Value)(a:Pq)(b:Pq)(w:World)(ia:bh w va a)(J:bh w vb b)(ha:a.ok 100)(hb:b.ok 100)(G:a.good)(H:b.good)(I:(a.rot.inv.mul b.rot).w.p≠0):
  AH AE 207 #[va,vb] w λe w'=>bk w (.bool false) e w':=by
 refine(cRn (ρ:=frs (zs a b)++([]:List Vp)) (args:=[row [0,1,2,3,4,5,6],row [7,8,9,10,11,12,13]]) (vs:=[va,vb]) (r:=.v (.one (.b false)))
  (ae (aaU (ir:=14) rfl) (ae (I_rpBtw1 (ka:=[0,1,2,3,4,5,6]) (a:=a) (kb:=[7,8,9,10,11,12,13]) (b:=b) (im:=14) (kr:=[15,16,17,18,19,20,21]) Af Af rfl Af (ha.mono th) (hb.mono th) ((fS (v:=1) (u:=2) th th th th th).mono th) G H (dk (v:=1) (u:=2) th) I) ag))
  ah Eu Ab ⟨(af (xs:=zs a b) (ks:=[0,1,2,3,4,5,6]) (vs:=a.cs) Af).2 ia,⟨(af (xs:=zs a b) (ks:=[7,8,9,10,11,12,13]) (vs:=b.cs) Af).2 J,trivial⟩⟩).mono ?_
 rintro e w' ⟨v,rfl,h1,h2⟩;exact⟨congrArg A4 h1,h2⟩
def zst:St:=⟨0,Pq.zero⟩
def fT(S:List St)(i:Nat)(s:St):List St:=S.take i++s::S.drop i
theorem gW(h:i<=S.length):(fT S i s).length=S.length+1:=by
 simp only[fT,By,Bp,Bz,Cv];omega
section
variable {ρ:Rho} {n m k r j u i:Nat} {a:Int} {S S':List St} {l la il:Leaf} {sl0:Value} {pin:Bool} {s:St} {xn:Nat}
end
def zt:List Nat->List Leaf
 | []=>[]
 | n::ns=>.ref n::.ref (n+1)::.ref (n+2)::zt ns
def dp(ns:List Nat):SV:=.agg (zt ns)
def AtR(ρ:Rho):List Nat->List Rq->Prop
 | [],[]=>True
 | n::ns,r::rs=>(ρ[n]? =some (.val (.bool r.s))/\ρ[n+1]? =some (.dig r.L r.p)/\ρ[n+2]? =some (.dig r.N r.q))/\AtR ρ ns rs
 | _,_=>False
def Rq.vld(r:Rq):Bool:=decide (nl r.p=r.L/\nl r.q=r.N) && (Fq.mk r.s r.p r.q).valid
section
variable {ρ:Rho} {xs:List Fq} {ys:Rho} {n m k:Nat} {u v:Int} {l:Leaf} {t:TypeId} {B:Blk} {w:World} {r:Rq}
theorem lV:∀ {ns:List Nat} {rs:List Rq} {cs:List Value},AtR ρ ns rs->(az ρ B w (zt ns) cs↔aW w rs cs)
 | [],[],cs,_=>by
  constructor
  ·intro h;match cs,h with | [],_=>rfl
  ·intro h;have h:cs=[]:=h;subst h;trivial
 | n::ns,r::rs,cs,h=>by
  obtain⟨⟨h1,h2,h3⟩,h4⟩:=h;have J:=λcs=>lV (ns:=ns) (rs:=rs) (cs:=cs) h4
  constructor
  ·intro hl
   match cs,hl with
   | u1::u2::u3::G,hl=>
    obtain⟨g1,g2,P,U⟩:=hl;have K:=(leafB h1).1 g1;have H:=(jk h2).1 g2;have I:=(jk h3).1 P;obtain⟨a,c,rfl⟩:=jT H;obtain⟨b,d,rfl⟩:=jT I;subst K;exact⟨a,c,b,d,G,rfl,H,I,(J G).1 U⟩
   | [],hl=>exact hl.elim
   | [_],hl=>exact hl.2.elim
   | [_,_],hl=>exact hl.2.2.elim
  ·rintro⟨a,c,b,d,G,rfl,V,Y,Z⟩;exact⟨(leafB h1).2 rfl,(jk h2).2 V,(jk h3).2 Y,(J G).2 Z⟩
 | [],_::_,_,h=>h.elim
 | _::_,[],_,h=>h.elim
theorem aQ{ns:List Nat}{rs:List Rq}(h:AtR ρ ns rs):(dp ns).holds ρ B w x↔IsL w x rs:=by
 constructor
 ·rintro⟨cs,rfl,h1⟩;exact⟨cs,rfl,(lV h).1 h1⟩
 ·rintro⟨cs,rfl,h1⟩;exact⟨cs,rfl,(lV h).2 h1⟩
theorem isL_FR(h:IsL w x [r]):qh w x r.s r.L r.p r.N r.q:=by
 obtain⟨cs,rfl,a,c,b,d,G,rfl,H,I,e⟩:=h;have e:G=[]:=e;subst e;exact⟨a,c,b,d,rfl,H,I⟩
theorem cR(h:r.vld=true):r=(Fq.mk r.s r.p r.q).raw/\(Fq.mk r.s r.p r.q).valid=true:=by
 unfold Rq.vld at h;simp only[Bo,decide_eq_true_eq]at h;obtain⟨⟨h1,h2⟩,h3⟩:=h;refine⟨?_,h3⟩;obtain⟨s,L,p,N,q⟩:=r;simp only at h1 h2;subst h1;subst h2;rfl
theorem q_fValidX(x:Value)(w:World)(h:IsL w x [r])(G:r.L<=1000000)(H:r.N<=1000000):AH AE 235 #[x] w λe w'=>bk w (.bool r.vld) e w':=by
 have hf:=isL_FR h;by_cases hc:nl r.p=r.L/\nl r.q=r.N
 ·have e:r.vld=(Fq.mk r.s r.p r.q).valid:=by unfold Rq.vld;simp[hc]
  rw[e];exact wM x ⟨r.s,r.p,r.q⟩ w (hf.isQ hc.1 hc.2) (by show nl r.p<=_;omega) (by show nl r.q<=_;omega)
 ·have e:r.vld=false:=by unfold Rq.vld;simp[hc]
  rw[e];exact q_fValidR x r.s r.L r.p r.N r.q w hf G H hc
theorem q_rValidX(x:Value)(w:World)(h:IsL w x [r])(G:r.L<=1000000)(H:r.N<=1000000):AH AE 256 #[x] w λe w'=>bk w (.bool r.vld) e w':=by
 have hf:=isL_FR h;by_cases hc:nl r.p=r.L/\nl r.q=r.N
 ·have e:r.vld=(Fq.mk r.s r.p r.q).valid:=by unfold Rq.vld;simp[hc]
  rw[e];exact wN x ⟨r.s,r.p,r.q⟩ w (hf.isQ hc.1 hc.2) (by show nl r.p<=_;omega) (by show nl r.q<=_;omega)
 ·have e:r.vld=false:=by unfold Rq.vld;simp[hc]
  rw[e];exact q_rValidR x r.s r.L r.p r.N r.q w hf G H hc
variable{d:Bool}
theorem instX{f:BA}{b:Bool}(G:ji f)(hc:∀x w,IsL w x [r]->AH AE f #[x] w (λe w'=>bk w (.bool b) e w'))(hr:AtR (frs xs++ys) [n] [r])(h:b=d):OkI xs ys ⟨f,[dp [n]],.v (.one (.b d))⟩:=
 ⟨G,λB w vs hB hv=>by
  match vs,hv with
  | [va],hv=>
   refine(hc va w ((aQ hr).1 hv.1)).mono ?_;rintro e w' ⟨rfl,h2⟩;exact⟨_,rfl,by subst h;rfl,h2⟩⟩
theorem bm(hr:AtR (frs xs++ys) [n] [r])(h:r.vld=d)(G:r.L<=1000000)(H:r.N<=1000000):OkI xs ys ⟨235,[dp [n]],.v (.one (.b d))⟩:=
 instX (ai Tryz.func235 rfl rfl) (λx w I=>q_fValidX x w I G H) hr h
theorem bn(hr:AtR (frs xs++ys) [n] [r])(h:r.vld=d)(G:r.L<=1000000)(H:r.N<=1000000):OkI xs ys ⟨256,[dp [n]],.v (.one (.b d))⟩:=
 instX (ai Tryz.func256 rfl rfl) (λx w I=>q_rValidX x w I G H) hr h
end
theorem jz{r:Rq}(h:r.vld=true):nl r.p=r.L/\nl r.q=r.N:=by
 unfold Rq.vld at h;simp only[Bo,decide_eq_true_eq]at h;exact h.1
def Rq.sh(r:Rq):Bool:=decide (r.L<=4) && decide (r.N<=4)
def Rq.sm(r:Rq):Bool:=r.sh && r.vld
def oY(r0 r1 r2 r3:Rq):Bool:=(r0.vld && (r1.vld && (r2.vld && r3.vld))) && (Qq.mk ⟨r0.s,r0.p,r0.q⟩ ⟨r1.s,r1.p,r1.q⟩ ⟨r2.s,r2.p,r2.q⟩ ⟨r3.s,r3.p,r3.q⟩).first.same (Fq.ofInt 1)
def fv(r0 r1 r2 r3:Rq):List Fq:=[]
theorem q_partsX(x:Value)(r0 r1 r2 r3:Rq)(w:World)(h:IsL w x [r0,r1,r2,r3]):AH AE 177 #[x] w λe w'=>RetL w [r0,r1,r2,r3] e w':=by
 refine(cRn (ρ:=frs (fv r0 r1 r2 r3)++ [.val (.bool r0.s),.dig r0.L r0.p,.dig r0.N r0.q,.val (.bool r1.s),.dig r1.L r1.p,.dig r1.N r1.q,.val (.bool r2.s),.dig r2.L r2.p,.dig r2.N r2.q,.val (.bool r3.s),.dig r3.L r3.p,.dig r3.N r3.q]) (args:=[dp [0,3,6,9]]) (vs:=[x]) (r:=.v (dp [0,3,6,9]))
  (ag) ah Tryz.func177 Ab ⟨(aQ (ns:=[0,3,6,9]) (rs:=[r0,r1,r2,r3]) ⟨Ae,Ae,Ae,Ae,trivial⟩).2 h,trivial⟩).mono ?_
 rintro e w' ⟨v,rfl,h1,h2⟩;exact⟨v,rfl,(aQ (ns:=[0,3,6,9]) (rs:=[r0,r1,r2,r3]) ⟨Ae,Ae,Ae,Ae,trivial⟩).1 h1,h2⟩
variable{ns:List Nat}{r0 r1 r2 r3:Rq}
theorem mW(hr:AtR (frs xs++ys) ns [r0,r1,r2,r3]):OkI xs ys ⟨177,[dp ns],.v (dp ns)⟩:=
 ⟨ai Tryz.func177 rfl rfl,λB w vs hB h=>by
  match vs,h with
  | [va],h=>
   refine(q_partsX va r0 r1 r2 r3 w ((aQ hr).1 h.1)).mono ?_;rintro e w' ⟨v,rfl,h1,h2⟩;exact⟨v,rfl,(aQ hr).2 h1,h2⟩⟩
def zu(r0 r1 r2 r3:Rq):List Fq:=[]
def zw(r0 r1 r2 r3:Rq):List Fq:=[]
def zx(r0 r1 r2 r3:Rq):List Fq:=[]
def zy(r0 r1 r2 r3:Rq):List Fq:=[]
theorem q_fValidN(x:Value)(r0 r1 r2 r3:Rq)(w:World)(h:IsL w x [r0,r1,r2,r3])(G:r0.L<=1000000)(H:r0.N<=1000000)(I:r1.L<=1000000)(J:r1.N<=1000000)(K:r2.L<=1000000)(P:r2.N<=1000000)(V:r3.L<=1000000)(Y:r3.N<=1000000)(U:(r0.vld && (r1.vld && (r2.vld && r3.vld)))=false):AH AE 181 #[x] w λe w'=>bk w (.bool false) e w':=by
 rcases BG (r0.vld)with c0 | c0
 ·rcases BG (r1.vld)with c1 | c1
  ·rcases BG (r2.vld)with c2 | c2
   ·rcases BG (r3.vld)with c3 | c3
    ·exact absurd U (by rw[c0,c1,c2,c3];decide)
    ·refine(cRn (ρ:=frs (zu r0 r1 r2 r3)++ [.val (.bool r0.s),.dig r0.L r0.p,.dig r0.N r0.q,.val (.bool r1.s),.dig r1.L r1.p,.dig r1.N r1.q,.val (.bool r2.s),.dig r2.L r2.p,.dig r2.N r2.q,.val (.bool r3.s),.dig r3.L r3.p,.dig r3.N r3.q]) (args:=[dp [0,3,6,9]]) (vs:=[x]) (r:=.v (.one (.b false)))
      (ae (mW (ns:=[0,3,6,9]) ⟨Ae,Ae,Ae,Ae,trivial⟩) (ae (bm (n:=0) (r:=r0) (d:=true) ⟨Ae,trivial⟩ c0 G H) (ae (bm (n:=3) (r:=r1) (d:=true) ⟨Ae,trivial⟩ c1 I J) (ae (bm (n:=6) (r:=r2) (d:=true) ⟨Ae,trivial⟩ c2 K P) (ae (bm (n:=9) (r:=r3) (d:=false) ⟨Ae,trivial⟩ c3 V Y) (ag)))))) ah CK Ab ⟨(aQ (ns:=[0,3,6,9]) (rs:=[r0,r1,r2,r3]) ⟨Ae,Ae,Ae,Ae,trivial⟩).2 h,trivial⟩).mono ?_
     rintro e w' ⟨v,rfl,h1,h2⟩;exact⟨congrArg A4 h1,h2⟩
   ·refine(cRn (ρ:=frs (zw r0 r1 r2 r3)++ [.val (.bool r0.s),.dig r0.L r0.p,.dig r0.N r0.q,.val (.bool r1.s),.dig r1.L r1.p,.dig r1.N r1.q,.val (.bool r2.s),.dig r2.L r2.p,.dig r2.N r2.q,.val (.bool r3.s),.dig r3.L r3.p,.dig r3.N r3.q]) (args:=[dp [0,3,6,9]]) (vs:=[x]) (r:=.v (.one (.b false)))
     (ae (mW (ns:=[0,3,6,9]) ⟨Ae,Ae,Ae,Ae,trivial⟩) (ae (bm (n:=0) (r:=r0) (d:=true) ⟨Ae,trivial⟩ c0 G H) (ae (bm (n:=3) (r:=r1) (d:=true) ⟨Ae,trivial⟩ c1 I J) (ae (bm (n:=6) (r:=r2) (d:=false) ⟨Ae,trivial⟩ c2 K P) (ag))))) ah CK Ab ⟨(aQ (ns:=[0,3,6,9]) (rs:=[r0,r1,r2,r3]) ⟨Ae,Ae,Ae,Ae,trivial⟩).2 h,trivial⟩).mono ?_
    rintro e w' ⟨v,rfl,h1,h2⟩;exact⟨congrArg A4 h1,h2⟩
  ·refine(cRn (ρ:=frs (zx r0 r1 r2 r3)++ [.val (.bool r0.s),.dig r0.L r0.p,.dig r0.N r0.q,.val (.bool r1.s),.dig r1.L r1.p,.dig r1.N r1.q,.val (.bool r2.s),.dig r2.L r2.p,.dig r2.N r2.q,.val (.bool r3.s),.dig r3.L r3.p,.dig r3.N r3.q]) (args:=[dp [0,3,6,9]]) (vs:=[x]) (r:=.v (.one (.b false)))
    (ae (mW (ns:=[0,3,6,9]) ⟨Ae,Ae,Ae,Ae,trivial⟩) (ae (bm (n:=0) (r:=r0) (d:=true) ⟨Ae,trivial⟩ c0 G H) (ae (bm (n:=3) (r:=r1) (d:=false) ⟨Ae,trivial⟩ c1 I J) (ag)))) ah CK Ab ⟨(aQ (ns:=[0,3,6,9]) (rs:=[r0,r1,r2,r3]) ⟨Ae,Ae,Ae,Ae,trivial⟩).2 h,trivial⟩).mono ?_
   rintro e w' ⟨v,rfl,h1,h2⟩;exact⟨congrArg A4 h1,h2⟩
 ·refine(cRn (ρ:=frs (zy r0 r1 r2 r3)++ [.val (.bool r0.s),.dig r0.L r0.p,.dig r0.N r0.q,.val (.bool r1.s),.dig r1.L r1.p,.dig r1.N r1.q,.val (.bool r2.s),.dig r2.L r2.p,.dig r2.N r2.q,.val (.bool r3.s),.dig r3.L r3.p,.dig r3.N r3.q]) (args:=[dp [0,3,6,9]]) (vs:=[x]) (r:=.v (.one (.b false)))
   (ae (mW (ns:=[0,3,6,9]) ⟨Ae,Ae,Ae,Ae,trivial⟩) (ae (bm (n:=0) (r:=r0) (d:=false) ⟨Ae,trivial⟩ c0 G H) (ag))) ah CK Ab ⟨(aQ (ns:=[0,3,6,9]) (rs:=[r0,r1,r2,r3]) ⟨Ae,Ae,Ae,Ae,trivial⟩).2 h,trivial⟩).mono ?_
  rintro e w' ⟨v,rfl,h1,h2⟩;exact⟨congrArg A4 h1,h2⟩
def zz(r0 r1 r2 r3:Rq):List Fq:=[]
def zA(r0 r1 r2 r3:Rq):List Fq:=[]
def zB(r0 r1 r2 r3:Rq):List Fq:=[]
def zC(r0 r1 r2 r3:Rq):List Fq:=[]
theorem q_rValidN(x:Value)(r0 r1 r2 r3:Rq)(w:World)(h:IsL w x [r0,r1,r2,r3])(G:r0.L<=1000000)(H:r0.N<=1000000)(I:r1.L<=1000000)(J:r1.N<=1000000)(K:r2.L<=1000000)(P:r2.N<=1000000)(V:r3.L<=1000000)(Y:r3.N<=1000000)(U:(r0.vld && (r1.vld && (r2.vld && r3.vld)))=false):AH AE 208 #[x] w λe w'=>bk w (.bool false) e w':=by
 rcases BG (r0.vld)with c0 | c0
 ·rcases BG (r1.vld)with c1 | c1
  ·rcases BG (r2.vld)with c2 | c2
   ·rcases BG (r3.vld)with c3 | c3
    ·exact absurd U (by rw[c0,c1,c2,c3];decide)
    ·refine(cRn (ρ:=frs (zz r0 r1 r2 r3)++ [.val (.bool r0.s),.dig r0.L r0.p,.dig r0.N r0.q,.val (.bool r1.s),.dig r1.L r1.p,.dig r1.N r1.q,.val (.bool r2.s),.dig r2.L r2.p,.dig r2.N r2.q,.val (.bool r3.s),.dig r3.L r3.p,.dig r3.N r3.q]) (args:=[dp [0,3,6,9]]) (vs:=[x]) (r:=.v (.one (.b false)))
      (ae (bn (n:=0) (r:=r0) (d:=true) ⟨Ae,trivial⟩ c0 G H) (ae (bn (n:=3) (r:=r1) (d:=true) ⟨Ae,trivial⟩ c1 I J) (ae (bn (n:=6) (r:=r2) (d:=true) ⟨Ae,trivial⟩ c2 K P) (ae (bn (n:=9) (r:=r3) (d:=false) ⟨Ae,trivial⟩ c3 V Y) (ag))))) ah DW Ab ⟨(aQ (ns:=[0,3,6,9]) (rs:=[r0,r1,r2,r3]) ⟨Ae,Ae,Ae,Ae,trivial⟩).2 h,trivial⟩).mono ?_
     rintro e w' ⟨v,rfl,h1,h2⟩;exact⟨congrArg A4 h1,h2⟩
   ·refine(cRn (ρ:=frs (zA r0 r1 r2 r3)++ [.val (.bool r0.s),.dig r0.L r0.p,.dig r0.N r0.q,.val (.bool r1.s),.dig r1.L r1.p,.dig r1.N r1.q,.val (.bool r2.s),.dig r2.L r2.p,.dig r2.N r2.q,.val (.bool r3.s),.dig r3.L r3.p,.dig r3.N r3.q]) (args:=[dp [0,3,6,9]]) (vs:=[x]) (r:=.v (.one (.b false)))
     (ae (bn (n:=0) (r:=r0) (d:=true) ⟨Ae,trivial⟩ c0 G H) (ae (bn (n:=3) (r:=r1) (d:=true) ⟨Ae,trivial⟩ c1 I J) (ae (bn (n:=6) (r:=r2) (d:=false) ⟨Ae,trivial⟩ c2 K P) (ag)))) ah DW Ab ⟨(aQ (ns:=[0,3,6,9]) (rs:=[r0,r1,r2,r3]) ⟨Ae,Ae,Ae,Ae,trivial⟩).2 h,trivial⟩).mono ?_
    rintro e w' ⟨v,rfl,h1,h2⟩;exact⟨congrArg A4 h1,h2⟩
  ·refine(cRn (ρ:=frs (zB r0 r1 r2 r3)++ [.val (.bool r0.s),.dig r0.L r0.p,.dig r0.N r0.q,.val (.bool r1.s),.dig r1.L r1.p,.dig r1.N r1.q,.val (.bool r2.s),.dig r2.L r2.p,.dig r2.N r2.q,.val (.bool r3.s),.dig r3.L r3.p,.dig r3.N r3.q]) (args:=[dp [0,3,6,9]]) (vs:=[x]) (r:=.v (.one (.b false)))
    (ae (bn (n:=0) (r:=r0) (d:=true) ⟨Ae,trivial⟩ c0 G H) (ae (bn (n:=3) (r:=r1) (d:=false) ⟨Ae,trivial⟩ c1 I J) (ag))) ah DW Ab ⟨(aQ (ns:=[0,3,6,9]) (rs:=[r0,r1,r2,r3]) ⟨Ae,Ae,Ae,Ae,trivial⟩).2 h,trivial⟩).mono ?_
   rintro e w' ⟨v,rfl,h1,h2⟩;exact⟨congrArg A4 h1,h2⟩
 ·refine(cRn (ρ:=frs (zC r0 r1 r2 r3)++ [.val (.bool r0.s),.dig r0.L r0.p,.dig r0.N r0.q,.val (.bool r1.s),.dig r1.L r1.p,.dig r1.N r1.q,.val (.bool r2.s),.dig r2.L r2.p,.dig r2.N r2.q,.val (.bool r3.s),.dig r3.L r3.p,.dig r3.N r3.q]) (args:=[dp [0,3,6,9]]) (vs:=[x]) (r:=.v (.one (.b false)))
   (ae (bn (n:=0) (r:=r0) (d:=false) ⟨Ae,trivial⟩ c0 G H) (ag)) ah DW Ab ⟨(aQ (ns:=[0,3,6,9]) (rs:=[r0,r1,r2,r3]) ⟨Ae,Ae,Ae,Ae,trivial⟩).2 h,trivial⟩).mono ?_
  rintro e w' ⟨v,rfl,h1,h2⟩;exact⟨congrArg A4 h1,h2⟩
theorem q_fValidB(vq:Value)(q:Qq)(w:World)(I:cX w vq q)(H:q.ok 1000000)(G:q.comp):AH AE 181 #[vq] w λe w'=>bk w (.bool (q.first.same (Fq.ofInt 1))) e w':=by
 by_cases h:q.first=Fq.ofInt 1
 ·rw[Fq.same_iff.2 h];exact qw vq q w I H (uv G h)
 ·rw[dR h];exact zf vq q w I H G h
theorem zD(x:Value)(r0 r1 r2 r3:Rq)(w:World)(h:IsL w x [r0,r1,r2,r3])(G:r0.L<=1000000)(Y:r0.N<=1000000)(H:r1.L<=1000000)(Z:r1.N<=1000000)(I:r2.L<=1000000)(aa:r2.N<=1000000)(J:r3.L<=1000000)(ab:r3.N<=1000000):AH AE 181 #[x] w λe w'=>bk w (.bool (oY r0 r1 r2 r3)) e w':=by
 rcases BG (r0.vld && (r1.vld && (r2.vld && r3.vld)))with hv | hv
 ·unfold oY;rw[hv,Bool.true_and];simp only[Bo]at hv;obtain⟨h0,h1,h2,h3⟩:=hv;have k0:=jz h0;have k1:=jz h1;have k2:=jz h2;have k3:=jz h3;have K:=cR h0;have P:=cR h1;have U:=cR h2;have V:=cR h3;refine q_fValidB x (Qq.mk ⟨r0.s,r0.p,r0.q⟩ ⟨r1.s,r1.p,r1.q⟩ ⟨r2.s,r2.p,r2.q⟩ ⟨r3.s,r3.p,r3.q⟩) w (by have h':=h;rw[K.1,P.1,U.1,V.1]at h';exact h') ⟨⟨?_,?_,Fq.valid.n K.2⟩,⟨?_,?_,Fq.valid.n P.2⟩,⟨?_,?_,Fq.valid.n U.2⟩,⟨?_,?_,Fq.valid.n V.2⟩⟩ ⟨K.2,P.2,U.2,V.2⟩
  ·show nl r0.p<=_;omega
  ·show nl r0.q<=_;omega
  ·show nl r1.p<=_;omega
  ·show nl r1.q<=_;omega
  ·show nl r2.p<=_;omega
  ·show nl r2.q<=_;omega
  ·show nl r3.p<=_;omega
  ·show nl r3.q<=_;omega
 ·unfold oY;rw[hv,Bool.false_and];exact q_fValidN x r0 r1 r2 r3 w h G Y H Z I aa J ab hv
theorem q_rValidB(vq:Value)(q:Qq)(w:World)(I:cX w vq q)(H:q.ok 1000000)(G:q.comp):AH AE 208 #[vq] w λe w'=>bk w (.bool (q.first.same (Fq.ofInt 1))) e w':=by
 by_cases h:q.first=Fq.ofInt 1
 ·rw[Fq.same_iff.2 h];exact qz vq q w I H (uv G h)
 ·rw[dR h];exact zh vq q w I H G h
theorem zE(x:Value)(r0 r1 r2 r3:Rq)(w:World)(h:IsL w x [r0,r1,r2,r3])(G:r0.L<=1000000)(Y:r0.N<=1000000)(H:r1.L<=1000000)(Z:r1.N<=1000000)(I:r2.L<=1000000)(aa:r2.N<=1000000)(J:r3.L<=1000000)(ab:r3.N<=1000000):AH AE 208 #[x] w λe w'=>bk w (.bool (oY r0 r1 r2 r3)) e w':=by
 rcases BG (r0.vld && (r1.vld && (r2.vld && r3.vld)))with hv | hv
 ·unfold oY;rw[hv,Bool.true_and];simp only[Bo]at hv;obtain⟨h0,h1,h2,h3⟩:=hv;have k0:=jz h0;have k1:=jz h1;have k2:=jz h2;have k3:=jz h3;have K:=cR h0;have P:=cR h1;have U:=cR h2;have V:=cR h3;refine q_rValidB x (Qq.mk ⟨r0.s,r0.p,r0.q⟩ ⟨r1.s,r1.p,r1.q⟩ ⟨r2.s,r2.p,r2.q⟩ ⟨r3.s,r3.p,r3.q⟩) w (by have h':=h;rw[K.1,P.1,U.1,V.1]at h';exact h') ⟨⟨?_,?_,Fq.valid.n K.2⟩,⟨?_,?_,Fq.valid.n P.2⟩,⟨?_,?_,Fq.valid.n U.2⟩,⟨?_,?_,Fq.valid.n V.2⟩⟩ ⟨K.2,P.2,U.2,V.2⟩
  ·show nl r0.p<=_;omega
  ·show nl r0.q<=_;omega
  ·show nl r1.p<=_;omega
  ·show nl r1.q<=_;omega
  ·show nl r2.p<=_;omega
  ·show nl r2.q<=_;omega
  ·show nl r3.p<=_;omega
  ·show nl r3.q<=_;omega
 ·unfold oY;rw[hv,Bool.false_and];exact q_rValidN x r0 r1 r2 r3 w h G Y H Z I aa J ab hv
def kI(r0 r1 r2:Rq):Bool:=r0.vld && (r1.vld && r2.vld)
def oZ(r0 r1 r2 r3 r4 r5 r6:Rq):Bool:=oY r0 r1 r2 r3 && kI r4 r5 r6
def zF(r0 r1 r2:Rq):List Fq:=[]
def zG(r0 r1 r2:Rq):List Fq:=[]
def zH(r0 r1 r2:Rq):List Fq:=[]
def zI(r0 r1 r2:Rq):List Fq:=[]
theorem q_vValidR(x:Value)(r0 r1 r2:Rq)(w:World)(h:IsL w x [r0,r1,r2])(G:r0.L<=1000000)(H:r0.N<=1000000)(I:r1.L<=1000000)(J:r1.N<=1000000)(K:r2.L<=1000000)(P:r2.N<=1000000):AH AE 182 #[x] w λe w'=>bk w (.bool (kI r0 r1 r2)) e w':=by
 rcases BG (r0.vld)with c0 | c0
 ·rcases BG (r1.vld)with c1 | c1
  ·rcases BG (r2.vld)with c2 | c2
   ·refine(cRn (ρ:=frs (zF r0 r1 r2)++ [.val (.bool r0.s),.dig r0.L r0.p,.dig r0.N r0.q,.val (.bool r1.s),.dig r1.L r1.p,.dig r1.N r1.q,.val (.bool r2.s),.dig r2.L r2.p,.dig r2.N r2.q]) (args:=[dp [0,3,6]]) (vs:=[x]) (r:=.v (.one (.b true)))
     (ae (bm (n:=0) (r:=r0) (d:=true) ⟨Ae,trivial⟩ c0 G H) (ae (bm (n:=3) (r:=r1) (d:=true) ⟨Ae,trivial⟩ c1 I J) (ae (bm (n:=6) (r:=r2) (d:=true) ⟨Ae,trivial⟩ c2 K P) ag)))
     ah Ep Ab ⟨(aQ (ns:=[0,3,6]) (rs:=[r0,r1,r2]) ⟨Ae,Ae,Ae,trivial⟩).2 h,trivial⟩).mono ?_
    rintro e w' ⟨v,rfl,h1,h2⟩;have h1:v= .bool _:=h1;subst h1;exact⟨by simp[kI,c0,c1,c2],h2⟩
   ·refine(cRn (ρ:=frs (zG r0 r1 r2)++ [.val (.bool r0.s),.dig r0.L r0.p,.dig r0.N r0.q,.val (.bool r1.s),.dig r1.L r1.p,.dig r1.N r1.q,.val (.bool r2.s),.dig r2.L r2.p,.dig r2.N r2.q]) (args:=[dp [0,3,6]]) (vs:=[x]) (r:=.v (.one (.b false)))
     (ae (bm (n:=0) (r:=r0) (d:=true) ⟨Ae,trivial⟩ c0 G H) (ae (bm (n:=3) (r:=r1) (d:=true) ⟨Ae,trivial⟩ c1 I J) (ae (bm (n:=6) (r:=r2) (d:=false) ⟨Ae,trivial⟩ c2 K P) ag)))
     ah Ep Ab ⟨(aQ (ns:=[0,3,6]) (rs:=[r0,r1,r2]) ⟨Ae,Ae,Ae,trivial⟩).2 h,trivial⟩).mono ?_
    rintro e w' ⟨v,rfl,h1,h2⟩;have h1:v= .bool _:=h1;subst h1;exact⟨by simp[kI,c0,c1,c2],h2⟩
  ·refine(cRn (ρ:=frs (zH r0 r1 r2)++ [.val (.bool r0.s),.dig r0.L r0.p,.dig r0.N r0.q,.val (.bool r1.s),.dig r1.L r1.p,.dig r1.N r1.q,.val (.bool r2.s),.dig r2.L r2.p,.dig r2.N r2.q]) (args:=[dp [0,3,6]]) (vs:=[x]) (r:=.v (.one (.b false)))
    (ae (bm (n:=0) (r:=r0) (d:=true) ⟨Ae,trivial⟩ c0 G H) (ae (bm (n:=3) (r:=r1) (d:=false) ⟨Ae,trivial⟩ c1 I J) ag))
    ah Ep Ab ⟨(aQ (ns:=[0,3,6]) (rs:=[r0,r1,r2]) ⟨Ae,Ae,Ae,trivial⟩).2 h,trivial⟩).mono ?_
   rintro e w' ⟨v,rfl,h1,h2⟩;have h1:v= .bool _:=h1;subst h1;exact⟨by simp[kI,c0,c1],h2⟩
 ·refine(cRn (ρ:=frs (zI r0 r1 r2)++ [.val (.bool r0.s),.dig r0.L r0.p,.dig r0.N r0.q,.val (.bool r1.s),.dig r1.L r1.p,.dig r1.N r1.q,.val (.bool r2.s),.dig r2.L r2.p,.dig r2.N r2.q]) (args:=[dp [0,3,6]]) (vs:=[x]) (r:=.v (.one (.b false)))
   (ae (bm (n:=0) (r:=r0) (d:=false) ⟨Ae,trivial⟩ c0 G H) ag)
   ah Ep Ab ⟨(aQ (ns:=[0,3,6]) (rs:=[r0,r1,r2]) ⟨Ae,Ae,Ae,trivial⟩).2 h,trivial⟩).mono ?_
  rintro e w' ⟨v,rfl,h1,h2⟩;have h1:v= .bool _:=h1;subst h1;exact⟨by simp[kI,c0],h2⟩
variable{d:Bool}
theorem sV(hr:AtR (frs xs++ys) ns [r0,r1,r2])(U:kI r0 r1 r2=d)(G:r0.L<=1000000)(J:r0.N<=1000000)(H:r1.L<=1000000)(K:r1.N<=1000000)(I:r2.L<=1000000)(P:r2.N<=1000000):OkI xs ys ⟨182,[dp ns],.v (.one (.b d))⟩:=
 ⟨ai Ep rfl rfl,λB w vs hB h=>by
  match vs,h with
  | [x],h=>
   refine(q_vValidR x r0 r1 r2 w ((aQ hr).1 h.1) G J H K I P).mono ?_;rintro e w' ⟨rfl,h2⟩;exact⟨_,rfl,by subst U;rfl,h2⟩⟩
def xj(r0 r1 r2:Rq):List Fq:=[]
def xk(r0 r1 r2:Rq):List Fq:=[]
def xl(r0 r1 r2:Rq):List Fq:=[]
def xm(r0 r1 r2:Rq):List Fq:=[]
theorem zJ(x:Value)(r0 r1 r2:Rq)(w:World)(h:IsL w x [r0,r1,r2])(G:r0.L<=1000000)(H:r0.N<=1000000)(I:r1.L<=1000000)(J:r1.N<=1000000)(K:r2.L<=1000000)(P:r2.N<=1000000):AH AE 209 #[x] w λe w'=>bk w (.bool (kI r0 r1 r2)) e w':=by
 rcases BG (r0.vld)with c0 | c0
 ·rcases BG (r1.vld)with c1 | c1
  ·rcases BG (r2.vld)with c2 | c2
   ·refine(cRn (ρ:=frs (xj r0 r1 r2)++ [.val (.bool r0.s),.dig r0.L r0.p,.dig r0.N r0.q,.val (.bool r1.s),.dig r1.L r1.p,.dig r1.N r1.q,.val (.bool r2.s),.dig r2.L r2.p,.dig r2.N r2.q]) (args:=[dp [0,3,6]]) (vs:=[x]) (r:=.v (.one (.b true)))
     (ae (bn (n:=0) (r:=r0) (d:=true) ⟨Ae,trivial⟩ c0 G H) (ae (bn (n:=3) (r:=r1) (d:=true) ⟨Ae,trivial⟩ c1 I J) (ae (bn (n:=6) (r:=r2) (d:=true) ⟨Ae,trivial⟩ c2 K P) ag)))
     ah Er Ab ⟨(aQ (ns:=[0,3,6]) (rs:=[r0,r1,r2]) ⟨Ae,Ae,Ae,trivial⟩).2 h,trivial⟩).mono ?_
    rintro e w' ⟨v,rfl,h1,h2⟩;have h1:v= .bool _:=h1;subst h1;exact⟨by simp[kI,c0,c1,c2],h2⟩
   ·refine(cRn (ρ:=frs (xk r0 r1 r2)++ [.val (.bool r0.s),.dig r0.L r0.p,.dig r0.N r0.q,.val (.bool r1.s),.dig r1.L r1.p,.dig r1.N r1.q,.val (.bool r2.s),.dig r2.L r2.p,.dig r2.N r2.q]) (args:=[dp [0,3,6]]) (vs:=[x]) (r:=.v (.one (.b false)))
     (ae (bn (n:=0) (r:=r0) (d:=true) ⟨Ae,trivial⟩ c0 G H) (ae (bn (n:=3) (r:=r1) (d:=true) ⟨Ae,trivial⟩ c1 I J) (ae (bn (n:=6) (r:=r2) (d:=false) ⟨Ae,trivial⟩ c2 K P) ag)))
     ah Er Ab ⟨(aQ (ns:=[0,3,6]) (rs:=[r0,r1,r2]) ⟨Ae,Ae,Ae,trivial⟩).2 h,trivial⟩).mono ?_
    rintro e w' ⟨v,rfl,h1,h2⟩;have h1:v= .bool _:=h1;subst h1;exact⟨by simp[kI,c0,c1,c2],h2⟩
  ·refine(cRn (ρ:=frs (xl r0 r1 r2)++ [.val (.bool r0.s),.dig r0.L r0.p,.dig r0.N r0.q,.val (.bool r1.s),.dig r1.L r1.p,.dig r1.N r1.q,.val (.bool r2.s),.dig r2.L r2.p,.dig r2.N r2.q]) (args:=[dp [0,3,6]]) (vs:=[x]) (r:=.v (.one (.b false)))
    (ae (bn (n:=0) (r:=r0) (d:=true) ⟨Ae,trivial⟩ c0 G H) (ae (bn (n:=3) (r:=r1) (d:=false) ⟨Ae,trivial⟩ c1 I J) ag))
    ah Er Ab ⟨(aQ (ns:=[0,3,6]) (rs:=[r0,r1,r2]) ⟨Ae,Ae,Ae,trivial⟩).2 h,trivial⟩).mono ?_
   rintro e w' ⟨v,rfl,h1,h2⟩;have h1:v= .bool _:=h1;subst h1;exact⟨by simp[kI,c0,c1],h2⟩
 ·refine(cRn (ρ:=frs (xm r0 r1 r2)++ [.val (.bool r0.s),.dig r0.L r0.p,.dig r0.N r0.q,.val (.bool r1.s),.dig r1.L r1.p,.dig r1.N r1.q,.val (.bool r2.s),.dig r2.L r2.p,.dig r2.N r2.q]) (args:=[dp [0,3,6]]) (vs:=[x]) (r:=.v (.one (.b false)))
   (ae (bn (n:=0) (r:=r0) (d:=false) ⟨Ae,trivial⟩ c0 G H) ag)
   ah Er Ab ⟨(aQ (ns:=[0,3,6]) (rs:=[r0,r1,r2]) ⟨Ae,Ae,Ae,trivial⟩).2 h,trivial⟩).mono ?_
  rintro e w' ⟨v,rfl,h1,h2⟩;have h1:v= .bool _:=h1;subst h1;exact⟨by simp[kI,c0],h2⟩
theorem qN(hr:AtR (frs xs++ys) ns [r0,r1,r2])(U:kI r0 r1 r2=d)(G:r0.L<=1000000)(J:r0.N<=1000000)(H:r1.L<=1000000)(K:r1.N<=1000000)(I:r2.L<=1000000)(P:r2.N<=1000000):OkI xs ys ⟨209,[dp ns],.v (.one (.b d))⟩:=
 ⟨ai Er rfl rfl,λB w vs hB h=>by
  match vs,h with
  | [x],h=>
   refine(zJ x r0 r1 r2 w ((aQ hr).1 h.1) G J H K I P).mono ?_;rintro e w' ⟨rfl,h2⟩;exact⟨_,rfl,by subst U;rfl,h2⟩⟩
theorem lW(hr:AtR (frs xs++ys) ns [r0,r1,r2,r3])(Y:oY r0 r1 r2 r3=d)(G:r0.L<=1000000)(K:r0.N<=1000000)(H:r1.L<=1000000)(P:r1.N<=1000000)(I:r2.L<=1000000)(U:r2.N<=1000000)(J:r3.L<=1000000)(V:r3.N<=1000000):OkI xs ys ⟨181,[dp ns],.v (.one (.b d))⟩:=
 ⟨ai CK rfl rfl,λB w vs hB h=>by
  match vs,h with
  | [va],h=>
   refine(zD va r0 r1 r2 r3 w ((aQ hr).1 h.1) G K H P I U J V).mono ?_;rintro e w' ⟨rfl,h2⟩;exact⟨_,rfl,by subst Y;rfl,h2⟩⟩
theorem lX(hr:AtR (frs xs++ys) ns [r0,r1,r2,r3])(Y:oY r0 r1 r2 r3=d)(G:r0.L<=1000000)(K:r0.N<=1000000)(H:r1.L<=1000000)(P:r1.N<=1000000)(I:r2.L<=1000000)(U:r2.N<=1000000)(J:r3.L<=1000000)(V:r3.N<=1000000):OkI xs ys ⟨208,[dp ns],.v (.one (.b d))⟩:=
 ⟨ai DW rfl rfl,λB w vs hB h=>by
  match vs,h with
  | [va],h=>
   refine(zE va r0 r1 r2 r3 w ((aQ hr).1 h.1) G K H P I U J V).mono ?_;rintro e w' ⟨rfl,h2⟩;exact⟨_,rfl,by subst Y;rfl,h2⟩⟩
def xp(r0 r1 r2 r3 r4 r5 r6:Rq):List Fq:=[]
def xq(r0 r1 r2 r3 r4 r5 r6:Rq):List Fq:=[]
def xr(r0 r1 r2 r3 r4 r5 r6:Rq):List Fq:=[]
theorem zK(x:Value)(r0 r1 r2 r3 r4 r5 r6:Rq)(w:World)(h:IsL w x [r0,r1,r2,r3,r4,r5,r6])(G:r0.L<=1000000)(K:r0.N<=1000000)(H:r1.L<=1000000)(P:r1.N<=1000000)(I:r2.L<=1000000)(U:r2.N<=1000000)(J:r3.L<=1000000)(V:r3.N<=1000000)(Y:r4.L<=1000000)(ab:r4.N<=1000000)(Z:r5.L<=1000000)(ac:r5.N<=1000000)(aa:r6.L<=1000000)(ad:r6.N<=1000000):AH AE 122 #[x] w λe w'=>bk w (.bool (oZ r0 r1 r2 r3 r4 r5 r6)) e w':=by
 rcases BG (oY r0 r1 r2 r3)with c0 | c0
 ·rcases BG (kI r4 r5 r6)with c1 | c1
  ·refine(cRn (ρ:=frs (xp r0 r1 r2 r3 r4 r5 r6)++ [.val (.bool r0.s),.dig r0.L r0.p,.dig r0.N r0.q,.val (.bool r1.s),.dig r1.L r1.p,.dig r1.N r1.q,.val (.bool r2.s),.dig r2.L r2.p,.dig r2.N r2.q,.val (.bool r3.s),.dig r3.L r3.p,.dig r3.N r3.q,.val (.bool r4.s),.dig r4.L r4.p,.dig r4.N r4.q,.val (.bool r5.s),.dig r5.L r5.p,.dig r5.N r5.q,.val (.bool r6.s),.dig r6.L r6.p,.dig r6.N r6.q]) (args:=[dp [0,3,6,9,12,15,18]]) (vs:=[x]) (r:=.v (.one (.b true)))
    (ae (lW (ns:=[0,3,6,9]) (d:=true) ⟨Ae,Ae,Ae,Ae,trivial⟩ c0 G K H P I U J V) (ae (sV (ns:=[12,15,18]) (d:=true) ⟨Ae,Ae,Ae,trivial⟩ c1 Y ab Z ac aa ad) ag))
    ah Tryz.func122 Ab ⟨(aQ (ns:=[0,3,6,9,12,15,18]) (rs:=[r0,r1,r2,r3,r4,r5,r6]) ⟨Ae,Ae,Ae,Ae,Ae,Ae,Ae,trivial⟩).2 h,trivial⟩).mono ?_
   rintro e w' ⟨v,rfl,h1,h2⟩;have h1:v= .bool _:=h1;subst h1;exact⟨by simp[oZ,c0,c1],h2⟩
  ·refine(cRn (ρ:=frs (xq r0 r1 r2 r3 r4 r5 r6)++ [.val (.bool r0.s),.dig r0.L r0.p,.dig r0.N r0.q,.val (.bool r1.s),.dig r1.L r1.p,.dig r1.N r1.q,.val (.bool r2.s),.dig r2.L r2.p,.dig r2.N r2.q,.val (.bool r3.s),.dig r3.L r3.p,.dig r3.N r3.q,.val (.bool r4.s),.dig r4.L r4.p,.dig r4.N r4.q,.val (.bool r5.s),.dig r5.L r5.p,.dig r5.N r5.q,.val (.bool r6.s),.dig r6.L r6.p,.dig r6.N r6.q]) (args:=[dp [0,3,6,9,12,15,18]]) (vs:=[x]) (r:=.v (.one (.b false)))
    (ae (lW (ns:=[0,3,6,9]) (d:=true) ⟨Ae,Ae,Ae,Ae,trivial⟩ c0 G K H P I U J V) (ae (sV (ns:=[12,15,18]) (d:=false) ⟨Ae,Ae,Ae,trivial⟩ c1 Y ab Z ac aa ad) ag))
    ah Tryz.func122 Ab ⟨(aQ (ns:=[0,3,6,9,12,15,18]) (rs:=[r0,r1,r2,r3,r4,r5,r6]) ⟨Ae,Ae,Ae,Ae,Ae,Ae,Ae,trivial⟩).2 h,trivial⟩).mono ?_
   rintro e w' ⟨v,rfl,h1,h2⟩;have h1:v= .bool _:=h1;subst h1;exact⟨by simp[oZ,c0,c1],h2⟩
 ·refine(cRn (ρ:=frs (xr r0 r1 r2 r3 r4 r5 r6)++ [.val (.bool r0.s),.dig r0.L r0.p,.dig r0.N r0.q,.val (.bool r1.s),.dig r1.L r1.p,.dig r1.N r1.q,.val (.bool r2.s),.dig r2.L r2.p,.dig r2.N r2.q,.val (.bool r3.s),.dig r3.L r3.p,.dig r3.N r3.q,.val (.bool r4.s),.dig r4.L r4.p,.dig r4.N r4.q,.val (.bool r5.s),.dig r5.L r5.p,.dig r5.N r5.q,.val (.bool r6.s),.dig r6.L r6.p,.dig r6.N r6.q]) (args:=[dp [0,3,6,9,12,15,18]]) (vs:=[x]) (r:=.v (.one (.b false)))
   (ae (lW (ns:=[0,3,6,9]) (d:=false) ⟨Ae,Ae,Ae,Ae,trivial⟩ c0 G K H P I U J V) ag)
   ah Tryz.func122 Ab ⟨(aQ (ns:=[0,3,6,9,12,15,18]) (rs:=[r0,r1,r2,r3,r4,r5,r6]) ⟨Ae,Ae,Ae,Ae,Ae,Ae,Ae,trivial⟩).2 h,trivial⟩).mono ?_
  rintro e w' ⟨v,rfl,h1,h2⟩;have h1:v= .bool _:=h1;subst h1;exact⟨by simp[oZ,c0],h2⟩
def xt(r0 r1 r2 r3 r4 r5 r6:Rq):List Fq:=[]
def xu(r0 r1 r2 r3 r4 r5 r6:Rq):List Fq:=[]
def xv(r0 r1 r2 r3 r4 r5 r6:Rq):List Fq:=[]
theorem zL(x:Value)(r0 r1 r2 r3 r4 r5 r6:Rq)(w:World)(h:IsL w x [r0,r1,r2,r3,r4,r5,r6])(G:r0.L<=1000000)(K:r0.N<=1000000)(H:r1.L<=1000000)(P:r1.N<=1000000)(I:r2.L<=1000000)(U:r2.N<=1000000)(J:r3.L<=1000000)(V:r3.N<=1000000)(Y:r4.L<=1000000)(ab:r4.N<=1000000)(Z:r5.L<=1000000)(ac:r5.N<=1000000)(aa:r6.L<=1000000)(ad:r6.N<=1000000):AH AE 158 #[x] w λe w'=>bk w (.bool (oZ r0 r1 r2 r3 r4 r5 r6)) e w':=by
 rcases BG (oY r0 r1 r2 r3)with c0 | c0
 ·rcases BG (kI r4 r5 r6)with c1 | c1
  ·refine(cRn (ρ:=frs (xt r0 r1 r2 r3 r4 r5 r6)++ [.val (.bool r0.s),.dig r0.L r0.p,.dig r0.N r0.q,.val (.bool r1.s),.dig r1.L r1.p,.dig r1.N r1.q,.val (.bool r2.s),.dig r2.L r2.p,.dig r2.N r2.q,.val (.bool r3.s),.dig r3.L r3.p,.dig r3.N r3.q,.val (.bool r4.s),.dig r4.L r4.p,.dig r4.N r4.q,.val (.bool r5.s),.dig r5.L r5.p,.dig r5.N r5.q,.val (.bool r6.s),.dig r6.L r6.p,.dig r6.N r6.q]) (args:=[dp [0,3,6,9,12,15,18]]) (vs:=[x]) (r:=.v (.one (.b true)))
    (ae (lX (ns:=[0,3,6,9]) (d:=true) ⟨Ae,Ae,Ae,Ae,trivial⟩ c0 G K H P I U J V) (ae (qN (ns:=[12,15,18]) (d:=true) ⟨Ae,Ae,Ae,trivial⟩ c1 Y ab Z ac aa ad) ag))
    ah Tryz.func158 Ab ⟨(aQ (ns:=[0,3,6,9,12,15,18]) (rs:=[r0,r1,r2,r3,r4,r5,r6]) ⟨Ae,Ae,Ae,Ae,Ae,Ae,Ae,trivial⟩).2 h,trivial⟩).mono ?_
   rintro e w' ⟨v,rfl,h1,h2⟩;have h1:v= .bool _:=h1;subst h1;exact⟨by simp[oZ,c0,c1],h2⟩
  ·refine(cRn (ρ:=frs (xu r0 r1 r2 r3 r4 r5 r6)++ [.val (.bool r0.s),.dig r0.L r0.p,.dig r0.N r0.q,.val (.bool r1.s),.dig r1.L r1.p,.dig r1.N r1.q,.val (.bool r2.s),.dig r2.L r2.p,.dig r2.N r2.q,.val (.bool r3.s),.dig r3.L r3.p,.dig r3.N r3.q,.val (.bool r4.s),.dig r4.L r4.p,.dig r4.N r4.q,.val (.bool r5.s),.dig r5.L r5.p,.dig r5.N r5.q,.val (.bool r6.s),.dig r6.L r6.p,.dig r6.N r6.q]) (args:=[dp [0,3,6,9,12,15,18]]) (vs:=[x]) (r:=.v (.one (.b false)))
    (ae (lX (ns:=[0,3,6,9]) (d:=true) ⟨Ae,Ae,Ae,Ae,trivial⟩ c0 G K H P I U J V) (ae (qN (ns:=[12,15,18]) (d:=false) ⟨Ae,Ae,Ae,trivial⟩ c1 Y ab Z ac aa ad) ag))
    ah Tryz.func158 Ab ⟨(aQ (ns:=[0,3,6,9,12,15,18]) (rs:=[r0,r1,r2,r3,r4,r5,r6]) ⟨Ae,Ae,Ae,Ae,Ae,Ae,Ae,trivial⟩).2 h,trivial⟩).mono ?_
   rintro e w' ⟨v,rfl,h1,h2⟩;have h1:v= .bool _:=h1;subst h1;exact⟨by simp[oZ,c0,c1],h2⟩
 ·refine(cRn (ρ:=frs (xv r0 r1 r2 r3 r4 r5 r6)++ [.val (.bool r0.s),.dig r0.L r0.p,.dig r0.N r0.q,.val (.bool r1.s),.dig r1.L r1.p,.dig r1.N r1.q,.val (.bool r2.s),.dig r2.L r2.p,.dig r2.N r2.q,.val (.bool r3.s),.dig r3.L r3.p,.dig r3.N r3.q,.val (.bool r4.s),.dig r4.L r4.p,.dig r4.N r4.q,.val (.bool r5.s),.dig r5.L r5.p,.dig r5.N r5.q,.val (.bool r6.s),.dig r6.L r6.p,.dig r6.N r6.q]) (args:=[dp [0,3,6,9,12,15,18]]) (vs:=[x]) (r:=.v (.one (.b false)))
   (ae (lX (ns:=[0,3,6,9]) (d:=false) ⟨Ae,Ae,Ae,Ae,trivial⟩ c0 G K H P I U J V) ag)
   ah Tryz.func158 Ab ⟨(aQ (ns:=[0,3,6,9,12,15,18]) (rs:=[r0,r1,r2,r3,r4,r5,r6]) ⟨Ae,Ae,Ae,Ae,Ae,Ae,Ae,trivial⟩).2 h,trivial⟩).mono ?_
  rintro e w' ⟨v,rfl,h1,h2⟩;have h1:v= .bool _:=h1;subst h1;exact⟨by simp[oZ,c0],h2⟩
structure RSt where
 tm:Int
 r0:Rq
 r1:Rq
 r2:Rq
 r3:Rq
 r4:Rq
 r5:Rq
 r6:Rq
def RSt.rs(x:RSt):List Rq:=[x.r0,x.r1,x.r2,x.r3,x.r4,x.r5,x.r6]
def uB(l:List Rq):List Vp:=l.flatMap λr=>[.val (.bool r.s),.dig r.L r.p,.dig r.N r.q]
def RSt.qs(x:RSt):List Vp:=.val (.int .i64 x.tm)::uB x.rs
def St.raw(s:St):RSt:=⟨s.tm,s.pose.rot.w.raw,s.pose.rot.x.raw,s.pose.rot.y.raw,s.pose.rot.z.raw,s.pose.pos.x.raw,s.pose.pos.y.raw,s.pose.pos.z.raw⟩
section
variable {ρ ρ':Rho} {n m k r j u N:Nat} {a:Int} {T:TypeId} {B:Blk} {w:World} {S S':List St} {f:BA} {args xs:List SV} {l la:Leaf} {sl0:Value} {pin:Bool} {x:RSt} {v:Value} {t:TypeId}
end
structure RSt.sm(x:RSt):Prop where
 h0:x.r0.L<=1000000/\x.r0.N<=1000000
 h1:x.r1.L<=1000000/\x.r1.N<=1000000
 h2:x.r2.L<=1000000/\x.r2.N<=1000000
 h3:x.r3.L<=1000000/\x.r3.N<=1000000
 h4:x.r4.L<=1000000/\x.r4.N<=1000000
 h5:x.r5.L<=1000000/\x.r5.N<=1000000
 h6:x.r6.L<=1000000/\x.r6.N<=1000000
theorem Fq.ok.sm{x:Fq}(h:x.ok 2):x.raw.L<=1000000/\x.raw.N<=1000000:=⟨AI h.p th,AI h.q th⟩
theorem St.sm(h:s.pose.ok 2):s.raw.sm:=⟨h.rot.w.sm,h.rot.x.sm,h.rot.y.sm,h.rot.z.sm,h.pos.x.sm,h.pos.y.sm,h.pos.z.sm⟩
def qO(S:List St):Prop:=∀(i j:Nat)(x y:St),i<j->S[i]? =some x->S[j]? =some y->x.tm<y.tm
theorem qO.tail(h:qO (s::S)):qO S:=λi j x y G H hy=>h (i+1) (j+1) x y Aa (by simpa using H) (by simpa using hy)
theorem jZ:∀ {S:List St} {b:Int} {k:Nat} {x:St},qO S->plN S b<=k->S[k]? =some x->¬x.tm<b
 | [],_,_,_,_,_,h=>Aq
 | s::S,b,k,x,hs,hk,hx=>by
  simp only[plN]at hk;split at hk
  ·cases k with
   | zero=>omega
   | succ k=>exact jZ (k:=k) hs.tail Aa (by simpa using hx)
  ·rename_i G
   cases k with
   | zero=>simp at hx;subst hx;exact G
   | succ k=>have:=hs 0 (k+1) s x Aa rfl hx;omega
section
variable {ρ:Rho} {n m j:Nat} {l la:Leaf} {x:St} {S1 S2 E:List St}
end
structure GoodT(s:St):Prop where
 ok:s.pose.ok 2
 good:s.pose.good
 lo:0<=s.tm
 hi:s.tm<=1099511627776
structure GoodS(S:List St):Prop where
 len:S.length<=64
 all:∀x∈S,GoodT x
 sort:qO S
 adj:∀(i:Nat)(x y:St),S[i]? =some x->S[i+1]? =some y->¬opp x.pose y.pose
theorem GoodS.at(h:GoodS S){k:Nat}{x:St}(G:S[k]? =some x):GoodT x:=h.all x (Bb G)
theorem GoodS.nil:GoodS []:=⟨Ag,λx h=>Aq,λi j x y _ h=>Aq,λi x y h=>Aq⟩
theorem GoodS.drop(h:GoodS S)(k:Nat):GoodS (S.drop k) where
 len:=by have:=h.len;rw[Cv];omega
 all:=λx G=>h.all x (DX G)
 sort:=λi j x y H G hy=>by rw[Cp]at G hy;exact h.sort _ _ _ _ Aa G hy
 adj:=λi x y G hy=>by rw[Cp]at G hy;exact h.adj (k+i) x y G (by rw[<-hy];rfl)
variable{p:Nat}
theorem uE(hp:p<=S.length)(h:i<p):(fT S p s)[i]? =S[i]? :=by
 unfold fT;rw[Bw (by rw[Bp];omega),BP,if_pos h]
theorem uF(hp:p<=S.length):(fT S p s)[p]? =some s:=by
 unfold fT;have h1:(S.take p).length=p:=by rw[Bp];omega
 rw[Bq Aa,h1,Nat.sub_self];rfl
theorem qP(hp:p<=S.length)(h:p<=i):(fT S p s)[i+1]? =S[i]? :=by
 unfold fT;have h1:(S.take p).length=p:=by rw[Bp];omega
 rw[Bq Aa,h1,show i+1 - p=(i - p)+1 by omega,List.getElem?_cons_succ,Cp,show p+(i - p)=i by omega]
theorem xw(h:qO S)(hn:∀y,S[plN S s.tm]? =some y->y.tm≠s.tm):qO (fT S (plN S s.tm) s):=by
 have hp:=gH S s.tm;have hb:∀i x,i<plN S s.tm->S[i]? =some x->x.tm<s.tm:=λi x hi G=>by
  obtain⟨J,h1,h2⟩:=eo hi;rw[h1]at G;injection G with G;subst G;exact h2
 have ha:∀i x,plN S s.tm<=i->S[i]? =some x->s.tm<x.tm:=λi x hi G=>by
  have h1:=jZ h hi G;by_cases e:i=plN S s.tm
  ·subst e;have:=hn x G;omega
  ·have hl:plN S s.tm<S.length:=by have:=(A5.1 G).1;omega
   have h2:=h _ _ _ _ (show plN S s.tm<i by omega) (AU hl) G;have h3:=jZ h (AK _) (AU hl);omega
 intro i j x y I G hy;rcases Dz i (plN S s.tm)with hi | hi | hi
 ·rw[uE hp hi]at G;rcases Dz j (plN S s.tm)with H | H | H
  ·rw[uE hp H]at hy;exact h _ _ _ _ I G hy
  ·subst H;rw[uF hp]at hy;injection hy with hy;subst hy;exact hb i x hi G
  ·obtain⟨j,rfl⟩:∃k,j=k+1:=⟨j - 1,Aa⟩;rw[qP hp Aa]at hy;have:=hb i x hi G;have:=ha j y Aa hy;omega
 ·subst hi;rw[uF hp]at G;injection G with G;subst G;obtain⟨j,rfl⟩:∃k,j=k+1:=⟨j - 1,Aa⟩;rw[qP hp Aa]at hy;exact ha j y Aa hy
 ·obtain⟨j,rfl⟩:∃k,j=k+1:=⟨j - 1,Aa⟩;obtain⟨i,rfl⟩:∃k,i=k+1:=⟨i - 1,Aa⟩;rw[qP hp Aa]at G hy;exact h _ _ _ _ Aa G hy
theorem aaV(h:GoodS S)(hz:∀z,0<plN S s.tm->S[plN S s.tm - 1]? =some z->¬opp z.pose s.pose)(hy:∀y,S[plN S s.tm]? =some y->¬opp s.pose y.pose):∀(i:Nat)(x y:St),(fT S (plN S s.tm) s)[i]? =some x->(fT S (plN S s.tm) s)[i+1]? =some y->¬opp x.pose y.pose:=by
 have hp:=gH S s.tm;intro i x y H G;rcases Dz i (plN S s.tm)with hi | hi | hi
 ·rw[uE hp hi]at H;by_cases e:i+1=plN S s.tm
  ·rw[e,uF hp]at G;injection G with G;subst G;exact hz x Aa (by rw[<-e];exact H)
  ·rw[uE hp Aa]at G;exact h.adj i x y H G
 ·subst hi;rw[uF hp]at H;injection H with H;subst H;rw[qP hp (AK _)]at G;exact hy y G
 ·obtain⟨i,rfl⟩:∃k,i=k+1:=⟨i - 1,Aa⟩;rw[qP hp Aa]at H G;exact h.adj i x y H G
open Classical in
noncomputable def uG (S:List St) (s:St):List St×Int:=
 if s.tm<0∨1099511627776<s.tm then(S,4)
 else if∃y,S[plN S s.tm]? =some y∧y.tm=s.tm∧y.pose=s.pose then(S,0)
 else if∃y,S[plN S s.tm]? =some y∧y.tm=s.tm then(S,7)
 else if (∃z,0<plN S s.tm∧S[plN S s.tm - 1]? =some z∧opp z.pose s.pose)∨(∃y,S[plN S s.tm]? =some y∧opp s.pose y.pose)then(S,21)
 else if S.length<64 then(fT S (plN S s.tm) s,0)else((fT S (plN S s.tm) s).drop 1,0)
theorem addS_good(h:GoodS S)(hs:s.pose.ok 2)(P:s.pose.good):GoodS (uG S s).1:=by
 unfold uG;split
 ·exact h
 ·rename_i ht;split
  ·exact h
  ·split
   ·exact h
   ·rename_i h1 h2;split
    ·exact h
    ·rename_i h3;have hp:=gH S s.tm;have hn:∀y,S[plN S s.tm]? =some y->y.tm≠s.tm:=λy hy e=>h2 ⟨y,hy,e⟩
     have hz:∀z,0<plN S s.tm->S[plN S s.tm - 1]? =some z->¬opp z.pose s.pose:=λz h0 hz I=>h3 (.inl ⟨z,h0,hz,I⟩)
     have hy:∀y,S[plN S s.tm]? =some y->¬opp s.pose y.pose:=λy hy I=>h3 (.inr ⟨y,hy,I⟩)
     have J:∀x∈fT S (plN S s.tm) s,GoodT x:=λx G=>by
      unfold fT at G;rcases List.mem_append.1 G with G | G
      ·exact h.all x (List.mem_of_mem_take G)
      ·rcases List.mem_cons.1 G with G | G
       ·subst G;exact⟨hs,P,Aa,Aa⟩
       ·exact h.all x (DX G)
     have hl:=gW (s:=s) hp;split
     ·exact⟨by show(fT S (plN S s.tm) s).length<=64;omega,J,xw h.sort hn,aaV h hz hy⟩
     ·have V:((fT S (plN S s.tm) s).drop 1).length=(fT S (plN S s.tm) s).length - 1:=Cv ..;have K:=h.len;refine⟨by show((fT S (plN S s.tm) s).drop 1).length<=64;omega,λx G=>J x (DX G),λi j x y U G H=> ?_,λi x y G H=> ?_⟩
      ·simp only[Cp]at G H;exact xw h.sort hn _ _ _ _ Aa G H
      ·simp only[Cp]at G H;exact aaV h hz hy (1+i) x y G (by rw[<-H];rfl)
section
variable {ρ:Rho} {n m k L:Nat} {t e:TypeId} {B:Blk} {w:World} {qs:List Vp}
theorem hr0{x:RSt}:∀(j:Nat)(q:Vp),x.qs[j]? =some q->x.qs[0+j]? =some q:=λj q h=>by rw[Bh];exact h
theorem hr1{x:RSt}:∀(j:Nat)(q:Vp),(uB x.rs)[j]? =some q->x.qs[1+j]? =some q:=λj q h=>by rw[Nat.add_comm];exact h
end
def RowN(ρ:Rho)(l:Leaf)(S:List St):Prop:=(l= .sl0/\S=[])\/∃k m,l= .own k m/\(ρ[m]? =some (.row stT S.length (bx S))\/ρ[m]? =some (.ownr stT 22 S.length (bx S)))
def runMk(p:A0)(C:List Inst)(L:List OIns)(fn:Func)(args:List SV)(u:Nat)(T:TypeId)(fuel:Nat)(lo:Los):Option (AV×Leaf×List LOb):=
 match tX p C L fn args [] fuel lo with
 | some (r,s,obs)=>match s.vars[u]? with
  | some (t,[some l])=>if t=T then some (r,l,obs)else none
  | _=>none
 | none=>none
theorem xx{ρ:Rho}{C:List Inst}{L:List OIns}{u:Nat}{l:Leaf}(hC:∀i∈C,i.Ok0 AE ρ (.of w))(hO:∀i∈L,i.OkE (.of w) AE ρ){f:BA}{fn:Func}(hf:AE.funcs[f]? =some fn){args:List SV}{vs:List Value}{fuel:Nat}{lo:Los}{r:AV}{obs:List LOb}
  (hr:runMk AE C L fn args u T fuel lo=some (r,l,obs))(hl:∀o∈obs,o.Ok AE ρ (.of w) fn.ntmps)(ha:cO ρ noB w args vs)(Y:RowN ρ l S):
  AH AE f vs.toArray w (λe w'=>∃v B' g sl,e= .returned v/\r.holds ρ B' w' v/\B'.v u=some g/\w.heap.size<=g/\TrkS T w' g sl S/\(∀b,sl.ownBlock=some b->w.heap.size<=b/\bF w' b)/\AG w.heap.size w w'):=by
 obtain⟨s,hr,hs⟩:∃s,tX AE C L fn args [] fuel lo=some (r,s,obs)/\s.vars[u]? =some (T,[some l]):=by
  unfold runMk at hr;split at hr
  ·rename_i r' s Z h1;split at hr
   ·rename_i t l' h2;split at hr
    ·rename_i ht;subst ht;simp only[A9.injEq,Prod.mk.injEq]at hr;obtain⟨rfl,rfl,rfl⟩:=hr;exact⟨s,h1,h2⟩
    ·cases hr
   ·cases hr
  ·cases hr
 refine(tY (E:=.of w) (B:=noB) hC hO Ab hf hr hl (λhn=>qd hn ha)).mono ?_;rintro e w' ⟨v,B',a',rfl,h1,hi,hv⟩;obtain⟨g,cs,K,V,G,_⟩:=hi.var (x:=u) (t:=T) (ls:=[l]) hv hs (Nat.succ_pos _) (by show 1<=100000;decide);have H:∃sl,cs.toList=[sl]/\l.holds ρ B' w' sl:=by
  match hc:cs.toList,G with
  | [sl],G=>exact⟨sl,rfl,G.1⟩
  | [],G=>exact G.elim
  | _::_::_,G=>exact G.2.elim
 obtain⟨sl,h2,h3⟩:=H;have H:cs=#[sl]:=by rw[<-Array.toList_inj];exact h2
 subst H;have P:w.heap.size<=g:=by
  rcases(hi.blk _ _ K).1 with h | h
  ·exact h
  ·exact h.elim
 refine⟨v,B',g,sl,rfl,h1,K,P,?_,?_,hi.below.to⟩
 ·rcases Y with⟨rfl,rfl⟩ | ⟨k,m,rfl,I⟩
  ·have e:sl= .slice none 0 0:=h3;subst e;exact⟨V,.inl Ae,λb hb=>by cases hb⟩
  ·have J:(Vp.row stT S.length (bx S)).p w' sl:=by
    rcases I with I | I
    ·exact(own_p I h3).1
    ·exact eV (own_p I h3).1
   obtain⟨_,_,_,_,U⟩:=h3;exact⟨V,J,λb hb e=>by subst e;exact hi.inj.vo _ _ _ K (U b hb)⟩
 ·rcases Y with⟨rfl,rfl⟩ | ⟨k,m,rfl,I⟩
  ·have e:sl= .slice none 0 0:=h3;subst e;exact λb hb=>by cases hb
  ·obtain⟨_,_,_,_,U⟩:=h3;exact λb hb=>by
    obtain⟨h5,h6⟩:=hi.own _ _ (U b hb);rcases h5 with h5 | h5
    ·exact⟨h5,h6⟩
    ·exact h5.elim
theorem q_tNew(w:World):AH AE 126 #[] w λe w'=>∃g sl,e= .returned (.pointer (some ⟨g,0,none⟩))/\w.heap.size<=g/\TrkS 223 w' g sl []/\(∀b,sl.ownBlock=some b->w.heap.size<=b/\bF w' b)/\AG w.heap.size w w':=by
 refine(xx (ρ:=[]) (w:=w) (fuel:=300) (args:=[]) (vs:=[]) (lo:=[]) (obs:=[]) (r:=.v (.one (.ptr 0 0))) (u:=0) (l:=.sl0) (S:=[]) (T:=223) ag ah Tryz.func126 Ab tZ trivial (.inl Aj)).mono ?_;rintro e w' ⟨v,B',g,sl,rfl,⟨G,h1,rfl⟩,h2,h3⟩;rw[h2]at h1;injection h1 with h1;subst h1;exact⟨_,_,rfl,h3⟩
theorem q_rtNew(w:World):AH AE 161 #[] w λe w'=>∃g sl,e= .returned (.pointer (some ⟨g,0,none⟩))/\w.heap.size<=g/\TrkS 185 w' g sl []/\(∀b,sl.ownBlock=some b->w.heap.size<=b/\bF w' b)/\AG w.heap.size w w':=by
 refine(xx (ρ:=[]) (w:=w) (fuel:=300) (args:=[]) (vs:=[]) (lo:=[]) (obs:=[]) (r:=.v (.one (.ptr 0 0))) (u:=0) (l:=.sl0) (S:=[]) (T:=185) ag ah Tryz.func161 Ab tZ trivial (.inl Aj)).mono ?_;rintro e w' ⟨v,B',g,sl,rfl,⟨G,h1,rfl⟩,h2,h3⟩;rw[h2]at h1;injection h1 with h1;subst h1;exact⟨_,_,rfl,h3⟩
def RSt.two(x:RSt):Prop:=∀r∈x.rs,r.L<=2/\r.N<=2
theorem RSt.two.sm{x:RSt}(h:x.two):x.sm:=by
 have g:∀r∈x.rs,r.L<=1000000/\r.N<=1000000:=λr G=>⟨AI (h r G).1 th,AI (h r G).2 th⟩
 exact⟨g _ (by simp[RSt.rs]),g _ (by simp[RSt.rs]),g _ (by simp[RSt.rs]),g _ (by simp[RSt.rs]),g _ (by simp[RSt.rs]),g _ (by simp[RSt.rs]),g _ (by simp[RSt.rs])⟩
theorem xy{x:RSt}(h:oZ x.r0 x.r1 x.r2 x.r3 x.r4 x.r5 x.r6=true):∃s:St,x=s.raw/\s.pose.good:=by
 unfold oZ oY kI at h;simp only[Bo]at h;obtain⟨⟨⟨h0,h1,h2,h3⟩,h7⟩,h4,h5,h6⟩:=h;have V:=cR h0;have Y:=cR h1;have Z:=cR h2;have m3:=cR h3;have m4:=cR h4;have m5:=cR h5;have m6:=cR h6;have gc:(Qq.mk ⟨x.r0.s,x.r0.p,x.r0.q⟩ ⟨x.r1.s,x.r1.p,x.r1.q⟩ ⟨x.r2.s,x.r2.p,x.r2.q⟩ ⟨x.r3.s,x.r3.p,x.r3.q⟩).comp:=⟨V.2,Y.2,Z.2,m3.2⟩;refine⟨⟨x.tm,⟨⟨⟨x.r0.s,x.r0.p,x.r0.q⟩,⟨x.r1.s,x.r1.p,x.r1.q⟩,⟨x.r2.s,x.r2.p,x.r2.q⟩,⟨x.r3.s,x.r3.p,x.r3.q⟩⟩,⟨⟨x.r4.s,x.r4.p,x.r4.q⟩,⟨x.r5.s,x.r5.p,x.r5.q⟩,⟨x.r6.s,x.r6.p,x.r6.q⟩⟩⟩⟩,?_,⟨uv gc (Fq.same_iff.1 h7),⟨m4.2,m5.2,m6.2⟩⟩⟩;have G:=V.1;have H:=Y.1;have I:=Z.1;have J:=m3.1;have K:=m4.1;have P:=m5.1;have U:=m6.1;obtain⟨tm,r0,r1,r2,r3,r4,r5,r6⟩:=x;simp only at G H I J K P U;unfold St.raw;simp only[<-G,<-H,<-I,<-J,<-K,<-P,<-U]
section
variable {ρ:Rho} {n m m' k c u:Nat} {S:List St} {x:RSt} {ns:List Nat} {r:SV}
end
theorem uH:∀ {S:List St} {b:Int} {k:Nat},(∀(i:Nat)(x:St),i<k->S[i]? =some x->x.tm<b)->(∀x,S[k]? =some x->¬x.tm<b)->k<=S.length->plN S b=k
 | [],_,k,_,_,hk=>by simp at hk;subst hk;rfl
 | s::S,b,0,_,h,_=>by
  have:=h s rfl;simp[plN,this]
 | s::S,b,k+1,h1,h2,hk=>by
  have h0:=h1 0 s Aa rfl;simp only[plN,if_pos h0];rw[uH (S:=S) (b:=b) (k:=k) (λi x hi G=>h1 (i+1) x Aa AB) (λx G=>h2 x AB) (by simp at hk;omega)]
inductive Road(S:List St)(a:Int):St->St->Int->Prop
 | E (h:S.length=0):Road S a zst zst 6
 | O1 (f:St) (hf:S[0]? =some f) (hn:0<S.length) (ha:a<f.tm):Road S a zst zst 17
 | O2 (f:St) (hf:S[0]? =some f) (hb:f.tm<=a) (l:St) (hl:S[S.length - 1]? =some l) (hn:0<S.length) (ha:l.tm<a):Road S a zst zst 17
 | Q (f:St) (hf:S[0]? =some f) (hb:f.tm<=a) (l:St) (hl:S[S.length - 1]? =some l) (hn:0<S.length) (ha:a<=l.tm) (y:St) (hy:S[plN S a]? =some y) (ey:y.tm=a) (hp:plN S a<S.length) (eq1:plN S (a+1)=plN S a+1):Road S a y y 0
 | M (f:St) (hf:S[0]? =some f) (hb:f.tm<=a) (l:St) (hl:S[S.length - 1]? =some l) (hn:0<S.length) (ha:a<=l.tm) (y:St) (hy:S[plN S a]? =some y) (ey:a<y.tm) (hp:plN S a<S.length) (h0:0<plN S a) (eq1:plN S (a+1)=plN S a) (z:St) (hz:S[plN S a - 1]? =some z):Road S a z y 0
theorem road(I:GoodS S)(a:Int):∃z y c,Road S a z y c:=by
 by_cases h0:S.length=0
 ·exact⟨_,_,_,.E h0⟩
 ·obtain⟨f,hf⟩:∃f,S[0]? =some f:=⟨_,AU Aa⟩;obtain⟨l,hl⟩:∃f,S[S.length - 1]? =some f:=⟨_,AU Aa⟩;by_cases ha:a<f.tm
  ·exact⟨_,_,_,.O1 f hf Aa ha⟩
  ·by_cases hb:l.tm<a
   ·exact⟨_,_,_,.O2 f hf Aa l hl Aa hb⟩
   ·have H:=gH S a;have hp:plN S a<S.length:=by
     by_cases e:plN S a=S.length
     ·obtain⟨x,h1,h2⟩:=eo (S:=S) (a:=a) (k:=S.length - 1) Aa;rw[hl]at h1;injection h1 with h1;subst h1;exact absurd h2 hb
     ·omega
    obtain⟨y,hy,J⟩:=uz hp;by_cases ey:y.tm=a
    ·refine⟨_,_,_,.Q f hf Aa l hl Aa Aa y hy ey hp (uH (λi x hi G=> ?_) (λx G=> ?_) Aa)⟩
     ·by_cases e:i=plN S a
      ·subst e;rw[hy]at G;injection G with G;subst G;omega
      ·obtain⟨K,h1,h2⟩:=eo (S:=S) (a:=a) (k:=i) Aa;rw[h1]at G;injection G with G;subst G;omega
     ·have:=I.sort _ _ _ _ (Nat.lt_succ_self _) hy G;omega
    ·have h1:0<plN S a:=by
      by_cases e:plN S a=0
      ·rw[e,hf]at hy;injection hy with hy;subst hy;omega
      ·omega
     obtain⟨z,hz⟩:∃f,S[plN S a - 1]? =some f:=⟨_,AU Aa⟩;refine⟨_,_,_,.M f hf Aa l hl Aa Aa y hy Aa hp h1 (uH (λi x hi G=> ?_) (λx G=> ?_) H) z hz⟩
     ·obtain⟨K,h3,h2⟩:=eo (S:=S) (a:=a) (k:=i) hi;rw[h3]at G;injection G with G;subst G;omega
     ·rw[hy]at G;injection G with G;subst G;omega
noncomputable def atP(z y:St)(c a:Int):Pq:=
 if c≠0 then Pq.zero else if z.tm=y.tm then y.pose else Pq.mk (z.pose.rot.way (z.pose.rot.inv.mul y.pose.rot) (Fq.ratio (a - z.tm) (y.tm - z.tm))) (z.pose.pos.lerp y.pose.pos (Fq.ratio (a - z.tm) (y.tm - z.tm)))
section
variable {S:List St} {a:Int} {z y:St} {c:Int} {w:World} {g:Nat} {sl:Value}
end
theorem Pq.good.btw{a b:Pq}{m:Fq}(G:a.good)(H:b.good)(I:m.valid=true):(Pq.mk (a.rot.way (a.rot.inv.mul b.rot) m) (a.pos.lerp b.pos m)).good:=Pq.good.mk (way_good G.rot (gR (bc G.rot) H.rot).comp I) (G.pos.lerp H.pos I)
theorem road_z{a:Int}{z y:St}{c:Int}(G:GoodS S)(h:Road S a z y c)(h0:c=0):GoodT z/\GoodT y/\z.tm<=a/\a<=y.tm/\(z.tm=y.tm->z=y):=by
 cases h with
 | E _=>omega
 | O1 _ _ _ _=>omega
 | O2 _ _ _ _ _ _ _=>omega
 | Q f hf hb l hl hn ha y hy ey hp eq1=>exact⟨G.at hy,G.at hy,Aa,Aa,λ_=>rfl⟩
 | M f hf hb l hl hn ha y hy ey hp h1 eq1 z hz=>
  obtain⟨H,h2,h3⟩:=eo (S:=S) (a:=a) (k:=plN S a - 1) Aa;rw[hz]at h2;injection h2 with h2;subst h2;exact⟨G.at hz,G.at hy,Aa,Aa,Aa⟩
theorem atP_zy{a:Int}{z y:St}(I:GoodS S)(h:Road S a z y 0):(atP z y 0 a).good/\(atP z y 0 a).ok 1000000:=by
 obtain⟨H,G,h1,h2,_⟩:=road_z I h rfl;unfold atP;rw[if_neg Aa];split
 ·exact⟨G.good,G.ok.mono th⟩
 ·have K:=H.lo;have J:=G.hi;have v:=dk (v:=a - z.tm) (u:=y.tm - z.tm) Aa;have k:=fS (v:=a - z.tm) (u:=y.tm - z.tm) Aa Aa Aa Aa Aa;exact⟨Pq.good.btw H.good G.good v,⟨(qt H.ok.rot G.ok.rot k H.good.rot G.good.rot v).mono th,(H.ok.pos.lerp G.ok.pos k).mono th⟩⟩
section
variable {xs:List Fq} {ys:Rho} {n m m' u n0 n1:Nat} {k:Nat} {ks kr k0 k1:List Nat} {l la lc:Leaf} {S S':List St} {a c t:Int} {z y s:St} {r:SV}
end
section
variable {ρ:Rho} {n m m' k r j u:Nat} {T:TypeId} {B:Blk} {w:World} {S S':List St} {f:BA} {args xs:List SV} {l:Leaf}
end
def bJ(S:List St):Int×Int×Bool:=match S[0]?,S[S.length - 1]? with
 | some f,some l=>(f.tm,l.tm,true)
 | _,_=>(0,0,false)
section
variable {ρ:Rho} {n m m' k j u c n' j' s1 s2:Nat} {S:List St} {R:List RSt} {r:SV} {l la lb:Leaf} {M:Nat} {b:Bool} {x:RSt} {a:Int}
end
section
variable {S S':List St} {i t a:Int} {z y:St}
theorem ends{S:List St}{k:Nat}{x:St}(I:GoodS S)(G:S[k]? =some x):∃f l,S[0]? =some f/\S[S.length - 1]? =some l/\f.tm<=x.tm/\x.tm<=l.tm/\k<S.length:=by
 have H:=(A5.1 G).1;refine⟨_,_,AU Aa,AU Aa,?_,?_,H⟩
 ·rcases Nat.eq_zero_or_pos k with e | e
  ·subst e;rw[AU H]at G;injection G with G;rw[G];omega
  ·have:=I.sort 0 k _ _ e (AU Aa) G;omega
 ·rcases Nat.lt_or_ge k (S.length - 1)with e | e
  ·have:=I.sort k (S.length - 1) _ _ e G (AU Aa);omega
  ·have e:k=S.length - 1:=Aa
   subst e;rw[AU H]at G;injection G with G;rw[G];omega
end
section
variable {xs:List Fq} {ys:Rho} {u:Nat} {l la:Leaf} {S:List St} {a:Int} {z y:St} {kr:List Nat} {E:Pq} {r:SV}
end
end Go.Proofs.YtggfmklppkioeaaGreat
