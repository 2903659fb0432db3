/- Decimal digits; rows of bytes that grow by append. A row of bytes that is made whole. Regions that draw their order: a table of what each operation makes; one small proof for each operation. Short forms for tables: what has been found, what is put. The operations of regions that draw their order, one proof a kind: package natural, rows of digits, variables, constants. awake: the chapter's examples. Argument variables of the statements; sizes. The reference's digit and Trim. The reference's digit as an operation of a region that draws its order. The reference's Cmp. The reference's Add. The reference's Sub. The reference's Mul. The reference's operations in regions that draw their order. The reference's Bits, Of, bit. More operations of regions that draw their order. Tables for a part of a region: what is left of the region comes behind; new variables. The reference's bit. The state of the reference's DivMod. The reference's DivMod. -/
import Derived.Test.YtggfmklppkioeaaGreatP03
import Derived.Laws.IdiomStrings
namespace Go.Proofs.YtggfmklppkioeaaGreat
set_option linter.unusedSimpArgs false
set_option linter.unusedVariables false
set_option maxRecDepth 100000
open Go.RowKit
open _root_.Go renaming Addr → A2,Calls → AH,Ending → BH,Exit → Bf,Func → BW,Operand → AZ,Program → A0,bodyPost_ret → A6,wpAny_done → CL,wpAny_ready → BT,wp_region_any → Di
open _root_.Go.RowKit renaming Below → AG
open _root_.Go.Act renaming put → AN
open _root_.Go.AllReady renaming cons → BI,nil → BS
open _root_.Array renaming getElem?_eq_some_iff → A8,replicate → Cs
open _root_.Go.RowKit.Below renaming heap_setCell → CD,refl → AL
open _root_.Bool renaming and_eq_true → Bo
open _root_.Go.Code renaming region → Dc
open _root_.Function renaming comp_def → E9
open _root_.Go.IntKind renaming i64 → Bd,u64 → BD
open _root_.Go.Lib renaming hid → AF
open _root_.List renaming all_eq_true → Cd,contains_iff_mem → CF,foldl_cons → Cb,foldl_nil → Cg,map_cons → Bu,map_nil → BZ,mem_cons → A3,mem_map → Bi,mem_of_getElem? → Bb,nodup_cons → Bv,setIfInBounds_toArray → AQ,set_cons_succ → AS,set_cons_zero → AR
open _root_.Nat renaming div_add_mod → Ce,div_div_eq_div_mul → CQ,div_eq_of_lt → Cw,div_le_self → DO,eq_zero_or_pos → Dm,le_add_right → DS,le_refl → AK,le_succ → DT,le_trans → AI,log2_lt → D6,lt_of_le_of_lt → D7,lt_of_lt_of_le → Bt,lt_or_ge → Bl,mod_eq_of_lt → Cl,mod_lt → Bs,mod_one → Cx,mul_add → Cr,mul_zero → CR,pos_of_ne_zero → Do,pow_add → BY,pow_le_pow_right → Fo,pow_succ → BL,pow_zero → Dy,zero_add → Bh,zero_le → Bc
open _root_.Go.Oper renaming wp → Bn
open _root_.Go.Region renaming ready → BV,wanted → A7
open _root_.Go.Result renaming andThen → AX
open _root_.Go.Sem renaming run_bind → AO,run_pure → BC
open _root_.Go.Proofs.Tryz renaming prog → AE
open _root_.Go.Value renaming bool → Ci,int → AW,pointer → Co
open _root_.Go.World renaming drew → Cy,size_alloc → CE
def bL(l:List UInt8):List Value:=l.map λb=>AW .u8 (b.toNat:Int)
def BR(w:World)(base:Nat)(v:Value)(l:List UInt8):Prop:=w.ownsRow base 5 1 v l.length (bL l)
theorem BR.nil(w:World)(base:Nat):BR w base (.slice none 0 0) []:=World.ownsRow_nil _ _ _ _
variable{w:World}{base:Nat}{v:Value}{l:List UInt8}
theorem BR.open(h:BR w base v l):
  ∃a c,v= .slice a l.length c/\l.length<=c/\(0<l.length->∃g,a=some ⟨g,0,none⟩/\base<=g/\g<w.heap.size/\∀j (H:j<l.length),w.cell? ⟨g,j,none⟩=some (.int .u8 ((l[j]'H).toNat:Int))):=by
 rcases h.2 with⟨rfl,h0⟩ | ⟨g,c,G,rfl,hb,J,I,P,U,C⟩
 ·exact⟨none,0,by rw[h0],Aa,λK=>Aa⟩
 ·refine⟨some ⟨g,0,none⟩,c,rfl,I,λK=>⟨g,rfl,hb,(A8.1 J).1,λj H=> ?_⟩⟩;rw[cell_of_row w g j G _ (0,0) J];have h1:(G.toList.take (l.length*1))[j]? =some (.int .u8 ((l[j]'H).toNat:Int)):=by rw[C];simp[bL,H]
  rw[List.getElem?_take]at h1;split at h1
  ·simpa using h1
  ·cases h1
variable{w':World}
theorem BR.keep(h:BR w base v l)(C:w.grownBy w' none):BR w' base v l:=World.ownsRow.kept h C (by cases hv:v.ownBlock<;>simp)
def yu(w:World)(base:Nat)(x:Option A2)(L:Nat):Prop:=0<L->∃g o,x=some ⟨g,o,none⟩/\g<w.heap.size/\(g<base\/∃cur,w.heap[g]? =some (.cells cur 237 (0,0)))
variable{L:Nat}{x:Option A2}
theorem yu.ne(h:yu w base x L)(hb:BR w base v l)(J:0<L):∀g o,x=some ⟨g,o,none⟩->some g≠v.ownBlock:=by
 intro g o P e;obtain⟨U,Y,G,_,C⟩:=h J;rw[P]at G;cases G;rcases hb.2 with⟨rfl,_⟩ | ⟨k,c,I,rfl,V,K,_⟩
 ·cases e
 ·simp only[Value.ownBlock,Option.some.injEq]at e;subst e;rcases C with C | ⟨H,C⟩
  ·omega
  ·rw[K]at C;cases C
variable{N:Nat}
theorem yu.append(h:yu w base x L)(hr:Rw w x L N)(hb:BR w base v l)(K:w.grownBy w' v.ownBlock):yu w' base x L/\Rw w' x L N:=by
 refine⟨λH=> ?_,hr.lt,λH=> ?_⟩
 ·obtain⟨g,o,J,I,G⟩:=h H;have P:=h.ne hb H g o J;refine⟨g,o,J,Bt I K.size,?_⟩;rcases G with G | ⟨C,G⟩
  ·exact .inl G
  ·exact .inr ⟨C,(K.block g I P).trans G⟩
 ·obtain⟨b,o,J,U⟩:=hr.cells H;exact⟨b,o,J,U.kept K (h.ne hb H b o J)⟩
variable{g:Nat}
theorem yu.of_own{M:Nat}(h:aU w g L N):yu w base (some ⟨g,0,none⟩) M:=λ_=>by
 obtain⟨_,C,G,_⟩:=h;exact⟨g,0,rfl,(A8.1 G).1,.inr ⟨C,G⟩⟩
def pG(w:World)(g:Nat)(l:List UInt8):Prop:=∃cur:Array Value,w.heap[g]? =some (.cells cur 5 (0,0))/\cur.toList=bL l
def zrow8(n:Nat):Obj:=.cells (madeCells #[.int .u8 0] n) 5
theorem pG.made(w:World)(n:Nat):pG (w.alloc (zrow8 n)) w.heap.size (List.replicate n 0):=by
 refine⟨madeCells #[.int .u8 0] n,heap_alloc_new w _,?_⟩;simp only[madeCells,Array.toList_map,Array.toList_range,bL];apply List.ext_getElem
 ·simp
 ·intro i h1 h2;simp[Cx]
theorem pG.lt(h:pG w g l):g<w.heap.size:=by
 obtain⟨C,G,_⟩:=h;exact(A8.1 G).1
theorem pG.cell(h:pG w g l){p:Nat}(hp:p<l.length):w.cell? ⟨g,p,none⟩=some (.int .u8 ((l[p]'hp).toNat:Int)):=by
 obtain⟨C,G,hc⟩:=h;rw[cell_of_row w g p C _ (0,0) G,<-Array.getElem?_toList,hc];simp[bL,hp]
theorem pG.frozen(h:pG w g l)(p:Nat):w.frozen? ⟨g,p,none⟩=false:=by
 obtain⟨C,G,hc⟩:=h;exact frozen_of_row w g p C _ G
theorem pG.store{p:Nat}{b:UInt8}(h:pG w g l):pG (w.setCell ⟨g,p,none⟩ (.int .u8 (b.toNat:Int))) g (l.set p b):=by
 obtain⟨C,G,hc⟩:=h;refine⟨C.setIfInBounds p (.int .u8 (b.toNat:Int)),heap_setCell_same w g p C _ _ G,?_⟩;rw[Array.toList_setIfInBounds,hc];simp[bL,List.map_set]
structure Sp where
 p:World->Value->Prop
 st:∀w w' v,p w v->AG w.heap.size w w'->p w' v
def Sp.val(u:Value):Sp:=⟨λ_ v=>v=u,λ_ _ _ h _=>h⟩
def Sp.any:Sp:=⟨λ_ _=>True,λ_ _ _ _ _=>trivial⟩
def Sp.nat(N:Nat):Sp:=⟨λw v=>IsN w v N,λ_ _ _ h hb=>IsN.mono h hb⟩
def Sp.new(base N:Nat):Sp:=⟨λw v=>aP base w v N,λ_ _ _ h hb=>aP.mono h hb⟩
def Sp.row(L N:Nat):Sp:=⟨λw v=>∃g,v= .slice (some ⟨g,0,none⟩) L L/\aU w g L N,λ_ _ _ h hb=>by obtain⟨g,rfl,h⟩:=h;exact⟨g,rfl,h.mono hb h.lt⟩⟩
def Has(a:Act)(w:World)(t:Tmp)(s:Sp):Prop:=∃v,a.tmps[t]? =some v/\s.p w v
def Is(a:Act)(w:World)(x:AZ)(s:Sp):Prop:=s.p w (a.eval x)
variable{a:Act}{t:Tmp}{s:Sp}
theorem Has.is(h:Has a w t s):Is a w (.tmp t) s:=by
 obtain⟨v,h1,h2⟩:=h;unfold Is Act.eval;simp only[Array.getD_eq_getD_getElem?,h1,Option.getD_some];exact h2
theorem Is.const:Is a w (.const v) (.val v):=rfl
theorem Has.mono(h:Has a w t s)(hb:AG w.heap.size w w'):Has a w' t s:=by
 obtain⟨v,h1,h2⟩:=h;exact⟨v,h1,s.st _ _ _ h2 hb⟩
section
variable {P:A0} {ops:Array Oper} {Q:Bf->Act->World->Prop} {md:Region.Mode}
def Arm(P:A0)(Q:Bf->Act->World->Prop)(o:Oper)(a:Act)(w:World)(s:Sp):Prop:=
 ∀K:Act->World->Prop,(∀v w',s.p w' v->AG w.heap.size w w'->K (a.put o.dst v) w')->Bn P o a w K Q
def aA(D:List (Nat×Tmp×Sp)):List (Nat×Tmp):=D.map λx=>(x.1,x.2.1)
variable{D:List (Nat×Tmp)}
theorem jK{f:Nat->Value}(t:Tmp)(h:t∉D.map (·.2)):(cK D f a).tmps[t]? =a.tmps[t]? :=by
 induction D generalizing a with
 | nil=>rfl
 | cons p D ih=>
  rw[Bu,A3]at h;have h1:p.2≠t:=λe=>h (.inl e.symm)
  show(cK D f (a.put (some p.2) (f p.1))).tmps[t]? =_;rw[ih (λe=>h (.inr e))];simp[AN,Array.getElem?_setIfInBounds,h1]
theorem abr{f:Nat->Value}:(cK D f a).tmps.size=a.tmps.size:=by
 induction D generalizing a with
 | nil=>rfl
 | cons p D ih=>show(cK D f (a.put (some p.2) (f p.1))).tmps.size=_;rw[ih];simp[AN]
theorem vO{f:Nat->Value}:(cK D f a).defers=a.defers:=by
 induction D generalizing a with
 | nil=>rfl
 | cons p D ih=>show(cK D f (a.put (some p.2) (f p.1))).defers=_;rw[ih];rfl
theorem tN{f:Nat->Value}(hn:(D.map (·.2)).Nodup){i:Nat}(G:(i,t)∈D)(ht:t<a.tmps.size):(cK D f a).tmps[t]? =some (f i):=by
 induction D generalizing a with
 | nil=>cases G
 | cons p D ih=>
  rw[Bu,Bv]at hn;show(cK D f (a.put (some p.2) (f p.1))).tmps[t]? =_;rcases A3.1 G with rfl | C
  ·rw[jK t hn.1];simp[AN,ht]
  ·exact ih hn.2 C (by simpa [AN]using ht)
variable{D:List (Nat×Tmp×Sp)}
theorem ce{i:Nat}(h:(i,t,s)∈D):(i,t)∈aA D:=Bi.2 ⟨_,h,rfl⟩
theorem keyed(hp:(D.map (·.1)).Nodup):∀y∈D,∀z∈D,y.1=z.1->y=z:=by
 induction D with
 | nil=>intro y hy;cases hy
 | cons d D ih=>
  rw[Bu,Bv]at hp;intro y hy z hz C;rcases A3.1 hy with rfl | G<;>rcases A3.1 hz with rfl | H
  ·rfl
  ·exact absurd (Bi.2 ⟨z,H,C.symm⟩) hp.1
  ·exact absurd (Bi.2 ⟨y,G,C⟩) hp.1
  ·exact ih hp.2 y G z H C
def oC(md:Region.Mode)(ops:Array Oper)(E:List (Nat×Tmp))(n:Nat)(l:Array Bool)(size:Nat):Bool:=
 o7 md ops n (E.map (·.1)) l && E.all (λp=>cf ops p.1==some p.2) && decide ((E.map (·.2)).Nodup) && decide ((E.map (·.1)).Nodup) && E.all (λp=>decide (p.2<size))
variable{l:Array Bool}
theorem pH(D:List (Nat×Tmp×Sp))(n:Nat){fuel:Nat}(sz:Nat)(an:a.tmps.size=sz)
  (G:oC md ops (aA D) n l sz=true)
  (I:∀x∈D,∀(a':Act)(w':World),AG w.heap.size w w'->(∀t,t∉(aA D).map (·.2)->a'.tmps[t]? =a.tmps[t]?)->(∀i t s,(i,t,s)∈D->i∈cg md ops x.1->Has a' w' t s)->
   ∃o,ops[x.1]? =some o/\A7 o (yielded ops a'.tmps)=true/\Arm P Q o a' w' x.2.2)
  (H:∀(f:Nat->Value) w',AG w.heap.size w w'->(∀i t s,(i,t,s)∈D->s.p w' (f i))->wpAny P md ops Q fuel (aV ((aA D).map (·.1)) l) (cK (aA D) f a) w'):
  wpAny P md ops Q (fuel+D.length) l a w:=by
 unfold oC at G;simp only[Bo,decide_eq_true_eq]at G;obtain⟨⟨⟨⟨ak,U⟩,Y⟩,ad⟩,ac⟩:=G;have ht:∀p∈aA D,p.2<a.tmps.size:=λp hp=>by rw[an];simpa using Cd.1 ac p hp
 have V:D.length=(aA D).length:=by simp[aA]
 rw[V];refine iC (fuel:=fuel) (aA D) n (λ_=>false) (λi v w'=>∀t s,(i,t,s)∈D->s.p w' v) ak U Y (λi _ v w1 w2 h hb t s C=>s.st _ _ _ (h t s C) hb) (λi _ h=>by cases h) ?_ ?_
 ·intro p hp f w' hb Z K hK;obtain⟨x,hx,rfl⟩:=Bi.1 hp;obtain⟨o,ho,hw,J⟩:=I x hx (cK (aA D) f a) w' hb (λt h=>jK t h) (λi t s C am=>
   ⟨f i,tN Y (ce C) (ht _ (ce C)),Z i (Bi.2 ⟨_,ce C,rfl⟩) am t s C⟩)
  unfold wpOp;rw[ho];show if A7 o (yielded ops (cK (aA D) f a).tmps)=true then _ else _
  rw[if_pos hw];refine .inl (J K (λv ao hv aa=> ?_));have hd:=Cd.1 U _ hp;rw[beq_iff_eq]at hd;have ab:o.dst=some x.2.1:=by
   have:cf ops x.1=o.dst:=by unfold cf;rw[ho]
   rw[<-this];exact hd
  rw[ab];refine hK v ao (λt s C=> ?_) aa (λh=>by cases h);have e:(x.1,x.2.1,x.2.2)∈D:=hx;have key:=keyed (D:=D) (by simpa [aA,E9]using ad);have e2:=key _ C _ e rfl;simp only[Prod.mk.injEq,true_and]at e2;rw[e2.2];exact hv
 ·intro f w' hb Z _;exact H f w' hb (λi t s C=>Z i (Bi.2 ⟨_,ce C,rfl⟩) t s C)
theorem abs(D:List (Nat×Tmp×Sp))(n:Nat){fuel:Nat}(sz:Nat)(I:a.tmps.size=sz)
  (C:oC md ops (aA D) n l sz=true)
  (H:∀x∈D,∀(a':Act)(w':World),AG w.heap.size w w'->(∀t,t∉(aA D).map (·.2)->a'.tmps[t]? =a.tmps[t]?)->(∀i t s,(i,t,s)∈D->i∈cg md ops x.1->Has a' w' t s)->
   ∃o,ops[x.1]? =some o/\A7 o (yielded ops a'.tmps)=true/\Arm P Q o a' w' x.2.2)
  (G:∀a' w',AG w.heap.size w w'->a'.tmps.size=sz->a'.defers=a.defers->(∀t,t∉(aA D).map (·.2)->a'.tmps[t]? =a.tmps[t]?)->(∀i t s,(i,t,s)∈D->Has a' w' t s)->
   wpAny P md ops Q fuel (aV ((aA D).map (·.1)) l) a' w'):
  wpAny P md ops Q (fuel+D.length) l a w:=by
 refine pH D n sz I C H ?_;unfold oC at C;simp only[Bo,decide_eq_true_eq]at C;obtain⟨⟨⟨⟨aa,Y⟩,U⟩,Z⟩,J⟩:=C;have ht:∀p∈aA D,p.2<a.tmps.size:=λp hp=>by rw[I];simpa using Cd.1 J p hp
 intro f w' hb V;exact G _ w' hb (by rw[abr,I]) vO (λt h=>jK t h) (λi t s K=>
  ⟨f i,tN U (ce K) (ht _ (ce K)),V i t s K⟩)
def eJ(r:Nat):Code->Option (Array Oper)
 | .region i ops _=>if i=r then some ops else none
 | .seq a b=>match eJ r a with | some x=>some x | none=>eJ r b
 | .cond _ a b=>match eJ r a with | some x=>some x | none=>eJ r b
 | .block _ b=>eJ r b
 | .loop b=>eJ r b
 | .scope b=>eJ r b
 | .rangeFunc _ _ a b=>match eJ r a with | some x=>some x | none=>eJ r b
 | _=>none
def de(f:BW)(r:Nat):Array Oper:=match f.body with | some c=>(eJ r c).getD #[] | none=> #[]
def iX{α:Type}(p:α->Prop):List α->Prop
 | []=>True
 | x::l=>p x/\iX p l
theorem iX.mem{α:Type}{p:α->Prop}{l:List α}(h:iX p l):∀x∈l,p x:=by
 induction l with
 | nil=>intro x C;cases C
 | cons y l ih=>
  intro x C;rcases A3.1 C with rfl | C
  ·exact h.1
  ·exact ih h.2 x C
structure Found(md:Region.Mode)(ops:Array Oper)(D:List (Nat×Tmp×Sp))(j:Nat)(w:World)(a a':Act)(w':World):Prop where
 below:AG w.heap.size w w'
 out:∀t,((aA D).map (·.2)).contains t=false->a'.tmps[t]? =a.tmps[t]?
 at':∀(i:Nat)(t:Tmp)(s:Sp),D[i]? =some (i,t,s)->(cg md ops j).contains i=true->Has a' w' t s
structure Made'(D:List (Nat×Tmp×Sp))(w:World)(a a':Act)(w':World):Prop where
 below:AG w.heap.size w w'
 size:a'.tmps.size=a.tmps.size
 defers:a'.defers=a.defers
 out:∀t,((aA D).map (·.2)).contains t=false->a'.tmps[t]? =a.tmps[t]?
 at':∀(i:Nat)(t:Tmp)(s:Sp),D[i]? =some (i,t,s)->Has a' w' t s
theorem Found.keep{j:Nat}{a':Act}(h:Found md ops D j w a a' w')(t:Tmp)(v:Value)(ht:((aA D).map (·.2)).contains t=false)(hv:a.tmps[t]? =some v):Has a' w' t (.val v):=
 ⟨v,(h.out t ht).trans hv,rfl⟩
theorem Made'.keep{a':Act}(h:Made' D w a a' w')(t:Tmp)(v:Value)(ht:((aA D).map (·.2)).contains t=false)(hv:a.tmps[t]? =some v):Has a' w' t (.val v):=
 ⟨v,(h.out t ht).trans hv,rfl⟩
theorem wp_tab(f:BW)(r:Nat)(D:List (Nat×Tmp×Sp)){id:Nat}{K:Array Oper}(ab:de f r=K)(hm:P.follows .mixedOrders=true)
  (aa:(de f r).size=D.length)(ad:oC .any (de f r) (aA D) 0 (Cs D.length false) a.tmps.size=true)
  (U:BV .any (de f r) (aV ((aA D).map (·.1)) (Cs D.length false))=[])
  (Z:iX (λx=>∀(a':Act)(w':World),Found .any (de f r) D x.1 w a a' w'->∃o,(de f r)[x.1]? =some o/\A7 o (yielded (de f r) a'.tmps)=true/\Arm P Q o a' w' x.2.2) D)
  (Y:∀a' w',Made' D w a a' w'->Q .normal a' w'):(Dc id K true).wp P Q a w:=by
 subst ab;refine Di hm ?_;have G:AG w.heap.size w w.drew:=aF (AL _ _) 1
 change wpAny P .any _ Q _ _ _ w.drew
 rw[aa];have H:∀t,((aA D).map (·.2)).contains t=false->t∉(aA D).map (·.2):=λt h hm=>by
  rw[CF.2 hm]at h;cases h
 have I:∀(i:Nat)(t:Tmp)(s:Sp),D[i]? =some (i,t,s)->(i,t,s)∈D:=λi t s h=>Bb h
 have J:=abs (P:=P) (Q:=Q) (fuel:=0) D 0 (l:=Cs D.length false) (a:=a) (w:=w.drew) a.tmps.size rfl ad
  (λx hx a' w' hb C V=>Z.mem x hx a' w' ⟨G.trans (hb.mono G.size),λt h=>C t (H t h),λi t s h1 h2=>V i t s (I i t s h1) (CF.1 h2)⟩)
  (λa' w' hb ak ac C V=>CL U (Y a' w' ⟨G.trans (hb.mono G.size),ak,ac,λt h=>C t (H t h),λi t s h=>V i t s (I i t s h)⟩) 0)
 rw[Bh]at J;exact J
theorem gi(f:BW)(r:Nat)(D:List (Nat×Tmp×Sp)){id:Nat}{I:Array Oper}(aa:de f r=I)(hm:P.follows .mixedOrders=true)
  (Z:(de f r).size=D.length)(ac:oC .any (de f r) (aA D) 0 (Cs D.length false) a.tmps.size=true)
  (J:BV .any (de f r) (aV ((aA D).map (·.1)) (Cs D.length false))=[])
  (V:iX (λx=>∀(a':Act)(w':World),Found .any (de f r) D x.1 w a a' w'->∃o,(de f r)[x.1]? =some o/\A7 o (yielded (de f r) a'.tmps)=true/\Arm P Q o a' w' x.2.2) D)
  (U:∀(g:Nat->Value) w',AG w.heap.size w w'->(∀(i:Nat)(t:Tmp)(s:Sp),D[i]? =some (i,t,s)->s.p w' (g i))->Q .normal (cK (aA D) g a) w'):(Dc id I true).wp P Q a w:=by
 subst aa;refine Di hm ?_;have C:AG w.heap.size w w.drew:=aF (AL _ _) 1
 change wpAny P .any _ Q _ _ _ w.drew
 rw[Z];have Y:∀t,((aA D).map (·.2)).contains t=false->t∉(aA D).map (·.2):=λt h hm=>by
  rw[CF.2 hm]at h;cases h
 have G:∀(i:Nat)(t:Tmp)(s:Sp),D[i]? =some (i,t,s)->(i,t,s)∈D:=λi t s h=>Bb h
 have H:=pH (P:=P) (Q:=Q) (fuel:=0) D 0 (l:=Cs D.length false) (a:=a) (w:=w.drew) a.tmps.size rfl ac
  (λx hx a' w' hb ab K=>V.mem x hx a' w' ⟨C.trans (hb.mono C.size),λt h=>ab t (Y t h),λi t s h1 h2=>K i t s (G i t s h1) (CF.1 h2)⟩)
  (λg w' hb K=>CL J (U g w' (C.trans (hb.mono C.size)) (λi t s h=>K i t s (G i t s h))) 0)
 rw[Bh]at H;exact H
variable{o:Oper}
theorem wanted_none{y:Nat->Option Bool}(h:o.guard=none):A7 o y=true:=by unfold A7;rw[h]
theorem Arm.weaken{s':Sp}(h:Arm P Q o a w s)(hs:∀w v,s.p w v->s'.p w v):Arm P Q o a w s':=
 λK C=>h K (λv w' h1 h2=>C v w' (hs _ _ h1) h2)
theorem tO(v:Value)(hr:(execOp a.eval o).run P w= .ok (.value v) w)(hv:s.p w v):Arm P Q o a w s:=by
 intro K C;unfold Bn;rw[hr];exact C v w hv (AL _ _)
theorem bf{x:AZ}(C:o.op= .move x\/o.op= .assign x)(G:Is a w x s):Arm P Q o a w s:=by
 refine tO (a.eval x) ?_ G;rcases C with C | C<;>(unfold execOp;rw[C];rfl)
theorem mo{f:FuncId}{xs:Array AZ}{U:Array TypeId}{R:BH->World->Prop}(I:o.op= .call {callee:=.value (.func f),args:=xs,argTypes:=U})
  (C:∀(vs:Array Value) w,(callFunc f vs).run P w= .ok (.enter f vs) w)(hc:AH P f (xs.map a.eval) w R)(H:∀e w',R e w'->∃v,e= .returned v/\s.p w' v/\AG w.heap.size w w'):Arm P Q o a w s:=by
 intro K G;unfold Bn;have:(execOp a.eval o).run P w= .ok (.enter f (xs.map a.eval)) w:=by
  simp[execOp,I,resolve,invoke,Deferred.ofValue,Act.eval,C,AX]
 rw[this,Oper.upon_enter];refine hc.mono ?_;intro e w' J;obtain⟨v,rfl,h1,h2⟩:=H e w' J;exact G v w' h1 h2
end
section
variable {md:Region.Mode} {ops:Array Oper} {D:List (Nat×Tmp×Sp)} {w w':World} {a a':Act} {j:Nat}
theorem Found.f(F:Found md ops D j w a a' w')(i:Nat)(h:D[i]? =some (i,t,s))(h2:(cg md ops j).contains i=true:=by kernel_rfl):Is a' w' (.tmp t) s:=(F.at' i t s h h2).is
theorem Found.k(F:Found md ops D j w a a' w')(t:Tmp)(v:Value)(h:((aA D).map (·.2)).contains t=false:=by kernel_rfl)(h2:a.tmps[t]? =some v:=by rfl):Is a' w' (.tmp t) (.val v):=(F.keep t v h h2).is
end
variable{α:Type}
theorem qZ{x y:α}{l:List α}:(x::l).set 0 y=y::l:=rfl
variable{n:Nat}
theorem qS{x y:α}{l:List α}:(x::l).set (n+1) y=x::l.set n y:=rfl
theorem ai{f:FuncId}{fn:BW}(hf:AE.funcs[f]? =some fn)(C:(fn.name== "runtime.NumGoroutine")=false)(hb:fn.body.isNone=false)(args:Array Value)(w:World):
  (callFunc f args).run AE w= .ok (.enter f args) w:=by
 have h1:fn.name≠ "runtime.NumGoroutine" :=by simpa using C
 simp[callFunc,hf,h1];intro h;simp[h]at hb
theorem ofNew{e:BH}(h:cW w N e w'):∃v,e= .returned v/\(Sp.nat N).p w' v/\AG w.heap.size w w':=by
 obtain⟨v,rfl,hn,hb⟩:=h;exact⟨v,rfl,hn.isN,hb⟩
variable{u:Value}
theorem ofV{e:BH}(h:bk w u e w'):∃v,e= .returned v/\(Sp.val u).p w' v/\AG w.heap.size w w':=⟨u,h.1,rfl,h.2⟩
def bR(w:World)(g N:Nat):Prop:=∃a c,aN w g a (nl N) c/\IsN w (.agg #[.slice a (nl N) c]) N
theorem bR.mono(h:bR w g N)(hb:AG w.heap.size w w'):bR w' g N:=by
 obtain⟨a,c,h1,h2⟩:=h;exact⟨a,c,h1.mono hb h1.lt,h2.mono hb⟩
section
variable {ops:Array Oper} {Q:Bf->Act->World->Prop} {o:Oper} {a:Act} {w:World} {x y:AZ} {m n:Nat} {tt:Array TypeId}
theorem run_load(w:World)(g L c:Nat)(s:Option A2)(h:aN w g s L c):(Instr.loadAt 31 (.pointer (some ⟨g,0,none⟩))).run AE w= .ok (.agg #[.slice s L c]) w:=by
 have c1:=h.cell;go_simp
theorem bB(G:o.op= .load 31 x)(H:Is a w x (.val (.pointer (some ⟨g,0,none⟩))))(h:bR w g n):Arm AE Q o a w (.nat n):=by
 obtain⟨s,c,h1,h2⟩:=h;have C:a.eval x= .pointer (some ⟨g,0,none⟩):=H;refine tO (.agg #[.slice s (nl n) c]) ?_ h2;unfold execOp;rw[G];simp only[C,AO,run_load w g (nl n) c s h1,AX,BC]
theorem aaq{f:FuncId}{R:World->BH->World->Prop}(H:o.op= .call {callee:=.value (.func f),args:=#[x,y],argTypes:=tt})(C:∀(vs:Array Value) w,(callFunc f vs).run AE w= .ok (.enter f vs) w)
  (I:Is a w x (.nat m))(hy:Is a w y (.nat n))(hc:∀va vb w,IsN w va m->IsN w vb n->AH AE f #[va,vb] w (R w))(G:∀e w',R w e w'->∃v,e= .returned v/\s.p w' v/\AG w.heap.size w w'):Arm AE Q o a w s:=
 mo H C (R:=R w) (by simpa using hc _ _ w I hy) G
theorem dB{op:BinOp}{t t':TypeId}{r:Value}(I:o.op= .binOp op t x y t')(J:Is a w x (.val u))(hy:Is a w y (.val v))(H:∀w:World,(eqGuard op t x y u v).run AE w= .ok () w)
  (hr:∀w:World,(binOp op t u v).run AE w= .ok r w):Arm AE Q o a w (.val r):=by
 have C:a.eval x=u:=J;have G:a.eval y=v:=hy;refine tO r ?_ rfl;unfold execOp;rw[I];simp only[C,G,AO,H,hr,AX,BC]
end
theorem nlb(h:N<4294967296^4):nl N<=1000000000000:=AI (aI.2 h) th
variable{c:Nat}{a:Option A2}
theorem bR.of(h:aN w g a (nl N) c)(hn:IsN w (.agg #[.slice a (nl N) c]) N):bR w g N:=⟨a,c,h,hn⟩
def iF(w:World)(g L N:Nat):Prop:=∃a c,aN w g a L c/\IsR w (.agg #[.slice a L c]) L N
theorem iF.mono(h:iF w g L N)(hb:AG w.heap.size w w'):iF w' g L N:=by
 obtain⟨a,c,h1,h2⟩:=h;exact⟨a,c,h1.mono hb h1.lt,h2.mono hb⟩
theorem iF.isI(h:iF w g L N)(hl:nl N=L):bR w g N:=by
 subst hl;exact h
theorem iF.made(h:IsR w (.agg #[.slice a L c]) L N):iF (w.alloc (.cells #[.slice a L c] 31)) w.heap.size L N:=
 ⟨a,c,aN.made w a L c,h.mono ((AL _ _).alloc (AK _) _)⟩
theorem gM(w:World)(o:Obj):AG w.heap.size w (w.alloc o):=(AL _ _).alloc (AK _) o
theorem box1(h:IsR w (.agg #[.slice a L c]) L N):
  AG w.heap.size w (w.alloc (.cells #[.slice a L c] 31))/\iF (w.alloc (.cells #[.slice a L c] 31)) w.heap.size L N:=⟨gM w _,iF.made h⟩
theorem box2{b:Option A2}{L2 c2 N2:Nat}(h:IsR w (.agg #[.slice a L c]) L N)(h2:IsR w (.agg #[.slice b L2 c2]) L2 N2):
  AG w.heap.size w ((w.alloc (.cells #[.slice a L c] 31)).alloc (.cells #[.slice b L2 c2] 31))/\
  iF ((w.alloc (.cells #[.slice a L c] 31)).alloc (.cells #[.slice b L2 c2] 31)) w.heap.size L N/\
  iF ((w.alloc (.cells #[.slice a L c] 31)).alloc (.cells #[.slice b L2 c2] 31)) (w.heap.size+1) L2 N2:=by
 obtain⟨C,k2⟩:=box1 h;obtain⟨k3,G⟩:=box1 (h2.mono C);refine⟨C.trans (k3.mono C.size),k2.mono k3,?_⟩;rw[CE]at G;exact G
variable{d e:Nat}
theorem sm_up(h:N<4294967296^d)(C:d<=e):N<4294967296^e:=Bt h (Fo th C)
theorem sm_add{a b:Nat}(h:a<4294967296^d)(C:b<4294967296^e):a+b<4294967296^(d+e+1):=by
 have h1:=sm_up h (DS d e);have h2:=sm_up C (Nat.le_add_left e d);rw[BL];omega
theorem sm_mul{a b:Nat}(h:a<4294967296^d)(C:b<4294967296^e):a*b<4294967296^(d+e):=by
 rw[BY];rcases Dm b with rfl | hb
 ·rw[CR];exact Nat.mul_pos (D7 (Bc _) h) C
 ·exact Bt ((Nat.mul_lt_mul_right hb).2 h) (Nat.mul_le_mul_left _ (Nat.le_of_lt C))
section
variable {Q:Bf->Act->World->Prop} {o:Oper} {a:Act} {w:World} {tt:Array TypeId}
end
variable{m i:Nat}
theorem D_over(h:m<4294967296^L)(hi:L<=i):D m i=0:=by
 unfold D;rw[Cw (Bt h (Fo th hi))]
theorem aar(va:Value)(L m i:Nat)(w:World)(ha:IsR w va L m)(Z:L<=60000000000000)(hi:i<=60000000000000):
  AH AE 304 #[va,.int .i64 (i:Int)] w λe w'=>bk w (.int .u64 ((D m i:Nat):Int)) e w':=by
 obtain⟨a,H,rfl,K,I⟩:=ha;have C:=gM w (.cells #[.slice a L H] 31);have v1:=aN.made w a L H;have G:=I.mono C;have c1:=v1.cell;go_enter Tryz.func304,Tryz.ntmps304
 by_cases h:L<=i
 ·have h0:=D_over I.lt h;have J:(L:Int)<=(i:Int):=Aa
  go_wp2;go_ret;exact⟨by rw[h0];rfl,C⟩
 ·obtain⟨V,o1,rfl,h1⟩:=G.cells Aa;have Y:=h1 i Aa;have J:¬(L:Int)<=(i:Int):=Aa
  have U:=ci m i;go_wp2;go_ret;exact⟨rfl,C⟩
theorem GR.newC(h:GR w base (.slice a L c) L N)(hl:nl N=L)(hb:AG w.heap.size w w'):aP base w' (.agg #[.slice a (nl N) c]) N:=by
 obtain⟨a',V,e,I,H,G⟩:=h.open;cases e;refine⟨a,c,rfl,Aa,λY=> ?_⟩;obtain⟨g,rfl,K,C,hf⟩:=G Aa;obtain⟨b,o,e,J⟩:=H.cells Aa;cases e;exact⟨g,0,rfl,K,λj U=>(hb.cell (p:=⟨g,0+j,none⟩) C).trans (J j Aa),λj U=>(hb.frozen (p:=⟨g,0+j,none⟩) C).trans (hf _)⟩
theorem mq(N i:Nat):N % 4294967296^i+D N i*4294967296^i=N % 4294967296^(i+1):=by
 rw[Nat.mod_pow_succ];unfold D;rw[Nat.mul_comm]
set_option maxHeartbeats 1000000 in
theorem pI(a:Option A2)(L c N:Nat)(w:World)(ra:Rw w a L N)(hL:L<=20000000000000):
  AH AE 176 #[.slice a L c] w λe w'=>cW w N e w':=by
 have hw:=gM w (.cells #[.slice none 0 0] 31);have v0:=aN.made w none 0 0;have J:=ra.mono hw;have am:nl N<=L:=aI.2 ra.lt;go_enter Tryz.func176,Tryz.ntmps176
 go_upto_region 1 with(fail)
 go_cut [3] (λU wx=>U= .int .i64 (L:Int)/\AG w.heap.size w wx/\aN wx w.heap.size none 0 0)
 case first=>
  go_wp2_with fail
  go_meet;case rel=>exact⟨rfl,hw,v0⟩
 case rest=>
  obtain⟨rfl,K,v1⟩:=hcut;clear hw v0 J;have J:=ra.mono K;have aq:=v1.lt;go_upto_block 0 with(fail)
  go_cut [3] (λU wx=>U= .int .i64 ((nl N:Nat):Int)/\wx=wc)
  case first=>
   go_wp2_with fail
   go_loopw [3] (λU wr=>∃n:Nat,U= .int .i64 (n:Int)/\n<=L/\nl N<=n/\wr=wc) (λU _=>(intOf U).toNat)
   case atStart=>exact⟨L,rfl,AK _,am,rfl⟩
   case round=>
    obtain⟨n,rfl,hn,ax,rfl⟩:=hrel;by_cases hz:0<n/\D N (n - 1)=0
    ·obtain⟨av,I⟩:=hz;obtain⟨b1,o1,rfl,h1⟩:=J.cells Aa;have d1:=h1 (n - 1) Aa;rw[I]at d1;have e1:((n:Int) - 1)=((n - 1:Nat):Int):=Aa
     have Y:(0:Int)<(n:Int):=Aa
     have ad:nl N<=n - 1:=i7 Aa I;have HD:=AF I;clear I;go_wp2_with fail
     go_roundw
     case rel=>exact⟨n - 1,by go_num,Aa,ad,trivial⟩
     case measure=>simp[intOf];omega
    ·have hN:nl N=n:=by
      rcases Bl (nl N) n with h | h
      ·exact absurd ⟨Aa,iw Aa⟩ hz
      ·omega
     subst hN;rcases Dm (nl N)with h | h
     ·have h0:¬(0:Int)<((nl N:Nat):Int):=Aa
      have H:=AF h;clear h hz;go_wp2_with fail
      go_meet;case rel=>exact Aj
     ·have ak:D N (nl N - 1)≠0:=λe=>hz ⟨h,e⟩
      obtain⟨b1,o1,rfl,h1⟩:=J.cells Aa;have d1:=h1 (nl N - 1) Aa;have e1:(((nl N:Nat):Int) - 1)=((nl N - 1:Nat):Int):=Aa
      have Y:(0:Int)<((nl N:Nat):Int):=Aa
      have au:¬((D N (nl N - 1):Nat):Int)=0:=Aa
      clear hz ak;go_wp2_with fail
      go_meet;case rel=>exact Aj
  case rest=>
   obtain⟨rfl,rfl⟩:=hcut;go_wp2_with fail
   go_loopw [4,5] (λs4 s5 wr=>∃i:Nat,i<=nl N/\s5= .int .i64 (i:Int)/\GR wr (w.heap.size+1) s4 i (N % 4294967296^i)/\AG (w.heap.size+1) wc wr/\w.heap.size+1<=wr.heap.size) (λ_ s5 _=>nl N - (intOf s5).toNat)
   case atStart=>exact⟨0,Bc _,rfl,by rw[Dy,Cx];exact GR.nil _ _,AL _ _,aq⟩
   case round=>
    obtain⟨i,hi,rfl,C,G,ap⟩:=hrel;by_cases Y:i<nl N
    ·have ar:=ra.mono (K.trans (G.mono (DT _)));obtain⟨b1,o1,rfl,h1⟩:=ar.cells Aa;have d1:=h1 i Aa;have ac:=ci N i;obtain⟨a',c',rfl,aa,an,Z⟩:=C.open;go_wp2_with (at_builtin;refine cD rfl _ _ rfl (w.heap.size+1) (.slice a' i c') i (N % 4294967296^i) (D N i) rfl C ap rfl ac Aa ?_)
     intro v' w' V ab ao;rw[mq]at V;go_wp2_with fail
     go_roundw
     case rel=>exact⟨i+1,Aa,by go_num,V,G.trans ab,ao⟩
     case measure=>simp[intOf];omega
    ·obtain rfl:i=nl N:=Aa
     rw[Cl (dZ N)]at C;obtain⟨a',c',rfl,aa,an,Z⟩:=C.open;have vr:=v1.mono G (Nat.lt_succ_self _);have cr:=vr.cell;have fr:=vr.frozen;have hn:=(C.newC rfl (AL _ _)).setVar (u:=.slice a' (nl N) c') vr;go_wp2;exact A6 (eI rfl _ _ w.heap.size _ rfl vr.set.cell) rfl ⟨_,rfl,hn.weaken (DT _),(K.trans (G.mono (DT _))).setCell (AK _) _⟩
section
variable {Q:Bf->Act->World->Prop} {o:Oper} {a:Act} {w:World} {x y:AZ} {tt:Array TypeId}
theorem bE(G:o.op= .call {callee:=.value (.func 304),args:=#[x,y],argTypes:=tt})(H:Is a w x (.nat m))(hy:Is a w y (.val (.int .i64 (i:Int))))(I:nl m<=1000000000000)(hi:i<=60000000000000):
  Arm AE Q o a w (.val (.int .u64 ((D m i:Nat):Int))):=by
 refine mo G (ai Tryz.func304 rfl rfl) (R:=bk w (.int .u64 ((D m i:Nat):Int))) ?_ (λ_ _ h=>ofV h);have C:a.eval y= .int .i64 (i:Int):=hy;simpa [C]using aar _ (nl m) m i w H Aa hi
end
theorem bR.cell(h:bR w g N):∃a c,w.cell? ⟨g,0,none⟩=some (.slice a (nl N) c):=by
 obtain⟨a,c,h1,_⟩:=h;exact⟨a,c,h1.cell⟩
theorem vP{k:Nat}(h:m / 4294967296^(k+1)=n / 4294967296^(k+1))(C:D m k=D n k):m / 4294967296^k=n / 4294967296^k:=by
 rw[cJ m k,cJ n k,h,C]
theorem GR.below(h:GR w base v L N)(hb:AG w.heap.size w w'):GR w' base v L N:=by
 refine⟨h.1,h.2.1,?_⟩;rcases h.2.2 with⟨h1,h0⟩ | ⟨g,c,C,rfl,G,H,I⟩
 ·exact .inl ⟨h1,h0⟩
 ·exact .inr ⟨g,c,C,rfl,G,(hb.block g (A8.1 H).1).trans H,I⟩
theorem jb(x y z:Nat)(hz:x+y=z)(h:z<18446744073709551616)(w:World):(binOp BinOp.add 178 (.int .u64 (x:Int)) (.int .u64 (y:Int))).run AE w= .ok (.int .u64 (z:Int)) w:=by
 subst hz;have e:((x:Int)+(y:Int)) % 18446744073709551616=((x+y:Nat):Int):=Aa
 go_simp;exact e
theorem vQ(x y z:Nat)(hz:x=y+z)(h:x<18446744073709551616)(w:World):(binOp BinOp.sub 178 (.int .u64 (x:Int)) (.int .u64 (y:Int))).run AE w= .ok (.int .u64 (z:Int)) w:=by
 subst hz;have e:(((y+z:Nat):Int) - (y:Int)) % 18446744073709551616=(z:Int):=Aa
 go_simp;exact e
def jL(ga gb m n k:Nat):List (Nat×Tmp×Sp):=
  [(0,18,.nat (m)),
  (1,19,.val (AW Bd ((k:Nat)))),
  (2,20,.val (AW BD (((D (m) (k):Nat):Int)))),
  (3,21,.nat (n)),
  (4,22,.val (AW Bd ((k:Nat)))),
  (5,23,.val (AW BD (((D (n) (k):Nat):Int)))),
  (6,24,.val (Ci (decide (((D m k:Nat):Int)<((D n k:Nat):Int)))))]
def o8(ga gb m n k:Nat):List (Nat×Tmp×Sp):=
  [(0,25,.nat (m)),
  (1,26,.val (AW Bd ((k:Nat)))),
  (2,27,.val (AW BD (((D (m) (k):Nat):Int)))),
  (3,28,.nat (n)),
  (4,29,.val (AW Bd ((k:Nat)))),
  (5,30,.val (AW BD (((D (n) (k):Nat):Int)))),
  (6,31,.val (Ci (decide (((D m k:Nat):Int)>((D n k:Nat):Int)))))]
theorem Am{p:Prop}(h:p:=by go_simp):p:=h
set_option maxRecDepth 100000 in
set_option maxHeartbeats 1000000 in
theorem nG(va vb:Value)(m n:Nat)(w:World)(ha:IsN w va m)(hb:IsN w vb n)(hm:nl m<=1000000000000)(hn:nl n<=1000000000000):
  AH AE 290 #[va,vb] w λe w'=>bk w (.int .i64 (dz m n)) e w':=by
 obtain⟨a,ca,rfl,ak,ra⟩:=ha;obtain⟨b,cb,rfl,am,rb⟩:=hb;obtain⟨k0,k1,k2⟩:=box2 (L:=nl m) (c:=ca) (N:=m) (L2:=nl n) (c2:=cb) (N2:=n) ⟨a,ca,rfl,ak,ra⟩ ⟨b,cb,rfl,am,rb⟩;obtain⟨M,ac,ad,Y⟩:∃M,nl m<=M/\nl n<=M/\Hid (M=nl m\/M=nl n):=by
  rcases Nat.le_total (nl m) (nl n)with h | h
  ·exact⟨nl n,h,AK _,AF (.inr rfl)⟩
  ·exact⟨nl m,AK _,h,AF (.inl rfl)⟩
 go_enter Tryz.func290,Tryz.ntmps290
 go_upto_region 1 with(fail)
 go_cut [5] (λs5 wx=>s5= .int .i64 ((M:Int) - 1)/\bR wx w.heap.size m/\bR wx (w.heap.size+1) n/\AG w.heap.size w wx)
 case first=>
  obtain⟨ya,da,qa,ia⟩:=k1;have ea:=qa.cell;obtain⟨yb,db,qb,ib⟩:=k2;have eb:=qb.cell;rcases Bl (nl m) (nl n)with ap | ao
  ·obtain rfl:M=nl n:=by have:=Y.out;omega
   go_wp2_with fail
   go_meet;case rel=>exact⟨rfl,⟨ya,da,qa,ia⟩,⟨yb,db,qb,ib⟩,k0⟩
  ·obtain rfl:M=nl m:=by have:=Y.out;omega
   have an:¬nl m<nl n:=Aa
   go_wp2_with fail
   go_meet;case rel=>exact⟨rfl,⟨ya,da,qa,ia⟩,⟨yb,db,qb,ib⟩,k0⟩
 case rest=>
  obtain⟨rfl,I,J,H⟩:=hcut;clear k0 k1 k2 ra rb;have hM:M<=1000000000000:=by rcases Y.out with h | h<;>omega
  go_wp2_with fail
  go_loopw [5] (λs5 wr=>∃k:Nat,k<=M/\s5= .int .i64 ((k:Int) - 1)/\Hid (m / 4294967296^k=n / 4294967296^k)/\bR wr w.heap.size m/\bR wr (w.heap.size+1) n/\AG w.heap.size w wr) (λs5 _=>((intOf s5)+1).toNat)
  case atStart=>exact⟨M,AK _,rfl,AF (by rw[Cw (aI.1 ac),Cw (aI.1 ad)]),I,J,H⟩
  case round=>
   obtain⟨k,hk,rfl,HR,I,J,H⟩:=hrel
   cases k with
   | zero=>
    go_wp2;go_ret;exact⟨by rw[mg (by simpa using HR.out)];rfl,H⟩
   | succ k=>
    have C:k<=60000000000000:=Aa
    have e:(((k+1:Nat):Int) - 1)=(k:Int):=Aa
    simp only[e];clear e;rcases Nat.lt_trichotomy (D m k) (D n k)with h | h | h
    ·have h':((D m k:Nat):Int)<((D n k:Nat):Int):=Aa
     go_upto_region 4 with(fail)
     refine gi Tryz.f290 4 (jL w.heap.size (w.heap.size+1) m n k) Ab Ab rfl Ab Ab ?_ ?_
     ·refine⟨λa' w' F=>⟨_,rfl,wanted_none rfl,bB rfl (F.keep 2 (Co (some ⟨w.heap.size,0,none⟩)) Ab rfl).is (I.mono F.below)⟩,?_⟩;refine⟨λa' w' F=>⟨_,rfl,wanted_none rfl,bf (.inl rfl) (F.keep 5 (AW Bd ((k:Nat))) Ab rfl).is⟩,?_⟩;refine⟨λa' w' F=>⟨_,rfl,wanted_none rfl,bE rfl (F.f 0 rfl) (F.f 1 rfl) (hm) (C)⟩,?_⟩;refine⟨λa' w' F=>⟨_,rfl,wanted_none rfl,bB rfl (F.keep 3 (Co (some ⟨w.heap.size+1,0,none⟩)) Ab rfl).is (J.mono F.below)⟩,?_⟩;refine⟨λa' w' F=>⟨_,rfl,wanted_none rfl,bf (.inl rfl) (F.keep 5 (AW Bd ((k:Nat))) Ab rfl).is⟩,?_⟩;refine⟨λa' w' F=>⟨_,rfl,wanted_none rfl,bE rfl (F.f 3 rfl) (F.f 4 rfl) (hn) (C)⟩,?_⟩;refine⟨λa' w' F=>⟨_,rfl,wanted_none rfl,dB rfl (F.f 2 rfl) (F.f 5 rfl) (λ_=>rfl) (λ_=>Am)⟩,?_⟩;exact trivial
     intro gp wp K G;have U:gp 6=Ci (decide (((D m k:Nat):Int)<((D n k:Nat):Int))):=G 6 24 _ rfl;simp only[jL];simp only[cK,aA,Bu,BZ,Cb,Cg,AN,AQ,AR,AS,U];clear G;go_wp2_with fail
     go_ret;exact⟨by rw[gf (gg HR.out h)];rfl,H.trans (K.mono H.size)⟩
    ·have aa:¬((D m k:Nat):Int)<((D n k:Nat):Int):=Aa
     have ab:¬((D n k:Nat):Int)<((D m k:Nat):Int):=Aa
     have HD:=AF h;clear h;go_upto_region 4 with(fail)
     refine gi Tryz.f290 4 (jL w.heap.size (w.heap.size+1) m n k) Ab Ab rfl Ab Ab ?_ ?_
     ·refine⟨λa' w' F=>⟨_,rfl,wanted_none rfl,bB rfl (F.keep 2 (Co (some ⟨w.heap.size,0,none⟩)) Ab rfl).is (I.mono F.below)⟩,?_⟩;refine⟨λa' w' F=>⟨_,rfl,wanted_none rfl,bf (.inl rfl) (F.keep 5 (AW Bd ((k:Nat))) Ab rfl).is⟩,?_⟩;refine⟨λa' w' F=>⟨_,rfl,wanted_none rfl,bE rfl (F.f 0 rfl) (F.f 1 rfl) (hm) (C)⟩,?_⟩;refine⟨λa' w' F=>⟨_,rfl,wanted_none rfl,bB rfl (F.keep 3 (Co (some ⟨w.heap.size+1,0,none⟩)) Ab rfl).is (J.mono F.below)⟩,?_⟩;refine⟨λa' w' F=>⟨_,rfl,wanted_none rfl,bf (.inl rfl) (F.keep 5 (AW Bd ((k:Nat))) Ab rfl).is⟩,?_⟩;refine⟨λa' w' F=>⟨_,rfl,wanted_none rfl,bE rfl (F.f 3 rfl) (F.f 4 rfl) (hn) (C)⟩,?_⟩;refine⟨λa' w' F=>⟨_,rfl,wanted_none rfl,dB rfl (F.f 2 rfl) (F.f 5 rfl) (λ_=>rfl) (λ_=>Am)⟩,?_⟩;exact trivial
     intro gp wp K G;have U:gp 6=Ci (decide (((D m k:Nat):Int)<((D n k:Nat):Int))):=G 6 24 _ rfl;simp only[jL];simp only[cK,aA,Bu,BZ,Cb,Cg,AN,AQ,AR,AS,U];clear G
     replace I:=I.mono K
     replace J:=J.mono K
     go_upto_region 6 with(fail)
     refine gi Tryz.f290 6 (o8 w.heap.size (w.heap.size+1) m n k) Ab Ab rfl Ab Ab ?_ ?_
     ·refine⟨λa' w' F=>⟨_,rfl,wanted_none rfl,bB rfl (F.keep 2 (Co (some ⟨w.heap.size,0,none⟩)) Ab rfl).is (I.mono F.below)⟩,?_⟩;refine⟨λa' w' F=>⟨_,rfl,wanted_none rfl,bf (.inl rfl) (F.keep 5 (AW Bd ((k:Nat))) Ab rfl).is⟩,?_⟩;refine⟨λa' w' F=>⟨_,rfl,wanted_none rfl,bE rfl (F.f 0 rfl) (F.f 1 rfl) (hm) (C)⟩,?_⟩;refine⟨λa' w' F=>⟨_,rfl,wanted_none rfl,bB rfl (F.keep 3 (Co (some ⟨w.heap.size+1,0,none⟩)) Ab rfl).is (J.mono F.below)⟩,?_⟩;refine⟨λa' w' F=>⟨_,rfl,wanted_none rfl,bf (.inl rfl) (F.keep 5 (AW Bd ((k:Nat))) Ab rfl).is⟩,?_⟩;refine⟨λa' w' F=>⟨_,rfl,wanted_none rfl,bE rfl (F.f 3 rfl) (F.f 4 rfl) (hn) (C)⟩,?_⟩;refine⟨λa' w' F=>⟨_,rfl,wanted_none rfl,dB rfl (F.f 2 rfl) (F.f 5 rfl) (λ_=>rfl) (λ_=>Am)⟩,?_⟩;exact trivial
     intro gq wq Z G;have V:gq 6=Ci (decide (((D m k:Nat):Int)>((D n k:Nat):Int))):=G 6 31 _ rfl;simp only[o8];simp only[cK,aA,Bu,BZ,Cb,Cg,AN,AQ,AR,AS,V];clear G;go_wp2_with fail
     go_roundw
     case rel=>exact⟨k,Aa,by go_num,AF (vP HR.out HD.out),I.mono Z,J.mono Z,(H.trans (K.mono H.size)).trans (Z.mono (H.trans (K.mono H.size)).size)⟩
     case measure=>simp[intOf]<;>omega
    ·have aa:¬((D m k:Nat):Int)<((D n k:Nat):Int):=Aa
     have ab:((D n k:Nat):Int)<((D m k:Nat):Int):=Aa
     go_upto_region 4 with(fail)
     refine gi Tryz.f290 4 (jL w.heap.size (w.heap.size+1) m n k) Ab Ab rfl Ab Ab ?_ ?_
     ·refine⟨λa' w' F=>⟨_,rfl,wanted_none rfl,bB rfl (F.keep 2 (Co (some ⟨w.heap.size,0,none⟩)) Ab rfl).is (I.mono F.below)⟩,?_⟩;refine⟨λa' w' F=>⟨_,rfl,wanted_none rfl,bf (.inl rfl) (F.keep 5 (AW Bd ((k:Nat))) Ab rfl).is⟩,?_⟩;refine⟨λa' w' F=>⟨_,rfl,wanted_none rfl,bE rfl (F.f 0 rfl) (F.f 1 rfl) (hm) (C)⟩,?_⟩;refine⟨λa' w' F=>⟨_,rfl,wanted_none rfl,bB rfl (F.keep 3 (Co (some ⟨w.heap.size+1,0,none⟩)) Ab rfl).is (J.mono F.below)⟩,?_⟩;refine⟨λa' w' F=>⟨_,rfl,wanted_none rfl,bf (.inl rfl) (F.keep 5 (AW Bd ((k:Nat))) Ab rfl).is⟩,?_⟩;refine⟨λa' w' F=>⟨_,rfl,wanted_none rfl,bE rfl (F.f 3 rfl) (F.f 4 rfl) (hn) (C)⟩,?_⟩;refine⟨λa' w' F=>⟨_,rfl,wanted_none rfl,dB rfl (F.f 2 rfl) (F.f 5 rfl) (λ_=>rfl) (λ_=>Am)⟩,?_⟩;exact trivial
     intro gp wp K G;have U:gp 6=Ci (decide (((D m k:Nat):Int)<((D n k:Nat):Int))):=G 6 24 _ rfl;simp only[jL];simp only[cK,aA,Bu,BZ,Cb,Cg,AN,AQ,AR,AS,U];clear G
     replace I:=I.mono K
     replace J:=J.mono K
     go_upto_region 6 with(fail)
     refine gi Tryz.f290 6 (o8 w.heap.size (w.heap.size+1) m n k) Ab Ab rfl Ab Ab ?_ ?_
     ·refine⟨λa' w' F=>⟨_,rfl,wanted_none rfl,bB rfl (F.keep 2 (Co (some ⟨w.heap.size,0,none⟩)) Ab rfl).is (I.mono F.below)⟩,?_⟩;refine⟨λa' w' F=>⟨_,rfl,wanted_none rfl,bf (.inl rfl) (F.keep 5 (AW Bd ((k:Nat))) Ab rfl).is⟩,?_⟩;refine⟨λa' w' F=>⟨_,rfl,wanted_none rfl,bE rfl (F.f 0 rfl) (F.f 1 rfl) (hm) (C)⟩,?_⟩;refine⟨λa' w' F=>⟨_,rfl,wanted_none rfl,bB rfl (F.keep 3 (Co (some ⟨w.heap.size+1,0,none⟩)) Ab rfl).is (J.mono F.below)⟩,?_⟩;refine⟨λa' w' F=>⟨_,rfl,wanted_none rfl,bf (.inl rfl) (F.keep 5 (AW Bd ((k:Nat))) Ab rfl).is⟩,?_⟩;refine⟨λa' w' F=>⟨_,rfl,wanted_none rfl,bE rfl (F.f 3 rfl) (F.f 4 rfl) (hn) (C)⟩,?_⟩;refine⟨λa' w' F=>⟨_,rfl,wanted_none rfl,dB rfl (F.f 2 rfl) (F.f 5 rfl) (λ_=>rfl) (λ_=>Am)⟩,?_⟩;exact trivial
     intro gq wq Z G;have V:gq 6=Ci (decide (((D m k:Nat):Int)>((D n k:Nat):Int))):=G 6 31 _ rfl;simp only[o8];simp only[cK,aA,Bu,BZ,Cb,Cg,AN,AQ,AR,AS,V];clear G;go_wp2_with fail
     go_ret;exact⟨by rw[jJ (gg HR.out.symm h)];rfl,(H.trans (K.mono H.size)).trans (Z.mono (H.trans (K.mono H.size)).size)⟩
def o9(ga gb m n i S X:Nat):List (Nat×Tmp×Sp):=
  [(0,20,.nat (m)),
  (1,21,.val (AW Bd ((i:Nat)))),
  (2,22,.val (AW BD (((D (m) (i):Nat):Int)))),
  (3,23,.nat (n)),
  (4,24,.val (AW Bd ((i:Nat)))),
  (5,25,.val (AW BD (((D (n) (i):Nat):Int)))),
  (6,26,.val (AW BD (((S:Nat):Int)))),
  (7,27,.val (AW BD (((cy m n i:Nat):Int)))),
  (8,28,.val (AW BD (((X:Nat):Int)))),
  (9,8,.val (AW BD (((X:Nat):Int))))]
theorem max_of(m n:Nat):∃M,m<=M/\n<=M/\(M=m\/M=n)/\((m<n/\M=n)\/(¬m<n/\M=m)):=by
 rcases Bl m n with h | h
 ·exact⟨n,Aa,Aa,.inr rfl,.inl ⟨h,rfl⟩⟩
 ·exact⟨m,Aa,Aa,.inl rfl,.inr ⟨Aa,rfl⟩⟩
set_option maxRecDepth 100000 in
set_option maxHeartbeats 1000000 in
theorem jM(va vb:Value)(m n:Nat)(w:World)(ha:IsN w va m)(hb:IsN w vb n)(hm:nl m<=1000000000000)(hn:nl n<=1000000000000):
  AH AE 288 #[va,vb] w λe w'=>cW w (m+n) e w':=by
 obtain⟨a,ca,rfl,a5,ra⟩:=ha;obtain⟨b,cb,rfl,a6,rb⟩:=hb;obtain⟨k0,k1,k2⟩:=box2 (L:=nl m) (c:=ca) (N:=m) (L2:=nl n) (c2:=cb) (N2:=n) ⟨a,ca,rfl,a5,ra⟩ ⟨b,cb,rfl,a6,rb⟩;have k3:=gM ((w.alloc (.cells #[.slice a (nl m) ca] 31)).alloc (.cells #[.slice b (nl n) cb] 31)) (.cells #[.slice none 0 0] 31);have k4:=aN.made ((w.alloc (.cells #[.slice a (nl m) ca] 31)).alloc (.cells #[.slice b (nl n) cb] 31)) none 0 0;rw[CE,CE]at k4
 replace k0:=k0.trans (k3.mono k0.size)
 replace k1:=iF.mono k1 k3
 replace k2:=iF.mono k2 k3
 obtain⟨M,a3,a4,av,ab⟩:=max_of (nl m) (nl n);have hM:M<=1000000000000:=by rcases av with h | h<;>omega
 clear av
 replace ab:=AF ab
 go_enter Tryz.func288,Tryz.ntmps288
 go_upto_region 1 with(fail)
 go_cut [5] (λs5 wx=>s5= .slice none 0 0/\bR wx w.heap.size m/\bR wx (w.heap.size+1) n/\aN wx (w.heap.size+1+1) none 0 0/\AG w.heap.size w wx)
 case first=>
  go_wp2_with fail
  go_meet;case rel=>exact⟨rfl,k1,k2,k4,k0⟩
 case rest=>
  obtain⟨rfl,Va,Vb,vr,J⟩:=hcut;clear k0 k1 k2 k3 k4 ra rb;go_wp2_with fail
  go_loopw [5,6,7] (λs5 s6 s7 wr=>∃i:Nat,i<=M+1/\s7= .int .i64 (i:Int)/\s6= .int .u64 ((cy m n i:Nat):Int)/\GR wr wc.heap.size s5 i ((m+n) % 4294967296^i)/\AG wc.heap.size wc wr) (λ_ _ s7 _=>M+1 - (intOf s7).toNat)
  case atStart=>exact⟨0,Bc _,rfl,by rw[o4];rfl,by rw[Dy,Cx];exact GR.nil _ _,AL _ _⟩
  case round=>
   obtain⟨i,hi,rfl,rfl,V,C⟩:=hrel;have a1:=Va.mono C;have a2:=Vb.mono C;obtain⟨ya,da,qa,ia⟩:=a1;have ea:=qa.cell;obtain⟨yb,db,qb,ib⟩:=a2;have eb:=qb.cell;have U:i<=60000000000000:=Aa
   have bz:=oB m n i;by_cases hlt:i<=M
   ·have be:=me m n i;have hd:=ci (m+n) i;obtain⟨S,hS⟩:∃S:Nat,Hid (S=D m i+D n i):=⟨_,AF rfl⟩;obtain⟨X,hX⟩:∃X:Nat,Hid (X=S+cy m n i):=⟨_,AF rfl⟩;have ax:S<8589934592:=by have:=ci m i;have:=ci n i;have:=hS.out;omega
    have ay:X<8589934593:=by have:=hX.out;omega
    have bt:((X:Nat):Int) % 4294967296=((D (m+n) i:Nat):Int):=by have:=hX.out;have:=hS.out;omega
    have bq:((X:Nat):Int) / 4294967296=((cy m n (i+1):Nat):Int):=by have:=hX.out;have:=hS.out;omega
    clear be;have bi:=oB m n (i+1);have Va:bR wr w.heap.size m:=⟨ya,da,qa,ia⟩;have Vb:bR wr (w.heap.size+1) n:=⟨yb,db,qb,ib⟩;rcases ab.out with⟨aq,H⟩ | ⟨aq,H⟩
    ·have ap:i<=nl n:=Aa
     have ak:=AF H;clear H hlt;go_upto_region 6 with(fail)
     refine gi Tryz.f288 6 (o9 w.heap.size (w.heap.size+1) m n i S X) Ab Ab rfl Ab Ab ?_ ?_
     ·refine⟨λa' w' F=>⟨_,rfl,wanted_none rfl,bB rfl (F.keep 2 (Co (some ⟨w.heap.size,0,none⟩)) Ab rfl).is (Va.mono F.below)⟩,?_⟩;refine⟨λa' w' F=>⟨_,rfl,wanted_none rfl,bf (.inl rfl) (F.keep 7 (AW Bd ((i:Nat))) Ab rfl).is⟩,?_⟩;refine⟨λa' w' F=>⟨_,rfl,wanted_none rfl,bE rfl (F.f 0 rfl) (F.f 1 rfl) (hm) (U)⟩,?_⟩;refine⟨λa' w' F=>⟨_,rfl,wanted_none rfl,bB rfl (F.keep 3 (Co (some ⟨w.heap.size+1,0,none⟩)) Ab rfl).is (Vb.mono F.below)⟩,?_⟩;refine⟨λa' w' F=>⟨_,rfl,wanted_none rfl,bf (.inl rfl) (F.keep 7 (AW Bd ((i:Nat))) Ab rfl).is⟩,?_⟩;refine⟨λa' w' F=>⟨_,rfl,wanted_none rfl,bE rfl (F.f 3 rfl) (F.f 4 rfl) (hn) (U)⟩,?_⟩;refine⟨λa' w' F=>⟨_,rfl,wanted_none rfl,dB rfl (F.f 2 rfl) (F.f 5 rfl) (λ_=>rfl) (jb _ _ _ hS.out.symm (by have:=ax;omega))⟩,?_⟩;refine⟨λa' w' F=>⟨_,rfl,wanted_none rfl,bf (.inl rfl) (F.keep 6 (AW BD (((cy m n i:Nat):Int))) Ab rfl).is⟩,?_⟩;refine⟨λa' w' F=>⟨_,rfl,wanted_none rfl,dB rfl (F.f 6 rfl) (F.f 7 rfl) (λ_=>rfl) (jb _ _ _ hX.out.symm (by have:=ay;omega))⟩,?_⟩;refine⟨λa' w' F=>⟨_,rfl,wanted_none rfl,bf (.inr rfl) (F.f 8 rfl)⟩,?_⟩;exact trivial
     intro gp wp bp G;have am:gp 9=AW BD (((X:Nat):Int)):=G 9 8 _ rfl;simp only[o9];simp only[cK,aA,Bu,BZ,Cb,Cg,AN,AQ,AR,AS,am];clear G;have K:=V.below bp;have Y:=C.trans (bp.mono C.size);have aa:=Y.size;obtain⟨a',c',rfl,au,ac,ad⟩:=K.open;clear V ea qa ia eb qb ib Va Vb;go_wp2_with (at_builtin;refine cD rfl _ _ rfl wc.heap.size (.slice a' i c') i ((m+n) % 4294967296^i) (D (m+n) i) rfl K aa rfl hd Aa ?_)
     intro v' w' Z an a9;rw[mq]at Z;go_wp2_with fail
     go_roundw
     case rel=>exact⟨i+1,Aa,by go_num,rfl,Z,Y.trans an⟩
     case measure=>simp[intOf]<;>omega
    ·have ap:i<=nl m:=Aa
     have ak:=AF H;clear H hlt;go_upto_region 6 with(fail)
     refine gi Tryz.f288 6 (o9 w.heap.size (w.heap.size+1) m n i S X) Ab Ab rfl Ab Ab ?_ ?_
     ·refine⟨λa' w' F=>⟨_,rfl,wanted_none rfl,bB rfl (F.keep 2 (Co (some ⟨w.heap.size,0,none⟩)) Ab rfl).is (Va.mono F.below)⟩,?_⟩;refine⟨λa' w' F=>⟨_,rfl,wanted_none rfl,bf (.inl rfl) (F.keep 7 (AW Bd ((i:Nat))) Ab rfl).is⟩,?_⟩;refine⟨λa' w' F=>⟨_,rfl,wanted_none rfl,bE rfl (F.f 0 rfl) (F.f 1 rfl) (hm) (U)⟩,?_⟩;refine⟨λa' w' F=>⟨_,rfl,wanted_none rfl,bB rfl (F.keep 3 (Co (some ⟨w.heap.size+1,0,none⟩)) Ab rfl).is (Vb.mono F.below)⟩,?_⟩;refine⟨λa' w' F=>⟨_,rfl,wanted_none rfl,bf (.inl rfl) (F.keep 7 (AW Bd ((i:Nat))) Ab rfl).is⟩,?_⟩;refine⟨λa' w' F=>⟨_,rfl,wanted_none rfl,bE rfl (F.f 3 rfl) (F.f 4 rfl) (hn) (U)⟩,?_⟩;refine⟨λa' w' F=>⟨_,rfl,wanted_none rfl,dB rfl (F.f 2 rfl) (F.f 5 rfl) (λ_=>rfl) (jb _ _ _ hS.out.symm (by have:=ax;omega))⟩,?_⟩;refine⟨λa' w' F=>⟨_,rfl,wanted_none rfl,bf (.inl rfl) (F.keep 6 (AW BD (((cy m n i:Nat):Int))) Ab rfl).is⟩,?_⟩;refine⟨λa' w' F=>⟨_,rfl,wanted_none rfl,dB rfl (F.f 6 rfl) (F.f 7 rfl) (λ_=>rfl) (jb _ _ _ hX.out.symm (by have:=ay;omega))⟩,?_⟩;refine⟨λa' w' F=>⟨_,rfl,wanted_none rfl,bf (.inr rfl) (F.f 8 rfl)⟩,?_⟩;exact trivial
     intro gp wp bp G;have am:gp 9=AW BD (((X:Nat):Int)):=G 9 8 _ rfl;simp only[o9];simp only[cK,aA,Bu,BZ,Cb,Cg,AN,AQ,AR,AS,am];clear G;have K:=V.below bp;have Y:=C.trans (bp.mono C.size);have aa:=Y.size;obtain⟨a',c',rfl,au,ac,ad⟩:=K.open;clear V ea qa ia eb qb ib Va Vb;go_wp2_with (at_builtin;refine cD rfl _ _ rfl wc.heap.size (.slice a' i c') i ((m+n) % 4294967296^i) (D (m+n) i) rfl K aa rfl hd Aa ?_)
     intro v' w' Z an a9;rw[mq]at Z;go_wp2_with fail
     go_roundw
     case rel=>exact⟨i+1,Aa,by go_num,rfl,Z,Y.trans an⟩
     case measure=>simp[intOf]<;>omega
   ·obtain rfl:i=M+1:=Aa
    have a0:m+n<4294967296^(M+1):=by
     have h1:=aI.1 a3;have h2:=aI.1 a4;rw[BL];omega
    rw[Cl a0]at V;obtain⟨a',c',rfl,au,ac,ad⟩:=V.open;rcases ab.out with⟨aq,H⟩ | ⟨aq,H⟩
    ·generalize a7:M+1=i at *;have ap:¬i<=nl n:=Aa
     have ak:=AF H;clear H hlt;go_wp2_with fail
     refine(pI a' i c' (m+n) _ ac Aa).mono ?_;rintro e w2 ⟨v2,rfl,⟨x2,c2,rfl,ao,ar⟩,bb⟩;have n2:aP wc.heap.size w2 (.agg #[.slice x2 (nl (m+n)) c2]) (m+n):=aP.weaken (base:=wr.heap.size) ⟨x2,c2,rfl,ao,ar⟩ C.size;have I:=(vr.mono C vr.lt).mono bb (Bt vr.lt C.size);have cr:=I.cell;have fr:=I.frozen;have n3:=n2.setVar (u:=.slice x2 (nl (m+n)) c2) I;go_wp2;exact A6 (eI rfl _ _ (w.heap.size+1+1) _ rfl I.set.cell) rfl ⟨_,rfl,n3.weaken J.size,((J.trans (C.mono J.size)).trans (bb.mono (AI J.size C.size))).setCell (p:=⟨w.heap.size+1+1,0,none⟩) (by simp;omega) _⟩
    ·generalize a7:M+1=i at *;have ap:¬i<=nl m:=Aa
     have ak:=AF H;clear H hlt;go_wp2_with fail
     refine(pI a' i c' (m+n) _ ac Aa).mono ?_;rintro e w2 ⟨v2,rfl,⟨x2,c2,rfl,ao,ar⟩,bb⟩;have n2:aP wc.heap.size w2 (.agg #[.slice x2 (nl (m+n)) c2]) (m+n):=aP.weaken (base:=wr.heap.size) ⟨x2,c2,rfl,ao,ar⟩ C.size;have I:=(vr.mono C vr.lt).mono bb (Bt vr.lt C.size);have cr:=I.cell;have fr:=I.frozen;have n3:=n2.setVar (u:=.slice x2 (nl (m+n)) c2) I;go_wp2;exact A6 (eI rfl _ _ (w.heap.size+1+1) _ rfl I.set.cell) rfl ⟨_,rfl,n3.weaken J.size,((J.trans (C.mono J.size)).trans (bb.mono (AI J.size C.size))).setCell (p:=⟨w.heap.size+1+1,0,none⟩) (by simp;omega) _⟩
def aas(ga gb m n d i S T X:Nat):List (Nat×Tmp×Sp):=
  [(0,22,.nat (m)),
  (1,23,.val (AW Bd ((i:Nat)))),
  (2,24,.val (AW BD (((D (m) (i):Nat):Int)))),
  (3,25,.val (AW BD (((S:Nat):Int)))),
  (4,26,.nat (n)),
  (5,27,.val (AW Bd ((i:Nat)))),
  (6,28,.val (AW BD (((D (n) (i):Nat):Int)))),
  (7,29,.val (AW BD (((T:Nat):Int)))),
  (8,30,.val (AW BD (((cy n d i:Nat):Int)))),
  (9,31,.val (AW BD (((X:Nat):Int)))),
  (10,9,.val (AW BD (((X:Nat):Int))))]
set_option maxRecDepth 100000 in
set_option maxHeartbeats 1000000 in
theorem rZ(va vb:Value)(m n:Nat)(w:World)(ha:IsN w va m)(hb:IsN w vb n)(hm:nl m<=1000000000000)(hn:nl n<=1000000000000):
  AH AE 291 #[va,vb] w λe w'=>pC w m n e w':=by
 obtain⟨a,ca,rfl,a2,ra⟩:=ha;obtain⟨b,cb,rfl,a3,rb⟩:=hb;obtain⟨k0,k1,k2⟩:=box2 (L:=nl m) (c:=ca) (N:=m) (L2:=nl n) (c2:=cb) (N2:=n) ⟨a,ca,rfl,a2,ra⟩ ⟨b,cb,rfl,a3,rb⟩;have k3:=gM ((w.alloc (.cells #[.slice a (nl m) ca] 31)).alloc (.cells #[.slice b (nl n) cb] 31)) (.cells #[.slice none 0 0] 31);have k4:=aN.made ((w.alloc (.cells #[.slice a (nl m) ca] 31)).alloc (.cells #[.slice b (nl n) cb] 31)) none 0 0;rw[CE,CE]at k4
 replace k0:=k0.trans (k3.mono k0.size)
 replace k1:=iF.mono k1 k3
 replace k2:=iF.mono k2 k3
 go_enter Tryz.func291,Tryz.ntmps291
 go_upto_region 0 with(fail)
 go_cut [2,3,4,5] (λs2 s3 s4 s5 wx=>s2= .pointer (some ⟨w.heap.size,0,none⟩)/\s3= .pointer (some ⟨w.heap.size+1,0,none⟩)/\s4= .pointer (some ⟨w.heap.size+1+1,0,none⟩)/\s5= .bool false/\bR wx w.heap.size m/\bR wx (w.heap.size+1) n/\aN wx (w.heap.size+1+1) none 0 0/\AG w.heap.size w wx)
 case first=>
  go_wp2_with fail
  go_meet;case rel=>exact⟨rfl,rfl,rfl,rfl,k1,k2,k4,k0⟩
 case rest=>
  obtain⟨rfl,rfl,rfl,rfl,Va,Vb,vr,C⟩:=hcut;clear k0 k1 k2 k3 k4 ra rb;have aa:=Va;have ab:=Vb;obtain⟨ya,da,qa,ia⟩:=aa;have ea:=qa.cell;obtain⟨yb,db,qb,ib⟩:=ab;have eb:=qb.cell;go_wp2_with fail
  refine(nG _ _ m n _ ia ib hm hn).mono ?_;rintro e w1 ⟨rfl,K⟩
  replace Va:=Va.mono K
  replace Vb:=Vb.mono K
  replace vr:=vr.mono K vr.lt
  replace C:=C.trans (K.mono C.size)
  clear ea qa ia eb qb ib K;have cr:=vr.cell;have fr:=vr.frozen;by_cases hmn:m<n
  ·rw[gf hmn];have a6:¬n<=m:=Aa
   have h0:m - n=0:=Aa
   go_wp2;exact A6 (mf rfl _ _ (w.heap.size+1+1) (.slice none 0 0) (.bool false) rfl rfl vr.set.cell) rfl ⟨_,by rw[decide_eq_false a6],by rw[h0];exact aP.of_zero,C.setCell (p:=⟨w.heap.size+1+1,0,none⟩) (by simp;omega) _⟩
  ·obtain⟨d,am⟩:∃d,m=n+d:=⟨m - n,Aa⟩;have b1:¬dz m n<0:=by
    rcases Bl n m with h | h
    ·rw[jJ h];decide
    ·rw[mg Aa];decide
   have Z:decide (n<=m)=true:=decide_eq_true Aa;have ao:m - n=d:=Aa
   have HD:=AF am;clear am hmn;have HR:=AF Z;have HM:=AF ao;clear Z ao;go_wp2_with fail
   have a9:=C;generalize b4:w1=wc at *;go_loopw [6,7,8] (λs6 s7 s8 wr=>∃i:Nat,i<=nl m/\s8= .int .i64 (i:Int)/\s7= .int .u64 ((cy n d i:Nat):Int)/\GR wr wc.heap.size s6 i (d % 4294967296^i)/\AG wc.heap.size wc wr) (λ_ _ s8 _=>nl m - (intOf s8).toNat)
   case atStart=>exact⟨0,Bc _,rfl,by rw[o4];rfl,by rw[Dy,Cx];exact GR.nil _ _,AL _ _⟩
   case round=>
    obtain⟨i,hi,rfl,rfl,I,H⟩:=hrel;clear cr fr;have aa:=Va.mono H;have ab:=Vb.mono H;obtain⟨ya,da,qa,ia⟩:=aa;have ea:=qa.cell;obtain⟨yb,db,qb,ib⟩:=ab;have eb:=qb.cell;have V:i<=60000000000000:=Aa
    have b2:=oB n d i;by_cases hlt:i<nl m
    ·have au:=me n d i;rw[<-HD.out]at au;have hd:=ci d i;have a5:=ci n i;have a4:=ci m i;have bi:=oB n d (i+1);obtain⟨S,hS⟩:∃S:Nat,Hid (S=4294967296+D m i):=⟨_,AF rfl⟩;obtain⟨T,hT⟩:∃T:Nat,Hid (S=D n i+T):=⟨S - D n i,AF (by have:=hS.out;omega)⟩;obtain⟨X,hX⟩:∃X:Nat,Hid (T=cy n d i+X):=⟨T - cy n d i,AF (by have:=hS.out;have:=hT.out;omega)⟩;obtain⟨Y,hY⟩:∃Y:Nat,Hid (Y+cy n d (i+1)=1):=⟨1 - cy n d (i+1),AF Aa⟩;have ad:S<8589934592:=by have:=hS.out;omega
     have ay:T<8589934592:=by have:=hT.out;omega
     have bz:X<8589934592:=by have:=hX.out;omega
     have b0:Y<=1:=by have:=hY.out;omega
     have bt:((X:Nat):Int) % 4294967296=((D d i:Nat):Int):=by have:=hX.out;have:=hS.out;have:=hT.out;omega
     have bq:((X:Nat):Int) / 4294967296=((Y:Nat):Int):=by have:=hX.out;have:=hS.out;have:=hT.out;have:=hY.out;omega
     have be:(1:Int) - ((Y:Nat):Int)=((cy n d (i+1):Nat):Int):=by have:=hY.out;omega
     clear au a5 a4;have Va:bR wr w.heap.size m:=⟨ya,da,qa,ia⟩;have Vb:bR wr (w.heap.size+1) n:=⟨yb,db,qb,ib⟩;go_upto_region 8 with(fail)
     refine gi Tryz.f291 8 (aas w.heap.size (w.heap.size+1) m n d i S T X) Ab Ab rfl Ab Ab ?_ ?_
     ·refine⟨λa' w' F=>⟨_,rfl,wanted_none rfl,bB rfl (F.keep 2 (Co (some ⟨w.heap.size,0,none⟩)) Ab rfl).is (Va.mono F.below)⟩,?_⟩;refine⟨λa' w' F=>⟨_,rfl,wanted_none rfl,bf (.inl rfl) (F.keep 8 (AW Bd ((i:Nat))) Ab rfl).is⟩,?_⟩;refine⟨λa' w' F=>⟨_,rfl,wanted_none rfl,bE rfl (F.f 0 rfl) (F.f 1 rfl) (hm) (V)⟩,?_⟩;refine⟨λa' w' F=>⟨_,rfl,wanted_none rfl,dB rfl Is.const (F.f 2 rfl) (λ_=>rfl) (jb 4294967296 _ _ hS.out.symm (by have:=ad;omega))⟩,?_⟩;refine⟨λa' w' F=>⟨_,rfl,wanted_none rfl,bB rfl (F.keep 3 (Co (some ⟨w.heap.size+1,0,none⟩)) Ab rfl).is (Vb.mono F.below)⟩,?_⟩;refine⟨λa' w' F=>⟨_,rfl,wanted_none rfl,bf (.inl rfl) (F.keep 8 (AW Bd ((i:Nat))) Ab rfl).is⟩,?_⟩;refine⟨λa' w' F=>⟨_,rfl,wanted_none rfl,bE rfl (F.f 4 rfl) (F.f 5 rfl) (hn) (V)⟩,?_⟩;refine⟨λa' w' F=>⟨_,rfl,wanted_none rfl,dB rfl (F.f 3 rfl) (F.f 6 rfl) (λ_=>rfl) (vQ _ _ _ hT.out (by have:=ad;omega))⟩,?_⟩;refine⟨λa' w' F=>⟨_,rfl,wanted_none rfl,bf (.inl rfl) (F.keep 7 (AW BD (((cy n d i:Nat):Int))) Ab rfl).is⟩,?_⟩;refine⟨λa' w' F=>⟨_,rfl,wanted_none rfl,dB rfl (F.f 7 rfl) (F.f 8 rfl) (λ_=>rfl) (vQ _ _ _ hX.out (by have:=ay;omega))⟩,?_⟩;refine⟨λa' w' F=>⟨_,rfl,wanted_none rfl,bf (.inr rfl) (F.f 9 rfl)⟩,?_⟩;exact trivial
     intro gp wp bp G;have ac:gp 10=AW BD (((X:Nat):Int)):=G 10 9 _ rfl;simp only[aas];simp only[cK,aA,Bu,BZ,Cb,Cg,AN,AQ,AR,AS,ac];clear G;have U:=I.below bp;have ak:=H.trans (bp.mono H.size);have ar:=ak.size;obtain⟨a',c',rfl,ax,aq,ap⟩:=U.open;clear I ea qa ia eb qb ib Va Vb;go_wp2_with (at_builtin;refine cD rfl _ _ rfl wc.heap.size (.slice a' i c') i (d % 4294967296^i) (D d i) rfl U ar rfl hd Aa ?_)
     intro v' w' an a0 b3;rw[mq]at an;go_wp2_with fail
     go_roundw
     case rel=>exact⟨i+1,Aa,by go_num,rfl,an,ak.trans a0⟩
     case measure=>simp[intOf]<;>omega
    ·obtain rfl:i=nl m:=Aa
     have av:d<4294967296^nl m:=D7 (by have:=HD.out;omega) (dZ m);rw[Cl av]at I;obtain⟨a',c',rfl,ax,aq,ap⟩:=I.open;go_wp2_with fail
     refine(pI a' (nl m) c' d _ aq Aa).mono ?_;rintro e w2 ⟨v2,rfl,⟨x2,c2,rfl,a1,a7⟩,K⟩;have n2:aP wc.heap.size w2 (.agg #[.slice x2 (nl d) c2]) d:=aP.weaken (base:=wr.heap.size) ⟨x2,c2,rfl,a1,a7⟩ H.size;have J:=(vr.mono H vr.lt).mono K (Bt vr.lt H.size);have cr:=J.cell;have fr:=J.frozen;have n3:=n2.setVar (u:=.slice x2 (nl d) c2) J;go_wp2;exact A6 (mf rfl _ _ (w.heap.size+1+1) _ (.bool true) rfl rfl J.set.cell) rfl ⟨_,by rw[HR.out],by rw[HM.out];exact n3.weaken C.size,((C.trans (H.mono C.size)).trans (K.mono (AI C.size H.size))).setCell (p:=⟨w.heap.size+1+1,0,none⟩) (by simp;omega) _⟩
theorem aU.drewN(h:aU w g L N)(q:Nat):aU (w.drewN q) g L N:=h
theorem aP.setLow(h:aP base w v N)(p:A2)(hp:p.block<base):aP base (w.setCell p u) v N:=by
 obtain⟨x,cap,rfl,hc,J⟩:=h;refine⟨x,cap,rfl,hc,λH=> ?_⟩;obtain⟨b,off,rfl,hb,I,hf⟩:=J H;have C:b≠p.block:=Aa
 refine⟨b,off,rfl,hb,λj G=> ?_,λj G=> ?_⟩
 ·rw[World.cell?_of_block (CD w p u b C)];exact I j G
 ·rw[World.frozen?_of_block (CD w p u b C)];exact hf j G
set_option maxHeartbeats 1000000 in
theorem c_ref_Mul(va vb:Value)(m n:Nat)(w:World)(ha:IsN w va m)(hb:IsN w vb n)(hm:nl m<=1000000000000)(hn:nl n<=1000000000000):
  AH AE 305 #[va,vb] w λe w'=>cW w (m*n) e w':=by
 obtain⟨a,ca,rfl,au,ra⟩:=ha;obtain⟨b,cb,rfl,av,rb⟩:=hb;have hw:AG w.heap.size w (((w.alloc (.cells #[.slice a (nl m) ca] 31)).alloc (.cells #[.slice b (nl n) cb] 31)).alloc (.cells #[.slice none 0 0] 31)):=(((AL _ _).alloc (AK _) _).alloc Ag _).alloc (by simp;omega) _;go_enter Tryz.func305,Tryz.ntmps305
 go_upto_region 1 with(fail)
 go_cut [5] (λs5 wx=>∃g,s5= .slice (some ⟨g,0,none⟩) (nl m+nl n) (nl m+nl n)/\aU wx g (nl m+nl n) 0/\Made w wx (w.heap.size+1+1) g/\
   wx.cell? ⟨w.heap.size,0,none⟩=some (.slice a (nl m) ca)/\wx.cell? ⟨w.heap.size+1,0,none⟩=some (.slice b (nl n) cb))
 case first=>
  have K:=aU.made (((w.alloc (.cells #[.slice a (nl m) ca] 31)).alloc (.cells #[.slice b (nl n) cb] 31)).alloc (.cells #[.slice none 0 0] 31)) (nl m+nl n);go_wp2_with (at_make;refine bG rfl _ _ rfl _ _ _ _ (nl m+nl n) rfl rfl Aa Aa Aa ?_)
  go_meet;case rel=>exact⟨_,rfl,by simpa using K,⟨hw.alloc (by simp;omega) _,Aa,Ag,Ag,Ak,Ak⟩,Ak,Ak⟩
 case rest=>
  obtain⟨g,rfl,K,C,V,Y⟩:=hcut;have aq:=C.lt;go_wp2_with fail
  go_loopw [6] (λs6 wr=>∃i:Nat,i<=nl m/\s6= .int .i64 i/\aU wr g (nl m+nl n) ((m % 4294967296^i)*n)/\AG g wc wr)
   (λi _=>nl m - (intOf i).toNat)
  case atStart=>exact⟨0,Bc _,rfl,by simpa [Cx]using K,AL _ _⟩
  case round=>
   obtain⟨i,hi,rfl,ho,I⟩:=hrel;have J:=C.step I;have c0:=(I.cell (p:=⟨w.heap.size,0,none⟩) (by show w.heap.size<g;omega)).trans V;by_cases hlt:i<nl m
   ·have c2:=(I.cell (p:=⟨w.heap.size+1,0,none⟩) (by show w.heap.size+1<g;omega)).trans Y;have ay:=ci m i;go_wp2_with fail
    go_loopw [7,8] (λs7 s8 wq=>∃k O c:Nat,k<=nl n/\s8= .int .i64 k/\s7= .int .u64 (c:Int)/\c<4294967296/\aU wq g (nl m+nl n) O/\i9 m n i k O c/\AG g wc wq)
     (λ_ s _=>nl n - (intOf s).toNat)
    case atStart=>exact⟨0,(m % 4294967296^i)*n,0,Bc _,rfl,rfl,th,ho,i9.start m n i,I⟩
    case round=>
     obtain⟨k,O,c,hk,rfl,rfl,hc,G,aa,H⟩:=hrel;have ac:=C.step H;clear ho I J c0 c2;have c0:=(H.cell (p:=⟨w.heap.size,0,none⟩) (by show w.heap.size<g;omega)).trans V;have c2:=(H.cell (p:=⟨w.heap.size+1,0,none⟩) (by show w.heap.size+1<g;omega)).trans Y;by_cases hlt2:k<nl n
     ·have ao:=ra.mono ac.below;obtain⟨b1,o1,rfl,h1⟩:=ao.cells Aa;have c1:=h1 i hlt;have ap:=rb.mono ac.below;obtain⟨b2,o2,rfl,h2⟩:=ap.cells Aa;have c3:=h2 k hlt2;have a0:=ci n k;have c4:=G.cell (p:=i+k) Aa;have f4:=G.frozen (i+k);have ax:=ci O (i+k);have a2:((D m i:Nat):Int)*((D n k:Nat):Int)<=18446744065119617025:=by
       have h:=Nat.mul_le_mul (show D m i<=4294967295 by omega) (show D n k<=4294967295 by omega);have h':((D m i*D n k:Nat):Int)<=18446744065119617025:=Aa
       simpa using h'
      have ar:0<=((D m i:Nat):Int)*((D n k:Nat):Int):=Int.mul_nonneg Aa Aa;have HT:=aa.step hlt2;go_wp2_with fail
      go_quiet (fail)
      go_wp2;go_roundw
      case rel=>
       have U:=λq=>(G.drewN q).store (p:=i+k) (e:=(D m i*D n k+D O (i+k)+c) % 4294967296) Aa (Bs _ th)
       exact⟨k+1,_,_,Aa,by go_num,Ag,by rw[Nat.div_lt_iff_lt_mul th];omega,by simpa using U _,HT,by simpa using (aF H _).setCell (p:=⟨g,i+k,none⟩) (AK _) _⟩
      case measure=>simp[intOf]<;>omega
     ·obtain rfl:k=nl n:=Aa
      have c4:=G.cell (p:=i+nl n) Aa;have f4:=G.frozen (i+nl n);have U:=G.store (p:=i+nl n) (e:=c) Aa hc;rw[aa.last]at U;have ad:=H.setCell (p:=⟨g,i+nl n,none⟩) (AK _) (.int .u32 (c:Int));go_wp2;go_roundw
      case rel=>exact⟨i+1,Aa,by go_num,U,ad⟩
      case measure=>simp[intOf]<;>omega
   ·obtain rfl:i=nl m:=Aa
    rw[x9]at ho;go_wp2_with fail
    refine(pI _ (nl m+nl n) (nl m+nl n) (m*n) _ ho.rw' Aa).mono ?_;rintro e w1 ⟨v1,rfl,⟨x1,c1,rfl,ak,an⟩,ab⟩;obtain⟨am,a1⟩:=J.after ab;have Z:=J.below;have hz:=J.lt;have a3:=J.size;have n2:aP wr.heap.size w1 (.agg #[.slice x1 (nl (m*n)) c1]) (m*n):=⟨x1,c1,rfl,ak,an⟩;have n3:=(n2.setLow (u:=.slice x1 (nl (m*n)) c1) ⟨w.heap.size+1+1,0,none⟩ (by show w.heap.size+1+1<wr.heap.size;omega)).weaken Z.size;have hB:=(Z.trans (ab.mono Z.size)).setCell (p:=⟨w.heap.size+1+1,0,none⟩) (by show w.heap.size<=w.heap.size+1+1;omega) (.slice x1 (nl (m*n)) c1);go_wp2;exact A6 (eI rfl _ _ (w.heap.size+1+1) _ rfl (World.cell?_setCell_same _ _ _ am)) rfl ⟨_,rfl,n3,hB⟩
section
variable {Q:Bf->Act->World->Prop} {o:Oper} {a:Act} {w:World} {x y:AZ} {m n:Nat} {tt:Array TypeId}
theorem arm_rAdd(H:o.op= .call {callee:=.value (.func 288),args:=#[x,y],argTypes:=tt})(I:Is a w x (.nat m))(hy:Is a w y (.nat n))(G:nl m<=1000000000000)(hn:nl n<=1000000000000)(C:m+n=N):Arm AE Q o a w (.nat N):=by
 subst C;exact aaq H (ai Tryz.func288 rfl rfl) I hy (R:=λw=>cW w (m+n)) (λva vb w h1 h2=>jM va vb m n w h1 h2 G hn) (λ_ _ h=>ofNew h)
end
theorem len2_half{x:Nat}(h:x≠0):d9 x=d9 (x / 2)+1:=by
 unfold d9;rw[if_neg h,Nat.log2_def];by_cases h2:2<=x
 ·rw[if_pos h2,if_neg Aa]
 ·rw[if_neg h2,if_pos Aa]
theorem yv(h:N≠0):d9 N=32*(nl N - 1)+d9 (D N (nl N - 1)):=by
 rw[vl h];have ht:D N (nl N - 1)≠0:=aak h;have C:=ci N (nl N - 1);have h1:nl (D N (nl N - 1))=1:=by
  have:=dM ht;have:=(aI (N:=D N (nl N - 1)) (k:=1)).2 (by rw[Nat.pow_one];exact C);omega
 have h2:=vl ht;rw[h1]at h2;have h3:D (D N (nl N - 1)) 0=D N (nl N - 1):=by
  show D N (nl N - 1) / 4294967296^0 % 4294967296=_;rw[Dy,Nat.div_one,Cl C]
 simp only[Nat.sub_self,h3,CR,Bh]at h2;rw[h2]
set_option maxRecDepth 100000 in
theorem yw(va:Value)(N:Nat)(w:World)(ha:IsN w va N)(hN:nl N<=1000000000000):
  AH AE 287 #[va] w λe w'=>bk w (.int .i64 ((d9 N:Nat):Int)) e w':=by
 obtain⟨a,Y,rfl,aa,ra⟩:=ha;have K:=gM w (.cells #[.slice a (nl N) Y] 31);have v1:=aN.made w a (nl N) Y;have I:=ra.mono K;by_cases h0:N=0
 ·have Z:nl N=0:=ll.2 h0;have e2:d9 N=0:=by unfold d9;rw[if_pos h0]
  have U:=AF e2;rw[Z]at I K aa v1⊢;clear Z e2 ra hN;have c1:=v1.cell;go_enter Tryz.func287,Tryz.ntmps287
  go_wp2;go_ret;exact⟨by rw[U.out];rfl,K⟩
 ·have hp:=dM h0;have ao:(((nl N:Nat):Int)==0)=false:=by rw[beq_eq_false_iff_ne];omega
  have HT:=AF (yv h0);have H:=ci N (nl N - 1);obtain⟨T,hT⟩:∃T:Nat,Hid (T=D N (nl N - 1)):=⟨_,AF rfl⟩;obtain⟨b1,o1,rfl,h1⟩:=I.cells Aa;have d1:=h1 (nl N - 1) Aa;rw[<-hT.out]at d1 H;obtain⟨P,J⟩:∃P:Nat,Hid (P=nl N - 1):=⟨_,AF rfl⟩;have Z:((nl N:Int) - 1)=((P:Nat):Int):=by have:=J.out;omega
  have ac:P<=1000000000000:=by have:=J.out;omega
  rw[<-J.out]at d1;have c1:=v1.cell;have am:d9 T<=32:=by
   rcases Dm T with h | h
   ·rw[h];decide
   ·unfold d9;rw[if_neg Aa];have:=(D6 (n:=T) (k:=32) Aa).2 (by simpa using H);omega
  have G:d9 N=32*(nl N - 1)+d9 T:=by rw[HT.out,hT.out]
  have C:=AF G;clear G h0;have ak:d9 N<=32000000000032:=by have:=C.out;omega
  go_enter Tryz.func287,Tryz.ntmps287
  go_wp2_with fail
  go_loopw [3,4] (λs3 s4 wr=>∃c x:Nat,s3= .int .i64 (c:Int)/\s4= .int .u32 (x:Int)/\x<4294967296/\Hid (d9 N=c+d9 x)/\wr=w.alloc (.cells #[.slice (some ⟨b1,o1,none⟩) (nl N) Y] 31)) (λ_ s4 _=>(intOf s4).toNat)
  case atStart=>exact⟨32*P,T,by go_num,rfl,H,by rw[J.out];exact C,rfl⟩
  case round=>
   obtain⟨c,x,rfl,rfl,hx,V,rfl⟩:=hrel;have ad:c<=32000000000032:=by have:=V.out;omega
   by_cases hx0:x=0
   ·subst hx0;have hc:d9 N=c:=by have h:=V.out;have h2:d9 0=0:=rfl;omega
    have HC:=AF hc;clear hc;go_wp2;go_ret;exact⟨by rw[HC.out];rfl,K⟩
   ·have ap:(0:Int)<(x:Int):=Aa
    have ab:=len2_half hx0;have HS:=AF (show d9 N=(c+1)+d9 (x / 2)by have h:=V.out;omega);obtain⟨y,hy⟩:∃y:Nat,Hid (y=x / 2):=⟨_,AF rfl⟩;have hq:((x:Nat):Int) / 2=((y:Nat):Int):=by have:=hy.out;omega
    have an:y<x:=by have:=hy.out;omega
    rw[<-hy.out]at HS;clear ab hx0;go_wp2_with fail
    go_roundw
    case rel=>exact⟨c+1,y,by go_num,rfl,Aa,HS,trivial⟩
    case measure=>simp[intOf]<;>omega
theorem pJ(n:Nat)(w:World)(hn:n<18446744073709551616):
  AH AE 112 #[.int .u64 (n:Int)] w λe w'=>cW w n e w':=by
 have Y:=gM w (.cells #[.slice none 0 0] 31);have V:=aN.made w none 0 0;have G:=aU.two (w.alloc (.cells #[.slice none 0 0] 31)) n hn;have I:=Y.alloc Ag (.cells #[.int .u32 ((n:Int) % 4294967296),.int .u32 ((n:Int) / 4294967296)] 237);have v1:=aN.mono V (gM _ (.cells #[.int .u32 ((n:Int) % 4294967296),.int .u32 ((n:Int) / 4294967296)] 237)) V.lt;rw[CE]at G;go_enter Tryz.func112,Tryz.ntmps112
 go_wp2_with fail
 refine(pI _ 2 2 n _ G.rw' Aa).mono ?_;rintro e w2 ⟨v2,rfl,⟨H,c2,rfl,J,K⟩,U⟩;have Z:aP w.heap.size w2 (.agg #[.slice H (nl n) c2]) n:=aP.weaken (by exact⟨H,c2,rfl,J,K⟩) I.size;have C:=v1.mono U v1.lt;have cr:=C.cell;have fr:=C.frozen;have n3:=Z.setVar (u:=.slice H (nl n) c2) C;have hB:=(I.trans (U.mono I.size)).setCell (p:=⟨w.heap.size,0,none⟩) (AK _) (.slice H (nl n) c2);go_wp2;exact A6 (eI rfl _ _ w.heap.size _ rfl C.set.cell) rfl ⟨_,rfl,n3,hB⟩
section
variable {Q:Bf->Act->World->Prop} {o:Oper} {a:Act} {w:World} {x y:AZ} {m n:Nat} {tt:Array TypeId}
def Sp.raw(L N:Nat):Sp:=⟨λw v=>IsR w v L N,λ_ _ _ h hb=>IsR.mono h hb⟩
end
section
variable {P:A0} {ops:Array Oper} {Q:Bf->Act->World->Prop} {md:Region.Mode}
theorem iX.of_all{p:α->Prop}(h:∀x,p x):∀l,iX p l
 | []=>trivial
 | x::l=>⟨h x,iX.of_all h l⟩
def ArmB(P:A0)(Q:Bf->Act->World->Prop)(al:Bool)(o:Oper)(a:Act)(w:World)(s:Sp):Prop:=
 ∀K:Act->World->Prop,(∀v w',s.p w' v->AG w.heap.size w w'->(al=true->w.heap.size<=blk v)->K (a.put o.dst v) w')->Bn P o a w K Q
theorem Arm.b{o:Oper}{a:Act}(h:Arm P Q o a w s):ArmB P Q false o a w s:=λK C=>h K (λv w' h1 h2=>C v w' h1 h2 (λh=>by cases h))
theorem aat(f:BW)(r:Nat)(D:List (Nat×Tmp×Sp))(Z:Nat->Bool)(n fuel:Nat){id:Nat}{I:Array Oper}{a:Act}(am:de f r=I)(U:P.follows .mixedOrders=true)
  (ad:(de f r).size=fuel+D.length)(V:oC .any (de f r) (aA D) n (Cs (fuel+D.length) false) a.tmps.size=true)
  (ap:iX (λx=>Z x.1=true->∀w v,x.2.2.p w v->blk v<w.heap.size) D)
  (Y:iX (λx=>∀(a':Act)(w':World),Found .any (de f r) D x.1 w a a' w'->∃o,(de f r)[x.1]? =some o/\A7 o (yielded (de f r) a'.tmps)=true/\ArmB P Q (Z x.1) o a' w' x.2.2) D)
  (G:∀(g:Nat->Value) w',AG w.heap.size w w'->(∀(i:Nat)(t:Tmp)(s:Sp),D[i]? =some (i,t,s)->s.p w' (g i))->(∀i j:Nat,((aA D).map (·.1)).contains i=true->((aA D).map (·.1)).contains j=true->Z i=true->Z j=true->i≠j->blk (g i)≠blk (g j))->
   wpAny P .any (de f r) Q fuel (aV ((aA D).map (·.1)) (Cs (fuel+D.length) false)) (cK (aA D) g a) w'):(Dc id I true).wp P Q a w:=by
 subst am;refine Di U ?_;have H:AG w.heap.size w w.drew:=aF (AL _ _) 1
 change wpAny P .any _ Q _ _ _ w.drew
 rw[ad];unfold oC at V;simp only[Bo,decide_eq_true_eq]at V;obtain⟨⟨⟨⟨an,ac⟩,ak⟩,av⟩,au⟩:=V;have ht:∀p∈aA D,p.2<a.tmps.size:=λp hp=>by simpa using Cd.1 au p hp
 have ab:∀t,((aA D).map (·.2)).contains t=false->t∉(aA D).map (·.2):=λt h U=>by
  rw[CF.2 U]at h;cases h
 have C:∀(i:Nat)(t:Tmp)(s:Sp),D[i]? =some (i,t,s)->(i,t,s)∈D:=λi t s h=>Bb h
 have key:=keyed (D:=D) (by simpa [aA,E9]using av);have J:D.length=(aA D).length:=by simp[aA]
 rw[J]at an G⊢;refine iC (fuel:=fuel) (aA D) n Z (λi v w'=>∀t s,(i,t,s)∈D->s.p w' v) an ac ak (λi _ v w1 w2 h hb t s U=>s.st _ _ _ (h t s U) hb) ?_ ?_ ?_
 ·intro i hi hA v w' h;obtain⟨p,hp,rfl⟩:=Bi.1 hi;obtain⟨x,hx,rfl⟩:=Bi.1 hp;exact ap.mem x hx hA w' v (h x.2.1 x.2.2 hx)
 ·intro p hp g w' hb hF K hK;obtain⟨x,hx,rfl⟩:=Bi.1 hp;obtain⟨o,ho,hw,aa⟩:=Y.mem x hx (cK (aA D) g a) w' ⟨H.trans (hb.mono H.size),λt h=>jK t (ab t h),λi t s h1 h2=>
   ⟨g i,tN ak (ce (C i t s h1)) (ht _ (ce (C i t s h1))),hF i (Bi.2 ⟨_,ce (C i t s h1),rfl⟩) (CF.1 h2) t s (C i t s h1)⟩⟩
  unfold wpOp;rw[ho];show if A7 o (yielded (de f r) (cK (aA D) g a).tmps)=true then _ else _
  rw[if_pos hw];refine .inl (aa K (λv ax hv aq hA=> ?_));have hd:=Cd.1 ac _ hp;rw[beq_iff_eq]at hd;have ar:o.dst=some x.2.1:=by
   have:cf (de f r) x.1=o.dst:=by unfold cf;rw[ho]
   rw[<-this];exact hd
  rw[ar];refine hK v ax (λt s U=> ?_) aq hA;have e2:=key _ U _ (show(x.1,x.2.1,x.2.2)∈D from hx) rfl;simp only[Prod.mk.injEq,true_and]at e2;rw[e2.2];exact hv
 ·intro g w' hb hF ao;exact G g w' (H.trans (hb.mono H.size)) (λi t s h=>hF i (Bi.2 ⟨_,ce (C i t s h),rfl⟩) t s (C i t s h))
   (λi j hi hj=>ao i (CF.1 hi) j (CF.1 hj))
end
def Sp.var(base:Nat):Sp:=⟨λw v=>∃g,v= .pointer (some ⟨g,0,none⟩)/\base<=g/\aN w g none 0 0,λ_ _ _ h hb=>by obtain⟨g,h1,h2,h3⟩:=h;exact⟨g,h1,h2,h3.mono hb h3.lt⟩⟩
section
variable {Q:Bf->Act->World->Prop} {o:Oper} {a:Act} {w:World} {x y:AZ} {m n:Nat} {tt:Array TypeId}
theorem ofNewB{w:World}{e:BH}(C:base<=w.heap.size)(h:cW w N e w'):∃v,e= .returned v/\(Sp.new base N).p w' v/\AG w.heap.size w w':=by
 obtain⟨v,rfl,hn,hb⟩:=h;exact⟨v,rfl,hn.weaken C,hb⟩
theorem r7(hb:base<=w.heap.size)(H:o.op= .call {callee:=.value (.func 288),args:=#[x,y],argTypes:=tt})(I:Is a w x (.nat m))(hy:Is a w y (.nat n))(G:nl m<=1000000000000)(hn:nl n<=1000000000000)(C:m+n=N):Arm AE Q o a w (.new base N):=by
 subst C;exact aaq H (ai Tryz.func288 rfl rfl) I hy (R:=λw=>cW w (m+n)) (λva vb w h1 h2=>jM va vb m n w h1 h2 G hn) (λ_ _ h=>ofNewB hb h)
theorem aau(G:o.op= .call {callee:=.value (.func 112),args:=#[x],argTypes:=tt})(H:Is a w x (.val (.int .u64 (n:Int))))(hn:n<18446744073709551616):Arm AE Q o a w (.nat n):=by
 refine mo G (ai Tryz.func112 rfl rfl) (R:=λe w'=>cW w n e w') ?_ (λ_ _ h=>ofNew h);have C:a.eval x= .int .u64 (n:Int):=H;simpa [C]using pJ n w hn
theorem Is.new(h:Is a w x (.new base m)):Is a w x (.nat m):=aP.isN h
end
variable{s:Option A2}
theorem run_store(H:∃G L' C,u= .slice G L' C)(h:aN w g s L c):(Instr.storeAt 31 (.pointer (some ⟨g,0,none⟩)) (.agg #[u])).run AE w= .ok () (w.setCell ⟨g,0,none⟩ u):=by
 obtain⟨G,L',C,rfl⟩:=H;have c1:=h.cell;have f1:=h.frozen;go_simp
variable{Q:Bf->Act->World->Prop}
theorem wp_store{o:Oper}{a:Act}{K:Act->World->Prop}{x y:AZ}(C:o.op= .store 31 x y)(H:o.dst=none)
  (J:a.eval x= .pointer (some ⟨g,0,none⟩))(hy:a.eval y= .agg #[u])(I:∃s' L' c',u= .slice s' L' c')(hv:aN w g s L c)(G:K a (w.setCell ⟨g,0,none⟩ u)):Bn AE o a w K Q:=by
 unfold Bn execOp;rw[C];simp only[J,hy,AO,run_store I hv,AX,BC,Oper.upon_skip];rw[H];exact G
theorem oD{md:Region.Mode}{ops:Array Oper}{o:Oper}{a:Act}{j fuel:Nat}{C:Array Bool}{x y:AZ} 
  (hr:BV md ops C=[j])(U:ops[j]? =some o)(G:o.op= .store 31 x y)(J:o.guard=none)(I:o.dst=none)
  (Y:a.eval x= .pointer (some ⟨g,0,none⟩))(hy:a.eval y= .agg #[u])(V:∃s' L' c',u= .slice s' L' c')(hv:aN w g s L c)(h:wpAny AE md ops Q fuel (C.setIfInBounds j true) a (w.setCell ⟨g,0,none⟩ u)):
  wpAny AE md ops Q (fuel+1) C a w:=by
 refine BT hr Ag (BI U (λK H=> ?_) BS);rw[if_pos (wanted_none J)];exact wp_store G I Y hy V hv (H _ _ h)
theorem bit_of(m i:Nat):D m (i / 32) / 2^(i % 32) % 2=m / 2^i % 2:=by
 unfold D;have h1:(4294967296:Nat)^(i / 32)=2^(32*(i / 32)):=by rw[Nat.pow_mul]
 have h3:∀X s:Nat,s<=32->X % 4294967296 / 2^s=X / 2^s % 2^(32 - s):=by
  intro X s hs;rw[show(4294967296:Nat)=2^s*2^(32 - s)by rw[<-BY,show s+(32 - s)=32 by omega],Nat.mod_mul_right_div_self]
 rw[h3 _ _ Aa,h1,CQ,<-BY,Ce];have h4:(2:Nat)∣ 2^(32 - i % 32):=⟨2^(31 - i % 32),by rw[<-Nat.pow_succ',show(31 - i % 32).succ=32 - i % 32 by omega]⟩;exact Nat.mod_mod_of_dvd _ h4
theorem c_bit(va:Value)(m i:Nat)(w:World)(ha:IsN w va m)(hm:nl m<=1000000000000)(hi:i<=60000000000000):
  AH AE 289 #[va,.int .i64 (i:Int)] w λe w'=>bk w (.int .u64 ((m / 2^i % 2:Nat):Int)) e w':=by
 obtain⟨a,ca,rfl,Y,ra⟩:=ha;obtain⟨k0,k1⟩:=box1 (L:=nl m) (c:=ca) (N:=m) ⟨a,ca,rfl,Y,ra⟩;obtain⟨y1,d1,q1,i1⟩:=k1;have e1:=q1.cell;obtain⟨P,G⟩:∃P:Nat,Hid (P=i / 32):=⟨_,AF rfl⟩;obtain⟨R,I⟩:∃R:Nat,Hid (R=i % 32):=⟨_,AF rfl⟩;have hq:(i:Int) / 32=(P:Int):=by have:=G.out;omega
 have ac:Int.tdiv (i:Int) 32=(P:Int):=by rw[Int.tdiv_eq_ediv_of_nonneg Aa];exact hq
 have hr:(i:Int) % 32=(R:Int):=by have:=I.out;omega
 have ad:Int.tmod (i:Int) 32=(R:Int):=by rw[Int.tmod_eq_emod_of_nonneg Aa];exact hr
 have ab:R<=31:=by have:=I.out;omega
 have H:P<=60000000000000:=by have:=G.out;omega
 have C:D m P / 2^R % 2=m / 2^i % 2:=by rw[G.out,I.out];exact bit_of m i
 have HB:=AF C;clear C;obtain⟨V,J⟩:∃V:Nat,Hid (V=D m P):=⟨_,AF rfl⟩;have K:V<=4294967295:=by have:=ci m P;have:=J.out;omega
 go_enter Tryz.func289,Tryz.ntmps289
 go_wp2_with fail
 refine(aar _ (nl m) m P _ i1 Aa H).mono ?_;rintro e w1 ⟨rfl,bb⟩;rw[<-J.out];have U:=k0.trans (bb.mono k0.size);go_wp2_with fail
 go_loopw [5,6] (λs5 s6 wr=>∃k x:Nat,k<=R/\s6= .int .i64 (k:Int)/\s5= .int .u64 (x:Int)/\Hid (x=V / 2^k)/\x<=4294967295/\wr=w1) (λ_ s6 _=>R - (intOf s6).toNat)
 case atStart=>exact⟨0,V,Bc _,rfl,rfl,AF Ag,K,rfl⟩
 case round=>
  obtain⟨k,x,hk,rfl,rfl,HX,ak,rfl⟩:=hrel;by_cases hlt:k<R
  ·obtain⟨y,hy⟩:∃y:Nat,Hid (y=x / 2):=⟨_,AF rfl⟩;have Z:((x:Nat):Int) / 2=((y:Nat):Int):=by have:=hy.out;omega
   have aa:y<=4294967295:=by have:=hy.out;omega
   go_wp2_with fail
   go_roundw
   case rel=>exact⟨k+1,y,Aa,by go_num,rfl,AF (by rw[hy.out,HX.out,BL,CQ]),aa,trivial⟩
   case measure=>simp[intOf]<;>omega
  ·obtain rfl:k=R:=Aa
   obtain⟨y,hy⟩:∃y:Nat,Hid (y=x % 2):=⟨_,AF rfl⟩;have Z:((x:Nat):Int) % 2=((y:Nat):Int):=by have:=hy.out;omega
   go_wp2;go_ret;refine⟨?_,U⟩;rw[<-HB.out,<-J.out,<-HX.out];refine congrArg Ending.returned (congrArg (AW BD) ?_);have:=hy.out;omega
structure DM(w wr:World)(m n q r:Nat):Prop where
 below:AG w.heap.size w wr
 va:bR wr w.heap.size m
 vb:bR wr (w.heap.size+1) n
 r1:aN wr (w.heap.size+2) none 0 0
 r2:aN wr (w.heap.size+3) none 0 0
 vq:iD w.heap.size wr (w.heap.size+4) q
 vr:iD w.heap.size wr (w.heap.size+5) r
variable{wr:World}{q r:Nat}
theorem DM.mono(h:DM w wr m n q r)(hb:AG wr.heap.size wr w'):DM w w' m n q r:=
 ⟨h.below.trans (hb.mono h.below.size),h.va.mono hb,h.vb.mono hb,h.r1.mono hb h.r1.lt,h.r2.mono hb h.r2.lt,h.vq.mono (B:=0) hb,h.vr.mono (B:=0) hb⟩
variable{a':Option A2}
theorem bR.setOther{C L' c':Nat}(h:bR w g N)(H:aN w C a' L' c')(G:C≠g):bR (w.setCell ⟨C,0,none⟩ u) g N:=by
 obtain⟨a,c,h1,h2⟩:=h;exact⟨a,c,h1.setOther _ _ G,h2.setVar H⟩
theorem iD.setOther{C L' c':Nat}(h:iD base w g N)(H:aN w C a' L' c')(G:C≠g):iD base (w.setCell ⟨C,0,none⟩ u) g N:=by
 obtain⟨a,c,h1,h2⟩:=h;exact⟨a,c,h1.setOther _ _ G,h2.setVar H⟩
theorem iD.setN{M:Nat}(h:iD base w g M)(hn:aP base w (.agg #[.slice x (nl N) c]) N):iD base (w.setCell ⟨g,0,none⟩ (.slice x (nl N) c)) g N:=by
 obtain⟨a,C,h1,h2⟩:=h;exact⟨x,c,h1.set,hn.setVar h1⟩
theorem DM.setr(h:DM w wr m n q r)(hn:aP w.heap.size wr (.agg #[.slice x (nl N) c]) N):DM w (wr.setCell ⟨w.heap.size+5,0,none⟩ (.slice x (nl N) c)) m n q N:=by
 obtain⟨a,C,h1,h2⟩:=h.vr;exact⟨h.below.setCell (p:=⟨w.heap.size+5,0,none⟩) (DS _ _) _,h.va.setOther h1 Aa,h.vb.setOther h1 Aa,h.r1.setOther _ _ Ag,h.r2.setOther _ _ Ag,h.vq.setOther h1 Aa,h.vr.setN hn⟩
theorem DM.setq(h:DM w wr m n q r)(hn:aP w.heap.size wr (.agg #[.slice x (nl N) c]) N):DM w (wr.setCell ⟨w.heap.size+4,0,none⟩ (.slice x (nl N) c)) m n N r:=by
 obtain⟨a,C,h1,h2⟩:=h.vq;exact⟨h.below.setCell (p:=⟨w.heap.size+4,0,none⟩) (DS _ _) _,h.va.setOther h1 Aa,h.vb.setOther h1 Aa,h.r1.setOther _ _ Ag,h.r2.setOther _ _ Ag,h.vq.setN hn,h.vr.setOther h1 Aa⟩
theorem aav{Y:Nat}(h:Y=n*q+r)(hr:r<n):Y / n=q/\Y % n=r:=
 (Nat.div_mod_unique Aa).2 ⟨Aa,hr⟩
theorem tP(m k:Nat):m / 2^k=2*(m / 2^(k+1))+m / 2^k % 2:=by
 rw[BL,<-CQ];omega
theorem lt_len2(m:Nat):m<2^d9 m:=by
 unfold d9;split
 ·omega
 ·exact Nat.lt_log2_self
theorem dm_round{k:Nat}(hn:0<n):(n<=m / 2^(k+1) % n+m / 2^(k+1) % n+m / 2^k % 2->m / 2^k / n=m / 2^(k+1) / n+m / 2^(k+1) / n+1/\m / 2^k % n=m / 2^(k+1) % n+m / 2^(k+1) % n+m / 2^k % 2 - n)/\
  (m / 2^(k+1) % n+m / 2^(k+1) % n+m / 2^k % 2<n->m / 2^k / n=m / 2^(k+1) / n+m / 2^(k+1) / n/\m / 2^k % n=m / 2^(k+1) % n+m / 2^(k+1) % n+m / 2^k % 2):=by
 have h1:=tP m k;have h2:=Ce (m / 2^(k+1)) n;have h3:=Bs (m / 2^(k+1)) hn;generalize m / 2^(k+1)=X at *;generalize m / 2^k=Y at *;generalize hb:Y % 2=b at *;have H:b<2:=Aa
 generalize X / n=q at *;generalize X % n=r at *;subst h2;have C:n*(q+q)=n*q+n*q:=Cr n q q;have G:n*(q+q+1)=n*q+n*q+n:=by rw[Cr,C,Nat.mul_one]
 refine⟨λh=>aav ?_ Aa,λh=>aav ?_ h⟩
 ·rw[h1,G];omega
 ·rw[h1,C];omega
theorem DM.fin{w0:World}{H I:Nat}{C G:Option A2}(h:DM w w0 m n q r)(Y:aN w0 (w.heap.size+4) C (nl q) H)(K:aP w.heap.size w0 (.agg #[.slice C (nl q) H]) q)
  (hr:aN w0 (w.heap.size+5) G (nl r) I)(U:aP w.heap.size w0 (.agg #[.slice G (nl r) I]) r)(w1:World)
  (V:w1=(w0.setCell ⟨w.heap.size+2,0,none⟩ (.slice C (nl q) H)).setCell ⟨w.heap.size+3,0,none⟩ (.slice G (nl r) I)\/w1=(w0.setCell ⟨w.heap.size+3,0,none⟩ (.slice G (nl r) I)).setCell ⟨w.heap.size+2,0,none⟩ (.slice C (nl q) H)):
  aN w1 (w.heap.size+2) C (nl q) H/\aN w1 (w.heap.size+3) G (nl r) I/\aP w.heap.size w1 (.agg #[.slice C (nl q) H]) q/\aP w.heap.size w1 (.agg #[.slice G (nl r) I]) r/\AG w.heap.size w w1:=by
 rcases V with rfl | rfl
 ·have k2:=h.r2.setOther ⟨w.heap.size+2,0,none⟩ (.slice C (nl q) H) Ag;exact⟨h.r1.set.setOther _ _ Ag,k2.set,(K.setVar h.r1).setVar k2,(U.setVar h.r1).setVar k2,(h.below.setCell (p:=⟨w.heap.size+2,0,none⟩) (DS _ _) _).setCell (p:=⟨w.heap.size+3,0,none⟩) (DS _ _) _⟩
 ·have J:=h.r1.setOther ⟨w.heap.size+3,0,none⟩ (.slice G (nl r) I) Ag;exact⟨J.set,h.r2.set.setOther _ _ Ag,(K.setVar h.r2).setVar J,(U.setVar h.r2).setVar J,(h.below.setCell (p:=⟨w.heap.size+3,0,none⟩) (DS _ _) _).setCell (p:=⟨w.heap.size+2,0,none⟩) (DS _ _) _⟩
section
variable {Q:Bf->Act->World->Prop} {o:Oper} {a:Act} {w:World} {x y:AZ} {m n:Nat} {tt:Array TypeId}
theorem arm_bit(H:o.op= .call {callee:=.value (.func 289),args:=#[x,y],argTypes:=tt})(I:Is a w x (.nat m))(hy:Is a w y (.val (.int .i64 (i:Int))))(G:nl m<=1000000000000)(hi:i<=60000000000000){b:Nat}(hb:m / 2^i % 2=b):
  Arm AE Q o a w (.val (.int .u64 (b:Int))):=by
 subst hb;refine mo H (ai Tryz.func289 rfl rfl) (R:=bk w (.int .u64 ((m / 2^i % 2:Nat):Int))) ?_ (λ_ _ h=>ofV h);have C:a.eval y= .int .i64 (i:Int):=hy;simpa [C]using c_bit _ m i w I G hi
end
theorem iD.isI(h:iD base w g N):bR w g N:=by
 obtain⟨a,c,h1,h2⟩:=h;exact⟨a,c,h1,h2.isN⟩
variable{a:Nat}
theorem pK{b:Nat}(h:a<=b)(hb:nl b<=100000000000):nl a<=1000000000000:=AI (dN h) Aa
theorem nl_twice0{b:Nat}(h:a<=2*b+1)(hb:nl b<=d):nl a<=d+1:=by
 have h1:=aI.1 hb;refine aI.2 (D7 h ?_);rw[BL];generalize 4294967296^d=P at *;omega
theorem vR{b:Nat}(h:a<=2*b+1)(hb:nl b<=100000000000):nl a<=1000000000000:=AI (nl_twice0 h hb) th
theorem len2_le(h:nl m<=d):d9 m<=32*d:=by
 unfold d9;split
 ·omega
 ·rename_i C;have h2:m<2^(32*d):=by rw[Nat.pow_mul];exact aI.1 h
  have:=(D6 C).2 h2;omega
def dmTab7(w:World)(m r k S b R1:Nat):List (Nat×Tmp×Sp):=
  [(0,25,.nat (r)),
  (1,26,.nat (r)),
  (2,27,.nat (S)),
  (3,28,.nat (m)),
  (4,29,.val (AW Bd ((k:Nat)))),
  (5,30,.val (AW BD ((b:Nat)))),
  (6,31,.nat (b)),
  (7,32,.new w.heap.size (R1))]
def aaw(w:World)(T0 T:Nat):List (Nat×Tmp×Sp):=
  [(0,46,.nat (T0)),
  (1,47,.nat (1)),
  (2,48,.new w.heap.size (T))]
set_option maxRecDepth 100000 in
set_option maxHeartbeats 2000000 in
theorem mr(va vb:Value)(m n:Nat)(w:World)(ha:IsN w va m)(hb:IsN w vb n)(hm:nl m<=100000000000)(hn:nl n<=100000000000)(h0:n≠0):
  AH AE 262 #[va,vb] w λe w'=>iE w (m / n) (m % n) 0 e w':=by
 obtain⟨a,ca,rfl,bq,ra⟩:=ha;obtain⟨b,cb,rfl,bt,rb⟩:=hb;have fb:=dM h0;have b5:nl m<=1000000000000:=Aa
 have b6:nl n<=1000000000000:=Aa
 have a4:=AF h0;clear h0;go_enter Tryz.func262,Tryz.ntmps262
 go_upto_region 0 with(fail)
 go_cut [2,3,4,5,6] (λs2 s3 s4 s5 s6 wx=>s2= .pointer (some ⟨w.heap.size,0,none⟩)/\s3= .pointer (some ⟨w.heap.size+1,0,none⟩)/\s4= .pointer (some ⟨w.heap.size+2,0,none⟩)/\s5= .pointer (some ⟨w.heap.size+3,0,none⟩)/\
   bR wx w.heap.size m/\bR wx (w.heap.size+1) n/\aN wx (w.heap.size+2) none 0 0/\aN wx (w.heap.size+3) none 0 0/\AG w.heap.size w wx/\wx.heap.size=w.heap.size+4)
 case first=>
  obtain⟨k0,k1,k2⟩:=box2 (L:=nl m) (c:=ca) (N:=m) (L2:=nl n) (c2:=cb) (N2:=n) ⟨a,ca,rfl,bq,ra⟩ ⟨b,cb,rfl,bt,rb⟩;have hz:((w.alloc (.cells #[.slice a (nl m) ca] 31)).alloc (.cells #[.slice b (nl n) cb] 31)).heap.size=w.heap.size+2:=Ag
  generalize ek:(w.alloc (.cells #[.slice a (nl m) ca] 31)).alloc (.cells #[.slice b (nl n) cb] 31)=w2 at *;obtain⟨j0,j1,j2⟩:=box2 (w:=w2) (a:=none) (L:=0) (c:=0) (N:=0) (b:=none) (L2:=0) (c2:=0) (N2:=0) ⟨none,0,rfl,Aa,th,λh=>Aa⟩ ⟨none,0,rfl,Aa,th,λh=>Aa⟩;have v1:=aN.made w2 none 0 0;have v2:=aN.made (w2.alloc (.cells #[.slice none 0 0] 31)) none 0 0;have cz:=v1.mono (gM _ (.cells #[.slice none 0 0] 31)) v1.lt;rw[CE]at v2;rw[hz]at cz v2;subst ek;go_wp2_with fail
  go_meet;case rel=>exact⟨rfl,rfl,rfl,rfl,iF.mono k1 j0,iF.mono k2 j0,cz,v2,k0.trans (j0.mono k0.size),Ag⟩
 case rest=>
  obtain⟨rfl,rfl,rfl,rfl,Va,Vb,a1,a2,ay,cl⟩:=hcut;clear ra rb bq bt;go_upto_region 1 with(fail)
  go_cut [7,8] (λs7 s8 wx=>s7= .pointer (some ⟨w.heap.size+4,0,none⟩)/\s8= .pointer (some ⟨w.heap.size+5,0,none⟩)/\DM w wx m n 0 0)
  case first=>
   obtain⟨k0,k1,k2⟩:=yp wc none none 0 0 0 0;rw[cl]at k1 k2;have hB:=ay.trans (k0.mono ay.size);have nn:∀wz,aP w.heap.size wz (.agg #[.slice none (nl 0) 0]) 0:=λwz=>by rw[bj];exact aP.of_zero
   have hD:DM w ((wc.alloc (.cells #[.slice none 0 0] 31)).alloc (.cells #[.slice none 0 0] 31)) m n 0 0:=
    ⟨hB,Va.mono k0,Vb.mono k0,a1.mono k0 a1.lt,a2.mono k0 a2.lt,⟨none,0,by rw[bj];exact k1,nn _⟩,⟨none,0,by rw[bj];exact k2,nn _⟩⟩
   go_wp2_with fail
   go_meet;case rel=>exact⟨rfl,rfl,hD⟩
  case rest=>
   clear Va Vb a1 a2 ay cl;obtain⟨rfl,rfl,C⟩:=hcut;have hq0:∀K:Nat,True:=λ_=>trivial
   obtain⟨yb,db,qb,ib⟩:=C.vb;have eb:=qb.cell;obtain⟨ya,da,qa,ia⟩:=C.va;have ea:=qa.cell;have e9:((nl n:Nat):Int)≠0:=Aa
   go_wp2_with fail
   refine(yw _ m _ ia b5).mono ?_;rintro e w1 ⟨rfl,bb⟩
   replace C:=C.mono bb
   clear ea qa ia eb qb ib bb;have ez:d9 m<=32000000000000:=AI (len2_le hm) th;have HL:=AF (lt_len2 m);generalize d9 m=K at *;go_wp2_with fail
   go_loopw [9] (λs9 wr=>∃k:Nat,k<=K/\s9= .int .i64 ((k:Int) - 1)/\DM w wr m n (m / 2^k / n) (m / 2^k % n)) (λs9 _=>((intOf s9)+1).toNat)
   case atStart=>exact⟨K,AK _,rfl,by rw[Cw HL.out,Nat.zero_div,Nat.zero_mod];exact C⟩
   case round=>
    clear C;obtain⟨k,hk,rfl,C⟩:=hrel
    cases k with
    | zero=>
     rw[Dy,Nat.div_one]at C;obtain⟨aq,cq,kq,nq⟩:=C.vq;obtain⟨ar,cr,kr,nr⟩:=C.vr;have c4:=kq.cell;have c5:=kr.cell;have f2:=C.r1.frozen;have f3:=C.r2.frozen;have c2:=C.r1.cell;have c3:=C.r2.cell;have b3:=C.fin kq nq kr nr;obtain⟨q0,U⟩:∃N:Nat,Hid (N=m / n):=⟨_,AF rfl⟩;obtain⟨r0,V⟩:∃N:Nat,Hid (N=m % n):=⟨_,AF rfl⟩;rw[<-U.out,<-V.out]at C;rw[<-U.out]at kq nq;rw[<-V.out]at kr nr;clear b3 c2 c3 c4 c5 f2 f3;go_upto_region 12 with(fail)
     refine Di Ab ?_
     change wpAny _ _ _ _ _ _ _ (Cy _)
     have bz:AG wr.heap.size wr (Cy wr):=aF (AL _ _) 1;have I:=C.mono bz;have ab:=kq.mono bz kq.lt;have ac:=kr.mono bz kr.lt;have et:=nq.mono bz;have ew:=nr.mono bz;clear bz;generalize Cy wr=w3 at *;have c4:=ab.cell;have c5:=ac.cell;have f2:=I.r1.frozen;have c2:=I.r1.cell;have ep:=ac.setOther ⟨w.heap.size+2,0,none⟩ (.slice aq (nl q0) cq) Ag;have eP:=ep.cell;have cx:=I.r2.setOther ⟨w.heap.size+2,0,none⟩ (.slice aq (nl q0) cq) Ag;have eB:=cx.cell;have e4:=cx.frozen;obtain⟨p1,p2,p3,p4,p5⟩:=I.fin ab et ac ew _ (.inl rfl);have c6:=p1.cell;have c7:=p2.cell;refine ec (i:=0) (t:=2) (d:=some 49) (v:=?v12_0_1) rfl rfl th rfl rfl Ab Ab (λ_ _ _ h=>h) ⟨Ai,?hy12_0_1⟩ ?_;case hy12_0_1=>(go_simp;try with_reducible rfl)
     try simp only[AN,AQ,AR,AS]
     refine BT (rs:=[1,2]) Ab Ag ?_;refine BI rfl (λK H=> ?_) ?_
     ·go_simp
      refine H _ _ ?_;clear H K;try simp only[AN,AQ,AR,AS]
      refine BT (rs:=[2]) Ab Ag ?_;refine BI rfl (λK H=> ?_) BS;go_simp;refine H _ _ ?_;clear H K;try simp only[AN,AQ,AR,AS]
      refine BT (rs:=[3]) Ab Ag ?_;refine BI rfl (λK H=> ?_) BS;go_simp;refine H _ _ ?_;clear H K;refine gh (i:=4) (d:=some 6) (v:=?v12_4_5) rfl rfl Ab Ab Ab (λ_ _ _ h=>h) (Or.inl ⟨Ai,?hy12_4_5⟩) ?_;case hy12_4_5=>(intro w;go_simp;try with_reducible rfl)
      try simp only[AN,AQ,AR,AS]
      refine CL Ab ?_ _;go_wp2;exact A6 (pD rfl _ _ (w.heap.size+2) (w.heap.size+3) _ _ _ rfl rfl rfl c6 c7) rfl ⟨_,_,rfl,by rw[<-U.out];exact p3,by rw[<-V.out];exact p4,p5⟩
     refine BI rfl (λK H=> ?_) ?_
     ·go_simp
      refine H _ _ ?_;clear H K;try simp only[AN,AQ,AR,AS]
      refine BT (rs:=[1]) Ab Ag ?_;refine BI rfl (λK H=> ?_) BS;go_simp;refine H _ _ ?_;clear H K;try simp only[AN,AQ,AR,AS]
      refine BT (rs:=[3]) Ab Ag ?_;refine BI rfl (λK H=> ?_) BS;go_simp;refine H _ _ ?_;clear H K;refine gh (i:=4) (d:=some 6) (v:=?v12_4_8) rfl rfl Ab Ab Ab (λ_ _ _ h=>h) (Or.inl ⟨Ai,?hy12_4_8⟩) ?_;case hy12_4_8=>(intro w;go_simp;try with_reducible rfl)
      try simp only[AN,AQ,AR,AS]
      refine CL Ab ?_ _;go_wp2;exact A6 (pD rfl _ _ (w.heap.size+2) (w.heap.size+3) _ _ _ rfl rfl rfl c6 c7) rfl ⟨_,_,rfl,by rw[<-U.out];exact p3,by rw[<-V.out];exact p4,p5⟩
     exact BS
    | succ k=>
     have b4:k<=60000000000000:=Aa
     have e:(((k+1:Nat):Int) - 1)=(k:Int):=Aa
     simp only[e];clear e;have aa:=dm_round (m:=m) (n:=n) (k:=k) (Do a4.out);have cd:=Bs (m / 2^(k+1)) (Do a4.out);have b8:m / 2^(k+1) / n<=m:=AI (DO _ _) (DO _ _);have b9:m / 2^k / n<=m:=AI (DO _ _) (DO _ _);have Y:=AF aa;clear aa;obtain⟨q,hq⟩:∃q:Nat,Hid (q=m / 2^(k+1) / n):=⟨_,AF rfl⟩;obtain⟨r,hr⟩:∃r:Nat,Hid (r=m / 2^(k+1) % n):=⟨_,AF rfl⟩;obtain⟨b,hb⟩:∃b:Nat,Hid (b=m / 2^k % 2):=⟨_,AF rfl⟩;rw[<-hq.out,<-hr.out]at C;rw[<-hq.out]at b8;rw[<-hr.out]at cd;have aa:=Y.out;rw[<-hq.out,<-hr.out,<-hb.out]at aa;have Y:=AF aa;clear aa;have e5:b<=1:=by have:=hb.out;omega
     obtain⟨S,hS⟩:∃S:Nat,Hid (S=r+r):=⟨_,AF rfl⟩;obtain⟨J,Z⟩:∃J:Nat,Hid (J=S+b):=⟨_,AF rfl⟩;have cc:nl r<=1000000000000:=pK (Nat.le_of_lt cd) hn;have b7:nl q<=1000000000000:=pK b8 hm;have ee:nl S<=1000000000000:=vR (b:=n) (by have:=hS.out;omega) hn;have am:nl J<=1000000000000:=vR (b:=n) (by have:=hS.out;have:=Z.out;omega) hn;have ef:nl b<=1000000000000:=nlb (by have:(2:Nat)<=4294967296^4:=th;omega);obtain⟨x8,c8,k8,n8⟩:=C.vr;have f8:=k8.frozen;go_upto_region 7 with(fail)
     refine aat Tryz.f262 7 (dmTab7 w m r k S b J) (λ_=>false) 4 1 Ab Ab Ab Ab (iX.of_all (λ_ h=>by cases h) _) ?_ ?_
     ·refine⟨λa' w' F=>⟨_,rfl,wanted_none rfl,(bB rfl (F.keep 8 (Co (some ⟨w.heap.size+5,0,none⟩)) Ab rfl).is (C.vr.isI.mono F.below)).b⟩,?_⟩;refine⟨λa' w' F=>⟨_,rfl,wanted_none rfl,(bB rfl (F.keep 8 (Co (some ⟨w.heap.size+5,0,none⟩)) Ab rfl).is (C.vr.isI.mono F.below)).b⟩,?_⟩;refine⟨λa' w' F=>⟨_,rfl,wanted_none rfl,(arm_rAdd rfl (F.f 0 rfl) (F.f 1 rfl) (cc) (cc) hS.out.symm).b⟩,?_⟩;refine⟨λa' w' F=>⟨_,rfl,wanted_none rfl,(bB rfl (F.keep 2 (Co (some ⟨w.heap.size,0,none⟩)) Ab rfl).is (C.va.mono F.below)).b⟩,?_⟩;refine⟨λa' w' F=>⟨_,rfl,wanted_none rfl,(bf (.inl rfl) (F.keep 9 (AW Bd ((k:Nat))) Ab rfl).is).b⟩,?_⟩;refine⟨λa' w' F=>⟨_,rfl,wanted_none rfl,(arm_bit rfl (F.f 3 rfl) (F.f 4 rfl) (b5) b4 hb.out.symm).b⟩,?_⟩;refine⟨λa' w' F=>⟨_,rfl,wanted_none rfl,(aau (n:=b) rfl (F.f 5 rfl) Aa).b⟩,?_⟩;refine⟨λa' w' F=>⟨_,rfl,wanted_none rfl,(r7 (AI C.below.size F.below.size) rfl (F.f 2 rfl) (F.f 6 rfl) (ee) (ef) Z.out.symm).b⟩,?_⟩;exact trivial
     intro gp wp bp G Gs;obtain⟨v7,e7,n7⟩:∃v,gp 7=v/\aP w.heap.size wp v J:=⟨_,rfl,G 7 32 _ rfl⟩;obtain⟨x7,c7,rfl,be,cp⟩:=n7;have n7:aP w.heap.size wp (.agg #[.slice x7 (nl J) c7]) J:=⟨x7,c7,rfl,be,cp⟩;have b0:=C.mono bp;have ak:=b0.setr n7;have d4:=(k8.mono bp k8.lt).frozen;have d0:=(k8.mono bp k8.lt).cell;clear G Gs be cp f8;simp only[dmTab7];simp only[cK,aA,Bu,BZ,Cb,Cg,AN,AQ,AR,AS,e7];refine oD (j:=8) Ab rfl rfl rfl rfl rfl rfl ⟨_,_,_,rfl⟩ (k8.mono bp k8.lt) ?_;refine CL Ab ?_ _;generalize wp.setCell ⟨w.heap.size+5,0,none⟩ (.slice x7 (nl J) c7)=w7 at *;clear C b0 bp n7 k8 n8 d4 d0 e7;obtain⟨Q2,ax⟩:∃N:Nat,Hid (N=q+q):=⟨_,AF rfl⟩;obtain⟨yq,dq,kq,nq⟩:=ak.vq;have d3:=kq.cell;go_wp2_with fail
     refine(jM _ _ q q _ nq.isN nq.isN b7 b7).mono ?_;rintro e w8 ⟨v8,rfl,nn,bb⟩;rw[<-ax.out]at nn;obtain⟨x8,c8,rfl,bi,cu⟩:=nn;have I:=ak.mono bb;have n8:aP w.heap.size w8 (.agg #[.slice x8 (nl Q2) c8]) Q2:=aP.weaken (base:=w7.heap.size) ⟨x8,c8,rfl,bi,cu⟩ ak.below.size;have a0:=I.setq n8;obtain⟨fd,eS,ab,_⟩:=I.vq;have d1:=ab.cell;have ed:=ab.frozen;obtain⟨yr,dr,kr,nr⟩:=a0.vr;have er:=kr.cell;obtain⟨yb,d2,kb,ib⟩:=a0.vb;have eb:=kb.cell;clear d3 kq nq cu bi;go_wp2_with fail
     refine(nG _ _ J n _ nr.isN ib am b6).mono ?_;rintro e w9 ⟨rfl,ds⟩;have ad:=a0.mono ds;clear er eb kr nr kb ib d1 ed ab n8 ak I bb;by_cases hge:n<=J
     ·have e6:¬dz J n<0:=by
       rcases Bl n J with h | h
       ·rw[jJ h];decide
       ·rw[mg Aa];decide
      have ao:n<=r+r+b:=by have:=Z.out;have:=hS.out;omega
      obtain⟨R2,a6⟩:∃N:Nat,Hid (N=J - n):=⟨_,AF rfl⟩;obtain⟨T,hT⟩:∃N:Nat,Hid (N=Q2+1):=⟨_,AF rfl⟩;have e1:m / 2^k / n=T:=by rw[(Y.out.1 ao).1,hT.out,ax.out]
      have e2:m / 2^k % n=R2:=by rw[(Y.out.1 ao).2,a6.out,Z.out,hS.out]
      have E1:=AF e1;have E2:=AF e2;have a7:nl Q2<=1000000000000:=by
       refine pK (b:=m) ?_ hm;have:=hT.out;rw[e1]at b9;omega
      clear e1 e2;obtain⟨yr,dr,kr,nr⟩:=ad.vr;have er:=kr.cell;obtain⟨yb,d2,kb,ib⟩:=ad.vb;have eb:=kb.cell;go_wp2_with fail
      refine(rZ _ _ J n _ nr.isN ib am b6).mono ?_;rintro e c9 ⟨fc,rfl,nn,a5⟩;rw[<-a6.out]at nn;obtain⟨a3,av,rfl,an,au⟩:=nn;have b1:=ad.mono a5;have es:aP w.heap.size c9 (.agg #[.slice a3 (nl R2) av]) R2:=aP.weaken (base:=w9.heap.size) ⟨a3,av,rfl,an,au⟩ ad.below.size;have C:=b1.setr es;obtain⟨fs,e3,ac,_⟩:=b1.vr;have eQ:=ac.cell;have fr3:=ac.frozen;clear er eb kr nr kb ib au an;go_upto_region 11 with(fail)
      refine aat Tryz.f262 11 (aaw w Q2 T) (λ_=>false) 4 1 Ab Ab Ab Ab (iX.of_all (λ_ h=>by cases h) _) ?_ ?_
      ·refine⟨λa' w' F=>⟨_,rfl,wanted_none rfl,(bB rfl (F.keep 7 (Co (some ⟨w.heap.size+4,0,none⟩)) Ab rfl).is (C.vq.isI.mono F.below)).b⟩,?_⟩;refine⟨λa' w' F=>⟨_,rfl,wanted_none rfl,(aau (n:=1) rfl Is.const th).b⟩,?_⟩;refine⟨λa' w' F=>⟨_,rfl,wanted_none rfl,(r7 (AI C.below.size F.below.size) rfl (F.f 0 rfl) (F.f 1 rfl) (a7) (nlb th) hT.out.symm).b⟩,?_⟩;exact trivial
      intro gy wy dT G Gs;generalize c9.setCell ⟨w.heap.size+5,0,none⟩ (.slice a3 (nl R2) av)=w11 at *;obtain⟨v2,e2,n2⟩:∃v,gy 2=v/\aP w.heap.size wy v T:=⟨_,rfl,G 2 48 _ rfl⟩;obtain⟨x2,c2,rfl,a9,cm⟩:=n2;have n2:aP w.heap.size wy (.agg #[.slice x2 (nl T) c2]) T:=⟨x2,c2,rfl,a9,cm⟩;have b2:=C.mono dT;have ej:=b2.setq n2;obtain⟨ff,e0,em,_⟩:=b2.vq;clear G Gs a9 cm;simp only[aaw];simp only[cK,aA,Bu,BZ,Cb,Cg,AN,AQ,AR,AS,e2];refine oD (j:=3) Ab rfl rfl rfl rfl rfl rfl ⟨_,_,_,rfl⟩ em ?_;refine CL Ab ?_ _;go_wp2_with fail
      go_roundw
      case rel=>exact⟨k,Aa,by go_num,by rw[E1.out,E2.out];exact ej⟩
      case measure=>simp[intOf]<;>omega
     ·have ap:r+r+b<n:=by have:=Z.out;have:=hS.out;omega
      have e1:m / 2^k / n=Q2:=by rw[(Y.out.2 ap).1,ax.out]
      have e2:m / 2^k % n=J:=by rw[(Y.out.2 ap).2,Z.out,hS.out]
      have E1:=AF e1;have E2:=AF e2;clear e1 e2;rw[gf Aa];go_wp2_with fail
      go_roundw
      case rel=>exact⟨k,Aa,by go_num,by rw[E1.out,E2.out];exact ad⟩
      case measure=>simp[intOf]<;>omega
end Go.Proofs.YtggfmklppkioeaaGreat
