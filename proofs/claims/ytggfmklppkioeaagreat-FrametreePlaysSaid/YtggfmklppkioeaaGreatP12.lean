/- Trees of frames: the plain law. A tree is its links, in the order in which they were attached. Trees of frames: what keeps them trees. Tracks: rows of operations, and what they make of a track. Trees of frames: what the functions ask of a tree. Oracles of places, rows and maps whose parts have footprints of their own. Maps from texts: what their operations do. Trees of frames in memory: the blocks are named. Trees of frames: the link that holds at a time, the open link. Trees of frames: the frames that are known. Trees of frames: what changes in memory; Detach, Root, New. Trees of frames: Root, New. Names of frames. -/
import Derived.Test.YtggfmklppkioeaaGreatP11
import Derived.MapKept
import Derived.Maps.RangeRun
import Derived.LoopN
import Derived.Deep.LoopGhost
namespace Go.Proofs.YtggfmklppkioeaaGreat
set_option linter.unusedSimpArgs false
set_option linter.unusedVariables false
set_option maxRecDepth 100000
open Go.RowKit
open _root_.Go.RowKit renaming Below → AG
open _root_.Go renaming Calls → AH,MapEntry → Dj,heap_alloc_new → BE,heap_setCell_same → CH
open _root_.Array renaming findIdx?_eq_some_iff_getElem → FG,getElem?_eq_some_iff → A8,getElem?_setIfInBounds → Eh,getElem?_toList → BU,length_toList → Eg
open _root_.Go.RowKit.Below renaming refl → AL
open _root_.Bool renaming eq_false_iff → EM
open _root_.ByteArray renaming empty → ES,toList → ET
open _root_.Go.Ending renaming returned → A4
open _root_.Go.ChangeMaps renaming setBlock → Ew
open _root_.Go.MapKept renaming run_getObj_map → Ev
open _root_.Go.Instr renaming index → DV,lookup → CJ,mapUpdate → D1
open _root_.Go.Lib renaming hid → AF
open _root_.List renaming append_assoc → DG,find?_append → Ff,find?_eq_none → Dp,find?_some → DU,flatMap_append → Df,flatMap_cons → Cq,getElem?_append_right → Bq,getElem?_eq_getElem → AU,getElem?_eq_some_iff → A5,getElem_of_mem → BN,getLast?_eq_getElem? → Fg,length_append → By,length_cons → Bz,length_map → Cf,map_append → Cu,map_cons → Bu,map_map → CG,mem_append → AJ,mem_cons → A3,mem_cons_of_mem → Bg,mem_cons_self → Bj,mem_flatMap → Br,mem_map → Bi,mem_of_find?_eq_some → Dq,mem_of_getElem? → Bb,mem_singleton → Ct,nodup_append → BJ,nodup_cons → Bv,not_mem_nil → DE,pairwise_append → C6,pairwise_cons → C5,pairwise_iff_getElem → DZ,pairwise_map → C0
open _root_.Nat renaming le_refl → AK,lt_or_ge → Bl,lt_trans → Dl,lt_trichotomy → Dz,not_lt_zero → DI,sub_self → Dd,zero_le → Bc
open _root_.Option renaming bind_some → Em,getD_some → DC,map_none → EK,map_some → BF,some → A9
open _root_.Go.Result renaming andThen → AX
open _root_.Go.Sem renaming run_bind → AO,run_pure → BC
open _root_.Go.Proofs.Tryz renaming prog → AE,underlying142 → EQ,underlying150 → Fh
open _root_.Go.Value renaming bool → Ci,string → BK
section
open Classical
abbrev Nm:=ByteArray
structure Lk where
 par:Nm
 fr:Int
 un:Int
 st:Bool
 po:Pq
 tr:List St
abbrev Tr:=List (Nm×Lk)
def Lk.has(x:Lk)(a:Int):Bool:=decide (x.fr<=a) && (decide (x.un= -1) || decide (a<x.un))
noncomputable def lks(R:Tr)(c:Nm):List Lk:=(R.filter λq=>decide (q.1=c)).map (·.2)
noncomputable def tAt(R:Tr)(c:Nm)(a:Int):Option Lk:=(lks R c).find? (·.has a)
noncomputable def par(R:Tr)(a:Int)(c:Nm):Option Nm:=(tAt R c a).map (·.par)
theorem mX(c:Nm):lks [] c=[]:=rfl
theorem gX(q:Nm×Lk)(R:Tr)(c:Nm):lks (q::R) c=if q.1=c then q.2::lks R c else lks R c:=by
 unfold lks;by_cases h:q.1=c
 ·rw[if_pos h,List.filter_cons_of_pos Az];rfl
 ·rw[if_neg h,List.filter_cons_of_neg Az]
theorem gt(R Q:Tr)(c:Nm):lks (R++Q) c=lks R c++lks Q c:=by unfold lks;rw[List.filter_append,Cu]
variable{R:Tr}
theorem bI{c:Nm}{x:Lk}:x∈lks R c↔(c,x)∈R:=by
 unfold lks;constructor
 ·intro h;obtain⟨q,h1,rfl⟩:=Bi.1 h;obtain⟨h2,h3⟩:=List.mem_filter.1 h1;have e:q.1=c:=by simpa using h3
  subst e;exact h2
 ·intro h;exact Bi.2 ⟨(c,x),List.mem_filter.2 ⟨h,Ag⟩,rfl⟩
theorem aaW(R:Tr)(c:Nm):(lks R c).length<=R.length:=by unfold lks;rw[Cf];exact List.length_filter_le _ _
def gY(L:List Lk):Prop:=L.Pairwise λx y=>x.un≠ -1/\x.un<=y.fr
inductive Reach(R:Tr)(a:Int):Nm->Nm->Prop
 | refl (x:Nm):Reach R a x x
 | step {x y z:Nm} (h:par R a x=some y) (t:Reach R a y z):Reach R a x z
variable{a:Int}{x y:Nm}
theorem Reach.snoc{z:Nm}(h:Reach R a x y)(k:par R a y=some z):Reach R a x z:=by
 induction h with
 | refl x=>exact .step k (.refl _)
 | step h _ ih=>exact .step h (ih k)
theorem Reach.trans{z:Nm}(h:Reach R a x y)(k:Reach R a y z):Reach R a x z:=by
 induction h with
 | refl x=>exact k
 | step h _ ih=>exact .step h (ih k)
def eY(R:Tr)(a:Int):Nm->Prop:=Acc λy x=>par R a x=some y
theorem eY.no_loop(h:eY R a x):∀y,par R a x=some y->¬Reach R a y x:=by
 induction h with
 | intro x _ C=>
  intro y hy G
  cases G with
  | refl=>exact C _ hy _ hy (.refl _)
  | step h t=>exact C y hy _ h (t.snoc hy)
theorem eY.tail(h:eY R a x)(k:par R a x=some y):eY R a y:=Acc.inv h k
theorem eY.reach(h:eY R a x)(k:Reach R a x y):eY R a y:=by
 induction k with
 | refl=>exact h
 | step e _ ih=>exact ih (h.tail e)
theorem eY.mono{C:Tr}{a':Int}(hp:∀x y,par C a' x=some y->par R a x=some y)(h:eY R a x):eY C a' x:=by
 induction h with
 | intro x _ G=>exact .intro x (λy hy=>G y (hp x y hy))
theorem eY.add{G:Tr}{c p:Nm}(hc:∀x,x≠c->par G a x=par R a x)(hn:par G a c=some p)(hl:∀x,eY R a x)(C:¬Reach R a p c):∀x,eY G a x:=by
 have h1:∀x,eY R a x->¬Reach R a x c->eY G a x:=by
  intro x h
  induction h with
  | intro x _ H=>
   intro C;refine .intro x (λy hy=> ?_);have J:x≠c:=λe=>C (e▸ .refl _)
   have hy:par R a x=some y:=by rw[<-hc x J];exact hy
   exact H y hy (λI=>C (.step hy I))
 have h2:eY G a c:=.intro c (λy hy=>by
  have hy:par G a c=some y:=hy;rw[hn]at hy;injection hy with hy;subst hy;exact h1 p (hl p) C)
 intro x;have h:=hl x
 induction h with
 | intro x _ H=>
  by_cases e:x=c
  ·subst e;exact h2
  ·exact .intro x (λy hy=>H y (by rw[<-hc x e];exact hy))
noncomputable def up(R:Tr)(a:Int):Nat->Nm->Option Nm
 | 0,x=>some x
 | n+1,x=>(par R a x).bind (up R a n)
theorem par_mem(h:par R a x=some y):x∈R.map (·.1):=by
 unfold par tAt at h
 cases hf:(lks R x).find? (·.has a)with
 | none=>rw[hf]at h;cases h
 | some q=>exact Bi.2 ⟨(x,q),bI.1 (Dq hf),rfl⟩
theorem jA:∀ {l m:List Nm},l.Nodup->(∀x∈l,x∈m)->l.length<=m.length
 | [],_,_,_=>Bc _
 | x::l,m,hn,hs=>by
  obtain⟨h1,h2⟩:=Bv.1 hn;obtain⟨s,t,rfl⟩:=List.append_of_mem (hs x (Bj ..));have h3:∀y∈l,y∈s++t:=λy hy=>by
   have h4:=hs y (Bg _ hy);rcases AJ.1 h4 with h5 | h5
   ·exact AJ.2 (.inl h5)
   ·rcases A3.1 h5 with h6 | h6
    ·subst h6;exact absurd hy h1
    ·exact AJ.2 (.inr h6)
  have h4:=jA h2 h3;simp only[Bz,By]at h4⊢;omega
theorem eY.bound(h:eY R a x):∃(l:List Nm)(y:Nm),l.Nodup/\(∀z∈l,(z∈R.map (·.1)/\par R a z≠none)/\Reach R a x z)/\up R a l.length x=some y/\par R a y=none/\Reach R a x y:=by
 induction h with
 | intro x G I=>
  cases hp:par R a x with
  | none=>exact⟨[],x,List.nodup_nil,λz hz=>(by cases hz),rfl,hp,.refl _⟩
  | some z=>
   obtain⟨l,y,h1,h2,h3,h4,h5⟩:=I z hp;have G:eY R a x:=.intro x G;refine⟨x::l,y,Bv.2 ⟨λH=>G.no_loop z hp (h2 x H).2,h1⟩,λq C=> ?_,?_,h4,.step hp h5⟩
   ·rcases A3.1 C with rfl | C
    ·exact⟨⟨par_mem hp,by rw[hp];simp⟩,.refl _⟩
    ·exact⟨(h2 q C).1,.step hp (h2 q C).2⟩
   ·simp only[Bz,up,hp,Em];exact h3
theorem eY.root(h:eY R a x):∃n y,n<=R.length/\up R a n x=some y/\par R a y=none:=by
 obtain⟨l,y,h1,h2,h3,h4,_⟩:=h.bound;exact⟨l.length,y,by have:=jA h1 (λz hz=>(h2 z hz).1.1);rwa [Cf]at this,h3,h4⟩
theorem mY:∀ {n:Nat} {x y:Nm},up R a n x=some y->Reach R a x y
 | 0,x,y,h=>by simp only[up,A9.injEq]at h;subst h;exact .refl _
 | n+1,x,y,h=>by
  simp only[up]at h
  cases hp:par R a x with
  | none=>rw[hp]at h;cases h
  | some z=>rw[hp]at h;exact .step hp (mY h)
end
section
open Classical
abbrev fw:Int:=1099511627776
variable{x:Lk}{a:Int}
theorem dU:x.has a=true↔x.fr<=a/\(x.un= -1\/a<x.un):=by simp[Lk.has]
theorem aaX:∀ {L:List Lk} {x:Lk} {a:Int},gY L->x∈L->x.has a=true->L.find? (·.has a)=some x
 | [],_,_,_,h,_=>by cases h
 | y::L,x,a,hr,C,hx=>by
  obtain⟨h1,h2⟩:=C5.1 hr;rcases A3.1 C with rfl | C
  ·rw[List.find?_cons_of_pos (by exact hx)]
  ·have h3:=h1 x C;have h4:=dU.1 hx;have hy:¬(y.has a=true):=λhy=>by
    have h5:=dU.1 hy;rcases h5.2 with h6 | h6
    ·exact h3.1 h6
    ·omega
   rw[List.find?_cons_of_neg (by exact hy)];exact aaX h2 C hx
variable{R:Tr}{c:Nm}
theorem tAt_of(hr:gY (lks R c))(C:(c,x)∈R)(G:x.has a=true):tAt R c a=some x:=aaX hr (bI.2 C) G
theorem pq(h:tAt R c a=some x):(c,x)∈R/\x.has a=true:=by
 unfold tAt at h;exact⟨bI.1 (Dq h),by have:=DU h;exact this⟩
theorem xz(h:∀x,(c,x)∈R->¬(x.has a=true)):tAt R c a=none:=by
 unfold tAt;exact Dp.2 (λx C=>h x (bI.1 C))
theorem par_of(hr:gY (lks R c))(C:(c,x)∈R)(G:x.has a=true):par R a c=some x.par:=by unfold par;rw[tAt_of hr C G];rfl
theorem pt{y:Nm}(h:par R a c=some y):∃x,(c,x)∈R/\x.has a=true/\x.par=y:=by
 unfold par at h
 cases hf:tAt R c a with
 | none=>rw[hf]at h;cases h
 | some x=>rw[hf]at h;injection h with h;exact⟨x,(pq hf).1,(pq hf).2,h⟩
variable{f:Int}
theorem xA(hr:∀c,gY (lks R c))(G:f<=a){x y:Nm}(h:Reach R a x y):∃s,f<=s/\s<=a/\(s=f\/∃q∈R,q.2.fr=s)/\∀t,s<=t->t<=a->Reach R t x y:=by
 induction h with
 | refl x=>exact⟨f,Int.le_refl _,G,.inl rfl,λ_ _ _=>.refl _⟩
 | @step x y z h _ ih=>
  obtain⟨s,h1,h2,h3,h4⟩:=ih;obtain⟨q,I,J,rfl⟩:=pt h;have h5:=dU.1 J;have hp:∀t,q.fr<=t->t<=a->par R t x=some q.par:=λt h6 C=>par_of (hr x) I (dU.2 ⟨h6,by rcases h5.2 with H | H;exact .inl H;exact .inr Aa⟩)
  by_cases hs:q.fr<=s
  ·exact⟨s,h1,h2,h3,λt h6 C=>.step (hp t Aa C) (h4 t h6 C)⟩
  ·exact⟨q.fr,Aa,h5.1,.inr ⟨(x,q),I,rfl⟩,λt h6 C=>.step (hp t h6 C) (h4 t Aa C)⟩
structure TOk(R:Tr):Prop where
 row:∀c,gY (lks R c)
 tm:∀q∈R,0<=q.2.fr/\q.2.fr<=fw/\(q.2.un= -1\/q.2.fr<q.2.un/\q.2.un<=fw)
 acy:∀a x,eY R a x
 good:∀q∈R,GoodS q.2.tr
 pose:∀q∈R,q.2.st=true->q.2.po.good/\q.2.po.ok 2
theorem TOk.nil:TOk [] where
 row:=λc=>by rw[mX];exact .nil
 tm:=λq h=>by cases h
 acy:=λa x=>.intro x (λy h=>by obtain⟨z,hz,_⟩:=pt h;cases hz)
 good:=λq h=>by cases h
 pose:=λq h=>by cases h
def Cyc(R:Tr)(c p:Nm)(f:Int):Prop:=Reach R f p c\/∃q∈R,f<q.2.fr/\Reach R q.2.fr p c
def eu(p:Nm)(f:Int):Lk:=⟨p,f, -1,false,Pq.zero,[]⟩
def fx(R:Tr)(c p:Nm)(f:Int):Tr:=R++ [(c,eu p f)]
theorem iQ(R:Tr)(c p:Nm)(f:Int)(y:Nm):lks (fx R c p f) y=if y=c then lks R y++ [eu p f]else lks R y:=by
 unfold fx;rw[gt,gX,mX];by_cases h:c=y
 ·subst h;rw[if_pos rfl,if_pos rfl]
 ·rw[if_neg h,if_neg (λe=>h e.symm),List.append_nil]
theorem mZ{p:Nm}(y:Nm)(a:Int):par (fx R c p f) a y=if y=c then(match par R a y with | some z=>some z | none=>if f<=a then some p else none)else par R a y:=by
 unfold par tAt;rw[iQ];by_cases h:y=c
 ·rw[if_pos h,if_pos h,Ff]
  cases hf:(lks R y).find? (·.has a)with
  | some x=>rfl
  | none=>
   by_cases ha:f<=a
   ·have:(eu p f).has a=true:=dU.2 ⟨ha,.inl rfl⟩;simp only[Option.none_or,List.find?,this,if_pos ha];rfl
   ·have:(eu p f).has a=false:=EM.2 (λe=>ha (dU.1 e).1);simp only[Option.none_or,List.find?,this,if_neg ha];rfl
 ·rw[if_neg h,if_neg h]
theorem TOk.att(h:TOk R){p:Nm}(h0:0<=f)(h1:f<=fw)(G:∀x∈lks R c,x.un≠ -1/\x.un<=f)(hc:¬Cyc R c p f):TOk (fx R c p f) where
 row:=λy=>by
  rw[iQ];split
  ·rename_i e;subst e;exact C6.2 ⟨h.row _,List.pairwise_singleton _ _,λx J z hz=>by
    simp only[Ct]at hz;subst hz;exact G x J⟩
  ·exact h.row y
 tm:=λq C=>by
  rcases AJ.1 C with C | C
  ·exact h.tm q C
  ·simp only[Ct]at C;subst C;exact⟨h0,h1,.inl rfl⟩
 acy:=λa x=>by
  by_cases ha:f<=a
  ·have hn:par R a c=none:=by
    unfold par;rw[xz (λz hz H=> ?_)];rfl;have h2:=G z (bI.2 hz);rcases(dU.1 H).2 with h3 | h3
    ·exact h2.1 h3
    ·omega
   refine eY.add (c:=c) (p:=p) (λy hy=>by rw[mZ,if_neg hy]) (by rw[mZ,if_pos rfl,hn];simp[ha]) (h.acy a) (λI=> ?_) x;obtain⟨s,h2,h3,h4,h5⟩:=xA h.row ha I;have hs:=h5 s (Int.le_refl _) h3;rcases h4 with rfl | ⟨q,C,rfl⟩
   ·exact hc (.inl hs)
   ·by_cases e:q.2.fr=f
    ·rw[e]at hs;exact hc (.inl hs)
    ·exact hc (.inr ⟨q,C,Aa,hs⟩)
  ·refine(h.acy a x).mono (λy z hy=> ?_);rw[mZ]at hy;by_cases e:y=c
   ·rw[if_pos e]at hy
    cases hp:par R a y with
    | some w=>rw[hp]at hy;exact hy
    | none=>rw[hp]at hy;simp[ha]at hy
   ·rw[if_neg e]at hy;exact hy
 good:=λq C=>by
  rcases AJ.1 C with C | C
  ·exact h.good q C
  ·simp only[Ct]at C;subst C;exact GoodS.nil
 pose:=λq C hs=>by
  rcases AJ.1 C with C | C
  ·exact h.pose q C hs
  ·simp only[Ct]at C;subst C;cases hs
theorem cY(A B:Tr)(c:Nm)(x:Lk)(y:Nm):lks (A++(c,x)::B) y=if y=c then lks A y++x::lks B y else lks A y++lks B y:=by
 rw[gt,gX];by_cases h:c=y
 ·subst h;rw[if_pos rfl,if_pos rfl]
 ·rw[if_neg h,if_neg (λe=>h e.symm)]
variable{A B:Tr}
theorem qQ{C:Lk}(G:C.par=x.par)(H:C.fr=x.fr)(I:C.un=x.un)(a:Int)(y:Nm):par (A++(c,C)::B) a y=par (A++(c,x)::B) a y:=by
 have J:C.has a=x.has a:=by unfold Lk.has;rw[H,I]
 unfold par tAt;rw[cY,cY];split
 ·rw[Ff,Ff]
  cases (lks A y).find? (·.has a)with
  | some z=>rfl
  | none=>
   simp only[Option.none_or,List.find?,J]
   cases x.has a with
   | true=>simp[G]
   | false=>rfl
 ·rfl
theorem TOk.same{C:Lk}(h:TOk (A++(c,x)::B))(U:C.par=x.par)(I:C.fr=x.fr)(J:C.un=x.un)(V:GoodS C.tr)(hp:C.st=true->C.po.good/\C.po.ok 2):TOk (A++(c,C)::B):=by
 have K:∀q,q∈A++(c,C)::B->q∈A++(c,x)::B\/q=(c,C):=λq G=>by
  rcases AJ.1 G with h1 | h1
  ·exact .inl (AJ.2 (.inl h1))
  ·rcases A3.1 h1 with h2 | h2
   ·exact .inr h2
   ·exact .inl (AJ.2 (.inr (Bg _ h2)))
 have Y:=h.tm (c,x) (AJ.2 (.inr (Bj ..)));refine⟨λy=> ?_,λq G=> ?_,λa y=>(h.acy a y).mono (λu v H=>by rw[qQ U I J]at H;exact H),λq G=> ?_,λq G=> ?_⟩
 ·have h1:=h.row y;rw[cY]at h1⊢;split
  ·rename_i e;rw[if_pos e]at h1;obtain⟨Z,p2,P⟩:=C6.1 h1;obtain⟨p4,p5⟩:=C5.1 p2;refine C6.2 ⟨Z,C5.2 ⟨λz hz=> ?_,p5⟩,λu H z hz=> ?_⟩
   ·rw[J];exact p4 z hz
   ·rcases A3.1 hz with rfl | hz
    ·rw[I];exact P u H x (Bj ..)
    ·exact P u H z (Bg _ hz)
  ·rename_i e;rw[if_neg e]at h1;exact h1
 ·rcases K q G with h1 | rfl
  ·exact h.tm q h1
  ·show 0<=C.fr/\_;rw[I,J];exact Y
 ·rcases K q G with h1 | rfl
  ·exact h.good q h1
  ·exact V
 ·rcases K q G with h1 | rfl
  ·exact h.pose q h1
  ·exact hp
theorem j3(hr:gY (lks (A++(c,x)::B) c))(C:x.un= -1):lks B c=[]:=by
 rw[cY,if_pos rfl]at hr;obtain⟨_,G,_⟩:=C6.1 hr;obtain⟨H,_⟩:=C5.1 G
 cases hB:lks B c with
 | nil=>rfl
 | cons z l=>exact absurd C (H z (by rw[hB];exact Bj ..)).1
theorem aaY{u:Int}(hr:∀y,gY (lks (A++(c,x)::B) y))(H:x.un= -1)(a:Int)(y:Nm):
  par (A++(c,{x with un:=u})::B) a y=if y=c/\x.fr<=a/\u<=a/\u≠ -1 then none else par (A++(c,x)::B) a y:=by
 have hB:=j3 (hr c) H;unfold par tAt;rw[cY,cY];by_cases hy:y=c
 ·subst hy;have h1:=hr y;rw[cY,if_pos rfl]at h1;obtain⟨_,_,J⟩:=C6.1 h1;rw[if_pos rfl,if_pos rfl,hB,Ff,Ff]
  cases hf:(lks A y).find? (·.has a)with
  | some z=>
   have hz:=Dq hf;have G:z.has a=true:=by have:=DU hf;exact this
   have h3:=J z hz x (Bj ..);have h4:=dU.1 G;rw[if_neg (λC=>by rcases h4.2 with h5 | h5;exact h3.1 h5;omega)];rfl
  | none=>
   by_cases hc:x.fr<=a/\u<=a/\u≠ -1
   ·have:({x with un:=u}:Lk).has a=false:=EM.2 (λe=>by have:=(dU.1 e).2;simp only at this;omega);rw[if_pos ⟨rfl,hc⟩];simp[List.find?,this]
   ·rw[if_neg (λC=>hc C.2)];have:({x with un:=u}:Lk).has a=x.has a:=by
     have I:({x with un:=u}:Lk).has a=true↔x.has a=true:=by
      rw[dU,dU];simp only[H];constructor
      ·rintro⟨h1,_⟩;exact⟨h1,.inl trivial⟩
      ·rintro⟨h1,_⟩;exact⟨h1,Aa⟩
     exact Bool.eq_iff_iff.2 I
    simp only[Option.none_or,List.find?,this];cases x.has a<;>rfl
 ·rw[if_neg hy,if_neg hy,if_neg (λC=>hy C.1)]
theorem TOk.det{u:Int}(h:TOk (A++(c,x)::B))(J:x.un= -1)(h1:x.fr<u)(h2:u<=fw):TOk (A++(c,{x with un:=u})::B):=by
 have hB:=j3 (h.row c) J;have I:∀q,q∈A++(c,{x with un:=u})::B->q∈A++(c,x)::B\/q=(c,{x with un:=u}):=λq G=>by
  rcases AJ.1 G with h1 | h1
  ·exact .inl (AJ.2 (.inl h1))
  ·rcases A3.1 h1 with h2 | h2
   ·exact .inr h2
   ·exact .inl (AJ.2 (.inr (Bg _ h2)))
 have C:(c,x)∈A++(c,x)::B:=AJ.2 (.inr (Bj ..));have H:=h.tm (c,x) C;refine⟨λy=> ?_,λq G=> ?_,λa y=>(h.acy a y).mono (λs t hs=> ?_),λq G=> ?_,λq G=> ?_⟩
 ·have h3:=h.row y;rw[cY]at h3⊢;split
  ·rename_i e;subst e;rw[if_pos rfl,hB]at h3;rw[hB];obtain⟨P,_,U⟩:=C6.1 h3;exact C6.2 ⟨P,List.pairwise_singleton _ _,λV K z hz=>by
    simp only[Ct]at hz;subst hz;exact U V K x (Bj ..)⟩
  ·rename_i e;rw[if_neg e]at h3;exact h3
 ·rcases I q G with h3 | rfl
  ·exact h.tm q h3
  ·exact⟨H.1,H.2.1,.inr ⟨h1,h2⟩⟩
 ·rw[aaY h.row J]at hs;split at hs
  ·cases hs
  ·exact hs
 ·rcases I q G with h3 | rfl
  ·exact h.good q h3
  ·exact h.good (c,x) C
 ·rcases I q G with h3 | rfl
  ·exact h.pose q h3
  ·exact h.pose (c,x) C
end
structure ROp where
 k:Int
 x:RSt
def ROp.r(o:ROp):Int:=o.k.tmod 4
def ROp.qs(o:ROp):List Vp:=.val (.int .u8 o.k)::o.x.qs
section
variable {ρ:Rho} {n m m' k j j':Nat} {t e:TypeId} {l:Leaf}
theorem QL.app{ls C:List Leaf}{qs qs':List Vp}(h:QL ρ ls qs)(G:QL ρ C qs'):QL ρ (ls++C) (qs++qs'):=by
 induction ls generalizing qs with
 | nil=>cases qs with
  | nil=>exact G
  | cons=>exact h.elim
 | cons l ls ih=>cases qs with
  | nil=>exact h.elim
  | cons q qs=>exact⟨h.1,ih h.2⟩
end
section
variable {ρ:Rho} {n n' m u n0 n1:Nat} {l la lc:Leaf} {S:List St} {a c:Int} {z y:St} {ns k0 k1:List Nat} {r:SV}
end
section
open Classical
def PlAt(R:Tr)(c:Nm)(a:Int)(k:Nat)(x:Lk):Prop:=R[k]? =some (c,x)/\x.has a=true/\∀(i:Nat)(q:Nm×Lk),i<k->R[i]? =some q->¬(q.1=c/\q.2.has a=true)
def PlNo(R:Tr)(c:Nm)(a:Int):Prop:=∀(i:Nat)(q:Nm×Lk),R[i]? =some q->¬(q.1=c/\q.2.has a=true)
theorem AC{p:Prop}(h:p:=by rw[AU hi,e]):p:=h
variable{R:Tr}{c:Nm}
theorem PlNo.tAt{a:Int}(h:PlNo R c a):tAt R c a=none:=xz (λx G C=>by
 obtain⟨i,hi,e⟩:=BN G;exact h i (c,x) AC ⟨rfl,C⟩)
variable{k:Nat}{x:Lk}
theorem PlAt.tAt{a:Int}(hr:gY (lks R c))(h:PlAt R c a k x):tAt R c a=some x:=tAt_of hr (Bb h.1) h.2.1
def eA(R:Tr)(c:Nm)(k:Nat)(x:Lk):Prop:=R[k]? =some (c,x)/\x.un= -1
def oe(R:Tr)(c:Nm):Prop:=∀(i:Nat)(q:Nm×Lk),R[i]? =some q->¬(q.1=c/\q.2.un= -1)
theorem eW{α:Type}{R:List α}{q:α}(h:R[k]? =some q):∃A B,R=A++q::B/\A.length=k:=by
 obtain⟨C,e⟩:=A5.1 h;exact⟨R.take k,R.drop (k+1),by rw[<-e,<-List.drop_eq_getElem_cons C,List.take_append_drop],by rw[List.length_take];omega⟩
theorem eA.last(hr:gY (lks R c))(h:eA R c k x):(lks R c).getLast? =some x:=by
 obtain⟨A,B,rfl,_⟩:=eW h.1;rw[cY,if_pos rfl,j3 hr h.2,List.getLast?_append];rfl
theorem oe.last(h:oe R c)(G:(lks R c).getLast? =some x):x.un≠ -1:=λe=>by
 obtain⟨i,hi,C⟩:=BN (bI.1 (List.mem_of_getLast? G));exact h i (c,x) (by rw[AU hi,C]) ⟨rfl,e⟩
variable{f:Int}
theorem ended{L:List Lk}(hr:gY L)(hn:∀x∈L,x.un≠ -1)(G:∀x∈L,x.fr<x.un)(hl:∀x,L.getLast? =some x->x.un<=f):∀x∈L,x.un<=f:=by
 induction L with
 | nil=>intro x C;cases C
 | cons y L H=>
  obtain⟨h1,h2⟩:=C5.1 hr
  cases L with
  | nil=>
   intro x C;simp only[Ct]at C;subst C;exact hl x rfl
  | cons z L=>
   have H:=H h2 (λx C=>hn x (Bg _ C)) (λx C=>G x (Bg _ C)) (λx C=>hl x (by rw[List.getLast?_cons_cons];exact C));intro x C;rcases A3.1 C with rfl | C
   ·have h3:=(h1 z (Bj ..)).2;have h4:=G z (Bg _ (Bj ..));have h5:=H z (Bj ..);omega
   ·exact H x C
def aM(R:Tr)(c:Nm):Prop:=∃q∈R,q.1=c\/q.2.par=c
def bN(P:Nm->Prop)(n:Nat):Prop:=∃l:List Nm,l.Nodup/\(∀x,x∈l↔P x)/\l.length=n
variable{P:Nm->Prop}{n:Nat}
theorem bN.uniq{m:Nat}(h:bN P n)(k:bN P m):n=m:=by
 obtain⟨l,h1,h2,rfl⟩:=h;obtain⟨G,k1,k2,rfl⟩:=k;exact Nat.le_antisymm (jA h1 (λx C=>(k2 x).2 ((h2 x).1 C))) (jA k1 (λx C=>(h2 x).2 ((k2 x).1 C)))
theorem bN.add(h:bN P n)(hc:¬P c):bN (λx=>P x\/x=c) (n+1):=by
 obtain⟨l,h1,h2,rfl⟩:=h;refine⟨c::l,Bv.2 ⟨λC=>hc ((h2 c).1 C),h1⟩,λx=> ?_,rfl⟩;rw[A3,h2];exact or_comm
theorem bN.same{Q:Nm->Prop}(h:bN P n)(e:∀x,P x↔Q x):bN Q n:=by
 obtain⟨l,h1,h2,h3⟩:=h;exact⟨l,h1,λx=>(h2 x).trans (e x),h3⟩
inductive AttS(isN:Nm->Prop)(R:Tr)(c p:Nm)(f:Int):Tr->Int->Prop
 | name (h:¬(isN c/\isN p)):AttS isN R c p f R 5
 | time (h:isN c/\isN p) (ht:f<0\/fw<f\/(∃k x,eA R c k x)\/∃x∈lks R c,f<x.un):AttS isN R c p f R 17
 | full (h:isN c/\isN p) (h0:0<=f) (h1:f<=fw) (h2:oe R c) (h3:∀x∈lks R c,x.un<=f) (n:Nat) (hn:bN (λx=>aM R x\/x=c\/x=p) n) (hf:24<n\/64<=(lks R c).length):AttS isN R c p f R 15
 | cycle (h:isN c/\isN p) (h0:0<=f) (h1:f<=fw) (h2:oe R c) (h3:∀x∈lks R c,x.un<=f) (n:Nat) (hn:bN (λx=>aM R x\/x=c\/x=p) n) (hf:n<=24/\(lks R c).length<64) (hc:Cyc R c p f):AttS isN R c p f R 19
 | ok (h:isN c/\isN p) (h0:0<=f) (h1:f<=fw) (h2:oe R c) (h3:∀x∈lks R c,x.un<=f) (n:Nat) (hn:bN (λx=>aM R x\/x=c\/x=p) n) (hf:n<=24/\(lks R c).length<64) (hc:¬Cyc R c p f):AttS isN R c p f (fx R c p f) 0
variable{isN:Nm->Prop}
theorem AttS.tok{C:Tr}{p:Nm}{e:Int}(G:TOk R)(h:AttS isN R c p f C e):TOk C:=by
 cases h with
 | ok _ h0 h1 h2 h3 _ _ _ hc=>
  refine G.att h0 h1 (λx H=>⟨λe=> ?_,h3 x H⟩) hc;obtain⟨i,hi,I⟩:=BN (bI.1 H);exact h2 i (c,x) (by rw[AU hi,I]) ⟨rfl,e⟩
 | _=>exact G
theorem known_att{p:Nm}(x:Nm):aM (fx R c p f) x↔aM R x\/x=c\/x=p:=by
 unfold aM fx;constructor
 ·rintro⟨q,C,h⟩;rcases AJ.1 C with C | C
  ·exact .inl ⟨q,C,h⟩
  ·simp only[Ct]at C;subst C;rcases h with h | h
   ·exact .inr (.inl h.symm)
   ·exact .inr (.inr h.symm)
 ·rintro(⟨q,C,h⟩ | rfl | rfl)
  ·exact⟨q,AJ.2 (.inl C),h⟩
  ·exact⟨_,AJ.2 (.inr (Ct.2 rfl)),.inl rfl⟩
  ·exact⟨_,AJ.2 (.inr (Ct.2 rfl)),.inr rfl⟩
theorem known_mid{A B:Tr}{G:Lk}(e:G.par=x.par)(y:Nm):aM (A++(c,G)::B) y↔aM (A++(c,x)::B) y:=by
 have g:∀ {x G:Lk},G.par=x.par->aM (A++(c,G)::B) y->aM (A++(c,x)::B) y:=by
  rintro x G e ⟨q,C,h⟩;rcases AJ.1 C with C | C
  ·exact⟨q,AJ.2 (.inl C),h⟩
  ·rcases A3.1 C with rfl | C
   ·exact⟨(c,x),AJ.2 (.inr (Bj ..)),by rw[<-e];exact h⟩
   ·exact⟨q,AJ.2 (.inr (Bg _ C)),h⟩
 exact⟨g e,g e.symm⟩
structure TSm(R:Tr):Prop where
 cnt:∃n,n<=24/\bN (aM R) n
 per:∀c,(lks R c).length<=64
theorem TSm.nil:TSm []:=⟨⟨0,th,[],List.nodup_nil,λx=>⟨λh=>(by cases h),λ⟨q,h,_⟩=>(by cases h)⟩,rfl⟩,λc=>by rw[mX];exact Bc _⟩
theorem AttS.tsm{C:Tr}{p:Nm}{e:Int}(G:TSm R)(h:AttS isN R c p f C e):TSm C:=by
 cases h with
 | ok _ h0 h1 h2 h3 n hn hf hc=>
  refine⟨⟨n,hf.1,hn.same (λx=>(known_att x).symm)⟩,λy=> ?_⟩;rw[iQ];split
  ·rename_i e;subst e;rw[By];have:=hf.2;simp only[Bz,List.length_nil];omega
  ·exact G.per y
 | _=>exact G
theorem TSm.mid{A B:Tr}{G:Lk}(h:TSm (A++(c,x)::B))(e:G.par=x.par):TSm (A++(c,G)::B):=by
 obtain⟨⟨n,h1,h2⟩,h3⟩:=h;refine⟨⟨n,h1,h2.same (λy=>(known_mid e y).symm)⟩,λy=> ?_⟩;have h4:=h3 y;rw[cY]at h4⊢;split
 ·rename_i C;rw[if_pos C]at h4;simpa using h4
 ·rename_i C;rw[if_neg C]at h4;exact h4
end
section
variable {P:Program} {w:World} {t kt et:TypeId} {b clock:Nat} {es:Array Dj} {c:ByteArray}
theorem uI(G:P.underlying kt=some .string)(C:Bool):(Instr.checkKey C 10000 kt (.string c)).run P w= .ok () w:=by
 rw[Instr.checkKey];simp[AO,run_underlying G,AX]
theorem qR{r:Option (Nat×Value)}(ht:P.underlying t=some (.map kt et))(C:P.underlying kt=some .string)(hb:w.heap[b]? =some (.map es clock))(hf:Instr.findNow .string (.string c) es.toList 0=some r){z:Value}(hz:(zeroValue et).run P w= .ok z w):
  (CJ t (.map (some b)) (.string c) false).run P w= .ok (match r with | some (_,v)=>v | none=>z) w:=by
 unfold CJ Instr.findKey;simp only[AO,run_underlying ht,AX,getObj,Sem.run,hb,uI C,run_underlying C,hf]
 cases r with
 | none=>simp[AO,hz,AX,hf]
 | some x=>simp[AO,AX,hf]
end
section
variable {ρ:Rho} {n m k j:Nat} {t T e:TypeId} {B:Blk} {w:World} {qs:List Vp} {q:Vp} {l:Leaf}
end
section
open Go.MapKept
def dt(w:World)(b:Nat)(l:List (ByteArray×Value)):Prop:=∃(es:Array Dj)(clock:Nat),w.heap[b]? =some (.map es clock)/\Stamped es clock/\es.toList.map (λe=>(e.key,e.val))=l.map λp=>(BK p.1,p.2)
open Classical in
noncomputable def qT (l:List (ByteArray×Value)) (c:ByteArray) (v:Value):List (ByteArray×Value):=if c∈l.map (·.1)then l.map (fun p=>if p.1=c then(c,v)else p)else l++ [(c,v)]
section
variable {w w':World} {b clock:Nat} {l:List (ByteArray×Value)} {es:Array Dj} {c:ByteArray} {v:Value} {P:Program} {t kt et:TypeId}
theorem m7(C:es.toList.map (λe=>(e.key,e.val))=l.map λp=>(BK p.1,p.2))(j:Nat):(es.toList[j]?).map (λe=>(e.key,e.val))=(l[j]?).map λp=>(BK p.1,p.2):=by
 have:=congrArg (λl:List (Value×Value)=>l[j]?) C;simpa using this
variable{j:Nat}{e:Dj}
theorem j4(C:es.toList.map (λe=>(e.key,e.val))=l.map λp=>(BK p.1,p.2))(G:es.toList[j]? =some e):∃p,l[j]? =some p/\e.key= .string p.1/\e.val=p.2:=by
 have h:=m7 C j;rw[G]at h
 cases h2:l[j]? with
 | none=>rw[h2]at h;cases h
 | some p=>
  rw[h2]at h;simp only[BF,A9.injEq,Prod.mk.injEq]at h;exact⟨p,rfl,h.1,h.2⟩
theorem pu{p:ByteArray×Value}(C:es.toList.map (λe=>(e.key,e.val))=l.map λp=>(BK p.1,p.2))(G:l[j]? =some p):∃e,es.toList[j]? =some e/\e.key= .string p.1/\e.val=p.2:=by
 have h:=m7 C j;rw[G]at h
 cases h2:es.toList[j]? with
 | none=>rw[h2]at h;cases h
 | some e=>
  rw[h2]at h;simp only[BF,A9.injEq,Prod.mk.injEq]at h;exact⟨e,rfl,h.1,h.2⟩
theorem ents_key(C:es.toList.map (λe=>(e.key,e.val))=l.map λp=>(BK p.1,p.2)):∀x∈es.toList,IsKey .string x.key:=λx H=>by
 obtain⟨j,G,e⟩:=BN H;obtain⟨p,_,h,_⟩:=j4 C (j:=j) (e:=x) (by rw[AU G,e]);rw[h];trivial
theorem oh(he:es.toList.map (λe=>(e.key,e.val))=l.map λp=>(BK p.1,p.2))(c:ByteArray):
  (Instr.findNow .string (.string c) es.toList 0=some none/\c∉l.map (·.1)/\∀x∈es.toList,x.key≠ .string c)\/∃j e v,Instr.findNow .string (.string c) es.toList 0=some (some (j,v))/\es[j]? =some e/\e.key= .string c/\e.val=v/\l[j]? =some (c,v):=by
 rcases findNow_spec (d:=.string) (k:=.string c) trivial es.toList 0 (ents_key he)with⟨h1,h2⟩ | ⟨j,e,h1,h2,h3⟩
 ·refine .inl ⟨h1,λhm=> ?_,h2⟩;obtain⟨p,hp,rfl⟩:=Bi.1 hm;obtain⟨j,hj,e⟩:=BN hp;obtain⟨x,k1,k2,_⟩:=pu he (j:=j) (p:=p) (by rw[AU hj,e]);exact h2 x (Bb k1) k2
 ·rw[Nat.zero_add]at h1;obtain⟨⟨c',v'⟩,k1,k2,k3⟩:=j4 he h2;rw[h3]at k2;injection k2 with k2;subst k2;exact .inr ⟨j,e,_,h1,by simpa using h2,h3,rfl,by rw[k1,k3]⟩
theorem lY(hs:Stamped es clock)(I:es.toList.map (λe=>(e.key,e.val))=l.map λp=>(BK p.1,p.2)):(l.map (·.1)).Nodup:=by
 have h:=((stamped_iff _ _).1 hs).2.2;rw[List.Nodup,C0,DZ];rw[DZ]at h;intro i j hi Y G e;obtain⟨x,J,K,_⟩:=pu I (AU hi);obtain⟨y,U,V,_⟩:=pu I (AU Y);obtain⟨C,ex⟩:=A5.1 J;obtain⟨H,ey⟩:=A5.1 U;exact h i j C H G (by rw[ex,ey,K,V,e])
theorem dt.nodup(h:dt w b l):(l.map (·.1)).Nodup:=by obtain⟨es,clock,_,hs,C⟩:=h;exact lY hs C
theorem dt.look(h:dt w b l)(ht:P.underlying t=some (.map kt et))(I:P.underlying kt=some .string){z:Value}(hz:(zeroValue et).run P w= .ok z w)(c:ByteArray):
  (CJ t (.map (some b)) (.string c) false).run P w= .ok (((l.find? λp=>decide (p.1=c)).map (·.2)).getD z) w:=by
 obtain⟨es,clock,hb,hs,H⟩:=h;rcases oh H c with⟨h1,h2,_⟩ | ⟨j,e,v,h1,h2,h3,h4,h5⟩
 ·rw[qR ht I hb h1 hz,Dp.2 (λp hp=>by
   have:p.1≠c:=λe=>h2 (Bi.2 ⟨p,hp,e⟩)
   simpa using this)]
  rfl
 ·have hf:(l.find? λp=>decide (p.1=c))=some (c,v):=by
   rw[List.find?_eq_some_iff_getElem];obtain⟨C,G⟩:=A5.1 h5;refine⟨Ag,j,C,G,λi hi=> ?_⟩;have hn:=lY hs H;rw[List.Nodup,C0,DZ]at hn;have:=hn i j (Dl hi C) C hi;rw[G]at this;simpa using this
  rw[qR ht I hb h1 hz,hf];rfl
abbrev stM(w:World)(b:Nat)(o:Obj):World:= {w with heap:=w.heap.setIfInBounds b o}
theorem stM_at(hb:w.heap[b]? =some (.map es clock))(o:Obj):(stM w b o).heap[b]? =some o:=(heap_set hb).1
theorem gw(hb:w.heap[b]? =some (.map es clock))(o:Obj):Upd w b (stM w b o):=⟨rfl,rfl,rfl,Ag,λk C=>(heap_set hb).2 k C⟩
theorem aaZ{f:Dj->Dj}(hs:Stamped es clock)(H:es.toList.map (λe=>(e.key,e.val))=l.map λp=>(BK p.1,p.2))(Y:es[j]? =some e)(Z:e.key= .string c)(hf:(f e).key= .string c){v:Value}(hv:(f e).val=v):
  (es.modify j f).toList.map (λe=>(e.key,e.val))=(qT l c v).map λp=>(BK p.1,p.2):=by
 have I:es.toList[j]? =some e:=by simpa using Y
 obtain⟨⟨c',u⟩,k1,k2,_⟩:=j4 H I;rw[Z]at k2;injection k2 with k2;subst k2;have hm:c∈l.map (·.1):=Bi.2 ⟨_,Bb k1,rfl⟩;have hn:=lY hs H;rw[qT,if_pos hm];apply List.ext_getElem?;intro i;simp only[List.getElem?_map,BU,Array.getElem?_modify];have hi:=m7 H i;rw[BU]at hi;by_cases e2:j=i
 ·subst e2;rw[if_pos rfl,Y,k1];simp[hf,hv]
 ·rw[if_neg e2,hi]
  cases h3:l[i]? with
  | none=>rfl
  | some p=>
   have J:p.1≠c:=λK=>by
    obtain⟨C,U⟩:=A5.1 h3;obtain⟨G,V⟩:=A5.1 k1;rw[List.Nodup,C0,DZ]at hn;rcases Bl i j with h | h
    ·exact hn i j C G h (by rw[U,V];exact K)
    ·exact hn j i G C Aa (by rw[U,V];exact K.symm)
   simp[J]
theorem xB(C:es.toList.map (λe=>(e.key,e.val))=l.map λp=>(BK p.1,p.2))(hc:c∉l.map (·.1))(v:Value)(n:Nat):(es.push ⟨.string c,v,n⟩).toList.map (λe=>(e.key,e.val))=(qT l c v).map λp=>(BK p.1,p.2):=by
 rw[qT,if_neg hc,Array.toList_push,Cu,C,Cu];rfl
theorem dt.update(h:dt w b l)(ht:P.underlying t=some (.map kt et))(H:P.underlying kt=some .string)(c:ByteArray)(v:Value):
  ∃w',(D1 t (.map (some b)) (.string c) v).run P w= .ok () w'/\dt w' b (qT l c v)/\Upd w b w':=by
 obtain⟨es,clock,hb,hs,I⟩:=h;have G:IsKey .string (.string c):=trivial;rcases oh I c with⟨h1,h2,h3⟩ | ⟨j,e,u,h1,h2,h3,h4,h5⟩
 ·refine⟨stM w b (.map (es.push ⟨.string c,v,clock⟩) (clock+1)),by simp[D1,run_underlying ht,Ev hb,run_checkKey H G,run_findKey H h1,run_setObj_map _ hb,AX],⟨_,_,(heap_set hb).1,stamped_push hs h3,xB I h2 v clock⟩,gw hb _⟩
 ·refine⟨stM w b (.map (es.modify j λe=> {e with key:=.string c,val:=v}) clock),by simp[D1,run_underlying ht,Ev hb,run_checkKey H G,run_findKey H h1,h2,h3,run_keyThatStays G,run_setObj_map _ hb,AX],⟨_,_,(heap_set hb).1,stamped_modify hs _ _ (λ_ _=>rfl) (λe' _ C=> ?_),aaZ hs I h2 h3 rfl rfl⟩,gw hb _⟩;rw[h2]at C;injection C with C;subst C;exact h3.symm
theorem dt.entry(h:dt w b l)(ht:P.underlying t=some (.map kt et))(U:P.underlying kt=some .string){z:Value}(hz:∀w,(zeroValue et).run P w= .ok z w)(c:ByteArray)(v:Value):
  ∃w1 u n w',(Instr.mapEntry t (.map (some b)) (.string c)).run P w= .ok (.tuple #[u,.int .i64 n]) w1/\(Instr.entryStore t (.map (some b)) (.int .i64 n) v).run P w1= .ok () w'/\dt w' b (qT l c v)/\Upd w b w1/\Upd w b w':=by
 obtain⟨es,clock,hb,hs,V⟩:=h;have I:IsKey .string (.string c):=trivial;have K:=(stamped_iff _ _).1 hs;rcases oh V c with⟨h1,h2,h3⟩ | ⟨j,e,u,h1,h2,h3,h4,h5⟩
 ·have C:=stM_at hb (.map (es.push ⟨.string c,z,clock⟩) (clock+1));have H:(es.push ⟨.string c,z,clock⟩).findIdx? (λe=>(e.born:Int)==(clock:Int))=some es.size:=by
   rw[FG];refine⟨Ag,Ag,λi hi=> ?_⟩;have h4:=K.1 es[i] Ag;rw[Array.getElem_push_lt hi];simp;omega
  refine⟨stM w b (.map (es.push ⟨.string c,z,clock⟩) (clock+1)),z,clock,stM (stM w b (.map (es.push ⟨.string c,z,clock⟩) (clock+1))) b (.map ((es.push ⟨.string c,z,clock⟩).modify es.size λe=> {e with val:=v}) (clock+1)),by simp[Instr.mapEntry,run_underlying ht,Ev hb,run_checkKey U I,run_findKey U h1,hz,run_setObj_map _ hb,AX,goInt],by simp only[Instr.entryStore,AO,Ev C,asInt,asIntOf,BC,AX,H,run_setObj_map _ C],⟨_,_,(heap_set C).1,stamped_modify (stamped_push hs h3) _ _ (λ_ _=>rfl) (λ_ _ _=>rfl),?_⟩,gw hb _,(gw hb _).trans (gw C _)⟩;have e2:(es.push ⟨.string c,z,clock⟩).modify es.size (λe=> {e with val:=v})=es.push ⟨.string c,v,clock⟩:=by
   apply Array.ext_getElem?;intro i;rw[Array.getElem?_modify,Array.getElem?_push,Array.getElem?_push];by_cases e3:i=es.size
   ·subst e3;simp
   ·rw[if_neg (Ne.symm e3),if_neg e3,if_neg e3]
  rw[e2];exact xB V h2 v clock
 ·have aa:es.toList[j]? =some e:=by simpa using h2
  have ab:Stamped (es.modify j λe=> {e with key:=.string c}) clock:=stamped_modify hs _ _ (λ_ _=>rfl) (λe' _ G=>by rw[h2]at G;injection G with G;subst G;exact h3.symm);have C:=stM_at hb (.map (es.modify j λe=> {e with key:=.string c}) clock);have Y:(es.modify j λe=> {e with key:=.string c})=es:=by
   apply Array.ext_getElem?;intro i;rw[Array.getElem?_modify];by_cases e3:j=i
   ·subst e3;rw[if_pos rfl,h2];simp[<-h3]
   ·rw[if_neg e3]
  rw[Y]at C;have H:es.findIdx? (λx=>(x.born:Int)==(e.born:Int))=some j:=by
   rw[FG];obtain⟨J,Z⟩:=A8.1 h2;refine⟨J,by simp[Z],λi hi=> ?_⟩;have hn:=K.2.1;rw[List.Nodup,C0,DZ]at hn;have:=hn i j (by simp;omega) (by simpa using J) hi;simp only[Array.getElem_toList,Z]at this;simp;omega
  refine⟨stM w b (.map es clock),u,e.born,stM (stM w b (.map es clock)) b (.map (es.modify j λe=> {e with val:=v}) clock),by simp only[Instr.mapEntry,AO,run_underlying ht,Ev hb,run_checkKey U I,run_findKey U h1,h2,h3,BF,DC,run_keyThatStays I,Y,run_setObj_map _ hb,AX,goInt,BC],by simp only[Instr.entryStore,AO,Ev C,asInt,asIntOf,BC,AX,H,run_setObj_map _ C],⟨_,_,(heap_set C).1,stamped_modify hs _ _ (λ_ _=>rfl) (λ_ _ _=>rfl),aaZ hs V h2 h3 h3 rfl⟩,gw hb _,(gw hb _).trans (gw C _)⟩
theorem dt.other(h:dt w b l)(e:w'.heap[b]? =w.heap[b]?):dt w' b l:=by
 obtain⟨es,clock,hb,h⟩:=h;exact⟨es,clock,by rw[e];exact hb,h⟩
theorem dt.lt(h:dt w b l):b<w.heap.size:=by obtain⟨es,clock,hb,h⟩:=h;exact(A8.1 hb).1
theorem dt.own(h:dt w b l):bF w b:=⟨h.lt,λk n C=>by
 obtain⟨es,clock,hb,h⟩:=h;simp[World.cell?,hb]at C⟩
def Vis(es:Array Dj)(seen:Array Nat)(l:List (ByteArray×Value))(p:ByteArray×Value):Prop:=∃(j:Nat)(e:Dj),es.toList[j]? =some e/\l[j]? =some p/\e.born∈seen.toList
def uJ(w:World)(r m:Nat)(l:List (ByteArray×Value))(V:ByteArray×Value->Prop)(k:Nat):Prop:=
 ∃(es:Array Dj)(clock since c0:Nat)(seen:Array Nat),w.heap[r]? =some (.mapIter (some m) since seen c0)/\since<=c0/\since<=clock/\w.heap[m]? =some (.map es clock)/\Stamped es clock/\es.toList.map (λe=>(e.key,e.val))=l.map (λp=>(BK p.1,p.2))/\
  (∀x∈es.toList,x.born<since)/\(∀p,V p↔Vis es seen l p)/\(leftOf es seen).size=k
theorem left_push{es:Array Dj}{C:Array Nat}(h:e∈(leftOf es C).toList):(leftOf es (C.push e.born)).size<(leftOf es C).size:=by
 have G:(leftOf es (C.push e.born)).toList=(leftOf es C).toList.filter λx=> !decide (x.born=e.born):=by
  unfold leftOf;rw[Array.toList_filter,Array.toList_filter,List.filter_filter]
  congr 1
  funext x
  by_cases h1:x.born=e.born<;>simp[h1]
 rw[<-Eg,<-Eg,G];refine Nat.lt_of_le_of_ne (List.length_filter_le _ _) (λh2=> ?_);have:=List.length_filter_eq_length_iff.1 h2 e h;simp at this
theorem sW(h:dt w b l)(ht:P.underlying t=some (.map kt et)):∃w1 k,(Instr.range t (.map (some b))).run P w= .ok (.pointer (some ⟨w.heap.size,0,none⟩)) w1/\uJ w1 w.heap.size b l (λ_=>False) k/\AG w.heap.size w w1/\w1.heap.size=w.heap.size+1:=by
 obtain⟨es,clock,hb,hs,G⟩:=h;have C:=(stamped_iff _ _).1 hs;refine⟨_,_,run_range_map w t kt et b es clock ht hb,⟨es,clock,clock,clock,#[],BE w _,AK _,AK _,by rw[heap_alloc_old w _ (A8.1 hb).1];exact hb,hs,G,C.1,λp=>⟨λh=>h.elim,λ⟨_,_,_,_,h⟩=>Aq⟩,rfl⟩,(AL _ _).alloc (AK _) _,Array.size_push ..⟩
variable{k:Nat}
theorem qU{w1:World}{r:Nat}(o:Obj)(C:k≠r):(Ew w1 r o).heap[k]? =w1.heap[k]? :=by
 show(w1.heap.setIfInBounds r o)[k]? =_;rw[Array.getElem?_setIfInBounds_ne (Ne.symm C)]
theorem upd_setb{w1:World}{r:Nat}(G:w1=w\/w1=w.drew)(o:Obj):Upd w r (Ew w1 r o):=by
 have hs:(Ew w1 r o).heap.size=w1.heap.size:=Array.size_setIfInBounds ..;rcases G with rfl | rfl
 ·exact⟨rfl,rfl,rfl,hs,λk C=>qU o C⟩
 ·exact⟨rfl,rfl,rfl,hs,λk C=>qU o C⟩
variable{V:ByteArray×Value->Prop}
theorem xC{r m:Nat}(h:uJ w r m l V k)(ty:TypeId):
  ((Instr.next (.pointer (some ⟨r,0,none⟩)) false ty).run P w= .ok (.tuple #[.bool false]) w/\∀p∈l,V p)\/
  ∃p∈l,∃w1 k1,k1<k/\(Instr.next (.pointer (some ⟨r,0,none⟩)) false ty).run P w= .ok (.tuple #[.bool true,.string p.1,p.2]) w1/\(Instr.entry (.pointer (some ⟨r,0,none⟩))).run P w1= .ok (.tuple #[.string p.1,p.2]) w1/\uJ w1 r m l (λx=>V x\/x=p) k1/\Upd w r w1:=by
 obtain⟨es,clock,since,c0,seen,hr,hsc,hsc2,hb,hs,he,hold,hV,hk⟩:=h;have hs3:=(stamped_iff _ _).1 hs;rcases run_next_at (P:=P) w ty r m since c0 seen es clock hr hb hold hsc with⟨h1,h2⟩ | ⟨e,h1,w1,h2,h3⟩
 ·refine .inl ⟨h2,λp hp=>(hV p).2 ?_⟩;obtain⟨j,hj,ep⟩:=BN hp;obtain⟨e,k1,_,_⟩:=pu he (j:=j) (p:=p) (by rw[AU hj,ep]);refine⟨j,e,k1,by rw[AU hj,ep],?_⟩;have h3:leftOf es seen=#[]:=Array.eq_empty_of_size_eq_zero h1;unfold leftOf at h3;rw[Array.filter_eq_empty_iff]at h3;have:=h3 e (by simpa using Bb k1);simpa using this
 ·have hes:e∈es.toList/\e.born∉seen.toList:=by
   unfold leftOf at h1;simpa using h1
  obtain⟨j,hj,ee⟩:=BN hes.1;have hje:es.toList[j]? =some e:=by rw[AU hj,ee]
  obtain⟨p,k1,k2,k3⟩:=j4 he hje;have hne:r≠m:=λe2=>by subst e2;rw[hr]at hb;cases hb
  have hr1:w1.heap[r]? =some (.mapIter (some m) since seen c0):=by rcases h2 with rfl | rfl<;>exact hr
  have hm1:w1.heap[m]? =some (.map es clock):=by rcases h2 with rfl | rfl<;>exact hb
  have hlt:r<w1.heap.size:=(A8.1 hr1).1;have g1:(Ew w1 r (.mapIter (some m) since (seen.push e.born) clock)).heap[r]? =some (.mapIter (some m) since (seen.push e.born) clock):=by simp[Ew,hlt]
  have g2:(Ew w1 r (.mapIter (some m) since (seen.push e.born) clock)).heap[m]? =some (.map es clock):=by simp[Ew,hne,hm1]
  refine .inr ⟨p,Bb k1,_,_,by rw[<-hk];exact left_push h1,by rw[h3,k2,k3],by rw[run_entry_at _ r m since seen es clock e g1 g2 hes.1 hs3.2.1,k2,k3],⟨es,clock,since,clock,seen.push e.born,g1,hsc2,hsc2,g2,hs,he,hold,λx=> ?_,rfl⟩,upd_setb h2 _⟩;show V x\/x=p↔_;rw[hV];constructor
  ·rintro(⟨i,y,a1,a2,a3⟩ | rfl)
   ·exact⟨i,y,a1,a2,by simp at a3⊢;exact .inl a3⟩
   ·exact⟨j,e,hje,k1,by simp⟩
  ·rintro⟨i,y,a1,a2,a3⟩;simp only[Array.toList_push,AJ,Ct]at a3;rcases a3 with a3 | a3
   ·exact .inl ⟨i,y,a1,a2,a3⟩
   ·right;have hn:=hs3.2.1;rw[List.Nodup,C0,DZ]at hn;obtain⟨hi,ey⟩:=A5.1 a1;have:i=j:=by
     rcases Dz i j with h | h | h
     ·exact absurd (by rw[ey,ee];exact a3) (hn i j hi hj h)
     ·exact h
     ·exact absurd (by rw[ey,ee];exact a3.symm) (hn j i hj hi h)
    subst this;rw[k1]at a2;injection a2 with a2;exact a2.symm
theorem uJ.other{r m:Nat}(h:uJ w r m l V k)(h1:w'.heap[r]? =w.heap[r]?)(h2:w'.heap[m]? =w.heap[m]?):uJ w' r m l V k:=by
 obtain⟨es,clock,C,c0,H,J,I,G,hb,h⟩:=h;exact⟨es,clock,C,c0,H,by rw[h1];exact J,I,G,by rw[h2];exact hb,h⟩
end
end
section
open Go.MapKept
abbrev lkT:TypeId:=156
abbrev qW:TypeId:=144
abbrev lpT:TypeId:=152
abbrev trT:TypeId:=223
abbrev mpT:TypeId:=142
abbrev ptB(b:Nat):Value:=.pointer (some ⟨b,0,none⟩)
structure Ln where
 x:Lk
 b:Nat
 g:Nat
 sl:Value
structure Ch where
 c:Nm
 rb:Nat
 cap:Nat
 ls:List Ln
def lnQ(c:Nm)(l:Ln):List Vp:=.val (.string c)::.val (.string l.x.par)::.val (.int .i64 l.x.fr)::.val (.int .i64 l.x.un)::.val (.bool l.x.st)::(frs l.x.po.cs++ [.val (ptB l.g)])
def lZ(w:World)(cs:Array Value)(qs:List Vp):Prop:=cs.size=qs.length/\∀(j:Nat)(q:Vp),qs[j]? =some q->∃u,cs[j]? =some u/\q.p w u
structure LnAt(w:World)(c:Nm)(l:Ln):Prop where
 blk:∃cs,w.heap[l.b]? =some (.cells cs lkT (0,0))/\lZ w cs (lnQ c l)
 trk:TrkS trT w l.g l.sl l.x.tr
structure ChAt(w:World)(ch:Ch):Prop where
 blk:∃cs,w.heap[ch.rb]? =some (.cells cs lpT (0,0))/\cs.size=ch.cap/\∀(j:Nat)(l:Ln),ch.ls[j]? =some l->cs[j]? =some (ptB l.b)
 le:ch.ls.length<=ch.cap
 cap:ch.cap<=maxLen
 ne:ch.ls≠ []
def Ln.fp(l:Ln):List Nat:=l.b::l.g::l.sl.ownBlock.toList
def Ch.fp(ch:Ch):List Nat:=ch.rb::ch.ls.flatMap Ln.fp
def fpT(t m:Nat)(E:List Ch):List Nat:=t::m::E.flatMap Ch.fp
def Ch.row(ch:Ch):Value:=.slice (some ⟨ch.rb,0,none⟩) ch.ls.length ch.cap
structure TM(w:World)(t m:Nat)(E:List Ch):Prop where
 tr:w.heap[t]? =some (.cells #[.map (some m)] qW (0,0))
 mp:dt w m (E.map λch=>(ch.c,ch.row))
 rows:∀ch∈E,ChAt w ch
 lns:∀ch∈E,∀l∈ch.ls,LnAt w ch.c l
 nd:(fpT t m E).Nodup
 own:∀g∈fpT t m E,bF w g
def chE(E:List Ch)(c:Nm):Option Ch:=E.find? λch=>decide (ch.c=c)
def lsE(E:List Ch)(c:Nm):List Ln:=((chE E c).map (·.ls)).getD []
def m8(E:List Ch)(c:Nm):Value:=((chE E c).map Ch.row).getD (.slice none 0 0)
variable{E:List Ch}{c:Nm}{ch:Ch}
theorem cF(h:chE E c=some ch):ch∈E/\ch.c=c:=⟨Dq h,by simpa using DU h⟩
theorem xD(h:chE E c=none)(C:ch∈E):ch.c≠c:=by
 have:=Dp.1 h ch C;simpa using this
variable{w w':World}{X:Nat->Prop}
theorem lZ.chg{cs:Array Value}{qs:List Vp}(h:lZ w cs qs)(k:Chg w w' X)(hf:∀q∈qs,∀w v g,¬q.fp w v g):lZ w' cs qs:=
 ⟨h.1,λj q C=>by
  obtain⟨u,h1,h2⟩:=h.2 j q C;exact⟨u,h1,(q.ch w w' X u h2 k (λg G=>absurd G (hf q (Bb C) _ _ _))).1⟩⟩
theorem frs_fp:∀ {xs:List Fq} {q:Vp},q∈frs xs->∀w v g,¬q.fp w v g
 | [],_,h,_,_,_=>by cases h
 | x::xs,q,h,w,v,g=>by
  simp only[frs,A3]at h;rcases h with rfl | rfl | rfl | h
  ·exact λh=>h
  ·exact λh=>h
  ·exact λh=>h
  ·exact frs_fp h w v g
theorem uK{l:Ln}:∀q∈lnQ c l,∀w v g,¬q.fp w v g:=by
 intro q C;unfold lnQ at C;simp only[A3,AJ,DE,or_false]at C;rcases C with rfl | rfl | rfl | rfl | rfl | C | rfl
 ·exact λ_ _ _ h=>h
 ·exact λ_ _ _ h=>h
 ·exact λ_ _ _ h=>h
 ·exact λ_ _ _ h=>h
 ·exact λ_ _ _ h=>h
 ·exact frs_fp C
 ·exact λ_ _ _ h=>h
variable{g:Nat}
theorem TrkS.chg{T:TypeId}{sl:Value}{S:List St}(h:TrkS T w g sl S)(k:Chg w w' X)(C:¬X g)(hs:∀b,sl.ownBlock=some b->¬X b):TrkS T w' g sl S:=
 ⟨by rw[k.blk g (A8.1 h.blk).1 C];exact h.blk,((Vp.row stT S.length (bx S)).ch w w' X sl h.row k (λb hb=>hs b (by obtain⟨o,n,c,e⟩:=hb;rw[e];rfl))).1,h.ne⟩
theorem LnAt.chg{l:Ln}(h:LnAt w c l)(k:Chg w w' X)(C:∀g∈l.fp,¬X g):LnAt w' c l:=by
 obtain⟨⟨cs,h1,h2⟩,h3⟩:=h;refine⟨⟨cs,by rw[k.blk _ (A8.1 h1).1 (C _ (Bj ..))];exact h1,h2.chg k uK⟩,h3.chg k (C _ (by simp[Ln.fp])) (λb hb=>C b (by simp[Ln.fp,hb]))⟩
theorem ChAt.chg(h:ChAt w ch)(k:Chg w w' X)(C:¬X ch.rb):ChAt w' ch:=by
 obtain⟨⟨cs,h1,h2⟩,h3,h4,h5⟩:=h;exact⟨⟨cs,by rw[k.blk _ (A8.1 h1).1 C];exact h1,h2⟩,h3,h4,h5⟩
variable{t m:Nat}
theorem uL(h:ch∈E)(C:g∈ch.fp):g∈fpT t m E:=Bg _ (Bg _ (Br.2 ⟨ch,h,C⟩))
theorem mem_fpL(h:ch∈E){l:Ln}(hl:l∈ch.ls)(C:g∈l.fp):g∈fpT t m E:=uL h (Bg _ (Br.2 ⟨l,hl,C⟩))
theorem TM.chg(h:TM w t m E)(k:Chg w w' X)(C:∀g∈fpT t m E,¬X g):TM w' t m E:=by
 obtain⟨h1,h2,h4,h5,h6,H⟩:=h;refine⟨by rw[k.blk _ (A8.1 h1).1 (C _ (by simp[fpT]))];exact h1,h2.other (k.blk _ h2.lt (C _ (by simp[fpT]))),λch hc=>(h4 ch hc).chg k (C _ (uL hc (Bj ..))),λch hc l hl=>(h5 ch hc l hl).chg k (λg G=>C g (mem_fpL hc hl G)),h6,λg G=>(H g G).blk (k.blk g (H g G).1 (C g G)) k.size⟩
theorem TM.below(h:TM w t m E)(k:AG w.heap.size w w'):TM w' t m E:=h.chg (.below k) (λ_ _ h=>h)
section
variable {w:World} {t m:Nat} {E:List Ch} {c:Nm} {ch:Ch} {l:Ln} {k:Nat}
theorem TM.cell(h:TM w t m E):w.cell? ⟨t,0,none⟩=some (.map (some m)):=by rw[aE h.tr];rfl
theorem zero_lrow(w:World):(zeroValue 158).run AE w= .ok (.slice none 0 0) w:=Ai
theorem TM.look(h:TM w t m E)(c:Nm):(CJ mpT (.map (some m)) (.string c) false).run AE w= .ok (m8 E c) w:=by
 rw[h.mp.look (t:=mpT) EQ Ab (zero_lrow w) c,List.find?_map];unfold m8 chE
 congr 1
 cases hf:E.find? (λch=>decide (ch.c=c))with
 | none=>
  have:E.find? ((λp:ByteArray×Value=>decide (p.1=c))∘ λch=>(ch.c,ch.row))=none:=hf;rw[this];rfl
 | some ch=>
  have:E.find? ((λp:ByteArray×Value=>decide (p.1=c))∘ λch=>(ch.c,ch.row))=some ch:=hf;rw[this];rfl
theorem TM.chAt(h:TM w t m E)(hc:chE E c=some ch):ChAt w ch:=h.rows ch (cF hc).1
theorem TM.ln(h:TM w t m E)(hc:chE E c=some ch)(hl:l∈ch.ls):LnAt w c l:=by
 obtain⟨h1,rfl⟩:=cF hc;exact h.lns ch h1 l hl
theorem ChAt.cell(h:ChAt w ch)(C:ch.ls[k]? =some l):w.cell? ⟨ch.rb,k,none⟩=some (ptB l.b):=by
 obtain⟨⟨cs,h1,_,h2⟩,_⟩:=h;rw[aE h1];exact h2 k l C
theorem LnAt.cellv{j:Nat}{v:Value}(h:LnAt w c l)(C:(lnQ c l)[j]? =some (.val v)):w.cell? ⟨l.b,j,none⟩=some v:=by
 obtain⟨⟨cs,h1,h2⟩,_⟩:=h;obtain⟨u,h3,h4⟩:=h2.2 j _ C;have e:u=v:=h4.1;rw[aE h1,h3,e]
theorem LnAt.par(h:LnAt w c l):w.cell? ⟨l.b,1,none⟩=some (.string l.x.par):=h.cellv rfl
theorem LnAt.fr(h:LnAt w c l):w.cell? ⟨l.b,2,none⟩=some (.int .i64 l.x.fr):=h.cellv rfl
theorem LnAt.un(h:LnAt w c l):w.cell? ⟨l.b,3,none⟩=some (.int .i64 l.x.un):=h.cellv rfl
theorem LnAt.st(h:LnAt w c l):w.cell? ⟨l.b,4,none⟩=some (.bool l.x.st):=h.cellv rfl
theorem LnAt.tp(h:LnAt w c l):w.cell? ⟨l.b,26,none⟩=some (ptB l.g):=h.cellv rfl
end
end
def ptO(o:Option Ln):Value:=match o with | some l=>ptB l.b | none=>.pointer none
variable{w:World}{c:Nm}
theorem zM{l:Ln}(h:LnAt w c l)(a:Int):AH AE 153 #[ptB l.b,.int .i64 a] w λe w'=>e= .returned (.bool (l.x.has a))/\w'=w:=by
 have h2:=h.fr;have h3:=h.un;have e:l.x.has a=(decide (l.x.fr<=a) && (decide (l.x.un= -1) || decide (a<l.x.un))):=rfl;generalize l.x.has a=r at e⊢;generalize l.b=b at h2 h3⊢;generalize l.x.fr=f at h2 e;generalize l.x.un=u at h3 e;clear h;by_cases c1:f<=a
 ·by_cases c2:u= -1
  ·subst c2;simp[c1]at e;subst e;go_enter Tryz.func153,Tryz.ntmps153
   go_wp2;go_ret;exact Aj
  ·have G:(u== -1)=false:=beq_eq_false_iff_ne.2 c2;simp[c1,c2]at e;subst e;clear c2;go_enter Tryz.func153,Tryz.ntmps153
   go_wp2;go_ret;exact Aj
 ·have C:decide (f<=a)=false:=decide_eq_false c1;simp[c1]at e;subst e;go_enter Tryz.func153,Tryz.ntmps153
  go_wp2;go_ret;exact Aj
variable{k:Nat}
theorem find_step{L:List Ln}{P:Ln->Bool}{x:Ln}(G:L[k]? =some x)(hn:∀j y,j<k->L[j]? =some y->P y=false)(hp:P x=true):L.find? P=some x:=by
 rw[List.find?_eq_some_iff_getElem];obtain⟨h1,h2⟩:=A5.1 G;exact⟨hp,k,h1,h2,λj C=>by simpa using hn j _ C (AU (Dl C h1))⟩
variable{t m:Nat}{E:List Ch}
theorem q_at(h:TM w t m E)(c:Nm)(a:Int):AH AE 90 #[ptB t,.string c,.int .i64 a] w λe w'=>e= .returned (ptO ((lsE E c).find? (·.x.has a)))/\w'=w:=by
 have h1:=h.cell;have h2:=h.look c;unfold lsE;unfold m8 at h2
 cases hc:chE E c with
 | none=>
  rw[hc]at h2;simp only[EK,Option.getD_none]at h2⊢;clear h hc;go_enter Tryz.func90,Tryz.ntmps90
  go_wp2;refine _root_.Go.wp_loop_rounds 1 ?_;rw[rounds_succ];go_wp2;go_ret;exact Aj
 | some ch=>
  rw[hc]at h2;simp only[BF,DC]at h2⊢;have H:=h.chAt hc;have Y:∀l,l∈ch.ls->LnAt w c l:=λl hl=>h.ln hc hl
  have hm:(ch.ls.length:Int)<=9223372036854775807:=by have:=H.le;have:=H.cap;unfold maxLen at this;omega
  have K:=λk l=>H.cell (k:=k) (l:=l)
  unfold Ch.row at h2;clear h hc H;generalize ch.rb=rb at h2 K;generalize ch.cap=cap at h2;generalize ch.ls=L at *;go_enter Tryz.func90,Tryz.ntmps90
  go_wp2;go_loopw [18] (λG wr=>∃k:Nat,k<=L.length/\G= .int .i64 (k:Int)/\wr=w/\Hid (∀j y,j<k->L[j]? =some y->y.x.has a=false)) (λG _=>L.length - (intOf G).toNat)
  case atStart=>exact⟨0,Bc _,rfl,rfl,AF (λj y J=>absurd J (DI j))⟩
  case round=>
   obtain⟨k,hk,rfl,rfl,U⟩:=hrel;rcases Bl k L.length with ac | aa
   ·obtain⟨l,hl⟩:∃l,L[k]? =some l:=⟨_,AU ac⟩;have ad:=K k l hl;have C:=zM (Y l (Bb hl)) a;have I:=AF hl;clear hl K Y;rcases Bool.eq_false_or_eq_true (l.x.has a)with hb | hb
    ·rw[hb]at C;have V:=AF (show ptO (L.find? (·.x.has a))=ptB l.b by rw[find_step I.out U.out hb];rfl);clear hb;generalize l.b=lb at *;go_wp2_with (go_at_call 153;refine C.mono ?_;rintro e w' ⟨rfl,rfl⟩)
     go_ret;rw[V.out];exact Aj
    ·rw[hb]at C;have Z:=AF (show∀j y,j<k+1->L[j]? =some y->y.x.has a=false from λj y J hy=>by
      rcases Bl j k with h | h
      ·exact U.out j y h hy
      ·obtain rfl:j=k:=Aa
       rw[I.out]at hy;injection hy with hy;subst hy;exact hb)
     clear hb;generalize l.b=lb at *;go_wp2_with (go_at_call 153;refine C.mono ?_;rintro e w' ⟨rfl,rfl⟩)
     go_roundw
     case rel=>exact⟨k+1,Aa,by go_num,by trivial,Z⟩
     case measure=>simp[intOf];omega
   ·have ab:k=L.length:=Aa
    subst ab;have V:=AF (show ptO (L.find? (·.x.has a))= .pointer none by
     rw[Dp.2 (λy hy=>by
      obtain⟨j,J,e⟩:=BN hy;have:=U.out j y J (by rw[AU J,e]);simp[this])];rfl)
    clear K Y U aa hk;go_wp2;go_ret;rw[V.out];exact Aj
def opL(L:List Ln):Option Ln:=match L.getLast? with | some l=>if l.x.un= -1 then some l else none | none=>none
theorem l7(h:TM w t m E)(c:Nm):AH AE 124 #[ptB t,.string c] w λe w'=>e= .returned (ptO (opL (lsE E c)))/\w'=w:=by
 have h1:=h.cell;have h2:=h.look c;unfold lsE;unfold m8 at h2
 cases hc:chE E c with
 | none=>
  rw[hc]at h2;simp only[EK,Option.getD_none]at h2⊢;clear h hc;go_enter Tryz.func124,Tryz.ntmps124
  go_wp2;go_ret;exact Aj
 | some ch=>
  rw[hc]at h2;simp only[BF,DC]at h2⊢;have H:=h.chAt hc;obtain⟨n,hn⟩:∃n,ch.ls.length=n+1:=⟨ch.ls.length - 1,by have:=List.length_pos_iff.2 H.ne;omega⟩;obtain⟨l,hl⟩:∃l,ch.ls[n]? =some l:=⟨_,AU Aa⟩;have C:ch.ls.getLast? =some l:=by rw[Fg,hn];exact hl
  have hm:((n+1:Nat):Int)<=9223372036854775807:=by have:=H.le;have:=H.cap;unfold maxLen at this;omega
  have J:=h.ln hc (Bb hl);have Y:=H.cell hl;have U:=J.un;have G:=AF (show opL ch.ls=if l.x.un= -1 then some l else none by unfold opL;rw[C]);unfold Ch.row at h2;rw[hn]at h2;have hp:ptO (some l)=ptB l.b:=rfl;obtain⟨N,K⟩:∃N,N=n+1:=⟨_,rfl⟩;obtain rfl:n=N - 1:=Aa
  rw[<-K]at h2 hm;have V:((N:Int)==0)=false:=beq_eq_false_iff_ne.2 Aa;have hk:((N:Int) - 1).toNat=N - 1:=Aa
  have Z:(1:Int)<=N:=Aa
  have aa:(N:Int) - 1<N:=Aa
  by_cases c1:l.x.un= -1
  ·rw[if_pos c1]at G;have I:=AF (show ptO (opL ch.ls)=ptB l.b by rw[G.out];rfl);rw[c1]at U;clear h hc H J hl C G hp hn c1 K;generalize ch.rb=rb at *;generalize ch.cap=cap at *;generalize l.b=lb at *;go_enter Tryz.func124,Tryz.ntmps124
   go_wp2;go_ret;rw[I.out];exact Aj
  ·rw[if_neg c1]at G;have I:=AF (show ptO (opL ch.ls)= .pointer none by rw[G.out];rfl);have c2:(l.x.un== -1)=false:=beq_eq_false_iff_ne.2 c1;clear h hc H J hl C G hp hn c1 K;generalize ch.rb=rb at *;generalize ch.cap=cap at *;generalize l.b=lb at *;generalize l.x.un=u at *;go_enter Tryz.func124,Tryz.ntmps124
   go_wp2;go_ret;rw[I.out];exact Aj
def atE(E:List Ch)(c:Nm)(a:Int):Option Ln:=(lsE E c).find? (·.x.has a)
variable{a:Int}
theorem jB(h:TM w t m E){l:Ln}(hl:atE E c a=some l):∃ch,chE E c=some ch/\l∈ch.ls/\LnAt w c l:=by
 unfold atE lsE at hl
 cases hc:chE E c with
 | none=>rw[hc]at hl;cases hl
 | some ch=>
  rw[hc]at hl;have:=Dq hl;exact⟨ch,rfl,this,h.ln hc this⟩
theorem xE(h:TM w t m E)(c:Nm)(a:Int):AH AE 34 #[ptB t,.string c,.int .i64 a] w λe w'=>e= .returned (match atE E c a with | some l=>.tuple #[.string l.x.par,.bool true] | none=>.tuple #[.string ES,.bool false])/\w'=w:=by
 have C:=q_at h c a
 change AH _ _ _ _ (λe w'=>e= .returned (ptO (atE E c a))/\w'=w)at C
 cases hl:atE E c a with
 | none=>
  rw[hl]at C
  change AH _ _ _ _ (λe w'=>e= .returned (.pointer none)/\w'=w)at C
  clear h hl;go_enter Tryz.func34,Tryz.ntmps34
  go_wp2_with (go_at_call 90;refine C.mono ?_;rintro e w' ⟨rfl,rfl⟩)
  go_ret2
  exact Aj
 | some l=>
  rw[hl]at C
  change AH _ _ _ _ (λe w'=>e= .returned (ptB l.b)/\w'=w)at C
  obtain⟨_,_,_,G⟩:=jB h hl;have h1:=G.par;clear h hl G;generalize l.b=lb at *;simp only;generalize l.x.par=p at *;go_enter Tryz.func34,Tryz.ntmps34
  go_wp2_with (go_at_call 90;refine C.mono ?_;rintro e w' ⟨rfl,rfl⟩)
  go_ret2
  exact Aj
theorem kO{o f:Nm}(h:o≠f):(ET o==ET f)=false:=by
 refine beq_eq_false_iff_ne.2 (λe=>h ?_);rw[Go.ByteArray.toList_eq,Go.ByteArray.toList_eq]at e;obtain⟨⟨x⟩⟩:=o;obtain⟨⟨y⟩⟩:=f;simp at e;subst e;rfl
theorem Reach.nil{R:Tr}{o f:Nm}(h:par R a o=none)(k:Reach R a o f):o=f:=by
 cases k with
 | refl=>rfl
 | step e _=>rw[h]at e;cases e
theorem Reach.next{R:Tr}{o z f:Nm}(h:par R a o=some z)(hn:o≠f):Reach R a o f↔Reach R a z f:=by
 constructor
 ·intro k
  cases k with
  | refl=>exact absurd rfl hn
  | step e t=>rw[h]at e;injection e with e;subst e;exact t
 ·exact .step h
theorem q_above{R:Tr}(h:TM w t m E)(hR:∀c a,(atE E c a).map (·.x)=tAt R c a)(f o:Nm)(a:Int)(he:eY R a o)(b:Bool)(hb:b=true↔Reach R a o f):
  AH AE 184 #[ptB t,.string f,.string o,.int .i64 a] w λe w'=>e= .returned (.bool b)/\w'=w:=by
 obtain⟨n,y,_,hy,hz⟩:=he.root;have H:=AF h;have U:=AF hR;have HZ:=AF hz;have HY:=AF hy;have HB:=AF hb;clear h hR hz hy he hb;go_enter Tryz.func184,Tryz.ntmps184
 go_wp2;go_loopg [2] n (λk s2 wr=>∃(I:Nm),s2= .string I/\wr=w/\Hid (up R a k I=some y)/\Hid (b=true↔Reach R a I f))
 case atStart=>exact⟨o,rfl,rfl,HY,HB⟩
 case round=>
  obtain⟨I,rfl,rfl,V,J⟩:=hrel;clear HB HY;by_cases hf:I=f
  ·subst hf;have aa:b=true:=J.out.2 (.refl _);subst aa;go_wp2;go_ret;exact Aj
  ·have G:=q_at H.out I a
   change AH _ _ _ _ (λe w'=>e= .returned (ptO (atE E I a))/\w'=wr)at G
   have C:par R a I=(atE E I a).map (·.x.par):=by unfold par;rw[<-U.out,Option.map_map];rfl
   have ab:=kO hf
   cases hl:atE E I a with
   | none=>
    rw[hl]at G C
    change AH _ _ _ _ (λe w'=>e= .returned (.pointer none)/\w'=wr)at G
    have Z:b=false:=EM.2 (λe=>hf (Reach.nil C (J.out.1 e)));subst Z;clear hl hf C;go_wp2_with (go_at_call 90;refine G.mono ?_;rintro e w' ⟨rfl,rfl⟩)
    go_ret;exact Aj
   | some l=>
    rw[hl]at G C
    change AH _ _ _ _ (λe w'=>e= .returned (ptB l.b)/\w'=wr)at G
    obtain⟨_,_,_,hL⟩:=jB H.out hl;have h1:=hL.par;have C:par R a I=some l.x.par:=C;have K:=AF (J.out.trans (Reach.next C hf))
    cases gk with
    | zero=>
     have e:I=y:=by have:=V.out;simp only[up,A9.injEq]at this;exact this
     subst e;rw[HZ.out]at C;cases C
    | succ k=>
     have Y:=AF (show up R a k l.x.par=some y by have:=V.out;simp only[up,C,Em]at this;exact this);clear hl hL V J hf C;generalize l.b=lb at *;generalize l.x.par=p at *;go_wp2_with (go_at_call 90;refine G.mono ?_;rintro e w' ⟨rfl,rfl⟩)
     go_roundg k
     case measure=>omega
     case rel=>exact⟨p,rfl,by trivial,Y,K⟩
def eZ(w:World)(b:Nat)(l:List Nm):Prop:=dt w b (l.map λc=>(c,Ci true))
open Classical in
noncomputable def ol (l:List Nm) (c:Nm):List Nm:=if c∈l then l else l++ [c]
theorem xF(l:List Nm)(c:Nm):qT (l.map λc=>(c,Ci true)) c (.bool true)=(ol l c).map λc=>(c,Ci true):=by
 have e:c∈(l.map λc=>(c,Ci true)).map (·.1)↔c∈l:=Ag
 unfold qT ol;by_cases h:c∈l
 ·rw[if_pos (e.2 h),if_pos h,CG];refine List.map_congr_left (λx _=> ?_);simp only[Function.comp];split
  ·rename_i h2;rw[<-h2]
  ·rfl
 ·rw[if_neg (λh2=>h (e.1 h2)),if_neg h,Cu];rfl
variable{l:List Nm}
theorem jC{x:Nm}:x∈ol l c↔x∈l\/x=c:=by
 unfold ol;split
 ·rename_i h;exact⟨.inl,λh2=>h2.elim id (λe=>e▸h)⟩
 ·simp
abbrev smT:TypeId:=150
variable{b:Nat}
theorem eZ.upd(h:eZ w b l)(c:Nm):∃w',(D1 smT (.map (some b)) (.string c) (.bool true)).run AE w= .ok () w'/\eZ w' b (ol l c)/\Upd w b w':=by
 obtain⟨w',h1,h2,h3⟩:=dt.update (P:=AE) (t:=smT) h Fh Ab c (.bool true);rw[xF]at h2;exact⟨w',h1,h2,h3⟩
theorem eZ.ent(h:eZ w b l)(c:Nm):∃w1 u n w',(Instr.mapEntry smT (.map (some b)) (.string c)).run AE w= .ok (.tuple #[u,.int .i64 n]) w1/\(Instr.entryStore smT (.map (some b)) (.int .i64 n) (.bool true)).run AE w1= .ok () w'/\eZ w' b (ol l c)/\Upd w b w':=by
 obtain⟨w1,u,n,w',h1,h2,h3,_,h4⟩:=dt.entry (P:=AE) (t:=smT) (z:=.bool false) h Fh Ab (λw=>Ai) c (.bool true);rw[xF]at h3;exact⟨w1,u,n,w',h1,h2,h3,h4⟩
theorem eZ.nodup(h:eZ w b l):l.Nodup:=by
 have:=dt.nodup h;rwa [CG,show((λx:ByteArray×Value=>x.1)∘ λc:Nm=>(c,Ci true))=id from rfl,List.map_id]at this
theorem mk_map(t:TypeId)(w:World):∃w1,(Instr.makeMap t none).run AE w= .ok (.map (some w.heap.size)) w1/\dt w1 w.heap.size []/\AG w.heap.size w w1/\w1.heap.size=w.heap.size+1:=
 ⟨_,run_makeMap t w,⟨#[],0,BE w _,Go.MapKept.stamped_empty 0,rfl⟩,(AL _ _).alloc (AK _) _,Array.size_push ..⟩
theorem TM.uniq(h:TM w t m E){ch ch':Ch}(h1:ch∈E)(h2:ch'∈E)(e:ch'.c=ch.c):ch'=ch:=by
 have hn:=h.mp.nodup;rw[CG]at hn;obtain⟨i,hi,C⟩:=BN h1;obtain⟨j,H,G⟩:=BN h2;rw[List.Nodup,C0,DZ]at hn;rcases Dz i j with h | h | h
 ·exact absurd (show E[i].c=E[j].c by rw[C,G,e]) (hn i j hi H h)
 ·subst h;rw[<-C,<-G]
 ·exact absurd (show E[j].c=E[i].c by rw[C,G,e]) (hn j i H hi h)
variable{w':World}{g:Nat}
theorem TM.upd(h:TM w t m E)(u:Upd w g w')(o:bF w g)(C:g∉fpT t m E):TM w' t m E:=h.chg (.upd o u) (λk G e=>C (e▸G))
theorem TM.lt(h:TM w t m E):∀g∈fpT t m E,g<w.heap.size:=λg C=>(h.own g C).1
def uM(E:List Ch)(x:Nm):Prop:=∃ch∈E,∃l∈ch.ls,x=ch.c\/x=l.x.par
theorem j5(h:TM w t m E):AH AE 89 #[ptB t] w λe w'=>∃b l,e= .returned (.map (some b))/\eZ w' b l/\w.heap.size<=b/\(∀x,x∈l↔uM E x)/\AG w.heap.size w w':=by
 obtain⟨w1,cm,K,ay,b5⟩:=mk_map smT w;have h':=h.below ay;obtain⟨w2,k0,b3,Y,am,b6⟩:=sW (P:=AE) (t:=mpT) h'.mp EQ;rw[b5]at b3 Y b6;have H2:=h'.below am;have bb:eZ w2 w.heap.size []:=K.other (am.block _ K.lt);have hB:=ay.trans (am.mono Aa);have c1:=h'.cell;generalize cc:w.heap.size=B at *;generalize cp:B+1=r at *;clear K h' ay am b5;go_enter Tryz.func89,Tryz.ntmps89
 go_wp2;have b0:=AF H2;have aa:=AF (show∀g∈fpT t m E,g<B from λg hg=>by have:=h.lt g hg;omega);have an:=AF (show B<r by omega);have bt:=AF Y;have a9:=AF bb;have a6:=AF hB;have hu:=AF (λ(ch C:Ch)=>h.uniq (ch:=ch) (ch':=C));have G:=AF (show r<w2.heap.size by omega);clear h Y bb hB H2 cp cc b6 cm b3 c1;go_loopg [] k0 (λk wr=>∃(V:ByteArray×Value->Prop)(l:List Nm),Hid (uJ wr r m (E.map λch=>(ch.c,ch.row)) V k)/\Hid (eZ wr B l)/\Hid (TM wr t m E)/\Hid (AG B w wr)/\Hid (r<wr.heap.size)/\Hid (∀x,x∈l↔∃ch∈E,V (ch.c,ch.row)/\∃ln∈ch.ls,x=ch.c\/x=ln.x.par))
 case atStart=>exact⟨_,_,bt,a9,b0,a6,G,AF (λx=>⟨λh=>(by cases h),λ⟨_,_,h,_⟩=>h.elim⟩)⟩
 case round=>
  clear b0 bt a9 a6 G;obtain⟨V,l,Y,K,hT,hB,G,hL⟩:=hrel;rcases xC (P:=AE) Y.out 0 with⟨ab,aq⟩ | ⟨p,hp,w3,k3,cd,ab,ao,bz,ad⟩
  ·have HA:=AF aq;clear aq;go_wp2;go_ret;refine⟨B,l,rfl,K.out,AK _,λx=> ?_,hB.out⟩;rw[hL.out];exact⟨λ⟨ch,h1,_,h2⟩=>⟨ch,h1,h2⟩,λ⟨ch,h1,h2⟩=>⟨ch,h1,HA.out _ (Bi.2 ⟨ch,h1,rfl⟩),h2⟩⟩
  ·obtain⟨ch,Z,rfl⟩:=Bi.1 hp;have ac:=G.out;have ar:bF wr r:=⟨ac,λk n hk=>by
    obtain⟨es,clock,cq,c0,cu,h,_⟩:=Y.out;simp[World.cell?,h]at hk⟩
   have b1:=AF (hT.out.upd ad ar (λhm=>by have:=aa.out r hm;have:=an.out;omega));have be:=AF (show eZ w3 B l from K.out.other (ad.block _ (by have:=an.out;omega)));have a7:=AF (ad.below hB.out (by have:=an.out;omega));have au:=AF (show r<w3.heap.size by rw[ad.size];exact ac);have a5:=AF bz;have H:=hT.out.rows ch Z;have hm:(ch.ls.length:Int)<=9223372036854775807:=by have:=H.le;have:=H.cap;unfold maxLen at this;omega
   clear hT K Y hB G ac ar H bz ad hp
   change (Instr.next _ _ _).run _ _= .ok (.tuple #[.bool true,.string ch.c,ch.row]) w3 at ab
   change (Instr.entry _).run _ _= .ok (.tuple #[.string ch.c,ch.row]) w3 at ao
   unfold Ch.row at ab ao;obtain⟨n,hn⟩:∃n,n=ch.ls.length:=⟨_,rfl⟩;rw[<-hn]at ab ao hm;have HN:=AF hn;clear hn;go_wp2;go_loopw [21] (λa0 wq=>∃(j:Nat)(l':List Nm),j<=n/\a0= .int .i64 (j:Int)/\Hid (uJ wq r m (E.map λch=>(ch.c,ch.row)) (λx=>V x\/x=(ch.c,ch.row)) k3)/\Hid (eZ wq B l')/\Hid (TM wq t m E)/\Hid (AG B w wq)/\Hid (r<wq.heap.size)/\Hid (∀x,x∈l'↔x∈l\/∃(i:Nat)(ln:Ln),i<j/\ch.ls[i]? =some ln/\(x=ch.c\/x=ln.x.par))) (λa0 _=>n - (intOf a0).toNat)
   case atStart=>exact⟨0,l,Bc _,rfl,a5,be,b1,a7,au,AF (λx=>⟨.inl,λh=>h.elim id (λ⟨i,_,h,_⟩=>absurd h (DI i))⟩)⟩
   case round=>
    clear a5 be b1 a7 au ab ao;obtain⟨j,l',hj,rfl,Y,K,hT,hB,G,ak⟩:=hrel;rcases Bl j n with cl | cz
    ·obtain⟨ln,ap⟩:∃ln,ch.ls[j]? =some ln:=⟨_,AU (by rw[<-HN.out];exact cl)⟩;have cx:=(hT.out.rows ch Z).cell ap;have cr:=(hT.out.lns ch Z ln (Bb ap)).par;have av:=AF ap;obtain⟨w4,h4,bi,b7⟩:=K.out.upd ch.c;obtain⟨w5,u,n5,w6,h5,h6,bp,b8⟩:=bi.ent ln.x.par;have J:=b7.trans b8;have b2:bF wr B:=K.out.own;have cb:=AF (hT.out.upd J b2 (λhm=>by have:=aa.out B hm;omega));have bq:=AF bp;have ca:=AF (Y.out.other (J.block r (by have:=an.out;omega)) (J.block m (by have:=aa.out m (by simp[fpT]);omega)));have b9:=AF (J.below hB.out (AK _));have b4:=AF (show r<w6.heap.size by rw[J.size];exact G.out);have ax:=AF (show∀x,x∈ol (ol l' ch.c) ln.x.par↔x∈l\/∃(i:Nat)(ln:Ln),i<j+1/\ch.ls[i]? =some ln/\(x=ch.c\/x=ln.x.par)from λx=>by
      rw[jC,jC,ak.out];constructor
      ·rintro(((h | ⟨i,y,a1,I,U⟩) | rfl) | rfl)
       ·exact .inl h
       ·exact .inr ⟨i,y,Aa,I,U⟩
       ·exact .inr ⟨j,ln,Aa,av.out,.inl rfl⟩
       ·exact .inr ⟨j,ln,Aa,av.out,.inr rfl⟩
      ·rintro(h | ⟨i,y,a1,I,U⟩)
       ·exact .inl (.inl (.inl h))
       ·rcases Bl i j with h | h
        ·exact .inl (.inl (.inr ⟨i,y,h,I,U⟩))
        ·obtain rfl:i=j:=Aa
         rw[av.out]at I;injection I with I;subst I;rcases U with rfl | rfl
         ·exact .inl (.inr rfl)
         ·exact .inr rfl)
     clear ap bi bp b7 b8 J b2 Y K hT hB G ak;generalize ln.b=lb at *;generalize ol (ol l' ch.c) ln.x.par=l6 at *;generalize ln.x.par=pr at *;go_wp2;go_roundw
     case rel=>exact⟨j+1,l6,Aa,by go_num,ca,bq,cb,b9,b4,ax⟩
     case measure=>simp[intOf];omega
    ·obtain rfl:j=n:=Aa
     have ax:=AF (show∀x,x∈l'↔∃C∈E,(V (C.c,C.row)\/(C.c,C.row)=(ch.c,ch.row))/\∃ln∈C.ls,x=C.c\/x=ln.x.par from λx=>by
      rw[ak.out,hL.out];constructor
      ·rintro(⟨C,a1,I,U⟩ | ⟨i,y,a1,I,U⟩)
       ·exact⟨C,a1,.inl I,U⟩
       ·exact⟨ch,Z,.inr rfl,y,Bb I,U⟩
      ·rintro⟨C,a1,I | I,y,U,a4⟩
       ·exact .inl ⟨C,a1,I,y,U,a4⟩
       ·have e:C=ch:=hu.out ch C Z a1 (congrArg (·.1) I);subst e;obtain⟨i,hi,e2⟩:=BN U;exact .inr ⟨i,y,by rw[HN.out];exact hi,by rw[AU hi,e2],a4⟩)
     clear hL ak;go_wp2;go_roundg k3
     case measure=>exact cd
     case rel=>exact⟨_,l',Y,K,hT,hB,G,ax⟩
def trE(E:List Ch):Tr:=E.flatMap λch=>ch.ls.map λl=>(ch.c,l.x)
theorem cG{q:Nm×Lk}:q∈trE E↔∃ch∈E,∃l∈ch.ls,q=(ch.c,l.x):=by
 unfold trE;rw[Br];constructor
 ·rintro⟨ch,h1,h2⟩;obtain⟨l,h3,rfl⟩:=Bi.1 h2;exact⟨ch,h1,l,h3,rfl⟩
 ·rintro⟨ch,h1,l,h3,rfl⟩;exact⟨ch,h1,Bi.2 ⟨l,h3,rfl⟩⟩
theorem uO(d c:Nm)(ls:List Ln):lks (ls.map λl=>(d,l.x)) c=if d=c then ls.map (·.x)else []:=by
 induction ls with
 | nil=>split<;>rfl
 | cons l ls ih=>
  rw[Bu,gX,ih];by_cases h:d=c
  ·simp only[if_pos h,Bu]
  ·simp only[if_neg h]
theorem iR:∀ {E:List Ch},(E.map (·.c)).Nodup->∀c,lks (trE E) c=(lsE E c).map (·.x)
 | [],_,_=>rfl
 | ch::E,h,c=>by
  obtain⟨h1,h2⟩:=Bv.1 h;have G:=iR h2 c;have e:trE (ch::E)=(ch.ls.map λl=>(ch.c,l.x))++trE E:=rfl;rw[e,gt,uO,G];unfold lsE chE;by_cases hc:ch.c=c
  ·rw[if_pos hc,List.find?_cons_of_pos (by simpa using hc)];have:E.find? (λch=>decide (ch.c=c))=none:=Dp.2 (λx C=>by
    have:x.c≠c:=λe=>h1 (Bi.2 ⟨x,C,e.trans hc.symm⟩)
    simpa using this)
   rw[this];simp
  ·rw[if_neg hc,List.find?_cons_of_neg (by simpa using hc),List.nil_append]
theorem TM.keys(h:TM w t m E):(E.map (·.c)).Nodup:=by
 have hn:=h.mp.nodup;rwa [CG]at hn
theorem TM.tAt(h:TM w t m E)(c:Nm)(a:Int):(atE E c a).map (·.x)=tAt (trE E) c a:=by
 unfold atE Go.Proofs.YtggfmklppkioeaaGreat.tAt;rw[iR h.keys,List.find?_map];rfl
open Classical in
theorem xG {w:World} {t m:Nat} {E:List Ch} (h:TM w t m E) (hE:TOk (trE E)) (f o:Nm) (a:Int):
  AH AE 184 #[ptB t,.string f,.string o,.int .i64 a] w fun e w'=>e= .returned (.bool (decide (Reach (trE E) a o f)))∧w'=w:=
 q_above h h.tAt f o a (hE.acy a o) _ (by simp)
open Classical in
set_option maxHeartbeats 400000 in
theorem pw {w:World} {t m:Nat} {E:List Ch} (h:TM w t m E) (hE:TOk (trE E)) (c p:Nm) (f:Int):AH AE 125 #[ptB t,.string c,.string p,.int .i64 f] w fun e w'=>e= .returned (.bool (decide (Cyc (trE E) c p f)))∧AG w.heap.size w w':=by
 have hab:=xG h hE c p f;by_cases hr:Reach (trE E) f p c
 ·have hcy:Cyc (trE E) c p f:=.inl hr;rw[decide_eq_true hcy];rw[decide_eq_true hr]at hab;clear h hr hcy hE;go_enter Tryz.func125,Tryz.ntmps125
  go_wp2_with (go_at_call 184;refine hab.mono ?_;rintro e w' ⟨rfl,hw'⟩;obtain rfl:=hw'.symm)
  go_ret;exact⟨rfl,AL _ _⟩
 ·rw[decide_eq_false hr]at hab;obtain⟨w2,k0,hrg,hR,hb2,hs2⟩:=sW (P:=AE) (t:=mpT) h.mp EQ;have H2:=h.below hb2;have c1:=h.cell;obtain⟨r,hrr⟩:∃r,w.heap.size=r:=⟨_,rfl⟩;rw[hrr]at hrg hR hs2;have hlow:=AF (show∀g∈fpT t m E,g<r from fun g hg=>by have:=h.lt g hg;omega);have hT0:=AF H2;have hR0:=AF hR;have hB0:=AF hb2;have hu:=AF (fun(ch ch':Ch)=>h.uniq (ch:=ch) (ch':=ch'));have hwr:=AF (show w.heap.size≤r by omega);have hrz:=AF (show r<w2.heap.size by omega);have HE:=AF hE;have HNR:=AF hr;obtain⟨b,hbb⟩:∃b,b=decide (Cyc (trE E) c p f):=⟨_,rfl⟩;have HBB:=AF hbb;rw[←hbb];clear h hR H2 hs2 hr hE hbb hb2;go_enter Tryz.func125,Tryz.ntmps125
  go_wp2_with (go_at_call 184;refine hab.mono ?_;rintro e w' ⟨rfl,hw'⟩;obtain rfl:=hw'.symm)
  clear hab hrg c1 hrr;go_loopg [] k0 (fun k wr=>∃(V:ByteArray×Value→Prop),Hid (uJ wr r m (E.map fun ch=>(ch.c,ch.row)) V k)∧Hid (TM wr t m E)∧Hid (AG w.heap.size w wr)∧Hid (r<wr.heap.size)∧Hid (∀ch∈E,V (ch.c,ch.row)→∀ln∈ch.ls,¬(f<ln.x.fr∧Reach (trE E) ln.x.fr p c)))
  case atStart=>exact⟨_,hR0,hT0,hB0,hrz,AF (fun _ _ h=>h.elim)⟩
  case round=>
   clear hT0 hR0 hB0 hrz;obtain⟨V,hR,hT,hB,hrz,hL⟩:=hrel;rcases xC (P:=AE) hR.out 0 with⟨hnx,hall⟩ | ⟨q,hp,w3,k3,hk3,hnx,hen,hR3,hu3⟩
   ·have hbf:b=false:=by
     rw[HBB.out];refine decide_eq_false ?_;rintro(h1 | ⟨q,h1,h2,h3⟩)
     ·exact HNR.out h1
     ·obtain⟨ch,a1,l,a2,rfl⟩:=cG.1 h1;exact hL.out ch a1 (hall _ (Bi.2 ⟨ch,a1,rfl⟩)) l a2 ⟨h2,h3⟩
    subst hbf;clear hall;go_wp2;go_ret;exact⟨rfl,hB.out⟩
   ·obtain⟨ch,hch,rfl⟩:=Bi.1 hp;have hrlt:=hrz.out;have horX:bF wr r:=⟨hrlt,fun k n hk=>by
     obtain⟨es,clock,since,c0,seen,h,_⟩:=hR.out;simp[World.cell?,h]at hk⟩
    have hT3:=AF (hT.out.upd hu3 horX (fun hm=>by have:=hlow.out r hm;omega));have hB3:=AF (hu3.below hB.out hwr.out);have hrz3:=AF (show r<w3.heap.size by rw[hu3.size];exact hrlt);have HR3:=AF hR3;have H:=hT.out.rows ch hch;have hm:(ch.ls.length:Int)≤9223372036854775807:=by have:=H.le;have:=H.cap;unfold maxLen at this;omega
    clear hT hR hB hrz hrlt horX H hR3 hu3 hp
    change (Instr.next _ _ _).run _ _= .ok (.tuple #[.bool true,.string ch.c,ch.row]) w3 at hnx
    change (Instr.entry _).run _ _= .ok (.tuple #[.string ch.c,ch.row]) w3 at hen
    unfold Ch.row at hnx hen;obtain⟨n,hn⟩:∃n,n=ch.ls.length:=⟨_,rfl⟩;rw[←hn]at hnx hen hm;have HN:=AF hn;clear hn;go_wp2;go_loopw [29] (fun s29 wq=>∃(j:Nat),j≤n∧s29= .int .i64 (j:Int)∧wq=w3∧Hid (∀(i:Nat)(ln:Ln),i<j→ch.ls[i]? =some ln→¬(f<ln.x.fr∧Reach (trE E) ln.x.fr p c))) (fun s29 _=>n - (intOf s29).toNat)
    case atStart=>exact⟨0,Bc _,rfl,rfl,AF (fun i _ h=>absurd h (DI i))⟩
    case round=>
     clear hnx hen;obtain⟨j,hj,rfl,rfl,hL'⟩:=hrel;rcases Bl j n with hlt | hge
     ·obtain⟨ln,hln⟩:∃ln,ch.ls[j]? =some ln:=⟨_,AU (by rw[←HN.out];exact hlt)⟩;have hmem:=Bb hln;have hcl:=(hT3.out.rows ch hch).cell hln;have hfr:=(hT3.out.lns ch hch ln hmem).fr;have HLN:=AF hln;have hab:=xG hT3.out HE.out c p ln.x.fr;have hq:=cG.2 ⟨ch,hch,ln,hmem,rfl⟩;by_cases h1:f<ln.x.fr
      ·by_cases h2:Reach (trE E) ln.x.fr p c
       ·have hbt:b=true:=by rw[HBB.out];exact decide_eq_true (.inr ⟨_,hq,h1,h2⟩)
        subst hbt;rw[decide_eq_true h2]at hab;clear h2 hq hmem hln;generalize ln.x.fr=fr at *;generalize ln.b=lb at *;go_wp2_with (go_at_call 184;refine hab.mono ?_;rintro e w' ⟨rfl,hw'⟩;obtain rfl:=hw'.symm)
        go_ret;exact⟨rfl,hB3.out⟩
       ·rw[decide_eq_false h2]at hab;have hL2:=AF (show∀(i:Nat)(ln:Ln),i<j+1→ch.ls[i]? =some ln→¬(f<ln.x.fr∧Reach (trE E) ln.x.fr p c)from fun i y hi hy=>by
         rcases Bl i j with h | h
         ·exact hL'.out i y h hy
         ·obtain rfl:i=j:=by omega
          rw[HLN.out]at hy;injection hy with hy;subst hy;exact fun h=>h2 h.2)
        clear h2 hq hmem hln hL';generalize ln.x.fr=fr at *;generalize ln.b=lb at *;go_wp2_with (go_at_call 184;refine hab.mono ?_;rintro e w' ⟨rfl,hw'⟩;obtain rfl:=hw'.symm)
        go_roundw
        case rel=>exact⟨j+1,by omega,by go_num,by trivial,hL2⟩
        case measure=>simp[intOf];omega
      ·have h1':decide (f<ln.x.fr)=false:=decide_eq_false h1;have hL2:=AF (show∀(i:Nat)(ln:Ln),i<j+1→ch.ls[i]? =some ln→¬(f<ln.x.fr∧Reach (trE E) ln.x.fr p c)from fun i y hi hy=>by
        rcases Bl i j with h | h
        ·exact hL'.out i y h hy
        ·obtain rfl:i=j:=by omega
         rw[HLN.out]at hy;injection hy with hy;subst hy;exact fun h=>h1 h.1)
       clear hab hq hmem hln hL' h1;generalize ln.x.fr=fr at *;generalize ln.b=lb at *;go_wp2;go_roundw
       case rel=>exact⟨j+1,by omega,by go_num,by trivial,hL2⟩
       case measure=>simp[intOf];omega
     ·obtain rfl:j=n:=by omega
      have hL2:=AF (show∀ch'∈E,(V (ch'.c,ch'.row)∨(ch'.c,ch'.row)=(ch.c,ch.row))→∀ln∈ch'.ls,¬(f<ln.x.fr∧Reach (trE E) ln.x.fr p c)from fun ch' a1 a2 ln a3=>by
       rcases a2 with a2 | a2
       ·exact hL.out ch' a1 a2 ln a3
       ·have e:ch'=ch:=hu.out ch ch' hch a1 (congrArg (·.1) a2);subst e;obtain⟨i,hi,e2⟩:=BN a3;exact hL'.out i ln (by rw[HN.out];exact hi) (by rw[AU hi,e2]))
      clear hL hL';go_wp2;go_roundg k3
      case measure=>exact hk3
      case rel=>exact⟨_,HR3,hT3,hB3,hrz3,hL2⟩
theorem fp_put{A B o o':List Nat}{n:Nat}(h:(A++(b::g::o)++B).Nodup)(C:∀x∈A++(b::g::o)++B,x<n)(I:∀x∈o',x∈o\/n<=x)(hn:o'.Nodup):(A++(b::g::o')++B).Nodup:=by
 simp only[BJ,Bv,A3,AJ]at h C⊢;obtain⟨⟨h1,⟨h2,h3,h4⟩,h5⟩,h6,G⟩:=h;have lt:∀x∈o',∀y,((y∈A\/y=b\/y=g\/y∈o)\/y∈B)->(x∉o)->y≠x:=λx J y hy H e=>by
  have:=C y hy;rcases I x J with h | h
  ·exact H h
  ·omega
 refine⟨⟨h1,⟨λh=> ?_,λh=> ?_,hn⟩,λa ha c hc=> ?_⟩,h6,λa ha c hc=> ?_⟩
 ·rcases h with h | h
  ·exact h2 (.inl h)
  ·by_cases hb:b∈o
   ·exact h2 (.inr hb)
   ·exact lt b h b (.inl (.inr (.inl rfl))) hb rfl
 ·by_cases hg:g∈o
  ·exact h3 hg
  ·exact lt g h g (.inl (.inr (.inr (.inl rfl)))) hg rfl
 ·rcases hc with rfl | rfl | hc
  ·exact h5 a ha _ (.inl rfl)
  ·exact h5 a ha _ (.inr (.inl rfl))
  ·by_cases hco:c∈o
   ·exact h5 a ha _ (.inr (.inr hco))
   ·exact lt c hc a (.inl (.inl ha)) hco
 ·rcases ha with ha | rfl | rfl | ha
  ·exact G a (.inl ha) c hc
  ·exact G _ (.inr (.inl rfl)) c hc
  ·exact G _ (.inr (.inr (.inl rfl))) c hc
  ·by_cases hao:a∈o
   ·exact G a (.inr (.inr (.inr hao))) c hc
   ·exact λe=>lt a ha c (.inr hc) hao e.symm
def cZ(E1 E2:List Ch)(c:Nm)(rb cap:Nat)(L1 L2:List Ln)(l:Ln):List Ch:=E1++⟨c,rb,cap,L1++l::L2⟩::E2
theorem fy(t m:Nat)(C G:List Ch)(c:Nm)(rb cap:Nat)(H L2:List Ln)(l:Ln):fpT t m (cZ C G c rb cap H L2 l)=(t::m::(C.flatMap Ch.fp++rb::H.flatMap Ln.fp))++(l.b::l.g::l.sl.ownBlock.toList)++(L2.flatMap Ln.fp++G.flatMap Ch.fp):=by
 simp[fpT,cZ,Ch.fp,Ln.fp,Df,Cq,DG]
theorem gZ(C G:List Ch)(c:Nm)(rb cap:Nat)(H L2:List Ln)(l:Ln):trE (cZ C G c rb cap H L2 l)=(trE C++H.map λl=>(c,l.x))++(c,l.x)::((L2.map λl=>(c,l.x))++trE G):=by
 simp[trE,cZ,Df,Cq,DG]
variable{rb cap:Nat}{L2:List Ln}{l l':Ln}
theorem TM.put{K U:List Ch}{H:List Ln}(h:TM w t m (cZ K U c rb cap H L2 l))(hb:l'.b=l.b)(hg:l'.g=l.g)
  (ho:∀b,l'.sl.ownBlock=some b->l.sl.ownBlock=some b\/w.heap.size<=b)(hL:LnAt w' c l')(an:∀g∈l'.fp,bF w' g)(k:Chg w w' (· ∈l.fp)):TM w' t m (cZ K U c rb cap H L2 l'):=by
 have V:=h.nd;have ak:=h.lt;rw[fy]at V ak;have ap:(l'.sl.ownBlock.toList).Nodup:=by cases l'.sl.ownBlock<;>simp
 have am:(fpT t m (cZ K U c rb cap H L2 l')).Nodup:=by
  rw[fy,hb,hg];refine fp_put V ak (λx J=> ?_) ap;have J:l'.sl.ownBlock=some x:=by simpa using J
  exact(ho x J).imp (λh=>by simp[h]) id
 have G:∀x,(x∈(t::m::(K.flatMap Ch.fp++rb::H.flatMap Ln.fp))\/x∈(L2.flatMap Ln.fp++U.flatMap Ch.fp))->x∉l.fp:=λx J hl=>by
  rw[BJ,BJ]at V;have hl:x∈l.b::l.g::l.sl.ownBlock.toList:=hl;rcases J with J | J
  ·exact V.1.2.2 x J x hl rfl
  ·exact V.2.2 x (AJ.2 (.inr hl)) x J rfl
 have Z:∀ch∈K++U,ch∈cZ K U c rb cap H L2 l:=λch hc=>by
  unfold cZ;rcases AJ.1 hc with h | h
  ·exact AJ.2 (.inl h)
  ·exact AJ.2 (.inr (Bg _ h))
 have aa:∀ch∈K++U,∀g∈ch.fp,g∉l.fp:=λch hc g C=>by
  refine G g ?_;rcases AJ.1 hc with h | h
  ·exact .inl (Bg _ (Bg _ (AJ.2 (.inl (Br.2 ⟨ch,h,C⟩)))))
  ·exact .inr (AJ.2 (.inr (Br.2 ⟨ch,h,C⟩)))
 have ad:∀y∈H++L2,∀g∈y.fp,g∉l.fp:=λy hy g C=>by
  refine G g ?_;rcases AJ.1 hy with h | h
  ·exact .inl (Bg _ (Bg _ (AJ.2 (.inr (Bg _ (Br.2 ⟨y,h,C⟩))))))
  ·exact .inr (AJ.2 (.inl (Br.2 ⟨y,h,C⟩)))
 have ab:(⟨c,rb,cap,H++l::L2⟩:Ch)∈cZ K U c rb cap H L2 l:=AJ.2 (.inr (Bj ..));have I:∀ch∈cZ K U c rb cap H L2 l',ch∈K++U\/ch=⟨c,rb,cap,H++l'::L2⟩:=λch hc=>by
  unfold cZ at hc;rcases AJ.1 hc with h | h
  ·exact .inl (AJ.2 (.inl h))
  ·rcases A3.1 h with h | h
   ·exact .inr h
   ·exact .inl (AJ.2 (.inr h))
 have hm:m∉l.fp:=G m (.inl Ag);have ht:t∉l.fp:=G t (.inl Ag);have aq:rb∉l.fp:=G rb (.inl Ag);refine⟨by rw[k.blk _ (A8.1 h.tr).1 ht];exact h.tr,?_,λch hc=> ?_,λch hc y hy=> ?_,am,λg C=> ?_⟩
 ·have:=h.mp.other (k.blk _ h.mp.lt hm);simpa [cZ,Ch.row]using this
 ·rcases I ch hc with h1 | rfl
  ·exact(h.rows ch (Z ch h1)).chg k (aa ch h1 _ (Bj ..))
  ·obtain⟨⟨cs,h1,h2,h3⟩,h4,h5,_⟩:=(h.rows _ ab).chg k aq;refine⟨⟨cs,h1,h2,λj y hy=> ?_⟩,by simpa using h4,h5,by simp⟩;rcases Dz j H.length with hj | hj | hj
   ·refine h3 j y ?_;rw[List.getElem?_append_left hj]at hy⊢;exact hy
   ·subst hj;rw[Bq (AK _),Dd]at hy;simp at hy;subst hy;rw[hb];exact h3 H.length l (by rw[Bq (AK _),Dd];rfl)
   ·refine h3 j y ?_;rw[Bq Aa,List.getElem?_cons,if_neg Aa]at hy⊢;exact hy
 ·rcases I ch hc with h1 | rfl
  ·exact(h.lns ch (Z ch h1) y hy).chg k (λg C=>aa ch h1 g (Bg _ (Br.2 ⟨y,hy,C⟩)))
  ·have hy:y∈H++l'::L2:=hy;have Y:y=l'\/y∈H++L2:=by
    simp only[AJ,A3]at hy⊢;rcases hy with h | h | h
    ·exact .inr (.inl h)
    ·exact .inl h
    ·exact .inr (.inr h)
   rcases Y with rfl | Y
   ·exact hL
   ·have ar:y∈(⟨c,rb,cap,H++l::L2⟩:Ch).ls:=by
     show y∈H++l::L2;simp only[AJ,A3]at Y⊢;exact Y.imp id .inr
    exact(h.lns _ ab y ar).chg k (ad y Y)
 ·rw[fy,AJ,AJ]at C;have ac:∀x,(x∈(t::m::(K.flatMap Ch.fp++rb::H.flatMap Ln.fp))\/x∈(L2.flatMap Ln.fp++U.flatMap Ch.fp))->bF w' x:=λx J=>by
   have ao:bF w x:=h.own x (by
    rw[fy,AJ,AJ];exact J.imp .inl id)
   exact ao.blk (k.blk x ao.1 (G x J)) k.size
  rcases C with(h1 | h1) | h1
  ·exact ac g (.inl h1)
  ·exact an g h1
  ·exact ac g (.inr h1)
variable{v:Value}
theorem set_own{cs:Array Value}{T:TypeId}(hb:w.heap[b]? =some (.cells cs T (0,0)))(o:bF w b)(hv:∀n,v≠ .int .u32 n):bF (w.setCell ⟨b,k,none⟩ v) b:=by
 refine .mk' (CH w b k cs T v hb) (λj n C=> ?_);rw[Eh]at C;split at C
 ·split at C
  ·injection C with C;exact hv n C
  ·cases C
 ·exact o.2 j n (by rw[aE hb];exact C)
abbrev Kp(w:World)(F:List Nat)(w':World):Prop:=(Ent.mk w (λg=>g∈F) []).kept w'
variable{F:List Nat}
theorem Kp.chg(k:Kp w F w')(o:∀g∈F,bF w g):Chg w w' (· ∈F):=⟨k.size,k.block,o⟩
theorem Kp.of_below(h:AG w.heap.size w w'):Kp w F w':=⟨h.os,h.tape,h.output,h.size,λk C _=>h.block k C⟩
theorem Kp.upd(u:Upd w g w')(C:g∈F):Kp w F w':=⟨u.os,u.tape,u.output,by rw[u.size];exact AK _,λk _ G=>u.block k (λe=>G (e▸C))⟩
theorem Kp.mono{C:List Nat}(h:Kp w F w')(G:∀g∈F,g∈C):Kp w C w':=⟨h.os,h.tape,h.output,h.size,λk H hn=>h.block k H (λI=>hn (G k I))⟩
structure TPost(w:World)(t m:Nat)(E:List Ch)(w':World)(E':List Ch):Prop where
 tm:TM w' t m E'
 kp:Kp w (fpT t m E) w'
 fp:∀g∈fpT t m E',g∈fpT t m E\/w.heap.size<=g
theorem TPost.refl(h:TM w t m E)(hb:AG w.heap.size w w'):TPost w t m E w' E:=⟨h.below hb,.of_below hb,λ_ h=>.inl h⟩
theorem zN{ch:Ch}(hc:chE E c=some ch)(H:ch.ls[k]? =some l):∃E1 E2 C G,E=cZ E1 E2 c ch.rb ch.cap C G l/\C.length=k/\ch.ls=C++l::G:=by
 obtain⟨_,A,B,rfl,_⟩:=List.find?_eq_some_iff_append.1 hc;have e:=(cF hc).2;obtain⟨C,G,h1,h2⟩:=eW H;refine⟨A,B,C,G,?_,h2,h1⟩;unfold cZ;obtain⟨I,rb,cap,ls⟩:=ch;simp only at e h1⊢;subst e;subst h1;rfl
variable{G:List Ch}
theorem TM.lnd{H:List Ch}{I:List Ln}(h:TM w t m (cZ G H c rb cap I L2 l)):l.fp.Nodup:=by
 have C:=h.nd;rw[fy,BJ,BJ]at C;exact C.1.2.1
theorem TM.sub{C:List Ch}{H:List Ln}(_:TM w t m (cZ C G c rb cap H L2 l)):∀g∈l.fp,g∈fpT t m (cZ C G c rb cap H L2 l):=λg I=>by
 rw[fy];exact AJ.2 (.inl (AJ.2 (.inr I)))
theorem TM.mid{H:List Ch}{C:List Ln}(h:TM w t m (cZ G H c rb cap C L2 l)):LnAt w c l:=
 h.lns ⟨c,rb,cap,C++l::L2⟩ (AJ.2 (.inr (Bj ..))) l (AJ.2 (.inr (Bj ..)))
theorem LnAt.setv{j:Nat}(h:LnAt w c l)(hn:l.fp.Nodup)(o:bF w l.b)(hv:eO v)(U:lnQ c l'=(lnQ c l).set j (.val v))(hb:l'.b=l.b)(G:l'.g=l.g)(hs:l'.sl=l.sl)(ht:l'.x.tr=l.x.tr):LnAt (w.setCell ⟨l.b,j,none⟩ v) c l':=by
 obtain⟨⟨cs,h1,h2,h3⟩,h4⟩:=h;have K:Chg w (w.setCell ⟨l.b,j,none⟩ v) (λx=>x=l.b):=.upd o (Upd.cell w l.b j v);have C:l.b≠l.g/\∀b,l.sl.ownBlock=some b->b≠l.b:=by
  unfold Ln.fp at hn;obtain⟨J,_⟩:=Bv.1 hn;exact⟨λe=>J (e▸Bj ..),λb hb e=>J (e▸Bg _ (by simp[hb]))⟩
 refine⟨⟨cs.setIfInBounds j v,by rw[hb];exact CH w l.b j cs lkT v h1,by rw[U];simpa using h2,λi q hi=> ?_⟩,by rw[G,hs,ht];exact h4.chg K (λe=>C.1 e.symm) C.2⟩;rw[U,List.getElem?_set]at hi;rw[Eh];split at hi
 ·rename_i e;subst e;split at hi
  ·rename_i H;injection hi with hi;subst hi;rw[if_pos rfl,if_pos (by rw[h2];exact H)];exact⟨v,rfl,rfl,hv⟩
  ·cases hi
 ·rename_i e;rw[if_neg e];obtain⟨u,k1,k2⟩:=h3 i q hi;have I:q∈lnQ c l:=Bb hi;exact⟨u,k1,(q.ch _ _ _ u k2 K (λg G=>absurd G (uK q I _ _ _))).1⟩
theorem TM.setv{K U:List Ch}{V:List Ln}{j:Nat}(h:TM w t m (cZ K U c rb cap V L2 l))(hv:eO v)(Y:lnQ c l'=(lnQ c l).set j (.val v))(hb:l'.b=l.b)(H:l'.g=l.g)(hs:l'.sl=l.sl)(ht:l'.x.tr=l.x.tr):
  TPost w t m (cZ K U c rb cap V L2 l) (w.setCell ⟨l.b,j,none⟩ v) (cZ K U c rb cap V L2 l'):=by
 have G:∀g∈l.fp,bF w g:=λg H=>h.own g (h.sub g H)
 have hn:=h.lnd;have J:=h.mid;have u:=Upd.cell w l.b j v;have e:l'.fp=l.fp:=by unfold Ln.fp;rw[hb,H,hs]
 obtain⟨⟨cs,h1,_⟩,_⟩:=h.mid;have I:bF w l.b:=G _ (Bj ..);have hc:Chg w (w.setCell ⟨l.b,j,none⟩ v) (· ∈l.fp):=⟨by rw[u.size];exact AK _,λg _ H=>u.block g (λe=>H (e▸Bj ..)),G⟩;refine⟨h.put hb H (λb hb=>.inl (hs▸hb)) (J.setv hn I hv Y hb H hs ht) (λg C=> ?_) hc,.upd u (h.sub _ (Bj ..)),λg C=>.inl ?_⟩
 ·rw[e]at C;by_cases e2:g=l.b
  ·subst e2;exact set_own h1 I (λn=>hv.2.2 n)
  ·exact(G g C).blk (u.block g e2) (by rw[u.size];exact AK _)
 ·rw[fy]at C⊢;rw[hb,H,hs]at C;exact C
inductive DetS(R:Tr)(c:Nm)(u:Int):Tr->Int->Prop
 | none (h:oe R c):DetS R c u R 6
 | time {k:Nat} {x:Lk} (h:eA R c k x) (ht:u<=x.fr\/fw<u):DetS R c u R 17
 | ok {A B:Tr} {x:Lk} (e:R=A++(c,x)::B) (h:x.un= -1) (h1:x.fr<u) (h2:u<=fw):DetS R c u (A++(c,{x with un:=u})::B) 0
theorem qX(h:TM w t m E)(J:TOk (trE E))(G:opL (lsE E c)=none):oe (trE E) c:=by
 rintro i ⟨C,x⟩ hi ⟨h1,h2⟩;simp only at h1 h2;subst h1;have U:=Bb hi;obtain⟨A,B,e,_⟩:=eW hi;have K:=J.row C;have H:lks (trE E) C=lks A C++x::lks B C:=by rw[e,cY,if_pos rfl]
 have I:lks B C=[]:=j3 (A:=A) (c:=C) (x:=x) (by rw[<-e];exact K) h2;rw[I,iR h.keys]at H;unfold opL at G
 cases hl:(lsE E C).getLast? with
 | none=>
  have:=List.getLast?_eq_none_iff.1 hl;rw[this]at H;simp at H
 | some l=>
  have h4:((lsE E C).map (·.x)).getLast? =some l.x:=by rw[List.getLast?_map,hl];rfl
  rw[H,List.getLast?_append]at h4;simp at h4;rw[hl]at G;simp only at G;rw[if_pos (by rw[<-h4];exact h2)]at G;cases G
theorem m9(C:opL (lsE E c)=some l):l.x.un= -1/\∃ch,chE E c=some ch/\ch.ls[ch.ls.length - 1]? =some l:=by
 unfold opL at C
 cases hl:(lsE E c).getLast? with
 | none=>rw[hl]at C;cases C
 | some l'=>
  rw[hl]at C;simp only at C;split at C
  ·rename_i h1;injection C with C;subst C;refine⟨h1,?_⟩;unfold lsE at hl
   cases hc:chE E c with
   | none=>rw[hc]at hl;cases hl
   | some ch=>
    rw[hc]at hl;exact⟨ch,rfl,by rw[<-Fg];exact hl⟩
  ·cases C
theorem q_Detach(h:TM w t m E)(Z:TOk (trE E))(c:Nm)(u:Int):AH AE 68 #[ptB t,.string c,.int .i64 u] w λe w'=>∃E' code,e= .returned (.int .i64 code)/\TPost w t m E w' E'/\DetS (trE E) c u (trE E') code:=by
 have C:=l7 h c
 cases ho:opL (lsE E c)with
 | none=>
  rw[ho]at C
  change AH _ _ _ _ (λe w'=>e= .returned (.pointer none)/\w'=w)at C
  have U:=AF (show∃E' code,A4 (.int .i64 6)= .returned (.int .i64 code)/\TPost w t m E w E'/\DetS (trE E) c u (trE E') code from⟨E,6,rfl,.refl h (AL _ _),.none (qX h Z ho)⟩);clear h Z ho;go_enter Tryz.func68,Tryz.ntmps68
  go_wp2_with (go_at_call 124;refine C.mono ?_;rintro e w' ⟨rfl,H⟩;obtain rfl:=H.symm)
  go_ret;exact U.out
 | some l=>
  rw[ho]at C
  change AH _ _ _ _ (λe w'=>e= .returned (ptB l.b)/\w'=w)at C
  obtain⟨I,ch,hc,Y⟩:=m9 ho;have V:=h.ln hc (Bb Y);have ak:=V.fr;have hq:=cG.2 ⟨ch,(cF hc).1,l,Bb Y,rfl⟩;rw[(cF hc).2]at hq;obtain⟨k,J,K⟩:=BN hq;have G:eA (trE E) c k l.x:=⟨by rw[AU J,K],I⟩;by_cases c1:u<=l.x.fr
  ·have U:=AF (show∃E' code,A4 (.int .i64 17)= .returned (.int .i64 code)/\TPost w t m E w E'/\DetS (trE E) c u (trE E') code from⟨E,17,rfl,.refl h (AL _ _),.time G (.inl c1)⟩);clear h Z ho V hq G Y I hc J K;generalize l.x.fr=fr at *;generalize l.b=lb at *;go_enter Tryz.func68,Tryz.ntmps68
   go_wp2_with (go_at_call 124;refine C.mono ?_;rintro e w' ⟨rfl,H⟩;obtain rfl:=H.symm)
   go_ret;exact U.out
  ·by_cases c2:1099511627776<u
   ·have U:=AF (show∃E' code,A4 (.int .i64 17)= .returned (.int .i64 code)/\TPost w t m E w E'/\DetS (trE E) c u (trE E') code from⟨E,17,rfl,.refl h (AL _ _),.time G (.inr c2)⟩);clear h Z ho V hq G Y I hc J K;generalize l.x.fr=fr at *;generalize l.b=lb at *;go_enter Tryz.func68,Tryz.ntmps68
    go_wp2_with (go_at_call 124;refine C.mono ?_;rintro e w' ⟨rfl,H⟩;obtain rfl:=H.symm)
    go_ret;exact U.out
   ·obtain⟨E1,E2,L1,L2,rfl,_,aa⟩:=zN hc Y;have ab:decide (u<=l.x.fr)=false:=decide_eq_false c1;have ac:decide (1099511627776<u)=false:=decide_eq_false c2;have U:=AF (show∃E' code,A4 (.int .i64 0)= .returned (.int .i64 code)/\TPost w t m (cZ E1 E2 c ch.rb ch.cap L1 L2 l) (w.setCell ⟨l.b,3,none⟩ (.int .i64 u)) E'/\DetS (trE (cZ E1 E2 c ch.rb ch.cap L1 L2 l)) c u (trE E') code from by
     refine⟨cZ E1 E2 c ch.rb ch.cap L1 L2 {l with x:= {l.x with un:=u}},0,rfl,?_,?_⟩
     ·exact h.setv (l':= {l with x:= {l.x with un:=u}}) cw rfl rfl rfl rfl rfl
     ·rw[gZ,gZ];exact .ok rfl I Aa (by unfold fw;omega))
    have ad:=V.un;have am:w.frozen? ⟨l.b,3,none⟩=false:=by
     obtain⟨⟨cs,h1,_⟩,_⟩:=V;simp[World.frozen?,h1]
    clear h Z ho V hq G Y I hc J K c1 c2 aa;generalize l.x.fr=fr at *;generalize l.b=lb at *;go_enter Tryz.func68,Tryz.ntmps68
    go_wp2_with (go_at_call 124;refine C.mono ?_;rintro e w' ⟨rfl,H⟩;obtain rfl:=H.symm)
    go_ret;exact U.out
theorem fG{x:Nm}:uM E x↔aM (trE E) x:=by
 unfold uM aM;constructor
 ·rintro⟨ch,h1,l,h2,h3⟩;exact⟨(ch.c,l.x),cG.2 ⟨ch,h1,l,h2,rfl⟩,h3.imp Eq.symm Eq.symm⟩
 ·rintro⟨q,h1,h2⟩;obtain⟨ch,C,l,G,rfl⟩:=cG.1 h1;exact⟨ch,C,l,G,h2.imp Eq.symm Eq.symm⟩
open Classical in
theorem eZ.look {w:World} {b:Nat} {l:List Nm} (h:eZ w b l) (c:Nm):(CJ smT (.map (some b)) (.string c) false).run AE w= .ok (.bool (decide (c∈l))) w:=by
 rw[dt.look (P:=AE) (t:=smT) (z:=.bool false) h Fh (by kernel_rfl) (by rfl) c,List.find?_map]
 congr 1
 by_cases hc:c∈l
 ·rw[decide_eq_true hc];have:∃y,l.find? ((fun p:ByteArray×Value=>decide (p.1=c))∘ fun c=>(c,Ci true))=some y:=by
   cases hf:l.find? ((fun p:ByteArray×Value=>decide (p.1=c))∘ fun c=>(c,Ci true))with
   | some y=>exact⟨y,rfl⟩
   | none=>
    have:=Dp.1 hf c hc;simp at this
  obtain⟨y,hy⟩:=this;rw[hy];rfl
 ·rw[decide_eq_false hc,Dp.2 (fun x hx=>by
   have:x≠c:=fun e=>hc (e▸hx)
   simpa using this)]
  rfl
open Classical in
theorem eZ.lookT {w:World} {b:Nat} {l:List Nm} (h:eZ w b l) {c:Nm} (hc:c∈l):(CJ smT (.map (some b)) (.string c) false).run AE w= .ok (.bool true) w:=by rw[h.look,decide_eq_true hc]
open Classical in
theorem eZ.lookF {w:World} {b:Nat} {l:List Nm} (h:eZ w b l) {c:Nm} (hc:c∉l):(CJ smT (.map (some b)) (.string c) false).run AE w= .ok (.bool false) w:=by rw[h.look,decide_eq_false hc]
def kP(R:Tr)(a:Int)(x y:Nm):Prop:=(¬aM R x/\y=ES)\/(aM R x/\Reach R a x y/\par R a y=none)
theorem oQ(h:TM w t m E)(c:Nm)(a:Int):AH AE 90 #[ptB t,.string c,.int .i64 a] w λe w'=>e= .returned (ptO (atE E c a))/\w'=w:=q_at h c a
theorem q_Root(h:TM w t m E)(hE:TOk (trE E))(x:Nm)(a:Int):AH AE 36 #[ptB t,.string x,.int .i64 a] w λe w'=>∃y,e= .returned (.string y)/\kP (trE E) a x y/\AG w.heap.size w w':=by
 have I:=j5 h;by_cases hx:aM (trE E) x
 ·obtain⟨n,y,_,hy,hz⟩:=(hE.acy a x).root;have HP:=AF (show kP (trE E) a x y from .inr ⟨hx,mY hy,hz⟩);have U:=AF hx;have HY:=AF hy;have HZ:=AF hz;have H:=AF h;clear hx hy hz h;go_enter Tryz.func36,Tryz.ntmps36
  go_wp2_with (first
   | (go_at_call 89;refine I.mono ?_;rintro e w1 ⟨b,l,rfl,V,_,hl,hb⟩;have Y:=V.lookT ((hl x).2 (fG.2 U.out));have Z:=AF (H.out.below hb);have G:=oQ Z.out x a;have HB:=AF hb;clear hb hl V)
   | (go_at_call 90;refine G.mono ?_;rintro e w' ⟨rfl,J⟩;obtain rfl:=J.symm))
  clear Y G H I U;go_loopg [1,7] n (λk s1 s7 wr=>∃f,s1= .string f/\s7=ptO (atE E f a)/\wr=w1/\Hid (up (trE E) a k f=some y))
  case atStart=>exact⟨x,rfl,rfl,rfl,HY⟩
  case round=>
   clear HY;obtain⟨f,rfl,rfl,rfl,K⟩:=hrel;have C:par (trE E) a f=(atE E f a).map (·.x.par):=by unfold par;rw[<-Z.out.tAt,Option.map_map];rfl
   cases hl:atE E f a with
   | none=>
    rw[hl]at C;have ab:f=y:=by
     have:=K.out
     cases gk with
     | zero=>simp only[up,A9.injEq]at this;exact this
     | succ k=>simp only[up,C,EK,Option.bind_none]at this;cases this
    subst ab;clear C hl K HZ
    change (Code.wp _ _ _ _ _)
    have hp:ptO (none:Option Ln)= .pointer none:=rfl;go_wp2;go_ret;exact⟨_,rfl,HP.out,HB.out⟩
   | some l=>
    rw[hl]at C;obtain⟨_,_,_,hL⟩:=jB Z.out hl;have h1:=hL.par;have C:par (trE E) a f=some l.x.par:=C
    cases gk with
    | zero=>
     have e:f=y:=by have:=K.out;simp only[up,A9.injEq]at this;exact this
     subst e;rw[HZ.out]at C;cases C
    | succ k=>
     have aa:=AF (show up (trE E) a k l.x.par=some y by have:=K.out;simp only[up,C,Em]at this;exact this);have G:=oQ Z.out l.x.par a;have hp:ptO (some l)=ptB l.b:=rfl;clear hl hL K C;generalize l.b=lb at *;generalize l.x.par=p at *;go_wp2_with (go_at_call 90;refine G.mono ?_;rintro e w' ⟨rfl,J⟩;obtain rfl:=J.symm)
     go_roundg k
     case measure=>omega
     case rel=>exact⟨p,rfl,rfl,by trivial,aa⟩
 ·have U:=AF hx;clear hx;go_enter Tryz.func36,Tryz.ntmps36
  go_wp2_with (go_at_call 89;refine I.mono ?_;rintro e w1 ⟨b,l,rfl,V,_,hl,hb⟩;have Y:=V.lookF (λh=>U.out (fG.1 ((hl x).1 h)));have HB:=AF hb;clear hb hl V)
  go_ret;exact⟨_,rfl,.inl ⟨U.out,rfl⟩,HB.out⟩
theorem q_New(w:World):AH AE 31 #[] w λe w'=>∃t m,e= .returned (ptB t)/\TM w' t m []/\w.heap.size<=t/\w.heap.size<=m/\AG w.heap.size w w':=by
 obtain⟨w1,Y,I,H,J⟩:=mk_map mpT w;have C:=gM w1 (.cells #[.map (some w.heap.size)] qW);have hp:(w1.alloc (.cells #[.map (some w.heap.size)] qW)).heap[w1.heap.size]? =some (.cells #[.map (some w.heap.size)] qW (0,0)):=BE w1 _;have U:=AF (show∃t m,A4 (ptB w1.heap.size)= .returned (ptB t)/\TM (w1.alloc (.cells #[.map (some w.heap.size)] qW)) t m []/\w.heap.size<=t/\w.heap.size<=m/\AG w.heap.size w (w1.alloc (.cells #[.map (some w.heap.size)] qW))from by
  have G:dt (w1.alloc (.cells #[.map (some w.heap.size)] qW)) w.heap.size []:=I.other (C.block _ I.lt);refine⟨w1.heap.size,w.heap.size,rfl,⟨hp,G,λ_ h=>(by cases h),λ_ h=>(by cases h),?_,λg K=> ?_⟩,Aa,AK _,H.trans (C.mono Aa)⟩
  ·simp[fpT];omega
  ·simp only[fpT,List.flatMap_nil,A3,DE,or_false]at K;rcases K with rfl | rfl
   ·exact .mk' hp (λk n V=>by cases k<;>simp at V)
   ·exact G.own)
 clear I H C hp J;generalize w.heap.size=m at *;go_enter Tryz.func31,Tryz.ntmps31
 go_wp2;go_ret;exact U.out
abbrev qY(c:UInt8):Prop:=(97<=c.toNat/\c.toNat<=122)\/(65<=c.toNat/\c.toNat<=90)
theorem q_classL(n:Int)(h1:97<=n)(h2:n<=122):AH AE 183 #[.int .u8 n] w λe w'=>e= .returned (.int .i64 3)/\w'=w:=by
 have C:(n==32)=false:=beq_eq_false_iff_ne.2 Aa;have G:(n==9)=false:=beq_eq_false_iff_ne.2 Aa;have H:(n==10)=false:=beq_eq_false_iff_ne.2 Aa;have I:(n==35)=false:=beq_eq_false_iff_ne.2 Aa;go_enter Tryz.func183,Tryz.ntmps183
 go_wp2;go_ret;exact Aj
theorem q_classU(n:Int)(h1:65<=n)(h2:n<=90):AH AE 183 #[.int .u8 n] w λe w'=>e= .returned (.int .i64 3)/\w'=w:=by
 have C:(n==32)=false:=beq_eq_false_iff_ne.2 Aa;have G:(n==9)=false:=beq_eq_false_iff_ne.2 Aa;have H:(n==10)=false:=beq_eq_false_iff_ne.2 Aa;have I:(n==35)=false:=beq_eq_false_iff_ne.2 Aa;have J:decide (97<=n)=false:=decide_eq_false Aa;go_enter Tryz.func183,Tryz.ntmps183
 go_wp2;go_ret;exact Aj
theorem q_class1:AH AE 183 #[.int .u8 49] w λe w'=>e= .returned (.int .i64 4)/\w'=w:=by
 go_enter Tryz.func183,Tryz.ntmps183
 go_wp2;go_ret;exact Aj
theorem q_classN(c:UInt8)(h:qY c):AH AE 183 #[.int .u8 (c.toNat:Int)] w λe w'=>e= .returned (.int .i64 3)/\w'=w:=by
 rcases h with⟨h1,h2⟩ | ⟨h1,h2⟩
 ·exact q_classL _ Aa Aa
 ·exact q_classU _ Aa Aa
abbrev nm1(c:UInt8):Nm:= {data:=#[c]}
abbrev q9:Nm:= {data:=#[49,120]}
def cj(c:Nm):Prop:=0<c.size/\c.size<=16/\∀i (h:i<c.size),qY (c[i]'h)
theorem isNm1{a:UInt8}(h:qY a):cj (nm1 a):=⟨Nat.one_pos,(by decide:1<=16),λi hi=>by
 have h1:i<1:=hi;obtain rfl:i=0:=Aa
 exact h⟩
theorem sY(c:Nm)(h:cj c):AH AE 123 #[.string c] w λe w'=>e= .returned (.bool true)/\w'=w:=by
 obtain⟨h0,ac,hl⟩:=h;have H:∀i (hi:i<c.size),AH AE 183 #[.int .u8 ((c[i]'hi).toNat:Int)] w λe w'=>e= .returned (.int .i64 3)/\w'=w:=λi hi=>q_classN _ (hl i hi)
 have I:∀i (hi:i<c.size),(DV 9 (.string c) (.int .i64 (i:Int))).run AE w= .ok (.int .u8 ((c[i]'hi).toNat:Int)) w:=λi hi=>by
  have h1:c[i]? =some (c[i]'hi):=by simp[hi]
  simp[DV,asIntOf,AO,run_underlying Tryz.underlying9,AX,h1]
 have K:=rN (s:=c) Aa;have ak:¬c.toList=[]:=by intro e;rw[e]at K;cases K
 have G:=H 0 h0;have Z:(DV 9 (.string c) (.int .i64 0)).run AE w= .ok (.int .u8 ((c[0]'h0).toNat:Int)) w:=I 0 h0;have aa:=AF H;have ab:=AF I;obtain⟨n,hn⟩:∃n,n=c.size:=⟨_,rfl⟩;have C:decide ((16:Int)<(c.size:Int))=false:=decide_eq_false Aa;generalize (c[0]'h0).toNat=b0 at G Z;clear hl H I;go_enter Tryz.func123,Tryz.ntmps123
 obtain⟨m,hm⟩:∃m,c.size=m:=⟨_,rfl⟩;clear hn;rw[hm]at C ac;go_wp2_with (go_at_call 183;refine G.mono ?_;rintro e w' ⟨rfl,U⟩;obtain rfl:=U.symm)
 clear G Z K ak C;subst hm;have an:(c.size:Int)<=16:=Aa
 go_loopw [20] (λV wr=>∃i:Nat,i<=c.size/\V= .int .i64 (i:Int)/\wr=w) (λV _=>c.size - (intOf V).toNat)
 case atStart=>exact⟨0,Bc _,rfl,rfl⟩
 case round=>
  obtain⟨i,hi,rfl,am⟩:=hrel;obtain rfl:=am;rcases Bl i c.size with J | ao
  ·have Y:=aa.out i J;have ad:=ab.out i J;generalize (c[i]'J).toNat=bi at Y ad;go_wp2_with (go_at_call 183;refine Y.mono ?_;rintro e w' ⟨rfl,U⟩;obtain rfl:=U.symm)
   go_roundw
   case rel=>exact⟨i+1,Aa,by go_num,by trivial⟩
   case measure=>simp[intOf];omega
  ·obtain rfl:i=c.size:=Aa
   go_wp2;go_ret;exact⟨rfl,by trivial⟩
theorem q_IsNameB:AH AE 123 #[.string q9] w λe w'=>e= .returned (.bool false)/\w'=w:=by
 have hc:=q_class1 (w:=w);go_enter Tryz.func123,Tryz.ntmps123
 go_wp2_with (go_at_call 183;refine hc.mono ?_;rintro e w' ⟨rfl,C⟩;obtain rfl:=C.symm)
 go_ret;exact Aj
def Nam(c:Nm):Prop:=cj c\/c=q9
theorem aa0:¬cj q9:=λh=>by
 have:=h.2.2 0 th
 revert this
 decide
theorem xH(c:Nm)(h:Nam c):∃b:Bool,(b=true↔cj c)/\AH AE 123 #[.string c] w λe w'=>e= .returned (.bool b)/\w'=w:=by
 rcases h with h | rfl
 ·exact⟨true,⟨λ_=>h,λ_=>rfl⟩,sY c h⟩
 ·exact⟨false,⟨λh=>(by cases h),λh=>absurd h aa0⟩,q_IsNameB⟩
end Go.Proofs.YtggfmklppkioeaaGreat
