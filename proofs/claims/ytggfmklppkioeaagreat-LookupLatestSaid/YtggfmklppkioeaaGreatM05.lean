/- An executor: regions, code, functions. -/
import Derived.Test.YtggfmklppkioeaaGreatM04
import Derived.Scope
import Derived.Shelf.Strings.Split
import Derived.Shelf.Strings.Search3
import Derived.Shelf.Strings.Count
import Derived.Lib.IndexBytes
import Derived.Lib.Bytealg
import Derived.Lib.Strings
namespace Go.Proofs.YtggfmklppkioeaaGreat
set_option linter.unusedSimpArgs false
set_option linter.unusedVariables false
set_option maxRecDepth 100000
open Go.RowKit
open _root_.Go renaming Calls → AC,Exit → A4,Func → Cm,FuncId → BL,IntKind → C9,Operand → AP,Program → AW,bodyPost_ret → A7
open _root_.Array renaming getD_eq_getD_getElem? → E8,getElem?_eq_some_iff → AZ,getElem?_toList → GQ,replicate → Cu
open _root_.Go.RowKit.Below renaming refl → AF
open _root_.Bool renaming and_eq_true → BN,eq_false_or_eq_true → C6,false_eq_true → D8
open _root_.Go.Code renaming region → De
open _root_.Go.Ending renaming returned → BF
open _root_.Function renaming comp_def → FA
open _root_.Go.IntKind renaming signed → HQ,u64 → BE
open _root_.Go.Lib renaming hid → AA
open _root_.List renaming append_assoc → CO,append_nil → CP,flatMap_cons → Cw,getD_eq_getElem?_getD → DX,getElem?_append_left → Bz,getElem?_append_right → Bv,getElem?_cons_succ → FC,getElem?_cons_zero → Ec,getElem?_eq_getElem → AJ,getElem?_eq_some_iff → AX,getElem?_map → Bp,getElem?_range → Es,getElem?_replicate → FZ,length → DP,length_append → Bh,map_map → CE,mem_append → AG,mem_cons → AS,mem_cons_of_mem → Bf,mem_flatMap → Br,range → Bj,replicate → DW
open _root_.Nat renaming div_add_mod → Cf,gcd → AO,gcd_ne_zero_right → C7,le_of_not_lt → DK,le_refl → AE,le_trans → AD,mul_ne_zero → Cl,pos_of_ne_zero → Du,zero_add → A5
open _root_.Option renaming getD_some → DL,map_some → BG,some → A3
open _root_.Prod renaming mk → Ck
open _root_.Go.Result renaming andThen → AQ
open _root_.Go.Sem renaming run_bind → AH,run_pure → Bw
open _root_.Go.Proofs.Tryz renaming func235 → DY,func256 → EH,prog → AB,underlying251 → Dy
open _root_.Go.Value renaming bool → Cs,int → AK
def kV(o:Oper):List Nat:=(o.after.toList.filter (Region.binds .any)).map (·.on)
def objsO:Option AV->List Nat
 | some c=>c.objs
 | none=>[]
def Eff.note(e:Eff)(lk:Nat->Option AV):Eff:=⟨e.rd,e.wr,e.al,e.ks,e.ms++(e.rd.flatMap (λx=>objsO (lk x))++e.wr.flatMap (λq=>q.2.objs))⟩
variable{e:Eff}{lk:Nat->Option AV}
theorem Eff.note_wf:(e.note lk).Wf lk:=
 ⟨λx G c hc k C=>AG.2 (.inr (AG.2 (.inl (Br.2 ⟨x,G,by rw[hc];exact C⟩)))),
  λq F k C=>AG.2 (.inr (AG.2 (.inr (Br.2 ⟨q,F,C⟩))))⟩
variable{ρ:Rho}{vt:List (TypeId×Nat)}{j:Nat}
theorem OpOk.note{p:AW}{w0:Ent}{nt:Nat}{ops:Array Oper}{Q:A4->Act->World->Prop}{C:Nat->Option AV}(h:OpOk p ρ vt w0 nt ops Q j lk e):OpOk p ρ vt w0 nt ops Q j lk (e.note C):=
 λB a w hi H hn K F=>h B a w hi H hn K (λB' a' w' hp=>F B' a' w' ⟨hp.le,hp.inv,hp.wr,hp.keep,hp.new⟩)
def oF(p:AW)(C:List Inst)(L:List OIns)(nt:Nat)(ops:Array Oper)(b:Nat->Option AV):List Oper->Nat->List Nat->List (TypeId×Nat)->eo->Option (eo×List (TypeId×Nat))
 | [],_,_,vts,effs=>some (effs,vts)
 | o::r,j,ancs,vts,effs=>
  if (kV o).all (λk=>decide (k<j))then
   match xZ p C L nt ops (lkE b effs) vts o with
   | some (e,new)=>if aal ((kV o).foldl (λm k=>m ||| (ancs.getD k 0 ||| 1 <<< k)) 0) effs (e.note (lkE b effs))then
     oF p C L nt ops b r (j+1) (ancs++ [(kV o).foldl (λm k=>m ||| (ancs.getD k 0 ||| 1 <<< k)) 0]) (vts++new) ((j,e.note (lkE b effs))::effs)else none
   | none=>none
  else none
structure MS where
 slots:List (Option AV)
 vars:List (TypeId×List (Option Leaf))
def bJ(s:MS)(x:Nat):Option AV:=
 if x<100000 then(match s.slots[x]? with | some c=>c | none=>none)else
 match s.vars[x / 100000 - 1]? with
 | some v=>(match v.2[x % 100000]? with | some (some l)=>some (.v (.one l)) | _=>none)
 | none=>none
def leafA:AV->Option Leaf
 | .v (.one l)=>some l
 | _=>none
def pA:List (TypeId×List (Option Leaf))->Nat->Nat->Option Leaf->List (TypeId×List (Option Leaf))
 | [],_,_,_=>[]
 | v::r,0,k,l=>(v.1,v.2.set k l)::r
 | v::r,i+1,k,l=>v::pA r i k l
def rN(s:MS)(q:Nat×AV):MS:=
 if q.1<100000 then {s with slots:=s.slots.set q.1 (some q.2)}else {s with vars:=pA s.vars (q.1 / 100000 - 1) (q.1 % 100000) (leafA q.2)}
def x9(s:MS):List (Nat×AV)->MS
 | []=>s
 | q::r=>rN (x9 s r) q
def aas(ks:List Nat):Option Leaf->Option Leaf
 | some l=>if l.objs.any ks.contains then none else some l
 | none=>none
def pB(ks:List Nat)(s:MS):MS:=⟨s.slots.map (fil ks),s.vars.map λv=>(v.1,v.2.map (aas ks))⟩
def vh(ks:List Nat)(s:MS):MS:=match ks with
 | []=>s
 | k::ks=>pB (k::ks) s
def ig(s:MS):eo->MS
 | []=>s
 | (_,e)::r=>x9 (vh e.ks (ig s r)) e.wr
def d6(s:MS):List (TypeId×Nat):=s.vars.map λx=>(x.1,x.2.length)
def mz(s:MS)(new:List (TypeId×Nat)):MS:= {s with vars:=s.vars++new.map λx=>(x.1,DW x.2 none)}
def regX(p:AW)(C:List Inst)(L:List OIns)(nt:Nat)(ops:Array Oper)(s:MS):Option MS:=
 match oF p C L nt ops (bJ s) ops.toList 0 [] (d6 s) []with
 | some (effs,vts)=>some (ig (mz s (vts.drop s.vars.length)) effs)
 | none=>none
section
variable {p:AW} {ρ:Rho} {B:Blk} {a:Act} {w:World} {w0:Ent} {C:List Inst} {L:List OIns} {nt:Nat} {Q:A4->Act->World->Prop} {o:Oper} {ops:Array Oper} {b:Nat->Option AV}
theorem nI:∀ {l:List Oper} {j:Nat} {J:List Nat} {I F:List (TypeId×Nat)} {K G:eo},oF p C L nt ops b l j J I K=some (G,F)->∃H,F=I++H
 | [],_,_,I,F,_,_,h=>by simp[oF]at h;exact⟨[],by rw[h.2];simp⟩
 | o::r,j,J,I,F,K,G,h=>by
  simp only[oF]at h;split at h
  ·split at h
   ·rename_i e new _;split at h
    ·obtain⟨H,P⟩:=nI h;exact⟨new++H,by rw[P,CO]⟩
    ·cases h
   ·cases h
  ·cases h
variable{F new:List (TypeId×Nat)}
theorem mutE_al{op:Op}{args:List AP}{G:Option Tmp}{d:MutD}(h:mutE nt lk F op args G d=some (e,new)):∀v,e.al=some v->v=F.length/\new.length=1/\F.length<OW:=by
 unfold mutE at h;split at h
 ·rename_i hc;split at h
  ·split at h
   ·simp only[A3.injEq,Ck.injEq]at h;obtain⟨rfl,rfl⟩:=h;intro v H;simp only[BN]at hc;have hn:=hc.2.2
    cases hd:d.nv with
    | none=>simp[hd]at H
    | some q=>
     simp only[hd,BG,A3.injEq]at H;rw[hd]at hn;simp only[nvE,decide_eq_true_eq]at hn;exact⟨no,Ad,hn.2.1⟩
   ·cases h
  ·cases h
 ·cases h
theorem aat{G:List (TypeId×Nat)}(h:u7Q p C L nt lk G o=some (e,new)):∀v,e.al=some v->v=G.length/\new.length=1/\G.length<OW:=by
 unfold u7Q at h;split at h
 ·cases h
 ·dsimp only at h;have H:∀ {h:(match rH p L lk o.op with | some (c,rd)=>some (Eff.mk (jF o.op++rd) (wrD o.dst c) none [] [],([]:List (TypeId×Nat))) | none=>none)=some (e,new)},∀v,e.al=some v->v=G.length/\new.length=1/\G.length<OW:=by
   intro h;split at h
   ·simp at h;obtain⟨rfl,rfl⟩:=h;intro v F;cases F
   ·cases h
  split at h
  ·split at h
   ·split at h
    ·rename_i hc;simp at h;obtain⟨rfl,rfl⟩:=h;intro v F;injection F with F;exact⟨F.symm,rfl,hc.2.2⟩
    ·cases h
   ·cases h
  ·split at h
   ·split at h
    ·rename_i hc;simp at h;obtain⟨rfl,rfl⟩:=h;intro v F;injection F with F;exact⟨F.symm,rfl,hc.2.2⟩
    ·cases h
   ·cases h
  ·split at h
   ·split at h
    ·split at h
     ·simp at h;obtain⟨rfl,rfl⟩:=h;intro v F;cases F
     ·cases h
    ·cases h
   ·cases h
  ·split at h
   ·split at h
    ·split at h
     ·simp only[A3.injEq,Ck.injEq]at h;obtain⟨rfl,rfl⟩:=h;intro v F;cases F
     ·split at h
      ·exact mutE_al h
      ·cases h
    ·cases h
   ·split at h
    ·split at h
     ·split at h
      ·split at h
       ·split at h
        ·simp only[A3.injEq,Ck.injEq]at h;obtain⟨rfl,rfl⟩:=h;intro v F;cases F
        ·cases h
       ·cases h
      ·cases h
     ·cases h
    ·cases h
   ·exact H (h:=h)
  ·rename_i t n parts K;split at h
   ·rename_i d xs I J
    cases hr:cK L (.bs t n (parts.toList.map (·.1))) xs with
    | none=>rw[hr]at h;cases h
    | some r=>rw[hr]at h;simp only[BG,A3.injEq,Ck.injEq]at h;obtain⟨rfl,rfl⟩:=h;intro v F;cases F
   ·cases h
  ·exact H (h:=h)
theorem aau(h:xZ p C L nt ops lk F o=some (e,new)):∀v,e.al=some v->v=F.length/\new.length=1/\F.length<OW:=by
 unfold xZ at h;split at h
 ·exact aat h
 ·split at h
  ·split at h
   ·split at h
    ·cases he:u7Q p C L nt lk F o with
     | none=>rw[he]at h;cases h
     | some q=>
      rw[he]at h;obtain⟨I,H⟩:=q;simp at h;obtain⟨rfl,rfl⟩:=h;intro v G;exact aat he v G
    ·split at h
     ·simp at h;obtain⟨rfl,rfl⟩:=h;intro v G;cases G
     ·cases h
   ·split at h
    ·simp at h;obtain⟨rfl,rfl⟩:=h;intro v G;cases G
    ·cases h
   ·cases h
  ·cases h
theorem pC{f:Nat->Nat}:∀ {l:List Nat} {F i:Nat},(l.foldl (λm k=>m ||| (f k ||| 1 <<< k)) F).testBit i=true->F.testBit i=true\/∃k∈l,(f k).testBit i=true\/i=k
 | [],_,_,h=>.inl h
 | k::l,F,i,h=>by
  rcases pC (l:=l) h with h | ⟨H,h1,h2⟩
  ·simp only[Nat.testBit_or,Bool.or_eq_true]at h;rcases h with h | h | h
   ·exact .inl h
   ·exact .inr ⟨k,Ad,.inl h⟩
   ·rw[Nat.one_shiftLeft,Nat.testBit_two_pow]at h;have G:k=i:=by simpa using h
    exact .inr ⟨k,Ad,.inr G.symm⟩
  ·exact .inr ⟨H,Bf _ h1,h2⟩
theorem pD(h:ops[j]? =some o):ce .any ops j=kV o:=by unfold ce kV;rw[h]
theorem pE(hC:∀i∈C,i.Ok0 p ρ w0)(hO:∀i∈L,i.OkE w0 p ρ){nb:Nat}:∀ {l:List Oper} {j:Nat} {G:List Nat} {J I:List (TypeId×Nat)} {H F:eo},oF p C L nt ops b l j G J H=some (F,I)->
  l=ops.toList.drop j->j<=ops.size->H.length=j->G.length=j->(∀k,k<j->aam .any ops (G.getD k 0) k)->(∀k,k<j->∀i∈ce .any ops k,i<k)->nb<=J.length->(∀q∈H,∀v,q.2.al=some v->v<J.length)->
  pp p ρ I w0 nt .any ops Q b nb H->pp p ρ I w0 nt .any ops Q b nb F/\F.length=ops.size/\(∀k,k<ops.size->∀i∈ce .any ops k,i<k)/\(∀q∈F,∀v,q.2.al=some v->v<I.length)
 | [],j,G,J,I,H,F,h,hl,hj,he,_,_,hd,_,hal,hg=>by
  simp[oF]at h;obtain⟨rfl,rfl⟩:=h;have:ops.size<=j:=by
   have:=congrArg DP hl;simp at this;omega
  have aa:j=ops.size:=no
  exact⟨hg,by rw[he,aa],by rw[<-aa];exact hd,hal⟩
 | o::r,j,G,J,I,H,F,h,hl,hj,he,hna,ha,hd,hnb,hal,hg=>by
  have ao:j<ops.size:=by
   have:=congrArg DP hl;simp at this;omega
  have K:ops[j]? =some o:=by
   have:=congrArg (λx=>x[0]?) hl;simp only[Ec,List.getElem?_drop,Nat.add_zero,GQ]at this;exact this.symm
  have hr:r=ops.toList.drop (j+1):=by
   have:=congrArg List.tail hl;simpa using this
  simp only[oF]at h;split at h
  ·rename_i ak;have Y:∀k∈kV o,k<j:=λk hk=>by simpa using List.all_eq_true.1 ak k hk
   split at h
   ·rename_i e new V;split at h
    ·rename_i ad;obtain⟨an,Z⟩:=nI h;have P:=aau V;have U:aam .any ops ((kV o).foldl (λm k=>m ||| (G.getD k 0 ||| 1 <<< k)) 0) j:=by
      intro i hi T hT hp;rcases pC (f:=λk=>G.getD k 0) hi with h | ⟨k,h1,h2 | h2⟩
      ·simp at h
      ·have ac:=hp k (by rw[pD K];exact h1);exact ha k (Y k h1) i h2 T hT (λi' ab=>hT k ac i' ab)
      ·rw[h2];exact hp k (by rw[pD K];exact h1)
     refine pE hC hO h hr no (by simp[he]) (by simp[hna]) (λk hk=> ?_) (λk hk i hi=> ?_) (by simp;omega) (λq hq v hv=> ?_) ⟨he.symm,?_,⟨_,U,ad⟩,Eff.note_wf,λv hv=> ?_,hg⟩
     ·by_cases hkj:k<j
      ·have:=ha k hkj;rwa [DX,Bz no,<-DX]
      ·obtain rfl:k=j:=no
       rw[DX,Bv no];simpa [hna]using U
     ·by_cases hkj:k<j
      ·exact hd k hkj i hi
      ·obtain rfl:k=j:=no
       rw[pD K]at hi;exact Y i hi
     ·rcases AS.1 hq with rfl | hq
      ·have:=P v hv;simp;omega
      ·have:=hal q hq v hv;simp;omega
     ·exact(aar hC hO K V (by rw[Z,CO])).note
     ·have:=P v hv;exact⟨⟨no,no⟩,λq hq am=>by have:=hal q hq v am;omega⟩
    ·cases h
   ·cases h
  ·cases h
def MSt(ρ:Rho)(w0:Ent)(nt:Nat)(s:MS)(a:Act)(w:World):Prop:=
 ∃B,Inv (d6 s) w0 nt B a w/\(∀x c,bJ s x=some c->bN ρ B a w x c)/\∀v,B.v v≠none->v<s.vars.length
theorem vi:∀ {vs:List (TypeId×List (Option Leaf))} {i k:Nat} {l:Option Leaf} {F:Nat},(pA vs i k l)[F]? =if F=i then(vs[i]?).map (λv=>(v.1,v.2.set k l))else vs[F]?
 | [],i,k,l,F=>by simp[pA]
 | v::r,0,k,l,0=>by simp[pA]
 | v::r,0,k,l,F+1=>by simp[pA]
 | v::r,i+1,k,l,0=>by simp[pA]
 | v::r,i+1,k,l,F+1=>by
  simp only[pA,FC,vi (vs:=r),Nat.add_right_cancel_iff]
theorem vj:∀ {vs:List (TypeId×List (Option Leaf))} {i k:Nat} {l:Option Leaf},(pA vs i k l).map (λx=>(x.1,x.2.length))=vs.map (λx=>(x.1,x.2.length))
 | [],_,_,_=>rfl
 | v::r,0,k,l=>by simp[pA]
 | v::r,i+1,k,l=>by simp[pA,vj (vs:=r)]
variable{s:MS}{x:Nat}{c:AV}
theorem msSet_get{q:Nat×AV}(h:bJ (rN s q) x=some c):(x=q.1/\c=q.2)\/(x≠q.1/\bJ s x=some c):=by
 unfold rN at h;split at h
 ·rename_i G;unfold bJ at h⊢;simp only at h⊢;split at h
  ·rename_i F;rw[if_pos F];by_cases e:x=q.1
   ·subst e;rw[List.getElem?_set_self']at h
    cases hs:s.slots[q.1]? with
    | none=>rw[hs]at h;simp at h
    | some y=>rw[hs]at h;simp at h;exact .inl ⟨rfl,h.symm⟩
   ·rw[List.getElem?_set_ne (λh=>e h.symm)]at h;exact .inr ⟨e,h⟩
  ·rename_i F;rw[if_neg F];exact .inr ⟨λe=>F (by rw[e];exact G),h⟩
 ·rename_i G;unfold bJ at h⊢;simp only at h⊢;split at h
  ·rename_i F;rw[if_pos F];exact .inr ⟨λe=>G (by rw[<-e];exact F),h⟩
  ·rename_i F;rw[if_neg F];rw[vi]at h;by_cases e:x / 100000 - 1=q.1 / 100000 - 1
   ·rw[if_pos e]at h
    cases hv:s.vars[q.1 / 100000 - 1]? with
    | none=>rw[hv]at h;simp at h
    | some v=>
     rw[hv]at h;simp only[BG]at h;by_cases e2:x % 100000=q.1 % 100000
     ·have I:x=q.1:=by
       have h1:=Cf x 100000;have h2:=Cf q.1 100000;omega
      rw[e2]at h
      cases hs:v.2[q.1 % 100000]? with
      | none=>rw[List.getElem?_set_self',hs]at h;simp at h
      | some y=>
       rw[List.getElem?_set_self (AX.1 hs).1]at h
       cases hl:leafA q.2 with
       | none=>rw[hl]at h;simp at h
       | some l=>
        rw[hl]at h;simp at h;refine .inl ⟨I,?_⟩;unfold leafA at hl;split at hl
        ·rename_i J H;injection hl with hl;subst hl;rw[H];exact h.symm
        ·cases hl
     ·rw[List.getElem?_set_ne (λh=>e2 h.symm)]at h;refine .inr ⟨λe'=>e2 (by rw[e']),?_⟩;rw[e,hv];exact h
   ·rw[if_neg e]at h;exact .inr ⟨λe'=>e (by rw[e']),h⟩
theorem vl{s:MS}:∀ {l:List (Nat×AV)},bJ (x9 s l) x=some c->(match l.find? (λq=>q.1==x)with | some q=>some q.2 | none=>bJ s x)=some c
 | [],h=>h
 | q::l,h=>by
  rcases msSet_get (s:=x9 s l) h with⟨F,G⟩ | ⟨h1,h2⟩
  ·rw[List.find?_cons_of_pos (by simpa using F.symm),G]
  ·rw[List.find?_cons_of_neg (by simpa using λe=>h1 e.symm)];exact vl h2
variable{ks:List Nat}
theorem rO(h:bJ (pB ks s) x=some c):fil ks (bJ s x)=some c:=by
 unfold bJ pB at h;unfold bJ;simp only at h;split at h
 ·rename_i F;rw[if_pos F];rw[Bp]at h
  cases e:s.slots[x]? with
  | none=>rw[e]at h;simp at h
  | some d=>rw[e]at h;simpa using h
 ·rename_i F;rw[if_neg F];rw[Bp]at h
  cases e:s.vars[x / 100000 - 1]? with
  | none=>rw[e]at h;simp at h
  | some d=>
   rw[e]at h;simp only[BG,Bp]at h
   cases e2:d.2[x % 100000]? with
   | none=>rw[e2]at h;simp at h
   | some l=>
    rw[e2]at h;simp only[BG]at h
    cases l with
    | none=>simp[aas]at h
    | some l=>
     simp only[aas]at h;split at h
     ·rename_i G hl;split at hl
      ·cases hl
      ·rename_i hn;injection hl with hl;injection hl with hl;subst hl;injection h with h;subst h;simp only[e2];exact jE rfl (by simpa [AV.hit,AV.objs,SV.objs]using hn)
     ·cases h
theorem kill0_get(h:bJ (vh ks s) x=some c):fil ks (bJ s x)=some c:=by
 cases ks with
 | nil=>exact jE h (by simp[AV.hit])
 | cons k ks=>exact rO h
theorem killS_vt:d6 (pB ks s)=d6 s:=by
 unfold d6 pB;simp[CE,FA]
theorem kill0_vt:d6 (vh ks s)=d6 s:=by
 cases ks with
 | nil=>rfl
 | cons k ks=>exact killS_vt
theorem kW{s:MS}:∀ {r:eo},bJ (ig s r) x=some c->lkE (bJ s) r x=some c
 | [],h=>h
 | (_,e)::r,h=>by
  have h1:=vl (s:=vh e.ks (ig s r)) h;simp only[lkE];split at h1
  ·rename_i q F;rw[F];exact h1
  ·rename_i F;rw[F];obtain⟨h2,h3⟩:=fh (kill0_get h1);exact jE (kW h2) h3
theorem pF{b F:Nat->Option AV}(h:∀x c,b x=some c->F x=some c):∀ {r:eo} {x:Nat} {c:AV},lkE b r x=some c->lkE F r x=some c
 | [],x,c,e=>h x c e
 | (_,e)::r,x,c,he=>by
  simp only[lkE]at he⊢;split at he
  ·exact he
  ·obtain⟨h1,h2⟩:=fh he;exact jE (pF h h1) h2
theorem rP(h:bJ (mz s new) x=some c):bJ s x=some c:=by
 unfold bJ mz at *;simp only at *;split at h
 ·rename_i G;rw[if_pos G];exact h
 ·rename_i G;rw[if_neg G];by_cases hv:x / 100000 - 1<s.vars.length
  ·rw[Bz hv]at h;exact h
  ·rw[Bv no]at h;exfalso;split at h
   ·rename_i v F;rw[Bp]at F
    cases hn:new[x / 100000 - 1 - s.vars.length]? with
    | none=>rw[hn]at F;cases F
    | some y=>
     rw[hn]at F;simp at F;subst F;split at h
     ·rename_i l hl;simp only[FZ]at hl;split at hl<;>cases hl
     ·cases h
   ·cases h
theorem msSet_vt{q:Nat×AV}:d6 (rN s q)=d6 s:=by
 unfold rN;split
 ·rfl
 ·exact vj
theorem aav:∀ {l:List (Nat×AV)},d6 (x9 s l)=d6 s
 | []=>rfl
 | q::l=>by show d6 (rN (x9 s l) q)=_;rw[msSet_vt,aav]
theorem iD:∀ {r:eo},d6 (ig s r)=d6 s
 | []=>rfl
 | (_,e)::r=>by show d6 (x9 (vh e.ks (ig s r)) e.wr)=_;rw[aav,kill0_vt,iD]
theorem fj:(d6 s).length=s.vars.length:=by simp[d6]
theorem mA:d6 (mz s new)=d6 s++new:=by
 have:∀l:List (TypeId×Nat),(l.map λx=>(x.1,DW x.2 (none:Option Leaf))).map (λx=>(x.1,x.2.length))=l:=λl=>by
  induction l with
  | nil=>rfl
  | cons x l ih=>simp only[List.map_cons,ih,List.length_replicate]
 simp only[d6,mz,List.map_append,this]
theorem Inv.ext(h:Inv vt w0 nt B a w)(new:List (TypeId×Nat)):Inv (vt++new) w0 nt B a w:=
 ⟨λv g F=>by
  obtain⟨h1,cs,ty,h2,h3⟩:=h.blk v g F;exact⟨h1,cs,ty,by rw[Bz (AX.1 h2).1];exact h2,h3⟩,h.own,h.inj,h.below,h.size,h.dfr,h.pin⟩
theorem pG(hC:∀i∈C,i.Ok0 p ρ w0)(hO:∀i∈L,i.OkE w0 p ρ)(hm:p.follows .mixedOrders=true){s':MS}{id:Nat}{J:Bool}(h:regX p C L nt ops s=some s')(hs:MSt ρ w0 nt s a w)
  (hQ:∀a' w',MSt ρ w0 nt s' a' w'->Q .normal a' w'):(De id ops J).wp p Q a w:=by
 unfold regX at h;split at h
 ·rename_i G H he;simp at h;subst h;obtain⟨U,F⟩:=nI he;obtain⟨hg,K,I,V⟩:=pE (ρ:=ρ) (w0:=w0) (Q:=Q) (nb:=s.vars.length) hC hO he Ad no rfl rfl (λk hk=>no) (λk hk=>no) (by rw[fj];omega) (λq Y=>by cases Y) trivial;obtain⟨B,hi,hv,hB⟩:=hs;have P:H.drop s.vars.length=U:=by rw[F,<-fj,List.drop_left]
  have start:∀w1,mBw w w1->StT ρ H w0 nt (bJ s) s.vars.length G [] a w1:=λw1 hb=>by
   refine StT.start (B:=B) ?_ (λx c hx=>(hv x c hx).below BLe.refl .refl hb (λ_=>rfl)) hB;rw[F];exact(hi.below' hb rfl rfl).ext U
  have fin:∀a' w',StF ρ H w0 nt (lkE (bJ s) G) s.vars.length G a' w'->Q .normal a' w':=λa' w' ⟨B',h1,h2,h3⟩=>by
   refine hQ a' w' ⟨B',?_,λx c hx=>h2 x c (pF (λx c h=>rP h) (kW hx)),λv hv=> ?_⟩
   ·rw[iD,P,mA,<-F];exact h1
   ·have hl:(ig (mz s (H.drop s.vars.length)) G).vars.length=H.length:=by rw[<-fj,iD,P,mA,<-F]
    rw[hl];rcases h3 v hv with h | ⟨q,Y,Z⟩
    ·have:s.vars.length<=H.length:=by rw[F,Bh,fj];omega
     omega
    ·exact V q Y v Z
  cases J with
  | true=>exact wp_region_any hm (any_sound hg K I (start _ (aN (AF _ _) 1)) fin)
  | false=>exact wp_region (xR hg K I (start _ (AF _ _)) fin)
 ·cases h
end
def stepS(p:AW)(C:List Inst)(L:List OIns)(nt:Nat)(ops:Array Oper)(s:MS)(j:Nat):Option MS:=
 match ops[j]? with
 | none=>none
 | some o=>match xZ p C L nt ops (bJ s) (d6 s) o with
  | some (e,new)=>some (ig (mz s new) [(j,e)])
  | none=>none
def seqX(p:AW)(C:List Inst)(L:List OIns)(nt:Nat)(ops:Array Oper):List Nat->MS->Option MS
 | [],s=>some s
 | j::js,s=>match stepS p C L nt ops s j with
  | some s1=>seqX p C L nt ops js s1
  | none=>none
section
variable {p:AW} {ρ:Rho} {B B':Blk} {a a':Act} {w w':World} {w0:Ent} {C:List Inst} {L:List OIns} {nt i:Nat} {Q:A4->Act->World->Prop} {o:Oper} {ops:Array Oper} {v:Value} {vt:List (TypeId×Nat)} {ks:List Nat} {X:Nat->Prop}
variable{K:Act->World->Prop}
theorem yc(Y:∀i∈C,i.Ok0 p ρ w0)(hO:∀i∈L,i.OkE w0 p ρ){s:MS}{new:List (TypeId×Nat)}(ho:ops[j]? =some o)(U:xZ p C L nt ops (bJ s) (d6 s) o=some (e,new))(hs:MSt ρ w0 nt s a w)(Z:∀a' w',MSt ρ w0 nt (ig (mz s new) [(j,e)]) a' w'->K a' w'):wpOp p ops Q j K a w:=by
 obtain⟨B,hi,V,P⟩:=hs;have I:=aar (ρ:=ρ) (w0:=w0) (Q:=Q) Y hO ho U (vt:=d6 s++(new++ [])) rfl;have G:=aau U;refine I B a w (by rw[CP];exact hi.ext new) (λx _ c hc=>V x c hc) (λv F=> ?_) K (λB' a' w' hp=>Z a' w' ⟨B',?_,λx c hx=> ?_,λv F=> ?_⟩)
 ·cases hb:B.v v with
  | none=>rfl
  | some g=>
   have h1:=G v F;have h2:=P v (by rw[hb];simp);rw[h1.1,fj]at h2;omega
 ·rw[iD,mA];have:=hp.inv;rwa [CP]at this
 ·have h1:=pF (λx c h=>rP h) (kW hx);simp only[lkE]at h1
  cases hf:e.wr.find? (λq=>q.1==x)with
  | some q=>
   rw[hf]at h1;have h2:=List.find?_some hf;have h3:=List.mem_of_find?_eq_some hf;simp only[beq_iff_eq]at h2;have J:=hp.wr q h3;simp only[A3.injEq]at h1;rw[h2,h1]at J;exact J
  | none=>
   rw[hf]at h1;obtain⟨h1,h2⟩:=fh h1;exact hp.keep x c (V x c h1) (λq hq e=>by have:=List.find?_eq_none.1 hf q hq;simp[e]at this) h2
 ·have H:(ig (mz s new) [(j,e)]).vars.length=s.vars.length+new.length:=by
   rw[<-fj,iD,mA,Bh,fj]
  rw[H]
  cases hb:B.v v with
  | some g=>have:=P v (by rw[hb];simp);omega
  | none=>
   have h1:=G v (hp.new v hb F);rw[h1.1,fj];omega
theorem vn(G:∀i∈C,i.Ok0 p ρ w0)(I:∀i∈L,i.OkE w0 p ρ){s F:MS}(h:stepS p C L nt ops s j=some F)(hs:MSt ρ w0 nt s a w)(H:∀a' w',MSt ρ w0 nt F a' w'->K a' w'):wpOp p ops Q j K a w:=by
 unfold stepS at h;split at h
 ·cases h
 ·rename_i o P;split at h
  ·rename_i e new J;injection h with h;subst h;exact yc G I P J hs H
  ·cases h
theorem pH(I:∀i∈C,i.Ok0 p ρ w0)(J:∀i∈L,i.OkE w0 p ρ):∀ {H:List Nat} {s F:MS} {a:Act} {w:World},seqX p C L nt ops H s=some F->MSt ρ w0 nt s a w->(∀a' w',MSt ρ w0 nt F a' w'->Q .normal a' w')->wpOps p ops Q H a w
 | [],s,F,a,w,h,hs,hQ=>by
  simp only[seqX,A3.injEq]at h;subst h;simp only[wpOps];exact hQ a w hs
 | j::H,s,F,a,w,h,hs,hQ=>by
  simp only[seqX]at h;split at h
  ·rename_i K h1;rw[wpOps_cons];exact vn I J h1 hs (λa' w' G=>pH I J h G hQ)
  ·cases h
theorem Leaf.holds.less{l:Leaf}(h:l.holds ρ B w v)(I:∀x g,B'.v x=some g↔B.v x=some g)(K:∀k g,B'.o k g->B.o k g)(H:∀k∈l.objs,∀g,B.o k g->B'.o k g):l.holds ρ B' w v:=by
 cases l<;>simp only[Leaf.holds]at h⊢ <;>try exact h
 ·obtain⟨g,h1,h2⟩:=h;exact⟨g,(I _ _).2 h1,h2⟩
 ·obtain⟨s,h1,h2,h3⟩:=h;refine⟨s,h1,h2,λg F G=>h3 g F ?_⟩;rcases G with⟨x,G⟩ | ⟨k,G⟩
  ·exact .inl ⟨x,(I _ _).1 G⟩
  ·exact .inr ⟨k,K _ _ G⟩
 ·rename_i k m;obtain⟨s,h1,h2,h3,J⟩:=h;exact⟨s,h1,h2,λg F=>H k (by simp[Leaf.objs]) g (h3 g F),λg F=>H k (by simp[Leaf.objs]) g (J g F)⟩
theorem aD.less(H:∀x g,B'.v x=some g↔B.v x=some g)(G:∀k g,B'.o k g->B.o k g):∀ {ls:List Leaf} {vs:List Value},aD ρ B w ls vs->(∀k∈ls.flatMap Leaf.objs,∀g,B.o k g->B'.o k g)->aD ρ B' w ls vs
 | [],[],_,_=>trivial
 | _::_,_::_,h,hn=>⟨h.1.less H G (λk F=>hn k (by simp[F])),aD.less H G h.2 (λk F=>hn k (by rw[Cw];exact AG.2 (.inr F)))⟩
 | [],_::_,h,_=>h.elim
 | _::_,[],h,_=>h.elim
theorem SV.holds.less{s:SV}(h:s.holds ρ B w v)(H:∀x g,B'.v x=some g↔B.v x=some g)(G:∀k g,B'.o k g->B.o k g)(F:∀k∈s.objs,∀g,B.o k g->B'.o k g):s.holds ρ B' w v:=by
 cases s with
 | one l=>exact Leaf.holds.less h H G F
 | agg ls=>obtain⟨vs,e,h⟩:=h;exact⟨vs,e,h.less H G F⟩
theorem cO.less(H:∀x g,B'.v x=some g↔B.v x=some g)(G:∀k g,B'.o k g->B.o k g):∀ {ls:List SV} {vs:List Value},cO ρ B w ls vs->(∀k∈ls.flatMap SV.objs,∀g,B.o k g->B'.o k g)->cO ρ B' w ls vs
 | [],[],_,_=>trivial
 | _::_,_::_,h,hn=>⟨h.1.less H G (λk F=>hn k (by simp[F])),cO.less H G h.2 (λk F=>hn k (by rw[Cw];exact AG.2 (.inr F)))⟩
 | [],_::_,h,_=>h.elim
 | _::_,[],h,_=>h.elim
theorem AV.holds.less{c:AV}(h:c.holds ρ B w v)(H:∀x g,B'.v x=some g↔B.v x=some g)(G:∀k g,B'.o k g->B.o k g)(F:∀k∈c.objs,∀g,B.o k g->B'.o k g):c.holds ρ B' w v:=by
 cases c with
 | v s=>exact SV.holds.less h H G F
 | tup xs=>obtain⟨vs,e,h⟩:=h;exact⟨vs,e,h.less H G F⟩
 | any=>exact h
def frzL(i n n':Nat)(l:Leaf):Option Leaf:=match l with
 | .own k m=>if k=i then(if m=n then some (.ref n')else none)else some l
 | _=>some l
def frzA(i n n':Nat):Option AV->Option AV
 | some (.v (.one l))=>(frzL i n n' l).map λl=>.v (.one l)
 | some c=>if c.hit [i]then none else some c
 | none=>none
def frz1(i n n':Nat)(s:MS):MS:=⟨s.slots.map (frzA i n n'),s.vars.map λv=>(v.1,v.2.map (aas [i]))⟩
def frzS(L:List OIns)(id:Nat)(s:MS):MS:=L.foldl (λs o=>match o.key,o.xs,o.r with
 | .frz r i,[.one (.ref n)],.one (.ref n')=>if r=id then frz1 i n n' s else s
 | _,_,_=>s) s
theorem yd{n J rid:Nat}{s:MS}(hr:(OIns.mk (.frz rid i) [.one (.ref n)] (.one (.ref J))).Ok p ρ)(hs:MSt ρ w0 nt s a w):MSt ρ w0 nt (frz1 i n J s) a w:=by
 obtain⟨B,hi,U,Y⟩:=hs;have less:∀ {c:AV} {u:Value},c.holds ρ B w u->c.hit [i]=false->c.holds ρ ⟨B.v,λk g=>k≠i/\B.o k g⟩ w u:=λ{c u} h hn=>h.less (λ_ _=>Iff.rfl) (λ_ _ h=>h.2) (λk I g H=>⟨λe=>by
  subst e;have:=List.any_eq_false.1 hn k I;simp at this,H⟩)
 have P:d6 (frz1 i n J s)=d6 s:=by unfold d6 frz1;simp[CE,FA]
 refine⟨⟨B.v,λk g=>k≠i/\B.o k g⟩,⟨λx g H=>by rw[P];exact hi.blk x g H,λk g H=>hi.own k g H.2,⟨hi.inj.v,λk l g h1 h2=>hi.inj.o k l g h1.2 h2.2,λx k g h1 h2=>hi.inj.vo x k g h1 h2.2⟩,hi.below,hi.size,hi.dfr,hi.pin⟩,λx c F=> ?_,λx F=>by simpa [frz1]using Y x F⟩;unfold bJ frz1 at F;simp only at F;split at F
 ·rename_i G;rw[Bp]at F
  cases e:s.slots[x]? with
  | none=>rw[e]at F;simp at F
  | some d=>
   rw[e]at F;have h1:frzA i n J d=some c:=by simpa using F
   cases d with
   | none=>cases h1
   | some d=>
    have h2:=U x d (by unfold bJ;rw[if_pos G,e]);unfold bN at h2⊢;rw[if_pos G]at h2⊢;obtain⟨u,K,k2⟩:=h2;refine⟨u,K,?_⟩;have other:(if d.hit [i]then none else some d)=some c->c.holds ρ ⟨B.v,λk g=>k≠i/\B.o k g⟩ w u:=λh=>by
     split at h
     ·cases h
     ·rename_i hn;injection h with h;subst h;exact less k2 (by simpa using hn)
    cases d with
    | v sv=>
     cases sv with
     | one l=>
      simp only[frzA]at h1
      cases hf:frzL i n J l with
      | none=>rw[hf]at h1;cases h1
      | some l'=>
       rw[hf]at h1;simp only[BG,A3.injEq]at h1;subst h1
       cases l with
       | own k m=>
        simp only[frzL]at hf;split at hf
        ·rename_i I;subst I;split at hf
         ·rename_i Z;subst Z;injection hf with hf;subst hf;obtain⟨q,q1,q2,q3,q4⟩:=k2;have V:(Leaf.ref m).holds ρ ⟨B.v,λl g=>l≠k/\B.o l g⟩ w u:=⟨q,q1,q2,λg H F=>by
           rcases F with⟨x,F⟩ | ⟨l,hl,F⟩
           ·exact hi.inj.vo _ _ _ F (q3 g H)
           ·exact hl (hi.inj.o _ _ _ F (q3 g H))⟩
          exact hr _ w [u] ⟨V,trivial⟩
         ·cases hf
        ·rename_i I;injection hf with hf;subst hf;exact less (c:=.v (.one (.own k m))) k2 (by simpa [AV.hit,AV.objs,SV.objs,Leaf.objs]using I)
       | _=>
        simp only[frzL,A3.injEq]at hf;subst hf;exact less k2 Af
     | agg ls=>exact other h1
    | tup xs=>exact other h1
    | any=>exact other h1
 ·rename_i G;have I:bJ (pB [i] s) x=some c:=by
   unfold bJ pB;rw[if_neg G];exact F
  obtain⟨h1,h2⟩:=fh (rO I);have h3:=U x c h1;unfold bN at h3⊢;rw[if_neg G]at h3⊢;obtain⟨g,cs,ty,u,K,k2,k3,k4⟩:=h3;exact⟨g,cs,ty,u,K,k2,k3,less k4 h2⟩
theorem pI{id:Nat}:∀ {L:List OIns} {s:MS},(∀i∈L,i.OkE w0 p ρ)->MSt ρ w0 nt s a w->MSt ρ w0 nt (frzS L id s) a w
 | [],s,_,hs=>hs
 | q::L,s,hO,hs=>by
  unfold frzS;rw[List.foldl_cons];refine pI (λi hi=>hO i (Bf _ hi)) ?_;split
  ·rename_i r i n F h1 h2 h3;split
   ·refine yd (p:=p) (rid:=r) ?_ hs;have:=hO q Ad;obtain⟨k,xs,G⟩:=q;simp only at h1 h2 h3;subst h1;subst h2;subst h3;exact this
   ·exact hs
  ·exact hs
end
def regZ(p:AW)(C:List Inst)(L:List OIns)(nt id:Nat)(ops:Array Oper)(draw:Bool)(s:MS):Option MS:=
 match regX p C L nt ops (frzS L id s)with
 | some s1=>some s1
 | none=>if draw then none else seqX p C L nt ops (Bj ops.size) (frzS L id s)
section
variable {p:AW} {ρ:Rho} {a:Act} {w:World} {w0:Ent} {C:List Inst} {L:List OIns} {nt:Nat} {Q:A4->Act->World->Prop} {ops:Array Oper}
theorem ye(I:∀i∈C,i.Ok0 p ρ w0)(H:∀i∈L,i.OkE w0 p ρ)(P:p.follows .mixedOrders=true){s K:MS}{id:Nat}{F:Bool}(h:regZ p C L nt id ops F s=some K)(hs:MSt ρ w0 nt s a w)
  (J:∀a' w',MSt ρ w0 nt K a' w'->Q .normal a' w'):(De id ops F).wp p Q a w:=by
 have G:=pI (p:=p) (id:=id) H hs;unfold regZ at h;split at h
 ·rename_i V U;injection h with h;subst h;exact pG I H P U G J
 ·cases F with
  | true=>simp at h
  | false=>
   simp only[D8,if_false]at h;exact wp_region (pH I H h G J)
end
inductive Ex where
 | nrm
 | ext (id:Nat)
 | ret
 deriving DecidableEq
def Ex.exit:Ex->A4
 | .nrm=>.normal
 | .ext id=>.exit id
 | .ret=>.ret
def fk(p:AW)(C:List Inst)(L:List OIns)(nt:Nat):Nat->Code->MS->Option (Ex×MS)
 | 0,_,_=>none
 | n+1,c,s=>match c with
  | .skip=>some (.nrm,s)
  | .region id ops draw=>(regZ p C L nt id ops draw s).map λs=>(.nrm,s)
  | .seq a b=>match fk p C L nt n a s with
   | some (.nrm,s1)=>fk p C L nt n b s1
   | r=>r
  | .cond c x y=>match evL (bJ s) c with
   | some (.b true)=>fk p C L nt n x s
   | some (.b false)=>fk p C L nt n y s
   | _=>none
  | .block id b=>match fk p C L nt n b s with
   | some (.ext i,s1)=>if i=id then some (.nrm,s1)else some (.ext i,s1)
   | r=>r
  | .loop b=>match fk p C L nt n b s with
   | some (.nrm,s1)=>fk p C L nt n (.loop b) s1
   | r=>r
  | .exit id=>some (.ext id,s)
  | .ret=>some (.ret,s)
  | .scope b=>fk p C L nt n b s
  | .label _=>some (.nrm,s)
  | _=>none
section
variable {p:AW} {ρ:Rho} {a:Act} {w:World} {w0:Ent} {C:List Inst} {L:List OIns} {nt:Nat} {Q:A4->Act->World->Prop}
theorem wp_loop_rounds{c:Code}(I:Nat->Act->World->Prop)(N:Nat)(h0:I 0 a w)(round:∀k a w,k<=N->I k a w->c.wp p (Exit.then (λa' w'=>k<N/\I (k+1) a' w') Q) a w):(Code.loop c).wp p Q a w:=by
 intro b k cs;have key:∀n j a w,N - j=n->j<=N->I j a w->
   ∃e a' w',Q e a' w'/\Arrives p (lone (b.at a (.code c::.inLoop c::k)) cs w) b k cs e a' w':=by
  intro n
  induction n with
  | zero=>
   intro j a w hn V P;obtain⟨e,H,J,G,F⟩:=round j a w V P b (.inLoop c::k) cs
   cases e with
   | normal=>obtain⟨h,_⟩:=G;omega
   | exit id=>exact⟨_,H,J,G,.pass (x:=.inLoop c) rfl (λ_ _=>.inl Ad) F⟩
   | goto l=>exact⟨_,H,J,G,.pass (x:=.inLoop c) rfl (λ_ _=>.inl Ad) F⟩
   | ret=>exact⟨_,H,J,G,.pass (x:=.inLoop c) rfl (λ_ _=>.inl Ad) F⟩
   | panic ch=>exact⟨_,H,J,G,.pass (x:=.inLoop c) rfl (λ_ _=>.inl Ad) F⟩
   | outgrown=>exact⟨_,H,J,G,.pass (x:=.inLoop c) rfl (λ_ _=>.inl Ad) F⟩
  | succ n ih=>
   intro j a w hn V P;obtain⟨e,H,J,G,F⟩:=round j a w V P b (.inLoop c::k) cs
   cases e with
   | normal=>
    obtain⟨aa,U⟩:=G;obtain⟨e₂,Z,w₂,Y,K⟩:=ih (j+1) H J no no U;exact⟨e₂,Z,w₂,Y,.of_steps (Steps.trans F (.one step_inLoop)) K⟩
   | exit id=>exact⟨_,H,J,G,.pass (x:=.inLoop c) rfl (λ_ _=>.inl Ad) F⟩
   | goto l=>exact⟨_,H,J,G,.pass (x:=.inLoop c) rfl (λ_ _=>.inl Ad) F⟩
   | ret=>exact⟨_,H,J,G,.pass (x:=.inLoop c) rfl (λ_ _=>.inl Ad) F⟩
   | panic ch=>exact⟨_,H,J,G,.pass (x:=.inLoop c) rfl (λ_ _=>.inl Ad) F⟩
   | outgrown=>exact⟨_,H,J,G,.pass (x:=.inLoop c) rfl (λ_ _=>.inl Ad) F⟩
 obtain⟨e,a',w',G,F⟩:=key (N - 0) 0 a w rfl no h0;exact⟨e,a',w',G,.of_steps (.one step_loop) F⟩
theorem evL_ms{s:MS}{x:AP}{l:Leaf}(hs:MSt ρ w0 nt s a w)(h:evL (bJ s) x=some l):∃B,l.holds ρ B w (a.eval x):=by
 obtain⟨B,_,F,_⟩:=hs;exact⟨B,eC (λy _ c hc=>F y c hc) h⟩
theorem cA(H:∀i∈C,i.Ok0 p ρ w0)(I:∀i∈L,i.OkE w0 p ρ)(J:p.follows .mixedOrders=true):∀ {n:Nat} {c:Code} {s K:MS} {e:Ex} {a:Act} {w:World} {Q:A4->Act->World->Prop},fk p C L nt n c s=some (e,K)->
  MSt ρ w0 nt s a w->(∀a' w',MSt ρ w0 nt K a' w'->Q e.exit a' w')->c.wp p Q a w
 | 0,_,_,_,_,_,_,_,h,_,_=>by simp[fk]at h
 | n+1,c,s,K,e,a,w,Q,h,hs,hQ=>by
  cases c with
  | skip=>
   simp[fk]at h;obtain⟨rfl,rfl⟩:=h;exact wp_skip (hQ a w hs)
  | region id ops draw=>
   simp only[fk]at h
   cases U:regZ p C L nt id ops draw s with
   | none=>rw[U]at h;cases h
   | some V=>
    rw[U]at h;simp at h;obtain⟨rfl,rfl⟩:=h;exact ye H I J U hs hQ
  | seq x y=>
   simp only[fk]at h;split at h
   ·rename_i V h1;refine wp_seq (cA H I J h1 hs (λa' w' F=> ?_));exact cA H I J h F hQ
   ·rename_i G;refine wp_seq (cA H I J h hs (λa' w' F=> ?_))
    cases e with
    | nrm=>exact absurd h (G K)
    | ext id=>exact hQ a' w' F
    | ret=>exact hQ a' w' F
  | cond k x y=>
   simp only[fk]at h;split at h
   ·rename_i P;obtain⟨B,hb⟩:=evL_ms hs P;exact wp_cond_true hb (cA H I J h hs hQ)
   ·rename_i P;obtain⟨B,hb⟩:=evL_ms hs P;exact wp_cond_false hb (cA H I J h hs hQ)
   ·cases h
  | block id b=>
   simp only[fk]at h;split at h
   ·rename_i i V h1;refine wp_block (cA H I J h1 hs (λa' w' F=> ?_));split at h
    ·rename_i hi;simp at h;obtain⟨rfl,rfl⟩:=h;show if i=id then _ else _
     rw[if_pos hi];exact hQ a' w' F
    ·rename_i hi;simp at h;obtain⟨rfl,rfl⟩:=h;show if i=id then _ else _
     rw[if_neg hi];exact hQ a' w' F
   ·rename_i G;refine wp_block (cA H I J h hs (λa' w' F=> ?_))
    cases e with
    | nrm=>exact hQ a' w' F
    | ext id=>exact absurd h (G id K)
    | ret=>exact hQ a' w' F
  | loop b=>
   have key:∀(n:Nat)(s:MS),fk p C L nt n (.loop b) s=some (e,K)->∃(N:Nat)(S:Nat->MS),S 0=s/\∀k,k<=N->∃m r,m<n/\fk p C L nt m b (S k)=some r/\((k<N/\r=(.nrm,S (k+1)))\/(k=N/\r=(e,K)/\r.1≠ .nrm)):=by
    intro n
    induction n with
    | zero=>intro s h;simp[fk]at h
    | succ n ih=>
     intro s h;simp only[fk]at h;split at h
     ·rename_i V h1;obtain⟨N,S,h2,h3⟩:=ih V h;refine⟨N+1,λk=>match k with | 0=>s | k+1=>S k,rfl,λk P=> ?_⟩
      match k with
      | 0=>exact⟨n,_,no,h1,.inl ⟨no,by rw[<-h2]⟩⟩
      | k+1=>
       obtain⟨m,r,k1,k2,k3⟩:=h3 k no;exact⟨m,r,no,k2,k3.imp (λ⟨x,y⟩=>⟨no,y⟩) (λ⟨x,y⟩=>⟨no,y⟩)⟩
     ·rename_i G;refine⟨0,λ_=>s,rfl,λk P=>⟨n,(e,K),no,h,.inr ⟨no,rfl,λZ=>G K ?_⟩⟩⟩;simp only at Z;rw[h,Z]
   obtain⟨N,S,h0,hS⟩:=key (n+1) s h;refine wp_loop_rounds (λk a w=>MSt ρ w0 nt (S k) a w) N (by rw[h0];exact hs) (λk a w P hI=> ?_);obtain⟨m,r,aa,U,Y⟩:=hS k P;obtain⟨e1,V⟩:=r;refine cA H I J U hI (λa' w' F=> ?_);rcases Y with⟨h1,h2⟩ | ⟨h1,h2,h3⟩
   ·simp at h2;obtain⟨rfl,rfl⟩:=h2;exact⟨h1,F⟩
   ·simp at h2;obtain⟨rfl,rfl⟩:=h2
    cases e1 with
    | nrm=>exact absurd rfl h3
    | ext id=>exact hQ a' w' F
    | ret=>exact hQ a' w' F
  | exit id=>
   simp[fk]at h;obtain⟨rfl,rfl⟩:=h;exact wp_exit (hQ a w hs)
  | ret=>
   simp[fk]at h;obtain⟨rfl,rfl⟩:=h;exact wp_ret (hQ a w hs)
  | scope b=>
   simp only[fk]at h;refine wp_scope_straight (cA H I J h hs (λa' w' F=> ?_))
   cases e<;>exact hQ a' w' F
  | label l=>
   simp[fk]at h;obtain⟨rfl,rfl⟩:=h;exact wp_label (hQ a w hs)
  | _=>simp[fk]at h
termination_by n=>n
end
def resA1(p:AW)(s:MS):ResultVar->Option SV
 | .tmp t=>evS (bJ s) (.tmp t)
 | .cell t ty=>match cg p [] (bJ s) (.load ty (.tmp t))with
  | some (.v x,_)=>some x
  | _=>none
def vv(p:AW)(s:MS):List ResultVar->Option (List SV)
 | []=>some []
 | r::rs=>match resA1 p s r,vv p s rs with
  | some x,some xs=>some (x::xs)
  | _,_=>none
def resA(p:AW)(s:MS)(rs:List ResultVar):Option AV:=
 match vv p s rs with
 | some [x]=>some (.v x)
 | some xs=>some (.tup xs)
 | none=>none
def Leaf.noPtr:Leaf->Bool
 | .ptr _ _=>false
 | .own _ _=>false
 | _=>true
def SV.noPtr:SV->Bool
 | .one l=>l.noPtr
 | .agg ls=>ls.all Leaf.noPtr
def AV.noPtr:AV->Bool
 | .v s=>s.noPtr
 | .tup xs=>xs.all SV.noPtr
 | .any=>true
def pJ(args:List SV)(n:Nat):List (Option AV):=args.map (λs=>some (.v s))++DW (n - args.length) none
def rQ(p:AW)(C:List Inst)(L:List OIns)(fn:Cm)(args:List SV)(fuel:Nat):Option AV:=
 if args.length<=fn.ntmps/\fn.ntmps<=100000 then
  match fn.body with
  | some c=>match fk p C L fn.ntmps fuel c ⟨pJ args fn.ntmps,[]⟩with
   | some (.ext _,_)=>none
   | some (_,s)=>match resA p s fn.results.toList with
    | some r=>if r.noPtr then some r else none
    | none=>none
   | none=>none
  | none=>none
 else none
def resM(tmps:Array Value):ResultVar->Sem Value
 | .tmp t=>pure (tmps.getD t undef)
 | .cell t ty=>do loadVar ty (<-asAddr (tmps.getD t undef))
theorem yf(fn:Cm)(tmps:Array Value):results fn tmps=(do let vs<-fn.results.mapM (resM tmps);pure (if h:vs.size=1 then vs[0]else .tuple vs)):=by
 unfold results
 congr 1
section
variable {p:AW} {ρ:Rho} {B:Blk} {a:Act} {w:World} {w0:Ent} {C:List Inst} {L:List OIns} {nt:Nat}
variable{v:Value}
theorem Leaf.holds.free{l:Leaf}(h:l.holds ρ B w v)(hn:l.noPtr=true):l.holds ρ noB w v:=by
 cases l<;>first
  | exact h
  | (simp[Leaf.noPtr]at hn;done)
  | (obtain⟨s,h1,h2,_⟩:=h;exact⟨s,h1,h2,λg G F=>tf F⟩)
theorem aD.free:∀ {ls:List Leaf} {vs:List Value},aD ρ B w ls vs->ls.all Leaf.noPtr=true->aD ρ noB w ls vs
 | [],[],_,_=>trivial
 | _::_,_::_,h,hn=>by
  simp only[List.all_cons,BN]at hn;exact⟨h.1.free hn.1,aD.free h.2 hn.2⟩
 | [],_::_,h,_=>h.elim
 | _::_,[],h,_=>h.elim
theorem SV.holds.free{s:SV}(h:s.holds ρ B w v)(hn:s.noPtr=true):s.holds ρ noB w v:=by
 cases s with
 | one l=>exact Leaf.holds.free h hn
 | agg ls=>obtain⟨vs,e,h⟩:=h;exact⟨vs,e,h.free hn⟩
theorem cO.free:∀ {ls:List SV} {vs:List Value},cO ρ B w ls vs->ls.all SV.noPtr=true->cO ρ noB w ls vs
 | [],[],_,_=>trivial
 | _::_,_::_,h,hn=>by
  simp only[List.all_cons,BN]at hn;exact⟨h.1.free hn.1,cO.free h.2 hn.2⟩
 | [],_::_,h,_=>h.elim
 | _::_,[],h,_=>h.elim
theorem AV.holds.free{s:AV}(h:s.holds ρ B w v)(hn:s.noPtr=true):s.holds ρ noB w v:=by
 cases s with
 | v s=>exact SV.holds.free h hn
 | tup xs=>obtain⟨vs,e,h⟩:=h;exact⟨vs,e,h.free hn⟩
 | any=>exact h
theorem asAddr_of{ad:Addr}(h:v= .pointer (some ad)):(asAddr v).run p w= .ok ad w:=by subst h;rfl
theorem nJ{s:MS}(F:∀x c,bJ s x=some c->bN ρ B a w x c):∀ {rs:List ResultVar} {xs:List SV},vv p s rs=some xs->
  ∃vs:List Value,(rs.mapM (resM a.tmps)).run p w= .ok vs w/\cO ρ B w xs vs
 | [],xs,h=>by simp[vv]at h;subst h;exact⟨[],Ad,trivial⟩
 | r::rs,xs,h=>by
  simp only[vv]at h;split at h
  ·rename_i x Y h1 h2;simp at h;subst h;obtain⟨vs,h3,P⟩:=nJ F h2;have one:∃v,(resM a.tmps r).run p w= .ok v w/\x.holds ρ B w v:=by
    cases r with
    | tmp t=>exact⟨a.tmps.getD t undef,rfl,eB (x:=.tmp t) (λy _ c hc=>F y c hc) h1⟩
    | cell t ty=>
     simp only[resA1]at h1;split at h1
     ·rename_i y rd hp;injection h1 with h1;subst h1;obtain⟨H,u,I,J,K⟩:=uT (p:=p) hp (λy _ c hc=>F y c hc) (λy _ c hc=>F y c hc);refine⟨u,?_,K⟩;have G:a.tmps.getD t undef= .pointer (some H):=I;simp only[resM,AH,asAddr_of G,AQ,J]
     ·cases h1
   obtain⟨v,U,V⟩:=one;refine⟨v::vs,?_,V,P⟩;simp only[List.mapM_cons,AH,Bw];rw[U];simp only[AQ];rw[h3]
  ·cases h
theorem resA_run{s:MS}(J:∀x c,bJ s x=some c->bN ρ B a w x c){fn:Cm}{r:AV}(h:resA p s fn.results.toList=some r):∃v,(results fn a.tmps).run p w= .ok v w/\r.holds ρ B w v:=by
 have F:∀vs:List Value,(fn.results.toList.mapM (resM a.tmps)).run p w= .ok vs w->
   (results fn a.tmps).run p w= .ok (if h:vs.toArray.size=1 then vs.toArray[0]else .tuple vs.toArray) w:=by
  intro vs I;rw[yf,AH];have:∀(f:ResultVar->Sem Value)(xs:Array ResultVar),(xs.toList.mapM f).run p w= .ok vs w->(xs.mapM f).run p w= .ok vs.toArray w:=by
   intro f xs G;obtain⟨l⟩:=xs;simp only[List.mapM_toArray,map_eq_pure_bind,AH,G,AQ,Bw]
  rw[this _ _ I];rfl
 unfold resA at h;split at h
 ·rename_i x G;injection h with h;subst h;obtain⟨vs,h1,h2⟩:=nJ J G
  match vs,h2 with
  | [v],h2=>exact⟨v,by rw[F _ h1];rfl,h2.1⟩
 ·rename_i xs H G;injection h with h;subst h;obtain⟨vs,h1,h2⟩:=nJ J G;refine⟨.tuple vs.toArray,?_,vs,rfl,h2⟩;rw[F _ h1,dif_neg];intro h3
  match vs,xs,h2 with
  | [],[],_=>simp at h3
  | [_],[y],_=>exact H y rfl
  | _::_::_,_,_=>simp at h3
 ·cases h
theorem cO.len:∀ {ls:List SV} {vs:List Value},cO ρ B w ls vs->vs.length=ls.length
 | [],[],_=>rfl
 | _::_,_::_,h=>by simp[h.2.len]
 | [],_::_,h=>h.elim
 | _::_,[],h=>h.elim
variable{args:List SV}{vs:List Value}
theorem start_V{E:Ent}{vars:List (TypeId×List Leaf)}(hI:BInj B)(V:∀k g,B.o k g->E.X g/\bw E.w g)(hp:∀x g,E.pin[x]? =some g↔B.v x=some g)(hl:E.pin.length=vars.length)
  (Y:∀x q,vars[x]? =some q->(∀g,B.v x=some g->E.X g)/\xU ρ B E.w (x,q))(hn:args.length<=nt)(ha:cO ρ B E.w args vs):
  MSt ρ E nt ⟨pJ args nt,vars.map λq=>(q.1,q.2.map some)⟩ {tmps:=vs.toArray++Cu (nt - vs.toArray.size) undef,defers:=[]} E.w:=by
 have U:=ha.len;have J:∀x g,B.v x=some g->∃q,vars[x]? =some q:=λx g h=>by
  have:=(AX.1 ((hp x g).2 h)).1;exact⟨_,AJ no⟩
 refine⟨B,⟨λx g I=> ?_,λk g I=>⟨.inr (V k g I).1,(V k g I).2⟩,hI,.refl,by simp;omega,rfl,λx g h=>(hp x g).1 h⟩,λx c F=> ?_,λx F=> ?_⟩
 ·obtain⟨q,G⟩:=J x g I;obtain⟨h1,g',cs,h2,h3,K,P⟩:=Y x q G;rw[I]at h2;injection h2 with h2;subst h2;refine⟨.inr (h1 g I),cs,q.1,?_,h3,P⟩;have:=K.len;unfold d6;simp only[Bp,G,BG,List.length_map,A3.injEq,Ck.injEq,true_and];simpa using this.symm
 ·unfold bJ at F;split at F
  ·rename_i H;unfold bN;rw[if_pos H];simp only at F;unfold pJ at F;by_cases hxa:x<args.length
   ·rw[Bz (by simpa using hxa),Bp,AJ hxa]at F;simp at F;subst F;obtain⟨v,h1,h2⟩:=ha.get (AJ hxa);refine⟨v,?_,h2⟩;simp only;rw[Array.getElem?_append_left (by simp;omega)];simpa using h1
   ·rw[Bv (by simp;omega)]at F;simp only[FZ]at F;split at F
    ·rename_i G;split at G
     ·simp at G;subst G;cases F
     ·cases G
    ·cases F
  ·rename_i H;simp only[Bp]at F
   cases G:vars[x / 100000 - 1]? with
   | none=>rw[G]at F;simp at F
   | some q=>
    rw[G]at F;simp only[BG,Bp]at F
    cases hl':q.2[x % 100000]? with
    | none=>rw[hl']at F;simp at F
    | some l=>
     rw[hl']at F;simp only[BG,A3.injEq]at F;subst F;obtain⟨_,g,cs,h2,h3,K,P⟩:=Y _ q G;obtain⟨u,Z,h7⟩:=K.get hl';unfold bN;rw[if_neg H];exact⟨g,cs,_,u,h2,h3,by rw[<-GQ];exact Z,h7⟩
 ·cases hb:B.v x with
  | none=>exact absurd hb F
  | some g=>
   obtain⟨q,G⟩:=J x g hb;simpa using (AX.1 G).1
theorem noB_inj:BInj noB:=⟨λ_ _ _ h=>by(cases h),λ_ _ _ h=>h.elim,λ_ _ _ h=>by(cases h)⟩
theorem start_ms(hn:args.length<=nt)(ha:cO ρ noB w args vs):MSt ρ (.of w) nt ⟨pJ args nt,[]⟩ {tmps:=vs.toArray++Cu (nt - vs.toArray.size) undef,defers:=[]} w:=
 start_V (E:=.of w) (vars:=[]) noB_inj (λ_ _ h=>h.elim) (λx g=>⟨λh=>Ao,λh=>by(cases h)⟩) rfl (λx q h=>Ao) hn ha
theorem gP(Y:∀i∈C,i.Ok0 p ρ (.of w))(Z:∀i∈L,i.OkE (.of w) p ρ)(hm:p.follows .mixedOrders=true){f:BL}{fn:Cm}(hf:p.funcs[f]? =some fn){F:Nat}{r:AV}
  (h:rQ p C L fn args F=some r)(ha:cO ρ noB w args vs):AC p f vs.toArray w (λe w'=>∃v,e= .returned v/\r.holds ρ noB w' v/\mBw w w'):=by
 unfold rQ at h;split at h
 ·rename_i hn;split at h
  ·rename_i c hb;have V:=start_ms hn.1 ha;have J:∀ {s:MS} {e:Ex},fk p C L fn.ntmps F c ⟨pJ args fn.ntmps,[]⟩=some (e,s)->e= .nrm\/e= .ret->(match resA p s fn.results.toList with | some r=>if r.noPtr then some r else none | none=>none)=some r->
     AC p f vs.toArray w (λe w'=>∃v,e= .returned v/\r.holds ρ noB w' v/\mBw w w'):=by
    intro s e K G H;split at H
    ·rename_i r' P;split at H
     ·rename_i I;injection H with H;subst H;refine calls_of_wp hf hb (cA Y Z hm K V (λa' w' U=> ?_));obtain⟨B,hi,hv,_⟩:=U;obtain⟨v,h1,h2⟩:=resA_run (p:=p) hv P;rcases G with rfl | rfl
      ·exact⟨hi.dfr,v,h1,v,rfl,h2.free I,hi.below.to⟩
      ·exact⟨hi.dfr,v,h1,v,rfl,h2.free I,hi.below.to⟩
     ·cases H
    ·cases H
   split at h
   ·cases h
   ·rename_i e s K hx;have G:e= .nrm\/e= .ret:=by
     cases e with
     | nrm=>exact .inl rfl
     | ret=>exact .inr rfl
     | ext id=>exact(K id rfl).elim
    exact J hx G h
   ·cases h
  ·cases h
 ·cases h
end
abbrev kH(f:BL):Prop:=∀(vs:Array Value)(w:World),(callFunc f vs).run AB w= .ok (.enter f vs) w
variable{w:Ent}
theorem dD:∀i∈([]:List Inst),i.Ok0 AB ρ w:=λi h=>by cases h
theorem aB{i:Inst}{l:List Inst}(h:i.Ok AB ρ)(r:∀i∈l,i.Ok0 AB ρ w):∀j∈i::l,j.Ok0 AB ρ w:=λj F=>by
 rcases AS.1 F with rfl | F
 ·exact h.to0 w
 ·exact r j F
theorem az{E:Ent}:∀i∈([]:List OIns),i.OkE E AB ρ:=λi h=>by cases h
theorem aj{E:Ent}{i:OIns}{l:List OIns}(h:i.Ok AB ρ)(r:∀i∈l,i.OkE E AB ρ):∀j∈i::l,j.OkE E AB ρ:=λj F=>by
 rcases AS.1 F with rfl | F
 ·exact h.e
 ·exact r j F
theorem cR2(ρ:List Vp)(args:List SV)(vs:List Value)(r:AV){w:World}{C:List Inst}{L:List OIns}(F:∀i∈C,i.Ok0 AB ρ (.of w))(G:∀i∈L,i.OkE (.of w) AB ρ){f:BL}{fn:Cm}(hf:AB.funcs[f]? =some fn)(ha:cO ρ noB w args vs)(h:rQ AB C L fn args 300=some r:=by kernel_rfl):AC AB f vs.toArray w (λe w'=>∃v,e= .returned v/\r.holds ρ noB w' v/\Below w.heap.size w w'):=gP F G Aa hf h ha
variable{F:Inst}
theorem il1(h0:F.Ok AB ρ):∀j∈ [F],j.Ok0 AB ρ w:=aB h0 (dD)
variable{G:Inst}
theorem il2(h0:F.Ok AB ρ)(h1:G.Ok AB ρ):∀j∈ [F,G],j.Ok0 AB ρ w:=aB h0 (aB h1 (dD))
variable{H:Inst}
theorem il3(h0:F.Ok AB ρ)(h1:G.Ok AB ρ)(h2:H.Ok AB ρ):∀j∈ [F,G,H],j.Ok0 AB ρ w:=aB h0 (aB h1 (aB h2 (dD)))
variable{I:Inst}
theorem il4(h0:F.Ok AB ρ)(h1:G.Ok AB ρ)(h2:H.Ok AB ρ)(h3:I.Ok AB ρ):∀j∈ [F,G,H,I],j.Ok0 AB ρ w:=aB h0 (aB h1 (aB h2 (aB h3 (dD))))
variable{J:Inst}
theorem il5(h0:F.Ok AB ρ)(h1:G.Ok AB ρ)(h2:H.Ok AB ρ)(h3:I.Ok AB ρ)(K:J.Ok AB ρ):∀j∈ [F,G,H,I,J],j.Ok0 AB ρ w:=aB h0 (aB h1 (aB h2 (aB h3 (aB K (dD)))))
variable{K:Inst}
theorem il6(h0:F.Ok AB ρ)(h1:G.Ok AB ρ)(h2:H.Ok AB ρ)(h3:I.Ok AB ρ)(P:J.Ok AB ρ)(U:K.Ok AB ρ):∀j∈ [F,G,H,I,J,K],j.Ok0 AB ρ w:=aB h0 (aB h1 (aB h2 (aB h3 (aB P (aB U (dD))))))
theorem il7{P:Inst}(h0:F.Ok AB ρ)(h1:G.Ok AB ρ)(h2:H.Ok AB ρ)(h3:I.Ok AB ρ)(U:J.Ok AB ρ)(V:K.Ok AB ρ)(Y:P.Ok AB ρ):∀j∈ [F,G,H,I,J,K,P],j.Ok0 AB ρ w:=aB h0 (aB h1 (aB h2 (aB h3 (aB U (aB V (aB Y (dD)))))))
theorem il8{P U:Inst}(h0:F.Ok AB ρ)(h1:G.Ok AB ρ)(h2:H.Ok AB ρ)(h3:I.Ok AB ρ)(V:J.Ok AB ρ)(Y:K.Ok AB ρ)(Z:P.Ok AB ρ)(h7:U.Ok AB ρ):∀j∈ [F,G,H,I,J,K,P,U],j.Ok0 AB ρ w:=aB h0 (aB h1 (aB h2 (aB h3 (aB V (aB Y (aB Z (aB h7 (dD))))))))
section
variable {ρ:Rho} {n m k:Nat} {u v c:Int} {b d:Bool} {l:Leaf} {t:TypeId} {B:Blk} {w:World} {ik:C9} {x:Value}
theorem ck:fB (.int .i64 u):=⟨λ_ h=>by(cases h),λ_ h=>by(cases h),λ_ h=>by(cases h)⟩
theorem bK:fB (.bool b):=⟨λ_ h=>by(cases h),λ_ h=>by(cases h),λ_ h=>by(cases h)⟩
theorem gi{s:ByteArray}:fB (.string s):=⟨λ_ h=>by(cases h),λ_ h=>by(cases h),λ_ h=>by(cases h)⟩
theorem cZ(h:ik≠ .u32):fB (.int ik u):=⟨λ_ h=>by(cases h),λ_ h=>by(cases h),λn e=>by injection e with F G;exact h F⟩
variable{a:Option Addr}
theorem pK{L F:Nat}:fB (.slice a L F):=⟨λ_ h=>by(cases h),λ_ h=>by(cases h),λ_ h=>by(cases h)⟩
theorem pL:fB (.pointer a):=⟨λ_ h=>by(cases h),λ_ h=>by(cases h),λ_ h=>by(cases h)⟩
theorem cT{v x:Value}(hn:ρ[n]? =some (.val v))(h:(Leaf.ref n).holds ρ B w x):x=v:=by
 obtain⟨s,h1,h2⟩:=h;rw[hn]at h1;injection h1 with h1;subst h1;exact h2.1.1
theorem bx(n:Nat){v:Value}(hn:ρ[n]? =some (.val v))(hf:fB v):(Leaf.ref n).holds ρ B w v:=⟨_,hn,⟨rfl,hf⟩,λ_ h=>h.elim⟩
theorem li(h:u=c):∀B w,(Leaf.i .i64 c).holds ρ B w (.int .i64 u):=λ_ _=>by subst h;rfl
theorem lb(h:b=d):∀B w,(Leaf.b d).holds ρ B w (.bool b):=λ_ _=>by subst h;rfl
theorem lr(n:Nat)(hn:ρ[n]? =some (.val (.int .i64 u))):∀B w,(Leaf.ref n).holds ρ B w (.int .i64 u):=λ_ _=>bx _ hn ck
theorem lrb(n:Nat)(hn:ρ[n]? =some (.val (.bool b))):∀B w,(Leaf.ref n).holds ρ B w (.bool b):=λ_ _=>bx _ hn bK
theorem ls{s:ByteArray}(hn:ρ[n]? =some (.val (.string s))):∀B w,(Leaf.ref n).holds ρ B w (.string s):=λ_ _=>bx _ hn gi
theorem leafB{s:Bool}{x:Value}(h:ρ[n]? =some (.val (.bool s))):(Leaf.ref n).holds ρ B w x↔x= .bool s:=
 ⟨cT h,λe=>by subst e;exact bx _ h bK⟩
theorem pM{L N:Nat}{x:Value}(h:ρ[n]? =some (.dig L N)):(Leaf.ref n).holds ρ B w x↔IsR w (.agg #[x]) L N:=by
 constructor
 ·rintro⟨t,h1,h2,_⟩;rw[h]at h1;injection h1 with h1;subst h1;exact h2
 ·intro h2;exact⟨_,h,h2,λ_ h=>h.elim⟩
theorem tn(b:Bool)(c u:Int)(n:Nat)(hn:ρ[n]? =some (.val (.int ik u)))(h:(u==c)=b):(OIns.mk (.bin .eql t) [.one (.ref n),.one (.i ik c)] (.one (.b b))).Ok AB ρ:=λB w vs F=>by
 match vs,F with
 | [v1,v2],F=>
  have e:=cT (B:=B) hn F.1;have G:v2= .int ik c:=F.2.1;subst e;subst G;exact⟨.bool b,rfl,λH I=>by simp[eqGuard,binOp,Op.intCmp,AH,AQ,h]⟩
theorem yg(hn:ρ[n]? =some (.val (.int ik u)))(h:(u !=c)=b):(OIns.mk (.bin .neq t) [.one (.ref n),.one (.i ik c)] (.one (.b b))).Ok AB ρ:=λB w vs F=>by
 match vs,F with
 | [v1,v2],F=>
  have e:=cT (B:=B) hn F.1;have G:v2= .int ik c:=F.2.1;subst e;subst G;exact⟨.bool b,rfl,λH I=>by simp[eqGuard,binOp,Op.intCmp,AH,AQ,h]⟩
theorem o_lssK(c:Int)(n:Nat)(hn:ρ[n]? =some (.val (.int ik u)))(h:(decide (u<c))=b):(OIns.mk (.bin .lss t) [.one (.ref n),.one (.i ik c)] (.one (.b b))).Ok AB ρ:=λB w vs F=>by
 match vs,F with
 | [v1,v2],F=>
  have e:=cT (B:=B) hn F.1;have G:v2= .int ik c:=F.2.1;subst e;subst G;exact⟨.bool b,rfl,λH I=>by rw[<-h];simp[eqGuard,binOp,Op.intCmp,AH,AQ]⟩
theorem gQ(c:Int)(n:Nat)(t:TypeId)(hn:ρ[n]? =some (.val (.int .i64 u)))(h:(u==c)=b):(OIns.mk (.bin .eql t) [.one (.ref n),.one (.i .i64 c)] (.one (.b b))).Ok AB ρ:=tn _ _ _ _ hn h
theorem gj(c:Int)(n:Nat)(t:TypeId)(hn:ρ[n]? =some (.val (.int .i64 u)))(h:(u !=c)=b):(OIns.mk (.bin .neq t) [.one (.ref n),.one (.i .i64 c)] (.one (.b b))).Ok AB ρ:=yg hn h
theorem bneq_f{u c:Int}(h:u=c):(u !=c)=false:=by simpa using h
theorem bneq_t{u c:Int}(h:u≠c):(u !=c)=true:=by simpa using h
theorem yi(ht:gN AB t=true):AB.underlying t=some .bool:=by
 unfold gN at ht;split at ht
 ·assumption
 ·cases ht
theorem vw(ht:gN AB t=true)(b c:Bool):(Op.equal t (.bool b) (.bool c)).run AB w= .ok (b==c) w:=by
 unfold Op.equal Op.maxDepth Op.equalIn;rw[AH,run_underlying (yi ht)];rfl
theorem kL(t:TypeId){y:Leaf}{c:Bool}{z:Leaf}(ht:gN AB t=true)(I:∀B w x,l.holds ρ B w x->x= .bool b)(hy:∀B w x,y.holds ρ B w x->x= .bool c)(hz:∀B w,z.holds ρ B w (.bool (b==c))):(OIns.mk (.bin .eql t) [.one l,.one y] (.one z)).Ok AB ρ:=λB w vs F=>by
 match vs,F with
 | [v1,v2],F=>
  have G:=I _ _ _ F.1;have H:=hy _ _ _ F.2.1;subst G;subst H;exact⟨.bool (b==c),hz B w,λJ K=>by simp[eqGuard,binOp,AH,vw ht,AQ]⟩
theorem rR(t:TypeId){y:Leaf}{c:Bool}{z:Leaf}(ht:gN AB t=true)(I:∀B w x,l.holds ρ B w x->x= .bool b)(hy:∀B w x,y.holds ρ B w x->x= .bool c)(hz:∀B w,z.holds ρ B w (.bool (b !=c))):(OIns.mk (.bin .neq t) [.one l,.one y] (.one z)).Ok AB ρ:=λB w vs F=>by
 match vs,F with
 | [v1,v2],F=>
  have G:=I _ _ _ F.1;have H:=hy _ _ _ F.2.1;subst G;subst H;exact⟨.bool (b !=c),hz B w,λJ K=>by simp[eqGuard,binOp,AH,vw ht,AQ];cases b<;>cases c<;>rfl⟩
theorem bl(b:Bool):∀B w x,(Leaf.b b).holds ρ B w x->x= .bool b:=λ_ _ _ h=>h
theorem br(n:Nat)(hn:ρ[n]? =some (.val (.bool b))):∀B w x,(Leaf.ref n).holds ρ B w x->x= .bool b:=λ_ _ _ h=>cT hn h
end
def Vp.row(T:TypeId)(n:Nat)(qs:List Vp):Vp:=.of (λw v=>(qs=[]/\n=0/\v= .slice none 0 0)\/∃b o c cs,v= .slice (some ⟨b,o,none⟩) n c/\n<=c/\w.heap[b]? =some (.cells cs T (0,0))/\∀j q,qs[j]? =some q->∃u,cs[o+j]? =some u/\q.p w u/\∀g,¬q.fp w u g)
 (λv g=>∃o n c,v= .slice (some ⟨g,o,none⟩) n c)
 (λw w' X v h k hX=>h.imp id λ⟨b,o,c,cs,e,hn,hb,hq⟩=>⟨b,o,c,cs,e,hn,by rw[k.blk b (AZ.1 hb).1 (hX b ⟨o,n,c,e⟩)];exact hb,λj q hj=>by
  obtain⟨u,h1,h2,h3⟩:=hq j q hj;obtain⟨c1,c2⟩:=q.ch w w' X u h2 k (λg hg=>absurd hg (h3 g));exact⟨u,h1,c1,λg hg=>h3 g (c2 g hg)⟩⟩)
 (λw v g h ⟨o',n',c',e'⟩=>by
  rcases h with⟨_,_,e⟩ | ⟨b,o,c,cs,e,_,hb,_⟩
  ·rw[e]at e';cases e'
  ·rw[e]at e';injection e' with e1 _ _;injection e1 with e1;injection e1 with e1 _ _;subst e1;exact(AZ.1 hb).1)
 (λw v h=>by
  rcases h with⟨_,_,e⟩ | ⟨b,o,c,cs,e,_⟩<;>subst e<;>exact pK)
def Vp.plc(T:TypeId)(qs:List Vp):Vp:=.of (λw v=>∃b o cs,v= .pointer (some ⟨b,o,none⟩)/\w.heap[b]? =some (.cells cs T (0,0))/\∀j q,qs[j]? =some q->∃u,cs[o+j]? =some u/\q.p w u/\∀g,¬q.fp w u g)
 (λv g=>∃o,v= .pointer (some ⟨g,o,none⟩))
 (λw w' X v ⟨b,o,cs,e,hb,hq⟩ k hX=>⟨b,o,cs,e,by rw[k.blk b (AZ.1 hb).1 (hX b ⟨o,e⟩)];exact hb,λj q hj=>by
  obtain⟨u,h1,h2,h3⟩:=hq j q hj;obtain⟨c1,c2⟩:=q.ch w w' X u h2 k (λg hg=>absurd hg (h3 g));exact⟨u,h1,c1,λg hg=>h3 g (c2 g hg)⟩⟩)
 (λw v g ⟨b,o,cs,e,hb,_⟩ ⟨o',e'⟩=>by
  rw[e]at e';injection e' with e1;injection e1 with e1;injection e1 with e1 _ _;subst e1;exact(AZ.1 hb).1)
 (λw v ⟨b,o,cs,e,_⟩=>by subst e;exact pL)
section
variable {ρ:Rho} {n m k L:Nat} {t T e:TypeId} {B:Blk} {w:World} {qs:List Vp} {u:Int}
theorem ja{v:Value}(h:(Vp.row T L qs).p w v):∃a c,v= .slice a L c:=by
 rcases h with⟨_,rfl,e⟩ | ⟨b,o,c,cs,e,_⟩
 ·exact⟨_,_,e⟩
 ·exact⟨_,_,e⟩
theorem o_lenR(n:Nat)(ht:∃e,AB.underlying t=some (.slice e))(hn:ρ[n]? =some (.row T L qs)){l:Leaf}(hl:∀B w,l.holds ρ B w (.int .i64 (L:Int))):(OIns.mk (.len t) [.one (.ref n)] (.one l)).Ok AB ρ:=λB w vs F=>by
 match vs,F with
 | [v1],F=>
  obtain⟨s,h1,h2,_⟩:=F.1;rw[hn]at h1;injection h1 with h1;subst h1;obtain⟨a,c,rfl⟩:=ja h2;obtain⟨e,G⟩:=ht;refine⟨.int .i64 (L:Int),hl B w,λH ty h0=> ?_⟩;simp[Builtin.len_,h0,AH,run_underlying G,AQ,goInt]
theorem o_iaL(k m n sz:Nat)(l:Leaf)(G:List Vp)(ht:AB.underlying t=some (.slice e))(hz:szB AB e=some sz)(hn:ρ[n]? =some (.row T L qs))(U:ρ[m]? =some (.plc T G))(hl:∀B w x,l.holds ρ B w x->x= .int .i64 (k:Int))(P:k<L)(hq0:qs≠ [])
  (V:∀(j:Nat)(q:Vp),G[j]? =some q->qs[k*sz+j]? =some q):(OIns.mk (.ia t) [.one (.ref n),.one l] (.one (.ref m))).Ok AB ρ:=λB w vs H=>by
 match vs,H with
 | [v1,v2],H=>
  obtain⟨s,h1,h2,h3⟩:=H.1;rw[hn]at h1;injection h1 with h1;subst h1;have I:=hl _ _ _ H.2.1;subst I;rcases h2 with⟨h,_⟩ | ⟨b,o,c,cs,rfl,hc,hb,J⟩
  ·exact absurd h hq0
  ·refine⟨.pointer (some ⟨b,o+k*sz,none⟩),⟨_,U,⟨b,o+k*sz,cs,rfl,hb,λj q K=> ?_⟩,λg ⟨Z,e'⟩=> ?_⟩,?_⟩
   ·obtain⟨u,Y,k2⟩:=J _ q (V j q K);exact⟨u,by rw[Nat.add_assoc];exact Y,k2⟩
   ·injection e' with F;injection F with F;injection F with F _ _;subst F;exact h3 _ ⟨_,_,_,rfl⟩
   ·simp[Instr.indexAt,asIntOf,AH,run_underlying ht,ba hz,AQ,P,bM]
def fldB(p:AW)(t:TypeId)(f:Nat):Option (Nat×Nat):=match p.underlying t with
 | some (.struct fs)=>match fs[f]? with
  | some fd=>(szB p fd.type).map λn=>(fd.offset,n)
  | none=>none
 | _=>none
theorem lq{q:Vp}(h:ρ[m]? =some q):∀B w x,q.p w x->(∀g,¬q.fp w x g)->(Leaf.ref m).holds ρ B w x:=λ_ _ _ h1 h2=>⟨q,h,h1,λg F=>absurd F (h2 g)⟩
def LQ(ρ:Rho):List Leaf->List Vp->Prop
 | [],_=>True
 | l::ls,q::qs=>(∀B w x,q.p w x->(∀g,¬q.fp w x g)->l.holds ρ B w x)/\LQ ρ ls qs
 | _::_,[]=>False
def QL(ρ:Rho):List Leaf->List Vp->Prop
 | [],[]=>True
 | l::ls,q::qs=>(∀B w x,l.holds ρ B w x->q.p w x/\∀g,¬q.fp w x g)/\QL ρ ls qs
 | _,_=>False
theorem nK{L N:Nat}(h:ρ[m]? =some (.dig L N)):∀B w x,(Leaf.ref m).holds ρ B w x->(Vp.dig L N).p w x/\∀g,¬(Vp.dig L N).fp w x g:=λ_ _ _ ⟨q,h1,h2,_⟩=>by
 rw[h]at h1;injection h1 with h1;subst h1;exact⟨h2,λ_ h=>h⟩
theorem LQ.holds:∀ {ls:List Leaf} {qs:List Vp} {cs:Array Value} {o:Nat},LQ ρ ls qs->(∀(j:Nat)(q:Vp),qs[j]? =some q->∃u,cs[o+j]? =some u/\q.p w u/\∀g,¬q.fp w u g)->
  ∃vs:List Value,aD ρ B w ls vs/\∀(j:Nat)(v:Value),vs[j]? =some v->cs[o+j]? =some v
 | [],_,_,_,_,_=>⟨[],trivial,λ_ _ h=>Ao⟩
 | l::ls,q::qs,cs,o,h,hq=>by
  obtain⟨u,G,k2,k3⟩:=hq 0 q rfl;obtain⟨vs,H,I⟩:=LQ.holds (ls:=ls) (qs:=qs) (cs:=cs) (o:=o+1) h.2 (λj q F=>by
   obtain⟨u,G,k2⟩:=hq (j+1) q Ay;exact⟨u,by rw[show o+1+j=o+(j+1)from no];exact G,k2⟩)
  refine⟨u::vs,⟨h.1 B w u k2 k3,H⟩,λj v F=> ?_⟩
  match j with
  | 0=>simp at F;subst F;exact G
  | j+1=>have:=I j v Ay;rwa [show o+1+j=o+(j+1)from no]at this
 | _::_,[],_,_,h,_=>h.elim
theorem QL.get:∀ {ls:List Leaf} {qs:List Vp} {vs:List Value} {j:Nat} {q:Vp},QL ρ ls qs->aD ρ B w ls vs->qs[j]? =some q->∃u,vs[j]? =some u/\q.p w u/\∀g,¬q.fp w u g
 | [],[],_,_,_,_,_,h=>Ao
 | _::_,_::_,v::_,0,_,h,hl,hq=>by simp at hq;subst hq;exact⟨v,rfl,h.1 B w v hl.1⟩
 | _::ls,_::qs,_::vs,j+1,q,h,hl,hq=>by
  obtain⟨u,F,k2⟩:=QL.get (ls:=ls) (qs:=qs) (vs:=vs) (j:=j) h.2 hl.2 (by simpa using hq);exact⟨u,by simpa using F,k2⟩
 | _::_,_::_,[],_,_,_,hl,_=>hl.elim
 | [],_::_,_,_,_,h,_,_=>h.elim
 | _::_,[],_,_,_,h,_,_=>h.elim
theorem o_ldA(ls:List Leaf)(n:Nat)(ht:uP AB t=some true)(hz:szB AB t=some ls.length)(hn:ρ[n]? =some (.plc T qs))(hl:LQ ρ ls qs):(OIns.mk (.ld t) [.one (.ref n)] (.agg ls)).Ok AB ρ:=λB w vs F=>by
 match vs,F with
 | [v1],F=>
  obtain⟨s,h1,h2,_⟩:=F.1;rw[hn]at h1;injection h1 with h1;subst h1;obtain⟨b,o,cs,rfl,hb,I⟩:=h2;obtain⟨us,G,H⟩:=hl.holds (B:=B) I;refine⟨.agg us.toArray,⟨us,rfl,G⟩,?_⟩;have:=iZ (p:=AB) (o:=o) hb us 0 #[] (λk u J=>by rw[A5];exact H k u J);rw[G.len]at this;simp[Instr.loadAt,Instr.sureAddr,loadVar,loadCells,AH,iY ht,ba hz,this,AQ]
def zrep(z:List Leaf)(n:Nat):List Leaf:=(Bj n).map λi=>z.getD (i % z.length) .sl0
theorem yj(N m sz:Nat)(ix:List Nat)(ls z:List Leaf)(qs:List Vp)(I:List SV)(ht:AB.underlying t=some (.slice e))(hz:szB AB e=some sz)(ac:uQ AB e=some z)(am:N*sz<=2^24)(U:N*sz≠0)(an:z.length≠0)(ak:ix.length=I.length)
  (hf:mq (λi=>some (i*sz,sz)) (zrep z (N*sz)) (ix.zip I)=some ls)(hq:QL ρ ls qs)(hm:ρ[m]? =some (.row e N qs)):(OIns.mk (.bs t N ix) I (.one (.ref m))).Ok AB ρ:=λB w vs hv hB=>by
 obtain⟨Y,ab,V⟩:=gO (p:=AB) (ρ:=ρ) (B:=B) (w:=w) ac;have ad:vs.length=I.length:=hv.len;have H:Y.cells.size=z.length:=by have:=V.len;simpa using this
 have h0:aD ρ B w (zrep z (N*sz)) ((Array.range (N*sz)).map (Y.cells[· % Y.cells.size]!)).toList:=by
  refine aD.mk (by simp[zrep]) (λk l v h1 h2=> ?_);have hk:k<N*sz:=by have:=(AX.1 h1).1;simpa [zrep]using this
  have K:k % z.length<z.length:=Nat.mod_lt _ no;simp only[zrep,Bp,Es hk,BG,A3.injEq]at h1;obtain⟨v',h3,h4⟩:=V.get (AJ K);rw[DX,AJ K,DL]at h1;subst h1;have h5:v=v':=by
   simp only[Array.toList_map,Bp,Array.toList_range,Es hk,BG,A3.injEq,H]at h2;rw[GQ]at h3;rw[<-h2];have P:k % z.length<Y.cells.size:=no
   rw[getElem!_pos Y.cells _ P];rw[Array.getElem?_eq_getElem P]at h3;exact A3.inj h3
  subst h5;exact h4
 have F:(ix.zip vs).map (·.1)=(ix.zip I).map (·.1):=by rw[List.map_fst_zip no,List.map_fst_zip no]
 have G:cO ρ B w ((ix.zip I).map (·.2)) ((ix.zip vs).map (·.2)):=by rw[List.map_snd_zip no,List.map_snd_zip no];exact hv
 obtain⟨out,Z,aa⟩:=i9 hf F G h0;refine⟨.slice (some ⟨w.heap.size,0,none⟩) N N,w.alloc (.cells out e),⟨_,hm,.inr ⟨w.heap.size,0,N,out,rfl,AE _,heap_alloc_new w _,λj q hj=> ?_⟩,λg ⟨o',n',c',e'⟩ hx=> ?_⟩,?_,iz w _⟩
 ·obtain⟨u,k1,k2,k3⟩:=hq.get aa hj;obtain⟨c1,c2⟩:=q.ch _ _ _ _ k2 (.below (iz w (.cells out e))) (λ_ _ h=>h);exact⟨u,by rw[A5,<-GQ];exact k1,c1,λg hg=>k3 g (c2 g hg)⟩
 ·injection e' with J;injection J with J;injection J with J _ _;subst J;have:=hB _ hx;omega
 ·unfold Instr.buildSlice;simp only[AH,run_underlying ht,ba hz,AQ];rw[if_neg no,if_neg U];simp only[AH,ab,AQ,Bw,List.toList_toArray];rw[Z];rfl
end
end Go.Proofs.YtggfmklppkioeaaGreat
namespace Go.Proofs
open Go.Shelf Go.RowKit Go.Lib
variable {P:Program} {ρ:Ren}
end Go.Proofs
namespace Go.Proofs.YtggfmklppkioeaaGreat
set_option linter.unusedSimpArgs false
set_option linter.unusedVariables false
set_option maxRecDepth 100000
open Go.RowKit
open _root_.Go renaming Calls → AC,Exit → A4,Func → Cm,FuncId → BL,IntKind → C9,Operand → AP,Program → AW,bodyPost_ret → A7
open _root_.Array renaming getD_eq_getD_getElem? → E8,getElem?_eq_some_iff → AZ,getElem?_toList → GQ,replicate → Cu
open _root_.Go.RowKit.Below renaming refl → AF
open _root_.Bool renaming and_eq_true → BN,eq_false_or_eq_true → C6,false_eq_true → D8
open _root_.Go.Code renaming region → De
open _root_.Go.Ending renaming returned → BF
open _root_.Function renaming comp_def → FA
open _root_.Go.IntKind renaming signed → HQ,u64 → BE
open _root_.Go.Lib renaming hid → AA
open _root_.List renaming append_assoc → CO,append_nil → CP,flatMap_cons → Cw,getD_eq_getElem?_getD → DX,getElem?_append_left → Bz,getElem?_append_right → Bv,getElem?_cons_succ → FC,getElem?_cons_zero → Ec,getElem?_eq_getElem → AJ,getElem?_eq_some_iff → AX,getElem?_map → Bp,getElem?_range → Es,getElem?_replicate → FZ,length → DP,length_append → Bh,map_map → CE,mem_append → AG,mem_cons → AS,mem_cons_of_mem → Bf,mem_flatMap → Br,range → Bj,replicate → DW
open _root_.Nat renaming div_add_mod → Cf,gcd → AO,gcd_ne_zero_right → C7,le_of_not_lt → DK,le_refl → AE,le_trans → AD,mul_ne_zero → Cl,pos_of_ne_zero → Du,zero_add → A5
open _root_.Option renaming getD_some → DL,map_some → BG,some → A3
open _root_.Prod renaming mk → Ck
open _root_.Go.Result renaming andThen → AQ
open _root_.Go.Sem renaming run_bind → AH,run_pure → Bw
open _root_.Go.Proofs.Tryz renaming func235 → DY,func256 → EH,prog → AB,underlying251 → Dy
open _root_.Go.Value renaming bool → Cs,int → AK
section
variable {ρ:Rho} {xs:List Fq} {ys:Rho} {n m k:Nat} {u v c:Int} {b:Bool} {s z:ByteArray} {t:TypeId} {B:Blk} {w:World} {l:List ByteArray} {ik:C9} {x:Value}
def yk(p:AW)(t:TypeId):Bool:=match p.underlying t with | some .string=>true | _=>false
theorem str_under(ht:yk AB t=true):AB.underlying t=some .string:=by
 unfold yk at ht;split at ht
 ·assumption
 ·cases ht
end
theorem wrap_mag(v:Int)(h1: -9223372036854775808<=v)(F:v<0):BE.wrap (-BE.wrap v)=((v.natAbs:Nat):Int):=by
 simp only[IntKind.wrap,HQ,IntKind.bits,Bool.false_and,D8,if_false];omega
theorem c_mag(v:Int)(w:World)(h1: -9223372036854775808<=v)(h2:v<9223372036854775808):
  AC AB 141 #[.int .i64 v] w λe w'=>RetN w v.natAbs e w':=by
 obtain⟨V,J⟩:=resN (w:=w);have c0:=J.cell;have U:=J.frozen;have fin:∀e G,cY (w.alloc (.cells #[.slice none 0 0] 31)) v.natAbs e G->∃a c,e= .returned (.agg #[.slice a (nl v.natAbs) c])/\IsN G (.agg #[.slice a (nl v.natAbs) c]) v.natAbs/\aV G w.heap.size none 0 0/\mBw w G:=by
  rintro e G ⟨x,rfl,H,hb⟩;have H:=H.isN;obtain⟨a,c,rfl⟩:=H.shape;exact⟨a,c,rfl,H,J.mono hb J.lt,V.trans (hb.mono V.size)⟩
 go_enter Tryz.func141,Tryz.ntmps141
 by_cases hv:v<0
 ·have K:=wrap_mag v h1 hv;have Y:=AA K;clear K;go_wp2_with fail
  rw[Y.out];refine(fG v.natAbs _ no).mono ?_;rintro e G I;obtain⟨a,c,rfl,H,F,hb⟩:=fin e G I;have Z:=F.cell;have f9:=F.frozen;clear c0 U fin I;go_wp2;exact A7 (res_N rfl rfl F.set) rfl ⟨_,rfl,H.setVar F,hb.setCell (p:=⟨w.heap.size,0,none⟩) (AE _) _⟩
 ·obtain⟨n,hn⟩:∃n:Nat,Hid (v=(n:Int)):=⟨v.natAbs,AA no⟩;have aa:Hid (v.natAbs=n):=AA (by have:=hn.out;omega);go_wp2_with fail
  rw[show v=((v.natAbs:Nat):Int)from no];refine(fG v.natAbs _ no).mono ?_;rintro e G I;obtain⟨a,c,rfl,H,F,hb⟩:=fin e G I;have Z:=F.cell;have f9:=F.frozen;clear c0 U fin I;go_wp2;exact A7 (res_N rfl rfl F.set) rfl ⟨_,rfl,H.setVar F,hb.setCell (p:=⟨w.heap.size,0,none⟩) (AE _) _⟩
theorem c_size(v:Int)(w:World)(h1: -9223372036854775808<=v)(h2:v<9223372036854775808):
  AC AB 113 #[.int .i64 v] w λe w'=>bI w (.int .u64 (v.natAbs:Int)) e w':=by
 go_enter Tryz.func113,Tryz.ntmps113
 by_cases hv:v<0
 ·go_wp2;go_ret;refine⟨?_,AF _ _⟩;simp only[E8,List.getElem?_toArray,FC,Ec,DL,BF.injEq,AK.injEq,true_and,IntKind.wrap,HQ,IntKind.bits,Bool.false_and,D8,if_false,if_true];omega
 ·go_wp2;go_ret;refine⟨?_,AF _ _⟩;simp only[E8,List.getElem?_toArray,FC,Ec,DL,BF.injEq,AK.injEq,true_and];omega
section
variable {Q:A4->Act->World->Prop} {md:Region.Mode} {ops:Array Oper} {o:Oper} {a:Act} {w:World} {j fuel:Nat} {listed:Array Bool} {x y:AP} {g:Nat} {s t:Bool}
end
theorem run_eqSS(a b c d:Bool)(w:World):(binOp BinOp.eql 258 (.agg #[.bool a,.bool b]) (.agg #[.bool c,.bool d])).run AB w= .ok (.bool (a==c && b==d)) w:=by
 cases a<;>cases b<;>cases c<;>cases d<;>go_simp
theorem run_neSS(a b c d:Bool)(w:World):(binOp BinOp.neq 258 (.agg #[.bool a,.bool b]) (.agg #[.bool c,.bool d])).run AB w= .ok (.bool (!(a==c && b==d))) w:=by
 cases a<;>cases b<;>cases c<;>cases d<;>go_simp
theorem yl{x y:AP}(a b c d:Bool)(w:World):(eqGuard BinOp.eql 258 x y (.agg #[.bool a,.bool b]) (.agg #[.bool c,.bool d])).run AB w= .ok () w:=Ah
theorem ym{x y:AP}(a b c d:Bool)(w:World):(eqGuard BinOp.neq 258 x y (.agg #[.bool a,.bool b]) (.agg #[.bool c,.bool d])).run AB w= .ok () w:=Ah
def Fq.ofInt(v:Int):Fq:=⟨decide (v<0),v.natAbs,1⟩
def Fq.ratio(v u:Int):Fq:=.low (decide (v<0) !=decide (u<0)) v.natAbs u.natAbs
theorem kX{v:Int}(F: -9223372036854775808<=v)(rv:v<9223372036854775808):nl v.natAbs<=2:=aI.2 (by show v.natAbs<18446744073709551616;omega)
def IsFR(w:World)(v:Value)(s:Bool)(L p N q:Nat):Prop:=∃a c b d,v= .agg #[.bool s,.slice a L c,.slice b N d]/\IsR w (.agg #[.slice a L c]) L p/\IsR w (.agg #[.slice b N d]) N q
section
variable {Q:A4->Act->World->Prop} {o:Oper} {a:Act} {w:World} {x y:AP} {g L p N q m:Nat} {s:Bool} {tt:Array TypeId}
end
def Fq.valid(x:Fq):Bool:=decide (x.q≠0/\¬(x.s=true/\x.p=0)/\AO x.p x.q=1)
def Fq.same(x y:Fq):Bool:=x.s==y.s && (decide (x.p=y.p) && decide (x.q=y.q))
variable{x y:Fq}
theorem Fq.same_iff:x.same y=true↔x=y:=by
 obtain⟨a,b,c⟩:=x;obtain⟨a',F,G⟩:=y;simp[Fq.same]
def nt(n:Nat):SV:=.agg [.ref n]
def q3(i j k:Nat):SV:=.agg [.ref i,.ref j,.ref k]
variable{m n d:Nat}
theorem aaw{e:Nat}(F:nl m<=d)(hn:nl n<=e):nl (m+n)<=d+e+1:=aI.2 (sm_add (aI.1 F) (aI.1 hn))
theorem oY(F:nl m<=d):nl (m - n)<=d:=AD (dW (Nat.sub_le _ _)) F
theorem aax(F:nl m<=d):nl (m / n)<=d:=AD (dW (Nat.div_le_self _ _)) F
theorem bH{e:Nat}(F:nl m<=d)(hn:nl n<=e):nl (AO m n)<=d+e:=by
 by_cases h:n=0
 ·subst h;rw[Nat.gcd_zero_right];omega
 ·have:=dW (Nat.gcd_le_right m (Du h));omega
theorem nL:nl 1<=1:=aI.2 it
theorem yn{v:Int}(F: -9223372036854775808<=v)(rv:v<9223372036854775808):v.natAbs<18446744073709551616:=no
variable{a b:Bool}
theorem vB(h:a=b):(a==b)=true:=by simpa using h
theorem vC(h:a≠b):(a==b)=false:=by simpa using h
theorem le_t(h:¬m<n):decide (n<=m)=true:=decide_eq_true no
theorem le_f(h:m<n):decide (n<=m)=false:=decide_eq_false no
theorem tu(m n:Nat):(m<n/\cmpI m n= -1)\/(n<m/\cmpI m n=1)\/(m=n/\cmpI m n=0):=by
 rcases Nat.lt_trichotomy m n with h | h | h
 ·exact .inl ⟨h,gI h⟩
 ·exact .inr (.inr ⟨h,ma h⟩)
 ·exact .inr (.inl ⟨h,j6 h⟩)
theorem cmp_lt_t(h:m<n):decide (cmpI m n<0)=true:=decide_eq_true (by have:=tu m n;omega)
theorem cmp_lt_f(h:¬m<n):decide (cmpI m n<0)=false:=decide_eq_false (by have:=tu m n;omega)
theorem cmp_ne_t(h:m≠n):(cmpI m n !=0)=true:=bneq_t (by have:=tu m n;omega)
theorem cmp_ne_f(h:m=n):(cmpI m n !=0)=false:=bneq_f (by have:=tu m n;omega)
theorem lowz(h0:n≠0):m / AO m n=0↔m=0:=by
 have F:=Nat.gcd_pos_of_pos_right m (Du h0);rw[Nat.div_eq_zero_iff];constructor
 ·rintro(h | h)
  ·omega
  ·rcases Nat.eq_zero_or_pos m with h2 | h2
   ·exact h2
   ·have:=Nat.gcd_le_left n h2;omega
 ·rintro rfl;exact .inr F
section
variable {ρ:Rho} {B:Blk} {w:World} {v:Value} {i j k l' n:Nat} {l r:Leaf} {m z z':Nat} {f:BL} {s b:Bool} {x y u:Fq} {t:TypeId} {c:Int} {p q a d:Nat} {S:Bool} {P Q P0 Q0:Nat} {S0:Bool}
variable{L N:Nat}
theorem nt_isR(h:ρ[n]? =some (.dig L N)):(nt n).holds ρ B w v↔IsR w v L N:=by
 constructor
 ·rintro⟨vs,rfl,h1⟩
  match vs,h1 with
  | [x],h1=>exact(pM h).1 h1.1
 ·intro h1;obtain⟨a,c,rfl,h2⟩:=h1;exact⟨[_],rfl,(pM h).2 ⟨a,c,rfl,h2⟩,trivial⟩
theorem bd(h:ρ[n]? =some (.dig (nl N) N)):(nt n).holds ρ B w v↔IsN w v N:=nt_isR h
theorem inFR(h:IsFR w v s L p N q)(hl:∀B w,l.holds ρ B w (.bool s))(F:ρ[j]? =some (.dig L p))(G:ρ[k]? =some (.dig N q)):(SV.agg [l,.ref j,.ref k]).holds ρ B w v:=by
 obtain⟨a,c,b,d,rfl,h1,h2⟩:=h;exact⟨[_,_,_],rfl,hl B w,(pM F).2 h1,(pM G).2 h2,trivial⟩
theorem inF(h:IsF w v s p q)(hl:∀B w,l.holds ρ B w (.bool s))(F:ρ[j]? =some (.dig (nl p) p))(G:ρ[k]? =some (.dig (nl q) q)):(SV.agg [l,.ref j,.ref k]).holds ρ B w v:=inFR (s:=s) (L:=nl p) (N:=nl q) h hl F G
theorem dR(h:(SV.agg [l,.ref j,.ref k]).holds ρ B w v)(hl:∀B w x,l.holds ρ B w x->x= .bool S0)(hp:ρ[j]? =some (.dig (nl P0) P0))(J:ρ[k]? =some (.dig (nl Q0) Q0))(I:S0=S)(G:P0=P)(H:Q0=Q):IsF w v S P Q:=by
 subst I;subst G;subst H;obtain⟨vs,rfl,h1⟩:=h
 match vs,h1 with
 | [x,y,z],h1=>
  have F:=hl _ _ _ h1.1;subst F;have h2:=(pM hp).1 h1.2.1;have h3:=(pM J).1 h1.2.2.1;have hs:∀ {x:Value} {L N:Nat},IsR w (.agg #[x]) L N->∃a c,x= .slice a L c:=λ{x L N} h=>by
   obtain⟨a,c,e,_⟩:=h;injection e with e;have:=congrArg (λx:Array Value=>x[0]?) e;exact⟨a,c,by simpa using this⟩
  obtain⟨a,c,rfl⟩:=hs h2;obtain⟨b,d,rfl⟩:=hs h3;exact⟨a,c,b,d,rfl,h2,h3⟩
theorem vD{A:SV}(h:(AV.tup [A,.one l]).holds ρ B w v)(hl:∀B w x,l.holds ρ B w x->x= .int .i64 c):∃u,v= .tuple #[u,.int .i64 c]/\A.holds ρ B w u:=by
 obtain⟨vs,rfl,h1⟩:=h
 match vs,h1 with
 | [x,y],h1=>
  have e:=hl _ _ _ h1.2.1;subst e;exact⟨x,rfl,h1.1⟩
theorem kY{a b:Bool}(h:(SV.agg [l,r]).holds ρ B w v)(hl:∀B w x,l.holds ρ B w x->x= .bool a)(hr:∀B w x,r.holds ρ B w x->x= .bool b):v= .agg #[.bool a,.bool b]:=by
 obtain⟨vs,rfl,h1⟩:=h
 match vs,h1 with
 | [x,y],h1=>
  obtain rfl:=hl _ _ _ h1.1;obtain rfl:=hr _ _ _ h1.2.1;rfl
def FAt(ρ:Rho)(l:Leaf)(a b:Nat)(x:Fq):Prop:=(∀B w,l.holds ρ B w (.bool x.s))/\(∀B w v,l.holds ρ B w v->v= .bool x.s)/\ρ[a]? =some (.dig (nl x.p) x.p)/\ρ[b]? =some (.dig (nl x.q) x.q)
theorem bQ(a b:Nat)(l:Leaf)(x:Fq)(h1:∀B w,l.holds ρ B w (.bool x.s))(h2:∀B w v,l.holds ρ B w v->v= .bool x.s)(h3:ρ[a]? =some (.dig (nl x.p) x.p))(F:ρ[b]? =some (.dig (nl x.q) x.q)):FAt ρ l a b x:=⟨h1,h2,h3,F⟩
theorem FAt.isQ{a b:Nat}(h:FAt ρ l a b x)(F:(SV.agg [l,.ref a,.ref b]).holds ρ B w v):IsQ w v x:=dR F h.2.1 h.2.2.1 h.2.2.2 rfl rfl rfl
theorem FAt.into{a b:Nat}(h:FAt ρ l a b x)(F:IsQ w v x):(SV.agg [l,.ref a,.ref b]).holds ρ B w v:=inF F h.1 h.2.2.1 h.2.2.2
theorem bl2{b c:Bool}(h:b=c):∀B w x,(Leaf.b c).holds ρ B w x->x= .bool b:=λ_ _ _ e=>by subst h;exact e
theorem i2N(F:kH f)(hc:∀va vb w,IsN w va m->IsN w vb n->AC AB f #[va,vb] w (λe w'=>RetN w z e w'))(hi:ρ[i]? =some (.dig (nl m) m))(G:ρ[j]? =some (.dig (nl n) n))(H:ρ[k]? =some (.dig (nl z) z)):Inst.Ok AB ρ ⟨f,[nt i,nt j],.v (nt k)⟩:=
 ⟨F,λB w vs I h=>by
  match vs,h with
  | [va,vb],h=>
   refine(hc va vb w ((bd hi).1 h.1) ((bd G).1 h.2.1)).mono ?_;exact mMo λh=>(bd H).2 h⟩
theorem i1V{u:Value}(F:kH f)(hc:∀va w,IsN w va m->AC AB f #[va] w (λe w'=>bI w u e w'))(hi:ρ[i]? =some (.dig (nl m) m))(hl:∀B w,l.holds ρ B w u):Inst.Ok AB ρ ⟨f,[nt i],.v (.one l)⟩:=
 ⟨F,λB w vs G h=>by
  match vs,h with
  | [va],h=>
   refine(hc va w ((bd hi).1 h.1)).mono ?_;rintro e w' ⟨rfl,h2⟩;exact⟨_,rfl,hl B w',h2⟩⟩
theorem i2V{u:Value}(F:kH f)(hc:∀va vb w,IsN w va m->IsN w vb n->AC AB f #[va,vb] w (λe w'=>bI w u e w'))(hi:ρ[i]? =some (.dig (nl m) m))(G:ρ[j]? =some (.dig (nl n) n))(hl:∀B w,l.holds ρ B w u):Inst.Ok AB ρ ⟨f,[nt i,nt j],.v (.one l)⟩:=
 ⟨F,λB w vs H h=>by
  match vs,h with
  | [va,vb],h=>
   refine(hc va vb w ((bd hi).1 h.1) ((bd G).1 h.2.1)).mono ?_;rintro e w' ⟨rfl,h2⟩;exact⟨_,rfl,hl B w',h2⟩⟩
theorem i1QQ{a b a' G:Nat}(F:kH f)(hc:∀va w,IsQ w va x->AC AB f #[va] w (λe w'=>fg w u e w'))(H:FAt ρ l a b x)(hr:FAt ρ r a' G u):Inst.Ok AB ρ ⟨f,[.agg [l,.ref a,.ref b]],.v (.agg [r,.ref a',.ref G])⟩:=
 ⟨F,λB w vs I h=>by
  match vs,h with
  | [va],h=>
   refine(hc va w (H.isQ h.1)).mono ?_;rintro e w' ⟨v,rfl,h1,h2⟩;exact⟨v,rfl,hr.into h1,h2⟩⟩
theorem i2QQ{a b a' G c d:Nat}{H:Leaf}(F:kH f)(hc:∀va vb w,IsQ w va x->IsQ w vb y->AC AB f #[va,vb] w (λe w'=>fg w u e w'))(I:FAt ρ l a b x)(hy:FAt ρ H c d y)(hr:FAt ρ r a' G u):Inst.Ok AB ρ ⟨f,[.agg [l,.ref a,.ref b],.agg [H,.ref c,.ref d]],.v (.agg [r,.ref a',.ref G])⟩:=
 ⟨F,λB w vs J h=>by
  match vs,h with
  | [va,vb],h=>
   refine(hc va vb w (I.isQ h.1) (hy.isQ h.2.1)).mono ?_;rintro e w' ⟨v,rfl,h1,h2⟩;exact⟨v,rfl,hr.into h1,h2⟩⟩
theorem i1QV{a b:Nat}{u:Value}(F:kH f)(hc:∀va w,IsQ w va x->AC AB f #[va] w (λe w'=>bI w u e w'))(G:FAt ρ l a b x)(hl:∀B w,r.holds ρ B w u):Inst.Ok AB ρ ⟨f,[.agg [l,.ref a,.ref b]],.v (.one r)⟩:=
 ⟨F,λB w vs H h=>by
  match vs,h with
  | [va],h=>
   refine(hc va w (G.isQ h.1)).mono ?_;rintro e w' ⟨rfl,h2⟩;exact⟨_,rfl,hl B w',h2⟩⟩
variable{W w':World}{e:Ending}
theorem cY.toN(h:cY W n e w'):RetN W n e w':=by obtain⟨v,h1,h2,h3⟩:=h;exact⟨v,h1,h2.isN,h3⟩
theorem pg.out{m n:Nat}(h:pg W m n e w'):∃v,e= .returned (.tuple #[v,.bool (decide (n<=m))])/\IsN w' v (m - n)/\mBw W w':=by obtain⟨v,h1,h2,h3⟩:=h;exact⟨v,h1,h2.isN,h3⟩
theorem iW.out{q r:Nat}{c:Int}(h:iW W q r c e w'):∃a b,e= .returned (.tuple #[a,b,.int .i64 c])/\IsN w' a q/\IsN w' b r/\mBw W w':=by obtain⟨a,b,h1,h2,h3,F⟩:=h;exact⟨a,b,h1,h2.isN,h3.isN,F⟩
theorem iSub(F:kH f)(hc:∀va vb w,IsN w va m->IsN w vb n->AC AB f #[va,vb] w (λe w'=>pg w m n e w'))(hi:ρ[i]? =some (.dig (nl m) m))(G:ρ[j]? =some (.dig (nl n) n))(H:ρ[k]? =some (.dig (nl (m - n)) (m - n)))(hb:decide (n<=m)=b):Inst.Ok AB ρ ⟨f,[nt i,nt j],.tup [nt k,.one (.b b)]⟩:=
 ⟨F,λB w vs J h=>by
  match vs,h with
  | [va,vb],h=>
   refine(hc va vb w ((bd hi).1 h.1) ((bd G).1 h.2.1)).mono ?_;intro e w' I;obtain⟨v,rfl,h1,h2⟩:=I.out;subst hb;exact⟨_,rfl,⟨[v,.bool _],rfl,(bd H).2 h1,rfl,trivial⟩,h2⟩⟩
theorem iDiv(F:kH f)(hc:∀va vb w,IsN w va m->IsN w vb n->AC AB f #[va,vb] w (λe w'=>iW w (m / n) (m % n) 0 e w'))(hi:ρ[i]? =some (.dig (nl m) m))(G:ρ[j]? =some (.dig (nl n) n))(H:ρ[k]? =some (.dig (nl (m / n)) (m / n)))(hl:ρ[l']? =some (.dig (nl (m % n)) (m % n))):Inst.Ok AB ρ ⟨f,[nt i,nt j],.tup [nt k,nt l',.one (.i .i64 0)]⟩:=
 ⟨F,λB w vs J h=>by
  match vs,h with
  | [va,vb],h=>
   refine(hc va vb w ((bd hi).1 h.1) ((bd G).1 h.2.1)).mono ?_;intro e w' I;obtain⟨x,y,rfl,h1,h3,h2⟩:=I.out;exact⟨_,rfl,⟨[x,y,.int .i64 0],rfl,(bd H).2 h1,(bd hl).2 h3,rfl,trivial⟩,h2⟩⟩
theorem iOf(F:kH f)(hc:∀w,AC AB f #[.int .u64 (N:Int)] w (λe w'=>RetN w N e w'))(hl:∀B w x,l.holds ρ B w x->x= .int .u64 (N:Int))(G:ρ[k]? =some (.dig (nl N) N)):Inst.Ok AB ρ ⟨f,[.one l],.v (nt k)⟩:=
 ⟨F,λB w vs H h=>by
  match vs,h with
  | [va],h=>
   obtain rfl:=hl _ _ _ h.1;refine(hc w).mono ?_;exact mMo λh=>(bd G).2 h⟩
theorem iVR(F:kH f)(hc:∀va w,IsR w va L N->AC AB f #[va] w (λe w'=>bI w (.bool (decide (nl N=L))) e w'))(hi:ρ[i]? =some (.dig L N))(hb:decide (nl N=L)=b):Inst.Ok AB ρ ⟨f,[nt i],.v (.one (.b b))⟩:=
 ⟨F,λB w vs G h=>by
  match vs,h with
  | [va],h=>
   refine(hc va w ((nt_isR hi).1 h.1)).mono ?_;rintro e w' ⟨rfl,h2⟩;exact⟨_,rfl,by subst hb;rfl,h2⟩⟩
end
section
variable {ρ:Rho} {i j k l n m:Nat} {b:Bool} {r:Leaf} {c:Int} {st:ByteArray} {N L:Nat} {t:TypeId} {v:Int}
theorem eH(i j k:Nat)(hi:ρ[i]? =some (.dig (nl m) m))(F:ρ[j]? =some (.dig (nl n) n))(G:ρ[k]? =some (.dig (nl (m*n)) (m*n)))(H:nl m<=1000000000000)(hn:nl n<=1000000000000):Inst.Ok AB ρ ⟨145,[nt i,nt j],.v (nt k)⟩:=
 i2N (ah Tryz.func145 rfl rfl) (λva vb w h1 h2=>(qS va vb m n w h1 h2 H hn).mono λ_ _ h=>h.toN) hi F G
theorem eI(i j k:Nat)(hi:ρ[i]? =some (.dig (nl m) m))(F:ρ[j]? =some (.dig (nl n) n))(G:ρ[k]? =some (.dig (nl (m*n)) (m*n)))(H:nl m<=1000000000000)(hn:nl n<=1000000000000):Inst.Ok AB ρ ⟨305,[nt i,nt j],.v (nt k)⟩:=
 i2N (ah Tryz.func305 rfl rfl) (λva vb w h1 h2=>(c_ref_Mul va vb m n w h1 h2 H hn).mono λ_ _ h=>h.toN) hi F G
theorem jb(i j k:Nat)(hi:ρ[i]? =some (.dig (nl m) m))(F:ρ[j]? =some (.dig (nl n) n))(G:ρ[k]? =some (.dig (nl (AO m n)) (AO m n)))(H:nl m<=1000000000000)(hn:nl n<=1000000000000):Inst.Ok AB ρ ⟨199,[nt i,nt j],.v (nt k)⟩:=
 i2N (ah Tryz.func199 rfl rfl) (λva vb w h1 h2=>(qU va vb m n w h1 h2 H hn).mono λ_ _ h=>h.toN) hi F G
theorem kZ(i j k:Nat)(hi:ρ[i]? =some (.dig (nl m) m))(F:ρ[j]? =some (.dig (nl n) n))(G:ρ[k]? =some (.dig (nl (AO m n)) (AO m n)))(H:nl m<=100000000000)(hn:nl n<=100000000000):Inst.Ok AB ρ ⟨261,[nt i,nt j],.v (nt k)⟩:=
 i2N (ah Tryz.func261 rfl rfl) (λva vb w h1 h2=>c_ref_Gcd va vb m n w h1 h2 H hn) hi F G
theorem I_nAdd(hi:ρ[i]? =some (.dig (nl m) m))(F:ρ[j]? =some (.dig (nl n) n))(G:ρ[k]? =some (.dig (nl (m+n)) (m+n)))(H:nl m<=1000000000000)(hn:nl n<=1000000000000):Inst.Ok AB ρ ⟨147,[nt i,nt j],.v (nt k)⟩:=
 i2N (ah Tryz.func147 rfl rfl) (λva vb w h1 h2=>(kK va vb m n w h1 h2 H hn).mono λ_ _ h=>h.toN) hi F G
theorem I_mAdd(hi:ρ[i]? =some (.dig (nl m) m))(F:ρ[j]? =some (.dig (nl n) n))(G:ρ[k]? =some (.dig (nl (m+n)) (m+n)))(H:nl m<=1000000000000)(hn:nl n<=1000000000000):Inst.Ok AB ρ ⟨288,[nt i,nt j],.v (nt k)⟩:=
 i2N (ah Tryz.func288 rfl rfl) (λva vb w h1 h2=>(j9 va vb m n w h1 h2 H hn).mono λ_ _ h=>h.toN) hi F G
theorem kf(i k:Nat)(hi:ρ[i]? =some (.dig (nl m) m))(F:ρ[k]? =some (.dig (nl m) m))(G:nl m<=1000000000000):Inst.Ok AB ρ ⟨147,[nt i,.agg [.sl0]],.v (nt k)⟩:=
 ⟨ah Tryz.func147 rfl rfl,λB w vs I h=>by
  match vs,h with
  | [va,vb],h=>
   obtain⟨us,rfl,h3⟩:=h.2.1
   match us,h3 with
   | [x],h3=>
    have e:x= .slice none 0 0:=h3.1;subst e;have h0:IsN w (.agg #[.slice none 0 0]) 0:=⟨none,0,by rw[bL],by rw[bL];omega,by rw[bL];decide,λh=>by rw[bL]at h;omega⟩;refine(kK va _ m 0 w ((bd hi).1 h.1) h0 G (by rw[bL];decide)).mono ?_;intro e w' H;obtain⟨v,rfl,h1,h2⟩:=H.toN;exact⟨v,rfl,(bd F).2 h1,h2⟩⟩
theorem yp(i j k:Nat)(hi:ρ[i]? =some (.dig (nl m) m))(F:ρ[j]? =some (.dig (nl n) n))(G:ρ[k]? =some (.dig (nl (m - n)) (m - n)))(hb:decide (n<=m)=b)(H:nl m<=1000000000000)(hn:nl n<=1000000000000):Inst.Ok AB ρ ⟨148,[nt i,nt j],.tup [nt k,.one (.b b)]⟩:=
 iSub (ah Tryz.func148 rfl rfl) (λva vb w h1 h2=>qR va vb m n w h1 h2 H hn) hi F G hb
theorem I_mSub(i j k:Nat)(hi:ρ[i]? =some (.dig (nl m) m))(F:ρ[j]? =some (.dig (nl n) n))(G:ρ[k]? =some (.dig (nl (m - n)) (m - n)))(hb:decide (n<=m)=b)(H:nl m<=1000000000000)(hn:nl n<=1000000000000):Inst.Ok AB ρ ⟨291,[nt i,nt j],.tup [nt k,.one (.b b)]⟩:=
 iSub (ah Tryz.func291 rfl rfl) (λva vb w h1 h2=>rt va vb m n w h1 h2 H hn) hi F G hb
theorem nM(i j k l:Nat)(hi:ρ[i]? =some (.dig (nl m) m))(F:ρ[j]? =some (.dig (nl n) n))(G:ρ[k]? =some (.dig (nl (m / n)) (m / n)))(hl:ρ[l]? =some (.dig (nl (m % n)) (m % n)))(H:nl m<=1000000000000)(hn:nl n<=1000000000000)(h0:n≠0):Inst.Ok AB ρ ⟨200,[nt i,nt j],.tup [nt k,nt l,.one (.i .i64 0)]⟩:=
 iDiv (ah Tryz.func200 rfl rfl) (λva vb w h1 h2=>iw va vb m n w h1 h2 H hn h0) hi F G hl
theorem nN(i j k l:Nat)(hi:ρ[i]? =some (.dig (nl m) m))(F:ρ[j]? =some (.dig (nl n) n))(G:ρ[k]? =some (.dig (nl (m / n)) (m / n)))(hl:ρ[l]? =some (.dig (nl (m % n)) (m % n)))(H:nl m<=100000000000)(hn:nl n<=100000000000)(h0:n≠0):Inst.Ok AB ρ ⟨262,[nt i,nt j],.tup [nt k,nt l,.one (.i .i64 0)]⟩:=
 iDiv (ah Tryz.func262 rfl rfl) (λva vb w h1 h2=>mn va vb m n w h1 h2 H hn h0) hi F G hl
theorem I_nCmp(i j:Nat)(hi:ρ[i]? =some (.dig (nl m) m))(F:ρ[j]? =some (.dig (nl n) n))(hl:∀B w,r.holds ρ B w (.int .i64 (cmpI m n)))(G:nl m<=1000000000000)(hn:nl n<=1000000000000):Inst.Ok AB ρ ⟨191,[nt i,nt j],.v (.one r)⟩:=
 i2V (ah Tryz.func191 rfl rfl) (λva vb w h1 h2=>qQ va vb m n w h1 h2 no no) hi F hl
theorem I_mCmp(i j:Nat)(hi:ρ[i]? =some (.dig (nl m) m))(F:ρ[j]? =some (.dig (nl n) n))(hl:∀B w,r.holds ρ B w (.int .i64 (cmpI m n)))(G:nl m<=1000000000000)(hn:nl n<=1000000000000):Inst.Ok AB ρ ⟨290,[nt i,nt j],.v (.one r)⟩:=
 i2V (ah Tryz.func290 rfl rfl) (λva vb w h1 h2=>nE va vb m n w h1 h2 G hn) hi F hl
theorem fJ(i j:Nat)(hi:ρ[i]? =some (.dig (nl m) m))(F:ρ[j]? =some (.dig (nl n) n))(hb:decide (m=n)=b)(G:nl m<=1000000000000)(hn:nl n<=1000000000000):Inst.Ok AB ρ ⟨180,[nt i,nt j],.v (.one (.b b))⟩:=
 i2V (ah Tryz.func180 rfl rfl) (λva vb w h1 h2=>xL va vb m n w h1 h2 G hn) hi F (lb hb)
theorem I_nOf(k:Nat)(G:ρ[k]? =some (.dig (nl N) N))(F:N<18446744073709551616):Inst.Ok AB ρ ⟨142,[.one (.i .u64 (N:Int))],.v (nt k)⟩:=
 iOf (ah Tryz.func142 rfl rfl) (λw=>(fG N w F).mono λ_ _ h=>h.toN) (λ_ _ _ h=>h) G
theorem vE(k:Nat)(G:ρ[k]? =some (.dig (nl N) N))(F:N<18446744073709551616):Inst.Ok AB ρ ⟨112,[.one (.i .u64 (N:Int))],.v (nt k)⟩:=
 iOf (ah Tryz.func112 rfl rfl) (λw=>(pl N w F).mono λ_ _ h=>h.toN) (λ_ _ _ h=>h) G
theorem yt(i k:Nat)(hi:ρ[i]? =some (.val (.int .u64 (N:Int))))(G:ρ[k]? =some (.dig (nl N) N))(F:N<18446744073709551616):Inst.Ok AB ρ ⟨112,[.one (.ref i)],.v (nt k)⟩:=
 iOf (ah Tryz.func112 rfl rfl) (λw=>(pl N w F).mono λ_ _ h=>h.toN) (λ_ _ _ h=>cT hi h) G
theorem I_nValidR(hi:ρ[i]? =some (.dig L N))(hb:decide (nl N=L)=b)(F:L<=1000000000000):Inst.Ok AB ρ ⟨279,[nt i],.v (.one (.b b))⟩:=
 iVR (ah Tryz.func279 rfl rfl) (λva w h1=>(oJ va L N w h1 no).mono λe w' h=>⟨h.1.trans (by rw[decide_eq_decide.2 (eq_comm)]),h.2⟩) hi hb
theorem I_mValidR(hi:ρ[i]? =some (.dig L N))(hb:decide (nl N=L)=b)(F:L<=1000000000000):Inst.Ok AB ρ ⟨286,[nt i],.v (.one (.b b))⟩:=
 iVR (ah Tryz.func286 rfl rfl) (λva w h1=>uI va L N w h1 no) hi hb
theorem bR(i:Nat)(hi:ρ[i]? =some (.dig (nl N) N))(_h:(0:Nat)=0)(F:nl N<=1000000000000):Inst.Ok AB ρ ⟨279,[nt i],.v (.one (.b true))⟩:=I_nValidR hi (decide_eq_true rfl) F
theorem cU(i:Nat)(hi:ρ[i]? =some (.dig (nl N) N))(_h:(0:Nat)=0)(F:nl N<=1000000000000):Inst.Ok AB ρ ⟨286,[nt i],.v (.one (.b true))⟩:=I_mValidR hi (decide_eq_true rfl) F
theorem bS(i:Nat)(hi:ρ[i]? =some (.dig (nl m) m))(hb:decide (m=0)=b)(F:nl m<=1000000000000):Inst.Ok AB ρ ⟨197,[nt i],.v (.one (.b b))⟩:=
 i1V (ah Tryz.func197 rfl rfl) (λva w h1=>c_isZero va m w h1 F) hi (lb hb)
theorem cP(i:Nat)(hi:ρ[i]? =some (.dig (nl m) m))(hb:decide (m=0)=b)(F:nl m<=1000000000000):Inst.Ok AB ρ ⟨260,[nt i],.v (.one (.b b))⟩:=
 i1V (ah Tryz.func260 rfl rfl) (λva w h1=>c_zero va m w h1 F) hi (lb hb)
theorem I_mag(i k:Nat)(hi:ρ[i]? =some (.val (.int .i64 v)))(F:ρ[k]? =some (.dig (nl v.natAbs) v.natAbs))(G: -9223372036854775808<=v)(rv:v<9223372036854775808):Inst.Ok AB ρ ⟨141,[.one (.ref i)],.v (nt k)⟩:=
 ⟨ah Tryz.func141 rfl rfl,λB w vs H h=>by
  match vs,h with
  | [va],h=>
   obtain rfl:=cT hi h.1;refine(c_mag v w G rv).mono ?_;rintro e w' ⟨x,rfl,h1,h2⟩;exact⟨x,rfl,(bd F).2 h1,h2⟩⟩
theorem yu(i k:Nat)(hi:ρ[i]? =some (.val (.int .i64 v)))(F:ρ[k]? =some (.val (.int .u64 (v.natAbs:Int))))(G: -9223372036854775808<=v)(rv:v<9223372036854775808):Inst.Ok AB ρ ⟨113,[.one (.ref i)],.v (.one (.ref k))⟩:=
 ⟨ah Tryz.func113 rfl rfl,λB w vs H h=>by
  match vs,h with
  | [va],h=>
   obtain rfl:=cT hi h.1;refine(c_size v w G rv).mono ?_;rintro e w' ⟨rfl,h2⟩;exact⟨_,rfl,bx _ F (cZ it),h2⟩⟩
theorem nO(c:Int)(n:Nat)(t:TypeId){ik:C9}{u:Int}(hn:ρ[n]? =some (.val (.int ik u)))(hl:∀B w,r.holds ρ B w (.bool (decide (u<c)))):(OIns.mk (.bin .lss t) [.one (.ref n),.one (.i ik c)] (.one r)).Ok AB ρ:=λB w vs F=>by
 match vs,F with
 | [v1,v2],F=>
  have e:=cT (B:=B) hn F.1;have G:v2= .int ik c:=F.2.1;subst e;subst G;exact⟨_,hl B w,λH I=>by simp[eqGuard,binOp,Op.intCmp,AH,AQ]⟩
theorem fK(a b c d:Bool):(OIns.mk (.bin .eql 258) [.agg [.b a,.b b],.agg [.b c,.b d]] (.one (.b (a==c && b==d)))).Ok AB ρ:=λB w vs F=>by
 match vs,F with
 | [v1,v2],F=>
  obtain rfl:=kY F.1 (bl _) (bl _);obtain rfl:=kY F.2.1 (bl _) (bl _);exact⟨_,rfl,λG H=>by rw[AH,yl];exact run_eqSS a b c d w⟩
theorem jc(a b c d:Bool):(OIns.mk (.bin .neq 258) [.agg [.b a,.b b],.agg [.b c,.b d]] (.one (.b (!(a==c && b==d))))).Ok AB ρ:=λB w vs F=>by
 match vs,F with
 | [v1,v2],F=>
  obtain rfl:=kY F.1 (bl _) (bl _);obtain rfl:=kY F.2.1 (bl _) (bl _);exact⟨_,rfl,λG H=>by rw[AH,ym];exact run_neSS a b c d w⟩
end
theorem q_low(s:Bool)(va vb:Value)(m n:Nat)(w:World)(ha:IsN w va m)(hb:IsN w vb n)(F:nl m<=10000000000)(hn:nl n<=10000000000)(h0:n≠0):
  AC AB 146 #[.bool s,va,vb] w λe w'=>fg w (Fq.low s m n) e w':=by
 rcases C6 (s)with c0 | c0
 ·by_cases c1:(m / (AO m n))=0
  ·refine(cR2 [mDg m,mDg n,mDg (AO m n),mDg (m / (AO m n)),mDg (m % (AO m n)),mDg (n / (AO m n)),mDg (n % (AO m n))] [.one (.b true),nt 0,nt 1] [.bool s,va,vb] (.v (.agg [.b false,.ref 3,.ref 5])) (il4 (jb 0 1 2 rfl rfl rfl (AD F it) (AD hn it)) (nM 0 2 3 4 rfl rfl rfl rfl (AD F it) (AD (bH F hn) it) (C7 h0)) (nM 1 2 5 6 rfl rfl rfl rfl (AD hn it) (AD (bH F hn) it) (C7 h0)) (bS 3 rfl (decide_eq_true c1) (AD (aax F) it))) az Tryz.func146 ⟨congrArg Cs c0,⟨(bd rfl).2 ha,⟨(bd rfl).2 hb,trivial⟩⟩⟩).mono ?_;rintro e w' ⟨v,rfl,h1,h2⟩;exact⟨v,rfl,dR h1 (bl false) rfl rfl (by simp[Fq.low,dC,c0,(lowz h0).1 c1]) (rfl) (rfl),h2⟩
  ·refine(cR2 [mDg m,mDg n,mDg (AO m n),mDg (m / (AO m n)),mDg (m % (AO m n)),mDg (n / (AO m n)),mDg (n % (AO m n))] [.one (.b true),nt 0,nt 1] [.bool s,va,vb] (.v (.agg [.b true,.ref 3,.ref 5])) (il4 (jb 0 1 2 rfl rfl rfl (AD F it) (AD hn it)) (nM 0 2 3 4 rfl rfl rfl rfl (AD F it) (AD (bH F hn) it) (C7 h0)) (nM 1 2 5 6 rfl rfl rfl rfl (AD hn it) (AD (bH F hn) it) (C7 h0)) (bS 3 rfl (decide_eq_false c1) (AD (aax F) it))) az Tryz.func146 ⟨congrArg Cs c0,⟨(bd rfl).2 ha,⟨(bd rfl).2 hb,trivial⟩⟩⟩).mono ?_;rintro e w' ⟨v,rfl,h1,h2⟩;exact⟨v,rfl,dR h1 (bl true) rfl rfl (by simp[Fq.low,dC,c0,mt (lowz h0).2 c1]) (rfl) (rfl),h2⟩
 ·refine(cR2 [mDg m,mDg n,mDg (AO m n),mDg (m / (AO m n)),mDg (m % (AO m n)),mDg (n / (AO m n)),mDg (n % (AO m n))] [.one (.b false),nt 0,nt 1] [.bool s,va,vb] (.v (.agg [.b false,.ref 3,.ref 5])) (il3 (jb 0 1 2 rfl rfl rfl (AD F it) (AD hn it)) (nM 0 2 3 4 rfl rfl rfl rfl (AD F it) (AD (bH F hn) it) (C7 h0)) (nM 1 2 5 6 rfl rfl rfl rfl (AD hn it) (AD (bH F hn) it) (C7 h0))) az Tryz.func146 ⟨congrArg Cs c0,⟨(bd rfl).2 ha,⟨(bd rfl).2 hb,trivial⟩⟩⟩).mono ?_;rintro e w' ⟨v,rfl,h1,h2⟩;exact⟨v,rfl,dR h1 (bl false) rfl rfl (by simp[Fq.low,dC,c0]) (rfl) (rfl),h2⟩
theorem q_rMake(s:Bool)(va vb:Value)(m n:Nat)(w:World)(ha:IsN w va m)(hb:IsN w vb n)(F:nl m<=10000000000)(hn:nl n<=10000000000)(h0:n≠0):
  AC AB 218 #[.bool s,va,vb] w λe w'=>pn w (Fq.low s m n) 0 e w':=by
 rcases C6 (s)with c0 | c0
 ·by_cases c1:m=0
  ·refine(cR2 [mDg m,mDg n,mDg (AO m n),mDg (m / (AO m n)),mDg (m % (AO m n)),mDg (n / (AO m n)),mDg (n % (AO m n))] [.one (.b true),nt 0,nt 1] [.bool s,va,vb] (.tup [.agg [.b false,.ref 3,.ref 5],.one (.i .i64 0)]) (il5 (cP 1 rfl (decide_eq_false h0) (AD hn it)) (kZ 0 1 2 rfl rfl rfl (AD F it) (AD hn it)) (nN 0 2 3 4 rfl rfl rfl rfl (AD F it) (AD (bH F hn) it) (C7 h0)) (nN 1 2 5 6 rfl rfl rfl rfl (AD hn it) (AD (bH F hn) it) (C7 h0)) (cP 0 rfl (decide_eq_true c1) (AD F it))) az Tryz.func218 ⟨congrArg Cs c0,⟨(bd rfl).2 ha,⟨(bd rfl).2 hb,trivial⟩⟩⟩).mono ?_;rintro e w' ⟨v,rfl,h1,h2⟩;obtain⟨u,rfl,h3⟩:=vD h1 (λ_ _ _ h=>h);exact⟨u,rfl,dR h3 (bl false) rfl rfl (by simp[Fq.low,dC,c0,c1]) (rfl) (rfl),h2⟩
  ·refine(cR2 [mDg m,mDg n,mDg (AO m n),mDg (m / (AO m n)),mDg (m % (AO m n)),mDg (n / (AO m n)),mDg (n % (AO m n))] [.one (.b true),nt 0,nt 1] [.bool s,va,vb] (.tup [.agg [.b true,.ref 3,.ref 5],.one (.i .i64 0)]) (il5 (cP 1 rfl (decide_eq_false h0) (AD hn it)) (kZ 0 1 2 rfl rfl rfl (AD F it) (AD hn it)) (nN 0 2 3 4 rfl rfl rfl rfl (AD F it) (AD (bH F hn) it) (C7 h0)) (nN 1 2 5 6 rfl rfl rfl rfl (AD hn it) (AD (bH F hn) it) (C7 h0)) (cP 0 rfl (decide_eq_false c1) (AD F it))) az Tryz.func218 ⟨congrArg Cs c0,⟨(bd rfl).2 ha,⟨(bd rfl).2 hb,trivial⟩⟩⟩).mono ?_;rintro e w' ⟨v,rfl,h1,h2⟩;obtain⟨u,rfl,h3⟩:=vD h1 (λ_ _ _ h=>h);exact⟨u,rfl,dR h3 (bl true) rfl rfl (by simp[Fq.low,dC,c0,c1]) (rfl) (rfl),h2⟩
 ·refine(cR2 [mDg m,mDg n,mDg (AO m n),mDg (m / (AO m n)),mDg (m % (AO m n)),mDg (n / (AO m n)),mDg (n % (AO m n))] [.one (.b false),nt 0,nt 1] [.bool s,va,vb] (.tup [.agg [.b false,.ref 3,.ref 5],.one (.i .i64 0)]) (il4 (cP 1 rfl (decide_eq_false h0) (AD hn it)) (kZ 0 1 2 rfl rfl rfl (AD F it) (AD hn it)) (nN 0 2 3 4 rfl rfl rfl rfl (AD F it) (AD (bH F hn) it) (C7 h0)) (nN 1 2 5 6 rfl rfl rfl rfl (AD hn it) (AD (bH F hn) it) (C7 h0))) az Tryz.func218 ⟨congrArg Cs c0,⟨(bd rfl).2 ha,⟨(bd rfl).2 hb,trivial⟩⟩⟩).mono ?_;rintro e w' ⟨v,rfl,h1,h2⟩;obtain⟨u,rfl,h3⟩:=vD h1 (λ_ _ _ h=>h);exact⟨u,rfl,dR h3 (bl false) rfl rfl (by simp[Fq.low,dC,c0]) (rfl) (rfl),h2⟩
variable{ρ:Rho}{S:Bool}{l:Leaf}
theorem rS(i j x y z:Nat)(hl:∀B w v,l.holds ρ B w v->v= .bool S)(hi:ρ[i]? =some (.dig (nl m) m))(F:ρ[j]? =some (.dig (nl n) n))(H:ρ[x]? =some (.val (.bool (Fq.low S m n).s)))(hy:ρ[y]? =some (.dig (nl (Fq.low S m n).p) (Fq.low S m n).p))(hz:ρ[z]? =some (.dig (nl (Fq.low S m n).q) (Fq.low S m n).q))(G:nl m<=10000000000)(hn:nl n<=10000000000)(h0:n≠0):Inst.Ok AB ρ ⟨146,[.one l,nt i,nt j],.v (.agg [.ref x,.ref y,.ref z])⟩:=
 ⟨ah Tryz.func146 rfl rfl,λB w vs I h=>by
  match vs,h with
  | [v1,v2,v3],h=>
   obtain rfl:=hl _ _ _ h.1;refine(q_low S v2 v3 m n w ((bd hi).1 h.2.1) ((bd F).1 h.2.2.1) G hn h0).mono ?_;rintro e w' ⟨v,rfl,h1,h2⟩;exact⟨v,rfl,inF h1 (lrb _ H) hy hz,h2⟩⟩
theorem q_Make(s:Bool)(va vb:Value)(m n:Nat)(w:World)(ha:IsN w va m)(hb:IsN w vb n)(F:nl m<=10000000000)(hn:nl n<=10000000000)(h0:n≠0):
  AC AB 215 #[.bool s,va,vb] w λe w'=>pn w (Fq.low s m n) 0 e w':=by
 refine(cR2 ([.val (.bool s),mDg m,mDg n]++mFs [(Fq.low s m n)]) [.one (.ref 0),nt 1,nt 2] [.bool s,va,vb] (.tup [q3 3 4 5,.one (.i .i64 0)]) (il2 (bS 2 rfl (decide_eq_false h0) (AD hn it)) (rS 1 2 3 4 5 (br 0 rfl) rfl rfl rfl rfl rfl F hn h0)) az Tryz.func215 ⟨bx 0 rfl bK,⟨(bd rfl).2 ha,⟨(bd rfl).2 hb,trivial⟩⟩⟩).mono ?_;rintro e w' ⟨v,rfl,h1,h2⟩;obtain⟨u,rfl,h3⟩:=vD h1 (λ_ _ _ h=>h);exact⟨u,rfl,dR h3 (br 3 rfl) rfl rfl (rfl) (rfl) (rfl),h2⟩
theorem I_fMake(i j x y z:Nat)(hl:∀B w v,l.holds ρ B w v->v= .bool S)(hi:ρ[i]? =some (.dig (nl m) m))(F:ρ[j]? =some (.dig (nl n) n))(H:ρ[x]? =some (.val (.bool (Fq.low S m n).s)))(hy:ρ[y]? =some (.dig (nl (Fq.low S m n).p) (Fq.low S m n).p))(hz:ρ[z]? =some (.dig (nl (Fq.low S m n).q) (Fq.low S m n).q))(G:nl m<=10000000000)(hn:nl n<=10000000000)(h0:n≠0):Inst.Ok AB ρ ⟨215,[.one l,nt i,nt j],.tup [.agg [.ref x,.ref y,.ref z],.one (.i .i64 0)]⟩:=
 ⟨ah Tryz.func215 rfl rfl,λB w vs I h=>by
  match vs,h with
  | [v1,v2,v3],h=>
   obtain rfl:=hl _ _ _ h.1;refine(q_Make S v2 v3 m n w ((bd hi).1 h.2.1) ((bd F).1 h.2.2.1) G hn h0).mono ?_;rintro e w' ⟨v,rfl,h1,h2⟩;exact⟨_,rfl,⟨[v,.int .i64 0],rfl,inF h1 (lrb _ H) hy hz,rfl,trivial⟩,h2⟩⟩
theorem kg(i j x y z:Nat)(hl:∀B w v,l.holds ρ B w v->v= .bool S)(hi:ρ[i]? =some (.dig (nl m) m))(F:ρ[j]? =some (.dig (nl n) n))(H:ρ[x]? =some (.val (.bool (Fq.low S m n).s)))(hy:ρ[y]? =some (.dig (nl (Fq.low S m n).p) (Fq.low S m n).p))(hz:ρ[z]? =some (.dig (nl (Fq.low S m n).q) (Fq.low S m n).q))(G:nl m<=10000000000)(hn:nl n<=10000000000)(h0:n≠0):Inst.Ok AB ρ ⟨218,[.one l,nt i,nt j],.tup [.agg [.ref x,.ref y,.ref z],.one (.i .i64 0)]⟩:=
 ⟨ah Tryz.func218 rfl rfl,λB w vs I h=>by
  match vs,h with
  | [v1,v2,v3],h=>
   obtain rfl:=hl _ _ _ h.1;refine(q_rMake S v2 v3 m n w ((bd hi).1 h.2.1) ((bd F).1 h.2.2.1) G hn h0).mono ?_;rintro e w' ⟨v,rfl,h1,h2⟩;exact⟨_,rfl,⟨[v,.int .i64 0],rfl,inF h1 (lrb _ H) hy hz,rfl,trivial⟩,h2⟩⟩
variable{p:Prop}
theorem Aq(h:p:=by simp[Fq.low,dC,fb,fH,Fq.add,Fq.mul,Fq.div,Fq.neg,Fq.zero,Fq.sgn,cN,cJ,c0,c1]):p:=h
theorem q_fNeg(va:Value)(x:Fq)(w:World)(ha:IsQ w va x)(h:x.ok 1000000000):
  AC AB 143 #[va] w λe w'=>fg w x.neg e w':=by
 rcases C6 (x.s)with c0 | c0
 ·refine(cR2 [mDg (x.p),mDg (x.q)] [.agg [.b true,.ref 0,.ref 1]] [va] (.v (.agg [.b false,.ref 0,.ref 1])) (il2 (kf 0 0 rfl rfl (AD h.p it)) (kf 1 1 rfl rfl (AD h.q it))) az Tryz.func143 ⟨(inF ha (lb c0) rfl rfl),trivial⟩).mono ?_;rintro e w' ⟨v,rfl,h1,h2⟩;exact⟨v,rfl,dR h1 (bl false) rfl rfl (by simp[Fq.low,dC,fb,fH,Fq.add,Fq.mul,Fq.div,Fq.neg,Fq.zero,Fq.sgn,cN,cJ,c0]) (rfl) (rfl),h2⟩
 ·by_cases c1:x.p=0
  ·refine(cR2 [mDg (x.p),mDg (x.q)] [.agg [.b false,.ref 0,.ref 1]] [va] (.v (.agg [.b false,.ref 0,.ref 1])) (il3 (bS 0 rfl (decide_eq_true c1) (AD h.p it)) (kf 0 0 rfl rfl (AD h.p it)) (kf 1 1 rfl rfl (AD h.q it))) az Tryz.func143 ⟨(inF ha (lb c0) rfl rfl),trivial⟩).mono ?_;rintro e w' ⟨v,rfl,h1,h2⟩;exact⟨v,rfl,dR h1 (bl false) rfl rfl Aq (rfl) (rfl),h2⟩
  ·refine(cR2 [mDg (x.p),mDg (x.q)] [.agg [.b false,.ref 0,.ref 1]] [va] (.v (.agg [.b true,.ref 0,.ref 1])) (il3 (bS 0 rfl (decide_eq_false c1) (AD h.p it)) (kf 0 0 rfl rfl (AD h.p it)) (kf 1 1 rfl rfl (AD h.q it))) az Tryz.func143 ⟨(inF ha (lb c0) rfl rfl),trivial⟩).mono ?_;rintro e w' ⟨v,rfl,h1,h2⟩;exact⟨v,rfl,dR h1 (bl true) rfl rfl Aq (rfl) (rfl),h2⟩
variable{a b a' F:Nat}{l':Leaf}
theorem J_fNeg(G:FAt ρ l a b x)(hr:FAt ρ l' a' F x.neg)(h:x.ok 1000000000):Inst.Ok AB ρ ⟨143,[.agg [l,.ref a,.ref b]],.v (.agg [l',.ref a',.ref F])⟩:=
 i1QQ (ah Tryz.func143 rfl rfl) (λva w ha=>q_fNeg va x w ha h) G hr
theorem Ag(h:p:=by simp[Fq.low,dC,fb,fH,Fq.add,Fq.mul,Fq.div,Fq.neg,Fq.zero,Fq.sgn,cN,cJ]):p:=h
theorem q_fMul(va vb:Value)(x y:Fq)(w:World)(ha:IsQ w va x)(hb:IsQ w vb y)(h:x.ok 1000000000)(k:y.ok 1000000000):
  AC AB 136 #[va,vb] w λe w'=>fg w (x.mul y) e w':=by
 refine(cR2 (mFs [x,y]++([.val (.bool (x.s !=y.s)),mDg (x.p*y.p),mDg (x.q*y.q)]++mFs [(Fq.low (x.s !=y.s) (x.p*y.p) (x.q*y.q))])) [q3 0 1 2,q3 3 4 5] [va,vb] (.v (q3 9 10 11)) (il3 (eH 1 4 7 rfl rfl rfl (AD h.p it) (AD k.p it)) (eH 2 5 8 rfl rfl rfl (AD h.q it) (AD k.q it)) (rS 7 8 9 10 11 (br 6 rfl) rfl rfl rfl rfl rfl (AD (aJ h.p k.p) it) (AD (aJ h.q k.q) it) (Cl h.n k.n))) (aj (rR 4 Aa (br 0 rfl) (br 3 rfl) (lrb 6 rfl)) (az)) Tryz.func136 ⟨(inF ha (lrb 0 rfl) rfl rfl),⟨(inF hb (lrb 3 rfl) rfl rfl),trivial⟩⟩).mono ?_;rintro e w' ⟨v,rfl,h1,h2⟩;exact⟨v,rfl,dR h1 (br 9 rfl) rfl rfl Ag Ag Ag,h2⟩
theorem As(h:p:=by simp only[Fq.add,Fq.low,cN,cJ,if_pos c0]):p:=h
theorem q_fAdd(va vb:Value)(x y:Fq)(w:World)(ha:IsQ w va x)(hb:IsQ w vb y)(h:x.ok 1000000000)(k:y.ok 1000000000):
  AC AB 85 #[va,vb] w λe w'=>fg w (x.add y) e w':=by
 by_cases c0:x.s=y.s
 ·refine(cR2 (mFs [x,y]++([mDg (x.p*y.q),mDg (y.p*x.q),mDg (x.q*y.q),.dig (nl ((x.p*y.q)+(y.p*x.q))) ((x.p*y.q)+(y.p*x.q))]++mFs [(Fq.low x.s ((x.p*y.q)+(y.p*x.q)) (x.q*y.q))])) [q3 0 1 2,q3 3 4 5] [va,vb] (.v (q3 10 11 12)) (il5 (eH 1 5 6 rfl rfl rfl (AD h.p it) (AD k.q it)) (eH 4 2 7 rfl rfl rfl (AD k.p it) (AD h.q it)) (eH 2 5 8 rfl rfl rfl (AD h.q it) (AD k.q it)) (I_nAdd (i:=6) (j:=7) (k:=9) rfl rfl rfl (AD (aJ h.p k.q) it) (AD (aJ k.p h.q) it)) (rS 9 8 10 11 12 (br 0 rfl) rfl rfl rfl rfl rfl (AD (aaw (aJ h.p k.q) (aJ k.p h.q)) it) (AD (aJ h.q k.q) it) (Cl h.n k.n))) (aj (kL 4 Aa (br 0 rfl) (br 3 rfl) (lb (vB c0))) (az)) Tryz.func85 ⟨(inF ha (lrb 0 rfl) rfl rfl),⟨(inF hb (lrb 3 rfl) rfl rfl),trivial⟩⟩).mono ?_;rintro e w' ⟨v,rfl,h1,h2⟩;exact⟨v,rfl,dR h1 (br 10 rfl) rfl rfl As As As,h2⟩
 ·by_cases c1:(x.p*y.q)<(y.p*x.q)
  ·by_cases c2:(y.p*x.q)<(x.p*y.q)
   ·exact absurd c2 (Nat.lt_asymm c1)
   ·refine(cR2 (mFs [x,y]++([mDg (x.p*y.q),mDg (y.p*x.q),mDg (x.q*y.q),.dig (nl ((x.p*y.q) - (y.p*x.q))) ((x.p*y.q) - (y.p*x.q)),.dig (nl ((y.p*x.q) - (x.p*y.q))) ((y.p*x.q) - (x.p*y.q))]++mFs [(Fq.low y.s ((y.p*x.q) - (x.p*y.q)) (x.q*y.q))])) [q3 0 1 2,q3 3 4 5] [va,vb] (.v (q3 11 12 13)) (il6 (eH 1 5 6 rfl rfl rfl (AD h.p it) (AD k.q it)) (eH 4 2 7 rfl rfl rfl (AD k.p it) (AD h.q it)) (eH 2 5 8 rfl rfl rfl (AD h.q it) (AD k.q it)) (yp 6 7 9 rfl rfl rfl (le_f c1) (AD (aJ h.p k.q) it) (AD (aJ k.p h.q) it)) (yp 7 6 10 rfl rfl rfl (le_t c2) (AD (aJ k.p h.q) it) (AD (aJ h.p k.q) it)) (rS 10 8 11 12 13 (br 3 rfl) rfl rfl rfl rfl rfl (AD (oY (aJ k.p h.q)) it) (AD (aJ h.q k.q) it) (Cl h.n k.n))) (aj (kL 4 Aa (br 0 rfl) (br 3 rfl) (lb (vC c0))) (az)) Tryz.func85 ⟨(inF ha (lrb 0 rfl) rfl rfl),⟨(inF hb (lrb 3 rfl) rfl rfl),trivial⟩⟩).mono ?_;rintro e w' ⟨v,rfl,h1,h2⟩;exact⟨v,rfl,dR h1 (br 11 rfl) rfl rfl (by simp only[Fq.add,Fq.low,cN,cJ,if_neg c0,if_neg (Nat.not_le.2 c1)]) (by simp only[Fq.add,Fq.low,cN,cJ,if_neg c0,if_neg (Nat.not_le.2 c1)]) (by simp only[Fq.add,Fq.low,cN,cJ,if_neg c0,if_neg (Nat.not_le.2 c1)]),h2⟩
  ·refine(cR2 (mFs [x,y]++([mDg (x.p*y.q),mDg (y.p*x.q),mDg (x.q*y.q),.dig (nl ((x.p*y.q) - (y.p*x.q))) ((x.p*y.q) - (y.p*x.q))]++mFs [(Fq.low x.s ((x.p*y.q) - (y.p*x.q)) (x.q*y.q))])) [q3 0 1 2,q3 3 4 5] [va,vb] (.v (q3 10 11 12)) (il5 (eH 1 5 6 rfl rfl rfl (AD h.p it) (AD k.q it)) (eH 4 2 7 rfl rfl rfl (AD k.p it) (AD h.q it)) (eH 2 5 8 rfl rfl rfl (AD h.q it) (AD k.q it)) (yp 6 7 9 rfl rfl rfl (le_t c1) (AD (aJ h.p k.q) it) (AD (aJ k.p h.q) it)) (rS 9 8 10 11 12 (br 0 rfl) rfl rfl rfl rfl rfl (AD (oY (aJ h.p k.q)) it) (AD (aJ h.q k.q) it) (Cl h.n k.n))) (aj (kL 4 Aa (br 0 rfl) (br 3 rfl) (lb (vC c0))) (az)) Tryz.func85 ⟨(inF ha (lrb 0 rfl) rfl rfl),⟨(inF hb (lrb 3 rfl) rfl rfl),trivial⟩⟩).mono ?_;rintro e w' ⟨v,rfl,h1,h2⟩;exact⟨v,rfl,dR h1 (br 10 rfl) rfl rfl (by simp only[Fq.add,Fq.low,cN,cJ,if_neg c0,if_pos (DK c1)]) (by simp only[Fq.add,Fq.low,cN,cJ,if_neg c0,if_pos (DK c1)]) (by simp only[Fq.add,Fq.low,cN,cJ,if_neg c0,if_pos (DK c1)]),h2⟩
variable{c:Nat}{m:Leaf}
theorem J_fAdd(G:FAt ρ l a b x)(hy:FAt ρ m c d y)(hr:FAt ρ l' a' F (x.add y))(h:x.ok 1000000000)(k:y.ok 1000000000):Inst.Ok AB ρ ⟨85,[.agg [l,.ref a,.ref b],.agg [m,.ref c,.ref d]],.v (.agg [l',.ref a',.ref F])⟩:=
 i2QQ (ah Tryz.func85 rfl rfl) (λva vb w ha hb=>q_fAdd va vb x y w ha hb h k) G hy hr
theorem q_fSub(va vb:Value)(x y:Fq)(w:World)(ha:IsQ w va x)(hb:IsQ w vb y)(h:x.ok 1000000000)(k:y.ok 1000000000):
  AC AB 82 #[va,vb] w λe w'=>fg w (x.sub y) e w':=by
 refine(cR2 (mFs [x,y,y.neg,(x.add y.neg)]) [q3 0 1 2,q3 3 4 5] [va,vb] (.v (q3 9 10 11)) (il2 (J_fNeg (bQ 4 5 (.ref 3) y (lrb 3 rfl) (br 3 rfl) rfl rfl) (bQ 7 8 (.ref 6) y.neg (lrb 6 rfl) (br 6 rfl) rfl rfl) k) (J_fAdd (bQ 1 2 (.ref 0) x (lrb 0 rfl) (br 0 rfl) rfl rfl) (bQ 7 8 (.ref 6) y.neg (lrb 6 rfl) (br 6 rfl) rfl rfl) (bQ 10 11 (.ref 9) (x.add y.neg) (lrb 9 rfl) (br 9 rfl) rfl rfl) h k.neg)) az Tryz.func82 ⟨(inF ha (lrb 0 rfl) rfl rfl),⟨(inF hb (lrb 3 rfl) rfl rfl),trivial⟩⟩).mono ?_;rintro e w' ⟨v,rfl,h1,h2⟩;exact⟨v,rfl,dR h1 (br 9 rfl) rfl rfl (rfl) (rfl) (rfl),h2⟩
theorem J_fSub(G:FAt ρ l a b x)(hy:FAt ρ m c d y)(hr:FAt ρ l' a' F (x.sub y))(h:x.ok 1000000000)(k:y.ok 1000000000):Inst.Ok AB ρ ⟨82,[.agg [l,.ref a,.ref b],.agg [m,.ref c,.ref d]],.v (.agg [l',.ref a',.ref F])⟩:=
 i2QQ (ah Tryz.func82 rfl rfl) (λva vb w ha hb=>q_fSub va vb x y w ha hb h k) G hy hr
theorem q_fDiv(va vb:Value)(x y:Fq)(w:World)(ha:IsQ w va x)(hb:IsQ w vb y)(h:x.ok 1000000000)(k:y.ok 1000000000)(h0:y.p≠0):
  AC AB 234 #[va,vb] w λe w'=>pn w (x.div y) 0 e w':=by
 refine(cR2 (mFs [x,y]++([.val (.bool (x.s !=y.s)),mDg (x.p*y.q),mDg (x.q*y.p)]++mFs [(Fq.low (x.s !=y.s) (x.p*y.q) (x.q*y.p))])) [q3 0 1 2,q3 3 4 5] [va,vb] (.tup [q3 9 10 11,.one (.i .i64 0)]) (il4 (bS 4 rfl (decide_eq_false h0) (AD k.p it)) (eH 1 5 7 rfl rfl rfl (AD h.p it) (AD k.q it)) (eH 2 4 8 rfl rfl rfl (AD h.q it) (AD k.p it)) (rS 7 8 9 10 11 (br 6 rfl) rfl rfl rfl rfl rfl (AD (aJ h.p k.q) it) (AD (aJ h.q k.p) it) (Cl h.n h0))) (aj (rR 4 Aa (br 0 rfl) (br 3 rfl) (lrb 6 rfl)) (az)) Tryz.func234 ⟨(inF ha (lrb 0 rfl) rfl rfl),⟨(inF hb (lrb 3 rfl) rfl rfl),trivial⟩⟩).mono ?_;rintro e w' ⟨v,rfl,h1,h2⟩;obtain⟨u,rfl,h3⟩:=vD h1 (λ_ _ _ h=>h);exact⟨u,rfl,dR h3 (br 9 rfl) rfl rfl Ag Ag Ag,h2⟩
theorem q_mark(va:Value)(x:Fq)(w:World)(ha:IsQ w va x)(hp:nl x.p<=1000000000000)(v:Bool)(F:decide (x.p=0)=v):
  AC AB 198 #[va] w λe w'=>bI w (.agg #[.bool x.s,.bool v]) e w':=by
 by_cases c0:x.p=0
 ·refine(cR2 (mFs [x]) [q3 0 1 2] [va] (.v (.agg [.ref 0,.b true])) (il1 (bS 1 rfl (decide_eq_true c0) hp)) az Tryz.func198 ⟨(inF ha (lrb 0 rfl) rfl rfl),trivial⟩).mono ?_;rintro e w' ⟨v',rfl,h1,h2⟩;have h1:=kY h1 (br 0 rfl) (bl true);subst h1;exact⟨by rw[<-F];simp[c0],h2⟩
 ·refine(cR2 (mFs [x]) [q3 0 1 2] [va] (.v (.agg [.ref 0,.b false])) (il1 (bS 1 rfl (decide_eq_false c0) hp)) az Tryz.func198 ⟨(inF ha (lrb 0 rfl) rfl rfl),trivial⟩).mono ?_;rintro e w' ⟨v',rfl,h1,h2⟩;have h1:=kY h1 (br 0 rfl) (bl false);subst h1;exact⟨by rw[<-F];simp[c0],h2⟩
theorem gl{r:Leaf}{v:Bool}(G:FAt ρ l a b x)(hr:∀B w,r.holds ρ B w (.bool x.s))(F:decide (x.p=0)=v)(hp:nl x.p<=1000000000000):Inst.Ok AB ρ ⟨198,[.agg [l,.ref a,.ref b]],.v (.agg [r,.b v])⟩:=
 ⟨ah Tryz.func198 rfl rfl,λB w vs H h=>by
  match vs,h with
  | [va],h=>
   refine(q_mark va x w (G.isQ h.1) hp v F).mono ?_;rintro e w' ⟨rfl,h2⟩;exact⟨_,rfl,⟨[.bool x.s,.bool v],rfl,hr B w',rfl,trivial⟩,h2⟩⟩
theorem aay(va:Value)(x:Fq)(w:World)(ha:IsQ w va x)(h:x.ok 1000000000000):
  AC AB 144 #[va] w λe w'=>bI w (.int .i64 x.sgn) e w':=by
 by_cases c0:x.p=0
 ·rcases C6 (x.s)with F | F
  ·refine(cR2 [mDg (x.p),mDg (x.q)] [.agg [.b true,.ref 0,.ref 1]] [va] (.v (.one (.i .i64 0))) (il1 (gl (bQ 0 1 (.b true) x (lb F) (bl2 F) rfl rfl) (lb F) (decide_eq_true c0) h.p)) (aj (fK true true false true) (aj (fK true true true true) (az))) Tryz.func144 ⟨(inF ha (lb F) rfl rfl),trivial⟩).mono ?_;rintro e w' ⟨v,rfl,h1,h2⟩;have h1:=h1;have h1:v=_:=h1;subst h1;exact⟨by simp[Fq.sgn,c0,F],h2⟩
  ·refine(cR2 [mDg (x.p),mDg (x.q)] [.agg [.b false,.ref 0,.ref 1]] [va] (.v (.one (.i .i64 0))) (il1 (gl (bQ 0 1 (.b false) x (lb F) (bl2 F) rfl rfl) (lb F) (decide_eq_true c0) h.p)) (aj (fK false true false true) (az)) Tryz.func144 ⟨(inF ha (lb F) rfl rfl),trivial⟩).mono ?_;rintro e w' ⟨v,rfl,h1,h2⟩;have h1:=h1;have h1:v=_:=h1;subst h1;exact⟨by simp[Fq.sgn,c0,F],h2⟩
 ·rcases C6 (x.s)with F | F
  ·refine(cR2 [mDg (x.p),mDg (x.q)] [.agg [.b true,.ref 0,.ref 1]] [va] (.v (.one (.i .i64 (-1)))) (il1 (gl (bQ 0 1 (.b true) x (lb F) (bl2 F) rfl rfl) (lb F) (decide_eq_false c0) h.p)) (aj (fK true false false true) (aj (fK true false true true) (aj (fK true false true false) (az)))) Tryz.func144 ⟨(inF ha (lb F) rfl rfl),trivial⟩).mono ?_;rintro e w' ⟨v,rfl,h1,h2⟩;have h1:=h1;have h1:v=_:=h1;subst h1;exact⟨by simp[Fq.sgn,c0,F],h2⟩
  ·refine(cR2 [mDg (x.p),mDg (x.q)] [.agg [.b false,.ref 0,.ref 1]] [va] (.v (.one (.i .i64 1))) (il1 (gl (bQ 0 1 (.b false) x (lb F) (bl2 F) rfl rfl) (lb F) (decide_eq_false c0) h.p)) (aj (fK false false false true) (aj (fK false false true true) (aj (fK false false true false) (az)))) Tryz.func144 ⟨(inF ha (lb F) rfl rfl),trivial⟩).mono ?_;rintro e w' ⟨v,rfl,h1,h2⟩;have h1:=h1;have h1:v=_:=h1;subst h1;exact⟨by simp[Fq.sgn,c0,F],h2⟩
theorem J_fSign{r:Leaf}(F:FAt ρ l a b x)(hl:∀B w,r.holds ρ B w (.int .i64 x.sgn))(h:x.ok 1000000000000):Inst.Ok AB ρ ⟨144,[.agg [l,.ref a,.ref b]],.v (.one r)⟩:=
 i1QV (ah Tryz.func144 rfl rfl) (λva w ha=>aay va x w ha h) F hl
theorem q_fCmp(va vb:Value)(x y:Fq)(w:World)(ha:IsQ w va x)(hb:IsQ w vb y)(h:x.ok 1000000000)(k:y.ok 1000000000):
  AC AB 83 #[va,vb] w λe w'=>bI w (.int .i64 (x.cmp y)) e w':=by
 refine(cR2 (mFs [x,y,(x.sub y)]++ [.val (.int .i64 (x.sub y).sgn)]) [q3 0 1 2,q3 3 4 5] [va,vb] (.v (.one (.ref 9))) (il2 (J_fSub (bQ 1 2 (.ref 0) x (lrb 0 rfl) (br 0 rfl) rfl rfl) (bQ 4 5 (.ref 3) y (lrb 3 rfl) (br 3 rfl) rfl rfl) (bQ 7 8 (.ref 6) (x.sub y) (lrb 6 rfl) (br 6 rfl) rfl rfl) h k) (J_fSign (bQ 7 8 (.ref 6) (x.sub y) (lrb 6 rfl) (br 6 rfl) rfl rfl) (lr 9 rfl) ((h.sub k).mono it))) az Tryz.func83 ⟨(inF ha (lrb 0 rfl) rfl rfl),⟨(inF hb (lrb 3 rfl) rfl rfl),trivial⟩⟩).mono ?_;rintro e w' ⟨v,rfl,h1,h2⟩;have h1:=(cT rfl h1);subst h1;exact⟨rfl,h2⟩
theorem q_fInt(v:Int)(w:World)(F: -9223372036854775808<=v)(rv:v<9223372036854775808):
  AC AB 80 #[.int .i64 v] w λe w'=>fg w (Fq.ofInt v) e w':=by
 refine(cR2 [.val (.int .i64 v),.val (.bool (decide (v<0))),mDg (v.natAbs),mDg 1] [.one (.ref 0)] [.int .i64 v] (.v (q3 1 2 3)) (il2 (I_mag 0 2 rfl rfl F rv) (I_nOf 3 rfl it)) (aj (nO 0 0 2 rfl (lrb 1 rfl)) (az)) Tryz.func80 ⟨bx 0 rfl ck,trivial⟩).mono ?_;rintro e w' ⟨v,rfl,h1,h2⟩;exact⟨v,rfl,dR h1 (br 1 rfl) rfl rfl (by simp[Fq.ofInt]) (rfl) (rfl),h2⟩
theorem vG(v u:Int)(w:World)(G: -9223372036854775808<=v)(rv:v<9223372036854775808)(F: -9223372036854775808<=u)(H:u<9223372036854775808)(h0:u≠0):
  AC AB 166 #[.int .i64 v,.int .i64 u] w λe w'=>pn w (Fq.ratio v u) 0 e w':=by
 refine(cR2 ([.val (.int .i64 v),.val (.int .i64 u),.val (.bool (decide (v<0))),.val (.bool (decide (u<0))),.val (.bool ((decide (v<0)) !=(decide (u<0)))),mDg (v.natAbs),mDg (u.natAbs)]++mFs [(Fq.low ((decide (v<0)) !=(decide (u<0))) v.natAbs u.natAbs)]) [.one (.ref 0),.one (.ref 1)] [.int .i64 v,.int .i64 u] (.tup [q3 7 8 9,.one (.i .i64 0)]) (il3 (I_mag 0 5 rfl rfl G rv) (I_mag 1 6 rfl rfl F H) (I_fMake 5 6 7 8 9 (br 4 rfl) rfl rfl rfl rfl rfl (AD (kX G rv) it) (AD (kX F H) it) no)) (aj (nO 0 0 2 rfl (lrb 2 rfl)) (aj (nO 0 1 2 rfl (lrb 3 rfl)) (aj (rR 4 Aa (br 2 rfl) (br 3 rfl) (lrb 4 rfl)) (az)))) Tryz.func166 ⟨bx 0 rfl ck,⟨bx 1 rfl ck,trivial⟩⟩).mono ?_;rintro e w' ⟨v,rfl,h1,h2⟩;obtain⟨u,rfl,h3⟩:=vD h1 (λ_ _ _ h=>h);exact⟨u,rfl,dR h3 (br 7 rfl) rfl rfl (rfl) (rfl) (rfl),h2⟩
theorem q_rNeg(va:Value)(x:Fq)(w:World)(ha:IsQ w va x)(h:x.ok 1000000000):
  AC AB 297 #[va] w λe w'=>fg w x.neg e w':=by
 rcases C6 (x.s)with c0 | c0
 ·refine(cR2 [mDg (x.p),mDg (x.q)] [.agg [.b true,.ref 0,.ref 1]] [va] (.v (.agg [.b false,.ref 0,.ref 1])) (dD) az Tryz.func297 ⟨(inF ha (lb c0) rfl rfl),trivial⟩).mono ?_;rintro e w' ⟨v,rfl,h1,h2⟩;exact⟨v,rfl,dR h1 (bl false) rfl rfl (by simp[Fq.low,dC,fb,fH,Fq.add,Fq.mul,Fq.div,Fq.neg,Fq.zero,Fq.sgn,cN,cJ,c0]) (rfl) (rfl),h2⟩
 ·by_cases c1:x.p=0
  ·refine(cR2 [mDg (x.p),mDg (x.q)] [.agg [.b false,.ref 0,.ref 1]] [va] (.v (.agg [.b false,.ref 0,.ref 1])) (il1 (cP 0 rfl (decide_eq_true c1) (AD h.p it))) az Tryz.func297 ⟨(inF ha (lb c0) rfl rfl),trivial⟩).mono ?_;rintro e w' ⟨v,rfl,h1,h2⟩;exact⟨v,rfl,dR h1 (bl false) rfl rfl Aq (rfl) (rfl),h2⟩
  ·refine(cR2 [mDg (x.p),mDg (x.q)] [.agg [.b false,.ref 0,.ref 1]] [va] (.v (.agg [.b true,.ref 0,.ref 1])) (il1 (cP 0 rfl (decide_eq_false c1) (AD h.p it))) az Tryz.func297 ⟨(inF ha (lb c0) rfl rfl),trivial⟩).mono ?_;rintro e w' ⟨v,rfl,h1,h2⟩;exact⟨v,rfl,dR h1 (bl true) rfl rfl Aq (rfl) (rfl),h2⟩
theorem J_rNeg(G:FAt ρ l a b x)(hr:FAt ρ l' a' F x.neg)(h:x.ok 1000000000):Inst.Ok AB ρ ⟨297,[.agg [l,.ref a,.ref b]],.v (.agg [l',.ref a',.ref F])⟩:=
 i1QQ (ah Tryz.func297 rfl rfl) (λva w ha=>q_rNeg va x w ha h) G hr
theorem q_rMul(va vb:Value)(x y:Fq)(w:World)(ha:IsQ w va x)(hb:IsQ w vb y)(h:x.ok 1000000000)(k:y.ok 1000000000):
  AC AB 293 #[va,vb] w λe w'=>fg w (x.mul y) e w':=by
 refine(cR2 (mFs [x,y]++([.val (.bool (x.s !=y.s)),mDg (x.p*y.p),mDg (x.q*y.q)]++mFs [(Fq.low (x.s !=y.s) (x.p*y.p) (x.q*y.q))])) [q3 0 1 2,q3 3 4 5] [va,vb] (.v (q3 9 10 11)) (il3 (eI 1 4 7 rfl rfl rfl (AD h.p it) (AD k.p it)) (eI 2 5 8 rfl rfl rfl (AD h.q it) (AD k.q it)) (kg 7 8 9 10 11 (br 6 rfl) rfl rfl rfl rfl rfl (AD (aJ h.p k.p) it) (AD (aJ h.q k.q) it) (Cl h.n k.n))) (aj (rR 4 Aa (br 0 rfl) (br 3 rfl) (lrb 6 rfl)) (az)) Tryz.func293 ⟨(inF ha (lrb 0 rfl) rfl rfl),⟨(inF hb (lrb 3 rfl) rfl rfl),trivial⟩⟩).mono ?_;rintro e w' ⟨v,rfl,h1,h2⟩;exact⟨v,rfl,dR h1 (br 9 rfl) rfl rfl Ag Ag Ag,h2⟩
theorem q_rAdd(va vb:Value)(x y:Fq)(w:World)(ha:IsQ w va x)(hb:IsQ w vb y)(h:x.ok 1000000000)(k:y.ok 1000000000):
  AC AB 299 #[va,vb] w λe w'=>fg w (x.add y) e w':=by
 by_cases c0:x.s=y.s
 ·refine(cR2 (mFs [x,y]++([mDg (x.p*y.q),mDg (y.p*x.q),mDg (x.q*y.q),.dig (nl ((x.p*y.q)+(y.p*x.q))) ((x.p*y.q)+(y.p*x.q))]++mFs [(Fq.low x.s ((x.p*y.q)+(y.p*x.q)) (x.q*y.q))])) [q3 0 1 2,q3 3 4 5] [va,vb] (.v (q3 10 11 12)) (il5 (eI 1 5 6 rfl rfl rfl (AD h.p it) (AD k.q it)) (eI 4 2 7 rfl rfl rfl (AD k.p it) (AD h.q it)) (eI 2 5 8 rfl rfl rfl (AD h.q it) (AD k.q it)) (I_mAdd (i:=6) (j:=7) (k:=9) rfl rfl rfl (AD (aJ h.p k.q) it) (AD (aJ k.p h.q) it)) (kg 9 8 10 11 12 (br 0 rfl) rfl rfl rfl rfl rfl (AD (aaw (aJ h.p k.q) (aJ k.p h.q)) it) (AD (aJ h.q k.q) it) (Cl h.n k.n))) (aj (kL 4 Aa (br 0 rfl) (br 3 rfl) (lb (vB c0))) (az)) Tryz.func299 ⟨(inF ha (lrb 0 rfl) rfl rfl),⟨(inF hb (lrb 3 rfl) rfl rfl),trivial⟩⟩).mono ?_;rintro e w' ⟨v,rfl,h1,h2⟩;exact⟨v,rfl,dR h1 (br 10 rfl) rfl rfl As As As,h2⟩
 ·by_cases c1:(x.p*y.q)<(y.p*x.q)
  ·by_cases c2:(y.p*x.q)<(x.p*y.q)
   ·exact absurd c2 (Nat.lt_asymm c1)
   ·refine(cR2 (mFs [x,y]++([mDg (x.p*y.q),mDg (y.p*x.q),mDg (x.q*y.q),.val (.int .i64 (cmpI (x.p*y.q) (y.p*x.q))),.dig (nl ((y.p*x.q) - (x.p*y.q))) ((y.p*x.q) - (x.p*y.q))]++mFs [(Fq.low y.s ((y.p*x.q) - (x.p*y.q)) (x.q*y.q))])) [q3 0 1 2,q3 3 4 5] [va,vb] (.v (q3 11 12 13)) (il6 (eI 1 5 6 rfl rfl rfl (AD h.p it) (AD k.q it)) (eI 4 2 7 rfl rfl rfl (AD k.p it) (AD h.q it)) (eI 2 5 8 rfl rfl rfl (AD h.q it) (AD k.q it)) (I_mCmp 6 7 rfl rfl (lr 9 rfl) (AD (aJ h.p k.q) it) (AD (aJ k.p h.q) it)) (I_mSub 7 6 10 rfl rfl rfl (le_t c2) (AD (aJ k.p h.q) it) (AD (aJ h.p k.q) it)) (kg 10 8 11 12 13 (br 3 rfl) rfl rfl rfl rfl rfl (AD (oY (aJ k.p h.q)) it) (AD (aJ h.q k.q) it) (Cl h.n k.n))) (aj (kL 4 Aa (br 0 rfl) (br 3 rfl) (lb (vC c0))) (aj (o_lssK 0 9 (t:=3) rfl (cmp_lt_t c1)) (az))) Tryz.func299 ⟨(inF ha (lrb 0 rfl) rfl rfl),⟨(inF hb (lrb 3 rfl) rfl rfl),trivial⟩⟩).mono ?_;rintro e w' ⟨v,rfl,h1,h2⟩;exact⟨v,rfl,dR h1 (br 11 rfl) rfl rfl (by simp only[Fq.add,Fq.low,cN,cJ,if_neg c0,if_neg (Nat.not_le.2 c1)]) (by simp only[Fq.add,Fq.low,cN,cJ,if_neg c0,if_neg (Nat.not_le.2 c1)]) (by simp only[Fq.add,Fq.low,cN,cJ,if_neg c0,if_neg (Nat.not_le.2 c1)]),h2⟩
  ·refine(cR2 (mFs [x,y]++([mDg (x.p*y.q),mDg (y.p*x.q),mDg (x.q*y.q),.val (.int .i64 (cmpI (x.p*y.q) (y.p*x.q))),.dig (nl ((x.p*y.q) - (y.p*x.q))) ((x.p*y.q) - (y.p*x.q))]++mFs [(Fq.low x.s ((x.p*y.q) - (y.p*x.q)) (x.q*y.q))])) [q3 0 1 2,q3 3 4 5] [va,vb] (.v (q3 11 12 13)) (il6 (eI 1 5 6 rfl rfl rfl (AD h.p it) (AD k.q it)) (eI 4 2 7 rfl rfl rfl (AD k.p it) (AD h.q it)) (eI 2 5 8 rfl rfl rfl (AD h.q it) (AD k.q it)) (I_mCmp 6 7 rfl rfl (lr 9 rfl) (AD (aJ h.p k.q) it) (AD (aJ k.p h.q) it)) (I_mSub 6 7 10 rfl rfl rfl (le_t c1) (AD (aJ h.p k.q) it) (AD (aJ k.p h.q) it)) (kg 10 8 11 12 13 (br 0 rfl) rfl rfl rfl rfl rfl (AD (oY (aJ h.p k.q)) it) (AD (aJ h.q k.q) it) (Cl h.n k.n))) (aj (kL 4 Aa (br 0 rfl) (br 3 rfl) (lb (vC c0))) (aj (o_lssK 0 9 (t:=3) rfl (cmp_lt_f c1)) (az))) Tryz.func299 ⟨(inF ha (lrb 0 rfl) rfl rfl),⟨(inF hb (lrb 3 rfl) rfl rfl),trivial⟩⟩).mono ?_;rintro e w' ⟨v,rfl,h1,h2⟩;exact⟨v,rfl,dR h1 (br 11 rfl) rfl rfl (by simp only[Fq.add,Fq.low,cN,cJ,if_neg c0,if_pos (DK c1)]) (by simp only[Fq.add,Fq.low,cN,cJ,if_neg c0,if_pos (DK c1)]) (by simp only[Fq.add,Fq.low,cN,cJ,if_neg c0,if_pos (DK c1)]),h2⟩
theorem J_rAdd(G:FAt ρ l a b x)(hy:FAt ρ m c d y)(hr:FAt ρ l' a' F (x.add y))(h:x.ok 1000000000)(k:y.ok 1000000000):Inst.Ok AB ρ ⟨299,[.agg [l,.ref a,.ref b],.agg [m,.ref c,.ref d]],.v (.agg [l',.ref a',.ref F])⟩:=
 i2QQ (ah Tryz.func299 rfl rfl) (λva vb w ha hb=>q_rAdd va vb x y w ha hb h k) G hy hr
theorem q_rSub(va vb:Value)(x y:Fq)(w:World)(ha:IsQ w va x)(hb:IsQ w vb y)(h:x.ok 1000000000)(k:y.ok 1000000000):
  AC AB 292 #[va,vb] w λe w'=>fg w (x.sub y) e w':=by
 refine(cR2 (mFs [x,y,y.neg,(x.add y.neg)]) [q3 0 1 2,q3 3 4 5] [va,vb] (.v (q3 9 10 11)) (il2 (J_rNeg (bQ 4 5 (.ref 3) y (lrb 3 rfl) (br 3 rfl) rfl rfl) (bQ 7 8 (.ref 6) y.neg (lrb 6 rfl) (br 6 rfl) rfl rfl) k) (J_rAdd (bQ 1 2 (.ref 0) x (lrb 0 rfl) (br 0 rfl) rfl rfl) (bQ 7 8 (.ref 6) y.neg (lrb 6 rfl) (br 6 rfl) rfl rfl) (bQ 10 11 (.ref 9) (x.add y.neg) (lrb 9 rfl) (br 9 rfl) rfl rfl) h k.neg)) az Tryz.func292 ⟨(inF ha (lrb 0 rfl) rfl rfl),⟨(inF hb (lrb 3 rfl) rfl rfl),trivial⟩⟩).mono ?_;rintro e w' ⟨v,rfl,h1,h2⟩;exact⟨v,rfl,dR h1 (br 9 rfl) rfl rfl (rfl) (rfl) (rfl),h2⟩
theorem q_rDiv(va vb:Value)(x y:Fq)(w:World)(ha:IsQ w va x)(hb:IsQ w vb y)(h:x.ok 1000000000)(k:y.ok 1000000000)(h0:y.p≠0):
  AC AB 307 #[va,vb] w λe w'=>pn w (x.div y) 0 e w':=by
 refine(cR2 (mFs [x,y]++([.val (.bool (x.s !=y.s)),mDg (x.p*y.q),mDg (x.q*y.p)]++mFs [(Fq.low (x.s !=y.s) (x.p*y.q) (x.q*y.p))])) [q3 0 1 2,q3 3 4 5] [va,vb] (.tup [q3 9 10 11,.one (.i .i64 0)]) (il3 (eI 1 5 7 rfl rfl rfl (AD h.p it) (AD k.q it)) (eI 2 4 8 rfl rfl rfl (AD h.q it) (AD k.p it)) (kg 7 8 9 10 11 (br 6 rfl) rfl rfl rfl rfl rfl (AD (aJ h.p k.q) it) (AD (aJ h.q k.p) it) (Cl h.n h0))) (aj (rR 4 Aa (br 0 rfl) (br 3 rfl) (lrb 6 rfl)) (az)) Tryz.func307 ⟨(inF ha (lrb 0 rfl) rfl rfl),⟨(inF hb (lrb 3 rfl) rfl rfl),trivial⟩⟩).mono ?_;rintro e w' ⟨v,rfl,h1,h2⟩;obtain⟨u,rfl,h3⟩:=vD h1 (λ_ _ _ h=>h);exact⟨u,rfl,dR h3 (br 9 rfl) rfl rfl Ag Ag Ag,h2⟩
theorem q_rSign(va:Value)(x:Fq)(w:World)(ha:IsQ w va x)(h:x.ok 1000000000000):
  AC AB 269 #[va] w λe w'=>bI w (.int .i64 x.sgn) e w':=by
 by_cases c0:x.p=0
 ·refine(cR2 (mFs [x]) [q3 0 1 2] [va] (.v (.one (.i .i64 0))) (il1 (cP 1 rfl (decide_eq_true c0) h.p)) az Tryz.func269 ⟨(inF ha (lrb 0 rfl) rfl rfl),trivial⟩).mono ?_;rintro e w' ⟨v,rfl,h1,h2⟩;have h1:=h1;have h1:v=_:=h1;subst h1;exact⟨by simp[Fq.sgn,c0],h2⟩
 ·rcases C6 (x.s)with F | F
  ·refine(cR2 [mDg (x.p),mDg (x.q)] [.agg [.b true,.ref 0,.ref 1]] [va] (.v (.one (.i .i64 (-1)))) (il1 (cP 0 rfl (decide_eq_false c0) h.p)) az Tryz.func269 ⟨(inF ha (lb F) rfl rfl),trivial⟩).mono ?_;rintro e w' ⟨v,rfl,h1,h2⟩;have h1:=h1;have h1:v=_:=h1;subst h1;exact⟨by simp[Fq.sgn,c0,F],h2⟩
  ·refine(cR2 [mDg (x.p),mDg (x.q)] [.agg [.b false,.ref 0,.ref 1]] [va] (.v (.one (.i .i64 1))) (il1 (cP 0 rfl (decide_eq_false c0) h.p)) az Tryz.func269 ⟨(inF ha (lb F) rfl rfl),trivial⟩).mono ?_;rintro e w' ⟨v,rfl,h1,h2⟩;have h1:=h1;have h1:v=_:=h1;subst h1;exact⟨by simp[Fq.sgn,c0,F],h2⟩
theorem q_rInt(v:Int)(w:World)(F: -9223372036854775808<=v)(rv:v<9223372036854775808):
  AC AB 51 #[.int .i64 v] w λe w'=>fg w (Fq.ofInt v) e w':=by
 refine(cR2 [.val (.int .i64 v),.val (.bool (decide (v<0))),.val (.int .u64 (v.natAbs:Int)),mDg (v.natAbs),mDg 1] [.one (.ref 0)] [.int .i64 v] (.v (q3 1 3 4)) (il3 (yu 0 2 rfl rfl F rv) (yt 2 3 rfl rfl (yn F rv)) (vE 4 rfl it)) (aj (nO 0 0 2 rfl (lrb 1 rfl)) (az)) Tryz.func51 ⟨bx 0 rfl ck,trivial⟩).mono ?_;rintro e w' ⟨v,rfl,h1,h2⟩;exact⟨v,rfl,dR h1 (br 1 rfl) rfl rfl (by simp[Fq.ofInt]) (rfl) (rfl),h2⟩
theorem vH(v u:Int)(w:World)(G: -9223372036854775808<=v)(rv:v<9223372036854775808)(F: -9223372036854775808<=u)(H:u<9223372036854775808)(h0:u≠0):
  AC AB 169 #[.int .i64 v,.int .i64 u] w λe w'=>pn w (Fq.ratio v u) 0 e w':=by
 refine(cR2 ([.val (.int .i64 v),.val (.int .i64 u),.val (.bool (decide (v<0))),.val (.bool (decide (u<0))),.val (.bool ((decide (v<0)) !=(decide (u<0)))),.val (.int .u64 (v.natAbs:Int)),mDg (v.natAbs),.val (.int .u64 (u.natAbs:Int)),mDg (u.natAbs)]++mFs [(Fq.low ((decide (v<0)) !=(decide (u<0))) v.natAbs u.natAbs)]) [.one (.ref 0),.one (.ref 1)] [.int .i64 v,.int .i64 u] (.tup [q3 9 10 11,.one (.i .i64 0)]) (il5 (yu 0 5 rfl rfl G rv) (yt 5 6 rfl rfl (yn G rv)) (yu 1 7 rfl rfl F H) (yt 7 8 rfl rfl (yn F H)) (kg 6 8 9 10 11 (br 4 rfl) rfl rfl rfl rfl rfl (AD (kX G rv) it) (AD (kX F H) it) no)) (aj (nO 0 0 2 rfl (lrb 2 rfl)) (aj (nO 0 1 2 rfl (lrb 3 rfl)) (aj (rR 4 Aa (br 2 rfl) (br 3 rfl) (lrb 4 rfl)) (az)))) Tryz.func169 ⟨bx 0 rfl ck,⟨bx 1 rfl ck,trivial⟩⟩).mono ?_;rintro e w' ⟨v,rfl,h1,h2⟩;obtain⟨u,rfl,h3⟩:=vD h1 (λ_ _ _ h=>h);exact⟨u,rfl,dR h3 (br 9 rfl) rfl rfl (rfl) (rfl) (rfl),h2⟩
theorem q_one(va:Value)(m:Nat)(w:World)(h:(Vp.row 31 1 [.dig (nl m) m]).p w va)(H:nl m<=1000000000000):
  AC AB 131 #[va] w λe w'=>bI w (.bool (decide (m=1))) e w':=by
 by_cases c0:m=1
 ·refine(cR2 [.row 31 1 [.dig (nl m) m],.plc 31 [.dig (nl m) m],mDg m,mDg 1,.val (.int .i64 (cmpI m 1))] [.one (.ref 0)] [va] (.v (.one (.b true))) (il2 (I_nOf 3 rfl it) (I_nCmp 2 3 rfl rfl (lr 4 rfl) H (AD nL it))) (aj (o_lenR 0 (t:=251) ⟨_,Dy⟩ rfl (li rfl)) (aj (o_iaL 0 1 0 1 (.i .i64 0) [.dig (nl m) m] Dy Aa rfl rfl (λ_ _ _ h=>h) it Ad (λj q F=>by match j,F with | 0,F=>simp at F;subst F;rfl | j+1,F=>simp at F)) (aj (o_ldA [.ref 2] 1 (t:=31) Aa Aa rfl ⟨lq rfl,trivial⟩) (aj (yg (n:=4) (c:=0) (t:=3) rfl (cmp_ne_f c0)) (az))))) Tryz.func131 ⟨⟨_,rfl,h,λ_ _ G=>tf G⟩,trivial⟩).mono ?_;rintro e w' ⟨v,rfl,h1,h2⟩;have h1:=h1;have h1:v=_:=h1;subst h1;exact⟨by simp[Bool.decide_eq_true,c0],h2⟩
 ·refine(cR2 [.row 31 1 [.dig (nl m) m],.plc 31 [.dig (nl m) m],mDg m,mDg 1,.val (.int .i64 (cmpI m 1))] [.one (.ref 0)] [va] (.v (.one (.b false))) (il2 (I_nOf 3 rfl it) (I_nCmp 2 3 rfl rfl (lr 4 rfl) H (AD nL it))) (aj (o_lenR 0 (t:=251) ⟨_,Dy⟩ rfl (li rfl)) (aj (o_iaL 0 1 0 1 (.i .i64 0) [.dig (nl m) m] Dy Aa rfl rfl (λ_ _ _ h=>h) it Ad (λj q F=>by match j,F with | 0,F=>simp at F;subst F;rfl | j+1,F=>simp at F)) (aj (o_ldA [.ref 2] 1 (t:=31) Aa Aa rfl ⟨lq rfl,trivial⟩) (aj (yg (n:=4) (c:=0) (t:=3) rfl (cmp_ne_t c0)) (az))))) Tryz.func131 ⟨⟨_,rfl,h,λ_ _ G=>tf G⟩,trivial⟩).mono ?_;rintro e w' ⟨v,rfl,h1,h2⟩;have h1:=h1;have h1:v=_:=h1;subst h1;exact⟨by simp[Bool.decide_eq_true,c0],h2⟩
theorem rT(n:Nat){m:Nat}{b:Bool}(hn:ρ[n]? =some (.row 31 1 [.dig (nl m) m]))(hb:decide (m=1)=b)(F:nl m<=1000000000000):Inst.Ok AB ρ ⟨131,[.one (.ref n)],.v (.one (.b b))⟩:=
 ⟨ah Tryz.func131 rfl rfl,λB w vs G h=>by
  match vs,h with
  | [va],h=>
   obtain⟨⟨q,h1,h2,_⟩,_⟩:=h;rw[hn]at h1;injection h1 with h1;subst h1;refine(q_one va m w h2 F).mono ?_;rintro e w' ⟨rfl,h2⟩;exact⟨_,rfl,by subst hb;rfl,h2⟩⟩
theorem q_fValid(va:Value)(x:Fq)(w:World)(ha:IsQ w va x)(hp:nl x.p<=1000000)(G:nl x.q<=1000000):
  AC AB 235 #[va] w λe w'=>bI w (.bool x.valid) e w':=by
 by_cases c0:x.q=0
 ·refine(cR2 (mFs [x]) [q3 0 1 2] [va] (.v (.one (.b false))) (il3 (bR 1 rfl rfl (AD hp it)) (bR 2 rfl rfl (AD G it)) (bS 2 rfl (decide_eq_true c0) (AD G it))) az DY ⟨(inF ha (lrb 0 rfl) rfl rfl),trivial⟩).mono ?_;rintro e w' ⟨v,rfl,h1,h2⟩;have h1:=h1;have h1:v=_:=h1;subst h1;exact⟨by simp[Fq.valid,c0],h2⟩
 ·by_cases c1:x.p=0
  ·rcases C6 (x.s)with F | F
   ·refine(cR2 [mDg (x.p),mDg (x.q)] [.agg [.b true,.ref 0,.ref 1]] [va] (.v (.one (.b false))) (il4 (bR 0 rfl rfl (AD hp it)) (bR 1 rfl rfl (AD G it)) (bS 1 rfl (decide_eq_false c0) (AD G it)) (gl (bQ 0 1 (.b true) x (lb F) (bl2 F) rfl rfl) (lb F) (decide_eq_true c1) (AD hp it))) (aj (jc true true true true) (az)) DY ⟨(inF ha (lb F) rfl rfl),trivial⟩).mono ?_;rintro e w' ⟨v,rfl,h1,h2⟩;have h1:=h1;have h1:v=_:=h1;subst h1;exact⟨by simp[Fq.valid,c0,c1,F],h2⟩
   ·by_cases c3:(AO x.p x.q)=1
    ·refine(cR2 [mDg (x.p),mDg (x.q),mDg (AO x.p x.q),.row 31 1 [.dig (nl (AO x.p x.q)) (AO x.p x.q)]] [.agg [.b false,.ref 0,.ref 1]] [va] (.v (.one (.b true))) (il6 (bR 0 rfl rfl (AD hp it)) (bR 1 rfl rfl (AD G it)) (bS 1 rfl (decide_eq_false c0) (AD G it)) (gl (bQ 0 1 (.b false) x (lb F) (bl2 F) rfl rfl) (lb F) (decide_eq_true c1) (AD hp it)) (jb 0 1 2 rfl rfl rfl (AD hp it) (AD G it)) (rT 3 rfl (decide_eq_true c3) (AD (bH hp G) it))) (aj (jc false true true true) (aj (yj 1 3 1 [0] [.ref 2] [.sl0] [.dig (nl (AO x.p x.q)) (AO x.p x.q)] [nt 2] Dy Aa Aa it it it rfl Aa ⟨nK rfl,trivial⟩ rfl) (az))) DY ⟨(inF ha (lb F) rfl rfl),trivial⟩).mono ?_;rintro e w' ⟨v,rfl,h1,h2⟩;have h1:=h1;have h1:v=_:=h1;subst h1;exact⟨by rw[c1,Nat.gcd_zero_left]at c3;simp[Fq.valid,c0,c1,F,c3],h2⟩
    ·refine(cR2 [mDg (x.p),mDg (x.q),mDg (AO x.p x.q),.row 31 1 [.dig (nl (AO x.p x.q)) (AO x.p x.q)]] [.agg [.b false,.ref 0,.ref 1]] [va] (.v (.one (.b false))) (il6 (bR 0 rfl rfl (AD hp it)) (bR 1 rfl rfl (AD G it)) (bS 1 rfl (decide_eq_false c0) (AD G it)) (gl (bQ 0 1 (.b false) x (lb F) (bl2 F) rfl rfl) (lb F) (decide_eq_true c1) (AD hp it)) (jb 0 1 2 rfl rfl rfl (AD hp it) (AD G it)) (rT 3 rfl (decide_eq_false c3) (AD (bH hp G) it))) (aj (jc false true true true) (aj (yj 1 3 1 [0] [.ref 2] [.sl0] [.dig (nl (AO x.p x.q)) (AO x.p x.q)] [nt 2] Dy Aa Aa it it it rfl Aa ⟨nK rfl,trivial⟩ rfl) (az))) DY ⟨(inF ha (lb F) rfl rfl),trivial⟩).mono ?_;rintro e w' ⟨v,rfl,h1,h2⟩;have h1:=h1;have h1:v=_:=h1;subst h1;exact⟨by rw[c1,Nat.gcd_zero_left]at c3;simp[Fq.valid,c0,c1,F,c3],h2⟩
  ·rcases C6 (x.s)with F | F
   ·by_cases c3:(AO x.p x.q)=1
    ·refine(cR2 [mDg (x.p),mDg (x.q),mDg (AO x.p x.q),.row 31 1 [.dig (nl (AO x.p x.q)) (AO x.p x.q)]] [.agg [.b true,.ref 0,.ref 1]] [va] (.v (.one (.b true))) (il6 (bR 0 rfl rfl (AD hp it)) (bR 1 rfl rfl (AD G it)) (bS 1 rfl (decide_eq_false c0) (AD G it)) (gl (bQ 0 1 (.b true) x (lb F) (bl2 F) rfl rfl) (lb F) (decide_eq_false c1) (AD hp it)) (jb 0 1 2 rfl rfl rfl (AD hp it) (AD G it)) (rT 3 rfl (decide_eq_true c3) (AD (bH hp G) it))) (aj (jc true false true true) (aj (yj 1 3 1 [0] [.ref 2] [.sl0] [.dig (nl (AO x.p x.q)) (AO x.p x.q)] [nt 2] Dy Aa Aa it it it rfl Aa ⟨nK rfl,trivial⟩ rfl) (az))) DY ⟨(inF ha (lb F) rfl rfl),trivial⟩).mono ?_;rintro e w' ⟨v,rfl,h1,h2⟩;have h1:=h1;have h1:v=_:=h1;subst h1;exact⟨by simp[Fq.valid,c0,c1,F,c3],h2⟩
    ·refine(cR2 [mDg (x.p),mDg (x.q),mDg (AO x.p x.q),.row 31 1 [.dig (nl (AO x.p x.q)) (AO x.p x.q)]] [.agg [.b true,.ref 0,.ref 1]] [va] (.v (.one (.b false))) (il6 (bR 0 rfl rfl (AD hp it)) (bR 1 rfl rfl (AD G it)) (bS 1 rfl (decide_eq_false c0) (AD G it)) (gl (bQ 0 1 (.b true) x (lb F) (bl2 F) rfl rfl) (lb F) (decide_eq_false c1) (AD hp it)) (jb 0 1 2 rfl rfl rfl (AD hp it) (AD G it)) (rT 3 rfl (decide_eq_false c3) (AD (bH hp G) it))) (aj (jc true false true true) (aj (yj 1 3 1 [0] [.ref 2] [.sl0] [.dig (nl (AO x.p x.q)) (AO x.p x.q)] [nt 2] Dy Aa Aa it it it rfl Aa ⟨nK rfl,trivial⟩ rfl) (az))) DY ⟨(inF ha (lb F) rfl rfl),trivial⟩).mono ?_;rintro e w' ⟨v,rfl,h1,h2⟩;have h1:=h1;have h1:v=_:=h1;subst h1;exact⟨by simp[Fq.valid,c0,c1,F,c3],h2⟩
   ·by_cases c3:(AO x.p x.q)=1
    ·refine(cR2 [mDg (x.p),mDg (x.q),mDg (AO x.p x.q),.row 31 1 [.dig (nl (AO x.p x.q)) (AO x.p x.q)]] [.agg [.b false,.ref 0,.ref 1]] [va] (.v (.one (.b true))) (il6 (bR 0 rfl rfl (AD hp it)) (bR 1 rfl rfl (AD G it)) (bS 1 rfl (decide_eq_false c0) (AD G it)) (gl (bQ 0 1 (.b false) x (lb F) (bl2 F) rfl rfl) (lb F) (decide_eq_false c1) (AD hp it)) (jb 0 1 2 rfl rfl rfl (AD hp it) (AD G it)) (rT 3 rfl (decide_eq_true c3) (AD (bH hp G) it))) (aj (jc false false true true) (aj (yj 1 3 1 [0] [.ref 2] [.sl0] [.dig (nl (AO x.p x.q)) (AO x.p x.q)] [nt 2] Dy Aa Aa it it it rfl Aa ⟨nK rfl,trivial⟩ rfl) (az))) DY ⟨(inF ha (lb F) rfl rfl),trivial⟩).mono ?_;rintro e w' ⟨v,rfl,h1,h2⟩;have h1:=h1;have h1:v=_:=h1;subst h1;exact⟨by simp[Fq.valid,c0,c1,F,c3],h2⟩
    ·refine(cR2 [mDg (x.p),mDg (x.q),mDg (AO x.p x.q),.row 31 1 [.dig (nl (AO x.p x.q)) (AO x.p x.q)]] [.agg [.b false,.ref 0,.ref 1]] [va] (.v (.one (.b false))) (il6 (bR 0 rfl rfl (AD hp it)) (bR 1 rfl rfl (AD G it)) (bS 1 rfl (decide_eq_false c0) (AD G it)) (gl (bQ 0 1 (.b false) x (lb F) (bl2 F) rfl rfl) (lb F) (decide_eq_false c1) (AD hp it)) (jb 0 1 2 rfl rfl rfl (AD hp it) (AD G it)) (rT 3 rfl (decide_eq_false c3) (AD (bH hp G) it))) (aj (jc false false true true) (aj (yj 1 3 1 [0] [.ref 2] [.sl0] [.dig (nl (AO x.p x.q)) (AO x.p x.q)] [nt 2] Dy Aa Aa it it it rfl Aa ⟨nK rfl,trivial⟩ rfl) (az))) DY ⟨(inF ha (lb F) rfl rfl),trivial⟩).mono ?_;rintro e w' ⟨v,rfl,h1,h2⟩;have h1:=h1;have h1:v=_:=h1;subst h1;exact⟨by simp[Fq.valid,c0,c1,F,c3],h2⟩
theorem q_rValid(va:Value)(x:Fq)(w:World)(ha:IsQ w va x)(hp:nl x.p<=1000000)(F:nl x.q<=1000000):
  AC AB 256 #[va] w λe w'=>bI w (.bool x.valid) e w':=by
 by_cases c0:x.q=0
 ·refine(cR2 (mFs [x]) [q3 0 1 2] [va] (.v (.one (.b false))) (il3 (cU 1 rfl rfl (AD hp it)) (cU 2 rfl rfl (AD F it)) (cP 2 rfl (decide_eq_true c0) (AD F it))) az EH ⟨(inF ha (lrb 0 rfl) rfl rfl),trivial⟩).mono ?_;rintro e w' ⟨v,rfl,h1,h2⟩;have h1:=h1;have h1:v=_:=h1;subst h1;exact⟨by simp[Fq.valid,c0],h2⟩
 ·rcases C6 (x.s)with G | G
  ·by_cases c2:x.p=0
   ·refine(cR2 [mDg (x.p),mDg (x.q)] [.agg [.b true,.ref 0,.ref 1]] [va] (.v (.one (.b false))) (il4 (cU 0 rfl rfl (AD hp it)) (cU 1 rfl rfl (AD F it)) (cP 1 rfl (decide_eq_false c0) (AD F it)) (cP 0 rfl (decide_eq_true c2) (AD hp it))) az EH ⟨(inF ha (lb G) rfl rfl),trivial⟩).mono ?_;rintro e w' ⟨v,rfl,h1,h2⟩;have h1:=h1;have h1:v=_:=h1;subst h1;exact⟨by simp[Fq.valid,c0,G,c2],h2⟩
   ·by_cases c3:(AO x.p x.q)=1
    ·refine(cR2 [mDg (x.p),mDg (x.q),mDg (AO x.p x.q),mDg 1] [.agg [.b true,.ref 0,.ref 1]] [va] (.v (.one (.b true))) (il7 (cU 0 rfl rfl (AD hp it)) (cU 1 rfl rfl (AD F it)) (cP 1 rfl (decide_eq_false c0) (AD F it)) (cP 0 rfl (decide_eq_false c2) (AD hp it)) (kZ 0 1 2 rfl rfl rfl (AD hp it) (AD F it)) (vE 3 rfl it) (fJ 2 3 rfl rfl (decide_eq_true c3) (AD (bH hp F) it) (AD nL it))) az EH ⟨(inF ha (lb G) rfl rfl),trivial⟩).mono ?_;rintro e w' ⟨v,rfl,h1,h2⟩;have h1:=h1;have h1:v=_:=h1;subst h1;exact⟨by simp[Fq.valid,c0,G,c2,c3],h2⟩
    ·refine(cR2 [mDg (x.p),mDg (x.q),mDg (AO x.p x.q),mDg 1] [.agg [.b true,.ref 0,.ref 1]] [va] (.v (.one (.b false))) (il7 (cU 0 rfl rfl (AD hp it)) (cU 1 rfl rfl (AD F it)) (cP 1 rfl (decide_eq_false c0) (AD F it)) (cP 0 rfl (decide_eq_false c2) (AD hp it)) (kZ 0 1 2 rfl rfl rfl (AD hp it) (AD F it)) (vE 3 rfl it) (fJ 2 3 rfl rfl (decide_eq_false c3) (AD (bH hp F) it) (AD nL it))) az EH ⟨(inF ha (lb G) rfl rfl),trivial⟩).mono ?_;rintro e w' ⟨v,rfl,h1,h2⟩;have h1:=h1;have h1:v=_:=h1;subst h1;exact⟨by simp[Fq.valid,c0,G,c2,c3],h2⟩
  ·by_cases c2:(AO x.p x.q)=1
   ·refine(cR2 [mDg (x.p),mDg (x.q),mDg (AO x.p x.q),mDg 1] [.agg [.b false,.ref 0,.ref 1]] [va] (.v (.one (.b true))) (il6 (cU 0 rfl rfl (AD hp it)) (cU 1 rfl rfl (AD F it)) (cP 1 rfl (decide_eq_false c0) (AD F it)) (kZ 0 1 2 rfl rfl rfl (AD hp it) (AD F it)) (vE 3 rfl it) (fJ 2 3 rfl rfl (decide_eq_true c2) (AD (bH hp F) it) (AD nL it))) az EH ⟨(inF ha (lb G) rfl rfl),trivial⟩).mono ?_;rintro e w' ⟨v,rfl,h1,h2⟩;have h1:=h1;have h1:v=_:=h1;subst h1;exact⟨by simp[Fq.valid,c0,G,c2],h2⟩
   ·refine(cR2 [mDg (x.p),mDg (x.q),mDg (AO x.p x.q),mDg 1] [.agg [.b false,.ref 0,.ref 1]] [va] (.v (.one (.b false))) (il6 (cU 0 rfl rfl (AD hp it)) (cU 1 rfl rfl (AD F it)) (cP 1 rfl (decide_eq_false c0) (AD F it)) (kZ 0 1 2 rfl rfl rfl (AD hp it) (AD F it)) (vE 3 rfl it) (fJ 2 3 rfl rfl (decide_eq_false c2) (AD (bH hp F) it) (AD nL it))) az EH ⟨(inF ha (lb G) rfl rfl),trivial⟩).mono ?_;rintro e w' ⟨v,rfl,h1,h2⟩;have h1:=h1;have h1:v=_:=h1;subst h1;exact⟨by simp[Fq.valid,c0,G,c2],h2⟩
theorem q_SameB(va vb:Value)(x y:Fq)(w:World)(ha:IsQ w va x)(hb:IsQ w vb y)(hp:nl x.p<=1000000000000)(F:nl x.q<=1000000000000)(kp:nl y.p<=1000000000000)(G:nl y.q<=1000000000000):
  AC AB 121 #[va,vb] w λe w'=>bI w (.bool (x.same y)) e w':=by
 by_cases c0:x.s=y.s
 ·by_cases c1:x.p=y.p
  ·by_cases c2:x.q=y.q
   ·refine(cR2 (mFs [x,y]) [q3 0 1 2,q3 3 4 5] [va,vb] (.v (.one (.b true))) (il2 (fJ 1 4 rfl rfl (decide_eq_true c1) hp kp) (fJ 2 5 rfl rfl (decide_eq_true c2) F G)) (aj (kL 4 Aa (br 0 rfl) (br 3 rfl) (lb (vB c0))) (az)) Tryz.func121 ⟨(inF ha (lrb 0 rfl) rfl rfl),⟨(inF hb (lrb 3 rfl) rfl rfl),trivial⟩⟩).mono ?_;rintro e w' ⟨v,rfl,h1,h2⟩;have h1:=h1;have h1:v=_:=h1;subst h1;exact⟨by simp[Fq.same,c0,c1,c2],h2⟩
   ·refine(cR2 (mFs [x,y]) [q3 0 1 2,q3 3 4 5] [va,vb] (.v (.one (.b false))) (il2 (fJ 1 4 rfl rfl (decide_eq_true c1) hp kp) (fJ 2 5 rfl rfl (decide_eq_false c2) F G)) (aj (kL 4 Aa (br 0 rfl) (br 3 rfl) (lb (vB c0))) (az)) Tryz.func121 ⟨(inF ha (lrb 0 rfl) rfl rfl),⟨(inF hb (lrb 3 rfl) rfl rfl),trivial⟩⟩).mono ?_;rintro e w' ⟨v,rfl,h1,h2⟩;have h1:=h1;have h1:v=_:=h1;subst h1;exact⟨by simp[Fq.same,c0,c1,c2],h2⟩
  ·refine(cR2 (mFs [x,y]) [q3 0 1 2,q3 3 4 5] [va,vb] (.v (.one (.b false))) (il1 (fJ 1 4 rfl rfl (decide_eq_false c1) hp kp)) (aj (kL 4 Aa (br 0 rfl) (br 3 rfl) (lb (vB c0))) (az)) Tryz.func121 ⟨(inF ha (lrb 0 rfl) rfl rfl),⟨(inF hb (lrb 3 rfl) rfl rfl),trivial⟩⟩).mono ?_;rintro e w' ⟨v,rfl,h1,h2⟩;have h1:=h1;have h1:v=_:=h1;subst h1;exact⟨by simp[Fq.same,c0,c1],h2⟩
 ·refine(cR2 (mFs [x,y]) [q3 0 1 2,q3 3 4 5] [va,vb] (.v (.one (.b false))) (dD) (aj (kL 4 Aa (br 0 rfl) (br 3 rfl) (lb (vC c0))) (az)) Tryz.func121 ⟨(inF ha (lrb 0 rfl) rfl rfl),⟨(inF hb (lrb 3 rfl) rfl rfl),trivial⟩⟩).mono ?_;rintro e w' ⟨v,rfl,h1,h2⟩;have h1:=h1;have h1:v=_:=h1;subst h1;exact⟨by simp[Fq.same,c0],h2⟩
end Go.Proofs.YtggfmklppkioeaaGreat
