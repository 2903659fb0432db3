/- An executor: loops whose number of rounds is not known. An executor: what is known of unknowns; rows; operations on numbers, truth values and rows. An executor: strings, rows of strings. magnitude of package fraction, size of the reference. mark, Sign of package fraction; Sign of the reference. Cmp, Lerp, Int, Ratio; copied. Valid, of package fraction and of the reference. strings.Cut at a slash, strings.CutPrefix at a minus. Parse of package fraction. -/
import Derived.Test.YtggfmklppkioeaaGreatP06
import Derived.Shelf.Strings.Split
import Derived.Shelf.Strings.Search3
import Derived.Shelf.Strings.Count
import Derived.Lib.IndexBytes
import Derived.Lib.Bytealg
import Derived.Lib.Strings
namespace Go.Proofs.YtggfmklppkioeaaGreat
set_option linter.unusedSimpArgs false
set_option linter.unusedVariables false
set_option maxRecDepth 100000
open Go.RowKit
open _root_.Go.RowKit renaming Below → AG
open _root_.Go renaming Calls → AH,Operand → AZ,Program → A0,bodyPost_ret → A6,wp_block → AY
open _root_.Array renaming getD_eq_getD_getElem? → EG,getElem?_eq_some_iff → A8,getElem?_toList → BU
open _root_.Go.RowKit.Below renaming refl → AL
open _root_.Bool renaming and_eq_true → Bo,false_eq_true → DB
open _root_.Go.Ending renaming returned → A4
open _root_.Go.IntKind renaming u64 → BD
open _root_.Go.Lib renaming hid → AF
open _root_.List renaming contains_iff_mem → CF,getElem?_cons_succ → Fv,getElem?_cons_zero → Fb,getElem?_eq_getElem → AU,getElem?_eq_some_iff → A5,getElem?_map → BB,getElem?_range → D8,getElem?_toArray → EL,mem_append → AJ,mem_cons → A3
open _root_.Nat renaming le_refl → AK,zero_add → Bh
open _root_.Option renaming getD_some → DC,map_some → BF,some → A9
open _root_.Go.Result renaming andThen → AX
open _root_.Go.Sem renaming run_bind → AO
open _root_.Go.Proofs.Tryz renaming prog → AE
open _root_.Go.Value renaming int → AW
def Leaf.cv(N V:Nat)(σ:List (Nat×Leaf))(l l':Leaf):Bool:=
 match l' with
 | .ref n=>if n<N then decide (l= .ref n)else σ.contains (n,l) && (match l with | .own _ _=>false | _=>true)
 | .ptr x o=>decide (l= .ptr x o) && decide (x<V)
 | .own k m=>if m<N then decide (l= .own k m)else σ.contains (m,l) && (match l with | .own k' _=>decide (k'=k) | _=>false)
 | _=>decide (l=l')
def gP(N V:Nat)(σ:List (Nat×Leaf)):List Leaf->List Leaf->Bool
 | [],[]=>true
 | l::ls,k::ks=>l.cv N V σ k && gP N V σ ls ks
 | _,_=>false
def SV.cv(N V:Nat)(σ:List (Nat×Leaf)):SV->SV->Bool
 | .one l,.one k=>l.cv N V σ k
 | .agg ls,.agg ks=>gP N V σ ls ks
 | _,_=>false
def sB(N V:Nat)(σ:List (Nat×Leaf)):List SV->List SV->Bool
 | [],[]=>true
 | l::ls,k::ks=>l.cv N V σ k && sB N V σ ls ks
 | _,_=>false
def AV.cv(N V:Nat)(σ:List (Nat×Leaf)):AV->AV->Bool
 | .v l,.v k=>l.cv N V σ k
 | .tup ls,.tup ks=>sB N V σ ls ks
 | .any,.any=>true
 | _,_=>false
def eK(N V:Nat)(σ:List (Nat×Leaf)):List (Option AV)->List (Option AV)->Bool
 | _,[]=>true
 | _::cs,none::ds=>eK N V σ cs ds
 | some c::cs,some d::ds=>c.cv N V σ d && eK N V σ cs ds
 | _,_=>false
def bX(N V:Nat)(σ:List (Nat×Leaf)):List (Option Leaf)->List (Option Leaf)->Bool
 | [],[]=>true
 | _::cs,none::ds=>bX N V σ cs ds
 | some c::cs,some d::ds=>c.cv N V σ d && bX N V σ cs ds
 | _,_=>false
def nM(N V:Nat)(σ:List (Nat×Leaf)):List (TypeId×List (Option Leaf))->List (TypeId×List (Option Leaf))->Bool
 | _,[]=>true
 | (t,cs)::r,(t',ds)::r'=>decide (t=t') && (bX N V σ cs ds && nM N V σ r r')
 | _,_=>false
def MS.cv(N:Nat)(σ:List (Nat×Leaf))(s s':MS):Bool:=eK N s'.vars.length σ s.slots s'.slots && nM N s'.vars.length σ s.vars s'.vars
section
variable {ρ ρ':Rho} {B:Blk} {a:Act} {w:World} {w0:Ent} {nt N V:Nat} {σ:List (Nat×Leaf)} {s s':MS} {v:Value}
def mE(V:Nat)(B:Blk):Blk:=⟨λx=>if x<V then B.v x else none,B.o⟩
structure CutOk(B B':Blk):Prop where
 v:∀x g,B'.v x=some g->B.v x=some g
 o:B'.o=B.o
theorem CutOk.has{B B':Blk}(h:CutOk B B'){g:Nat}(k:B'.has g):B.has g:=by
 rcases k with⟨x,k⟩ | ⟨x,k⟩
 ·exact .inl ⟨x,h.v _ _ k⟩
 ·rw[h.o]at k;exact .inr ⟨x,k⟩
def Leaf.like:Leaf->Nat->Leaf
 | .own k _,n=>.own k n
 | _,n=>.ref n
theorem tW:CutOk B (mE V B):=⟨λx g h=>by
 unfold mE at h;simp only at h;split at h
 ·exact h
 ·exact(by cases h),rfl⟩
def SigAt(ρ ρ':Rho)(q:Nat×Leaf):Prop:=∀B B' w v,CutOk B B'->q.2.holds ρ B w v->(Leaf.like q.2 q.1).holds ρ' B' w v
def sC(ρ ρ':Rho)(σ:List (Nat×Leaf)):Prop:=∀q∈σ,SigAt ρ ρ' q
theorem Leaf.cv_holds(hc:∀n,n<N->ρ[n]? =ρ'[n]?)(G:sC ρ ρ' σ){l l':Leaf}(h:l.cv N V σ l'=true)(hl:l.holds ρ B w v):l'.holds ρ' (mE V B) w v:=by
 cases l' with
 | ref n=>
  simp only[Leaf.cv]at h;split at h
  ·rename_i hn;have h:=of_decide_eq_true h;subst h;obtain⟨q,h1,h2,h3⟩:=hl;exact⟨q,by rw[<-hc n hn];exact h1,h2,λg H C=>h3 g H (tW.has C)⟩
  ·simp only[Bo]at h;have h1:=G (n,l) (CF.1 h.1) _ (mE V B) _ _ tW hl
   cases l with
   | own k m=>simp at h
   | _=>exact h1
 | own k m=>
  simp only[Leaf.cv]at h;split at h
  ·rename_i hn;have h:=of_decide_eq_true h;subst h;obtain⟨q,h1,h2,h3,h4⟩:=hl;exact⟨q,by rw[<-hc m hn];exact h1,h2,h3,h4⟩
  ·simp only[Bo]at h;have h1:=G (m,l) (CF.1 h.1) _ (mE V B) _ _ tW hl
   cases l with
   | own k' m'=>
    have h2:k'=k:=by simpa using h.2
    subst h2;exact h1
   | _=>simp at h
 | ptr x o=>
  simp only[Leaf.cv,Bo,decide_eq_true_eq]at h;obtain⟨rfl,C⟩:=h;obtain⟨g,h1,h2⟩:=hl;exact⟨g,by show(if x<V then B.v x else none)=_;rw[if_pos C];exact h1,h2⟩
 | _=>
  simp only[Leaf.cv,decide_eq_true_eq]at h;subst h;exact hl
theorem je(hc:∀n,n<N->ρ[n]? =ρ'[n]?)(C:sC ρ ρ' σ):∀ {l l':List Leaf} {vs:List Value},gP N V σ l l'=true->az ρ B w l vs->az ρ' (mE V B) w l' vs
 | [],[],[],_,_=>trivial
 | _::_,_::_,_::_,h,hl=>by
  simp only[gP,Bo]at h;exact⟨Leaf.cv_holds hc C h.1 hl.1,je hc C h.2 hl.2⟩
 | [],[],_::_,_,h=>h.elim
 | [],_::_,_,h,_=>by simp[gP]at h
 | _::_,[],_,h,_=>by simp[gP]at h
 | _::_,_::_,[],_,h=>h.elim
theorem SV.cv_holds(hc:∀n,n<N->ρ[n]? =ρ'[n]?)(C:sC ρ ρ' σ){l l':SV}(h:l.cv N V σ l'=true)(hl:l.holds ρ B w v):l'.holds ρ' (mE V B) w v:=by
 cases l<;>cases l'<;>simp only[SV.cv]at h
 ·exact Leaf.cv_holds hc C h hl
 ·cases h
 ·cases h
 ·obtain⟨vs,e,hl⟩:=hl;exact⟨vs,e,je hc C h hl⟩
theorem oG(hc:∀n,n<N->ρ[n]? =ρ'[n]?)(C:sC ρ ρ' σ):∀ {l l':List SV} {vs:List Value},sB N V σ l l'=true->cO ρ B w l vs->cO ρ' (mE V B) w l' vs
 | [],[],[],_,_=>trivial
 | _::_,_::_,_::_,h,hl=>by
  simp only[sB,Bo]at h;exact⟨SV.cv_holds hc C h.1 hl.1,oG hc C h.2 hl.2⟩
 | [],[],_::_,_,h=>h.elim
 | [],_::_,_,h,_=>by simp[sB]at h
 | _::_,[],_,h,_=>by simp[sB]at h
 | _::_,_::_,[],_,h=>h.elim
theorem AV.cv_holds(hc:∀n,n<N->ρ[n]? =ρ'[n]?)(C:sC ρ ρ' σ){l l':AV}(h:l.cv N V σ l'=true)(hl:l.holds ρ B w v):l'.holds ρ' (mE V B) w v:=by
 cases l<;>cases l'<;>simp only[AV.cv]at h<;>try (cases h)
 ·exact SV.cv_holds hc C h hl
 ·obtain⟨vs,e,hl⟩:=hl;exact⟨vs,e,oG hc C h hl⟩
 ·exact hl
theorem jf:∀ {cs ds:List (Option AV)} {i:Nat} {d:AV},eK N V σ cs ds=true->ds[i]? =some (some d)->∃c,cs[i]? =some (some c)/\c.cv N V σ d=true
 | _,[],_,_,_,h=>by simp at h
 | _::cs,none::ds,0,_,_,h=>by simp at h
 | _::cs,none::ds,i+1,d,h,hd=>by
  simp only[eK]at h;obtain⟨c,h1,h2⟩:=jf (cs:=cs) (ds:=ds) (i:=i) (d:=d) h (by simpa using hd);exact⟨c,by simpa using h1,h2⟩
 | some c::cs,some d'::ds,0,d,h,hd=>by
  simp only[eK,Bo]at h;simp at hd;subst hd;exact⟨c,rfl,h.1⟩
 | some c::cs,some d'::ds,i+1,d,h,hd=>by
  simp only[eK,Bo]at h;obtain⟨c,h1,h2⟩:=jf (cs:=cs) (ds:=ds) (i:=i) (d:=d) h.2 (by simpa using hd);exact⟨c,by simpa using h1,h2⟩
 | [],none::ds,_,_,h,_=>by simp[eK]at h
 | [],some _::ds,_,_,h,_=>by simp[eK]at h
 | none::_,some _::_,_,_,h,_=>by simp[eK]at h
theorem jg:∀ {cs ds:List (Option Leaf)} {i:Nat} {d:Leaf},bX N V σ cs ds=true->ds[i]? =some (some d)->∃c,cs[i]? =some (some c)/\c.cv N V σ d=true
 | [],[],_,_,_,h=>by simp at h
 | _::cs,none::ds,0,_,_,h=>by simp at h
 | _::cs,none::ds,i+1,d,h,hd=>by
  simp only[bX]at h;obtain⟨c,h1,h2⟩:=jg (cs:=cs) (ds:=ds) (i:=i) (d:=d) h (by simpa using hd);exact⟨c,by simpa using h1,h2⟩
 | some c::cs,some d'::ds,0,d,h,hd=>by
  simp only[bX,Bo]at h;simp at hd;subst hd;exact⟨c,rfl,h.1⟩
 | some c::cs,some d'::ds,i+1,d,h,hd=>by
  simp only[bX,Bo]at h;obtain⟨c,h1,h2⟩:=jg (cs:=cs) (ds:=ds) (i:=i) (d:=d) h.2 (by simpa using hd);exact⟨c,by simpa using h1,h2⟩
 | [],none::ds,_,_,h,_=>by simp[bX]at h
 | [],some _::ds,_,_,h,_=>by simp[bX]at h
 | none::_,some _::_,_,_,h,_=>by simp[bX]at h
 | _::_,[],_,_,h,_=>by simp[bX]at h
theorem jh:∀ {cs ds:List (Option Leaf)},bX N V σ cs ds=true->cs.length=ds.length
 | [],[],_=>rfl
 | _::cs,none::ds,h=>by simp only[bX]at h;simp[jh h]
 | some _::cs,some _::ds,h=>by simp only[bX,Bo]at h;simp[jh h.2]
 | [],none::ds,h=>by simp[bX]at h
 | [],some _::ds,h=>by simp[bX]at h
 | none::_,some _::_,h=>by simp[bX]at h
 | _::_,[],h=>by simp[bX]at h
theorem lB:∀ {cs ds:List (TypeId×List (Option Leaf))} {i:Nat} {d:TypeId×List (Option Leaf)},nM N V σ cs ds=true->ds[i]? =some d->∃c,cs[i]? =some (d.1,c)/\bX N V σ c d.2=true
 | _,[],_,_,_,h=>by simp at h
 | (t,c)::cs,(t',d')::ds,0,d,h,hd=>by
  simp only[nM,Bo,decide_eq_true_eq]at h;simp at hd;subst hd;exact⟨c,by simp[h.1],h.2.1⟩
 | (t,c)::cs,(t',d')::ds,i+1,d,h,hd=>by
  simp only[nM,Bo,decide_eq_true_eq]at h;obtain⟨c,h1,h2⟩:=lB (cs:=cs) (ds:=ds) (i:=i) (d:=d) h.2.2 (by simpa using hd);exact⟨c,by simpa using h1,h2⟩
 | [],_::_,_,_,h,_=>by simp[nM]at h
theorem MSt.conv(hc:∀n,n<N->ρ[n]? =ρ'[n]?)(U:sC ρ ρ' σ)(h:s.cv N σ s'=true)(hs:MSt ρ w0 nt s a w)(aa:w0.pin.length<=s'.vars.length:=by exact Nat.zero_le _):MSt ρ' w0 nt s' a w:=by
 unfold MS.cv at h;simp only[Bo]at h;obtain⟨hS,K⟩:=h;obtain⟨B,hi,P,hv⟩:=hs;have H:∀v,v<s'.vars.length->(dg s')[v]? =(dg s)[v]? :=λv hv=>by
  obtain⟨c,h1,h2⟩:=lB K (AU hv);unfold dg;rw[BB,BB,AU hv,h1];simp[jh h2]
 have C:∀x g,(mE s'.vars.length B).v x=some g->x<s'.vars.length/\B.v x=some g:=λx g h=>by
  unfold mE at h;simp only at h;split at h
  ·rename_i h1;exact⟨h1,h⟩
  ·cases h
 refine⟨mE s'.vars.length B,⟨λv g hg=> ?_,hi.own,⟨λv v' g h1 h2=>hi.inj.v v v' g (C _ _ h1).2 (C _ _ h2).2,hi.inj.o,λx k g h1 h2=>hi.inj.vo x k g (C _ _ h1).2 h2⟩,hi.below,hi.size,hi.dfr,λx g h=> ?_⟩,λx c G=> ?_,λv h=> ?_⟩
 ·obtain⟨h1,h2⟩:=C v g hg;obtain⟨h3,cs,ty,h4,h5⟩:=hi.blk v g h2;exact⟨h3,cs,ty,by rw[H v h1];exact h4,h5⟩
 ·show(if x<s'.vars.length then B.v x else none)=_;rw[if_pos (by have:=(A5.1 h).1;omega)];exact hi.pin x g h
 ·unfold bA at G;by_cases hx1:x<100000
  ·rw[if_pos hx1]at G;have I:s'.slots[x]? =some (some c):=by
    cases e:s'.slots[x]? with
    | none=>rw[e]at G;cases G
    | some d=>rw[e]at G;simp at G;rw[G]
   obtain⟨c0,h1,h2⟩:=jf hS I;have:=P x c0 (by unfold bA;rw[if_pos hx1,h1]);unfold bK at this⊢;rw[if_pos hx1]at this⊢;obtain⟨u,h3,h4⟩:=this;exact⟨u,h3,AV.cv_holds hc U h2 h4⟩
  ·rw[if_neg hx1]at G;have:∃d l,s'.vars[x / 100000 - 1]? =some d/\d.2[x % 100000]? =some (some l)/\c= .v (.one l):=by
    cases e:s'.vars[x / 100000 - 1]? with
    | none=>rw[e]at G;simp at G
    | some d=>
     rw[e]at G
     cases e2:d.2[x % 100000]? with
     | none=>simp[e2]at G
     | some l=>
      cases l with
      | none=>simp[e2]at G
      | some l=>simp[e2]at G;exact⟨d,l,rfl,e2,G.symm⟩
   obtain⟨d,l,I,hl,rfl⟩:=this;obtain⟨c,h1,h2⟩:=lB K I;obtain⟨l0,h3,h4⟩:=jg h2 hl;have:=P x (.v (.one l0)) (by unfold bA;rw[if_neg hx1,h1];simp[h3]);unfold bK at this⊢;rw[if_neg hx1]at this⊢;obtain⟨g,cs,ty,u,h5,h6,Y,Z⟩:=this;have J:x / 100000 - 1<s'.vars.length:=(A5.1 I).1;exact⟨g,cs,ty,u,by unfold mE;simp only;rw[if_pos J];exact h5,h6,Y,Leaf.cv_holds hc U h4 Z⟩
 ·cases e:(mE s'.vars.length B).v v with
  | none=>exact absurd e h
  | some g=>exact(C v g e).1
end
structure LOb where
 b:Code
 s:MS
 e:Ex
 s2:MS
abbrev Los:=List (Option (MS×Ex×MS))
def dh(p:A0)(C:List Inst)(L:List OIns)(nt:Nat):Nat->Code->MS->Los->Option (Ex×MS×Los×List LOb)
 | 0,_,_,_=>none
 | n+1,c,s,lo=>match c with
  | .skip=>some (.nrm,s,lo,[])
  | .region id ops draw=>(regZ p C L nt id ops draw s).map λs=>(.nrm,s,lo,[])
  | .seq a b=>match dh p C L nt n a s lo with
   | some (.nrm,s1,lo1,o1)=>match dh p C L nt n b s1 lo1 with
    | some (e,s2,lo2,o2)=>some (e,s2,lo2,o1++o2)
    | none=>none
   | r=>r
  | .cond c x y=>match evL (bA s) c with
   | some (.b true)=>dh p C L nt n x s lo
   | some (.b false)=>dh p C L nt n y s lo
   | _=>none
  | .block id b=>match dh p C L nt n b s lo with
   | some (.ext i,s1,lo1,o1)=>if i=id then some (.nrm,s1,lo1,o1)else some (.ext i,s1,lo1,o1)
   | r=>r
  | .loop b=>match lo with
   | some (s0,e,s2)::lo1=>if s.cv 1000000 [] s0/\e≠ .nrm then some (e,s2,lo1,[⟨b,s0,e,s2⟩])else none
   | none::lo1=>(dF p C L nt n (.loop b) s).map λr=>(r.1,r.2,lo1,[])
   | []=>(dF p C L nt n (.loop b) s).map λr=>(r.1,r.2,[],[])
  | .exit id=>some (.ext id,s,lo,[])
  | .ret=>some (.ret,s,lo,[])
  | .scope b=>dh p C L nt n b s lo
  | .label _=>some (.nrm,s,lo,[])
  | _=>none
def BodyOk(p:A0)(ρ:Rho)(w0:Ent)(nt:Nat)(b:Code)(s:MS)(e:Ex)(s2:MS):Prop:=
 ∀(a:Act)(w:World)(Q:Exit->Act->World->Prop),MSt ρ w0 nt s a w->(∀a' w',MSt ρ w0 nt s2 a' w'->Q e.exit a' w')->b.wp p Q a w
def LOb.Ok(p:A0)(ρ:Rho)(w0:Ent)(nt:Nat)(o:LOb):Prop:=w0.pin.length<=o.s.vars.length/\BodyOk p ρ w0 nt (.loop o.b) o.s o.e o.s2
section
variable {p:A0} {ρ:Rho} {a:Act} {w:World} {w0:Ent} {C:List Inst} {L:List OIns} {nt:Nat} {Q:Exit->Act->World->Prop}
theorem bP(I:∀i∈C,i.Ok0 p ρ w0)(J:∀i∈L,i.OkE w0 p ρ)(K:p.follows .mixedOrders=true):∀ {n:Nat} {c:Code} {s s':MS} {e:Ex} {lo P:Los} {obs:List LOb},dh p C L nt n c s lo=some (e,s',P,obs)->
  (∀o∈obs,o.Ok p ρ w0 nt)->BodyOk p ρ w0 nt c s e s'
 | 0,_,_,_,_,_,_,_,h,_=>by simp[dh]at h
 | n+1,c,s,s',e,lo,P,obs,h,ho=>by
  intro a w Q hs H
  cases c with
  | skip=>
   simp[dh]at h;obtain⟨rfl,rfl,rfl,rfl⟩:=h;exact wp_skip (H a w hs)
  | region id ops draw=>
   simp only[dh]at h
   cases hr:regZ p C L nt id ops draw s with
   | none=>rw[hr]at h;cases h
   | some s1=>
    rw[hr]at h;simp at h;obtain⟨rfl,rfl,rfl,rfl⟩:=h;exact p8 I J K hr hs H
  | seq x y=>
   simp only[dh]at h;split at h
   ·rename_i s1 Y o1 h1;split at h
    ·rename_i e2 s2 aa o2 h2;simp at h;obtain⟨rfl,rfl,rfl,rfl⟩:=h;refine wp_seq (bP I J K h1 (λo hh=>ho o (AJ.2 (.inl hh))) a w _ hs (λa' w' G=> ?_));exact bP I J K h2 (λo hh=>ho o (AJ.2 (.inr hh))) a' w' Q G H
    ·cases h
   ·rename_i U;refine wp_seq (bP I J K h ho a w _ hs (λa' w' G=> ?_))
    cases e with
    | nrm=>exact absurd h (U s' P obs)
    | ext id=>exact H a' w' G
    | ret=>exact H a' w' G
  | cond k x y=>
   simp only[dh]at h;split at h
   ·rename_i hk;obtain⟨B,hb⟩:=tU hs hk;exact wp_cond_true hb (bP I J K h ho a w Q hs H)
   ·rename_i hk;obtain⟨B,hb⟩:=tU hs hk;exact wp_cond_false hb (bP I J K h ho a w Q hs H)
   ·cases h
  | block id b=>
   simp only[dh]at h;split at h
   ·rename_i i s1 Y o1 h1;split at h
    ·rename_i hi;simp at h;obtain⟨rfl,rfl,rfl,rfl⟩:=h;refine AY (bP I J K h1 ho a w _ hs (λa' w' G=> ?_));show if i=id then _ else _
     rw[if_pos hi];exact H a' w' G
    ·rename_i hi;simp at h;obtain⟨rfl,rfl,rfl,rfl⟩:=h;refine AY (bP I J K h1 ho a w _ hs (λa' w' G=> ?_));show if i=id then _ else _
     rw[if_neg hi];exact H a' w' G
   ·rename_i U;refine AY (bP I J K h ho a w _ hs (λa' w' G=> ?_))
    cases e with
    | nrm=>exact H a' w' G
    | ext id=>exact absurd h (U id s' P obs)
    | ret=>exact H a' w' G
  | loop b=>
   simp only[dh]at h;split at h
   ·rename_i s0 e2 s2 Y;split at h
    ·rename_i hc;simp at h;obtain⟨rfl,rfl,rfl,rfl⟩:=h;have Z:=ho ⟨b,s0,e2,s2⟩ Ag;exact Z.2 a w Q (MSt.conv (λ_ _=>rfl) (λq h=>by cases h) hc.1 hs Z.1) H
    ·cases h
   ·rename_i Y
    cases hr:dF p C L nt n (.loop b) s with
    | none=>rw[hr]at h;cases h
    | some r=>
     rw[hr]at h;simp at h;obtain⟨rfl,rfl,rfl,rfl⟩:=h;exact bS I J K (e:=r.1) (s':=r.2) hr hs H
   ·cases hr:dF p C L nt n (.loop b) s with
    | none=>rw[hr]at h;cases h
    | some r=>
     rw[hr]at h;simp at h;obtain⟨rfl,rfl,rfl,rfl⟩:=h;exact bS I J K (e:=r.1) (s':=r.2) hr hs H
  | exit id=>
   simp[dh]at h;obtain⟨rfl,rfl,rfl,rfl⟩:=h;exact wp_exit (H a w hs)
  | ret=>
   simp[dh]at h;obtain⟨rfl,rfl,rfl,rfl⟩:=h;exact wp_ret (H a w hs)
  | scope b=>
   simp only[dh]at h;refine wp_scope_straight (bP I J K h ho a w _ hs (λa' w' G=> ?_))
   cases e<;>exact H a' w' G
  | label l=>
   simp[dh]at h;obtain⟨rfl,rfl,rfl,rfl⟩:=h;exact wp_label (H a w hs)
  | _=>simp[dh]at h
termination_by n=>n
end
def runFnL(p:A0)(C:List Inst)(L:List OIns)(fn:Func)(args:List SV)(fuel:Nat)(lo:Los):Option (AV×List LOb):=
 if args.length<=fn.ntmps/\fn.ntmps<=100000 then
  match fn.body with
  | some c=>match dh p C L fn.ntmps fuel c ⟨gG args fn.ntmps,[]⟩ lo with
   | some (.ext _,_,_,_)=>none
   | some (_,s,_,obs)=>match tV p s fn.results.toList with
    | some r=>if r.noPtr then some (r,obs)else none
    | none=>none
   | none=>none
  | none=>none
 else none
section
variable {p:A0} {ρ:Rho} {w:World} {C:List Inst} {L:List OIns}
variable{args:List SV}{vs:List Value}{obs:List LOb}
theorem mF(hC:∀i∈C,i.Ok0 p ρ (.of w))(hO:∀i∈L,i.OkE (.of w) p ρ)(hm:p.follows .mixedOrders=true){f:FuncId}{fn:Func}(hf:p.funcs[f]? =some fn){fuel:Nat}{lo:Los}{r:AV} 
  (h:runFnL p C L fn args fuel lo=some (r,obs))(hl:∀o∈obs,o.Ok p ρ (.of w) fn.ntmps)(ha:cO ρ noB w args vs):AH p f vs.toArray w (λe w'=>∃v,e= .returned v/\r.holds ρ noB w' v/\AG w.heap.size w w'):=by
 unfold runFnL at h;split at h
 ·rename_i hn;split at h
  ·rename_i c hb;have aa:=qd hn.1 ha;have P:∀ {s:MS} {e:Ex} {I:Los} {G:List LOb},dh p C L fn.ntmps fuel c ⟨gG args fn.ntmps,[]⟩ lo=some (e,s,I,G)->e= .nrm\/e= .ret->(match tV p s fn.results.toList with | some r=>if r.noPtr then some (r,G)else none | none=>none)=some (r,obs)->
     AH p f vs.toArray w (λe w'=>∃v,e= .returned v/\r.holds ρ noB w' v/\AG w.heap.size w w'):=by
    intro s e I G U H J;split at J
    ·rename_i r' Y;split at J
     ·rename_i K;simp at J;obtain⟨rfl,rfl⟩:=J;refine calls_of_wp hf hb (bP hC hO hm U hl _ _ _ aa (λa' w' Z=> ?_));obtain⟨B,hi,hv,_⟩:=Z;obtain⟨v,h1,h2⟩:=p9 (p:=p) hv Y;rcases H with rfl | rfl
      ·exact⟨hi.dfr,v,h1,v,rfl,h2.free K,hi.below.to⟩
      ·exact⟨hi.dfr,v,h1,v,rfl,h2.free K,hi.below.to⟩
     ·cases J
    ·cases J
   split at h
   ·cases h
   ·rename_i e s I G U hx;have H:e= .nrm\/e= .ret:=by
     cases e with
     | nrm=>exact .inl rfl
     | ret=>exact .inr rfl
     | ext id=>exact(U id rfl).elim
    exact P hx H h
   ·cases h
  ·cases h
 ·cases h
def tX(p:A0)(C:List Inst)(L:List OIns)(fn:Func)(args:List SV)(vars:List (TypeId×List Leaf))(fuel:Nat)(lo:Los):Option (AV×MS×List LOb):=
 if args.length<=fn.ntmps/\fn.ntmps<=100000 then
  match fn.body with
  | some c=>match dh p C L fn.ntmps fuel c ⟨gG args fn.ntmps,vars.map λq=>(q.1,q.2.map some)⟩ lo with
   | some (.ext _,_,_,_)=>none
   | some (_,s,_,obs)=>(tV p s fn.results.toList).map λr=>(r,s,obs)
   | none=>none
  | none=>none
 else none
theorem tY{E:Ent}{B:Blk}(Z:∀i∈C,i.Ok0 p ρ E)(hO:∀i∈L,i.OkE E p ρ)(hm:p.follows .mixedOrders=true){f:FuncId}{fn:Func}(hf:p.funcs[f]? =some fn){vars:List (TypeId×List Leaf)}{fuel:Nat}{lo:Los}{r:AV}{s:MS} 
  (h:tX p C L fn args vars fuel lo=some (r,s,obs))(hl:∀o∈obs,o.Ok p ρ E fn.ntmps)(I:args.length<=fn.ntmps->MSt ρ E fn.ntmps ⟨gG args fn.ntmps,vars.map λq=>(q.1,q.2.map some)⟩ {tmps:=vs.toArray++Array.replicate (fn.ntmps - vs.toArray.size) undef,defers:=[]} E.w):
  AH p f vs.toArray E.w (λe w'=>∃v B' a',e= .returned v/\r.holds ρ B' w' v/\Inv (dg s) E fn.ntmps B' a' w'/\(∀x c,bA s x=some c->bK ρ B' a' w' x c)):=by
 unfold tX at h;split at h
 ·rename_i hn;split at h
  ·rename_i c hb;have I:=I hn.1;have P:∀ {s':MS} {e:Ex} {J:Los} {G:List LOb},dh p C L fn.ntmps fuel c ⟨gG args fn.ntmps,vars.map λq=>(q.1,q.2.map some)⟩ lo=some (e,s',J,G)->e= .nrm\/e= .ret->(tV p s' fn.results.toList).map (λr=>(r,s',G))=some (r,s,obs)->
     AH p f vs.toArray E.w (λe w'=>∃v B' a',e= .returned v/\r.holds ρ B' w' v/\Inv (dg s) E fn.ntmps B' a' w'/\(∀x c,bA s x=some c->bK ρ B' a' w' x c)):=by
    intro s' e J G U H K
    cases hr':tV p s' fn.results.toList with
    | none=>rw[hr']at K;cases K
    | some r'=>
     rw[hr']at K;simp only[BF,A9.injEq,Prod.mk.injEq]at K;obtain⟨rfl,rfl,rfl⟩:=K;refine calls_of_wp hf hb (bP Z hO hm U hl _ _ _ I (λa' w' Y=> ?_));obtain⟨B,hi,hv,_⟩:=Y;obtain⟨v,h1,h2⟩:=p9 (p:=p) hv hr';rcases H with rfl | rfl
     ·exact⟨hi.dfr,v,h1,v,B,a',rfl,h2,hi,hv⟩
     ·exact⟨hi.dfr,v,h1,v,B,a',rfl,h2,hi,hv⟩
   split at h
   ·cases h
   ·rename_i e s' J G U hx;have H:e= .nrm\/e= .ret:=by
     cases e with
     | nrm=>exact .inl rfl
     | ret=>exact .inr rfl
     | ext id=>exact(U id rfl).elim
    exact P hx H h
   ·cases h
  ·cases h
 ·cases h
theorem Inv.var{s:MS}{B:Blk}{a:Act}{nt x:Nat}{E:Ent}{t:TypeId}{ls:List Leaf}(hi:Inv (dg s) E nt B a w)(hv:∀x c,bA s x=some c->bK ρ B a w x c)(h:s.vars[x]? =some (t,ls.map some))(h0:0<ls.length)(hl:ls.length<=100000):vW ρ B w (x,t,ls):=by
 have cell:∀(k:Nat)(l:Leaf),ls[k]? =some l->∃g cs ty u,B.v x=some g/\w.heap[g]? =some (.cells cs ty (0,0))/\cs[k]? =some u/\l.holds ρ B w u:=λk l H=>by
  have P:=(A5.1 H).1;have h5:=hv (mu x k) (.v (.one l)) (by
   unfold bA mu;rw[if_neg Aa,show((x+1)*100000+k) / 100000 - 1=x from Aa,show((x+1)*100000+k) % 100000=k from Aa,h];simp[H])
  rw[gN Aa]at h5;exact h5
 obtain⟨g,_,_,_,hb,_⟩:=cell 0 _ (AU h0);obtain⟨h1,cs,ty,h2,h3,h4⟩:=hi.blk x g hb;have e:(dg s)[x]? =some (t,ls.length):=by unfold dg;rw[BB,h];simp
 rw[e]at h2;simp only[A9.injEq,Prod.mk.injEq]at h2;obtain⟨rfl,G⟩:=h2;refine⟨g,cs,hb,h3,az.mk (by simpa using G.symm) (λk l v H J=> ?_),h4⟩;obtain⟨Z,K,Y,u,I,k2,k3,U⟩:=cell k l H;rw[hb]at I;injection I with I;subst I;rw[h3]at k2;injection k2 with k2;injection k2 with k2 _;subst k2;rw[<-BU,J]at k3;injection k3 with k3;subst k3;exact U
theorem tZ{w0:Ent}{nt:Nat}:∀o∈([]:List LOb),o.Ok p ρ w0 nt:=λo h=>by cases h
end
end Go.Proofs.YtggfmklppkioeaaGreat
namespace Go.Proofs.YtggfmklppkioeaaGreat
set_option linter.unusedSimpArgs false
set_option linter.unusedVariables false
set_option maxRecDepth 100000
open Go.RowKit
open _root_.Go.RowKit renaming Below → AG
open _root_.Go renaming Calls → AH,Operand → AZ,Program → A0,bodyPost_ret → A6,wp_block → AY
open _root_.Array renaming getD_eq_getD_getElem? → EG,getElem?_eq_some_iff → A8,getElem?_toList → BU
open _root_.Go.RowKit.Below renaming refl → AL
open _root_.Bool renaming and_eq_true → Bo,false_eq_true → DB
open _root_.Go.Ending renaming returned → A4
open _root_.Go.IntKind renaming u64 → BD
open _root_.Go.Lib renaming hid → AF
open _root_.List renaming contains_iff_mem → CF,getElem?_cons_succ → Fv,getElem?_cons_zero → Fb,getElem?_eq_getElem → AU,getElem?_eq_some_iff → A5,getElem?_map → BB,getElem?_range → D8,getElem?_toArray → EL,mem_append → AJ,mem_cons → A3
open _root_.Nat renaming le_refl → AK,zero_add → Bh
open _root_.Option renaming getD_some → DC,map_some → BF,some → A9
open _root_.Go.Result renaming andThen → AX
open _root_.Go.Sem renaming run_bind → AO
open _root_.Go.Proofs.Tryz renaming prog → AE
open _root_.Go.Value renaming int → AW
abbrev ji(f:FuncId):Prop:=∀(vs:Array Value)(w:World),(callFunc f vs).run AE w= .ok (.enter f vs) w
variable{ρ:Rho}
theorem ag{w:Ent}:∀i∈([]:List Inst),i.Ok0 AE ρ w:=λi h=>by cases h
theorem ae{w:Ent}{i:Inst}{l:List Inst}(h:i.Ok AE ρ)(r:∀i∈l,i.Ok0 AE ρ w):∀j∈i::l,j.Ok0 AE ρ w:=λj G=>by
 rcases A3.1 G with rfl | G
 ·exact h.to0 w
 ·exact r j G
theorem ah{E:Ent}:∀i∈([]:List OIns),i.OkE E AE ρ:=λi h=>by cases h
theorem aj{E:Ent}{i:OIns}{l:List OIns}(h:i.Ok AE ρ)(r:∀i∈l,i.OkE E AE ρ):∀j∈i::l,j.OkE E AE ρ:=λj G=>by
 rcases A3.1 G with rfl | G
 ·exact h.e
 ·exact r j G
section
variable {ρ:Rho} {n m k:Nat} {u v c:Int} {b d:Bool} {l:Leaf} {t:TypeId} {B:Blk} {w:World} {ik:IntKind} {x:Value}
theorem cw:eO (.int .i64 u):=⟨λ_ h=>by(cases h),λ_ h=>by(cases h),λ_ h=>by(cases h)⟩
theorem bM:eO (.bool b):=⟨λ_ h=>by(cases h),λ_ h=>by(cases h),λ_ h=>by(cases h)⟩
theorem jj{s:ByteArray}:eO (.string s):=⟨λ_ h=>by(cases h),λ_ h=>by(cases h),λ_ h=>by(cases h)⟩
theorem go(h:ik≠ .u32):eO (.int ik u):=⟨λ_ h=>by(cases h),λ_ h=>by(cases h),λn e=>by injection e with G H;exact h G⟩
variable{a:Option Addr}
theorem qe{L G:Nat}:eO (.slice a L G):=⟨λ_ h=>by(cases h),λ_ h=>by(cases h),λ_ h=>by(cases h)⟩
theorem qg:eO (.pointer a):=⟨λ_ h=>by(cases h),λ_ h=>by(cases h),λ_ h=>by(cases h)⟩
theorem cU{v x:Value}(hn:ρ[n]? =some (.val v))(h:(Leaf.ref n).holds ρ B w x):x=v:=by
 obtain⟨s,h1,h2⟩:=h;rw[hn]at h1;injection h1 with h1;subst h1;exact h2.1.1
theorem bY{v:Value}(hn:ρ[n]? =some (.val v))(hf:eO v):(Leaf.ref n).holds ρ B w v:=⟨_,hn,⟨rfl,hf⟩,λ_ h=>h.elim⟩
theorem li(h:u=c):∀B w,(Leaf.i .i64 c).holds ρ B w (.int .i64 u):=λ_ _=>by subst h;rfl
theorem lb(h:b=d):∀B w,(Leaf.b d).holds ρ B w (.bool b):=λ_ _=>by subst h;rfl
theorem lr(hn:ρ[n]? =some (.val (.int .i64 u))):∀B w,(Leaf.ref n).holds ρ B w (.int .i64 u):=λ_ _=>bY hn cw
theorem lrb(hn:ρ[n]? =some (.val (.bool b))):∀B w,(Leaf.ref n).holds ρ B w (.bool b):=λ_ _=>bY hn bM
theorem ls{s:ByteArray}(hn:ρ[n]? =some (.val (.string s))):∀B w,(Leaf.ref n).holds ρ B w (.string s):=λ_ _=>bY hn jj
theorem leafB{s:Bool}{x:Value}(h:ρ[n]? =some (.val (.bool s))):(Leaf.ref n).holds ρ B w x↔x= .bool s:=
 ⟨cU h,λe=>by subst e;exact bY h bM⟩
theorem jk{L N:Nat}{x:Value}(h:ρ[n]? =some (.dig L N)):(Leaf.ref n).holds ρ B w x↔IsR w (.agg #[x]) L N:=by
 constructor
 ·rintro⟨t,h1,h2,_⟩;rw[h]at h1;injection h1 with h1;subst h1;exact h2
 ·intro h2;exact⟨_,h,h2,λ_ h=>h.elim⟩
theorem t6(hn:ρ[n]? =some (.val (.int ik u)))(h:(u==c)=b):(OIns.mk (.bin .eql t) [.one (.ref n),.one (.i ik c)] (.one (.b b))).Ok AE ρ:=λB w vs hv=>by
 match vs,hv with
 | [v1,v2],hv=>
  have e:=cU (B:=B) hn hv.1;have G:v2= .int ik c:=hv.2.1;subst e;subst G;exact⟨.bool b,rfl,λH I=>by simp[eqGuard,binOp,Op.intCmp,AO,AX,h]⟩
theorem yO(hn:ρ[n]? =some (.val (.int ik u)))(h:(u !=c)=b):(OIns.mk (.bin .neq t) [.one (.ref n),.one (.i ik c)] (.one (.b b))).Ok AE ρ:=λB w vs hv=>by
 match vs,hv with
 | [v1,v2],hv=>
  have e:=cU (B:=B) hn hv.1;have G:v2= .int ik c:=hv.2.1;subst e;subst G;exact⟨.bool b,rfl,λH I=>by simp[eqGuard,binOp,Op.intCmp,AO,AX,h]⟩
theorem o_lssK(hn:ρ[n]? =some (.val (.int ik u)))(h:(decide (u<c))=b):(OIns.mk (.bin .lss t) [.one (.ref n),.one (.i ik c)] (.one (.b b))).Ok AE ρ:=λB w vs hv=>by
 match vs,hv with
 | [v1,v2],hv=>
  have e:=cU (B:=B) hn hv.1;have G:v2= .int ik c:=hv.2.1;subst e;subst G;exact⟨.bool b,rfl,λH I=>by rw[<-h];simp[eqGuard,binOp,Op.intCmp,AO,AX]⟩
theorem gr(hn:ρ[n]? =some (.val (.int .i64 u)))(h:(u==c)=b):(OIns.mk (.bin .eql t) [.one (.ref n),.one (.i .i64 c)] (.one (.b b))).Ok AE ρ:=t6 hn h
theorem fN(hn:ρ[n]? =some (.val (.int .i64 u)))(h:(u !=c)=b):(OIns.mk (.bin .neq t) [.one (.ref n),.one (.i .i64 c)] (.one (.b b))).Ok AE ρ:=yO hn h
theorem bneq_f{u c:Int}(h:u=c):(u !=c)=false:=by simpa using h
theorem bneq_t{u c:Int}(h:u≠c):(u !=c)=true:=by simpa using h
theorem yP(ht:gl AE t=true):AE.underlying t=some .bool:=by
 unfold gl at ht;split at ht
 ·assumption
 ·cases ht
theorem wA(ht:gl AE t=true)(b c:Bool):(Op.equal t (.bool b) (.bool c)).run AE w= .ok (b==c) w:=by
 unfold Op.equal Op.maxDepth Op.equalIn;rw[AO,run_underlying (yP ht)];rfl
theorem kM{y:Leaf}{c:Bool}{z:Leaf}(ht:gl AE t=true)(I:∀B w x,l.holds ρ B w x->x= .bool b)(hy:∀B w x,y.holds ρ B w x->x= .bool c)(hz:∀B w,z.holds ρ B w (.bool (b==c))):(OIns.mk (.bin .eql t) [.one l,.one y] (.one z)).Ok AE ρ:=λB w vs hv=>by
 match vs,hv with
 | [v1,v2],hv=>
  have G:=I _ _ _ hv.1;have H:=hy _ _ _ hv.2.1;subst G;subst H;exact⟨.bool (b==c),hz B w,λJ K=>by simp[eqGuard,binOp,AO,wA ht,AX]⟩
theorem sE{y:Leaf}{c:Bool}{z:Leaf}(ht:gl AE t=true)(I:∀B w x,l.holds ρ B w x->x= .bool b)(hy:∀B w x,y.holds ρ B w x->x= .bool c)(hz:∀B w,z.holds ρ B w (.bool (b !=c))):(OIns.mk (.bin .neq t) [.one l,.one y] (.one z)).Ok AE ρ:=λB w vs hv=>by
 match vs,hv with
 | [v1,v2],hv=>
  have G:=I _ _ _ hv.1;have H:=hy _ _ _ hv.2.1;subst G;subst H;exact⟨.bool (b !=c),hz B w,λJ K=>by simp[eqGuard,binOp,AO,wA ht,AX];cases b<;>cases c<;>rfl⟩
theorem bl(b:Bool):∀B w x,(Leaf.b b).holds ρ B w x->x= .bool b:=λ_ _ _ h=>h
theorem br(hn:ρ[n]? =some (.val (.bool b))):∀B w x,(Leaf.ref n).holds ρ B w x->x= .bool b:=λ_ _ _ h=>cU hn h
end
def Vp.row(T:TypeId)(n:Nat)(qs:List Vp):Vp:=.of (λw v=>(qs=[]/\n=0/\v= .slice none 0 0)\/∃b o c cs,v= .slice (some ⟨b,o,none⟩) n c/\n<=c/\w.heap[b]? =some (.cells cs T (0,0))/\∀j q,qs[j]? =some q->∃u,cs[o+j]? =some u/\q.p w u/\∀g,¬q.fp w u g)
 (λv g=>∃o n c,v= .slice (some ⟨g,o,none⟩) n c)
 (λw w' X v h k hX=>h.imp id λ⟨b,o,c,cs,e,hn,hb,hq⟩=>⟨b,o,c,cs,e,hn,by rw[k.blk b (A8.1 hb).1 (hX b ⟨o,n,c,e⟩)];exact hb,λj q hj=>by
  obtain⟨u,h1,h2,h3⟩:=hq j q hj;obtain⟨c1,c2⟩:=q.ch w w' X u h2 k (λg hg=>absurd hg (h3 g));exact⟨u,h1,c1,λg hg=>h3 g (c2 g hg)⟩⟩)
 (λw v g h ⟨o',n',c',e'⟩=>by
  rcases h with⟨_,_,e⟩ | ⟨b,o,c,cs,e,_,hb,_⟩
  ·rw[e]at e';cases e'
  ·rw[e]at e';injection e' with e1 _ _;injection e1 with e1;injection e1 with e1 _ _;subst e1;exact(A8.1 hb).1)
 (λw v h=>by
  rcases h with⟨_,_,e⟩ | ⟨b,o,c,cs,e,_⟩<;>subst e<;>exact qe)
def Vp.plc(T:TypeId)(qs:List Vp):Vp:=.of (λw v=>∃b o cs,v= .pointer (some ⟨b,o,none⟩)/\w.heap[b]? =some (.cells cs T (0,0))/\∀j q,qs[j]? =some q->∃u,cs[o+j]? =some u/\q.p w u/\∀g,¬q.fp w u g)
 (λv g=>∃o,v= .pointer (some ⟨g,o,none⟩))
 (λw w' X v ⟨b,o,cs,e,hb,hq⟩ k hX=>⟨b,o,cs,e,by rw[k.blk b (A8.1 hb).1 (hX b ⟨o,e⟩)];exact hb,λj q hj=>by
  obtain⟨u,h1,h2,h3⟩:=hq j q hj;obtain⟨c1,c2⟩:=q.ch w w' X u h2 k (λg hg=>absurd hg (h3 g));exact⟨u,h1,c1,λg hg=>h3 g (c2 g hg)⟩⟩)
 (λw v g ⟨b,o,cs,e,hb,_⟩ ⟨o',e'⟩=>by
  rw[e]at e';injection e' with e1;injection e1 with e1;injection e1 with e1 _ _;subst e1;exact(A8.1 hb).1)
 (λw v ⟨b,o,cs,e,_⟩=>by subst e;exact qg)
section
variable {ρ:Rho} {n m k L:Nat} {t T e:TypeId} {B:Blk} {w:World} {qs:List Vp} {u:Int}
theorem iL{v:Value}(h:(Vp.row T L qs).p w v):∃a c,v= .slice a L c:=by
 rcases h with⟨_,rfl,e⟩ | ⟨b,o,c,cs,e,_⟩
 ·exact⟨_,_,e⟩
 ·exact⟨_,_,e⟩
theorem o_lenR(ht:∃e,AE.underlying t=some (.slice e))(hn:ρ[n]? =some (.row T L qs)){l:Leaf}(hl:∀B w,l.holds ρ B w (.int .i64 (L:Int))):(OIns.mk (.len t) [.one (.ref n)] (.one l)).Ok AE ρ:=λB w vs hv=>by
 match vs,hv with
 | [v1],hv=>
  obtain⟨s,h1,h2,_⟩:=hv.1;rw[hn]at h1;injection h1 with h1;subst h1;obtain⟨a,c,rfl⟩:=iL h2;obtain⟨e,G⟩:=ht;refine⟨.int .i64 (L:Int),hl B w,λH ty h0=> ?_⟩;simp[Builtin.len_,h0,AO,run_underlying G,AX,goInt]
theorem o_iaL{l:Leaf}{sz:Nat}{qs':List Vp}(ht:AE.underlying t=some (.slice e))(hz:szB AE e=some sz)(hn:ρ[n]? =some (.row T L qs))(K:ρ[m]? =some (.plc T qs'))(hl:∀B w x,l.holds ρ B w x->x= .int .i64 (k:Int))(J:k<L)(hq0:qs≠ [])
  (P:∀(j:Nat)(q:Vp),qs'[j]? =some q->qs[k*sz+j]? =some q):(OIns.mk (.ia t) [.one (.ref n),.one l] (.one (.ref m))).Ok AE ρ:=λB w vs hv=>by
 match vs,hv with
 | [v1,v2],hv=>
  obtain⟨s,h1,h2,h3⟩:=hv.1;rw[hn]at h1;injection h1 with h1;subst h1;have H:=hl _ _ _ hv.2.1;subst H;rcases h2 with⟨h,_⟩ | ⟨b,o,c,cs,rfl,hc,hb,h4⟩
  ·exact absurd h hq0
  ·refine⟨.pointer (some ⟨b,o+k*sz,none⟩),⟨_,K,⟨b,o+k*sz,cs,rfl,hb,λj q I=> ?_⟩,λg ⟨Y,e'⟩=> ?_⟩,?_⟩
   ·obtain⟨u,U,k2⟩:=h4 _ q (P j q I);exact⟨u,by rw[Nat.add_assoc];exact U,k2⟩
   ·injection e' with G;injection G with G;injection G with G _ _;subst G;exact h3 _ ⟨_,_,_,rfl⟩
   ·simp[Instr.indexAt,asIntOf,AO,run_underlying ht,ba hz,AX,J,cE]
def fldB(p:A0)(t:TypeId)(f:Nat):Option (Nat×Nat):=match p.underlying t with
 | some (.struct fs)=>match fs[f]? with
  | some fd=>(szB p fd.type).map λn=>(fd.offset,n)
  | none=>none
 | _=>none
theorem lq{q:Vp}(h:ρ[m]? =some q):∀B w x,q.p w x->(∀g,¬q.fp w x g)->(Leaf.ref m).holds ρ B w x:=λ_ _ _ h1 h2=>⟨q,h,h1,λg G=>absurd G (h2 g)⟩
def LQ(ρ:Rho):List Leaf->List Vp->Prop
 | [],_=>True
 | l::ls,q::qs=>(∀B w x,q.p w x->(∀g,¬q.fp w x g)->l.holds ρ B w x)/\LQ ρ ls qs
 | _::_,[]=>False
def QL(ρ:Rho):List Leaf->List Vp->Prop
 | [],[]=>True
 | l::ls,q::qs=>(∀B w x,l.holds ρ B w x->q.p w x/\∀g,¬q.fp w x g)/\QL ρ ls qs
 | _,_=>False
theorem nN{L N:Nat}(h:ρ[m]? =some (.dig L N)):∀B w x,(Leaf.ref m).holds ρ B w x->(Vp.dig L N).p w x/\∀g,¬(Vp.dig L N).fp w x g:=λ_ _ _ ⟨q,h1,h2,_⟩=>by
 rw[h]at h1;injection h1 with h1;subst h1;exact⟨h2,λ_ h=>h⟩
theorem LQ.holds:∀ {ls:List Leaf} {qs:List Vp} {cs:Array Value} {o:Nat},LQ ρ ls qs->(∀(j:Nat)(q:Vp),qs[j]? =some q->∃u,cs[o+j]? =some u/\q.p w u/\∀g,¬q.fp w u g)->
  ∃vs:List Value,az ρ B w ls vs/\∀(j:Nat)(v:Value),vs[j]? =some v->cs[o+j]? =some v
 | [],_,_,_,_,_=>⟨[],trivial,λ_ _ h=>Aq⟩
 | l::ls,q::qs,cs,o,h,hq=>by
  obtain⟨u,H,k2,k3⟩:=hq 0 q rfl;obtain⟨vs,I,J⟩:=LQ.holds (ls:=ls) (qs:=qs) (cs:=cs) (o:=o+1) h.2 (λj q G=>by
   obtain⟨u,H,k2⟩:=hq (j+1) q AB;exact⟨u,by rw[show o+1+j=o+(j+1)from Aa];exact H,k2⟩)
  refine⟨u::vs,⟨h.1 B w u k2 k3,I⟩,λj v G=> ?_⟩
  match j with
  | 0=>simp at G;subst G;exact H
  | j+1=>have:=J j v AB;rwa [show o+1+j=o+(j+1)from Aa]at this
 | _::_,[],_,_,h,_=>h.elim
theorem QL.get:∀ {ls:List Leaf} {qs:List Vp} {vs:List Value} {j:Nat} {q:Vp},QL ρ ls qs->az ρ B w ls vs->qs[j]? =some q->∃u,vs[j]? =some u/\q.p w u/\∀g,¬q.fp w u g
 | [],[],_,_,_,_,_,h=>Aq
 | _::_,_::_,v::_,0,_,h,hl,hq=>by simp at hq;subst hq;exact⟨v,rfl,h.1 B w v hl.1⟩
 | _::ls,_::qs,_::vs,j+1,q,h,hl,hq=>by
  obtain⟨u,G,k2⟩:=QL.get (ls:=ls) (qs:=qs) (vs:=vs) (j:=j) h.2 hl.2 (by simpa using hq);exact⟨u,by simpa using G,k2⟩
 | _::_,_::_,[],_,_,_,hl,_=>hl.elim
 | [],_::_,_,_,_,h,_,_=>h.elim
 | _::_,[],_,_,_,h,_,_=>h.elim
theorem o_ldA{ls:List Leaf}(ht:vU AE t=some true)(hz:szB AE t=some ls.length)(hn:ρ[n]? =some (.plc T qs))(hl:LQ ρ ls qs):(OIns.mk (.ld t) [.one (.ref n)] (.agg ls)).Ok AE ρ:=λB w vs hv=>by
 match vs,hv with
 | [v1],hv=>
  obtain⟨s,h1,h2,_⟩:=hv.1;rw[hn]at h1;injection h1 with h1;subst h1;obtain⟨b,o,cs,rfl,hb,h4⟩:=h2;obtain⟨us,G,H⟩:=hl.holds (B:=B) h4;refine⟨.agg us.toArray,⟨us,rfl,G⟩,?_⟩;have:=iJ (p:=AE) (o:=o) hb us 0 #[] (λk u I=>by rw[Bh];exact H k u I);rw[G.len]at this;simp[Instr.loadAt,Instr.sureAddr,loadVar,loadCells,AO,iI ht,ba hz,this,AX]
def zrep(z:List Leaf)(n:Nat):List Leaf:=(List.range n).map λi=>z.getD (i % z.length) .sl0
theorem o_bs{ss:List SV}{ix:List Nat}{z ls:List Leaf}{sz N:Nat}(ht:AE.underlying t=some (.slice e))(hz:szB AE e=some sz)(ad:vV AE e=some z)(an:N*sz<=2^24)(U:N*sz≠0)(ao:z.length≠0)(am:ix.length=ss.length)
  (hf:mw (λi=>some (i*sz,sz)) (zrep z (N*sz)) (ix.zip ss)=some ls)(hq:QL ρ ls qs)(hm:ρ[m]? =some (.row e N qs)):(OIns.mk (.bs t N ix) ss (.one (.ref m))).Ok AE ρ:=λB w vs hv hB=>by
 obtain⟨Z,ac,Y⟩:=gn (p:=AE) (ρ:=ρ) (B:=B) (w:=w) ad;have ak:vs.length=ss.length:=hv.len;have I:Z.cells.size=z.length:=by have:=Y.len;simpa using this
 have h0:az ρ B w (zrep z (N*sz)) ((Array.range (N*sz)).map (Z.cells[· % Z.cells.size]!)).toList:=by
  refine az.mk (by simp[zrep]) (λk l v h1 h2=> ?_);have hk:k<N*sz:=by have:=(A5.1 h1).1;simpa [zrep]using this
  have K:k % z.length<z.length:=Nat.mod_lt _ Aa;simp only[zrep,BB,D8 hk,BF,A9.injEq]at h1;obtain⟨v',h3,h4⟩:=Y.get (AU K);rw[List.getD_eq_getElem?_getD,AU K,DC]at h1;subst h1;have h5:v=v':=by
   simp only[Array.toList_map,BB,Array.toList_range,D8 hk,BF,A9.injEq,I]at h2;rw[BU]at h3;rw[<-h2];have P:k % z.length<Z.cells.size:=Aa
   rw[getElem!_pos Z.cells _ P];rw[Array.getElem?_eq_getElem P]at h3;exact A9.inj h3
  subst h5;exact h4
 have G:(ix.zip vs).map (·.1)=(ix.zip ss).map (·.1):=by rw[List.map_fst_zip Aa,List.map_fst_zip Aa]
 have H:cO ρ B w ((ix.zip ss).map (·.2)) ((ix.zip vs).map (·.2)):=by rw[List.map_snd_zip Aa,List.map_snd_zip Aa];exact hv
 obtain⟨out,aa,ab⟩:=iK hf G H h0;refine⟨.slice (some ⟨w.heap.size,0,none⟩) N N,w.alloc (.cells out e),⟨_,hm,.inr ⟨w.heap.size,0,N,out,rfl,AK _,heap_alloc_new w _,λj q hj=> ?_⟩,λg ⟨o',n',c',e'⟩ hx=> ?_⟩,?_,gM w _⟩
 ·obtain⟨u,k1,k2,k3⟩:=hq.get ab hj;obtain⟨c1,c2⟩:=q.ch _ _ _ _ k2 (.below (gM w (.cells out e))) (λ_ _ h=>h);exact⟨u,by rw[Bh,<-BU];exact k1,c1,λg hg=>k3 g (c2 g hg)⟩
 ·injection e' with J;injection J with J;injection J with J _ _;subst J;have:=hB _ hx;omega
 ·unfold Instr.buildSlice;simp only[AO,run_underlying ht,ba hz,AX];rw[if_neg Aa,if_neg U];simp only[AO,ac,AX,Sem.run_pure,List.toList_toArray];rw[aa];rfl
end
end Go.Proofs.YtggfmklppkioeaaGreat
namespace Go.Proofs
open Go.Shelf Go.RowKit Go.Lib
variable {P:Program} {ρ:Ren}
end Go.Proofs
namespace Go.Proofs.YtggfmklppkioeaaGreat
set_option linter.unusedSimpArgs false
set_option linter.unusedVariables false
set_option maxRecDepth 100000
open Go.RowKit
open _root_.Go.RowKit renaming Below → AG
open _root_.Go renaming Calls → AH,Operand → AZ,Program → A0,bodyPost_ret → A6,wp_block → AY
open _root_.Array renaming getD_eq_getD_getElem? → EG,getElem?_eq_some_iff → A8,getElem?_toList → BU
open _root_.Go.RowKit.Below renaming refl → AL
open _root_.Bool renaming and_eq_true → Bo,false_eq_true → DB
open _root_.Go.Ending renaming returned → A4
open _root_.Go.IntKind renaming u64 → BD
open _root_.Go.Lib renaming hid → AF
open _root_.List renaming contains_iff_mem → CF,getElem?_cons_succ → Fv,getElem?_cons_zero → Fb,getElem?_eq_getElem → AU,getElem?_eq_some_iff → A5,getElem?_map → BB,getElem?_range → D8,getElem?_toArray → EL,mem_append → AJ,mem_cons → A3
open _root_.Nat renaming le_refl → AK,zero_add → Bh
open _root_.Option renaming getD_some → DC,map_some → BF,some → A9
open _root_.Go.Result renaming andThen → AX
open _root_.Go.Sem renaming run_bind → AO
open _root_.Go.Proofs.Tryz renaming prog → AE
open _root_.Go.Value renaming int → AW
section
variable {ρ:Rho} {xs:List Fq} {ys:Rho} {n m k:Nat} {u v c:Int} {b:Bool} {s z:ByteArray} {t:TypeId} {B:Blk} {w:World} {l:List ByteArray} {ik:IntKind} {x:Value}
def yQ(p:A0)(t:TypeId):Bool:=match p.underlying t with | some .string=>true | _=>false
theorem str_under(ht:yQ AE t=true):AE.underlying t=some .string:=by
 unfold yQ at ht;split at ht
 ·assumption
 ·cases ht
end
end Go.Proofs.YtggfmklppkioeaaGreat
namespace Go.Proofs.YtggfmklppkioeaaGreat
set_option linter.unusedSimpArgs false
set_option linter.unusedVariables false
set_option maxRecDepth 100000
open Go.RowKit
open _root_.Go.RowKit renaming Below → AG
open _root_.Go renaming Calls → AH,Operand → AZ,Program → A0,bodyPost_ret → A6,wp_block → AY
open _root_.Array renaming getD_eq_getD_getElem? → EG,getElem?_eq_some_iff → A8,getElem?_toList → BU
open _root_.Go.RowKit.Below renaming refl → AL
open _root_.Bool renaming and_eq_true → Bo,false_eq_true → DB
open _root_.Go.Ending renaming returned → A4
open _root_.Go.IntKind renaming u64 → BD
open _root_.Go.Lib renaming hid → AF
open _root_.List renaming contains_iff_mem → CF,getElem?_cons_succ → Fv,getElem?_cons_zero → Fb,getElem?_eq_getElem → AU,getElem?_eq_some_iff → A5,getElem?_map → BB,getElem?_range → D8,getElem?_toArray → EL,mem_append → AJ,mem_cons → A3
open _root_.Nat renaming le_refl → AK,zero_add → Bh
open _root_.Option renaming getD_some → DC,map_some → BF,some → A9
open _root_.Go.Result renaming andThen → AX
open _root_.Go.Sem renaming run_bind → AO
open _root_.Go.Proofs.Tryz renaming prog → AE
open _root_.Go.Value renaming int → AW
theorem wrap_mag(v:Int)(h1: -9223372036854775808<=v)(hv:v<0):BD.wrap (-BD.wrap v)=((v.natAbs:Nat):Int):=by
 simp only[IntKind.wrap,IntKind.signed,IntKind.bits,Bool.false_and,DB,if_false];omega
theorem c_mag(v:Int)(w:World)(h1: -9223372036854775808<=v)(h2:v<9223372036854775808):
  AH AE 141 #[.int .i64 v] w λe w'=>RetN w v.natAbs e w':=by
 obtain⟨Y,K⟩:=resN (w:=w);have c0:=K.cell;have f0:=K.frozen;have fin:∀e H,cW (w.alloc (.cells #[.slice none 0 0] 31)) v.natAbs e H->∃a c,e= .returned (.agg #[.slice a (nl v.natAbs) c])/\IsN H (.agg #[.slice a (nl v.natAbs) c]) v.natAbs/\aN H w.heap.size none 0 0/\AG w.heap.size w H:=by
  rintro e H ⟨x,rfl,I,hb⟩;have I:=I.isN;obtain⟨a,c,rfl⟩:=I.shape;exact⟨a,c,rfl,I,K.mono hb K.lt,Y.trans (hb.mono Y.size)⟩
 go_enter Tryz.func141,Tryz.ntmps141
 by_cases hv:v<0
 ·have U:=wrap_mag v h1 hv;have Z:=AF U;clear U;go_wp2_with fail
  rw[Z.out];refine(fh v.natAbs _ Aa).mono ?_;rintro e H J;obtain⟨a,c,rfl,I,G,hb⟩:=fin e H J;have c9:=G.cell;have f9:=G.frozen;clear c0 f0 fin J;go_wp2;exact A6 (res_N rfl rfl G.set) rfl ⟨_,rfl,I.setVar G,hb.setCell (p:=⟨w.heap.size,0,none⟩) (AK _) _⟩
 ·obtain⟨n,hn⟩:∃n:Nat,Hid (v=(n:Int)):=⟨v.natAbs,AF Aa⟩;have aa:Hid (v.natAbs=n):=AF (by have:=hn.out;omega);go_wp2_with fail
  rw[show v=((v.natAbs:Nat):Int)from Aa];refine(fh v.natAbs _ Aa).mono ?_;rintro e H J;obtain⟨a,c,rfl,I,G,hb⟩:=fin e H J;have c9:=G.cell;have f9:=G.frozen;clear c0 f0 fin J;go_wp2;exact A6 (res_N rfl rfl G.set) rfl ⟨_,rfl,I.setVar G,hb.setCell (p:=⟨w.heap.size,0,none⟩) (AK _) _⟩
theorem c_size(v:Int)(w:World)(h1: -9223372036854775808<=v)(h2:v<9223372036854775808):
  AH AE 113 #[.int .i64 v] w λe w'=>bk w (.int .u64 (v.natAbs:Int)) e w':=by
 go_enter Tryz.func113,Tryz.ntmps113
 by_cases hv:v<0
 ·go_wp2;go_ret;refine⟨?_,AL _ _⟩;simp only[EG,EL,Fv,Fb,DC,A4.injEq,AW.injEq,true_and,IntKind.wrap,IntKind.signed,IntKind.bits,Bool.false_and,DB,if_false,if_true];omega
 ·go_wp2;go_ret;refine⟨?_,AL _ _⟩;simp only[EG,EL,Fv,Fb,DC,A4.injEq,AW.injEq,true_and];omega
end Go.Proofs.YtggfmklppkioeaaGreat
namespace Go.Proofs.YtggfmklppkioeaaGreat
set_option linter.unusedSimpArgs false
set_option linter.unusedVariables false
set_option maxRecDepth 100000
open Go.RowKit
open _root_.Go.RowKit renaming Below → AG
open _root_.Go renaming Calls → AH,Operand → AZ,Program → A0,bodyPost_ret → A6,wp_block → AY
open _root_.Array renaming getD_eq_getD_getElem? → EG,getElem?_eq_some_iff → A8,getElem?_toList → BU
open _root_.Go.RowKit.Below renaming refl → AL
open _root_.Bool renaming and_eq_true → Bo,false_eq_true → DB
open _root_.Go.Ending renaming returned → A4
open _root_.Go.IntKind renaming u64 → BD
open _root_.Go.Lib renaming hid → AF
open _root_.List renaming contains_iff_mem → CF,getElem?_cons_succ → Fv,getElem?_cons_zero → Fb,getElem?_eq_getElem → AU,getElem?_eq_some_iff → A5,getElem?_map → BB,getElem?_range → D8,getElem?_toArray → EL,mem_append → AJ,mem_cons → A3
open _root_.Nat renaming le_refl → AK,zero_add → Bh
open _root_.Option renaming getD_some → DC,map_some → BF,some → A9
open _root_.Go.Result renaming andThen → AX
open _root_.Go.Sem renaming run_bind → AO
open _root_.Go.Proofs.Tryz renaming prog → AE
open _root_.Go.Value renaming int → AW
def lC(w:World)(g:Nat)(a b:Bool):Prop:=w.heap[g]? =some (.cells #[.bool a,.bool b] 258 (0,0))
variable{w:World}{g:Nat}{a b:Bool}
theorem lC.lt(h:lC w g a b):g<w.heap.size:=(A8.1 h).1
theorem lC.mono{w':World}{B:Nat}(h:lC w g a b)(hb:AG B w w')(hB:g<B):lC w' g a b:=(hb.block g hB).trans h
theorem lC.cell1(h:lC w g a b):w.cell? ⟨g,1,none⟩=some (.bool b):=by rw[cell_of_row w g 1 _ _ (0,0) h];rfl
theorem lC.own(h:lC w g a b):Own w g:=⟨_,_,h,λk n=>by
 match k with
 | 0=>intro h;cases h
 | 1=>intro h;cases h
 | k+2=>intro h;simp at h⟩
theorem lC.upd{w':World}{G:Nat}(h:lC w G a b)(_:Own w g)(u:Upd w g w')(hn:G≠g):lC w' G a b:=(u.block G hn).trans h
theorem lC.any(h:lC w g a b):∃a b,lC w g a b:=⟨_,_,h⟩
section
variable {Q:Exit->Act->World->Prop} {md:Region.Mode} {ops:Array Oper} {o:Oper} {a:Act} {w:World} {j fuel:Nat} {listed:Array Bool} {x y:AZ} {g:Nat} {s t:Bool}
end
theorem run_eqSS(a b c d:Bool)(w:World):(binOp BinOp.eql 258 (.agg #[.bool a,.bool b]) (.agg #[.bool c,.bool d])).run AE w= .ok (.bool (a==c && b==d)) w:=by
 cases a<;>cases b<;>cases c<;>cases d<;>go_simp
theorem run_neSS(a b c d:Bool)(w:World):(binOp BinOp.neq 258 (.agg #[.bool a,.bool b]) (.agg #[.bool c,.bool d])).run AE w= .ok (.bool (!(a==c && b==d))) w:=by
 cases a<;>cases b<;>cases c<;>cases d<;>go_simp
theorem yR{x y:AZ}(a b c d:Bool)(w:World):(eqGuard BinOp.eql 258 x y (.agg #[.bool a,.bool b]) (.agg #[.bool c,.bool d])).run AE w= .ok () w:=Am
theorem yS{x y:AZ}(a b c d:Bool)(w:World):(eqGuard BinOp.neq 258 x y (.agg #[.bool a,.bool b]) (.agg #[.bool c,.bool d])).run AE w= .ok () w:=Am
end Go.Proofs.YtggfmklppkioeaaGreat
namespace Go.Proofs.YtggfmklppkioeaaGreat
set_option linter.unusedSimpArgs false
set_option linter.unusedVariables false
set_option maxRecDepth 100000
open Go.RowKit
open _root_.Go.RowKit renaming Below → AG
open _root_.Go renaming Calls → AH,Operand → AZ,Program → A0,bodyPost_ret → A6,wp_block → AY
open _root_.Array renaming getD_eq_getD_getElem? → EG,getElem?_eq_some_iff → A8,getElem?_toList → BU
open _root_.Go.RowKit.Below renaming refl → AL
open _root_.Bool renaming and_eq_true → Bo,false_eq_true → DB
open _root_.Go.Ending renaming returned → A4
open _root_.Go.IntKind renaming u64 → BD
open _root_.Go.Lib renaming hid → AF
open _root_.List renaming contains_iff_mem → CF,getElem?_cons_succ → Fv,getElem?_cons_zero → Fb,getElem?_eq_getElem → AU,getElem?_eq_some_iff → A5,getElem?_map → BB,getElem?_range → D8,getElem?_toArray → EL,mem_append → AJ,mem_cons → A3
open _root_.Nat renaming le_refl → AK,zero_add → Bh
open _root_.Option renaming getD_some → DC,map_some → BF,some → A9
open _root_.Go.Result renaming andThen → AX
open _root_.Go.Sem renaming run_bind → AO
open _root_.Go.Proofs.Tryz renaming prog → AE
open _root_.Go.Value renaming int → AW
def Fq.ofInt(v:Int):Fq:=⟨decide (v<0),v.natAbs,1⟩
def Fq.ratio(v u:Int):Fq:=.low (decide (v<0) !=decide (u<0)) v.natAbs u.natAbs
def Fq.lerp(x y t:Fq):Fq:=x.add (t.mul (y.sub x))
theorem lD{v:Int}(G: -9223372036854775808<=v)(H:v<9223372036854775808):nl v.natAbs<=2:=aI.2 (by show v.natAbs<18446744073709551616;omega)
theorem Fq.ok.lerp{x y t:Fq}(h:x.ok 100000000)(k:y.ok 100000000)(l:t.ok 100000000):(x.lerp y t).ok 10000000000:=(h.add (l.mul (k.sub h))).mono th
end Go.Proofs.YtggfmklppkioeaaGreat
namespace Go.Proofs.YtggfmklppkioeaaGreat
set_option linter.unusedSimpArgs false
set_option linter.unusedVariables false
set_option maxRecDepth 100000
open Go.RowKit
open _root_.Go.RowKit renaming Below → AG
open _root_.Go renaming Calls → AH,Operand → AZ,Program → A0,bodyPost_ret → A6,wp_block → AY
open _root_.Array renaming getD_eq_getD_getElem? → EG,getElem?_eq_some_iff → A8,getElem?_toList → BU
open _root_.Go.RowKit.Below renaming refl → AL
open _root_.Bool renaming and_eq_true → Bo,false_eq_true → DB
open _root_.Go.Ending renaming returned → A4
open _root_.Go.IntKind renaming u64 → BD
open _root_.Go.Lib renaming hid → AF
open _root_.List renaming contains_iff_mem → CF,getElem?_cons_succ → Fv,getElem?_cons_zero → Fb,getElem?_eq_getElem → AU,getElem?_eq_some_iff → A5,getElem?_map → BB,getElem?_range → D8,getElem?_toArray → EL,mem_append → AJ,mem_cons → A3
open _root_.Nat renaming le_refl → AK,zero_add → Bh
open _root_.Option renaming getD_some → DC,map_some → BF,some → A9
open _root_.Go.Result renaming andThen → AX
open _root_.Go.Sem renaming run_bind → AO
open _root_.Go.Proofs.Tryz renaming prog → AE
open _root_.Go.Value renaming int → AW
def qh(w:World)(v:Value)(s:Bool)(L p N q:Nat):Prop:=∃a c b d,v= .agg #[.bool s,.slice a L c,.slice b N d]/\IsR w (.agg #[.slice a L c]) L p/\IsR w (.agg #[.slice b N d]) N q
variable{w w':World}{s:Bool}{L p N q:Nat}
theorem qh.mono{v:Value}(h:qh w v s L p N q)(hb:AG w.heap.size w w'):qh w' v s L p N q:=by
 obtain⟨a,c,b,d,rfl,h1,h2⟩:=h;exact⟨a,c,b,d,rfl,h1.mono hb,h2.mono hb⟩
theorem qh.isQ{v:Value}(h:qh w v s L p N q)(G:nl p=L)(H:nl q=N):IsQ w v ⟨s,p,q⟩:=by
 subst G;subst H;exact h
def oH(w:World)(g:Nat)(s:Bool)(L p N q:Nat):Prop:=∃a c b d,bO w g s a L c b N d/\IsR w (.agg #[.slice a L c]) L p/\IsR w (.agg #[.slice b N d]) N q
variable{g:Nat}
theorem oH.lt(h:oH w g s L p N q):g<w.heap.size:=by obtain⟨_,_,_,_,h,_⟩:=h;exact h.lt
theorem oH.mono(h:oH w g s L p N q)(hb:AG w.heap.size w w'):oH w' g s L p N q:=by
 obtain⟨a,c,b,d,h0,h1,h2⟩:=h;exact⟨a,c,b,d,h0.mono hb h0.lt,h1.mono hb,h2.mono hb⟩
theorem oH.upd{G:Nat}(h:oH w G s L p N q)(o:Own w g)(u:Upd w g w')(hn:G≠g):oH w' G s L p N q:=by
 obtain⟨x,H,y,cy,h0,h1,h2⟩:=h;exact⟨x,H,y,cy,h0.upd o u hn,h1.upd o u,h2.upd o u⟩
section
variable {Q:Exit->Act->World->Prop} {o:Oper} {a:Act} {w:World} {x y:AZ} {g L p N q m:Nat} {s:Bool} {tt:Array TypeId}
def Sp.ones(m:Nat):Sp:=⟨λw v=>∃g,v= .slice (some ⟨g,0,none⟩) 1 1/\bR w g m,λ_ _ _ h hb=>by obtain⟨g,rfl,h⟩:=h;exact⟨g,rfl,h.mono hb⟩⟩
end
def Fq.valid(x:Fq):Bool:=decide (x.q≠0/\¬(x.s=true/\x.p=0)/\Nat.gcd x.p x.q=1)
end Go.Proofs.YtggfmklppkioeaaGreat
namespace Go.Proofs.YtggfmklppkioeaaGreat
set_option linter.unusedSimpArgs false
set_option linter.unusedVariables false
set_option maxRecDepth 100000
open Go.RowKit
open _root_.Go.RowKit renaming Below → AG
open _root_.Go renaming Calls → AH,Operand → AZ,Program → A0,bodyPost_ret → A6,wp_block → AY
open _root_.Array renaming getD_eq_getD_getElem? → EG,getElem?_eq_some_iff → A8,getElem?_toList → BU
open _root_.Go.RowKit.Below renaming refl → AL
open _root_.Bool renaming and_eq_true → Bo,false_eq_true → DB
open _root_.Go.Ending renaming returned → A4
open _root_.Go.IntKind renaming u64 → BD
open _root_.Go.Lib renaming hid → AF
open _root_.List renaming contains_iff_mem → CF,getElem?_cons_succ → Fv,getElem?_cons_zero → Fb,getElem?_eq_getElem → AU,getElem?_eq_some_iff → A5,getElem?_map → BB,getElem?_range → D8,getElem?_toArray → EL,mem_append → AJ,mem_cons → A3
open _root_.Nat renaming le_refl → AK,zero_add → Bh
open _root_.Option renaming getD_some → DC,map_some → BF,some → A9
open _root_.Go.Result renaming andThen → AX
open _root_.Go.Sem renaming run_bind → AO
open _root_.Go.Proofs.Tryz renaming prog → AE
open _root_.Go.Value renaming int → AW
def slashAt(s:ByteArray)(i:Nat):Prop:=i<s.size/\by' s i=47/\∀j,j<i->by' s j≠47
def noSlash(s:ByteArray):Prop:=∀j,j<s.size->by' s j≠47
end Go.Proofs.YtggfmklppkioeaaGreat
namespace Go.Proofs.YtggfmklppkioeaaGreat
set_option linter.unusedSimpArgs false
set_option linter.unusedVariables false
set_option maxRecDepth 100000
open Go.RowKit
open _root_.Go.RowKit renaming Below → AG
open _root_.Go renaming Calls → AH,Operand → AZ,Program → A0,bodyPost_ret → A6,wp_block → AY
open _root_.Array renaming getD_eq_getD_getElem? → EG,getElem?_eq_some_iff → A8,getElem?_toList → BU
open _root_.Go.RowKit.Below renaming refl → AL
open _root_.Bool renaming and_eq_true → Bo,false_eq_true → DB
open _root_.Go.Ending renaming returned → A4
open _root_.Go.IntKind renaming u64 → BD
open _root_.Go.Lib renaming hid → AF
open _root_.List renaming contains_iff_mem → CF,getElem?_cons_succ → Fv,getElem?_cons_zero → Fb,getElem?_eq_getElem → AU,getElem?_eq_some_iff → A5,getElem?_map → BB,getElem?_range → D8,getElem?_toArray → EL,mem_append → AJ,mem_cons → A3
open _root_.Nat renaming le_refl → AK,zero_add → Bh
open _root_.Option renaming getD_some → DC,map_some → BF,some → A9
open _root_.Go.Result renaming andThen → AX
open _root_.Go.Sem renaming run_bind → AO
open _root_.Go.Proofs.Tryz renaming prog → AE
open _root_.Go.Value renaming int → AW
structure Pieces(s t:ByteArray)(B F:Bool)(a b:ByteArray):Prop where
 sign:decide (0<s.size/\by' s 0=45)=B
 rest:t=if B then s.extract 1 s.size else s
 hit:F=true->∃i,slashAt t i/\a=t.extract 0 i/\b=t.extract (i+1) t.size
 miss:F=false->noSlash t/\a=t/\b= {data:=#[]}
def parseQ(F:Bool)(N:Nat):Nat:=if F then N else 1
def parseV(B F:Bool)(M N:Nat):Bool:=if F then !decide (N=1) && (Fq.mk B M N).valid else(Fq.mk B M 1).valid
inductive FP(s:ByteArray):Fq->Int->Prop
 | num {t B F a b M c} (h:Pieces s t B F a b) (ha:ParseIs a M c) (h0:c≠0):FP s .zero c
 | den {t B a b M N c} (h:Pieces s t B true a b) (ha:ParseIs a M 0) (hb:ParseIs b N c) (h0:c≠0):FP s .zero c
 | bad {t B F a b M N} (h:Pieces s t B F a b) (ha:ParseIs a M 0) (hb:F=true->ParseIs b N 0) (hv:parseV B F M N=false):FP s .zero 2
 | good {t B F a b M N} (h:Pieces s t B F a b) (ha:ParseIs a M 0) (hb:F=true->ParseIs b N 0) (hv:parseV B F M N=true):FP s ⟨B,M,parseQ F N⟩ 0
end Go.Proofs.YtggfmklppkioeaaGreat
