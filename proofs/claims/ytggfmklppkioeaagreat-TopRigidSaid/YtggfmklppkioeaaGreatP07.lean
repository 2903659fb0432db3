/- An executor: code and functions. An executor: functions. An executor: loops whose number of rounds is not known. An executor: what is known of unknowns; rows; operations on numbers, truth values and rows. An executor: strings, rows of strings. magnitude of package fraction, size of the reference. mark, Sign of package fraction; Sign of the reference. Cmp, Lerp, Int, Ratio; copied. Valid, of package fraction and of the reference. strings.Cut at a slash, strings.CutPrefix at a minus. Format of package fraction and of the reference. Parse of package fraction. -/
import Derived.Test.YtggfmklppkioeaaGreatP06
import Derived.Scope
import Derived.Shelf.Strings.Split
import Derived.Shelf.Strings.Search3
import Derived.Shelf.Strings.Count
import Derived.Lib.IndexBytes
import Derived.Lib.Bytealg
import Derived.Lib.Strings
namespace Go.Proofs.YtggfmklppkioeaaGreat
set_option linter.unusedSimpArgs false
set_option linter.unusedVariables false
set_option maxRecDepth 100000
open Go.RowKit
inductive Ex where
 | nrm
 | ext (id:Nat)
 | ret
 deriving DecidableEq
def Ex.exit:Ex→Exit
 | .nrm=>.normal
 | .ext id=>.exit id
 | .ret=>.ret
def dj (p:Program) (C:List Inst) (L:List OIns) (nt:Nat):Nat→Code→MS→Option (Ex×MS)
 | 0,_,_=>none
 | n+1,c,s=>match c with
  | .skip=>some (.nrm,s)
  | .region id ops draw=>(zx p C L nt id ops draw s).map fun s=>(.nrm,s)
  | .seq a b=>match dj p C L nt n a s with
   | some (.nrm,s1)=>dj p C L nt n b s1
   | r=>r
  | .cond c x y=>match evL (bf s) c with
   | some (.b true)=>dj p C L nt n x s
   | some (.b false)=>dj p C L nt n y s
   | _=>none
  | .block id b=>match dj p C L nt n b s with
   | some (.ext i,s1)=>if i=id then some (.nrm,s1)else some (.ext i,s1)
   | r=>r
  | .loop b=>match dj p C L nt n b s with
   | some (.nrm,s1)=>dj p C L nt n (.loop b) s1
   | r=>r
  | .exit id=>some (.ext id,s)
  | .ret=>some (.ret,s)
  | .scope b=>dj p C L nt n b s
  | .label _=>some (.nrm,s)
  | _=>none
section
variable {p:Program} {ρ:Rho} {a:Act} {w:World} {w0:Ent} {C:List Inst} {L:List OIns} {nt:Nat} {Q:Exit→Act→World→Prop}
theorem wp_loop_rounds {c:Code} (I:Nat→Act→World→Prop) (N:Nat) (h0:I 0 a w) (round:∀k a w,k≤N→I k a w→c.wp p (Exit.then (fun a' w'=>k<N∧I (k+1) a' w') Q) a w):(Code.loop c).wp p Q a w:=by
 intro b k cs;have key:∀n j a w,N - j=n→j≤N→I j a w→
   ∃e a' w',Q e a' w'∧Arrives p (lone (b.at a (.code c::.inLoop c::k)) cs w) b k cs e a' w':=by
  intro n
  induction n with
  | zero=>
   intro j a w hn hj hI;obtain⟨e,a₁,w₁,hq,harr⟩:=round j a w hj hI b (.inLoop c::k) cs
   cases e with
   | normal=>obtain⟨h,_⟩:=hq;omega
   | exit id=>exact⟨_,a₁,w₁,hq,.pass (x:=.inLoop c) rfl (fun _ _=>.inl (by simp)) harr⟩
   | goto l=>exact⟨_,a₁,w₁,hq,.pass (x:=.inLoop c) rfl (fun _ _=>.inl (by simp)) harr⟩
   | ret=>exact⟨_,a₁,w₁,hq,.pass (x:=.inLoop c) rfl (fun _ _=>.inl (by simp)) harr⟩
   | panic ch=>exact⟨_,a₁,w₁,hq,.pass (x:=.inLoop c) rfl (fun _ _=>.inl (by simp)) harr⟩
   | outgrown=>exact⟨_,a₁,w₁,hq,.pass (x:=.inLoop c) rfl (fun _ _=>.inl (by simp)) harr⟩
  | succ n ih=>
   intro j a w hn hj hI;obtain⟨e,a₁,w₁,hq,harr⟩:=round j a w hj hI b (.inLoop c::k) cs
   cases e with
   | normal=>
    obtain⟨hlt,hI₁⟩:=hq;obtain⟨e₂,a₂,w₂,hq₂,harr₂⟩:=ih (j+1) a₁ w₁ (by omega) (by omega) hI₁;exact⟨e₂,a₂,w₂,hq₂,.of_steps (Steps.trans harr (.one step_inLoop)) harr₂⟩
   | exit id=>exact⟨_,a₁,w₁,hq,.pass (x:=.inLoop c) rfl (fun _ _=>.inl (by simp)) harr⟩
   | goto l=>exact⟨_,a₁,w₁,hq,.pass (x:=.inLoop c) rfl (fun _ _=>.inl (by simp)) harr⟩
   | ret=>exact⟨_,a₁,w₁,hq,.pass (x:=.inLoop c) rfl (fun _ _=>.inl (by simp)) harr⟩
   | panic ch=>exact⟨_,a₁,w₁,hq,.pass (x:=.inLoop c) rfl (fun _ _=>.inl (by simp)) harr⟩
   | outgrown=>exact⟨_,a₁,w₁,hq,.pass (x:=.inLoop c) rfl (fun _ _=>.inl (by simp)) harr⟩
 obtain⟨e,a',w',hq,harr⟩:=key (N - 0) 0 a w rfl (by omega) h0;exact⟨e,a',w',hq,.of_steps (.one step_loop) harr⟩
theorem sc {s:MS} {x:Operand} {l:Leaf} (hs:MSt ρ w0 nt s a w) (h:evL (bf s) x=some l):∃B,l.holds ρ B w (a.eval x):=by
 obtain⟨B,_,hv,_⟩:=hs;exact⟨B,dQ (fun y _ c hc=>hv y c hc) h⟩
theorem bE (hC:∀i∈C,i.Ok0 p ρ w0) (hO:∀i∈L,i.OkE w0 p ρ) (hm:p.follows .mixedOrders=true):∀ {n:Nat} {c:Code} {s s':MS} {e:Ex} {a:Act} {w:World} {Q:Exit→Act→World→Prop},dj p C L nt n c s=some (e,s')→
  MSt ρ w0 nt s a w→(∀a' w',MSt ρ w0 nt s' a' w'→Q e.exit a' w')→c.wp p Q a w
 | 0,_,_,_,_,_,_,_,h,_,_=>by simp[dj]at h
 | n+1,c,s,s',e,a,w,Q,h,hs,hQ=>by
  cases c with
  | skip=>
   simp[dj]at h;obtain⟨rfl,rfl⟩:=h;exact wp_skip (hQ a w hs)
  | region id ops draw=>
   simp only[dj]at h
   cases hr:zx p C L nt id ops draw s with
   | none=>rw[hr]at h;cases h
   | some s1=>
    rw[hr]at h;simp at h;obtain⟨rfl,rfl⟩:=h;exact oK hC hO hm hr hs hQ
  | seq x y=>
   simp only[dj]at h;split at h
   ·rename_i s1 h1;refine wp_seq (bE hC hO hm h1 hs (fun a' w' hs'=> ?_));exact bE hC hO hm h hs' hQ
   ·rename_i hne;refine wp_seq (bE hC hO hm h hs (fun a' w' hs'=> ?_))
    cases e with
    | nrm=>exact absurd h (hne s')
    | ext id=>exact hQ a' w' hs'
    | ret=>exact hQ a' w' hs'
  | cond k x y=>
   simp only[dj]at h;split at h
   ·rename_i hk;obtain⟨B,hb⟩:=sc hs hk;exact wp_cond_true hb (bE hC hO hm h hs hQ)
   ·rename_i hk;obtain⟨B,hb⟩:=sc hs hk;exact wp_cond_false hb (bE hC hO hm h hs hQ)
   ·cases h
  | block id b=>
   simp only[dj]at h;split at h
   ·rename_i i s1 h1;refine wp_block (bE hC hO hm h1 hs (fun a' w' hs'=> ?_));split at h
    ·rename_i hi;simp at h;obtain⟨rfl,rfl⟩:=h;show if i=id then _ else _
     rw[if_pos hi];exact hQ a' w' hs'
    ·rename_i hi;simp at h;obtain⟨rfl,rfl⟩:=h;show if i=id then _ else _
     rw[if_neg hi];exact hQ a' w' hs'
   ·rename_i hne;refine wp_block (bE hC hO hm h hs (fun a' w' hs'=> ?_))
    cases e with
    | nrm=>exact hQ a' w' hs'
    | ext id=>exact absurd h (hne id s')
    | ret=>exact hQ a' w' hs'
  | loop b=>
   have key:∀(n:Nat) (s:MS),dj p C L nt n (.loop b) s=some (e,s')→∃(N:Nat) (S:Nat→MS),S 0=s∧∀k,k≤N→∃m r,m<n∧dj p C L nt m b (S k)=some r∧((k<N∧r=(.nrm,S (k+1)))∨(k=N∧r=(e,s')∧r.1≠ .nrm)):=by
    intro n
    induction n with
    | zero=>intro s h;simp[dj]at h
    | succ n ih=>
     intro s h;simp only[dj]at h;split at h
     ·rename_i s1 h1;obtain⟨N,S,h2,h3⟩:=ih s1 h;refine⟨N+1,fun k=>match k with | 0=>s | k+1=>S k,rfl,fun k hk=> ?_⟩
      match k with
      | 0=>exact⟨n,_,by omega,h1,.inl ⟨by omega,by rw[←h2]⟩⟩
      | k+1=>
       obtain⟨m,r,k1,k2,k3⟩:=h3 k (by omega);exact⟨m,r,by omega,k2,k3.imp (fun⟨x,y⟩=>⟨by omega,y⟩) (fun⟨x,y⟩=>⟨by omega,y⟩)⟩
     ·rename_i hne;refine⟨0,fun _=>s,rfl,fun k hk=>⟨n,(e,s'),by omega,h,.inr ⟨by omega,rfl,fun he=>hne s' ?_⟩⟩⟩;simp only at he;rw[h,he]
   obtain⟨N,S,h0,hS⟩:=key (n+1) s h;refine wp_loop_rounds (fun k a w=>MSt ρ w0 nt (S k) a w) N (by rw[h0];exact hs) (fun k a w hk hI=> ?_);obtain⟨m,r,hmn,hr,hor⟩:=hS k hk;obtain⟨e1,s1⟩:=r;refine bE hC hO hm hr hI (fun a' w' hs'=> ?_);rcases hor with⟨h1,h2⟩ | ⟨h1,h2,h3⟩
   ·simp at h2;obtain⟨rfl,rfl⟩:=h2;exact⟨h1,hs'⟩
   ·simp at h2;obtain⟨rfl,rfl⟩:=h2
    cases e1 with
    | nrm=>exact absurd rfl h3
    | ext id=>exact hQ a' w' hs'
    | ret=>exact hQ a' w' hs'
  | exit id=>
   simp[dj]at h;obtain⟨rfl,rfl⟩:=h;exact wp_exit (hQ a w hs)
  | ret=>
   simp[dj]at h;obtain⟨rfl,rfl⟩:=h;exact wp_ret (hQ a w hs)
  | scope b=>
   simp only[dj]at h;refine wp_scope_straight (bE hC hO hm h hs (fun a' w' hs'=> ?_))
   cases e<;>exact hQ a' w' hs'
  | label l=>
   simp[dj]at h;obtain⟨rfl,rfl⟩:=h;exact wp_label (hQ a w hs)
  | _=>simp[dj]at h
termination_by n=>n
end
end Go.Proofs.YtggfmklppkioeaaGreat
namespace Go.Proofs.YtggfmklppkioeaaGreat
set_option linter.unusedSimpArgs false
set_option linter.unusedVariables false
set_option maxRecDepth 100000
open Go.RowKit
def resA1 (p:Program) (s:MS):ResultVar→Option SV
 | .tmp t=>evS (bf s) (.tmp t)
 | .cell t ty=>match cd p [] (bf s) (.load ty (.tmp t))with
  | some (.v x,_)=>some x
  | _=>none
def ub (p:Program) (s:MS):List ResultVar→Option (List SV)
 | []=>some []
 | r::rs=>match resA1 p s r,ub p s rs with
  | some x,some xs=>some (x::xs)
  | _,_=>none
def sd (p:Program) (s:MS) (rs:List ResultVar):Option AV:=
 match ub p s rs with
 | some [x]=>some (.v x)
 | some xs=>some (.tup xs)
 | none=>none
def Leaf.noPtr:Leaf→Bool
 | .ptr _ _=>false
 | .own _ _=>false
 | _=>true
def SV.noPtr:SV→Bool
 | .one l=>l.noPtr
 | .agg ls=>ls.all Leaf.noPtr
def AV.noPtr:AV→Bool
 | .v s=>s.noPtr
 | .tup xs=>xs.all SV.noPtr
 | .any=>true
def fc (args:List SV) (n:Nat):List (Option AV):=args.map (fun s=>some (.v s))++List.replicate (n - args.length) none
def runFn (p:Program) (C:List Inst) (L:List OIns) (fn:Func) (args:List SV) (fuel:Nat):Option AV:=
 if args.length≤fn.ntmps∧fn.ntmps≤100000 then
  match fn.body with
  | some c=>match dj p C L fn.ntmps fuel c ⟨fc args fn.ntmps,[]⟩with
   | some (.ext _,_)=>none
   | some (_,s)=>match sd p s fn.results.toList with
    | some r=>if r.noPtr then some r else none
    | none=>none
   | none=>none
  | none=>none
 else none
def resM (tmps:Array Value):ResultVar→Sem Value
 | .tmp t=>pure (tmps.getD t undef)
 | .cell t ty=>do loadVar ty (←asAddr (tmps.getD t undef))
theorem wd (fn:Func) (tmps:Array Value):results fn tmps=(do let vs←fn.results.mapM (resM tmps);pure (if h:vs.size=1 then vs[0]else .tuple vs)):=by
 unfold results
 congr 1
section
variable {p:Program} {ρ:Rho} {B:Blk} {a:Act} {w:World} {w0:Ent} {C:List Inst} {L:List OIns} {nt:Nat}
theorem Leaf.holds.free {l:Leaf} {v:Value} (h:l.holds ρ B w v) (hn:l.noPtr=true):l.holds ρ noB w v:=by
 cases l<;>first
  | exact h
  | (simp[Leaf.noPtr]at hn;done)
  | (obtain⟨s,h1,h2,_⟩:=h;exact⟨s,h1,h2,fun g hg hx=>r8 hx⟩)
theorem aC.free:∀ {ls:List Leaf} {vs:List Value},aC ρ B w ls vs→ls.all Leaf.noPtr=true→aC ρ noB w ls vs
 | [],[],_,_=>trivial
 | _::_,_::_,h,hn=>by
  simp only[List.all_cons,Bool.and_eq_true]at hn;exact⟨h.1.free hn.1,aC.free h.2 hn.2⟩
 | [],_::_,h,_=>h.elim
 | _::_,[],h,_=>h.elim
theorem SV.holds.free {s:SV} {v:Value} (h:s.holds ρ B w v) (hn:s.noPtr=true):s.holds ρ noB w v:=by
 cases s with
 | one l=>exact Leaf.holds.free h hn
 | agg ls=>obtain⟨vs,e,h⟩:=h;exact⟨vs,e,h.free hn⟩
theorem bW.free:∀ {ls:List SV} {vs:List Value},bW ρ B w ls vs→ls.all SV.noPtr=true→bW ρ noB w ls vs
 | [],[],_,_=>trivial
 | _::_,_::_,h,hn=>by
  simp only[List.all_cons,Bool.and_eq_true]at hn;exact⟨h.1.free hn.1,bW.free h.2 hn.2⟩
 | [],_::_,h,_=>h.elim
 | _::_,[],h,_=>h.elim
theorem AV.holds.free {s:AV} {v:Value} (h:s.holds ρ B w v) (hn:s.noPtr=true):s.holds ρ noB w v:=by
 cases s with
 | v s=>exact SV.holds.free h hn
 | tup xs=>obtain⟨vs,e,h⟩:=h;exact⟨vs,e,h.free hn⟩
 | any=>exact h
theorem zy {v:Value} {ad:Addr} (h:v= .pointer (some ad)):(asAddr v).run p w= .ok ad w:=by subst h;rfl
theorem mi {s:MS} (hv:∀x c,bf s x=some c→bu ρ B a w x c):∀ {rs:List ResultVar} {xs:List SV},ub p s rs=some xs→
  ∃vs:List Value,(rs.mapM (resM a.tmps)).run p w= .ok vs w∧bW ρ B w xs vs
 | [],xs,h=>by simp[ub]at h;subst h;exact⟨[],by simp,trivial⟩
 | r::rs,xs,h=>by
  simp only[ub]at h;split at h
  ·rename_i x xs' h1 h2;simp at h;subst h;obtain⟨vs,h3,h4⟩:=mi hv h2;have one:∃v,(resM a.tmps r).run p w= .ok v w∧x.holds ρ B w v:=by
    cases r with
    | tmp t=>exact⟨a.tmps.getD t undef,rfl,dP (x:=.tmp t) (fun y _ c hc=>hv y c hc) h1⟩
    | cell t ty=>
     simp only[resA1]at h1;split at h1
     ·rename_i y rd hp;injection h1 with h1;subst h1;obtain⟨ad,u,e1,e2,e3⟩:=tP (p:=p) hp (fun y _ c hc=>hv y c hc) (fun y _ c hc=>hv y c hc);refine⟨u,?_,e3⟩;have e1':a.tmps.getD t undef= .pointer (some ad):=e1;simp only[resM,Sem.run_bind,zy e1',Result.andThen,e2]
     ·cases h1
   obtain⟨v,h5,h6⟩:=one;refine⟨v::vs,?_,h6,h4⟩;simp only[List.mapM_cons,Sem.run_bind,Sem.run_pure];rw[h5];simp only[Result.andThen];rw[h3]
  ·cases h
theorem oL {s:MS} (hv:∀x c,bf s x=some c→bu ρ B a w x c) {fn:Func} {r:AV} (h:sd p s fn.results.toList=some r):∃v,(results fn a.tmps).run p w= .ok v w∧r.holds ρ B w v:=by
 have arr:∀vs:List Value,(fn.results.toList.mapM (resM a.tmps)).run p w= .ok vs w→
   (results fn a.tmps).run p w= .ok (if h:vs.toArray.size=1 then vs.toArray[0]else .tuple vs.toArray) w:=by
  intro vs hvs;rw[wd,Sem.run_bind];have:∀(f:ResultVar→Sem Value) (xs:Array ResultVar),(xs.toList.mapM f).run p w= .ok vs w→(xs.mapM f).run p w= .ok vs.toArray w:=by
   intro f xs hx;obtain⟨l⟩:=xs;simp only[List.mapM_toArray,map_eq_pure_bind,Sem.run_bind,hx,Result.andThen,Sem.run_pure]
  rw[this _ _ hvs];rfl
 unfold sd at h;split at h
 ·rename_i x hx;injection h with h;subst h;obtain⟨vs,h1,h2⟩:=mi hv hx
  match vs,h2 with
  | [v],h2=>exact⟨v,by rw[arr _ h1];rfl,h2.1⟩
 ·rename_i xs hne hx;injection h with h;subst h;obtain⟨vs,h1,h2⟩:=mi hv hx;refine⟨.tuple vs.toArray,?_,vs,rfl,h2⟩;rw[arr _ h1,dif_neg];intro h3
  match vs,xs,h2 with
  | [],[],_=>simp at h3
  | [_],[y],_=>exact hne y rfl
  | _::_::_,_,_=>simp at h3
 ·cases h
theorem bW.len:∀ {ls:List SV} {vs:List Value},bW ρ B w ls vs→vs.length=ls.length
 | [],[],_=>rfl
 | _::_,_::_,h=>by simp[h.2.len]
 | [],_::_,h=>h.elim
 | _::_,[],h=>h.elim
theorem x9 {E:Ent} {args:List SV} {vs:List Value} {vars:List (TypeId×List Leaf)} (hI:BInj B) (ho:∀k g,B.o k g→E.X g∧bC E.w g) (hp:∀x g,E.pin[x]? =some g↔B.v x=some g) (hl:E.pin.length=vars.length)
  (hv:∀x q,vars[x]? =some q→(∀g,B.v x=some g→E.X g)∧ol ρ B E.w (x,q)) (hn:args.length≤nt) (ha:bW ρ B E.w args vs):
  MSt ρ E nt ⟨fc args nt,vars.map fun q=>(q.1,q.2.map some)⟩ {tmps:=vs.toArray++Array.replicate (nt - vs.toArray.size) undef,defers:=[]} E.w:=by
 have hlen:=ha.len;have hlt:∀x g,B.v x=some g→∃q,vars[x]? =some q:=fun x g h=>by
  have:=(List.getElem?_eq_some_iff.1 ((hp x g).2 h)).1;exact⟨_,List.getElem?_eq_getElem (by omega)⟩
 refine⟨B,⟨fun x g hg=> ?_,fun k g hg=>⟨.inr (ho k g hg).1,(ho k g hg).2⟩,hI,.refl,by simp;omega,rfl,fun x g h=>(hp x g).1 h⟩,fun x c hx=> ?_,fun x hx=> ?_⟩
 ·obtain⟨q,hq⟩:=hlt x g hg;obtain⟨h1,g',cs,h2,h3,h4,h5⟩:=hv x q hq;rw[hg]at h2;injection h2 with h2;subst h2;refine⟨.inr (h1 g hg),cs,q.1,?_,h3,h5⟩;have:=h4.len;unfold cO;simp only[List.getElem?_map,hq,Option.map_some,List.length_map,Option.some.injEq,Prod.mk.injEq,true_and];simpa using this.symm
 ·unfold bf at hx;split at hx
  ·rename_i hx1;unfold bu;rw[if_pos hx1];simp only at hx;unfold fc at hx;by_cases hxa:x<args.length
   ·rw[List.getElem?_append_left (by simpa using hxa),List.getElem?_map,List.getElem?_eq_getElem hxa]at hx;simp at hx;subst hx;obtain⟨v,h1,h2⟩:=ha.get (List.getElem?_eq_getElem hxa);refine⟨v,?_,h2⟩;simp only;rw[Array.getElem?_append_left (by simp;omega)];simpa using h1
   ·rw[List.getElem?_append_right (by simp;omega)]at hx;simp only[List.getElem?_replicate]at hx;split at hx
    ·rename_i hq;split at hq
     ·simp at hq;subst hq;cases hx
     ·cases hq
    ·cases hx
  ·rename_i hx1;simp only[List.getElem?_map]at hx
   cases hq:vars[x / 100000 - 1]? with
   | none=>rw[hq]at hx;simp at hx
   | some q=>
    rw[hq]at hx;simp only[Option.map_some,List.getElem?_map]at hx
    cases hl':q.2[x % 100000]? with
    | none=>rw[hl']at hx;simp at hx
    | some l=>
     rw[hl']at hx;simp only[Option.map_some,Option.some.injEq]at hx;subst hx;obtain⟨_,g,cs,h2,h3,h4,h5⟩:=hv _ q hq;obtain⟨u,h6,h7⟩:=h4.get hl';unfold bu;rw[if_neg hx1];exact⟨g,cs,_,u,h2,h3,by rw[←Array.getElem?_toList];exact h6,h7⟩
 ·cases hb:B.v x with
  | none=>exact absurd hb hx
  | some g=>
   obtain⟨q,hq⟩:=hlt x g hb;simpa using (List.getElem?_eq_some_iff.1 hq).1
theorem noB_inj:BInj noB:=⟨fun _ _ _ h=>by(cases h),fun _ _ _ h=>h.elim,fun _ _ _ h=>by(cases h)⟩
theorem oM {args:List SV} {vs:List Value} (hn:args.length≤nt) (ha:bW ρ noB w args vs):MSt ρ (.of w) nt ⟨fc args nt,[]⟩ {tmps:=vs.toArray++Array.replicate (nt - vs.toArray.size) undef,defers:=[]} w:=
 x9 (E:=.of w) (vars:=[]) noB_inj (fun _ _ h=>h.elim) (fun x g=>⟨fun h=>by simp at h,fun h=>by(cases h)⟩) rfl (fun x q h=>by simp at h) hn ha
theorem ud (hC:∀i∈C,i.Ok0 p ρ (.of w)) (hO:∀i∈L,i.OkE (.of w) p ρ) (hm:p.follows .mixedOrders=true) {f:FuncId} {fn:Func} (hf:p.funcs[f]? =some fn) {args:List SV} {vs:List Value} {fuel:Nat} {r:AV}
  (h:runFn p C L fn args fuel=some r) (ha:bW ρ noB w args vs):Calls p f vs.toArray w (fun e w'=>∃v,e= .returned v∧r.holds ρ noB w' v∧Below w.heap.size w w'):=by
 unfold runFn at h;split at h
 ·rename_i hn;split at h
  ·rename_i c hb;have hst:=oM hn.1 ha;have hret:∀ {s:MS} {e:Ex},dj p C L fn.ntmps fuel c ⟨fc args fn.ntmps,[]⟩=some (e,s)→e= .nrm∨e= .ret→(match sd p s fn.results.toList with | some r=>if r.noPtr then some r else none | none=>none)=some r→
     Calls p f vs.toArray w (fun e w'=>∃v,e= .returned v∧r.holds ρ noB w' v∧Below w.heap.size w w'):=by
    intro s e he hor hr;split at hr
    ·rename_i r' hr';split at hr
     ·rename_i hnp;injection hr with hr;subst hr;refine calls_of_wp hf hb (bE hC hO hm he hst (fun a' w' hs'=> ?_));obtain⟨B,hi,hv,_⟩:=hs';obtain⟨v,h1,h2⟩:=oL (p:=p) hv hr';rcases hor with rfl | rfl
      ·exact⟨hi.dfr,v,h1,v,rfl,h2.free hnp,hi.below.to⟩
      ·exact⟨hi.dfr,v,h1,v,rfl,h2.free hnp,hi.below.to⟩
     ·cases hr
    ·cases hr
   split at h
   ·cases h
   ·rename_i e s he hx;have hor:e= .nrm∨e= .ret:=by
     cases e with
     | nrm=>exact .inl rfl
     | ret=>exact .inr rfl
     | ext id=>exact(he id rfl).elim
    exact hret hx hor h
   ·cases h
  ·cases h
 ·cases h
end
end Go.Proofs.YtggfmklppkioeaaGreat
namespace Go.Proofs.YtggfmklppkioeaaGreat
set_option linter.unusedSimpArgs false
set_option linter.unusedVariables false
set_option maxRecDepth 100000
open Go.RowKit
def Leaf.cv (N V:Nat) (σ:List (Nat×Leaf)) (l l':Leaf):Bool:=
 match l' with
 | .ref n=>if n<N then decide (l= .ref n)else σ.contains (n,l) && (match l with | .own _ _=>false | _=>true)
 | .ptr x o=>decide (l= .ptr x o) && decide (x<V)
 | .own k m=>if m<N then decide (l= .own k m)else σ.contains (m,l) && (match l with | .own k' _=>decide (k'=k) | _=>false)
 | _=>decide (l=l')
def gl (N V:Nat) (σ:List (Nat×Leaf)):List Leaf→List Leaf→Bool
 | [],[]=>true
 | l::ls,k::ks=>l.cv N V σ k && gl N V σ ls ks
 | _,_=>false
def SV.cv (N V:Nat) (σ:List (Nat×Leaf)):SV→SV→Bool
 | .one l,.one k=>l.cv N V σ k
 | .agg ls,.agg ks=>gl N V σ ls ks
 | _,_=>false
def qS (N V:Nat) (σ:List (Nat×Leaf)):List SV→List SV→Bool
 | [],[]=>true
 | l::ls,k::ks=>l.cv N V σ k && qS N V σ ls ks
 | _,_=>false
def AV.cv (N V:Nat) (σ:List (Nat×Leaf)):AV→AV→Bool
 | .v l,.v k=>l.cv N V σ k
 | .tup ls,.tup ks=>qS N V σ ls ks
 | .any,.any=>true
 | _,_=>false
def ei (N V:Nat) (σ:List (Nat×Leaf)):List (Option AV)→List (Option AV)→Bool
 | _,[]=>true
 | _::cs,none::ds=>ei N V σ cs ds
 | some c::cs,some d::ds=>c.cv N V σ d && ei N V σ cs ds
 | _,_=>false
def bP (N V:Nat) (σ:List (Nat×Leaf)):List (Option Leaf)→List (Option Leaf)→Bool
 | [],[]=>true
 | _::cs,none::ds=>bP N V σ cs ds
 | some c::cs,some d::ds=>c.cv N V σ d && bP N V σ cs ds
 | _,_=>false
def mj (N V:Nat) (σ:List (Nat×Leaf)):List (TypeId×List (Option Leaf))→List (TypeId×List (Option Leaf))→Bool
 | _,[]=>true
 | (t,cs)::r,(t',ds)::r'=>decide (t=t') && (bP N V σ cs ds && mj N V σ r r')
 | _,_=>false
def MS.cv (N:Nat) (σ:List (Nat×Leaf)) (s s':MS):Bool:=ei N s'.vars.length σ s.slots s'.slots && mj N s'.vars.length σ s.vars s'.vars
section
variable {ρ ρ':Rho} {B:Blk} {a:Act} {w:World} {w0:Ent} {nt N V:Nat} {σ:List (Nat×Leaf)} {s s':MS} {v:Value}
def kV (V:Nat) (B:Blk):Blk:=⟨fun x=>if x<V then B.v x else none,B.o⟩
structure CutOk (B B':Blk):Prop where
 v:∀x g,B'.v x=some g→B.v x=some g
 o:B'.o=B.o
theorem CutOk.has {B B':Blk} (h:CutOk B B') {g:Nat} (k:B'.has g):B.has g:=by
 rcases k with⟨x,k⟩ | ⟨x,k⟩
 ·exact .inl ⟨x,h.v _ _ k⟩
 ·rw[h.o]at k;exact .inr ⟨x,k⟩
def Leaf.like:Leaf→Nat→Leaf
 | .own k _,n=>.own k n
 | _,n=>.ref n
theorem se:CutOk B (kV V B):=⟨fun x g h=>by
 unfold kV at h;simp only at h;split at h
 ·exact h
 ·exact(by cases h),rfl⟩
def ya (ρ ρ':Rho) (q:Nat×Leaf):Prop:=∀B B' w v,CutOk B B'→q.2.holds ρ B w v→(Leaf.like q.2 q.1).holds ρ' B' w v
def jE (ρ ρ':Rho) (σ:List (Nat×Leaf)):Prop:=∀q∈σ,ya ρ ρ' q
theorem Leaf.cv_holds (hc:∀n,n<N→ρ[n]? =ρ'[n]?) (hσ:jE ρ ρ' σ) {l l':Leaf} (h:l.cv N V σ l'=true) (hl:l.holds ρ B w v):l'.holds ρ' (kV V B) w v:=by
 cases l' with
 | ref n=>
  simp only[Leaf.cv]at h;split at h
  ·rename_i hn;have h:=of_decide_eq_true h;subst h;obtain⟨q,h1,h2,h3⟩:=hl;exact⟨q,by rw[←hc n hn];exact h1,h2,fun g hg hx=>h3 g hg (se.has hx)⟩
  ·simp only[Bool.and_eq_true]at h;have h1:=hσ (n,l) (List.contains_iff_mem.1 h.1) _ (kV V B) _ _ se hl
   cases l with
   | own k m=>simp at h
   | _=>exact h1
 | own k m=>
  simp only[Leaf.cv]at h;split at h
  ·rename_i hn;have h:=of_decide_eq_true h;subst h;obtain⟨q,h1,h2,h3,h4⟩:=hl;exact⟨q,by rw[←hc m hn];exact h1,h2,h3,h4⟩
  ·simp only[Bool.and_eq_true]at h;have h1:=hσ (m,l) (List.contains_iff_mem.1 h.1) _ (kV V B) _ _ se hl
   cases l with
   | own k' m'=>
    have h2:k'=k:=by simpa using h.2
    subst h2;exact h1
   | _=>simp at h
 | ptr x o=>
  simp only[Leaf.cv,Bool.and_eq_true,decide_eq_true_eq]at h;obtain⟨rfl,hx⟩:=h;obtain⟨g,h1,h2⟩:=hl;exact⟨g,by show(if x<V then B.v x else none)=_;rw[if_pos hx];exact h1,h2⟩
 | _=>
  simp only[Leaf.cv,decide_eq_true_eq]at h;subst h;exact hl
theorem iA (hc:∀n,n<N→ρ[n]? =ρ'[n]?) (hσ:jE ρ ρ' σ):∀ {l l':List Leaf} {vs:List Value},gl N V σ l l'=true→aC ρ B w l vs→aC ρ' (kV V B) w l' vs
 | [],[],[],_,_=>trivial
 | _::_,_::_,_::_,h,hl=>by
  simp only[gl,Bool.and_eq_true]at h;exact⟨Leaf.cv_holds hc hσ h.1 hl.1,iA hc hσ h.2 hl.2⟩
 | [],[],_::_,_,h=>h.elim
 | [],_::_,_,h,_=>by simp[gl]at h
 | _::_,[],_,h,_=>by simp[gl]at h
 | _::_,_::_,[],_,h=>h.elim
theorem SV.cv_holds (hc:∀n,n<N→ρ[n]? =ρ'[n]?) (hσ:jE ρ ρ' σ) {l l':SV} (h:l.cv N V σ l'=true) (hl:l.holds ρ B w v):l'.holds ρ' (kV V B) w v:=by
 cases l<;>cases l'<;>simp only[SV.cv]at h
 ·exact Leaf.cv_holds hc hσ h hl
 ·cases h
 ·cases h
 ·obtain⟨vs,e,hl⟩:=hl;exact⟨vs,e,iA hc hσ h hl⟩
theorem mV (hc:∀n,n<N→ρ[n]? =ρ'[n]?) (hσ:jE ρ ρ' σ):∀ {l l':List SV} {vs:List Value},qS N V σ l l'=true→bW ρ B w l vs→bW ρ' (kV V B) w l' vs
 | [],[],[],_,_=>trivial
 | _::_,_::_,_::_,h,hl=>by
  simp only[qS,Bool.and_eq_true]at h;exact⟨SV.cv_holds hc hσ h.1 hl.1,mV hc hσ h.2 hl.2⟩
 | [],[],_::_,_,h=>h.elim
 | [],_::_,_,h,_=>by simp[qS]at h
 | _::_,[],_,h,_=>by simp[qS]at h
 | _::_,_::_,[],_,h=>h.elim
theorem AV.cv_holds (hc:∀n,n<N→ρ[n]? =ρ'[n]?) (hσ:jE ρ ρ' σ) {l l':AV} (h:l.cv N V σ l'=true) (hl:l.holds ρ B w v):l'.holds ρ' (kV V B) w v:=by
 cases l<;>cases l'<;>simp only[AV.cv]at h<;>try (cases h)
 ·exact SV.cv_holds hc hσ h hl
 ·obtain⟨vs,e,hl⟩:=hl;exact⟨vs,e,mV hc hσ h hl⟩
 ·exact hl
theorem iB:∀ {cs ds:List (Option AV)} {i:Nat} {d:AV},ei N V σ cs ds=true→ds[i]? =some (some d)→∃c,cs[i]? =some (some c)∧c.cv N V σ d=true
 | _,[],_,_,_,h=>by simp at h
 | _::cs,none::ds,0,_,_,h=>by simp at h
 | _::cs,none::ds,i+1,d,h,hd=>by
  simp only[ei]at h;obtain⟨c,h1,h2⟩:=iB (cs:=cs) (ds:=ds) (i:=i) (d:=d) h (by simpa using hd);exact⟨c,by simpa using h1,h2⟩
 | some c::cs,some d'::ds,0,d,h,hd=>by
  simp only[ei,Bool.and_eq_true]at h;simp at hd;subst hd;exact⟨c,rfl,h.1⟩
 | some c::cs,some d'::ds,i+1,d,h,hd=>by
  simp only[ei,Bool.and_eq_true]at h;obtain⟨c,h1,h2⟩:=iB (cs:=cs) (ds:=ds) (i:=i) (d:=d) h.2 (by simpa using hd);exact⟨c,by simpa using h1,h2⟩
 | [],none::ds,_,_,h,_=>by simp[ei]at h
 | [],some _::ds,_,_,h,_=>by simp[ei]at h
 | none::_,some _::_,_,_,h,_=>by simp[ei]at h
theorem iC:∀ {cs ds:List (Option Leaf)} {i:Nat} {d:Leaf},bP N V σ cs ds=true→ds[i]? =some (some d)→∃c,cs[i]? =some (some c)∧c.cv N V σ d=true
 | [],[],_,_,_,h=>by simp at h
 | _::cs,none::ds,0,_,_,h=>by simp at h
 | _::cs,none::ds,i+1,d,h,hd=>by
  simp only[bP]at h;obtain⟨c,h1,h2⟩:=iC (cs:=cs) (ds:=ds) (i:=i) (d:=d) h (by simpa using hd);exact⟨c,by simpa using h1,h2⟩
 | some c::cs,some d'::ds,0,d,h,hd=>by
  simp only[bP,Bool.and_eq_true]at h;simp at hd;subst hd;exact⟨c,rfl,h.1⟩
 | some c::cs,some d'::ds,i+1,d,h,hd=>by
  simp only[bP,Bool.and_eq_true]at h;obtain⟨c,h1,h2⟩:=iC (cs:=cs) (ds:=ds) (i:=i) (d:=d) h.2 (by simpa using hd);exact⟨c,by simpa using h1,h2⟩
 | [],none::ds,_,_,h,_=>by simp[bP]at h
 | [],some _::ds,_,_,h,_=>by simp[bP]at h
 | none::_,some _::_,_,_,h,_=>by simp[bP]at h
 | _::_,[],_,_,h,_=>by simp[bP]at h
theorem iD:∀ {cs ds:List (Option Leaf)},bP N V σ cs ds=true→cs.length=ds.length
 | [],[],_=>rfl
 | _::cs,none::ds,h=>by simp only[bP]at h;simp[iD h]
 | some _::cs,some _::ds,h=>by simp only[bP,Bool.and_eq_true]at h;simp[iD h.2]
 | [],none::ds,h=>by simp[bP]at h
 | [],some _::ds,h=>by simp[bP]at h
 | none::_,some _::_,h=>by simp[bP]at h
 | _::_,[],h=>by simp[bP]at h
theorem jQ:∀ {cs ds:List (TypeId×List (Option Leaf))} {i:Nat} {d:TypeId×List (Option Leaf)},mj N V σ cs ds=true→ds[i]? =some d→∃c,cs[i]? =some (d.1,c)∧bP N V σ c d.2=true
 | _,[],_,_,_,h=>by simp at h
 | (t,c)::cs,(t',d')::ds,0,d,h,hd=>by
  simp only[mj,Bool.and_eq_true,decide_eq_true_eq]at h;simp at hd;subst hd;exact⟨c,by simp[h.1],h.2.1⟩
 | (t,c)::cs,(t',d')::ds,i+1,d,h,hd=>by
  simp only[mj,Bool.and_eq_true,decide_eq_true_eq]at h;obtain⟨c,h1,h2⟩:=jQ (cs:=cs) (ds:=ds) (i:=i) (d:=d) h.2.2 (by simpa using hd);exact⟨c,by simpa using h1,h2⟩
 | [],_::_,_,_,h,_=>by simp[mj]at h
theorem MSt.conv (hc:∀n,n<N→ρ[n]? =ρ'[n]?) (hσ:jE ρ ρ' σ) (h:s.cv N σ s'=true) (hs:MSt ρ w0 nt s a w) (hpn:w0.pin.length≤s'.vars.length:=by exact Nat.zero_le _):MSt ρ' w0 nt s' a w:=by
 unfold MS.cv at h;simp only[Bool.and_eq_true]at h;obtain⟨hS,hV⟩:=h;obtain⟨B,hi,hk,hv⟩:=hs;have htab:∀v,v<s'.vars.length→(cO s')[v]? =(cO s)[v]? :=fun v hv=>by
  obtain⟨c,h1,h2⟩:=jQ hV (List.getElem?_eq_getElem hv);unfold cO;rw[List.getElem?_map,List.getElem?_map,List.getElem?_eq_getElem hv,h1];simp[iD h2]
 have hcut:∀x g,(kV s'.vars.length B).v x=some g→x<s'.vars.length∧B.v x=some g:=fun x g h=>by
  unfold kV at h;simp only at h;split at h
  ·rename_i h1;exact⟨h1,h⟩
  ·cases h
 refine⟨kV s'.vars.length B,⟨fun v g hg=> ?_,hi.own,⟨fun v v' g h1 h2=>hi.inj.v v v' g (hcut _ _ h1).2 (hcut _ _ h2).2,hi.inj.o,fun x k g h1 h2=>hi.inj.vo x k g (hcut _ _ h1).2 h2⟩,hi.below,hi.size,hi.dfr,fun x g h=> ?_⟩,fun x c hx=> ?_,fun v h=> ?_⟩
 ·obtain⟨h1,h2⟩:=hcut v g hg;obtain⟨h3,cs,ty,h4,h5⟩:=hi.blk v g h2;exact⟨h3,cs,ty,by rw[htab v h1];exact h4,h5⟩
 ·show(if x<s'.vars.length then B.v x else none)=_;rw[if_pos (by have:=(List.getElem?_eq_some_iff.1 h).1;omega)];exact hi.pin x g h
 ·unfold bf at hx;by_cases hx1:x<100000
  ·rw[if_pos hx1]at hx;have hd:s'.slots[x]? =some (some c):=by
    cases e:s'.slots[x]? with
    | none=>rw[e]at hx;cases hx
    | some d=>rw[e]at hx;simp at hx;rw[hx]
   obtain⟨c0,h1,h2⟩:=iB hS hd;have:=hk x c0 (by unfold bf;rw[if_pos hx1,h1]);unfold bu at this⊢;rw[if_pos hx1]at this⊢;obtain⟨u,h3,h4⟩:=this;exact⟨u,h3,AV.cv_holds hc hσ h2 h4⟩
  ·rw[if_neg hx1]at hx;have:∃d l,s'.vars[x / 100000 - 1]? =some d∧d.2[x % 100000]? =some (some l)∧c= .v (.one l):=by
    cases e:s'.vars[x / 100000 - 1]? with
    | none=>rw[e]at hx;simp at hx
    | some d=>
     rw[e]at hx
     cases e2:d.2[x % 100000]? with
     | none=>simp[e2]at hx
     | some l=>
      cases l with
      | none=>simp[e2]at hx
      | some l=>simp[e2]at hx;exact⟨d,l,rfl,e2,hx.symm⟩
   obtain⟨d,l,hd,hl,rfl⟩:=this;obtain⟨c,h1,h2⟩:=jQ hV hd;obtain⟨l0,h3,h4⟩:=iC h2 hl;have:=hk x (.v (.one l0)) (by unfold bf;rw[if_neg hx1,h1];simp[h3]);unfold bu at this⊢;rw[if_neg hx1]at this⊢;obtain⟨g,cs,ty,u,h5,h6,h7,h8⟩:=this;have hlt:x / 100000 - 1<s'.vars.length:=(List.getElem?_eq_some_iff.1 hd).1;exact⟨g,cs,ty,u,by unfold kV;simp only;rw[if_pos hlt];exact h5,h6,h7,Leaf.cv_holds hc hσ h4 h8⟩
 ·cases e:(kV s'.vars.length B).v v with
  | none=>exact absurd e h
  | some g=>exact(hcut v g e).1
end
structure LOb where
 b:Code
 s:MS
 e:Ex
 s2:MS
abbrev Los:=List (Option (MS×Ex×MS))
def qu (n:Nat) (l:List (Nat×AV)) (vs:List (TypeId×List (Option Leaf))):MS:=⟨(List.range n).map fun i=>l.lookup i,vs⟩
def cL (p:Program) (C:List Inst) (L:List OIns) (nt:Nat):Nat→Code→MS→Los→Option (Ex×MS×Los×List LOb)
 | 0,_,_,_=>none
 | n+1,c,s,lo=>match c with
  | .skip=>some (.nrm,s,lo,[])
  | .region id ops draw=>(zx p C L nt id ops draw s).map fun s=>(.nrm,s,lo,[])
  | .seq a b=>match cL p C L nt n a s lo with
   | some (.nrm,s1,lo1,o1)=>match cL p C L nt n b s1 lo1 with
    | some (e,s2,lo2,o2)=>some (e,s2,lo2,o1++o2)
    | none=>none
   | r=>r
  | .cond c x y=>match evL (bf s) c with
   | some (.b true)=>cL p C L nt n x s lo
   | some (.b false)=>cL p C L nt n y s lo
   | _=>none
  | .block id b=>match cL p C L nt n b s lo with
   | some (.ext i,s1,lo1,o1)=>if i=id then some (.nrm,s1,lo1,o1)else some (.ext i,s1,lo1,o1)
   | r=>r
  | .loop b=>match lo with
   | some (s0,e,s2)::lo1=>if s.cv 1000000 [] s0∧e≠ .nrm then some (e,s2,lo1,[⟨b,s0,e,s2⟩])else none
   | none::lo1=>(dj p C L nt n (.loop b) s).map fun r=>(r.1,r.2,lo1,[])
   | []=>(dj p C L nt n (.loop b) s).map fun r=>(r.1,r.2,[],[])
  | .exit id=>some (.ext id,s,lo,[])
  | .ret=>some (.ret,s,lo,[])
  | .scope b=>cL p C L nt n b s lo
  | .label _=>some (.nrm,s,lo,[])
  | _=>none
def fJ:Code→List Code
 | .seq a b=>fJ a++fJ b
 | .cond _ x y=>fJ x++fJ y
 | .block _ b=>fJ b
 | .scope b=>fJ b
 | .loop b=>b::fJ b
 | _=>[]
def iE (fn:Func) (k:Nat):Code:=match fn.body with | some c=>(fJ c)[k]?.getD .skip | none=>.skip
def BodyOk (p:Program) (ρ:Rho) (w0:Ent) (nt:Nat) (b:Code) (s:MS) (e:Ex) (s2:MS):Prop:=
 ∀(a:Act) (w:World) (Q:Exit→Act→World→Prop),MSt ρ w0 nt s a w→(∀a' w',MSt ρ w0 nt s2 a' w'→Q e.exit a' w')→b.wp p Q a w
def LOb.Ok (p:Program) (ρ:Rho) (w0:Ent) (nt:Nat) (o:LOb):Prop:=w0.pin.length≤o.s.vars.length∧BodyOk p ρ w0 nt (.loop o.b) o.s o.e o.s2
section
variable {p:Program} {ρ:Rho} {a:Act} {w:World} {w0:Ent} {C:List Inst} {L:List OIns} {nt:Nat} {Q:Exit→Act→World→Prop}
theorem bD (hC:∀i∈C,i.Ok0 p ρ w0) (hO:∀i∈L,i.OkE w0 p ρ) (hm:p.follows .mixedOrders=true):∀ {n:Nat} {c:Code} {s s':MS} {e:Ex} {lo lo':Los} {obs:List LOb},cL p C L nt n c s lo=some (e,s',lo',obs)→
  (∀o∈obs,o.Ok p ρ w0 nt)→BodyOk p ρ w0 nt c s e s'
 | 0,_,_,_,_,_,_,_,h,_=>by simp[cL]at h
 | n+1,c,s,s',e,lo,lo',obs,h,ho=>by
  intro a w Q hs hQ
  cases c with
  | skip=>
   simp[cL]at h;obtain⟨rfl,rfl,rfl,rfl⟩:=h;exact wp_skip (hQ a w hs)
  | region id ops draw=>
   simp only[cL]at h
   cases hr:zx p C L nt id ops draw s with
   | none=>rw[hr]at h;cases h
   | some s1=>
    rw[hr]at h;simp at h;obtain⟨rfl,rfl,rfl,rfl⟩:=h;exact oK hC hO hm hr hs hQ
  | seq x y=>
   simp only[cL]at h;split at h
   ·rename_i s1 lo1 o1 h1;split at h
    ·rename_i e2 s2 lo2 o2 h2;simp at h;obtain⟨rfl,rfl,rfl,rfl⟩:=h;refine wp_seq (bD hC hO hm h1 (fun o hh=>ho o (List.mem_append.2 (.inl hh))) a w _ hs (fun a' w' hs'=> ?_));exact bD hC hO hm h2 (fun o hh=>ho o (List.mem_append.2 (.inr hh))) a' w' Q hs' hQ
    ·cases h
   ·rename_i hne;refine wp_seq (bD hC hO hm h ho a w _ hs (fun a' w' hs'=> ?_))
    cases e with
    | nrm=>exact absurd h (hne s' lo' obs)
    | ext id=>exact hQ a' w' hs'
    | ret=>exact hQ a' w' hs'
  | cond k x y=>
   simp only[cL]at h;split at h
   ·rename_i hk;obtain⟨B,hb⟩:=sc hs hk;exact wp_cond_true hb (bD hC hO hm h ho a w Q hs hQ)
   ·rename_i hk;obtain⟨B,hb⟩:=sc hs hk;exact wp_cond_false hb (bD hC hO hm h ho a w Q hs hQ)
   ·cases h
  | block id b=>
   simp only[cL]at h;split at h
   ·rename_i i s1 lo1 o1 h1;split at h
    ·rename_i hi;simp at h;obtain⟨rfl,rfl,rfl,rfl⟩:=h;refine wp_block (bD hC hO hm h1 ho a w _ hs (fun a' w' hs'=> ?_));show if i=id then _ else _
     rw[if_pos hi];exact hQ a' w' hs'
    ·rename_i hi;simp at h;obtain⟨rfl,rfl,rfl,rfl⟩:=h;refine wp_block (bD hC hO hm h1 ho a w _ hs (fun a' w' hs'=> ?_));show if i=id then _ else _
     rw[if_neg hi];exact hQ a' w' hs'
   ·rename_i hne;refine wp_block (bD hC hO hm h ho a w _ hs (fun a' w' hs'=> ?_))
    cases e with
    | nrm=>exact hQ a' w' hs'
    | ext id=>exact absurd h (hne id s' lo' obs)
    | ret=>exact hQ a' w' hs'
  | loop b=>
   simp only[cL]at h;split at h
   ·rename_i s0 e2 s2 lo1;split at h
    ·rename_i hc;simp at h;obtain⟨rfl,rfl,rfl,rfl⟩:=h;have hob:=ho ⟨b,s0,e2,s2⟩ (by simp);exact hob.2 a w Q (MSt.conv (fun _ _=>rfl) (fun q h=>by cases h) hc.1 hs hob.1) hQ
    ·cases h
   ·rename_i lo1
    cases hr:dj p C L nt n (.loop b) s with
    | none=>rw[hr]at h;cases h
    | some r=>
     rw[hr]at h;simp at h;obtain⟨rfl,rfl,rfl,rfl⟩:=h;exact bE hC hO hm (e:=r.1) (s':=r.2) hr hs hQ
   ·cases hr:dj p C L nt n (.loop b) s with
    | none=>rw[hr]at h;cases h
    | some r=>
     rw[hr]at h;simp at h;obtain⟨rfl,rfl,rfl,rfl⟩:=h;exact bE hC hO hm (e:=r.1) (s':=r.2) hr hs hQ
  | exit id=>
   simp[cL]at h;obtain⟨rfl,rfl,rfl,rfl⟩:=h;exact wp_exit (hQ a w hs)
  | ret=>
   simp[cL]at h;obtain⟨rfl,rfl,rfl,rfl⟩:=h;exact wp_ret (hQ a w hs)
  | scope b=>
   simp only[cL]at h;refine wp_scope_straight (bD hC hO hm h ho a w _ hs (fun a' w' hs'=> ?_))
   cases e<;>exact hQ a' w' hs'
  | label l=>
   simp[cL]at h;obtain⟨rfl,rfl,rfl,rfl⟩:=h;exact wp_label (hQ a w hs)
  | _=>simp[cL]at h
termination_by n=>n
def oN (p:Program) (w0:Ent) (nt:Nat) (b:Code) (ρ:Rho) (s:MS) (e:Ex) (ρ':Rho) (s2:MS):Prop:=
 ∀(a:Act) (w:World) (Q:Exit→Act→World→Prop),MSt ρ w0 nt s a w→(∀a' w',MSt ρ' w0 nt s2 a' w'→Q e.exit a' w')→b.wp p Q a w
def chk (p:Program) (C:List Inst) (L:List OIns) (nt n:Nat) (c:Code) (s:MS) (lo:Los) (e:Ex) (N:Nat) (σ:List (Nat×Leaf)) (s2:MS):Option (List LOb):=
 match cL p C L nt n c s lo with
 | some (e',T,_,obs)=>if e'=e∧T.cv N σ s2 then some obs else none
 | none=>none
theorem dB {ρ':Rho} {C:List Inst} {L:List OIns} (hC:∀i∈C,i.Ok0 p ρ w0) (hO:∀i∈L,i.OkE w0 p ρ) (hm:p.follows .mixedOrders=true) {n N:Nat} {c:Code} {s s2:MS} {e:Ex} {lo:Los} {σ:List (Nat×Leaf)} {obs:List LOb}
  (h:chk p C L nt n c s lo e N σ s2=some obs) (ho:∀o∈obs,o.Ok p ρ w0 nt) (hc:∀n,n<N→ρ[n]? =ρ'[n]?) (hσ:jE ρ ρ' σ) (hpn:w0.pin.length≤s2.vars.length:=by exact Nat.zero_le _):oN p w0 nt c ρ s e ρ' s2:=by
 intro a w Q hs hQ;unfold chk at h;split at h
 ·rename_i e' T lo' obs' he;split at h
  ·rename_i hk;simp at h;subst h;obtain⟨rfl,hk⟩:=hk;exact bD hC hO hm he ho a w Q hs (fun a' w' hT=>hQ a' w' (MSt.conv hc hσ hk hT hpn))
  ·cases h
 ·cases h
theorem fK {b:Code} {s s':MS} {e:Ex} (N:Nat) (ρs:Nat→Rho) (S:Nat→MS) (h0:∀a w,MSt ρ w0 nt s a w→MSt (ρs 0) w0 nt (S 0) a w)
  (hr:∀k,k<N→oN p w0 nt b (ρs k) (S k) .nrm (ρs (k+1)) (S (k+1))) (hN:oN p w0 nt b (ρs N) (S N) e ρ s') (he:e≠ .nrm) (hpn:w0.pin.length≤s.vars.length:=by exact Nat.zero_le _):LOb.Ok p ρ w0 nt ⟨b,s,e,s'⟩:=by
 refine⟨hpn,?_⟩;intro a w Q hs hQ;refine wp_loop_rounds (fun k a w=>MSt (ρs k) w0 nt (S k) a w) N (h0 a w hs) (fun k a w hk hI=> ?_);by_cases hkN:k<N
 ·exact hr k hkN a w _ hI (fun a' w' hT=>⟨hkN,hT⟩)
 ·obtain rfl:k=N:=by omega
  refine hN a w _ hI (fun a' w' hT=> ?_)
  cases e with
  | nrm=>exact absurd rfl he
  | ext id=>exact hQ a' w' hT
  | ret=>exact hQ a' w' hT
end
def runFnL (p:Program) (C:List Inst) (L:List OIns) (fn:Func) (args:List SV) (fuel:Nat) (lo:Los):Option (AV×List LOb):=
 if args.length≤fn.ntmps∧fn.ntmps≤100000 then
  match fn.body with
  | some c=>match cL p C L fn.ntmps fuel c ⟨fc args fn.ntmps,[]⟩ lo with
   | some (.ext _,_,_,_)=>none
   | some (_,s,_,obs)=>match sd p s fn.results.toList with
    | some r=>if r.noPtr then some (r,obs)else none
    | none=>none
   | none=>none
  | none=>none
 else none
section
variable {p:Program} {ρ:Rho} {w:World} {C:List Inst} {L:List OIns}
theorem gL (hC:∀i∈C,i.Ok0 p ρ (.of w)) (hO:∀i∈L,i.OkE (.of w) p ρ) (hm:p.follows .mixedOrders=true) {f:FuncId} {fn:Func} (hf:p.funcs[f]? =some fn) {args:List SV} {vs:List Value} {fuel:Nat} {lo:Los} {r:AV} {obs:List LOb}
  (h:runFnL p C L fn args fuel lo=some (r,obs)) (hl:∀o∈obs,o.Ok p ρ (.of w) fn.ntmps) (ha:bW ρ noB w args vs):Calls p f vs.toArray w (fun e w'=>∃v,e= .returned v∧r.holds ρ noB w' v∧Below w.heap.size w w'):=by
 unfold runFnL at h;split at h
 ·rename_i hn;split at h
  ·rename_i c hb;have hst:=oM hn.1 ha;have hret:∀ {s:MS} {e:Ex} {lo':Los} {obs':List LOb},cL p C L fn.ntmps fuel c ⟨fc args fn.ntmps,[]⟩ lo=some (e,s,lo',obs')→e= .nrm∨e= .ret→(match sd p s fn.results.toList with | some r=>if r.noPtr then some (r,obs')else none | none=>none)=some (r,obs)→
     Calls p f vs.toArray w (fun e w'=>∃v,e= .returned v∧r.holds ρ noB w' v∧Below w.heap.size w w'):=by
    intro s e lo' obs' he hor hr;split at hr
    ·rename_i r' hr';split at hr
     ·rename_i hnp;simp at hr;obtain⟨rfl,rfl⟩:=hr;refine calls_of_wp hf hb (bD hC hO hm he hl _ _ _ hst (fun a' w' hs'=> ?_));obtain⟨B,hi,hv,_⟩:=hs';obtain⟨v,h1,h2⟩:=oL (p:=p) hv hr';rcases hor with rfl | rfl
      ·exact⟨hi.dfr,v,h1,v,rfl,h2.free hnp,hi.below.to⟩
      ·exact⟨hi.dfr,v,h1,v,rfl,h2.free hnp,hi.below.to⟩
     ·cases hr
    ·cases hr
   split at h
   ·cases h
   ·rename_i e s lo' obs' he hx;have hor:e= .nrm∨e= .ret:=by
     cases e with
     | nrm=>exact .inl rfl
     | ret=>exact .inr rfl
     | ext id=>exact(he id rfl).elim
    exact hret hx hor h
   ·cases h
  ·cases h
 ·cases h
def ml (p:Program) (C:List Inst) (L:List OIns) (fn:Func) (args:List SV) (vars:List (TypeId×List Leaf)) (fuel:Nat) (lo:Los):Option (AV×MS×List LOb):=
 if args.length≤fn.ntmps∧fn.ntmps≤100000 then
  match fn.body with
  | some c=>match cL p C L fn.ntmps fuel c ⟨fc args fn.ntmps,vars.map fun q=>(q.1,q.2.map some)⟩ lo with
   | some (.ext _,_,_,_)=>none
   | some (_,s,_,obs)=>(sd p s fn.results.toList).map fun r=>(r,s,obs)
   | none=>none
  | none=>none
 else none
theorem kW {E:Ent} {B:Blk} (hC:∀i∈C,i.Ok0 p ρ E) (hO:∀i∈L,i.OkE E p ρ) (hm:p.follows .mixedOrders=true) {f:FuncId} {fn:Func} (hf:p.funcs[f]? =some fn) {args:List SV} {vs:List Value} {vars:List (TypeId×List Leaf)} {fuel:Nat} {lo:Los} {r:AV} {s:MS} {obs:List LOb}
  (h:ml p C L fn args vars fuel lo=some (r,s,obs)) (hl:∀o∈obs,o.Ok p ρ E fn.ntmps) (hst:args.length≤fn.ntmps→MSt ρ E fn.ntmps ⟨fc args fn.ntmps,vars.map fun q=>(q.1,q.2.map some)⟩ {tmps:=vs.toArray++Array.replicate (fn.ntmps - vs.toArray.size) undef,defers:=[]} E.w):
  Calls p f vs.toArray E.w (fun e w'=>∃v B' a',e= .returned v∧r.holds ρ B' w' v∧Inv (cO s) E fn.ntmps B' a' w'∧(∀x c,bf s x=some c→bu ρ B' a' w' x c)):=by
 unfold ml at h;split at h
 ·rename_i hn;split at h
  ·rename_i c hb;have hst:=hst hn.1;have hret:∀ {s':MS} {e:Ex} {lo':Los} {obs':List LOb},cL p C L fn.ntmps fuel c ⟨fc args fn.ntmps,vars.map fun q=>(q.1,q.2.map some)⟩ lo=some (e,s',lo',obs')→e= .nrm∨e= .ret→(sd p s' fn.results.toList).map (fun r=>(r,s',obs'))=some (r,s,obs)→
     Calls p f vs.toArray E.w (fun e w'=>∃v B' a',e= .returned v∧r.holds ρ B' w' v∧Inv (cO s) E fn.ntmps B' a' w'∧(∀x c,bf s x=some c→bu ρ B' a' w' x c)):=by
    intro s' e lo' obs' he hor hr
    cases hr':sd p s' fn.results.toList with
    | none=>rw[hr']at hr;cases hr
    | some r'=>
     rw[hr']at hr;simp only[Option.map_some,Option.some.injEq,Prod.mk.injEq]at hr;obtain⟨rfl,rfl,rfl⟩:=hr;refine calls_of_wp hf hb (bD hC hO hm he hl _ _ _ hst (fun a' w' hs'=> ?_));obtain⟨B,hi,hv,_⟩:=hs';obtain⟨v,h1,h2⟩:=oL (p:=p) hv hr';rcases hor with rfl | rfl
     ·exact⟨hi.dfr,v,h1,v,B,a',rfl,h2,hi,hv⟩
     ·exact⟨hi.dfr,v,h1,v,B,a',rfl,h2,hi,hv⟩
   split at h
   ·cases h
   ·rename_i e s' lo' obs' he hx;have hor:e= .nrm∨e= .ret:=by
     cases e with
     | nrm=>exact .inl rfl
     | ret=>exact .inr rfl
     | ext id=>exact(he id rfl).elim
    exact hret hx hor h
   ·cases h
  ·cases h
 ·cases h
theorem Inv.var {s:MS} {B:Blk} {a:Act} {nt x:Nat} {E:Ent} {t:TypeId} {ls:List Leaf} (hi:Inv (cO s) E nt B a w) (hv:∀x c,bf s x=some c→bu ρ B a w x c) (h:s.vars[x]? =some (t,ls.map some)) (h0:0<ls.length) (hl:ls.length≤100000):ol ρ B w (x,t,ls):=by
 have cell:∀(k:Nat) (l:Leaf),ls[k]? =some l→∃g cs ty u,B.v x=some g∧w.heap[g]? =some (.cells cs ty (0,0))∧cs[k]? =some u∧l.holds ρ B w u:=fun k l hk=>by
  have hkl:=(List.getElem?_eq_some_iff.1 hk).1;have h5:=hv (kL x k) (.v (.one l)) (by
   unfold bf kL;rw[if_neg (by omega),show((x+1)*100000+k) / 100000 - 1=x from by omega,show((x+1)*100000+k) % 100000=k from by omega,h];simp[hk])
  rw[gi (by omega)]at h5;exact h5
 obtain⟨g,_,_,_,hb,_⟩:=cell 0 _ (List.getElem?_eq_getElem h0);obtain⟨h1,cs,ty,h2,h3,h4⟩:=hi.blk x g hb;have e:(cO s)[x]? =some (t,ls.length):=by unfold cO;rw[List.getElem?_map,h];simp
 rw[e]at h2;simp only[Option.some.injEq,Prod.mk.injEq]at h2;obtain⟨rfl,hlen⟩:=h2;refine⟨g,cs,hb,h3,aC.mk (by simpa using hlen.symm) (fun k l v hk hvk=> ?_),h4⟩;obtain⟨g',cs',ty',u,k1,k2,k3,k4⟩:=cell k l hk;rw[hb]at k1;injection k1 with k1;subst k1;rw[h3]at k2;injection k2 with k2;injection k2 with k2 _;subst k2;rw[←Array.getElem?_toList,hvk]at k3;injection k3 with k3;subst k3;exact k4
theorem aT {w0:Ent} {nt:Nat}:∀o∈([]:List LOb),o.Ok p ρ w0 nt:=fun o h=>by cases h
theorem nL {w0:Ent} {nt:Nat} {o:LOb} {l:List LOb} (h:o.Ok p ρ w0 nt) (r:∀o∈l,o.Ok p ρ w0 nt):∀j∈o::l,j.Ok p ρ w0 nt:=fun j hj=>by
 rcases List.mem_cons.1 hj with rfl | hj
 ·exact h
 ·exact r j hj
theorem cZ {ρ':Rho}:jE ρ ρ' []:=fun q h=>by cases h
theorem cg {ρ':Rho} {q:Nat×Leaf} {σ:List (Nat×Leaf)} (h:ya ρ ρ' q) (r:jE ρ ρ' σ):jE ρ ρ' (q::σ):=fun j hj=>by
 rcases List.mem_cons.1 hj with rfl | hj
 ·exact h
 ·exact r j hj
theorem sg_val {ρ':Rho} {n:Nat} {l:Leaf} {u:Value} (h2:ρ'[n]? =some (.val u)) (ho:l.noPtr=true) (hl:∀B w v,l.holds ρ B w v→v=u∧dU v):ya ρ ρ' (n,l):=fun B _ w v _ h=>by
 cases l with
 | own k m=>simp[Leaf.noPtr]at ho
 | _=>exact⟨_,h2,hl B w v h,fun _ h=>h.elim⟩
end
end Go.Proofs.YtggfmklppkioeaaGreat
namespace Go.Proofs.YtggfmklppkioeaaGreat
set_option linter.unusedSimpArgs false
set_option linter.unusedVariables false
set_option maxRecDepth 100000
open Go.RowKit
abbrev jy (f:FuncId):Prop:=∀(vs:Array Value) (w:World),(callFunc f vs).run Tryz.prog w= .ok (.enter f vs) w
theorem ah {ρ:Rho} {w:Ent}:∀i∈([]:List Inst),i.Ok0 Tryz.prog ρ w:=fun i h=>by cases h
theorem ae {ρ:Rho} {w:Ent} {i:Inst} {l:List Inst} (h:i.Ok Tryz.prog ρ) (r:∀i∈l,i.Ok0 Tryz.prog ρ w):∀j∈i::l,j.Ok0 Tryz.prog ρ w:=fun j hj=>by
 rcases List.mem_cons.1 hj with rfl | hj
 ·exact h.to0 w
 ·exact r j hj
theorem ai {E:Ent} {ρ:Rho}:∀i∈([]:List OIns),i.OkE E Tryz.prog ρ:=fun i h=>by cases h
theorem af {E:Ent} {ρ:Rho} {i:OIns} {l:List OIns} (h:i.Ok Tryz.prog ρ) (r:∀i∈l,i.OkE E Tryz.prog ρ):∀j∈i::l,j.OkE E Tryz.prog ρ:=fun j hj=>by
 rcases List.mem_cons.1 hj with rfl | hj
 ·exact h.e
 ·exact r j hj
section
variable {ρ:Rho} {n m k:Nat} {u v c:Int} {b d:Bool} {l:Leaf} {t:TypeId} {B:Blk} {w:World} {ik:IntKind} {x:Value}
theorem aH:dU (.int .i64 u):=⟨fun _ h=>by(cases h),fun _ h=>by(cases h),fun _ h=>by(cases h)⟩
theorem bU:dU (.bool b):=⟨fun _ h=>by(cases h),fun _ h=>by(cases h),fun _ h=>by(cases h)⟩
theorem cT {s:ByteArray}:dU (.string s):=⟨fun _ h=>by(cases h),fun _ h=>by(cases h),fun _ h=>by(cases h)⟩
theorem aY (h:ik≠ .u32):dU (.int ik u):=⟨fun _ h=>by(cases h),fun _ h=>by(cases h),fun n e=>by injection e with e1 e2;exact h e1⟩
theorem oO {a:Option Addr} {L cp:Nat}:dU (.slice a L cp):=⟨fun _ h=>by(cases h),fun _ h=>by(cases h),fun _ h=>by(cases h)⟩
theorem ue {a:Option Addr}:dU (.pointer a):=⟨fun _ h=>by(cases h),fun _ h=>by(cases h),fun _ h=>by(cases h)⟩
theorem aO {v x:Value} (hn:ρ[n]? =some (.val v)) (h:(Leaf.ref n).holds ρ B w x):x=v:=by
 obtain⟨s,h1,h2⟩:=h;rw[hn]at h1;injection h1 with h1;subst h1;exact h2.1.1
theorem aB {v:Value} (hn:ρ[n]? =some (.val v)) (hf:dU v):(Leaf.ref n).holds ρ B w v:=⟨_,hn,⟨rfl,hf⟩,fun _ h=>h.elim⟩
theorem li (h:u=c):∀B w,(Leaf.i .i64 c).holds ρ B w (.int .i64 u):=fun _ _=>by subst h;rfl
theorem lb (h:b=d):∀B w,(Leaf.b d).holds ρ B w (.bool b):=fun _ _=>by subst h;rfl
theorem lr (hn:ρ[n]? =some (.val (.int .i64 u))):∀B w,(Leaf.ref n).holds ρ B w (.int .i64 u):=fun _ _=>aB hn aH
theorem lrb (hn:ρ[n]? =some (.val (.bool b))):∀B w,(Leaf.ref n).holds ρ B w (.bool b):=fun _ _=>aB hn bU
theorem ls {s:ByteArray} (hn:ρ[n]? =some (.val (.string s))):∀B w,(Leaf.ref n).holds ρ B w (.string s):=fun _ _=>aB hn cT
theorem leafB {s:Bool} {x:Value} (h:ρ[n]? =some (.val (.bool s))):(Leaf.ref n).holds ρ B w x↔x= .bool s:=
 ⟨aO h,fun e=>by subst e;exact aB h bU⟩
theorem iF {L N:Nat} {x:Value} (h:ρ[n]? =some (.dig L N)):(Leaf.ref n).holds ρ B w x↔IsR w (.agg #[x]) L N:=by
 constructor
 ·rintro⟨t,h1,h2,_⟩;rw[h]at h1;injection h1 with h1;subst h1;exact h2
 ·intro h2;exact⟨_,h,h2,fun _ h=>h.elim⟩
theorem sf (hn:ρ[n]? =some (.val (.int ik u))) (h:(u==c)=b):(OIns.mk (.bin .eql t) [.one (.ref n),.one (.i ik c)] (.one (.b b))).Ok Tryz.prog ρ:=fun B w vs hv=>by
 match vs,hv with
 | [v1,v2],hv=>
  have e:=aO (B:=B) hn hv.1;have e2:v2= .int ik c:=hv.2.1;subst e;subst e2;exact⟨.bool b,rfl,fun xo yo=>by simp[eqGuard,binOp,Op.intCmp,Sem.run_bind,Result.andThen,h]⟩
theorem wg (hn:ρ[n]? =some (.val (.int ik u))) (h:(u !=c)=b):(OIns.mk (.bin .neq t) [.one (.ref n),.one (.i ik c)] (.one (.b b))).Ok Tryz.prog ρ:=fun B w vs hv=>by
 match vs,hv with
 | [v1,v2],hv=>
  have e:=aO (B:=B) hn hv.1;have e2:v2= .int ik c:=hv.2.1;subst e;subst e2;exact⟨.bool b,rfl,fun xo yo=>by simp[eqGuard,binOp,Op.intCmp,Sem.run_bind,Result.andThen,h]⟩
theorem iG (hn:ρ[n]? =some (.val (.int .i64 u))) (h:(u==c)=b):(OIns.mk (.bin .eql t) [.one (.ref n),.one (.i .i64 c)] (.one (.b b))).Ok Tryz.prog ρ:=sf hn h
theorem gY (hn:ρ[n]? =some (.val (.int .i64 u))) (h:(u !=c)=b):(OIns.mk (.bin .neq t) [.one (.ref n),.one (.i .i64 c)] (.one (.b b))).Ok Tryz.prog ρ:=wg hn h
theorem bneq_f {u c:Int} (h:u=c):(u !=c)=false:=by simpa using h
theorem bneq_t {u c:Int} (h:u≠c):(u !=c)=true:=by simpa using h
theorem wh (ht:fH Tryz.prog t=true):Tryz.prog.underlying t=some .bool:=by
 unfold fH at ht;split at ht
 ·assumption
 ·cases ht
theorem uf (ht:fH Tryz.prog t=true) (b c:Bool):(Op.equal t (.bool b) (.bool c)).run Tryz.prog w= .ok (b==c) w:=by
 unfold Op.equal Op.maxDepth Op.equalIn;rw[Sem.run_bind,run_underlying (wh ht)];rfl
theorem o_beq {y:Leaf} {c:Bool} {z:Leaf} (ht:fH Tryz.prog t=true) (hx:∀B w x,l.holds ρ B w x→x= .bool b) (hy:∀B w x,y.holds ρ B w x→x= .bool c) (hz:∀B w,z.holds ρ B w (.bool (b==c))):(OIns.mk (.bin .eql t) [.one l,.one y] (.one z)).Ok Tryz.prog ρ:=fun B w vs hv=>by
 match vs,hv with
 | [v1,v2],hv=>
  have e1:=hx _ _ _ hv.1;have e2:=hy _ _ _ hv.2.1;subst e1;subst e2;exact⟨.bool (b==c),hz B w,fun xo yo=>by simp[eqGuard,binOp,Sem.run_bind,uf ht,Result.andThen]⟩
theorem o_bne {y:Leaf} {c:Bool} {z:Leaf} (ht:fH Tryz.prog t=true) (hx:∀B w x,l.holds ρ B w x→x= .bool b) (hy:∀B w x,y.holds ρ B w x→x= .bool c) (hz:∀B w,z.holds ρ B w (.bool (b !=c))):(OIns.mk (.bin .neq t) [.one l,.one y] (.one z)).Ok Tryz.prog ρ:=fun B w vs hv=>by
 match vs,hv with
 | [v1,v2],hv=>
  have e1:=hx _ _ _ hv.1;have e2:=hy _ _ _ hv.2.1;subst e1;subst e2;exact⟨.bool (b !=c),hz B w,fun xo yo=>by simp[eqGuard,binOp,Sem.run_bind,uf ht,Result.andThen];cases b<;>cases c<;>rfl⟩
theorem bl (b:Bool):∀B w x,(Leaf.b b).holds ρ B w x→x= .bool b:=fun _ _ _ h=>h
theorem br (hn:ρ[n]? =some (.val (.bool b))):∀B w x,(Leaf.ref n).holds ρ B w x→x= .bool b:=fun _ _ _ h=>aO hn h
end
def Vp.row (T:TypeId) (n:Nat) (qs:List Vp):Vp:=.of (fun w v=>(qs=[]∧n=0∧v= .slice none 0 0)∨∃b o c cs,v= .slice (some ⟨b,o,none⟩) n c∧n≤c∧w.heap[b]? =some (.cells cs T (0,0))∧∀j q,qs[j]? =some q→∃u,cs[o+j]? =some u∧q.p w u∧∀g,¬q.fp w u g)
 (fun v g=>∃o n c,v= .slice (some ⟨g,o,none⟩) n c)
 (fun w w' X v h k hX=>h.imp id fun⟨b,o,c,cs,e,hn,hb,hq⟩=>⟨b,o,c,cs,e,hn,by rw[k.blk b (Array.getElem?_eq_some_iff.1 hb).1 (hX b ⟨o,n,c,e⟩)];exact hb,fun j q hj=>by
  obtain⟨u,h1,h2,h3⟩:=hq j q hj;obtain⟨c1,c2⟩:=q.ch w w' X u h2 k (fun g hg=>absurd hg (h3 g));exact⟨u,h1,c1,fun g hg=>h3 g (c2 g hg)⟩⟩)
 (fun w v g h ⟨o',n',c',e'⟩=>by
  rcases h with⟨_,_,e⟩ | ⟨b,o,c,cs,e,_,hb,_⟩
  ·rw[e]at e';cases e'
  ·rw[e]at e';injection e' with e1 _ _;injection e1 with e1;injection e1 with e1 _ _;subst e1;exact(Array.getElem?_eq_some_iff.1 hb).1)
 (fun w v h=>by
  rcases h with⟨_,_,e⟩ | ⟨b,o,c,cs,e,_⟩<;>subst e<;>exact oO)
def Vp.plc (T:TypeId) (qs:List Vp):Vp:=.of (fun w v=>∃b o cs,v= .pointer (some ⟨b,o,none⟩)∧w.heap[b]? =some (.cells cs T (0,0))∧∀j q,qs[j]? =some q→∃u,cs[o+j]? =some u∧q.p w u∧∀g,¬q.fp w u g)
 (fun v g=>∃o,v= .pointer (some ⟨g,o,none⟩))
 (fun w w' X v ⟨b,o,cs,e,hb,hq⟩ k hX=>⟨b,o,cs,e,by rw[k.blk b (Array.getElem?_eq_some_iff.1 hb).1 (hX b ⟨o,e⟩)];exact hb,fun j q hj=>by
  obtain⟨u,h1,h2,h3⟩:=hq j q hj;obtain⟨c1,c2⟩:=q.ch w w' X u h2 k (fun g hg=>absurd hg (h3 g));exact⟨u,h1,c1,fun g hg=>h3 g (c2 g hg)⟩⟩)
 (fun w v g ⟨b,o,cs,e,hb,_⟩ ⟨o',e'⟩=>by
  rw[e]at e';injection e' with e1;injection e1 with e1;injection e1 with e1 _ _;subst e1;exact(Array.getElem?_eq_some_iff.1 hb).1)
 (fun w v ⟨b,o,cs,e,_⟩=>by subst e;exact ue)
section
variable {ρ:Rho} {n m k L:Nat} {t T e:TypeId} {B:Blk} {w:World} {qs:List Vp} {u:Int}
theorem kX {v:Value} (h:(Vp.row T L qs).p w v):∃a c,v= .slice a L c:=by
 rcases h with⟨_,rfl,e⟩ | ⟨b,o,c,cs,e,_⟩
 ·exact⟨_,_,e⟩
 ·exact⟨_,_,e⟩
theorem wi (ht:∃e,Tryz.prog.underlying t=some (.slice e)) (hn:ρ[n]? =some (.row T L qs)) {l:Leaf} (hl:∀B w,l.holds ρ B w (.int .i64 (L:Int))):(OIns.mk (.len t) [.one (.ref n)] (.one l)).Ok Tryz.prog ρ:=fun B w vs hv=>by
 match vs,hv with
 | [v1],hv=>
  obtain⟨s,h1,h2,_⟩:=hv.1;rw[hn]at h1;injection h1 with h1;subst h1;obtain⟨a,c,rfl⟩:=kX h2;obtain⟨e,he⟩:=ht;refine⟨.int .i64 (L:Int),hl B w,fun ts ty h0=> ?_⟩;simp[Builtin.len_,h0,Sem.run_bind,run_underlying he,Result.andThen,goInt]
theorem kY {l:Leaf} {sz:Nat} {qs':List Vp} (ht:Tryz.prog.underlying t=some (.slice e)) (hz:szB Tryz.prog e=some sz) (hn:ρ[n]? =some (.row T L qs)) (hm:ρ[m]? =some (.plc T qs')) (hl:∀B w x,l.holds ρ B w x→x= .int .i64 (k:Int)) (hk:k<L) (hq0:qs≠ [])
  (hq:∀(j:Nat) (q:Vp),qs'[j]? =some q→qs[k*sz+j]? =some q):(OIns.mk (.ia t) [.one (.ref n),.one l] (.one (.ref m))).Ok Tryz.prog ρ:=fun B w vs hv=>by
 match vs,hv with
 | [v1,v2],hv=>
  obtain⟨s,h1,h2,h3⟩:=hv.1;rw[hn]at h1;injection h1 with h1;subst h1;have e2:=hl _ _ _ hv.2.1;subst e2;rcases h2 with⟨h,_⟩ | ⟨b,o,c,cs,rfl,hc,hb,h4⟩
  ·exact absurd h hq0
  ·refine⟨.pointer (some ⟨b,o+k*sz,none⟩),⟨_,hm,⟨b,o+k*sz,cs,rfl,hb,fun j q hj=> ?_⟩,fun g ⟨o',e'⟩=> ?_⟩,?_⟩
   ·obtain⟨u,k1,k2⟩:=h4 _ q (hq j q hj);exact⟨u,by rw[Nat.add_assoc];exact k1,k2⟩
   ·injection e' with e1;injection e1 with e1;injection e1 with e1 _ _;subst e1;exact h3 _ ⟨_,_,_,rfl⟩
   ·simp[Instr.indexAt,asIntOf,Sem.run_bind,run_underlying ht,bm hz,Result.andThen,hk,dr]
def fldB (p:Program) (t:TypeId) (f:Nat):Option (Nat×Nat):=match p.underlying t with
 | some (.struct fs)=>match fs[f]? with
  | some fd=>(szB p fd.type).map fun n=>(fd.offset,n)
  | none=>none
 | _=>none
theorem o_fa {f off sz:Nat} {qs':List Vp} (ht:fldB Tryz.prog t f=some (off,sz+1)) (hn:ρ[n]? =some (.plc T qs)) (hm:ρ[m]? =some (.plc T qs')) (hq:∀(j:Nat) (q:Vp),qs'[j]? =some q→qs[off+j]? =some q):(OIns.mk (.fa t f) [.one (.ref n)] (.one (.ref m))).Ok Tryz.prog ρ:=fun B w vs hv=>by
 match vs,hv with
 | [v1],hv=>
  obtain⟨s,h1,h2,h3⟩:=hv.1;rw[hn]at h1;injection h1 with h1;subst h1;obtain⟨b,o,cs,rfl,hb,h4⟩:=h2;unfold fldB at ht;split at ht
  ·rename_i fs hu;split at ht
   ·rename_i fd hf
    cases hz:szB Tryz.prog fd.type with
    | none=>rw[hz]at ht;cases ht
    | some k=>
     rw[hz]at ht;simp only[Option.map_some,Option.some.injEq,Prod.mk.injEq]at ht;obtain⟨rfl,rfl⟩:=ht;refine⟨.pointer (some ⟨b,o+fd.offset,none⟩),⟨_,hm,⟨b,o+fd.offset,cs,rfl,hb,fun j q hj=> ?_⟩,fun g ⟨o',e'⟩=> ?_⟩,?_⟩
     ·obtain⟨u,k1,k2⟩:=h4 _ q (hq j q hj);exact⟨u,by rw[Nat.add_assoc];exact k1,k2⟩
     ·injection e' with e1;injection e1 with e1;injection e1 with e1 _ _;subst e1;exact h3 _ ⟨_,rfl⟩
     ·simp[Instr.fieldAt,Instr.sureAddr,fieldPlace,Sem.run_bind,run_underlying hu,hf,bm hz,Result.andThen,dr]
   ·cases ht
  ·cases ht
theorem o_ldP {q:Vp} {l:Leaf} (ht:zi Tryz.prog t=some false) (hn:ρ[n]? =some (.plc T (q::qs))) (hl:∀B w x,q.p w x→(∀g,¬q.fp w x g)→l.holds ρ B w x):(OIns.mk (.ld t) [.one (.ref n)] (.one l)).Ok Tryz.prog ρ:=fun B w vs hv=>by
 match vs,hv with
 | [v1],hv=>
  obtain⟨s,h1,h2,_⟩:=hv.1;rw[hn]at h1;injection h1 with h1;subst h1;obtain⟨b,o,cs,rfl,hb,h4⟩:=h2;obtain⟨u,k1,k2,k3⟩:=h4 0 q rfl;refine⟨u,hl B w u k2 k3,?_⟩;have:=mg (p:=Tryz.prog) (w:=w) (ad:=⟨b,o,none⟩) (v:=u) (by rw[aA hb];exact k1);simp[Instr.loadAt,Instr.sureAddr,loadVar,Sem.run_bind,ja ht,this,Result.andThen]
theorem lq {q:Vp} (h:ρ[m]? =some q):∀B w x,q.p w x→(∀g,¬q.fp w x g)→(Leaf.ref m).holds ρ B w x:=fun _ _ _ h1 h2=>⟨q,h,h1,fun g hg=>absurd hg (h2 g)⟩
def LQ (ρ:Rho):List Leaf→List Vp→Prop
 | [],_=>True
 | l::ls,q::qs=>(∀B w x,q.p w x→(∀g,¬q.fp w x g)→l.holds ρ B w x)∧LQ ρ ls qs
 | _::_,[]=>False
def QL (ρ:Rho):List Leaf→List Vp→Prop
 | [],[]=>True
 | l::ls,q::qs=>(∀B w x,l.holds ρ B w x→q.p w x∧∀g,¬q.fp w x g)∧QL ρ ls qs
 | _,_=>False
theorem dk {u:Value} (h:ρ[m]? =some (.val u)):∀B w x,(Leaf.ref m).holds ρ B w x→(Vp.val u).p w x∧∀g,¬(Vp.val u).fp w x g:=fun _ _ _ ⟨q,h1,h2,_⟩=>by
 rw[h]at h1;injection h1 with h1;subst h1;exact⟨h2,fun _ h=>h⟩
theorem bG {L N:Nat} (h:ρ[m]? =some (.dig L N)):∀B w x,(Leaf.ref m).holds ρ B w x→(Vp.dig L N).p w x∧∀g,¬(Vp.dig L N).fp w x g:=fun _ _ _ ⟨q,h1,h2,_⟩=>by
 rw[h]at h1;injection h1 with h1;subst h1;exact⟨h2,fun _ h=>h⟩
theorem LQ.holds:∀ {ls:List Leaf} {qs:List Vp} {cs:Array Value} {o:Nat},LQ ρ ls qs→(∀(j:Nat) (q:Vp),qs[j]? =some q→∃u,cs[o+j]? =some u∧q.p w u∧∀g,¬q.fp w u g)→
  ∃vs:List Value,aC ρ B w ls vs∧∀(j:Nat) (v:Value),vs[j]? =some v→cs[o+j]? =some v
 | [],_,_,_,_,_=>⟨[],trivial,fun _ _ h=>by simp at h⟩
 | l::ls,q::qs,cs,o,h,hq=>by
  obtain⟨u,k1,k2,k3⟩:=hq 0 q rfl;obtain⟨vs,e1,e2⟩:=LQ.holds (ls:=ls) (qs:=qs) (cs:=cs) (o:=o+1) h.2 (fun j q hj=>by
   obtain⟨u,k1,k2⟩:=hq (j+1) q (by simpa using hj);exact⟨u,by rw[show o+1+j=o+(j+1)from by omega];exact k1,k2⟩)
  refine⟨u::vs,⟨h.1 B w u k2 k3,e1⟩,fun j v hj=> ?_⟩
  match j with
  | 0=>simp at hj;subst hj;exact k1
  | j+1=>have:=e2 j v (by simpa using hj);rwa [show o+1+j=o+(j+1)from by omega]at this
 | _::_,[],_,_,h,_=>h.elim
theorem QL.get:∀ {ls:List Leaf} {qs:List Vp} {vs:List Value} {j:Nat} {q:Vp},QL ρ ls qs→aC ρ B w ls vs→qs[j]? =some q→∃u,vs[j]? =some u∧q.p w u∧∀g,¬q.fp w u g
 | [],[],_,_,_,_,_,h=>by simp at h
 | _::_,_::_,v::_,0,_,h,hl,hq=>by simp at hq;subst hq;exact⟨v,rfl,h.1 B w v hl.1⟩
 | _::ls,_::qs,_::vs,j+1,q,h,hl,hq=>by
  obtain⟨u,k1,k2⟩:=QL.get (ls:=ls) (qs:=qs) (vs:=vs) (j:=j) h.2 hl.2 (by simpa using hq);exact⟨u,by simpa using k1,k2⟩
 | _::_,_::_,[],_,_,_,hl,_=>hl.elim
 | [],_::_,_,_,_,h,_,_=>h.elim
 | _::_,[],_,_,_,h,_,_=>h.elim
theorem fe {ls:List Leaf} (ht:zi Tryz.prog t=some true) (hz:szB Tryz.prog t=some ls.length) (hn:ρ[n]? =some (.plc T qs)) (hl:LQ ρ ls qs):(OIns.mk (.ld t) [.one (.ref n)] (.agg ls)).Ok Tryz.prog ρ:=fun B w vs hv=>by
 match vs,hv with
 | [v1],hv=>
  obtain⟨s,h1,h2,_⟩:=hv.1;rw[hn]at h1;injection h1 with h1;subst h1;obtain⟨b,o,cs,rfl,hb,h4⟩:=h2;obtain⟨us,e1,e2⟩:=hl.holds (B:=B) h4;refine⟨.agg us.toArray,⟨us,rfl,e1⟩,?_⟩;have:=gJ (p:=Tryz.prog) (o:=o) hb us 0 #[] (fun k u hu=>by rw[Nat.zero_add];exact e2 k u hu);rw[e1.len]at this;simp[Instr.loadAt,Instr.sureAddr,loadVar,loadCells,Sem.run_bind,ja ht,bm hz,this,Result.andThen]
def zrep (z:List Leaf) (n:Nat):List Leaf:=(List.range n).map fun i=>z.getD (i % z.length) .sl0
theorem gM {ss:List SV} {ix:List Nat} {z ls:List Leaf} {sz N:Nat} (ht:Tryz.prog.underlying t=some (.slice e)) (hz:szB Tryz.prog e=some sz) (hzl:tN Tryz.prog e=some z) (hle:N*sz≤2^24) (hpos:N*sz≠0) (hz0:z.length≠0) (hix:ix.length=ss.length)
  (hf:kN (fun i=>some (i*sz,sz)) (zrep z (N*sz)) (ix.zip ss)=some ls) (hq:QL ρ ls qs) (hm:ρ[m]? =some (.row e N qs)):(OIns.mk (.bs t N ix) ss (.one (.ref m))).Ok Tryz.prog ρ:=fun B w vs hv hB=>by
 obtain⟨zv,hz1,hz2⟩:=fI (p:=Tryz.prog) (ρ:=ρ) (B:=B) (w:=w) hzl;have hlen:vs.length=ss.length:=hv.len;have hzlen:zv.cells.size=z.length:=by have:=hz2.len;simpa using this
 have h0:aC ρ B w (zrep z (N*sz)) ((Array.range (N*sz)).map (zv.cells[· % zv.cells.size]!)).toList:=by
  refine aC.mk (by simp[zrep]) (fun k l v h1 h2=> ?_);have hk:k<N*sz:=by have:=(List.getElem?_eq_some_iff.1 h1).1;simpa [zrep]using this
  have hk2:k % z.length<z.length:=Nat.mod_lt _ (by omega);simp only[zrep,List.getElem?_map,List.getElem?_range hk,Option.map_some,Option.some.injEq]at h1;obtain⟨v',h3,h4⟩:=hz2.get (List.getElem?_eq_getElem hk2);rw[List.getD_eq_getElem?_getD,List.getElem?_eq_getElem hk2,Option.getD_some]at h1;subst h1;have h5:v=v':=by
   simp only[Array.toList_map,List.getElem?_map,Array.toList_range,List.getElem?_range hk,Option.map_some,Option.some.injEq,hzlen]at h2;rw[Array.getElem?_toList]at h3;rw[←h2];have hk3:k % z.length<zv.cells.size:=by omega
   rw[getElem!_pos zv.cells _ hk3];rw[Array.getElem?_eq_getElem hk3]at h3;exact Option.some.inj h3
  subst h5;exact h4
 have hzip1:(ix.zip vs).map (·.1)=(ix.zip ss).map (·.1):=by rw[List.map_fst_zip (by omega),List.map_fst_zip (by omega)]
 have hzip2:bW ρ B w ((ix.zip ss).map (·.2)) ((ix.zip vs).map (·.2)):=by rw[List.map_snd_zip (by omega),List.map_snd_zip (by omega)];exact hv
 obtain⟨out,ho1,ho2⟩:=gK hf hzip1 hzip2 h0;refine⟨.slice (some ⟨w.heap.size,0,none⟩) N N,w.alloc (.cells out e),⟨_,hm,.inr ⟨w.heap.size,0,N,out,rfl,Nat.le_refl _,heap_alloc_new w _,fun j q hj=> ?_⟩,fun g ⟨o',n',c',e'⟩ hx=> ?_⟩,?_,r7 w _⟩
 ·obtain⟨u,k1,k2,k3⟩:=hq.get ho2 hj;obtain⟨c1,c2⟩:=q.ch _ _ _ _ k2 (.below (r7 w (.cells out e))) (fun _ _ h=>h);exact⟨u,by rw[Nat.zero_add,←Array.getElem?_toList];exact k1,c1,fun g hg=>k3 g (c2 g hg)⟩
 ·injection e' with e1;injection e1 with e1;injection e1 with e1 _ _;subst e1;have:=hB _ hx;omega
 ·unfold Instr.buildSlice;simp only[Sem.run_bind,run_underlying ht,bm hz,Result.andThen];rw[if_neg (by omega),if_neg hpos];simp only[Sem.run_bind,hz1,Result.andThen,Sem.run_pure,List.toList_toArray];rw[ho1];rfl
end
end Go.Proofs.YtggfmklppkioeaaGreat
namespace Go.Proofs
open Go.Shelf Go.RowKit Go.Lib
variable {P:Program} {ρ:Ren}
end Go.Proofs
namespace Go.Proofs.YtggfmklppkioeaaGreat
set_option linter.unusedSimpArgs false
set_option linter.unusedVariables false
set_option maxRecDepth 100000
open Go.RowKit
def Vp.strs (l:List ByteArray):Vp:=.row strT l.length (l.map fun s=>.val (.string s))
section
variable {ρ:Rho} {xs:List Fq} {ys:Rho} {n m k:Nat} {u v c:Int} {b:Bool} {s z:ByteArray} {t:TypeId} {B:Blk} {w:World} {l:List ByteArray} {ik:IntKind} {x:Value}
def oP (p:Program) (t:TypeId):Bool:=match p.underlying t with | some .string=>true | _=>false
theorem si (ht:oP Tryz.prog t=true) {s z:ByteArray} (h:((s.size+z.size:Nat):Int)≤9223372036854775807) (xo yo:Operand):((do eqGuard .add t xo yo (.string s) (.string z);binOp .add t (.string s) (.string z):Sem Value)).run Tryz.prog w= .ok (.string (s++z)) w:=by
 have h1:¬((s.size+z.size:Nat):Int)>IntKind.i64.max:=by
  have:IntKind.i64.max=9223372036854775807:=by decide
  omega
 simp only[eqGuard,binOp,Op.stringOp,Sem.run_bind,Result.andThen];rw[if_neg h1];rfl
theorem kZ (ht:oP Tryz.prog t=true) (hn:ρ[n]? =some (.val (.string z))) (hm:ρ[m]? =some (.val (.string (s++z)))) (h:((s.size+z.size:Nat):Int)≤9223372036854775807):(OIns.mk (.bin .add t) [.one (.s s),.one (.ref n)] (.one (.ref m))).Ok Tryz.prog ρ:=fun B w vs hv=>by
 match vs,hv with
 | [v1,v2],hv=>
  have e:v1= .string s:=hv.1;have e2:=aO (B:=B) hn hv.2.1;subst e;subst e2;exact⟨_,aB (B:=B) hm cT,fun xo yo=>si ht h xo yo⟩
theorem sj (ht:oP Tryz.prog t=true) (hn:ρ[n]? =some (.val (.string s))) (hm:ρ[m]? =some (.val (.string (s++z)))) (h:((s.size+z.size:Nat):Int)≤9223372036854775807):(OIns.mk (.bin .add t) [.one (.ref n),.one (.s z)] (.one (.ref m))).Ok Tryz.prog ρ:=fun B w vs hv=>by
 match vs,hv with
 | [v1,v2],hv=>
  have e:=aO (B:=B) hn hv.1;have e2:v2= .string z:=hv.2.1;subst e;subst e2;exact⟨_,aB (B:=B) hm cT,fun xo yo=>si ht h xo yo⟩
theorem nM (ht:oP Tryz.prog t=true) (hn:ρ[n]? =some (.val (.string s))) (hk:ρ[k]? =some (.val (.string z))) (hm:ρ[m]? =some (.val (.string (s++z)))) (h:((s.size+z.size:Nat):Int)≤9223372036854775807):(OIns.mk (.bin .add t) [.one (.ref n),.one (.ref k)] (.one (.ref m))).Ok Tryz.prog ρ:=fun B w vs hv=>by
 match vs,hv with
 | [v1,v2],hv=>
  have e:=aO (B:=B) hn hv.1;have e2:=aO (B:=B) hk hv.2.1;subst e;subst e2;exact⟨_,aB (B:=B) hm cT,fun xo yo=>si ht h xo yo⟩
end
end Go.Proofs.YtggfmklppkioeaaGreat
namespace Go.Proofs.YtggfmklppkioeaaGreat
set_option linter.unusedSimpArgs false
set_option linter.unusedVariables false
set_option maxRecDepth 100000
open Go.RowKit
theorem wrap_mag (v:Int) (h1: -9223372036854775808≤v) (hv:v<0):IntKind.u64.wrap (-IntKind.u64.wrap v)=((v.natAbs:Nat):Int):=by
 simp only[IntKind.wrap,IntKind.signed,IntKind.bits,Bool.false_and,Bool.false_eq_true,if_false];omega
theorem c_mag (v:Int) (w:World) (h1: -9223372036854775808≤v) (h2:v<9223372036854775808):
  Calls Tryz.prog 141 #[.int .i64 v] w fun e w'=>RetN w v.natAbs e w':=by
 obtain⟨m0,k0⟩:=resN (w:=w);have c0:=k0.cell;have f0:=k0.frozen;have fin:∀e w9,gF (w.alloc (.cells #[.slice none 0 0] 31)) v.natAbs e w9→∃a c,e= .returned (.agg #[.slice a (nl v.natAbs) c])∧IsN w9 (.agg #[.slice a (nl v.natAbs) c]) v.natAbs∧bd w9 w.heap.size none 0 0∧Below w.heap.size w w9:=by
  rintro e w9 ⟨x,rfl,nx,hb⟩;have nx:=nx.isN;obtain⟨a,c,rfl⟩:=nx.shape;exact⟨a,c,rfl,nx,k0.mono hb k0.lt,m0.trans (hb.mono m0.size)⟩
 go_enter Tryz.func141,Tryz.ntmps141
 by_cases hv:v<0
 ·have e0:=wrap_mag v h1 hv;have E0:=Lib.hid e0;clear e0;go_wp2_with fail
  rw[E0.out];refine(eH v.natAbs _ (by omega)).mono ?_;rintro e w9 h9;obtain⟨a,c,rfl,nx,k9,hb⟩:=fin e w9 h9;have c9:=k9.cell;have f9:=k9.frozen;clear c0 f0 fin h9;go_wp2;exact bodyPost_ret (res_N rfl rfl k9.set) rfl ⟨_,rfl,nx.setVar k9,hb.setCell (p:=⟨w.heap.size,0,none⟩) (Nat.le_refl _) _⟩
 ·obtain⟨n,hn⟩:∃n:Nat,Hid (v=(n:Int)):=⟨v.natAbs,Lib.hid (by omega)⟩;have hnn:Hid (v.natAbs=n):=Lib.hid (by have:=hn.out;omega);go_wp2_with fail
  rw[show v=((v.natAbs:Nat):Int)from by omega];refine(eH v.natAbs _ (by omega)).mono ?_;rintro e w9 h9;obtain⟨a,c,rfl,nx,k9,hb⟩:=fin e w9 h9;have c9:=k9.cell;have f9:=k9.frozen;clear c0 f0 fin h9;go_wp2;exact bodyPost_ret (res_N rfl rfl k9.set) rfl ⟨_,rfl,nx.setVar k9,hb.setCell (p:=⟨w.heap.size,0,none⟩) (Nat.le_refl _) _⟩
end Go.Proofs.YtggfmklppkioeaaGreat
namespace Go.Proofs.YtggfmklppkioeaaGreat
set_option linter.unusedSimpArgs false
set_option linter.unusedVariables false
set_option maxRecDepth 100000
open Go.RowKit
def jR (w:World) (g:Nat) (a b:Bool):Prop:=w.heap[g]? =some (.cells #[.bool a,.bool b] 258 (0,0))
theorem jR.lt {w:World} {g:Nat} {a b:Bool} (h:jR w g a b):g<w.heap.size:=(Array.getElem?_eq_some_iff.1 h).1
theorem jR.mono {w w':World} {g B:Nat} {a b:Bool} (h:jR w g a b) (hb:Below B w w') (hB:g<B):jR w' g a b:=(hb.block g hB).trans h
theorem jR.cell1 {w:World} {g:Nat} {a b:Bool} (h:jR w g a b):w.cell? ⟨g,1,none⟩=some (.bool b):=by rw[cell_of_row w g 1 _ _ (0,0) h];rfl
theorem jR.own {w:World} {g:Nat} {a b:Bool} (h:jR w g a b):Own w g:=⟨_,_,h,fun k n=>by
 match k with
 | 0=>intro h;cases h
 | 1=>intro h;cases h
 | k+2=>intro h;simp at h⟩
theorem jR.upd {w w':World} {g g':Nat} {a b:Bool} (h:jR w g' a b) (_:Own w g) (u:Upd w g w') (hn:g'≠g):jR w' g' a b:=(u.block g' hn).trans h
theorem jR.any {w:World} {g:Nat} {a b:Bool} (h:jR w g a b):∃a b,jR w g a b:=⟨_,_,h⟩
section
variable {Q:Exit→Act→World→Prop} {md:Region.Mode} {ops:Array Oper} {o:Oper} {a:Act} {w:World} {j fuel:Nat} {listed:Array Bool} {x y:Operand} {g:Nat} {s t:Bool}
end
theorem run_eqSS (a b c d:Bool) (w:World):(binOp BinOp.eql 258 (.agg #[.bool a,.bool b]) (.agg #[.bool c,.bool d])).run Tryz.prog w= .ok (.bool (a==c && b==d)) w:=by
 cases a<;>cases b<;>cases c<;>cases d<;>go_simp
theorem run_neSS (a b c d:Bool) (w:World):(binOp BinOp.neq 258 (.agg #[.bool a,.bool b]) (.agg #[.bool c,.bool d])).run Tryz.prog w= .ok (.bool (!(a==c && b==d))) w:=by
 cases a<;>cases b<;>cases c<;>cases d<;>go_simp
theorem wj {x y:Operand} (a b c d:Bool) (w:World):(eqGuard BinOp.eql 258 x y (.agg #[.bool a,.bool b]) (.agg #[.bool c,.bool d])).run Tryz.prog w= .ok () w:=by go_simp
theorem wk {x y:Operand} (a b c d:Bool) (w:World):(eqGuard BinOp.neq 258 x y (.agg #[.bool a,.bool b]) (.agg #[.bool c,.bool d])).run Tryz.prog w= .ok () w:=by go_simp
end Go.Proofs.YtggfmklppkioeaaGreat
namespace Go.Proofs.YtggfmklppkioeaaGreat
set_option linter.unusedSimpArgs false
set_option linter.unusedVariables false
set_option maxRecDepth 100000
open Go.RowKit
def Fq.ofInt (v:Int):Fq:=⟨decide (v<0),v.natAbs,1⟩
def Fq.ratio (v u:Int):Fq:=.low (decide (v<0) !=decide (u<0)) v.natAbs u.natAbs
def Fq.lerp (x y t:Fq):Fq:=x.add (t.mul (y.sub x))
theorem oQ {v:Int} (lv: -9223372036854775808≤v) (rv:v<9223372036854775808):nl v.natAbs≤2:=aR.2 (by show v.natAbs<18446744073709551616;omega)
theorem Fq.ok.lerp {x y t:Fq} (h:x.ok 100000000) (k:y.ok 100000000) (l:t.ok 100000000):(x.lerp y t).ok 10000000000:=(h.add (l.mul (k.sub h))).mono (by decide)
end Go.Proofs.YtggfmklppkioeaaGreat
namespace Go.Proofs.YtggfmklppkioeaaGreat
set_option linter.unusedSimpArgs false
set_option linter.unusedVariables false
set_option maxRecDepth 100000
open Go.RowKit
def ug (w:World) (v:Value) (s:Bool) (L p N q:Nat):Prop:=∃a c b d,v= .agg #[.bool s,.slice a L c,.slice b N d]∧IsR w (.agg #[.slice a L c]) L p∧IsR w (.agg #[.slice b N d]) N q
theorem ug.mono {w w':World} {v:Value} {s:Bool} {L p N q:Nat} (h:ug w v s L p N q) (hb:Below w.heap.size w w'):ug w' v s L p N q:=by
 obtain⟨a,c,b,d,rfl,h1,h2⟩:=h;exact⟨a,c,b,d,rfl,h1.mono hb,h2.mono hb⟩
theorem ug.isQ {w:World} {v:Value} {s:Bool} {L p N q:Nat} (h:ug w v s L p N q) (hL:nl p=L) (hN:nl q=N):IsQ w v ⟨s,p,q⟩:=by
 subst hL;subst hN;exact h
def mW (w:World) (g:Nat) (s:Bool) (L p N q:Nat):Prop:=∃a c b d,bF w g s a L c b N d∧IsR w (.agg #[.slice a L c]) L p∧IsR w (.agg #[.slice b N d]) N q
theorem mW.lt {w:World} {g L p N q:Nat} {s:Bool} (h:mW w g s L p N q):g<w.heap.size:=by obtain⟨_,_,_,_,h,_⟩:=h;exact h.lt
theorem mW.mono {w w':World} {g L p N q:Nat} {s:Bool} (h:mW w g s L p N q) (hb:Below w.heap.size w w'):mW w' g s L p N q:=by
 obtain⟨a,c,b,d,h0,h1,h2⟩:=h;exact⟨a,c,b,d,h0.mono hb h0.lt,h1.mono hb,h2.mono hb⟩
theorem mW.upd {w w':World} {g g' L p N q:Nat} {s:Bool} (h:mW w g' s L p N q) (o:Own w g) (u:Upd w g w') (hn:g'≠g):mW w' g' s L p N q:=by
 obtain⟨x,cx,y,cy,h0,h1,h2⟩:=h;exact⟨x,cx,y,cy,h0.upd o u hn,h1.upd o u,h2.upd o u⟩
section
variable {Q:Exit→Act→World→Prop} {o:Oper} {a:Act} {w:World} {x y:Operand} {g L p N q m:Nat} {s:Bool} {tt:Array TypeId}
def Sp.ones (m:Nat):Sp:=⟨fun w v=>∃g,v= .slice (some ⟨g,0,none⟩) 1 1∧cY w g m,fun _ _ _ h hb=>by obtain⟨g,rfl,h⟩:=h;exact⟨g,rfl,h.mono hb⟩⟩
end
def Fq.valid (x:Fq):Bool:=decide (x.q≠0∧¬(x.s=true∧x.p=0)∧Nat.gcd x.p x.q=1)
end Go.Proofs.YtggfmklppkioeaaGreat
namespace Go.Proofs.YtggfmklppkioeaaGreat
set_option linter.unusedSimpArgs false
set_option linter.unusedVariables false
set_option maxRecDepth 100000
open Go.RowKit
def slashAt (s:ByteArray) (i:Nat):Prop:=i<s.size∧by' s i=47∧∀j,j<i→by' s j≠47
def noSlash (s:ByteArray):Prop:=∀j,j<s.size→by' s j≠47
end Go.Proofs.YtggfmklppkioeaaGreat
namespace Go.Proofs.YtggfmklppkioeaaGreat
set_option linter.unusedSimpArgs false
set_option linter.unusedVariables false
set_option maxRecDepth 100000
open Go.RowKit
def Fq.fmt (x:Fq):ByteArray:=if x.s then({data:=#[45]}:ByteArray)++(if x.q=1 then cC x.p else cC x.p++(({data:=#[47]}:ByteArray)++cC x.q))else(if x.q=1 then cC x.p else cC x.p++(({data:=#[47]}:ByteArray)++cC x.q))
theorem dl (N:Nat):(cC N).size≤10*nl N+1:=by
 by_cases h0:N=0
 ·subst h0;have e:cC 0=⟨#[48]⟩:=by unfold cC;rw[if_pos rfl]
  rw[e];show 1≤_;omega
 ·have e:cC N=⟨(fQ N).reverse.toArray⟩:=by unfold cC;rw[if_neg h0]
  have hsz:(cC N).size=(fQ N).length:=by rw[e];simp[ByteArray.size]
  have:=oc N;omega
end Go.Proofs.YtggfmklppkioeaaGreat
namespace Go.Proofs.YtggfmklppkioeaaGreat
set_option linter.unusedSimpArgs false
set_option linter.unusedVariables false
set_option maxRecDepth 100000
open Go.RowKit
structure Pieces (s t:ByteArray) (B F:Bool) (a b:ByteArray):Prop where
 sign:decide (0<s.size∧by' s 0=45)=B
 rest:t=if B then s.extract 1 s.size else s
 hit:F=true→∃i,slashAt t i∧a=t.extract 0 i∧b=t.extract (i+1) t.size
 miss:F=false→noSlash t∧a=t∧b= {data:=#[]}
def parseQ (F:Bool) (N:Nat):Nat:=if F then N else 1
def parseV (B F:Bool) (M N:Nat):Bool:=if F then !decide (N=1) && (Fq.mk B M N).valid else(Fq.mk B M 1).valid
inductive FP (s:ByteArray):Fq→Int→Prop
 | num {t B F a b M c} (h:Pieces s t B F a b) (ha:ParseIs a M c) (h0:c≠0):FP s .zero c
 | den {t B a b M N c} (h:Pieces s t B true a b) (ha:ParseIs a M 0) (hb:ParseIs b N c) (h0:c≠0):FP s .zero c
 | bad {t B F a b M N} (h:Pieces s t B F a b) (ha:ParseIs a M 0) (hb:F=true→ParseIs b N 0) (hv:parseV B F M N=false):FP s .zero 2
 | good {t B F a b M N} (h:Pieces s t B F a b) (ha:ParseIs a M 0) (hb:F=true→ParseIs b N 0) (hv:parseV B F M N=true):FP s ⟨B,M,parseQ F N⟩ 0
theorem cRn {ρ:Rho} {w:World} {C:List Inst} {L:List OIns} (hC:∀i∈C,i.Ok0 Tryz.prog ρ (.of w)) (hO:∀i∈L,i.OkE (.of w) Tryz.prog ρ) {f:FuncId} {fn:Func} (hf:Tryz.prog.funcs[f]? =some fn) {args:List SV} {vs:List Value} {r:AV} (h:runFn Tryz.prog C L fn args 300=some r) (ha:bW ρ noB w args vs):Calls Tryz.prog f vs.toArray w (fun e w'=>∃v,e= .returned v∧r.holds ρ noB w' v∧Below w.heap.size w w'):=ud hC hO (by kernel_rfl) hf h ha
end Go.Proofs.YtggfmklppkioeaaGreat
