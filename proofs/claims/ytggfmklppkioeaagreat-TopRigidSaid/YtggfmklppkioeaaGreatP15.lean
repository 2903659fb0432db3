/- Trees of frames: the link that holds at a time, the open link. Trees of frames: the frames that are known. Trees of frames: what changes in memory; Detach, Root, New. Trees of frames: Root, New. Names of frames. Trees of frames: Attach, where it is refused. -/
import Derived.Test.YtggfmklppkioeaaGreatP14
import Derived.LoopN
import Derived.Deep.LoopGhost
namespace Go.Proofs.YtggfmklppkioeaaGreat
set_option linter.unusedSimpArgs false
set_option linter.unusedVariables false
set_option maxRecDepth 100000
open Go.RowKit
def ptO (o:Option Ln):Value:=match o with | some l=>ptB l.b | none=>.pointer none
theorem xj {w:World} {c:Nm} {l:Ln} (h:LnAt w c l) (a:Int):Calls Tryz.prog 153 #[ptB l.b,.int .i64 a] w fun e w'=>e= .returned (.bool (l.x.has a))∧w'=w:=by
 have h2:=h.fr;have h3:=h.un;have e:l.x.has a=(decide (l.x.fr≤a) && (decide (l.x.un= -1) || decide (a<l.x.un))):=rfl;generalize l.x.has a=r at e⊢;generalize l.b=b at h2 h3⊢;generalize l.x.fr=f at h2 e;generalize l.x.un=u at h3 e;clear h;by_cases c1:f≤a
 ·by_cases c2:u= -1
  ·subst c2;simp[c1]at e;subst e;go_enter Tryz.func153,Tryz.ntmps153
   go_wp2;go_ret;exact⟨rfl,rfl⟩
  ·have c2':(u== -1)=false:=beq_eq_false_iff_ne.2 c2;simp[c1,c2]at e;subst e;clear c2;go_enter Tryz.func153,Tryz.ntmps153
   go_wp2;go_ret;exact⟨rfl,rfl⟩
 ·have c1':decide (f≤a)=false:=decide_eq_false c1;simp[c1]at e;subst e;go_enter Tryz.func153,Tryz.ntmps153
  go_wp2;go_ret;exact⟨rfl,rfl⟩
theorem find_step {L:List Ln} {P:Ln→Bool} {k:Nat} {x:Ln} (hx:L[k]? =some x) (hn:∀j y,j<k→L[j]? =some y→P y=false) (hp:P x=true):L.find? P=some x:=by
 rw[List.find?_eq_some_iff_getElem];obtain⟨h1,h2⟩:=List.getElem?_eq_some_iff.1 hx;exact⟨hp,k,h1,h2,fun j hj=>by simpa using hn j _ hj (List.getElem?_eq_getElem (Nat.lt_trans hj h1))⟩
theorem q_at {w:World} {t m:Nat} {E:List Ch} (h:TM w t m E) (c:Nm) (a:Int):Calls Tryz.prog 90 #[ptB t,.string c,.int .i64 a] w fun e w'=>e= .returned (ptO ((lsE E c).find? (·.x.has a)))∧w'=w:=by
 have h1:=h.cell;have h2:=h.look c;unfold lsE;unfold mF at h2
 cases hc:chE E c with
 | none=>
  rw[hc]at h2;simp only[Option.map_none,Option.getD_none]at h2⊢;clear h hc;go_enter Tryz.func90,Tryz.ntmps90
  go_wp2;refine _root_.Go.wp_loop_rounds 1 ?_;rw[rounds_succ];go_wp2;go_ret;exact⟨rfl,rfl⟩
 | some ch=>
  rw[hc]at h2;simp only[Option.map_some,Option.getD_some]at h2⊢;have H:=h.chAt hc;have HL:∀l,l∈ch.ls→LnAt w c l:=fun l hl=>h.ln hc hl
  have hm:(ch.ls.length:Int)≤9223372036854775807:=by have:=H.le;have:=H.cap;unfold maxLen at this;omega
  have HC:=fun k l=>H.cell (k:=k) (l:=l)
  unfold Ch.row at h2;clear h hc H;generalize ch.rb=rb at h2 HC;generalize ch.cap=cap at h2;generalize ch.ls=L at *;go_enter Tryz.func90,Tryz.ntmps90
  go_wp2;go_loopw [18] (fun s18 wr=>∃k:Nat,k≤L.length∧s18= .int .i64 (k:Int)∧wr=w∧Hid (∀j y,j<k→L[j]? =some y→y.x.has a=false)) (fun s18 _=>L.length - (intOf s18).toNat)
  case atStart=>exact⟨0,Nat.zero_le _,rfl,rfl,Lib.hid (fun j y hj=>absurd hj (Nat.not_lt_zero j))⟩
  case round=>
   obtain⟨k,hk,rfl,rfl,HR⟩:=hrel;rcases Nat.lt_or_ge k L.length with hlt | hge
   ·obtain⟨l,hl⟩:∃l,L[k]? =some l:=⟨_,List.getElem?_eq_getElem hlt⟩;have hcl:=HC k l hl;have hct:=xj (HL l (List.mem_of_getElem? hl)) a;have HLL:=Lib.hid hl;clear hl HC HL;rcases Bool.eq_false_or_eq_true (l.x.has a)with hb | hb
    ·rw[hb]at hct;have HF:=Lib.hid (show ptO (L.find? (·.x.has a))=ptB l.b by rw[find_step HLL.out HR.out hb];rfl);clear hb;generalize l.b=lb at *;go_wp2_with (go_at_call 153;refine hct.mono ?_;rintro e w' ⟨rfl,rfl⟩)
     go_ret;rw[HF.out];exact⟨rfl,rfl⟩
    ·rw[hb]at hct;have HR2:=Lib.hid (show∀j y,j<k+1→L[j]? =some y→y.x.has a=false from fun j y hj hy=>by
      rcases Nat.lt_or_ge j k with h | h
      ·exact HR.out j y h hy
      ·obtain rfl:j=k:=by omega
       rw[HLL.out]at hy;injection hy with hy;subst hy;exact hb)
     clear hb;generalize l.b=lb at *;go_wp2_with (go_at_call 153;refine hct.mono ?_;rintro e w' ⟨rfl,rfl⟩)
     go_roundw
     case rel=>exact⟨k+1,by omega,by go_num,by trivial,HR2⟩
     case measure=>simp[intOf];omega
   ·have hkl:k=L.length:=by omega
    subst hkl;have HF:=Lib.hid (show ptO (L.find? (·.x.has a))= .pointer none by
     rw[List.find?_eq_none.2 (fun y hy=>by
      obtain⟨j,hj,e⟩:=List.getElem_of_mem hy;have:=HR.out j y hj (by rw[List.getElem?_eq_getElem hj,e]);simp[this])];rfl)
    clear HC HL HR hge hk;go_wp2;go_ret;rw[HF.out];exact⟨rfl,rfl⟩
def opL (L:List Ln):Option Ln:=match L.getLast? with | some l=>if l.x.un= -1 then some l else none | none=>none
theorem kj {w:World} {t m:Nat} {E:List Ch} (h:TM w t m E) (c:Nm):Calls Tryz.prog 124 #[ptB t,.string c] w fun e w'=>e= .returned (ptO (opL (lsE E c)))∧w'=w:=by
 have h1:=h.cell;have h2:=h.look c;unfold lsE;unfold mF at h2
 cases hc:chE E c with
 | none=>
  rw[hc]at h2;simp only[Option.map_none,Option.getD_none]at h2⊢;clear h hc;go_enter Tryz.func124,Tryz.ntmps124
  go_wp2;go_ret;exact⟨rfl,rfl⟩
 | some ch=>
  rw[hc]at h2;simp only[Option.map_some,Option.getD_some]at h2⊢;have H:=h.chAt hc;obtain⟨n,hn⟩:∃n,ch.ls.length=n+1:=⟨ch.ls.length - 1,by have:=List.length_pos_iff.2 H.ne;omega⟩;obtain⟨l,hl⟩:∃l,ch.ls[n]? =some l:=⟨_,List.getElem?_eq_getElem (by omega)⟩;have hll:ch.ls.getLast? =some l:=by rw[List.getLast?_eq_getElem?,hn];exact hl
  have hm:((n+1:Nat):Int)≤9223372036854775807:=by have:=H.le;have:=H.cap;unfold maxLen at this;omega
  have hL:=h.ln hc (List.mem_of_getElem? hl);have hcl:=H.cell hl;have hun:=hL.un;have HO:=Lib.hid (show opL ch.ls=if l.x.un= -1 then some l else none by unfold opL;rw[hll]);unfold Ch.row at h2;rw[hn]at h2;have hp:ptO (some l)=ptB l.b:=rfl;obtain⟨N,hN⟩:∃N,N=n+1:=⟨_,rfl⟩;obtain rfl:n=N - 1:=by omega
  rw[←hN]at h2 hm;have hpos:((N:Int)==0)=false:=beq_eq_false_iff_ne.2 (by omega);have hk:((N:Int) - 1).toNat=N - 1:=by omega
  have hk1:(1:Int)≤N:=by omega
  have hk2:(N:Int) - 1<N:=by omega
  by_cases c1:l.x.un= -1
  ·rw[if_pos c1]at HO;have HF:=Lib.hid (show ptO (opL ch.ls)=ptB l.b by rw[HO.out];rfl);rw[c1]at hun;clear h hc H hL hl hll HO hp hn c1 hN;generalize ch.rb=rb at *;generalize ch.cap=cap at *;generalize l.b=lb at *;go_enter Tryz.func124,Tryz.ntmps124
   go_wp2;go_ret;rw[HF.out];exact⟨rfl,rfl⟩
  ·rw[if_neg c1]at HO;have HF:=Lib.hid (show ptO (opL ch.ls)= .pointer none by rw[HO.out];rfl);have c2:(l.x.un== -1)=false:=beq_eq_false_iff_ne.2 c1;clear h hc H hL hl hll HO hp hn c1 hN;generalize ch.rb=rb at *;generalize ch.cap=cap at *;generalize l.b=lb at *;generalize l.x.un=u at *;go_enter Tryz.func124,Tryz.ntmps124
   go_wp2;go_ret;rw[HF.out];exact⟨rfl,rfl⟩
def atE (E:List Ch) (c:Nm) (a:Int):Option Ln:=(lsE E c).find? (·.x.has a)
theorem mG {w:World} {t m:Nat} {E:List Ch} (h:TM w t m E) {c:Nm} {a:Int} {l:Ln} (hl:atE E c a=some l):∃ch,chE E c=some ch∧l∈ch.ls∧LnAt w c l:=by
 unfold atE lsE at hl
 cases hc:chE E c with
 | none=>rw[hc]at hl;cases hl
 | some ch=>
  rw[hc]at hl;have:=List.mem_of_find?_eq_some hl;exact⟨ch,rfl,this,h.ln hc this⟩
theorem uO {w:World} {t m:Nat} {E:List Ch} (h:TM w t m E) (c:Nm) (a:Int):Calls Tryz.prog 34 #[ptB t,.string c,.int .i64 a] w fun e w'=>e= .returned (match atE E c a with | some l=>.tuple #[.string l.x.par,.bool true] | none=>.tuple #[.string ByteArray.empty,.bool false])∧w'=w:=by
 have hat:=q_at h c a
 change Calls _ _ _ _ (fun e w'=>e= .returned (ptO (atE E c a))∧w'=w)at hat
 cases hl:atE E c a with
 | none=>
  rw[hl]at hat
  change Calls _ _ _ _ (fun e w'=>e= .returned (.pointer none)∧w'=w)at hat
  clear h hl;go_enter Tryz.func34,Tryz.ntmps34
  go_wp2_with (go_at_call 90;refine hat.mono ?_;rintro e w' ⟨rfl,rfl⟩)
  go_ret2
  exact⟨rfl,rfl⟩
 | some l=>
  rw[hl]at hat
  change Calls _ _ _ _ (fun e w'=>e= .returned (ptB l.b)∧w'=w)at hat
  obtain⟨_,_,_,hL⟩:=mG h hl;have h1:=hL.par;clear h hl hL;generalize l.b=lb at *;simp only;generalize l.x.par=p at *;go_enter Tryz.func34,Tryz.ntmps34
  go_wp2_with (go_at_call 90;refine hat.mono ?_;rintro e w' ⟨rfl,rfl⟩)
  go_ret2
  exact⟨rfl,rfl⟩
theorem yE {o f:Nm} (h:o≠f):(ByteArray.toList o==ByteArray.toList f)=false:=by
 refine beq_eq_false_iff_ne.2 (fun e=>h ?_);rw[Go.ByteArray.toList_eq,Go.ByteArray.toList_eq]at e;obtain⟨⟨x⟩⟩:=o;obtain⟨⟨y⟩⟩:=f;simp at e;subst e;rfl
theorem Reach.nil {R:Tr} {a:Int} {o f:Nm} (h:par R a o=none) (k:Reach R a o f):o=f:=by
 cases k with
 | refl=>rfl
 | step e _=>rw[h]at e;cases e
theorem Reach.next {R:Tr} {a:Int} {o z f:Nm} (h:par R a o=some z) (hn:o≠f):Reach R a o f↔Reach R a z f:=by
 constructor
 ·intro k
  cases k with
  | refl=>exact absurd rfl hn
  | step e t=>rw[h]at e;injection e with e;subst e;exact t
 ·exact .step h
theorem q_above {w:World} {t m:Nat} {E:List Ch} {R:Tr} (h:TM w t m E) (hR:∀c a,(atE E c a).map (·.x)=tAt R c a) (f o:Nm) (a:Int) (he:eC R a o) (b:Bool) (hb:b=true↔Reach R a o f):
  Calls Tryz.prog 184 #[ptB t,.string f,.string o,.int .i64 a] w fun e w'=>e= .returned (.bool b)∧w'=w:=by
 obtain⟨n,y,_,hy,hz⟩:=he.root;have H:=Lib.hid h;have HRR:=Lib.hid hR;have HZ:=Lib.hid hz;have HY:=Lib.hid hy;have HB:=Lib.hid hb;clear h hR hz hy he hb;go_enter Tryz.func184,Tryz.ntmps184
 go_wp2;go_loopg [2] n (fun k s2 wr=>∃(o':Nm),s2= .string o'∧wr=w∧Hid (up R a k o'=some y)∧Hid (b=true↔Reach R a o' f))
 case atStart=>exact⟨o,rfl,rfl,HY,HB⟩
 case round=>
  obtain⟨o',rfl,rfl,HU,HB'⟩:=hrel;clear HB HY;by_cases hf:o'=f
  ·subst hf;have hbt:b=true:=HB'.out.2 (.refl _);subst hbt;go_wp2;go_ret;exact⟨rfl,rfl⟩
  ·have hat:=q_at H.out o' a
   change Calls _ _ _ _ (fun e w'=>e= .returned (ptO (atE E o' a))∧w'=wr)at hat
   have hpr:par R a o'=(atE E o' a).map (·.x.par):=by unfold par;rw[←HRR.out,Option.map_map];rfl
   have hne:=yE hf
   cases hl:atE E o' a with
   | none=>
    rw[hl]at hat hpr
    change Calls _ _ _ _ (fun e w'=>e= .returned (.pointer none)∧w'=wr)at hat
    have hbf:b=false:=Bool.eq_false_iff.2 (fun e=>hf (Reach.nil hpr (HB'.out.1 e)));subst hbf;clear hl hf hpr;go_wp2_with (go_at_call 90;refine hat.mono ?_;rintro e w' ⟨rfl,rfl⟩)
    go_ret;exact⟨rfl,rfl⟩
   | some l=>
    rw[hl]at hat hpr
    change Calls _ _ _ _ (fun e w'=>e= .returned (ptB l.b)∧w'=wr)at hat
    obtain⟨_,_,_,hL⟩:=mG H.out hl;have h1:=hL.par;have hpr:par R a o'=some l.x.par:=hpr;have HB2:=Lib.hid (HB'.out.trans (Reach.next hpr hf))
    cases gk with
    | zero=>
     have e:o'=y:=by have:=HU.out;simp only[up,Option.some.injEq]at this;exact this
     subst e;rw[HZ.out]at hpr;cases hpr
    | succ k=>
     have HU2:=Lib.hid (show up R a k l.x.par=some y by have:=HU.out;simp only[up,hpr,Option.bind_some]at this;exact this);clear hl hL HU HB' hf hpr;generalize l.b=lb at *;generalize l.x.par=p at *;go_wp2_with (go_at_call 90;refine hat.mono ?_;rintro e w' ⟨rfl,rfl⟩)
     go_roundg k
     case measure=>omega
     case rel=>exact⟨p,rfl,by trivial,HU2,HB2⟩
def fY (w:World) (b:Nat) (l:List Nm):Prop:=dq w b (l.map fun c=>(c,Value.bool true))
open Classical in
noncomputable def mH (l:List Nm) (c:Nm):List Nm:=if c∈l then l else l++ [c]
theorem uP (l:List Nm) (c:Nm):pw (l.map fun c=>(c,Value.bool true)) c (.bool true)=(mH l c).map fun c=>(c,Value.bool true):=by
 have e:c∈(l.map fun c=>(c,Value.bool true)).map (·.1)↔c∈l:=by simp
 unfold pw mH;by_cases h:c∈l
 ·rw[if_pos (e.2 h),if_pos h,List.map_map];refine List.map_congr_left (fun x _=> ?_);simp only[Function.comp];split
  ·rename_i h2;rw[←h2]
  ·rfl
 ·rw[if_neg (fun h2=>h (e.1 h2)),if_neg h,List.map_append];rfl
theorem iV {l:List Nm} {c x:Nm}:x∈mH l c↔x∈l∨x=c:=by
 unfold mH;split
 ·rename_i h;exact⟨.inl,fun h2=>h2.elim id (fun e=>e▸h)⟩
 ·simp
abbrev smT:TypeId:=150
theorem fY.upd {w:World} {b:Nat} {l:List Nm} (h:fY w b l) (c:Nm):∃w',(Instr.mapUpdate smT (.map (some b)) (.string c) (.bool true)).run Tryz.prog w= .ok () w'∧fY w' b (mH l c)∧Upd w b w':=by
 obtain⟨w',h1,h2,h3⟩:=dq.update (P:=Tryz.prog) (t:=smT) h Tryz.underlying150 (by kernel_rfl) c (.bool true);rw[uP]at h2;exact⟨w',h1,h2,h3⟩
theorem fY.ent {w:World} {b:Nat} {l:List Nm} (h:fY w b l) (c:Nm):∃w1 u n w',(Instr.mapEntry smT (.map (some b)) (.string c)).run Tryz.prog w= .ok (.tuple #[u,.int .i64 n]) w1∧(Instr.entryStore smT (.map (some b)) (.int .i64 n) (.bool true)).run Tryz.prog w1= .ok () w'∧fY w' b (mH l c)∧Upd w b w':=by
 obtain⟨w1,u,n,w',h1,h2,h3,_,h4⟩:=dq.entry (P:=Tryz.prog) (t:=smT) (z:=.bool false) h Tryz.underlying150 (by kernel_rfl) (fun w=>by rfl) c (.bool true);rw[uP]at h3;exact⟨w1,u,n,w',h1,h2,h3,h4⟩
theorem fY.nodup {w:World} {b:Nat} {l:List Nm} (h:fY w b l):l.Nodup:=by
 have:=dq.nodup h;rwa [List.map_map,show((fun x:ByteArray×Value=>x.1)∘ fun c:Nm=>(c,Value.bool true))=id from rfl,List.map_id]at this
theorem mk_map (t:TypeId) (w:World):∃w1,(Instr.makeMap t none).run Tryz.prog w= .ok (.map (some w.heap.size)) w1∧dq w1 w.heap.size []∧Below w.heap.size w w1∧w1.heap.size=w.heap.size+1:=
 ⟨_,run_makeMap t w,⟨#[],0,heap_alloc_new w _,Go.MapKept.stamped_empty 0,rfl⟩,(Below.refl _ _).alloc (Nat.le_refl _) _,Array.size_push ..⟩
theorem TM.uniq {w:World} {t m:Nat} {E:List Ch} (h:TM w t m E) {ch ch':Ch} (h1:ch∈E) (h2:ch'∈E) (e:ch'.c=ch.c):ch'=ch:=by
 have hn:=h.mp.nodup;rw[List.map_map]at hn;obtain⟨i,hi,e1⟩:=List.getElem_of_mem h1;obtain⟨j,hj,e2⟩:=List.getElem_of_mem h2;rw[List.Nodup,List.pairwise_map,List.pairwise_iff_getElem]at hn;rcases Nat.lt_trichotomy i j with h | h | h
 ·exact absurd (show E[i].c=E[j].c by rw[e1,e2,e]) (hn i j hi hj h)
 ·subst h;rw[←e1,←e2]
 ·exact absurd (show E[j].c=E[i].c by rw[e1,e2,e]) (hn j i hj hi h)
theorem TM.upd {w w':World} {t m:Nat} {E:List Ch} {g:Nat} (h:TM w t m E) (u:Upd w g w') (o:bC w g) (hg:g∉fpT t m E):TM w' t m E:=h.chg (.upd o u) (fun k hk e=>hg (e▸hk))
theorem TM.lt {w:World} {t m:Nat} {E:List Ch} (h:TM w t m E):∀g∈fpT t m E,g<w.heap.size:=fun g hg=>(h.own g hg).1
def sY (E:List Ch) (x:Nm):Prop:=∃ch∈E,∃l∈ch.ls,x=ch.c∨x=l.x.par
theorem lP {w:World} {t m:Nat} {E:List Ch} (h:TM w t m E):Calls Tryz.prog 89 #[ptB t] w fun e w'=>∃b l,e= .returned (.map (some b))∧fY w' b l∧w.heap.size≤b∧(∀x,x∈l↔sY E x)∧Below w.heap.size w w':=by
 obtain⟨w1,hmk,hM,hb1,hs1⟩:=mk_map smT w;have h':=h.below hb1;obtain⟨w2,k0,hrg,hR,hb2,hs2⟩:=rk (P:=Tryz.prog) (t:=mpT) h'.mp Tryz.underlying142;rw[hs1]at hrg hR hs2;have H2:=h'.below hb2;have hM2:fY w2 w.heap.size []:=hM.other (hb2.block _ hM.lt);have hB:=hb1.trans (hb2.mono (by omega));have c1:=h'.cell;generalize hbb:w.heap.size=B at *;generalize hrr:B+1=r at *;clear hM h' hb1 hb2 hs1;go_enter Tryz.func89,Tryz.ntmps89
 go_wp2;have hT0:=Lib.hid H2;have hlow:=Lib.hid (show∀g∈fpT t m E,g<B from fun g hg=>by have:=h.lt g hg;omega);have hbr:=Lib.hid (show B<r by omega);have hR0:=Lib.hid hR;have hM0:=Lib.hid hM2;have hB0:=Lib.hid hB;have hu:=Lib.hid (fun(ch ch':Ch)=>h.uniq (ch:=ch) (ch':=ch'));have hrz:=Lib.hid (show r<w2.heap.size by omega);clear h hR hM2 hB H2 hrr hbb hs2 hmk hrg c1;go_loopg [] k0 (fun k wr=>∃(V:ByteArray×Value→Prop) (l:List Nm),Hid (sV wr r m (E.map fun ch=>(ch.c,ch.row)) V k)∧Hid (fY wr B l)∧Hid (TM wr t m E)∧Hid (Below B w wr)∧Hid (r<wr.heap.size)∧Hid (∀x,x∈l↔∃ch∈E,V (ch.c,ch.row)∧∃ln∈ch.ls,x=ch.c∨x=ln.x.par))
 case atStart=>exact⟨_,_,hR0,hM0,hT0,hB0,hrz,Lib.hid (fun x=>⟨fun h=>(by cases h),fun⟨_,_,h,_⟩=>h.elim⟩)⟩
 case round=>
  clear hT0 hR0 hM0 hB0 hrz;obtain⟨V,l,hR,hM,hT,hB,hrz,hL⟩:=hrel;rcases uN (P:=Tryz.prog) hR.out 0 with⟨hnx,hall⟩ | ⟨p,hp,w3,k3,hk3,hnx,hen,hR3,hu3⟩
  ·have HA:=Lib.hid hall;clear hall;go_wp2;go_ret;refine⟨B,l,rfl,hM.out,Nat.le_refl _,fun x=> ?_,hB.out⟩;rw[hL.out];exact⟨fun⟨ch,h1,_,h2⟩=>⟨ch,h1,h2⟩,fun⟨ch,h1,h2⟩=>⟨ch,h1,HA.out _ (List.mem_map.2 ⟨ch,h1,rfl⟩),h2⟩⟩
  ·obtain⟨ch,hch,rfl⟩:=List.mem_map.1 hp;have hrlt:=hrz.out;have horX:bC wr r:=⟨hrlt,fun k n hk=>by
    obtain⟨es,clock,since,c0,seen,h,_⟩:=hR.out;simp[World.cell?,h]at hk⟩
   have hT3:=Lib.hid (hT.out.upd hu3 horX (fun hm=>by have:=hlow.out r hm;have:=hbr.out;omega));have hM3:=Lib.hid (show fY w3 B l from hM.out.other (hu3.block _ (by have:=hbr.out;omega)));have hB3:=Lib.hid (hu3.below hB.out (by have:=hbr.out;omega));have hrz3:=Lib.hid (show r<w3.heap.size by rw[hu3.size];exact hrlt);have HR3:=Lib.hid hR3;have H:=hT.out.rows ch hch;have hm:(ch.ls.length:Int)≤9223372036854775807:=by have:=H.le;have:=H.cap;unfold maxLen at this;omega
   clear hT hM hR hB hrz hrlt horX H hR3 hu3 hp
   change (Instr.next _ _ _).run _ _= .ok (.tuple #[.bool true,.string ch.c,ch.row]) w3 at hnx
   change (Instr.entry _).run _ _= .ok (.tuple #[.string ch.c,ch.row]) w3 at hen
   unfold Ch.row at hnx hen;obtain⟨n,hn⟩:∃n,n=ch.ls.length:=⟨_,rfl⟩;rw[←hn]at hnx hen hm;have HN:=Lib.hid hn;clear hn;go_wp2;go_loopw [21] (fun s21 wq=>∃(j:Nat) (l':List Nm),j≤n∧s21= .int .i64 (j:Int)∧Hid (sV wq r m (E.map fun ch=>(ch.c,ch.row)) (fun x=>V x∨x=(ch.c,ch.row)) k3)∧Hid (fY wq B l')∧Hid (TM wq t m E)∧Hid (Below B w wq)∧Hid (r<wq.heap.size)∧Hid (∀x,x∈l'↔x∈l∨∃(i:Nat) (ln:Ln),i<j∧ch.ls[i]? =some ln∧(x=ch.c∨x=ln.x.par))) (fun s21 _=>n - (intOf s21).toNat)
   case atStart=>exact⟨0,l,Nat.zero_le _,rfl,HR3,hM3,hT3,hB3,hrz3,Lib.hid (fun x=>⟨.inl,fun h=>h.elim id (fun⟨i,_,h,_⟩=>absurd h (Nat.not_lt_zero i))⟩)⟩
   case round=>
    clear HR3 hM3 hT3 hB3 hrz3 hnx hen;obtain⟨j,l',hj,rfl,hR,hM,hT,hB,hrz,hL'⟩:=hrel;rcases Nat.lt_or_ge j n with hlt | hge
    ·obtain⟨ln,hln⟩:∃ln,ch.ls[j]? =some ln:=⟨_,List.getElem?_eq_getElem (by rw[←HN.out];exact hlt)⟩;have hcl:=(hT.out.rows ch hch).cell hln;have hpar:=(hT.out.lns ch hch ln (List.mem_of_getElem? hln)).par;have HLN:=Lib.hid hln;obtain⟨w4,h4,hM4,hu4⟩:=hM.out.upd ch.c;obtain⟨w5,u,n5,w6,h5,h6,hM6,hu6⟩:=hM4.ent ln.x.par;have u46:=hu4.trans hu6;have hoB:bC wr B:=hM.out.own;have hT6:=Lib.hid (hT.out.upd u46 hoB (fun hm=>by have:=hlow.out B hm;omega));have hM6':=Lib.hid hM6;have hR6:=Lib.hid (hR.out.other (u46.block r (by have:=hbr.out;omega)) (u46.block m (by have:=hlow.out m (by simp[fpT]);omega)));have hB6:=Lib.hid (u46.below hB.out (Nat.le_refl _));have hrz6:=Lib.hid (show r<w6.heap.size by rw[u46.size];exact hrz.out);have hL6:=Lib.hid (show∀x,x∈mH (mH l' ch.c) ln.x.par↔x∈l∨∃(i:Nat) (ln:Ln),i<j+1∧ch.ls[i]? =some ln∧(x=ch.c∨x=ln.x.par)from fun x=>by
      rw[iV,iV,hL'.out];constructor
      ·rintro(((h | ⟨i,y,a1,a2,a3⟩) | rfl) | rfl)
       ·exact .inl h
       ·exact .inr ⟨i,y,by omega,a2,a3⟩
       ·exact .inr ⟨j,ln,by omega,HLN.out,.inl rfl⟩
       ·exact .inr ⟨j,ln,by omega,HLN.out,.inr rfl⟩
      ·rintro(h | ⟨i,y,a1,a2,a3⟩)
       ·exact .inl (.inl (.inl h))
       ·rcases Nat.lt_or_ge i j with h | h
        ·exact .inl (.inl (.inr ⟨i,y,h,a2,a3⟩))
        ·obtain rfl:i=j:=by omega
         rw[HLN.out]at a2;injection a2 with a2;subst a2;rcases a3 with rfl | rfl
         ·exact .inl (.inr rfl)
         ·exact .inr rfl)
     clear hln hM4 hM6 hu4 hu6 u46 hoB hR hM hT hB hrz hL';generalize ln.b=lb at *;generalize mH (mH l' ch.c) ln.x.par=l6 at *;generalize ln.x.par=pr at *;go_wp2;go_roundw
     case rel=>exact⟨j+1,l6,by omega,by go_num,hR6,hM6',hT6,hB6,hrz6,hL6⟩
     case measure=>simp[intOf];omega
    ·obtain rfl:j=n:=by omega
     have hL6:=Lib.hid (show∀x,x∈l'↔∃ch'∈E,(V (ch'.c,ch'.row)∨(ch'.c,ch'.row)=(ch.c,ch.row))∧∃ln∈ch'.ls,x=ch'.c∨x=ln.x.par from fun x=>by
      rw[hL'.out,hL.out];constructor
      ·rintro(⟨ch',a1,a2,a3⟩ | ⟨i,y,a1,a2,a3⟩)
       ·exact⟨ch',a1,.inl a2,a3⟩
       ·exact⟨ch,hch,.inr rfl,y,List.mem_of_getElem? a2,a3⟩
      ·rintro⟨ch',a1,a2 | a2,y,a3,a4⟩
       ·exact .inl ⟨ch',a1,a2,y,a3,a4⟩
       ·have e:ch'=ch:=hu.out ch ch' hch a1 (congrArg (·.1) a2);subst e;obtain⟨i,hi,e2⟩:=List.getElem_of_mem a3;exact .inr ⟨i,y,by rw[HN.out];exact hi,by rw[List.getElem?_eq_getElem hi,e2],a4⟩)
     clear hL hL';go_wp2;go_roundg k3
     case measure=>exact hk3
     case rel=>exact⟨_,l',hR,hM,hT,hB,hrz,hL6⟩
def trE (E:List Ch):Tr:=E.flatMap fun ch=>ch.ls.map fun l=>(ch.c,l.x)
theorem dM {E:List Ch} {q:Nm×Lk}:q∈trE E↔∃ch∈E,∃l∈ch.ls,q=(ch.c,l.x):=by
 unfold trE;rw[List.mem_flatMap];constructor
 ·rintro⟨ch,h1,h2⟩;obtain⟨l,h3,rfl⟩:=List.mem_map.1 h2;exact⟨ch,h1,l,h3,rfl⟩
 ·rintro⟨ch,h1,l,h3,rfl⟩;exact⟨ch,h1,List.mem_map.2 ⟨l,h3,rfl⟩⟩
theorem sZ (d c:Nm) (ls:List Ln):lks (ls.map fun l=>(d,l.x)) c=if d=c then ls.map (·.x)else []:=by
 induction ls with
 | nil=>split<;>rfl
 | cons l ls ih=>
  rw[List.map_cons,lM,ih];by_cases h:d=c
  ·simp only[if_pos h,List.map_cons]
  ·simp only[if_neg h]
theorem jp:∀ {E:List Ch},(E.map (·.c)).Nodup→∀c,lks (trE E) c=(lsE E c).map (·.x)
 | [],_,_=>rfl
 | ch::E,h,c=>by
  obtain⟨h1,h2⟩:=List.nodup_cons.1 h;have ih:=jp h2 c;have e:trE (ch::E)=(ch.ls.map fun l=>(ch.c,l.x))++trE E:=rfl;rw[e,gS,sZ,ih];unfold lsE chE;by_cases hc:ch.c=c
  ·rw[if_pos hc,List.find?_cons_of_pos (by simpa using hc)];have:E.find? (fun ch=>decide (ch.c=c))=none:=List.find?_eq_none.2 (fun x hx=>by
    have:x.c≠c:=fun e=>h1 (List.mem_map.2 ⟨x,hx,e.trans hc.symm⟩)
    simpa using this)
   rw[this];simp
  ·rw[if_neg hc,List.find?_cons_of_neg (by simpa using hc),List.nil_append]
theorem TM.keys {w:World} {t m:Nat} {E:List Ch} (h:TM w t m E):(E.map (·.c)).Nodup:=by
 have hn:=h.mp.nodup;rwa [List.map_map]at hn
theorem TM.tAt {w:World} {t m:Nat} {E:List Ch} (h:TM w t m E) (c:Nm) (a:Int):(atE E c a).map (·.x)=tAt (trE E) c a:=by
 unfold atE Go.Proofs.YtggfmklppkioeaaGreat.tAt;rw[jp h.keys,List.find?_map];rfl
open Classical in
theorem uQ {w:World} {t m:Nat} {E:List Ch} (h:TM w t m E) (hE:TOk (trE E)) (f o:Nm) (a:Int):
  Calls Tryz.prog 184 #[ptB t,.string f,.string o,.int .i64 a] w fun e w'=>e= .returned (.bool (decide (Reach (trE E) a o f)))∧w'=w:=
 q_above h h.tAt f o a (hE.acy a o) _ (by simp)
open Classical in
set_option maxHeartbeats 400000 in
theorem n4 {w:World} {t m:Nat} {E:List Ch} (h:TM w t m E) (hE:TOk (trE E)) (c p:Nm) (f:Int):Calls Tryz.prog 125 #[ptB t,.string c,.string p,.int .i64 f] w fun e w'=>e= .returned (.bool (decide (Cyc (trE E) c p f)))∧Below w.heap.size w w':=by
 have hab:=uQ h hE c p f;by_cases hr:Reach (trE E) f p c
 ·have hcy:Cyc (trE E) c p f:=.inl hr;rw[decide_eq_true hcy];rw[decide_eq_true hr]at hab;clear h hr hcy hE;go_enter Tryz.func125,Tryz.ntmps125
  go_wp2_with (go_at_call 184;refine hab.mono ?_;rintro e w' ⟨rfl,hw'⟩;obtain rfl:=hw'.symm)
  go_ret;exact⟨rfl,Below.refl _ _⟩
 ·rw[decide_eq_false hr]at hab;obtain⟨w2,k0,hrg,hR,hb2,hs2⟩:=rk (P:=Tryz.prog) (t:=mpT) h.mp Tryz.underlying142;have H2:=h.below hb2;have c1:=h.cell;obtain⟨r,hrr⟩:∃r,w.heap.size=r:=⟨_,rfl⟩;rw[hrr]at hrg hR hs2;have hlow:=Lib.hid (show∀g∈fpT t m E,g<r from fun g hg=>by have:=h.lt g hg;omega);have hT0:=Lib.hid H2;have hR0:=Lib.hid hR;have hB0:=Lib.hid hb2;have hu:=Lib.hid (fun(ch ch':Ch)=>h.uniq (ch:=ch) (ch':=ch'));have hwr:=Lib.hid (show w.heap.size≤r by omega);have hrz:=Lib.hid (show r<w2.heap.size by omega);have HE:=Lib.hid hE;have HNR:=Lib.hid hr;obtain⟨b,hbb⟩:∃b,b=decide (Cyc (trE E) c p f):=⟨_,rfl⟩;have HBB:=Lib.hid hbb;rw[←hbb];clear h hR H2 hs2 hr hE hbb hb2;go_enter Tryz.func125,Tryz.ntmps125
  go_wp2_with (go_at_call 184;refine hab.mono ?_;rintro e w' ⟨rfl,hw'⟩;obtain rfl:=hw'.symm)
  clear hab hrg c1 hrr;go_loopg [] k0 (fun k wr=>∃(V:ByteArray×Value→Prop),Hid (sV wr r m (E.map fun ch=>(ch.c,ch.row)) V k)∧Hid (TM wr t m E)∧Hid (Below w.heap.size w wr)∧Hid (r<wr.heap.size)∧Hid (∀ch∈E,V (ch.c,ch.row)→∀ln∈ch.ls,¬(f<ln.x.fr∧Reach (trE E) ln.x.fr p c)))
  case atStart=>exact⟨_,hR0,hT0,hB0,hrz,Lib.hid (fun _ _ h=>h.elim)⟩
  case round=>
   clear hT0 hR0 hB0 hrz;obtain⟨V,hR,hT,hB,hrz,hL⟩:=hrel;rcases uN (P:=Tryz.prog) hR.out 0 with⟨hnx,hall⟩ | ⟨q,hp,w3,k3,hk3,hnx,hen,hR3,hu3⟩
   ·have hbf:b=false:=by
     rw[HBB.out];refine decide_eq_false ?_;rintro(h1 | ⟨q,h1,h2,h3⟩)
     ·exact HNR.out h1
     ·obtain⟨ch,a1,l,a2,rfl⟩:=dM.1 h1;exact hL.out ch a1 (hall _ (List.mem_map.2 ⟨ch,a1,rfl⟩)) l a2 ⟨h2,h3⟩
    subst hbf;clear hall;go_wp2;go_ret;exact⟨rfl,hB.out⟩
   ·obtain⟨ch,hch,rfl⟩:=List.mem_map.1 hp;have hrlt:=hrz.out;have horX:bC wr r:=⟨hrlt,fun k n hk=>by
     obtain⟨es,clock,since,c0,seen,h,_⟩:=hR.out;simp[World.cell?,h]at hk⟩
    have hT3:=Lib.hid (hT.out.upd hu3 horX (fun hm=>by have:=hlow.out r hm;omega));have hB3:=Lib.hid (hu3.below hB.out hwr.out);have hrz3:=Lib.hid (show r<w3.heap.size by rw[hu3.size];exact hrlt);have HR3:=Lib.hid hR3;have H:=hT.out.rows ch hch;have hm:(ch.ls.length:Int)≤9223372036854775807:=by have:=H.le;have:=H.cap;unfold maxLen at this;omega
    clear hT hR hB hrz hrlt horX H hR3 hu3 hp
    change (Instr.next _ _ _).run _ _= .ok (.tuple #[.bool true,.string ch.c,ch.row]) w3 at hnx
    change (Instr.entry _).run _ _= .ok (.tuple #[.string ch.c,ch.row]) w3 at hen
    unfold Ch.row at hnx hen;obtain⟨n,hn⟩:∃n,n=ch.ls.length:=⟨_,rfl⟩;rw[←hn]at hnx hen hm;have HN:=Lib.hid hn;clear hn;go_wp2;go_loopw [29] (fun s29 wq=>∃(j:Nat),j≤n∧s29= .int .i64 (j:Int)∧wq=w3∧Hid (∀(i:Nat) (ln:Ln),i<j→ch.ls[i]? =some ln→¬(f<ln.x.fr∧Reach (trE E) ln.x.fr p c))) (fun s29 _=>n - (intOf s29).toNat)
    case atStart=>exact⟨0,Nat.zero_le _,rfl,rfl,Lib.hid (fun i _ h=>absurd h (Nat.not_lt_zero i))⟩
    case round=>
     clear hnx hen;obtain⟨j,hj,rfl,rfl,hL'⟩:=hrel;rcases Nat.lt_or_ge j n with hlt | hge
     ·obtain⟨ln,hln⟩:∃ln,ch.ls[j]? =some ln:=⟨_,List.getElem?_eq_getElem (by rw[←HN.out];exact hlt)⟩;have hmem:=List.mem_of_getElem? hln;have hcl:=(hT3.out.rows ch hch).cell hln;have hfr:=(hT3.out.lns ch hch ln hmem).fr;have HLN:=Lib.hid hln;have hab:=uQ hT3.out HE.out c p ln.x.fr;have hq:=dM.2 ⟨ch,hch,ln,hmem,rfl⟩;by_cases h1:f<ln.x.fr
      ·by_cases h2:Reach (trE E) ln.x.fr p c
       ·have hbt:b=true:=by rw[HBB.out];exact decide_eq_true (.inr ⟨_,hq,h1,h2⟩)
        subst hbt;rw[decide_eq_true h2]at hab;clear h2 hq hmem hln;generalize ln.x.fr=fr at *;generalize ln.b=lb at *;go_wp2_with (go_at_call 184;refine hab.mono ?_;rintro e w' ⟨rfl,hw'⟩;obtain rfl:=hw'.symm)
        go_ret;exact⟨rfl,hB3.out⟩
       ·rw[decide_eq_false h2]at hab;have hL2:=Lib.hid (show∀(i:Nat) (ln:Ln),i<j+1→ch.ls[i]? =some ln→¬(f<ln.x.fr∧Reach (trE E) ln.x.fr p c)from fun i y hi hy=>by
         rcases Nat.lt_or_ge i j with h | h
         ·exact hL'.out i y h hy
         ·obtain rfl:i=j:=by omega
          rw[HLN.out]at hy;injection hy with hy;subst hy;exact fun h=>h2 h.2)
        clear h2 hq hmem hln hL';generalize ln.x.fr=fr at *;generalize ln.b=lb at *;go_wp2_with (go_at_call 184;refine hab.mono ?_;rintro e w' ⟨rfl,hw'⟩;obtain rfl:=hw'.symm)
        go_roundw
        case rel=>exact⟨j+1,by omega,by go_num,by trivial,hL2⟩
        case measure=>simp[intOf];omega
      ·have h1':decide (f<ln.x.fr)=false:=decide_eq_false h1;have hL2:=Lib.hid (show∀(i:Nat) (ln:Ln),i<j+1→ch.ls[i]? =some ln→¬(f<ln.x.fr∧Reach (trE E) ln.x.fr p c)from fun i y hi hy=>by
        rcases Nat.lt_or_ge i j with h | h
        ·exact hL'.out i y h hy
        ·obtain rfl:i=j:=by omega
         rw[HLN.out]at hy;injection hy with hy;subst hy;exact fun h=>h1 h.1)
       clear hab hq hmem hln hL' h1;generalize ln.x.fr=fr at *;generalize ln.b=lb at *;go_wp2;go_roundw
       case rel=>exact⟨j+1,by omega,by go_num,by trivial,hL2⟩
       case measure=>simp[intOf];omega
     ·obtain rfl:j=n:=by omega
      have hL2:=Lib.hid (show∀ch'∈E,(V (ch'.c,ch'.row)∨(ch'.c,ch'.row)=(ch.c,ch.row))→∀ln∈ch'.ls,¬(f<ln.x.fr∧Reach (trE E) ln.x.fr p c)from fun ch' a1 a2 ln a3=>by
       rcases a2 with a2 | a2
       ·exact hL.out ch' a1 a2 ln a3
       ·have e:ch'=ch:=hu.out ch ch' hch a1 (congrArg (·.1) a2);subst e;obtain⟨i,hi,e2⟩:=List.getElem_of_mem a3;exact hL'.out i ln (by rw[HN.out];exact hi) (by rw[List.getElem?_eq_getElem hi,e2]))
      clear hL hL';go_wp2;go_roundg k3
      case measure=>exact hk3
      case rel=>exact⟨_,HR3,hT3,hB3,hrz3,hL2⟩
theorem fp_put {A B o o':List Nat} {b g n:Nat} (h:(A++(b::g::o)++B).Nodup) (hlt:∀x∈A++(b::g::o)++B,x<n) (ho:∀x∈o',x∈o∨n≤x) (hn:o'.Nodup):(A++(b::g::o')++B).Nodup:=by
 simp only[List.nodup_append,List.nodup_cons,List.mem_cons,List.mem_append]at h hlt⊢;obtain⟨⟨h1,⟨h2,h3,h4⟩,h5⟩,h6,h7⟩:=h;have lt:∀x∈o',∀y,((y∈A∨y=b∨y=g∨y∈o)∨y∈B)→(x∉o)→y≠x:=fun x hx y hy hxo e=>by
  have:=hlt y hy;rcases ho x hx with h | h
  ·exact hxo h
  ·omega
 refine⟨⟨h1,⟨fun h=> ?_,fun h=> ?_,hn⟩,fun a ha c hc=> ?_⟩,h6,fun a ha c hc=> ?_⟩
 ·rcases h with h | h
  ·exact h2 (.inl h)
  ·by_cases hb:b∈o
   ·exact h2 (.inr hb)
   ·exact lt b h b (.inl (.inr (.inl rfl))) hb rfl
 ·by_cases hg:g∈o
  ·exact h3 hg
  ·exact lt g h g (.inl (.inr (.inr (.inl rfl)))) hg rfl
 ·rcases hc with rfl | rfl | hc
  ·exact h5 a ha _ (.inl rfl)
  ·exact h5 a ha _ (.inr (.inl rfl))
  ·by_cases hco:c∈o
   ·exact h5 a ha _ (.inr (.inr hco))
   ·exact lt c hc a (.inl (.inl ha)) hco
 ·rcases ha with ha | rfl | rfl | ha
  ·exact h7 a (.inl ha) c hc
  ·exact h7 _ (.inr (.inl rfl)) c hc
  ·exact h7 _ (.inr (.inr (.inl rfl))) c hc
  ·by_cases hao:a∈o
   ·exact h7 a (.inr (.inr (.inr hao))) c hc
   ·exact fun e=>lt a ha c (.inr hc) hao e.symm
def cQ (E1 E2:List Ch) (c:Nm) (rb cap:Nat) (L1 L2:List Ln) (l:Ln):List Ch:=E1++⟨c,rb,cap,L1++l::L2⟩::E2
theorem eN (t m:Nat) (E1 E2:List Ch) (c:Nm) (rb cap:Nat) (L1 L2:List Ln) (l:Ln):fpT t m (cQ E1 E2 c rb cap L1 L2 l)=(t::m::(E1.flatMap Ch.fp++rb::L1.flatMap Ln.fp))++(l.b::l.g::l.sl.ownBlock.toList)++(L2.flatMap Ln.fp++E2.flatMap Ch.fp):=by
 simp[fpT,cQ,Ch.fp,Ln.fp,List.flatMap_append,List.flatMap_cons,List.append_assoc]
theorem gC (E1 E2:List Ch) (c:Nm) (rb cap:Nat) (L1 L2:List Ln) (l:Ln):trE (cQ E1 E2 c rb cap L1 L2 l)=(trE E1++L1.map fun l=>(c,l.x))++(c,l.x)::((L2.map fun l=>(c,l.x))++trE E2):=by
 simp[trE,cQ,List.flatMap_append,List.flatMap_cons,List.append_assoc]
theorem TM.put {w w':World} {t m:Nat} {E1 E2:List Ch} {c:Nm} {rb cap:Nat} {L1 L2:List Ln} {l l':Ln} (h:TM w t m (cQ E1 E2 c rb cap L1 L2 l)) (hb:l'.b=l.b) (hg:l'.g=l.g)
  (ho:∀b,l'.sl.ownBlock=some b→l.sl.ownBlock=some b∨w.heap.size≤b) (hL:LnAt w' c l') (hown:∀g∈l'.fp,bC w' g) (k:Chg w w' (· ∈l.fp)):TM w' t m (cQ E1 E2 c rb cap L1 L2 l'):=by
 have hnd:=h.nd;have hlt:=h.lt;rw[eN]at hnd hlt;have hon:(l'.sl.ownBlock.toList).Nodup:=by cases l'.sl.ownBlock<;>simp
 have hnd':(fpT t m (cQ E1 E2 c rb cap L1 L2 l')).Nodup:=by
  rw[eN,hb,hg];refine fp_put hnd hlt (fun x hx=> ?_) hon;have hx:l'.sl.ownBlock=some x:=by simpa using hx
  exact(ho x hx).imp (fun h=>by simp[h]) id
 have hdis:∀x,(x∈(t::m::(E1.flatMap Ch.fp++rb::L1.flatMap Ln.fp))∨x∈(L2.flatMap Ln.fp++E2.flatMap Ch.fp))→x∉l.fp:=fun x hx hl=>by
  rw[List.nodup_append,List.nodup_append]at hnd;have hl:x∈l.b::l.g::l.sl.ownBlock.toList:=hl;rcases hx with hx | hx
  ·exact hnd.1.2.2 x hx x hl rfl
  ·exact hnd.2.2 x (List.mem_append.2 (.inr hl)) x hx rfl
 have hchE:∀ch∈E1++E2,ch∈cQ E1 E2 c rb cap L1 L2 l:=fun ch hc=>by
  unfold cQ;rcases List.mem_append.1 hc with h | h
  ·exact List.mem_append.2 (.inl h)
  ·exact List.mem_append.2 (.inr (List.mem_cons_of_mem _ h))
 have hchd:∀ch∈E1++E2,∀g∈ch.fp,g∉l.fp:=fun ch hc g hg'=>by
  refine hdis g ?_;rcases List.mem_append.1 hc with h | h
  ·exact .inl (List.mem_cons_of_mem _ (List.mem_cons_of_mem _ (List.mem_append.2 (.inl (List.mem_flatMap.2 ⟨ch,h,hg'⟩)))))
  ·exact .inr (List.mem_append.2 (.inr (List.mem_flatMap.2 ⟨ch,h,hg'⟩)))
 have hlnd:∀y∈L1++L2,∀g∈y.fp,g∉l.fp:=fun y hy g hg'=>by
  refine hdis g ?_;rcases List.mem_append.1 hy with h | h
  ·exact .inl (List.mem_cons_of_mem _ (List.mem_cons_of_mem _ (List.mem_append.2 (.inr (List.mem_cons_of_mem _ (List.mem_flatMap.2 ⟨y,h,hg'⟩))))))
  ·exact .inr (List.mem_append.2 (.inl (List.mem_flatMap.2 ⟨y,h,hg'⟩)))
 have hmid:(⟨c,rb,cap,L1++l::L2⟩:Ch)∈cQ E1 E2 c rb cap L1 L2 l:=List.mem_append.2 (.inr (List.mem_cons_self ..));have hsplit:∀ch∈cQ E1 E2 c rb cap L1 L2 l',ch∈E1++E2∨ch=⟨c,rb,cap,L1++l'::L2⟩:=fun ch hc=>by
  unfold cQ at hc;rcases List.mem_append.1 hc with h | h
  ·exact .inl (List.mem_append.2 (.inl h))
  ·rcases List.mem_cons.1 h with h | h
   ·exact .inr h
   ·exact .inl (List.mem_append.2 (.inr h))
 have hm:m∉l.fp:=hdis m (.inl (by simp));have ht:t∉l.fp:=hdis t (.inl (by simp));have hrb:rb∉l.fp:=hdis rb (.inl (by simp));refine⟨by rw[k.blk _ (Array.getElem?_eq_some_iff.1 h.tr).1 ht];exact h.tr,?_,fun ch hc=> ?_,fun ch hc y hy=> ?_,hnd',fun g hg'=> ?_⟩
 ·have:=h.mp.other (k.blk _ h.mp.lt hm);simpa [cQ,Ch.row]using this
 ·rcases hsplit ch hc with h1 | rfl
  ·exact(h.rows ch (hchE ch h1)).chg k (hchd ch h1 _ (List.mem_cons_self ..))
  ·obtain⟨⟨cs,h1,h2,h3⟩,h4,h5,_⟩:=(h.rows _ hmid).chg k hrb;refine⟨⟨cs,h1,h2,fun j y hy=> ?_⟩,by simpa using h4,h5,by simp⟩;rcases Nat.lt_trichotomy j L1.length with hj | hj | hj
   ·refine h3 j y ?_;rw[List.getElem?_append_left hj]at hy⊢;exact hy
   ·subst hj;rw[List.getElem?_append_right (Nat.le_refl _),Nat.sub_self]at hy;simp at hy;subst hy;rw[hb];exact h3 L1.length l (by rw[List.getElem?_append_right (Nat.le_refl _),Nat.sub_self];rfl)
   ·refine h3 j y ?_;rw[List.getElem?_append_right (by omega),List.getElem?_cons,if_neg (by omega)]at hy⊢;exact hy
 ·rcases hsplit ch hc with h1 | rfl
  ·exact(h.lns ch (hchE ch h1) y hy).chg k (fun g hg'=>hchd ch h1 g (List.mem_cons_of_mem _ (List.mem_flatMap.2 ⟨y,hy,hg'⟩)))
  ·have hy:y∈L1++l'::L2:=hy;have hy2:y=l'∨y∈L1++L2:=by
    simp only[List.mem_append,List.mem_cons]at hy⊢;rcases hy with h | h | h
    ·exact .inr (.inl h)
    ·exact .inl h
    ·exact .inr (.inr h)
   rcases hy2 with rfl | hy2
   ·exact hL
   ·have hym:y∈(⟨c,rb,cap,L1++l::L2⟩:Ch).ls:=by
     show y∈L1++l::L2;simp only[List.mem_append,List.mem_cons]at hy2⊢;exact hy2.imp id .inr
    exact(h.lns _ hmid y hym).chg k (hlnd y hy2)
 ·rw[eN,List.mem_append,List.mem_append]at hg';have hold:∀x,(x∈(t::m::(E1.flatMap Ch.fp++rb::L1.flatMap Ln.fp))∨x∈(L2.flatMap Ln.fp++E2.flatMap Ch.fp))→bC w' x:=fun x hx=>by
   have hox:bC w x:=h.own x (by
    rw[eN,List.mem_append,List.mem_append];exact hx.imp .inl id)
   exact hox.blk (k.blk x hox.1 (hdis x hx)) k.size
  rcases hg' with(h1 | h1) | h1
  ·exact hold g (.inl h1)
  ·exact hown g h1
  ·exact hold g (.inr h1)
theorem set_own {w:World} {b k:Nat} {v:Value} {cs:Array Value} {T:TypeId} (hb:w.heap[b]? =some (.cells cs T (0,0))) (o:bC w b) (hv:∀n,v≠ .int .u32 n):bC (w.setCell ⟨b,k,none⟩ v) b:=by
 refine .mk' (heap_setCell_same w b k cs T v hb) (fun j n hj=> ?_);rw[Array.getElem?_setIfInBounds]at hj;split at hj
 ·split at hj
  ·injection hj with hj;exact hv n hj
  ·cases hj
 ·exact o.2 j n (by rw[aA hb];exact hj)
abbrev Kp (w:World) (F:List Nat) (w':World):Prop:=(Ent.mk w (fun g=>g∈F) []).kept w'
theorem Kp.chg {w w':World} {F:List Nat} (k:Kp w F w') (o:∀g∈F,bC w g):Chg w w' (· ∈F):=⟨k.size,k.block,o⟩
theorem Kp.of_below {w w':World} {F:List Nat} (h:Below w.heap.size w w'):Kp w F w':=⟨h.os,h.tape,h.output,h.size,fun k hk _=>h.block k hk⟩
theorem Kp.upd {w w':World} {F:List Nat} {g:Nat} (u:Upd w g w') (hg:g∈F):Kp w F w':=⟨u.os,u.tape,u.output,by rw[u.size];exact Nat.le_refl _,fun k _ hk=>u.block k (fun e=>hk (e▸hg))⟩
theorem Kp.mono {w w':World} {F F':List Nat} (h:Kp w F w') (hF:∀g∈F,g∈F'):Kp w F' w':=⟨h.os,h.tape,h.output,h.size,fun k hk hn=>h.block k hk (fun hm=>hn (hF k hm))⟩
structure TPost (w:World) (t m:Nat) (E:List Ch) (w':World) (E':List Ch):Prop where
 tm:TM w' t m E'
 kp:Kp w (fpT t m E) w'
 fp:∀g∈fpT t m E',g∈fpT t m E∨w.heap.size≤g
theorem TPost.refl {w w':World} {t m:Nat} {E:List Ch} (h:TM w t m E) (hb:Below w.heap.size w w'):TPost w t m E w' E:=⟨h.below hb,.of_below hb,fun _ h=>.inl h⟩
theorem xk {E:List Ch} {c:Nm} {ch:Ch} {k:Nat} {l:Ln} (hc:chE E c=some ch) (hk:ch.ls[k]? =some l):∃E1 E2 L1 L2,E=cQ E1 E2 c ch.rb ch.cap L1 L2 l∧L1.length=k∧ch.ls=L1++l::L2:=by
 obtain⟨_,A,B,rfl,_⟩:=List.find?_eq_some_iff_append.1 hc;have e:=(cN hc).2;obtain⟨L1,L2,h1,h2⟩:=pt hk;refine⟨A,B,L1,L2,?_,h2,h1⟩;unfold cQ;obtain⟨c',rb,cap,ls⟩:=ch;simp only at e h1⊢;subst e;subst h1;rfl
theorem TM.lnd {w:World} {t m:Nat} {E1 E2:List Ch} {c:Nm} {rb cap:Nat} {L1 L2:List Ln} {l:Ln} (h:TM w t m (cQ E1 E2 c rb cap L1 L2 l)):l.fp.Nodup:=by
 have hnd:=h.nd;rw[eN,List.nodup_append,List.nodup_append]at hnd;exact hnd.1.2.1
theorem TM.sub {w:World} {t m:Nat} {E1 E2:List Ch} {c:Nm} {rb cap:Nat} {L1 L2:List Ln} {l:Ln} (_:TM w t m (cQ E1 E2 c rb cap L1 L2 l)):∀g∈l.fp,g∈fpT t m (cQ E1 E2 c rb cap L1 L2 l):=fun g hg=>by
 rw[eN];exact List.mem_append.2 (.inl (List.mem_append.2 (.inr hg)))
theorem TM.mid {w:World} {t m:Nat} {E1 E2:List Ch} {c:Nm} {rb cap:Nat} {L1 L2:List Ln} {l:Ln} (h:TM w t m (cQ E1 E2 c rb cap L1 L2 l)):LnAt w c l:=
 h.lns ⟨c,rb,cap,L1++l::L2⟩ (List.mem_append.2 (.inr (List.mem_cons_self ..))) l (List.mem_append.2 (.inr (List.mem_cons_self ..)))
theorem LnAt.setv {w:World} {c:Nm} {l l':Ln} {j:Nat} {v:Value} (h:LnAt w c l) (hn:l.fp.Nodup) (o:bC w l.b) (hv:dU v) (hq:lnQ c l'=(lnQ c l).set j (.val v)) (hb:l'.b=l.b) (hg:l'.g=l.g) (hs:l'.sl=l.sl) (ht:l'.x.tr=l.x.tr):LnAt (w.setCell ⟨l.b,j,none⟩ v) c l':=by
 obtain⟨⟨cs,h1,h2,h3⟩,h4⟩:=h;have hk:Chg w (w.setCell ⟨l.b,j,none⟩ v) (fun x=>x=l.b):=.upd o (Upd.cell w l.b j v);have hn2:l.b≠l.g∧∀b,l.sl.ownBlock=some b→b≠l.b:=by
  unfold Ln.fp at hn;obtain⟨a1,_⟩:=List.nodup_cons.1 hn;exact⟨fun e=>a1 (e▸List.mem_cons_self ..),fun b hb e=>a1 (e▸List.mem_cons_of_mem _ (by simp[hb]))⟩
 refine⟨⟨cs.setIfInBounds j v,by rw[hb];exact heap_setCell_same w l.b j cs lkT v h1,by rw[hq];simpa using h2,fun i q hi=> ?_⟩,by rw[hg,hs,ht];exact h4.chg hk (fun e=>hn2.1 e.symm) hn2.2⟩;rw[hq,List.getElem?_set]at hi;rw[Array.getElem?_setIfInBounds];split at hi
 ·rename_i e;subst e;split at hi
  ·rename_i hlt;injection hi with hi;subst hi;rw[if_pos rfl,if_pos (by rw[h2];exact hlt)];exact⟨v,rfl,rfl,hv⟩
  ·cases hi
 ·rename_i e;rw[if_neg e];obtain⟨u,k1,k2⟩:=h3 i q hi;have hqm:q∈lnQ c l:=List.mem_of_getElem? hi;exact⟨u,k1,(q.ch _ _ _ u k2 hk (fun g hg=>absurd hg (sW q hqm _ _ _))).1⟩
theorem TM.setv {w:World} {t m:Nat} {E1 E2:List Ch} {c:Nm} {rb cap:Nat} {L1 L2:List Ln} {l l':Ln} {j:Nat} {v:Value} (h:TM w t m (cQ E1 E2 c rb cap L1 L2 l)) (hv:dU v) (hq:lnQ c l'=(lnQ c l).set j (.val v)) (hb:l'.b=l.b) (hg:l'.g=l.g) (hs:l'.sl=l.sl) (ht:l'.x.tr=l.x.tr):
  TPost w t m (cQ E1 E2 c rb cap L1 L2 l) (w.setCell ⟨l.b,j,none⟩ v) (cQ E1 E2 c rb cap L1 L2 l'):=by
 have hown:∀g∈l.fp,bC w g:=fun g hg=>h.own g (h.sub g hg)
 have hn:=h.lnd;have hmid:=h.mid;have u:=Upd.cell w l.b j v;have e:l'.fp=l.fp:=by unfold Ln.fp;rw[hb,hg,hs]
 obtain⟨⟨cs,h1,_⟩,_⟩:=h.mid;have hlb:bC w l.b:=hown _ (List.mem_cons_self ..);have hc:Chg w (w.setCell ⟨l.b,j,none⟩ v) (· ∈l.fp):=⟨by rw[u.size];exact Nat.le_refl _,fun g _ hg=>u.block g (fun e=>hg (e▸List.mem_cons_self ..)),hown⟩;refine⟨h.put hb hg (fun b hb=>.inl (hs▸hb)) (hmid.setv hn hlb hv hq hb hg hs ht) (fun g hg'=> ?_) hc,.upd u (h.sub _ (List.mem_cons_self ..)),fun g hg'=>.inl ?_⟩
 ·rw[e]at hg';by_cases e2:g=l.b
  ·subst e2;exact set_own h1 hlb (fun n=>hv.2.2 n)
  ·exact(hown g hg').blk (u.block g e2) (by rw[u.size];exact Nat.le_refl _)
 ·rw[eN]at hg'⊢;rw[hb,hg,hs]at hg';exact hg'
inductive DetS (R:Tr) (c:Nm) (u:Int):Tr→Int→Prop
 | none (h:pq R c):DetS R c u R 6
 | time {k:Nat} {x:Lk} (h:eE R c k x) (ht:u≤x.fr∨mD<u):DetS R c u R 17
 | ok {A B:Tr} {x:Lk} (e:R=A++(c,x)::B) (h:x.un= -1) (h1:x.fr<u) (h2:u≤mD):DetS R c u (A++(c,{x with un:=u})::B) 0
theorem pz {w:World} {t m:Nat} {E:List Ch} (h:TM w t m E) (hE:TOk (trE E)) {c:Nm} (ho:opL (lsE E c)=none):pq (trE E) c:=by
 rintro i ⟨c',x⟩ hi ⟨h1,h2⟩;simp only at h1 h2;subst h1;have hm:=List.mem_of_getElem? hi;obtain⟨A,B,e,_⟩:=pt hi;have hr:=hE.row c';have e2:lks (trE E) c'=lks A c'++x::lks B c':=by rw[e,cM,if_pos rfl]
 have e3:lks B c'=[]:=jn (A:=A) (c:=c') (x:=x) (by rw[←e];exact hr) h2;rw[e3,jp h.keys]at e2;unfold opL at ho
 cases hl:(lsE E c').getLast? with
 | none=>
  have:=List.getLast?_eq_none_iff.1 hl;rw[this]at e2;simp at e2
 | some l=>
  have h4:((lsE E c').map (·.x)).getLast? =some l.x:=by rw[List.getLast?_map,hl];rfl
  rw[e2,List.getLast?_append]at h4;simp at h4;rw[hl]at ho;simp only at ho;rw[if_pos (by rw[←h4];exact h2)]at ho;cases ho
theorem lQ {E:List Ch} {c:Nm} {l:Ln} (ho:opL (lsE E c)=some l):l.x.un= -1∧∃ch,chE E c=some ch∧ch.ls[ch.ls.length - 1]? =some l:=by
 unfold opL at ho
 cases hl:(lsE E c).getLast? with
 | none=>rw[hl]at ho;cases ho
 | some l'=>
  rw[hl]at ho;simp only at ho;split at ho
  ·rename_i h1;injection ho with ho;subst ho;refine⟨h1,?_⟩;unfold lsE at hl
   cases hc:chE E c with
   | none=>rw[hc]at hl;cases hl
   | some ch=>
    rw[hc]at hl;exact⟨ch,rfl,by rw[←List.getLast?_eq_getElem?];exact hl⟩
  ·cases ho
theorem q_Detach {w:World} {t m:Nat} {E:List Ch} (h:TM w t m E) (hE:TOk (trE E)) (c:Nm) (u:Int):Calls Tryz.prog 68 #[ptB t,.string c,.int .i64 u] w fun e w'=>∃E' code,e= .returned (.int .i64 code)∧TPost w t m E w' E'∧DetS (trE E) c u (trE E') code:=by
 have hop:=kj h c
 cases ho:opL (lsE E c)with
 | none=>
  rw[ho]at hop
  change Calls _ _ _ _ (fun e w'=>e= .returned (.pointer none)∧w'=w)at hop
  have HP:=Lib.hid (show∃E' code,Ending.returned (.int .i64 6)= .returned (.int .i64 code)∧TPost w t m E w E'∧DetS (trE E) c u (trE E') code from⟨E,6,rfl,.refl h (Below.refl _ _),.none (pz h hE ho)⟩);clear h hE ho;go_enter Tryz.func68,Tryz.ntmps68
  go_wp2_with (go_at_call 124;refine hop.mono ?_;rintro e w' ⟨rfl,hw'⟩;obtain rfl:=hw'.symm)
  go_ret;exact HP.out
 | some l=>
  rw[ho]at hop
  change Calls _ _ _ _ (fun e w'=>e= .returned (ptB l.b)∧w'=w)at hop
  obtain⟨hun,ch,hc,hk⟩:=lQ ho;have hL:=h.ln hc (List.mem_of_getElem? hk);have hfr:=hL.fr;have hq:=dM.2 ⟨ch,(cN hc).1,l,List.mem_of_getElem? hk,rfl⟩;rw[(cN hc).2]at hq;obtain⟨k,hk1,hk2⟩:=List.getElem_of_mem hq;have hpos:eE (trE E) c k l.x:=⟨by rw[List.getElem?_eq_getElem hk1,hk2],hun⟩;by_cases c1:u≤l.x.fr
  ·have HP:=Lib.hid (show∃E' code,Ending.returned (.int .i64 17)= .returned (.int .i64 code)∧TPost w t m E w E'∧DetS (trE E) c u (trE E') code from⟨E,17,rfl,.refl h (Below.refl _ _),.time hpos (.inl c1)⟩);clear h hE ho hL hq hpos hk hun hc hk1 hk2;generalize l.x.fr=fr at *;generalize l.b=lb at *;go_enter Tryz.func68,Tryz.ntmps68
   go_wp2_with (go_at_call 124;refine hop.mono ?_;rintro e w' ⟨rfl,hw'⟩;obtain rfl:=hw'.symm)
   go_ret;exact HP.out
  ·by_cases c2:1099511627776<u
   ·have HP:=Lib.hid (show∃E' code,Ending.returned (.int .i64 17)= .returned (.int .i64 code)∧TPost w t m E w E'∧DetS (trE E) c u (trE E') code from⟨E,17,rfl,.refl h (Below.refl _ _),.time hpos (.inr c2)⟩);clear h hE ho hL hq hpos hk hun hc hk1 hk2;generalize l.x.fr=fr at *;generalize l.b=lb at *;go_enter Tryz.func68,Tryz.ntmps68
    go_wp2_with (go_at_call 124;refine hop.mono ?_;rintro e w' ⟨rfl,hw'⟩;obtain rfl:=hw'.symm)
    go_ret;exact HP.out
   ·obtain⟨E1,E2,L1,L2,rfl,_,hls⟩:=xk hc hk;have c1':decide (u≤l.x.fr)=false:=decide_eq_false c1;have c2':decide (1099511627776<u)=false:=decide_eq_false c2;have HP:=Lib.hid (show∃E' code,Ending.returned (.int .i64 0)= .returned (.int .i64 code)∧TPost w t m (cQ E1 E2 c ch.rb ch.cap L1 L2 l) (w.setCell ⟨l.b,3,none⟩ (.int .i64 u)) E'∧DetS (trE (cQ E1 E2 c ch.rb ch.cap L1 L2 l)) c u (trE E') code from by
     refine⟨cQ E1 E2 c ch.rb ch.cap L1 L2 {l with x:= {l.x with un:=u}},0,rfl,?_,?_⟩
     ·exact h.setv (l':= {l with x:= {l.x with un:=u}}) aH rfl rfl rfl rfl rfl
     ·rw[gC,gC];exact .ok rfl hun (by omega) (by unfold mD;omega))
    have hcu:=hL.un;have hfz:w.frozen? ⟨l.b,3,none⟩=false:=by
     obtain⟨⟨cs,h1,_⟩,_⟩:=hL;simp[World.frozen?,h1]
    clear h hE ho hL hq hpos hk hun hc hk1 hk2 c1 c2 hls;generalize l.x.fr=fr at *;generalize l.b=lb at *;go_enter Tryz.func68,Tryz.ntmps68
    go_wp2_with (go_at_call 124;refine hop.mono ?_;rintro e w' ⟨rfl,hw'⟩;obtain rfl:=hw'.symm)
    go_ret;exact HP.out
theorem jq {E:List Ch} {x:Nm}:sY E x↔a8 (trE E) x:=by
 unfold sY a8;constructor
 ·rintro⟨ch,h1,l,h2,h3⟩;exact⟨(ch.c,l.x),dM.2 ⟨ch,h1,l,h2,rfl⟩,h3.imp Eq.symm Eq.symm⟩
 ·rintro⟨q,h1,h2⟩;obtain⟨ch,a1,l,a2,rfl⟩:=dM.1 h1;exact⟨ch,a1,l,a2,h2.imp Eq.symm Eq.symm⟩
open Classical in
theorem fY.look {w:World} {b:Nat} {l:List Nm} (h:fY w b l) (c:Nm):(Instr.lookup smT (.map (some b)) (.string c) false).run Tryz.prog w= .ok (.bool (decide (c∈l))) w:=by
 rw[dq.look (P:=Tryz.prog) (t:=smT) (z:=.bool false) h Tryz.underlying150 (by kernel_rfl) (by rfl) c,List.find?_map]
 congr 1
 by_cases hc:c∈l
 ·rw[decide_eq_true hc];have:∃y,l.find? ((fun p:ByteArray×Value=>decide (p.1=c))∘ fun c=>(c,Value.bool true))=some y:=by
   cases hf:l.find? ((fun p:ByteArray×Value=>decide (p.1=c))∘ fun c=>(c,Value.bool true))with
   | some y=>exact⟨y,rfl⟩
   | none=>
    have:=List.find?_eq_none.1 hf c hc;simp at this
  obtain⟨y,hy⟩:=this;rw[hy];rfl
 ·rw[decide_eq_false hc,List.find?_eq_none.2 (fun x hx=>by
   have:x≠c:=fun e=>hc (e▸hx)
   simpa using this)]
  rfl
theorem yF {w:World} {t m:Nat} {E:List Ch} (h:TM w t m E) (c:Nm) (a:Int):Calls Tryz.prog 90 #[ptB t,.string c,.int .i64 a] w fun e w'=>e= .returned (ptO (atE E c a))∧w'=w:=q_at h c a
theorem q_New (w:World):Calls Tryz.prog 31 #[] w fun e w'=>∃t m,e= .returned (ptB t)∧TM w' t m []∧w.heap.size≤t∧w.heap.size≤m∧Below w.heap.size w w':=by
 obtain⟨w1,hmk,hM,hb1,hs1⟩:=mk_map mpT w;have hb2:=r7 w1 (.cells #[.map (some w.heap.size)] py);have hp:(w1.alloc (.cells #[.map (some w.heap.size)] py)).heap[w1.heap.size]? =some (.cells #[.map (some w.heap.size)] py (0,0)):=heap_alloc_new w1 _;have HP:=Lib.hid (show∃t m,Ending.returned (ptB w1.heap.size)= .returned (ptB t)∧TM (w1.alloc (.cells #[.map (some w.heap.size)] py)) t m []∧w.heap.size≤t∧w.heap.size≤m∧Below w.heap.size w (w1.alloc (.cells #[.map (some w.heap.size)] py))from by
  have hM2:dq (w1.alloc (.cells #[.map (some w.heap.size)] py)) w.heap.size []:=hM.other (hb2.block _ hM.lt);refine⟨w1.heap.size,w.heap.size,rfl,⟨hp,hM2,fun _ h=>(by cases h),fun _ h=>(by cases h),?_,fun g hg=> ?_⟩,by omega,Nat.le_refl _,hb1.trans (hb2.mono (by omega))⟩
  ·simp[fpT];omega
  ·simp only[fpT,List.flatMap_nil,List.mem_cons,List.not_mem_nil,or_false]at hg;rcases hg with rfl | rfl
   ·exact .mk' hp (fun k n hk=>by cases k<;>simp at hk)
   ·exact hM2.own)
 clear hM hb1 hb2 hp hs1;generalize w.heap.size=m at *;go_enter Tryz.func31,Tryz.ntmps31
 go_wp2;go_ret;exact HP.out
abbrev xl (c:UInt8):Prop:=(97≤c.toNat∧c.toNat≤122)∨(65≤c.toNat∧c.toNat≤90)
theorem q_classL {w:World} (n:Int) (h1:97≤n) (h2:n≤122):Calls Tryz.prog 183 #[.int .u8 n] w fun e w'=>e= .returned (.int .i64 3)∧w'=w:=by
 have a1:(n==32)=false:=beq_eq_false_iff_ne.2 (by omega);have a2:(n==9)=false:=beq_eq_false_iff_ne.2 (by omega);have a3:(n==10)=false:=beq_eq_false_iff_ne.2 (by omega);have a4:(n==35)=false:=beq_eq_false_iff_ne.2 (by omega);go_enter Tryz.func183,Tryz.ntmps183
 go_wp2;go_ret;exact⟨rfl,rfl⟩
theorem q_classU {w:World} (n:Int) (h1:65≤n) (h2:n≤90):Calls Tryz.prog 183 #[.int .u8 n] w fun e w'=>e= .returned (.int .i64 3)∧w'=w:=by
 have a1:(n==32)=false:=beq_eq_false_iff_ne.2 (by omega);have a2:(n==9)=false:=beq_eq_false_iff_ne.2 (by omega);have a3:(n==10)=false:=beq_eq_false_iff_ne.2 (by omega);have a4:(n==35)=false:=beq_eq_false_iff_ne.2 (by omega);have a5:decide (97≤n)=false:=decide_eq_false (by omega);go_enter Tryz.func183,Tryz.ntmps183
 go_wp2;go_ret;exact⟨rfl,rfl⟩
theorem q_class1 {w:World}:Calls Tryz.prog 183 #[.int .u8 49] w fun e w'=>e= .returned (.int .i64 4)∧w'=w:=by
 go_enter Tryz.func183,Tryz.ntmps183
 go_wp2;go_ret;exact⟨rfl,rfl⟩
theorem q_classN {w:World} (c:UInt8) (h:xl c):Calls Tryz.prog 183 #[.int .u8 (c.toNat:Int)] w fun e w'=>e= .returned (.int .i64 3)∧w'=w:=by
 rcases h with⟨h1,h2⟩ | ⟨h1,h2⟩
 ·exact q_classL _ (by omega) (by omega)
 ·exact q_classU _ (by omega) (by omega)
abbrev nm1 (c:UInt8):Nm:= {data:=#[c]}
abbrev nmBad:Nm:= {data:=#[49,120]}
def dG (c:Nm):Prop:=0<c.size∧c.size≤16∧∀i (h:i<c.size),xl (c[i]'h)
theorem rl {w:World} (c:Nm) (h:dG c):Calls Tryz.prog 123 #[.string c] w fun e w'=>e= .returned (.bool true)∧w'=w:=by
 obtain⟨h0,h16,hl⟩:=h;have hcl:∀i (hi:i<c.size),Calls Tryz.prog 183 #[.int .u8 ((c[i]'hi).toNat:Int)] w fun e w'=>e= .returned (.int .i64 3)∧w'=w:=fun i hi=>q_classN _ (hl i hi)
 have hix:∀i (hi:i<c.size),(Instr.index 9 (.string c) (.int .i64 (i:Int))).run Tryz.prog w= .ok (.int .u8 ((c[i]'hi).toNat:Int)) w:=fun i hi=>by
  have h1:c[i]? =some (c[i]'hi):=by simp[hi]
  simp[Instr.index,asIntOf,Sem.run_bind,run_underlying Tryz.underlying9,Result.andThen,h1]
 have hne:=qq (s:=c) (by omega);have hnl:¬c.toList=[]:=by intro e;rw[e]at hne;cases hne
 have hc0:=hcl 0 h0;have hi0:(Instr.index 9 (.string c) (.int .i64 0)).run Tryz.prog w= .ok (.int .u8 ((c[0]'h0).toNat:Int)) w:=hix 0 h0;have HCL:=Lib.hid hcl;have HIX:=Lib.hid hix;obtain⟨n,hn⟩:∃n,n=c.size:=⟨_,rfl⟩;have h16':decide ((16:Int)<(c.size:Int))=false:=decide_eq_false (by omega);generalize (c[0]'h0).toNat=b0 at hc0 hi0;clear hl hcl hix;go_enter Tryz.func123,Tryz.ntmps123
 obtain⟨m,hm⟩:∃m,c.size=m:=⟨_,rfl⟩;clear hn;rw[hm]at h16' h16;go_wp2_with (go_at_call 183;refine hc0.mono ?_;rintro e w' ⟨rfl,hw'⟩;obtain rfl:=hw'.symm)
 clear hc0 hi0 hne hnl h16';subst hm;have hm16:(c.size:Int)≤16:=by omega
 go_loopw [20] (fun s20 wr=>∃i:Nat,i≤c.size∧s20= .int .i64 (i:Int)∧wr=w) (fun s20 _=>c.size - (intOf s20).toNat)
 case atStart=>exact⟨0,Nat.zero_le _,rfl,rfl⟩
 case round=>
  obtain⟨i,hi,rfl,hwr⟩:=hrel;obtain rfl:=hwr;rcases Nat.lt_or_ge i c.size with hlt | hge
  ·have hci:=HCL.out i hlt;have hii:=HIX.out i hlt;generalize (c[i]'hlt).toNat=bi at hci hii;go_wp2_with (go_at_call 183;refine hci.mono ?_;rintro e w' ⟨rfl,hw'⟩;obtain rfl:=hw'.symm)
   go_roundw
   case rel=>exact⟨i+1,by omega,by go_num,by trivial⟩
   case measure=>simp[intOf];omega
  ·obtain rfl:i=c.size:=by omega
   go_wp2;go_ret;exact⟨rfl,by trivial⟩
theorem q_IsNameB {w:World}:Calls Tryz.prog 123 #[.string nmBad] w fun e w'=>e= .returned (.bool false)∧w'=w:=by
 have hc:=q_class1 (w:=w);go_enter Tryz.func123,Tryz.ntmps123
 go_wp2_with (go_at_call 183;refine hc.mono ?_;rintro e w' ⟨rfl,hw'⟩;obtain rfl:=hw'.symm)
 go_ret;exact⟨rfl,rfl⟩
def Nam (c:Nm):Prop:=dG c∨c=nmBad
theorem bad_not:¬dG nmBad:=fun h=>by
 have:=h.2.2 0 (by decide)
 revert this
 decide
theorem uR {w:World} (c:Nm) (h:Nam c):∃b:Bool,(b=true↔dG c)∧Calls Tryz.prog 123 #[.string c] w fun e w'=>e= .returned (.bool b)∧w'=w:=by
 rcases h with h | rfl
 ·exact⟨true,⟨fun _=>h,fun _=>rfl⟩,rl c h⟩
 ·exact⟨false,⟨fun h=>(by cases h),fun h=>absurd h bad_not⟩,q_IsNameB⟩
section
variable {w:World} {t m:Nat} {E:List Ch} {c p:Nm} {f:Int}
theorem xm (hc:Nam c) (hp:Nam p) (h:¬(dG c∧dG p)):Calls Tryz.prog 67 #[ptB t,.string c,.string p,.int .i64 f] w fun e w'=>e= .returned (.int .i64 5)∧w'=w:=by
 obtain⟨b1,h1,k1⟩:=uR (w:=w) c hc;obtain⟨b2,h2,k2⟩:=uR (w:=w) p hp
 cases b1 with
 | false=>
  clear h1 h2 k2 h hc hp;go_enter Tryz.func67,Tryz.ntmps67
  go_wp2_with (go_at_call 123;with_reducible refine k1.mono ?_;rintro e w' ⟨rfl,hw'⟩;obtain rfl:=hw'.symm)
  go_ret;exact⟨rfl,rfl⟩
 | true=>
  cases b2 with
  | true=>exact absurd ⟨h1.1 rfl,h2.1 rfl⟩ h
  | false=>
   clear h1 h2 h hc hp;go_enter Tryz.func67,Tryz.ntmps67
   go_wp2_with (first
    | (go_at_call 123;with_reducible refine k1.mono ?_;rintro e w' ⟨rfl,hw'⟩;obtain rfl:=hw'.symm)
    | (go_at_call 123;with_reducible refine k2.mono ?_;rintro e w' ⟨rfl,hw'⟩;obtain rfl:=hw'.symm))
   go_ret;exact⟨rfl,rfl⟩
theorem jI (h:dG c):Calls Tryz.prog 123 #[.string c] w fun e w'=>e= .returned (.bool true)∧w'=w:=rl c h
theorem xp (h:TM w t m E) (hc:dG c) (hp:dG p) (ht:f<0∨1099511627776<f∨(∃l,opL (lsE E c)=some l)∨∃l,(lsE E c).getLast? =some l∧f<l.x.un):
  Calls Tryz.prog 67 #[ptB t,.string c,.string p,.int .i64 f] w fun e w'=>e= .returned (.int .i64 17)∧w'=w:=by
 have k1:=jI (w:=w) hc;have k2:=jI (w:=w) hp;have h1:=h.cell;have h2:=h.look c;have hop:=kj h c;clear hc hp;by_cases c1:f<0
 ·clear ht hop h;generalize mF E c=v at h2;go_enter Tryz.func67,Tryz.ntmps67
  go_wp2_with (first
    | (go_at_call 123;with_reducible refine k1.mono ?_;rintro e w' ⟨rfl,hw'⟩;obtain rfl:=hw'.symm)
    | (go_at_call 123;with_reducible refine k2.mono ?_;rintro e w' ⟨rfl,hw'⟩;obtain rfl:=hw'.symm))
  go_ret;exact⟨rfl,rfl⟩
 ·have c1':decide (f<0)=false:=decide_eq_false c1;by_cases c2:1099511627776<f
  ·clear ht hop h c1;generalize mF E c=v at h2;go_enter Tryz.func67,Tryz.ntmps67
   go_wp2_with (first
    | (go_at_call 123;with_reducible refine k1.mono ?_;rintro e w' ⟨rfl,hw'⟩;obtain rfl:=hw'.symm)
    | (go_at_call 123;with_reducible refine k2.mono ?_;rintro e w' ⟨rfl,hw'⟩;obtain rfl:=hw'.symm))
   go_ret;exact⟨rfl,rfl⟩
  ·have c2':decide (1099511627776<f)=false:=decide_eq_false c2
   cases ho:opL (lsE E c)with
   | some l=>
    rw[ho]at hop
    change Calls _ _ _ _ (fun e w'=>e= .returned (ptB l.b)∧w'=w)at hop
    clear ht h c1 c2 ho;generalize mF E c=v at h2;generalize l.b=lb at hop;go_enter Tryz.func67,Tryz.ntmps67
    go_wp2_with (first
     | (go_at_call 123;with_reducible refine k1.mono ?_;rintro e w' ⟨rfl,hw'⟩;obtain rfl:=hw'.symm)
     | (go_at_call 123;with_reducible refine k2.mono ?_;rintro e w' ⟨rfl,hw'⟩;obtain rfl:=hw'.symm)
     | (go_at_call 124;refine hop.mono ?_;rintro e w' ⟨rfl,hw'⟩;obtain rfl:=hw'.symm))
    go_ret;exact⟨rfl,rfl⟩
   | none=>
    rw[ho]at hop ht
    change Calls _ _ _ _ (fun e w'=>e= .returned (.pointer none)∧w'=w)at hop
    obtain⟨l,hl,hlt⟩:∃l,(lsE E c).getLast? =some l∧f<l.x.un:=by
     rcases ht with ht | ht | ⟨_,ht⟩ | ht
     ·exact absurd ht c1
     ·exact absurd ht c2
     ·cases ht
     ·exact ht
    unfold lsE at hl
    cases hch:chE E c with
    | none=>rw[hch]at hl;cases hl
    | some ch=>
     rw[hch]at hl;have H:=h.chAt hch;have hl:ch.ls.getLast? =some l:=hl;obtain⟨N,hN⟩:∃N,N=ch.ls.length:=⟨_,rfl⟩;have hpos:=List.length_pos_iff.2 H.ne;rw[List.getLast?_eq_getElem?,←hN]at hl;have hcl:=H.cell hl;have hun:=(h.ln hch (List.mem_of_getElem? hl)).un;have hm:(N:Int)≤9223372036854775807:=by have:=H.le;have:=H.cap;unfold maxLen at this;omega
     have hk:((N:Int) - 1).toNat=N - 1:=by omega
     have hk0:(0:Int)<N:=by omega
     have hk1:(1:Int)≤N:=by omega
     have hk2:(N:Int) - 1<N:=by omega
     replace h2:(Instr.lookup mpT (.map (some m)) (.string c) false).run Tryz.prog w= .ok (.slice (some ⟨ch.rb,0,none⟩) N ch.cap) w:=by rw[h2];unfold mF;rw[hch,hN];rfl
     clear ht h c1 c2 ho H hl hch hpos hN;generalize ch.rb=rb at *;generalize ch.cap=cap at *;generalize l.b=lb at *;generalize l.x.un=un at *;go_enter Tryz.func67,Tryz.ntmps67
     go_wp2_with (first
      | (go_at_call 123;with_reducible refine k1.mono ?_;rintro e w' ⟨rfl,hw'⟩;obtain rfl:=hw'.symm)
      | (go_at_call 123;with_reducible refine k2.mono ?_;rintro e w' ⟨rfl,hw'⟩;obtain rfl:=hw'.symm)
      | (go_at_call 124;refine hop.mono ?_;rintro e w' ⟨rfl,hw'⟩;obtain rfl:=hw'.symm))
     go_ret;exact⟨rfl,rfl⟩
theorem kk {l:List Nm} (h:l.Nodup) (c:Nm):(mH l c).Nodup:=by
 unfold mH;split
 ·exact h
 ·rename_i hc;exact List.nodup_append.2 ⟨h,by simp,fun a ha b hb=>by simp at hb;subst hb;exact fun e=>hc (e▸ha)⟩
theorem dedup:∀l:List Nm,∃l':List Nm,l'.Nodup∧∀x,x∈l'↔x∈l
 | []=>⟨[],List.nodup_nil,fun _=>Iff.rfl⟩
 | c::l=>by
  obtain⟨l',h1,h2⟩:=dedup l;exact⟨mH l' c,kk h1 c,fun x=>by rw[iV,h2,List.mem_cons];exact or_comm⟩
theorem xq (R:Tr) (c p:Nm):∃n,bS (fun x=>a8 R x∨x=c∨x=p) n:=by
 obtain⟨l,h1,h2⟩:=dedup (c::p::(R.flatMap fun q=>[q.1,q.2.par]));refine⟨l.length,l,h1,fun x=> ?_,rfl⟩;rw[h2];simp only[List.mem_cons,List.mem_flatMap,a8,List.not_mem_nil,or_false];constructor
 ·rintro(h | h | ⟨q,h,h'⟩)
  ·exact .inr (.inl h)
  ·exact .inr (.inr h)
  ·exact .inl ⟨q,h,h'.imp Eq.symm Eq.symm⟩
 ·rintro(⟨q,h,h'⟩ | h | h)
  ·exact .inr (.inr ⟨q,h,h'.imp Eq.symm Eq.symm⟩)
  ·exact .inl h
  ·exact .inr (.inl h)
theorem fY.len {b:Nat} {l:List Nm} (h:fY w b l):(Builtin.len_ #[smT] 3 #[.map (some b)]).run Tryz.prog w= .ok (.int .i64 (l.length:Int)) w:=by
 obtain⟨es,clock,h1,_,h2⟩:=h;have h3:es.size=l.length:=by have:=congrArg List.length h2;simpa using this
 simp[Builtin.len_,Sem.run_bind,run_underlying Tryz.underlying150,Result.andThen,Go.MapKept.run_getObj_map h1,goInt,h3]
theorem fY.size {b:Nat} {l:List Nm} (h:fY w b l):∃(es:Array MapEntry) (clock:Nat),w.heap[b]? =some (.map es clock)∧es.size=l.length:=by
 obtain⟨es,clock,h1,_,h2⟩:=h;refine⟨es,clock,h1,?_⟩;have:=congrArg List.length h2;simpa using this
theorem ec {w1:World} {b n0:Nat} {l:List Nm} (hS:fY w1 b l) (hl:∀x,x∈l↔sY E x) (hn:bS (fun x=>a8 (trE E) x∨x=c∨x=p) n0):
  ∃(w2 w3:World),(Instr.mapUpdate smT (.map (some b)) (.string c) (.bool true)).run Tryz.prog w1= .ok () w2∧(Instr.mapUpdate smT (.map (some b)) (.string p) (.bool true)).run Tryz.prog w2= .ok () w3∧(Builtin.len_ #[smT] 3 #[.map (some b)]).run Tryz.prog w3= .ok (.int .i64 (n0:Int)) w3∧Upd w1 b w3:=by
 obtain⟨w2,h1,h2,h3⟩:=hS.upd c;obtain⟨w3,h4,h5,h6⟩:=h2.upd p;have h8:=h5.len;rw[bS.uniq ⟨_,kk (kk hS.nodup c) p,fun x=> ?_,rfl⟩ hn]at h8
 ·exact⟨w2,w3,h1,h4,h8,h3.trans h6⟩
 rw[iV,iV,hl,jq,or_assoc]
structure TimeOk (E:List Ch) (c:Nm) (f:Int):Prop where
 lo:0≤f
 hi:f≤1099511627776
 op:opL (lsE E c)=none
 la:∀l,(lsE E c).getLast? =some l→l.x.un≤f
theorem mI {ch:Ch} (h:TM w t m E) (ht:TimeOk E c f) (hch:chE E c=some ch):∃(N rb cap lb:Nat) (un:Int),(Instr.lookup mpT (.map (some m)) (.string c) false).run Tryz.prog w= .ok (.slice (some ⟨rb,0,none⟩) N cap) w∧w.cell? ⟨rb,N - 1,none⟩=some (ptB lb)∧
  w.cell? ⟨lb,3,none⟩=some (.int .i64 un)∧N=(lsE E c).length∧(N:Int)≤9223372036854775807∧((N:Int) - 1).toNat=N - 1∧(0:Int)<N∧(1:Int)≤N∧(N:Int) - 1<N∧decide (f<un)=false:=by
 have H:=h.chAt hch;have hpos:=List.length_pos_iff.2 H.ne;have hl:lsE E c=ch.ls:=by unfold lsE;rw[hch];rfl
 obtain⟨l,hg⟩:∃l,ch.ls[ch.ls.length - 1]? =some l:=⟨_,List.getElem?_eq_getElem (by omega)⟩;refine⟨ch.ls.length,ch.rb,ch.cap,l.b,l.x.un,by rw[h.look c];unfold mF;rw[hch];rfl,H.cell hg,(h.ln hch (List.mem_of_getElem? hg)).un,by rw[hl],by have:=H.le;have:=H.cap;unfold maxLen at this;omega,by omega,by omega,by omega,by omega,decide_eq_false ?_⟩;have:=ht.la l (by rw[hl,List.getLast?_eq_getElem?];exact hg);omega
theorem xr {n0:Nat} (h:TM w t m E) (hc:dG c) (hp:dG p) (ht:TimeOk E c f) (hn:bS (fun x=>a8 (trE E) x∨x=c∨x=p) n0) (h24:24<n0):
  Calls Tryz.prog 67 #[ptB t,.string c,.string p,.int .i64 f] w fun e w'=>e= .returned (.int .i64 15)∧Below w.heap.size w w':=by
 have k1:=jI (w:=w) hc;have k2:=jI (w:=w) hp;have h1:=h.cell;have h2:=h.look c;have hop:=kj h c;have hkn:=lP h;have c1:decide (f<0)=false:=decide_eq_false (by have:=ht.lo;omega);have c2:decide (1099511627776<f)=false:=decide_eq_false (by have:=ht.hi;omega);rw[ht.op]at hop
 change Calls _ _ _ _ (fun e w'=>e= .returned (.pointer none)∧w'=w)at hop
 have HN:=Lib.hid hn;have h24':(24:Int)<(n0:Int):=by omega
 cases hch:chE E c with
 | none=>
  replace h2:(Instr.lookup mpT (.map (some m)) (.string c) false).run Tryz.prog w= .ok (.slice none 0 0) w:=by rw[h2];unfold mF;rw[hch];rfl
  clear hc hp ht hn h24 h hch;go_enter Tryz.func67,Tryz.ntmps67
  go_wp2_with (first
   | (go_at_call 123;with_reducible refine k1.mono ?_;rintro e w' ⟨rfl,hw'⟩;obtain rfl:=hw'.symm)
   | (go_at_call 123;with_reducible refine k2.mono ?_;rintro e w' ⟨rfl,hw'⟩;obtain rfl:=hw'.symm)
   | (go_at_call 124;refine hop.mono ?_;rintro e w' ⟨rfl,hw'⟩;obtain rfl:=hw'.symm)
   | (go_at_call 89;refine hkn.mono ?_;rintro e w1 ⟨b,l,rfl,hS,hbl,hl,hb⟩;obtain⟨w2,w3,hm1,hm2,hm3,hu3⟩:=ec hS hl HN.out;have HB:=Lib.hid (hu3.below hb hbl);clear hb hl hS hbl hu3))
  go_ret;exact⟨rfl,HB.out⟩
 | some ch=>
  obtain⟨N,rb,cap,lb,un,hl2,hcl,hun,hN,hm,hk,hk0,hk1,hk2,hu⟩:=mI h ht hch;clear h2;clear hc hp ht hn h24 h hch hN;go_enter Tryz.func67,Tryz.ntmps67
  go_wp2_with (first
   | (go_at_call 123;with_reducible refine k1.mono ?_;rintro e w' ⟨rfl,hw'⟩;obtain rfl:=hw'.symm)
   | (go_at_call 123;with_reducible refine k2.mono ?_;rintro e w' ⟨rfl,hw'⟩;obtain rfl:=hw'.symm)
   | (go_at_call 124;refine hop.mono ?_;rintro e w' ⟨rfl,hw'⟩;obtain rfl:=hw'.symm)
   | (go_at_call 89;refine hkn.mono ?_;rintro e w1 ⟨b,l,rfl,hS,hbl,hl,hb⟩;obtain⟨w2,w3,hm1,hm2,hm3,hu3⟩:=ec hS hl HN.out;have HB:=Lib.hid (hu3.below hb hbl);clear hb hl hS hbl hu3))
  go_ret;exact⟨rfl,HB.out⟩
theorem xt {n0:Nat} (h:TM w t m E) (hc:dG c) (hp:dG p) (ht:TimeOk E c f) (hn:bS (fun x=>a8 (trE E) x∨x=c∨x=p) n0) (h24:n0≤24) (h64:64≤(lsE E c).length):
  Calls Tryz.prog 67 #[ptB t,.string c,.string p,.int .i64 f] w fun e w'=>e= .returned (.int .i64 15)∧Below w.heap.size w w':=by
 have k1:=jI (w:=w) hc;have k2:=jI (w:=w) hp;have h1:=h.cell;have h2:=h.look c;have hop:=kj h c;have hkn:=lP h;have c1:decide (f<0)=false:=decide_eq_false (by have:=ht.lo;omega);have c2:decide (1099511627776<f)=false:=decide_eq_false (by have:=ht.hi;omega);rw[ht.op]at hop
 change Calls _ _ _ _ (fun e w'=>e= .returned (.pointer none)∧w'=w)at hop
 have HN:=Lib.hid hn;have h24':decide ((24:Int)<(n0:Int))=false:=decide_eq_false (by omega)
 cases hch:chE E c with
 | none=>unfold lsE at h64;rw[hch]at h64;exact absurd h64 (by simp)
 | some ch=>
  obtain⟨N,rb,cap,lb,un,hl2,hcl,hun,hN,hm,hk,hk0,hk1,hk2,hu⟩:=mI h ht hch;clear h2;have hN2:(64:Int)≤N:=by omega
  clear hc hp ht hn h24 h hch hN h64;go_enter Tryz.func67,Tryz.ntmps67
  go_wp2_with (first
   | (go_at_call 123;with_reducible refine k1.mono ?_;rintro e w' ⟨rfl,hw'⟩;obtain rfl:=hw'.symm)
   | (go_at_call 123;with_reducible refine k2.mono ?_;rintro e w' ⟨rfl,hw'⟩;obtain rfl:=hw'.symm)
   | (go_at_call 124;refine hop.mono ?_;rintro e w' ⟨rfl,hw'⟩;obtain rfl:=hw'.symm)
   | (go_at_call 89;refine hkn.mono ?_;rintro e w1 ⟨b,l,rfl,hS,hbl,hl,hb⟩;obtain⟨w2,w3,hm1,hm2,hm3,hu3⟩:=ec hS hl HN.out;have HB:=Lib.hid (hu3.below hb hbl);clear hb hl hS hbl hu3))
  go_ret;exact⟨rfl,HB.out⟩
open Classical in
theorem q_att_cyc {n0:Nat} (h:TM w t m E) (hE:TOk (trE E)) (hc:dG c) (hp:dG p) (ht:TimeOk E c f) (hn:bS (fun x=>a8 (trE E) x∨x=c∨x=p) n0) (h24:n0≤24) (h64:(lsE E c).length<64) (hy:Cyc (trE E) c p f):
  Calls Tryz.prog 67 #[ptB t,.string c,.string p,.int .i64 f] w fun e w'=>e= .returned (.int .i64 19)∧Below w.heap.size w w':=by
 have k1:=jI (w:=w) hc;have k2:=jI (w:=w) hp;have h1:=h.cell;have h2:=h.look c;have hop:=kj h c;have hkn:=lP h;have c1:decide (f<0)=false:=decide_eq_false (by have:=ht.lo;omega);have c2:decide (1099511627776<f)=false:=decide_eq_false (by have:=ht.hi;omega);rw[ht.op]at hop
 change Calls _ _ _ _ (fun e w'=>e= .returned (.pointer none)∧w'=w)at hop
 have HN:=Lib.hid hn;have h24':decide ((24:Int)<(n0:Int))=false:=decide_eq_false (by omega);have HT:=Lib.hid h;have HE:=Lib.hid hE;have HY:=Lib.hid (decide_eq_true hy)
 cases hch:chE E c with
 | none=>
  replace h2:(Instr.lookup mpT (.map (some m)) (.string c) false).run Tryz.prog w= .ok (.slice none 0 0) w:=by rw[h2];unfold mF;rw[hch];rfl
  clear hc hp ht hn h24 h hch h64 hE hy;go_enter Tryz.func67,Tryz.ntmps67
  go_wp2_with (first
   | (go_at_call 123;with_reducible refine k1.mono ?_;rintro e w' ⟨rfl,hw'⟩;obtain rfl:=hw'.symm)
   | (go_at_call 123;with_reducible refine k2.mono ?_;rintro e w' ⟨rfl,hw'⟩;obtain rfl:=hw'.symm)
   | (go_at_call 124;refine hop.mono ?_;rintro e w' ⟨rfl,hw'⟩;obtain rfl:=hw'.symm)
   | (go_at_call 89;refine hkn.mono ?_;rintro e w1 ⟨b,l,rfl,hS,hbl,hl,hb⟩;obtain⟨w2,w3,hm1,hm2,hm3,hu3⟩:=ec hS hl HN.out;have HB:=Lib.hid (hu3.below hb hbl);have hcy:=n4 (HT.out.below HB.out) HE.out c p f;rw[HY.out]at hcy;clear hb hl hS hbl hu3)
   | (go_at_call 125;refine hcy.mono ?_;rintro e w4 ⟨rfl,hb4⟩;have HB4:=Lib.hid hb4;clear hb4))
  go_ret;exact⟨rfl,HB.out.trans (HB4.out.mono HB.out.size)⟩
 | some ch=>
  obtain⟨N,rb,cap,lb,un,hl2,hcl,hun,hN,hm,hk,hk0,hk1,hk2,hu⟩:=mI h ht hch;clear h2;have hN2:decide ((64:Int)≤N)=false:=decide_eq_false (by omega);clear hc hp ht hn h24 h hch h64 hE hy hN;go_enter Tryz.func67,Tryz.ntmps67
  go_wp2_with (first
   | (go_at_call 123;with_reducible refine k1.mono ?_;rintro e w' ⟨rfl,hw'⟩;obtain rfl:=hw'.symm)
   | (go_at_call 123;with_reducible refine k2.mono ?_;rintro e w' ⟨rfl,hw'⟩;obtain rfl:=hw'.symm)
   | (go_at_call 124;refine hop.mono ?_;rintro e w' ⟨rfl,hw'⟩;obtain rfl:=hw'.symm)
   | (go_at_call 89;refine hkn.mono ?_;rintro e w1 ⟨b,l,rfl,hS,hbl,hl,hb⟩;obtain⟨w2,w3,hm1,hm2,hm3,hu3⟩:=ec hS hl HN.out;have HB:=Lib.hid (hu3.below hb hbl);have hcy:=n4 (HT.out.below HB.out) HE.out c p f;rw[HY.out]at hcy;clear hb hl hS hbl hu3)
   | (go_at_call 125;refine hcy.mono ?_;rintro e w4 ⟨rfl,hb4⟩;have HB4:=Lib.hid hb4;clear hb4))
  go_ret;exact⟨rfl,HB.out.trans (HB4.out.mono HB.out.size)⟩
end
end Go.Proofs.YtggfmklppkioeaaGreat
