/- The reference's Gcd. -/
import Derived.Test.YtggfmklppkioeaaGreatL02
import Derived.Laws.AppendOwn
import Derived.Laws.Sem
namespace Go.Proofs.YtggfmklppkioeaaGreat
set_option linter.unusedSimpArgs false
set_option linter.unusedVariables false
set_option maxRecDepth 100000
open Go.RowKit
open _root_.Go renaming Addr → A0,Calls → AF,Ending → By,Exit → A8,FuncId → BH,Operand → AS,Program → AZ,wpAny_ready → BX
open _root_.Go.Act renaming eval → Di,put → AL
open _root_.Go.AllReady renaming cons → BI,nil → BV
open _root_.Array renaming getD_eq_getD_getElem? → Fc,getElem?_eq_some_iff → A2,getElem?_setIfInBounds → DV,getElem?_toList → BR,length_toList → ED,replicate → Cv,toArray_toList → EF,toList_append → Fg,toList_map → E9
open _root_.Go.RowKit.Below renaming refl → AH
open _root_.Bool renaming and_eq_true → BU,eq_iff_iff → FF,false_eq_true → Ed,or_eq_true → Eb
open _root_.Go.Call renaming operands → Ff
open _root_.Classical renaming byContradiction → DT
open _root_.Go.Instr renaming fieldAt → Fe,index → Ef,indexAt → Fd,loadAt → CX,sliceAt → CI,sureAddr → DZ
open _root_.Go.Lib renaming hid → AE
open _root_.List renaming all_eq_true → Cc,contains_iff_mem → CN,find?_eq_none → C7,find?_some → DY,flatMap_cons → Cx,getElem?_append_left → BB,getElem?_eq_getElem → AM,getElem?_eq_none → EH,getElem?_eq_some_iff → A1,getElem?_take → BJ,getElem_of_mem → BL,length_cons → Bh,map_cons → Bq,map_nil → BS,map_toArray → CJ,mem_append → AJ,mem_cons → AY,mem_cons_of_mem → Bi,mem_flatMap → Br,mem_map → Be,mem_of_find?_eq_some → Dl,mem_range → C6,mem_singleton → BP,range → Bm,setIfInBounds_toArray → AO,set_cons_succ → AQ,set_cons_zero → AP
open _root_.Nat renaming add_zero → CL,div_add_mod → Ci,div_le_self → Ea,gcd → AR,le_refl → AI,le_trans → AG,lt_of_lt_of_le → Bv,mul_ne_zero → Cn,pos_of_ne_zero → Dy,zero_add → A7
open _root_.Go.Op renaming operands → DB
open _root_.Go.Oper renaming upon_value → EG,wp → Bk
open _root_.Option renaming bind_some → EI,map_some → BG,some → A4
open _root_.Prod renaming mk → Cm
open _root_.Go.Region renaming ready → BK,wanted → A6
open _root_.Go.Result renaming andThen → AU
open _root_.Go.Sem renaming run → CW,run_bind → AK,run_pure → Bu
open _root_.Go.Proofs.Tryz renaming prog → AD
open _root_.Go.Value renaming int → AN
open _root_.Go.World renaming cell?_of_block → Cb,drew → CA,size_alloc → Ct
structure GT(w wx:World)(x y:Nat):Prop where
 below:mBw w wx
 res:aW wx (w.heap.size+2) none 0 0
 v1:dS wx w.heap.size x
 v2:dS wx (w.heap.size+1) y
variable{w w':World}
theorem GT.mono{wx:World}{x y:Nat}(h:GT w wx x y)(hb:mBw wx w'):GT w w' x y:=
 ⟨h.below.trans (hb.mono h.below.size),h.res.mono hb h.res.lt,h.v1.mono hb,h.v2.mono hb⟩
variable{N:Nat}
theorem gt_set{G:World}{K P M F cy:Nat}{x y:Option A0}(h:GT w G K P)(J:IsN G (.agg #[.slice x (nl M) F]) M)(hy:IsN G (.agg #[.slice y (nl N) cy]) N):
  GT w ((G.setCell ⟨w.heap.size,0,none⟩ (.slice x (nl M) F)).setCell ⟨w.heap.size+1,0,none⟩ (.slice y (nl N) cy)) M N:=by
 obtain⟨U,c1,H,Y⟩:=h.v1;obtain⟨V,c2,I,Z⟩:=h.v2;have C:=I.setOther ⟨w.heap.size,0,none⟩ (.slice x (nl M) F) Ad;exact⟨(h.below.setCell (p:=⟨w.heap.size,0,none⟩) (AI _) _).setCell (p:=⟨w.heap.size+1,0,none⟩) (Nat.le_succ _) _,(h.res.setOther _ _ Ad).setOther _ _ Ad,
  ⟨x,F,H.set.setOther _ _ Ad,(J.setVar H).setVar C⟩,⟨y,cy,C.set,(hy.setVar H).setVar C⟩⟩
noncomputable def valI(w:World)(g:Nat):Nat:=Classical.epsilon (λN=>dS w g N)
variable{g:Nat}
theorem dS.val(h:dS w g N):valI w g=N:=by
 obtain⟨a',G,F,C⟩:=Classical.epsilon_spec (p:=λN=>dS w g N) ⟨N,h⟩;obtain⟨a,c,hb,hn⟩:=h;have e:=F.symm.trans hb;simp only[A4.injEq,Obj.cells.injEq,Array.mk.injEq,List.cons.injEq,Value.slice.injEq,and_true]at e;rw[e.1,e.2.1,e.2.2]at C;exact C.unique hn
set_option maxRecDepth 100000 in
set_option maxHeartbeats 4000000 in
theorem c_ref_Gcd(va vb:Value)(m n:Nat)(w:World)(ha:IsN w va m)(hb:IsN w vb n)(hm:nl m<=100000000000)(hn:nl n<=100000000000):
  AF AD 261 #[va,vb] w λe w'=>RetN w (AR m n) e w':=by
 obtain⟨a,ca,rfl,an,ra⟩:=ha;obtain⟨b,cb,rfl,ao,rb⟩:=hb;go_enter Tryz.func261,Tryz.ntmps261
 go_upto_region 0 with(fail)
 go_cut [2,3,4] (λs2 s3 s4 wx=>s2= .pointer (some ⟨w.heap.size,0,none⟩)/\s3= .pointer (some ⟨w.heap.size+1,0,none⟩)/\s4= .pointer (some ⟨w.heap.size+2,0,none⟩)/\GT w wx m n)
 case first=>
  obtain⟨Z,k1,k2⟩:=box2 (L:=nl m) (c:=ca) (N:=m) (L2:=nl n) (c2:=cb) (N2:=n) ⟨a,ca,rfl,an,ra⟩ ⟨b,cb,rfl,ao,rb⟩;have k3:=iE ((w.alloc (.cells #[.slice a (nl m) ca] 31)).alloc (.cells #[.slice b (nl n) cb] 31)) (.cells #[.slice none 0 0] 31);have k4:=aW.made ((w.alloc (.cells #[.slice a (nl m) ca] 31)).alloc (.cells #[.slice b (nl n) cb] 31)) none 0 0;rw[Ct,Ct]at k4;have hT:GT w _ m n:=⟨Z.trans (k3.mono Z.size),k4,jH.mono k1 k3,jH.mono k2 k3⟩;go_wp2_with fail
  go_meet;case rel=>exact⟨rfl,rfl,rfl,hT⟩
 case rest=>
  obtain⟨rfl,rfl,rfl,hT⟩:=hcut;clear ra rb an ao;go_wp2_with fail
  go_loopw [] (λwr=>∃x y:Nat,Hid (AR x y=AR m n)/\nl x<=100000000000/\nl y<=100000000000/\GT w wr x y) (λwr=>valI wr (w.heap.size+1))
  case atStart=>exact⟨m,n,AE rfl,hm,hn,hT⟩
  case round=>
   clear hT;obtain⟨x,y,ad,hx,hy,hs⟩:=hrel;obtain⟨ax,cx,vx,nx⟩:=hs.v1;obtain⟨ay,cy,vy,ny⟩:=hs.v2;have c5:=vx.cell;have c6:=vy.cell;have cr:=hs.res.cell;have fr:=hs.res.frozen;by_cases hy0:y=0
   ·subst hy0;rw[bK]at c6;have a3:x=AR m n:=by have:=ad.out;rwa [Nat.gcd_zero_right]at this
    have a7:=AE a3;clear a3;have ap:=nx.setVar (u:=.slice ax (nl x) cx) hs.res;have Y:=(hs.res.set (a':=ax) (L':=nl x) (c':=cx)).cell;have am:=hs.below.setCell (p:=⟨w.heap.size+2,0,none⟩) (Nat.le_add_right _ _) (.slice ax (nl x) cx);go_wp2;exact bodyPost_ret (e8 rfl _ _ (w.heap.size+2) _ rfl Y) rfl ⟨_,rfl,by rw[<-a7.out];exact ap,am⟩
   ·have b0:=dY hy0;have ak:=AE hy0;clear hy0;go_wp2_with fail
    refine(lX _ _ x y _ nx ny hx hy ak.out).mono ?_;rintro e w1 ⟨vq,vr,rfl,nq,nr,V⟩;obtain⟨I,P⟩:∃N:Nat,Hid (N=x % y):=⟨_,AE rfl⟩;obtain⟨Q0,a9⟩:∃N:Nat,Hid (N=x / y):=⟨_,AE rfl⟩;rw[<-P.out]at nr;rw[<-a9.out]at nq;obtain⟨aq,cq,rfl,bO,bi⟩:=nq;obtain⟨ar,H,rfl,bb,a4⟩:=nr;obtain⟨Z,k1,k2⟩:=zF w1 aq ar (nl Q0) cq (nl I) H;have nr:IsN w1 (.agg #[.slice ar (nl I) H]) I:=aV.isN ⟨ar,H,rfl,bb,a4⟩;have C:=V.trans (Z.mono V.size);go_upto_region 3 with(fail)
    have k3:=aN (AH ((w1.alloc (.cells #[.slice aq (nl Q0) cq] 31)).alloc (.cells #[.slice ar (nl I) H] 31)).heap.size ((w1.alloc (.cells #[.slice aq (nl Q0) cq] 31)).alloc (.cells #[.slice ar (nl I) H] 31))) 1;refine wp_region_any Aa ?_
    change wpAny _ _ _ _ _ _ _ (CA _)
    have a0:=hs.mono (C.trans (k3.mono C.size));have a5:=nr.mono (Z.trans (k3.mono Z.size));have a6:=ny.mono (C.trans (k3.mono C.size));have v8:aW (World.drewN _ 1) (w1.heap.size+1) ar (nl I) H:=k2.mono k3 k2.lt;have ab:=vy.mono (C.trans (k3.mono C.size)) vy.lt;have aa:=vx.mono (C.trans (k3.mono C.size)) vx.lt;have be:w1.heap.size+1≠w.heap.size:=by have:=vx.lt;have:=V.size;omega
    have G:=Nat.mod_lt x (Dy ak.out);rw[<-P.out]at G;have au:AR y I=AR m n:=by rw[P.out,<-ad.out,Nat.gcd_comm x y,Nat.gcd_rec y x,Nat.gcd_comm]
    have ac:=AE au;have av:nl I<=100000000000:=AG (dZ (Nat.le_of_lt G)) hy;clear au c5 c6 cr fr Z k1 k2 k3 C bi a4
    change GT w (CA _) x y at a0
    change IsN (CA _) _ _ at a5
    change IsN (CA _) _ _ at a6
    change aW (CA _) _ _ _ _ at v8
    change aW (CA _) _ _ _ _ at ab
    change aW (CA _) _ _ _ _ at aa
    generalize CA _=w3 at *;have U:=gt_set a0 a6 a5;have bp:=v8.setOther ⟨w.heap.size,0,none⟩ (.slice ay (nl y) cy) (λe=>be e.symm);have J:=ab.setOther ⟨w.heap.size,0,none⟩ (.slice ay (nl y) cy) Ad;have a1:=hs.v2.val;have a2:=U.v2.val;have c6:=ab.cell;have c8:=v8.cell;have f5:=aa.frozen;have c5:=aa.cell;have bq:=J.cell;have bz:=J.frozen;have bt:=bp.cell;refine eI (some 19) 0 2 (?v3_0_1) rfl rfl it rfl rfl Aa Aa (λ_ _ _ h=>h) ⟨Af,?hy3_0_1⟩ ?_;case hy3_0_1=>(go_simp;try with_reducible rfl)
    try simp only[AL,AO,AP,AQ]
    refine BX (rs:=[1,2]) Aa Ad ?_;refine BI rfl (λK F=> ?_) ?_
    ·go_simp
     refine F _ _ ?_;clear F K;try simp only[AL,AO,AP,AQ]
     refine BX (rs:=[2]) Aa Ad ?_;refine BI rfl (λK F=> ?_) BV;go_simp;refine F _ _ ?_;clear F K;try simp only[AL,AO,AP,AQ]
     refine BX (rs:=[3]) Aa Ad ?_;refine BI rfl (λK F=> ?_) BV;go_simp;refine F _ _ ?_;clear F K;try simp only[AL,AO,AP,AQ]
     refine wpAny_done Aa ?_ _;go_wp2_with fail
     go_roundw
     case rel=>exact⟨y,I,ac,hy,av,U⟩
     case measure=>rw[a1,a2];exact G
    refine BI rfl (λK F=> ?_) ?_
    ·go_simp
     refine F _ _ ?_;clear F K;try simp only[AL,AO,AP,AQ]
     refine BX (rs:=[1]) Aa Ad ?_;refine BI rfl (λK F=> ?_) BV;go_simp;refine F _ _ ?_;clear F K;try simp only[AL,AO,AP,AQ]
     refine BX (rs:=[3]) Aa Ad ?_;refine BI rfl (λK F=> ?_) BV;go_simp;refine F _ _ ?_;clear F K;try simp only[AL,AO,AP,AQ]
     refine wpAny_done Aa ?_ _;go_wp2_with fail
     go_roundw
     case rel=>exact⟨y,I,ac,hy,av,U⟩
     case measure=>rw[a1,a2];exact G
    exact BV
section
variable {Q:A8->Act->World->Prop} {o:Oper} {a:Act} {w:World} {x y:AS} {m n:Nat} {tt:Array TypeId}
end
variable{v:Value}
theorem IsN.shape(h:IsN w v N):∃x c,v= .agg #[.slice x (nl N) c]:=by
 obtain⟨x,c,rfl,_⟩:=h;exact⟨x,c,rfl⟩
section
variable {P:AZ} {Q:A8->Act->World->Prop} {md:Region.Mode}
end
def IsF(w:World)(v:Value)(s:Bool)(p q:Nat):Prop:=∃a c b d,v= .agg #[.bool s,.slice a (nl p) c,.slice b (nl q) d]/\IsN w (.agg #[.slice a (nl p) c]) p/\IsN w (.agg #[.slice b (nl q) d]) q
theorem IsF.mono{s:Bool}{p q:Nat}(h:IsF w v s p q)(hb:mBw w w'):IsF w' v s p q:=by
 obtain⟨a,c,b,d,rfl,h1,h2⟩:=h;exact⟨a,c,b,d,rfl,h1.mono hb,h2.mono hb⟩
section
variable {w w':World} {g L c M d B:Nat} {s:Bool} {a b:Option A0}
end
def RetF(W:World)(s:Bool)(p q:Nat)(e:By)(w':World):Prop:=∃v,e= .returned v/\IsF w' v s p q/\mBw W w'
theorem c_isZero(va:Value)(m:Nat)(w:World)(ha:IsN w va m)(H:nl m<=1000000000000):
  AF AD 197 #[va] w λe w'=>bH w (.bool (decide (m=0))) e w':=by
 obtain⟨a,C,rfl,F,I⟩:=ha;have G:=iE w (.cells #[.slice a (nl m) C] 31);have v1:=aW.made w a (nl m) C;have c1:=v1.cell;have e:(((nl m:Nat):Int)==0)=decide (m=0):=by
  rw[FF];simp[kX]
 go_enter Tryz.func197,Tryz.ntmps197
 go_wp2;go_ret;exact⟨by first | rfl | (rw[<-e];rfl) | simp_all,G⟩
theorem c_zero(va:Value)(m:Nat)(w:World)(ha:IsN w va m)(H:nl m<=1000000000000):
  AF AD 260 #[va] w λe w'=>bH w (.bool (decide (m=0))) e w':=by
 obtain⟨a,C,rfl,F,I⟩:=ha;have G:=iE w (.cells #[.slice a (nl m) C] 31);have v1:=aW.made w a (nl m) C;have c1:=v1.cell;have e:(((nl m:Nat):Int)==0)=decide (m=0):=by
  rw[FF];simp[kX]
 go_enter Tryz.func260,Tryz.ntmps260
 go_wp2;go_ret;exact⟨by first | rfl | (rw[<-e];rfl) | simp_all,G⟩
section
variable {w:World} {g L c M d L' c' M' d':Nat} {s s':Bool} {a b a' b':Option A0}
end
section
variable {Q:A8->Act->World->Prop} {o:Oper} {a:Act} {w:World} {x y z:AS} {m n p q g:Nat} {s:Bool} {tt:Array TypeId}
end
def RetFE(W:World)(s:Bool)(p q:Nat)(c:Int)(e:By)(w':World):Prop:=∃v,e= .returned (.tuple #[v,.int .i64 c])/\IsF w' v s p q/\mBw W w'
def dE(s:Bool)(m:Nat):Bool:=s && !decide (m=0)
def fi(m n:Nat):Nat:=m / AR m n
def fK(m n:Nat):Nat:=n / AR m n
variable{m n:Nat}
theorem aJ{d e:Nat}(C:nl m<=d)(hn:nl n<=e):nl (m*n)<=d+e:=aI.2 (sm_mul (aI.1 C) (aI.1 hn))
def cO(s s':Bool)(X Y:Nat):Bool:=if s=s' then s else if Y<=X then s else s'
def cL(s s':Bool)(X Y:Nat):Nat:=if s=s' then X+Y else if Y<=X then X - Y else Y - X
theorem nl_add2{d:Nat}(C:nl m<=d)(hn:nl n<=d):nl (m+n)<=d+d+1:=aI.2 (sm_add (aI.1 C) (aI.1 hn))
theorem addM_le(s s':Bool)(X Y:Nat):cL s s' X Y<=X+Y:=by unfold cL;by_cases h:s=s'<;>by_cases h2:Y<=X<;>simp only[h,h2,if_true,if_false]<;>omega
structure Upd(w:World)(g:Nat)(w':World):Prop where
 os:w'.os=w.os
 tape:w'.tape=w.tape
 output:w'.output=w.output
 size:w'.heap.size=w.heap.size
 block:∀k,k≠g->w'.heap[k]? =w.heap[k]?
theorem Upd.cell(w:World)(g k:Nat)(u:Value):Upd w g (w.setCell ⟨g,k,none⟩ u):=⟨rfl,rfl,rfl,by simp[World.setCell],λi hi=>Below.heap_setCell _ _ _ _ hi⟩
theorem Upd.trans{a b c:World}(h:Upd a g b)(k:Upd b g c):Upd a g c:=⟨k.os.trans h.os,k.tape.trans h.tape,k.output.trans h.output,k.size.trans h.size,λi hi=>(k.block i hi).trans (h.block i hi)⟩
theorem Upd.below{W:World}{B:Nat}(h:Below B W w)(u:Upd w g w')(C:B<=g):Below B W w':=
 h.trans ⟨u.os,u.tape,u.output,by rw[u.size];exact AI _,λk F=>u.block k no⟩
def Own(w:World)(g:Nat):Prop:=∃(cs:Array Value)(t:TypeId),w.heap[g]? =some (Obj.cells cs t (0,0))/\∀(k:Nat)(n:Int),cs[k]? ≠some (AN .u32 n)
variable{k o:Nat}
theorem Own.ne{x:Int}(h:Own w g)(C:w.cell? ⟨k,o,none⟩=some (.int .u32 x)):k≠g:=by
 rintro rfl;obtain⟨cs,t,h1,h2⟩:=h;rw[cell_of_row w k o _ _ (0,0) h1]at C;exact h2 o x C
section
variable {w w':World} {g g' N L c M d p q:Nat} {s:Bool} {a b:Option A0}
theorem IsR.upd{L N:Nat}(h:IsR w v L N)(o:Own w g)(u:Upd w g w'):IsR w' v L N:=by
 obtain⟨x,cap,rfl,hc,H⟩:=h;refine⟨x,cap,rfl,hc,H.lt,λF=> ?_⟩;obtain⟨b,off,rfl,G⟩:=H.cells F;have C:b≠g:=o.ne (by simpa using G 0 F);refine⟨b,off,rfl,λj I=> ?_⟩;rw[Cb (u.block b C)];exact G j I
end
section
variable {Q:A8->Act->World->Prop} {md:Region.Mode} {ops:Array Oper} {o:Oper} {a:Act} {w:World} {j fuel:Nat} {listed:Array Bool} {x y:AS} {g L c M d N p q:Nat} {s t:Bool} {u v:Option A0}
end
section
variable {Q:A8->Act->World->Prop} {md:Region.Mode} {ops:Array Oper} {o:Oper} {a:Act} {w:World} {j fuel:Nat} {listed:Array Bool} {x y:AS} {g L c M d N p q:Nat} {s t:Bool} {u v:Option A0}
section
variable {f:BH} {S S1 S2 S3:Sp} {z:AS} {tt:Array TypeId} {R:World->By->World->Prop}
end
end
variable{fn:Func}
theorem res_N{p:Tmp}(h:fn.results=#[.cell p 31]){tmps:Array Value}{L c:Nat}{a:Option A0}
  (hp:tmps[p]? =some (.pointer (some ⟨g,0,none⟩)))(C:aW w g a L c):(results fn tmps).run AD w= .ok (.agg #[.slice a L c]) w:=by
 have c0:=C.cell;simp[results,h,hp,asAddr,loadVar,go_sem,c0]
theorem resN:mBw w (w.alloc (.cells #[.slice none 0 0] 31))/\aW (w.alloc (.cells #[.slice none 0 0] 31)) w.heap.size none 0 0:=⟨iE w _,aW.made w none 0 0⟩
structure Fq where
 s:Bool
 p:Nat
 q:Nat
abbrev IsQ(w:World)(v:Value)(x:Fq):Prop:=IsF w v x.s x.p x.q
def fj(W:World)(x:Fq)(e:By)(w':World):Prop:=RetF W x.s x.p x.q e w'
def qT(W:World)(x:Fq)(c:Int)(e:By)(w':World):Prop:=RetFE W x.s x.p x.q c e w'
def Fq.low(s:Bool)(m n:Nat):Fq:=⟨dE s m,fi m n,fK m n⟩
def Fq.neg(x:Fq):Fq:=⟨dE (!x.s) x.p,x.p,x.q⟩
def Fq.add(x y:Fq):Fq:=.low (cO x.s y.s (x.p*y.q) (y.p*x.q)) (cL x.s y.s (x.p*y.q) (y.p*x.q)) (x.q*y.q)
def Fq.mul(x y:Fq):Fq:=.low (x.s !=y.s) (x.p*y.p) (x.q*y.q)
def Fq.div(x y:Fq):Fq:=.low (x.s !=y.s) (x.p*y.q) (x.q*y.p)
def Fq.sub(x y:Fq):Fq:=x.add y.neg
def Fq.sgn(x:Fq):Int:=if x.p=0 then 0 else if x.s then -1 else 1
def Fq.cmp(x y:Fq):Int:=(x.sub y).sgn
def Fq.zero:Fq:=⟨false,0,0⟩
structure Fq.ok(d:Nat)(x:Fq):Prop where
 p:nl x.p<=d
 q:nl x.q<=d
 n:x.q≠0
section
variable {x y:Fq} {d e:Nat}
theorem Fq.ok.mono(h:x.ok d)(C:d<=e):x.ok e:=⟨AG h.p C,AG h.q C,h.n⟩
theorem Fq.ok_low{s:Bool}(C:nl m<=d)(hn:nl n<=d)(h0:n≠0):(Fq.low s m n).ok d:=
 ⟨AG (dZ (Ea _ _)) C,AG (dZ (Ea _ _)) hn,λh=>by
  have h1:n / AR m n=0:=h;rw[Nat.div_eq_zero_iff]at h1;have h2:=Nat.gcd_pos_of_pos_right m (Dy h0);have h3:=Nat.gcd_le_right m (Dy h0);omega⟩
theorem Fq.ok.neg(h:x.ok d):x.neg.ok d:=⟨h.p,h.q,h.n⟩
theorem Fq.ok.mul(h:x.ok d)(k:y.ok e):(x.mul y).ok (d+e):=Fq.ok_low (aJ h.p k.p) (aJ h.q k.q) (Cn h.n k.n)
theorem Fq.ok.div(h:x.ok d)(k:y.ok e)(h0:y.p≠0):(x.div y).ok (d+e):=Fq.ok_low (aJ h.p k.q) (aJ h.q k.p) (Cn h.n h0)
theorem Fq.ok.add(h:x.ok d)(k:y.ok e):(x.add y).ok (d+e+(d+e)+1):=
 Fq.ok_low (AG (dZ (addM_le _ _ _ _)) (nl_add2 (aJ h.p k.q) (AG (aJ k.p h.q) no))) (AG (aJ h.q k.q) no) (Cn h.n k.n)
theorem Fq.ok.sub(h:x.ok d)(k:y.ok e):(x.sub y).ok (d+e+(d+e)+1):=h.add k.neg
end
abbrev fnV(f:BH):Value:=.func (.func f) #[] #[]
def fE(v:Value):Prop:=(∀cs,v≠ .agg cs)/\(∀vs,v≠ .tuple vs)/\∀n,v≠ .int .u32 n
def bv(w:World)(g:Nat):Prop:=g<w.heap.size/\∀(k:Nat)(n:Int),w.cell? ⟨g,k,none⟩≠some (.int .u32 n)
variable{cs:Array Value}{t:TypeId}
theorem bv.mk'(h:w.heap[g]? =some (Obj.cells cs t (0,0)))(hc:∀(k:Nat)(n:Int),cs[k]? ≠some (AN .u32 n)):bv w g:=
 ⟨(A2.1 h).1,λk n C=>hc k n (by rw[cell_of_row w g k _ _ (0,0) h]at C;exact C)⟩
theorem Own.x(h:Own w g):bv w g:=by obtain⟨cs,t,h1,h2⟩:=h;exact .mk' h1 h2
theorem bv.blk(h:bv w g)(e:w'.heap[g]? =w.heap[g]?)(hs:w.heap.size<=w'.heap.size):bv w' g:=⟨Bv h.1 hs,λk n C=>h.2 k n (by rw[<-Cb (w:=w) (w':=w') (a:=⟨g,k,none⟩) e];exact C)⟩
structure Chg(w w':World)(X:Nat->Prop):Prop where
 size:w.heap.size<=w'.heap.size
 blk:∀g,g<w.heap.size->¬X g->w'.heap[g]? =w.heap[g]?
 own:∀g,X g->bv w g
structure Vp where
 p:World->Value->Prop
 fp:World->Value->Nat->Prop
 ch:∀w w' X v,p w v->Chg w w' X->(∀g,fp w v g->¬X g)->p w' v/\∀g,fp w' v g->fp w v g
 lt:∀w v g,p w v->fp w v g->g<w.heap.size
 fl:∀w v,p w v->fE v
def Vp.of(p:World->Value->Prop)(fp:Value->Nat->Prop)(ch:∀w w' X v,p w v->Chg w w' X->(∀g,fp v g->¬X g)->p w' v)(lt:∀w v g,p w v->fp v g->g<w.heap.size)(fl:∀w v,p w v->fE v):Vp:=
 ⟨p,λ_=>fp,λw w' X v h c k=>⟨ch w w' X v h c k,λ_ h=>h⟩,lt,fl⟩
theorem IsR.chg{X:Nat->Prop}{L:Nat}(h:IsR w v L N)(k:Chg w w' X):IsR w' v L N:=by
 obtain⟨x,cap,rfl,hc,G⟩:=h;refine⟨x,cap,rfl,hc,G.lt,λC=> ?_⟩;obtain⟨b,off,rfl,F⟩:=G.cells C;have hb:w'.heap[b]? =w.heap[b]? :=k.blk b (F.lt C) (λH=>(k.own b H).2 off _ (by simpa using F 0 C));refine⟨b,off,rfl,λj I=> ?_⟩;rw[Cb hb];exact F j I
def Vp.val(u:Value):Vp:=.of (λ_ v=>v=u/\fE v) (λ_ _=>False) (λ_ _ _ _ h _ _=>h) (λ_ _ _ _ h=>h.elim) (λ_ _ h=>h.2)
def Vp.dig(L N:Nat):Vp:=.of (λw v=>IsR w (.agg #[v]) L N) (λ_ _=>False) (λ_ _ _ _ h k _=>h.chg k) (λ_ _ _ _ h=>h.elim) (λw v h=>by
 obtain⟨a,c,e,_⟩:=h;have e2:v= .slice a L c:=by
  injection e with e;have:=congrArg (λx:Array Value=>x[0]?) e;simpa using this
 subst e2;exact⟨λ_ h=>by(cases h),λ_ h=>by(cases h),λ_ h=>by(cases h)⟩)
theorem Chg.below(h:mBw w w'):Chg w w' (λ_=>False):=⟨h.size,λg C _=>h.block g C,λ_ h=>h.elim⟩
theorem Chg.upd(o:bv w g)(u:Upd w g w'):Chg w w' (λx=>x=g):=⟨by rw[u.size];exact AI _,λk _ C=>u.block k C,λk C=>by subst C;exact o⟩
abbrev Rho:=List Vp
abbrev mDg(n:Nat):Vp:=.dig (nl n) n
def mFs:List Fq->List Vp
 | []=>[]
 | x::xs=>.val (.bool x.s)::.dig (nl x.p) x.p::.dig (nl x.q) x.q::mFs xs
inductive Leaf where
 | b (x:Bool)
 | i (k:IntKind) (n:Int)
 | ptr (v off:Nat)
 | nilp
 | ref (n:Nat)
 | fn (f:BH)
 | sl0
 | s (x:ByteArray)
 | own (i n:Nat)
 deriving DecidableEq
inductive SV where
 | one (l:Leaf)
 | agg (ls:List Leaf)
 deriving DecidableEq
inductive AV where
 | v (s:SV)
 | tup (xs:List SV)
 | any
 deriving DecidableEq
structure Blk where
 v:Nat->Option Nat
 o:Nat->Nat->Prop
def noB:Blk:=⟨λ_=>none,λ_ _=>False⟩
def Blk.has(B:Blk)(g:Nat):Prop:=(∃x,B.v x=some g)\/∃k,B.o k g
theorem ve:¬noB.has g:=by rintro(⟨x,h⟩ | ⟨k,h⟩);(cases h);exact h
abbrev OW:Nat:=1000000
def Leaf.holds(ρ:Rho)(B:Blk)(w:World)(l:Leaf)(v:Value):Prop:=
 match l with
 | .b x=>v= .bool x
 | .i k n=>v= .int k n
 | .ptr x o=>∃g,B.v x=some g/\v= .pointer (some ⟨g,o,none⟩)
 | .nilp=>v= .pointer none
 | .ref n=>∃s,ρ[n]? =some s/\s.p w v/\∀g,s.fp w v g->¬B.has g
 | .fn f=>v=fnV f
 | .sl0=>v= .slice none 0 0
 | .s x=>v= .string x
 | .own k m=>∃s,ρ[m]? =some s/\s.p w v/\(∀g,s.fp w v g->B.o k g)/\∀g,v.ownBlock=some g->B.o k g
def aD(ρ:Rho)(B:Blk)(w:World):List Leaf->List Value->Prop
 | [],[]=>True
 | l::ls,v::vs=>l.holds ρ B w v/\aD ρ B w ls vs
 | _,_=>False
def SV.holds(ρ:Rho)(B:Blk)(w:World)(s:SV)(v:Value):Prop:=
 match s with
 | .one l=>l.holds ρ B w v
 | .agg ls=>∃vs:List Value,v= .agg vs.toArray/\aD ρ B w ls vs
def cP(ρ:Rho)(B:Blk)(w:World):List SV->List Value->Prop
 | [],[]=>True
 | l::ls,v::vs=>l.holds ρ B w v/\cP ρ B w ls vs
 | _,_=>False
def AV.holds(ρ:Rho)(B:Blk)(w:World)(s:AV)(v:Value):Prop:=
 match s with
 | .v s=>s.holds ρ B w v
 | .tup xs=>∃vs:List Value,v= .tuple vs.toArray/\cP ρ B w xs vs
 | .any=>v=undef
section
variable {ρ:Rho} {B B':Blk} {w w':World} {g:Nat} {v:Value}
structure BLe(B B':Blk):Prop where
 v:∀x g,B.v x=some g->B'.v x=some g
 o:∀k g,B.o k g->B'.o k g
def zK(n:Nat)(B B':Blk):Prop:=∀g,B'.has g->B.has g\/n<=g
def BOk(B:Blk)(n:Nat):Prop:=∀g,B.has g->g<n
theorem BLe.refl:BLe B B:=⟨λ_ _ h=>h,λ_ _ h=>h⟩
theorem zK.refl:zK n B B:=λ_ h=>.inl h
structure BInj(B:Blk):Prop where
 v:∀x y g,B.v x=some g->B.v y=some g->x=y
 o:∀k l g,B.o k g->B.o l g->k=l
 vo:∀x k g,B.v x=some g->¬B.o k g
variable{l:Leaf}
theorem Leaf.holds.mono(h:l.holds ρ B w v)(F:BLe B B')(H:zK w.heap.size B B')(hb:mBw w w'):l.holds ρ B' w' v:=by
 cases l<;>simp only[Leaf.holds]at h⊢ <;>try exact h
 ·obtain⟨g,h1,h2⟩:=h;exact⟨g,F.v _ _ h1,h2⟩
 ·obtain⟨s,h1,h2,h3⟩:=h;obtain⟨c1,c2⟩:=s.ch _ _ _ _ h2 (.below hb) (λ_ _ h=>h);refine⟨s,h1,c1,λg C I=> ?_⟩;rcases H g I with h | h
  ·exact h3 g (c2 g C) h
  ·have:=s.lt _ _ _ h2 (c2 g C);omega
 ·obtain⟨s,h1,h2,h3,G⟩:=h;obtain⟨c1,c2⟩:=s.ch _ _ _ _ h2 (.below hb) (λ_ _ h=>h);exact⟨s,h1,c1,λg C=>F.o _ _ (h3 g (c2 g C)),λg C=>F.o _ _ (G g C)⟩
theorem Leaf.holds.upd(h:l.holds ρ B w v)(o:bv w g)(u:Upd w g w')(C:∃x,B.v x=some g)(hi:BInj B):l.holds ρ B w' v:=by
 obtain⟨x,C⟩:=C;cases l<;>simp only[Leaf.holds]at h⊢ <;>try exact h
 ·obtain⟨s,h1,h2,h3⟩:=h;obtain⟨c1,c2⟩:=s.ch _ _ _ _ h2 (.upd o u) (λk G e=>by subst e;exact h3 _ G (.inl ⟨x,C⟩));exact⟨s,h1,c1,λg F=>h3 g (c2 g F)⟩
 ·obtain⟨s,h1,h2,h3,H⟩:=h;obtain⟨c1,c2⟩:=s.ch _ _ _ _ h2 (.upd o u) (λk G e=>by subst e;exact hi.vo _ _ _ C (h3 _ G));exact⟨s,h1,c1,λg F=>h3 g (c2 g F),H⟩
theorem aD.all:∀ {ls:List Leaf} {vs:List Value},aD ρ B w ls vs->(∀(l:Leaf)(v:Value),Leaf.holds ρ B w l v->Leaf.holds ρ B' w' l v)->aD ρ B' w' ls vs
 | [],[],_,_=>trivial
 | _::_,_::_,h,f=>⟨f _ _ h.1,aD.all h.2 f⟩
 | [],_::_,h,_=>h.elim
 | _::_,[],h,_=>h.elim
theorem SV.holds.all{s:SV}(h:s.holds ρ B w v)(f:∀(l:Leaf)(v:Value),Leaf.holds ρ B w l v->Leaf.holds ρ B' w' l v):s.holds ρ B' w' v:=by
 cases s with
 | one l=>exact f _ _ h
 | agg ls=>obtain⟨vs,e,h⟩:=h;exact⟨vs,e,aD.all h f⟩
theorem cP.all:∀ {ls:List SV} {vs:List Value},cP ρ B w ls vs->(∀(l:Leaf)(v:Value),Leaf.holds ρ B w l v->Leaf.holds ρ B' w' l v)->cP ρ B' w' ls vs
 | [],[],_,_=>trivial
 | _::_,_::_,h,f=>⟨h.1.all f,cP.all h.2 f⟩
 | [],_::_,h,_=>h.elim
 | _::_,[],h,_=>h.elim
theorem AV.holds.all{s:AV}(h:s.holds ρ B w v)(f:∀(l:Leaf)(v:Value),Leaf.holds ρ B w l v->Leaf.holds ρ B' w' l v):s.holds ρ B' w' v:=by
 cases s with
 | v s=>exact SV.holds.all h f
 | tup ls=>obtain⟨vs,e,h⟩:=h;exact⟨vs,e,h.all f⟩
 | any=>exact h
theorem AV.holds.mono{s:AV}(h:s.holds ρ B w v)(C:BLe B B')(F:zK w.heap.size B B')(hb:mBw w w'):s.holds ρ B' w' v:=h.all (λ_ _ h=>h.mono C F hb)
theorem AV.holds.upd{s:AV}(h:s.holds ρ B w v)(o:bv w g)(u:Upd w g w')(C:∃x,B.v x=some g)(hi:BInj B):s.holds ρ B w' v:=h.all (λ_ _ h=>h.upd o u C hi)
theorem aD.len:∀ {ls:List Leaf} {vs:List Value},aD ρ B w ls vs->vs.length=ls.length
 | [],[],_=>rfl
 | _::_,_::_,h=>by simp[h.2.len]
 | [],_::_,h=>h.elim
 | _::_,[],h=>h.elim
theorem Ao{p:Prop}(h:p:=by simp at h):p:=h
theorem aD.get:∀ {ls:List Leaf} {vs:List Value} {k:Nat} {l:Leaf},aD ρ B w ls vs->ls[k]? =some l->∃v,vs[k]? =some v/\l.holds ρ B w v
 | [],[],_,_,_,h=>Ao
 | _::_,v::_,0,_,h,e=>by simp at e;subst e;exact⟨v,rfl,h.1⟩
 | _::ls,_::vs,k+1,l,h,e=>by
  obtain⟨u,h1,h2⟩:=aD.get (k:=k) (l:=l) h.2 Ay;exact⟨u,by simpa using h1,h2⟩
 | [],_::_,_,_,h,_=>h.elim
 | _::_,[],_,_,h,_=>h.elim
theorem aD.mk:∀ {ls:List Leaf} {vs:List Value},vs.length=ls.length->(∀(k:Nat)(l:Leaf)(v:Value),ls[k]? =some l->vs[k]? =some v->l.holds ρ B w v)->aD ρ B w ls vs
 | [],[],_,_=>trivial
 | l::ls,v::vs,e,h=>⟨h 0 l v rfl rfl,aD.mk Ay (λk l v h1 h2=>h (k+1) l v (by simpa using h1) (by simpa using h2))⟩
 | [],_::_,e,_=>by simp at e
 | _::_,[],e,_=>by simp at e
theorem cP.get:∀ {ls:List SV} {vs:List Value} {k:Nat} {l:SV},cP ρ B w ls vs->ls[k]? =some l->∃v,vs[k]? =some v/\l.holds ρ B w v
 | [],[],_,_,_,h=>Ao
 | _::_,v::_,0,_,h,e=>by simp at e;subst e;exact⟨v,rfl,h.1⟩
 | _::ls,_::vs,k+1,l,h,e=>by
  obtain⟨u,h1,h2⟩:=cP.get (k:=k) (l:=l) h.2 Ay;exact⟨u,by simpa using h1,h2⟩
 | [],_::_,_,_,h,_=>h.elim
 | _::_,[],_,_,h,_=>h.elim
def Leaf.flat:Leaf->Bool
 | .i .u32 _=>false
 | _=>true
theorem Leaf.holds.flat(h:l.holds ρ B w v)(hf:l.flat=true):fE v:=by
 cases l<;>simp only[Leaf.holds]at h
 ·subst h;exact⟨λ_ h=>by(cases h),λ_ h=>by(cases h),λ_ h=>by(cases h)⟩
 ·subst h;rename_i k n;exact⟨λ_ h=>by(cases h),λ_ h=>by(cases h),λm h=>by
   injection h with h1 h2;subst h1;simp[Leaf.flat]at hf⟩
 ·obtain⟨g,_,h⟩:=h;subst h;exact⟨λ_ h=>by(cases h),λ_ h=>by(cases h),λ_ h=>by(cases h)⟩
 ·subst h;exact⟨λ_ h=>by(cases h),λ_ h=>by(cases h),λ_ h=>by(cases h)⟩
 ·obtain⟨s,_,h,_⟩:=h;exact s.fl _ _ h
 ·subst h;exact⟨λ_ h=>by(cases h),λ_ h=>by(cases h),λ_ h=>by(cases h)⟩
 ·subst h;exact⟨λ_ h=>by(cases h),λ_ h=>by(cases h),λ_ h=>by(cases h)⟩
 ·subst h;exact⟨λ_ h=>by(cases h),λ_ h=>by(cases h),λ_ h=>by(cases h)⟩
 ·obtain⟨s,_,h,_⟩:=h;exact s.fl _ _ h
end
def tI:Value->Option Leaf
 | .bool x=>some (.b x)
 | .int k n=>some (.i k n)
 | .pointer none=>some .nilp
 | .slice none 0 0=>some .sl0
 | .string s=>some (.s s)
 | _=>none
variable{ρ:Rho}{B:Blk}
theorem pN{l:Leaf}(h:tI v=some l):l.holds ρ B w v:=by
 unfold tI at h;split at h<;>first | (injection h with h;subst h;rfl) | cases h
def gP:List Value->Option (List Leaf)
 | []=>some []
 | v::vs=>match tI v,gP vs with
  | some l,some ls=>some (l::ls)
  | _,_=>none
theorem gZ:∀ {vs:List Value} {ls:List Leaf},gP vs=some ls->aD ρ B w ls vs
 | [],ls,h=>by simp[gP]at h;subst h;trivial
 | v::vs,ls,h=>by
  unfold gP at h
  cases h1:tI v with
  | none=>rw[h1]at h;simp at h
  | some l=>
   cases h2:gP vs with
   | none=>rw[h1,h2]at h;simp at h
   | some l2=>rw[h1,h2]at h;simp at h;subst h;exact⟨pN h1,gZ h2⟩
def svC:Value->Option SV
 | .agg cs=>(gP cs.toList).map .agg
 | v=>(tI v).map .one
variable{s:SV}
theorem svC_holds(h:svC v=some s):s.holds ρ B w v:=by
 unfold svC at h;split at h
 ·rename_i cs
  cases h1:gP cs.toList with
  | none=>rw[h1]at h;cases h
  | some l=>rw[h1]at h;simp at h;subst h;exact⟨cs.toList,Ad,gZ h1⟩
 ·cases h1:tI v with
  | none=>rw[h1]at h;cases h
  | some l=>rw[h1]at h;simp at h;subst h;exact pN h1
def bL(ρ:Rho)(B:Blk)(a:Act)(w:World)(x:Nat)(c:AV):Prop:=
 if x<100000 then∃u,a.tmps[x]? =some u/\c.holds ρ B w u
 else∃g cs ty u,B.v (x / 100000 - 1)=some g/\w.heap[g]? =some (.cells cs ty (0,0))/\cs[x % 100000]? =some u/\c.holds ρ B w u
structure Eff where
 rd:List Nat
 wr:List (Nat×AV)
 al:Option Nat
 ks:List Nat
 ms:List Nat
def Leaf.objs:Leaf->List Nat
 | .own k _=>[k]
 | _=>[]
def SV.objs:SV->List Nat
 | .one l=>l.objs
 | .agg ls=>ls.flatMap Leaf.objs
def AV.objs:AV->List Nat
 | .v s=>s.objs
 | .tup xs=>xs.flatMap SV.objs
 | .any=>[]
def AV.hit(ks:List Nat)(c:AV):Bool:=c.objs.any ks.contains
def fil(ks:List Nat):Option AV->Option AV
 | some c=>if c.hit ks then none else some c
 | none=>none
variable{ks:List Nat}{c:AV}
theorem fk{o:Option AV}(h:fil ks o=some c):o=some c/\c.hit ks=false:=by
 cases o with
 | none=>cases h
 | some d=>
  simp only[fil]at h;split at h
  ·cases h
  ·rename_i hn;injection h with h;subst h;exact⟨rfl,by simpa using hn⟩
theorem jJ{o:Option AV}(h:o=some c)(hn:c.hit ks=false):fil ks o=some c:=by subst h;simp[fil,hn]
structure Ent where
 w:World
 X:Nat->Prop
 pin:List Nat
def Ent.may(e:Ent)(g:Nat):Prop:=e.w.heap.size<=g\/e.X g
structure Ent.kept(e:Ent)(w:World):Prop where
 os:w.os=e.w.os
 tape:w.tape=e.w.tape
 output:w.output=e.w.output
 size:e.w.heap.size<=w.heap.size
 block:∀k,k<e.w.heap.size->¬e.X k->w.heap[k]? =e.w.heap[k]?
abbrev Ent.of(w:World):Ent:=⟨w,λ_=>False,[]⟩
theorem Ent.kept.refl{e:Ent}:e.kept e.w:=⟨rfl,rfl,rfl,AI _,λ_ _ _=>rfl⟩
theorem Ent.kept.to{w0:World}(h:(Ent.of w0).kept w):mBw w0 w:=⟨h.os,h.tape,h.output,h.size,λk C=>h.block k C (λh=>h)⟩
theorem Ent.kept.below{e:Ent}(h:e.kept w)(hb:mBw w w'):e.kept w':=
 ⟨hb.os.trans h.os,hb.tape.trans h.tape,hb.output.trans h.output,AG h.size hb.size,λk C F=>(hb.block k (Bv C h.size)).trans (h.block k C F)⟩
theorem Ent.kept.upd{e:Ent}(h:e.kept w)(u:Upd w g w')(F:e.may g):e.kept w':=
 ⟨u.os.trans h.os,u.tape.trans h.tape,u.output.trans h.output,by rw[u.size];exact h.size,λk G C=>(u.block k (λe=>by subst e;rcases F with h | h;(omega);exact C h)).trans (h.block k G C)⟩
theorem Ent.may.ge{e:Ent}(h:e.kept w)(C:w.heap.size<=g):e.may g:=.inl (AG h.size C)
structure Inv(vt:List (TypeId×Nat))(w0:Ent)(nt:Nat)(B:Blk)(a:Act)(w:World):Prop where
 blk:∀v g,B.v v=some g->w0.may g/\∃cs ty,vt[v]? =some (ty,cs.size)/\w.heap[g]? =some (.cells cs ty (0,0))/\(∀(k:Nat)(n:Int),cs[k]? ≠some (.int .u32 n))
 own:∀k g,B.o k g->w0.may g/\bv w g
 inj:BInj B
 below:w0.kept w
 size:a.tmps.size=nt
 dfr:a.defers=[]
 pin:∀x g,w0.pin[x]? =some g->B.v x=some g
structure Post(ρ:Rho)(vt:List (TypeId×Nat))(w0:Ent)(nt:Nat)(e:Eff)(B:Blk)(a:Act)(w:World)(B':Blk)(a':Act)(w':World):Prop where
 le:BLe B B'
 inv:Inv vt w0 nt B' a' w'
 wr:∀p∈e.wr,bL ρ B' a' w' p.1 p.2
 keep:∀x c,bL ρ B a w x c->(∀p∈e.wr,p.1≠x)->c.hit e.ks=false->bL ρ B' a' w' x c
 new:∀v,B.v v=none->B'.v v≠none->e.al=some v
def OpOk(P:AZ)(ρ:Rho)(vt:List (TypeId×Nat))(w0:Ent)(nt:Nat)(ops:Array Oper)(Q:A8->Act->World->Prop)(j:Nat)(lk:Nat->Option AV)(e:Eff):Prop:=
 ∀B a w,Inv vt w0 nt B a w->(∀x∈e.rd,∀c,lk x=some c->bL ρ B a w x c)->(∀v,e.al=some v->B.v v=none)->
  ∀K:Act->World->Prop,(∀B' a' w',Post ρ vt w0 nt e B a w B' a' w'->K a' w')->wpOp P ops Q j K a w
abbrev eA:=List (Nat×Eff)
def lkE(b:Nat->Option AV):eA->Nat->Option AV
 | [],x=>b x
 | (_,e)::r,x=>match e.wr.find? (λp=>p.1==x)with
  | some p=>some p.2
  | none=>fil e.ks (lkE b r x)
def dU(b:Nat->Option AV)(T:List Nat):eA->Nat->Option AV
 | [],x=>b x
 | (i,e)::r,x=>if T.contains i then(match e.wr.find? (λp=>p.1==x)with
  | some p=>some p.2
  | none=>fil e.ks (dU b T r x))else dU b T r x
def nF(e e':Eff):Bool:=
 e'.wr.all (λp=> !e.rd.contains p.1 && !e.wr.any (λq=>q.1==p.1)) && (e'.rd.all (λx=> !e.wr.any (λq=>q.1==x)) && (e'.ks.all (λk=> !e.ks.contains k && !e.ms.contains k) && e.ks.all (λk=> !e'.ms.contains k)))
structure Eff.Wf(e:Eff)(lk:Nat->Option AV):Prop where
 rd:∀x∈e.rd,∀c,lk x=some c->∀k∈c.objs,k∈e.ms
 wr:∀p∈e.wr,∀k∈p.2.objs,k∈e.ms
def abP(m:Nat)(r:eA)(e:Eff):Bool:=r.all λp=>m.testBit p.1 || nF e p.2
section
variable {P:AZ} {ρ:Rho} {vt:List (TypeId×Nat)} {w0:Ent} {nt:Nat} {ops:Array Oper} {Q:A8->Act->World->Prop} {b:Nat->Option AV} {md:Region.Mode}
def zL(md:Region.Mode)(ops:Array Oper)(T:List Nat):Prop:=∀j∈T,∀k∈bZ md ops j,k∈T
def abQ(md:Region.Mode)(ops:Array Oper)(m j:Nat):Prop:=∀i,m.testBit i=true->∀T,zL md ops T->(∀k∈bZ md ops j,k∈T)->i∈T
def qU(P:AZ)(ρ:Rho)(vt:List (TypeId×Nat))(w0:Ent)(nt:Nat)(md:Region.Mode)(ops:Array Oper)(Q:A8->Act->World->Prop)(b:Nat->Option AV)(nb:Nat):eA->Prop
 | []=>True
 | (j,e)::r=>j=r.length/\OpOk P ρ vt w0 nt ops Q j (lkE b r) e/\(∃m,abQ md ops m j/\abP m r e=true)/\e.Wf (lkE b r)/\(∀v,e.al=some v->(nb<=v/\v<OW)/\∀p∈r,p.2.al≠some v)/\qU P ρ vt w0 nt md ops Q b nb r
theorem qW(T:List Nat)(x y:eA):dU b T (x++y)=dU (dU b T y) T x:=by
 induction x with
 | nil=>rfl
 | cons p x ih=>
  funext z
  obtain⟨i,e⟩:=p;simp only[List.cons_append,dU,ih]
theorem valT_all(T:List Nat)(r:eA)(h:∀p∈r,p.1∈T):dU b T r=lkE b r:=by
 induction r with
 | nil=>rfl
 | cons p x ih=>
  funext z
  obtain⟨i,e⟩:=p;have h1:T.contains i=true:=CN.2 (h (i,e) Ad);simp only[dU,lkE,h1,if_true,ih (λp hp=>h p (Bi _ hp))]
variable{l:List (Nat×AV)}
theorem tJ{x:Nat}(h:∀p∈l,p.1≠x):l.find? (λp=>p.1==x)=none:=by
 rw[C7];intro p hp;simpa using h p hp
theorem tK{x:Nat}{p:Nat×AV}(h:l.find? (λp=>p.1==x)=some p):p∈l/\p.1=x:=
 ⟨Dl h,by simpa using DY h⟩
theorem abR{x:Nat}(h:l.find? (λp=>p.1==x)=none):∀p∈l,p.1≠x:=λp hp e=>by
 have:=C7.1 h p hp;simp[e]at this
variable{T:List Nat}
theorem vg{x:Nat}:∀ {hi:eA} {f:Nat->Option AV},dU f T hi x=some c->
  (∃p∈hi,p.1∈T/\(∃q∈p.2.wr,q.1=x/\q.2=c)/\∀F:Nat->Option AV,dU F T hi x=some c)\/
  (f x=some c/\(∀p∈hi,p.1∈T->∀q∈p.2.wr,q.1≠x)/\∀F:Nat->Option AV,F x=some c->dU F T hi x=some c)
 | [],f,h=>.inr ⟨h,λp hp=>by(cases hp),λF h=>h⟩
 | (i,e)::hi,f,h=>by
  simp only[dU]at h;by_cases hT:T.contains i=true
  ·rw[if_pos hT]at h;split at h
   ·rename_i p hp;injection h with h;obtain⟨h1,h2⟩:=tK hp;refine .inl ⟨(i,e),Ad,CN.1 hT,⟨p,h1,h2,h⟩,λF=> ?_⟩;simp only[dU,if_pos hT,hp,h]
   ·rename_i hp;obtain⟨h1,h2⟩:=fk h;rcases vg h1 with⟨p,H,k2,k3,I⟩ | ⟨H,k2,k3⟩
    ·refine .inl ⟨p,Bi _ H,k2,k3,λF=> ?_⟩;simp only[dU,if_pos hT,hp];exact jJ (I F) h2
    ·refine .inr ⟨H,λp C G=> ?_,λF hf=> ?_⟩
     ·rcases AY.1 C with rfl | C
      ·exact abR hp
      ·exact k2 p C G
     ·simp only[dU,if_pos hT,hp];exact jJ (k3 F hf) h2
  ·rw[if_neg hT]at h;rcases vg h with⟨p,H,k2,k3,I⟩ | ⟨H,k2,k3⟩
   ·exact .inl ⟨p,Bi _ H,k2,k3,λF=>by simp only[dU,if_neg hT];exact I F⟩
   ·refine .inr ⟨H,λp C G=> ?_,λF hf=>by simp only[dU,if_neg hT];exact k3 F hf⟩;rcases AY.1 C with rfl | C
    ·exact absurd (CN.2 G) hT
    ·exact k2 p C G
theorem tL{x:Nat}{f:Nat->Option AV}(hf:f x=some c):∀ {hi:eA},(∀p∈hi,p.1∈T->(∀q∈p.2.wr,q.1≠x)/\c.hit p.2.ks=false)->dU f T hi x=some c
 | [],_=>hf
 | (i,e)::hi,h=>by
  have C:=tL hf (hi:=hi) (λp hp=>h p (Bi _ hp));simp only[dU];by_cases hT:T.contains i=true
  ·obtain⟨h1,h2⟩:=h (i,e) Ad (CN.1 hT);rw[if_pos hT,tJ h1];exact jJ C h2
  ·rw[if_neg hT];exact C
theorem tM(h:∀k∈c.objs,k∉ks):c.hit ks=false:=by
 unfold AV.hit;rw[List.any_eq_false];intro k C;simpa using h k C
structure NC(e e':Eff):Prop where
 wr:∀p∈e'.wr,p.1∉e.rd/\∀q∈e.wr,q.1≠p.1
 rd:∀x∈e'.rd,∀q∈e.wr,q.1≠x
 ks:∀k∈e'.ks,k∉e.ks/\k∉e.ms
 ms:∀k∈e.ks,k∉e'.ms
theorem qX{e e':Eff}(h:nF e e'=true):NC e e':=by
 unfold nF at h;simp only[BU,Cc,Bool.not_eq_true',List.any_eq_false,beq_iff_eq,List.contains_eq_mem,decide_eq_false_iff_not]at h;exact⟨h.1,h.2.1,h.2.2.1,h.2.2.2⟩
variable{nb j:Nat}
theorem qU.split{r:eA}(h:qU P ρ vt w0 nt md ops Q b nb r)(J:j<r.length):∃hi e lo,r=hi++(j,e)::lo/\lo.length=j/\qU P ρ vt w0 nt md ops Q b nb ((j,e)::lo)/\
  (∀p∈hi,j<p.1/\(∃m,abQ md ops m p.1/\(m.testBit j=true\/nF p.2 e=true))/\(∀v,p.2.al=some v->e.al≠some v)/\∀q∈p.2.wr,∀k∈q.2.objs,k∈p.2.ms):=by
 induction r with
 | nil=>simp at J
 | cons p r ih=>
  obtain⟨i,e⟩:=p;obtain⟨h1,h2,h3,K,H,I⟩:=h;by_cases hji:j=i
  ·subst hji;exact⟨[],e,r,rfl,h1.symm,⟨h1,h2,h3,K,H,I⟩,λp hp=>by cases hp⟩
  ·have G:j<r.length:=by simp at J;omega
   obtain⟨hi,e',lo,rfl,U,V,C⟩:=ih I G;refine⟨(i,e)::hi,e',lo,rfl,U,V,λp hp=> ?_⟩;rcases AY.1 hp with rfl | hp
   ·obtain⟨m,Y,F⟩:=h3;refine⟨by simp only;omega,⟨m,Y,?_⟩,λv Z=>(H v Z).2 (j,e') Ad,K.wr⟩;unfold abP at F;have:=Cc.1 F (j,e') Ad;simpa using this
   ·exact C p hp
theorem qU.idx{r:eA}(h:qU P ρ vt w0 nt md ops Q b nb r):∀p∈r,p.1<r.length:=by
 induction r with
 | nil=>intro p hp;cases hp
 | cons p r ih=>
  obtain⟨i,e⟩:=p;obtain⟨h1,h2,h3,H,G,F⟩:=h;intro q C;rcases AY.1 C with rfl | C
  ·simp only[Bh];omega
  ·have:=ih F q C;simp only[Bh];omega
theorem val_lo{e:Eff}{x:Nat}{c:AV}(F:x∈e.rd):∀ {lo:eA},(∀p∈lo,p.1∈T\/nF e p.2=true)->lkE b lo x=some c->dU b T lo x=some c
 | [],_,h=>h
 | (i,e')::lo,h,hc=>by
  simp only[dU,lkE]at hc⊢;have C:=val_lo (c:=c) F (lo:=lo) (λp hp=>h p (Bi _ hp));by_cases hiT:T.contains i=true
  ·rw[if_pos hiT];split at hc
   ·exact hc
   ·obtain⟨h1,h2⟩:=fk hc;exact jJ (C h1) h2
  ·rw[if_neg hiT];rcases h (i,e') (by simp)with h | h
   ·exact absurd (CN.2 h) hiT
   ·rw[tJ (λq H G=>((qX h).wr q H).1 (by rw[G];exact F))]at hc;exact C (fk hc).1
theorem nG:∀ {r:eA} {b:Nat->Option AV},(∀p∈r,p.1≠j)->dU b (T++ [j]) r=dU b T r
 | [],_,_=>rfl
 | (i,e')::r,b,h=>by
  funext z
  have hc:(T++ [j]).contains i=T.contains i:=by
   have:=h (i,e') Ad;simp only at this;rw[FF];simp[this]
  simp only[dU,hc,nG (r:=r) (b:=b) (λp hp=>h p (Bi _ hp))]
def StT(ρ:Rho)(vt:List (TypeId×Nat))(w0:Ent)(nt:Nat)(b:Nat->Option AV)(nb:Nat)(r:eA)(T:List Nat)(a:Act)(w:World):Prop:=
 ∃B,Inv vt w0 nt B a w/\(∀x c,dU b T r x=some c->bL ρ B a w x c)/\(∀v,B.v v≠none->v<nb\/∃p∈r,p.1∈T/\p.2.al=some v)
theorem xk{r:eA}(hg:qU P ρ vt w0 nt md ops Q b nb r)(hj:j<r.length)(hT:zL md ops T)(aa:j∉T)(hp:∀k∈bZ md ops j,k∈T)
  {a:Act}(h:StT ρ vt w0 nt b nb r T a w){K:Act->World->Prop}(hK:∀a' w',StT ρ vt w0 nt b nb r (T++ [j]) a' w'->K a' w'):wpOp P ops Q j K a w:=by
 obtain⟨hi,e,lo,rfl,a2,⟨_,ay,⟨m,hm,ao⟩,a1,aq,ar⟩,U⟩:=hg.split hj;obtain⟨B,ak,Z,hB⟩:=h;have Y:∀p∈hi,p.1∈T->NC p.2 e:=λp F I=>by
  obtain⟨_,⟨m',ax,H⟩,_⟩:=U p F;rcases H with H | H
  ·exact absurd (ax j H T hT (λk hk=>hT _ I k hk)) aa
  ·exact qX H
 have am:∀p∈lo,p.1∈T\/nF e p.2=true:=λp F=>by
  unfold abP at ao;have:=Cc.1 ao p F;simp only[Eb]at this;rcases this with h | h
  ·exact .inl (hm _ h T hT hp)
  ·exact .inr h
 have ab:T.contains j=false:=by simpa using aa
 refine ay B a w ak (λx hx c hc=> ?_) (λv hv=> ?_) K (λB' a' w' C=>hK a' w' ⟨B',C.inv,λx c hc=> ?_,λv hv=> ?_⟩)
 ·refine Z x c ?_;rw[qW];refine tL ?_ (λp F I=> ?_)
  ·simp only[dU,ab,Ed,if_false];exact val_lo hx am hc
  ·have h1:=Y p F I;exact⟨λq hq=>h1.rd x hx q hq,tM (λk hk av=>h1.ms k av (a1.rd x hx c hc k hk))⟩
 ·have h0:=aq v hv
  cases J:B.v v with
  | none=>rfl
  | some g=>
   rcases hB v (by rw[J];simp)with h | ⟨p,F,I,ap⟩
   ·omega
   ·rcases AJ.1 F with h | h
    ·exact absurd hv ((U p h).2.2.1 v ap)
    ·rcases AY.1 h with rfl | h
     ·exact absurd I aa
     ·exact absurd ap (h0.2 p h)
 ·
  have ac:(T++ [j]).contains j=true:=Ad
  have ad:∀p∈hi,p.1≠j:=λp hp=>by have:=(U p hp).1;omega
  have an:∀p∈lo,p.1≠j:=λp hp=>by have:=ar.idx p hp;omega
  rw[qW,nG ad]at hc;have G:=Z x c;rw[qW]at G;rcases vg hc with⟨p,V,k2,⟨q,k3,k4,k5⟩,k6⟩ | ⟨V,k2,k3⟩
  ·have h1:=Y p V k2;subst k4;subst k5;refine C.keep _ _ (G (k6 _)) (λp' a0=>λe'=>(h1.wr p' a0).2 q k3 e'.symm) (tM (λk hk au=>(h1.ks k au).2 ((U p V).2.2.2 q k3 k hk)))
  ·simp only[dU,ac,if_true]at V;split at V
   ·rename_i p hp;injection V with V;subst V;obtain⟨h1,h2⟩:=tK hp;subst h2;exact C.wr p h1
   ·rename_i hp;obtain⟨h1,h2⟩:=fk V;rw[nG an]at h1;refine C.keep x c (G (k3 _ ?_)) (abR hp) h2;simp only[dU,ab,Ed,if_false];exact h1
 ·cases J:B.v v with
  | some g=>
   rcases hB v (by rw[J];simp)with h | ⟨p,h1,h2,h3⟩
   ·exact .inl h
   ·exact .inr ⟨p,h1,AJ.2 (.inl h2),h3⟩
  | none=>exact .inr ⟨(j,e),Ad,Ad,C.new v J hv⟩
end
section
variable {P:AZ} {ρ:Rho} {vt:List (TypeId×Nat)} {w0:Ent} {nt:Nat} {ops:Array Oper} {Q:A8->Act->World->Prop} {b:Nat->Option AV} {md:Region.Mode}
def StF(ρ:Rho)(vt:List (TypeId×Nat))(w0:Ent)(nt:Nat)(lk:Nat->Option AV)(nb:Nat)(r:eA)(a:Act)(w:World):Prop:=
 ∃B,Inv vt w0 nt B a w/\(∀x c,lk x=some c->bL ρ B a w x c)/\(∀v,B.v v≠none->v<nb\/∃p∈r,p.2.al=some v)
variable{nb:Nat}{a:Act}
theorem StT.done{r:eA}{T:List Nat}(h:StT ρ vt w0 nt b nb r T a w)(C:∀p∈r,p.1∈T):StF ρ vt w0 nt (lkE b r) nb r a w:=by
 obtain⟨B,h1,h2,h3⟩:=h;rw[valT_all T r C]at h2;exact⟨B,h1,h2,λv F=>(h3 v F).imp id (λ⟨p,h,_,e⟩=>⟨p,h,e⟩)⟩
theorem valT_nil(r:eA):dU b [] r=b:=by
 induction r with
 | nil=>rfl
 | cons p r ih=>funext x;obtain⟨i,e⟩:=p;simp[dU,ih]
theorem StT.start{r:eA}(h1:Inv vt w0 nt B a w)(h2:∀x c,b x=some c->bL ρ B a w x c)(h3:∀v,B.v v≠none->v<nb):StT ρ vt w0 nt b nb r [] a w:=
 ⟨B,h1,by rw[valT_nil];exact h2,λv C=>.inl (h3 v C)⟩
theorem any_sound{r:eA}(hg:qU P ρ vt w0 nt md ops Q b nb r)(av:r.length=ops.size)(G:∀j,j<ops.size->∀k∈bZ md ops j,k<j) 
  (h:StT ρ vt w0 nt b nb r [] a w)(hQ:∀a' w',StF ρ vt w0 nt (lkE b r) nb r a' w'->Q .normal a' w'):wpAny P md ops Q ops.size (Cv ops.size false) a w:=by
 have ad:∀(z:Nat)(T:List Nat)(a':Act)(w':World),T.Nodup->(∀i∈T,i<ops.size)->T.length+z=ops.size->zL md ops T->StT ρ vt w0 nt b nb r T a' w'->
   wpAny P md ops Q z (aX T (Cv ops.size false)) a' w':=by
  intro z
  induction z with
  | zero=>
   intro T a' w' Y hT hl Z hS;have C:∀i,i<ops.size->i∈T:=by
    intro i hi;apply DT;intro aq;have h1:(i::T).length<=(Bm ops.size).length:=uQ (List.nodup_cons.2 ⟨aq,Y⟩) (λk F=>by
     rcases AY.1 F with rfl | F
     ·exact C6.2 hi
     ·exact C6.2 (hT k F))
    simp at h1;omega
   refine⟨?_,hQ _ _ (hS.done (λp hp=>C _ (by have:=hg.idx p hp;omega)))⟩;apply List.eq_nil_iff_forall_not_mem.2;intro j hj;obtain⟨H,J,_⟩:=jG hj;rw[bh]at J;simp[C j H,H]at J
  | succ z ih=>
   intro T a' w' Y hT hl Z hS;have V:∀j∈BK md ops (aX T (Cv ops.size false)),j<ops.size/\j∉T/\∀k∈bZ md ops j,k∈T:=by
    intro j hj;obtain⟨H,J,U⟩:=jG hj;have K:j∉T:=by
     intro h;rw[bh]at J;simp[h,H]at J
    refine⟨H,K,λk F=> ?_⟩;have h1:=U k F;rw[bh]at h1;apply DT;intro ab;have aa:k<ops.size:=by have:=G j H k F;omega
    simp[ab,aa]at h1
   have an:∃i,i<ops.size/\i∉T:=by
    apply DT;intro ar;have C:∀i∈Bm ops.size,i∈T:=λi hi=>DT λh=>ar ⟨i,C6.1 hi,h⟩
    have:=uQ List.nodup_range C;simp at this;omega
   have ac:∃i∈BK md ops (aX T (Cv ops.size false)),True:=by
    have key:∀(m i:Nat),i<=m->i<ops.size->i∉T->∃i∈BK md ops (aX T (Cv ops.size false)),True:=by
     intro m
     induction m with
     | zero=>
      intro i ao hi I;refine⟨i,lU no (by rw[bh];simp[I,hi]) (λk F=> ?_),trivial⟩;have:=G i no k F;omega
     | succ m ihm=>
      intro i ao hi I;by_cases C:∀k∈bZ md ops i,k∈T
      ·refine⟨i,lU no (by rw[bh];simp[I,hi]) (λk F=> ?_),trivial⟩;have aa:=hT k (C k F);rw[bh];simp[C k F,aa]
      ·simp only[Classical.not_forall]at C;obtain⟨k,F,ab⟩:=C;have ax:=G i no k F;exact ihm k no no ab
    obtain⟨i,hi,I⟩:=an;exact key i i (AI _) hi I
   refine⟨λh=> ?_,λj hj=> ?_⟩
   ·obtain⟨i,hi,_⟩:=ac;rw[h]at hi;cases hi
   ·obtain⟨ap,K,U⟩:=V j hj;refine xk hg no Z K U hS (λak au am=> ?_);have e:(aX T (Cv ops.size false)).setIfInBounds j true=aX (T++ [j]) (Cv ops.size false):=by unfold aX;rw[List.foldl_append];rfl
    rw[e];refine ih (T++ [j]) ak au ?_ ?_ ?_ ?_ am
    ·exact List.nodup_append.2 ⟨Y,Ad,by intro x hx y hy;simp at hy;subst hy;exact λh=>K (h▸hx)⟩
    ·intro i hi;rcases AJ.1 hi with h | h
     ·exact hT i h
     ·simp at h;rw[h];exact ap
    ·simp;omega
    ·intro i hi k F;rcases AJ.1 hi with h | h
     ·exact AJ.2 (.inl (Z i h k F))
     ·simp at h;subst h;exact AJ.2 (.inl (U k F))
 exact ad ops.size [] a w Ad Ad Ad (λj hj=>by cases hj) h
theorem Au{p:Prop}(h:p:=by simpa using h):p:=h
theorem zM{r:eA}(U:qU P ρ vt w0 nt md ops Q b nb r)(V:r.length=ops.size)(C:∀j,j<ops.size->∀k∈bZ md ops j,k<j) 
  (h:StT ρ vt w0 nt b nb r [] a w)(Y:∀a' w',StF ρ vt w0 nt (lkE b r) nb r a' w'->Q .normal a' w'):wpOps P ops Q (Bm ops.size) a w:=by
 have G:∀(z j:Nat)(a':Act)(w':World),j+z=ops.size->StT ρ vt w0 nt b nb r (Bm j) a' w'->wpOps P ops Q (List.range' j z) a' w':=by
  intro z
  induction z with
  | zero=>
   intro j a' w' Z I;simp only[List.range'_zero,wpOps];exact Y _ _ (I.done (λp hp=>by have:=U.idx p hp;simp;omega))
  | succ z ih=>
   intro j a' w' Z I;rw[List.range'_succ,wpOps_cons];refine xk (T:=Bm j) U no (λi hi k J=> ?_) Ad (λk J=> ?_) I (λH K F=> ?_)
   ·have h1:=C6.1 hi;have:=C i no k J;exact C6.2 no
   ·exact C6.2 (C j no k J)
   ·rw[<-List.range_succ]at F;exact ih (j+1) H K no F
 have:=G ops.size 0 a w Ad Au;rwa [<-List.range_eq_range']at this
end
structure MutD where
 ks:List Nat
 pre:List (Nat×TypeId×List Leaf)
 us:List (Nat×TypeId×List Leaf)
 nv:Option (Nat×TypeId×List Leaf)
 keep:List (Nat×SV)
 xs:List SV
 deriving DecidableEq
def mutR:List SV->AV
 | [x]=>.v x
 | xs=>.tup xs
inductive Key where
 | mut (f:BH) (d:MutD)
 | bin (op:BinOp) (t:TypeId)
 | un (op:UnOp)
 | conv (s d:TypeId)
 | len (t:TypeId)
 | idx (t:TypeId)
 | ia (t:TypeId)
 | fa (t:TypeId) (f:Nat)
 | ld (t:TypeId)
 | sl (t:TypeId) (lo hi:Bool)
 | bs (t:TypeId) (n:Nat) (ix:List Nat)
 | app (t:TypeId)
 | frz (r i:Nat)
 | max
 | nc
 | lku (t:TypeId)
 deriving DecidableEq
structure OIns where
 key:Key
 xs:List SV
 r:SV
def pT(v k:Nat):Nat:=(v+1)*100000+k
def aggD:TypeDesc->Bool
 | .struct _=>true
 | .array .. =>true
 | _=>false
def xl(p:AZ)(t:TypeId):Option Bool:=(p.underlying t).map aggD
def szB(p:AZ)(t:TypeId):Option Nat:=(p.info? t).map (·.size)
def evA(lk:Nat->Option AV):AS->Option AV
 | .tmp t=>if t<100000 then lk t else none
 | .const v=>(svC v).map .v
 | .func f=>some (.v (.one (.fn f)))
 | .global _=>none
def evS(lk:Nat->Option AV)(x:AS):Option SV:=match evA lk x with | some (.v s)=>some s | _=>none
def evL(lk:Nat->Option AV)(x:AS):Option Leaf:=match evS lk x with | some (.one l)=>some l | _=>none
def rdO:AS->List Nat
 | .tmp t=>[t]
 | _=>[]
def iZ(lk:Nat->Option AV)(v:Nat):Nat->Nat->Option (List Leaf)
 | _,0=>some []
 | k,n+1=>match lk (pT v k)with
  | some (.v (.one l))=>(iZ lk v (k+1) n).map (l:: ·)
  | _=>none
def lY(v k n:Nat):List Nat:=(Bm n).map λj=>pT v (k+j)
def SV.leaves:SV->List Leaf
 | .one l=>[l]
 | .agg ls=>ls
def zN{α:Type}(ls:List α)(off:Nat):List α->List α
 | []=>ls
 | v::vs=>zN (ls.set off v) (off+1) vs
def lZ(place:Nat->Option (Nat×Nat))(ls:List Leaf):List (Nat×SV)->Option (List Leaf)
 | []=>some ls
 | (i,s)::rest=>match place i with
  | none=>none
  | some (off,size)=>if s.leaves.length=size/\off+s.leaves.length<=ls.length then lZ place (zN ls off s.leaves) rest else none
def l7(lk:Nat->Option AV):List (Nat×AS)->Option (List (Nat×SV))
 | []=>some []
 | (i,x)::r=>match evS lk x,l7 lk r with
  | some s,some l=>some ((i,s)::l)
  | _,_=>none
def xm(p:AZ)(t:TypeId):Option (List Leaf):=match (p.info? t).bind (·.zero)with | some z=>gP z.cells.toList | none=>none
def vh(p:AZ)(fs:Array Field)(i:Nat):Option (Nat×Nat):=match fs[i]? with | some f=>(szB p f.type).map λn=>(f.offset,n) | none=>none
def tN(p:AZ)(t:TypeId)(ls:List Leaf)(off:Nat):Option SV:=
 match xl p t with
 | some true=>match szB p t with
  | some n=>if off+n<=ls.length then some (.agg ((ls.drop off).take n))else none
  | none=>none
 | some false=>(ls[off]?).map .one
 | none=>none
def gQ(p:AZ)(t:TypeId):Bool:=match p.underlying t with | some .bool=>true | _=>false
def zO(bt:Bool)(op:BinOp)(x y:Leaf):Option Leaf:=
 match x,y with
 | .b a,.b c=>if bt then match op with | .eql=>some (.b (a==c)) | .neq=>some (.b (!(a==c))) | _=>none else none
 | .i k a,.i k' c=>if k=k' then match op with
   | .eql=>some (.b (decide (a=c))) | .neq=>some (.b (!decide (a=c))) | .lss=>some (.b (decide (a<c))) | .leq=>some (.b (decide (a<=c))) | .gtr=>some (.b (decide (c<a))) | .geq=>some (.b (decide (c<=a)))
   | .add=>some (.i k (k.wrap (a+c))) | .sub=>some (.i k (k.wrap (a - c))) | .mul=>some (.i k (k.wrap (a*c)))
   | _=>none else none
 | _,_=>none
def cM(L:List OIns)(k:Key)(xs:List SV):Option SV:=match L.find? (λo=>decide (o.key=k) && decide (o.xs=xs))with | some o=>some o.r | none=>none
def idxI(x:Leaf):Option Nat:=match x with | .i _ n=>if 0<=n then some n.toNat else none | _=>none
def cj(p:AZ)(L:List OIns)(lk:Nat->Option AV)(op:Op):Option (AV×List Nat):=
 match op with
 | .move x=>(evA lk x).map (·,[])
 | .assign x=>(evA lk x).map (·,[])
 | .pick c x y=>match evL lk c with
  | some (.b true)=>(evA lk x).map (·,[])
  | some (.b false)=>(evA lk y).map (·,[])
  | _=>none
 | .extract x k=>match evA lk x with
  | some (.tup xs)=>(xs[k]?).map λs=>(.v s,[])
  | _=>none
 | .load t x=>match evL lk x with
  | some (.ptr v o)=>match xl p t with
   | some true=>match szB p t with
    | some n=>if o+n<=100000/\0<n then(iZ lk v o n).map λls=>(.v (.agg ls),lY v o n)else none
    | none=>none
   | some false=>if o+1<=100000 then match iZ lk v o 1 with
    | some [l]=>some (.v (.one l),lY v o 1)
    | _=>none else none
   | none=>none
  | _=>none
 | .fieldAddr s x f=>match evL lk x,p.underlying s with
  | some (.ptr v o),some (.struct fs)=>match fs[f]? with
   | some fd=>match szB p fd.type with
    | some (_+1)=>some (.v (.one (.ptr v (o+fd.offset))),[])
    | _=>none
   | none=>none
  | _,_=>none
 | .indexAddr t x ix=>match evL lk x,p.underlying t,evL lk ix with
  | some (.ptr v o),some (.array len e),some l=>match idxI l,szB p e with
   | some i,some n=>if i<len then some (.v (.one (.ptr v (o+i*n))),[])else none
   | _,_=>none
  | _,_,_=>none
 | .build t parts=>match xm p t,l7 lk parts.toList,p.underlying t with
  | some z,some ps,some (.struct fs)=>if fs.all (λf=>(szB p f.type).isSome)then(lZ (vh p fs) z ps).map λls=>(.v (.agg ls),[])else none
  | some z,some ps,some (.array _ e)=>match szB p e with
   | some n=>(lZ (λi=>some (i*n,n)) z ps).map λls=>(.v (.agg ls),[])
   | none=>none
  | _,_,_=>none
 | .field t x f=>match evS lk x,p.underlying t with
  | some (.agg ls),some (.struct fs)=>match fs[f]? with
   | some fd=>(tN p fd.type ls fd.offset).map λs=>(.v s,[])
   | none=>none
  | _,_=>none
 | .index t x ix=>match evS lk x,p.underlying t,evL lk ix with
  | some (.agg ls),some (.array len e),some l=>match idxI l,szB p e with
   | some i,some n=>if i<len then(tN p e ls (i*n)).map λs=>(.v s,[])else none
   | _,_=>none
  | _,_,_=>none
 | .binOp op t x y _=>match evS lk x,evS lk y with
  | some (.one a),some (.one c)=>match zO (gQ p t) op a c with
   | some l=>some (.v (.one l),[])
   | none=>(cM L (.bin op t) [.one a,.one c]).map λs=>(.v s,[])
  | some a,some c=>(cM L (.bin op t) [a,c]).map λs=>(.v s,[])
  | _,_=>none
 | .unOp .not _ x=>match evL lk x with
  | some (.b c)=>some (.v (.one (.b (!c))),[])
  | some l=>(cM L (.un .not) [.one l]).map λs=>(.v s,[])
  | none=>none
 | .unOp op _ x=>match evS lk x with
  | some s=>(cM L (.un op) [s]).map λs=>(.v s,[])
  | none=>none
 | .convert s d x=>match evL lk x,p.underlying s,p.underlying d with
  | some (.i _ n),some (.int _),some (.int k)=>some (.v (.one (.i k (k.wrap n))),[])
  | some l,_,_=>(cM L (.conv s d) [.one l]).map λs=>(.v s,[])
  | none,_,_=>(match evS lk x with | some a=>(cM L (.conv s d) [a]).map λs=>(.v s,[]) | none=>none)
 | .call c=>match c.callee,c.args.toList,c.argTypes[0]? with
  | .builtin .len,[x],some t=>match evS lk x with
   | some a=>(cM L (.len t) [a]).map λs=>(.v s,[])
   | none=>none
  | .builtin .max,[x,y],some _=>match evS lk x,evS lk y with
   | some a,some b=>(cM L .max [a,b]).map λs=>(.v s,[])
   | _,_=>none
  | _,_,_=>none
 | _=>none
def genO:Op->Option (Key×List AS)
 | .index t x i=>some (.idx t,[x,i])
 | .indexAddr t x i=>some (.ia t,[x,i])
 | .fieldAddr t x f=>some (.fa t f,[x])
 | .load t x=>some (.ld t,[x])
 | .nilCheck x=>some (.nc,[x])
 | .lookup t x i false=>some (.lku t,[x,i])
 | .slice t x none none none=>some (.sl t false false,[x])
 | .slice t x (some l) none none=>some (.sl t true false,[x,l])
 | .slice t x none (some h) none=>some (.sl t false true,[x,h])
 | .slice t x (some l) (some h) none=>some (.sl t true true,[x,l,h])
 | _=>none
def pU(lk:Nat->Option AV):List AS->Option (List SV)
 | []=>some []
 | x::xs=>match evS lk x,pU lk xs with
  | some s,some l=>some (s::l)
  | _,_=>none
def nilO(lk:Nat->Option AV):Op->Option AV
 | .nilCheck x=>match evL lk x with
  | some (.ptr v o)=>some (.v (.one (.ptr v o)))
  | _=>none
 | _=>none
def tO(p:AZ)(L:List OIns)(lk:Nat->Option AV)(op:Op):Option (AV×List Nat):=
 match cj p L lk op with
 | some r=>some r
 | none=>match nilO lk op with
  | some c=>some (c,[])
  | none=>match genO op with
   | some (k,xs)=>match pU lk xs with
    | some ss=>(cM L k ss).map λs=>(.v s,[])
    | none=>none
   | none=>none
def ownP(ρ:Rho)(r:SV)(w:World)(v:Value):Prop:=match r with
 | .one (.own _ m)=>∃s,ρ[m]? =some s/\s.p w v/\∀g,s.fp w v g->v.ownBlock=some g
 | _=>False
def zP(ρ:Rho)(B:Blk)(w:World)(q:Nat×TypeId×List Leaf):Prop:=
 ∃g cs,B.v q.1=some g/\w.heap[g]? =some (.cells cs q.2.1 (0,0))/\aD ρ B w q.2.2 cs.toList/\∀(k:Nat)(n:Int),cs[k]? ≠some (.int .u32 n)
structure Mut(d:MutD)(B B':Blk)(w w':World):Prop where
 os:w'.os=w.os
 tape:w'.tape=w.tape
 output:w'.output=w.output
 v:∀x,(∀q,d.nv=some q->x≠q.1)->B'.v x=B.v x
 nv:∀q g,d.nv=some q->B'.v q.1=some g->w.heap.size<=g
 o:∀k g,B.o k g->B'.o k g
 new:∀k g,B'.o k g->B.o k g\/(k∈d.ks/\w.heap.size<=g)
 own:∀k g,k∈d.ks->B'.o k g->bv w' g
 inj:BInj B'
 chg:Chg w w' (λg=>(∃k∈d.ks,B.o k g)\/∃q∈d.us,B.v q.1=some g)
def MutOk(p:AZ)(ρ:Rho)(f:BH)(d:MutD)(B:Blk)(w:World)(vs:List Value):Prop:=(callFunc f vs.toArray).run p w= .ok (.enter f vs.toArray) w/\(BOk B w.heap.size->BInj B->(∀k g,B.o k g->bv w g)->(∀x g,B.v x=some g->bv w g)->(∀q,d.nv=some q->B.v q.1=none)->(∀q∈d.pre,zP ρ B w q)->
   AF p f vs.toArray w (λe w'=>∃v B',e= .returned v/\(mutR d.xs).holds ρ B' w' v/\(∀q∈d.keep,∃u,vs[q.1]? =some u/\q.2.holds ρ B' w' u)/\(∀q∈d.us,zP ρ B' w' q)/\(∀q,d.nv=some q->zP ρ B' w' q)/\Mut d B B' w w'))
def OIns.Ok(p:Program)(ρ:Rho)(i:OIns):Prop:=∀(B:Blk)(w:World)(vs:List Value),cP ρ B w i.xs vs->
 match i.key,vs with
 | .bin op t,[x,y]=>∃v,i.r.holds ρ B w v/\∀xo yo,((do eqGuard op t xo yo x y;binOp op t x y:Sem Value)).run p w= .ok v w
 | .un op,[x]=>∃v,i.r.holds ρ B w v/\(Op.unary op x).run p w= .ok v w
 | .conv s d,[x]=>∃v,i.r.holds ρ B w v/\(convert s d x).run p w= .ok v w
 | .len t,[x]=>∃v,i.r.holds ρ B w v/\∀(ts:Array TypeId) ty,ts[0]? =some t->(Builtin.len_ ts ty #[x]).run p w= .ok v w
 | .idx t,[x,y]=>∃v,i.r.holds ρ B w v/\(Instr.index t x y).run p w= .ok v w
 | .ia t,[x,y]=>∃v,i.r.holds ρ B w v/\(Instr.indexAt t x y).run p w= .ok v w
 | .ld t,[x]=>∃v,i.r.holds ρ B w v/\(Instr.loadAt t x).run p w= .ok v w
 | .fa t f,[x]=>∃v,i.r.holds ρ B w v/\(Instr.fieldAt t x f).run p w= .ok v w
 | .sl t false false,[x]=>∃v,i.r.holds ρ B w v/\(Instr.sliceAt t x none none none).run p w= .ok v w
 | .sl t true false,[x,y]=>∃v,i.r.holds ρ B w v/\(Instr.sliceAt t x (some y) none none).run p w= .ok v w
 | .sl t false true,[x,y]=>∃v,i.r.holds ρ B w v/\(Instr.sliceAt t x none (some y) none).run p w= .ok v w
 | .app t,[x,y]=>∀ty,∃v w',(Builtin.append_ #[t,t] ty #[x,y]).run p w= .ok v w'/\w.grownBy w' x.ownBlock/\(∀g,x.ownBlock=some g->bv w' g)/\(∀g,v.ownBlock=some g->(x.ownBlock=some g\/w.heap.size<=g)/\g<w'.heap.size/\bv w' g)/\ownP ρ i.r w' v
 | .frz _ _,[x]=>i.r.holds ρ B w x
 | .nc,[x]=>∃ad,x= .pointer (some ad)/\i.r.holds ρ B w x
 | .lku t,[x,y]=>∃v,i.r.holds ρ B w v/\(Instr.lookup t x y false).run p w= .ok v w
 | .max,[x,y]=>∃v,i.r.holds ρ B w v/\∀(ts:Array TypeId) ty,(Builtin.max_ ts ty #[x,y]).run p w= .ok v w
 | .mut f d,vs=>MutOk p ρ f d B w vs
 | .bs t n ix,vs=>BOk B w.heap.size->∃v w',i.r.holds ρ B w' v/\(Instr.buildSlice t n (ix.zip vs).toArray).run p w= .ok v w'/\mBw w w'
 | .sl t true true,[x,y,z]=>∃v,i.r.holds ρ B w v/\(Instr.sliceAt t x (some y) (some z) none).run p w= .ok v w
 | _,_=>True
def OIns.OkE(E:Ent)(p:AZ)(ρ:Rho)(i:OIns):Prop:=match i.key with
 | .mut f d=>∀(B:Blk)(w:World)(vs:List Value),(∀x g,E.pin[x]? =some g->B.v x=some g)->cP ρ B w i.xs vs->MutOk p ρ f d B w vs
 | _=>i.Ok p ρ
theorem OIns.Ok.e{E:Ent}{p:Program}{ρ:Rho}{i:OIns}(h:i.Ok p ρ):i.OkE E p ρ:=by
 obtain⟨k,xs,r⟩:=i;cases k<;>first | exact h | exact λB w vs _ hv=>h B w vs hv
section
variable {ρ:Rho} {L:List OIns} {B:Blk} {a:Act} {w:World} {lk:Nat->Option AV} {x:AS}
theorem tP(h:∀y∈rdO x,∀c,lk y=some c->bL ρ B a w y c)(e:evA lk x=some c):c.holds ρ B w (a.eval x):=by
 cases x with
 | tmp t=>
  simp only[evA]at e;split at e
  ·rename_i ht;obtain⟨u,h1,h2⟩:=(by have:=h t (by simp[rdO]) c e;unfold bL at this;rwa [if_pos ht]at this:∃u,a.tmps[t]? =some u/\c.holds ρ B w u);have:a.eval (.tmp t)=u:=by simp only[Di,Fc,h1,Option.getD_some]
   rw[this];exact h2
  ·cases e
 | const v=>
  simp only[evA]at e
  cases h1:svC v with
  | none=>rw[h1]at e;cases e
  | some s=>rw[h1]at e;simp at e;subst e;exact svC_holds h1
 | func f=>simp only[evA,A4.injEq]at e;subst e;rfl
 | global g=>simp[evA]at e
theorem tQ(h:∀y∈rdO x,∀c,lk y=some c->bL ρ B a w y c)(e:evS lk x=some s):s.holds ρ B w (a.eval x):=by
 unfold evS at e;split at e
 ·rename_i s' h1;injection e with e;subst e;exact tP h h1
 ·cases e
theorem evL_holds{l:Leaf}(h:∀y∈rdO x,∀c,lk y=some c->bL ρ B a w y c)(e:evL lk x=some l):l.holds ρ B w (a.eval x):=by
 unfold evL at e;split at e
 ·rename_i s' h1;injection e with e;subst e;exact tQ h h1
 ·cases e
end
section
variable {p:AZ} {ρ:Rho} {B:Blk} {a:Act} {w:World} {t:TypeId}
theorem run_underlying{d:TypeDesc}(h:p.underlying t=some d):(underlying t).run p w= .ok d w:=by
 simp[underlying,program,AK,CW,h,AU]
theorem xp{i:TypeInfo}(h:p.info? t=some i):(typeInfo t).run p w= .ok i w:=by
 simp[typeInfo,program,AK,CW,h,AU]
theorem ba(h:szB p t=some n):(sizeOf t).run p w= .ok n w:=by
 unfold szB at h
 cases hi:p.info? t with
 | none=>rw[hi]at h;cases h
 | some i=>rw[hi]at h;simp at h;subst h;simp[sizeOf,AK,xp hi,AU]
theorem i9{b:Bool}(h:xl p t=some b):(isAgg t).run p w= .ok b w:=by
 unfold xl at h
 cases hi:p.underlying t with
 | none=>rw[hi]at h;cases h
 | some d=>
  rw[hi]at h;simp at h;subst h;unfold isAgg;rw[AK,run_underlying hi];cases d<;>rfl
theorem nH{z:Value}(h:(p.info? t).bind (·.zero)=some z):(zeroValue t).run p w= .ok z w:=by
 cases hi:p.info? t with
 | none=>rw[hi]at h;cases h
 | some i=>rw[hi]at h;simp at h;simp[zeroValue,AK,xp hi,AU,h]
theorem nI{ad:A0}(h:w.cell? ad=some v):(Go.load ad).run p w= .ok v w:=by
 simp[Go.load,CW,h]
theorem bQ(g o k:Nat):(⟨g,o,none⟩:A0).add k=⟨g,o+k,none⟩:=by
 unfold Addr.add;split
 ·subst_vars;rfl
 ·rfl
theorem aH{ty:TypeId}{C:Nat×Nat}(h:w.heap[g]? =some (.cells cs ty C)):w.cell? ⟨g,o,none⟩=cs[o]? :=by
 simp[World.cell?,h]
theorem Az{p:Prop}(h:p:=by simpa using F):p:=h
theorem ja{ty:TypeId}(h:w.heap[g]? =some (.cells cs ty (0,0))):∀(vs:List Value)(i:Nat)(C:Array Value),
  (∀k v,vs[k]? =some v->cs[o+(i+k)]? =some v)->(loadCellsFrom ⟨g,o,none⟩ i vs.length C).run p w= .ok (C++vs.toArray) w
 | [],i,C,_=>by simp[loadCellsFrom]
 | v::vs,i,C,hv=>by
  have h1:=hv 0 v rfl;rw[CL]at h1;have h2:=ja h vs (i+1) (C.push v) (λk u F=>by
   have:=hv (k+1) u Az;rwa [show i+(k+1)=i+1+k from no]at this)
  simp only[Bh,loadCellsFrom];rw[AK,bQ,nI (by rw[aH h];exact h1)];simp only[AU];rw[h2];simp
theorem kj{v:Nat}(C:k<100000):bL ρ B a w (pT v k) c↔∃g cs ty u,B.v v=some g/\w.heap[g]? =some (.cells cs ty (0,0))/\cs[k]? =some u/\c.holds ρ B w u:=by
 unfold bL pT;rw[if_neg no,show((v+1)*100000+k) / 100000 - 1=v from no,show((v+1)*100000+k) % 100000=k from no]
theorem fL{lk:Nat->Option AV}{v:Nat}:∀ {n k:Nat} {ls:List Leaf},iZ lk v k n=some ls->k+n<=100000->(∀x∈lY v k n,∀c,lk x=some c->bL ρ B a w x c)->
  ls.length=n/\(0<n->∃g cs ty,B.v v=some g/\w.heap[g]? =some (.cells cs ty (0,0))/\∃vs:List Value,aD ρ B w ls vs/\∀j u,vs[j]? =some u->cs[k+j]? =some u)
 | 0,k,ls,h,_,_=>by simp[iZ]at h;subst h;exact⟨rfl,λh=>no⟩
 | n+1,k,ls,h,hk,hx=>by
  simp only[iZ]at h;split at h
  ·rename_i l hl
   cases hr:iZ lk v (k+1) n with
   | none=>rw[hr]at h;cases h
   | some r=>
    rw[hr]at h;simp at h;subst h;have h0:=hx (pT v k) (by unfold lY;simp only[Be,C6];exact⟨0,no,Ad⟩) _ hl;rw[kj no]at h0;obtain⟨g,cs,ty,u,I,J,K,U⟩:=h0;obtain⟨F,G⟩:=fL hr no (λx H c hc=>hx x (by
     unfold lY at H⊢;simp only[Be,C6]at H⊢;obtain⟨j,C,rfl⟩:=H;exact⟨j+1,no,by congr 1;omega⟩) c hc)
    refine⟨by simp[F],λ_=>⟨g,cs,ty,I,J,?_⟩⟩;by_cases hn:n=0
    ·subst hn;have:r=[]:=List.eq_nil_of_length_eq_zero F;subst this;exact⟨[u],⟨U,trivial⟩,λj x C=>by
      match j with
      | 0=>simp at C;subst C;simpa using K
      | j+1=>simp at C⟩
    ·obtain⟨g',V,aa,f1,f2,vs,Z,f4⟩:=G no;rw[I]at f1;injection f1 with f1;subst f1;rw[J]at f2;injection f2 with f2;injection f2 with f2 Y;subst f2;exact⟨u::vs,⟨U,Z⟩,λj x C=>by
      match j with
      | 0=>simp at C;subst C;simpa using K
      | j+1=>
       have:=f4 j x At;rwa [show k+1+j=k+(j+1)from no]at this⟩
  ·cases h
theorem aD.one{l:Leaf}{vs:List Value}(h:aD ρ B w [l] vs):∃v,vs=[v]/\l.holds ρ B w v:=by
 match vs,h with
 | [v],h=>exact⟨v,rfl,h.1⟩
theorem aD.set:∀ {ls:List Leaf} {vs:List Value} {k:Nat} {l:Leaf} {v:Value},aD ρ B w ls vs->l.holds ρ B w v->aD ρ B w (ls.set k l) (vs.set k v)
 | [],[],_,_,_,_,_=>by simp[aD]
 | _::_,_::_,0,_,_,h,k=>⟨k,h.2⟩
 | _::_,_::_,n+1,_,_,h,k=>⟨h.1,aD.set h.2 k⟩
 | [],_::_,_,_,_,h,_=>h.elim
 | _::_,[],_,_,_,h,_=>h.elim
theorem aD.setRng:∀ {C:List Leaf} {us:List Value} {ls:List Leaf} {vs:List Value} {k:Nat},aD ρ B w C us->aD ρ B w ls vs->aD ρ B w (zN ls k C) (zN vs k us)
 | [],[],_,_,_,_,h=>h
 | _::_,_::_,_,_,_,k,h=>by unfold zN;exact aD.setRng k.2 (h.set k.1)
 | [],_::_,_,_,_,h,_=>h.elim
 | _::_,[],_,_,_,h,_=>h.elim
theorem SV.holds.cells(h:s.holds ρ B w v):aD ρ B w s.leaves v.cells.toList:=by
 cases s with
 | agg ls=>obtain⟨vs,rfl,h⟩:=h;simpa [Value.cells,SV.leaves]using h
 | one l=>
  have hc:v.cells=#[v]:=by
   cases l<;>simp only[SV.holds,Leaf.holds]at h
   ·subst h;rfl
   ·subst h;rfl
   ·obtain⟨g,_,rfl⟩:=h;rfl
   ·subst h;rfl
   ·obtain⟨s,_,h,_⟩:=h;have:=(s.fl _ _ h).1;cases v<;>first | rfl | exact absurd rfl (this _)
   ·subst h;rfl
   ·subst h;rfl
   ·subst h;rfl
   ·obtain⟨s,_,h,_⟩:=h;have:=(s.fl _ _ h).1;cases v<;>first | rfl | exact absurd rfl (this _)
  rw[hc];exact⟨h,trivial⟩
theorem tR{cs:Array Value}:∀(vs:List Value)(n off:Nat)(cs:Array Value),((vs.zipIdx n).foldl (λ(cs:Array Value)(x:Value×Nat)=>cs.setIfInBounds (off+x.2) x.1) cs).toList=zN cs.toList (off+n) vs
 | [],_,_,_=>rfl
 | v::vs,n,off,cs=>by
  simp only[List.zipIdx_cons,List.foldl_cons];rw[tR (cs:=cs) vs (n+1) off];simp[zN,Nat.add_assoc]
theorem jb{C:Nat->Option (Nat×Nat)}:∀ {ps:List (Nat×SV)} {us:List (Nat×Value)} {z H:List Leaf} {cells:Array Value},lZ C z ps=some H->
  us.map (·.1)=ps.map (·.1)->cP ρ B w (ps.map (·.2)) (us.map (·.2))->aD ρ B w z cells.toList->∃out:Array Value,Instr.fill C cells us=some out/\aD ρ B w H out.toList
 | [],[],z,H,cells,h,_,_,hz=>by simp[lZ]at h;subst h;exact⟨cells,rfl,hz⟩
 | (i,s)::ps,(j,u)::us,z,H,cells,h,F,hs,hz=>by
  simp only[Bq,List.cons.injEq]at F;obtain⟨rfl,F⟩:=F;simp only[lZ]at h;unfold Instr.fill
  cases hp:C j with
  | none=>rw[hp]at h;cases h
  | some x=>
   obtain⟨off,size⟩:=x;rw[hp]at h;simp only at h⊢;split at h
   ·rename_i hc;have G:=hs.1.cells;have h1:=G.len;have h2:=hz.len;simp only[ED]at h1 h2;rw[if_neg (by
     simp only[ne_eq,Eb,decide_eq_true_eq,not_or,Classical.not_not,Nat.not_lt];have:=hc.1;have:=hc.2;omega)]
    refine jb h F hs.2 ?_;have:=tR (cs:=cells) u.cells.toList 0 off cells;rw[CL]at this;rw[<-Array.toList_zipIdx]at this;simp only[Array.foldl_toList]at this;rw[this];exact aD.setRng G hz
   ·cases h
 | [],_::_,_,_,_,_,F,_,_=>by simp at F
 | _::_,[],_,_,_,_,F,_,_=>by simp at F
end
section
variable {p:AZ} {ρ:Rho} {B:Blk} {a:Act} {w:World} {L:List OIns} {lk:Nat->Option AV} {c:AV} {rd:List Nat} {o:Oper}
def bk(ρ:Rho)(B:Blk)(a:Act)(w:World)(lk:Nat->Option AV)(x:AS):Prop:=∀y∈rdO x,∀c,lk y=some c->bL ρ B a w y c
def d8(p:AZ)(ρ:Rho)(B:Blk)(a:Act)(w:World)(o:Oper)(c:AV):Prop:=∃u,(execOp a.eval o).run p w= .ok (.value u) w/\c.holds ρ B w u
theorem tS{x:AS}{c:AV}(h:bk ρ B a w lk x)(e:evA lk x=some c):c.holds ρ B w (a.eval x):=tP h e
theorem eE{x:AS}{c:SV}(h:bk ρ B a w lk x)(e:evS lk x=some c):c.holds ρ B w (a.eval x):=tQ h e
theorem eF{x:AS}{c:Leaf}(h:bk ρ B a w lk x)(e:evL lk x=some c):c.holds ρ B w (a.eval x):=evL_holds h e
theorem qY{x:AS}(C:o.op= .move x\/o.op= .assign x)(h:(evA lk x).map (·,([]:List Nat))=some (c,rd))(H:bk ρ B a w lk x):d8 p ρ B a w o c:=by
 cases e:evA lk x with
 | none=>rw[e]at h;cases h
 | some d=>
  rw[e]at h;simp at h;obtain⟨rfl,_⟩:=h;refine⟨a.eval x,?_,tS H e⟩;rcases C with C | C<;>(unfold execOp;rw[C];rfl)
theorem zQ{k x y:AS}(H:o.op= .pick k x y)(h:cj p L lk (.pick k x y)=some (c,rd))(G:bk ρ B a w lk k)(I:bk ρ B a w lk x)(J:bk ρ B a w lk y):d8 p ρ B a w o c:=by
 simp only[cj]at h;split at h
 ·rename_i C;have F:a.eval k= .bool true:=eF G C
  cases e:evA lk x with
  | none=>rw[e]at h;cases h
  | some d=>
   rw[e]at h;simp at h;obtain⟨rfl,_⟩:=h;exact⟨a.eval x,by unfold execOp;rw[H];simp only[F];rfl,tS I e⟩
 ·rename_i C;have F:a.eval k= .bool false:=eF G C
  cases e:evA lk y with
  | none=>rw[e]at h;cases h
  | some d=>
   rw[e]at h;simp at h;obtain⟨rfl,_⟩:=h;exact⟨a.eval y,by unfold execOp;rw[H];simp only[F];rfl,tS J e⟩
 ·cases h
theorem tj{x:AS}(G:o.op= .extract x k)(h:cj p L lk (.extract x k)=some (c,rd))(H:bk ρ B a w lk x):d8 p ρ B a w o c:=by
 simp only[cj]at h;split at h
 ·rename_i xs e;obtain⟨vs,C,F⟩:=(tS H e:AV.holds ρ B w (.tup xs) (a.eval x))
  cases e3:xs[k]? with
  | none=>rw[e3]at h;cases h
  | some s=>
   rw[e3]at h;simp at h;obtain⟨rfl,_⟩:=h;obtain⟨v,h1,h2⟩:=F.get e3;refine⟨v,?_,h2⟩;unfold execOp;rw[G];simp[C,Instr.extract,h1,AK,AU]
 ·cases h
theorem xq{x:AS}(h:cj p L lk (.load t x)=some (c,rd))(H:bk ρ B a w lk x)(Y:∀y∈rd,∀c,lk y=some c->bL ρ B a w y c):
  ∃ad u,a.eval x= .pointer (some ad)/\(loadVar t ad).run p w= .ok u w/\c.holds ρ B w u:=by
 simp only[cj]at h;split at h
 ·rename_i v off e;obtain⟨g,hg,Z⟩:=(eF H e:Leaf.holds ρ B w (.ptr v off) (a.eval x));refine⟨⟨g,off,none⟩,?_⟩;split at h
  ·rename_i F;split at h
   ·rename_i n hn;split at h
    ·rename_i G
     cases J:iZ lk v off n with
     | none=>rw[J]at h;cases h
     | some ls=>
      rw[J]at h;simp at h;obtain⟨rfl,rfl⟩:=h;obtain⟨I,C⟩:=fL (a:=a) J G.1 Y;obtain⟨g',cs,ty,f1,f2,vs,K,U⟩:=C G.2;rw[hg]at f1;injection f1 with f1;subst f1;refine⟨.agg vs.toArray,Z,?_,vs,rfl,K⟩;have hl:vs.length=n:=by rw[K.len,I]
      have:=ja (p:=p) (o:=off) f2 vs 0 #[] (λk u V=>by rw[A7];exact U k u V);rw[hl]at this;simp[loadVar,loadCells,AK,i9 F,ba hn,this,AU]
    ·cases h
   ·cases h
  ·rename_i F;split at h
   ·rename_i G;split at h
    ·rename_i l J;simp at h;obtain⟨rfl,rfl⟩:=h;obtain⟨I,C⟩:=fL (a:=a) J G Y;obtain⟨g',cs,ty,f1,f2,vs,K,U⟩:=C it;rw[hg]at f1;injection f1 with f1;subst f1;obtain⟨u,rfl,V⟩:=K.one;refine⟨u,Z,?_,V⟩;have:=nI (p:=p) (ad:=⟨g,off,none⟩) (v:=u) (by rw[aH f2];exact U 0 u rfl);simp[loadVar,AK,i9 F,this,AU]
    ·cases h
   ·cases h
  ·cases h
 ·cases h
theorem zR{x:AS}(J:o.op= .load t x)(h:cj p L lk (.load t x)=some (c,rd))(H:bk ρ B a w lk x)(C:∀y∈rd,∀c,lk y=some c->bL ρ B a w y c):d8 p ρ B a w o c:=by
 obtain⟨K,u,F,G,I⟩:=xq h H C;refine⟨u,?_,I⟩;unfold execOp;rw[J];simp[F,CX,DZ,AK,G,AU]
theorem pV{x:AS}{f:Nat}(G:o.op= .fieldAddr t x f)(h:cj p L lk (.fieldAddr t x f)=some (c,rd))(H:bk ρ B a w lk x):d8 p ρ B a w o c:=by
 simp only[cj]at h;split at h
 ·rename_i v off K e I;obtain⟨g,F,C⟩:=(eF H e:Leaf.holds ρ B w (.ptr v off) (a.eval x));split at h
  ·rename_i J hf;split at h
   ·rename_i n hn;simp at h;obtain⟨rfl,rfl⟩:=h;refine⟨_,?_,g,F,rfl⟩;unfold execOp;rw[G];simp[C,Fe,DZ,fieldPlace,AK,run_underlying I,hf,ba hn,AU,bQ]
   ·cases h
  ·cases h
 ·cases h
theorem q9{l:Leaf}{i:Nat}(h:idxI l=some i)(hl:l.holds ρ B w v):∃k,v= .int k (i:Int):=by
 unfold idxI at h;split at h
 ·rename_i k n;split at h
  ·rename_i hn;simp at h;subst h;exact⟨k,by rw[show v= .int k n from hl,Int.toNat_of_nonneg hn]⟩
  ·cases h
 ·cases h
theorem pW{t:TypeId}{x ix:Operand}(ho:o.op= .indexAddr t x ix)(h:cj p L lk (.indexAddr t x ix)=some (c,rd))(H:bk ρ B a w lk x)(Hi:bk ρ B a w lk ix):d8 p ρ B a w o c:=by
 simp only[cj]at h;split at h
 ·rename_i v off len e l h1 hu h3;obtain⟨g,hg,e1⟩:=(eF H h1:Leaf.holds ρ B w (.ptr v off) (a.eval x));split at h
  ·rename_i i n hi hn;obtain⟨k,e2⟩:=q9 hi (eF Hi h3);split at h
   ·rename_i hlt;simp at h;obtain⟨rfl,rfl⟩:=h;refine⟨_,?_,g,hg,rfl⟩;unfold execOp;rw[ho];simp[e1,e2,Instr.indexAt,Instr.sureAddr,asIntOf,Sem.run_bind,run_underlying hu,ba hn,Result.andThen,bQ,hlt]
   ·cases h
  ·cases h
 ·cases h
theorem re{ls:List Leaf}{off:Nat}(h:tN p t ls off=some s)(hc:aD ρ B w ls cs.toList):∃v,(part t cs off).run p w= .ok v w/\s.holds ρ B w v:=by
 unfold tN at h;split at h
 ·rename_i C;split at h
  ·rename_i n hn;split at h
   ·rename_i J;simp at h;subst h;refine⟨.agg (cs.extract off (off+n)),by unfold part;rw[AK,i9 C];simp only[AU,if_true,AK,ba hn,Bu],(cs.extract off (off+n)).toList,by rw[EF],?_⟩;have H:=hc.len;refine aD.mk ?_ (λk l v G K=> ?_)
    ·simp only[ED,Array.size_extract,List.length_take,List.length_drop]at H⊢;omega
    ·have I:k<n:=by
      rw[BJ]at G;by_cases h:k<n
      ·exact h
      ·rw[if_neg h]at G;cases G
     rw[BJ,if_pos I,List.getElem?_drop]at G;obtain⟨u,h1,h2⟩:=hc.get G;have:v=u:=by
      have F:(cs.extract off (off+n))[k]? =some v:=by rw[<-BR];exact K
      rw[Array.getElem?_extract]at F;simp only[BR]at h1;split at F
      ·rw[h1]at F;injection F with e;exact e.symm
      ·cases F
     rw[this];exact h2
   ·cases h
  ·cases h
 ·rename_i C
  cases hl:ls[off]? with
  | none=>rw[hl]at h;cases h
  | some l=>
   rw[hl]at h;simp at h;subst h;obtain⟨u,h1,h2⟩:=hc.get hl;refine⟨u,?_,h2⟩;simp only[BR]at h1;simp[part,AK,i9 C,AU,h1]
 ·cases h
theorem xr{x:AS}{f:Nat}(I:o.op= .field t x f)(h:cj p L lk (.field t x f)=some (c,rd))(H:bk ρ B a w lk x):d8 p ρ B a w o c:=by
 simp only[cj]at h;split at h
 ·rename_i ls K h1 J;obtain⟨vs,F,G⟩:=(eE H h1:SV.holds ρ B w (.agg ls) (a.eval x));split at h
  ·rename_i C hf
   cases hp:tN p C.type ls C.offset with
   | none=>rw[hp]at h;cases h
   | some s=>
    rw[hp]at h;simp at h;obtain⟨rfl,rfl⟩:=h;obtain⟨v,h2,h3⟩:=re (cs:=vs.toArray) hp AA;refine⟨v,?_,h3⟩;unfold execOp;rw[I];simp[F,Instr.field,asAgg,AK,run_underlying J,hf,h2,AU]
  ·cases h
 ·cases h
theorem xt{x ix:AS}(V:o.op= .index t x ix)(h:cj p L lk (.index t x ix)=some (c,rd))(H:bk ρ B a w lk x)(F:bk ρ B a w lk ix):d8 p ρ B a w o c:=by
 simp only[cj]at h;split at h
 ·rename_i ls len e l h1 Y h3;obtain⟨vs,G,I⟩:=(eE H h1:SV.holds ρ B w (.agg ls) (a.eval x));split at h
  ·rename_i i n hi hn;obtain⟨k,J⟩:=q9 hi (eF F h3);split at h
   ·rename_i C
    cases hp:tN p e ls (i*n)with
    | none=>rw[hp]at h;cases h
    | some s=>
     rw[hp]at h;simp at h;obtain⟨rfl,rfl⟩:=h;obtain⟨v,K,U⟩:=re (cs:=vs.toArray) hp (by simpa using I);refine⟨v,?_,U⟩;unfold execOp;rw[V];simp[G,J,Ef,asIntOf,AK,run_underlying Y,ba hn,K,AU,C]
   ·cases h
  ·cases h
 ·cases h
end
section
variable {p:AZ} {ρ:Rho} {B:Blk} {a:Act} {w:World} {L:List OIns} {lk:Nat->Option AV} {c:AV} {rd:List Nat} {o:Oper}
theorem l8{α β:Type}(f:α->Sem β)(g:α->β):∀(xs:List α),(∀x∈xs,(f x).run p w= .ok (g x) w)->(xs.mapM f).run p w= .ok (xs.map g) w
 | [],_=>Ad
 | x::xs,h=>by
  have C:=l8 f g xs (λy hy=>h y (Bi _ hy));simp only[List.mapM_cons,AK,h x Ad,AU,C,Bu,Bq]
theorem xu{α β:Type}(f:α->Sem β)(g:α->β)(xs:Array α)(h:∀x∈xs.toList,(f x).run p w= .ok (g x) w):(xs.mapM f).run p w= .ok (xs.map g) w:=by
 obtain⟨l⟩:=xs;have:=l8 f g l Au;simp only[List.mapM_toArray,map_eq_pure_bind,AK,this,AU,Bu,CJ]
theorem ie:∀ {ps:List (Nat×AS)} {C:List (Nat×SV)},l7 lk ps=some C->(∀x∈ps,bk ρ B a w lk x.2)->
  (ps.map (λx=>(x.1,a.eval x.2))).map (·.1)=C.map (·.1)/\cP ρ B w (C.map (·.2)) ((ps.map (λx=>(x.1,a.eval x.2))).map (·.2))
 | [],C,h,_=>by simp[l7]at h;subst h;exact⟨rfl,trivial⟩
 | (i,x)::r,C,h,H=>by
  simp only[l7]at h;split at h
  ·rename_i s l h1 h2;simp at h;subst h;obtain⟨F,G⟩:=ie h2 (λy hy=>H y (Bi _ hy));exact⟨Az,eE (H (i,x) Ad) h1,G⟩
  ·cases h
theorem gR{z:List Leaf}(h:xm p t=some z):∃v,(zeroValue t).run p w= .ok v w/\aD ρ B w z v.cells.toList:=by
 unfold xm at h;split at h
 ·rename_i v C;exact⟨v,nH C,gZ h⟩
 ·cases h
theorem xv{ps:Array (Nat×AS)}(ho:o.op= .build t ps)(h:cj p L lk (.build t ps)=some (c,rd))(H:∀x∈ps.toList,bk ρ B a w lk x.2):d8 p ρ B a w o c:=by
 simp only[cj]at h;split at h
 ·rename_i z ss F h1 h2 Z;obtain⟨zv,hz,G⟩:=gR (ρ:=ρ) (B:=B) (w:=w) h1;obtain⟨I,J⟩:=ie h2 H;split at h
  ·rename_i C
   cases hf:lZ (vh p F) z ss with
   | none=>rw[hf]at h;cases h
   | some ls=>
    rw[hf]at h;simp at h;obtain⟨rfl,rfl⟩:=h
    let g:Field->Nat×Nat:=λf=>(f.offset,(szB p f.type).getD 0)
    have hm:(F.mapM (λf=>do pure (f.offset,<-sizeOf f.type):Field->Sem (Nat×Nat))).run p w= .ok (F.map g) w:=by
     refine xu _ g F (λf hf=> ?_);have h3:(szB p f.type).isSome=true:=by
      have:=Array.all_eq_true.1 C;obtain⟨i,hi,rfl⟩:=BL hf;simp only[Array.getElem_toList];exact this i (by simpa using hi)
     cases hs:szB p f.type with
     | none=>rw[hs]at h3;cases h3
     | some n=>simp only[AK,ba hs,AU,Bu];show _=Result.ok (f.offset,(szB p f.type).getD 0) w;rw[hs];rfl
    have Y:vh p F=λi=>(F.map g)[i]? :=by
     funext i
     unfold vh;rw[Array.getElem?_map]
     cases hi:F[i]? with
     | none=>rfl
     | some f=>
      have h3:(szB p f.type).isSome=true:=by
       have:=Array.all_eq_true.1 C;obtain⟨_,rfl⟩:=A2.1 hi;exact this i (A2.1 hi).1
      cases hs:szB p f.type with
      | none=>rw[hs]at h3;cases h3
      | some n=>show Option.map _ (szB p f.type)=some (f.offset,(szB p f.type).getD 0);rw[hs];rfl
    rw[Y]at hf;obtain⟨out,U,V⟩:=jb hf I J G;refine⟨.agg out,?_,out.toList,by rw[EF],V⟩;have K:(ps.map (λx=>(x.1,a.eval x.2))).toList=ps.toList.map (λx=>(x.1,a.eval x.2)):=Ad
    unfold execOp;rw[ho];simp only[Instr.build,AK,hz,run_underlying Z,AU,hm,K,U,Bu]
  ·cases h
 ·rename_i z ss len e h1 h2 Z;obtain⟨zv,hz,G⟩:=gR (ρ:=ρ) (B:=B) (w:=w) h1;obtain⟨I,J⟩:=ie h2 H;split at h
  ·rename_i n hn
   cases hf:lZ (λi=>some (i*n,n)) z ss with
   | none=>rw[hf]at h;cases h
   | some ls=>
    rw[hf]at h;simp at h;obtain⟨rfl,rfl⟩:=h;obtain⟨out,U,V⟩:=jb hf I J G;refine⟨.agg out,?_,out.toList,by rw[EF],V⟩;have K:(ps.map (λx=>(x.1,a.eval x.2))).toList=ps.toList.map (λx=>(x.1,a.eval x.2)):=Ad
    unfold execOp;rw[ho];simp only[Instr.build,AK,hz,run_underlying Z,AU,ba hn,K,U,Bu]
  ·cases h
 ·cases h
theorem zS{op:BinOp}{x y l:Leaf}{C F:Value}{t:TypeId}{xo yo:AS}(h:zO (gQ p t) op x y=some l)(K:x.holds ρ B w C)(hy:y.holds ρ B w F):
  ∃v,l.holds ρ B w v/\((do eqGuard op t xo yo C F;binOp op t C F:Sem Value)).run p w= .ok v w:=by
 unfold zO at h;split at h
 ·rename_i G H;have I:C= .bool G:=K;have J:F= .bool H:=hy;subst I;subst J;split at h
  ·rename_i hb;have Y:p.underlying t=some .bool:=by
    unfold gQ at hb;split at hb
    ·assumption
    ·cases hb
   have U:(Op.equal t (.bool G) (.bool H)).run p w= .ok (G==H) w:=by
    unfold Op.equal Op.maxDepth Op.equalIn;rw[AK,run_underlying Y];rfl
   cases op<;>simp only[A4.injEq,reduceCtorEq]at h<;>(subst h;refine⟨_,rfl,?_⟩;simp[eqGuard,binOp,AK,U,AU])
  ·cases h
 ·rename_i Z n1 k2 n2;have I:C= .int Z n1:=K;have J:F= .int k2 n2:=hy;subst I;subst J;split at h
  ·rename_i V;subst V;cases op<;>simp only[A4.injEq,reduceCtorEq]at h<;>(subst h;refine⟨_,rfl,?_⟩;simp[eqGuard,binOp,Op.intCmp,Op.intArith,AK,AU])<;>rfl
  ·cases h
 ·cases h
variable{E:Ent}
theorem fm(C:∀i∈L,i.OkE E p ρ){k:Key}{xs:List SV}(F:∀f d,k≠ .mut f d)(h:cM L k xs=some s):(OIns.mk k xs s).Ok p ρ:=by
 unfold cM at h;split at h
 ·rename_i i hi;simp at h;subst h;have h1:=DY hi;simp only[BU,decide_eq_true_eq]at h1;have:=C i (Dl hi);obtain⟨G,H,I⟩:=i;obtain⟨rfl,rfl⟩:=h1;cases G<;>first | exact this | exact absurd rfl (F _ _)
 ·cases h
theorem makes_bin{E:Ent}(hO:∀i∈L,i.OkE E p ρ){op:BinOp}{t ty:TypeId}{x y:Operand}(ho:o.op= .binOp op t x y ty)(h:cj p L lk (.binOp op t x y ty)=some (c,rd))(Hx:bk ρ B a w lk x)(Hy:bk ρ B a w lk y):d8 p ρ B a w o c:=by
 have fin:∀v,((do eqGuard op t x y (a.eval x) (a.eval y);binOp op t (a.eval x) (a.eval y):Sem Value)).run p w= .ok v w->(execOp a.eval o).run p w= .ok (.value v) w:=by
  intro v hv;unfold execOp;rw[ho];simp only;rw[Sem.run_bind,hv];rfl
 simp only[cj]at h;have orac:∀(s1 s2:SV),s1.holds ρ B w (a.eval x)->s2.holds ρ B w (a.eval y)->(cM L (.bin op t) [s1,s2]).map (λs=>(AV.v s,([]:List Nat)))=some (c,rd)->d8 p ρ B a w o c:=by
  intro s1 s2 hs1 hs2 hf
  cases e:cM L (.bin op t) [s1,s2]with
  | none=>rw[e]at hf;cases hf
  | some s=>
   rw[e]at hf;simp at hf;obtain⟨rfl,_⟩:=hf;obtain⟨v,h1,h2⟩:=(fm hO (λ_ _ h=>by cases h) e) B w [a.eval x,a.eval y] ⟨hs1,hs2,trivial⟩;exact⟨v,fin v (h2 x y),h1⟩
 split at h
 ·rename_i s1 s2 e1 e2;split at h
  ·rename_i l hl;simp at h;obtain⟨rfl,_⟩:=h;obtain⟨v,h1,h2⟩:=zS (xo:=x) (yo:=y) hl (eE Hx e1) (eE Hy e2);exact⟨v,fin v h2,h1⟩
  ·exact orac _ _ (eE Hx e1) (eE Hy e2) h
 ·rename_i s1 s2 _ e1 e2;exact orac _ _ (eE Hx e1) (eE Hy e2) h
 ·cases h
theorem makes_un{E:Ent}(hO:∀i∈L,i.OkE E p ρ){op:UnOp}{t:TypeId}{x:Operand}(ho:o.op= .unOp op t x)(h:cj p L lk (.unOp op t x)=some (c,rd))(Hx:bk ρ B a w lk x):d8 p ρ B a w o c:=by
 have fin:∀v,(Op.unary op (a.eval x)).run p w= .ok v w->(execOp a.eval o).run p w= .ok (.value v) w:=by
  intro v hv;unfold execOp;rw[ho];simp only;rw[Sem.run_bind,hv];rfl
 have orac:∀(s1:SV),s1.holds ρ B w (a.eval x)->(cM L (.un op) [s1]).map (λs=>(AV.v s,([]:List Nat)))=some (c,rd)->d8 p ρ B a w o c:=by
  intro s1 hs1 hf
  cases e:cM L (.un op) [s1]with
  | none=>rw[e]at hf;cases hf
  | some s=>
   rw[e]at hf;simp at hf;obtain⟨rfl,_⟩:=hf;obtain⟨v,h1,h2⟩:=(fm hO (λ_ _ h=>by cases h) e) B w [a.eval x] ⟨hs1,trivial⟩;exact⟨v,fin v h2,h1⟩
 cases op with
 | not=>
  simp only[cj]at h;split at h
  ·rename_i b e;simp at h;obtain⟨rfl,_⟩:=h;have e1:a.eval x= .bool b:=eF Hx e;exact⟨_,fin (.bool (!b)) (by rw[e1];rfl),rfl⟩
  ·rename_i l _ e;exact orac (.one l) (eF Hx e) h
  ·cases h
 | _=>
  simp only[cj]at h;split at h
  ·rename_i s e;exact orac _ (eE Hx e) h
  ·cases h
theorem zT{E:Ent}(hO:∀i∈L,i.OkE E p ρ){s d:TypeId}{x:Operand}(ho:o.op= .convert s d x)(h:cj p L lk (.convert s d x)=some (c,rd))(Hx:bk ρ B a w lk x):d8 p ρ B a w o c:=by
 have fin:∀v,(convert s d (a.eval x)).run p w= .ok v w->(execOp a.eval o).run p w= .ok (.value v) w:=by
  intro v hv;unfold execOp;rw[ho];simp only;rw[Sem.run_bind,hv];rfl
 have orac:∀(s1:SV),s1.holds ρ B w (a.eval x)->(cM L (.conv s d) [s1]).map (λs=>(AV.v s,([]:List Nat)))=some (c,rd)->d8 p ρ B a w o c:=by
  intro s1 hs1 hf
  cases e:cM L (.conv s d) [s1]with
  | none=>rw[e]at hf;cases hf
  | some s=>
   rw[e]at hf;simp at hf;obtain⟨rfl,_⟩:=hf;obtain⟨v,h1,h2⟩:=(fm hO (λ_ _ h=>by cases h) e) B w [a.eval x] ⟨hs1,trivial⟩;exact⟨v,fin v h2,h1⟩
 simp only[cj]at h;split at h
 ·rename_i k0 n k1 k e1 e2 e3;simp at h;obtain⟨rfl,_⟩:=h;have e4:a.eval x= .int k0 n:=eF Hx e1;refine⟨_,fin (.int k (k.wrap n)) ?_,rfl⟩;rw[e4];unfold convert;rw[Sem.run_bind,run_underlying e2];simp only[Result.andThen];rw[Sem.run_bind,run_underlying e3];rfl
 ·rename_i l _ e;exact orac (.one l) (eF Hx (by assumption)) h
 ·split at h
  ·rename_i s1 e;exact orac _ (eE Hx e) h
  ·cases h
theorem makes_len{E:Ent}(hO:∀i∈L,i.OkE E p ρ){k:Call}(ho:o.op= .call k)(h:cj p L lk (.call k)=some (c,rd))(H:∀x∈k.args.toList,bk ρ B a w lk x):d8 p ρ B a w o c:=by
 obtain⟨cal,args,tt⟩:=k;simp only[cj]at h;split at h
 ·rename_i x t e2 ht;split at h
  ·rename_i s e
   cases e3:cM L (.len t) [s]with
   | none=>rw[e3]at h;cases h
   | some r=>
    rw[e3]at h;simp at h;obtain⟨rfl,_⟩:=h;obtain⟨v,h1,h2⟩:=(fm hO (λ_ _ h=>by cases h) e3) B w [a.eval x] ⟨eE (H x (by simp[e2])) e,trivial⟩;refine⟨v,?_,h1⟩;have ea:args=#[x]:=by
     obtain⟨l⟩:=args;simp only at e2;subst e2;rfl
    subst ea;unfold execOp;rw[ho];simp only[resolve,Sem.run_bind,Sem.run_pure,Result.andThen,invoke,builtin];have:=h2 tt o.type ht;simp only[List.map_toArray,List.map_cons,List.map_nil];rw[this]
  ·cases h
 ·rename_i x y _ e2 ht;split at h
  ·rename_i s s' e e'
   cases e3:cM L .max [s,s']with
   | none=>rw[e3]at h;cases h
   | some r=>
    rw[e3]at h;simp at h;obtain⟨rfl,_⟩:=h;obtain⟨v,h1,h2⟩:=(fm hO (λ_ _ h=>by cases h) e3) B w [a.eval x,a.eval y] ⟨eE (H x (by simp[e2])) e,eE (H y (by simp[e2])) e',trivial⟩;refine⟨v,?_,h1⟩;have ea:args=#[x,y]:=by
     obtain⟨l⟩:=args;simp only at e2;subst e2;rfl
    subst ea;unfold execOp;rw[ho];simp only[resolve,Sem.run_bind,Sem.run_pure,Result.andThen,invoke,builtin];have:=h2 tt o.type;simp only[List.map_toArray,List.map_cons,List.map_nil];rw[this]
  ·cases h
 ·cases h
theorem Am{p:Prop}(h:p:=by simp[DB]):p:=h
theorem makes_all(F:∀i∈L,i.OkE E p ρ)(h:cj p L lk o.op=some (c,rd))(H:∀x∈o.op.operands.toList,bk ρ B a w lk x)(I:∀y∈rd,∀c,lk y=some c->bL ρ B a w y c):d8 p ρ B a w o c:=by
 obtain⟨op,C⟩:∃op,o.op=op:=⟨_,rfl⟩;rw[C]at h H
 cases op with
 | move x=>exact qY (.inl C) h (H x Am)
 | assign x=>exact qY (.inr C) h (H x Am)
 | pick k x y=>exact zQ C h (H k Am) (H x Am) (H y Am)
 | extract x k=>exact tj C h (H x Am)
 | load t x=>exact zR C h (H x Am) I
 | fieldAddr t x f=>exact pV C h (H x Am)
 | indexAddr t x ix=>exact pW C h (H x Am) (H ix Am)
 | build t ps=>exact xv C h (λx G=>H x.2 (by simp only[DB,Be];exact⟨x,G,rfl⟩))
 | field t x f=>exact xr C h (H x Am)
 | index t x ix=>exact xt C h (H x Am) (H ix Am)
 | binOp op t x y ty=>exact makes_bin F C h (H x Am) (H y Am)
 | unOp op t x=>exact makes_un F C h (H x Am)
 | convert s d x=>exact zT F C h (H x Am)
 | call k=>exact makes_len F C h (λx G=>H x (by simp only[DB,Ff,Fg,AJ];exact .inr G))
 | _=>simp[cj]at h
theorem gj:∀ {xs:List AS} {C:List SV},pU lk xs=some C->(∀x∈xs,bk ρ B a w lk x)->cP ρ B w C (xs.map a.eval)
 | [],C,h,_=>by simp[pU]at h;subst h;trivial
 | x::xs,C,h,H=>by
  simp only[pU]at h;split at h
  ·rename_i s l h1 h2;simp at h;subst h;exact⟨eE (H x Ad) h1,gj h2 (λy hy=>H y (Bi _ hy))⟩
  ·cases h
theorem makes_gen{E:Ent}(hO:∀i∈L,i.OkE E p ρ){k:Key}{xs:List Operand}{ss:List SV}{s:SV}(hg:genO o.op=some (k,xs))(hs:pU lk xs=some ss)(hf:cM L k ss=some s)(H:∀x∈xs,bk ρ B a w lk x):d8 p ρ B a w o (.v s):=by
 have hv:=gj hs H;have hk:=(fm hO (λf d e=>by subst e;revert hg;unfold genO;split<;>simp) hf) B w _ hv;obtain⟨op,ho⟩:∃op,o.op=op:=⟨_,rfl⟩;rw[ho]at hg;unfold genO at hg;split at hg<;>first | (cases hg;done) | skip
 all_goals
  simp only[Option.some.injEq,Prod.mk.injEq]at hg;obtain⟨rfl,rfl⟩:=hg
  first
  | (obtain⟨v,h1,h2⟩:=hk;refine⟨v,?_,h1⟩;unfold execOp;rw[ho];simp only[Option.map_some,Option.map_none];rw[Sem.run_bind];(first | rw[h2] | skip);rfl)
  | (obtain⟨ad,h1,h2⟩:=hk;refine⟨_,?_,h2⟩;unfold execOp;rw[ho];simp only[h1];rfl)
theorem genO_sub{op:Op}{k:Key}{xs:List AS}(C:genO op=some (k,xs)):∀x∈xs,x∈op.operands.toList:=by
 unfold genO at C;split at C<;>first | (cases C;done) | skip
 all_goals
  simp only[A4.injEq,Cm.injEq]at C;obtain⟨rfl,rfl⟩:=C;simp[DB]
theorem makes_any(F:∀i∈L,i.OkE E p ρ)(h:tO p L lk o.op=some (c,rd))(H:∀x∈o.op.operands.toList,bk ρ B a w lk x)(I:∀y∈rd,∀c,lk y=some c->bL ρ B a w y c):d8 p ρ B a w o c:=by
 unfold tO at h;split at h
 ·rename_i r K;simp only[A4.injEq]at h;subst h;exact makes_all F K H I
 ·split at h
  ·rename_i c' hn;simp only[A4.injEq,Cm.injEq]at h;obtain⟨rfl,rfl⟩:=h;obtain⟨op,G⟩:∃op,o.op=op:=⟨_,rfl⟩;rw[G]at hn H;unfold nilO at hn;split at hn
   ·rename_i x;split at hn
    ·rename_i v off e;simp only[A4.injEq]at hn;subst hn;obtain⟨g,C,J⟩:=(eF (H x Am) e:Leaf.holds ρ B w (.ptr v off) (a.eval x));refine⟨_,?_,g,C,rfl⟩;unfold execOp;rw[G];simp only[J];rfl
    ·cases hn
   ·cases hn
  ·split at h
   ·rename_i k xs C;split at h
    ·rename_i V hs
     cases hf:cM L k V with
     | none=>rw[hf]at h;cases h
     | some s=>
      rw[hf]at h;simp only[BG,A4.injEq,Cm.injEq]at h;obtain⟨rfl,rfl⟩:=h;exact makes_gen F C hs hf (λx U=>H x (genO_sub C x U))
    ·cases h
   ·cases h
end
structure Inst where
 f:BH
 args:List SV
 res:AV
def Inst.Ok(p:AZ)(ρ:Rho)(i:Inst):Prop:=
 (∀(vs:Array Value)(w:World),(callFunc i.f vs).run p w= .ok (.enter i.f vs) w)/\
 ∀(B:Blk)(w:World)(vs:List Value),BOk B w.heap.size->cP ρ B w i.args vs->AF p i.f vs.toArray w (λe w'=>∃v,e= .returned v/\i.res.holds ρ B w' v/\mBw w w')
def Inst.Ok0(p:AZ)(ρ:Rho)(w0:Ent)(i:Inst):Prop:=
 (∀(vs:Array Value)(w:World),(callFunc i.f vs).run p w= .ok (.enter i.f vs) w)/\
 ∀(B:Blk)(w:World)(vs:List Value),w0.kept w->BOk B w.heap.size->cP ρ B w i.args vs->AF p i.f vs.toArray w (λe w'=>∃v,e= .returned v/\i.res.holds ρ B w' v/\mBw w w')
theorem Inst.Ok.to0{p:AZ}{i:Inst}(h:i.Ok p ρ)(w0:Ent):i.Ok0 p ρ w0:=⟨h.1,λB w vs _ C F=>h.2 B w vs C F⟩
variable{C:World->Prop}
theorem mMo{A B:World->Value->Prop}(f:∀ {w':World} {v:Value},A w' v->B w' v):∀(e:By)(w':World),(∃v,e= .returned v/\A w' v/\C w')->∃v,e= .returned v/\B w' v/\C w':=λ_ _ ⟨v,e,h1,h2⟩=>⟨v,e,f h1,h2⟩
theorem mMr{u:Value}:∀(e:By)(w':World),(∃v,e= .returned v/\v=u/\C w')->e= .returned u/\C w':=λ_ _ ⟨_,e,h1,h2⟩=>⟨h1▸e,h2⟩
abbrev mIp(ρ:Rho)(B:Blk)(r:AV)(w:World)(f:BH)(vs:Array Value):Prop:=AF AD f vs w (λe w'=>∃v,e= .returned v/\r.holds ρ B w' v/\Below w.heap.size w w')
variable{f:BH}{r:AV}
theorem mI1(hf:AD.funcs[f]? =some fn)(h:∀ {B:Blk} {w:World} {a:Value},s.holds ρ B w a->mIp ρ B r w f #[a])(hn:(fn.name== "runtime.NumGoroutine")=false:=by rfl)(hb:fn.body.isNone=false:=by rfl):Inst.Ok AD ρ ⟨f,[s],r⟩:=
 ⟨af hf hn hb,λB w vs C k=>by
  match vs,k with
  | [_],k=>exact h k.1⟩
theorem mI2{t:SV}(hf:AD.funcs[f]? =some fn)(h:∀ {B:Blk} {w:World} {a b:Value},s.holds ρ B w a->t.holds ρ B w b->mIp ρ B r w f #[a,b])(hn:(fn.name== "runtime.NumGoroutine")=false:=by rfl)(hb:fn.body.isNone=false:=by rfl):Inst.Ok AD ρ ⟨f,[s,t],r⟩:=
 ⟨af hf hn hb,λB w vs C k=>by
  match vs,k with
  | [_,_],k=>exact h k.1 k.2.1⟩
theorem mI3{t u:SV}(hf:AD.funcs[f]? =some fn)(h:∀ {B:Blk} {w:World} {a b c:Value},s.holds ρ B w a->t.holds ρ B w b->u.holds ρ B w c->mIp ρ B r w f #[a,b,c])(hn:(fn.name== "runtime.NumGoroutine")=false:=by rfl)(hb:fn.body.isNone=false:=by rfl):Inst.Ok AD ρ ⟨f,[s,t,u],r⟩:=
 ⟨af hf hn hb,λB w vs C k=>by
  match vs,k with
  | [_,_,_],k=>exact h k.1 k.2.1 k.2.2.1⟩
def wrD(d:Option Tmp)(c:AV):List (Nat×AV):=match d with | some d=>[(d,c)] | none=>[]
def okD(nt:Nat)(d:Option Tmp):Bool:=match d with | some d=>decide (d<nt) && decide (d<100000) | none=>true
def dM(v:Nat):Nat->List Leaf->List (Nat×AV)
 | _,[]=>[]
 | k,l::ls=>(pT v k,.v (.one l))::dM v (k+1) ls
def l9(ls:List Leaf):Bool:=ls.all Leaf.flat
def abS(C:List Inst)(f:BH)(xs:List SV):Option AV:=match C.find? (λi=>decide (i.f=f) && decide (i.args=xs))with | some i=>some i.res | none=>none
def jK(op:Op):List Nat:=op.operands.toList.flatMap rdO
def xw(L:List OIns)(f:BH)(xs:List SV)(pb:MutD->Bool):Option MutD:=match L.find? (λo=>match o.key with | .mut g d=>(decide (g=f) && decide (o.xs=xs)) && pb d | _=>false)with
 | some ⟨.mut _ d,_,_⟩=>some d
 | _=>none
def ma(i:Nat):Leaf->Bool
 | .sl0=>true
 | .own k _=>k==i
 | _=>false
def preE(lk:Nat->Option AV)(vts:List (TypeId×Nat))(q:Nat×TypeId×List Leaf):Bool:=
 decide (vts[q.1]? =some (q.2.1,q.2.2.length)) && (decide (0<q.2.2.length/\q.2.2.length<=100000) && decide (iZ lk q.1 0 q.2.2.length=some q.2.2))
def usE(vts:List (TypeId×Nat))(q:Nat×TypeId×List Leaf):Bool:=decide (vts[q.1]? =some (q.2.1,q.2.2.length)) && decide (q.2.2.length<=100000)
def nvE(vts:List (TypeId×Nat)):Option (Nat×TypeId×List Leaf)->Bool
 | some q=>decide (q.1=vts.length/\vts.length<OW/\q.2.2.length<=100000)
 | none=>true
def rf(nt:Nat)(args:List AS):List (Nat×SV)->Option (List (Nat×AV))
 | []=>some []
 | (i,c)::r=>match args[i]?,rf nt args r with
  | some (.tmp t),some l=>if t<100000/\t<nt then some ((t,.v c)::l)else none
  | _,_=>none
def nvW:Option (Nat×TypeId×List Leaf)->List (Nat×AV)
 | some q=>dM q.1 0 q.2.2
 | none=>[]
def mutE(nt:Nat)(lk:Nat->Option AV)(vts:List (TypeId×Nat))(op:Op)(args:List AS)(dst:Option Tmp)(d:MutD):Option (Eff×List (TypeId×Nat)):=
 if d.pre.all (preE lk vts) && (d.us.all (usE vts) && nvE vts d.nv)then
  match rf nt args d.keep with
  | some kw=>if kw.all (λq=>decide (dst≠some q.1))then some (⟨jK op++d.pre.flatMap (λq=>lY q.1 0 q.2.2.length),wrD dst (mutR d.xs)++(kw++(d.us.flatMap (λq=>dM q.1 0 q.2.2)++nvW d.nv)),d.nv.map (·.1),d.ks,[]⟩,d.nv.toList.map λq=>(q.2.1,q.2.2.length))else none
  | none=>none
 else none
def xx(p:AZ)(C:List Inst)(L:List OIns)(nt:Nat)(lk:Nat->Option AV)(vts:List (TypeId×Nat))(o:Oper):Option (Eff×List (TypeId×Nat)):=
 if !okD nt o.dst then none else
 let pv:Option (Eff×List (TypeId×Nat)):=match tO p L lk o.op with
  | some (c,rd)=>some (⟨jK o.op++rd,wrD o.dst c,none,[],[]⟩,[])
  | none=>none
 match o.op with
 | .alloc t=>match o.dst,xm p t with
  | some d,some z=>if l9 z/\z.length<=100000/\vts.length<OW then some (⟨[],(d,.v (.one (.ptr vts.length 0)))::dM vts.length 0 z,some vts.length,[],[]⟩,[(t,z.length)])else none
  | _,_=>none
 | .box t x=>match o.dst,evS lk x with
  | some d,some s=>if l9 s.leaves/\s.leaves.length<=100000/\vts.length<OW then some (⟨rdO x,(d,.v (.one (.ptr vts.length 0)))::dM vts.length 0 s.leaves,some vts.length,[],[]⟩,[(t,s.leaves.length)])else none
  | _,_=>none
 | .store t x y=>match o.dst,evL lk x,evS lk y with
  | none,some (.ptr v off),some s=>match vts[v]? with
   | some (_,n)=>if szB p t=some s.leaves.length/\l9 s.leaves/\off+s.leaves.length<=n/\n<=100000/\v<OW then some (⟨rdO x++rdO y,dM v off s.leaves,none,[],[]⟩,[])else none
   | none=>none
  | _,_,_=>none
 | .call k=>match k.callee with
  | .value z=>match evL lk z,pU lk k.args.toList with
   | some (.fn f),some xs=>match abS C f xs with
    | some r=>some (⟨jK o.op,wrD o.dst r,none,[],[]⟩,[])
    | none=>match xw L f xs (λd=>d.pre.all (preE lk vts))with
     | some d=>mutE nt lk vts o.op k.args.toList o.dst d
     | none=>none
   | _,_=>none
  | .builtin .append=>match o.dst,k.args.toList,k.argTypes.toList with
   | some d,[x,y],[t,t']=>match evL lk x,evL lk y with
    | some lx,some ly=>if t=t' then match cM L (.app t) [.one lx,.one ly]with
      | some (.one (.own i m))=>if ma i lx then some (⟨jK o.op,[(d,.v (.one (.own i m)))],none,[i],[]⟩,[])else none
      | _=>none
     else none
    | _,_=>none
   | _,_,_=>none
  | _=>pv
 | .buildSlice t n parts=>match o.dst,pU lk (parts.toList.map (·.2))with
  | some _,some xs=>(cM L (.bs t n (parts.toList.map (·.1))) xs).map λr=>(⟨jK o.op,wrD o.dst (.v r),none,[],[]⟩,[])
  | _,_=>none
 | _=>pv
def zU(p:AZ)(C:List Inst)(L:List OIns)(nt:Nat)(ops:Array Oper)(lk:Nat->Option AV)(vts:List (TypeId×Nat))(o:Oper):Option (Eff×List (TypeId×Nat)):=
 match o.guard with
 | none=>xx p C L nt lk vts o
 | some (g,b)=>match bY ops g with
  | some t=>match evA lk (.tmp t)with
   | some (.v (.one (.b x)))=>if x=b then(xx p C L nt lk vts o).map λe=>({e.1 with rd:=t::e.1.rd},e.2)else if okD nt o.dst then some (⟨[t],wrD o.dst .any,none,[],[]⟩,[])else none
   | some .any=>if okD nt o.dst then some (⟨[t],wrD o.dst .any,none,[],[]⟩,[])else none
   | _=>none
  | none=>none
section
variable {p:AZ} {ρ:Rho} {B B':Blk} {a a':Act} {w w':World} {w0:Ent} {C:List Inst} {L:List OIns} {lk:Nat->Option AV} {vt:List (TypeId×Nat)} {nt:Nat} {Q:A8->Act->World->Prop} {o:Oper} {ops:Array Oper}
theorem bL.below{x:Nat}(h:bL ρ B a w x c)(G:BLe B B')(H:zK w.heap.size B B')(hb:mBw w w')(ht:x<100000->a'.tmps[x]? =a.tmps[x]?):bL ρ B' a' w' x c:=by
 unfold bL at h⊢;split at h
 ·rename_i F;rw[if_pos F];obtain⟨u,h1,h2⟩:=h;exact⟨u,by rw[ht F];exact h1,h2.mono G H hb⟩
 ·rename_i F;rw[if_neg F];obtain⟨g,cs,ty,u,h1,h2,h3,I⟩:=h;exact⟨g,cs,ty,u,G.v _ _ h1,by rw[hb.block g (A2.1 h2).1];exact h2,h3,I.mono G H hb⟩
theorem Inv.below'(h:Inv vt w0 nt B a w)(hb:mBw w w')(hs:a'.tmps.size=a.tmps.size)(H:a'.defers=a.defers):Inv vt w0 nt B a' w':=
 ⟨λv g F=>by
  obtain⟨h1,cs,ty,h2,h3,G⟩:=h.blk v g F;exact⟨h1,cs,ty,h2,by rw[hb.block g (A2.1 h3).1];exact h3,G⟩,
  λk g F=>by
  obtain⟨h1,h2⟩:=h.own k g F;exact⟨h1,h2.blk (hb.block g h2.1) hb.size⟩,
  h.inj,h.below.below hb,by rw[hs,h.size],by rw[H,h.dfr],h.pin⟩
theorem me(d:Option Tmp)(v:Value):(a.put d v).tmps.size=a.tmps.size:=by cases d<;>simp[AL]
theorem qB(d:Option Tmp)(v:Value):(a.put d v).defers=a.defers:=by cases d<;>rfl
variable{d:Option Tmp}
theorem rh{x:Nat}(h:∀t,d=some t->t≠x):(a.put d v).tmps[x]? =a.tmps[x]? :=by
 cases d with
 | none=>rfl
 | some t=>simp[AL,DV,h t rfl]
theorem vi{d:Tmp}(h:d<a.tmps.size):(a.put (some d) v).tmps[d]? =some v:=by simp[AL,h]
theorem gl{rd:List Nat}(hi:Inv vt w0 nt B a w)(F:okD nt d=true)(hb:mBw w w')(I:c.holds ρ B w' v):
  Post ρ vt w0 nt ⟨rd,wrD d c,none,[],[]⟩ B a w B (a.put d v) w':=by
 refine⟨BLe.refl,hi.below' hb (me _ _) (qB _ _),λq H=> ?_,λx c' J G _=>J.below BLe.refl .refl hb (λ_=>rh (λt ht=> ?_)),λu h1 h2=>absurd h1 h2⟩
 ·cases d with
  | none=>cases H
  | some t=>
   simp only[wrD,BP]at H;subst H;simp only[okD,BU,decide_eq_true_eq]at F;unfold bL;rw[if_pos F.2];exact⟨v,vi (by rw[hi.size];exact F.1),I⟩
 ·subst ht;exact G (t,c) (by simp[wrD])
theorem kZ:∀ {ls:List Leaf} {v k:Nat} {q:Nat×AV},q∈dM v k ls↔∃j l,ls[j]? =some l/\q=(pT v (k+j),.v (.one l))
 | [],v,k,q=>by simp[dM]
 | l::ls,v,k,q=>by
  simp only[dM,AY,kZ (ls:=ls)];constructor
  ·rintro(rfl | ⟨j,F,h1,rfl⟩)
   ·exact⟨0,l,rfl,rfl⟩
   ·exact⟨j+1,F,by simpa using h1,by rw[show k+1+j=k+(j+1)from no]⟩
  ·rintro⟨j,F,h1,rfl⟩
   match j with
   | 0=>simp at h1;subst h1;exact .inl rfl
   | j+1=>exact .inr ⟨j,F,by simpa using h1,by rw[show k+1+j=k+(j+1)from no]⟩
theorem Inv.bok(hi:Inv vt w0 nt B a w):BOk B w.heap.size:=λg h=>by
 rcases h with⟨x,h⟩ | ⟨k,h⟩
 ·obtain⟨_,cs,ty,_,h3,_⟩:=hi.blk x g h;exact(A2.1 h3).1
 ·exact(hi.own k g h).2.1
theorem xy{rd:List Nat}{d:Tmp}{ls:List Leaf}{nv:Nat}(hi:Inv vt w0 nt B a w)(Z:okD nt (some d)=true)(hf:l9 ls=true)(hl:ls.length<=100000)(hc:aD ρ B w ls cs.toList)
  (hv:vt[nv]? =some (t,ls.length))(hn:B.v nv=none):
  Post ρ vt w0 nt ⟨rd,(d,.v (.one (.ptr nv 0)))::dM nv 0 ls,some nv,[],[]⟩ B a w (⟨λv=>if v=nv then some w.heap.size else B.v v,B.o⟩:Blk) (a.put (some d) (.pointer (some ⟨w.heap.size,0,none⟩))) (w.alloc (.cells cs t)):=by
 have G:BLe B (⟨λv=>if v=nv then some w.heap.size else B.v v,B.o⟩:Blk):=⟨λv g h=>by
  show(if v=nv then _ else _)=_;rw[if_neg (λe=>by rw[e,hn]at h;cases h)];exact h,λ_ _ h=>h⟩
 have hN:zK w.heap.size B (⟨λv=>if v=nv then some w.heap.size else B.v v,B.o⟩:Blk):=λg F=>by
  rcases F with⟨x,V⟩ | ⟨k,J⟩
  ·by_cases e:x=nv
   ·simp only[e,if_true,A4.injEq]at V;exact .inr no
   ·simp only[e,if_false]at V;exact .inl (.inl ⟨x,V⟩)
  ·exact .inl (.inr ⟨k,J⟩)
 have hb:=iE w (.cells cs t);have H:(w.alloc (.cells cs t)).heap[w.heap.size]? =some (.cells cs t (0,0)):=heap_alloc_new w _;have I:∀v g,B.v v=some g->g<w.heap.size:=λv g h=>hi.bok g (.inl ⟨v,h⟩)
 have U:cs.size=ls.length:=by have:=hc.len;simpa using this
 refine⟨G,⟨λv g F=> ?_,λk g F=> ?_,⟨λv v' g h1 h2=> ?_,hi.inj.o,λv k g h1 h2=> ?_⟩,hi.below.below hb,by rw[me,hi.size],by rw[qB,hi.dfr],λx g h=>G.v _ _ (hi.pin x g h)⟩,λq hq=> ?_,λx c V aa _=>V.below G hN hb (λ_=>rh (λt ht=> ?_)),λu h1 h2=> ?_⟩
 ·by_cases e:v=nv
  ·subst e;simp only[if_true,A4.injEq]at F;subst F;refine⟨.inl hi.below.size,cs,t,by rw[hv,U],H,λk n J=> ?_⟩;rw[<-BR]at J;have K:k<ls.length:=by rw[<-hc.len];exact(A1.1 J).1
   obtain⟨u,h1,h2⟩:=hc.get (AM K);rw[J]at h1;injection h1 with h1;subst h1;exact(h2.flat (Cc.1 hf _ (List.getElem_mem K))).2.2 n rfl
  ·simp only[e,if_false]at F;obtain⟨h1,Y,ty,h2,h3,h4⟩:=hi.blk v g F;exact⟨h1,Y,ty,h2,by rw[hb.block g (I v g F)];exact h3,h4⟩
 ·obtain⟨h1,h2⟩:=hi.own k g F;exact⟨h1,h2.blk (hb.block g h2.1) hb.size⟩
 ·by_cases e:v=nv<;>by_cases e':v'=nv
  ·rw[e,e']
  ·simp only[e,e',if_true,if_false,A4.injEq]at h1 h2;have:=I v' g h2;omega
  ·simp only[e,e',if_true,if_false,A4.injEq]at h1 h2;have:=I v g h1;omega
  ·simp only[e,e',if_false]at h1 h2;exact hi.inj.v v v' g h1 h2
 ·by_cases e:v=nv
  ·simp only[e,if_true,A4.injEq]at h1;have:=(hi.own k g h2).2.1;omega
  ·simp only[e,if_false]at h1;exact hi.inj.vo v k g h1 h2
 ·rcases AY.1 hq with rfl | hq
  ·simp only[okD,BU,decide_eq_true_eq]at Z;unfold bL;rw[if_pos Z.2];exact⟨_,vi (by rw[hi.size];exact Z.1),w.heap.size,Ad,rfl⟩
  ·obtain⟨j,l,h1,rfl⟩:=kZ.1 hq;have ab:=(A1.1 h1).1;obtain⟨u,h2,h3⟩:=hc.get h1;rw[A7,kj no];exact⟨w.heap.size,cs,t,u,Ad,H,by rw[<-BR];exact h2,(h3.mono G hN hb:Leaf.holds ρ _ _ l u)⟩
 ·injection ht with ht;subst ht;exact aa (d,.v (.one (.ptr nv 0))) Ad
 ·by_cases e:u=nv
  ·rw[e]
  ·simp only[e,if_false]at h2;exact absurd h1 h2
end
section
variable {p:AZ} {ρ:Rho} {B B':Blk} {a a':Act} {w w':World} {w0:Ent} {C:List Inst} {L:List OIns} {nt i:Nat} {Q:A8->Act->World->Prop} {o:Oper} {ops:Array Oper} {v:Value} {vt:List (TypeId×Nat)} {ks:List Nat} {X:Nat->Prop} {lk:Nat->Option AV}
structure Reb(B B':Blk)(ks:List Nat)(w w':World)(X:Nat->Prop):Prop where
 le:BLe B B'
 new:zK w.heap.size B B'
 old:∀g,X g->(∃k∈ks,B.o k g)\/∃x,B.v x=some g
 inj:BInj B
 chg:Chg w w' X
theorem Leaf.holds.reb{l:Leaf}(h:l.holds ρ B w v)(hn:∀k∈l.objs,k∉ks)(r:Reb B B' ks w w' X):l.holds ρ B' w' v:=by
 cases l<;>simp only[Leaf.holds]at h⊢ <;>try exact h
 ·obtain⟨g,h1,h2⟩:=h;exact⟨g,r.le.v _ _ h1,h2⟩
 ·obtain⟨s,h1,h2,h3⟩:=h;obtain⟨c1,c2⟩:=s.ch _ _ _ _ h2 r.chg (λg F G=>h3 g F (by
   rcases r.old g G with⟨k,_,h⟩ | ⟨x,h⟩
   ·exact .inr ⟨k,h⟩
   ·exact .inl ⟨x,h⟩))
  refine⟨s,h1,c1,λg F J=> ?_⟩;rcases r.new g J with h | h
  ·exact h3 g (c2 g F) h
  ·have:=s.lt _ _ _ h2 (c2 g F);omega
 ·rename_i k m;obtain⟨s,h1,h2,h3,H⟩:=h;have I:k∉ks:=hn k (by simp[Leaf.objs]);obtain⟨c1,c2⟩:=s.ch _ _ _ _ h2 r.chg (λg F G=>by
   rcases r.old g G with⟨l,hl,h⟩ | ⟨x,h⟩
   ·have:=r.inj.o _ _ _ h (h3 g F);subst this;exact I hl
   ·exact r.inj.vo _ _ _ h (h3 g F))
  exact⟨s,h1,c1,λg F=>r.le.o _ _ (h3 g (c2 g F)),λg F=>r.le.o _ _ (H g F)⟩
theorem aD.reb(r:Reb B B' ks w w' X):∀ {ls:List Leaf} {vs:List Value},aD ρ B w ls vs->(∀k∈ls.flatMap Leaf.objs,k∉ks)->aD ρ B' w' ls vs
 | [],[],_,_=>trivial
 | _::_,_::_,h,hn=>⟨h.1.reb (λk F=>hn k (by simp[F])) r,aD.reb r h.2 (λk F=>hn k (by rw[Cx];exact AJ.2 (.inr F)))⟩
 | [],_::_,h,_=>h.elim
 | _::_,[],h,_=>h.elim
theorem SV.holds.reb(h:s.holds ρ B w v)(hn:∀k∈s.objs,k∉ks)(r:Reb B B' ks w w' X):s.holds ρ B' w' v:=by
 cases s with
 | one l=>exact Leaf.holds.reb h hn r
 | agg ls=>obtain⟨vs,e,h⟩:=h;exact⟨vs,e,h.reb r hn⟩
theorem cP.reb(r:Reb B B' ks w w' X):∀ {ls:List SV} {vs:List Value},cP ρ B w ls vs->(∀k∈ls.flatMap SV.objs,k∉ks)->cP ρ B' w' ls vs
 | [],[],_,_=>trivial
 | _::_,_::_,h,hn=>⟨h.1.reb (λk F=>hn k (by simp[F])) r,cP.reb r h.2 (λk F=>hn k (by rw[Cx];exact AJ.2 (.inr F)))⟩
 | [],_::_,h,_=>h.elim
 | _::_,[],h,_=>h.elim
theorem AV.holds.reb(h:c.holds ρ B w v)(hn:c.hit ks=false)(r:Reb B B' ks w w' X):c.holds ρ B' w' v:=by
 have hn:∀k∈c.objs,k∉ks:=λk F=>by
  unfold AV.hit at hn;have:=List.any_eq_false.1 hn k F;simpa using this
 cases c with
 | v s=>exact SV.holds.reb h hn r
 | tup xs=>obtain⟨vs,e,h⟩:=h;exact⟨vs,e,h.reb r hn⟩
 | any=>exact h
theorem bL.reb{x:Nat}(h:bL ρ B a w x c)(hn:c.hit ks=false)(r:Reb B B' ks w w' X)(H:¬x<100000->∀g,B.v (x / 100000 - 1)=some g->g<w.heap.size->(∀cs ty,w.heap[g]? =some (.cells cs ty (0,0))->x % 100000<cs.size->¬X g))(ht:x<100000->a'.tmps[x]? =a.tmps[x]?):bL ρ B' a' w' x c:=by
 unfold bL at h⊢;split at h
 ·rename_i G;rw[if_pos G];obtain⟨u,h1,h2⟩:=h;exact⟨u,by rw[ht G];exact h1,h2.reb hn r⟩
 ·rename_i G;rw[if_neg G];obtain⟨g,cs,ty,u,h1,h2,h3,I⟩:=h;have F:=(A2.1 h2).1;exact⟨g,cs,ty,u,r.le.v _ _ h1,by rw[r.chg.blk g F (H G g h1 F cs ty h2 (A2.1 h3).1)];exact h2,h3,I.reb hn r⟩
theorem xz{F:Leaf}{x:Value}(h:ma i F=true)(hl:F.holds ρ B w x):∀g,x.ownBlock=some g->B.o i g:=by
 intro g G
 cases F with
 | sl0=>
  have e:x= .slice none 0 0:=hl;subst e;cases G
 | own k m=>
  have:k=i:=by simpa [ma]using h
  subst this;obtain⟨s,_,_,_,H⟩:=hl;exact H g G
 | _=>simp[ma]at h
theorem ok_app(hO:∀i∈L,i.OkE w0 p ρ){k:Call}{d:Tmp}{x y:Operand}{t:TypeId}{lx ly:Leaf}{m:Nat}(hop:o.op= .call k)(hcal:k.callee= .builtin .append)(hd:o.dst=some d)(hargs:k.args.toList=[x,y])(htt:k.argTypes.toList=[t,t])(hx:evL lk x=some lx)(hy:evL lk y=some ly)
  (hf:cM L (.app t) [.one lx,.one ly]=some (.one (.own i m)))(hsame:ma i lx=true)(hdd:okD nt (some d)=true)(hi:Inv vt w0 nt B a w)(Hx:bk ρ B a w lk x)(Hy:bk ρ B a w lk y){rd:List Nat}
  {K:Act->World->Prop}(hK:∀B' a' w',Post ρ vt w0 nt ⟨rd,[(d,.v (.one (.own i m)))],none,[i],[]⟩ B a w B' a' w'->K a' w'):Oper.wp p o a w K Q:=by
 have ex:=eF Hx hx;have ey:=eF Hy hy;have hold:=xz hsame ex;obtain⟨v,w',hrun,hgrow,hox,hblk,s1,hs1,hp1,hfp1⟩:=(fm hO (λ_ _ h=>by cases h) hf) B w [a.eval x,a.eval y] ⟨ex,ey,trivial⟩ o.type;simp only[okD,Bool.and_eq_true,decide_eq_true_eq]at hdd;have hex:(execOp a.eval o).run p w= .ok (.value v) w':=by
  obtain⟨cal,args,tt⟩:=k;simp only at hcal hargs htt;subst hcal;have ea:args=#[x,y]:=by rw[<-Array.toList_inj];exact hargs
  have et:tt=#[t,t]:=by rw[<-Array.toList_inj];exact htt
  subst ea;subst et;unfold execOp;simp only[hop,resolve,invoke,builtin,Sem.run_bind,Sem.run_pure,Result.andThen_ok,List.map_toArray,List.map_cons,List.map_nil,hrun]
 unfold Oper.wp;rw[hex,Oper.upon_value,hd];have hne:∀k g,k≠i->B.o k g->v.ownBlock≠some g:=λk g hx hBx hg=>by
  rcases(hblk g hg).1 with h | h
  ·exact hx (hi.inj.o _ _ _ hBx (hold g h))
  ·have:=hi.bok g (.inr ⟨k,hBx⟩);omega
 have hnv:∀x g,B.v x=some g->v.ownBlock≠some g:=λx g hBx hg=>by
  rcases(hblk g hg).1 with h | h
  ·exact hi.inj.vo _ _ _ hBx (hold g h)
  ·have:=hi.bok g (.inl ⟨x,hBx⟩);omega
 have r:Reb B ⟨B.v,λk g=>B.o k g\/(k=i/\v.ownBlock=some g)⟩ [i] w w' (λg=>(a.eval x).ownBlock=some g):=by
  refine⟨⟨λ_ _ h=>h,λ_ _ h=>.inl h⟩,λg hg=> ?_,λg hX=>.inl ⟨i,by simp,hold g hX⟩,hi.inj,⟨hgrow.size,λg hg hX=>hgrow.block g hg (λe=>hX e.symm),λg hX=>(hi.own _ g (hold g hX)).2⟩⟩;rcases hg with⟨x,h⟩ | ⟨k,h | ⟨_,h⟩⟩
  ·exact .inl (.inl ⟨x,h⟩)
  ·exact .inl (.inr ⟨k,h⟩)
  ·exact(hblk g h).1.imp (λh=>.inr ⟨i,hold g h⟩) id
 have hsm:∀x g,B.v x=some g->w'.heap[g]? =w.heap[g]? :=λx g hBx=>hgrow.block g (hi.bok g (.inl ⟨x,hBx⟩)) (λe=>hi.inj.vo _ _ _ hBx (hold g e.symm))
 have hmay:∀g,v.ownBlock=some g->w0.may g:=λg hg=>by
  rcases(hblk g hg).1 with h | h
  ·exact(hi.own _ g (hold g h)).1
  ·exact .ge hi.below h
 refine hK ⟨B.v,λk g=>B.o k g\/(k=i/\v.ownBlock=some g)⟩ _ w' ⟨r.le,⟨λx g hg=> ?_,λk g hg=> ?_,⟨hi.inj.v,λk l g h1 h2=> ?_,λx k g h1 h2=> ?_⟩,?_,by rw[me,hi.size],by rw[qB,hi.dfr],hi.pin⟩,λq hq=> ?_,λz c hz hne' hh=> ?_,λu h1 h2=>absurd h1 h2⟩
 ·obtain⟨h1,cs,ty,h2,h3,h4⟩:=hi.blk x g hg;exact⟨h1,cs,ty,h2,by rw[hsm x g hg];exact h3,h4⟩
 ·rcases hg with hg | ⟨rfl,hg⟩
  ·obtain⟨h1,h2⟩:=hi.own k g hg;refine⟨h1,?_⟩;by_cases e:(a.eval x).ownBlock=some g
   ·exact hox g e
   ·exact h2.blk (hgrow.block g h2.1 (λe'=>e e'.symm)) hgrow.size
  ·exact⟨hmay g hg,(hblk g hg).2.2⟩
 ·rcases h1 with h1 | ⟨e1,h1⟩<;>rcases h2 with h2 | ⟨e2,h2⟩
  ·exact hi.inj.o k l g h1 h2
  ·by_cases e:k=i
   ·rw[e,e2]
   ·exact absurd h2 (hne k g e h1)
  ·by_cases e:l=i
   ·rw[e,e1]
   ·exact absurd h1 (hne l g e h2)
  ·rw[e1,e2]
 ·rcases h2 with h2 | ⟨_,h2⟩
  ·exact hi.inj.vo x k g h1 h2
  ·exact hnv x g h1 h2
 ·refine⟨hgrow.os.trans hi.below.os,hgrow.tape.trans hi.below.tape,hgrow.output.trans hi.below.output,Nat.le_trans hi.below.size hgrow.size,λg hg hX=>(hgrow.block g (Nat.lt_of_lt_of_le hg hi.below.size) (λe=> ?_)).trans (hi.below.block g hg hX)⟩;rcases(hi.own _ g (hold g e.symm)).1 with h | h
  ·omega
  ·exact hX h
 ·simp only[List.mem_singleton]at hq;subst hq;unfold bL;rw[if_pos hdd.2];exact⟨v,vi (by rw[hi.size];exact hdd.1),s1,hs1,hp1,λg hg=>.inr ⟨rfl,hfp1 g hg⟩,λg hg=>.inr ⟨rfl,hg⟩⟩
 ·refine hz.reb hh r (λ_ g h1 _ _ _ _ _ h2=>hi.inj.vo _ _ _ h1 (hold g h2)) (λ_=>rh (λt ht=>by injection ht with ht;subst ht;exact hne' (d,.v (.one (.own i m))) (by simp)))
variable{xs:List SV}{d:MutD}
theorem findM_ok(F:∀i∈L,i.OkE w0 p ρ){G:MutD->Bool}(h:xw L f xs G=some d):∃r,(OIns.mk (.mut f d) xs r).OkE w0 p ρ:=by
 unfold xw at h;split at h
 ·rename_i g d' H r hf;injection h with h;subst h;have h1:=DY hf;simp only[BU,decide_eq_true_eq]at h1;obtain⟨⟨rfl,rfl⟩,_⟩:=h1;exact⟨r,F _ (Dl hf)⟩
 ·cases h
theorem xA{args:List AS}:∀ {l:List (Nat×SV)} {H:List (Nat×AV)} {q:Nat×AV},rf nt args l=some H->q∈H->q.1<100000/\q.1<nt/\∃r∈l,args[r.1]? =some (.tmp q.1)/\q.2= .v r.2
 | [],H,q,h,F=>by simp only[rf,A4.injEq]at h;subst h;cases F
 | (i,c)::r,H,q,h,F=>by
  simp only[rf]at h;split at h
  ·rename_i t l ht hl;split at h
   ·rename_i G;injection h with h;subst h;rcases AY.1 F with rfl | F
    ·exact⟨G.1,G.2,(i,c),Ad,ht,rfl⟩
    ·obtain⟨h1,h2,J,h3,I⟩:=xA hl F;exact⟨h1,h2,J,Bi _ h3,I⟩
   ·cases h
  ·cases h
variable{rest:List (TypeId×Nat)}{q:Nat×TypeId×List Leaf}
theorem preE_ok{F:List (TypeId×Nat)}(h:preE lk F q=true)(I:vt=F++rest)(hi:Inv vt w0 nt B a w)(H:∀x∈lY q.1 0 q.2.2.length,∀c,lk x=some c->bL ρ B a w x c):zP ρ B w q:=by
 simp only[preE,BU,decide_eq_true_eq]at h;obtain⟨h1,⟨h2,h3⟩,h4⟩:=h;obtain⟨_,hc⟩:=fL h4 no H;obtain⟨g,cs,ty,J,K,vs,U,Y⟩:=hc h2;obtain⟨_,V,aa,f1,f2,Z⟩:=hi.blk q.1 g J;rw[K]at f2;injection f2 with f2;injection f2 with f2 G;subst f2;subst G;rw[I,BB (A1.1 h1).1,h1]at f1;simp only[A4.injEq,Cm.injEq]at f1;obtain⟨rfl,f1⟩:=f1;refine⟨g,cs,J,K,?_,Z⟩;have hl:=U.len;have:vs=cs.toList:=List.ext_getElem? (λk=>by
  by_cases hk:k<vs.length
  ·have:=Y k vs[k] (AM hk);rw[A7]at this;rw[AM hk,BR,this]
  ·rw[EH no,EH (by simp;omega)])
 rw[<-this];exact U
theorem zP.loc{l:Leaf}(h:zP ρ B w q)(H:k<100000)(hl:q.2.2[k]? =some l):bL ρ B a w (pT q.1 k) (.v (.one l)):=by
 obtain⟨g,cs,h1,h2,h3,_⟩:=h;obtain⟨u,F,G⟩:=h3.get hl;rw[kj H];exact⟨g,cs,_,u,h1,h2,by rw[<-BR];exact F,G⟩
variable{pb:MutD->Bool}{K:Act->World->Prop}
theorem ok_mut1(hO:∀i∈L,i.OkE w0 p ρ){k:Call}{z:AS}{I:List (TypeId×Nat)}{kw:List (Nat×AV)}(av:o.op= .call k)(an:k.callee= .value z)(hz:evL lk z=some (.fn f))(am:pU lk k.args.toList=some xs)(hf:xw L f xs pb=some d)
  (a4:∀x∈d.pre,preE lk I x=true)(be:∀x∈d.us,usE I x=true)(ad:nvE I d.nv=true)(a2:rf nt k.args.toList d.keep=some kw)(a9:kw.all (λq=>decide (o.dst≠some q.1))=true)(ac:okD nt o.dst=true)
  (ak:vt=I++((d.nv.toList.map λq=>(q.2.1,q.2.2.length))++rest))(hi:Inv vt w0 nt B a w)(H:∀x∈jK o.op++d.pre.flatMap (λq=>lY q.1 0 q.2.2.length),∀c,lk x=some c->bL ρ B a w x c)(hn:∀v,d.nv.map (·.1)=some v->B.v v=none)
 (hK:∀B' a' w',Post ρ vt w0 nt ⟨jK o.op++d.pre.flatMap (λq=>lY q.1 0 q.2.2.length),wrD o.dst (mutR d.xs)++(kw++(d.us.flatMap (λq=>dM q.1 0 q.2.2)++nvW d.nv)),d.nv.map (·.1),d.ks,[]⟩ B a w B' a' w'->K a' w'):Bk p o a w K Q:=by
 have HO:∀x∈jK o.op,∀c,lk x=some c->bL ρ B a w x c:=λx hx=>H x (AJ.2 (.inl hx))
 obtain⟨r0,hr0⟩:=findM_ok hO hf;obtain⟨bi,args,tt⟩:=k;simp only at an am a2;subst an;have HA:∀x∈args.toList,bk ρ B a w lk x:=λx hx y hy c hc=>HO y (by rw[av];unfold jK;exact Br.2 ⟨x,by simp only[DB,Ff,Fg,AJ];exact .inr hx,hy⟩) c hc
 have U:a.eval z=fnV f:=eF (λy hy c hc=>HO y (by rw[av];unfold jK;exact Br.2 ⟨z,by simp[DB,Ff],hy⟩) c hc) hz;have e2:=gj am HA;obtain⟨ao,V⟩:=hr0 B w (args.toList.map a.eval) hi.pin e2;have ea:(args.toList.map a.eval).toArray=args.map a.eval:=by rw[<-E9,EF]
 rw[ea]at ao V;have a6:(execOp a.eval o).run p w= .ok (.enter f (args.map a.eval)) w:=by
  simp[execOp,av,resolve,invoke,Deferred.ofValue,U,ao,AU]
 unfold Bk;rw[a6,Oper.upon_enter];have Z:∀q,d.nv=some q->B.v q.1=none:=λq F=>hn q.1 (by rw[F];rfl)
 have aa:∀q,d.nv=some q->q.1=I.length/\q.2.2.length<=100000:=λq F=>by
  rw[F]at ad;simp only[nvE,decide_eq_true_eq]at ad;exact⟨ad.1,ad.2.2⟩
 refine(V hi.bok hi.inj (λk g h=>(hi.own k g h).2) (λx g h=> ?_) Z (λq F=> ?_)).mono ?_
 ·obtain⟨_,cs,ty,_,h3,h4⟩:=hi.blk x g h;exact .mk' h3 h4
 ·exact preE_ok (a4 q F) ak hi (λx hx c hc=>H x (AJ.2 (.inr (Br.2 ⟨q,F,hx⟩))) c hc)
 ·rintro e w' ⟨v,B',rfl,a5,au,aq,ap,G⟩;have ay:∀x g,B.v x=some g->B'.v x=some g:=λx g h=>by
   rw[G.v x (λq F e=>by subst e;rw[Z q F]at h;cases h)];exact h
  have ar:∀x g,B'.v x=some g->(∃q,d.nv=some q/\x=q.1/\w.heap.size<=g)\/B.v x=some g:=λx g h=>by
   by_cases e:∃q,d.nv=some q/\x=q.1
   ·obtain⟨q,F,rfl⟩:=e;exact .inl ⟨q,F,rfl,G.nv q g F h⟩
   ·rw[G.v x (λq F e'=>e ⟨q,F,e'⟩)]at h;exact .inr h
  have r:Reb B B' d.ks w w' (λg=>(∃k∈d.ks,B.o k g)\/∃q∈d.us,B.v q.1=some g):=by
   refine⟨⟨ay,G.o⟩,λg J=> ?_,λg h=>h.imp id (λ⟨q,_,h⟩=>⟨_,h⟩),hi.inj,G.chg⟩;rcases J with⟨x,h⟩ | ⟨k,h⟩
   ·rcases ar x g h with⟨_,_,_,h⟩ | h
    ·exact .inr h
    ·exact .inl (.inl ⟨x,h⟩)
   ·exact(G.new k g h).imp (λh=>.inr ⟨k,h⟩) (λh=>h.2)
  have ab:∀q∈d.us,I[q.1]? =some (q.2.1,q.2.2.length)/\q.2.2.length<=100000:=λq F=>by
   have:=be q F;simp only[usE,BU,decide_eq_true_eq]at this;exact this
  have a0:∀x g,B.v x=some g->(∀q∈d.us,q.1≠x)->w'.heap[g]? =w.heap[g]? :=λx g h Y=>G.chg.blk g (hi.bok g (.inl ⟨x,h⟩)) (λhX=>by
   rcases hX with⟨k,_,h2⟩ | ⟨q,F,h2⟩
   ·exact hi.inj.vo _ _ _ h h2
   ·exact Y q F (hi.inj.v _ _ _ h2 h))
  refine hK B' _ w' ⟨r.le,⟨λx g J=> ?_,λk g J=> ?_,G.inj,?_,by rw[me,hi.size],by rw[qB,hi.dfr],λx g h=>ay _ _ (hi.pin x g h)⟩,λq F=> ?_,λx c hx Y hh=> ?_,λu h1 h2=> ?_⟩
  ·rcases ar x g J with⟨q,F,rfl,a7⟩ | hb
   ·obtain⟨g',cs,U,e2,e3,e4⟩:=ap q F;rw[J]at U;injection U with U;subst U;refine⟨.ge hi.below a7,cs,_,?_,e2,e4⟩;have h2:=e3.len;rw[ak,List.getElem?_append_right (by rw[(aa q F).1];exact AI _),(aa q F).1,Nat.sub_self,F];simpa using h2.symm
   ·obtain⟨h1,cs,ty,h2,h3,h4⟩:=hi.blk x g hb;by_cases hu:∃q∈d.us,q.1=x
    ·obtain⟨q,F,rfl⟩:=hu;obtain⟨g',ax,U,e2,e3,e4⟩:=aq q F;rw[J]at U;injection U with U;subst U;refine⟨h1,ax,_,?_,e2,e4⟩;have h5:=(ab q F).1;rw[ak,BB (A1.1 h5).1,h5];have h6:=e3.len;simpa using h6.symm
    ·exact⟨h1,cs,ty,h2,by rw[a0 x g hb (λq F e=>hu ⟨q,F,e⟩)];exact h3,h4⟩
  ·rcases G.new k g J with h | ⟨hk,h⟩
   ·obtain⟨h2,h3⟩:=hi.own k g h;refine⟨h2,?_⟩;by_cases hk:k∈d.ks
    ·exact G.own k g hk J
    ·refine h3.blk (G.chg.blk g h3.1 (λhX=> ?_)) G.chg.size;rcases hX with⟨l,hl,h'⟩ | ⟨q,_,h'⟩
     ·have:=hi.inj.o _ _ _ h' h;subst this;exact hk hl
     ·exact hi.inj.vo _ _ _ h' h
   ·exact⟨.ge hi.below h,G.own k g hk J⟩
  ·refine⟨G.os.trans hi.below.os,G.tape.trans hi.below.tape,G.output.trans hi.below.output,AG hi.below.size G.chg.size,λg J hX=>(G.chg.blk g (Bv J hi.below.size) (λh=> ?_)).trans (hi.below.block g J hX)⟩;have a3:w0.may g:=by
    rcases h with⟨l,_,h⟩ | ⟨q,_,h⟩
    ·exact(hi.own l g h).1
    ·exact(hi.blk _ g h).1
   rcases a3 with h | h
   ·omega
   ·exact hX h
  ·
   rcases AJ.1 F with F | F
   ·cases hd:o.dst with
    | none=>rw[hd]at F;cases F
    | some t=>
     rw[hd]at F ac;simp only[wrD,BP]at F;subst F;simp only[okD,BU,decide_eq_true_eq]at ac;unfold bL;rw[if_pos ac.2];exact⟨v,vi (by rw[hi.size];exact ac.1),a5⟩
   ·rcases AJ.1 F with F | F
    ·obtain⟨h1,h2,q',h3,h4,h5⟩:=xA a2 F;obtain⟨u,h6,h7⟩:=au q' h3;have a1:=of_decide_eq_true (Cc.1 a9 q F);rw[List.getElem?_map,h4]at h6;simp only[BG,A4.injEq]at h6;unfold bL;rw[if_pos h1,h5];refine⟨u,?_,h7⟩;rw[rh (λt' bb e=>a1 (by rw[bb,e])),<-h6];simp[Di,h2,hi.size]
    ·rcases AJ.1 F with F | F
     ·obtain⟨q',h1,h2⟩:=Br.1 F;obtain⟨j,l,h3,rfl⟩:=kZ.1 h2;have hl:=(A1.1 h3).1;exact(aq q' h1).loc (by have:=(ab q' h1).2;omega) (by rw[A7];exact h3)
     ·cases hd:d.nv with
      | none=>rw[hd]at F;cases F
      | some q'=>
       rw[hd]at F;obtain⟨j,l,h3,rfl⟩:=kZ.1 F;have hl:=(A1.1 h3).1;exact(ap q' hd).loc (by have:=(aa q' hd).2;omega) (by rw[A7];exact h3)
  ·refine hx.reb hh r (λam g h1 bp cs ty h2 h3 hX=> ?_) (λam=>rh (λt ht e=> ?_))
   ·rcases hX with⟨k,_,h⟩ | ⟨q,F,h⟩
    ·exact hi.inj.vo _ _ _ h1 h
    ·have h4:=hi.inj.v _ _ _ h h1;obtain⟨h5,h6⟩:=ab q F;obtain⟨_,ax,bq,f1,f2,_⟩:=hi.blk _ g h1;rw[h2]at f2;injection f2 with f2;injection f2 with f2 _;subst f2;rw[<-h4,ak,BB (A1.1 h5).1,h5]at f1;simp only[A4.injEq,Cm.injEq]at f1;have hl:x % 100000<q.2.2.length:=by rw[f1.2];exact h3
     refine Y (pT q.1 (0+x % 100000),.v (.one q.2.2[x % 100000])) ?_ ?_
     ·refine AJ.2 (.inr (AJ.2 (.inr (AJ.2 (.inl (Br.2 ⟨q,F,kZ.2 ⟨_,_,AM hl,rfl⟩⟩))))))
     ·unfold pT;have h7:=Ci x 100000;simp only;omega
   ·rw[ht]at Y;exact Y (t,mutR d.xs) (by simp[wrD]) e
  ·cases hb:B'.v u with
   | none=>exact absurd hb h2
   | some g=>
    rcases ar u g hb with⟨q,F,rfl,_⟩ | h
    ·simp[F]
    ·rw[h1]at h;cases h
theorem ok_mut(hO:∀i∈L,i.OkE w0 p ρ){k:Call}{z:AS}{J new:List (TypeId×Nat)}{e:Eff}(Z:o.op= .call k)(F:k.callee= .value z)(hz:evL lk z=some (.fn f))(ac:pU lk k.args.toList=some xs)(hf:xw L f xs pb=some d)
  (h:mutE nt lk J o.op k.args.toList o.dst d=some (e,new))(U:okD nt o.dst=true)(ab:vt=J++(new++rest))(hi:Inv vt w0 nt B a w)(H:∀x∈e.rd,∀c,lk x=some c->bL ρ B a w x c)(hn:∀v,e.al=some v->B.v v=none)
 (hK:∀B' a' w',Post ρ vt w0 nt e B a w B' a' w'->K a' w'):Bk p o a w K Q:=by
 unfold mutE at h;split at h
 ·rename_i G;simp only[BU,Cc]at G;obtain⟨I,aa,Y⟩:=G
  cases hkw:rf nt k.args.toList d.keep with
  | none=>rw[hkw]at h;cases h
  | some kw=>
   rw[hkw]at h;simp only at h;split at h
   ·rename_i V;simp only[A4.injEq,Cm.injEq]at h;obtain⟨rfl,rfl⟩:=h;exact ok_mut1 hO Z F hz ac hf I aa Y hkw V U ab hi H hn hK
   ·cases h
 ·cases h
end
section
variable {p:AZ} {ρ:Rho} {B B':Blk} {a a':Act} {w w':World} {w0:Ent} {C:List Inst} {L:List OIns} {lk:Nat->Option AV} {vt:List (TypeId×Nat)} {nt:Nat} {Q:A8->Act->World->Prop} {o:Oper} {ops:Array Oper}
variable{ty:TypeId}
theorem zV(h:w.heap[g]? =some (.cells cs ty (0,0)))(H:k<cs.size)(F:fE v):(Go.store ⟨g,k,none⟩ v).run p w= .ok () (w.setCell ⟨g,k,none⟩ v):=by
 have h1:w.cell? ⟨g,k,none⟩=some cs[k]:=by rw[aH h];exact Array.getElem?_eq_getElem H
 have h2:w.frozen? ⟨g,k,none⟩=false:=frozen_of_row w g k _ _ h;have h3:=F.1;have G:=F.2.1;unfold Go.store
 cases v with
 | agg cs=>exact absurd rfl (h3 cs)
 | tuple vs=>exact absurd rfl (G vs)
 | _=>simp[CW,h1,h2]
theorem gn{o:Nat}:∀(vs:List Value)(i:Nat)(w:World)(cs:Array Value),w.heap[g]? =some (.cells cs ty (0,0))->o+i+vs.length<=cs.size->(∀v∈vs,fE v)->
  ∃w' F,(storeCells ⟨g,o,none⟩ vs i).run p w= .ok () w'/\Upd w g w'/\w'.heap[g]? =some (.cells F ty (0,0))/\F.size=cs.size/\
   (∀k v,vs[k]? =some v->F[o+i+k]? =some v)/\∀k,(k<o+i\/o+i+vs.length<=k)->F[k]? =cs[k]?
 | [],i,w,cs,h,_,_=>⟨w,cs,by simp[storeCells],⟨rfl,rfl,rfl,rfl,λ_ _=>rfl⟩,h,rfl,Ad,λ_ _=>rfl⟩
 | v::vs,i,w,cs,h,hle,hv=>by
  simp only[Bh]at hle;have h1:=zV (p:=p) (k:=o+i) h no (hv v Ad);have h2:=heap_setCell_same w g (o+i) _ _ v h;obtain⟨w',F,U,V,Y,H,Z,I⟩:=gn (o:=o) vs (i+1) (w.setCell ⟨g,o+i,none⟩ v) (cs.setIfInBounds (o+i) v) h2 (by simp;omega) (λu G=>hv u (Bi _ G));have K:=H;refine⟨w',F,?_,(Upd.cell w g (o+i) v).trans V,Y,by rw[H];simp,λk u G=> ?_,λk J=> ?_⟩
  ·unfold storeCells;rw[AK,bQ,h1];exact U
  ·match k with
   | 0=>
    simp at G;subst G;rw[I (o+i+0) no];simp[show o+i<cs.size from no]
   | k+1=>
    have:=Z k u AA;rwa [show o+(i+1)+k=o+i+(k+1)from no]at this
  ·rw[I k (by simp only[Bh]at J;omega)];simp only[Bh]at J;rw[DV,if_neg no]
theorem bL.upd{x:Nat}(h:bL ρ B a w x c)(o:bv w g)(u:Upd w g w')(hb:∃x,B.v x=some g)(hi:BInj B)(G:¬x<100000->∀g' cs ty y,B.v (x / 100000 - 1)=some g'->w.heap[g']? =some (.cells cs ty (0,0))->cs[x % 100000]? =some y->∃F,w'.heap[g']? =some (.cells F ty (0,0))/\F[x % 100000]? =some y):bL ρ B a w' x c:=by
 unfold bL at h⊢;split at h
 ·rename_i G;rw[if_pos G];obtain⟨v,h1,h2⟩:=h;exact⟨v,h1,h2.upd o u hb hi⟩
 ·rename_i hn;rw[if_neg hn];obtain⟨g',cs,ty,v,h1,h2,h3,H⟩:=h;obtain⟨F,I,J⟩:=G hn g' cs ty v h1 h2 h3;exact⟨g',F,ty,v,h1,I,J,H.upd o u hb hi⟩
variable{rd:List Nat}{K:Act->World->Prop}
theorem ok_store{x y:AS}{v off:Nat}(ho:o.op= .store t x y)(hd:o.dst=none)(hx:evL lk x=some (.ptr v off))(hy:evS lk y=some s)(am:vt[v]? =some (ty,n))
  (hs:szB p t=some s.leaves.length)(hf:l9 s.leaves=true)(an:off+s.leaves.length<=n)(hn:n<=100000)(hi:Inv vt w0 nt B a w)(Hx:bk ρ B a w lk x)(Hy:bk ρ B a w lk y) 
 (hK:∀B' a' w',Post ρ vt w0 nt ⟨rd,dM v off s.leaves,none,[],[]⟩ B a w B' a' w'->K a' w'):Bk p o a w K Q:=by
 obtain⟨g,hg,e1⟩:=(eF Hx hx:Leaf.holds ρ B w (.ptr v off) (a.eval x));have e2:=eE Hy hy;have hc:=e2.cells;obtain⟨ak,cs,ap,f1,f2,f3⟩:=hi.blk v g hg;rw[am]at f1;simp only[A4.injEq,Cm.injEq]at f1;obtain⟨rfl,rfl⟩:=f1;have ab:=hc.len;have J:∀u∈(a.eval y).cells.toList,fE u:=λu hu=>by
  obtain⟨k,hk,rfl⟩:=BL hu;obtain⟨z,h1,h2⟩:=hc.get (AM (show k<s.leaves.length by omega));rw[AM hk]at h1;injection h1 with h1;rw[h1];exact h2.flat (Cc.1 hf _ (List.getElem_mem _))
 obtain⟨w',Z,g1,g2,g3,g4,g5,g6⟩:=gn (p:=p) (o:=off) (a.eval y).cells.toList 0 w cs f2 no J;have ow:bv w g:=.mk' f2 f3;have ac:(execOp a.eval o).run p w= .ok .skip w':=by
  unfold execOp;rw[ho];simp only[AK,Instr.storeAt,e1,DZ,Bu,AU,storeVar,ba hs];rw[if_neg (by simp only[ne_eq,Classical.not_not];simpa using ab)];rw[g1]
 unfold Bk;rw[ac,Oper.upon_skip,hd];show K a w';have I:∀g' F G,w.heap[g']? =some (.cells F G (0,0))->∃H,w'.heap[g']? =some (.cells H G (0,0))/\H.size=F.size/\(g'≠g->H=F):=λg' F G h=>by
  by_cases e:g'=g
  ·subst e;rw[f2]at h;injection h with h;injection h with h h2;subst h;subst h2;exact⟨Z,g3,g4,λh=>absurd rfl h⟩
  ·exact⟨F,by rw[g2.block g' e];exact h,rfl,λ_=>rfl⟩
 refine hK B a w' ⟨BLe.refl,⟨λv' g' U=> ?_,λv' g' U=> ?_,hi.inj,hi.below.upd g2 ak,hi.size,hi.dfr,hi.pin⟩,λq hq=> ?_,λz c hz aa _=>hz.upd ow g2 ⟨_,hg⟩ hi.inj (λao g' F G y1 h1 h2 h3=> ?_),λu h1 h2=>absurd h1 h2⟩
 ·obtain⟨h1,F,G,h2,h3,h4⟩:=hi.blk v' g' U;obtain⟨H,Y,k2,k3⟩:=I g' F G h3;refine⟨h1,H,G,by rw[k2];exact h2,Y,λk m hk=> ?_⟩;by_cases e:g'=g
  ·subst e;rw[g3]at Y;injection Y with Y;injection Y with Y _;subst Y;by_cases hin:k<off\/off+(a.eval y).cells.toList.length<=k
   ·rw[g6 k (by simpa using hin)]at hk;exact f3 k m hk
   ·have V:k - off<(a.eval y).cells.toList.length:=no
    have:=g5 (k - off) _ (AM V);rw[show off+0+(k - off)=k from no,hk]at this;injection this with this;exact(J _ (List.getElem_mem V)).2.2 m this.symm
  ·rw[k3 e]at hk;exact h4 k m hk
 ·obtain⟨h1,h2⟩:=hi.own v' g' U;have aa:g'≠g:=λe=>by subst e;exact hi.inj.vo _ _ _ hg U
  exact⟨h1,h2.blk (g2.block g' aa) (by rw[g2.size];exact AI _)⟩
 ·obtain⟨j,l,h1,rfl⟩:=kZ.1 hq;have hj:=(A1.1 h1).1;obtain⟨u,h2,h3⟩:=hc.get h1;rw[kj no];exact⟨g,Z,ty,u,hg,g3,by have:=g5 j u h2;simpa using this,(h3.upd ow g2 ⟨_,hg⟩ hi.inj:Leaf.holds ρ B w' l u)⟩
 ·by_cases e:g'=g
  ·subst e;rw[f2]at h2;injection h2 with h2;injection h2 with h2 ad;subst h2;subst ad;refine⟨Z,g3,?_⟩;have hv:=hi.inj.v _ _ _ h1 hg;by_cases hin:z % 100000<off\/off+(a.eval y).cells.toList.length<=z % 100000
   ·rw[g6 _ (by simpa using hin)];exact h3
   ·have V:z % 100000 - off<s.leaves.length:=no
    refine absurd ?_ (aa (pT v (off+(z % 100000 - off)),.v (.one s.leaves[z % 100000 - off])) (kZ.2 ⟨_,_,AM V,rfl⟩));unfold pT;have:z / 100000=v+1:=no
    have h5:=Ci z 100000;simp only;omega
  ·obtain⟨H,Y,k2,k3⟩:=I g' F G h2;exact⟨H,Y,by rw[k3 e];exact h3⟩
theorem findC_ok(F:∀i∈C,i.Ok0 p ρ w0){xs:List SV}(h:abS C f xs=some r):(Inst.mk f xs r).Ok0 p ρ w0:=by
 unfold abS at h;split at h
 ·rename_i i hi;simp at h;subst h;have h1:=DY hi;simp only[BU,decide_eq_true_eq]at h1;have:=F i (Dl hi);obtain⟨H,G,I⟩:=i;obtain⟨rfl,rfl⟩:=h1;exact this
 ·cases h
theorem ok_call(hC:∀i∈C,i.Ok0 p ρ w0){k:Call}{z:AS}{xs:List SV}(ho:o.op= .call k)(J:k.callee= .value z)(hz:evL lk z=some (.fn f))(G:pU lk k.args.toList=some xs)(hr:abS C f xs=some r)
  (hd:okD nt o.dst=true)(hi:Inv vt w0 nt B a w)(H:∀x∈(Op.call k).operands.toList,bk ρ B a w lk x) 
 (hK:∀B' a' w',Post ρ vt w0 nt ⟨rd,wrD o.dst r,none,[],[]⟩ B a w B' a' w'->K a' w'):Bk p o a w K Q:=by
 obtain⟨U,args,tt⟩:=k;simp only at J G;subst J;have V:a.eval z=fnV f:=eF (H z (by simp[DB,Ff])) hz;have Y:=gj G (λx hx=>H x (by simp only[DB,Ff,Fg,AJ];exact .inr hx));obtain⟨I,F⟩:=findC_ok hC hr;have hc:=F B w _ hi.below hi.bok Y;have Z:(args.toList.map a.eval).toArray=args.map a.eval:=by rw[<-E9,EF]
 rw[Z]at hc;unfold Bk;have:(execOp a.eval o).run p w= .ok (.enter f (args.map a.eval)) w:=by
  simp[execOp,ho,resolve,invoke,Deferred.ofValue,V,I,AU]
 rw[this,Oper.upon_enter];refine hc.mono ?_;rintro e w' ⟨v,rfl,h1,h2⟩;exact hK B _ w' (gl hi hd h2 h1)
theorem ok_pure(I:∀i∈L,i.OkE w0 p ρ)(h:tO p L lk o.op=some (c,rd))(J:okD nt o.dst=true)(hi:Inv vt w0 nt B a w)(H:∀x∈jK o.op++rd,∀c,lk x=some c->bL ρ B a w x c)
  {F:List Nat}(G:∀B' a' w',Post ρ vt w0 nt ⟨F,wrD o.dst c,none,[],[]⟩ B a w B' a' w'->K a' w'):Bk p o a w K Q:=by
 obtain⟨u,h1,h2⟩:=makes_any I h (λx U y hy c hc=>H y (AJ.2 (.inl (by unfold jK;exact Br.2 ⟨x,U,hy⟩))) c hc) (λy hy c hc=>H y (AJ.2 (.inr hy)) c hc);unfold Bk;rw[h1,EG];exact G B _ w (gl hi J (AH _ _) h2)
theorem abT:∀(l:List (Nat×AS)),(l.map (·.1)).zip ((l.map (·.2)).map a.eval)=l.map λq=>(q.1,a.eval q.2)
 | []=>rfl
 | _::l=>congrArg (_:: ·) (abT l)
theorem ok_bs(hO:∀i∈L,i.OkE w0 p ρ){t:TypeId}{n:Nat}{parts:Array (Nat×Operand)}{xs:List SV}{r:SV}(ho:o.op= .buildSlice t n parts)(hxs:pU lk (parts.toList.map (·.2))=some xs)(hr:cM L (.bs t n (parts.toList.map (·.1))) xs=some r)
  (hd:okD nt o.dst=true)(hi:Inv vt w0 nt B a w)(H:∀x∈(Op.buildSlice t n parts).operands.toList,bk ρ B a w lk x){rd:List Nat}
  {K:Act->World->Prop}(hK:∀B' a' w',Post ρ vt w0 nt ⟨rd,wrD o.dst (.v r),none,[],[]⟩ B a w B' a' w'->K a' w'):Oper.wp p o a w K Q:=by
 have e2:=gj hxs (λx hx=>H x (by simpa [Op.operands]using hx));obtain⟨v,w',h1,h2,h3⟩:=(fm hO (λ_ _ h=>by cases h) hr) B w _ e2 hi.bok;rw[abT]at h2;have:(execOp a.eval o).run p w= .ok (.value v) w':=by
  unfold execOp;rw[ho];have e3:(parts.map λx=>match x with | (i,x)=>(i,a.eval x))=(parts.toList.map λq=>(q.1,a.eval q.2)).toArray:=by
   obtain⟨l⟩:=parts;simp
  simp only[Sem.run_bind];rw[e3,h2];rfl
 unfold Oper.wp;rw[this,Oper.upon_value];exact hK B _ w' (gl hi hd h3 h1)
variable{new rest:List (TypeId×Nat)}
theorem abU(hC:∀i∈C,i.Ok0 p ρ w0)(hO:∀i∈L,i.OkE w0 p ρ){ab:List (TypeId×Nat)}{e:Eff}(h:xx p C L nt lk ab o=some (e,new))(V:vt=ab++(new++rest))(hi:Inv vt w0 nt B a w)
  (H:∀x∈e.rd,∀c,lk x=some c->bL ρ B a w x c)(hn:∀v,e.al=some v->B.v v=none)(Z:∀B' a' w',Post ρ vt w0 nt e B a w B' a' w'->K a' w'):Bk p o a w K Q:=by
 unfold xx at h;split at h
 ·cases h
 ·rename_i J;have J:okD nt o.dst=true:=by simpa using J
  have aa:∀ {h:(match tO p L lk o.op with | some (c,rd)=>some (Eff.mk (jK o.op++rd) (wrD o.dst c) none [] [],([]:List (TypeId×Nat))) | none=>none)=some (e,new)},Bk p o a w K Q:=by
   intro h;split at h
   ·rename_i c rd hp;simp at h;obtain⟨rfl,rfl⟩:=h;exact ok_pure hO hp J hi H Z
   ·cases h
  dsimp only at h;split at h
  ·
   rename_i t I;split at h
   ·rename_i d z F hz;split at h
    ·rename_i hc;simp at h;obtain⟨rfl,rfl⟩:=h;obtain⟨zv,ak,am⟩:=gR (ρ:=ρ) (B:=B) (w:=w) hz;have U:(execOp a.eval o).run p w= .ok (.value (.pointer (some ⟨w.heap.size,0,none⟩))) (w.alloc (.cells zv.cells t)):=by
      unfold execOp;rw[I];simp only[Instr.alloc,AK,ak,AU,newVar,newRow,Go.newObj,CW,Bu];rfl
     unfold Bk;rw[U,EG,F];rw[F]at J;exact Z _ _ _ (xy hi J hc.1 hc.2.1 am (by rw[V];simp) (hn _ rfl))
    ·cases h
   ·cases h
  ·
   rename_i t x I;split at h
   ·rename_i d s F hs;split at h
    ·rename_i hc;simp at h;obtain⟨rfl,rfl⟩:=h;have e2:=eE (λy hy c hc=>H y hy c hc) hs;have U:(execOp a.eval o).run p w= .ok (.value (.pointer (some ⟨w.heap.size,0,none⟩))) (w.alloc (.cells (a.eval x).cells t)):=by
      unfold execOp;rw[I];simp only[Instr.box,AK,AU,newVar,newRow,Go.newObj,CW,Bu];rfl
     unfold Bk;rw[U,EG,F];rw[F]at J;exact Z _ _ _ (xy hi J hc.1 hc.2.1 e2.cells (by rw[V];simp) (hn _ rfl))
    ·cases h
   ·cases h
  ·
   rename_i t x y I;split at h
   ·rename_i v off s F hx hy;split at h
    ·rename_i ty n hv;split at h
     ·rename_i hc;simp at h;obtain⟨rfl,rfl⟩:=h;exact ok_store I F hx hy (by rw[V,BB (A1.1 hv).1];exact hv) hc.1 hc.2.1 hc.2.2.1 hc.2.2.2.1 hi (λz hz c hc=>H z (AJ.2 (.inl hz)) c hc) (λz hz c hc=>H z (AJ.2 (.inr hz)) c hc) Z
     ·cases h
    ·cases h
   ·cases h
  ·
   rename_i k I;split at h
   ·rename_i z hk;split at h
    ·rename_i f xs hz Y;split at h
     ·rename_i r hr;simp only[A4.injEq,Cm.injEq]at h;obtain⟨rfl,rfl⟩:=h;rw[I]at H;exact ok_call hC I hk hz Y hr J hi (λx hx y hy c hc=>H y (by unfold jK;exact Br.2 ⟨x,hx,hy⟩) c hc) Z
     ·split at h
      ·rename_i d hf;exact ok_mut hO I hk hz Y hf h J V hi H hn Z
      ·cases h
    ·cases h
   ·rename_i hk;split at h
    ·rename_i d x y t t' F G ad;split at h
     ·rename_i lx ly hx hy;split at h
      ·rename_i ac;subst ac;split at h
       ·rename_i i m hf;split at h
        ·rename_i hs;simp only[A4.injEq,Cm.injEq]at h;obtain⟨rfl,rfl⟩:=h;have HH:∀z∈k.args.toList,bk ρ B a w lk z:=λz hz y hy c hc=>H y (by rw[I];unfold jK;exact Br.2 ⟨z,by simp only[DB,Ff,Fg,AJ];exact .inr hz,hy⟩) c hc
         exact ok_app hO I hk F G ad hx hy hf hs (by rw[<-F];exact J) hi (HH x (by rw[G];simp)) (HH y (by rw[G];simp)) Z
        ·cases h
       ·cases h
      ·cases h
     ·cases h
    ·cases h
   ·exact aa (h:=h)
  ·
   rename_i t n parts I;split at h
   ·rename_i d xs F Y
    cases hr:cM L (.bs t n (parts.toList.map (·.1))) xs with
    | none=>rw[hr]at h;cases h
    | some r=>
     rw[hr]at h;simp only[BG,A4.injEq,Cm.injEq]at h;obtain⟨rfl,rfl⟩:=h;rw[I]at H;exact ok_bs hO I Y hr J hi (λx hx y hy c hc=>H y (by unfold jK;exact Br.2 ⟨x,hx,hy⟩) c hc) Z
   ·cases h
  ·exact aa (h:=h)
theorem abV(hC:∀i∈C,i.Ok0 p ρ w0)(hO:∀i∈L,i.OkE w0 p ρ){I:List (TypeId×Nat)}{e:Eff}{j:Nat}(hj:ops[j]? =some o)(h:zU p C L nt ops lk I o=some (e,new))(U:vt=I++(new++rest)):
  OpOk p ρ vt w0 nt ops Q j lk e:=by
 intro B a w hi H hn K V;unfold zU at h;unfold wpOp;rw[hj];show if A6 o (yielded ops a.tmps)=true then _ else _
 split at h
 ·rename_i J;rw[if_pos (by unfold A6;rw[J])];exact .inl (abU hC hO h U hi H hn V)
 ·rename_i g b J;split at h
  ·rename_i t ht;split at h
   ·rename_i x hx;have hy:t∈e.rd->yielded ops a.tmps g=some x:=λhm=>by
     have F:a.eval (.tmp t)= .bool x:=tS (λy hy c hc=>by
      simp only[rdO,BP]at hy;subst hy;exact H _ hm c hc) hx
     have Y:(ops[g]?).bind (·.dst)=some t:=by
      unfold bY at ht
      cases ho:ops[g]? with
      | none=>rw[ho]at ht;cases ht
      | some o=>rw[ho]at ht;exact ht
     have e3:a.tmps[t]? =some (.bool x):=by
      simp only[Di,Fc]at F
      cases hq:a.tmps[t]? with
      | none=>rw[hq]at F;cases F
      | some u=>rw[hq]at F;simp at F;rw[F]
     unfold yielded;rw[Y];simp only[EI,e3]
    split at h
    ·rename_i G
     cases he:xx p C L nt lk I o with
     | none=>rw[he]at h;cases h
     | some q=>
      rw[he]at h;obtain⟨e0,aa⟩:=q;simp at h;obtain⟨rfl,rfl⟩:=h;rw[if_pos (by unfold A6;rw[J];show(yielded ops a.tmps g==some b)=true;rw[hy Ad,G];simp)];exact .inl (abU hC hO he U hi (λy hy c hc=>H y (Bi _ hy) c hc) hn (λB' a' w' hp=>V B' a' w' ⟨hp.le,hp.inv,hp.wr,hp.keep,hp.new⟩))
    ·rename_i G;split at h
     ·rename_i Z;simp at h;obtain⟨rfl,rfl⟩:=h;rw[if_neg (by unfold A6;rw[J];show¬(yielded ops a.tmps g==some b)=true;rw[hy Ad];simpa using G)];exact V B _ w (gl hi Z (AH _ _) rfl)
     ·cases h
   ·rename_i hx;split at h
    ·rename_i Z;simp at h;obtain⟨rfl,rfl⟩:=h;have F:a.eval (.tmp t)=undef:=tS (λy hy c hc=>by
      simp only[rdO,BP]at hy;subst hy;exact H _ Ad c hc) hx
     have Y:(ops[g]?).bind (·.dst)=some t:=by
      unfold bY at ht
      cases ho:ops[g]? with
      | none=>rw[ho]at ht;cases ht
      | some o=>rw[ho]at ht;exact ht
     have e4:yielded ops a.tmps g=none:=by
      unfold yielded;rw[Y];simp only[EI];simp only[Di,Fc]at F
      cases hq:a.tmps[t]? with
      | none=>rfl
      | some u=>rw[hq]at F;simp at F;rw[F];rfl
     rw[if_neg (by unfold A6;rw[J];show¬(yielded ops a.tmps g==some b)=true;rw[e4];simp)];exact V B _ w (gl hi Z (AH _ _) rfl)
    ·cases h
   ·cases h
  ·cases h
end
end Go.Proofs.YtggfmklppkioeaaGreat
