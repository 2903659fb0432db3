/- The reference's Gcd. -/
import Derived.Test.YtggfmklppkioeaaGreatM03
import Derived.Laws.AppendOwn
import Derived.Laws.Sem
namespace Go.Proofs.YtggfmklppkioeaaGreat
set_option linter.unusedSimpArgs false
set_option linter.unusedVariables false
set_option maxRecDepth 100000
open Go.RowKit
open _root_.Go renaming Addr → AU,Calls → AC,Ending → BB,Exit → A4,FuncId → BL,Operand → AP,Program → AW,wpAny_ready → BU
open _root_.Go.Act renaming eval → Dd,put → AI
open _root_.Go.AllReady renaming cons → BH,nil → BT
open _root_.Array renaming getD_eq_getD_getElem? → E8,getElem?_eq_some_iff → AZ,getElem?_setIfInBounds → DQ,getElem?_toList → GQ,length_toList → EB,replicate → Cu,toArray_toList → ED,toList_append → Fc,toList_map → EZ
open _root_.Go.RowKit.Below renaming refl → AF
open _root_.Bool renaming and_eq_true → BN,eq_iff_iff → Fw,false_eq_true → D8,or_eq_true → Ds
open _root_.Go.Call renaming operands → Fb
open _root_.Classical renaming byContradiction → DO
open _root_.Go.Instr renaming fieldAt → Fa,index → Eb,indexAt → E9,loadAt → CV,sliceAt → CI,sureAddr → DV
open _root_.Go.Lib renaming hid → AA
open _root_.List renaming all_eq_true → Ca,contains_iff_mem → CN,find?_eq_none → CW,find?_some → DT,flatMap_cons → Cw,getElem?_append_left → Bz,getElem?_eq_getElem → AJ,getElem?_eq_none → EF,getElem?_eq_some_iff → AX,getElem?_take → BI,getElem_of_mem → BK,length_cons → Bg,map_cons → Bq,map_nil → BS,map_toArray → CJ,mem_append → AG,mem_cons → AS,mem_cons_of_mem → Bf,mem_flatMap → Br,mem_map → Ba,mem_of_find?_eq_some → Dg,mem_range → C4,mem_singleton → BD,range → Bj,setIfInBounds_toArray → AL,set_cons_succ → AN,set_cons_zero → AM
open _root_.Nat renaming add_zero → CL,div_add_mod → Cf,div_le_self → D6,gcd → AO,le_refl → AE,le_trans → AD,lt_of_lt_of_le → Bt,mul_ne_zero → Cl,pos_of_ne_zero → Du,zero_add → A5
open _root_.Go.Op renaming operands → Dx
open _root_.Go.Oper renaming upon_value → EE,wp → Bk
open _root_.Option renaming bind_some → EG,map_some → BG,some → A3
open _root_.Prod renaming mk → Ck
open _root_.Go.Region renaming ready → BY,wanted → A6
open _root_.Go.Result renaming andThen → AQ
open _root_.Go.Sem renaming run_bind → AH,run_pure → Bw
open _root_.Go.Proofs.Tryz renaming prog → AB
open _root_.Go.Value renaming int → AK
open _root_.Go.World renaming cell?_of_block → BZ,drew → CA,size_alloc → Cr
structure GT(w wx:World)(x y:Nat):Prop where
 below:mBw w wx
 res:aV wx (w.heap.size+2) none 0 0
 v1:dP wx w.heap.size x
 v2:dP wx (w.heap.size+1) y
variable{w w':World}
theorem GT.mono{wx:World}{x y:Nat}(h:GT w wx x y)(hb:mBw wx w'):GT w w' x y:=
 ⟨h.below.trans (hb.mono h.below.size),h.res.mono hb h.res.lt,h.v1.mono hb,h.v2.mono hb⟩
variable{N:Nat}
theorem gt_set{G:World}{K P M F cy:Nat}{x y:Option AU}(h:GT w G K P)(J:IsN G (.agg #[.slice x (nl M) F]) M)(hy:IsN G (.agg #[.slice y (nl N) cy]) N):
  GT w ((G.setCell ⟨w.heap.size,0,none⟩ (.slice x (nl M) F)).setCell ⟨w.heap.size+1,0,none⟩ (.slice y (nl N) cy)) M N:=by
 obtain⟨U,Y,H,n1⟩:=h.v1;obtain⟨V,Z,I,n2⟩:=h.v2;have C:=I.setOther ⟨w.heap.size,0,none⟩ (.slice x (nl M) F) Ad;exact⟨(h.below.setCell (p:=⟨w.heap.size,0,none⟩) (AE _) _).setCell (p:=⟨w.heap.size+1,0,none⟩) (Nat.le_succ _) _,(h.res.setOther _ _ Ad).setOther _ _ Ad,
  ⟨x,F,H.set.setOther _ _ Ad,(J.setVar H).setVar C⟩,⟨y,cy,C.set,(hy.setVar H).setVar C⟩⟩
noncomputable def valI(w:World)(g:Nat):Nat:=Classical.epsilon (λN=>dP w g N)
variable{g:Nat}
theorem dP.val(h:dP w g N):valI w g=N:=by
 obtain⟨a',G,F,C⟩:=Classical.epsilon_spec (p:=λN=>dP w g N) ⟨N,h⟩;obtain⟨a,c,hb,hn⟩:=h;have e:=F.symm.trans hb;simp only[A3.injEq,Obj.cells.injEq,Array.mk.injEq,List.cons.injEq,Value.slice.injEq,and_true]at e;rw[e.1,e.2.1,e.2.2]at C;exact C.unique hn
set_option maxRecDepth 100000 in
set_option maxHeartbeats 4000000 in
theorem c_ref_Gcd(va vb:Value)(m n:Nat)(w:World)(ha:IsN w va m)(hb:IsN w vb n)(hm:nl m<=100000000000)(hn:nl n<=100000000000):
  AC AB 261 #[va,vb] w λe w'=>RetN w (AO m n) e w':=by
 obtain⟨a,ca,rfl,an,ra⟩:=ha;obtain⟨b,cb,rfl,ao,rb⟩:=hb;go_enter Tryz.func261,Tryz.ntmps261
 go_upto_region 0 with(fail)
 go_cut [2,3,4] (λs2 s3 s4 wx=>s2= .pointer (some ⟨w.heap.size,0,none⟩)/\s3= .pointer (some ⟨w.heap.size+1,0,none⟩)/\s4= .pointer (some ⟨w.heap.size+2,0,none⟩)/\GT w wx m n)
 case first=>
  obtain⟨Z,k1,k2⟩:=box2 (L:=nl m) (c:=ca) (N:=m) (L2:=nl n) (c2:=cb) (N2:=n) ⟨a,ca,rfl,an,ra⟩ ⟨b,cb,rfl,ao,rb⟩;have k3:=iz ((w.alloc (.cells #[.slice a (nl m) ca] 31)).alloc (.cells #[.slice b (nl n) cb] 31)) (.cells #[.slice none 0 0] 31);have k4:=aV.made ((w.alloc (.cells #[.slice a (nl m) ca] 31)).alloc (.cells #[.slice b (nl n) cb] 31)) none 0 0;rw[Cr,Cr]at k4;have hT:GT w _ m n:=⟨Z.trans (k3.mono Z.size),k4,jC.mono k1 k3,jC.mono k2 k3⟩;go_wp2_with fail
  go_meet;case rel=>exact⟨rfl,rfl,rfl,hT⟩
 case rest=>
  obtain⟨rfl,rfl,rfl,hT⟩:=hcut;clear ra rb an ao;go_wp2_with fail
  go_loopw [] (λwr=>∃x y:Nat,Hid (AO x y=AO m n)/\nl x<=100000000000/\nl y<=100000000000/\GT w wr x y) (λwr=>valI wr (w.heap.size+1))
  case atStart=>exact⟨m,n,AA rfl,hm,hn,hT⟩
  case round=>
   clear hT;obtain⟨x,y,ad,hx,hy,hs⟩:=hrel;obtain⟨ax,cx,vx,nx⟩:=hs.v1;obtain⟨ay,cy,vy,ny⟩:=hs.v2;have c5:=vx.cell;have c6:=vy.cell;have cr:=hs.res.cell;have fr:=hs.res.frozen;by_cases hy0:y=0
   ·subst hy0;rw[bL]at c6;have a3:x=AO m n:=by have:=ad.out;rwa [Nat.gcd_zero_right]at this
    have a7:=AA a3;clear a3;have ap:=nx.setVar (u:=.slice ax (nl x) cx) hs.res;have Y:=(hs.res.set (a':=ax) (L':=nl x) (c':=cx)).cell;have am:=hs.below.setCell (p:=⟨w.heap.size+2,0,none⟩) (Nat.le_add_right _ _) (.slice ax (nl x) cx);go_wp2;exact bodyPost_ret (eX rfl _ _ (w.heap.size+2) _ rfl Y) rfl ⟨_,rfl,by rw[<-a7.out];exact ap,am⟩
   ·have b0:=dV hy0;have ak:=AA hy0;clear hy0;go_wp2_with fail
    refine(mn _ _ x y _ nx ny hx hy ak.out).mono ?_;rintro e w1 ⟨vq,vr,rfl,nq,nr,V⟩;obtain⟨I,P⟩:∃N:Nat,Hid (N=x % y):=⟨_,AA rfl⟩;obtain⟨Q0,a9⟩:∃N:Nat,Hid (N=x / y):=⟨_,AA rfl⟩;rw[<-P.out]at nr;rw[<-a9.out]at nq;obtain⟨aq,cq,rfl,bO,bi⟩:=nq;obtain⟨ar,H,rfl,bb,a4⟩:=nr;obtain⟨Z,k1,k2⟩:=xK w1 aq ar (nl Q0) cq (nl I) H;have nr:IsN w1 (.agg #[.slice ar (nl I) H]) I:=aU.isN ⟨ar,H,rfl,bb,a4⟩;have C:=V.trans (Z.mono V.size);go_upto_region 3 with(fail)
    have k3:=aN (AF ((w1.alloc (.cells #[.slice aq (nl Q0) cq] 31)).alloc (.cells #[.slice ar (nl I) H] 31)).heap.size ((w1.alloc (.cells #[.slice aq (nl Q0) cq] 31)).alloc (.cells #[.slice ar (nl I) H] 31))) 1;refine wp_region_any Aa ?_
    change wpAny _ _ _ _ _ _ _ (CA _)
    have a0:=hs.mono (C.trans (k3.mono C.size));have a5:=nr.mono (Z.trans (k3.mono Z.size));have a6:=ny.mono (C.trans (k3.mono C.size));have v8:aV (World.drewN _ 1) (w1.heap.size+1) ar (nl I) H:=k2.mono k3 k2.lt;have ab:=vy.mono (C.trans (k3.mono C.size)) vy.lt;have aa:=vx.mono (C.trans (k3.mono C.size)) vx.lt;have be:w1.heap.size+1≠w.heap.size:=by have:=vx.lt;have:=V.size;omega
    have G:=Nat.mod_lt x (Du ak.out);rw[<-P.out]at G;have au:AO y I=AO m n:=by rw[P.out,<-ad.out,Nat.gcd_comm x y,Nat.gcd_rec y x,Nat.gcd_comm]
    have ac:=AA au;have av:nl I<=100000000000:=AD (dW (Nat.le_of_lt G)) hy;clear au c5 c6 cr fr Z k1 k2 k3 C bi a4
    change GT w (CA _) x y at a0
    change IsN (CA _) _ _ at a5
    change IsN (CA _) _ _ at a6
    change aV (CA _) _ _ _ _ at v8
    change aV (CA _) _ _ _ _ at ab
    change aV (CA _) _ _ _ _ at aa
    generalize CA _=w3 at *;have U:=gt_set a0 a6 a5;have bp:=v8.setOther ⟨w.heap.size,0,none⟩ (.slice ay (nl y) cy) (λe=>be e.symm);have J:=ab.setOther ⟨w.heap.size,0,none⟩ (.slice ay (nl y) cy) Ad;have a1:=hs.v2.val;have a2:=U.v2.val;have c6:=ab.cell;have c8:=v8.cell;have f5:=aa.frozen;have c5:=aa.cell;have bq:=J.cell;have bz:=J.frozen;have bt:=bp.cell;refine eG (some 19) 0 2 (?v3_0_1) rfl rfl it rfl rfl Aa Aa (λ_ _ _ h=>h) ⟨Af,?hy3_0_1⟩ ?_;case hy3_0_1=>(go_simp;try with_reducible rfl)
    try simp only[AI,AL,AM,AN]
    refine BU (rs:=[1,2]) Aa Ad ?_;refine BH rfl (λK F=> ?_) ?_
    ·go_simp
     refine F _ _ ?_;clear F K;try simp only[AI,AL,AM,AN]
     refine BU (rs:=[2]) Aa Ad ?_;refine BH rfl (λK F=> ?_) BT;go_simp;refine F _ _ ?_;clear F K;try simp only[AI,AL,AM,AN]
     refine BU (rs:=[3]) Aa Ad ?_;refine BH rfl (λK F=> ?_) BT;go_simp;refine F _ _ ?_;clear F K;try simp only[AI,AL,AM,AN]
     refine wpAny_done Aa ?_ _;go_wp2_with fail
     go_roundw
     case rel=>exact⟨y,I,ac,hy,av,U⟩
     case measure=>rw[a1,a2];exact G
    refine BH rfl (λK F=> ?_) ?_
    ·go_simp
     refine F _ _ ?_;clear F K;try simp only[AI,AL,AM,AN]
     refine BU (rs:=[1]) Aa Ad ?_;refine BH rfl (λK F=> ?_) BT;go_simp;refine F _ _ ?_;clear F K;try simp only[AI,AL,AM,AN]
     refine BU (rs:=[3]) Aa Ad ?_;refine BH rfl (λK F=> ?_) BT;go_simp;refine F _ _ ?_;clear F K;try simp only[AI,AL,AM,AN]
     refine wpAny_done Aa ?_ _;go_wp2_with fail
     go_roundw
     case rel=>exact⟨y,I,ac,hy,av,U⟩
     case measure=>rw[a1,a2];exact G
    exact BT
section
variable {Q:A4->Act->World->Prop} {o:Oper} {a:Act} {w:World} {x y:AP} {m n:Nat} {tt:Array TypeId}
end
variable{v:Value}
theorem IsN.shape(h:IsN w v N):∃x c,v= .agg #[.slice x (nl N) c]:=by
 obtain⟨x,c,rfl,_⟩:=h;exact⟨x,c,rfl⟩
section
variable {P:AW} {Q:A4->Act->World->Prop} {md:Region.Mode}
end
def IsF(w:World)(v:Value)(s:Bool)(p q:Nat):Prop:=∃a c b d,v= .agg #[.bool s,.slice a (nl p) c,.slice b (nl q) d]/\IsN w (.agg #[.slice a (nl p) c]) p/\IsN w (.agg #[.slice b (nl q) d]) q
theorem IsF.mono{s:Bool}{p q:Nat}(h:IsF w v s p q)(hb:mBw w w'):IsF w' v s p q:=by
 obtain⟨a,c,b,d,rfl,h1,h2⟩:=h;exact⟨a,c,b,d,rfl,h1.mono hb,h2.mono hb⟩
section
variable {w w':World} {g L c M d B:Nat} {s:Bool} {a b:Option AU}
end
def RetF(W:World)(s:Bool)(p q:Nat)(e:BB)(w':World):Prop:=∃v,e= .returned v/\IsF w' v s p q/\mBw W w'
theorem c_isZero(va:Value)(m:Nat)(w:World)(ha:IsN w va m)(I:nl m<=1000000000000):
  AC AB 197 #[va] w λe w'=>bI w (.bool (decide (m=0))) e w':=by
 obtain⟨a,C,rfl,F,J⟩:=ha;have G:=iz w (.cells #[.slice a (nl m) C] 31);have v1:=aV.made w a (nl m) C;have H:=v1.cell;have e:(((nl m:Nat):Int)==0)=decide (m=0):=by
  rw[Fw];simp[kS]
 go_enter Tryz.func197,Tryz.ntmps197
 go_wp2;go_ret;exact⟨by first | rfl | (rw[<-e];rfl) | simp_all,G⟩
theorem c_zero(va:Value)(m:Nat)(w:World)(ha:IsN w va m)(I:nl m<=1000000000000):
  AC AB 260 #[va] w λe w'=>bI w (.bool (decide (m=0))) e w':=by
 obtain⟨a,C,rfl,F,J⟩:=ha;have G:=iz w (.cells #[.slice a (nl m) C] 31);have v1:=aV.made w a (nl m) C;have H:=v1.cell;have e:(((nl m:Nat):Int)==0)=decide (m=0):=by
  rw[Fw];simp[kS]
 go_enter Tryz.func260,Tryz.ntmps260
 go_wp2;go_ret;exact⟨by first | rfl | (rw[<-e];rfl) | simp_all,G⟩
section
variable {w:World} {g L c M d L' c' M' d':Nat} {s s':Bool} {a b a' b':Option AU}
end
section
variable {Q:A4->Act->World->Prop} {o:Oper} {a:Act} {w:World} {x y z:AP} {m n p q g:Nat} {s:Bool} {tt:Array TypeId}
end
def RetFE(W:World)(s:Bool)(p q:Nat)(c:Int)(e:BB)(w':World):Prop:=∃v,e= .returned (.tuple #[v,.int .i64 c])/\IsF w' v s p q/\mBw W w'
def dC(s:Bool)(m:Nat):Bool:=s && !decide (m=0)
def fb(m n:Nat):Nat:=m / AO m n
def fH(m n:Nat):Nat:=n / AO m n
variable{m n:Nat}
theorem aJ{d e:Nat}(C:nl m<=d)(hn:nl n<=e):nl (m*n)<=d+e:=aI.2 (sm_mul (aI.1 C) (aI.1 hn))
def cN(s s':Bool)(X Y:Nat):Bool:=if s=s' then s else if Y<=X then s else s'
def cJ(s s':Bool)(X Y:Nat):Nat:=if s=s' then X+Y else if Y<=X then X - Y else Y - X
theorem nl_add2{d:Nat}(C:nl m<=d)(hn:nl n<=d):nl (m+n)<=d+d+1:=aI.2 (sm_add (aI.1 C) (aI.1 hn))
theorem addM_le(s s':Bool)(X Y:Nat):cJ s s' X Y<=X+Y:=by unfold cJ;by_cases h:s=s'<;>by_cases h2:Y<=X<;>simp only[h,h2,if_true,if_false]<;>omega
structure Upd(w:World)(g:Nat)(w':World):Prop where
 os:w'.os=w.os
 tape:w'.tape=w.tape
 output:w'.output=w.output
 size:w'.heap.size=w.heap.size
 block:∀k,k≠g->w'.heap[k]? =w.heap[k]?
theorem Upd.cell(w:World)(g k:Nat)(u:Value):Upd w g (w.setCell ⟨g,k,none⟩ u):=⟨rfl,rfl,rfl,by simp[World.setCell],λi hi=>Below.heap_setCell _ _ _ _ hi⟩
theorem Upd.trans{a b c:World}(h:Upd a g b)(k:Upd b g c):Upd a g c:=⟨k.os.trans h.os,k.tape.trans h.tape,k.output.trans h.output,k.size.trans h.size,λi hi=>(k.block i hi).trans (h.block i hi)⟩
theorem Upd.below{W:World}{B:Nat}(h:Below B W w)(u:Upd w g w')(C:B<=g):Below B W w':=
 h.trans ⟨u.os,u.tape,u.output,by rw[u.size];exact AE _,λk F=>u.block k no⟩
def Own(w:World)(g:Nat):Prop:=∃(cs:Array Value)(t:TypeId),w.heap[g]? =some (Obj.cells cs t (0,0))/\∀(k:Nat)(n:Int),cs[k]? ≠some (AK .u32 n)
variable{k o:Nat}
theorem Own.ne{x:Int}(h:Own w g)(C:w.cell? ⟨k,o,none⟩=some (.int .u32 x)):k≠g:=by
 rintro rfl;obtain⟨cs,t,h1,h2⟩:=h;rw[cell_of_row w k o _ _ (0,0) h1]at C;exact h2 o x C
section
variable {w w':World} {g g' N L c M d p q:Nat} {s:Bool} {a b:Option AU}
theorem IsR.upd{L N:Nat}(h:IsR w v L N)(o:Own w g)(u:Upd w g w'):IsR w' v L N:=by
 obtain⟨x,cap,rfl,hc,H⟩:=h;refine⟨x,cap,rfl,hc,H.lt,λF=> ?_⟩;obtain⟨b,off,rfl,G⟩:=H.cells F;have C:b≠g:=o.ne (by simpa using G 0 F);refine⟨b,off,rfl,λj I=> ?_⟩;rw[BZ (u.block b C)];exact G j I
end
section
variable {Q:A4->Act->World->Prop} {md:Region.Mode} {ops:Array Oper} {o:Oper} {a:Act} {w:World} {j fuel:Nat} {listed:Array Bool} {x y:AP} {g L c M d N p q:Nat} {s t:Bool} {u v:Option AU}
end
section
variable {Q:A4->Act->World->Prop} {md:Region.Mode} {ops:Array Oper} {o:Oper} {a:Act} {w:World} {j fuel:Nat} {listed:Array Bool} {x y:AP} {g L c M d N p q:Nat} {s t:Bool} {u v:Option AU}
section
variable {f:BL} {S S1 S2 S3:Sp} {z:AP} {tt:Array TypeId} {R:World->BB->World->Prop}
end
end
variable{fn:Func}
theorem res_N{p:Tmp}(h:fn.results=#[.cell p 31]){tmps:Array Value}{L c:Nat}{a:Option AU}
  (hp:tmps[p]? =some (.pointer (some ⟨g,0,none⟩)))(C:aV w g a L c):(results fn tmps).run AB w= .ok (.agg #[.slice a L c]) w:=by
 have c0:=C.cell;simp[results,h,hp,asAddr,loadVar,go_sem,c0]
theorem resN:mBw w (w.alloc (.cells #[.slice none 0 0] 31))/\aV (w.alloc (.cells #[.slice none 0 0] 31)) w.heap.size none 0 0:=⟨iz w _,aV.made w none 0 0⟩
structure Fq where
 s:Bool
 p:Nat
 q:Nat
abbrev IsQ(w:World)(v:Value)(x:Fq):Prop:=IsF w v x.s x.p x.q
def fg(W:World)(x:Fq)(e:BB)(w':World):Prop:=RetF W x.s x.p x.q e w'
def pn(W:World)(x:Fq)(c:Int)(e:BB)(w':World):Prop:=RetFE W x.s x.p x.q c e w'
def Fq.low(s:Bool)(m n:Nat):Fq:=⟨dC s m,fb m n,fH m n⟩
def Fq.neg(x:Fq):Fq:=⟨dC (!x.s) x.p,x.p,x.q⟩
def Fq.add(x y:Fq):Fq:=.low (cN x.s y.s (x.p*y.q) (y.p*x.q)) (cJ x.s y.s (x.p*y.q) (y.p*x.q)) (x.q*y.q)
def Fq.mul(x y:Fq):Fq:=.low (x.s !=y.s) (x.p*y.p) (x.q*y.q)
def Fq.div(x y:Fq):Fq:=.low (x.s !=y.s) (x.p*y.q) (x.q*y.p)
def Fq.sub(x y:Fq):Fq:=x.add y.neg
def Fq.sgn(x:Fq):Int:=if x.p=0 then 0 else if x.s then -1 else 1
def Fq.cmp(x y:Fq):Int:=(x.sub y).sgn
def Fq.zero:Fq:=⟨false,0,0⟩
structure Fq.ok(d:Nat)(x:Fq):Prop where
 p:nl x.p<=d
 q:nl x.q<=d
 n:x.q≠0
section
variable {x y:Fq} {d e:Nat}
theorem Fq.ok.mono(h:x.ok d)(C:d<=e):x.ok e:=⟨AD h.p C,AD h.q C,h.n⟩
theorem Fq.ok_low{s:Bool}(C:nl m<=d)(hn:nl n<=d)(h0:n≠0):(Fq.low s m n).ok d:=
 ⟨AD (dW (D6 _ _)) C,AD (dW (D6 _ _)) hn,λh=>by
  have h1:n / AO m n=0:=h;rw[Nat.div_eq_zero_iff]at h1;have h2:=Nat.gcd_pos_of_pos_right m (Du h0);have h3:=Nat.gcd_le_right m (Du h0);omega⟩
theorem Fq.ok.neg(h:x.ok d):x.neg.ok d:=⟨h.p,h.q,h.n⟩
theorem Fq.ok.mul(h:x.ok d)(k:y.ok e):(x.mul y).ok (d+e):=Fq.ok_low (aJ h.p k.p) (aJ h.q k.q) (Cl h.n k.n)
theorem Fq.ok.div(h:x.ok d)(k:y.ok e)(h0:y.p≠0):(x.div y).ok (d+e):=Fq.ok_low (aJ h.p k.q) (aJ h.q k.p) (Cl h.n h0)
theorem Fq.ok.add(h:x.ok d)(k:y.ok e):(x.add y).ok (d+e+(d+e)+1):=
 Fq.ok_low (AD (dW (addM_le _ _ _ _)) (nl_add2 (aJ h.p k.q) (AD (aJ k.p h.q) no))) (AD (aJ h.q k.q) no) (Cl h.n k.n)
theorem Fq.ok.sub(h:x.ok d)(k:y.ok e):(x.sub y).ok (d+e+(d+e)+1):=h.add k.neg
end
abbrev fnV(f:BL):Value:=.func (.func f) #[] #[]
def fB(v:Value):Prop:=(∀cs,v≠ .agg cs)/\(∀vs,v≠ .tuple vs)/\∀n,v≠ .int .u32 n
def bw(w:World)(g:Nat):Prop:=g<w.heap.size/\∀(k:Nat)(n:Int),w.cell? ⟨g,k,none⟩≠some (.int .u32 n)
variable{cs:Array Value}{t:TypeId}
theorem bw.mk'(h:w.heap[g]? =some (Obj.cells cs t (0,0)))(hc:∀(k:Nat)(n:Int),cs[k]? ≠some (AK .u32 n)):bw w g:=
 ⟨(AZ.1 h).1,λk n C=>hc k n (by rw[cell_of_row w g k _ _ (0,0) h]at C;exact C)⟩
theorem Own.x(h:Own w g):bw w g:=by obtain⟨cs,t,h1,h2⟩:=h;exact .mk' h1 h2
theorem bw.blk(h:bw w g)(e:w'.heap[g]? =w.heap[g]?)(hs:w.heap.size<=w'.heap.size):bw w' g:=⟨Bt h.1 hs,λk n C=>h.2 k n (by rw[<-BZ (w:=w) (w':=w') (a:=⟨g,k,none⟩) e];exact C)⟩
structure Chg(w w':World)(X:Nat->Prop):Prop where
 size:w.heap.size<=w'.heap.size
 blk:∀g,g<w.heap.size->¬X g->w'.heap[g]? =w.heap[g]?
 own:∀g,X g->bw w g
structure Vp where
 p:World->Value->Prop
 fp:World->Value->Nat->Prop
 ch:∀w w' X v,p w v->Chg w w' X->(∀g,fp w v g->¬X g)->p w' v/\∀g,fp w' v g->fp w v g
 lt:∀w v g,p w v->fp w v g->g<w.heap.size
 fl:∀w v,p w v->fB v
def Vp.of(p:World->Value->Prop)(fp:Value->Nat->Prop)(ch:∀w w' X v,p w v->Chg w w' X->(∀g,fp v g->¬X g)->p w' v)(lt:∀w v g,p w v->fp v g->g<w.heap.size)(fl:∀w v,p w v->fB v):Vp:=
 ⟨p,λ_=>fp,λw w' X v h c k=>⟨ch w w' X v h c k,λ_ h=>h⟩,lt,fl⟩
theorem IsR.chg{X:Nat->Prop}{L:Nat}(h:IsR w v L N)(k:Chg w w' X):IsR w' v L N:=by
 obtain⟨x,cap,rfl,hc,G⟩:=h;refine⟨x,cap,rfl,hc,G.lt,λC=> ?_⟩;obtain⟨b,off,rfl,F⟩:=G.cells C;have hb:w'.heap[b]? =w.heap[b]? :=k.blk b (F.lt C) (λH=>(k.own b H).2 off _ (by simpa using F 0 C));refine⟨b,off,rfl,λj I=> ?_⟩;rw[BZ hb];exact F j I
def Vp.val(u:Value):Vp:=.of (λ_ v=>v=u/\fB v) (λ_ _=>False) (λ_ _ _ _ h _ _=>h) (λ_ _ _ _ h=>h.elim) (λ_ _ h=>h.2)
def Vp.dig(L N:Nat):Vp:=.of (λw v=>IsR w (.agg #[v]) L N) (λ_ _=>False) (λ_ _ _ _ h k _=>h.chg k) (λ_ _ _ _ h=>h.elim) (λw v h=>by
 obtain⟨a,c,e,_⟩:=h;have e2:v= .slice a L c:=by
  injection e with e;have:=congrArg (λx:Array Value=>x[0]?) e;simpa using this
 subst e2;exact⟨λ_ h=>by(cases h),λ_ h=>by(cases h),λ_ h=>by(cases h)⟩)
theorem Chg.below(h:mBw w w'):Chg w w' (λ_=>False):=⟨h.size,λg C _=>h.block g C,λ_ h=>h.elim⟩
theorem Chg.upd(o:bw w g)(u:Upd w g w'):Chg w w' (λx=>x=g):=⟨by rw[u.size];exact AE _,λk _ C=>u.block k C,λk C=>by subst C;exact o⟩
abbrev Rho:=List Vp
abbrev mDg(n:Nat):Vp:=.dig (nl n) n
def mFs:List Fq->List Vp
 | []=>[]
 | x::xs=>.val (.bool x.s)::.dig (nl x.p) x.p::.dig (nl x.q) x.q::mFs xs
inductive Leaf where
 | b (x:Bool)
 | i (k:IntKind) (n:Int)
 | ptr (v off:Nat)
 | nilp
 | ref (n:Nat)
 | fn (f:BL)
 | sl0
 | s (x:ByteArray)
 | own (i n:Nat)
 deriving DecidableEq
inductive SV where
 | one (l:Leaf)
 | agg (ls:List Leaf)
 deriving DecidableEq
inductive AV where
 | v (s:SV)
 | tup (xs:List SV)
 | any
 deriving DecidableEq
structure Blk where
 v:Nat->Option Nat
 o:Nat->Nat->Prop
def noB:Blk:=⟨λ_=>none,λ_ _=>False⟩
def Blk.has(B:Blk)(g:Nat):Prop:=(∃x,B.v x=some g)\/∃k,B.o k g
theorem tf:¬noB.has g:=by rintro(⟨x,h⟩ | ⟨k,h⟩);(cases h);exact h
abbrev OW:Nat:=1000000
def Leaf.holds(ρ:Rho)(B:Blk)(w:World)(l:Leaf)(v:Value):Prop:=
 match l with
 | .b x=>v= .bool x
 | .i k n=>v= .int k n
 | .ptr x o=>∃g,B.v x=some g/\v= .pointer (some ⟨g,o,none⟩)
 | .nilp=>v= .pointer none
 | .ref n=>∃s,ρ[n]? =some s/\s.p w v/\∀g,s.fp w v g->¬B.has g
 | .fn f=>v=fnV f
 | .sl0=>v= .slice none 0 0
 | .s x=>v= .string x
 | .own k m=>∃s,ρ[m]? =some s/\s.p w v/\(∀g,s.fp w v g->B.o k g)/\∀g,v.ownBlock=some g->B.o k g
def aD(ρ:Rho)(B:Blk)(w:World):List Leaf->List Value->Prop
 | [],[]=>True
 | l::ls,v::vs=>l.holds ρ B w v/\aD ρ B w ls vs
 | _,_=>False
def SV.holds(ρ:Rho)(B:Blk)(w:World)(s:SV)(v:Value):Prop:=
 match s with
 | .one l=>l.holds ρ B w v
 | .agg ls=>∃vs:List Value,v= .agg vs.toArray/\aD ρ B w ls vs
def cO(ρ:Rho)(B:Blk)(w:World):List SV->List Value->Prop
 | [],[]=>True
 | l::ls,v::vs=>l.holds ρ B w v/\cO ρ B w ls vs
 | _,_=>False
def AV.holds(ρ:Rho)(B:Blk)(w:World)(s:AV)(v:Value):Prop:=
 match s with
 | .v s=>s.holds ρ B w v
 | .tup xs=>∃vs:List Value,v= .tuple vs.toArray/\cO ρ B w xs vs
 | .any=>v=undef
section
variable {ρ:Rho} {B B':Blk} {w w':World} {g:Nat} {v:Value}
structure BLe(B B':Blk):Prop where
 v:∀x g,B.v x=some g->B'.v x=some g
 o:∀k g,B.o k g->B'.o k g
def xP(n:Nat)(B B':Blk):Prop:=∀g,B'.has g->B.has g\/n<=g
def BOk(B:Blk)(n:Nat):Prop:=∀g,B.has g->g<n
theorem BLe.refl:BLe B B:=⟨λ_ _ h=>h,λ_ _ h=>h⟩
theorem xP.refl:xP n B B:=λ_ h=>.inl h
structure BInj(B:Blk):Prop where
 v:∀x y g,B.v x=some g->B.v y=some g->x=y
 o:∀k l g,B.o k g->B.o l g->k=l
 vo:∀x k g,B.v x=some g->¬B.o k g
variable{l:Leaf}
theorem Leaf.holds.mono(h:l.holds ρ B w v)(H:BLe B B')(J:xP w.heap.size B B')(hb:mBw w w'):l.holds ρ B' w' v:=by
 cases l<;>simp only[Leaf.holds]at h⊢ <;>try exact h
 ·obtain⟨g,h1,h2⟩:=h;exact⟨g,H.v _ _ h1,h2⟩
 ·obtain⟨s,h1,h2,h3⟩:=h;obtain⟨G,F⟩:=s.ch _ _ _ _ h2 (.below hb) (λ_ _ h=>h);refine⟨s,h1,G,λg C K=> ?_⟩;rcases J g K with h | h
  ·exact h3 g (F g C) h
  ·have:=s.lt _ _ _ h2 (F g C);omega
 ·obtain⟨s,h1,h2,h3,I⟩:=h;obtain⟨G,F⟩:=s.ch _ _ _ _ h2 (.below hb) (λ_ _ h=>h);exact⟨s,h1,G,λg C=>H.o _ _ (h3 g (F g C)),λg C=>H.o _ _ (I g C)⟩
theorem Leaf.holds.upd(h:l.holds ρ B w v)(o:bw w g)(u:Upd w g w')(C:∃x,B.v x=some g)(hi:BInj B):l.holds ρ B w' v:=by
 obtain⟨x,C⟩:=C;cases l<;>simp only[Leaf.holds]at h⊢ <;>try exact h
 ·obtain⟨s,h1,h2,h3⟩:=h;obtain⟨F,G⟩:=s.ch _ _ _ _ h2 (.upd o u) (λk I e=>by subst e;exact h3 _ I (.inl ⟨x,C⟩));exact⟨s,h1,F,λg H=>h3 g (G g H)⟩
 ·obtain⟨s,h1,h2,h3,J⟩:=h;obtain⟨F,G⟩:=s.ch _ _ _ _ h2 (.upd o u) (λk I e=>by subst e;exact hi.vo _ _ _ C (h3 _ I));exact⟨s,h1,F,λg H=>h3 g (G g H),J⟩
theorem aD.all:∀ {ls:List Leaf} {vs:List Value},aD ρ B w ls vs->(∀(l:Leaf)(v:Value),Leaf.holds ρ B w l v->Leaf.holds ρ B' w' l v)->aD ρ B' w' ls vs
 | [],[],_,_=>trivial
 | _::_,_::_,h,f=>⟨f _ _ h.1,aD.all h.2 f⟩
 | [],_::_,h,_=>h.elim
 | _::_,[],h,_=>h.elim
theorem SV.holds.all{s:SV}(h:s.holds ρ B w v)(f:∀(l:Leaf)(v:Value),Leaf.holds ρ B w l v->Leaf.holds ρ B' w' l v):s.holds ρ B' w' v:=by
 cases s with
 | one l=>exact f _ _ h
 | agg ls=>obtain⟨vs,e,h⟩:=h;exact⟨vs,e,aD.all h f⟩
theorem cO.all:∀ {ls:List SV} {vs:List Value},cO ρ B w ls vs->(∀(l:Leaf)(v:Value),Leaf.holds ρ B w l v->Leaf.holds ρ B' w' l v)->cO ρ B' w' ls vs
 | [],[],_,_=>trivial
 | _::_,_::_,h,f=>⟨h.1.all f,cO.all h.2 f⟩
 | [],_::_,h,_=>h.elim
 | _::_,[],h,_=>h.elim
theorem AV.holds.all{s:AV}(h:s.holds ρ B w v)(f:∀(l:Leaf)(v:Value),Leaf.holds ρ B w l v->Leaf.holds ρ B' w' l v):s.holds ρ B' w' v:=by
 cases s with
 | v s=>exact SV.holds.all h f
 | tup ls=>obtain⟨vs,e,h⟩:=h;exact⟨vs,e,h.all f⟩
 | any=>exact h
theorem AV.holds.mono{s:AV}(h:s.holds ρ B w v)(C:BLe B B')(F:xP w.heap.size B B')(hb:mBw w w'):s.holds ρ B' w' v:=h.all (λ_ _ h=>h.mono C F hb)
theorem AV.holds.upd{s:AV}(h:s.holds ρ B w v)(o:bw w g)(u:Upd w g w')(C:∃x,B.v x=some g)(hi:BInj B):s.holds ρ B w' v:=h.all (λ_ _ h=>h.upd o u C hi)
theorem aD.len:∀ {ls:List Leaf} {vs:List Value},aD ρ B w ls vs->vs.length=ls.length
 | [],[],_=>rfl
 | _::_,_::_,h=>by simp[h.2.len]
 | [],_::_,h=>h.elim
 | _::_,[],h=>h.elim
theorem Ao{p:Prop}(h:p:=by simp at h):p:=h
theorem aD.get:∀ {ls:List Leaf} {vs:List Value} {k:Nat} {l:Leaf},aD ρ B w ls vs->ls[k]? =some l->∃v,vs[k]? =some v/\l.holds ρ B w v
 | [],[],_,_,_,h=>Ao
 | _::_,v::_,0,_,h,e=>by simp at e;subst e;exact⟨v,rfl,h.1⟩
 | _::ls,_::vs,k+1,l,h,e=>by
  obtain⟨u,h1,h2⟩:=aD.get (k:=k) (l:=l) h.2 Av;exact⟨u,by simpa using h1,h2⟩
 | [],_::_,_,_,h,_=>h.elim
 | _::_,[],_,_,h,_=>h.elim
theorem aD.mk:∀ {ls:List Leaf} {vs:List Value},vs.length=ls.length->(∀(k:Nat)(l:Leaf)(v:Value),ls[k]? =some l->vs[k]? =some v->l.holds ρ B w v)->aD ρ B w ls vs
 | [],[],_,_=>trivial
 | l::ls,v::vs,e,h=>⟨h 0 l v rfl rfl,aD.mk Av (λk l v h1 h2=>h (k+1) l v (by simpa using h1) (by simpa using h2))⟩
 | [],_::_,e,_=>by simp at e
 | _::_,[],e,_=>by simp at e
theorem cO.get:∀ {ls:List SV} {vs:List Value} {k:Nat} {l:SV},cO ρ B w ls vs->ls[k]? =some l->∃v,vs[k]? =some v/\l.holds ρ B w v
 | [],[],_,_,_,h=>Ao
 | _::_,v::_,0,_,h,e=>by simp at e;subst e;exact⟨v,rfl,h.1⟩
 | _::ls,_::vs,k+1,l,h,e=>by
  obtain⟨u,h1,h2⟩:=cO.get (k:=k) (l:=l) h.2 Av;exact⟨u,by simpa using h1,h2⟩
 | [],_::_,_,_,h,_=>h.elim
 | _::_,[],_,_,h,_=>h.elim
def Leaf.flat:Leaf->Bool
 | .i .u32 _=>false
 | _=>true
theorem Leaf.holds.flat(h:l.holds ρ B w v)(hf:l.flat=true):fB v:=by
 cases l<;>simp only[Leaf.holds]at h
 ·subst h;exact⟨λ_ h=>by(cases h),λ_ h=>by(cases h),λ_ h=>by(cases h)⟩
 ·subst h;rename_i k n;exact⟨λ_ h=>by(cases h),λ_ h=>by(cases h),λm h=>by
   injection h with h1 h2;subst h1;simp[Leaf.flat]at hf⟩
 ·obtain⟨g,_,h⟩:=h;subst h;exact⟨λ_ h=>by(cases h),λ_ h=>by(cases h),λ_ h=>by(cases h)⟩
 ·subst h;exact⟨λ_ h=>by(cases h),λ_ h=>by(cases h),λ_ h=>by(cases h)⟩
 ·obtain⟨s,_,h,_⟩:=h;exact s.fl _ _ h
 ·subst h;exact⟨λ_ h=>by(cases h),λ_ h=>by(cases h),λ_ h=>by(cases h)⟩
 ·subst h;exact⟨λ_ h=>by(cases h),λ_ h=>by(cases h),λ_ h=>by(cases h)⟩
 ·subst h;exact⟨λ_ h=>by(cases h),λ_ h=>by(cases h),λ_ h=>by(cases h)⟩
 ·obtain⟨s,_,h,_⟩:=h;exact s.fl _ _ h
end
def rB:Value->Option Leaf
 | .bool x=>some (.b x)
 | .int k n=>some (.i k n)
 | .pointer none=>some .nilp
 | .slice none 0 0=>some .sl0
 | .string s=>some (.s s)
 | _=>none
variable{ρ:Rho}{B:Blk}
theorem oE{l:Leaf}(h:rB v=some l):l.holds ρ B w v:=by
 unfold rB at h;split at h<;>first | (injection h with h;subst h;rfl) | cases h
def gM:List Value->Option (List Leaf)
 | []=>some []
 | v::vs=>match rB v,gM vs with
  | some l,some ls=>some (l::ls)
  | _,_=>none
theorem gZ:∀ {vs:List Value} {ls:List Leaf},gM vs=some ls->aD ρ B w ls vs
 | [],ls,h=>by simp[gM]at h;subst h;trivial
 | v::vs,ls,h=>by
  unfold gM at h
  cases h1:rB v with
  | none=>rw[h1]at h;simp at h
  | some l=>
   cases h2:gM vs with
   | none=>rw[h1,h2]at h;simp at h
   | some l2=>rw[h1,h2]at h;simp at h;subst h;exact⟨oE h1,gZ h2⟩
def svC:Value->Option SV
 | .agg cs=>(gM cs.toList).map .agg
 | v=>(rB v).map .one
variable{s:SV}
theorem svC_holds(h:svC v=some s):s.holds ρ B w v:=by
 unfold svC at h;split at h
 ·rename_i cs
  cases h1:gM cs.toList with
  | none=>rw[h1]at h;cases h
  | some l=>rw[h1]at h;simp at h;subst h;exact⟨cs.toList,Ad,gZ h1⟩
 ·cases h1:rB v with
  | none=>rw[h1]at h;cases h
  | some l=>rw[h1]at h;simp at h;subst h;exact oE h1
def bN(ρ:Rho)(B:Blk)(a:Act)(w:World)(x:Nat)(c:AV):Prop:=
 if x<100000 then∃u,a.tmps[x]? =some u/\c.holds ρ B w u
 else∃g cs ty u,B.v (x / 100000 - 1)=some g/\w.heap[g]? =some (.cells cs ty (0,0))/\cs[x % 100000]? =some u/\c.holds ρ B w u
structure Eff where
 rd:List Nat
 wr:List (Nat×AV)
 al:Option Nat
 ks:List Nat
 ms:List Nat
def Leaf.objs:Leaf->List Nat
 | .own k _=>[k]
 | _=>[]
def SV.objs:SV->List Nat
 | .one l=>l.objs
 | .agg ls=>ls.flatMap Leaf.objs
def AV.objs:AV->List Nat
 | .v s=>s.objs
 | .tup xs=>xs.flatMap SV.objs
 | .any=>[]
def AV.hit(ks:List Nat)(c:AV):Bool:=c.objs.any ks.contains
def fil(ks:List Nat):Option AV->Option AV
 | some c=>if c.hit ks then none else some c
 | none=>none
variable{ks:List Nat}{c:AV}
theorem fh{o:Option AV}(h:fil ks o=some c):o=some c/\c.hit ks=false:=by
 cases o with
 | none=>cases h
 | some d=>
  simp only[fil]at h;split at h
  ·cases h
  ·rename_i hn;injection h with h;subst h;exact⟨rfl,by simpa using hn⟩
theorem jE{o:Option AV}(h:o=some c)(hn:c.hit ks=false):fil ks o=some c:=by subst h;simp[fil,hn]
structure Ent where
 w:World
 X:Nat->Prop
 pin:List Nat
def Ent.may(e:Ent)(g:Nat):Prop:=e.w.heap.size<=g\/e.X g
structure Ent.kept(e:Ent)(w:World):Prop where
 os:w.os=e.w.os
 tape:w.tape=e.w.tape
 output:w.output=e.w.output
 size:e.w.heap.size<=w.heap.size
 block:∀k,k<e.w.heap.size->¬e.X k->w.heap[k]? =e.w.heap[k]?
abbrev Ent.of(w:World):Ent:=⟨w,λ_=>False,[]⟩
theorem Ent.kept.refl{e:Ent}:e.kept e.w:=⟨rfl,rfl,rfl,AE _,λ_ _ _=>rfl⟩
theorem Ent.kept.to{w0:World}(h:(Ent.of w0).kept w):mBw w0 w:=⟨h.os,h.tape,h.output,h.size,λk C=>h.block k C (λh=>h)⟩
theorem Ent.kept.below{e:Ent}(h:e.kept w)(hb:mBw w w'):e.kept w':=
 ⟨hb.os.trans h.os,hb.tape.trans h.tape,hb.output.trans h.output,AD h.size hb.size,λk C F=>(hb.block k (Bt C h.size)).trans (h.block k C F)⟩
theorem Ent.kept.upd{e:Ent}(h:e.kept w)(u:Upd w g w')(F:e.may g):e.kept w':=
 ⟨u.os.trans h.os,u.tape.trans h.tape,u.output.trans h.output,by rw[u.size];exact h.size,λk G C=>(u.block k (λe=>by subst e;rcases F with h | h;(omega);exact C h)).trans (h.block k G C)⟩
theorem Ent.may.ge{e:Ent}(h:e.kept w)(C:w.heap.size<=g):e.may g:=.inl (AD h.size C)
structure Inv(vt:List (TypeId×Nat))(w0:Ent)(nt:Nat)(B:Blk)(a:Act)(w:World):Prop where
 blk:∀v g,B.v v=some g->w0.may g/\∃cs ty,vt[v]? =some (ty,cs.size)/\w.heap[g]? =some (.cells cs ty (0,0))/\(∀(k:Nat)(n:Int),cs[k]? ≠some (.int .u32 n))
 own:∀k g,B.o k g->w0.may g/\bw w g
 inj:BInj B
 below:w0.kept w
 size:a.tmps.size=nt
 dfr:a.defers=[]
 pin:∀x g,w0.pin[x]? =some g->B.v x=some g
structure Post(ρ:Rho)(vt:List (TypeId×Nat))(w0:Ent)(nt:Nat)(e:Eff)(B:Blk)(a:Act)(w:World)(B':Blk)(a':Act)(w':World):Prop where
 le:BLe B B'
 inv:Inv vt w0 nt B' a' w'
 wr:∀p∈e.wr,bN ρ B' a' w' p.1 p.2
 keep:∀x c,bN ρ B a w x c->(∀p∈e.wr,p.1≠x)->c.hit e.ks=false->bN ρ B' a' w' x c
 new:∀v,B.v v=none->B'.v v≠none->e.al=some v
def OpOk(P:AW)(ρ:Rho)(vt:List (TypeId×Nat))(w0:Ent)(nt:Nat)(ops:Array Oper)(Q:A4->Act->World->Prop)(j:Nat)(lk:Nat->Option AV)(e:Eff):Prop:=
 ∀B a w,Inv vt w0 nt B a w->(∀x∈e.rd,∀c,lk x=some c->bN ρ B a w x c)->(∀v,e.al=some v->B.v v=none)->
  ∀K:Act->World->Prop,(∀B' a' w',Post ρ vt w0 nt e B a w B' a' w'->K a' w')->wpOp P ops Q j K a w
abbrev eo:=List (Nat×Eff)
def lkE(b:Nat->Option AV):eo->Nat->Option AV
 | [],x=>b x
 | (_,e)::r,x=>match e.wr.find? (λp=>p.1==x)with
  | some p=>some p.2
  | none=>fil e.ks (lkE b r x)
def dQ(b:Nat->Option AV)(T:List Nat):eo->Nat->Option AV
 | [],x=>b x
 | (i,e)::r,x=>if T.contains i then(match e.wr.find? (λp=>p.1==x)with
  | some p=>some p.2
  | none=>fil e.ks (dQ b T r x))else dQ b T r x
def nF(e e':Eff):Bool:=
 e'.wr.all (λp=> !e.rd.contains p.1 && !e.wr.any (λq=>q.1==p.1)) && (e'.rd.all (λx=> !e.wr.any (λq=>q.1==x)) && (e'.ks.all (λk=> !e.ks.contains k && !e.ms.contains k) && e.ks.all (λk=> !e'.ms.contains k)))
structure Eff.Wf(e:Eff)(lk:Nat->Option AV):Prop where
 rd:∀x∈e.rd,∀c,lk x=some c->∀k∈c.objs,k∈e.ms
 wr:∀p∈e.wr,∀k∈p.2.objs,k∈e.ms
def aal(m:Nat)(r:eo)(e:Eff):Bool:=r.all λp=>m.testBit p.1 || nF e p.2
section
variable {P:AW} {ρ:Rho} {vt:List (TypeId×Nat)} {w0:Ent} {nt:Nat} {ops:Array Oper} {Q:A4->Act->World->Prop} {b:Nat->Option AV} {md:Region.Mode}
def xQ(md:Region.Mode)(ops:Array Oper)(T:List Nat):Prop:=∀j∈T,∀k∈ce md ops j,k∈T
def aam(md:Region.Mode)(ops:Array Oper)(m j:Nat):Prop:=∀i,m.testBit i=true->∀T,xQ md ops T->(∀k∈ce md ops j,k∈T)->i∈T
def pp(P:AW)(ρ:Rho)(vt:List (TypeId×Nat))(w0:Ent)(nt:Nat)(md:Region.Mode)(ops:Array Oper)(Q:A4->Act->World->Prop)(b:Nat->Option AV)(nb:Nat):eo->Prop
 | []=>True
 | (j,e)::r=>j=r.length/\OpOk P ρ vt w0 nt ops Q j (lkE b r) e/\(∃m,aam md ops m j/\aal m r e=true)/\e.Wf (lkE b r)/\(∀v,e.al=some v->(nb<=v/\v<OW)/\∀p∈r,p.2.al≠some v)/\pp P ρ vt w0 nt md ops Q b nb r
theorem pq(T:List Nat)(x y:eo):dQ b T (x++y)=dQ (dQ b T y) T x:=by
 induction x with
 | nil=>rfl
 | cons p x ih=>
  funext z
  obtain⟨i,e⟩:=p;simp only[List.cons_append,dQ,ih]
theorem valT_all(T:List Nat)(r:eo)(h:∀p∈r,p.1∈T):dQ b T r=lkE b r:=by
 induction r with
 | nil=>rfl
 | cons p x ih=>
  funext z
  obtain⟨i,e⟩:=p;have h1:T.contains i=true:=CN.2 (h (i,e) Ad);simp only[dQ,lkE,h1,if_true,ih (λp hp=>h p (Bf _ hp))]
variable{l:List (Nat×AV)}
theorem rC{x:Nat}(h:∀p∈l,p.1≠x):l.find? (λp=>p.1==x)=none:=by
 rw[CW];intro p hp;simpa using h p hp
theorem rD{x:Nat}{p:Nat×AV}(h:l.find? (λp=>p.1==x)=some p):p∈l/\p.1=x:=
 ⟨Dg h,by simpa using DT h⟩
theorem aan{x:Nat}(h:l.find? (λp=>p.1==x)=none):∀p∈l,p.1≠x:=λp hp e=>by
 have:=CW.1 h p hp;simp[e]at this
variable{T:List Nat}
theorem tg{x:Nat}:∀ {hi:eo} {f:Nat->Option AV},dQ f T hi x=some c->
  (∃p∈hi,p.1∈T/\(∃q∈p.2.wr,q.1=x/\q.2=c)/\∀F:Nat->Option AV,dQ F T hi x=some c)\/
  (f x=some c/\(∀p∈hi,p.1∈T->∀q∈p.2.wr,q.1≠x)/\∀F:Nat->Option AV,F x=some c->dQ F T hi x=some c)
 | [],f,h=>.inr ⟨h,λp hp=>by(cases hp),λF h=>h⟩
 | (i,e)::hi,f,h=>by
  simp only[dQ]at h;by_cases hT:T.contains i=true
  ·rw[if_pos hT]at h;split at h
   ·rename_i p hp;injection h with h;obtain⟨h1,h2⟩:=rD hp;refine .inl ⟨(i,e),Ad,CN.1 hT,⟨p,h1,h2,h⟩,λF=> ?_⟩;simp only[dQ,if_pos hT,hp,h]
   ·rename_i hp;obtain⟨h1,h2⟩:=fh h;rcases tg h1 with⟨p,H,k2,k3,I⟩ | ⟨H,k2,k3⟩
    ·refine .inl ⟨p,Bf _ H,k2,k3,λF=> ?_⟩;simp only[dQ,if_pos hT,hp];exact jE (I F) h2
    ·refine .inr ⟨H,λp C G=> ?_,λF hf=> ?_⟩
     ·rcases AS.1 C with rfl | C
      ·exact aan hp
      ·exact k2 p C G
     ·simp only[dQ,if_pos hT,hp];exact jE (k3 F hf) h2
  ·rw[if_neg hT]at h;rcases tg h with⟨p,H,k2,k3,I⟩ | ⟨H,k2,k3⟩
   ·exact .inl ⟨p,Bf _ H,k2,k3,λF=>by simp only[dQ,if_neg hT];exact I F⟩
   ·refine .inr ⟨H,λp C G=> ?_,λF hf=>by simp only[dQ,if_neg hT];exact k3 F hf⟩;rcases AS.1 C with rfl | C
    ·exact absurd (CN.2 G) hT
    ·exact k2 p C G
theorem rE{x:Nat}{f:Nat->Option AV}(hf:f x=some c):∀ {hi:eo},(∀p∈hi,p.1∈T->(∀q∈p.2.wr,q.1≠x)/\c.hit p.2.ks=false)->dQ f T hi x=some c
 | [],_=>hf
 | (i,e)::hi,h=>by
  have C:=rE hf (hi:=hi) (λp hp=>h p (Bf _ hp));simp only[dQ];by_cases hT:T.contains i=true
  ·obtain⟨h1,h2⟩:=h (i,e) Ad (CN.1 hT);rw[if_pos hT,rC h1];exact jE C h2
  ·rw[if_neg hT];exact C
theorem rF(h:∀k∈c.objs,k∉ks):c.hit ks=false:=by
 unfold AV.hit;rw[List.any_eq_false];intro k C;simpa using h k C
structure NC(e e':Eff):Prop where
 wr:∀p∈e'.wr,p.1∉e.rd/\∀q∈e.wr,q.1≠p.1
 rd:∀x∈e'.rd,∀q∈e.wr,q.1≠x
 ks:∀k∈e'.ks,k∉e.ks/\k∉e.ms
 ms:∀k∈e.ks,k∉e'.ms
theorem pt{e e':Eff}(h:nF e e'=true):NC e e':=by
 unfold nF at h;simp only[BN,Ca,Bool.not_eq_true',List.any_eq_false,beq_iff_eq,List.contains_eq_mem,decide_eq_false_iff_not]at h;exact⟨h.1,h.2.1,h.2.2.1,h.2.2.2⟩
variable{nb j:Nat}
theorem pp.split{r:eo}(h:pp P ρ vt w0 nt md ops Q b nb r)(J:j<r.length):∃hi e lo,r=hi++(j,e)::lo/\lo.length=j/\pp P ρ vt w0 nt md ops Q b nb ((j,e)::lo)/\
  (∀p∈hi,j<p.1/\(∃m,aam md ops m p.1/\(m.testBit j=true\/nF p.2 e=true))/\(∀v,p.2.al=some v->e.al≠some v)/\∀q∈p.2.wr,∀k∈q.2.objs,k∈p.2.ms):=by
 induction r with
 | nil=>simp at J
 | cons p r ih=>
  obtain⟨i,e⟩:=p;obtain⟨h1,h2,h3,K,H,I⟩:=h;by_cases hji:j=i
  ·subst hji;exact⟨[],e,r,rfl,h1.symm,⟨h1,h2,h3,K,H,I⟩,λp hp=>by cases hp⟩
  ·have G:j<r.length:=by simp at J;omega
   obtain⟨hi,e',lo,rfl,U,V,C⟩:=ih I G;refine⟨(i,e)::hi,e',lo,rfl,U,V,λp hp=> ?_⟩;rcases AS.1 hp with rfl | hp
   ·obtain⟨m,Y,F⟩:=h3;refine⟨by simp only;omega,⟨m,Y,?_⟩,λv Z=>(H v Z).2 (j,e') Ad,K.wr⟩;unfold aal at F;have:=Ca.1 F (j,e') Ad;simpa using this
   ·exact C p hp
theorem pp.idx{r:eo}(h:pp P ρ vt w0 nt md ops Q b nb r):∀p∈r,p.1<r.length:=by
 induction r with
 | nil=>intro p hp;cases hp
 | cons p r ih=>
  obtain⟨i,e⟩:=p;obtain⟨h1,h2,h3,H,G,F⟩:=h;intro q C;rcases AS.1 C with rfl | C
  ·simp only[Bg];omega
  ·have:=ih F q C;simp only[Bg];omega
theorem val_lo{e:Eff}{x:Nat}{c:AV}(F:x∈e.rd):∀ {lo:eo},(∀p∈lo,p.1∈T\/nF e p.2=true)->lkE b lo x=some c->dQ b T lo x=some c
 | [],_,h=>h
 | (i,e')::lo,h,hc=>by
  simp only[dQ,lkE]at hc⊢;have C:=val_lo (c:=c) F (lo:=lo) (λp hp=>h p (Bf _ hp));by_cases hiT:T.contains i=true
  ·rw[if_pos hiT];split at hc
   ·exact hc
   ·obtain⟨h1,h2⟩:=fh hc;exact jE (C h1) h2
  ·rw[if_neg hiT];rcases h (i,e') Ad with h | h
   ·exact absurd (CN.2 h) hiT
   ·rw[rC (λq H G=>((pt h).wr q H).1 (by rw[G];exact F))]at hc;exact C (fh hc).1
theorem nG:∀ {r:eo} {b:Nat->Option AV},(∀p∈r,p.1≠j)->dQ b (T++ [j]) r=dQ b T r
 | [],_,_=>rfl
 | (i,e')::r,b,h=>by
  funext z
  have hc:(T++ [j]).contains i=T.contains i:=by
   have:=h (i,e') Ad;simp only at this;rw[Fw];simp[this]
  simp only[dQ,hc,nG (r:=r) (b:=b) (λp hp=>h p (Bf _ hp))]
def StT(ρ:Rho)(vt:List (TypeId×Nat))(w0:Ent)(nt:Nat)(b:Nat->Option AV)(nb:Nat)(r:eo)(T:List Nat)(a:Act)(w:World):Prop:=
 ∃B,Inv vt w0 nt B a w/\(∀x c,dQ b T r x=some c->bN ρ B a w x c)/\(∀v,B.v v≠none->v<nb\/∃p∈r,p.1∈T/\p.2.al=some v)
theorem uO{r:eo}(hg:pp P ρ vt w0 nt md ops Q b nb r)(hj:j<r.length)(hT:xQ md ops T)(Z:j∉T)(hp:∀k∈ce md ops j,k∈T)
  {a:Act}(h:StT ρ vt w0 nt b nb r T a w){K:Act->World->Prop}(hK:∀a' w',StT ρ vt w0 nt b nb r (T++ [j]) a' w'->K a' w'):wpOp P ops Q j K a w:=by
 obtain⟨hi,e,lo,rfl,a1,⟨_,ax,⟨m,hm,an⟩,a0,ap,aq⟩,J⟩:=hg.split hj;obtain⟨B,ad,Y,hB⟩:=h;have V:∀p∈hi,p.1∈T->NC p.2 e:=λp F I=>by
  obtain⟨_,⟨m',av,H⟩,_⟩:=J p F;rcases H with H | H
  ·exact absurd (av j H T hT (λk hk=>hT _ I k hk)) Z
  ·exact pt H
 have ak:∀p∈lo,p.1∈T\/nF e p.2=true:=λp F=>by
  unfold aal at an;have:=Ca.1 an p F;simp only[Ds]at this;rcases this with h | h
  ·exact .inl (hm _ h T hT hp)
  ·exact .inr h
 have aa:T.contains j=false:=by simpa using Z
 refine ax B a w ad (λx hx c hc=> ?_) (λv hv=> ?_) K (λB' a' w' C=>hK a' w' ⟨B',C.inv,λx c hc=> ?_,λv hv=> ?_⟩)
 ·refine Y x c ?_;rw[pq];refine rE ?_ (λp F I=> ?_)
  ·simp only[dQ,aa,D8,if_false];exact val_lo hx ak hc
  ·have h1:=V p F I;exact⟨λq hq=>h1.rd x hx q hq,rF (λk hk au=>h1.ms k au (a0.rd x hx c hc k hk))⟩
 ·have h0:=ap v hv
  cases hBv:B.v v with
  | none=>rfl
  | some g=>
   rcases hB v (by rw[hBv];simp)with h | ⟨p,F,I,ao⟩
   ·omega
   ·rcases AG.1 F with h | h
    ·exact absurd hv ((J p h).2.2.1 v ao)
    ·rcases AS.1 h with rfl | h
     ·exact absurd I Z
     ·exact absurd ao (h0.2 p h)
 ·
  have ab:(T++ [j]).contains j=true:=Ad
  have ac:∀p∈hi,p.1≠j:=λp hp=>by have:=(J p hp).1;omega
  have am:∀p∈lo,p.1≠j:=λp hp=>by have:=aq.idx p hp;omega
  rw[pq,nG ac]at hc;have G:=Y x c;rw[pq]at G;rcases tg hc with⟨p,U,k2,⟨q,k3,k4,k5⟩,k6⟩ | ⟨U,k2,k3⟩
  ·have h1:=V p U k2;subst k4;subst k5;refine C.keep _ _ (G (k6 _)) (λp' ay=>λe'=>(h1.wr p' ay).2 q k3 e'.symm) (rF (λk hk ar=>(h1.ks k ar).2 ((J p U).2.2.2 q k3 k hk)))
  ·simp only[dQ,ab,if_true]at U;split at U
   ·rename_i p hp;injection U with U;subst U;obtain⟨h1,h2⟩:=rD hp;subst h2;exact C.wr p h1
   ·rename_i hp;obtain⟨h1,h2⟩:=fh U;rw[nG am]at h1;refine C.keep x c (G (k3 _ ?_)) (aan hp) h2;simp only[dQ,aa,D8,if_false];exact h1
 ·cases hBv:B.v v with
  | some g=>
   rcases hB v (by rw[hBv];simp)with h | ⟨p,h1,h2,h3⟩
   ·exact .inl h
   ·exact .inr ⟨p,h1,AG.2 (.inl h2),h3⟩
  | none=>exact .inr ⟨(j,e),Ad,Ad,C.new v hBv hv⟩
end
section
variable {P:AW} {ρ:Rho} {vt:List (TypeId×Nat)} {w0:Ent} {nt:Nat} {ops:Array Oper} {Q:A4->Act->World->Prop} {b:Nat->Option AV} {md:Region.Mode}
def StF(ρ:Rho)(vt:List (TypeId×Nat))(w0:Ent)(nt:Nat)(lk:Nat->Option AV)(nb:Nat)(r:eo)(a:Act)(w:World):Prop:=
 ∃B,Inv vt w0 nt B a w/\(∀x c,lk x=some c->bN ρ B a w x c)/\(∀v,B.v v≠none->v<nb\/∃p∈r,p.2.al=some v)
variable{nb:Nat}{a:Act}
theorem StT.done{r:eo}{T:List Nat}(h:StT ρ vt w0 nt b nb r T a w)(C:∀p∈r,p.1∈T):StF ρ vt w0 nt (lkE b r) nb r a w:=by
 obtain⟨B,h1,h2,h3⟩:=h;rw[valT_all T r C]at h2;exact⟨B,h1,h2,λv F=>(h3 v F).imp id (λ⟨p,h,_,e⟩=>⟨p,h,e⟩)⟩
theorem valT_nil(r:eo):dQ b [] r=b:=by
 induction r with
 | nil=>rfl
 | cons p r ih=>funext x;obtain⟨i,e⟩:=p;simp[dQ,ih]
theorem StT.start{r:eo}(h1:Inv vt w0 nt B a w)(h2:∀x c,b x=some c->bN ρ B a w x c)(h3:∀v,B.v v≠none->v<nb):StT ρ vt w0 nt b nb r [] a w:=
 ⟨B,h1,by rw[valT_nil];exact h2,λv C=>.inl (h3 v C)⟩
theorem any_sound{r:eo}(hg:pp P ρ vt w0 nt md ops Q b nb r)(av:r.length=ops.size)(G:∀j,j<ops.size->∀k∈ce md ops j,k<j) 
  (h:StT ρ vt w0 nt b nb r [] a w)(hQ:∀a' w',StF ρ vt w0 nt (lkE b r) nb r a' w'->Q .normal a' w'):wpAny P md ops Q ops.size (Cu ops.size false) a w:=by
 have ad:∀(z:Nat)(T:List Nat)(a':Act)(w':World),T.Nodup->(∀i∈T,i<ops.size)->T.length+z=ops.size->xQ md ops T->StT ρ vt w0 nt b nb r T a' w'->
   wpAny P md ops Q z (aW T (Cu ops.size false)) a' w':=by
  intro z
  induction z with
  | zero=>
   intro T a' w' Y hT hl Z hS;have C:∀i,i<ops.size->i∈T:=by
    intro i hi;apply DO;intro aq;have h1:(i::T).length<=(Bj ops.size).length:=sS (List.nodup_cons.2 ⟨aq,Y⟩) (λk F=>by
     rcases AS.1 F with rfl | F
     ·exact C4.2 hi
     ·exact C4.2 (hT k F))
    simp at h1;omega
   refine⟨?_,hQ _ _ (hS.done (λp hp=>C _ (by have:=hg.idx p hp;omega)))⟩;apply List.eq_nil_iff_forall_not_mem.2;intro j hj;obtain⟨H,J,_⟩:=jB hj;rw[bg]at J;simp[C j H,H]at J
  | succ z ih=>
   intro T a' w' Y hT hl Z hS;have V:∀j∈BY md ops (aW T (Cu ops.size false)),j<ops.size/\j∉T/\∀k∈ce md ops j,k∈T:=by
    intro j hj;obtain⟨H,J,U⟩:=jB hj;have K:j∉T:=by
     intro h;rw[bg]at J;simp[h,H]at J
    refine⟨H,K,λk F=> ?_⟩;have h1:=U k F;rw[bg]at h1;apply DO;intro ab;have aa:k<ops.size:=by have:=G j H k F;omega
    simp[ab,aa]at h1
   have an:∃i,i<ops.size/\i∉T:=by
    apply DO;intro ar;have C:∀i∈Bj ops.size,i∈T:=λi hi=>DO λh=>ar ⟨i,C4.1 hi,h⟩
    have:=sS List.nodup_range C;simp at this;omega
   have ac:∃i∈BY md ops (aW T (Cu ops.size false)),True:=by
    have key:∀(m i:Nat),i<=m->i<ops.size->i∉T->∃i∈BY md ops (aW T (Cu ops.size false)),True:=by
     intro m
     induction m with
     | zero=>
      intro i ao hi I;refine⟨i,mi no (by rw[bg];simp[I,hi]) (λk F=> ?_),trivial⟩;have:=G i no k F;omega
     | succ m ihm=>
      intro i ao hi I;by_cases C:∀k∈ce md ops i,k∈T
      ·refine⟨i,mi no (by rw[bg];simp[I,hi]) (λk F=> ?_),trivial⟩;have aa:=hT k (C k F);rw[bg];simp[C k F,aa]
      ·simp only[Classical.not_forall]at C;obtain⟨k,F,ab⟩:=C;have ax:=G i no k F;exact ihm k no no ab
    obtain⟨i,hi,I⟩:=an;exact key i i (AE _) hi I
   refine⟨λh=> ?_,λj hj=> ?_⟩
   ·obtain⟨i,hi,_⟩:=ac;rw[h]at hi;cases hi
   ·obtain⟨ap,K,U⟩:=V j hj;refine uO hg no Z K U hS (λak au am=> ?_);have e:(aW T (Cu ops.size false)).setIfInBounds j true=aW (T++ [j]) (Cu ops.size false):=by unfold aW;rw[List.foldl_append];rfl
    rw[e];refine ih (T++ [j]) ak au ?_ ?_ ?_ ?_ am
    ·exact List.nodup_append.2 ⟨Y,Ad,by intro x hx y hy;simp at hy;subst hy;exact λh=>K (h▸hx)⟩
    ·intro i hi;rcases AG.1 hi with h | h
     ·exact hT i h
     ·simp at h;rw[h];exact ap
    ·simp;omega
    ·intro i hi k F;rcases AG.1 hi with h | h
     ·exact AG.2 (.inl (Z i h k F))
     ·simp at h;subst h;exact AG.2 (.inl (U k F))
 exact ad ops.size [] a w Ad Ad Ad (λj hj=>by cases hj) h
theorem Au{p:Prop}(h:p:=by simpa using h):p:=h
theorem xR{r:eo}(U:pp P ρ vt w0 nt md ops Q b nb r)(V:r.length=ops.size)(C:∀j,j<ops.size->∀k∈ce md ops j,k<j) 
  (h:StT ρ vt w0 nt b nb r [] a w)(Y:∀a' w',StF ρ vt w0 nt (lkE b r) nb r a' w'->Q .normal a' w'):wpOps P ops Q (Bj ops.size) a w:=by
 have G:∀(z j:Nat)(a':Act)(w':World),j+z=ops.size->StT ρ vt w0 nt b nb r (Bj j) a' w'->wpOps P ops Q (List.range' j z) a' w':=by
  intro z
  induction z with
  | zero=>
   intro j a' w' Z I;simp only[List.range'_zero,wpOps];exact Y _ _ (I.done (λp hp=>by have:=U.idx p hp;simp;omega))
  | succ z ih=>
   intro j a' w' Z I;rw[List.range'_succ,wpOps_cons];refine uO (T:=Bj j) U no (λi hi k J=> ?_) Ad (λk J=> ?_) I (λH K F=> ?_)
   ·have h1:=C4.1 hi;have:=C i no k J;exact C4.2 no
   ·exact C4.2 (C j no k J)
   ·rw[<-List.range_succ]at F;exact ih (j+1) H K no F
 have:=G ops.size 0 a w Ad Au;rwa [<-List.range_eq_range']at this
end
structure MutD where
 ks:List Nat
 pre:List (Nat×TypeId×List Leaf)
 us:List (Nat×TypeId×List Leaf)
 nv:Option (Nat×TypeId×List Leaf)
 keep:List (Nat×SV)
 xs:List SV
 deriving DecidableEq
def mutR:List SV->AV
 | [x]=>.v x
 | xs=>.tup xs
inductive Key where
 | mut (f:BL) (d:MutD)
 | bin (op:BinOp) (t:TypeId)
 | un (op:UnOp)
 | conv (s d:TypeId)
 | len (t:TypeId)
 | idx (t:TypeId)
 | ia (t:TypeId)
 | fa (t:TypeId) (f:Nat)
 | ld (t:TypeId)
 | sl (t:TypeId) (lo hi:Bool)
 | bs (t:TypeId) (n:Nat) (ix:List Nat)
 | app (t:TypeId)
 | frz (r i:Nat)
 | max
 | nc
 | lku (t:TypeId)
 deriving DecidableEq
structure OIns where
 key:Key
 xs:List SV
 r:SV
def oK(v k:Nat):Nat:=(v+1)*100000+k
def aggD:TypeDesc->Bool
 | .struct _=>true
 | .array .. =>true
 | _=>false
def uP(p:AW)(t:TypeId):Option Bool:=(p.underlying t).map aggD
def szB(p:AW)(t:TypeId):Option Nat:=(p.info? t).map (·.size)
def evA(lk:Nat->Option AV):AP->Option AV
 | .tmp t=>if t<100000 then lk t else none
 | .const v=>(svC v).map .v
 | .func f=>some (.v (.one (.fn f)))
 | .global _=>none
def evS(lk:Nat->Option AV)(x:AP):Option SV:=match evA lk x with | some (.v s)=>some s | _=>none
def evL(lk:Nat->Option AV)(x:AP):Option Leaf:=match evS lk x with | some (.one l)=>some l | _=>none
def rdO:AP->List Nat
 | .tmp t=>[t]
 | _=>[]
def iX(lk:Nat->Option AV)(v:Nat):Nat->Nat->Option (List Leaf)
 | _,0=>some []
 | k,n+1=>match lk (oK v k)with
  | some (.v (.one l))=>(iX lk v (k+1) n).map (l:: ·)
  | _=>none
def mo(v k n:Nat):List Nat:=(Bj n).map λj=>oK v (k+j)
def SV.leaves:SV->List Leaf
 | .one l=>[l]
 | .agg ls=>ls
def xS{α:Type}(ls:List α)(off:Nat):List α->List α
 | []=>ls
 | v::vs=>xS (ls.set off v) (off+1) vs
def mq(place:Nat->Option (Nat×Nat))(ls:List Leaf):List (Nat×SV)->Option (List Leaf)
 | []=>some ls
 | (i,s)::rest=>match place i with
  | none=>none
  | some (off,size)=>if s.leaves.length=size/\off+s.leaves.length<=ls.length then mq place (xS ls off s.leaves) rest else none
def mr(lk:Nat->Option AV):List (Nat×AP)->Option (List (Nat×SV))
 | []=>some []
 | (i,x)::r=>match evS lk x,mr lk r with
  | some s,some l=>some ((i,s)::l)
  | _,_=>none
def uQ(p:AW)(t:TypeId):Option (List Leaf):=match (p.info? t).bind (·.zero)with | some z=>gM z.cells.toList | none=>none
def tj(p:AW)(fs:Array Field)(i:Nat):Option (Nat×Nat):=match fs[i]? with | some f=>(szB p f.type).map λn=>(f.offset,n) | none=>none
def rG(p:AW)(t:TypeId)(ls:List Leaf)(off:Nat):Option SV:=
 match uP p t with
 | some true=>match szB p t with
  | some n=>if off+n<=ls.length then some (.agg ((ls.drop off).take n))else none
  | none=>none
 | some false=>(ls[off]?).map .one
 | none=>none
def gN(p:AW)(t:TypeId):Bool:=match p.underlying t with | some .bool=>true | _=>false
def xT(bt:Bool)(op:BinOp)(x y:Leaf):Option Leaf:=
 match x,y with
 | .b a,.b c=>if bt then match op with | .eql=>some (.b (a==c)) | .neq=>some (.b (!(a==c))) | _=>none else none
 | .i k a,.i k' c=>if k=k' then match op with
   | .eql=>some (.b (decide (a=c))) | .neq=>some (.b (!decide (a=c))) | .lss=>some (.b (decide (a<c))) | .leq=>some (.b (decide (a<=c))) | .gtr=>some (.b (decide (c<a))) | .geq=>some (.b (decide (c<=a)))
   | .add=>some (.i k (k.wrap (a+c))) | .sub=>some (.i k (k.wrap (a - c))) | .mul=>some (.i k (k.wrap (a*c)))
   | _=>none else none
 | _,_=>none
def cK(L:List OIns)(k:Key)(xs:List SV):Option SV:=match L.find? (λo=>decide (o.key=k) && decide (o.xs=xs))with | some o=>some o.r | none=>none
def idxI(x:Leaf):Option Nat:=match x with | .i _ n=>if 0<=n then some n.toNat else none | _=>none
def cg(p:AW)(L:List OIns)(lk:Nat->Option AV)(op:Op):Option (AV×List Nat):=
 match op with
 | .move x=>(evA lk x).map (·,[])
 | .assign x=>(evA lk x).map (·,[])
 | .pick c x y=>match evL lk c with
  | some (.b true)=>(evA lk x).map (·,[])
  | some (.b false)=>(evA lk y).map (·,[])
  | _=>none
 | .extract x k=>match evA lk x with
  | some (.tup xs)=>(xs[k]?).map λs=>(.v s,[])
  | _=>none
 | .load t x=>match evL lk x with
  | some (.ptr v o)=>match uP p t with
   | some true=>match szB p t with
    | some n=>if o+n<=100000/\0<n then(iX lk v o n).map λls=>(.v (.agg ls),mo v o n)else none
    | none=>none
   | some false=>if o+1<=100000 then match iX lk v o 1 with
    | some [l]=>some (.v (.one l),mo v o 1)
    | _=>none else none
   | none=>none
  | _=>none
 | .fieldAddr s x f=>match evL lk x,p.underlying s with
  | some (.ptr v o),some (.struct fs)=>match fs[f]? with
   | some fd=>match szB p fd.type with
    | some (_+1)=>some (.v (.one (.ptr v (o+fd.offset))),[])
    | _=>none
   | none=>none
  | _,_=>none
 | .indexAddr t x ix=>match evL lk x,p.underlying t,evL lk ix with
  | some (.ptr v o),some (.array len e),some l=>match idxI l,szB p e with
   | some i,some n=>if i<len then some (.v (.one (.ptr v (o+i*n))),[])else none
   | _,_=>none
  | _,_,_=>none
 | .build t parts=>match uQ p t,mr lk parts.toList,p.underlying t with
  | some z,some ps,some (.struct fs)=>if fs.all (λf=>(szB p f.type).isSome)then(mq (tj p fs) z ps).map λls=>(.v (.agg ls),[])else none
  | some z,some ps,some (.array _ e)=>match szB p e with
   | some n=>(mq (λi=>some (i*n,n)) z ps).map λls=>(.v (.agg ls),[])
   | none=>none
  | _,_,_=>none
 | .field t x f=>match evS lk x,p.underlying t with
  | some (.agg ls),some (.struct fs)=>match fs[f]? with
   | some fd=>(rG p fd.type ls fd.offset).map λs=>(.v s,[])
   | none=>none
  | _,_=>none
 | .index t x ix=>match evS lk x,p.underlying t,evL lk ix with
  | some (.agg ls),some (.array len e),some l=>match idxI l,szB p e with
   | some i,some n=>if i<len then(rG p e ls (i*n)).map λs=>(.v s,[])else none
   | _,_=>none
  | _,_,_=>none
 | .binOp op t x y _=>match evS lk x,evS lk y with
  | some (.one a),some (.one c)=>match xT (gN p t) op a c with
   | some l=>some (.v (.one l),[])
   | none=>(cK L (.bin op t) [.one a,.one c]).map λs=>(.v s,[])
  | some a,some c=>(cK L (.bin op t) [a,c]).map λs=>(.v s,[])
  | _,_=>none
 | .unOp .not _ x=>match evL lk x with
  | some (.b c)=>some (.v (.one (.b (!c))),[])
  | some l=>(cK L (.un .not) [.one l]).map λs=>(.v s,[])
  | none=>none
 | .unOp op _ x=>match evS lk x with
  | some s=>(cK L (.un op) [s]).map λs=>(.v s,[])
  | none=>none
 | .convert s d x=>match evL lk x,p.underlying s,p.underlying d with
  | some (.i _ n),some (.int _),some (.int k)=>some (.v (.one (.i k (k.wrap n))),[])
  | some l,_,_=>(cK L (.conv s d) [.one l]).map λs=>(.v s,[])
  | none,_,_=>(match evS lk x with | some a=>(cK L (.conv s d) [a]).map λs=>(.v s,[]) | none=>none)
 | .call c=>match c.callee,c.args.toList,c.argTypes[0]? with
  | .builtin .len,[x],some t=>match evS lk x with
   | some a=>(cK L (.len t) [a]).map λs=>(.v s,[])
   | none=>none
  | .builtin .max,[x,y],some _=>match evS lk x,evS lk y with
   | some a,some b=>(cK L .max [a,b]).map λs=>(.v s,[])
   | _,_=>none
  | _,_,_=>none
 | _=>none
def genO:Op->Option (Key×List AP)
 | .index t x i=>some (.idx t,[x,i])
 | .indexAddr t x i=>some (.ia t,[x,i])
 | .fieldAddr t x f=>some (.fa t f,[x])
 | .load t x=>some (.ld t,[x])
 | .nilCheck x=>some (.nc,[x])
 | .lookup t x i false=>some (.lku t,[x,i])
 | .slice t x none none none=>some (.sl t false false,[x])
 | .slice t x (some l) none none=>some (.sl t true false,[x,l])
 | .slice t x none (some h) none=>some (.sl t false true,[x,h])
 | .slice t x (some l) (some h) none=>some (.sl t true true,[x,l,h])
 | _=>none
def oL(lk:Nat->Option AV):List AP->Option (List SV)
 | []=>some []
 | x::xs=>match evS lk x,oL lk xs with
  | some s,some l=>some (s::l)
  | _,_=>none
def nilO(lk:Nat->Option AV):Op->Option AV
 | .nilCheck x=>match evL lk x with
  | some (.ptr v o)=>some (.v (.one (.ptr v o)))
  | _=>none
 | _=>none
def rH(p:AW)(L:List OIns)(lk:Nat->Option AV)(op:Op):Option (AV×List Nat):=
 match cg p L lk op with
 | some r=>some r
 | none=>match nilO lk op with
  | some c=>some (c,[])
  | none=>match genO op with
   | some (k,xs)=>match oL lk xs with
    | some ss=>(cK L k ss).map λs=>(.v s,[])
    | none=>none
   | none=>none
def ownP(ρ:Rho)(r:SV)(w:World)(v:Value):Prop:=match r with
 | .one (.own _ m)=>∃s,ρ[m]? =some s/\s.p w v/\∀g,s.fp w v g->v.ownBlock=some g
 | _=>False
def xU(ρ:Rho)(B:Blk)(w:World)(q:Nat×TypeId×List Leaf):Prop:=
 ∃g cs,B.v q.1=some g/\w.heap[g]? =some (.cells cs q.2.1 (0,0))/\aD ρ B w q.2.2 cs.toList/\∀(k:Nat)(n:Int),cs[k]? ≠some (.int .u32 n)
structure Mut(d:MutD)(B B':Blk)(w w':World):Prop where
 os:w'.os=w.os
 tape:w'.tape=w.tape
 output:w'.output=w.output
 v:∀x,(∀q,d.nv=some q->x≠q.1)->B'.v x=B.v x
 nv:∀q g,d.nv=some q->B'.v q.1=some g->w.heap.size<=g
 o:∀k g,B.o k g->B'.o k g
 new:∀k g,B'.o k g->B.o k g\/(k∈d.ks/\w.heap.size<=g)
 own:∀k g,k∈d.ks->B'.o k g->bw w' g
 inj:BInj B'
 chg:Chg w w' (λg=>(∃k∈d.ks,B.o k g)\/∃q∈d.us,B.v q.1=some g)
def MutOk(p:AW)(ρ:Rho)(f:BL)(d:MutD)(B:Blk)(w:World)(vs:List Value):Prop:=(callFunc f vs.toArray).run p w= .ok (.enter f vs.toArray) w/\(BOk B w.heap.size->BInj B->(∀k g,B.o k g->bw w g)->(∀x g,B.v x=some g->bw w g)->(∀q,d.nv=some q->B.v q.1=none)->(∀q∈d.pre,xU ρ B w q)->
   AC p f vs.toArray w (λe w'=>∃v B',e= .returned v/\(mutR d.xs).holds ρ B' w' v/\(∀q∈d.keep,∃u,vs[q.1]? =some u/\q.2.holds ρ B' w' u)/\(∀q∈d.us,xU ρ B' w' q)/\(∀q,d.nv=some q->xU ρ B' w' q)/\Mut d B B' w w'))
def OIns.Ok(p:AW)(ρ:Rho)(i:OIns):Prop:=∀(B:Blk)(w:World)(vs:List Value),cO ρ B w i.xs vs->
 match i.key,vs with
 | .bin op t,[x,y]=>∃v,i.r.holds ρ B w v/\∀xo yo,((do eqGuard op t xo yo x y;binOp op t x y:Sem Value)).run p w= .ok v w
 | .un op,[x]=>∃v,i.r.holds ρ B w v/\(Op.unary op x).run p w= .ok v w
 | .conv s d,[x]=>∃v,i.r.holds ρ B w v/\(convert s d x).run p w= .ok v w
 | .len t,[x]=>∃v,i.r.holds ρ B w v/\∀(ts:Array TypeId) ty,ts[0]? =some t->(Builtin.len_ ts ty #[x]).run p w= .ok v w
 | .idx t,[x,y]=>∃v,i.r.holds ρ B w v/\(Eb t x y).run p w= .ok v w
 | .ia t,[x,y]=>∃v,i.r.holds ρ B w v/\(E9 t x y).run p w= .ok v w
 | .ld t,[x]=>∃v,i.r.holds ρ B w v/\(CV t x).run p w= .ok v w
 | .fa t f,[x]=>∃v,i.r.holds ρ B w v/\(Fa t x f).run p w= .ok v w
 | .sl t false false,[x]=>∃v,i.r.holds ρ B w v/\(CI t x none none none).run p w= .ok v w
 | .sl t true false,[x,y]=>∃v,i.r.holds ρ B w v/\(CI t x (some y) none none).run p w= .ok v w
 | .sl t false true,[x,y]=>∃v,i.r.holds ρ B w v/\(CI t x none (some y) none).run p w= .ok v w
 | .app t,[x,y]=>∀ty,∃v w',(Builtin.append_ #[t,t] ty #[x,y]).run p w= .ok v w'/\w.grownBy w' x.ownBlock/\(∀g,x.ownBlock=some g->bw w' g)/\(∀g,v.ownBlock=some g->(x.ownBlock=some g\/w.heap.size<=g)/\g<w'.heap.size/\bw w' g)/\ownP ρ i.r w' v
 | .frz _ _,[x]=>i.r.holds ρ B w x
 | .nc,[x]=>∃ad,x= .pointer (some ad)/\i.r.holds ρ B w x
 | .lku t,[x,y]=>∃v,i.r.holds ρ B w v/\(Instr.lookup t x y false).run p w= .ok v w
 | .max,[x,y]=>∃v,i.r.holds ρ B w v/\∀(ts:Array TypeId) ty,(Builtin.max_ ts ty #[x,y]).run p w= .ok v w
 | .mut f d,vs=>MutOk p ρ f d B w vs
 | .bs t n ix,vs=>BOk B w.heap.size->∃v w',i.r.holds ρ B w' v/\(Instr.buildSlice t n (ix.zip vs).toArray).run p w= .ok v w'/\mBw w w'
 | .sl t true true,[x,y,z]=>∃v,i.r.holds ρ B w v/\(CI t x (some y) (some z) none).run p w= .ok v w
 | _,_=>True
def OIns.OkE(E:Ent)(p:AW)(ρ:Rho)(i:OIns):Prop:=match i.key with
 | .mut f d=>∀(B:Blk)(w:World)(vs:List Value),(∀x g,E.pin[x]? =some g->B.v x=some g)->cO ρ B w i.xs vs->MutOk p ρ f d B w vs
 | _=>i.Ok p ρ
variable{E:Ent}
theorem OIns.Ok.e{p:AW}{i:OIns}(h:i.Ok p ρ):i.OkE E p ρ:=by
 obtain⟨k,xs,r⟩:=i;cases k<;>first | exact h | exact λB w vs _ C=>h B w vs C
section
variable {ρ:Rho} {L:List OIns} {B:Blk} {a:Act} {w:World} {lk:Nat->Option AV} {x:AP}
theorem rI(h:∀y∈rdO x,∀c,lk y=some c->bN ρ B a w y c)(e:evA lk x=some c):c.holds ρ B w (a.eval x):=by
 cases x with
 | tmp t=>
  simp only[evA]at e;split at e
  ·rename_i ht;obtain⟨u,h1,h2⟩:=(by have:=h t (by simp[rdO]) c e;unfold bN at this;rwa [if_pos ht]at this:∃u,a.tmps[t]? =some u/\c.holds ρ B w u);have:a.eval (.tmp t)=u:=by simp only[Dd,E8,h1,Option.getD_some]
   rw[this];exact h2
  ·cases e
 | const v=>
  simp only[evA]at e
  cases h1:svC v with
  | none=>rw[h1]at e;cases e
  | some s=>rw[h1]at e;simp at e;subst e;exact svC_holds h1
 | func f=>simp only[evA,A3.injEq]at e;subst e;rfl
 | global g=>simp[evA]at e
theorem rJ(h:∀y∈rdO x,∀c,lk y=some c->bN ρ B a w y c)(e:evS lk x=some s):s.holds ρ B w (a.eval x):=by
 unfold evS at e;split at e
 ·rename_i s' h1;injection e with e;subst e;exact rI h h1
 ·cases e
theorem evL_holds{l:Leaf}(h:∀y∈rdO x,∀c,lk y=some c->bN ρ B a w y c)(e:evL lk x=some l):l.holds ρ B w (a.eval x):=by
 unfold evL at e;split at e
 ·rename_i s' h1;injection e with e;subst e;exact rJ h h1
 ·cases e
end
section
variable {p:AW} {ρ:Rho} {B:Blk} {a:Act} {w:World} {t:TypeId}
theorem run_underlying{d:TypeDesc}(h:p.underlying t=some d):(underlying t).run p w= .ok d w:=by
 simp[underlying,program,AH,Sem.run,h,AQ]
theorem uR{i:TypeInfo}(h:p.info? t=some i):(typeInfo t).run p w= .ok i w:=by
 simp[typeInfo,program,AH,Sem.run,h,AQ]
theorem ba(h:szB p t=some n):(sizeOf t).run p w= .ok n w:=by
 unfold szB at h
 cases hi:p.info? t with
 | none=>rw[hi]at h;cases h
 | some i=>rw[hi]at h;simp at h;subst h;simp[sizeOf,AH,uR hi,AQ]
theorem iY{b:Bool}(h:uP p t=some b):(isAgg t).run p w= .ok b w:=by
 unfold uP at h
 cases hi:p.underlying t with
 | none=>rw[hi]at h;cases h
 | some d=>
  rw[hi]at h;simp at h;subst h;unfold isAgg;rw[AH,run_underlying hi];cases d<;>rfl
theorem rK{z:Value}(h:(p.info? t).bind (·.zero)=some z):(zeroValue t).run p w= .ok z w:=by
 cases hi:p.info? t with
 | none=>rw[hi]at h;cases h
 | some i=>rw[hi]at h;simp at h;simp[zeroValue,AH,uR hi,AQ,h]
theorem nH{ad:AU}(h:w.cell? ad=some v):(Go.load ad).run p w= .ok v w:=by
 simp[Go.load,Sem.run,h]
theorem bM(g o k:Nat):(⟨g,o,none⟩:AU).add k=⟨g,o+k,none⟩:=by
 unfold Addr.add;split
 ·subst_vars;rfl
 ·rfl
theorem aH{ty:TypeId}{C:Nat×Nat}(h:w.heap[g]? =some (.cells cs ty C)):w.cell? ⟨g,o,none⟩=cs[o]? :=by
 simp[World.cell?,h]
theorem Ay{p:Prop}(h:p:=by simpa using F):p:=h
theorem iZ{ty:TypeId}(h:w.heap[g]? =some (.cells cs ty (0,0))):∀(vs:List Value)(i:Nat)(C:Array Value),
  (∀k v,vs[k]? =some v->cs[o+(i+k)]? =some v)->(loadCellsFrom ⟨g,o,none⟩ i vs.length C).run p w= .ok (C++vs.toArray) w
 | [],i,C,_=>by simp[loadCellsFrom]
 | v::vs,i,C,hv=>by
  have h1:=hv 0 v rfl;rw[CL]at h1;have h2:=iZ h vs (i+1) (C.push v) (λk u F=>by
   have:=hv (k+1) u Ay;rwa [show i+(k+1)=i+1+k from no]at this)
  simp only[Bg,loadCellsFrom];rw[AH,bM,nH (by rw[aH h];exact h1)];simp only[AQ];rw[h2];simp
theorem ke{v:Nat}(C:k<100000):bN ρ B a w (oK v k) c↔∃g cs ty u,B.v v=some g/\w.heap[g]? =some (.cells cs ty (0,0))/\cs[k]? =some u/\c.holds ρ B w u:=by
 unfold bN oK;rw[if_neg no,show((v+1)*100000+k) / 100000 - 1=v from no,show((v+1)*100000+k) % 100000=k from no]
theorem fI{lk:Nat->Option AV}{v:Nat}:∀ {n k:Nat} {ls:List Leaf},iX lk v k n=some ls->k+n<=100000->(∀x∈mo v k n,∀c,lk x=some c->bN ρ B a w x c)->
  ls.length=n/\(0<n->∃g cs ty,B.v v=some g/\w.heap[g]? =some (.cells cs ty (0,0))/\∃vs:List Value,aD ρ B w ls vs/\∀j u,vs[j]? =some u->cs[k+j]? =some u)
 | 0,k,ls,h,_,_=>by simp[iX]at h;subst h;exact⟨rfl,λh=>no⟩
 | n+1,k,ls,h,hk,hx=>by
  simp only[iX]at h;split at h
  ·rename_i l hl
   cases hr:iX lk v (k+1) n with
   | none=>rw[hr]at h;cases h
   | some r=>
    rw[hr]at h;simp at h;subst h;have h0:=hx (oK v k) (by unfold mo;simp only[Ba,C4];exact⟨0,no,Ad⟩) _ hl;rw[ke no]at h0;obtain⟨g,cs,ty,u,I,J,K,U⟩:=h0;obtain⟨F,G⟩:=fI hr no (λx H c hc=>hx x (by
     unfold mo at H⊢;simp only[Ba,C4]at H⊢;obtain⟨j,C,rfl⟩:=H;exact⟨j+1,no,by congr 1;omega⟩) c hc)
    refine⟨by simp[F],λ_=>⟨g,cs,ty,I,J,?_⟩⟩;by_cases hn:n=0
    ·subst hn;have:r=[]:=List.eq_nil_of_length_eq_zero F;subst this;exact⟨[u],⟨U,trivial⟩,λj x C=>by
      match j with
      | 0=>simp at C;subst C;simpa using K
      | j+1=>simp at C⟩
    ·obtain⟨g',V,aa,f1,f2,vs,Z,f4⟩:=G no;rw[I]at f1;injection f1 with f1;subst f1;rw[J]at f2;injection f2 with f2;injection f2 with f2 Y;subst f2;exact⟨u::vs,⟨U,Z⟩,λj x C=>by
      match j with
      | 0=>simp at C;subst C;simpa using K
      | j+1=>
       have:=f4 j x At;rwa [show k+1+j=k+(j+1)from no]at this⟩
  ·cases h
theorem aD.one{l:Leaf}{vs:List Value}(h:aD ρ B w [l] vs):∃v,vs=[v]/\l.holds ρ B w v:=by
 match vs,h with
 | [v],h=>exact⟨v,rfl,h.1⟩
theorem aD.set:∀ {ls:List Leaf} {vs:List Value} {k:Nat} {l:Leaf} {v:Value},aD ρ B w ls vs->l.holds ρ B w v->aD ρ B w (ls.set k l) (vs.set k v)
 | [],[],_,_,_,_,_=>by simp[aD]
 | _::_,_::_,0,_,_,h,k=>⟨k,h.2⟩
 | _::_,_::_,n+1,_,_,h,k=>⟨h.1,aD.set h.2 k⟩
 | [],_::_,_,_,_,h,_=>h.elim
 | _::_,[],_,_,_,h,_=>h.elim
theorem aD.setRng:∀ {C:List Leaf} {us:List Value} {ls:List Leaf} {vs:List Value} {k:Nat},aD ρ B w C us->aD ρ B w ls vs->aD ρ B w (xS ls k C) (xS vs k us)
 | [],[],_,_,_,_,h=>h
 | _::_,_::_,_,_,_,k,h=>by unfold xS;exact aD.setRng k.2 (h.set k.1)
 | [],_::_,_,_,_,h,_=>h.elim
 | _::_,[],_,_,_,h,_=>h.elim
theorem SV.holds.cells(h:s.holds ρ B w v):aD ρ B w s.leaves v.cells.toList:=by
 cases s with
 | agg ls=>obtain⟨vs,rfl,h⟩:=h;simpa [Value.cells,SV.leaves]using h
 | one l=>
  have hc:v.cells=#[v]:=by
   cases l<;>simp only[SV.holds,Leaf.holds]at h
   ·subst h;rfl
   ·subst h;rfl
   ·obtain⟨g,_,rfl⟩:=h;rfl
   ·subst h;rfl
   ·obtain⟨s,_,h,_⟩:=h;have:=(s.fl _ _ h).1;cases v<;>first | rfl | exact absurd rfl (this _)
   ·subst h;rfl
   ·subst h;rfl
   ·subst h;rfl
   ·obtain⟨s,_,h,_⟩:=h;have:=(s.fl _ _ h).1;cases v<;>first | rfl | exact absurd rfl (this _)
  rw[hc];exact⟨h,trivial⟩
theorem rL{cs:Array Value}:∀(vs:List Value)(n off:Nat)(cs:Array Value),((vs.zipIdx n).foldl (λ(cs:Array Value)(x:Value×Nat)=>cs.setIfInBounds (off+x.2) x.1) cs).toList=xS cs.toList (off+n) vs
 | [],_,_,_=>rfl
 | v::vs,n,off,cs=>by
  simp only[List.zipIdx_cons,List.foldl_cons];rw[rL (cs:=cs) vs (n+1) off];simp[xS,Nat.add_assoc]
theorem i9{C:Nat->Option (Nat×Nat)}:∀ {H:List (Nat×SV)} {us:List (Nat×Value)} {z I:List Leaf} {cells:Array Value},mq C z H=some I->
  us.map (·.1)=H.map (·.1)->cO ρ B w (H.map (·.2)) (us.map (·.2))->aD ρ B w z cells.toList->∃out:Array Value,Instr.fill C cells us=some out/\aD ρ B w I out.toList
 | [],[],z,I,cells,h,_,_,hz=>by simp[mq]at h;subst h;exact⟨cells,rfl,hz⟩
 | (i,s)::H,(j,u)::us,z,I,cells,h,F,hs,hz=>by
  simp only[Bq,List.cons.injEq]at F;obtain⟨rfl,F⟩:=F;simp only[mq]at h;unfold Instr.fill
  cases hp:C j with
  | none=>rw[hp]at h;cases h
  | some x=>
   obtain⟨off,size⟩:=x;rw[hp]at h;simp only at h⊢;split at h
   ·rename_i hc;have G:=hs.1.cells;have h1:=G.len;have h2:=hz.len;simp only[EB]at h1 h2;rw[if_neg (by
     simp only[ne_eq,Ds,decide_eq_true_eq,not_or,Classical.not_not,Nat.not_lt];have:=hc.1;have:=hc.2;omega)]
    refine i9 h F hs.2 ?_;have:=rL (cs:=cells) u.cells.toList 0 off cells;rw[CL]at this;rw[<-Array.toList_zipIdx]at this;simp only[Array.foldl_toList]at this;rw[this];exact aD.setRng G hz
   ·cases h
 | [],_::_,_,_,_,_,F,_,_=>by simp at F
 | _::_,[],_,_,_,_,F,_,_=>by simp at F
end
section
variable {p:AW} {ρ:Rho} {B:Blk} {a:Act} {w:World} {L:List OIns} {lk:Nat->Option AV} {c:AV} {rd:List Nat} {o:Oper}
def bj(ρ:Rho)(B:Blk)(a:Act)(w:World)(lk:Nat->Option AV)(x:AP):Prop:=∀y∈rdO x,∀c,lk y=some c->bN ρ B a w y c
def dZ(p:AW)(ρ:Rho)(B:Blk)(a:Act)(w:World)(o:Oper)(c:AV):Prop:=∃u,(execOp a.eval o).run p w= .ok (.value u) w/\c.holds ρ B w u
theorem rM{x:AP}{c:AV}(h:bj ρ B a w lk x)(e:evA lk x=some c):c.holds ρ B w (a.eval x):=rI h e
theorem eB{x:AP}{c:SV}(h:bj ρ B a w lk x)(e:evS lk x=some c):c.holds ρ B w (a.eval x):=rJ h e
theorem eC{x:AP}{c:Leaf}(h:bj ρ B a w lk x)(e:evL lk x=some c):c.holds ρ B w (a.eval x):=evL_holds h e
theorem pu{x:AP}(C:o.op= .move x\/o.op= .assign x)(h:(evA lk x).map (·,([]:List Nat))=some (c,rd))(H:bj ρ B a w lk x):dZ p ρ B a w o c:=by
 cases e:evA lk x with
 | none=>rw[e]at h;cases h
 | some d=>
  rw[e]at h;simp at h;obtain⟨rfl,_⟩:=h;refine⟨a.eval x,?_,rM H e⟩;rcases C with C | C<;>(unfold execOp;rw[C];rfl)
theorem xV{k x y:AP}(H:o.op= .pick k x y)(h:cg p L lk (.pick k x y)=some (c,rd))(G:bj ρ B a w lk k)(I:bj ρ B a w lk x)(J:bj ρ B a w lk y):dZ p ρ B a w o c:=by
 simp only[cg]at h;split at h
 ·rename_i C;have F:a.eval k= .bool true:=eC G C
  cases e:evA lk x with
  | none=>rw[e]at h;cases h
  | some d=>
   rw[e]at h;simp at h;obtain⟨rfl,_⟩:=h;exact⟨a.eval x,by unfold execOp;rw[H];simp only[F];rfl,rM I e⟩
 ·rename_i C;have F:a.eval k= .bool false:=eC G C
  cases e:evA lk y with
  | none=>rw[e]at h;cases h
  | some d=>
   rw[e]at h;simp at h;obtain⟨rfl,_⟩:=h;exact⟨a.eval y,by unfold execOp;rw[H];simp only[F];rfl,rM J e⟩
 ·cases h
theorem qX{x:AP}(G:o.op= .extract x k)(h:cg p L lk (.extract x k)=some (c,rd))(H:bj ρ B a w lk x):dZ p ρ B a w o c:=by
 simp only[cg]at h;split at h
 ·rename_i xs e;obtain⟨vs,C,F⟩:=(rM H e:AV.holds ρ B w (.tup xs) (a.eval x))
  cases e3:xs[k]? with
  | none=>rw[e3]at h;cases h
  | some s=>
   rw[e3]at h;simp at h;obtain⟨rfl,_⟩:=h;obtain⟨v,h1,h2⟩:=F.get e3;refine⟨v,?_,h2⟩;unfold execOp;rw[G];simp[C,Instr.extract,h1,AH,AQ]
 ·cases h
theorem uT{x:AP}(h:cg p L lk (.load t x)=some (c,rd))(H:bj ρ B a w lk x)(Z:∀y∈rd,∀c,lk y=some c->bN ρ B a w y c):
  ∃U u,a.eval x= .pointer (some U)/\(loadVar t U).run p w= .ok u w/\c.holds ρ B w u:=by
 simp only[cg]at h;split at h
 ·rename_i v off e;obtain⟨g,hg,e1⟩:=(eC H e:Leaf.holds ρ B w (.ptr v off) (a.eval x));refine⟨⟨g,off,none⟩,?_⟩;split at h
  ·rename_i F;split at h
   ·rename_i n hn;split at h
    ·rename_i G
     cases J:iX lk v off n with
     | none=>rw[J]at h;cases h
     | some ls=>
      rw[J]at h;simp at h;obtain⟨rfl,rfl⟩:=h;obtain⟨I,C⟩:=fI (a:=a) J G.1 Z;obtain⟨g',cs,ty,f1,f2,vs,K,V⟩:=C G.2;rw[hg]at f1;injection f1 with f1;subst f1;refine⟨.agg vs.toArray,e1,?_,vs,rfl,K⟩;have hl:vs.length=n:=by rw[K.len,I]
      have:=iZ (p:=p) (o:=off) f2 vs 0 #[] (λk u Y=>by rw[A5];exact V k u Y);rw[hl]at this;simp[loadVar,loadCells,AH,iY F,ba hn,this,AQ]
    ·cases h
   ·cases h
  ·rename_i F;split at h
   ·rename_i G;split at h
    ·rename_i l J;simp at h;obtain⟨rfl,rfl⟩:=h;obtain⟨I,C⟩:=fI (a:=a) J G Z;obtain⟨g',cs,ty,f1,f2,vs,K,V⟩:=C it;rw[hg]at f1;injection f1 with f1;subst f1;obtain⟨u,rfl,Y⟩:=K.one;refine⟨u,e1,?_,Y⟩;have:=nH (p:=p) (ad:=⟨g,off,none⟩) (v:=u) (by rw[aH f2];exact V 0 u rfl);simp[loadVar,AH,iY F,this,AQ]
    ·cases h
   ·cases h
  ·cases h
 ·cases h
theorem xW{x:AP}(J:o.op= .load t x)(h:cg p L lk (.load t x)=some (c,rd))(H:bj ρ B a w lk x)(C:∀y∈rd,∀c,lk y=some c->bN ρ B a w y c):dZ p ρ B a w o c:=by
 obtain⟨K,u,F,G,I⟩:=uT h H C;refine⟨u,?_,I⟩;unfold execOp;rw[J];simp[F,CV,DV,AH,G,AQ]
theorem oM{x:AP}{f:Nat}(G:o.op= .fieldAddr t x f)(h:cg p L lk (.fieldAddr t x f)=some (c,rd))(H:bj ρ B a w lk x):dZ p ρ B a w o c:=by
 simp only[cg]at h;split at h
 ·rename_i v off K e I;obtain⟨g,F,C⟩:=(eC H e:Leaf.holds ρ B w (.ptr v off) (a.eval x));split at h
  ·rename_i J hf;split at h
   ·rename_i n hn;simp at h;obtain⟨rfl,rfl⟩:=h;refine⟨_,?_,g,F,rfl⟩;unfold execOp;rw[G];simp[C,Fa,DV,fieldPlace,AH,run_underlying I,hf,ba hn,AQ,bM]
   ·cases h
  ·cases h
 ·cases h
theorem pw{l:Leaf}{i:Nat}(h:idxI l=some i)(hl:l.holds ρ B w v):∃k,v= .int k (i:Int):=by
 unfold idxI at h;split at h
 ·rename_i k n;split at h
  ·rename_i hn;simp at h;subst h;exact⟨k,by rw[show v= .int k n from hl,Int.toNat_of_nonneg hn]⟩
  ·cases h
 ·cases h
theorem oN{x ix:AP}(K:o.op= .indexAddr t x ix)(h:cg p L lk (.indexAddr t x ix)=some (c,rd))(H:bj ρ B a w lk x)(F:bj ρ B a w lk ix):dZ p ρ B a w o c:=by
 simp only[cg]at h;split at h
 ·rename_i v off len e l h1 U h3;obtain⟨g,J,G⟩:=(eC H h1:Leaf.holds ρ B w (.ptr v off) (a.eval x));split at h
  ·rename_i i n hi hn;obtain⟨k,I⟩:=pw hi (eC F h3);split at h
   ·rename_i C;simp at h;obtain⟨rfl,rfl⟩:=h;refine⟨_,?_,g,J,rfl⟩;unfold execOp;rw[K];simp[G,I,E9,DV,asIntOf,AH,run_underlying U,ba hn,AQ,bM,C]
   ·cases h
  ·cases h
 ·cases h
theorem px{ls:List Leaf}{off:Nat}(h:rG p t ls off=some s)(hc:aD ρ B w ls cs.toList):∃v,(part t cs off).run p w= .ok v w/\s.holds ρ B w v:=by
 unfold rG at h;split at h
 ·rename_i C;split at h
  ·rename_i n hn;split at h
   ·rename_i J;simp at h;subst h;refine⟨.agg (cs.extract off (off+n)),by unfold part;rw[AH,iY C];simp only[AQ,if_true,AH,ba hn,Bw],(cs.extract off (off+n)).toList,by rw[ED],?_⟩;have H:=hc.len;refine aD.mk ?_ (λk l v G K=> ?_)
    ·simp only[EB,Array.size_extract,List.length_take,List.length_drop]at H⊢;omega
    ·have I:k<n:=by
      rw[BI]at G;by_cases h:k<n
      ·exact h
      ·rw[if_neg h]at G;cases G
     rw[BI,if_pos I,List.getElem?_drop]at G;obtain⟨u,h1,h2⟩:=hc.get G;have:v=u:=by
      have F:(cs.extract off (off+n))[k]? =some v:=by rw[<-GQ];exact K
      rw[Array.getElem?_extract]at F;simp only[GQ]at h1;split at F
      ·rw[h1]at F;injection F with e;exact e.symm
      ·cases F
     rw[this];exact h2
   ·cases h
  ·cases h
 ·rename_i C
  cases hl:ls[off]? with
  | none=>rw[hl]at h;cases h
  | some l=>
   rw[hl]at h;simp at h;subst h;obtain⟨u,h1,h2⟩:=hc.get hl;refine⟨u,?_,h2⟩;simp only[GQ]at h1;simp[part,AH,iY C,AQ,h1]
 ·cases h
theorem uU{x:AP}{f:Nat}(I:o.op= .field t x f)(h:cg p L lk (.field t x f)=some (c,rd))(H:bj ρ B a w lk x):dZ p ρ B a w o c:=by
 simp only[cg]at h;split at h
 ·rename_i ls K h1 J;obtain⟨vs,F,G⟩:=(eB H h1:SV.holds ρ B w (.agg ls) (a.eval x));split at h
  ·rename_i C hf
   cases hp:rG p C.type ls C.offset with
   | none=>rw[hp]at h;cases h
   | some s=>
    rw[hp]at h;simp at h;obtain⟨rfl,rfl⟩:=h;obtain⟨v,h2,h3⟩:=px (cs:=vs.toArray) hp Aw;refine⟨v,?_,h3⟩;unfold execOp;rw[I];simp[F,Instr.field,asAgg,AH,run_underlying J,hf,h2,AQ]
  ·cases h
 ·cases h
theorem uV{x ix:AP}(V:o.op= .index t x ix)(h:cg p L lk (.index t x ix)=some (c,rd))(H:bj ρ B a w lk x)(F:bj ρ B a w lk ix):dZ p ρ B a w o c:=by
 simp only[cg]at h;split at h
 ·rename_i ls len e l h1 Y h3;obtain⟨vs,G,I⟩:=(eB H h1:SV.holds ρ B w (.agg ls) (a.eval x));split at h
  ·rename_i i n hi hn;obtain⟨k,J⟩:=pw hi (eC F h3);split at h
   ·rename_i C
    cases hp:rG p e ls (i*n)with
    | none=>rw[hp]at h;cases h
    | some s=>
     rw[hp]at h;simp at h;obtain⟨rfl,rfl⟩:=h;obtain⟨v,K,U⟩:=px (cs:=vs.toArray) hp (by simpa using I);refine⟨v,?_,U⟩;unfold execOp;rw[V];simp[G,J,Eb,asIntOf,AH,run_underlying Y,ba hn,K,AQ,C]
   ·cases h
  ·cases h
 ·cases h
end
section
variable {p:AW} {ρ:Rho} {B:Blk} {a:Act} {w:World} {L:List OIns} {lk:Nat->Option AV} {c:AV} {rd:List Nat} {o:Oper}
theorem mu{α β:Type}(f:α->Sem β)(g:α->β):∀(xs:List α),(∀x∈xs,(f x).run p w= .ok (g x) w)->(xs.mapM f).run p w= .ok (xs.map g) w
 | [],_=>Ad
 | x::xs,h=>by
  have C:=mu f g xs (λy hy=>h y (Bf _ hy));simp only[List.mapM_cons,AH,h x Ad,AQ,C,Bw,Bq]
theorem uW{α β:Type}(f:α->Sem β)(g:α->β)(xs:Array α)(h:∀x∈xs.toList,(f x).run p w= .ok (g x) w):(xs.mapM f).run p w= .ok (xs.map g) w:=by
 obtain⟨l⟩:=xs;have:=mu f g l Au;simp only[List.mapM_toArray,map_eq_pure_bind,AH,this,AQ,Bw,CJ]
theorem ie:∀ {F:List (Nat×AP)} {C:List (Nat×SV)},mr lk F=some C->(∀x∈F,bj ρ B a w lk x.2)->
  (F.map (λx=>(x.1,a.eval x.2))).map (·.1)=C.map (·.1)/\cO ρ B w (C.map (·.2)) ((F.map (λx=>(x.1,a.eval x.2))).map (·.2))
 | [],C,h,_=>by simp[mr]at h;subst h;exact⟨rfl,trivial⟩
 | (i,x)::r,C,h,H=>by
  simp only[mr]at h;split at h
  ·rename_i s l h1 h2;simp at h;subst h;obtain⟨G,I⟩:=ie h2 (λy hy=>H y (Bf _ hy));exact⟨Aw,eB (H (i,x) Ad) h1,I⟩
  ·cases h
theorem gO{z:List Leaf}(h:uQ p t=some z):∃v,(zeroValue t).run p w= .ok v w/\aD ρ B w z v.cells.toList:=by
 unfold uQ at h;split at h
 ·rename_i v C;exact⟨v,rK C,gZ h⟩
 ·cases h
theorem uY{I:Array (Nat×AP)}(ho:o.op= .build t I)(h:cg p L lk (.build t I)=some (c,rd))(H:∀x∈I.toList,bj ρ B a w lk x.2):dZ p ρ B a w o c:=by
 simp only[cg]at h;split at h
 ·rename_i z ss F h1 h2 hu;obtain⟨zv,hz,G⟩:=gO (ρ:=ρ) (B:=B) (w:=w) h1;obtain⟨J,K⟩:=ie h2 H;split at h
  ·rename_i C
   cases hf:mq (tj p F) z ss with
   | none=>rw[hf]at h;cases h
   | some ls=>
    rw[hf]at h;simp at h;obtain⟨rfl,rfl⟩:=h
    let g:Field->Nat×Nat:=λf=>(f.offset,(szB p f.type).getD 0)
    have hm:(F.mapM (λf=>do pure (f.offset,<-sizeOf f.type):Field->Sem (Nat×Nat))).run p w= .ok (F.map g) w:=by
     refine uW _ g F (λf hf=> ?_);have h3:(szB p f.type).isSome=true:=by
      have:=Array.all_eq_true.1 C;obtain⟨i,hi,rfl⟩:=BK hf;simp only[Array.getElem_toList];exact this i (by simpa using hi)
     cases hs:szB p f.type with
     | none=>rw[hs]at h3;cases h3
     | some n=>simp only[AH,ba hs,AQ,Bw];show _=Result.ok (f.offset,(szB p f.type).getD 0) w;rw[hs];rfl
    have Z:tj p F=λi=>(F.map g)[i]? :=by
     funext i
     unfold tj;rw[Array.getElem?_map]
     cases hi:F[i]? with
     | none=>rfl
     | some f=>
      have h3:(szB p f.type).isSome=true:=by
       have:=Array.all_eq_true.1 C;obtain⟨_,rfl⟩:=AZ.1 hi;exact this i (AZ.1 hi).1
      cases hs:szB p f.type with
      | none=>rw[hs]at h3;cases h3
      | some n=>show Option.map _ (szB p f.type)=some (f.offset,(szB p f.type).getD 0);rw[hs];rfl
    rw[Z]at hf;obtain⟨out,V,Y⟩:=i9 hf J K G;refine⟨.agg out,?_,out.toList,by rw[ED],Y⟩;have U:(I.map (λx=>(x.1,a.eval x.2))).toList=I.toList.map (λx=>(x.1,a.eval x.2)):=Ad
    unfold execOp;rw[ho];simp only[Instr.build,AH,hz,run_underlying hu,AQ,hm,U,V,Bw]
  ·cases h
 ·rename_i z ss len e h1 h2 hu;obtain⟨zv,hz,G⟩:=gO (ρ:=ρ) (B:=B) (w:=w) h1;obtain⟨J,K⟩:=ie h2 H;split at h
  ·rename_i n hn
   cases hf:mq (λi=>some (i*n,n)) z ss with
   | none=>rw[hf]at h;cases h
   | some ls=>
    rw[hf]at h;simp at h;obtain⟨rfl,rfl⟩:=h;obtain⟨out,V,Y⟩:=i9 hf J K G;refine⟨.agg out,?_,out.toList,by rw[ED],Y⟩;have U:(I.map (λx=>(x.1,a.eval x.2))).toList=I.toList.map (λx=>(x.1,a.eval x.2)):=Ad
    unfold execOp;rw[ho];simp only[Instr.build,AH,hz,run_underlying hu,AQ,ba hn,U,V,Bw]
  ·cases h
 ·cases h
theorem xX{op:BinOp}{x y l:Leaf}{C F:Value}{t:TypeId}{xo yo:AP}(h:xT (gN p t) op x y=some l)(K:x.holds ρ B w C)(hy:y.holds ρ B w F):
  ∃v,l.holds ρ B w v/\((do eqGuard op t xo yo C F;binOp op t C F:Sem Value)).run p w= .ok v w:=by
 unfold xT at h;split at h
 ·rename_i G H;have I:C= .bool G:=K;have J:F= .bool H:=hy;subst I;subst J;split at h
  ·rename_i hb;have Y:p.underlying t=some .bool:=by
    unfold gN at hb;split at hb
    ·assumption
    ·cases hb
   have U:(Op.equal t (.bool G) (.bool H)).run p w= .ok (G==H) w:=by
    unfold Op.equal Op.maxDepth Op.equalIn;rw[AH,run_underlying Y];rfl
   cases op<;>simp only[A3.injEq,reduceCtorEq]at h<;>(subst h;refine⟨_,rfl,?_⟩;simp[eqGuard,binOp,AH,U,AQ])
  ·cases h
 ·rename_i Z n1 k2 n2;have I:C= .int Z n1:=K;have J:F= .int k2 n2:=hy;subst I;subst J;split at h
  ·rename_i V;subst V;cases op<;>simp only[A3.injEq,reduceCtorEq]at h<;>(subst h;refine⟨_,rfl,?_⟩;simp[eqGuard,binOp,Op.intCmp,Op.intArith,AH,AQ])<;>rfl
  ·cases h
 ·cases h
variable{k:Key}
theorem fi(C:∀i∈L,i.OkE E p ρ){xs:List SV}(F:∀f d,k≠ .mut f d)(h:cK L k xs=some s):(OIns.mk k xs s).Ok p ρ:=by
 unfold cK at h;split at h
 ·rename_i i hi;simp at h;subst h;have h1:=DT hi;simp only[BN,decide_eq_true_eq]at h1;have:=C i (Dg hi);obtain⟨G,H,I⟩:=i;obtain⟨rfl,rfl⟩:=h1;cases G<;>first | exact this | exact absurd rfl (F _ _)
 ·cases h
theorem makes_bin(Y:∀i∈L,i.OkE E p ρ){op:BinOp}{ty:TypeId}{x y:AP}(Z:o.op= .binOp op t x y ty)(h:cg p L lk (.binOp op t x y ty)=some (c,rd))(J:bj ρ B a w lk x)(K:bj ρ B a w lk y):dZ p ρ B a w o c:=by
 have fin:∀v,((do eqGuard op t x y (a.eval x) (a.eval y);binOp op t (a.eval x) (a.eval y):Sem Value)).run p w= .ok v w->(execOp a.eval o).run p w= .ok (.value v) w:=by
  intro v hv;unfold execOp;rw[Z];simp only;rw[AH,hv];rfl
 simp only[cg]at h;have C:∀(F G:SV),F.holds ρ B w (a.eval x)->G.holds ρ B w (a.eval y)->(cK L (.bin op t) [F,G]).map (λs=>(AV.v s,([]:List Nat)))=some (c,rd)->dZ p ρ B a w o c:=by
  intro F G U V hf
  cases e:cK L (.bin op t) [F,G]with
  | none=>rw[e]at hf;cases hf
  | some s=>
   rw[e]at hf;simp at hf;obtain⟨rfl,_⟩:=hf;obtain⟨v,h1,h2⟩:=(fi Y (λ_ _ h=>by cases h) e) B w [a.eval x,a.eval y] ⟨U,V,trivial⟩;exact⟨v,fin v (h2 x y),h1⟩
 split at h
 ·rename_i F G H I;split at h
  ·rename_i l hl;simp at h;obtain⟨rfl,_⟩:=h;obtain⟨v,h1,h2⟩:=xX (xo:=x) (yo:=y) hl (eB J H) (eB K I);exact⟨v,fin v h2,h1⟩
  ·exact C _ _ (eB J H) (eB K I) h
 ·rename_i F G _ H I;exact C _ _ (eB J H) (eB K I) h
 ·cases h
theorem makes_un(J:∀i∈L,i.OkE E p ρ){op:UnOp}{x:AP}(K:o.op= .unOp op t x)(h:cg p L lk (.unOp op t x)=some (c,rd))(G:bj ρ B a w lk x):dZ p ρ B a w o c:=by
 have fin:∀v,(Op.unary op (a.eval x)).run p w= .ok v w->(execOp a.eval o).run p w= .ok (.value v) w:=by
  intro v U;unfold execOp;rw[K];simp only;rw[AH,U];rfl
 have C:∀(F:SV),F.holds ρ B w (a.eval x)->(cK L (.un op) [F]).map (λs=>(AV.v s,([]:List Nat)))=some (c,rd)->dZ p ρ B a w o c:=by
  intro F H hf
  cases e:cK L (.un op) [F]with
  | none=>rw[e]at hf;cases hf
  | some s=>
   rw[e]at hf;simp at hf;obtain⟨rfl,_⟩:=hf;obtain⟨v,h1,h2⟩:=(fi J (λ_ _ h=>by cases h) e) B w [a.eval x] ⟨H,trivial⟩;exact⟨v,fin v h2,h1⟩
 cases op with
 | not=>
  simp only[cg]at h;split at h
  ·rename_i b e;simp at h;obtain⟨rfl,_⟩:=h;have I:a.eval x= .bool b:=eC G e;exact⟨_,fin (.bool (!b)) (by rw[I];rfl),rfl⟩
  ·rename_i l _ e;exact C (.one l) (eC G e) h
  ·cases h
 | _=>
  simp only[cg]at h;split at h
  ·rename_i s e;exact C _ (eB G e) h
  ·cases h
theorem Ak{p:Prop}(h:p:=by assumption):p:=h
theorem xY(V:∀i∈L,i.OkE E p ρ){s d:TypeId}{x:AP}(Y:o.op= .convert s d x)(h:cg p L lk (.convert s d x)=some (c,rd))(G:bj ρ B a w lk x):dZ p ρ B a w o c:=by
 have fin:∀v,(convert s d (a.eval x)).run p w= .ok v w->(execOp a.eval o).run p w= .ok (.value v) w:=by
  intro v Z;unfold execOp;rw[Y];simp only;rw[AH,Z];rfl
 have C:∀(F:SV),F.holds ρ B w (a.eval x)->(cK L (.conv s d) [F]).map (λs=>(AV.v s,([]:List Nat)))=some (c,rd)->dZ p ρ B a w o c:=by
  intro F H hf
  cases e:cK L (.conv s d) [F]with
  | none=>rw[e]at hf;cases hf
  | some s=>
   rw[e]at hf;simp at hf;obtain⟨rfl,_⟩:=hf;obtain⟨v,h1,h2⟩:=(fi V (λ_ _ h=>by cases h) e) B w [a.eval x] ⟨H,trivial⟩;exact⟨v,fin v h2,h1⟩
 simp only[cg]at h;split at h
 ·rename_i k0 n k1 k I J K;simp at h;obtain⟨rfl,_⟩:=h;have U:a.eval x= .int k0 n:=eC G I;refine⟨_,fin (.int k (k.wrap n)) ?_,rfl⟩;rw[U];unfold convert;rw[AH,run_underlying J];simp only[AQ];rw[AH,run_underlying K];rfl
 ·rename_i l _ e;exact C (.one l) (eC G Ak) h
 ·split at h
  ·rename_i F e;exact C _ (eB G e) h
  ·cases h
theorem makes_len(G:∀i∈L,i.OkE E p ρ){k:Call}(I:o.op= .call k)(h:cg p L lk (.call k)=some (c,rd))(H:∀x∈k.args.toList,bj ρ B a w lk x):dZ p ρ B a w o c:=by
 obtain⟨J,args,tt⟩:=k;simp only[cg]at h;split at h
 ·rename_i x t C ht;split at h
  ·rename_i s e
   cases e3:cK L (.len t) [s]with
   | none=>rw[e3]at h;cases h
   | some r=>
    rw[e3]at h;simp at h;obtain⟨rfl,_⟩:=h;obtain⟨v,h1,h2⟩:=(fi G (λ_ _ h=>by cases h) e3) B w [a.eval x] ⟨eB (H x (by simp[C])) e,trivial⟩;refine⟨v,?_,h1⟩;have F:args=#[x]:=by
     obtain⟨l⟩:=args;simp only at C;subst C;rfl
    subst F;unfold execOp;rw[I];simp only[resolve,AH,Bw,AQ,invoke,builtin];have:=h2 tt o.type ht;simp only[CJ,Bq,BS];rw[this]
  ·cases h
 ·rename_i x y _ C ht;split at h
  ·rename_i s s' e e'
   cases e3:cK L .max [s,s']with
   | none=>rw[e3]at h;cases h
   | some r=>
    rw[e3]at h;simp at h;obtain⟨rfl,_⟩:=h;obtain⟨v,h1,h2⟩:=(fi G (λ_ _ h=>by cases h) e3) B w [a.eval x,a.eval y] ⟨eB (H x (by simp[C])) e,eB (H y (by simp[C])) e',trivial⟩;refine⟨v,?_,h1⟩;have F:args=#[x,y]:=by
     obtain⟨l⟩:=args;simp only at C;subst C;rfl
    subst F;unfold execOp;rw[I];simp only[resolve,AH,Bw,AQ,invoke,builtin];have:=h2 tt o.type;simp only[CJ,Bq,BS];rw[this]
  ·cases h
 ·cases h
theorem Am{p:Prop}(h:p:=by simp[Dx]):p:=h
theorem makes_all(F:∀i∈L,i.OkE E p ρ)(h:cg p L lk o.op=some (c,rd))(H:∀x∈o.op.operands.toList,bj ρ B a w lk x)(I:∀y∈rd,∀c,lk y=some c->bN ρ B a w y c):dZ p ρ B a w o c:=by
 obtain⟨op,C⟩:∃op,o.op=op:=⟨_,rfl⟩;rw[C]at h H
 cases op with
 | move x=>exact pu (.inl C) h (H x Am)
 | assign x=>exact pu (.inr C) h (H x Am)
 | pick k x y=>exact xV C h (H k Am) (H x Am) (H y Am)
 | extract x k=>exact qX C h (H x Am)
 | load t x=>exact xW C h (H x Am) I
 | fieldAddr t x f=>exact oM C h (H x Am)
 | indexAddr t x ix=>exact oN C h (H x Am) (H ix Am)
 | build t ps=>exact uY C h (λx G=>H x.2 (by simp only[Dx,Ba];exact⟨x,G,rfl⟩))
 | field t x f=>exact uU C h (H x Am)
 | index t x ix=>exact uV C h (H x Am) (H ix Am)
 | binOp op t x y ty=>exact makes_bin F C h (H x Am) (H y Am)
 | unOp op t x=>exact makes_un F C h (H x Am)
 | convert s d x=>exact xY F C h (H x Am)
 | call k=>exact makes_len F C h (λx G=>H x (by simp only[Dx,Fb,Fc,AG];exact .inr G))
 | _=>simp[cg]at h
theorem fZ:∀ {xs:List AP} {C:List SV},oL lk xs=some C->(∀x∈xs,bj ρ B a w lk x)->cO ρ B w C (xs.map a.eval)
 | [],C,h,_=>by simp[oL]at h;subst h;trivial
 | x::xs,C,h,H=>by
  simp only[oL]at h;split at h
  ·rename_i s l h1 h2;simp at h;subst h;exact⟨eB (H x Ad) h1,fZ h2 (λy hy=>H y (Bf _ hy))⟩
  ·cases h
variable{xs:List AP}
theorem makes_gen(J:∀i∈L,i.OkE E p ρ){I:List SV}(C:genO o.op=some (k,xs))(hs:oL lk xs=some I)(hf:cK L k I=some s)(H:∀x∈xs,bj ρ B a w lk x):dZ p ρ B a w o (.v s):=by
 have K:=fZ hs H;have G:=(fi J (λf d e=>by subst e;revert C;unfold genO;split<;>simp) hf) B w _ K;obtain⟨op,F⟩:∃op,o.op=op:=⟨_,rfl⟩;rw[F]at C;unfold genO at C;split at C<;>first | (cases C;done) | skip
 all_goals
  simp only[A3.injEq,Ck.injEq]at C;obtain⟨rfl,rfl⟩:=C
  first
  | (obtain⟨v,h1,h2⟩:=G;refine⟨v,?_,h1⟩;unfold execOp;rw[F];simp only[BG,Option.map_none];rw[AH];(first | rw[h2] | skip);rfl)
  | (obtain⟨U,h1,h2⟩:=G;refine⟨_,?_,h2⟩;unfold execOp;rw[F];simp only[h1];rfl)
theorem genO_sub{op:Op}(C:genO op=some (k,xs)):∀x∈xs,x∈op.operands.toList:=by
 unfold genO at C;split at C<;>first | (cases C;done) | skip
 all_goals
  simp only[A3.injEq,Ck.injEq]at C;obtain⟨rfl,rfl⟩:=C;simp[Dx]
theorem makes_any(F:∀i∈L,i.OkE E p ρ)(h:rH p L lk o.op=some (c,rd))(H:∀x∈o.op.operands.toList,bj ρ B a w lk x)(I:∀y∈rd,∀c,lk y=some c->bN ρ B a w y c):dZ p ρ B a w o c:=by
 unfold rH at h;split at h
 ·rename_i r K;simp only[A3.injEq]at h;subst h;exact makes_all F K H I
 ·split at h
  ·rename_i c' hn;simp only[A3.injEq,Ck.injEq]at h;obtain⟨rfl,rfl⟩:=h;obtain⟨op,G⟩:∃op,o.op=op:=⟨_,rfl⟩;rw[G]at hn H;unfold nilO at hn;split at hn
   ·rename_i x;split at hn
    ·rename_i v off e;simp only[A3.injEq]at hn;subst hn;obtain⟨g,C,J⟩:=(eC (H x Am) e:Leaf.holds ρ B w (.ptr v off) (a.eval x));refine⟨_,?_,g,C,rfl⟩;unfold execOp;rw[G];simp only[J];rfl
    ·cases hn
   ·cases hn
  ·split at h
   ·rename_i k xs C;split at h
    ·rename_i V hs
     cases hf:cK L k V with
     | none=>rw[hf]at h;cases h
     | some s=>
      rw[hf]at h;simp only[BG,A3.injEq,Ck.injEq]at h;obtain⟨rfl,rfl⟩:=h;exact makes_gen F C hs hf (λx U=>H x (genO_sub C x U))
    ·cases h
   ·cases h
end
structure Inst where
 f:BL
 args:List SV
 res:AV
def Inst.Ok(p:AW)(ρ:Rho)(i:Inst):Prop:=
 (∀(vs:Array Value)(w:World),(callFunc i.f vs).run p w= .ok (.enter i.f vs) w)/\
 ∀(B:Blk)(w:World)(vs:List Value),BOk B w.heap.size->cO ρ B w i.args vs->AC p i.f vs.toArray w (λe w'=>∃v,e= .returned v/\i.res.holds ρ B w' v/\mBw w w')
def Inst.Ok0(p:AW)(ρ:Rho)(w0:Ent)(i:Inst):Prop:=
 (∀(vs:Array Value)(w:World),(callFunc i.f vs).run p w= .ok (.enter i.f vs) w)/\
 ∀(B:Blk)(w:World)(vs:List Value),w0.kept w->BOk B w.heap.size->cO ρ B w i.args vs->AC p i.f vs.toArray w (λe w'=>∃v,e= .returned v/\i.res.holds ρ B w' v/\mBw w w')
theorem Inst.Ok.to0{p:AW}{i:Inst}(h:i.Ok p ρ)(w0:Ent):i.Ok0 p ρ w0:=⟨h.1,λB w vs _ C F=>h.2 B w vs C F⟩
variable{C:World->Prop}
theorem mMo{A B:World->Value->Prop}(f:∀ {w':World} {v:Value},A w' v->B w' v):∀(e:BB)(w':World),(∃v,e= .returned v/\A w' v/\C w')->∃v,e= .returned v/\B w' v/\C w':=λ_ _ ⟨v,e,h1,h2⟩=>⟨v,e,f h1,h2⟩
theorem mMr{u:Value}:∀(e:BB)(w':World),(∃v,e= .returned v/\v=u/\C w')->e= .returned u/\C w':=λ_ _ ⟨_,e,h1,h2⟩=>⟨h1▸e,h2⟩
abbrev mIp(ρ:Rho)(B:Blk)(r:AV)(w:World)(f:BL)(vs:Array Value):Prop:=AC AB f vs w (λe w'=>∃v,e= .returned v/\r.holds ρ B w' v/\Below w.heap.size w w')
variable{f:BL}{r:AV}
theorem mI1(hf:AB.funcs[f]? =some fn)(h:∀ {B:Blk} {w:World} {a:Value},s.holds ρ B w a->mIp ρ B r w f #[a])(hn:(fn.name== "runtime.NumGoroutine")=false:=by rfl)(hb:fn.body.isNone=false:=by rfl):Inst.Ok AB ρ ⟨f,[s],r⟩:=
 ⟨ah hf hn hb,λB w vs C k=>by
  match vs,k with
  | [_],k=>exact h k.1⟩
theorem mI2{t:SV}(hf:AB.funcs[f]? =some fn)(h:∀ {B:Blk} {w:World} {a b:Value},s.holds ρ B w a->t.holds ρ B w b->mIp ρ B r w f #[a,b])(hn:(fn.name== "runtime.NumGoroutine")=false:=by rfl)(hb:fn.body.isNone=false:=by rfl):Inst.Ok AB ρ ⟨f,[s,t],r⟩:=
 ⟨ah hf hn hb,λB w vs C k=>by
  match vs,k with
  | [_,_],k=>exact h k.1 k.2.1⟩
theorem mI3{t u:SV}(hf:AB.funcs[f]? =some fn)(h:∀ {B:Blk} {w:World} {a b c:Value},s.holds ρ B w a->t.holds ρ B w b->u.holds ρ B w c->mIp ρ B r w f #[a,b,c])(hn:(fn.name== "runtime.NumGoroutine")=false:=by rfl)(hb:fn.body.isNone=false:=by rfl):Inst.Ok AB ρ ⟨f,[s,t,u],r⟩:=
 ⟨ah hf hn hb,λB w vs C k=>by
  match vs,k with
  | [_,_,_],k=>exact h k.1 k.2.1 k.2.2.1⟩
def wrD(d:Option Tmp)(c:AV):List (Nat×AV):=match d with | some d=>[(d,c)] | none=>[]
def okD(nt:Nat)(d:Option Tmp):Bool:=match d with | some d=>decide (d<nt) && decide (d<100000) | none=>true
def dK(v:Nat):Nat->List Leaf->List (Nat×AV)
 | _,[]=>[]
 | k,l::ls=>(oK v k,.v (.one l))::dK v (k+1) ls
def mv(ls:List Leaf):Bool:=ls.all Leaf.flat
def aao(C:List Inst)(f:BL)(xs:List SV):Option AV:=match C.find? (λi=>decide (i.f=f) && decide (i.args=xs))with | some i=>some i.res | none=>none
def jF(op:Op):List Nat:=op.operands.toList.flatMap rdO
def u6Q(L:List OIns)(f:BL)(xs:List SV)(pb:MutD->Bool):Option MutD:=match L.find? (λo=>match o.key with | .mut g d=>(decide (g=f) && decide (o.xs=xs)) && pb d | _=>false)with
 | some ⟨.mut _ d,_,_⟩=>some d
 | _=>none
def mw(i:Nat):Leaf->Bool
 | .sl0=>true
 | .own k _=>k==i
 | _=>false
def preE(lk:Nat->Option AV)(vts:List (TypeId×Nat))(q:Nat×TypeId×List Leaf):Bool:=
 decide (vts[q.1]? =some (q.2.1,q.2.2.length)) && (decide (0<q.2.2.length/\q.2.2.length<=100000) && decide (iX lk q.1 0 q.2.2.length=some q.2.2))
def usE(vts:List (TypeId×Nat))(q:Nat×TypeId×List Leaf):Bool:=decide (vts[q.1]? =some (q.2.1,q.2.2.length)) && decide (q.2.2.length<=100000)
def nvE(vts:List (TypeId×Nat)):Option (Nat×TypeId×List Leaf)->Bool
 | some q=>decide (q.1=vts.length/\vts.length<OW/\q.2.2.length<=100000)
 | none=>true
def py(nt:Nat)(args:List AP):List (Nat×SV)->Option (List (Nat×AV))
 | []=>some []
 | (i,c)::r=>match args[i]?,py nt args r with
  | some (.tmp t),some l=>if t<100000/\t<nt then some ((t,.v c)::l)else none
  | _,_=>none
def nvW:Option (Nat×TypeId×List Leaf)->List (Nat×AV)
 | some q=>dK q.1 0 q.2.2
 | none=>[]
def mutE(nt:Nat)(lk:Nat->Option AV)(vts:List (TypeId×Nat))(op:Op)(args:List AP)(dst:Option Tmp)(d:MutD):Option (Eff×List (TypeId×Nat)):=
 if d.pre.all (preE lk vts) && (d.us.all (usE vts) && nvE vts d.nv)then
  match py nt args d.keep with
  | some kw=>if kw.all (λq=>decide (dst≠some q.1))then some (⟨jF op++d.pre.flatMap (λq=>mo q.1 0 q.2.2.length),wrD dst (mutR d.xs)++(kw++(d.us.flatMap (λq=>dK q.1 0 q.2.2)++nvW d.nv)),d.nv.map (·.1),d.ks,[]⟩,d.nv.toList.map λq=>(q.2.1,q.2.2.length))else none
  | none=>none
 else none
def u7Q(p:AW)(C:List Inst)(L:List OIns)(nt:Nat)(lk:Nat->Option AV)(vts:List (TypeId×Nat))(o:Oper):Option (Eff×List (TypeId×Nat)):=
 if !okD nt o.dst then none else
 let pv:Option (Eff×List (TypeId×Nat)):=match rH p L lk o.op with
  | some (c,rd)=>some (⟨jF o.op++rd,wrD o.dst c,none,[],[]⟩,[])
  | none=>none
 match o.op with
 | .alloc t=>match o.dst,uQ p t with
  | some d,some z=>if mv z/\z.length<=100000/\vts.length<OW then some (⟨[],(d,.v (.one (.ptr vts.length 0)))::dK vts.length 0 z,some vts.length,[],[]⟩,[(t,z.length)])else none
  | _,_=>none
 | .box t x=>match o.dst,evS lk x with
  | some d,some s=>if mv s.leaves/\s.leaves.length<=100000/\vts.length<OW then some (⟨rdO x,(d,.v (.one (.ptr vts.length 0)))::dK vts.length 0 s.leaves,some vts.length,[],[]⟩,[(t,s.leaves.length)])else none
  | _,_=>none
 | .store t x y=>match o.dst,evL lk x,evS lk y with
  | none,some (.ptr v off),some s=>match vts[v]? with
   | some (_,n)=>if szB p t=some s.leaves.length/\mv s.leaves/\off+s.leaves.length<=n/\n<=100000/\v<OW then some (⟨rdO x++rdO y,dK v off s.leaves,none,[],[]⟩,[])else none
   | none=>none
  | _,_,_=>none
 | .call k=>match k.callee with
  | .value z=>match evL lk z,oL lk k.args.toList with
   | some (.fn f),some xs=>match aao C f xs with
    | some r=>some (⟨jF o.op,wrD o.dst r,none,[],[]⟩,[])
    | none=>match u6Q L f xs (λd=>d.pre.all (preE lk vts))with
     | some d=>mutE nt lk vts o.op k.args.toList o.dst d
     | none=>none
   | _,_=>none
  | .builtin .append=>match o.dst,k.args.toList,k.argTypes.toList with
   | some d,[x,y],[t,t']=>match evL lk x,evL lk y with
    | some lx,some ly=>if t=t' then match cK L (.app t) [.one lx,.one ly]with
      | some (.one (.own i m))=>if mw i lx then some (⟨jF o.op,[(d,.v (.one (.own i m)))],none,[i],[]⟩,[])else none
      | _=>none
     else none
    | _,_=>none
   | _,_,_=>none
  | _=>pv
 | .buildSlice t n parts=>match o.dst,oL lk (parts.toList.map (·.2))with
  | some _,some xs=>(cK L (.bs t n (parts.toList.map (·.1))) xs).map λr=>(⟨jF o.op,wrD o.dst (.v r),none,[],[]⟩,[])
  | _,_=>none
 | _=>pv
def xZ(p:AW)(C:List Inst)(L:List OIns)(nt:Nat)(ops:Array Oper)(lk:Nat->Option AV)(vts:List (TypeId×Nat))(o:Oper):Option (Eff×List (TypeId×Nat)):=
 match o.guard with
 | none=>u7Q p C L nt lk vts o
 | some (g,b)=>match bZ ops g with
  | some t=>match evA lk (.tmp t)with
   | some (.v (.one (.b x)))=>if x=b then(u7Q p C L nt lk vts o).map λe=>({e.1 with rd:=t::e.1.rd},e.2)else if okD nt o.dst then some (⟨[t],wrD o.dst .any,none,[],[]⟩,[])else none
   | some .any=>if okD nt o.dst then some (⟨[t],wrD o.dst .any,none,[],[]⟩,[])else none
   | _=>none
  | none=>none
section
variable {p:AW} {ρ:Rho} {B B':Blk} {a a':Act} {w w':World} {w0:Ent} {C:List Inst} {L:List OIns} {lk:Nat->Option AV} {vt:List (TypeId×Nat)} {nt:Nat} {Q:A4->Act->World->Prop} {o:Oper} {ops:Array Oper}
theorem bN.below{x:Nat}(h:bN ρ B a w x c)(G:BLe B B')(H:xP w.heap.size B B')(hb:mBw w w')(ht:x<100000->a'.tmps[x]? =a.tmps[x]?):bN ρ B' a' w' x c:=by
 unfold bN at h⊢;split at h
 ·rename_i F;rw[if_pos F];obtain⟨u,h1,h2⟩:=h;exact⟨u,by rw[ht F];exact h1,h2.mono G H hb⟩
 ·rename_i F;rw[if_neg F];obtain⟨g,cs,ty,u,h1,h2,h3,I⟩:=h;exact⟨g,cs,ty,u,G.v _ _ h1,by rw[hb.block g (AZ.1 h2).1];exact h2,h3,I.mono G H hb⟩
theorem Inv.below'(h:Inv vt w0 nt B a w)(hb:mBw w w')(hs:a'.tmps.size=a.tmps.size)(H:a'.defers=a.defers):Inv vt w0 nt B a' w':=
 ⟨λv g F=>by
  obtain⟨h1,cs,ty,h2,h3,G⟩:=h.blk v g F;exact⟨h1,cs,ty,h2,by rw[hb.block g (AZ.1 h3).1];exact h3,G⟩,
  λk g F=>by
  obtain⟨h1,h2⟩:=h.own k g F;exact⟨h1,h2.blk (hb.block g h2.1) hb.size⟩,
  h.inj,h.below.below hb,by rw[hs,h.size],by rw[H,h.dfr],h.pin⟩
theorem my(d:Option Tmp)(v:Value):(a.put d v).tmps.size=a.tmps.size:=by cases d<;>simp[AI]
theorem oX(d:Option Tmp)(v:Value):(a.put d v).defers=a.defers:=by cases d<;>rfl
variable{d:Option Tmp}
theorem pz{x:Nat}(h:∀t,d=some t->t≠x):(a.put d v).tmps[x]? =a.tmps[x]? :=by
 cases d with
 | none=>rfl
 | some t=>simp[AI,DQ,h t rfl]
theorem tk{d:Tmp}(h:d<a.tmps.size):(a.put (some d) v).tmps[d]? =some v:=by simp[AI,h]
theorem gg{rd:List Nat}(hi:Inv vt w0 nt B a w)(F:okD nt d=true)(hb:mBw w w')(I:c.holds ρ B w' v):
  Post ρ vt w0 nt ⟨rd,wrD d c,none,[],[]⟩ B a w B (a.put d v) w':=by
 refine⟨BLe.refl,hi.below' hb (my _ _) (oX _ _),λq H=> ?_,λx c' J G _=>J.below BLe.refl .refl hb (λ_=>pz (λt ht=> ?_)),λu h1 h2=>absurd h1 h2⟩
 ·cases d with
  | none=>cases H
  | some t=>
   simp only[wrD,BD]at H;subst H;simp only[okD,BN,decide_eq_true_eq]at F;unfold bN;rw[if_pos F.2];exact⟨v,tk (by rw[hi.size];exact F.1),I⟩
 ·subst ht;exact G (t,c) (by simp[wrD])
theorem kU:∀ {ls:List Leaf} {v k:Nat} {q:Nat×AV},q∈dK v k ls↔∃j l,ls[j]? =some l/\q=(oK v (k+j),.v (.one l))
 | [],v,k,q=>by simp[dK]
 | l::ls,v,k,q=>by
  simp only[dK,AS,kU (ls:=ls)];constructor
  ·rintro(rfl | ⟨j,F,h1,rfl⟩)
   ·exact⟨0,l,rfl,rfl⟩
   ·exact⟨j+1,F,by simpa using h1,by rw[show k+1+j=k+(j+1)from no]⟩
  ·rintro⟨j,F,h1,rfl⟩
   match j with
   | 0=>simp at h1;subst h1;exact .inl rfl
   | j+1=>exact .inr ⟨j,F,by simpa using h1,by rw[show k+1+j=k+(j+1)from no]⟩
theorem Inv.bok(hi:Inv vt w0 nt B a w):BOk B w.heap.size:=λg h=>by
 rcases h with⟨x,h⟩ | ⟨k,h⟩
 ·obtain⟨_,cs,ty,_,h3,_⟩:=hi.blk x g h;exact(AZ.1 h3).1
 ·exact(hi.own k g h).2.1
theorem u9Q{rd:List Nat}{d:Tmp}{ls:List Leaf}{nv:Nat}(hi:Inv vt w0 nt B a w)(Z:okD nt (some d)=true)(hf:mv ls=true)(hl:ls.length<=100000)(hc:aD ρ B w ls cs.toList)
  (hv:vt[nv]? =some (t,ls.length))(hn:B.v nv=none):
  Post ρ vt w0 nt ⟨rd,(d,.v (.one (.ptr nv 0)))::dK nv 0 ls,some nv,[],[]⟩ B a w (⟨λv=>if v=nv then some w.heap.size else B.v v,B.o⟩:Blk) (a.put (some d) (.pointer (some ⟨w.heap.size,0,none⟩))) (w.alloc (.cells cs t)):=by
 have G:BLe B (⟨λv=>if v=nv then some w.heap.size else B.v v,B.o⟩:Blk):=⟨λv g h=>by
  show(if v=nv then _ else _)=_;rw[if_neg (λe=>by rw[e,hn]at h;cases h)];exact h,λ_ _ h=>h⟩
 have hN:xP w.heap.size B (⟨λv=>if v=nv then some w.heap.size else B.v v,B.o⟩:Blk):=λg F=>by
  rcases F with⟨x,V⟩ | ⟨k,J⟩
  ·by_cases e:x=nv
   ·simp only[e,if_true,A3.injEq]at V;exact .inr no
   ·simp only[e,if_false]at V;exact .inl (.inl ⟨x,V⟩)
  ·exact .inl (.inr ⟨k,J⟩)
 have hb:=iz w (.cells cs t);have H:(w.alloc (.cells cs t)).heap[w.heap.size]? =some (.cells cs t (0,0)):=heap_alloc_new w _;have I:∀v g,B.v v=some g->g<w.heap.size:=λv g h=>hi.bok g (.inl ⟨v,h⟩)
 have U:cs.size=ls.length:=by have:=hc.len;simpa using this
 refine⟨G,⟨λv g F=> ?_,λk g F=> ?_,⟨λv v' g h1 h2=> ?_,hi.inj.o,λv k g h1 h2=> ?_⟩,hi.below.below hb,by rw[my,hi.size],by rw[oX,hi.dfr],λx g h=>G.v _ _ (hi.pin x g h)⟩,λq hq=> ?_,λx c V aa _=>V.below G hN hb (λ_=>pz (λt ht=> ?_)),λu h1 h2=> ?_⟩
 ·by_cases e:v=nv
  ·subst e;simp only[if_true,A3.injEq]at F;subst F;refine⟨.inl hi.below.size,cs,t,by rw[hv,U],H,λk n J=> ?_⟩;rw[<-GQ]at J;have K:k<ls.length:=by rw[<-hc.len];exact(AX.1 J).1
   obtain⟨u,h1,h2⟩:=hc.get (AJ K);rw[J]at h1;injection h1 with h1;subst h1;exact(h2.flat (Ca.1 hf _ (List.getElem_mem K))).2.2 n rfl
  ·simp only[e,if_false]at F;obtain⟨h1,Y,ty,h2,h3,h4⟩:=hi.blk v g F;exact⟨h1,Y,ty,h2,by rw[hb.block g (I v g F)];exact h3,h4⟩
 ·obtain⟨h1,h2⟩:=hi.own k g F;exact⟨h1,h2.blk (hb.block g h2.1) hb.size⟩
 ·by_cases e:v=nv<;>by_cases e':v'=nv
  ·rw[e,e']
  ·simp only[e,e',if_true,if_false,A3.injEq]at h1 h2;have:=I v' g h2;omega
  ·simp only[e,e',if_true,if_false,A3.injEq]at h1 h2;have:=I v g h1;omega
  ·simp only[e,e',if_false]at h1 h2;exact hi.inj.v v v' g h1 h2
 ·by_cases e:v=nv
  ·simp only[e,if_true,A3.injEq]at h1;have:=(hi.own k g h2).2.1;omega
  ·simp only[e,if_false]at h1;exact hi.inj.vo v k g h1 h2
 ·rcases AS.1 hq with rfl | hq
  ·simp only[okD,BN,decide_eq_true_eq]at Z;unfold bN;rw[if_pos Z.2];exact⟨_,tk (by rw[hi.size];exact Z.1),w.heap.size,Ad,rfl⟩
  ·obtain⟨j,l,h1,rfl⟩:=kU.1 hq;have ab:=(AX.1 h1).1;obtain⟨u,h2,h3⟩:=hc.get h1;rw[A5,ke no];exact⟨w.heap.size,cs,t,u,Ad,H,by rw[<-GQ];exact h2,(h3.mono G hN hb:Leaf.holds ρ _ _ l u)⟩
 ·injection ht with ht;subst ht;exact aa (d,.v (.one (.ptr nv 0))) Ad
 ·by_cases e:u=nv
  ·rw[e]
  ·simp only[e,if_false]at h2;exact absurd h1 h2
end
section
variable {p:AW} {ρ:Rho} {B B':Blk} {a a':Act} {w w':World} {w0:Ent} {C:List Inst} {L:List OIns} {nt i:Nat} {Q:A4->Act->World->Prop} {o:Oper} {ops:Array Oper} {v:Value} {vt:List (TypeId×Nat)} {ks:List Nat} {X:Nat->Prop} {lk:Nat->Option AV}
structure Reb(B B':Blk)(ks:List Nat)(w w':World)(X:Nat->Prop):Prop where
 le:BLe B B'
 new:xP w.heap.size B B'
 old:∀g,X g->(∃k∈ks,B.o k g)\/∃x,B.v x=some g
 inj:BInj B
 chg:Chg w w' X
theorem Leaf.holds.reb{l:Leaf}(h:l.holds ρ B w v)(hn:∀k∈l.objs,k∉ks)(r:Reb B B' ks w w' X):l.holds ρ B' w' v:=by
 cases l<;>simp only[Leaf.holds]at h⊢ <;>try exact h
 ·obtain⟨g,h1,h2⟩:=h;exact⟨g,r.le.v _ _ h1,h2⟩
 ·obtain⟨s,h1,h2,h3⟩:=h;obtain⟨H,G⟩:=s.ch _ _ _ _ h2 r.chg (λg F I=>h3 g F (by
   rcases r.old g I with⟨k,_,h⟩ | ⟨x,h⟩
   ·exact .inr ⟨k,h⟩
   ·exact .inl ⟨x,h⟩))
  refine⟨s,h1,H,λg F U=> ?_⟩;rcases r.new g U with h | h
  ·exact h3 g (G g F) h
  ·have:=s.lt _ _ _ h2 (G g F);omega
 ·rename_i k m;obtain⟨s,h1,h2,h3,J⟩:=h;have K:k∉ks:=hn k (by simp[Leaf.objs]);obtain⟨H,G⟩:=s.ch _ _ _ _ h2 r.chg (λg F I=>by
   rcases r.old g I with⟨l,hl,h⟩ | ⟨x,h⟩
   ·have:=r.inj.o _ _ _ h (h3 g F);subst this;exact K hl
   ·exact r.inj.vo _ _ _ h (h3 g F))
  exact⟨s,h1,H,λg F=>r.le.o _ _ (h3 g (G g F)),λg F=>r.le.o _ _ (J g F)⟩
theorem aD.reb(r:Reb B B' ks w w' X):∀ {ls:List Leaf} {vs:List Value},aD ρ B w ls vs->(∀k∈ls.flatMap Leaf.objs,k∉ks)->aD ρ B' w' ls vs
 | [],[],_,_=>trivial
 | _::_,_::_,h,hn=>⟨h.1.reb (λk F=>hn k (by simp[F])) r,aD.reb r h.2 (λk F=>hn k (by rw[Cw];exact AG.2 (.inr F)))⟩
 | [],_::_,h,_=>h.elim
 | _::_,[],h,_=>h.elim
theorem SV.holds.reb(h:s.holds ρ B w v)(hn:∀k∈s.objs,k∉ks)(r:Reb B B' ks w w' X):s.holds ρ B' w' v:=by
 cases s with
 | one l=>exact Leaf.holds.reb h hn r
 | agg ls=>obtain⟨vs,e,h⟩:=h;exact⟨vs,e,h.reb r hn⟩
theorem cO.reb(r:Reb B B' ks w w' X):∀ {ls:List SV} {vs:List Value},cO ρ B w ls vs->(∀k∈ls.flatMap SV.objs,k∉ks)->cO ρ B' w' ls vs
 | [],[],_,_=>trivial
 | _::_,_::_,h,hn=>⟨h.1.reb (λk F=>hn k (by simp[F])) r,cO.reb r h.2 (λk F=>hn k (by rw[Cw];exact AG.2 (.inr F)))⟩
 | [],_::_,h,_=>h.elim
 | _::_,[],h,_=>h.elim
theorem AV.holds.reb(h:c.holds ρ B w v)(hn:c.hit ks=false)(r:Reb B B' ks w w' X):c.holds ρ B' w' v:=by
 have hn:∀k∈c.objs,k∉ks:=λk F=>by
  unfold AV.hit at hn;have:=List.any_eq_false.1 hn k F;simpa using this
 cases c with
 | v s=>exact SV.holds.reb h hn r
 | tup xs=>obtain⟨vs,e,h⟩:=h;exact⟨vs,e,h.reb r hn⟩
 | any=>exact h
theorem bN.reb{x:Nat}(h:bN ρ B a w x c)(hn:c.hit ks=false)(r:Reb B B' ks w w' X)(H:¬x<100000->∀g,B.v (x / 100000 - 1)=some g->g<w.heap.size->(∀cs ty,w.heap[g]? =some (.cells cs ty (0,0))->x % 100000<cs.size->¬X g))(ht:x<100000->a'.tmps[x]? =a.tmps[x]?):bN ρ B' a' w' x c:=by
 unfold bN at h⊢;split at h
 ·rename_i G;rw[if_pos G];obtain⟨u,h1,h2⟩:=h;exact⟨u,by rw[ht G];exact h1,h2.reb hn r⟩
 ·rename_i G;rw[if_neg G];obtain⟨g,cs,ty,u,h1,h2,h3,I⟩:=h;have F:=(AZ.1 h2).1;exact⟨g,cs,ty,u,r.le.v _ _ h1,by rw[r.chg.blk g F (H G g h1 F cs ty h2 (AZ.1 h3).1)];exact h2,h3,I.reb hn r⟩
theorem ve{F:Leaf}{x:Value}(h:mw i F=true)(hl:F.holds ρ B w x):∀g,x.ownBlock=some g->B.o i g:=by
 intro g G
 cases F with
 | sl0=>
  have e:x= .slice none 0 0:=hl;subst e;cases G
 | own k m=>
  have:k=i:=by simpa [mw]using h
  subst this;obtain⟨s,_,_,_,H⟩:=hl;exact H g G
 | _=>simp[mw]at h
variable{k:Call}{K:Act->World->Prop}
theorem ok_app(hO:∀i∈L,i.OkE w0 p ρ){d:Tmp}{x y:AP}{lx ly:Leaf}(aq:o.op= .call k)(Y:k.callee= .builtin .append)(hd:o.dst=some d)(U:k.args.toList=[x,y])(an:k.argTypes.toList=[t,t])(hx:evL lk x=some lx)(hy:evL lk y=some ly)
  (hf:cK L (.app t) [.one lx,.one ly]=some (.one (.own i m)))(aa:mw i lx=true)(Z:okD nt (some d)=true)(hi:Inv vt w0 nt B a w)(Hx:bj ρ B a w lk x)(Hy:bj ρ B a w lk y){rd:List Nat}
 (hK:∀B' a' w',Post ρ vt w0 nt ⟨rd,[(d,.v (.one (.own i m)))],none,[i],[]⟩ B a w B' a' w'->K a' w'):Bk p o a w K Q:=by
 have ex:=eC Hx hx;have ey:=eC Hy hy;have G:=ve aa ex;obtain⟨v,w',am,F,ar,J,s1,av,au,ab⟩:=(fi hO (λ_ _ h=>by cases h) hf) B w [a.eval x,a.eval y] ⟨ex,ey,trivial⟩ o.type;simp only[okD,BN,decide_eq_true_eq]at Z;have ao:(execOp a.eval o).run p w= .ok (.value v) w':=by
  obtain⟨ay,args,tt⟩:=k;simp only at Y U an;subst Y;have ea:args=#[x,y]:=by rw[<-Array.toList_inj];exact U
  have et:tt=#[t,t]:=by rw[<-Array.toList_inj];exact an
  subst ea;subst et;unfold execOp;simp only[aq,resolve,invoke,builtin,AH,Bw,Result.andThen_ok,CJ,Bq,BS,am]
 unfold Bk;rw[ao,EE,hd];have ad:∀k g,k≠i->B.o k g->v.ownBlock≠some g:=λk g hx I H=>by
  rcases(J g H).1 with h | h
  ·exact hx (hi.inj.o _ _ _ I (G g h))
  ·have:=hi.bok g (.inr ⟨k,I⟩);omega
 have ap:∀x g,B.v x=some g->v.ownBlock≠some g:=λx g I H=>by
  rcases(J g H).1 with h | h
  ·exact hi.inj.vo _ _ _ I (G g h)
  ·have:=hi.bok g (.inl ⟨x,I⟩);omega
 have r:Reb B ⟨B.v,λk g=>B.o k g\/(k=i/\v.ownBlock=some g)⟩ [i] w w' (λg=>(a.eval x).ownBlock=some g):=by
  refine⟨⟨λ_ _ h=>h,λ_ _ h=>.inl h⟩,λg H=> ?_,λg V=>.inl ⟨i,Ad,G g V⟩,hi.inj,⟨F.size,λg H V=>F.block g H (λe=>V e.symm),λg V=>(hi.own _ g (G g V)).2⟩⟩;rcases H with⟨x,h⟩ | ⟨k,h | ⟨_,h⟩⟩
  ·exact .inl (.inl ⟨x,h⟩)
  ·exact .inl (.inr ⟨k,h⟩)
  ·exact(J g h).1.imp (λh=>.inr ⟨i,G g h⟩) id
 have ax:∀x g,B.v x=some g->w'.heap[g]? =w.heap[g]? :=λx g I=>F.block g (hi.bok g (.inl ⟨x,I⟩)) (λe=>hi.inj.vo _ _ _ I (G g e.symm))
 have ac:∀g,v.ownBlock=some g->w0.may g:=λg H=>by
  rcases(J g H).1 with h | h
  ·exact(hi.own _ g (G g h)).1
  ·exact .ge hi.below h
 refine hK ⟨B.v,λk g=>B.o k g\/(k=i/\v.ownBlock=some g)⟩ _ w' ⟨r.le,⟨λx g H=> ?_,λk g H=> ?_,⟨hi.inj.v,λk l g h1 h2=> ?_,λx k g h1 h2=> ?_⟩,?_,by rw[my,hi.size],by rw[oX,hi.dfr],hi.pin⟩,λq hq=> ?_,λz c hz ak hh=> ?_,λu h1 h2=>absurd h1 h2⟩
 ·obtain⟨h1,cs,ty,h2,h3,h4⟩:=hi.blk x g H;exact⟨h1,cs,ty,h2,by rw[ax x g H];exact h3,h4⟩
 ·rcases H with H | ⟨rfl,H⟩
  ·obtain⟨h1,h2⟩:=hi.own k g H;refine⟨h1,?_⟩;by_cases e:(a.eval x).ownBlock=some g
   ·exact ar g e
   ·exact h2.blk (F.block g h2.1 (λe'=>e e'.symm)) F.size
  ·exact⟨ac g H,(J g H).2.2⟩
 ·rcases h1 with h1 | ⟨e1,h1⟩<;>rcases h2 with h2 | ⟨e2,h2⟩
  ·exact hi.inj.o k l g h1 h2
  ·by_cases e:k=i
   ·rw[e,e2]
   ·exact absurd h2 (ad k g e h1)
  ·by_cases e:l=i
   ·rw[e,e1]
   ·exact absurd h1 (ad l g e h2)
  ·rw[e1,e2]
 ·rcases h2 with h2 | ⟨_,h2⟩
  ·exact hi.inj.vo x k g h1 h2
  ·exact ap x g h1 h2
 ·refine⟨F.os.trans hi.below.os,F.tape.trans hi.below.tape,F.output.trans hi.below.output,AD hi.below.size F.size,λg H V=>(F.block g (Bt H hi.below.size) (λe=> ?_)).trans (hi.below.block g H V)⟩;rcases(hi.own _ g (G g e.symm)).1 with h | h
  ·omega
  ·exact V h
 ·simp only[BD]at hq;subst hq;unfold bN;rw[if_pos Z.2];exact⟨v,tk (by rw[hi.size];exact Z.1),s1,av,au,λg H=>.inr ⟨rfl,ab g H⟩,λg H=>.inr ⟨rfl,H⟩⟩
 ·refine hz.reb hh r (λ_ g h1 _ _ _ _ _ h2=>hi.inj.vo _ _ _ h1 (G g h2)) (λ_=>pz (λt ht=>by injection ht with ht;subst ht;exact ak (d,.v (.one (.own i m))) Ad))
variable{xs:List SV}{d:MutD}
theorem findM_ok(F:∀i∈L,i.OkE w0 p ρ){G:MutD->Bool}(h:u6Q L f xs G=some d):∃r,(OIns.mk (.mut f d) xs r).OkE w0 p ρ:=by
 unfold u6Q at h;split at h
 ·rename_i g d' H r hf;injection h with h;subst h;have h1:=DT hf;simp only[BN,decide_eq_true_eq]at h1;obtain⟨⟨rfl,rfl⟩,_⟩:=h1;exact⟨r,F _ (Dg hf)⟩
 ·cases h
theorem vg{args:List AP}:∀ {l:List (Nat×SV)} {H:List (Nat×AV)} {q:Nat×AV},py nt args l=some H->q∈H->q.1<100000/\q.1<nt/\∃r∈l,args[r.1]? =some (.tmp q.1)/\q.2= .v r.2
 | [],H,q,h,F=>by simp only[py,A3.injEq]at h;subst h;cases F
 | (i,c)::r,H,q,h,F=>by
  simp only[py]at h;split at h
  ·rename_i t l ht hl;split at h
   ·rename_i G;injection h with h;subst h;rcases AS.1 F with rfl | F
    ·exact⟨G.1,G.2,(i,c),Ad,ht,rfl⟩
    ·obtain⟨h1,h2,J,h3,I⟩:=vg hl F;exact⟨h1,h2,J,Bf _ h3,I⟩
   ·cases h
  ·cases h
variable{rest:List (TypeId×Nat)}{q:Nat×TypeId×List Leaf}
theorem preE_ok{F:List (TypeId×Nat)}(h:preE lk F q=true)(I:vt=F++rest)(hi:Inv vt w0 nt B a w)(H:∀x∈mo q.1 0 q.2.2.length,∀c,lk x=some c->bN ρ B a w x c):xU ρ B w q:=by
 simp only[preE,BN,decide_eq_true_eq]at h;obtain⟨h1,⟨h2,h3⟩,h4⟩:=h;obtain⟨_,hc⟩:=fI h4 no H;obtain⟨g,cs,ty,J,K,vs,U,Y⟩:=hc h2;obtain⟨_,V,aa,f1,f2,Z⟩:=hi.blk q.1 g J;rw[K]at f2;injection f2 with f2;injection f2 with f2 G;subst f2;subst G;rw[I,Bz (AX.1 h1).1,h1]at f1;simp only[A3.injEq,Ck.injEq]at f1;obtain⟨rfl,f1⟩:=f1;refine⟨g,cs,J,K,?_,Z⟩;have hl:=U.len;have:vs=cs.toList:=List.ext_getElem? (λk=>by
  by_cases hk:k<vs.length
  ·have:=Y k vs[k] (AJ hk);rw[A5]at this;rw[AJ hk,GQ,this]
  ·rw[EF no,EF (by simp;omega)])
 rw[<-this];exact U
theorem xU.loc{k:Nat}{l:Leaf}(h:xU ρ B w q)(H:k<100000)(hl:q.2.2[k]? =some l):bN ρ B a w (oK q.1 k) (.v (.one l)):=by
 obtain⟨g,cs,h1,h2,h3,_⟩:=h;obtain⟨u,F,G⟩:=h3.get hl;rw[ke H];exact⟨g,cs,_,u,h1,h2,by rw[<-GQ];exact F,G⟩
variable{pb:MutD->Bool}
theorem ok_mut1(hO:∀i∈L,i.OkE w0 p ρ){z:AP}{I:List (TypeId×Nat)}{kw:List (Nat×AV)}(av:o.op= .call k)(an:k.callee= .value z)(hz:evL lk z=some (.fn f))(am:oL lk k.args.toList=some xs)(hf:u6Q L f xs pb=some d)
  (a4:∀x∈d.pre,preE lk I x=true)(be:∀x∈d.us,usE I x=true)(ad:nvE I d.nv=true)(a2:py nt k.args.toList d.keep=some kw)(a9:kw.all (λq=>decide (o.dst≠some q.1))=true)(ac:okD nt o.dst=true)
  (ak:vt=I++((d.nv.toList.map λq=>(q.2.1,q.2.2.length))++rest))(hi:Inv vt w0 nt B a w)(H:∀x∈jF o.op++d.pre.flatMap (λq=>mo q.1 0 q.2.2.length),∀c,lk x=some c->bN ρ B a w x c)(hn:∀v,d.nv.map (·.1)=some v->B.v v=none)
 (hK:∀B' a' w',Post ρ vt w0 nt ⟨jF o.op++d.pre.flatMap (λq=>mo q.1 0 q.2.2.length),wrD o.dst (mutR d.xs)++(kw++(d.us.flatMap (λq=>dK q.1 0 q.2.2)++nvW d.nv)),d.nv.map (·.1),d.ks,[]⟩ B a w B' a' w'->K a' w'):Bk p o a w K Q:=by
 have HO:∀x∈jF o.op,∀c,lk x=some c->bN ρ B a w x c:=λx hx=>H x (AG.2 (.inl hx))
 obtain⟨r0,hr0⟩:=findM_ok hO hf;obtain⟨bi,args,tt⟩:=k;simp only at an am a2;subst an;have HA:∀x∈args.toList,bj ρ B a w lk x:=λx hx y hy c hc=>HO y (by rw[av];unfold jF;exact Br.2 ⟨x,by simp only[Dx,Fb,Fc,AG];exact .inr hx,hy⟩) c hc
 have U:a.eval z=fnV f:=eC (λy hy c hc=>HO y (by rw[av];unfold jF;exact Br.2 ⟨z,by simp[Dx,Fb],hy⟩) c hc) hz;have e2:=fZ am HA;obtain⟨ao,V⟩:=hr0 B w (args.toList.map a.eval) hi.pin e2;have ea:(args.toList.map a.eval).toArray=args.map a.eval:=by rw[<-EZ,ED]
 rw[ea]at ao V;have a6:(execOp a.eval o).run p w= .ok (.enter f (args.map a.eval)) w:=by
  simp[execOp,av,resolve,invoke,Deferred.ofValue,U,ao,AQ]
 unfold Bk;rw[a6,Oper.upon_enter];have Z:∀q,d.nv=some q->B.v q.1=none:=λq F=>hn q.1 (by rw[F];rfl)
 have aa:∀q,d.nv=some q->q.1=I.length/\q.2.2.length<=100000:=λq F=>by
  rw[F]at ad;simp only[nvE,decide_eq_true_eq]at ad;exact⟨ad.1,ad.2.2⟩
 refine(V hi.bok hi.inj (λk g h=>(hi.own k g h).2) (λx g h=> ?_) Z (λq F=> ?_)).mono ?_
 ·obtain⟨_,cs,ty,_,h3,h4⟩:=hi.blk x g h;exact .mk' h3 h4
 ·exact preE_ok (a4 q F) ak hi (λx hx c hc=>H x (AG.2 (.inr (Br.2 ⟨q,F,hx⟩))) c hc)
 ·rintro e w' ⟨v,B',rfl,a5,au,aq,ap,G⟩;have ay:∀x g,B.v x=some g->B'.v x=some g:=λx g h=>by
   rw[G.v x (λq F e=>by subst e;rw[Z q F]at h;cases h)];exact h
  have ar:∀x g,B'.v x=some g->(∃q,d.nv=some q/\x=q.1/\w.heap.size<=g)\/B.v x=some g:=λx g h=>by
   by_cases e:∃q,d.nv=some q/\x=q.1
   ·obtain⟨q,F,rfl⟩:=e;exact .inl ⟨q,F,rfl,G.nv q g F h⟩
   ·rw[G.v x (λq F e'=>e ⟨q,F,e'⟩)]at h;exact .inr h
  have r:Reb B B' d.ks w w' (λg=>(∃k∈d.ks,B.o k g)\/∃q∈d.us,B.v q.1=some g):=by
   refine⟨⟨ay,G.o⟩,λg J=> ?_,λg h=>h.imp id (λ⟨q,_,h⟩=>⟨_,h⟩),hi.inj,G.chg⟩;rcases J with⟨x,h⟩ | ⟨k,h⟩
   ·rcases ar x g h with⟨_,_,_,h⟩ | h
    ·exact .inr h
    ·exact .inl (.inl ⟨x,h⟩)
   ·exact(G.new k g h).imp (λh=>.inr ⟨k,h⟩) (λh=>h.2)
  have ab:∀q∈d.us,I[q.1]? =some (q.2.1,q.2.2.length)/\q.2.2.length<=100000:=λq F=>by
   have:=be q F;simp only[usE,BN,decide_eq_true_eq]at this;exact this
  have a0:∀x g,B.v x=some g->(∀q∈d.us,q.1≠x)->w'.heap[g]? =w.heap[g]? :=λx g h Y=>G.chg.blk g (hi.bok g (.inl ⟨x,h⟩)) (λhX=>by
   rcases hX with⟨k,_,h2⟩ | ⟨q,F,h2⟩
   ·exact hi.inj.vo _ _ _ h h2
   ·exact Y q F (hi.inj.v _ _ _ h2 h))
  refine hK B' _ w' ⟨r.le,⟨λx g J=> ?_,λk g J=> ?_,G.inj,?_,by rw[my,hi.size],by rw[oX,hi.dfr],λx g h=>ay _ _ (hi.pin x g h)⟩,λq F=> ?_,λx c hx Y hh=> ?_,λu h1 h2=> ?_⟩
  ·rcases ar x g J with⟨q,F,rfl,a7⟩ | hb
   ·obtain⟨g',cs,U,e2,e3,e4⟩:=ap q F;rw[J]at U;injection U with U;subst U;refine⟨.ge hi.below a7,cs,_,?_,e2,e4⟩;have h2:=e3.len;rw[ak,List.getElem?_append_right (by rw[(aa q F).1];exact AE _),(aa q F).1,Nat.sub_self,F];simpa using h2.symm
   ·obtain⟨h1,cs,ty,h2,h3,h4⟩:=hi.blk x g hb;by_cases hu:∃q∈d.us,q.1=x
    ·obtain⟨q,F,rfl⟩:=hu;obtain⟨g',ax,U,e2,e3,e4⟩:=aq q F;rw[J]at U;injection U with U;subst U;refine⟨h1,ax,_,?_,e2,e4⟩;have h5:=(ab q F).1;rw[ak,Bz (AX.1 h5).1,h5];have h6:=e3.len;simpa using h6.symm
    ·exact⟨h1,cs,ty,h2,by rw[a0 x g hb (λq F e=>hu ⟨q,F,e⟩)];exact h3,h4⟩
  ·rcases G.new k g J with h | ⟨hk,h⟩
   ·obtain⟨h2,h3⟩:=hi.own k g h;refine⟨h2,?_⟩;by_cases hk:k∈d.ks
    ·exact G.own k g hk J
    ·refine h3.blk (G.chg.blk g h3.1 (λhX=> ?_)) G.chg.size;rcases hX with⟨l,hl,h'⟩ | ⟨q,_,h'⟩
     ·have:=hi.inj.o _ _ _ h' h;subst this;exact hk hl
     ·exact hi.inj.vo _ _ _ h' h
   ·exact⟨.ge hi.below h,G.own k g hk J⟩
  ·refine⟨G.os.trans hi.below.os,G.tape.trans hi.below.tape,G.output.trans hi.below.output,AD hi.below.size G.chg.size,λg J hX=>(G.chg.blk g (Bt J hi.below.size) (λh=> ?_)).trans (hi.below.block g J hX)⟩;have a3:w0.may g:=by
    rcases h with⟨l,_,h⟩ | ⟨q,_,h⟩
    ·exact(hi.own l g h).1
    ·exact(hi.blk _ g h).1
   rcases a3 with h | h
   ·omega
   ·exact hX h
  ·
   rcases AG.1 F with F | F
   ·cases hd:o.dst with
    | none=>rw[hd]at F;cases F
    | some t=>
     rw[hd]at F ac;simp only[wrD,BD]at F;subst F;simp only[okD,BN,decide_eq_true_eq]at ac;unfold bN;rw[if_pos ac.2];exact⟨v,tk (by rw[hi.size];exact ac.1),a5⟩
   ·rcases AG.1 F with F | F
    ·obtain⟨h1,h2,q',h3,h4,h5⟩:=vg a2 F;obtain⟨u,h6,h7⟩:=au q' h3;have a1:=of_decide_eq_true (Ca.1 a9 q F);rw[List.getElem?_map,h4]at h6;simp only[BG,A3.injEq]at h6;unfold bN;rw[if_pos h1,h5];refine⟨u,?_,h7⟩;rw[pz (λt' bb e=>a1 (by rw[bb,e])),<-h6];simp[Dd,h2,hi.size]
    ·rcases AG.1 F with F | F
     ·obtain⟨q',h1,h2⟩:=Br.1 F;obtain⟨j,l,h3,rfl⟩:=kU.1 h2;have hl:=(AX.1 h3).1;exact(aq q' h1).loc (by have:=(ab q' h1).2;omega) (by rw[A5];exact h3)
     ·cases hd:d.nv with
      | none=>rw[hd]at F;cases F
      | some q'=>
       rw[hd]at F;obtain⟨j,l,h3,rfl⟩:=kU.1 F;have hl:=(AX.1 h3).1;exact(ap q' hd).loc (by have:=(aa q' hd).2;omega) (by rw[A5];exact h3)
  ·refine hx.reb hh r (λam g h1 bp cs ty h2 h3 hX=> ?_) (λam=>pz (λt ht e=> ?_))
   ·rcases hX with⟨k,_,h⟩ | ⟨q,F,h⟩
    ·exact hi.inj.vo _ _ _ h1 h
    ·have h4:=hi.inj.v _ _ _ h h1;obtain⟨h5,h6⟩:=ab q F;obtain⟨_,ax,bq,f1,f2,_⟩:=hi.blk _ g h1;rw[h2]at f2;injection f2 with f2;injection f2 with f2 _;subst f2;rw[<-h4,ak,Bz (AX.1 h5).1,h5]at f1;simp only[A3.injEq,Ck.injEq]at f1;have hl:x % 100000<q.2.2.length:=by rw[f1.2];exact h3
     refine Y (oK q.1 (0+x % 100000),.v (.one q.2.2[x % 100000])) ?_ ?_
     ·refine AG.2 (.inr (AG.2 (.inr (AG.2 (.inl (Br.2 ⟨q,F,kU.2 ⟨_,_,AJ hl,rfl⟩⟩))))))
     ·unfold oK;have h7:=Cf x 100000;simp only;omega
   ·rw[ht]at Y;exact Y (t,mutR d.xs) (by simp[wrD]) e
  ·cases hb:B'.v u with
   | none=>exact absurd hb h2
   | some g=>
    rcases ar u g hb with⟨q,F,rfl,_⟩ | h
    ·simp[F]
    ·rw[h1]at h;cases h
theorem ok_mut(hO:∀i∈L,i.OkE w0 p ρ){z:AP}{J new:List (TypeId×Nat)}{e:Eff}(Z:o.op= .call k)(F:k.callee= .value z)(hz:evL lk z=some (.fn f))(ac:oL lk k.args.toList=some xs)(hf:u6Q L f xs pb=some d)
  (h:mutE nt lk J o.op k.args.toList o.dst d=some (e,new))(U:okD nt o.dst=true)(ab:vt=J++(new++rest))(hi:Inv vt w0 nt B a w)(H:∀x∈e.rd,∀c,lk x=some c->bN ρ B a w x c)(hn:∀v,e.al=some v->B.v v=none)
 (hK:∀B' a' w',Post ρ vt w0 nt e B a w B' a' w'->K a' w'):Bk p o a w K Q:=by
 unfold mutE at h;split at h
 ·rename_i G;simp only[BN,Ca]at G;obtain⟨I,aa,Y⟩:=G
  cases hkw:py nt k.args.toList d.keep with
  | none=>rw[hkw]at h;cases h
  | some kw=>
   rw[hkw]at h;simp only at h;split at h
   ·rename_i V;simp only[A3.injEq,Ck.injEq]at h;obtain⟨rfl,rfl⟩:=h;exact ok_mut1 hO Z F hz ac hf I aa Y hkw V U ab hi H hn hK
   ·cases h
 ·cases h
end
section
variable {p:AW} {ρ:Rho} {B B':Blk} {a a':Act} {w w':World} {w0:Ent} {C:List Inst} {L:List OIns} {lk:Nat->Option AV} {vt:List (TypeId×Nat)} {nt:Nat} {Q:A4->Act->World->Prop} {o:Oper} {ops:Array Oper}
variable{ty:TypeId}
theorem x6(h:w.heap[g]? =some (.cells cs ty (0,0)))(H:k<cs.size)(F:fB v):(Go.store ⟨g,k,none⟩ v).run p w= .ok () (w.setCell ⟨g,k,none⟩ v):=by
 have h1:w.cell? ⟨g,k,none⟩=some cs[k]:=by rw[aH h];exact Array.getElem?_eq_getElem H
 have h2:w.frozen? ⟨g,k,none⟩=false:=frozen_of_row w g k _ _ h;have h3:=F.1;have G:=F.2.1;unfold Go.store
 cases v with
 | agg cs=>exact absurd rfl (h3 cs)
 | tuple vs=>exact absurd rfl (G vs)
 | _=>simp[Sem.run,h1,h2]
theorem gh{o:Nat}:∀(vs:List Value)(i:Nat)(w:World)(cs:Array Value),w.heap[g]? =some (.cells cs ty (0,0))->o+i+vs.length<=cs.size->(∀v∈vs,fB v)->
  ∃w' F,(storeCells ⟨g,o,none⟩ vs i).run p w= .ok () w'/\Upd w g w'/\w'.heap[g]? =some (.cells F ty (0,0))/\F.size=cs.size/\
   (∀k v,vs[k]? =some v->F[o+i+k]? =some v)/\∀k,(k<o+i\/o+i+vs.length<=k)->F[k]? =cs[k]?
 | [],i,w,cs,h,_,_=>⟨w,cs,by simp[storeCells],⟨rfl,rfl,rfl,rfl,λ_ _=>rfl⟩,h,rfl,Ad,λ_ _=>rfl⟩
 | v::vs,i,w,cs,h,hle,hv=>by
  simp only[Bg]at hle;have h1:=x6 (p:=p) (k:=o+i) h no (hv v Ad);have h2:=heap_setCell_same w g (o+i) _ _ v h;obtain⟨w',F,U,V,Y,H,Z,I⟩:=gh (o:=o) vs (i+1) (w.setCell ⟨g,o+i,none⟩ v) (cs.setIfInBounds (o+i) v) h2 (by simp;omega) (λu G=>hv u (Bf _ G));have K:=H;refine⟨w',F,?_,(Upd.cell w g (o+i) v).trans V,Y,by rw[H];simp,λk u G=> ?_,λk J=> ?_⟩
  ·unfold storeCells;rw[AH,bM,h1];exact U
  ·match k with
   | 0=>
    simp at G;subst G;rw[I (o+i+0) no];simp[show o+i<cs.size from no]
   | k+1=>
    have:=Z k u Aw;rwa [show o+(i+1)+k=o+i+(k+1)from no]at this
  ·rw[I k (by simp only[Bg]at J;omega)];simp only[Bg]at J;rw[DQ,if_neg no]
theorem bN.upd{x:Nat}(h:bN ρ B a w x c)(o:bw w g)(u:Upd w g w')(hb:∃x,B.v x=some g)(hi:BInj B)(G:¬x<100000->∀g' cs ty y,B.v (x / 100000 - 1)=some g'->w.heap[g']? =some (.cells cs ty (0,0))->cs[x % 100000]? =some y->∃F,w'.heap[g']? =some (.cells F ty (0,0))/\F[x % 100000]? =some y):bN ρ B a w' x c:=by
 unfold bN at h⊢;split at h
 ·rename_i G;rw[if_pos G];obtain⟨v,h1,h2⟩:=h;exact⟨v,h1,h2.upd o u hb hi⟩
 ·rename_i hn;rw[if_neg hn];obtain⟨g',cs,ty,v,h1,h2,h3,H⟩:=h;obtain⟨F,I,J⟩:=G hn g' cs ty v h1 h2 h3;exact⟨g',F,ty,v,h1,I,J,H.upd o u hb hi⟩
variable{rd:List Nat}{K:Act->World->Prop}
theorem ok_store{x y:AP}{v off:Nat}(ho:o.op= .store t x y)(hd:o.dst=none)(hx:evL lk x=some (.ptr v off))(hy:evS lk y=some s)(am:vt[v]? =some (ty,n))
  (hs:szB p t=some s.leaves.length)(hf:mv s.leaves=true)(an:off+s.leaves.length<=n)(hn:n<=100000)(hi:Inv vt w0 nt B a w)(Hx:bj ρ B a w lk x)(Hy:bj ρ B a w lk y) 
 (hK:∀B' a' w',Post ρ vt w0 nt ⟨rd,dK v off s.leaves,none,[],[]⟩ B a w B' a' w'->K a' w'):Bk p o a w K Q:=by
 obtain⟨g,hg,e1⟩:=(eC Hx hx:Leaf.holds ρ B w (.ptr v off) (a.eval x));have e2:=eB Hy hy;have hc:=e2.cells;obtain⟨ak,cs,ap,f1,f2,f3⟩:=hi.blk v g hg;rw[am]at f1;simp only[A3.injEq,Ck.injEq]at f1;obtain⟨rfl,rfl⟩:=f1;have ab:=hc.len;have J:∀u∈(a.eval y).cells.toList,fB u:=λu hu=>by
  obtain⟨k,hk,rfl⟩:=BK hu;obtain⟨z,h1,h2⟩:=hc.get (AJ (show k<s.leaves.length by omega));rw[AJ hk]at h1;injection h1 with h1;rw[h1];exact h2.flat (Ca.1 hf _ (List.getElem_mem _))
 obtain⟨w',Z,g1,g2,g3,g4,g5,g6⟩:=gh (p:=p) (o:=off) (a.eval y).cells.toList 0 w cs f2 no J;have ow:bw w g:=.mk' f2 f3;have ac:(execOp a.eval o).run p w= .ok .skip w':=by
  unfold execOp;rw[ho];simp only[AH,Instr.storeAt,e1,DV,Bw,AQ,storeVar,ba hs];rw[if_neg (by simp only[ne_eq,Classical.not_not];simpa using ab)];rw[g1]
 unfold Bk;rw[ac,Oper.upon_skip,hd];show K a w';have I:∀g' F G,w.heap[g']? =some (.cells F G (0,0))->∃H,w'.heap[g']? =some (.cells H G (0,0))/\H.size=F.size/\(g'≠g->H=F):=λg' F G h=>by
  by_cases e:g'=g
  ·subst e;rw[f2]at h;injection h with h;injection h with h h2;subst h;subst h2;exact⟨Z,g3,g4,λh=>absurd rfl h⟩
  ·exact⟨F,by rw[g2.block g' e];exact h,rfl,λ_=>rfl⟩
 refine hK B a w' ⟨BLe.refl,⟨λv' g' U=> ?_,λv' g' U=> ?_,hi.inj,hi.below.upd g2 ak,hi.size,hi.dfr,hi.pin⟩,λq hq=> ?_,λz c hz aa _=>hz.upd ow g2 ⟨_,hg⟩ hi.inj (λao g' F G y1 h1 h2 h3=> ?_),λu h1 h2=>absurd h1 h2⟩
 ·obtain⟨h1,F,G,h2,h3,h4⟩:=hi.blk v' g' U;obtain⟨H,Y,k2,k3⟩:=I g' F G h3;refine⟨h1,H,G,by rw[k2];exact h2,Y,λk m hk=> ?_⟩;by_cases e:g'=g
  ·subst e;rw[g3]at Y;injection Y with Y;injection Y with Y _;subst Y;by_cases hin:k<off\/off+(a.eval y).cells.toList.length<=k
   ·rw[g6 k (by simpa using hin)]at hk;exact f3 k m hk
   ·have V:k - off<(a.eval y).cells.toList.length:=no
    have:=g5 (k - off) _ (AJ V);rw[show off+0+(k - off)=k from no,hk]at this;injection this with this;exact(J _ (List.getElem_mem V)).2.2 m this.symm
  ·rw[k3 e]at hk;exact h4 k m hk
 ·obtain⟨h1,h2⟩:=hi.own v' g' U;have aa:g'≠g:=λe=>by subst e;exact hi.inj.vo _ _ _ hg U
  exact⟨h1,h2.blk (g2.block g' aa) (by rw[g2.size];exact AE _)⟩
 ·obtain⟨j,l,h1,rfl⟩:=kU.1 hq;have hj:=(AX.1 h1).1;obtain⟨u,h2,h3⟩:=hc.get h1;rw[ke no];exact⟨g,Z,ty,u,hg,g3,by have:=g5 j u h2;simpa using this,(h3.upd ow g2 ⟨_,hg⟩ hi.inj:Leaf.holds ρ B w' l u)⟩
 ·by_cases e:g'=g
  ·subst e;rw[f2]at h2;injection h2 with h2;injection h2 with h2 ad;subst h2;subst ad;refine⟨Z,g3,?_⟩;have hv:=hi.inj.v _ _ _ h1 hg;by_cases hin:z % 100000<off\/off+(a.eval y).cells.toList.length<=z % 100000
   ·rw[g6 _ (by simpa using hin)];exact h3
   ·have V:z % 100000 - off<s.leaves.length:=no
    refine absurd ?_ (aa (oK v (off+(z % 100000 - off)),.v (.one s.leaves[z % 100000 - off])) (kU.2 ⟨_,_,AJ V,rfl⟩));unfold oK;have:z / 100000=v+1:=no
    have h5:=Cf z 100000;simp only;omega
  ·obtain⟨H,Y,k2,k3⟩:=I g' F G h2;exact⟨H,Y,by rw[k3 e];exact h3⟩
variable{xs:List SV}
theorem findC_ok(F:∀i∈C,i.Ok0 p ρ w0)(h:aao C f xs=some r):(Inst.mk f xs r).Ok0 p ρ w0:=by
 unfold aao at h;split at h
 ·rename_i i hi;simp at h;subst h;have h1:=DT hi;simp only[BN,decide_eq_true_eq]at h1;have:=F i (Dg hi);obtain⟨H,G,I⟩:=i;obtain⟨rfl,rfl⟩:=h1;exact this
 ·cases h
theorem ok_call(hC:∀i∈C,i.Ok0 p ρ w0){k:Call}{z:AP}(ho:o.op= .call k)(J:k.callee= .value z)(hz:evL lk z=some (.fn f))(G:oL lk k.args.toList=some xs)(hr:aao C f xs=some r)
  (hd:okD nt o.dst=true)(hi:Inv vt w0 nt B a w)(H:∀x∈(Op.call k).operands.toList,bj ρ B a w lk x) 
 (hK:∀B' a' w',Post ρ vt w0 nt ⟨rd,wrD o.dst r,none,[],[]⟩ B a w B' a' w'->K a' w'):Bk p o a w K Q:=by
 obtain⟨U,args,tt⟩:=k;simp only at J G;subst J;have V:a.eval z=fnV f:=eC (H z (by simp[Dx,Fb])) hz;have Y:=fZ G (λx hx=>H x (by simp only[Dx,Fb,Fc,AG];exact .inr hx));obtain⟨I,F⟩:=findC_ok hC hr;have hc:=F B w _ hi.below hi.bok Y;have Z:(args.toList.map a.eval).toArray=args.map a.eval:=by rw[<-EZ,ED]
 rw[Z]at hc;unfold Bk;have:(execOp a.eval o).run p w= .ok (.enter f (args.map a.eval)) w:=by
  simp[execOp,ho,resolve,invoke,Deferred.ofValue,V,I,AQ]
 rw[this,Oper.upon_enter];refine hc.mono ?_;rintro e w' ⟨v,rfl,h1,h2⟩;exact hK B _ w' (gg hi hd h2 h1)
theorem ok_pure(I:∀i∈L,i.OkE w0 p ρ)(h:rH p L lk o.op=some (c,rd))(J:okD nt o.dst=true)(hi:Inv vt w0 nt B a w)(H:∀x∈jF o.op++rd,∀c,lk x=some c->bN ρ B a w x c)
  {F:List Nat}(G:∀B' a' w',Post ρ vt w0 nt ⟨F,wrD o.dst c,none,[],[]⟩ B a w B' a' w'->K a' w'):Bk p o a w K Q:=by
 obtain⟨u,h1,h2⟩:=makes_any I h (λx U y hy c hc=>H y (AG.2 (.inl (by unfold jF;exact Br.2 ⟨x,U,hy⟩))) c hc) (λy hy c hc=>H y (AG.2 (.inr hy)) c hc);unfold Bk;rw[h1,EE];exact G B _ w (gg hi J (AF _ _) h2)
theorem aap:∀(l:List (Nat×AP)),(l.map (·.1)).zip ((l.map (·.2)).map a.eval)=l.map λq=>(q.1,a.eval q.2)
 | []=>rfl
 | _::l=>congrArg (_:: ·) (aap l)
theorem ok_bs(U:∀i∈L,i.OkE w0 p ρ){parts:Array (Nat×AP)}{r:SV}(Y:o.op= .buildSlice t n parts)(F:oL lk (parts.toList.map (·.2))=some xs)(hr:cK L (.bs t n (parts.toList.map (·.1))) xs=some r)
  (V:okD nt o.dst=true)(hi:Inv vt w0 nt B a w)(H:∀x∈(Op.buildSlice t n parts).operands.toList,bj ρ B a w lk x) 
 (J:∀B' a' w',Post ρ vt w0 nt ⟨rd,wrD o.dst (.v r),none,[],[]⟩ B a w B' a' w'->K a' w'):Bk p o a w K Q:=by
 have G:=fZ F (λx Z=>H x (by simpa [Dx]using Z));obtain⟨v,w',h1,h2,h3⟩:=(fi U (λ_ _ h=>by cases h) hr) B w _ G hi.bok;rw[aap]at h2;have:(execOp a.eval o).run p w= .ok (.value v) w':=by
  unfold execOp;rw[Y];have I:(parts.map λx=>match x with | (i,x)=>(i,a.eval x))=(parts.toList.map λq=>(q.1,a.eval q.2)).toArray:=by
   obtain⟨l⟩:=parts;simp
  simp only[AH];rw[I,h2];rfl
 unfold Bk;rw[this,EE];exact J B _ w' (gg hi V h3 h1)
variable{new rest:List (TypeId×Nat)}
theorem aaq(hC:∀i∈C,i.Ok0 p ρ w0)(hO:∀i∈L,i.OkE w0 p ρ){ab:List (TypeId×Nat)}{e:Eff}(h:u7Q p C L nt lk ab o=some (e,new))(V:vt=ab++(new++rest))(hi:Inv vt w0 nt B a w)
  (H:∀x∈e.rd,∀c,lk x=some c->bN ρ B a w x c)(hn:∀v,e.al=some v->B.v v=none)(Z:∀B' a' w',Post ρ vt w0 nt e B a w B' a' w'->K a' w'):Bk p o a w K Q:=by
 unfold u7Q at h;split at h
 ·cases h
 ·rename_i J;have J:okD nt o.dst=true:=by simpa using J
  have aa:∀ {h:(match rH p L lk o.op with | some (c,rd)=>some (Eff.mk (jF o.op++rd) (wrD o.dst c) none [] [],([]:List (TypeId×Nat))) | none=>none)=some (e,new)},Bk p o a w K Q:=by
   intro h;split at h
   ·rename_i c rd hp;simp at h;obtain⟨rfl,rfl⟩:=h;exact ok_pure hO hp J hi H Z
   ·cases h
  dsimp only at h;split at h
  ·
   rename_i t I;split at h
   ·rename_i d z F hz;split at h
    ·rename_i hc;simp at h;obtain⟨rfl,rfl⟩:=h;obtain⟨zv,ak,am⟩:=gO (ρ:=ρ) (B:=B) (w:=w) hz;have U:(execOp a.eval o).run p w= .ok (.value (.pointer (some ⟨w.heap.size,0,none⟩))) (w.alloc (.cells zv.cells t)):=by
      unfold execOp;rw[I];simp only[Instr.alloc,AH,ak,AQ,newVar,newRow,Go.newObj,Sem.run,Bw];rfl
     unfold Bk;rw[U,EE,F];rw[F]at J;exact Z _ _ _ (u9Q hi J hc.1 hc.2.1 am (by rw[V];simp) (hn _ rfl))
    ·cases h
   ·cases h
  ·
   rename_i t x I;split at h
   ·rename_i d s F hs;split at h
    ·rename_i hc;simp at h;obtain⟨rfl,rfl⟩:=h;have e2:=eB (λy hy c hc=>H y hy c hc) hs;have U:(execOp a.eval o).run p w= .ok (.value (.pointer (some ⟨w.heap.size,0,none⟩))) (w.alloc (.cells (a.eval x).cells t)):=by
      unfold execOp;rw[I];simp only[Instr.box,AH,AQ,newVar,newRow,Go.newObj,Sem.run,Bw];rfl
     unfold Bk;rw[U,EE,F];rw[F]at J;exact Z _ _ _ (u9Q hi J hc.1 hc.2.1 e2.cells (by rw[V];simp) (hn _ rfl))
    ·cases h
   ·cases h
  ·
   rename_i t x y I;split at h
   ·rename_i v off s F hx hy;split at h
    ·rename_i ty n hv;split at h
     ·rename_i hc;simp at h;obtain⟨rfl,rfl⟩:=h;exact ok_store I F hx hy (by rw[V,Bz (AX.1 hv).1];exact hv) hc.1 hc.2.1 hc.2.2.1 hc.2.2.2.1 hi (λz hz c hc=>H z (AG.2 (.inl hz)) c hc) (λz hz c hc=>H z (AG.2 (.inr hz)) c hc) Z
     ·cases h
    ·cases h
   ·cases h
  ·
   rename_i k I;split at h
   ·rename_i z hk;split at h
    ·rename_i f xs hz Y;split at h
     ·rename_i r hr;simp only[A3.injEq,Ck.injEq]at h;obtain⟨rfl,rfl⟩:=h;rw[I]at H;exact ok_call hC I hk hz Y hr J hi (λx hx y hy c hc=>H y (by unfold jF;exact Br.2 ⟨x,hx,hy⟩) c hc) Z
     ·split at h
      ·rename_i d hf;exact ok_mut hO I hk hz Y hf h J V hi H hn Z
      ·cases h
    ·cases h
   ·rename_i hk;split at h
    ·rename_i d x y t t' F G ad;split at h
     ·rename_i lx ly hx hy;split at h
      ·rename_i ac;subst ac;split at h
       ·rename_i i m hf;split at h
        ·rename_i hs;simp only[A3.injEq,Ck.injEq]at h;obtain⟨rfl,rfl⟩:=h;have HH:∀z∈k.args.toList,bj ρ B a w lk z:=λz hz y hy c hc=>H y (by rw[I];unfold jF;exact Br.2 ⟨z,by simp only[Dx,Fb,Fc,AG];exact .inr hz,hy⟩) c hc
         exact ok_app hO I hk F G ad hx hy hf hs (by rw[<-F];exact J) hi (HH x (by rw[G];simp)) (HH y (by rw[G];simp)) Z
        ·cases h
       ·cases h
      ·cases h
     ·cases h
    ·cases h
   ·exact aa (h:=h)
  ·
   rename_i t n parts I;split at h
   ·rename_i d xs F Y
    cases hr:cK L (.bs t n (parts.toList.map (·.1))) xs with
    | none=>rw[hr]at h;cases h
    | some r=>
     rw[hr]at h;simp only[BG,A3.injEq,Ck.injEq]at h;obtain⟨rfl,rfl⟩:=h;rw[I]at H;exact ok_bs hO I Y hr J hi (λx hx y hy c hc=>H y (by unfold jF;exact Br.2 ⟨x,hx,hy⟩) c hc) Z
   ·cases h
  ·exact aa (h:=h)
theorem aar(hC:∀i∈C,i.Ok0 p ρ w0)(hO:∀i∈L,i.OkE w0 p ρ){I:List (TypeId×Nat)}{e:Eff}{j:Nat}(hj:ops[j]? =some o)(h:xZ p C L nt ops lk I o=some (e,new))(U:vt=I++(new++rest)):
  OpOk p ρ vt w0 nt ops Q j lk e:=by
 intro B a w hi H hn K V;unfold xZ at h;unfold wpOp;rw[hj];show if A6 o (yielded ops a.tmps)=true then _ else _
 split at h
 ·rename_i J;rw[if_pos (by unfold A6;rw[J])];exact .inl (aaq hC hO h U hi H hn V)
 ·rename_i g b J;split at h
  ·rename_i t ht;split at h
   ·rename_i x hx;have hy:t∈e.rd->yielded ops a.tmps g=some x:=λhm=>by
     have F:a.eval (.tmp t)= .bool x:=rM (λy hy c hc=>by
      simp only[rdO,BD]at hy;subst hy;exact H _ hm c hc) hx
     have Y:(ops[g]?).bind (·.dst)=some t:=by
      unfold bZ at ht
      cases ho:ops[g]? with
      | none=>rw[ho]at ht;cases ht
      | some o=>rw[ho]at ht;exact ht
     have e3:a.tmps[t]? =some (.bool x):=by
      simp only[Dd,E8]at F
      cases hq:a.tmps[t]? with
      | none=>rw[hq]at F;cases F
      | some u=>rw[hq]at F;simp at F;rw[F]
     unfold yielded;rw[Y];simp only[EG,e3]
    split at h
    ·rename_i G
     cases he:u7Q p C L nt lk I o with
     | none=>rw[he]at h;cases h
     | some q=>
      rw[he]at h;obtain⟨e0,aa⟩:=q;simp at h;obtain⟨rfl,rfl⟩:=h;rw[if_pos (by unfold A6;rw[J];show(yielded ops a.tmps g==some b)=true;rw[hy Ad,G];simp)];exact .inl (aaq hC hO he U hi (λy hy c hc=>H y (Bf _ hy) c hc) hn (λB' a' w' hp=>V B' a' w' ⟨hp.le,hp.inv,hp.wr,hp.keep,hp.new⟩))
    ·rename_i G;split at h
     ·rename_i Z;simp at h;obtain⟨rfl,rfl⟩:=h;rw[if_neg (by unfold A6;rw[J];show¬(yielded ops a.tmps g==some b)=true;rw[hy Ad];simpa using G)];exact V B _ w (gg hi Z (AF _ _) rfl)
     ·cases h
   ·rename_i hx;split at h
    ·rename_i Z;simp at h;obtain⟨rfl,rfl⟩:=h;have F:a.eval (.tmp t)=undef:=rM (λy hy c hc=>by
      simp only[rdO,BD]at hy;subst hy;exact H _ Ad c hc) hx
     have Y:(ops[g]?).bind (·.dst)=some t:=by
      unfold bZ at ht
      cases ho:ops[g]? with
      | none=>rw[ho]at ht;cases ht
      | some o=>rw[ho]at ht;exact ht
     have e4:yielded ops a.tmps g=none:=by
      unfold yielded;rw[Y];simp only[EG];simp only[Dd,E8]at F
      cases hq:a.tmps[t]? with
      | none=>rfl
      | some u=>rw[hq]at F;simp at F;rw[F];rfl
     rw[if_neg (by unfold A6;rw[J];show¬(yielded ops a.tmps g==some b)=true;rw[e4];simp)];exact V B _ w (gg hi Z (AF _ _) rfl)
    ·cases h
   ·cases h
  ·cases h
end
end Go.Proofs.YtggfmklppkioeaaGreat
