/- The reference's Gcd. The reference's Gcd and a negation as operations of a region that draws its order; a variable written behind a table. The reference's Format. Fractions in memory; tables of regions whose operations may be skipped. Fractions: stores, the operations of tables. Make of package fraction. Mul, Neg of package fraction; Neg of the reference. Add of package fraction. Stores that leave an unnamed world behind; calls of whatever contract in tables. An executor: abstract values, what they say of values in memory. An executor: the operations of a region in whatever order. An executor: a region as a whole. An executor: operations that make a value and leave memory alone. An executor: operations that make a value do what is said of them. An executor: operations that make a value, one by one. An executor: wholes, operators, all operations that make a value. -/
import Derived.Test.YtggfmklppkioeaaGreatP04
import Derived.Laws.AppendOwn
import Derived.Laws.Sem
namespace Go.Proofs.YtggfmklppkioeaaGreat
set_option linter.unusedSimpArgs false
set_option linter.unusedVariables false
set_option maxRecDepth 100000
open Go.RowKit
open _root_.Go renaming Addr → A2,Calls → AH,Ending → BH,Exit → Bf,FuncId → BA,Operand → AZ,Program → A0,cell_of_row → CB,heap_setCell_same → CH,wpAny_ready → BT
open _root_.Go.RowKit renaming Below → AG
open _root_.Go.Act renaming put → AN
open _root_.Go.AllReady renaming cons → BI,nil → BS
open _root_.Array renaming getElem?_eq_some_iff → A8,getElem?_toList → BU,length_toList → Eg,replicate → Cs,toArray_toList → Ek
open _root_.Go.RowKit.Below renaming heap_setCell → CD
open _root_.Bool renaming and_eq_true → Bo,eq_iff_iff → E5,false_eq_true → DB,or_eq_true → DP
open _root_.Classical renaming byContradiction → DD
open _root_.Go.Instr renaming fieldAt → Ei,index → DV,indexAt → DF,loadAt → CN,sliceAt → CT,sureAddr → Ej
open _root_.Go.Lib renaming hid → AF
open _root_.List renaming all_eq_true → Cd,contains_iff_mem → CF,find?_eq_none → Dp,find?_some → DU,getElem?_take → BP,length_cons → Bz,map_cons → Bu,map_nil → BZ,map_toArray → C1,mem_append → AJ,mem_cons → A3,mem_cons_of_mem → Bg,mem_map → Bi,mem_of_find?_eq_some → Dq,mem_range → Dn,range → BO,setIfInBounds_toArray → AQ,set_cons_succ → AS,set_cons_zero → AR
open _root_.Nat renaming add_zero → CM,div_le_self → DO,gcd → AM,le_refl → AK,le_trans → AI,lt_of_lt_of_le → Bt,mul_ne_zero → Cj,pos_of_ne_zero → Do
open _root_.Go.Op renaming operands → Dr
open _root_.Option renaming map_some → BF,some → A9
open _root_.Prod renaming mk → B3
open _root_.Go.Region renaming ready → BV,wanted → A7
open _root_.Go.Result renaming andThen → AX
open _root_.Go.Sem renaming run_bind → AO,run_pure → BC
open _root_.Go.Proofs.Tryz renaming prog → AE
open _root_.Go.Value renaming int → AW
open _root_.Go.World renaming cell?_of_block → BM,drew → Cy,size_alloc → CE
structure GT(w wx:World)(x y:Nat):Prop where
 below:AG w.heap.size w wx
 res:aN wx (w.heap.size+2) none 0 0
 v1:bR wx w.heap.size x
 v2:bR wx (w.heap.size+1) y
variable{w w':World}
theorem GT.mono{wx:World}{x y:Nat}(h:GT w wx x y)(hb:AG wx.heap.size wx w'):GT w w' x y:=
 ⟨h.below.trans (hb.mono h.below.size),h.res.mono hb h.res.lt,h.v1.mono hb,h.v2.mono hb⟩
variable{M N:Nat}
theorem gt_set{w1:World}{K P G cy:Nat}{x y:Option A2}(h:GT w w1 K P)(J:IsN w1 (.agg #[.slice x (nl M) G]) M)(hy:IsN w1 (.agg #[.slice y (nl N) cy]) N):
  GT w ((w1.setCell ⟨w.heap.size,0,none⟩ (.slice x (nl M) G)).setCell ⟨w.heap.size+1,0,none⟩ (.slice y (nl N) cy)) M N:=by
 obtain⟨U,c1,H,Y⟩:=h.v1;obtain⟨V,c2,I,Z⟩:=h.v2;have C:=I.setOther ⟨w.heap.size,0,none⟩ (.slice x (nl M) G) Ag;exact⟨(h.below.setCell (p:=⟨w.heap.size,0,none⟩) (AK _) _).setCell (p:=⟨w.heap.size+1,0,none⟩) (Nat.le_succ _) _,(h.res.setOther _ _ Ag).setOther _ _ Ag,
  ⟨x,G,H.set.setOther _ _ Ag,(J.setVar H).setVar C⟩,⟨y,cy,C.set,(hy.setVar H).setVar C⟩⟩
noncomputable def valI(w:World)(g:Nat):Nat:=Classical.epsilon (λN=>bR w g N)
variable{g:Nat}
theorem bR.val(h:bR w g N):valI w g=N:=by
 obtain⟨a',H,G,C⟩:=Classical.epsilon_spec (p:=λN=>bR w g N) ⟨N,h⟩;obtain⟨a,c,hb,hn⟩:=h;have e:=G.symm.trans hb;simp only[A9.injEq,Obj.cells.injEq,Array.mk.injEq,List.cons.injEq,Value.slice.injEq,and_true]at e;rw[e.1,e.2.1,e.2.2]at C;exact C.unique hn
set_option maxRecDepth 100000 in
set_option maxHeartbeats 4000000 in
theorem c_ref_Gcd(va vb:Value)(m n:Nat)(w:World)(ha:IsN w va m)(hb:IsN w vb n)(hm:nl m<=100000000000)(hn:nl n<=100000000000):
  AH AE 261 #[va,vb] w λe w'=>RetN w (AM m n) e w':=by
 obtain⟨a,ca,rfl,an,ra⟩:=ha;obtain⟨b,cb,rfl,ao,rb⟩:=hb;go_enter Tryz.func261,Tryz.ntmps261
 go_upto_region 0 with(fail)
 go_cut [2,3,4] (λs2 s3 s4 wx=>s2= .pointer (some ⟨w.heap.size,0,none⟩)/\s3= .pointer (some ⟨w.heap.size+1,0,none⟩)/\s4= .pointer (some ⟨w.heap.size+2,0,none⟩)/\GT w wx m n)
 case first=>
  obtain⟨k0,k1,k2⟩:=box2 (L:=nl m) (c:=ca) (N:=m) (L2:=nl n) (c2:=cb) (N2:=n) ⟨a,ca,rfl,an,ra⟩ ⟨b,cb,rfl,ao,rb⟩;have k3:=gM ((w.alloc (.cells #[.slice a (nl m) ca] 31)).alloc (.cells #[.slice b (nl n) cb] 31)) (.cells #[.slice none 0 0] 31);have k4:=aN.made ((w.alloc (.cells #[.slice a (nl m) ca] 31)).alloc (.cells #[.slice b (nl n) cb] 31)) none 0 0;rw[CE,CE]at k4;have hT:GT w _ m n:=⟨k0.trans (k3.mono k0.size),k4,iF.mono k1 k3,iF.mono k2 k3⟩;go_wp2_with fail
  go_meet;case rel=>exact⟨rfl,rfl,rfl,hT⟩
 case rest=>
  obtain⟨rfl,rfl,rfl,hT⟩:=hcut;clear ra rb an ao;go_wp2_with fail
  go_loopw [] (λwr=>∃x y:Nat,Hid (AM x y=AM m n)/\nl x<=100000000000/\nl y<=100000000000/\GT w wr x y) (λwr=>valI wr (w.heap.size+1))
  case atStart=>exact⟨m,n,AF rfl,hm,hn,hT⟩
  case round=>
   clear hT;obtain⟨x,y,ad,hx,hy,hs⟩:=hrel;obtain⟨ax,cx,vx,nx⟩:=hs.v1;obtain⟨ay,cy,vy,ny⟩:=hs.v2;have c5:=vx.cell;have c6:=vy.cell;have cr:=hs.res.cell;have fr:=hs.res.frozen;by_cases hy0:y=0
   ·subst hy0;rw[bj]at c6;have a3:x=AM m n:=by have:=ad.out;rwa [Nat.gcd_zero_right]at this
    have a7:=AF a3;clear a3;have ap:=nx.setVar (u:=.slice ax (nl x) cx) hs.res;have Z:=(hs.res.set (a':=ax) (L':=nl x) (c':=cx)).cell;have am:=hs.below.setCell (p:=⟨w.heap.size+2,0,none⟩) (Nat.le_add_right _ _) (.slice ax (nl x) cx);go_wp2;exact bodyPost_ret (eI rfl _ _ (w.heap.size+2) _ rfl Z) rfl ⟨_,rfl,by rw[<-a7.out];exact ap,am⟩
   ·have b1:=dM hy0;have ak:=AF hy0;clear hy0;go_wp2_with fail
    refine(mr _ _ x y _ nx ny hx hy ak.out).mono ?_;rintro e w1 ⟨vq,vr,rfl,nq,nr,Y⟩;obtain⟨J,U⟩:∃N:Nat,Hid (N=x % y):=⟨_,AF rfl⟩;obtain⟨Q0,a9⟩:∃N:Nat,Hid (N=x / y):=⟨_,AF rfl⟩;rw[<-U.out]at nr;rw[<-a9.out]at nq;obtain⟨aq,cq,rfl,b0,bi⟩:=nq;obtain⟨ar,I,rfl,bb,a4⟩:=nr;obtain⟨k0,k1,k2⟩:=yp w1 aq ar (nl Q0) cq (nl J) I;have nr:IsN w1 (.agg #[.slice ar (nl J) I]) J:=aP.isN ⟨ar,I,rfl,bb,a4⟩;have C:=Y.trans (k0.mono Y.size);go_upto_region 3 with(fail)
    have k3:=aF (Below.refl ((w1.alloc (.cells #[.slice aq (nl Q0) cq] 31)).alloc (.cells #[.slice ar (nl J) I] 31)).heap.size ((w1.alloc (.cells #[.slice aq (nl Q0) cq] 31)).alloc (.cells #[.slice ar (nl J) I] 31))) 1;refine wp_region_any Ab ?_
    change wpAny _ _ _ _ _ _ _ (Cy _)
    have a0:=hs.mono (C.trans (k3.mono C.size));have a5:=nr.mono (k0.trans (k3.mono k0.size));have a6:=ny.mono (C.trans (k3.mono C.size));have v8:aN (World.drewN _ 1) (w1.heap.size+1) ar (nl J) I:=k2.mono k3 k2.lt;have ab:=vy.mono (C.trans (k3.mono C.size)) vy.lt;have aa:=vx.mono (C.trans (k3.mono C.size)) vx.lt;have be:w1.heap.size+1≠w.heap.size:=by have:=vx.lt;have:=Y.size;omega
    have H:=Nat.mod_lt x (Do ak.out);rw[<-U.out]at H;have au:AM y J=AM m n:=by rw[U.out,<-ad.out,Nat.gcd_comm x y,Nat.gcd_rec y x,Nat.gcd_comm]
    have ac:=AF au;have av:nl J<=100000000000:=AI (dN (Nat.le_of_lt H)) hy;clear au c5 c6 cr fr k0 k1 k2 k3 C bi a4
    change GT w (Cy _) x y at a0
    change IsN (Cy _) _ _ at a5
    change IsN (Cy _) _ _ at a6
    change aN (Cy _) _ _ _ _ at v8
    change aN (Cy _) _ _ _ _ at ab
    change aN (Cy _) _ _ _ _ at aa
    generalize Cy _=w3 at *;have V:=gt_set a0 a6 a5;have bp:=v8.setOther ⟨w.heap.size,0,none⟩ (.slice ay (nl y) cy) (λe=>be e.symm);have P:=ab.setOther ⟨w.heap.size,0,none⟩ (.slice ay (nl y) cy) Ag;have a1:=hs.v2.val;have a2:=V.v2.val;have c6:=ab.cell;have c8:=v8.cell;have f5:=aa.frozen;have c5:=aa.cell;have bq:=P.cell;have bz:=P.frozen;have bt:=bp.cell;refine ec (i:=0) (t:=2) (d:=some 19) (v:=?v3_0_1) rfl rfl th rfl rfl Ab Ab (λ_ _ _ h=>h) ⟨Ai,?hy3_0_1⟩ ?_;case hy3_0_1=>(go_simp;try with_reducible rfl)
    try simp only[AN,AQ,AR,AS]
    refine BT (rs:=[1,2]) Ab Ag ?_;refine BI rfl (λK G=> ?_) ?_
    ·go_simp
     refine G _ _ ?_;clear G K;try simp only[AN,AQ,AR,AS]
     refine BT (rs:=[2]) Ab Ag ?_;refine BI rfl (λK G=> ?_) BS;go_simp;refine G _ _ ?_;clear G K;try simp only[AN,AQ,AR,AS]
     refine BT (rs:=[3]) Ab Ag ?_;refine BI rfl (λK G=> ?_) BS;go_simp;refine G _ _ ?_;clear G K;try simp only[AN,AQ,AR,AS]
     refine wpAny_done Ab ?_ _;go_wp2_with fail
     go_roundw
     case rel=>exact⟨y,J,ac,hy,av,V⟩
     case measure=>rw[a1,a2];exact H
    refine BI rfl (λK G=> ?_) ?_
    ·go_simp
     refine G _ _ ?_;clear G K;try simp only[AN,AQ,AR,AS]
     refine BT (rs:=[1]) Ab Ag ?_;refine BI rfl (λK G=> ?_) BS;go_simp;refine G _ _ ?_;clear G K;try simp only[AN,AQ,AR,AS]
     refine BT (rs:=[3]) Ab Ag ?_;refine BI rfl (λK G=> ?_) BS;go_simp;refine G _ _ ?_;clear G K;try simp only[AN,AQ,AR,AS]
     refine wpAny_done Ab ?_ _;go_wp2_with fail
     go_roundw
     case rel=>exact⟨y,J,ac,hy,av,V⟩
     case measure=>rw[a1,a2];exact H
    exact BS
section
variable {Q:Bf->Act->World->Prop} {o:Oper} {a:Act} {w:World} {x y:AZ} {m n:Nat} {tt:Array TypeId}
end
variable{v:Value}
theorem IsN.shape(h:IsN w v N):∃x c,v= .agg #[.slice x (nl N) c]:=by
 obtain⟨x,c,rfl,_⟩:=h;exact⟨x,c,rfl⟩
variable{c:Nat}
theorem bR.put{x:Option A2}(hv:aN w g none 0 0)(hn:IsN w (.agg #[.slice x (nl N) c]) N):bR (w.setCell ⟨g,0,none⟩ (.slice x (nl N) c)) g N:=
 ⟨x,c,hv.set,hn.setVar hv⟩
variable{L:Nat}{a a':Option A2}
theorem bR.set{c':Nat}(h:aN w g a L c)(hn:IsN w (.agg #[.slice a' (nl N) c']) N):bR (w.setCell ⟨g,0,none⟩ (.slice a' (nl N) c')) g N:=⟨a',c',h.set,hn.setVar h⟩
section
variable {P:A0} {Q:Bf->Act->World->Prop} {md:Region.Mode}
def aax(P:A0)(Q:Bf->Act->World->Prop)(ops:Array Oper)(al:Bool)(j:Nat)(a':Act)(w':World)(s:Sp):Prop:=
 ∃o,ops[j]? =some o/\((A7 o (yielded ops a'.tmps)=true/\ArmB P Q al o a' w' s)\/(A7 o (yielded ops a'.tmps)=false/\al=false/\s.p w' undef))
variable{ops:Array Oper}
theorem aax.run{al:Bool}{j:Nat}{a':Act}{s:Sp}{o:Oper}(C:ops[j]? =some o)(G:A7 o (yielded ops a'.tmps)=true)(h:ArmB P Q al o a' w' s):aax P Q ops al j a' w' s:=⟨o,C,.inl ⟨G,h⟩⟩
theorem aax.skip{j:Nat}{a':Act}{s:Sp}{o:Oper}(C:ops[j]? =some o)(G:A7 o (yielded ops a'.tmps)=false)(h:s.p w' undef):aax P Q ops false j a' w' s:=⟨o,C,.inr ⟨G,rfl,h⟩⟩
end
def IsF(w:World)(v:Value)(s:Bool)(p q:Nat):Prop:=∃a c b d,v= .agg #[.bool s,.slice a (nl p) c,.slice b (nl q) d]/\IsN w (.agg #[.slice a (nl p) c]) p/\IsN w (.agg #[.slice b (nl q) d]) q
variable{s:Bool}{p q:Nat}
theorem IsF.mono(h:IsF w v s p q)(hb:AG w.heap.size w w'):IsF w' v s p q:=by
 obtain⟨a,c,b,d,rfl,h1,h2⟩:=h;exact⟨a,c,b,d,rfl,h1.mono hb,h2.mono hb⟩
def bO(w:World)(g:Nat)(s:Bool)(a:Option A2)(L c:Nat)(b:Option A2)(M d:Nat):Prop:=w.heap[g]? =some (.cells #[.bool s,.slice a L c,.slice b M d] 33 (0,0))
section
variable {w w':World} {g L c M d B:Nat} {s:Bool} {a b:Option A2}
theorem bO.lt(h:bO w g s a L c b M d):g<w.heap.size:=(A8.1 h).1
theorem bO.mono(h:bO w g s a L c b M d)(hb:AG B w w')(hB:g<B):bO w' g s a L c b M d:=(hb.block g hB).trans h
theorem bO.cell1(h:bO w g s a L c b M d):w.cell? ⟨g,1,none⟩=some (.slice a L c):=by rw[CB w g 1 _ _ (0,0) h];rfl
theorem bO.cell2(h:bO w g s a L c b M d):w.cell? ⟨g,2,none⟩=some (.slice b M d):=by rw[CB w g 2 _ _ (0,0) h];rfl
theorem bO.frozen(h:bO w g s a L c b M d)(j:Nat):w.frozen? ⟨g,j,none⟩=false:=frozen_of_row w g j _ _ h
theorem bO.made(w:World)(s:Bool)(a:Option A2)(L c:Nat)(b:Option A2)(M d:Nat):bO (w.alloc (.cells #[.bool s,.slice a L c,.slice b M d] 33)) w.heap.size s a L c b M d:=heap_alloc_new w _
end
def iG(w:World)(g:Nat)(s:Bool)(p q:Nat):Prop:=∃a c b d,bO w g s a (nl p) c b (nl q) d/\IsN w (.agg #[.slice a (nl p) c]) p/\IsN w (.agg #[.slice b (nl q) d]) q
theorem iG.mono(h:iG w g s p q)(hb:AG w.heap.size w w'):iG w' g s p q:=by
 obtain⟨a,c,b,d,h0,h1,h2⟩:=h;exact⟨a,c,b,d,h0.mono hb h0.lt,h1.mono hb,h2.mono hb⟩
def Sp.fr(s:Bool)(p q:Nat):Sp:=⟨λw v=>IsF w v s p q,λ_ _ _ h hb=>h.mono hb⟩
def RetF(W:World)(s:Bool)(p q:Nat)(e:BH)(w':World):Prop:=∃v,e= .returned v/\IsF w' v s p q/\AG W.heap.size W w'
theorem c_isZero(va:Value)(m:Nat)(w:World)(ha:IsN w va m)(I:nl m<=1000000000000):
  AH AE 197 #[va] w λe w'=>bk w (.bool (decide (m=0))) e w':=by
 obtain⟨a,C,rfl,G,J⟩:=ha;have H:=gM w (.cells #[.slice a (nl m) C] 31);have v1:=aN.made w a (nl m) C;have c1:=v1.cell;have e:(((nl m:Nat):Int)==0)=decide (m=0):=by
  rw[E5];simp[ll]
 go_enter Tryz.func197,Tryz.ntmps197
 go_wp2;go_ret;exact⟨by first | rfl | (rw[<-e];rfl) | simp_all,H⟩
theorem c_zero(va:Value)(m:Nat)(w:World)(ha:IsN w va m)(I:nl m<=1000000000000):
  AH AE 260 #[va] w λe w'=>bk w (.bool (decide (m=0))) e w':=by
 obtain⟨a,C,rfl,G,J⟩:=ha;have H:=gM w (.cells #[.slice a (nl m) C] 31);have v1:=aN.made w a (nl m) C;have c1:=v1.cell;have e:(((nl m:Nat):Int)==0)=decide (m=0):=by
  rw[E5];simp[ll]
 go_enter Tryz.func260,Tryz.ntmps260
 go_wp2;go_ret;exact⟨by first | rfl | (rw[<-e];rfl) | simp_all,H⟩
def putF(w:World)(g:Nat)(s:Bool)(a:Option A2)(L c:Nat)(b:Option A2)(M d:Nat):World:=
 ((w.setCell ⟨g,0,none⟩ (.bool s)).setCell ⟨g,1,none⟩ (.slice a L c)).setCell ⟨g,2,none⟩ (.slice b M d)
section
variable {w:World} {g L c M d L' c' M' d':Nat} {s s':Bool} {a b a' b':Option A2}
theorem bO.put(h:bO w g s a L c b M d):bO (putF w g s' a' L' c' b' M' d') g s' a' L' c' b' M' d':=by
 have h1:=CH w g 0 _ _ (.bool s') h;have h2:=CH _ g 1 _ _ (.slice a' L' c') h1;have h3:=CH _ g 2 _ _ (.slice b' M' d') h2;exact h3
theorem putF_heap{k:Nat}(C:k≠g):(putF w g s a L c b M d).heap[k]? =w.heap[k]? :=by
 unfold putF;rw[CD _ _ _ k C,CD _ _ _ k C,CD _ _ _ k C]
theorem bO.ne(h:bO w g s a L c b M d){k o:Nat}{x:Int}{G:IntKind}(C:w.cell? ⟨k,o,none⟩=some (.int G x)):k≠g:=by
 rintro rfl;rw[CB w k o _ _ (0,0) h]at C
 match o,C with
 | 0,C=>cases C
 | 1,C=>cases C
 | 2,C=>cases C
 | (o+3),C=>simp at C
theorem IsN.putF(h:IsN w v N)(J:bO w g s a L c b M d):IsN (putF w g s' a' L' c' b' M' d') v N:=by
 obtain⟨x,cap,rfl,hc,I⟩:=h;refine⟨x,cap,rfl,hc,I.lt,λG=> ?_⟩;obtain⟨k,off,rfl,H⟩:=I.cells G;have C:k≠g:=J.ne (by simpa using H 0 G);refine⟨k,off,rfl,λj K=> ?_⟩;rw[BM (putF_heap At)];exact H j K
theorem IsF.putF{t:Bool}(h:IsF w v t p q)(C:bO w g s a L c b M d):IsF (putF w g s' a' L' c' b' M' d') v t p q:=by
 obtain⟨x,G,y,cy,rfl,h1,h2⟩:=h;exact⟨x,G,y,cy,rfl,h1.putF C,h2.putF C⟩
end
section
variable {Q:Bf->Act->World->Prop} {o:Oper} {a:Act} {w:World} {x y z:AZ} {m n p q g:Nat} {s:Bool} {tt:Array TypeId}
end
def RetFE(W:World)(s:Bool)(p q:Nat)(c:Int)(e:BH)(w':World):Prop:=∃v,e= .returned (.tuple #[v,.int .i64 c])/\IsF w' v s p q/\AG W.heap.size W w'
theorem IsF.zero(w:World):IsF w (.agg #[.bool false,.slice none 0 0,.slice none 0 0]) false 0 0:=by
 have h:IsN w (.agg #[.slice none (nl 0) 0]) 0:=by rw[bj];exact aP.isN (base:=0) aP.of_zero
 exact⟨none,0,none,0,by rw[bj],h,h⟩
variable{d:Nat}{b:Option A2}
theorem iG.of(h:bO w g s a (nl p) c b (nl q) d)(h1:IsN w (.agg #[.slice a (nl p) c]) p)(h2:IsN w (.agg #[.slice b (nl q) d]) q):iG w g s p q:=⟨a,c,b,d,h,h1,h2⟩
def dw(s:Bool)(m:Nat):Bool:=s && !decide (m=0)
def eM(m n:Nat):Nat:=m / AM m n
def fi(m n:Nat):Nat:=n / AM m n
variable{m n:Nat}
theorem aG{e:Nat}(C:nl m<=d)(hn:nl n<=e):nl (m*n)<=d+e:=aI.2 (sm_mul (aI.1 C) (aI.1 hn))
theorem bO.setOther(h:bO w g s a L c b M d)(p:A2)(u:Value)(hp:p.block≠g):bO (w.setCell p u) g s a L c b M d:=
 (CD w p u g (λe=>hp e.symm)).trans h
theorem iG.setOther{C L' c':Nat}{u:Value}(h:iG w g s p q)(H:aN w C a' L' c')(G:C≠g):iG (w.setCell ⟨C,0,none⟩ u) g s p q:=by
 obtain⟨a,c,b,d,h0,h1,h2⟩:=h;exact⟨a,c,b,d,h0.setOther _ _ G,h1.setVar H,h2.setVar H⟩
theorem iG.lt(h:iG w g s p q):g<w.heap.size:=by obtain⟨_,_,_,_,h,_⟩:=h;exact h.lt
theorem bR.lt(h:bR w g N):g<w.heap.size:=by obtain⟨_,_,h,_⟩:=h;exact h.lt
def cP(s s':Bool)(X Y:Nat):Bool:=if s=s' then s else if Y<=X then s else s'
def cL(s s':Bool)(X Y:Nat):Nat:=if s=s' then X+Y else if Y<=X then X - Y else Y - X
theorem nl_add2(C:nl m<=d)(hn:nl n<=d):nl (m+n)<=d+d+1:=aI.2 (sm_add (aI.1 C) (aI.1 hn))
theorem addM_le(s s':Bool)(X Y:Nat):cL s s' X Y<=X+Y:=by unfold cL;by_cases h:s=s'<;>by_cases h2:Y<=X<;>simp only[h,h2,if_true,if_false]<;>omega
structure Upd(w:World)(g:Nat)(w':World):Prop where
 os:w'.os=w.os
 tape:w'.tape=w.tape
 output:w'.output=w.output
 size:w'.heap.size=w.heap.size
 block:∀k,k≠g->w'.heap[k]? =w.heap[k]?
theorem Upd.cell(w:World)(g k:Nat)(u:Value):Upd w g (w.setCell ⟨g,k,none⟩ u):=⟨rfl,rfl,rfl,by simp[World.setCell],λi hi=>CD _ _ _ _ hi⟩
theorem Upd.trans{a b c:World}(h:Upd a g b)(k:Upd b g c):Upd a g c:=⟨k.os.trans h.os,k.tape.trans h.tape,k.output.trans h.output,k.size.trans h.size,λi hi=>(k.block i hi).trans (h.block i hi)⟩
theorem Upd.below{W:World}{B:Nat}(h:AG B W w)(u:Upd w g w')(hB:B<=g):AG B W w':=
 h.trans ⟨u.os,u.tape,u.output,by rw[u.size];exact AK _,λk C=>u.block k Aa⟩
def Own(w:World)(g:Nat):Prop:=∃(cs:Array Value)(t:TypeId),w.heap[g]? =some (Obj.cells cs t (0,0))/\∀(k:Nat)(n:Int),cs[k]? ≠some (AW .u32 n)
theorem aN.own(h:aN w g a L c):Own w g:=⟨_,_,h,λk n=>by
 match k with
 | 0=>intro h;cases h
 | k+1=>intro h;simp at h⟩
theorem bO.own(h:bO w g s a L c b M d):Own w g:=⟨_,_,h,λk n=>by
 match k with
 | 0=>intro h;cases h
 | 1=>intro h;cases h
 | 2=>intro h;cases h
 | k+3=>intro h;simp at h⟩
theorem bR.own(h:bR w g N):Own w g:=by obtain⟨_,_,h,_⟩:=h;exact h.own
theorem iG.own(h:iG w g s p q):Own w g:=by obtain⟨_,_,_,_,h,_⟩:=h;exact h.own
variable{k o:Nat}
theorem Own.ne{x:Int}(h:Own w g)(C:w.cell? ⟨k,o,none⟩=some (.int .u32 x)):k≠g:=by
 rintro rfl;obtain⟨cs,t,h1,h2⟩:=h;rw[CB w k o _ _ (0,0) h1]at C;exact h2 o x C
section
variable {w w':World} {g g' N L c M d p q:Nat} {s:Bool} {a b:Option A2}
theorem IsR.upd{L N:Nat}(h:IsR w v L N)(o:Own w g)(u:Upd w g w'):IsR w' v L N:=by
 obtain⟨x,cap,rfl,hc,I⟩:=h;refine⟨x,cap,rfl,hc,I.lt,λG=> ?_⟩;obtain⟨b,off,rfl,H⟩:=I.cells G;have C:b≠g:=o.ne (by simpa using H 0 G);refine⟨b,off,rfl,λj J=> ?_⟩;rw[BM (u.block b C)];exact H j J
theorem IsN.upd(h:IsN w v N)(o:Own w g)(u:Upd w g w'):IsN w' v N:=IsR.upd h o u
theorem IsF.upd(h:IsF w v s p q)(o:Own w g)(u:Upd w g w'):IsF w' v s p q:=by
 obtain⟨x,C,y,cy,rfl,h1,h2⟩:=h;exact⟨x,C,y,cy,rfl,h1.upd o u,h2.upd o u⟩
theorem aN.upd(h:aN w g' a L c)(o:Own w g)(u:Upd w g w')(hn:g'≠g):aN w' g' a L c:=(u.block g' hn).trans h
theorem bO.upd(h:bO w g' s a L c b M d)(o:Own w g)(u:Upd w g w')(hn:g'≠g):bO w' g' s a L c b M d:=(u.block g' hn).trans h
theorem bR.upd(h:bR w g' N)(o:Own w g)(u:Upd w g w')(hn:g'≠g):bR w' g' N:=by
 obtain⟨x,C,h1,h2⟩:=h;exact⟨x,C,h1.upd o u hn,h2.upd o u⟩
theorem iG.upd(h:iG w g' s p q)(o:Own w g)(u:Upd w g w')(hn:g'≠g):iG w' g' s p q:=by
 obtain⟨x,C,y,cy,h0,h1,h2⟩:=h;exact⟨x,C,y,cy,h0.upd o u hn,h1.upd o u,h2.upd o u⟩
theorem bR.zero(h:aN w g none 0 0):bR w g 0:=⟨none,0,by rw[bj];exact h,by rw[bj];exact aP.isN (base:=0) aP.of_zero⟩
theorem iG.zero(h:bO w g false none 0 0 none 0 0):iG w g false 0 0:=by
 have h0:IsN w (.agg #[.slice none (nl 0) 0]) 0:=by rw[bj];exact aP.isN (base:=0) aP.of_zero
 exact⟨none,0,none,0,by rw[bj];exact h,h0,h0⟩
end
section
variable {Q:Bf->Act->World->Prop} {md:Region.Mode} {ops:Array Oper} {o:Oper} {a:Act} {w:World} {j fuel:Nat} {listed:Array Bool} {x y:AZ} {g L c M d N p q:Nat} {s t:Bool} {u v:Option A2}
theorem aN.any(h:aN w g u L c):∃s L c,aN w g s L c:=⟨_,_,_,h⟩
theorem bR.any(h:bR w g N):∃s L c,aN w g s L c:=by obtain⟨_,_,h,_⟩:=h;exact⟨_,_,_,h⟩
theorem bO.any(h:bO w g s u L c v M d):∃s u L c v M d,bO w g s u L c v M d:=⟨_,_,_,_,_,_,_,h⟩
theorem iG.any(h:iG w g s p q):∃s u L c v M d,bO w g s u L c v M d:=by obtain⟨_,_,_,_,h,_⟩:=h;exact⟨_,_,_,_,_,_,_,h⟩
end
section
variable {Q:Bf->Act->World->Prop} {md:Region.Mode} {ops:Array Oper} {o:Oper} {a:Act} {w:World} {j fuel:Nat} {listed:Array Bool} {x y:AZ} {g L c M d N p q:Nat} {s t:Bool} {u v:Option A2}
section
variable {f:BA} {S S1 S2 S3:Sp} {z:AZ} {tt:Array TypeId} {R:World->BH->World->Prop}
end
end
theorem res_N{fn:Func}{p:Tmp}(h:fn.results=#[.cell p 31]){tmps:Array Value} 
  (hp:tmps[p]? =some (.pointer (some ⟨g,0,none⟩)))(hv:aN w g a L c):(results fn tmps).run AE w= .ok (.agg #[.slice a L c]) w:=by
 have c0:=hv.cell;simp[results,h,hp,asAddr,loadVar,go_sem,c0]
theorem resN:AG w.heap.size w (w.alloc (.cells #[.slice none 0 0] 31))/\aN (w.alloc (.cells #[.slice none 0 0] 31)) w.heap.size none 0 0:=⟨gM w _,aN.made w none 0 0⟩
structure Fq where
 s:Bool
 p:Nat
 q:Nat
abbrev IsQ(w:World)(v:Value)(x:Fq):Prop:=IsF w v x.s x.p x.q
def eN(W:World)(x:Fq)(e:BH)(w':World):Prop:=RetF W x.s x.p x.q e w'
def pL(W:World)(x:Fq)(c:Int)(e:BH)(w':World):Prop:=RetFE W x.s x.p x.q c e w'
def Fq.low(s:Bool)(m n:Nat):Fq:=⟨dw s m,eM m n,fi m n⟩
def Fq.neg(x:Fq):Fq:=⟨dw (!x.s) x.p,x.p,x.q⟩
def Fq.add(x y:Fq):Fq:=.low (cP x.s y.s (x.p*y.q) (y.p*x.q)) (cL x.s y.s (x.p*y.q) (y.p*x.q)) (x.q*y.q)
def Fq.mul(x y:Fq):Fq:=.low (x.s !=y.s) (x.p*y.p) (x.q*y.q)
def Fq.div(x y:Fq):Fq:=.low (x.s !=y.s) (x.p*y.q) (x.q*y.p)
def Fq.sub(x y:Fq):Fq:=x.add y.neg
def Fq.sgn(x:Fq):Int:=if x.p=0 then 0 else if x.s then -1 else 1
def Fq.cmp(x y:Fq):Int:=(x.sub y).sgn
def Fq.zero:Fq:=⟨false,0,0⟩
structure Fq.ok(d:Nat)(x:Fq):Prop where
 p:nl x.p<=d
 q:nl x.q<=d
 n:x.q≠0
section
variable {x y:Fq} {d e:Nat}
theorem Fq.ok.mono(h:x.ok d)(C:d<=e):x.ok e:=⟨AI h.p C,AI h.q C,h.n⟩
theorem Fq.ok_low(C:nl m<=d)(hn:nl n<=d)(h0:n≠0):(Fq.low s m n).ok d:=
 ⟨AI (dN (DO _ _)) C,AI (dN (DO _ _)) hn,λh=>by
  have h1:n / AM m n=0:=h;rw[Nat.div_eq_zero_iff]at h1;have h2:=Nat.gcd_pos_of_pos_right m (Do h0);have h3:=Nat.gcd_le_right m (Do h0);omega⟩
theorem Fq.ok.neg(h:x.ok d):x.neg.ok d:=⟨h.p,h.q,h.n⟩
theorem Fq.ok.mul(h:x.ok d)(k:y.ok e):(x.mul y).ok (d+e):=Fq.ok_low (aG h.p k.p) (aG h.q k.q) (Cj h.n k.n)
theorem Fq.ok.div(h:x.ok d)(k:y.ok e)(h0:y.p≠0):(x.div y).ok (d+e):=Fq.ok_low (aG h.p k.q) (aG h.q k.p) (Cj h.n h0)
theorem Fq.ok.add(h:x.ok d)(k:y.ok e):(x.add y).ok (d+e+(d+e)+1):=
 Fq.ok_low (AI (dN (addM_le _ _ _ _)) (nl_add2 (aG h.p k.q) (AI (aG k.p h.q) Aa))) (AI (aG h.q k.q) Aa) (Cj h.n k.n)
theorem Fq.ok.sub(h:x.ok d)(k:y.ok e):(x.sub y).ok (d+e+(d+e)+1):=h.add k.neg
end
abbrev fnV(f:BA):Value:=.func (.func f) #[] #[]
def eO(v:Value):Prop:=(∀cs,v≠ .agg cs)/\(∀vs,v≠ .tuple vs)/\∀n,v≠ .int .u32 n
def bF(w:World)(g:Nat):Prop:=g<w.heap.size/\∀(k:Nat)(n:Int),w.cell? ⟨g,k,none⟩≠some (.int .u32 n)
variable{cs:Array Value}{t:TypeId}
theorem bF.mk'(h:w.heap[g]? =some (Obj.cells cs t (0,0)))(hc:∀(k:Nat)(n:Int),cs[k]? ≠some (AW .u32 n)):bF w g:=
 ⟨(A8.1 h).1,λk n C=>hc k n (by rw[CB w g k _ _ (0,0) h]at C;exact C)⟩
theorem Own.x(h:Own w g):bF w g:=by obtain⟨cs,t,h1,h2⟩:=h;exact .mk' h1 h2
theorem bF.blk(h:bF w g)(e:w'.heap[g]? =w.heap[g]?)(hs:w.heap.size<=w'.heap.size):bF w' g:=⟨Bt h.1 hs,λk n C=>h.2 k n (by rw[<-BM (w:=w) (w':=w') (a:=⟨g,k,none⟩) e];exact C)⟩
structure Chg(w w':World)(X:Nat->Prop):Prop where
 size:w.heap.size<=w'.heap.size
 blk:∀g,g<w.heap.size->¬X g->w'.heap[g]? =w.heap[g]?
 own:∀g,X g->bF w g
structure Vp where
 p:World->Value->Prop
 fp:World->Value->Nat->Prop
 ch:∀w w' X v,p w v->Chg w w' X->(∀g,fp w v g->¬X g)->p w' v/\∀g,fp w' v g->fp w v g
 lt:∀w v g,p w v->fp w v g->g<w.heap.size
 fl:∀w v,p w v->eO v
def Vp.of(p:World->Value->Prop)(fp:Value->Nat->Prop)(ch:∀w w' X v,p w v->Chg w w' X->(∀g,fp v g->¬X g)->p w' v)(lt:∀w v g,p w v->fp v g->g<w.heap.size)(fl:∀w v,p w v->eO v):Vp:=
 ⟨p,λ_=>fp,λw w' X v h c k=>⟨ch w w' X v h c k,λ_ h=>h⟩,lt,fl⟩
theorem IsR.chg{X:Nat->Prop}(h:IsR w v L N)(k:Chg w w' X):IsR w' v L N:=by
 obtain⟨x,cap,rfl,hc,H⟩:=h;refine⟨x,cap,rfl,hc,H.lt,λC=> ?_⟩;obtain⟨b,off,rfl,G⟩:=H.cells C;have hb:w'.heap[b]? =w.heap[b]? :=k.blk b (G.lt C) (λI=>(k.own b I).2 off _ (by simpa using G 0 C));refine⟨b,off,rfl,λj J=> ?_⟩;rw[BM hb];exact G j J
def Vp.val(u:Value):Vp:=.of (λ_ v=>v=u/\eO v) (λ_ _=>False) (λ_ _ _ _ h _ _=>h) (λ_ _ _ _ h=>h.elim) (λ_ _ h=>h.2)
def Vp.dig(L N:Nat):Vp:=.of (λw v=>IsR w (.agg #[v]) L N) (λ_ _=>False) (λ_ _ _ _ h k _=>h.chg k) (λ_ _ _ _ h=>h.elim) (λw v h=>by
 obtain⟨a,c,e,_⟩:=h;have e2:v= .slice a L c:=by
  injection e with e;have:=congrArg (λx:Array Value=>x[0]?) e;simpa using this
 subst e2;exact⟨λ_ h=>by(cases h),λ_ h=>by(cases h),λ_ h=>by(cases h)⟩)
theorem Chg.below(h:AG w.heap.size w w'):Chg w w' (λ_=>False):=⟨h.size,λg C _=>h.block g C,λ_ h=>h.elim⟩
theorem Chg.upd(o:bF w g)(u:Upd w g w'):Chg w w' (λx=>x=g):=⟨by rw[u.size];exact AK _,λk _ C=>u.block k C,λk C=>by subst C;exact o⟩
abbrev Rho:=List Vp
inductive Leaf where
 | b (x:Bool)
 | i (k:IntKind) (n:Int)
 | ptr (v off:Nat)
 | nilp
 | ref (n:Nat)
 | fn (f:BA)
 | sl0
 | s (x:ByteArray)
 | own (i n:Nat)
 deriving DecidableEq
inductive SV where
 | one (l:Leaf)
 | agg (ls:List Leaf)
 deriving DecidableEq
inductive AV where
 | v (s:SV)
 | tup (xs:List SV)
 | any
 deriving DecidableEq
structure Blk where
 v:Nat->Option Nat
 o:Nat->Nat->Prop
def noB:Blk:=⟨λ_=>none,λ_ _=>False⟩
def Blk.has(B:Blk)(g:Nat):Prop:=(∃x,B.v x=some g)\/∃k,B.o k g
theorem tQ:¬noB.has g:=by rintro(⟨x,h⟩ | ⟨k,h⟩);(cases h);exact h
abbrev OW:Nat:=1000000
def Leaf.holds(ρ:Rho)(B:Blk)(w:World)(l:Leaf)(v:Value):Prop:=
 match l with
 | .b x=>v= .bool x
 | .i k n=>v= .int k n
 | .ptr x o=>∃g,B.v x=some g/\v= .pointer (some ⟨g,o,none⟩)
 | .nilp=>v= .pointer none
 | .ref n=>∃s,ρ[n]? =some s/\s.p w v/\∀g,s.fp w v g->¬B.has g
 | .fn f=>v=fnV f
 | .sl0=>v= .slice none 0 0
 | .s x=>v= .string x
 | .own k m=>∃s,ρ[m]? =some s/\s.p w v/\(∀g,s.fp w v g->B.o k g)/\∀g,v.ownBlock=some g->B.o k g
def az(ρ:Rho)(B:Blk)(w:World):List Leaf->List Value->Prop
 | [],[]=>True
 | l::ls,v::vs=>l.holds ρ B w v/\az ρ B w ls vs
 | _,_=>False
def SV.holds(ρ:Rho)(B:Blk)(w:World)(s:SV)(v:Value):Prop:=
 match s with
 | .one l=>l.holds ρ B w v
 | .agg ls=>∃vs:List Value,v= .agg vs.toArray/\az ρ B w ls vs
def cO(ρ:Rho)(B:Blk)(w:World):List SV->List Value->Prop
 | [],[]=>True
 | l::ls,v::vs=>l.holds ρ B w v/\cO ρ B w ls vs
 | _,_=>False
def AV.holds(ρ:Rho)(B:Blk)(w:World)(s:AV)(v:Value):Prop:=
 match s with
 | .v s=>s.holds ρ B w v
 | .tup xs=>∃vs:List Value,v= .tuple vs.toArray/\cO ρ B w xs vs
 | .any=>v=undef
section
variable {ρ:Rho} {B B':Blk} {w w':World} {g:Nat} {v:Value}
structure BLe(B B':Blk):Prop where
 v:∀x g,B.v x=some g->B'.v x=some g
 o:∀k g,B.o k g->B'.o k g
def yx(n:Nat)(B B':Blk):Prop:=∀g,B'.has g->B.has g\/n<=g
def BOk(B:Blk)(n:Nat):Prop:=∀g,B.has g->g<n
theorem BLe.refl:BLe B B:=⟨λ_ _ h=>h,λ_ _ h=>h⟩
theorem yx.refl:yx n B B:=λ_ h=>.inl h
structure BInj(B:Blk):Prop where
 v:∀x y g,B.v x=some g->B.v y=some g->x=y
 o:∀k l g,B.o k g->B.o l g->k=l
 vo:∀x k g,B.v x=some g->¬B.o k g
variable{l:Leaf}
theorem Leaf.holds.mono(h:l.holds ρ B w v)(hB:BLe B B')(G:yx w.heap.size B B')(hb:AG w.heap.size w w'):l.holds ρ B' w' v:=by
 cases l<;>simp only[Leaf.holds]at h⊢ <;>try exact h
 ·obtain⟨g,h1,h2⟩:=h;exact⟨g,hB.v _ _ h1,h2⟩
 ·obtain⟨s,h1,h2,h3⟩:=h;obtain⟨c1,c2⟩:=s.ch _ _ _ _ h2 (.below hb) (λ_ _ h=>h);refine⟨s,h1,c1,λg C H=> ?_⟩;rcases G g H with h | h
  ·exact h3 g (c2 g C) h
  ·have:=s.lt _ _ _ h2 (c2 g C);omega
 ·obtain⟨s,h1,h2,h3,h4⟩:=h;obtain⟨c1,c2⟩:=s.ch _ _ _ _ h2 (.below hb) (λ_ _ h=>h);exact⟨s,h1,c1,λg C=>hB.o _ _ (h3 g (c2 g C)),λg C=>hB.o _ _ (h4 g C)⟩
theorem Leaf.holds.upd(h:l.holds ρ B w v)(o:bF w g)(u:Upd w g w')(C:∃x,B.v x=some g)(hi:BInj B):l.holds ρ B w' v:=by
 obtain⟨x,C⟩:=C;cases l<;>simp only[Leaf.holds]at h⊢ <;>try exact h
 ·obtain⟨s,h1,h2,h3⟩:=h;obtain⟨c1,c2⟩:=s.ch _ _ _ _ h2 (.upd o u) (λk H e=>by subst e;exact h3 _ H (.inl ⟨x,C⟩));exact⟨s,h1,c1,λg G=>h3 g (c2 g G)⟩
 ·obtain⟨s,h1,h2,h3,h4⟩:=h;obtain⟨c1,c2⟩:=s.ch _ _ _ _ h2 (.upd o u) (λk H e=>by subst e;exact hi.vo _ _ _ C (h3 _ H));exact⟨s,h1,c1,λg G=>h3 g (c2 g G),h4⟩
theorem az.all:∀ {ls:List Leaf} {vs:List Value},az ρ B w ls vs->(∀(l:Leaf)(v:Value),Leaf.holds ρ B w l v->Leaf.holds ρ B' w' l v)->az ρ B' w' ls vs
 | [],[],_,_=>trivial
 | _::_,_::_,h,f=>⟨f _ _ h.1,az.all h.2 f⟩
 | [],_::_,h,_=>h.elim
 | _::_,[],h,_=>h.elim
theorem SV.holds.all{s:SV}(h:s.holds ρ B w v)(f:∀(l:Leaf)(v:Value),Leaf.holds ρ B w l v->Leaf.holds ρ B' w' l v):s.holds ρ B' w' v:=by
 cases s with
 | one l=>exact f _ _ h
 | agg ls=>obtain⟨vs,e,h⟩:=h;exact⟨vs,e,az.all h f⟩
theorem cO.all:∀ {ls:List SV} {vs:List Value},cO ρ B w ls vs->(∀(l:Leaf)(v:Value),Leaf.holds ρ B w l v->Leaf.holds ρ B' w' l v)->cO ρ B' w' ls vs
 | [],[],_,_=>trivial
 | _::_,_::_,h,f=>⟨h.1.all f,cO.all h.2 f⟩
 | [],_::_,h,_=>h.elim
 | _::_,[],h,_=>h.elim
theorem AV.holds.all{s:AV}(h:s.holds ρ B w v)(f:∀(l:Leaf)(v:Value),Leaf.holds ρ B w l v->Leaf.holds ρ B' w' l v):s.holds ρ B' w' v:=by
 cases s with
 | v s=>exact SV.holds.all h f
 | tup ls=>obtain⟨vs,e,h⟩:=h;exact⟨vs,e,h.all f⟩
 | any=>exact h
theorem AV.holds.mono{s:AV}(h:s.holds ρ B w v)(hB:BLe B B')(C:yx w.heap.size B B')(hb:AG w.heap.size w w'):s.holds ρ B' w' v:=h.all (λ_ _ h=>h.mono hB C hb)
theorem AV.holds.upd{s:AV}(h:s.holds ρ B w v)(o:bF w g)(u:Upd w g w')(C:∃x,B.v x=some g)(hi:BInj B):s.holds ρ B w' v:=h.all (λ_ _ h=>h.upd o u C hi)
theorem az.len:∀ {ls:List Leaf} {vs:List Value},az ρ B w ls vs->vs.length=ls.length
 | [],[],_=>rfl
 | _::_,_::_,h=>by simp[h.2.len]
 | [],_::_,h=>h.elim
 | _::_,[],h=>h.elim
theorem az.get:∀ {ls:List Leaf} {vs:List Value} {k:Nat} {l:Leaf},az ρ B w ls vs->ls[k]? =some l->∃v,vs[k]? =some v/\l.holds ρ B w v
 | [],[],_,_,_,h=>by simp at h
 | _::_,v::_,0,_,h,e=>by simp at e;subst e;exact⟨v,rfl,h.1⟩
 | _::ls,_::vs,k+1,l,h,e=>by
  obtain⟨u,h1,h2⟩:=az.get (k:=k) (l:=l) h.2 (by simpa using e);exact⟨u,by simpa using h1,h2⟩
 | [],_::_,_,_,h,_=>h.elim
 | _::_,[],_,_,h,_=>h.elim
theorem az.mk:∀ {ls:List Leaf} {vs:List Value},vs.length=ls.length->(∀(k:Nat)(l:Leaf)(v:Value),ls[k]? =some l->vs[k]? =some v->l.holds ρ B w v)->az ρ B w ls vs
 | [],[],_,_=>trivial
 | l::ls,v::vs,e,h=>⟨h 0 l v rfl rfl,az.mk AA (λk l v h1 h2=>h (k+1) l v (by simpa using h1) (by simpa using h2))⟩
 | [],_::_,e,_=>by simp at e
 | _::_,[],e,_=>by simp at e
theorem cO.get:∀ {ls:List SV} {vs:List Value} {k:Nat} {l:SV},cO ρ B w ls vs->ls[k]? =some l->∃v,vs[k]? =some v/\l.holds ρ B w v
 | [],[],_,_,_,h=>by simp at h
 | _::_,v::_,0,_,h,e=>by simp at e;subst e;exact⟨v,rfl,h.1⟩
 | _::ls,_::vs,k+1,l,h,e=>by
  obtain⟨u,h1,h2⟩:=cO.get (k:=k) (l:=l) h.2 (by simpa using e);exact⟨u,by simpa using h1,h2⟩
 | [],_::_,_,_,h,_=>h.elim
 | _::_,[],_,_,h,_=>h.elim
theorem az.append:∀ {ls C:List Leaf} {vs G:List Value},az ρ B w ls vs->az ρ B w C G->az ρ B w (ls++C) (vs++G)
 | [],_,[],_,_,k=>k
 | _::_,_,_::_,_,h,k=>⟨h.1,az.append h.2 k⟩
 | [],_,_::_,_,h,_=>h.elim
 | _::_,_,[],_,h,_=>h.elim
def Leaf.flat:Leaf->Bool
 | .i .u32 _=>false
 | _=>true
theorem Leaf.holds.flat(h:l.holds ρ B w v)(hf:l.flat=true):eO v:=by
 cases l<;>simp only[Leaf.holds]at h
 ·subst h;exact⟨λ_ h=>by(cases h),λ_ h=>by(cases h),λ_ h=>by(cases h)⟩
 ·subst h;rename_i k n;exact⟨λ_ h=>by(cases h),λ_ h=>by(cases h),λm h=>by
   injection h with h1 h2;subst h1;simp[Leaf.flat]at hf⟩
 ·obtain⟨g,_,h⟩:=h;subst h;exact⟨λ_ h=>by(cases h),λ_ h=>by(cases h),λ_ h=>by(cases h)⟩
 ·subst h;exact⟨λ_ h=>by(cases h),λ_ h=>by(cases h),λ_ h=>by(cases h)⟩
 ·obtain⟨s,_,h,_⟩:=h;exact s.fl _ _ h
 ·subst h;exact⟨λ_ h=>by(cases h),λ_ h=>by(cases h),λ_ h=>by(cases h)⟩
 ·subst h;exact⟨λ_ h=>by(cases h),λ_ h=>by(cases h),λ_ h=>by(cases h)⟩
 ·subst h;exact⟨λ_ h=>by(cases h),λ_ h=>by(cases h),λ_ h=>by(cases h)⟩
 ·obtain⟨s,_,h,_⟩:=h;exact s.fl _ _ h
end
def sa:Value->Option Leaf
 | .bool x=>some (.b x)
 | .int k n=>some (.i k n)
 | .pointer none=>some .nilp
 | .slice none 0 0=>some .sl0
 | .string s=>some (.s s)
 | _=>none
variable{ρ:Rho}{B:Blk}
theorem oE{l:Leaf}(h:sa v=some l):l.holds ρ B w v:=by
 unfold sa at h;split at h<;>first | (injection h with h;subst h;rfl) | cases h
def gj:List Value->Option (List Leaf)
 | []=>some []
 | v::vs=>match sa v,gj vs with
  | some l,some ls=>some (l::ls)
  | _,_=>none
theorem gD:∀ {vs:List Value} {ls:List Leaf},gj vs=some ls->az ρ B w ls vs
 | [],ls,h=>by simp[gj]at h;subst h;trivial
 | v::vs,ls,h=>by
  unfold gj at h
  cases h1:sa v with
  | none=>rw[h1]at h;simp at h
  | some l=>
   cases h2:gj vs with
   | none=>rw[h1,h2]at h;simp at h
   | some l2=>rw[h1,h2]at h;simp at h;subst h;exact⟨oE h1,gD h2⟩
def svC:Value->Option SV
 | .agg cs=>(gj cs.toList).map .agg
 | v=>(sa v).map .one
variable{s:SV}
theorem svC_holds(h:svC v=some s):s.holds ρ B w v:=by
 unfold svC at h;split at h
 ·rename_i cs
  cases h1:gj cs.toList with
  | none=>rw[h1]at h;cases h
  | some l=>rw[h1]at h;simp at h;subst h;exact⟨cs.toList,Ag,gD h1⟩
 ·cases h1:sa v with
  | none=>rw[h1]at h;cases h
  | some l=>rw[h1]at h;simp at h;subst h;exact oE h1
def bK(ρ:Rho)(B:Blk)(a:Act)(w:World)(x:Nat)(c:AV):Prop:=
 if x<100000 then∃u,a.tmps[x]? =some u/\c.holds ρ B w u
 else∃g cs ty u,B.v (x / 100000 - 1)=some g/\w.heap[g]? =some (.cells cs ty (0,0))/\cs[x % 100000]? =some u/\c.holds ρ B w u
structure Eff where
 rd:List Nat
 wr:List (Nat×AV)
 al:Option Nat
 ks:List Nat
 ms:List Nat
def Leaf.objs:Leaf->List Nat
 | .own k _=>[k]
 | _=>[]
def SV.objs:SV->List Nat
 | .one l=>l.objs
 | .agg ls=>ls.flatMap Leaf.objs
def AV.objs:AV->List Nat
 | .v s=>s.objs
 | .tup xs=>xs.flatMap SV.objs
 | .any=>[]
def AV.hit(ks:List Nat)(c:AV):Bool:=c.objs.any ks.contains
def fil(ks:List Nat):Option AV->Option AV
 | some c=>if c.hit ks then none else some c
 | none=>none
variable{ks:List Nat}{c:AV}
theorem eR{o:Option AV}(h:fil ks o=some c):o=some c/\c.hit ks=false:=by
 cases o with
 | none=>cases h
 | some d=>
  simp only[fil]at h;split at h
  ·cases h
  ·rename_i hn;injection h with h;subst h;exact⟨rfl,by simpa using hn⟩
theorem jc{o:Option AV}(h:o=some c)(hn:c.hit ks=false):fil ks o=some c:=by subst h;simp[fil,hn]
structure Ent where
 w:World
 X:Nat->Prop
 pin:List Nat
def Ent.may(e:Ent)(g:Nat):Prop:=e.w.heap.size<=g\/e.X g
structure Ent.kept(e:Ent)(w:World):Prop where
 os:w.os=e.w.os
 tape:w.tape=e.w.tape
 output:w.output=e.w.output
 size:e.w.heap.size<=w.heap.size
 block:∀k,k<e.w.heap.size->¬e.X k->w.heap[k]? =e.w.heap[k]?
abbrev Ent.of(w:World):Ent:=⟨w,λ_=>False,[]⟩
theorem Ent.kept.refl{e:Ent}:e.kept e.w:=⟨rfl,rfl,rfl,AK _,λ_ _ _=>rfl⟩
theorem Ent.kept.to{w0:World}(h:(Ent.of w0).kept w):AG w0.heap.size w0 w:=⟨h.os,h.tape,h.output,h.size,λk C=>h.block k C (λh=>h)⟩
theorem Ent.kept.below{e:Ent}(h:e.kept w)(hb:AG w.heap.size w w'):e.kept w':=
 ⟨hb.os.trans h.os,hb.tape.trans h.tape,hb.output.trans h.output,AI h.size hb.size,λk C G=>(hb.block k (Bt C h.size)).trans (h.block k C G)⟩
theorem Ent.kept.upd{e:Ent}(h:e.kept w)(u:Upd w g w')(G:e.may g):e.kept w':=
 ⟨u.os.trans h.os,u.tape.trans h.tape,u.output.trans h.output,by rw[u.size];exact h.size,λk H C=>(u.block k (λe=>by subst e;rcases G with h | h;(omega);exact C h)).trans (h.block k H C)⟩
theorem Ent.may.ge{e:Ent}(h:e.kept w)(C:w.heap.size<=g):e.may g:=.inl (AI h.size C)
structure Inv(vt:List (TypeId×Nat))(w0:Ent)(nt:Nat)(B:Blk)(a:Act)(w:World):Prop where
 blk:∀v g,B.v v=some g->w0.may g/\∃cs ty,vt[v]? =some (ty,cs.size)/\w.heap[g]? =some (.cells cs ty (0,0))/\(∀(k:Nat)(n:Int),cs[k]? ≠some (.int .u32 n))
 own:∀k g,B.o k g->w0.may g/\bF w g
 inj:BInj B
 below:w0.kept w
 size:a.tmps.size=nt
 dfr:a.defers=[]
 pin:∀x g,w0.pin[x]? =some g->B.v x=some g
structure Post(ρ:Rho)(vt:List (TypeId×Nat))(w0:Ent)(nt:Nat)(e:Eff)(B:Blk)(a:Act)(w:World)(B':Blk)(a':Act)(w':World):Prop where
 le:BLe B B'
 inv:Inv vt w0 nt B' a' w'
 wr:∀p∈e.wr,bK ρ B' a' w' p.1 p.2
 keep:∀x c,bK ρ B a w x c->(∀p∈e.wr,p.1≠x)->c.hit e.ks=false->bK ρ B' a' w' x c
 new:∀v,B.v v=none->B'.v v≠none->e.al=some v
def OpOk(P:A0)(ρ:Rho)(vt:List (TypeId×Nat))(w0:Ent)(nt:Nat)(ops:Array Oper)(Q:Bf->Act->World->Prop)(j:Nat)(lk:Nat->Option AV)(e:Eff):Prop:=
 ∀B a w,Inv vt w0 nt B a w->(∀x∈e.rd,∀c,lk x=some c->bK ρ B a w x c)->(∀v,e.al=some v->B.v v=none)->
  ∀K:Act->World->Prop,(∀B' a' w',Post ρ vt w0 nt e B a w B' a' w'->K a' w')->wpOp P ops Q j K a w
abbrev dY:=List (Nat×Eff)
def lkE(b:Nat->Option AV):dY->Nat->Option AV
 | [],x=>b x
 | (_,e)::r,x=>match e.wr.find? (λp=>p.1==x)with
  | some p=>some p.2
  | none=>fil e.ks (lkE b r x)
def dJ(b:Nat->Option AV)(T:List Nat):dY->Nat->Option AV
 | [],x=>b x
 | (i,e)::r,x=>if T.contains i then(match e.wr.find? (λp=>p.1==x)with
  | some p=>some p.2
  | none=>fil e.ks (dJ b T r x))else dJ b T r x
def nH(e e':Eff):Bool:=
 e'.wr.all (λp=> !e.rd.contains p.1 && !e.wr.any (λq=>q.1==p.1)) && (e'.rd.all (λx=> !e.wr.any (λq=>q.1==x)) && (e'.ks.all (λk=> !e.ks.contains k && !e.ms.contains k) && e.ks.all (λk=> !e'.ms.contains k)))
structure Eff.Wf(e:Eff)(lk:Nat->Option AV):Prop where
 rd:∀x∈e.rd,∀c,lk x=some c->∀k∈c.objs,k∈e.ms
 wr:∀p∈e.wr,∀k∈p.2.objs,k∈e.ms
def aay(m:Nat)(r:dY)(e:Eff):Bool:=r.all λp=>m.testBit p.1 || nH e p.2
section
variable {P:A0} {ρ:Rho} {vt:List (TypeId×Nat)} {w0:Ent} {nt:Nat} {ops:Array Oper} {Q:Bf->Act->World->Prop} {b:Nat->Option AV} {md:Region.Mode}
def yy(md:Region.Mode)(ops:Array Oper)(T:List Nat):Prop:=∀j∈T,∀k∈cg md ops j,k∈T
def aaz(md:Region.Mode)(ops:Array Oper)(m j:Nat):Prop:=∀i,m.testBit i=true->∀T,yy md ops T->(∀k∈cg md ops j,k∈T)->i∈T
def pM(P:A0)(ρ:Rho)(vt:List (TypeId×Nat))(w0:Ent)(nt:Nat)(md:Region.Mode)(ops:Array Oper)(Q:Bf->Act->World->Prop)(b:Nat->Option AV)(nb:Nat):dY->Prop
 | []=>True
 | (j,e)::r=>j=r.length/\OpOk P ρ vt w0 nt ops Q j (lkE b r) e/\(∃m,aaz md ops m j/\aay m r e=true)/\e.Wf (lkE b r)/\(∀v,e.al=some v->(nb<=v/\v<OW)/\∀p∈r,p.2.al≠some v)/\pM P ρ vt w0 nt md ops Q b nb r
theorem pN(T:List Nat)(x y:dY):dJ b T (x++y)=dJ (dJ b T y) T x:=by
 induction x with
 | nil=>rfl
 | cons p x ih=>
  funext z
  obtain⟨i,e⟩:=p;simp only[List.cons_append,dJ,ih]
theorem valT_all(T:List Nat)(r:dY)(h:∀p∈r,p.1∈T):dJ b T r=lkE b r:=by
 induction r with
 | nil=>rfl
 | cons p x ih=>
  funext z
  obtain⟨i,e⟩:=p;have h1:T.contains i=true:=CF.2 (h (i,e) Ag);simp only[dJ,lkE,h1,if_true,ih (λp hp=>h p (Bg _ hp))]
variable{l:List (Nat×AV)}
theorem sb{x:Nat}(h:∀p∈l,p.1≠x):l.find? (λp=>p.1==x)=none:=by
 rw[Dp];intro p hp;simpa using h p hp
theorem sc{x:Nat}{p:Nat×AV}(h:l.find? (λp=>p.1==x)=some p):p∈l/\p.1=x:=
 ⟨Dq h,by simpa using DU h⟩
theorem aaA{x:Nat}(h:l.find? (λp=>p.1==x)=none):∀p∈l,p.1≠x:=λp hp e=>by
 have:=Dp.1 h p hp;simp[e]at this
variable{T:List Nat}
theorem tR{x:Nat}:∀ {hi:dY} {f:Nat->Option AV},dJ f T hi x=some c->
  (∃p∈hi,p.1∈T/\(∃q∈p.2.wr,q.1=x/\q.2=c)/\∀G:Nat->Option AV,dJ G T hi x=some c)\/
  (f x=some c/\(∀p∈hi,p.1∈T->∀q∈p.2.wr,q.1≠x)/\∀G:Nat->Option AV,G x=some c->dJ G T hi x=some c)
 | [],f,h=>.inr ⟨h,λp hp=>by(cases hp),λG h=>h⟩
 | (i,e)::hi,f,h=>by
  simp only[dJ]at h;by_cases hT:T.contains i=true
  ·rw[if_pos hT]at h;split at h
   ·rename_i p hp;injection h with h;obtain⟨h1,h2⟩:=sc hp;refine .inl ⟨(i,e),Ag,CF.1 hT,⟨p,h1,h2,h⟩,λG=> ?_⟩;simp only[dJ,if_pos hT,hp,h]
   ·rename_i hp;obtain⟨h1,h2⟩:=eR h;rcases tR h1 with⟨p,I,k2,k3,J⟩ | ⟨I,k2,k3⟩
    ·refine .inl ⟨p,Bg _ I,k2,k3,λG=> ?_⟩;simp only[dJ,if_pos hT,hp];exact jc (J G) h2
    ·refine .inr ⟨I,λp C H=> ?_,λG hf=> ?_⟩
     ·rcases A3.1 C with rfl | C
      ·exact aaA hp
      ·exact k2 p C H
     ·simp only[dJ,if_pos hT,hp];exact jc (k3 G hf) h2
  ·rw[if_neg hT]at h;rcases tR h with⟨p,I,k2,k3,J⟩ | ⟨I,k2,k3⟩
   ·exact .inl ⟨p,Bg _ I,k2,k3,λG=>by simp only[dJ,if_neg hT];exact J G⟩
   ·refine .inr ⟨I,λp C H=> ?_,λG hf=>by simp only[dJ,if_neg hT];exact k3 G hf⟩;rcases A3.1 C with rfl | C
    ·exact absurd (CF.2 H) hT
    ·exact k2 p C H
theorem sd{x:Nat}{f:Nat->Option AV}(hf:f x=some c):∀ {hi:dY},(∀p∈hi,p.1∈T->(∀q∈p.2.wr,q.1≠x)/\c.hit p.2.ks=false)->dJ f T hi x=some c
 | [],_=>hf
 | (i,e)::hi,h=>by
  have C:=sd hf (hi:=hi) (λp hp=>h p (Bg _ hp));simp only[dJ];by_cases hT:T.contains i=true
  ·obtain⟨h1,h2⟩:=h (i,e) Ag (CF.1 hT);rw[if_pos hT,sb h1];exact jc C h2
  ·rw[if_neg hT];exact C
theorem se(h:∀k∈c.objs,k∉ks):c.hit ks=false:=by
 unfold AV.hit;rw[List.any_eq_false];intro k C;simpa using h k C
structure NC(e e':Eff):Prop where
 wr:∀p∈e'.wr,p.1∉e.rd/\∀q∈e.wr,q.1≠p.1
 rd:∀x∈e'.rd,∀q∈e.wr,q.1≠x
 ks:∀k∈e'.ks,k∉e.ks/\k∉e.ms
 ms:∀k∈e.ks,k∉e'.ms
theorem pO{e e':Eff}(h:nH e e'=true):NC e e':=by
 unfold nH at h;simp only[Bo,Cd,Bool.not_eq_true',List.any_eq_false,beq_iff_eq,List.contains_eq_mem,decide_eq_false_iff_not]at h;exact⟨h.1,h.2.1,h.2.2.1,h.2.2.2⟩
variable{nb j:Nat}
theorem pM.split{r:dY}(h:pM P ρ vt w0 nt md ops Q b nb r)(I:j<r.length):∃hi e lo,r=hi++(j,e)::lo/\lo.length=j/\pM P ρ vt w0 nt md ops Q b nb ((j,e)::lo)/\
  (∀p∈hi,j<p.1/\(∃m,aaz md ops m p.1/\(m.testBit j=true\/nH p.2 e=true))/\(∀v,p.2.al=some v->e.al≠some v)/\∀q∈p.2.wr,∀k∈q.2.objs,k∈p.2.ms):=by
 induction r with
 | nil=>simp at I
 | cons p r ih=>
  obtain⟨i,e⟩:=p;obtain⟨h1,h2,h3,J,h4,h5⟩:=h;by_cases hji:j=i
  ·subst hji;exact⟨[],e,r,rfl,h1.symm,⟨h1,h2,h3,J,h4,h5⟩,λp hp=>by cases hp⟩
  ·have H:j<r.length:=by simp at I;omega
   obtain⟨hi,e',lo,rfl,K,U,C⟩:=ih h5 H;refine⟨(i,e)::hi,e',lo,rfl,K,U,λp hp=> ?_⟩;rcases A3.1 hp with rfl | hp
   ·obtain⟨m,V,G⟩:=h3;refine⟨by simp only;omega,⟨m,V,?_⟩,λv hv=>(h4 v hv).2 (j,e') Ag,J.wr⟩;unfold aay at G;have:=Cd.1 G (j,e') Ag;simpa using this
   ·exact C p hp
theorem pM.idx{r:dY}(h:pM P ρ vt w0 nt md ops Q b nb r):∀p∈r,p.1<r.length:=by
 induction r with
 | nil=>intro p hp;cases hp
 | cons p r ih=>
  obtain⟨i,e⟩:=p;obtain⟨h1,h2,h3,G,h4,h5⟩:=h;intro q C;rcases A3.1 C with rfl | C
  ·simp only[Bz];omega
  ·have:=ih h5 q C;simp only[Bz];omega
theorem val_lo{T:List Nat}{e:Eff}{x:Nat}{c:AV}(hx:x∈e.rd):∀ {lo:dY},(∀p∈lo,p.1∈T\/nH e p.2=true)->lkE b lo x=some c->dJ b T lo x=some c
 | [],_,h=>h
 | (i,e')::lo,h,hc=>by
  simp only[dJ,lkE]at hc⊢;have ih':=val_lo (c:=c) hx (lo:=lo) (λp hp=>h p (Bg _ hp));by_cases hiT:T.contains i=true
  ·rw[if_pos hiT];split at hc
   ·exact hc
   ·obtain⟨h1,h2⟩:=eR hc;exact jc (ih' h1) h2
  ·rw[if_neg hiT];rcases h (i,e') (by simp)with h | h
   ·exact absurd (CF.2 h) hiT
   ·rw[sb (λq hq he=>((pO h).wr q hq).1 (by rw[he];exact hx))]at hc;exact ih' (eR hc).1
theorem nI:∀ {r:dY} {b:Nat->Option AV},(∀p∈r,p.1≠j)->dJ b (T++ [j]) r=dJ b T r
 | [],_,_=>rfl
 | (i,e')::r,b,h=>by
  funext z
  have hc:(T++ [j]).contains i=T.contains i:=by
   have:=h (i,e') Ag;simp only at this;rw[E5];simp[this]
  simp only[dJ,hc,nI (r:=r) (b:=b) (λp hp=>h p (Bg _ hp))]
def StT(ρ:Rho)(vt:List (TypeId×Nat))(w0:Ent)(nt:Nat)(b:Nat->Option AV)(nb:Nat)(r:dY)(T:List Nat)(a:Act)(w:World):Prop:=
 ∃B,Inv vt w0 nt B a w/\(∀x c,dJ b T r x=some c->bK ρ B a w x c)/\(∀v,B.v v≠none->v<nb\/∃p∈r,p.1∈T/\p.2.al=some v)
theorem vT{r:dY}(hg:pM P ρ vt w0 nt md ops Q b nb r)(hj:j<r.length)(hT:yy md ops T)(ab:j∉T)(hp:∀k∈cg md ops j,k∈T)
  {a:Act}(h:StT ρ vt w0 nt b nb r T a w){K:Act->World->Prop}(hK:∀a' w',StT ρ vt w0 nt b nb r (T++ [j]) a' w'->K a' w'):wpOp P ops Q j K a w:=by
 obtain⟨hi,e,lo,rfl,a3,⟨_,a0,⟨m,hm,ap⟩,a2,ar,au⟩,V⟩:=hg.split hj;obtain⟨B,am,aa,hB⟩:=h;have Z:∀p∈hi,p.1∈T->NC p.2 e:=λp G J=>by
  obtain⟨_,⟨m',ay,I⟩,_⟩:=V p G;rcases I with I | I
  ·exact absurd (ay j I T hT (λk hk=>hT _ J k hk)) ab
  ·exact pO I
 have an:∀p∈lo,p.1∈T\/nH e p.2=true:=λp G=>by
  unfold aay at ap;have:=Cd.1 ap p G;simp only[DP]at this;rcases this with h | h
  ·exact .inl (hm _ h T hT hp)
  ·exact .inr h
 have ac:T.contains j=false:=by simpa using ab
 refine a0 B a w am (λx hx c hc=> ?_) (λv hv=> ?_) K (λB' a' w' C=>hK a' w' ⟨B',C.inv,λx c hc=> ?_,λv hv=> ?_⟩)
 ·refine aa x c ?_;rw[pN];refine sd ?_ (λp G J=> ?_)
  ·simp only[dJ,ac,DB,if_false];exact val_lo hx an hc
  ·have h1:=Z p G J;exact⟨λq hq=>h1.rd x hx q hq,se (λk hk ax=>h1.ms k ax (a2.rd x hx c hc k hk))⟩
 ·have h0:=ar v hv
  cases U:B.v v with
  | none=>rfl
  | some g=>
   rcases hB v (by rw[U];simp)with h | ⟨p,G,J,aq⟩
   ·omega
   ·rcases AJ.1 G with h | h
    ·exact absurd hv ((V p h).2.2.1 v aq)
    ·rcases A3.1 h with rfl | h
     ·exact absurd J ab
     ·exact absurd aq (h0.2 p h)
 ·
  have ad:(T++ [j]).contains j=true:=Ag
  have ak:∀p∈hi,p.1≠j:=λp hp=>by have:=(V p hp).1;omega
  have ao:∀p∈lo,p.1≠j:=λp hp=>by have:=au.idx p hp;omega
  rw[pN,nI ak]at hc;have H:=aa x c;rw[pN]at H;rcases tR hc with⟨p,Y,k2,⟨q,k3,k4,k5⟩,k6⟩ | ⟨Y,k2,k3⟩
  ·have h1:=Z p Y k2;subst k4;subst k5;refine C.keep _ _ (H (k6 _)) (λp' a1=>λe'=>(h1.wr p' a1).2 q k3 e'.symm) (se (λk hk av=>(h1.ks k av).2 ((V p Y).2.2.2 q k3 k hk)))
  ·simp only[dJ,ad,if_true]at Y;split at Y
   ·rename_i p hp;injection Y with Y;subst Y;obtain⟨h1,h2⟩:=sc hp;subst h2;exact C.wr p h1
   ·rename_i hp;obtain⟨h1,h2⟩:=eR Y;rw[nI ao]at h1;refine C.keep x c (H (k3 _ ?_)) (aaA hp) h2;simp only[dJ,ac,DB,if_false];exact h1
 ·cases U:B.v v with
  | some g=>
   rcases hB v (by rw[U];simp)with h | ⟨p,h1,h2,h3⟩
   ·exact .inl h
   ·exact .inr ⟨p,h1,AJ.2 (.inl h2),h3⟩
  | none=>exact .inr ⟨(j,e),Ag,Ag,C.new v U hv⟩
end
section
variable {P:A0} {ρ:Rho} {vt:List (TypeId×Nat)} {w0:Ent} {nt:Nat} {ops:Array Oper} {Q:Bf->Act->World->Prop} {b:Nat->Option AV} {md:Region.Mode}
def StF(ρ:Rho)(vt:List (TypeId×Nat))(w0:Ent)(nt:Nat)(lk:Nat->Option AV)(nb:Nat)(r:dY)(a:Act)(w:World):Prop:=
 ∃B,Inv vt w0 nt B a w/\(∀x c,lk x=some c->bK ρ B a w x c)/\(∀v,B.v v≠none->v<nb\/∃p∈r,p.2.al=some v)
variable{nb:Nat}{a:Act}
theorem StT.done{r:dY}{T:List Nat}(h:StT ρ vt w0 nt b nb r T a w)(C:∀p∈r,p.1∈T):StF ρ vt w0 nt (lkE b r) nb r a w:=by
 obtain⟨B,h1,h2,h3⟩:=h;rw[valT_all T r C]at h2;exact⟨B,h1,h2,λv hv=>(h3 v hv).imp id (λ⟨p,h,_,e⟩=>⟨p,h,e⟩)⟩
theorem valT_nil(r:dY):dJ b [] r=b:=by
 induction r with
 | nil=>rfl
 | cons p r ih=>funext x;obtain⟨i,e⟩:=p;simp[dJ,ih]
theorem StT.start{r:dY}(h1:Inv vt w0 nt B a w)(h2:∀x c,b x=some c->bK ρ B a w x c)(h3:∀v,B.v v≠none->v<nb):StT ρ vt w0 nt b nb r [] a w:=
 ⟨B,h1,by rw[valT_nil];exact h2,λv hv=>.inl (h3 v hv)⟩
theorem any_sound{r:dY}(hg:pM P ρ vt w0 nt md ops Q b nb r)(ax:r.length=ops.size)(H:∀j,j<ops.size->∀k∈cg md ops j,k<j) 
  (h:StT ρ vt w0 nt b nb r [] a w)(hQ:∀a' w',StF ρ vt w0 nt (lkE b r) nb r a' w'->Q .normal a' w'):wpAny P md ops Q ops.size (Cs ops.size false) a w:=by
 have ak:∀(z:Nat)(T:List Nat)(a':Act)(w':World),T.Nodup->(∀i∈T,i<ops.size)->T.length+z=ops.size->yy md ops T->StT ρ vt w0 nt b nb r T a' w'->
   wpAny P md ops Q z (aV T (Cs ops.size false)) a' w':=by
  intro z
  induction z with
  | zero=>
   intro T a' w' Z hT hl aa hS;have C:∀i,i<ops.size->i∈T:=by
    intro i hi;apply DD;intro ar;have h1:(i::T).length<=(BO ops.size).length:=tI (List.nodup_cons.2 ⟨ar,Z⟩) (λk G=>by
     rcases A3.1 G with rfl | G
     ·exact Dn.2 hi
     ·exact Dn.2 (hT k G))
    simp at h1;omega
   refine⟨?_,hQ _ _ (hS.done (λp hp=>C _ (by have:=hg.idx p hp;omega)))⟩;apply List.eq_nil_iff_forall_not_mem.2;intro j hj;obtain⟨I,K,_⟩:=ja hj;rw[bd]at K;simp[C j I,I]at K
  | succ z ih=>
   intro T a' w' Z hT hl aa hS;have Y:∀j∈BV md ops (aV T (Cs ops.size false)),j<ops.size/\j∉T/\∀k∈cg md ops j,k∈T:=by
    intro j hj;obtain⟨I,K,V⟩:=ja hj;have U:j∉T:=by
     intro h;rw[bd]at K;simp[h,I]at K
    refine⟨I,U,λk G=> ?_⟩;have h1:=V k G;rw[bd]at h1;apply DD;intro ac;have ab:k<ops.size:=by have:=H j I k G;omega
    simp[ac,ab]at h1
   have ao:∃i,i<ops.size/\i∉T:=by
    apply DD;intro au;have C:∀i∈BO ops.size,i∈T:=λi hi=>DD λh=>au ⟨i,Dn.1 hi,h⟩
    have:=tI List.nodup_range C;simp at this;omega
   have ad:∃i∈BV md ops (aV T (Cs ops.size false)),True:=by
    have key:∀(m i:Nat),i<=m->i<ops.size->i∉T->∃i∈BV md ops (aV T (Cs ops.size false)),True:=by
     intro m
     induction m with
     | zero=>
      intro i ap hi J;refine⟨i,mn Aa (by rw[bd];simp[J,hi]) (λk G=> ?_),trivial⟩;have:=H i Aa k G;omega
     | succ m ihm=>
      intro i ap hi J;by_cases C:∀k∈cg md ops i,k∈T
      ·refine⟨i,mn Aa (by rw[bd];simp[J,hi]) (λk G=> ?_),trivial⟩;have ab:=hT k (C k G);rw[bd];simp[C k G,ab]
      ·simp only[Classical.not_forall]at C;obtain⟨k,G,ac⟩:=C;have ay:=H i Aa k G;exact ihm k Aa Aa ac
    obtain⟨i,hi,J⟩:=ao;exact key i i (AK _) hi J
   refine⟨λh=> ?_,λj hj=> ?_⟩
   ·obtain⟨i,hi,_⟩:=ad;rw[h]at hi;cases hi
   ·obtain⟨aq,U,V⟩:=Y j hj;refine vT hg Aa aa U V hS (λam av an=> ?_);have e:(aV T (Cs ops.size false)).setIfInBounds j true=aV (T++ [j]) (Cs ops.size false):=by unfold aV;rw[List.foldl_append];rfl
    rw[e];refine ih (T++ [j]) am av ?_ ?_ ?_ ?_ an
    ·exact List.nodup_append.2 ⟨Z,Ag,by intro x hx y hy;simp at hy;subst hy;exact λh=>U (h▸hx)⟩
    ·intro i hi;rcases AJ.1 hi with h | h
     ·exact hT i h
     ·simp at h;rw[h];exact aq
    ·simp;omega
    ·intro i hi k G;rcases AJ.1 hi with h | h
     ·exact AJ.2 (.inl (aa i h k G))
     ·simp at h;subst h;exact AJ.2 (.inl (V k G))
 exact ak ops.size [] a w Ag Ag Ag (λj hj=>by cases hj) h
theorem Az{p:Prop}(h:p:=by simpa using h):p:=h
theorem yz{r:dY}(V:pM P ρ vt w0 nt md ops Q b nb r)(Y:r.length=ops.size)(C:∀j,j<ops.size->∀k∈cg md ops j,k<j) 
  (h:StT ρ vt w0 nt b nb r [] a w)(Z:∀a' w',StF ρ vt w0 nt (lkE b r) nb r a' w'->Q .normal a' w'):wpOps P ops Q (BO ops.size) a w:=by
 have H:∀(z j:Nat)(a':Act)(w':World),j+z=ops.size->StT ρ vt w0 nt b nb r (BO j) a' w'->wpOps P ops Q (List.range' j z) a' w':=by
  intro z
  induction z with
  | zero=>
   intro j a' w' hj J;simp only[List.range'_zero,wpOps];exact Z _ _ (J.done (λp hp=>by have:=V.idx p hp;simp;omega))
  | succ z ih=>
   intro j a' w' hj J;rw[List.range'_succ,wpOps_cons];refine vT (T:=BO j) V Aa (λi hi k K=> ?_) Ag (λk K=> ?_) J (λI U G=> ?_)
   ·have h1:=Dn.1 hi;have:=C i Aa k K;exact Dn.2 Aa
   ·exact Dn.2 (C j Aa k K)
   ·rw[<-List.range_succ]at G;exact ih (j+1) I U Aa G
 have:=H ops.size 0 a w Ag Az;rwa [<-List.range_eq_range']at this
end
structure MutD where
 ks:List Nat
 pre:List (Nat×TypeId×List Leaf)
 us:List (Nat×TypeId×List Leaf)
 nv:Option (Nat×TypeId×List Leaf)
 keep:List (Nat×SV)
 xs:List SV
 deriving DecidableEq
def mutR:List SV->AV
 | [x]=>.v x
 | xs=>.tup xs
inductive Key where
 | mut (f:BA) (d:MutD)
 | bin (op:BinOp) (t:TypeId)
 | un (op:UnOp)
 | conv (s d:TypeId)
 | len (t:TypeId)
 | idx (t:TypeId)
 | ia (t:TypeId)
 | fa (t:TypeId) (f:Nat)
 | ld (t:TypeId)
 | sl (t:TypeId) (lo hi:Bool)
 | bs (t:TypeId) (n:Nat) (ix:List Nat)
 | app (t:TypeId)
 | frz (r i:Nat)
 | max
 | nc
 | lku (t:TypeId)
 deriving DecidableEq
structure OIns where
 key:Key
 xs:List SV
 r:SV
def mu(v k:Nat):Nat:=(v+1)*100000+k
def aggD:TypeDesc->Bool
 | .struct _=>true
 | .array .. =>true
 | _=>false
def vU(p:A0)(t:TypeId):Option Bool:=(p.underlying t).map aggD
def szB(p:A0)(t:TypeId):Option Nat:=(p.info? t).map (·.size)
def evA(lk:Nat->Option AV):AZ->Option AV
 | .tmp t=>if t<100000 then lk t else none
 | .const v=>(svC v).map .v
 | .func f=>some (.v (.one (.fn f)))
 | .global _=>none
def evS(lk:Nat->Option AV)(x:AZ):Option SV:=match evA lk x with | some (.v s)=>some s | _=>none
def evL(lk:Nat->Option AV)(x:AZ):Option Leaf:=match evS lk x with | some (.one l)=>some l | _=>none
def rdO:AZ->List Nat
 | .tmp t=>[t]
 | _=>[]
def iH(lk:Nat->Option AV)(v:Nat):Nat->Nat->Option (List Leaf)
 | _,0=>some []
 | k,n+1=>match lk (mu v k)with
  | some (.v (.one l))=>(iH lk v (k+1) n).map (l:: ·)
  | _=>none
def mv(v k n:Nat):List Nat:=(BO n).map λj=>mu v (k+j)
def SV.leaves:SV->List Leaf
 | .one l=>[l]
 | .agg ls=>ls
def yA{α:Type}(ls:List α)(off:Nat):List α->List α
 | []=>ls
 | v::vs=>yA (ls.set off v) (off+1) vs
def mw(place:Nat->Option (Nat×Nat))(ls:List Leaf):List (Nat×SV)->Option (List Leaf)
 | []=>some ls
 | (i,s)::rest=>match place i with
  | none=>none
  | some (off,size)=>if s.leaves.length=size/\off+s.leaves.length<=ls.length then mw place (yA ls off s.leaves) rest else none
def mx(lk:Nat->Option AV):List (Nat×AZ)->Option (List (Nat×SV))
 | []=>some []
 | (i,x)::r=>match evS lk x,mx lk r with
  | some s,some l=>some ((i,s)::l)
  | _,_=>none
def vV(p:A0)(t:TypeId):Option (List Leaf):=match (p.info? t).bind (·.zero)with | some z=>gj z.cells.toList | none=>none
def tS(p:A0)(fs:Array Field)(i:Nat):Option (Nat×Nat):=match fs[i]? with | some f=>(szB p f.type).map λn=>(f.offset,n) | none=>none
def sf(p:A0)(t:TypeId)(ls:List Leaf)(off:Nat):Option SV:=
 match vU p t with
 | some true=>match szB p t with
  | some n=>if off+n<=ls.length then some (.agg ((ls.drop off).take n))else none
  | none=>none
 | some false=>(ls[off]?).map .one
 | none=>none
def gl(p:A0)(t:TypeId):Bool:=match p.underlying t with | some .bool=>true | _=>false
def yB(bt:Bool)(op:BinOp)(x y:Leaf):Option Leaf:=
 match x,y with
 | .b a,.b c=>if bt then match op with | .eql=>some (.b (a==c)) | .neq=>some (.b (!(a==c))) | _=>none else none
 | .i k a,.i k' c=>if k=k' then match op with
   | .eql=>some (.b (decide (a=c))) | .neq=>some (.b (!decide (a=c))) | .lss=>some (.b (decide (a<c))) | .leq=>some (.b (decide (a<=c))) | .gtr=>some (.b (decide (c<a))) | .geq=>some (.b (decide (c<=a)))
   | .add=>some (.i k (k.wrap (a+c))) | .sub=>some (.i k (k.wrap (a - c))) | .mul=>some (.i k (k.wrap (a*c)))
   | _=>none else none
 | _,_=>none
def cM(L:List OIns)(k:Key)(xs:List SV):Option SV:=match L.find? (λo=>decide (o.key=k) && decide (o.xs=xs))with | some o=>some o.r | none=>none
def idxI(x:Leaf):Option Nat:=match x with | .i _ n=>if 0<=n then some n.toNat else none | _=>none
def cn(p:A0)(L:List OIns)(lk:Nat->Option AV)(op:Op):Option (AV×List Nat):=
 match op with
 | .move x=>(evA lk x).map (·,[])
 | .assign x=>(evA lk x).map (·,[])
 | .pick c x y=>match evL lk c with
  | some (.b true)=>(evA lk x).map (·,[])
  | some (.b false)=>(evA lk y).map (·,[])
  | _=>none
 | .extract x k=>match evA lk x with
  | some (.tup xs)=>(xs[k]?).map λs=>(.v s,[])
  | _=>none
 | .load t x=>match evL lk x with
  | some (.ptr v o)=>match vU p t with
   | some true=>match szB p t with
    | some n=>if o+n<=100000/\0<n then(iH lk v o n).map λls=>(.v (.agg ls),mv v o n)else none
    | none=>none
   | some false=>if o+1<=100000 then match iH lk v o 1 with
    | some [l]=>some (.v (.one l),mv v o 1)
    | _=>none else none
   | none=>none
  | _=>none
 | .fieldAddr s x f=>match evL lk x,p.underlying s with
  | some (.ptr v o),some (.struct fs)=>match fs[f]? with
   | some fd=>match szB p fd.type with
    | some (_+1)=>some (.v (.one (.ptr v (o+fd.offset))),[])
    | _=>none
   | none=>none
  | _,_=>none
 | .indexAddr t x ix=>match evL lk x,p.underlying t,evL lk ix with
  | some (.ptr v o),some (.array len e),some l=>match idxI l,szB p e with
   | some i,some n=>if i<len then some (.v (.one (.ptr v (o+i*n))),[])else none
   | _,_=>none
  | _,_,_=>none
 | .build t parts=>match vV p t,mx lk parts.toList,p.underlying t with
  | some z,some ps,some (.struct fs)=>if fs.all (λf=>(szB p f.type).isSome)then(mw (tS p fs) z ps).map λls=>(.v (.agg ls),[])else none
  | some z,some ps,some (.array _ e)=>match szB p e with
   | some n=>(mw (λi=>some (i*n,n)) z ps).map λls=>(.v (.agg ls),[])
   | none=>none
  | _,_,_=>none
 | .field t x f=>match evS lk x,p.underlying t with
  | some (.agg ls),some (.struct fs)=>match fs[f]? with
   | some fd=>(sf p fd.type ls fd.offset).map λs=>(.v s,[])
   | none=>none
  | _,_=>none
 | .index t x ix=>match evS lk x,p.underlying t,evL lk ix with
  | some (.agg ls),some (.array len e),some l=>match idxI l,szB p e with
   | some i,some n=>if i<len then(sf p e ls (i*n)).map λs=>(.v s,[])else none
   | _,_=>none
  | _,_,_=>none
 | .binOp op t x y _=>match evS lk x,evS lk y with
  | some (.one a),some (.one c)=>match yB (gl p t) op a c with
   | some l=>some (.v (.one l),[])
   | none=>(cM L (.bin op t) [.one a,.one c]).map λs=>(.v s,[])
  | some a,some c=>(cM L (.bin op t) [a,c]).map λs=>(.v s,[])
  | _,_=>none
 | .unOp .not _ x=>match evL lk x with
  | some (.b c)=>some (.v (.one (.b (!c))),[])
  | some l=>(cM L (.un .not) [.one l]).map λs=>(.v s,[])
  | none=>none
 | .unOp op _ x=>match evS lk x with
  | some s=>(cM L (.un op) [s]).map λs=>(.v s,[])
  | none=>none
 | .convert s d x=>match evL lk x,p.underlying s,p.underlying d with
  | some (.i _ n),some (.int _),some (.int k)=>some (.v (.one (.i k (k.wrap n))),[])
  | some l,_,_=>(cM L (.conv s d) [.one l]).map λs=>(.v s,[])
  | none,_,_=>(match evS lk x with | some a=>(cM L (.conv s d) [a]).map λs=>(.v s,[]) | none=>none)
 | .call c=>match c.callee,c.args.toList,c.argTypes[0]? with
  | .builtin .len,[x],some t=>match evS lk x with
   | some a=>(cM L (.len t) [a]).map λs=>(.v s,[])
   | none=>none
  | .builtin .max,[x,y],some _=>match evS lk x,evS lk y with
   | some a,some b=>(cM L .max [a,b]).map λs=>(.v s,[])
   | _,_=>none
  | _,_,_=>none
 | _=>none
def genO:Op->Option (Key×List AZ)
 | .index t x i=>some (.idx t,[x,i])
 | .indexAddr t x i=>some (.ia t,[x,i])
 | .fieldAddr t x f=>some (.fa t f,[x])
 | .load t x=>some (.ld t,[x])
 | .nilCheck x=>some (.nc,[x])
 | .lookup t x i false=>some (.lku t,[x,i])
 | .slice t x none none none=>some (.sl t false false,[x])
 | .slice t x (some l) none none=>some (.sl t true false,[x,l])
 | .slice t x none (some h) none=>some (.sl t false true,[x,h])
 | .slice t x (some l) (some h) none=>some (.sl t true true,[x,l,h])
 | _=>none
def oU(lk:Nat->Option AV):List AZ->Option (List SV)
 | []=>some []
 | x::xs=>match evS lk x,oU lk xs with
  | some s,some l=>some (s::l)
  | _,_=>none
def nilO(lk:Nat->Option AV):Op->Option AV
 | .nilCheck x=>match evL lk x with
  | some (.ptr v o)=>some (.v (.one (.ptr v o)))
  | _=>none
 | _=>none
def si(p:A0)(L:List OIns)(lk:Nat->Option AV)(op:Op):Option (AV×List Nat):=
 match cn p L lk op with
 | some r=>some r
 | none=>match nilO lk op with
  | some c=>some (c,[])
  | none=>match genO op with
   | some (k,xs)=>match oU lk xs with
    | some ss=>(cM L k ss).map λs=>(.v s,[])
    | none=>none
   | none=>none
def ownP(ρ:Rho)(r:SV)(w:World)(v:Value):Prop:=match r with
 | .one (.own _ m)=>∃s,ρ[m]? =some s/\s.p w v/\∀g,s.fp w v g->v.ownBlock=some g
 | _=>False
def vW(ρ:Rho)(B:Blk)(w:World)(q:Nat×TypeId×List Leaf):Prop:=
 ∃g cs,B.v q.1=some g/\w.heap[g]? =some (.cells cs q.2.1 (0,0))/\az ρ B w q.2.2 cs.toList/\∀(k:Nat)(n:Int),cs[k]? ≠some (.int .u32 n)
structure Mut(d:MutD)(B B':Blk)(w w':World):Prop where
 os:w'.os=w.os
 tape:w'.tape=w.tape
 output:w'.output=w.output
 v:∀x,(∀q,d.nv=some q->x≠q.1)->B'.v x=B.v x
 nv:∀q g,d.nv=some q->B'.v q.1=some g->w.heap.size<=g
 o:∀k g,B.o k g->B'.o k g
 new:∀k g,B'.o k g->B.o k g\/(k∈d.ks/\w.heap.size<=g)
 own:∀k g,k∈d.ks->B'.o k g->bF w' g
 inj:BInj B'
 chg:Chg w w' (λg=>(∃k∈d.ks,B.o k g)\/∃q∈d.us,B.v q.1=some g)
def MutOk(p:A0)(ρ:Rho)(f:BA)(d:MutD)(B:Blk)(w:World)(vs:List Value):Prop:=(callFunc f vs.toArray).run p w= .ok (.enter f vs.toArray) w/\(BOk B w.heap.size->BInj B->(∀k g,B.o k g->bF w g)->(∀x g,B.v x=some g->bF w g)->(∀q,d.nv=some q->B.v q.1=none)->(∀q∈d.pre,vW ρ B w q)->
   AH p f vs.toArray w (λe w'=>∃v B',e= .returned v/\(mutR d.xs).holds ρ B' w' v/\(∀q∈d.keep,∃u,vs[q.1]? =some u/\q.2.holds ρ B' w' u)/\(∀q∈d.us,vW ρ B' w' q)/\(∀q,d.nv=some q->vW ρ B' w' q)/\Mut d B B' w w'))
def OIns.Ok(p:A0)(ρ:Rho)(i:OIns):Prop:=∀(B:Blk)(w:World)(vs:List Value),cO ρ B w i.xs vs->
 match i.key,vs with
 | .bin op t,[x,y]=>∃v,i.r.holds ρ B w v/\∀xo yo,((do eqGuard op t xo yo x y;binOp op t x y:Sem Value)).run p w= .ok v w
 | .un op,[x]=>∃v,i.r.holds ρ B w v/\(Op.unary op x).run p w= .ok v w
 | .conv s d,[x]=>∃v,i.r.holds ρ B w v/\(convert s d x).run p w= .ok v w
 | .len t,[x]=>∃v,i.r.holds ρ B w v/\∀(ts:Array TypeId) ty,ts[0]? =some t->(Builtin.len_ ts ty #[x]).run p w= .ok v w
 | .idx t,[x,y]=>∃v,i.r.holds ρ B w v/\(DV t x y).run p w= .ok v w
 | .ia t,[x,y]=>∃v,i.r.holds ρ B w v/\(DF t x y).run p w= .ok v w
 | .ld t,[x]=>∃v,i.r.holds ρ B w v/\(CN t x).run p w= .ok v w
 | .fa t f,[x]=>∃v,i.r.holds ρ B w v/\(Ei t x f).run p w= .ok v w
 | .sl t false false,[x]=>∃v,i.r.holds ρ B w v/\(CT t x none none none).run p w= .ok v w
 | .sl t true false,[x,y]=>∃v,i.r.holds ρ B w v/\(CT t x (some y) none none).run p w= .ok v w
 | .sl t false true,[x,y]=>∃v,i.r.holds ρ B w v/\(CT t x none (some y) none).run p w= .ok v w
 | .app t,[x,y]=>∀ty,∃v w',(Builtin.append_ #[t,t] ty #[x,y]).run p w= .ok v w'/\w.grownBy w' x.ownBlock/\(∀g,x.ownBlock=some g->bF w' g)/\(∀g,v.ownBlock=some g->(x.ownBlock=some g\/w.heap.size<=g)/\g<w'.heap.size/\bF w' g)/\ownP ρ i.r w' v
 | .frz _ _,[x]=>i.r.holds ρ B w x
 | .nc,[x]=>∃ad,x= .pointer (some ad)/\i.r.holds ρ B w x
 | .lku t,[x,y]=>∃v,i.r.holds ρ B w v/\(Instr.lookup t x y false).run p w= .ok v w
 | .max,[x,y]=>∃v,i.r.holds ρ B w v/\∀(ts:Array TypeId) ty,(Builtin.max_ ts ty #[x,y]).run p w= .ok v w
 | .mut f d,vs=>MutOk p ρ f d B w vs
 | .bs t n ix,vs=>BOk B w.heap.size->∃v w',i.r.holds ρ B w' v/\(Instr.buildSlice t n (ix.zip vs).toArray).run p w= .ok v w'/\AG w.heap.size w w'
 | .sl t true true,[x,y,z]=>∃v,i.r.holds ρ B w v/\(CT t x (some y) (some z) none).run p w= .ok v w
 | _,_=>True
def OIns.OkE(E:Ent)(p:A0)(ρ:Rho)(i:OIns):Prop:=match i.key with
 | .mut f d=>∀(B:Blk)(w:World)(vs:List Value),(∀x g,E.pin[x]? =some g->B.v x=some g)->cO ρ B w i.xs vs->MutOk p ρ f d B w vs
 | _=>i.Ok p ρ
variable{E:Ent}
theorem OIns.Ok.e{p:A0}{i:OIns}(h:i.Ok p ρ):i.OkE E p ρ:=by
 obtain⟨k,xs,r⟩:=i;cases k<;>first | exact h | exact λB w vs _ hv=>h B w vs hv
section
variable {ρ:Rho} {L:List OIns} {B:Blk} {a:Act} {w:World} {lk:Nat->Option AV} {x:AZ}
theorem sj(h:∀y∈rdO x,∀c,lk y=some c->bK ρ B a w y c)(e:evA lk x=some c):c.holds ρ B w (a.eval x):=by
 cases x with
 | tmp t=>
  simp only[evA]at e;split at e
  ·rename_i ht;obtain⟨u,h1,h2⟩:=(by have:=h t (by simp[rdO]) c e;unfold bK at this;rwa [if_pos ht]at this:∃u,a.tmps[t]? =some u/\c.holds ρ B w u);have:a.eval (.tmp t)=u:=by simp only[Act.eval,Array.getD_eq_getD_getElem?,h1,Option.getD_some]
   rw[this];exact h2
  ·cases e
 | const v=>
  simp only[evA]at e
  cases h1:svC v with
  | none=>rw[h1]at e;cases e
  | some s=>rw[h1]at e;simp at e;subst e;exact svC_holds h1
 | func f=>simp only[evA,A9.injEq]at e;subst e;rfl
 | global g=>simp[evA]at e
theorem sk(h:∀y∈rdO x,∀c,lk y=some c->bK ρ B a w y c)(e:evS lk x=some s):s.holds ρ B w (a.eval x):=by
 unfold evS at e;split at e
 ·rename_i s' h1;injection e with e;subst e;exact sj h h1
 ·cases e
theorem evL_holds{l:Leaf}(h:∀y∈rdO x,∀c,lk y=some c->bK ρ B a w y c)(e:evL lk x=some l):l.holds ρ B w (a.eval x):=by
 unfold evL at e;split at e
 ·rename_i s' h1;injection e with e;subst e;exact sk h h1
 ·cases e
end
section
variable {p:A0} {ρ:Rho} {B:Blk} {a:Act} {w:World} {t:TypeId}
theorem run_underlying{d:TypeDesc}(h:p.underlying t=some d):(underlying t).run p w= .ok d w:=by
 simp[underlying,program,AO,Sem.run,h,AX]
theorem vY{i:TypeInfo}(h:p.info? t=some i):(typeInfo t).run p w= .ok i w:=by
 simp[typeInfo,program,AO,Sem.run,h,AX]
theorem ba(h:szB p t=some n):(sizeOf t).run p w= .ok n w:=by
 unfold szB at h
 cases hi:p.info? t with
 | none=>rw[hi]at h;cases h
 | some i=>rw[hi]at h;simp at h;subst h;simp[sizeOf,AO,vY hi,AX]
theorem iI{b:Bool}(h:vU p t=some b):(isAgg t).run p w= .ok b w:=by
 unfold vU at h
 cases hi:p.underlying t with
 | none=>rw[hi]at h;cases h
 | some d=>
  rw[hi]at h;simp at h;subst h;unfold isAgg;rw[AO,run_underlying hi];cases d<;>rfl
theorem sn{z:Value}(h:(p.info? t).bind (·.zero)=some z):(zeroValue t).run p w= .ok z w:=by
 cases hi:p.info? t with
 | none=>rw[hi]at h;cases h
 | some i=>rw[hi]at h;simp at h;simp[zeroValue,AO,vY hi,AX,h]
theorem nJ{ad:A2}(h:w.cell? ad=some v):(Go.load ad).run p w= .ok v w:=by
 simp[Go.load,Sem.run,h]
theorem cE(g o k:Nat):(⟨g,o,none⟩:A2).add k=⟨g,o+k,none⟩:=by
 unfold Addr.add;split
 ·subst_vars;rfl
 ·rfl
theorem aE{ty:TypeId}{C:Nat×Nat}(h:w.heap[g]? =some (.cells cs ty C)):w.cell? ⟨g,o,none⟩=cs[o]? :=by
 simp[World.cell?,h]
theorem AB{p:Prop}(h:p:=by simpa using G):p:=h
theorem iJ{ty:TypeId}(h:w.heap[g]? =some (.cells cs ty (0,0))):∀(vs:List Value)(i:Nat)(C:Array Value),
  (∀k v,vs[k]? =some v->cs[o+(i+k)]? =some v)->(loadCellsFrom ⟨g,o,none⟩ i vs.length C).run p w= .ok (C++vs.toArray) w
 | [],i,C,_=>by simp[loadCellsFrom]
 | v::vs,i,C,hv=>by
  have h1:=hv 0 v rfl;rw[CM]at h1;have h2:=iJ h vs (i+1) (C.push v) (λk u G=>by
   have:=hv (k+1) u AB;rwa [show i+(k+1)=i+1+k from Aa]at this)
  simp only[Bz,loadCellsFrom];rw[AO,cE,nJ (by rw[aE h];exact h1)];simp only[AX];rw[h2];simp
theorem gN{v:Nat}(C:k<100000):bK ρ B a w (mu v k) c↔∃g cs ty u,B.v v=some g/\w.heap[g]? =some (.cells cs ty (0,0))/\cs[k]? =some u/\c.holds ρ B w u:=by
 unfold bK mu;rw[if_neg Aa,show((v+1)*100000+k) / 100000 - 1=v from Aa,show((v+1)*100000+k) % 100000=k from Aa]
theorem fj{lk:Nat->Option AV}{v:Nat}:∀ {n k:Nat} {ls:List Leaf},iH lk v k n=some ls->k+n<=100000->(∀x∈mv v k n,∀c,lk x=some c->bK ρ B a w x c)->
  ls.length=n/\(0<n->∃g cs ty,B.v v=some g/\w.heap[g]? =some (.cells cs ty (0,0))/\∃vs:List Value,az ρ B w ls vs/\∀j u,vs[j]? =some u->cs[k+j]? =some u)
 | 0,k,ls,h,_,_=>by simp[iH]at h;subst h;exact⟨rfl,λh=>Aa⟩
 | n+1,k,ls,h,hk,hx=>by
  simp only[iH]at h;split at h
  ·rename_i l hl
   cases hr:iH lk v (k+1) n with
   | none=>rw[hr]at h;cases h
   | some r=>
    rw[hr]at h;simp at h;subst h;have h0:=hx (mu v k) (by unfold mv;simp only[Bi,Dn];exact⟨0,Aa,Ag⟩) _ hl;rw[gN Aa]at h0;obtain⟨g,cs,ty,u,J,K,U,V⟩:=h0;obtain⟨G,H⟩:=fj hr Aa (λx I c hc=>hx x (by
     unfold mv at I⊢;simp only[Bi,Dn]at I⊢;obtain⟨j,C,rfl⟩:=I;exact⟨j+1,Aa,by congr 1;omega⟩) c hc)
    refine⟨by simp[G],λ_=>⟨g,cs,ty,J,K,?_⟩⟩;by_cases hn:n=0
    ·subst hn;have:r=[]:=List.eq_nil_of_length_eq_zero G;subst this;exact⟨[u],⟨V,trivial⟩,λj x C=>by
      match j with
      | 0=>simp at C;subst C;simpa using U
      | j+1=>simp at C⟩
    ·obtain⟨g',Y,aa,f1,f2,vs,f3,f4⟩:=H Aa;rw[J]at f1;injection f1 with f1;subst f1;rw[K]at f2;injection f2 with f2;injection f2 with f2 Z;subst f2;exact⟨u::vs,⟨V,f3⟩,λj x C=>by
      match j with
      | 0=>simp at C;subst C;simpa using U
      | j+1=>
       have:=f4 j x At;rwa [show k+1+j=k+(j+1)from Aa]at this⟩
  ·cases h
theorem az.one{l:Leaf}{vs:List Value}(h:az ρ B w [l] vs):∃v,vs=[v]/\l.holds ρ B w v:=by
 match vs,h with
 | [v],h=>exact⟨v,rfl,h.1⟩
theorem az.set:∀ {ls:List Leaf} {vs:List Value} {k:Nat} {l:Leaf} {v:Value},az ρ B w ls vs->l.holds ρ B w v->az ρ B w (ls.set k l) (vs.set k v)
 | [],[],_,_,_,_,_=>by simp[az]
 | _::_,_::_,0,_,_,h,k=>⟨k,h.2⟩
 | _::_,_::_,n+1,_,_,h,k=>⟨h.1,az.set h.2 k⟩
 | [],_::_,_,_,_,h,_=>h.elim
 | _::_,[],_,_,_,h,_=>h.elim
theorem az.setRng:∀ {ns:List Leaf} {us:List Value} {ls:List Leaf} {vs:List Value} {k:Nat},az ρ B w ns us->az ρ B w ls vs->az ρ B w (yA ls k ns) (yA vs k us)
 | [],[],_,_,_,_,h=>h
 | _::_,_::_,_,_,_,k,h=>by unfold yA;exact az.setRng k.2 (h.set k.1)
 | [],_::_,_,_,_,h,_=>h.elim
 | _::_,[],_,_,_,h,_=>h.elim
theorem SV.holds.cells(h:s.holds ρ B w v):az ρ B w s.leaves v.cells.toList:=by
 cases s with
 | agg ls=>obtain⟨vs,rfl,h⟩:=h;simpa [Value.cells,SV.leaves]using h
 | one l=>
  have hc:v.cells=#[v]:=by
   cases l<;>simp only[SV.holds,Leaf.holds]at h
   ·subst h;rfl
   ·subst h;rfl
   ·obtain⟨g,_,rfl⟩:=h;rfl
   ·subst h;rfl
   ·obtain⟨s,_,h,_⟩:=h;have:=(s.fl _ _ h).1;cases v<;>first | rfl | exact absurd rfl (this _)
   ·subst h;rfl
   ·subst h;rfl
   ·subst h;rfl
   ·obtain⟨s,_,h,_⟩:=h;have:=(s.fl _ _ h).1;cases v<;>first | rfl | exact absurd rfl (this _)
  rw[hc];exact⟨h,trivial⟩
theorem sq{cs:Array Value}:∀(vs:List Value)(n off:Nat)(cs:Array Value),((vs.zipIdx n).foldl (λ(cs:Array Value)(x:Value×Nat)=>cs.setIfInBounds (off+x.2) x.1) cs).toList=yA cs.toList (off+n) vs
 | [],_,_,_=>rfl
 | v::vs,n,off,cs=>by
  simp only[List.zipIdx_cons,List.foldl_cons];rw[sq (cs:=cs) vs (n+1) off];simp[yA,Nat.add_assoc]
theorem iK{place:Nat->Option (Nat×Nat)}:∀ {ps:List (Nat×SV)} {us:List (Nat×Value)} {z z':List Leaf} {cells:Array Value},mw place z ps=some z'->
  us.map (·.1)=ps.map (·.1)->cO ρ B w (ps.map (·.2)) (us.map (·.2))->az ρ B w z cells.toList->∃out:Array Value,Instr.fill place cells us=some out/\az ρ B w z' out.toList
 | [],[],z,z',cells,h,_,_,hz=>by simp[mw]at h;subst h;exact⟨cells,rfl,hz⟩
 | (i,s)::ps,(j,u)::us,z,z',cells,h,he,hs,hz=>by
  simp only[Bu,List.cons.injEq]at he;obtain⟨rfl,he⟩:=he;simp only[mw]at h;unfold Instr.fill
  cases hp:place j with
  | none=>rw[hp]at h;cases h
  | some x=>
   obtain⟨off,size⟩:=x;rw[hp]at h;simp only at h⊢;split at h
   ·rename_i hc;have hcl:=hs.1.cells;have h1:=hcl.len;have h2:=hz.len;simp only[Eg]at h1 h2;rw[if_neg (by
     simp only[ne_eq,DP,decide_eq_true_eq,not_or,Classical.not_not,Nat.not_lt];have:=hc.1;have:=hc.2;omega)]
    refine iK h he hs.2 ?_;have:=sq (cs:=cells) u.cells.toList 0 off cells;rw[CM]at this;rw[<-Array.toList_zipIdx]at this;simp only[Array.foldl_toList]at this;rw[this];exact az.setRng hcl hz
   ·cases h
 | [],_::_,_,_,_,_,he,_,_=>by simp at he
 | _::_,[],_,_,_,_,he,_,_=>by simp at he
end
section
variable {p:A0} {ρ:Rho} {B:Blk} {a:Act} {w:World} {L:List OIns} {lk:Nat->Option AV} {c:AV} {rd:List Nat} {o:Oper}
def bg(ρ:Rho)(B:Blk)(a:Act)(w:World)(lk:Nat->Option AV)(x:AZ):Prop:=∀y∈rdO x,∀c,lk y=some c->bK ρ B a w y c
def dQ(p:A0)(ρ:Rho)(B:Blk)(a:Act)(w:World)(o:Oper)(c:AV):Prop:=∃u,(execOp a.eval o).run p w= .ok (.value u) w/\c.holds ρ B w u
theorem su{x:AZ}{c:AV}(h:bg ρ B a w lk x)(e:evA lk x=some c):c.holds ρ B w (a.eval x):=sj h e
theorem d5{x:AZ}{c:SV}(h:bg ρ B a w lk x)(e:evS lk x=some c):c.holds ρ B w (a.eval x):=sk h e
theorem d6{x:AZ}{c:Leaf}(h:bg ρ B a w lk x)(e:evL lk x=some c):c.holds ρ B w (a.eval x):=evL_holds h e
theorem pP{x:AZ}(C:o.op= .move x\/o.op= .assign x)(h:(evA lk x).map (·,([]:List Nat))=some (c,rd))(H:bg ρ B a w lk x):dQ p ρ B a w o c:=by
 cases e:evA lk x with
 | none=>rw[e]at h;cases h
 | some d=>
  rw[e]at h;simp at h;obtain⟨rfl,_⟩:=h;refine⟨a.eval x,?_,su H e⟩;rcases C with C | C<;>(unfold execOp;rw[C];rfl)
theorem yC{k x y:AZ}(I:o.op= .pick k x y)(h:cn p L lk (.pick k x y)=some (c,rd))(H:bg ρ B a w lk k)(J:bg ρ B a w lk x)(K:bg ρ B a w lk y):dQ p ρ B a w o c:=by
 simp only[cn]at h;split at h
 ·rename_i C;have G:a.eval k= .bool true:=d6 H C
  cases e:evA lk x with
  | none=>rw[e]at h;cases h
  | some d=>
   rw[e]at h;simp at h;obtain⟨rfl,_⟩:=h;exact⟨a.eval x,by unfold execOp;rw[I];simp only[G];rfl,su J e⟩
 ·rename_i C;have G:a.eval k= .bool false:=d6 H C
  cases e:evA lk y with
  | none=>rw[e]at h;cases h
  | some d=>
   rw[e]at h;simp at h;obtain⟨rfl,_⟩:=h;exact⟨a.eval y,by unfold execOp;rw[I];simp only[G];rfl,su K e⟩
 ·cases h
theorem rO{x:AZ}(I:o.op= .extract x k)(h:cn p L lk (.extract x k)=some (c,rd))(H:bg ρ B a w lk x):dQ p ρ B a w o c:=by
 simp only[cn]at h;split at h
 ·rename_i xs e;obtain⟨vs,C,G⟩:=(su H e:AV.holds ρ B w (.tup xs) (a.eval x))
  cases e3:xs[k]? with
  | none=>rw[e3]at h;cases h
  | some s=>
   rw[e3]at h;simp at h;obtain⟨rfl,_⟩:=h;obtain⟨v,h1,h2⟩:=G.get e3;refine⟨v,?_,h2⟩;unfold execOp;rw[I];simp[C,Instr.extract,h1,AO,AX]
 ·cases h
theorem vZ{x:AZ}(h:cn p L lk (.load t x)=some (c,rd))(H:bg ρ B a w lk x)(V:∀y∈rd,∀c,lk y=some c->bK ρ B a w y c):
  ∃ad u,a.eval x= .pointer (some ad)/\(loadVar t ad).run p w= .ok u w/\c.holds ρ B w u:=by
 simp only[cn]at h;split at h
 ·rename_i v off e;obtain⟨g,Z,Y⟩:=(d6 H e:Leaf.holds ρ B w (.ptr v off) (a.eval x));refine⟨⟨g,off,none⟩,?_⟩;split at h
  ·rename_i G;split at h
   ·rename_i n hn;split at h
    ·rename_i I
     cases K:iH lk v off n with
     | none=>rw[K]at h;cases h
     | some ls=>
      rw[K]at h;simp at h;obtain⟨rfl,rfl⟩:=h;obtain⟨J,C⟩:=fj (a:=a) K I.1 V;obtain⟨g',cs,ty,f1,f2,vs,f3,f4⟩:=C I.2;rw[Z]at f1;injection f1 with f1;subst f1;refine⟨.agg vs.toArray,Y,?_,vs,rfl,f3⟩;have hl:vs.length=n:=by rw[f3.len,J]
      have:=iJ (p:=p) (o:=off) f2 vs 0 #[] (λk u U=>by rw[Nat.zero_add];exact f4 k u U);rw[hl]at this;simp[loadVar,loadCells,AO,iI G,ba hn,this,AX]
    ·cases h
   ·cases h
  ·rename_i G;split at h
   ·rename_i I;split at h
    ·rename_i l K;simp at h;obtain⟨rfl,rfl⟩:=h;obtain⟨J,C⟩:=fj (a:=a) K I V;obtain⟨g',cs,ty,f1,f2,vs,f3,f4⟩:=C th;rw[Z]at f1;injection f1 with f1;subst f1;obtain⟨u,rfl,U⟩:=f3.one;refine⟨u,Y,?_,U⟩;have:=nJ (p:=p) (ad:=⟨g,off,none⟩) (v:=u) (by rw[aE f2];exact f4 0 u rfl);simp[loadVar,AO,iI G,this,AX]
    ·cases h
   ·cases h
  ·cases h
 ·cases h
theorem yD{x:AZ}(K:o.op= .load t x)(h:cn p L lk (.load t x)=some (c,rd))(H:bg ρ B a w lk x)(C:∀y∈rd,∀c,lk y=some c->bK ρ B a w y c):dQ p ρ B a w o c:=by
 obtain⟨U,u,G,I,J⟩:=vZ h H C;refine⟨u,?_,J⟩;unfold execOp;rw[K];simp[G,CN,Ej,AO,I,AX]
theorem oV{x:AZ}{f:Nat}(I:o.op= .fieldAddr t x f)(h:cn p L lk (.fieldAddr t x f)=some (c,rd))(H:bg ρ B a w lk x):dQ p ρ B a w o c:=by
 simp only[cn]at h;split at h
 ·rename_i v off U e J;obtain⟨g,G,C⟩:=(d6 H e:Leaf.holds ρ B w (.ptr v off) (a.eval x));split at h
  ·rename_i K hf;split at h
   ·rename_i n hn;simp at h;obtain⟨rfl,rfl⟩:=h;refine⟨_,?_,g,G,rfl⟩;unfold execOp;rw[I];simp[C,Ei,Ej,fieldPlace,AO,run_underlying J,hf,ba hn,AX,cE]
   ·cases h
  ·cases h
 ·cases h
theorem pQ{l:Leaf}{i:Nat}(h:idxI l=some i)(hl:l.holds ρ B w v):∃k,v= .int k (i:Int):=by
 unfold idxI at h;split at h
 ·rename_i k n;split at h
  ·rename_i hn;simp at h;subst h;exact⟨k,by rw[show v= .int k n from hl,Int.toNat_of_nonneg hn]⟩
  ·cases h
 ·cases h
theorem oW{x ix:AZ}(U:o.op= .indexAddr t x ix)(h:cn p L lk (.indexAddr t x ix)=some (c,rd))(H:bg ρ B a w lk x)(G:bg ρ B a w lk ix):dQ p ρ B a w o c:=by
 simp only[cn]at h;split at h
 ·rename_i v off len e l h1 V h3;obtain⟨g,K,I⟩:=(d6 H h1:Leaf.holds ρ B w (.ptr v off) (a.eval x));split at h
  ·rename_i i n hi hn;obtain⟨k,J⟩:=pQ hi (d6 G h3);split at h
   ·rename_i C;simp at h;obtain⟨rfl,rfl⟩:=h;refine⟨_,?_,g,K,rfl⟩;unfold execOp;rw[U];simp[I,J,DF,Ej,asIntOf,AO,run_underlying V,ba hn,AX,cE,C]
   ·cases h
  ·cases h
 ·cases h
theorem pR{ls:List Leaf}{off:Nat}(h:sf p t ls off=some s)(hc:az ρ B w ls cs.toList):∃v,(part t cs off).run p w= .ok v w/\s.holds ρ B w v:=by
 unfold sf at h;split at h
 ·rename_i C;split at h
  ·rename_i n hn;split at h
   ·rename_i K;simp at h;subst h;refine⟨.agg (cs.extract off (off+n)),by unfold part;rw[AO,iI C];simp only[AX,if_true,AO,ba hn,BC],(cs.extract off (off+n)).toList,by rw[Ek],?_⟩;have I:=hc.len;refine az.mk ?_ (λk l v H hv=> ?_)
    ·simp only[Eg,Array.size_extract,List.length_take,List.length_drop]at I⊢;omega
    ·have J:k<n:=by
      rw[BP]at H;by_cases h:k<n
      ·exact h
      ·rw[if_neg h]at H;cases H
     rw[BP,if_pos J,List.getElem?_drop]at H;obtain⟨u,h1,h2⟩:=hc.get H;have:v=u:=by
      have G:(cs.extract off (off+n))[k]? =some v:=by rw[<-BU];exact hv
      rw[Array.getElem?_extract]at G;simp only[BU]at h1;split at G
      ·rw[h1]at G;injection G with e;exact e.symm
      ·cases G
     rw[this];exact h2
   ·cases h
  ·cases h
 ·rename_i C
  cases hl:ls[off]? with
  | none=>rw[hl]at h;cases h
  | some l=>
   rw[hl]at h;simp at h;subst h;obtain⟨u,h1,h2⟩:=hc.get hl;refine⟨u,?_,h2⟩;simp only[BU]at h1;simp[part,AO,iI C,AX,h1]
 ·cases h
theorem wa{x:AZ}{f:Nat}(J:o.op= .field t x f)(h:cn p L lk (.field t x f)=some (c,rd))(H:bg ρ B a w lk x):dQ p ρ B a w o c:=by
 simp only[cn]at h;split at h
 ·rename_i ls U h1 K;obtain⟨vs,G,I⟩:=(d5 H h1:SV.holds ρ B w (.agg ls) (a.eval x));split at h
  ·rename_i C hf
   cases hp:sf p C.type ls C.offset with
   | none=>rw[hp]at h;cases h
   | some s=>
    rw[hp]at h;simp at h;obtain⟨rfl,rfl⟩:=h;obtain⟨v,h2,h3⟩:=pR (cs:=vs.toArray) hp (by simpa using I);refine⟨v,?_,h3⟩;unfold execOp;rw[J];simp[G,Instr.field,asAgg,AO,run_underlying K,hf,h2,AX]
  ·cases h
 ·cases h
theorem wb{x ix:AZ}(U:o.op= .index t x ix)(h:cn p L lk (.index t x ix)=some (c,rd))(H:bg ρ B a w lk x)(G:bg ρ B a w lk ix):dQ p ρ B a w o c:=by
 simp only[cn]at h;split at h
 ·rename_i ls len e l h1 V h3;obtain⟨vs,I,J⟩:=(d5 H h1:SV.holds ρ B w (.agg ls) (a.eval x));split at h
  ·rename_i i n hi hn;obtain⟨k,K⟩:=pQ hi (d6 G h3);split at h
   ·rename_i C
    cases hp:sf p e ls (i*n)with
    | none=>rw[hp]at h;cases h
    | some s=>
     rw[hp]at h;simp at h;obtain⟨rfl,rfl⟩:=h;obtain⟨v,h4,h5⟩:=pR (cs:=vs.toArray) hp (by simpa using J);refine⟨v,?_,h5⟩;unfold execOp;rw[U];simp[I,K,DV,asIntOf,AO,run_underlying V,ba hn,h4,AX,C]
   ·cases h
  ·cases h
 ·cases h
end
section
variable {p:A0} {ρ:Rho} {B:Blk} {a:Act} {w:World} {L:List OIns} {lk:Nat->Option AV} {c:AV} {rd:List Nat} {o:Oper}
theorem my{α β:Type}(f:α->Sem β)(g:α->β):∀(xs:List α),(∀x∈xs,(f x).run p w= .ok (g x) w)->(xs.mapM f).run p w= .ok (xs.map g) w
 | [],_=>Ag
 | x::xs,h=>by
  have C:=my f g xs (λy hy=>h y (Bg _ hy));simp only[List.mapM_cons,AO,h x Ag,AX,C,BC,Bu]
theorem wd{α β:Type}(f:α->Sem β)(g:α->β)(xs:Array α)(h:∀x∈xs.toList,(f x).run p w= .ok (g x) w):(xs.mapM f).run p w= .ok (xs.map g) w:=by
 obtain⟨l⟩:=xs;have:=my f g l Az;simp only[List.mapM_toArray,map_eq_pure_bind,AO,this,AX,BC,C1]
theorem gE:∀ {C:List (Nat×AZ)} {ss:List (Nat×SV)},mx lk C=some ss->(∀x∈C,bg ρ B a w lk x.2)->
  (C.map (λx=>(x.1,a.eval x.2))).map (·.1)=ss.map (·.1)/\cO ρ B w (ss.map (·.2)) ((C.map (λx=>(x.1,a.eval x.2))).map (·.2))
 | [],ss,h,_=>by simp[mx]at h;subst h;exact⟨rfl,trivial⟩
 | (i,x)::r,ss,h,H=>by
  simp only[mx]at h;split at h
  ·rename_i s l h1 h2;simp at h;subst h;obtain⟨G,I⟩:=gE h2 (λy hy=>H y (Bg _ hy));exact⟨AB,d5 (H (i,x) Ag) h1,I⟩
  ·cases h
theorem gn{z:List Leaf}(h:vV p t=some z):∃v,(zeroValue t).run p w= .ok v w/\az ρ B w z v.cells.toList:=by
 unfold vV at h;split at h
 ·rename_i v hv;exact⟨v,sn hv,gD h⟩
 ·cases h
theorem we{J:Array (Nat×AZ)}(ho:o.op= .build t J)(h:cn p L lk (.build t J)=some (c,rd))(H:∀x∈J.toList,bg ρ B a w lk x.2):dQ p ρ B a w o c:=by
 simp only[cn]at h;split at h
 ·rename_i z ss G h1 h2 Z;obtain⟨zv,hz,I⟩:=gn (ρ:=ρ) (B:=B) (w:=w) h1;obtain⟨K,U⟩:=gE h2 H;split at h
  ·rename_i C
   cases hf:mw (tS p G) z ss with
   | none=>rw[hf]at h;cases h
   | some ls=>
    rw[hf]at h;simp at h;obtain⟨rfl,rfl⟩:=h
    let g:Field->Nat×Nat:=λf=>(f.offset,(szB p f.type).getD 0)
    have hm:(G.mapM (λf=>do pure (f.offset,<-sizeOf f.type):Field->Sem (Nat×Nat))).run p w= .ok (G.map g) w:=by
     refine wd _ g G (λf hf=> ?_);have h3:(szB p f.type).isSome=true:=by
      have:=Array.all_eq_true.1 C;obtain⟨i,hi,rfl⟩:=List.getElem_of_mem hf;simp only[Array.getElem_toList];exact this i (by simpa using hi)
     cases hs:szB p f.type with
     | none=>rw[hs]at h3;cases h3
     | some n=>simp only[AO,ba hs,AX,BC];show _=Result.ok (f.offset,(szB p f.type).getD 0) w;rw[hs];rfl
    have Y:tS p G=λi=>(G.map g)[i]? :=by
     funext i
     unfold tS;rw[Array.getElem?_map]
     cases hi:G[i]? with
     | none=>rfl
     | some f=>
      have h3:(szB p f.type).isSome=true:=by
       have:=Array.all_eq_true.1 C;obtain⟨_,rfl⟩:=A8.1 hi;exact this i (A8.1 hi).1
      cases hs:szB p f.type with
      | none=>rw[hs]at h3;cases h3
      | some n=>show Option.map _ (szB p f.type)=some (f.offset,(szB p f.type).getD 0);rw[hs];rfl
    rw[Y]at hf;obtain⟨out,h4,h5⟩:=iK hf K U I;refine⟨.agg out,?_,out.toList,by rw[Ek],h5⟩;have V:(J.map (λx=>(x.1,a.eval x.2))).toList=J.toList.map (λx=>(x.1,a.eval x.2)):=Ag
    unfold execOp;rw[ho];simp only[Instr.build,AO,hz,run_underlying Z,AX,hm,V,h4,BC]
  ·cases h
 ·rename_i z ss len e h1 h2 Z;obtain⟨zv,hz,I⟩:=gn (ρ:=ρ) (B:=B) (w:=w) h1;obtain⟨K,U⟩:=gE h2 H;split at h
  ·rename_i n hn
   cases hf:mw (λi=>some (i*n,n)) z ss with
   | none=>rw[hf]at h;cases h
   | some ls=>
    rw[hf]at h;simp at h;obtain⟨rfl,rfl⟩:=h;obtain⟨out,h4,h5⟩:=iK hf K U I;refine⟨.agg out,?_,out.toList,by rw[Ek],h5⟩;have V:(J.map (λx=>(x.1,a.eval x.2))).toList=J.toList.map (λx=>(x.1,a.eval x.2)):=Ag
    unfold execOp;rw[ho];simp only[Instr.build,AO,hz,run_underlying Z,AX,ba hn,V,h4,BC]
  ·cases h
 ·cases h
theorem yE{op:BinOp}{x y l:Leaf}{C G:Value}{xo yo:AZ}(h:yB (gl p t) op x y=some l)(U:x.holds ρ B w C)(hy:y.holds ρ B w G):
  ∃v,l.holds ρ B w v/\((do eqGuard op t xo yo C G;binOp op t C G:Sem Value)).run p w= .ok v w:=by
 unfold yB at h;split at h
 ·rename_i H I;have J:C= .bool H:=U;have K:G= .bool I:=hy;subst J;subst K;split at h
  ·rename_i hb;have Z:p.underlying t=some .bool:=by
    unfold gl at hb;split at hb
    ·assumption
    ·cases hb
   have V:(Op.equal t (.bool H) (.bool I)).run p w= .ok (H==I) w:=by
    unfold Op.equal Op.maxDepth Op.equalIn;rw[AO,run_underlying Z];rfl
   cases op<;>simp only[A9.injEq,reduceCtorEq]at h<;>(subst h;refine⟨_,rfl,?_⟩;simp[eqGuard,binOp,AO,V,AX])
  ·cases h
 ·rename_i k1 n1 k2 n2;have J:C= .int k1 n1:=U;have K:G= .int k2 n2:=hy;subst J;subst K;split at h
  ·rename_i Y;subst Y;cases op<;>simp only[A9.injEq,reduceCtorEq]at h<;>(subst h;refine⟨_,rfl,?_⟩;simp[eqGuard,binOp,Op.intCmp,Op.intArith,AO,AX])<;>rfl
  ·cases h
 ·cases h
variable{k:Key}
theorem eT(C:∀i∈L,i.OkE E p ρ){xs:List SV}(G:∀f d,k≠ .mut f d)(h:cM L k xs=some s):(OIns.mk k xs s).Ok p ρ:=by
 unfold cM at h;split at h
 ·rename_i i hi;simp at h;subst h;have h1:=DU hi;simp only[Bo,decide_eq_true_eq]at h1;have:=C i (Dq hi);obtain⟨H,I,J⟩:=i;obtain⟨rfl,rfl⟩:=h1;cases H<;>first | exact this | exact absurd rfl (G _ _)
 ·cases h
theorem makes_bin(Y:∀i∈L,i.OkE E p ρ){op:BinOp}{ty:TypeId}{x y:AZ}(Z:o.op= .binOp op t x y ty)(h:cn p L lk (.binOp op t x y ty)=some (c,rd))(J:bg ρ B a w lk x)(K:bg ρ B a w lk y):dQ p ρ B a w o c:=by
 have fin:∀v,((do eqGuard op t x y (a.eval x) (a.eval y);binOp op t (a.eval x) (a.eval y):Sem Value)).run p w= .ok v w->(execOp a.eval o).run p w= .ok (.value v) w:=by
  intro v hv;unfold execOp;rw[Z];simp only;rw[AO,hv];rfl
 simp only[cn]at h;have C:∀(G s2:SV),G.holds ρ B w (a.eval x)->s2.holds ρ B w (a.eval y)->(cM L (.bin op t) [G,s2]).map (λs=>(AV.v s,([]:List Nat)))=some (c,rd)->dQ p ρ B a w o c:=by
  intro G s2 U V hf
  cases e:cM L (.bin op t) [G,s2]with
  | none=>rw[e]at hf;cases hf
  | some s=>
   rw[e]at hf;simp at hf;obtain⟨rfl,_⟩:=hf;obtain⟨v,h1,h2⟩:=(eT Y (λ_ _ h=>by cases h) e) B w [a.eval x,a.eval y] ⟨U,V,trivial⟩;exact⟨v,fin v (h2 x y),h1⟩
 split at h
 ·rename_i G s2 H I;split at h
  ·rename_i l hl;simp at h;obtain⟨rfl,_⟩:=h;obtain⟨v,h1,h2⟩:=yE (xo:=x) (yo:=y) hl (d5 J H) (d5 K I);exact⟨v,fin v h2,h1⟩
  ·exact C _ _ (d5 J H) (d5 K I) h
 ·rename_i G s2 _ H I;exact C _ _ (d5 J H) (d5 K I) h
 ·cases h
theorem makes_un(K:∀i∈L,i.OkE E p ρ){op:UnOp}{x:AZ}(U:o.op= .unOp op t x)(h:cn p L lk (.unOp op t x)=some (c,rd))(H:bg ρ B a w lk x):dQ p ρ B a w o c:=by
 have fin:∀v,(Op.unary op (a.eval x)).run p w= .ok v w->(execOp a.eval o).run p w= .ok (.value v) w:=by
  intro v hv;unfold execOp;rw[U];simp only;rw[AO,hv];rfl
 have C:∀(G:SV),G.holds ρ B w (a.eval x)->(cM L (.un op) [G]).map (λs=>(AV.v s,([]:List Nat)))=some (c,rd)->dQ p ρ B a w o c:=by
  intro G I hf
  cases e:cM L (.un op) [G]with
  | none=>rw[e]at hf;cases hf
  | some s=>
   rw[e]at hf;simp at hf;obtain⟨rfl,_⟩:=hf;obtain⟨v,h1,h2⟩:=(eT K (λ_ _ h=>by cases h) e) B w [a.eval x] ⟨I,trivial⟩;exact⟨v,fin v h2,h1⟩
 cases op with
 | not=>
  simp only[cn]at h;split at h
  ·rename_i b e;simp at h;obtain⟨rfl,_⟩:=h;have J:a.eval x= .bool b:=d6 H e;exact⟨_,fin (.bool (!b)) (by rw[J];rfl),rfl⟩
  ·rename_i l _ e;exact C (.one l) (d6 H e) h
  ·cases h
 | _=>
  simp only[cn]at h;split at h
  ·rename_i s e;exact C _ (d5 H e) h
  ·cases h
theorem Ao{p:Prop}(h:p:=by assumption):p:=h
theorem yF(Y:∀i∈L,i.OkE E p ρ){s d:TypeId}{x:AZ}(Z:o.op= .convert s d x)(h:cn p L lk (.convert s d x)=some (c,rd))(H:bg ρ B a w lk x):dQ p ρ B a w o c:=by
 have fin:∀v,(convert s d (a.eval x)).run p w= .ok v w->(execOp a.eval o).run p w= .ok (.value v) w:=by
  intro v hv;unfold execOp;rw[Z];simp only;rw[AO,hv];rfl
 have C:∀(G:SV),G.holds ρ B w (a.eval x)->(cM L (.conv s d) [G]).map (λs=>(AV.v s,([]:List Nat)))=some (c,rd)->dQ p ρ B a w o c:=by
  intro G I hf
  cases e:cM L (.conv s d) [G]with
  | none=>rw[e]at hf;cases hf
  | some s=>
   rw[e]at hf;simp at hf;obtain⟨rfl,_⟩:=hf;obtain⟨v,h1,h2⟩:=(eT Y (λ_ _ h=>by cases h) e) B w [a.eval x] ⟨I,trivial⟩;exact⟨v,fin v h2,h1⟩
 simp only[cn]at h;split at h
 ·rename_i k0 n k1 k J K U;simp at h;obtain⟨rfl,_⟩:=h;have V:a.eval x= .int k0 n:=d6 H J;refine⟨_,fin (.int k (k.wrap n)) ?_,rfl⟩;rw[V];unfold convert;rw[AO,run_underlying K];simp only[AX];rw[AO,run_underlying U];rfl
 ·rename_i l _ e;exact C (.one l) (d6 H Ao) h
 ·split at h
  ·rename_i G e;exact C _ (d5 H e) h
  ·cases h
theorem makes_len(I:∀i∈L,i.OkE E p ρ){k:Call}(J:o.op= .call k)(h:cn p L lk (.call k)=some (c,rd))(H:∀x∈k.args.toList,bg ρ B a w lk x):dQ p ρ B a w o c:=by
 obtain⟨K,args,tt⟩:=k;simp only[cn]at h;split at h
 ·rename_i x t C ht;split at h
  ·rename_i s e
   cases e3:cM L (.len t) [s]with
   | none=>rw[e3]at h;cases h
   | some r=>
    rw[e3]at h;simp at h;obtain⟨rfl,_⟩:=h;obtain⟨v,h1,h2⟩:=(eT I (λ_ _ h=>by cases h) e3) B w [a.eval x] ⟨d5 (H x (by simp[C])) e,trivial⟩;refine⟨v,?_,h1⟩;have G:args=#[x]:=by
     obtain⟨l⟩:=args;simp only at C;subst C;rfl
    subst G;unfold execOp;rw[J];simp only[resolve,AO,BC,AX,invoke,builtin];have:=h2 tt o.type ht;simp only[C1,Bu,BZ];rw[this]
  ·cases h
 ·rename_i x y _ C ht;split at h
  ·rename_i s s' e e'
   cases e3:cM L .max [s,s']with
   | none=>rw[e3]at h;cases h
   | some r=>
    rw[e3]at h;simp at h;obtain⟨rfl,_⟩:=h;obtain⟨v,h1,h2⟩:=(eT I (λ_ _ h=>by cases h) e3) B w [a.eval x,a.eval y] ⟨d5 (H x (by simp[C])) e,d5 (H y (by simp[C])) e',trivial⟩;refine⟨v,?_,h1⟩;have G:args=#[x,y]:=by
     obtain⟨l⟩:=args;simp only at C;subst C;rfl
    subst G;unfold execOp;rw[J];simp only[resolve,AO,BC,AX,invoke,builtin];have:=h2 tt o.type;simp only[C1,Bu,BZ];rw[this]
  ·cases h
 ·cases h
theorem Ap{p:Prop}(h:p:=by simp[Dr]):p:=h
theorem makes_all(G:∀i∈L,i.OkE E p ρ)(h:cn p L lk o.op=some (c,rd))(H:∀x∈o.op.operands.toList,bg ρ B a w lk x)(J:∀y∈rd,∀c,lk y=some c->bK ρ B a w y c):dQ p ρ B a w o c:=by
 obtain⟨op,C⟩:∃op,o.op=op:=⟨_,rfl⟩;rw[C]at h H
 cases op with
 | move x=>exact pP (.inl C) h (H x Ap)
 | assign x=>exact pP (.inr C) h (H x Ap)
 | pick k x y=>exact yC C h (H k Ap) (H x Ap) (H y Ap)
 | extract x k=>exact rO C h (H x Ap)
 | load t x=>exact yD C h (H x Ap) J
 | fieldAddr t x f=>exact oV C h (H x Ap)
 | indexAddr t x ix=>exact oW C h (H x Ap) (H ix Ap)
 | build t ps=>exact we C h (λx I=>H x.2 (by simp only[Dr,Bi];exact⟨x,I,rfl⟩))
 | field t x f=>exact wa C h (H x Ap)
 | index t x ix=>exact wb C h (H x Ap) (H ix Ap)
 | binOp op t x y ty=>exact makes_bin G C h (H x Ap) (H y Ap)
 | unOp op t x=>exact makes_un G C h (H x Ap)
 | convert s d x=>exact yF G C h (H x Ap)
 | call k=>exact makes_len G C h (λx I=>H x (by simp only[Dr,Call.operands,Array.toList_append,AJ];exact .inr I))
 | _=>simp[cn]at h
theorem fK:∀ {xs:List AZ} {ss:List SV},oU lk xs=some ss->(∀x∈xs,bg ρ B a w lk x)->cO ρ B w ss (xs.map a.eval)
 | [],ss,h,_=>by simp[oU]at h;subst h;trivial
 | x::xs,ss,h,H=>by
  simp only[oU]at h;split at h
  ·rename_i s l h1 h2;simp at h;subst h;exact⟨d5 (H x Ag) h1,fK h2 (λy hy=>H y (Bg _ hy))⟩
  ·cases h
variable{xs:List AZ}
theorem makes_gen(J:∀i∈L,i.OkE E p ρ){ss:List SV}(C:genO o.op=some (k,xs))(hs:oU lk xs=some ss)(hf:cM L k ss=some s)(H:∀x∈xs,bg ρ B a w lk x):dQ p ρ B a w o (.v s):=by
 have hv:=fK hs H;have I:=(eT J (λf d e=>by subst e;revert C;unfold genO;split<;>simp) hf) B w _ hv;obtain⟨op,G⟩:∃op,o.op=op:=⟨_,rfl⟩;rw[G]at C;unfold genO at C;split at C<;>first | (cases C;done) | skip
 all_goals
  simp only[A9.injEq,B3.injEq]at C;obtain⟨rfl,rfl⟩:=C
  first
  | (obtain⟨v,h1,h2⟩:=I;refine⟨v,?_,h1⟩;unfold execOp;rw[G];simp only[BF,Option.map_none];rw[AO];(first | rw[h2] | skip);rfl)
  | (obtain⟨K,h1,h2⟩:=I;refine⟨_,?_,h2⟩;unfold execOp;rw[G];simp only[h1];rfl)
theorem genO_sub{op:Op}(C:genO op=some (k,xs)):∀x∈xs,x∈op.operands.toList:=by
 unfold genO at C;split at C<;>first | (cases C;done) | skip
 all_goals
  simp only[A9.injEq,B3.injEq]at C;obtain⟨rfl,rfl⟩:=C;simp[Dr]
theorem makes_any(G:∀i∈L,i.OkE E p ρ)(h:si p L lk o.op=some (c,rd))(H:∀x∈o.op.operands.toList,bg ρ B a w lk x)(J:∀y∈rd,∀c,lk y=some c->bK ρ B a w y c):dQ p ρ B a w o c:=by
 unfold si at h;split at h
 ·rename_i r U;simp only[A9.injEq]at h;subst h;exact makes_all G U H J
 ·split at h
  ·rename_i c' hn;simp only[A9.injEq,B3.injEq]at h;obtain⟨rfl,rfl⟩:=h;obtain⟨op,I⟩:∃op,o.op=op:=⟨_,rfl⟩;rw[I]at hn H;unfold nilO at hn;split at hn
   ·rename_i x;split at hn
    ·rename_i v off e;simp only[A9.injEq]at hn;subst hn;obtain⟨g,C,K⟩:=(d6 (H x Ap) e:Leaf.holds ρ B w (.ptr v off) (a.eval x));refine⟨_,?_,g,C,rfl⟩;unfold execOp;rw[I];simp only[K];rfl
    ·cases hn
   ·cases hn
  ·split at h
   ·rename_i k xs C;split at h
    ·rename_i Y hs
     cases hf:cM L k Y with
     | none=>rw[hf]at h;cases h
     | some s=>
      rw[hf]at h;simp only[BF,A9.injEq,B3.injEq]at h;obtain⟨rfl,rfl⟩:=h;exact makes_gen G C hs hf (λx V=>H x (genO_sub C x V))
    ·cases h
   ·cases h
end
end Go.Proofs.YtggfmklppkioeaaGreat
