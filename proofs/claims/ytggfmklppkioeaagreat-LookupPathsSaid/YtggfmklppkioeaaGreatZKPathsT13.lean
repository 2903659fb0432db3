/- The paths and common ancestors that package lookup tells are those of the specification. -/
import Derived.Test.YtggfmklppkioeaaGreatL11
import Derived.Laws.Rows
import Derived.Shelf.SortM.Plain
import Derived.Shelf.Slices.CompactI
import Derived.Ground.SlgmProg
import Derived.Ground.Names2Prog
import Derived.Sort.OwnSortedInts
import Derived.Lib.OwnBridge
import Derived.Sort.CutIn
namespace Go.Proofs.YtggfmklppkioeaaGreat
set_option linter.unusedSimpArgs false
set_option linter.unusedVariables false
set_option maxRecDepth 100000
open Go.RowKit
open _root_.Go renaming wp_block → Cr,wp_ret → Cs,wp_seq → BQ
open _root_.Go.RowKit.Below renaming refl → AH
open _root_.List renaming length_append → Bj
open _root_.Go.Proofs.Tryz renaming func39 → C0,prog → AD
section
open Classical
variable{w:World}
theorem q_Common{t m:Nat}{E:List Ch}(I:TM w t m E)(G:Sane (trE E))(x y:Nm)(a:Int):
  Calls AD 52 #[ptB t,.string x,.string y,.int .i64 a] w λe w'=>e= .returned (.tuple #[.string (aE (trE E) a x y).1,.bool (decide ((aE (trE E) a x y).2=0))])/\mBw w w':=by
 have C:=abn I G x y a;obtain⟨M,H⟩:∃M,aE (trE E) a x y=M:=⟨_,rfl⟩;rw[H]at C⊢;obtain⟨K,c⟩:=M;simp only at C⊢;clear I G H;by_cases h0:c=0
 ·subst h0;rw[decide_eq_true rfl];go_enter Tryz.func52,Tryz.ntmps52
  go_wp2_with (go_at_call 71;refine C.mono ?_;rintro e P ⟨rfl,hb⟩;have F:=Lib.hid hb;clear hb)
  go_ret2
  exact⟨rfl,F.out⟩
 ·rw[decide_eq_false h0];have J:(c==0)=false:=beq_eq_false_iff_ne.2 h0;clear h0;go_enter Tryz.func52,Tryz.ntmps52
  go_wp2_with (go_at_call 71;refine C.mono ?_;rintro e P ⟨rfl,hb⟩;have F:=Lib.hid hb;clear hb)
  go_ret2
  exact⟨rfl,F.out⟩
theorem path_req{R Q:Tr}(h:REq R Q)(C:TOk R)(a:Int)(x y:Nm):jz R a x y=jz Q a x y:=by
 unfold jz mN;simp only[mL h C,mK h C]
theorem acS(l:List Nm)(c:Nm):(bx l c).length<=l.length:=by
 unfold bx;exact(List.takeWhile_prefix _).length_le
theorem path_len{R:Tr}(C:Sane R)(a:Int)(x y:Nm):(jz R a x y).length<=49:=by
 unfold jz;split
 ·unfold mN;have h1:=acS (bm R a x) (aE R a x y).1;have h2:=acS (bm R a y) (aE R a x y).1;have h3:=eu C a x;have F:=eu C a y;rw[Bj,Bj,List.length_reverse];simp only[List.length_cons,List.length_nil];omega
 ·simp
theorem q_PathN{t m:Nat}{E:List Ch}{x y:Nm}{a:Int}(F:TM w t m E)(C:Sane (trE E)):Calls AD 48 #[ptB t,.string x,.string y,.int .i64 a] w λe w'=>∃v,e= .returned (.tuple #[v,.int .i64 (aE (trE E) a x y).2])/\Nms w' v (jz (trE E) a x y)/\mBw w w':=(q_Path F C).mono (by
 rintro e w' ⟨v,rfl,h,hb⟩;refine⟨v,rfl,?_,hb⟩;unfold jz;split at h
 ·rename_i k;rw[if_pos k];exact h.nms
 ·rename_i k;rw[if_neg k,h];exact Nms.nil _)
set_option maxHeartbeats 2000000 in
theorem q_Paths{v0:Value}(R0:List Stp)(q:Qry)(ao:∀s∈R0,s.Ok)(hq:q.Ok)(k0:io w v0 R0):Calls AD 13 #[v0,q.val] w λe w'=>e= .returned (.bool true)/\mBw w w':=by
 obtain⟨an,c0,rfl,_⟩:=k0.row;go_enter Tryz.func13,Tryz.ntmps13
 refine bf 127 [(0,.slice an R0.length c0),(1,.agg q.cs.toArray)] λC=> ?_
 refine mDn ?_;refine bg ?_;refine vX (aby q) C λ{_ W B} V C=> ?_
 refine sZ C ?_;intro _ C;have f0:LdB W 5 (.pointer (some ⟨B,0+0,none⟩)) (.int .u8 q.a):=V.one rfl;have f1:LdB W 5 (.pointer (some ⟨B,0+1,none⟩)) (.int .u8 q.b):=V.one rfl;have f3:LdB W 3 (.pointer (some ⟨B,0+3,none⟩)) (.int .i64 q.t):=V.one rfl;by_cases b0:20<R0.length
 ·refine sX C ?_;intro _ C;refine mCt C ?_;refine mDn ?_;refine bg ?_;refine wC C (af Tryz.func53 rfl rfl) (cX W) λ{e w1} F=> ?_
  obtain⟨rfl,b1⟩:=F;refine⟨_,rfl,λ_ C=> ?_⟩;refine sZ C ?_;intro _ C;refine mT1 C ?_;exact⟨rfl,V.bel.trans (b1.mono V.bel.size)⟩
 ·refine sX C ?_;intro _ C;refine ci C ?_;refine sA C ?_;intro _ C;refine wC C (af Tryz.func57 rfl rfl) (oC R0 ao (k0.below V.bel) no) λ{e w1} F=> ?_
  obtain⟨t,m,tb,E,v,L,rfl,U⟩:=F;refine⟨_,rfl,λ_ C=> ?_⟩;refine sZ C ?_;intro _ C;refine sX C ?_;intro _ C;refine ci C ?_;have f0:=f0.mono U.ti.bel;have f1:=f1.mono U.ti.bel;have f3:=f3.mono U.ti.bel;have hb:=AH w1.heap.size w1;refine uA C ?_;intro _ C;refine uC C (.string (bM q.a)) (af C0 rfl rfl) (λw hb=>(gE q.a hq.a).mono (by rintro e w' ⟨rfl,rfl⟩;exact⟨rfl,AH _ _⟩)) λC=> ?_
  refine uD C ?_;intro _ C;refine uC C (.string (bM q.b)) (af C0 rfl rfl) (λw hb=>(gE q.b hq.b).mono (by rintro e w' ⟨rfl,rfl⟩;exact⟨rfl,AH _ _⟩)) λC=> ?_
  refine uZ C ?_;intro _ C w' aa;generalize bM q.a=x at *;generalize bM q.b=y at *;have Y:=U.ti.sane;have hn:L.length<=1000000:=by have:=U.le;omega
  have e1:=mL U.rq Y.ok q.t x y;have e2:=path_req U.rq Y.ok q.t x y;have e3:=mM U.rq Y.ok q.t y x;have l1:=path_len Y q.t x y;have G:=λwq (k:Below w1.heap.size w1 wq)=>U.below k
  have ab:=λwq (k:Below w1.heap.size w1 wq)=>V.bel.trans ((G wq k).ti.bel.mono V.bel.size)
  clear hb U V;refine sA C ?_;intro _ C;refine wC C (af Tryz.func48 rfl rfl) (q_PathN (G _ aa).ti.tm Y) λ{e w2} F=> ?_
  obtain⟨u1,rfl,I,b2⟩:=F;have hb:=aa.trans (b2.mono aa.size);clear aa b2;refine⟨_,rfl,λ_ C=> ?_⟩;refine sZ C ?_;intro _ C;refine sA C ?_;intro _ C;refine wC C (af Tryz.func60 rfl rfl) (acM (G _ hb).rm (G _ hb).sr x y q.t hn) λ{e w3} F=> ?_
  obtain⟨u2,rfl,J,b3⟩:=F;rw[<-e2]at J;have I:=I.below b3;have Z:=hb.trans (b3.mono hb.size);clear hb b3;refine⟨_,rfl,λ_ C=> ?_⟩;rw[<-e1]at C;refine sZ C ?_;intro _ C;refine sA C ?_;intro _ C;refine wC C (af Tryz.func52 rfl rfl) (q_Common (G _ Z).ti.tm Y x y q.t) λ{e w4} F=> ?_
  obtain⟨rfl,b4⟩:=F;have I:=I.below b4;have J:=J.below b4;have hb:=Z.trans (b4.mono Z.size);clear Z b4;refine⟨_,rfl,λ_ C=> ?_⟩;refine sZ C ?_;intro _ C;refine sA C ?_;intro _ C;refine wC C (af Tryz.func61 rfl rfl) (kK (G _ hb).rm (G _ hb).sr x y q.t hn) λ{e w5} F=> ?_
  obtain⟨rfl,b5⟩:=F;have I:=I.below b5;have J:=J.below b5;have P:=hb.trans (b5.mono hb.size);clear hb b5;refine⟨_,rfl,λ_ C=> ?_⟩;rw[<-e1]at C;refine sZ C ?_;intro _ C;refine sA C ?_;intro _ C;refine wC C (af Tryz.func58 rfl rfl) (wG (G _ P).rm (G _ P).sr y x q.t hn) λ{e w6} F=> ?_
  obtain⟨rfl,b6⟩:=F;have I:=I.below b6;have J:=J.below b6;have hb:=P.trans (b6.mono P.size);clear P b6;refine⟨_,rfl,λ_ C=> ?_⟩;rw[<-e3]at C;refine sZ C ?_;intro _ C;refine sA C ?_;intro _ C;refine wC C (af Tryz.func18 rfl rfl) (fG (G _ hb).ti.tm Y (dD Y q.t y x)) λ{e w7} F=> ?_
  obtain⟨_,rfl,⟨cs,rfl,am⟩,b7⟩:=F;refine⟨_,rfl,λ_ C=> ?_⟩;refine sD C ?_;intro _ C;refine vA C 21 λV hz C=> ?_
  refine vFR V am hz C λ{_ w8} V _ C=> ?_
  have b8:=b7.trans (V.bel.mono b7.size);have I:=I.below b8;have J:=J.below b8;have ad:=hb.trans (b8.mono hb.size);clear V am hb b7 b8;refine sZ C ?_;intro _ C;refine sA C ?_;intro _ C;refine wC C (af Tryz.func62 rfl rfl) (zc I J no no) λ{e w9} F=> ?_
  obtain⟨rfl,b9⟩:=F;have hb:=ad.trans (b9.mono ad.size);clear ad b9 I J;refine⟨_,rfl,λ_ C=> ?_⟩;rw[decide_eq_true rfl]at C;refine sD C ?_;intro _ C;refine wB C (.bool true) (hr:=abo (decide_eq_true rfl)) λC=> ?_
  refine sD C ?_;intro _ C;refine wB C (.bool true) λC=> ?_
  have hc:=q_Can (G _ hb).ti.tm Y (dD Y q.t y x);by_cases hF:(aP (trE E) q.t y x).2=0
  ·rw[decide_eq_true hF]at hc;rw[hF]at C;refine sD C ?_;intro _ C;refine wC C (af Tryz.func19 rfl rfl) (hc) λ{e ak} F=> ?_
   obtain⟨rfl,K⟩:=F;have H:=hb.trans (K.mono hb.size);clear hb K hc;refine⟨_,rfl,λ_ C=> ?_⟩;refine sD C ?_;intro _ C;refine wB C (.bool true) λC=> ?_
   refine sD C ?_;intro _ C;refine wC C (af Tryz.func53 rfl rfl) (cX ak) λ{e ap} F=> ?_
   obtain⟨rfl,ac⟩:=F;refine⟨_,rfl,λ_ C=> ?_⟩;refine sZ C ?_;intro _ C;refine mT1 C ?_;exact⟨rfl,ab _ (H.trans (ac.mono H.size))⟩
  ·rw[decide_eq_false hF]at hc;refine sD C ?_;intro _ C;refine wC C (af Tryz.func19 rfl rfl) (hc) λ{e ak} F=> ?_
   obtain⟨rfl,K⟩:=F;have H:=hb.trans (K.mono hb.size);clear hb K hc;refine⟨_,rfl,λ_ C=> ?_⟩;refine sD C ?_;intro _ C;refine wB C (.bool true) λC=> ?_
   refine sD C ?_;intro _ C;refine wC C (af Tryz.func53 rfl rfl) (cX ak) λ{e ap} F=> ?_
   obtain⟨rfl,ac⟩:=F;refine⟨_,rfl,λ_ C=> ?_⟩;refine sZ C ?_;intro _ C;refine mT1 C ?_;exact⟨rfl,ab _ (H.trans (ac.mono H.size))⟩
end
end Go.Proofs.YtggfmklppkioeaaGreat
