/- The contract of DivMod: the long division. -/
import Derived.Test.YtggfmklppkioeaaGreatL01
import Derived.Deep.CutBlock
import Derived.Laws.IdiomStrings
namespace Go.Proofs.YtggfmklppkioeaaGreat
set_option linter.unusedSimpArgs false
set_option linter.unusedVariables false
set_option maxRecDepth 100000
open Go.RowKit
open _root_.Go renaming Addr → A0,Calls → AF,Ending → By,Exit → A8,Operand → AS,Program → AZ,bodyPost_ret → Ba,wpAny_done → CK,wpAny_ready → BX,wpAny_take → Bb,wpOp_step → CQ,wp_region_any → Ds
open _root_.Go.RowKit renaming Below → AW
open _root_.Go.Act renaming put → AL
open _root_.Go.AllReady renaming cons → BI,nil → BV
open _root_.And renaming intro → BA
open _root_.Array renaming getElem?_eq_some_iff → A2,replicate → Cv
open _root_.Go.RowKit.Below renaming heap_setCell → C5,refl → AH
open _root_.Bool renaming and_eq_true → BU
open _root_.Go.Code renaming region → Dj
open _root_.Function renaming comp_def → FI
open _root_.Go.IntKind renaming i64 → Bf,u64 → BE,wrap_i64 → Cf
open _root_.Go.Lib renaming hid → AE
open _root_.List renaming all_eq_true → Cc,contains_iff_mem → CN,foldl_cons → Cd,foldl_nil → Ck,map_cons → Bq,map_nil → BS,mem_cons → AY,mem_map → Be,mem_of_getElem? → A5,nodup_cons → Bz,setIfInBounds_toArray → AO,set_cons_succ → AQ,set_cons_zero → AP
open _root_.Nat renaming div_add_mod → Ci,div_div_eq_div_mul → CS,div_eq_of_lt → Cz,div_le_self → Ea,eq_zero_or_pos → Dh,gcd → AR,le_add_right → Ee,le_refl → AI,le_succ → DW,le_trans → AG,log2_lt → Es,lt_of_le_of_lt → D8,lt_of_lt_of_le → Bv,lt_or_ge → Bg,lt_trans → Dv,mod_eq_of_lt → Co,mod_lt → Bt,mod_mul_right_div_self → FZ,mod_one → CE,mul_add → CH,mul_comm → BY,mul_pos → Ey,mul_zero → CT,pos_of_ne_zero → Dy,pow_add → BD,pow_le_pow_right → Fa,pow_pos → D7,pow_succ → BO,pow_zero → DP,zero_add → A7,zero_le → A3
open _root_.Go.Oper renaming wp → Bk
open _root_.Or renaming inl → AX
open _root_.Go.Region renaming ready → BK,wanted → A6
open _root_.Go.Result renaming andThen → AU
open _root_.Go.Sem renaming run_bind → AK,run_pure → Bu
open _root_.Go.Proofs.Tryz renaming prog → AD
open _root_.Go.Value renaming bool → Cu,int → AN,pointer → Cq,slice → EC
open _root_.Go.World renaming drew → CA,size_alloc → Ct
abbrev mBw(w w':World):Prop:=AW w.heap.size w w'
variable{w w':World}{g L N:Nat}
theorem aY.kept{row:Option Nat}(h:aY w g L N)(F:w.grownBy w' row)(C:some g≠row):aY w' g L N:=h.block (F.block g h.lt C)
theorem Dig.setOther{b off:Nat}(h:Dig w b off L N)(p:A0)(u:Value)(hp:p.block≠b):Dig (w.setCell p u) b off L N:=λj C=>by
 rw[World.cell?_setCell_other _ _ _ _ (by intro e;subst e;exact hp rfl)];exact h j C
theorem unshift(x s i:Nat)(hs:s<32):(D (x*2^s) (i+1)*4294967296+D (x*2^s) i) / 2^s % 4294967296=D x i:=by
 have G:(4294967296:Nat)=2^s*2^(32 - s):=by rw[<-BD,show s+(32 - s)=32 by omega]
 have h2:0<2^s:=D7 it;have C:D (x*2^s) (i+1)*4294967296+D (x*2^s) i=x*2^s / 4294967296^i % (4294967296*4294967296):=by
  unfold D;rw[BO,<-CS,Nat.mod_mul];omega
 have F:(4294967296:Nat)*4294967296=2^s*(2^(32 - s)*4294967296):=by rw[<-Nat.mul_assoc,<-G]
 rw[C,F,FZ,Nat.mod_mod_of_dvd _ (Nat.dvd_mul_left _ _),CS,BY (4294967296^i),<-CS,Nat.mul_div_cancel _ h2];rfl
theorem Af{p:Prop}(h:p:=by rfl):p:=h
set_option maxRecDepth 100000 in
set_option maxHeartbeats 4000000 in
theorem uV(va vb:Value)(m n:Nat)(w:World)(ha:IsN w va m)(hb:IsN w vb n)(hm:nl m<=1000000000000)(hn:nl n<=1000000000000)(cr:2<=nl n)(ee:n<=m):
  AF AD 200 #[va,vb] w λe w'=>iY w (m / n) (m % n) 0 e w':=by
 have bp:n≠0:=λh=>by rw[h,bK]at cr;omega
 obtain⟨a,ca,rfl,dq,ra⟩:=ha;obtain⟨b,cb,rfl,dr,rb⟩:=hb;have hw:=zA w a b (nl m) ca (nl n) cb;have c4:=ra.mono hw;have c5:=rb.mono hw;have ed:nl m<=9223372036854775807:=no
 have ef:nl n<=9223372036854775807:=no
 have hp:=dY bp;have f4:(((nl n:Nat):Int)==0)=false:=by rw[beq_eq_false_iff_ne];omega
 have fy:0<=cmpI m n:=by unfold cmpI;split<;>first | (exfalso;omega) | (split<;>omega)
 have fq:(((nl n:Nat):Int)==1)=false:=by rw[beq_eq_false_iff_ne];omega
 have cq:nl n<=nl m:=dZ ee;have e7:=AE (abB bp);obtain⟨b1,o1,rfl,bi⟩:=rb.cells no;go_enter Tryz.func200,Tryz.ntmps200
 go_wp2_with fail
 go_quiet (first
  | (go_at_call 189;with_reducible exact eG (d6 a (nl m) ca m _ ed dq (c4.drewN _)))
  | (go_at_call 189;with_reducible exact eG (d6 (some ⟨b1,o1,none⟩) (nl n) cb n _ ef dr (c5.drewN _))))
 go_upto_region 2 with(fail)
 go_cut [25] (λe6 wx=>e6= .bool false/\Res2 w wx (w.heap.size+1+1) (w.heap.size+1+1+1))
 case first=>
  go_wp2_with fail
  go_meet;case rel=>exact⟨rfl,aN hw nq,no,no,Ad,Aj,Aj,Aj,Aj⟩
 case rest=>
  obtain⟨rfl,hr⟩:=hcut;clear hw c4 c5;go_wp2_with fail
  refine(fW a (some ⟨b1,o1,none⟩) _ _ m n _ (ra.mono hr.below) (rb.mono hr.below) no no).mono ?_;rintro e w1 ⟨rfl,q,rfl⟩;have hr1:=hr.drewN q;have c1:=(bi.mono hr1.below (bi.lt no)) (nl n - 1) no;have e1:((nl n:Int) - 1)=((nl n - 1:Nat):Int):=no
  have fz:=cg n (nl n - 1);have fx:=Lib.bitLen_le (D n (nl n - 1)) 32 no no;go_wp2_with fail
  refine(c_lz32 _ _ no no).mono ?_;rintro e w2 ⟨rfl,rfl⟩;rw[Int.toNat_natCast];obtain⟨s,hs,aa,ad,ak⟩:=zB bp;rw[hs];go_upto_region 11 with(fail)
  go_cut [13,14] (λez eP wx=>∃g1 g2 c2,ez= .slice (some ⟨g1,0,none⟩) (nl m+1) (nl m+1)/\eP= .slice (some ⟨g2,0,none⟩) (nl n) c2/\aY wx g1 (nl m+1) (m*2^s)/\Dig wx g2 0 (nl n) (n*2^s)/\g2≠g1/\
    Res2 w wx (w.heap.size+1+1) (w.heap.size+1+1+1)/\w.heap.size+1+1+1<g1/\w.heap.size+1+1+1<g2)
  case first=>
   go_region_with (first
    | (go_at_call_of 243 (EC a (nl m) (nl m));refine(tD a (nl m) (nl m) m s _ (ra.mono (hr.drewN _).below) hm aa).mono ?_;rintro e w2 ⟨g1,rfl,d5,I,a7⟩)
    | (go_at_call_of 243 (EC (some ⟨b1,o1,none⟩) (nl n) (nl n));refine(tD _ (nl n) (nl n) n s _ (rb.mono ((hr.drewN _).after a7).below) hn aa).mono ?_;rintro e w3 ⟨g2,rfl,fU,eg,b9⟩))
   go_wp2_with fail
   go_meet;have an:=I.lt;have er:=hr.size;have fd:wc.heap.size<=g1:=d5;have b8:=a7.size;have dc:wc.heap.size<=w2.heap.size:=b8;case rel=>exact⟨g1,g2,_,rfl,rfl,I.mono b9 I.lt,λj hj=>eg.dig j no,no,((hr.drewN _).after a7).after b9,no,no⟩
  case rest=>
   obtain⟨g1,g2,c2,rfl,rfl,I,be,ap,bq,cp,ff⟩:=hcut;clear hr hr1 c1 bi;go_upto_region 12 with(fail)
   go_cut [15] (λeQ wx=>∃H,eQ= .slice (some ⟨H,0,none⟩) (nl m - nl n+1:Nat) (nl m - nl n+1:Nat)/\aY wx H (nl m - nl n+1) 0/\aY wx g1 (nl m+1) (m*2^s)/\Dig wx g2 0 (nl n) (n*2^s)/\
     Res2 w wx (w.heap.size+1+1) (w.heap.size+1+1+1)/\w.heap.size+1+1+1<H/\H≠g1/\H≠g2)
   case first=>
    have an:=I.lt;have ea:=be.lt no;have er:=bq.size;have e2:((nl m:Int) - (nl n:Int)+1)=((nl m - nl n+1:Nat):Int):=no
    have E2:=AE e2;clear e2;go_wp2_with (at_make;refine bE rfl _ _ rfl _ _ _ _ (nl m - nl n+1) rfl rfl no no no ?_)
    go_meet;have hb:=(AH wc.heap.size wc).alloc (AI _) (zrow (nl m - nl n+1));case rel=>exact⟨_,rfl,aY.made _ _,I.mono hb an,be.mono hb ea,bq.after hb,no,no,no⟩
   case rest=>
    obtain⟨H,rfl,cu,a0,ay,cz,Y,b2,c9⟩:=hcut;clear I be bq;go_wp2_with fail
    go_loopw [16] (λeS wr=>∃k:Nat,k<=nl m - nl n+1/\eS= .int .i64 ((k:Int) - 1)/\aY wr H (nl m - nl n+1) (co (m*2^s) (n*2^s) k)/\aY wr g1 (nl m+1) (d7 (m*2^s) (n*2^s) k)/\
      Dig wr g2 0 (nl n) (n*2^s)/\Res2 w wr (w.heap.size+1+1) (w.heap.size+1+1+1))
     (λi _=>(intOf i+1).toNat)
    case atStart=>
     have cm:=acZ (n:=n) (eD m) aa no cq ak;have e3:d7 (m*2^s) (n*2^s) (nl m - nl n+1)=m*2^s:=xe cm;have e4:co (m*2^s) (n*2^s) (nl m - nl n+1)=0:=by unfold co;rw[Cz cm];rfl
     exact⟨nl m - nl n+1,AI _,by rw[show(((nl m - nl n+1:Nat):Int) - 1)=((nl m - nl n:Nat):Int)by omega],by rw[e4];exact cu,by rw[e3];exact a0,ay,cz⟩
    case round=>
     obtain⟨k,hk,rfl,ho,hu,hd,ax⟩:=hrel;clear cu a0 ay cz;have ac:0<n*2^s:=Ey no (D7 it)
     cases k with
     | zero=>
      simp only[show(((0:Nat):Int) - 1)= -1 from rfl];have am:co (m*2^s) (n*2^s) 0=m / n:=by unfold co;rw[DP,Nat.one_mul,Nat.div_one];exact Nat.mul_div_mul_right _ _ (D7 it)
      have aq:d7 (m*2^s) (n*2^s) 0=m % n*2^s:=by rw[zC];exact Nat.mul_mod_mul_right _ _ _
      rw[am]at ho;rw[aq]at hu;have a3:m % n<4294967296^nl n:=Dv (Bt _ no) (eD n);clear am aq hd;go_upto_region 17 with(fail)
      go_cut [17] (λe0 wx=>∃g4,e0= .slice (some ⟨g4,0,none⟩) (nl n) (nl n)/\aY wx g4 (nl n) 0/\aY wx H (nl m - nl n+1) (m / n)/\Dig wx g1 0 (nl m+1) (m % n*2^s)/\
       Res2 w wx (w.heap.size+1+1) (w.heap.size+1+1+1)/\g1<g4/\H<g4)
      case first=>
       have an:=hu.lt;have cn:=ho.lt;go_wp2_with (at_make;refine bE rfl _ _ rfl _ _ _ _ (nl n) rfl rfl no no no ?_)
       go_meet;have hb:=(AH wr.heap.size wr).alloc (AI _) (zrow (nl n));case rel=>exact⟨_,rfl,aY.made _ _,ho.mono hb cn,hu.dig.mono hb an,ax.after hb,an,cn⟩
      case rest=>
       obtain⟨g4,rfl,ej,cv,ds,ep,c8,a6⟩:=hcut;clear ho hu ax;go_wp2_with fail
       go_loopw [128] (λc6 wq=>∃i:Nat,i<=nl n/\c6= .int .i64 i/\aY wq g4 (nl n) (m % n % 4294967296^i)/\AW g4 wc wq)
        (λi _=>nl n - (intOf i).toNat)
       case atStart=>exact⟨0,A3 _,rfl,by simpa [CE]using ej,AH _ _⟩
       case round=>
        obtain⟨i,hi,rfl,ab,ar⟩:=hrel;by_cases hlt:i<nl n
        ·have cl:=ds.mono ar c8;have c1:=cl i no;have c2:=cl (i+1) no;simp only[A7]at c1 c2;have e9:=cg (m % n*2^s) i;have fc:=cg (m % n*2^s) (i+1);have f5:=or32 (D (m % n*2^s) (i+1)) (D (m % n*2^s) i) no no no no;have c3:=ab.cell hlt;have f3:=ab.frozen i;have b0:Hid (aY (wr.setCell ⟨g4,i,none⟩ (.int .u32 ((D (m % n) i:Nat):Int))) g4 (nl n) (m % n % 4294967296^(i+1))):=by
          show aY _ _ _ _;rw[<-qw];exact ab.store hlt (cg _ _)
         have G:=ar.setCell (p:=⟨g4,i,none⟩) (AI _) (.int .u32 ((D (m % n) i:Nat):Int));have x1:Bf.wrap ((i:Int)+1)=(i:Int)+1:=by rw[Cf];omega
         have y1:((i:Int)+1).toNat=i+1:=no
         have z1:BE.wrap ((D (m % n*2^s) (i+1):Nat):Int)=((D (m % n*2^s) (i+1):Nat):Int):=by rw[IntKind.wrap_u64];omega
         have z2:BE.wrap ((D (m % n*2^s) i:Nat):Int)=((D (m % n*2^s) i:Nat):Int):=by rw[IntKind.wrap_u64];omega
         have z3:BE.wrap (((D (m % n*2^s) (i+1):Nat):Int)*4294967296)=((D (m % n*2^s) (i+1):Nat):Int)*4294967296:=by rw[IntKind.wrap_u64];omega
         have c7:=AE (unshift (m % n) s i aa);have z4:IntKind.u32.wrap ((((D (m % n*2^s) (i+1):Nat):Int)*4294967296+((D (m % n*2^s) i:Nat):Int)) / 2^s)=((D (m % n) i:Nat):Int):=by
          rw[<-c7.out,IntKind.wrap_u32];simp
         go_wp2_with fail
         refine Ds Aa ?_
         change wpAny _ _ _ _ _ _ _ (CA _)
         refine Bb (i:=0) (v:=?v21_0_1) rfl Aa Aa Aa (λ_ _ _ h=>h) (AX ⟨Af,?hy21_0_1⟩) ?_;case hy21_0_1=>(intro w;go_simp;try with_reducible rfl)
         try simp only[AL,AO,AP,AQ]
         refine Bb (i:=1) (v:=?v21_1_2) rfl Aa Aa Aa (λ_ _ _ h=>h) (AX ⟨Af,?hy21_1_2⟩) ?_;case hy21_1_2=>(intro w;go_simp;try with_reducible rfl)
         try simp only[AL,AO,AP,AQ]
         refine Bb (i:=2) (v:=?v21_2_3) rfl Aa Aa Aa (λ_ _ _ h=>h) (AX ⟨Af,?hy21_2_3⟩) ?_;case hy21_2_3=>(intro w;go_simp;try with_reducible rfl)
         try simp only[AL,AO,AP,AQ]
         refine Bb (i:=3) (v:=?v21_3_4) rfl Aa Aa Aa (λ_ _ _ h=>h) (AX ⟨Af,?hy21_3_4⟩) ?_;case hy21_3_4=>(intro w;go_simp;try with_reducible rfl)
         try simp only[AL,AO,AP,AQ]
         refine Bb (i:=4) (v:=?v21_4_5) rfl Aa Aa Aa (λ_ _ _ h=>h) (AX ⟨Af,?hy21_4_5⟩) ?_;case hy21_4_5=>(intro w;go_simp;try with_reducible rfl)
         try simp only[AL,AO,AP,AQ]
         refine Bb (i:=5) (v:=?v21_5_6) rfl Aa Aa Aa (λ_ _ _ h=>h) (AX ⟨Af,?hy21_5_6⟩) ?_;case hy21_5_6=>(intro w;go_simp;first | with_reducible rfl | rw[if_pos no];try with_reducible rfl)
         try simp only[AL,AO,AP,AQ]
         refine Bb (i:=9) (v:=?v21_9_7) rfl Aa Aa Aa (λ_ _ _ h=>h) (AX ⟨Af,?hy21_9_7⟩) ?_;case hy21_9_7=>(intro w;go_simp;try with_reducible rfl)
         try simp only[AL,AO,AP,AQ]
         refine Bb (i:=10) (v:=?v21_10_8) rfl Aa Aa Aa (λ_ _ _ h=>h) (AX ⟨Af,?hy21_10_8⟩) ?_;case hy21_10_8=>(intro w;go_simp;try with_reducible rfl)
         try simp only[AL,AO,AP,AQ]
         refine Bb (i:=11) (v:=?v21_11_9) rfl Aa Aa Aa (λ_ _ _ h=>h) (AX ⟨Af,?hy21_11_9⟩) ?_;case hy21_11_9=>(intro w;go_simp;first | with_reducible rfl | rw[if_pos no];try with_reducible rfl)
         try simp only[AL,AO,AP,AQ]
         refine Bb (i:=15) (v:=?v21_15_10) rfl Aa Aa Aa (λ_ _ _ h=>h) (AX ⟨Af,?hy21_15_10⟩) ?_;case hy21_15_10=>(intro w;go_simp;try with_reducible rfl)
         try simp only[AL,AO,AP,AQ]
         refine BX (rs:=[6,12]) Aa Ad ?_;refine BI rfl (λK F=> ?_) ?_
         ·go_simp
          refine F _ _ ?_;clear F K;try simp only[AL,AO,AP,AQ]
          refine Bb (i:=7) (v:=?v21_7_12) rfl Aa Aa Aa (λ_ _ _ h=>h) (AX ⟨Af,?hy21_7_12⟩) ?_;case hy21_7_12=>(intro w;go_simp;try with_reducible rfl)
          try simp only[AL,AO,AP,AQ]
          refine Bb (i:=8) (v:=?v21_8_13) rfl Aa Aa Aa (λ_ _ _ h=>h) (AX ⟨Af,?hy21_8_13⟩) ?_;case hy21_8_13=>(intro w;go_simp;try with_reducible rfl)
          try simp only[AL,AO,AP,AQ]
          refine BX (rs:=[12]) Aa Ad ?_;refine BI rfl (λK F=> ?_) BV;go_simp;refine F _ _ ?_;clear F K;try simp only[AL,AO,AP,AQ]
          refine Bb (i:=13) (v:=?v21_13_15) rfl Aa Aa Aa (λ_ _ _ h=>h) (AX ⟨Af,?hy21_13_15⟩) ?_;case hy21_13_15=>(intro w;go_simp;try with_reducible rfl)
          try simp only[AL,AO,AP,AQ]
          refine Bb (i:=14) (v:=?v21_14_16) rfl Aa Aa Aa (λ_ _ _ h=>h) (AX ⟨Af,?hy21_14_16⟩) ?_;case hy21_14_16=>(intro w;go_simp;try with_reducible rfl)
          try simp only[AL,AO,AP,AQ]
          refine Bb (i:=16) (v:=?v21_16_17) rfl Aa Aa Aa (λ_ _ _ h=>h) (AX ⟨Af,?hy21_16_17⟩) ?_;case hy21_16_17=>(intro w;go_simp;try with_reducible rfl)
          try simp only[AL,AO,AP,AQ]
          refine Bb (i:=17) (v:=?v21_17_18) rfl Aa Aa Aa (λ_ _ _ h=>h) (AX ⟨Af,?hy21_17_18⟩) ?_;case hy21_17_18=>(intro w;go_simp;try with_reducible rfl)
          try simp only[AL,AO,AP,AQ]
          refine Bb (i:=18) (v:=?v21_18_19) rfl Aa Aa Aa (λ_ _ _ h=>h) (AX ⟨Af,?hy21_18_19⟩) ?_;case hy21_18_19=>(intro w;go_simp;first | with_reducible rfl | rw[if_pos no];try with_reducible rfl)
          try simp only[AL,AO,AP,AQ]
          refine BX (rs:=[19]) Aa Ad ?_;refine BI rfl (λK F=> ?_) BV;go_simp;refine F _ _ ?_;clear F K;refine CK Aa ?_ _;go_wp2_with fail
          go_roundw
          case rel=>exact⟨i+1,no,by go_num,b0.out.block rfl,⟨G.os,G.tape,G.output,G.size,G.block⟩⟩
          case measure=>simp[intOf];omega
         refine BI rfl (λK F=> ?_) ?_
         ·go_simp
          refine F _ _ ?_;clear F K;try simp only[AL,AO,AP,AQ]
          refine Bb (i:=13) (v:=?v21_13_21) rfl Aa Aa Aa (λ_ _ _ h=>h) (AX ⟨Af,?hy21_13_21⟩) ?_;case hy21_13_21=>(intro w;go_simp;try with_reducible rfl)
          try simp only[AL,AO,AP,AQ]
          refine BX (rs:=[6]) Aa Ad ?_;refine BI rfl (λK F=> ?_) BV;go_simp;refine F _ _ ?_;clear F K;try simp only[AL,AO,AP,AQ]
          refine Bb (i:=7) (v:=?v21_7_23) rfl Aa Aa Aa (λ_ _ _ h=>h) (AX ⟨Af,?hy21_7_23⟩) ?_;case hy21_7_23=>(intro w;go_simp;try with_reducible rfl)
          try simp only[AL,AO,AP,AQ]
          refine Bb (i:=8) (v:=?v21_8_24) rfl Aa Aa Aa (λ_ _ _ h=>h) (AX ⟨Af,?hy21_8_24⟩) ?_;case hy21_8_24=>(intro w;go_simp;try with_reducible rfl)
          try simp only[AL,AO,AP,AQ]
          refine Bb (i:=14) (v:=?v21_14_25) rfl Aa Aa Aa (λ_ _ _ h=>h) (AX ⟨Af,?hy21_14_25⟩) ?_;case hy21_14_25=>(intro w;go_simp;try with_reducible rfl)
          try simp only[AL,AO,AP,AQ]
          refine Bb (i:=16) (v:=?v21_16_26) rfl Aa Aa Aa (λ_ _ _ h=>h) (AX ⟨Af,?hy21_16_26⟩) ?_;case hy21_16_26=>(intro w;go_simp;try with_reducible rfl)
          try simp only[AL,AO,AP,AQ]
          refine Bb (i:=17) (v:=?v21_17_27) rfl Aa Aa Aa (λ_ _ _ h=>h) (AX ⟨Af,?hy21_17_27⟩) ?_;case hy21_17_27=>(intro w;go_simp;try with_reducible rfl)
          try simp only[AL,AO,AP,AQ]
          refine Bb (i:=18) (v:=?v21_18_28) rfl Aa Aa Aa (λ_ _ _ h=>h) (AX ⟨Af,?hy21_18_28⟩) ?_;case hy21_18_28=>(intro w;go_simp;first | with_reducible rfl | rw[if_pos no];try with_reducible rfl)
          try simp only[AL,AO,AP,AQ]
          refine BX (rs:=[19]) Aa Ad ?_;refine BI rfl (λK F=> ?_) BV;go_simp;refine F _ _ ?_;clear F K;refine CK Aa ?_ _;go_wp2_with fail
          go_roundw
          case rel=>exact⟨i+1,no,by go_num,b0.out.block rfl,⟨G.os,G.tape,G.output,G.size,G.block⟩⟩
          case measure=>simp[intOf];omega
         exact BV
        ·obtain rfl:i=nl n:=no
         have e1:=Co a3;rw[e1]at ab;clear e1 a3;have cx:=cv.mono ar a6;have eq:=ep.step ar (Dv Y a6);have eb:=ab.lt;go_wp2_with fail
         refine(gY _ (nl m - nl n+1) _ (m / n) _ no (AI _) cx.rw').mono ?_;rintro e w3 ⟨rfl,a9⟩;have av:=eq.after a9;have ek:=aV.of_own (base:=w.heap.size+1+1+1+1) cx a9 Y;have a1:=ab.mono a9 eb;go_wp2_with fail
         refine(gY _ (nl n) _ (m % n) _ no (AI _) a1.rw').mono ?_;rintro e w4 ⟨rfl,bb⟩;have J:=av.after bb;have em:=ek.mono bb;have ew:=aV.of_own (base:=w.heap.size+1+1+1+1) a1 bb (Dv Y a6);obtain⟨q1,q2,q3,q4⟩:=BA J.cell1 (BA J.cell2 (BA J.frozen1 J.frozen2));go_wp2;exact J.ret em ew rfl rfl rfl rfl
     | succ k=>
      have hC:=remAt_lt (U:=m*2^s) (k:=k) ac ad;have hW:d7 (m*2^s) (n*2^s) (k+1) / 4294967296^k<n*2^s*4294967296:=by rw[nD];exact win_lt _ _ _ ac
      have HK:=knuth cr ad ak hC hW;have HQ:=quo_step (m*2^s) (n*2^s) k ac;have HR:=zD (m*2^s) (n*2^s) k ac;generalize da:d7 (m*2^s) (n*2^s) (k+1)=C at *;generalize db:n*2^s=V at *;have u0:=hu.cell (p:=k+nl n) no;have u1:=hu.cell (p:=k+nl n - 1) no;have u2:=hu.cell (p:=k+nl n - 2) no;have v1:=hd (nl n - 1) no;have v2:=hd (nl n - 2) no;simp only[A7]at v1 v2;have d0:=cg C (k+nl n);have d1:=cg C (k+nl n - 1);have d2:=cg C (k+nl n - 2);have d3:=cg V (nl n - 1);have d4:=cg V (nl n - 2);have e:(((k+1:Nat):Int) - 1)=(k:Int):=no
      have e3:((k:Int)+(nl n:Int) - 1)=((k+nl n - 1:Nat):Int):=no
      have e4:((k:Int)+(nl n:Int) - 2)=((k+nl n - 2:Nat):Int):=no
      have e5:((nl n:Int) - 2)=((nl n - 2:Nat):Int):=no
      simp only[e];clear e;have x1:Bf.wrap ((k:Int)+(nl n:Int))=(k:Int)+(nl n:Int):=by rw[Cf];omega
      have y1:((k:Int)+(nl n:Int)).toNat=k+nl n:=no
      have x2:Bf.wrap ((k+nl n - 1:Nat):Int)=((k+nl n - 1:Nat):Int):=by rw[Cf];omega
      have x3:Bf.wrap ((k+nl n - 2:Nat):Int)=((k+nl n - 2:Nat):Int):=by rw[Cf];omega
      have x4:Bf.wrap ((nl n - 1:Nat):Int)=((nl n - 1:Nat):Int):=by rw[Cf];omega
      have x5:Bf.wrap ((nl n - 2:Nat):Int)=((nl n - 2:Nat):Int):=by rw[Cf];omega
      have fs:=HK.1;have a4:=AE HK.2;have a5:=AE HQ;have bO:=AE HR;have bz:=AE hC;clear HK HQ HR hC hW db da;go_upto_region 16 with(fail)
      refine Ds Aa ?_
      change wpAny _ _ _ _ _ _ _ (CA _)
      refine Bb (i:=0) (v:=?v16_0_1) rfl Aa Aa Aa (λ_ _ _ h=>h) (AX ⟨Af,?hy16_0_1⟩) ?_;case hy16_0_1=>(intro w;go_simp;try with_reducible rfl)
      try simp only[AL,AO,AP,AQ]
      refine Bb (i:=1) (v:=?v16_1_2) rfl Aa Aa Aa (λ_ _ _ h=>h) (AX ⟨Af,?hy16_1_2⟩) ?_;case hy16_1_2=>(intro w;go_simp;try with_reducible rfl)
      try simp only[AL,AO,AP,AQ]
      refine Bb (i:=2) (v:=?v16_2_3) rfl Aa Aa Aa (λ_ _ _ h=>h) (AX ⟨Af,?hy16_2_3⟩) ?_;case hy16_2_3=>(intro w;go_simp;try with_reducible rfl)
      try simp only[AL,AO,AP,AQ]
      refine Bb (i:=3) (v:=?v16_3_4) rfl Aa Aa Aa (λ_ _ _ h=>h) (AX ⟨Af,?hy16_3_4⟩) ?_;case hy16_3_4=>(intro w;go_simp;try with_reducible rfl)
      try simp only[AL,AO,AP,AQ]
      refine Bb (i:=4) (v:=?v16_4_5) rfl Aa Aa Aa (λ_ _ _ h=>h) (AX ⟨Af,?hy16_4_5⟩) ?_;case hy16_4_5=>(intro w;go_simp;try with_reducible rfl)
      try simp only[AL,AO,AP,AQ]
      refine Bb (i:=5) (v:=?v16_5_6) rfl Aa Aa Aa (λ_ _ _ h=>h) (AX ⟨Af,?hy16_5_6⟩) ?_;case hy16_5_6=>(intro w;go_simp;try with_reducible rfl)
      try simp only[AL,AO,AP,AQ]
      refine Bb (i:=6) (v:=?v16_6_7) rfl Aa Aa Aa (λ_ _ _ h=>h) (AX ⟨Af,?hy16_6_7⟩) ?_;case hy16_6_7=>(intro w;go_simp;try with_reducible rfl)
      try simp only[AL,AO,AP,AQ]
      refine Bb (i:=7) (v:=?v16_7_8) rfl Aa Aa Aa (λ_ _ _ h=>h) (AX ⟨Af,?hy16_7_8⟩) ?_;case hy16_7_8=>(intro w;go_simp;try with_reducible rfl)
      try simp only[AL,AO,AP,AQ]
      refine Bb (i:=8) (v:=?v16_8_9) rfl Aa Aa Aa (λ_ _ _ h=>h) (AX ⟨Af,?hy16_8_9⟩) ?_;case hy16_8_9=>(intro w;go_simp;try with_reducible rfl)
      try simp only[AL,AO,AP,AQ]
      refine Bb (i:=9) (v:=?v16_9_10) rfl Aa Aa Aa (λ_ _ _ h=>h) (AX ⟨Af,?hy16_9_10⟩) ?_;case hy16_9_10=>(intro w;go_simp;first | with_reducible rfl | rw[if_pos no];try with_reducible rfl)
      try simp only[AL,AO,AP,AQ]
      refine Bb (i:=11) (v:=?v16_11_11) rfl Aa Aa Aa (λ_ _ _ h=>h) (AX ⟨Af,?hy16_11_11⟩) ?_;case hy16_11_11=>(intro w;go_simp;try with_reducible rfl)
      try simp only[AL,AO,AP,AQ]
      refine Bb (i:=12) (v:=?v16_12_12) rfl Aa Aa Aa (λ_ _ _ h=>h) (AX ⟨Af,?hy16_12_12⟩) ?_;case hy16_12_12=>(intro w;go_simp;try with_reducible rfl)
      try simp only[AL,AO,AP,AQ]
      refine Bb (i:=13) (v:=?v16_13_13) rfl Aa Aa Aa (λ_ _ _ h=>h) (AX ⟨Af,?hy16_13_13⟩) ?_;case hy16_13_13=>(intro w;go_simp;try with_reducible rfl)
      try simp only[AL,AO,AP,AQ]
      refine Bb (i:=14) (v:=?v16_14_14) rfl Aa Aa Aa (λ_ _ _ h=>h) (AX ⟨Af,?hy16_14_14⟩) ?_;case hy16_14_14=>(intro w;go_simp;try with_reducible rfl)
      try simp only[AL,AO,AP,AQ]
      refine Bb (i:=15) (v:=?v16_15_15) rfl Aa Aa Aa (λ_ _ _ h=>h) (AX ⟨Af,?hy16_15_15⟩) ?_;case hy16_15_15=>(intro w;go_simp;try with_reducible rfl)
      try simp only[AL,AO,AP,AQ]
      refine Bb (i:=16) (v:=?v16_16_16) rfl Aa Aa Aa (λ_ _ _ h=>h) (AX ⟨Af,?hy16_16_16⟩) ?_;case hy16_16_16=>(intro w;go_simp;first | with_reducible rfl | rw[if_pos no];try with_reducible rfl)
      try simp only[AL,AO,AP,AQ]
      refine Bb (i:=18) (v:=?v16_18_17) rfl Aa Aa Aa (λ_ _ _ h=>h) (AX ⟨Af,?hy16_18_17⟩) ?_;case hy16_18_17=>(intro w;go_simp;try with_reducible rfl)
      try simp only[AL,AO,AP,AQ]
      refine Bb (i:=19) (v:=?v16_19_18) rfl Aa Aa Aa (λ_ _ _ h=>h) (AX ⟨Af,?hy16_19_18⟩) ?_;case hy16_19_18=>(intro w;go_simp;try with_reducible rfl)
      try simp only[AL,AO,AP,AQ]
      refine Bb (i:=20) (v:=?v16_20_19) rfl Aa Aa Aa (λ_ _ _ h=>h) (AX ⟨Af,?hy16_20_19⟩) ?_;case hy16_20_19=>(intro w;go_simp;try with_reducible rfl)
      try simp only[AL,AO,AP,AQ]
      refine Bb (i:=21) (v:=?v16_21_20) rfl Aa Aa Aa (λ_ _ _ h=>h) (AX ⟨Af,?hy16_21_20⟩) ?_;case hy16_21_20=>(intro w;go_simp;try with_reducible rfl)
      try simp only[AL,AO,AP,AQ]
      refine Bb (i:=22) (v:=?v16_22_21) rfl Aa Aa Aa (λ_ _ _ h=>h) (AX ⟨Af,?hy16_22_21⟩) ?_;case hy16_22_21=>(intro w;go_simp;try with_reducible rfl)
      try simp only[AL,AO,AP,AQ]
      refine Bb (i:=23) (v:=?v16_23_22) rfl Aa Aa Aa (λ_ _ _ h=>h) (AX ⟨Af,?hy16_23_22⟩) ?_;case hy16_23_22=>(intro w;go_simp;first | with_reducible rfl | rw[if_pos no];try with_reducible rfl)
      try simp only[AL,AO,AP,AQ]
      refine Bb (i:=25) (v:=?v16_25_23) rfl Aa Aa Aa (λ_ _ _ h=>h) (AX ⟨Af,?hy16_25_23⟩) ?_;case hy16_25_23=>(intro w;go_simp;try with_reducible rfl)
      try simp only[AL,AO,AP,AQ]
      refine Bb (i:=26) (v:=?v16_26_24) rfl Aa Aa Aa (λ_ _ _ h=>h) (AX ⟨Af,?hy16_26_24⟩) ?_;case hy16_26_24=>(intro w;go_simp;try with_reducible rfl)
      try simp only[AL,AO,AP,AQ]
      refine Bb (i:=27) (v:=?v16_27_25) rfl Aa Aa Aa (λ_ _ _ h=>h) (AX ⟨Af,?hy16_27_25⟩) ?_;case hy16_27_25=>(intro w;go_simp;try with_reducible rfl)
      try simp only[AL,AO,AP,AQ]
      refine Bb (i:=28) (v:=?v16_28_26) rfl Aa Aa Aa (λ_ _ _ h=>h) (AX ⟨Af,?hy16_28_26⟩) ?_;case hy16_28_26=>(intro w;go_simp;first | with_reducible rfl | rw[if_pos no];try with_reducible rfl)
      try simp only[AL,AO,AP,AQ]
      refine Bb (i:=30) (v:=?v16_30_27) rfl Aa Aa Aa (λ_ _ _ h=>h) (AX ⟨Af,?hy16_30_27⟩) ?_;case hy16_30_27=>(intro w;go_simp;try with_reducible rfl)
      try simp only[AL,AO,AP,AQ]
      refine Bb (i:=31) (v:=?v16_31_28) rfl Aa Aa Aa (λ_ _ _ h=>h) (AX ⟨Af,?hy16_31_28⟩) ?_;case hy16_31_28=>(intro w;go_simp;try with_reducible rfl)
      try simp only[AL,AO,AP,AQ]
      refine Bb (i:=32) (v:=?v16_32_29) rfl Aa Aa Aa (λ_ _ _ h=>h) (AX ⟨Af,?hy16_32_29⟩) ?_;case hy16_32_29=>(intro w;go_simp;try with_reducible rfl)
      try simp only[AL,AO,AP,AQ]
      refine Bb (i:=33) (v:=?v16_33_30) rfl Aa Aa Aa (λ_ _ _ h=>h) (AX ⟨Af,?hy16_33_30⟩) ?_;case hy16_33_30=>(intro w;go_simp;first | with_reducible rfl | rw[if_pos no];try with_reducible rfl)
      try simp only[AL,AO,AP,AQ]
      refine cR 10 35 (?v16_10_31) rfl it rfl rfl Aa Aa (λ_ _ _ h=>h) ⟨Af,?hy16_10_31⟩ ?_;case hy16_10_31=>(go_simp;try with_reducible rfl)
      try simp only[AL,AO,AP,AQ]
      refine cR 17 35 (?v16_17_32) rfl it rfl rfl Aa Aa (λ_ _ _ h=>h) ⟨Af,?hy16_17_32⟩ ?_;case hy16_17_32=>(go_simp;try with_reducible rfl)
      try simp only[AL,AO,AP,AQ]
      refine cR 24 35 (?v16_24_33) rfl it rfl rfl Aa Aa (λ_ _ _ h=>h) ⟨Af,?hy16_24_33⟩ ?_;case hy16_24_33=>(go_simp;try with_reducible rfl)
      try simp only[AL,AO,AP,AQ]
      refine cR 29 35 (?v16_29_34) rfl it rfl rfl Aa Aa (λ_ _ _ h=>h) ⟨Af,?hy16_29_34⟩ ?_;case hy16_29_34=>(go_simp;try with_reducible rfl)
      try simp only[AL,AO,AP,AQ]
      refine BX (rs:=[34]) Aa Ad ?_;refine BI rfl (λK F=> ?_) BV;go_simp;refine F _ _ ?_;clear F K;try simp only[AL,AO,AP,AQ]
      refine BX (rs:=[35]) Aa Ad ?_;refine BI rfl (λK F=> ?_) BV;go_simp;refine(c_guess _ _ _ _ _ _ no no no no no no).mono ?_;rintro e w5 ⟨rfl,q5,rfl⟩;refine F _ _ ?_;clear F K;try simp only[AL,AO,AP,AQ]
      refine BX (rs:=[36]) Aa Ad ?_;refine BI rfl (λK F=> ?_) BV;go_simp;refine(c_reduce g1 (nl m+1) _ g2 _ (nl n) k C V (gK 4294967296 ((D C (k+nl n)*4294967296+D C (k+nl n - 1))*4294967296+D C (k+nl n - 2)) (D V (nl n - 1)*4294967296+D V (nl n - 2))) (wr.drewN (1+q5)) (hu.block rfl) hd ad ap no no (D8 (Nat.min_le_left _ _) it) ac bz.out a4.out.1 a4.out.2).mono ?_;rintro e w6 ⟨rfl,bt,P⟩;rw[bO.out]at bt;have cc:AW g1 wr w6:=(aN (AH g1 wr) (1+q5)).trans (fh P g1 (Nat.le_of_lt hu.lt) (λk hk=>by cases hk;exact AI _));have av:=ax.step cc cp;have au:aY w6 H _ _:=aY.kept (show aY (wr.drewN (1+q5)) H _ _ from ho.block rfl) P (by simpa using b2);have cd:Dig w6 g2 0 (nl n) V:=Dig.kept (show Dig (wr.drewN (1+q5)) g2 0 (nl n) V from hd) P (by simpa using ap);clear ho hu hd ax P cc a4 bz bO;refine F _ _ ?_;clear F K;try simp only[AL,AO,AP,AQ]
      have s0:=au.cell (p:=k) no;have f0:=au.frozen k;have ao:=a5.out.2;have a2:=au.store (p:=k) no ao;rw[a5.out.1]at a2;have et:=bt.setOther ⟨H,k,none⟩ (.int .u32 ((C / 4294967296^k / V:Nat):Int)) (by exact b2);have dT:=cd.setOther ⟨H,k,none⟩ (.int .u32 ((C / 4294967296^k / V:Nat):Int)) c9;have J:=av.step ((AH H w6).setCell (p:=⟨H,k,none⟩) (AI _) (.int .u32 ((C / 4294967296^k / V:Nat):Int))) Y;clear au bt cd av a5;have fu:=AE ao;clear ao;generalize C / 4294967296^k / V=Z at *;refine Bb (i:=37) (v:=?v16_37_38) rfl Aa Aa Aa (λ_ _ _ h=>h) (AX ⟨Af,?hy16_37_38⟩) ?_;case hy16_37_38=>(intro w;go_simp;first | with_reducible rfl | rw[if_pos no];try with_reducible rfl)
      try simp only[AL,AO,AP,AQ]
      refine BX (rs:=[38]) Aa Ad ?_;refine BI rfl (λK F=> ?_) BV;go_simp;refine F _ _ ?_;clear F K;refine CK Aa ?_ _;go_wp2_with fail
      go_roundw
      case rel=>exact⟨k,no,by go_num,a2,et,dT,J⟩
      case measure=>simp[intOf]
theorem iD(va vb:Value)(m n:Nat)(w:World)(ha:IsN w va m)(hb:IsN w vb n)(C:nl m<=1000000000000)(hn:nl n<=1000000000000)(h0:n≠0):
  AF AD 200 #[va,vb] w λe w'=>iY w (m / n) (m % n) 0 e w':=by
 by_cases hlt:m<n
 ·have:=te va vb m n w ha hb C hn hlt;rwa [Cz hlt,Co hlt]
 ·by_cases h1:nl n=1
  ·exact uT va vb m n w ha hb C h1 no
  ·have:=dY h0;exact uV va vb m n w ha hb C hn no no
structure Two(w wx:World)(rc g1 g2 x y:Nat):Prop where
 below:mBw w wx
 res:aW wx rc none 0 0
 rbase:w.heap.size<=rc
 ne1:rc≠g1
 ne2:rc≠g2
 ne:g1≠g2
 base1:w.heap.size<=g1
 base2:w.heap.size<=g2
 var1:iX w.heap.size wx g1 x
 var2:iX w.heap.size wx g2 y
variable{C:Nat}
theorem abH{H:World}{rc F M V c5 Y c6 I cy:Nat}{Z a6 x y:Option A0}(hb:mBw w H)(kr:aW H rc none 0 0)(K:aW H C Z V c5)(v6:aW H F a6 Y c6)
  (h1:w.heap.size<=rc)(h2:rc≠C)(h3:rc≠F)(J:C≠F)(P:w.heap.size<=C)(U:w.heap.size<=F)
  (hx:aV w.heap.size H (.agg #[.slice x (nl M) I]) M)(hy:aV w.heap.size H (.agg #[.slice y (nl N) cy]) N):
  Two w ((H.setCell ⟨C,0,none⟩ (.slice x (nl M) I)).setCell ⟨F,0,none⟩ (.slice y (nl N) cy)) rc C F M N:=by
 have G:=v6.setOther ⟨C,0,none⟩ (.slice x (nl M) I) J;exact⟨(hb.setCell (p:=⟨C,0,none⟩) P _).setCell (p:=⟨F,0,none⟩) U _,(kr.setOther _ _ (λe=>h2 e.symm)).setOther _ _ (λe=>h3 e.symm),h1,h2,h3,J,P,U,
  ⟨x,I,K.set.setOther _ _ (λe=>J e.symm),(hx.setVar K).setVar G⟩,⟨y,cy,G.set,(hy.setVar K).setVar G⟩⟩
def tF(base:Nat)(a b:Option A0)(m ca n cb:Nat):Nat->Value->World->Prop
 | 0,v,_=>∃so,v= .slice so 0 0
 | 5,v,_=>∃so,v= .slice so 0 0
 | 2,v,_=>v= .slice a (nl m) ca
 | 7,v,_=>v= .slice b (nl n) cb
 | 3,v,w=>∃x c,v= .slice x (nl m) c/\nl m<=c/\jo w base x (nl m) m
 | 8,v,w=>∃x c,v= .slice x (nl n) c/\nl n<=c/\jo w base x (nl n) n
 | 4,v,w=>aV base w v m
 | 9,v,w=>aV base w v n
 | 10,v,w=>∃g,v= .pointer (some ⟨g,0,none⟩)/\base<=g/\aW w g none 0 0
 | 11,v,w=>∃g,v= .pointer (some ⟨g,0,none⟩)/\base<=g/\aW w g none 0 0
 | _,_,_=>True
theorem zE(base:Nat)(a b:Option A0)(m C n F:Nat)(i:Nat)(v:Value)(w w':World)(h:tF base a b m C n F i v w)(hb:mBw w w'):tF base a b m C n F i v w':=by
 unfold tF at h⊢;split at h
 all_goals first
  | exact h
  | (obtain⟨x,c,rfl,hc,I⟩:=h;exact⟨x,c,rfl,hc,I.mono hb⟩)
  | exact aV.mono h hb
  | (obtain⟨g,rfl,H,G⟩:=h;exact⟨g,rfl,H,G.mono hb G.lt⟩)
theorem start3(w:World)(a b:Option A0)(L C M F:Nat):
  mBw w (((w.alloc (.cells #[.slice a L C] 31)).alloc (.cells #[.slice b M F] 31)).alloc (.cells #[.slice none 0 0] 31)).drew/\
  aW (((w.alloc (.cells #[.slice a L C] 31)).alloc (.cells #[.slice b M F] 31)).alloc (.cells #[.slice none 0 0] 31)).drew w.heap.size a L C/\
  aW (((w.alloc (.cells #[.slice a L C] 31)).alloc (.cells #[.slice b M F] 31)).alloc (.cells #[.slice none 0 0] 31)).drew (w.heap.size+1) b M F/\
  aW (((w.alloc (.cells #[.slice a L C] 31)).alloc (.cells #[.slice b M F] 31)).alloc (.cells #[.slice none 0 0] 31)).drew (w.heap.size+1+1) none 0 0:=by
 have H:AW (w.alloc (.cells #[.slice a L C] 31)).heap.size (w.alloc (.cells #[.slice a L C] 31)) ((w.alloc (.cells #[.slice a L C] 31)).alloc (.cells #[.slice b M F] 31)):=(AH _ _).alloc (AI _) _;have G:AW ((w.alloc (.cells #[.slice a L C] 31)).alloc (.cells #[.slice b M F] 31)).heap.size ((w.alloc (.cells #[.slice a L C] 31)).alloc (.cells #[.slice b M F] 31))
  (((w.alloc (.cells #[.slice a L C] 31)).alloc (.cells #[.slice b M F] 31)).alloc (.cells #[.slice none 0 0] 31)).drew:=aN ((AH _ _).alloc (AI _) _) 1
 refine⟨aN ((((AH _ _).alloc (AI _) _).alloc Ad _).alloc (by simp;omega) _) 1,?_,?_,?_⟩
 ·exact((aW.made w a L C).mono H Ad).mono G (by simp;omega)
 ·have h:=(aW.made (w.alloc (.cells #[.slice a L C] 31)) b M F).mono G Ad;rw[Ct]at h;exact h
 ·have h:=aW.made ((w.alloc (.cells #[.slice a L C] 31)).alloc (.cells #[.slice b M F] 31)) none 0 0;rw[Ct,Ct]at h;exact h
set_option maxRecDepth 100000 in
set_option maxHeartbeats 4000000 in
theorem tf(va vb:Value)(m n:Nat)(w:World)(ha:IsN w va m)(hb:IsN w vb n)(hm:nl m<=1000000000000)(hn:nl n<=1000000000000):
  AF AD 199 #[va,vb] w λe w'=>cY w (AR m n) e w':=by
 obtain⟨a,ca,rfl,cu,ra⟩:=ha;obtain⟨b,cb,rfl,cv,rb⟩:=hb;go_enter Tryz.func199,Tryz.ntmps199
 go_upto_region 1 with(fail)
 go_cut [5,6] (λs5 s6 wx=>∃U g6,s5= .pointer (some ⟨U,0,none⟩)/\s6= .pointer (some ⟨g6,0,none⟩)/\Two w wx (w.heap.size+1+1) U g6 m n)
 case first=>
  obtain⟨ac,k2,k3,k4⟩:=start3 w a b (nl m) ca (nl n) cb;refine Ds Aa ?_
  change wpAny _ _ _ _ _ _ _ (CA _)
  generalize CA _=w0 at *;refine gN (some 11) 1 (?v1_1) rfl rfl Aa Aa Aa (λ_ _ _ h=>h) (AX ⟨Af,?hy1_1⟩) ?_;case hy1_1=>(intro w;go_simp;try with_reducible rfl)
  try simp only[AL,AO,AP,AQ]
  refine gN (some 16) 6 (?v1_6) rfl rfl Aa Aa Aa (λ_ _ _ h=>h) (AX ⟨Af,?hy1_6⟩) ?_;case hy1_6=>(intro w;go_simp;try with_reducible rfl)
  try simp only[AL,AO,AP,AQ]
  refine iW 2 [(0,10),(2,12),(3,13),(4,14),(5,15),(7,17),(8,18),(9,19),(10,5),(11,6)] 4 (λi=>i==10 || i==11) (tF w0.heap.size a b m ca n cb) Aa Aa it (λi _ v I w2 h hb=>zE _ _ _ _ _ _ _ i v I w2 h hb) ?_ ?_ ?_
  ·intro i _ a1 v I h;simp only[Bool.or_eq_true,beq_iff_eq]at a1;rcases a1 with rfl | rfl<;>(obtain⟨g,rfl,_,hv⟩:=h;exact hv.lt)
  ·intro p hp f I H V K C;have P:=ac.trans (H.mono ac.size);simp only[AY,List.not_mem_nil,or_false]at hp;rcases hp with rfl | rfl | rfl | rfl | rfl | rfl | rfl | rfl | rfl | rfl
   ·refine CQ rfl (λK' F=> ?_)
    replace C:=λv G h1 h2 h3=>F _ _ (C v G h1 h2 h3)
    clear F;simp only[cK,Cd,Ck,AL,AO,AP,AQ]at C⊢;go_simp;exact C _ _ ⟨_,rfl⟩ ((AH _ _).alloc (AI _) _) Ad
   ·refine CQ rfl (λK' F=> ?_)
    replace C:=λv G h1 h2 h3=>F _ _ (C v G h1 h2 h3)
    clear F;simp only[cK,Cd,Ck,AL,AO,AP,AQ]at C⊢;have c1:=(k2.mono H k2.lt).cell;go_simp;exact C _ _ rfl (AH _ _) Ad
   ·simp only[cK,Cd,Ck,AL,AO,AP,AQ]at C⊢;obtain⟨so,e0⟩:=V 0 it it;have e2:=V 2 it it;simp only[tF]at e2;refine iz rfl rfl rfl (.tmp 10) (.tmp 12) rfl w0.heap.size H.size so ?_ a (nl m) ca m ?_ (ra.mono P) no ?_
    ·exact e0
    ·exact e2
    ·intro a' c' w' h1 h2 h3;exact C _ _ ⟨a',c',rfl,h2,h1⟩ h3 Ad
   ·refine CQ rfl (λK' F=> ?_)
    replace C:=λv G h1 h2 h3=>F _ _ (C v G h1 h2 h3)
    clear F;simp only[cK,Cd,Ck,AL,AO,AP,AQ]at C⊢;obtain⟨x,c,e0,hc,aa⟩:=V 3 it it;go_simp;simp only[e0]at C;refine(gY x (nl m) c m _ no hc (aa.rw' (eD m))).mono ?_;rintro e w2 ⟨rfl,Y⟩;exact C _ _ ((aa.mono Y).newN (AI _)) Y Ad
   ·refine CQ rfl (λK' F=> ?_)
    replace C:=λv G h1 h2 h3=>F _ _ (C v G h1 h2 h3)
    clear F;simp only[cK,Cd,Ck,AL,AO,AP,AQ]at C⊢;go_simp;exact C _ _ ⟨_,rfl⟩ ((AH _ _).alloc (AI _) _) Ad
   ·refine CQ rfl (λK' F=> ?_)
    replace C:=λv G h1 h2 h3=>F _ _ (C v G h1 h2 h3)
    clear F;simp only[cK,Cd,Ck,AL,AO,AP,AQ]at C⊢;have c1:=(k3.mono H k3.lt).cell;go_simp;exact C _ _ rfl (AH _ _) Ad
   ·simp only[cK,Cd,Ck,AL,AO,AP,AQ]at C⊢;obtain⟨so,e0⟩:=V 5 it it;have e2:=V 7 it it;simp only[tF]at e2;refine iz rfl rfl rfl (.tmp 15) (.tmp 17) rfl w0.heap.size H.size so ?_ b (nl n) cb n ?_ (rb.mono P) no ?_
    ·exact e0
    ·exact e2
    ·intro a' c' w' h1 h2 h3;exact C _ _ ⟨a',c',rfl,h2,h1⟩ h3 Ad
   ·refine CQ rfl (λK' F=> ?_)
    replace C:=λv G h1 h2 h3=>F _ _ (C v G h1 h2 h3)
    clear F;simp only[cK,Cd,Ck,AL,AO,AP,AQ]at C⊢;obtain⟨x,c,e0,hc,aa⟩:=V 8 it it;go_simp;simp only[e0]at C;refine(gY x (nl n) c n _ no hc (aa.rw' (eD n))).mono ?_;rintro e w2 ⟨rfl,Y⟩;exact C _ _ ((aa.mono Y).newN (AI _)) Y Ad
   ·refine CQ rfl (λK' F=> ?_)
    replace C:=λv G h1 h2 h3=>F _ _ (C v G h1 h2 h3)
    clear F;simp only[cK,Cd,Ck,AL,AO,AP,AQ]at C⊢;go_simp;exact C _ _ ⟨_,rfl,H.size,aW.made _ _ _ _⟩ ((AH _ _).alloc (AI _) _) (λ_=>AI _)
   ·refine CQ rfl (λK' F=> ?_)
    replace C:=λv G h1 h2 h3=>F _ _ (C v G h1 h2 h3)
    clear F;simp only[cK,Cd,Ck,AL,AO,AP,AQ]at C⊢;go_simp;exact C _ _ ⟨_,rfl,H.size,aW.made _ _ _ _⟩ ((AH _ _).alloc (AI _) _) (λ_=>AI _)
  ·intro f I H V am;have P:=ac.trans (H.mono ac.size);obtain⟨U,e5,c3,v5⟩:=V 10 it;obtain⟨g6,e6,c4,v6⟩:=V 11 it;have au:=am 10 it 11 it rfl rfl it;rw[e5,e6]at au;have ak:U≠g6:=au;clear au;have c9:=k4.lt;have bi:=ac.size;have h4:aV w.heap.size I _ _:=aV.weaken (V 4 it) bi;have h9:aV w.heap.size I _ _:=aV.weaken (V 9 it) bi;obtain⟨x,cx,e4,bO,bb⟩:=h4;obtain⟨y,cy,e9,b0,be⟩:=h9;have hx:aV w.heap.size I (.agg #[.slice x (nl m) cx]) m:=⟨x,cx,rfl,bO,bb⟩;have hy:aV w.heap.size I (.agg #[.slice y (nl n) cy]) n:=⟨y,cy,rfl,b0,be⟩;have kr:=k4.mono H k4.lt;have b2:w.heap.size+1+1≠U:=no
   have b8:w.heap.size+1+1≠g6:=no
   have hT:=abH P kr v5 v6 no b2 b8 ak no no hx hy;have c5:=v5.cell;have f5:=v5.frozen;have bp:=v6.setOther ⟨U,0,none⟩ (.slice x (nl m) cx) ak;have c6:=bp.cell;have f6:=bp.frozen;clear V am bb be;simp only[cK,Cd,Ck,AL,AO,AP,AQ,e4,e9,e5,e6];refine BX (rs:=[12]) Aa Ad ?_;refine BI rfl (λK C=> ?_) BV;go_simp;refine C _ _ ?_;clear C K;refine BX (rs:=[13]) Aa Ad ?_;refine BI rfl (λK C=> ?_) BV;go_simp;refine C _ _ ?_;clear C K;refine CK Aa ?_ _;go_wp2_with fail
   go_meet;case rel=>exact⟨U,g6,rfl,rfl,hT⟩
 case rest=>
  obtain⟨U,g6,rfl,rfl,hT⟩:=hcut;clear ra rb;go_wp2_with fail
  go_loopw [] (λwr=>∃x y:Nat,AR x y=AR m n/\nl x<=1000000000000/\nl y<=1000000000000/\Two w wr (w.heap.size+1+1) U g6 x y)
   (λwr=>valAt wr g6)
  case atStart=>exact⟨m,n,rfl,hm,hn,hT⟩
  case round=>
   obtain⟨x,y,ad,hx,hy,hs⟩:=hrel;obtain⟨ax,cx,vx,nx⟩:=hs.var1;obtain⟨ay,cy,vy,ny⟩:=hs.var2;have c5:=vx.cell;have c6:=vy.cell;have cr:=hs.res.cell;have fr:=hs.res.frozen;by_cases hy0:y=0
   ·subst hy0;rw[bK]at c6;rw[Nat.gcd_zero_right]at ad;have bq:=AE ad;clear ad;have a3:aV w.heap.size (wr.setCell ⟨w.heap.size+1+1,0,none⟩ (.slice ax (nl x) cx)) (.agg #[.slice ax (nl x) cx]) (AR m n):=by rw[<-bq.out];exact nx.setVar hs.res
    have ap:=(hs.res.set (a':=ax) (L':=nl x) (c':=cx)).cell;have a2:=hs.below.setCell (p:=⟨w.heap.size+1+1,0,none⟩) hs.rbase (.slice ax (nl x) cx);go_wp2;exact Ba (e8 rfl _ _ (w.heap.size+1+1) _ rfl ap) rfl ⟨_,rfl,a3,a2⟩
   ·have c7:=dY hy0;go_wp2_with fail
    refine(iD _ _ x y _ nx.isN ny.isN hx hy hy0).mono ?_;rintro e I ⟨vq,vr,rfl,⟨aq,cq,rfl,cz,b9⟩,⟨ar,J,rfl,bz,a9⟩,H⟩;have f5:=vx.frozen;have f6:=vy.frozen;go_upto_region 4 with(fail)
    have Z:mBw wr ((I.alloc (.cells #[.slice aq (nl (x / y)) cq] 31)).alloc (.cells #[.slice ar (nl (x % y)) J] 31)).drew:=
     aN (H.trans (((AH I.heap.size I).alloc (AI _) _).alloc Ad _ |>.mono H.size)) 1
    have bt:mBw I ((I.alloc (.cells #[.slice aq (nl (x / y)) cq] 31)).alloc (.cells #[.slice ar (nl (x % y)) J] 31)).drew:=
     aN (((AH I.heap.size I).alloc (AI _) _).alloc Ad _) 1
    have v8:aW ((I.alloc (.cells #[.slice aq (nl (x / y)) cq] 31)).alloc (.cells #[.slice ar (nl (x % y)) J] 31)).drew (I.heap.size+1) ar (nl (x % y)) J:=by
     have h:=aW.made (I.alloc (.cells #[.slice aq (nl (x / y)) cq] 31)) ar (nl (x % y)) J;rw[Ct]at h;exact h
    refine Ds Aa ?_
    change wpAny _ _ _ _ _ _ _ (CA _)
    generalize CA _=w3 at *;have nr:aV w.heap.size w3 (.agg #[.slice ar (nl (x % y)) J]) (x % y):=aV.mono (aV.weaken (base:=wr.heap.size) ⟨ar,J,rfl,bz,a9⟩ hs.below.size) bt;have cd:=ny.mono Z;have av:=vx.mono Z vx.lt;have a0:=vy.mono Z vy.lt;have cc:=hs.res.mono Z hs.res.lt;have ao:=abH (hs.below.trans (Z.mono hs.below.size)) cc av a0 hs.rbase hs.ne1 hs.ne2 hs.ne hs.base1 hs.base2 cd nr;have b1:I.heap.size+1≠U:=by have:=vx.lt;have:=H.size;omega
    have cl:=v8.setOther ⟨U,0,none⟩ (.slice ay (nl y) cy) (λe=>b1 e.symm);have an:=a0.setOther ⟨U,0,none⟩ (.slice ay (nl y) cy) hs.ne;have a6:=hs.var2.valAt;have a7:=ao.var2.valAt;have ab:=Bt x (Dy hy0);have a4:AR y (x % y)=AR m n:=by rw[<-ad,Nat.gcd_comm x y,Nat.gcd_rec y x,Nat.gcd_comm]
    have a5:nl (x % y)<=1000000000000:=AG (dZ (Nat.le_of_lt ab)) hy;clear c5 c6 cr fr f5 f6 b9 a9;have c6:=a0.cell;have c8:=v8.cell;have f5:=av.frozen;have c5:=av.cell;have cm:=an.cell;have cp:=an.frozen;have cn:=cl.cell;refine eI (some 31) 0 2 (?v4_0_1) rfl rfl it rfl rfl Aa Aa (λ_ _ _ h=>h) ⟨Af,?hy4_0_1⟩ ?_;case hy4_0_1=>(go_simp;try with_reducible rfl)
    try simp only[AL,AO,AP,AQ]
    refine BX (rs:=[1,2]) Aa Ad ?_;refine BI rfl (λK C=> ?_) ?_
    ·go_simp
     refine C _ _ ?_;clear C K;try simp only[AL,AO,AP,AQ]
     refine BX (rs:=[2]) Aa Ad ?_;refine BI rfl (λK C=> ?_) BV;go_simp;refine C _ _ ?_;clear C K;try simp only[AL,AO,AP,AQ]
     refine BX (rs:=[3]) Aa Ad ?_;refine BI rfl (λK C=> ?_) BV;go_simp;refine C _ _ ?_;clear C K;try simp only[AL,AO,AP,AQ]
     refine CK Aa ?_ _;go_wp2_with fail
     go_roundw
     case rel=>exact⟨y,x % y,a4,hy,a5,ao⟩
     case measure=>rw[a6,a7];exact ab
    refine BI rfl (λK C=> ?_) ?_
    ·go_simp
     refine C _ _ ?_;clear C K;try simp only[AL,AO,AP,AQ]
     refine BX (rs:=[1]) Aa Ad ?_;refine BI rfl (λK C=> ?_) BV;go_simp;refine C _ _ ?_;clear C K;try simp only[AL,AO,AP,AQ]
     refine BX (rs:=[3]) Aa Ad ?_;refine BI rfl (λK C=> ?_) BV;go_simp;refine C _ _ ?_;clear C K;try simp only[AL,AO,AP,AQ]
     refine CK Aa ?_ _;go_wp2_with fail
     go_roundw
     case rel=>exact⟨y,x % y,a4,hy,a5,ao⟩
     case measure=>rw[a6,a7];exact ab
    exact BV
def bH(W:World)(v:Value)(e:By)(w':World):Prop:=e= .returned v/\mBw W w'
theorem below2(w:World)(o p:Obj):mBw w ((w.alloc o).alloc p):=((AH _ _).alloc (AI _) o).alloc Ad p
theorem zF(w:World)(a b:Option A0)(L C M F:Nat):
  mBw w ((w.alloc (.cells #[.slice a L C] 31)).alloc (.cells #[.slice b M F] 31))/\
  aW ((w.alloc (.cells #[.slice a L C] 31)).alloc (.cells #[.slice b M F] 31)) w.heap.size a L C/\
  aW ((w.alloc (.cells #[.slice a L C] 31)).alloc (.cells #[.slice b M F] 31)) (w.heap.size+1) b M F:=by
 refine⟨below2 w _ _,(aW.made w a L C).mono ((AH _ _).alloc (AI _) _) Ad,?_⟩;have h:=aW.made (w.alloc (.cells #[.slice a L C] 31)) b M F;rw[Ct]at h;exact h
theorem zG(va vb:Value)(m n:Nat)(w:World)(ha:IsN w va m)(hb:IsN w vb n)(hm:nl m<=1000000000000)(hn:nl n<=1000000000000):
  AF AD 180 #[va,vb] w λe w'=>bH w (.bool (decide (m=n))) e w':=by
 obtain⟨a,J,rfl,ab,ra⟩:=ha;obtain⟨b,K,rfl,P,rb⟩:=hb;have hw:=below2 w (.cells #[.slice a (nl m) J] 31) (.cells #[.slice b (nl n) K] 31);by_cases hL:nl m=nl n
 ·have F:=λh=>D_ext (M:=m) (N:=n) hL h
  have HL:=AE hL;rw[<-hL]at rb P;have HX:=AE F;clear F;have V:(((nl m:Nat):Int) !=((nl m:Nat):Int))=false:=Ad
  rw[<-hL];clear hL;obtain⟨H,k2,k3⟩:=zF w a b (nl m) J (nl m) K;go_enter Tryz.func180,Tryz.ntmps180
  go_upto_region 1 with(fail)
  go_cut [12] (λaa wx=>aa= .bool false/\mBw w wx/\aW wx w.heap.size a (nl m) J/\aW wx (w.heap.size+1) b (nl m) K)
  case first=>
   go_wp2_with fail
   go_meet;case rel=>exact⟨rfl,H,k2,k3⟩
  case rest=>
  obtain⟨rfl,C,v2,v3⟩:=hcut;clear H k2 k3 hw;have Y:=ra.mono C;have Z:=rb.mono C;have c2:=v2.cell;have c3:=v3.cell;go_wp2;go_loopw [5] (λi wr=>∃k:Nat,k<=nl m/\i= .int .i64 (k:Int)/\Hid (∀j,j<k->D m j=D n j)/\∃q,wr=wc.drewN q) (λi _=>nl m - (intOf i).toNat)
  case atStart=>exact⟨0,A3 _,rfl,AE (λj h=>no),0,rfl⟩
  case round=>
   obtain⟨k,hk,rfl,HR,q,rfl⟩:=hrel;by_cases hlt:k<nl m
   ·obtain⟨b1,o1,rfl,h1⟩:=Y.cells no;obtain⟨b2,o2,rfl,h2⟩:=Z.cells no;have d1:=h1 k hlt;have d2:=h2 k hlt;by_cases hd:D m k=D n k
    ·have U:(((D m k:Nat):Int) !=((D n k:Nat):Int))=false:=by rw[hd];simp
     have I:Hid (∀j,j<k+1->D m j=D n j):=AE (λj hj=>by
      rcases Bg j k with h | h
      ·exact HR.out j h
      ·rw[show j=k by omega];exact hd)
     clear hd;go_wp2;go_quiet (fail)
     go_wp2;go_roundw
     case rel=>exact⟨k+1,no,by go_num,I,_,rfl⟩
     case measure=>simp[intOf];omega
    ·have U:(((D m k:Nat):Int) !=((D n k:Nat):Int))=true:=by rw[bne_iff_ne];omega
     have G:m≠n:=λh=>hd (by rw[h])
     clear hd;go_wp2;go_quiet (fail)
     go_wp2;go_ret;exact⟨by simp[G],aN (aN C _) _⟩
   ·obtain rfl:k=nl m:=no
    go_wp2;go_ret;exact⟨by have h:=HX.out (λj hj=>HR.out j (by rw[HL.out];exact hj));simp[h],aN C _⟩
 ·have V:(((nl m:Nat):Int) !=((nl n:Nat):Int))=true:=by rw[bne_iff_ne];omega
  have G:m≠n:=λh=>hL (by rw[h])
  go_enter Tryz.func180,Tryz.ntmps180
  go_wp2;go_ret;exact⟨by simp[G],hw⟩
theorem xf(va:Value)(L m:Nat)(w:World)(ha:IsR w va L m)(hL:L<=9223372036854775807):
  AF AD 286 #[va] w λe w'=>bH w (.bool (decide (nl m=L))) e w':=by
 obtain⟨a,J,rfl,V,K⟩:=ha;have F:mBw w (w.alloc (.cells #[.slice a L J] 31)):=(AH _ _).alloc (AI _) _;have v1:=aW.made w a L J;have I:=K.mono F;have Y:nl m<=L:=aI.2 K.lt;go_enter Tryz.func286,Tryz.ntmps286
 by_cases h0:L=0
 ·subst h0;have:nl m=0:=no
  go_wp2;go_ret;exact⟨by simp[this],F⟩
 ·obtain⟨b1,o1,rfl,h1⟩:=I.cells no;have d1:=h1 (L - 1) no;have e1:((L:Int) - 1)=((L - 1:Nat):Int):=no
  have hb:((L:Int)==0)=false:=by rw[beq_eq_false_iff_ne];omega
  have Z:=cg m (L - 1);have c1:=v1.cell;by_cases hz:D m (L - 1)=0
  ·have C:nl m≠L:=λh=>by
    have G:m≠0:=λU=>by rw[U,bK]at h;omega
    exact abB G (by rw[h];exact hz)
   have H:(((D m (L - 1):Nat):Int) !=0)=false:=by rw[hz];rfl
   clear hz;go_wp2;go_ret;exact⟨by simp[C],F⟩
  ·have C:nl m=L:=by
    rcases Bg (L - 1) (nl m)with h | h
    ·omega
    ·exact absurd (iU h) hz
   have H:(((D m (L - 1):Nat):Int) !=0)=true:=by rw[bne_iff_ne];omega
   clear hz;have P:=AE C;clear C;go_wp2;go_ret;exact⟨by simp[P.out],F⟩
def zH(N L:Nat):List Value:=(List.range L).map λj=>AN .u32 ((D N j:Nat):Int)
def GR(w:World)(base:Nat)(v:Value)(L N:Nat):Prop:=N<4294967296^L/\w.ownsRow base 237 1 v L (zH N L)
theorem GR.nil(w:World)(base:Nat):GR w base (.slice none 0 0) 0 0:=⟨it,World.ownsRow_nil _ _ _ _⟩
variable{base:Nat}{v:Value}
theorem GR.open(h:GR w base v L N):
  ∃a c,v= .slice a L c/\L<=c/\Rw w a L N/\(0<L->∃g,a=some ⟨g,0,none⟩/\base<=g/\g<w.heap.size/\∀p,w.frozen? ⟨g,p,none⟩=false):=by
 rcases h.2.2 with⟨rfl,h0⟩ | ⟨g,c,cur,rfl,hb,G,H,I,J,C⟩
 ·exact⟨none,0,by rw[h0],no,⟨h.1,λF=>no⟩,λF=>no⟩
 ·refine⟨some ⟨g,0,none⟩,c,rfl,H,⟨h.1,λF=>⟨g,0,rfl,λj K=> ?_⟩⟩,λF=>⟨g,rfl,hb,(A2.1 G).1,λp=>frozen_of_row w g p cur _ G⟩⟩;rw[A7,cell_of_row w g j cur _ (0,0) G];have h1:(cur.toList.take (L*1))[j]? =some (.int .u32 ((D N j:Nat):Int)):=by rw[C];simp[zH,K]
  rw[List.getElem?_take]at h1;split at h1
  ·simpa using h1
  ·cases h1
theorem ac0(N L e:Nat)(C:N<4294967296^L)(F:e<4294967296):zH N L++ [.int .u32 (e:Int)]=zH (N+e*4294967296^L) (L+1):=by
 unfold zH;rw[List.range_succ,List.map_append]
 congr 1
 ·apply List.map_congr_left;intro j G;have H:j<L:=by simpa using G
  have:D (N+e*4294967296^L) j=D N j:=by
   unfold D;obtain⟨d,rfl⟩:∃d,L=j+1+d:=⟨L - (j+1),no⟩;rw[BD,BO,show e*(4294967296^j*4294967296*4294967296^d)=4294967296^j*(4294967296*(e*4294967296^d))by grind,Nat.add_mul_div_left _ _ (cH j),Nat.add_mul_mod_self_left]
  rw[this]
 ·have:D (N+e*4294967296^L) L=e:=by
   unfold D;rw[BY,Nat.add_mul_div_left _ _ (cH L),Cz C,A7,Co F]
  simp[this]
variable{e:Nat}
theorem GR.of_own(C:N<4294967296^L)(F:e<4294967296)(h:w.ownsRow base 237 1 v (L+1) (zH N L++ [.int .u32 (e:Int)])):GR w base v (L+1) (N+e*4294967296^L):=by
 refine⟨?_,by rw[<-ac0 N L e C F];exact h⟩;rw[BO];have h1:(e+1)*4294967296^L<=4294967296*4294967296^L:=Nat.mul_le_mul_right _ F;rw[Nat.add_mul,Nat.one_mul]at h1;rw[BY (4294967296^L)];have:=C;omega
theorem GR.keep(h:GR w base v L N)(C:w.grownBy w' none):GR w' base v L N:=⟨h.1,h.2.kept C (by cases F:v.ownBlock<;>simp)⟩
variable{ops:Array Oper}{a:Act}{Q:A8->Act->World->Prop}
theorem cE{w0:World}{rest:List Oper}{o:Oper} 
  (hg:o.guard=none)(s x:AS)(K:o.op=Op.call {callee:=Callee.builtin Builtin.append,args:=#[s,x],argTypes:=#[29,29]})
  (base:Nat)(v:Value)(L N e:Nat)(hs:a.eval s=v)(J:GR w0 base v L N)(C:base<=w0.heap.size)(hx:a.eval x= .slice (some ⟨w0.heap.size,0,none⟩) 1 1)(he:e<4294967296)(hL:L+1<=30000000000000)
  (Z:∀v' w',GR w' base v' (L+1) (N+e*4294967296^L)->AW base w0 w'->base<=w'.heap.size->wpList AD ops Q rest (a.put o.dst v') w'):
  wpList AD ops Q (o::rest) a (w0.alloc (.cells #[.int .u32 (e:Int)] 237)):=by
 obtain⟨i,hi,P,U,V⟩:=info_parts qx;have G:=J.keep (World.grownBy_alloc w0 (.cells #[.int .u32 (e:Int)] 237) none);have F:AW base w0 (w0.alloc (.cells #[.int .u32 (e:Int)] 237)):=(AH _ _).alloc C _;refine wpList_append_own _ hg s x 29 K base 237 i (.int .u32 0) 1 4 Tryz.underlying29 hi P U V rfl it v L (zH N L) hs G.2
  ⟨w0.heap.size,0,none⟩ 1 1 [.int .u32 (e:Int)] hx rfl ?_ ?_ (by simp only[maxLen];omega) no (AG C F.size) ?_
 ·intro j u H
  match j,H with
  | 0,H=>simp at H;subst H;simp[Addr.add]
  | (j+1),H=>simp at H
 ·intro u Y;simp at Y;subst Y;rfl
 ·intro v' w' ho I _;exact Z v' w' (GR.of_own J.1 he ho) (F.grown I (AG C F.size) (λk hk=>(G.2.lt k hk).1)) (AG C (AG F.size I.size))
theorem tg{s:ByteArray}(h:s.size≠0):s.toList.isEmpty=false:=by
 rw[ByteArray.toList_eq]
 cases hs:s.data.toList with
 | nil=>
  exfalso;apply h;have:=congrArg List.length hs;rw[Array.length_toList]at this;exact this
 | cons _ _=>rfl
structure Sp where
 p:World->Value->Prop
 st:∀w w' v,p w v->mBw w w'->p w' v
def Sp.val(u:Value):Sp:=⟨λ_ v=>v=u,λ_ _ _ h _=>h⟩
def Sp.nat(N:Nat):Sp:=⟨λw v=>IsN w v N,λ_ _ _ h hb=>IsN.mono h hb⟩
def Sp.new(base N:Nat):Sp:=⟨λw v=>aV base w v N,λ_ _ _ h hb=>aV.mono h hb⟩
def Has(a:Act)(w:World)(t:Tmp)(s:Sp):Prop:=∃v,a.tmps[t]? =some v/\s.p w v
def Is(a:Act)(w:World)(x:AS)(s:Sp):Prop:=s.p w (a.eval x)
variable{t:Tmp}{s:Sp}
theorem Has.is(h:Has a w t s):Is a w (.tmp t) s:=by
 obtain⟨v,h1,h2⟩:=h;unfold Is Act.eval;simp only[Array.getD_eq_getD_getElem?,h1,Option.getD_some];exact h2
theorem Is.const:Is a w (.const v) (.val v):=rfl
section
variable {P:AZ} {ops:Array Oper} {Q:A8->Act->World->Prop} {md:Region.Mode}
def Arm(P:AZ)(Q:A8->Act->World->Prop)(o:Oper)(a:Act)(w:World)(s:Sp):Prop:=
 ∀K:Act->World->Prop,(∀v w',s.p w' v->mBw w w'->K (a.put o.dst v) w')->Bk P o a w K Q
def aG(D:List (Nat×Tmp×Sp)):List (Nat×Tmp):=D.map λx=>(x.1,x.2.1)
variable{D:List (Nat×Tmp)}
theorem kg{f:Nat->Value}(t:Tmp)(h:t∉D.map (·.2)):(cK D f a).tmps[t]? =a.tmps[t]? :=by
 induction D generalizing a with
 | nil=>rfl
 | cons p D ih=>
  rw[Bq,AY]at h;have h1:p.2≠t:=λe=>h (.inl e.symm)
  show(cK D f (a.put (some p.2) (f p.1))).tmps[t]? =_;rw[ih (λe=>h (.inr e))];simp[AL,Array.getElem?_setIfInBounds,h1]
theorem uW{f:Nat->Value}(hn:(D.map (·.2)).Nodup){i:Nat}(F:(i,t)∈D)(ht:t<a.tmps.size):(cK D f a).tmps[t]? =some (f i):=by
 induction D generalizing a with
 | nil=>cases F
 | cons p D ih=>
  rw[Bq,Bz]at hn;show(cK D f (a.put (some p.2) (f p.1))).tmps[t]? =_;rcases AY.1 F with rfl | C
  ·rw[kg t hn.1];simp[AL,ht]
  ·exact ih hn.2 C (by simpa [AL]using ht)
variable{D:List (Nat×Tmp×Sp)}
theorem bW{i:Nat}(h:(i,t,s)∈D):(i,t)∈aG D:=Be.2 ⟨_,h,rfl⟩
theorem keyed(hp:(D.map (·.1)).Nodup):∀y∈D,∀z∈D,y.1=z.1->y=z:=by
 induction D with
 | nil=>intro y hy;cases hy
 | cons d D ih=>
  rw[Bq,Bz]at hp;intro y hy z hz C;rcases AY.1 hy with rfl | F<;>rcases AY.1 hz with rfl | G
  ·rfl
  ·exact absurd (Be.2 ⟨z,G,C.symm⟩) hp.1
  ·exact absurd (Be.2 ⟨y,F,C⟩) hp.1
  ·exact ih hp.2 y F z G C
def pL(md:Region.Mode)(ops:Array Oper)(E:List (Nat×Tmp))(n:Nat)(l:Array Bool)(size:Nat):Bool:=
 qy md ops n (E.map (·.1)) l && E.all (λp=>bY ops p.1==some p.2) && decide ((E.map (·.2)).Nodup) && decide ((E.map (·.1)).Nodup) && E.all (λp=>decide (p.2<size))
theorem qP(C:Nat)(D:List (Nat×Tmp×Sp))(n:Nat){l:Array Bool}(sz:Nat)(an:a.tmps.size=sz)
  (G:pL md ops (aG D) n l sz=true)
  (I:∀x∈D,∀(a':Act)(w':World),mBw w w'->(∀t,t∉(aG D).map (·.2)->a'.tmps[t]? =a.tmps[t]?)->(∀i t s,(i,t,s)∈D->i∈bZ md ops x.1->Has a' w' t s)->
   ∃o,ops[x.1]? =some o/\A6 o (yielded ops a'.tmps)=true/\Arm P Q o a' w' x.2.2)
  (H:∀(f:Nat->Value) w',mBw w w'->(∀i t s,(i,t,s)∈D->s.p w' (f i))->wpAny P md ops Q C (aX ((aG D).map (·.1)) l) (cK (aG D) f a) w'):
  wpAny P md ops Q (C+D.length) l a w:=by
 unfold pL at G;simp only[BU,decide_eq_true_eq]at G;obtain⟨⟨⟨⟨ak,U⟩,Y⟩,ad⟩,ac⟩:=G;have ht:∀p∈aG D,p.2<a.tmps.size:=λp hp=>by rw[an];simpa using Cc.1 ac p hp
 have V:D.length=(aG D).length:=by simp[aG]
 rw[V];refine iW C (aG D) n (λ_=>false) (λi v w'=>∀t s,(i,t,s)∈D->s.p w' v) ak U Y (λi _ v w1 w2 h hb t s F=>s.st _ _ _ (h t s F) hb) (λi _ h=>by cases h) ?_ ?_
 ·intro p hp f w' hb Z K hK;obtain⟨x,hx,rfl⟩:=Be.1 hp;obtain⟨o,ho,hw,J⟩:=I x hx (cK (aG D) f a) w' hb (λt h=>kg t h) (λi t s F am=>
   ⟨f i,uW Y (bW F) (ht _ (bW F)),Z i (Be.2 ⟨_,bW F,rfl⟩) am t s F⟩)
  unfold wpOp;rw[ho];show if A6 o (yielded ops (cK (aG D) f a).tmps)=true then _ else _
  rw[if_pos hw];refine .inl (J K (λv ao hv aa=> ?_));have hd:=Cc.1 U _ hp;rw[beq_iff_eq]at hd;have ab:o.dst=some x.2.1:=by
   have:bY ops x.1=o.dst:=by unfold bY;rw[ho]
   rw[<-this];exact hd
  rw[ab];refine hK v ao (λt s F=> ?_) aa (λh=>by cases h);have e:(x.1,x.2.1,x.2.2)∈D:=hx;have key:=keyed (D:=D) (by simpa [aG,FI]using ad);have e2:=key _ F _ e rfl;simp only[Prod.mk.injEq,true_and]at e2;rw[e2.2];exact hv
 ·intro f w' hb Z _;exact H f w' hb (λi t s F=>Z i (Be.2 ⟨_,bW F,rfl⟩) t s F)
def fb(r:Nat):Code->Option (Array Oper)
 | .region i ops _=>if i=r then some ops else none
 | .seq a b=>match fb r a with | some x=>some x | none=>fb r b
 | .cond _ a b=>match fb r a with | some x=>some x | none=>fb r b
 | .block _ b=>fb r b
 | .loop b=>fb r b
 | .scope b=>fb r b
 | .rangeFunc _ _ a b=>match fb r a with | some x=>some x | none=>fb r b
 | _=>none
def dm(f:Func)(r:Nat):Array Oper:=match f.body with | some c=>(fb r c).getD #[] | none=> #[]
def jp{α:Type}(p:α->Prop):List α->Prop
 | []=>True
 | x::l=>p x/\jp p l
theorem jp.mem{α:Type}{p:α->Prop}{l:List α}(h:jp p l):∀x∈l,p x:=by
 induction l with
 | nil=>intro x C;cases C
 | cons y l ih=>
  intro x C;rcases AY.1 C with rfl | C
  ·exact h.1
  ·exact ih h.2 x C
structure Found(md:Region.Mode)(ops:Array Oper)(D:List (Nat×Tmp×Sp))(j:Nat)(w:World)(a a':Act)(w':World):Prop where
 below:mBw w w'
 out:∀t,((aG D).map (·.2)).contains t=false->a'.tmps[t]? =a.tmps[t]?
 at':∀(i:Nat)(t:Tmp)(s:Sp),D[i]? =some (i,t,s)->(bZ md ops j).contains i=true->Has a' w' t s
theorem Found.keep{j:Nat}{a':Act}(h:Found md ops D j w a a' w')(t:Tmp)(v:Value)(ht:((aG D).map (·.2)).contains t=false)(C:a.tmps[t]? =some v):Has a' w' t (.val v):=
 ⟨v,(h.out t ht).trans C,rfl⟩
theorem gO(f:Func)(r:Nat)(D:List (Nat×Tmp×Sp)){id:Nat}{H:Array Oper}(Z:dm f r=H)(hm:P.follows .mixedOrders=true)
  (Y:(dm f r).size=D.length)(ab:pL .any (dm f r) (aG D) 0 (Cv D.length false) a.tmps.size=true)
  (I:BK .any (dm f r) (aX ((aG D).map (·.1)) (Cv D.length false))=[])
  (U:jp (λx=>∀(a':Act)(w':World),Found .any (dm f r) D x.1 w a a' w'->∃o,(dm f r)[x.1]? =some o/\A6 o (yielded (dm f r) a'.tmps)=true/\Arm P Q o a' w' x.2.2) D)
  (K:∀(g:Nat->Value) w',mBw w w'->(∀(i:Nat)(t:Tmp)(s:Sp),D[i]? =some (i,t,s)->s.p w' (g i))->Q .normal (cK (aG D) g a) w'):(Dj id H true).wp P Q a w:=by
 subst Z;refine Ds hm ?_;have C:mBw w w.drew:=aN (AH _ _) 1
 change wpAny P .any _ Q _ _ _ w.drew
 rw[Y];have V:∀t,((aG D).map (·.2)).contains t=false->t∉(aG D).map (·.2):=λt h hm=>by
  rw[CN.2 hm]at h;cases h
 have F:∀(i:Nat)(t:Tmp)(s:Sp),D[i]? =some (i,t,s)->(i,t,s)∈D:=λi t s h=>A5 h
 have G:=qP 0 (P:=P) (Q:=Q) D 0 (l:=Cv D.length false) (a:=a) (w:=w.drew) a.tmps.size rfl ab
  (λx hx a' w' hb aa J=>U.mem x hx a' w' ⟨C.trans (hb.mono C.size),λt h=>aa t (V t h),λi t s h1 h2=>J i t s (F i t s h1) (CN.1 h2)⟩)
  (λg w' hb J=>CK I (K g w' (C.trans (hb.mono C.size)) (λi t s h=>J i t s (F i t s h))) 0)
 rw[A7]at G;exact G
variable{o:Oper}
theorem ah{y:Nat->Option Bool}(h:o.guard=none):A6 o y=true:=by unfold A6;rw[h]
theorem uY(v:Value)(hr:(execOp a.eval o).run P w= .ok (.value v) w)(F:s.p w v):Arm P Q o a w s:=by
 intro K C;unfold Bk;rw[hr];exact C v w F (AH _ _)
theorem bj{x:AS}(C:o.op= .move x\/o.op= .assign x)(F:Is a w x s):Arm P Q o a w s:=by
 refine uY (a.eval x) ?_ F;rcases C with C | C<;>(unfold execOp;rw[C];rfl)
theorem lV{f:FuncId}{xs:Array AS}{J:Array TypeId}{R:By->World->Prop}(H:o.op= .call {callee:=.value (.func f),args:=xs,argTypes:=J})
  (C:∀(vs:Array Value) w,(callFunc f vs).run P w= .ok (.enter f vs) w)(hc:AF P f (xs.map a.eval) w R)(G:∀e w',R e w'->∃v,e= .returned v/\s.p w' v/\mBw w w'):Arm P Q o a w s:=by
 intro K F;unfold Bk;have:(execOp a.eval o).run P w= .ok (.enter f (xs.map a.eval)) w:=by
  simp[execOp,H,resolve,invoke,Deferred.ofValue,Act.eval,C,AU]
 rw[this,Oper.upon_enter];refine hc.mono ?_;intro e w' I;obtain⟨v,rfl,h1,h2⟩:=G e w' I;exact F v w' h1 h2
end
section
variable {md:Region.Mode} {ops:Array Oper} {D:List (Nat×Tmp×Sp)} {w w':World} {a a':Act} {j:Nat}
theorem Found.f(F:Found md ops D j w a a' w')(i:Nat)(h:D[i]? =some (i,t,s))(h2:(bZ md ops j).contains i=true:=by kernel_rfl):Is a' w' (.tmp t) s:=(F.at' i t s h h2).is
end
theorem af{f:FuncId}{fn:Func}(hf:AD.funcs[f]? =some fn)(C:(fn.name== "runtime.NumGoroutine")=false)(hb:fn.body.isNone=false)(args:Array Value)(w:World):
  (callFunc f args).run AD w= .ok (.enter f args) w:=by
 have h1:fn.name≠ "runtime.NumGoroutine" :=by simpa using C
 simp[callFunc,hf,h1];intro h;simp[h]at hb
theorem ofNew{e:By}(h:cY w N e w'):∃v,e= .returned v/\(Sp.nat N).p w' v/\mBw w w':=by
 obtain⟨v,rfl,hn,hb⟩:=h;exact⟨v,rfl,hn.isN,hb⟩
variable{u:Value}
theorem ofV{e:By}(h:bH w u e w'):∃v,e= .returned v/\(Sp.val u).p w' v/\mBw w w':=⟨u,h.1,rfl,h.2⟩
def dS(w:World)(g N:Nat):Prop:=∃a c,aW w g a (nl N) c/\IsN w (.agg #[.slice a (nl N) c]) N
theorem dS.mono(h:dS w g N)(hb:mBw w w'):dS w' g N:=by
 obtain⟨a,c,h1,h2⟩:=h;exact⟨a,c,h1.mono hb h1.lt,h2.mono hb⟩
section
variable {ops:Array Oper} {Q:A8->Act->World->Prop} {o:Oper} {a:Act} {w:World} {x y:AS} {m n:Nat} {tt:Array TypeId}
theorem run_load(w:World)(g L c:Nat)(s:Option A0)(h:aW w g s L c):(Instr.loadAt 31 (.pointer (some ⟨g,0,none⟩))).run AD w= .ok (.agg #[.slice s L c]) w:=by
 have c1:=h.cell;go_simp
theorem bA(F:o.op= .load 31 x)(G:Is a w x (.val (.pointer (some ⟨g,0,none⟩))))(h:dS w g n):Arm AD Q o a w (.nat n):=by
 obtain⟨s,c,h1,h2⟩:=h;have C:a.eval x= .pointer (some ⟨g,0,none⟩):=G;refine uY (.agg #[.slice s (nl n) c]) ?_ h2;unfold execOp;rw[F];simp only[C,AK,run_load w g (nl n) c s h1,AU,Bu]
theorem abI{f:FuncId}{R:World->By->World->Prop}(G:o.op= .call {callee:=.value (.func f),args:=#[x,y],argTypes:=tt})(C:∀(vs:Array Value) w,(callFunc f vs).run AD w= .ok (.enter f vs) w)
  (H:Is a w x (.nat m))(hy:Is a w y (.nat n))(hc:∀va vb w,IsN w va m->IsN w vb n->AF AD f #[va,vb] w (R w))(F:∀e w',R w e w'->∃v,e= .returned v/\s.p w' v/\mBw w w'):Arm AD Q o a w s:=
 lV G C (R:=R w) (by simpa using hc _ _ w H hy) F
theorem dL{op:BinOp}{t t':TypeId}{r:Value}(H:o.op= .binOp op t x y t')(I:Is a w x (.val u))(hy:Is a w y (.val v))(G:∀w:World,(eqGuard op t x y u v).run AD w= .ok () w)
  (hr:∀w:World,(binOp op t u v).run AD w= .ok r w):Arm AD Q o a w (.val r):=by
 have C:a.eval x=u:=I;have F:a.eval y=v:=hy;refine uY r ?_ rfl;unfold execOp;rw[H];simp only[C,F,AK,G,hr,AU,Bu]
end
theorem nlb(h:N<4294967296^4):nl N<=1000000000000:=AG (aI.2 h) it
def jH(w:World)(g L N:Nat):Prop:=∃a c,aW w g a L c/\IsR w (.agg #[.slice a L c]) L N
theorem jH.mono(h:jH w g L N)(hb:mBw w w'):jH w' g L N:=by
 obtain⟨a,c,h1,h2⟩:=h;exact⟨a,c,h1.mono hb h1.lt,h2.mono hb⟩
variable{a:Option A0}{c:Nat}
theorem jH.made(h:IsR w (.agg #[.slice a L c]) L N):jH (w.alloc (.cells #[.slice a L c] 31)) w.heap.size L N:=
 ⟨a,c,aW.made w a L c,h.mono ((AH _ _).alloc (AI _) _)⟩
theorem iE(w:World)(o:Obj):mBw w (w.alloc o):=(AH _ _).alloc (AI _) o
theorem box1(h:IsR w (.agg #[.slice a L c]) L N):
  mBw w (w.alloc (.cells #[.slice a L c] 31))/\jH (w.alloc (.cells #[.slice a L c] 31)) w.heap.size L N:=⟨iE w _,jH.made h⟩
theorem box2{b:Option A0}{L2 c2 N2:Nat}(h:IsR w (.agg #[.slice a L c]) L N)(h2:IsR w (.agg #[.slice b L2 c2]) L2 N2):
  mBw w ((w.alloc (.cells #[.slice a L c] 31)).alloc (.cells #[.slice b L2 c2] 31))/\
  jH ((w.alloc (.cells #[.slice a L c] 31)).alloc (.cells #[.slice b L2 c2] 31)) w.heap.size L N/\
  jH ((w.alloc (.cells #[.slice a L c] 31)).alloc (.cells #[.slice b L2 c2] 31)) (w.heap.size+1) L2 N2:=by
 obtain⟨C,k2⟩:=box1 h;obtain⟨k3,F⟩:=box1 (h2.mono C);refine⟨C.trans (k3.mono C.size),k2.mono k3,?_⟩;rw[Ct]at F;exact F
variable{d:Nat}
theorem sm_up(h:N<4294967296^d)(C:d<=e):N<4294967296^e:=Bv h (Fa it C)
theorem sm_add{a b:Nat}(h:a<4294967296^d)(C:b<4294967296^e):a+b<4294967296^(d+e+1):=by
 have h1:=sm_up h (Ee d e);have h2:=sm_up C (Nat.le_add_left e d);rw[BO];omega
theorem sm_mul{a b:Nat}(h:a<4294967296^d)(C:b<4294967296^e):a*b<4294967296^(d+e):=by
 rw[BD];rcases Dh b with rfl | hb
 ·rw[CT];exact Ey (D8 (A3 _) h) C
 ·exact Bv ((Nat.mul_lt_mul_right hb).2 h) (Nat.mul_le_mul_left _ (Nat.le_of_lt C))
section
variable {Q:A8->Act->World->Prop} {o:Oper} {a:Act} {w:World} {tt:Array TypeId}
end
variable{m:Nat}
theorem D_over{i:Nat}(h:m<4294967296^L)(hi:L<=i):D m i=0:=by
 unfold D;rw[Cz (Bv h (Fa it hi))]
theorem abJ(va:Value)(L m i:Nat)(w:World)(ha:IsR w va L m)(Y:L<=60000000000000)(hi:i<=60000000000000):
  AF AD 304 #[va,.int .i64 (i:Int)] w λe w'=>bH w (.int .u64 ((D m i:Nat):Int)) e w':=by
 obtain⟨a,G,rfl,J,H⟩:=ha;have C:=iE w (.cells #[.slice a L G] 31);have v1:=aW.made w a L G;have F:=H.mono C;have c1:=v1.cell;go_enter Tryz.func304,Tryz.ntmps304
 by_cases h:L<=i
 ·have h0:=D_over H.lt h;have I:(L:Int)<=(i:Int):=no
  go_wp2;go_ret;exact⟨by rw[h0];rfl,C⟩
 ·obtain⟨U,o1,rfl,h1⟩:=F.cells no;have V:=h1 i no;have I:¬(L:Int)<=(i:Int):=no
  have K:=cg m i;go_wp2;go_ret;exact⟨rfl,C⟩
theorem GR.newC(h:GR w base (.slice a L c) L N)(hl:nl N=L)(hb:mBw w w'):aV base w' (.agg #[.slice a (nl N) c]) N:=by
 obtain⟨a',U,e,H,G,F⟩:=h.open;cases e;refine⟨a,c,rfl,no,λV=> ?_⟩;obtain⟨g,rfl,J,C,hf⟩:=F no;obtain⟨b,o,e,I⟩:=G.cells no;cases e;exact⟨g,0,rfl,J,λj K=>(hb.cell (p:=⟨g,0+j,none⟩) C).trans (I j no),λj K=>(hb.frozen (p:=⟨g,0+j,none⟩) C).trans (hf _)⟩
theorem lW(N i:Nat):N % 4294967296^i+D N i*4294967296^i=N % 4294967296^(i+1):=by
 rw[Nat.mod_pow_succ];unfold D;rw[BY]
set_option maxHeartbeats 1000000 in
theorem qQ(a:Option A0)(L c N:Nat)(w:World)(Z:Rw w a L N)(hL:L<=20000000000000):
  AF AD 176 #[.slice a L c] w λe w'=>cY w N e w':=by
 have hw:=iE w (.cells #[.slice none 0 0] 31);have v0:=aW.made w none 0 0;have I:=Z.mono hw;have am:nl N<=L:=aI.2 Z.lt;go_enter Tryz.func176,Tryz.ntmps176
 go_upto_region 1 with(fail)
 go_cut [3] (λK wx=>K= .int .i64 (L:Int)/\mBw w wx/\aW wx w.heap.size none 0 0)
 case first=>
  go_wp2_with fail
  go_meet;case rel=>exact⟨rfl,hw,v0⟩
 case rest=>
  obtain⟨rfl,J,v1⟩:=hcut;clear hw v0 I;have I:=Z.mono J;have aq:=v1.lt;go_upto_block 0 with(fail)
  go_cut [3] (λK wx=>K= .int .i64 ((nl N:Nat):Int)/\wx=wc)
  case first=>
   go_wp2_with fail
   go_loopw [3] (λK wr=>∃n:Nat,K= .int .i64 (n:Int)/\n<=L/\nl N<=n/\wr=wc) (λK _=>(intOf K).toNat)
   case atStart=>exact⟨L,rfl,AI _,am,rfl⟩
   case round=>
    obtain⟨n,rfl,hn,ax,rfl⟩:=hrel;by_cases hz:0<n/\D N (n - 1)=0
    ·obtain⟨av,G⟩:=hz;obtain⟨b1,o1,rfl,h1⟩:=I.cells no;have d1:=h1 (n - 1) no;rw[G]at d1;have e1:((n:Int) - 1)=((n - 1:Nat):Int):=no
     have V:(0:Int)<(n:Int):=no
     have ad:nl N<=n - 1:=jE no G;have HD:=AE G;clear G;go_wp2_with fail
     go_roundw
     case rel=>exact⟨n - 1,by go_num,no,ad,trivial⟩
     case measure=>simp[intOf];omega
    ·have hN:nl N=n:=by
      rcases Bg (nl N) n with h | h
      ·exact absurd ⟨no,iU no⟩ hz
      ·omega
     subst hN;rcases Dh (nl N)with h | h
     ·have h0:¬(0:Int)<((nl N:Nat):Int):=no
      have H:=AE h;clear h hz;go_wp2_with fail
      go_meet;case rel=>exact Ai
     ·have ak:D N (nl N - 1)≠0:=λe=>hz ⟨h,e⟩
      obtain⟨b1,o1,rfl,h1⟩:=I.cells no;have d1:=h1 (nl N - 1) no;have e1:(((nl N:Nat):Int) - 1)=((nl N - 1:Nat):Int):=no
      have V:(0:Int)<((nl N:Nat):Int):=no
      have au:¬((D N (nl N - 1):Nat):Int)=0:=no
      clear hz ak;go_wp2_with fail
      go_meet;case rel=>exact Ai
  case rest=>
   obtain⟨rfl,rfl⟩:=hcut;go_wp2_with fail
   go_loopw [4,5] (λs4 s5 wr=>∃i:Nat,i<=nl N/\s5= .int .i64 (i:Int)/\GR wr (w.heap.size+1) s4 i (N % 4294967296^i)/\AW (w.heap.size+1) wc wr/\w.heap.size+1<=wr.heap.size) (λ_ s5 _=>nl N - (intOf s5).toNat)
   case atStart=>exact⟨0,A3 _,rfl,by rw[DP,CE];exact GR.nil _ _,AH _ _,aq⟩
   case round=>
    obtain⟨i,hi,rfl,C,F,ap⟩:=hrel;by_cases V:i<nl N
    ·have ar:=Z.mono (J.trans (F.mono (DW _)));obtain⟨b1,o1,rfl,h1⟩:=ar.cells no;have d1:=h1 i no;have ac:=cg N i;obtain⟨a',c',rfl,aa,an,Y⟩:=C.open;go_wp2_with (at_builtin;refine cE rfl _ _ rfl (w.heap.size+1) (.slice a' i c') i (N % 4294967296^i) (D N i) rfl C ap rfl ac no ?_)
     intro v' w' U ab ao;rw[lW]at U;go_wp2_with fail
     go_roundw
     case rel=>exact⟨i+1,no,by go_num,U,F.trans ab,ao⟩
     case measure=>simp[intOf];omega
    ·obtain rfl:i=nl N:=no
     rw[Co (eD N)]at C;obtain⟨a',c',rfl,aa,an,Y⟩:=C.open;have vr:=v1.mono F (Nat.lt_succ_self _);have cr:=vr.cell;have fr:=vr.frozen;have hn:=(C.newC rfl (AH _ _)).setVar (u:=.slice a' (nl N) c') vr;go_wp2;exact Ba (e8 rfl _ _ w.heap.size _ rfl vr.set.cell) rfl ⟨_,rfl,hn.weaken (DW _),(J.trans (F.mono (DW _))).setCell (AI _) _⟩
section
variable {Q:A8->Act->World->Prop} {o:Oper} {a:Act} {w:World} {x y:AS} {tt:Array TypeId}
theorem bD{m i:Nat}(F:o.op= .call {callee:=.value (.func 304),args:=#[x,y],argTypes:=tt})(G:Is a w x (.nat m))(hy:Is a w y (.val (.int .i64 (i:Int))))(H:nl m<=1000000000000)(hi:i<=60000000000000):
  Arm AD Q o a w (.val (.int .u64 ((D m i:Nat):Int))):=by
 refine lV F (af Tryz.func304 rfl rfl) (R:=bH w (.int .u64 ((D m i:Nat):Int))) ?_ (λ_ _ h=>ofV h);have C:a.eval y= .int .i64 (i:Int):=hy;simpa [C]using abJ _ (nl m) m i w G no hi
end
variable{n:Nat}
theorem xh{k:Nat}(h:m / 4294967296^(k+1)=n / 4294967296^(k+1))(C:D m k=D n k):m / 4294967296^k=n / 4294967296^k:=by
 rw[cJ m k,cJ n k,h,C]
theorem GR.below(h:GR w base v L N)(hb:mBw w w'):GR w' base v L N:=by
 refine⟨h.1,h.2.1,?_⟩;rcases h.2.2 with⟨h1,h0⟩ | ⟨g,c,cur,rfl,C,F,G⟩
 ·exact .inl ⟨h1,h0⟩
 ·exact .inr ⟨g,c,cur,rfl,C,(hb.block g (A2.1 F).1).trans F,G⟩
theorem jI(x y z:Nat)(hz:x+y=z)(h:z<18446744073709551616)(w:World):(binOp BinOp.add 178 (.int .u64 (x:Int)) (.int .u64 (y:Int))).run AD w= .ok (.int .u64 (z:Int)) w:=by
 subst hz;have e:((x:Int)+(y:Int)) % 18446744073709551616=((x+y:Nat):Int):=no
 go_simp;exact e
theorem xi(x y z:Nat)(hz:x=y+z)(h:x<18446744073709551616)(w:World):(binOp BinOp.sub 178 (.int .u64 (x:Int)) (.int .u64 (y:Int))).run AD w= .ok (.int .u64 (z:Int)) w:=by
 subst hz;have e:(((y+z:Nat):Int) - (y:Int)) % 18446744073709551616=(z:Int):=no
 go_simp;exact e
def kh(ga gb m n k:Nat):List (Nat×Tmp×Sp):=
  [(0,18,.nat (m)),
  (1,19,.val (AN Bf ((k:Nat)))),
  (2,20,.val (AN BE (((D (m) (k):Nat):Int)))),
  (3,21,.nat (n)),
  (4,22,.val (AN Bf ((k:Nat)))),
  (5,23,.val (AN BE (((D (n) (k):Nat):Int)))),
  (6,24,.val (Cu (decide (((D m k:Nat):Int)<((D n k:Nat):Int)))))]
def qz(ga gb m n k:Nat):List (Nat×Tmp×Sp):=
  [(0,25,.nat (m)),
  (1,26,.val (AN Bf ((k:Nat)))),
  (2,27,.val (AN BE (((D (m) (k):Nat):Int)))),
  (3,28,.nat (n)),
  (4,29,.val (AN Bf ((k:Nat)))),
  (5,30,.val (AN BE (((D (n) (k):Nat):Int)))),
  (6,31,.val (Cu (decide (((D m k:Nat):Int)>((D n k:Nat):Int)))))]
theorem Ah{p:Prop}(h:p:=by go_simp):p:=h
set_option maxRecDepth 100000 in
set_option maxHeartbeats 1000000 in
theorem nE(va vb:Value)(m n:Nat)(w:World)(ha:IsN w va m)(hb:IsN w vb n)(hm:nl m<=1000000000000)(hn:nl n<=1000000000000):
  AF AD 290 #[va,vb] w λe w'=>bH w (.int .i64 (cmpI m n)) e w':=by
 obtain⟨a,ca,rfl,ak,ra⟩:=ha;obtain⟨b,cb,rfl,am,rb⟩:=hb;obtain⟨k0,k1,k2⟩:=box2 (L:=nl m) (c:=ca) (N:=m) (L2:=nl n) (c2:=cb) (N2:=n) ⟨a,ca,rfl,ak,ra⟩ ⟨b,cb,rfl,am,rb⟩;obtain⟨M,ac,ad,Y⟩:∃M,nl m<=M/\nl n<=M/\Hid (M=nl m\/M=nl n):=by
  rcases Nat.le_total (nl m) (nl n)with h | h
  ·exact⟨nl n,h,AI _,AE (.inr rfl)⟩
  ·exact⟨nl m,AI _,h,AE (.inl rfl)⟩
 go_enter Tryz.func290,Tryz.ntmps290
 go_upto_region 1 with(fail)
 go_cut [5] (λs5 wx=>s5= .int .i64 ((M:Int) - 1)/\dS wx w.heap.size m/\dS wx (w.heap.size+1) n/\mBw w wx)
 case first=>
  obtain⟨ya,da,qa,ia⟩:=k1;have ea:=qa.cell;obtain⟨yb,db,qb,ib⟩:=k2;have eb:=qb.cell;rcases Bg (nl m) (nl n)with ap | ao
  ·obtain rfl:M=nl n:=by have:=Y.out;omega
   go_wp2_with fail
   go_meet;case rel=>exact⟨rfl,⟨ya,da,qa,ia⟩,⟨yb,db,qb,ib⟩,k0⟩
  ·obtain rfl:M=nl m:=by have:=Y.out;omega
   have an:¬nl m<nl n:=no
   go_wp2_with fail
   go_meet;case rel=>exact⟨rfl,⟨ya,da,qa,ia⟩,⟨yb,db,qb,ib⟩,k0⟩
 case rest=>
  obtain⟨rfl,I,J,H⟩:=hcut;clear k0 k1 k2 ra rb;have hM:M<=1000000000000:=by rcases Y.out with h | h<;>omega
  go_wp2_with fail
  go_loopw [5] (λs5 wr=>∃k:Nat,k<=M/\s5= .int .i64 ((k:Int) - 1)/\Hid (m / 4294967296^k=n / 4294967296^k)/\dS wr w.heap.size m/\dS wr (w.heap.size+1) n/\mBw w wr) (λs5 _=>((intOf s5)+1).toNat)
  case atStart=>exact⟨M,AI _,rfl,AE (by rw[Cz (aI.1 ac),Cz (aI.1 ad)]),I,J,H⟩
  case round=>
   obtain⟨k,hk,rfl,HR,I,J,H⟩:=hrel
   cases k with
   | zero=>
    go_wp2;go_ret;exact⟨by rw[lP (by simpa using HR.out)];rfl,H⟩
   | succ k=>
    have C:k<=60000000000000:=no
    have e:(((k+1:Nat):Int) - 1)=(k:Int):=no
    simp only[e];clear e;rcases Nat.lt_trichotomy (D m k) (D n k)with h | h | h
    ·have h':((D m k:Nat):Int)<((D n k:Nat):Int):=no
     go_upto_region 4 with(fail)
     refine gO Tryz.f290 4 (kh w.heap.size (w.heap.size+1) m n k) Aa Aa rfl Aa Aa ?_ ?_
     ·refine⟨λa' w' F=>⟨_,rfl,ah rfl,bA rfl (F.keep 2 (Cq (some ⟨w.heap.size,0,none⟩)) Aa rfl).is (I.mono F.below)⟩,?_⟩;refine⟨λa' w' F=>⟨_,rfl,ah rfl,bj (.inl rfl) (F.keep 5 (AN Bf ((k:Nat))) Aa rfl).is⟩,?_⟩;refine⟨λa' w' F=>⟨_,rfl,ah rfl,bD rfl (F.f 0 rfl) (F.f 1 rfl) (hm) (C)⟩,?_⟩;refine⟨λa' w' F=>⟨_,rfl,ah rfl,bA rfl (F.keep 3 (Cq (some ⟨w.heap.size+1,0,none⟩)) Aa rfl).is (J.mono F.below)⟩,?_⟩;refine⟨λa' w' F=>⟨_,rfl,ah rfl,bj (.inl rfl) (F.keep 5 (AN Bf ((k:Nat))) Aa rfl).is⟩,?_⟩;refine⟨λa' w' F=>⟨_,rfl,ah rfl,bD rfl (F.f 3 rfl) (F.f 4 rfl) (hn) (C)⟩,?_⟩;refine⟨λa' w' F=>⟨_,rfl,ah rfl,dL rfl (F.f 2 rfl) (F.f 5 rfl) (λ_=>rfl) (λ_=>Ah)⟩,?_⟩;exact trivial
     intro gp wp K G;have U:gp 6=Cu (decide (((D m k:Nat):Int)<((D n k:Nat):Int))):=G 6 24 _ rfl;simp only[kh];simp only[cK,aG,Bq,BS,Cd,Ck,AL,AO,AP,AQ,U];clear G;go_wp2_with fail
     go_ret;exact⟨by rw[gL (gM HR.out h)];rfl,H.trans (K.mono H.size)⟩
    ·have aa:¬((D m k:Nat):Int)<((D n k:Nat):Int):=no
     have ab:¬((D n k:Nat):Int)<((D m k:Nat):Int):=no
     have HD:=AE h;clear h;go_upto_region 4 with(fail)
     refine gO Tryz.f290 4 (kh w.heap.size (w.heap.size+1) m n k) Aa Aa rfl Aa Aa ?_ ?_
     ·refine⟨λa' w' F=>⟨_,rfl,ah rfl,bA rfl (F.keep 2 (Cq (some ⟨w.heap.size,0,none⟩)) Aa rfl).is (I.mono F.below)⟩,?_⟩;refine⟨λa' w' F=>⟨_,rfl,ah rfl,bj (.inl rfl) (F.keep 5 (AN Bf ((k:Nat))) Aa rfl).is⟩,?_⟩;refine⟨λa' w' F=>⟨_,rfl,ah rfl,bD rfl (F.f 0 rfl) (F.f 1 rfl) (hm) (C)⟩,?_⟩;refine⟨λa' w' F=>⟨_,rfl,ah rfl,bA rfl (F.keep 3 (Cq (some ⟨w.heap.size+1,0,none⟩)) Aa rfl).is (J.mono F.below)⟩,?_⟩;refine⟨λa' w' F=>⟨_,rfl,ah rfl,bj (.inl rfl) (F.keep 5 (AN Bf ((k:Nat))) Aa rfl).is⟩,?_⟩;refine⟨λa' w' F=>⟨_,rfl,ah rfl,bD rfl (F.f 3 rfl) (F.f 4 rfl) (hn) (C)⟩,?_⟩;refine⟨λa' w' F=>⟨_,rfl,ah rfl,dL rfl (F.f 2 rfl) (F.f 5 rfl) (λ_=>rfl) (λ_=>Ah)⟩,?_⟩;exact trivial
     intro gp wp K G;have U:gp 6=Cu (decide (((D m k:Nat):Int)<((D n k:Nat):Int))):=G 6 24 _ rfl;simp only[kh];simp only[cK,aG,Bq,BS,Cd,Ck,AL,AO,AP,AQ,U];clear G
     replace I:=I.mono K
     replace J:=J.mono K
     go_upto_region 6 with(fail)
     refine gO Tryz.f290 6 (qz w.heap.size (w.heap.size+1) m n k) Aa Aa rfl Aa Aa ?_ ?_
     ·refine⟨λa' w' F=>⟨_,rfl,ah rfl,bA rfl (F.keep 2 (Cq (some ⟨w.heap.size,0,none⟩)) Aa rfl).is (I.mono F.below)⟩,?_⟩;refine⟨λa' w' F=>⟨_,rfl,ah rfl,bj (.inl rfl) (F.keep 5 (AN Bf ((k:Nat))) Aa rfl).is⟩,?_⟩;refine⟨λa' w' F=>⟨_,rfl,ah rfl,bD rfl (F.f 0 rfl) (F.f 1 rfl) (hm) (C)⟩,?_⟩;refine⟨λa' w' F=>⟨_,rfl,ah rfl,bA rfl (F.keep 3 (Cq (some ⟨w.heap.size+1,0,none⟩)) Aa rfl).is (J.mono F.below)⟩,?_⟩;refine⟨λa' w' F=>⟨_,rfl,ah rfl,bj (.inl rfl) (F.keep 5 (AN Bf ((k:Nat))) Aa rfl).is⟩,?_⟩;refine⟨λa' w' F=>⟨_,rfl,ah rfl,bD rfl (F.f 3 rfl) (F.f 4 rfl) (hn) (C)⟩,?_⟩;refine⟨λa' w' F=>⟨_,rfl,ah rfl,dL rfl (F.f 2 rfl) (F.f 5 rfl) (λ_=>rfl) (λ_=>Ah)⟩,?_⟩;exact trivial
     intro gq wq Z G;have V:gq 6=Cu (decide (((D m k:Nat):Int)>((D n k:Nat):Int))):=G 6 31 _ rfl;simp only[qz];simp only[cK,aG,Bq,BS,Cd,Ck,AL,AO,AP,AQ,V];clear G;go_wp2_with fail
     go_roundw
     case rel=>exact⟨k,no,by go_num,AE (xh HR.out HD.out),I.mono Z,J.mono Z,(H.trans (K.mono H.size)).trans (Z.mono (H.trans (K.mono H.size)).size)⟩
     case measure=>simp[intOf]<;>omega
    ·have aa:¬((D m k:Nat):Int)<((D n k:Nat):Int):=no
     have ab:((D n k:Nat):Int)<((D m k:Nat):Int):=no
     go_upto_region 4 with(fail)
     refine gO Tryz.f290 4 (kh w.heap.size (w.heap.size+1) m n k) Aa Aa rfl Aa Aa ?_ ?_
     ·refine⟨λa' w' F=>⟨_,rfl,ah rfl,bA rfl (F.keep 2 (Cq (some ⟨w.heap.size,0,none⟩)) Aa rfl).is (I.mono F.below)⟩,?_⟩;refine⟨λa' w' F=>⟨_,rfl,ah rfl,bj (.inl rfl) (F.keep 5 (AN Bf ((k:Nat))) Aa rfl).is⟩,?_⟩;refine⟨λa' w' F=>⟨_,rfl,ah rfl,bD rfl (F.f 0 rfl) (F.f 1 rfl) (hm) (C)⟩,?_⟩;refine⟨λa' w' F=>⟨_,rfl,ah rfl,bA rfl (F.keep 3 (Cq (some ⟨w.heap.size+1,0,none⟩)) Aa rfl).is (J.mono F.below)⟩,?_⟩;refine⟨λa' w' F=>⟨_,rfl,ah rfl,bj (.inl rfl) (F.keep 5 (AN Bf ((k:Nat))) Aa rfl).is⟩,?_⟩;refine⟨λa' w' F=>⟨_,rfl,ah rfl,bD rfl (F.f 3 rfl) (F.f 4 rfl) (hn) (C)⟩,?_⟩;refine⟨λa' w' F=>⟨_,rfl,ah rfl,dL rfl (F.f 2 rfl) (F.f 5 rfl) (λ_=>rfl) (λ_=>Ah)⟩,?_⟩;exact trivial
     intro gp wp K G;have U:gp 6=Cu (decide (((D m k:Nat):Int)<((D n k:Nat):Int))):=G 6 24 _ rfl;simp only[kh];simp only[cK,aG,Bq,BS,Cd,Ck,AL,AO,AP,AQ,U];clear G
     replace I:=I.mono K
     replace J:=J.mono K
     go_upto_region 6 with(fail)
     refine gO Tryz.f290 6 (qz w.heap.size (w.heap.size+1) m n k) Aa Aa rfl Aa Aa ?_ ?_
     ·refine⟨λa' w' F=>⟨_,rfl,ah rfl,bA rfl (F.keep 2 (Cq (some ⟨w.heap.size,0,none⟩)) Aa rfl).is (I.mono F.below)⟩,?_⟩;refine⟨λa' w' F=>⟨_,rfl,ah rfl,bj (.inl rfl) (F.keep 5 (AN Bf ((k:Nat))) Aa rfl).is⟩,?_⟩;refine⟨λa' w' F=>⟨_,rfl,ah rfl,bD rfl (F.f 0 rfl) (F.f 1 rfl) (hm) (C)⟩,?_⟩;refine⟨λa' w' F=>⟨_,rfl,ah rfl,bA rfl (F.keep 3 (Cq (some ⟨w.heap.size+1,0,none⟩)) Aa rfl).is (J.mono F.below)⟩,?_⟩;refine⟨λa' w' F=>⟨_,rfl,ah rfl,bj (.inl rfl) (F.keep 5 (AN Bf ((k:Nat))) Aa rfl).is⟩,?_⟩;refine⟨λa' w' F=>⟨_,rfl,ah rfl,bD rfl (F.f 3 rfl) (F.f 4 rfl) (hn) (C)⟩,?_⟩;refine⟨λa' w' F=>⟨_,rfl,ah rfl,dL rfl (F.f 2 rfl) (F.f 5 rfl) (λ_=>rfl) (λ_=>Ah)⟩,?_⟩;exact trivial
     intro gq wq Z G;have V:gq 6=Cu (decide (((D m k:Nat):Int)>((D n k:Nat):Int))):=G 6 31 _ rfl;simp only[qz];simp only[cK,aG,Bq,BS,Cd,Ck,AL,AO,AP,AQ,V];clear G;go_wp2_with fail
     go_ret;exact⟨by rw[kf (gM HR.out.symm h)];rfl,(H.trans (K.mono H.size)).trans (Z.mono (H.trans (K.mono H.size)).size)⟩
def qA(ga gb m n i S X:Nat):List (Nat×Tmp×Sp):=
  [(0,20,.nat (m)),
  (1,21,.val (AN Bf ((i:Nat)))),
  (2,22,.val (AN BE (((D (m) (i):Nat):Int)))),
  (3,23,.nat (n)),
  (4,24,.val (AN Bf ((i:Nat)))),
  (5,25,.val (AN BE (((D (n) (i):Nat):Int)))),
  (6,26,.val (AN BE (((S:Nat):Int)))),
  (7,27,.val (AN BE (((cy m n i:Nat):Int)))),
  (8,28,.val (AN BE (((X:Nat):Int)))),
  (9,8,.val (AN BE (((X:Nat):Int))))]
theorem max_of(m n:Nat):∃M,m<=M/\n<=M/\(M=m\/M=n)/\((m<n/\M=n)\/(¬m<n/\M=m)):=by
 rcases Bg m n with h | h
 ·exact⟨n,no,no,.inr rfl,.inl ⟨h,rfl⟩⟩
 ·exact⟨m,no,no,.inl rfl,.inr ⟨no,rfl⟩⟩
set_option maxRecDepth 100000 in
set_option maxHeartbeats 1000000 in
theorem ki(va vb:Value)(m n:Nat)(w:World)(ha:IsN w va m)(hb:IsN w vb n)(hm:nl m<=1000000000000)(hn:nl n<=1000000000000):
  AF AD 288 #[va,vb] w λe w'=>cY w (m+n) e w':=by
 obtain⟨a,ca,rfl,a5,ra⟩:=ha;obtain⟨b,cb,rfl,a6,rb⟩:=hb;obtain⟨k0,k1,k2⟩:=box2 (L:=nl m) (c:=ca) (N:=m) (L2:=nl n) (c2:=cb) (N2:=n) ⟨a,ca,rfl,a5,ra⟩ ⟨b,cb,rfl,a6,rb⟩;have k3:=iE ((w.alloc (.cells #[.slice a (nl m) ca] 31)).alloc (.cells #[.slice b (nl n) cb] 31)) (.cells #[.slice none 0 0] 31);have k4:=aW.made ((w.alloc (.cells #[.slice a (nl m) ca] 31)).alloc (.cells #[.slice b (nl n) cb] 31)) none 0 0;rw[Ct,Ct]at k4
 replace k0:=k0.trans (k3.mono k0.size)
 replace k1:=jH.mono k1 k3
 replace k2:=jH.mono k2 k3
 obtain⟨M,a3,a4,av,ab⟩:=max_of (nl m) (nl n);have hM:M<=1000000000000:=by rcases av with h | h<;>omega
 clear av
 replace ab:=AE ab
 go_enter Tryz.func288,Tryz.ntmps288
 go_upto_region 1 with(fail)
 go_cut [5] (λs5 wx=>s5= .slice none 0 0/\dS wx w.heap.size m/\dS wx (w.heap.size+1) n/\aW wx (w.heap.size+1+1) none 0 0/\mBw w wx)
 case first=>
  go_wp2_with fail
  go_meet;case rel=>exact⟨rfl,k1,k2,k4,k0⟩
 case rest=>
  obtain⟨rfl,Va,Vb,vr,J⟩:=hcut;clear k0 k1 k2 k3 k4 ra rb;go_wp2_with fail
  go_loopw [5,6,7] (λs5 s6 s7 wr=>∃i:Nat,i<=M+1/\s7= .int .i64 (i:Int)/\s6= .int .u64 ((cy m n i:Nat):Int)/\GR wr wc.heap.size s5 i ((m+n) % 4294967296^i)/\mBw wc wr) (λ_ _ s7 _=>M+1 - (intOf s7).toNat)
  case atStart=>exact⟨0,A3 _,rfl,by rw[qv];rfl,by rw[DP,CE];exact GR.nil _ _,AH _ _⟩
  case round=>
   obtain⟨i,hi,rfl,rfl,V,C⟩:=hrel;have a1:=Va.mono C;have a2:=Vb.mono C;obtain⟨ya,da,qa,ia⟩:=a1;have ea:=qa.cell;obtain⟨yb,db,qb,ib⟩:=a2;have eb:=qb.cell;have U:i<=60000000000000:=no
   have bz:=pJ m n i;by_cases hlt:i<=M
   ·have be:=lN m n i;have hd:=cg (m+n) i;obtain⟨S,hS⟩:∃S:Nat,Hid (S=D m i+D n i):=⟨_,AE rfl⟩;obtain⟨X,hX⟩:∃X:Nat,Hid (X=S+cy m n i):=⟨_,AE rfl⟩;have ax:S<8589934592:=by have:=cg m i;have:=cg n i;have:=hS.out;omega
    have ay:X<8589934593:=by have:=hX.out;omega
    have bt:((X:Nat):Int) % 4294967296=((D (m+n) i:Nat):Int):=by have:=hX.out;have:=hS.out;omega
    have bq:((X:Nat):Int) / 4294967296=((cy m n (i+1):Nat):Int):=by have:=hX.out;have:=hS.out;omega
    clear be;have bi:=pJ m n (i+1);have Va:dS wr w.heap.size m:=⟨ya,da,qa,ia⟩;have Vb:dS wr (w.heap.size+1) n:=⟨yb,db,qb,ib⟩;rcases ab.out with⟨aq,H⟩ | ⟨aq,H⟩
    ·have ap:i<=nl n:=no
     have ak:=AE H;clear H hlt;go_upto_region 6 with(fail)
     refine gO Tryz.f288 6 (qA w.heap.size (w.heap.size+1) m n i S X) Aa Aa rfl Aa Aa ?_ ?_
     ·refine⟨λa' w' F=>⟨_,rfl,ah rfl,bA rfl (F.keep 2 (Cq (some ⟨w.heap.size,0,none⟩)) Aa rfl).is (Va.mono F.below)⟩,?_⟩;refine⟨λa' w' F=>⟨_,rfl,ah rfl,bj (.inl rfl) (F.keep 7 (AN Bf ((i:Nat))) Aa rfl).is⟩,?_⟩;refine⟨λa' w' F=>⟨_,rfl,ah rfl,bD rfl (F.f 0 rfl) (F.f 1 rfl) (hm) (U)⟩,?_⟩;refine⟨λa' w' F=>⟨_,rfl,ah rfl,bA rfl (F.keep 3 (Cq (some ⟨w.heap.size+1,0,none⟩)) Aa rfl).is (Vb.mono F.below)⟩,?_⟩;refine⟨λa' w' F=>⟨_,rfl,ah rfl,bj (.inl rfl) (F.keep 7 (AN Bf ((i:Nat))) Aa rfl).is⟩,?_⟩;refine⟨λa' w' F=>⟨_,rfl,ah rfl,bD rfl (F.f 3 rfl) (F.f 4 rfl) (hn) (U)⟩,?_⟩;refine⟨λa' w' F=>⟨_,rfl,ah rfl,dL rfl (F.f 2 rfl) (F.f 5 rfl) (λ_=>rfl) (jI _ _ _ hS.out.symm (by have:=ax;omega))⟩,?_⟩;refine⟨λa' w' F=>⟨_,rfl,ah rfl,bj (.inl rfl) (F.keep 6 (AN BE (((cy m n i:Nat):Int))) Aa rfl).is⟩,?_⟩;refine⟨λa' w' F=>⟨_,rfl,ah rfl,dL rfl (F.f 6 rfl) (F.f 7 rfl) (λ_=>rfl) (jI _ _ _ hX.out.symm (by have:=ay;omega))⟩,?_⟩;refine⟨λa' w' F=>⟨_,rfl,ah rfl,bj (.inr rfl) (F.f 8 rfl)⟩,?_⟩;exact trivial
     intro gp wp bp G;have am:gp 9=AN BE (((X:Nat):Int)):=G 9 8 _ rfl;simp only[qA];simp only[cK,aG,Bq,BS,Cd,Ck,AL,AO,AP,AQ,am];clear G;have K:=V.below bp;have Y:=C.trans (bp.mono C.size);have aa:=Y.size;obtain⟨a',c',rfl,au,ac,ad⟩:=K.open;clear V ea qa ia eb qb ib Va Vb;go_wp2_with (at_builtin;refine cE rfl _ _ rfl wc.heap.size (.slice a' i c') i ((m+n) % 4294967296^i) (D (m+n) i) rfl K aa rfl hd no ?_)
     intro v' w' Z an a9;rw[lW]at Z;go_wp2_with fail
     go_roundw
     case rel=>exact⟨i+1,no,by go_num,rfl,Z,Y.trans an⟩
     case measure=>simp[intOf]<;>omega
    ·have ap:i<=nl m:=no
     have ak:=AE H;clear H hlt;go_upto_region 6 with(fail)
     refine gO Tryz.f288 6 (qA w.heap.size (w.heap.size+1) m n i S X) Aa Aa rfl Aa Aa ?_ ?_
     ·refine⟨λa' w' F=>⟨_,rfl,ah rfl,bA rfl (F.keep 2 (Cq (some ⟨w.heap.size,0,none⟩)) Aa rfl).is (Va.mono F.below)⟩,?_⟩;refine⟨λa' w' F=>⟨_,rfl,ah rfl,bj (.inl rfl) (F.keep 7 (AN Bf ((i:Nat))) Aa rfl).is⟩,?_⟩;refine⟨λa' w' F=>⟨_,rfl,ah rfl,bD rfl (F.f 0 rfl) (F.f 1 rfl) (hm) (U)⟩,?_⟩;refine⟨λa' w' F=>⟨_,rfl,ah rfl,bA rfl (F.keep 3 (Cq (some ⟨w.heap.size+1,0,none⟩)) Aa rfl).is (Vb.mono F.below)⟩,?_⟩;refine⟨λa' w' F=>⟨_,rfl,ah rfl,bj (.inl rfl) (F.keep 7 (AN Bf ((i:Nat))) Aa rfl).is⟩,?_⟩;refine⟨λa' w' F=>⟨_,rfl,ah rfl,bD rfl (F.f 3 rfl) (F.f 4 rfl) (hn) (U)⟩,?_⟩;refine⟨λa' w' F=>⟨_,rfl,ah rfl,dL rfl (F.f 2 rfl) (F.f 5 rfl) (λ_=>rfl) (jI _ _ _ hS.out.symm (by have:=ax;omega))⟩,?_⟩;refine⟨λa' w' F=>⟨_,rfl,ah rfl,bj (.inl rfl) (F.keep 6 (AN BE (((cy m n i:Nat):Int))) Aa rfl).is⟩,?_⟩;refine⟨λa' w' F=>⟨_,rfl,ah rfl,dL rfl (F.f 6 rfl) (F.f 7 rfl) (λ_=>rfl) (jI _ _ _ hX.out.symm (by have:=ay;omega))⟩,?_⟩;refine⟨λa' w' F=>⟨_,rfl,ah rfl,bj (.inr rfl) (F.f 8 rfl)⟩,?_⟩;exact trivial
     intro gp wp bp G;have am:gp 9=AN BE (((X:Nat):Int)):=G 9 8 _ rfl;simp only[qA];simp only[cK,aG,Bq,BS,Cd,Ck,AL,AO,AP,AQ,am];clear G;have K:=V.below bp;have Y:=C.trans (bp.mono C.size);have aa:=Y.size;obtain⟨a',c',rfl,au,ac,ad⟩:=K.open;clear V ea qa ia eb qb ib Va Vb;go_wp2_with (at_builtin;refine cE rfl _ _ rfl wc.heap.size (.slice a' i c') i ((m+n) % 4294967296^i) (D (m+n) i) rfl K aa rfl hd no ?_)
     intro v' w' Z an a9;rw[lW]at Z;go_wp2_with fail
     go_roundw
     case rel=>exact⟨i+1,no,by go_num,rfl,Z,Y.trans an⟩
     case measure=>simp[intOf]<;>omega
   ·obtain rfl:i=M+1:=no
    have a0:m+n<4294967296^(M+1):=by
     have h1:=aI.1 a3;have h2:=aI.1 a4;rw[BO];omega
    rw[Co a0]at V;obtain⟨a',c',rfl,au,ac,ad⟩:=V.open;rcases ab.out with⟨aq,H⟩ | ⟨aq,H⟩
    ·generalize a7:M+1=i at *;have ap:¬i<=nl n:=no
     have ak:=AE H;clear H hlt;go_wp2_with fail
     refine(qQ a' i c' (m+n) _ ac no).mono ?_;rintro e w2 ⟨v2,rfl,⟨x2,c2,rfl,ao,ar⟩,bb⟩;have n2:aV wc.heap.size w2 (.agg #[.slice x2 (nl (m+n)) c2]) (m+n):=aV.weaken (base:=wr.heap.size) ⟨x2,c2,rfl,ao,ar⟩ C.size;have I:=(vr.mono C vr.lt).mono bb (Bv vr.lt C.size);have cr:=I.cell;have fr:=I.frozen;have n3:=n2.setVar (u:=.slice x2 (nl (m+n)) c2) I;go_wp2;exact Ba (e8 rfl _ _ (w.heap.size+1+1) _ rfl I.set.cell) rfl ⟨_,rfl,n3.weaken J.size,((J.trans (C.mono J.size)).trans (bb.mono (AG J.size C.size))).setCell (p:=⟨w.heap.size+1+1,0,none⟩) (by simp;omega) _⟩
    ·generalize a7:M+1=i at *;have ap:¬i<=nl m:=no
     have ak:=AE H;clear H hlt;go_wp2_with fail
     refine(qQ a' i c' (m+n) _ ac no).mono ?_;rintro e w2 ⟨v2,rfl,⟨x2,c2,rfl,ao,ar⟩,bb⟩;have n2:aV wc.heap.size w2 (.agg #[.slice x2 (nl (m+n)) c2]) (m+n):=aV.weaken (base:=wr.heap.size) ⟨x2,c2,rfl,ao,ar⟩ C.size;have I:=(vr.mono C vr.lt).mono bb (Bv vr.lt C.size);have cr:=I.cell;have fr:=I.frozen;have n3:=n2.setVar (u:=.slice x2 (nl (m+n)) c2) I;go_wp2;exact Ba (e8 rfl _ _ (w.heap.size+1+1) _ rfl I.set.cell) rfl ⟨_,rfl,n3.weaken J.size,((J.trans (C.mono J.size)).trans (bb.mono (AG J.size C.size))).setCell (p:=⟨w.heap.size+1+1,0,none⟩) (by simp;omega) _⟩
def abK(ga gb m n d i S T X:Nat):List (Nat×Tmp×Sp):=
  [(0,22,.nat (m)),
  (1,23,.val (AN Bf ((i:Nat)))),
  (2,24,.val (AN BE (((D (m) (i):Nat):Int)))),
  (3,25,.val (AN BE (((S:Nat):Int)))),
  (4,26,.nat (n)),
  (5,27,.val (AN Bf ((i:Nat)))),
  (6,28,.val (AN BE (((D (n) (i):Nat):Int)))),
  (7,29,.val (AN BE (((T:Nat):Int)))),
  (8,30,.val (AN BE (((cy n d i:Nat):Int)))),
  (9,31,.val (AN BE (((X:Nat):Int)))),
  (10,9,.val (AN BE (((X:Nat):Int))))]
set_option maxRecDepth 100000 in
set_option maxHeartbeats 1000000 in
theorem tG(va vb:Value)(m n:Nat)(w:World)(ha:IsN w va m)(hb:IsN w vb n)(hm:nl m<=1000000000000)(hn:nl n<=1000000000000):
  AF AD 291 #[va,vb] w λe w'=>qM w m n e w':=by
 obtain⟨a,ca,rfl,a2,ra⟩:=ha;obtain⟨b,cb,rfl,a3,rb⟩:=hb;obtain⟨k0,k1,k2⟩:=box2 (L:=nl m) (c:=ca) (N:=m) (L2:=nl n) (c2:=cb) (N2:=n) ⟨a,ca,rfl,a2,ra⟩ ⟨b,cb,rfl,a3,rb⟩;have k3:=iE ((w.alloc (.cells #[.slice a (nl m) ca] 31)).alloc (.cells #[.slice b (nl n) cb] 31)) (.cells #[.slice none 0 0] 31);have k4:=aW.made ((w.alloc (.cells #[.slice a (nl m) ca] 31)).alloc (.cells #[.slice b (nl n) cb] 31)) none 0 0;rw[Ct,Ct]at k4
 replace k0:=k0.trans (k3.mono k0.size)
 replace k1:=jH.mono k1 k3
 replace k2:=jH.mono k2 k3
 go_enter Tryz.func291,Tryz.ntmps291
 go_upto_region 0 with(fail)
 go_cut [2,3,4,5] (λs2 s3 s4 s5 wx=>s2= .pointer (some ⟨w.heap.size,0,none⟩)/\s3= .pointer (some ⟨w.heap.size+1,0,none⟩)/\s4= .pointer (some ⟨w.heap.size+1+1,0,none⟩)/\s5= .bool false/\dS wx w.heap.size m/\dS wx (w.heap.size+1) n/\aW wx (w.heap.size+1+1) none 0 0/\mBw w wx)
 case first=>
  go_wp2_with fail
  go_meet;case rel=>exact⟨rfl,rfl,rfl,rfl,k1,k2,k4,k0⟩
 case rest=>
  obtain⟨rfl,rfl,rfl,rfl,Va,Vb,vr,C⟩:=hcut;clear k0 k1 k2 k3 k4 ra rb;have aa:=Va;have ab:=Vb;obtain⟨ya,da,qa,ia⟩:=aa;have ea:=qa.cell;obtain⟨yb,db,qb,ib⟩:=ab;have eb:=qb.cell;go_wp2_with fail
  refine(nE _ _ m n _ ia ib hm hn).mono ?_;rintro e w1 ⟨rfl,K⟩
  replace Va:=Va.mono K
  replace Vb:=Vb.mono K
  replace vr:=vr.mono K vr.lt
  replace C:=C.trans (K.mono C.size)
  clear ea qa ia eb qb ib K;have cr:=vr.cell;have fr:=vr.frozen;by_cases hmn:m<n
  ·rw[gL hmn];have a6:¬n<=m:=no
   have h0:m - n=0:=no
   go_wp2;exact Ba (lO rfl _ _ (w.heap.size+1+1) (.slice none 0 0) (.bool false) rfl rfl vr.set.cell) rfl ⟨_,by rw[decide_eq_false a6],by rw[h0];exact aV.of_zero,C.setCell (p:=⟨w.heap.size+1+1,0,none⟩) (by simp;omega) _⟩
  ·obtain⟨d,am⟩:∃d,m=n+d:=⟨m - n,no⟩;have b0:¬cmpI m n<0:=by
    rcases Bg n m with h | h
    ·rw[kf h];decide
    ·rw[lP no];decide
   have Z:decide (n<=m)=true:=decide_eq_true no;have ao:m - n=d:=no
   have HD:=AE am;clear am hmn;have HR:=AE Z;have HM:=AE ao;clear Z ao;go_wp2_with fail
   have a9:=C;generalize b8:w1=wc at *;go_loopw [6,7,8] (λs6 s7 s8 wr=>∃i:Nat,i<=nl m/\s8= .int .i64 (i:Int)/\s7= .int .u64 ((cy n d i:Nat):Int)/\GR wr wc.heap.size s6 i (d % 4294967296^i)/\mBw wc wr) (λ_ _ s8 _=>nl m - (intOf s8).toNat)
   case atStart=>exact⟨0,A3 _,rfl,by rw[qv];rfl,by rw[DP,CE];exact GR.nil _ _,AH _ _⟩
   case round=>
    obtain⟨i,hi,rfl,rfl,I,H⟩:=hrel;clear cr fr;have aa:=Va.mono H;have ab:=Vb.mono H;obtain⟨ya,da,qa,ia⟩:=aa;have ea:=qa.cell;obtain⟨yb,db,qb,ib⟩:=ab;have eb:=qb.cell;have V:i<=60000000000000:=no
    have b1:=pJ n d i;by_cases hlt:i<nl m
    ·have au:=lN n d i;rw[<-HD.out]at au;have hd:=cg d i;have a5:=cg n i;have a4:=cg m i;have bi:=pJ n d (i+1);obtain⟨S,hS⟩:∃S:Nat,Hid (S=4294967296+D m i):=⟨_,AE rfl⟩;obtain⟨T,hT⟩:∃T:Nat,Hid (S=D n i+T):=⟨S - D n i,AE (by have:=hS.out;omega)⟩;obtain⟨X,hX⟩:∃X:Nat,Hid (T=cy n d i+X):=⟨T - cy n d i,AE (by have:=hS.out;have:=hT.out;omega)⟩;obtain⟨Y,hY⟩:∃Y:Nat,Hid (Y+cy n d (i+1)=1):=⟨1 - cy n d (i+1),AE no⟩;have ad:S<8589934592:=by have:=hS.out;omega
     have ay:T<8589934592:=by have:=hT.out;omega
     have bz:X<8589934592:=by have:=hX.out;omega
     have bO:Y<=1:=by have:=hY.out;omega
     have bt:((X:Nat):Int) % 4294967296=((D d i:Nat):Int):=by have:=hX.out;have:=hS.out;have:=hT.out;omega
     have bq:((X:Nat):Int) / 4294967296=((Y:Nat):Int):=by have:=hX.out;have:=hS.out;have:=hT.out;have:=hY.out;omega
     have be:(1:Int) - ((Y:Nat):Int)=((cy n d (i+1):Nat):Int):=by have:=hY.out;omega
     clear au a5 a4;have Va:dS wr w.heap.size m:=⟨ya,da,qa,ia⟩;have Vb:dS wr (w.heap.size+1) n:=⟨yb,db,qb,ib⟩;go_upto_region 8 with(fail)
     refine gO Tryz.f291 8 (abK w.heap.size (w.heap.size+1) m n d i S T X) Aa Aa rfl Aa Aa ?_ ?_
     ·refine⟨λa' w' F=>⟨_,rfl,ah rfl,bA rfl (F.keep 2 (Cq (some ⟨w.heap.size,0,none⟩)) Aa rfl).is (Va.mono F.below)⟩,?_⟩;refine⟨λa' w' F=>⟨_,rfl,ah rfl,bj (.inl rfl) (F.keep 8 (AN Bf ((i:Nat))) Aa rfl).is⟩,?_⟩;refine⟨λa' w' F=>⟨_,rfl,ah rfl,bD rfl (F.f 0 rfl) (F.f 1 rfl) (hm) (V)⟩,?_⟩;refine⟨λa' w' F=>⟨_,rfl,ah rfl,dL rfl Is.const (F.f 2 rfl) (λ_=>rfl) (jI 4294967296 _ _ hS.out.symm (by have:=ad;omega))⟩,?_⟩;refine⟨λa' w' F=>⟨_,rfl,ah rfl,bA rfl (F.keep 3 (Cq (some ⟨w.heap.size+1,0,none⟩)) Aa rfl).is (Vb.mono F.below)⟩,?_⟩;refine⟨λa' w' F=>⟨_,rfl,ah rfl,bj (.inl rfl) (F.keep 8 (AN Bf ((i:Nat))) Aa rfl).is⟩,?_⟩;refine⟨λa' w' F=>⟨_,rfl,ah rfl,bD rfl (F.f 4 rfl) (F.f 5 rfl) (hn) (V)⟩,?_⟩;refine⟨λa' w' F=>⟨_,rfl,ah rfl,dL rfl (F.f 3 rfl) (F.f 6 rfl) (λ_=>rfl) (xi _ _ _ hT.out (by have:=ad;omega))⟩,?_⟩;refine⟨λa' w' F=>⟨_,rfl,ah rfl,bj (.inl rfl) (F.keep 7 (AN BE (((cy n d i:Nat):Int))) Aa rfl).is⟩,?_⟩;refine⟨λa' w' F=>⟨_,rfl,ah rfl,dL rfl (F.f 7 rfl) (F.f 8 rfl) (λ_=>rfl) (xi _ _ _ hX.out (by have:=ay;omega))⟩,?_⟩;refine⟨λa' w' F=>⟨_,rfl,ah rfl,bj (.inr rfl) (F.f 9 rfl)⟩,?_⟩;exact trivial
     intro gp wp bp G;have ac:gp 10=AN BE (((X:Nat):Int)):=G 10 9 _ rfl;simp only[abK];simp only[cK,aG,Bq,BS,Cd,Ck,AL,AO,AP,AQ,ac];clear G;have U:=I.below bp;have ak:=H.trans (bp.mono H.size);have ar:=ak.size;obtain⟨a',c',rfl,ax,aq,ap⟩:=U.open;clear I ea qa ia eb qb ib Va Vb;go_wp2_with (at_builtin;refine cE rfl _ _ rfl wc.heap.size (.slice a' i c') i (d % 4294967296^i) (D d i) rfl U ar rfl hd no ?_)
     intro v' w' an a0 b2;rw[lW]at an;go_wp2_with fail
     go_roundw
     case rel=>exact⟨i+1,no,by go_num,rfl,an,ak.trans a0⟩
     case measure=>simp[intOf]<;>omega
    ·obtain rfl:i=nl m:=no
     have av:d<4294967296^nl m:=D8 (by have:=HD.out;omega) (eD m);rw[Co av]at I;obtain⟨a',c',rfl,ax,aq,ap⟩:=I.open;go_wp2_with fail
     refine(qQ a' (nl m) c' d _ aq no).mono ?_;rintro e w2 ⟨v2,rfl,⟨x2,c2,rfl,a1,a7⟩,K⟩;have n2:aV wc.heap.size w2 (.agg #[.slice x2 (nl d) c2]) d:=aV.weaken (base:=wr.heap.size) ⟨x2,c2,rfl,a1,a7⟩ H.size;have J:=(vr.mono H vr.lt).mono K (Bv vr.lt H.size);have cr:=J.cell;have fr:=J.frozen;have n3:=n2.setVar (u:=.slice x2 (nl d) c2) J;go_wp2;exact Ba (lO rfl _ _ (w.heap.size+1+1) _ (.bool true) rfl rfl J.set.cell) rfl ⟨_,by rw[HR.out],by rw[HM.out];exact n3.weaken C.size,((C.trans (H.mono C.size)).trans (K.mono (AG C.size H.size))).setCell (p:=⟨w.heap.size+1+1,0,none⟩) (by simp;omega) _⟩
theorem aY.drewN(h:aY w g L N)(q:Nat):aY (w.drewN q) g L N:=h
theorem aV.setLow(h:aV base w v N)(p:A0)(hp:p.block<base):aV base (w.setCell p u) v N:=by
 obtain⟨x,cap,rfl,hc,I⟩:=h;refine⟨x,cap,rfl,hc,λG=> ?_⟩;obtain⟨b,off,rfl,hb,H,hf⟩:=I G;have C:b≠p.block:=no
 refine⟨b,off,rfl,hb,λj F=> ?_,λj F=> ?_⟩
 ·rw[World.cell?_of_block (C5 w p u b C)];exact H j F
 ·rw[World.frozen?_of_block (C5 w p u b C)];exact hf j F
set_option maxHeartbeats 1000000 in
theorem c_ref_Mul(va vb:Value)(m n:Nat)(w:World)(ha:IsN w va m)(hb:IsN w vb n)(hm:nl m<=1000000000000)(hn:nl n<=1000000000000):
  AF AD 305 #[va,vb] w λe w'=>cY w (m*n) e w':=by
 obtain⟨a,ca,rfl,ar,ra⟩:=ha;obtain⟨b,cb,rfl,au,rb⟩:=hb;have hw:mBw w (((w.alloc (.cells #[.slice a (nl m) ca] 31)).alloc (.cells #[.slice b (nl n) cb] 31)).alloc (.cells #[.slice none 0 0] 31)):=(((AH _ _).alloc (AI _) _).alloc Ad _).alloc (by simp;omega) _;go_enter Tryz.func305,Tryz.ntmps305
 go_upto_region 1 with(fail)
 go_cut [5] (λs5 wx=>∃g,s5= .slice (some ⟨g,0,none⟩) (nl m+nl n) (nl m+nl n)/\aY wx g (nl m+nl n) 0/\Made w wx (w.heap.size+1+1) g/\
   wx.cell? ⟨w.heap.size,0,none⟩=some (.slice a (nl m) ca)/\wx.cell? ⟨w.heap.size+1,0,none⟩=some (.slice b (nl n) cb))
 case first=>
  have J:=aY.made (((w.alloc (.cells #[.slice a (nl m) ca] 31)).alloc (.cells #[.slice b (nl n) cb] 31)).alloc (.cells #[.slice none 0 0] 31)) (nl m+nl n);go_wp2_with (at_make;refine bE rfl _ _ rfl _ _ _ _ (nl m+nl n) rfl rfl no no no ?_)
  go_meet;case rel=>exact⟨_,rfl,by simpa using J,⟨hw.alloc (by simp;omega) _,no,Ad,Ad,Aj,Aj⟩,Aj,Aj⟩
 case rest=>
  obtain⟨g,rfl,J,C,U,V⟩:=hcut;have ap:=C.lt;go_wp2_with fail
  go_loopw [6] (λs6 wr=>∃i:Nat,i<=nl m/\s6= .int .i64 i/\aY wr g (nl m+nl n) ((m % 4294967296^i)*n)/\AW g wc wr)
   (λi _=>nl m - (intOf i).toNat)
  case atStart=>exact⟨0,A3 _,rfl,by simpa [CE]using J,AH _ _⟩
  case round=>
   obtain⟨i,hi,rfl,ho,H⟩:=hrel;have I:=C.step H;have c0:=(H.cell (p:=⟨w.heap.size,0,none⟩) (by show w.heap.size<g;omega)).trans U;by_cases hlt:i<nl m
   ·have c2:=(H.cell (p:=⟨w.heap.size+1,0,none⟩) (by show w.heap.size+1<g;omega)).trans V;have ax:=cg m i;go_wp2_with fail
    go_loopw [7,8] (λs7 s8 wq=>∃k O c:Nat,k<=nl n/\s8= .int .i64 k/\s7= .int .u64 (c:Int)/\c<4294967296/\aY wq g (nl m+nl n) O/\jF m n i k O c/\AW g wc wq)
     (λ_ s _=>nl n - (intOf s).toNat)
    case atStart=>exact⟨0,(m % 4294967296^i)*n,0,A3 _,rfl,rfl,it,ho,jF.start m n i,H⟩
    case round=>
     obtain⟨k,O,c,hk,rfl,rfl,hc,F,Z,G⟩:=hrel;have ab:=C.step G;clear ho H I c0 c2;have c0:=(G.cell (p:=⟨w.heap.size,0,none⟩) (by show w.heap.size<g;omega)).trans U;have c2:=(G.cell (p:=⟨w.heap.size+1,0,none⟩) (by show w.heap.size+1<g;omega)).trans V;by_cases hlt2:k<nl n
     ·have an:=ra.mono ab.below;obtain⟨b1,o1,rfl,h1⟩:=an.cells no;have c1:=h1 i hlt;have ao:=rb.mono ab.below;obtain⟨b2,o2,rfl,h2⟩:=ao.cells no;have c3:=h2 k hlt2;have ay:=cg n k;have c4:=F.cell (p:=i+k) no;have f4:=F.frozen (i+k);have av:=cg O (i+k);have a1:((D m i:Nat):Int)*((D n k:Nat):Int)<=18446744065119617025:=by
       have h:=Nat.mul_le_mul (show D m i<=4294967295 by omega) (show D n k<=4294967295 by omega);have h':((D m i*D n k:Nat):Int)<=18446744065119617025:=no
       simpa using h'
      have aq:0<=((D m i:Nat):Int)*((D n k:Nat):Int):=Int.mul_nonneg no no;have HT:=Z.step hlt2;go_wp2_with fail
      go_quiet (fail)
      go_wp2;go_roundw
      case rel=>
       have K:=λq=>(F.drewN q).store (p:=i+k) (e:=(D m i*D n k+D O (i+k)+c) % 4294967296) no (Bt _ it)
       exact⟨k+1,_,_,no,by go_num,Ad,by rw[Nat.div_lt_iff_lt_mul it];omega,by simpa using K _,HT,by simpa using (aN G _).setCell (p:=⟨g,i+k,none⟩) (AI _) _⟩
      case measure=>simp[intOf]<;>omega
     ·obtain rfl:k=nl n:=no
      have c4:=F.cell (p:=i+nl n) no;have f4:=F.frozen (i+nl n);have K:=F.store (p:=i+nl n) (e:=c) no hc;rw[Z.last]at K;have ac:=G.setCell (p:=⟨g,i+nl n,none⟩) (AI _) (.int .u32 (c:Int));go_wp2;go_roundw
      case rel=>exact⟨i+1,no,by go_num,K,ac⟩
      case measure=>simp[intOf]<;>omega
   ·obtain rfl:i=nl m:=no
    rw[zq]at ho;go_wp2_with fail
    refine(qQ _ (nl m+nl n) (nl m+nl n) (m*n) _ ho.rw' no).mono ?_;rintro e w1 ⟨v1,rfl,⟨x1,c1,rfl,ad,am⟩,aa⟩;obtain⟨ak,a0⟩:=I.after aa;have Y:=I.below;have hz:=I.lt;have a2:=I.size;have n2:aV wr.heap.size w1 (.agg #[.slice x1 (nl (m*n)) c1]) (m*n):=⟨x1,c1,rfl,ad,am⟩;have n3:=(n2.setLow (u:=.slice x1 (nl (m*n)) c1) ⟨w.heap.size+1+1,0,none⟩ (by show w.heap.size+1+1<wr.heap.size;omega)).weaken Y.size;have hB:=(Y.trans (aa.mono Y.size)).setCell (p:=⟨w.heap.size+1+1,0,none⟩) (by show w.heap.size<=w.heap.size+1+1;omega) (.slice x1 (nl (m*n)) c1);go_wp2;exact Ba (e8 rfl _ _ (w.heap.size+1+1) _ rfl (World.cell?_setCell_same _ _ _ ak)) rfl ⟨_,rfl,n3,hB⟩
section
variable {Q:A8->Act->World->Prop} {o:Oper} {a:Act} {w:World} {x y:AS} {m n:Nat} {tt:Array TypeId}
theorem arm_rAdd(G:o.op= .call {callee:=.value (.func 288),args:=#[x,y],argTypes:=tt})(H:Is a w x (.nat m))(hy:Is a w y (.nat n))(F:nl m<=1000000000000)(hn:nl n<=1000000000000)(C:m+n=N):Arm AD Q o a w (.nat N):=by
 subst C;exact abI G (af Tryz.func288 rfl rfl) H hy (R:=λw=>cY w (m+n)) (λva vb w h1 h2=>ki va vb m n w h1 h2 F hn) (λ_ _ h=>ofNew h)
end
theorem len2_half{x:Nat}(h:x≠0):eH x=eH (x / 2)+1:=by
 unfold eH;rw[if_neg h,Nat.log2_def];by_cases h2:2<=x
 ·rw[if_pos h2,if_neg no]
 ·rw[if_neg h2,if_pos no]
theorem zI(h:N≠0):eH N=32*(nl N - 1)+eH (D N (nl N - 1)):=by
 rw[wM h];have ht:D N (nl N - 1)≠0:=abB h;have C:=cg N (nl N - 1);have h1:nl (D N (nl N - 1))=1:=by
  have:=dY ht;have:=(aI (N:=D N (nl N - 1)) (k:=1)).2 (by rw[Nat.pow_one];exact C);omega
 have h2:=wM ht;rw[h1]at h2;have h3:D (D N (nl N - 1)) 0=D N (nl N - 1):=by
  show D N (nl N - 1) / 4294967296^0 % 4294967296=_;rw[DP,Nat.div_one,Co C]
 simp only[Nat.sub_self,h3,CT,A7]at h2;rw[h2]
set_option maxRecDepth 100000 in
theorem zJ(va:Value)(N:Nat)(w:World)(ha:IsN w va N)(hN:nl N<=1000000000000):
  AF AD 287 #[va] w λe w'=>bH w (.int .i64 ((eH N:Nat):Int)) e w':=by
 obtain⟨a,V,rfl,Z,ra⟩:=ha;have J:=iE w (.cells #[.slice a (nl N) V] 31);have v1:=aW.made w a (nl N) V;have H:=ra.mono J;by_cases h0:N=0
 ·have Y:nl N=0:=kX.2 h0;have e2:eH N=0:=by unfold eH;rw[if_pos h0]
  have K:=AE e2;rw[Y]at H J Z v1⊢;clear Y e2 ra hN;have c1:=v1.cell;go_enter Tryz.func287,Tryz.ntmps287
  go_wp2;go_ret;exact⟨by rw[K.out];rfl,J⟩
 ·have hp:=dY h0;have an:(((nl N:Nat):Int)==0)=false:=by rw[beq_eq_false_iff_ne];omega
  have HT:=AE (zI h0);have G:=cg N (nl N - 1);obtain⟨T,hT⟩:∃T:Nat,Hid (T=D N (nl N - 1)):=⟨_,AE rfl⟩;obtain⟨b1,o1,rfl,h1⟩:=H.cells no;have d1:=h1 (nl N - 1) no;rw[<-hT.out]at d1 G;obtain⟨P,I⟩:∃P:Nat,Hid (P=nl N - 1):=⟨_,AE rfl⟩;have Y:((nl N:Int) - 1)=((P:Nat):Int):=by have:=I.out;omega
  have ab:P<=1000000000000:=by have:=I.out;omega
  rw[<-I.out]at d1;have c1:=v1.cell;have ak:eH T<=32:=by
   rcases Dh T with h | h
   ·rw[h];decide
   ·unfold eH;rw[if_neg no];have:=(Es (n:=T) (k:=32) no).2 AA;omega
  have F:eH N=32*(nl N - 1)+eH T:=by rw[HT.out,hT.out]
  have C:=AE F;clear F h0;have ad:eH N<=32000000000032:=by have:=C.out;omega
  go_enter Tryz.func287,Tryz.ntmps287
  go_wp2_with fail
  go_loopw [3,4] (λs3 s4 wr=>∃c x:Nat,s3= .int .i64 (c:Int)/\s4= .int .u32 (x:Int)/\x<4294967296/\Hid (eH N=c+eH x)/\wr=w.alloc (.cells #[.slice (some ⟨b1,o1,none⟩) (nl N) V] 31)) (λ_ s4 _=>(intOf s4).toNat)
  case atStart=>exact⟨32*P,T,by go_num,rfl,G,by rw[I.out];exact C,rfl⟩
  case round=>
   obtain⟨c,x,rfl,rfl,hx,U,rfl⟩:=hrel;have ac:c<=32000000000032:=by have:=U.out;omega
   by_cases hx0:x=0
   ·subst hx0;have hc:eH N=c:=by have h:=U.out;have h2:eH 0=0:=rfl;omega
    have HC:=AE hc;clear hc;go_wp2;go_ret;exact⟨by rw[HC.out];rfl,J⟩
   ·have ao:(0:Int)<(x:Int):=no
    have aa:=len2_half hx0;have HS:=AE (show eH N=(c+1)+eH (x / 2)by have h:=U.out;omega);obtain⟨y,hy⟩:∃y:Nat,Hid (y=x / 2):=⟨_,AE rfl⟩;have hq:((x:Nat):Int) / 2=((y:Nat):Int):=by have:=hy.out;omega
    have am:y<x:=by have:=hy.out;omega
    rw[<-hy.out]at HS;clear aa hx0;go_wp2_with fail
    go_roundw
    case rel=>exact⟨c+1,y,by go_num,rfl,no,HS,trivial⟩
    case measure=>simp[intOf]<;>omega
theorem qR(n:Nat)(w:World)(hn:n<18446744073709551616):
  AF AD 112 #[.int .u64 (n:Int)] w λe w'=>cY w n e w':=by
 have Y:=iE w (.cells #[.slice none 0 0] 31);have U:=aW.made w none 0 0;have F:=aY.two (w.alloc (.cells #[.slice none 0 0] 31)) n hn;have H:=Y.alloc Ad (.cells #[.int .u32 ((n:Int) % 4294967296),.int .u32 ((n:Int) / 4294967296)] 237);have v1:=aW.mono U (iE _ (.cells #[.int .u32 ((n:Int) % 4294967296),.int .u32 ((n:Int) / 4294967296)] 237)) U.lt;rw[Ct]at F;go_enter Tryz.func112,Tryz.ntmps112
 go_wp2_with fail
 refine(qQ _ 2 2 n _ F.rw' no).mono ?_;rintro e w2 ⟨v2,rfl,⟨G,c2,rfl,I,J⟩,K⟩;have Z:aV w.heap.size w2 (.agg #[.slice G (nl n) c2]) n:=aV.weaken (by exact⟨G,c2,rfl,I,J⟩) H.size;have C:=v1.mono K v1.lt;have cr:=C.cell;have fr:=C.frozen;have n3:=Z.setVar (u:=.slice G (nl n) c2) C;have V:=(H.trans (K.mono H.size)).setCell (p:=⟨w.heap.size,0,none⟩) (AI _) (.slice G (nl n) c2);go_wp2;exact Ba (e8 rfl _ _ w.heap.size _ rfl C.set.cell) rfl ⟨_,rfl,n3,V⟩
section
variable {P:AZ} {ops:Array Oper} {Q:A8->Act->World->Prop} {md:Region.Mode}
theorem jp.of_all{α:Type}{p:α->Prop}(h:∀x,p x):∀l,jp p l
 | []=>trivial
 | x::l=>⟨h x,jp.of_all h l⟩
def ArmB(P:AZ)(Q:A8->Act->World->Prop)(al:Bool)(o:Oper)(a:Act)(w:World)(s:Sp):Prop:=
 ∀K:Act->World->Prop,(∀v w',s.p w' v->mBw w w'->(al=true->w.heap.size<=blk v)->K (a.put o.dst v) w')->Bk P o a w K Q
theorem Arm.b{o:Oper}{a:Act}(h:Arm P Q o a w s):ArmB P Q false o a w s:=λK C=>h K (λv w' h1 h2=>C v w' h1 h2 (λh=>by cases h))
theorem abL(f:Func)(r:Nat)(D:List (Nat×Tmp×Sp))(Z:Nat->Bool)(n F:Nat){id:Nat}{I:Array Oper}{a:Act}(am:dm f r=I)(U:P.follows .mixedOrders=true)
  (ad:(dm f r).size=F+D.length)(V:pL .any (dm f r) (aG D) n (Cv (F+D.length) false) a.tmps.size=true)
  (ap:jp (λx=>Z x.1=true->∀w v,x.2.2.p w v->blk v<w.heap.size) D)
  (Y:jp (λx=>∀(a':Act)(w':World),Found .any (dm f r) D x.1 w a a' w'->∃o,(dm f r)[x.1]? =some o/\A6 o (yielded (dm f r) a'.tmps)=true/\ArmB P Q (Z x.1) o a' w' x.2.2) D)
  (G:∀(g:Nat->Value) w',mBw w w'->(∀(i:Nat)(t:Tmp)(s:Sp),D[i]? =some (i,t,s)->s.p w' (g i))->(∀i j:Nat,((aG D).map (·.1)).contains i=true->((aG D).map (·.1)).contains j=true->Z i=true->Z j=true->i≠j->blk (g i)≠blk (g j))->
   wpAny P .any (dm f r) Q F (aX ((aG D).map (·.1)) (Cv (F+D.length) false)) (cK (aG D) g a) w'):(Dj id I true).wp P Q a w:=by
 subst am;refine Ds U ?_;have H:mBw w w.drew:=aN (AH _ _) 1
 change wpAny P .any _ Q _ _ _ w.drew
 rw[ad];unfold pL at V;simp only[BU,decide_eq_true_eq]at V;obtain⟨⟨⟨⟨an,ac⟩,ak⟩,av⟩,au⟩:=V;have ht:∀p∈aG D,p.2<a.tmps.size:=λp hp=>by simpa using Cc.1 au p hp
 have ab:∀t,((aG D).map (·.2)).contains t=false->t∉(aG D).map (·.2):=λt h U=>by
  rw[CN.2 U]at h;cases h
 have C:∀(i:Nat)(t:Tmp)(s:Sp),D[i]? =some (i,t,s)->(i,t,s)∈D:=λi t s h=>A5 h
 have key:=keyed (D:=D) (by simpa [aG,FI]using av);have J:D.length=(aG D).length:=by simp[aG]
 rw[J]at an G⊢;refine iW F (aG D) n Z (λi v w'=>∀t s,(i,t,s)∈D->s.p w' v) an ac ak (λi _ v w1 w2 h hb t s U=>s.st _ _ _ (h t s U) hb) ?_ ?_ ?_
 ·intro i hi hA v w' h;obtain⟨p,hp,rfl⟩:=Be.1 hi;obtain⟨x,hx,rfl⟩:=Be.1 hp;exact ap.mem x hx hA w' v (h x.2.1 x.2.2 hx)
 ·intro p hp g w' hb hF K hK;obtain⟨x,hx,rfl⟩:=Be.1 hp;obtain⟨o,ho,hw,aa⟩:=Y.mem x hx (cK (aG D) g a) w' ⟨H.trans (hb.mono H.size),λt h=>kg t (ab t h),λi t s h1 h2=>
   ⟨g i,uW ak (bW (C i t s h1)) (ht _ (bW (C i t s h1))),hF i (Be.2 ⟨_,bW (C i t s h1),rfl⟩) (CN.1 h2) t s (C i t s h1)⟩⟩
  unfold wpOp;rw[ho];show if A6 o (yielded (dm f r) (cK (aG D) g a).tmps)=true then _ else _
  rw[if_pos hw];refine .inl (aa K (λv ax hv aq hA=> ?_));have hd:=Cc.1 ac _ hp;rw[beq_iff_eq]at hd;have ar:o.dst=some x.2.1:=by
   have:bY (dm f r) x.1=o.dst:=by unfold bY;rw[ho]
   rw[<-this];exact hd
  rw[ar];refine hK v ax (λt s U=> ?_) aq hA;have e2:=key _ U _ (show(x.1,x.2.1,x.2.2)∈D from hx) rfl;simp only[Prod.mk.injEq,true_and]at e2;rw[e2.2];exact hv
 ·intro g w' hb hF ao;exact G g w' (H.trans (hb.mono H.size)) (λi t s h=>hF i (Be.2 ⟨_,bW (C i t s h),rfl⟩) t s (C i t s h))
   (λi j hi hj=>ao i (CN.1 hi) j (CN.1 hj))
end
section
variable {Q:A8->Act->World->Prop} {o:Oper} {a:Act} {w:World} {x y:AS} {m n:Nat} {tt:Array TypeId}
theorem ofNewB{w:World}{e:By}(C:base<=w.heap.size)(h:cY w N e w'):∃v,e= .returned v/\(Sp.new base N).p w' v/\mBw w w':=by
 obtain⟨v,rfl,hn,hb⟩:=h;exact⟨v,rfl,hn.weaken C,hb⟩
theorem tH(hb:base<=w.heap.size)(G:o.op= .call {callee:=.value (.func 288),args:=#[x,y],argTypes:=tt})(H:Is a w x (.nat m))(hy:Is a w y (.nat n))(F:nl m<=1000000000000)(hn:nl n<=1000000000000)(C:m+n=N):Arm AD Q o a w (.new base N):=by
 subst C;exact abI G (af Tryz.func288 rfl rfl) H hy (R:=λw=>cY w (m+n)) (λva vb w h1 h2=>ki va vb m n w h1 h2 F hn) (λ_ _ h=>ofNewB hb h)
theorem abM(F:o.op= .call {callee:=.value (.func 112),args:=#[x],argTypes:=tt})(G:Is a w x (.val (.int .u64 (n:Int))))(hn:n<18446744073709551616):Arm AD Q o a w (.nat n):=by
 refine lV F (af Tryz.func112 rfl rfl) (R:=λe w'=>cY w n e w') ?_ (λ_ _ h=>ofNew h);have C:a.eval x= .int .u64 (n:Int):=G;simpa [C]using qR n w hn
end
variable{s:Option A0}
theorem run_store(G:∃F L' C,u= .slice F L' C)(h:aW w g s L c):(Instr.storeAt 31 (.pointer (some ⟨g,0,none⟩)) (.agg #[u])).run AD w= .ok () (w.setCell ⟨g,0,none⟩ u):=by
 obtain⟨F,L',C,rfl⟩:=G;have c1:=h.cell;have f1:=h.frozen;go_simp
theorem wp_store{o:Oper}{a:Act}{K:Act->World->Prop}{x y:AS}(C:o.op= .store 31 x y)(G:o.dst=none)
  (J:a.eval x= .pointer (some ⟨g,0,none⟩))(hy:a.eval y= .agg #[u])(H:∃s' L' c',u= .slice s' L' c')(I:aW w g s L c)(F:K a (w.setCell ⟨g,0,none⟩ u)):Bk AD o a w K Q:=by
 unfold Bk execOp;rw[C];simp only[J,hy,AK,run_store H I,AU,Bu,Oper.upon_skip];rw[G];exact F
theorem pM(j:Nat){md:Region.Mode}{o:Oper}{a:Act}{F:Nat}{C:Array Bool}{x y:AS} 
  (hr:BK md ops C=[j])(U:ops[j]? =some o)(G:o.op= .store 31 x y)(J:o.guard=none)(I:o.dst=none)
  (Z:a.eval x= .pointer (some ⟨g,0,none⟩))(hy:a.eval y= .agg #[u])(V:∃s' L' c',u= .slice s' L' c')(Y:aW w g s L c)(h:wpAny AD md ops Q F (C.setIfInBounds j true) a (w.setCell ⟨g,0,none⟩ u)):
  wpAny AD md ops Q (F+1) C a w:=by
 refine BX hr Ad (BI U (λK H=> ?_) BV);rw[if_pos (ah J)];exact wp_store G I Z hy V Y (H _ _ h)
theorem bit_of(m i:Nat):D m (i / 32) / 2^(i % 32) % 2=m / 2^i % 2:=by
 unfold D;have h1:(4294967296:Nat)^(i / 32)=2^(32*(i / 32)):=by rw[Nat.pow_mul]
 have h3:∀X s:Nat,s<=32->X % 4294967296 / 2^s=X / 2^s % 2^(32 - s):=by
  intro X s hs;rw[show(4294967296:Nat)=2^s*2^(32 - s)by rw[<-BD,show s+(32 - s)=32 by omega],FZ]
 rw[h3 _ _ no,h1,CS,<-BD,Ci];have C:(2:Nat)∣ 2^(32 - i % 32):=⟨2^(31 - i % 32),by rw[<-Nat.pow_succ',show(31 - i % 32).succ=32 - i % 32 by omega]⟩;exact Nat.mod_mod_of_dvd _ C
theorem c_bit(va:Value)(m i:Nat)(w:World)(ha:IsN w va m)(hm:nl m<=1000000000000)(hi:i<=60000000000000):
  AF AD 289 #[va,.int .i64 (i:Int)] w λe w'=>bH w (.int .u64 ((m / 2^i % 2:Nat):Int)) e w':=by
 obtain⟨a,ca,rfl,U,ra⟩:=ha;obtain⟨k0,k1⟩:=box1 (L:=nl m) (c:=ca) (N:=m) ⟨a,ca,rfl,U,ra⟩;obtain⟨y1,d1,q1,i1⟩:=k1;have e1:=q1.cell;obtain⟨P,F⟩:∃P:Nat,Hid (P=i / 32):=⟨_,AE rfl⟩;obtain⟨R,H⟩:∃R:Nat,Hid (R=i % 32):=⟨_,AE rfl⟩;have hq:(i:Int) / 32=(P:Int):=by have:=F.out;omega
 have ab:Int.tdiv (i:Int) 32=(P:Int):=by rw[Int.tdiv_eq_ediv_of_nonneg no];exact hq
 have hr:(i:Int) % 32=(R:Int):=by have:=H.out;omega
 have ac:Int.tmod (i:Int) 32=(R:Int):=by rw[Int.tmod_eq_emod_of_nonneg no];exact hr
 have aa:R<=31:=by have:=H.out;omega
 have G:P<=60000000000000:=by have:=F.out;omega
 have C:D m P / 2^R % 2=m / 2^i % 2:=by rw[F.out,H.out];exact bit_of m i
 have HB:=AE C;clear C;obtain⟨V,I⟩:∃V:Nat,Hid (V=D m P):=⟨_,AE rfl⟩;have J:V<=4294967295:=by have:=cg m P;have:=I.out;omega
 go_enter Tryz.func289,Tryz.ntmps289
 go_wp2_with fail
 refine(abJ _ (nl m) m P _ i1 no G).mono ?_;rintro e w1 ⟨rfl,bb⟩;rw[<-I.out];have K:=k0.trans (bb.mono k0.size);go_wp2_with fail
 go_loopw [5,6] (λs5 s6 wr=>∃k x:Nat,k<=R/\s6= .int .i64 (k:Int)/\s5= .int .u64 (x:Int)/\Hid (x=V / 2^k)/\x<=4294967295/\wr=w1) (λ_ s6 _=>R - (intOf s6).toNat)
 case atStart=>exact⟨0,V,A3 _,rfl,rfl,AE Ad,J,rfl⟩
 case round=>
  obtain⟨k,x,hk,rfl,rfl,HX,ad,rfl⟩:=hrel;by_cases hlt:k<R
  ·obtain⟨y,hy⟩:∃y:Nat,Hid (y=x / 2):=⟨_,AE rfl⟩;have Y:((x:Nat):Int) / 2=((y:Nat):Int):=by have:=hy.out;omega
   have Z:y<=4294967295:=by have:=hy.out;omega
   go_wp2_with fail
   go_roundw
   case rel=>exact⟨k+1,y,no,by go_num,rfl,AE (by rw[hy.out,HX.out,BO,CS]),Z,trivial⟩
   case measure=>simp[intOf]<;>omega
  ·obtain rfl:k=R:=no
   obtain⟨y,hy⟩:∃y:Nat,Hid (y=x % 2):=⟨_,AE rfl⟩;have Y:((x:Nat):Int) % 2=((y:Nat):Int):=by have:=hy.out;omega
   go_wp2;go_ret;refine⟨?_,K⟩;rw[<-HB.out,<-I.out,<-HX.out];refine congrArg Ending.returned (congrArg (AN BE) ?_);have:=hy.out;omega
structure DM(w wr:World)(m n q r:Nat):Prop where
 below:mBw w wr
 va:dS wr w.heap.size m
 vb:dS wr (w.heap.size+1) n
 r1:aW wr (w.heap.size+2) none 0 0
 r2:aW wr (w.heap.size+3) none 0 0
 vq:iX w.heap.size wr (w.heap.size+4) q
 vr:iX w.heap.size wr (w.heap.size+5) r
variable{wr:World}{q r:Nat}
theorem DM.mono(h:DM w wr m n q r)(hb:mBw wr w'):DM w w' m n q r:=
 ⟨h.below.trans (hb.mono h.below.size),h.va.mono hb,h.vb.mono hb,h.r1.mono hb h.r1.lt,h.r2.mono hb h.r2.lt,h.vq.mono (B:=0) hb,h.vr.mono (B:=0) hb⟩
variable{a':Option A0}
theorem dS.setOther{L' c':Nat}(h:dS w g N)(G:aW w C a' L' c')(F:C≠g):dS (w.setCell ⟨C,0,none⟩ u) g N:=by
 obtain⟨a,c,h1,h2⟩:=h;exact⟨a,c,h1.setOther _ _ F,h2.setVar G⟩
theorem iX.setOther{L' c':Nat}(h:iX base w g N)(G:aW w C a' L' c')(F:C≠g):iX base (w.setCell ⟨C,0,none⟩ u) g N:=by
 obtain⟨a,c,h1,h2⟩:=h;exact⟨a,c,h1.setOther _ _ F,h2.setVar G⟩
variable{x:Option A0}
theorem iX.setN{M:Nat}(h:iX base w g M)(hn:aV base w (.agg #[.slice x (nl N) c]) N):iX base (w.setCell ⟨g,0,none⟩ (.slice x (nl N) c)) g N:=by
 obtain⟨a,C,h1,h2⟩:=h;exact⟨x,c,h1.set,hn.setVar h1⟩
theorem DM.setr(h:DM w wr m n q r)(hn:aV w.heap.size wr (.agg #[.slice x (nl N) c]) N):DM w (wr.setCell ⟨w.heap.size+5,0,none⟩ (.slice x (nl N) c)) m n q N:=by
 obtain⟨a,C,h1,h2⟩:=h.vr;exact⟨h.below.setCell (p:=⟨w.heap.size+5,0,none⟩) (Ee _ _) _,h.va.setOther h1 no,h.vb.setOther h1 no,h.r1.setOther _ _ Ad,h.r2.setOther _ _ Ad,h.vq.setOther h1 no,h.vr.setN hn⟩
theorem DM.setq(h:DM w wr m n q r)(hn:aV w.heap.size wr (.agg #[.slice x (nl N) c]) N):DM w (wr.setCell ⟨w.heap.size+4,0,none⟩ (.slice x (nl N) c)) m n N r:=by
 obtain⟨a,C,h1,h2⟩:=h.vq;exact⟨h.below.setCell (p:=⟨w.heap.size+4,0,none⟩) (Ee _ _) _,h.va.setOther h1 no,h.vb.setOther h1 no,h.r1.setOther _ _ Ad,h.r2.setOther _ _ Ad,h.vq.setN hn,h.vr.setOther h1 no⟩
theorem abN{Y:Nat}(h:Y=n*q+r)(hr:r<n):Y / n=q/\Y % n=r:=
 (Nat.div_mod_unique no).2 ⟨no,hr⟩
theorem u6(m k:Nat):m / 2^k=2*(m / 2^(k+1))+m / 2^k % 2:=by
 rw[BO,<-CS];omega
theorem lt_len2(m:Nat):m<2^eH m:=by
 unfold eH;split
 ·omega
 ·exact Nat.lt_log2_self
theorem dm_round{k:Nat}(hn:0<n):(n<=m / 2^(k+1) % n+m / 2^(k+1) % n+m / 2^k % 2->m / 2^k / n=m / 2^(k+1) / n+m / 2^(k+1) / n+1/\m / 2^k % n=m / 2^(k+1) % n+m / 2^(k+1) % n+m / 2^k % 2 - n)/\
  (m / 2^(k+1) % n+m / 2^(k+1) % n+m / 2^k % 2<n->m / 2^k / n=m / 2^(k+1) / n+m / 2^(k+1) / n/\m / 2^k % n=m / 2^(k+1) % n+m / 2^(k+1) % n+m / 2^k % 2):=by
 have h1:=u6 m k;have h2:=Ci (m / 2^(k+1)) n;have h3:=Bt (m / 2^(k+1)) hn;generalize m / 2^(k+1)=X at *;generalize m / 2^k=Y at *;generalize hb:Y % 2=b at *;have G:b<2:=no
 generalize X / n=q at *;generalize X % n=r at *;subst h2;have C:n*(q+q)=n*q+n*q:=CH n q q;have F:n*(q+q+1)=n*q+n*q+n:=by rw[CH,C,Nat.mul_one]
 refine⟨λh=>abN ?_ no,λh=>abN ?_ h⟩
 ·rw[h1,F];omega
 ·rw[h1,C];omega
theorem DM.fin{w0:World}{G H:Nat}{C F:Option A0}(h:DM w w0 m n q r)(Y:aW w0 (w.heap.size+4) C (nl q) G)(K:aV w.heap.size w0 (.agg #[.slice C (nl q) G]) q)
  (hr:aW w0 (w.heap.size+5) F (nl r) H)(U:aV w.heap.size w0 (.agg #[.slice F (nl r) H]) r)(I:World)
  (V:I=(w0.setCell ⟨w.heap.size+2,0,none⟩ (.slice C (nl q) G)).setCell ⟨w.heap.size+3,0,none⟩ (.slice F (nl r) H)\/I=(w0.setCell ⟨w.heap.size+3,0,none⟩ (.slice F (nl r) H)).setCell ⟨w.heap.size+2,0,none⟩ (.slice C (nl q) G)):
  aW I (w.heap.size+2) C (nl q) G/\aW I (w.heap.size+3) F (nl r) H/\aV w.heap.size I (.agg #[.slice C (nl q) G]) q/\aV w.heap.size I (.agg #[.slice F (nl r) H]) r/\mBw w I:=by
 rcases V with rfl | rfl
 ·have k2:=h.r2.setOther ⟨w.heap.size+2,0,none⟩ (.slice C (nl q) G) Ad;exact⟨h.r1.set.setOther _ _ Ad,k2.set,(K.setVar h.r1).setVar k2,(U.setVar h.r1).setVar k2,(h.below.setCell (p:=⟨w.heap.size+2,0,none⟩) (Ee _ _) _).setCell (p:=⟨w.heap.size+3,0,none⟩) (Ee _ _) _⟩
 ·have J:=h.r1.setOther ⟨w.heap.size+3,0,none⟩ (.slice F (nl r) H) Ad;exact⟨J.set,h.r2.set.setOther _ _ Ad,(K.setVar h.r2).setVar J,(U.setVar h.r2).setVar J,(h.below.setCell (p:=⟨w.heap.size+3,0,none⟩) (Ee _ _) _).setCell (p:=⟨w.heap.size+2,0,none⟩) (Ee _ _) _⟩
section
variable {Q:A8->Act->World->Prop} {o:Oper} {a:Act} {w:World} {x y:AS} {m n:Nat} {tt:Array TypeId}
theorem arm_bit{i:Nat}(G:o.op= .call {callee:=.value (.func 289),args:=#[x,y],argTypes:=tt})(H:Is a w x (.nat m))(hy:Is a w y (.val (.int .i64 (i:Int))))(F:nl m<=1000000000000)(hi:i<=60000000000000){b:Nat}(hb:m / 2^i % 2=b):
  Arm AD Q o a w (.val (.int .u64 (b:Int))):=by
 subst hb;refine lV G (af Tryz.func289 rfl rfl) (R:=bH w (.int .u64 ((m / 2^i % 2:Nat):Int))) ?_ (λ_ _ h=>ofV h);have C:a.eval y= .int .i64 (i:Int):=hy;simpa [C]using c_bit _ m i w H F hi
end
theorem iX.isI(h:iX base w g N):dS w g N:=by
 obtain⟨a,c,h1,h2⟩:=h;exact⟨a,c,h1,h2.isN⟩
variable{a:Nat}
theorem qS{b:Nat}(h:a<=b)(hb:nl b<=100000000000):nl a<=1000000000000:=AG (dZ h) no
theorem nl_twice0{b:Nat}(h:a<=2*b+1)(hb:nl b<=d):nl a<=d+1:=by
 have h1:=aI.1 hb;refine aI.2 (D8 h ?_);rw[BO];generalize 4294967296^d=P at *;omega
theorem xj{b:Nat}(h:a<=2*b+1)(hb:nl b<=100000000000):nl a<=1000000000000:=AG (nl_twice0 h hb) it
theorem len2_le(h:nl m<=d):eH m<=32*d:=by
 unfold eH;split
 ·omega
 ·rename_i C;have h2:m<2^(32*d):=by rw[Nat.pow_mul];exact aI.1 h
  have:=(Es C).2 h2;omega
def dmTab7(w:World)(m r k S b R1:Nat):List (Nat×Tmp×Sp):=
  [(0,25,.nat (r)),
  (1,26,.nat (r)),
  (2,27,.nat (S)),
  (3,28,.nat (m)),
  (4,29,.val (AN Bf ((k:Nat)))),
  (5,30,.val (AN BE ((b:Nat)))),
  (6,31,.nat (b)),
  (7,32,.new w.heap.size (R1))]
def abO(w:World)(T0 T:Nat):List (Nat×Tmp×Sp):=
  [(0,46,.nat (T0)),
  (1,47,.nat (1)),
  (2,48,.new w.heap.size (T))]
set_option maxRecDepth 100000 in
set_option maxHeartbeats 2000000 in
theorem lX(va vb:Value)(m n:Nat)(w:World)(ha:IsN w va m)(hb:IsN w vb n)(hm:nl m<=100000000000)(hn:nl n<=100000000000)(h0:n≠0):
  AF AD 262 #[va,vb] w λe w'=>iY w (m / n) (m % n) 0 e w':=by
 obtain⟨a,ca,rfl,bq,ra⟩:=ha;obtain⟨b,cb,rfl,bt,rb⟩:=hb;have fc:=dY h0;have b9:nl m<=1000000000000:=no
 have cc:nl n<=1000000000000:=no
 have a4:=AE h0;clear h0;go_enter Tryz.func262,Tryz.ntmps262
 go_upto_region 0 with(fail)
 go_cut [2,3,4,5,6] (λs2 s3 s4 s5 s6 wx=>s2= .pointer (some ⟨w.heap.size,0,none⟩)/\s3= .pointer (some ⟨w.heap.size+1,0,none⟩)/\s4= .pointer (some ⟨w.heap.size+2,0,none⟩)/\s5= .pointer (some ⟨w.heap.size+3,0,none⟩)/\
   dS wx w.heap.size m/\dS wx (w.heap.size+1) n/\aW wx (w.heap.size+2) none 0 0/\aW wx (w.heap.size+3) none 0 0/\mBw w wx/\wx.heap.size=w.heap.size+4)
 case first=>
  obtain⟨k0,k1,k2⟩:=box2 (L:=nl m) (c:=ca) (N:=m) (L2:=nl n) (c2:=cb) (N2:=n) ⟨a,ca,rfl,bq,ra⟩ ⟨b,cb,rfl,bt,rb⟩;have hz:((w.alloc (.cells #[.slice a (nl m) ca] 31)).alloc (.cells #[.slice b (nl n) cb] 31)).heap.size=w.heap.size+2:=Ad
  generalize ej:(w.alloc (.cells #[.slice a (nl m) ca] 31)).alloc (.cells #[.slice b (nl n) cb] 31)=w2 at *;obtain⟨j0,j1,j2⟩:=box2 (w:=w2) (a:=none) (L:=0) (c:=0) (N:=0) (b:=none) (L2:=0) (c2:=0) (N2:=0) ⟨none,0,rfl,no,it,λh=>no⟩ ⟨none,0,rfl,no,it,λh=>no⟩;have v1:=aW.made w2 none 0 0;have v2:=aW.made (w2.alloc (.cells #[.slice none 0 0] 31)) none 0 0;have dc:=v1.mono (iE _ (.cells #[.slice none 0 0] 31)) v1.lt;rw[Ct]at v2;rw[hz]at dc v2;subst ej;go_wp2_with fail
  go_meet;case rel=>exact⟨rfl,rfl,rfl,rfl,jH.mono k1 j0,jH.mono k2 j0,dc,v2,k0.trans (j0.mono k0.size),Ad⟩
 case rest=>
  obtain⟨rfl,rfl,rfl,rfl,Va,Vb,a1,a2,ay,cu⟩:=hcut;clear ra rb bq bt;go_upto_region 1 with(fail)
  go_cut [7,8] (λs7 s8 wx=>s7= .pointer (some ⟨w.heap.size+4,0,none⟩)/\s8= .pointer (some ⟨w.heap.size+5,0,none⟩)/\DM w wx m n 0 0)
  case first=>
   obtain⟨k0,k1,k2⟩:=zF wc none none 0 0 0 0;rw[cu]at k1 k2;have hB:=ay.trans (k0.mono ay.size);have nn:∀wz,aV w.heap.size wz (.agg #[.slice none (nl 0) 0]) 0:=λwz=>by rw[bK];exact aV.of_zero
   have hD:DM w ((wc.alloc (.cells #[.slice none 0 0] 31)).alloc (.cells #[.slice none 0 0] 31)) m n 0 0:=
    ⟨hB,Va.mono k0,Vb.mono k0,a1.mono k0 a1.lt,a2.mono k0 a2.lt,⟨none,0,by rw[bK];exact k1,nn _⟩,⟨none,0,by rw[bK];exact k2,nn _⟩⟩
   go_wp2_with fail
   go_meet;case rel=>exact⟨rfl,rfl,hD⟩
  case rest=>
   clear Va Vb a1 a2 ay cu;obtain⟨rfl,rfl,C⟩:=hcut;have hq0:∀K:Nat,True:=λ_=>trivial
   obtain⟨yb,db,qb,ib⟩:=C.vb;have eb:=qb.cell;obtain⟨ya,da,qa,ia⟩:=C.va;have ea:=qa.cell;have e9:((nl n:Nat):Int)≠0:=no
   go_wp2_with fail
   refine(zJ _ m _ ia b9).mono ?_;rintro e w1 ⟨rfl,bb⟩
   replace C:=C.mono bb
   clear ea qa ia eb qb ib bb;have ew:eH m<=32000000000000:=AG (len2_le hm) it;have HL:=AE (lt_len2 m);generalize eH m=K at *;go_wp2_with fail
   go_loopw [9] (λs9 wr=>∃k:Nat,k<=K/\s9= .int .i64 ((k:Int) - 1)/\DM w wr m n (m / 2^k / n) (m / 2^k % n)) (λs9 _=>((intOf s9)+1).toNat)
   case atStart=>exact⟨K,AI _,rfl,by rw[Cz HL.out,Nat.zero_div,Nat.zero_mod];exact C⟩
   case round=>
    clear C;obtain⟨k,hk,rfl,C⟩:=hrel
    cases k with
    | zero=>
     rw[DP,Nat.div_one]at C;obtain⟨aq,cq,kq,nq⟩:=C.vq;obtain⟨ar,cr,kr,nr⟩:=C.vr;have c4:=kq.cell;have c5:=kr.cell;have f2:=C.r1.frozen;have f3:=C.r2.frozen;have c2:=C.r1.cell;have c3:=C.r2.cell;have b2:=C.fin kq nq kr nr;obtain⟨q0,U⟩:∃N:Nat,Hid (N=m / n):=⟨_,AE rfl⟩;obtain⟨r0,V⟩:∃N:Nat,Hid (N=m % n):=⟨_,AE rfl⟩;rw[<-U.out,<-V.out]at C;rw[<-U.out]at kq nq;rw[<-V.out]at kr nr;clear b2 c2 c3 c4 c5 f2 f3;go_upto_region 12 with(fail)
     refine Ds Aa ?_
     change wpAny _ _ _ _ _ _ _ (CA _)
     have bz:mBw wr (CA wr):=aN (AH _ _) 1;have I:=C.mono bz;have ab:=kq.mono bz kq.lt;have ac:=kr.mono bz kr.lt;have eq:=nq.mono bz;have et:=nr.mono bz;clear bz;generalize CA wr=w3 at *;have c4:=ab.cell;have c5:=ac.cell;have f2:=I.r1.frozen;have c2:=I.r1.cell;have em:=ac.setOther ⟨w.heap.size+2,0,none⟩ (.slice aq (nl q0) cq) Ad;have eP:=em.cell;have c9:=I.r2.setOther ⟨w.heap.size+2,0,none⟩ (.slice aq (nl q0) cq) Ad;have ez:=c9.cell;have e4:=c9.frozen;obtain⟨p1,p2,p3,p4,p5⟩:=I.fin ab eq ac et _ (.inl rfl);have c6:=p1.cell;have c7:=p2.cell;refine eI (some 49) 0 2 (?v12_0_1) rfl rfl it rfl rfl Aa Aa (λ_ _ _ h=>h) ⟨Af,?hy12_0_1⟩ ?_;case hy12_0_1=>(go_simp;try with_reducible rfl)
     try simp only[AL,AO,AP,AQ]
     refine BX (rs:=[1,2]) Aa Ad ?_;refine BI rfl (λK H=> ?_) ?_
     ·go_simp
      refine H _ _ ?_;clear H K;try simp only[AL,AO,AP,AQ]
      refine BX (rs:=[2]) Aa Ad ?_;refine BI rfl (λK H=> ?_) BV;go_simp;refine H _ _ ?_;clear H K;try simp only[AL,AO,AP,AQ]
      refine BX (rs:=[3]) Aa Ad ?_;refine BI rfl (λK H=> ?_) BV;go_simp;refine H _ _ ?_;clear H K;refine gN (some 6) 4 (?v12_4_5) rfl rfl Aa Aa Aa (λ_ _ _ h=>h) (AX ⟨Af,?hy12_4_5⟩) ?_;case hy12_4_5=>(intro w;go_simp;try with_reducible rfl)
      try simp only[AL,AO,AP,AQ]
      refine CK Aa ?_ _;go_wp2;exact Ba (qN rfl _ _ (w.heap.size+2) (w.heap.size+3) _ _ _ rfl rfl rfl c6 c7) rfl ⟨_,_,rfl,by rw[<-U.out];exact p3,by rw[<-V.out];exact p4,p5⟩
     refine BI rfl (λK H=> ?_) ?_
     ·go_simp
      refine H _ _ ?_;clear H K;try simp only[AL,AO,AP,AQ]
      refine BX (rs:=[1]) Aa Ad ?_;refine BI rfl (λK H=> ?_) BV;go_simp;refine H _ _ ?_;clear H K;try simp only[AL,AO,AP,AQ]
      refine BX (rs:=[3]) Aa Ad ?_;refine BI rfl (λK H=> ?_) BV;go_simp;refine H _ _ ?_;clear H K;refine gN (some 6) 4 (?v12_4_8) rfl rfl Aa Aa Aa (λ_ _ _ h=>h) (AX ⟨Af,?hy12_4_8⟩) ?_;case hy12_4_8=>(intro w;go_simp;try with_reducible rfl)
      try simp only[AL,AO,AP,AQ]
      refine CK Aa ?_ _;go_wp2;exact Ba (qN rfl _ _ (w.heap.size+2) (w.heap.size+3) _ _ _ rfl rfl rfl c6 c7) rfl ⟨_,_,rfl,by rw[<-U.out];exact p3,by rw[<-V.out];exact p4,p5⟩
     exact BV
    | succ k=>
     have b8:k<=60000000000000:=no
     have e:(((k+1:Nat):Int) - 1)=(k:Int):=no
     simp only[e];clear e;have aa:=dm_round (m:=m) (n:=n) (k:=k) (Dy a4.out);have cp:=Bt (m / 2^(k+1)) (Dy a4.out);have cl:m / 2^(k+1) / n<=m:=AG (Ea _ _) (Ea _ _);have cm:m / 2^k / n<=m:=AG (Ea _ _) (Ea _ _);have Y:=AE aa;clear aa;obtain⟨q,hq⟩:∃q:Nat,Hid (q=m / 2^(k+1) / n):=⟨_,AE rfl⟩;obtain⟨r,hr⟩:∃r:Nat,Hid (r=m / 2^(k+1) % n):=⟨_,AE rfl⟩;obtain⟨b,hb⟩:∃b:Nat,Hid (b=m / 2^k % 2):=⟨_,AE rfl⟩;rw[<-hq.out,<-hr.out]at C;rw[<-hq.out]at cl;rw[<-hr.out]at cp;have aa:=Y.out;rw[<-hq.out,<-hr.out,<-hb.out]at aa;have Y:=AE aa;clear aa;have e5:b<=1:=by have:=hb.out;omega
     obtain⟨S,hS⟩:∃S:Nat,Hid (S=r+r):=⟨_,AE rfl⟩;obtain⟨J,Z⟩:∃J:Nat,Hid (J=S+b):=⟨_,AE rfl⟩;have cn:nl r<=1000000000000:=qS (Nat.le_of_lt cp) hn;have cd:nl q<=1000000000000:=qS cl hm;have ee:nl S<=1000000000000:=xj (b:=n) (by have:=hS.out;omega) hn;have am:nl J<=1000000000000:=xj (b:=n) (by have:=hS.out;have:=Z.out;omega) hn;have ef:nl b<=1000000000000:=nlb (by have:(2:Nat)<=4294967296^4:=it;omega);obtain⟨x8,c8,k8,n8⟩:=C.vr;have f8:=k8.frozen;go_upto_region 7 with(fail)
     refine abL Tryz.f262 7 (dmTab7 w m r k S b J) (λ_=>false) 4 1 Aa Aa Aa Aa (jp.of_all (λ_ h=>by cases h) _) ?_ ?_
     ·refine⟨λa' w' F=>⟨_,rfl,ah rfl,(bA rfl (F.keep 8 (Cq (some ⟨w.heap.size+5,0,none⟩)) Aa rfl).is (C.vr.isI.mono F.below)).b⟩,?_⟩;refine⟨λa' w' F=>⟨_,rfl,ah rfl,(bA rfl (F.keep 8 (Cq (some ⟨w.heap.size+5,0,none⟩)) Aa rfl).is (C.vr.isI.mono F.below)).b⟩,?_⟩;refine⟨λa' w' F=>⟨_,rfl,ah rfl,(arm_rAdd rfl (F.f 0 rfl) (F.f 1 rfl) (cn) (cn) hS.out.symm).b⟩,?_⟩;refine⟨λa' w' F=>⟨_,rfl,ah rfl,(bA rfl (F.keep 2 (Cq (some ⟨w.heap.size,0,none⟩)) Aa rfl).is (C.va.mono F.below)).b⟩,?_⟩;refine⟨λa' w' F=>⟨_,rfl,ah rfl,(bj (.inl rfl) (F.keep 9 (AN Bf ((k:Nat))) Aa rfl).is).b⟩,?_⟩;refine⟨λa' w' F=>⟨_,rfl,ah rfl,(arm_bit rfl (F.f 3 rfl) (F.f 4 rfl) (b9) b8 hb.out.symm).b⟩,?_⟩;refine⟨λa' w' F=>⟨_,rfl,ah rfl,(abM (n:=b) rfl (F.f 5 rfl) no).b⟩,?_⟩;refine⟨λa' w' F=>⟨_,rfl,ah rfl,(tH (AG C.below.size F.below.size) rfl (F.f 2 rfl) (F.f 6 rfl) (ee) (ef) Z.out.symm).b⟩,?_⟩;exact trivial
     intro gp wp bp G Gs;obtain⟨v7,e7,n7⟩:∃v,gp 7=v/\aV w.heap.size wp v J:=⟨_,rfl,G 7 32 _ rfl⟩;obtain⟨x7,c7,rfl,be,cx⟩:=n7;have n7:aV w.heap.size wp (.agg #[.slice x7 (nl J) c7]) J:=⟨x7,c7,rfl,be,cx⟩;have bO:=C.mono bp;have ak:=bO.setr n7;have d5:=(k8.mono bp k8.lt).frozen;have d1:=(k8.mono bp k8.lt).cell;clear G Gs be cx f8;simp only[dmTab7];simp only[cK,aG,Bq,BS,Cd,Ck,AL,AO,AP,AQ,e7];refine pM 8 Aa rfl rfl rfl rfl rfl rfl ⟨_,_,_,rfl⟩ (k8.mono bp k8.lt) ?_;refine CK Aa ?_ _;generalize wp.setCell ⟨w.heap.size+5,0,none⟩ (.slice x7 (nl J) c7)=w7 at *;clear C bO bp n7 k8 n8 d5 d1 e7;obtain⟨Q2,ax⟩:∃N:Nat,Hid (N=q+q):=⟨_,AE rfl⟩;obtain⟨yq,dq,kq,nq⟩:=ak.vq;have d4:=kq.cell;go_wp2_with fail
     refine(ki _ _ q q _ nq.isN nq.isN cd cd).mono ?_;rintro e w8 ⟨v8,rfl,nn,bb⟩;rw[<-ax.out]at nn;obtain⟨x8,c8,rfl,bi,cz⟩:=nn;have I:=ak.mono bb;have n8:aV w.heap.size w8 (.agg #[.slice x8 (nl Q2) c8]) Q2:=aV.weaken (base:=w7.heap.size) ⟨x8,c8,rfl,bi,cz⟩ ak.below.size;have a0:=I.setq n8;obtain⟨ff,eS,ab,_⟩:=I.vq;have d2:=ab.cell;have ed:=ab.frozen;obtain⟨yr,dr,kr,nr⟩:=a0.vr;have er:=kr.cell;obtain⟨yb,d3,kb,ib⟩:=a0.vb;have eb:=kb.cell;clear d4 kq nq cz bi;go_wp2_with fail
     refine(nE _ _ J n _ nr.isN ib am cc).mono ?_;rintro e w9 ⟨rfl,dT⟩;have ad:=a0.mono dT;clear er eb kr nr kb ib d2 ed ab n8 ak I bb;by_cases hge:n<=J
     ·have e6:¬cmpI J n<0:=by
       rcases Bg n J with h | h
       ·rw[kf h];decide
       ·rw[lP no];decide
      have ao:n<=r+r+b:=by have:=Z.out;have:=hS.out;omega
      obtain⟨R2,a6⟩:∃N:Nat,Hid (N=J - n):=⟨_,AE rfl⟩;obtain⟨T,hT⟩:∃N:Nat,Hid (N=Q2+1):=⟨_,AE rfl⟩;have e1:m / 2^k / n=T:=by rw[(Y.out.1 ao).1,hT.out,ax.out]
      have e2:m / 2^k % n=R2:=by rw[(Y.out.1 ao).2,a6.out,Z.out,hS.out]
      have E1:=AE e1;have E2:=AE e2;have a7:nl Q2<=1000000000000:=by
       refine qS (b:=m) ?_ hm;have:=hT.out;rw[e1]at cm;omega
      clear e1 e2;obtain⟨yr,dr,kr,nr⟩:=ad.vr;have er:=kr.cell;obtain⟨yb,d3,kb,ib⟩:=ad.vb;have eb:=kb.cell;go_wp2_with fail
      refine(tG _ _ J n _ nr.isN ib am cc).mono ?_;rintro e ds ⟨fd,rfl,nn,a5⟩;rw[<-a6.out]at nn;obtain⟨a3,av,rfl,an,au⟩:=nn;have b0:=ad.mono a5;have ep:aV w.heap.size ds (.agg #[.slice a3 (nl R2) av]) R2:=aV.weaken (base:=w9.heap.size) ⟨a3,av,rfl,an,au⟩ ad.below.size;have C:=b0.setr ep;obtain⟨fs,e3,ac,_⟩:=b0.vr;have eQ:=ac.cell;have fr3:=ac.frozen;clear er eb kr nr kb ib au an;go_upto_region 11 with(fail)
      refine abL Tryz.f262 11 (abO w Q2 T) (λ_=>false) 4 1 Aa Aa Aa Aa (jp.of_all (λ_ h=>by cases h) _) ?_ ?_
      ·refine⟨λa' w' F=>⟨_,rfl,ah rfl,(bA rfl (F.keep 7 (Cq (some ⟨w.heap.size+4,0,none⟩)) Aa rfl).is (C.vq.isI.mono F.below)).b⟩,?_⟩;refine⟨λa' w' F=>⟨_,rfl,ah rfl,(abM (n:=1) rfl Is.const it).b⟩,?_⟩;refine⟨λa' w' F=>⟨_,rfl,ah rfl,(tH (AG C.below.size F.below.size) rfl (F.f 0 rfl) (F.f 1 rfl) (a7) (nlb it) hT.out.symm).b⟩,?_⟩;exact trivial
      intro gy wy d0 G Gs;generalize ds.setCell ⟨w.heap.size+5,0,none⟩ (.slice a3 (nl R2) av)=w11 at *;obtain⟨v2,e2,n2⟩:∃v,gy 2=v/\aV w.heap.size wy v T:=⟨_,rfl,G 2 48 _ rfl⟩;obtain⟨x2,c2,rfl,a9,cv⟩:=n2;have n2:aV w.heap.size wy (.agg #[.slice x2 (nl T) c2]) T:=⟨x2,c2,rfl,a9,cv⟩;have b1:=C.mono d0;have eg:=b1.setq n2;obtain⟨fq,e0,ek,_⟩:=b1.vq;clear G Gs a9 cv;simp only[abO];simp only[cK,aG,Bq,BS,Cd,Ck,AL,AO,AP,AQ,e2];refine pM 3 Aa rfl rfl rfl rfl rfl rfl ⟨_,_,_,rfl⟩ ek ?_;refine CK Aa ?_ _;go_wp2_with fail
      go_roundw
      case rel=>exact⟨k,no,by go_num,by rw[E1.out,E2.out];exact eg⟩
      case measure=>simp[intOf]<;>omega
     ·have ap:r+r+b<n:=by have:=Z.out;have:=hS.out;omega
      have e1:m / 2^k / n=Q2:=by rw[(Y.out.2 ap).1,ax.out]
      have e2:m / 2^k % n=J:=by rw[(Y.out.2 ap).2,Z.out,hS.out]
      have E1:=AE e1;have E2:=AE e2;clear e1 e2;rw[gL no];go_wp2_with fail
      go_roundw
      case rel=>exact⟨k,no,by go_num,by rw[E1.out,E2.out];exact ad⟩
      case measure=>simp[intOf]<;>omega
end Go.Proofs.YtggfmklppkioeaaGreat
