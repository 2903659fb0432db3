/- The contract of DivMod: the long division. -/
import Derived.Test.YtggfmklppkioeaaGreatM02
import Derived.Deep.CutBlock
import Derived.Laws.IdiomStrings
namespace Go.Proofs.YtggfmklppkioeaaGreat
set_option linter.unusedSimpArgs false
set_option linter.unusedVariables false
set_option maxRecDepth 100000
open Go.RowKit
open _root_.Go renaming Addr → AU,Calls → AC,Ending → BB,Exit → A4,Operand → AP,Program → AW,bodyPost_ret → A7,wpAny_done → CK,wpAny_ready → BU,wpAny_take → A8,wpOp_step → Da,wp_region_any → Do
open _root_.Go.RowKit renaming Below → Bi
open _root_.Go.Act renaming put → AI
open _root_.Go.AllReady renaming cons → BH,nil → BT
open _root_.And renaming intro → By
open _root_.Array renaming getElem?_eq_some_iff → AZ,replicate → Cu
open _root_.Go.RowKit.Below renaming heap_setCell → C3,refl → AF
open _root_.Bool renaming and_eq_true → BN
open _root_.Go.Code renaming region → De
open _root_.Function renaming comp_def → FA
open _root_.Go.IntKind renaming i64 → Be,u64 → BE,wrap_i64 → Ci
open _root_.Go.Lib renaming hid → AA
open _root_.List renaming all_eq_true → Ca,contains_iff_mem → CN,foldl_cons → Cc,foldl_nil → Cj,map_cons → Bq,map_nil → BS,mem_cons → AS,mem_map → Ba,mem_of_getElem? → A0,nodup_cons → Bu,setIfInBounds_toArray → AL,set_cons_succ → AN,set_cons_zero → AM
open _root_.Nat renaming div_add_mod → Cf,div_div_eq_div_mul → CR,div_eq_of_lt → Cz,div_le_self → D6,eq_zero_or_pos → Dc,gcd → AO,le_add_right → Ea,le_refl → AE,le_succ → DR,le_trans → AD,log2_lt → Er,lt_of_le_of_lt → D4,lt_of_lt_of_le → Bt,lt_or_ge → Bc,lt_trans → Dq,mod_eq_of_lt → Cn,mod_lt → Bs,mod_mul_right_div_self → FT,mod_one → CD,mul_add → CG,mul_comm → BV,mul_pos → Ey,mul_zero → CS,pos_of_ne_zero → Du,pow_add → BC,pow_le_pow_right → E4,pow_pos → D3,pow_succ → BO,pow_zero → DJ,zero_add → A5,zero_le → AY
open _root_.Go.Oper renaming wp → Bk
open _root_.Or renaming inl → AR
open _root_.Go.Region renaming ready → BY,wanted → A6
open _root_.Go.Result renaming andThen → AQ
open _root_.Go.Sem renaming run_bind → AH,run_pure → Bw
open _root_.Go.Proofs.Tryz renaming prog → AB
open _root_.Go.Value renaming bool → Cs,int → AK,pointer → Cp,slice → D9
open _root_.Go.World renaming drew → CA,size_alloc → Cr
variable{w w':World}{g L N:Nat}
theorem aY.kept{row:Option Nat}(h:aY w g L N)(F:w.grownBy w' row)(C:some g≠row):aY w' g L N:=h.block (F.block g h.lt C)
theorem Dig.setOther{b off:Nat}(h:Dig w b off L N)(p:AU)(u:Value)(hp:p.block≠b):Dig (w.setCell p u) b off L N:=λj C=>by
 rw[World.cell?_setCell_other _ _ _ _ (by intro e;subst e;exact hp rfl)];exact h j C
theorem unshift(x s i:Nat)(hs:s<32):(D (x*2^s) (i+1)*4294967296+D (x*2^s) i) / 2^s % 4294967296=D x i:=by
 have G:(4294967296:Nat)=2^s*2^(32 - s):=by rw[<-BC,show s+(32 - s)=32 by omega]
 have h2:0<2^s:=D3 it;have C:D (x*2^s) (i+1)*4294967296+D (x*2^s) i=x*2^s / 4294967296^i % (4294967296*4294967296):=by
  unfold D;rw[BO,<-CR,Nat.mod_mul];omega
 have F:(4294967296:Nat)*4294967296=2^s*(2^(32 - s)*4294967296):=by rw[<-Nat.mul_assoc,<-G]
 rw[C,F,FT,Nat.mod_mod_of_dvd _ (Nat.dvd_mul_left _ _),CR,BV (4294967296^i),<-CR,Nat.mul_div_cancel _ h2];rfl
theorem Af{p:Prop}(h:p:=by rfl):p:=h
set_option maxRecDepth 100000 in
set_option maxHeartbeats 4000000 in
theorem sY(va vb:Value)(m n:Nat)(w:World)(ha:IsN w va m)(hb:IsN w vb n)(hm:nl m<=1000000000000)(hn:nl n<=1000000000000)(cr:2<=nl n)(eb:n<=m):
  AC AB 200 #[va,vb] w λe w'=>iW w (m / n) (m % n) 0 e w':=by
 have bp:n≠0:=λh=>by rw[h,bL]at cr;omega
 obtain⟨a,ca,rfl,db,ra⟩:=ha;obtain⟨b,cb,rfl,dc,rb⟩:=hb;have hw:=xF w a b (nl m) ca (nl n) cb;have c4:=ra.mono hw;have c5:=rb.mono hw;have ea:nl m<=9223372036854775807:=no
 have ed:nl n<=9223372036854775807:=no
 have hp:=dV bp;have fx:(((nl n:Nat):Int)==0)=false:=by rw[beq_eq_false_iff_ne];omega
 have fq:0<=cmpI m n:=by unfold cmpI;split<;>first | (exfalso;omega) | (split<;>omega)
 have fc:(((nl n:Nat):Int)==1)=false:=by rw[beq_eq_false_iff_ne];omega
 have cq:nl n<=nl m:=dW eb;have eS:=AA (z6 bp);obtain⟨b1,o1,rfl,bi⟩:=rb.cells no;go_enter Tryz.func200,Tryz.ntmps200
 go_wp2_with fail
 go_quiet (first
  | (go_at_call 189;with_reducible exact eD (dX a (nl m) ca m _ ea db (c4.drewN _)))
  | (go_at_call 189;with_reducible exact eD (dX (some ⟨b1,o1,none⟩) (nl n) cb n _ ed dc (c5.drewN _))))
 go_upto_region 2 with(fail)
 go_cut [25] (λeQ wx=>eQ= .bool false/\Res2 w wx (w.heap.size+1+1) (w.heap.size+1+1+1))
 case first=>
  go_wp2_with fail
  go_meet;case rel=>exact⟨rfl,aN hw nq,no,no,Ad,Aj,Aj,Aj,Aj⟩
 case rest=>
  obtain⟨rfl,hr⟩:=hcut;clear hw c4 c5;go_wp2_with fail
  refine(fR a (some ⟨b1,o1,none⟩) _ _ m n _ (ra.mono hr.below) (rb.mono hr.below) no no).mono ?_;rintro e w1 ⟨rfl,q,rfl⟩;have hr1:=hr.drewN q;have c1:=(bi.mono hr1.below (bi.lt no)) (nl n - 1) no;have e1:((nl n:Int) - 1)=((nl n - 1:Nat):Int):=no
  have fs:=cf n (nl n - 1);have ff:=Lib.bitLen_le (D n (nl n - 1)) 32 no no;go_wp2_with fail
  refine(c_lz32 _ _ no no).mono ?_;rintro e w2 ⟨rfl,rfl⟩;rw[Int.toNat_natCast];obtain⟨s,hs,aa,ad,ak⟩:=xG bp;rw[hs];go_upto_region 11 with(fail)
  go_cut [13,14] (λet ew wx=>∃g1 g2 c2,et= .slice (some ⟨g1,0,none⟩) (nl m+1) (nl m+1)/\ew= .slice (some ⟨g2,0,none⟩) (nl n) c2/\aY wx g1 (nl m+1) (m*2^s)/\Dig wx g2 0 (nl n) (n*2^s)/\g2≠g1/\
    Res2 w wx (w.heap.size+1+1) (w.heap.size+1+1+1)/\w.heap.size+1+1+1<g1/\w.heap.size+1+1+1<g2)
  case first=>
   go_region_with (first
    | (go_at_call_of 243 (D9 a (nl m) (nl m));refine(rn a (nl m) (nl m) m s _ (ra.mono (hr.drewN _).below) hm aa).mono ?_;rintro e w2 ⟨g1,rfl,ds,I,a7⟩)
    | (go_at_call_of 243 (D9 (some ⟨b1,o1,none⟩) (nl n) (nl n));refine(rn _ (nl n) (nl n) n s _ (rb.mono ((hr.drewN _).after a7).below) hn aa).mono ?_;rintro e w3 ⟨g2,rfl,fu,ee,b9⟩))
   go_wp2_with fail
   go_meet;have an:=I.lt;have ep:=hr.size;have e7:wc.heap.size<=g1:=ds;have b8:=a7.size;have da:wc.heap.size<=w2.heap.size:=b8;case rel=>exact⟨g1,g2,_,rfl,rfl,I.mono b9 I.lt,λj hj=>ee.dig j no,no,((hr.drewN _).after a7).after b9,no,no⟩
  case rest=>
   obtain⟨g1,g2,c2,rfl,rfl,I,be,ap,bq,cp,e9⟩:=hcut;clear hr hr1 c1 bi;go_upto_region 12 with(fail)
   go_cut [15] (λez wx=>∃H,ez= .slice (some ⟨H,0,none⟩) (nl m - nl n+1:Nat) (nl m - nl n+1:Nat)/\aY wx H (nl m - nl n+1) 0/\aY wx g1 (nl m+1) (m*2^s)/\Dig wx g2 0 (nl n) (n*2^s)/\
     Res2 w wx (w.heap.size+1+1) (w.heap.size+1+1+1)/\w.heap.size+1+1+1<H/\H≠g1/\H≠g2)
   case first=>
    have an:=I.lt;have dT:=be.lt no;have ep:=bq.size;have e2:((nl m:Int) - (nl n:Int)+1)=((nl m - nl n+1:Nat):Int):=no
    have E2:=AA e2;clear e2;go_wp2_with (at_make;refine bF rfl _ _ rfl _ _ _ _ (nl m - nl n+1) rfl rfl no no no ?_)
    go_meet;have hb:=(AF wc.heap.size wc).alloc (AE _) (zrow (nl m - nl n+1));case rel=>exact⟨_,rfl,aY.made _ _,I.mono hb an,be.mono hb dT,bq.after hb,no,no,no⟩
   case rest=>
    obtain⟨H,rfl,cu,a0,ay,cz,Y,b2,c9⟩:=hcut;clear I be bq;go_wp2_with fail
    go_loopw [16] (λeE wr=>∃k:Nat,k<=nl m - nl n+1/\eE= .int .i64 ((k:Int) - 1)/\aY wr H (nl m - nl n+1) (cj (m*2^s) (n*2^s) k)/\aY wr g1 (nl m+1) (dY (m*2^s) (n*2^s) k)/\
      Dig wr g2 0 (nl n) (n*2^s)/\Res2 w wr (w.heap.size+1+1) (w.heap.size+1+1+1))
     (λi _=>(intOf i+1).toNat)
    case atStart=>
     have cm:=abo (n:=n) (eA m) aa no cq ak;have e3:dY (m*2^s) (n*2^s) (nl m - nl n+1)=m*2^s:=uH cm;have e4:cj (m*2^s) (n*2^s) (nl m - nl n+1)=0:=by unfold cj;rw[Cz cm];rfl
     exact⟨nl m - nl n+1,AE _,by rw[show(((nl m - nl n+1:Nat):Int) - 1)=((nl m - nl n:Nat):Int)by omega],by rw[e4];exact cu,by rw[e3];exact a0,ay,cz⟩
    case round=>
     obtain⟨k,hk,rfl,ho,hu,hd,ax⟩:=hrel;clear cu a0 ay cz;have ac:0<n*2^s:=Ey no (D3 it)
     cases k with
     | zero=>
      simp only[show(((0:Nat):Int) - 1)= -1 from rfl];have am:cj (m*2^s) (n*2^s) 0=m / n:=by unfold cj;rw[DJ,Nat.one_mul,Nat.div_one];exact Nat.mul_div_mul_right _ _ (D3 it)
      have aq:dY (m*2^s) (n*2^s) 0=m % n*2^s:=by rw[xH];exact Nat.mul_mod_mul_right _ _ _
      rw[am]at ho;rw[aq]at hu;have a3:m % n<4294967296^nl n:=Dq (Bs _ no) (eA n);clear am aq hd;go_upto_region 17 with(fail)
      go_cut [17] (λeP wx=>∃g4,eP= .slice (some ⟨g4,0,none⟩) (nl n) (nl n)/\aY wx g4 (nl n) 0/\aY wx H (nl m - nl n+1) (m / n)/\Dig wx g1 0 (nl m+1) (m % n*2^s)/\
       Res2 w wx (w.heap.size+1+1) (w.heap.size+1+1+1)/\g1<g4/\H<g4)
      case first=>
       have an:=hu.lt;have cn:=ho.lt;go_wp2_with (at_make;refine bF rfl _ _ rfl _ _ _ _ (nl n) rfl rfl no no no ?_)
       go_meet;have hb:=(AF wr.heap.size wr).alloc (AE _) (zrow (nl n));case rel=>exact⟨_,rfl,aY.made _ _,ho.mono hb cn,hu.dig.mono hb an,ax.after hb,an,cn⟩
      case rest=>
       obtain⟨g4,rfl,ef,cv,dq,ek,c8,a6⟩:=hcut;clear ho hu ax;go_wp2_with fail
       go_loopw [128] (λc6 wq=>∃i:Nat,i<=nl n/\c6= .int .i64 i/\aY wq g4 (nl n) (m % n % 4294967296^i)/\Bi g4 wc wq)
        (λi _=>nl n - (intOf i).toNat)
       case atStart=>exact⟨0,AY _,rfl,by simpa [CD]using ef,AF _ _⟩
       case round=>
        obtain⟨i,hi,rfl,ab,ar⟩:=hrel;by_cases hlt:i<nl n
        ·have cl:=dq.mono ar c8;have c1:=cl i no;have c2:=cl (i+1) no;simp only[A5]at c1 c2;have e0:=cf (m % n*2^s) i;have e6:=cf (m % n*2^s) (i+1);have fy:=or32 (D (m % n*2^s) (i+1)) (D (m % n*2^s) i) no no no no;have c3:=ab.cell hlt;have f3:=ab.frozen i;have b0:Hid (aY (wr.setCell ⟨g4,i,none⟩ (.int .u32 ((D (m % n) i:Nat):Int))) g4 (nl n) (m % n % 4294967296^(i+1))):=by
          show aY _ _ _ _;rw[<-oS];exact ab.store hlt (cf _ _)
         have G:=ar.setCell (p:=⟨g4,i,none⟩) (AE _) (.int .u32 ((D (m % n) i:Nat):Int));have x1:Be.wrap ((i:Int)+1)=(i:Int)+1:=by rw[Ci];omega
         have y1:((i:Int)+1).toNat=i+1:=no
         have z1:BE.wrap ((D (m % n*2^s) (i+1):Nat):Int)=((D (m % n*2^s) (i+1):Nat):Int):=by rw[IntKind.wrap_u64];omega
         have z2:BE.wrap ((D (m % n*2^s) i:Nat):Int)=((D (m % n*2^s) i:Nat):Int):=by rw[IntKind.wrap_u64];omega
         have z3:BE.wrap (((D (m % n*2^s) (i+1):Nat):Int)*4294967296)=((D (m % n*2^s) (i+1):Nat):Int)*4294967296:=by rw[IntKind.wrap_u64];omega
         have c7:=AA (unshift (m % n) s i aa);have z4:IntKind.u32.wrap ((((D (m % n*2^s) (i+1):Nat):Int)*4294967296+((D (m % n*2^s) i:Nat):Int)) / 2^s)=((D (m % n) i:Nat):Int):=by
          rw[<-c7.out,IntKind.wrap_u32];simp
         go_wp2_with fail
         refine Do Aa ?_
         change wpAny _ _ _ _ _ _ _ (CA _)
         refine A8 (i:=0) (v:=?v21_0_1) rfl Aa Aa Aa (λ_ _ _ h=>h) (AR ⟨Af,?hy21_0_1⟩) ?_;case hy21_0_1=>(intro w;go_simp;try with_reducible rfl)
         try simp only[AI,AL,AM,AN]
         refine A8 (i:=1) (v:=?v21_1_2) rfl Aa Aa Aa (λ_ _ _ h=>h) (AR ⟨Af,?hy21_1_2⟩) ?_;case hy21_1_2=>(intro w;go_simp;try with_reducible rfl)
         try simp only[AI,AL,AM,AN]
         refine A8 (i:=2) (v:=?v21_2_3) rfl Aa Aa Aa (λ_ _ _ h=>h) (AR ⟨Af,?hy21_2_3⟩) ?_;case hy21_2_3=>(intro w;go_simp;try with_reducible rfl)
         try simp only[AI,AL,AM,AN]
         refine A8 (i:=3) (v:=?v21_3_4) rfl Aa Aa Aa (λ_ _ _ h=>h) (AR ⟨Af,?hy21_3_4⟩) ?_;case hy21_3_4=>(intro w;go_simp;try with_reducible rfl)
         try simp only[AI,AL,AM,AN]
         refine A8 (i:=4) (v:=?v21_4_5) rfl Aa Aa Aa (λ_ _ _ h=>h) (AR ⟨Af,?hy21_4_5⟩) ?_;case hy21_4_5=>(intro w;go_simp;try with_reducible rfl)
         try simp only[AI,AL,AM,AN]
         refine A8 (i:=5) (v:=?v21_5_6) rfl Aa Aa Aa (λ_ _ _ h=>h) (AR ⟨Af,?hy21_5_6⟩) ?_;case hy21_5_6=>(intro w;go_simp;first | with_reducible rfl | rw[if_pos no];try with_reducible rfl)
         try simp only[AI,AL,AM,AN]
         refine A8 (i:=9) (v:=?v21_9_7) rfl Aa Aa Aa (λ_ _ _ h=>h) (AR ⟨Af,?hy21_9_7⟩) ?_;case hy21_9_7=>(intro w;go_simp;try with_reducible rfl)
         try simp only[AI,AL,AM,AN]
         refine A8 (i:=10) (v:=?v21_10_8) rfl Aa Aa Aa (λ_ _ _ h=>h) (AR ⟨Af,?hy21_10_8⟩) ?_;case hy21_10_8=>(intro w;go_simp;try with_reducible rfl)
         try simp only[AI,AL,AM,AN]
         refine A8 (i:=11) (v:=?v21_11_9) rfl Aa Aa Aa (λ_ _ _ h=>h) (AR ⟨Af,?hy21_11_9⟩) ?_;case hy21_11_9=>(intro w;go_simp;first | with_reducible rfl | rw[if_pos no];try with_reducible rfl)
         try simp only[AI,AL,AM,AN]
         refine A8 (i:=15) (v:=?v21_15_10) rfl Aa Aa Aa (λ_ _ _ h=>h) (AR ⟨Af,?hy21_15_10⟩) ?_;case hy21_15_10=>(intro w;go_simp;try with_reducible rfl)
         try simp only[AI,AL,AM,AN]
         refine BU (rs:=[6,12]) Aa Ad ?_;refine BH rfl (λK F=> ?_) ?_
         ·go_simp
          refine F _ _ ?_;clear F K;try simp only[AI,AL,AM,AN]
          refine A8 (i:=7) (v:=?v21_7_12) rfl Aa Aa Aa (λ_ _ _ h=>h) (AR ⟨Af,?hy21_7_12⟩) ?_;case hy21_7_12=>(intro w;go_simp;try with_reducible rfl)
          try simp only[AI,AL,AM,AN]
          refine A8 (i:=8) (v:=?v21_8_13) rfl Aa Aa Aa (λ_ _ _ h=>h) (AR ⟨Af,?hy21_8_13⟩) ?_;case hy21_8_13=>(intro w;go_simp;try with_reducible rfl)
          try simp only[AI,AL,AM,AN]
          refine BU (rs:=[12]) Aa Ad ?_;refine BH rfl (λK F=> ?_) BT;go_simp;refine F _ _ ?_;clear F K;try simp only[AI,AL,AM,AN]
          refine A8 (i:=13) (v:=?v21_13_15) rfl Aa Aa Aa (λ_ _ _ h=>h) (AR ⟨Af,?hy21_13_15⟩) ?_;case hy21_13_15=>(intro w;go_simp;try with_reducible rfl)
          try simp only[AI,AL,AM,AN]
          refine A8 (i:=14) (v:=?v21_14_16) rfl Aa Aa Aa (λ_ _ _ h=>h) (AR ⟨Af,?hy21_14_16⟩) ?_;case hy21_14_16=>(intro w;go_simp;try with_reducible rfl)
          try simp only[AI,AL,AM,AN]
          refine A8 (i:=16) (v:=?v21_16_17) rfl Aa Aa Aa (λ_ _ _ h=>h) (AR ⟨Af,?hy21_16_17⟩) ?_;case hy21_16_17=>(intro w;go_simp;try with_reducible rfl)
          try simp only[AI,AL,AM,AN]
          refine A8 (i:=17) (v:=?v21_17_18) rfl Aa Aa Aa (λ_ _ _ h=>h) (AR ⟨Af,?hy21_17_18⟩) ?_;case hy21_17_18=>(intro w;go_simp;try with_reducible rfl)
          try simp only[AI,AL,AM,AN]
          refine A8 (i:=18) (v:=?v21_18_19) rfl Aa Aa Aa (λ_ _ _ h=>h) (AR ⟨Af,?hy21_18_19⟩) ?_;case hy21_18_19=>(intro w;go_simp;first | with_reducible rfl | rw[if_pos no];try with_reducible rfl)
          try simp only[AI,AL,AM,AN]
          refine BU (rs:=[19]) Aa Ad ?_;refine BH rfl (λK F=> ?_) BT;go_simp;refine F _ _ ?_;clear F K;refine CK Aa ?_ _;go_wp2_with fail
          go_roundw
          case rel=>exact⟨i+1,no,by go_num,b0.out.block rfl,⟨G.os,G.tape,G.output,G.size,G.block⟩⟩
          case measure=>simp[intOf];omega
         refine BH rfl (λK F=> ?_) ?_
         ·go_simp
          refine F _ _ ?_;clear F K;try simp only[AI,AL,AM,AN]
          refine A8 (i:=13) (v:=?v21_13_21) rfl Aa Aa Aa (λ_ _ _ h=>h) (AR ⟨Af,?hy21_13_21⟩) ?_;case hy21_13_21=>(intro w;go_simp;try with_reducible rfl)
          try simp only[AI,AL,AM,AN]
          refine BU (rs:=[6]) Aa Ad ?_;refine BH rfl (λK F=> ?_) BT;go_simp;refine F _ _ ?_;clear F K;try simp only[AI,AL,AM,AN]
          refine A8 (i:=7) (v:=?v21_7_23) rfl Aa Aa Aa (λ_ _ _ h=>h) (AR ⟨Af,?hy21_7_23⟩) ?_;case hy21_7_23=>(intro w;go_simp;try with_reducible rfl)
          try simp only[AI,AL,AM,AN]
          refine A8 (i:=8) (v:=?v21_8_24) rfl Aa Aa Aa (λ_ _ _ h=>h) (AR ⟨Af,?hy21_8_24⟩) ?_;case hy21_8_24=>(intro w;go_simp;try with_reducible rfl)
          try simp only[AI,AL,AM,AN]
          refine A8 (i:=14) (v:=?v21_14_25) rfl Aa Aa Aa (λ_ _ _ h=>h) (AR ⟨Af,?hy21_14_25⟩) ?_;case hy21_14_25=>(intro w;go_simp;try with_reducible rfl)
          try simp only[AI,AL,AM,AN]
          refine A8 (i:=16) (v:=?v21_16_26) rfl Aa Aa Aa (λ_ _ _ h=>h) (AR ⟨Af,?hy21_16_26⟩) ?_;case hy21_16_26=>(intro w;go_simp;try with_reducible rfl)
          try simp only[AI,AL,AM,AN]
          refine A8 (i:=17) (v:=?v21_17_27) rfl Aa Aa Aa (λ_ _ _ h=>h) (AR ⟨Af,?hy21_17_27⟩) ?_;case hy21_17_27=>(intro w;go_simp;try with_reducible rfl)
          try simp only[AI,AL,AM,AN]
          refine A8 (i:=18) (v:=?v21_18_28) rfl Aa Aa Aa (λ_ _ _ h=>h) (AR ⟨Af,?hy21_18_28⟩) ?_;case hy21_18_28=>(intro w;go_simp;first | with_reducible rfl | rw[if_pos no];try with_reducible rfl)
          try simp only[AI,AL,AM,AN]
          refine BU (rs:=[19]) Aa Ad ?_;refine BH rfl (λK F=> ?_) BT;go_simp;refine F _ _ ?_;clear F K;refine CK Aa ?_ _;go_wp2_with fail
          go_roundw
          case rel=>exact⟨i+1,no,by go_num,b0.out.block rfl,⟨G.os,G.tape,G.output,G.size,G.block⟩⟩
          case measure=>simp[intOf];omega
         exact BT
        ·obtain rfl:i=nl n:=no
         have e1:=Cn a3;rw[e1]at ab;clear e1 a3;have cx:=cv.mono ar a6;have em:=ek.step ar (Dq Y a6);have d5:=ab.lt;go_wp2_with fail
         refine(gY _ (nl m - nl n+1) _ (m / n) _ no (AE _) cx.rw').mono ?_;rintro e w3 ⟨rfl,a9⟩;have av:=em.after a9;have eg:=aU.of_own (base:=w.heap.size+1+1+1+1) cx a9 Y;have a1:=ab.mono a9 d5;go_wp2_with fail
         refine(gY _ (nl n) _ (m % n) _ no (AE _) a1.rw').mono ?_;rintro e w4 ⟨rfl,bb⟩;have J:=av.after bb;have ej:=eg.mono bb;have er:=aU.of_own (base:=w.heap.size+1+1+1+1) a1 bb (Dq Y a6);obtain⟨q1,q2,q3,q4⟩:=By J.cell1 (By J.cell2 (By J.frozen1 J.frozen2));go_wp2;exact J.ret ej er rfl rfl rfl rfl
     | succ k=>
      have hC:=remAt_lt (U:=m*2^s) (k:=k) ac ad;have hW:dY (m*2^s) (n*2^s) (k+1) / 4294967296^k<n*2^s*4294967296:=by rw[nD];exact win_lt _ _ _ ac
      have HK:=knuth cr ad ak hC hW;have HQ:=quo_step (m*2^s) (n*2^s) k ac;have HR:=xI (m*2^s) (n*2^s) k ac;generalize hCC:dY (m*2^s) (n*2^s) (k+1)=C at *;generalize hVV:n*2^s=V at *;have u0:=hu.cell (p:=k+nl n) no;have u1:=hu.cell (p:=k+nl n - 1) no;have u2:=hu.cell (p:=k+nl n - 2) no;have v1:=hd (nl n - 1) no;have v2:=hd (nl n - 2) no;simp only[A5]at v1 v2;have d0:=cf C (k+nl n);have d1:=cf C (k+nl n - 1);have d2:=cf C (k+nl n - 2);have d3:=cf V (nl n - 1);have d4:=cf V (nl n - 2);have e:(((k+1:Nat):Int) - 1)=(k:Int):=no
      have e3:((k:Int)+(nl n:Int) - 1)=((k+nl n - 1:Nat):Int):=no
      have e4:((k:Int)+(nl n:Int) - 2)=((k+nl n - 2:Nat):Int):=no
      have e5:((nl n:Int) - 2)=((nl n - 2:Nat):Int):=no
      simp only[e];clear e;have x1:Be.wrap ((k:Int)+(nl n:Int))=(k:Int)+(nl n:Int):=by rw[Ci];omega
      have y1:((k:Int)+(nl n:Int)).toNat=k+nl n:=no
      have x2:Be.wrap ((k+nl n - 1:Nat):Int)=((k+nl n - 1:Nat):Int):=by rw[Ci];omega
      have x3:Be.wrap ((k+nl n - 2:Nat):Int)=((k+nl n - 2:Nat):Int):=by rw[Ci];omega
      have x4:Be.wrap ((nl n - 1:Nat):Int)=((nl n - 1:Nat):Int):=by rw[Ci];omega
      have x5:Be.wrap ((nl n - 2:Nat):Int)=((nl n - 2:Nat):Int):=by rw[Ci];omega
      have fd:=HK.1;have a4:=AA HK.2;have a5:=AA HQ;have bO:=AA HR;have bz:=AA hC;clear HK HQ HR hC hW hVV hCC;go_upto_region 16 with(fail)
      refine Do Aa ?_
      change wpAny _ _ _ _ _ _ _ (CA _)
      refine A8 (i:=0) (v:=?v16_0_1) rfl Aa Aa Aa (λ_ _ _ h=>h) (AR ⟨Af,?hy16_0_1⟩) ?_;case hy16_0_1=>(intro w;go_simp;try with_reducible rfl)
      try simp only[AI,AL,AM,AN]
      refine A8 (i:=1) (v:=?v16_1_2) rfl Aa Aa Aa (λ_ _ _ h=>h) (AR ⟨Af,?hy16_1_2⟩) ?_;case hy16_1_2=>(intro w;go_simp;try with_reducible rfl)
      try simp only[AI,AL,AM,AN]
      refine A8 (i:=2) (v:=?v16_2_3) rfl Aa Aa Aa (λ_ _ _ h=>h) (AR ⟨Af,?hy16_2_3⟩) ?_;case hy16_2_3=>(intro w;go_simp;try with_reducible rfl)
      try simp only[AI,AL,AM,AN]
      refine A8 (i:=3) (v:=?v16_3_4) rfl Aa Aa Aa (λ_ _ _ h=>h) (AR ⟨Af,?hy16_3_4⟩) ?_;case hy16_3_4=>(intro w;go_simp;try with_reducible rfl)
      try simp only[AI,AL,AM,AN]
      refine A8 (i:=4) (v:=?v16_4_5) rfl Aa Aa Aa (λ_ _ _ h=>h) (AR ⟨Af,?hy16_4_5⟩) ?_;case hy16_4_5=>(intro w;go_simp;try with_reducible rfl)
      try simp only[AI,AL,AM,AN]
      refine A8 (i:=5) (v:=?v16_5_6) rfl Aa Aa Aa (λ_ _ _ h=>h) (AR ⟨Af,?hy16_5_6⟩) ?_;case hy16_5_6=>(intro w;go_simp;try with_reducible rfl)
      try simp only[AI,AL,AM,AN]
      refine A8 (i:=6) (v:=?v16_6_7) rfl Aa Aa Aa (λ_ _ _ h=>h) (AR ⟨Af,?hy16_6_7⟩) ?_;case hy16_6_7=>(intro w;go_simp;try with_reducible rfl)
      try simp only[AI,AL,AM,AN]
      refine A8 (i:=7) (v:=?v16_7_8) rfl Aa Aa Aa (λ_ _ _ h=>h) (AR ⟨Af,?hy16_7_8⟩) ?_;case hy16_7_8=>(intro w;go_simp;try with_reducible rfl)
      try simp only[AI,AL,AM,AN]
      refine A8 (i:=8) (v:=?v16_8_9) rfl Aa Aa Aa (λ_ _ _ h=>h) (AR ⟨Af,?hy16_8_9⟩) ?_;case hy16_8_9=>(intro w;go_simp;try with_reducible rfl)
      try simp only[AI,AL,AM,AN]
      refine A8 (i:=9) (v:=?v16_9_10) rfl Aa Aa Aa (λ_ _ _ h=>h) (AR ⟨Af,?hy16_9_10⟩) ?_;case hy16_9_10=>(intro w;go_simp;first | with_reducible rfl | rw[if_pos no];try with_reducible rfl)
      try simp only[AI,AL,AM,AN]
      refine A8 (i:=11) (v:=?v16_11_11) rfl Aa Aa Aa (λ_ _ _ h=>h) (AR ⟨Af,?hy16_11_11⟩) ?_;case hy16_11_11=>(intro w;go_simp;try with_reducible rfl)
      try simp only[AI,AL,AM,AN]
      refine A8 (i:=12) (v:=?v16_12_12) rfl Aa Aa Aa (λ_ _ _ h=>h) (AR ⟨Af,?hy16_12_12⟩) ?_;case hy16_12_12=>(intro w;go_simp;try with_reducible rfl)
      try simp only[AI,AL,AM,AN]
      refine A8 (i:=13) (v:=?v16_13_13) rfl Aa Aa Aa (λ_ _ _ h=>h) (AR ⟨Af,?hy16_13_13⟩) ?_;case hy16_13_13=>(intro w;go_simp;try with_reducible rfl)
      try simp only[AI,AL,AM,AN]
      refine A8 (i:=14) (v:=?v16_14_14) rfl Aa Aa Aa (λ_ _ _ h=>h) (AR ⟨Af,?hy16_14_14⟩) ?_;case hy16_14_14=>(intro w;go_simp;try with_reducible rfl)
      try simp only[AI,AL,AM,AN]
      refine A8 (i:=15) (v:=?v16_15_15) rfl Aa Aa Aa (λ_ _ _ h=>h) (AR ⟨Af,?hy16_15_15⟩) ?_;case hy16_15_15=>(intro w;go_simp;try with_reducible rfl)
      try simp only[AI,AL,AM,AN]
      refine A8 (i:=16) (v:=?v16_16_16) rfl Aa Aa Aa (λ_ _ _ h=>h) (AR ⟨Af,?hy16_16_16⟩) ?_;case hy16_16_16=>(intro w;go_simp;first | with_reducible rfl | rw[if_pos no];try with_reducible rfl)
      try simp only[AI,AL,AM,AN]
      refine A8 (i:=18) (v:=?v16_18_17) rfl Aa Aa Aa (λ_ _ _ h=>h) (AR ⟨Af,?hy16_18_17⟩) ?_;case hy16_18_17=>(intro w;go_simp;try with_reducible rfl)
      try simp only[AI,AL,AM,AN]
      refine A8 (i:=19) (v:=?v16_19_18) rfl Aa Aa Aa (λ_ _ _ h=>h) (AR ⟨Af,?hy16_19_18⟩) ?_;case hy16_19_18=>(intro w;go_simp;try with_reducible rfl)
      try simp only[AI,AL,AM,AN]
      refine A8 (i:=20) (v:=?v16_20_19) rfl Aa Aa Aa (λ_ _ _ h=>h) (AR ⟨Af,?hy16_20_19⟩) ?_;case hy16_20_19=>(intro w;go_simp;try with_reducible rfl)
      try simp only[AI,AL,AM,AN]
      refine A8 (i:=21) (v:=?v16_21_20) rfl Aa Aa Aa (λ_ _ _ h=>h) (AR ⟨Af,?hy16_21_20⟩) ?_;case hy16_21_20=>(intro w;go_simp;try with_reducible rfl)
      try simp only[AI,AL,AM,AN]
      refine A8 (i:=22) (v:=?v16_22_21) rfl Aa Aa Aa (λ_ _ _ h=>h) (AR ⟨Af,?hy16_22_21⟩) ?_;case hy16_22_21=>(intro w;go_simp;try with_reducible rfl)
      try simp only[AI,AL,AM,AN]
      refine A8 (i:=23) (v:=?v16_23_22) rfl Aa Aa Aa (λ_ _ _ h=>h) (AR ⟨Af,?hy16_23_22⟩) ?_;case hy16_23_22=>(intro w;go_simp;first | with_reducible rfl | rw[if_pos no];try with_reducible rfl)
      try simp only[AI,AL,AM,AN]
      refine A8 (i:=25) (v:=?v16_25_23) rfl Aa Aa Aa (λ_ _ _ h=>h) (AR ⟨Af,?hy16_25_23⟩) ?_;case hy16_25_23=>(intro w;go_simp;try with_reducible rfl)
      try simp only[AI,AL,AM,AN]
      refine A8 (i:=26) (v:=?v16_26_24) rfl Aa Aa Aa (λ_ _ _ h=>h) (AR ⟨Af,?hy16_26_24⟩) ?_;case hy16_26_24=>(intro w;go_simp;try with_reducible rfl)
      try simp only[AI,AL,AM,AN]
      refine A8 (i:=27) (v:=?v16_27_25) rfl Aa Aa Aa (λ_ _ _ h=>h) (AR ⟨Af,?hy16_27_25⟩) ?_;case hy16_27_25=>(intro w;go_simp;try with_reducible rfl)
      try simp only[AI,AL,AM,AN]
      refine A8 (i:=28) (v:=?v16_28_26) rfl Aa Aa Aa (λ_ _ _ h=>h) (AR ⟨Af,?hy16_28_26⟩) ?_;case hy16_28_26=>(intro w;go_simp;first | with_reducible rfl | rw[if_pos no];try with_reducible rfl)
      try simp only[AI,AL,AM,AN]
      refine A8 (i:=30) (v:=?v16_30_27) rfl Aa Aa Aa (λ_ _ _ h=>h) (AR ⟨Af,?hy16_30_27⟩) ?_;case hy16_30_27=>(intro w;go_simp;try with_reducible rfl)
      try simp only[AI,AL,AM,AN]
      refine A8 (i:=31) (v:=?v16_31_28) rfl Aa Aa Aa (λ_ _ _ h=>h) (AR ⟨Af,?hy16_31_28⟩) ?_;case hy16_31_28=>(intro w;go_simp;try with_reducible rfl)
      try simp only[AI,AL,AM,AN]
      refine A8 (i:=32) (v:=?v16_32_29) rfl Aa Aa Aa (λ_ _ _ h=>h) (AR ⟨Af,?hy16_32_29⟩) ?_;case hy16_32_29=>(intro w;go_simp;try with_reducible rfl)
      try simp only[AI,AL,AM,AN]
      refine A8 (i:=33) (v:=?v16_33_30) rfl Aa Aa Aa (λ_ _ _ h=>h) (AR ⟨Af,?hy16_33_30⟩) ?_;case hy16_33_30=>(intro w;go_simp;first | with_reducible rfl | rw[if_pos no];try with_reducible rfl)
      try simp only[AI,AL,AM,AN]
      refine cS 10 35 (?v16_10_31) rfl it rfl rfl Aa Aa (λ_ _ _ h=>h) ⟨Af,?hy16_10_31⟩ ?_;case hy16_10_31=>(go_simp;try with_reducible rfl)
      try simp only[AI,AL,AM,AN]
      refine cS 17 35 (?v16_17_32) rfl it rfl rfl Aa Aa (λ_ _ _ h=>h) ⟨Af,?hy16_17_32⟩ ?_;case hy16_17_32=>(go_simp;try with_reducible rfl)
      try simp only[AI,AL,AM,AN]
      refine cS 24 35 (?v16_24_33) rfl it rfl rfl Aa Aa (λ_ _ _ h=>h) ⟨Af,?hy16_24_33⟩ ?_;case hy16_24_33=>(go_simp;try with_reducible rfl)
      try simp only[AI,AL,AM,AN]
      refine cS 29 35 (?v16_29_34) rfl it rfl rfl Aa Aa (λ_ _ _ h=>h) ⟨Af,?hy16_29_34⟩ ?_;case hy16_29_34=>(go_simp;try with_reducible rfl)
      try simp only[AI,AL,AM,AN]
      refine BU (rs:=[34]) Aa Ad ?_;refine BH rfl (λK F=> ?_) BT;go_simp;refine F _ _ ?_;clear F K;try simp only[AI,AL,AM,AN]
      refine BU (rs:=[35]) Aa Ad ?_;refine BH rfl (λK F=> ?_) BT;go_simp;refine(c_guess _ _ _ _ _ _ no no no no no no).mono ?_;rintro e w5 ⟨rfl,q5,rfl⟩;refine F _ _ ?_;clear F K;try simp only[AI,AL,AM,AN]
      refine BU (rs:=[36]) Aa Ad ?_;refine BH rfl (λK F=> ?_) BT;go_simp;refine(c_reduce g1 (nl m+1) _ g2 _ (nl n) k C V (gH 4294967296 ((D C (k+nl n)*4294967296+D C (k+nl n - 1))*4294967296+D C (k+nl n - 2)) (D V (nl n - 1)*4294967296+D V (nl n - 2))) (wr.drewN (1+q5)) (hu.block rfl) hd ad ap no no (D4 (Nat.min_le_left _ _) it) ac bz.out a4.out.1 a4.out.2).mono ?_;rintro e w6 ⟨rfl,bt,P⟩;rw[bO.out]at bt;have cc:Bi g1 wr w6:=(aN (AF g1 wr) (1+q5)).trans (e8 P g1 (Nat.le_of_lt hu.lt) (λk hk=>by cases hk;exact AE _));have av:=ax.step cc cp;have au:aY w6 H _ _:=aY.kept (show aY (wr.drewN (1+q5)) H _ _ from ho.block rfl) P (by simpa using b2);have cd:Dig w6 g2 0 (nl n) V:=Dig.kept (show Dig (wr.drewN (1+q5)) g2 0 (nl n) V from hd) P (by simpa using ap);clear ho hu hd ax P cc a4 bz bO;refine F _ _ ?_;clear F K;try simp only[AI,AL,AM,AN]
      have s0:=au.cell (p:=k) no;have f0:=au.frozen k;have ao:=a5.out.2;have a2:=au.store (p:=k) no ao;rw[a5.out.1]at a2;have eq:=bt.setOther ⟨H,k,none⟩ (.int .u32 ((C / 4294967296^k / V:Nat):Int)) (by exact b2);have dr:=cd.setOther ⟨H,k,none⟩ (.int .u32 ((C / 4294967296^k / V:Nat):Int)) c9;have J:=av.step ((AF H w6).setCell (p:=⟨H,k,none⟩) (AE _) (.int .u32 ((C / 4294967296^k / V:Nat):Int))) Y;clear au bt cd av a5;have fe:=AA ao;clear ao;generalize C / 4294967296^k / V=Z at *;refine A8 (i:=37) (v:=?v16_37_38) rfl Aa Aa Aa (λ_ _ _ h=>h) (AR ⟨Af,?hy16_37_38⟩) ?_;case hy16_37_38=>(intro w;go_simp;first | with_reducible rfl | rw[if_pos no];try with_reducible rfl)
      try simp only[AI,AL,AM,AN]
      refine BU (rs:=[38]) Aa Ad ?_;refine BH rfl (λK F=> ?_) BT;go_simp;refine F _ _ ?_;clear F K;refine CK Aa ?_ _;go_wp2_with fail
      go_roundw
      case rel=>exact⟨k,no,by go_num,a2,eq,dr,J⟩
      case measure=>simp[intOf]
theorem iw(va vb:Value)(m n:Nat)(w:World)(ha:IsN w va m)(hb:IsN w vb n)(C:nl m<=1000000000000)(hn:nl n<=1000000000000)(h0:n≠0):
  AC AB 200 #[va,vb] w λe w'=>iW w (m / n) (m % n) 0 e w':=by
 by_cases hlt:m<n
 ·have:=qT va vb m n w ha hb C hn hlt;rwa [Cz hlt,Cn hlt]
 ·by_cases h1:nl n=1
  ·exact sV va vb m n w ha hb C h1 no
  ·have:=dV h0;exact sY va vb m n w ha hb C hn no no
structure Two(w wx:World)(rc g1 g2 x y:Nat):Prop where
 below:mBw w wx
 res:aV wx rc none 0 0
 rbase:w.heap.size<=rc
 ne1:rc≠g1
 ne2:rc≠g2
 ne:g1≠g2
 base1:w.heap.size<=g1
 base2:w.heap.size<=g2
 var1:iV w.heap.size wx g1 x
 var2:iV w.heap.size wx g2 y
variable{C:Nat}
theorem aad{H:World}{rc F M V c5 Y c6 I cy:Nat}{Z a6 x y:Option AU}(hb:mBw w H)(kr:aV H rc none 0 0)(K:aV H C Z V c5)(v6:aV H F a6 Y c6)
  (h1:w.heap.size<=rc)(h2:rc≠C)(h3:rc≠F)(J:C≠F)(P:w.heap.size<=C)(U:w.heap.size<=F)
  (hx:aU w.heap.size H (.agg #[.slice x (nl M) I]) M)(hy:aU w.heap.size H (.agg #[.slice y (nl N) cy]) N):
  Two w ((H.setCell ⟨C,0,none⟩ (.slice x (nl M) I)).setCell ⟨F,0,none⟩ (.slice y (nl N) cy)) rc C F M N:=by
 have G:=v6.setOther ⟨C,0,none⟩ (.slice x (nl M) I) J;exact⟨(hb.setCell (p:=⟨C,0,none⟩) P _).setCell (p:=⟨F,0,none⟩) U _,(kr.setOther _ _ (λe=>h2 e.symm)).setOther _ _ (λe=>h3 e.symm),h1,h2,h3,J,P,U,
  ⟨x,I,K.set.setOther _ _ (λe=>J e.symm),(hx.setVar K).setVar G⟩,⟨y,cy,G.set,(hy.setVar K).setVar G⟩⟩
def rp(base:Nat)(a b:Option AU)(m ca n cb:Nat):Nat->Value->World->Prop
 | 0,v,_=>∃so,v= .slice so 0 0
 | 5,v,_=>∃so,v= .slice so 0 0
 | 2,v,_=>v= .slice a (nl m) ca
 | 7,v,_=>v= .slice b (nl n) cb
 | 3,v,w=>∃x c,v= .slice x (nl m) c/\nl m<=c/\jq w base x (nl m) m
 | 8,v,w=>∃x c,v= .slice x (nl n) c/\nl n<=c/\jq w base x (nl n) n
 | 4,v,w=>aU base w v m
 | 9,v,w=>aU base w v n
 | 10,v,w=>∃g,v= .pointer (some ⟨g,0,none⟩)/\base<=g/\aV w g none 0 0
 | 11,v,w=>∃g,v= .pointer (some ⟨g,0,none⟩)/\base<=g/\aV w g none 0 0
 | _,_,_=>True
theorem xJ(base:Nat)(a b:Option AU)(m C n F:Nat)(i:Nat)(v:Value)(w w':World)(h:rp base a b m C n F i v w)(hb:mBw w w'):rp base a b m C n F i v w':=by
 unfold rp at h⊢;split at h
 all_goals first
  | exact h
  | (obtain⟨x,c,rfl,hc,I⟩:=h;exact⟨x,c,rfl,hc,I.mono hb⟩)
  | exact aU.mono h hb
  | (obtain⟨g,rfl,H,G⟩:=h;exact⟨g,rfl,H,G.mono hb G.lt⟩)
theorem start3(w:World)(a b:Option AU)(L C M F:Nat):
  mBw w (((w.alloc (.cells #[.slice a L C] 31)).alloc (.cells #[.slice b M F] 31)).alloc (.cells #[.slice none 0 0] 31)).drew/\
  aV (((w.alloc (.cells #[.slice a L C] 31)).alloc (.cells #[.slice b M F] 31)).alloc (.cells #[.slice none 0 0] 31)).drew w.heap.size a L C/\
  aV (((w.alloc (.cells #[.slice a L C] 31)).alloc (.cells #[.slice b M F] 31)).alloc (.cells #[.slice none 0 0] 31)).drew (w.heap.size+1) b M F/\
  aV (((w.alloc (.cells #[.slice a L C] 31)).alloc (.cells #[.slice b M F] 31)).alloc (.cells #[.slice none 0 0] 31)).drew (w.heap.size+1+1) none 0 0:=by
 have H:Bi (w.alloc (.cells #[.slice a L C] 31)).heap.size (w.alloc (.cells #[.slice a L C] 31)) ((w.alloc (.cells #[.slice a L C] 31)).alloc (.cells #[.slice b M F] 31)):=(AF _ _).alloc (AE _) _;have G:Bi ((w.alloc (.cells #[.slice a L C] 31)).alloc (.cells #[.slice b M F] 31)).heap.size ((w.alloc (.cells #[.slice a L C] 31)).alloc (.cells #[.slice b M F] 31))
  (((w.alloc (.cells #[.slice a L C] 31)).alloc (.cells #[.slice b M F] 31)).alloc (.cells #[.slice none 0 0] 31)).drew:=aN ((AF _ _).alloc (AE _) _) 1
 refine⟨aN ((((AF _ _).alloc (AE _) _).alloc Ad _).alloc (by simp;omega) _) 1,?_,?_,?_⟩
 ·exact((aV.made w a L C).mono H Ad).mono G (by simp;omega)
 ·have h:=(aV.made (w.alloc (.cells #[.slice a L C] 31)) b M F).mono G Ad;rw[Cr]at h;exact h
 ·have h:=aV.made ((w.alloc (.cells #[.slice a L C] 31)).alloc (.cells #[.slice b M F] 31)) none 0 0;rw[Cr,Cr]at h;exact h
set_option maxRecDepth 100000 in
set_option maxHeartbeats 4000000 in
theorem qU(va vb:Value)(m n:Nat)(w:World)(ha:IsN w va m)(hb:IsN w vb n)(hm:nl m<=1000000000000)(hn:nl n<=1000000000000):
  AC AB 199 #[va,vb] w λe w'=>cY w (AO m n) e w':=by
 obtain⟨a,ca,rfl,cu,ra⟩:=ha;obtain⟨b,cb,rfl,cv,rb⟩:=hb;go_enter Tryz.func199,Tryz.ntmps199
 go_upto_region 1 with(fail)
 go_cut [5,6] (λs5 s6 wx=>∃U g6,s5= .pointer (some ⟨U,0,none⟩)/\s6= .pointer (some ⟨g6,0,none⟩)/\Two w wx (w.heap.size+1+1) U g6 m n)
 case first=>
  obtain⟨ac,k2,k3,k4⟩:=start3 w a b (nl m) ca (nl n) cb;refine Do Aa ?_
  change wpAny _ _ _ _ _ _ _ (CA _)
  generalize CA _=w0 at *;refine gK (some 11) 1 (?v1_1) rfl rfl Aa Aa Aa (λ_ _ _ h=>h) (AR ⟨Af,?hy1_1⟩) ?_;case hy1_1=>(intro w;go_simp;try with_reducible rfl)
  try simp only[AI,AL,AM,AN]
  refine gK (some 16) 6 (?v1_6) rfl rfl Aa Aa Aa (λ_ _ _ h=>h) (AR ⟨Af,?hy1_6⟩) ?_;case hy1_6=>(intro w;go_simp;try with_reducible rfl)
  try simp only[AI,AL,AM,AN]
  refine iU 2 [(0,10),(2,12),(3,13),(4,14),(5,15),(7,17),(8,18),(9,19),(10,5),(11,6)] 4 (λi=>i==10 || i==11) (rp w0.heap.size a b m ca n cb) Aa Aa it (λi _ v I w2 h hb=>xJ _ _ _ _ _ _ _ i v I w2 h hb) ?_ ?_ ?_
  ·intro i _ a1 v I h;simp only[Bool.or_eq_true,beq_iff_eq]at a1;rcases a1 with rfl | rfl<;>(obtain⟨g,rfl,_,hv⟩:=h;exact hv.lt)
  ·intro p hp f I H V K C;have P:=ac.trans (H.mono ac.size);simp only[AS,List.not_mem_nil,or_false]at hp;rcases hp with rfl | rfl | rfl | rfl | rfl | rfl | rfl | rfl | rfl | rfl
   ·refine Da rfl (λK' F=> ?_)
    replace C:=λv G h1 h2 h3=>F _ _ (C v G h1 h2 h3)
    clear F;simp only[cI,Cc,Cj,AI,AL,AM,AN]at C⊢;go_simp;exact C _ _ ⟨_,rfl⟩ ((AF _ _).alloc (AE _) _) Ad
   ·refine Da rfl (λK' F=> ?_)
    replace C:=λv G h1 h2 h3=>F _ _ (C v G h1 h2 h3)
    clear F;simp only[cI,Cc,Cj,AI,AL,AM,AN]at C⊢;have c1:=(k2.mono H k2.lt).cell;go_simp;exact C _ _ rfl (AF _ _) Ad
   ·simp only[cI,Cc,Cj,AI,AL,AM,AN]at C⊢;obtain⟨so,e0⟩:=V 0 it it;have e2:=V 2 it it;simp only[rp]at e2;refine iv rfl rfl rfl (.tmp 10) (.tmp 12) rfl w0.heap.size H.size so ?_ a (nl m) ca m ?_ (ra.mono P) no ?_
    ·exact e0
    ·exact e2
    ·intro a' c' w' h1 h2 h3;exact C _ _ ⟨a',c',rfl,h2,h1⟩ h3 Ad
   ·refine Da rfl (λK' F=> ?_)
    replace C:=λv G h1 h2 h3=>F _ _ (C v G h1 h2 h3)
    clear F;simp only[cI,Cc,Cj,AI,AL,AM,AN]at C⊢;obtain⟨x,c,e0,hc,aa⟩:=V 3 it it;go_simp;simp only[e0]at C;refine(gY x (nl m) c m _ no hc (aa.rw' (eA m))).mono ?_;rintro e w2 ⟨rfl,Y⟩;exact C _ _ ((aa.mono Y).newN (AE _)) Y Ad
   ·refine Da rfl (λK' F=> ?_)
    replace C:=λv G h1 h2 h3=>F _ _ (C v G h1 h2 h3)
    clear F;simp only[cI,Cc,Cj,AI,AL,AM,AN]at C⊢;go_simp;exact C _ _ ⟨_,rfl⟩ ((AF _ _).alloc (AE _) _) Ad
   ·refine Da rfl (λK' F=> ?_)
    replace C:=λv G h1 h2 h3=>F _ _ (C v G h1 h2 h3)
    clear F;simp only[cI,Cc,Cj,AI,AL,AM,AN]at C⊢;have c1:=(k3.mono H k3.lt).cell;go_simp;exact C _ _ rfl (AF _ _) Ad
   ·simp only[cI,Cc,Cj,AI,AL,AM,AN]at C⊢;obtain⟨so,e0⟩:=V 5 it it;have e2:=V 7 it it;simp only[rp]at e2;refine iv rfl rfl rfl (.tmp 15) (.tmp 17) rfl w0.heap.size H.size so ?_ b (nl n) cb n ?_ (rb.mono P) no ?_
    ·exact e0
    ·exact e2
    ·intro a' c' w' h1 h2 h3;exact C _ _ ⟨a',c',rfl,h2,h1⟩ h3 Ad
   ·refine Da rfl (λK' F=> ?_)
    replace C:=λv G h1 h2 h3=>F _ _ (C v G h1 h2 h3)
    clear F;simp only[cI,Cc,Cj,AI,AL,AM,AN]at C⊢;obtain⟨x,c,e0,hc,aa⟩:=V 8 it it;go_simp;simp only[e0]at C;refine(gY x (nl n) c n _ no hc (aa.rw' (eA n))).mono ?_;rintro e w2 ⟨rfl,Y⟩;exact C _ _ ((aa.mono Y).newN (AE _)) Y Ad
   ·refine Da rfl (λK' F=> ?_)
    replace C:=λv G h1 h2 h3=>F _ _ (C v G h1 h2 h3)
    clear F;simp only[cI,Cc,Cj,AI,AL,AM,AN]at C⊢;go_simp;exact C _ _ ⟨_,rfl,H.size,aV.made _ _ _ _⟩ ((AF _ _).alloc (AE _) _) (λ_=>AE _)
   ·refine Da rfl (λK' F=> ?_)
    replace C:=λv G h1 h2 h3=>F _ _ (C v G h1 h2 h3)
    clear F;simp only[cI,Cc,Cj,AI,AL,AM,AN]at C⊢;go_simp;exact C _ _ ⟨_,rfl,H.size,aV.made _ _ _ _⟩ ((AF _ _).alloc (AE _) _) (λ_=>AE _)
  ·intro f I H V am;have P:=ac.trans (H.mono ac.size);obtain⟨U,e5,c2,v5⟩:=V 10 it;obtain⟨g6,e6,c3,v6⟩:=V 11 it;have au:=am 10 it 11 it rfl rfl it;rw[e5,e6]at au;have ak:U≠g6:=au;clear au;have c7:=k4.lt;have bi:=ac.size;have h4:aU w.heap.size I _ _:=aU.weaken (V 4 it) bi;have h9:aU w.heap.size I _ _:=aU.weaken (V 9 it) bi;obtain⟨x,cx,e4,bO,bb⟩:=h4;obtain⟨y,cy,e9,b0,be⟩:=h9;have hx:aU w.heap.size I (.agg #[.slice x (nl m) cx]) m:=⟨x,cx,rfl,bO,bb⟩;have hy:aU w.heap.size I (.agg #[.slice y (nl n) cy]) n:=⟨y,cy,rfl,b0,be⟩;have kr:=k4.mono H k4.lt;have b2:w.heap.size+1+1≠U:=no
   have b8:w.heap.size+1+1≠g6:=no
   have hT:=aad P kr v5 v6 no b2 b8 ak no no hx hy;have c5:=v5.cell;have f5:=v5.frozen;have bp:=v6.setOther ⟨U,0,none⟩ (.slice x (nl m) cx) ak;have c6:=bp.cell;have f6:=bp.frozen;clear V am bb be;simp only[cI,Cc,Cj,AI,AL,AM,AN,e4,e9,e5,e6];refine BU (rs:=[12]) Aa Ad ?_;refine BH rfl (λK C=> ?_) BT;go_simp;refine C _ _ ?_;clear C K;refine BU (rs:=[13]) Aa Ad ?_;refine BH rfl (λK C=> ?_) BT;go_simp;refine C _ _ ?_;clear C K;refine CK Aa ?_ _;go_wp2_with fail
   go_meet;case rel=>exact⟨U,g6,rfl,rfl,hT⟩
 case rest=>
  obtain⟨U,g6,rfl,rfl,hT⟩:=hcut;clear ra rb;go_wp2_with fail
  go_loopw [] (λwr=>∃x y:Nat,AO x y=AO m n/\nl x<=1000000000000/\nl y<=1000000000000/\Two w wr (w.heap.size+1+1) U g6 x y)
   (λwr=>valAt wr g6)
  case atStart=>exact⟨m,n,rfl,hm,hn,hT⟩
  case round=>
   obtain⟨x,y,ad,hx,hy,hs⟩:=hrel;obtain⟨ax,cx,vx,nx⟩:=hs.var1;obtain⟨ay,cy,vy,ny⟩:=hs.var2;have c5:=vx.cell;have c6:=vy.cell;have cr:=hs.res.cell;have fr:=hs.res.frozen;by_cases hy0:y=0
   ·subst hy0;rw[bL]at c6;rw[Nat.gcd_zero_right]at ad;have bq:=AA ad;clear ad;have a3:aU w.heap.size (wr.setCell ⟨w.heap.size+1+1,0,none⟩ (.slice ax (nl x) cx)) (.agg #[.slice ax (nl x) cx]) (AO m n):=by rw[<-bq.out];exact nx.setVar hs.res
    have ap:=(hs.res.set (a':=ax) (L':=nl x) (c':=cx)).cell;have a2:=hs.below.setCell (p:=⟨w.heap.size+1+1,0,none⟩) hs.rbase (.slice ax (nl x) cx);go_wp2;exact A7 (eX rfl _ _ (w.heap.size+1+1) _ rfl ap) rfl ⟨_,rfl,a3,a2⟩
   ·have c4:=dV hy0;go_wp2_with fail
    refine(iw _ _ x y _ nx.isN ny.isN hx hy hy0).mono ?_;rintro e I ⟨vq,vr,rfl,⟨aq,cq,rfl,cz,b9⟩,⟨ar,J,rfl,bz,a9⟩,H⟩;have f5:=vx.frozen;have f6:=vy.frozen;go_upto_region 4 with(fail)
    have Z:mBw wr ((I.alloc (.cells #[.slice aq (nl (x / y)) cq] 31)).alloc (.cells #[.slice ar (nl (x % y)) J] 31)).drew:=
     aN (H.trans (((AF I.heap.size I).alloc (AE _) _).alloc Ad _ |>.mono H.size)) 1
    have bt:mBw I ((I.alloc (.cells #[.slice aq (nl (x / y)) cq] 31)).alloc (.cells #[.slice ar (nl (x % y)) J] 31)).drew:=
     aN (((AF I.heap.size I).alloc (AE _) _).alloc Ad _) 1
    have v8:aV ((I.alloc (.cells #[.slice aq (nl (x / y)) cq] 31)).alloc (.cells #[.slice ar (nl (x % y)) J] 31)).drew (I.heap.size+1) ar (nl (x % y)) J:=by
     have h:=aV.made (I.alloc (.cells #[.slice aq (nl (x / y)) cq] 31)) ar (nl (x % y)) J;rw[Cr]at h;exact h
    refine Do Aa ?_
    change wpAny _ _ _ _ _ _ _ (CA _)
    generalize CA _=w3 at *;have nr:aU w.heap.size w3 (.agg #[.slice ar (nl (x % y)) J]) (x % y):=aU.mono (aU.weaken (base:=wr.heap.size) ⟨ar,J,rfl,bz,a9⟩ hs.below.size) bt;have cd:=ny.mono Z;have av:=vx.mono Z vx.lt;have a0:=vy.mono Z vy.lt;have cc:=hs.res.mono Z hs.res.lt;have ao:=aad (hs.below.trans (Z.mono hs.below.size)) cc av a0 hs.rbase hs.ne1 hs.ne2 hs.ne hs.base1 hs.base2 cd nr;have b1:I.heap.size+1≠U:=by have:=vx.lt;have:=H.size;omega
    have cl:=v8.setOther ⟨U,0,none⟩ (.slice ay (nl y) cy) (λe=>b1 e.symm);have an:=a0.setOther ⟨U,0,none⟩ (.slice ay (nl y) cy) hs.ne;have a6:=hs.var2.valAt;have a7:=ao.var2.valAt;have ab:=Bs x (Du hy0);have a4:AO y (x % y)=AO m n:=by rw[<-ad,Nat.gcd_comm x y,Nat.gcd_rec y x,Nat.gcd_comm]
    have a5:nl (x % y)<=1000000000000:=AD (dW (Nat.le_of_lt ab)) hy;clear c5 c6 cr fr f5 f6 b9 a9;have c6:=a0.cell;have c8:=v8.cell;have f5:=av.frozen;have c5:=av.cell;have cm:=an.cell;have cp:=an.frozen;have cn:=cl.cell;refine eG (some 31) 0 2 (?v4_0_1) rfl rfl it rfl rfl Aa Aa (λ_ _ _ h=>h) ⟨Af,?hy4_0_1⟩ ?_;case hy4_0_1=>(go_simp;try with_reducible rfl)
    try simp only[AI,AL,AM,AN]
    refine BU (rs:=[1,2]) Aa Ad ?_;refine BH rfl (λK C=> ?_) ?_
    ·go_simp
     refine C _ _ ?_;clear C K;try simp only[AI,AL,AM,AN]
     refine BU (rs:=[2]) Aa Ad ?_;refine BH rfl (λK C=> ?_) BT;go_simp;refine C _ _ ?_;clear C K;try simp only[AI,AL,AM,AN]
     refine BU (rs:=[3]) Aa Ad ?_;refine BH rfl (λK C=> ?_) BT;go_simp;refine C _ _ ?_;clear C K;try simp only[AI,AL,AM,AN]
     refine CK Aa ?_ _;go_wp2_with fail
     go_roundw
     case rel=>exact⟨y,x % y,a4,hy,a5,ao⟩
     case measure=>rw[a6,a7];exact ab
    refine BH rfl (λK C=> ?_) ?_
    ·go_simp
     refine C _ _ ?_;clear C K;try simp only[AI,AL,AM,AN]
     refine BU (rs:=[1]) Aa Ad ?_;refine BH rfl (λK C=> ?_) BT;go_simp;refine C _ _ ?_;clear C K;try simp only[AI,AL,AM,AN]
     refine BU (rs:=[3]) Aa Ad ?_;refine BH rfl (λK C=> ?_) BT;go_simp;refine C _ _ ?_;clear C K;try simp only[AI,AL,AM,AN]
     refine CK Aa ?_ _;go_wp2_with fail
     go_roundw
     case rel=>exact⟨y,x % y,a4,hy,a5,ao⟩
     case measure=>rw[a6,a7];exact ab
    exact BT
def bI(W:World)(v:Value)(e:BB)(w':World):Prop:=e= .returned v/\mBw W w'
theorem below2(w:World)(o p:Obj):mBw w ((w.alloc o).alloc p):=((AF _ _).alloc (AE _) o).alloc Ad p
theorem xK(w:World)(a b:Option AU)(L C M F:Nat):
  mBw w ((w.alloc (.cells #[.slice a L C] 31)).alloc (.cells #[.slice b M F] 31))/\
  aV ((w.alloc (.cells #[.slice a L C] 31)).alloc (.cells #[.slice b M F] 31)) w.heap.size a L C/\
  aV ((w.alloc (.cells #[.slice a L C] 31)).alloc (.cells #[.slice b M F] 31)) (w.heap.size+1) b M F:=by
 refine⟨below2 w _ _,(aV.made w a L C).mono ((AF _ _).alloc (AE _) _) Ad,?_⟩;have h:=aV.made (w.alloc (.cells #[.slice a L C] 31)) b M F;rw[Cr]at h;exact h
theorem xL(va vb:Value)(m n:Nat)(w:World)(ha:IsN w va m)(hb:IsN w vb n)(hm:nl m<=1000000000000)(hn:nl n<=1000000000000):
  AC AB 180 #[va,vb] w λe w'=>bI w (.bool (decide (m=n))) e w':=by
 obtain⟨a,J,rfl,ab,ra⟩:=ha;obtain⟨b,K,rfl,P,rb⟩:=hb;have hw:=below2 w (.cells #[.slice a (nl m) J] 31) (.cells #[.slice b (nl n) K] 31);by_cases hL:nl m=nl n
 ·have F:=λh=>D_ext (M:=m) (N:=n) hL h
  have HL:=AA hL;rw[<-hL]at rb P;have HX:=AA F;clear F;have V:(((nl m:Nat):Int) !=((nl m:Nat):Int))=false:=Ad
  rw[<-hL];clear hL;obtain⟨H,k2,k3⟩:=xK w a b (nl m) J (nl m) K;go_enter Tryz.func180,Tryz.ntmps180
  go_upto_region 1 with(fail)
  go_cut [12] (λaa wx=>aa= .bool false/\mBw w wx/\aV wx w.heap.size a (nl m) J/\aV wx (w.heap.size+1) b (nl m) K)
  case first=>
   go_wp2_with fail
   go_meet;case rel=>exact⟨rfl,H,k2,k3⟩
  case rest=>
  obtain⟨rfl,C,v2,v3⟩:=hcut;clear H k2 k3 hw;have Y:=ra.mono C;have Z:=rb.mono C;have c2:=v2.cell;have c3:=v3.cell;go_wp2;go_loopw [5] (λi wr=>∃k:Nat,k<=nl m/\i= .int .i64 (k:Int)/\Hid (∀j,j<k->D m j=D n j)/\∃q,wr=wc.drewN q) (λi _=>nl m - (intOf i).toNat)
  case atStart=>exact⟨0,AY _,rfl,AA (λj h=>no),0,rfl⟩
  case round=>
   obtain⟨k,hk,rfl,HR,q,rfl⟩:=hrel;by_cases hlt:k<nl m
   ·obtain⟨b1,o1,rfl,h1⟩:=Y.cells no;obtain⟨b2,o2,rfl,h2⟩:=Z.cells no;have d1:=h1 k hlt;have d2:=h2 k hlt;by_cases hd:D m k=D n k
    ·have U:(((D m k:Nat):Int) !=((D n k:Nat):Int))=false:=by rw[hd];simp
     have I:Hid (∀j,j<k+1->D m j=D n j):=AA (λj hj=>by
      rcases Bc j k with h | h
      ·exact HR.out j h
      ·rw[show j=k by omega];exact hd)
     clear hd;go_wp2;go_quiet (fail)
     go_wp2;go_roundw
     case rel=>exact⟨k+1,no,by go_num,I,_,rfl⟩
     case measure=>simp[intOf];omega
    ·have U:(((D m k:Nat):Int) !=((D n k:Nat):Int))=true:=by rw[bne_iff_ne];omega
     have G:m≠n:=λh=>hd (by rw[h])
     clear hd;go_wp2;go_quiet (fail)
     go_wp2;go_ret;exact⟨by simp[G],aN (aN C _) _⟩
   ·obtain rfl:k=nl m:=no
    go_wp2;go_ret;exact⟨by have h:=HX.out (λj hj=>HR.out j (by rw[HL.out];exact hj));simp[h],aN C _⟩
 ·have V:(((nl m:Nat):Int) !=((nl n:Nat):Int))=true:=by rw[bne_iff_ne];omega
  have G:m≠n:=λh=>hL (by rw[h])
  go_enter Tryz.func180,Tryz.ntmps180
  go_wp2;go_ret;exact⟨by simp[G],hw⟩
theorem uI(va:Value)(L m:Nat)(w:World)(ha:IsR w va L m)(hL:L<=9223372036854775807):
  AC AB 286 #[va] w λe w'=>bI w (.bool (decide (nl m=L))) e w':=by
 obtain⟨a,J,rfl,V,K⟩:=ha;have F:mBw w (w.alloc (.cells #[.slice a L J] 31)):=(AF _ _).alloc (AE _) _;have v1:=aV.made w a L J;have I:=K.mono F;have Y:nl m<=L:=aI.2 K.lt;go_enter Tryz.func286,Tryz.ntmps286
 by_cases h0:L=0
 ·subst h0;have:nl m=0:=no
  go_wp2;go_ret;exact⟨by simp[this],F⟩
 ·obtain⟨b1,o1,rfl,h1⟩:=I.cells no;have d1:=h1 (L - 1) no;have e1:((L:Int) - 1)=((L - 1:Nat):Int):=no
  have hb:((L:Int)==0)=false:=by rw[beq_eq_false_iff_ne];omega
  have Z:=cf m (L - 1);have c1:=v1.cell;by_cases hz:D m (L - 1)=0
  ·have C:nl m≠L:=λh=>by
    have G:m≠0:=λU=>by rw[U,bL]at h;omega
    exact z6 G (by rw[h];exact hz)
   have H:(((D m (L - 1):Nat):Int) !=0)=false:=by rw[hz];rfl
   clear hz;go_wp2;go_ret;exact⟨by simp[C],F⟩
  ·have C:nl m=L:=by
    rcases Bc (L - 1) (nl m)with h | h
    ·omega
    ·exact absurd (iS h) hz
   have H:(((D m (L - 1):Nat):Int) !=0)=true:=by rw[bne_iff_ne];omega
   clear hz;have P:=AA C;clear C;go_wp2;go_ret;exact⟨by simp[P.out],F⟩
def xM(N L:Nat):List Value:=(List.range L).map λj=>AK .u32 ((D N j:Nat):Int)
def GR(w:World)(base:Nat)(v:Value)(L N:Nat):Prop:=N<4294967296^L/\w.ownsRow base 237 1 v L (xM N L)
theorem GR.nil(w:World)(base:Nat):GR w base (.slice none 0 0) 0 0:=⟨it,World.ownsRow_nil _ _ _ _⟩
variable{base:Nat}{v:Value}
theorem GR.open(h:GR w base v L N):
  ∃a c,v= .slice a L c/\L<=c/\Rw w a L N/\(0<L->∃g,a=some ⟨g,0,none⟩/\base<=g/\g<w.heap.size/\∀p,w.frozen? ⟨g,p,none⟩=false):=by
 rcases h.2.2 with⟨rfl,h0⟩ | ⟨g,c,cur,rfl,hb,G,H,I,J,C⟩
 ·exact⟨none,0,by rw[h0],no,⟨h.1,λF=>no⟩,λF=>no⟩
 ·refine⟨some ⟨g,0,none⟩,c,rfl,H,⟨h.1,λF=>⟨g,0,rfl,λj K=> ?_⟩⟩,λF=>⟨g,rfl,hb,(AZ.1 G).1,λp=>frozen_of_row w g p cur _ G⟩⟩;rw[A5,cell_of_row w g j cur _ (0,0) G];have h1:(cur.toList.take (L*1))[j]? =some (.int .u32 ((D N j:Nat):Int)):=by rw[C];simp[xM,K]
  rw[List.getElem?_take]at h1;split at h1
  ·simpa using h1
  ·cases h1
theorem abp(N L e:Nat)(C:N<4294967296^L)(F:e<4294967296):xM N L++ [.int .u32 (e:Int)]=xM (N+e*4294967296^L) (L+1):=by
 unfold xM;rw[List.range_succ,List.map_append]
 congr 1
 ·apply List.map_congr_left;intro j G;have H:j<L:=by simpa using G
  have:D (N+e*4294967296^L) j=D N j:=by
   unfold D;obtain⟨d,rfl⟩:∃d,L=j+1+d:=⟨L - (j+1),no⟩;rw[BC,BO,show e*(4294967296^j*4294967296*4294967296^d)=4294967296^j*(4294967296*(e*4294967296^d))by grind,Nat.add_mul_div_left _ _ (cF j),Nat.add_mul_mod_self_left]
  rw[this]
 ·have:D (N+e*4294967296^L) L=e:=by
   unfold D;rw[BV,Nat.add_mul_div_left _ _ (cF L),Cz C,A5,Cn F]
  simp[this]
variable{e:Nat}
theorem GR.of_own(C:N<4294967296^L)(F:e<4294967296)(h:w.ownsRow base 237 1 v (L+1) (xM N L++ [.int .u32 (e:Int)])):GR w base v (L+1) (N+e*4294967296^L):=by
 refine⟨?_,by rw[<-abp N L e C F];exact h⟩;rw[BO];have h1:(e+1)*4294967296^L<=4294967296*4294967296^L:=Nat.mul_le_mul_right _ F;rw[Nat.add_mul,Nat.one_mul]at h1;rw[BV (4294967296^L)];have:=C;omega
theorem GR.keep(h:GR w base v L N)(C:w.grownBy w' none):GR w' base v L N:=⟨h.1,h.2.kept C (by cases F:v.ownBlock<;>simp)⟩
variable{ops:Array Oper}{a:Act}{Q:A4->Act->World->Prop}
theorem cC{w0:World}{rest:List Oper}{o:Oper} 
  (hg:o.guard=none)(s x:AP)(K:o.op=Op.call {callee:=Callee.builtin Builtin.append,args:=#[s,x],argTypes:=#[29,29]})
  (base:Nat)(v:Value)(L N e:Nat)(hs:a.eval s=v)(J:GR w0 base v L N)(C:base<=w0.heap.size)(hx:a.eval x= .slice (some ⟨w0.heap.size,0,none⟩) 1 1)(he:e<4294967296)(hL:L+1<=30000000000000)
  (Z:∀v' w',GR w' base v' (L+1) (N+e*4294967296^L)->Bi base w0 w'->base<=w'.heap.size->wpList AB ops Q rest (a.put o.dst v') w'):
  wpList AB ops Q (o::rest) a (w0.alloc (.cells #[.int .u32 (e:Int)] 237)):=by
 obtain⟨i,hi,P,U,V⟩:=info_parts oT;have G:=J.keep (World.grownBy_alloc w0 (.cells #[.int .u32 (e:Int)] 237) none);have F:Bi base w0 (w0.alloc (.cells #[.int .u32 (e:Int)] 237)):=(AF _ _).alloc C _;refine wpList_append_own _ hg s x 29 K base 237 i (.int .u32 0) 1 4 Tryz.underlying29 hi P U V rfl it v L (xM N L) hs G.2
  ⟨w0.heap.size,0,none⟩ 1 1 [.int .u32 (e:Int)] hx rfl ?_ ?_ (by simp only[maxLen];omega) no (AD C F.size) ?_
 ·intro j u H
  match j,H with
  | 0,H=>simp at H;subst H;simp[Addr.add]
  | (j+1),H=>simp at H
 ·intro u Y;simp at Y;subst Y;rfl
 ·intro v' w' ho I _;exact Z v' w' (GR.of_own J.1 he ho) (F.grown I (AD C F.size) (λk hk=>(G.2.lt k hk).1)) (AD C (AD F.size I.size))
theorem qW{s:ByteArray}(h:s.size≠0):s.toList.isEmpty=false:=by
 rw[ByteArray.toList_eq]
 cases hs:s.data.toList with
 | nil=>
  exfalso;apply h;have:=congrArg List.length hs;rw[Array.length_toList]at this;exact this
 | cons _ _=>rfl
structure Sp where
 p:World->Value->Prop
 st:∀w w' v,p w v->mBw w w'->p w' v
def Sp.val(u:Value):Sp:=⟨λ_ v=>v=u,λ_ _ _ h _=>h⟩
def Sp.nat(N:Nat):Sp:=⟨λw v=>IsN w v N,λ_ _ _ h hb=>IsN.mono h hb⟩
def Sp.new(base N:Nat):Sp:=⟨λw v=>aU base w v N,λ_ _ _ h hb=>aU.mono h hb⟩
def Has(a:Act)(w:World)(t:Tmp)(s:Sp):Prop:=∃v,a.tmps[t]? =some v/\s.p w v
def Is(a:Act)(w:World)(x:AP)(s:Sp):Prop:=s.p w (a.eval x)
variable{t:Tmp}{s:Sp}
theorem Has.is(h:Has a w t s):Is a w (.tmp t) s:=by
 obtain⟨v,h1,h2⟩:=h;unfold Is Act.eval;simp only[Array.getD_eq_getD_getElem?,h1,Option.getD_some];exact h2
theorem Is.const:Is a w (.const v) (.val v):=rfl
section
variable {P:AW} {ops:Array Oper} {Q:A4->Act->World->Prop} {md:Region.Mode}
def Arm(P:AW)(Q:A4->Act->World->Prop)(o:Oper)(a:Act)(w:World)(s:Sp):Prop:=
 ∀K:Act->World->Prop,(∀v w',s.p w' v->mBw w w'->K (a.put o.dst v) w')->Bk P o a w K Q
def aG(D:List (Nat×Tmp×Sp)):List (Nat×Tmp):=D.map λx=>(x.1,x.2.1)
variable{D:List (Nat×Tmp)}
theorem j7{f:Nat->Value}(t:Tmp)(h:t∉D.map (·.2)):(cI D f a).tmps[t]? =a.tmps[t]? :=by
 induction D generalizing a with
 | nil=>rfl
 | cons p D ih=>
  rw[Bq,AS]at h;have h1:p.2≠t:=λe=>h (.inl e.symm)
  show(cI D f (a.put (some p.2) (f p.1))).tmps[t]? =_;rw[ih (λe=>h (.inr e))];simp[AI,Array.getElem?_setIfInBounds,h1]
theorem tc{f:Nat->Value}(hn:(D.map (·.2)).Nodup){i:Nat}(F:(i,t)∈D)(ht:t<a.tmps.size):(cI D f a).tmps[t]? =some (f i):=by
 induction D generalizing a with
 | nil=>cases F
 | cons p D ih=>
  rw[Bq,Bu]at hn;show(cI D f (a.put (some p.2) (f p.1))).tmps[t]? =_;rcases AS.1 F with rfl | C
  ·rw[j7 t hn.1];simp[AI,ht]
  ·exact ih hn.2 C (by simpa [AI]using ht)
variable{D:List (Nat×Tmp×Sp)}
theorem bW{i:Nat}(h:(i,t,s)∈D):(i,t)∈aG D:=Ba.2 ⟨_,h,rfl⟩
theorem keyed(hp:(D.map (·.1)).Nodup):∀y∈D,∀z∈D,y.1=z.1->y=z:=by
 induction D with
 | nil=>intro y hy;cases hy
 | cons d D ih=>
  rw[Bq,Bu]at hp;intro y hy z hz C;rcases AS.1 hy with rfl | F<;>rcases AS.1 hz with rfl | G
  ·rfl
  ·exact absurd (Ba.2 ⟨z,G,C.symm⟩) hp.1
  ·exact absurd (Ba.2 ⟨y,F,C⟩) hp.1
  ·exact ih hp.2 y F z G C
def oC(md:Region.Mode)(ops:Array Oper)(E:List (Nat×Tmp))(n:Nat)(l:Array Bool)(size:Nat):Bool:=
 oU md ops n (E.map (·.1)) l && E.all (λp=>bZ ops p.1==some p.2) && decide ((E.map (·.2)).Nodup) && decide ((E.map (·.1)).Nodup) && E.all (λp=>decide (p.2<size))
theorem pj(C:Nat)(D:List (Nat×Tmp×Sp))(n:Nat){l:Array Bool}(sz:Nat)(an:a.tmps.size=sz)
  (G:oC md ops (aG D) n l sz=true)
  (I:∀x∈D,∀(a':Act)(w':World),mBw w w'->(∀t,t∉(aG D).map (·.2)->a'.tmps[t]? =a.tmps[t]?)->(∀i t s,(i,t,s)∈D->i∈ce md ops x.1->Has a' w' t s)->
   ∃o,ops[x.1]? =some o/\A6 o (yielded ops a'.tmps)=true/\Arm P Q o a' w' x.2.2)
  (H:∀(f:Nat->Value) w',mBw w w'->(∀i t s,(i,t,s)∈D->s.p w' (f i))->wpAny P md ops Q C (aW ((aG D).map (·.1)) l) (cI (aG D) f a) w'):
  wpAny P md ops Q (C+D.length) l a w:=by
 unfold oC at G;simp only[BN,decide_eq_true_eq]at G;obtain⟨⟨⟨⟨ak,U⟩,Y⟩,ad⟩,ac⟩:=G;have ht:∀p∈aG D,p.2<a.tmps.size:=λp hp=>by rw[an];simpa using Ca.1 ac p hp
 have V:D.length=(aG D).length:=by simp[aG]
 rw[V];refine iU C (aG D) n (λ_=>false) (λi v w'=>∀t s,(i,t,s)∈D->s.p w' v) ak U Y (λi _ v w1 w2 h hb t s F=>s.st _ _ _ (h t s F) hb) (λi _ h=>by cases h) ?_ ?_
 ·intro p hp f w' hb Z K hK;obtain⟨x,hx,rfl⟩:=Ba.1 hp;obtain⟨o,ho,hw,J⟩:=I x hx (cI (aG D) f a) w' hb (λt h=>j7 t h) (λi t s F am=>
   ⟨f i,tc Y (bW F) (ht _ (bW F)),Z i (Ba.2 ⟨_,bW F,rfl⟩) am t s F⟩)
  unfold wpOp;rw[ho];show if A6 o (yielded ops (cI (aG D) f a).tmps)=true then _ else _
  rw[if_pos hw];refine .inl (J K (λv ao hv aa=> ?_));have hd:=Ca.1 U _ hp;rw[beq_iff_eq]at hd;have ab:o.dst=some x.2.1:=by
   have:bZ ops x.1=o.dst:=by unfold bZ;rw[ho]
   rw[<-this];exact hd
  rw[ab];refine hK v ao (λt s F=> ?_) aa (λh=>by cases h);have e:(x.1,x.2.1,x.2.2)∈D:=hx;have key:=keyed (D:=D) (by simpa [aG,FA]using ad);have e2:=key _ F _ e rfl;simp only[Prod.mk.injEq,true_and]at e2;rw[e2.2];exact hv
 ·intro f w' hb Z _;exact H f w' hb (λi t s F=>Z i (Ba.2 ⟨_,bW F,rfl⟩) t s F)
def eY(r:Nat):Code->Option (Array Oper)
 | .region i ops _=>if i=r then some ops else none
 | .seq a b=>match eY r a with | some x=>some x | none=>eY r b
 | .cond _ a b=>match eY r a with | some x=>some x | none=>eY r b
 | .block _ b=>eY r b
 | .loop b=>eY r b
 | .scope b=>eY r b
 | .rangeFunc _ _ a b=>match eY r a with | some x=>some x | none=>eY r b
 | _=>none
def dk(f:Func)(r:Nat):Array Oper:=match f.body with | some c=>(eY r c).getD #[] | none=> #[]
def jr{α:Type}(p:α->Prop):List α->Prop
 | []=>True
 | x::l=>p x/\jr p l
theorem jr.mem{α:Type}{p:α->Prop}{l:List α}(h:jr p l):∀x∈l,p x:=by
 induction l with
 | nil=>intro x C;cases C
 | cons y l ih=>
  intro x C;rcases AS.1 C with rfl | C
  ·exact h.1
  ·exact ih h.2 x C
structure Found(md:Region.Mode)(ops:Array Oper)(D:List (Nat×Tmp×Sp))(j:Nat)(w:World)(a a':Act)(w':World):Prop where
 below:mBw w w'
 out:∀t,((aG D).map (·.2)).contains t=false->a'.tmps[t]? =a.tmps[t]?
 at':∀(i:Nat)(t:Tmp)(s:Sp),D[i]? =some (i,t,s)->(ce md ops j).contains i=true->Has a' w' t s
theorem Found.keep{j:Nat}{a':Act}(h:Found md ops D j w a a' w')(t:Tmp)(v:Value)(ht:((aG D).map (·.2)).contains t=false)(C:a.tmps[t]? =some v):Has a' w' t (.val v):=
 ⟨v,(h.out t ht).trans C,rfl⟩
theorem gL(f:Func)(r:Nat)(D:List (Nat×Tmp×Sp)){id:Nat}{H:Array Oper}(Z:dk f r=H)(hm:P.follows .mixedOrders=true)
  (Y:(dk f r).size=D.length)(ab:oC .any (dk f r) (aG D) 0 (Cu D.length false) a.tmps.size=true)
  (I:BY .any (dk f r) (aW ((aG D).map (·.1)) (Cu D.length false))=[])
  (U:jr (λx=>∀(a':Act)(w':World),Found .any (dk f r) D x.1 w a a' w'->∃o,(dk f r)[x.1]? =some o/\A6 o (yielded (dk f r) a'.tmps)=true/\Arm P Q o a' w' x.2.2) D)
  (K:∀(g:Nat->Value) w',mBw w w'->(∀(i:Nat)(t:Tmp)(s:Sp),D[i]? =some (i,t,s)->s.p w' (g i))->Q .normal (cI (aG D) g a) w'):(De id H true).wp P Q a w:=by
 subst Z;refine Do hm ?_;have C:mBw w w.drew:=aN (AF _ _) 1
 change wpAny P .any _ Q _ _ _ w.drew
 rw[Y];have V:∀t,((aG D).map (·.2)).contains t=false->t∉(aG D).map (·.2):=λt h hm=>by
  rw[CN.2 hm]at h;cases h
 have F:∀(i:Nat)(t:Tmp)(s:Sp),D[i]? =some (i,t,s)->(i,t,s)∈D:=λi t s h=>A0 h
 have G:=pj 0 (P:=P) (Q:=Q) D 0 (l:=Cu D.length false) (a:=a) (w:=w.drew) a.tmps.size rfl ab
  (λx hx a' w' hb aa J=>U.mem x hx a' w' ⟨C.trans (hb.mono C.size),λt h=>aa t (V t h),λi t s h1 h2=>J i t s (F i t s h1) (CN.1 h2)⟩)
  (λg w' hb J=>CK I (K g w' (C.trans (hb.mono C.size)) (λi t s h=>J i t s (F i t s h))) 0)
 rw[A5]at G;exact G
variable{o:Oper}
theorem ag{y:Nat->Option Bool}(h:o.guard=none):A6 o y=true:=by unfold A6;rw[h]
theorem td(v:Value)(hr:(execOp a.eval o).run P w= .ok (.value v) w)(F:s.p w v):Arm P Q o a w s:=by
 intro K C;unfold Bk;rw[hr];exact C v w F (AF _ _)
theorem bh{x:AP}(C:o.op= .move x\/o.op= .assign x)(F:Is a w x s):Arm P Q o a w s:=by
 refine td (a.eval x) ?_ F;rcases C with C | C<;>(unfold execOp;rw[C];rfl)
theorem mj{f:FuncId}{xs:Array AP}{J:Array TypeId}{R:BB->World->Prop}(H:o.op= .call {callee:=.value (.func f),args:=xs,argTypes:=J})
  (C:∀(vs:Array Value) w,(callFunc f vs).run P w= .ok (.enter f vs) w)(hc:AC P f (xs.map a.eval) w R)(G:∀e w',R e w'->∃v,e= .returned v/\s.p w' v/\mBw w w'):Arm P Q o a w s:=by
 intro K F;unfold Bk;have:(execOp a.eval o).run P w= .ok (.enter f (xs.map a.eval)) w:=by
  simp[execOp,H,resolve,invoke,Deferred.ofValue,Act.eval,C,AQ]
 rw[this,Oper.upon_enter];refine hc.mono ?_;intro e w' I;obtain⟨v,rfl,h1,h2⟩:=G e w' I;exact F v w' h1 h2
end
section
variable {md:Region.Mode} {ops:Array Oper} {D:List (Nat×Tmp×Sp)} {w w':World} {a a':Act} {j:Nat}
theorem Found.f(F:Found md ops D j w a a' w')(i:Nat)(h:D[i]? =some (i,t,s))(h2:(ce md ops j).contains i=true:=by kernel_rfl):Is a' w' (.tmp t) s:=(F.at' i t s h h2).is
end
theorem ah{f:FuncId}{fn:Func}(hf:AB.funcs[f]? =some fn)(C:(fn.name== "runtime.NumGoroutine")=false)(hb:fn.body.isNone=false)(args:Array Value)(w:World):
  (callFunc f args).run AB w= .ok (.enter f args) w:=by
 have h1:fn.name≠ "runtime.NumGoroutine" :=by simpa using C
 simp[callFunc,hf,h1];intro h;simp[h]at hb
theorem ofNew{e:BB}(h:cY w N e w'):∃v,e= .returned v/\(Sp.nat N).p w' v/\mBw w w':=by
 obtain⟨v,rfl,hn,hb⟩:=h;exact⟨v,rfl,hn.isN,hb⟩
variable{u:Value}
theorem ofV{e:BB}(h:bI w u e w'):∃v,e= .returned v/\(Sp.val u).p w' v/\mBw w w':=⟨u,h.1,rfl,h.2⟩
def dP(w:World)(g N:Nat):Prop:=∃a c,aV w g a (nl N) c/\IsN w (.agg #[.slice a (nl N) c]) N
theorem dP.mono(h:dP w g N)(hb:mBw w w'):dP w' g N:=by
 obtain⟨a,c,h1,h2⟩:=h;exact⟨a,c,h1.mono hb h1.lt,h2.mono hb⟩
section
variable {ops:Array Oper} {Q:A4->Act->World->Prop} {o:Oper} {a:Act} {w:World} {x y:AP} {m n:Nat} {tt:Array TypeId}
theorem run_load(w:World)(g L c:Nat)(s:Option AU)(h:aV w g s L c):(Instr.loadAt 31 (.pointer (some ⟨g,0,none⟩))).run AB w= .ok (.agg #[.slice s L c]) w:=by
 have C:=h.cell;go_simp
theorem bA(F:o.op= .load 31 x)(G:Is a w x (.val (.pointer (some ⟨g,0,none⟩))))(h:dP w g n):Arm AB Q o a w (.nat n):=by
 obtain⟨s,c,h1,h2⟩:=h;have C:a.eval x= .pointer (some ⟨g,0,none⟩):=G;refine td (.agg #[.slice s (nl n) c]) ?_ h2;unfold execOp;rw[F];simp only[C,AH,run_load w g (nl n) c s h1,AQ,Bw]
theorem aae{f:FuncId}{R:World->BB->World->Prop}(G:o.op= .call {callee:=.value (.func f),args:=#[x,y],argTypes:=tt})(C:∀(vs:Array Value) w,(callFunc f vs).run AB w= .ok (.enter f vs) w)
  (H:Is a w x (.nat m))(hy:Is a w y (.nat n))(hc:∀va vb w,IsN w va m->IsN w vb n->AC AB f #[va,vb] w (R w))(F:∀e w',R w e w'->∃v,e= .returned v/\s.p w' v/\mBw w w'):Arm AB Q o a w s:=
 mj G C (R:=R w) (by simpa using hc _ _ w H hy) F
theorem dJ{op:BinOp}{t t':TypeId}{r:Value}(H:o.op= .binOp op t x y t')(I:Is a w x (.val u))(hy:Is a w y (.val v))(G:∀w:World,(eqGuard op t x y u v).run AB w= .ok () w)
  (hr:∀w:World,(binOp op t u v).run AB w= .ok r w):Arm AB Q o a w (.val r):=by
 have C:a.eval x=u:=I;have F:a.eval y=v:=hy;refine td r ?_ rfl;unfold execOp;rw[H];simp only[C,F,AH,G,hr,AQ,Bw]
end
theorem nlb(h:N<4294967296^4):nl N<=1000000000000:=AD (aI.2 h) it
def jC(w:World)(g L N:Nat):Prop:=∃a c,aV w g a L c/\IsR w (.agg #[.slice a L c]) L N
theorem jC.mono(h:jC w g L N)(hb:mBw w w'):jC w' g L N:=by
 obtain⟨a,c,h1,h2⟩:=h;exact⟨a,c,h1.mono hb h1.lt,h2.mono hb⟩
variable{a:Option AU}{c:Nat}
theorem jC.made(h:IsR w (.agg #[.slice a L c]) L N):jC (w.alloc (.cells #[.slice a L c] 31)) w.heap.size L N:=
 ⟨a,c,aV.made w a L c,h.mono ((AF _ _).alloc (AE _) _)⟩
theorem iz(w:World)(o:Obj):mBw w (w.alloc o):=(AF _ _).alloc (AE _) o
theorem box1(h:IsR w (.agg #[.slice a L c]) L N):
  mBw w (w.alloc (.cells #[.slice a L c] 31))/\jC (w.alloc (.cells #[.slice a L c] 31)) w.heap.size L N:=⟨iz w _,jC.made h⟩
theorem box2{b:Option AU}{L2 c2 N2:Nat}(h:IsR w (.agg #[.slice a L c]) L N)(h2:IsR w (.agg #[.slice b L2 c2]) L2 N2):
  mBw w ((w.alloc (.cells #[.slice a L c] 31)).alloc (.cells #[.slice b L2 c2] 31))/\
  jC ((w.alloc (.cells #[.slice a L c] 31)).alloc (.cells #[.slice b L2 c2] 31)) w.heap.size L N/\
  jC ((w.alloc (.cells #[.slice a L c] 31)).alloc (.cells #[.slice b L2 c2] 31)) (w.heap.size+1) L2 N2:=by
 obtain⟨C,k2⟩:=box1 h;obtain⟨k3,F⟩:=box1 (h2.mono C);refine⟨C.trans (k3.mono C.size),k2.mono k3,?_⟩;rw[Cr]at F;exact F
variable{d:Nat}
theorem sm_up(h:N<4294967296^d)(C:d<=e):N<4294967296^e:=Bt h (E4 it C)
theorem sm_add{a b:Nat}(h:a<4294967296^d)(C:b<4294967296^e):a+b<4294967296^(d+e+1):=by
 have h1:=sm_up h (Ea d e);have h2:=sm_up C (Nat.le_add_left e d);rw[BO];omega
theorem sm_mul{a b:Nat}(h:a<4294967296^d)(C:b<4294967296^e):a*b<4294967296^(d+e):=by
 rw[BC];rcases Dc b with rfl | hb
 ·rw[CS];exact Ey (D4 (AY _) h) C
 ·exact Bt ((Nat.mul_lt_mul_right hb).2 h) (Nat.mul_le_mul_left _ (Nat.le_of_lt C))
section
variable {Q:A4->Act->World->Prop} {o:Oper} {a:Act} {w:World} {tt:Array TypeId}
end
variable{m:Nat}
theorem D_over{i:Nat}(h:m<4294967296^L)(hi:L<=i):D m i=0:=by
 unfold D;rw[Cz (Bt h (E4 it hi))]
theorem aaf(va:Value)(L m i:Nat)(w:World)(ha:IsR w va L m)(Z:L<=60000000000000)(hi:i<=60000000000000):
  AC AB 304 #[va,.int .i64 (i:Int)] w λe w'=>bI w (.int .u64 ((D m i:Nat):Int)) e w':=by
 obtain⟨a,G,rfl,J,H⟩:=ha;have C:=iz w (.cells #[.slice a L G] 31);have v1:=aV.made w a L G;have F:=H.mono C;have V:=v1.cell;go_enter Tryz.func304,Tryz.ntmps304
 by_cases h:L<=i
 ·have h0:=D_over H.lt h;have I:(L:Int)<=(i:Int):=no
  go_wp2;go_ret;exact⟨by rw[h0];rfl,C⟩
 ·obtain⟨U,o1,rfl,h1⟩:=F.cells no;have Y:=h1 i no;have I:¬(L:Int)<=(i:Int):=no
  have K:=cf m i;go_wp2;go_ret;exact⟨rfl,C⟩
theorem GR.newC(h:GR w base (.slice a L c) L N)(hl:nl N=L)(hb:mBw w w'):aU base w' (.agg #[.slice a (nl N) c]) N:=by
 obtain⟨a',U,e,H,G,F⟩:=h.open;cases e;refine⟨a,c,rfl,no,λV=> ?_⟩;obtain⟨g,rfl,J,C,hf⟩:=F no;obtain⟨b,o,e,I⟩:=G.cells no;cases e;exact⟨g,0,rfl,J,λj K=>(hb.cell (p:=⟨g,0+j,none⟩) C).trans (I j no),λj K=>(hb.frozen (p:=⟨g,0+j,none⟩) C).trans (hf _)⟩
theorem ml(N i:Nat):N % 4294967296^i+D N i*4294967296^i=N % 4294967296^(i+1):=by
 rw[Nat.mod_pow_succ];unfold D;rw[BV]
set_option maxHeartbeats 1000000 in
theorem pk(a:Option AU)(L c N:Nat)(w:World)(Z:Rw w a L N)(hL:L<=20000000000000):
  AC AB 176 #[.slice a L c] w λe w'=>cY w N e w':=by
 have hw:=iz w (.cells #[.slice none 0 0] 31);have v0:=aV.made w none 0 0;have I:=Z.mono hw;have am:nl N<=L:=aI.2 Z.lt;go_enter Tryz.func176,Tryz.ntmps176
 go_upto_region 1 with(fail)
 go_cut [3] (λK wx=>K= .int .i64 (L:Int)/\mBw w wx/\aV wx w.heap.size none 0 0)
 case first=>
  go_wp2_with fail
  go_meet;case rel=>exact⟨rfl,hw,v0⟩
 case rest=>
  obtain⟨rfl,J,v1⟩:=hcut;clear hw v0 I;have I:=Z.mono J;have aq:=v1.lt;go_upto_block 0 with(fail)
  go_cut [3] (λK wx=>K= .int .i64 ((nl N:Nat):Int)/\wx=wc)
  case first=>
   go_wp2_with fail
   go_loopw [3] (λK wr=>∃n:Nat,K= .int .i64 (n:Int)/\n<=L/\nl N<=n/\wr=wc) (λK _=>(intOf K).toNat)
   case atStart=>exact⟨L,rfl,AE _,am,rfl⟩
   case round=>
    obtain⟨n,rfl,hn,ax,rfl⟩:=hrel;by_cases hz:0<n/\D N (n - 1)=0
    ·obtain⟨av,G⟩:=hz;obtain⟨b1,o1,rfl,h1⟩:=I.cells no;have d1:=h1 (n - 1) no;rw[G]at d1;have e1:((n:Int) - 1)=((n - 1:Nat):Int):=no
     have V:(0:Int)<(n:Int):=no
     have ad:nl N<=n - 1:=jz no G;have HD:=AA G;clear G;go_wp2_with fail
     go_roundw
     case rel=>exact⟨n - 1,by go_num,no,ad,trivial⟩
     case measure=>simp[intOf];omega
    ·have hN:nl N=n:=by
      rcases Bc (nl N) n with h | h
      ·exact absurd ⟨no,iS no⟩ hz
      ·omega
     subst hN;rcases Dc (nl N)with h | h
     ·have h0:¬(0:Int)<((nl N:Nat):Int):=no
      have H:=AA h;clear h hz;go_wp2_with fail
      go_meet;case rel=>exact Ai
     ·have ak:D N (nl N - 1)≠0:=λe=>hz ⟨h,e⟩
      obtain⟨b1,o1,rfl,h1⟩:=I.cells no;have d1:=h1 (nl N - 1) no;have e1:(((nl N:Nat):Int) - 1)=((nl N - 1:Nat):Int):=no
      have V:(0:Int)<((nl N:Nat):Int):=no
      have au:¬((D N (nl N - 1):Nat):Int)=0:=no
      clear hz ak;go_wp2_with fail
      go_meet;case rel=>exact Ai
  case rest=>
   obtain⟨rfl,rfl⟩:=hcut;go_wp2_with fail
   go_loopw [4,5] (λs4 s5 wr=>∃i:Nat,i<=nl N/\s5= .int .i64 (i:Int)/\GR wr (w.heap.size+1) s4 i (N % 4294967296^i)/\Bi (w.heap.size+1) wc wr/\w.heap.size+1<=wr.heap.size) (λ_ s5 _=>nl N - (intOf s5).toNat)
   case atStart=>exact⟨0,AY _,rfl,by rw[DJ,CD];exact GR.nil _ _,AF _ _,aq⟩
   case round=>
    obtain⟨i,hi,rfl,C,F,ap⟩:=hrel;by_cases V:i<nl N
    ·have ar:=Z.mono (J.trans (F.mono (DR _)));obtain⟨b1,o1,rfl,h1⟩:=ar.cells no;have d1:=h1 i no;have ac:=cf N i;obtain⟨a',c',rfl,aa,an,Y⟩:=C.open;go_wp2_with (at_builtin;refine cC rfl _ _ rfl (w.heap.size+1) (.slice a' i c') i (N % 4294967296^i) (D N i) rfl C ap rfl ac no ?_)
     intro v' w' U ab ao;rw[ml]at U;go_wp2_with fail
     go_roundw
     case rel=>exact⟨i+1,no,by go_num,U,F.trans ab,ao⟩
     case measure=>simp[intOf];omega
    ·obtain rfl:i=nl N:=no
     rw[Cn (eA N)]at C;obtain⟨a',c',rfl,aa,an,Y⟩:=C.open;have vr:=v1.mono F (Nat.lt_succ_self _);have cr:=vr.cell;have fr:=vr.frozen;have hn:=(C.newC rfl (AF _ _)).setVar (u:=.slice a' (nl N) c') vr;go_wp2;exact A7 (eX rfl _ _ w.heap.size _ rfl vr.set.cell) rfl ⟨_,rfl,hn.weaken (DR _),(J.trans (F.mono (DR _))).setCell (AE _) _⟩
section
variable {Q:A4->Act->World->Prop} {o:Oper} {a:Act} {w:World} {x y:AP} {tt:Array TypeId}
theorem bE{m i:Nat}(F:o.op= .call {callee:=.value (.func 304),args:=#[x,y],argTypes:=tt})(G:Is a w x (.nat m))(hy:Is a w y (.val (.int .i64 (i:Int))))(H:nl m<=1000000000000)(hi:i<=60000000000000):
  Arm AB Q o a w (.val (.int .u64 ((D m i:Nat):Int))):=by
 refine mj F (ah Tryz.func304 rfl rfl) (R:=bI w (.int .u64 ((D m i:Nat):Int))) ?_ (λ_ _ h=>ofV h);have C:a.eval y= .int .i64 (i:Int):=hy;simpa [C]using aaf _ (nl m) m i w G no hi
end
variable{n:Nat}
theorem uK{k:Nat}(h:m / 4294967296^(k+1)=n / 4294967296^(k+1))(C:D m k=D n k):m / 4294967296^k=n / 4294967296^k:=by
 rw[cH m k,cH n k,h,C]
theorem GR.below(h:GR w base v L N)(hb:mBw w w'):GR w' base v L N:=by
 refine⟨h.1,h.2.1,?_⟩;rcases h.2.2 with⟨h1,h0⟩ | ⟨g,c,cur,rfl,C,F,G⟩
 ·exact .inl ⟨h1,h0⟩
 ·exact .inr ⟨g,c,cur,rfl,C,(hb.block g (AZ.1 F).1).trans F,G⟩
theorem jD(x y z:Nat)(hz:x+y=z)(h:z<18446744073709551616)(w:World):(binOp BinOp.add 178 (.int .u64 (x:Int)) (.int .u64 (y:Int))).run AB w= .ok (.int .u64 (z:Int)) w:=by
 subst hz;have e:((x:Int)+(y:Int)) % 18446744073709551616=((x+y:Nat):Int):=no
 go_simp;exact e
theorem uL(x y z:Nat)(hz:x=y+z)(h:x<18446744073709551616)(w:World):(binOp BinOp.sub 178 (.int .u64 (x:Int)) (.int .u64 (y:Int))).run AB w= .ok (.int .u64 (z:Int)) w:=by
 subst hz;have e:(((y+z:Nat):Int) - (y:Int)) % 18446744073709551616=(z:Int):=no
 go_simp;exact e
def j8(ga gb m n k:Nat):List (Nat×Tmp×Sp):=
  [(0,18,.nat (m)),
  (1,19,.val (AK Be ((k:Nat)))),
  (2,20,.val (AK BE (((D (m) (k):Nat):Int)))),
  (3,21,.nat (n)),
  (4,22,.val (AK Be ((k:Nat)))),
  (5,23,.val (AK BE (((D (n) (k):Nat):Int)))),
  (6,24,.val (Cs (decide (((D m k:Nat):Int)<((D n k:Nat):Int)))))]
def oV(ga gb m n k:Nat):List (Nat×Tmp×Sp):=
  [(0,25,.nat (m)),
  (1,26,.val (AK Be ((k:Nat)))),
  (2,27,.val (AK BE (((D (m) (k):Nat):Int)))),
  (3,28,.nat (n)),
  (4,29,.val (AK Be ((k:Nat)))),
  (5,30,.val (AK BE (((D (n) (k):Nat):Int)))),
  (6,31,.val (Cs (decide (((D m k:Nat):Int)>((D n k:Nat):Int)))))]
theorem Ah{p:Prop}(h:p:=by go_simp):p:=h
set_option maxRecDepth 100000 in
set_option maxHeartbeats 1000000 in
theorem nE(va vb:Value)(m n:Nat)(w:World)(ha:IsN w va m)(hb:IsN w vb n)(hm:nl m<=1000000000000)(hn:nl n<=1000000000000):
  AC AB 290 #[va,vb] w λe w'=>bI w (.int .i64 (cmpI m n)) e w':=by
 obtain⟨a,ca,rfl,ak,ra⟩:=ha;obtain⟨b,cb,rfl,am,rb⟩:=hb;obtain⟨k0,k1,k2⟩:=box2 (L:=nl m) (c:=ca) (N:=m) (L2:=nl n) (c2:=cb) (N2:=n) ⟨a,ca,rfl,ak,ra⟩ ⟨b,cb,rfl,am,rb⟩;obtain⟨M,ac,ad,Y⟩:∃M,nl m<=M/\nl n<=M/\Hid (M=nl m\/M=nl n):=by
  rcases Nat.le_total (nl m) (nl n)with h | h
  ·exact⟨nl n,h,AE _,AA (.inr rfl)⟩
  ·exact⟨nl m,AE _,h,AA (.inl rfl)⟩
 go_enter Tryz.func290,Tryz.ntmps290
 go_upto_region 1 with(fail)
 go_cut [5] (λs5 wx=>s5= .int .i64 ((M:Int) - 1)/\dP wx w.heap.size m/\dP wx (w.heap.size+1) n/\mBw w wx)
 case first=>
  obtain⟨ya,da,qa,ia⟩:=k1;have ea:=qa.cell;obtain⟨yb,db,qb,ib⟩:=k2;have eb:=qb.cell;rcases Bc (nl m) (nl n)with ap | ao
  ·obtain rfl:M=nl n:=by have:=Y.out;omega
   go_wp2_with fail
   go_meet;case rel=>exact⟨rfl,⟨ya,da,qa,ia⟩,⟨yb,db,qb,ib⟩,k0⟩
  ·obtain rfl:M=nl m:=by have:=Y.out;omega
   have an:¬nl m<nl n:=no
   go_wp2_with fail
   go_meet;case rel=>exact⟨rfl,⟨ya,da,qa,ia⟩,⟨yb,db,qb,ib⟩,k0⟩
 case rest=>
  obtain⟨rfl,I,J,H⟩:=hcut;clear k0 k1 k2 ra rb;have hM:M<=1000000000000:=by rcases Y.out with h | h<;>omega
  go_wp2_with fail
  go_loopw [5] (λs5 wr=>∃k:Nat,k<=M/\s5= .int .i64 ((k:Int) - 1)/\Hid (m / 4294967296^k=n / 4294967296^k)/\dP wr w.heap.size m/\dP wr (w.heap.size+1) n/\mBw w wr) (λs5 _=>((intOf s5)+1).toNat)
  case atStart=>exact⟨M,AE _,rfl,AA (by rw[Cz (aI.1 ac),Cz (aI.1 ad)]),I,J,H⟩
  case round=>
   obtain⟨k,hk,rfl,HR,I,J,H⟩:=hrel
   cases k with
   | zero=>
    go_wp2;go_ret;exact⟨by rw[ma (by simpa using HR.out)];rfl,H⟩
   | succ k=>
    have C:k<=60000000000000:=no
    have e:(((k+1:Nat):Int) - 1)=(k:Int):=no
    simp only[e];clear e;rcases Nat.lt_trichotomy (D m k) (D n k)with h | h | h
    ·have h':((D m k:Nat):Int)<((D n k:Nat):Int):=no
     go_upto_region 4 with(fail)
     refine gL Tryz.f290 4 (j8 w.heap.size (w.heap.size+1) m n k) Aa Aa rfl Aa Aa ?_ ?_
     ·refine⟨λa' w' F=>⟨_,rfl,ag rfl,bA rfl (F.keep 2 (Cp (some ⟨w.heap.size,0,none⟩)) Aa rfl).is (I.mono F.below)⟩,?_⟩;refine⟨λa' w' F=>⟨_,rfl,ag rfl,bh (.inl rfl) (F.keep 5 (AK Be ((k:Nat))) Aa rfl).is⟩,?_⟩;refine⟨λa' w' F=>⟨_,rfl,ag rfl,bE rfl (F.f 0 rfl) (F.f 1 rfl) (hm) (C)⟩,?_⟩;refine⟨λa' w' F=>⟨_,rfl,ag rfl,bA rfl (F.keep 3 (Cp (some ⟨w.heap.size+1,0,none⟩)) Aa rfl).is (J.mono F.below)⟩,?_⟩;refine⟨λa' w' F=>⟨_,rfl,ag rfl,bh (.inl rfl) (F.keep 5 (AK Be ((k:Nat))) Aa rfl).is⟩,?_⟩;refine⟨λa' w' F=>⟨_,rfl,ag rfl,bE rfl (F.f 3 rfl) (F.f 4 rfl) (hn) (C)⟩,?_⟩;refine⟨λa' w' F=>⟨_,rfl,ag rfl,dJ rfl (F.f 2 rfl) (F.f 5 rfl) (λ_=>rfl) (λ_=>Ah)⟩,?_⟩;exact trivial
     intro gp wp K G;have U:gp 6=Cs (decide (((D m k:Nat):Int)<((D n k:Nat):Int))):=G 6 24 _ rfl;simp only[j8];simp only[cI,aG,Bq,BS,Cc,Cj,AI,AL,AM,AN,U];clear G;go_wp2_with fail
     go_ret;exact⟨by rw[gI (gJ HR.out h)];rfl,H.trans (K.mono H.size)⟩
    ·have aa:¬((D m k:Nat):Int)<((D n k:Nat):Int):=no
     have ab:¬((D n k:Nat):Int)<((D m k:Nat):Int):=no
     have HD:=AA h;clear h;go_upto_region 4 with(fail)
     refine gL Tryz.f290 4 (j8 w.heap.size (w.heap.size+1) m n k) Aa Aa rfl Aa Aa ?_ ?_
     ·refine⟨λa' w' F=>⟨_,rfl,ag rfl,bA rfl (F.keep 2 (Cp (some ⟨w.heap.size,0,none⟩)) Aa rfl).is (I.mono F.below)⟩,?_⟩;refine⟨λa' w' F=>⟨_,rfl,ag rfl,bh (.inl rfl) (F.keep 5 (AK Be ((k:Nat))) Aa rfl).is⟩,?_⟩;refine⟨λa' w' F=>⟨_,rfl,ag rfl,bE rfl (F.f 0 rfl) (F.f 1 rfl) (hm) (C)⟩,?_⟩;refine⟨λa' w' F=>⟨_,rfl,ag rfl,bA rfl (F.keep 3 (Cp (some ⟨w.heap.size+1,0,none⟩)) Aa rfl).is (J.mono F.below)⟩,?_⟩;refine⟨λa' w' F=>⟨_,rfl,ag rfl,bh (.inl rfl) (F.keep 5 (AK Be ((k:Nat))) Aa rfl).is⟩,?_⟩;refine⟨λa' w' F=>⟨_,rfl,ag rfl,bE rfl (F.f 3 rfl) (F.f 4 rfl) (hn) (C)⟩,?_⟩;refine⟨λa' w' F=>⟨_,rfl,ag rfl,dJ rfl (F.f 2 rfl) (F.f 5 rfl) (λ_=>rfl) (λ_=>Ah)⟩,?_⟩;exact trivial
     intro gp wp K G;have U:gp 6=Cs (decide (((D m k:Nat):Int)<((D n k:Nat):Int))):=G 6 24 _ rfl;simp only[j8];simp only[cI,aG,Bq,BS,Cc,Cj,AI,AL,AM,AN,U];clear G
     replace I:=I.mono K
     replace J:=J.mono K
     go_upto_region 6 with(fail)
     refine gL Tryz.f290 6 (oV w.heap.size (w.heap.size+1) m n k) Aa Aa rfl Aa Aa ?_ ?_
     ·refine⟨λa' w' F=>⟨_,rfl,ag rfl,bA rfl (F.keep 2 (Cp (some ⟨w.heap.size,0,none⟩)) Aa rfl).is (I.mono F.below)⟩,?_⟩;refine⟨λa' w' F=>⟨_,rfl,ag rfl,bh (.inl rfl) (F.keep 5 (AK Be ((k:Nat))) Aa rfl).is⟩,?_⟩;refine⟨λa' w' F=>⟨_,rfl,ag rfl,bE rfl (F.f 0 rfl) (F.f 1 rfl) (hm) (C)⟩,?_⟩;refine⟨λa' w' F=>⟨_,rfl,ag rfl,bA rfl (F.keep 3 (Cp (some ⟨w.heap.size+1,0,none⟩)) Aa rfl).is (J.mono F.below)⟩,?_⟩;refine⟨λa' w' F=>⟨_,rfl,ag rfl,bh (.inl rfl) (F.keep 5 (AK Be ((k:Nat))) Aa rfl).is⟩,?_⟩;refine⟨λa' w' F=>⟨_,rfl,ag rfl,bE rfl (F.f 3 rfl) (F.f 4 rfl) (hn) (C)⟩,?_⟩;refine⟨λa' w' F=>⟨_,rfl,ag rfl,dJ rfl (F.f 2 rfl) (F.f 5 rfl) (λ_=>rfl) (λ_=>Ah)⟩,?_⟩;exact trivial
     intro gq wq Z G;have V:gq 6=Cs (decide (((D m k:Nat):Int)>((D n k:Nat):Int))):=G 6 31 _ rfl;simp only[oV];simp only[cI,aG,Bq,BS,Cc,Cj,AI,AL,AM,AN,V];clear G;go_wp2_with fail
     go_roundw
     case rel=>exact⟨k,no,by go_num,AA (uK HR.out HD.out),I.mono Z,J.mono Z,(H.trans (K.mono H.size)).trans (Z.mono (H.trans (K.mono H.size)).size)⟩
     case measure=>simp[intOf]<;>omega
    ·have aa:¬((D m k:Nat):Int)<((D n k:Nat):Int):=no
     have ab:((D n k:Nat):Int)<((D m k:Nat):Int):=no
     go_upto_region 4 with(fail)
     refine gL Tryz.f290 4 (j8 w.heap.size (w.heap.size+1) m n k) Aa Aa rfl Aa Aa ?_ ?_
     ·refine⟨λa' w' F=>⟨_,rfl,ag rfl,bA rfl (F.keep 2 (Cp (some ⟨w.heap.size,0,none⟩)) Aa rfl).is (I.mono F.below)⟩,?_⟩;refine⟨λa' w' F=>⟨_,rfl,ag rfl,bh (.inl rfl) (F.keep 5 (AK Be ((k:Nat))) Aa rfl).is⟩,?_⟩;refine⟨λa' w' F=>⟨_,rfl,ag rfl,bE rfl (F.f 0 rfl) (F.f 1 rfl) (hm) (C)⟩,?_⟩;refine⟨λa' w' F=>⟨_,rfl,ag rfl,bA rfl (F.keep 3 (Cp (some ⟨w.heap.size+1,0,none⟩)) Aa rfl).is (J.mono F.below)⟩,?_⟩;refine⟨λa' w' F=>⟨_,rfl,ag rfl,bh (.inl rfl) (F.keep 5 (AK Be ((k:Nat))) Aa rfl).is⟩,?_⟩;refine⟨λa' w' F=>⟨_,rfl,ag rfl,bE rfl (F.f 3 rfl) (F.f 4 rfl) (hn) (C)⟩,?_⟩;refine⟨λa' w' F=>⟨_,rfl,ag rfl,dJ rfl (F.f 2 rfl) (F.f 5 rfl) (λ_=>rfl) (λ_=>Ah)⟩,?_⟩;exact trivial
     intro gp wp K G;have U:gp 6=Cs (decide (((D m k:Nat):Int)<((D n k:Nat):Int))):=G 6 24 _ rfl;simp only[j8];simp only[cI,aG,Bq,BS,Cc,Cj,AI,AL,AM,AN,U];clear G
     replace I:=I.mono K
     replace J:=J.mono K
     go_upto_region 6 with(fail)
     refine gL Tryz.f290 6 (oV w.heap.size (w.heap.size+1) m n k) Aa Aa rfl Aa Aa ?_ ?_
     ·refine⟨λa' w' F=>⟨_,rfl,ag rfl,bA rfl (F.keep 2 (Cp (some ⟨w.heap.size,0,none⟩)) Aa rfl).is (I.mono F.below)⟩,?_⟩;refine⟨λa' w' F=>⟨_,rfl,ag rfl,bh (.inl rfl) (F.keep 5 (AK Be ((k:Nat))) Aa rfl).is⟩,?_⟩;refine⟨λa' w' F=>⟨_,rfl,ag rfl,bE rfl (F.f 0 rfl) (F.f 1 rfl) (hm) (C)⟩,?_⟩;refine⟨λa' w' F=>⟨_,rfl,ag rfl,bA rfl (F.keep 3 (Cp (some ⟨w.heap.size+1,0,none⟩)) Aa rfl).is (J.mono F.below)⟩,?_⟩;refine⟨λa' w' F=>⟨_,rfl,ag rfl,bh (.inl rfl) (F.keep 5 (AK Be ((k:Nat))) Aa rfl).is⟩,?_⟩;refine⟨λa' w' F=>⟨_,rfl,ag rfl,bE rfl (F.f 3 rfl) (F.f 4 rfl) (hn) (C)⟩,?_⟩;refine⟨λa' w' F=>⟨_,rfl,ag rfl,dJ rfl (F.f 2 rfl) (F.f 5 rfl) (λ_=>rfl) (λ_=>Ah)⟩,?_⟩;exact trivial
     intro gq wq Z G;have V:gq 6=Cs (decide (((D m k:Nat):Int)>((D n k:Nat):Int))):=G 6 31 _ rfl;simp only[oV];simp only[cI,aG,Bq,BS,Cc,Cj,AI,AL,AM,AN,V];clear G;go_wp2_with fail
     go_ret;exact⟨by rw[j6 (gJ HR.out.symm h)];rfl,(H.trans (K.mono H.size)).trans (Z.mono (H.trans (K.mono H.size)).size)⟩
def oW(ga gb m n i S X:Nat):List (Nat×Tmp×Sp):=
  [(0,20,.nat (m)),
  (1,21,.val (AK Be ((i:Nat)))),
  (2,22,.val (AK BE (((D (m) (i):Nat):Int)))),
  (3,23,.nat (n)),
  (4,24,.val (AK Be ((i:Nat)))),
  (5,25,.val (AK BE (((D (n) (i):Nat):Int)))),
  (6,26,.val (AK BE (((S:Nat):Int)))),
  (7,27,.val (AK BE (((cy m n i:Nat):Int)))),
  (8,28,.val (AK BE (((X:Nat):Int)))),
  (9,8,.val (AK BE (((X:Nat):Int))))]
theorem max_of(m n:Nat):∃M,m<=M/\n<=M/\(M=m\/M=n)/\((m<n/\M=n)\/(¬m<n/\M=m)):=by
 rcases Bc m n with h | h
 ·exact⟨n,no,no,.inr rfl,.inl ⟨h,rfl⟩⟩
 ·exact⟨m,no,no,.inl rfl,.inr ⟨no,rfl⟩⟩
set_option maxRecDepth 100000 in
set_option maxHeartbeats 1000000 in
theorem j9(va vb:Value)(m n:Nat)(w:World)(ha:IsN w va m)(hb:IsN w vb n)(hm:nl m<=1000000000000)(hn:nl n<=1000000000000):
  AC AB 288 #[va,vb] w λe w'=>cY w (m+n) e w':=by
 obtain⟨a,ca,rfl,a5,ra⟩:=ha;obtain⟨b,cb,rfl,a6,rb⟩:=hb;obtain⟨k0,k1,k2⟩:=box2 (L:=nl m) (c:=ca) (N:=m) (L2:=nl n) (c2:=cb) (N2:=n) ⟨a,ca,rfl,a5,ra⟩ ⟨b,cb,rfl,a6,rb⟩;have k3:=iz ((w.alloc (.cells #[.slice a (nl m) ca] 31)).alloc (.cells #[.slice b (nl n) cb] 31)) (.cells #[.slice none 0 0] 31);have k4:=aV.made ((w.alloc (.cells #[.slice a (nl m) ca] 31)).alloc (.cells #[.slice b (nl n) cb] 31)) none 0 0;rw[Cr,Cr]at k4
 replace k0:=k0.trans (k3.mono k0.size)
 replace k1:=jC.mono k1 k3
 replace k2:=jC.mono k2 k3
 obtain⟨M,a3,a4,av,ab⟩:=max_of (nl m) (nl n);have hM:M<=1000000000000:=by rcases av with h | h<;>omega
 clear av
 replace ab:=AA ab
 go_enter Tryz.func288,Tryz.ntmps288
 go_upto_region 1 with(fail)
 go_cut [5] (λs5 wx=>s5= .slice none 0 0/\dP wx w.heap.size m/\dP wx (w.heap.size+1) n/\aV wx (w.heap.size+1+1) none 0 0/\mBw w wx)
 case first=>
  go_wp2_with fail
  go_meet;case rel=>exact⟨rfl,k1,k2,k4,k0⟩
 case rest=>
  obtain⟨rfl,Va,Vb,vr,J⟩:=hcut;clear k0 k1 k2 k3 k4 ra rb;go_wp2_with fail
  go_loopw [5,6,7] (λs5 s6 s7 wr=>∃i:Nat,i<=M+1/\s7= .int .i64 (i:Int)/\s6= .int .u64 ((cy m n i:Nat):Int)/\GR wr wc.heap.size s5 i ((m+n) % 4294967296^i)/\mBw wc wr) (λ_ _ s7 _=>M+1 - (intOf s7).toNat)
  case atStart=>exact⟨0,AY _,rfl,by rw[oR];rfl,by rw[DJ,CD];exact GR.nil _ _,AF _ _⟩
  case round=>
   obtain⟨i,hi,rfl,rfl,V,C⟩:=hrel;have a1:=Va.mono C;have a2:=Vb.mono C;obtain⟨ya,da,qa,ia⟩:=a1;have ea:=qa.cell;obtain⟨yb,db,qb,ib⟩:=a2;have eb:=qb.cell;have U:i<=60000000000000:=no
   have bt:=oA m n i;by_cases hlt:i<=M
   ·have a9:=l8 m n i;have hd:=cf (m+n) i;obtain⟨S,hS⟩:∃S:Nat,Hid (S=D m i+D n i):=⟨_,AA rfl⟩;obtain⟨X,hX⟩:∃X:Nat,Hid (X=S+cy m n i):=⟨_,AA rfl⟩;have ax:S<8589934592:=by have:=cf m i;have:=cf n i;have:=hS.out;omega
    have ay:X<8589934593:=by have:=hX.out;omega
    have bq:((X:Nat):Int) % 4294967296=((D (m+n) i:Nat):Int):=by have:=hX.out;have:=hS.out;omega
    have bi:((X:Nat):Int) / 4294967296=((cy m n (i+1):Nat):Int):=by have:=hX.out;have:=hS.out;omega
    clear a9;have be:=oA m n (i+1);have Va:dP wr w.heap.size m:=⟨ya,da,qa,ia⟩;have Vb:dP wr (w.heap.size+1) n:=⟨yb,db,qb,ib⟩;rcases ab.out with⟨aq,H⟩ | ⟨aq,H⟩
    ·have ap:i<=nl n:=no
     have ak:=AA H;clear H hlt;go_upto_region 6 with(fail)
     refine gL Tryz.f288 6 (oW w.heap.size (w.heap.size+1) m n i S X) Aa Aa rfl Aa Aa ?_ ?_
     ·refine⟨λa' w' F=>⟨_,rfl,ag rfl,bA rfl (F.keep 2 (Cp (some ⟨w.heap.size,0,none⟩)) Aa rfl).is (Va.mono F.below)⟩,?_⟩;refine⟨λa' w' F=>⟨_,rfl,ag rfl,bh (.inl rfl) (F.keep 7 (AK Be ((i:Nat))) Aa rfl).is⟩,?_⟩;refine⟨λa' w' F=>⟨_,rfl,ag rfl,bE rfl (F.f 0 rfl) (F.f 1 rfl) (hm) (U)⟩,?_⟩;refine⟨λa' w' F=>⟨_,rfl,ag rfl,bA rfl (F.keep 3 (Cp (some ⟨w.heap.size+1,0,none⟩)) Aa rfl).is (Vb.mono F.below)⟩,?_⟩;refine⟨λa' w' F=>⟨_,rfl,ag rfl,bh (.inl rfl) (F.keep 7 (AK Be ((i:Nat))) Aa rfl).is⟩,?_⟩;refine⟨λa' w' F=>⟨_,rfl,ag rfl,bE rfl (F.f 3 rfl) (F.f 4 rfl) (hn) (U)⟩,?_⟩;refine⟨λa' w' F=>⟨_,rfl,ag rfl,dJ rfl (F.f 2 rfl) (F.f 5 rfl) (λ_=>rfl) (jD _ _ _ hS.out.symm (by have:=ax;omega))⟩,?_⟩;refine⟨λa' w' F=>⟨_,rfl,ag rfl,bh (.inl rfl) (F.keep 6 (AK BE (((cy m n i:Nat):Int))) Aa rfl).is⟩,?_⟩;refine⟨λa' w' F=>⟨_,rfl,ag rfl,dJ rfl (F.f 6 rfl) (F.f 7 rfl) (λ_=>rfl) (jD _ _ _ hX.out.symm (by have:=ay;omega))⟩,?_⟩;refine⟨λa' w' F=>⟨_,rfl,ag rfl,bh (.inr rfl) (F.f 8 rfl)⟩,?_⟩;exact trivial
     intro gp wp bp G;have am:gp 9=AK BE (((X:Nat):Int)):=G 9 8 _ rfl;simp only[oW];simp only[cI,aG,Bq,BS,Cc,Cj,AI,AL,AM,AN,am];clear G;have K:=V.below bp;have Y:=C.trans (bp.mono C.size);have aa:=Y.size;obtain⟨a',c',rfl,au,ac,ad⟩:=K.open;clear V ea qa ia eb qb ib Va Vb;go_wp2_with (at_builtin;refine cC rfl _ _ rfl wc.heap.size (.slice a' i c') i ((m+n) % 4294967296^i) (D (m+n) i) rfl K aa rfl hd no ?_)
     intro v' w' Z an a7;rw[ml]at Z;go_wp2_with fail
     go_roundw
     case rel=>exact⟨i+1,no,by go_num,rfl,Z,Y.trans an⟩
     case measure=>simp[intOf]<;>omega
    ·have ap:i<=nl m:=no
     have ak:=AA H;clear H hlt;go_upto_region 6 with(fail)
     refine gL Tryz.f288 6 (oW w.heap.size (w.heap.size+1) m n i S X) Aa Aa rfl Aa Aa ?_ ?_
     ·refine⟨λa' w' F=>⟨_,rfl,ag rfl,bA rfl (F.keep 2 (Cp (some ⟨w.heap.size,0,none⟩)) Aa rfl).is (Va.mono F.below)⟩,?_⟩;refine⟨λa' w' F=>⟨_,rfl,ag rfl,bh (.inl rfl) (F.keep 7 (AK Be ((i:Nat))) Aa rfl).is⟩,?_⟩;refine⟨λa' w' F=>⟨_,rfl,ag rfl,bE rfl (F.f 0 rfl) (F.f 1 rfl) (hm) (U)⟩,?_⟩;refine⟨λa' w' F=>⟨_,rfl,ag rfl,bA rfl (F.keep 3 (Cp (some ⟨w.heap.size+1,0,none⟩)) Aa rfl).is (Vb.mono F.below)⟩,?_⟩;refine⟨λa' w' F=>⟨_,rfl,ag rfl,bh (.inl rfl) (F.keep 7 (AK Be ((i:Nat))) Aa rfl).is⟩,?_⟩;refine⟨λa' w' F=>⟨_,rfl,ag rfl,bE rfl (F.f 3 rfl) (F.f 4 rfl) (hn) (U)⟩,?_⟩;refine⟨λa' w' F=>⟨_,rfl,ag rfl,dJ rfl (F.f 2 rfl) (F.f 5 rfl) (λ_=>rfl) (jD _ _ _ hS.out.symm (by have:=ax;omega))⟩,?_⟩;refine⟨λa' w' F=>⟨_,rfl,ag rfl,bh (.inl rfl) (F.keep 6 (AK BE (((cy m n i:Nat):Int))) Aa rfl).is⟩,?_⟩;refine⟨λa' w' F=>⟨_,rfl,ag rfl,dJ rfl (F.f 6 rfl) (F.f 7 rfl) (λ_=>rfl) (jD _ _ _ hX.out.symm (by have:=ay;omega))⟩,?_⟩;refine⟨λa' w' F=>⟨_,rfl,ag rfl,bh (.inr rfl) (F.f 8 rfl)⟩,?_⟩;exact trivial
     intro gp wp bp G;have am:gp 9=AK BE (((X:Nat):Int)):=G 9 8 _ rfl;simp only[oW];simp only[cI,aG,Bq,BS,Cc,Cj,AI,AL,AM,AN,am];clear G;have K:=V.below bp;have Y:=C.trans (bp.mono C.size);have aa:=Y.size;obtain⟨a',c',rfl,au,ac,ad⟩:=K.open;clear V ea qa ia eb qb ib Va Vb;go_wp2_with (at_builtin;refine cC rfl _ _ rfl wc.heap.size (.slice a' i c') i ((m+n) % 4294967296^i) (D (m+n) i) rfl K aa rfl hd no ?_)
     intro v' w' Z an a7;rw[ml]at Z;go_wp2_with fail
     go_roundw
     case rel=>exact⟨i+1,no,by go_num,rfl,Z,Y.trans an⟩
     case measure=>simp[intOf]<;>omega
   ·obtain rfl:i=M+1:=no
    have a0:m+n<4294967296^(M+1):=by
     have h1:=aI.1 a3;have h2:=aI.1 a4;rw[BO];omega
    rw[Cn a0]at V;obtain⟨a',c',rfl,au,ac,ad⟩:=V.open;rcases ab.out with⟨aq,H⟩ | ⟨aq,H⟩
    ·generalize hi1:M+1=i at *;have ap:¬i<=nl n:=no
     have ak:=AA H;clear H hlt;go_wp2_with fail
     refine(pk a' i c' (m+n) _ ac no).mono ?_;rintro e w2 ⟨v2,rfl,⟨x2,c2,rfl,ao,ar⟩,bb⟩;have n2:aU wc.heap.size w2 (.agg #[.slice x2 (nl (m+n)) c2]) (m+n):=aU.weaken (base:=wr.heap.size) ⟨x2,c2,rfl,ao,ar⟩ C.size;have I:=(vr.mono C vr.lt).mono bb (Bt vr.lt C.size);have cr:=I.cell;have fr:=I.frozen;have n3:=n2.setVar (u:=.slice x2 (nl (m+n)) c2) I;go_wp2;exact A7 (eX rfl _ _ (w.heap.size+1+1) _ rfl I.set.cell) rfl ⟨_,rfl,n3.weaken J.size,((J.trans (C.mono J.size)).trans (bb.mono (AD J.size C.size))).setCell (p:=⟨w.heap.size+1+1,0,none⟩) (by simp;omega) _⟩
    ·generalize hi1:M+1=i at *;have ap:¬i<=nl m:=no
     have ak:=AA H;clear H hlt;go_wp2_with fail
     refine(pk a' i c' (m+n) _ ac no).mono ?_;rintro e w2 ⟨v2,rfl,⟨x2,c2,rfl,ao,ar⟩,bb⟩;have n2:aU wc.heap.size w2 (.agg #[.slice x2 (nl (m+n)) c2]) (m+n):=aU.weaken (base:=wr.heap.size) ⟨x2,c2,rfl,ao,ar⟩ C.size;have I:=(vr.mono C vr.lt).mono bb (Bt vr.lt C.size);have cr:=I.cell;have fr:=I.frozen;have n3:=n2.setVar (u:=.slice x2 (nl (m+n)) c2) I;go_wp2;exact A7 (eX rfl _ _ (w.heap.size+1+1) _ rfl I.set.cell) rfl ⟨_,rfl,n3.weaken J.size,((J.trans (C.mono J.size)).trans (bb.mono (AD J.size C.size))).setCell (p:=⟨w.heap.size+1+1,0,none⟩) (by simp;omega) _⟩
def aag(ga gb m n d i S T X:Nat):List (Nat×Tmp×Sp):=
  [(0,22,.nat (m)),
  (1,23,.val (AK Be ((i:Nat)))),
  (2,24,.val (AK BE (((D (m) (i):Nat):Int)))),
  (3,25,.val (AK BE (((S:Nat):Int)))),
  (4,26,.nat (n)),
  (5,27,.val (AK Be ((i:Nat)))),
  (6,28,.val (AK BE (((D (n) (i):Nat):Int)))),
  (7,29,.val (AK BE (((T:Nat):Int)))),
  (8,30,.val (AK BE (((cy n d i:Nat):Int)))),
  (9,31,.val (AK BE (((X:Nat):Int)))),
  (10,9,.val (AK BE (((X:Nat):Int))))]
set_option maxRecDepth 100000 in
set_option maxHeartbeats 1000000 in
theorem rt(va vb:Value)(m n:Nat)(w:World)(ha:IsN w va m)(hb:IsN w vb n)(hm:nl m<=1000000000000)(hn:nl n<=1000000000000):
  AC AB 291 #[va,vb] w λe w'=>pg w m n e w':=by
 obtain⟨a,ca,rfl,a2,ra⟩:=ha;obtain⟨b,cb,rfl,a3,rb⟩:=hb;obtain⟨k0,k1,k2⟩:=box2 (L:=nl m) (c:=ca) (N:=m) (L2:=nl n) (c2:=cb) (N2:=n) ⟨a,ca,rfl,a2,ra⟩ ⟨b,cb,rfl,a3,rb⟩;have k3:=iz ((w.alloc (.cells #[.slice a (nl m) ca] 31)).alloc (.cells #[.slice b (nl n) cb] 31)) (.cells #[.slice none 0 0] 31);have k4:=aV.made ((w.alloc (.cells #[.slice a (nl m) ca] 31)).alloc (.cells #[.slice b (nl n) cb] 31)) none 0 0;rw[Cr,Cr]at k4
 replace k0:=k0.trans (k3.mono k0.size)
 replace k1:=jC.mono k1 k3
 replace k2:=jC.mono k2 k3
 go_enter Tryz.func291,Tryz.ntmps291
 go_upto_region 0 with(fail)
 go_cut [2,3,4,5] (λs2 s3 s4 s5 wx=>s2= .pointer (some ⟨w.heap.size,0,none⟩)/\s3= .pointer (some ⟨w.heap.size+1,0,none⟩)/\s4= .pointer (some ⟨w.heap.size+1+1,0,none⟩)/\s5= .bool false/\dP wx w.heap.size m/\dP wx (w.heap.size+1) n/\aV wx (w.heap.size+1+1) none 0 0/\mBw w wx)
 case first=>
  go_wp2_with fail
  go_meet;case rel=>exact⟨rfl,rfl,rfl,rfl,k1,k2,k4,k0⟩
 case rest=>
  obtain⟨rfl,rfl,rfl,rfl,Va,Vb,vr,C⟩:=hcut;clear k0 k1 k2 k3 k4 ra rb;have aa:=Va;have ab:=Vb;obtain⟨ya,da,qa,ia⟩:=aa;have ea:=qa.cell;obtain⟨yb,db,qb,ib⟩:=ab;have eb:=qb.cell;go_wp2_with fail
  refine(nE _ _ m n _ ia ib hm hn).mono ?_;rintro e w1 ⟨rfl,K⟩
  replace Va:=Va.mono K
  replace Vb:=Vb.mono K
  replace vr:=vr.mono K vr.lt
  replace C:=C.trans (K.mono C.size)
  clear ea qa ia eb qb ib K;have cr:=vr.cell;have fr:=vr.frozen;by_cases hmn:m<n
  ·rw[gI hmn];have a6:¬n<=m:=no
   have h0:m - n=0:=no
   go_wp2;exact A7 (l9 rfl _ _ (w.heap.size+1+1) (.slice none 0 0) (.bool false) rfl rfl vr.set.cell) rfl ⟨_,by rw[decide_eq_false a6],by rw[h0];exact aU.of_zero,C.setCell (p:=⟨w.heap.size+1+1,0,none⟩) (by simp;omega) _⟩
  ·obtain⟨d,am⟩:∃d,m=n+d:=⟨m - n,no⟩;have b0:¬cmpI m n<0:=by
    rcases Bc n m with h | h
    ·rw[j6 h];decide
    ·rw[ma no];decide
   have Z:decide (n<=m)=true:=decide_eq_true no;have ao:m - n=d:=no
   have HD:=AA am;clear am hmn;have HR:=AA Z;have HM:=AA ao;clear Z ao;go_wp2_with fail
   have a9:=C;generalize hwc:w1=wc at *;go_loopw [6,7,8] (λs6 s7 s8 wr=>∃i:Nat,i<=nl m/\s8= .int .i64 (i:Int)/\s7= .int .u64 ((cy n d i:Nat):Int)/\GR wr wc.heap.size s6 i (d % 4294967296^i)/\mBw wc wr) (λ_ _ s8 _=>nl m - (intOf s8).toNat)
   case atStart=>exact⟨0,AY _,rfl,by rw[oR];rfl,by rw[DJ,CD];exact GR.nil _ _,AF _ _⟩
   case round=>
    obtain⟨i,hi,rfl,rfl,I,H⟩:=hrel;clear cr fr;have aa:=Va.mono H;have ab:=Vb.mono H;obtain⟨ya,da,qa,ia⟩:=aa;have ea:=qa.cell;obtain⟨yb,db,qb,ib⟩:=ab;have eb:=qb.cell;have V:i<=60000000000000:=no
    have b1:=oA n d i;by_cases hlt:i<nl m
    ·have au:=l8 n d i;rw[<-HD.out]at au;have hd:=cf d i;have a5:=cf n i;have a4:=cf m i;have bi:=oA n d (i+1);obtain⟨S,hS⟩:∃S:Nat,Hid (S=4294967296+D m i):=⟨_,AA rfl⟩;obtain⟨T,hT⟩:∃T:Nat,Hid (S=D n i+T):=⟨S - D n i,AA (by have:=hS.out;omega)⟩;obtain⟨X,hX⟩:∃X:Nat,Hid (T=cy n d i+X):=⟨T - cy n d i,AA (by have:=hS.out;have:=hT.out;omega)⟩;obtain⟨Y,hY⟩:∃Y:Nat,Hid (Y+cy n d (i+1)=1):=⟨1 - cy n d (i+1),AA no⟩;have ad:S<8589934592:=by have:=hS.out;omega
     have ay:T<8589934592:=by have:=hT.out;omega
     have bz:X<8589934592:=by have:=hX.out;omega
     have bO:Y<=1:=by have:=hY.out;omega
     have bt:((X:Nat):Int) % 4294967296=((D d i:Nat):Int):=by have:=hX.out;have:=hS.out;have:=hT.out;omega
     have bq:((X:Nat):Int) / 4294967296=((Y:Nat):Int):=by have:=hX.out;have:=hS.out;have:=hT.out;have:=hY.out;omega
     have be:(1:Int) - ((Y:Nat):Int)=((cy n d (i+1):Nat):Int):=by have:=hY.out;omega
     clear au a5 a4;have Va:dP wr w.heap.size m:=⟨ya,da,qa,ia⟩;have Vb:dP wr (w.heap.size+1) n:=⟨yb,db,qb,ib⟩;go_upto_region 8 with(fail)
     refine gL Tryz.f291 8 (aag w.heap.size (w.heap.size+1) m n d i S T X) Aa Aa rfl Aa Aa ?_ ?_
     ·refine⟨λa' w' F=>⟨_,rfl,ag rfl,bA rfl (F.keep 2 (Cp (some ⟨w.heap.size,0,none⟩)) Aa rfl).is (Va.mono F.below)⟩,?_⟩;refine⟨λa' w' F=>⟨_,rfl,ag rfl,bh (.inl rfl) (F.keep 8 (AK Be ((i:Nat))) Aa rfl).is⟩,?_⟩;refine⟨λa' w' F=>⟨_,rfl,ag rfl,bE rfl (F.f 0 rfl) (F.f 1 rfl) (hm) (V)⟩,?_⟩;refine⟨λa' w' F=>⟨_,rfl,ag rfl,dJ rfl Is.const (F.f 2 rfl) (λ_=>rfl) (jD 4294967296 _ _ hS.out.symm (by have:=ad;omega))⟩,?_⟩;refine⟨λa' w' F=>⟨_,rfl,ag rfl,bA rfl (F.keep 3 (Cp (some ⟨w.heap.size+1,0,none⟩)) Aa rfl).is (Vb.mono F.below)⟩,?_⟩;refine⟨λa' w' F=>⟨_,rfl,ag rfl,bh (.inl rfl) (F.keep 8 (AK Be ((i:Nat))) Aa rfl).is⟩,?_⟩;refine⟨λa' w' F=>⟨_,rfl,ag rfl,bE rfl (F.f 4 rfl) (F.f 5 rfl) (hn) (V)⟩,?_⟩;refine⟨λa' w' F=>⟨_,rfl,ag rfl,dJ rfl (F.f 3 rfl) (F.f 6 rfl) (λ_=>rfl) (uL _ _ _ hT.out (by have:=ad;omega))⟩,?_⟩;refine⟨λa' w' F=>⟨_,rfl,ag rfl,bh (.inl rfl) (F.keep 7 (AK BE (((cy n d i:Nat):Int))) Aa rfl).is⟩,?_⟩;refine⟨λa' w' F=>⟨_,rfl,ag rfl,dJ rfl (F.f 7 rfl) (F.f 8 rfl) (λ_=>rfl) (uL _ _ _ hX.out (by have:=ay;omega))⟩,?_⟩;refine⟨λa' w' F=>⟨_,rfl,ag rfl,bh (.inr rfl) (F.f 9 rfl)⟩,?_⟩;exact trivial
     intro gp wp bp G;have ac:gp 10=AK BE (((X:Nat):Int)):=G 10 9 _ rfl;simp only[aag];simp only[cI,aG,Bq,BS,Cc,Cj,AI,AL,AM,AN,ac];clear G;have U:=I.below bp;have ak:=H.trans (bp.mono H.size);have ar:=ak.size;obtain⟨a',c',rfl,ax,aq,ap⟩:=U.open;clear I ea qa ia eb qb ib Va Vb;go_wp2_with (at_builtin;refine cC rfl _ _ rfl wc.heap.size (.slice a' i c') i (d % 4294967296^i) (D d i) rfl U ar rfl hd no ?_)
     intro v' w' an a0 b2;rw[ml]at an;go_wp2_with fail
     go_roundw
     case rel=>exact⟨i+1,no,by go_num,rfl,an,ak.trans a0⟩
     case measure=>simp[intOf]<;>omega
    ·obtain rfl:i=nl m:=no
     have av:d<4294967296^nl m:=D4 (by have:=HD.out;omega) (eA m);rw[Cn av]at I;obtain⟨a',c',rfl,ax,aq,ap⟩:=I.open;go_wp2_with fail
     refine(pk a' (nl m) c' d _ aq no).mono ?_;rintro e w2 ⟨v2,rfl,⟨x2,c2,rfl,a1,a7⟩,K⟩;have n2:aU wc.heap.size w2 (.agg #[.slice x2 (nl d) c2]) d:=aU.weaken (base:=wr.heap.size) ⟨x2,c2,rfl,a1,a7⟩ H.size;have J:=(vr.mono H vr.lt).mono K (Bt vr.lt H.size);have cr:=J.cell;have fr:=J.frozen;have n3:=n2.setVar (u:=.slice x2 (nl d) c2) J;go_wp2;exact A7 (l9 rfl _ _ (w.heap.size+1+1) _ (.bool true) rfl rfl J.set.cell) rfl ⟨_,by rw[HR.out],by rw[HM.out];exact n3.weaken C.size,((C.trans (H.mono C.size)).trans (K.mono (AD C.size H.size))).setCell (p:=⟨w.heap.size+1+1,0,none⟩) (by simp;omega) _⟩
theorem aY.drewN(h:aY w g L N)(q:Nat):aY (w.drewN q) g L N:=h
theorem aU.setLow(h:aU base w v N)(p:AU)(hp:p.block<base):aU base (w.setCell p u) v N:=by
 obtain⟨x,cap,rfl,hc,I⟩:=h;refine⟨x,cap,rfl,hc,λG=> ?_⟩;obtain⟨b,off,rfl,hb,H,hf⟩:=I G;have C:b≠p.block:=no
 refine⟨b,off,rfl,hb,λj F=> ?_,λj F=> ?_⟩
 ·rw[World.cell?_of_block (C3 w p u b C)];exact H j F
 ·rw[World.frozen?_of_block (C3 w p u b C)];exact hf j F
set_option maxHeartbeats 1000000 in
theorem c_ref_Mul(va vb:Value)(m n:Nat)(w:World)(ha:IsN w va m)(hb:IsN w vb n)(hm:nl m<=1000000000000)(hn:nl n<=1000000000000):
  AC AB 305 #[va,vb] w λe w'=>cY w (m*n) e w':=by
 obtain⟨a,ca,rfl,au,ra⟩:=ha;obtain⟨b,cb,rfl,av,rb⟩:=hb;have hw:mBw w (((w.alloc (.cells #[.slice a (nl m) ca] 31)).alloc (.cells #[.slice b (nl n) cb] 31)).alloc (.cells #[.slice none 0 0] 31)):=(((AF _ _).alloc (AE _) _).alloc Ad _).alloc (by simp;omega) _;go_enter Tryz.func305,Tryz.ntmps305
 go_upto_region 1 with(fail)
 go_cut [5] (λs5 wx=>∃g,s5= .slice (some ⟨g,0,none⟩) (nl m+nl n) (nl m+nl n)/\aY wx g (nl m+nl n) 0/\Made w wx (w.heap.size+1+1) g/\
   wx.cell? ⟨w.heap.size,0,none⟩=some (.slice a (nl m) ca)/\wx.cell? ⟨w.heap.size+1,0,none⟩=some (.slice b (nl n) cb))
 case first=>
  have J:=aY.made (((w.alloc (.cells #[.slice a (nl m) ca] 31)).alloc (.cells #[.slice b (nl n) cb] 31)).alloc (.cells #[.slice none 0 0] 31)) (nl m+nl n);go_wp2_with (at_make;refine bF rfl _ _ rfl _ _ _ _ (nl m+nl n) rfl rfl no no no ?_)
  go_meet;case rel=>exact⟨_,rfl,by simpa using J,⟨hw.alloc (by simp;omega) _,no,Ad,Ad,Aj,Aj⟩,Aj,Aj⟩
 case rest=>
  obtain⟨g,rfl,J,C,U,V⟩:=hcut;have aq:=C.lt;go_wp2_with fail
  go_loopw [6] (λs6 wr=>∃i:Nat,i<=nl m/\s6= .int .i64 i/\aY wr g (nl m+nl n) ((m % 4294967296^i)*n)/\Bi g wc wr)
   (λi _=>nl m - (intOf i).toNat)
  case atStart=>exact⟨0,AY _,rfl,by simpa [CD]using J,AF _ _⟩
  case round=>
   obtain⟨i,hi,rfl,ho,H⟩:=hrel;have I:=C.step H;have c0:=(H.cell (p:=⟨w.heap.size,0,none⟩) (by show w.heap.size<g;omega)).trans U;by_cases hlt:i<nl m
   ·have c2:=(H.cell (p:=⟨w.heap.size+1,0,none⟩) (by show w.heap.size+1<g;omega)).trans V;have ay:=cf m i;go_wp2_with fail
    go_loopw [7,8] (λs7 s8 wq=>∃k O c:Nat,k<=nl n/\s8= .int .i64 k/\s7= .int .u64 (c:Int)/\c<4294967296/\aY wq g (nl m+nl n) O/\jA m n i k O c/\Bi g wc wq)
     (λ_ s _=>nl n - (intOf s).toNat)
    case atStart=>exact⟨0,(m % 4294967296^i)*n,0,AY _,rfl,rfl,it,ho,jA.start m n i,H⟩
    case round=>
     obtain⟨k,O,c,hk,rfl,rfl,hc,F,aa,G⟩:=hrel;have ac:=C.step G;clear ho H I c0 c2;have c0:=(G.cell (p:=⟨w.heap.size,0,none⟩) (by show w.heap.size<g;omega)).trans U;have c2:=(G.cell (p:=⟨w.heap.size+1,0,none⟩) (by show w.heap.size+1<g;omega)).trans V;by_cases hlt2:k<nl n
     ·have ao:=ra.mono ac.below;obtain⟨b1,o1,rfl,h1⟩:=ao.cells no;have Z:=h1 i hlt;have ap:=rb.mono ac.below;obtain⟨b2,o2,rfl,h2⟩:=ap.cells no;have c3:=h2 k hlt2;have a0:=cf n k;have c4:=F.cell (p:=i+k) no;have f4:=F.frozen (i+k);have ax:=cf O (i+k);have a2:((D m i:Nat):Int)*((D n k:Nat):Int)<=18446744065119617025:=by
       have h:=Nat.mul_le_mul (show D m i<=4294967295 by omega) (show D n k<=4294967295 by omega);have h':((D m i*D n k:Nat):Int)<=18446744065119617025:=no
       simpa using h'
      have ar:0<=((D m i:Nat):Int)*((D n k:Nat):Int):=Int.mul_nonneg no no;have HT:=aa.step hlt2;go_wp2_with fail
      go_quiet (fail)
      go_wp2;go_roundw
      case rel=>
       have K:=λq=>(F.drewN q).store (p:=i+k) (e:=(D m i*D n k+D O (i+k)+c) % 4294967296) no (Bs _ it)
       exact⟨k+1,_,_,no,by go_num,Ad,by rw[Nat.div_lt_iff_lt_mul it];omega,by simpa using K _,HT,by simpa using (aN G _).setCell (p:=⟨g,i+k,none⟩) (AE _) _⟩
      case measure=>simp[intOf]<;>omega
     ·obtain rfl:k=nl n:=no
      have c4:=F.cell (p:=i+nl n) no;have f4:=F.frozen (i+nl n);have K:=F.store (p:=i+nl n) (e:=c) no hc;rw[aa.last]at K;have ad:=G.setCell (p:=⟨g,i+nl n,none⟩) (AE _) (.int .u32 (c:Int));go_wp2;go_roundw
      case rel=>exact⟨i+1,no,by go_num,K,ad⟩
      case measure=>simp[intOf]<;>omega
   ·obtain rfl:i=nl m:=no
    rw[xx]at ho;go_wp2_with fail
    refine(pk _ (nl m+nl n) (nl m+nl n) (m*n) _ ho.rw' no).mono ?_;rintro e w1 ⟨v1,rfl,⟨x1,Z,rfl,ak,an⟩,ab⟩;obtain⟨am,a1⟩:=I.after ab;have Y:=I.below;have hz:=I.lt;have a3:=I.size;have n2:aU wr.heap.size w1 (.agg #[.slice x1 (nl (m*n)) Z]) (m*n):=⟨x1,Z,rfl,ak,an⟩;have n3:=(n2.setLow (u:=.slice x1 (nl (m*n)) Z) ⟨w.heap.size+1+1,0,none⟩ (by show w.heap.size+1+1<wr.heap.size;omega)).weaken Y.size;have hB:=(Y.trans (ab.mono Y.size)).setCell (p:=⟨w.heap.size+1+1,0,none⟩) (by show w.heap.size<=w.heap.size+1+1;omega) (.slice x1 (nl (m*n)) Z);go_wp2;exact A7 (eX rfl _ _ (w.heap.size+1+1) _ rfl (World.cell?_setCell_same _ _ _ am)) rfl ⟨_,rfl,n3,hB⟩
section
variable {Q:A4->Act->World->Prop} {o:Oper} {a:Act} {w:World} {x y:AP} {m n:Nat} {tt:Array TypeId}
theorem arm_rAdd(G:o.op= .call {callee:=.value (.func 288),args:=#[x,y],argTypes:=tt})(H:Is a w x (.nat m))(hy:Is a w y (.nat n))(F:nl m<=1000000000000)(hn:nl n<=1000000000000)(C:m+n=N):Arm AB Q o a w (.nat N):=by
 subst C;exact aae G (ah Tryz.func288 rfl rfl) H hy (R:=λw=>cY w (m+n)) (λva vb w h1 h2=>j9 va vb m n w h1 h2 F hn) (λ_ _ h=>ofNew h)
end
theorem len2_half{x:Nat}(h:x≠0):eF x=eF (x / 2)+1:=by
 unfold eF;rw[if_neg h,Nat.log2_def];by_cases h2:2<=x
 ·rw[if_pos h2,if_neg no]
 ·rw[if_neg h2,if_pos no]
theorem xN(h:N≠0):eF N=32*(nl N - 1)+eF (D N (nl N - 1)):=by
 rw[ur h];have ht:D N (nl N - 1)≠0:=z6 h;have C:=cf N (nl N - 1);have h1:nl (D N (nl N - 1))=1:=by
  have:=dV ht;have:=(aI (N:=D N (nl N - 1)) (k:=1)).2 (by rw[Nat.pow_one];exact C);omega
 have h2:=ur ht;rw[h1]at h2;have h3:D (D N (nl N - 1)) 0=D N (nl N - 1):=by
  show D N (nl N - 1) / 4294967296^0 % 4294967296=_;rw[DJ,Nat.div_one,Cn C]
 simp only[Nat.sub_self,h3,CS,A5]at h2;rw[h2]
set_option maxRecDepth 100000 in
theorem xO(va:Value)(N:Nat)(w:World)(ha:IsN w va N)(hN:nl N<=1000000000000):
  AC AB 287 #[va] w λe w'=>bI w (.int .i64 ((eF N:Nat):Int)) e w':=by
 obtain⟨a,V,rfl,Z,ra⟩:=ha;have J:=iz w (.cells #[.slice a (nl N) V] 31);have v1:=aV.made w a (nl N) V;have H:=ra.mono J;by_cases h0:N=0
 ·have Y:nl N=0:=kS.2 h0;have e2:eF N=0:=by unfold eF;rw[if_pos h0]
  have K:=AA e2;rw[Y]at H J Z v1⊢;clear Y e2 ra hN;have c1:=v1.cell;go_enter Tryz.func287,Tryz.ntmps287
  go_wp2;go_ret;exact⟨by rw[K.out];rfl,J⟩
 ·have hp:=dV h0;have an:(((nl N:Nat):Int)==0)=false:=by rw[beq_eq_false_iff_ne];omega
  have HT:=AA (xN h0);have G:=cf N (nl N - 1);obtain⟨T,hT⟩:∃T:Nat,Hid (T=D N (nl N - 1)):=⟨_,AA rfl⟩;obtain⟨b1,o1,rfl,h1⟩:=H.cells no;have d1:=h1 (nl N - 1) no;rw[<-hT.out]at d1 G;obtain⟨P,I⟩:∃P:Nat,Hid (P=nl N - 1):=⟨_,AA rfl⟩;have Y:((nl N:Int) - 1)=((P:Nat):Int):=by have:=I.out;omega
  have ab:P<=1000000000000:=by have:=I.out;omega
  rw[<-I.out]at d1;have c1:=v1.cell;have ak:eF T<=32:=by
   rcases Dc T with h | h
   ·rw[h];decide
   ·unfold eF;rw[if_neg no];have:=(Er (n:=T) (k:=32) no).2 Aw;omega
  have F:eF N=32*(nl N - 1)+eF T:=by rw[HT.out,hT.out]
  have C:=AA F;clear F h0;have ad:eF N<=32000000000032:=by have:=C.out;omega
  go_enter Tryz.func287,Tryz.ntmps287
  go_wp2_with fail
  go_loopw [3,4] (λs3 s4 wr=>∃c x:Nat,s3= .int .i64 (c:Int)/\s4= .int .u32 (x:Int)/\x<4294967296/\Hid (eF N=c+eF x)/\wr=w.alloc (.cells #[.slice (some ⟨b1,o1,none⟩) (nl N) V] 31)) (λ_ s4 _=>(intOf s4).toNat)
  case atStart=>exact⟨32*P,T,by go_num,rfl,G,by rw[I.out];exact C,rfl⟩
  case round=>
   obtain⟨c,x,rfl,rfl,hx,U,rfl⟩:=hrel;have ac:c<=32000000000032:=by have:=U.out;omega
   by_cases hx0:x=0
   ·subst hx0;have hc:eF N=c:=by have h:=U.out;have h2:eF 0=0:=rfl;omega
    have HC:=AA hc;clear hc;go_wp2;go_ret;exact⟨by rw[HC.out];rfl,J⟩
   ·have ao:(0:Int)<(x:Int):=no
    have aa:=len2_half hx0;have HS:=AA (show eF N=(c+1)+eF (x / 2)by have h:=U.out;omega);obtain⟨y,hy⟩:∃y:Nat,Hid (y=x / 2):=⟨_,AA rfl⟩;have hq:((x:Nat):Int) / 2=((y:Nat):Int):=by have:=hy.out;omega
    have am:y<x:=by have:=hy.out;omega
    rw[<-hy.out]at HS;clear aa hx0;go_wp2_with fail
    go_roundw
    case rel=>exact⟨c+1,y,by go_num,rfl,no,HS,trivial⟩
    case measure=>simp[intOf]<;>omega
theorem pl(n:Nat)(w:World)(hn:n<18446744073709551616):
  AC AB 112 #[.int .u64 (n:Int)] w λe w'=>cY w n e w':=by
 have Z:=iz w (.cells #[.slice none 0 0] 31);have V:=aV.made w none 0 0;have F:=aY.two (w.alloc (.cells #[.slice none 0 0] 31)) n hn;have I:=Z.alloc Ad (.cells #[.int .u32 ((n:Int) % 4294967296),.int .u32 ((n:Int) / 4294967296)] 237);have v1:=aV.mono V (iz _ (.cells #[.int .u32 ((n:Int) % 4294967296),.int .u32 ((n:Int) / 4294967296)] 237)) V.lt;rw[Cr]at F;go_enter Tryz.func112,Tryz.ntmps112
 go_wp2_with fail
 refine(pk _ 2 2 n _ F.rw' no).mono ?_;rintro e w2 ⟨v2,rfl,⟨H,G,rfl,J,K⟩,U⟩;have n2:aU w.heap.size w2 (.agg #[.slice H (nl n) G]) n:=aU.weaken (by exact⟨H,G,rfl,J,K⟩) I.size;have C:=v1.mono U v1.lt;have cr:=C.cell;have fr:=C.frozen;have n3:=n2.setVar (u:=.slice H (nl n) G) C;have Y:=(I.trans (U.mono I.size)).setCell (p:=⟨w.heap.size,0,none⟩) (AE _) (.slice H (nl n) G);go_wp2;exact A7 (eX rfl _ _ w.heap.size _ rfl C.set.cell) rfl ⟨_,rfl,n3,Y⟩
section
variable {P:AW} {ops:Array Oper} {Q:A4->Act->World->Prop} {md:Region.Mode}
theorem jr.of_all{α:Type}{p:α->Prop}(h:∀x,p x):∀l,jr p l
 | []=>trivial
 | x::l=>⟨h x,jr.of_all h l⟩
def ArmB(P:AW)(Q:A4->Act->World->Prop)(al:Bool)(o:Oper)(a:Act)(w:World)(s:Sp):Prop:=
 ∀K:Act->World->Prop,(∀v w',s.p w' v->mBw w w'->(al=true->w.heap.size<=blk v)->K (a.put o.dst v) w')->Bk P o a w K Q
theorem Arm.b{o:Oper}{a:Act}(h:Arm P Q o a w s):ArmB P Q false o a w s:=λK C=>h K (λv w' h1 h2=>C v w' h1 h2 (λh=>by cases h))
theorem aah(f:Func)(r:Nat)(D:List (Nat×Tmp×Sp))(Z:Nat->Bool)(n F:Nat){id:Nat}{I:Array Oper}{a:Act}(am:dk f r=I)(U:P.follows .mixedOrders=true)
  (ad:(dk f r).size=F+D.length)(V:oC .any (dk f r) (aG D) n (Cu (F+D.length) false) a.tmps.size=true)
  (ap:jr (λx=>Z x.1=true->∀w v,x.2.2.p w v->blk v<w.heap.size) D)
  (Y:jr (λx=>∀(a':Act)(w':World),Found .any (dk f r) D x.1 w a a' w'->∃o,(dk f r)[x.1]? =some o/\A6 o (yielded (dk f r) a'.tmps)=true/\ArmB P Q (Z x.1) o a' w' x.2.2) D)
  (G:∀(g:Nat->Value) w',mBw w w'->(∀(i:Nat)(t:Tmp)(s:Sp),D[i]? =some (i,t,s)->s.p w' (g i))->(∀i j:Nat,((aG D).map (·.1)).contains i=true->((aG D).map (·.1)).contains j=true->Z i=true->Z j=true->i≠j->blk (g i)≠blk (g j))->
   wpAny P .any (dk f r) Q F (aW ((aG D).map (·.1)) (Cu (F+D.length) false)) (cI (aG D) g a) w'):(De id I true).wp P Q a w:=by
 subst am;refine Do U ?_;have H:mBw w w.drew:=aN (AF _ _) 1
 change wpAny P .any _ Q _ _ _ w.drew
 rw[ad];unfold oC at V;simp only[BN,decide_eq_true_eq]at V;obtain⟨⟨⟨⟨an,ac⟩,ak⟩,av⟩,au⟩:=V;have ht:∀p∈aG D,p.2<a.tmps.size:=λp hp=>by simpa using Ca.1 au p hp
 have ab:∀t,((aG D).map (·.2)).contains t=false->t∉(aG D).map (·.2):=λt h U=>by
  rw[CN.2 U]at h;cases h
 have C:∀(i:Nat)(t:Tmp)(s:Sp),D[i]? =some (i,t,s)->(i,t,s)∈D:=λi t s h=>A0 h
 have key:=keyed (D:=D) (by simpa [aG,FA]using av);have J:D.length=(aG D).length:=by simp[aG]
 rw[J]at an G⊢;refine iU F (aG D) n Z (λi v w'=>∀t s,(i,t,s)∈D->s.p w' v) an ac ak (λi _ v w1 w2 h hb t s U=>s.st _ _ _ (h t s U) hb) ?_ ?_ ?_
 ·intro i hi hA v w' h;obtain⟨p,hp,rfl⟩:=Ba.1 hi;obtain⟨x,hx,rfl⟩:=Ba.1 hp;exact ap.mem x hx hA w' v (h x.2.1 x.2.2 hx)
 ·intro p hp g w' hb hF K hK;obtain⟨x,hx,rfl⟩:=Ba.1 hp;obtain⟨o,ho,hw,aa⟩:=Y.mem x hx (cI (aG D) g a) w' ⟨H.trans (hb.mono H.size),λt h=>j7 t (ab t h),λi t s h1 h2=>
   ⟨g i,tc ak (bW (C i t s h1)) (ht _ (bW (C i t s h1))),hF i (Ba.2 ⟨_,bW (C i t s h1),rfl⟩) (CN.1 h2) t s (C i t s h1)⟩⟩
  unfold wpOp;rw[ho];show if A6 o (yielded (dk f r) (cI (aG D) g a).tmps)=true then _ else _
  rw[if_pos hw];refine .inl (aa K (λv ax hv aq hA=> ?_));have hd:=Ca.1 ac _ hp;rw[beq_iff_eq]at hd;have ar:o.dst=some x.2.1:=by
   have:bZ (dk f r) x.1=o.dst:=by unfold bZ;rw[ho]
   rw[<-this];exact hd
  rw[ar];refine hK v ax (λt s U=> ?_) aq hA;have e2:=key _ U _ (show(x.1,x.2.1,x.2.2)∈D from hx) rfl;simp only[Prod.mk.injEq,true_and]at e2;rw[e2.2];exact hv
 ·intro g w' hb hF ao;exact G g w' (H.trans (hb.mono H.size)) (λi t s h=>hF i (Ba.2 ⟨_,bW (C i t s h),rfl⟩) t s (C i t s h))
   (λi j hi hj=>ao i (CN.1 hi) j (CN.1 hj))
end
section
variable {Q:A4->Act->World->Prop} {o:Oper} {a:Act} {w:World} {x y:AP} {m n:Nat} {tt:Array TypeId}
theorem ofNewB{w:World}{e:BB}(C:base<=w.heap.size)(h:cY w N e w'):∃v,e= .returned v/\(Sp.new base N).p w' v/\mBw w w':=by
 obtain⟨v,rfl,hn,hb⟩:=h;exact⟨v,rfl,hn.weaken C,hb⟩
theorem rA(hb:base<=w.heap.size)(G:o.op= .call {callee:=.value (.func 288),args:=#[x,y],argTypes:=tt})(H:Is a w x (.nat m))(hy:Is a w y (.nat n))(F:nl m<=1000000000000)(hn:nl n<=1000000000000)(C:m+n=N):Arm AB Q o a w (.new base N):=by
 subst C;exact aae G (ah Tryz.func288 rfl rfl) H hy (R:=λw=>cY w (m+n)) (λva vb w h1 h2=>j9 va vb m n w h1 h2 F hn) (λ_ _ h=>ofNewB hb h)
theorem aai(F:o.op= .call {callee:=.value (.func 112),args:=#[x],argTypes:=tt})(G:Is a w x (.val (.int .u64 (n:Int))))(hn:n<18446744073709551616):Arm AB Q o a w (.nat n):=by
 refine mj F (ah Tryz.func112 rfl rfl) (R:=λe w'=>cY w n e w') ?_ (λ_ _ h=>ofNew h);have C:a.eval x= .int .u64 (n:Int):=G;simpa [C]using pl n w hn
end
variable{s:Option AU}
theorem run_store(G:∃F L' C,u= .slice F L' C)(h:aV w g s L c):(Instr.storeAt 31 (.pointer (some ⟨g,0,none⟩)) (.agg #[u])).run AB w= .ok () (w.setCell ⟨g,0,none⟩ u):=by
 obtain⟨F,L',C,rfl⟩:=G;have H:=h.cell;have f1:=h.frozen;go_simp
theorem wp_store{o:Oper}{a:Act}{K:Act->World->Prop}{x y:AP}(C:o.op= .store 31 x y)(H:o.dst=none)
  (U:a.eval x= .pointer (some ⟨g,0,none⟩))(hy:a.eval y= .agg #[u])(I:∃V L' F,u= .slice V L' F)(J:aV w g s L c)(G:K a (w.setCell ⟨g,0,none⟩ u)):Bk AB o a w K Q:=by
 unfold Bk execOp;rw[C];simp only[U,hy,AH,run_store I J,AQ,Bw,Oper.upon_skip];rw[H];exact G
theorem oD(j:Nat){md:Region.Mode}{o:Oper}{a:Act}{F:Nat}{C:Array Bool}{x y:AP} 
  (hr:BY md ops C=[j])(V:ops[j]? =some o)(G:o.op= .store 31 x y)(U:o.guard=none)(J:o.dst=none)
  (hx:a.eval x= .pointer (some ⟨g,0,none⟩))(hy:a.eval y= .agg #[u])(Y:∃s' L' H,u= .slice s' L' H)(Z:aV w g s L c)(h:wpAny AB md ops Q F (C.setIfInBounds j true) a (w.setCell ⟨g,0,none⟩ u)):
  wpAny AB md ops Q (F+1) C a w:=by
 refine BU hr Ad (BH V (λK I=> ?_) BT);rw[if_pos (ag U)];exact wp_store G J hx hy Y Z (I _ _ h)
theorem bit_of(m i:Nat):D m (i / 32) / 2^(i % 32) % 2=m / 2^i % 2:=by
 unfold D;have h1:(4294967296:Nat)^(i / 32)=2^(32*(i / 32)):=by rw[Nat.pow_mul]
 have h3:∀X s:Nat,s<=32->X % 4294967296 / 2^s=X / 2^s % 2^(32 - s):=by
  intro X s hs;rw[show(4294967296:Nat)=2^s*2^(32 - s)by rw[<-BC,show s+(32 - s)=32 by omega],FT]
 rw[h3 _ _ no,h1,CR,<-BC,Cf];have C:(2:Nat)∣ 2^(32 - i % 32):=⟨2^(31 - i % 32),by rw[<-Nat.pow_succ',show(31 - i % 32).succ=32 - i % 32 by omega]⟩;exact Nat.mod_mod_of_dvd _ C
theorem c_bit(va:Value)(m i:Nat)(w:World)(ha:IsN w va m)(hm:nl m<=1000000000000)(hi:i<=60000000000000):
  AC AB 289 #[va,.int .i64 (i:Int)] w λe w'=>bI w (.int .u64 ((m / 2^i % 2:Nat):Int)) e w':=by
 obtain⟨a,ca,rfl,U,ra⟩:=ha;obtain⟨k0,k1⟩:=box1 (L:=nl m) (c:=ca) (N:=m) ⟨a,ca,rfl,U,ra⟩;obtain⟨y1,d1,q1,i1⟩:=k1;have e1:=q1.cell;obtain⟨P,F⟩:∃P:Nat,Hid (P=i / 32):=⟨_,AA rfl⟩;obtain⟨R,H⟩:∃R:Nat,Hid (R=i % 32):=⟨_,AA rfl⟩;have hq:(i:Int) / 32=(P:Int):=by have:=F.out;omega
 have ab:Int.tdiv (i:Int) 32=(P:Int):=by rw[Int.tdiv_eq_ediv_of_nonneg no];exact hq
 have hr:(i:Int) % 32=(R:Int):=by have:=H.out;omega
 have ac:Int.tmod (i:Int) 32=(R:Int):=by rw[Int.tmod_eq_emod_of_nonneg no];exact hr
 have aa:R<=31:=by have:=H.out;omega
 have G:P<=60000000000000:=by have:=F.out;omega
 have C:D m P / 2^R % 2=m / 2^i % 2:=by rw[F.out,H.out];exact bit_of m i
 have HB:=AA C;clear C;obtain⟨V,I⟩:∃V:Nat,Hid (V=D m P):=⟨_,AA rfl⟩;have J:V<=4294967295:=by have:=cf m P;have:=I.out;omega
 go_enter Tryz.func289,Tryz.ntmps289
 go_wp2_with fail
 refine(aaf _ (nl m) m P _ i1 no G).mono ?_;rintro e w1 ⟨rfl,bb⟩;rw[<-I.out];have K:=k0.trans (bb.mono k0.size);go_wp2_with fail
 go_loopw [5,6] (λs5 s6 wr=>∃k x:Nat,k<=R/\s6= .int .i64 (k:Int)/\s5= .int .u64 (x:Int)/\Hid (x=V / 2^k)/\x<=4294967295/\wr=w1) (λ_ s6 _=>R - (intOf s6).toNat)
 case atStart=>exact⟨0,V,AY _,rfl,rfl,AA Ad,J,rfl⟩
 case round=>
  obtain⟨k,x,hk,rfl,rfl,HX,ad,rfl⟩:=hrel;by_cases hlt:k<R
  ·obtain⟨y,hy⟩:∃y:Nat,Hid (y=x / 2):=⟨_,AA rfl⟩;have Y:((x:Nat):Int) / 2=((y:Nat):Int):=by have:=hy.out;omega
   have Z:y<=4294967295:=by have:=hy.out;omega
   go_wp2_with fail
   go_roundw
   case rel=>exact⟨k+1,y,no,by go_num,rfl,AA (by rw[hy.out,HX.out,BO,CR]),Z,trivial⟩
   case measure=>simp[intOf]<;>omega
  ·obtain rfl:k=R:=no
   obtain⟨y,hy⟩:∃y:Nat,Hid (y=x % 2):=⟨_,AA rfl⟩;have Y:((x:Nat):Int) % 2=((y:Nat):Int):=by have:=hy.out;omega
   go_wp2;go_ret;refine⟨?_,K⟩;rw[<-HB.out,<-I.out,<-HX.out];refine congrArg Ending.returned (congrArg (AK BE) ?_);have:=hy.out;omega
structure DM(w wr:World)(m n q r:Nat):Prop where
 below:mBw w wr
 va:dP wr w.heap.size m
 vb:dP wr (w.heap.size+1) n
 r1:aV wr (w.heap.size+2) none 0 0
 r2:aV wr (w.heap.size+3) none 0 0
 vq:iV w.heap.size wr (w.heap.size+4) q
 vr:iV w.heap.size wr (w.heap.size+5) r
variable{wr:World}{q r:Nat}
theorem DM.mono(h:DM w wr m n q r)(hb:mBw wr w'):DM w w' m n q r:=
 ⟨h.below.trans (hb.mono h.below.size),h.va.mono hb,h.vb.mono hb,h.r1.mono hb h.r1.lt,h.r2.mono hb h.r2.lt,h.vq.mono (B:=0) hb,h.vr.mono (B:=0) hb⟩
variable{a':Option AU}
theorem dP.setOther{L' c':Nat}(h:dP w g N)(G:aV w C a' L' c')(F:C≠g):dP (w.setCell ⟨C,0,none⟩ u) g N:=by
 obtain⟨a,c,h1,h2⟩:=h;exact⟨a,c,h1.setOther _ _ F,h2.setVar G⟩
theorem iV.setOther{L' c':Nat}(h:iV base w g N)(G:aV w C a' L' c')(F:C≠g):iV base (w.setCell ⟨C,0,none⟩ u) g N:=by
 obtain⟨a,c,h1,h2⟩:=h;exact⟨a,c,h1.setOther _ _ F,h2.setVar G⟩
variable{x:Option AU}
theorem iV.setN{M:Nat}(h:iV base w g M)(hn:aU base w (.agg #[.slice x (nl N) c]) N):iV base (w.setCell ⟨g,0,none⟩ (.slice x (nl N) c)) g N:=by
 obtain⟨a,C,h1,h2⟩:=h;exact⟨x,c,h1.set,hn.setVar h1⟩
theorem DM.setr(h:DM w wr m n q r)(hn:aU w.heap.size wr (.agg #[.slice x (nl N) c]) N):DM w (wr.setCell ⟨w.heap.size+5,0,none⟩ (.slice x (nl N) c)) m n q N:=by
 obtain⟨a,C,h1,h2⟩:=h.vr;exact⟨h.below.setCell (p:=⟨w.heap.size+5,0,none⟩) (Ea _ _) _,h.va.setOther h1 no,h.vb.setOther h1 no,h.r1.setOther _ _ Ad,h.r2.setOther _ _ Ad,h.vq.setOther h1 no,h.vr.setN hn⟩
theorem DM.setq(h:DM w wr m n q r)(hn:aU w.heap.size wr (.agg #[.slice x (nl N) c]) N):DM w (wr.setCell ⟨w.heap.size+4,0,none⟩ (.slice x (nl N) c)) m n N r:=by
 obtain⟨a,C,h1,h2⟩:=h.vq;exact⟨h.below.setCell (p:=⟨w.heap.size+4,0,none⟩) (Ea _ _) _,h.va.setOther h1 no,h.vb.setOther h1 no,h.r1.setOther _ _ Ad,h.r2.setOther _ _ Ad,h.vq.setN hn,h.vr.setOther h1 no⟩
theorem aaj{Y:Nat}(h:Y=n*q+r)(hr:r<n):Y / n=q/\Y % n=r:=
 (Nat.div_mod_unique no).2 ⟨no,hr⟩
theorem te(m k:Nat):m / 2^k=2*(m / 2^(k+1))+m / 2^k % 2:=by
 rw[BO,<-CR];omega
theorem lt_len2(m:Nat):m<2^eF m:=by
 unfold eF;split
 ·omega
 ·exact Nat.lt_log2_self
theorem dm_round{k:Nat}(hn:0<n):(n<=m / 2^(k+1) % n+m / 2^(k+1) % n+m / 2^k % 2->m / 2^k / n=m / 2^(k+1) / n+m / 2^(k+1) / n+1/\m / 2^k % n=m / 2^(k+1) % n+m / 2^(k+1) % n+m / 2^k % 2 - n)/\
  (m / 2^(k+1) % n+m / 2^(k+1) % n+m / 2^k % 2<n->m / 2^k / n=m / 2^(k+1) / n+m / 2^(k+1) / n/\m / 2^k % n=m / 2^(k+1) % n+m / 2^(k+1) % n+m / 2^k % 2):=by
 have h1:=te m k;have h2:=Cf (m / 2^(k+1)) n;have h3:=Bs (m / 2^(k+1)) hn;generalize m / 2^(k+1)=X at *;generalize m / 2^k=Y at *;generalize hb:Y % 2=b at *;have G:b<2:=no
 generalize X / n=q at *;generalize X % n=r at *;subst h2;have C:n*(q+q)=n*q+n*q:=CG n q q;have F:n*(q+q+1)=n*q+n*q+n:=by rw[CG,C,Nat.mul_one]
 refine⟨λh=>aaj ?_ no,λh=>aaj ?_ h⟩
 ·rw[h1,F];omega
 ·rw[h1,C];omega
theorem DM.fin{w0:World}{G H:Nat}{C F:Option AU}(h:DM w w0 m n q r)(Y:aV w0 (w.heap.size+4) C (nl q) G)(K:aU w.heap.size w0 (.agg #[.slice C (nl q) G]) q)
  (hr:aV w0 (w.heap.size+5) F (nl r) H)(U:aU w.heap.size w0 (.agg #[.slice F (nl r) H]) r)(I:World)
  (V:I=(w0.setCell ⟨w.heap.size+2,0,none⟩ (.slice C (nl q) G)).setCell ⟨w.heap.size+3,0,none⟩ (.slice F (nl r) H)\/I=(w0.setCell ⟨w.heap.size+3,0,none⟩ (.slice F (nl r) H)).setCell ⟨w.heap.size+2,0,none⟩ (.slice C (nl q) G)):
  aV I (w.heap.size+2) C (nl q) G/\aV I (w.heap.size+3) F (nl r) H/\aU w.heap.size I (.agg #[.slice C (nl q) G]) q/\aU w.heap.size I (.agg #[.slice F (nl r) H]) r/\mBw w I:=by
 rcases V with rfl | rfl
 ·have k2:=h.r2.setOther ⟨w.heap.size+2,0,none⟩ (.slice C (nl q) G) Ad;exact⟨h.r1.set.setOther _ _ Ad,k2.set,(K.setVar h.r1).setVar k2,(U.setVar h.r1).setVar k2,(h.below.setCell (p:=⟨w.heap.size+2,0,none⟩) (Ea _ _) _).setCell (p:=⟨w.heap.size+3,0,none⟩) (Ea _ _) _⟩
 ·have J:=h.r1.setOther ⟨w.heap.size+3,0,none⟩ (.slice F (nl r) H) Ad;exact⟨J.set,h.r2.set.setOther _ _ Ad,(K.setVar h.r2).setVar J,(U.setVar h.r2).setVar J,(h.below.setCell (p:=⟨w.heap.size+3,0,none⟩) (Ea _ _) _).setCell (p:=⟨w.heap.size+2,0,none⟩) (Ea _ _) _⟩
section
variable {Q:A4->Act->World->Prop} {o:Oper} {a:Act} {w:World} {x y:AP} {m n:Nat} {tt:Array TypeId}
theorem arm_bit{i:Nat}(G:o.op= .call {callee:=.value (.func 289),args:=#[x,y],argTypes:=tt})(H:Is a w x (.nat m))(hy:Is a w y (.val (.int .i64 (i:Int))))(F:nl m<=1000000000000)(hi:i<=60000000000000){b:Nat}(hb:m / 2^i % 2=b):
  Arm AB Q o a w (.val (.int .u64 (b:Int))):=by
 subst hb;refine mj G (ah Tryz.func289 rfl rfl) (R:=bI w (.int .u64 ((m / 2^i % 2:Nat):Int))) ?_ (λ_ _ h=>ofV h);have C:a.eval y= .int .i64 (i:Int):=hy;simpa [C]using c_bit _ m i w H F hi
end
theorem iV.isI(h:iV base w g N):dP w g N:=by
 obtain⟨a,c,h1,h2⟩:=h;exact⟨a,c,h1,h2.isN⟩
variable{a:Nat}
theorem pm{b:Nat}(h:a<=b)(hb:nl b<=100000000000):nl a<=1000000000000:=AD (dW h) no
theorem nl_twice0{b:Nat}(h:a<=2*b+1)(hb:nl b<=d):nl a<=d+1:=by
 have h1:=aI.1 hb;refine aI.2 (D4 h ?_);rw[BO];generalize 4294967296^d=P at *;omega
theorem uM{b:Nat}(h:a<=2*b+1)(hb:nl b<=100000000000):nl a<=1000000000000:=AD (nl_twice0 h hb) it
theorem len2_le(h:nl m<=d):eF m<=32*d:=by
 unfold eF;split
 ·omega
 ·rename_i C;have h2:m<2^(32*d):=by rw[Nat.pow_mul];exact aI.1 h
  have:=(Er C).2 h2;omega
def dmTab7(w:World)(m r k S b R1:Nat):List (Nat×Tmp×Sp):=
  [(0,25,.nat (r)),
  (1,26,.nat (r)),
  (2,27,.nat (S)),
  (3,28,.nat (m)),
  (4,29,.val (AK Be ((k:Nat)))),
  (5,30,.val (AK BE ((b:Nat)))),
  (6,31,.nat (b)),
  (7,32,.new w.heap.size (R1))]
def aak(w:World)(T0 T:Nat):List (Nat×Tmp×Sp):=
  [(0,46,.nat (T0)),
  (1,47,.nat (1)),
  (2,48,.new w.heap.size (T))]
set_option maxRecDepth 100000 in
set_option maxHeartbeats 2000000 in
theorem mn(va vb:Value)(m n:Nat)(w:World)(ha:IsN w va m)(hb:IsN w vb n)(hm:nl m<=100000000000)(hn:nl n<=100000000000)(h0:n≠0):
  AC AB 262 #[va,vb] w λe w'=>iW w (m / n) (m % n) 0 e w':=by
 obtain⟨a,ca,rfl,bq,ra⟩:=ha;obtain⟨b,cb,rfl,bt,rb⟩:=hb;have e5:=dV h0;have b9:nl m<=1000000000000:=no
 have cc:nl n<=1000000000000:=no
 have a4:=AA h0;clear h0;go_enter Tryz.func262,Tryz.ntmps262
 go_upto_region 0 with(fail)
 go_cut [2,3,4,5,6] (λs2 s3 s4 s5 s6 wx=>s2= .pointer (some ⟨w.heap.size,0,none⟩)/\s3= .pointer (some ⟨w.heap.size+1,0,none⟩)/\s4= .pointer (some ⟨w.heap.size+2,0,none⟩)/\s5= .pointer (some ⟨w.heap.size+3,0,none⟩)/\
   dP wx w.heap.size m/\dP wx (w.heap.size+1) n/\aV wx (w.heap.size+2) none 0 0/\aV wx (w.heap.size+3) none 0 0/\mBw w wx/\wx.heap.size=w.heap.size+4)
 case first=>
  obtain⟨k0,k1,k2⟩:=box2 (L:=nl m) (c:=ca) (N:=m) (L2:=nl n) (c2:=cb) (N2:=n) ⟨a,ca,rfl,bq,ra⟩ ⟨b,cb,rfl,bt,rb⟩;have hz:((w.alloc (.cells #[.slice a (nl m) ca] 31)).alloc (.cells #[.slice b (nl n) cb] 31)).heap.size=w.heap.size+2:=Ad
  generalize hw2:(w.alloc (.cells #[.slice a (nl m) ca] 31)).alloc (.cells #[.slice b (nl n) cb] 31)=w2 at *;obtain⟨j0,j1,j2⟩:=box2 (w:=w2) (a:=none) (L:=0) (c:=0) (N:=0) (b:=none) (L2:=0) (c2:=0) (N2:=0) ⟨none,0,rfl,no,it,λh=>no⟩ ⟨none,0,rfl,no,it,λh=>no⟩;have v1:=aV.made w2 none 0 0;have v2:=aV.made (w2.alloc (.cells #[.slice none 0 0] 31)) none 0 0;have c9:=v1.mono (iz _ (.cells #[.slice none 0 0] 31)) v1.lt;rw[Cr]at v2;rw[hz]at c9 v2;subst hw2;go_wp2_with fail
  go_meet;case rel=>exact⟨rfl,rfl,rfl,rfl,jC.mono k1 j0,jC.mono k2 j0,c9,v2,k0.trans (j0.mono k0.size),Ad⟩
 case rest=>
  obtain⟨rfl,rfl,rfl,rfl,Va,Vb,a1,a2,ay,cu⟩:=hcut;clear ra rb bq bt;go_upto_region 1 with(fail)
  go_cut [7,8] (λs7 s8 wx=>s7= .pointer (some ⟨w.heap.size+4,0,none⟩)/\s8= .pointer (some ⟨w.heap.size+5,0,none⟩)/\DM w wx m n 0 0)
  case first=>
   obtain⟨k0,k1,k2⟩:=xK wc none none 0 0 0 0;rw[cu]at k1 k2;have hB:=ay.trans (k0.mono ay.size);have nn:∀wz,aU w.heap.size wz (.agg #[.slice none (nl 0) 0]) 0:=λwz=>by rw[bL];exact aU.of_zero
   have hD:DM w ((wc.alloc (.cells #[.slice none 0 0] 31)).alloc (.cells #[.slice none 0 0] 31)) m n 0 0:=
    ⟨hB,Va.mono k0,Vb.mono k0,a1.mono k0 a1.lt,a2.mono k0 a2.lt,⟨none,0,by rw[bL];exact k1,nn _⟩,⟨none,0,by rw[bL];exact k2,nn _⟩⟩
   go_wp2_with fail
   go_meet;case rel=>exact⟨rfl,rfl,hD⟩
  case rest=>
   clear Va Vb a1 a2 ay cu;obtain⟨rfl,rfl,C⟩:=hcut;have hq0:∀K:Nat,True:=λ_=>trivial
   obtain⟨yb,db,qb,ib⟩:=C.vb;have eb:=qb.cell;obtain⟨ya,da,qa,ia⟩:=C.va;have ea:=qa.cell;have e4:((nl n:Nat):Int)≠0:=no
   go_wp2_with fail
   refine(xO _ m _ ia b9).mono ?_;rintro e w1 ⟨rfl,bb⟩
   replace C:=C.mono bb
   clear ea qa ia eb qb ib bb;have eq:eF m<=32000000000000:=AD (len2_le hm) it;have HL:=AA (lt_len2 m);generalize eF m=K at *;go_wp2_with fail
   go_loopw [9] (λs9 wr=>∃k:Nat,k<=K/\s9= .int .i64 ((k:Int) - 1)/\DM w wr m n (m / 2^k / n) (m / 2^k % n)) (λs9 _=>((intOf s9)+1).toNat)
   case atStart=>exact⟨K,AE _,rfl,by rw[Cz HL.out,Nat.zero_div,Nat.zero_mod];exact C⟩
   case round=>
    clear C;obtain⟨k,hk,rfl,C⟩:=hrel
    cases k with
    | zero=>
     rw[DJ,Nat.div_one]at C;obtain⟨aq,cq,kq,nq⟩:=C.vq;obtain⟨ar,cr,kr,nr⟩:=C.vr;have c4:=kq.cell;have c5:=kr.cell;have f2:=C.r1.frozen;have f3:=C.r2.frozen;have c2:=C.r1.cell;have c3:=C.r2.cell;have b2:=C.fin kq nq kr nr;obtain⟨q0,U⟩:∃N:Nat,Hid (N=m / n):=⟨_,AA rfl⟩;obtain⟨r0,V⟩:∃N:Nat,Hid (N=m % n):=⟨_,AA rfl⟩;rw[<-U.out,<-V.out]at C;rw[<-U.out]at kq nq;rw[<-V.out]at kr nr;clear b2 c2 c3 c4 c5 f2 f3;go_upto_region 12 with(fail)
     refine Do Aa ?_
     change wpAny _ _ _ _ _ _ _ (CA _)
     have bz:mBw wr (CA wr):=aN (AF _ _) 1;have I:=C.mono bz;have ab:=kq.mono bz kq.lt;have ac:=kr.mono bz kr.lt;have em:=nq.mono bz;have ep:=nr.mono bz;clear bz;generalize CA wr=w3 at *;have c4:=ab.cell;have c5:=ac.cell;have f2:=I.r1.frozen;have c2:=I.r1.cell;have ej:=ac.setOther ⟨w.heap.size+2,0,none⟩ (.slice aq (nl q0) cq) Ad;have ew:=ej.cell;have c1:=I.r2.setOther ⟨w.heap.size+2,0,none⟩ (.slice aq (nl q0) cq) Ad;have et:=c1.cell;have eS:=c1.frozen;obtain⟨p1,p2,p3,p4,p5⟩:=I.fin ab em ac ep _ (.inl rfl);have c6:=p1.cell;have c7:=p2.cell;refine eG (some 49) 0 2 (?v12_0_1) rfl rfl it rfl rfl Aa Aa (λ_ _ _ h=>h) ⟨Af,?hy12_0_1⟩ ?_;case hy12_0_1=>(go_simp;try with_reducible rfl)
     try simp only[AI,AL,AM,AN]
     refine BU (rs:=[1,2]) Aa Ad ?_;refine BH rfl (λK H=> ?_) ?_
     ·go_simp
      refine H _ _ ?_;clear H K;try simp only[AI,AL,AM,AN]
      refine BU (rs:=[2]) Aa Ad ?_;refine BH rfl (λK H=> ?_) BT;go_simp;refine H _ _ ?_;clear H K;try simp only[AI,AL,AM,AN]
      refine BU (rs:=[3]) Aa Ad ?_;refine BH rfl (λK H=> ?_) BT;go_simp;refine H _ _ ?_;clear H K;refine gK (some 6) 4 (?v12_4_5) rfl rfl Aa Aa Aa (λ_ _ _ h=>h) (AR ⟨Af,?hy12_4_5⟩) ?_;case hy12_4_5=>(intro w;go_simp;try with_reducible rfl)
      try simp only[AI,AL,AM,AN]
      refine CK Aa ?_ _;go_wp2;exact A7 (ph rfl _ _ (w.heap.size+2) (w.heap.size+3) _ _ _ rfl rfl rfl c6 c7) rfl ⟨_,_,rfl,by rw[<-U.out];exact p3,by rw[<-V.out];exact p4,p5⟩
     refine BH rfl (λK H=> ?_) ?_
     ·go_simp
      refine H _ _ ?_;clear H K;try simp only[AI,AL,AM,AN]
      refine BU (rs:=[1]) Aa Ad ?_;refine BH rfl (λK H=> ?_) BT;go_simp;refine H _ _ ?_;clear H K;try simp only[AI,AL,AM,AN]
      refine BU (rs:=[3]) Aa Ad ?_;refine BH rfl (λK H=> ?_) BT;go_simp;refine H _ _ ?_;clear H K;refine gK (some 6) 4 (?v12_4_8) rfl rfl Aa Aa Aa (λ_ _ _ h=>h) (AR ⟨Af,?hy12_4_8⟩) ?_;case hy12_4_8=>(intro w;go_simp;try with_reducible rfl)
      try simp only[AI,AL,AM,AN]
      refine CK Aa ?_ _;go_wp2;exact A7 (ph rfl _ _ (w.heap.size+2) (w.heap.size+3) _ _ _ rfl rfl rfl c6 c7) rfl ⟨_,_,rfl,by rw[<-U.out];exact p3,by rw[<-V.out];exact p4,p5⟩
     exact BT
    | succ k=>
     have b8:k<=60000000000000:=no
     have e:(((k+1:Nat):Int) - 1)=(k:Int):=no
     simp only[e];clear e;have aa:=dm_round (m:=m) (n:=n) (k:=k) (Du a4.out);have cp:=Bs (m / 2^(k+1)) (Du a4.out);have cl:m / 2^(k+1) / n<=m:=AD (D6 _ _) (D6 _ _);have cm:m / 2^k / n<=m:=AD (D6 _ _) (D6 _ _);have Y:=AA aa;clear aa;obtain⟨q,hq⟩:∃q:Nat,Hid (q=m / 2^(k+1) / n):=⟨_,AA rfl⟩;obtain⟨r,hr⟩:∃r:Nat,Hid (r=m / 2^(k+1) % n):=⟨_,AA rfl⟩;obtain⟨b,hb⟩:∃b:Nat,Hid (b=m / 2^k % 2):=⟨_,AA rfl⟩;rw[<-hq.out,<-hr.out]at C;rw[<-hq.out]at cl;rw[<-hr.out]at cp;have aa:=Y.out;rw[<-hq.out,<-hr.out,<-hb.out]at aa;have Y:=AA aa;clear aa;have e0:b<=1:=by have:=hb.out;omega
     obtain⟨S,hS⟩:∃S:Nat,Hid (S=r+r):=⟨_,AA rfl⟩;obtain⟨J,Z⟩:∃J:Nat,Hid (J=S+b):=⟨_,AA rfl⟩;have cn:nl r<=1000000000000:=pm (Nat.le_of_lt cp) hn;have cd:nl q<=1000000000000:=pm cl hm;have ed:nl S<=1000000000000:=uM (b:=n) (by have:=hS.out;omega) hn;have am:nl J<=1000000000000:=uM (b:=n) (by have:=hS.out;have:=Z.out;omega) hn;have ee:nl b<=1000000000000:=nlb (by have:(2:Nat)<=4294967296^4:=it;omega);obtain⟨x8,c8,k8,n8⟩:=C.vr;have f8:=k8.frozen;go_upto_region 7 with(fail)
     refine aah Tryz.f262 7 (dmTab7 w m r k S b J) (λ_=>false) 4 1 Aa Aa Aa Aa (jr.of_all (λ_ h=>by cases h) _) ?_ ?_
     ·refine⟨λa' w' F=>⟨_,rfl,ag rfl,(bA rfl (F.keep 8 (Cp (some ⟨w.heap.size+5,0,none⟩)) Aa rfl).is (C.vr.isI.mono F.below)).b⟩,?_⟩;refine⟨λa' w' F=>⟨_,rfl,ag rfl,(bA rfl (F.keep 8 (Cp (some ⟨w.heap.size+5,0,none⟩)) Aa rfl).is (C.vr.isI.mono F.below)).b⟩,?_⟩;refine⟨λa' w' F=>⟨_,rfl,ag rfl,(arm_rAdd rfl (F.f 0 rfl) (F.f 1 rfl) (cn) (cn) hS.out.symm).b⟩,?_⟩;refine⟨λa' w' F=>⟨_,rfl,ag rfl,(bA rfl (F.keep 2 (Cp (some ⟨w.heap.size,0,none⟩)) Aa rfl).is (C.va.mono F.below)).b⟩,?_⟩;refine⟨λa' w' F=>⟨_,rfl,ag rfl,(bh (.inl rfl) (F.keep 9 (AK Be ((k:Nat))) Aa rfl).is).b⟩,?_⟩;refine⟨λa' w' F=>⟨_,rfl,ag rfl,(arm_bit rfl (F.f 3 rfl) (F.f 4 rfl) (b9) b8 hb.out.symm).b⟩,?_⟩;refine⟨λa' w' F=>⟨_,rfl,ag rfl,(aai (n:=b) rfl (F.f 5 rfl) no).b⟩,?_⟩;refine⟨λa' w' F=>⟨_,rfl,ag rfl,(rA (AD C.below.size F.below.size) rfl (F.f 2 rfl) (F.f 6 rfl) (ed) (ee) Z.out.symm).b⟩,?_⟩;exact trivial
     intro gp wp bp G Gs;obtain⟨v7,e7,n7⟩:∃v,gp 7=v/\aU w.heap.size wp v J:=⟨_,rfl,G 7 32 _ rfl⟩;obtain⟨x7,c7,rfl,be,cx⟩:=n7;have n7:aU w.heap.size wp (.agg #[.slice x7 (nl J) c7]) J:=⟨x7,c7,rfl,be,cx⟩;have bO:=C.mono bp;have ak:=bO.setr n7;have d4:=(k8.mono bp k8.lt).frozen;have d0:=(k8.mono bp k8.lt).cell;clear G Gs be cx f8;simp only[dmTab7];simp only[cI,aG,Bq,BS,Cc,Cj,AI,AL,AM,AN,e7];refine oD 8 Aa rfl rfl rfl rfl rfl rfl ⟨_,_,_,rfl⟩ (k8.mono bp k8.lt) ?_;refine CK Aa ?_ _;generalize wp.setCell ⟨w.heap.size+5,0,none⟩ (.slice x7 (nl J) c7)=w7 at *;clear C bO bp n7 k8 n8 d4 d0 e7;obtain⟨Q2,ax⟩:∃N:Nat,Hid (N=q+q):=⟨_,AA rfl⟩;obtain⟨yq,dq,kq,nq⟩:=ak.vq;have d3:=kq.cell;go_wp2_with fail
     refine(j9 _ _ q q _ nq.isN nq.isN cd cd).mono ?_;rintro e w8 ⟨v8,rfl,nn,bb⟩;rw[<-ax.out]at nn;obtain⟨x8,c8,rfl,bi,cz⟩:=nn;have I:=ak.mono bb;have n8:aU w.heap.size w8 (.agg #[.slice x8 (nl Q2) c8]) Q2:=aU.weaken (base:=w7.heap.size) ⟨x8,c8,rfl,bi,cz⟩ ak.below.size;have a0:=I.setq n8;obtain⟨fc,eE,ab,_⟩:=I.vq;have d1:=ab.cell;have d5:=ab.frozen;obtain⟨yr,dr,kr,nr⟩:=a0.vr;have er:=kr.cell;obtain⟨yb,d2,kb,ib⟩:=a0.vb;have eb:=kb.cell;clear d3 kq nq cz bi;go_wp2_with fail
     refine(nE _ _ J n _ nr.isN ib am cc).mono ?_;rintro e w9 ⟨rfl,ds⟩;have ad:=a0.mono ds;clear er eb kr nr kb ib d1 d5 ab n8 ak I bb;by_cases hge:n<=J
     ·have e3:¬cmpI J n<0:=by
       rcases Bc n J with h | h
       ·rw[j6 h];decide
       ·rw[ma no];decide
      have ao:n<=r+r+b:=by have:=Z.out;have:=hS.out;omega
      obtain⟨R2,a6⟩:∃N:Nat,Hid (N=J - n):=⟨_,AA rfl⟩;obtain⟨T,hT⟩:∃N:Nat,Hid (N=Q2+1):=⟨_,AA rfl⟩;have e1:m / 2^k / n=T:=by rw[(Y.out.1 ao).1,hT.out,ax.out]
      have e2:m / 2^k % n=R2:=by rw[(Y.out.1 ao).2,a6.out,Z.out,hS.out]
      have E1:=AA e1;have E2:=AA e2;have a7:nl Q2<=1000000000000:=by
       refine pm (b:=m) ?_ hm;have:=hT.out;rw[e1]at cm;omega
      clear e1 e2;obtain⟨yr,dr,kr,nr⟩:=ad.vr;have er:=kr.cell;obtain⟨yb,d2,kb,ib⟩:=ad.vb;have eb:=kb.cell;go_wp2_with fail
      refine(rt _ _ J n _ nr.isN ib am cc).mono ?_;rintro e dc ⟨e6,rfl,nn,a5⟩;rw[<-a6.out]at nn;obtain⟨a3,av,rfl,an,au⟩:=nn;have b0:=ad.mono a5;have ek:aU w.heap.size dc (.agg #[.slice a3 (nl R2) av]) R2:=aU.weaken (base:=w9.heap.size) ⟨a3,av,rfl,an,au⟩ ad.below.size;have C:=b0.setr ek;obtain⟨fe,eQ,ac,_⟩:=b0.vr;have ez:=ac.cell;have fr3:=ac.frozen;clear er eb kr nr kb ib au an;go_upto_region 11 with(fail)
      refine aah Tryz.f262 11 (aak w Q2 T) (λ_=>false) 4 1 Aa Aa Aa Aa (jr.of_all (λ_ h=>by cases h) _) ?_ ?_
      ·refine⟨λa' w' F=>⟨_,rfl,ag rfl,(bA rfl (F.keep 7 (Cp (some ⟨w.heap.size+4,0,none⟩)) Aa rfl).is (C.vq.isI.mono F.below)).b⟩,?_⟩;refine⟨λa' w' F=>⟨_,rfl,ag rfl,(aai (n:=1) rfl Is.const it).b⟩,?_⟩;refine⟨λa' w' F=>⟨_,rfl,ag rfl,(rA (AD C.below.size F.below.size) rfl (F.f 0 rfl) (F.f 1 rfl) (a7) (nlb it) hT.out.symm).b⟩,?_⟩;exact trivial
      intro gy wy dT G Gs;generalize dc.setCell ⟨w.heap.size+5,0,none⟩ (.slice a3 (nl R2) av)=e9 at *;obtain⟨v2,e2,n2⟩:∃v,gy 2=v/\aU w.heap.size wy v T:=⟨_,rfl,G 2 48 _ rfl⟩;obtain⟨x2,c2,rfl,a9,cv⟩:=n2;have n2:aU w.heap.size wy (.agg #[.slice x2 (nl T) c2]) T:=⟨x2,c2,rfl,a9,cv⟩;have b1:=C.mono dT;have ef:=b1.setq n2;obtain⟨fd,eP,eg,_⟩:=b1.vq;clear G Gs a9 cv;simp only[aak];simp only[cI,aG,Bq,BS,Cc,Cj,AI,AL,AM,AN,e2];refine oD 3 Aa rfl rfl rfl rfl rfl rfl ⟨_,_,_,rfl⟩ eg ?_;refine CK Aa ?_ _;go_wp2_with fail
      go_roundw
      case rel=>exact⟨k,no,by go_num,by rw[E1.out,E2.out];exact ef⟩
      case measure=>simp[intOf]<;>omega
     ·have ap:r+r+b<n:=by have:=Z.out;have:=hS.out;omega
      have e1:m / 2^k / n=Q2:=by rw[(Y.out.2 ap).1,ax.out]
      have e2:m / 2^k % n=J:=by rw[(Y.out.2 ap).2,Z.out,hS.out]
      have E1:=AA e1;have E2:=AA e2;clear e1 e2;rw[gI no];go_wp2_with fail
      go_roundw
      case rel=>exact⟨k,no,by go_num,by rw[E1.out,E2.out];exact ad⟩
      case measure=>simp[intOf]<;>omega
end Go.Proofs.YtggfmklppkioeaaGreat
