/- The specification of lookups: Path and Can. -/
import Derived.Test.YtggfmklppkioeaaGreatM11
import Derived.Laws.Rows
import Derived.Sort.CutIn
namespace Go.Proofs.YtggfmklppkioeaaGreat
set_option linter.unusedSimpArgs false
set_option linter.unusedVariables false
set_option maxRecDepth 100000
open Go.RowKit
open _root_.Go.RowKit renaming Below → Bi
open _root_.Go renaming Calls → AC,Operand → AP,Program → AW,bodyPost_ret → A7,heap_alloc_new → Bm,wpList_plain → BA,wpList_store_mid → BX,wp_block → Cq,wp_region_list → Bn,wp_ret → Ct,wp_seq → BP
open _root_.And renaming intro → By
open _root_.Array renaming getElem?_eq_some_iff → AZ
open _root_.Go.RowKit.Below renaming refl → AF
open _root_.Bool renaming and_eq_true → BN,or_eq_true → Ds
open _root_.ByteArray renaming empty → BW
open _root_.Go.DataW renaming trod_int → Dn
open _root_.Go.Fence renaming wide → Cd
open _root_.Go.Instr renaming buildSlice → DU,sliceAt → CI,sureAddr → DV
open _root_.Int renaming le_refl → CH
open _root_.Go.IntKind renaming i64 → Be,wrap_i64 → Ci
open _root_.Go.Lib renaming hid → AA
open _root_.List renaming all_eq_true → Ca,append_assoc → CO,append_nil → CP,drop_eq_getElem_cons → KQ,drop_eq_nil_of_le → FO,eq_nil_of_length_eq_zero → CF,find? → Ed,getD_eq_getElem?_getD → DX,getElem?_append_left → Bz,getElem?_cons_zero → Ec,getElem?_eq_getElem → AJ,getElem?_eq_some_iff → AX,getElem?_map → Bp,getElem?_of_mem → Di,getElem?_take → BI,getElem_of_mem → BK,length_append → Bh,length_cons → Bg,length_map → Cg,length_nil → Dk,length_take → A9,map_append → Ce,map_cons → Bq,map_nil → BS,map_toArray → CJ,mem_append → AG,mem_cons → AS,mem_cons_of_mem → Bf,mem_cons_self → Bo,mem_map → Ba,mem_of_getElem? → A0,mem_singleton → BD,nil_append → C8,nodup_cons → Bu,not_mem_nil → Dt,range → Bj,replicate → DW,take_add_one → El
open _root_.Nat renaming le_refl → AE,le_trans → AD,lt_of_lt_of_le → Bt,lt_or_eq_of_le → DD,lt_or_ge → Bc,zero_le → AY
open _root_.Option renaming map_some → BG,some → A3
open _root_.Go.Result renaming andThen_ok → CM
open _root_.Go.Sem renaming run_bind → AH,run_pure → Bw
open _root_.Go.Proofs.Tryz renaming func103 → EU,func39 → Ej,prog → AB,underlying3 → Dj,underlying5 → Dm,underlying68 → DE
open _root_.Go.Value renaming int → AK,ownBlock → Cx
section
open Classical
noncomputable def xr(R:Tr)(a:Int)(x y:Nm):List Nm:=if (aF R a x y).2=0 then qC R a x y else []
theorem Nms.nil(w:World):Nms w (.slice none 0 0) []:=⟨none,0,rfl,λk x h=>Ao⟩
theorem qK{R:Tr}{a:Int}{x y:Nm}(h:(aF R a x y).2=0):fv (bf R a x) (bf R a y)=some (aF R a x y).1:=by
 unfold aF at h⊢;split
 ·rename_i C;rw[if_pos C]at h;split
  ·rename_i z hz;exact hz
  ·rename_i hz;rw[hz]at h;cases h
 ·rename_i C;rw[if_neg C]at h;cases h
variable{l:List Nm}
theorem pd{m:List Nm}{z:Nm}(h:fv l m=some z):z∈l/\z∈m:=⟨List.mem_of_find?_eq_some h,by simpa using List.find?_some h⟩
variable{w:World}{v:Value}
theorem SR.row{w0:World}(h:SR w0 w v l)(h0:l≠ []):∃g c,v= .slice (some ⟨g,0,none⟩) l.length c/\l.length<=c/\g<w.heap.size/\∀j x,l[j]? =some x->w.cell? ⟨g,j,none⟩=some (.string x):=by
 rcases h.own.1.2 with⟨rfl,hn⟩ | ⟨g,cap,cur,rfl,hb,F,hn,I,C,ht⟩
 ·exact absurd (CF hn) h0
 ·refine⟨g,cap,rfl,hn,(AZ.1 F).1,λj x G=> ?_⟩;obtain⟨H,e,hc⟩:=cQ h.own.1 (show(l.map Value.string)[j]? =some (.string x)by rw[Bp,G];rfl);injection e with e;injection e with e;subst e;exact hc
theorem run_slT{b o n c j:Nat}(h:j<=c)(hn:n<=c):(CI 68 (.slice (some ⟨b,o,none⟩) n c) none (some (.int .i64 (j:Int))) none).run AB w= .ok (.slice (some ⟨b,o,none⟩) j c) w:=by
 have hz:szB AB 9=some 1:=Aa
 simp[CI,Instr.slice,Instr.sliceBounds,Instr.sliceBound,asIntOf,AH,run_underlying DE,ba hz,Result.andThen,h,sn]
set_option maxHeartbeats 1000000 in
theorem q_PathR{t:Nat}{L:List Rl}(h:RM w t v L)(V:Sane (trR L))(x y:Nm)(a:Int)(hn:L.length<=1000000):AC AB 60 #[ptB t,.string x,.string y,.int .i64 a] w λe w'=>∃v',e= .returned (.tuple #[v',.int .i64 (aF (trR L) a x y).2])/\Nms w' v' (xr (trR L) a x y)/\mBw w w':=by
 have hb:=AF w.heap.size w;go_enter Tryz.func60,Tryz.ntmps60
 refine bk 68 [(0,ptB t),(1,.string x),(2,.string y),(3,.int .i64 a)] λC=> ?_
 refine sX C ?_;intro _ C;refine sA C ?_;intro _ C;refine wC C (ah EU rfl rfl) (gG h y hn) λ{e w1} F=> ?_
 obtain⟨rfl,rfl⟩:=F;refine⟨_,rfl,λ_ C=> ?_⟩;by_cases hy:aC (trR L) y
 ·rw[decide_eq_true hy]at C;refine sD C ?_;intro _ C;refine wC C (ah EU rfl rfl) (gG h x hn) λ{e w1} F=> ?_
  obtain⟨rfl,rfl⟩:=F;refine⟨_,rfl,λ_ C=> ?_⟩;by_cases hx:aC (trR L) x
  ·rw[decide_eq_true hx]at C;refine sZ C ?_;intro _ C;refine cB C ?_;refine sA C ?_;intro _ C;refine wC C (ah Tryz.func61 rfl rfl) (sL h V x y a hn) λ{e w1} F=> ?_
   obtain⟨rfl,Y⟩:=F;refine⟨_,rfl,λ_ C=> ?_⟩;clear hb;have hb:=Y;by_cases hm:(aF (trR L) a x y).2=0
   ·have K:xr (trR L) a x y=qC (trR L) a x y:=if_pos hm;have ak:=qK hm;rw[decide_eq_true hm]at C;rw[K,hm];unfold qC;generalize (aF (trR L) a x y).1=c at *;refine sZ C ?_;intro _ C;refine sX C ?_;intro _ C;refine cB C ?_;refine sA C ?_;intro _ C;refine wC C (ah Tryz.func63 rfl rfl) (xq (h.below hb) V x a hn) λ{e w2} F=> ?_
    obtain⟨v1,rfl,P⟩:=F;refine⟨_,rfl,λ_ C=> ?_⟩;refine sD C ?_;intro _ C;refine wC C (ah Tryz.func63 rfl rfl) (xq (h.below (hb.trans (P.bel.mono hb.size))) V y a hn) λ{e w3} F=> ?_
    obtain⟨v2,rfl,U⟩:=F;refine⟨_,rfl,λ_ C=> ?_⟩;refine sZ C ?_;intro _ C;have l1:=jp V a x;have l2:=jp V a y;obtain⟨m1,m2⟩:=pd ak;generalize bf (trR L) a x=l at *;generalize bf (trR L) a y=m at *;have P:=P.mono U.bel;have b3:=hb.trans (P.bel.mono hb.size);obtain⟨g1,c1,rfl,ad,am,aq⟩:=P.row (λe=>by subst e;cases m1);obtain⟨g2,c2,rfl,au,av,a0⟩:=U.row (λe=>by subst e;cases m2);refine sX C ?_;intro _ C;refine sA C ?_;intro _ C;refine wC C (ah Tryz.func120 rfl rfl) (qJ P.nms c no) λ{e w4} F=> ?_
    obtain⟨i,rfl,hi,J⟩:=F;refine⟨_,rfl,λ_ C=> ?_⟩;rcases hi with⟨_,hi⟩ | ⟨k,rfl,aa,ap⟩
    ·exact absurd m1 hi
    have ay:=(AX.1 aa).1;have H:=λj x (G:(l.take (k+1))[j]? =some x)=>(J.cell (p:=⟨g1,j,none⟩) am).trans (aq j x (by rw[BI]at G;split at G;exact G;cases G))
    have b4:=b3.trans (J.mono b3.size);have U:=U.nms.below J;refine vN C ((k+1:Nat)) λC=> ?_
    refine wY C (.slice (some ⟨g1,0,none⟩) (k+1) c1) (kx_sh C rfl rfl rfl (run_slT no ad)) λC=> ?_
    obtain⟨v5,w5,ac,S5⟩:=(SR.nil (AF _ w4)).app (M:=l.take (k+1)) (a:=⟨g1,0,none⟩) (m:=k+1) (c:=c1) (ty:=68) (by rw[A9];omega) no (by simp;omega) (λj u G=>by
     rw[Bp]at G
     cases hz:(l.take (k+1))[j]? with
     | none=>rw[hz]at G;cases G
     | some z=>rw[hz]at G;injection G with G;subst G;rw[bM,Nat.zero_add];exact H j z hz)
    refine wW C v5 w5 (jT C rfl rfl rfl ac) λC=> ?_
    refine sZ C ?_;intro _ C;refine sA C ?_;intro _ C;refine wC C (ah Tryz.func120 rfl rfl) (qJ (U.below S5.bel) c no) λ{e w6} F=> ?_
    obtain⟨i,rfl,hi,Z⟩:=F;refine⟨_,rfl,λ_ C=> ?_⟩;rcases hi with⟨_,hi⟩ | ⟨j,rfl,an,ao⟩
    ·exact absurd m2 hi
    have ax:=(AX.1 an).1;have S:=S5.mono Z;refine vN C (((j:Int) - 1)) λC=> ?_
    refine sZ C ?_;intro _ C;have ab:l.take (k+1)=l.take k++ [c]:=by rw[El,aa];rfl
    rw[C8,ab]at S;rw[ap,ao];clear S5 Z H ac hb Y J
    ·refine eU (λb wr=>∃(q:Nat)(u:Value),Kn 68 [(13,.slice (some ⟨g2,0,none⟩) m.length c2),(14,u),(15,.int .i64 ((q:Int) - 1))] b/\SR w4 wr u (l.take k++ [c]++((m.take j).drop q).reverse)/\q<=j) (λb _=>(intOf (b.tmps.getD 15 undef)+1).toNat) ⟨j,v5,C.ct,by rw[FO (by rw[A9];omega),List.reverse_nil,CP];exact S,AE _⟩ (λb wr hI=> ?_);clear C S;obtain⟨q,u,C,S,a1⟩:=hI;have hb:=AF wr.heap.size wr;have ar:(intOf (b.tmps.getD 15 undef)+1).toNat=q:=by rw[C.gt 15];simp[intOf]
     rw[ar]
     cases q with
     | zero=>
      refine sX C ?_;intro _ C;refine mCf C ?_;refine mEx ?_;refine sX C ?_;intro _ C;refine mT2 C ?_;exact⟨_,rfl,S.nms,b4.trans (S.bel.mono b4.size)⟩
     | succ q=>
      obtain⟨z,hz⟩:∃z,m[q]? =some z:=⟨_,AJ no⟩;obtain⟨b',o,e,f1⟩:=(U.below S.bel).ld hz;injection e with e;injection e with e1 e2 _;subst e1;subst e2;rw[show((q+1:Nat):Int) - 1=(q:Int)by omega]at C;refine sX C ?_;intro _ C;refine lB C ?_;refine sA C ?_;intro _ C;refine vApp S (by simp;omega) C λ{_ w7 v7} S C=> ?_
      refine sZ C ?_;intro _ C;refine sA C ?_;intro _ C;refine vN C (((q:Int) - 1)) λC=> ?_
      refine sD C ?_;intro _ C;refine wln ?_;refine mUp ?_;refine⟨⟨q,v7,C.ct,?_,no⟩,?_⟩
      ·have:(m.take j).drop q=z::(m.take j).drop (q+1):=by
        rw[KQ (by rw[A9];omega)]
        congr 1
        rw[List.getElem_take];exact(AX.1 hz).2
       rw[this,List.reverse_cons,<-CO];exact S
      ·rw[C.gt 15];simp only[intOf];omega
   ·have K:xr (trR L) a x y=[]:=if_neg hm;have he:(aF (trR L) a x y).2=18:=by
     unfold aF at hm⊢;rw[if_pos ⟨hx,hy⟩]at hm⊢;split
     ·rename_i hz;rw[hz]at hm;exact absurd rfl hm
     ·rfl
    rw[decide_eq_false hm]at C;refine sZ C ?_;intro _ C;refine sX C ?_;intro _ C;refine mCt C ?_;refine sX C ?_;intro _ C;refine mT2 C ?_;exact⟨_,by rw[he],by rw[K];exact Nms.nil _,hb⟩
  ·rw[decide_eq_false hx]at C;have I:aF (trR L) a x y=(BW,6):=by unfold aF;rw[if_neg (λh=>hx h.1)]
   have K:xr (trR L) a x y=[]:=if_neg (by rw[I];decide);refine sZ C ?_;intro _ C;refine mCt C ?_;refine sX C ?_;intro _ C;refine mT2 C ?_;exact⟨_,by rw[I],by rw[K];exact Nms.nil _,hb⟩
 ·rw[decide_eq_false hy]at C;have I:aF (trR L) a x y=(BW,6):=by unfold aF;rw[if_neg (λh=>hy h.2)]
  have K:xr (trR L) a x y=[]:=if_neg (by rw[I];decide);refine sZ C ?_;intro _ C;refine mCt C ?_;refine sX C ?_;intro _ C;refine mT2 C ?_;exact⟨_,by rw[I],by rw[K];exact Nms.nil _,hb⟩
theorem kx_bs2{n:Nat}{o:Oper}{l:List (Nat×Value)}{a:Act}{x y:AP}{t:TypeId}{F G:Value}{w':World}(C:Kn n l a)(H:o.op= .buildSlice t 2 #[(0,x),(1,y)])(I:evK l x=some F)(hy:evK l y=some G)(hr:(DU t 2 #[(0,F),(1,G)]).run AB w= .ok v w'):(execOp a.eval o).run AB w= .ok (.value v) w':=by
 unfold execOp;simp only[H,CJ,Bq,BS];rw[C.evx I,C.evx hy];simp only[AH,hr];rfl
theorem run_bs2(w:World)(x y:Nm):(DU 68 2 #[(0,.string x),(1,.string y)]).run AB w= .ok (.slice (some ⟨w.heap.size,0,none⟩) 2 2) (w.alloc (.cells #[.string x,.string y] 9)):=Ah
theorem bel_ne{c z:Nm}{j i:Nat}(h:a8 l c=l.take j)(hi:i<j)(hz:l[i]? =some z):z≠c:=by
 have:z∈a8 l c:=by rw[h];exact A0 (i:=i) (by rw[BI,if_pos hi];exact hz)
 unfold a8 at this;simpa using Ca.1 (List.all_takeWhile (p:=λz=>decide (z≠c)) (l:=l)) z this
theorem bel_at{c:Nm}:∀ {l:List Nm},c∈l->∃j,l[j]? =some c/\a8 l c=l.take j
 | z::l,h=>by
  by_cases e:z=c
  ·exact⟨0,by rw[e];rfl,by unfold a8;simp[e]⟩
  ·obtain⟨j,h1,h2⟩:=bel_at (l:=l) (by rcases AS.1 h with rfl | h;exact absurd rfl e;exact h);exact⟨j+1,by simpa using h1,by unfold a8 at h2⊢;rw[List.takeWhile_cons,if_pos Av,h2];rfl⟩
theorem edgC_cons{R:Tr}{a:Int}{f:Nm}(h:(bv R f a).2=0):dU R a (f::l)=dU R a l:=if_pos h
set_option maxHeartbeats 1000000 in
theorem q_CanR{t:Nat}{L:List Rl}(h:RM w t v L)(K:Sane (trR L))(x y:Nm)(a:Int)(hn:L.length<=1000000):AC AB 58 #[ptB t,.string x,.string y,.int .i64 a] w λe w'=>e= .returned (.int .i64 (aP (trR L) a x y).2)/\Bi w.heap.size w w':=by
 have hb:=AF w.heap.size w;rw[kE];go_enter Tryz.func58,Tryz.ntmps58
 refine bk 73 [(0,ptB t),(1,.string x),(2,.string y),(3,.int .i64 a)] λC=> ?_
 refine sX C ?_;intro _ C;refine sA C ?_;intro _ C;refine wC C (ah Tryz.func60 rfl rfl) (q_PathR h K y x a hn) λ{e w1} G=> ?_
 obtain⟨u,rfl,_,b1⟩:=G;clear hb;have hb:=b1;refine⟨_,rfl,λ_ C=> ?_⟩;refine sZ C ?_;intro _ C;by_cases hm:(aF (trR L) a y x).2=0
 ·rw[hm]at C;have Y:=pd (qK hm);refine sX C ?_;intro _ C;refine cB C ?_;refine sA C ?_;intro _ C;refine wC C (ah Tryz.func61 rfl rfl) (sL (h.below hb) K y x a hn) λ{e H} G=> ?_
  obtain⟨rfl,b2⟩:=G;refine⟨_,rfl,λ_ C=> ?_⟩;refine sZ C ?_;intro _ C;rw[if_neg (by rw[hm];simp)];generalize (aF (trR L) a y x).1=c at *;have b2:=hb.trans (b2.mono hb.size);clear hb b1;refine sA C ?_;intro _ C;refine wW C (.slice (some ⟨H.heap.size,0,none⟩) 2 2) (H.alloc (.cells #[.string y,.string x] 9)) (kx_bs2 C rfl rfl rfl (run_bs2 H y x)) λC=> ?_
  have h3:=Bm H (.cells #[.string y,.string x] 9);have b3:Bi w.heap.size w (H.alloc (.cells #[.string y,.string x] 9)):=b2.alloc b2.size _;have hg:H.heap.size<(H.alloc (.cells #[.string y,.string x] 9)).heap.size:=(AZ.1 h3).1;generalize H.alloc (.cells #[.string y,.string x] 9)=w3 at *;generalize H.heap.size=g at *;have fy:LdB w3 9 (.pointer (some ⟨g,0+((0:Nat):Int).toNat*1,none⟩)) (.string y):=.one Aa hg (by rw[aH h3];rfl);have fx:LdB w3 9 (.pointer (some ⟨g,0+((1:Nat):Int).toNat*1,none⟩)) (.string x):=.one Aa hg (by rw[aH h3];rfl);clear h3 hg;refine sZ C ?_;intro _ C;refine sX C ?_;intro _ C
  ·refine eU (λb wr=>∃k:Nat,Kn 73 [(0,ptB t),(3,.int .i64 a),(11,.string c),(13,.slice (some ⟨g,0,none⟩) 2 2),(14,.int .i64 (k:Int))] b/\Bi w3.heap.size w3 wr/\k<=2/\(0<k->dU (trR L) a (a8 (bf (trR L) a y) c)=0)/\(1<k->dU (trR L) a (a8 (bf (trR L) a x) c)=0)) (λb _=>2 - (intOf (b.tmps.getD 14 undef)).toNat) ⟨0,C.ct,AF _ _,it,λh=>absurd h it,λh=>absurd h it⟩ (λb wr hI=> ?_);clear C;obtain⟨k,C,hb,ao,e1,e2⟩:=hI;have J:(intOf (b.tmps.getD 14 undef)).toNat=k:=by rw[C.gt 14];simp[intOf]
   rw[J];rcases DD ao with F | rfl
   ·have au:(k:Int)<2:=no
    obtain⟨z,hz,ac,aq,ak⟩:∃z,LdB w3 9 (.pointer (some ⟨g,0+(k:Int).toNat*1,none⟩)) (.string z)/\(dU (trR L) a (a8 (bf (trR L) a z) c)=0->(0<k+1->dU (trR L) a (a8 (bf (trR L) a y) c)=0)/\(1<k+1->dU (trR L) a (a8 (bf (trR L) a x) c)=0))/\c∈bf (trR L) a z/\(dU (trR L) a (a8 (bf (trR L) a z) c)≠0->dU (trR L) a (a8 (bf (trR L) a z) c)=if dU (trR L) a (a8 (bf (trR L) a y) c)≠0 then dU (trR L) a (a8 (bf (trR L) a y) c)else dU (trR L) a (a8 (bf (trR L) a x) c)):=by
     obtain rfl | rfl:k=0\/k=1:=no
     ·exact⟨y,fy,λh=>⟨λ_=>h,λh=>absurd h it⟩,Y.1,λh=>(if_pos h).symm⟩
     ·exact⟨x,fx,λh=>⟨λ_=>e1 it,λ_=>h⟩,Y.2,λh=>(if_neg (by rw[e1 it];simp)).symm⟩
    refine sX C ?_;intro _ C;refine lB C ?_;refine sA C ?_;intro _ C;refine wC C (ah Tryz.func63 rfl rfl) (xq (h.below (b3.trans (hb.mono b3.size))) K z a hn) λ{e w4} G=> ?_
    obtain⟨v4,rfl,S⟩:=G;have b4:=hb.trans (S.bel.mono hb.size);refine⟨_,rfl,λ_ C=> ?_⟩;refine sZ C ?_;intro _ C;have av:=jp K a z;generalize bf (trR L) a z=l at *;have N:=S.nms;obtain⟨ad,cap,rfl⟩:=N.form;obtain⟨j,hj,ab⟩:=bel_at aq;rw[ab]at ac ak;have ar:=(AX.1 hj).1;clear hb e1 e2;refine sX C ?_;intro _ C
    ·refine eU (λb wr=>∃i:Nat,Kn 73 [(0,ptB t),(3,.int .i64 a),(11,.string c),(13,.slice (some ⟨g,0,none⟩) 2 2),(14,.int .i64 (k:Int)),(15,.slice ad l.length cap),(16,.int .i64 (i:Int))] b/\Bi w4.heap.size w4 wr/\i<=j/\dU (trR L) a (l.take j)=dU (trR L) a ((l.take j).drop i)) (λb _=>j - (intOf (b.tmps.getD 16 undef)).toNat) ⟨0,C.ct,AF _ _,AY _,rfl⟩ (λb wr hI=> ?_);clear C;obtain⟨i,C,hb,an,Z⟩:=hI;have J:(intOf (b.tmps.getD 16 undef)).toNat=i:=by rw[C.gt 16];simp[intOf]
     rw[J];obtain⟨f,hf⟩:∃f,l[i]? =some f:=⟨_,AJ no⟩;obtain⟨b',o,e,f1⟩:=N.ld hf;subst e;rcases DD an with F | rfl
     ·have ap:=bel_ne ab F hf;have hd:(l.take j).drop i=f::(l.take j).drop (i+1):=by
       rw[KQ (by rw[A9];omega)]
       congr 1
       rw[List.getElem_take];exact(AX.1 hf).2
      rw[hd]at Z;refine sA C ?_;intro _ C;refine wB C (.bool true) (hr:=bi_sne (decide_eq_true ap)) λC=> ?_
      refine wln ?_;refine mUp ?_;refine lB C ?_;refine sA C ?_;intro _ C;refine wC C (ah Tryz.func42 rfl rfl) (q_EdgeR (h.below (b3.trans ((b4.trans (hb.mono b4.size)).mono b3.size))) K.ok f a hn) λ{e w5} G=> ?_
      obtain⟨v5,rfl,⟨cs,rfl,am⟩,P⟩:=G;refine⟨_,rfl,λ_ C=> ?_⟩;refine sD C ?_;intro _ C;refine vA C 21 λV hz C=> ?_
      refine vFR V am hz C λ{_ w6} V _ C=> ?_
      have U:=hb.trans ((P.trans (V.bel.mono P.size)).mono hb.size);clear hb;have hb:=U;clear U;refine sZ C ?_;intro _ C;by_cases hc:(bv (trR L) f a).2=0
      ·rw[hc]at C;rw[edgC_cons hc]at Z;refine sX C ?_;intro _ C;refine cB C ?_;refine sA C ?_;intro _ C;refine vN C ((i+1:Nat)) λC=> ?_
       refine sD C ?_;intro _ C;refine wln ?_;refine mUp ?_;refine⟨⟨i+1,C.ct,hb,F,Z⟩,?_⟩;rw[C.gt 16];simp only[intOf];omega
      ·have aa:dU (trR L) a (l.take j)=(bv (trR L) f a).2:=Z.trans (if_neg hc);have I:=ak (by rw[aa];exact hc);rw[aa]at I;refine sX C ?_;intro _ C;refine mCt C ?_;refine sX C ?_;intro _ C;refine mT1 C ?_;exact⟨by rw[<-I];rfl,b3.trans ((b4.trans (hb.mono b4.size)).mono b3.size)⟩
     ·rw[hj]at hf;injection hf with hf;subst hf;refine sA C ?_;intro _ C;refine wB C (.bool false) (hr:=bi_sne (decide_eq_false Ad)) λC=> ?_
      refine wln ?_;refine mUp ?_;refine mCf C ?_;refine mEx ?_;obtain⟨h1,h2⟩:=ac (by rw[Z,FO (by rw[A9];omega)];rfl);refine sA C ?_;intro _ C;refine vN C ((k+1:Nat)) λC=> ?_
      refine sD C ?_;intro _ C;refine wln ?_;refine mUp ?_;refine⟨⟨k+1,C.ct,b4.trans (hb.mono b4.size),F,h1,h2⟩,?_⟩;rw[C.gt 14];simp only[intOf];omega
   ·refine sX C ?_;intro _ C;refine mCf C ?_;refine mEx ?_;refine sX C ?_;intro _ C;refine mT1 C ?_;exact⟨by rw[e1 it,e2 it];rfl,b3.trans (hb.mono b3.size)⟩
 ·refine sX C ?_;intro _ C;refine mCt C ?_;refine sX C ?_;intro _ C;refine mT1 C ?_;exact⟨by rw[if_pos hm];rfl,hb⟩
end
section
open Classical
def zS(R:Tr)(b:Int):Prop:=b=bC\/∃q∈R,(0<=q.2.un/\b=q.2.un - 1)\/((ei R q.1 q.2.fr).2.2=true/\b=(ei R q.1 q.2.fr).2.1/\∃l,q.2.tr[q.2.tr.length - 1]? =some l/\b=l.tm)
theorem zS.to{R:Tr}{b:Int}(h:zS R b):mU R b:=by
 rcases h with rfl | ⟨q,C,h | ⟨h1,h2,_⟩⟩
 ·exact .inl rfl
 ·exact .inr ⟨q,C,.inl h⟩
 ·exact .inr ⟨q,C,.inr (.inr ⟨h1,h2⟩)⟩
section
variable {R:Tr} {a b y:Int} {x z s c p f tq fr:Nm} {l:List Nm}
theorem trk_to{S:List St}(C:GoodS S)(h:(trkP S a).2=0):∃f l,S[0]? =some f/\S[S.length - 1]? =some l/\f.tm<=a/\a<=l.tm/\∀y,a<=y->y<=l.tm->(trkP S y).2=0:=by
 obtain⟨z,w,c,r⟩:=road C a;rw[r.trkP]at h;have hc:c=0:=h;subst hc;have key:∀f l:St,S[0]? =some f->S[S.length - 1]? =some l->f.tm<=a->a<=l.tm->∀y,a<=y->y<=l.tm->(trkP S y).2=0:=λf l hf hl h1 h2 y h3 H=>by
  obtain⟨I,w',G,F⟩:=road C y;rw[F.trkP];show G=0
  cases F with
  | E h0=>rw[List.length_eq_zero_iff.1 h0]at hf;cases hf
  | O1 f' hf' hn ha=>rw[hf]at hf';injection hf' with e;subst e;omega
  | O2 f' hf' hb l' hl' hn ha=>rw[hl]at hl';injection hl' with e;subst e;omega
  | Q=>rfl
  | M=>rfl
 cases r with
 | Q f hf hb l hl hn ha=>exact⟨f,l,hf,hl,hb,ha,key f l hf hl hb ha⟩
 | M f hf hb l hl hn ha=>exact⟨f,l,hf,hl,hb,ha,key f l hf hl hb ha⟩
theorem abb{x:Lk}(h:x.un= -1\/x.fr<x.un/\x.un<=bC):jl x<=bC:=by
 unfold jl;split<;>(simp only[bC]at *;omega)
theorem link_to(J:TOk R)(ha:a<=bC)(h:(bv R f a).2=0):∃b,a<=b/\b<=bC/\zS R b/\∀y,a<=y->y<=b->par R y f=par R a f/\(bv R f y).2=0:=by
 unfold bv at h
 cases ht:tAt R f a with
 | none=>rw[ht]at h;exact absurd (show(18:Int)=0 from h) it
 | some x=>
  rw[ht]at h;obtain⟨G,hx⟩:=jg ht;have tm:=J.tm _ G;have U:x.fr<=a/\(x.un= -1\/a<x.un):=by simpa [Lk.has]using hx
  have keep:∀y,a<=y->y<=jl x->tAt R f y=some x:=λy h1 h2=>tT (J.row f) G (by
   simp only[Lk.has,BN,Ds,decide_eq_true_eq];unfold jl at h2;refine⟨no,?_⟩;split at h2
   ·rename_i e;exact .inl e
   ·exact .inr no)
  have Z:=abb (x:=x) tm.2.2;have Y:a<=jl x:=by
   unfold jl;split
   ·exact ha
   ·have:=U.2;omega
  have V:zS R (jl x):=by
   unfold jl;split
   ·exact .inl rfl
   ·exact .inr ⟨_,G,.inl ⟨by have:=tm;simp only at this⊢;omega,rfl⟩⟩
  have hp:∀y,a<=y->y<=jl x->par R y f=par R a f:=λy h1 h2=>by unfold par;rw[keep y h1 h2,ht]
  by_cases hs:x.st=true
  ·refine⟨jl x,Y,Z,V,λy h1 h2=>⟨hp y h1 h2,?_⟩⟩;unfold bv;rw[keep y h1 h2];exact congrArg Prod.snd (if_pos hs)
  ·simp only[if_neg hs]at h;obtain⟨K,F,hf,hl,h1,h2,h3⟩:=trk_to (J.good _ G) h;have I:∀y,a<=y->y<=jl x->y<=F.tm->par R y f=par R a f/\(bv R f y).2=0:=λy C k2 k3=>⟨hp y C k2,by
    unfold bv;rw[keep y C k2];show(if x.st=true then _ else trkP x.tr y).2=0;rw[if_neg hs];exact h3 y C k3⟩
   by_cases e:jl x<=F.tm
   ·exact⟨jl x,Y,Z,V,λy C k2=>I y C k2 no⟩
   ·have H:ei R f x.fr=(K.tm,F.tm,true):=by
     have P:tAt R f x.fr=some x:=tT (J.row f) G (by
      simp only[Lk.has,BN,Ds,decide_eq_true_eq];exact⟨CH _,tm.2.2.imp id (λh=>h.1)⟩)
     have h4:gR x.tr=(K.tm,F.tm,true):=by unfold gR;rw[hf,hl]
     unfold ei sG;rw[P];show(if x.st=true then _ else _)=_;rw[if_neg hs,h4,if_pos ⟨rfl,by simp only;omega⟩];show(K.tm,min F.tm (jl x),true)=_;rw[Int.min_eq_left no]
    exact⟨F.tm,h2,no,.inr ⟨_,G,.inr ⟨by rw[H],by rw[H],F,hl,rfl⟩⟩,λy C k2=>I y C no k2⟩
theorem edgC_c0(h:dU R a (f::l)=0):(bv R f a).2=0/\dU R a l=0:=by
 unfold dU at h;split at h
 ·rename_i k;exact⟨k,h⟩
 ·rename_i k;exact absurd h k
theorem ul(G:TOk R)(ha:a<=bC):∀L:List Nm,dU R a L=0->∃b,a<=b/\b<=bC/\zS R b/\∀y,a<=y->y<=b->(∀z∈L,par R y z=par R a z)/\dU R y L=0
 | [],_=>⟨bC,ha,CH _,.inl rfl,λy _ _=>⟨λz h=>(by cases h),rfl⟩⟩
 | f::L,h=>by
  obtain⟨h1,h2⟩:=edgC_c0 h;obtain⟨C,J,k2,k3,K⟩:=link_to G ha h1;obtain⟨F,P,U,V,Y⟩:=ul G ha L h2;have mk:∀b,b<=C->b<=F->∀y,a<=y->y<=b->(∀z∈f::L,par R y z=par R a z)/\dU R y (f::L)=0:=λb Z e2 y h3 h4=>by
   have H:=K y h3 no;have I:=Y y h3 no;refine⟨λz hz=> ?_,?_⟩
   ·rcases AS.1 hz with rfl | hz
    ·exact H.1
    ·exact I.1 z hz
   ·unfold dU;rw[if_pos H.2];exact I.2
  rcases Int.le_total C F with e | e
  ·exact⟨C,J,k2,k3,mk C (CH _) e⟩
  ·exact⟨F,P,U,V,mk F e (CH _)⟩
theorem anc_to(C:TOk R)(h:Anc R a x l)(hc:c∈l)(hp:∀z∈a8 l c,par R y z=par R a z):Anc R y x (a8 l c++bf R y c):=by
 induction h with
 | @root x hx=>
  simp only[BD]at hc;subst hc;simpa [a8]using cR C y c
 | @step x w l hx t ih=>
  by_cases e:x=c
  ·subst e;simpa [a8]using cR C y x
  ·have hb:a8 (x::l) c=x::a8 l c:=by simp[a8,e]
   rw[hb]at hp⊢;have hc:c∈l:=by
    rcases AS.1 hc with h | h
    ·exact absurd h.symm e
    ·exact h
   exact .step ((hp x (Bo ..)).trans hx) (ih hc (λz hz=>hp z (Bf _ hz)))
theorem anc_rch(h:Anc R a x l)(hs:s∈l):Reach R a x s:=by
 induction h with
 | root hp=>simp only[BD]at hs;subst hs;exact .refl _
 | step hp t ih=>
  rcases AS.1 hs with rfl | hs
  ·exact .refl _
  ·exact .step hp (ih hs)
theorem anc_nod(C:TOk R)(h:Anc R a x l):l.Nodup:=by
 induction h with
 | root hp=>simp
 | @step x y l hp t ih=>
  refine Bu.2 ⟨λF=> ?_,ih⟩;exact(C.acy a x).no_loop y hp (anc_rch t F)
theorem abc:∀ {l:List Nm} {m:List Nm},fv l m=some c->∀z∈a8 l c,z∉m/\z≠c
 | u::l,m,h,z,hz=>by
  unfold fv at h;rw[List.find?_cons]at h;by_cases hu:u∈m
  ·rw[show decide (u∈m)=true from decide_eq_true hu]at h;injection h with h;subst h;exact absurd hz (by simp[a8])
  ·rw[show decide (u∈m)=false from decide_eq_false hu]at h;have hc:fv l m=some c:=h;have C:u≠c:=λe=>hu (e▸(pd hc).2)
   have hb:a8 (u::l) c=u::a8 l c:=by simp[a8,C]
   rw[hb]at hz;rcases AS.1 hz with rfl | hz
   ·exact⟨hu,C⟩
   ·exact abc hc z hz
theorem um(C:TOk R)(ha:a<=bC)(h:(aP R a tq fr).2=0):∃b,a<=b/\b<=bC/\zS R b/\(aP R b tq fr).2=0:=by
 rw[kE]at h;have V:(aF R a fr tq).2=0:=by
  by_cases k:(aF R a fr tq).2=0
  ·exact k
  ·rw[if_pos k]at h;exact h
 rw[if_neg (by simp[V])]at h;have h1:dU R a (a8 (bf R a fr) (aF R a fr tq).1)=0:=by
  by_cases k:dU R a (a8 (bf R a fr) (aF R a fr tq).1)=0
  ·exact k
  ·rw[if_pos k]at h;exact absurd h k
 rw[if_neg (by simp[h1])]at h;have H:=qK V;have U:=jo V;obtain⟨m1,m2⟩:=pd H;generalize (aF R a fr tq).1=c at *;have F:=abc H;have A1:=cR C a fr;have A2:=cR C a tq;have G:∀z∈a8 (bf R a tq) c,z∈bf R a tq/\z≠c:=λz hz=>⟨(List.takeWhile_prefix _).subset hz,by unfold a8 at hz;simpa using Ca.1 List.all_takeWhile z hz⟩
 generalize bf R a fr=lx at *;generalize bf R a tq=ly at *;obtain⟨I,k1,k2,k3,k4⟩:=ul C ha _ h1;obtain⟨J,n1,n2,n3,n4⟩:=ul C ha _ h;have go:∀b,a<=b->b<=I->b<=J->(aP R b tq fr).2=0:=λb e0 e1 e2=>by
  obtain⟨p1,q1⟩:=k4 b e0 e1;obtain⟨p2,q2⟩:=n4 b e0 e2;have K:=anc_to C A1 m1 p1;have Z:=anc_to C A2 m2 p2;have nd:=anc_nod C K;obtain⟨t,ht⟩:=(cR C b c).head;rw[ht]at K Z nd;have e3:=gW K;have e4:=gW Z;have P:fv (bf R b fr) (bf R b tq)=some c:=by
   rw[e3,e4];unfold fv;rw[List.find?_append,List.find?_eq_none.2 (λz hz=> ?_),List.find?_cons,show decide (c∈a8 ly c++c::t)=true from decide_eq_true Ad]
   ·rfl
   ·have d:=(List.nodup_append.1 nd).2.2 z hz;rw[decide_eq_true_eq];intro Y;rcases AG.1 Y with k | k
    ·exact(F z hz).1 (G z k).1
    ·exact d z k rfl
  have hM:aF R b fr tq=(c,0):=by unfold aF;rw[if_pos U,P]
  have f1:a8 (bf R b fr) c=a8 lx c:=by rw[e3];exact mS (λz hz=>(F z hz).2) ⟨t,Ad⟩
  have f2:a8 (bf R b tq) c=a8 ly c:=by rw[e4];exact mS (λz hz=>(G z hz).2) ⟨t,Ad⟩
  rw[kE,hM,if_neg Ad,f1,f2,q1,if_neg Ad,q2]
 rcases Int.le_total I J with e | e
 ·exact⟨I,k1,k2,k3,go I k1 (CH _) e⟩
 ·exact⟨J,n1,n2,n3,go J n1 e (CH _)⟩
def uo(R:Tr)(tq fr:Nm)(n e:Int):Prop:=(¬(aC R fr/\aC R tq)/\n=0/\e=6)\/
 ((aC R fr/\aC R tq)/\((e=0/\0<=n/\n<=bC/\(aP R n tq fr).2=0/\∀a,0<=a->a<=bC->(aP R a tq fr).2=0->a<=n)\/(e=17/\n=0/\∀a,0<=a->a<=bC->(aP R a tq fr).2≠0)))
theorem endT_le(C:TOk R)(h:mU R b):b<=bC:=by
 rcases h with rfl | ⟨q,G,⟨_,rfl⟩ | rfl | ⟨h1,rfl⟩⟩
 ·exact CH _
 ·have:=C.tm q G;simp only[bC]at *;omega
 ·have:=C.tm q G;omega
 ·unfold ei at h1⊢
  cases ht:tAt R q.1 q.2.fr with
  | none=>rw[ht]at h1;cases h1
  | some x=>
   rw[ht]at h1;have F:=abb (x:=x) (C.tm _ (jg ht).1).2.2;simp only at h1⊢;unfold sG at h1⊢;split
   ·exact F
   ·split
    ·exact Int.le_trans (Int.min_le_right _ _) F
    ·simp
variable{n e:Int}
theorem q9.max(F:TOk R)(h:q9 R tq fr n e):uo R tq fr n e:=by
 rcases h with h | ⟨H,⟨C,h0,h1,h2,h3⟩ | ⟨C,h0,h1⟩⟩
 ·exact .inl h
 ·refine .inr ⟨H,.inl ⟨C,h0,endT_le F h1,h2,λa ha hb hf=> ?_⟩⟩;obtain⟨b,I,k2,k3,G⟩:=um F hb hf;have:=h3 b k3.to no G;omega
 ·refine .inr ⟨H,.inr ⟨C,h0,λa ha hb hf=> ?_⟩⟩;obtain⟨b,I,k2,k3,G⟩:=um F hb hf;exact h1 b k3.to no G
theorem uo.uniq{m d:Int}(h:uo R tq fr n e)(k:uo R tq fr m d):n=m/\e=d:=by
 rcases h with⟨h,h1,h2⟩ | ⟨h,⟨h1,h2,h3,F,H⟩ | ⟨h1,h2,h3⟩⟩<;>rcases k with⟨k,C,k2⟩ | ⟨k,⟨C,k2,k3,G,I⟩ | ⟨C,k2,k3⟩⟩
 ·exact⟨h1.trans C.symm,h2.trans k2.symm⟩
 ·exact absurd k h
 ·exact absurd k h
 ·exact absurd h k
 ·have:=H m k2 k3 G;have:=I n h2 h3 F;exact⟨no,no⟩
 ·exact absurd F (k3 n h2 h3)
 ·exact absurd h k
 ·exact absurd G (h3 m k2 k3)
 ·exact⟨no,no⟩
theorem uo.req{Q:Tr}(r:REq R Q)(C:TOk R)(h:uo Q tq fr n e):uo R tq fr n e:=by
 unfold uo at *;simpa only[find_req r C,r.known]using h
end
end
section
open Classical
variable{L:List Rl}
theorem re{k:Nat}{l:Rl}(h:L[k]? =some l)(c:Nm):lks (trR (L.take (k+1))) c=lks (trR (L.take k)) c++(if l.c=c then [l.x]else []):=by
 rw[El,h];show lks (trR (L.take k++ [l])) c=_;unfold trR;rw[Ce,gS];show _++lks [(l.c,l.x)] c=_;rw[d8];rfl
theorem zT{c:Nm}{x:Lk}(h:x∈lks (trR L) c):∃(i:Nat)(l:Rl),L[i]? =some l/\l.c=c/\l.x=x:=by
 obtain⟨i,hi,e⟩:=BK (bU.1 h);obtain⟨l,h1,h2⟩:=kB (show(trR L)[i]? =some (c,x)by rw[AJ hi,e]);injection h2 with h2 h3;exact⟨i,l,h1,h2.symm,h3.symm⟩
theorem zU{i:Nat}{l:Rl}(h:L[i]? =some l):l.x∈lks (trR L) l.c:=bU.2 (A0 (gF h))
theorem nodup_sub{A:List Nm}:∀ {B:List Nm},A.Nodup->(∀x∈A,x∈B)->A.length<=B.length:=by
 induction A with
 | nil=>intro B _ _;exact AY _
 | cons a A ih=>
  intro B I h;obtain⟨h1,h2⟩:=Bu.1 I;obtain⟨G,H,e⟩:=List.append_of_mem (h a (Bo ..));have:=ih (B:=G++H) h2 (λx F=>by
   have C:=h x (Bf _ F);rw[e]at C;rcases AG.1 C with k | k
   ·exact AG.2 (.inl k)
   ·rcases AS.1 k with k | k
    ·exact absurd F (k▸h1)
    ·exact AG.2 (.inr k))
  rw[e];simp only[Bg,Bh]at this⊢;omega
variable{l:List Nm}
theorem qL(h:l.Pairwise jy):l.Nodup:=List.Pairwise.imp (λ{a b} (k:jy a b) e=>by subst e;exact List.lt_irrefl _ k) h
theorem known_len(h:l.Pairwise jy)(F:∀x,x∈l↔aC (trR L) x):l.length<=2*L.length:=by
 have:=nodup_sub (B:=L.map (·.c)++L.map (·.x.par)) (qL h) (λx G=>by
  obtain⟨i,C,h1,h2⟩:=j4.1 ((F x).1 G);rcases h2 with e | e
  ·exact AG.2 (.inl (Ba.2 ⟨C,A0 h1,e⟩))
  ·exact AG.2 (.inr (Ba.2 ⟨C,A0 h1,e⟩)))
 simp only[Bh,Cg]at this;omega
theorem zV{R:Tr}{c p:Nm}(hs:l.Pairwise jy)(C:∀x,x∈l↔aC R x):ci (λx=>aC R x\/x=c\/x=p) (l.length+(if aC R c then 0 else 1)+(if¬aC R p/\p≠c then 1 else 0)):=by
 have hn:=qL hs;by_cases k1:aC R c<;>by_cases k2:¬aC R p/\p≠c
 ·rw[if_pos k1,if_pos k2];refine⟨p::l,Bu.2 ⟨λe=>k2.1 ((C p).1 e),hn⟩,λx=> ?_,rfl⟩;rw[AS,C];exact⟨λh=>h.elim (λe=>.inr (.inr e)) .inl,λh=>h.elim .inr (λh=>h.elim (λe=>.inr (e▸k1)) .inl)⟩
 ·rw[if_pos k1,if_neg k2];refine⟨l,hn,λx=> ?_,rfl⟩;rw[C];refine⟨.inl,λh=>h.elim id (λh=>h.elim (λe=>e▸k1) (λe=> ?_))⟩;by_cases k3:aC R p
  ·exact e▸k3
  ·by_cases k4:p=c
   ·rw[e,k4];exact k1
   ·exact absurd ⟨k3,k4⟩ k2
 ·rw[if_neg k1,if_pos k2];refine⟨p::c::l,Bu.2 ⟨λe=>(AS.1 e).elim k2.2 (λe=>k2.1 ((C p).1 e)),Bu.2 ⟨λe=>k1 ((C c).1 e),hn⟩⟩,λx=> ?_,rfl⟩;rw[AS,AS,C];exact⟨λh=>h.elim (λe=>.inr (.inr e)) (λh=>h.elim (λe=>.inr (.inl e)) .inl),λh=>h.elim (λh=>.inr (.inr h)) (λh=>h.elim (λe=>.inr (.inl e)) .inl)⟩
 ·rw[if_neg k1,if_neg k2];refine⟨c::l,Bu.2 ⟨λe=>k1 ((C c).1 e),hn⟩,λx=> ?_,rfl⟩;rw[AS,C];refine⟨λh=>h.elim (λe=>.inr (.inl e)) .inl,λh=>h.elim .inr (λh=>h.elim .inl (λe=> ?_))⟩;by_cases k3:aC R p
  ·exact .inr (e▸k3)
  ·by_cases k4:p=c
   ·exact .inl (e.trans k4)
   ·exact absurd ⟨k3,k4⟩ k2
set_option maxHeartbeats 2000000 in
theorem q_AttachR{w:World}{t:Nat}{v:Value}(h:RM w t v L)(hR:TOk (trR L))(c p:Nm)(f:Int)(hc:Nam c)(hp:Nam p)(hn:L.length<=1000000):
  AC AB 95 #[ptB t,.string c,.string p,.int .i64 f] w λe w'=>∃v' L' ar,e= .returned (.int .i64 ar)/\RPost w t v L w' v' L'/\AttS bY (trR L) c p f (trR L') ar:=by
 have F:=sJ (w:=w) c hc;have G:=sJ (w:=w) p hp;have bp:=uf h c hn;have U:=AA h;obtain⟨ad,cp,hv⟩:=h.form;obtain⟨n,hN⟩:∃n,n=L.length:=⟨_,rfl⟩;have HN:=AA hN;have HR:=AA hR;rw[<-hN]at hv hn;subst hv;have cv:(n:Int)<=1000000:=no
 have cn:=h.cell;clear h hN hn hR hc hp;by_cases gc:bY c
 ·rw[decide_eq_true gc]at F;by_cases gp:bY p
  ·rw[decide_eq_true gp]at G;have J:=AA (By gc gp);clear gc gp;by_cases g0:f<0
   ·have q0:decide (f<0)=true:=decide_eq_true g0;have H:=AA (AttS.time (isN:=bY) (R:=trR L) (c:=c) (p:=p) (f:=f) J.out (.inl g0));clear g0;go_enter Tryz.func95,Tryz.ntmps95
    go_upto_region 3 with(first
     | (go_at_call 159;refine F.mono ?_;rintro e w1 ⟨rfl,C⟩;obtain rfl:=C.symm;clear F)
     | (go_at_call 159;refine G.mono ?_;rintro e w1 ⟨rfl,C⟩;obtain rfl:=C.symm;clear G))
    go_wp2;go_ret;exact⟨_,L,17,rfl,.refl U.out (AF _ _),H.out⟩
   ·have q0:decide (f<0)=false:=decide_eq_false g0;by_cases g1:bC<f
    ·have q1:decide ((1099511627776:Int)<f)=true:=decide_eq_true g1;have H:=AA (AttS.time (isN:=bY) (R:=trR L) (c:=c) (p:=p) (f:=f) J.out (.inr (.inl g1)));clear g0 g1;go_enter Tryz.func95,Tryz.ntmps95
     go_upto_region 3 with(first
      | (go_at_call 159;refine F.mono ?_;rintro e w1 ⟨rfl,C⟩;obtain rfl:=C.symm;clear F)
      | (go_at_call 159;refine G.mono ?_;rintro e w1 ⟨rfl,C⟩;obtain rfl:=C.symm;clear G))
     go_wp2;go_ret;exact⟨_,L,17,rfl,.refl U.out (AF _ _),H.out⟩
    ·have q1:decide ((1099511627776:Int)<f)=false:=decide_eq_false g1;have HG:=AA (By g0 g1);clear g0 g1;go_enter Tryz.func95,Tryz.ntmps95
     go_upto_region 3 with(first
      | (go_at_call 159;refine F.mono ?_;rintro e w1 ⟨rfl,C⟩;obtain rfl:=C.symm;clear F)
      | (go_at_call 159;refine G.mono ?_;rintro e w1 ⟨rfl,C⟩;obtain rfl:=C.symm;clear G))
     go_upto_if 31 with(go_at_call 155;refine bp.mono ?_;rintro e w1 ⟨i,rfl,hi,C⟩;obtain rfl:=C.symm;have HP:=AA (uh hi);clear bp hi)
     rcases HP.out with⟨hi,hp⟩ | ⟨A,B,l,hi,hL,hc,hp⟩
     ·subst hi;have ap:=AA hp;clear hp;go_wp2;go_loopw [9,10] (λs9 a7 wr=>∃k:Nat,k<=n/\s9= .int .i64 (((lks (trR (L.take k)) c).length:Nat):Int)/\a7= .int .i64 (k:Int)/\wr=w/\Hid (∀i l,i<k->L[i]? =some l->l.c=c->l.x.un<=f)) (λ_ a7 _=>n - (intOf a7).toNat)
      case atStart=>exact⟨0,AY _,rfl,rfl,rfl,AA (λi l hi=>absurd hi (Nat.not_lt_zero _))⟩
      case round=>
       obtain⟨k,hk,rfl,rfl,cb,HO⟩:=hrel;obtain rfl:=cb;rcases Bc k n with b8 | cq
       ·have cr:(k:Int)<(n:Int):=no
        obtain⟨l,hl⟩:∃l,L[k]? =some l:=⟨_,AJ (by rw[<-HN.out];exact b8)⟩;obtain⟨b,c2,cs,e,A⟩:=U.out.at hl;injection e with e1 e2 e3;subst e1;subst e3;clear e2;have fc:=A.c;have fu:=A.un;have HL:=AA hl;have Z:=re hl c;have b1:(lks (trR (L.take k)) c).length<=k:=AD (aaO _ _) (by unfold trR;rw[Cg,A9];omega);clear A hl;have bb:=AA (show(l.c=c->l.x.un<=f)->∀i l',i<k+1->L[i]? =some l'->l'.c=c->l'.x.un<=f from λca i l' hi am=>by
         rcases Bc i k with h | h
         ·exact HO.out i l' h am
         ·obtain rfl:i=k:=no
          rw[HL.out]at am;injection am with am;subst am;exact ca)
        by_cases g1:l.c=c
        ·have q5:=kP g1;rw[if_pos g1]at Z;have a4:(lks (trR (L.take (k+1))) c).length=(lks (trR (L.take k)) c).length+1:=by rw[Z,Bh];rfl
         clear Z;obtain⟨m,hm⟩:∃m,(lks (trR (L.take k)) c).length=m:=⟨_,rfl⟩;rw[hm]at b1 a4⊢;have bz:=AA a4;clear a4 hm;have b9:(m:Int)<=1000000:=no
         by_cases g2:f<l.x.un
         ·have q6:decide (f<l.x.un)=true:=decide_eq_true g2;have H:=AA (AttS.time (isN:=bY) (R:=trR L) (c:=c) (p:=p) (f:=f) J.out (.inr (.inr (.inr ⟨l.x,by rw[<-g1];exact zU HL.out,g2⟩))));clear g1 g2;go_wp2;go_ret;exact⟨_,L,17,rfl,.refl U.out (AF _ _),H.out⟩
         ·have q6:decide (f<l.x.un)=false:=decide_eq_false g2;have av:=AA g2;clear g1 g2;go_wp2;go_roundw
          case rel=>exact⟨k+1,no,by rw[bz.out];go_num,by go_num,by trivial,AA (bb.out (λ_=>by have:=av.out;omega))⟩
          case measure=>simp[intOf];omega
        ·have q5:=gU g1;rw[if_neg g1,CP]at Z;have b0:=AA Z;have av:=AA g1;clear g1 Z;go_wp2;go_roundw
         case rel=>exact⟨k+1,no,by rw[b0.out],by go_num,by trivial,AA (bb.out (λe=>absurd e av.out))⟩
         case measure=>simp[intOf];omega
       ·obtain rfl:k=n:=no
        have P:L.length<=1000000:=by rw[<-HN.out];omega
        have HU:=AA (show∀x∈lks (trR L) c,x.un<=f from λx hx=>by
         obtain⟨i,l,h1,h2,rfl⟩:=zT hx;exact HO.out i l (by have:=(AX.1 h1).1;rw[HN.out];exact this) h1 h2)
        obtain⟨m,hm⟩:∃m,(lks (trR (L.take k)) c).length=m:=⟨_,rfl⟩;rw[hm];have ay:=AA (show m=(lks (trR L) c).length by rw[<-hm,List.take_of_length_le (by rw[HN.out];exact AE _)]);have b9:(m:Int)<=1000000:=by
         have:=aaO (trR L) c;have e:(trR L).length=L.length:=by unfold trR;simp
         rw[<-ay.out,e]at this;omega
        have be:=q_FramesR U.out P;have ab:=AA P;clear hm HO P
        go_upto_if 69 with(first
         | (go_at_call 105;refine be.mono ?_;rintro e w1 ⟨v1,lf,rfl,bt,_,a5,a6,hb⟩;obtain⟨cm,c1,rfl⟩:=cL bt.1;have I:=AA hb;have V:=AA (zV (c:=c) (p:=p) a6 a5);have cu:=known_len a6 a5;have bi:=gG (U.out.below hb) c ab.out;clear be bt a5 a6 hb)
         | (go_at_call 103;refine bi.mono ?_;rintro e w2 ⟨rfl,C⟩;obtain rfl:=C.symm;clear bi))
        have b2:(lf.length:Int)<=2000000:=by have:=ab.out;omega
        have bO:=AA b2;go_cut [11]from 12 (λao wx=>ao= .int .i64 ((lf.length+(if aC (trR L) c then 0 else 1):Nat):Int)/\wx=w1)
        case first=>
         by_cases g3:aC (trR L) c
         ·have q3:decide (aC (trR L) c)=true:=decide_eq_true g3;have ax:=AA g3;rw[q3];clear g3;go_wp2;go_meet;case rel=>exact⟨by rw[if_pos ax.out];rfl,by trivial⟩
         ·have q3:decide (aC (trR L) c)=false:=decide_eq_false g3;have ax:=AA g3;rw[q3];clear g3;go_wp2;go_meet;case rel=>exact⟨by rw[if_neg ax.out];go_num,by trivial⟩
        case rest=>
         obtain⟨ac,ew⟩:=hcut;obtain rfl:=ew.symm;obtain rfl:=ac.symm;obtain⟨n1,aq⟩:∃n1,lf.length+(if aC (trR L) c then 0 else 1)=n1:=⟨_,rfl⟩;rw[aq];rw[aq]at V;have cd:(n1:Int)<=2000001:=by
          have:=bO.out;split at aq<;>omega
         have K:=gG (U.out.below I.out) p ab.out;clear aq;go_upto_region 16 with(fail)
         go_cut [11,80]from 12 (λao cc wx=>ao= .int .i64 (n1:Int)/\cc= .bool (decide (¬aC (trR L) p/\p≠c))/\wx=w1)
         case first=>
          by_cases g4:aC (trR L) p
          ·rw[decide_eq_true g4]at K;have e4:decide (¬aC (trR L) p/\p≠c)=false:=decide_eq_false (λk=>k.1 g4);have aa:=AA e4;clear g4 e4;go_wp2_with (go_at_call 103;refine K.mono ?_;rintro e w2 ⟨rfl,C⟩;obtain rfl:=C.symm;clear K)
           go_meet;case rel=>exact⟨by trivial,by rw[aa.out],by trivial⟩
          ·rw[decide_eq_false g4]at K;by_cases g5:p=c
           ·have q5:=kP g5;have e4:decide (¬aC (trR L) p/\p≠c)=false:=decide_eq_false (λk=>k.2 g5);have aa:=AA e4;clear g4 e4 g5;go_wp2_with (go_at_call 103;refine K.mono ?_;rintro e w2 ⟨rfl,C⟩;obtain rfl:=C.symm;clear K)
            go_meet;case rel=>exact⟨by trivial,by rw[aa.out],by trivial⟩
           ·have q5:=gU g5;have e4:decide (¬aC (trR L) p/\p≠c)=true:=decide_eq_true ⟨g4,g5⟩;have aa:=AA e4;clear g4 e4 g5;go_wp2_with (go_at_call 103;refine K.mono ?_;rintro e w2 ⟨rfl,C⟩;obtain rfl:=C.symm;clear K)
            go_meet;case rel=>exact⟨by trivial,by rw[aa.out],by trivial⟩
         case rest=>
          obtain⟨ac,a2,ew⟩:=hcut;obtain rfl:=ew.symm;obtain rfl:=ac.symm;obtain⟨n2,P⟩:∃n2,n1+(if¬aC (trR L) p/\p≠c then 1 else 0)=n2:=⟨_,rfl⟩;rw[P]at V;have cl:(n2:Int)<=2000002:=by split at P<;>omega
          obtain⟨bq,a3⟩:∃bq,decide (¬aC (trR L) p/\p≠c)=bq:=⟨_,rfl⟩;rw[a3]at a2;obtain rfl:=a2.symm;have a0:=AA (show n2=n1+(if bq=true then 1 else 0)by rw[<-P,<-a3];simp only[decide_eq_true_eq]);clear P a3 a2;go_upto_if 80 with(fail)
          go_cut [11]from 12 (λao wx=>ao= .int .i64 (n2:Int)/\wx=w1)
          case first=>
           cases bq with
           | true=>
            go_wp2;go_meet
            case rel=>exact⟨by rw[a0.out];go_num,by trivial⟩
           | false=>
            go_wp2;go_meet;case rel=>exact⟨by rw[a0.out];rfl,by trivial⟩
          case rest=>
           obtain⟨ac,ew⟩:=hcut;obtain rfl:=ew.symm;obtain rfl:=ac.symm;clear a0;by_cases g7:24<n2
           ·have q7:decide ((24:Int)<(n2:Int))=true:=decide_eq_true no;have H:=AA (AttS.full (isN:=bY) (R:=trR L) (c:=c) (p:=p) (f:=f) J.out (by have:=HG.out.1;omega) (by have:=HG.out.2;omega) ap.out HU.out n2 V.out (.inl g7));clear g7;go_wp2;go_ret;exact⟨_,L,15,rfl,.refl U.out I.out,H.out⟩
           ·have q7:decide ((24:Int)<(n2:Int))=false:=decide_eq_false no;by_cases g8:64<=m
            ·have q8:decide ((64:Int)<=(m:Int))=true:=decide_eq_true no;have H:=AA (AttS.full (isN:=bY) (R:=trR L) (c:=c) (p:=p) (f:=f) J.out (by have:=HG.out.1;omega) (by have:=HG.out.2;omega) ap.out HU.out n2 V.out (.inr (by rw[<-ay.out];exact g8)));clear g7 g8;go_wp2;go_ret;exact⟨_,L,15,rfl,.refl U.out I.out,H.out⟩
            ·have q8:decide ((64:Int)<=(m:Int))=false:=decide_eq_false no;have a9:=AA (show n2<=24/\(lks (trR L) c).length<64 by rw[<-ay.out];omega);have Y:=q_cycleR (U.out.below I.out) HR.out c p f ab.out;clear g7 g8;by_cases g9:Cyc (trR L) c p f
             ·rw[decide_eq_true g9]at Y;have H:=AA (AttS.cycle (isN:=bY) (R:=trR L) (c:=c) (p:=p) (f:=f) J.out (by have:=HG.out.1;omega) (by have:=HG.out.2;omega) ap.out HU.out n2 V.out a9.out g9);clear g9;go_wp2_with (go_at_call 160;refine Y.mono ?_;rintro e w2 ⟨rfl,ak⟩;have au:=AA (I.out.trans (ak.mono I.out.size));clear Y ak)
              go_ret;exact⟨_,L,19,rfl,.refl U.out au.out,H.out⟩
             ·rw[decide_eq_false g9]at Y;have H:=AA (AttS.ok (isN:=bY) (R:=trR L) (c:=c) (p:=p) (f:=f) J.out (by have:=HG.out.1;omega) (by have:=HG.out.2;omega) ap.out HU.out n2 V.out a9.out g9);clear g9;go_upto_if 93 with(go_at_call 160;refine Y.mono ?_;rintro e w2 ⟨rfl,ak⟩;have au:=AA (I.out.trans (ak.mono I.out.size));clear Y ak)
              rename_i K2 an _ _;have a1:=AA an;clear an;go_wp2;refine a1.out _ _ (att_tail U.out HN.out ab.out au.out (Kn.mk0 rfl rfl Ab) (λc a a' w e h=>⟨e.trans h.1,h.2⟩) (λa' w' v' g sl h1 h2 h3=> ?_) _ Aa);refine A7 (results_tmp rfl _ _ _) h2 ?_;refine⟨v',_,0,by rw[<-h1],h3,?_⟩;rw[show trR (L++ [⟨c,bG p f,g,sl⟩])=jx (trR L) c p f by unfold trR jx;rw[Ce];rfl];exact H.out
     ·subst hi;have q2:decide ((0:Int)<=(A.length:Int))=true:=decide_eq_true no;have H:=AA (AttS.time (isN:=bY) (R:=trR L) (c:=c) (p:=p) (f:=f) J.out (.inr (.inr (.inl ⟨_,_,hp⟩))));clear hp hL hc;go_wp2;go_ret;exact⟨_,L,17,rfl,.refl U.out (AF _ _),H.out⟩
  ·rw[decide_eq_false gp]at G;have H:=AA (AttS.name (isN:=bY) (R:=trR L) (c:=c) (p:=p) (f:=f) (λk=>gp k.2));clear gc gp;go_enter Tryz.func95,Tryz.ntmps95
   go_wp2_with (first
     | (go_at_call 159;refine F.mono ?_;rintro e w1 ⟨rfl,C⟩;obtain rfl:=C.symm;clear F)
     | (go_at_call 159;refine G.mono ?_;rintro e w1 ⟨rfl,C⟩;obtain rfl:=C.symm;clear G))
   go_ret;exact⟨_,L,5,rfl,.refl U.out (AF _ _),H.out⟩
 ·rw[decide_eq_false gc]at F;have H:=AA (AttS.name (isN:=bY) (R:=trR L) (c:=c) (p:=p) (f:=f) (λk=>gc k.1));clear gc;go_enter Tryz.func95,Tryz.ntmps95
  go_wp2_with (go_at_call 159;refine F.mono ?_;rintro e w1 ⟨rfl,C⟩;obtain rfl:=C.symm;clear F)
  go_ret;exact⟨_,L,5,rfl,.refl U.out (AF _ _),H.out⟩
end
section
open Classical
def ByPost(w:World)(t:Nat)(v:Value)(L:List Rl)(x:Ax)(e:Ending)(w':World):Prop:=∃v' L' code,e= .returned (.int .i64 code)/\RPost w t v L w' v' L'/\DoS (trR L) x (trR L') code
theorem q_SetRP{w:World}{t:Nat}{v:Value}{L:List Rl}{c:Nm}{a:Int}{p:Pq}{cs:List Value}(h:RM w t v L)(hn:L.length<=1000000)(I:TOk (trR L))(U:aR w (.agg cs.toArray) p)(h2:p.ok 2)(H:p.rot.comp/\p.pos.good):
  AC AB 93 #[ptB t,.string c,stV a cs] w λe w'=>∃v' L' C,e= .returned (.int .i64 C)/\RPost w t v L w' v' L'/\SetS (kI a p) (trR L) c a (trR L') C:=by
 obtain⟨G,F,hc⟩:=U;have F:cs=G:=by injection F with F;simpa using F
 subst F;refine q_SetR h hn (I.row c) (aE hc) _ (λw' g sl S J hb ht=> ?_);obtain⟨l,hl,rfl⟩:=J;obtain⟨k,P⟩:=Di hl;have K:GoodS l.x.tr:=I.good _ (A0 (gF P));exact k_rAdd (s:=⟨a,p⟩) ht ⟨cs,rfl,bo.mono hc hb⟩ h2 H K
theorem q_FixRP{w:World}{t:Nat}{v:Value}{L:List Rl}{c:Nm}{p:Pq}{cs:List Value}(h:RM w t v L)(hn:L.length<=1000000)(H:TOk (trR L))(G:aR w (.agg cs.toArray) p)(h2:p.ok 2)(F:p.rot.comp/\p.pos.good):
  AC AB 94 #[ptB t,.string c,.agg cs.toArray] w λe w'=>∃v' L' C,e= .returned (.int .i64 C)/\RPost w t v L w' v' L'/\FixS (decide p.good) p (trR L) c (trR L') C:=
 q_FixedR h hn (λl hl=>by
  obtain⟨k,I⟩:=Di hl;exact(H.good _ (A0 (gF I))).len) G (λ_ hb=>q_rVal (G.mono hb) h2 F)
end
section
open Classical
variable{w:World}
theorem abd{k:Int}{X Y:AP}(C:0<=k):(do eqGuard .rem 5 X Y (.int .u8 k) (.int .u8 5);binOp .rem 5 (.int .u8 k) (.int .u8 5):Sem Value).run AB w= .ok (.int .u8 (k % 5)) w:=by
 have F:k.tmod 5=k % 5:=Int.tmod_eq_emod_of_nonneg C;clear C;go_simp
theorem sM{a:Int}(ha: -32768<=a/\a<32768):(convert 49 3 (.int .i16 a)).run AB w= .ok (.int .i64 a) w:=by
 have h1:Be.wrap a=a:=by rw[Ci];omega
 clear ha;go_simp
theorem kx_stp{n:Nat}{o:Oper}{l:List (Nat×Value)}{a:Act}{x y:AP}{tm:Int}{cs:List Value}(C:Kn n l a)(F:o.op= .build 120 #[(0,x),(1,y)])(G:evK l x=some (.int .i64 tm))(hy:evK l y=some (.agg cs.toArray))(hl:cs.length=21):(execOp a.eval o).run AB w= .ok (.value (.agg (AK .i64 tm::cs).toArray)) w:=by
 have h:(Instr.build 120 #[(0,.int .i64 tm),(1,.agg cs.toArray)]).run AB w= .ok (.agg (AK .i64 tm::cs).toArray) w:=by
  match cs,hl with
  | [c0,c1,c2,c3,c4,c5,c6,c7,c8,c9,c10,c11,c12,c13,c14,c15,c16,c17,c18,c19,c20],_=>go_simp
 unfold execOp;simp only[F,CJ,Bq,BS];rw[C.evx G,C.evx hy];simp only[AH,h];rfl
theorem stp_nu(s:Stp):∀u∈s.cs,noU u:=λu C n e=>by
 subst e;simp[Stp.cs]at C
set_option maxHeartbeats 1000000 in
theorem q_do29{t m:Nat}{E:List Ch}{s:Stp}(h:TM w t m E)(hE:TOk (trE E))(hs:s.Ok):AC AB 54 #[ptB t,s.val] w λe w'=>DoPost w t m E (axOf s) e w':=by
 go_enter Tryz.func54,Tryz.ntmps54
 refine bk 53 [(0,ptB t),(1,.agg s.cs.toArray)] λC=> ?_
 refine mDn ?_;refine bD ?_;refine vX (stp_nu s) C λ{_ W B} V C=> ?_
 refine sZ C ?_;intro _ C;have hb:=AF W.heap.size W;have f0:LdB W 5 (.pointer (some ⟨B,0+0,none⟩)) (.int .u8 s.k):=V.one rfl;have f1:LdB W 5 (.pointer (some ⟨B,0+1,none⟩)) (.int .u8 s.c):=V.one rfl;have f2:LdB W 5 (.pointer (some ⟨B,0+2,none⟩)) (.int .u8 s.p):=V.one rfl;have f3:LdB W 49 (.pointer (some ⟨B,0+3,none⟩)) (.int .i16 s.a):=V.one rfl;have f4:LdB W 65 (.pointer (some ⟨B,0+4,none⟩)) (.int .i8 s.x):=V.one rfl;have f5:LdB W 5 (.pointer (some ⟨B,0+5,none⟩)) (.int .u8 s.u):=V.one rfl;refine uA C ?_;intro _ C;refine uC C (.string (cW s.c)) (ah Ej rfl rfl) (λw hb=>(oe s.c hs.c).mono (by rintro e w' ⟨rfl,rfl⟩;exact⟨rfl,AF _ _⟩)) λC=> ?_
 refine uD C ?_;intro _ C;refine uC C (.string (cW s.p)) (ah Ej rfl rfl) (λw hb=>(oe s.p hs.p).mono (by rintro e w' ⟨rfl,rfl⟩;exact⟨rfl,AF _ _⟩)) λC=> ?_
 refine uZ C ?_;intro _ C w' P;clear hb;refine sA C ?_;intro _ C;refine wC C (ah Tryz.func86 rfl rfl) (q_Pose s.x s.u hs.x hs.u) λ{e w2} G=> ?_
 obtain⟨v2,rfl,⟨cs,rfl,H⟩,K⟩:=G;refine⟨_,rfl,λ_ C=> ?_⟩;refine vA C 21 λU hz C=> ?_
 refine vFR U H hz C λ{_ w3} U _ C=> ?_
 refine wln ?_;refine mUp ?_;have hb:=P.trans ((K.trans (U.bel.mono K.size)).mono P.size);have f7:=U.fr H;have G:=AF w3.heap.size w3;have hl:=aE H;have i3:aR w3 (.agg cs.toArray) (dw s.x s.u):=⟨cs,rfl,H.mono U.bel⟩;have b3:=V.bel.trans (hb.mono V.bel.size);have p2:=oh hs.x hs.u;have h3:=h.below b3;clear H K P U V;refine sA C ?_;intro _ C;refine wB C (.int .u8 (s.k % 5)) (hr:=abd hs.k.1) λC=> ?_
 refine wln ?_;refine mUp ?_;unfold axOf;by_cases k2:s.k % 5=2
 ·rw[if_pos k2];refine sX C ?_;intro _ C;refine mCt C ?_;refine sA C ?_;intro _ C;refine wV C (.int .i64 s.a) (hr:=sM hs.a) λC=> ?_
  refine wC C (ah Tryz.func68 rfl rfl) (q_Detach h3 hE (cW s.c) s.a) λ{e w4} G=> ?_
  obtain⟨E',F,rfl,J,I⟩:=G;refine⟨_,rfl,λ_ C=> ?_⟩;refine sZ C ?_;intro _ C;refine mT1 C ?_;exact⟨E',_,F,rfl,TPost.pre b3 h J,.refl _,by unfold DoS;exact I⟩
 ·rw[if_neg k2];by_cases k3:s.k % 5=3
  ·rw[if_pos k3];refine sX C ?_;intro _ C;refine mCf C ?_;refine sX C ?_;intro _ C;refine mCt C ?_;refine sA C ?_;intro _ C;refine wV C (.int .i64 s.a) (hr:=sM hs.a) λC=> ?_
   refine sD C ?_;intro _ C;refine wY C (.agg (AK .i64 s.a::cs).toArray) (kx_stp C rfl rfl rfl (by simpa using hl)) λC=> ?_
   refine wC C (ah Tryz.func69 rfl rfl) (zA (c:=cW s.c) (a:=s.a) (p:=dw s.x s.u) (cs:=cs) h3 hE i3 p2 (kz _ _)) λ{e w4} G=> ?_
   obtain⟨E',Y,F,rfl,J,Z,I⟩:=G;refine⟨_,rfl,λ_ C=> ?_⟩;refine sZ C ?_;intro _ C;refine mT1 C ?_;exact⟨E',Y,F,rfl,TPost.pre b3 h J,Z,by unfold DoS;exact I⟩
  ·rw[if_neg k3];by_cases k4:s.k % 5=4
   ·rw[if_pos k4];refine sX C ?_;intro _ C;refine mCf C ?_;refine sX C ?_;intro _ C;refine mCf C ?_;refine sX C ?_;intro _ C;refine mCt C ?_;refine sA C ?_;intro _ C;refine wC C (ah Tryz.func70 rfl rfl) (q_FixP (c:=cW s.c) (p:=dw s.x s.u) (cs:=cs) h3 hE i3 p2 (kz _ _)) λ{e w4} G=> ?_
    obtain⟨E',Y,F,rfl,J,Z,I⟩:=G;refine⟨_,rfl,λ_ C=> ?_⟩;refine sZ C ?_;intro _ C;refine mT1 C ?_;exact⟨E',Y,F,rfl,TPost.pre b3 h J,Z,by unfold DoS;exact I⟩
   ·rw[if_neg k4];refine sX C ?_;intro _ C;refine mCf C ?_;refine sX C ?_;intro _ C;refine mCf C ?_;refine sX C ?_;intro _ C;refine cB C ?_;refine sA C ?_;intro _ C;refine wV C (.int .i64 s.a) (hr:=sM hs.a) λC=> ?_
    refine wC C (ah Tryz.func67 rfl rfl) (qr (c:=cW s.c) (p:=cW s.p) (f:=s.a) h3 hE (kv _ hs.c.1) (kv _ hs.p.1)) λ{e w4} G=> ?_
    obtain⟨E',Y,F,rfl,J,Z,I⟩:=G;refine⟨_,rfl,λ_ C=> ?_⟩;refine sZ C ?_;intro _ C;refine mT1 C ?_;exact⟨E',Y,F,rfl,TPost.pre b3 h J,Z,by unfold DoS;exact I⟩
set_option maxHeartbeats 1000000 in
theorem q_by29{t:Nat}{v:Value}{L:List Rl}{s:Stp}(h:RM w t v L)(Y:TOk (trR L))(hn:L.length<=1000000)(hs:s.Ok):AC AB 119 #[ptB t,s.val] w λe w'=>ByPost w t v L (axOf s) e w':=by
 go_enter Tryz.func119,Tryz.ntmps119
 refine bk 53 [(0,ptB t),(1,.agg s.cs.toArray)] λC=> ?_
 refine mDn ?_;refine bD ?_;refine vX (stp_nu s) C λ{_ W B} V C=> ?_
 refine sZ C ?_;intro _ C;have hb:=AF W.heap.size W;have f0:LdB W 5 (.pointer (some ⟨B,0+0,none⟩)) (.int .u8 s.k):=V.one rfl;have f1:LdB W 5 (.pointer (some ⟨B,0+1,none⟩)) (.int .u8 s.c):=V.one rfl;have f2:LdB W 5 (.pointer (some ⟨B,0+2,none⟩)) (.int .u8 s.p):=V.one rfl;have f3:LdB W 49 (.pointer (some ⟨B,0+3,none⟩)) (.int .i16 s.a):=V.one rfl;have f4:LdB W 65 (.pointer (some ⟨B,0+4,none⟩)) (.int .i8 s.x):=V.one rfl;have f5:LdB W 5 (.pointer (some ⟨B,0+5,none⟩)) (.int .u8 s.u):=V.one rfl;refine uA C ?_;intro _ C;refine uC C (.string (cW s.c)) (ah Ej rfl rfl) (λw hb=>(oe s.c hs.c).mono (by rintro e w' ⟨rfl,rfl⟩;exact⟨rfl,AF _ _⟩)) λC=> ?_
 refine uD C ?_;intro _ C;refine uC C (.string (cW s.p)) (ah Ej rfl rfl) (λw hb=>(oe s.p hs.p).mono (by rintro e w' ⟨rfl,rfl⟩;exact⟨rfl,AF _ _⟩)) λC=> ?_
 refine uZ C ?_;intro _ C w' P;clear hb;refine sA C ?_;intro _ C;refine wC C (ah Tryz.func86 rfl rfl) (q_Pose s.x s.u hs.x hs.u) λ{e w2} G=> ?_
 obtain⟨v2,rfl,⟨cs,rfl,H⟩,K⟩:=G;refine⟨_,rfl,λ_ C=> ?_⟩;refine vA C 21 λU hz C=> ?_
 refine vFR U H hz C λ{_ Z} U _ C=> ?_
 refine wln ?_;refine mUp ?_;have hb:=P.trans ((K.trans (U.bel.mono K.size)).mono P.size);have f7:=U.fr H;have G:=AF Z.heap.size Z;have hl:=aE H;have i3:aR Z (.agg cs.toArray) (dw s.x s.u):=⟨cs,rfl,H.mono U.bel⟩;have b3:=V.bel.trans (hb.mono V.bel.size);have p2:=oh hs.x hs.u;have h3:=h.below b3;clear H K P U V;refine sA C ?_;intro _ C;refine wB C (.int .u8 (s.k % 5)) (hr:=abd hs.k.1) λC=> ?_
 refine wln ?_;refine mUp ?_;unfold axOf;by_cases k2:s.k % 5=2
 ·rw[if_pos k2];refine sX C ?_;intro _ C;refine mCt C ?_;refine sA C ?_;intro _ C;refine wV C (.int .i64 s.a) (hr:=sM hs.a) λC=> ?_
  refine wC C (ah Tryz.func92 rfl rfl) (q_DetachR h3 (cW s.c) s.a hn) λ{e w4} G=> ?_
  obtain⟨v',L',F,rfl,J,I⟩:=G;refine⟨_,rfl,λ_ C=> ?_⟩;refine sZ C ?_;intro _ C;refine mT1 C ?_;exact⟨v',L',F,rfl,RPost.pre b3 J,by unfold DoS;exact I⟩
 ·rw[if_neg k2];by_cases k3:s.k % 5=3
  ·rw[if_pos k3];refine sX C ?_;intro _ C;refine mCf C ?_;refine sX C ?_;intro _ C;refine mCt C ?_;refine sA C ?_;intro _ C;refine wV C (.int .i64 s.a) (hr:=sM hs.a) λC=> ?_
   refine sD C ?_;intro _ C;refine wY C (.agg (AK .i64 s.a::cs).toArray) (kx_stp C rfl rfl rfl (by simpa using hl)) λC=> ?_
   refine wC C (ah Tryz.func93 rfl rfl) (q_SetRP (p:=dw s.x s.u) (cs:=cs) h3 hn Y i3 p2 (kz _ _)) λ{e w4} G=> ?_
   obtain⟨v',L',F,rfl,J,I⟩:=G;refine⟨_,rfl,λ_ C=> ?_⟩;refine sZ C ?_;intro _ C;refine mT1 C ?_;exact⟨v',L',F,rfl,RPost.pre b3 J,by unfold DoS;exact I⟩
  ·rw[if_neg k3];by_cases k4:s.k % 5=4
   ·rw[if_pos k4];refine sX C ?_;intro _ C;refine mCf C ?_;refine sX C ?_;intro _ C;refine mCf C ?_;refine sX C ?_;intro _ C;refine mCt C ?_;refine sA C ?_;intro _ C;refine wC C (ah Tryz.func94 rfl rfl) (q_FixRP (p:=dw s.x s.u) (cs:=cs) h3 hn Y i3 p2 (kz _ _)) λ{e w4} G=> ?_
    obtain⟨v',L',F,rfl,J,I⟩:=G;refine⟨_,rfl,λ_ C=> ?_⟩;refine sZ C ?_;intro _ C;refine mT1 C ?_;exact⟨v',L',F,rfl,RPost.pre b3 J,by unfold DoS;exact I⟩
   ·rw[if_neg k4];refine sX C ?_;intro _ C;refine mCf C ?_;refine sX C ?_;intro _ C;refine mCf C ?_;refine sX C ?_;intro _ C;refine cB C ?_;refine sA C ?_;intro _ C;refine wV C (.int .i64 s.a) (hr:=sM hs.a) λC=> ?_
    refine wC C (ah Tryz.func95 rfl rfl) (q_AttachR h3 Y (cW s.c) (cW s.p) s.a (kv _ hs.c.1) (kv _ hs.p.1) hn) λ{e w4} G=> ?_
    obtain⟨v',L',F,rfl,J,I⟩:=G;refine⟨_,rfl,λ_ C=> ?_⟩;refine sZ C ?_;intro _ C;refine mT1 C ?_;exact⟨v',L',F,rfl,RPost.pre b3 J,by unfold DoS;exact I⟩
end
section
open Classical
structure PI(w0 w:World)(t m tb:Nat)(E:List Ch)(v:Value)(L:List Rl)(k:Nat):Prop where
 ti:TInv w0 w t m E
 rm:RM w tb v L
 own:∀g∈fpR tb v L,w0.heap.size<=g
 dj:∀g∈fpR tb v L,g∉fpT t m E
 sr:Sane (trR L)
 rq:REq (trE E) (trR L)
 le:L.length<=k
section
variable {w0 w w1 w2 w3:World} {t m tb k:Nat} {E E':List Ch} {v v':Value} {L L':List Rl} {R':Tr} {s:Ax} {e e':Int}
theorem PI.below(h:PI w0 w t m tb E v L k)(b:Bi w.heap.size w w1):PI w0 w1 t m tb E v L k:=⟨h.ti.below b,h.rm.below b,h.own,h.dj,h.sr,h.rq,h.le⟩
theorem TPost.rm(H:TM w t m E)(F:TPost w t m E w1 E')(G:RM w tb v L)(I:∀g∈fpR tb v L,g∉fpT t m E):RM w1 tb v L:=
 G.chg (X:=λg=>g∈fpT t m E) ⟨F.kp.size,λg C hn=>F.kp.block g C hn,λg C=>H.own g C⟩ I
theorem RPost.tm(G:RM w tb v L)(F:RPost w tb v L w1 v' L')(H:TM w t m E)(I:∀g∈fpT t m E,g∉fpR tb v L):TM w1 t m E:=
 H.chg (X:=λg=>g∈fpR tb v L) ⟨F.kp.size,λg C hn=>F.kp.block g C hn,λg C=>G.own g C⟩ I
theorem PI.step(h:PI w0 w t m tb E v L k)(J:TPost w t m E w1 E')(hr:REq (trE E') R')(V:DoS (trE E) s R' e)(h2:s.q.ok 2)(hb:Bi w1.heap.size w1 w2)(G:RPost w2 tb v L w3 v' L')(K:DoS (trR L) s (trR L') e'):
  e=e'/\PI w0 w3 t m tb E' v' L' (k+1)/\w.heap.size<=w3.heap.size:=by
 obtain⟨Y,Z⟩:=DoS.uniq h.ti.sane.ok h.sr.ok h.rq V K;have C:=(h.ti.next J hr V h2).below hb;have P:=(TPost.rm h.ti.tm J h.rm h.dj).below hb;have I:∀g∈fpT t m E',g∉fpR tb v L:=λg H F=>by
  rcases J.fp g H with h1 | h1
  ·exact h.dj g F h1
  ·have:=h.rm.lt g F;omega
 have U:=RPost.tm P G C.tm I;refine⟨Y,⟨⟨U,C.sane,C.own,⟨G.kp.os.trans C.bel.os,G.kp.tape.trans C.bel.tape,G.kp.output.trans C.bel.output,AD C.bel.size G.kp.size,λg H=>(G.kp.block g (Bt H C.bel.size) (λhm=>by have:=h.own g hm;omega)).trans (C.bel.block g H)⟩⟩,G.rm,
  λg H=>(G.fp g H).elim (h.own g) (λh1=>AD C.bel.size h1),λg H F=> ?_,K.sane h.sr h2,hr.trans Z,AD (by have:=K.len;rw[ug,ug]at this;exact this) (Nat.succ_le_succ h.le)⟩,AD J.kp.size (AD hb.size G.kp.size)⟩
 rcases G.fp g H with h1 | h1
 ·exact I g F h1
 ·have:=C.tm.lt g F;omega
end
theorem q_rNew(w:World):AC AB 37 #[] w λe w'=>e= .returned (.agg #[.slice none 0 0])/\mBw w w':=by
 go_enter Tryz.func37,Tryz.ntmps37
 go_wp2;refine A7 (results_cell_row rfl _ _ w.heap.size rrT #[.slice none 0 0] (0,0) _ rfl (Bm w _) Tryz.underlying81 rfl Aa) rfl ?_;exact⟨rfl,(AF _ _).alloc (AE _) _⟩
theorem RM.new{w2:World}{tb:Nat}(h:w2.heap[tb]? =some (.cells #[.slice none 0 0] rrT (0,0))):RM w2 tb (.slice none 0 0) []:=by
 refine⟨h,⟨[],⟨World.ownsRow_nil _ _ _ _,λg C=>(by cases C)⟩,rfl,λj q F=>(by cases F)⟩,λl hl=>(by cases hl),by simp[fpR,Cx],λg C=> ?_⟩;simp only[fpR,Cx,Option.toList_none,List.flatMap_nil,CP,AS,Dt,or_false]at C;subst C;refine bw.mk' h (λk n e=> ?_)
 cases k with
 | zero=>simp at e
 | succ k=>simp at e
end
section
open Classical
set_option maxHeartbeats 1000000 in
theorem q_grown29{w:World}{v0:Value}(H:List Stp)(au:∀s∈H,s.Ok)(k0:jX w v0 H)(hn:H.length<=20):AC AB 57 #[v0] w λe w'=>∃t m tb E v L,e= .returned (.tuple #[ptB t,ptB tb,.bool true])/\PI w w' t m tb E v L H.length:=by
 obtain⟨Z,c0,rfl,hr0⟩:=k0.row;go_enter Tryz.func57,Tryz.ntmps57
 refine bk 32 [(0,.slice Z H.length c0)] λC=> ?_
 refine sX C ?_;intro _ C;refine mDn ?_;refine bD ?_;refine wC C (ah Tryz.func31 rfl rfl) (q_New w) λ{e w1} Y=> ?_
 obtain⟨t,m,rfl,hT,h1,h2,h3⟩:=Y;have F:=TInv.new hT h1 h2 h3;clear hT h1 h2 h3;refine⟨_,rfl,λ_ C=> ?_⟩;refine sZ C ?_;intro _ C;refine mDn ?_;refine bD ?_;refine wC C (ah Tryz.func37 rfl rfl) (q_rNew w1) λ{e w2} Y=> ?_
 obtain⟨rfl,ad⟩:=Y;have F:=F.below ad;refine⟨_,rfl,λ_ C=> ?_⟩;refine vA C 1 λ{_ _ tb _} V hz C=> ?_
 refine vF (cs:=[.slice none 0 0]) V hz (by simp[Value.oneCell']) (λu hu n e=>by subst e;simp at hu) C (λ{_ w3} V _ C=> ?_) Aa;refine wln ?_;refine mUp ?_;have U:∀g∈fpR tb (.slice none 0 0) [],g=tb:=λg hg=>by simpa [fpR,Cx]using hg
 have ab:PI w w3 t m tb [] (.slice none 0 0) [] 0:=⟨F.below V.bel,RM.new V.blk,λg hg=>by rw[U g hg];exact AD F.bel.size V.ge,λg hg hm=>by have:=F.tm.lt g hm;have:=V.ge;have:=U g hg;omega,.nil,.refl _,AY _⟩;clear F U V ad;refine sX C ?_;intro _ C;refine eU (λa wr=>∃(k:Nat)(E:List Ch)(v:Value)(L:List Rl),Kn 32 [(0,.slice Z H.length c0),(5,ptB t),(6,ptB tb),(7,.int .i64 (k:Int))] a/\k<=H.length/\PI w wr t m tb E v L k) (λa _=>H.length - (intOf (a.tmps.getD 7 undef)).toNat) ⟨0,[],_,[],C.ct,AY _,ab⟩ (λa wr hI=> ?_);clear ab C;obtain⟨k,E,v,L,C,ap,G⟩:=hI;have aq:(intOf (a.tmps.getD 7 undef)).toNat=k:=by rw[C.gt 7];simp[intOf]
 rw[aq];rcases DD ap with ak | rfl
 ·obtain⟨s,hs⟩:∃s,H[k]? =some s:=⟨_,AJ ak⟩;obtain⟨b,o,rfl,hb,ar⟩:=hr0 k s hs;have J:=au s (A0 hs);have f1:LdB w 67 (.pointer (some ⟨b,o+(k:Int).toNat*6,none⟩)) s.val:=.row Tryz.underlying67 rfl Aa hb (by rw[Int.toNat_natCast];exact ar);have G:=G.below (AF _ _).drew;refine sX C ?_;intro _ C;refine lB C ?_;refine mDn ?_;refine wp_region_held_drew (S:=λw'=>mBw w w') Aa G.ti.bel (λI=> ?_);refine yK 0 C I λC=> ?_
  refine yK 1 C I λC=> ?_
  refine yK 2 C I λC=> ?_
  refine yK 3 C I λC=> ?_
  refine yK 4 C I λC=> ?_
  refine yK 6 C I λC=> ?_
  refine yK 7 C I λC=> ?_
  refine yK 8 C I λC=> ?_
  refine yK 9 C I λC=> ?_
  refine jU C (i:=5) Aa rfl rfl rfl it (gV C rfl rfl rfl (ah Tryz.func54 rfl rfl)) (q_do29 G.ti.tm G.ti.sane.ok J) (λe w4 Y=> ?_);obtain⟨E',R',av,rfl,P,ac,aa⟩:=Y;refine⟨_,rfl,(G.ti.next P ac aa (axOf_q J)).bel,λ_ C=> ?_⟩;refine jU C (i:=10) Aa rfl rfl rfl it (gV C rfl rfl rfl (ah Tryz.func119 rfl rfl)) (q_by29 (TPost.rm G.ti.tm P G.rm G.dj) G.sr.ok (by have:=G.le;omega) J) (λe w5 Y=> ?_);obtain⟨v',L',am,rfl,ao,an⟩:=Y;obtain⟨rfl,K,_⟩:=G.step P ac aa (axOf_q J) (AF _ _) ao an;refine⟨_,rfl,K.ti.bel,λ_ C=> ?_⟩;refine yV 11 C _ _ (λe=>by cases e;exact qx (r:=false) C rfl rfl rfl rfl) K.ti.bel λC=>wpAnyH_done Aa ?_ _
  refine mUp ?_;refine cB C ?_;refine sA C ?_;intro _ C;refine vN C ((k+1:Nat)) λC=> ?_
  refine sD C ?_;intro _ C;refine wln ?_;refine mUp ?_;refine⟨⟨k+1,E',v',L',C.ct,ak,K⟩,?_⟩;rw[C.gt 7];simp only[intOf];omega
 ·refine sX C ?_;intro _ C;refine mCf C ?_;refine mEx ?_;refine sA C ?_;intro _ C;refine wB C (.bool true) λC=> ?_
  refine sZ C ?_;intro _ C;refine mT3 C ?_;exact⟨t,m,tb,E,v,L,rfl,G⟩
end
section
open Go.ChangeShapes Go.WideShapes Go.ChangeAt Go.RowKit
structure Qry where
 a:Int
 b:Int
 c:Int
 t:Int
 o:Int
def Qry.cs(s:Qry):List Value:=[.int .u8 s.a,.int .u8 s.b,.int .u8 s.c,.int .i64 s.t,.int .i64 s.o]
abbrev Qry.val(s:Qry):Value:=.agg s.cs.toArray
structure Qry.Ok(s:Qry):Prop where
 a:0<=s.a/\s.a<256
 b:0<=s.b/\s.b<256
 c:0<=s.c/\s.c<256
 t: -9223372036854775808<=s.t/\s.t<9223372036854775808
 o: -9223372036854775808<=s.o/\s.o<9223372036854775808
section
variable {H:Type} {enc:TypeId×Value->H} {W:World}
theorem i64_wf{t:Int}(h:(Lit.int .i64 t).wf=true): -9223372036854775808<=t/\t<9223372036854775808:=by
 simp[Lit.wf,IntKind.min,IntKind.max,IntKind.wrap,IntKind.bits,IntKind.signed]at h;omega
theorem zW{v:Value}{d:DataW H}{p:List MemPlace}{base:Nat}(I:Value.okWide AB W .any base 94 v)(h:DataW.Trod enc AB W 0 (λ_=>true) true 94 v d p):∃s:Qry,s.Ok/\v=s.val:=by
 obtain⟨cs,rfl,C⟩:=okWide_struct Tryz.underlying94 I;have hc:AB.cellsOf 94=5:=Aa
 rw[hc]at C;obtain⟨l⟩:=cs;have hl:l.length=5:=by simpa using C
 obtain⟨aa,hf⟩:=h;have h8:AB.cellsOf 5=1:=Aa
 have J:AB.cellsOf 3=1:=Aa
 obtain⟨xs,n,_,hx,_,G,F⟩:=DataW.trod_struct Tryz.underlying94 hf
 match xs,G with
 | [y0,y1,y2,y3,y4],_=>
  have K:=F 0 _ rfl;have P:=F 1 _ rfl;have k2:=F 2 _ rfl;have k3:=F 3 _ rfl;have U:=F 4 _ rfl;simp[Value.cells,h8,J]at K P k2 k3 U
  match l,hl with
  | [u0,u1,u2,u3,u4],_=>
   simp at K P k2 k3 U;obtain⟨t0,V,f0⟩:=Dn Dm K;obtain⟨t1,Y,f1⟩:=Dn Dm P;obtain⟨t2,Z,f2⟩:=Dn Dm k2;obtain⟨t3,e3,f3⟩:=Dn Dj k3;obtain⟨t4,e4,f4⟩:=Dn Dj U;simp at V Y Z e3 e4;subst V Y Z e3 e4;exact⟨⟨t0,t1,t2,t3,t4⟩,⟨qz f0.2,qz f1.2,qz f2.2,i64_wf f3.2,i64_wf f4.2⟩,rfl⟩
end
end
section
variable {p q:Qq} {x y v u:Vq} {a b c:Pq}
theorem conj_m(a:QR)(h:a.nrm≠0):Sim QR.one (a.conj.mul a):=⟨a.nrm,h,by unfold QR.mul QR.conj QR.one QR.smul QR.nrm;ext<;>simp only<;>grind⟩
theorem g_inv'(h:q.good):q.inv.mul q=Qq.id:=by
 refine vL (fo (aS h) h) oZ ?_;have h1:=(aaD (aS h) h).symm.trans (((aaE h).symm).mul (Sim.refl q.r));rw[id_r];exact h1.trans (conj_m q.r (fm h)).symm
end
section
open Classical
def sh(x y z:Int):Pq:=⟨Qq.id,Vq.of x y z⟩
theorem mY(x y z:Int):(sh x y z).good:=⟨oZ,Vq.good.of x y z⟩
theorem sh_cv(x y z:Int):(sh x y z).rot.comp/\(sh x y z).pos.good:=⟨(mY x y z).rot.comp,(mY x y z).pos⟩
theorem kR{x y z:Int}(C: -1000000<=x/\x<=1000000)(hy: -1000000<=y/\y<=1000000)(hz: -1000000<=z/\z<=1000000):(sh x y z).ok 2:=
 ⟨sa,⟨aL _ no no,aL _ no no,aL _ no no⟩⟩
theorem xt{S:List St}{a:Int}{p:Pq}(g:p.good):fP S ⟨a,p⟩=oP S ⟨a,p⟩:=sF (s:=⟨a,p⟩) g
abbrev nC:Nm:=nm1 99
abbrev nX:Nm:=nm1 120
theorem nAC:nA≠nC:=ol it
theorem nBC:nB≠nC:=ol it
theorem nAX:nA≠nX:=ol it
theorem nBX:nB≠nX:=ol it
theorem nCX:nC≠nX:=ol it
theorem iC:bY nC:=aaR (.inl ⟨it,it⟩)
abbrev awS:List St:=[⟨0,sh 1 0 0⟩,⟨10,sh 3 0 0⟩]
abbrev awB:Lk:=⟨nA,0, -1,false,Pq.zero,awS⟩
abbrev awC:Lk:=⟨nA,5, -1,true,sh 0 1 0,[]⟩
variable{R R':Tr}{e:Int}
theorem aw_u1(F:REq R [])(d:AttS bY R nB nA 0 R' e):e=0/\REq R' [(nB,bG nA 0)]:=by
 have k:AttS bY [] nB nA 0 (jx [] nB nA 0) 0:=.ok ⟨iB,iA⟩ it it (λi q h=>Ao) (λx h=>by cases h) 2 ⟨[nB,nA],by simp[nAB.symm],λx=>by
  have:¬aC [] x:=λ⟨q,C,_⟩=>by cases C
  simp[this],rfl⟩ ⟨it,it⟩ (λh=>by
  rcases h with h | ⟨q,C,_⟩
  ·cases h with
   | step h _=>obtain⟨q,C,_⟩:=jh h;cases C
  ·cases C)
 exact d.uniq F k
theorem aw_t1{a:Int}{x:Nm}(h:par [(nB,bG nA 0)] a x≠none):x=nB:=by
 cases hp:par [(nB,bG nA 0)] a x with
 | none=>exact absurd hp h
 | some y=>
  obtain⟨q,C,_,_⟩:=jh hp;simp only[BD]at C;exact congrArg Prod.fst C
theorem aw_u2(F:REq R [(nB,bG nA 0)])(d:AttS bY R nC nA 5 R' e):e=0/\REq R' [(nB,bG nA 0),(nC,bG nA 5)]:=by
 have hl:lks [(nB,bG nA 0)] nC=[]:=by rw[d8,if_neg nBC,kk]
 have k:AttS bY [(nB,bG nA 0)] nC nA 5 (jx [(nB,bG nA 0)] nC nA 5) 0:=.ok ⟨iC,iA⟩ it it (λi q h k=>by
   have:=A0 h;simp only[BD]at this;subst this;exact nBC k.1) (λx h=>by rw[hl]at h;cases h) 3 ⟨[nC,nB,nA],by simp[nAB.symm,nAC.symm,nBC.symm],λx=>by
  have:aC [(nB,bG nA 0)] x↔x=nB\/x=nA:=⟨λ⟨q,C,h⟩=>by
   simp only[BD]at C;subst C;rcases h with h | h
   ·exact .inl h.symm
   ·exact .inr h.symm,λh=>⟨_,BD.2 rfl,by rcases h with rfl | rfl;exact .inl rfl;exact .inr rfl⟩⟩
  show _↔aC [(nB,bG nA 0)] x\/x=nC\/x=nA;rw[this];simp only[AS,Dt,or_false];constructor
  ·rintro(h | h | h)
   ·exact .inr (.inl h)
   ·exact .inl (.inl h)
   ·exact .inr (.inr h)
  ·rintro((h | h) | h | h)
   ·exact .inr (.inl h)
   ·exact .inr (.inr h)
   ·exact .inl h
   ·exact .inr (.inr h),rfl⟩ ⟨it,by rw[hl];decide⟩ (λh=>by
  rcases h with h | ⟨q,C,h,_⟩
  ·cases h with
   | step h _=>exact nAB (aw_t1 (by rw[h];simp))
  ·simp only[BD]at C;subst C;exact absurd h it)
 exact d.uniq F k
theorem aw_u3(F:TOk R)(C:REq R [(nB,bG nA 0),(nC,bG nA 5)])(d:FixS (decide (sh 0 1 0).good) (sh 0 1 0) R nC R' e):e=0/\REq R' [(nB,bG nA 0),(nC,awC)]:=by
 have k:FixS (decide (sh 0 1 0).good) (sh 0 1 0) [(nB,bG nA 0),(nC,bG nA 5)] nC ([(nB,bG nA 0)]++(nC,{bG nA 5 with st:=true,po:=sh 0 1 0})::[]) 0:=
  .ok (A:=[(nB,bG nA 0)]) (B:=[]) rfl rfl rfl rfl (decide_eq_true (mY _ _ _))
 exact d.uniq F (F.of_req C) C k
theorem lk_b{x y:Lk}:lks [(nB,x),(nC,y)] nB=[x]:=by rw[d8,if_pos rfl,d8,if_neg (λe=>nBC e.symm),kk]
theorem lk_c{x y:Lk}:lks [(nB,x),(nC,y)] nC=[y]:=by rw[d8,if_neg nBC,d8,if_pos rfl,kk]
theorem aw_u4(F:TOk R)(C:REq R [(nB,bG nA 0),(nC,awC)])(d:SetS (kI 0 (sh 1 0 0)) R nB 0 R' e):e=0/\REq R' [(nB,{bG nA 0 with tr:=[⟨0,sh 1 0 0⟩]}),(nC,awC)]:=by
 have ha:kI 0 (sh 1 0 0) (bG nA 0).tr=([⟨0,sh 1 0 0⟩],0):=by
  rw[show kI 0 (sh 1 0 0) (bG nA 0).tr=fP [] ⟨0,(sh 1 0 0)⟩from rfl,xt (mY _ _ _)];unfold oP;simp[fC,plN]
 have k:SetS (kI 0 (sh 1 0 0)) [(nB,bG nA 0),(nC,awC)] nB 0 ([]++(nB,{bG nA 0 with tr:=(kI 0 (sh 1 0 0) (bG nA 0).tr).1})::[(nC,awC)]) (kI 0 (sh 1 0 0) (bG nA 0).tr).2:=
  .ok (A:=[]) (B:=[(nC,awC)]) rfl (by unfold tAt;rw[lk_b];rfl) rfl
 rw[ha]at k;exact d.uniq F C k
theorem aw_u5(I:TOk R)(G:REq R [(nB,{bG nA 0 with tr:=[⟨0,sh 1 0 0⟩]}),(nC,awC)])(d:SetS (kI 10 (sh 3 0 0)) R nB 10 R' e):e=0/\REq R' [(nB,awB),(nC,awC)]:=by
 have C:¬opp (sh 1 0 0) (sh 3 0 0):=by
  unfold opp;have F:(sh 1 0 0).rot.inv.mul (sh 3 0 0).rot=Qq.id:=g_inv' oZ;rw[F];decide
 have ha:kI 10 (sh 3 0 0) [⟨0,sh 1 0 0⟩]=(awS,0):=by
  rw[show kI 10 (sh 3 0 0) [⟨0,sh 1 0 0⟩]=fP [⟨0,sh 1 0 0⟩] ⟨10,(sh 3 0 0)⟩from rfl,xt (mY _ _ _)];unfold oP;simp[fC,plN,C]
 have k:SetS (kI 10 (sh 3 0 0)) [(nB,{bG nA 0 with tr:=[⟨0,sh 1 0 0⟩]}),(nC,awC)] nB 10 ([]++(nB,{bG nA 0 with tr:=(kI 10 (sh 3 0 0) [⟨0,sh 1 0 0⟩]).1})::[(nC,awC)]) (kI 10 (sh 3 0 0) [⟨0,sh 1 0 0⟩]).2:=
  .ok (A:=[]) (B:=[(nC,awC)]) (x:= {bG nA 0 with tr:=[⟨0,sh 1 0 0⟩]}) rfl (by unfold tAt;rw[lk_b];rfl) rfl
 rw[ha]at k;exact d.uniq I G k
end
section
open Classical
section
variable {R:Tr} {a:Int} (hR:REq R [(nB,awB),(nC,awC)])
include hR
theorem aw_lb:lks R nB=[awB]:=by rw[hR nB,lk_b]
theorem aw_lc:lks R nC=[awC]:=by rw[hR nC,lk_c]
theorem mZ{q:Nm×Lk}:q∈R↔q=(nB,awB)\/q=(nC,awC):=by rw[hR.mem];simp
theorem aw_tb(h:0<=a):tAt R nB a=some awB:=by
 have:awB.has a=true:=de.2 ⟨h,.inl rfl⟩;unfold tAt;rw[aw_lb hR];simp only[Ed,this]
theorem aw_tc(h:5<=a):tAt R nC a=some awC:=by
 have:awC.has a=true:=de.2 ⟨h,.inl rfl⟩;unfold tAt;rw[aw_lc hR];simp only[Ed,this]
theorem aw_tc0(h:a<5):tAt R nC a=none:=by
 have:awC.has a=false:=Bool.eq_false_iff.2 (λe=>by have:=(de.1 e).1;simp only at this;omega);unfold tAt;rw[aw_lc hR];simp only[Ed,this]
theorem aw_pb(h:0<=a):par R a nB=some nA:=by unfold par;rw[aw_tb hR h];rfl
theorem aw_pc(h:5<=a):par R a nC=some nA:=by unfold par;rw[aw_tc hR h];rfl
theorem aw_pc0(h:a<5):par R a nC=none:=by unfold par;rw[aw_tc0 hR h];rfl
theorem aw_pa:par R a nA=none:=by
 cases hp:par R a nA with
 | none=>rfl
 | some y=>
  obtain⟨q,C,_,_⟩:=jh hp;rcases(mZ hR).1 C with e | e
  ·exact absurd (congrArg Prod.fst e) nAB
  ·exact absurd (congrArg Prod.fst e) nAC
theorem abe:aC R nA:=⟨_,(mZ hR).2 (.inl rfl),.inr rfl⟩
theorem xu:aC R nB:=⟨_,(mZ hR).2 (.inl rfl),.inl rfl⟩
theorem xv:aC R nC:=⟨_,(mZ hR).2 (.inr rfl),.inl rfl⟩
theorem aw_kx:¬aC R nX:=λ⟨q,C,h⟩=>by
 rcases(mZ hR).1 C with e | e<;>subst e
 ·rcases h with h | h
  ·exact nBX h
  ·exact nAX h
 ·rcases h with h | h
  ·exact nCX h
  ·exact nAX h
theorem abf:bf R a nA=[nA]:=gW (.root (aw_pa hR))
theorem xw(h:0<=a):bf R a nB=[nB,nA]:=gW (.step (aw_pb hR h) (.root (aw_pa hR)))
theorem aw_ac(h:5<=a):bf R a nC=[nC,nA]:=gW (.step (aw_pc hR h) (.root (aw_pa hR)))
theorem aw_ac0(h:a<5):bf R a nC=[nC]:=gW (.root (aw_pc0 hR h))
theorem aw_eb(h:0<=a):bv R nB a=trkP awS a:=by unfold bv;rw[aw_tb hR h];rfl
theorem aw_ec(h:5<=a):bv R nC a=(sh 0 1 0,0):=by unfold bv;rw[aw_tc hR h];rfl
theorem qM(h:5<=a):aF R a nB nC=(nA,0):=by
 unfold aF;rw[if_pos ⟨xu hR,xv hR⟩,xw hR no,aw_ac hR h];simp[fv,nBC,nAB.symm]
theorem aw_mba(h:0<=a):aF R a nB nA=(nA,0):=by
 unfold aF;rw[if_pos ⟨xu hR,abe hR⟩,xw hR h,abf hR];simp[fv,nAB.symm]
theorem aw_mab(h:0<=a):aF R a nA nB=(nA,0):=by
 unfold aF;rw[if_pos ⟨abe hR,xu hR⟩,xw hR h,abf hR];simp[fv]
theorem aw_mca(h:5<=a):aF R a nC nA=(nA,0):=by
 unfold aF;rw[if_pos ⟨xv hR,abe hR⟩,aw_ac hR h,abf hR];simp[fv,nAC.symm]
theorem aw_mbc0(h:0<=a)(C:a<5):aF R a nB nC=(BW,18):=by
 unfold aF;rw[if_pos ⟨xu hR,xv hR⟩,xw hR h,aw_ac0 hR C];simp[fv,nBC,nAC]
theorem aw_ba(h:0<=a):a8 (bf R a nB) nA=[nB]:=by rw[xw hR h];simp[a8,nAB.symm]
theorem aw_ca(h:5<=a):a8 (bf R a nC) nA=[nC]:=by rw[aw_ac hR h];simp[a8,nAC.symm]
theorem aw_na:a8 (bf R a nA) nA=[]:=by rw[abf hR];simp[a8]
theorem aw_uc(h:5<=a):upP R a nC nA=((sh 0 1 0).mul Pq.id,0):=by
 unfold upP;rw[aw_ca hR h];unfold el;rw[aw_ec hR h,if_pos rfl];rfl
theorem aw_ua:upP R a nA nA=(Pq.id,0):=by unfold upP;rw[aw_na hR];rfl
theorem abg{p:Pq}(h:0<=a)(k:trkP awS a=(p,0)):upP R a nB nA=(p.mul Pq.id,0):=by
 unfold upP;rw[aw_ba hR h];unfold el;rw[aw_eb hR h,k,if_pos rfl];rfl
theorem aw_ub0{p:Pq}{c:Int}(h:0<=a)(k:trkP awS a=(p,c))(hc:c≠0):upP R a nB nA=(Pq.zero,c):=by
 unfold upP;rw[aw_ba hR h];unfold el;rw[aw_eb hR h,k,if_neg hc]
end
theorem aw_k0:trkP awS 0=(sh 1 0 0,0):=by simp[trkP,plN]
theorem aw_k10:trkP awS 10=(sh 3 0 0,0):=by simp[trkP,plN]
theorem aw_k5:trkP awS 5=(sh 2 0 0,0):=by
 have e:atP ⟨0,sh 1 0 0⟩ ⟨10,sh 3 0 0⟩ 0 5=sh 2 0 0:=by
  rw[atP_m it];kernel_rfl
 simp[trkP,plN,e]
theorem aw_kl{a:Int}(h:10<a):trkP awS a=(Pq.zero,17):=by
 unfold trkP;simp only[Ec,Bg,Dk];rw[show(0+1+1 - 1:Nat)=1 from rfl,show awS[1]? =some ⟨10,sh 3 0 0⟩from rfl];simp only;rw[if_pos (.inr h)]
section
variable {R:Tr} (hR:REq R [(nB,awB),(nC,awC)])
include hR
theorem aw_f1:aP R 5 nC nB=(sh 2 (-1) 0,0):=by
 rw[j3 (qM hR it) (abg hR it aw_k5) (aw_uc hR it)];rw[show((sh 0 1 0).mul Pq.id).inv.mul ((sh 2 0 0).mul Pq.id)=sh 2 (-1) 0 by kernel_rfl]
theorem aw_f2:aP R 11 nA nB=(Pq.zero,17):=xi (aw_mba hR it) (aw_ub0 hR it (aw_kl it) it) it
theorem aw_f3:aP R 4 nC nB=(Pq.zero,18):=xh (aw_mbc0 hR it it) it
theorem aw_f4(a:Int):aP R a nX nB=(Pq.zero,6):=xh (x:=BW) (by unfold aF;rw[if_neg (λh=>aw_kx hR h.2)]) it
theorem aw_f5:(aP R 10 nC nB).2=0:=by rw[j3 (qM hR it) (abg hR it aw_k10) (aw_uc hR it)]
theorem aw_f6:(aP R bC nC nB).2=17:=by rw[xi (qM hR it) (aw_ub0 hR it (aw_kl it) it) it]
theorem aw_f7:(aP R bC nA nC).2=0:=by rw[j3 (aw_mca hR it) (aw_uc hR it) (aw_ua hR)]
theorem aw_f8:acrP R nB 10 nB 0 nA=(sh (-2) 0 0,0):=by
 have h1:aP R 0 nA nB=(Pq.id.inv.mul ((sh 1 0 0).mul Pq.id),0):=j3 (aw_mba hR it) (abg hR it aw_k0) (aw_ua hR);have h2:aP R 10 nB nA=(((sh 3 0 0).mul Pq.id).inv.mul Pq.id,0):=j3 (aw_mab hR it) (aw_ua hR) (abg hR it aw_k10);unfold acrP;rw[h1,h2,if_neg Ad,if_neg Ad];rw[show(((sh 3 0 0).mul Pq.id).inv.mul Pq.id).mul (Pq.id.inv.mul ((sh 1 0 0).mul Pq.id))=sh (-2) 0 0 by kernel_rfl]
theorem zX(x:Int):mU R x↔x=bC\/x= -1\/x=10\/x=4:=by
 have C:ei R nB 0=(0,10,true):=by unfold ei;rw[aw_tb hR it];rfl
 have G:ei R nC 5=(5,bC,true):=by unfold ei;rw[aw_tc hR it];rfl
 unfold mU;constructor
 ·rintro(h | ⟨q,F,h⟩)
  ·exact .inl h
  ·rcases(mZ hR).1 F with rfl | rfl
   ·simp only[C]at h;rcases h with⟨h,_⟩ | h | ⟨_,h⟩
    ·exact absurd h it
    ·exact .inr (.inl h)
    ·exact .inr (.inr (.inl h))
   ·simp only[G]at h;rcases h with⟨h,_⟩ | h | ⟨_,h⟩
    ·exact absurd h it
    ·exact .inr (.inr (.inr h))
    ·exact .inl h
 ·rintro(h | h | h | h)
  ·exact .inl h
  ·exact .inr ⟨_,(mZ hR).2 (.inl rfl),.inr (.inl h)⟩
  ·exact .inr ⟨_,(mZ hR).2 (.inl rfl),.inr (.inr (by simp only[C];exact⟨trivial,h⟩))⟩
  ·exact .inr ⟨_,(mZ hR).2 (.inr rfl),.inr (.inl h)⟩
theorem aw_lat1{n e:Int}(h:q9 R nC nB n e):n=10/\e=0:=by
 have C:mU R 10:=(zX hR 10).2 (.inr (.inr (.inl rfl)));rcases h with⟨h,_⟩ | ⟨_,⟨F,h0,h1,h2,h3⟩ | ⟨_,_,h3⟩⟩
 ·exact absurd ⟨xu hR,xv hR⟩ h
 ·have G:=h3 10 C it (aw_f5 hR);rcases(zX hR n).1 h1 with rfl | rfl | rfl | rfl
  ·rw[aw_f6 hR]at h2;cases h2
  ·omega
  ·exact⟨rfl,F⟩
  ·omega
 ·exact absurd (aw_f5 hR) (h3 10 C it)
theorem aw_lat2{n e:Int}(h:q9 R nA nC n e):n=1099511627776/\e=0:=by
 have mx:mU R bC:=.inl rfl;rcases h with⟨h,_⟩ | ⟨_,⟨F,h0,h1,h2,h3⟩ | ⟨_,_,h3⟩⟩
 ·exact absurd ⟨xv hR,abe hR⟩ h
 ·have C:=h3 bC mx it (aw_f7 hR);refine⟨?_,F⟩;unfold bC at C;rcases(zX hR n).1 h1 with rfl | rfl | rfl | rfl
  ·rfl
  ·omega
  ·omega
  ·omega
 ·exact absurd (aw_f7 hR) (h3 bC mx it)
theorem aw_path:qC R 5 nB nC=[nB,nA,nC]:=by
 unfold qC;rw[qM hR it,aw_ba hR it,aw_ca hR it];rfl
end
end
def xq_rOfKX(x y z:Int):List Fq:=[(Fq.ofInt x),(Fq.ofInt y),(Fq.ofInt z)]
variable{w:World}
theorem q_rOfK(x y z:Int)(C: -100000<=x/\x<=100000)(hy: -100000<=y/\y<=100000)(hz: -100000<=z/\z<=100000):
  AC AB 64 #[.int .i64 x,.int .i64 y,.int .i64 z] w λe w'=>dt w (Vq.of x y z) e w':=by
 exact(cR1 (xq_rOfKX x y z) [.val (.int .i64 x),.val (.int .i64 y),.val (.int .i64 z)] [.one (.ref 9),.one (.ref 10),.one (.ref 11)] [.int .i64 x,.int .i64 y,.int .i64 z] (.v (row [0,1,2])) (il3 (jj 0 x (iJ 9 rfl) rfl no no) (jj 1 y (iJ 10 rfl) rfl no no) (jj 2 z (iJ 11 rfl) rfl no no)) az Tryz.func64 ⟨bx 9 rfl (cZ it),⟨bx 10 rfl (cZ it),⟨bx 11 rfl (cZ it),trivial⟩⟩⟩).mono (mMo λh=>rV1 h)
theorem I_rOfK(kr:List Nat){xs:List Fq}{ys:Rho}{l l' F:Leaf}{x y z:Int}(h1:KI (frs xs++ys) l .i64 x)(h2:KI (frs xs++ys) l' .i64 y)(h3:KI (frs xs++ys) F .i64 z)(G:AtL xs kr (Vq.of x y z).cs)(U: -100000<=x/\x<=100000)(hy: -100000<=y/\y<=100000)(hz: -100000<=z/\z<=100000):OkI xs ys ⟨64,[.one l,.one l',.one F],.v (row kr)⟩:=
 ⟨ah Tryz.func64 rfl rfl,λB w vs V C=>by
  match vs,C with
  | [v0,v1,v2],C=>
   have I:=h1 _ _ _ C.1;have J:=h2 _ _ _ C.2.1;have K:=h3 _ _ _ C.2.2.1;subst I;subst J;subst K;refine(q_rOfK x y z U hy hz).mono ?_;rintro e w' ⟨v,rfl,h3,P⟩;exact⟨v,rfl,(af G).2 h3,P⟩⟩
def xq_shiftX(x y z:Int):List Fq:=(Pq.id.cs++([(Vq.of x y z).x,(Vq.of x y z).y,(Vq.of x y z).z]))
theorem pf(x y z:Int)(C: -100000<=x/\x<=100000)(hy: -100000<=y/\y<=100000)(hz: -100000<=z/\z<=100000):
  AC AB 114 #[.int .i64 x,.int .i64 y,.int .i64 z] w λe w'=>jt w (sh x y z) e w':=by
 refine(cR1 (xq_shiftX x y z) [.val (.int .i64 x),.val (.int .i64 y),.val (.int .i64 z)] [.one (.ref 30),.one (.ref 31),.one (.ref 32)] [.int .i64 x,.int .i64 y,.int .i64 z] (.v (row [0,1,2,3,7,8,9])) (il2 (zf [0,1,2,3,4,5,6] Ae) (I_rOfK [7,8,9] (iJ 30 rfl) (iJ 31 rfl) (iJ 32 rfl) Ac C hy hz)) az Tryz.func114 ⟨bx 30 rfl (cZ it),⟨bx 31 rfl (cZ it),⟨bx 32 rfl (cZ it),trivial⟩⟩⟩).mono ?_;rintro e w' ⟨v,rfl,h1,h2⟩;exact⟨v,rfl,rO1 h1,h2⟩
section
variable {p:AW} {ρ:Rho} {w0:Ent} {nt:Nat} {C:List Inst} {L:List OIns} {ops:Array Oper} {a:Act} {w:World}
theorem reg_bool{s:MS}{id:Nat}{F:Bool}{Q:Exit->Act->World->Prop}{x:Nat}(Y:x<100000)(J:∀i∈C,i.Ok0 p ρ w0)(K:∀i∈L,i.OkE w0 p ρ)(U:p.follows .mixedOrders=true)
  (h:(regX p C L nt ops s).bind (λG=>bJ G x)=some (.v (.one (.b true))))(hs:MSt ρ w0 nt s a w)(P:∀a' w',a'.tmps.getD x undef= .bool true->a'.defers=[]->w0.kept w'->Q .normal a' w'):(Code.region id ops F).wp p Q a w:=by
 cases hr:regX p C L nt ops s with
 | none=>rw[hr]at h;cases h
 | some G=>
  rw[hr]at h;have h:bJ G x=some (.v (.one (.b true))):=h;refine pG J K U hr hs (λa' w' ⟨B,hi,V,_⟩=>P a' w' ?_ hi.dfr hi.below);have h2:=V x _ h;unfold bN at h2;rw[if_pos Y]at h2;obtain⟨u,h3,I⟩:=h2;have e:u= .bool true:=I;subst e;simp[h3]
def lE(ρ:Rho)(B:Blk)(w:World):List (Option AV)->List Value->Prop
 | [],_=>True
 | none::r,_::vs=>lE ρ B w r vs
 | some c::r,v::vs=>c.holds ρ B w v/\lE ρ B w r vs
 | _,_=>False
theorem lE.get{B:Blk}:∀ {k:List (Option AV)} {vs:List Value},lE ρ B w k vs->∀ {x:Nat} {c:AV},k[x]? =some (some c)->∃u,vs[x]? =some u/\c.holds ρ B w u
 | [],_,_,x,c,F=>by cases F
 | none::r,v::vs,h,0,c,F=>by injection F with F;cases F
 | none::r,v::vs,h,x+1,c,F=>lE.get (k:=r) (vs:=vs) h (x:=x) F
 | some c'::r,v::vs,h,0,c,F=>by injection F with F;injection F with F;subst F;exact⟨v,rfl,h.1⟩
 | some c'::r,v::vs,h,x+1,c,F=>lE.get (k:=r) (vs:=vs) h.2 (x:=x) F
def rf(b0 b1:Nat):Blk:=⟨λx=>if x=0 then some b0 else if x=1 then some b1 else none,λ_ _=>False⟩
theorem blk2_has{b0 b1 g:Nat}(h:(rf b0 b1).has g):g=b0\/g=b1:=by
 rcases h with⟨x,h⟩ | ⟨k,h⟩
 ·simp only[rf]at h;split at h
  ·injection h with h;exact .inl h.symm
  ·split at h
   ·injection h with h;exact .inr h.symm
   ·cases h
 ·exact h.elim
theorem aD.at{B:Blk}:∀ {ls:List Leaf} {vs:List Value},aD ρ B w ls vs->∀ {j:Nat} {l:Leaf},ls[j]? =some l->∃u,vs[j]? =some u/\l.holds ρ B w u
 | [],[],_,j,l,F=>by cases F
 | l'::ls,v::vs,h,0,l,F=>by injection F with F;subst F;exact⟨v,rfl,h.1⟩
 | l'::ls,v::vs,h,j+1,l,F=>aD.at (ls:=ls) (vs:=vs) h.2 (j:=j) F
theorem mst_two{we:World}{T:TypeId}{b0 b1:Nat}{J K:List Value}{l0 l1:List Leaf}{known:List (Option AV)}{ts:List Value}(aa:b0≠b1)(hb:Bi we.heap.size we w)(g0:we.heap.size<=b0)(g1:we.heap.size<=b1)
  (h0:w.heap[b0]? =some (.cells J.toArray T (0,0)))(h1:w.heap[b1]? =some (.cells K.toArray T (0,0)))(n0:∀u∈J,noU u)(n1:∀u∈K,noU u)(Z:aD ρ (rf b0 b1) w l0 J)(k1:aD ρ (rf b0 b1) w l1 K)
  (P:lE ρ (rf b0 b1) w known ts)(hn:ts.length=nt):MSt ρ (Ent.of we) nt ⟨known++DW (nt - known.length) none,[(T,l0.map some),(T,l1.map some)]⟩ ⟨ts.toArray,[]⟩ w:=by
 have q0:=Z.len;have q1:=k1.len;refine⟨rf b0 b1,⟨λv g G=> ?_,λk g h=>h.elim,⟨λx y g F hy=> ?_,λk l g h=>h.elim,λx k g F h=>h⟩,⟨hb.os,hb.tape,hb.output,hb.size,λk P _=>hb.block k P⟩,by simpa using hn,rfl,λx g h=>by simp[Ent.of]at h⟩,λx c F=> ?_,λv G=> ?_⟩
 ·simp only[rf]at G;split at G
  ·rename_i e;subst e;injection G with G;subst G;refine⟨.inl g0,J.toArray,T,by simp[d6,q0],h0,λk n P=> ?_⟩;have:=A0 (show J[k]? =some (.int .u32 n)by simpa using P);exact n0 _ this n rfl
  ·split at G
   ·rename_i e;subst e;injection G with G;subst G;refine⟨.inl g1,K.toArray,T,by simp[d6,q1],h1,λk n P=> ?_⟩;have:=A0 (show K[k]? =some (.int .u32 n)by simpa using P);exact n1 _ this n rfl
   ·cases G
 ·simp only[rf]at F hy;split at F
  ·injection F with F;split at hy
   ·omega
   ·split at hy
    ·injection hy with hy;omega
    ·cases hy
  ·split at F
   ·injection F with F;split at hy
    ·injection hy with hy;omega
    ·split at hy
     ·omega
     ·cases hy
   ·cases F
 ·unfold bJ at F;split at F
  ·rename_i U;unfold bN;rw[if_pos U];simp only at F;have I:(known++DW (nt - known.length) none)[x]? =some (some c):=by
    cases hq:(known++DW (nt - known.length) none)[x]? with
    | none=>rw[hq]at F;cases F
    | some o=>rw[hq]at F;simp only at F;rw[F]
   have Y:known[x]? =some (some c):=by
    by_cases hl:x<known.length
    ·rwa [Bz hl]at I
    ·rw[List.getElem?_append_right no,List.getElem?_replicate]at I;split at I
     ·injection I with I;cases I
     ·cases I
   obtain⟨u,h3,V⟩:=P.get Y;exact⟨u,by simpa using h3,V⟩
  ·rename_i U;unfold bN;rw[if_neg U]
   match hq:x / 100000 - 1,F with
   | 0,F=>
    simp only[Ec,Bp]at F
    cases hl:l0[x % 100000]? with
    | none=>rw[hl]at F;cases F
    | some l=>
     rw[hl]at F;simp only[BG,A3.injEq]at F;subst F;obtain⟨u,h3,V⟩:=Z.at hl;exact⟨b0,J.toArray,T,u,rfl,h0,by simpa using h3,V⟩
   | 1,F=>
    simp only[List.getElem?_cons_succ,Ec,Bp]at F
    cases hl:l1[x % 100000]? with
    | none=>rw[hl]at F;cases F
    | some l=>
     rw[hl]at F;simp only[BG,A3.injEq]at F;subst F;obtain⟨u,h3,V⟩:=k1.at hl;exact⟨b1,K.toArray,T,u,rfl,h1,by simpa using h3,V⟩
   | n+2,F=>simp at F
 ·simp only[rf]at G;show v<2;split at G
  ·omega
  ·split at G
   ·omega
   ·exact absurd rfl G
end
theorem abh{xs:List Fq}{ys:Rho}{kr:List Nat}(x y z:Int)(G:AtL xs kr (sh x y z).cs)(U: -100000<=x/\x<=100000)(hy: -100000<=y/\y<=100000)(hz: -100000<=z/\z<=100000):OkI xs ys ⟨114,[.one (.i .i64 x),.one (.i .i64 y),.one (.i .i64 z)],.v (row kr)⟩:=
 ⟨ah Tryz.func114 rfl rfl,λB w vs V F=>by
  match vs,F with
  | [v0,v1,v2],F=>
   have I:v0= .int .i64 x:=F.1;have J:v1= .int .i64 y:=F.2.1;have K:v2= .int .i64 z:=F.2.2.1;subst I;subst J;subst K;refine(pf x y z U hy hz).mono ?_;rintro e w' ⟨v,rfl,h3,P⟩;exact⟨v,rfl,(af G).2 h3,P⟩⟩
variable{ρ:Rho}
theorem I_names(L:List Nm)(n:Nat)(hn:ρ[n]? =some (.row 9 L.length (nmQ L)))(I:L.length<=1000):Inst.Ok AB ρ ⟨62,[.one (.ref n),.one (.ref n)],.v (.one (.b true))⟩:=
 ⟨ah Tryz.func62 rfl rfl,λB w vs K F=>by
  match vs,F with
  | [v0,v1],F=>
   obtain⟨s,G,k2,_⟩:=F.1;obtain⟨P,k3,J,_⟩:=F.2.1;rw[hn]at G k3;injection G with G;injection k3 with k3;subst G;subst k3;refine(q_names2 (aa9 k2) (aa9 J) I I).mono ?_;rintro e w' ⟨rfl,hb⟩;exact⟨_,rfl,by simp[AV.holds,SV.holds,Leaf.holds],hb⟩⟩
theorem ql_s(c:Nm):∀B w x,(Leaf.s c).holds ρ B w x->(Vp.val (.string c)).p w x/\∀g,¬(Vp.val (.string c)).fp w x g:=λ_ _ _ h=>⟨⟨h,by have h:_=_:=h;subst h;exact gi⟩,λ_ h=>h⟩
theorem o_bs3(m:Nat)(a b c:Nm)(F:ρ[m]? =some (.row 9 3 (nmQ [a,b,c]))):(OIns.mk (.bs 68 3 [0,1,2]) [.one (.s a),.one (.s b),.one (.s c)] (.one (.ref m))).Ok AB ρ:=
 yj 3 m 1 [0,1,2] [.s a,.s b,.s c] [.s ⟨#[]⟩] (nmQ [a,b,c]) [.one (.s a),.one (.s b),.one (.s c)] DE Aa Aa it it it rfl rfl ⟨ql_s a,ql_s b,ql_s c,trivial⟩ F
section
open Go.RowKit Go.Shelf
open Classical
attribute [local go_sem] Oper.semAt_some
section
variable {n:Nat} {P:AW} {ops:Array Oper} {rest:List Oper} {op:Oper} {a:Act} {w w':World} {v:Value} {Q:Exit->Act->World->Prop}
theorem bP(F:op.guard=none)(hr:(execOp a.eval op).run P w= .ok (.value v) w')(h:wpListIn Cd n P ops Q rest (a.put op.dst v) w'):wpListIn Cd n P ops Q (op::rest) a w:=
 wpListIn_plain F λK G=>by
  unfold Oper.wpIn;refine⟨λ_ _=>trivial,?_⟩;show op.uponIn _ _ _ _ _ _ ((execOp a.eval op).run P w);rw[hr];exact G _ _ h
theorem wpIn_load(F:op.guard=none)(ty:TypeId)(x:AP)(I:op.op= .load ty x)(b o:Nat)(K:a.eval x= .pointer (some ⟨b,o,none⟩))(cs:List Value)(d:TypeDesc)(hc:w.rangeAt b o cs)
  (J:P.underlying ty=some d)(G:d.isRow=true)(hi:(P.info? ty).map (·.size)=some cs.length)(h:wpListIn Cd n P ops Q rest (a.put op.dst (.agg cs.toArray)) w):wpListIn Cd n P ops Q (op::rest) a w:=
 bP F (by
  unfold execOp;simp only[I,K,Instr.loadAt,DV,AH,Bw,CM,run_loadVar_mid w b o ty cs d hc J G hi]) h
theorem zY(F:op.guard=none)(ty:TypeId)(x y:AP)(I:op.op= .store ty x y)(b o:Nat)(cells:Array Value)(J:a.eval x= .pointer (some ⟨b,o,none⟩))(hy:a.eval y= .agg cells)
  (ht:w.there b o cells.size)(hi:(P.info? ty).map (·.size)=some cells.size)(h1:cells.all (·.oneCell')=true)(h:wpListIn Cd n P ops Q rest (a.put op.dst undef) (w.setCells b o cells.toList)):wpListIn Cd n P ops Q (op::rest) a w:=
 wpListIn_plain F λK G=>by
  unfold Oper.wpIn;refine⟨λ_ _=>trivial,?_⟩;show op.uponIn _ _ _ _ _ _ ((execOp a.eval op).run P w);unfold execOp;simp only[I,J,hy,Instr.storeAt,DV,AH,Bw,CM,run_storeVar_mid w b o ty cells ht hi h1];exact G _ _ h
theorem qN{v':Value}{s x:AP}{t:TypeId}(F:op.guard=none)(G:op.op= .call {callee:=.builtin .append,args:=#[s,x],argTypes:=#[t,t]}){y:Value}(hs:a.eval s=v)(I:a.eval x=y)
  (hr:(Builtin.append_ #[t,t] op.type #[v,y]).run P w= .ok v' w')(h:wpListIn Cd n P ops Q rest (a.put op.dst v') w'):wpListIn Cd n P ops Q (op::rest) a w:=
 bP F (by
  unfold execOp;simp only[G,resolve,invoke,builtin,AH,Bw,CM,CJ,Bq,BS,hs,I,hr]) h
end
structure LatB(w W:World)(t:Nat)(tq fr:Nm):Prop where
 b3:Boxed W w.heap.size 24 (ptB t)
 b4:Boxed W (w.heap.size+1) 9 (.string tq)
 b5:Boxed W (w.heap.size+1+1) 9 (.string fr)
 b6:Boxed W (w.heap.size+1+1+1) 3 (.int .i64 0)
 b7:Boxed W (w.heap.size+1+1+1+1) 40 (.int .i64 0)
 bel:mBw w W
abbrev latW(w:World)(t:Nat)(tq fr:Nm):World:=((((w.alloc (.cells #[ptB t] 24)).alloc (.cells #[.string tq] 9)).alloc (.cells #[.string fr] 9)).alloc (.cells #[.int .i64 0] 3)).alloc (.cells #[.int .i64 0] 40)
theorem LatB.new(w:World)(t:Nat)(tq fr:Nm):LatB w (latW w t tq fr) t tq fr where
 b3:=((((Boxed.new w _ _).alloc _).alloc _).alloc _).alloc _
 b4:=by have:=(((Boxed.new (w.alloc (.cells #[ptB t] 24)) 9 (.string tq)).alloc (.cells #[.string fr] 9)).alloc (.cells #[.int .i64 0] 3)).alloc (.cells #[.int .i64 0] 40);rw[asz]at this;exact this
 b5:=by have:=((Boxed.new ((w.alloc (.cells #[ptB t] 24)).alloc (.cells #[.string tq] 9)) 9 (.string fr)).alloc (.cells #[.int .i64 0] 3)).alloc (.cells #[.int .i64 0] 40);rw[asz,asz]at this;exact this
 b6:=by have:=(Boxed.new (((w.alloc (.cells #[ptB t] 24)).alloc (.cells #[.string tq] 9)).alloc (.cells #[.string fr] 9)) 3 (.int .i64 0)).alloc (.cells #[.int .i64 0] 40);rw[asz,asz,asz]at this;exact this
 b7:=by have:=Boxed.new ((((w.alloc (.cells #[ptB t] 24)).alloc (.cells #[.string tq] 9)).alloc (.cells #[.string fr] 9)).alloc (.cells #[.int .i64 0] 3)) 40 (.int .i64 0);rw[asz,asz,asz,asz]at this;exact this
 bel:=((((((AF _ w).alloc (AE _) _).alloc Ad _).alloc (by simp;omega) _).alloc (by simp;omega) _).alloc (by simp;omega) _)
variable{W:World}{t:Nat}{tq fr:Nm}
theorem LatB.kb{W':World}{O:Nat}(h:LatB w W t tq fr)(k:Kb W.heap.size O W W')(F:w.heap.size+5<=O):LatB w W' t tq fr:=
 have g:∀ {B:Nat} {T:TypeId} {v:Value},Boxed W B T v->B<w.heap.size+5->Boxed W' B T v:=λhb hl=>(k.block _ hb.lt no).trans hb
 ⟨g h.b3 no,g h.b4 no,g h.b5 no,g h.b6 no,g h.b7 no,⟨k.os.trans h.bel.os,k.tape.trans h.bel.tape,k.output.trans h.bel.output,AD h.bel.size k.size,λi hi=>(k.block i (by have:=h.bel.size;omega) no).trans (h.bel.block i hi)⟩⟩
theorem LatB.below{W':World}(h:LatB w W t tq fr)(k:Bi W.heap.size W W'):LatB w W' t tq fr:=h.kb (O:=w.heap.size+5) (Kb.below k) (AE _)
theorem LatB.lt(h:LatB w W t tq fr):w.heap.size+5<=W.heap.size:=h.b7.lt
theorem LatB.fin(h:LatB w W t tq fr)(n c:Int):
  Boxed ((W.setCell ⟨w.heap.size+1+1+1,0,none⟩ (.int .i64 n)).setCell ⟨w.heap.size+1+1+1+1,0,none⟩ (.int .i64 c)) (w.heap.size+1+1+1) 3 (.int .i64 n)/\
  Boxed ((W.setCell ⟨w.heap.size+1+1+1,0,none⟩ (.int .i64 n)).setCell ⟨w.heap.size+1+1+1+1,0,none⟩ (.int .i64 c)) (w.heap.size+1+1+1+1) 40 (.int .i64 c)/\
  mBw w ((W.setCell ⟨w.heap.size+1+1+1,0,none⟩ (.int .i64 n)).setCell ⟨w.heap.size+1+1+1+1,0,none⟩ (.int .i64 c)):=
 ⟨(h.b6.set _).other no _,(h.b7.other no _).set _,(h.bel.setCell (p:=⟨w.heap.size+1+1+1,0,none⟩) (by show w.heap.size<=w.heap.size+1+1+1;omega) _).setCell (p:=⟨w.heap.size+1+1+1+1,0,none⟩) (by show w.heap.size<=w.heap.size+1+1+1+1;omega) _⟩
theorem int_new(w:World)(x:Int):jm (w.alloc (.cells #[.int .i64 x] 3)) w.heap.size (.slice (some ⟨w.heap.size,0,none⟩) 1 1) [x]:=
 ⟨rfl,.inr ⟨w.heap.size,1,_,rfl,AE _,Bm w _,AE _,by unfold maxLen;omega,rfl,rfl⟩⟩
variable{n i:Nat}
theorem lnk_at{ad:Option Addr}{cap:Nat}{l:List (Nm×Lk)}(h:io w (.slice ad n cap) l)(hn:n=l.length){q:Nm×Lk}(J:l[i]? =some q):∃g,ad=some ⟨g,0,none⟩/\g<w.heap.size/\w.rangeAt g (i*4) (eu q):=by
 subst hn;have hc:∀j u,(eu q)[j]? =some u->∃g,ad=some ⟨g,0,none⟩/\w.cell? ⟨g,i*4+j,none⟩=some u:=λj u G=>cQ h.1 (by rw[flat4 J (by have:=(AX.1 G).1;exact this)];exact G)
 obtain⟨g,I,_⟩:=hc 0 _ rfl;refine⟨g,I,(bV h.1 (g:=g) (by rw[I];rfl)).2,λj u G=> ?_⟩;obtain⟨K,F,h2⟩:=hc j u G;rw[I]at F;injection F with F;injection F with F;subst F;exact h2
def okZ(R:Tr)(tq fr:Nm)(z:Int):Prop:=0<=z/\(aP R z tq fr).2=0
theorem rr_get{j:Nat}(h:j<n):(Bj n).reverse[n - 1 - j]? =some j:=by
 rw[List.getElem?_reverse (by simp;omega),List.length_range,List.getElem?_range no]
 congr 1;omega
variable{pre:List Nat}
theorem rr_pre(h:pre++ [i] <+:(Bj n).reverse):i<n/\∀j,i<j->j<n->j∈pre:=by
 obtain⟨I,h⟩:=h;have hl:=congrArg List.length h;simp only[Bh,List.length_reverse,List.length_range,Bg,Dk]at hl;have h1:(pre++ [i]++I)[pre.length]? =some i:=Ad
 rw[h]at h1;have h2:=rr_get (n:=n) (j:=n - 1 - pre.length) no;rw[show n - 1 - (n - 1 - pre.length)=pre.length by omega,h1]at h2;injection h2 with h2;refine⟨no,λj h3 G=> ?_⟩;have F:=rr_get G;rw[<-h,CO,Bz no]at F;exact A0 F
section
variable {R:Tr} {tq fr:Nm} {xs:List Int}
theorem lat_ix{zs:List Int}{x:Int}(h:x∈zs):∃j,j<zs.length/\zs.getD j 0=x:=by
 obtain⟨j,F,e⟩:=BK h;exact⟨j,F,by rw[DX,AJ F];exact e⟩
theorem lat_stop(hk:aC R fr/\aC R tq)(hm:∀x,x∈xs↔mU R x)(hp:pre++ [i] <+:(Bj (Lib.compact (srt xs)).length).reverse)(hno:∀u∈pre,¬okZ R tq fr ((Lib.compact (srt xs)).getD u 0))(hok:okZ R tq fr ((Lib.compact (srt xs)).getD i 0)):q9 R tq fr ((Lib.compact (srt xs)).getD i 0) 0:=by
 obtain⟨h1,h2⟩:=rr_pre hp;have hx:=cs_asc xs;have hmem:=λx=>(cs_mem xs x).trans (hm x)
 generalize Lib.compact (srt xs)=zs at *;refine .inr ⟨hk,.inl ⟨rfl,hok.1,(hmem _).1 ?_,hok.2,λx hx1 h0 hc=> ?_⟩⟩
 ·rw[DX,AJ h1];exact List.getElem_mem h1
 ·obtain⟨j,hj,rfl⟩:=lat_ix ((hmem x).2 hx1);rcases Nat.lt_trichotomy i j with h | h | h
  ·exact absurd ⟨h0,hc⟩ (hno j (h2 j h hj))
  ·subst h;exact CH _
  ·have:=List.pairwise_iff_getElem.1 hx j i hj h1 h;rw[DX,AJ hj,DX,AJ h1];exact this
theorem lat_done(hk:aC R fr/\aC R tq)(hm:∀x,x∈xs↔mU R x)(hno:∀u∈(Bj (Lib.compact (srt xs)).length).reverse,¬okZ R tq fr ((Lib.compact (srt xs)).getD u 0)):q9 R tq fr 0 17:=by
 have hmem:=λx=>(cs_mem xs x).trans (hm x)
 generalize Lib.compact (srt xs)=zs at *;refine .inr ⟨hk,.inr ⟨rfl,rfl,λx hx1 h0 hc=> ?_⟩⟩;obtain⟨j,hj,rfl⟩:=lat_ix ((hmem x).2 hx1);exact hno j (by simp;exact hj) ⟨h0,hc⟩
end
end
section
open Go.RowKit Go.Shelf
open Classical
attribute [local go_sem] Oper.semAt_some
set_option maxRecDepth 100000 in
set_option maxHeartbeats 4000000 in
theorem qO{t m:Nat}{E:List Ch}{tq fr:Nm}(hT:TM w t m E)(hE:Sane (trE E)):
  AC AB 50 #[ptB t,.string tq,.string fr] w λe w'=>∃n c,e= .returned (.tuple #[.int .i64 n,.int .i64 c])/\q9 (trE E) tq fr n c/\Bi w.heap.size w w':=by
 refine(callsIn_wide (n:=3)).1 ?_;have h3:(1:Nat)<=3:=it
 have ax:=LatB.new w t tq fr;obtain⟨W1,c1⟩:∃W1,latW w t tq fr=W1:=⟨_,rfl⟩;rw[c1]at ax;have HT:=AA (show∀wq,Bi w.heap.size w wq->TM wq t m E from λwq k=>hT.below k);have an:=mR (HT.out W1 ax.bel) hE tq;have au:=AA (show∀wq,Bi w.heap.size w wq->AC AB 108 #[ptB t,.string fr] wq λe w'=>e= .returned (.bool (decide (aC (trE E) fr)))/\Bi wq.heap.size wq w' from λwq k=>mR (HT.out wq k) hE fr);have HE:=AA hE;have cu:=AA hT;have bt:=AA ax;have c3:=ax.b3.cell;have c4:=ax.b4.cell;clear hT hE ax;refine callsIn_of_wp_marks Tryz.func50 rfl trivial ?_ rfl;simp only[Tryz.ntmps50,List.size_toArray,Bg,Dk,Nat.reduceAdd,Nat.reduceSub,Array.replicate_succ,Array.replicate_zero,List.push_toArray,List.append_toArray,C8,List.cons_append]
 gi_upto_region 1 with(fail)
 try rw[show((((w.alloc (.cells #[ptB t] 24)).alloc (.cells #[.string tq] 9)).alloc (.cells #[.string fr] 9)).alloc (.cells #[.int .i64 0] 3)).alloc (.cells #[.int .i64 0] 40)=W1 from c1]
 clear c1;have a4:=AA (show¬(aC (trE E) fr/\aC (trE E) tq)->q9 (trE E) tq fr 0 6 from λh=>.inl ⟨h,rfl,rfl⟩);by_cases ky:aC (trE E) tq
 ·rw[decide_eq_true ky]at an;by_cases kx:aC (trE E) fr
  ·rw[decide_eq_true kx]at au;have ea:=AA (By kx ky);clear kx ky a4
   gi_upto_region 3 with(first
    | (refine⟨trivial,?_⟩;gi_at_call 108;refine(callsIn_wide.2 an).mono ?_;clear an;rintro e w2 ⟨rfl,hb⟩;have Y:=bt.out.below hb;have d3:=Y.b3.cell;have d5:=Y.b5.cell;have bz:=AA Y;have bi:=au.out w2 Y.bel;clear hb Y)
    | (refine⟨trivial,?_⟩;gi_at_call 108;refine(callsIn_wide.2 bi).mono ?_;clear bi;rintro e w3 ⟨rfl,hb⟩;have ao:=AA (bz.out.below hb);clear hb))
   clear c3 c4 d3 d5 bt bz au
   gi_upto_region 4 with(fail)
   obtain⟨W4,av⟩:∃W4,w3.alloc (.cells #[.int .i64 1099511627776] 3)=W4:=⟨_,rfl⟩;try rw[av]
   have ap:=int_new w3 1099511627776;have c8:=ao.out.lt;have bO:=ao.out.below (W':=W4) (by rw[<-av];exact(AF _ _).alloc (AE _) _);have ga:W4.heap.size=w3.heap.size+1:=by rw[<-av];exact asz _ _
   have da:w3.heap.size∉fpT t m E:=λhm=>by have:=cu.out.lt _ hm;omega
   have c2:bw W4 w3.heap.size:=.mk' (show W4.heap[w3.heap.size]? =some (.cells #[.int .i64 1099511627776] 3 (0,0))by rw[<-av];exact Bm _ _) (λk n hk=>by cases k<;>simp at hk);rw[av]at ap;have ez:=(q_Links (HT.out W4 bO.bel) HE.out).mono (show∀e w',_->∃ad nl cap,∃LR:List (Nm×Lk),e= .returned (.slice ad nl cap)/\Hid (io w' (.slice ad nl cap) LR/\nl=LR.length/\(∀q,q∈LR↔q∈trE E)/\nl<=2000/\(∀g,ad=some ⟨g,0,none⟩->W4.heap.size<=g)/\Bi W4.heap.size W4 w')from by
    rintro e w' ⟨v,L,rfl,h1,h2,_,_,h5,h6⟩;obtain⟨ad,cap,rfl⟩:=cL h1.1;have h7:=om HE.out.sm (L:=L);have h8:=E_len cu.out HE.out.sm;have h9:=h2.length_eq;rw[Cg]at h9;exact⟨ad,_,cap,_,rfl,AA ⟨h1,rfl,lkRow_mem (λq hq=>by
     obtain⟨ch,fy,ln,gs,e⟩:=cE.1 hq;subst e;exact(h2.mem_iff).2 (Ba.2 ⟨ch,fy,rfl⟩)),no,λg hg=>h5 g (by rw[hg];rfl),h6⟩⟩)
   have c3:=bO.b3.cell;have d0:=AA bO;obtain⟨g8,fz⟩:∃g,w3.heap.size=g:=⟨_,rfl⟩;rw[fz]at ap ga da c2 c8;have a2:=AA ap;have cx:=AA (By da c2);clear av ap bO da c2 ao
   gi_upto_region 5 with(refine⟨trivial,?_⟩;gi_at_call 35;refine(callsIn_wide.2 ez).mono ?_;clear ez;rintro e W5 ⟨em,nl,fx,LR,rfl,HL⟩)
   have aa:=HL.out.2.2.2.2.2;have c6:=d0.out.below aa;have cl:=AA c6;have ed:=AA (show∀(i:Nat)(q:Nm×Lk),LR[i]? =some q->∃g,em=some ⟨g,0,none⟩/\W4.heap.size<=g/\g<W5.heap.size/\W5.rangeAt g (i*4) (eu q)from λi q hq=>by
    obtain⟨g,h1,h2,h3⟩:=lnk_at HL.out.1 HL.out.2.1 hq;exact⟨g,h1,HL.out.2.2.2.2.1 g h1,h2,h3⟩)
   have d4:=AA (show EndS W5 W5 g8 (.slice (some ⟨g8,0,none⟩) 1 1) (dI (trE E) (LR.take 0))from⟨eh a2.out (λg hg=>aa.block g (bV a2.out hg).2),Kb.refl _ _ _,λk hk=>.inr (by injection hk with hk;exact hk.symm)⟩);have cv:=AA (show∀wq,Kb W5.heap.size g8 W5 wq->TM wq t m E from λwq k=>k.tm (HT.out W5 c6.bel) cx.out.1 (cx.out.2.blk (aa.block g8 no) aa.size));have f8:=HL.out.2.2.2.1;have eE:(nl:Int)<=2000:=no
   have gp:g8<W5.heap.size:=by have:=aa.size;omega
   have a3:=AA (By HL.out.2.1 HL.out.2.2.1);clear aa c6 HL d0 a2 cx HT c3
   gi_loopw [8,34] (λs8 dT wr=>∃k:Nat,k<=nl/\dT= .int .i64 (k:Int)/\Hid (EndS W5 wr g8 s8 (dI (trE E) (LR.take k)))) (λ_ dT _=>nl - (intOf dT).toNat)
   case atStart=>exact⟨0,AY _,rfl,d4⟩
   case round=>
    clear d4;obtain⟨k,hk,rfl,HS⟩:=hrel;rcases Bc k nl with c9 | fT
    ·obtain⟨q,hq⟩:∃q,LR[k]? =some q:=⟨_,AJ (by rw[<-a3.out.1];exact c9)⟩;obtain⟨g,rfl,f4,er,cb⟩:=ed.out k q hq;have e0:wr.rangeAt g (k*4) (eu q):=λj u hu=>by rw[HS.out.kb.cell er no];exact cb j u hu
     have dc:=(a3.out.2 q).1 (A0 hq);have dr:=HE.out.ok.tm q dc;have b2:(dI (trE E) (LR.take k)).length<=7000:=by
      have:=oo (trE E) (LR.take k);rw[A9]at this;omega
     have cq:=AA (show dI (trE E) (LR.take (k+1))=dI (trE E) (LR.take k)++xj (trE E) q by rw[El,hq];exact zK _ _ _);have ef:=AA e0;have gk:=AA dc;have gd:(k:Int)<(nl:Int):=no
     obtain⟨xs,e9⟩:∃xs,dI (trE E) (LR.take k)=xs:=⟨_,rfl⟩;rw[e9]at HS cq b2;clear hq e0 cb dc f4 er e9
     gi_upto_region 6 with(fail)
     refine wpIn_region_list ?_;refine bP rfl (v:=.pointer (some ⟨g,k*4,none⟩)) (w':=wr) Ah ?_;refine wpIn_load rfl _ _ rfl g (k*4) rfl (eu q) _ ef.out Tryz.underlying76 rfl Aa ?_;refine bP rfl (v:=.pointer (some ⟨wr.heap.size,0,none⟩)) (w':=wr.alloc (.cells #[.string ⟨#[]⟩,.string ⟨#[]⟩,.int .i64 0,.int .i64 0] 76)) (by go_simp;try rfl) ?_;refine zY rfl _ _ _ rfl wr.heap.size 0 (eu q).toArray rfl rfl (lk_there wr q) Aa (all_oneCell_toArray (λu hu=>(qA u hu).1)) ?_;have bp:=RdS.start q HS.out
     change wpListIn _ _ _ _ _ _ _ (lkW wr q)
     generalize lkW wr q=W6 at *;obtain⟨Bl,ep⟩:∃B,wr.heap.size=B:=⟨_,rfl⟩;rw[ep]at bp⊢;obtain⟨f0,f2,f3⟩:=bp.c0;have a0:g8<=W6.heap.size:=by have:=bp.es.kb.size;omega
     have HR:=AA bp;clear HS ef ep bp;have e4:Be.wrap (q.2.un - 1)=q.2.un - 1:=by rw[Ci];unfold bC at dr;omega
     have gb:Be.wrap (q.2.fr - 1)=q.2.fr - 1:=by rw[Ci];unfold bC at dr;omega
     clear dr;have cm:=AA (show xj (trE E) q=(if 0<=q.2.un then [q.2.un - 1]else [])++ [q.2.fr - 1]++(if (ei (trE E) q.1 q.2.fr).2.2=true then [(ei (trE E) q.1 q.2.fr).2.1]else [])from rfl);have ek:=AA (show∀wq,Kb W5.heap.size g8 W5 wq->AC AB 43 #[ptB t,.string q.1,.int .i64 q.2.fr] wq λe w'=>e= .returned (aa1 (ei (trE E) q.1 q.2.fr))/\Bi wq.heap.size wq w' from λwq k=>q_Span (cv.out wq k) HE.out.ok q.1 q.2.fr);obtain⟨un,ds⟩:∃u,q.2.un=u:=⟨_,rfl⟩;obtain⟨fq,be⟩:∃u,q.2.fr=u:=⟨_,rfl⟩;obtain⟨cn,b1⟩:∃u,q.1=u:=⟨_,rfl⟩;obtain⟨sp,dq⟩:∃s,ei (trE E) q.1 q.2.fr=s:=⟨_,rfl⟩;rw[dq,ds,be]at cm;rw[dq,b1,be]at ek;rw[ds]at f3 e4;rw[be]at f2 gb;rw[b1]at f0;have HC:=AA (show∀wq v ys,RdS W5 wq g8 Bl v ys q->wq.cell? ⟨Bl,0,none⟩=some (.string cn)/\wq.cell? ⟨Bl,2,none⟩=some (.int .i64 fq)/\wq.cell? ⟨w.heap.size,0,none⟩=some (ptB t)/\g8<=wq.heap.size from λwq v ys hr=>by
      have:=hr.c0;rw[b1,be]at this;exact⟨this.1,this.2.1,(cl.out.kb hr.es.kb c8).b3.cell,by have:=hr.es.kb.size;omega⟩)
     clear ds be b1 dq;obtain⟨s1,s2,s3⟩:=sp
     gi_upto_if 40 with(fail)
     gi_cut [8,40]from 86 (λs8 _ wc=>∃ys,Hid (ys=xs++(if 0<=un then [un - 1]else []))/\Hid (RdS W5 wc g8 Bl s8 ys q))
     case first=>
      by_cases hu:0<=un
      ·have HU:=AA hu
       gi_upto_region 8 with(fail)
       obtain⟨v8,W8,U,b9⟩:=HR.out.app (ty:=171) (un - 1) a0 no;have fe:=AA b9;have I:=AA U;clear U b9;refine wpIn_region_list ?_;refine bP rfl (v:=u8) (w':=W6) Af ?_;refine bP rfl (v:=.pointer (some ⟨Bl,3,none⟩)) (w':=W6) Ah ?_;refine bP rfl (v:=.int .i64 un) (w':=W6) Ah ?_;refine bP rfl (v:=.int .i64 (un - 1)) (w':=W6) Ah ?_;refine bP rfl (v:=.slice (some ⟨W6.heap.size,0,none⟩) 1 1) (w':=W6.alloc (.cells #[.int .i64 (un - 1)] 3)) Ah ?_;refine qN rfl rfl rfl rfl I.out ?_;clear I HR
       gi_wp2
       gi_meet
       case rel=>exact⟨_,AA (by have:=HU.out;rw[if_pos no]),fe⟩
      ·have HU:=AA hu
       gi_wp2
       gi_meet
       case rel=>exact⟨_,AA (by have:=HU.out;rw[if_neg no,CP]),HR⟩
     case rest=>
      obtain⟨ys,HY,cr⟩:=hcut;clear f0 f2 f3 e4 HR a0;obtain⟨f0,f2,c3,a0⟩:=HC.out _ _ _ cr.out;have gy:ys.length<=7001:=by
       rw[HY.out,Bh];split<;>simp<;>omega
      gi_upto_region 9 with(fail)
      obtain⟨v9,W9,U,ca⟩:=cr.out.app (ty:=171) (fq - 1) a0 no;have a5:=AA ca;have I:=AA U;clear U ca;refine wpIn_region_list ?_;refine bP rfl (v:=u8) (w':=wc) Af ?_;refine bP rfl (v:=.pointer (some ⟨Bl,2,none⟩)) (w':=wc) Ah ?_;refine bP rfl (v:=.int .i64 fq) (w':=wc) Ah ?_;refine bP rfl (v:=.int .i64 (fq - 1)) (w':=wc) Ah ?_;refine bP rfl (v:=.slice (some ⟨wc.heap.size,0,none⟩) 1 1) (w':=wc.alloc (.cells #[.int .i64 (fq - 1)] 3)) Ah ?_;refine qN rfl rfl rfl rfl I.out ?_;clear I cr f0 f2 c3 a0;obtain⟨f0,f2,c3,a0⟩:=HC.out _ _ _ a5.out;have aq:=ek.out W9 a5.out.es.kb;have gx:Be.wrap ((k:Int)+1)=(k:Int)+1:=by rw[Ci];omega
      cases s3 with
      | false=>
       have HX:=AA (show dI (trE E) (LR.take (k+1))=ys++ [fq - 1]by rw[cq.out,cm.out,HY.out];simp)
       gi_wp2_with (refine⟨trivial,?_⟩;gi_at_call 43;refine(callsIn_wide.2 aq).mono ?_;clear aq;rintro e a6 ⟨rfl,hb⟩;have ak:=AA (a5.out.below hb);clear hb)
       go_roundw
       case rel=>exact⟨k+1,no,by go_num,AA (by rw[HX.out];exact ak.out.es)⟩
       case measure=>simp[intOf];omega
      | true=>
       have HX:=AA (show dI (trE E) (LR.take (k+1))=ys++ [fq - 1]++ [s2]by rw[cq.out,cm.out,HY.out];simp)
       gi_upto_region 12 with(refine⟨trivial,?_⟩;gi_at_call 43;refine(callsIn_wide.2 aq).mono ?_;clear aq;rintro e a6 ⟨rfl,hb⟩;have ak:=AA (a5.out.below hb);clear hb)
       obtain⟨g3,gm,U,bq⟩:=ak.out.app (ty:=171) s2 (HC.out _ _ _ ak.out).2.2.2 (by rw[Bh];simp;omega);have ee:=AA bq;have I:=AA U;clear U bq;refine wpIn_region_list ?_;refine bP rfl (v:=v9) (w':=a6) Af ?_;refine bP rfl (v:=.int .i64 s2) (w':=a6) Af ?_;refine bP rfl (v:=.slice (some ⟨a6.heap.size,0,none⟩) 1 1) (w':=a6.alloc (.cells #[.int .i64 s2] 3)) Ah ?_;refine qN rfl rfl rfl rfl I.out ?_;clear I a5 ak
       gi_wp2
       go_roundw
       case rel=>exact⟨k+1,no,by go_num,AA (by rw[HX.out];exact ee.out.es)⟩
       case measure=>simp[intOf];omega
    ·obtain rfl:k=nl:=no
     have HM:=AA (show∀x,x∈dI (trE E) (LR.take k)↔mU (trE E) x from λx=>by rw[a3.out.1,List.take_length];exact endsL_mem a3.out.2 x);have b2:(dI (trE E) (LR.take k)).length<=7000:=by
      have:=oo (trE E) (LR.take k);rw[A9]at this;omega
     have e5:(dI (trE E) (LR.take k))≠ []:=by unfold dI;simp
     generalize dI (trE E) (LR.take k)=xs at *;have db:u8≠ .slice none 0 0:=λe=>by
      have:=HS.out.row.1;rcases HS.out.row.2 with⟨_,h⟩ | ⟨g,cap,cur,h,_⟩
      ·exact e5 (CF h)
      ·rw[e]at h;cases h
     have e3:=q_SortI HS.out.row db no;have f5:(srt xs).length=xs.length:=List.length_mergeSort xs;have bb:∀a1,jm a1 g8 u8 (srt xs)->EndS W5 a1 g8 u8 (srt xs)->AC AB 111 #[u8] a1 λe w'=>∃g cap,e= .returned (.slice (some ⟨g,0,none⟩) (Lib.compact (srt xs)).length cap)/\Hid (EndS W5 w' g8 (.slice (some ⟨g,0,none⟩) (Lib.compact (srt xs)).length cap) (Lib.compact (srt xs))):=λa1 h1 h2=>(zF h1 db no).mono (by
      rintro e w' ⟨v',rfl,k1,k2,k3,k4⟩;obtain⟨ad,cap,rfl⟩:=cL k1;rcases id k1.2 with⟨e,_⟩ | ⟨g,gc,cur,e,_⟩
      ·exact absurd e k3
      ·injection e with e1 _ _;subst e1;exact⟨g,cap,rfl,AA (h2.grown k4 k1 (.inl k2))⟩)
     have eq:=λW g c=>zG W (some ⟨g,0,none⟩) (Lib.compact (srt xs)).length c
     have d2:=AA bb;clear hk fT ed a3 eE f8 e5 db bb
     gi_wp2_with (first
      | (refine⟨trivial,?_⟩;gi_at_call 109;refine(callsIn_wide.2 e3).mono ?_;clear e3;rintro e a1 ⟨rfl,hi,hg⟩;have c7:=HS.out.grown hg hi (.inl rfl);have eg:=AA c7;have bb:=d2.out a1 hi c7;clear hi hg c7 HS)
      | (refine⟨trivial,?_⟩;gi_at_call 111;refine(callsIn_wide.2 bb).mono ?_;clear bb;rintro e ac ⟨g,cap,rfl,b8⟩;clear eg)
      | (refine⟨trivial,?_⟩;gi_at_call 110;refine(callsIn_wide.2 (eq _ _ _)).mono ?_;clear eq;rintro e w' ⟨rfl,rfl⟩))
     have fu:=AA (show∀(pre:List Nat)(i:Nat),pre++ [i] <+:(Bj (Lib.compact (srt xs)).length).reverse->(∀u∈pre,¬okZ (trE E) tq fr ((Lib.compact (srt xs)).getD u 0))->okZ (trE E) tq fr ((Lib.compact (srt xs)).getD i 0)->q9 (trE E) tq fr ((Lib.compact (srt xs)).getD i 0) 0 from λpre i=>lat_stop ea.out HM.out);have fs:=AA (show(∀u∈(Bj (Lib.compact (srt xs)).length).reverse,¬okZ (trE E) tq fr ((Lib.compact (srt xs)).getD u 0))->q9 (trE E) tq fr 0 17 from lat_done ea.out HM.out);have g0:(Lib.compact (srt xs)).length<=7000:=AD (cs_len xs) b2;generalize hzs:Lib.compact (srt xs)=zs at *;have am:=b8.out;have a7:=cl.out.kb am.kb c8;have hg:=bV am.row (g:=g) rfl;obtain⟨WB,a9⟩:∃WB,ac.alloc (.cells #[.slice (some ⟨g,0,none⟩) zs.length cap] 171)=WB:=⟨_,rfl⟩;try rw[a9]
     have b0:Bi ac.heap.size ac WB:=by rw[<-a9];exact(AF _ _).alloc (AE _) _
     have gu:WB.heap.size=ac.heap.size+1:=by rw[<-a9];exact asz _ _
     have eQ:WB.heap[ac.heap.size]? =some (.cells #[.slice (some ⟨g,0,none⟩) zs.length cap] 171 (0,0)):=by rw[<-a9];exact Bm _ _
     have ew:=a7.lt;have e2:=bw_stops 2 it (w:=WB) (O:=w.heap.size+1+1+1) (B1:=ac.heap.size) (g:=g) (cap:=cap) (zs:=zs) ⟨no,no⟩ ⟨no,no⟩ no (by rw[aH eQ];rfl) (λj z hz=>by
      obtain⟨g',e,hc⟩:=cQ am.row (show(zs.map (AK .i64))[j]? =some (.int .i64 z)by rw[Bp,hz];rfl);injection e with e;injection e with e;subst e;rw[b0.cell (p:=⟨g,j,none⟩) hg.2];exact hc)
     have cz:=a7.below b0;have d1:=AA cz;have ff:=AA ((cv.out ac am.kb).below b0);clear am a7 hg b0 eQ ew a9 hzs b8 d2 cv cu cl HM f5 b2;have gq:=cz.lt;clear cz;refine wpIn_rangeFunc_ownG (F:=Cd) (n:=3) rfl h3 (gf:=175) (lb:=#[.pointer (some ⟨ac.heap.size,0,none⟩)]) rfl trivial (ah Tryz.func175 Aa rfl)
      e2 (λ{_ _ _} h k=>h.trans k) (kb_b (AE _)) (AF _ _) (λ_=>rfl)
      (λpre W=>(∀u∈pre,¬okZ (trE E) tq fr (zs.getD u 0))/\Bi WB.heap.size WB W)
      (λc pre W=>(c= .ret/\∃ab i,pre=ab++ [i]/\(∀u∈ab,¬okZ (trE E) tq fr (zs.getD u 0))/\okZ (trE E) tq fr (zs.getD i 0)/\Boxed W (w.heap.size+1+1+1) 3 (.int .i64 (zs.getD i 0))/\Boxed W (w.heap.size+1+1+1+1) 40 (.int .i64 0))/\Bi w.heap.size w W/\WB.heap.size<=W.heap.size)
      (OwnFrom.and (ownFrom_pure _ _) (ownFrom_below (AE _) (AE _)))
      (λc s W W' row hs hg hr=>⟨⟨hs.1.1,by
       obtain⟨ab,z,k1,k2,k3,k4,k5⟩:=hs.1.2;exact⟨ab,z,k1,k2,k3,k4.kept hg (λe=>by have:=(hr _ e.symm).1;omega),k5.kept hg (λe=>by have:=(hr _ e.symm).1;omega)⟩⟩,hs.2.1.grown hg (by have:=hs.2.2;omega) (λk e=>by have:=(hr _ e).1;omega),AD hs.2.2 hg.size⟩)
      ⟨λ_ h=>(by cases h),AF _ _⟩
      (λi=> {tmps:=#[ptB t,.string tq,.string fr,.pointer (some ⟨w.heap.size,0,none⟩),.pointer (some ⟨w.heap.size+1,0,none⟩),.pointer (some ⟨w.heap.size+1+1,0,none⟩),.pointer (some ⟨w.heap.size+1+1+1,0,none⟩),.pointer (some ⟨w.heap.size+1+1+1+1,0,none⟩),u8,undef,u10,u11,u12,u13,undef,.int .i64 (zs.getD i 0),ptB t,.bool false,.bool false,ptB t,.string tq,.bool true,.bool false,.bool false,.bool false,ptB t,.string fr,.bool true,.bool false,.bool false,.slice (some ⟨g8,0,none⟩) 1 1,ptB t,.slice em k fx,.int .i64 (k:Int),.int .i64 (k:Int),.bool false,u36,u37,u38,u39,u40,u41,u42,u43,u44,u45,u46,u47,u48,u49,u50,u51,u52,u53,u54,u55,u56,u57,u58,u59,u60,u61,u62,u63,u64,u65,u66,u67,u68,u8,.tuple #[],u8,.slice (some ⟨g,0,none⟩) zs.length cap,.func (.func 175) #[] #[.pointer (some ⟨ac.heap.size,0,none⟩)],.int .i64 (i:Int),.int .i64 (zs.getD i 0),undef,undef,undef,undef,undef,undef,undef,undef,undef,undef],defers:=[]}) ?assign ?body ?done ?stop
     case assign=>
      intro l i W K hK;generalize hzi:zs.getD i 0=z at *
      gi_wp2
      exact hK
     case body=>
      rintro l pre i W ⟨J,hB⟩ c9;have V:=d1.out.below hB;have c3:=V.b3.cell;have c4:=V.b4.cell;have c5:=V.b5.cell;obtain⟨z,hz⟩:∃z,zs.getD i 0=z:=⟨_,rfl⟩;have Z:=q_Can (ff.out.below hB) HE.out (gX HE.out z tq fr);have HB:=AA hB;have HP:=AA J;have HI:=AA hz;have fd:=AA V;clear V hB J c9;rw[hz];have et:∀w',Bi W.heap.size W w'->KeepsOthers W w':=λw' h=>⟨h.size,λk o hk _=>(h.block k (AZ.1 hk).1).trans hk⟩
      have eb:=AA et;clear et hz;by_cases hz:0<=z
      ·have HZ:=AA hz;by_cases hc:(aP (trE E) z tq fr).2=0
       ·rw[decide_eq_true hc]at Z;have HC:=AA hc;clear hc
        gi_wp2_with (refine⟨trivial,?_⟩;gi_at_call 19;refine(CallsIn.inRound l (callsIn_wide.2 Z)).mono ?_;clear Z;rintro e W7 ⟨rfl,hb⟩;have ay:=fd.out.below hb;have e6:=ay.b6.cell;have f6:=ay.b6.frozen;have e7:=ay.b7.cell;have f7:=ay.b7.frozen;have fc:=AA ay;have ar:=AA hb;clear hb ay)
        obtain⟨k6,k7,kb⟩:=fc.out.fin z 0;exact⟨((eb.out _ ar.out).trans ((KeepsOthers.setCell _ _ _).trans (KeepsOthers.setCell _ _ _))).from _,⟨⟨rfl,pre,i,rfl,HP.out,by rw[HI.out];exact⟨HZ.out,HC.out⟩,by rw[HI.out];exact k6,k7⟩,kb,by have:=HB.out.size;have:=ar.out.size;simp;omega⟩⟩
       ·rw[decide_eq_false hc]at Z;have HC:=AA hc;clear hc
        gi_wp2_with (refine⟨trivial,?_⟩;gi_at_call 19;refine(CallsIn.inRound l (callsIn_wide.2 Z)).mono ?_;clear Z;rintro e W7 ⟨rfl,hb⟩;have ar:=AA hb;clear hb)
        refine⟨(eb.out _ ar.out).from _,Kb.below (ar.out.mono HB.out.size),⟨λu hu=> ?_,HB.out.trans (ar.out.mono HB.out.size)⟩⟩;rcases AG.1 hu with h | h
        ·exact HP.out u h
        ·simp only[BD]at h;subst h;rw[HI.out];exact λh=>HC.out h.2
      ·have gz:decide (0<=z)=false:=decide_eq_false hz;have HZ:=AA (show¬okZ (trE E) tq fr z from λh=>hz h.1);clear hz Z
       gi_wp2_with (refine By (show Fence.fn _ 19 from trivial) ?_)
       refine⟨KeepsFrom.refl _ _,Kb.refl _ _ _,⟨λu hu=> ?_,HB.out⟩⟩;rcases AG.1 hu with h | h
       ·exact HP.out u h
       ·simp only[BD]at h;subst h;rw[HI.out];exact HZ.out
     case done=>
      rintro D ys W hD rfl ⟨J,hB⟩ hK;have V:=d1.out.below hB;have e6:=V.b6.cell;have f6:=V.b6.frozen;have e7:=V.b7.cell;have f7:=V.b7.frozen;obtain⟨k6,k7,kb⟩:=V.fin 0 17;have ej:=AA (((KeepsOthers.setCell W ⟨w.heap.size+1+1+1,0,none⟩ (.int .i64 0)).trans (KeepsOthers.setCell _ ⟨w.heap.size+1+1+1+1,0,none⟩ (.int .i64 17))).same D _ hK rfl);have cp:=AA (fs.out J);have K6:=AA k6;have K7:=AA k7;have KB:=AA kb;have go:WB.heap.size<=((W.setCell ⟨w.heap.size+1+1+1,0,none⟩ (.int .i64 0)).setCell ⟨w.heap.size+1+1+1+1,0,none⟩ (.int .i64 17)).heap.size:=by simpa using hB.size
      clear V J hB k6 k7 kb
      gi_wp2
      generalize (W.setCell ⟨w.heap.size+1+1+1,0,none⟩ (.int .i64 0)).setCell ⟨w.heap.size+1+1+1+1,0,none⟩ (.int .i64 17)=WZ at *;refine⟨Ad,.inl ⟨_,_,rfl,run_takeDeferred ej.out,?_⟩⟩;have hg:=grownBy_putObj' WZ D (.deferred none);have cc:=K6.out.kept hg (λe=>by injection e with e;omega);have cd:=K7.out.kept hg (λe=>by injection e with e;omega);exact⟨_,eV rfl _ _ rfl rfl (cX Dj rfl cc.cell) (cX Tryz.underlying40 rfl cd.cell),_,_,rfl,cp.out,KB.out.trans (belowK_b (w:=w) (AE _) WZ D _ _ no ej.out rfl rfl)⟩
     case stop=>
      rintro D c pre W hD J ⟨⟨rfl,ab,i,f9,eP,eS,b6,b7⟩,hB,gv⟩ hK;subst f9;have cp:=AA (fu.out ab i J eP eS);have B6:=AA b6;have B7:=AA b7;have KB:=AA hB;clear J eP eS b6 b7 hB
      gi_wp2
      refine⟨Ad,.inl ⟨_,_,rfl,run_takeDeferred hK,?_⟩⟩;have hg:=grownBy_putObj' W D (.deferred none);have cc:=B6.out.kept hg (λe=>by injection e with e;omega);have cd:=B7.out.kept hg (λe=>by injection e with e;omega);exact⟨_,eV rfl _ _ rfl rfl (cX Dj rfl cc.cell) (cX Tryz.underlying40 rfl cd.cell),_,_,rfl,cp.out,KB.out.trans (belowK_b (w:=w) (AE _) W D _ _ no hK rfl rfl)⟩
  ·have HN:=AA (a4.out (λh=>kx h.1));rw[decide_eq_false kx]at au;clear kx ky a4
   gi_wp2_with (first
    | (refine⟨trivial,?_⟩;gi_at_call 108;refine(callsIn_wide.2 an).mono ?_;clear an;rintro e w2 ⟨rfl,hb⟩;have Y:=bt.out.below hb;have d3:=Y.b3.cell;have d5:=Y.b5.cell;have bz:=AA Y;have bi:=au.out w2 Y.bel;clear hb Y)
    | (refine⟨trivial,?_⟩;gi_at_call 108;refine(callsIn_wide.2 bi).mono ?_;clear bi;rintro e w3 ⟨rfl,hb⟩;have G:=bz.out.below hb;have e6:=G.b6.cell;have f6:=G.b6.frozen;have e7:=G.b7.cell;have f7:=G.b7.frozen;have ao:=AA G;clear hb G))
   obtain⟨k6,k7,kb⟩:=ao.out.fin 0 6;exact⟨_,eV rfl _ _ rfl rfl (cX Dj rfl k6.cell) (cX Tryz.underlying40 rfl k7.cell),_,_,rfl,HN.out,kb⟩
 ·have HN:=AA (a4.out (λh=>ky h.2));rw[decide_eq_false ky]at an;clear ky a4 au
  gi_wp2_with (first
   | (refine⟨trivial,?_⟩;gi_at_call 108;refine(callsIn_wide.2 an).mono ?_;clear an;rintro e w3 ⟨rfl,hb⟩;have G:=bt.out.below hb;have e6:=G.b6.cell;have f6:=G.b6.frozen;have e7:=G.b7.cell;have f7:=G.b7.frozen;have ao:=AA G;clear hb G)
   | (refine By (show Cd.fn 108 from trivial) ?_))
  obtain⟨k6,k7,kb⟩:=ao.out.fin 0 6;exact⟨_,eV rfl _ _ rfl rfl (cX Dj rfl k6.cell) (cX Tryz.underlying40 rfl k7.cell),_,_,rfl,HN.out,kb⟩
end
section
open Classical
theorem iNam{c:Nm}(h:bY c):Nam c:=.inl h
set_option maxRecDepth 100000 in
set_option maxHeartbeats 4000000 in
theorem kF(w:World):AC AB 53 #[] w λe w'=>e= .returned (.bool true)/\Bi w.heap.size w w':=by
 have db:=q_New w;go_enter Tryz.func53,Tryz.ntmps53
 go_upto_region 2 with(go_at_call 31;refine db.mono ?_;rintro e w1 ⟨t,m,rfl,hT,h1,h2,h3⟩;have HI:=AA (TInv.new hT h1 h2 h3);have cq:=qr (c:=nB) (p:=nA) (f:=0) hT TOk.nil (iNam iB) (iNam iA);clear db hT h1 h2 h3)
 go_upto_region 6 with(first
  | (go_at_call 67;refine cq.mono ?_;rintro e w2 ⟨E2,R2,a0,rfl,hP,hR,hA⟩;have bq:=AA (HI.out.att hP hR hA);obtain⟨rfl,fd⟩:=aw_u1 (REq.refl _) hA;have ej:=AA (hR.trans fd);have cr:=qr (c:=nC) (p:=nA) (f:=5) bq.out.tm bq.out.sane.ok (iNam iC) (iNam iA);clear cq hP hR hA fd HI)
  | (go_at_call 67;refine cr.mono ?_;rintro e w3 ⟨E3,R3,a0,rfl,hP,hR,hA⟩;have ee:=AA (bq.out.att hP hR hA);obtain⟨rfl,fe⟩:=aw_u2 ej.out hA;have ek:=AA (hR.trans fe);have fy:=pf (w:=w3) 0 1 0 it it it;clear cr hP hR hA fe bq ej)
  | (go_at_call 114;refine fy.mono ?_;rintro e G ⟨v,rfl,hv,hb⟩;have a5:=AA (ee.out.below hb);obtain⟨cs,rfl,ak⟩:=hv;obtain⟨c0,c1,c2,c3,c4,c5,c6,c7,c8,c9,ew,ez,eE,eP,eQ,eS,e0,e1,e2,e3,e5,rfl⟩:=zu (aE ak);have cu:=q_FixP (p:=sh 0 1 0) (c:=nC) a5.out.tm a5.out.sane.ok ⟨_,rfl,ak⟩ (kR it it it) (sh_cv _ _ _);clear ak hb fy ee)
  | (go_at_call 70;refine cu.mono ?_;rintro e w5 ⟨E5,R5,a0,rfl,hP,hR,hD⟩;have ef:=AA (a5.out.next (s:=⟨3,nC,nA,0,sh 0 1 0⟩) hP hR (by unfold DoS;exact hD) (kR it it it));obtain⟨rfl,ff⟩:=aw_u3 a5.out.sane.ok ek.out hD;have em:=AA (hR.trans ff);have fz:=pf (w:=w5) 1 0 0 it it it;clear cu hP hR hD ff a5 ek)
  | (go_at_call 114;refine fz.mono ?_;rintro e w6 ⟨v,rfl,hv,hb⟩;have a6:=AA (ef.out.below hb);obtain⟨cs,rfl,ak⟩:=hv;obtain⟨c0,c1,c2,c3,c4,c5,c6,c7,c8,c9,ew,ez,eE,eP,eQ,eS,e0,e1,e2,e3,e5,rfl⟩:=zu (aE ak);have bi:=zA (p:=sh 1 0 0) (c:=nB) (a:=0) a6.out.tm a6.out.sane.ok ⟨_,rfl,ak⟩ (kR it it it) (sh_cv _ _ _);clear ak hb fz ef)
  | (go_at_call 69;refine bi.mono ?_;rintro e w7 ⟨E7,R7,a0,rfl,hP,hR,hD⟩;have eg:=AA (a6.out.next (s:=⟨2,nB,nA,0,sh 1 0 0⟩) hP hR (by unfold DoS;exact hD) (kR it it it));obtain⟨rfl,fq⟩:=aw_u4 a6.out.sane.ok em.out hD;have ep:=AA (hR.trans fq);have fT:=pf (w:=w7) 3 0 0 it it it;clear bi hP hR hD fq a6 em)
  | (go_at_call 114;refine fT.mono ?_;rintro e w8 ⟨v,rfl,hv,hb⟩;have a7:=AA (eg.out.below hb);obtain⟨cs,rfl,ak⟩:=hv;obtain⟨c0,c1,c2,c3,c4,c5,c6,c7,c8,c9,ew,ez,eE,eP,eQ,eS,e0,e1,e2,e3,e5,rfl⟩:=zu (aE ak);have bp:=zA (p:=sh 3 0 0) (c:=nB) (a:=10) a7.out.tm a7.out.sane.ok ⟨_,rfl,ak⟩ (kR it it it) (sh_cv _ _ _);clear ak hb fT eg)
  | (go_at_call 69;refine bp.mono ?_;rintro e w9 ⟨E,R9,a0,rfl,hP,hR,hD⟩;have a3:=AA (a7.out.next (s:=⟨2,nB,nA,10,sh 3 0 0⟩) hP hR (by unfold DoS;exact hD) (kR it it it));obtain⟨rfl,fs⟩:=aw_u5 a7.out.sane.ok ep.out hD;have HR:=AA (hR.trans fs);have b8:=q_Path (x:=nB) (y:=nC) (a:=5) a3.out.tm a3.out.sane;clear bp hP hR hD fs a7 ep))
 rw[qM HR.out it,aw_path HR.out]at b8;simp only[if_pos]at b8;have eq:=AA (show∀wq,Bi w9.heap.size w9 wq->TM wq t m E from λwq k=>a3.out.tm.below k);have ad:=AA a3.out.sane;have ds:=AA a3.out.bel;clear a3;go_upto_region 7 with(go_at_call 48;refine b8.mono ?_;clear b8;rintro e wp ⟨v2,rfl,be,hb⟩;obtain⟨f8,f9,rfl⟩:=cL be;have ay:=AA be;have eb:=AA (ds.out.trans (hb.mono ds.out.size));have HT:=AA (show∀wq,Bi wp.heap.size wp wq->TM wq t m E from λwq k=>eq.out wq (hb.trans (k.mono hb.size)));clear be hb eq ds)
 have a9:=AF wp.heap.size wp;have bt:=lD (HT.out wp a9) ad.out (gX ad.out 5 nC nB);rw[aw_f1 HR.out]at bt;simp only at bt;refine Bn ?_;refine ae rfl (v:=ptB t) (w':=wp) Af ?_;refine BA rfl (λK hK=> ?_);go_simp;go_at_call 18
 refine bt.mono ?_;rintro e G ⟨v,rfl,hv,hb⟩;obtain⟨am,rfl,I,Z,aa⟩:=dH hv;refine hK _ _ ?_;clear hK K bt;refine ae rfl (v:=.tuple #[.agg am.toArray,.int .i64 0]) (w':=G) Af ?_;refine ae rfl (v:=.agg am.toArray) (w':=G) Ah ?_;refine ae rfl (v:=.int .i64 0) (w':=G) Ah ?_;have F:=PB.new G;have ab:aR (G.alloc (.cells ai.toArray 39)) (.agg am.toArray) (sh 2 (-1) 0):=IsL.mono hv F.bel;have U:=F.there;rw[<-I]at U;have J:=aQ am 0 _ (hb.trans (F.bel.mono hb.size)) hb.size (b:=G.heap.size);have H4:=AA ((F.base (a9.trans (hb.mono (a9).size))).put (us:=am) I aa);have et:=AA (F.keep (us:=am) ab);refine ae rfl (v:=.pointer (some ⟨G.heap.size,0,none⟩)) (w':=G.alloc (.cells ai.toArray 39)) (by go_simp;try rfl) ?_;refine BX rfl _ _ _ rfl G.heap.size 0 am.toArray rfl rfl (by simpa using U) (bc I) Z ?_;rw[show am.toArray.toList=am from rfl];have ap:=AA ((a9).trans (J.mono (a9).size));generalize hW5:(G.alloc (.cells ai.toArray 39)).setCells G.heap.size 0 am=W4 at *;obtain⟨B4,e7⟩:∃B,G.heap.size=B:=⟨_,rfl⟩;rw[e7]at H4⊢;clear hW5 e7 F ab U J hv hb Z aa I;have ed:=AA H4.out.ge;have bz:=lD (HT.out W4 ap.out) ad.out (gX ad.out 11 nA nB);rw[aw_f2 HR.out]at bz;simp only at bz;go_upto_region 8 with(fail)
 refine Bn ?_;refine ae rfl (v:=ptB t) (w':=W4) Af ?_;refine BA rfl (λK hK=> ?_);go_simp;go_at_call 18
 refine bz.mono ?_;rintro e G ⟨v,rfl,hv,hb⟩;obtain⟨an,rfl,I,Z,aa⟩:=dH hv;refine hK _ _ ?_;clear hK K bz;refine ae rfl (v:=.tuple #[.agg an.toArray,.int .i64 17]) (w':=G) Af ?_;refine ae rfl (v:=.agg an.toArray) (w':=G) Ah ?_;refine ae rfl (v:=.int .i64 17) (w':=G) Ah ?_;have F:=PB.new G;have ab:aR (G.alloc (.cells ai.toArray 39)) (.agg an.toArray) Pq.zero:=IsL.mono hv F.bel;have U:=F.there;rw[<-I]at U;have J:=aQ an 0 _ (hb.trans (F.bel.mono hb.size)) hb.size (b:=G.heap.size);have d3:=AA (H4.out.next J);have ca:=AA (IsL.mono et.out J);have H6:=AA ((F.base (ap.out.trans (hb.mono (ap.out).size))).put (us:=an) I aa);have f4:=AA (F.keep (us:=an) ab);refine ae rfl (v:=.pointer (some ⟨G.heap.size,0,none⟩)) (w':=G.alloc (.cells ai.toArray 39)) (by go_simp;try rfl) ?_;refine BX rfl _ _ _ rfl G.heap.size 0 an.toArray rfl rfl (by simpa using U) (bc I) Z ?_;rw[show an.toArray.toList=an from rfl];have aq:=AA ((ap.out).trans (J.mono (ap.out).size));generalize hW5:(G.alloc (.cells ai.toArray 39)).setCells G.heap.size 0 an=W6 at *;obtain⟨B6,e9⟩:∃B,G.heap.size=B:=⟨_,rfl⟩;rw[e9]at H6⊢;clear hW5 e9 F ab U J hv hb Z aa I;clear H6 f4;have bO:=lD (HT.out W6 aq.out) ad.out (gX ad.out 4 nC nB);rw[aw_f3 HR.out]at bO;simp only at bO;go_upto_region 9 with(fail)
 refine Bn ?_;refine ae rfl (v:=ptB t) (w':=W6) Af ?_;refine BA rfl (λK hK=> ?_);go_simp;go_at_call 18
 refine bO.mono ?_;rintro e G ⟨v,rfl,hv,hb⟩;obtain⟨ao,rfl,I,Z,aa⟩:=dH hv;refine hK _ _ ?_;clear hK K bO;refine ae rfl (v:=.tuple #[.agg ao.toArray,.int .i64 18]) (w':=G) Af ?_;refine ae rfl (v:=.agg ao.toArray) (w':=G) Ah ?_;refine ae rfl (v:=.int .i64 18) (w':=G) Ah ?_;have F:=PB.new G;have ab:aR (G.alloc (.cells ai.toArray 39)) (.agg ao.toArray) Pq.zero:=IsL.mono hv F.bel;have U:=F.there;rw[<-I]at U;have J:=aQ ao 0 _ (hb.trans (F.bel.mono hb.size)) hb.size (b:=G.heap.size);have d4:=AA (d3.out.next J);have cb:=AA (IsL.mono ca.out J);have H8:=AA ((F.base (aq.out.trans (hb.mono (aq.out).size))).put (us:=ao) I aa);have f5:=AA (F.keep (us:=ao) ab);refine ae rfl (v:=.pointer (some ⟨G.heap.size,0,none⟩)) (w':=G.alloc (.cells ai.toArray 39)) (by go_simp;try rfl) ?_;refine BX rfl _ _ _ rfl G.heap.size 0 ao.toArray rfl rfl (by simpa using U) (bc I) Z ?_;rw[show ao.toArray.toList=ao from rfl];have ar:=AA ((aq.out).trans (J.mono (aq.out).size));generalize hW5:(G.alloc (.cells ai.toArray 39)).setCells G.heap.size 0 ao=W8 at *;obtain⟨B8,fc⟩:∃B,G.heap.size=B:=⟨_,rfl⟩;rw[fc]at H8⊢;clear hW5 fc F ab U J hv hb Z aa I;clear H8 f5;have b2:=lD (HT.out W8 ar.out) ad.out (gX ad.out 4 nX nB);rw[aw_f4 HR.out]at b2;simp only at b2;go_upto_region 10 with(fail)
 refine Bn ?_;refine ae rfl (v:=ptB t) (w':=W8) Af ?_;refine BA rfl (λK hK=> ?_);go_simp;go_at_call 18
 refine b2.mono ?_;rintro e G ⟨v,rfl,hv,hb⟩;obtain⟨Y,rfl,I,Z,aa⟩:=dH hv;refine hK _ _ ?_;clear hK K b2;refine ae rfl (v:=.tuple #[.agg Y.toArray,.int .i64 6]) (w':=G) Af ?_;refine ae rfl (v:=.agg Y.toArray) (w':=G) Ah ?_;refine ae rfl (v:=.int .i64 6) (w':=G) Ah ?_;have F:=PB.new G;have ab:aR (G.alloc (.cells ai.toArray 39)) (.agg Y.toArray) Pq.zero:=IsL.mono hv F.bel;have U:=F.there;rw[<-I]at U;have J:=aQ Y 0 _ (hb.trans (F.bel.mono hb.size)) hb.size (b:=G.heap.size);have d5:=AA (d4.out.next J);have cc:=AA (IsL.mono cb.out J);have d2:=AA ((F.base (ar.out.trans (hb.mono (ar.out).size))).put (us:=Y) I aa);have er:=AA (F.keep (us:=Y) ab);refine ae rfl (v:=.pointer (some ⟨G.heap.size,0,none⟩)) (w':=G.alloc (.cells ai.toArray 39)) (by go_simp;try rfl) ?_;refine BX rfl _ _ _ rfl G.heap.size 0 Y.toArray rfl rfl (by simpa using U) (bc I) Z ?_;rw[show Y.toArray.toList=Y from rfl];have au:=AA ((ar.out).trans (J.mono (ar.out).size));generalize hW5:(G.alloc (.cells ai.toArray 39)).setCells G.heap.size 0 Y=f6 at *;obtain⟨gb,cn⟩:∃B,G.heap.size=B:=⟨_,rfl⟩;rw[cn]at d2⊢;clear hW5 cn F ab U J hv hb Z aa I;clear d2 er;clear ap aq ar H4 d3 d4 et ca cb;have cx:=qO (tq:=nC) (fr:=nB) (HT.out f6 au.out) ad.out
 go_upto_region 13 with(first
  | (go_at_call 50;refine cx.mono ?_;clear cx;rintro e f7 ⟨n1,c1,rfl,hL,hb⟩;obtain⟨rfl,rfl⟩:=aw_lat1 HR.out hL;have av:=AA (au.out.trans (hb.mono au.out.size));have ea:=AA (d5.out.next hb);have cd:=AA (IsL.mono cc.out hb);have cz:=qO (tq:=nA) (fr:=nC) (HT.out f7 av.out) ad.out;clear hL hb au d5 cc)
  | (go_at_call 50;refine cz.mono ?_;clear cz;rintro e dT ⟨n2,c2,rfl,hL,hb⟩;obtain⟨rfl,rfl⟩:=aw_lat2 HR.out hL;have ac:=AA (av.out.trans (hb.mono av.out.size));have dq:=AA (ea.out.next hb);have cl:=AA (IsL.mono cd.out hb);have a1:=q_Across (tq:=nB) (ta:=10) (fr:=nB) (fa:=0) (th:=nA) (HT.out dT ac.out) ad.out (acr_ok ad.out nB 10 nB 0 nA);clear hL hb av ea cd))
 rw[aw_f8 HR.out]at a1;simp only at a1;have f3:=AA (show B4<dT.heap.size from(AZ.1 dq.out.blk).1);refine Bn ?_;refine ae rfl (v:=ptB t) (w':=dT) Af ?_;refine BA rfl (λK hK=> ?_);go_simp;go_at_call 49
 refine a1.mono ?_;rintro e G ⟨v,rfl,hv,hb⟩;obtain⟨V,rfl,I,Z,aa⟩:=dH hv;refine hK _ _ ?_;clear hK K a1;refine ae rfl (v:=.tuple #[.agg V.toArray,.int .i64 0]) (w':=G) Af ?_;refine ae rfl (v:=.agg V.toArray) (w':=G) Ah ?_;refine ae rfl (v:=.int .i64 0) (w':=G) Ah ?_;have F:=PB.new G;have ab:aR (G.alloc (.cells ai.toArray 39)) (.agg V.toArray) (sh (-2) 0 0):=IsL.mono hv F.bel;have U:=F.there;rw[<-I]at U;have J:=aQ V 0 _ (hb.trans (F.bel.mono hb.size)) hb.size (b:=G.heap.size);have dr:=AA (dq.out.next J);have cm:=AA (IsL.mono cl.out J);have a2:=AA ((F.base (ac.out.trans (hb.mono (ac.out).size))).put (us:=V) I aa);have b9:=AA (F.keep (us:=V) ab);refine ae rfl (v:=.pointer (some ⟨G.heap.size,0,none⟩)) (w':=G.alloc (.cells ai.toArray 39)) (by go_simp;try rfl) ?_;refine BX rfl _ _ _ rfl G.heap.size 0 V.toArray rfl rfl (by simpa using U) (bc I) Z ?_;rw[show V.toArray.toList=V from rfl];have ax:=AA ((ac.out).trans (J.mono (ac.out).size));generalize hW5:(G.alloc (.cells ai.toArray 39)).setCells G.heap.size 0 V=d0 at *;have da:B4<G.heap.size:=Bt f3.out hb.size;obtain⟨dc,cp⟩:∃B,G.heap.size=B:=⟨_,rfl⟩;rw[cp]at a2 da⊢;clear hW5 cp F ab U J hv hb Z aa I;clear ac dq cl HT ad HR;go_upto_region 14 with(fail)
 have fx:=eh (w':=d0) ay.out (λg hg=>ax.out.block g (bV ay.out hg).2);have cv:=ed.out;obtain⟨ga,e4,d1⟩:=cm.out;have e4:am=ga:=by injection e4 with e4;simpa using e4
 obtain⟨e6,a4,bb⟩:=b9.out;have a4:V=e6:=by injection a4 with a4;simpa using a4
 rw[<-e4]at d1;rw[<-a4]at bb;clear e4 a4;have hs:=λ(ts:List Value)(hk:_)(hn:ts.length=142)=>mst_two (ts:=ts) (nt:=142) (ρ:=frs ((sh 2 (-1) 0).cs++(sh (-2) 0 0).cs)++([.row 9 3 (nmQ [nB,nA,nC])]:List Vp)) (we:=wp) (w:=d0) (T:=39) (b0:=B4) (b1:=dc) (l0:=oG [0,1,2,3,4,5,6]) (l1:=oG [7,8,9,10,11,12,13])
  (known:=[none,none,some (.v (.one (.ref 42))),some (.v (.one (.i .i64 0))),some (.v (.one (.ptr 0 0))),some (.v (.one (.i .i64 0))),none,some (.v (.one (.i .i64 17))),none,some (.v (.one (.i .i64 18))),none,some (.v (.one (.i .i64 6))),some (.v (.one (.i .i64 10))),some (.v (.one (.i .i64 0))),some (.v (.one (.i .i64 1099511627776))),some (.v (.one (.i .i64 0))),some (.v (.one (.ptr 1 0))),some (.v (.one (.i .i64 0)))])
  no ax.out cv a2.out.ge dr.out.blk a2.out.blk dr.out.nu a2.out.nu
  ((eL (xs:=(sh 2 (-1) 0).cs++(sh (-2) 0 0).cs) (ks:=[0,1,2,3,4,5,6]) (vs:=(sh 2 (-1) 0).cs) Ae).2 d1)
  ((eL (xs:=(sh 2 (-1) 0).cs++(sh (-2) 0 0).cs) (ks:=[7,8,9,10,11,12,13]) (vs:=(sh (-2) 0 0).cs) Ae).2 bb) hk hn
 have fu:Leaf.holds (frs ((sh 2 (-1) 0).cs++(sh (-2) 0 0).cs)++([.row 9 3 (nmQ [nB,nA,nC])]:List Vp)) (rf B4 dc) d0 (.ref 42) (.slice f8 [nB,nA,nC].length f9):=⟨_,rfl,names_row fx,λg hg hx=>by
  obtain⟨o,n,c,e⟩:=hg;have hl:=(bV ay.out (g:=g) (by injection e with e _ _;rw[e];rfl)).2;have gc:=a2.out.ge;rcases blk2_has hx with rfl | rfl<;>omega⟩
 refine reg_bool (x:=0) it (C:=[_,_,_,_,_]) (L:=[_])
  (il5 (I_names [nB,nA,nC] 42 rfl it) (abh 2 (-1) 0 (kr:=[0,1,2,3,4,5,6]) Ae it it it) (abh (-2) 0 0 (kr:=[7,8,9,10,11,12,13]) Ae it it it) (p6 (sh 2 (-1) 0) (sh 2 (-1) 0) [0,1,2,3,4,5,6] [0,1,2,3,4,5,6] Ae Ae ((kR it it it).mono it) ((kR it it it).mono it) rfl) (p6 (sh (-2) 0 0) (sh (-2) 0 0) [7,8,9,10,11,12,13] [7,8,9,10,11,12,13] Ae Ae ((kR it it it).mono it) ((kR it it it).mono it) rfl))
  (aj (o_bs3 42 nB nA nC rfl) az) Aa ?_ (hs _ ⟨fu,rfl,⟨B4,rfl,rfl⟩,rfl,rfl,rfl,rfl,rfl,rfl,rfl,rfl,⟨dc,rfl,rfl⟩,rfl,trivial⟩ rfl) ?_
 ·kernel_rfl
 intro a' w' h0 hd hk;have f0:=AA (eb.out.trans (hk.to.mono eb.out.size));clear hs fu d1 bb fx cv da hk ax dr cm a2 b9 ay;go_wp2;refine A7 (results_tmp rfl _ _ _) hd ?_;exact⟨congrArg Ending.returned h0,f0.out⟩
end
section
open Classical
theorem qry_nu(s:Qry):∀u∈s.cs,noU u:=λu F n e=>by
 subst e;simp[Qry.cs]at F
end
section
open Classical
section
variable {P:AW} {H:World->Prop} {w:World} {v:Value} {n d i:Nat} {o:Oper} {l:List (Nat×Value)} {a:Act} {ops:Array Oper} {Q:Exit->Act->World->Prop} {md:Region.Mode} {fuel:Nat} {listed:Array Bool}
end
theorem wp_mid{P:AW}{Q:Exit->Act->World->Prop}{a:Act}{c:Code}(I:Act->World->Prop)(F:c.wp P (Exit.then I Q) a w)(hy:∀a w,I a w->Q .normal a w):c.wp P Q a w:=
 wp_mono F λe a w h=>by cases e<;>first | exact hy _ _ h | exact h
end
end Go.Proofs.YtggfmklppkioeaaGreat
