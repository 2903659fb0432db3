/- An operation or a call is taken in a region that draws its order, guarded or not. -/
import Derived.Test.YtggfmklppkioeaaGreatZKAcrossT12
import Derived.Test.YtggfmklppkioeaaGreatL11
namespace Go.Proofs.YtggfmklppkioeaaGreat
set_option linter.unusedSimpArgs false
set_option linter.unusedVariables false
set_option maxRecDepth 100000
open Go.RowKit
open _root_.Go renaming wp_block → Cr,wp_ret → Cs,wp_seq → BQ
open _root_.Go.RowKit.Below renaming refl → AH
open _root_.Go.Region renaming ready → BK,wanted → A6
open _root_.Go.Proofs.Tryz renaming func39 → C0,prog → AD
section
open Classical
section
variable {P:Program} {H:World->Prop} {w:World} {v:Value} {n d i:Nat} {o:Oper} {l:List (Nat×Value)} {a:Act} {ops:Array Oper} {Q:Exit->Act->World->Prop} {md:Region.Mode} {fuel:Nat} {listed:Array Bool}
theorem yG(i:Nat)(J:Kn n l a)(I:H w)(h:∀ {a'},Kn n ((d,v)::l) a'->wpAnyH AD md ops Q H fuel (listed.setIfInBounds i true) a' w)
  (hi:ops[i]? =some o:=by rfl)(hs:Region.noSelect ops=true:=by kernel_rfl)(hf:Region.free md ops listed i=true:=by kernel_rfl)(hr:(BK md ops listed).contains i=true:=by kernel_rfl)(F:o.dst=some d:=by rfl)(hn:d<n:=by decide)(G:∀c a a' w,a'.defers=a.defers->Q (.panic c) a w->Q (.panic c) a' w:=by exact λc a a' w e h=>⟨e.trans h.1,h.2⟩)(C:A6 o (yielded ops a.tmps)=true:=by first | exact eV rfl | exact fS (by assumption) rfl rfl rfl rfl)
  (hy:∀w,H w->(execOp a.eval o).run AD w= .ok (.value v) w:=by intro w C;first | exact jY (by assumption) rfl rfl | exact ju (by assumption) rfl rfl | exact yY (by assumption) rfl rfl rfl | exact uz (by assumption) rfl rfl (by assumption) C | exact j4 (r:=true) (by assumption) rfl rfl rfl (by first | exact rfl | (simp only[cpI];omega))):wpAnyH AD md ops Q H (fuel+1) listed a w:=by
 refine wpAnyH_take (v:=v) hi hs hf hr (λc a w h=>G c (a.put o.dst v) a w (by rw[F];rfl) h) (.inl ⟨C,hy⟩) I ?_;rw[F];exact h (J.put hn)
theorem yC{R:Ending->World->Prop}{f:FuncId}{C:Call}{vs:List Value}(i:Nat)(F:Kn n l a)(U:∀args w,(callFunc f args).run P w= .ok (.enter f args) w)(I:Calls P f vs.toArray w R)(h:∀ {e w'},R e w'->∃v,e= .returned v/\H w'/\∀a',Kn n ((d,v)::l) a'->wpAnyH P md ops Q H fuel (listed.setIfInBounds i true) a' w')
  (hr:BK md ops listed=[i]:=by kernel_rfl)(hi:ops[i]? =some o:=by rfl)(K:o.dst=some d:=by rfl)(hn:d<n:=by decide)(Y:o.op= .call C:=by rfl)(hc:C.callee= .value (.func f):=by rfl)(hx:wh l C.args.toList=some vs:=by rfl)(Z:A6 o (yielded ops a.tmps)=true:=by first | exact eV rfl | exact fS (by assumption) rfl rfl rfl rfl):wpAnyH P md ops Q H (fuel+1) listed a w:=
 wpAnyH_all hr Ad λj V=>by
  obtain rfl:j=i:=by simpa using V
  refine wpOp_step hi λG J=> ?_
  rw[if_pos Z];unfold Oper.wp;rw[dN F Y hc hx U];refine I.mono (λe w' hr=> ?_);obtain⟨v,rfl,hs,h2⟩:=h hr;show G (a.put o.dst v) w';rw[K];exact J _ _ ⟨hs,h2 _ (F.put hn)⟩
end
end
section
open Classical
theorem zp{w:World}{cs:List Value}(h:aZ w (Pq.zero.cs.map Fq.raw) cs):∃b d,cs[14]? =some (.slice b 0 d):=by
 obtain⟨_,_,_,_,_,rfl,_,_,h⟩:=h;obtain⟨_,_,_,_,_,rfl,_,_,h⟩:=h;obtain⟨_,_,_,_,_,rfl,_,_,h⟩:=h;obtain⟨_,_,_,_,_,rfl,_,_,h⟩:=h;obtain⟨_,_,_,_,_,rfl,_,_,h⟩:=h;exact⟨_,_,rfl⟩
set_option maxHeartbeats 2000000 in
theorem q_AcrossL{w:World}{v0:Value}(R0:List Stp)(q:Qry)(ay:∀s∈R0,s.Ok)(hq:q.Ok)(k0:io w v0 R0):Calls AD 11 #[v0,q.val] w λe w'=>e= .returned (.bool true)/\mBw w w':=by
 obtain⟨av,c0,rfl,_⟩:=k0.row;go_enter Tryz.func11,Tryz.ntmps11
 refine bf 128 [(0,.slice av R0.length c0),(1,.agg q.cs.toArray)] λC=> ?_
 refine mDn ?_;refine bg ?_;refine vX (aby q) C λ{_ W B} V C=> ?_
 refine sZ C ?_;intro _ C;have f0:LdB W 5 (.pointer (some ⟨B,0+0,none⟩)) (.int .u8 q.a):=V.one rfl;have f1:LdB W 5 (.pointer (some ⟨B,0+1,none⟩)) (.int .u8 q.b):=V.one rfl;have f2:LdB W 5 (.pointer (some ⟨B,0+2,none⟩)) (.int .u8 q.c):=V.one rfl;have f3:LdB W 3 (.pointer (some ⟨B,0+3,none⟩)) (.int .i64 q.t):=V.one rfl;have f4:LdB W 3 (.pointer (some ⟨B,0+4,none⟩)) (.int .i64 q.o):=V.one rfl;by_cases b0:20<R0.length
 ·refine sX C ?_;intro _ C;refine mCt C ?_;refine mDn ?_;refine bg ?_;refine wC C (af Tryz.func53 rfl rfl) (cX W) λ{e w1} G=> ?_
  obtain⟨rfl,b1⟩:=G;refine⟨_,rfl,λ_ C=> ?_⟩;refine sZ C ?_;intro _ C;refine mT1 C ?_;exact⟨rfl,V.bel.trans (b1.mono V.bel.size)⟩
 ·refine sX C ?_;intro _ C;refine ci C ?_;refine sA C ?_;intro _ C;refine wC C (af Tryz.func57 rfl rfl) (oC R0 ay (k0.below V.bel) no) λ{e w1} G=> ?_
  obtain⟨t,m,tb,E,v,L,rfl,hP⟩:=G;refine⟨_,rfl,λ_ C=> ?_⟩;refine sZ C ?_;intro _ C;refine sX C ?_;intro _ C;refine ci C ?_;have f0:=f0.mono hP.ti.bel;have f1:=f1.mono hP.ti.bel;have f2:=f2.mono hP.ti.bel;have f3:=f3.mono hP.ti.bel;have f4:=f4.mono hP.ti.bel;have hb:=AH w1.heap.size w1;refine uA C ?_;intro _ C;refine uC C (.string (bM q.a)) (af C0 rfl rfl) (λw hb=>(gE q.a hq.a).mono (by rintro e w' ⟨rfl,rfl⟩;exact⟨rfl,AH _ _⟩)) λC=> ?_
  refine uD C ?_;intro _ C;refine uC C (.string (bM q.b)) (af C0 rfl rfl) (λw hb=>(gE q.b hq.b).mono (by rintro e w' ⟨rfl,rfl⟩;exact⟨rfl,AH _ _⟩)) λC=> ?_
  refine uD C ?_;intro _ C;refine uC C (.string (bM q.c)) (af C0 rfl rfl) (λw hb=>(gE q.c hq.c).mono (by rintro e w' ⟨rfl,rfl⟩;exact⟨rfl,AH _ _⟩)) λC=> ?_
  refine uZ C ?_;intro _ C w' Y;generalize bM q.a=x at *;generalize bM q.b=y at *;generalize bM q.c=z at *;have hS:=hP.ti.sane;have hn:L.length<=1000000:=by have:=hP.le;omega
  have e1:=mM hP.rq hS.ok q.t z x;have e2:=mM hP.rq hS.ok q.o y z;have I:=λwq (k:Below w1.heap.size w1 wq)=>hP.below k
  have aa:=λwq (k:Below w1.heap.size w1 wq)=>V.bel.trans ((I wq k).ti.bel.mono V.bel.size)
  clear hb hP V;refine uA C ?_;intro _ C;refine uC C (.int .i64 (aP (trR L) q.t z x).2) (af Tryz.func58 rfl rfl) (λw hb=>wG (I w hb).rm (I w hb).sr z x q.t hn) λC=> ?_
  refine uD C ?_;intro _ C;refine uC C (.int .i64 (aP (trR L) q.o y z).2) (af Tryz.func58 rfl rfl) (λw hb=>wG (I w hb).rm (I w hb).sr y z q.o hn) λC=> ?_
  clear Y;refine uZ C ?_;intro _ C w' Y;rw[<-e1,<-e2]at C;clear e1 e2;refine sA C ?_;intro _ C;refine wC C (af Tryz.func49 rfl rfl) (za (I _ Y).ti.tm hS (acr_ok hS y q.o x q.t z)) λ{e w3} G=> ?_
  obtain⟨_,rfl,⟨cs,rfl,F⟩,b3⟩:=G;refine⟨_,rfl,λ_ C=> ?_⟩;refine sD C ?_;intro _ C;refine vA C 21 λ{_ _ ap _} V hz C=> ?_
  refine vFR V F hz C λ{_ w4} U _ C=> ?_
  refine sZ C ?_;intro _ C;have hb:=Y.trans ((b3.trans (U.bel.mono b3.size)).mono Y.size);clear V Y;have ax:=AH w4.heap.size w4;by_cases h1:(aP (trE E) q.t z x).2=0
  ·by_cases h2:(aP (trE E) q.o y z).2=0
   ·have hA:pZ (trE E) y q.o x q.t z=((aP (trE E) q.o y z).1.mul (aP (trE E) q.t z x).1,0):=by unfold pZ;rw[if_neg (by simp[h1]),if_neg (by simp[h2])]
    rw[hA]at F C;rw[h1,h2]at C;obtain⟨o1,g1⟩:=fD hS h1;obtain⟨o2,g2⟩:=fD hS h2;have c1:=fG (I _ hb).ti.tm hS (dD hS q.t z x);have c2:=λwq k=>fG (I wq k).ti.tm hS (dD hS q.o y z)
    rw[h1]at c1;rw[h2]at c2;generalize (aP (trE E) q.t z x).1=P1 at *;generalize (aP (trE E) q.o y z).1=P2 at *;have aq:=U.fr F;have an:=F.mono U.bel;clear F U hA h1 h2;refine sX C ?_;intro _ C;refine ci C ?_;refine sA C ?_;intro _ C;refine wC C (af Tryz.func18 rfl rfl) (c1) λ{e w5} G=> ?_
    obtain⟨_,rfl,⟨a1,rfl,ad⟩,b5⟩:=G;refine⟨_,rfl,λ_ C=> ?_⟩;refine sD C ?_;intro _ C;refine vA C 21 λV hz C=> ?_
    refine vFR V ad hz C λ{_ w6} ab _ C=> ?_
    refine sZ C ?_;intro _ C;have b6:=b5.trans (ab.bel.mono b5.size);have hb:=hb.trans (b6.mono hb.size);have ar:=ab.fr ad;have ao:=ad.mono ab.bel;clear b5 V ab ad c1;refine sA C ?_;intro _ C;refine wC C (af Tryz.func18 rfl rfl) (c2 _ hb) λ{e w7} G=> ?_
    obtain⟨_,rfl,⟨a2,rfl,ak⟩,b7⟩:=G;refine⟨_,rfl,λ_ C=> ?_⟩;refine sD C ?_;intro _ C;refine vA C 21 λV hz C=> ?_
    refine vFR V ak hz C λ{_ w8} ac _ C=> ?_
    refine sZ C ?_;intro _ C;have b8:=b7.trans (ac.bel.mono b7.size);have hb:=hb.trans (b8.mono hb.size);have a3:=ac.fr ak;have a0:=ak.mono ac.bel;have ar:=ar.mono b8;have ao:=ao.mono b8;have b9:=b6.trans (b8.mono b6.size);have aq:=aq.mono b9;have an:=an.mono b9;clear b7 V ac ak c2 b6 b8 b9 ax;have h8:=(AH w8.heap.size w8).drew;refine mDn ?_;refine wp_region_held_drew (S:=λw'=>mBw w8 w') Aa h8 (λK=> ?_);refine yG 0 C K λC=> ?_
    refine yG 1 C K λC=> ?_
    refine yG 2 C K λC=> ?_
    refine yG 3 C K λC=> ?_
    refine yG 4 C K λC=> ?_
    refine yG 5 C K λC=> ?_
    refine yG 6 C K λC=> ?_
    refine yG 7 C K λC=> ?_
    refine yG 8 C K λC=> ?_
    refine yG 9 C K λC=> ?_
    refine yG 10 C K λC=> ?_
    refine yG 11 C K λC=> ?_
    refine yG 12 C K λC=> ?_
    refine yG 13 C K λC=> ?_
    refine yC 14 C (af Tryz.func21 rfl rfl) (jh _ _ P2 P1 _ ⟨_,rfl,a0.mono h8⟩ ⟨_,rfl,ao.mono h8⟩ (o2.mono it) (o1.mono it) g2 g1) λ{e w9} G=> ?_
    obtain⟨v9,rfl,h9,k9⟩:=G;have k9:=h8.trans (k9.mono h8.size);refine⟨_,rfl,k9,λ_ C=> ?_⟩;have om:(P2.mul P1).ok 100000000:=(o2.mul o1 g2 g1).mono it;refine yC 15 C (af Tryz.func55 rfl rfl) (lz _ _ (P2.mul P1) (P2.mul P1) _ ⟨_,rfl,an.mono k9⟩ h9 om om rfl (g2.mul g1) (g2.mul g1)) λ{e a4} G=> ?_
    obtain⟨rfl,J⟩:=G;have J:=k9.trans (J.mono k9.size);refine⟨_,rfl,J,λ_ C=> ?_⟩;refine yG 16 C J λC=> ?_
    refine yG 17 C J λC=> ?_
    refine yC 18 C (af Tryz.func53 rfl rfl) (cX _) λ{e au} G=> ?_
    obtain⟨rfl,Z⟩:=G;have Z:=J.trans (Z.mono J.size);refine⟨_,rfl,Z,λ_ C=> ?_⟩;refine yG 19 C Z λC=> ?_
    refine yG 20 C Z λC=>wpAnyH_done Aa ?_ _
    refine mUp ?_;refine mT1 C ?_;exact⟨rfl,aa _ (hb.trans (Z.mono hb.size))⟩
   ·have hA:pZ (trE E) y q.o x q.t z=(Pq.zero,(aP (trE E) q.o y z).2):=by unfold pZ;rw[if_neg (by simp[h1]),if_pos h2]
    rw[hA]at F C;rw[h1]at C;obtain⟨b',d',hd⟩:=zp F;have f5:LdB w4 29 (.pointer (some ⟨ap,0+12+0+2+0,none⟩)) (.slice b' 0 d'):=U.one (k:=0+12+0+2+0) (by simpa using hd);refine sX C ?_;intro _ C;refine mCt C ?_;refine sX C ?_;intro _ C;refine sX C ?_;intro _ C;refine mCt C ?_;refine sX C ?_;intro _ C;refine sA C ?_;intro _ C;refine wC C (af Tryz.func53 rfl rfl) (cX w4) λ{e au} G=> ?_
    obtain⟨rfl,am⟩:=G;refine⟨_,rfl,λ_ C=> ?_⟩;refine sZ C ?_;intro _ C;refine mT1 C ?_;exact⟨rfl,aa _ (hb.trans (am.mono hb.size))⟩
  ·have hA:pZ (trE E) y q.o x q.t z=(Pq.zero,(aP (trE E) q.t z x).2):=by unfold pZ;rw[if_pos h1]
   rw[hA]at F C;obtain⟨b',d',hd⟩:=zp F;have f5:LdB w4 29 (.pointer (some ⟨ap,0+12+0+2+0,none⟩)) (.slice b' 0 d'):=U.one (k:=0+12+0+2+0) (by simpa using hd);refine sX C ?_;intro _ C;refine mCt C ?_;refine sX C ?_;intro _ C;refine sX C ?_;intro _ C;refine ci C ?_;refine sA C ?_;intro _ C;refine wC C (af Tryz.func53 rfl rfl) (cX w4) λ{e au} G=> ?_
   obtain⟨rfl,am⟩:=G;refine⟨_,rfl,λ_ C=> ?_⟩;refine sZ C ?_;intro _ C;refine mT1 C ?_;exact⟨rfl,aa _ (hb.trans (am.mono hb.size))⟩
end
end Go.Proofs.YtggfmklppkioeaaGreat
