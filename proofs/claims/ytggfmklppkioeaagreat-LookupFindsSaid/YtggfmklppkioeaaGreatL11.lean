/- A step of the laws of package lookup, done to a tree and to the specification's tree. -/
import Derived.Test.YtggfmklppkioeaaGreatL10
import Derived.Laws.Rows
import Derived.Shelf.SortM.Plain
import Derived.Shelf.Slices.CompactI
import Derived.Ground.SlgmProg
import Derived.Ground.Names2Prog
import Derived.Sort.OwnSortedInts
import Derived.Lib.OwnBridge
import Derived.Sort.CutIn
namespace Go.Proofs.YtggfmklppkioeaaGreat
set_option linter.unusedSimpArgs false
set_option linter.unusedVariables false
set_option maxRecDepth 100000
open Go.RowKit
open _root_.Go.RowKit renaming Below → AW
open _root_.Go renaming Calls → AF,Operand → AS,bodyPost_ret → Ba,heap_alloc_new → Bs,wpList_plain → BC,wpList_store_mid → Ca,wp_block → Cr,wp_region_list → Bn,wp_ret → Cs,wp_seq → BQ
open _root_.And renaming intro → BA
open _root_.Array renaming getElem?_eq_some_iff → A2
open _root_.Go.RowKit.Below renaming refl → AH
open _root_.Go.Builtin renaming append_ → BT
open _root_.ByteArray renaming empty → BZ
open _root_.Go.DataW renaming trod_int → Dr
open _root_.Go.Ending renaming returned → BF
open _root_.Go.Fence renaming wide → Ce
open _root_.Go.Instr renaming sureAddr → DZ
open _root_.Go.IntKind renaming i64 → Bf,wrap_i64 → Cf
open _root_.Go.Lib renaming hid → AE
open _root_.List renaming append_nil → CO,cons_append → DA,find? → Ej,getD_eq_getElem?_getD → D2,getElem?_append_left → BB,getElem?_cons_zero → Eh,getElem?_eq_getElem → AM,getElem?_map → Bp,getElem_of_mem → BL,length → DU,length_append → Bj,length_cons → Bh,length_nil → Dc,length_take → A9,map_cons → Bq,map_nil → BS,map_toArray → CJ,mem_append → AJ,mem_cons → AY,mem_filter → Fb,mem_flatMap → Br,mem_map → Be,mem_of_getElem? → A5,mem_range → C6,mem_singleton → BP,nil_append → Db,not_mem_nil → Dx,range → Bm,replicate → D1,size_toArray → BW
open _root_.Nat renaming le_refl → AI,le_trans → AG,lt_of_lt_of_le → Bv,mul_assoc → C2,mul_comm → BY,pow_add → BD,pow_le_pow_right → Fa,zero_le → A3
open _root_.Option renaming map_some → BG,some → A4
open _root_.Rat renaming inv_mul_cancel → DD,mkRat_eq_iff → FL,mkRat_mul_mkRat → FM,mkRat_one → EK
open _root_.Go.Result renaming andThen_ok → CM
open _root_.Go.Sem renaming run_bind → AK,run_pure → Bu
open _root_.Go.Proofs.Tryz renaming func39 → C0,prog → AD,underlying0 → Fu,underlying3 → Do,underlying4 → DI,underlying5 → Dq,zeroValue0 → Fv,zeroValue4 → FQ
open _root_.Go.Value renaming int → AN,ownBlock → Cy
section
open Classical
variable{w:World}
theorem acN{k:Int}{X Y:AS}(C:0<=k):(do eqGuard .rem 5 X Y (.int .u8 k) (.int .u8 5);binOp .rem 5 (.int .u8 k) (.int .u8 5):Sem Value).run AD w= .ok (.int .u8 (k % 5)) w:=by
 have F:k.tmod 5=k % 5:=Int.tmod_eq_emod_of_nonneg C;clear C;go_simp
theorem uI{a:Int}(ha: -32768<=a/\a<32768):(convert 49 3 (.int .i16 a)).run AD w= .ok (.int .i64 a) w:=by
 have h1:Bf.wrap a=a:=by rw[Cf];omega
 clear ha;go_simp
theorem kx_stp{n:Nat}{o:Oper}{l:List (Nat×Value)}{a:Act}{x y:AS}{tm:Int}{cs:List Value}(C:Kn n l a)(F:o.op= .build 120 #[(0,x),(1,y)])(G:evK l x=some (.int .i64 tm))(hy:evK l y=some (.agg cs.toArray))(hl:cs.length=21):(execOp a.eval o).run AD w= .ok (.value (.agg (AN .i64 tm::cs).toArray)) w:=by
 have h:(Instr.build 120 #[(0,.int .i64 tm),(1,.agg cs.toArray)]).run AD w= .ok (.agg (AN .i64 tm::cs).toArray) w:=by
  match cs,hl with
  | [c0,c1,c2,c3,c4,c5,c6,c7,c8,c9,c10,c11,c12,c13,c14,c15,c16,c17,c18,c19,c20],_=>go_simp
 unfold execOp;simp only[F,CJ,Bq,BS];rw[C.evx G,C.evx hy];simp only[AK,h];rfl
theorem stp_nu(s:Stp):∀u∈s.cs,noU u:=λu C n e=>by
 subst e;simp[Stp.cs]at C
set_option maxHeartbeats 1000000 in
theorem q_do29{t m:Nat}{E:List Ch}{s:Stp}(h:TM w t m E)(hE:TOk (trE E))(hs:s.Ok):AF AD 54 #[ptB t,s.val] w λe w'=>DoPost w t m E (axOf s) e w':=by
 go_enter Tryz.func54,Tryz.ntmps54
 refine bf 53 [(0,ptB t),(1,.agg s.cs.toArray)] λC=> ?_
 refine mDn ?_;refine bg ?_;refine vX (stp_nu s) C λ{_ W B} V C=> ?_
 refine sZ C ?_;intro _ C;have hb:=AH W.heap.size W;have f0:LdB W 5 (.pointer (some ⟨B,0+0,none⟩)) (.int .u8 s.k):=V.one rfl;have f1:LdB W 5 (.pointer (some ⟨B,0+1,none⟩)) (.int .u8 s.c):=V.one rfl;have f2:LdB W 5 (.pointer (some ⟨B,0+2,none⟩)) (.int .u8 s.p):=V.one rfl;have f3:LdB W 49 (.pointer (some ⟨B,0+3,none⟩)) (.int .i16 s.a):=V.one rfl;have f4:LdB W 65 (.pointer (some ⟨B,0+4,none⟩)) (.int .i8 s.x):=V.one rfl;have f5:LdB W 5 (.pointer (some ⟨B,0+5,none⟩)) (.int .u8 s.u):=V.one rfl;refine uA C ?_;intro _ C;refine uC C (.string (bM s.c)) (af C0 rfl rfl) (λw hb=>(gE s.c hs.c).mono (by rintro e w' ⟨rfl,rfl⟩;exact⟨rfl,AH _ _⟩)) λC=> ?_
 refine uD C ?_;intro _ C;refine uC C (.string (bM s.p)) (af C0 rfl rfl) (λw hb=>(gE s.p hs.p).mono (by rintro e w' ⟨rfl,rfl⟩;exact⟨rfl,AH _ _⟩)) λC=> ?_
 refine uZ C ?_;intro _ C w' P;clear hb;refine sA C ?_;intro _ C;refine wC C (af Tryz.func86 rfl rfl) (q_Pose s.x s.u hs.x hs.u) λ{e w2} G=> ?_
 obtain⟨v2,rfl,⟨cs,rfl,H⟩,K⟩:=G;refine⟨_,rfl,λ_ C=> ?_⟩;refine vA C 21 λU hz C=> ?_
 refine vFR U H hz C λ{_ w3} U _ C=> ?_
 refine wln ?_;refine mUp ?_;have hb:=P.trans ((K.trans (U.bel.mono K.size)).mono P.size);have f7:=U.fr H;have G:=AH w3.heap.size w3;have hl:=aw H;have i3:aR w3 (.agg cs.toArray) (dx s.x s.u):=⟨cs,rfl,H.mono U.bel⟩;have b3:=V.bel.trans (hb.mono V.bel.size);have p2:=oo hs.x hs.u;have h3:=h.below b3;clear H K P U V;refine sA C ?_;intro _ C;refine wB C (.int .u8 (s.k % 5)) (hr:=acN hs.k.1) λC=> ?_
 refine wln ?_;refine mUp ?_;unfold axOf;by_cases k2:s.k % 5=2
 ·rw[if_pos k2];refine sX C ?_;intro _ C;refine mCt C ?_;refine sA C ?_;intro _ C;refine wV C (.int .i64 s.a) (hr:=uI hs.a) λC=> ?_
  refine wC C (af Tryz.func68 rfl rfl) (q_Detach h3 hE (bM s.c) s.a) λ{e w4} G=> ?_
  obtain⟨E',F,rfl,J,I⟩:=G;refine⟨_,rfl,λ_ C=> ?_⟩;refine sZ C ?_;intro _ C;refine mT1 C ?_;exact⟨E',_,F,rfl,TPost.pre b3 h J,.refl _,by unfold DoS;exact I⟩
 ·rw[if_neg k2];by_cases k3:s.k % 5=3
  ·rw[if_pos k3];refine sX C ?_;intro _ C;refine mCf C ?_;refine sX C ?_;intro _ C;refine mCt C ?_;refine sA C ?_;intro _ C;refine wV C (.int .i64 s.a) (hr:=uI hs.a) λC=> ?_
   refine sD C ?_;intro _ C;refine wY C (.agg (AN .i64 s.a::cs).toArray) (kx_stp C rfl rfl rfl (by simpa using hl)) λC=> ?_
   refine wC C (af Tryz.func69 rfl rfl) (aa8 (c:=bM s.c) (a:=s.a) (p:=dx s.x s.u) (cs:=cs) h3 hE i3 p2 (kF _ _)) λ{e w4} G=> ?_
   obtain⟨E',Y,F,rfl,J,Z,I⟩:=G;refine⟨_,rfl,λ_ C=> ?_⟩;refine sZ C ?_;intro _ C;refine mT1 C ?_;exact⟨E',Y,F,rfl,TPost.pre b3 h J,Z,by unfold DoS;exact I⟩
  ·rw[if_neg k3];by_cases k4:s.k % 5=4
   ·rw[if_pos k4];refine sX C ?_;intro _ C;refine mCf C ?_;refine sX C ?_;intro _ C;refine mCf C ?_;refine sX C ?_;intro _ C;refine mCt C ?_;refine sA C ?_;intro _ C;refine wC C (af Tryz.func70 rfl rfl) (q_FixP (c:=bM s.c) (p:=dx s.x s.u) (cs:=cs) h3 hE i3 p2 (kF _ _)) λ{e w4} G=> ?_
    obtain⟨E',Y,F,rfl,J,Z,I⟩:=G;refine⟨_,rfl,λ_ C=> ?_⟩;refine sZ C ?_;intro _ C;refine mT1 C ?_;exact⟨E',Y,F,rfl,TPost.pre b3 h J,Z,by unfold DoS;exact I⟩
   ·rw[if_neg k4];refine sX C ?_;intro _ C;refine mCf C ?_;refine sX C ?_;intro _ C;refine mCf C ?_;refine sX C ?_;intro _ C;refine ci C ?_;refine sA C ?_;intro _ C;refine wV C (.int .i64 s.a) (hr:=uI hs.a) λC=> ?_
    refine wC C (af Tryz.func67 rfl rfl) (sw (c:=bM s.c) (p:=bM s.p) (f:=s.a) h3 hE (kE _ hs.c.1) (kE _ hs.p.1)) λ{e w4} G=> ?_
    obtain⟨E',Y,F,rfl,J,Z,I⟩:=G;refine⟨_,rfl,λ_ C=> ?_⟩;refine sZ C ?_;intro _ C;refine mT1 C ?_;exact⟨E',Y,F,rfl,TPost.pre b3 h J,Z,by unfold DoS;exact I⟩
set_option maxHeartbeats 1000000 in
theorem q_by29{t:Nat}{v:Value}{L:List Rl}{s:Stp}(h:RM w t v L)(Y:TOk (trR L))(hn:L.length<=1000000)(hs:s.Ok):AF AD 119 #[ptB t,s.val] w λe w'=>ByPost w t v L (axOf s) e w':=by
 go_enter Tryz.func119,Tryz.ntmps119
 refine bf 53 [(0,ptB t),(1,.agg s.cs.toArray)] λC=> ?_
 refine mDn ?_;refine bg ?_;refine vX (stp_nu s) C λ{_ W B} V C=> ?_
 refine sZ C ?_;intro _ C;have hb:=AH W.heap.size W;have f0:LdB W 5 (.pointer (some ⟨B,0+0,none⟩)) (.int .u8 s.k):=V.one rfl;have f1:LdB W 5 (.pointer (some ⟨B,0+1,none⟩)) (.int .u8 s.c):=V.one rfl;have f2:LdB W 5 (.pointer (some ⟨B,0+2,none⟩)) (.int .u8 s.p):=V.one rfl;have f3:LdB W 49 (.pointer (some ⟨B,0+3,none⟩)) (.int .i16 s.a):=V.one rfl;have f4:LdB W 65 (.pointer (some ⟨B,0+4,none⟩)) (.int .i8 s.x):=V.one rfl;have f5:LdB W 5 (.pointer (some ⟨B,0+5,none⟩)) (.int .u8 s.u):=V.one rfl;refine uA C ?_;intro _ C;refine uC C (.string (bM s.c)) (af C0 rfl rfl) (λw hb=>(gE s.c hs.c).mono (by rintro e w' ⟨rfl,rfl⟩;exact⟨rfl,AH _ _⟩)) λC=> ?_
 refine uD C ?_;intro _ C;refine uC C (.string (bM s.p)) (af C0 rfl rfl) (λw hb=>(gE s.p hs.p).mono (by rintro e w' ⟨rfl,rfl⟩;exact⟨rfl,AH _ _⟩)) λC=> ?_
 refine uZ C ?_;intro _ C w' P;clear hb;refine sA C ?_;intro _ C;refine wC C (af Tryz.func86 rfl rfl) (q_Pose s.x s.u hs.x hs.u) λ{e w2} G=> ?_
 obtain⟨v2,rfl,⟨cs,rfl,H⟩,K⟩:=G;refine⟨_,rfl,λ_ C=> ?_⟩;refine vA C 21 λU hz C=> ?_
 refine vFR U H hz C λ{_ Z} U _ C=> ?_
 refine wln ?_;refine mUp ?_;have hb:=P.trans ((K.trans (U.bel.mono K.size)).mono P.size);have f7:=U.fr H;have G:=AH Z.heap.size Z;have hl:=aw H;have i3:aR Z (.agg cs.toArray) (dx s.x s.u):=⟨cs,rfl,H.mono U.bel⟩;have b3:=V.bel.trans (hb.mono V.bel.size);have p2:=oo hs.x hs.u;have h3:=h.below b3;clear H K P U V;refine sA C ?_;intro _ C;refine wB C (.int .u8 (s.k % 5)) (hr:=acN hs.k.1) λC=> ?_
 refine wln ?_;refine mUp ?_;unfold axOf;by_cases k2:s.k % 5=2
 ·rw[if_pos k2];refine sX C ?_;intro _ C;refine mCt C ?_;refine sA C ?_;intro _ C;refine wV C (.int .i64 s.a) (hr:=uI hs.a) λC=> ?_
  refine wC C (af Tryz.func92 rfl rfl) (q_DetachR h3 (bM s.c) s.a hn) λ{e w4} G=> ?_
  obtain⟨v',L',F,rfl,J,I⟩:=G;refine⟨_,rfl,λ_ C=> ?_⟩;refine sZ C ?_;intro _ C;refine mT1 C ?_;exact⟨v',L',F,rfl,RPost.pre b3 J,by unfold DoS;exact I⟩
 ·rw[if_neg k2];by_cases k3:s.k % 5=3
  ·rw[if_pos k3];refine sX C ?_;intro _ C;refine mCf C ?_;refine sX C ?_;intro _ C;refine mCt C ?_;refine sA C ?_;intro _ C;refine wV C (.int .i64 s.a) (hr:=uI hs.a) λC=> ?_
   refine sD C ?_;intro _ C;refine wY C (.agg (AN .i64 s.a::cs).toArray) (kx_stp C rfl rfl rfl (by simpa using hl)) λC=> ?_
   refine wC C (af Tryz.func93 rfl rfl) (q_SetRP (p:=dx s.x s.u) (cs:=cs) h3 hn Y i3 p2 (kF _ _)) λ{e w4} G=> ?_
   obtain⟨v',L',F,rfl,J,I⟩:=G;refine⟨_,rfl,λ_ C=> ?_⟩;refine sZ C ?_;intro _ C;refine mT1 C ?_;exact⟨v',L',F,rfl,RPost.pre b3 J,by unfold DoS;exact I⟩
  ·rw[if_neg k3];by_cases k4:s.k % 5=4
   ·rw[if_pos k4];refine sX C ?_;intro _ C;refine mCf C ?_;refine sX C ?_;intro _ C;refine mCf C ?_;refine sX C ?_;intro _ C;refine mCt C ?_;refine sA C ?_;intro _ C;refine wC C (af Tryz.func94 rfl rfl) (q_FixRP (p:=dx s.x s.u) (cs:=cs) h3 hn Y i3 p2 (kF _ _)) λ{e w4} G=> ?_
    obtain⟨v',L',F,rfl,J,I⟩:=G;refine⟨_,rfl,λ_ C=> ?_⟩;refine sZ C ?_;intro _ C;refine mT1 C ?_;exact⟨v',L',F,rfl,RPost.pre b3 J,by unfold DoS;exact I⟩
   ·rw[if_neg k4];refine sX C ?_;intro _ C;refine mCf C ?_;refine sX C ?_;intro _ C;refine mCf C ?_;refine sX C ?_;intro _ C;refine ci C ?_;refine sA C ?_;intro _ C;refine wV C (.int .i64 s.a) (hr:=uI hs.a) λC=> ?_
    refine wC C (af Tryz.func95 rfl rfl) (q_AttachR h3 Y (bM s.c) (bM s.p) s.a (kE _ hs.c.1) (kE _ hs.p.1) hn) λ{e w4} G=> ?_
    obtain⟨v',L',F,rfl,J,I⟩:=G;refine⟨_,rfl,λ_ C=> ?_⟩;refine sZ C ?_;intro _ C;refine mT1 C ?_;exact⟨v',L',F,rfl,RPost.pre b3 J,by unfold DoS;exact I⟩
end
section
open Classical
structure PI(w0 w:World)(t m tb:Nat)(E:List Ch)(v:Value)(L:List Rl)(k:Nat):Prop where
 ti:TInv w0 w t m E
 rm:RM w tb v L
 own:∀g∈fpR tb v L,w0.heap.size<=g
 dj:∀g∈fpR tb v L,g∉fpT t m E
 sr:Sane (trR L)
 rq:REq (trE E) (trR L)
 le:L.length<=k
section
variable {w0 w w1 w2 w3:World} {t m tb k:Nat} {E E':List Ch} {v v':Value} {L L':List Rl} {R':Tr} {s:Ax} {e e':Int}
theorem PI.below(h:PI w0 w t m tb E v L k)(b:AW w.heap.size w w1):PI w0 w1 t m tb E v L k:=⟨h.ti.below b,h.rm.below b,h.own,h.dj,h.sr,h.rq,h.le⟩
theorem TPost.rm(H:TM w t m E)(F:TPost w t m E w1 E')(G:RM w tb v L)(I:∀g∈fpR tb v L,g∉fpT t m E):RM w1 tb v L:=
 G.chg (X:=λg=>g∈fpT t m E) ⟨F.kp.size,λg C hn=>F.kp.block g C hn,λg C=>H.own g C⟩ I
theorem RPost.tm(G:RM w tb v L)(F:RPost w tb v L w1 v' L')(H:TM w t m E)(I:∀g∈fpT t m E,g∉fpR tb v L):TM w1 t m E:=
 H.chg (X:=λg=>g∈fpR tb v L) ⟨F.kp.size,λg C hn=>F.kp.block g C hn,λg C=>G.own g C⟩ I
theorem PI.step(h:PI w0 w t m tb E v L k)(J:TPost w t m E w1 E')(hr:REq (trE E') R')(V:DoS (trE E) s R' e)(h2:s.q.ok 2)(hb:AW w1.heap.size w1 w2)(G:RPost w2 tb v L w3 v' L')(K:DoS (trR L) s (trR L') e'):
  e=e'/\PI w0 w3 t m tb E' v' L' (k+1)/\w.heap.size<=w3.heap.size:=by
 obtain⟨Y,Z⟩:=DoS.uniq h.ti.sane.ok h.sr.ok h.rq V K;have C:=(h.ti.next J hr V h2).below hb;have P:=(TPost.rm h.ti.tm J h.rm h.dj).below hb;have I:∀g∈fpT t m E',g∉fpR tb v L:=λg H F=>by
  rcases J.fp g H with h1 | h1
  ·exact h.dj g F h1
  ·have:=h.rm.lt g F;omega
 have U:=RPost.tm P G C.tm I;refine⟨Y,⟨⟨U,C.sane,C.own,⟨G.kp.os.trans C.bel.os,G.kp.tape.trans C.bel.tape,G.kp.output.trans C.bel.output,AG C.bel.size G.kp.size,λg H=>(G.kp.block g (Bv H C.bel.size) (λhm=>by have:=h.own g hm;omega)).trans (C.bel.block g H)⟩⟩,G.rm,
  λg H=>(G.fp g H).elim (h.own g) (λh1=>AG C.bel.size h1),λg H F=> ?_,K.sane h.sr h2,hr.trans Z,AG (by have:=K.len;rw[wn,wn]at this;exact this) (Nat.succ_le_succ h.le)⟩,AG J.kp.size (AG hb.size G.kp.size)⟩
 rcases G.fp g H with h1 | h1
 ·exact I g F h1
 ·have:=C.tm.lt g F;omega
end
theorem q_rNew(w:World):AF AD 37 #[] w λe w'=>e= .returned (.agg #[.slice none 0 0])/\mBw w w':=by
 go_enter Tryz.func37,Tryz.ntmps37
 go_wp2;refine Ba (results_cell_row rfl _ _ w.heap.size rrT #[.slice none 0 0] (0,0) _ rfl (Bs w _) Tryz.underlying81 rfl Aa) rfl ?_;exact⟨rfl,(AH _ _).alloc (AI _) _⟩
theorem RM.new{w2:World}{tb:Nat}(h:w2.heap[tb]? =some (.cells #[.slice none 0 0] rrT (0,0))):RM w2 tb (.slice none 0 0) []:=by
 refine⟨h,⟨[],⟨World.ownsRow_nil _ _ _ _,λg C=>(by cases C)⟩,rfl,λj q F=>(by cases F)⟩,λl hl=>(by cases hl),by simp[fpR,Cy],λg C=> ?_⟩;simp only[fpR,Cy,Option.toList_none,List.flatMap_nil,CO,AY,Dx,or_false]at C;subst C;refine bv.mk' h (λk n e=> ?_)
 cases k with
 | zero=>simp at e
 | succ k=>simp at e
end
section
open Classical
set_option maxHeartbeats 1000000 in
theorem oC{w:World}{v0:Value}(H:List Stp)(au:∀s∈H,s.Ok)(k0:io w v0 H)(hn:H.length<=20):AF AD 57 #[v0] w λe w'=>∃t m tb E v L,e= .returned (.tuple #[ptB t,ptB tb,.bool true])/\PI w w' t m tb E v L H.length:=by
 obtain⟨Z,c0,rfl,hr0⟩:=k0.row;go_enter Tryz.func57,Tryz.ntmps57
 refine bf 32 [(0,.slice Z H.length c0)] λC=> ?_
 refine sX C ?_;intro _ C;refine mDn ?_;refine bg ?_;refine wC C (af Tryz.func31 rfl rfl) (q_New w) λ{e w1} Y=> ?_
 obtain⟨t,m,rfl,hT,h1,h2,h3⟩:=Y;have F:=TInv.new hT h1 h2 h3;clear hT h1 h2 h3;refine⟨_,rfl,λ_ C=> ?_⟩;refine sZ C ?_;intro _ C;refine mDn ?_;refine bg ?_;refine wC C (af Tryz.func37 rfl rfl) (q_rNew w1) λ{e w2} Y=> ?_
 obtain⟨rfl,ad⟩:=Y;have F:=F.below ad;refine⟨_,rfl,λ_ C=> ?_⟩;refine vA C 1 λ{_ _ tb _} V hz C=> ?_
 refine vF (cs:=[.slice none 0 0]) V hz (by simp[Value.oneCell']) (λu hu n e=>by subst e;simp at hu) C (λ{_ w3} V _ C=> ?_) Aa;refine wln ?_;refine mUp ?_;have U:∀g∈fpR tb (.slice none 0 0) [],g=tb:=λg hg=>by simpa [fpR,Cy]using hg
 have ab:PI w w3 t m tb [] (.slice none 0 0) [] 0:=⟨F.below V.bel,RM.new V.blk,λg hg=>by rw[U g hg];exact AG F.bel.size V.ge,λg hg hm=>by have:=F.tm.lt g hm;have:=V.ge;have:=U g hg;omega,.nil,.refl _,A3 _⟩;clear F U V ad;refine sX C ?_;intro _ C;refine eW (λa wr=>∃(k:Nat)(E:List Ch)(v:Value)(L:List Rl),Kn 32 [(0,.slice Z H.length c0),(5,ptB t),(6,ptB tb),(7,.int .i64 (k:Int))] a/\k<=H.length/\PI w wr t m tb E v L k) (λa _=>H.length - (intOf (a.tmps.getD 7 undef)).toNat) ⟨0,[],_,[],C.ct,A3 _,ab⟩ (λa wr hI=> ?_);clear ab C;obtain⟨k,E,v,L,C,ap,G⟩:=hI;have aq:(intOf (a.tmps.getD 7 undef)).toNat=k:=by rw[C.gt 7];simp[intOf]
 rw[aq];rcases Nat.lt_or_eq_of_le ap with ak | rfl
 ·obtain⟨s,hs⟩:∃s,H[k]? =some s:=⟨_,AM ak⟩;obtain⟨b,o,rfl,hb,ar⟩:=hr0 k s hs;have J:=au s (A5 hs);have f1:LdB w 67 (.pointer (some ⟨b,o+(k:Int).toNat*6,none⟩)) s.val:=.row Tryz.underlying67 rfl Aa hb (by rw[Int.toNat_natCast];exact ar);have G:=G.below (AH _ _).drew;refine sX C ?_;intro _ C;refine mD C ?_;refine mDn ?_;refine wp_region_held_drew (S:=λw'=>mBw w w') Aa G.ti.bel (λI=> ?_);refine yK 0 C I λC=> ?_
  refine yK 1 C I λC=> ?_
  refine yK 2 C I λC=> ?_
  refine yK 3 C I λC=> ?_
  refine yK 4 C I λC=> ?_
  refine yK 6 C I λC=> ?_
  refine yK 7 C I λC=> ?_
  refine yK 8 C I λC=> ?_
  refine yK 9 C I λC=> ?_
  refine j3 C (i:=5) Aa rfl rfl rfl it (dN C rfl rfl rfl (af Tryz.func54 rfl rfl)) (q_do29 G.ti.tm G.ti.sane.ok J) (λe w4 Y=> ?_);obtain⟨E',R',av,rfl,P,ac,aa⟩:=Y;refine⟨_,rfl,(G.ti.next P ac aa (axOf_q J)).bel,λ_ C=> ?_⟩;refine j3 C (i:=10) Aa rfl rfl rfl it (dN C rfl rfl rfl (af Tryz.func119 rfl rfl)) (q_by29 (TPost.rm G.ti.tm P G.rm G.dj) G.sr.ok (by have:=G.le;omega) J) (λe w5 Y=> ?_);obtain⟨v',L',am,rfl,ao,an⟩:=Y;obtain⟨rfl,K,_⟩:=G.step P ac aa (axOf_q J) (AH _ _) ao an;refine⟨_,rfl,K.ti.bel,λ_ C=> ?_⟩;refine yV 11 C _ _ (λe=>by cases e;exact j4 (r:=false) C rfl rfl rfl rfl) K.ti.bel λC=>wpAnyH_done Aa ?_ _
  refine mUp ?_;refine ci C ?_;refine sA C ?_;intro _ C;refine vN C ((k+1:Nat)) λC=> ?_
  refine sD C ?_;intro _ C;refine wln ?_;refine mUp ?_;refine⟨⟨k+1,E',v',L',C.ct,ak,K⟩,?_⟩;rw[C.gt 7];simp only[intOf];omega
 ·refine sX C ?_;intro _ C;refine mCf C ?_;refine mEx ?_;refine sA C ?_;intro _ C;refine wB C (.bool true) λC=> ?_
  refine sZ C ?_;intro _ C;refine mT3 C ?_;exact⟨t,m,tb,E,v,L,rfl,G⟩
end
section
open Go.ChangeShapes Go.WideShapes Go.ChangeAt Go.RowKit
structure Qry where
 a:Int
 b:Int
 c:Int
 t:Int
 o:Int
def Qry.cs(s:Qry):List Value:=[.int .u8 s.a,.int .u8 s.b,.int .u8 s.c,.int .i64 s.t,.int .i64 s.o]
abbrev Qry.val(s:Qry):Value:=.agg s.cs.toArray
structure Qry.Ok(s:Qry):Prop where
 a:0<=s.a/\s.a<256
 b:0<=s.b/\s.b<256
 c:0<=s.c/\s.c<256
 t: -9223372036854775808<=s.t/\s.t<9223372036854775808
 o: -9223372036854775808<=s.o/\s.o<9223372036854775808
section
variable {H:Type} {enc:TypeId×Value->H} {W:World}
theorem i64_wf{t:Int}(h:(Lit.int .i64 t).wf=true): -9223372036854775808<=t/\t<9223372036854775808:=by
 simp[Lit.wf,IntKind.min,IntKind.max,IntKind.wrap,IntKind.bits,IntKind.signed]at h;omega
theorem lJ{v:Value}{d:DataW H}{p:List MemPlace}{base:Nat}(I:Value.okWide AD W .any base 94 v)(h:DataW.Trod enc AD W 0 (λ_=>true) true 94 v d p):∃s:Qry,s.Ok/\v=s.val:=by
 obtain⟨cs,rfl,C⟩:=okWide_struct Tryz.underlying94 I;have hc:AD.cellsOf 94=5:=Aa
 rw[hc]at C;obtain⟨l⟩:=cs;have hl:l.length=5:=by simpa using C
 obtain⟨aa,hf⟩:=h;have h8:AD.cellsOf 5=1:=Aa
 have J:AD.cellsOf 3=1:=Aa
 obtain⟨xs,n,_,hx,_,G,F⟩:=DataW.trod_struct Tryz.underlying94 hf
 match xs,G with
 | [y0,y1,y2,y3,y4],_=>
  have K:=F 0 _ rfl;have P:=F 1 _ rfl;have k2:=F 2 _ rfl;have k3:=F 3 _ rfl;have U:=F 4 _ rfl;simp[Value.cells,h8,J]at K P k2 k3 U
  match l,hl with
  | [u0,u1,u2,u3,u4],_=>
   simp at K P k2 k3 U;obtain⟨t0,V,f0⟩:=Dr Dq K;obtain⟨t1,Y,f1⟩:=Dr Dq P;obtain⟨t2,Z,f2⟩:=Dr Dq k2;obtain⟨t3,e3,f3⟩:=Dr Do k3;obtain⟨t4,e4,f4⟩:=Dr Do U;simp at V Y Z e3 e4;subst V Y Z e3 e4;exact⟨⟨t0,t1,t2,t3,t4⟩,⟨sF f0.2,sF f1.2,sF f2.2,i64_wf f3.2,i64_wf f4.2⟩,rfl⟩
end
end
def Bd(n:Nat)(x:Int):Prop:=x.natAbs<=n
section
variable {m n:Nat} {x y:Int}
theorem Bd.mono(h:Bd m x)(k:m<=n):Bd n x:=AG h k
theorem Bd.add(h:Bd m x)(k:Bd n y):Bd (m+n) (x+y):=by unfold Bd at *;omega
theorem Bd.sub(h:Bd m x)(k:Bd n y):Bd (m+n) (x - y):=by unfold Bd at *;omega
theorem Bd.neg(h:Bd m x):Bd m (-x):=by unfold Bd at *;omega
theorem Bd.mul(h:Bd m x)(k:Bd n y):Bd (m*n) (x*y):=by unfold Bd at *;rw[Int.natAbs_mul];exact Nat.mul_le_mul h k
theorem Bd.two:Bd 2 2:=AI _
end
def fH(a:Nat)(q:Qq):Prop:=∃W X Y Z:Int,Sim ⟨(W:Rat),X,Y,Z⟩ q.r/\Bd (2^a) W/\Bd (2^a) X/\Bd (2^a) Y/\Bd (2^a) Z
def fC(b:Nat)(v:Vq):Prop:=∃D X Y Z:Int,D≠0/\v.x.v*(D:Rat)=X/\v.y.v*(D:Rat)=Y/\v.z.v*(D:Rat)=Z/\Bd (2^b) D/\Bd (2^b) X/\Bd (2^b) Y/\Bd (2^b) Z
theorem uJ{a:Int}(h:a≠0):(a:Rat)≠0:=λe=>h (by exact_mod_cast e)
variable{a b:Nat}{q:Qq}
theorem fH.mono(h:fH a q)(k:a<=b):fH b q:=by
 obtain⟨W,X,Y,Z,h0,h1,h2,h3,C⟩:=h;have e:=Fa (n:=2) it k;exact⟨W,X,Y,Z,h0,h1.mono e,h2.mono e,h3.mono e,C.mono e⟩
theorem fC.mono{q:Vq}(h:fC a q)(k:a<=b):fC b q:=by
 obtain⟨D,X,Y,Z,h0,F,k2,k3,h1,h2,h3,C⟩:=h;have e:=Fa (n:=2) it k;exact⟨D,X,Y,Z,h0,F,k2,k3,h1.mono e,h2.mono e,h3.mono e,C.mono e⟩
theorem sQ{x:Fq}{F C:Int}(J:x.valid=true)(K:F≠0)(h:x.v*(F:Rat)=C):x.p<=C.natAbs/\x.q<=F.natAbs:=by
 have hn:=Fq.valid.n J;have e:Fq.sg x.s x.p*F=C*(x.q:Int):=by
  unfold Fq.v at h;rw[<-EK (x:=F),<-EK (x:=C),FM,FL (by simpa using hn) it]at h;simpa using h
 have G:x.p*F.natAbs=C.natAbs*x.q:=by
  have:=congrArg Int.natAbs e;rwa [Int.natAbs_mul,Int.natAbs_mul,nQ,Int.natAbs_natCast]at this
 have hc:Nat.Coprime x.p x.q:=Fq.valid.g J;have I:0<F.natAbs:=no
 refine⟨?_,Nat.le_of_dvd I (hc.symm.dvd_of_dvd_mul_left ⟨C.natAbs,by rw[G,BY]⟩)⟩;by_cases h0:C.natAbs=0
 ·rw[h0,Nat.zero_mul]at G;rcases Nat.mul_eq_zero.1 G with h1 | h1
  ·omega
  ·omega
 ·exact Nat.le_of_dvd no (hc.dvd_of_dvd_mul_right ⟨F.natAbs,by rw[<-G]⟩)
variable{d:Nat}
theorem wH{n:Nat}(h:n<=2^b)(C:b<32*d):nl n<=d:=aI.2 (by
 have e:(4294967296:Nat)^d=2^(32*d):=by rw[show(4294967296:Nat)=2^32 by decide,<-Nat.pow_mul]
 rw[e];exact Nat.lt_of_le_of_lt h (Nat.pow_lt_pow_right it C))
variable{v:Vq}
theorem fC.ok(h:fC b v)(g:v.good)(F:b<32*d):v.ok d:=by
 obtain⟨D,X,Y,Z,h0,U,k2,k3,h1,h2,h3,K⟩:=h;have f:∀ {x:Fq} {C:Int},x.valid=true->x.v*(D:Rat)=C->Bd (2^b) C->x.ok d:=λG k P=>by
  obtain⟨I,J⟩:=sQ G h0 k;exact⟨wH (AG I P) F,wH (AG J h1) F,Fq.valid.n G⟩
 exact⟨f g.x U h2,f g.y k2 h3,f g.z k3 K⟩
theorem fH.over(h:fH a q)(g:q.good):∃F W X Y Z:Int,F≠0/\q.w.v*(F:Rat)=W/\q.x.v*(F:Rat)=X/\q.y.v*(F:Rat)=Y/\q.z.v*(F:Rat)=Z/\Bd (2^a) F/\Bd (2^a) W/\Bd (2^a) X/\Bd (2^a) Y/\Bd (2^a) Z:=by
 obtain⟨W,X,Y,Z,⟨k,hk,e⟩,h1,h2,h3,U⟩:=h;have C:=g.one;rw[mi g.comp,e,rF k hk]at C;have G:∃F:Int,(QR.mk (W:Rat) X Y Z).fst=(F:Rat)/\Bd (2^a) F:=by
  unfold QR.fst;simp only;split
  ·exact⟨W,rfl,h1⟩
  ·split
   ·exact⟨X,rfl,h2⟩
   ·split
    ·exact⟨Y,rfl,h3⟩
    ·exact⟨Z,rfl,U⟩
 obtain⟨F,G,V⟩:=G;rw[G]at C;have I:=congrArg QR.w e;have J:=congrArg QR.x e;have K:=congrArg QR.y e;have P:=congrArg QR.z e;unfold QR.smul Qq.r at I J K P;simp only at I J K P;refine⟨F,W,X,Y,Z,λh=> ?_,?_,?_,?_,?_,V,h1,h2,h3,U⟩
 ·rw[h]at C;simp at C
 ·grind
 ·grind
 ·grind
 ·grind
theorem fH.ok(h:fH a q)(g:q.good)(G:a<32*d):q.ok d:=by
 obtain⟨F,W,X,Y,Z,h0,k0,k1,k2,k3,V,h1,h2,h3,P⟩:=h.over g;have f:∀ {x:Fq} {C:Int},x.valid=true->x.v*(F:Rat)=C->Bd (2^a) C->x.ok d:=λI k U=>by
  obtain⟨J,K⟩:=sQ I h0 k;exact⟨wH (AG J U) G,wH (AG K V) G,Fq.valid.n I⟩
 exact⟨f g.comp.w k0 h1,f g.comp.x k1 h2,f g.comp.y k2 h3,f g.comp.z k3 P⟩
theorem fH.id:fH 0 Qq.id:=⟨1,0,0,0,by rw[id_r];exact Sim.refl _,AI _,A3 _,A3 _,A3 _⟩
theorem fC.zero:fC 0 (Vq.of 0 0 0):=⟨1,0,0,0,it,by rw[show(Vq.of 0 0 0).x=Fq.ofInt 0 from rfl,dy];simp,by rw[show(Vq.of 0 0 0).y=Fq.ofInt 0 from rfl,dy];simp,by rw[show(Vq.of 0 0 0).z=Fq.ofInt 0 from rfl,dy];simp,AI _,A3 _,A3 _,A3 _⟩
theorem fH.mul{p:Qq}(h:fH a p)(k:fH b q)(U:p.good)(V:q.good):fH (a+b+2) (p.mul q):=by
 obtain⟨W,X,Y,Z,h0,h1,h2,h3,J⟩:=h;obtain⟨C,F,G,I,k0,K,k2,k3,P⟩:=k;have e:2^a*2^b+(2^a*2^b+(2^a*2^b+2^a*2^b))=2^(a+b+2):=by rw[BD,BD];omega
 have e':2^b*2^a=2^a*2^b:=BY _ _;refine⟨W*C - (X*F+(Y*G+Z*I)),F*W+X*C+(Y*I - Z*G),G*W+Y*C+(Z*F - X*I),I*W+Z*C+(X*G - Y*F),?_,?_,?_,?_,?_⟩
 ·have:=(Sim.mul h0 k0).trans (ab7 U V);unfold QR.mul at this;simp only at this;simp only[Rat.intCast_sub,Rat.intCast_add,Rat.intCast_mul];exact this
 ·exact((h1.mul K).sub ((h2.mul k2).add ((h3.mul k3).add (J.mul P)))).mono (Nat.le_of_eq e)
 ·exact(((k2.mul h1).add (h2.mul K)).add ((h3.mul P).sub (J.mul k3))).mono no
 ·exact(((k3.mul h1).add (h3.mul K)).add ((J.mul k2).sub (h2.mul P))).mono no
 ·exact(((P.mul h1).add (J.mul K)).add ((h2.mul k3).sub (h3.mul k2))).mono no
theorem fH.inv(h:fH a q)(g:q.good):fH a q.inv:=by
 obtain⟨W,X,Y,Z,h0,h1,h2,h3,C⟩:=h;refine⟨W, -X, -Y, -Z,?_,h1,h2.neg,h3.neg,C.neg⟩;have:=(Sim.conj h0).trans (ab8 g);unfold QR.conj at this;simp only at this;simp only[Rat.intCast_neg];exact this
theorem fC.app(h:fH a q)(k:fC b v)(g:q.good)(gv:v.good):fC (2*a+b+4) (q.app v):=by
 obtain⟨W,X,Y,Z,h0,h1,h2,h3,C⟩:=h;obtain⟨D,x,y,z,V,c1,c2,K,k0,G,k2,k3⟩:=k;have hq0:q.r.nrm≠0:=fv g;have F:(QR.mk (W:Rat) X Y Z).nrm≠0:=Sim.nrm h0.symm hq0;have P:(q.app v).r=(QR.mk (W:Rat) X Y Z).app v.r:=by rw[app_r g gv,app_sim h0 F]
 have J:(QR.mk (W:Rat) X Y Z).nrm=((W*W+(X*X+(Y*Y+Z*Z)):Int):Rat):=by
  unfold QR.nrm;simp only[Rat.intCast_add,Rat.intCast_mul]
 have hi:=DD _ F;have I:2^(2*a+b+4)=16*(2^a*2^a*2^b):=by
  rw[BD,BD,Nat.two_mul,BD];omega
 have hW:0<(2:Nat)^a:=Nat.pow_pos it;have e1:2^a*2^b*2^a=2^a*2^a*2^b:=by rw[C2,BY (2^b),<-C2]
 refine⟨(W*W+(X*X+(Y*Y+Z*Z)))*D,(W*W - (X*X+(Y*Y+Z*Z)))*x+(2*(X*x+(Y*y+Z*z)))*X+(2*W)*(Y*z - Z*y),
  (W*W - (X*X+(Y*Y+Z*Z)))*y+(2*(X*x+(Y*y+Z*z)))*Y+(2*W)*(Z*x - X*z),
  (W*W - (X*X+(Y*Y+Z*Z)))*z+(2*(X*x+(Y*y+Z*z)))*Z+(2*W)*(X*y - Y*x),?_,?_,?_,?_,?_,?_,?_,?_⟩
 ·intro h;rcases Int.mul_eq_zero.1 h with h | h
  ·exact F (by rw[J,h];rfl)
  ·exact V h
 ·have:=congrArg VR.x P;unfold QR.app VR.smul QR.rot Vq.r at this;simp only at this;rw[this];simp only[Rat.intCast_sub,Rat.intCast_add,Rat.intCast_mul,<-c1,<-c2,<-K];rw[J]at hi⊢;simp only[Rat.intCast_add,Rat.intCast_mul]at hi⊢;have U:((2:Int):Rat)=2:=rfl
  grind
 ·have:=congrArg VR.y P;unfold QR.app VR.smul QR.rot Vq.r at this;simp only at this;rw[this];simp only[Rat.intCast_sub,Rat.intCast_add,Rat.intCast_mul,<-c1,<-c2,<-K];rw[J]at hi⊢;simp only[Rat.intCast_add,Rat.intCast_mul]at hi⊢;have U:((2:Int):Rat)=2:=rfl
  grind
 ·have:=congrArg VR.z P;unfold QR.app VR.smul QR.rot Vq.r at this;simp only at this;rw[this];simp only[Rat.intCast_sub,Rat.intCast_add,Rat.intCast_mul,<-c1,<-c2,<-K];rw[J]at hi⊢;simp only[Rat.intCast_add,Rat.intCast_mul]at hi⊢;have U:((2:Int):Rat)=2:=rfl
  grind
 ·refine(((h1.mul h1).add ((h2.mul h2).add ((h3.mul h3).add (C.mul C)))).mul k0).mono ?_;rw[I];have:(2^a*2^a+(2^a*2^a+(2^a*2^a+2^a*2^a)))*2^b=4*(2^a*2^a*2^b):=Ar
  omega
 ·refine((((h1.mul h1).sub ((h2.mul h2).add ((h3.mul h3).add (C.mul C)))).mul G).add ((Bd.two.mul ((h2.mul G).add ((h3.mul k2).add (C.mul k3)))).mul h2) |>.add ((Bd.two.mul h1).mul ((h3.mul k3).sub (C.mul k2)))).mono ?_;rw[I];generalize 2^a=A at *;generalize 2^b=B at *;have:(A*A+(A*A+(A*A+A*A)))*B+2*(A*B+(A*B+A*B))*A+2*A*(A*B+A*B)=14*(A*A*B):=Ar
  omega
 ·refine((((h1.mul h1).sub ((h2.mul h2).add ((h3.mul h3).add (C.mul C)))).mul k2).add ((Bd.two.mul ((h2.mul G).add ((h3.mul k2).add (C.mul k3)))).mul h3) |>.add ((Bd.two.mul h1).mul ((C.mul G).sub (h2.mul k3)))).mono ?_;rw[I];generalize 2^a=A at *;generalize 2^b=B at *;have:(A*A+(A*A+(A*A+A*A)))*B+2*(A*B+(A*B+A*B))*A+2*A*(A*B+A*B)=14*(A*A*B):=Ar
  omega
 ·refine((((h1.mul h1).sub ((h2.mul h2).add ((h3.mul h3).add (C.mul C)))).mul k3).add ((Bd.two.mul ((h2.mul G).add ((h3.mul k2).add (C.mul k3)))).mul C) |>.add ((Bd.two.mul h1).mul ((h2.mul k2).sub (h3.mul G)))).mono ?_;rw[I];generalize 2^a=A at *;generalize 2^b=B at *;have:(A*A+(A*A+(A*A+A*A)))*B+2*(A*B+(A*B+A*B))*A+2*A*(A*B+A*B)=14*(A*A*B):=Ar
  omega
theorem fC.add{u:Vq}(h:fC a u)(k:fC b v)(gu:u.good)(gv:v.good):fC (a+b+1) (u.add v):=by
 obtain⟨D,X,Y,Z,h0,c1,c2,K,h1,h2,h3,h4⟩:=h;obtain⟨C,G,I,J,k0,P,U,V,F,k2,k3,k4⟩:=k;obtain⟨s1,s2,s3⟩:=t7 gu gv;have e:2^a*2^b+2^a*2^b=2^(a+b+1):=by rw[BD,BD];omega
 have e':2^b*2^a=2^a*2^b:=BY _ _;refine⟨D*C,X*C+G*D,Y*C+I*D,Z*C+J*D,λh=>(Int.mul_eq_zero.1 h).elim h0 k0,?_,?_,?_,(h1.mul F).mono no,((h2.mul F).add (k2.mul h1)).mono no,((h3.mul F).add (k3.mul h1)).mono no,((h4.mul F).add (k4.mul h1)).mono no⟩
 ·rw[s1];simp only[Rat.intCast_add,Rat.intCast_mul,<-c1,<-P];grind
 ·rw[s2];simp only[Rat.intCast_add,Rat.intCast_mul,<-c2,<-U];grind
 ·rw[s3];simp only[Rat.intCast_add,Rat.intCast_mul,<-K,<-V];grind
theorem fC.opp(h:fC b v)(g:v.good):fC b (v.scale (Fq.ofInt (-1))):=by
 obtain⟨D,X,Y,Z,h0,c1,c2,F,h1,h2,h3,G⟩:=h;obtain⟨I,J,K⟩:=fe g (aB (-1));have e:=dy (-1);have C:((-1:Int):Rat)= -1:=rfl;refine⟨D, -X, -Y, -Z,h0,?_,?_,?_,h1,h2.neg,h3.neg,G.neg⟩
 ·rw[I,e,C,show((-X:Int):Rat)= -(X:Rat)from Rat.intCast_neg X,<-c1];grind
 ·rw[J,e,C,show((-Y:Int):Rat)= -(Y:Rat)from Rat.intCast_neg Y,<-c2];grind
 ·rw[K,e,C,show((-Z:Int):Rat)= -(Z:Rat)from Rat.intCast_neg Z,<-F];grind
variable{c:Nat}{n:Int}
theorem fC.lerp{u:Vq}{t:Fq}(h:fC a u)(k:fC b v)(gu:u.good)(gv:v.good)(gt:t.valid=true){m:Int}(hm:m≠0)(ht:t.v*(m:Rat)=n)(hn:Bd (2^c) n)(F:Bd (2^c) m):fC (a+b+c+2) (u.lerp v t):=by
 obtain⟨D,X,Y,Z,h0,c1,c2,V,h1,h2,h3,h4⟩:=h;obtain⟨C,G,P,U,k0,d1,d2,d3,J,k2,k3,k4⟩:=k;obtain⟨s1,s2,s3⟩:=lerp_v gu gv gt;have e:4*(2^a*2^b*2^c)=2^(a+b+c+2):=by rw[BD,BD,BD];omega
 have e':2^b*2^a=2^a*2^b:=BY _ _;have hb:∀ {X G:Int},Bd (2^a) X->Bd (2^b) G->Bd (2^(a+b+c+2)) (X*C*m+(G*D - X*C)*n):=λK I=>by
  refine(((K.mul J).mul F).add (((I.mul h1).sub (K.mul J)).mul hn)).mono ?_;rw[<-e,e',Nat.add_mul];omega
 refine⟨D*C*m,X*C*m+(G*D - X*C)*n,Y*C*m+(P*D - Y*C)*n,Z*C*m+(U*D - Z*C)*n,λh=>(Int.mul_eq_zero.1 h).elim (λh=>(Int.mul_eq_zero.1 h).elim h0 k0) hm,?_,?_,?_,((h1.mul J).mul F).mono no,hb h2 k2,hb h3 k3,hb h4 k4⟩
 ·rw[s1];simp only[Rat.intCast_add,Rat.intCast_sub,Rat.intCast_mul,<-c1,<-d1,<-ht];grind
 ·rw[s2];simp only[Rat.intCast_add,Rat.intCast_sub,Rat.intCast_mul,<-c2,<-d2,<-ht];grind
 ·rw[s3];simp only[Rat.intCast_add,Rat.intCast_sub,Rat.intCast_mul,<-V,<-d3,<-ht];grind
theorem fH.way{p d:Qq}{t:Fq}(h:fH a p)(k:fH b d)(K:p.good)(G:d.good)(gt:t.valid=true){m:Int}(V:m≠0)(ht:t.v*(m:Rat)=n)(hn:Bd (2^c) n)(I:Bd (2^c) m):fH (a+(b+c)+2) (p.way d t):=by
 obtain⟨F,W,X,Y,Z,h0,k0,k1,k2,k3,U,h1,h2,h3,P⟩:=k.over G;unfold Qq.way;rw[aaj (ua G.comp gt)];refine fH.mul h ?_ K (ua G.comp gt);obtain⟨s1,s2,s3⟩:=fe G.comp.axis gt;have C:(m:Rat)*(F:Rat)≠0:=eM (uJ V) (uJ h0);have e:2^c*2^b=2^(b+c):=by rw[BD,BY]
 have hi:=DD _ C;refine⟨m*F,n*X,n*Y,n*Z,⟨((m:Rat)*(F:Rat))⁻¹,vn C,?_⟩,e▸I.mul U,e▸hn.mul h2,e▸hn.mul h3,e▸hn.mul P⟩;have J:(Fq.ofInt 1).v=1:=by rw[dy];rfl
 unfold QR.smul Qq.r
 ext<;>simp only[Rat.intCast_mul,<-k1,<-k2,<-k3,<-ht]
 ·rw[J];exact hi.symm
 ·rw[s1];show d.x.v*_=_;grind
 ·rw[s2];show d.y.v*_=_;grind
 ·rw[s3];show d.z.v*_=_;grind
theorem gJ{x:Fq}(F:x.valid=true)(h:x.ok 2):(x.q:Int)≠0/\x.v*((x.q:Int):Rat)=(Fq.sg x.s x.p:Int)/\Bd (2^64) (x.q:Int)/\Bd (2^64) (Fq.sg x.s x.p):=by
 have hn:=Fq.valid.n F;have e:(4294967296:Nat)^2=2^64:=it
 have hp:=aI.1 h.p;have C:=aI.1 h.q;rw[e]at hp C;refine⟨no,?_,?_,?_⟩
 ·unfold Fq.v;rw[<-EK (x:=(x.q:Int)),<-EK (x:=Fq.sg x.s x.p),FM,FL (by simpa using hn) it];simp
 ·unfold Bd;omega
 ·unfold Bd;rw[nQ];omega
theorem fC.two(g:v.good)(h:v.ok 2):fC 192 v:=by
 obtain⟨I,J,F,K⟩:=gJ g.x h.x;obtain⟨P,U,b3,b4⟩:=gJ g.y h.y;obtain⟨c1,c2,G,V⟩:=gJ g.z h.z;generalize (v.x.q:Int)=A at *;generalize (v.y.q:Int)=B at *;generalize (v.z.q:Int)=C at *;generalize Fq.sg v.x.s v.x.p=a at *;generalize Fq.sg v.y.s v.y.p=b at *;generalize Fq.sg v.z.s v.z.p=c at *;have e:(2:Nat)^64*(2^64*2^64)=2^192:=it
 refine⟨A*(B*C),a*(B*C),b*(A*C),c*(A*B),λh=>(Int.mul_eq_zero.1 h).elim I (λh=>(Int.mul_eq_zero.1 h).elim P c1),?_,?_,?_,e▸F.mul (b3.mul G),e▸K.mul (b3.mul G),e▸b4.mul (F.mul G),e▸V.mul (F.mul b3)⟩
 ·simp only[Rat.intCast_mul,<-J];grind
 ·simp only[Rat.intCast_mul,<-U];grind
 ·simp only[Rat.intCast_mul,<-c2];grind
theorem fH.two(g:q.good)(h:q.ok 2):fH 256 q:=by
 obtain⟨d1,d2,I,d4⟩:=gJ g.comp.w h.w;obtain⟨K,P,F,U⟩:=gJ g.comp.x h.x;obtain⟨V,Y,b3,b4⟩:=gJ g.comp.y h.y;obtain⟨c1,c2,G,Z⟩:=gJ g.comp.z h.z;generalize (q.w.q:Int)=D at *;generalize (q.x.q:Int)=A at *;generalize (q.y.q:Int)=B at *;generalize (q.z.q:Int)=C at *;generalize Fq.sg q.w.s q.w.p=d at *;generalize Fq.sg q.x.s q.x.p=a at *;generalize Fq.sg q.y.s q.y.p=b at *;generalize Fq.sg q.z.s q.z.p=c at *;have e:(2:Nat)^64*(2^64*(2^64*2^64))=2^256:=it
 have J:(D:Rat)*((A:Rat)*((B:Rat)*(C:Rat)))≠0:=eM (uJ d1) (eM (uJ K) (eM (uJ V) (uJ c1)));have hi:=DD _ J;refine⟨d*(A*(B*C)),a*(D*(B*C)),b*(D*(A*C)),c*(D*(A*B)),⟨_,vn J,?_⟩,e▸d4.mul (F.mul (b3.mul G)),e▸U.mul (I.mul (b3.mul G)),e▸b4.mul (I.mul (F.mul G)),e▸Z.mul (I.mul (F.mul b3))⟩;unfold QR.smul Qq.r
 ext<;>simp only[Rat.intCast_mul,<-P,<-Y,<-c2,<-d2]<;>grind
section
open Classical
structure Rep(a b:Nat)(p:Pq):Prop where
 q:fH a p.rot
 v:fC b p.pos
 g:p.good
section
variable {a b a' b' d:Nat} {p p':Pq}
theorem Rep.mono(h:Rep a b p)(ha:a<=a')(hb:b<=b'):Rep a' b' p:=⟨h.q.mono ha,h.v.mono hb,h.g⟩
theorem Rep.app(h:Rep a b p)(k:fC c v)(C:v.good):fC (2*a+c+4+b+1) (p.app v):=(k.app h.q h.g.rot C).add h.v (rK h.g.rot C) h.g.pos
theorem Rep.mul(h:Rep a b p)(k:Rep a' b' p'):Rep (a+a'+2) (2*a+b'+4+b+1) (p.mul p'):=⟨h.q.mul k.q h.g.rot k.g.rot,h.app k.v k.g.pos,h.g.mul k.g⟩
theorem Rep.inv(h:Rep a b p):Rep a (2*a+b+4) p.inv:=⟨h.q.inv h.g.rot,(h.v.opp h.g.pos).app (h.q.inv h.g.rot) (aS h.g.rot) (h.g.pos.scale (aB _)),h.g.inv⟩
theorem Rep.ok(h:Rep a b p)(ha:a<32*d)(hb:b<32*d):p.ok d:=⟨h.q.ok h.g.rot ha,h.v.ok h.g.pos hb⟩
theorem Rep.two(g:p.good)(h:p.ok 2):Rep 256 192 p:=⟨.two g.rot h.rot,.two g.pos h.pos,g⟩
theorem Rep.id:Rep 0 0 Pq.id:=⟨.id,.zero,.id⟩
end
theorem ratio_int{v u:Int}(h:0<u):(Fq.ratio v u).v*(u:Rat)=v:=by
 unfold Fq.ratio;rw[ab3 no];have e:Fq.sg (decide (v<0) !=decide (u<0)) v.natAbs=v:=by
  rw[decide_eq_false (show¬u<0 by omega)];unfold Fq.sg;by_cases hv:v<0
  ·rw[decide_eq_true hv];simp;omega
  ·rw[decide_eq_false hv];simp;omega
 rw[e,<-EK (x:=u),<-EK (x:=v),FM,FL no it];have:(u.natAbs:Int)=u:=no
 simp[this]
variable{a:Int}
theorem atP_rep{S:List St}{z y:St}(P:GoodS S)(h:Road S a z y 0):Rep 812 426 (atP z y 0 a):=by
 obtain⟨F,C,h1,h2,_⟩:=road_z P h rfl;unfold atP;rw[if_neg no];split
 ·exact(Rep.two C.good C.ok).mono it it
 ·have Z:=F.lo;have Y:=C.hi;have U:0<y.tm - z.tm:=no
  have v:=dv (v:=a - z.tm) (u:=y.tm - z.tm) no;have e:=ratio_int (v:=a - z.tm) U;have V:(2:Nat)^40=1099511627776:=it
  have I:Bd (2^40) (a - z.tm):=by unfold Bd;omega
  have J:Bd (2^40) (y.tm - z.tm):=by unfold Bd;omega
  have G:=Rep.two F.good F.ok;have K:=Rep.two C.good C.ok;have rd:=(G.q.inv F.good.rot).mul K.q (aS F.good.rot) C.good.rot;exact⟨G.q.way rd F.good.rot (fw (aS F.good.rot) C.good.rot) v no e I J,G.v.lerp K.v F.good.pos C.good.pos v no e I J,Pq.good.btw F.good C.good v⟩
variable{R:Tr}
theorem edge_rep(C:TOk R){c:Nm}(h:(bC R c a).2=0):Rep 812 426 (bC R c a).1:=by
 unfold bC at h⊢
 cases ht:tAt R c a with
 | none=>rw[ht]at h;cases h
 | some x=>
  rw[ht]at h;simp only at h⊢;by_cases hs:x.st=true
  ·rw[if_pos hs];obtain⟨g,k⟩:=C.pose _ (mu ht).1 hs;exact(Rep.two g k).mono it it
  ·rw[if_neg hs]at h⊢;have F:=C.good _ (mu ht).1;obtain⟨z,y,I,G⟩:=road F a;rw[G.trkP]at h⊢;simp only at h;subst h;exact atP_rep F G
theorem sR(F:TOk R)(a:Int):∀(l:List Nm)(k:Nat)(p:Pq),Rep (814*k) (2055*k) p->k+l.length<=24->jm R a l p/\((cD R a l p).2=0->Rep 19536 49320 (cD R a l p).1)
 | [],k,p,h,hk=>⟨trivial,λ_=>h.mono (by simp at hk;omega) (by simp at hk;omega)⟩
 | f::l,k,p,h,hk=>by
  rw[Bh]at hk;by_cases h0:(bC R f a).2=0
  ·have C:=edge_rep F h0;have G:Rep (814*(k+1)) (2055*(k+1)) ((bC R f a).1.mul p):=(C.mul h).mono no no;obtain⟨i1,i2⟩:=sR F a l (k+1) _ G no;refine⟨λ_=>⟨C.ok it it,C.g,h.ok no no,h.g,i1⟩,?_⟩;unfold cD;rw[if_pos h0];exact i2
  ·refine⟨λh=>absurd h h0,λh=> ?_⟩;unfold cD at h;rw[if_neg h0]at h;exact absurd h h0
theorem sS(G:Sane R)(a:Int)(tq fr:Nm):FindOk R a tq fr/\((aP R a tq fr).2=0->Rep 39074 176793 (aP R a tq fr).1):=by
 have lb:∀x C,0+(bx (bm R a x) C).length<=24:=λx C=>by
  have h1:=eu G a x;have h2:(bx (bm R a x) C).length<=_:=(List.takeWhile_sublist _).length_le;omega
 obtain⟨K,I⟩:=sR G.ok a _ 0 Pq.id Rep.id (lb fr (aE R a fr tq).1);obtain⟨J,F⟩:=sR G.ok a _ 0 Pq.id Rep.id (lb tq (aE R a fr tq).1);refine⟨⟨K,J,λh=>⟨(I h).ok it it,(I h).g⟩,λh=>⟨(F h).ok it it,(F h).g,(F h).inv.ok it it⟩⟩,λh=> ?_⟩;unfold aP at h⊢;by_cases h0:(aE R a fr tq).2=0
 ·rw[if_neg (by simpa using h0)]at h⊢;by_cases hu:(upP R a fr (aE R a fr tq).1).2=0
  ·rw[if_neg (by simpa using hu)]at h⊢;by_cases hd:(upP R a tq (aE R a fr tq).1).2=0
   ·rw[if_neg (by simpa using hd)];exact(F hd).inv.mul (I hu)
   ·rw[if_pos hd]at h;exact absurd h hd
  ·rw[if_pos hu]at h;exact absurd h hu
 ·rw[if_pos h0]at h;exact absurd h h0
theorem dD(C:Sane R)(a:Int)(tq fr:Nm):FindOk R a tq fr:=(sS C a tq fr).1
variable{tq fr:Nm}
theorem fD(C:Sane R)(h:(aP R a tq fr).2=0):(aP R a tq fr).1.ok 6000/\(aP R a tq fr).1.good:=⟨((sS C a tq fr).2 h).ok it it,((sS C a tq fr).2 h).g⟩
theorem acr_ok(C:Sane R)(tq:Nm)(ta:Int)(fr:Nm)(fa:Int)(th:Nm):AcrOk R tq ta fr fa th:=
 ⟨dD C _ _ _,dD C _ _ _,λh=>⟨(fD C h).1.mono it,(fD C h).2⟩,λh=>⟨(fD C h).1.mono it,(fD C h).2⟩⟩
theorem j8{top:Nm}{U D:Pq}(F:aE R a fr tq=(top,0))(G:upP R a fr top=(U,0))(C:upP R a tq top=(D,0)):aP R a tq fr=(D.inv.mul U,0):=by
 unfold aP;rw[F,if_neg Ad,G,if_neg Ad,C,if_neg Ad]
theorem zd{x:Nm}{c:Int}(C:aE R a fr tq=(x,c))(h:c≠0):aP R a tq fr=(Pq.zero,c):=by
 unfold aP;rw[C,if_pos h]
theorem ze{top:Nm}{U:Pq}{c:Int}(C:aE R a fr tq=(top,0))(F:upP R a fr top=(U,c))(h:c≠0):aP R a tq fr=(Pq.zero,c):=by
 unfold aP;rw[C,if_neg Ad,F,if_pos h]
end
section
open Go.RowKit Go.Sort Go.Shelf
def Tryz.sortI_ren:Go.Shelf.Ren:=⟨λ| 5=>109 | 8=>174 | 7=>173 | 19=>232 | 20=>233 | 10=>223 | 11=>224 | 12=>225 | 13=>226 | 14=>227 | 15=>228 | 16=>229 | 17=>230 | 18=>231 | 30=>273 | 31=>274 | 32=>275 | 33=>276 | 34=>277 | 35=>278 | 40=>300 | n=>n,λ| 23=>171 | 25=>3 | 3=>3 | 32=>234 | 22=>171 | 0=>0 | 44=>237 | 46=>178 | 4=>4 | 36=>273 | 35=>272 | 41=>277 | 5=>5 | 9=>9 | 53=>299 | 57=>303 | 63=>309 | 64=>310 | n=>n,λ| n=>n⟩
theorem Tryz.sortI:Go.Proofs.SlLaysM.n5 AD Tryz.sortI_ren:= {
 mixed:=Aa
 f5:=⟨Tryz.f109.name,it,Tryz.func109.trans (congrArg some Aa)⟩
 f7:=⟨Tryz.f173.name,it,Tryz.func173.trans (congrArg some Aa)⟩
 f8:=Tryz.func174.trans (congrArg some Aa)
 f10:=⟨Tryz.f223.name,it,Tryz.func223.trans (congrArg some Aa)⟩
 f11:=⟨Tryz.f224.name,it,Tryz.func224.trans (congrArg some Aa)⟩
 f12:=⟨Tryz.f225.name,it,Tryz.func225.trans (congrArg some Aa)⟩
 f13:=⟨Tryz.f226.name,it,Tryz.func226.trans (congrArg some Aa)⟩
 f14:=⟨Tryz.f227.name,it,Tryz.func227.trans (congrArg some Aa)⟩
 f15:=⟨Tryz.f228.name,it,Tryz.func228.trans (congrArg some Aa)⟩
 f16:=⟨Tryz.f229.name,it,Tryz.func229.trans (congrArg some Aa)⟩
 f17:=⟨Tryz.f230.name,it,Tryz.func230.trans (congrArg some Aa)⟩
 f18:=⟨Tryz.f231.name,it,Tryz.func231.trans (congrArg some Aa)⟩
 f19:=Tryz.func232.trans (congrArg some Aa)
 f20:=Tryz.func233.trans (congrArg some Aa)
 f30:=⟨Tryz.f273.name,it,Tryz.func273.trans (congrArg some Aa)⟩
 f31:=Tryz.func274.trans (congrArg some Aa)
 f32:=Tryz.func275.trans (congrArg some Aa)
 f33:=⟨Tryz.f276.name,it,Tryz.func276.trans (congrArg some Aa)⟩
 f34:=⟨Tryz.f277.name,it,Tryz.func277.trans (congrArg some Aa)⟩
 f35:=⟨Tryz.f278.name,it,Tryz.func278.trans (congrArg some Aa)⟩
 f40:=⟨Tryz.f300.name,it,Tryz.func300.trans (congrArg some Aa)⟩
 t0:=Fu
 a0:=Tryz.isAgg0
 z0:=Tryz.sizeOf0
 v0:=Fv
 t3:=Do
 a3:=Tryz.isAgg3
 z3:=Tryz.sizeOf3
 v3:=Tryz.zeroValue3
 t4:=DI
 a4:=Tryz.isAgg4
 z4:=Tryz.sizeOf4
 v4:=FQ
 t5:=Dq
 a5:=Tryz.isAgg5
 z5:=Tryz.sizeOf5
 v5:=Tryz.zeroValue5
 t9:=Tryz.underlying9
 a9:=Tryz.isAgg9
 z9:=Tryz.sizeOf9
 v9:=Tryz.zeroValue9
 t22:=Tryz.underlying171
 a22:=Tryz.isAgg171
 z22:=Tryz.sizeOf171
 v22:=Tryz.zeroValue171
 t23:=Tryz.underlying171
 a23:=Tryz.isAgg171
 z23:=Tryz.sizeOf171
 v23:=Tryz.zeroValue171
 t25:=Do
 a25:=Tryz.isAgg3
 z25:=Tryz.sizeOf3
 v25:=Tryz.zeroValue3
 t32:=Tryz.underlying234
 a32:=Tryz.isAgg234
 z32:=Tryz.sizeOf234
 v32:=Tryz.zeroValue234
 t35:=Tryz.underlying272
 a35:=Tryz.isAgg272
 z35:=Tryz.sizeOf272
 v35:=Tryz.zeroValue272
 t36:=Tryz.underlying273
 a36:=Tryz.isAgg273
 z36:=Tryz.sizeOf273
 v36:=Tryz.zeroValue273
 t41:=Tryz.underlying277
 a41:=Tryz.isAgg277
 z41:=Tryz.sizeOf277
 v41:=Tryz.zeroValue277
 t44:=Tryz.underlying237
 a44:=Tryz.isAgg237
 z44:=Tryz.sizeOf237
 v44:=Tryz.zeroValue237
 t46:=Tryz.underlying178
 a46:=Tryz.isAgg178
 z46:=Tryz.sizeOf178
 v46:=Tryz.zeroValue178
 t53:=Tryz.underlying299
 a53:=Tryz.isAgg299
 z53:=Tryz.sizeOf299
 v53:=Tryz.zeroValue299
 t57:=Tryz.underlying303
 a57:=Tryz.isAgg303
 z57:=Tryz.sizeOf303
 v57:=Tryz.zeroValue303
 t63:=Tryz.underlying309
 a63:=Tryz.isAgg309
 z63:=Tryz.sizeOf309
 v63:=Tryz.zeroValue309
 t64:=Tryz.underlying310
 a64:=Tryz.isAgg310
 z64:=Tryz.sizeOf310
 v64:=Tryz.zeroValue310}
def Tryz.cmpI_ren:Go.Shelf.Ren:=⟨λ| 20=>111 | n=>n,λ| 22=>171 | 3=>3 | 4=>4 | 0=>0 | n=>n,λ| n=>n⟩
theorem Tryz.cmpI:Go.Proofs.Lays2.n20 AD Tryz.cmpI_ren:= {
 mixed:=Aa
 f20:=Tryz.func111.trans (congrArg some Aa)
 t0:=Fu
 a0:=Tryz.isAgg0
 z0:=Tryz.sizeOf0
 v0:=Fv
 t3:=Do
 a3:=Tryz.isAgg3
 z3:=Tryz.sizeOf3
 v3:=Tryz.zeroValue3
 t4:=DI
 a4:=Tryz.isAgg4
 z4:=Tryz.sizeOf4
 v4:=FQ
 t22:=Tryz.underlying171
 a22:=Tryz.isAgg171
 z22:=Tryz.sizeOf171
 v22:=Tryz.zeroValue171
 i3:=by kernel_rfl}
abbrev jn(w:World)(b:Nat)(v:Value)(xs:List Int):Prop:=w.ownsRow b 3 1 v xs.length (xs.map (AN .i64))
variable{w:World}
theorem zf{g q:Nat}(d:Array Int):w.grownBy (putRow (AN .i64) (Sort.ahead w q) g 0 d) (some g):=by
 refine⟨rfl,rfl,rfl,by simp[putRow,mapBlock,Sort.ahead],λk F C=> ?_⟩;have:g≠k:=λe=>C (by rw[e])
 simp[putRow,mapBlock,Sort.ahead,Array.getElem?_modify,this]
abbrev srt(xs:List Int):List Int:=xs.mergeSort λx y=>decide (x<=y)
theorem q_SortI{v:Value}{xs:List Int}(h:jn w b v xs)(V:v≠ .slice none 0 0)(hl:xs.length<=100000):
  AF AD 109 #[v] w λe w'=>e= .returned (.tuple #[])/\jn w' b v (srt xs)/\w.grownBy w' v.ownBlock:=by
 obtain⟨g,cap,rfl,hb,U,hn,hm,_,P⟩:=Lib.holds_of_ownsRow h V;refine(AnyM.slices_Sort_int Tryz.sortI g 0 cap xs w P U no).mono ?_;rintro e w' ⟨rfl,n,os,rfl⟩;refine⟨rfl,?_,grownBy_sortedI _⟩;rcases h.2 with⟨h0,_⟩ | ⟨Y,G,cur,C,h1,h2,h3,J,K,Z⟩
 ·cases h0
 ·injection C with C _ I;injection C with C;injection C with C;subst C;subst I;have F:(srt xs).length=xs.length:=List.length_mergeSort xs;have:=ownsRow_sortedI (n:=n) (os:=os) (ts:=srt xs) F h1 h2 h3 J K;unfold jn;rw[F];exact this
theorem abt{v:Value}{xs:List Int}(h:jn w b v xs)(G:v≠ .slice none 0 0)(hl:xs.length<=100000):
  AF AD 111 #[v] w λe w'=>∃v',e= .returned v'/\jn w' b v' (Lib.compact xs)/\v'.ownBlock=v.ownBlock/\v'≠ .slice none 0 0/\w.grownBy w' v.ownBlock:=by
 obtain⟨g,cap,rfl,hb,I,hn,J,_,F⟩:=Lib.holds_of_ownsRow h G;refine(Any.slices_Compact_int Tryz.cmpI g 0 cap xs w F no hn).mono ?_;rintro e w' ⟨rfl,q,rfl⟩;have C:=Lib.compact_length_le xs;refine⟨_,rfl,?_,rfl,(λe=>by cases e),zf _⟩;have hc:=Lib.ownsRow_putRow (q:=q) (k:=(Lib.compact xs).length) (ys:=Lib.compact xs++D1 (xs.length - (Lib.compact xs).length) 0) h (by simp;omega) C;rw[List.take_left]at hc;exact hc
theorem j9(xs:List Int):(Lib.compact xs).Sublist xs:=by
 unfold Lib.compact Lib.compactUpTo;have h:=(List.filter_sublist (p:=Lib.keeps xs.toArray) (l:=Bm xs.length)).map (xs.toArray[·]!);have e:=Lib.range_map_get xs.toArray;simp only[BW]at e;rw[e]at h;simpa using h
theorem zg(xs:List Int)(x:Int):x∈Lib.compact xs↔x∈xs:=by
 refine⟨λh=>(j9 xs).mem h,λh=> ?_⟩;obtain⟨j,C,rfl⟩:=BL h;have key:∀j,j<xs.length->xs.toArray[j]! ∈Lib.compact xs:=by
  intro j
  induction j with
  | zero=>
   intro C;exact Be.2 ⟨0,Fb.2 ⟨C6.2 C,by simp[Lib.keeps]⟩,rfl⟩
  | succ j ih=>
   intro C;by_cases hk:Lib.keeps xs.toArray (j+1)=true
   ·exact Be.2 ⟨j+1,Fb.2 ⟨C6.2 C,hk⟩,rfl⟩
   ·have e:xs.toArray[j+1]! =xs.toArray[j]! :=by
     unfold Lib.keeps at hk;simp only[decide_eq_true_eq,not_or,ne_eq,Decidable.not_not]at hk;simpa using hk.2
    rw[e];exact ih no
 have:=key j C;simpa [getElem!_pos,C]using this
theorem cs_asc(xs:List Int):(Lib.compact (srt xs)).Pairwise (· <= ·):=by
 have h:=List.pairwise_mergeSort (le:=λ(x y:Int)=>decide (x<=y)) (λa b c h k=>by simp at *;omega) (λa b=>by simp;omega) xs;exact((h.imp (λh=>Au)).sublist (j9 _))
theorem cs_mem(xs:List Int)(x:Int):x∈Lib.compact (srt xs)↔x∈xs:=by rw[zg,List.mem_mergeSort]
theorem cs_len(xs:List Int):(Lib.compact (srt xs)).length<=xs.length:=by
 have:=(j9 (srt xs)).length_le;rwa [List.length_mergeSort]at this
theorem abu(w:World)(a:Option Addr)(n c:Nat):AF AD 110 #[.slice a n c] w λe w'=>e= .returned (.func (.func 175) #[] #[.pointer (some ⟨w.heap.size,0,none⟩)])/\w'=w.alloc (.cells #[.slice a n c] 171):=by
 go_enter Tryz.func110,Tryz.ntmps110
 go_wp2;go_ret;exact Ai
theorem range_rev(k:Nat):(Bm (k+1)).reverse=k::(Bm k).reverse:=by rw[List.range_succ,List.reverse_append];rfl
set_option maxHeartbeats 1000000 in
theorem bw_stops(n:Nat)(hn:1<=n){zs:List Int}{cap g:Nat}{O B1:Nat}(C:B1<w.heap.size/\B1≠O)(hg:g<w.heap.size/\g≠O)(hl:zs.length<=1000000)
  (c1:w.cell? ⟨B1,0,none⟩=some (.slice (some ⟨g,0,none⟩) zs.length cap))(hc:∀(k:Nat)(z:Int),zs[k]? =some z->w.cell? ⟨g,k,none⟩=some (.int .i64 z)):
  SeqStopsK Ce n AD 175 #[.pointer (some ⟨B1,0,none⟩)] (λk:Nat=> #[AN .i64 (k:Int),AN .i64 (zs.getD k 0)]) (Kb w.heap.size O) (λys=>ys=(Bm zs.length).reverse) (λpre=>pre <+:(Bm zs.length).reverse) zs.length w:=λl J Jx W hW hJ ap hY h0=>by
 have P:Kb w.heap.size O w W:=Kb.below hW;have ao:W.cell? ⟨B1,0,none⟩=some (.slice (some ⟨g,0,none⟩) zs.length cap):=by rw[P.cell C.1 C.2];exact c1
 have U:=AE (show∀wq,Kb w.heap.size O w wq->wq.cell? ⟨B1,0,none⟩=some (.slice (some ⟨g,0,none⟩) zs.length cap)from λwq k=>by rw[k.cell C.1 C.2];exact c1);have HC:=AE (show∀wq,Kb w.heap.size O w wq->∀(k:Nat),k<zs.length->wq.cell? ⟨g,k,none⟩=some (.int .i64 (zs.getD k 0))from λwq k i hi=>by
  rw[k.cell hg.1 hg.2];exact hc i _ (by rw[D2,AM hi];rfl))
 have an:=AE P;have H0:=AE h0;have HY:=AE hY;obtain⟨N,hN⟩:∃N,N=zs.length:=⟨_,rfl⟩;rw[<-hN]at U HC HY hl ao⊢;have av:(N:Int)<=1000000:=no
 have ax:Bf.wrap ((N:Int) - 1)=(N:Int) - 1:=by rw[Cf];omega
 clear C hg c1 hc P hW h0 hJ ap hY hN;refine callsIn_of_wp Tryz.func175 rfl trivial ?_ rfl;simp only[Tryz.ntmps175,BW,Bh,Dc,Nat.reduceAdd,Nat.reduceSub,Array.replicate_succ,Array.replicate_zero,List.push_toArray,List.append_toArray,Db,DA]
 gi_wp2
 gi_loopg [3] N (λk s3 wr=>∃(pre:List Nat)(j:Int),s3= .int .i64 j/\Hid (j=(k:Int) - 1/\k<=N)/\Hid ((Bm N).reverse=pre++(Bm k).reverse)/\Hid (Kb w.heap.size O w wr)/\Hid (J pre wr))
 case atStart=>exact⟨[],_,rfl,AE ⟨rfl,AI _⟩,AE rfl,an,H0⟩
 case round=>
  obtain⟨pre,j,rfl,F,I,G,hj⟩:=hrel;rcases Nat.eq_zero_or_pos gk with h0 | ad
  ·subst h0;obtain rfl:j= -1:=by have:=F.out.1;omega
   have hq:=AE (show(∃v,BF (.tuple #[])= .returned v)/\((∃zs,zs=(Bm N).reverse/\J zs wr)\/(∃pre,pre <+:(Bm N).reverse/\Jx pre wr))from⟨⟨_,rfl⟩,.inl ⟨pre,by rw[I.out];simp,hj.out⟩⟩)
   gi_wp2
   go_end0
   exact⟨⟨_,rfl⟩,hq.out.2⟩
  ·obtain⟨i,rfl⟩:∃i,gk=i+1:=⟨gk - 1,no⟩;obtain rfl:j=(i:Int):=by have:=F.out.1;omega
   have K:i<N:=by have:=F.out.2;omega
   have ac:pre.length<N:=by
    have:=congrArg DU I.out;simp at this;omega
   have c1:=U.out wr G.out;have c2:=HC.out wr G.out i K;have ar:(0:Int)<=(i:Int):=no
   have au:(i:Int)<(N:Int):=no
   have ay:Bf.wrap ((i:Int) - 1)=(i:Int) - 1:=by rw[Cf];omega
   obtain⟨fn,tmps,ak,aq,hy,hR⟩:=HY.out pre i wr hj.out ac;have Y:=AE (show(Bm N).reverse=(pre++ [i])++(Bm i).reverse by rw[I.out,range_rev];simp);have HI:=AE K;obtain⟨z,hz⟩:∃z,zs.getD i 0=z:=⟨_,rfl⟩;rw[hz]at hy c2;clear I F ad ac K hj hz
   gi_wp2
   refine hR.mono ?_;rintro e W3 (⟨rfl,Z,ab⟩ | ⟨rfl,aa⟩)
   ·have V:=AE (G.out.trans ab);have am:=AE Z;clear hy hR ab G Z
    gi_wp2
    go_roundg i
    case measure=>omega
    case rel=>exact⟨pre++ [i],_,rfl,AE ⟨rfl,by have:=HI.out;omega⟩,Y,V,am⟩
   ·have HQ:=AE (show∃pre,pre <+:(Bm N).reverse/\Jx pre W3 from⟨pre++ [i],⟨_,Y.out.symm⟩,aa⟩);clear hy hR
    gi_wp2
    first
    | refine Ba (results_none rfl _ _ _) rfl ?_
    | go_end0
    exact⟨⟨_,rfl⟩,.inr HQ.out⟩
end
section
open Classical
noncomputable def zh(R:Tr)(q:Nm×Lk):List Int:=(if 0<=q.2.un then [q.2.un - 1]else [])++ [q.2.fr - 1]++(if (gX R q.1 q.2.fr).2.2=true then [(gX R q.1 q.2.fr).2.1]else [])
noncomputable def dK(R:Tr)(l:List (Nm×Lk)):List Int:=dX::l.flatMap (zh R)
theorem abv(R:Tr)(l:List (Nm×Lk))(q:Nm×Lk):dK R (l++ [q])=dK R l++zh R q:=by unfold dK;simp
theorem endQ_len(R:Tr)(q:Nm×Lk):(zh R q).length<=3:=by
 unfold zh;rw[Bj,Bj];split<;>split<;>simp
theorem oD(R:Tr):∀(l:List (Nm×Lk)),(dK R l).length<=1+3*l.length
 | []=>by simp[dK]
 | q::l=>by
  have h:=oD R l;have k:=endQ_len R q;unfold dK at *;simp only[Bh,List.flatMap_cons,Bj]at *;omega
def p6(R:Tr)(x:Int):Prop:=x=dX\/∃q∈R,(0<=q.2.un/\x=q.2.un - 1)\/x=q.2.fr - 1\/((gX R q.1 q.2.fr).2.2=true/\x=(gX R q.1 q.2.fr).2.1)
theorem endsL_mem{R:Tr}{l:List (Nm×Lk)}(hl:∀q,q∈l↔q∈R)(x:Int):x∈dK R l↔p6 R x:=by
 unfold dK p6;rw[AY,Br];refine or_congr Iff.rfl ⟨λ⟨q,C,h⟩=>⟨q,(hl q).1 C,?_⟩,λ⟨q,C,h⟩=>⟨q,(hl q).2 C,?_⟩⟩
 ·unfold zh at h;rcases AJ.1 h with h | h
  ·rcases AJ.1 h with h | h
   ·split at h
    ·rename_i F;exact .inl ⟨F,Au⟩
    ·cases h
   ·exact .inr (.inl Au)
  ·split at h
   ·rename_i F;exact .inr (.inr ⟨F,Au⟩)
   ·cases h
 ·unfold zh;rcases h with⟨h1,rfl⟩ | rfl | ⟨h1,rfl⟩
  ·rw[if_pos h1];simp
  ·simp
  ·rw[if_pos h1];simp
def zi(R:Tr)(tq fr:Nm)(n e:Int):Prop:=
 (¬(aF R fr/\aF R tq)/\n=0/\e=6)\/
 ((aF R fr/\aF R tq)/\((e=0/\0<=n/\p6 R n/\(aP R n tq fr).2=0/\∀x,p6 R x->0<=x->(aP R x tq fr).2=0->x<=n)\/(e=17/\n=0/\∀x,p6 R x->0<=x->(aP R x tq fr).2≠0)))
theorem lkRow_mem{R:Tr}{L:List Nm}(C:∀q∈R,q.1∈L)(q:Nm×Lk):q∈gH R L↔q∈R:=by
 unfold gH;rw[Br];constructor
 ·rintro⟨c,_,h⟩;obtain⟨x,F,rfl⟩:=Be.1 h;exact bV.1 F
 ·intro h;exact⟨q.1,C q h,Be.2 ⟨q.2,bV.2 h,rfl⟩⟩
structure EndS(W5 wr:World)(g:Nat)(v:Value)(xs:List Int):Prop where
 row:jn wr g v xs
 kb:Kb W5.heap.size g W5 wr
 own:∀k,v.ownBlock=some k->W5.heap.size<=k\/k=g
variable{W5 wr w':World}{g:Nat}{v:Value}{xs:List Int}
theorem EndS.below(h:EndS W5 wr g v xs)(hb:AW wr.heap.size wr w'):EndS W5 w' g v xs:=
 ⟨en h.row (λk C=>hb.block k (cf h.row C).2),h.kb.trans (Kb.below (hb.mono h.kb.size)),h.own⟩
theorem EndS.alloc(h:EndS W5 wr g v xs)(o:Obj):EndS W5 (wr.alloc o) g v xs:=h.below ((AH _ _).alloc (AI _) o)
theorem EndS.grown{v':Value}{ys:List Int}(h:EndS W5 wr g v xs)(F:wr.grownBy w' v.ownBlock)(hr:jn w' g v' ys)(G:v'.ownBlock=v.ownBlock\/v'.ownBlock=some wr.heap.size):EndS W5 w' g v' ys:=
 ⟨hr,h.kb.grown F h.kb.size h.own,λk C=>by
  rcases G with e | e
  ·exact h.own k (e▸C)
  ·rw[e]at C;injection C with C;subst C;exact .inl h.kb.size⟩
theorem EndS.app{ty:TypeId}(x:Int)(h:EndS W5 wr g v xs)(hb:g<=wr.heap.size)(hl:xs.length<=100000):
  ∃v' w',(BT #[171,171] ty #[v,.slice (some ⟨wr.heap.size,0,none⟩) 1 1]).run AD (wr.alloc (.cells #[.int .i64 x] 3))= .ok v' w'/\EndS W5 w' g v' (xs++ [x])/\∀B,B<wr.heap.size->v.ownBlock≠some B->w'.heap[B]? =wr.heap[B]? /\v'.ownBlock≠some B:=by
 have V:(1000000:Nat)<=maxLen:=by unfold maxLen;omega
 obtain⟨Y,hi,G,I,J⟩:=info_parts (show(AD.info? 3).map (λi=>(i.zero,i.size,i.bytes))=some (some (.int .i64 0),1,8)by kernel_rfl);have h2:=h.alloc (.cells #[.int .i64 x] 3);obtain⟨v',w',Z,k2,k3,_,K⟩:=run_append_own_at (P:=AD) (w:=wr.alloc (.cells #[.int .i64 x] 3)) g 171 ty 3 Y (.int .i64 0) 1 8 Tryz.underlying171 hi G I J rfl it v xs.length (xs.map (AN .i64)) h2.row ⟨wr.heap.size,0,none⟩ 1 1 [.int .i64 x] Ad (λj u C=>by
  rw[bQ,Nat.zero_add,aH (Bs wr _)]
  cases j with
  | zero=>simpa using C
  | succ j=>simp at C) (λu C=>by simp only[BP]at C;subst C;rfl) no no (by rw[asz];omega)
 refine⟨v',w',Z,h2.grown k3 ?_ K,λB U hn=>⟨?_,λe=> ?_⟩⟩
 ·show w'.ownsRow g 3 1 v' (xs++ [x]).length ((xs++ [x]).map (AN .i64));rw[Bj,List.map_append];exact k2
 ·rw[k3.block B (by rw[asz];omega) (λe=>hn e.symm)];exact heap_alloc_old _ _ U
 ·rcases K with F | F
  ·exact hn (F▸e)
  ·rw[F,asz]at e;injection e with e;omega
structure RdS(W5 wc:World)(g B:Nat)(v:Value)(xs:List Int)(q:Nm×Lk):Prop where
 es:EndS W5 wc g v xs
 lk:wc.heap[B]? =some (.cells #[.string q.1,.string q.2.par,.int .i64 q.2.fr,.int .i64 q.2.un] 76 (0,0))
 nb:v.ownBlock≠some B
variable{wc:World}{B:Nat}{q:Nm×Lk}
theorem RdS.lt(h:RdS W5 wc g B v xs q):B<wc.heap.size:=(A2.1 h.lk).1
theorem RdS.below(h:RdS W5 wc g B v xs q)(k:AW wc.heap.size wc w'):RdS W5 w' g B v xs q:=
 ⟨h.es.below k,(k.block B h.lt).trans h.lk,h.nb⟩
theorem RdS.app{ty:TypeId}(x:Int)(h:RdS W5 wc g B v xs q)(hb:g<=wc.heap.size)(hl:xs.length<=100000):
  ∃v' w',(BT #[171,171] ty #[v,.slice (some ⟨wc.heap.size,0,none⟩) 1 1]).run AD (wc.alloc (.cells #[.int .i64 x] 3))= .ok v' w'/\RdS W5 w' g B v' (xs++ [x]) q:=by
 obtain⟨v',w',h1,h2,h3⟩:=h.es.app (ty:=ty) x hb hl;exact⟨v',w',h1,h2,(h3 B h.lt h.nb).1.trans h.lk,(h3 B h.lt h.nb).2⟩
theorem RdS.c0(h:RdS W5 wc g B v xs q):wc.cell? ⟨B,0,none⟩=some (.string q.1)/\wc.cell? ⟨B,2,none⟩=some (.int .i64 q.2.fr)/\wc.cell? ⟨B,3,none⟩=some (.int .i64 q.2.un):=
 ⟨by rw[aH h.lk];rfl,by rw[aH h.lk];rfl,by rw[aH h.lk];rfl⟩
abbrev lkW(wr:World)(q:Nm×Lk):World:=(wr.alloc (.cells #[.string ⟨#[]⟩,.string ⟨#[]⟩,.int .i64 0,.int .i64 0] 76)).setCells wr.heap.size 0 (eB q)
theorem RdS.start(q:Nm×Lk)(h:EndS W5 wr g v xs):RdS W5 (lkW wr q) g wr.heap.size v xs q where
 es:=h.below (aQ _ 0 _ ((AH _ _).alloc (AI _) _) (AI _))
 lk:=by
  unfold lkW;rw[fA (eB q) _ wr.heap.size 0 _ _ (Bs wr _),lF (by simp[eB])];rfl
 nb:=λe=>by have:=(cf h.row e).2;omega
theorem lk_there(wr:World)(q:Nm×Lk):(wr.alloc (.cells #[.string ⟨#[]⟩,.string ⟨#[]⟩,.int .i64 0,.int .i64 0] 76)).there wr.heap.size 0 (eB q).toArray.size:=by
 have:=oc (Bs wr (.cells #[.string ⟨#[]⟩,.string ⟨#[]⟩,.int .i64 0,.int .i64 0] 76));simpa [eB]using this
end
section
variable {p q:Qq} {x y v u:Vq} {a b c:Pq}
theorem conj_m(a:QR)(h:a.nrm≠0):Sim QR.one (a.conj.mul a):=⟨a.nrm,h,by unfold QR.mul QR.conj QR.one QR.smul QR.nrm;ext<;>simp only<;>grind⟩
theorem g_inv'(h:q.good):q.inv.mul q=Qq.id:=by
 refine xU (fw (aS h) h) qD ?_;have h1:=(ab7 (aS h) h).symm.trans (((ab8 h).symm).mul (Sim.refl q.r));rw[id_r];exact h1.trans (conj_m q.r (fv h)).symm
end
section
open Classical
def sh(x y z:Int):Pq:=⟨Qq.id,Vq.of x y z⟩
theorem mO(x y z:Int):(sh x y z).good:=⟨qD,Vq.good.of x y z⟩
theorem sh_cv(x y z:Int):(sh x y z).rot.comp/\(sh x y z).pos.good:=⟨(mO x y z).rot.comp,(mO x y z).pos⟩
theorem ke{x y z:Int}(C: -1000000<=x/\x<=1000000)(hy: -1000000<=y/\y<=1000000)(hz: -1000000<=z/\z<=1000000):(sh x y z).ok 2:=
 ⟨ug,⟨aL _ no no,aL _ no no,aL _ no no⟩⟩
theorem zj{S:List St}{a:Int}{p:Pq}(g:p.good):fT S ⟨a,p⟩=pY S ⟨a,p⟩:=uB (s:=⟨a,p⟩) g
abbrev nC:Nm:=nm1 99
abbrev nX:Nm:=nm1 120
theorem nAC:nA≠nC:=oq it
theorem nBC:nB≠nC:=oq it
theorem nAX:nA≠nX:=oq it
theorem nBX:nB≠nX:=oq it
theorem nCX:nC≠nX:=oq it
theorem iC:bX nC:=acp (.inl ⟨it,it⟩)
abbrev awS:List St:=[⟨0,sh 1 0 0⟩,⟨10,sh 3 0 0⟩]
abbrev awB:Lk:=⟨nA,0, -1,false,Pq.zero,awS⟩
abbrev awC:Lk:=⟨nA,5, -1,true,sh 0 1 0,[]⟩
variable{R R':Tr}{e:Int}
theorem aw_u1(F:REq R [])(d:AttS bX R nB nA 0 R' e):e=0/\REq R' [(nB,bF nA 0)]:=by
 have k:AttS bX [] nB nA 0 (jA [] nB nA 0) 0:=.ok ⟨iB,iA⟩ it it (λi q h=>Ao) (λx h=>by cases h) 2 ⟨[nB,nA],by simp[nAB.symm],λx=>by
  have:¬aF [] x:=λ⟨q,C,_⟩=>by cases C
  simp[this],rfl⟩ ⟨it,it⟩ (λh=>by
  rcases h with h | ⟨q,C,_⟩
  ·cases h with
   | step h _=>obtain⟨q,C,_⟩:=kz h;cases C
  ·cases C)
 exact d.uniq F k
theorem aw_t1{a:Int}{x:Nm}(h:par [(nB,bF nA 0)] a x≠none):x=nB:=by
 cases hp:par [(nB,bF nA 0)] a x with
 | none=>exact absurd hp h
 | some y=>
  obtain⟨q,C,_,_⟩:=kz hp;simp only[BP]at C;exact congrArg Prod.fst C
theorem aw_u2(F:REq R [(nB,bF nA 0)])(d:AttS bX R nC nA 5 R' e):e=0/\REq R' [(nB,bF nA 0),(nC,bF nA 5)]:=by
 have hl:lks [(nB,bF nA 0)] nC=[]:=by rw[eh,if_neg nBC,kv]
 have k:AttS bX [(nB,bF nA 0)] nC nA 5 (jA [(nB,bF nA 0)] nC nA 5) 0:=.ok ⟨iC,iA⟩ it it (λi q h k=>by
   have:=A5 h;simp only[BP]at this;subst this;exact nBC k.1) (λx h=>by rw[hl]at h;cases h) 3 ⟨[nC,nB,nA],by simp[nAB.symm,nAC.symm,nBC.symm],λx=>by
  have:aF [(nB,bF nA 0)] x↔x=nB\/x=nA:=⟨λ⟨q,C,h⟩=>by
   simp only[BP]at C;subst C;rcases h with h | h
   ·exact .inl h.symm
   ·exact .inr h.symm,λh=>⟨_,BP.2 rfl,by rcases h with rfl | rfl;exact .inl rfl;exact .inr rfl⟩⟩
  show _↔aF [(nB,bF nA 0)] x\/x=nC\/x=nA;rw[this];simp only[AY,Dx,or_false];constructor
  ·rintro(h | h | h)
   ·exact .inr (.inl h)
   ·exact .inl (.inl h)
   ·exact .inr (.inr h)
  ·rintro((h | h) | h | h)
   ·exact .inr (.inl h)
   ·exact .inr (.inr h)
   ·exact .inl h
   ·exact .inr (.inr h),rfl⟩ ⟨it,by rw[hl];decide⟩ (λh=>by
  rcases h with h | ⟨q,C,h,_⟩
  ·cases h with
   | step h _=>exact nAB (aw_t1 (by rw[h];simp))
  ·simp only[BP]at C;subst C;exact absurd h it)
 exact d.uniq F k
theorem aw_u3(F:TOk R)(C:REq R [(nB,bF nA 0),(nC,bF nA 5)])(d:FixS (decide (sh 0 1 0).good) (sh 0 1 0) R nC R' e):e=0/\REq R' [(nB,bF nA 0),(nC,awC)]:=by
 have k:FixS (decide (sh 0 1 0).good) (sh 0 1 0) [(nB,bF nA 0),(nC,bF nA 5)] nC ([(nB,bF nA 0)]++(nC,{bF nA 5 with st:=true,po:=sh 0 1 0})::[]) 0:=
  .ok (A:=[(nB,bF nA 0)]) (B:=[]) rfl rfl rfl rfl (decide_eq_true (mO _ _ _))
 exact d.uniq F (F.of_req C) C k
theorem lk_b{x y:Lk}:lks [(nB,x),(nC,y)] nB=[x]:=by rw[eh,if_pos rfl,eh,if_neg (λe=>nBC e.symm),kv]
theorem lk_c{x y:Lk}:lks [(nB,x),(nC,y)] nC=[y]:=by rw[eh,if_neg nBC,eh,if_pos rfl,kv]
theorem aw_u4(F:TOk R)(C:REq R [(nB,bF nA 0),(nC,awC)])(d:SetS (kM 0 (sh 1 0 0)) R nB 0 R' e):e=0/\REq R' [(nB,{bF nA 0 with tr:=[⟨0,sh 1 0 0⟩]}),(nC,awC)]:=by
 have ha:kM 0 (sh 1 0 0) (bF nA 0).tr=([⟨0,sh 1 0 0⟩],0):=by
  rw[show kM 0 (sh 1 0 0) (bF nA 0).tr=fT [] ⟨0,(sh 1 0 0)⟩from rfl,zj (mO _ _ _)];unfold pY;simp[fF,plN]
 have k:SetS (kM 0 (sh 1 0 0)) [(nB,bF nA 0),(nC,awC)] nB 0 ([]++(nB,{bF nA 0 with tr:=(kM 0 (sh 1 0 0) (bF nA 0).tr).1})::[(nC,awC)]) (kM 0 (sh 1 0 0) (bF nA 0).tr).2:=
  .ok (A:=[]) (B:=[(nC,awC)]) rfl (by unfold tAt;rw[lk_b];rfl) rfl
 rw[ha]at k;exact d.uniq F C k
theorem aw_u5(I:TOk R)(G:REq R [(nB,{bF nA 0 with tr:=[⟨0,sh 1 0 0⟩]}),(nC,awC)])(d:SetS (kM 10 (sh 3 0 0)) R nB 10 R' e):e=0/\REq R' [(nB,awB),(nC,awC)]:=by
 have C:¬opp (sh 1 0 0) (sh 3 0 0):=by
  unfold opp;have F:(sh 1 0 0).rot.inv.mul (sh 3 0 0).rot=Qq.id:=g_inv' qD;rw[F];decide
 have ha:kM 10 (sh 3 0 0) [⟨0,sh 1 0 0⟩]=(awS,0):=by
  rw[show kM 10 (sh 3 0 0) [⟨0,sh 1 0 0⟩]=fT [⟨0,sh 1 0 0⟩] ⟨10,(sh 3 0 0)⟩from rfl,zj (mO _ _ _)];unfold pY;simp[fF,plN,C]
 have k:SetS (kM 10 (sh 3 0 0)) [(nB,{bF nA 0 with tr:=[⟨0,sh 1 0 0⟩]}),(nC,awC)] nB 10 ([]++(nB,{bF nA 0 with tr:=(kM 10 (sh 3 0 0) [⟨0,sh 1 0 0⟩]).1})::[(nC,awC)]) (kM 10 (sh 3 0 0) [⟨0,sh 1 0 0⟩]).2:=
  .ok (A:=[]) (B:=[(nC,awC)]) (x:= {bF nA 0 with tr:=[⟨0,sh 1 0 0⟩]}) rfl (by unfold tAt;rw[lk_b];rfl) rfl
 rw[ha]at k;exact d.uniq I G k
end
section
open Classical
section
variable {R:Tr} {a:Int} (hR:REq R [(nB,awB),(nC,awC)])
include hR
theorem aw_lb:lks R nB=[awB]:=by rw[hR nB,lk_b]
theorem aw_lc:lks R nC=[awC]:=by rw[hR nC,lk_c]
theorem mP{q:Nm×Lk}:q∈R↔q=(nB,awB)\/q=(nC,awC):=by rw[hR.mem];simp
theorem aw_tb(h:0<=a):tAt R nB a=some awB:=by
 have:awB.has a=true:=dg.2 ⟨h,.inl rfl⟩;unfold tAt;rw[aw_lb hR];simp only[Ej,this]
theorem aw_tc(h:5<=a):tAt R nC a=some awC:=by
 have:awC.has a=true:=dg.2 ⟨h,.inl rfl⟩;unfold tAt;rw[aw_lc hR];simp only[Ej,this]
theorem aw_tc0(h:a<5):tAt R nC a=none:=by
 have:awC.has a=false:=Bool.eq_false_iff.2 (λe=>by have:=(dg.1 e).1;simp only at this;omega);unfold tAt;rw[aw_lc hR];simp only[Ej,this]
theorem aw_pb(h:0<=a):par R a nB=some nA:=by unfold par;rw[aw_tb hR h];rfl
theorem aw_pc(h:5<=a):par R a nC=some nA:=by unfold par;rw[aw_tc hR h];rfl
theorem aw_pc0(h:a<5):par R a nC=none:=by unfold par;rw[aw_tc0 hR h];rfl
theorem aw_pa:par R a nA=none:=by
 cases hp:par R a nA with
 | none=>rfl
 | some y=>
  obtain⟨q,C,_,_⟩:=kz hp;rcases(mP hR).1 C with e | e
  ·exact absurd (congrArg Prod.fst e) nAB
  ·exact absurd (congrArg Prod.fst e) nAC
theorem acO:aF R nA:=⟨_,(mP hR).2 (.inl rfl),.inr rfl⟩
theorem zk:aF R nB:=⟨_,(mP hR).2 (.inl rfl),.inl rfl⟩
theorem zm:aF R nC:=⟨_,(mP hR).2 (.inr rfl),.inl rfl⟩
theorem aw_kx:¬aF R nX:=λ⟨q,C,h⟩=>by
 rcases(mP hR).1 C with e | e<;>subst e
 ·rcases h with h | h
  ·exact nBX h
  ·exact nAX h
 ·rcases h with h | h
  ·exact nCX h
  ·exact nAX h
theorem acP:bm R a nA=[nA]:=mJ (.root (aw_pa hR))
theorem zn(h:0<=a):bm R a nB=[nB,nA]:=mJ (.step (aw_pb hR h) (.root (aw_pa hR)))
theorem aw_ac(h:5<=a):bm R a nC=[nC,nA]:=mJ (.step (aw_pc hR h) (.root (aw_pa hR)))
theorem aw_ac0(h:a<5):bm R a nC=[nC]:=mJ (.root (aw_pc0 hR h))
theorem aw_eb(h:0<=a):bC R nB a=trkP awS a:=by unfold bC;rw[aw_tb hR h];rfl
theorem aw_ec(h:5<=a):bC R nC a=(sh 0 1 0,0):=by unfold bC;rw[aw_tc hR h];rfl
theorem sU(h:5<=a):aE R a nB nC=(nA,0):=by
 unfold aE;rw[if_pos ⟨zk hR,zm hR⟩,zn hR no,aw_ac hR h];simp[iw,nBC,nAB.symm]
theorem aw_mba(h:0<=a):aE R a nB nA=(nA,0):=by
 unfold aE;rw[if_pos ⟨zk hR,acO hR⟩,zn hR h,acP hR];simp[iw,nAB.symm]
theorem aw_mab(h:0<=a):aE R a nA nB=(nA,0):=by
 unfold aE;rw[if_pos ⟨acO hR,zk hR⟩,zn hR h,acP hR];simp[iw]
theorem aw_mca(h:5<=a):aE R a nC nA=(nA,0):=by
 unfold aE;rw[if_pos ⟨zm hR,acO hR⟩,aw_ac hR h,acP hR];simp[iw,nAC.symm]
theorem aw_mbc0(h:0<=a)(C:a<5):aE R a nB nC=(BZ,18):=by
 unfold aE;rw[if_pos ⟨zk hR,zm hR⟩,zn hR h,aw_ac0 hR C];simp[iw,nBC,nAC]
theorem aw_ba(h:0<=a):bx (bm R a nB) nA=[nB]:=by rw[zn hR h];simp[bx,nAB.symm]
theorem aw_ca(h:5<=a):bx (bm R a nC) nA=[nC]:=by rw[aw_ac hR h];simp[bx,nAC.symm]
theorem aw_na:bx (bm R a nA) nA=[]:=by rw[acP hR];simp[bx]
theorem aw_uc(h:5<=a):upP R a nC nA=((sh 0 1 0).mul Pq.id,0):=by
 unfold upP;rw[aw_ca hR h];unfold cD;rw[aw_ec hR h,if_pos rfl];rfl
theorem aw_ua:upP R a nA nA=(Pq.id,0):=by unfold upP;rw[aw_na hR];rfl
theorem acQ{p:Pq}(h:0<=a)(k:trkP awS a=(p,0)):upP R a nB nA=(p.mul Pq.id,0):=by
 unfold upP;rw[aw_ba hR h];unfold cD;rw[aw_eb hR h,k,if_pos rfl];rfl
theorem aw_ub0{p:Pq}{c:Int}(h:0<=a)(k:trkP awS a=(p,c))(hc:c≠0):upP R a nB nA=(Pq.zero,c):=by
 unfold upP;rw[aw_ba hR h];unfold cD;rw[aw_eb hR h,k,if_neg hc]
end
theorem aw_k0:trkP awS 0=(sh 1 0 0,0):=by simp[trkP,plN]
theorem aw_k10:trkP awS 10=(sh 3 0 0,0):=by simp[trkP,plN]
theorem aw_k5:trkP awS 5=(sh 2 0 0,0):=by
 have e:atP ⟨0,sh 1 0 0⟩ ⟨10,sh 3 0 0⟩ 0 5=sh 2 0 0:=by
  rw[atP_m it];kernel_rfl
 simp[trkP,plN,e]
theorem aw_kl{a:Int}(h:10<a):trkP awS a=(Pq.zero,17):=by
 unfold trkP;simp only[Eh,Bh,Dc];rw[show(0+1+1 - 1:Nat)=1 from rfl,show awS[1]? =some ⟨10,sh 3 0 0⟩from rfl];simp only;rw[if_pos (.inr h)]
section
variable {R:Tr} (hR:REq R [(nB,awB),(nC,awC)])
include hR
theorem aw_f1:aP R 5 nC nB=(sh 2 (-1) 0,0):=by
 rw[j8 (sU hR it) (acQ hR it aw_k5) (aw_uc hR it)];rw[show((sh 0 1 0).mul Pq.id).inv.mul ((sh 2 0 0).mul Pq.id)=sh 2 (-1) 0 by kernel_rfl]
theorem aw_f2:aP R 11 nA nB=(Pq.zero,17):=ze (aw_mba hR it) (aw_ub0 hR it (aw_kl it) it) it
theorem aw_f3:aP R 4 nC nB=(Pq.zero,18):=zd (aw_mbc0 hR it it) it
theorem aw_f4(a:Int):aP R a nX nB=(Pq.zero,6):=zd (x:=BZ) (by unfold aE;rw[if_neg (λh=>aw_kx hR h.2)]) it
theorem aw_f5:(aP R 10 nC nB).2=0:=by rw[j8 (sU hR it) (acQ hR it aw_k10) (aw_uc hR it)]
theorem aw_f6:(aP R dX nC nB).2=17:=by rw[ze (sU hR it) (aw_ub0 hR it (aw_kl it) it) it]
theorem aw_f7:(aP R dX nA nC).2=0:=by rw[j8 (aw_mca hR it) (aw_uc hR it) (aw_ua hR)]
theorem aw_f8:pZ R nB 10 nB 0 nA=(sh (-2) 0 0,0):=by
 have h1:aP R 0 nA nB=(Pq.id.inv.mul ((sh 1 0 0).mul Pq.id),0):=j8 (aw_mba hR it) (acQ hR it aw_k0) (aw_ua hR);have h2:aP R 10 nB nA=(((sh 3 0 0).mul Pq.id).inv.mul Pq.id,0):=j8 (aw_mab hR it) (aw_ua hR) (acQ hR it aw_k10);unfold pZ;rw[h1,h2,if_neg Ad,if_neg Ad];rw[show(((sh 3 0 0).mul Pq.id).inv.mul Pq.id).mul (Pq.id.inv.mul ((sh 1 0 0).mul Pq.id))=sh (-2) 0 0 by kernel_rfl]
theorem abw(x:Int):p6 R x↔x=dX\/x= -1\/x=10\/x=4:=by
 have C:gX R nB 0=(0,10,true):=by unfold gX;rw[aw_tb hR it];rfl
 have G:gX R nC 5=(5,dX,true):=by unfold gX;rw[aw_tc hR it];rfl
 unfold p6;constructor
 ·rintro(h | ⟨q,F,h⟩)
  ·exact .inl h
  ·rcases(mP hR).1 F with rfl | rfl
   ·simp only[C]at h;rcases h with⟨h,_⟩ | h | ⟨_,h⟩
    ·exact absurd h it
    ·exact .inr (.inl h)
    ·exact .inr (.inr (.inl h))
   ·simp only[G]at h;rcases h with⟨h,_⟩ | h | ⟨_,h⟩
    ·exact absurd h it
    ·exact .inr (.inr (.inr h))
    ·exact .inl h
 ·rintro(h | h | h | h)
  ·exact .inl h
  ·exact .inr ⟨_,(mP hR).2 (.inl rfl),.inr (.inl h)⟩
  ·exact .inr ⟨_,(mP hR).2 (.inl rfl),.inr (.inr (by simp only[C];exact⟨trivial,h⟩))⟩
  ·exact .inr ⟨_,(mP hR).2 (.inr rfl),.inr (.inl h)⟩
theorem aw_lat1{e:Int}(h:zi R nC nB n e):n=10/\e=0:=by
 have C:p6 R 10:=(abw hR 10).2 (.inr (.inr (.inl rfl)));rcases h with⟨h,_⟩ | ⟨_,⟨F,h0,h1,h2,h3⟩ | ⟨_,_,h3⟩⟩
 ·exact absurd ⟨zk hR,zm hR⟩ h
 ·have G:=h3 10 C it (aw_f5 hR);rcases(abw hR n).1 h1 with rfl | rfl | rfl | rfl
  ·rw[aw_f6 hR]at h2;cases h2
  ·omega
  ·exact⟨rfl,F⟩
  ·omega
 ·exact absurd (aw_f5 hR) (h3 10 C it)
theorem aw_lat2{e:Int}(h:zi R nA nC n e):n=1099511627776/\e=0:=by
 have C:p6 R dX:=.inl rfl;rcases h with⟨h,_⟩ | ⟨_,⟨G,h0,h1,h2,h3⟩ | ⟨_,_,h3⟩⟩
 ·exact absurd ⟨zm hR,acO hR⟩ h
 ·have F:=h3 dX C it (aw_f7 hR);refine⟨?_,G⟩;unfold dX at F;rcases(abw hR n).1 h1 with rfl | rfl | rfl | rfl
  ·rfl
  ·omega
  ·omega
  ·omega
 ·exact absurd (aw_f7 hR) (h3 dX C it)
theorem aw_path:mN R 5 nB nC=[nB,nA,nC]:=by
 unfold mN;rw[sU hR it,aw_ba hR it,aw_ca hR it];rfl
end
end
def xq_rOfKX(x y z:Int):List Fq:=[(Fq.ofInt x),(Fq.ofInt y),(Fq.ofInt z)]
variable{w:World}
theorem q_rOfK(x y z:Int)(C: -100000<=x/\x<=100000)(hy: -100000<=y/\y<=100000)(hz: -100000<=z/\z<=100000):
  AF AD 64 #[.int .i64 x,.int .i64 y,.int .i64 z] w λe w'=>de w (Vq.of x y z) e w':=by
 exact(cR1 (xq_rOfKX x y z) [.val (.int .i64 x),.val (.int .i64 y),.val (.int .i64 z)] [.one (.ref 9),.one (.ref 10),.one (.ref 11)] [.int .i64 x,.int .i64 y,.int .i64 z] (.v (row [0,1,2])) (il3 (jj 0 x (iL 9 rfl) rfl no no) (jj 1 y (iL 10 rfl) rfl no no) (jj 2 z (iL 11 rfl) rfl no no)) aA Tryz.func64 ⟨bw 9 rfl (cZ it),⟨bw 10 rfl (cZ it),⟨bw 11 rfl (cZ it),trivial⟩⟩⟩).mono (mMo λh=>rV1 h)
theorem I_rOfK(kr:List Nat){xs:List Fq}{ys:Rho}{l l' F:Leaf}{x y z:Int}(h1:KI (frs xs++ys) l .i64 x)(h2:KI (frs xs++ys) l' .i64 y)(h3:KI (frs xs++ys) F .i64 z)(G:AtL xs kr (Vq.of x y z).cs)(U: -100000<=x/\x<=100000)(hy: -100000<=y/\y<=100000)(hz: -100000<=z/\z<=100000):OkI xs ys ⟨64,[.one l,.one l',.one F],.v (row kr)⟩:=
 ⟨af Tryz.func64 rfl rfl,λB w vs V C=>by
  match vs,C with
  | [v0,v1,v2],C=>
   have I:=h1 _ _ _ C.1;have J:=h2 _ _ _ C.2.1;have K:=h3 _ _ _ C.2.2.1;subst I;subst J;subst K;refine(q_rOfK x y z U hy hz).mono ?_;rintro e w' ⟨v,rfl,h3,P⟩;exact⟨v,rfl,(ag G).2 h3,P⟩⟩
def xq_shiftX(x y z:Int):List Fq:=(Pq.id.cs++([(Vq.of x y z).x,(Vq.of x y z).y,(Vq.of x y z).z]))
theorem qL(x y z:Int)(C: -100000<=x/\x<=100000)(hy: -100000<=y/\y<=100000)(hz: -100000<=z/\z<=100000):
  AF AD 114 #[.int .i64 x,.int .i64 y,.int .i64 z] w λe w'=>jq w (sh x y z) e w':=by
 refine(cR1 (xq_shiftX x y z) [.val (.int .i64 x),.val (.int .i64 y),.val (.int .i64 z)] [.one (.ref 30),.one (.ref 31),.one (.ref 32)] [.int .i64 x,.int .i64 y,.int .i64 z] (.v (row [0,1,2,3,7,8,9])) (il2 (aaT [0,1,2,3,4,5,6] Ae) (I_rOfK [7,8,9] (iL 30 rfl) (iL 31 rfl) (iL 32 rfl) Ac C hy hz)) aA Tryz.func114 ⟨bw 30 rfl (cZ it),⟨bw 31 rfl (cZ it),⟨bw 32 rfl (cZ it),trivial⟩⟩⟩).mono ?_;rintro e w' ⟨v,rfl,h1,h2⟩;exact⟨v,rfl,rO1 h1,h2⟩
section
variable {p:Program} {ρ:Rho} {w0:Ent} {nt:Nat} {C:List Inst} {L:List OIns} {ops:Array Oper} {a:Act} {w:World}
theorem reg_bool{s:MS}{id:Nat}{F:Bool}{Q:Exit->Act->World->Prop}{x:Nat}(Y:x<100000)(J:∀i∈C,i.Ok0 p ρ w0)(K:∀i∈L,i.OkE w0 p ρ)(U:p.follows .mixedOrders=true)
  (h:(regX p C L nt ops s).bind (λG=>bI G x)=some (.v (.one (.b true))))(hs:MSt ρ w0 nt s a w)(P:∀a' w',a'.tmps.getD x undef= .bool true->a'.defers=[]->w0.kept w'->Q .normal a' w'):(Code.region id ops F).wp p Q a w:=by
 cases hr:regX p C L nt ops s with
 | none=>rw[hr]at h;cases h
 | some G=>
  rw[hr]at h;have h:bI G x=some (.v (.one (.b true))):=h;refine rp J K U hr hs (λa' w' ⟨B,hi,V,_⟩=>P a' w' ?_ hi.dfr hi.below);have h2:=V x _ h;unfold bL at h2;rw[if_pos Y]at h2;obtain⟨u,h3,I⟩:=h2;have e:u= .bool true:=I;subst e;simp[h3]
def lK(ρ:Rho)(B:Blk)(w:World):List (Option AV)->List Value->Prop
 | [],_=>True
 | none::r,_::vs=>lK ρ B w r vs
 | some c::r,v::vs=>c.holds ρ B w v/\lK ρ B w r vs
 | _,_=>False
theorem lK.get{B:Blk}:∀ {k:List (Option AV)} {vs:List Value},lK ρ B w k vs->∀ {x:Nat} {c:AV},k[x]? =some (some c)->∃u,vs[x]? =some u/\c.holds ρ B w u
 | [],_,_,x,c,F=>by cases F
 | none::r,v::vs,h,0,c,F=>by injection F with F;cases F
 | none::r,v::vs,h,x+1,c,F=>lK.get (k:=r) (vs:=vs) h (x:=x) F
 | some c'::r,v::vs,h,0,c,F=>by injection F with F;injection F with F;subst F;exact⟨v,rfl,h.1⟩
 | some c'::r,v::vs,h,x+1,c,F=>lK.get (k:=r) (vs:=vs) h.2 (x:=x) F
def tu(b0 b1:Nat):Blk:=⟨λx=>if x=0 then some b0 else if x=1 then some b1 else none,λ_ _=>False⟩
theorem blk2_has{b0 b1 g:Nat}(h:(tu b0 b1).has g):g=b0\/g=b1:=by
 rcases h with⟨x,h⟩ | ⟨k,h⟩
 ·simp only[tu]at h;split at h
  ·injection h with h;exact .inl h.symm
  ·split at h
   ·injection h with h;exact .inr h.symm
   ·cases h
 ·exact h.elim
theorem aD.at{B:Blk}:∀ {ls:List Leaf} {vs:List Value},aD ρ B w ls vs->∀ {j:Nat} {l:Leaf},ls[j]? =some l->∃u,vs[j]? =some u/\l.holds ρ B w u
 | [],[],_,j,l,F=>by cases F
 | l'::ls,v::vs,h,0,l,F=>by injection F with F;subst F;exact⟨v,rfl,h.1⟩
 | l'::ls,v::vs,h,j+1,l,F=>aD.at (ls:=ls) (vs:=vs) h.2 (j:=j) F
theorem mst_two{we:World}{T:TypeId}{b0 b1:Nat}{J K:List Value}{l0 l1:List Leaf}{known:List (Option AV)}{ts:List Value}(aa:b0≠b1)(hb:AW we.heap.size we w)(g0:we.heap.size<=b0)(g1:we.heap.size<=b1)
  (h0:w.heap[b0]? =some (.cells J.toArray T (0,0)))(h1:w.heap[b1]? =some (.cells K.toArray T (0,0)))(n0:∀u∈J,noU u)(n1:∀u∈K,noU u)(Z:aD ρ (tu b0 b1) w l0 J)(k1:aD ρ (tu b0 b1) w l1 K)
  (P:lK ρ (tu b0 b1) w known ts)(hn:ts.length=nt):MSt ρ (Ent.of we) nt ⟨known++D1 (nt - known.length) none,[(T,l0.map some),(T,l1.map some)]⟩ ⟨ts.toArray,[]⟩ w:=by
 have q0:=Z.len;have q1:=k1.len;refine⟨tu b0 b1,⟨λv g G=> ?_,λk g h=>h.elim,⟨λx y g F hy=> ?_,λk l g h=>h.elim,λx k g F h=>h⟩,⟨hb.os,hb.tape,hb.output,hb.size,λk P _=>hb.block k P⟩,by simpa using hn,rfl,λx g h=>by simp[Ent.of]at h⟩,λx c F=> ?_,λv G=> ?_⟩
 ·simp only[tu]at G;split at G
  ·rename_i e;subst e;injection G with G;subst G;refine⟨.inl g0,J.toArray,T,by simp[d9,q0],h0,λk n P=> ?_⟩;have:=A5 (show J[k]? =some (.int .u32 n)by simpa using P);exact n0 _ this n rfl
  ·split at G
   ·rename_i e;subst e;injection G with G;subst G;refine⟨.inl g1,K.toArray,T,by simp[d9,q1],h1,λk n P=> ?_⟩;have:=A5 (show K[k]? =some (.int .u32 n)by simpa using P);exact n1 _ this n rfl
   ·cases G
 ·simp only[tu]at F hy;split at F
  ·injection F with F;split at hy
   ·omega
   ·split at hy
    ·injection hy with hy;omega
    ·cases hy
  ·split at F
   ·injection F with F;split at hy
    ·injection hy with hy;omega
    ·split at hy
     ·omega
     ·cases hy
   ·cases F
 ·unfold bI at F;split at F
  ·rename_i U;unfold bL;rw[if_pos U];simp only at F;have I:(known++D1 (nt - known.length) none)[x]? =some (some c):=by
    cases hq:(known++D1 (nt - known.length) none)[x]? with
    | none=>rw[hq]at F;cases F
    | some o=>rw[hq]at F;simp only at F;rw[F]
   have Y:known[x]? =some (some c):=by
    by_cases hl:x<known.length
    ·rwa [BB hl]at I
    ·rw[List.getElem?_append_right no,List.getElem?_replicate]at I;split at I
     ·injection I with I;cases I
     ·cases I
   obtain⟨u,h3,V⟩:=P.get Y;exact⟨u,by simpa using h3,V⟩
  ·rename_i U;unfold bL;rw[if_neg U]
   match hq:x / 100000 - 1,F with
   | 0,F=>
    simp only[Eh,Bp]at F
    cases hl:l0[x % 100000]? with
    | none=>rw[hl]at F;cases F
    | some l=>
     rw[hl]at F;simp only[BG,A4.injEq]at F;subst F;obtain⟨u,h3,V⟩:=Z.at hl;exact⟨b0,J.toArray,T,u,rfl,h0,by simpa using h3,V⟩
   | 1,F=>
    simp only[List.getElem?_cons_succ,Eh,Bp]at F
    cases hl:l1[x % 100000]? with
    | none=>rw[hl]at F;cases F
    | some l=>
     rw[hl]at F;simp only[BG,A4.injEq]at F;subst F;obtain⟨u,h3,V⟩:=k1.at hl;exact⟨b1,K.toArray,T,u,rfl,h1,by simpa using h3,V⟩
   | n+2,F=>simp at F
 ·simp only[tu]at G;show v<2;split at G
  ·omega
  ·split at G
   ·omega
   ·exact absurd rfl G
end
theorem acR{xs:List Fq}{ys:Rho}{kr:List Nat}(x y z:Int)(G:AtL xs kr (sh x y z).cs)(U: -100000<=x/\x<=100000)(hy: -100000<=y/\y<=100000)(hz: -100000<=z/\z<=100000):OkI xs ys ⟨114,[.one (.i .i64 x),.one (.i .i64 y),.one (.i .i64 z)],.v (row kr)⟩:=
 ⟨af Tryz.func114 rfl rfl,λB w vs V F=>by
  match vs,F with
  | [v0,v1,v2],F=>
   have I:v0= .int .i64 x:=F.1;have J:v1= .int .i64 y:=F.2.1;have K:v2= .int .i64 z:=F.2.2.1;subst I;subst J;subst K;refine(qL x y z U hy hz).mono ?_;rintro e w' ⟨v,rfl,h3,P⟩;exact⟨v,rfl,(ag G).2 h3,P⟩⟩
variable{ρ:Rho}
theorem I_names(L:List Nm)(n:Nat)(hn:ρ[n]? =some (.row 9 L.length (nmQ L)))(I:L.length<=1000):Inst.Ok AD ρ ⟨62,[.one (.ref n),.one (.ref n)],.v (.one (.b true))⟩:=
 ⟨af Tryz.func62 rfl rfl,λB w vs K F=>by
  match vs,F with
  | [v0,v1],F=>
   obtain⟨s,G,k2,_⟩:=F.1;obtain⟨P,k3,J,_⟩:=F.2.1;rw[hn]at G k3;injection G with G;injection k3 with k3;subst G;subst k3;refine(zc (acK k2) (acK J) I I).mono ?_;rintro e w' ⟨rfl,hb⟩;exact⟨_,rfl,by simp[AV.holds,SV.holds,Leaf.holds],hb⟩⟩
theorem ql_s(c:Nm):∀B w x,(Leaf.s c).holds ρ B w x->(Vp.val (.string c)).p w x/\∀g,¬(Vp.val (.string c)).fp w x g:=λ_ _ _ h=>⟨⟨h,by have h:_=_:=h;subst h;exact go⟩,λ_ h=>h⟩
theorem o_bs3(m:Nat)(a b c:Nm)(F:ρ[m]? =some (.row 9 3 (nmQ [a,b,c]))):(OIns.mk (.bs 68 3 [0,1,2]) [.one (.s a),.one (.s b),.one (.s c)] (.one (.ref m))).Ok AD ρ:=
 aaa 3 m 1 [0,1,2] [.s a,.s b,.s c] [.s ⟨#[]⟩] (nmQ [a,b,c]) [.one (.s a),.one (.s b),.one (.s c)] Tryz.underlying68 Aa Aa it it it rfl rfl ⟨ql_s a,ql_s b,ql_s c,trivial⟩ F
section
open Go.RowKit Go.Shelf
open Classical
attribute [local go_sem] Oper.semAt_some
section
variable {n:Nat} {P:Program} {ops:Array Oper} {rest:List Oper} {op:Oper} {a:Act} {w w':World} {v:Value} {Q:Exit->Act->World->Prop}
theorem bN(F:op.guard=none)(hr:(execOp a.eval op).run P w= .ok (.value v) w')(h:wpListIn Ce n P ops Q rest (a.put op.dst v) w'):wpListIn Ce n P ops Q (op::rest) a w:=
 wpListIn_plain F λK G=>by
  unfold Oper.wpIn;refine⟨λ_ _=>trivial,?_⟩;show op.uponIn _ _ _ _ _ _ ((execOp a.eval op).run P w);rw[hr];exact G _ _ h
theorem wpIn_load(F:op.guard=none)(ty:TypeId)(x:AS)(I:op.op= .load ty x)(b o:Nat)(K:a.eval x= .pointer (some ⟨b,o,none⟩))(cs:List Value)(d:TypeDesc)(hc:w.rangeAt b o cs)
  (J:P.underlying ty=some d)(G:d.isRow=true)(hi:(P.info? ty).map (·.size)=some cs.length)(h:wpListIn Ce n P ops Q rest (a.put op.dst (.agg cs.toArray)) w):wpListIn Ce n P ops Q (op::rest) a w:=
 bN F (by
  unfold execOp;simp only[I,K,Instr.loadAt,DZ,AK,Bu,CM,run_loadVar_mid w b o ty cs d hc J G hi]) h
theorem abx(F:op.guard=none)(ty:TypeId)(x y:AS)(I:op.op= .store ty x y)(b o:Nat)(cells:Array Value)(J:a.eval x= .pointer (some ⟨b,o,none⟩))(hy:a.eval y= .agg cells)
  (ht:w.there b o cells.size)(hi:(P.info? ty).map (·.size)=some cells.size)(h1:cells.all (·.oneCell')=true)(h:wpListIn Ce n P ops Q rest (a.put op.dst undef) (w.setCells b o cells.toList)):wpListIn Ce n P ops Q (op::rest) a w:=
 wpListIn_plain F λK G=>by
  unfold Oper.wpIn;refine⟨λ_ _=>trivial,?_⟩;show op.uponIn _ _ _ _ _ _ ((execOp a.eval op).run P w);unfold execOp;simp only[I,J,hy,Instr.storeAt,DZ,AK,Bu,CM,run_storeVar_mid w b o ty cells ht hi h1];exact G _ _ h
theorem sV{v':Value}{s x:AS}{t:TypeId}(F:op.guard=none)(G:op.op= .call {callee:=.builtin .append,args:=#[s,x],argTypes:=#[t,t]}){y:Value}(hs:a.eval s=v)(I:a.eval x=y)
  (hr:(BT #[t,t] op.type #[v,y]).run P w= .ok v' w')(h:wpListIn Ce n P ops Q rest (a.put op.dst v') w'):wpListIn Ce n P ops Q (op::rest) a w:=
 bN F (by
  unfold execOp;simp only[G,resolve,invoke,builtin,AK,Bu,CM,CJ,Bq,BS,hs,I,hr]) h
end
structure LatB(w W:World)(t:Nat)(tq fr:Nm):Prop where
 b3:Boxed W w.heap.size 24 (ptB t)
 b4:Boxed W (w.heap.size+1) 9 (.string tq)
 b5:Boxed W (w.heap.size+1+1) 9 (.string fr)
 b6:Boxed W (w.heap.size+1+1+1) 3 (.int .i64 0)
 b7:Boxed W (w.heap.size+1+1+1+1) 40 (.int .i64 0)
 bel:mBw w W
abbrev latW(w:World)(t:Nat)(tq fr:Nm):World:=((((w.alloc (.cells #[ptB t] 24)).alloc (.cells #[.string tq] 9)).alloc (.cells #[.string fr] 9)).alloc (.cells #[.int .i64 0] 3)).alloc (.cells #[.int .i64 0] 40)
theorem LatB.new(w:World)(t:Nat)(tq fr:Nm):LatB w (latW w t tq fr) t tq fr where
 b3:=((((Boxed.new w _ _).alloc _).alloc _).alloc _).alloc _
 b4:=by have:=(((Boxed.new (w.alloc (.cells #[ptB t] 24)) 9 (.string tq)).alloc (.cells #[.string fr] 9)).alloc (.cells #[.int .i64 0] 3)).alloc (.cells #[.int .i64 0] 40);rw[asz]at this;exact this
 b5:=by have:=((Boxed.new ((w.alloc (.cells #[ptB t] 24)).alloc (.cells #[.string tq] 9)) 9 (.string fr)).alloc (.cells #[.int .i64 0] 3)).alloc (.cells #[.int .i64 0] 40);rw[asz,asz]at this;exact this
 b6:=by have:=(Boxed.new (((w.alloc (.cells #[ptB t] 24)).alloc (.cells #[.string tq] 9)).alloc (.cells #[.string fr] 9)) 3 (.int .i64 0)).alloc (.cells #[.int .i64 0] 40);rw[asz,asz,asz]at this;exact this
 b7:=by have:=Boxed.new ((((w.alloc (.cells #[ptB t] 24)).alloc (.cells #[.string tq] 9)).alloc (.cells #[.string fr] 9)).alloc (.cells #[.int .i64 0] 3)) 40 (.int .i64 0);rw[asz,asz,asz,asz]at this;exact this
 bel:=((((((AH _ w).alloc (AI _) _).alloc Ad _).alloc (by simp;omega) _).alloc (by simp;omega) _).alloc (by simp;omega) _)
variable{W:World}{t:Nat}{tq fr:Nm}
theorem LatB.kb{W':World}{O:Nat}(h:LatB w W t tq fr)(k:Kb W.heap.size O W W')(F:w.heap.size+5<=O):LatB w W' t tq fr:=
 have g:∀ {B:Nat} {T:TypeId} {v:Value},Boxed W B T v->B<w.heap.size+5->Boxed W' B T v:=λhb hl=>(k.block _ hb.lt no).trans hb
 ⟨g h.b3 no,g h.b4 no,g h.b5 no,g h.b6 no,g h.b7 no,⟨k.os.trans h.bel.os,k.tape.trans h.bel.tape,k.output.trans h.bel.output,AG h.bel.size k.size,λi hi=>(k.block i (by have:=h.bel.size;omega) no).trans (h.bel.block i hi)⟩⟩
theorem LatB.below{W':World}(h:LatB w W t tq fr)(k:AW W.heap.size W W'):LatB w W' t tq fr:=h.kb (O:=w.heap.size+5) (Kb.below k) (AI _)
theorem LatB.lt(h:LatB w W t tq fr):w.heap.size+5<=W.heap.size:=h.b7.lt
theorem LatB.fin(h:LatB w W t tq fr)(n c:Int):
  Boxed ((W.setCell ⟨w.heap.size+1+1+1,0,none⟩ (.int .i64 n)).setCell ⟨w.heap.size+1+1+1+1,0,none⟩ (.int .i64 c)) (w.heap.size+1+1+1) 3 (.int .i64 n)/\
  Boxed ((W.setCell ⟨w.heap.size+1+1+1,0,none⟩ (.int .i64 n)).setCell ⟨w.heap.size+1+1+1+1,0,none⟩ (.int .i64 c)) (w.heap.size+1+1+1+1) 40 (.int .i64 c)/\
  mBw w ((W.setCell ⟨w.heap.size+1+1+1,0,none⟩ (.int .i64 n)).setCell ⟨w.heap.size+1+1+1+1,0,none⟩ (.int .i64 c)):=
 ⟨(h.b6.set _).other no _,(h.b7.other no _).set _,(h.bel.setCell (p:=⟨w.heap.size+1+1+1,0,none⟩) (by show w.heap.size<=w.heap.size+1+1+1;omega) _).setCell (p:=⟨w.heap.size+1+1+1+1,0,none⟩) (by show w.heap.size<=w.heap.size+1+1+1+1;omega) _⟩
theorem int_new(w:World)(x:Int):jn (w.alloc (.cells #[.int .i64 x] 3)) w.heap.size (.slice (some ⟨w.heap.size,0,none⟩) 1 1) [x]:=
 ⟨rfl,.inr ⟨w.heap.size,1,_,rfl,AI _,Bs w _,AI _,by unfold maxLen;omega,rfl,rfl⟩⟩
variable{n i:Nat}
theorem lnk_at{ad:Option Addr}{cap:Nat}{l:List (Nm×Lk)}(h:iv w (.slice ad n cap) l)(hn:n=l.length){q:Nm×Lk}(J:l[i]? =some q):∃g,ad=some ⟨g,0,none⟩/\g<w.heap.size/\w.rangeAt g (i*4) (eB q):=by
 subst hn;have hc:∀j u,(eB q)[j]? =some u->∃g,ad=some ⟨g,0,none⟩/\w.cell? ⟨g,i*4+j,none⟩=some u:=λj u G=>di h.1 (by rw[flat4 J (by have:=(List.getElem?_eq_some_iff.1 G).1;exact this)];exact G)
 obtain⟨g,I,_⟩:=hc 0 _ rfl;refine⟨g,I,(cf h.1 (g:=g) (by rw[I];rfl)).2,λj u G=> ?_⟩;obtain⟨K,F,h2⟩:=hc j u G;rw[I]at F;injection F with F;injection F with F;subst F;exact h2
def okZ(R:Tr)(tq fr:Nm)(z:Int):Prop:=0<=z/\(aP R z tq fr).2=0
theorem rr_get{j:Nat}(h:j<n):(Bm n).reverse[n - 1 - j]? =some j:=by
 rw[List.getElem?_reverse (by simp;omega),List.length_range,List.getElem?_range no]
 congr 1;omega
variable{pre:List Nat}
theorem rr_pre(h:pre++ [i] <+:(Bm n).reverse):i<n/\∀j,i<j->j<n->j∈pre:=by
 obtain⟨I,h⟩:=h;have hl:=congrArg DU h;simp only[Bj,List.length_reverse,List.length_range,Bh,Dc]at hl;have h1:(pre++ [i]++I)[pre.length]? =some i:=Ad
 rw[h]at h1;have h2:=rr_get (n:=n) (j:=n - 1 - pre.length) no;rw[show n - 1 - (n - 1 - pre.length)=pre.length by omega,h1]at h2;injection h2 with h2;refine⟨no,λj h3 G=> ?_⟩;have F:=rr_get G;rw[<-h,List.append_assoc,BB no]at F;exact A5 F
section
variable {R:Tr} {tq fr:Nm} {xs:List Int}
theorem lat_ix{zs:List Int}{x:Int}(h:x∈zs):∃j,j<zs.length/\zs.getD j 0=x:=by
 obtain⟨j,F,e⟩:=BL h;exact⟨j,F,by rw[D2,AM F];exact e⟩
theorem lat_stop(hk:aF R fr/\aF R tq)(hm:∀x,x∈xs↔p6 R x)(hp:pre++ [i] <+:(Bm (Lib.compact (srt xs)).length).reverse)(hno:∀u∈pre,¬okZ R tq fr ((Lib.compact (srt xs)).getD u 0))(hok:okZ R tq fr ((Lib.compact (srt xs)).getD i 0)):zi R tq fr ((Lib.compact (srt xs)).getD i 0) 0:=by
 obtain⟨h1,h2⟩:=rr_pre hp;have hx:=cs_asc xs;have hmem:=λx=>(cs_mem xs x).trans (hm x)
 generalize Lib.compact (srt xs)=zs at *;refine .inr ⟨hk,.inl ⟨rfl,hok.1,(hmem _).1 ?_,hok.2,λx hx1 h0 hc=> ?_⟩⟩
 ·rw[D2,AM h1];exact List.getElem_mem h1
 ·obtain⟨j,hj,rfl⟩:=lat_ix ((hmem x).2 hx1);rcases Nat.lt_trichotomy i j with h | h | h
  ·exact absurd ⟨h0,hc⟩ (hno j (h2 j h hj))
  ·subst h;exact Int.le_refl _
  ·have:=List.pairwise_iff_getElem.1 hx j i hj h1 h;rw[D2,AM hj,D2,AM h1];exact this
theorem lat_done(hk:aF R fr/\aF R tq)(hm:∀x,x∈xs↔p6 R x)(hno:∀u∈(Bm (Lib.compact (srt xs)).length).reverse,¬okZ R tq fr ((Lib.compact (srt xs)).getD u 0)):zi R tq fr 0 17:=by
 have hmem:=λx=>(cs_mem xs x).trans (hm x)
 generalize Lib.compact (srt xs)=zs at *;refine .inr ⟨hk,.inr ⟨rfl,rfl,λx hx1 h0 hc=> ?_⟩⟩;obtain⟨j,hj,rfl⟩:=lat_ix ((hmem x).2 hx1);exact hno j (by simp;exact hj) ⟨h0,hc⟩
end
end
section
open Go.RowKit Go.Shelf
open Classical
attribute [local go_sem] Oper.semAt_some
set_option maxRecDepth 100000 in
set_option maxHeartbeats 4000000 in
theorem zo{t m:Nat}{E:List Ch}{tq fr:Nm}(hT:TM w t m E)(hE:Sane (trE E)):
  AF AD 50 #[ptB t,.string tq,.string fr] w λe w'=>∃n c,e= .returned (.tuple #[.int .i64 n,.int .i64 c])/\zi (trE E) tq fr n c/\AW w.heap.size w w':=by
 refine(callsIn_wide (n:=3)).1 ?_;have h3:(1:Nat)<=3:=it
 have ax:=LatB.new w t tq fr;obtain⟨W1,c6⟩:∃W1,latW w t tq fr=W1:=⟨_,rfl⟩;rw[c6]at ax;have HT:=AE (show∀wq,AW w.heap.size w wq->TM wq t m E from λwq k=>hT.below k);have an:=mI (HT.out W1 ax.bel) hE tq;have au:=AE (show∀wq,AW w.heap.size w wq->AF AD 108 #[ptB t,.string fr] wq λe w'=>e= .returned (.bool (decide (aF (trE E) fr)))/\AW wq.heap.size wq w' from λwq k=>mI (HT.out wq k) hE fr);have HE:=AE hE;have cu:=AE hT;have bt:=AE ax;have c3:=ax.b3.cell;have c4:=ax.b4.cell;clear hT hE ax;refine callsIn_of_wp_marks Tryz.func50 rfl trivial ?_ rfl;simp only[Tryz.ntmps50,BW,Bh,Dc,Nat.reduceAdd,Nat.reduceSub,Array.replicate_succ,Array.replicate_zero,List.push_toArray,List.append_toArray,Db,DA]
 gi_upto_region 1 with(fail)
 try rw[show((((w.alloc (.cells #[ptB t] 24)).alloc (.cells #[.string tq] 9)).alloc (.cells #[.string fr] 9)).alloc (.cells #[.int .i64 0] 3)).alloc (.cells #[.int .i64 0] 40)=W1 from c6]
 clear c6;have a4:=AE (show¬(aF (trE E) fr/\aF (trE E) tq)->zi (trE E) tq fr 0 6 from λh=>.inl ⟨h,rfl,rfl⟩);by_cases ky:aF (trE E) tq
 ·rw[decide_eq_true ky]at an;by_cases kx:aF (trE E) fr
  ·rw[decide_eq_true kx]at au;have ed:=AE (BA kx ky);clear kx ky a4
   gi_upto_region 3 with(first
    | (refine⟨trivial,?_⟩;gi_at_call 108;refine(callsIn_wide.2 an).mono ?_;clear an;rintro e w2 ⟨rfl,hb⟩;have Y:=bt.out.below hb;have d3:=Y.b3.cell;have d5:=Y.b5.cell;have bz:=AE Y;have bi:=au.out w2 Y.bel;clear hb Y)
    | (refine⟨trivial,?_⟩;gi_at_call 108;refine(callsIn_wide.2 bi).mono ?_;clear bi;rintro e w3 ⟨rfl,hb⟩;have ao:=AE (bz.out.below hb);clear hb))
   clear c3 c4 d3 d5 bt bz au
   gi_upto_region 4 with(fail)
   obtain⟨W4,av⟩:∃W4,w3.alloc (.cells #[.int .i64 1099511627776] 3)=W4:=⟨_,rfl⟩;try rw[av]
   have ap:=int_new w3 1099511627776;have da:=ao.out.lt;have bO:=ao.out.below (W':=W4) (by rw[<-av];exact(AH _ _).alloc (AI _) _);have gk:W4.heap.size=w3.heap.size+1:=by rw[<-av];exact asz _ _
   have dc:w3.heap.size∉fpT t m E:=λhm=>by have:=cu.out.lt _ hm;omega
   have c7:bv W4 w3.heap.size:=.mk' (show W4.heap[w3.heap.size]? =some (.cells #[.int .i64 1099511627776] 3 (0,0))by rw[<-av];exact Bs _ _) (λk n hk=>by cases k<;>simp at hk);rw[av]at ap;have eQ:=(q_Links (HT.out W4 bO.bel) HE.out).mono (show∀e w',_->∃ad nl cap,∃LR:List (Nm×Lk),e= .returned (.slice ad nl cap)/\Hid (iv w' (.slice ad nl cap) LR/\nl=LR.length/\(∀q,q∈LR↔q∈trE E)/\nl<=2000/\(∀g,ad=some ⟨g,0,none⟩->W4.heap.size<=g)/\AW W4.heap.size W4 w')from by
    rintro e w' ⟨v,L,rfl,h1,h2,_,_,h5,h6⟩;obtain⟨ad,cap,rfl⟩:=cV h1.1;have h7:=oA HE.out.sm (L:=L);have h8:=E_len cu.out HE.out.sm;have h9:=h2.length_eq;rw[List.length_map]at h9;exact⟨ad,_,cap,_,rfl,AE ⟨h1,rfl,lkRow_mem (λq hq=>by
     obtain⟨ch,f5,ln,gF,e⟩:=cG.1 hq;subst e;exact(h2.mem_iff).2 (Be.2 ⟨ch,f5,rfl⟩)),no,λg hg=>h5 g (by rw[hg];rfl),h6⟩⟩)
   have c3:=bO.b3.cell;have d2:=AE bO;obtain⟨g8,f8⟩:∃g,w3.heap.size=g:=⟨_,rfl⟩;rw[f8]at ap gk dc c7 da;have a2:=AE ap;have cx:=AE (BA dc c7);clear av ap bO dc c7 ao
   gi_upto_region 5 with(refine⟨trivial,?_⟩;gi_at_call 35;refine(callsIn_wide.2 eQ).mono ?_;clear eQ;rintro e W5 ⟨eq,nl,f4,LR,rfl,HL⟩)
   have aa:=HL.out.2.2.2.2.2;have c8:=d2.out.below aa;have cl:=AE c8;have ef:=AE (show∀(i:Nat)(q:Nm×Lk),LR[i]? =some q->∃g,eq=some ⟨g,0,none⟩/\W4.heap.size<=g/\g<W5.heap.size/\W5.rangeAt g (i*4) (eB q)from λi q hq=>by
    obtain⟨g,h1,h2,h3⟩:=lnk_at HL.out.1 HL.out.2.1 hq;exact⟨g,h1,HL.out.2.2.2.2.1 g h1,h2,h3⟩)
   have eb:=AE (show EndS W5 W5 g8 (.slice (some ⟨g8,0,none⟩) 1 1) (dK (trE E) (LR.take 0))from⟨en a2.out (λg hg=>aa.block g (cf a2.out hg).2),Kb.refl _ _ _,λk hk=>.inr (by injection hk with hk;exact hk.symm)⟩);have cv:=AE (show∀wq,Kb W5.heap.size g8 W5 wq->TM wq t m E from λwq k=>k.tm (HT.out W5 c8.bel) cx.out.1 (cx.out.2.blk (aa.block g8 no) aa.size));have gc:=HL.out.2.2.2.1;have eS:(nl:Int)<=2000:=no
   have gy:g8<W5.heap.size:=by have:=aa.size;omega
   have a3:=AE (BA HL.out.2.1 HL.out.2.2.1);clear aa c8 HL d2 a2 cx HT c3
   gi_loopw [8,34] (λs8 d1 wr=>∃k:Nat,k<=nl/\d1= .int .i64 (k:Int)/\Hid (EndS W5 wr g8 s8 (dK (trE E) (LR.take k)))) (λ_ d1 _=>nl - (intOf d1).toNat)
   case atStart=>exact⟨0,A3 _,rfl,eb⟩
   case round=>
    clear eb;obtain⟨k,hk,rfl,HS⟩:=hrel;rcases Nat.lt_or_ge k nl with db | f9
    ·obtain⟨q,hq⟩:∃q,LR[k]? =some q:=⟨_,AM (by rw[<-a3.out.1];exact db)⟩;obtain⟨g,rfl,ga,ew,cb⟩:=ef.out k q hq;have e4:wr.rangeAt g (k*4) (eB q):=λj u hu=>by rw[HS.out.kb.cell ew no];exact cb j u hu
     have dr:=(a3.out.2 q).1 (A5 hq);have dT:=HE.out.ok.tm q dr;have b2:(dK (trE E) (LR.take k)).length<=7000:=by
      have:=oD (trE E) (LR.take k);rw[A9]at this;omega
     have cq:=AE (show dK (trE E) (LR.take (k+1))=dK (trE E) (LR.take k)++zh (trE E) q by rw[List.take_add_one,hq];exact abv _ _ _);have ej:=AE e4;have gu:=AE dr;have gs:(k:Int)<(nl:Int):=no
     obtain⟨xs,ff⟩:∃xs,dK (trE E) (LR.take k)=xs:=⟨_,rfl⟩;rw[ff]at HS cq b2;clear hq e4 cb dr ga ew ff
     gi_upto_region 6 with(fail)
     refine wpIn_region_list ?_;refine bN rfl (v:=.pointer (some ⟨g,k*4,none⟩)) (w':=wr) Ah ?_;refine wpIn_load rfl _ _ rfl g (k*4) rfl (eB q) _ ej.out Tryz.underlying76 rfl Aa ?_;refine bN rfl (v:=.pointer (some ⟨wr.heap.size,0,none⟩)) (w':=wr.alloc (.cells #[.string ⟨#[]⟩,.string ⟨#[]⟩,.int .i64 0,.int .i64 0] 76)) (by go_simp;try rfl) ?_;refine abx rfl _ _ _ rfl wr.heap.size 0 (eB q).toArray rfl rfl (lk_there wr q) Aa (all_oneCell_toArray (λu hu=>(sJ u hu).1)) ?_;have bp:=RdS.start q HS.out
     change wpListIn _ _ _ _ _ _ _ (lkW wr q)
     generalize lkW wr q=W6 at *;obtain⟨Bl,er⟩:∃B,wr.heap.size=B:=⟨_,rfl⟩;rw[er]at bp⊢;obtain⟨f0,f2,f3⟩:=bp.c0;have a0:g8<=W6.heap.size:=by have:=bp.es.kb.size;omega
     have HR:=AE bp;clear HS ej er bp;have fc:Bf.wrap (q.2.un - 1)=q.2.un - 1:=by rw[Cf];unfold dX at dT;omega
     have gm:Bf.wrap (q.2.fr - 1)=q.2.fr - 1:=by rw[Cf];unfold dX at dT;omega
     clear dT;have cm:=AE (show zh (trE E) q=(if 0<=q.2.un then [q.2.un - 1]else [])++ [q.2.fr - 1]++(if (gX (trE E) q.1 q.2.fr).2.2=true then [(gX (trE E) q.1 q.2.fr).2.1]else [])from rfl);have ep:=AE (show∀wq,Kb W5.heap.size g8 W5 wq->AF AD 43 #[ptB t,.string q.1,.int .i64 q.2.fr] wq λe w'=>e= .returned (acH (gX (trE E) q.1 q.2.fr))/\AW wq.heap.size wq w' from λwq k=>q_Span (cv.out wq k) HE.out.ok q.1 q.2.fr);obtain⟨un,d0⟩:∃u,q.2.un=u:=⟨_,rfl⟩;obtain⟨fq,be⟩:∃u,q.2.fr=u:=⟨_,rfl⟩;obtain⟨cn,b1⟩:∃u,q.1=u:=⟨_,rfl⟩;obtain⟨sp,ds⟩:∃s,gX (trE E) q.1 q.2.fr=s:=⟨_,rfl⟩;rw[ds,d0,be]at cm;rw[ds,b1,be]at ep;rw[d0]at f3 fc;rw[be]at f2 gm;rw[b1]at f0;have HC:=AE (show∀wq v ys,RdS W5 wq g8 Bl v ys q->wq.cell? ⟨Bl,0,none⟩=some (.string cn)/\wq.cell? ⟨Bl,2,none⟩=some (.int .i64 fq)/\wq.cell? ⟨w.heap.size,0,none⟩=some (ptB t)/\g8<=wq.heap.size from λwq v ys hr=>by
      have:=hr.c0;rw[b1,be]at this;exact⟨this.1,this.2.1,(cl.out.kb hr.es.kb da).b3.cell,by have:=hr.es.kb.size;omega⟩)
     clear d0 be b1 ds;obtain⟨s1,s2,s3⟩:=sp
     gi_upto_if 40 with(fail)
     gi_cut [8,40]from 86 (λs8 _ wc=>∃ys,Hid (ys=xs++(if 0<=un then [un - 1]else []))/\Hid (RdS W5 wc g8 Bl s8 ys q))
     case first=>
      by_cases hu:0<=un
      ·have HU:=AE hu
       gi_upto_region 8 with(fail)
       obtain⟨v8,W8,U,b9⟩:=HR.out.app (ty:=171) (un - 1) a0 no;have fx:=AE b9;have I:=AE U;clear U b9;refine wpIn_region_list ?_;refine bN rfl (v:=u8) (w':=W6) Af ?_;refine bN rfl (v:=.pointer (some ⟨Bl,3,none⟩)) (w':=W6) Ah ?_;refine bN rfl (v:=.int .i64 un) (w':=W6) Ah ?_;refine bN rfl (v:=.int .i64 (un - 1)) (w':=W6) Ah ?_;refine bN rfl (v:=.slice (some ⟨W6.heap.size,0,none⟩) 1 1) (w':=W6.alloc (.cells #[.int .i64 (un - 1)] 3)) Ah ?_;refine sV rfl rfl rfl rfl I.out ?_;clear I HR
       gi_wp2
       gi_meet
       case rel=>exact⟨_,AE (by have:=HU.out;rw[if_pos no]),fx⟩
      ·have HU:=AE hu
       gi_wp2
       gi_meet
       case rel=>exact⟨_,AE (by have:=HU.out;rw[if_neg no,CO]),HR⟩
     case rest=>
      obtain⟨ys,HY,cr⟩:=hcut;clear f0 f2 f3 fc HR a0;obtain⟨f0,f2,c3,a0⟩:=HC.out _ _ _ cr.out;have g5:ys.length<=7001:=by
       rw[HY.out,Bj];split<;>simp<;>omega
      gi_upto_region 9 with(fail)
      obtain⟨v9,W9,U,ca⟩:=cr.out.app (ty:=171) (fq - 1) a0 no;have a5:=AE ca;have I:=AE U;clear U ca;refine wpIn_region_list ?_;refine bN rfl (v:=u8) (w':=wc) Af ?_;refine bN rfl (v:=.pointer (some ⟨Bl,2,none⟩)) (w':=wc) Ah ?_;refine bN rfl (v:=.int .i64 fq) (w':=wc) Ah ?_;refine bN rfl (v:=.int .i64 (fq - 1)) (w':=wc) Ah ?_;refine bN rfl (v:=.slice (some ⟨wc.heap.size,0,none⟩) 1 1) (w':=wc.alloc (.cells #[.int .i64 (fq - 1)] 3)) Ah ?_;refine sV rfl rfl rfl rfl I.out ?_;clear I cr f0 f2 c3 a0;obtain⟨f0,f2,c3,a0⟩:=HC.out _ _ _ a5.out;have aq:=ep.out W9 a5.out.es.kb;have g4:Bf.wrap ((k:Int)+1)=(k:Int)+1:=by rw[Cf];omega
      cases s3 with
      | false=>
       have HX:=AE (show dK (trE E) (LR.take (k+1))=ys++ [fq - 1]by rw[cq.out,cm.out,HY.out];simp)
       gi_wp2_with (refine⟨trivial,?_⟩;gi_at_call 43;refine(callsIn_wide.2 aq).mono ?_;clear aq;rintro e a6 ⟨rfl,hb⟩;have ak:=AE (a5.out.below hb);clear hb)
       go_roundw
       case rel=>exact⟨k+1,no,by go_num,AE (by rw[HX.out];exact ak.out.es)⟩
       case measure=>simp[intOf];omega
      | true=>
       have HX:=AE (show dK (trE E) (LR.take (k+1))=ys++ [fq - 1]++ [s2]by rw[cq.out,cm.out,HY.out];simp)
       gi_upto_region 12 with(refine⟨trivial,?_⟩;gi_at_call 43;refine(callsIn_wide.2 aq).mono ?_;clear aq;rintro e a6 ⟨rfl,hb⟩;have ak:=AE (a5.out.below hb);clear hb)
       obtain⟨hd,gv,U,bq⟩:=ak.out.app (ty:=171) s2 (HC.out _ _ _ ak.out).2.2.2 (by rw[Bj];simp;omega);have eg:=AE bq;have I:=AE U;clear U bq;refine wpIn_region_list ?_;refine bN rfl (v:=v9) (w':=a6) Af ?_;refine bN rfl (v:=.int .i64 s2) (w':=a6) Af ?_;refine bN rfl (v:=.slice (some ⟨a6.heap.size,0,none⟩) 1 1) (w':=a6.alloc (.cells #[.int .i64 s2] 3)) Ah ?_;refine sV rfl rfl rfl rfl I.out ?_;clear I a5 ak
       gi_wp2
       go_roundw
       case rel=>exact⟨k+1,no,by go_num,AE (by rw[HX.out];exact eg.out.es)⟩
       case measure=>simp[intOf];omega
    ·obtain rfl:k=nl:=no
     have HM:=AE (show∀x,x∈dK (trE E) (LR.take k)↔p6 (trE E) x from λx=>by rw[a3.out.1,List.take_length];exact endsL_mem a3.out.2 x);have b2:(dK (trE E) (LR.take k)).length<=7000:=by
      have:=oD (trE E) (LR.take k);rw[A9]at this;omega
     have fd:(dK (trE E) (LR.take k))≠ []:=by unfold dK;simp
     generalize dK (trE E) (LR.take k)=xs at *;have dq:u8≠ .slice none 0 0:=λe=>by
      have:=HS.out.row.1;rcases HS.out.row.2 with⟨_,h⟩ | ⟨g,cap,cur,h,_⟩
      ·exact fd (List.eq_nil_of_length_eq_zero h)
      ·rw[e]at h;cases h
     have e9:=q_SortI HS.out.row dq no;have gb:(srt xs).length=xs.length:=List.length_mergeSort xs;have bb:∀a1,jn a1 g8 u8 (srt xs)->EndS W5 a1 g8 u8 (srt xs)->AF AD 111 #[u8] a1 λe w'=>∃g cap,e= .returned (.slice (some ⟨g,0,none⟩) (Lib.compact (srt xs)).length cap)/\Hid (EndS W5 w' g8 (.slice (some ⟨g,0,none⟩) (Lib.compact (srt xs)).length cap) (Lib.compact (srt xs))):=λa1 h1 h2=>(abt h1 dq no).mono (by
      rintro e w' ⟨v',rfl,k1,k2,k3,k4⟩;obtain⟨ad,cap,rfl⟩:=cV k1;rcases id k1.2 with⟨e,_⟩ | ⟨g,gq,cur,e,_⟩
      ·exact absurd e k3
      ·injection e with e1 _ _;subst e1;exact⟨g,cap,rfl,AE (h2.grown k4 k1 (.inl k2))⟩)
     have et:=λW g c=>abu W (some ⟨g,0,none⟩) (Lib.compact (srt xs)).length c
     have ea:=AE bb;clear hk f9 ef a3 eS gc fd dq bb
     gi_wp2_with (first
      | (refine⟨trivial,?_⟩;gi_at_call 109;refine(callsIn_wide.2 e9).mono ?_;clear e9;rintro e a1 ⟨rfl,hi,hg⟩;have c9:=HS.out.grown hg hi (.inl rfl);have ek:=AE c9;have bb:=ea.out a1 hi c9;clear hi hg c9 HS)
      | (refine⟨trivial,?_⟩;gi_at_call 111;refine(callsIn_wide.2 bb).mono ?_;clear bb;rintro e ac ⟨g,cap,rfl,b8⟩;clear ek)
      | (refine⟨trivial,?_⟩;gi_at_call 110;refine(callsIn_wide.2 (et _ _ _)).mono ?_;clear et;rintro e w' ⟨rfl,rfl⟩))
     have fU:=AE (show∀(pre:List Nat)(i:Nat),pre++ [i] <+:(Bm (Lib.compact (srt xs)).length).reverse->(∀u∈pre,¬okZ (trE E) tq fr ((Lib.compact (srt xs)).getD u 0))->okZ (trE E) tq fr ((Lib.compact (srt xs)).getD i 0)->zi (trE E) tq fr ((Lib.compact (srt xs)).getD i 0) 0 from λpre i=>lat_stop ed.out HM.out);have fz:=AE (show(∀u∈(Bm (Lib.compact (srt xs)).length).reverse,¬okZ (trE E) tq fr ((Lib.compact (srt xs)).getD u 0))->zi (trE E) tq fr 0 17 from lat_done ed.out HM.out);have g9:(Lib.compact (srt xs)).length<=7000:=AG (cs_len xs) b2;generalize gp:Lib.compact (srt xs)=zs at *;have am:=b8.out;have a7:=cl.out.kb am.kb da;have hg:=cf am.row (g:=g) rfl;obtain⟨WB,a9⟩:∃WB,ac.alloc (.cells #[.slice (some ⟨g,0,none⟩) zs.length cap] 171)=WB:=⟨_,rfl⟩;try rw[a9]
     have b0:AW ac.heap.size ac WB:=by rw[<-a9];exact(AH _ _).alloc (AI _) _
     have g0:WB.heap.size=ac.heap.size+1:=by rw[<-a9];exact asz _ _
     have e2:WB.heap[ac.heap.size]? =some (.cells #[.slice (some ⟨g,0,none⟩) zs.length cap] 171 (0,0)):=by rw[<-a9];exact Bs _ _
     have eP:=a7.lt;have e5:=bw_stops 2 it (w:=WB) (O:=w.heap.size+1+1+1) (B1:=ac.heap.size) (g:=g) (cap:=cap) (zs:=zs) ⟨no,no⟩ ⟨no,no⟩ no (by rw[aH e2];rfl) (λj z hz=>by
      obtain⟨g',e,hc⟩:=di am.row (show(zs.map (AN .i64))[j]? =some (.int .i64 z)by rw[Bp,hz];rfl);injection e with e;injection e with e;subst e;rw[b0.cell (p:=⟨g,j,none⟩) hg.2];exact hc)
     have cz:=a7.below b0;have d4:=AE cz;have fy:=AE ((cv.out ac am.kb).below b0);clear am a7 hg b0 e2 eP a9 gp b8 ea cv cu cl HM gb b2;have gz:=cz.lt;clear cz;refine wpIn_rangeFunc_ownG (F:=Ce) (n:=3) rfl h3 (gf:=175) (lb:=#[.pointer (some ⟨ac.heap.size,0,none⟩)]) rfl trivial (af Tryz.func175 Aa rfl)
      e5 (λ{_ _ _} h k=>h.trans k) (kb_b (AI _)) (AH _ _) (λ_=>rfl)
      (λpre W=>(∀u∈pre,¬okZ (trE E) tq fr (zs.getD u 0))/\AW WB.heap.size WB W)
      (λc pre W=>(c= .ret/\∃ab i,pre=ab++ [i]/\(∀u∈ab,¬okZ (trE E) tq fr (zs.getD u 0))/\okZ (trE E) tq fr (zs.getD i 0)/\Boxed W (w.heap.size+1+1+1) 3 (.int .i64 (zs.getD i 0))/\Boxed W (w.heap.size+1+1+1+1) 40 (.int .i64 0))/\AW w.heap.size w W/\WB.heap.size<=W.heap.size)
      (OwnFrom.and (ownFrom_pure _ _) (ownFrom_below (AI _) (AI _)))
      (λc s W W' row hs hg hr=>⟨⟨hs.1.1,by
       obtain⟨ab,z,k1,k2,k3,k4,k5⟩:=hs.1.2;exact⟨ab,z,k1,k2,k3,k4.kept hg (λe=>by have:=(hr _ e.symm).1;omega),k5.kept hg (λe=>by have:=(hr _ e.symm).1;omega)⟩⟩,hs.2.1.grown hg (by have:=hs.2.2;omega) (λk e=>by have:=(hr _ e).1;omega),AG hs.2.2 hg.size⟩)
      ⟨λ_ h=>(by cases h),AH _ _⟩
      (λi=> {tmps:=#[ptB t,.string tq,.string fr,.pointer (some ⟨w.heap.size,0,none⟩),.pointer (some ⟨w.heap.size+1,0,none⟩),.pointer (some ⟨w.heap.size+1+1,0,none⟩),.pointer (some ⟨w.heap.size+1+1+1,0,none⟩),.pointer (some ⟨w.heap.size+1+1+1+1,0,none⟩),u8,undef,u10,u11,u12,u13,undef,.int .i64 (zs.getD i 0),ptB t,.bool false,.bool false,ptB t,.string tq,.bool true,.bool false,.bool false,.bool false,ptB t,.string fr,.bool true,.bool false,.bool false,.slice (some ⟨g8,0,none⟩) 1 1,ptB t,.slice eq k f4,.int .i64 (k:Int),.int .i64 (k:Int),.bool false,u36,u37,u38,u39,u40,u41,u42,u43,u44,u45,u46,u47,u48,u49,u50,u51,u52,u53,u54,u55,u56,u57,u58,u59,u60,u61,u62,u63,u64,u65,u66,u67,u68,u8,.tuple #[],u8,.slice (some ⟨g,0,none⟩) zs.length cap,.func (.func 175) #[] #[.pointer (some ⟨ac.heap.size,0,none⟩)],.int .i64 (i:Int),.int .i64 (zs.getD i 0),undef,undef,undef,undef,undef,undef,undef,undef,undef,undef],defers:=[]}) ?assign ?body ?done ?stop
     case assign=>
      intro l i W K hK;generalize g7:zs.getD i 0=z at *
      gi_wp2
      exact hK
     case body=>
      rintro l pre i W ⟨J,hB⟩ db;have V:=d4.out.below hB;have c3:=V.b3.cell;have c4:=V.b4.cell;have c5:=V.b5.cell;obtain⟨z,hz⟩:∃z,zs.getD i 0=z:=⟨_,rfl⟩;have Z:=q_Can (fy.out.below hB) HE.out (dD HE.out z tq fr);have HB:=AE hB;have HP:=AE J;have HI:=AE hz;have fu:=AE V;clear V hB J db;rw[hz];have ez:∀w',AW W.heap.size W w'->KeepsOthers W w':=λw' h=>⟨h.size,λk o hk _=>(h.block k (A2.1 hk).1).trans hk⟩
      have ee:=AE ez;clear ez hz;by_cases hz:0<=z
      ·have HZ:=AE hz;by_cases hc:(aP (trE E) z tq fr).2=0
       ·rw[decide_eq_true hc]at Z;have HC:=AE hc;clear hc
        gi_wp2_with (refine⟨trivial,?_⟩;gi_at_call 19;refine(CallsIn.inRound l (callsIn_wide.2 Z)).mono ?_;clear Z;rintro e W7 ⟨rfl,hb⟩;have ay:=fu.out.below hb;have e6:=ay.b6.cell;have f6:=ay.b6.frozen;have e7:=ay.b7.cell;have f7:=ay.b7.frozen;have fs:=AE ay;have ar:=AE hb;clear hb ay)
        obtain⟨k6,k7,kb⟩:=fs.out.fin z 0;exact⟨((ee.out _ ar.out).trans ((KeepsOthers.setCell _ _ _).trans (KeepsOthers.setCell _ _ _))).from _,⟨⟨rfl,pre,i,rfl,HP.out,by rw[HI.out];exact⟨HZ.out,HC.out⟩,by rw[HI.out];exact k6,k7⟩,kb,by have:=HB.out.size;have:=ar.out.size;simp;omega⟩⟩
       ·rw[decide_eq_false hc]at Z;have HC:=AE hc;clear hc
        gi_wp2_with (refine⟨trivial,?_⟩;gi_at_call 19;refine(CallsIn.inRound l (callsIn_wide.2 Z)).mono ?_;clear Z;rintro e W7 ⟨rfl,hb⟩;have ar:=AE hb;clear hb)
        refine⟨(ee.out _ ar.out).from _,Kb.below (ar.out.mono HB.out.size),⟨λu hu=> ?_,HB.out.trans (ar.out.mono HB.out.size)⟩⟩;rcases AJ.1 hu with h | h
        ·exact HP.out u h
        ·simp only[BP]at h;subst h;rw[HI.out];exact λh=>HC.out h.2
      ·have g6:decide (0<=z)=false:=decide_eq_false hz;have HZ:=AE (show¬okZ (trE E) tq fr z from λh=>hz h.1);clear hz Z
       gi_wp2_with (refine BA (show Fence.fn _ 19 from trivial) ?_)
       refine⟨KeepsFrom.refl _ _,Kb.refl _ _ _,⟨λu hu=> ?_,HB.out⟩⟩;rcases AJ.1 hu with h | h
       ·exact HP.out u h
       ·simp only[BP]at h;subst h;rw[HI.out];exact HZ.out
     case done=>
      rintro D ys W hD rfl ⟨J,hB⟩ hK;have V:=d4.out.below hB;have e6:=V.b6.cell;have f6:=V.b6.frozen;have e7:=V.b7.cell;have f7:=V.b7.frozen;obtain⟨k6,k7,kb⟩:=V.fin 0 17;have em:=AE (((KeepsOthers.setCell W ⟨w.heap.size+1+1+1,0,none⟩ (.int .i64 0)).trans (KeepsOthers.setCell _ ⟨w.heap.size+1+1+1+1,0,none⟩ (.int .i64 17))).same D _ hK rfl);have cp:=AE (fz.out J);have K6:=AE k6;have K7:=AE k7;have KB:=AE kb;have gx:WB.heap.size<=((W.setCell ⟨w.heap.size+1+1+1,0,none⟩ (.int .i64 0)).setCell ⟨w.heap.size+1+1+1+1,0,none⟩ (.int .i64 17)).heap.size:=by simpa using hB.size
      clear V J hB k6 k7 kb
      gi_wp2
      generalize (W.setCell ⟨w.heap.size+1+1+1,0,none⟩ (.int .i64 0)).setCell ⟨w.heap.size+1+1+1+1,0,none⟩ (.int .i64 17)=WZ at *;refine⟨Ad,.inl ⟨_,_,rfl,run_takeDeferred em.out,?_⟩⟩;have hg:=grownBy_putObj' WZ D (.deferred none);have cc:=K6.out.kept hg (λe=>by injection e with e;omega);have cd:=K7.out.kept hg (λe=>by injection e with e;omega);exact⟨_,eX rfl _ _ rfl rfl (cW Do rfl cc.cell) (cW Tryz.underlying40 rfl cd.cell),_,_,rfl,cp.out,KB.out.trans (belowK_b (w:=w) (AI _) WZ D _ _ no em.out rfl rfl)⟩
     case stop=>
      rintro D c pre W hD J ⟨⟨rfl,ab,i,gd,e0,e3,b6,b7⟩,hB,g3⟩ hK;subst gd;have cp:=AE (fU.out ab i J e0 e3);have B6:=AE b6;have B7:=AE b7;have KB:=AE hB;clear J e0 e3 b6 b7 hB
      gi_wp2
      refine⟨Ad,.inl ⟨_,_,rfl,run_takeDeferred hK,?_⟩⟩;have hg:=grownBy_putObj' W D (.deferred none);have cc:=B6.out.kept hg (λe=>by injection e with e;omega);have cd:=B7.out.kept hg (λe=>by injection e with e;omega);exact⟨_,eX rfl _ _ rfl rfl (cW Do rfl cc.cell) (cW Tryz.underlying40 rfl cd.cell),_,_,rfl,cp.out,KB.out.trans (belowK_b (w:=w) (AI _) W D _ _ no hK rfl rfl)⟩
  ·have HN:=AE (a4.out (λh=>kx h.1));rw[decide_eq_false kx]at au;clear kx ky a4
   gi_wp2_with (first
    | (refine⟨trivial,?_⟩;gi_at_call 108;refine(callsIn_wide.2 an).mono ?_;clear an;rintro e w2 ⟨rfl,hb⟩;have Y:=bt.out.below hb;have d3:=Y.b3.cell;have d5:=Y.b5.cell;have bz:=AE Y;have bi:=au.out w2 Y.bel;clear hb Y)
    | (refine⟨trivial,?_⟩;gi_at_call 108;refine(callsIn_wide.2 bi).mono ?_;clear bi;rintro e w3 ⟨rfl,hb⟩;have G:=bz.out.below hb;have e6:=G.b6.cell;have f6:=G.b6.frozen;have e7:=G.b7.cell;have f7:=G.b7.frozen;have ao:=AE G;clear hb G))
   obtain⟨k6,k7,kb⟩:=ao.out.fin 0 6;exact⟨_,eX rfl _ _ rfl rfl (cW Do rfl k6.cell) (cW Tryz.underlying40 rfl k7.cell),_,_,rfl,HN.out,kb⟩
 ·have HN:=AE (a4.out (λh=>ky h.2));rw[decide_eq_false ky]at an;clear ky a4 au
  gi_wp2_with (first
   | (refine⟨trivial,?_⟩;gi_at_call 108;refine(callsIn_wide.2 an).mono ?_;clear an;rintro e w3 ⟨rfl,hb⟩;have G:=bt.out.below hb;have e6:=G.b6.cell;have f6:=G.b6.frozen;have e7:=G.b7.cell;have f7:=G.b7.frozen;have ao:=AE G;clear hb G)
   | (refine BA (show Ce.fn 108 from trivial) ?_))
  obtain⟨k6,k7,kb⟩:=ao.out.fin 0 6;exact⟨_,eX rfl _ _ rfl rfl (cW Do rfl k6.cell) (cW Tryz.underlying40 rfl k7.cell),_,_,rfl,HN.out,kb⟩
end
section
open Classical
theorem iNam{c:Nm}(h:bX c):Nam c:=.inl h
set_option maxRecDepth 100000 in
set_option maxHeartbeats 4000000 in
theorem cX(w:World):AF AD 53 #[] w λe w'=>e= .returned (.bool true)/\AW w.heap.size w w':=by
 have dc:=q_New w;go_enter Tryz.func53,Tryz.ntmps53
 go_upto_region 2 with(go_at_call 31;refine dc.mono ?_;rintro e w1 ⟨t,m,rfl,hT,h1,h2,h3⟩;have HI:=AE (TInv.new hT h1 h2 h3);have cr:=sw (c:=nB) (p:=nA) (f:=0) hT TOk.nil (iNam iB) (iNam iA);clear dc hT h1 h2 h3)
 go_upto_region 6 with(first
  | (go_at_call 67;refine cr.mono ?_;rintro e w2 ⟨E2,R2,a1,rfl,hP,hR,hA⟩;have bt:=AE (HI.out.att hP hR hA);obtain⟨rfl,ff⟩:=aw_u1 (REq.refl _) hA;have ej:=AE (hR.trans ff);have cu:=sw (c:=nC) (p:=nA) (f:=5) bt.out.tm bt.out.sane.ok (iNam iC) (iNam iA);clear cr hP hR hA ff HI)
  | (go_at_call 67;refine cu.mono ?_;rintro e w3 ⟨E3,R3,a1,rfl,hP,hR,hA⟩;have ee:=AE (bt.out.att hP hR hA);obtain⟨rfl,fq⟩:=aw_u2 ej.out hA;have ek:=AE (hR.trans fq);have fU:=qL (w:=w3) 0 1 0 it it it;clear cu hP hR hA fq bt ej)
  | (go_at_call 114;refine fU.mono ?_;rintro e G ⟨v,rfl,hv,hb⟩;have a6:=AE (ee.out.below hb);obtain⟨cs,rfl,ak⟩:=hv;obtain⟨c0,c1,c2,c3,c4,c5,c6,c7,c8,c9,ew,ez,eP,eQ,eS,e0,e1,e2,e3,e5,e6,rfl⟩:=aa6 (aw ak);have cv:=q_FixP (p:=sh 0 1 0) (c:=nC) a6.out.tm a6.out.sane.ok ⟨_,rfl,ak⟩ (ke it it it) (sh_cv _ _ _);clear ak hb fU ee)
  | (go_at_call 70;refine cv.mono ?_;rintro e w5 ⟨E5,R5,a1,rfl,hP,hR,hD⟩;have ef:=AE (a6.out.next (s:=⟨3,nC,nA,0,sh 0 1 0⟩) hP hR (by unfold DoS;exact hD) (ke it it it));obtain⟨rfl,fs⟩:=aw_u3 a6.out.sane.ok ek.out hD;have em:=AE (hR.trans fs);have f0:=qL (w:=w5) 1 0 0 it it it;clear cv hP hR hD fs a6 ek)
  | (go_at_call 114;refine f0.mono ?_;rintro e w6 ⟨v,rfl,hv,hb⟩;have a7:=AE (ef.out.below hb);obtain⟨cs,rfl,ak⟩:=hv;obtain⟨c0,c1,c2,c3,c4,c5,c6,c7,c8,c9,ew,ez,eP,eQ,eS,e0,e1,e2,e3,e5,e6,rfl⟩:=aa6 (aw ak);have bp:=aa8 (p:=sh 1 0 0) (c:=nB) (a:=0) a7.out.tm a7.out.sane.ok ⟨_,rfl,ak⟩ (ke it it it) (sh_cv _ _ _);clear ak hb f0 ef)
  | (go_at_call 69;refine bp.mono ?_;rintro e w7 ⟨E7,R7,a1,rfl,hP,hR,hD⟩;have eg:=AE (a7.out.next (s:=⟨2,nB,nA,0,sh 1 0 0⟩) hP hR (by unfold DoS;exact hD) (ke it it it));obtain⟨rfl,fu⟩:=aw_u4 a7.out.sane.ok em.out hD;have ep:=AE (hR.trans fu);have f3:=qL (w:=w7) 3 0 0 it it it;clear bp hP hR hD fu a7 em)
  | (go_at_call 114;refine f3.mono ?_;rintro e w8 ⟨v,rfl,hv,hb⟩;have a9:=AE (eg.out.below hb);obtain⟨cs,rfl,ak⟩:=hv;obtain⟨c0,c1,c2,c3,c4,c5,c6,c7,c8,c9,ew,ez,eP,eQ,eS,e0,e1,e2,e3,e5,e6,rfl⟩:=aa6 (aw ak);have bq:=aa8 (p:=sh 3 0 0) (c:=nB) (a:=10) a9.out.tm a9.out.sane.ok ⟨_,rfl,ak⟩ (ke it it it) (sh_cv _ _ _);clear ak hb f3 eg)
  | (go_at_call 69;refine bq.mono ?_;rintro e w9 ⟨E,R9,a1,rfl,hP,hR,hD⟩;have a4:=AE (a9.out.next (s:=⟨2,nB,nA,10,sh 3 0 0⟩) hP hR (by unfold DoS;exact hD) (ke it it it));obtain⟨rfl,fx⟩:=aw_u5 a9.out.sane.ok ep.out hD;have HR:=AE (hR.trans fx);have b9:=q_Path (x:=nB) (y:=nC) (a:=5) a4.out.tm a4.out.sane;clear bq hP hR hD fx a9 ep))
 rw[sU HR.out it,aw_path HR.out]at b9;simp only[if_pos]at b9;have eq:=AE (show∀wq,AW w9.heap.size w9 wq->TM wq t m E from λwq k=>a4.out.tm.below k);have ad:=AE a4.out.sane;have dT:=AE a4.out.bel;clear a4;go_upto_region 7 with(go_at_call 48;refine b9.mono ?_;clear b9;rintro e wp ⟨v2,rfl,bi,hb⟩;obtain⟨f9,ga,rfl⟩:=cV bi;have a0:=AE bi;have eb:=AE (dT.out.trans (hb.mono dT.out.size));have HT:=AE (show∀wq,AW wp.heap.size wp wq->TM wq t m E from λwq k=>eq.out wq (hb.trans (k.mono hb.size)));clear bi hb eq dT)
 have bb:=AH wp.heap.size wp;have bz:=fG (HT.out wp bb) ad.out (dD ad.out 5 nC nB);rw[aw_f1 HR.out]at bz;simp only at bz;refine Bn ?_;refine ae rfl (v:=ptB t) (w':=wp) Af ?_;refine BC rfl (λK hK=> ?_);go_simp;go_at_call 18
 refine bz.mono ?_;rintro e G ⟨v,rfl,hv,hb⟩;obtain⟨am,rfl,I,Z,aa⟩:=dJ hv;refine hK _ _ ?_;clear hK K bz;refine ae rfl (v:=.tuple #[.agg am.toArray,.int .i64 0]) (w':=G) Af ?_;refine ae rfl (v:=.agg am.toArray) (w':=G) Ah ?_;refine ae rfl (v:=.int .i64 0) (w':=G) Ah ?_;have F:=PB.new G;have ab:aR (G.alloc (.cells ai.toArray 39)) (.agg am.toArray) (sh 2 (-1) 0):=IsL.mono hv F.bel;have U:=F.there;rw[<-I]at U;have J:=aQ am 0 _ (hb.trans (F.bel.mono hb.size)) hb.size (b:=G.heap.size);have H4:=AE ((F.base (bb.trans (hb.mono (bb).size))).put (us:=am) I aa);have et:=AE (F.keep (us:=am) ab);refine ae rfl (v:=.pointer (some ⟨G.heap.size,0,none⟩)) (w':=G.alloc (.cells ai.toArray 39)) (by go_simp;try rfl) ?_;refine Ca rfl _ _ _ rfl G.heap.size 0 am.toArray rfl rfl (by simpa using U) (bc I) Z ?_;rw[show am.toArray.toList=am from rfl];have ap:=AE ((bb).trans (J.mono (bb).size));generalize ax:(G.alloc (.cells ai.toArray 39)).setCells G.heap.size 0 am=W4 at *;obtain⟨B4,e9⟩:∃B,G.heap.size=B:=⟨_,rfl⟩;rw[e9]at H4⊢;clear ax e9 F ab U J hv hb Z aa I;have ed:=AE H4.out.ge;have bO:=fG (HT.out W4 ap.out) ad.out (dD ad.out 11 nA nB);rw[aw_f2 HR.out]at bO;simp only at bO;go_upto_region 8 with(fail)
 refine Bn ?_;refine ae rfl (v:=ptB t) (w':=W4) Af ?_;refine BC rfl (λK hK=> ?_);go_simp;go_at_call 18
 refine bO.mono ?_;rintro e G ⟨v,rfl,hv,hb⟩;obtain⟨an,rfl,I,Z,aa⟩:=dJ hv;refine hK _ _ ?_;clear hK K bO;refine ae rfl (v:=.tuple #[.agg an.toArray,.int .i64 17]) (w':=G) Af ?_;refine ae rfl (v:=.agg an.toArray) (w':=G) Ah ?_;refine ae rfl (v:=.int .i64 17) (w':=G) Ah ?_;have F:=PB.new G;have ab:aR (G.alloc (.cells ai.toArray 39)) (.agg an.toArray) Pq.zero:=IsL.mono hv F.bel;have U:=F.there;rw[<-I]at U;have J:=aQ an 0 _ (hb.trans (F.bel.mono hb.size)) hb.size (b:=G.heap.size);have d3:=AE (H4.out.next J);have cb:=AE (IsL.mono et.out J);have H6:=AE ((F.base (ap.out.trans (hb.mono (ap.out).size))).put (us:=an) I aa);have f6:=AE (F.keep (us:=an) ab);refine ae rfl (v:=.pointer (some ⟨G.heap.size,0,none⟩)) (w':=G.alloc (.cells ai.toArray 39)) (by go_simp;try rfl) ?_;refine Ca rfl _ _ _ rfl G.heap.size 0 an.toArray rfl rfl (by simpa using U) (bc I) Z ?_;rw[show an.toArray.toList=an from rfl];have aq:=AE ((ap.out).trans (J.mono (ap.out).size));generalize ax:(G.alloc (.cells ai.toArray 39)).setCells G.heap.size 0 an=W6 at *;obtain⟨B6,fc⟩:∃B,G.heap.size=B:=⟨_,rfl⟩;rw[fc]at H6⊢;clear ax fc F ab U J hv hb Z aa I;clear H6 f6;have b2:=fG (HT.out W6 aq.out) ad.out (dD ad.out 4 nC nB);rw[aw_f3 HR.out]at b2;simp only at b2;go_upto_region 9 with(fail)
 refine Bn ?_;refine ae rfl (v:=ptB t) (w':=W6) Af ?_;refine BC rfl (λK hK=> ?_);go_simp;go_at_call 18
 refine b2.mono ?_;rintro e G ⟨v,rfl,hv,hb⟩;obtain⟨ao,rfl,I,Z,aa⟩:=dJ hv;refine hK _ _ ?_;clear hK K b2;refine ae rfl (v:=.tuple #[.agg ao.toArray,.int .i64 18]) (w':=G) Af ?_;refine ae rfl (v:=.agg ao.toArray) (w':=G) Ah ?_;refine ae rfl (v:=.int .i64 18) (w':=G) Ah ?_;have F:=PB.new G;have ab:aR (G.alloc (.cells ai.toArray 39)) (.agg ao.toArray) Pq.zero:=IsL.mono hv F.bel;have U:=F.there;rw[<-I]at U;have J:=aQ ao 0 _ (hb.trans (F.bel.mono hb.size)) hb.size (b:=G.heap.size);have d4:=AE (d3.out.next J);have cc:=AE (IsL.mono cb.out J);have H8:=AE ((F.base (aq.out.trans (hb.mono (aq.out).size))).put (us:=ao) I aa);have f7:=AE (F.keep (us:=ao) ab);refine ae rfl (v:=.pointer (some ⟨G.heap.size,0,none⟩)) (w':=G.alloc (.cells ai.toArray 39)) (by go_simp;try rfl) ?_;refine Ca rfl _ _ _ rfl G.heap.size 0 ao.toArray rfl rfl (by simpa using U) (bc I) Z ?_;rw[show ao.toArray.toList=ao from rfl];have ar:=AE ((aq.out).trans (J.mono (aq.out).size));generalize ax:(G.alloc (.cells ai.toArray 39)).setCells G.heap.size 0 ao=W8 at *;obtain⟨B8,fd⟩:∃B,G.heap.size=B:=⟨_,rfl⟩;rw[fd]at H8⊢;clear ax fd F ab U J hv hb Z aa I;clear H8 f7;have b8:=fG (HT.out W8 ar.out) ad.out (dD ad.out 4 nX nB);rw[aw_f4 HR.out]at b8;simp only at b8;go_upto_region 10 with(fail)
 refine Bn ?_;refine ae rfl (v:=ptB t) (w':=W8) Af ?_;refine BC rfl (λK hK=> ?_);go_simp;go_at_call 18
 refine b8.mono ?_;rintro e G ⟨v,rfl,hv,hb⟩;obtain⟨Y,rfl,I,Z,aa⟩:=dJ hv;refine hK _ _ ?_;clear hK K b8;refine ae rfl (v:=.tuple #[.agg Y.toArray,.int .i64 6]) (w':=G) Af ?_;refine ae rfl (v:=.agg Y.toArray) (w':=G) Ah ?_;refine ae rfl (v:=.int .i64 6) (w':=G) Ah ?_;have F:=PB.new G;have ab:aR (G.alloc (.cells ai.toArray 39)) (.agg Y.toArray) Pq.zero:=IsL.mono hv F.bel;have U:=F.there;rw[<-I]at U;have J:=aQ Y 0 _ (hb.trans (F.bel.mono hb.size)) hb.size (b:=G.heap.size);have d5:=AE (d4.out.next J);have cd:=AE (IsL.mono cc.out J);have d2:=AE ((F.base (ar.out.trans (hb.mono (ar.out).size))).put (us:=Y) I aa);have er:=AE (F.keep (us:=Y) ab);refine ae rfl (v:=.pointer (some ⟨G.heap.size,0,none⟩)) (w':=G.alloc (.cells ai.toArray 39)) (by go_simp;try rfl) ?_;refine Ca rfl _ _ _ rfl G.heap.size 0 Y.toArray rfl rfl (by simpa using U) (bc I) Z ?_;rw[show Y.toArray.toList=Y from rfl];have au:=AE ((ar.out).trans (J.mono (ar.out).size));generalize ax:(G.alloc (.cells ai.toArray 39)).setCells G.heap.size 0 Y=W10 at *;obtain⟨gc,cp⟩:∃B,G.heap.size=B:=⟨_,rfl⟩;rw[cp]at d2⊢;clear ax cp F ab U J hv hb Z aa I;clear d2 er;clear ap aq ar H4 d3 d4 et cb cc;have cz:=zo (tq:=nC) (fr:=nB) (HT.out W10 au.out) ad.out
 go_upto_region 13 with(first
  | (go_at_call 50;refine cz.mono ?_;clear cz;rintro e f8 ⟨n1,c1,rfl,hL,hb⟩;obtain⟨rfl,rfl⟩:=aw_lat1 HR.out hL;have av:=AE (au.out.trans (hb.mono au.out.size));have ea:=AE (d5.out.next hb);have cl:=AE (IsL.mono cd.out hb);have da:=zo (tq:=nA) (fr:=nC) (HT.out f8 av.out) ad.out;clear hL hb au d5 cd)
  | (go_at_call 50;refine da.mono ?_;clear da;rintro e d0 ⟨n2,c2,rfl,hL,hb⟩;obtain⟨rfl,rfl⟩:=aw_lat2 HR.out hL;have ac:=AE (av.out.trans (hb.mono av.out.size));have dr:=AE (ea.out.next hb);have cm:=AE (IsL.mono cl.out hb);have a2:=za (tq:=nB) (ta:=10) (fr:=nB) (fa:=0) (th:=nA) (HT.out d0 ac.out) ad.out (acr_ok ad.out nB 10 nB 0 nA);clear hL hb av ea cl))
 rw[aw_f8 HR.out]at a2;simp only at a2;have f5:=AE (show B4<d0.heap.size from(A2.1 dr.out.blk).1);refine Bn ?_;refine ae rfl (v:=ptB t) (w':=d0) Af ?_;refine BC rfl (λK hK=> ?_);go_simp;go_at_call 49
 refine a2.mono ?_;rintro e G ⟨v,rfl,hv,hb⟩;obtain⟨V,rfl,I,Z,aa⟩:=dJ hv;refine hK _ _ ?_;clear hK K a2;refine ae rfl (v:=.tuple #[.agg V.toArray,.int .i64 0]) (w':=G) Af ?_;refine ae rfl (v:=.agg V.toArray) (w':=G) Ah ?_;refine ae rfl (v:=.int .i64 0) (w':=G) Ah ?_;have F:=PB.new G;have ab:aR (G.alloc (.cells ai.toArray 39)) (.agg V.toArray) (sh (-2) 0 0):=IsL.mono hv F.bel;have U:=F.there;rw[<-I]at U;have J:=aQ V 0 _ (hb.trans (F.bel.mono hb.size)) hb.size (b:=G.heap.size);have ds:=AE (dr.out.next J);have cn:=AE (IsL.mono cm.out J);have a3:=AE ((F.base (ac.out.trans (hb.mono (ac.out).size))).put (us:=V) I aa);have ca:=AE (F.keep (us:=V) ab);refine ae rfl (v:=.pointer (some ⟨G.heap.size,0,none⟩)) (w':=G.alloc (.cells ai.toArray 39)) (by go_simp;try rfl) ?_;refine Ca rfl _ _ _ rfl G.heap.size 0 V.toArray rfl rfl (by simpa using U) (bc I) Z ?_;rw[show V.toArray.toList=V from rfl];have ay:=AE ((ac.out).trans (J.mono (ac.out).size));generalize ax:(G.alloc (.cells ai.toArray 39)).setCells G.heap.size 0 V=W13 at *;have db:B4<G.heap.size:=Bv f5.out hb.size;obtain⟨dq,cq⟩:∃B,G.heap.size=B:=⟨_,rfl⟩;rw[cq]at a3 db⊢;clear ax cq F ab U J hv hb Z aa I;clear ac dr cm HT ad HR;go_upto_region 14 with(fail)
 have fz:=en (w':=W13) a0.out (λg hg=>ay.out.block g (cf a0.out hg).2);have cx:=ed.out;obtain⟨gb,e4,d1⟩:=cn.out;have e4:am=gb:=by injection e4 with e4;simpa using e4
 obtain⟨e7,a5,be⟩:=ca.out;have a5:V=e7:=by injection a5 with a5;simpa using a5
 rw[<-e4]at d1;rw[<-a5]at be;clear e4 a5;have hs:=λ(ts:List Value)(hk:_)(hn:ts.length=142)=>mst_two (ts:=ts) (nt:=142) (ρ:=frs ((sh 2 (-1) 0).cs++(sh (-2) 0 0).cs)++([.row 9 3 (nmQ [nB,nA,nC])]:List Vp)) (we:=wp) (w:=W13) (T:=39) (b0:=B4) (b1:=dq) (l0:=pP [0,1,2,3,4,5,6]) (l1:=pP [7,8,9,10,11,12,13])
  (known:=[none,none,some (.v (.one (.ref 42))),some (.v (.one (.i .i64 0))),some (.v (.one (.ptr 0 0))),some (.v (.one (.i .i64 0))),none,some (.v (.one (.i .i64 17))),none,some (.v (.one (.i .i64 18))),none,some (.v (.one (.i .i64 6))),some (.v (.one (.i .i64 10))),some (.v (.one (.i .i64 0))),some (.v (.one (.i .i64 1099511627776))),some (.v (.one (.i .i64 0))),some (.v (.one (.ptr 1 0))),some (.v (.one (.i .i64 0)))])
  no ay.out cx a3.out.ge ds.out.blk a3.out.blk ds.out.nu a3.out.nu
  ((eN (xs:=(sh 2 (-1) 0).cs++(sh (-2) 0 0).cs) (ks:=[0,1,2,3,4,5,6]) (vs:=(sh 2 (-1) 0).cs) Ae).2 d1)
  ((eN (xs:=(sh 2 (-1) 0).cs++(sh (-2) 0 0).cs) (ks:=[7,8,9,10,11,12,13]) (vs:=(sh (-2) 0 0).cs) Ae).2 be) hk hn
 have fy:Leaf.holds (frs ((sh 2 (-1) 0).cs++(sh (-2) 0 0).cs)++([.row 9 3 (nmQ [nB,nA,nC])]:List Vp)) (tu B4 dq) W13 (.ref 42) (.slice f9 [nB,nA,nC].length ga):=⟨_,rfl,names_row fz,λg hg hx=>by
  obtain⟨o,n,c,e⟩:=hg;have hl:=(cf a0.out (g:=g) (by injection e with e _ _;rw[e];rfl)).2;have gd:=a3.out.ge;rcases blk2_has hx with rfl | rfl<;>omega⟩
 refine reg_bool (x:=0) it (C:=[_,_,_,_,_]) (L:=[_])
  (il5 (I_names [nB,nA,nC] 42 rfl it) (acR 2 (-1) 0 (kr:=[0,1,2,3,4,5,6]) Ae it it it) (acR (-2) 0 0 (kr:=[7,8,9,10,11,12,13]) Ae it it it) (rT (sh 2 (-1) 0) (sh 2 (-1) 0) [0,1,2,3,4,5,6] [0,1,2,3,4,5,6] Ae Ae ((ke it it it).mono it) ((ke it it it).mono it) rfl) (rT (sh (-2) 0 0) (sh (-2) 0 0) [7,8,9,10,11,12,13] [7,8,9,10,11,12,13] Ae Ae ((ke it it it).mono it) ((ke it it it).mono it) rfl))
  (aj (o_bs3 42 nB nA nC rfl) aA) Aa ?_ (hs _ ⟨fy,rfl,⟨B4,rfl,rfl⟩,rfl,rfl,rfl,rfl,rfl,rfl,rfl,rfl,⟨dq,rfl,rfl⟩,rfl,trivial⟩ rfl) ?_
 ·kernel_rfl
 intro a' w' h0 hd hk;have f4:=AE (eb.out.trans (hk.to.mono eb.out.size));clear hs fy d1 be fz cx db hk ay ds cn a3 ca a0;go_wp2;refine Ba (results_tmp rfl _ _ _) hd ?_;exact⟨congrArg BF h0,f4.out⟩
end
theorem aby(s:Qry):∀u∈s.cs,noU u:=λu F n e=>by
 subst e;simp[Qry.cs]at F
end Go.Proofs.YtggfmklppkioeaaGreat
