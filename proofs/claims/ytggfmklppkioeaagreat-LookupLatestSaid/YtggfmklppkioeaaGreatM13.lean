/- LookupLatest: the reference's Latest. -/
import Derived.Test.YtggfmklppkioeaaGreatM12
namespace Go.Proofs.YtggfmklppkioeaaGreat
set_option linter.unusedSimpArgs false
set_option linter.unusedVariables false
set_option maxRecDepth 100000
open Go.RowKit
open _root_.Go.RowKit renaming Below → Bi
open _root_.Go renaming heap_alloc_new → Bm,wp_block → Cq,wp_ret → Ct,wp_seq → BP
open _root_.Array renaming getElem?_eq_some_iff → AZ
open _root_.Go.RowKit.Below renaming refl → AF
open _root_.Go.Builtin renaming append_ → BM
open _root_.Int renaming le_refl → CH,toNat_natCast → Ev
open _root_.List renaming getElem?_eq_getElem → AJ,getElem?_eq_some_iff → AX,length_append → Bh,mem_append → AG,mem_of_getElem? → A0,mem_singleton → BD
open _root_.Nat renaming le_refl → AE,lt_or_eq_of_le → DD,zero_add → A5,zero_le → AY
open _root_.Option renaming some → A3
open _root_.Go.Proofs.Tryz renaming func103 → EU,func39 → Ej,prog → AB
open _root_.Go.Value renaming int → AK
section
open Classical
variable{w:World}
theorem bi_pne{A:Addr}{X Y:Operand}:(do eqGuard .neq 160 X Y (.pointer (some A)) (.pointer none);binOp .neq 160 (.pointer (some A)) (.pointer none):Sem Value).run AB w= .ok (.bool true) w:=by
 have C:AB.underlying 160=some (.pointer 185):=Aa
 simp[eqGuard,binOp,Sem.run_bind,wE C,Result.andThen]
theorem qP(w:World)(x:Int):(Instr.buildSlice 171 1 #[(0,.int .i64 x)]).run AB w= .ok (.slice (some ⟨w.heap.size,0,none⟩) 1 1) (w.alloc (.cells #[.int .i64 x] 3)):=Ah
theorem noU_i(x:Int):noU (.int .i64 x):=λn e=>by cases e
structure IS(w0 w:World)(v:Value)(l:List Int):Prop where
 own:aX w 3 1 v l.length (l.map (AK .i64))
 ge:∀g,v.ownBlock=some g->w0.heap.size<=g
 bel:mBw w0 w
section
variable {w0 w w':World} {v:Value} {l:List Int} {x:Int}
theorem IS.mono(h:IS w0 w v l)(k:Bi w.heap.size w w'):IS w0 w' v l:=⟨h.own.keep (λg C=>k.block g (bV h.own.1 C).2),h.ge,h.bel.trans (k.mono h.bel.size)⟩
theorem IS.form(h:IS w0 w v l):∃C c,v= .slice C l.length c:=cL h.own.1
theorem IS.ld{ad:Option Addr}{n c k:Nat}(h:IS w0 w (.slice ad n c) l)(G:l[k]? =some x):∃g,ad=some ⟨g,0,none⟩/\LdB w 3 (.pointer (some ⟨g,0+(k:Int).toNat*1,none⟩)) (.int .i64 x):=by
 obtain⟨C,H,e⟩:=h.form;injection e with I F J;subst F;obtain⟨g,rfl,hc⟩:=cQ h.own.1 (show(l.map (AK .i64))[k]? =some (.int .i64 x)by rw[List.getElem?_map,G];rfl);exact⟨g,rfl,.one Aa (bV h.own.1 rfl).2 (by rw[Ev,Nat.mul_one,A5];exact hc)⟩
theorem IS.one(h:Bi w0.heap.size w0 w)(x:Int):IS w0 (w.alloc (.cells #[.int .i64 x] 3)) (.slice (some ⟨w.heap.size,0,none⟩) 1 1) [x]:=
 ⟨⟨⟨rfl,.inr ⟨w.heap.size,1,#[.int .i64 x],rfl,AY _,Bm w _,AE _,it,rfl,rfl⟩⟩,λg C=>by
  obtain rfl:w.heap.size=g:=A3.inj C;exact jf (Bm w _) (λu F=>by simp at F;subst F;exact noU_i _)⟩,λg C=>by
  obtain rfl:w.heap.size=g:=A3.inj C;exact h.size,h.alloc h.size _⟩
theorem IS.app(h:IS w0 w v l){g c:Nat}{ty:TypeId}(hl:l.length<=1000000)(F:w.cell? ⟨g,0,none⟩=some (.int .i64 x)):
  ∃v' w',(BM #[171,171] ty #[v,.slice (some ⟨g,0,none⟩) 1 c]).run AB w= .ok v' w'/\IS w0 w' v' (l++ [x]):=by
 obtain⟨v',w',H,k2,k3,I⟩:=jY (p:=AB) (ty:=ty) (c:=c) (m:=1) (sz:=1) (bytes:=8) (a:=⟨g,0,none⟩) (news:=[.int .i64 x]) Tryz.underlying171 Aa h.own rfl (λj u G=>by
  cases j with
  | zero=>simp at G;subst G;rw[bM];exact F
  | succ j=>simp at G) (λu C=>by simp at C;subst C;rfl) (λu C=>by simp at C;subst C;exact noU_i _) it no no
 refine⟨v',w',H,⟨?_,λg F=>(k3 g F).elim (h.ge g) (Nat.le_trans h.bel.size),h.bel.grown k2 h.bel.size h.ge⟩⟩;show aX w' _ 1 v' (l++ [x]).length _;rw[Bh,List.map_append];exact I
variable {n d e:Nat} {o p:Oper} {ks:List (Nat×Value)} {a:Act} {X Y:Operand} {ops:Array Oper} {rest:List Oper} {Q:Exit->Act->World->Prop}
theorem IS.two(S:IS w0 w v l)(hl:l.length<=1000000)(x:Int)(ty:TypeId):∃v' w',(BM #[171,171] ty #[v,.slice (some ⟨w.heap.size,0,none⟩) 1 1]).run AB (w.alloc (.cells #[.int .i64 x] 3))= .ok v' w'/\IS w0 w' v' (l++ [x]):=
 (S.mono ((AF _ w).alloc (AE _) (.cells #[.int .i64 x] 3))).app hl (by rw[aH (Bm w _)];rfl)
theorem vApI(S:IS w0 w v l)(hl:l.length<=1000000)(C:Kn n ks a)(h:∀ {a' w' v'},IS w0 w' v' (l++ [x])->Kn n ((e,v')::(d,.slice (some ⟨w.heap.size,0,none⟩) 1 1)::ks) a'->wpList AB ops Q rest a' w')
  (h1:o.op= .buildSlice 171 1 #[(0,X)]:=by rfl)(h2:evK ks X=some (.int .i64 x):=by rfl)(h3:o.dst=some d:=by rfl)(F:d<n:=by decide)(G:o.guard=none:=by rfl)
  (I:p.op= .call {callee:=.builtin .append,args:=#[Y,.tmp d],argTypes:=#[171,171]}:=by rfl)(k2:evK ((d,.slice (some ⟨w.heap.size,0,none⟩) 1 1)::ks) Y=some v:=by rfl)(k3:p.dst=some e:=by rfl)(J:e<n:=by decide)(K:p.guard=none:=by rfl):wpList AB ops Q (o::p::rest) a w:=by
 refine wl (fD G) C h3 F (ij C h1 h2 (qP w x)) λ_ C=> ?_
 obtain⟨v',w',H,S'⟩:=S.two hl x p.type;exact wl (fD K) C k3 J (jT C I k2 (by simp[evK,look]) H) λ_ C=>h S' C
end
variable{t:Nat}{L:List Rl}
theorem RM.lat{n U k:Nat}{ad:Option Addr}{l:Rl}(h:RM w t (.slice ad n U) L)(K:L[k]? =some l):
  ∃b,ad=some ⟨b,0,none⟩/\LdB w 3 (.pointer (some ⟨b,0+(k:Int).toNat*27+3,none⟩)) (.int .i64 l.x.un)/\LdB w 160 (.pointer (some ⟨b,0+(k:Int).toNat*27+26,none⟩)) (ptB l.g)/\
   ∃F I,LdB w 183 (.pointer (some ⟨l.g,0+0,none⟩)) (.slice F l.x.tr.length I)/\∀e,l.x.tr[l.x.tr.length - 1]? =some e->∃G o2,F=some ⟨G,o2,none⟩/\LdB w 3 (.pointer (some ⟨G,o2+((l.x.tr.length:Int) - 1).toNat*22+0,none⟩)) (.int .i64 e.tm):=by
 obtain⟨b,c,cs,e,A⟩:=h.at K;injection e with J P Z;subst J;subst P;obtain⟨cur,T,hb⟩:=h.blk (by have:=(AX.1 K).1;omega);have C:=(AZ.1 hb).1;have T:=h.trk l (A0 K);obtain⟨F,I,e,f⟩:=T.form;refine⟨b,rfl,.one Aa C (by rw[Ev,A5];exact A.un),.one Aa C (by rw[Ev,A5];exact A.tp),F,I,by rw[<-e];exact f,λx H=> ?_⟩;obtain⟨G,o2,c3,e',hp⟩:=T.parts (by intro V;rw[V]at H;cases H);rw[e]at e';injection e' with J P Z;have hi:=(AX.1 H).1;refine⟨G,o2,J,?_⟩;rw[show((l.x.tr.length:Int) - 1).toNat=l.x.tr.length - 1 by omega];exact(hp _ _ H).1
structure ZS(L:List Rl)(zs:List Int):Prop where
 mx:bC∈zs
 un:∀l∈L,l.x.un - 1∈zs
 tr:∀l∈L,∀e,l.x.tr[l.x.tr.length - 1]? =some e->e.tm∈zs
 le:∀z∈zs,z<=bC
theorem ZS.ends{zs:List Int}{b:Int}(h:ZS L zs)(k:zS (trR L) b):b∈zs:=by
 rcases k with rfl | ⟨q,C,k⟩
 ·exact h.mx
 ·unfold trR at C;obtain⟨l,hl,rfl⟩:=List.mem_map.1 C;rcases k with⟨_,rfl⟩ | ⟨_,_,e,F,rfl⟩
  ·exact h.un l hl
  ·exact h.tr l hl e F
theorem ZS.snoc{zs ys:List Int}{l:Rl}(h:ZS L zs)(h1:l.x.un - 1∈ys)(h2:∀e,l.x.tr[l.x.tr.length - 1]? =some e->e.tm∈ys)(h3:∀z∈ys,z<=bC):ZS (L++ [l]) (zs++ys) where
 mx:=List.mem_append_left _ h.mx
 un:=λx C=>by
  rcases AG.1 C with k | k
  ·exact List.mem_append_left _ (h.un x k)
  ·obtain rfl:x=l:=by simpa using k
   exact List.mem_append_right _ h1
 tr:=λx C e F=>by
  rcases AG.1 C with k | k
  ·exact List.mem_append_left _ (h.tr x k e F)
  ·obtain rfl:x=l:=by simpa using k
   exact List.mem_append_right _ (h2 e F)
 le:=λz hz=>by
  rcases AG.1 hz with k | k
  ·exact h.le z k
  ·exact h3 z k
theorem q_KnownB{v:Value}(h:RM w t v L)(c:Nm)(hn:L.length<=1000000):Calls AB 103 #[ptB t,.string c] w λe w'=>e= .returned (.bool (decide (aC (trR L) c)))/\mBw w w':=
 (gG h c hn).mono (by rintro e w' ⟨rfl,rfl⟩;exact⟨rfl,AF _ _⟩)
set_option maxHeartbeats 2000000 in
theorem q_LatR{v:Value}(h:RM w t v L)(hR:Sane (trR L))(tq fr:Nm)(hn:L.length<=400000):Calls AB 59 #[ptB t,.string tq,.string fr] w λe w'=>∃n c,e= .returned (.tuple #[.int .i64 n,.int .i64 c])/\uo (trR L) tq fr n c/\Bi w.heap.size w w':=by
 obtain⟨ad,cp,rfl⟩:=h.form;have J:=λwq (k:Bi w.heap.size w wq) x=>q_KnownB (h.below k) x no
 have ak:=λwq (k:Bi w.heap.size w wq) x y a=>q_CanR (h.below k) hR x y a no
 have an:=AF w.heap.size w;have fT:LdB w 79 (.pointer (some ⟨t,0+0,none⟩)) (.slice ad L.length cp):=.one Aa (AZ.1 h.tr).1 h.cell;go_enter Tryz.func59,Tryz.ntmps59
 refine bk 109 [(0,ptB t),(1,.string tq),(2,.string fr)] λC=> ?_
 refine sX C ?_;intro _ C;refine sA C ?_;intro _ C;refine wC C (ah EU rfl rfl) (J _ an tq) λ{e w1} I=> ?_
 obtain⟨rfl,b1⟩:=I;refine⟨_,rfl,λ_ C=> ?_⟩;by_cases k1:aC (trR L) tq
 ·rw[decide_eq_true k1]at C;refine sD C ?_;intro _ C;refine wC C (ah EU rfl rfl) (J _ b1 fr) λ{e w2} I=> ?_
  obtain⟨rfl,b2⟩:=I;have hb:=b1.trans (b2.mono b1.size);clear b1 b2 an;refine⟨_,rfl,λ_ C=> ?_⟩;by_cases k2:aC (trR L) fr
  ·rw[decide_eq_true k2]at C;refine sZ C ?_;intro _ C;refine cB C ?_;refine mDn ?_;refine bD ?_;have S:=IS.one hb bC;refine wW C (.slice (some ⟨w2.heap.size,0,none⟩) 1 1) (w2.alloc (.cells #[.int .i64 bC] 3)) (ij C rfl rfl (qP w2 bC)) λC=> ?_
   refine sZ C ?_;intro _ C;generalize w2.alloc (.cells #[.int .i64 bC] 3)=w3 at *;generalize Value.slice (some ⟨w2.heap.size,0,none⟩) 1 1=v3 at *;have Z:ZS [] [bC]:=⟨BD.2 rfl,λl hl=>(by cases hl),λl hl=>(by cases hl),λz hz=>(by rw[BD.1 hz];exact CH _)⟩;refine sX C ?_;intro _ C
   ·refine eU (λb wr=>∃(k:Nat)(u:Value)(zs:List Int),Kn 109 [(0,ptB t),(1,.string tq),(2,.string fr),(8,u),(9,.int .i64 (k:Int))] b/\IS w wr u zs/\zs.length<=1+2*k/\k<=L.length/\ZS (L.take k) zs) (λb _=>L.length - (intOf (b.tmps.getD 9 undef)).toNat) ⟨0,v3,[bC],C.ct,S,Ad,AY _,Z⟩ (λb wr hI=> ?_);clear C S hb Z;obtain⟨k,u,zs,C,S,a4,J,Z⟩:=hI;have U:(intOf (b.tmps.getD 9 undef)).toNat=k:=by rw[C.gt 9];simp[intOf]
    rw[U];have I:=S.bel;rcases DD J with F | rfl
    ·obtain⟨l,hl⟩:∃l,L[k]? =some l:=⟨_,AJ F⟩;obtain⟨b,rfl,fu,fp,a2,c2,fs,ay⟩:=h.lat hl;have a3:=hR.ok.tm _ (A0 (gF hl));have ap: -2<=l.x.un - 1/\l.x.un - 1<=1099511627776:=by simp only[bC]at *;omega
     have ao:L.take (k+1)=L.take k++ [l]:=by rw[List.take_add_one,hl];rfl
     refine sX C ?_;intro _ C;refine lB C ?_;refine sA C ?_;intro _ C;refine vN C ((l.x.un - 1)) λC=> ?_
     refine vApI S no C λ{_ w5 v5} S C=> ?_
     refine sZ C ?_;intro _ C;clear I;have I:=S.bel;refine sX C ?_;intro _ C;refine sA C ?_;intro _ C;refine wB C (.bool true) (hr:=bi_pne) λC=> ?_
     by_cases h0:0<l.x.tr.length
     ·have ar:(0:Int)<(l.x.tr.length:Int):=no
      obtain⟨e,he⟩:∃e,l.x.tr[l.x.tr.length - 1]? =some e:=⟨_,AJ no⟩;obtain⟨b2,o2,rfl,fe⟩:=ay e he;have au:=(hR.ok.good _ (A0 (gF hl))).at he;have am:=(hR.ok.good _ (A0 (gF hl))).len;have a1:(l.x.tr.length:Int)<=64:=by have:=am;simp only at this;omega
      refine sZ C ?_;intro _ C;refine mCt C ?_;have hd:=(AF w5.heap.size w5).drew;have h8:=I.trans (hd.mono I.size);have S8:=S.mono hd;obtain⟨v7,w7,ax,S7⟩:=S8.two (by rw[Bh,List.length_singleton];omega) e.tm 171;have b9:Bi w.heap.size w (w5.drew.alloc (.cells #[.int .i64 e.tm] 3)):=h8.alloc h8.size _;clear I hd;refine mDn ?_;refine wp_region_held_drew (S:=λw'=>Bi w.heap.size w w') Aa h8 (λH=> ?_);refine yK 0 C H λC=> ?_
      refine yK 1 C H λC=> ?_
      refine yK 2 C H λC=> ?_
      refine yK 3 C H λC=> ?_
      refine yK 4 C H λC=> ?_
      refine yK 5 C H λC=> ?_
      refine yK 6 C H λC=> ?_
      refine yK 7 C H λC=> ?_
      refine yK 8 C H λC=> ?_
      refine yK 9 C H (hy:=λa w C hw=>by exact zy C rfl rfl Tryz.underlying183) λC=> ?_
      refine yK (v:=.int .i64 ((l.x.tr.length:Int) - 1)) 10 C H (hy:=λa w C hw=>by exact kx_b C rfl rfl rfl (zx rfl no no)) λC=> ?_
      refine yK 11 C H λC=> ?_
      refine yK 12 C H λC=> ?_
      refine yK 13 C H λC=> ?_
      refine yV 14 C _ _ (λe=>by cases e;exact ij C rfl rfl (qP _ _)) b9 λC=> ?_
      refine yV 15 C _ _ (λe=>by cases e;exact jT C rfl rfl (by simp[evK,look]) ax) S7.bel λC=> ?_
      refine yV 16 C _ _ (λe=>by cases e;exact qv C rfl rfl) S7.bel λC=>wpAnyH_done Aa ?_ _
      refine mUp ?_;refine sA C ?_;intro _ C;refine vN C ((k+1:Nat)) λC=> ?_
      refine sD C ?_;intro _ C;refine wln ?_;refine mUp ?_;refine⟨⟨k+1,v7,_,C.ct,S7,by simp only[Bh,List.length_singleton];omega,F,?_⟩,?_⟩
      ·rw[ao,List.append_assoc];exact Z.snoc Ad (λe' K=>by rw[he]at K;injection K with K;subst K;simp) (λz hz=>by
        have h9:=au.hi;rcases AG.1 hz with k | k
        ·rw[BD.1 k];exact ap.2
        ·rw[BD.1 k];exact h9)
      ·rw[C.gt 9];simp only[intOf];omega
     ·have ar:¬(0:Int)<(l.x.tr.length:Int):=no
      refine sZ C ?_;intro _ C;refine cB C ?_;refine sA C ?_;intro _ C;refine vN C ((k+1:Nat)) λC=> ?_
      refine sD C ?_;intro _ C;refine wln ?_;refine mUp ?_;refine⟨⟨k+1,v5,_,C.ct,S,by simp only[Bh,List.length_singleton];omega,F,?_⟩,?_⟩
      ·rw[ao];exact Z.snoc Ad (λe he=>absurd (AX.1 he).1 no) (λz hz=>by rw[BD.1 hz];exact ap.2)
      ·rw[C.gt 9];simp only[intOf];omega
    ·rw[List.take_length]at Z;refine sX C ?_;intro _ C;refine mCf C ?_;refine mEx ?_;obtain⟨aq,c2,rfl⟩:=S.form;clear I U J fT;refine sX C ?_;intro _ C;refine sX C ?_;intro _ C
     ·refine eU (λb wq=>∃(j:Nat)(m:Int),Kn 109 [(0,ptB t),(1,.string tq),(2,.string fr),(8,.slice aq zs.length c2),(11,.int .i64 m),(12,.int .i64 (j:Int))] b/\Bi wr.heap.size wr wq/\j<=zs.length/\(m= -1\/0<=m/\m<=bC/\(aP (trR L) m tq fr).2=0)/\∀i z,i<j->zs[i]? =some z->0<=z->(aP (trR L) z tq fr).2=0->z<=m) (λb _=>zs.length - (intOf (b.tmps.getD 12 undef)).toNat) ⟨0, -1,C.ct,AF _ _,AY _,.inl rfl,λi z hi=>absurd hi (Nat.not_lt_zero _)⟩ (λb wq hI=> ?_);clear C;obtain⟨j,m,C,hb,av,P,V⟩:=hI;have U:(intOf (b.tmps.getD 12 undef)).toNat=j:=by rw[C.gt 12];simp[intOf]
      rw[U];have ab:=S.bel.trans (hb.mono S.bel.size);rcases DD av with F | rfl
      ·obtain⟨z,hz⟩:∃z,zs[j]? =some z:=⟨_,AJ F⟩;obtain⟨g,rfl,fz⟩:=S.ld hz;have a0:=Z.le z (A0 hz);have G:∀m':Int,m<=m'->((aP (trR L) z tq fr).2=0->0<=z->z<=m')->∀i y,i<j+1->zs[i]? =some y->0<=y->(aP (trR L) y tq fr).2=0->y<=m':=λm' h1 h2 i y hi hy h3 h4=>by
        rcases Nat.lt_or_ge i j with h5 | h5
        ·have:=V i y h5 hy h3 h4;omega
        ·obtain rfl:i=j:=no
         rw[hz]at hy;injection hy with hy;subst hy;exact h2 h4 h3
       by_cases hg:m<z
       ·refine sX C ?_;intro _ C;refine lB C ?_;refine sA C ?_;intro _ C;refine wC C (ah Tryz.func58 rfl rfl) (ak _ ab tq fr z) λ{e w4} I=> ?_
        obtain⟨rfl,b4⟩:=I;have ac:=hb.trans (b4.mono hb.size);refine⟨_,rfl,λ_ C=> ?_⟩;by_cases h0:(aP (trR L) z tq fr).2=0
        ·rw[h0]at C;refine sZ C ?_;intro _ C;refine mCt C ?_;refine sX C ?_;intro _ C;refine sA C ?_;intro _ C;refine vN C ((j+1:Nat)) λC=> ?_
         refine sD C ?_;intro _ C;refine wln ?_;refine mUp ?_;refine⟨⟨j+1,z,C.ct,ac,F,.inr ⟨no,a0,h0⟩,G z no (λ_ _=>CH _)⟩,?_⟩;rw[C.gt 12];simp only[intOf];omega
        ·refine sZ C ?_;intro _ C;refine cB C ?_;refine sA C ?_;intro _ C;refine vN C ((j+1:Nat)) λC=> ?_
         refine sD C ?_;intro _ C;refine wln ?_;refine mUp ?_;refine⟨⟨j+1,m,C.ct,ac,F,P,G m (CH _) (λh=>absurd h h0)⟩,?_⟩;rw[C.gt 12];simp only[intOf];omega
       ·refine sX C ?_;intro _ C;refine lB C ?_;refine sX C ?_;intro _ C;refine cB C ?_;refine sA C ?_;intro _ C;refine vN C ((j+1:Nat)) λC=> ?_
        refine sD C ?_;intro _ C;refine wln ?_;refine mUp ?_;refine⟨⟨j+1,m,C.ct,hb,F,P,G m (CH _) (λ_ _=>no)⟩,?_⟩;rw[C.gt 12];simp only[intOf];omega
      ·refine sX C ?_;intro _ C;refine mCf C ?_;refine mEx ?_;have aa:∀a,0<=a->a<=bC->(aP (trR L) a tq fr).2=0->a<=m:=λa h1 h2 h3=>by
        obtain⟨b,e1,e2,e3,e4⟩:=um hR.ok h2 h3;obtain⟨i,hi⟩:=List.getElem?_of_mem (Z.ends e3);have:=V i b (AX.1 hi).1 hi no e4;omega
       by_cases hm0:m<0
       ·refine sX C ?_;intro _ C;refine mCt C ?_;refine sX C ?_;intro _ C;refine mT2 C ?_;exact⟨_,_,rfl,.inr ⟨⟨k2,k1⟩,.inr ⟨rfl,rfl,λa h1 h2 h3=>by have:=aa a h1 h2 h3;omega⟩⟩,ab⟩
       ·refine sX C ?_;intro _ C;refine cB C ?_;refine sX C ?_;intro _ C;refine mT2 C ?_;exact⟨_,_,rfl,.inr ⟨⟨k2,k1⟩,.inl ⟨rfl,no,(P.resolve_left no).2.1,(P.resolve_left no).2.2,aa⟩⟩,ab⟩
  ·rw[decide_eq_false k2]at C;refine sZ C ?_;intro _ C;refine mCt C ?_;refine sX C ?_;intro _ C;refine mT2 C ?_;exact⟨_,_,rfl,.inl ⟨λe=>k2 e.1,rfl,rfl⟩,hb⟩
 ·rw[decide_eq_false k1]at C;refine sZ C ?_;intro _ C;refine mCt C ?_;refine sX C ?_;intro _ C;refine mT2 C ?_;exact⟨_,_,rfl,.inl ⟨λe=>k1 e.2,rfl,rfl⟩,b1⟩
set_option maxHeartbeats 2000000 in
theorem q_LatestL{v0:Value}(R0:List Stp)(q:Qry)(ao:∀s∈R0,s.Ok)(hq:q.Ok)(k0:jX w v0 R0):Calls AB 12 #[v0,q.val] w λe w'=>e= .returned (.bool true)/\mBw w w':=by
 obtain⟨an,c0,rfl,_⟩:=k0.row;go_enter Tryz.func12,Tryz.ntmps12
 refine bk 96 [(0,.slice an R0.length c0),(1,.agg q.cs.toArray)] λC=> ?_
 refine mDn ?_;refine bD ?_;refine vX (qry_nu q) C λ{_ W B} V C=> ?_
 refine sZ C ?_;intro _ C;have f0:LdB W 5 (.pointer (some ⟨B,0+0,none⟩)) (.int .u8 q.a):=V.one rfl;have f1:LdB W 5 (.pointer (some ⟨B,0+1,none⟩)) (.int .u8 q.b):=V.one rfl;have f3:LdB W 3 (.pointer (some ⟨B,0+3,none⟩)) (.int .i64 q.t):=V.one rfl;by_cases b0:20<R0.length
 ·refine sX C ?_;intro _ C;refine mCt C ?_;refine mDn ?_;refine bD ?_;refine wC C (ah Tryz.func53 rfl rfl) (kF W) λ{e K} F=> ?_
  obtain⟨rfl,b1⟩:=F;refine⟨_,rfl,λ_ C=> ?_⟩;refine sZ C ?_;intro _ C;refine mT1 C ?_;exact⟨rfl,V.bel.trans (b1.mono V.bel.size)⟩
 ·refine sX C ?_;intro _ C;refine cB C ?_;refine sA C ?_;intro _ C;refine wC C (ah Tryz.func57 rfl rfl) (q_grown29 R0 ao (k0.below V.bel) no) λ{e K} F=> ?_
  obtain⟨t,m,tb,E,v,L,rfl,Z⟩:=F;refine⟨_,rfl,λ_ C=> ?_⟩;refine sZ C ?_;intro _ C;refine sX C ?_;intro _ C;refine cB C ?_;have f0:=f0.mono Z.ti.bel;have f1:=f1.mono Z.ti.bel;have f3:=f3.mono Z.ti.bel;have hb:=AF K.heap.size K;refine uA C ?_;intro _ C;refine uC C (.string (cW q.a)) (ah Ej rfl rfl) (λw hb=>(oe q.a hq.a).mono (by rintro e w' ⟨rfl,rfl⟩;exact⟨rfl,AF _ _⟩)) λC=> ?_
  refine uD C ?_;intro _ C;refine uC C (.string (cW q.b)) (ah Ej rfl rfl) (λw hb=>(oe q.b hq.b).mono (by rintro e w' ⟨rfl,rfl⟩;exact⟨rfl,AF _ _⟩)) λC=> ?_
  refine uZ C ?_;intro _ C w' U;generalize cW q.a=x at *;generalize cW q.b=y at *;have hS:=Z.ti.sane;have hn:L.length<=400000:=by have:=Z.le;omega
  have ak:=Z.rq;have I:=λwq (k:Bi K.heap.size K wq)=>Z.below k
  have J:=λwq (k:Bi K.heap.size K wq)=>V.bel.trans ((I wq k).ti.bel.mono V.bel.size)
  have aa:=λwq (k:Bi K.heap.size K wq) (a:Int)=>q_Can (I wq k).ti.tm hS (gX hS a y x)
  clear hb Z V;refine sA C ?_;intro _ C;refine wC C (ah Tryz.func50 rfl rfl) (qO (tq:=y) (fr:=x) (I _ U).ti.tm hS) λ{e w2} F=> ?_
  obtain⟨n,c,rfl,hL,b2⟩:=F;have hb:=U.trans (b2.mono U.size);clear U b2;have hL:=hL.max hS.ok;refine⟨_,rfl,λ_ C=> ?_⟩;refine sZ C ?_;intro _ C;refine sA C ?_;intro _ C;refine wC C (ah Tryz.func59 rfl rfl) (q_LatR (I _ hb).rm (I _ hb).sr y x hn) λ{e w3} F=> ?_
  obtain⟨n',c',rfl,ab,b3⟩:=F;have G:=hb.trans (b3.mono hb.size);clear hb b3;obtain⟨rfl,rfl⟩:=hL.uniq (ab.req ak hS.ok);clear ab ak;refine⟨_,rfl,λ_ C=> ?_⟩;refine sZ C ?_;intro _ C;refine sX C ?_;intro _ C;refine cB C ?_;refine mDn ?_;refine wp_mid (λa' wx=>mBw K wx/\∃bl:Bool,(bl=true->0<=q.t/\q.t<=bC/\(aP (trE E) q.t y x).2=0)/\Kn 96 [(3,.pointer (some ⟨B,0,none⟩)),(5,ptB t),(8,.string x),(9,.string y),(10,.int .i64 n),(11,.int .i64 c),(14,.bool bl)] a') ?_ (λa' wx hI=> ?_)
  ·by_cases h1:0<=q.t
   ·by_cases h2:q.t<=1099511627776
    ·refine sA C ?_;intro _ C;refine wC C (ah Tryz.func19 rfl rfl) (aa _ G q.t) λ{e w4} F=> ?_
     obtain⟨rfl,b4⟩:=F;refine⟨_,rfl,λ_ C=> ?_⟩;refine sZ C ?_;intro _ C;refine⟨G.trans (b4.mono G.size),_,?_,C.ct⟩;exact λe=>⟨h1,h2,of_decide_eq_true e⟩
    ·refine sX C ?_;intro _ C;exact⟨G,false,λe=>(by cases e),C.ct⟩
   ·refine sX C ?_;intro _ C;exact⟨G,false,λe=>(by cases e),C.ct⟩
  ·clear C G;obtain⟨hb,bl,ac,C⟩:=hI;refine mUp ?_;by_cases hc:c=0
   ·subst hc;obtain⟨h0,h1,h2,h3⟩:0<=n/\n<=bC/\(aP (trE E) n y x).2=0/\∀a,0<=a->a<=bC->(aP (trE E) a y x).2=0->a<=n:=by
     rcases hL with⟨_,_,e⟩ | ⟨_,⟨_,h⟩ | ⟨e,_⟩⟩
     ·exact absurd e it
     ·exact h
     ·exact absurd e it
    have ad:=λwq k=>aa wq k n
    rw[decide_eq_true h2]at ad;refine sX C ?_;intro _ C;refine cB C ?_;refine sA C ?_;intro _ C;refine wC C (ah Tryz.func19 rfl rfl) (ad _ hb) λ{e w4} F=> ?_
    obtain⟨rfl,b4⟩:=F;have P:=hb.trans (b4.mono hb.size)
    cases bl with
    | false=>
     refine⟨_,rfl,λ_ C=> ?_⟩;refine sD C ?_;intro _ C;refine wC C (ah Tryz.func53 rfl rfl) (kF _) λ{e am} F=> ?_
     obtain⟨rfl,H⟩:=F;refine⟨_,rfl,λ_ C=> ?_⟩;refine sZ C ?_;intro _ C;refine mT1 C ?_;exact⟨rfl,J _ (P.trans (H.mono P.size))⟩
    | true=>
     obtain⟨e1,e2,e3⟩:=ac rfl;have ap:=h3 _ e1 e2 e3;refine⟨_,rfl,λ_ C=> ?_⟩;refine sD C ?_;intro _ C;refine wC C (ah Tryz.func53 rfl rfl) (kF _) λ{e am} F=> ?_
     obtain⟨rfl,H⟩:=F;refine⟨_,rfl,λ_ C=> ?_⟩;refine sZ C ?_;intro _ C;refine mT1 C ?_;exact⟨rfl,J _ (P.trans (H.mono P.size))⟩
   ·obtain rfl:bl=false:=by
     cases bl with
     | false=>rfl
     | true=>
      obtain⟨e1,e2,e3⟩:=ac rfl;rcases hL with⟨C,_,_⟩ | ⟨_,⟨e,_⟩ | ⟨_,_,h⟩⟩
      ·refine absurd (jo (?_:(aF (trE E) q.t x y).2=0)) C;rw[kE]at e3;by_cases k:(aF (trE E) q.t x y).2=0
       ·exact k
       ·rw[if_pos k]at e3;exact e3
      ·exact absurd e hc
      ·exact absurd e3 (h _ e1 e2)
    refine sX C ?_;intro _ C;refine mCt C ?_;refine sA C ?_;intro _ C;refine wC C (ah Tryz.func53 rfl rfl) (kF _) λ{e am} F=> ?_
    obtain⟨rfl,H⟩:=F;refine⟨_,rfl,λ_ C=> ?_⟩;refine sZ C ?_;intro _ C;refine mT1 C ?_;exact⟨rfl,J _ (hb.trans (H.mono hb.size))⟩
end
end Go.Proofs.YtggfmklppkioeaaGreat
