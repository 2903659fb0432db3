/- Trees of frames: Span. Tracks in memory: what lies around a time, in the reference. Tracks in memory: the pose at a time, in the reference. The reference's tree: Edge. The reference's tree: Span. The reference's tree: Links. Trees of frames: Links. Trees of frames: plain facts of the rows of links, of roots. Trees of frames: what a step does is determined. The two trees side by side: plain facts. The two trees side by side, in memory. The reference's tree: Root. -/
import Derived.Test.YtggfmklppkioeaaGreatP16
import Derived.Laws.Rows
namespace Go.Proofs.YtggfmklppkioeaaGreat
set_option linter.unusedSimpArgs false
set_option linter.unusedVariables false
set_option maxRecDepth 100000
open Go.RowKit
open _root_.Go.RowKit renaming Below → AG
open _root_.Go renaming Calls → AH,all_oneCell_toArray → EC,bodyPost_ret → A6,heap_alloc_new → BE,results_tmp3 → CP,run_loadAt_mid → Dv,run_storeAt_mid → Dw,wp_block → AY,wp_region_held_drew → EA,wp_region_list → CC,wp_ret → Bk,wp_seq → AP,wp_skip → Bm
open _root_.Array renaming getElem?_eq_some_iff → A8
open _root_.Go.RowKit.Below renaming refl → AL
open _root_.Go.Builtin renaming append_ → Ca
open _root_.ByteArray renaming empty → ES
open _root_.Go.IntKind renaming i64 → Bd,wrap_i64 → BQ
open _root_.Go.Lib renaming hid → AF
open _root_.List renaming append_nil → Ds,exists_mem_of_ne_nil → FE,flatMap_append → Df,flatMap_cons → Cq,getElem?_append_left → Bw,getElem?_append_right → Bq,getElem?_eq_getElem → AU,getElem?_eq_some_iff → A5,getElem?_take → BP,getElem_of_mem → BN,length_append → By,length_cons → Bz,length_map → Cf,length_take → Bp,map_map → CG,mem_append → AJ,mem_cons → A3,mem_cons_of_mem → Bg,mem_cons_self → Bj,mem_flatMap → Br,mem_map → Bi,mem_of_getElem? → Bb,nil_append → Fc,nodup_cons → Bv,not_mem_nil → DE,pairwise_append → C6,pairwise_cons → C5,pairwise_map → C0,size_toArray → Cc,take_add_one → Fl,take_length → Fe,take_zero → EW
open _root_.Nat renaming le_of_not_lt → DA,le_refl → AK,le_succ → DT,le_trans → AI,lt_or_ge → Bl,zero_add → Bh,zero_le → Bc
open _root_.Go.Proofs.Tryz renaming prog → AE,underlying120 → D3
open _root_.Go.Value renaming int → AW,ownBlock → CI,string → BK
open _root_.Go.World renaming ownsRow_nil → DR
def kJ(x:Lk):Int:=if x.un= -1 then fw else x.un - 1
noncomputable def xW(x:Lk):Int×Int×Bool:=
 if x.st then(x.fr,kJ x,true)else
  (if (bJ x.tr).2.2=true/\(bJ x.tr).1<=min (bJ x.tr).2.1 (kJ x)then((bJ x.tr).1,min (bJ x.tr).2.1 (kJ x),true)else(0,0,false))
noncomputable def fZ(R:Tr)(c:Nm)(a:Int):Int×Int×Bool:=match tAt R c a with | none=>(0,0,false) | some x=>xW x
abbrev abh(s:Int×Int×Bool):Value:=.tuple #[.int .i64 s.1,.int .i64 s.2.1,.bool s.2.2]
variable{w:World}{t m:Nat}{E:List Ch}{a:Int}
theorem q_SpanN{c:Nm}(h:TM w t m E)(hl:atE E c a=none):
  AH AE 43 #[ptB t,.string c,.int .i64 a] w λe w'=>e= .returned (.tuple #[.int .i64 0,.int .i64 0,.bool false])/\AG w.heap.size w w':=by
 have C:=oQ h c a;rw[hl]at C
 change AH _ _ _ _ (λe w'=>e= .returned (.pointer none)/\w'=_)at C
 clear h hl;go_enter Tryz.func43,Tryz.ntmps43
 go_wp2_with (go_at_call 90;refine C.mono ?_;rintro e w' ⟨rfl,G⟩;obtain rfl:=G.symm)
 go_ret3
 exact⟨rfl,AL _ _⟩
theorem q_SpanI{c:Nm}{l:Ln}(h:TM w t m E)(hE:TOk (trE E))(hl:atE E c a=some l):
  AH AE 43 #[ptB t,.string c,.int .i64 a] w λe w'=>e= .returned (abh (xW l.x))/\AG w.heap.size w w':=by
 have G:=oQ h c a;rw[hl]at G
 change AH _ _ _ _ (λe w'=>e= .returned (ptB l.b)/\w'=_)at G
 obtain⟨ch,Z,aa,hL⟩:=jB h hl;have am:=hE.good _ (cG.2 ⟨ch,(cF Z).1,l,aa,rfl⟩);have ad:=hE.tm _ (cG.2 ⟨ch,(cF Z).1,l,aa,rfl⟩);have C:=k_Span hL.trk (AI am.len th);have av:=hL.un;have ao:=hL.fr;have ac:=hL.st;have ap:=hL.tp;have aq: -1<=l.x.un/\l.x.un<=1099511627776:=by have:=ad.1;have:=ad.2.2;unfold fw at this;simp only at *;omega
 obtain⟨e,he⟩:∃e,e=kJ l.x:=⟨_,rfl⟩;obtain⟨s,hs⟩:∃s,s=bJ l.x.tr:=⟨_,rfl⟩;rw[<-hs]at C;have I:=AF (show xW l.x=if l.x.st then(l.x.fr,e,true)else(if s.2.2=true/\s.1<=min s.2.1 e then(s.1,min s.2.1 e,true)else(0,0,false))by rw[he,hs];rfl);unfold kJ at he;obtain⟨J,s2,U⟩:=s;simp only at C I;generalize xW l.x=S at *;clear h hl hL hE Z aa am ad hs;generalize l.b=lb at *;generalize l.g=lg at *;generalize l.x.fr=fr at *;generalize l.x.un=un at *;generalize l.x.st=st at *;have key:∀(an:Bool)(J s2:Int)(U:Bool),AH AE 100 (.pointer (some ⟨lg,0,none⟩)::[]).toArray w (λe w'=>e= .returned (.tuple #[.int .i64 J,.int .i64 s2,.bool U])/\AG w.heap.size w w')->w.cell? ⟨lb,4,none⟩=some (.bool an)->
   S=(if an then(fr,e,true)else(if U=true/\J<=min s2 e then(J,min s2 e,true)else(0,0,false)))->(un= -1->e=1099511627776)->(un≠ -1->e=un - 1)->AH AE 43 #[ptB t,.string c,.int .i64 a] w λe w'=>e= .returned (abh S)/\AG w.heap.size w w':=by
  clear C ac I J s2 U he st;intro st J s2 U C ac ak h1 h2;have I:=AF ak;clear ak;by_cases hu:un= -1
  ·obtain rfl:=h1 hu;subst hu;clear h1 h2
   cases st with
   | true=>
    go_enter Tryz.func43,Tryz.ntmps43
    go_wp2_with (go_at_call 90;refine G.mono ?_;rintro e w' ⟨rfl,H⟩;obtain rfl:=H.symm)
    go_ret3
    rw[I.out];exact⟨rfl,AL _ _⟩
   | false=>
    go_enter Tryz.func43,Tryz.ntmps43
    go_upto_region 11 with(first
     | (go_at_call 90;refine G.mono ?_;rintro e w' ⟨rfl,H⟩;obtain rfl:=H.symm)
     | (go_at_call 100;refine C.mono ?_;rintro e w2 ⟨rfl,k2⟩;have V:=AF k2;clear k2))
    clear G C;obtain⟨P,K⟩:∃P,min s2 1099511627776=P:=⟨_,rfl⟩;rw[K]at I⊢;clear K
    cases U with
    | false=>
     go_wp2;go_ret3
     rw[I.out];exact⟨rfl,V.out⟩
    | true=>
     by_cases hm:J<=P
     ·have ab:decide (P<J)=false:=decide_eq_false Aa;have Y:=AF hm;clear hm;go_wp2;go_ret3
      rw[I.out,if_neg Ag,if_pos (by simpa using Y.out)];exact⟨rfl,V.out⟩
     ·have ab:decide (P<J)=true:=decide_eq_true Aa;have Y:=AF hm;clear hm;go_wp2;go_ret3
      rw[I.out,if_neg Ag,if_neg (by have:=Y.out;simp;omega)];exact⟨rfl,V.out⟩
  ·obtain rfl:=h2 hu;have ar:(un== -1)=false:=beq_eq_false_iff_ne.2 hu;have au:Bd.wrap (un - 1)=un - 1:=by rw[BQ];omega
   clear h1 h2 hu
   cases st with
   | true=>
    go_enter Tryz.func43,Tryz.ntmps43
    go_wp2_with (go_at_call 90;refine G.mono ?_;rintro e w' ⟨rfl,H⟩;obtain rfl:=H.symm)
    go_ret3
    rw[I.out];exact⟨rfl,AL _ _⟩
   | false=>
    go_enter Tryz.func43,Tryz.ntmps43
    go_upto_region 11 with(first
     | (go_at_call 90;refine G.mono ?_;rintro e w' ⟨rfl,H⟩;obtain rfl:=H.symm)
     | (go_at_call 100;refine C.mono ?_;rintro e w2 ⟨rfl,k2⟩;have V:=AF k2;clear k2))
    clear G C;obtain⟨P,K⟩:∃P,min s2 (un - 1)=P:=⟨_,rfl⟩;rw[K]at I⊢;clear K
    cases U with
    | false=>
     go_wp2;go_ret3
     rw[I.out];exact⟨rfl,V.out⟩
    | true=>
     by_cases hm:J<=P
     ·have ab:decide (P<J)=false:=decide_eq_false Aa;have Y:=AF hm;clear hm;go_wp2;go_ret3
      rw[I.out,if_neg Ag,if_pos (by simpa using Y.out)];exact⟨rfl,V.out⟩
     ·have ab:decide (P<J)=true:=decide_eq_true Aa;have Y:=AF hm;clear hm;go_wp2;go_ret3
      rw[I.out,if_neg Ag,if_neg (by have:=Y.out;simp;omega)];exact⟨rfl,V.out⟩
 exact key st J s2 U C ac I.out (λh=>by rw[he,if_pos h]) (λh=>by rw[he,if_neg h])
theorem q_Span(h:TM w t m E)(C:TOk (trE E))(c:Nm)(a:Int):
  AH AE 43 #[ptB t,.string c,.int .i64 a] w λe w'=>e= .returned (abh (fZ (trE E) c a))/\AG w.heap.size w w':=by
 unfold fZ;rw[<-h.tAt]
 cases hl:atE E c a with
 | none=>exact q_SpanN h hl
 | some l=>exact q_SpanI h C hl
section
variable {w:World} {g:Nat} {sl:Value} {S:List St}
theorem aaf{P:Program}{fn:Func}{p q u:Tmp}{ty:TypeId}(h:fn.results=#[.cell p ty,.cell q ty,.tmp u])(tmps:Array Value)(w:World)(g f:Nat)(t t':TypeId)(cs ds:Array Value)(d:TypeDesc)
  (hp:tmps.getD p undef= .pointer (some ⟨g,0,none⟩))(C:tmps.getD q undef= .pointer (some ⟨f,0,none⟩))(I:w.heap[g]? =some (.cells cs t (0,0)))(hf:w.heap[f]? =some (.cells ds t' (0,0)))
  (H:P.underlying ty=some d)(G:(match d with | .struct _ | .array _ _=>true | _=>false)=true)(hi:(P.info? ty).map (·.size)=some cs.size)(J:(P.info? ty).map (·.size)=some ds.size):
  (results fn tmps).run P w= .ok (.tuple #[.agg cs,.agg ds,tmps.getD u undef]) w:=by
 have hp:tmps[p]?.getD undef= .pointer (some ⟨g,0,none⟩):=by simpa using hp
 have C:tmps[q]?.getD undef= .pointer (some ⟨f,0,none⟩):=by simpa using C
 simp only[results,h];simp[Sem.run_bind,Result.andThen,hp,C,asAddr,run_loadVar_row w g t ty cs _ d I H G hi,run_loadVar_row w f t' ty ds _ d hf H G J]
variable{c:Int}
theorem Road.bad{z y:St}(hr:Road S a z y c):c≠0->z=zst/\y=zst:=by
 cases hr<;>first | exact λ_=>Aj | exact λh=>absurd rfl h
theorem Road.idx{z y:St}(hr:Road S a z y c):c=0->S[plN S (a+1) - 1]? =some z/\S[plN S a]? =some y:=by
 cases hr with
 | Q f hf hb l hl hn ha y hy ey hp eq1=>exact λ_=>⟨by rw[eq1,Nat.add_sub_cancel];exact hy,hy⟩
 | M f hf hb l hl hn ha y hy ey hp h0 eq1 z hz=>exact λ_=>⟨by rw[eq1];exact hz,hy⟩
 | _=>intro h;cases h
theorem StL.mono{b o:Nat}{x:St}{W:World}(h:StL w b o x)(hb:AG w.heap.size w W):StL W b o x:=by
 obtain⟨h1,cs,h2,h3,h4⟩:=h;exact⟨h1.mono hb,cs,h2.mono hb,h3.mono hb,h4.mono hb⟩
theorem fA(w:World):aW w (zst.pose.cs.map Fq.raw) aC:=by
 obtain⟨cs,e,h⟩:=iS w;injection e with e;rw[show aC=cs by simpa using congrArg Array.toList e];exact h
set_option maxHeartbeats 1000000 in
theorem k_rAround(h:TrkS 185 w g sl S)(hS:GoodS S){z y:St}(aa:Road S a z y c):AH AE 168 #[ptG g,.int .i64 a] w λe w'=>∃v0 v1,e= .returned (.tuple #[v0,v1,.int .i64 c])/\zq w' v0 z/\zq w' v1 y/\AG w.heap.size w w':=by
 have hn:=hS.len;obtain⟨ad,c1,a0,g0⟩:=h.form;go_enter Tryz.func168,Tryz.ntmps168
 refine bW (n:=108) [(0,ptG g),(1,.int .i64 a)] λC=> ?_
 repeat first | refine AP ?_ | refine AY ?_
 refine bC ?_;refine vA C 22 λ{_ W4 B4 a1} H ao C=> ?_
 refine vA C 22 λ{_ W5 B5 a2} G ap C=> ?_
 refine sZ C ?_;intro _ C;have au:=G.bel;have ac:=H.bel.trans (G.bel.mono H.bel.size);have V:B5≠B4:=by have:=(A8.1 H.blk).1;have:=G.ge;omega
 have G:VB w W5 120 B5 a2:=⟨G.blk,ac,AI H.bel.size G.ge,G.nu⟩;have H:VB w W5 120 B4 a1:=H.next au;have hb:=AL W5.heap.size W5;have f0:=g0.mono ac;subst a0;rcases aa.at with⟨rfl,h0⟩ | ⟨f,l,h0,hf,hl,hr⟩
 ·obtain⟨rfl,rfl⟩:=aa.bad th;refine sX C ?_;intro _ C
  repeat first | refine AP ?_ | refine AY ?_
  refine bu C rfl ?_
  repeat first | refine AP ?_ | refine AY ?_
  refine bC ?_;refine wY C (.agg (AW .i64 zst.tm::aC).toArray) (by unfold aC;go_simp;try rfl) λC=> ?_
  refine wY C (.agg (AW .i64 zst.tm::aC).toArray) (by unfold aC;go_simp;try rfl) λC=> ?_
  refine vFS H ao (fA w) C λH u C=> ?_
  refine vFS (G.upd u V H) ap (fA w) C λG u C=> ?_
  refine sZ C ?_;intro _ C;refine Bk ?_
  repeat first | refine ck ?_ | refine cN ?_
  refine A6 (aaf rfl _ _ _ _ _ _ _ _ _ (C.getD (i:=4) rfl) (C.getD (i:=5) rfl) (H.upd u V.symm G).blk G.blk D3 rfl Ab Ab) C.df ?_;rw[C.getD (i:=6) rfl];exact⟨_,_,rfl,⟨_,rfl,fA _⟩,⟨_,rfl,fA _⟩,G.bel⟩
 ·obtain⟨b,o,c2,e,K⟩:=h.parts (ii hf);injection e with e1 e2 e3;subst e1;subst e3;clear e2;have Z:∀k x,S[k]? =some x->StL W5 b (o+k*22) x:=λk x hx=>(K k x hx).mono ac
  obtain⟨f1,_⟩:=Z _ f hf;obtain⟨f2,_⟩:=Z _ l hl;rcases hr with⟨rfl,hr⟩ | ⟨rfl,r1,r2,hp,hy,hr⟩
  ·obtain⟨rfl,rfl⟩:=aa.bad th;refine sX C ?_;intro _ C
   repeat first | refine AP ?_ | refine AY ?_
   refine aX C rfl (Bm ?_)
   repeat first | with_reducible refine thn ?_ | with_reducible refine ibn ?_
   refine fW (λa' w'=>False) ?_ (λa' w' Y=>Y.elim);refine fW (λa' w'=>Kn 108 [(4,.pointer (some ⟨B4,0,none⟩)),(5,.pointer (some ⟨B5,0,none⟩)),(44,.bool true)] a'/\AG W5.heap.size W5 w') ?_ (λa' w' Y=> ?_)
   ·rcases hr with hr | ⟨hr,a3⟩
    ·refine uX C ?_;intro _ C w' ab;exact⟨C.ct,Ao⟩
    ·refine uA C ?_;intro _ C;refine uN C ((S.length - 1:Nat)) λC=> ?_
     refine uZ C ?_;intro _ C w' ab;exact⟨C.ct,Ao⟩
   ·obtain⟨C,hb⟩:=Y;have H:=H.next hb;have G:=G.next hb
    repeat first | refine AP ?_ | refine AY ?_
    refine bu C rfl ?_
    repeat first | refine AP ?_ | refine AY ?_
    refine bC ?_;refine wY C (.agg (AW .i64 zst.tm::aC).toArray) (by unfold aC;go_simp;try rfl) λC=> ?_
    refine wY C (.agg (AW .i64 zst.tm::aC).toArray) (by unfold aC;go_simp;try rfl) λC=> ?_
    refine vFS H ao (fA w) C λH u C=> ?_
    refine vFS (G.upd u V H) ap (fA w) C λG u C=> ?_
    refine sZ C ?_;intro _ C;refine Bk ?_
    repeat first | refine ck ?_ | refine cN ?_
    refine A6 (aaf rfl _ _ _ _ _ _ _ _ _ (C.getD (i:=4) rfl) (C.getD (i:=5) rfl) (H.upd u V.symm G).blk G.blk D3 rfl Ab Ab) C.df ?_;rw[C.getD (i:=6) rfl];exact⟨_,_,rfl,⟨_,rfl,fA _⟩,⟨_,rfl,fA _⟩,G.bel⟩
  ·refine sX C ?_;intro _ C
   repeat first | refine AP ?_ | refine AY ?_
   refine aX C rfl (Bm ?_)
   repeat first | with_reducible refine thn ?_ | with_reducible refine ibn ?_
   refine uA C ?_;intro _ C;refine uN C ((S.length - 1:Nat)) λC=> ?_
   refine uZ C ?_;intro _ C w' ab
   repeat first | refine AP ?_ | refine AY ?_
   refine aX C rfl (Bm ?_)
   repeat first | with_reducible refine thn ?_ | with_reducible refine ibn ?_
   refine uA C ?_;intro _ C;refine uN C ((S.length - 1:Nat)) λC=> ?_
   refine uZ C ?_;intro _ C w' ab;clear hb;have hb:=ab;obtain⟨w6,ar⟩:∃w6,w6=w':=⟨_,rfl⟩;rw[<-ar]at hb⊢;have av:=f0;have C:=C.ct (l':=[(0,ptG g),(1,.int .i64 a),(4,.pointer (some ⟨B4,0,none⟩)),(5,.pointer (some ⟨B5,0,none⟩)),(7,.int .i64 0),(8,.int .i64 ((S.length - 1:Nat):Int))]);have hq:=gH S (a+1);have hq1:0<plN S (a+1):=by
    rcases Nat.eq_zero_or_pos (plN S (a+1))with e | e
    ·exact absurd (show f.tm<a+1 by omega) (jZ hS.sort Aa hf)
    ·exact e
   refine fW (λa' wr=>Kn 108 [(0,ptG g),(1,.int .i64 a),(4,.pointer (some ⟨B4,0,none⟩)),(5,.pointer (some ⟨B5,0,none⟩)),(7,.int .i64 ((plN S (a+1) - 1:Nat):Int)),(8,.int .i64 ((S.length - 1:Nat):Int))] a'/\wr=w6) ?_ (λa' wr Y=> ?_)
   ·refine sX C ?_;intro _ C;refine l9 (λa' wr=>∃k:Nat,Kn 108 [(0,ptG g),(1,.int .i64 a),(4,.pointer (some ⟨B4,0,none⟩)),(5,.pointer (some ⟨B5,0,none⟩)),(7,.int .i64 ((min k (plN S (a+1)) - 1:Nat):Int)),(8,.int .i64 ((S.length - 1:Nat):Int)),(9,.int .i64 (k:Int))] a'/\k<=S.length/\wr=w6) (λa' _=>S.length - (intOf (a'.tmps.getD 9 undef)).toNat) ⟨0,by rw[Nat.zero_min];exact C.ct,Bc _,rfl⟩ (λa' wr Y=> ?_);clear C;obtain⟨k,C,aq,rfl⟩:=Y;have am:(intOf (a'.tmps.getD 9 undef)).toNat=k:=by rw[C.getD (i:=9) rfl];simp[intOf]
    rw[am];rcases Nat.lt_or_eq_of_le aq with ak | rfl
    ·obtain⟨x,hx⟩:∃x,S[k]? =some x:=⟨_,AU ak⟩;obtain⟨f3,_⟩:=Z _ x hx;refine sX C ?_;intro _ C
     repeat first | refine AP ?_ | refine AY ?_
     refine bu C rfl (Bm ?_)
     repeat first | with_reducible refine thn ?_ | with_reducible refine ibn ?_
     by_cases hkp:k<plN S (a+1)
     ·obtain⟨x',I,an⟩:=eo hkp;rw[hx]at I;injection I with I;subst I;refine sX C ?_;intro _ C
      repeat first | refine AP ?_ | refine AY ?_
      refine bu C rfl ?_;refine sX C ?_;intro _ C;refine sA C ?_;intro _ C;refine vN C ((k+1:Nat)) λC=> ?_
      refine sD C ?_;intro _ C;refine wln ?_
      repeat first | with_reducible refine thn ?_ | with_reducible refine ibn ?_
      refine⟨⟨k+1,by rw[show min (k+1) (plN S (a+1)) - 1=k by omega];exact C.ct,ak,rfl⟩,?_⟩;rw[C.getD (i:=9) rfl];simp only[intOf];omega
     ·have an:=jZ hS.sort (DA hkp) hx;refine sX C ?_;intro _ C
      repeat first | refine AP ?_ | refine AY ?_
      refine aX C rfl (Bm ?_)
      repeat first | with_reducible refine thn ?_ | with_reducible refine ibn ?_
      refine sA C ?_;intro _ C;refine vN C ((k+1:Nat)) λC=> ?_
      refine sD C ?_;intro _ C;refine wln ?_
      repeat first | with_reducible refine thn ?_ | with_reducible refine ibn ?_
      refine⟨⟨k+1,by rw[show min (k+1) (plN S (a+1)) - 1=min k (plN S (a+1)) - 1 by omega];exact C.ct,ak,rfl⟩,?_⟩;rw[C.getD (i:=9) rfl];simp only[intOf];omega
    ·refine sX C ?_;intro _ C
     repeat first | refine AP ?_ | refine AY ?_
     refine aX C rfl ?_;refine wp_exit ?_
     repeat first | refine thx ?_ | refine ibx ?_
     rw[Nat.min_eq_right hq]at C;exact⟨C.ct,rfl⟩
   ·obtain⟨C,rfl⟩:=Y;clear ar;refine fW (λa' wq=>Kn 108 [(0,ptG g),(1,.int .i64 a),(4,.pointer (some ⟨B4,0,none⟩)),(5,.pointer (some ⟨B5,0,none⟩)),(7,.int .i64 ((plN S (a+1) - 1:Nat):Int)),(8,.int .i64 ((plN S a:Nat):Int))] a'/\wq=wr) ?_ (λa' wq Y=> ?_)
    ·refine sA C ?_;intro _ C;refine vN C ((S.length - 1:Nat)) λC=> ?_
     refine sZ C ?_;intro _ C;refine l9 (λa' wq=>∃m:Nat,Kn 108 [(0,ptG g),(1,.int .i64 a),(4,.pointer (some ⟨B4,0,none⟩)),(5,.pointer (some ⟨B5,0,none⟩)),(7,.int .i64 ((plN S (a+1) - 1:Nat):Int)),(8,.int .i64 ((max (plN S a) (min m (S.length - 1)):Nat):Int)),(10,.int .i64 ((m:Int) - 1))] a'/\m<=S.length/\wq=wr) (λa' _=>(intOf (a'.tmps.getD 10 undef)+1).toNat) ⟨S.length,by rw[show max (plN S a) (min S.length (S.length - 1))=S.length - 1 by omega,show(S.length:Int) - 1=((S.length - 1:Nat):Int)by omega];exact C.ct,AK _,rfl⟩ (λa' wq Y=> ?_);clear C;obtain⟨m,C,aq,rfl⟩:=Y;have am:(intOf (a'.tmps.getD 10 undef)+1).toNat=m:=by rw[C.getD (i:=10) rfl];simp[intOf]
     rw[am]
     cases m with
     | zero=>
      refine sX C ?_;intro _ C
      repeat first | refine AP ?_ | refine AY ?_
      refine aX C rfl ?_;refine wp_exit ?_
      repeat first | refine thx ?_ | refine ibx ?_
      rw[Nat.zero_min,Nat.max_zero]at C;exact⟨C.ct,rfl⟩
     | succ k=>
      rw[show(((k+1:Nat):Int)) - 1=(k:Int)by omega]at C;obtain⟨x,hx⟩:∃x,S[k]? =some x:=⟨_,AU Aa⟩;obtain⟨f3,_⟩:=Z _ x hx;refine sX C ?_;intro _ C
      repeat first | refine AP ?_ | refine AY ?_
      refine bu C rfl (Bm ?_)
      repeat first | with_reducible refine thn ?_ | with_reducible refine ibn ?_
      by_cases hkp:k<plN S a
      ·obtain⟨x',I,an⟩:=eo hkp;rw[hx]at I;injection I with I;subst I;refine sX C ?_;intro _ C
       repeat first | refine AP ?_ | refine AY ?_
       refine aX C rfl (Bm ?_)
       repeat first | with_reducible refine thn ?_ | with_reducible refine ibn ?_
       refine sA C ?_;intro _ C;refine vN C (((k:Int) - 1)) λC=> ?_
       refine sD C ?_;intro _ C;refine wln ?_
       repeat first | with_reducible refine thn ?_ | with_reducible refine ibn ?_
       refine⟨⟨k,by rw[show max (plN S a) (min k (S.length - 1))=max (plN S a) (min (k+1) (S.length - 1))by omega];exact C.ct,Aa,rfl⟩,?_⟩;rw[C.getD (i:=10) rfl];simp only[intOf];omega
      ·have an:=jZ hS.sort (DA hkp) hx;refine sX C ?_;intro _ C
       repeat first | refine AP ?_ | refine AY ?_
       refine bu C rfl ?_;refine sX C ?_;intro _ C;refine sA C ?_;intro _ C;refine vN C (((k:Int) - 1)) λC=> ?_
       refine sD C ?_;intro _ C;refine wln ?_
       repeat first | with_reducible refine thn ?_ | with_reducible refine ibn ?_
       refine⟨⟨k,by rw[show max (plN S a) (min k (S.length - 1))=k by omega];exact C.ct,Aa,rfl⟩,?_⟩;rw[C.getD (i:=10) rfl];simp only[intOf];omega
    ·obtain⟨C,rfl⟩:=Y;obtain⟨hz,hy⟩:=aa.idx rfl;obtain⟨_,cz,U,_,k3⟩:=K _ z hz;obtain⟨_,cy,P,_,k6⟩:=K _ y hy;have H:=H.next hb.drew;have G:=G.next hb.drew;clear f0 av f1 f2 Z K
     repeat first | refine AP ?_ | refine AY ?_
     refine EA (S:=λw'=>AG w.heap.size w w') Ab G.bel (λJ=> ?_);refine yK 0 C J λC=> ?_
     refine yK 1 C J λC=> ?_
     refine yK 2 C J λC=> ?_
     refine yK 3 C J λC=> ?_
     refine yK 4 C J λC=> ?_
     refine yK 5 C J λC=> ?_
     refine yK 6 C J λC=> ?_
     refine yK 7 C J λC=> ?_
     refine yK 8 C J λC=> ?_
     refine yK 9 C J λC=> ?_
     refine yK 10 C J λC=> ?_
     refine yK 11 C J λC=> ?_
     refine yK 12 C J λC=> ?_
     refine yK 13 C J λC=> ?_
     obtain⟨W7,ax,H,u⟩:=H.fill (cs:=.int .i64 z.tm::cz) (by rw[ao,Bz,aB U];rfl) (zW U) (rp U) (by rw[Bz,aB U];rfl);refine yW 14 C W7 (λe=>by cases e;exact tg C rfl rfl rfl ax) H.bel λC=> ?_
     obtain⟨W8,ay,G,u8⟩:=(G.upd u V H).fill (cs:=.int .i64 y.tm::cy) (by rw[ap,Bz,aB P];rfl) (zW P) (rp P) (by rw[Bz,aB P];rfl);refine yW 15 C W8 (λe=>by cases e;exact tg C rfl rfl rfl ay) G.bel λC=> ?_
     refine yV 16 C _ _ (λe=>by cases e;exact kR C rfl rfl) G.bel λC=>wpAnyH_done Ab ?_ _
     repeat first | with_reducible refine thn ?_ | with_reducible refine ibn ?_
     refine Bk ?_
     repeat first | refine ck ?_ | refine cN ?_
     refine A6 (aaf rfl _ _ _ _ _ _ _ _ _ (C.getD (i:=4) rfl) (C.getD (i:=5) rfl) (H.upd u8 V.symm G).blk G.blk D3 rfl (by rw[Cc,Bz,aB U];rfl) (by rw[Cc,Bz,aB P];rfl)) C.df ?_;rw[C.getD (i:=6) rfl];exact⟨_,_,rfl,⟨_,rfl,U.mono G.bel⟩,⟨_,rfl,P.mono G.bel⟩,G.bel⟩
end
section
variable {w:World} {g:Nat} {sl:Value} {S:List St}
theorem Road.two{z y:St}{c:Int}(hr:Road S a z y c)(C:GoodS S):c=0->GoodT z/\GoodT y/\(z=y\/z.tm<a/\a<y.tm/\¬opp z.pose y.pose):=by
 cases hr with
 | Q f hf hb l hl hn ha y hy ey hp eq1=>exact λ_=>⟨C.at hy,C.at hy,.inl rfl⟩
 | M f hf hb l hl hn ha y hy ey hp h0 eq1 z hz=>
  obtain⟨x,G,H⟩:=eo (S:=S) (a:=a) (k:=plN S a - 1) Aa;rw[hz]at G;injection G with G;subst G;exact λ_=>⟨C.at hz,C.at hy,.inr ⟨H,ey,C.adj _ z y hz (by rw[show plN S a - 1+1=plN S a by omega];exact hy)⟩⟩
 | _=>intro h;cases h
set_option maxHeartbeats 1000000 in
theorem k_rAt(h:TrkS 185 w g sl S)(hS:GoodS S){z y:St}{c:Int}(ar:Road S a z y c):AH AE 99 #[ptG g,.int .i64 a] w λe w'=>∃v,e= .returned (.tuple #[v,.int .i64 c])/\bh w' v (atP z y c a)/\AG w.heap.size w w':=by
 go_enter Tryz.func99,Tryz.ntmps99
 refine bW (n:=54) [(0,ptG g),(1,.int .i64 a)] λC=> ?_
 repeat first | refine AP ?_ | refine AY ?_
 refine bC ?_;refine vA C 21 λ{_ W0 B vs} V hz C=> ?_
 refine sZ C ?_;intro _ C;have hb:=AL W0.heap.size W0;refine sA C ?_;intro _ C;refine wC C (ai Tryz.func168 rfl rfl) (k_rAround (h.mono V.bel) hS ar) λ{e w1} hr=> ?_
 obtain⟨_,_,rfl,⟨cz,rfl,I⟩,⟨cy,rfl,ac⟩,ao⟩:=hr;refine⟨_,rfl,λ_ C=> ?_⟩;clear hb;refine sD C ?_;intro _ C;refine vA C 22 λ{_ W6 B6 a7} P a1 C=> ?_
 refine vA C 22 λ{_ W7 B7 a3} G a2 C=> ?_
 have an:=G.bel;have aq:B7≠B6:=by have:=(A8.1 P.blk).1;have:=G.ge;omega
 have G:VB w1 W7 120 B7 a3:=⟨G.blk,P.bel.trans (an.mono P.bel.size),AI P.bel.size G.ge,G.nu⟩;refine vFS (P.next an) a1 I C λP u C=> ?_
 refine vFS (G.upd u aq P) a2 ac C λ{_ W8} G u C=> ?_
 have P:=P.upd u aq.symm G;refine sZ C ?_;intro _ C;obtain⟨g1,g2,g3⟩:=P.st I;obtain⟨k1,k2,k3⟩:=G.st ac;have b8:=ao.trans (G.bel.mono ao.size);have hb:=AL W8.heap.size W8;by_cases hc:c=0
 ·subst hc;obtain⟨gz,gy,ay⟩:=ar.two hS rfl;have z0:=gz.lo;have z1:=gz.hi;have y0:=gy.lo;have y1:=gy.hi;rcases ay with rfl | ⟨a6,a5,a0⟩
  ·rw[show atP z z 0 a=z.pose by simp[atP]];refine sX C ?_;intro _ C
   repeat first | refine AP ?_ | refine AY ?_
   refine aX C rfl (Bm ?_)
   repeat first | with_reducible refine thn ?_ | with_reducible refine ibn ?_
   refine sX C ?_;intro _ C
   repeat first | refine AP ?_ | refine AY ?_
   refine bu C rfl ?_;refine sA C ?_;intro _ C;have V4:=V.next b8;refine vFR V4 (I.mono G.bel) hz C λV5 U C=> ?_
   refine sZ C ?_;intro _ C;refine Bk ?_
   repeat first | refine ck ?_ | refine cN ?_
   refine A6 (V5.ret (by rw[Cc,aB I];rfl) rfl _ (C.getD (i:=4) rfl)) C.df ?_;rw[C.getD (i:=5) rfl];exact⟨_,rfl,⟨cz,rfl,(I.mono G.bel).upd V4.own U⟩,V5.bel⟩
  ·refine sX C ?_;intro _ C
   repeat first | refine AP ?_ | refine AY ?_
   refine aX C rfl (Bm ?_)
   repeat first | with_reducible refine thn ?_ | with_reducible refine ibn ?_
   refine sX C ?_;intro _ C
   repeat first | refine AP ?_ | refine AY ?_
   refine aX C rfl (Bm ?_)
   repeat first | with_reducible refine thn ?_ | with_reducible refine ibn ?_
   refine sA C ?_;intro _ C;refine vN C ((a - z.tm)) λC=> ?_
   refine sD C ?_;intro _ C;refine vN C ((y.tm - z.tm)) λC=> ?_
   refine wC C (ai Tryz.func169 rfl rfl) (wK (a - z.tm) (y.tm - z.tm) W8 Aa Aa Aa Aa Aa) λ{e a9} hr=> ?_
   obtain⟨v,rfl,hq,Z⟩:=hr;obtain⟨cm,rfl,ap⟩:=aa8 hq;refine⟨_,rfl,λ_ C=> ?_⟩;clear hb;refine sD C ?_;intro _ C;refine vA C 3 λJ au C=> ?_
   refine vFR J ap au C λ{_ ab} J _ C=> ?_
   refine sZ C ?_;intro _ C;have Y:=Z.trans (J.bel.mono Z.size);have ak:=b8.trans (Y.mono b8.size);have g2:=g2.mono Y;have k2:=k2.mono Y;have f:=J.fr ap;have hb:=AL ab.heap.size ab;have am:=G.bel.trans (Y.mono G.bel.size);refine sA C ?_;intro _ C;refine wC C (ai Tryz.func170 rfl rfl) (xc _ _ _ z.pose y.pose (Fq.ratio (a - z.tm) (y.tm - z.tm)) ab ⟨cz,rfl,I.mono am⟩ ⟨cy,rfl,ac.mono am⟩ (hq.mono J.bel) (gz.ok.mono th) (gy.ok.mono th) ((fS Aa Aa Aa Aa Aa).mono th) gz.good gy.good (dk Aa) a0) λ{e bb} hr=> ?_
   obtain⟨_,rfl,⟨cr,rfl,H⟩,aa⟩:=hr;refine⟨_,rfl,λ_ C=> ?_⟩;clear hb;refine sD C ?_;intro _ C;refine vA C 21 λK av C=> ?_
   refine vFR K H av C λ{_ ad} K _ C=> ?_
   refine sZ C ?_;intro _ C;have a4:=K.fr H;have hb:=AL ad.heap.size ad;refine sA C ?_;intro _ C;have ax:=aa.trans (K.bel.mono aa.size);have V4:=V.next (ak.trans (ax.mono ak.size));have H:=H.mono K.bel;refine vFR V4 H hz C λV5 U C=> ?_
   refine sZ C ?_;intro _ C;refine Bk ?_
   repeat first | refine ck ?_ | refine cN ?_
   refine A6 (V5.ret (by rw[Cc,aB H];rfl) rfl _ (C.getD (i:=4) rfl)) C.df ?_;rw[C.getD (i:=5) rfl,show atP z y 0 a=_ from(if_neg Ag).trans (if_neg Aa)];exact⟨_,rfl,⟨cr,rfl,H.upd V4.own U⟩,V5.bel⟩
 ·rw[show atP z y c a=Pq.zero from if_pos hc];refine sX C ?_;intro _ C
  repeat first | refine AP ?_ | refine AY ?_
  refine bu C rfl ?_
  repeat first | refine AP ?_ | refine AY ?_
  refine bC ?_;refine wY C (.agg aC.toArray) (by unfold aC;go_simp;try rfl) λC=> ?_
  refine sD C ?_;intro _ C;refine vFR (V.next b8) (cs:=aC) (rs:=Pq.zero.cs.map Fq.raw) (fA w) hz C λV2 _ C=> ?_
  refine sZ C ?_;intro _ C;refine Bk ?_
  repeat first | refine ck ?_ | refine cN ?_
  refine A6 (V2.ret rfl rfl _ (C.getD (i:=4) rfl)) C.df ?_;rw[C.getD (i:=5) rfl];exact⟨_,rfl,iS _,V2.bel⟩
end
section
open Classical
variable{L:List Rl}
theorem PlS.tat{c:Nm}{i:Int}(h:PlS L c a i)(C:TOk (trR L)):(i= -1/\tAt (trR L) c a=none)\/∃(k:Nat)(l:Rl),i=(k:Int)/\L[k]? =some l/\l.c=c/\tAt (trR L) c a=some l.x:=by
 rcases h with⟨h1,h2⟩ | ⟨k,l,h1,h2,h3,h4⟩
 ·exact .inl ⟨h1,h2.tAt⟩
 ·exact .inr ⟨k,l,h1,h2,h3,h4.tAt (C.row c)⟩
theorem RM.pose{n V k:Nat}{l:Rl}{b:Nat}(h:RM w t (.slice (some ⟨b,0,none⟩) n V) L)(P:L[k]? =some l):
  ∃cs:List Value,cs.length=21/\w.rangeAt b (k*27+5) cs/\bh w (.agg cs.toArray) l.x.po:=by
 obtain⟨xs,⟨h1,_⟩,h3⟩:=h.row;have Z:=(A5.1 P).1;have aa:xs.length=L.length*27:=by rw[h3.1,pz]
 have hn:n=L.length:=by
  obtain⟨ad,c,e⟩:=h.form;injection e
 subst hn;have K:∀j,j<21->((xs.drop (k*27+5)).take 21)[j]? =xs[k*27+(5+j)]? :=λj G=>by rw[BP,if_pos G,List.getElem?_drop];congr 1;omega
 have C:((xs.drop (k*27+5)).take 21).length=21:=by rw[Bp,List.length_drop];omega
 refine⟨(xs.drop (k*27+5)).take 21,C,λj v G=> ?_,⟨_,rfl,nh (xs:=l.x.po.cs) C (λj q U=> ?_)⟩⟩
 ·have I:j<21:=by have:=(A5.1 G).1;omega
  rw[K j I]at G;obtain⟨g,H,Y⟩:=dD h1 G;injection H with H;injection H with H;subst H;rw[Nat.add_assoc];exact Y
 ·have G:j<21:=(A5.1 U).1;have J:l.qs[5+j]? =some q:=by
   show([.val (.string l.c),.val (.string l.x.par),.val (.int .i64 l.x.fr),.val (.int .i64 l.x.un),.val (.bool l.x.st)]++(frs l.x.po.cs++ [.val (ptB l.g)]):List Vp)[5+j]? =some q;rw[Bq Ag,Bw (by show 5+j - 5<21;omega)];rw[show 5+j - ([.val (.string l.c),.val (.string l.x.par),.val (.int .i64 l.x.fr),.val (.int .i64 l.x.un),.val (.bool l.x.st)]:List Vp).length=j from by show 5+j - 5=j;omega];exact U
  obtain⟨u,k1,k2,_⟩:=h3.2 (k*27+(5+j)) q (by rw[uW P Aa];exact J);exact⟨u,by rw[K j G];exact k1,k2⟩
set_option maxHeartbeats 2000000 in
theorem q_EdgeR{v:Value}(h:RM w t v L)(hR:TOk (trR L))(c:Nm)(a:Int)(hn:L.length<=1000000):
  AH AE 42 #[ptB t,.string c,.int .i64 a] w λe w'=>∃v,e= .returned (.tuple #[v,.int .i64 (dA (trR L) c a).2])/\bh w' v (dA (trR L) c a).1/\AG w.heap.size w w':=by
 have an:=PB.new w;have ao:=ij (h.below an.bel) c a hn;have aa:=AF an;have HM:=AF (show∀wq,AG w.heap.size w wq->RM wq t v L from λwq k=>h.below k);have HR:=AF hR;obtain⟨ad,cp,hv⟩:=h.form;obtain⟨n,hN⟩:∃n,n=L.length:=⟨_,rfl⟩;have HN:=AF hN;rw[<-hN]at hv hn;subst hv;have a7:(n:Int)<=1000000:=Aa
 obtain⟨W,hW⟩:∃W,w.alloc (.cells aC.toArray 39)=W:=⟨_,rfl⟩;rw[hW]at ao aa;clear h hN hn hR an;go_enter Tryz.func42,Tryz.ntmps42
 go_upto_region 0 with(fail)
 refine CC ?_;refine aD rfl (v:=.pointer (some ⟨w.heap.size,0,none⟩)) (w':=W) (by subst hW;go_simp;try rfl) ?_;obtain⟨B,hB⟩:∃B,w.heap.size=B:=⟨_,rfl⟩;rw[hB]at aa⊢;clear hW hB;go_upto_if 14 with(go_at_call 96;refine ao.mono ?_;rintro e w1 ⟨i,rfl,hi,hb⟩;have HP:=AF (hi.tat HR.out);have V:=AF (aa.out.next hb);clear ao hi hb)
 rcases HP.out with⟨hi,hp⟩ | ⟨k,l,hi,C,hc,hp⟩
 ·subst hi;have HE:=AF (show dA (trR L) c a=(Pq.zero,18)by unfold dA;rw[hp]);clear hp;go_upto_region 3 with(fail)
  refine CC ?_;refine aD rfl (v:=.agg aC.toArray) (w':=w1) (by unfold aC;go_simp;try rfl) ?_;refine wpList_store_mid rfl _ _ _ rfl B 0 aC.toArray rfl rfl V.out.there Ab Ab ?_;have ar:=AF (V.out.put (us:=aC) rfl V.out.nu);generalize w1.setCells B 0 aC.toArray.toList=W2 at *;go_wp2;refine A6 (ar.out.ret rfl _ rfl) rfl ?_;rw[HE.out];exact⟨_,rfl,iS _,ar.out.bel⟩
 ·subst hi;have av:=(A5.1 C).1;have a6:(k:Int)<(n:Int):=by rw[HN.out];omega
  have q0:decide ((k:Int)<0)=false:=decide_eq_false Aa;have I:=HM.out w1 V.out.bel;have a5:=I.cell;obtain⟨b,c2,cs,e,A⟩:=I.at C;injection e with Y e2 e3;subst Y;subst e3;clear e2;have fst:=A.st;have au:=A.tp
  cases hs:l.x.st with
  | true=>
   rw[hs]at fst;have HE:=AF (show dA (trR L) c a=(l.x.po,0)by unfold dA;rw[hp];simp only[hs];rfl);obtain⟨us,G,ax,am⟩:=I.pose C;obtain⟨aq,e',K,P⟩:∃aq:List Value,us=aq/\us.toArray.all (·.oneCell')=true/\∀u∈us,noU u:=by
    obtain⟨a4,Y,_,h3,h4⟩:=tB am;have Y:us=a4:=by injection Y with Y;simpa using Y
    exact⟨us,rfl,by rw[Y];exact h3,by rw[Y];exact h4⟩
   clear e' aq;have ay:=AF ax;have J:=AF (V.out.put (us:=us) G P);have HV:=AF (V.out.keep (us:=us) am);have a0:=AF (show(AE.info? 39).map (·.size)=some us.length by rw[G];kernel_rfl);have H:=V.out.there;rw[<-G]at H;have a1:=AF H;have a3:=AF G;have a2:=AF K;clear A I C av hc hp hs ax am P H G K au;go_upto_region 5 with(fail)
   refine bW (n:=44) [(0,ptB t),(2,.int .i64 a),(6,ptB B),(8,.int .i64 (k:Int))] λC=> ?_
   refine bC ?_
   repeat refine wS C λC=> ?_
   refine wF C (ptB t) λC=> ?_
   refine wL C (.slice (some ⟨b,0,none⟩) n cp) λC=> ?_
   repeat refine wS C λC=> ?_
   refine wI C (.pointer (some ⟨b,k*27,none⟩)) λC=> ?_
   refine wF C (.pointer (some ⟨b,k*27+5,none⟩)) λC=> ?_
   refine wL C (.agg us.toArray) (hr:=Dv _ _ _ _ us _ ay.out Tryz.underlying39 rfl a0.out) λC=> ?_
   refine wT C (w1.setCells B 0 us) (hr:=Dw _ _ _ _ us.toArray (by simpa using a1.out) (eG a3.out) a2.out) λC=> ?_
   repeat refine wS C λC=> ?_
   generalize ab:w1.setCells B 0 us=W2 at *;clear ab;go_wp2;refine A6 (J.out.ret rfl _ (C.getD rfl)) C.df ?_;rw[HE.out,C.getD (i:=7) rfl];exact⟨_,rfl,HV.out,J.out.bel⟩
  | false=>
   rw[hs]at fst;have ak:=HR.out.good _ (Bb (fY C));obtain⟨z,y,cc,Z⟩:=road ak a;have HE:=AF (show dA (trR L) c a=(atP z y cc a,cc)by unfold dA;rw[hp];simp only[hs];exact Z.trkP);have ac:=k_rAt (I.trk l (Bb C)) ak Z
   change AH AE 99 #[ptB l.g,.int .i64 a] w1 _ at ac
   clear A I C av hc hp hs ak Z;generalize l.g=lg at *;generalize atP z y cc a=po at *;go_upto_region 6 with(fail)
   refine bW (n:=44) [(0,ptB t),(2,.int .i64 a),(6,ptB B),(8,.int .i64 (k:Int))] λC=> ?_
   refine bC ?_
   repeat refine wS C λC=> ?_
   refine wF C (ptB t) λC=> ?_
   refine wL C (.slice (some ⟨b,0,none⟩) n cp) λC=> ?_
   repeat refine wS C λC=> ?_
   refine wI C (.pointer (some ⟨b,k*27,none⟩)) λC=> ?_
   refine wF C (.pointer (some ⟨b,k*27+26,none⟩)) λC=> ?_
   refine wL C (ptB lg) λC=> ?_
   repeat refine wS C λC=> ?_
   refine wC C (ai Tryz.func99 rfl rfl) (ac) λ{e w4} Z=> ?_
   obtain⟨v,rfl,ap,k4⟩:=Z;obtain⟨us,rfl,G,K,P⟩:=tB ap;have U:=V.out.next k4;have J:=AF (U.put (us:=us) G P);have HV:=AF (U.keep (us:=us) ap);have H:=U.there;rw[<-G]at H;refine⟨_,rfl,λ_ C=> ?_⟩;clear ap k4 ac fst au a5
   repeat refine wS C λC=> ?_
   refine wT C (w4.setCells B 0 us) (hr:=Dw _ _ _ _ us.toArray (by simpa using H) (eG G) K) λC=> ?_
   repeat refine wS C λC=> ?_
   generalize ab:w4.setCells B 0 us=W2 at *;clear ab U H K P;go_wp2;refine A6 (J.out.ret rfl _ (C.getD rfl)) C.df ?_;rw[HE.out,C.getD (i:=7) rfl];exact⟨_,rfl,HV.out,J.out.bel⟩
end
section
open Classical
def rG:List Value:=[.string ES,.string ES,.int .i64 0,.int .i64 0,.bool false]++(aC++ [.pointer none])
theorem spanS_le{S:List St}(h:GoodS S):(bJ S).2.1<=fw:=by
 unfold bJ;split
 ·rename_i f l h1 h2;exact(h.at h2).hi
 ·decide
theorem link_var{b o:Nat}{l:Rl}{cs:List Value}(A:LkAt w b o l cs):∃W,(w.alloc (.cells rG.toArray rlT)).setCells w.heap.size 0 cs=W/\AG w.heap.size w W/\W.cell? ⟨w.heap.size,2,none⟩=some (.int .i64 l.x.fr)/\W.cell? ⟨w.heap.size,3,none⟩=some (.int .i64 l.x.un)/\W.cell? ⟨w.heap.size,4,none⟩=some (.bool l.x.st)/\W.cell? ⟨w.heap.size,26,none⟩=some (ptB l.g):=by
 have hz:(w.alloc (.cells rG.toArray rlT)).heap[w.heap.size]? =some (.cells rG.toArray rlT (0,0)):=BE w _;have hc:=dH cs _ w.heap.size 0 _ _ hz;rw[iT (by rw[A.len];rfl)]at hc;have C:∀j,((w.alloc (.cells rG.toArray rlT)).setCells w.heap.size 0 cs).cell? ⟨w.heap.size,j,none⟩=cs[j]? :=λj=>by rw[aE hc];simp
 have G:∀(j:Nat)(v:Value),j<27->w.cell? ⟨b,o*27+j,none⟩=some v->cs[j]? =some v:=λj v I hv=>by
  obtain⟨u,H⟩:∃u,cs[j]? =some u:=⟨_,AU (by rw[A.len];exact I)⟩;have:=A.rg j u H;rw[hv]at this;rw[H];exact this.symm
 refine⟨_,rfl,bQ cs 0 _ ((AL _ _).alloc (AK _) _) (AK _),?_,?_,?_,?_⟩
 ·rw[C];exact A.k2
 ·rw[C];exact A.k3
 ·rw[C];exact G 4 _ th A.st
 ·rw[C];exact G 26 _ th A.tp
set_option maxHeartbeats 2000000 in
theorem q_SpanR{v:Value}{L:List Rl}(h:RM w t v L)(hR:TOk (trR L))(c:Nm)(a:Int)(hn:L.length<=1000000):
  AH AE 44 #[ptB t,.string c,.int .i64 a] w λe w'=>e= .returned (abh (fZ (trR L) c a))/\AG w.heap.size w w':=by
 have ay:=ij h c a hn;have HM:=AF (show∀wq,AG w.heap.size w wq->RM wq t v L from λwq k=>h.below k);have HR:=AF hR;obtain⟨ad,cp,hv⟩:=h.form;obtain⟨n,hN⟩:∃n,n=L.length:=⟨_,rfl⟩;have HN:=AF hN;rw[<-hN]at hv hn;subst hv;have be:(n:Int)<=1000000:=Aa
 clear h hN hn hR;go_enter Tryz.func44,Tryz.ntmps44
 go_upto_if 19 with(go_at_call 96;refine ay.mono ?_;rintro e w1 ⟨i,rfl,hi,hb⟩;have HP:=AF (hi.tat HR.out);have HB:=AF hb;clear ay hi hb)
 rcases HP.out with⟨hi,hp⟩ | ⟨k,l,hi,C,hc,hp⟩
 ·subst hi;have HE:=AF (show fZ (trR L) c a=(0,0,false)by unfold fZ;rw[hp]);clear hp;go_wp2;go_ret3
  rw[HE.out];exact⟨rfl,HB.out⟩
 ·subst hi;have a4:=(A5.1 C).1;have a3:(k:Int)<(n:Int):=by rw[HN.out];omega
  have q0:decide ((k:Int)<0)=false:=decide_eq_false Aa;have P:=HM.out w1 HB.out;have a2:=P.cell;obtain⟨b,c2,cs,e,A⟩:=P.at C;injection e with e1 e2 e3;subst e1;subst e3;clear e2;have ak:=HR.out.good _ (Bb (fY C));have an:=HR.out.tm _ (Bb (fY C));obtain⟨W,hW,ac,f2,f3,f4,f6⟩:=link_var A;have I:=k_rSpan ((P.below ac).trk l (Bb C)) (AI ak.len th);have bi: -1<=l.x.un/\l.x.un<=1099511627776:=by have:=an.1;have:=an.2.2;unfold fw at this;simp only at *;omega
  have am:=spanS_le ak;obtain⟨e,K⟩:∃e,e=kJ l.x:=⟨_,rfl⟩;obtain⟨s,hs⟩:∃s,s=bJ l.x.tr:=⟨_,rfl⟩;rw[<-hs]at I am;have HS:=AF (show fZ (trR L) c a=if l.x.st then(l.x.fr,e,true)else(if s.2.2=true/\s.1<=min s.2.1 e then(s.1,min s.2.1 e,true)else(0,0,false))by unfold fZ;rw[hp,K,hs];rfl);unfold kJ at K;obtain⟨s1,s2,s3⟩:=s;simp only at I HS am;have ap:=AF A.rg;have ab:=AF (eE A.len);have ao:=AF (show cs.toArray.all (·.oneCell')=true from EC (λu U=>ft (A.qs.flat u U)));have a1:=AF A.len;have G:=AF (HB.out.trans (ac.mono HB.out.size));have au:=BE w1 (.cells rG.toArray rlT);have aq:=AF (show(w1.alloc (.cells rG.toArray rlT)).there w1.heap.size 0 cs.toArray.size by
   have:=ie au;rwa [show(rG.toArray.size:Nat)=cs.toArray.size by rw[Cc,Cc,A.len];rfl]at this)
  have Y:=AF (show(AE.info? rlT).map (·.size)=some cs.toArray.size by rw[Cc];exact ab.out);have ar:=AF hW
  change AH AE 101 #[ptB l.g] W _ at I
  clear A P C a4 hc hp ak an hs ac au hW;go_upto_region 4 with(fail)
  rename_i K2 H;refine bW (n:=68) [(0,ptB t),(9,.int .i64 (k:Int))] λC=> ?_
  refine bC ?_
  repeat refine wS C λC=> ?_
  refine wF C (ptB t) λC=> ?_
  refine wL C (.slice (some ⟨b,0,none⟩) n cp) λC=> ?_
  repeat refine wS C λC=> ?_
  refine wI C (.pointer (some ⟨b,k*27,none⟩)) λC=> ?_
  refine wL C (.agg cs.toArray) (hr:=Dv _ _ _ _ cs _ ap.out Tryz.underlying162 rfl ab.out) λC=> ?_
  refine wW C (.pointer (some ⟨w1.heap.size,0,none⟩)) (w1.alloc (.cells rG.toArray rlT)) (tj rfl (by go_simp;try rfl)) λC=> ?_
  refine wT C (W) (hr:=by rw[<-ar.out];exact Dw _ _ _ _ cs.toArray aq.out Y.out ao.out) λC=> ?_
  refine H _ _ ?_;generalize w1.heap.size=B at *;generalize l.x.fr=fr at *;generalize l.x.un=un at *;generalize l.x.st=st at *;generalize l.g=lg at *;clear a2 q0 a3 aq Y ao ar ap ab a1 H K2;refine AP ?_;refine aO ?_;refine wF C (.pointer (some ⟨B,4,none⟩)) λC=> ?_
  refine wL C (.bool st) λC=> ?_
  refine wle ?_
  cases st with
  | true=>
   refine bu C rfl ?_;refine AP ?_;refine aO ?_;refine wF C (.pointer (some ⟨B,3,none⟩)) λC=> ?_
   refine wL C (.int .i64 un) λC=> ?_
   by_cases U:un= -1
   ·subst U;rw[if_pos rfl]at K;subst K;refine wB C (.bool true) λC=> ?_
    refine wle ?_;refine bu C rfl ?_;refine aO ?_;refine wF C (.pointer (some ⟨B,2,none⟩)) λC=> ?_
    refine wL C (.int .i64 fr) λC=> ?_
    repeat refine wS C λC=> ?_
    refine wle ?_;refine Bk ?_
    repeat refine ck ?_
    refine A6 (CP rfl _ _ _) C.df ?_;rw[C.getD (i:=6) rfl,C.getD (i:=7) rfl,C.getD (i:=8) rfl,HS.out];exact⟨rfl,G.out⟩
   ·have a7:(un== -1)=false:=beq_eq_false_iff_ne.2 U;have a9:Bd.wrap (un - 1)=un - 1:=by rw[BQ];omega
    rw[if_neg U]at K;subst K;have a0:=AF (show AG w.heap.size w W.drew from G.out.drew);refine wB C (.bool false) λC=> ?_
    refine wle ?_;refine aX C rfl (Bm (thn ?_));refine AP ?_;refine EA (S:=λw'=>w'.cell? ⟨B,2,none⟩=some (.int .i64 fr)/\w'.cell? ⟨B,3,none⟩=some (.int .i64 un)) Ab ⟨f2,f3⟩ (λZ=> ?_);refine bD (i:=0) (v:=.pointer (some ⟨B,2,none⟩)) C rfl Ab Ab Ab rfl th (λc a a' w e h=>⟨e.trans h.1,h.2⟩) rfl (λa w C V=>xO C rfl rfl Am) Z (λ_ C=> ?_);refine bD (i:=1) (v:=.int .i64 fr) C rfl Ab Ab Ab rfl th (λc a a' w e h=>⟨e.trans h.1,h.2⟩) rfl (λa w C V=>jG C rfl rfl (by have:=V.1;go_simp)) Z (λ_ C=> ?_);refine bD (i:=2) (v:=.pointer (some ⟨B,3,none⟩)) C rfl Ab Ab Ab rfl th (λc a a' w e h=>⟨e.trans h.1,h.2⟩) rfl (λa w C V=>xO C rfl rfl Am) Z (λ_ C=> ?_);refine bD (i:=3) (v:=.int .i64 un) C rfl Ab Ab Ab rfl th (λc a a' w e h=>⟨e.trans h.1,h.2⟩) rfl (λa w C V=>jG C rfl rfl (by have:=V.2;go_simp)) Z (λ_ C=> ?_);refine bD (i:=4) (v:=.int .i64 (un - 1)) C rfl Ab Ab Ab rfl th (λc a a' w e h=>⟨e.trans h.1,h.2⟩) rfl (λa w C V=>xM C rfl rfl rfl Am) Z (λ_ C=> ?_);refine bD (i:=5) (v:=.int .i64 fr) C rfl Ab Ab Ab rfl th (λc a a' w e h=>⟨e.trans h.1,h.2⟩) rfl (λa w C V=>kR C rfl rfl) Z (λ_ C=> ?_);refine bD (i:=6) (v:=.int .i64 (un - 1)) C rfl Ab Ab Ab rfl th (λc a a' w e h=>⟨e.trans h.1,h.2⟩) rfl (λa w C V=>kR C rfl rfl) Z (λ_ C=> ?_);refine bD (i:=7) (v:=.bool true) C rfl Ab Ab Ab rfl th (λc a a' w e h=>⟨e.trans h.1,h.2⟩) rfl (λa w C V=>kR C rfl rfl) Z (λ_ C=> ?_);refine wpAnyH_done Ab (thn ?_) _;refine Bk ?_
    repeat refine ck ?_
    refine A6 (CP rfl _ _ _) C.df ?_;rw[C.getD (i:=6) rfl,C.getD (i:=7) rfl,C.getD (i:=8) rfl,HS.out];exact⟨rfl,a0.out⟩
  | false=>
   refine aX C rfl (Bm (thn ?_));refine aO ?_;refine wF C (.pointer (some ⟨B,26,none⟩)) λC=> ?_
   refine wL C (ptB lg) λC=> ?_
   refine wC C (ai Tryz.func101 rfl rfl) (I) λ{e w2} hr=> ?_
   obtain⟨rfl,k2⟩:=hr;have aa:=AF (G.out.trans (k2.mono G.out.size));have bb:w2.cell? ⟨B,3,none⟩=some (.int .i64 un):=by rw[k2.cell (p:=⟨B,3,none⟩) (World.block_lt_of_cell? W _ f3)];exact f3
   clear k2 I f2 f3 f4 f6 G;refine⟨_,rfl,λ_ C=> ?_⟩
   repeat refine wS C λC=> ?_
   refine wle ?_;obtain⟨J,ax⟩:∃J,min s2 e=J:=⟨_,rfl⟩;rw[ax]at HS;refine wp_seq_k (λK3 av=> ?_);have HJ:∀a,Kn 68 [(10,.pointer (some ⟨B,0,none⟩)),(11,.int .i64 s1),(12,.int .i64 J),(13,.bool s3)] a->K3 a w2:=λ_ C=>by
    refine av _ _ ?_;clear av;refine AP ?_;refine aO ?_
    repeat refine wS C λC=> ?_
    cases s3 with
    | false=>
     repeat refine wZ C λC=> ?_
     repeat refine wS C λC=> ?_
     refine wle ?_;refine bu C rfl ?_;refine aO ?_
     repeat refine wS C λC=> ?_
     refine wle ?_;refine Bk ?_
     repeat refine ck ?_
     refine A6 (CP rfl _ _ _) C.df ?_;rw[C.getD (i:=6) rfl,C.getD (i:=7) rfl,C.getD (i:=8) rfl,HS.out];exact⟨rfl,aa.out⟩
    | true=>
     repeat refine wS C λC=> ?_
     by_cases hm:s1<=J
     ·have a6:decide (J<s1)=false:=decide_eq_false Aa;refine wB C (.bool false) λC=> ?_
      repeat refine wS C λC=> ?_
      refine wle ?_;refine aX C rfl (Bm (thn ?_));refine aO ?_
      repeat refine wS C λC=> ?_
      refine wle ?_;refine Bk ?_
      repeat refine ck ?_
      refine A6 (CP rfl _ _ _) C.df ?_;rw[C.getD (i:=6) rfl,C.getD (i:=7) rfl,C.getD (i:=8) rfl,HS.out,if_neg Ag,if_pos (by simpa using hm)];exact⟨rfl,aa.out⟩
     ·have a6:decide (J<s1)=true:=decide_eq_true Aa;refine wB C (.bool true) λC=> ?_
      repeat refine wS C λC=> ?_
      refine wle ?_;refine bu C rfl ?_;refine aO ?_
      repeat refine wS C λC=> ?_
      refine wle ?_;refine Bk ?_
      repeat refine ck ?_
      refine A6 (CP rfl _ _ _) C.df ?_;rw[C.getD (i:=6) rfl,C.getD (i:=7) rfl,C.getD (i:=8) rfl,HS.out,if_neg Ag,if_neg (by simp;omega)];exact⟨rfl,aa.out⟩
   refine aO ?_;refine wF C (.pointer (some ⟨B,3,none⟩)) λC=> ?_
   refine wL C (.int .i64 un) λC=> ?_
   by_cases U:un= -1
   ·subst U;rw[if_pos rfl]at K;obtain rfl:J=s2:=by rw[<-ax,K];exact Int.min_eq_left am
    refine wB C (.bool false) λC=> ?_
    repeat first | refine wS C λC=> ?_ | refine wZ C λC=> ?_
    refine wle ?_;refine aX C rfl (Bm (thn ?_));exact HJ _ (C.ct)
   ·have a7:(un== -1)=false:=beq_eq_false_iff_ne.2 U;have a9:Bd.wrap (un - 1)=un - 1:=by rw[BQ];omega
    rw[if_neg U]at K;refine wB C (.bool true) λC=> ?_
    repeat refine wS C λC=> ?_
    refine wF C (.pointer (some ⟨B,3,none⟩)) λC=> ?_
    refine wL C (.int .i64 un) λC=> ?_
    refine wB C (.int .i64 (un - 1)) λC=> ?_
    by_cases hl:un - 1<s2
    ·obtain rfl:J=un - 1:=Aa
     have a5:decide (un - 1<s2)=true:=decide_eq_true hl;refine wB C (.bool true) λC=> ?_
     repeat refine wS C λC=> ?_
     refine wle ?_;refine bu C rfl ?_;refine bC ?_;refine wF C (.pointer (some ⟨B,3,none⟩)) λC=> ?_
     refine wL C (.int .i64 un) λC=> ?_
     refine wB C (.int .i64 (un - 1)) λC=> ?_
     repeat refine wS C λC=> ?_
     exact HJ _ (C.ct)
    ·obtain rfl:J=s2:=Aa
     have a5:decide (un - 1<J)=false:=decide_eq_false hl;refine wB C (.bool false) λC=> ?_
     repeat refine wS C λC=> ?_
     refine wle ?_;refine aX C rfl (Bm (thn ?_));exact HJ _ (C.ct)
end
section
open Classical
def KLt(p q:Nm×Lk):Prop:=eF p.1 q.1\/(p.1=q.1/\p.2.fr<q.2.fr)
variable{p q:Nm×Lk}
theorem KLt.trans{r:Nm×Lk}(h:KLt p q)(k:KLt q r):KLt p r:=by
 rcases h with h | ⟨e,h⟩<;>rcases k with k | ⟨e',k⟩
 ·exact .inl (List.lt_trans h k)
 ·exact .inl (by rw[<-e'];exact h)
 ·exact .inl (by rw[e];exact k)
 ·exact .inr ⟨e.trans e',Aa⟩
theorem KLt.irr:¬KLt p p:=λh=>h.elim (List.lt_irrefl _) (λh=>by have:=h.2;omega)
theorem klt_or(h:¬(p.1=q.1/\p.2.fr=q.2.fr))(k:¬KLt p q):KLt q p:=by
 by_cases e:p.1=q.1
 ·exact .inr ⟨e.symm,by
   have h1:¬p.2.fr<q.2.fr:=λC=>k (.inr ⟨e,C⟩)
   have h2:p.2.fr≠q.2.fr:=λC=>h ⟨e,C⟩
   omega⟩
 ·exact .inl (ve e (λC=>k (.inl C)))
structure LkC(q:Nm×Lk)(cs:List Value):Prop where
 len:cs.length=27
 fl:∀u∈cs,eO u
 c0:cs[0]? =some (.string q.1)
 c1:cs[1]? =some (.string q.2.par)
 c2:cs[2]? =some (.int .i64 q.2.fr)
 c3:cs[3]? =some (.int .i64 q.2.un)
variable{cs:List Value}
theorem LkC.one(h:LkC q cs):cs.toArray.all (·.oneCell')=true:=EC (λu C=>ft (h.fl u C))
theorem LkC.nu(h:LkC q cs):∀u∈cs,noU u:=λu C=>(h.fl u C).2.2
theorem LkAt.kc{b o:Nat}{l:Rl}(A:LkAt w b o l cs):LkC (l.c,l.x) cs:=by
 have C:∀(j:Nat)(v:Value),j<27->w.cell? ⟨b,o*27+j,none⟩=some v->cs[j]? =some v:=λj v H hv=>by
  obtain⟨u,G⟩:∃u,cs[j]? =some u:=⟨_,AU (by rw[A.len];exact H)⟩;have:=A.rg j u G;rw[hv]at this;rw[G];exact this.symm
 exact⟨A.len,A.qs.flat,C 0 _ th A.c,C 1 _ th A.par,A.k2,A.k3⟩
abbrev Mk:=(Nm×Lk)×List Value
theorem aag:∀ {M:List Mk} {k j:Nat} {m:Mk},(∀m∈M,LkC m.1 m.2)->M[k]? =some m->j<27->(M.flatMap (·.2))[k*27+j]? =m.2[j]?
 | [],_,_,_,_,h,_=>by cases h
 | m'::M,0,j,m,hM,h,hj=>by
  injection h with h;subst h;rw[Cq,Nat.zero_mul,Bh,Bw (by rw[(hM _ (Bj ..)).len];exact hj)]
 | m'::M,k+1,j,m,hM,h,hj=>by
  have h1:=(hM m' (Bj ..)).len;rw[Cq,Bq Aa,h1,show(k+1)*27+j - 27=k*27+j by omega];exact aag (λm C=>hM m (Bg _ C)) h hj
theorem rH:∀ {M:List Mk},(∀m∈M,LkC m.1 m.2)->(M.flatMap (·.2)).length=M.length*27
 | [],_=>rfl
 | m::M,hM=>by
  rw[Cq,By,(hM m (Bj ..)).len,rH (λm C=>hM m (Bg _ C)),Bz];omega
structure LRow(w:World)(v:Value)(M:List Mk):Prop where
 own:aY w rlT 27 v M.length (M.flatMap (·.2))
 kc:∀m∈M,LkC m.1 m.2
section
variable {w w':World} {v:Value} {M:List Mk} {m:Mk} {ad:Option Addr} {g n cp k:Nat}
theorem LRow.nil(w:World):LRow w (.slice none 0 0) []:=⟨⟨DR _ _ _ _,λg C=>by cases C⟩,λm G=>by cases G⟩
theorem LRow.form(h:LRow w v M):∃ad cp,v= .slice ad M.length cp:=dW h.own.1
theorem LRow.num(h:LRow w (.slice ad n cp) M):n=M.length:=by
 obtain⟨_,_,e⟩:=h.form;injection e
theorem LRow.at(h:LRow w (.slice ad n cp) M)(G:M[k]? =some m):∃g,ad=some ⟨g,0,none⟩/\w.rangeAt g (k*27) m.2:=by
 obtain rfl:=h.num;have I:=h.kc m (Bb G);obtain⟨g,e,_⟩:=dD h.own.1 (by rw[aag (j:=0) h.kc G th];exact I.c0);refine⟨g,e,λj u H=> ?_⟩;have C:j<27:=by have:=(A5.1 H).1;rw[I.len]at this;exact this
 obtain⟨J,e',h2⟩:=dD h.own.1 (by rw[aag h.kc G C];exact H);rw[e]at e';injection e' with e';injection e' with e';subst e';exact h2
theorem LRow.keep(h:LRow w v M)(k:∀g,v.ownBlock=some g->w'.heap[g]? =w.heap[g]?):LRow w' v M:=⟨h.own.keep k,h.kc⟩
theorem LRow.there(h:LRow w (.slice (some ⟨g,0,none⟩) n cp) M)(H:M[k]? =some m):w.there g (k*27) 27:=by
 obtain⟨G,e,P⟩:=h.at H;injection e with e;injection e with e;subst e;obtain rfl:=h.num;have K:=h.kc m (Bb H);have hz:∃C T,w.heap[g]? =some (.cells C T (0,0)):=by
  rcases h.own.1.2 with⟨e,_⟩ | ⟨G,cap,C,e,_,I,_⟩
  ·cases e
  ·obtain rfl:g=G:=by injection e with e;injection e with e;injection e
   exact⟨_,_,I⟩
 obtain⟨C,T,hz⟩:=hz;intro j J;refine⟨?_,by simp[World.frozen?,hz]⟩;rw[P j _ (AU (by rw[K.len];exact J))];rfl
theorem LRow.app(h:LRow w v M)(C:LkC m.1 m.2)(hl:M.length<=2000000){b:Nat}(hb:w.heap[b]? =some (.cells m.2.toArray rlT (0,0))){B:Nat}{w0:World}(G:AG B w0 w)(hB:B<=w.heap.size)(J:∀g,v.ownBlock=some g->B<=g):
  ∃v' w',(Ca #[79,79] 79 #[v,.slice (some ⟨b,0,none⟩) 1 1]).run AE w= .ok v' w'/\LRow w' v' (M++ [m])/\AG B w0 w'/\∀g,v'.ownBlock=some g->B<=g:=by
 obtain⟨v',Z,V,k2,k3,Y⟩:=ni (p:=AE) (t:=79) (ty:=79) (c:=1) (m:=1) (sz:=27) (bytes:=456) (a:=⟨b,0,none⟩) (news:=m.2) Tryz.underlying79 Ab h.own C.len
  (λj u I=>by rw[cE,Bh,aE hb];simpa using I) (λu I=>ft (C.fl u I)) C.nu th Aa Aa
 refine⟨v',Z,V,⟨?_,λK H=> ?_⟩,G.grown k2 hB (λk U=>J k U),λg P=>(k3 g P).elim (J g) (λh=>AI hB h)⟩
 ·rw[By,Df];simpa using Y
 ·rcases AJ.1 H with h1 | h1
  ·exact h.kc K h1
  ·obtain rfl:K=m:=by simpa using h1
   exact C
theorem setsL_at{P u R v:List Value}(h:v.length=u.length):i4 (P++(u++R)) P.length v=P++(v++R):=List.ext_getElem? λj=>by
 rw[io _ _ _ _ (by simp;omega)];by_cases h1:j<P.length
 ·rw[if_neg Aa,Bw h1,Bw h1]
 ·have C:(P++(u++R))[j]? =(u++R)[j - P.length]? :=Bq Aa;have G:(P++(v++R))[j]? =(v++R)[j - P.length]? :=Bq Aa;rw[C,G];by_cases h2:j<P.length+v.length
  ·rw[if_pos Aa,Bw Aa]
  ·have H:(u++R)[j - P.length]? =R[j - P.length - u.length]? :=Bq Aa;have I:(v++R)[j - P.length]? =R[j - P.length - v.length]? :=Bq Aa;rw[if_neg Aa,H,I,h]
theorem LRow.set{A B:List Mk}{z:Mk}(h:LRow w (.slice (some ⟨g,0,none⟩) n cp) (A++z::B))(C:LkC m.1 m.2)(U:k=A.length):LRow (w.setCells g (k*27) m.2) (.slice (some ⟨g,0,none⟩) n cp) (A++m::B):=by
 subst U;obtain rfl:=h.num;have hz:=h.kc z Ag;have H:=rH (M:=A) (λm C=>h.kc m (by simp[C]));have h1:=rB m.2 _ _ (A.length*27) h.own C.nu;have J:(A++z::B).flatMap (·.2)=A.flatMap (·.2)++(z.2++B.flatMap (·.2)):=Ag
 have K:(A++m::B).flatMap (·.2)=A.flatMap (·.2)++(m.2++B.flatMap (·.2)):=Ag
 have P:(A++m::B).length=(A++z::B).length:=Ag
 rw[J,show A.length*27=(A.flatMap (·.2)).length by rw[H],setsL_at (by rw[C.len,hz.len]),<-K,H]at h1;refine⟨by rw[P];exact h1,λI G=> ?_⟩;simp only[AJ,A3]at G;rcases G with h2 | rfl | h2
 ·exact h.kc I (by simp[h2])
 ·exact C
 ·exact h.kc I (by simp[h2])
end
variable{k:Nat}
theorem kK{g n cp:Nat}{i:Int}(h:i=(k:Int))(C:k<n)(hn:n<=1000000000):(Instr.indexAt 79 (.slice (some ⟨g,0,none⟩) n cp) (.int .i64 i)).run AE w= .ok (.pointer (some ⟨g,k*27,none⟩)) w:=by
 subst h;have h1:(k:Int)<(n:Int):=Aa
 clear C hn;go_simp
theorem insN_cut{α:Type}{l:List α}{x y:α}{p:Nat}(h:l[p]? =some y):∃A B,A.length=p/\dv l x (p+1)=A++y::x::B/\dv l x p=A++x::y::B:=by
 obtain⟨A,B,rfl,rfl⟩:=eW h;refine⟨A,B,rfl,?_,by unfold dv;simp⟩;unfold dv;simp only[List.take_append,List.drop_append,Nat.add_sub_cancel_left,List.take_succ_cons,EW,List.drop_succ_cons,List.drop_zero];rw[List.take_of_length_le Aa,List.drop_eq_nil_of_le Aa];simp
structure LnS(R:Tr)(k:Nat)(M:List Mk):Prop where
 mem:∀q,q∈M.map (·.1)↔q∈R.take k
 srt:M.Pairwise λp q=>KLt p.1 q.1
 len:M.length=k
theorem LnS.add{R:Tr}{p:Nat}{M:List Mk}{x:Mk}(h:LnS R k M)(C:R[k]? =some x.1)(hp:p<=M.length)(h1:∀z∈M.drop p,KLt x.1 z.1)(h2:∀z∈M.take p,KLt z.1 x.1):LnS R (k+1) (dv M x p):=
 ⟨λq=>by
  rw[Fl,C,AJ,<-h.mem];simp only[Bi,xU,Option.toList_some,List.mem_singleton];constructor
  ·rintro⟨a,ha | rfl,rfl⟩
   ·exact .inl ⟨a,ha,rfl⟩
   ·exact .inr rfl
  ·rintro(⟨a,ha,rfl⟩ | rfl)
   ·exact⟨a,.inl ha,rfl⟩
   ·exact⟨x,.inr rfl,rfl⟩,tx h.srt h1 h2,by rw[nw hp,h.len]⟩
theorem LnS.ne{R:Tr}{M:List Mk}{x:Nm×Lk}(h:LnS R k M)(U:R[k]? =some x)(P:R.Pairwise λp q=>¬(p.1=q.1/\p.2.fr=q.2.fr)){y:Mk}(hy:y∈M):¬(x.1=y.1.1/\x.2.fr=y.1.2.fr):=λe=>by
 have h1:=(h.mem y.1).1 (Bi.2 ⟨y,hy,rfl⟩);obtain⟨j,C⟩:=List.getElem?_of_mem h1;rw[BP]at C;split at C
 ·rename_i I;obtain⟨G,J⟩:=A5.1 U;obtain⟨H,K⟩:=A5.1 C;exact(List.pairwise_iff_getElem.1 P) j k H G I (by rw[J,K];exact⟨e.1.symm,e.2.symm⟩)
 ·cases C
end
section
open Go.RowKit Go.MapKept
open Classical
def iU(q:Nm×Lk):List Value:=[.string q.1,.string q.2.par,.int .i64 q.2.fr,.int .i64 q.2.un]
noncomputable def cC(R:Tr)(L:List Nm):List (Nm×Lk):=L.flatMap λc=>(lks R c).map λx=>(c,x)
abbrev iV(w:World)(v:Value)(l:List (Nm×Lk)):Prop:=aY w 76 4 v l.length (l.flatMap iU)
theorem xX{q:Nm×Lk}:∀u∈iU q,u.oneCell'=true/\noU u:=λu C=>by
 simp only[iU,A3,DE,or_false]at C;rcases C with rfl | rfl | rfl | rfl<;>exact⟨rfl,λn e=>by cases e⟩
theorem lnk_app{v:Value}{l:List (Nm×Lk)}{g:Nat}{x:Nm×Lk}{ty:TypeId}(h:iV w v l)(hl:l.length<=2000)(C:∀j u,(iU x)[j]? =some u->w.cell? ((⟨g,0,none⟩:Addr).add j)=some u){B:Nat}{w0:World}(hb:AG B w0 w)(hB:B<=w.heap.size)(H:∀g,v.ownBlock=some g->B<=g):
  ∃v' w',(Ca #[73,73] ty #[v,.slice (some ⟨g,0,none⟩) 1 1]).run AE w= .ok v' w'/\iV w' v' (l++ [x])/\AG B w0 w'/\∀g,v'.ownBlock=some g->B<=g:=by
 obtain⟨v',w',J,k2,k3,K⟩:=ni (p:=AE) (ty:=ty) (c:=1) (m:=1) (sz:=4) (bytes:=48) Tryz.underlying73 Ab h rfl C (λu G=>(xX u G).1) (λu G=>(xX u G).2) th Aa Aa;refine⟨v',w',J,?_,hb.grown k2 hB (λk I=>H k I),λg C=>(k3 g C).elim (H g) (λh=>AI hB h)⟩;show aY w' _ 4 v' (l++ [x]).length _;rw[By,Df,show [x].flatMap iU=iU x by simp];exact K
theorem E_len(h:TM w t m E)(I:TSm (trE E)):E.length<=24:=by
 obtain⟨n,hn,l,h1,h2,rfl⟩:=I.cnt;rw[<-Cf (f:=(·.c))];refine AI (jA h.keys (λx J=> ?_)) hn;obtain⟨ch,C,rfl⟩:=Bi.1 J;have H:=(h.rows ch C).ne;obtain⟨ln,G⟩:=FE _ H;exact(h2 _).2 ⟨_,cG.2 ⟨ch,C,ln,G,rfl⟩,.inl rfl⟩
theorem tC{R:Tr}(C:TSm R):∀ {L:List Nm},(cC R L).length<=L.length*64
 | []=>Bc _
 | c::L=>by
  have h1:=C.per c;have h2:=tC C (L:=L);have e:cC R (c::L)=(lks R c).map (λx=>(c,x))++cC R L:=rfl;rw[e,By,Cf,Bz,Nat.add_mul];omega
theorem aah(R:Tr)(L:List Nm)(c:Nm):cC R (L++ [c])=cC R L++(lks R c).map λx=>(c,x):=by
 unfold cC;rw[Df];simp
theorem q_keysL(h:TM w t m E)(V:TSm (trE E))(hn:∀x,aM (trE E) x->x.size<=maxLen):
  (AH AE 91 #[.map (some m)] w λe w'=>e= .returned (.func (.func 154) #[] #[.pointer (some ⟨w.heap.size,0,none⟩)])/\w'=w.alloc (.cells #[.map (some m)] mpT))/\
  AH AE 87 #[.func (.func 154) #[] #[.pointer (some ⟨w.heap.size,0,none⟩)]] (w.alloc (.cells #[.map (some m)] mpT)) λe w'=>∃v L,e= .returned v/\gB w' w.heap.size v L/\L.Perm (E.map (·.c))/\L.Nodup/\L.Pairwise o0/\AG w.heap.size w w':=by
 have Y:(1000000:Nat)<=maxLen:=by unfold maxLen;omega
 have K:=E_len h V;obtain⟨D,J,hp,hz⟩:=dt.owns (P:=AE) (k:=9) h.mp Ab (by rw[Cf];omega) (λp hp=>by
  obtain⟨ch,C,rfl⟩:=Bi.1 hp;obtain⟨ln,I⟩:=FE _ (h.rows ch C).ne;exact hn _ ⟨_,cG.2 ⟨ch,C,ln,I,rfl⟩,.inl rfl⟩)
 rw[Cf]at J hz;refine⟨callsIn_wide.1 (Tryz.maps_Keys_L (some m) w),(callsIn_wide.1 (Tryz.slices_Sorted_keys_L m E.length D Re0 w J Aa Aa)).mono ?_⟩;rintro e w' ⟨v,Z,rfl,H,G,U,hb⟩;obtain⟨L,h1,h2,h3,h4,h5⟩:=oR (dt.nodup h.mp) hp H;rw[CG]at h3;refine⟨v,L,rfl,?_,h3,h4,h5,((AL _ w).alloc (AK _) _).trans (hb.mono (by rw[asz];omega))⟩;show w'.ownsRow w.heap.size 9 1 v L.length (L.map BK);rw[<-h1,h2];exact ownsRow_base_a G (by rw[asz];omega)
set_option maxHeartbeats 2000000 in
theorem q_Links(h:TM w t m E)(hE:Sane (trE E)):AH AE 35 #[ptB t] w λe w'=>∃v L,e= .returned v/\iV w' v (cC (trE E) L)/\L.Perm (E.map (·.c))/\L.Nodup/\L.Pairwise o0/\(∀g,v.ownBlock=some g->w.heap.size<=g)/\AG w.heap.size w w':=by
 obtain⟨a3,a4⟩:=q_keysL h hE.sm (λx hx=>hE.short hx);have a5:=a4.mono (show∀e w',_->∃ad n cap,∃L:List Nm,e= .returned (.slice ad n cap)/\Hid (gB w' w.heap.size (.slice ad n cap) L/\n=L.length/\L.Perm (E.map (·.c))/\L.Nodup/\L.Pairwise o0/\AG w.heap.size w w')from by
  rintro e w' ⟨v,L,rfl,h1,h2,h3,h4,h5⟩;obtain⟨ad,cap,rfl⟩:=dW h1;exact⟨ad,_,cap,L,rfl,AF ⟨h1,rfl,h2,h3,h4,h5⟩⟩)
 have h1:=h.cell;have H:=AF h;have HS:=AF hE;clear h hE a4;go_enter Tryz.func35,Tryz.ntmps35
 go_wp2_with (first
  | (go_at_call 91;refine a3.mono ?_;rintro e w2 ⟨rfl,rfl⟩)
  | (go_at_call 87;refine a5.mono ?_;rintro e w3 ⟨ad,n,cap,L,rfl,P⟩))
 clear a3 a5;have b3:n<=24:=by rw[P.out.2.1,P.out.2.2.1.length_eq,Cf];exact E_len H.out HS.out.sm
 go_loopw [3,17] (λs3 am wr=>∃(k:Nat),k<=n/\am= .int .i64 (k:Int)/\Hid (iV wr s3 (cC (trE E) (L.take k)))/\Hid (∀g,s3.ownBlock=some g->w3.heap.size<=g)/\Hid (AG w3.heap.size w3 wr)) (λ_ am _=>n - (intOf am).toNat)
 case atStart=>exact⟨0,Bc _,rfl,AF (by rw[EW];exact⟨DR _ _ _ _,λg K=>by cases K⟩),AF (λg K=>by cases K),AF (AL _ _)⟩
 case round=>
  obtain⟨k,hk,rfl,J,V,C⟩:=hrel;rcases Bl k n with b1 | b0
  ·obtain⟨c,hc⟩:∃c,L[k]? =some c:=⟨_,AU (by rw[<-P.out.2.1];exact b1)⟩;obtain⟨g,K,a0⟩:=dD (by have:=P.out.1;unfold gB at this;rw[<-P.out.2.1]at this;exact this) (show(L.map BK)[k]? =some (.string c)by rw[List.getElem?_map,hc];rfl);have a2:=(ot P.out.1 (g:=g) (by rw[K];rfl)).2;subst K;have bz:wr.cell? ⟨g,k,none⟩=some (.string c):=by rw[C.out.cell (p:=⟨g,k,none⟩) a2];exact a0
   have ab:=P.out.2.2.2.2.2;have Y:=(H.out.below ab).below C.out
   cases hch:chE E c with
   | none=>
    obtain⟨ch,h2,h3⟩:=Bi.1 ((P.out.2.2.1.mem_iff).1 (Bb hc));exact absurd h3 (xD hch h2)
   | some ch=>
    have h4:=Y.cell;have h5:=Y.look c;have aa:=Y.chAt hch;have b2:(ch.ls.length:Int)<=9223372036854775807:=by have:=aa.le;have:=aa.cap;unfold maxLen at this;omega
    have ar:(Instr.lookup mpT (.map (some m)) (.string c) false).run AE wr= .ok (.slice (some ⟨ch.rb,0,none⟩) ch.ls.length ch.cap) wr:=by rw[h5];unfold m8;rw[hch];rfl
    have ac:lks (trE E) c=ch.ls.map (·.x):=by rw[iR H.out.keys];unfold lsE;rw[hch];rfl
    have be:=AF ac;have HC:=AF hc;have ao:=AF hch;have bi:=AF (show∀wq:World,AG w3.heap.size w3 wq->TM wq t m E from λwq k=>(H.out.below ab).below k);have au:=HS.out.sm.per c;rw[ac,Cf]at au;obtain⟨n2,ak⟩:∃n2,n2=ch.ls.length:=⟨_,rfl⟩;rw[<-ak]at ar b2 au;have ap:=AF ak;clear h5 aa Y ac hc hch ak ab a0 a2;go_wp2;go_loopw [3,28] (λs3 an wq=>∃(j:Nat),j<=n2/\an= .int .i64 (j:Int)/\Hid (iV wq s3 (cC (trE E) (L.take k)++(ch.ls.take j).map λl=>(c,l.x)))/\Hid (∀g,s3.ownBlock=some g->w3.heap.size<=g)/\Hid (AG w3.heap.size w3 wq)) (λ_ an _=>n2 - (intOf an).toNat)
    case atStart=>exact⟨0,Bc _,rfl,by rw[EW,List.map_nil,Ds];exact J,V,C⟩
    case round=>
     clear J V C h4 ar bz;obtain⟨j,hj,rfl,J,V,C⟩:=hrel;rcases Bl j n2 with a6 | b0
     ·obtain⟨ln,U⟩:∃ln,ch.ls[j]? =some ln:=⟨_,AU (by rw[<-ap.out];exact a6)⟩;have Y:=bi.out wr C.out;have b4:=(Y.chAt ao.out).cell U;have I:=Y.ln ao.out (Bb U);have a7:wr.rangeAt ln.b 0 (iU (c,ln.x)):=λi v hv=>by
       rw[Bh]
       match i,hv with
       | 0,hv=>injection hv with hv;subst hv;exact I.cellv rfl
       | 1,hv=>injection hv with hv;subst hv;exact I.par
       | 2,hv=>injection hv with hv;subst hv;exact I.fr
       | 3,hv=>injection hv with hv;subst hv;exact I.un
       | i+4,hv=>simp[iU]at hv
      have a1:∀(i:Nat)(u:Value),(iU (c,ln.x))[i]? =some u->(wr.alloc (.cells (iU (c,ln.x)).toArray 76)).cell? ((⟨wr.heap.size,0,none⟩:Addr).add i)=some u:=λi u hu=>by
       rw[cE,Bh,aE (BE wr _)];simpa using hu
      have G:(cC (trE E) (L.take k)++(ch.ls.take j).map λl=>(c,l.x)).length<=2000:=by
       have h1:=tC HS.out.sm (L:=L.take k);rw[Bp]at h1;rw[By,Cf,Bp];omega
      obtain⟨v5,w5,Z,ay,av,ax⟩:=lnk_app (ty:=73) (x:=(c,ln.x)) (J.out.keep (w':=wr.alloc (.cells (iU (c,ln.x)).toArray 76)) (λg K=>heap_alloc_old wr _ (ot J.out.1 K).2)) G a1 (C.out.alloc C.out.size _) (by rw[asz];have:=C.out.size;omega) V.out;have bt:=AF (show iV w5 v5 (cC (trE E) (L.take k)++(ch.ls.take (j+1)).map λl=>(c,l.x))by
       rw[Fl,U,List.map_append,<-List.append_assoc];exact ay)
      have a9:=AF av;have bp:=AF ax;have aq:=AF Z;have bq:=AF a7;clear ay av ax a1 Z G a7 I Y U J V C;generalize ln.b=lb at *;generalize ln.x=x at *;go_upto_region 10 with(fail)
      refine CC ?_;refine aD rfl (v:=u3) (w':=wr) Ai ?_;refine aD rfl (v:=ptB lb) (w':=wr) Ai ?_;refine aD rfl (v:=ptB lb) (w':=wr) Am ?_;refine aD rfl (v:=ptB lb) (w':=wr) Am ?_;refine wpList_load_mid rfl _ _ rfl lb 0 rfl (iU (c,x)) _ bq.out Tryz.underlying76 rfl Ab ?_;refine aD rfl (v:=.slice (some ⟨wr.heap.size,0,none⟩) 1 1) (w':=wr.alloc (.cells (iU (c,x)).toArray 76)) (by unfold iU;go_simp) ?_;refine rz rfl rfl rfl rfl aq.out ?_;go_wp2;go_roundw
      case rel=>exact⟨j+1,Aa,by go_num,bt,bp,a9⟩
      case measure=>simp[intOf];omega
     ·obtain rfl:j=n2:=Aa
      have bb:=AF (show iV wr u3 (cC (trE E) (L.take (k+1)))by
       have h1:=J.out;rw[Fl,HC.out,Option.toList_some,aah,be.out];rw[ap.out,Fe]at h1;rw[CG];exact h1)
      clear J;go_wp2;go_roundw
      case rel=>exact⟨k+1,Aa,by go_num,bb,V,C⟩
      case measure=>simp[intOf];omega
  ·obtain rfl:k=n:=Aa
   have HQ:=AF (show∃v L',Ending.returned u3= .returned v/\iV wr v (cC (trE E) L')/\L'.Perm (E.map (·.c))/\L'.Nodup/\L'.Pairwise o0/\(∀g,v.ownBlock=some g->w.heap.size<=g)/\AG w.heap.size w wr from by
    obtain⟨_,h1,h2,h3,h4,h5⟩:=P.out;have h6:=J.out;rw[h1,Fe]at h6;exact⟨u3,L,rfl,h6,h2,h3,h4,λg K=>AI h5.size (V.out g K),h5.trans (C.out.mono h5.size)⟩)
   clear C J V;go_wp2;go_ret;exact HQ.out
end
section
open Classical
theorem flat4:∀ {l:List (Nm×Lk)} {i j:Nat} {q:Nm×Lk},l[i]? =some q->j<4->(l.flatMap iU)[i*4+j]? =(iU q)[j]?
 | [],i,j,q,h,_=>by cases h
 | p::l,0,j,q,h,hj=>by
  simp only[List.getElem?_cons_zero,Option.some.injEq]at h;subst h;rw[Cq,Bw (by show 0*4+j<4;omega),Nat.zero_mul,Bh]
 | p::l,i+1,j,q,h,hj=>by
  rw[Cq,Bq (by show 4<=(i+1)*4+j;omega)];have e:(i+1)*4+j - (iU p).length=i*4+j:=by show(i+1)*4+j - 4=_;omega
  rw[e];exact flat4 Az hj
theorem j9{R:Tr}{L:List Nm}{q:Nm×Lk}(h:q∈cC R L):q∈R/\q.1∈L:=by
 obtain⟨c,hc,h⟩:=Br.1 h;obtain⟨x,C,rfl⟩:=Bi.1 h;exact⟨bI.1 C,hc⟩
theorem xY{R:Tr}(C:TOk R):∀ {L:List Nm},L.Nodup->(cC R L).Pairwise λp q=>p.1=q.1->p.2.un≠ -1/\p.2.un<=q.2.fr
 | [],_=>List.Pairwise.nil
 | c::L,h=>by
  obtain⟨h1,h2⟩:=Bv.1 h;have e:cC R (c::L)=(lks R c).map (λx=>(c,x))++cC R L:=rfl;rw[e,C6];refine⟨?_,xY C h2,λp hp q G e=> ?_⟩
  ·rw[C0];refine(C.row c).imp ?_;intro a b h _;exact h
  ·obtain⟨x,_,rfl⟩:=Bi.1 hp;have:=(j9 G).2;rw[<-e]at this;exact absurd this h1
theorem end_uniq{R:Tr}{x y z:Nm}(h:Reach R a x y)(hy:par R a y=none)(k:Reach R a x z)(hz:par R a z=none):y=z:=by
 induction h with
 | refl=>exact k.nil hy
 | step e _ ih=>
  cases k with
  | refl=>rw[hz]at e;cases e
  | step e' t=>
   rw[e]at e';injection e' with e';subst e';exact ih hy t
end
section
open Classical
theorem abi{α:Type}{x:α}:∀ {P C S S':List α},P++x::S=C++x::S'->(P++x::S).Nodup->P=C/\S=S'
 | [],[],S,S',h,_=>⟨rfl,Az⟩
 | [],p::C,S,S',h,hd=>by
  simp only[Fc,List.cons_append,List.cons.injEq]at h hd;obtain⟨rfl,rfl⟩:=h;exact absurd (AJ.2 (.inr (Bj ..))) (Bv.1 hd).1
 | p::P,[],S,S',h,hd=>by
  simp only[Fc,List.cons_append,List.cons.injEq]at h hd;obtain⟨rfl,rfl⟩:=h;exact absurd (AJ.2 (.inr (Bj ..))) (Bv.1 hd).1
 | p::P,p'::C,S,S',h,hd=>by
  simp only[List.cons_append,List.cons.injEq]at h hd;obtain⟨rfl,h⟩:=h;obtain⟨G,H⟩:=abi h (Bv.1 hd).2;exact⟨by rw[G],H⟩
section
variable {R Q R' Q' A B A' B':Tr} {c p:Nm} {x x':Lk} {k k':Nat} {a f u e e':Int}
theorem TOk.nodup(h:TOk R)(c:Nm):(lks R c).Nodup:=by
 refine List.Pairwise.imp_of_mem (λ{x y} C hy k e=> ?_) (h.row c);subst e;have:=h.tm _ (bI.1 C);simp only at this;omega
theorem vh(h:REq (A++(c,x)::B) (A'++(c,x)::B'))(H:TOk (A++(c,x)::B)):REq (A++(c,x')::B) (A'++(c,x')::B'):=λy=>by
 have hy:=h y;have hn:=H.nodup y;rw[cY,cY]at hy⊢;rw[cY]at hn;by_cases e:y=c
 ·rw[if_pos e,if_pos e]at hy⊢;rw[if_pos e]at hn;obtain⟨C,G⟩:=abi hy hn;rw[C,G]
 ·rw[if_neg e,if_neg e]at hy⊢;exact hy
theorem eA.of(h:x.un= -1):eA (A++(c,x)::B) c A.length x:=⟨Ag,h⟩
theorem oS(G:TOk R)(C:TOk Q)(h:REq R Q)(a:eA R c k x)(b:eA Q c k' x'):x=x':=by
 have h1:=a.last (G.row c);have h2:=b.last (C.row c);rw[h c,h2]at h1;injection h1 with h1;exact h1.symm
theorem kS(h:REq R Q)(a:oe R c)(b:eA Q c k x):False:=by
 have h1:(c,x)∈R:=(h.mem _).2 (Bb b.1);obtain⟨i,hi,e⟩:=BN h1;exact a i (c,x) AC ⟨rfl,b.2⟩
theorem DetS.uniq(C:TOk R)(H:TOk Q)(h:REq R Q)(d:DetS R c u R' e)(G:DetS Q c u Q' e'):e=e'/\REq R' Q':=by
 cases d with
 | none h1=>cases G with
  | none _=>exact⟨rfl,h⟩
  | time k1 _=>exact(kS h h1 k1).elim
  | ok e1 k1 _ _=>subst e1;exact(kS h h1 (eA.of k1)).elim
 | time h1 h2=>cases G with
  | none k1=>exact(kS h.symm k1 h1).elim
  | time _ _=>exact⟨rfl,h⟩
  | ok e1 k1 k2 k3=>subst e1;obtain rfl:=oS C H h h1 (eA.of k1);omega
 | ok e1 h1 h2 h3=>subst e1;cases G with
  | none k1=>exact(kS h.symm k1 (eA.of h1)).elim
  | time k1 k2=>obtain rfl:=oS C H h (eA.of h1) k1;omega
  | ok e1 k1 k2 k3=>subst e1;obtain rfl:=oS C H h (eA.of h1) (eA.of k1);exact⟨rfl,vh h C⟩
theorem SetS.uniq{add:List St->List St×Int}(G:TOk R)(h:REq R Q)(d:SetS add R c a R' e)(C:SetS add Q c a Q' e'):e=e'/\REq R' Q':=by
 have ht:=h.tAt c a
 cases d with
 | none h1=>cases C with
  | none _=>exact⟨rfl,h⟩
  | still k1 _=>rw[h1,k1]at ht;cases ht
  | ok e1 k1 _=>rw[h1,k1]at ht;cases ht
 | still h1 h2=>cases C with
  | none k1=>rw[h1,k1]at ht;cases ht
  | still _ _=>exact⟨rfl,h⟩
  | ok e1 k1 k2=>rw[h1,k1]at ht;injection ht with ht;subst ht;rw[h2]at k2;cases k2
 | ok e1 h1 h2=>cases C with
  | none k1=>rw[h1,k1]at ht;cases ht
  | still k1 k2=>rw[h1,k1]at ht;injection ht with ht;subst ht;rw[h2]at k2;cases k2
  | ok e2 k1 k2=>rw[h1,k1]at ht;injection ht with ht;subst ht;subst e1;subst e2;exact⟨rfl,vh h G⟩
theorem FixS.uniq{ok:Bool}{q:Pq}(C:TOk R)(G:TOk Q)(h:REq R Q)(d:FixS ok q R c R' e)(H:FixS ok q Q c Q' e'):e=e'/\REq R' Q':=by
 cases d with
 | none h1=>cases H with
  | none _=>exact⟨rfl,h⟩
  | state k1 _=>exact(kS h h1 k1).elim
  | range k1 _ _ _=>exact(kS h h1 k1).elim
  | ok e1 k1 _ _ _=>subst e1;exact(kS h h1 (eA.of k1)).elim
 | state h1 h2=>cases H with
  | none k1=>exact(kS h.symm k1 h1).elim
  | state _ _=>exact⟨rfl,h⟩
  | range k1 k2 k3 _=>obtain rfl:=oS C G h h1 k1;rw[k2,k3]at h2;simp at h2
  | ok e1 k1 k2 k3 _=>subst e1;obtain rfl:=oS C G h h1 (eA.of k1);rw[k2,k3]at h2;simp at h2
 | range h1 h2 h3 h4=>cases H with
  | none k1=>exact(kS h.symm k1 h1).elim
  | state k1 k2=>obtain rfl:=oS C G h h1 k1;rw[h2,h3]at k2;simp at k2
  | range _ _ _ _=>exact⟨rfl,h⟩
  | ok e1 k1 k2 k3 k4=>rw[h4]at k4;cases k4
 | ok e1 h1 h2 h3 h4=>subst e1;cases H with
  | none k1=>exact(kS h.symm k1 (eA.of h1)).elim
  | state k1 k2=>obtain rfl:=oS C G h (eA.of h1) k1;rw[h2,h3]at k2;simp at k2
  | range _ _ _ k4=>rw[h4]at k4;cases k4
  | ok e1 k1 _ _ _=>subst e1;obtain rfl:=oS C G h (eA.of h1) (eA.of k1);exact⟨rfl,vh h C⟩
def vi(R:Tr)(c:Nm)(f:Int):Prop:=f<0\/fw<f\/∃x∈lks R c,x.un= -1\/f<x.un
def xZ(R:Tr)(c p:Nm):Prop:=∃n,bN (λx=>aM R x\/x=c\/x=p) n/\(24<n\/64<=(lks R c).length)
variable{isN:Nm->Prop}
theorem AttS.cls(h:AttS isN R c p f R' e):(e=5/\R'=R/\¬(isN c/\isN p))\/(e=17/\R'=R/\(isN c/\isN p)/\vi R c f)\/(e=15/\R'=R/\(isN c/\isN p)/\¬vi R c f/\xZ R c p)\/
  (e=19/\R'=R/\(isN c/\isN p)/\¬vi R c f/\¬xZ R c p/\Cyc R c p f)\/(e=0/\R'=fx R c p f/\(isN c/\isN p)/\¬vi R c f/\¬xZ R c p/\¬Cyc R c p f):=by
 have G:0<=f->f<=fw->oe R c->(∀x∈lks R c,x.un<=f)->¬vi R c f:=λh0 h1 h2 h3 ht=>by
  rcases ht with ht | ht | ⟨x,C,ht | ht⟩
  ·omega
  ·omega
  ·obtain⟨i,hi,e⟩:=BN (bI.1 C);exact h2 i (c,x) AC ⟨rfl,ht⟩
  ·have:=h3 x C;omega
 have H:∀n,bN (λx=>aM R x\/x=c\/x=p) n->n<=24/\(lks R c).length<64->¬xZ R c p:=λn hn hf ⟨m,I,J⟩=>by
  have:=bN.uniq hn I;omega
 cases h with
 | name h=>exact .inl ⟨rfl,rfl,h⟩
 | time h ht=>
  refine .inr (.inl ⟨rfl,rfl,h,?_⟩);rcases ht with ht | ht | ⟨k,x,ht⟩ | ⟨x,C,ht⟩
  ·exact .inl ht
  ·exact .inr (.inl ht)
  ·exact .inr (.inr ⟨x,bI.2 (Bb ht.1),.inl ht.2⟩)
  ·exact .inr (.inr ⟨x,C,.inr ht⟩)
 | full h h0 h1 h2 h3 n hn hf=>exact .inr (.inr (.inl ⟨rfl,rfl,h,G h0 h1 h2 h3,n,hn,hf⟩))
 | cycle h h0 h1 h2 h3 n hn hf hc=>exact .inr (.inr (.inr (.inl ⟨rfl,rfl,h,G h0 h1 h2 h3,H n hn hf,hc⟩)))
 | ok h h0 h1 h2 h3 n hn hf hc=>exact .inr (.inr (.inr (.inr ⟨rfl,rfl,h,G h0 h1 h2 h3,H n hn hf,hc⟩)))
theorem AttS.uniq(h:REq R Q)(d:AttS isN R c p f R' e)(Z:AttS isN Q c p f Q' e'):e=e'/\REq R' Q':=by
 have hT:vi R c f↔vi Q c f:=by unfold vi;rw[h c]
 have hF:xZ R c p↔xZ Q c p:=by unfold xZ;rw[h c];simp only[h.known]
 have hC:Cyc R c p f↔Cyc Q c p f:=h.cyc;have ha:REq (fx R c p f) (fx Q c p f):=λy=>by rw[iQ,iQ,h y]
 have U:=d.cls;have d2:=Z.cls;rw[hT,hF,hC]at U;generalize vi Q c f=T at *;generalize xZ Q c p=F at *;generalize Cyc Q c p f=C at *;generalize (isN c/\isN p)=N at *;rcases U with⟨rfl,rfl,G⟩ | ⟨rfl,rfl,G,I⟩ | ⟨rfl,rfl,G,I,K⟩ | ⟨rfl,rfl,G,I,K,V⟩ | ⟨rfl,rfl,G,I,K,V⟩<;>
 rcases d2 with⟨rfl,rfl,H⟩ | ⟨rfl,rfl,H,J⟩ | ⟨rfl,rfl,H,J,P⟩ | ⟨rfl,rfl,H,J,P,Y⟩ | ⟨rfl,rfl,H,J,P,Y⟩<;>
 first
  | exact⟨rfl,h⟩
  | exact⟨rfl,ha⟩
  | (exfalso;contradiction)
theorem DoS.uniq{s:Ax}(G:TOk R)(H:TOk Q)(h:REq R Q)(d:DoS R s R' e)(C:DoS Q s Q' e'):e=e'/\REq R' Q':=by
 unfold DoS at d C;split at d
 ·rename_i h1;rw[if_pos h1]at C;exact d.uniq G H h C
 ·rename_i h1;rw[if_neg h1]at C;split at d
  ·rename_i h2;rw[if_pos h2]at C;exact d.uniq G h C
  ·rename_i h2;rw[if_neg h2]at C;split at d
   ·rename_i h3;rw[if_pos h3]at C;exact d.uniq G H h C
   ·rename_i h3;rw[if_neg h3]at C;exact d.uniq h C
end
end
section
open Classical
variable{R:Tr}
theorem DoS.len{R':Tr}{s:Ax}{e:Int}(d:DoS R s R' e):R'.length<=R.length+1:=by
 unfold DoS at d;split at d
 ·cases d with
  | ok e _ _ _=>subst e;simp
  | _=>exact DT _
 ·split at d
  ·cases d with
   | ok e _ _=>subst e;simp
   | _=>exact DT _
  ·split at d
   ·cases d with
    | ok e _ _ _ _=>subst e;simp
    | _=>exact DT _
   ·cases d with
    | ok _ _ _ _ _ _ _ _ _=>unfold fx;simp
    | _=>exact DT _
theorem keysG:∀ {R:Tr},(∀c,gY (lks R c))->(∀q∈R,q.2.un= -1\/q.2.fr<q.2.un)->R.Pairwise λp q=>¬(p.1=q.1/\p.2.fr=q.2.fr)
 | [],_,_=>.nil
 | (d,x)::R,hr,ht=>by
  have h1:∀c,gY (lks R c):=λc=>by
   have:=hr c;rw[gX]at this;split at this
   ·exact(C5.1 this).2
   ·exact this
  refine C5.2 ⟨λq C e=> ?_,keysG h1 (λq C=>ht q (Bg _ C))⟩;have h2:=hr d;rw[gX,if_pos rfl]at h2;obtain⟨c,y⟩:=q;obtain⟨G,H⟩:=e;simp only at G H;subst G;have h3:x.un≠ -1/\x.un<=y.fr:=(C5.1 h2).1 y (bI.2 C);have h4:x.un= -1\/x.fr<x.un:=ht (d,x) (Bj ..);omega
theorem TOk.keys(h:TOk R):R.Pairwise λp q=>¬(p.1=q.1/\p.2.fr=q.2.fr):=keysG h.row (λq C=>by have:=(h.tm q C).2.2;omega)
theorem mc{α:Type}{r:α->α->Prop}(ht:∀a b c,r a b->r b c->r a c)(hi:∀a,¬r a a):∀ {l l':List α},l.Pairwise r->l'.Pairwise r->(∀x,x∈l↔x∈l')->l=l'
 | [],[],_,_,_=>rfl
 | [],b::l',_,_,h=>by have:=(h b).2 (Bj ..);cases this
 | a::l,[],_,_,h=>by have:=(h a).1 (Bj ..);cases this
 | a::l,b::l',h1,h2,h=>by
  obtain⟨G,I⟩:=C5.1 h1;obtain⟨H,J⟩:=C5.1 h2;have e:a=b:=by
   rcases A3.1 ((h a).1 (Bj ..))with e | e
   ·exact e
   ·rcases A3.1 ((h b).2 (Bj ..))with e' | e'
    ·exact e'.symm
    ·exact absurd (ht _ _ _ (G b e') (H a e)) (hi a)
  subst e;rw[mc ht hi I J (λx=>⟨λC=>by
   rcases A3.1 ((h x).1 (Bg _ C))with e | e
   ·subst e;exact absurd (G x C) (hi x)
   ·exact e,λC=>by
   rcases A3.1 ((h x).2 (Bg _ C))with e | e
   ·subst e;exact absurd (H x C) (hi x)
   ·exact e⟩)]
theorem nmle_lt{a b:Nm}(h:o0 a b)(e:a≠b):eF a b:=by
 by_cases k:eF a b
 ·exact k
 ·exact absurd (ve e k) (λC=>absurd h (List.not_le.2 C))
theorem x6{l:List Nm}(h1:l.Pairwise o0)(h2:l.Nodup):l.Pairwise eF:=(h1.and h2).imp λh=>nmle_lt h.1 h.2
variable{L:List Nm}
theorem lkRow_srt(C:TOk R)(h1:L.Pairwise o0)(h2:L.Nodup):(cC R L).Pairwise KLt:=by
 have a:=xY C h2;have b:(cC R L).Pairwise λp q=>p.1=q.1\/eF p.1 q.1:=by
  clear a;have h3:=x6 h1 h2;clear h1 h2
  induction L with
  | nil=>exact .nil
  | cons c L ih=>
   obtain⟨H,k2⟩:=C5.1 h3;have e:cC R (c::L)=(lks R c).map (λx=>(c,x))++cC R L:=rfl;rw[e,C6];refine⟨?_,ih k2,λp hp q G=> ?_⟩
   ·rw[C0];exact List.pairwise_of_forall (λ_ _=>.inl rfl)
   ·obtain⟨x,_,rfl⟩:=Bi.1 hp;exact .inr (H _ (j9 G).2)
 refine List.Pairwise.imp_of_mem (λ{p q} hp G k=> ?_) (a.and b);rcases k.2 with e | e
 ·have H:=k.1 e;have k2:=(C.tm p (j9 hp).1).2.2;exact .inr ⟨e,Aa⟩
 ·exact .inl e
theorem aai{q:Nm×Lk}(h:q∈R)(k:q.1∈L):q∈cC R L:=by
 obtain⟨c,x⟩:=q;unfold cC;exact Br.2 ⟨c,k,Bi.2 ⟨x,bI.2 h,rfl⟩⟩
variable{Q:Tr}
theorem links_eq{M:List Mk}(G:TOk (trE E))(H:REq (trE E) Q)(h1:L.Perm (E.map (·.c)))(h2:L.Nodup)(h3:L.Pairwise o0)(C:LnS Q Q.length M):M.map (·.1)=cC (trE E) L:=by
 refine mc (r:=KLt) (λ_ _ _=>KLt.trans) (λ_=>KLt.irr) ?_ (lkRow_srt G h3 h2) (λq=> ?_)
 ·rw[C0];exact C.srt
 ·rw[C.mem,Fe,<-H.mem];refine⟨λh=>aai h ?_,λh=>(j9 h).1⟩;obtain⟨ch,hc,l,hl,rfl⟩:=cG.1 h;exact h1.mem_iff.2 (Bi.2 ⟨ch,hc,rfl⟩)
theorem edge_req(h:REq R Q)(c:Nm)(a:Int):dA R c a=dA Q c a:=by unfold dA;rw[h.tAt]
theorem span_req(h:REq R Q)(c:Nm)(a:Int):fZ R c a=fZ Q c a:=by unfold fZ;rw[h.tAt]
theorem pOf_req(h:REq R Q)(c:Nm)(a:Int):pOf R a c=pOf Q a c:=by unfold pOf;rw[h.par]
theorem edge_span(J:TOk R)(c:Nm)(a:Int)(ha:a<=fw):(dA R c a).2=0↔(fZ R c a).2.2=true/\(fZ R c a).1<=a/\a<=(fZ R c a).2.1:=by
 unfold dA fZ
 cases ht:tAt R c a with
 | none=>simp
 | some x=>
  obtain⟨P,U⟩:=pq ht;have K:GoodS x.tr:=J.good _ P;have G:x.fr<=a/\(x.un= -1\/a<x.un):=by
   have:(decide (x.fr<=a) && (decide (x.un= -1) || decide (a<x.un)))=true:=U;simpa using this
  have H:a<=kJ x:=by
   unfold kJ;split
   ·exact ha
   ·have:=G.2;omega
  simp only;unfold xW
  cases hs:x.st with
  | true=>simp[G.1,H]
  | false=>
   simp only[Bool.false_eq_true,if_false];obtain⟨z,y,V,I⟩:=road K a;rw[I.trkP];simp only;have key:∀f l:St,(bJ x.tr)=(f.tm,l.tm,true)->∀c:Int,(c=0↔f.tm<=a/\a<=l.tm)->(c=0↔(if (bJ x.tr).2.2=true/\(bJ x.tr).1<=min (bJ x.tr).2.1 (kJ x)then((bJ x.tr).1,min (bJ x.tr).2.1 (kJ x),true)else(0,0,false)).2.2=true/\
     (if (bJ x.tr).2.2=true/\(bJ x.tr).1<=min (bJ x.tr).2.1 (kJ x)then((bJ x.tr).1,min (bJ x.tr).2.1 (kJ x),true)else(0,0,false)).1<=a/\a<=(if (bJ x.tr).2.2=true/\(bJ x.tr).1<=min (bJ x.tr).2.1 (kJ x)then((bJ x.tr).1,min (bJ x.tr).2.1 (kJ x),true)else(0,0,false)).2.1):=λf l hs c hc=>by
    rw[hs];rw[hc];by_cases h1:f.tm<=min l.tm (kJ x)
    ·rw[if_pos ⟨rfl,h1⟩];refine⟨λh=>⟨rfl,h.1,Int.le_min.2 ⟨h.2,H⟩⟩,λh=>⟨h.2.1,(Int.le_min.1 h.2.2).1⟩⟩
    ·rw[if_neg (λh=>h1 h.2)];refine⟨λh=>absurd (Int.le_min.2 ⟨Int.le_trans h.1 h.2,Int.le_trans h.1 H⟩) h1,λh=>by cases h.1⟩
   have C:∀f l:St,x.tr[0]? =some f->x.tr[x.tr.length - 1]? =some l->bJ x.tr=(f.tm,l.tm,true):=λf l h1 h2=>by unfold bJ;rw[h1,h2]
   cases I with
   | E h0=>
    have:x.tr=[]:=List.eq_nil_of_length_eq_zero h0;rw[this];simp[bJ]
   | O1 f hf hn h1=>
    obtain⟨l,hl⟩:∃l,x.tr[x.tr.length - 1]? =some l:=⟨_,AU Aa⟩;exact key f l (C f l hf hl) 17 Aa
   | O2 f hf hb l hl hn h1=>exact key f l (C f l hf hl) 17 Aa
   | Q f hf hb l hl hn h1 y hy ey hp eq1=>exact key f l (C f l hf hl) 0 Aa
   | M f hf hb l hl hn h1 y hy ey hp h0 eq1 z hz=>exact key f l (C f l hf hl) 0 Aa
end
section
open Classical
structure PI(w0 w:World)(t m tb:Nat)(E:List Ch)(v:Value)(L:List Rl)(k:Nat):Prop where
 ti:TInv w0 w t m E
 rm:RM w tb v L
 own:∀g∈fpR tb v L,w0.heap.size<=g
 dj:∀g∈fpR tb v L,g∉fpT t m E
 sr:Sane (trR L)
 rq:REq (trE E) (trR L)
 le:L.length<=k
section
variable {w0 w w1 w2 w3:World} {t m tb k:Nat} {E E':List Ch} {v v':Value} {L L':List Rl} {R':Tr} {s:Ax} {e e':Int}
theorem PI.below(h:PI w0 w t m tb E v L k)(b:AG w.heap.size w w1):PI w0 w1 t m tb E v L k:=⟨h.ti.below b,h.rm.below b,h.own,h.dj,h.sr,h.rq,h.le⟩
theorem TPost.rm(I:TM w t m E)(G:TPost w t m E w1 E')(H:RM w tb v L)(J:∀g∈fpR tb v L,g∉fpT t m E):RM w1 tb v L:=
 H.chg (X:=λg=>g∈fpT t m E) ⟨G.kp.size,λg C hn=>G.kp.block g C hn,λg C=>I.own g C⟩ J
theorem RPost.tm(H:RM w tb v L)(G:RPost w tb v L w1 v' L')(I:TM w t m E)(J:∀g∈fpT t m E,g∉fpR tb v L):TM w1 t m E:=
 I.chg (X:=λg=>g∈fpR tb v L) ⟨G.kp.size,λg C hn=>G.kp.block g C hn,λg C=>H.own g C⟩ J
theorem PI.step(h:PI w0 w t m tb E v L k)(K:TPost w t m E w1 E')(hr:REq (trE E') R')(V:DoS (trE E) s R' e)(h2:s.q.ok 2)(hb:AG w1.heap.size w1 w2)(H:RPost w2 tb v L w3 v' L')(hB:DoS (trR L) s (trR L') e'):
  e=e'/\PI w0 w3 t m tb E' v' L' (k+1)/\w.heap.size<=w3.heap.size:=by
 obtain⟨Y,Z⟩:=DoS.uniq h.ti.sane.ok h.sr.ok h.rq V hB;have C:=(h.ti.next K hr V h2).below hb;have P:=(TPost.rm h.ti.tm K h.rm h.dj).below hb;have J:∀g∈fpT t m E',g∉fpR tb v L:=λg I G=>by
  rcases K.fp g I with h1 | h1
  ·exact h.dj g G h1
  ·have:=h.rm.lt g G;omega
 have U:=RPost.tm P H C.tm J;refine⟨Y,⟨⟨U,C.sane,C.own,⟨H.kp.os.trans C.bel.os,H.kp.tape.trans C.bel.tape,H.kp.output.trans C.bel.output,AI C.bel.size H.kp.size,λg I=>(H.kp.block g (Nat.lt_of_lt_of_le I C.bel.size) (λhm=>by have:=h.own g hm;omega)).trans (C.bel.block g I)⟩⟩,H.rm,
  λg I=>(H.fp g I).elim (h.own g) (λh1=>AI C.bel.size h1),λg I G=> ?_,hB.sane h.sr h2,hr.trans Z,AI (by have:=hB.len;rw[np,np]at this;exact this) (Nat.succ_le_succ h.le)⟩,AI K.kp.size (AI hb.size H.kp.size)⟩
 rcases H.fp g I with h1 | h1
 ·exact J g G h1
 ·have:=C.tm.lt g G;omega
end
theorem q_rNew(w:World):AH AE 37 #[] w λe w'=>e= .returned (.agg #[.slice none 0 0])/\AG w.heap.size w w':=by
 go_enter Tryz.func37,Tryz.ntmps37
 go_wp2;refine A6 (results_cell_row rfl _ _ w.heap.size rrT #[.slice none 0 0] (0,0) _ rfl (BE w _) Tryz.underlying81 rfl Ab) rfl ?_;exact⟨rfl,(AL _ _).alloc (AK _) _⟩
theorem RM.new{w2:World}{tb:Nat}(h:w2.heap[tb]? =some (.cells #[.slice none 0 0] rrT (0,0))):RM w2 tb (.slice none 0 0) []:=by
 refine⟨h,⟨[],⟨DR _ _ _ _,λg C=>(by cases C)⟩,rfl,λj q G=>(by cases G)⟩,λl hl=>(by cases hl),by simp[fpR,CI],λg C=> ?_⟩;simp only[fpR,CI,Option.toList_none,List.flatMap_nil,Ds,A3,DE,or_false]at C;subst C;refine bF.mk' h (λk n e=> ?_)
 cases k with
 | zero=>simp at e
 | succ k=>simp at e
end
section
open Classical
theorem kP.req{R Q:Tr}{x y z:Nm}(h:REq R Q)(h1:kP R a x y)(h2:kP Q a x z):y=z:=by
 rcases h1 with⟨C,rfl⟩ | ⟨C,r1,H⟩
 ·rcases h2 with⟨_,rfl⟩ | ⟨k2,_⟩
  ·rfl
  ·exact absurd ((h.known x).2 k2) C
 ·rcases h2 with⟨k2,_⟩ | ⟨_,r2,I⟩
  ·exact absurd ((h.known x).1 C) k2
  ·have G:Reach R a x z:=h.symm.reach r2;exact end_uniq r1 H G (by rw[h.par a z];exact I)
set_option maxHeartbeats 2000000 in
theorem q_RootR{v:Value}{L:List Rl}(h:RM w t v L)(hR:TOk (trR L))(c:Nm)(a:Int)(hn:L.length<=1000000):
  AH AE 46 #[ptB t,.string c,.int .i64 a] w λe w'=>∃y,e= .returned (.string y)/\kP (trR L) a c y/\AG w.heap.size w w':=by
 have C:=rA h c hn;have U:=AF (show∀wq,AG w.heap.size w wq->RM wq t v L from λwq k=>h.below k);have V:=AF (show∀wq x,AG w.heap.size w wq->AH AE 96 #[ptB t,.string x,.int .i64 a] wq λe w'=>∃i,e= .returned (.int .i64 i)/\PlS L x a i/\AG wq.heap.size wq w' from λwq x k=>ij (h.below k) x a hn);have HR:=AF hR;obtain⟨ad,cp,hv⟩:=h.form;obtain⟨n,Y⟩:∃n,n=L.length:=⟨_,rfl⟩;have HN:=AF Y;rw[<-Y]at hv hn;subst hv;have ap:(n:Int)<=1000000:=Aa
 clear h Y hn hR;by_cases gk:aM (trR L) c
 ·rw[decide_eq_true gk]at C;have P:=AF gk;clear gk;go_enter Tryz.func46,Tryz.ntmps46
  go_wp2_with (go_at_call 103;refine C.mono ?_;rintro e w1 ⟨rfl,hw⟩;obtain rfl:=hw.symm;clear C)
  go_loopw [1,7] (λs1 s7 wr=>∃(k:Nat)(x:Nm),k<=n/\s7= .int .i64 (k:Int)/\s1= .string x/\Hid (AG w.heap.size w wr)/\Hid (up (trR L) a k c=some x)) (λ_ s7 _=>n - (intOf s7).toNat)
  case atStart=>exact⟨0,c,Bc _,rfl,rfl,AF (AL _ _),AF rfl⟩
  case round=>
   obtain⟨k,x,hk,rfl,rfl,I,H⟩:=hrel;have ac:=(U.out wr I.out).cell;rcases Bl k n with ao | ak
   ·have an:(k:Int)<(n:Int):=Aa
    have K:=V.out wr x I.out;go_upto_if 27 with(go_at_call 96;refine K.mono ?_;rintro e w1 ⟨i,rfl,hi,hb⟩;have HP:=AF (hi.par HR.out);have G:=AF (I.out.trans (hb.mono I.out.size));clear K hi hb)
    rcases HP.out with⟨hi,hp⟩ | ⟨j,l,hi,Z,hc,hp⟩
    ·subst hi;have J:=AF (show kP (trR L) a c x from .inr ⟨P.out,mY H.out,hp⟩);clear hp;go_wp2;go_ret;exact⟨_,rfl,J.out,G.out⟩
    ·subst hi;have aa:=(A5.1 Z).1;have am:(j:Int)<(n:Int):=by rw[HN.out];omega
     have q0:decide ((j:Int)<0)=false:=decide_eq_false Aa;have ab:=(U.out w1 G.out).cell;obtain⟨b2,c2,cs,e,A⟩:=(U.out w1 G.out).at Z;injection e with e1 _ e3;subst e1;subst e3;have fp:=A.par;have J:=AF (show par (trR L) a x=some l.x.par by unfold par;rw[hp];rfl);clear A hp Z aa hc;go_wp2;go_roundw
     case rel=>exact⟨k+1,l.x.par,Aa,by go_num,rfl,G,AF (u6Q H.out J.out)⟩
     case measure=>simp[intOf];omega
   ·obtain rfl:k=n:=Aa
    have J:=AF (show kP (trR L) a c x from .inr ⟨P.out,mY H.out,by
     obtain⟨m,z,h1,h2,h3⟩:=(HR.out.acy a c).root;rw[np,<-HN.out]at h1;rcases Bl m k with hl | hl
     ·have:=u7Q h2 h3 hl;rw[H.out]at this;cases this
     ·obtain rfl:m=k:=Aa
      rw[h2]at H;have:=H.out;injection this with this;subst this;exact h3⟩)
    go_wp2;go_ret;exact⟨_,rfl,J.out,I.out⟩
 ·rw[decide_eq_false gk]at C;have P:=AF gk;clear gk;go_enter Tryz.func46,Tryz.ntmps46
  go_wp2_with (go_at_call 103;refine C.mono ?_;rintro e w1 ⟨rfl,hw⟩;obtain rfl:=hw.symm;clear C)
  go_ret;exact⟨_,rfl,.inl ⟨P.out,rfl⟩,AL _ _⟩
end
end Go.Proofs.YtggfmklppkioeaaGreat
