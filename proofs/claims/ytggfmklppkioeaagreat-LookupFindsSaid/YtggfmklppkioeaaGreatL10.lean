/- Common ancestors. -/
import Derived.Test.YtggfmklppkioeaaGreatL09
import Derived.Deep.RegionHeld3
namespace Go.Proofs.YtggfmklppkioeaaGreat
set_option linter.unusedSimpArgs false
set_option linter.unusedVariables false
set_option maxRecDepth 100000
open Go.RowKit
open _root_.Go renaming Addr → A0,Calls → AF,Operand → AS,bodyPost_ret → Ba,heap_alloc_new → Bs,heap_setCell_same → C1,wpAnyH_ready → FB,wpAnyH_take → BM,wpList_load_mid → Du,wpList_plain → BC,wpList_store_mid → Ca,wp_block → Cr,wp_region_list → Bn,wp_ret → Cs,wp_seq → BQ,yieldsIf_load_mid → FS
open _root_.Go.RowKit renaming Below → AW
open _root_.Go.Proofs renaming ownsRow_base_a → E4
open _root_.Go.AllReadyH renaming cons → Fr,nil → Fs
open _root_.And renaming intro → BA
open _root_.Array renaming getElem?_eq_some_iff → A2,getElem?_setIfInBounds → DV,getElem?_toList → BR
open _root_.Go.RowKit.Below renaming heap_alloc → Fx,refl → AH
open _root_.Go.Builtin renaming append_ → BT
open _root_.ByteArray renaming empty → BZ
open _root_.Go.Fence renaming wide → Ce
open _root_.Go.Instr renaming buildSlice → Eg,sliceAt → CI
open _root_.Go.Lib renaming hid → AE
open _root_.List renaming append_assoc → CY,append_nil → CO,cons_append → DA,drop_eq_getElem_cons → Fm,drop_eq_nil_of_le → Fk,eq_nil_of_length_eq_zero → CG,ext_getElem? → DO,find?_append → Ei,find?_eq_none → C7,getElem?_eq_getElem → AM,getElem?_eq_none → EH,getElem?_eq_some_iff → A1,getElem?_map → Bp,getElem?_of_mem → Dn,getElem?_take → BJ,length → DU,length_append → Bj,length_cons → Bh,length_drop → CB,length_map → Cj,length_nil → Dc,length_take → A9,map_append → Cl,mem_append → AJ,mem_cons → AY,mem_map → Be,mem_of_getElem? → A5,mem_singleton → BP,nil_append → Db,nodup_cons → Bz,size_toArray → BW,take_add_one → EX
open _root_.Nat renaming le_refl → AI,le_trans → AG,lt_of_lt_of_le → Bv,lt_or_eq_of_le → DH,lt_or_ge → Bg,not_lt_zero → Dd,zero_add → A7,zero_le → A3
open _root_.Option renaming some → A4
open _root_.Go.Result renaming andThen → AU
open _root_.Go.Sem renaming run_bind → AK
open _root_.Go.Proofs.Tryz renaming func207 → EU,prog → AD,underlying183 → CC,underlying39 → CD,underlying4 → DI,underlying68 → DJ,underlying9 → DG
open _root_.Go.Value renaming int → AN,ownBlock → Cy,string → Bc
open _root_.Go.World renaming ownsRow_nil → Dz,size_alloc → Ct
section
open Go.RowKit Go.Shelf
open Classical
attribute [local go_sem] Oper.semAt_some
variable{w:World}{lb:Array Value}
theorem q_Collect{gf:Nat}{O:Nat}{ys:List Nm}(H:∀args w,(callFunc gf args).run AD w= .ok (.enter gf args) w)(hl:ys.length<=1000)
  (F:∀(n:Nat)(I:World),1<=n->mBw w I->SeqStopsK Ce n AD gf lb (λz:Nm=> #[Bc z]) (Kb w.heap.size O) (λJ=>J=ys) (λpre=>pre <+:ys) ys.length I):
  AF AD 150 #[.func (.func gf) #[] lb] w λe w'=>∃v,e= .returned v/\aU w' w.heap.size v ys/\mBw w w':=by
 have has:=q_AppSeq H hl F;clear F H;go_enter Tryz.func150,Tryz.ntmps150
 go_wp2_with (go_at_call 205;refine has.mono ?_;rintro e K ⟨v,rfl,C,hb⟩;have G:=AE (BA C hb);clear C hb)
 go_ret;exact⟨_,rfl,G.out.1,G.out.2⟩
theorem SeqStopsK.later{α:Type}{F:Fence}{n:Nat}{P:Program}{g:Nat}{C:α->Array Value}{Kp:World->World->Prop}{S Sp:List α->Prop}{N:Nat}{w':World}
  (h:SeqStopsK F n P g lb C Kp S Sp N w)(hb:AW w.heap.size w w'):SeqStopsK F n P g lb C Kp S Sp N w':=λl J H W K I G U h0=>h l J H W (hb.trans (K.mono hb.size)) I G U h0
theorem eX{P:Program}{fn:Func}{p q:Tmp}{tp tq:TypeId}(h:fn.results=#[.cell p tp,.cell q tq])(tmps:Array Value)(w:World){a b:A0}{u v:Value}
  (hp:tmps.getD p undef= .pointer (some a))(C:tmps.getD q undef= .pointer (some b))(F:(loadVar tp a).run P w= .ok u w)(G:(loadVar tq b).run P w= .ok v w):(results fn tmps).run P w= .ok (.tuple #[u,v]) w:=by
 have hp:tmps[p]?.getD undef= .pointer (some a):=by simpa using hp
 have C:tmps[q]?.getD undef= .pointer (some b):=by simpa using C
 simp only[results,h];simp[AK,AU,hp,C,asAddr,F,G]
theorem cW{T:TypeId}{d:TypeDesc}{a:A0}{v:Value}(F:AD.underlying T=some d)(ha:(match d with | .struct _ | .array _ _=>true | _=>false)=false)(h:w.cell? a=some v):(loadVar T a).run AD w= .ok v w:=by
 have C:(isAgg T).run AD w= .ok false w:=by
  unfold isAgg;rw[AK,run_underlying F];cases d<;>simp_all
 simp[loadVar,AK,C,h,AU,go_sem]
abbrev ancB(B:Nat):Array Value:=#[.pointer (some ⟨B+1,0,none⟩),.pointer (some ⟨B,0,none⟩),.pointer (some ⟨B+2,0,none⟩)]
abbrev kN(w:World)(t:Nat)(x:Nm)(a:Int):World:=((w.alloc (.cells #[ptB t] 24)).alloc (.cells #[.string x] 9)).alloc (.cells #[.int .i64 a] 3)
theorem jl(w:World)(t:Nat)(x:Nm)(a:Int):mBw w (kN w t x a):=(((AH _ w).alloc (AI _) _).alloc Ad _).alloc (by simp;omega) _
theorem kJ(w:World)(t:Nat)(x:Nm)(a:Int):(kN w t x a).heap.size=w.heap.size+3:=by simp[kN]
theorem abk(w:World)(t:Nat)(x:Nm)(a:Int):(kN w t x a).cell? ⟨w.heap.size,0,none⟩=some (ptB t)/\(kN w t x a).cell? ⟨w.heap.size+1,0,none⟩=some (.string x)/\(kN w t x a).cell? ⟨w.heap.size+2,0,none⟩=some (.int .i64 a):=by
 have h0:=Bs w (.cells #[ptB t] 24);have h1:=Bs (w.alloc (.cells #[ptB t] 24)) (.cells #[.string x] 9);have h2:=Bs ((w.alloc (.cells #[ptB t] 24)).alloc (.cells #[.string x] 9)) (.cells #[.int .i64 a] 3);simp only[Ct]at h1 h2;refine⟨?_,?_,?_⟩
 ·rw[aH ((Fx _ _ w.heap.size (by simp;omega)).trans ((Fx _ _ w.heap.size Ad).trans h0))];rfl
 ·rw[aH ((Fx _ _ (w.heap.size+1) Ad).trans h1)];rfl
 ·rw[aH h2];rfl
theorem ww{t m:Nat}{E:List Ch}{x:Nm}{a:Int}{ys:List Nm}{O:Nat}(K:TM w t m E)(J:O∉fpT t m E)(G:bv w O)(I:Anc (trE E) a x ys)(n:Nat)(H:World)(hn:1<=n)(hb:AW (kN w t x a).heap.size (kN w t x a) H):
  SeqStopsK Ce n AD 221 (ancB w.heap.size) (λz:Nm=> #[Bc z]) (Kb (kN w t x a).heap.size O) (λP=>P=ys) (λpre=>pre <+:ys) ys.length H:=by
 have hc:=abk w t x a;have hs:=kJ w t x a;have C:=jl w t x a;have F:O<w.heap.size:=G.1;exact SeqStopsK.later (anc_stops n hn (K.below C) J (G.blk (C.block O F) C.size) ⟨no,no⟩ ⟨no,no⟩ ⟨no,no⟩ hc.2.1 hc.1 hc.2.2 I) hb
noncomputable def iw(l l':List Nm):Option Nm:=l.find? λz=>decide (z∈l')
theorem abl:∀args w,(callFunc 221 args).run AD w= .ok (.enter 221 args) w:=af Tryz.func221 Aa rfl
set_option maxRecDepth 100000 in
set_option maxHeartbeats 2000000 in
theorem q_common{t m:Nat}{E:List Ch}{x y:Nm}{a:Int}{lx G:List Nm}(hT:TM w t m E)(hx:Anc (trE E) a x lx)(hy:Anc (trE E) a y G)(h1:lx.length<=1000)(h2:G.length<=1000):
  AF AD 129 #[ptB t,.string x,.string y,.int .i64 a] w λe w'=>e= .returned (.tuple #[.string ((iw lx G).getD BZ),.bool (iw lx G).isSome])/\AW w.heap.size w w':=by
 refine(callsIn_wide (n:=3)).1 ?_;have h3:(1:Nat)<=3:=it
 have H:=Boxed.new w 9 (.string ⟨#[]⟩);have I:=Boxed.new (w.alloc (.cells #[.string ⟨#[]⟩] 9)) 4 (.bool false);have ax:AW w.heap.size w ((w.alloc (.cells #[.string ⟨#[]⟩] 9)).alloc (.cells #[.bool false] 4)):=((AH _ w).alloc (AI _) _).alloc Ad _;rw[Ct]at I;have H:=H.alloc (.cells #[.bool false] 4);have ar:((w.alloc (.cells #[.string ⟨#[]⟩] 9)).alloc (.cells #[.bool false] 4)).heap.size=w.heap.size+2:=Ad
 obtain⟨V,cc⟩:∃V,(w.alloc (.cells #[.string ⟨#[]⟩] 9)).alloc (.cells #[.bool false] 4)=V:=⟨_,rfl⟩;rw[cc]at H I ax ar;have ca:=hT.below ax;have bp:w.heap.size∉fpT t m E:=λhm=>by have:=hT.lt _ hm;omega
 have cl:bv V w.heap.size:=.mk' (show V.heap[w.heap.size]? =some (.cells #[.string ⟨#[]⟩] 9 (0,0))from H) (λk n hk=>by cases k<;>simp at hk);have cm:=abj V t y a;have cp:=q_Collect (w:=kN V t y a) (O:=w.heap.size) abl h2 (λn w1 hn hb=>ww ca bp cl hy n w1 hn hb);refine callsIn_of_wp_marks Tryz.func129 rfl trivial ?_ rfl;simp only[Tryz.ntmps129,BW,Bh,Dc,Nat.reduceAdd,Nat.reduceSub,Array.replicate_succ,Array.replicate_zero,List.push_toArray,List.append_toArray,Db,DA];have bz:=AE ar;have HT:=AE hT;have HX:=AE hx;have a5:=AE ax;have a9:=AE (BA H I);have bt:=AE bp;clear hT ax ca bp cl hx hy ar H I
 gi_wp2_with (first
  | (refine⟨trivial,?_⟩;gi_at_call 171;refine(callsIn_wide.2 cm).mono ?_;clear cm;rintro e w' ⟨B,rfl,rfl,rfl⟩)
  | (refine⟨trivial,?_⟩;gi_at_call 150;refine(callsIn_wide.2 cp).mono ?_;clear cp;rintro e W3 ⟨v,rfl,aq,hb⟩;obtain⟨J,P,rfl⟩:=cV aq;have HR:=AE aq;have a6:=AE hb;clear aq hb;have a2:=λw=>abj w t x a)
  | (refine⟨trivial,?_⟩;gi_at_call 171;refine(callsIn_wide.2 (a2 _)).mono ?_;clear a2;rintro e w' ⟨B,rfl,rfl,rfl⟩))
 clear cc;obtain⟨Z,am⟩:∃Z,W3.alloc (.cells #[.slice J G.length P] 68)=Z:=⟨_,rfl⟩;have cx:Z.heap.size=W3.heap.size+1:=by rw[<-am];exact asz _ _
 have c6:=kJ V t y a;have bi:=jl V t y a;have ar:=bz.out;have c5:=a6.out.size;have ao:AW V.heap.size V W3:=bi.trans (a6.out.mono bi.size);have ap:AW W3.heap.size W3 Z:=by rw[<-am];exact(AH _ _).alloc (AI _) _
 have ad:AW V.heap.size V Z:=ao.trans (ap.mono ao.size);have ac:AW w.heap.size w Z:=a5.out.trans (ad.mono a5.out.size);have cb:=HT.out.below ac;have h8:Z.heap[w.heap.size]? =some (.cells #[.string ⟨#[]⟩] 9 (0,0)):=(ad.block _ no).trans a9.out.1;have h9:Z.heap[w.heap.size+1]? =some (.cells #[.bool false] 4 (0,0)):=(ad.block _ no).trans a9.out.2;have cd:bv Z w.heap.size:=.mk' h8 (λk n hk=>by cases k<;>simp at hk);have b2:Z.heap[W3.heap.size]? =some (.cells #[.slice J G.length P] 68 (0,0)):=by rw[<-am];exact Bs W3 _
 have ab:aU Z (kN V t y a).heap.size (.slice J G.length P) G:=en HR.out (λg Y=>ap.block g (cf HR.out Y).2);have av:=ww cb bt.out cd HX.out 2 _ it (AH _ _);have cz:=kJ Z t x a;have aa:=jl Z t x a;rw[cx]at av cz;obtain⟨WA,be⟩:∃WA,kN Z t x a=WA:=⟨_,rfl⟩;rw[be]at av cz aa;rw[am]
 change Code.wpIn _ _ _ _ _ _ (kN Z t x a)
 rw[be];have g8:Boxed WA w.heap.size 9 (.string ⟨#[]⟩):=(aa.block _ no).trans h8;have g9:Boxed WA (w.heap.size+1) 4 (.bool false):=(aa.block _ no).trans h9;have b1:Boxed WA W3.heap.size 68 (.slice J G.length P):=(aa.block _ no).trans b2;have ak:aU WA (kN V t y a).heap.size (.slice J G.length P) G:=en ab (λg Y=>aa.block g (cf ab Y).2);have an:AW w.heap.size w WA:=ac.trans (aa.mono ac.size);have cq:=an.size;have a1:=AE ak;have a0:=AE an;have H8:=AE g8;have H9:=AE g9;have c3:=AE b1;have c7:W3.heap.size<WA.heap.size:=no
 have dc:w.heap.size+1<W3.heap.size:=no
 clear be am cx c6 bi ar c5 ao ap ad ac cb h8 h9 cd b2 ab aa g8 g9 b1 ak an HR a6 bz HT a5 a9 bt;refine wpIn_rangeFunc_ownG (F:=Ce) (n:=3) rfl h3 (gf:=221) (lb:=ancB (W3.heap.size+1)) rfl trivial abl
  av (λ{_ _ _} h k=>h.trans k) (kb_b no) (AH _ _) (λ_=>rfl)
  (λpre W=>(∀z∈pre,z∉G)/\AW WA.heap.size WA W)
  (λc pre W=>(c= .ret/\∃U z,pre=U++ [z]/\(∀u∈U,u∉G)/\z∈G/\Boxed W w.heap.size 9 (.string z)/\Boxed W (w.heap.size+1) 4 (.bool true))/\AW w.heap.size w W/\WA.heap.size<=W.heap.size)
  (OwnFrom.and (ownFrom_pure _ _) (ownFrom_below (AI _) (AI _)))
  (λc s W W' row hs Y hr=>⟨⟨hs.1.1,by
   obtain⟨U,z,k1,k2,k3,k4,k5⟩:=hs.1.2;exact⟨U,z,k1,k2,k3,k4.kept Y (λe=>by have:=(hr _ e.symm).1;omega),k5.kept Y (λe=>by have:=(hr _ e.symm).1;omega)⟩⟩,hs.2.1.grown Y (by have:=hs.2.2;omega) (λk e=>by have:=(hr _ e).1;omega),AG hs.2.2 Y.size⟩)
  ⟨λ_ h=>(by cases h),AH _ _⟩
  (λz=> {tmps:=#[ptB t,.string x,.string y,.int .i64 a,undef,undef,undef,undef,.pointer (some ⟨w.heap.size,0,none⟩),.pointer (some ⟨w.heap.size+1,0,none⟩),.pointer (some ⟨W3.heap.size,0,none⟩),.string z,ptB t,.string y,.int .i64 a,.func (.func 221) #[] (ancB V.heap.size),.slice J G.length P,ptB t,.string x,.int .i64 a,.func (.func 221) #[] (ancB (W3.heap.size+1)),.string z,undef,undef,undef,undef],defers:=[]}) ?assign ?body ?done ?stop
 case assign=>
  intro l z W K hK
  gi_wp2
  exact hK
 case body=>
  rintro l pre z W ⟨C,hB⟩ c4;have cv:aU W (kN V t y a).heap.size (.slice J G.length P) G:=en a1.out (λg Y=>hB.block g (cf a1.out Y).2);have H:Boxed W w.heap.size 9 (.string ⟨#[]⟩):=(hB.block _ no).trans H8.out;have I:Boxed W (w.heap.size+1) 4 (.bool false):=(hB.block _ no).trans H9.out;have b0:Boxed W W3.heap.size 68 (.slice J G.length P):=(hB.block _ no).trans c3.out;have ay:=sK cv no z;have c8:=H.cell;have f8:=H.frozen;have c9:=I.cell;have f9:=I.frozen;have da:=b0.cell;have B8:=AE H;have B9:=AE I;have HB:=AE hB;have HP:=AE C;clear cv b0 H I hB C c4;by_cases hz:z∈G
  ·rw[decide_eq_true hz]at ay;have HZ:=AE hz;clear hz
   gi_wp2_with (refine⟨trivial,?_⟩;gi_at_call 172;refine(CallsIn.inRound l (callsIn_wide.2 ay)).mono ?_;rintro e w' ⟨rfl,bq⟩;obtain rfl:=bq.symm)
   exact⟨((KeepsOthers.setCell _ _ _).trans (KeepsOthers.setCell _ _ _)).from _,⟨⟨rfl,pre,z,rfl,HP.out,HZ.out,(B8.out.set (.string z)).other no _,(B9.out.other no _).set _⟩,(((a0.out.trans (HB.out.mono cq)).setCell (p:=⟨w.heap.size,0,none⟩) (AI _) _).setCell (p:=⟨w.heap.size+1,0,none⟩) Ad _),by simpa using HB.out.size⟩⟩
  ·rw[decide_eq_false hz]at ay;have HZ:=AE hz;clear hz
   gi_wp2_with (refine⟨trivial,?_⟩;gi_at_call 172;refine(CallsIn.inRound l (callsIn_wide.2 ay)).mono ?_;rintro e w' ⟨rfl,bq⟩;obtain rfl:=bq.symm)
   refine⟨KeepsFrom.refl _ _,Kb.refl _ _ _,⟨λu hu=> ?_,HB.out⟩⟩;rcases AJ.1 hu with h | h
   ·exact HP.out u h
   ·simp only[BP]at h;subst h;exact HZ.out
 case done=>
  rintro D zs W hD rfl ⟨C,hB⟩ hK;have H:Boxed W w.heap.size 9 (.string ⟨#[]⟩):=(hB.block _ no).trans H8.out;have I:Boxed W (w.heap.size+1) 4 (.bool false):=(hB.block _ no).trans H9.out;have c8:=H.cell;have f8:=H.frozen;have c9:=I.cell;have f9:=I.frozen;have au:=((KeepsOthers.setCell W ⟨w.heap.size,0,none⟩ (.string ⟨#[]⟩)).trans (KeepsOthers.setCell _ ⟨w.heap.size+1,0,none⟩ (.bool false))).same D _ hK rfl;have B8:=AE ((H.set (.string ⟨#[]⟩)).other (by omega:w.heap.size≠w.heap.size+1) (.bool false));have B9:=AE ((I.other (by omega:w.heap.size+1≠w.heap.size) (.string ⟨#[]⟩)).set (.bool false));have a7:=AE (((a0.out.trans (hB.mono cq)).setCell (p:=⟨w.heap.size,0,none⟩) (AI _) (.string ⟨#[]⟩)).setCell (p:=⟨w.heap.size+1,0,none⟩) Ad (.bool false));have bO:=AE au;have cn:iw zs G=none:=C7.2 (λu hu=>by simpa using C u hu);have bb:=AE cn;have db:WA.heap.size<=((W.setCell ⟨w.heap.size,0,none⟩ (.string ⟨#[]⟩)).setCell ⟨w.heap.size+1,0,none⟩ (.bool false)).heap.size:=by simpa using hB.size
  clear H I au cn hB C
  gi_wp2
  generalize (W.setCell ⟨w.heap.size,0,none⟩ (.string ⟨#[]⟩)).setCell ⟨w.heap.size+1,0,none⟩ (.bool false)=WZ at *;refine⟨Ad,.inl ⟨_,_,rfl,run_takeDeferred bO.out,?_⟩⟩;have Y:=grownBy_putObj' WZ D (.deferred none);have a3:=B8.out.kept Y (λe=>by injection e with e;omega);have a4:=B9.out.kept Y (λe=>by injection e with e;omega);refine⟨_,eX rfl _ _ rfl rfl (cW DG rfl a3.cell) (cW DI rfl a4.cell),by rw[bb.out];rfl,a7.out.trans (belowK_b (w:=w) (AI _) WZ D _ _ no bO.out rfl rfl)⟩
 case stop=>
  rintro D c pre W hD C ⟨⟨rfl,U,z,cu,cr,hz,H,I⟩,hB,dq⟩ hK;have c8:=H.cell;have c9:=I.cell;have bb:=AE (show iw lx G=some z from by
   obtain⟨tl,rfl⟩:=C;unfold iw;rw[cu,Ei,Ei,C7.2 (λu hu=>by simpa using cr u hu)];simp[hz])
  have B8:=AE H;have B9:=AE I;have a7:=AE hB;clear cu cr hz H I hB C
  gi_wp2
  refine⟨Ad,.inl ⟨_,_,rfl,run_takeDeferred hK,?_⟩⟩;have Y:=grownBy_putObj' W D (.deferred none);have a3:=B8.out.kept Y (λe=>by injection e with e;omega);have a4:=B9.out.kept Y (λe=>by injection e with e;omega);refine⟨_,eX rfl _ _ rfl rfl (cW DG rfl a3.cell) (cW DI rfl a4.cell),by rw[bb.out];rfl,a7.out.trans (belowK_b (w:=w) (AI _) W D _ _ no hK rfl rfl)⟩
end
section
open Go.RowKit Go.Shelf
open Classical
attribute [local go_sem] Oper.semAt_some
theorem abm{W I:World}{J B:Nat}{t e:TypeId}{size:Nat}{v v':Value}{k m:Nat}{xs ys:List Value}{F:Obj}
  (hv:Boxed W B t v)(V:t≠e)(H:W.ownsRow J e size v k xs)(P:J<=W.heap.size)
  (G:I.ownsRow J e size v' m ys)(C:(W.alloc F).grownBy I v.ownBlock):
  Boxed I B t v/\Boxed (I.setCell ⟨B,0,none⟩ v') B t v'/\(I.setCell ⟨B,0,none⟩ v').ownsRow J e size v' m ys/\KeepsOthers W (I.setCell ⟨B,0,none⟩ v')/\Kb J B W (I.setCell ⟨B,0,none⟩ v'):=by
 have U:Boxed I B t v:=(hv.alloc F).kept C (hv.not_row V H);refine⟨U,U.set v',G.kept (grownBy_setCell' I B v') (.inr (U.not_row V G).symm),?_,?_⟩
 ·refine((KeepsOthers.alloc W F).trans (KeepsOthers.of_grownBy C λj o K hj=> ?_)).trans (KeepsOthers.setCell _ _ _);rcases(H.alloc F).2 with⟨rfl,_⟩ | ⟨g,cap,cur,rfl,_,Y,_⟩
  ·simp[Cy]at K
  ·obtain rfl:g=j:=by simpa [Cy]using K
   rw[Y]at hj;cases hj;rfl
 ·have h1:Kb J B W (W.alloc F):=Kb.below ((AH J W).alloc P F);have Z:J<=(W.alloc F).heap.size:=AG P h1.size;have h2:Kb J B W I:=h1.grown C Z (λj K=>by
   rcases H.2 with⟨rfl,_⟩ | ⟨g,cap,cur,rfl,hb,_,_⟩
   ·simp[Cy]at K
   ·obtain rfl:g=j:=by simpa [Cy]using K
    exact .inl hb)
  exact h2.grown (grownBy_setCell' I B v') (AG P h2.size) (λj K=>by cases K;exact .inr rfl)
noncomputable def bx(l:List Nm)(top:Nm):List Nm:=l.takeWhile λz=>decide (z≠top)
variable{top:Nm}
theorem belL_all{l:List Nm}(h:∀z∈l,z≠top):bx l top=l:=by
 unfold bx;have:=List.takeWhile_append_of_pos (p:=λz=>decide (z≠top)) (l₁:=l) (l₂:=[]) (λz hz=>by simpa using h z hz);simpa using this
theorem y9{p l:List Nm}(h:∀z∈p,z≠top)(hp:p++ [top] <+:l):bx l top=p:=by
 obtain⟨t,rfl⟩:=hp;unfold bx;rw[CY,List.takeWhile_append_of_pos (λz hz=>by simpa using h z hz)];simp
theorem acJ{w F W:World}{D:Nat}{o o':Obj}(hb:AW w.heap.size w F)(C:Kb F.heap.size (w.heap.size+1) F W)(_:w.heap.size+1<F.heap.size)(I:F.heap.size<=D)(G:W.heap[D]? =some o):mBw w (W.putObj D o'):=by
 have h1:mBw w W:=⟨C.os.trans hb.os,C.tape.trans hb.tape,C.output.trans hb.output,AG hb.size C.size,λk H=>(C.block k no no).trans (hb.block k H)⟩;exact h1.grown (grownBy_putObj' W D o') (AG hb.size C.size) (λk e=>by cases e;have:=hb.size;omega)
set_option maxRecDepth 100000 in
set_option maxHeartbeats 2000000 in
theorem wA{w:World}{t m:Nat}{E:List Ch}{x:Nm}{a:Int}{lx:List Nm}(hT:TM w t m E)(hx:Anc (trE E) a x lx)(h1:lx.length<=1000):
  AF AD 106 #[ptB t,.string x,.string top,.int .i64 a] w λe w'=>∃v,e= .returned v/\aU w' w.heap.size v (bx lx top)/\AW w.heap.size w w':=by
 refine(callsIn_wide (n:=3)).1 ?_;have h3:(1:Nat)<=3:=it
 have bq:(1000:Nat)<=maxLen:=by unfold maxLen;omega
 obtain⟨i0,hi,a6,a7,a9⟩:=info_parts (show(AD.info? 9).map (λi=>(i.zero,i.size,i.bytes))=some (some (.string BZ),1,16)by kernel_rfl);have b6:=Boxed.new w 9 (.string top);have b9:=Boxed.new (w.alloc (.cells #[.string top] 9)) 68 (.slice none 0 0);have G:AW w.heap.size w ((w.alloc (.cells #[.string top] 9)).alloc (.cells #[.slice none 0 0] 68)):=((AH _ w).alloc (AI _) _).alloc Ad _;rw[Ct]at b9;have b6:=b6.alloc (.cells #[.slice none 0 0] 68);have Y:((w.alloc (.cells #[.string top] 9)).alloc (.cells #[.slice none 0 0] 68)).heap.size=w.heap.size+2:=Ad
 obtain⟨W2,ak⟩:∃W2,(w.alloc (.cells #[.string top] 9)).alloc (.cells #[.slice none 0 0] 68)=W2:=⟨_,rfl⟩;rw[ak]at b6 b9 G Y;have ar:w.heap.size+1∉fpT t m E:=λhm=>by have:=hT.lt _ hm;omega
 have an:bv W2 (w.heap.size+1):=.mk' (show W2.heap[w.heap.size+1]? =some (.cells #[.slice none 0 0] 68 (0,0))from b9) (λk n hk=>by cases k<;>simp at hk);have ao:=abj W2 t x a;have aa:=ww (hT.below G) ar an hx 2 _ it (AH _ _);have Z:=kJ W2 t x a;have U:=jl W2 t x a;obtain⟨J,am⟩:∃J,kN W2 t x a=J:=⟨_,rfl⟩;rw[am]at aa Z U;have a1:=AE Z;have a0:=AE Y;have H6:=AE (show Boxed J w.heap.size 9 (.string top)from(U.block _ no).trans b6);have H9:=AE (show Boxed J (w.heap.size+1) 68 (.slice none 0 0)from(U.block _ no).trans b9);have HB:=AE (G.trans (U.mono G.size));have ad:=AE aa;clear hT hx b6 b9 G Y ar an aa Z U;refine callsIn_of_wp_marks Tryz.func106 rfl trivial ?_ rfl;simp only[Tryz.ntmps106,BW,Bh,Dc,Nat.reduceAdd,Nat.reduceSub,Array.replicate_succ,Array.replicate_zero,List.push_toArray,List.append_toArray,Db,DA]
 gi_wp2_with (refine⟨trivial,?_⟩;gi_at_call 171;refine(callsIn_wide.2 ao).mono ?_;clear ao;rintro e w' ⟨B,rfl,rfl,rfl⟩)
 have Y:=a0.out;have Z:=a1.out;have aq:=HB.out.size;have ap:w.heap.size+1<J.heap.size:=no
 clear ak am Y Z;refine wpIn_rangeFunc_ownG (F:=Ce) (n:=3) rfl h3 (gf:=221) (lb:=ancB W2.heap.size) rfl trivial abl
  ad.out (λ{_ _ _} h k=>h.trans k) (kb_b (AI _)) (AH _ _) (λ_=>rfl)
  (λpre W=>((∃v,Boxed W (w.heap.size+1) 68 v/\W.ownsRow J.heap.size 9 1 v pre.length (pre.map Bc)/\True)/\(∀z∈pre,z≠top))/\Kb J.heap.size (w.heap.size+1) J W)
  (λc pre W=>((∃v,Boxed W (w.heap.size+1) 68 v/\W.ownsRow J.heap.size 9 1 v pre.dropLast.length (pre.dropLast.map Bc)/\True)/\(c= .exit 0/\∃ab,pre=ab++ [top]/\∀z∈ab,z≠top))/\Kb J.heap.size (w.heap.size+1) J W)
  (OwnFrom.and (OwnFrom.and (Own.from (holdsRow_own J.heap.size (w.heap.size+1) 68 9 1 (λpre:List Nm=>pre.length) (λpre=>pre.map Bc) (λ_ _=>True)) _) (ownFrom_pure _ _)) (kb_own _ _ _ (AI _)))
  (λc=>OwnFrom.and (OwnFrom.and (Own.from (holdsRow_own J.heap.size (w.heap.size+1) 68 9 1 (λpre:List Nm=>pre.dropLast.length) (λpre=>pre.dropLast.map Bc) (λ_ _=>True)) _) (ownFrom_pure _ _)) (kb_own _ _ _ (AI _)))
  ⟨⟨⟨_,H9.out,Dz _ _ _ _,trivial⟩,λ_ h=>(by cases h)⟩,Kb.refl _ _ _⟩
  (λz=> {tmps:=#[ptB t,.string x,.string top,.int .i64 a,undef,undef,.pointer (some ⟨w.heap.size,0,none⟩),undef,.slice none 0 0,.pointer (some ⟨w.heap.size+1,0,none⟩),.string z,ptB t,.string x,.int .i64 a,.func (.func 221) #[] (ancB W2.heap.size),.string z,undef,undef,undef,undef,undef,undef,undef,undef],defers:=[]}) ?assign ?body ?done ?stop
 case assign=>
  intro l z W K P
  gi_wp2
  exact P
 case body=>
  rintro l pre z W ⟨⟨⟨v,hv,C,_⟩,H⟩,P⟩ bp;have hc:=hv.cell;have c6:W.cell? ⟨w.heap.size,0,none⟩=some (.string top):=by rw[P.cell no no];exact H6.out.cell
  have HP:=AE H;have HV:=AE hv;have HR:=AE C;have HK:=AE P;have a4:=P.size;clear H P;by_cases e:z=top
  ·subst e;clear hv C
   gi_wp2
   refine⟨KeepsFrom.refl _ _,⟨⟨⟨v,HV.out,by rw[List.dropLast_concat];exact HR.out,trivial⟩,rfl,pre,rfl,HP.out⟩,HK.out⟩⟩
  ·have bt:=gW e;have HE:=AE e;clear e
   gi_wp2_with (gi_at_builtin;refine wpListIn_append_own _ rfl _ _ 68 rfl J.heap.size 9 i0 (.string BZ) 1 16 DJ hi a6 a7 a9 rfl it _ _ _ rfl (C.alloc _) ⟨W.heap.size,0,none⟩ 1 1 [.string z] rfl rfl (cell_one_new _ _ _) (by simp[Value.oneCell']) no no (by simp;omega) ?_;intro v' w1 V ac _;obtain⟨g',bb,rfl⟩:=ownsRow_succ V;obtain⟨ay,a5,a3,a2,G⟩:=abm hv it C a4 V ac;have be:=ay.cell;have bi:=ay.frozen)
   refine⟨a2.from _,G,⟨⟨_,a5,by simpa using a3,trivial⟩,λu hu=> ?_⟩,HK.out.trans G⟩;rcases AJ.1 hu with h | h
   ·exact HP.out u h
   ·simp only[BP]at h;subst h;exact HE.out
 case done=>
  rintro D zs W hD rfl ⟨⟨⟨v,hv,C,_⟩,H⟩,P⟩ I;have hc:=hv.cell;have HQ:=AE (show(W.putObj D (.deferred none)).ownsRow w.heap.size 9 1 v (bx zs top).length ((bx zs top).map Bc)/\AW w.heap.size w (W.putObj D (.deferred none))from by
   rw[belL_all H];exact⟨E4 (ownsRow_putObj C _ I rfl) aq,acJ HB.out P ap hD I⟩)
  clear hv C H P
  gi_wp2
  refine⟨Ad,.inl ⟨_,_,rfl,run_takeDeferred I,?_⟩⟩;exact⟨_,results_tmp rfl _ _ _,v,rfl,HQ.out.1,HQ.out.2⟩
 case stop=>
  rintro D c pre W hD ax ⟨⟨⟨v,hv,C,_⟩,rfl,ab,av,au⟩,P⟩ I;have hc:=hv.cell;have HQ:=AE (show(W.putObj D (.deferred none)).ownsRow w.heap.size 9 1 v (bx lx top).length ((bx lx top).map Bc)/\AW w.heap.size w (W.putObj D (.deferred none))from by
   subst av;rw[y9 au ax];rw[List.dropLast_concat]at C;exact⟨E4 (ownsRow_putObj C _ I rfl) aq,acJ HB.out P ap hD I⟩)
  clear hv C ax P av au
  gi_wp2
  refine⟨Ad,.inl ⟨_,_,rfl,run_takeDeferred I,?_⟩⟩;exact⟨_,results_tmp rfl _ _ _,v,rfl,HQ.out.1,HQ.out.2⟩
end
section
open Classical
noncomputable def bm(R:Tr)(a:Int)(x:Nm):List Nm:=if h:∃l,Anc R a x l then h.choose else []
theorem fg{R:Tr}(C:TOk R)(a:Int)(x:Nm):Anc R a x (bm R a x):=by
 have h:=Anc.of (C.acy a x);unfold bm;rw[dif_pos h];exact h.choose_spec
theorem mJ{R:Tr}{a:Int}{x:Nm}{l:List Nm}(h:Anc R a x l):bm R a x=l:=by
 unfold bm;have h2:∃l,Anc R a x l:=⟨l,h⟩;rw[dif_pos h2];exact h2.choose_spec.uniq h
theorem gI{R:Tr}(C:Sane R){a:Int}{x:Nm}(F:aF R x):(bm R a x).length<=24:=(fg C.ok a x).short C F
noncomputable def aE(R:Tr)(a:Int)(x y:Nm):Nm×Int:=
 if aF R x/\aF R y then(match iw (bm R a x) (bm R a y)with | some z=>(z,0) | none=>(BZ,18))else(BZ,6)
theorem abn{w:World}{t m:Nat}{E:List Ch}(V:TM w t m E)(K:Sane (trE E))(x y:Nm)(a:Int):
  AF AD 71 #[ptB t,.string x,.string y,.int .i64 a] w λe w'=>e= .returned (.tuple #[.string (aE (trE E) a x y).1,.int .i64 (aE (trE E) a x y).2])/\mBw w w':=by
 have C:=mI V K y;have H:=AE (show∀wq,mBw w wq->AF AD 108 #[ptB t,.string x] wq λe w'=>e= .returned (.bool (decide (aF (trE E) x)))/\mBw w w' from λwq hb=>(mI (V.below hb) K x).mono (by
  rintro e w' ⟨rfl,k⟩;exact⟨rfl,hb.trans (k.mono hb.size)⟩))
 by_cases ky:aF (trE E) y
 ·rw[decide_eq_true ky]at C;by_cases kx:aF (trE E) x
  ·have I:=AE (show aE (trE E) a x y=(match iw (bm (trE E) a x) (bm (trE E) a y)with | some z=>(z,0) | none=>(BZ,18))by unfold aE;rw[if_pos ⟨kx,ky⟩]);have HC:=AE (show∀wq,mBw w wq->AF AD 129 #[ptB t,.string x,.string y,.int .i64 a] wq λe w'=>e= .returned (.tuple #[.string ((iw (bm (trE E) a x) (bm (trE E) a y)).getD BZ),.bool (iw (bm (trE E) a x) (bm (trE E) a y)).isSome])/\mBw w w' from λwq hb=>by
    have l1:=gI K (a:=a) kx;have l2:=gI K (a:=a) ky;exact(q_common (V.below hb) (fg K.ok a x) (fg K.ok a y) no no).mono (by
     rintro e w' ⟨rfl,k⟩;exact⟨rfl,hb.trans (k.mono hb.size)⟩))
   rw[decide_eq_true kx]at H;obtain⟨M,P⟩:∃M,aE (trE E) a x y=M:=⟨_,rfl⟩;rw[P]at I⊢
   cases hc:iw (bm (trE E) a x) (bm (trE E) a y)with
   | none=>
    rw[hc]at HC I;have U:=AE (show M=(BZ,18)from I.out);clear V K ky kx P hc I;go_enter Tryz.func71,Tryz.ntmps71
    go_wp2_with (first
     | (go_at_call 108;refine C.mono ?_;clear C;rintro e Y ⟨rfl,hb⟩;have Z:=AE hb;have F:=H.out Y hb;clear hb)
     | (go_at_call 108;refine F.mono ?_;clear F;rintro e w2 ⟨rfl,hb⟩;have J:=HC.out w2 hb;clear hb)
     | (go_at_call 129;refine J.mono ?_;clear J;rintro e w3 ⟨rfl,hb⟩;have G:=AE hb;clear hb))
    go_ret2
    rw[U.out];exact⟨rfl,G.out⟩
   | some z=>
    rw[hc]at HC I;have U:=AE (show M=(z,0)from I.out);clear V K ky kx P hc I;go_enter Tryz.func71,Tryz.ntmps71
    go_wp2_with (first
     | (go_at_call 108;refine C.mono ?_;clear C;rintro e Y ⟨rfl,hb⟩;have Z:=AE hb;have F:=H.out Y hb;clear hb)
     | (go_at_call 108;refine F.mono ?_;clear F;rintro e w2 ⟨rfl,hb⟩;have J:=HC.out w2 hb;clear hb)
     | (go_at_call 129;refine J.mono ?_;clear J;rintro e w3 ⟨rfl,hb⟩;have G:=AE hb;clear hb))
    go_ret2
    rw[U.out];exact⟨rfl,G.out⟩
  ·have I:=AE (show aE (trE E) a x y=(BZ,6)by unfold aE;rw[if_neg (λh=>kx h.1)]);rw[decide_eq_false kx]at H;obtain⟨M,P⟩:∃M,aE (trE E) a x y=M:=⟨_,rfl⟩;rw[P]at I⊢;clear V K ky kx P;go_enter Tryz.func71,Tryz.ntmps71
   go_wp2_with (first
    | (go_at_call 108;refine C.mono ?_;clear C;rintro e Y ⟨rfl,hb⟩;have Z:=AE hb;have F:=H.out Y hb;clear hb)
    | (go_at_call 108;refine F.mono ?_;clear F;rintro e w2 ⟨rfl,hb⟩;have G:=AE hb;clear hb))
   go_ret2
   rw[I.out];exact⟨rfl,G.out⟩
 ·have I:=AE (show aE (trE E) a x y=(BZ,6)by unfold aE;rw[if_neg (λh=>ky h.2)]);rw[decide_eq_false ky]at C;obtain⟨M,P⟩:∃M,aE (trE E) a x y=M:=⟨_,rfl⟩;rw[P]at I⊢;clear V K ky P H;go_enter Tryz.func71,Tryz.ntmps71
  go_wp2_with (go_at_call 108;refine C.mono ?_;clear C;rintro e Y ⟨rfl,hb⟩;have G:=AE hb;clear hb)
  go_ret2
  rw[I.out];exact⟨rfl,G.out⟩
end
section
open Classical
noncomputable def cD(R:Tr)(a:Int):List Nm->Pq->Pq×Int
 | [],p=>(p,0)
 | f::l,p=>if (bC R f a).2=0 then cD R a l ((bC R f a).1.mul p)else(Pq.zero,(bC R f a).2)
def jm(R:Tr)(a:Int):List Nm->Pq->Prop
 | [],_=>True
 | f::l,p=>(bC R f a).2=0->(bC R f a).1.ok 100000/\(bC R f a).1.good/\p.ok 100000/\p.good/\jm R a l ((bC R f a).1.mul p)
variable{w0 W:World}{B:Nat}{vs:List Value}
theorem PB.kb{C:World}{n O:Nat}(h:PB w0 C B vs)(k:Kb n O C W)(F:B<n)(G:B≠O)(hl:w0.heap.size<=n)(H:w0.heap.size<=O):PB w0 W B vs:=
 ⟨by rw[k.block B F G];exact h.blk,h.len,⟨k.os.trans h.bel.os,k.tape.trans h.bel.tape,k.output.trans h.bel.output,AG h.bel.size k.size,λi hi=>(k.block i no no).trans (h.bel.block i hi)⟩,h.ge,h.nu⟩
theorem Kb.put{n O:Nat}{A B:World}(h:Kb n O A B)(us:List Value):Kb n O A (B.setCells O 0 us):=by
 have u:=cA us B O 0;exact h.trans ⟨u.os,u.tape,u.output,Nat.le_of_eq u.size.symm,λk _ C=>u.block k C⟩
theorem PB.lt(h:PB w0 W B vs):B<W.heap.size:=(A2.1 h.blk).1
theorem PB.oth{B':Nat}{us:List Value}(h:PB w0 W B vs)(C:B≠B')(hl:w0.heap.size<=B'):PB w0 (W.setCells B' 0 us) B vs:=
 ⟨by rw[(cA us W B' 0).block B C];exact h.blk,h.len,aQ us 0 W h.bel hl,h.ge,h.nu⟩
theorem PB.base{C:World}(h:PB C W B vs)(k:AW w0.heap.size w0 C):PB w0 W B vs:=⟨h.blk,h.len,k.trans (h.bel.mono k.size),AG k.size h.ge,h.nu⟩
theorem PB.ld(h:PB w0 W B vs):W.rangeAt B 0 vs:=λj v C=>by rw[aH h.blk,A7];simpa using C
set_option maxHeartbeats 2000000 in
theorem q_rise{w:World}{t m:Nat}{E:List Ch}{x top:Nm}{a:Int}{lx:List Nm}(hT:TM w t m E)(hE:TOk (trE E))(hx:Anc (trE E) a x lx)(h1:lx.length<=1000)(cq:jm (trE E) a (bx lx top) Pq.id):
  AF AD 72 #[ptB t,.string x,.string top,.int .i64 a] w λe w'=>∃v,e= .returned (.tuple #[v,.int .i64 (cD (trE E) a (bx lx top) Pq.id).2])/\aR w' v (cD (trE E) a (bx lx top) Pq.id).1/\AW w.heap.size w w':=by
 have cr:=PB.new w;have HT:=AE hT;have HE:=AE hE;have HX:=AE hx;have a7:=AE cq;have d2:(bx lx top).length<=1000:=AG ((List.takeWhile_sublist _).length_le) h1;have aa:=AE cr;obtain⟨W,hW⟩:∃W,w.alloc (.cells ai.toArray 39)=W:=⟨_,rfl⟩;rw[hW]at aa;have cm:=aaP W;obtain⟨Rz,bi⟩:∃r,r=cD (trE E) a (bx lx top) Pq.id:=⟨_,rfl⟩;have a9:=AE bi;rw[<-bi];clear hT hE hx cq cr bi;go_enter Tryz.func72,Tryz.ntmps72
 go_upto_region 0 with(fail)
 refine Bn ?_;refine ae rfl (v:=.pointer (some ⟨w.heap.size,0,none⟩)) (w':=W) (by subst hW;go_simp;try rfl) ?_;obtain⟨B8,dc⟩:∃B,w.heap.size=B:=⟨_,rfl⟩;rw[dc]at aa⊢;clear hW;go_upto_region 1 with(fail)
 refine Bn ?_;refine BC rfl (λK hK=> ?_);go_simp;go_at_call 22
 refine cm.mono ?_;rintro e Z ⟨v,rfl,hv,hb⟩;obtain⟨us,rfl,F,I,V⟩:=dJ hv;refine hK _ _ ?_;clear hK K cm;have H:=PB.new Z;have cx:aR (Z.alloc (.cells ai.toArray 39)) (.agg us.toArray) Pq.id:=hv.mono H.bel;have b1:=AE (aa.out.next (hb.trans (H.bel.mono hb.size)));refine ae rfl (v:=.pointer (some ⟨Z.heap.size,0,none⟩)) (w':=Z.alloc (.cells ai.toArray 39)) (by go_simp;try rfl) ?_;have C:=H.there;rw[<-F]at C;refine Ca rfl _ _ _ rfl Z.heap.size 0 us.toArray rfl rfl At (bc F) I ?_;rw[show us.toArray.toList=us from rfl];have bq:AW w.heap.size w Z:=aa.out.bel.trans (hb.mono aa.out.bel.size);have a1:B8≠Z.heap.size:=by have:=aa.out.lt;have:=hb.size;omega
 have ao:=AE (b1.out.oth (us:=us) a1 bq.size);have U:=AE ((H.base bq).put (us:=us) F V);have HV:=AE (H.keep (us:=us) cx);have be:=AE (HT.out.below U.out.bel);have cc:=(wA be.out HX.out h1 (top:=top)).mono (show∀e w',_->∃ad n cap,e= .returned (.slice ad n cap)/\Hid (aU w' ((Z.alloc (.cells ai.toArray 39)).setCells Z.heap.size 0 us).heap.size (.slice ad n cap) (bx lx top)/\n=(bx lx top).length/\AW ((Z.alloc (.cells ai.toArray 39)).setCells Z.heap.size 0 us).heap.size ((Z.alloc (.cells ai.toArray 39)).setCells Z.heap.size 0 us) w')from by
  rintro e w' ⟨v,rfl,h1,h2⟩;obtain⟨ad,cap,rfl⟩:=cV h1;exact⟨ad,_,cap,rfl,AE ⟨h1,rfl,h2⟩⟩)
 generalize dq:(Z.alloc (.cells ai.toArray 39)).setCells Z.heap.size 0 us=W2 at *;obtain⟨J,a2⟩:∃B,Z.heap.size=B:=⟨_,rfl⟩;rw[a2]at U a1⊢;have c6:=AE a1;clear dq C H cx hv hb I V b1 bq a2 a1 aa;go_wp2_with (go_at_call 106;refine cc.mono ?_;clear cc;rintro e Wb ⟨ad,n,cap,rfl,HR⟩)
 have ak:=AE (ao.out.next HR.out.2.2);have G:=AE (U.out.next HR.out.2.2);have ca:=AE ((show aR Wb _ _ from IsL.mono HV.out HR.out.2.2));have b2:=AE (be.out.below HR.out.2.2);have eb:(n:Int)<=1000:=by rw[HR.out.2.1];omega
 have a6:J∉fpT t m E:=λhm=>by
  have h3:=HT.out.lt _ hm;have h4:=G.out.ge;omega
 have a4:bv Wb J:=(jS G.out.blk (λu hu=>G.out.nu u (by simpa using hu))).x;have cn:B8<Wb.heap.size:=ak.out.lt;have am:=AE (show∀wq,Kb Wb.heap.size J Wb wq->TM wq t m E/\PB w wq B8 ai/\∀(i:Nat)(c:Nm),(bx lx top)[i]? =some c->∃g,ad=some ⟨g,0,none⟩/\wq.cell? ⟨g,i,none⟩=some (.string c)from λwq k=>⟨k.tm b2.out a6 a4,ak.out.kb k cn c6.out ak.out.bel.size G.out.ge,λi c hc=>by
  have h3:=HR.out.1;have h4:=HR.out.2.1;unfold aU at h3;rw[<-h4]at h3;obtain⟨g1,e1,q1⟩:=di h3 (show((bx lx top).map Bc)[i]? =some (.string c)by rw[Bp,hc];rfl);have h5:=cf h3 (g:=g1) (by rw[e1];rfl);exact⟨g1,e1,by rw[k.cell h5.2 (by have:=U.out.lt;omega)];exact q1⟩⟩)
 obtain⟨L,hL⟩:∃L,bx lx top=L:=⟨_,rfl⟩;rw[hL]at am a7 a9 d2;have b0:=AE (show n=L.length by rw[HR.out.2.1,hL]);clear HR HV ao U be HT HX hL a6 a4 ak b2 cn;have d1:Wb.heap.size<=Wb.heap.size:=AI _;go_loopw [22] (λbz wq=>∃(k:Nat)(cs:List Value)(q:Pq),k<=n/\bz= .int .i64 (k:Int)/\Hid (Kb Wb.heap.size J Wb wq)/\Hid (PB w wq J cs)/\Hid (aR wq (.agg cs.toArray) q)/\Hid (Rz=cD (trE E) a (L.drop k) q/\jm (trE E) a (L.drop k) q)) (λbz _=>n - (intOf bz).toNat)
 case atStart=>exact⟨0,us,Pq.id,A3 _,rfl,AE (Kb.refl _ _ _),G,ca,AE ⟨a9.out,a7.out⟩⟩
 case round=>
  clear a9 a7 G ca F d1;obtain⟨k,cs,q,hk,rfl,HK,HP,HV,HZ⟩:=hrel;rcases Bg k n with d3 | dT
  ·obtain⟨c,hc⟩:∃c,L[k]? =some c:=⟨_,AM (by rw[<-b0.out];exact d3)⟩;obtain⟨cb,ab,cu⟩:=am.out wr HK.out;obtain⟨g,rfl,ea⟩:=cu k c hc;have a0:=abf cb HE.out c a;have cd:L.drop k=c::L.drop (k+1):=by
    obtain⟨h1,h2⟩:=A1.1 hc;rw[<-h2];exact Fm h1
   have hz:=HZ.out;rw[cd]at hz;unfold cD jm at hz;obtain⟨ep,cl⟩:∃ep,bC (trE E) c a=ep:=⟨_,rfl⟩;rw[cl]at a0 hz;obtain⟨pe,P⟩:=ep;simp only at a0 hz;have ax:=AE hz;have ao:=AE ab;have cp:Wb.heap.size<=wr.heap.size:=HK.out.size;clear cb cu hc cl hz ab cd;go_upto_region 5 with(fail)
   refine Bn ?_;refine ae rfl (v:=ptB t) (w':=wr) Af ?_;refine ae rfl (v:=.string c) (w':=wr) Af ?_;refine ae rfl (v:=.int .i64 a) (w':=wr) Af ?_;refine BC rfl (λK hK=> ?_);go_simp;go_at_call 41
   refine a0.mono ?_;rintro e w4 ⟨v,rfl,hv,hb⟩;obtain⟨vs,rfl,F,I,V⟩:=dJ hv;refine hK _ _ ?_;clear hK K a0;refine ae rfl (v:=.tuple #[.agg vs.toArray,.int .i64 P]) (w':=w4) Af ?_;refine ae rfl (v:=.agg vs.toArray) (w':=w4) Ah ?_;refine ae rfl (v:=.int .i64 P) (w':=w4) Ah ?_;have H:=PB.new w4;have cv:aR (w4.alloc (.cells ai.toArray 39)) (.agg vs.toArray) pe:=IsL.mono hv H.bel;have C:=H.there;rw[<-F]at C;have an:=aQ vs 0 _ (hb.trans (H.bel.mono hb.size)) hb.size (b:=w4.heap.size);have bO:=AE (HK.out.trans (Kb.below (an.mono cp)));have au:=AE (HP.out.next an);have b8:=AE (show aR _ (.agg cs.toArray) q from IsL.mono HV.out an);have ac:=AE (ao.out.next an);have av:=AE (H.put (us:=vs) F V);have b9:=AE (H.keep (us:=vs) cv);refine ae rfl (v:=.pointer (some ⟨w4.heap.size,0,none⟩)) (w':=w4.alloc (.cells ai.toArray 39)) (by go_simp;try rfl) ?_;refine Ca rfl _ _ _ rfl w4.heap.size 0 vs.toArray rfl rfl At (bc F) I ?_;rw[show vs.toArray.toList=vs from rfl];generalize dr:(w4.alloc (.cells ai.toArray 39)).setCells w4.heap.size 0 vs=W5 at *;have d0:=an.size;have ar:w4.heap.size≠J:=by have:=HP.out.lt;have:=hb.size;omega
   obtain⟨c3,a3⟩:∃B,w4.heap.size=B:=⟨_,rfl⟩;rw[a3]at ar av⊢;have d4:=AE ar;clear dr a3 ar H cv C an hv hb I V HK HP HV ao;by_cases h0:P=0
   ·subst h0;obtain⟨bt,cz⟩:=ax.out;rw[if_pos rfl]at bt;obtain⟨o1,o2,o3,o4,o5⟩:=cz rfl;have a5:=jh _ _ pe q W5 b9.out b8.out o1 o3 o2 o4;have aq:=AE (BA bt o5);have c8:=AE (show(AD.info? 39).map (·.size)=some vs.length by rw[av.out.len];kernel_rfl);have bb:=AE (show(AD.info? 39).map (·.size)=some cs.length by rw[au.out.len];kernel_rfl);clear bt cz o1 o2 o3 o4 o5 ax HZ b9 b8 F;go_upto_region 8 with(fail)
    refine Bn ?_;refine Du rfl _ _ rfl c3 0 rfl vs _ av.out.ld CD rfl c8.out ?_;refine Du rfl _ _ rfl J 0 rfl cs _ au.out.ld CD rfl bb.out ?_;refine BC rfl (λK hK=> ?_);go_simp;go_at_call 21
    refine a5.mono ?_;rintro e w6 ⟨v,rfl,hv,hb⟩;obtain⟨Y,rfl,F,I,V⟩:=dJ hv;refine hK _ _ ?_;clear hK K a5;have ay:=au.out.next hb;have C:=ay.there;rw[<-F]at C;refine Ca rfl _ _ _ rfl J 0 Y.toArray rfl rfl At (bc F) I ?_;rw[show Y.toArray.toList=Y from rfl];have c4:=AE ((bO.out.trans (Kb.below (hb.mono (AG cp d0)))).put Y);have c7:=AE (ay.put (us:=Y) F V);have c9:=AE (ay.keep (us:=Y) hv);generalize ds:w6.setCells J 0 Y=W7 at *;clear ds C ay hv hb I V bO au ac av F;go_wp2;go_roundw
    case rel=>exact⟨k+1,Y,_,no,by go_num,c4,c7,c9,aq⟩
    case measure=>simp[intOf];omega
   ·have d5:(P==0)=false:=beq_eq_false_iff_ne.2 h0;have aq:=AE (show Rz=(Pq.zero,P)by rw[ax.out.1,if_neg h0]);clear h0 ax HZ;go_upto_region 7 with(fail)
    refine Bn ?_;refine ae rfl (v:=.agg ai.toArray) (w':=W5) (by unfold ai;go_simp;try rfl) ?_;refine ae rfl (v:=.int .i64 P) (w':=W5) Af ?_;refine Ca rfl _ _ _ rfl B8 0 ai.toArray rfl rfl ac.out.there Aa Aa ?_;have ap:=AE (ac.out.put (us:=ai) rfl ac.out.nu);rw[show ai.toArray.toList=ai from rfl];generalize bp:W5.setCells B8 0 ai=W9 at *;clear bp;go_wp2;refine Ba (ap.out.ret rfl _ rfl) rfl ?_;rw[aq.out];exact⟨_,rfl,dC _,ap.out.bel⟩
  ·obtain rfl:k=n:=no
   have hz:=HZ.out.1;rw[show L.drop k=[]by rw[b0.out];simp]at hz;have aq:=AE (show Rz=(q,0)from hz);obtain⟨_,ab,_⟩:=am.out wr HK.out;have bb:=AE (show(AD.info? 39).map (·.size)=some cs.length by rw[HP.out.len];kernel_rfl);have C:=ab.there;rw[<-HP.out.len]at C;have I:cs.toArray.all (·.oneCell')=true:=by
    obtain⟨db,e,_,h1,_⟩:=dJ HV.out;have e:cs=db:=by injection e with e;simpa using e
    rw[e];exact h1
   have ap:=AE (ab.put (us:=cs) HP.out.len HP.out.nu);have da:=AE (ab.keep (us:=cs) HV.out);have c5:=AE HP.out.len;clear hz HZ dT ab am;go_upto_region 10 with(fail)
   refine Bn ?_;refine Du rfl _ _ rfl J 0 rfl cs _ HP.out.ld CD rfl bb.out ?_;refine Ca rfl _ _ _ rfl B8 0 cs.toArray rfl rfl At (bc c5.out) I ?_;rw[show cs.toArray.toList=cs from rfl];generalize bp:wr.setCells B8 0 cs=W9 at *;clear bp C I;go_wp2;refine Ba (ap.out.ret rfl _ rfl) rfl ?_;rw[aq.out];exact⟨_,rfl,da.out,ap.out.bel⟩
end
section
open Classical
noncomputable abbrev upP(R:Tr)(a:Int)(x top:Nm):Pq×Int:=cD R a (bx (bm R a x) top) Pq.id
noncomputable def aP(R:Tr)(a:Int)(tq fr:Nm):Pq×Int:=
 if (aE R a fr tq).2≠0 then(Pq.zero,(aE R a fr tq).2)else
  if (upP R a fr (aE R a fr tq).1).2≠0 then(Pq.zero,(upP R a fr (aE R a fr tq).1).2)else
   if (upP R a tq (aE R a fr tq).1).2≠0 then(Pq.zero,(upP R a tq (aE R a fr tq).1).2)else
    ((upP R a tq (aE R a fr tq).1).1.inv.mul (upP R a fr (aE R a fr tq).1).1,0)
structure FindOk(R:Tr)(a:Int)(tq fr:Nm):Prop where
 up:jm R a (bx (bm R a fr) (aE R a fr tq).1) Pq.id
 dn:jm R a (bx (bm R a tq) (aE R a fr tq).1) Pq.id
 ou:(upP R a fr (aE R a fr tq).1).2=0->(upP R a fr (aE R a fr tq).1).1.ok 100000/\(upP R a fr (aE R a fr tq).1).1.good
 od:(upP R a tq (aE R a fr tq).1).2=0->(upP R a tq (aE R a fr tq).1).1.ok 100000/\(upP R a tq (aE R a fr tq).1).1.good/\(upP R a tq (aE R a fr tq).1).1.inv.ok 100000
theorem sL{R:Tr}{a:Int}{x y:Nm}(h:(aE R a x y).2=0):aF R x/\aF R y:=by
 unfold aE at h;split at h
 ·rename_i k;exact k
 ·simp at h
set_option maxHeartbeats 2000000 in
theorem fG{w:World}{t m:Nat}{E:List Ch}{tq fr:Nm}{a:Int}(hT:TM w t m E)(hE:Sane (trE E))(d5:FindOk (trE E) a tq fr):
  AF AD 18 #[ptB t,.string tq,.string fr,.int .i64 a] w λe w'=>∃v,e= .returned (.tuple #[v,.int .i64 (aP (trE E) a tq fr).2])/\aR w' v (aP (trE E) a tq fr).1/\AW w.heap.size w w':=by
 have c4:=PB.new w;have ap:=abn (hT.below c4.bel) hE fr tq a;have HT:=AE (show∀wq,AW w.heap.size w wq->TM wq t m E from λwq k=>hT.below k);have HE:=AE hE;obtain⟨M,hM⟩:∃M,aE (trE E) a fr tq=M:=⟨_,rfl⟩;obtain⟨Rz,cx⟩:∃r,r=aP (trE E) a tq fr:=⟨_,rfl⟩;have bi:=sL (R:=trE E) (a:=a) (x:=fr) (y:=tq);obtain⟨bp,bq,bt,bz⟩:=d5;rw[hM]at ap bi bp bq bt bz;have hz:=cx;unfold aP at hz;rw[hM]at hz;rw[<-cx];obtain⟨Z,mc⟩:=M;simp only at ap bi bp bq bt bz hz;have HZ:=AE hz;have ca:=AE bi;have cd:=AE bp;have cl:=AE bq;have cm:=AE bt;have cn:=AE bz;have ay:=AE c4;obtain⟨W,hW⟩:∃W,w.alloc (.cells ai.toArray 39)=W:=⟨_,rfl⟩;rw[hW]at ay ap;clear hT hE c4 cx hM bi bp bq bt bz hz;go_enter Tryz.func18,Tryz.ntmps18
 go_upto_region 0 with(fail)
 refine Bn ?_;refine ae rfl (v:=.pointer (some ⟨w.heap.size,0,none⟩)) (w':=W) (by subst hW;go_simp;try rfl) ?_;obtain⟨B8,cv⟩:∃B,w.heap.size=B:=⟨_,rfl⟩;have ed:=AE cv;rw[cv]at ay⊢;clear hW cv;by_cases h0:mc=0
 ·subst h0;obtain⟨kx,ky⟩:=ca.out rfl;have lx:=gI HE.out (a:=a) kx;have ly:=gI HE.out (a:=a) ky;have cp:=AE (show∀wq,AW w.heap.size w wq->AF AD 72 #[ptB t,.string fr,.string Z,.int .i64 a] wq λe w'=>∃v,e= .returned (.tuple #[v,.int .i64 (upP (trE E) a fr Z).2])/\aR w' v (upP (trE E) a fr Z).1/\AW wq.heap.size wq w' from λwq k=>q_rise (HT.out wq k) HE.out.ok (fg HE.out.ok a fr) no cd.out);have a4:=AE (show∀wq,AW w.heap.size w wq->AF AD 72 #[ptB t,.string tq,.string Z,.int .i64 a] wq λe w'=>∃v,e= .returned (.tuple #[v,.int .i64 (upP (trE E) a tq Z).2])/\aR w' v (upP (trE E) a tq Z).1/\AW wq.heap.size wq w' from λwq k=>q_rise (HT.out wq k) HE.out.ok (fg HE.out.ok a tq) no cl.out);have hz:=HZ.out;have o3:=cm.out;have o4:=cn.out;rw[if_neg Ad]at hz;generalize upP (trE E) a fr Z=U at *;generalize upP (trE E) a tq Z=D at *;obtain⟨up,uc⟩:=U;obtain⟨dn,dc⟩:=D;simp only at hz o3 o4 cp a4;have a6:=AE hz;have av:=AE o3;have ax:=AE o4;clear hz o3 o4 HZ cd cl cm cn kx ky lx ly ca HT HE;go_upto_region 4 with(go_at_call 71;refine ap.mono ?_;clear ap;rintro e w1 ⟨rfl,hb⟩;have Y:=AE (ay.out.next hb);clear hb)
  clear ay;have d0:=cp.out w1 Y.out.bel;refine Bn ?_;refine ae rfl (v:=ptB t) (w':=w1) Af ?_;refine ae rfl (v:=.string fr) (w':=w1) Af ?_;refine ae rfl (v:=.string Z) (w':=w1) Af ?_;refine ae rfl (v:=.int .i64 a) (w':=w1) Af ?_;refine BC rfl (λK hK=> ?_);go_simp;go_at_call 72
  refine d0.mono ?_;rintro e G ⟨v,rfl,hv,hb⟩;obtain⟨C,rfl,I,ab,ac⟩:=dJ hv;refine hK _ _ ?_;clear hK K d0;refine ae rfl (v:=.tuple #[.agg C.toArray,.int .i64 uc]) (w':=G) Af ?_;refine ae rfl (v:=.agg C.toArray) (w':=G) Ah ?_;refine ae rfl (v:=.int .i64 uc) (w':=G) Ah ?_;have J:=PB.new G;have a1:aR (G.alloc (.cells ai.toArray 39)) (.agg C.toArray) up:=IsL.mono hv J.bel;have V:=J.there;rw[<-I]at V;have an:=aQ C 0 _ (hb.trans (J.bel.mono hb.size)) hb.size (b:=G.heap.size);have aa:=AE (Y.out.next an);have a2:=AE ((J.base (Y.out.bel.trans (hb.mono Y.out.bel.size))).put (us:=C) I ac);have bO:=AE (J.keep (us:=C) a1);have c9:=AE (show G.heap.size=G.heap.size from rfl);have H:B8<G.heap.size:=by have:=Y.out.lt;have:=hb.size;omega
  refine ae rfl (v:=.pointer (some ⟨G.heap.size,0,none⟩)) (w':=G.alloc (.cells ai.toArray 39)) (by go_simp;try rfl) ?_;refine Ca rfl _ _ _ rfl G.heap.size 0 C.toArray rfl rfl (by simpa using V) (bc I) ab ?_;rw[show C.toArray.toList=C from rfl];generalize cz:(G.alloc (.cells ai.toArray 39)).setCells G.heap.size 0 C=W2 at *;obtain⟨b9,b0⟩:∃B,G.heap.size=B:=⟨_,rfl⟩;rw[b0]at a2 H⊢;have cb:=AE H;clear cz b0 c9 H J a1 V an hv hb ab ac I;clear Y cp;by_cases h0:uc=0
  ·subst h0;obtain⟨d2,d3⟩:=av.out rfl;have hz:=a6.out;rw[if_neg Ad]at hz;have a7:=AE hz;have HU:=AE (BA d2 d3);clear hz a6 av d2 d3;go_upto_region 7 with(fail)
   have dT:=a4.out W2 aa.out.bel;refine Bn ?_;refine ae rfl (v:=ptB t) (w':=W2) Af ?_;refine ae rfl (v:=.string tq) (w':=W2) Af ?_;refine ae rfl (v:=.string Z) (w':=W2) Af ?_;refine ae rfl (v:=.int .i64 a) (w':=W2) Af ?_;refine BC rfl (λK hK=> ?_);go_simp;go_at_call 72
   refine dT.mono ?_;rintro e G ⟨v,rfl,hv,hb⟩;obtain⟨F,rfl,I,ab,ac⟩:=dJ hv;refine hK _ _ ?_;clear hK K dT;refine ae rfl (v:=.tuple #[.agg F.toArray,.int .i64 dc]) (w':=G) Af ?_;refine ae rfl (v:=.agg F.toArray) (w':=G) Ah ?_;refine ae rfl (v:=.int .i64 dc) (w':=G) Ah ?_;have J:=PB.new G;have a1:aR (G.alloc (.cells ai.toArray 39)) (.agg F.toArray) dn:=IsL.mono hv J.bel;have V:=J.there;rw[<-I]at V;have an:=aQ F 0 _ (hb.trans (J.bel.mono hb.size)) hb.size (b:=G.heap.size);have a5:=AE (aa.out.next an);have au:=AE (a2.out.next an);have cq:=AE (IsL.mono bO.out an);have a3:=AE ((J.base (aa.out.bel.trans (hb.mono aa.out.bel.size))).put (us:=F) I ac);have dq:=AE (J.keep (us:=F) a1);have da:=AE (show G.heap.size=G.heap.size from rfl);have ao:B8<G.heap.size:=by have:=aa.out.lt;have:=hb.size;omega
   have H:b9<G.heap.size:=by have:=a2.out.lt;have:=hb.size;omega
   refine ae rfl (v:=.pointer (some ⟨G.heap.size,0,none⟩)) (w':=G.alloc (.cells ai.toArray 39)) (by go_simp;try rfl) ?_;refine Ca rfl _ _ _ rfl G.heap.size 0 F.toArray rfl rfl (by simpa using V) (bc I) ab ?_;rw[show F.toArray.toList=F from rfl];generalize cz:(G.alloc (.cells ai.toArray 39)).setCells G.heap.size 0 F=W3 at *;obtain⟨c8,b1⟩:∃B,G.heap.size=B:=⟨_,rfl⟩;rw[b1]at a3 ao H⊢;have cc:=AE ao;have db:=AE H;clear cz b1 da ao H J a1 V an hv hb ab ac I;clear aa a4 bO a2;by_cases h0:dc=0
   ·subst h0;have hz:=a7.out;rw[if_neg Ad]at hz;have cu:=AE hz;obtain⟨ea,d1,eb⟩:=ax.out rfl;clear hz a7;go_upto_region 10 with(fail)
    have c6:(AD.info? 39).map (·.size)=some F.length:=by rw[a3.out.len];kernel_rfl
    have c5:(AD.info? 39).map (·.size)=some C.length:=by rw[au.out.len];kernel_rfl
    have c3:AW W3.heap.size W3 W3.drew:=(AH _ _).drew;have b2:=aci _ dn W3.drew (IsL.mono dq.out c3) ea d1;refine wp_region_held_drew (S:=λw'=>w'.rangeAt c8 0 F/\w'.rangeAt b9 0 C) Aa ⟨by simpa using a3.out.ld,by simpa using au.out.ld⟩ (λak=> ?_);refine BM (i:=0) (v:=.agg F.toArray) rfl Aa Aa Aa (λ_ _ _ h=>h) (FS Af _ _ rfl c8 0 rfl _ _ (λw hw=>hw.1) CD rfl c6) ak ?_;refine BM (i:=2) (v:=.agg C.toArray) rfl Aa Aa Aa (λ_ _ _ h=>h) (FS Af _ _ rfl b9 0 rfl _ _ (λw hw=>hw.2) CD rfl c5) ak ?_;refine FB (rs:=[1]) Aa Ad ?_;refine Fr rfl (λK hK=> ?_) Fs;go_simp;go_at_call 56
    refine b2.mono ?_;rintro e w6 ⟨v,rfl,hv,hb⟩;obtain⟨ee,rfl,_,_,_⟩:=dJ hv;have a0:AW W3.heap.size W3 w6:=c3.trans hb;have ds:=a5.out.next a0;have hA:=a3.out.next a0;have hB:=au.out.next a0;refine hK.out _ _ ⟨hA.ld,hB.ld⟩ (λa9=> ?_);clear hK K ak b2;have b8:=jh _ _ dn.inv up w6 hv (IsL.mono cq.out a0) eb HU.out.1 d1.inv HU.out.2;refine FB (rs:=[3]) Aa Ad ?_;refine Fr rfl (λK hK=> ?_) Fs;go_simp;go_at_call 21
    refine b8.mono ?_;rintro e w7 ⟨v,rfl,c7,ar⟩;obtain⟨ad,rfl,I,ab,ac⟩:=dJ c7;have aq:=ds.next ar;refine hK.out _ _ ⟨(hA.next ar).ld,(hB.next ar).ld⟩ (λbb=> ?_);clear hK K a9 b8;have V:=aq.there;rw[<-I]at V;refine FB (rs:=[4]) Aa Ad ?_;refine Fr rfl (λK hK=> ?_) Fs;refine wp_store_mid _ _ _ rfl B8 0 ad.toArray rfl rfl (by simpa using V) (bc I) ab ?_;rw[show ad.toArray.toList=ad from rfl];have P:=AE (aq.put (us:=ad) I ac);have d4:=AE (aq.keep (us:=ad) c7);refine hK.out _ _ ⟨((hA.next ar).oth (us:=ad) (by have:=cc.out;omega) aq.ge).ld,((hB.next ar).oth (us:=ad) (by have:=cb.out;omega) aq.ge).ld⟩ (λbe=> ?_);clear hK K bb;generalize am:w7.setCells B8 0 ad=W9 at *;clear am V c7 ar I ab ac aq hA hB ds hv hb a0 c3;refine BM (i:=5) (v:=.int .i64 0) rfl Aa Aa Aa (λ_ _ _ h=>h) (Or.inl ⟨Af,λw hw=>Af⟩) be ?_;refine wpAnyH_done Aa ?_ _;go_wp2;refine Ba (P.out.ret rfl _ rfl) rfl ?_;rw[cu.out];exact⟨_,rfl,d4.out,P.out.bel⟩
   ·have dr:(dc==0)=false:=beq_eq_false_iff_ne.2 h0;have cu:=AE (show Rz=(Pq.zero,dc)by rw[a7.out,if_pos h0]);clear h0 a7 ax;go_upto_region 9 with(fail)
    refine Bn ?_;refine ae rfl (v:=.agg ai.toArray) (w':=W3) (by unfold ai;go_simp;try rfl) ?_;refine ae rfl (v:=.int .i64 dc) (w':=W3) Af ?_;refine Ca rfl _ _ _ rfl B8 0 ai.toArray rfl rfl a5.out.there Aa Aa ?_;have P:=AE (a5.out.put (us:=ai) rfl a5.out.nu);rw[show ai.toArray.toList=ai from rfl];generalize am:W3.setCells B8 0 ai=W9 at *;clear am;go_wp2;refine Ba (P.out.ret rfl _ rfl) rfl ?_;rw[cu.out];exact⟨_,rfl,dC _,P.out.bel⟩
  ·have dr:(uc==0)=false:=beq_eq_false_iff_ne.2 h0;have cr:=AE (show Rz=(Pq.zero,uc)by rw[a6.out,if_pos h0]);clear h0 a6 av ax a4;go_upto_region 6 with(fail)
   refine Bn ?_;refine ae rfl (v:=.agg ai.toArray) (w':=W2) (by unfold ai;go_simp;try rfl) ?_;refine ae rfl (v:=.int .i64 uc) (w':=W2) Af ?_;refine Ca rfl _ _ _ rfl B8 0 ai.toArray rfl rfl aa.out.there Aa Aa ?_;have P:=AE (aa.out.put (us:=ai) rfl aa.out.nu);rw[show ai.toArray.toList=ai from rfl];generalize am:W2.setCells B8 0 ai=W9 at *;clear am;go_wp2;refine Ba (P.out.ret rfl _ rfl) rfl ?_;rw[cr.out];exact⟨_,rfl,dC _,P.out.bel⟩
 ·have dr:(mc==0)=false:=beq_eq_false_iff_ne.2 h0;have cr:=AE (show Rz=(Pq.zero,mc)by rw[HZ.out,if_pos h0]);clear h0 ca cd cl cm cn HZ HT HE;go_upto_region 3 with(go_at_call 71;refine ap.mono ?_;clear ap;rintro e w1 ⟨rfl,hb⟩;have Y:=AE (ay.out.next hb);clear hb)
  refine Bn ?_;refine ae rfl (v:=.agg ai.toArray) (w':=w1) (by unfold ai;go_simp;try rfl) ?_;refine ae rfl (v:=.int .i64 mc) (w':=w1) Af ?_;refine Ca rfl _ _ _ rfl B8 0 ai.toArray rfl rfl Y.out.there Aa Aa ?_;have P:=AE (Y.out.put (us:=ai) rfl Y.out.nu);rw[show ai.toArray.toList=ai from rfl];generalize am:w1.setCells B8 0 ai=W9 at *;clear am;go_wp2;refine Ba (P.out.ret rfl _ rfl) rfl ?_;rw[cr.out];exact⟨_,rfl,dC _,P.out.bel⟩
end
section
open Classical
set_option maxHeartbeats 1000000 in
theorem q_Can{w:World}{t m:Nat}{E:List Ch}{tq fr:Nm}{a:Int}(hT:TM w t m E)(hE:Sane (trE E))(Y:FindOk (trE E) a tq fr):
  AF AD 19 #[ptB t,.string tq,.string fr,.int .i64 a] w λe w'=>e= .returned (.bool (decide ((aP (trE E) a tq fr).2=0)))/\AW w.heap.size w w':=by
 have hf:=fG hT hE Y;generalize aP (trE E) a tq fr=M at *;obtain⟨p,c⟩:=M;simp only at hf⊢;have H:=AH w.heap.size w;clear hT hE Y;go_enter Tryz.func19,Tryz.ntmps19
 go_upto_region 1 with(fail)
 refine Bn ?_;refine ae rfl (v:=ptB t) (w':=w) Af ?_;refine ae rfl (v:=.string tq) (w':=w) Af ?_;refine ae rfl (v:=.string fr) (w':=w) Af ?_;refine ae rfl (v:=.int .i64 a) (w':=w) Af ?_;refine BC rfl (λK hK=> ?_);go_simp;go_at_call 18
 refine hf.mono ?_;rintro e G ⟨v,rfl,hv,hb⟩;obtain⟨C,rfl,I,Z,aa⟩:=dJ hv;refine hK _ _ ?_;clear hK K hf;refine ae rfl (v:=.tuple #[.agg C.toArray,.int .i64 c]) (w':=G) Af ?_;refine ae rfl (v:=.agg C.toArray) (w':=G) Ah ?_;refine ae rfl (v:=.int .i64 c) (w':=G) Ah ?_;have F:=PB.new G;have ab:aR (G.alloc (.cells ai.toArray 39)) (.agg C.toArray) p:=IsL.mono hv F.bel;have P:=F.there;rw[<-I]at P;have V:=aQ C 0 _ (hb.trans (F.bel.mono hb.size)) hb.size (b:=G.heap.size);have H9:=AE ((F.base (H.trans (hb.mono (H).size))).put (us:=C) I aa);have ac:=AE (F.keep (us:=C) ab);refine ae rfl (v:=.pointer (some ⟨G.heap.size,0,none⟩)) (w':=G.alloc (.cells ai.toArray 39)) (by go_simp;try rfl) ?_;refine Ca rfl _ _ _ rfl G.heap.size 0 C.toArray rfl rfl (by simpa using P) (bc I) Z ?_;rw[show C.toArray.toList=C from rfl];have J:=AE ((H).trans (V.mono (H).size));generalize ad:(G.alloc (.cells ai.toArray 39)).setCells G.heap.size 0 C=W2 at *;obtain⟨B9,U⟩:∃B,G.heap.size=B:=⟨_,rfl⟩;rw[U]at H9⊢;clear ad U F ab P V hv hb Z aa I;clear ac H9;by_cases h0:c=0
 ·subst h0;go_wp2;go_ret;exact⟨rfl,J.out⟩
 ·have ak:(c==0)=false:=beq_eq_false_iff_ne.2 h0;have H0:=AE h0;clear h0;go_wp2;go_ret;exact⟨by rw[decide_eq_false H0.out];rfl,J.out⟩
noncomputable def pZ(R:Tr)(tq:Nm)(ta:Int)(fr:Nm)(fa:Int)(th:Nm):Pq×Int:=
 if (aP R fa th fr).2≠0 then(Pq.zero,(aP R fa th fr).2)else if (aP R ta tq th).2≠0 then(Pq.zero,(aP R ta tq th).2)else((aP R ta tq th).1.mul (aP R fa th fr).1,0)
structure AcrOk(R:Tr)(tq:Nm)(ta:Int)(fr:Nm)(fa:Int)(th:Nm):Prop where
 f1:FindOk R fa th fr
 f2:FindOk R ta tq th
 o1:(aP R fa th fr).2=0->(aP R fa th fr).1.ok 100000/\(aP R fa th fr).1.good
 o2:(aP R ta tq th).2=0->(aP R ta tq th).1.ok 100000/\(aP R ta tq th).1.good
set_option maxHeartbeats 2000000 in
theorem za{w:World}{t m:Nat}{E:List Ch}{tq fr th:Nm}{ta fa:Int}(hT:TM w t m E)(hE:Sane (trE E))(ca:AcrOk (trE E) tq ta fr fa th):
  AF AD 49 #[ptB t,.string tq,.int .i64 ta,.string fr,.int .i64 fa,.string th] w λe w'=>∃v,e= .returned (.tuple #[v,.int .i64 (pZ (trE E) tq ta fr fa th).2])/\aR w' v (pZ (trE E) tq ta fr fa th).1/\AW w.heap.size w w':=by
 have bi:=PB.new w;obtain⟨Rz,bb⟩:∃r,r=pZ (trE E) tq ta fr fa th:=⟨_,rfl⟩;have hz:=bb;unfold pZ at hz;rw[<-bb];obtain⟨k1,k2,o1,o2⟩:=ca;have ax:=fG (hT.below bi.bel) hE k1;have an:=AE (show∀wq,AW w.heap.size w wq->AF AD 18 #[ptB t,.string tq,.string th,.int .i64 ta] wq λe w'=>∃v,e= .returned (.tuple #[v,.int .i64 (aP (trE E) ta tq th).2])/\aR w' v (aP (trE E) ta tq th).1/\AW wq.heap.size wq w' from λwq k=>fG (hT.below k) hE k2);clear k1 k2;generalize aP (trE E) fa th fr=U at *;generalize aP (trE E) ta tq th=D at *;obtain⟨up,uc⟩:=U;obtain⟨dn,dc⟩:=D;simp only at hz o1 o2 ax an;have ar:=AE hz;have ao:=AE o1;have ap:=AE o2;have Y:=AE bi;obtain⟨w1,hW⟩:∃W,w.alloc (.cells ai.toArray 39)=W:=⟨_,rfl⟩;rw[hW]at Y ax;clear hT hE bi bb hz o1 o2;go_enter Tryz.func49,Tryz.ntmps49
 go_upto_region 0 with(fail)
 refine Bn ?_;refine ae rfl (v:=.pointer (some ⟨w.heap.size,0,none⟩)) (w':=w1) (by subst hW;go_simp;try rfl) ?_;obtain⟨B8,a9⟩:∃B,w.heap.size=B:=⟨_,rfl⟩;have cb:=AE a9;rw[a9]at Y⊢;clear hW a9;go_upto_region 1 with(fail)
 refine Bn ?_;refine ae rfl (v:=ptB t) (w':=w1) Af ?_;refine ae rfl (v:=.string th) (w':=w1) Af ?_;refine ae rfl (v:=.string fr) (w':=w1) Af ?_;refine ae rfl (v:=.int .i64 fa) (w':=w1) Af ?_;refine BC rfl (λK hK=> ?_);go_simp;go_at_call 18
 refine ax.mono ?_;rintro e I ⟨v,rfl,hv,hb⟩;obtain⟨C,rfl,G,aa,ab⟩:=dJ hv;refine hK _ _ ?_;clear hK K ax;refine ae rfl (v:=.tuple #[.agg C.toArray,.int .i64 uc]) (w':=I) Af ?_;refine ae rfl (v:=.agg C.toArray) (w':=I) Ah ?_;refine ae rfl (v:=.int .i64 uc) (w':=I) Ah ?_;have H:=PB.new I;have am:aR (I.alloc (.cells ai.toArray 39)) (.agg C.toArray) up:=IsL.mono hv H.bel;have J:=H.there;rw[<-G]at J;have V:=aQ C 0 _ (hb.trans (H.bel.mono hb.size)) hb.size (b:=I.heap.size);have P:=AE (Y.out.next V);have a5:=AE ((H.base (Y.out.bel.trans (hb.mono (Y.out.bel).size))).put (us:=C) G ab);have a0:=AE (H.keep (us:=C) am);refine ae rfl (v:=.pointer (some ⟨I.heap.size,0,none⟩)) (w':=I.alloc (.cells ai.toArray 39)) (by go_simp;try rfl) ?_;refine Ca rfl _ _ _ rfl I.heap.size 0 C.toArray rfl rfl (by simpa using J) (bc G) aa ?_;rw[show C.toArray.toList=C from rfl];have bz:=AE ((Y.out.bel).trans (V.mono (Y.out.bel).size));generalize be:(I.alloc (.cells ai.toArray 39)).setCells I.heap.size 0 C=W2 at *;obtain⟨bq,a2⟩:∃B,I.heap.size=B:=⟨_,rfl⟩;rw[a2]at a5⊢;clear be a2 H am J V hv hb aa ab G;clear Y;by_cases h0:uc=0
 ·subst h0;have hz:=ar.out;rw[if_neg Ad]at hz;have au:=AE hz;clear hz ar;have bp:=an.out W2 P.out.bel;go_upto_region 4 with(fail)
  refine Bn ?_;refine ae rfl (v:=ptB t) (w':=W2) Af ?_;refine ae rfl (v:=.string tq) (w':=W2) Af ?_;refine ae rfl (v:=.string th) (w':=W2) Af ?_;refine ae rfl (v:=.int .i64 ta) (w':=W2) Af ?_;refine BC rfl (λK hK=> ?_);go_simp;go_at_call 18
  refine bp.mono ?_;rintro e I ⟨v,rfl,hv,hb⟩;obtain⟨F,rfl,G,aa,ab⟩:=dJ hv;refine hK _ _ ?_;clear hK K bp;refine ae rfl (v:=.tuple #[.agg F.toArray,.int .i64 dc]) (w':=I) Af ?_;refine ae rfl (v:=.agg F.toArray) (w':=I) Ah ?_;refine ae rfl (v:=.int .i64 dc) (w':=I) Ah ?_;have H:=PB.new I;have am:aR (I.alloc (.cells ai.toArray 39)) (.agg F.toArray) dn:=IsL.mono hv H.bel;have J:=H.there;rw[<-G]at J;have V:=aQ F 0 _ (hb.trans (H.bel.mono hb.size)) hb.size (b:=I.heap.size);have aq:=AE (P.out.next V);have ay:=AE (a5.out.next V);have ad:=AE (IsL.mono a0.out V);have a6:=AE ((H.base (P.out.bel.trans (hb.mono (P.out.bel).size))).put (us:=F) G ab);have a1:=AE (H.keep (us:=F) am);refine ae rfl (v:=.pointer (some ⟨I.heap.size,0,none⟩)) (w':=I.alloc (.cells ai.toArray 39)) (by go_simp;try rfl) ?_;refine Ca rfl _ _ _ rfl I.heap.size 0 F.toArray rfl rfl (by simpa using J) (bc G) aa ?_;rw[show F.toArray.toList=F from rfl];have bO:=AE ((P.out.bel).trans (V.mono (P.out.bel).size));generalize be:(I.alloc (.cells ai.toArray 39)).setCells I.heap.size 0 F=W3 at *;obtain⟨bt,a3⟩:∃B,I.heap.size=B:=⟨_,rfl⟩;rw[a3]at a6⊢;clear be a3 H am J V hv hb aa ab G;clear P an a0 a5;by_cases h0:dc=0
  ·subst h0;have hz:=au.out;rw[if_neg Ad]at hz;have a7:=AE hz;obtain⟨u1,u2⟩:=ao.out rfl;obtain⟨d1,d2⟩:=ap.out rfl;have a4:=jh _ _ dn up W3 a1.out ad.out d1 u1 d2 u2;have b1:=AE (show(AD.info? 39).map (·.size)=some F.length by rw[a6.out.len];kernel_rfl);have b0:=AE (show(AD.info? 39).map (·.size)=some C.length by rw[ay.out.len];kernel_rfl);clear hz au u1 u2 d1 d2 ao ap a1 ad;go_upto_region 7 with(fail)
   refine Bn ?_;refine Du rfl _ _ rfl bt 0 rfl F _ a6.out.ld CD rfl b1.out ?_;refine Du rfl _ _ rfl bq 0 rfl C _ ay.out.ld CD rfl b0.out ?_;refine BC rfl (λK hK=> ?_);go_simp;go_at_call 21
   refine a4.mono ?_;rintro e w6 ⟨v,rfl,hv,hb⟩;obtain⟨ac,rfl,G,aa,ab⟩:=dJ hv;refine hK _ _ ?_;clear hK K a4;have av:=aq.out.next hb;have J:=av.there;rw[<-G]at J;refine Ca rfl _ _ _ rfl B8 0 ac.toArray rfl rfl (by simpa using J) (bc G) aa ?_;rw[show ac.toArray.toList=ac from rfl];have Z:=AE (av.put (us:=ac) G ab);have b2:=AE (av.keep (us:=ac) hv);generalize ak:w6.setCells B8 0 ac=W9 at *;clear ak J av hv hb aa ab G;go_wp2;refine Ba (Z.out.ret rfl _ rfl) rfl ?_;rw[a7.out];exact⟨_,rfl,b2.out,Z.out.bel⟩
  ·have b9:(dc==0)=false:=beq_eq_false_iff_ne.2 h0;have a7:=AE (show Rz=(Pq.zero,dc)by rw[au.out,if_pos h0]);clear h0 au ao ap;go_upto_region 6 with(fail)
   refine Bn ?_;refine ae rfl (v:=.agg ai.toArray) (w':=W3) (by unfold ai;go_simp;try rfl) ?_;refine ae rfl (v:=.int .i64 dc) (w':=W3) Af ?_;refine Ca rfl _ _ _ rfl B8 0 ai.toArray rfl rfl aq.out.there Aa Aa ?_;have Z:=AE (aq.out.put (us:=ai) rfl aq.out.nu);rw[show ai.toArray.toList=ai from rfl];generalize ak:W3.setCells B8 0 ai=W9 at *;clear ak;go_wp2;refine Ba (Z.out.ret rfl _ rfl) rfl ?_;rw[a7.out];exact⟨_,rfl,dC _,Z.out.bel⟩
 ·have b9:(uc==0)=false:=beq_eq_false_iff_ne.2 h0;have b8:=AE (show Rz=(Pq.zero,uc)by rw[ar.out,if_pos h0]);clear h0 ar ao ap an;go_upto_region 3 with(fail)
  refine Bn ?_;refine ae rfl (v:=.agg ai.toArray) (w':=W2) (by unfold ai;go_simp;try rfl) ?_;refine ae rfl (v:=.int .i64 uc) (w':=W2) Af ?_;refine Ca rfl _ _ _ rfl B8 0 ai.toArray rfl rfl P.out.there Aa Aa ?_;have Z:=AE (P.out.put (us:=ai) rfl P.out.nu);rw[show ai.toArray.toList=ai from rfl];generalize ak:W2.setCells B8 0 ai=W9 at *;clear ak;go_wp2;refine Ba (Z.out.ret rfl _ rfl) rfl ?_;rw[b8.out];exact⟨_,rfl,dC _,Z.out.bel⟩
end
section
open Classical
section
variable {R Q:Tr} {a:Int} {x y:Nm}
theorem Anc.req(h:REq R Q){l:List Nm}(k:Anc R a x l):Anc Q a x l:=by
 induction k with
 | root e=>exact .root ((h.par ..).symm.trans e)
 | step e _ ih=>exact .step ((h.par ..).symm.trans e) ih
theorem mK(h:REq R Q)(C:TOk R)(a:Int)(x:Nm):bm R a x=bm Q a x:=(mJ ((fg C a x).req h)).symm
theorem mL(h:REq R Q)(C:TOk R)(a:Int)(x y:Nm):aE R a x y=aE Q a x y:=by
 unfold aE;simp only[mK h C,h.known]
theorem zb(h:REq R Q)(a:Int):∀(l:List Nm)(p:Pq),cD R a l p=cD Q a l p
 | [],_=>rfl
 | f::l,p=>by
  unfold cD;rw[edge_req h,zb h a l]
theorem mM(h:REq R Q)(C:TOk R)(a:Int)(x y:Nm):aP R a x y=aP Q a x y:=by
 unfold aP upP;simp only[mL h C,mK h C,zb h]
noncomputable def eC(R:Tr)(a:Int):List Nm->Int
 | []=>0
 | f::l=>if (bC R f a).2=0 then eC R a l else(bC R f a).2
theorem eY:∀(l:List Nm)(p:Pq),(cD R a l p).2=eC R a l
 | [],_=>rfl
 | f::l,p=>by
  unfold cD eC;split
  ·exact eY l _
  ·rfl
theorem uH(R:Tr)(a:Int)(tq fr:Nm):(aP R a tq fr).2=if (aE R a fr tq).2≠0 then(aE R a fr tq).2 else if eC R a (bx (bm R a fr) (aE R a fr tq).1)≠0 then eC R a (bx (bm R a fr) (aE R a fr tq).1)else eC R a (bx (bm R a tq) (aE R a fr tq).1):=by
 unfold aP upP;rw[eY,eY];split
 ·rfl
 ·split
  ·rfl
  ·split
   ·rfl
   ·rename_i h;simp only[not_not]at h;exact h.symm
def IxS(L:List Nm)(c:Nm)(i:Int):Prop:=(i= -1/\c∉L)\/∃k:Nat,i=(k:Int)/\L[k]? =some c/\bx L c=L.take k
theorem ix_at{L:List Nm}{c:Nm}{k:Nat}(h:L[k]? =some c)(hn:∀i z,i<k->L[i]? =some z->z≠c):bx L c=L.take k:=by
 refine y9 (λz hz=> ?_) ?_
 ·obtain⟨i,hi⟩:=Dn hz;have C:i<k:=by have:=(A1.1 hi).1;rw[A9]at this;omega
  rw[BJ,if_pos C]at hi;exact hn i z C hi
 ·obtain⟨A,B,rfl,rfl⟩:=ei h;exact⟨B,Ad⟩
end
end
section
open Classical
def rv(L:List Nm)(i k:Nat):Option Nm:=if k<i\/L.length - i<=k then L[L.length - 1 - k]? else L[k]?
structure RvAt(w W:World)(g:Nat)(cap:Nat)(L:List Nm)(i:Nat):Prop where
 upd:Upd w g W
 blk:∃cur,W.heap[g]? =some (.cells cur 9 (0,0))/\cur.size=cap/\∀k,k<L.length->∃x,rv L i k=some x/\cur[k]? =some (.string x)
variable{w W:World}{g:Nat}
theorem Upd.drew'(u:Upd w g W):Upd w g W.drew:=⟨u.os,u.tape,u.output,u.size,u.block⟩
variable{L:List Nm}
theorem RvAt.next{cap:Nat}{i:Nat}{x y:Nm}(h:RvAt w W g cap L i)(hn:L.length<=cap)(K:2*i+1<L.length)(I:rv L i i=some x)(hy:rv L i (L.length - 1 - i)=some y):
  RvAt w ((W.setCell ⟨g,i,none⟩ (.string y)).setCell ⟨g,L.length - 1 - i,none⟩ (.string x)).drew g cap L (i+1):=by
 obtain⟨cur,hc,C,J⟩:=h.blk;have G:L[i]? =some x:=by unfold rv at I;rwa [if_neg no]at I
 have H:L[L.length - 1 - i]? =some y:=by unfold rv at hy;rwa [if_neg no]at hy
 refine⟨Upd.drew' ((h.upd.trans (Upd.cell _ _ _ _)).trans (Upd.cell _ _ _ _)),_,C1 _ g _ _ _ _ (C1 _ g _ _ _ _ hc),by simp[C],λk F=> ?_⟩;rw[DV,DV,Array.size_setIfInBounds];by_cases e1:L.length - 1 - i=k
 ·refine⟨x,?_,by rw[if_pos e1,if_pos no]⟩;unfold rv;rw[if_pos (.inr no),show L.length - 1 - k=i by omega];exact G
 ·rw[if_neg e1];by_cases e2:i=k
  ·refine⟨y,?_,by rw[if_pos e2,if_pos no]⟩;unfold rv;rw[if_pos (.inl no),<-e2];exact H
  ·rw[if_neg e2];obtain⟨z,h1,h2⟩:=J k F;refine⟨z,?_,h2⟩;rw[<-h1];unfold rv;by_cases hc1:k<i\/L.length - i<=k
   ·rw[if_pos hc1,if_pos no]
   ·rw[if_neg hc1,if_neg no]
theorem RvAt.done{cap b:Nat}{i:Nat}(h:RvAt w W g cap L i)(hb:b<=g/\L.length<=cap/\cap<=maxLen)(hi:L.length<=2*i+1)(G:2*i<=L.length+1):aU W b (.slice (some ⟨g,0,none⟩) L.length cap) L.reverse:=by
 obtain⟨cur,hc,F,H⟩:=h.blk;refine⟨Ad,.inr ⟨g,cap,cur,Ad,hb.1,hc,by simpa using hb.2.1,hb.2.2,by omega,?_⟩⟩;apply DO;intro k;rw[BJ,Bp,List.length_reverse,Nat.mul_one];split
 ·rename_i C;obtain⟨z,h1,h2⟩:=H k C;rw[BR,h2,List.getElem?_reverse C];unfold rv at h1;split at h1
  ·rw[h1];rfl
  ·rw[show L.length - 1 - k=k by omega,h1];rfl
 ·rename_i C;rw[EH (by simp;omega)];rfl
set_option maxHeartbeats 1000000 in
theorem q_Reverse{v:Value}{b:Nat}(h:aU w b v L)(hL:L.length<=1000):
  AF AD 107 #[v] w λe w'=>(∃u,e= .returned u)/\aU w' b v L.reverse/\(∀g,v.ownBlock=some g->Upd w g w')/\(v.ownBlock=none->w'=w):=by
 rcases h.2 with⟨rfl,hn⟩ | ⟨g,cap,cur,rfl,hb,hc,K,I,C,P⟩
 ·have:L=[]:=CG hn;subst this;go_enter Tryz.func107,Tryz.ntmps107
  go_wp2;refine _root_.Go.wp_loop_rounds 1 ?_;rw[rounds_succ];go_wp2;go_end0
  exact⟨⟨_,rfl⟩,Dz _ _ _ _,λg hg=>(by cases hg),λ_=>rfl⟩
 ·obtain⟨n,hn⟩:∃n,n=L.length:=⟨_,rfl⟩;rw[<-hn];have H0:=AE (show RvAt w w g cap L 0 from⟨⟨rfl,rfl,rfl,rfl,λ_ _=>rfl⟩,cur,hc,no,λk G=>by
   refine⟨L[k],by unfold rv;rw[if_neg no,AM G],?_⟩;have h1:(L.map Bc)[k]? =some (.string L[k]):=by rw[Bp,AM G];rfl
   rw[<-P,BJ]at h1;split at h1
   ·rw[<-BR];exact h1
   ·cases h1⟩)
  have F:=AE hn;have hm:(n:Int)<=1000:=no
  have HB:=AE (BA hb (BA K I));clear h hb hc K I C P hn hL;go_enter Tryz.func107,Tryz.ntmps107
  go_wp2;go_loopw [2,3] (λZ s3 wr=>∃i:Nat,2*i<=n+1/\Z= .int .i64 (i:Int)/\s3= .int .i64 ((n:Int) - 1 - i)/\Hid (RvAt w wr g cap L i)) (λZ _ _=>n+1 - (intOf Z).toNat)
  case atStart=>exact⟨0,no,rfl,Ad,H0⟩
  case round=>
   clear H0;obtain⟨i,hi,rfl,rfl,H⟩:=hrel;rcases Bg (2*i+1) n with Y | ab
   ·have J:((i:Int)<(n:Int) - 1 - i)=True:=eq_true no;obtain⟨cur,hc,C,G⟩:=H.out.blk;obtain⟨x,hx,c1⟩:=G i (by rw[<-F.out];omega);obtain⟨y,hy,c2⟩:=G (n - 1 - i) (by rw[<-F.out];omega);have f1:wr.cell? ⟨g,i,none⟩=some (.string x):=by rw[aH hc];exact c1
    have f2:wr.cell? ⟨g,n - 1 - i,none⟩=some (.string y):=by rw[aH hc];exact c2
    have aa:∀j,wr.frozen? ⟨g,j,none⟩=false:=λj=>by simp[World.frozen?,hc]
    have ak:((n:Int) - 1 - i).toNat=n - 1 - i:=no
    have hr1:(0:Int)<=(n:Int) - 1 - i:=no
    have ad:(n:Int) - 1 - i<n:=no
    have HC:=AE (BA hc (BA C G));clear hc C G c1 c2;have ac:i≠n - 1 - i:=no
    have U:=AE (show RvAt w ((wr.setCell ⟨g,i,none⟩ (.string y)).setCell ⟨g,n - 1 - i,none⟩ (.string x)).drew g cap L (i+1)from by
     have h1:=H.out.next HB.out.2.1 (by rw[<-F.out];exact Y) hx (by rw[<-F.out];exact hy);rw[<-F.out]at h1;exact h1)
    clear hx hy;go_wp2;go_region
    go_wp2;go_roundw
    case rel=>exact⟨i+1,no,by go_num,by go_num,U⟩
    case measure=>simp[intOf];omega
   ·have J:((i:Int)<(n:Int) - 1 - i)=False:=eq_false no;have HQ:=AE (show aU wr b (.slice (some ⟨g,0,none⟩) n cap) L.reverse from by
     have h1:=H.out.done HB.out (by rw[<-F.out];omega) (by rw[<-F.out];omega);rw[<-F.out]at h1;exact h1)
    have HU:=AE H.out.upd;clear H;go_wp2;go_end0
    exact⟨⟨_,rfl⟩,HQ.out,λg' V=>by have e:g=g':=A4.inj V;subst e;exact HU.out,λh=>by cases h⟩
end
section
open Classical
theorem nm_app{w:World}{base:Nat}{v:Value}{L L2:List Nm}{ty:TypeId}{ad:A0}{c:Nat}(h:aU w base v L)(hb:base<=w.heap.size)(hl:L.length+L2.length<=1000)(hc:∀j u,(L2.map Bc)[j]? =some u->w.cell? (ad.add j)=some u):
  ∃v' w',(BT #[68,68] ty #[v,.slice (some ad) L2.length c]).run AD w= .ok v' w'/\aU w' base v' (L++L2)/\w.grownBy w' v.ownBlock/\(v'.ownBlock=v.ownBlock\/v'.ownBlock=some w.heap.size):=by
 have H:(1000:Nat)<=maxLen:=by unfold maxLen;omega
 obtain⟨J,hi,C,F,G⟩:=info_parts (show(AD.info? 9).map (λi=>(i.zero,i.size,i.bytes))=some (some (.string BZ),1,16)by kernel_rfl);obtain⟨v',w',K,k2,k3,_,U⟩:=run_append_own_at (P:=AD) (w:=w) base 68 ty 9 J (.string BZ) 1 16 DJ hi C F G rfl it v L.length (L.map Bc) h ad L2.length c (L2.map Bc) Ad hc (λu I=>by obtain⟨x,_,rfl⟩:=Be.1 I;rfl) no no hb;refine⟨v',w',K,?_,k3,U⟩;show w'.ownsRow base 9 1 v' (L++L2).length ((L++L2).map Bc);rw[Bj,Cl];exact k2
noncomputable def mN(R:Tr)(a:Int)(x y:Nm):List Nm:=bx (bm R a x) (aE R a x y).1++ [(aE R a x y).1]++(bx (bm R a y) (aE R a x y).1).reverse
end
section
open Classical
set_option maxHeartbeats 2000000 in
theorem q_Path{w:World}{t m:Nat}{E:List Ch}{x y:Nm}{a:Int}(hT:TM w t m E)(hE:Sane (trE E)):
  AF AD 48 #[ptB t,.string x,.string y,.int .i64 a] w λe w'=>∃v,e= .returned (.tuple #[v,.int .i64 (aE (trE E) a x y).2])/\(if (aE (trE E) a x y).2=0 then aU w' w.heap.size v (mN (trE E) a x y)else v= .slice none 0 0)/\AW w.heap.size w w':=by
 have ab:=abn hT hE x y a;have ao:=sL (R:=trE E) (a:=a) (x:=x) (y:=y);unfold mN;generalize aE (trE E) a x y=M at *;obtain⟨C,mc⟩:=M;simp only at ab ao⊢;by_cases h0:mc=0
 ·subst h0;obtain⟨kx,ky⟩:=ao rfl;have lx:=gI hE (a:=a) kx;have ly:=gI hE (a:=a) ky;have ax:=AE (show∀wq,AW w.heap.size w wq->AF AD 106 #[ptB t,.string x,.string C,.int .i64 a] wq λe w'=>∃v,e= .returned v/\aU w' wq.heap.size v (bx (bm (trE E) a x) C)/\AW wq.heap.size wq w' from λwq k=>wA (hT.below k) (fg hE.ok a x) no);have ay:=AE (show∀wq,AW w.heap.size w wq->AF AD 106 #[ptB t,.string y,.string C,.int .i64 a] wq λe w'=>∃v,e= .returned v/\aU w' wq.heap.size v (bx (bm (trE E) a y) C)/\AW wq.heap.size wq w' from λwq k=>wA (hT.below k) (fg hE.ok a y) no);have l1:(bx (bm (trE E) a x) C).length<=24:=AG ((List.takeWhile_sublist _).length_le) lx;have l2:(bx (bm (trE E) a y) C).length<=24:=AG ((List.takeWhile_sublist _).length_le) ly;generalize bx (bm (trE E) a x) C=LX at *;generalize bx (bm (trE E) a y) C=LY at *
  suffices HS:AF AD 48 #[ptB t,.string x,.string y,.int .i64 a] w λe w'=>∃v,e= .returned (.tuple #[v,.int .i64 0])/\aU w' w.heap.size v (LX++ [C]++LY.reverse)/\AW w.heap.size w w' from HS.mono (by
   rintro e w' ⟨v,rfl,k1,k2⟩;exact⟨v,rfl,by rw[if_pos rfl];exact k1,k2⟩)
  clear hT hE ao kx ky lx ly;go_enter Tryz.func48,Tryz.ntmps48
  go_upto_region 4 with(go_at_call 71;refine ab.mono ?_;clear ab;rintro e w1 ⟨rfl,hb⟩;have G:=AE hb;clear hb)
  have a4:=ax.out w1 G.out;refine Bn ?_;refine ae rfl (v:=ptB t) (w':=w1) Af ?_;refine ae rfl (v:=.string x) (w':=w1) Af ?_;refine ae rfl (v:=.string C) (w':=w1) Af ?_;refine ae rfl (v:=.int .i64 a) (w':=w1) Af ?_;refine BC rfl (λK hK=> ?_);go_simp;go_at_call 106
  refine a4.mono ?_;rintro e w2 ⟨v1,rfl,U,hb⟩;refine hK _ _ ?_;clear hK K a4 ax;have an:=G.out.trans (hb.mono G.out.size);obtain⟨v2,w3,I,F,V,bi⟩:=nm_app (ty:=68) (ad:=⟨w2.heap.size,0,none⟩) (c:=1) (L2:=[C]) (en (w':=w2.alloc (.cells #[.string C] 9)) U (λg hg=>Fx _ _ g (cf U hg).2)) (by rw[asz];have:=hb.size;omega) (by simp;omega) (λj u hu=>by
   rw[bQ,A7,aH (Bs w2 _)]
   cases j with
   | zero=>simpa using hu
   | succ j=>simp at hu)
  have a2:AW w.heap.size w w3:=(an.alloc an.size _).grown V (by rw[asz];have:=an.size;omega) (λk e=>by
   have:=(cf U (g:=k) e).1;have:=G.out.size;omega)
  refine ae rfl (v:=.string C) (w':=w2) Ah ?_;refine ae rfl (v:=.slice (some ⟨w2.heap.size,0,none⟩) 1 1) (w':=w2.alloc (.cells #[.string C] 9)) Ah ?_;refine jk rfl rfl rfl rfl I ?_;have a1:=AE (show w1.heap.size<=w3.heap.size from AG hb.size (AG (by rw[asz];omega) V.size));have Y:=AE F;have ak:=AE a2;clear I F V bi a2 an U hb;have a5:=ay.out w3 ak.out;clear ay
  go_upto_region 7 with(first
   | (go_at_call 106;refine a5.mono ?_;clear a5;rintro e w4 ⟨v3,rfl,J,a3⟩;have a9:=q_Reverse J no;have a0:=AE J;have am:=AE a3;clear J a3)
   | (go_at_call 107;refine a9.mono ?_;clear a9;rintro e w5 ⟨⟨u,rfl⟩,H,hu,hn⟩))
  have ar:∀g,v2.ownBlock=some g->g<w3.heap.size:=λg hg=>(cf Y.out hg).2
  have Z:∀g,g<w3.heap.size->w5.heap[g]? =w3.heap[g]? :=λg hg=>by
   cases ho:v3.ownBlock with
   | none=>rw[hn ho];exact am.out.block g hg
   | some g3=>
    have h3:=(cf a0.out ho).1;rw[(hu g3 ho).block g no];exact am.out.block g hg
  have aq:w5.heap.size=w4.heap.size:=by
   cases ho:v3.ownBlock with
   | none=>rw[hn ho]
   | some g3=>exact(hu g3 ho).size
  have aa:AW w.heap.size w w5:=by
   have h4:AW w.heap.size w w4:=ak.out.trans (am.out.mono ak.out.size)
   cases ho:v3.ownBlock with
   | none=>rw[hn ho];exact h4
   | some g3=>exact(hu g3 ho).below h4 (by have:=(cf a0.out ho).1;have:=ak.out.size;omega)
  have F:aU w5 w1.heap.size v2 (LX++ [C]):=en Y.out (λg hg=>Z g (ar g hg));have au:w1.heap.size<=w5.heap.size:=by have:=a1.out;have:=am.out.size;omega
  rcases id H.2 with⟨av,a6⟩ | ⟨g3,ap,bt,av,_⟩
  ·subst av;have hl:LY.reverse=[]:=CG a6;rcases id F.2 with⟨_,hz⟩ | ⟨g2,P,bq,bp,_,_,a7,_⟩
   ·simp at hz
   ·subst bp;have bz:LX.length+1<=P:=by simpa using a7
    have e:(LX++ [C]).length=LX.length+1:=Ad
    have HQ:=AE (show aU w5 w.heap.size (.slice (some ⟨g2,0,none⟩) (LX.length+1) P) (LX++ [C]++LY.reverse)by rw[hl,CO,<-e];exact E4 F G.out.size);clear e a7;have bb:=AE aa;clear hl a6 F aa Z ar aq hu hn H au;refine Bn ?_;refine ae rfl (v:=.slice (some ⟨g2,0,none⟩) (LX++ [C]).length P) (w':=w5) Af ?_;refine ae rfl (v:=.slice none 0 0) (w':=w5) Af ?_;refine ae rfl (v:=.slice (some ⟨g2,0,none⟩) (LX++ [C]).length P) (w':=w5) Ah ?_;go_wp2;go_ret2
    exact⟨_,rfl,HQ.out,bb.out⟩
  ·subst av;obtain⟨v6,w6,I,ac,V,_⟩:=nm_app (ty:=68) (ad:=⟨g3,0,none⟩) (c:=ap) (L2:=LY.reverse) F au (by simp;omega) (λj u hu=>by
    obtain⟨g',e',h'⟩:=di H hu;injection e' with e';injection e' with e';subst e';rw[bQ,A7];exact h')
   have HQ:=AE (show aU w6 w.heap.size v6 (LX++ [C]++LY.reverse)from E4 ac G.out.size);have be:=AE (aa.grown V aa.size (λk e=>by have:=(cf F (g:=k) e).1;have:=G.out.size;omega));clear F aa Z ar aq hu hn H au ac V;refine Bn ?_;refine ae rfl (v:=v2) (w':=w5) Af ?_;refine ae rfl (v:=.slice (some ⟨g3,0,none⟩) LY.reverse.length ap) (w':=w5) Af ?_;refine jk rfl rfl rfl rfl I ?_;clear I;go_wp2;go_ret2
   exact⟨_,rfl,HQ.out,be.out⟩
 ·have bO:(mc==0)=false:=beq_eq_false_iff_ne.2 h0
  suffices HS:AF AD 48 #[ptB t,.string x,.string y,.int .i64 a] w λe w'=>e= .returned (.tuple #[.slice none 0 0,.int .i64 mc])/\AW w.heap.size w w' from HS.mono (by
   rintro e w' ⟨rfl,k2⟩;exact⟨_,rfl,by rw[if_neg h0],k2⟩)
  clear h0 ao hT hE;go_enter Tryz.func48,Tryz.ntmps48
  go_wp2_with (go_at_call 71;refine ab.mono ?_;clear ab;rintro e w1 ⟨rfl,hb⟩;have G:=AE hb;clear hb)
  go_ret2
  exact⟨rfl,G.out⟩
end
section
open Classical
def Nms(w:World)(v:Value)(L:List Nm):Prop:=∃ad cap,v= .slice ad L.length cap/\∀(k:Nat)(x:Nm),L[k]? =some x->∃b o,ad=some ⟨b,o,none⟩/\b<w.heap.size/\w.cell? ⟨b,o+k,none⟩=some (.string x)
variable{w:World}{v:Value}{L:List Nm}
theorem aU.nms{b:Nat}(h:aU w b v L):Nms w v L:=by
 obtain⟨C,cap,rfl⟩:=cV h;refine⟨C,cap,rfl,λk x F=> ?_⟩;obtain⟨g,e,hc⟩:=di (show w.ownsRow b 9 1 (.slice C L.length cap) L.length (L.map Bc)from h) (show(L.map Bc)[k]? =some (.string x)by rw[Bp,F];rfl);exact⟨g,0,e,(cf h (g:=g) (by rw[e];rfl)).2,by rw[A7];exact hc⟩
theorem Nms.below{w':World}(h:Nms w v L)(k:AW w.heap.size w w'):Nms w' v L:=by
 obtain⟨F,cap,rfl,hc⟩:=h;refine⟨F,cap,rfl,λi x C=> ?_⟩;obtain⟨b,o,e,hb,C⟩:=hc i x C;exact⟨b,o,e,Bv hb k.size,by rw[k.cell (p:=⟨b,_,none⟩) hb];exact C⟩
abbrev nmQ(L:List Nm):List Vp:=L.map λx=>.val (.string x)
theorem acK(h:(Vp.row 9 L.length (nmQ L)).p w v):Nms w v L:=by
 rcases h with⟨h1,h2,rfl⟩ | ⟨b,o,c,cs,rfl,hn,hb,F⟩
 ·have:L=[]:=CG h2;subst this;exact⟨none,0,rfl,λk x C=>by cases C⟩
 ·refine⟨_,c,rfl,λk x C=> ?_⟩;obtain⟨u,h1,h2,_⟩:=F k (.val (.string x)) (by rw[Bp,C];rfl);have e:u= .string x:=h2.1;subst e;exact⟨b,o,rfl,(A2.1 hb).1,by rw[aH hb];exact h1⟩
theorem names_row{b:Nat}(h:aU w b v L):(Vp.row 9 L.length (nmQ L)).p w v:=by
 rcases h.2 with⟨rfl,hl⟩ | ⟨g,cap,cur,rfl,_,I,hn,_,H,F⟩
 ·have:L=[]:=CG hl;subst this;exact .inl ⟨rfl,rfl,rfl⟩
 ·refine .inr ⟨g,0,cap,cur,rfl,hn,I,λj q C=> ?_⟩;obtain⟨x,G,rfl⟩:∃x,L[j]? =some x/\q= .val (.string x):=by
   rw[Bp]at C
   cases G:L[j]? with
   | none=>rw[G]at C;cases C
   | some x=>rw[G]at C;injection C with C;exact⟨x,rfl,C.symm⟩
  have J:=(A1.1 G).1;have h1:(cur.toList.take (L.length*1))[j]? =some (Bc x):=by rw[F,Bp,G];rfl
  rw[List.getElem?_take_of_lt no,BR]at h1;exact⟨_,by rw[A7];exact h1,⟨rfl,go⟩,λ_ h=>h⟩
theorem zc{v2:Value}{L2:List Nm}(h:Nms w v L)(h2:Nms w v2 L2)(hL:L.length<=1000)(U:L2.length<=1000):AF AD 62 #[v,v2] w λe w'=>e= .returned (.bool (decide (L=L2)))/\mBw w w':=by
 obtain⟨ad,cap,rfl,hc⟩:=h;obtain⟨ac,aa,rfl,C⟩:=h2;have H:=AE hc;have H2:=AE C;obtain⟨n,hn⟩:∃n,n=L.length:=⟨_,rfl⟩;obtain⟨n2,F⟩:∃n,n=L2.length:=⟨_,rfl⟩;rw[<-hn,<-F];rw[<-hn]at hL;rw[<-F]at U;have HN:=AE hn;have P:=AE F;have hm:(n:Int)<=1000:=no
 clear hc C;by_cases hnn:n=n2
 ·subst hnn;obtain⟨q,hq⟩:∃q,decide (L=L2)=q:=⟨_,rfl⟩;have HQ:=AE hq;rw[hq];clear hn F hq hL U;go_enter Tryz.func62,Tryz.ntmps62
  go_wp2;go_loopw [5] (λs5 wr=>∃k:Nat,k<=n/\s5= .int .i64 (k:Int)/\Hid (mBw w wr)/\Hid (∀j,j<k->L[j]? =L2[j]?)) (λs5 _=>n - (intOf s5).toNat)
  case atStart=>exact⟨0,A3 _,rfl,AE (AH _ _),AE (λj h=>absurd h (Dd j))⟩
  case round=>
   obtain⟨k,hk,rfl,Y,HE⟩:=hrel;rcases Bg k n with V | ak
   ·obtain⟨x,G⟩:∃x,L[k]? =some x:=⟨_,AM (by rw[<-HN.out];exact V)⟩;obtain⟨y,hy⟩:∃x,L2[k]? =some x:=⟨_,AM (by rw[<-P.out];exact V)⟩;obtain⟨g,o,rfl,hg,hc⟩:=H.out k x G;obtain⟨g2,o2,rfl,I,C⟩:=H2.out k y hy;have f1:wr.cell? ⟨g,o+k,none⟩=some (.string x):=by rw[Y.out.cell (p:=⟨g,o+k,none⟩) hg];exact hc
    have f2:wr.cell? ⟨g2,o2+k,none⟩=some (.string y):=by rw[Y.out.cell (p:=⟨g2,o2+k,none⟩) I];exact C
    have K:=AE (show mBw w wr.drew from Y.out.drew);by_cases e:x=y
    ·subst e;have Z:=AE (show∀j,j<k+1->L[j]? =L2[j]? from λj hj=>by
      rcases Bg j k with h | h
      ·exact HE.out j h
      ·obtain rfl:j=k:=no
       rw[G,hy])
     clear G hy hc C hg I;go_wp2;go_region
     go_wp2;go_roundw
     case rel=>exact⟨k+1,no,by go_num,K,Z⟩
     case measure=>simp[intOf];omega
    ·have J:=gW e;have HF:=AE (show q=false from by
      rw[<-HQ.out];exact decide_eq_false (λh=>by rw[h,hy]at G;injection G with G;exact e G.symm))
     clear G hy hc C hg I e;go_wp2;go_region
     go_wp2;go_ret;exact⟨by rw[HF.out];rfl,K.out⟩
   ·obtain rfl:k=n:=no
    have HT:=AE (show q=true from by
     rw[<-HQ.out];refine decide_eq_true (DO (λj=> ?_));rcases Bg j k with h | h
     ·exact HE.out j h
     ·rw[EH (by rw[<-HN.out];exact h),EH (by rw[<-P.out];exact h)])
    go_wp2;go_ret;exact⟨by rw[HT.out];rfl,Y.out⟩
 ·have J:¬L=L2:=λe=>hnn (by rw[hn,F,e])
  rw[decide_eq_false J];have ab:((n:Int)==(n2:Int))=false:=beq_eq_false_iff_ne.2 no;clear J hn F;go_enter Tryz.func62,Tryz.ntmps62
  go_wp2;go_ret;exact⟨rfl,AH _ _⟩
end
section
open Classical
variable {w:World} {g:Nat} {sl:Value} {S:List St}
theorem q_oppR{va vb:Value}{a b:Pq}(ia:aR w va a)(G:aR w vb b)(ha:a.ok 2)(hb:b.ok 2)(C:a.good)(F:b.good):AF AD 207 #[va,vb] w λe w'=>e= .returned (.bool (decide (opp a b)))/\mBw w w':=by
 by_cases h:opp a b
 ·rw[decide_eq_true h];exact q_rop1 va vb a b w ia G (ha.mono it) (hb.mono it) C F h
 ·rw[decide_eq_false h];exact q_rop0 va vb a b w ia G (ha.mono it) (hb.mono it) C F h
theorem q_eqlR{va vb:Value}{a b:Pq}(ia:aR w va a)(C:aR w vb b)(ha:a.ok 2)(hb:b.ok 2):AF AD 45 #[va,vb] w λe w'=>e= .returned (.bool (decide (a=b)))/\mBw w w':=by
 by_cases h:a=b
 ·rw[decide_eq_true h];exact rS va vb a b w ia C (ha.mono it) (hb.mono it) h
 ·rw[decide_eq_false h];exact aaW va vb a b w ia C (ha.mono it) (hb.mono it) h
theorem ownr_nil:(Vp.ownr stT 22 0 []).p w (.slice none 0 0):=⟨[],⟨⟨rfl,.inl Ai⟩,λg C=>by cases C⟩,⟨rfl,λj q h=>Ao⟩⟩
variable{v:Value}
theorem app_own{w0:World}{x:Value}{n M:Nat}{qs C:List Vp}{ty:TypeId}(G:(Vp.ownr stT 22 n qs).p w v)(K:(Vp.row stT M C).p w x)(I:C.length=M*22)(hn:n+M<=1000)(hb:AW w0.heap.size w0 w)(hf:∀g,v.ownBlock=some g->w0.heap.size<=g):
  ∃v' w',(BT #[183,183] ty #[v,x]).run AD w= .ok v' w'/\mBw w0 w'/\(∀g,v'.ownBlock=some g->w0.heap.size<=g)/\(Vp.ownr stT 22 (n+M) (qs++C)).p w' v':=by
 obtain⟨xs,G,hc⟩:=G;obtain⟨v',w',J,H,_,F,h3⟩:=rX (p:=AD) (ty:=ty) (bytes:=400) CC Aa G hc K I no no;exact⟨v',w',J,hb.grown H hb.size hf,λg h=>(F g h).elim (hf g) (AG hb.size),h3⟩
theorem kx_sh{n:Nat}{o:Oper}{l:List (Nat×Value)}{a:Act}{x y:AS}{t:TypeId}{F r:Value}(C:Kn n l a)(G:o.op= .slice t x none (some y) none)(H:evK l x=some F)(hy:evK l y=some v)(hr:(CI t F none (some v) none).run AD w= .ok r w):(execOp a.eval o).run AD w= .ok (.value r) w:=by
 unfold execOp;simp only[G];rw[C.evx H];simp only[Option.map_some,Option.map_none];rw[C.evx hy];simp only[AK,hr];rfl
set_option maxHeartbeats 2000000 in
theorem k_rAdd{s:St}(h:TrkS 185 w g sl S)(i:aaX w v s)(hs:s.pose.ok 2)(bi:s.pose.rot.comp/\s.pose.pos.good)(hS:GoodS S):AF AD 156 #[ptG g,v] w λe w'=>e= .returned (.int .i64 (fT S s).2)/\TrkM 185 w g sl (fT S s).1 w':=by
 have hn:=hS.len;obtain⟨cs,rfl,I⟩:=i;go_enter Tryz.func156,Tryz.ntmps156
 refine bf 141 [(0,ptG g),(1,.agg (AN .i64 s.tm::cs).toArray)] λC=> ?_
 refine mDn ?_;refine bg ?_;refine vX (sE I) C λ{_ W B} V C=> ?_
 refine sZ C ?_;intro _ C;obtain⟨f1,f2,f3⟩:=V.st I;have hb:=AH W.heap.size W;have hm:=h.mono V.bel;obtain⟨ad,c1,P,f0⟩:=hm.form;have a3:=q_rVal (w:=W) ⟨cs,rfl,I.mono V.bel⟩ hs bi;have ao:∀w',mBw W w'->(S,(4:Int))=fT S s->TrkM 185 w g sl (fT S s).1 w':=λw' hb e=>by
  rw[<-e];exact .keep h (V.bel.trans (hb.mono V.bel.size))
 by_cases h1:s.tm<0
 ·have e:(S,(4:Int))=fT S s:=(if_pos (.inl h1)).symm;refine sX C ?_;intro _ C;refine mCt C ?_;refine sX C ?_;intro _ C;refine mT1 C ?_;exact⟨by rw[<-e],ao _ hb e⟩
 ·by_cases h2:1099511627776<s.tm
  ·have e:(S,(4:Int))=fT S s:=(if_pos (.inr (.inl h2))).symm;refine sX C ?_;intro _ C;refine mCt C ?_;refine sX C ?_;intro _ C;refine mT1 C ?_;exact⟨by rw[<-e],ao _ hb e⟩
  ·refine sA C ?_;intro _ C;refine wC C (af Tryz.func158 rfl rfl) (a3) λ{e w1} hr=> ?_
   obtain⟨rfl,ap⟩:=hr;refine⟨_,rfl,λ_ C=> ?_⟩;by_cases h3:s.pose.good
   ·have e:fT S s=pY S s:=if_neg (by simp[h1,h2,h3]);rw[decide_eq_true h3]at C;refine sZ C ?_;intro _ C;refine ci C ?_;rw[e];unfold pY;rw[if_neg (by omega)];have hx:∀w',mBw W w'->TrkM 185 w g sl S w':=λw' hb=>.keep h (V.bel.trans (hb.mono V.bel.size))
    have ax:∀w',mBw W w'->aR w' (.agg cs.toArray) s.pose:=λw' hb=>⟨cs,rfl,(I.mono V.bel).mono hb⟩
    clear ao a3 e;have hb:=ap;clear ap;refine sX C ?_;intro _ C;refine gD (λa' wr=>Kn 141 [(0,ptG g),(3,.pointer (some ⟨B,0,none⟩)),(5,.int .i64 ((plN S s.tm:Nat):Int))] a'/\mBw W wr) ?_ (λa' wr hI=> ?_)
    ·refine eW (λa' wr=>∃k:Nat,Kn 141 [(0,ptG g),(3,.pointer (some ⟨B,0,none⟩)),(5,.int .i64 (k:Int))] a'/\k<=plN S s.tm/\mBw W wr) (λa' _=>S.length - (intOf (a'.tmps.getD 5 undef)).toNat) ⟨0,C.ct,A3 _,hb⟩ (λa' wr hI=> ?_);clear C hb;obtain⟨k,C,bt,hb⟩:=hI;have bz:(intOf (a'.tmps.getD 5 undef)).toNat=k:=by rw[C.gt 5];simp[intOf]
     have hp:=ii S s.tm;rw[bz];subst P;rcases DH bt with G | rfl
     ·obtain⟨x,ak,b8⟩:=eR G;obtain⟨b,o,c2,e,U⟩:=hm.parts (jv ak);injection e with K e2 e3;subst K;subst e3;clear e2;obtain⟨f4,_⟩:=U _ x ak;refine uX C ?_;intro _ C w' H;refine mD C ?_;refine sA C ?_;intro _ C;refine vN C ((k+1:Nat)) λC=> ?_
      refine sD C ?_;intro _ C;refine wln ?_;refine mUp ?_;refine⟨⟨k+1,C.ct,G,by assumption⟩,?_⟩;rw[C.gt 5];simp only[intOf];omega
     ·by_cases G:plN S s.tm<S.length
      ·obtain⟨x,ak,b8⟩:=vP G;obtain⟨b,o,c2,e,U⟩:=hm.parts (jv ak);injection e with K e2 e3;subst K;subst e3;clear e2;obtain⟨f4,_⟩:=U _ x ak;refine uX C ?_;intro _ C w' H;refine mCf C ?_;refine mEx ?_;exact⟨C.ct,by assumption⟩
      ·refine uX C ?_;intro _ C w' H;refine mCf C ?_;refine mEx ?_;exact⟨C.ct,by assumption⟩
    obtain⟨C,ab⟩:=hI;have hp:=ii S s.tm;have hy:∀y,S[plN S s.tm]? =some y->∃b o c,sl= .slice (some ⟨b,o,none⟩) S.length c/\StL W b (o+plN S s.tm*22) y:=λy hy=>by
     obtain⟨b,o,c2,e,U⟩:=hm.parts (jv hy);exact⟨b,o,c2,e,U _ y hy⟩
    refine gD (λa' w'=>Kn 141 [(0,ptG g),(3,.pointer (some ⟨B,0,none⟩)),(5,.int .i64 ((plN S s.tm:Nat):Int))] a'/\mBw W w'/\¬∃y,S[plN S s.tm]? =some y/\y.tm=s.tm) ?_ (λa' w' hI=> ?_)
    ·by_cases G:plN S s.tm<S.length
     ·obtain⟨y,F⟩:∃y,S[plN S s.tm]? =some y:=⟨_,AM G⟩;obtain⟨b,o,c2,e,f4,cy,Y,f5,f6⟩:=hy y F;subst P;injection e with K e2 e3;subst K;subst e3;clear e2;have gy:=hS.at F;by_cases ey:y.tm=s.tm
      ·refine uX C ?_;intro _ C w' H;refine mCt C ?_;by_cases ep:y.pose=s.pose
       ·rw[if_pos ⟨y,F,ey,ep⟩];refine uA C ?_;intro _ C;refine uC C (.bool true) (af Tryz.func45 rfl rfl) (λw hb=>by have:=q_eqlR (w:=w) ⟨cy,rfl,Y.mono hb⟩ (ax w hb) gy.ok hs;rwa [decide_eq_true ep]at this) λC=> ?_
        refine wqn (λw' H=> ?_);refine mUp ?_;refine mCt C ?_;refine sX C ?_;intro _ C;refine mT1 C ?_;exact⟨rfl,hx _ (by assumption)⟩
       ·rw[if_neg (by rintro⟨y',h,_,h2⟩;rw[F]at h;injection h with h;subst h;exact ep h2),if_pos ⟨y,F,ey⟩];refine uA C ?_;intro _ C;refine uC C (.bool false) (af Tryz.func45 rfl rfl) (λw hb=>by have:=q_eqlR (w:=w) ⟨cy,rfl,Y.mono hb⟩ (ax w hb) gy.ok hs;rwa [decide_eq_false ep]at this) λC=> ?_
        refine wqn (λw' H=> ?_);refine mUp ?_;refine ci C ?_;refine sX C ?_;intro _ C;refine mT1 C ?_;exact⟨rfl,hx _ (by assumption)⟩
      ·refine uX C ?_;intro _ C w' H;refine ci C ?_;exact⟨C.ct,by assumption,by rintro⟨y',h,h2⟩;rw[F]at h;injection h with h;subst h;exact ey h2⟩
     ·subst P;refine uX C ?_;intro _ C w' H;refine ci C ?_;exact⟨C.ct,by assumption,by rintro⟨y',h,h2⟩;exact G (A1.1 h).1⟩
    ·obtain⟨C,hb,ay⟩:=hI;rw[if_neg (by rintro⟨y,h,h2,_⟩;exact ay ⟨y,h,h2⟩),if_neg ay];obtain⟨ob,J⟩:∃ob:Bool,ob=decide ((∃z,0<plN S s.tm/\S[plN S s.tm - 1]? =some z/\opp z.pose s.pose)\/∃y,S[plN S s.tm]? =some y/\opp s.pose y.pose):=⟨_,rfl⟩;have aa:∀ {x y:Pq} {vx vy:Value},aR W vx x->aR W vy y->x.ok 2->y.ok 2->x.good->y.good->∀b,decide (opp x y)=b->∀w',mBw W w'->AF AD 207 #[vx,vy] w' λe w1=>e= .returned (.bool b)/\mBw w' w1:=λix iy hx hy gx gy b e w' hb=>e▸q_oppR (ix.mono hb) (iy.mono hb) hx hy gx gy
     have am:aR W (.agg cs.toArray) s.pose:=⟨cs,rfl,I.mono V.bel⟩;refine gD (λa' w'=>Kn 141 [(0,ptG g),(3,.pointer (some ⟨B,0,none⟩)),(5,.int .i64 ((plN S s.tm:Nat):Int))] a'/\mBw W w'/\ob=false) ?_ (λa' w' hI=> ?_)
     ·refine gD (λa' w'=>Kn 141 [(0,ptG g),(3,.pointer (some ⟨B,0,none⟩)),(5,.int .i64 ((plN S s.tm:Nat):Int)),(111,.bool ob)] a'/\mBw W w') ?_ (λa' w' hI=> ?_)
      ·have a5:(S.length<=plN S s.tm/\∀y,S[plN S s.tm]? ≠some y)\/∃y b o c,plN S s.tm<S.length/\S[plN S s.tm]? =some y/\sl= .slice (some ⟨b,o,none⟩) S.length c/\StL W b (o+plN S s.tm*22) y:=by
        by_cases G:plN S s.tm<S.length
        ·obtain⟨b,o,c,e⟩:=hy _ (AM G);exact .inr ⟨_,b,o,c,G,AM G,e⟩
        ·exact .inl ⟨by omega,λy h=>G (A1.1 h).1⟩
       by_cases h0:0<plN S s.tm
       ·obtain⟨z,hz⟩:∃z,S[plN S s.tm - 1]? =some z:=⟨_,AM (by omega)⟩;obtain⟨b,o,c2,e,U⟩:=hm.parts (jv hz);obtain⟨f4,cz,au,f5,f6⟩:=U _ z hz;have gz:=hS.at hz;subst P;injection e with K e2 e3;subst K;subst e3;clear e2;by_cases oz:opp z.pose s.pose
        ·obtain rfl:ob=true:=J.trans (decide_eq_true (.inl ⟨z,h0,hz,oz⟩));refine uA C ?_;intro _ C;refine uN C ((plN S s.tm - 1:Nat)) λC=> ?_
         refine uD C ?_;intro _ C;refine uC C (.bool true) (af EU rfl rfl) (λw hb=>aa ⟨cz,rfl,au⟩ am gz.ok hs gz.good h3 _ (decide_eq_true oz) w hb) λC=> ?_
         refine uZ C ?_;intro _ C w' H;exact⟨C.ct,by assumption⟩
        ·rcases a5 with⟨h4,h5⟩ | ⟨y,b',o',c',h4,F,e,f7,cy,Y,f8,f9⟩
         ·obtain rfl:ob=false:=J.trans (decide_eq_false (by rintro(⟨z',_,h,h6⟩ | ⟨y,h,_⟩);(rw[hz]at h;injection h with h;subst h;exact oz h6);exact h5 y h));refine uA C ?_;intro _ C;refine uN C ((plN S s.tm - 1:Nat)) λC=> ?_
          refine uD C ?_;intro _ C;refine uC C (.bool false) (af EU rfl rfl) (λw hb=>aa ⟨cz,rfl,au⟩ am gz.ok hs gz.good h3 _ (decide_eq_false oz) w hb) λC=> ?_
          refine uZ C ?_;intro _ C w' H;exact⟨C.ct,by assumption⟩
         ·have gy:=hS.at F;injection e with K e2 e3;injection K with K;injection K with K e4;subst K;subst e4;subst e3;clear e2;obtain rfl:ob=decide (opp s.pose y.pose):=J.trans (decide_eq_decide.2 ⟨by rintro(⟨z',_,h,h6⟩ | ⟨y',h,h6⟩);(rw[hz]at h;injection h with h;subst h;exact absurd h6 oz);(rw[F]at h;injection h with h;subst h;exact h6),λh=>.inr ⟨y,F,h⟩⟩);refine uA C ?_;intro _ C;refine uN C ((plN S s.tm - 1:Nat)) λC=> ?_
          refine uD C ?_;intro _ C;refine uC C (.bool false) (af EU rfl rfl) (λw hb=>aa ⟨cz,rfl,au⟩ am gz.ok hs gz.good h3 _ (decide_eq_false oz) w hb) λC=> ?_
          refine uD C ?_;intro _ C;refine uC C (_) (af EU rfl rfl) (λw hb=>aa am ⟨cy,rfl,Y⟩ hs gy.ok h3 gy.good _ rfl w hb) λC=> ?_
          refine uZ C ?_;intro _ C w' H;exact⟨C.ct,by assumption⟩
       ·rcases a5 with⟨h4,h5⟩ | ⟨y,b',o',c',h4,F,e,f7,cy,Y,f8,f9⟩
        ·obtain rfl:ob=false:=J.trans (decide_eq_false (by rintro(⟨z',h,_⟩ | ⟨y,h,_⟩);exact h0 h;exact h5 y h));subst P;refine uX C ?_;intro _ C w' H;exact⟨C.ct,by assumption⟩
        ·have gy:=hS.at F;subst P;injection e with K e2 e3;subst K;subst e3;clear e2;obtain rfl:ob=decide (opp s.pose y.pose):=J.trans (decide_eq_decide.2 ⟨by rintro(⟨z',h,_⟩ | ⟨y',h,h6⟩);exact absurd h h0;(rw[F]at h;injection h with h;subst h;exact h6),λh=>.inr ⟨y,F,h⟩⟩);refine uA C ?_;intro _ C;refine uC C (_) (af EU rfl rfl) (λw hb=>aa am ⟨cy,rfl,Y⟩ hs gy.ok h3 gy.good _ rfl w hb) λC=> ?_
         refine uZ C ?_;intro _ C w' H;exact⟨C.ct,by assumption⟩
      ·obtain⟨C,hb⟩:=hI
       cases ob with
       | true=>
        rw[if_pos (of_decide_eq_true J.symm)];refine mCt C ?_;refine sX C ?_;intro _ C;refine mT1 C ?_;exact⟨rfl,hx _ hb⟩
       | false=>
        refine ci C ?_;exact⟨C.ct,hb,rfl⟩
     ·obtain⟨C,hb,rfl⟩:=hI;rw[if_neg (of_decide_eq_false J.symm)];clear aa J ay ax;subst P;have av:=(A2.1 h.blk).1;obtain⟨p,b1⟩:∃p,plN S s.tm=p:=⟨_,rfl⟩;rw[b1]at C hp⊢;refine sX C ?_;intro _ C;refine sA C ?_;intro _ C;obtain⟨y1,b9,hr1,_⟩:=run_slTo (p:=AD) (t:=183) (w:=w') CC (by kernel_rfl) (hm.mono hb).row hp;refine wY C y1 (kx_sh C rfl rfl rfl b9) λC=> ?_
      obtain⟨v2,w2,a7,aq,bp,bO⟩:=app_own (ty:=183) ownr_nil hr1 (by rw[ec,A9,Nat.min_eq_left hp]) (by omega) hb (λg h=>by cases h);refine wW C v2 w2 (ol C rfl rfl rfl a7) λC=> ?_
      clear hb ab;refine sZ C ?_;intro _ C;refine sA C ?_;intro _ C;have V3:=VB.new w2 stT (AN .i64 s.tm::cs).toArray (by simpa using sE I);refine wW C _ _ (lH C rfl rfl (acA (by rw[aw I];rfl))) λC=> ?_
      have ab:=aq.trans (V3.bel.mono aq.size);obtain⟨v4,w4,bb,ar,bq,b0⟩:=app_own (ty:=183) (Vp.mono bO V3.bel) (acB V3.blk ((I.mono V.bel).mono ab)) rfl (by omega) ab bp;refine wW C v4 w4 (ol C rfl rfl rfl bb) λC=> ?_
      clear aq ab;refine sZ C ?_;intro _ C;refine sA C ?_;intro _ C;obtain⟨y5,ca,b2,_⟩:=rZ (p:=AD) (t:=183) (w:=w4) CC (by kernel_rfl) (hm.mono ar).row hp;refine wY C y5 (kx_sf C rfl rfl rfl ca) λC=> ?_
      obtain⟨v6,w6,be,a0,a2,Z⟩:=app_own (ty:=183) b0 b2 (by rw[ec,CB]) (by omega) ar bq;refine wW C v6 w6 (ol C rfl rfl rfl be) λC=> ?_
      rw[show 0+p+1+(S.length - p)=(fF S p s).length by rw[iN hp];omega,show []++bB (S.take p)++s.qs++bB (S.drop p)=bB (fF S p s)by simp[bB,fF]]at Z;obtain⟨a6,c6,rfl⟩:=jc (gB Z);have cb:=iN (s:=s) hp;have a1:=V.bel.trans (a0.mono V.bel.size);have an:=(a0.block g (Bv av V.bel.size)).trans hm.blk;clear ar;refine sZ C ?_;intro _ C;by_cases h64:S.length<64
      ·rw[if_pos h64];obtain⟨hM,_⟩:=TrkM.set (sl:=.slice ad S.length c1) av (Ent.kept.refl.below a1) an (λn e=>by cases e) (gB Z) (λb hb=>⟨AG V.bel.size (a2 b hb),vO Z b hb⟩);refine sX C ?_;intro _ C;refine ci C ?_;refine sA C ?_;intro _ C;refine wT C (_) (hr:=qJ an) λC=> ?_
       refine wln ?_;refine mUp ?_;refine sX C ?_;intro _ C;refine mT1 C ?_;exact⟨rfl,hM⟩
      ·rw[if_neg h64];obtain⟨y,hy,ac,a4⟩:=rZ (p:=AD) (t:=183) (k:=1) CC (by kernel_rfl) (gB Z) (by omega);rw[<-CB]at ac;obtain⟨hM,_⟩:=TrkM.set (sl:=.slice ad S.length c1) av (Ent.kept.refl.below a1) an (λn e=>by cases e) ac (λb hb=>⟨AG V.bel.size (a2 b (a4 b hb)),vO Z b (a4 b hb)⟩);obtain⟨a9,c9,rfl⟩:=jc ac;refine sX C ?_;intro _ C;refine mCt C ?_;refine sA C ?_;intro _ C;refine wY C _ (kx_sf C rfl rfl rfl hy) λC=> ?_
       refine sZ C ?_;intro _ C;refine sA C ?_;intro _ C;refine wT C (_) (hr:=qJ an) λC=> ?_
       refine wln ?_;refine mUp ?_;refine sX C ?_;intro _ C;refine mT1 C ?_;exact⟨rfl,hM⟩
   ·have e:(S,(4:Int))=fT S s:=(if_pos (.inr (.inr h3))).symm;rw[decide_eq_false h3]at C;refine sZ C ?_;intro _ C;refine mCt C ?_;refine sX C ?_;intro _ C;refine mT1 C ?_;exact⟨by rw[<-e],ao _ ap e⟩
end
section
open Classical
variable{w:World}{v:Value}{L:List Nm}
theorem Nms.form(h:Nms w v L):∃C cap,v= .slice C L.length cap:=by
 obtain⟨C,cap,e,_⟩:=h;exact⟨C,cap,e⟩
variable{x:Nm}
theorem Nms.ld{ad:Option A0}{n cap:Nat}(h:Nms w (.slice ad n cap) L){k:Nat}(H:L[k]? =some x):∃b o,ad=some ⟨b,o,none⟩/\LdB w 9 (.pointer (some ⟨b,o+(k:Int).toNat*1,none⟩)) (.string x):=by
 obtain⟨F,C,e,hc⟩:=h;injection e with G J K;subst G;obtain⟨b,o,e,hb,I⟩:=hc k x H;exact⟨b,o,e,.one Aa hb (by rw[Int.toNat_natCast,Nat.mul_one];exact I)⟩
theorem abo{y:Nm}{X Y:AS}{b:Bool}(h:decide (x=y)=b):(do eqGuard .eql 9 X Y (.string x) (.string y);binOp .eql 9 (.string x) (.string y):Sem Value).run AD w= .ok (.bool b) w:=by
 by_cases e:x=y
 ·have C:=kV e;rw[decide_eq_true e]at h;subst h;clear e;go_simp
 ·have C:=gW e;rw[decide_eq_false e]at h;subst h;clear e;go_simp
theorem oB{y:Nm}{X Y:AS}{b:Bool}(h:decide (x≠y)=b):(do eqGuard .neq 9 X Y (.string x) (.string y);binOp .neq 9 (.string x) (.string y):Sem Value).run AD w= .ok (.bool b) w:=by
 by_cases e:x=y
 ·have C:=kV e;rw[decide_eq_false Ay]at h;subst h;clear e;go_simp
 ·have C:=gW e;rw[decide_eq_true e]at h;subst h;clear e;go_simp
theorem sM(h:Nms w v L)(c:Nm)(hn:L.length<=1000):AF AD 120 #[v,.string c] w λe w'=>∃i,e= .returned (.int .i64 i)/\IxS L c i/\mBw w w':=by
 obtain⟨K,cap,rfl⟩:=h.form;have hb:=AH w.heap.size w;go_enter Tryz.func120,Tryz.ntmps120
 refine bf 19 [(0,.slice K L.length cap),(1,.string c)] λC=> ?_
 refine sX C ?_;intro _ C;refine sX C ?_;intro _ C
 ·refine eW (λa wr=>∃k:Nat,Kn 19 [(0,.slice K L.length cap),(1,.string c),(5,.int .i64 (k:Int))] a/\k<=L.length/\wr=w/\∀i z,i<k->L[i]? =some z->z≠c) (λa _=>L.length - (intOf (a.tmps.getD 5 undef)).toNat) ⟨0,C.ct,A3 _,rfl,λi z hi=>absurd hi (Dd _)⟩ (λa wr P=> ?_);clear C;obtain⟨k,C,I,rfl,F⟩:=P;have J:(intOf (a.tmps.getD 5 undef)).toNat=k:=by rw[C.gt 5];simp[intOf]
  rw[J];rcases DH I with G | rfl
  ·obtain⟨x,H⟩:∃x,L[k]? =some x:=⟨_,AM G⟩;obtain⟨b,o,rfl,f1⟩:=h.ld H;by_cases hc:x=c
   ·subst hc;refine sX C ?_;intro _ C;refine mD C ?_;refine sA C ?_;intro _ C;refine wB C (.bool true) (hr:=abo (decide_eq_true rfl)) λC=> ?_
    refine wln ?_;refine mUp ?_;refine mCt C ?_;refine sX C ?_;intro _ C;refine mT1 C ?_;exact⟨_,rfl,.inr ⟨k,rfl,H,ix_at H F⟩,AH _ _⟩
   ·refine sX C ?_;intro _ C;refine mD C ?_;refine sA C ?_;intro _ C;refine wB C (.bool false) (hr:=abo (decide_eq_false hc)) λC=> ?_
    refine wln ?_;refine mUp ?_;refine ci C ?_;refine sA C ?_;intro _ C;refine vN C ((k+1:Nat)) λC=> ?_
    refine sD C ?_;intro _ C;refine wln ?_;refine mUp ?_;refine⟨⟨k+1,C.ct,G,rfl,λi z hi hz=> ?_⟩,?_⟩
    ·rcases Bg i k with h1 | h1
     ·exact F i z h1 hz
     ·obtain rfl:i=k:=by omega
      rw[H]at hz;injection hz with hz;subst hz;exact hc
    ·rw[C.gt 5];simp only[intOf];omega
  ·refine sX C ?_;intro _ C;refine mCf C ?_;refine mEx ?_;refine sX C ?_;intro _ C;refine mT1 C ?_;exact⟨_,rfl,.inl ⟨rfl,λU=>(Dn U).elim λi hi=>F i c (A1.1 hi).1 hi rfl⟩,AH _ _⟩
structure SR(w0 w:World)(v:Value)(l:List Nm):Prop where
 own:SRow w v l
 ge:∀g,v.ownBlock=some g->w0.heap.size<=g
 bel:mBw w0 w
section
variable {w0 w w':World} {v:Value} {l M:List Nm}
theorem SR.nil(h:AW w0.heap.size w0 w):SR w0 w (.slice none 0 0) []:=⟨⟨Dz _ _ _ _,λg C=>by cases C⟩,λg C=>(by cases C),h⟩
theorem SR.mono(h:SR w0 w v l)(k:AW w.heap.size w w'):SR w0 w' v l:=⟨h.own.keep (λg C=>k.block g (cf h.own.1 C).2),h.ge,h.bel.trans (k.mono h.bel.size)⟩
theorem SR.nms(h:SR w0 w v l):Nms w v l:=aU.nms (b:=0) h.own.1
theorem SR.app(h:SR w0 w v l){a:A0}{m c:Nat}{ty:TypeId}(G:M.length=m)(h0:0<m)(hl:l.length+m<=2000000)(C:∀j u,(M.map Bc)[j]? =some u->w.cell? (a.add j)=some u):
  ∃v' w',(BT #[68,68] ty #[v,.slice (some a) m c]).run AD w= .ok v' w'/\SR w0 w' v' (l++M):=by
 obtain⟨v',w',H,k2,k3,I⟩:=mE (p:=AD) (ty:=ty) (c:=c) (m:=m) (sz:=1) (bytes:=16) DJ Aa h.own AA C (λu F=>by obtain⟨x,_,rfl⟩:=Be.1 F;rfl) (λu F=>by obtain⟨x,_,rfl⟩:=Be.1 F;exact mG _) h0 no no;refine⟨v',w',H,⟨?_,λg C=>(k3 g C).elim (h.ge g) (AG h.bel.size),h.bel.grown k2 h.bel.size h.ge⟩⟩;show a8 w' _ 1 v' (l++M).length _;rw[Bj,Cl,G];exact I
theorem acL(w:World)(x:Nm):(Eg 68 1 #[(0,.string x)]).run AD w= .ok (.slice (some ⟨w.heap.size,0,none⟩) 1 1) (w.alloc (.cells #[.string x] 9)):=Ah
theorem SR.one(h:AW w0.heap.size w0 w)(x:Nm):SR w0 (w.alloc (.cells #[.string x] 9)) (.slice (some ⟨w.heap.size,0,none⟩) 1 1) [x]:=
 ⟨⟨⟨rfl,.inr ⟨w.heap.size,1,#[.string x],rfl,A3 _,Bs w _,AI _,it,rfl,rfl⟩⟩,λg C=>by
  obtain rfl:w.heap.size=g:=A4.inj C;exact jS (Bs w _) (λu F=>by simp at F;subst F;exact mG _)⟩,λg C=>by
  obtain rfl:w.heap.size=g:=A4.inj C;exact h.size,h.alloc h.size _⟩
variable {n d e:Nat} {o p:Oper} {ks:List (Nat×Value)} {a:Act} {X Y:AS} {ops:Array Oper} {rest:List Oper} {Q:Exit->Act->World->Prop} {x:Nm}
theorem vApp(S:SR w0 w v l)(hl:l.length<=1000000)(C:Kn n ks a)(h:∀ {a' w' v'},SR w0 w' v' (l++ [x])->Kn n ((e,v')::(d,.slice (some ⟨w.heap.size,0,none⟩) 1 1)::ks) a'->wpList AD ops Q rest a' w')
  (h1:o.op= .buildSlice 68 1 #[(0,X)]:=by rfl)(h2:evK ks X=some (.string x):=by rfl)(h3:o.dst=some d:=by rfl)(G:d<n:=by decide)(H:o.guard=none:=by rfl)
  (K:p.op= .call {callee:=.builtin .append,args:=#[Y,.tmp d],argTypes:=#[68,68]}:=by rfl)(k2:evK ((d,.slice (some ⟨w.heap.size,0,none⟩) 1 1)::ks) Y=some v:=by rfl)(k3:p.dst=some e:=by rfl)(P:e<n:=by decide)(U:p.guard=none:=by rfl):wpList AD ops Q (o::p::rest) a w:=by
 refine wl (eV H) C h3 G (lH C h1 h2 (acL w x)) λ_ C=> ?_
 have I:=S.mono ((AH _ w).alloc (AI _) (.cells #[.string x] 9));obtain⟨v',w',J,S'⟩:=I.app (M:=[x]) (a:=⟨w.heap.size,0,none⟩) (m:=1) (c:=1) (ty:=p.type) rfl it no (λj u F=>by
  cases j with
  | zero=>simp at F;subst F;exact(by rw[bQ,aH (Bs w _)];rfl)
  | succ j=>simp at F)
 exact wl (eV U) C k3 P (ol C K k2 (by simp[evK,look]) J) λ_ C=>h S' C
end
theorem par_known{R:Tr}{a:Int}{y:Nm}(h:par R a x=some y):aF R x:=by
 unfold par at h
 cases ht:tAt R x a with
 | none=>rw[ht]at h;cases h
 | some l=>exact⟨(x,l),(mu ht).1,.inl rfl⟩
theorem eu{R:Tr}(C:Sane R)(a:Int)(x:Nm):(bm R a x).length<=24:=by
 by_cases h:aF R x
 ·exact gI C h
 ·have h2:=fg C.ok a x;generalize bm R a x=l at h2
  cases h2 with
  | root=>simp
  | step hp _=>exact absurd (par_known hp) h
theorem sN{t:Nat}{L:List Rl}(h:RM w t v L)(I:Sane (trR L))(x:Nm)(a:Int)(hn:L.length<=1000000):AF AD 63 #[ptB t,.string x,.int .i64 a] w λe w'=>∃v',e= .returned v'/\SR w w' v' (bm (trR L) a x):=by
 have H:=eu I a x;have G:=fg I.ok a x;obtain⟨l,hl⟩:∃l,bm (trR L) a x=l:=⟨_,rfl⟩;rw[hl]at H G⊢;clear hl;have hb:=AH w.heap.size w;go_enter Tryz.func63,Tryz.ntmps63
 refine bf 33 [(0,ptB t),(1,.string x),(2,.int .i64 a)] λC=> ?_
 refine sX C ?_;intro _ C;refine sA C ?_;intro _ C;have S:=SR.one hb x;refine wW C (.slice (some ⟨w.heap.size,0,none⟩) 1 1) (w.alloc (.cells #[.string x] 9)) (lH C rfl rfl (acL w x)) λC=> ?_
 refine sZ C ?_;intro _ C;generalize w.alloc (.cells #[.string x] 9)=w1 at *;generalize Value.slice (some ⟨w.heap.size,0,none⟩) 1 1=v1 at *;refine sX C ?_;intro _ C;refine eW (λb wr=>∃(k:Nat)(y:Nm)(u:Value)(r:List Nm),Kn 33 [(0,ptB t),(1,.string y),(2,.int .i64 a),(7,u),(8,.int .i64 (k:Int))] b/\SR w wr u (l.take k++ [y])/\Anc (trR L) a y r/\l.take k++r=l/\k<24) (λb _=>24 - (intOf (b.tmps.getD 8 undef)).toNat) ⟨0,x,v1,l,C.ct,S,G,rfl,by decide⟩ (λb wr V=> ?_);clear C S hb;obtain⟨k,y,u,r,C,S,K,F,U⟩:=V;have J:(intOf (b.tmps.getD 8 undef)).toNat=k:=by rw[C.gt 8];simp[intOf]
 rw[J];refine sX C ?_;intro _ C;refine mD C ?_;refine sA C ?_;intro _ C;refine wC C (af Tryz.func40 rfl rfl) (q_ParentR (h.below S.bel) I.ok y a hn) λ{e w2} K=> ?_
 obtain⟨rfl,P⟩:=K;have S:=S.mono P;clear P;refine⟨_,rfl,λ_ C=> ?_⟩;refine sZ C ?_;intro _ C
 cases K with
 | root hp=>
  rw[hp]at C;refine sX C ?_;intro _ C;refine mCt C ?_;refine sX C ?_;intro _ C;refine mT1 C ?_;exact⟨_,rfl,by rw[<-F];exact S⟩
 | @step _ z r' hp ht=>
  have hz:pOf (trR L) a y=z:=by unfold pOf;rw[hp];rfl
  rw[hz,hp]at C;have Z:k<l.length:=by
   have:=congrArg DU F;rw[Bj,A9,Bh]at this;omega
  refine sX C ?_;intro _ C;refine ci C ?_;refine sA C ?_;intro _ C;refine vApp S (by rw[Bj,A9];simp;omega) C λ{_ w3 v3} S C=> ?_
  refine sZ C ?_;intro _ C;refine sX C ?_;intro _ C;refine sA C ?_;intro _ C;refine vN C ((k+1:Nat)) λC=> ?_
  refine sD C ?_;intro _ C;refine wln ?_;refine mUp ?_;have h1:l.take (k+1)=l.take k++ [y]:=by
   conv=>lhs;rw[<-F]
   rw[List.take_append,List.take_take,A9,show k+1 - min k l.length=1 by omega,Nat.min_eq_right (Nat.le_succ k)];rfl
  obtain⟨r2,rfl⟩:=ht.head;refine⟨⟨k+1,z,v3,_,C.ct,by rw[h1];exact S,ht,by rw[h1,CY];exact F,?_⟩,?_⟩
  ·have:=congrArg DU F;rw[Bj,A9,Bh,Bh]at this;omega
  ·rw[C.gt 8];simp only[intOf];omega
theorem com_at{l m:List Nm}{k:Nat}{z:Nm}(hz:l[k]? =some z)(C:∀u∈l.take k,u∉m)(F:z∈m):iw l m=some z:=by
 obtain⟨A,B,rfl,rfl⟩:=ei hz;have h:A.find? (λz=>decide (z∈m))=none:=C7.2 (λu G=>by simpa using C u AA);unfold iw;rw[Ei,h];simp[F]
theorem kK{t:Nat}{L:List Rl}(h:RM w t v L)(hR:Sane (trR L))(x y:Nm)(a:Int)(hn:L.length<=1000000):AF AD 61 #[ptB t,.string x,.string y,.int .i64 a] w λe w'=>e= .returned (.tuple #[.string (aE (trR L) a x y).1,.bool (decide ((aE (trR L) a x y).2=0))])/\mBw w w':=by
 have hb:=AH w.heap.size w;go_enter Tryz.func61,Tryz.ntmps61
 refine bf 48 [(0,ptB t),(1,.string x),(2,.string y),(3,.int .i64 a)] λC=> ?_
 refine sX C ?_;intro _ C;refine sA C ?_;intro _ C;refine wC C (af Tryz.func103 rfl rfl) (iT h x hn) λ{e w1} H=> ?_
 obtain⟨rfl,rfl⟩:=H;refine⟨_,rfl,λ_ C=> ?_⟩;by_cases hx:aF (trR L) x
 ·rw[decide_eq_true hx]at C;refine sD C ?_;intro _ C;refine wC C (af Tryz.func103 rfl rfl) (iT h y hn) λ{e w1} H=> ?_
  obtain⟨rfl,rfl⟩:=H;refine⟨_,rfl,λ_ C=> ?_⟩;by_cases hy:aF (trR L) y
  ·rw[decide_eq_true hy]at C;refine sZ C ?_;intro _ C;refine ci C ?_;refine sA C ?_;intro _ C;refine wC C (af Tryz.func63 rfl rfl) (sN h hR x a hn) λ{e w1} H=> ?_
   obtain⟨v1,rfl,P⟩:=H;have Z:=P.bel;refine⟨_,rfl,λ_ C=> ?_⟩;refine sD C ?_;intro _ C;refine wC C (af Tryz.func63 rfl rfl) (sN (h.below Z) hR y a hn) λ{e w2} H=> ?_
   obtain⟨v2,rfl,V⟩:=H;have J:=V.bel;refine⟨_,rfl,λ_ C=> ?_⟩;refine sZ C ?_;intro _ C;have P:=P.nms.below J;have V:=V.nms;have l1:=eu hR a x;have l2:=eu hR a y;have F:aE (trR L) a x y=(match iw (bm (trR L) a x) (bm (trR L) a y)with | some z=>(z,0) | none=>(BZ,18)):=by unfold aE;exact if_pos ⟨hx,hy⟩
   have J:=Z.trans (J.mono Z.size);generalize bm (trR L) a x=l at *;generalize bm (trR L) a y=m at *;obtain⟨ad,cap,rfl⟩:=P.form;clear hb Z;have hb:=AH w2.heap.size w2;refine sX C ?_;intro _ C
   ·refine eW (λb wr=>∃k:Nat,Kn 48 [(10,.slice ad l.length cap),(11,v2),(12,.int .i64 (k:Int))] b/\mBw w2 wr/\k<=l.length/\∀z∈l.take k,z∉m) (λb _=>l.length - (intOf (b.tmps.getD 12 undef)).toNat) ⟨0,C.ct,hb,A3 _,λz hz=>by simp at hz⟩ (λb wr hI=> ?_);clear C hb;obtain⟨k,C,hb,aa,K⟩:=hI;have ab:(intOf (b.tmps.getD 12 undef)).toNat=k:=by rw[C.gt 12];simp[intOf]
    rw[ab];rcases DH aa with U | rfl
    ·obtain⟨z,hz⟩:∃z,l[k]? =some z:=⟨_,AM U⟩;obtain⟨b',o,rfl,f1⟩:=P.ld hz;refine sX C ?_;intro _ C;refine mD C ?_;refine sA C ?_;intro _ C;refine wC C (af Tryz.func120 rfl rfl) (sM (V.below hb) z (by omega)) λ{e w3} H=> ?_
     obtain⟨i,rfl,hi,G⟩:=H;have G:=hb.trans (G.mono hb.size);clear hb;have hb:=G;clear G;refine⟨_,rfl,λ_ C=> ?_⟩;rcases hi with⟨rfl,hi⟩ | ⟨j,rfl,hj,_⟩
     ·refine sZ C ?_;intro _ C;refine ci C ?_;refine sA C ?_;intro _ C;refine vN C ((k+1:Nat)) λC=> ?_
      refine sD C ?_;intro _ C;refine wln ?_;refine mUp ?_;refine⟨⟨k+1,C.ct,hb,U,λu I=> ?_⟩,?_⟩
      ·rw[EX,hz]at I;rcases AJ.1 I with I | I
       ·exact K u I
       ·obtain rfl:u=z:=by simpa using I
        exact hi
      ·rw[C.gt 12];simp only[intOf];omega
     ·rw[com_at hz K (A5 hj)]at F;refine sZ C ?_;intro _ C;refine mCt C ?_;refine sX C ?_;intro _ C;refine mT2 C ?_;exact⟨by rw[F];rfl,J.trans (hb.mono J.size)⟩
    ·refine sX C ?_;intro _ C;refine mCf C ?_;refine mEx ?_;rw[show iw l m=none from C7.2 λu I=>by simpa using K u (by rw[List.take_length];exact I)]at F;refine sX C ?_;intro _ C;refine mT2 C ?_;exact⟨by rw[F];rfl,J.trans (hb.mono J.size)⟩
  ·rw[decide_eq_false hy]at C;have F:aE (trR L) a x y=(BZ,6):=by unfold aE;rw[if_neg (λh=>hy h.2)]
   refine sZ C ?_;intro _ C;refine mCt C ?_;refine sX C ?_;intro _ C;refine mT2 C ?_;exact⟨by rw[F];rfl,hb⟩
 ·rw[decide_eq_false hx]at C;have F:aE (trR L) a x y=(BZ,6):=by unfold aE;rw[if_neg (λh=>hx h.1)]
  refine sZ C ?_;intro _ C;refine mCt C ?_;refine sX C ?_;intro _ C;refine mT2 C ?_;exact⟨by rw[F];rfl,hb⟩
end
section
open Classical
noncomputable def jz(R:Tr)(a:Int)(x y:Nm):List Nm:=if (aE R a x y).2=0 then mN R a x y else []
theorem Nms.nil(w:World):Nms w (.slice none 0 0) []:=⟨none,0,rfl,λk x h=>Ao⟩
theorem sO{R:Tr}{a:Int}{x y:Nm}(h:(aE R a x y).2=0):iw (bm R a x) (bm R a y)=some (aE R a x y).1:=by
 unfold aE at h⊢;split
 ·rename_i C;rw[if_pos C]at h;split
  ·rename_i z hz;exact hz
  ·rename_i hz;rw[hz]at h;cases h
 ·rename_i C;rw[if_neg C]at h;cases h
variable{l:List Nm}
theorem wD{m:List Nm}{z:Nm}(h:iw l m=some z):z∈l/\z∈m:=⟨List.mem_of_find?_eq_some h,by simpa using List.find?_some h⟩
variable{w:World}{v:Value}
theorem SR.row{w0:World}(h:SR w0 w v l)(h0:l≠ []):∃g c,v= .slice (some ⟨g,0,none⟩) l.length c/\l.length<=c/\g<w.heap.size/\∀j x,l[j]? =some x->w.cell? ⟨g,j,none⟩=some (.string x):=by
 rcases h.own.1.2 with⟨rfl,hn⟩ | ⟨g,cap,cur,rfl,hb,F,hn,I,C,ht⟩
 ·exact absurd (CG hn) h0
 ·refine⟨g,cap,rfl,hn,(A2.1 F).1,λj x G=> ?_⟩;obtain⟨H,e,hc⟩:=di h.own.1 (show(l.map Bc)[j]? =some (.string x)by rw[Bp,G];rfl);injection e with e;injection e with e;subst e;exact hc
theorem run_slT{b o n c j:Nat}(h:j<=c)(hn:n<=c):(CI 68 (.slice (some ⟨b,o,none⟩) n c) none (some (.int .i64 (j:Int))) none).run AD w= .ok (.slice (some ⟨b,o,none⟩) j c) w:=by
 have hz:szB AD 9=some 1:=Aa
 simp[CI,Instr.slice,Instr.sliceBounds,Instr.sliceBound,asIntOf,AK,run_underlying DJ,ba hz,AU,h,uo]
set_option maxHeartbeats 1000000 in
theorem acM{t:Nat}{L:List Rl}(h:RM w t v L)(V:Sane (trR L))(x y:Nm)(a:Int)(hn:L.length<=1000000):AF AD 60 #[ptB t,.string x,.string y,.int .i64 a] w λe w'=>∃v',e= .returned (.tuple #[v',.int .i64 (aE (trR L) a x y).2])/\Nms w' v' (jz (trR L) a x y)/\mBw w w':=by
 have hb:=AH w.heap.size w;go_enter Tryz.func60,Tryz.ntmps60
 refine bf 68 [(0,ptB t),(1,.string x),(2,.string y),(3,.int .i64 a)] λC=> ?_
 refine sX C ?_;intro _ C;refine sA C ?_;intro _ C;refine wC C (af Tryz.func103 rfl rfl) (iT h y hn) λ{e w1} F=> ?_
 obtain⟨rfl,rfl⟩:=F;refine⟨_,rfl,λ_ C=> ?_⟩;by_cases hy:aF (trR L) y
 ·rw[decide_eq_true hy]at C;refine sD C ?_;intro _ C;refine wC C (af Tryz.func103 rfl rfl) (iT h x hn) λ{e w1} F=> ?_
  obtain⟨rfl,rfl⟩:=F;refine⟨_,rfl,λ_ C=> ?_⟩;by_cases hx:aF (trR L) x
  ·rw[decide_eq_true hx]at C;refine sZ C ?_;intro _ C;refine ci C ?_;refine sA C ?_;intro _ C;refine wC C (af Tryz.func61 rfl rfl) (kK h V x y a hn) λ{e w1} F=> ?_
   obtain⟨rfl,Z⟩:=F;refine⟨_,rfl,λ_ C=> ?_⟩;clear hb;have hb:=Z;by_cases hm:(aE (trR L) a x y).2=0
   ·have K:jz (trR L) a x y=mN (trR L) a x y:=if_pos hm;have am:=sO hm;rw[decide_eq_true hm]at C;rw[K,hm];unfold mN;generalize (aE (trR L) a x y).1=c at *;refine sZ C ?_;intro _ C;refine sX C ?_;intro _ C;refine ci C ?_;refine sA C ?_;intro _ C;refine wC C (af Tryz.func63 rfl rfl) (sN (h.below hb) V x a hn) λ{e w2} F=> ?_
    obtain⟨v1,rfl,P⟩:=F;refine⟨_,rfl,λ_ C=> ?_⟩;refine sD C ?_;intro _ C;refine wC C (af Tryz.func63 rfl rfl) (sN (h.below (hb.trans (P.bel.mono hb.size))) V y a hn) λ{e w3} F=> ?_
    obtain⟨v2,rfl,U⟩:=F;refine⟨_,rfl,λ_ C=> ?_⟩;refine sZ C ?_;intro _ C;have l1:=eu V a x;have l2:=eu V a y;obtain⟨m1,m2⟩:=wD am;generalize bm (trR L) a x=l at *;generalize bm (trR L) a y=m at *;have P:=P.mono U.bel;have b3:=hb.trans (P.bel.mono hb.size);obtain⟨g1,c1,rfl,ak,an,ar⟩:=P.row (λe=>by subst e;cases m1);obtain⟨g2,c2,rfl,av,ax,a1⟩:=U.row (λe=>by subst e;cases m2);refine sX C ?_;intro _ C;refine sA C ?_;intro _ C;refine wC C (af Tryz.func120 rfl rfl) (sM P.nms c (by omega)) λ{e w4} F=> ?_
    obtain⟨i,rfl,hi,J⟩:=F;refine⟨_,rfl,λ_ C=> ?_⟩;rcases hi with⟨_,hi⟩ | ⟨k,rfl,ab,aq⟩
    ·exact absurd m1 hi
    have a0:=(A1.1 ab).1;have H:=λj x (G:(l.take (k+1))[j]? =some x)=>(J.cell (p:=⟨g1,j,none⟩) an).trans (ar j x (by rw[BJ]at G;split at G;exact G;cases G))
    have b4:=b3.trans (J.mono b3.size);have U:=U.nms.below J;refine vN C ((k+1:Nat)) λC=> ?_
    refine wY C (.slice (some ⟨g1,0,none⟩) (k+1) c1) (kx_sh C rfl rfl rfl (run_slT (by omega) ak)) λC=> ?_
    obtain⟨v5,w5,ad,S5⟩:=(SR.nil (AH _ w4)).app (M:=l.take (k+1)) (a:=⟨g1,0,none⟩) (m:=k+1) (c:=c1) (ty:=68) (by rw[A9];omega) (by omega) (by simp;omega) (λj u G=>by
     rw[Bp]at G
     cases hz:(l.take (k+1))[j]? with
     | none=>rw[hz]at G;cases G
     | some z=>rw[hz]at G;injection G with G;subst G;rw[bQ,A7];exact H j z hz)
    refine wW C v5 w5 (ol C rfl rfl rfl ad) λC=> ?_
    refine sZ C ?_;intro _ C;refine sA C ?_;intro _ C;refine wC C (af Tryz.func120 rfl rfl) (sM (U.below S5.bel) c (by omega)) λ{e w6} F=> ?_
    obtain⟨i,rfl,hi,aa⟩:=F;refine⟨_,rfl,λ_ C=> ?_⟩;rcases hi with⟨_,hi⟩ | ⟨j,rfl,ao,ap⟩
    ·exact absurd m2 hi
    have ay:=(A1.1 ao).1;have S:=S5.mono aa;refine vN C (((j:Int) - 1)) λC=> ?_
    refine sZ C ?_;intro _ C;have ac:l.take (k+1)=l.take k++ [c]:=by rw[EX,ab];rfl
    rw[Db,ac]at S;rw[aq,ap];clear S5 aa H ad hb Z J
    ·refine eW (λb wr=>∃(q:Nat)(u:Value),Kn 68 [(13,.slice (some ⟨g2,0,none⟩) m.length c2),(14,u),(15,.int .i64 ((q:Int) - 1))] b/\SR w4 wr u (l.take k++ [c]++((m.take j).drop q).reverse)/\q<=j) (λb _=>(intOf (b.tmps.getD 15 undef)+1).toNat) ⟨j,v5,C.ct,by rw[Fk (by rw[A9];omega),List.reverse_nil,CO];exact S,AI _⟩ (λb wr hI=> ?_);clear C S;obtain⟨q,u,C,S,a2⟩:=hI;have hb:=AH wr.heap.size wr;have au:(intOf (b.tmps.getD 15 undef)+1).toNat=q:=by rw[C.gt 15];simp[intOf]
     rw[au]
     cases q with
     | zero=>
      refine sX C ?_;intro _ C;refine mCf C ?_;refine mEx ?_;refine sX C ?_;intro _ C;refine mT2 C ?_;exact⟨_,rfl,S.nms,b4.trans (S.bel.mono b4.size)⟩
     | succ q=>
      obtain⟨z,hz⟩:∃z,m[q]? =some z:=⟨_,AM (by omega)⟩;obtain⟨b',o,e,f1⟩:=(U.below S.bel).ld hz;injection e with e;injection e with e1 e2 _;subst e1;subst e2;rw[show((q+1:Nat):Int) - 1=(q:Int)by omega]at C;refine sX C ?_;intro _ C;refine mD C ?_;refine sA C ?_;intro _ C;refine vApp S (by simp;omega) C λ{_ w7 v7} S C=> ?_
      refine sZ C ?_;intro _ C;refine sA C ?_;intro _ C;refine vN C (((q:Int) - 1)) λC=> ?_
      refine sD C ?_;intro _ C;refine wln ?_;refine mUp ?_;refine⟨⟨q,v7,C.ct,?_,by omega⟩,?_⟩
      ·have:(m.take j).drop q=z::(m.take j).drop (q+1):=by
        rw[Fm (by rw[A9];omega)]
        congr 1
        rw[List.getElem_take];exact(A1.1 hz).2
       rw[this,List.reverse_cons,<-CY];exact S
      ·rw[C.gt 15];simp only[intOf];omega
   ·have K:jz (trR L) a x y=[]:=if_neg hm;have he:(aE (trR L) a x y).2=18:=by
     unfold aE at hm⊢;rw[if_pos ⟨hx,hy⟩]at hm⊢;split
     ·rename_i hz;rw[hz]at hm;exact absurd rfl hm
     ·rfl
    rw[decide_eq_false hm]at C;refine sZ C ?_;intro _ C;refine sX C ?_;intro _ C;refine mCt C ?_;refine sX C ?_;intro _ C;refine mT2 C ?_;exact⟨_,by rw[he],by rw[K];exact Nms.nil _,hb⟩
  ·rw[decide_eq_false hx]at C;have I:aE (trR L) a x y=(BZ,6):=by unfold aE;rw[if_neg (λh=>hx h.1)]
   have K:jz (trR L) a x y=[]:=if_neg (by rw[I];decide);refine sZ C ?_;intro _ C;refine mCt C ?_;refine sX C ?_;intro _ C;refine mT2 C ?_;exact⟨_,by rw[I],by rw[K];exact Nms.nil _,hb⟩
 ·rw[decide_eq_false hy]at C;have I:aE (trR L) a x y=(BZ,6):=by unfold aE;rw[if_neg (λh=>hy h.2)]
  have K:jz (trR L) a x y=[]:=if_neg (by rw[I];decide);refine sZ C ?_;intro _ C;refine mCt C ?_;refine sX C ?_;intro _ C;refine mT2 C ?_;exact⟨_,by rw[I],by rw[K];exact Nms.nil _,hb⟩
theorem kx_bs2{n:Nat}{o:Oper}{l:List (Nat×Value)}{a:Act}{x y:AS}{t:TypeId}{F G:Value}{w':World}(C:Kn n l a)(H:o.op= .buildSlice t 2 #[(0,x),(1,y)])(I:evK l x=some F)(hy:evK l y=some G)(hr:(Eg t 2 #[(0,F),(1,G)]).run AD w= .ok v w'):(execOp a.eval o).run AD w= .ok (.value v) w':=by
 unfold execOp;simp only[H,List.map_toArray,List.map_cons,List.map_nil];rw[C.evx I,C.evx hy];simp only[AK,hr];rfl
theorem run_bs2(w:World)(x y:Nm):(Eg 68 2 #[(0,.string x),(1,.string y)]).run AD w= .ok (.slice (some ⟨w.heap.size,0,none⟩) 2 2) (w.alloc (.cells #[.string x,.string y] 9)):=Ah
theorem abp{c z:Nm}{j i:Nat}(h:bx l c=l.take j)(hi:i<j)(hz:l[i]? =some z):z≠c:=by
 have:z∈bx l c:=by rw[h];exact A5 (i:=i) (by rw[BJ,if_pos hi];exact hz)
 unfold bx at this;simpa using List.all_eq_true.1 (List.all_takeWhile (p:=λz=>decide (z≠c)) (l:=l)) z this
theorem wE{c:Nm}:∀ {l:List Nm},c∈l->∃j,l[j]? =some c/\bx l c=l.take j
 | z::l,h=>by
  by_cases e:z=c
  ·exact⟨0,by rw[e];rfl,by unfold bx;simp[e]⟩
  ·obtain⟨j,h1,h2⟩:=wE (l:=l) (by rcases AY.1 h with rfl | h;exact absurd rfl e;exact h);exact⟨j+1,by simpa using h1,by unfold bx at h2⊢;rw[List.takeWhile_cons,if_pos Ay,h2];rfl⟩
theorem edgC_cons{R:Tr}{a:Int}{f:Nm}(h:(bC R f a).2=0):eC R a (f::l)=eC R a l:=if_pos h
set_option maxHeartbeats 1000000 in
theorem wG{t:Nat}{L:List Rl}(h:RM w t v L)(K:Sane (trR L))(x y:Nm)(a:Int)(hn:L.length<=1000000):AF AD 58 #[ptB t,.string x,.string y,.int .i64 a] w λe w'=>e= .returned (.int .i64 (aP (trR L) a x y).2)/\AW w.heap.size w w':=by
 have hb:=AH w.heap.size w;rw[uH];go_enter Tryz.func58,Tryz.ntmps58
 refine bf 73 [(0,ptB t),(1,.string x),(2,.string y),(3,.int .i64 a)] λC=> ?_
 refine sX C ?_;intro _ C;refine sA C ?_;intro _ C;refine wC C (af Tryz.func60 rfl rfl) (acM h K y x a hn) λ{e w1} G=> ?_
 obtain⟨u,rfl,_,b1⟩:=G;clear hb;have hb:=b1;refine⟨_,rfl,λ_ C=> ?_⟩;refine sZ C ?_;intro _ C;by_cases hm:(aE (trR L) a y x).2=0
 ·rw[hm]at C;have Z:=wD (sO hm);refine sX C ?_;intro _ C;refine ci C ?_;refine sA C ?_;intro _ C;refine wC C (af Tryz.func61 rfl rfl) (kK (h.below hb) K y x a hn) λ{e H} G=> ?_
  obtain⟨rfl,b2⟩:=G;refine⟨_,rfl,λ_ C=> ?_⟩;refine sZ C ?_;intro _ C;rw[if_neg (by rw[hm];simp)];generalize (aE (trR L) a y x).1=c at *;have b2:=hb.trans (b2.mono hb.size);clear hb b1;refine sA C ?_;intro _ C;refine wW C (.slice (some ⟨H.heap.size,0,none⟩) 2 2) (H.alloc (.cells #[.string y,.string x] 9)) (kx_bs2 C rfl rfl rfl (run_bs2 H y x)) λC=> ?_
  have h3:=Bs H (.cells #[.string y,.string x] 9);have b3:AW w.heap.size w (H.alloc (.cells #[.string y,.string x] 9)):=b2.alloc b2.size _;have hg:H.heap.size<(H.alloc (.cells #[.string y,.string x] 9)).heap.size:=(A2.1 h3).1;generalize H.alloc (.cells #[.string y,.string x] 9)=w3 at *;generalize H.heap.size=g at *;have fy:LdB w3 9 (.pointer (some ⟨g,0+((0:Nat):Int).toNat*1,none⟩)) (.string y):=.one (by kernel_rfl) hg (by rw[aH h3];rfl);have fx:LdB w3 9 (.pointer (some ⟨g,0+((1:Nat):Int).toNat*1,none⟩)) (.string x):=.one (by kernel_rfl) hg (by rw[aH h3];rfl);clear h3 hg;refine sZ C ?_;intro _ C;refine sX C ?_;intro _ C
  ·refine eW (λb wr=>∃k:Nat,Kn 73 [(0,ptB t),(3,.int .i64 a),(11,.string c),(13,.slice (some ⟨g,0,none⟩) 2 2),(14,.int .i64 (k:Int))] b/\AW w3.heap.size w3 wr/\k<=2/\(0<k->eC (trR L) a (bx (bm (trR L) a y) c)=0)/\(1<k->eC (trR L) a (bx (bm (trR L) a x) c)=0)) (λb _=>2 - (intOf (b.tmps.getD 14 undef)).toNat) ⟨0,C.ct,AH _ _,by decide,λh=>absurd h (by decide),λh=>absurd h (by decide)⟩ (λb wr hI=> ?_);clear C;obtain⟨k,C,hb,ao,e1,e2⟩:=hI;have J:(intOf (b.tmps.getD 14 undef)).toNat=k:=by rw[C.gt 14];simp[intOf]
   rw[J];rcases DH ao with F | rfl
   ·have au:(k:Int)<2:=by omega
    obtain⟨z,hz,ac,aq,ak⟩:∃z,LdB w3 9 (.pointer (some ⟨g,0+(k:Int).toNat*1,none⟩)) (.string z)/\(eC (trR L) a (bx (bm (trR L) a z) c)=0->(0<k+1->eC (trR L) a (bx (bm (trR L) a y) c)=0)/\(1<k+1->eC (trR L) a (bx (bm (trR L) a x) c)=0))/\c∈bm (trR L) a z/\(eC (trR L) a (bx (bm (trR L) a z) c)≠0->eC (trR L) a (bx (bm (trR L) a z) c)=if eC (trR L) a (bx (bm (trR L) a y) c)≠0 then eC (trR L) a (bx (bm (trR L) a y) c)else eC (trR L) a (bx (bm (trR L) a x) c)):=by
     obtain rfl | rfl:k=0\/k=1:=by omega
     ·exact⟨y,fy,λh=>⟨λ_=>h,λh=>absurd h (by decide)⟩,Z.1,λh=>(if_pos h).symm⟩
     ·exact⟨x,fx,λh=>⟨λ_=>e1 (by decide),λ_=>h⟩,Z.2,λh=>(if_neg (by rw[e1 (by decide)];simp)).symm⟩
    refine sX C ?_;intro _ C;refine mD C ?_;refine sA C ?_;intro _ C;refine wC C (af Tryz.func63 rfl rfl) (sN (h.below (b3.trans (hb.mono b3.size))) K z a hn) λ{e w4} G=> ?_
    obtain⟨v4,rfl,S⟩:=G;have b4:=hb.trans (S.bel.mono hb.size);refine⟨_,rfl,λ_ C=> ?_⟩;refine sZ C ?_;intro _ C;have av:=eu K a z;generalize bm (trR L) a z=l at *;have N:=S.nms;obtain⟨ad,cap,rfl⟩:=N.form;obtain⟨j,hj,ab⟩:=wE aq;rw[ab]at ac ak;have ar:=(A1.1 hj).1;clear hb e1 e2;refine sX C ?_;intro _ C
    ·refine eW (λb wr=>∃i:Nat,Kn 73 [(0,ptB t),(3,.int .i64 a),(11,.string c),(13,.slice (some ⟨g,0,none⟩) 2 2),(14,.int .i64 (k:Int)),(15,.slice ad l.length cap),(16,.int .i64 (i:Int))] b/\AW w4.heap.size w4 wr/\i<=j/\eC (trR L) a (l.take j)=eC (trR L) a ((l.take j).drop i)) (λb _=>j - (intOf (b.tmps.getD 16 undef)).toNat) ⟨0,C.ct,AH _ _,A3 _,rfl⟩ (λb wr hI=> ?_);clear C;obtain⟨i,C,hb,an,he⟩:=hI;have J:(intOf (b.tmps.getD 16 undef)).toNat=i:=by rw[C.gt 16];simp[intOf]
     rw[J];obtain⟨f,hf⟩:∃f,l[i]? =some f:=⟨_,AM (by omega)⟩;obtain⟨b',o,e,f1⟩:=N.ld hf;subst e;rcases DH an with F | rfl
     ·have ap:=abp ab F hf;have hd:(l.take j).drop i=f::(l.take j).drop (i+1):=by
       rw[Fm (by rw[A9];omega)]
       congr 1
       rw[List.getElem_take];exact(A1.1 hf).2
      rw[hd]at he;refine sA C ?_;intro _ C;refine wB C (.bool true) (hr:=oB (decide_eq_true ap)) λC=> ?_
      refine wln ?_;refine mUp ?_;refine mD C ?_;refine sA C ?_;intro _ C;refine wC C (af Tryz.func42 rfl rfl) (q_EdgeR (h.below (b3.trans ((b4.trans (hb.mono b4.size)).mono b3.size))) K.ok f a hn) λ{e w5} G=> ?_
      obtain⟨v5,rfl,⟨cs,rfl,am⟩,P⟩:=G;refine⟨_,rfl,λ_ C=> ?_⟩;refine sD C ?_;intro _ C;refine vA C 21 λV hz C=> ?_
      refine vFR V am hz C λ{_ w6} V _ C=> ?_
      have U:=hb.trans ((P.trans (V.bel.mono P.size)).mono hb.size);clear hb;have hb:=U;clear U;refine sZ C ?_;intro _ C;by_cases hc:(bC (trR L) f a).2=0
      ·rw[hc]at C;rw[edgC_cons hc]at he;refine sX C ?_;intro _ C;refine ci C ?_;refine sA C ?_;intro _ C;refine vN C ((i+1:Nat)) λC=> ?_
       refine sD C ?_;intro _ C;refine wln ?_;refine mUp ?_;refine⟨⟨i+1,C.ct,hb,F,he⟩,?_⟩;rw[C.gt 16];simp only[intOf];omega
      ·have aa:eC (trR L) a (l.take j)=(bC (trR L) f a).2:=he.trans (if_neg hc);have I:=ak (by rw[aa];exact hc);rw[aa]at I;refine sX C ?_;intro _ C;refine mCt C ?_;refine sX C ?_;intro _ C;refine mT1 C ?_;exact⟨by rw[<-I];rfl,b3.trans ((b4.trans (hb.mono b4.size)).mono b3.size)⟩
     ·rw[hj]at hf;injection hf with hf;subst hf;refine sA C ?_;intro _ C;refine wB C (.bool false) (hr:=oB (decide_eq_false (by simp))) λC=> ?_
      refine wln ?_;refine mUp ?_;refine mCf C ?_;refine mEx ?_;obtain⟨h1,h2⟩:=ac (by rw[he,Fk (by rw[A9];omega)];rfl);refine sA C ?_;intro _ C;refine vN C ((k+1:Nat)) λC=> ?_
      refine sD C ?_;intro _ C;refine wln ?_;refine mUp ?_;refine⟨⟨k+1,C.ct,b4.trans (hb.mono b4.size),F,h1,h2⟩,?_⟩;rw[C.gt 14];simp only[intOf];omega
   ·refine sX C ?_;intro _ C;refine mCf C ?_;refine mEx ?_;refine sX C ?_;intro _ C;refine mT1 C ?_;exact⟨by rw[e1 (by decide),e2 (by decide)];rfl,b3.trans (hb.mono b3.size)⟩
 ·refine sX C ?_;intro _ C;refine mCt C ?_;refine sX C ?_;intro _ C;refine mT1 C ?_;exact⟨by rw[if_pos hm];rfl,hb⟩
end
section
open Classical
variable{L:List Rl}
theorem tn{k:Nat}{l:Rl}(h:L[k]? =some l)(c:Nm):lks (trR (L.take (k+1))) c=lks (trR (L.take k)) c++(if l.c=c then [l.x]else []):=by
 rw[EX,h];show lks (trR (L.take k++ [l])) c=_;unfold trR;rw[Cl,gU];show _++lks [(l.c,l.x)] c=_;rw[eh];rfl
theorem abq{c:Nm}{x:Lk}(h:x∈lks (trR L) c):∃(i:Nat)(l:Rl),L[i]? =some l/\l.c=c/\l.x=x:=by
 obtain⟨i,hi,e⟩:=List.getElem_of_mem (bV.1 h);obtain⟨l,h1,h2⟩:=kG (show(trR L)[i]? =some (c,x)by rw[AM hi,e]);injection h2 with h2 h3;exact⟨i,l,h1,h2.symm,h3.symm⟩
theorem abr{i:Nat}{l:Rl}(h:L[i]? =some l):l.x∈lks (trR L) l.c:=bV.2 (A5 (j5 h))
theorem nodup_sub{A:List Nm}:∀ {B:List Nm},A.Nodup->(∀x∈A,x∈B)->A.length<=B.length:=by
 induction A with
 | nil=>intro B _ _;exact A3 _
 | cons a A ih=>
  intro B I h;obtain⟨h1,h2⟩:=Bz.1 I;obtain⟨G,H,e⟩:=List.append_of_mem (h a (List.mem_cons_self ..));have:=ih (B:=G++H) h2 (λx F=>by
   have C:=h x (List.mem_cons_of_mem _ F);rw[e]at C;rcases AJ.1 C with k | k
   ·exact AJ.2 (.inl k)
   ·rcases AY.1 k with k | k
    ·exact absurd F (k▸h1)
    ·exact AJ.2 (.inr k))
  rw[e];simp only[Bh,Bj]at this⊢;omega
variable{l:List Nm}
theorem sP(h:l.Pairwise jD):l.Nodup:=List.Pairwise.imp (λ{a b} (k:jD a b) e=>by subst e;exact List.lt_irrefl _ k) h
theorem known_len(h:l.Pairwise jD)(F:∀x,x∈l↔aF (trR L) x):l.length<=2*L.length:=by
 have:=nodup_sub (B:=L.map (·.c)++L.map (·.x.par)) (sP h) (λx G=>by
  obtain⟨i,C,h1,h2⟩:=j6.1 ((F x).1 G);rcases h2 with e | e
  ·exact AJ.2 (.inl (Be.2 ⟨C,A5 h1,e⟩))
  ·exact AJ.2 (.inr (Be.2 ⟨C,A5 h1,e⟩)))
 simp only[Bj,Cj]at this;omega
theorem abs{R:Tr}{c p:Nm}(hs:l.Pairwise jD)(C:∀x,x∈l↔aF R x):ck (λx=>aF R x\/x=c\/x=p) (l.length+(if aF R c then 0 else 1)+(if¬aF R p/\p≠c then 1 else 0)):=by
 have hn:=sP hs;by_cases k1:aF R c<;>by_cases k2:¬aF R p/\p≠c
 ·rw[if_pos k1,if_pos k2];refine⟨p::l,Bz.2 ⟨λe=>k2.1 ((C p).1 e),hn⟩,λx=> ?_,rfl⟩;rw[AY,C];exact⟨λh=>h.elim (λe=>.inr (.inr e)) .inl,λh=>h.elim .inr (λh=>h.elim (λe=>.inr (e▸k1)) .inl)⟩
 ·rw[if_pos k1,if_neg k2];refine⟨l,hn,λx=> ?_,rfl⟩;rw[C];refine⟨.inl,λh=>h.elim id (λh=>h.elim (λe=>e▸k1) (λe=> ?_))⟩;by_cases k3:aF R p
  ·exact e▸k3
  ·by_cases k4:p=c
   ·rw[e,k4];exact k1
   ·exact absurd ⟨k3,k4⟩ k2
 ·rw[if_neg k1,if_pos k2];refine⟨p::c::l,Bz.2 ⟨λe=>(AY.1 e).elim k2.2 (λe=>k2.1 ((C p).1 e)),Bz.2 ⟨λe=>k1 ((C c).1 e),hn⟩⟩,λx=> ?_,rfl⟩;rw[AY,AY,C];exact⟨λh=>h.elim (λe=>.inr (.inr e)) (λh=>h.elim (λe=>.inr (.inl e)) .inl),λh=>h.elim (λh=>.inr (.inr h)) (λh=>h.elim (λe=>.inr (.inl e)) .inl)⟩
 ·rw[if_neg k1,if_neg k2];refine⟨c::l,Bz.2 ⟨λe=>k1 ((C c).1 e),hn⟩,λx=> ?_,rfl⟩;rw[AY,C];refine⟨λh=>h.elim (λe=>.inr (.inl e)) .inl,λh=>h.elim .inr (λh=>h.elim .inl (λe=> ?_))⟩;by_cases k3:aF R p
  ·exact .inr (e▸k3)
  ·by_cases k4:p=c
   ·exact .inl (e.trans k4)
   ·exact absurd ⟨k3,k4⟩ k2
set_option maxHeartbeats 2000000 in
theorem q_AttachR{w:World}{t:Nat}{v:Value}(h:RM w t v L)(hR:TOk (trR L))(c p:Nm)(f:Int)(hc:Nam c)(hp:Nam p)(hn:L.length<=1000000):
  AF AD 95 #[ptB t,.string c,.string p,.int .i64 f] w λe w'=>∃v' L' au,e= .returned (.int .i64 au)/\RPost w t v L w' v' L'/\AttS bX (trR L) c p f (trR L') au:=by
 have F:=uF (w:=w) c hc;have G:=uF (w:=w) p hp;have bt:=wm h c hn;have U:=AE h;obtain⟨ad,cp,hv⟩:=h.form;obtain⟨n,hN⟩:∃n,n=L.length:=⟨_,rfl⟩;have HN:=AE hN;have HR:=AE hR;rw[<-hN]at hv hn;subst hv;have cx:(n:Int)<=1000000:=no
 have cq:=h.cell;clear h hN hn hR hc hp;by_cases gc:bX c
 ·rw[decide_eq_true gc]at F;by_cases gp:bX p
  ·rw[decide_eq_true gp]at G;have J:=AE (BA gc gp);clear gc gp;by_cases g0:f<0
   ·have q0:decide (f<0)=true:=decide_eq_true g0;have H:=AE (AttS.time (isN:=bX) (R:=trR L) (c:=c) (p:=p) (f:=f) J.out (.inl g0));clear g0;go_enter Tryz.func95,Tryz.ntmps95
    go_upto_region 3 with(first
     | (go_at_call 159;refine F.mono ?_;rintro e w1 ⟨rfl,C⟩;obtain rfl:=C.symm;clear F)
     | (go_at_call 159;refine G.mono ?_;rintro e w1 ⟨rfl,C⟩;obtain rfl:=C.symm;clear G))
    go_wp2;go_ret;exact⟨_,L,17,rfl,.refl U.out (AH _ _),H.out⟩
   ·have q0:decide (f<0)=false:=decide_eq_false g0;by_cases g1:dX<f
    ·have q1:decide ((1099511627776:Int)<f)=true:=decide_eq_true g1;have H:=AE (AttS.time (isN:=bX) (R:=trR L) (c:=c) (p:=p) (f:=f) J.out (.inr (.inl g1)));clear g0 g1;go_enter Tryz.func95,Tryz.ntmps95
     go_upto_region 3 with(first
      | (go_at_call 159;refine F.mono ?_;rintro e w1 ⟨rfl,C⟩;obtain rfl:=C.symm;clear F)
      | (go_at_call 159;refine G.mono ?_;rintro e w1 ⟨rfl,C⟩;obtain rfl:=C.symm;clear G))
     go_wp2;go_ret;exact⟨_,L,17,rfl,.refl U.out (AH _ _),H.out⟩
    ·have q1:decide ((1099511627776:Int)<f)=false:=decide_eq_false g1;have HG:=AE (BA g0 g1);clear g0 g1;go_enter Tryz.func95,Tryz.ntmps95
     go_upto_region 3 with(first
      | (go_at_call 159;refine F.mono ?_;rintro e w1 ⟨rfl,C⟩;obtain rfl:=C.symm;clear F)
      | (go_at_call 159;refine G.mono ?_;rintro e w1 ⟨rfl,C⟩;obtain rfl:=C.symm;clear G))
     go_upto_if 31 with(go_at_call 155;refine bt.mono ?_;rintro e w1 ⟨i,rfl,hi,C⟩;obtain rfl:=C.symm;have HP:=AE (ws hi);clear bt hi)
     rcases HP.out with⟨hi,hp⟩ | ⟨A,B,l,hi,hL,hc,hp⟩
     ·subst hi;have aq:=AE hp;clear hp;go_wp2;go_loopw [9,10] (λs9 a9 wr=>∃k:Nat,k<=n/\s9= .int .i64 (((lks (trR (L.take k)) c).length:Nat):Int)/\a9= .int .i64 (k:Int)/\wr=w/\Hid (∀i l,i<k->L[i]? =some l->l.c=c->l.x.un<=f)) (λ_ a9 _=>n - (intOf a9).toNat)
      case atStart=>exact⟨0,A3 _,rfl,rfl,rfl,AE (λi l hi=>absurd hi (Dd _))⟩
      case round=>
       obtain⟨k,hk,rfl,rfl,cc,HO⟩:=hrel;obtain rfl:=cc;rcases Bg k n with b9 | cr
       ·have cu:(k:Int)<(n:Int):=no
        obtain⟨l,hl⟩:∃l,L[k]? =some l:=⟨_,AM (by rw[<-HN.out];exact b9)⟩;obtain⟨b,c2,cs,e,A⟩:=U.out.at hl;injection e with e1 e2 e3;subst e1;subst e3;clear e2;have fc:=A.c;have fu:=A.un;have HL:=AE hl;have aa:=tn hl c;have b2:(lks (trR (L.take k)) c).length<=k:=AG (acm _ _) (by unfold trR;rw[Cj,A9];omega);clear A hl;have be:=AE (show(l.c=c->l.x.un<=f)->∀i l',i<k+1->L[i]? =some l'->l'.c=c->l'.x.un<=f from λcb i l' hi an=>by
         rcases Bg i k with h | h
         ·exact HO.out i l' h an
         ·obtain rfl:i=k:=no
          rw[HL.out]at an;injection an with an;subst an;exact cb)
        by_cases g1:l.c=c
        ·have q5:=kV g1;rw[if_pos g1]at aa;have a5:(lks (trR (L.take (k+1))) c).length=(lks (trR (L.take k)) c).length+1:=by rw[aa,Bj];rfl
         clear aa;obtain⟨m,hm⟩:∃m,(lks (trR (L.take k)) c).length=m:=⟨_,rfl⟩;rw[hm]at b2 a5⊢;have bO:=AE a5;clear a5 hm;have ca:(m:Int)<=1000000:=no
         by_cases g2:f<l.x.un
         ·have q6:decide (f<l.x.un)=true:=decide_eq_true g2;have H:=AE (AttS.time (isN:=bX) (R:=trR L) (c:=c) (p:=p) (f:=f) J.out (.inr (.inr (.inr ⟨l.x,by rw[<-g1];exact abr HL.out,g2⟩))));clear g1 g2;go_wp2;go_ret;exact⟨_,L,17,rfl,.refl U.out (AH _ _),H.out⟩
         ·have q6:decide (f<l.x.un)=false:=decide_eq_false g2;have ax:=AE g2;clear g1 g2;go_wp2;go_roundw
          case rel=>exact⟨k+1,no,by rw[bO.out];go_num,by go_num,by trivial,AE (be.out (λ_=>by have:=ax.out;omega))⟩
          case measure=>simp[intOf];omega
        ·have q5:=gW g1;rw[if_neg g1,CO]at aa;have b1:=AE aa;have ax:=AE g1;clear g1 aa;go_wp2;go_roundw
         case rel=>exact⟨k+1,no,by rw[b1.out],by go_num,by trivial,AE (be.out (λe=>absurd e ax.out))⟩
         case measure=>simp[intOf];omega
       ·obtain rfl:k=n:=no
        have P:L.length<=1000000:=by rw[<-HN.out];omega
        have HU:=AE (show∀x∈lks (trR L) c,x.un<=f from λx hx=>by
         obtain⟨i,l,h1,h2,rfl⟩:=abq hx;exact HO.out i l (by have:=(A1.1 h1).1;rw[HN.out];exact this) h1 h2)
        obtain⟨m,hm⟩:∃m,(lks (trR (L.take k)) c).length=m:=⟨_,rfl⟩;rw[hm];have a0:=AE (show m=(lks (trR L) c).length by rw[<-hm,List.take_of_length_le (by rw[HN.out];exact AI _)]);have ca:(m:Int)<=1000000:=by
         have:=acm (trR L) c;have e:(trR L).length=L.length:=by unfold trR;simp
         rw[<-a0.out,e]at this;omega
        have bi:=q_FramesR U.out P;have ac:=AE P;clear hm HO P
        go_upto_if 69 with(first
         | (go_at_call 105;refine bi.mono ?_;rintro e w1 ⟨v1,lf,rfl,bz,_,a6,a7,hb⟩;obtain⟨cn,c1,rfl⟩:=cV bz.1;have I:=AE hb;have V:=AE (abs (c:=c) (p:=p) a7 a6);have cv:=known_len a7 a6;have bp:=iT (U.out.below hb) c ac.out;clear bi bz a6 a7 hb)
         | (go_at_call 103;refine bp.mono ?_;rintro e w2 ⟨rfl,C⟩;obtain rfl:=C.symm;clear bp))
        have b8:(lf.length:Int)<=2000000:=by have:=ac.out;omega
        have b0:=AE b8;go_cut [11]from 12 (λap wx=>ap= .int .i64 ((lf.length+(if aF (trR L) c then 0 else 1):Nat):Int)/\wx=w1)
        case first=>
         by_cases g3:aF (trR L) c
         ·have q3:decide (aF (trR L) c)=true:=decide_eq_true g3;have ay:=AE g3;rw[q3];clear g3;go_wp2;go_meet;case rel=>exact⟨by rw[if_pos ay.out];rfl,by trivial⟩
         ·have q3:decide (aF (trR L) c)=false:=decide_eq_false g3;have ay:=AE g3;rw[q3];clear g3;go_wp2;go_meet;case rel=>exact⟨by rw[if_neg ay.out];go_num,by trivial⟩
        case rest=>
         obtain⟨ak,ew⟩:=hcut;obtain rfl:=ew.symm;obtain rfl:=ak.symm;obtain⟨n1,ar⟩:∃n1,lf.length+(if aF (trR L) c then 0 else 1)=n1:=⟨_,rfl⟩;rw[ar];rw[ar]at V;have cl:(n1:Int)<=2000001:=by
          have:=b0.out;split at ar<;>omega
         have K:=iT (U.out.below I.out) p ac.out;clear ar;go_upto_region 16 with(fail)
         go_cut [11,80]from 12 (λap cd wx=>ap= .int .i64 (n1:Int)/\cd= .bool (decide (¬aF (trR L) p/\p≠c))/\wx=w1)
         case first=>
          by_cases g4:aF (trR L) p
          ·rw[decide_eq_true g4]at K;have e4:decide (¬aF (trR L) p/\p≠c)=false:=decide_eq_false (λk=>k.1 g4);have ab:=AE e4;clear g4 e4;go_wp2_with (go_at_call 103;refine K.mono ?_;rintro e w2 ⟨rfl,C⟩;obtain rfl:=C.symm;clear K)
           go_meet;case rel=>exact⟨by trivial,by rw[ab.out],by trivial⟩
          ·rw[decide_eq_false g4]at K;by_cases g5:p=c
           ·have q5:=kV g5;have e4:decide (¬aF (trR L) p/\p≠c)=false:=decide_eq_false (λk=>k.2 g5);have ab:=AE e4;clear g4 e4 g5;go_wp2_with (go_at_call 103;refine K.mono ?_;rintro e w2 ⟨rfl,C⟩;obtain rfl:=C.symm;clear K)
            go_meet;case rel=>exact⟨by trivial,by rw[ab.out],by trivial⟩
           ·have q5:=gW g5;have e4:decide (¬aF (trR L) p/\p≠c)=true:=decide_eq_true ⟨g4,g5⟩;have ab:=AE e4;clear g4 e4 g5;go_wp2_with (go_at_call 103;refine K.mono ?_;rintro e w2 ⟨rfl,C⟩;obtain rfl:=C.symm;clear K)
            go_meet;case rel=>exact⟨by trivial,by rw[ab.out],by trivial⟩
         case rest=>
          obtain⟨ak,a3,ew⟩:=hcut;obtain rfl:=ew.symm;obtain rfl:=ak.symm;obtain⟨n2,P⟩:∃n2,n1+(if¬aF (trR L) p/\p≠c then 1 else 0)=n2:=⟨_,rfl⟩;rw[P]at V;have cm:(n2:Int)<=2000002:=by split at P<;>omega
          obtain⟨bq,a4⟩:∃bq,decide (¬aF (trR L) p/\p≠c)=bq:=⟨_,rfl⟩;rw[a4]at a3;obtain rfl:=a3.symm;have a1:=AE (show n2=n1+(if bq=true then 1 else 0)by rw[<-P,<-a4];simp only[decide_eq_true_eq]);clear P a4 a3;go_upto_if 80 with(fail)
          go_cut [11]from 12 (λap wx=>ap= .int .i64 (n2:Int)/\wx=w1)
          case first=>
           cases bq with
           | true=>
            go_wp2;go_meet
            case rel=>exact⟨by rw[a1.out];go_num,by trivial⟩
           | false=>
            go_wp2;go_meet;case rel=>exact⟨by rw[a1.out];rfl,by trivial⟩
          case rest=>
           obtain⟨ak,ew⟩:=hcut;obtain rfl:=ew.symm;obtain rfl:=ak.symm;clear a1;by_cases g7:24<n2
           ·have q7:decide ((24:Int)<(n2:Int))=true:=decide_eq_true no;have H:=AE (AttS.full (isN:=bX) (R:=trR L) (c:=c) (p:=p) (f:=f) J.out (by have:=HG.out.1;omega) (by have:=HG.out.2;omega) aq.out HU.out n2 V.out (.inl g7));clear g7;go_wp2;go_ret;exact⟨_,L,15,rfl,.refl U.out I.out,H.out⟩
           ·have q7:decide ((24:Int)<(n2:Int))=false:=decide_eq_false no;by_cases g8:64<=m
            ·have q8:decide ((64:Int)<=(m:Int))=true:=decide_eq_true no;have H:=AE (AttS.full (isN:=bX) (R:=trR L) (c:=c) (p:=p) (f:=f) J.out (by have:=HG.out.1;omega) (by have:=HG.out.2;omega) aq.out HU.out n2 V.out (.inr (by rw[<-a0.out];exact g8)));clear g7 g8;go_wp2;go_ret;exact⟨_,L,15,rfl,.refl U.out I.out,H.out⟩
            ·have q8:decide ((64:Int)<=(m:Int))=false:=decide_eq_false no;have bb:=AE (show n2<=24/\(lks (trR L) c).length<64 by rw[<-a0.out];omega);have Z:=q_cycleR (U.out.below I.out) HR.out c p f ac.out;clear g7 g8;by_cases g9:Cyc (trR L) c p f
             ·rw[decide_eq_true g9]at Z;have H:=AE (AttS.cycle (isN:=bX) (R:=trR L) (c:=c) (p:=p) (f:=f) J.out (by have:=HG.out.1;omega) (by have:=HG.out.2;omega) aq.out HU.out n2 V.out bb.out g9);clear g9;go_wp2_with (go_at_call 160;refine Z.mono ?_;rintro e w2 ⟨rfl,am⟩;have av:=AE (I.out.trans (am.mono I.out.size));clear Z am)
              go_ret;exact⟨_,L,19,rfl,.refl U.out av.out,H.out⟩
             ·rw[decide_eq_false g9]at Z;have H:=AE (AttS.ok (isN:=bX) (R:=trR L) (c:=c) (p:=p) (f:=f) J.out (by have:=HG.out.1;omega) (by have:=HG.out.2;omega) aq.out HU.out n2 V.out bb.out g9);clear g9;go_upto_if 93 with(go_at_call 160;refine Z.mono ?_;rintro e w2 ⟨rfl,am⟩;have av:=AE (I.out.trans (am.mono I.out.size));clear Z am)
              rename_i K2 ao _ _;have a2:=AE ao;clear ao;go_wp2;refine a2.out _ _ (att_tail U.out HN.out ac.out av.out (Kn.mk0 rfl rfl Ab) (λc a a' w e h=>⟨e.trans h.1,h.2⟩) (λa' w' v' g sl h1 h2 h3=> ?_) _ Aa);refine Ba (results_tmp rfl _ _ _) h2 ?_;refine⟨v',_,0,by rw[<-h1],h3,?_⟩;rw[show trR (L++ [⟨c,bF p f,g,sl⟩])=jA (trR L) c p f by unfold trR jA;rw[Cl];rfl];exact H.out
     ·subst hi;have q2:decide ((0:Int)<=(A.length:Int))=true:=decide_eq_true no;have H:=AE (AttS.time (isN:=bX) (R:=trR L) (c:=c) (p:=p) (f:=f) J.out (.inr (.inr (.inl ⟨_,_,hp⟩))));clear hp hL hc;go_wp2;go_ret;exact⟨_,L,17,rfl,.refl U.out (AH _ _),H.out⟩
  ·rw[decide_eq_false gp]at G;have H:=AE (AttS.name (isN:=bX) (R:=trR L) (c:=c) (p:=p) (f:=f) (λk=>gp k.2));clear gc gp;go_enter Tryz.func95,Tryz.ntmps95
   go_wp2_with (first
     | (go_at_call 159;refine F.mono ?_;rintro e w1 ⟨rfl,C⟩;obtain rfl:=C.symm;clear F)
     | (go_at_call 159;refine G.mono ?_;rintro e w1 ⟨rfl,C⟩;obtain rfl:=C.symm;clear G))
   go_ret;exact⟨_,L,5,rfl,.refl U.out (AH _ _),H.out⟩
 ·rw[decide_eq_false gc]at F;have H:=AE (AttS.name (isN:=bX) (R:=trR L) (c:=c) (p:=p) (f:=f) (λk=>gc k.1));clear gc;go_enter Tryz.func95,Tryz.ntmps95
  go_wp2_with (go_at_call 159;refine F.mono ?_;rintro e w1 ⟨rfl,C⟩;obtain rfl:=C.symm;clear F)
  go_ret;exact⟨_,L,5,rfl,.refl U.out (AH _ _),H.out⟩
end
section
open Classical
def ByPost(w:World)(t:Nat)(v:Value)(L:List Rl)(x:Ax)(e:Ending)(w':World):Prop:=∃v' L' code,e= .returned (.int .i64 code)/\RPost w t v L w' v' L'/\DoS (trR L) x (trR L') code
variable{cs:List Value}
theorem q_SetRP{w:World}{t:Nat}{v:Value}{L:List Rl}{c:Nm}{a:Int}{p:Pq}(h:RM w t v L)(hn:L.length<=1000000)(I:TOk (trR L))(U:aR w (.agg cs.toArray) p)(h2:p.ok 2)(H:p.rot.comp/\p.pos.good):
  AF AD 93 #[ptB t,.string c,stV a cs] w λe w'=>∃v' L' C,e= .returned (.int .i64 C)/\RPost w t v L w' v' L'/\SetS (kM a p) (trR L) c a (trR L') C:=by
 obtain⟨G,F,hc⟩:=U;have F:cs=G:=by injection F with F;simpa using F
 subst F;refine q_SetR h hn (I.row c) (aw hc) _ (λw' g sl S J hb ht=> ?_);obtain⟨l,hl,rfl⟩:=J;obtain⟨k,P⟩:=Dn hl;have K:GoodS l.x.tr:=I.good _ (A5 (j5 P));exact k_rAdd (s:=⟨a,p⟩) ht ⟨cs,rfl,aZ.mono hc hb⟩ h2 H K
theorem q_FixRP{w:World}{t:Nat}{v:Value}{L:List Rl}{c:Nm}{p:Pq}(h:RM w t v L)(hn:L.length<=1000000)(H:TOk (trR L))(G:aR w (.agg cs.toArray) p)(h2:p.ok 2)(F:p.rot.comp/\p.pos.good):
  AF AD 94 #[ptB t,.string c,.agg cs.toArray] w λe w'=>∃v' L' C,e= .returned (.int .i64 C)/\RPost w t v L w' v' L'/\FixS (decide p.good) p (trR L) c (trR L') C:=
 q_FixedR h hn (λl hl=>by
  obtain⟨k,I⟩:=Dn hl;exact(H.good _ (A5 (j5 I))).len) G (λ_ hb=>q_rVal (G.mono hb) h2 F)
end
end Go.Proofs.YtggfmklppkioeaaGreat
