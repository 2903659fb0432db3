/- The reference's tree: Set. The reference's tree: Fixed. The reference's tree: Fixed, the walk. The reference's tree: a link comes in. Trees of frames: Edge. The reference's tree: Attach, the end: a link comes in. The reference's tree: Attach. Tracks in memory: the reference's Add. The reference's tree: a step of the statements is done to it. -/
import Derived.Test.YtggfmklppkioeaaGreatP15
import Derived.Deep.MidRow
namespace Go.Proofs.YtggfmklppkioeaaGreat
set_option linter.unusedSimpArgs false
set_option linter.unusedVariables false
set_option maxRecDepth 100000
open Go.RowKit
open _root_.Go.RowKit renaming Below → AG
open _root_.Go renaming Calls → AH,all_oneCell_toArray → EC,bodyPost_ret → A6,heap_alloc_new → BE,heap_setCell_same → CH,results_tmp → B9,wpAnyH_take → BX,wpList_load_mid → EY,wpList_plain → Ck,wpList_store_mid → Fm,wp_block → AY,wp_region_held_drew → EA,wp_region_list → CC,wp_ret → Bk,wp_seq → AP,wp_skip → Bm
open _root_.And renaming intro → Ba
open _root_.Array renaming getElem?_eq_some_iff → A8
open _root_.Go.RowKit.Below renaming refl → AL
open _root_.Go.Builtin renaming append_ → Ca
open _root_.Int renaming tmod_eq_emod_of_nonneg → Cz
open _root_.Go.IntKind renaming i64 → Bd,wrap_i64 → BQ
open _root_.Go.Lib renaming hid → AF
open _root_.List renaming append_nil → Ds,getElem?_append_left → Bw,getElem?_append_right → Bq,getElem?_eq_getElem → AU,getElem?_eq_some_iff → A5,getElem?_of_mem → DH,getElem_of_mem → BN,length_append → By,length_cons → Bz,length_drop → Cv,length_map → Cf,length_take → Bp,map_append → Cu,mem_append → AJ,mem_cons → A3,mem_cons_of_mem → Bg,mem_flatMap → Br,mem_map → Bi,mem_of_getElem? → Bb,nodup_cons → Bv,not_mem_nil → DE,size_toArray → Cc
open _root_.Nat renaming le_refl → AK,le_trans → AI,lt_of_lt_of_le → Bt,lt_or_ge → Bl,sub_self → Dd,zero_add → Bh,zero_le → Bc
open _root_.Option renaming map_some → BF
open _root_.Or renaming inl → A1
open _root_.Go.Proofs.Tryz renaming func207 → Eu,prog → AE,underlying183 → CA,underlying39 → C7
open _root_.Go.Value renaming int → AW,ownBlock → CI
open _root_.Go.World renaming cell?_of_block → BM,frozen? → Dg
section
open Classical
theorem RPost.pre{w w1 w2:World}{t:Nat}{v v':Value}{L L':List Rl}(hb:AG w.heap.size w w1)(h:RPost w1 t v L w2 v' L'):RPost w t v L w2 v' L':=
 ⟨h.rm,⟨h.kp.os.trans hb.os,h.kp.tape.trans hb.tape,h.kp.output.trans hb.output,AI hb.size h.kp.size,λk C hn=>(h.kp.block k (Bt C hb.size) hn).trans (hb.block k C)⟩,λg G=>(h.fp g G).imp id (λk=>AI hb.size k)⟩
set_option maxHeartbeats 400000 in
theorem q_SetR{w:World}{t:Nat}{v:Value}{L:List Rl}{c:Nm}{a:Int}{cs:List Value}(h:RM w t v L)(hn:L.length<=1000000)(hR:gY (lks (trR L) c))(hl:cs.length=21)(add:List St->List St×Int)
  (ak:∀w' g sl S,(∃l∈L,S=l.x.tr)->AG w.heap.size w w'->TrkS rkT w' g sl S->AH AE 156 #[ptB g,stV a cs] w' λe bz=>e= .returned (.int .i64 (add S).2)/\TrkM rkT w' g sl (add S).1 bz):
  AH AE 93 #[ptB t,.string c,stV a cs] w λe w'=>∃v' L' code,e= .returned (.int .i64 code)/\RPost w t v L w' v' L'/\SetS add (trR L) c a (trR L') code:=by
 obtain⟨w1,a4⟩:∃w1,w.alloc (.cells (.int .i64 a::cs).toArray 120)=w1:=⟨_,rfl⟩;have ao:AG w.heap.size w w1:=by rw[<-a4];exact(AL _ _).alloc (AK _) _
 have I:w1.heap[w.heap.size]? =some (.cells (.int .i64 a::cs).toArray 120 (0,0)):=by rw[<-a4];exact BE w _
 have a2:=ij (h.below ao) c a hn;generalize hB:w.heap.size=B0 at *;have ax:B0<w1.heap.size:=(A8.1 I).1;have bi:w1.cell? ⟨B0,0,none⟩=some (.int .i64 a):=by rw[aE I];rfl
 have HM:=AF h;have a5:=AF ao;have au:=AF I;have an:=AF ax;have b0:=AF hB;have HR:=AF hR;have ar:=AF ak;have a6:=AF hl;obtain⟨ad,cp,hv⟩:=h.form;obtain⟨n,hN⟩:∃n,n=L.length:=⟨_,rfl⟩;have HN:=AF hN;rw[<-hN]at hv hn;subst hv;have b4:(n:Int)<=1000000:=Aa
 clear h hN hn ao I ax hR ak hl;go_enter Tryz.func93,Tryz.ntmps93
 go_upto_if 14 with(go_at_call 96;refine a2.mono ?_;rintro e w2 ⟨i,rfl,hi,H⟩;have HW:=AF H;have HP:=AF (plS_inv hi);clear a2 hi H)
 have ap:AG w.heap.size w w2:=by rw[hB];exact a5.out.trans (HW.out.mono (by have:=an.out;omega))
 have J:=AF ap;have a0:=(HM.out.below ap).cell;clear ap;rcases HP.out with⟨hi,hp⟩ | ⟨A,B,l,hi,hL,hc,hp⟩
 ·subst hi;have HQ:=AF (SetS.none (add:=add) hp.tAt);clear hp;go_wp2;go_ret;exact⟨_,L,18,rfl,.refl HM.out J.out,HQ.out⟩
 ·subst hi;obtain⟨k,hk⟩:∃k,A.length=k:=⟨_,rfl⟩;rw[hk];have U:L[k]? =some l:=by rw[hL,<-hk,Bq (AK _),Dd];rfl
  have a1:=(A5.1 U).1;have b3:(k:Int)<(n:Int):=by rw[HN.out];omega
  have q0:decide ((k:Int)<0)=false:=decide_eq_false Aa;have ab:=hp.tAt HR.out;have Y:=HM.out.below J.out;obtain⟨b,c2,b2,e,AT⟩:=Y.at U;injection e with e1 e2 e3;subst e1;subst e3;clear e2;have fst:=AT.st;have av:=AT.tp;have P:=AF hL;have HK:=AF hk;have bb:=AF ab;have HC:=AF hc;have b1:=AF U;have G:∀j,w2.cell? ⟨B0,j,none⟩=w1.cell? ⟨B0,j,none⟩:=λj=>BM (HW.out.block B0 an.out)
  have a7:=AF Y
  cases hx:l.x.st with
  | true=>
   rw[hx]at fst;have HQ:=AF (SetS.still (add:=add) ab hx);clear AT U a1 hL hk hp hc ab hx G Y;go_wp2;go_ret;exact⟨_,L,10,rfl,.refl HM.out J.out,HQ.out⟩
  | false=>
   rw[hx]at fst;have HX:=AF hx;have a3:w2.rangeAt B0 0 (.int .i64 a::cs):=λj v hv=>by rw[G,aE au.out,Bh];simpa using hv
   have bq:(AE.info? 120).map (·.size)=some (.int .i64 a::cs:List Value).length:=by rw[Bz,a6.out];kernel_rfl
   clear AT U a1 hL hk hp hc ab hx G Y;have Z:RM w2.drew t (.slice (some ⟨b,0,none⟩) n cp) (A++l::B):=by rw[<-P.out];exact a7.out.below (AL _ _).drew
   have ac:=ar.out w2.drew l.g l.sl l.x.tr ⟨l,(by rw[P.out];simp),rfl⟩ (by rw[<-hB];exact J.out.drew) (Z.trk l Ag);have HA:=AF ac;have a9:=AF (show∀w3,TrkM rkT w2.drew l.g l.sl (add l.x.tr).1 w3->w3.cell? ⟨t,0,none⟩=w2.cell? ⟨t,0,none⟩/\(∀j,w3.cell? ⟨b,j,none⟩=w2.cell? ⟨b,j,none⟩)/\(∀j,w3.cell? ⟨B0,j,none⟩=w2.cell? ⟨B0,j,none⟩)/\∃v' L' code,Ending.returned (.int .i64 (add l.x.tr).2)= .returned (.int .i64 code)/\RPost w t (.slice (some ⟨b,0,none⟩) n cp) L w3 v' L'/\SetS add (trR L) c a (trR L') code from λw3 hM=>by
    have aa:=Z.nd;have aq:=HM.out.lt;have bp:l.g∈fpR t (.slice (some ⟨b,0,none⟩) n cp) L:=by rw[P.out];exact Bg _ (AJ.2 (.inr (Br.2 ⟨l,Ag,Ag⟩)))
    have be:b∈fpR t (.slice (some ⟨b,0,none⟩) n cp) L:=by simp[fpR,CI]
    have bt:t∈fpR t (.slice (some ⟨b,0,none⟩) n cp) L:=by simp[fpR]
    have am:w.heap.size<=w2.heap.size:=J.out.size;have ay:B0<w2.heap.size:=Bt an.out HW.out.size;have n1:t≠l.g:=λe=>by
     unfold fpR at aa;exact(Bv.1 aa).1 (by rw[e];exact AJ.2 (.inr (Br.2 ⟨l,Ag,Ag⟩)))
    have n2:b≠l.g:=λe=>by
     unfold fpR at aa;exact cA (Bv.1 aa).2 (x:=b) (by simp[CI]) (Br.2 ⟨l,Ag,by simp[e]⟩)
    have n3:B0≠l.g:=λe=>by have:=aq _ bp;omega
    refine⟨BM (hM.kept.block t (Bt (aq _ bt) am) n1),λj=>BM (hM.kept.block b (Bt (aq _ be) am) n2),λj=>BM (hM.kept.block B0 ay n3),?_⟩;obtain⟨sl',hP⟩:=Z.trkM hM;refine⟨_,_,_,rfl,RPost.pre J.out.drew (by rw[P.out];exact hP),?_⟩;rw[j8,HC.out];exact .ok (by rw[P.out,j8,HC.out]) bb.out HX.out)
   clear Z ac;generalize l.g=lg at *;generalize (add l.x.tr).2=code at *;go_upto_region 6 with(fail)
   refine EA (S:=λw'=>w'.cell? ⟨t,0,none⟩=some (.slice (some ⟨b,0,none⟩) n cp)/\w'.cell? ⟨b,k*27+26,none⟩=some (ptB lg)/\w'.rangeAt B0 0 (.int .i64 a::cs)) Ab ⟨by simpa using a0,by simpa using av,by simpa using a3⟩ (λC=> ?_);refine BX (i:=8) (v:=stV a cs) rfl Ab Ab Ab (λ_ _ _ h=>h) (yieldsIf_load_mid Ai _ _ rfl B0 0 rfl _ _ (λw H=>H.2.2) Tryz.underlying120 rfl bq) C ?_;refine BX (i:=0) (v:=ptB t) rfl Ab Ab Ab (λ_ _ _ h=>h) (A1 ⟨Ai,λw H=>Ai⟩) C ?_;refine BX (i:=1) (v:=ptB t) rfl Ab Ab Ab (λ_ _ _ h=>h) (A1 ⟨Ai,λw H=>Am⟩) C ?_;refine BX (i:=2) (v:=ptB t) rfl Ab Ab Ab (λ_ _ _ h=>h) (A1 ⟨Ai,λw H=>Am⟩) C ?_;refine BX (i:=3) (v:=.slice (some ⟨b,0,none⟩) n cp) rfl Ab Ab Ab (λ_ _ _ h=>h) (A1 ⟨Ai,λw H=>by have:=H.1;go_simp⟩) C ?_;refine BX (i:=4) (v:=.int .i64 (k:Int)) rfl Ab Ab Ab (λ_ _ _ h=>h) (A1 ⟨Ai,λw H=>Ai⟩) C ?_;refine BX (i:=5) (v:=.pointer (some ⟨b,k*27,none⟩)) rfl Ab Ab Ab (λ_ _ _ h=>h) (A1 ⟨Ai,λw H=>Am⟩) C ?_;refine BX (i:=6) (v:=.pointer (some ⟨b,k*27+26,none⟩)) rfl Ab Ab Ab (λ_ _ _ h=>h) (A1 ⟨Ai,λw H=>Am⟩) C ?_;refine BX (i:=7) (v:=ptB lg) rfl Ab Ab Ab (λ_ _ _ h=>h) (A1 ⟨Ai,λw H=>by have:=H.2.1;go_simp⟩) C ?_;refine wpAnyH_ready (rs:=[9]) Ab Ag ?_;refine AllReadyH.cons rfl (λK hK=> ?_) AllReadyH.nil;go_simp;go_at_call 156
   refine HA.out.mono ?_;rintro e w3 ⟨rfl,hM⟩;obtain⟨e1,e2,e3,hq⟩:=a9.out _ hM;have HQ:=AF hq;refine hK.out _ _ ⟨e1.trans a0,(e2 _).trans av,λj v hv=>(e3 _).trans (a3 j v hv)⟩ (λV=> ?_);clear hK K hM e1 e2 e3 hq C;refine BX (i:=10) (v:=.int .i64 code) rfl Ab Ab Ab (λ_ _ _ h=>h) (A1 ⟨Ai,λw H=>Ai⟩) V ?_;refine wpAnyH_done Ab ?_ _;go_wp2;go_ret;exact HQ.out
end
section
open Classical
variable{w:World}{t b n c:Nat}
theorem RM.blk{L:List Rl}(h:RM w t (.slice (some ⟨b,0,none⟩) n c) L)(hn:0<L.length):∃C T,w.heap[b]? =some (.cells C T (0,0)):=by
 obtain⟨xs,⟨⟨_,h2⟩,_⟩,_⟩:=h.row;rcases h2 with⟨e,_⟩ | ⟨G,cap,C,e,_,H,_⟩
 ·cases e
 ·obtain rfl:b=G:=by injection e with e;injection e with e;injection e
  exact⟨_,_,H⟩
theorem RM.thr{L:List Rl}{k:Nat}{l:Rl}(h:RM w t (.slice (some ⟨b,0,none⟩) n c) L)(J:L[k]? =some l)(u:Value):(w.setCell ⟨b,k*27+4,none⟩ u).there b (k*27+5) 21:=λj Y=>by
 have P:=(A5.1 J).1;obtain⟨G,T,I⟩:=h.blk Aa;obtain⟨V,c2,cs,e,H⟩:=h.at J;injection e with C;injection C with C;injection C with C;subst C;have h3:=CH w b (k*27+4) G T u I;have hl:=H.len;have K:=H.rg (5+j) _ (AU Aa);rw[aE I]at K;have U:=(A8.1 K).1;refine⟨?_,by simp[Dg,h3]⟩;rw[aE h3,Array.getElem?_eq_getElem (by simp;omega)];rfl
theorem aaa{A B:List Rl}{l:Rl}{p:Pq}{cs:List Value}(h:RM w t (.slice (some ⟨b,0,none⟩) n c) (A++l::B))(hn:n=(A++l::B).length)(hv:bh w (.agg cs.toArray) p):
  RPost w t (.slice (some ⟨b,0,none⟩) n c) (A++l::B) ((w.setCell ⟨b,A.length*27+4,none⟩ (.bool true)).setCells b (A.length*27+5) cs) (.slice (some ⟨b,0,none⟩) n c) (A++ {l with x:= {l.x with st:=true,po:=p}}::B):=by
 obtain⟨K,H,hc⟩:=hv;have H:cs=K:=by injection H with H;simpa using H
 subst H;have C:cs.length=21:=aB hc;subst hn;refine RM.put (h:=h) (c:=c) rfl (us:=.bool true::cs) (o:=4) (by simp[C]) (λy hy m e=> ?_) rfl rfl rfl (λw' hk j q I J=> ?_) (λj I=> ?_)
 ·rcases A3.1 hy with hy | hy
  ·subst hy;cases e
  ·obtain⟨j,I,Z⟩:=BN hy;obtain⟨q,J⟩:∃q,(uB [p.rot.w.raw,p.rot.x.raw,p.rot.y.raw,p.rot.z.raw,p.pos.x.raw,p.pos.y.raw,p.pos.z.raw])[j]? =some q:=⟨_,AU (by show j<21;omega)⟩;obtain⟨v,G,k2,_⟩:=ig hc J;rw[AU I,Z]at G;injection G with G;subst G;exact(q.fl _ _ k2).2.2 m e
 ·cases j with
  | zero=>
   have:q= .val (.bool true):=by
    have e:(some (Vp.val (.bool true)):Option Vp)=some q:=J;injection e with e;exact e.symm
   subst this;exact⟨_,rfl,⟨rfl,bM⟩,λ_ h=>h⟩
  | succ i=>
   have hi:i<21:=by simp only[Bz,C]at I;omega
   have e:({l with x:= {l.x with st:=true,po:=p}}:Rl).qs=[.val (.string l.c),.val (.string l.x.par),.val (.int .i64 l.x.fr),.val (.int .i64 l.x.un),.val (.bool true)]++(frs p.cs++ [.val (ptB l.g)]):=rfl;rw[e,Bq (by simp;omega),Bw (by show 4+(i+1) - 5<21;omega),show 4+(i+1) - [Vp.val (.string l.c),.val (.string l.x.par),.val (.int .i64 l.x.fr),.val (.int .i64 l.x.un),.val (.bool true)].length=i by simp;omega]at J;have U:(uB [p.rot.w.raw,p.rot.x.raw,p.rot.y.raw,p.rot.z.raw,p.pos.x.raw,p.pos.y.raw,p.pos.z.raw])[i]? =some q:=J;obtain⟨v,G,k2,k3⟩:=ig hc U;obtain⟨k4,k5⟩:=q.ch _ _ _ v k2 hk (λg P=>absurd P (k3 g));exact⟨v,G,k4,λg P=>k3 g (k5 g P)⟩
 ·rcases I with h5 | h5
  ·match j,h5 with
   | 0,_=>rfl
   | 1,_=>rfl
   | 2,_=>rfl
   | 3,_=>rfl
  ·obtain⟨i,rfl⟩:∃i,j=26+i:=⟨j - 26,by simp only[Bz,C]at h5;omega⟩;have V:∀x:Pq,(frs x.cs++ [Vp.val (ptB l.g)])[21+i]? =[Vp.val (ptB l.g)][i]? :=λx=>by
    rw[Bq (by show 21<=21+i;omega)];show [Vp.val (ptB l.g)][21+i - 21]? =_;rw[Nat.add_sub_cancel_left]
   have Y:∀(a b c d e:Vp)(M:List Vp),(a::b::c::d::e::M)[26+i]? =M[21+i]? :=λa b c d e M=>by
    rw[show 26+i=(21+i)+1+1+1+1+1 by omega];rfl
   show(lnQ _ _)[_]? =(lnQ _ _)[_]?;unfold lnQ;rw[Y,Y,V,V]
end
section
open Classical
set_option maxHeartbeats 400000 in
theorem q_FixedR{w:World}{t:Nat}{v:Value}{L:List Rl}{c:Nm}{cs:List Value}{p:Pq}{ok:Bool}(h:RM w t v L)(hn:L.length<=1000000)(hG:∀l∈L,l.x.tr.length<=64)(hv:bh w (.agg cs.toArray) p)
  (av:∀w',AG w.heap.size w w'->AH AE 158 #[.agg cs.toArray] w' λe cm=>e= .returned (.bool ok)/\AG w'.heap.size w' cm):
  AH AE 94 #[ptB t,.string c,.agg cs.toArray] w λe w'=>∃v' L' code,e= .returned (.int .i64 code)/\RPost w t v L w' v' L'/\FixS ok p (trR L) c (trR L') code:=by
 obtain⟨w1,ca⟩:∃w1,w.alloc (.cells cs.toArray 39)=w1:=⟨_,rfl⟩;have ap:AG w.heap.size w w1:=by rw[<-ca];exact(AL _ _).alloc (AK _) _
 have aa:w1.heap[w.heap.size]? =some (.cells cs.toArray 39 (0,0)):=by rw[<-ca];exact BE w _
 have b5:=uY (h.below ap) c hn;have V:cs.length=21:=by
  obtain⟨ay,P,hc⟩:=hv;have P:cs=ay:=by injection P with P;simpa using P
  subst P;exact aB hc
 have b4:cs.toArray.all (·.oneCell')=true:=by
  obtain⟨ay,P,hc⟩:=hv;have P:cs=ay:=by injection P with P;simpa using P
  subst P;exact EC (eD hc)
 generalize hB:w.heap.size=B0 at *;have b0:B0<w1.heap.size:=(A8.1 aa).1;have a5:(AE.info? 39).map (·.size)=some cs.length:=by rw[V];kernel_rfl
 have HM:=AF h;have ak:=AF ap;have ar:=AF aa;have J:=AF b0;have HV:=AF hv;have bp:=AF av;have HG:=AF hG;have cb:=AF V;obtain⟨ad,cp,b9⟩:=h.form;obtain⟨n,hN⟩:∃n,n=L.length:=⟨_,rfl⟩;have HN:=AF hN;rw[<-hN]at b9 hn;subst b9;have c5:(n:Int)<=1000000:=Aa
 have a2:=h.below (show AG w.heap.size w w1 by rw[hB];exact ap);have be:=AF a2;have cz:=a2.cell;clear h hN hn ap aa b0 av hG V hv a2;go_enter Tryz.func94,Tryz.ntmps94
 go_upto_if 12 with(go_at_call 155;refine b5.mono ?_;rintro e w2 ⟨i,rfl,hi,hw⟩;obtain rfl:=hw.symm;have HP:=AF (vg hi);clear b5 hi)
 rcases HP.out with⟨hi,hp⟩ | ⟨A,B,l,hi,hL,hc,hp⟩
 ·subst hi;have HQ:=AF (FixS.none (ok:=ok) (p:=p) hp);clear hp;go_wp2;go_ret;exact⟨_,L,18,rfl,.refl HM.out (by rw[hB];exact ak.out),HQ.out⟩
 ·subst hi;obtain⟨k,hk⟩:∃k,A.length=k:=⟨_,rfl⟩;rw[hk];have H:L[k]? =some l:=by rw[hL,<-hk,Bq (AK _),Dd];rfl
  have a1:=(A5.1 H).1;have c4:(k:Int)<(n:Int):=by rw[HN.out];omega
  have q0:decide ((k:Int)<0)=false:=decide_eq_false Aa;obtain⟨b,c2,cr,e,AT⟩:=be.out.at H;injection e with e1 e2 e3;subst e1;subst e3;clear e2;have fst:=AT.st;have cx:=AT.tp;have am:=AF hL;have HK:=AF hk;have bi:=AF hp;have HC:=AF hc;have ax:=AF H
  cases hx:l.x.st with
  | true=>
   rw[hx]at fst;have HQ:=AF (FixS.state (ok:=ok) (p:=p) hp (.inl hx));clear AT H a1 hL hk hp hc hx;go_wp2;go_ret;exact⟨_,L,10,rfl,.refl HM.out (by rw[hB];exact ak.out),HQ.out⟩
  | false=>
   rw[hx]at fst;have HX:=AF hx;have Y:=k_rLen (be.out.trk l (Bb H))
   change AH AE 157 #[ptB l.g] w1 _ at Y
   by_cases ht:l.x.tr=[]
   ·have b3:AH AE 157 #[ptB l.g] w1 λe w'=>e= .returned (.int .i64 0)/\AG w1.heap.size w1 w':=by rw[ht]at Y;exact Y
    have HT:=AF ht;clear AT H a1 hL hk hp hc hx Y ht;go_upto_if 32 with(go_at_call 157;refine b3.mono ?_;rintro e w2 ⟨rfl,k2⟩;have K2:=AF k2;clear k2)
    have b1:AG w.heap.size w w2:=by rw[hB];exact ak.out.trans (K2.out.mono (by have:=J.out;omega))
    have au:w2.rangeAt B0 0 cs:=λj v hv=>by rw[K2.out.cell (p:=⟨B0,_,none⟩) J.out,aE ar.out,Bh];simpa using hv
    have I:=AF b1;clear b1;have bb:=AF au;clear au;go_upto_region 6 with(fail)
    refine CC ?_;refine EY rfl _ _ rfl B0 0 rfl cs _ bb.out C7 rfl a5 ?_;have ac:=bp.out w2 (by rw[<-hB];exact I.out);go_upto_if 35 with(go_at_call 158;refine ac.mono ?_;rintro e w3 ⟨rfl,k3⟩;have K3:=AF k3;clear k3 ac)
    cases ok with
    | false=>
     have HQ:=AF (FixS.range (ok:=false) (p:=p) bi.out HX.out HT.out rfl);go_wp2;go_ret;exact⟨_,L,4,rfl,.refl HM.out (I.out.trans (K3.out.mono I.out.size)),HQ.out⟩
    | true=>
     have a0:AG w.heap.size w w3:=I.out.trans (K3.out.mono I.out.size);have a9:=AF a0;have Z:=HM.out.below a0;have b2:=Z.cell;obtain⟨b',c3,cu,e',a7⟩:=Z.at ax.out;injection e' with e1 e2 e3;injection e1 with e1;injection e1 with e1;subst e1;clear e2 e3;have bq:=a7.st;rw[HX.out]at bq;have hz:w3.frozen? ⟨b,k*27+4,none⟩=false:=Z.thaw (by have:=(A5.1 ax.out).1;omega);have an:=AF Z;clear a0 Z a7;go_upto_region 9 with(fail)
     have a4:=b4;have b6:(AE.info? 39).map (·.size)=some cs.toArray.size:=by rw[a5,Cc]
     have cc:=AF (show RPost w t (.slice (some ⟨b,0,none⟩) n cp) L ((w3.drew.setCell ⟨b,k*27+4,none⟩ (.bool true)).setCells b (k*27+5) cs) (.slice (some ⟨b,0,none⟩) n cp) (A++ {l with x:= {l.x with st:=true,po:=p}}::B)by
      have hd:RM w3.drew t (.slice (some ⟨b,0,none⟩) n cp) (A++l::B):=by rw[<-am.out];exact an.out.below (AL _ _).drew
      have:=aaa hd (by rw[HN.out,am.out]) (HV.out.mono a9.out.drew);rw[HK.out]at this;exact RPost.pre a9.out.drew (by rw[am.out];exact this))
     have HF:=AF (show FixS true p (trR L) c (trR (A++ {l with x:= {l.x with st:=true,po:=p}}::B)) 0 by
      rw[am.out,j8,j8,HC.out];exact .ok rfl bi.out.2 HX.out HT.out rfl)
     have a3:=an.out.nd;have cl:=an.out.lt;have b7:t≠b:=λe=>by
      unfold fpR at a3;exact(Bv.1 a3).1 (by rw[e];simp[CI])
     have bz:B0≠b:=λe=>by
      have:=HM.out.lt b (by simp[fpR,CI]);omega
     obtain⟨G,aq⟩:∃G,w3.setCell ⟨b,k*27+4,none⟩ (.bool true)=G:=⟨_,rfl⟩;have a6:Upd w3 b G:=by rw[<-aq];exact Upd.cell _ _ _ _
     have U:G.drew.cell? ⟨t,0,none⟩=some (.slice (some ⟨b,0,none⟩) n cp):=(BM (w:=w3) (w':=G) (a6.block t b7)).trans b2;have bt:w3.heap[B0]? =w1.heap[B0]? :=by
      rw[(K3.out.block B0 (Bt J.out K2.out.size)),K2.out.block B0 J.out]
     have ab:G.drew.rangeAt B0 0 cs:=λj v hv=>by
      have e1:G.drew.heap[B0]? =w1.heap[B0]? :=(a6.block B0 bz).trans bt;rw[BM (w:=w1) (w':=G.drew) e1,aE ar.out,Bh];simpa using hv
     have b8:G.drew.there b (k*27+5) cs.toArray.size:=by
      rw[Cc,cb.out,<-aq];exact an.out.thr ax.out _
     have HS:=AF (show∀w5,w5=G.drew.setCells b (k*27+5) cs->w5.cell? ⟨t,0,none⟩=some (.slice (some ⟨b,0,none⟩) n cp)/\w5.rangeAt B0 0 cs from λw5 e=>by
      have u:=cS cs G.drew b (k*27+5);rw[<-e]at u;exact⟨(BM (w:=G.drew) (w':=w5) (u.block t b7)).trans U,λj v hv=>(BM (w:=G.drew) (w':=w5) (u.block B0 bz)).trans (ab j v hv)⟩)
     have cd:=AF (show RPost w t (.slice (some ⟨b,0,none⟩) n cp) L (G.drew.setCells b (k*27+5) cs) (.slice (some ⟨b,0,none⟩) n cp) (A++ {l with x:= {l.x with st:=true,po:=p}}::B)by rw[<-aq];exact cc.out);clear a3 cl a6 bt;rw[aq];refine EA (S:=λw'=>w'.cell? ⟨t,0,none⟩=some (.slice (some ⟨b,0,none⟩) n cp)/\w'.rangeAt B0 0 cs) Ab ⟨U,ab⟩ (λC=> ?_);refine BX (i:=5) (v:=.agg cs.toArray) rfl Ab Ab Ab (λ_ _ _ h=>h) (yieldsIf_load_mid Ai _ _ rfl B0 0 rfl _ _ (λw hw=>hw.2) C7 rfl a5) C ?_;refine BX (i:=0) (v:=ptB t) rfl Ab Ab Ab (λ_ _ _ h=>h) (A1 ⟨Ai,λw hw=>Ai⟩) C ?_;refine BX (i:=1) (v:=ptB t) rfl Ab Ab Ab (λ_ _ _ h=>h) (A1 ⟨Ai,λw hw=>Am⟩) C ?_;refine BX (i:=2) (v:=ptB t) rfl Ab Ab Ab (λ_ _ _ h=>h) (A1 ⟨Ai,λw hw=>Am⟩) C ?_;refine BX (i:=3) (v:=.slice (some ⟨b,0,none⟩) n cp) rfl Ab Ab Ab (λ_ _ _ h=>h) (A1 ⟨Ai,λw hw=>by have:=hw.1;go_simp⟩) C ?_;refine BX (i:=4) (v:=.int .i64 (k:Int)) rfl Ab Ab Ab (λ_ _ _ h=>h) (A1 ⟨Ai,λw hw=>Ai⟩) C ?_;refine BX (i:=6) (v:=.pointer (some ⟨b,k*27,none⟩)) rfl Ab Ab Ab (λ_ _ _ h=>h) (A1 ⟨Ai,λw hw=>Am⟩) C ?_;refine BX (i:=7) (v:=.pointer (some ⟨b,k*27+5,none⟩)) rfl Ab Ab Ab (λ_ _ _ h=>h) (A1 ⟨Ai,λw hw=>Am⟩) C ?_;refine wpAnyH_ready (rs:=[8]) Ab Ag ?_;refine AllReadyH.cons rfl (λK hK=> ?_) AllReadyH.nil;rw[if_pos Ai];have key:∀(op:Oper)(a:Act)(Q:Exit->Act->World->Prop),op.op= .store 39 (.tmp 50) (.tmp 48)->a.eval (.tmp 50)= .pointer (some ⟨b,k*27+5,none⟩)->a.eval (.tmp 48)= .agg cs.toArray->K (a.put op.dst undef) (G.drew.setCells b (k*27+5) cs)->op.wp AE a G.drew K Q:=λop a Q ho hx hy h=>wp_store_mid 39 (.tmp 50) (.tmp 48) ho b (k*27+5) cs.toArray hx hy b8 b6 a4 h
     refine key _ _ _ ?_ ?_ ?_ ?_
     ·rfl
     ·go_simp
     ·go_simp
     refine hK.out _ _ (HS.out _ rfl) (λao=> ?_);refine wpAnyH_done Ab ?_ _;clear key hK K C ao b8 U ab;go_wp2;go_ret;exact⟨_,_,0,rfl,cd.out,HF.out⟩
   ·have cq:(0:Int)<(l.x.tr.length:Int):=by have:=List.length_pos_iff.2 ht;omega
    have HQ:=AF (FixS.state (ok:=ok) (p:=p) hp (.inr ht));clear AT H a1 hL hk hp hc hx ht;generalize (l.x.tr.length:Int)=m at *;go_wp2_with (go_at_call 157;refine Y.mono ?_;rintro e w2 ⟨rfl,k2⟩;have K2:=AF k2;clear k2)
    go_ret;exact⟨_,L,10,rfl,.refl HM.out (by rw[hB];exact ak.out.trans (K2.out.mono (by have:=J.out;omega))),HQ.out⟩
end
section
open Classical
theorem RM.push{w w1 w2:World}{t:Nat}{v v':Value}{L:List Rl}{l:Rl}{xs news:List Value}(h:RM w t v L)(hb:AG w.heap.size w w1)(hx:aY w1 rlT 27 v L.length xs)(av:aK w1 (rlQ L) xs)
  (hT:TrkS rkT w1 l.g l.sl l.x.tr)(P:w.heap.size<=l.g)(hs:∀b,l.sl.ownBlock=some b->w.heap.size<=b)(og:∀g∈l.g::l.sl.ownBlock.toList,bF w1 g)(ap:aK w1 l.qs news)
  (k2:w1.grownBy w2 v.ownBlock)(k3:∀g,v'.ownBlock=some g->v.ownBlock=some g\/w1.heap.size<=g)(k4:aY w2 rlT 27 v' (L.length+1) (xs++news)):
  RPost w t v L (w2.setCell ⟨t,0,none⟩ v') v' (L++ [l]):=by
 have h1:=h.below hb;have ac:=h.nd;unfold fpR at ac;obtain⟨nt,ax⟩:=Bv.1 ac;have H:=h.lt;have J:t∈fpR t v L:=by simp[fpR]
 have K:∀g,v.ownBlock=some g->g∈fpR t v L:=λg e=>by simp[fpR,e]
 have ak:∀I∈L,∀g∈I.g::I.sl.ownBlock.toList,g∈fpR t v L:=λI G g P=>Bg _ (AJ.2 (.inr (Br.2 ⟨I,G,P⟩)))
 have V:=hb.size;have tv:∀g,v.ownBlock=some g->g≠t:=λg e e2=>nt (by rw[<-e2];simp[e])
 have u:=Upd.cell w2 t 0 v';have Y:∀g,g<w1.heap.size->g≠t->v.ownBlock≠some g->(w2.setCell ⟨t,0,none⟩ v').heap[g]? =w1.heap[g]? :=λg P ht hv=>(u.block g ht).trans (k2.block g P (λe=>hv e.symm))
 have U:w1.heap.size<=(w2.setCell ⟨t,0,none⟩ v').heap.size:=by rw[u.size];exact k2.size
 have hc:Chg w1 (w2.setCell ⟨t,0,none⟩ v') (λg=>g=t\/v.ownBlock=some g):=⟨U,λg P hn=>Y g P (λe=>hn (.inl e)) (λe=>hn (.inr e)),λg P=>by
  rcases P with e | e
  ·rw[e];exact h1.own t J
  ·exact h1.own g (K g e)⟩
 have aq:w2.heap[t]? =some (.cells #[v] rrT (0,0)):=by rw[k2.block t (Bt (H t J) V) (λe=>tv t e.symm rfl)];exact h1.tr
 have am:(w2.setCell ⟨t,0,none⟩ v').heap[t]? =some (.cells #[v'] rrT (0,0)):=CH w2 t 0 #[v] rrT v' aq;have an:∀g,v'.ownBlock=some g->g≠t:=λg e=>by
  rcases k3 g e with k | k
  ·exact tv g k
  ·have:=H t J;omega
 have hZ:∀g∈l.g::l.sl.ownBlock.toList,w.heap.size<=g/\g<w1.heap.size:=λg C=>⟨by
  rcases A3.1 C with e | e
  ·rw[e];exact P
  ·exact hs g AA,(og g C).1⟩
 have aa:∀I∈L,∀g∈I.g::I.sl.ownBlock.toList,¬(g=t\/v.ownBlock=some g):=λI G g C e=>by
  have hm:g∈L.flatMap λl=>l.g::l.sl.ownBlock.toList:=Br.2 ⟨I,G,C⟩
  rcases e with e | e
  ·exact nt (by rw[<-e];exact AJ.2 (.inr hm))
  ·exact cA ax (x:=g) (by simp[e]) hm
 have ab:∀g∈l.g::l.sl.ownBlock.toList,¬(g=t\/v.ownBlock=some g):=λg C e=>by
  have:=(hZ g C).1;rcases e with e | e
  ·have:=H t J;omega
  ·have:=H g (K g e);omega
 have Z:fpR t v' (L++ [l])=(t::(v'.ownBlock.toList++L.flatMap λl=>l.g::l.sl.ownBlock.toList))++(l.g::l.sl.ownBlock.toList):=by simp[fpR]
 obtain⟨ad,cc,ar⟩:=dW k4.1;refine⟨⟨am,⟨xs++news,?_,?_⟩,λI G=> ?_,?_,λg C=> ?_⟩,⟨(u.os.trans k2.os).trans hb.os,(u.tape.trans k2.tape).trans hb.tape,(u.output.trans k2.output).trans hb.output,AI V U,λk hk hn=>(Y k (Bt hk V) (λe=>hn (e▸J)) (λe=>hn (K k e))).trans (hb.block k hk)⟩,λg C=> ?_⟩
 ·rw[By];exact k4.keep (λg e=>u.block g (an g e))
 ·rw[abg,show rlQ [l]=l.qs from Ds _];exact(av.chg hc).append (ap.chg hc)
 ·rcases AJ.1 G with k | k
  ·exact(h1.trk I k).chg hc (aa I k _ Ag) (λb e=>aa I k b (by simp[e]))
  ·obtain rfl:I=l:=by simpa using k
   exact hT.chg hc (ab _ Ag) (λb e=>ab b (by simp[e]))
 ·rw[Z];have n1:(([t]:List Nat)++(v'.ownBlock.toList++L.flatMap λl=>l.g::l.sl.ownBlock.toList)).Nodup:=rC (X:=[t]) (o:=v.ownBlock) ac (λb e=>(k3 b e).imp id (λk hm=>by
   have:b∈fpR t v L:=by
    rcases AJ.1 hm with e | e
    ·obtain rfl:b=t:=by simpa using e
     exact J
    ·exact Bg _ (AJ.2 (.inr e))
   have:=H b this;omega))
  refine List.nodup_append.2 ⟨n1,?_,λa ha b ao e=> ?_⟩
  ·refine Bv.2 ⟨λhm=>hT.ne l.g (by simpa using hm) rfl,?_⟩;cases l.sl.ownBlock<;>simp
  ·subst e;obtain⟨z1,z2⟩:=hZ a ao;rcases A3.1 ha with e | e
   ·have:=H t J;omega
   ·rcases AJ.1 e with e | e
    ·rcases k3 a AA with k | k
     ·have:=H a (K a k);omega
     ·omega
    ·have:=H a (Bg _ (AJ.2 (.inr e)));omega
 ·rw[Z]at C;rcases AJ.1 C with e | e
  ·rcases A3.1 e with e | e
   ·rw[e];refine .mk' am (λk n hk=> ?_)
    cases k with
    | zero=>simp at hk;rw[ar]at hk;cases hk
    | succ k=>simp at hk
   ·rcases AJ.1 e with e | e
    ·have e:v'.ownBlock=some g:=by simpa using e
     exact(k4.2 g e).x.blk (u.block g (an g e)) (by rw[u.size];exact AK _)
    ·obtain⟨I,G,e⟩:=Br.1 e;have au:=aa I G g e;exact(h1.own g (ak I G g e)).blk (hc.blk g (Bt (H g (ak I G g e)) V) au) U
  ·exact(og g e).blk (hc.blk g (og g e).1 (ab g e)) U
 ·rw[Z]at C;rcases AJ.1 C with e | e
  ·rcases A3.1 e with e | e
   ·exact .inl (by rw[e];exact J)
   ·rcases AJ.1 e with e | e
    ·rcases k3 g AA with k | k
     ·exact .inl (K g k)
     ·exact .inr Aa
    ·exact .inl (Bg _ (AJ.2 (.inr e)))
  ·exact .inr (hZ g e).1
end
variable{w:World}{c:Nm}
theorem LnAt.pose{l:Ln}(h:LnAt w c l):∃cs:List Value,cs.length=21/\w.rangeAt l.b 5 cs/\bh w (.agg cs.toArray) l.x.po:=by
 obtain⟨⟨C,h1,h2,h3⟩,_⟩:=h;have H:C.size=27:=h2;have J:∀j,j<21->(C.extract 5 26).toList[j]? =C[5+j]? :=λj G=>by
  rw[Array.getElem?_toList,Array.getElem?_extract];rw[if_pos Aa]
 refine⟨(C.extract 5 26).toList,by simp[H],λj v hv=> ?_,⟨_,rfl,nh (xs:=l.x.po.cs) (by show(C.extract 5 26).toList.length=21;simp[H]) (λj q K=> ?_)⟩⟩
 ·have G:j<21:=by have:=(A5.1 hv).1;simpa [H]using this
  rw[aE h1,<-J j G];exact hv
 ·have G:j<21:=(A5.1 K).1;have I:(lnQ c l)[5+j]? =some q:=by
   show([.val (.string c),.val (.string l.x.par),.val (.int .i64 l.x.fr),.val (.int .i64 l.x.un),.val (.bool l.x.st)]++(frs l.x.po.cs++ [.val (ptB l.g)]):List Vp)[5+j]? =some q;rw[Bq Ag,Bw (by show 5+j - 5<21;omega)];rw[show 5+j - ([.val (.string c),.val (.string l.x.par),.val (.int .i64 l.x.fr),.val (.int .i64 l.x.un),.val (.bool l.x.st)]:List Vp).length=j from by show 5+j - 5=j;omega];exact K
  obtain⟨u,P,k2⟩:=h3 _ _ I;exact⟨u,by rw[J j G];exact P,k2⟩
noncomputable def trkP(S:List St)(a:Int):Pq×Int:=
 match S[0]?,S[S.length - 1]? with
 | some f,some l=>if a<f.tm\/l.tm<a then(Pq.zero,17)else
  (match S[plN S a]? with
  | some y=>if y.tm=a then(y.pose,0)else(match S[plN S a - 1]? with | some z=>(atP z y 0 a,0) | none=>(Pq.zero,17))
  | none=>(Pq.zero,17))
 | _,_=>(Pq.zero,6)
variable{a:Int}
theorem Road.trkP{S:List St}{z y:St}{c:Int}(h:Road S a z y c):trkP S a=(atP z y c a,c):=by
 unfold Go.Proofs.YtggfmklppkioeaaGreat.trkP
 cases h with
 | E h0=>
  have:S=[]:=List.eq_nil_of_length_eq_zero h0;subst this;rfl
 | O1 f hf hn ha=>
  obtain⟨l,hl⟩:∃l,S[S.length - 1]? =some l:=⟨_,AU Aa⟩;simp only[hf,hl];rw[if_pos (.inl ha)];unfold atP;rw[if_pos th]
 | O2 f hf hb l hl hn ha=>simp only[hf,hl];rw[if_pos (.inr ha)];unfold atP;rw[if_pos th]
 | Q f hf hb l hl hn ha y hy ey hp eq1=>
  simp only[hf,hl];rw[if_neg Aa];simp only[hy];rw[if_pos ey];unfold atP;rw[if_neg th,if_pos rfl]
 | M f hf hb l hl hn ha y hy ey hp h0 eq1 z hz=>
  simp only[hf,hl];rw[if_neg Aa];simp only[hy];rw[if_neg Aa];simp only[hz]
noncomputable def dA(R:Tr)(c:Nm)(a:Int):Pq×Int:=match tAt R c a with | none=>(Pq.zero,18) | some x=>if x.st then(x.po,0)else trkP x.tr a
structure PB(w0 W:World)(B:Nat)(vs:List Value):Prop where
 blk:W.heap[B]? =some (.cells vs.toArray 39 (0,0))
 len:vs.length=21
 bel:AG w0.heap.size w0 W
 ge:w0.heap.size<=B
 nu:∀u∈vs,noU u
theorem PB.new(w:World):PB w (w.alloc (.cells aC.toArray 39)) w.heap.size aC:=⟨BE w _,rfl,(AL _ w).alloc (AK _) _,AK _,λu C n e=>by
 subst e;simp[aC]at C⟩
variable{w0 W:World}{B:Nat}{vs:List Value}
theorem PB.next{C:World}(h:PB w0 W B vs)(k:AG W.heap.size W C):PB w0 C B vs:=
 ⟨by rw[k.block B (A8.1 h.blk).1];exact h.blk,h.len,h.bel.trans (k.mono h.bel.size),h.ge,h.nu⟩
variable{us:List Value}
theorem PB.put(h:PB w0 W B vs)(C:us.length=21)(hn:∀u∈us,noU u):PB w0 (W.setCells B 0 us) B us:=
 ⟨by rw[dH us W B 0 _ _ h.blk,iT (by simp[h.len,C])],C,bQ us 0 W h.bel h.ge,h.ge,hn⟩
theorem PB.there(h:PB w0 W B vs):W.there B 0 21:=by
 have:=ie h.blk;rwa [Cc,h.len]at this
theorem eG(C:us.length=21):(AE.info? 39).map (·.size)=some us.toArray.size:=by rw[Cc,C];kernel_rfl
variable{v:Value}
theorem tB{p:Pq}(h:bh w v p):∃cs:List Value,v= .agg cs.toArray/\cs.length=21/\cs.toArray.all (·.oneCell')=true/\∀u∈cs,noU u:=by
 obtain⟨cs,rfl,hc⟩:=h;refine⟨cs,rfl,aB hc,EC (eD hc),λu H n e=> ?_⟩;obtain⟨k,G,C⟩:=BN H;exact hc.noInt k n (by rw[AU G,C,e])
theorem PB.keep{p:Pq}(h:PB w0 W B vs)(i:bh W v p):bh (W.setCells B 0 us) v p:=by
 obtain⟨cs,rfl,hc⟩:=i;exact⟨cs,rfl,hc.upd (od h.blk (λu C=>h.nu u At)) (cS us W B 0)⟩
theorem PB.ret(h:PB w0 W B vs){fn:Func}{p u:Tmp}(hr:fn.results=#[.cell p 39,.tmp u])(tmps:Array Value)(hp:tmps.getD p undef= .pointer (some ⟨B,0,none⟩)):
  (results fn tmps).run AE W= .ok (.tuple #[.agg vs.toArray,tmps.getD u undef]) W:=
 tc hr tmps W B _ _ _ _ hp h.blk C7 rfl (eG h.len)
variable{t m:Nat}{E:List Ch}
theorem q_EdgeN(h:TM w t m E)(hl:atE E c a=none):
  AH AE 41 #[ptB t,.string c,.int .i64 a] w λe w'=>e= .returned (.tuple #[.agg aC.toArray,.int .i64 18])/\AG w.heap.size w w':=by
 have G:=PB.new w;have C:=oQ (h.below G.bel) c a;rw[hl]at C
 change AH _ _ _ _ (λe w'=>e= .returned (.pointer none)/\w'=_)at C
 have H:=AF G;obtain⟨W,J⟩:∃W,w.alloc (.cells aC.toArray 39)=W:=⟨_,rfl⟩;rw[J]at C H;clear h hl G;go_enter Tryz.func41,Tryz.ntmps41
 go_upto_region 0 with(fail)
 refine CC ?_;refine aD rfl (v:=.pointer (some ⟨w.heap.size,0,none⟩)) (w':=W) (by subst J;go_simp;try rfl) ?_;obtain⟨B,hB⟩:∃B,w.heap.size=B:=⟨_,rfl⟩;rw[hB]at H⊢;clear J hB;go_upto_region 5 with(go_at_call 90;refine C.mono ?_;rintro e w' ⟨rfl,K⟩;obtain rfl:=K.symm)
 refine CC ?_;refine aD rfl (v:=.agg aC.toArray) (w':=W) (by unfold aC;go_simp;try rfl) ?_;refine Fm rfl _ _ _ rfl B 0 aC.toArray rfl rfl H.out.there Ab Ab ?_;have I:=AF (H.out.put (us:=aC) rfl H.out.nu);generalize W.setCells B 0 aC.toArray.toList=W2 at *;go_wp2;refine A6 (I.out.ret rfl _ rfl) rfl ?_;exact⟨rfl,I.out.bel⟩
theorem q_EdgeS{l:Ln}(h:TM w t m E)(hl:atE E c a=some l)(hs:l.x.st=true)(hk:l.x.po.ok 1000000):
  AH AE 41 #[ptB t,.string c,.int .i64 a] w λe w'=>∃v,e= .returned (.tuple #[v,.int .i64 0])/\bh w' v l.x.po/\AG w.heap.size w w':=by
 have I:=PB.new w;have hT:=h.below I.bel;have C:=oQ hT c a;rw[hl]at C
 change AH _ _ _ _ (λe w'=>e= .returned (ptB l.b)/\w'=_)at C
 obtain⟨_,_,_,hL⟩:=jB hT hl;obtain⟨cs,ac,J,ad⟩:=hL.pose;have P:=hL.st;rw[hs]at P;have H:=q_fcp _ l.x.po _ ad (hk.mono th);have HP:=AF I;obtain⟨W,hW⟩:∃W,w.alloc (.cells aC.toArray 39)=W:=⟨_,rfl⟩;rw[hW]at C HP J P H;have aa:=AF J;have ab:=AF (show(AE.info? 39).map (·.size)=some cs.length by rw[ac];kernel_rfl);clear h hl I hT hs hk hL J ad;generalize l.b=lb at *;generalize l.x.po=po at *;go_enter Tryz.func41,Tryz.ntmps41
 go_upto_region 0 with(fail)
 refine CC ?_;refine aD rfl (v:=.pointer (some ⟨w.heap.size,0,none⟩)) (w':=W) (by subst hW;go_simp;try rfl) ?_;obtain⟨B,hB⟩:∃B,w.heap.size=B:=⟨_,rfl⟩;rw[hB]at HP⊢;clear hW hB;go_upto_region 7 with(go_at_call 90;refine C.mono ?_;rintro e w' ⟨rfl,ao⟩;obtain rfl:=ao.symm)
 clear C P;refine CC ?_;refine aD rfl (v:=ptB lb) (w':=W) Ai ?_;refine aD rfl (v:=ptB lb) (w':=W) Am ?_;refine aD rfl (v:=.pointer (some ⟨lb,5,none⟩)) (w':=W) Am ?_;refine EY rfl _ _ rfl lb 5 rfl cs _ aa.out C7 rfl ab.out ?_;refine Ck rfl (λK hK=> ?_);go_simp;go_at_call 97
 refine H.mono ?_;rintro e w4 ⟨v,rfl,Y,k4⟩;obtain⟨us,rfl,V,ak,am⟩:=tB Y;have G:=HP.out.next k4;have Z:=AF (G.put (us:=us) V am);have HV:=AF (G.keep (us:=us) Y);have U:=G.there;rw[<-V]at U;refine hK _ _ ?_;clear hK K Y k4 H aa ab HP;refine Fm rfl _ _ _ rfl B 0 us.toArray rfl rfl (by simpa using U) (eG V) ak ?_;rw[show us.toArray.toList=us from rfl];generalize an:w4.setCells B 0 us=W2 at *;clear an G U ak am;go_wp2;refine A6 (Z.out.ret rfl _ rfl) rfl ?_;exact⟨_,rfl,HV.out,Z.out.bel⟩
theorem q_EdgeT{l:Ln}(h:TM w t m E)(hE:TOk (trE E))(hl:atE E c a=some l)(hs:l.x.st=false):
  AH AE 41 #[ptB t,.string c,.int .i64 a] w λe w'=>∃v,e= .returned (.tuple #[v,.int .i64 (trkP l.x.tr a).2])/\bh w' v (trkP l.x.tr a).1/\AG w.heap.size w w':=by
 have P:=PB.new w;have hT:=h.below P.bel;have C:=oQ hT c a;rw[hl]at C
 change AH _ _ _ _ (λe w'=>e= .returned (ptB l.b)/\w'=_)at C
 obtain⟨ch,ab,ac,hL⟩:=jB hT hl;have J:=hE.good _ (cG.2 ⟨ch,(cF ab).1,l,ac,rfl⟩);obtain⟨z,y,cc,hr⟩:=road J a;have I:=k_At hL.trk J hr;have e1:=hr.trkP;have U:=hL.st;have an:=hL.tp;rw[hs]at U;have Z:=AF (show(trkP l.x.tr a).1=atP z y cc a by rw[e1]);rw[show(trkP l.x.tr a).2=cc by rw[e1]];have HP:=AF P;obtain⟨W,hW⟩:∃W,w.alloc (.cells aC.toArray 39)=W:=⟨_,rfl⟩;rw[hW]at C HP U I an;clear h hl P hT hs hL hE ab ac J hr e1;generalize l.b=lb at *;generalize l.g=lg at *;generalize (trkP l.x.tr a).1=po at *;go_enter Tryz.func41,Tryz.ntmps41
 go_upto_region 0 with(fail)
 refine CC ?_;refine aD rfl (v:=.pointer (some ⟨w.heap.size,0,none⟩)) (w':=W) (by subst hW;go_simp;try rfl) ?_;obtain⟨B,hB⟩:∃B,w.heap.size=B:=⟨_,rfl⟩;rw[hB]at HP⊢;clear hW hB;go_upto_region 8 with(go_at_call 90;refine C.mono ?_;rintro e w' ⟨rfl,ao⟩;obtain rfl:=ao.symm)
 clear C U;refine CC ?_;refine aD rfl (v:=ptB lb) (w':=W) Ai ?_;refine aD rfl (v:=ptB lb) (w':=W) Am ?_;refine aD rfl (v:=.pointer (some ⟨lb,26,none⟩)) (w':=W) Am ?_;refine aD rfl (v:=ptB lg) (w':=W) Am ?_;refine aD rfl (v:=.int .i64 a) (w':=W) Ai ?_;refine Ck rfl (λK hK=> ?_);go_simp;go_at_call 98
 refine I.mono ?_;rintro e w4 ⟨v,rfl,H,k4⟩;rw[<-Z.out]at H;obtain⟨us,rfl,Y,ad,ak⟩:=tB H;have G:=HP.out.next k4;have aa:=AF (G.put (us:=us) Y ak);have HV:=AF (G.keep (us:=us) H);have V:=G.there;rw[<-Y]at V;refine hK _ _ ?_;clear hK K H k4 I HP Z;refine aD rfl (v:=.agg us.toArray) (w':=w4) Am ?_;refine aD rfl (v:=.int .i64 cc) (w':=w4) Am ?_;refine Fm rfl _ _ _ rfl B 0 us.toArray rfl rfl (by simpa using V) (eG Y) ad ?_;rw[show us.toArray.toList=us from rfl];generalize am:w4.setCells B 0 us=W2 at *;clear am G V ad ak;go_wp2;refine A6 (aa.out.ret rfl _ rfl) rfl ?_;exact⟨_,rfl,HV.out,aa.out.bel⟩
theorem q_Edge(h:TM w t m E)(H:TOk (trE E))(c:Nm)(a:Int):
  AH AE 41 #[ptB t,.string c,.int .i64 a] w λe w'=>∃v,e= .returned (.tuple #[v,.int .i64 (dA (trE E) c a).2])/\bh w' v (dA (trE E) c a).1/\AG w.heap.size w w':=by
 unfold dA;rw[<-h.tAt]
 cases hl:atE E c a with
 | none=>
  refine(q_EdgeN h hl).mono ?_;rintro e w' ⟨rfl,hb⟩;exact⟨_,rfl,iS w',hb⟩
 | some l=>
  simp only[BF];obtain⟨ch,C,G,_⟩:=jB h hl
  cases hs:l.x.st with
  | true=>
   rw[if_pos rfl];exact q_EdgeS h hl hs ((H.pose _ (cG.2 ⟨ch,(cF C).1,l,G,rfl⟩) hs).2.mono th)
  | false=>
   rw[if_neg Ag];exact q_EdgeT h H hl hs
section
open Classical
def fg(c p:Nm)(f:Int)(g:Nat):List Value:=[.string c,.string p,.int .i64 f,.int .i64 (-1),.bool false]++(aC++ [ptB g])
theorem pA{cs:List Value}(hl:cs.length=27):(Instr.buildSlice 79 1 #[(0,.agg cs.toArray)]).run AE w= .ok (.slice (some ⟨w.heap.size,0,none⟩) 1 1) (w.alloc (.cells cs.toArray rlT)):=by
 match cs,hl with
 | [c0,c1,c2,c3,c4,c5,c6,c7,c8,c9,c10,c11,c12,c13,c14,c15,c16,c17,c18,c19,c20,c21,c22,c23,c24,c25,c26],_=>go_simp
theorem rD(h:∀v∈vs,eO v):aK w (vs.map Vp.val) vs:=⟨Ag,λj q C=>by
 rw[List.getElem?_map]at C
 cases hv:vs[j]? with
 | none=>rw[hv]at C;cases C
 | some v=>rw[hv]at C;injection C with C;subst C;exact⟨v,rfl,⟨rfl,h v (Bb hv)⟩,λ_ h=>h⟩⟩
theorem aab(w:World):aK w (frs Pq.zero.cs) aC:=by
 obtain⟨G,C,hc⟩:=iS w;have C:aC=G:=by injection C with C;simpa using C
 subst C;exact⟨rfl,λj q H=>ig hc H⟩
theorem att_cells(w:World)(c p:Nm)(f:Int)(g:Nat)(sl:Value):aK w (Rl.qs ⟨c,eu p f,g,sl⟩) (fg c p f g):=
 (rD (vs:=[.string c,.string p,.int .i64 f,.int .i64 (-1),.bool false]) (λv hv=>by
  simp only[A3,DE,or_false]at hv;rcases hv with rfl | rfl | rfl | rfl | rfl
  ·exact jj
  ·exact jj
  ·exact go th
  ·exact go th
  ·exact bM)).append ((aab w).append (rD (vs:=[ptB g]) (λv hv=>by
  obtain rfl:v=ptB g:=by simpa using hv
  exact qg)))
variable{ad:Option Addr}
theorem att_push{w3:World}{n U g:Nat}{L:List Rl}{p:Nm}{f:Int}{sl:Value}(h:RM w t (.slice ad n U) L)(hN:n=L.length)(hn:L.length<=1000000)(hb:AG w.heap.size w w3)
  (hg:w.heap.size<=g)(hT:TrkS rkT w3 g sl [])(hs:∀b,sl.ownBlock=some b->w.heap.size<=b/\bF w3 b):
  ∃v' P,(Ca #[79,79] 79 #[.slice ad n U,.slice (some ⟨w3.heap.size,0,none⟩) 1 1]).run AE (w3.alloc (.cells (fg c p f g).toArray rlT))= .ok v' P/\
   P.cell? ⟨t,0,none⟩=some (.slice ad n U)/\P.frozen? ⟨t,0,none⟩=false/\RPost w t (.slice ad n U) L (P.setCell ⟨t,0,none⟩ v') v' (L++ [⟨c,eu p f,g,sl⟩]):=by
 have V:bF w3 g:=bF.mk' hT.blk (λk m e=>by
  cases k with
  | zero=>simp at e;exact((Vp.row stT _ _).fl _ _ hT.row).2.2 m e
  | succ k=>simp at e)
 obtain⟨K,J⟩:∃K,w3.alloc (.cells (fg c p f g).toArray rlT)=K:=⟨_,rfl⟩;have C:AG w3.heap.size w3 K:=by rw[<-J];exact(AL _ _).alloc (AK _) _
 have Y:K.heap[w3.heap.size]? =some (.cells (fg c p f g).toArray rlT (0,0)):=by rw[<-J];exact BE w3 _
 have G:AG w.heap.size w K:=hb.trans (C.mono hb.size);obtain⟨xs,hx,ak⟩:=(h.below G).row;have H:t<w.heap.size:=h.lt t (by simp[fpR]);obtain⟨v',P,k1,k2,k3,k4⟩:=ni (p:=AE) (t:=79) (ty:=79) (c:=1) (m:=1) (sz:=27) (bytes:=456) (a:=⟨w3.heap.size,0,none⟩) (news:=fg c p f g) Tryz.underlying79 Ab hx rfl
  (λj u I=>by rw[cE,Bh,aE Y];simpa using I) (λu I=>by
   obtain⟨j,hj,e⟩:=BN I;simp only[fg,aC,AJ,A3,DE,or_false]at I;rcases I with(rfl | rfl | rfl | rfl | rfl) | (rfl | rfl | rfl | rfl | rfl | rfl | rfl | rfl | rfl | rfl | rfl | rfl | rfl | rfl | rfl | rfl | rfl | rfl | rfl | rfl | rfl) | rfl<;>rfl) (λu I m e=>by
   subst e;simp[fg,aC]at I) th Aa Aa
 rw[J];have ac:(Value.slice ad n U).ownBlock≠some t:=λe=>by
  have:=h.nd;unfold fpR at this;exact(Bv.1 this).1 (by simp[e])
 have Z:P.heap[t]? =w.heap[t]? :=(k2.block t (Bt H G.size) (λe=>ac e.symm)).trans (G.block t H);refine⟨v',P,k1,(BM Z).trans h.cell,?_,?_⟩
 ·have:=h.tr;rw[<-Z]at this;simp[Dg,this]
 ·have ab:∀b∈g::sl.ownBlock.toList,bF K b:=λb aa=>by
   rcases A3.1 aa with e | e
   ·subst e;exact V.blk (C.block _ V.1) C.size
   ·have:=(hs b AA).2;exact this.blk (C.block _ this.1) C.size
  exact RM.push (l:=⟨c,eu p f,g,sl⟩) h G hx ak (hT.chg (.below C) (λh=>h) (λ_ _ h=>h)) hg (λb e=>(hs b e).1) ab (att_cells K c p f g sl) k2 k3 k4
set_option maxHeartbeats 2000000 in
theorem att_tail{w2:World}{n P:Nat}{L:List Rl}{p:Nm}{f:Int}{a:Act}{Q:Exit->Act->World->Prop}(h:RM w t (.slice ad n P) L)(hN:n=L.length)(hn:L.length<=1000000)(hb:AG w.heap.size w w2)
  (C:Kn 108 [(0,ptB t),(1,.string c),(2,.string p),(3,.int .i64 f)] a)(hP:∀c a a' w,a'.defers=a.defers->Q (.panic c) a w->Q (.panic c) a' w)
  (hQ:∀a' w' v' g sl,a'.tmps.getD 8 undef= .int .i64 0->a'.defers=[]->RPost w t (.slice ad n P) L w' v' (L++ [⟨c,eu p f,g,sl⟩])->Q .ret a' w'):∀J,restOf 22 AE 95=some J->J.wp AE Q a w2:=by
 intro J hc
 conv at hc=>lhs;whnf
 injection hc with hc;subst hc;have ao:w2.drew.cell? ⟨t,0,none⟩=some (.slice ad n P):=(h.below hb).cell;have aq:t<w2.heap.size:=Bt (h.lt t (by simp[fpR])) hb.size;have am:=AF h;have ak:=AF (q_rtNew w2.drew);have HB:=AF hb;have V:=AF (Ba hN hn);have HQ:=AF hQ;clear h hb hN hn hQ;refine wp_seq_k (λK3 Z=> ?_);have ac:=AF Z;clear Z;refine xL Ab (λops Y G hq=> ?_);have hp:∀c a a' w,a'.defers=a.defers->Y (.panic c) a w->Y (.panic c) a' w:=by subst hq;exact λc a a' w e h=>hP c a a' w e h
 have ab:∀a w,K3 a w->Y .normal a w:=by subst hq;exact λa w h=>h
 have H:Region.noSelect ops=true:=by rw[G];kernel_rfl
 clear hP hq;refine dV (i:=5) (v:=.string c) C (by rw[G];rfl) H (by rw[G];kernel_rfl) (by rw[G];kernel_rfl) rfl th hp rfl (λa w k=>fU k rfl rfl) (λa C=> ?_);refine dV (i:=6) (v:=.string p) C (by rw[G];rfl) H (by rw[G];kernel_rfl) (by rw[G];kernel_rfl) rfl th hp rfl (λa w k=>fU k rfl rfl) (λa C=> ?_);refine dV (i:=7) (v:=.int .i64 f) C (by rw[G];rfl) H (by rw[G];kernel_rfl) (by rw[G];kernel_rfl) rfl th hp rfl (λa w k=>fU k rfl rfl) (λa C=> ?_);refine dV (i:=0) (v:=ptB t) C (by rw[G];rfl) H (by rw[G];kernel_rfl) (by rw[G];kernel_rfl) rfl th hp rfl (λa w k=>fU k rfl rfl) (λa C=> ?_);refine dV (i:=1) (v:=ptB t) C (by rw[G];rfl) H (by rw[G];kernel_rfl) (by rw[G];kernel_rfl) rfl th hp rfl (λa w k=>fU k rfl rfl) (λa C=> ?_);refine dV (i:=2) (v:=ptB t) C (by rw[G];rfl) H (by rw[G];kernel_rfl) (by rw[G];kernel_rfl) rfl th hp rfl (λa w k=>jF k rfl rfl) (λa C=> ?_);refine dV (i:=3) (v:=ptB t) C (by rw[G];rfl) H (by rw[G];kernel_rfl) (by rw[G];kernel_rfl) rfl th hp rfl (λa w k=>by have e:=k.at' 96 _ rfl;go_simp) (λa C=> ?_);have HE:∀I (a:Act) w3 g sl,I=#[true,true,true,true,true,true,true,true,true,true,true,false,false,false,false]->w2.drew.heap.size<=g->TrkS rkT w3 g sl []->(∀b,sl.ownBlock=some b->w2.drew.heap.size<=b/\bF w3 b)->AG w2.drew.heap.size w2.drew w3->
   Kn 108 [(94,ptB t),(98,.slice ad n P),(104,.slice (some ⟨w3.heap.size,0,none⟩) 1 1)] a->wpAny AE .any ops Y 4 I a (w3.alloc (.cells (fg c p f g).toArray rlT)):=λI a w3 g sl hl h1 h2 h3 h4 C=>by
  subst hl;have U:w.heap.size<=w2.drew.heap.size:=HB.out.size;obtain⟨v',w5,k1,k2,k3,k4⟩:=att_push (c:=c) (p:=p) (f:=f) am.out V.out.1 V.out.2 (HB.out.drew.trans (h4.mono U)) (AI U h1) h2 (λb e=>⟨AI U (h3 b e).1,(h3 b e).2⟩);obtain⟨ar,au,ev⟩:=k4.rm.form;refine fH (i:=11) (by rw[G];kernel_rfl) (jE C (by rw[G];rfl) rfl th rfl (rj C rfl rfl rfl k1) (λa C=> ?_));refine dV (i:=12) (v:=ptB t) C (by rw[G];rfl) H (by rw[G];kernel_rfl) (by rw[G];kernel_rfl) rfl th hp rfl (λa w k=>jF k rfl rfl) (λa C=> ?_);refine dV (i:=13) (v:=ptB t) C (by rw[G];rfl) H (by rw[G];kernel_rfl) (by rw[G];kernel_rfl) rfl th hp rfl (λa w k=>by have e:=k.at' 106 _ rfl;go_simp) (λa C=> ?_);refine fH (i:=14) (by rw[G];kernel_rfl) (wpOp_s (w':=w5.setCell ⟨t,0,none⟩ v') C (by rw[G];rfl) rfl rfl (tg C rfl rfl rfl (by rw[ev];go_simp)) (λa C=> ?_));refine wpAny_done (by rw[G];kernel_rfl) (ab _ _ (ac.out _ _ ?_)) _;refine wp_seq_k (λK4 an=> ?_);refine bC ?_;refine wl (eX rfl) C rfl th (kR C rfl rfl) (λa C=> ?_);exact an _ _ (Bk (HQ.out _ _ _ _ _ (C.getD rfl) C.df k4))
 have HN:∀(K:Act->World->Prop) l (a:Act),Kn 108 l a->(∀a' w3 g sl,Kn 108 ((102,ptB g)::l) a'->w2.drew.heap.size<=g->TrkS rkT w3 g sl []->(∀b,sl.ownBlock=some b->w2.drew.heap.size<=b/\bF w3 b)->AG w2.drew.heap.size w2.drew w3->K a' w3)->wpOp AE ops Y 8 K a w2.drew:=λK l a C h=>
  wpOp_c C (by rw[G];rfl) rfl rfl th (gA C rfl rfl rfl (ai Tryz.func161 rfl rfl)) ak.out (by
   rintro e w3 ⟨g,sl,rfl,h1,h2,h3,h4⟩;exact⟨_,rfl,λa' ap=>h a' w3 g sl ap h1 h2 h3 h4⟩)
 refine tf (i:=4) (j:=8) (by rw[G];kernel_rfl) ?_ ?_
 ·refine jE (v:=.slice ad n P) C (by rw[G];rfl) rfl th rfl (jG C rfl rfl Am) (λa C=> ?_);refine fH (i:=8) (by rw[G];kernel_rfl) (HN _ _ _ C (λa w3 g sl C h1 h2 h3 h4=> ?_));refine dV (i:=9) (v:=.agg (fg c p f g).toArray) C (by rw[G];rfl) H (by rw[G];kernel_rfl) (by rw[G];kernel_rfl) rfl th hp rfl (λa w k=>by have e0:=k.at' 99 _ rfl;have e1:=k.at' 100 _ rfl;have e2:=k.at' 101 _ rfl;have e3:=k.at' 102 _ rfl;unfold fg aC;go_simp) (λa C=> ?_);refine fH (i:=10) (by rw[G];kernel_rfl) (jE (v:=.slice (some ⟨w3.heap.size,0,none⟩) 1 1) (w':=w3.alloc (.cells (fg c p f g).toArray rlT)) C (by rw[G];rfl) rfl th rfl (oq C rfl rfl (pA rfl)) (λa C=> ?_));exact HE _ _ w3 g sl Ab h1 h2 h3 h4 (C.cut Ad)
 ·refine HN _ _ _ C (λa w3 g sl C h1 h2 h3 h4=> ?_);have aa:w3.cell? ⟨t,0,none⟩=some (.slice ad n P):=(BM (h4.block t aq)).trans ao;have av:(w3.alloc (.cells (fg c p f g).toArray rlT)).cell? ⟨t,0,none⟩=some (.slice ad n P):=(World.cell?_alloc_some w3 _ _ (by rw[aa];rfl)).trans aa;refine dV (i:=9) (v:=.agg (fg c p f g).toArray) C (by rw[G];rfl) H (by rw[G];kernel_rfl) (by rw[G];kernel_rfl) rfl th hp rfl (λa w k=>by have e0:=k.at' 99 _ rfl;have e1:=k.at' 100 _ rfl;have e2:=k.at' 101 _ rfl;have e3:=k.at' 102 _ rfl;unfold fg aC;go_simp) (λa C=> ?_);refine tf (i:=4) (j:=10) (by rw[G];kernel_rfl) ?_ ?_
  ·refine jE (v:=.slice ad n P) C (by rw[G];rfl) rfl th rfl (jG C rfl rfl Am) (λa C=> ?_);refine fH (i:=10) (by rw[G];kernel_rfl) (jE (v:=.slice (some ⟨w3.heap.size,0,none⟩) 1 1) (w':=w3.alloc (.cells (fg c p f g).toArray rlT)) C (by rw[G];rfl) rfl th rfl (oq C rfl rfl (pA rfl)) (λa C=> ?_));exact HE _ _ w3 g sl Ab h1 h2 h3 h4 (C.cut Ad)
  ·refine jE (v:=.slice (some ⟨w3.heap.size,0,none⟩) 1 1) (w':=w3.alloc (.cells (fg c p f g).toArray rlT)) C (by rw[G];rfl) rfl th rfl (oq C rfl rfl (pA rfl)) (λa C=> ?_);refine fH (i:=4) (by rw[G];kernel_rfl) (jE (v:=.slice ad n P) C (by rw[G];rfl) rfl th rfl (jG C rfl rfl Am) (λa C=> ?_));exact HE _ _ w3 g sl Ab h1 h2 h3 h4 (C.cut Ad)
end
section
open Classical
variable{L:List Rl}
theorem rQ{k:Nat}{l:Rl}(h:L[k]? =some l)(c:Nm):lks (trR (L.take (k+1))) c=lks (trR (L.take k)) c++(if l.c=c then [l.x]else []):=by
 rw[List.take_add_one,h];show lks (trR (L.take k++ [l])) c=_;unfold trR;rw[Cu,gt];show _++lks [(l.c,l.x)] c=_;rw[gX];rfl
theorem aac{x:Lk}(h:x∈lks (trR L) c):∃(i:Nat)(l:Rl),L[i]? =some l/\l.c=c/\l.x=x:=by
 obtain⟨i,hi,e⟩:=BN (bI.1 h);obtain⟨l,h1,h2⟩:=j7 (show(trR L)[i]? =some (c,x)by rw[AU hi,e]);injection h2 with h2 h3;exact⟨i,l,h1,h2.symm,h3.symm⟩
theorem aad{i:Nat}{l:Rl}(h:L[i]? =some l):l.x∈lks (trR L) l.c:=bI.2 (Bb (fY h))
theorem nodup_sub{A:List Nm}:∀ {B:List Nm},A.Nodup->(∀x∈A,x∈B)->A.length<=B.length:=by
 induction A with
 | nil=>intro B _ _;exact Bc _
 | cons a A ih=>
  intro B J h;obtain⟨h1,h2⟩:=Bv.1 J;obtain⟨H,I,e⟩:=List.append_of_mem (h a (List.mem_cons_self ..));have:=ih (B:=H++I) h2 (λx G=>by
   have C:=h x (Bg _ G);rw[e]at C;rcases AJ.1 C with k | k
   ·exact AJ.2 (.inl k)
   ·rcases A3.1 k with k | k
    ·exact absurd G (k▸h1)
    ·exact AJ.2 (.inr k))
  rw[e];simp only[Bz,By]at this⊢;omega
variable{l:List Nm}
theorem rE(h:l.Pairwise eF):l.Nodup:=List.Pairwise.imp (λ{a b} (k:eF a b) e=>by subst e;exact List.lt_irrefl _ k) h
theorem known_len(h:l.Pairwise eF)(G:∀x,x∈l↔aM (trR L) x):l.length<=2*L.length:=by
 have:=nodup_sub (B:=L.map (·.c)++L.map (·.x.par)) (rE h) (λx H=>by
  obtain⟨i,C,h1,h2⟩:=jI.1 ((G x).1 H);rcases h2 with e | e
  ·exact AJ.2 (.inl (Bi.2 ⟨C,Bb h1,e⟩))
  ·exact AJ.2 (.inr (Bi.2 ⟨C,Bb h1,e⟩)))
 simp only[By,Cf]at this;omega
theorem aae{R:Tr}{p:Nm}(hs:l.Pairwise eF)(C:∀x,x∈l↔aM R x):bN (λx=>aM R x\/x=c\/x=p) (l.length+(if aM R c then 0 else 1)+(if¬aM R p/\p≠c then 1 else 0)):=by
 have hn:=rE hs;by_cases k1:aM R c<;>by_cases k2:¬aM R p/\p≠c
 ·rw[if_pos k1,if_pos k2];refine⟨p::l,Bv.2 ⟨λe=>k2.1 ((C p).1 e),hn⟩,λx=> ?_,rfl⟩;rw[A3,C];exact⟨λh=>h.elim (λe=>.inr (.inr e)) .inl,λh=>h.elim .inr (λh=>h.elim (λe=>.inr (e▸k1)) .inl)⟩
 ·rw[if_pos k1,if_neg k2];refine⟨l,hn,λx=> ?_,rfl⟩;rw[C];refine⟨.inl,λh=>h.elim id (λh=>h.elim (λe=>e▸k1) (λe=> ?_))⟩;by_cases k3:aM R p
  ·exact e▸k3
  ·by_cases k4:p=c
   ·rw[e,k4];exact k1
   ·exact absurd ⟨k3,k4⟩ k2
 ·rw[if_neg k1,if_pos k2];refine⟨p::c::l,Bv.2 ⟨λe=>(A3.1 e).elim k2.2 (λe=>k2.1 ((C p).1 e)),Bv.2 ⟨λe=>k1 ((C c).1 e),hn⟩⟩,λx=> ?_,rfl⟩;rw[A3,A3,C];exact⟨λh=>h.elim (λe=>.inr (.inr e)) (λh=>h.elim (λe=>.inr (.inl e)) .inl),λh=>h.elim (λh=>.inr (.inr h)) (λh=>h.elim (λe=>.inr (.inl e)) .inl)⟩
 ·rw[if_neg k1,if_neg k2];refine⟨c::l,Bv.2 ⟨λe=>k1 ((C c).1 e),hn⟩,λx=> ?_,rfl⟩;rw[A3,C];refine⟨λh=>h.elim (λe=>.inr (.inl e)) .inl,λh=>h.elim .inr (λh=>h.elim .inl (λe=> ?_))⟩;by_cases k3:aM R p
  ·exact .inr (e▸k3)
  ·by_cases k4:p=c
   ·exact .inl (e.trans k4)
   ·exact absurd ⟨k3,k4⟩ k2
set_option maxHeartbeats 2000000 in
theorem q_AttachR(h:RM w t v L)(hR:TOk (trR L))(c p:Nm)(f:Int)(hc:Nam c)(hp:Nam p)(hn:L.length<=1000000):
  AH AE 95 #[ptB t,.string c,.string p,.int .i64 f] w λe w'=>∃v' L' code,e= .returned (.int .i64 code)/\RPost w t v L w' v' L'/\AttS cj (trR L) c p f (trR L') code:=by
 have G:=tu (w:=w) c hc;have H:=tu (w:=w) p hp;have bp:=uY h c hn;have V:=AF h;obtain⟨ad,cp,hv⟩:=h.form;obtain⟨n,hN⟩:∃n,n=L.length:=⟨_,rfl⟩;have HN:=AF hN;have HR:=AF hR;rw[<-hN]at hv hn;subst hv;have cq:(n:Int)<=1000000:=Aa
 have cc:=h.cell;clear h hN hn hR hc hp;by_cases gc:cj c
 ·rw[decide_eq_true gc]at G;by_cases gp:cj p
  ·rw[decide_eq_true gp]at H;have K:=AF (Ba gc gp);clear gc gp;by_cases g0:f<0
   ·have q0:decide (f<0)=true:=decide_eq_true g0;have I:=AF (AttS.time (isN:=cj) (R:=trR L) (c:=c) (p:=p) (f:=f) K.out (.inl g0));clear g0;go_enter Tryz.func95,Tryz.ntmps95
    go_upto_region 3 with(first
     | (go_at_call 159;refine G.mono ?_;rintro e w1 ⟨rfl,C⟩;obtain rfl:=C.symm;clear G)
     | (go_at_call 159;refine H.mono ?_;rintro e w1 ⟨rfl,C⟩;obtain rfl:=C.symm;clear H))
    go_wp2;go_ret;exact⟨_,L,17,rfl,.refl V.out (AL _ _),I.out⟩
   ·have q0:decide (f<0)=false:=decide_eq_false g0;by_cases g1:fw<f
    ·have q1:decide ((1099511627776:Int)<f)=true:=decide_eq_true g1;have I:=AF (AttS.time (isN:=cj) (R:=trR L) (c:=c) (p:=p) (f:=f) K.out (.inr (.inl g1)));clear g0 g1;go_enter Tryz.func95,Tryz.ntmps95
     go_upto_region 3 with(first
      | (go_at_call 159;refine G.mono ?_;rintro e w1 ⟨rfl,C⟩;obtain rfl:=C.symm;clear G)
      | (go_at_call 159;refine H.mono ?_;rintro e w1 ⟨rfl,C⟩;obtain rfl:=C.symm;clear H))
     go_wp2;go_ret;exact⟨_,L,17,rfl,.refl V.out (AL _ _),I.out⟩
    ·have q1:decide ((1099511627776:Int)<f)=false:=decide_eq_false g1;have HG:=AF (Ba g0 g1);clear g0 g1;go_enter Tryz.func95,Tryz.ntmps95
     go_upto_region 3 with(first
      | (go_at_call 159;refine G.mono ?_;rintro e w1 ⟨rfl,C⟩;obtain rfl:=C.symm;clear G)
      | (go_at_call 159;refine H.mono ?_;rintro e w1 ⟨rfl,C⟩;obtain rfl:=C.symm;clear H))
     go_upto_if 31 with(go_at_call 155;refine bp.mono ?_;rintro e w1 ⟨i,rfl,hi,C⟩;obtain rfl:=C.symm;have HP:=AF (vg hi);clear bp hi)
     rcases HP.out with⟨hi,hp⟩ | ⟨A,B,l,hi,hL,hc,hp⟩
     ·subst hi;have aq:=AF hp;clear hp;go_wp2;go_loopw [9,10] (λs9 a7 wr=>∃k:Nat,k<=n/\s9= .int .i64 (((lks (trR (L.take k)) c).length:Nat):Int)/\a7= .int .i64 (k:Int)/\wr=w/\Hid (∀i l,i<k->L[i]? =some l->l.c=c->l.x.un<=f)) (λ_ a7 _=>n - (intOf a7).toNat)
      case atStart=>exact⟨0,Bc _,rfl,rfl,rfl,AF (λi l hi=>absurd hi (Nat.not_lt_zero _))⟩
      case round=>
       obtain⟨k,hk,rfl,rfl,b7,HO⟩:=hrel;obtain rfl:=b7;rcases Bl k n with b4 | cd
       ·have cl:(k:Int)<(n:Int):=Aa
        obtain⟨l,hl⟩:∃l,L[k]? =some l:=⟨_,AU (by rw[<-HN.out];exact b4)⟩;obtain⟨b,c2,cs,e,A⟩:=V.out.at hl;injection e with e1 e2 e3;subst e1;subst e3;clear e2;have fc:=A.c;have fu:=A.un;have HL:=AF hl;have aa:=rQ hl c;have b2:(lks (trR (L.take k)) c).length<=k:=AI (aaW _ _) (by unfold trR;rw[Cf,Bp];omega);clear A hl;have bb:=AF (show(l.c=c->l.x.un<=f)->∀i l',i<k+1->L[i]? =some l'->l'.c=c->l'.x.un<=f from λb6 i l' hi an=>by
         rcases Bl i k with h | h
         ·exact HO.out i l' h an
         ·obtain rfl:i=k:=Aa
          rw[HL.out]at an;injection an with an;subst an;exact b6)
        by_cases g1:l.c=c
        ·have q5:=nj g1;rw[if_pos g1]at aa;have a4:(lks (trR (L.take (k+1))) c).length=(lks (trR (L.take k)) c).length+1:=by rw[aa,By];rfl
         clear aa;obtain⟨m,hm⟩:∃m,(lks (trR (L.take k)) c).length=m:=⟨_,rfl⟩;rw[hm]at b2 a4⊢;have bz:=AF a4;clear a4 hm;have b5:(m:Int)<=1000000:=Aa
         by_cases g2:f<l.x.un
         ·have q6:decide (f<l.x.un)=true:=decide_eq_true g2;have I:=AF (AttS.time (isN:=cj) (R:=trR L) (c:=c) (p:=p) (f:=f) K.out (.inr (.inr (.inr ⟨l.x,by rw[<-g1];exact aad HL.out,g2⟩))));clear g1 g2;go_wp2;go_ret;exact⟨_,L,17,rfl,.refl V.out (AL _ _),I.out⟩
         ·have q6:decide (f<l.x.un)=false:=decide_eq_false g2;have av:=AF g2;clear g1 g2;go_wp2;go_roundw
          case rel=>exact⟨k+1,Aa,by rw[bz.out];go_num,by go_num,by trivial,AF (bb.out (λ_=>by have:=av.out;omega))⟩
          case measure=>simp[intOf];omega
        ·have q5:=kO g1;rw[if_neg g1,Ds]at aa;have b1:=AF aa;have av:=AF g1;clear g1 aa;go_wp2;go_roundw
         case rel=>exact⟨k+1,Aa,by rw[b1.out],by go_num,by trivial,AF (bb.out (λe=>absurd e av.out))⟩
         case measure=>simp[intOf];omega
       ·obtain rfl:k=n:=Aa
        have U:L.length<=1000000:=by rw[<-HN.out];omega
        have HU:=AF (show∀x∈lks (trR L) c,x.un<=f from λx hx=>by
         obtain⟨i,l,h1,h2,rfl⟩:=aac hx;exact HO.out i l (by have:=(A5.1 h1).1;rw[HN.out];exact this) h1 h2)
        obtain⟨m,hm⟩:∃m,(lks (trR (L.take k)) c).length=m:=⟨_,rfl⟩;rw[hm];have ay:=AF (show m=(lks (trR L) c).length by rw[<-hm,List.take_of_length_le (by rw[HN.out];exact AK _)]);have b5:(m:Int)<=1000000:=by
         have:=aaW (trR L) c;have e:(trR L).length=L.length:=by unfold trR;simp
         rw[<-ay.out,e]at this;omega
        have be:=tA V.out U;have ac:=AF U;clear hm HO U
        go_upto_if 69 with(first
         | (go_at_call 105;refine be.mono ?_;rintro e w1 ⟨v1,lf,rfl,bt,_,a5,a6,hb⟩;obtain⟨cb,c1,rfl⟩:=dW bt.1;have J:=AF hb;have Y:=AF (aae (c:=c) (p:=p) a6 a5);have cm:=known_len a6 a5;have bi:=rA (V.out.below hb) c ac.out;clear be bt a5 a6 hb)
         | (go_at_call 103;refine bi.mono ?_;rintro e w2 ⟨rfl,C⟩;obtain rfl:=C.symm;clear bi))
        have b3:(lf.length:Int)<=2000000:=by have:=ac.out;omega
        have b0:=AF b3;go_cut [11]from 12 (λap wx=>ap= .int .i64 ((lf.length+(if aM (trR L) c then 0 else 1):Nat):Int)/\wx=w1)
        case first=>
         by_cases g3:aM (trR L) c
         ·have q3:decide (aM (trR L) c)=true:=decide_eq_true g3;have ax:=AF g3;rw[q3];clear g3;go_wp2;go_meet;case rel=>exact⟨by rw[if_pos ax.out];rfl,by trivial⟩
         ·have q3:decide (aM (trR L) c)=false:=decide_eq_false g3;have ax:=AF g3;rw[q3];clear g3;go_wp2;go_meet;case rel=>exact⟨by rw[if_neg ax.out];go_num,by trivial⟩
        case rest=>
         obtain⟨ak,ew⟩:=hcut;obtain rfl:=ew.symm;obtain rfl:=ak.symm;obtain⟨n1,ar⟩:∃n1,lf.length+(if aM (trR L) c then 0 else 1)=n1:=⟨_,rfl⟩;rw[ar];rw[ar]at Y;have b9:(n1:Int)<=2000001:=by
          have:=b0.out;split at ar<;>omega
         have P:=rA (V.out.below J.out) p ac.out;clear ar;go_upto_region 16 with(fail)
         go_cut [11,80]from 12 (λap b8 wx=>ap= .int .i64 (n1:Int)/\b8= .bool (decide (¬aM (trR L) p/\p≠c))/\wx=w1)
         case first=>
          by_cases g4:aM (trR L) p
          ·rw[decide_eq_true g4]at P;have e4:decide (¬aM (trR L) p/\p≠c)=false:=decide_eq_false (λk=>k.1 g4);have ab:=AF e4;clear g4 e4;go_wp2_with (go_at_call 103;refine P.mono ?_;rintro e w2 ⟨rfl,C⟩;obtain rfl:=C.symm;clear P)
           go_meet;case rel=>exact⟨by trivial,by rw[ab.out],by trivial⟩
          ·rw[decide_eq_false g4]at P;by_cases g5:p=c
           ·have q5:=nj g5;have e4:decide (¬aM (trR L) p/\p≠c)=false:=decide_eq_false (λk=>k.2 g5);have ab:=AF e4;clear g4 e4 g5;go_wp2_with (go_at_call 103;refine P.mono ?_;rintro e w2 ⟨rfl,C⟩;obtain rfl:=C.symm;clear P)
            go_meet;case rel=>exact⟨by trivial,by rw[ab.out],by trivial⟩
           ·have q5:=kO g5;have e4:decide (¬aM (trR L) p/\p≠c)=true:=decide_eq_true ⟨g4,g5⟩;have ab:=AF e4;clear g4 e4 g5;go_wp2_with (go_at_call 103;refine P.mono ?_;rintro e w2 ⟨rfl,C⟩;obtain rfl:=C.symm;clear P)
            go_meet;case rel=>exact⟨by trivial,by rw[ab.out],by trivial⟩
         case rest=>
          obtain⟨ak,a2,ew⟩:=hcut;obtain rfl:=ew.symm;obtain rfl:=ak.symm;obtain⟨n2,U⟩:∃n2,n1+(if¬aM (trR L) p/\p≠c then 1 else 0)=n2:=⟨_,rfl⟩;rw[U]at Y;have ca:(n2:Int)<=2000002:=by split at U<;>omega
          obtain⟨bq,a3⟩:∃bq,decide (¬aM (trR L) p/\p≠c)=bq:=⟨_,rfl⟩;rw[a3]at a2;obtain rfl:=a2.symm;have a0:=AF (show n2=n1+(if bq=true then 1 else 0)by rw[<-U,<-a3];simp only[decide_eq_true_eq]);clear U a3 a2;go_upto_if 80 with(fail)
          go_cut [11]from 12 (λap wx=>ap= .int .i64 (n2:Int)/\wx=w1)
          case first=>
           cases bq with
           | true=>
            go_wp2;go_meet
            case rel=>exact⟨by rw[a0.out];go_num,by trivial⟩
           | false=>
            go_wp2;go_meet;case rel=>exact⟨by rw[a0.out];rfl,by trivial⟩
          case rest=>
           obtain⟨ak,ew⟩:=hcut;obtain rfl:=ew.symm;obtain rfl:=ak.symm;clear a0;by_cases g7:24<n2
           ·have q7:decide ((24:Int)<(n2:Int))=true:=decide_eq_true Aa;have I:=AF (AttS.full (isN:=cj) (R:=trR L) (c:=c) (p:=p) (f:=f) K.out (by have:=HG.out.1;omega) (by have:=HG.out.2;omega) aq.out HU.out n2 Y.out (.inl g7));clear g7;go_wp2;go_ret;exact⟨_,L,15,rfl,.refl V.out J.out,I.out⟩
           ·have q7:decide ((24:Int)<(n2:Int))=false:=decide_eq_false Aa;by_cases g8:64<=m
            ·have q8:decide ((64:Int)<=(m:Int))=true:=decide_eq_true Aa;have I:=AF (AttS.full (isN:=cj) (R:=trR L) (c:=c) (p:=p) (f:=f) K.out (by have:=HG.out.1;omega) (by have:=HG.out.2;omega) aq.out HU.out n2 Y.out (.inr (by rw[<-ay.out];exact g8)));clear g7 g8;go_wp2;go_ret;exact⟨_,L,15,rfl,.refl V.out J.out,I.out⟩
            ·have q8:decide ((64:Int)<=(m:Int))=false:=decide_eq_false Aa;have a9:=AF (show n2<=24/\(lks (trR L) c).length<64 by rw[<-ay.out];omega);have Z:=q_cycleR (V.out.below J.out) HR.out c p f ac.out;clear g7 g8;by_cases g9:Cyc (trR L) c p f
             ·rw[decide_eq_true g9]at Z;have I:=AF (AttS.cycle (isN:=cj) (R:=trR L) (c:=c) (p:=p) (f:=f) K.out (by have:=HG.out.1;omega) (by have:=HG.out.2;omega) aq.out HU.out n2 Y.out a9.out g9);clear g9;go_wp2_with (go_at_call 160;refine Z.mono ?_;rintro e w2 ⟨rfl,am⟩;have au:=AF (J.out.trans (am.mono J.out.size));clear Z am)
              go_ret;exact⟨_,L,19,rfl,.refl V.out au.out,I.out⟩
             ·rw[decide_eq_false g9]at Z;have I:=AF (AttS.ok (isN:=cj) (R:=trR L) (c:=c) (p:=p) (f:=f) K.out (by have:=HG.out.1;omega) (by have:=HG.out.2;omega) aq.out HU.out n2 Y.out a9.out g9);clear g9;go_upto_if 93 with(go_at_call 160;refine Z.mono ?_;rintro e w2 ⟨rfl,am⟩;have au:=AF (J.out.trans (am.mono J.out.size));clear Z am)
              rename_i K2 ao _ _;have a1:=AF ao;clear ao;go_wp2;refine a1.out _ _ (att_tail V.out HN.out ac.out au.out (Kn.mk0 rfl rfl Ac) (λc a a' w e h=>⟨e.trans h.1,h.2⟩) (λa' w' v' g sl h1 h2 h3=> ?_) _ Ab);refine A6 (B9 rfl _ _ _) h2 ?_;refine⟨v',_,0,by rw[<-h1],h3,?_⟩;rw[show trR (L++ [⟨c,eu p f,g,sl⟩])=fx (trR L) c p f by unfold trR fx;rw[Cu];rfl];exact I.out
     ·subst hi;have q2:decide ((0:Int)<=(A.length:Int))=true:=decide_eq_true Aa;have I:=AF (AttS.time (isN:=cj) (R:=trR L) (c:=c) (p:=p) (f:=f) K.out (.inr (.inr (.inl ⟨_,_,hp⟩))));clear hp hL hc;go_wp2;go_ret;exact⟨_,L,17,rfl,.refl V.out (AL _ _),I.out⟩
  ·rw[decide_eq_false gp]at H;have I:=AF (AttS.name (isN:=cj) (R:=trR L) (c:=c) (p:=p) (f:=f) (λk=>gp k.2));clear gc gp;go_enter Tryz.func95,Tryz.ntmps95
   go_wp2_with (first
     | (go_at_call 159;refine G.mono ?_;rintro e w1 ⟨rfl,C⟩;obtain rfl:=C.symm;clear G)
     | (go_at_call 159;refine H.mono ?_;rintro e w1 ⟨rfl,C⟩;obtain rfl:=C.symm;clear H))
   go_ret;exact⟨_,L,5,rfl,.refl V.out (AL _ _),I.out⟩
 ·rw[decide_eq_false gc]at G;have I:=AF (AttS.name (isN:=cj) (R:=trR L) (c:=c) (p:=p) (f:=f) (λk=>gc k.1));clear gc;go_enter Tryz.func95,Tryz.ntmps95
  go_wp2_with (go_at_call 159;refine G.mono ?_;rintro e w1 ⟨rfl,C⟩;obtain rfl:=C.symm;clear G)
  go_ret;exact⟨_,L,5,rfl,.refl V.out (AL _ _),I.out⟩
end
section
open Classical
variable {w:World} {g:Nat} {sl:Value} {S:List St}
theorem q_oppR{va vb:Value}{a b:Pq}(ia:bh w va a)(H:bh w vb b)(ha:a.ok 2)(hb:b.ok 2)(C:a.good)(G:b.good):AH AE 207 #[va,vb] w λe w'=>e= .returned (.bool (decide (opp a b)))/\AG w.heap.size w w':=by
 by_cases h:opp a b
 ·rw[decide_eq_true h];exact q_rop1 va vb a b w ia H (ha.mono th) (hb.mono th) C G h
 ·rw[decide_eq_false h];exact q_rop0 va vb a b w ia H (ha.mono th) (hb.mono th) C G h
theorem q_eqlR{va vb:Value}{a b:Pq}(ia:bh w va a)(C:bh w vb b)(ha:a.ok 2)(hb:b.ok 2):AH AE 45 #[va,vb] w λe w'=>e= .returned (.bool (decide (a=b)))/\AG w.heap.size w w':=by
 by_cases h:a=b
 ·rw[decide_eq_true h];exact qE va vb a b w ia C (ha.mono th) (hb.mono th) h
 ·rw[decide_eq_false h];exact zp va vb a b w ia C (ha.mono th) (hb.mono th) h
theorem ownr_nil:(Vp.ownr stT 22 0 []).p w (.slice none 0 0):=⟨[],⟨⟨rfl,.inl Aj⟩,λg C=>by cases C⟩,⟨rfl,λj q h=>Aq⟩⟩
theorem app_own{x:Value}{n M:Nat}{qs qs':List Vp}{ty:TypeId}(G:(Vp.ownr stT 22 n qs).p w v)(K:(Vp.row stT M qs').p w x)(I:qs'.length=M*22)(hn:n+M<=1000)(hb:AG w0.heap.size w0 w)(hf:∀g,v.ownBlock=some g->w0.heap.size<=g):
  ∃v' w',(Ca #[183,183] ty #[v,x]).run AE w= .ok v' w'/\AG w0.heap.size w0 w'/\(∀g,v'.ownBlock=some g->w0.heap.size<=g)/\(Vp.ownr stT 22 (n+M) (qs++qs')).p w' v':=by
 obtain⟨xs,G,hc⟩:=G;obtain⟨v',w',J,H,_,C,h3⟩:=qH (p:=AE) (ty:=ty) (bytes:=400) CA Ab G hc K I Aa Aa;exact⟨v',w',J,hb.grown H hb.size hf,λg h=>(C g h).elim (hf g) (AI hb.size),h3⟩
theorem kx_sh{n:Nat}{o:Oper}{l:List (Nat×Value)}{a:Act}{x y:Operand}{t:TypeId}{G r:Value}(C:Kn n l a)(H:o.op= .slice t x none (some y) none)(I:evK l x=some G)(hy:evK l y=some v)(hr:(Instr.sliceAt t G none (some v) none).run AE w= .ok r w):(execOp a.eval o).run AE w= .ok (.value r) w:=by
 unfold execOp;simp only[H];rw[C.evx I];simp only[BF,Option.map_none];rw[C.evx hy];simp only[Sem.run_bind,hr];rfl
set_option maxHeartbeats 2000000 in
theorem k_rAdd{s:St}(h:TrkS 185 w g sl S)(i:zq w v s)(hs:s.pose.ok 2)(hS:GoodS S):AH AE 156 #[ptG g,v] w λe w'=>e= .returned (.int .i64 (gI S s).2)/\TrkM 185 w g sl (gI S s).1 w':=by
 have hn:=hS.len;obtain⟨cs,rfl,J⟩:=i;go_enter Tryz.func156,Tryz.ntmps156
 refine bW (n:=141) [(0,ptG g),(1,.agg (AW .i64 s.tm::cs).toArray)] λC=> ?_
 repeat first | refine AP ?_ | refine AY ?_
 refine bC ?_;refine vX (rp J) C λ{_ W B} V C=> ?_
 refine sZ C ?_;intro _ C;obtain⟨f1,f2,f3⟩:=V.st J;have hb:=AL W.heap.size W;have hm:=h.mono V.bel;obtain⟨ad,c1,U,f0⟩:=hm.form;have a4:=q_rVal (w:=W) ⟨cs,rfl,J.mono V.bel⟩ hs;have ap:∀w',AG W.heap.size W w'->(S,(4:Int))=gI S s->TrkM 185 w g sl (gI S s).1 w':=λw' hb e=>by
  rw[<-e];exact .keep h (V.bel.trans (hb.mono V.bel.size))
 by_cases h1:s.tm<0
 ·have e:(S,(4:Int))=gI S s:=(if_pos (.inl h1)).symm;refine sX C ?_;intro _ C
  repeat first | refine AP ?_ | refine AY ?_
  refine bu C rfl ?_;refine sX C ?_;intro _ C;refine Bk ?_
  repeat first | refine ck ?_ | refine cN ?_
  refine A6 (B9 rfl _ _ _) C.df ?_;rw[C.getD (i:=4) rfl];exact⟨by rw[<-e],ap _ hb e⟩
 ·by_cases h2:1099511627776<s.tm
  ·have e:(S,(4:Int))=gI S s:=(if_pos (.inr (.inl h2))).symm;refine sX C ?_;intro _ C
   repeat first | refine AP ?_ | refine AY ?_
   refine bu C rfl ?_;refine sX C ?_;intro _ C;refine Bk ?_
   repeat first | refine ck ?_ | refine cN ?_
   refine A6 (B9 rfl _ _ _) C.df ?_;rw[C.getD (i:=4) rfl];exact⟨by rw[<-e],ap _ hb e⟩
  ·refine sA C ?_;intro _ C;refine wC C (ai Tryz.func158 rfl rfl) (a4) λ{e w1} hr=> ?_
   obtain⟨rfl,aq⟩:=hr;refine⟨_,rfl,λ_ C=> ?_⟩;by_cases h3:s.pose.good
   ·have e:gI S s=uG S s:=if_neg (by simp[h1,h2,h3]);rw[decide_eq_true h3]at C;refine sZ C ?_;intro _ C
    repeat first | refine AP ?_ | refine AY ?_
    refine aX C rfl (Bm ?_)
    repeat first | with_reducible refine thn ?_ | with_reducible refine ibn ?_
    rw[e];unfold uG;rw[if_neg Aa];have hx:∀w',AG W.heap.size W w'->TrkM 185 w g sl S w':=λw' hb=>.keep h (V.bel.trans (hb.mono V.bel.size))
    have ay:∀w',AG W.heap.size W w'->bh w' (.agg cs.toArray) s.pose:=λw' hb=>⟨cs,rfl,(J.mono V.bel).mono hb⟩
    clear ap a4 e;have hb:=aq;clear aq;refine sX C ?_;intro _ C;refine fW (λa' wr=>Kn 141 [(0,ptG g),(3,.pointer (some ⟨B,0,none⟩)),(5,.int .i64 ((plN S s.tm:Nat):Int))] a'/\AG W.heap.size W wr) ?_ (λa' wr hI=> ?_)
    ·refine l9 (λa' wr=>∃k:Nat,Kn 141 [(0,ptG g),(3,.pointer (some ⟨B,0,none⟩)),(5,.int .i64 (k:Int))] a'/\k<=plN S s.tm/\AG W.heap.size W wr) (λa' _=>S.length - (intOf (a'.tmps.getD 5 undef)).toNat) ⟨0,C.ct,Bc _,hb⟩ (λa' wr hI=> ?_);clear C hb;obtain⟨k,C,bt,hb⟩:=hI;have bz:(intOf (a'.tmps.getD 5 undef)).toNat=k:=by rw[C.getD (i:=5) rfl];simp[intOf]
     have hp:=gH S s.tm;rw[bz];subst U;rcases Nat.lt_or_eq_of_le bt with H | rfl
     ·obtain⟨x,am,b4⟩:=eo H;obtain⟨b,o,c2,e,Y⟩:=hm.parts (ii am);injection e with P e2 e3;subst P;subst e3;clear e2;obtain⟨f4,_⟩:=Y _ x am;refine uX C ?_;intro _ C w' I
      repeat first | refine AP ?_ | refine AY ?_
      refine bu C rfl (Bm ?_)
      repeat first | with_reducible refine thn ?_ | with_reducible refine ibn ?_
      refine sA C ?_;intro _ C;refine vN C ((k+1:Nat)) λC=> ?_
      refine sD C ?_;intro _ C;refine wln ?_
      repeat first | with_reducible refine thn ?_ | with_reducible refine ibn ?_
      refine⟨⟨k+1,C.ct,H,Ao⟩,?_⟩;rw[C.getD (i:=5) rfl];simp only[intOf];omega
     ·by_cases H:plN S s.tm<S.length
      ·obtain⟨x,am,b4⟩:=uz H;obtain⟨b,o,c2,e,Y⟩:=hm.parts (ii am);injection e with P e2 e3;subst P;subst e3;clear e2;obtain⟨f4,_⟩:=Y _ x am;refine uX C ?_;intro _ C w' I
       repeat first | refine AP ?_ | refine AY ?_
       refine aX C rfl ?_;refine wp_exit ?_
       repeat first | refine thx ?_ | refine ibx ?_
       exact⟨C.ct,Ao⟩
      ·refine uX C ?_;intro _ C w' I
       repeat first | refine AP ?_ | refine AY ?_
       refine aX C rfl ?_;refine wp_exit ?_
       repeat first | refine thx ?_ | refine ibx ?_
       exact⟨C.ct,Ao⟩
    obtain⟨C,ac⟩:=hI;have hp:=gH S s.tm;have hy:∀y,S[plN S s.tm]? =some y->∃b o c,sl= .slice (some ⟨b,o,none⟩) S.length c/\StL W b (o+plN S s.tm*22) y:=λy hy=>by
     obtain⟨b,o,c2,e,Y⟩:=hm.parts (ii hy);exact⟨b,o,c2,e,Y _ y hy⟩
    refine fW (λa' w'=>Kn 141 [(0,ptG g),(3,.pointer (some ⟨B,0,none⟩)),(5,.int .i64 ((plN S s.tm:Nat):Int))] a'/\AG W.heap.size W w'/\¬∃y,S[plN S s.tm]? =some y/\y.tm=s.tm) ?_ (λa' w' hI=> ?_)
    ·by_cases H:plN S s.tm<S.length
     ·obtain⟨y,G⟩:∃y,S[plN S s.tm]? =some y:=⟨_,AU H⟩;obtain⟨b,o,c2,e,f4,cy,Z,f5,f6⟩:=hy y G;subst U;injection e with P e2 e3;subst P;subst e3;clear e2;have gy:=hS.at G;by_cases ey:y.tm=s.tm
      ·refine uX C ?_;intro _ C w' I
       repeat first | refine AP ?_ | refine AY ?_
       refine bu C rfl ?_;by_cases ep:y.pose=s.pose
       ·rw[if_pos ⟨y,G,ey,ep⟩];refine uA C ?_;intro _ C;refine uC C (.bool true) (ai Tryz.func45 rfl rfl) (λw hb=>by have:=q_eqlR (w:=w) ⟨cy,rfl,Z.mono hb⟩ (ay w hb) gy.ok hs;rwa [decide_eq_true ep]at this) λC=> ?_
        refine wqn (λw' I=> ?_)
        repeat first | with_reducible refine thn ?_ | with_reducible refine ibn ?_
        repeat first | refine AP ?_ | refine AY ?_
        refine bu C rfl ?_;refine sX C ?_;intro _ C;refine Bk ?_
        repeat first | refine ck ?_ | refine cN ?_
        refine A6 (B9 rfl _ _ _) C.df ?_;rw[C.getD (i:=4) rfl];exact⟨rfl,hx _ Ao⟩
       ·rw[if_neg (by rintro⟨y',h,_,h2⟩;rw[G]at h;injection h with h;subst h;exact ep h2),if_pos ⟨y,G,ey⟩];refine uA C ?_;intro _ C;refine uC C (.bool false) (ai Tryz.func45 rfl rfl) (λw hb=>by have:=q_eqlR (w:=w) ⟨cy,rfl,Z.mono hb⟩ (ay w hb) gy.ok hs;rwa [decide_eq_false ep]at this) λC=> ?_
        refine wqn (λw' I=> ?_)
        repeat first | with_reducible refine thn ?_ | with_reducible refine ibn ?_
        repeat first | refine AP ?_ | refine AY ?_
        refine aX C rfl (Bm ?_)
        repeat first | with_reducible refine thn ?_ | with_reducible refine ibn ?_
        refine sX C ?_;intro _ C;refine Bk ?_
        repeat first | refine ck ?_ | refine cN ?_
        refine A6 (B9 rfl _ _ _) C.df ?_;rw[C.getD (i:=4) rfl];exact⟨rfl,hx _ Ao⟩
      ·refine uX C ?_;intro _ C w' I
       repeat first | refine AP ?_ | refine AY ?_
       refine aX C rfl (Bm ?_)
       repeat first | with_reducible refine thn ?_ | with_reducible refine ibn ?_
       exact⟨C.ct,Ao,by rintro⟨y',h,h2⟩;rw[G]at h;injection h with h;subst h;exact ey h2⟩
     ·subst U;refine uX C ?_;intro _ C w' I
      repeat first | refine AP ?_ | refine AY ?_
      refine aX C rfl (Bm ?_)
      repeat first | with_reducible refine thn ?_ | with_reducible refine ibn ?_
      exact⟨C.ct,Ao,by rintro⟨y',h,h2⟩;exact H (A5.1 h).1⟩
    ·obtain⟨C,hb,a0⟩:=hI;rw[if_neg (by rintro⟨y,h,h2,_⟩;exact a0 ⟨y,h,h2⟩),if_neg a0];obtain⟨ob,K⟩:∃ob:Bool,ob=decide ((∃z,0<plN S s.tm/\S[plN S s.tm - 1]? =some z/\opp z.pose s.pose)\/∃y,S[plN S s.tm]? =some y/\opp s.pose y.pose):=⟨_,rfl⟩;have ab:∀ {x y:Pq} {vx vy:Value},bh W vx x->bh W vy y->x.ok 2->y.ok 2->x.good->y.good->∀b,decide (opp x y)=b->∀w',AG W.heap.size W w'->AH AE 207 #[vx,vy] w' λe w1=>e= .returned (.bool b)/\AG w'.heap.size w' w1:=λix iy hx hy gx gy b e w' hb=>e▸q_oppR (ix.mono hb) (iy.mono hb) hx hy gx gy
     have an:bh W (.agg cs.toArray) s.pose:=⟨cs,rfl,J.mono V.bel⟩;refine fW (λa' w'=>Kn 141 [(0,ptG g),(3,.pointer (some ⟨B,0,none⟩)),(5,.int .i64 ((plN S s.tm:Nat):Int))] a'/\AG W.heap.size W w'/\ob=false) ?_ (λa' w' hI=> ?_)
     ·refine fW (λa' w'=>Kn 141 [(0,ptG g),(3,.pointer (some ⟨B,0,none⟩)),(5,.int .i64 ((plN S s.tm:Nat):Int)),(111,.bool ob)] a'/\AG W.heap.size W w') ?_ (λa' w' hI=> ?_)
      ·have a7:(S.length<=plN S s.tm/\∀y,S[plN S s.tm]? ≠some y)\/∃y b o c,plN S s.tm<S.length/\S[plN S s.tm]? =some y/\sl= .slice (some ⟨b,o,none⟩) S.length c/\StL W b (o+plN S s.tm*22) y:=by
        by_cases H:plN S s.tm<S.length
        ·obtain⟨b,o,c,e⟩:=hy _ (AU H);exact .inr ⟨_,b,o,c,H,AU H,e⟩
        ·exact .inl ⟨Aa,λy h=>H (A5.1 h).1⟩
       by_cases h0:0<plN S s.tm
       ·obtain⟨z,hz⟩:∃z,S[plN S s.tm - 1]? =some z:=⟨_,AU Aa⟩;obtain⟨b,o,c2,e,Y⟩:=hm.parts (ii hz);obtain⟨f4,cz,av,f5,f6⟩:=Y _ z hz;have gz:=hS.at hz;subst U;injection e with P e2 e3;subst P;subst e3;clear e2;by_cases oz:opp z.pose s.pose
        ·obtain rfl:ob=true:=K.trans (decide_eq_true (.inl ⟨z,h0,hz,oz⟩));refine uA C ?_;intro _ C;refine uN C ((plN S s.tm - 1:Nat)) λC=> ?_
         refine uD C ?_;intro _ C;refine uC C (.bool true) (ai Eu rfl rfl) (λw hb=>ab ⟨cz,rfl,av⟩ an gz.ok hs gz.good h3 _ (decide_eq_true oz) w hb) λC=> ?_
         refine uZ C ?_;intro _ C w' I;exact⟨C.ct,Ao⟩
        ·rcases a7 with⟨h4,h5⟩ | ⟨y,b',o',c',h4,G,e,f7,cy,Z,f8,f9⟩
         ·obtain rfl:ob=false:=K.trans (decide_eq_false (by rintro(⟨z',_,h,h6⟩ | ⟨y,h,_⟩);(rw[hz]at h;injection h with h;subst h;exact oz h6);exact h5 y h));refine uA C ?_;intro _ C;refine uN C ((plN S s.tm - 1:Nat)) λC=> ?_
          refine uD C ?_;intro _ C;refine uC C (.bool false) (ai Eu rfl rfl) (λw hb=>ab ⟨cz,rfl,av⟩ an gz.ok hs gz.good h3 _ (decide_eq_false oz) w hb) λC=> ?_
          refine uZ C ?_;intro _ C w' I;exact⟨C.ct,Ao⟩
         ·have gy:=hS.at G;injection e with P e2 e3;injection P with P;injection P with P e4;subst P;subst e4;subst e3;clear e2;obtain rfl:ob=decide (opp s.pose y.pose):=K.trans (decide_eq_decide.2 ⟨by rintro(⟨z',_,h,h6⟩ | ⟨y',h,h6⟩);(rw[hz]at h;injection h with h;subst h;exact absurd h6 oz);(rw[G]at h;injection h with h;subst h;exact h6),λh=>.inr ⟨y,G,h⟩⟩);refine uA C ?_;intro _ C;refine uN C ((plN S s.tm - 1:Nat)) λC=> ?_
          refine uD C ?_;intro _ C;refine uC C (.bool false) (ai Eu rfl rfl) (λw hb=>ab ⟨cz,rfl,av⟩ an gz.ok hs gz.good h3 _ (decide_eq_false oz) w hb) λC=> ?_
          refine uD C ?_;intro _ C;refine uC C (_) (ai Eu rfl rfl) (λw hb=>ab an ⟨cy,rfl,Z⟩ hs gy.ok h3 gy.good _ rfl w hb) λC=> ?_
          refine uZ C ?_;intro _ C w' I;exact⟨C.ct,Ao⟩
       ·rcases a7 with⟨h4,h5⟩ | ⟨y,b',o',c',h4,G,e,f7,cy,Z,f8,f9⟩
        ·obtain rfl:ob=false:=K.trans (decide_eq_false (by rintro(⟨z',h,_⟩ | ⟨y,h,_⟩);exact h0 h;exact h5 y h));subst U;refine uX C ?_;intro _ C w' I;exact⟨C.ct,Ao⟩
        ·have gy:=hS.at G;subst U;injection e with P e2 e3;subst P;subst e3;clear e2;obtain rfl:ob=decide (opp s.pose y.pose):=K.trans (decide_eq_decide.2 ⟨by rintro(⟨z',h,_⟩ | ⟨y',h,h6⟩);exact absurd h h0;(rw[G]at h;injection h with h;subst h;exact h6),λh=>.inr ⟨y,G,h⟩⟩);refine uA C ?_;intro _ C;refine uC C (_) (ai Eu rfl rfl) (λw hb=>ab an ⟨cy,rfl,Z⟩ hs gy.ok h3 gy.good _ rfl w hb) λC=> ?_
         refine uZ C ?_;intro _ C w' I;exact⟨C.ct,Ao⟩
      ·obtain⟨C,hb⟩:=hI
       cases ob with
       | true=>
        rw[if_pos (of_decide_eq_true K.symm)]
        repeat first | refine AP ?_ | refine AY ?_
        refine bu C rfl ?_;refine sX C ?_;intro _ C;refine Bk ?_
        repeat first | refine ck ?_ | refine cN ?_
        refine A6 (B9 rfl _ _ _) C.df ?_;rw[C.getD (i:=4) rfl];exact⟨rfl,hx _ hb⟩
       | false=>
        repeat first | refine AP ?_ | refine AY ?_
        refine aX C rfl (Bm ?_)
        repeat first | with_reducible refine thn ?_ | with_reducible refine ibn ?_
        exact⟨C.ct,hb,rfl⟩
     ·obtain⟨C,hb,rfl⟩:=hI;rw[if_neg (of_decide_eq_false K.symm)];clear ab K a0 ay;subst U;have ax:=(A8.1 h.blk).1;obtain⟨p,b2⟩:∃p,plN S s.tm=p:=⟨_,rfl⟩;rw[b2]at C hp⊢;refine sX C ?_;intro _ C;refine sA C ?_;intro _ C;obtain⟨y1,b5,hr1,_⟩:=run_slTo (p:=AE) (t:=183) (w:=w') CA Ab (hm.mono hb).row hp;refine wY C y1 (kx_sh C rfl rfl rfl b5) λC=> ?_
      obtain⟨v2,w2,bb,ar,bp,b0⟩:=app_own (ty:=183) ownr_nil hr1 (by rw[dS,Bp,Nat.min_eq_left hp]) Aa hb (λg h=>by cases h);refine wW C v2 w2 (rj C rfl rfl rfl bb) λC=> ?_
      clear hb ac;refine sZ C ?_;intro _ C;refine sA C ?_;intro _ C;have V3:=VB.new w2 stT (AW .i64 s.tm::cs).toArray (by simpa using rp J);refine wW C _ _ (oq C rfl rfl (aa9 (by rw[aB J];rfl))) λC=> ?_
      have ac:=ar.trans (V3.bel.mono ar.size);obtain⟨v4,w4,be,au,bq,b1⟩:=app_own (ty:=183) (Vp.mono b0 V3.bel) (aba V3.blk ((J.mono V.bel).mono ac)) rfl Aa ac bp;refine wW C v4 w4 (rj C rfl rfl rfl be) λC=> ?_
      clear ar ac;refine sZ C ?_;intro _ C;refine sA C ?_;intro _ C;obtain⟨y5,b6,b3,_⟩:=qK (p:=AE) (t:=183) (w:=w4) CA Ab (hm.mono au).row hp;refine wY C y5 (kx_sf C rfl rfl rfl b6) λC=> ?_
      obtain⟨v6,w6,bi,a1,a3,aa⟩:=app_own (ty:=183) b1 b3 (by rw[dS,Cv]) Aa au bq;refine wW C v6 w6 (rj C rfl rfl rfl bi) λC=> ?_
      rw[show 0+p+1+(S.length - p)=(fT S p s).length by rw[gW hp];omega,show []++bx (S.take p)++s.qs++bx (S.drop p)=bx (fT S p s)by simp[bx,fT]]at aa;obtain⟨a6,c6,rfl⟩:=iL (eV aa);have b7:=gW (s:=s) hp;have a2:=V.bel.trans (a1.mono V.bel.size);have ao:=(a1.block g (Bt ax V.bel.size)).trans hm.blk;clear au;refine sZ C ?_;intro _ C;by_cases h64:S.length<64
      ·rw[if_pos h64];obtain⟨hM,_⟩:=TrkM.set (sl:=.slice ad S.length c1) ax (Ent.kept.refl.below a2) ao (λn e=>by cases e) (eV aa) (λb hb=>⟨AI V.bel.size (a3 b hb),uy aa b hb⟩);refine sX C ?_;intro _ C
       repeat first | refine AP ?_ | refine AY ?_
       refine aX C rfl (Bm ?_)
       repeat first | with_reducible refine thn ?_ | with_reducible refine ibn ?_
       refine sA C ?_;intro _ C;refine wT C (_) (hr:=py ao) λC=> ?_
       refine wln ?_
       repeat first | with_reducible refine thn ?_ | with_reducible refine ibn ?_
       refine sX C ?_;intro _ C;refine Bk ?_
       repeat first | refine ck ?_ | refine cN ?_
       refine A6 (B9 rfl _ _ _) C.df ?_;rw[C.getD (i:=4) rfl];exact⟨rfl,hM⟩
      ·rw[if_neg h64];obtain⟨y,hy,ak,a5⟩:=qK (p:=AE) (t:=183) (k:=1) CA Ab (eV aa) Aa;rw[<-Cv]at ak;obtain⟨hM,_⟩:=TrkM.set (sl:=.slice ad S.length c1) ax (Ent.kept.refl.below a2) ao (λn e=>by cases e) ak (λb hb=>⟨AI V.bel.size (a3 b (a5 b hb)),uy aa b (a5 b hb)⟩);obtain⟨a9,c9,rfl⟩:=iL ak;refine sX C ?_;intro _ C
       repeat first | refine AP ?_ | refine AY ?_
       refine bu C rfl ?_;refine sA C ?_;intro _ C;refine wY C _ (kx_sf C rfl rfl rfl hy) λC=> ?_
       refine sZ C ?_;intro _ C;refine sA C ?_;intro _ C;refine wT C (_) (hr:=py ao) λC=> ?_
       refine wln ?_
       repeat first | with_reducible refine thn ?_ | with_reducible refine ibn ?_
       refine sX C ?_;intro _ C;refine Bk ?_
       repeat first | refine ck ?_ | refine cN ?_
       refine A6 (B9 rfl _ _ _) C.df ?_;rw[C.getD (i:=4) rfl];exact⟨rfl,hM⟩
   ·have e:(S,(4:Int))=gI S s:=(if_pos (.inr (.inr h3))).symm;rw[decide_eq_false h3]at C;refine sZ C ?_;intro _ C
    repeat first | refine AP ?_ | refine AY ?_
    refine bu C rfl ?_;refine sX C ?_;intro _ C;refine Bk ?_
    repeat first | refine ck ?_ | refine cN ?_
    refine A6 (B9 rfl _ _ _) C.df ?_;rw[C.getD (i:=4) rfl];exact⟨by rw[<-e],ap _ aq e⟩
end
section
open Classical
variable{L:List Rl}
theorem RPost.cell{w':World}{v':Value}{L':List Rl}(h:RPost w t v L w' v' L')(hB:B∉fpR t v L)(hl:B<w.heap.size)(j:Nat):w'.cell? ⟨B,j,none⟩=w.cell? ⟨B,j,none⟩:=BM (h.kp.block B hl hB)
theorem RM.drew(h:RM w t v L):RM w.drew t v L:=h.below (AL _ _).drew
def rF(w:World)(t:Nat)(v:Value)(L:List Rl)(x:Ax)(e:Ending)(w':World):Prop:=∃v' L' code,e= .returned (.int .i64 code)/\RPost w t v L w' v' L'/\DoS (trR L) x (trR L') code
variable{cs:List Value}
theorem q_SetRP{p:Pq}(h:RM w t v L)(hn:L.length<=1000000)(H:TOk (trR L))(hv:bh w (.agg cs.toArray) p)(h2:p.ok 2):
  AH AE 93 #[ptB t,.string c,stV a cs] w λe w'=>∃v' L' code,e= .returned (.int .i64 code)/\RPost w t v L w' v' L'/\SetS (xQ a p) (trR L) c a (trR L') code:=by
 obtain⟨G,C,hc⟩:=hv;have C:cs=G:=by injection C with C;simpa using C
 subst C;refine q_SetR h hn (H.row c) (aB hc) _ (λw' g sl S I hb ht=> ?_);obtain⟨l,hl,rfl⟩:=I;obtain⟨k,K⟩:=DH hl;have J:GoodS l.x.tr:=H.good _ (Bb (fY K));exact k_rAdd (s:=⟨a,p⟩) ht ⟨cs,rfl,aW.mono hc hb⟩ h2 J
theorem q_FixRP{p:Pq}(h:RM w t v L)(hn:L.length<=1000000)(C:TOk (trR L))(hv:bh w (.agg cs.toArray) p)(h2:p.ok 2):
  AH AE 94 #[ptB t,.string c,.agg cs.toArray] w λe w'=>∃v' L' code,e= .returned (.int .i64 code)/\RPost w t v L w' v' L'/\FixS (decide p.good) p (trR L) c (trR L') code:=
 q_FixedR h hn (λl hl=>by
  obtain⟨k,G⟩:=DH hl;exact(C.good _ (Bb (fY G))).len) hv (λ_ hb=>q_rVal (hv.mono hb) h2)
structure ByC(w w1:World)(t B:Nat)(v:Value)(L:List Rl)(k c p a x u:Int):Prop where
 eq:w.alloc (.cells #[.int .u8 k,.int .u8 c,.int .u8 p,.int .i16 a,.int .i8 x,.int .u8 u] 67)=w1
 hB:w.heap.size=B
 tm:RM w1 t v L
 pre:∀(w2 w3:World)(v':Value)(L':List Rl),AG w1.heap.size w1 w2->RPost w2 t v L w3 v' L'->RPost w t v L w3 v' L'
 cel:∀(w2 w3:World)(v':Value)(L':List Rl),AG w1.heap.size w1 w2->RPost w2 t v L w3 v' L'->∀j u,w1.cell? ⟨B,j,none⟩=some u->w3.cell? ⟨B,j,none⟩=some u
 cel2:∀(w2:World),AG w1.heap.size w1 w2->∀j v,w1.cell? ⟨B,j,none⟩=some v->w2.cell? ⟨B,j,none⟩=some v
 f0:w1.cell? ⟨B,0,none⟩=some (.int .u8 k)
 f1:w1.cell? ⟨B,1,none⟩=some (.int .u8 c)
 f2:w1.cell? ⟨B,2,none⟩=some (.int .u8 p)
 f3:w1.cell? ⟨B,3,none⟩=some (.int .i16 a)
 f4:w1.cell? ⟨B,4,none⟩=some (.int .i8 x)
 f5:w1.cell? ⟨B,5,none⟩=some (.int .u8 u)
theorem by_c(h:RM w t v L)(k c p a x u:Int):∃w1 B,ByC w w1 t B v L k c p a x u:=by
 obtain⟨w1,G⟩:∃w1,w.alloc (.cells #[.int .u8 k,.int .u8 c,.int .u8 p,.int .i16 a,.int .i8 x,.int .u8 u] 67)=w1:=⟨_,rfl⟩;have H:AG w.heap.size w w1:=by rw[<-G];exact(AL _ _).alloc (AK _) _
 have P:w1.heap.size=w.heap.size+1:=by rw[<-G];exact asz _ _
 have C:w1.heap[w.heap.size]? =some (.cells #[.int .u8 k,.int .u8 c,.int .u8 p,.int .i16 a,.int .i8 x,.int .u8 u] 67 (0,0)):=by rw[<-G];exact BE w _
 have I:w.heap.size∉fpR t v L:=λK=>by have:=h.lt _ K;omega
 exact⟨w1,w.heap.size,G,rfl,h.below H,λ_ _ _ _ k J=>J.pre (H.trans (k.mono H.size)),λ_ _ _ _ k J j v hv=>by
   rw[J.cell I (by have:=k.size;omega),k.cell (p:=⟨_,j,none⟩) (by show w.heap.size<_;omega)];exact hv,λ_ k j v hv=>by
   rw[k.cell (p:=⟨_,j,none⟩) (by show w.heap.size<_;omega)];exact hv,
  by rw[aE C];rfl,by rw[aE C];rfl,by rw[aE C];rfl,by rw[aE C];rfl,by rw[aE C];rfl,by rw[aE C];rfl⟩
variable{w1:World}{k c p x u:Int}
set_option maxHeartbeats 2000000 in
theorem q_by1(C:ByC w w1 t B v L k c p a x u)(hE:TOk (trR L))(hn:L.length<=1000000)(hk:0<=k)(hc:0<=c/\c<256)(hp:0<=p/\p<256)(ha: -32768<=a/\a<32768)(hx: -128<=x/\x<128)(hu:0<=u/\u<256)(h5:k % 5=2):
  AH AE 38 #[ptB t,.agg #[.int .u8 k,.int .u8 c,.int .u8 p,.int .i16 a,.int .i8 x,.int .u8 u]] w λe w'=>rF w t v L ⟨1,aR c,aR p,a,aT x u⟩ e w':=by
 have V:k.tmod 5=k % 5:=Cz hk;have ab:Bd.wrap a=a:=by rw[BQ];omega
 have I:=AF (show AG w1.heap.size w1 w1.drew from(AL _ _).drew);have J:=AF C.pre;have H:=AF C.cel;have P:=AF C.cel2;have aa:=C.eq;have hB:=C.hB;have f0:=C.f0;have f1:=C.f1;have f3:=C.f3;have h2:=du hx hu;rw[h5]at V;have K:=q_DetachR C.tm.drew (aR c) a hn;have HF:=AF (show∀L' G,DetS (trR L) (aR c) a (trR L') G->DoS (trR L) ⟨1,aR c,aR p,a,aT x u⟩ (trR L') G from λL' G hd=>by unfold DoS;exact hd);clear C hE hn h2 hk h5;go_enter Tryz.func38,Tryz.ntmps38
 go_wp2
 go_region_held3 (λw'=>w'.cell? ⟨B,1,none⟩=some (.int .u8 c)/\w'.cell? ⟨B,3,none⟩=some (.int .i16 a)) (first | assumption | exact⟨f1,f3⟩ | go_keep)
  (first
   | (go_at_call 39;with_reducible refine(fe c hc).mono ?_;rintro e w' ⟨rfl,Y⟩;obtain rfl:=Y.symm)
   | (go_at_call 92;refine K.mono ?_;rintro e w2 ⟨v',L',G,rfl,U,hD⟩;have HS:=(Ba (H.out _ _ _ _ I.out U 1 _ f1) (H.out _ _ _ _ I.out U 3 _ f3));have Z:=AF (Ba (J.out _ _ _ _ I.out U) (HF.out _ _ hD));clear U hD))
 all_goals go_wp2
 all_goals go_ret
 all_goals exact⟨v',L',G,rfl,Z.out.1,Z.out.2⟩
set_option maxHeartbeats 2000000 in
theorem q_by2(C:ByC w w1 t B v L k c p a x u)(hE:TOk (trR L))(hn:L.length<=1000000)(hk:0<=k)(hc:0<=c/\c<256)(hp:0<=p/\p<256)(ha: -32768<=a/\a<32768)(hx: -128<=x/\x<128)(hu:0<=u/\u<256)(h5:k % 5=3):
  AH AE 38 #[ptB t,.agg #[.int .u8 k,.int .u8 c,.int .u8 p,.int .i16 a,.int .i8 x,.int .u8 u]] w λe w'=>rF w t v L ⟨2,aR c,aR p,a,aT x u⟩ e w':=by
 have aa:k.tmod 5=k % 5:=Cz hk;have a0:Bd.wrap a=a:=by rw[BQ];omega
 have Z:=AF (show AG w1.heap.size w1 w1.drew from(AL _ _).drew);have U:=AF C.pre;have J:=AF C.cel;have H:=AF C.cel2;have ay:=C.eq;have hB:=C.hB;have f0:=C.f0;have f1:=C.f1;have f3:=C.f3;have f4:=C.f4;have f5:=C.f5;have h2:=du hx hu;rw[h5]at aa;have V:=AF (show∀(w2:World)(cs:List Value),AG w1.heap.size w1 w2->bh w2 (.agg cs.toArray) (aT x u)->AH AE 93 #[ptB t,.string (aR c),stV a cs] w2 λe w'=>∃v' L' G,e= .returned (.int .i64 G)/\RPost w2 t v L w' v' L'/\SetS (xQ a (aT x u)) (trR L) (aR c) a (trR L') G from λw2 cs hb hi=>q_SetRP (p:=aT x u) (cs:=cs) (C.tm.below hb) hn hE hi h2);have HF:=AF (show∀R' G,SetS (xQ a (aT x u)) (trR L) (aR c) a R' G->DoS (trR L) ⟨2,aR c,aR p,a,aT x u⟩ R' G from λR' G hd=>by unfold DoS;exact hd);clear C hE hn h2 hk h5;go_enter Tryz.func38,Tryz.ntmps38
 go_wp2
 go_region_held3 (λw'=>w'.cell? ⟨B,1,none⟩=some (.int .u8 c)/\w'.cell? ⟨B,3,none⟩=some (.int .i16 a)/\w'.cell? ⟨B,4,none⟩=some (.int .i8 x)/\w'.cell? ⟨B,5,none⟩=some (.int .u8 u)) (first | assumption | exact⟨f1,f3,f4,f5⟩ | go_keep)
  (first
   | (go_at_call 39;with_reducible refine(fe c hc).mono ?_;rintro e w' ⟨rfl,ab⟩;obtain rfl:=ab.symm)
   | (go_at_call 86;refine(uQ x u hx hu).mono ?_;rintro e w2 ⟨v,rfl,hv,hb⟩;obtain⟨cs,rfl,K⟩:=hv;obtain⟨c0,c1,c2,c3,c4,c5,c6,c7,c8,c9,ad,ak,am,an,ao,ap,aq,ar,au,av,ax,rfl⟩:=uR (aB K);have I:=AF (Z.out.trans hb);have ac:=(Ba (H.out _ I.out 1 _ f1) (Ba (H.out _ I.out 3 _ f3) (Ba (H.out _ I.out 4 _ f4) (H.out _ I.out 5 _ f5))));have Y:=V.out _ _ I.out ⟨_,rfl,K⟩;clear K hb)
   | (go_at_call 93;refine Y.mono ?_;rintro e w3 ⟨v',L',G,rfl,P,hD⟩;have HS:=(Ba (J.out _ _ _ _ I.out P 1 _ f1) (Ba (J.out _ _ _ _ I.out P 3 _ f3) (Ba (J.out _ _ _ _ I.out P 4 _ f4) (J.out _ _ _ _ I.out P 5 _ f5))));have HQ:=AF (Ba (U.out _ _ _ _ I.out P) (HF.out _ _ hD));clear P hD))
 all_goals go_wp2
 all_goals go_ret
 all_goals exact⟨v',L',G,rfl,HQ.out.1,HQ.out.2⟩
set_option maxHeartbeats 2000000 in
theorem q_by3(C:ByC w w1 t B v L k c p a x u)(hE:TOk (trR L))(hn:L.length<=1000000)(hk:0<=k)(hc:0<=c/\c<256)(hp:0<=p/\p<256)(ha: -32768<=a/\a<32768)(hx: -128<=x/\x<128)(hu:0<=u/\u<256)(h5:k % 5=4):
  AH AE 38 #[ptB t,.agg #[.int .u8 k,.int .u8 c,.int .u8 p,.int .i16 a,.int .i8 x,.int .u8 u]] w λe w'=>rF w t v L ⟨3,aR c,aR p,a,aT x u⟩ e w':=by
 have aa:k.tmod 5=k % 5:=Cz hk;have a0:Bd.wrap a=a:=by rw[BQ];omega
 have Z:=AF (show AG w1.heap.size w1 w1.drew from(AL _ _).drew);have U:=AF C.pre;have J:=AF C.cel;have H:=AF C.cel2;have ay:=C.eq;have hB:=C.hB;have f0:=C.f0;have f1:=C.f1;have f4:=C.f4;have f5:=C.f5;have h2:=du hx hu;rw[h5]at aa;have P:=AF (show∀(w2:World)(cs:List Value),AG w1.heap.size w1 w2->bh w2 (.agg cs.toArray) (aT x u)->AH AE 94 #[ptB t,.string (aR c),.agg cs.toArray] w2 λe w'=>∃v' L' G,e= .returned (.int .i64 G)/\RPost w2 t v L w' v' L'/\FixS (decide (aT x u).good) (aT x u) (trR L) (aR c) (trR L') G from λw2 cs hb hi=>q_FixRP (p:=aT x u) (cs:=cs) (C.tm.below hb) hn hE hi h2);have HF:=AF (show∀R' G,FixS (decide (aT x u).good) (aT x u) (trR L) (aR c) R' G->DoS (trR L) ⟨3,aR c,aR p,a,aT x u⟩ R' G from λR' G hd=>by unfold DoS;exact hd);clear C hE hn h2 hk h5;go_enter Tryz.func38,Tryz.ntmps38
 go_wp2
 go_region_held3 (λw'=>w'.cell? ⟨B,1,none⟩=some (.int .u8 c)/\w'.cell? ⟨B,4,none⟩=some (.int .i8 x)/\w'.cell? ⟨B,5,none⟩=some (.int .u8 u)) (first | assumption | exact⟨f1,f4,f5⟩ | go_keep)
  (first
   | (go_at_call 39;with_reducible refine(fe c hc).mono ?_;rintro e w' ⟨rfl,ab⟩;obtain rfl:=ab.symm)
   | (go_at_call 86;refine(uQ x u hx hu).mono ?_;rintro e w2 ⟨v,rfl,hv,hb⟩;obtain⟨cs,rfl,K⟩:=hv;obtain⟨c0,c1,c2,c3,c4,c5,c6,c7,c8,c9,ad,ak,am,an,ao,ap,aq,ar,au,av,ax,rfl⟩:=uR (aB K);have I:=AF (Z.out.trans hb);have ac:=(Ba (H.out _ I.out 1 _ f1) (Ba (H.out _ I.out 4 _ f4) (H.out _ I.out 5 _ f5)));have Y:=P.out _ _ I.out ⟨_,rfl,K⟩;clear K hb)
   | (go_at_call 94;refine Y.mono ?_;rintro e w3 ⟨v',L',G,rfl,V,hD⟩;have HS:=(Ba (J.out _ _ _ _ I.out V 1 _ f1) (Ba (J.out _ _ _ _ I.out V 4 _ f4) (J.out _ _ _ _ I.out V 5 _ f5)));have HQ:=AF (Ba (U.out _ _ _ _ I.out V) (HF.out _ _ hD));clear V hD))
 all_goals go_wp2
 all_goals go_ret
 all_goals exact⟨v',L',G,rfl,HQ.out.1,HQ.out.2⟩
set_option maxHeartbeats 2000000 in
theorem q_by0(C:ByC w w1 t B v L k c p a x u)(hE:TOk (trR L))(hn:L.length<=1000000)(hk:0<=k)(hc:0<=c/\c<256)(hp:0<=p/\p<256)(ha: -32768<=a/\a<32768)(hx: -128<=x/\x<128)(hu:0<=u/\u<256)(k2:k % 5≠2)(k3:k % 5≠3)(k4:k % 5≠4):
  AH AE 38 #[ptB t,.agg #[.int .u8 k,.int .u8 c,.int .u8 p,.int .i16 a,.int .i8 x,.int .u8 u]] w λe w'=>rF w t v L ⟨0,aR c,aR p,a,aT x u⟩ e w':=by
 have Z:k.tmod 5=k % 5:=Cz hk;have ab:Bd.wrap a=a:=by rw[BQ];omega
 have I:=AF (show AG w1.heap.size w1 w1.drew from(AL _ _).drew);have K:=AF C.pre;have H:=AF C.cel;have V:=AF C.cel2;have aa:=C.eq;have hB:=C.hB;have f0:=C.f0;have f1:=C.f1;have f2:=C.f2;have f3:=C.f3;have h2:=du hx hu;obtain⟨r,hr⟩:∃r,k % 5=r:=⟨_,rfl⟩;rw[hr]at Z k2 k3 k4;have g2:(r==2)=false:=beq_eq_false_iff_ne.2 k2;have g3:(r==3)=false:=beq_eq_false_iff_ne.2 k3;have g4:(r==4)=false:=beq_eq_false_iff_ne.2 k4;have U:=q_AttachR C.tm.drew hE (aR c) (aR p) a (j6 c hc.1) (j6 p hp.1) hn;have HF:=AF (show∀Y G,AttS cj (trR L) (aR c) (aR p) a Y G->DoS (trR L) ⟨0,aR c,aR p,a,aT x u⟩ Y G from λY G hd=>by unfold DoS;exact hd);clear C hE hn h2 hk k2 k3 k4 hr;go_enter Tryz.func38,Tryz.ntmps38
 go_wp2
 go_region_held3 (λw'=>w'.cell? ⟨B,1,none⟩=some (.int .u8 c)/\w'.cell? ⟨B,2,none⟩=some (.int .u8 p)/\w'.cell? ⟨B,3,none⟩=some (.int .i16 a)) (first | assumption | exact⟨f1,f2,f3⟩ | go_keep)
  (first
   | (go_at_call 39;with_reducible refine(fe c hc).mono ?_;rintro e w' ⟨rfl,J⟩;obtain rfl:=J.symm)
   | (go_at_call 39;with_reducible refine(fe p hp).mono ?_;rintro e w' ⟨rfl,J⟩;obtain rfl:=J.symm)
   | (go_at_call 95;refine U.mono ?_;rintro e w3 ⟨v',L',G,rfl,P,hD⟩;have HS:=(Ba (H.out _ _ _ _ I.out P 1 _ f1) (Ba (H.out _ _ _ _ I.out P 2 _ f2) (H.out _ _ _ _ I.out P 3 _ f3)));have HQ:=AF (Ba (K.out _ _ _ _ I.out P) (HF.out _ _ hD));clear P hD))
 all_goals go_wp2
 all_goals go_ret
 all_goals exact⟨v',L',G,rfl,HQ.out.1,HQ.out.2⟩
theorem q_by{s:Stp}(h:RM w t v L)(G:TOk (trR L))(hn:L.length<=1000000)(hs:s.Ok):AH AE 38 #[ptB t,s.val] w λe w'=>rF w t v L (axOf s) e w':=by
 obtain⟨w1,B,C⟩:=by_c h s.k s.c s.p s.a s.x s.u;unfold axOf;by_cases k2:s.k % 5=2
 ·rw[if_pos k2];exact q_by1 C G hn hs.k.1 hs.c hs.p hs.a hs.x hs.u k2
 ·rw[if_neg k2];by_cases k3:s.k % 5=3
  ·rw[if_pos k3];exact q_by2 C G hn hs.k.1 hs.c hs.p hs.a hs.x hs.u k3
  ·rw[if_neg k3];by_cases k4:s.k % 5=4
   ·rw[if_pos k4];exact q_by3 C G hn hs.k.1 hs.c hs.p hs.a hs.x hs.u k4
   ·rw[if_neg k4];exact q_by0 C G hn hs.k.1 hs.c hs.p hs.a hs.x hs.u k2 k3 k4
end
end Go.Proofs.YtggfmklppkioeaaGreat
