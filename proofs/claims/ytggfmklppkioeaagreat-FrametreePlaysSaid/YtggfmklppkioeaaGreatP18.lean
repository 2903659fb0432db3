/- The reference's tree: Links, the walk. The links and frames of both trees are the same. FrametreePlays: a tree, whatever is done to it, does what the specification says. -/
import Derived.Test.YtggfmklppkioeaaGreatP17
import Derived.Deep.QuietTactic
namespace Go.Proofs.YtggfmklppkioeaaGreat
set_option linter.unusedSimpArgs false
set_option linter.unusedVariables false
set_option maxRecDepth 100000
open Go.RowKit
open _root_.Go.RowKit renaming Below → AG
open _root_.Go renaming Calls → AH,bodyPost_ret → A6,heap_alloc_new → BE,results_tmp → B9,run_loadAt_mid → Dv,run_storeAt_mid → Dw,wp_block → AY,wp_exit → CO,wp_seq → AP,wp_skip → Bm
open _root_.And renaming intro → Ba
open _root_.Go.RowKit.Below renaming refl → AL
open _root_.Go.IntKind renaming i64 → Bd,wrap_i64 → BQ
open _root_.Go.Lib renaming hid → AF
open _root_.List renaming getElem?_eq_getElem → AU,getElem?_map → BB,length_append → By,mem_of_getElem? → Bb,size_toArray → Cc
open _root_.Nat renaming le_refl → AK,lt_or_ge → Bl,zero_le → Bc
open _root_.Go.Proofs.Tryz renaming prog → AE,underlying162 → EV,underlying39 → C7
open _root_.Go.World renaming cell?_of_block → BM
section
open Classical
set_option maxHeartbeats 1000000 in
theorem q_LinksR{w:World}{t:Nat}{v:Value}{L:List Rl}(h:RM w t v L)(hn:L.length<=1000000)(hK:(trR L).Pairwise λp q=>¬(p.1=q.1/\p.2.fr=q.2.fr)):
  AH AE 104 #[ptB t] w λe w'=>∃v' M,e= .returned v'/\LRow w' v' M/\LnS (trR L) L.length M/\(∀g,v'.ownBlock=some g->w.heap.size<=g)/\AG w.heap.size w w':=by
 have HM:=AF (show∀wq,AG w.heap.size w wq->RM wq t v L from λwq k=>h.below k);have HK:=AF hK;obtain⟨ad,cp,hv⟩:=h.form;obtain⟨n,hN⟩:∃n,n=L.length:=⟨_,rfl⟩;have HN:=AF hN;rw[<-hN]at hv hn;subst hv;have d4:(n:Int)<=1000000:=Aa
 clear h hN hn hK;go_enter Tryz.func104,Tryz.ntmps104
 refine bW (n:=93) [(0,ptB t)] λC=> ?_
 have cm:=AF (show∀wq:World,(wq.alloc (.cells rG.toArray rlT)).there wq.heap.size 0 27 from λwq=>ie (BE wq (.cells rG.toArray rlT)));have ak:=AF (show∀u:List Value,u.length=27->(AE.info? rlT).map (·.size)=some u.toArray.size from λu hu=>by rw[Cc];exact eE hu);refine aO ?_
 repeat refine wS C λC=> ?_
 refine wle ?_;refine aO ?_
 repeat refine wS C λC=> ?_
 refine wle ?_;refine AP ?_;refine aO ?_
 repeat refine wS C λC=> ?_
 refine wle ?_;refine l9 (λa wr=>∃(k:Nat)(M:List Mk)(s3:Value),Kn 93 [(0,ptB t),(3,s3),(4,.int .i64 (k:Int))] a/\k<=n/\LRow wr s3 M/\(∀g,s3.ownBlock=some g->w.heap.size<=g)/\LnS (trR L) k M/\AG w.heap.size w wr) (λa _=>n - (intOf (a.tmps.getD 4 undef)).toNat) ⟨0,[],.slice none 0 0,C.ct,Bc _,.nil _,(λg hg=>by cases hg),⟨λq=>Ag,.nil,rfl⟩,AL _ _⟩ (λa wr hI=> ?_);obtain⟨k,M,s3,b8,d3,hW,hO,hF,hB⟩:=hI;have C:=b8;have c7:=(HM.out wr hB).cell;obtain⟨cu,bz,rfl⟩:=hW.form;obtain⟨m,hm⟩:∃m,M.length=m:=⟨_,rfl⟩;have ca:=hF.len;rw[hm]at ca;subst ca;rw[hm]at hW hO C;have HW:=AF hW;have HO:=AF hO;have HF:=AF hF;have HB:=AF hB;have HL:=AF hm;have ap:(intOf (a.tmps.getD 4 undef)).toNat=m:=by rw[C.getD (i:=4) rfl];simp[intOf]
 rw[ap];clear hW hO hF hB hm ap b8;refine AP ?_;refine aO ?_
 repeat refine wS C λC=> ?_
 refine wF C (ptB t) λC=> ?_
 refine wL C (.slice ad n cp) λC=> ?_
 refine wY C (.int .i64 n) (by have e:=C.at' 11 _ rfl;go_simp) λC=> ?_
 rcases Bl m n with c9 | d1
 ·have d2:(m:Int)<(n:Int):=Aa
  refine wB C (.bool true) λC=> ?_
  refine wle ?_;refine bu C rfl (Bm (thn ?_));obtain⟨l,hl⟩:∃l,L[m]? =some l:=⟨_,AU (by rw[<-HN.out];exact c9)⟩;obtain⟨b,c2,cs,e,A⟩:=(HM.out wr HB.out).at hl;injection e with e1 e2 e3;subst e1;subst e3;clear e2;have HX:=AF (fY hl);have J:=AF A.kc;have bq:=AF A.rg;have bt:=AF (eE A.len);have av:=BE wr (.cells cs.toArray rlT);have b4:AG w.heap.size w (wr.alloc (.cells cs.toArray rlT)):=HB.out.alloc HB.out.size _;obtain⟨v5,w5,ay,a6,b0,b2⟩:=LRow.app (m:=((l.c,l.x),cs)) (w:=wr.alloc (.cells cs.toArray rlT)) (v:=.slice cu m bz) (M:=M) (HW.out.keep (λg hg=>heap_alloc_old wr _ (ot HW.out.own.1 hg).2)) J.out (by rw[HL.out];omega) av b4 (by rw[asz];have:=HB.out.size;omega) HO.out;have U:(M++ [((l.c,l.x),cs)]).length=m+1:=by rw[By,HL.out];rfl
  obtain⟨G,I,rfl⟩:∃g cap,v5= .slice (some ⟨g,0,none⟩) (m+1) cap:=by
   rcases a6.own.1.2 with⟨_,h⟩ | ⟨g,cap,d0,e,_⟩
   ·rw[U]at h;cases h
   ·rw[U]at e;exact⟨g,cap,e⟩
  have a5:=AF a6;have bi:=AF b0;have aq:=AF b2;clear A hl av b4 a6 b0 b2 U;refine AP (AY ?_);refine aO ?_
  repeat refine wS C λC=> ?_
  refine wF C (ptB t) λC=> ?_
  refine wL C (.slice (some ⟨b,0,none⟩) n cp) λC=> ?_
  repeat refine wS C λC=> ?_
  refine wI C (.pointer (some ⟨b,m*27,none⟩)) λC=> ?_
  refine wL C (.agg cs.toArray) (hr:=Dv _ _ _ _ cs _ bq.out EV rfl bt.out) λC=> ?_
  refine wW C (.slice (some ⟨wr.heap.size,0,none⟩) 1 1) (wr.alloc (.cells cs.toArray rlT)) (oq C rfl rfl (pA J.out.len)) λC=> ?_
  refine wW C (.slice (some ⟨G,0,none⟩) (m+1) I) (w5) (rj C rfl rfl rfl ay) λC=> ?_
  repeat refine wS C λC=> ?_
  refine wle ?_;clear c7 bq ay bt;obtain⟨x,hx⟩:∃x:Nm×Lk,(l.c,l.x)=x:=⟨_,rfl⟩;rw[hx]at HX J a5;clear hx;have ea:Bd.wrap (m:Int)=(m:Int):=by rw[BQ];omega
  refine aO ?_
  repeat refine wS C λC=> ?_
  refine wY C (.int .i64 ((m+1:Nat):Int)) (by have e:=C.at' 26 _ rfl;go_simp) λC=> ?_
  refine wB C (.int .i64 (m:Int)) λC=> ?_
  repeat refine wS C λC=> ?_
  refine wle ?_;refine l9 (λa wq=>∃p:Nat,Kn 93 [(0,ptB t),(3,.slice (some ⟨G,0,none⟩) (m+1) I),(4,.int .i64 (m:Int)),(5,.int .i64 (p:Int))] a/\p<=m/\LRow wq (.slice (some ⟨G,0,none⟩) (m+1) I) (dv M (x,cs) p)/\(∀z∈M.drop p,KLt x z.1)/\AG w.heap.size w wq) (λa _=>(intOf (a.tmps.getD 5 undef)).toNat)
   ⟨m,C.ct,AK _,by rw[<-HL.out,xT,HL.out];exact a5.out,(λz hz=>by rw[<-HL.out,List.drop_length]at hz;cases hz),bi.out⟩ (λa wr hI=> ?_)
  obtain⟨p,C,hp,hR,hZ,hQ⟩:=hI;have ap:(intOf (a.tmps.getD 5 undef)).toNat=p:=by rw[C.getD (i:=5) rfl];simp[intOf]
  rw[ap];have HR:=AF hR;have HZ:=AF hZ;have HQ:=AF hQ;clear bi a5 HW HB hR hZ hQ ap;have HI:∀p (a:Act),Kn 93 [(0,ptB t),(3,.slice (some ⟨G,0,none⟩) (m+1) I),(4,.int .i64 (m:Int)),(5,.int .i64 ((p:Nat):Int))] a->(intOf (a.tmps.getD 5 undef)).toNat=p:=λp a C=>by rw[C.getD (i:=5) rfl];simp[intOf]
  cases p with
  | zero=>
   refine AP ?_;refine AP ?_;refine uT Ab Ab ?_
   repeat refine qSk C λC=> ?_
   refine qB C (.bool false) λC=> ?_
   repeat first | refine qSk C λC=> ?_ | refine qZk C λC=> ?_
   refine wqn (λw' V=> ?_);obtain⟨nq,rfl⟩:=V;refine aX C rfl (CO (thx (thx (ibx (ibn (thn ?_))))));have a2:=HF.out.add (x:=(x,cs)) HX.out (Bc _) HZ.out (λz hz=>by rw[List.take_zero]at hz;cases hz);refine bC ?_
   repeat refine wS C λC=> ?_
   refine wB C (.int .i64 ((m+1:Nat))) (hr:=rk Aa Aa Aa) λC=> ?_
   repeat refine wS C λC=> ?_
   refine wln (thn ⟨⟨m+1,dv M (x,cs) 0,_,C.ct,Aa,HR.out.keep (λg _=>rfl),aq.out,a2,aF HQ.out _⟩,by rw[C.getD (i:=4) rfl];simp only[intOf];omega⟩)
  | succ q=>
   have hq0:decide (0<((q+1:Nat):Int))=true:=decide_eq_true Aa;obtain⟨y,hy⟩:∃y,M[q]? =some y:=⟨_,AU (by rw[HL.out];omega)⟩;obtain⟨A,B,hA,eB,eS⟩:=insN_cut (x:=(x,cs)) hy;have Y:=HR.out;rw[eB]at Y;obtain⟨g,hg,r1⟩:=Y.at (k:=q+1) (m:=(x,cs)) (by rw[<-hA];simp);obtain rfl:G=g:=by injection hg with hg;injection hg with hg
   obtain⟨g,an,r0⟩:=Y.at (k:=q) (m:=y) (by rw[<-hA];simp);obtain rfl:G=g:=by injection an with an;injection an with an
   have ar:=Y.kc y Ag;have c4:wr.cell? ⟨G,(q+1)*27,none⟩=some (.string x.1):=r1 0 _ J.out.c0;have c5:wr.cell? ⟨G,(q+1)*27+2,none⟩=some (.int .i64 x.2.fr):=r1 2 _ J.out.c2;have cx:wr.cell? ⟨G,q*27,none⟩=some (.string y.1.1):=r0 0 _ ar.c0;have cz:wr.cell? ⟨G,q*27+2,none⟩=some (.int .i64 y.1.2.fr):=r0 2 _ ar.c2;have HY:=AF hy;have a3:=AF ar;have bp:=AF Y;have a1:=AF (Ba hA (Ba eS eB));have Z:=abd x.1 y.1.1;obtain⟨kb,b9⟩:∃kb,decide (KLt x y.1)=kb:=⟨_,rfl⟩;have ab:=AF b9;clear Y hy hA eB eS hg an r1 r0 ar b9;refine AP ?_;refine wp_seq_k (λK3 b1=> ?_);have HJ:∀(a:Act)(w':World),Kn 93 [(0,ptB t),(3,.slice (some ⟨G,0,none⟩) (m+1) I),(4,.int .i64 (m:Int)),(5,.int .i64 ((q+1:Nat):Int)),(72,.bool kb)] a->(∃n,w'=wr.drewN n)->K3 a w':=λa wx C ⟨nq,ew⟩=>by
    refine b1 _ _ ?_;have b6:∀j:Nat,wx.heap[j]? =wr.heap[j]? :=λj=>by rw[ew];rfl
    have cd:=bp.out.keep (w':=wx) (λg _=>b6 g);have cb:AG w.heap.size w wx:=by rw[ew];exact aF HQ.out _
    have ac:=AF cd;have a4:=AF cb;clear ew b6 cd cb c4 c5 cx cz Z HR bp HQ b1
    cases kb with
    | false=>
     have a2:=HF.out.add (x:=(x,cs)) HX.out (show q+1<=M.length by rw[HL.out];exact hp) HZ.out (xV (r:=λp q:Mk=>KLt p.1 q.1) (λ_ _ _=>KLt.trans) HF.out.srt HY.out (klt_or (HF.out.ne HX.out HK.out (Bb HY.out)) (of_decide_eq_false ab.out)));refine aX C rfl (CO (thx (thx (ibx (ibn (thn ?_))))));refine bC ?_
     repeat refine wS C λC=> ?_
     refine wB C (.int .i64 ((m+1:Nat))) (hr:=rk Aa Aa Aa) λC=> ?_
     repeat refine wS C λC=> ?_
     refine wln (thn ⟨⟨m+1,dv M (x,cs) (q+1),_,C.ct,Aa,by rw[a1.out.2.2];exact ac.out,aq.out,a2,a4.out⟩,by rw[C.getD (i:=4) rfl];simp only[intOf];omega⟩)
    | true=>
     have cr:=AF (show∀z∈M.drop q,KLt x z.1 from λz hz=>(abf HY.out hz).elim (λe=>e▸of_decide_eq_true ab.out) (HZ.out z));have c8:G<wx.heap.size:=(ot ac.out.own.1 rfl).2;have am:=a1.out.1;have i1:(A++y::(x,cs)::B)[q+1]? =some (x,cs):=by rw[<-am];simp
     have i0:(A++y::(x,cs)::B)[q]? =some y:=by rw[<-am];simp
     have b3:∀ {wq:World} {N:List Mk} {k:Nat} {z:Mk},LRow wq (.slice (some ⟨G,0,none⟩) (m+1) I) N->N[k]? =some z->wq.rangeAt G (k*27) z.2:=λH C=>by
      obtain⟨g',e,r⟩:=H.at C;injection e with e;injection e with e;subst e;exact r
     have ds:=b3 ac.out i1;obtain⟨aa,bb⟩:∃aa,wx.alloc (.cells rG.toArray rlT)=aa:=⟨_,rfl⟩;have c6:AG wx.heap.size wx aa:=by rw[<-bb];exact(AL _ _).alloc (AK _) _
     have a0:aa.there wx.heap.size 0 cs.length:=by rw[<-bb,J.out.len];exact cm.out wx
     obtain⟨K,be⟩:∃K,aa.setCells wx.heap.size 0 cs=K:=⟨_,rfl⟩;have b5:AG wx.heap.size wx K:=by rw[<-be];exact bQ cs 0 _ c6 (AK _)
     have dq:K.rangeAt wx.heap.size 0 cs:=by rw[<-be];exact World.rangeAt_setCells_same _ _ _ _ a0
     have a9:=ac.out.keep (w':=K) (λg hg=>b5.block g (ot ac.out.own.1 hg).2);have dT:=b3 a9 i0;have da:=a9.there i1;obtain⟨P,au⟩:∃P,K.setCells G ((q+1)*27) y.2=P:=⟨_,rfl⟩;have cc:=(show LRow K (.slice (some ⟨G,0,none⟩) (m+1) I) ((A++ [y])++(x,cs)::B)by simpa using a9).set (m:=y) (k:=q+1) a3.out (by rw[By,am];rfl);rw[au]at cc;have ax:LRow P (.slice (some ⟨G,0,none⟩) (m+1) I) (A++y::(y::B)):=by simpa using cc
     have dr:P.rangeAt wx.heap.size 0 cs:=λj v hv=>(BM (w:=K) (w':=P) (by rw[<-au];exact(cS y.2 K G _).block _ (Nat.ne_of_gt c8))).trans (dq j v hv)
     have db:=ax.there (k:=q) (m:=y) (by rw[<-am];simp);have cq:=ax.set (m:=(x,cs)) (k:=q) J.out am.symm;have cl:AG w.heap.size w (P.setCells G (q*27) cs):=bQ _ _ _ (by rw[<-au];exact bQ _ _ _ (a4.out.trans (b5.mono a4.out.size)) (aq.out _ rfl)) (aq.out _ rfl);have ao:=J.out.len;have a7:=a3.out.len;refine bu C rfl (Bm (thn ?_));refine AP (AY ?_);refine aO ?_
     repeat refine wS C λC=> ?_
     refine wI C (.pointer (some ⟨G,(q+1)*27,none⟩)) (hr:=kK (k:=q+1) rfl Aa Aa) λC=> ?_
     refine wL C (.agg cs.toArray) (hr:=Dv _ _ _ _ cs _ ds EV rfl (eE ao)) λC=> ?_
     refine wW C (.pointer (some ⟨wx.heap.size,0,none⟩)) (aa) (tj rfl (by subst bb;go_simp;try rfl)) λC=> ?_
     refine wT C (K) (hr:=by rw[<-be];exact Dw _ _ _ _ cs.toArray (by simpa using a0) (ak.out cs ao) J.out.one) λC=> ?_
     refine wle ?_;refine aO ?_
     repeat refine wS C λC=> ?_
     refine wB C (.int .i64 (q)) (hr:=fV Aa Aa Aa) λC=> ?_
     refine wI C (.pointer (some ⟨G,q*27,none⟩)) (hr:=kK (k:=q) rfl Aa Aa) λC=> ?_
     refine wL C (.agg y.2.toArray) (hr:=Dv _ _ _ _ y.2 _ dT EV rfl (eE a7)) λC=> ?_
     refine wI C (.pointer (some ⟨G,(q+1)*27,none⟩)) (hr:=kK (k:=q+1) rfl Aa Aa) λC=> ?_
     refine wT C (P) (hr:=by rw[<-au];exact Dw _ _ _ _ y.2.toArray (by rw[Cc,a7];exact da) (ak.out y.2 a7) a3.out.one) λC=> ?_
     refine wle ?_;refine bC ?_
     repeat refine wS C λC=> ?_
     refine wB C (.int .i64 (q)) (hr:=fV Aa Aa Aa) λC=> ?_
     refine wL C (.agg cs.toArray) (hr:=Dv _ _ _ _ cs _ dr EV rfl (eE ao)) λC=> ?_
     refine wI C (.pointer (some ⟨G,q*27,none⟩)) (hr:=kK (k:=q) rfl Aa Aa) λC=> ?_
     refine wT C (P.setCells G (q*27) cs) (hr:=Dw _ _ _ _ cs.toArray (by rw[Cc,ao];exact db) (ak.out cs ao) J.out.one) λC=> ?_
     refine wln (ibn (thn ?_));refine bC ?_
     repeat refine wS C λC=> ?_
     refine wB C (.int .i64 (q)) (hr:=fV Aa Aa Aa) λC=> ?_
     repeat refine wS C λC=> ?_
     refine wln ⟨⟨q,C.ct,Aa,by rw[a1.out.2.1];exact cq,cr.out,cl⟩,by rw[C.getD (i:=5) rfl];simp only[intOf];omega⟩
   have hq1:(q:Int)+1 - 1=(q:Int):=Aa
   by_cases m2:eF x.1 y.1.1
   ·rw[decide_eq_true m2]at Z;obtain rfl:true=kb:=by rw[<-ab.out];exact(decide_eq_true (.inl m2)).symm
    refine uT Ab Ab ?_
    repeat refine qSk C λC=> ?_
    refine qB C (.bool true) (hr:=λw=>rl hq0) λC=> ?_
    repeat refine qSk C λC=> ?_
    repeat refine qSk C λC=> ?_
    refine qI C (.pointer (some ⟨G,(q+1)*27,none⟩)) (hr:=λw=>kK (k:=q+1) rfl Aa Aa) λC=> ?_
    refine qF C (.pointer (some ⟨G,(q+1)*27,none⟩)) λC=> ?_
    refine qL C (.string x.1) λC=> ?_
    repeat refine qSk C λC=> ?_
    refine qB C (.int .i64 (q:Int)) (hr:=λw=>fV Aa Aa Aa) λC=> ?_
    refine qI C (.pointer (some ⟨G,q*27,none⟩)) (hr:=λw=>kK (k:=q) rfl Aa Aa) λC=> ?_
    refine qF C (.pointer (some ⟨G,q*27,none⟩)) λC=> ?_
    refine qL C (.string y.1.1) λC=> ?_
    refine qB C (.bool true) (hr:=λw=>by have:=Z;go_simp) λC=> ?_
    repeat first | refine qSk C λC=> ?_ | refine qZk C λC=> ?_
    refine wqn (λw' V=> ?_);exact HJ _ _ (C.ct) V
   ·rw[decide_eq_false m2]at Z;by_cases m3:x.1=y.1.1
    ·have q3:=nj m3;obtain⟨fb,b7⟩:∃fb,decide (x.2.fr<y.1.2.fr)=fb:=⟨_,rfl⟩;obtain rfl:fb=kb:=by
      rw[<-ab.out,<-b7];exact decide_eq_decide.2 ⟨λh=>.inr ⟨m3,h⟩,λh=>h.elim (λh=>absurd h m2) (λh=>h.2)⟩
     clear m2 m3;refine uT Ab Ab ?_
     repeat refine qSk C λC=> ?_
     refine qB C (.bool true) (hr:=λw=>rl hq0) λC=> ?_
     repeat refine qSk C λC=> ?_
     repeat refine qSk C λC=> ?_
     refine qI C (.pointer (some ⟨G,(q+1)*27,none⟩)) (hr:=λw=>kK (k:=q+1) rfl Aa Aa) λC=> ?_
     refine qF C (.pointer (some ⟨G,(q+1)*27,none⟩)) λC=> ?_
     refine qL C (.string x.1) λC=> ?_
     repeat refine qSk C λC=> ?_
     refine qB C (.int .i64 (q:Int)) (hr:=λw=>fV Aa Aa Aa) λC=> ?_
     refine qI C (.pointer (some ⟨G,q*27,none⟩)) (hr:=λw=>kK (k:=q) rfl Aa Aa) λC=> ?_
     refine qF C (.pointer (some ⟨G,q*27,none⟩)) λC=> ?_
     refine qL C (.string y.1.1) λC=> ?_
     refine qB C (.bool false) (hr:=λw=>by have:=Z;go_simp) λC=> ?_
     repeat refine qSk C λC=> ?_
     repeat refine qSk C λC=> ?_
     refine qI C (.pointer (some ⟨G,(q+1)*27,none⟩)) (hr:=λw=>kK (k:=q+1) rfl Aa Aa) λC=> ?_
     refine qF C (.pointer (some ⟨G,(q+1)*27,none⟩)) λC=> ?_
     refine qL C (.string x.1) λC=> ?_
     repeat refine qSk C λC=> ?_
     refine qB C (.int .i64 (q:Int)) (hr:=λw=>fV Aa Aa Aa) λC=> ?_
     refine qI C (.pointer (some ⟨G,q*27,none⟩)) (hr:=λw=>kK (k:=q) rfl Aa Aa) λC=> ?_
     refine qF C (.pointer (some ⟨G,q*27,none⟩)) λC=> ?_
     refine qL C (.string y.1.1) λC=> ?_
     refine qB C (.bool true) (hr:=λw=>by have:=q3;go_simp) λC=> ?_
     repeat refine qSk C λC=> ?_
     repeat refine qSk C λC=> ?_
     refine qI C (.pointer (some ⟨G,(q+1)*27,none⟩)) (hr:=λw=>kK (k:=q+1) rfl Aa Aa) λC=> ?_
     refine qF C (.pointer (some ⟨G,(q+1)*27+2,none⟩)) λC=> ?_
     refine qL C (.int .i64 x.2.fr) λC=> ?_
     repeat refine qSk C λC=> ?_
     refine qB C (.int .i64 (q:Int)) (hr:=λw=>fV Aa Aa Aa) λC=> ?_
     refine qI C (.pointer (some ⟨G,q*27,none⟩)) (hr:=λw=>kK (k:=q) rfl Aa Aa) λC=> ?_
     refine qF C (.pointer (some ⟨G,q*27+2,none⟩)) λC=> ?_
     refine qL C (.int .i64 y.1.2.fr) λC=> ?_
     refine qB C (.bool fb) (hr:=λw=>zV b7) λC=> ?_
     repeat refine qSk C λC=> ?_
     refine wqn (λw' V=> ?_);exact HJ _ _ (C.ct) V
    ·have q3:=kO m3;obtain rfl:false=kb:=by rw[<-ab.out];exact(decide_eq_false (λh=>h.elim m2 (λh=>m3 h.1))).symm
     refine uT Ab Ab ?_
     repeat refine qSk C λC=> ?_
     refine qB C (.bool true) (hr:=λw=>rl hq0) λC=> ?_
     repeat refine qSk C λC=> ?_
     repeat refine qSk C λC=> ?_
     refine qI C (.pointer (some ⟨G,(q+1)*27,none⟩)) (hr:=λw=>kK (k:=q+1) rfl Aa Aa) λC=> ?_
     refine qF C (.pointer (some ⟨G,(q+1)*27,none⟩)) λC=> ?_
     refine qL C (.string x.1) λC=> ?_
     repeat refine qSk C λC=> ?_
     refine qB C (.int .i64 (q:Int)) (hr:=λw=>fV Aa Aa Aa) λC=> ?_
     refine qI C (.pointer (some ⟨G,q*27,none⟩)) (hr:=λw=>kK (k:=q) rfl Aa Aa) λC=> ?_
     refine qF C (.pointer (some ⟨G,q*27,none⟩)) λC=> ?_
     refine qL C (.string y.1.1) λC=> ?_
     refine qB C (.bool false) (hr:=λw=>by have:=Z;go_simp) λC=> ?_
     repeat refine qSk C λC=> ?_
     repeat refine qSk C λC=> ?_
     refine qI C (.pointer (some ⟨G,(q+1)*27,none⟩)) (hr:=λw=>kK (k:=q+1) rfl Aa Aa) λC=> ?_
     refine qF C (.pointer (some ⟨G,(q+1)*27,none⟩)) λC=> ?_
     refine qL C (.string x.1) λC=> ?_
     repeat refine qSk C λC=> ?_
     refine qB C (.int .i64 (q:Int)) (hr:=λw=>fV Aa Aa Aa) λC=> ?_
     refine qI C (.pointer (some ⟨G,q*27,none⟩)) (hr:=λw=>kK (k:=q) rfl Aa Aa) λC=> ?_
     refine qF C (.pointer (some ⟨G,q*27,none⟩)) λC=> ?_
     refine qL C (.string y.1.1) λC=> ?_
     refine qB C (.bool false) (hr:=λw=>by have:=q3;go_simp) λC=> ?_
     repeat first | refine qSk C λC=> ?_ | refine qZk C λC=> ?_
     refine wqn (λw' V=> ?_);exact HJ _ _ (C.ct) V
 ·obtain rfl:m=n:=Aa
  refine wB C (.bool false) λC=> ?_
  refine wle ?_;refine aX C rfl (CO (thx (thx (ibx (thn ?_)))));refine aO ?_
  repeat refine wS C λC=> ?_
  refine wle ?_;refine wp_ret ?_
  repeat first | refine ck ?_ | refine cN ?_
  refine A6 (B9 rfl _ _ _) C.df ?_;rw[C.getD (i:=2) rfl];exact⟨_,M,rfl,HW.out,by rw[<-HN.out];exact HF.out,HO.out,HB.out⟩
end
section
open Classical
theorem iv{w w':World}{g j:Nat}{u:Value}(h:w.cell? ⟨g,j,none⟩=some u)(k:AG w.heap.size w w'):w'.cell? ⟨g,j,none⟩=some u:=by
 rw[k.cell (p:=⟨g,j,none⟩) (World.block_lt_of_cell? w _ h)];exact h
set_option maxHeartbeats 4000000 in
theorem q_same{w:World}{t m tb:Nat}{E:List Ch}{v:Value}{L:List Rl}(hT:TM w t m E)(hE:Sane (trE E))(hM:RM w tb v L)(hR:TOk (trR L))(hn:L.length<=1000000)(hq:REq (trE E) (trR L)):
  AH AE 47 #[ptB t,ptB tb] w λe w'=>e= .returned (.bool true)/\AG w.heap.size w w':=by
 have a7:=q_Links hT hE;have Z:∀w2,AG w.heap.size w w2->AH AE 104 #[ptB tb] w2 λe w'=>∃v' M,e= .returned v'/\LRow w' v' M/\LnS (trR L) L.length M/\(∀g,v'.ownBlock=some g->w2.heap.size<=g)/\AG w2.heap.size w2 w':=λw2 k=>q_LinksR (hM.below k) hn hR.keys
 have V:∀w2,AG w.heap.size w w2->AH AE 33 #[ptB t] w2 λe w'=>∃v L,e= .returned v/\gB w' w2.heap.size v L/\(∀x,x∈L↔aM (trE E) x)/\L.Nodup/\L.Pairwise o0/\(v= .slice none 0 0↔L=[])/\L.length<=24/\AG w2.heap.size w2 w':=λw2 k=>q_Frames (hT.below k) hE.sm (λx hx=>hE.short hx)
 have U:∀w2,AG w.heap.size w w2->AH AE 105 #[ptB tb] w2 λe w'=>∃v' l,e= .returned v'/\SRow w' v' l/\(∀g,v'.ownBlock=some g->w2.heap.size<=g)/\(∀x,x∈l↔aM (trR L) x)/\l.Pairwise eF/\AG w2.heap.size w2 w':=λw2 k=>tA (hM.below k) hn
 have ac:=a7.mono (show∀e w',_->∃I n cap,∃Ls:List Nm,e= .returned (.slice I n cap)/\Hid (iV w' (.slice I n cap) (cC (trE E) Ls)/\n=(cC (trE E) Ls).length/\(∀M,LnS (trR L) L.length M->M.map (·.1)=cC (trE E) Ls)/\AG w.heap.size w w')from by
  rintro e w' ⟨v,Ls,rfl,h1,h2,h3,h4,_,h5⟩;obtain⟨I,cap,rfl⟩:=dW h1.1;exact⟨I,_,cap,Ls,rfl,AF ⟨h1,rfl,λM hM=>links_eq hE.ok hq h2 h3 h4 (by rw[np];exact hM),h5⟩⟩)
 have au:=AF (show∀x,aM (trE E) x↔aM (trR L) x from λx=>hq.known x);have ax:=AF (show L.length<=1000000 from hn);have Z:=AF Z;have V:=AF V;have U:=AF U;clear a7 hT hE hM hR hn hq;go_enter Tryz.func47,Tryz.ntmps47
 go_upto_region 2 with(first
  | (go_at_call 35;refine ac.mono ?_;rintro e w2 ⟨I,n,cp,Ls,rfl,Y⟩;have a9:=Z.out w2 Y.out.2.2.2;clear ac)
  | (go_at_call 104;refine a9.mono ?_;rintro e w3 ⟨v3,M,rfl,h1,h2,_,h4⟩;have ab:=congrArg List.length (Y.out.2.2.1 M h2);obtain⟨bi,b4,rfl⟩:=h1.form;rw[List.length_map,<-Y.out.2.1]at ab;have H:=AF (Ba h1 (Ba h2 h4));rw[ab];clear a9 h1 h2 h4))
 have am:AG w.heap.size w w3:=Y.out.2.2.2.trans (H.out.2.2.mono Y.out.2.2.2.size);have P:=AF am;have ca:(n:Int)<=1000000:=by
  have:=H.out.2.1.len;have:=ax.out;omega
 have av:=AF (show∀i,i<n->∃(q:Nm×Lk)(g g3:Nat),I=some ⟨g,0,none⟩/\bi=some ⟨g3,0,none⟩/\w3.cell? ⟨g,i*4,none⟩=some (.string q.1)/\w3.cell? ⟨g,i*4+1,none⟩=some (.string q.2.par)/\w3.cell? ⟨g,i*4+2,none⟩=some (.int .i64 q.2.fr)/\w3.cell? ⟨g,i*4+3,none⟩=some (.int .i64 q.2.un)/\
   w3.cell? ⟨g3,i*27,none⟩=some (.string q.1)/\w3.cell? ⟨g3,i*27+1,none⟩=some (.string q.2.par)/\w3.cell? ⟨g3,i*27+2,none⟩=some (.int .i64 q.2.fr)/\w3.cell? ⟨g3,i*27+3,none⟩=some (.int .i64 q.2.un)from λi hi=>by
  obtain⟨q,hq⟩:∃q,M[i]? =some q:=⟨_,AU (by rw[ab];exact hi)⟩;have bt:(cC (trE E) Ls)[i]? =some q.1:=by rw[<-Y.out.2.2.1 M H.out.2.1,BB,hq];rfl
  obtain⟨g3,e3,r3⟩:=H.out.1.at hq;have k:=H.out.1.kc q (Bb hq);have h1:=Y.out.1.1;rw[<-Y.out.2.1]at h1;have hc:∀j u,(iU q.1)[j]? =some u->∃g,I=some ⟨g,0,none⟩/\w2.cell? ⟨g,i*4+j,none⟩=some u:=λj u hu=>dD h1 (by rw[flat4 bt (by have:=(List.getElem?_eq_some_iff.1 hu).1;exact this)];exact hu)
  obtain⟨g,e,c0⟩:=hc 0 _ rfl;have aa:∀j u,(iU q.1)[j]? =some u->w3.cell? ⟨g,i*4+j,none⟩=some u:=λj u hu=>by
   obtain⟨g',e',c⟩:=hc j u hu;rw[e]at e';injection e' with e';injection e' with e';subst e';exact iv c H.out.2.2
  exact⟨q.1,g,g3,e,e3,aa 0 _ rfl,aa 1 _ rfl,aa 2 _ rfl,aa 3 _ rfl,r3 0 _ k.c0,r3 1 _ k.c1,r3 2 _ k.c2,r3 3 _ k.c3⟩)
 have a5:=(V.out w3 am).mono (show∀e w',_->∃I n cap,∃F:List Nm,e= .returned (.slice I n cap)/\Hid (gB w' w3.heap.size (.slice I n cap) F/\n=F.length/\n<=24/\(∀l,(∀x,x∈l↔aM (trR L) x)->l.Pairwise eF->l=F)/\AG w3.heap.size w3 w')from by
  rintro e w' ⟨v,F,rfl,h1,h2,h3,h4,_,h5,h6⟩;obtain⟨I,cap,rfl⟩:=dW h1;exact⟨I,_,cap,F,rfl,AF ⟨h1,rfl,h5,λl k1 k2=>mc (r:=eF) (λ_ _ _=>List.lt_trans) (λ_=>List.lt_irrefl _) k2 (x6 h4 h3) (λx=>(k1 x).trans ((au.out x).symm.trans (h2 x).symm)),h6⟩⟩)
 clear Y H Z V ab am
 go_upto_region 3 with(first
  | (go_at_call 33;refine a5.mono ?_;rintro e w4 ⟨bq,nf,b6,Fs,rfl,J⟩;have an:=P.out.trans (J.out.2.2.2.2.mono P.out.size);have a4:=U.out w4 an;have bz:=AF an;clear a5 an)
  | (go_at_call 105;refine a4.mono ?_;rintro e K ⟨v5,l5,rfl,h1,_,h3,h4,h5⟩;obtain rfl:=J.out.2.2.2.1 l5 h3 h4;obtain⟨bp,b5,rfl⟩:=dW h1.1;rw[<-J.out.2.1];have HG:=AF (Ba h1 h5);clear a4 h1 h3 h4 h5))
 have ao:=HG.out.2;have ak:AG w3.heap.size w3 K:=J.out.2.2.2.2.trans (ao.mono J.out.2.2.2.2.size);have ar:=AF (show AG w.heap.size w K from P.out.trans (ak.mono P.out.size));have G:=AF (show∀wq,AG K.heap.size K wq->∀(g j:Nat)(u:Value),w3.cell? ⟨g,j,none⟩=some u->wq.cell? ⟨g,j,none⟩=some u from λwq k g j u h=>iv (iv h ak) k);have b9:(nf:Int)<=24:=by have:=J.out.2.2.1;omega
 have be:=AF (show∀i,i<nf->∃(c:Nm)(g g5:Nat),bq=some ⟨g,0,none⟩/\bp=some ⟨g5,0,none⟩/\K.cell? ⟨g,i,none⟩=some (.string c)/\K.cell? ⟨g5,i,none⟩=some (.string c)from λi hi=>by
  obtain⟨c,hc⟩:∃c,l5[i]? =some c:=⟨_,AU (by rw[<-J.out.2.1];exact hi)⟩;have ay:(l5.map Value.string)[i]? =some (.string c):=by rw[BB,hc];rfl
  have h1:=J.out.1;unfold gB at h1;rw[<-J.out.2.1]at h1;obtain⟨g,e,k1⟩:=dD h1 ay;obtain⟨g5,e5,k5⟩:=dD HG.out.1.1 ay;exact⟨c,g,g5,e,e5,iv k1 ao,k5⟩)
 clear J HG U ao ak au ax;go_wp2;go_loopw [9] (λs9 wr=>∃k:Nat,k<=n/\s9= .int .i64 (k:Int)/\Hid (AG K.heap.size K wr)) (λs9 _=>n - (intOf s9).toNat)
 case atStart=>exact⟨0,Bc _,rfl,AF (AL _ _)⟩
 case round=>
  obtain⟨k,hk,rfl,C⟩:=hrel;rcases Bl k n with ap | a6
  ·have b8:(k:Int)<(n:Int):=Aa
   obtain⟨q,g,g3,rfl,rfl,a0,a1,a2,a3,b0,b1,b2,b3⟩:=av.out k ap
   replace a0:=G.out wr C.out _ _ _ a0
   replace a1:=G.out wr C.out _ _ _ a1
   replace a2:=G.out wr C.out _ _ _ a2
   replace a3:=G.out wr C.out _ _ _ a3
   replace b0:=G.out wr C.out _ _ _ b0
   replace b1:=G.out wr C.out _ _ _ b1
   replace b2:=G.out wr C.out _ _ _ b2
   replace b3:=G.out wr C.out _ _ _ b3
   generalize q.1=qc at *;generalize q.2.par=qp at *;generalize q.2.fr=qf at *;generalize q.2.un=qu at *;go_upto_region 8 with(fail)
   go_quiet (fail)
   go_wp2;go_roundw
   case rel=>exact⟨k+1,Aa,by go_num,AF (aF C.out _)⟩
   case measure=>simp[intOf];omega
  ·obtain rfl:k=n:=Aa
   have bb:=C;clear av a6 hk;go_wp2;go_loopw [10] (λaq wr=>∃j:Nat,j<=nf/\aq= .int .i64 (j:Int)/\Hid (AG K.heap.size K wr)) (λaq _=>nf - (intOf aq).toNat)
   case atStart=>exact⟨0,Bc _,rfl,C⟩
   case round=>
    clear C bb;obtain⟨j,hj,rfl,C⟩:=hrel;rcases Bl j nf with ap | a6
    ·have b7:(j:Int)<(nf:Int):=Aa
     obtain⟨c,g,g5,rfl,rfl,a0,b0⟩:=be.out j ap
     replace a0:=iv a0 C.out
     replace b0:=iv b0 C.out
     go_upto_region 13 with(fail)
     go_quiet (fail)
     go_wp2;go_roundw
     case rel=>exact⟨j+1,Aa,by go_num,AF (aF C.out _)⟩
     case measure=>simp[intOf];omega
    ·obtain rfl:j=nf:=Aa
     go_wp2;go_ret;exact⟨rfl,ar.out.trans (C.out.mono ar.out.size)⟩
end
section
open Classical
theorem edge_okE{R:Tr}(C:TOk R){c:Nm}{a:Int}(h:(dA R c a).2=0):(dA R c a).1.ok 100000000:=by
 unfold dA at h⊢
 cases ht:tAt R c a with
 | none=>rw[ht]at h;cases h
 | some x=>
  obtain⟨G,_⟩:=pq ht;rw[ht]at h;simp only at h⊢
  cases hs:x.st with
  | true=>rw[if_pos rfl];exact((C.pose _ G hs).2).mono th
  | false=>
   rw[hs,if_neg Ag]at h;rw[if_neg Ag];obtain⟨z,y,I,H⟩:=road (C.good _ G) a;have e:=H.trkP;rw[show(c,x).snd.tr=x.tr from rfl]at e;rw[e]at h⊢;simp only at h⊢;subst h;exact(atP_zy (C.good _ G) H).2.mono th
variable{w:World}
theorem ia_St{b o n c k:Nat}(C:k<n)(hn:n<=1000000000):(Instr.indexAt 62 (.slice (some ⟨b,o,none⟩) n c) (.int .i64 (k:Int))).run AE w= .ok (.pointer (some ⟨b,o+k*6,none⟩)) w:=by
 have h1:(k:Int)<(n:Int):=Aa
 clear C hn;go_simp
theorem ov{a:Int}(ha: -32768<=a/\a<32768):(convert 49 3 (.int .i16 a)).run AE w= .ok (.int .i64 a) w:=by
 have h1:Bd.wrap a=a:=by rw[BQ];omega
 clear ha;go_simp
theorem bi_rem2{k:Nat}{X Y:Operand}:(do eqGuard .rem 3 X Y (.int .i64 (k:Int)) (.int .i64 2);binOp .rem 3 (.int .i64 (k:Int)) (.int .i64 2):Sem Value).run AE w= .ok (.int .i64 ((k % 2:Nat):Int)) w:=by
 have C:(k:Int).tmod 2=((k % 2:Nat):Int):=by rw[Int.tmod_eq_emod_of_nonneg Aa];omega
 go_simp
theorem PB.rg{w0 W:World}{B:Nat}{vs:List Value}(h:PB w0 W B vs){w':World}(k:AG W.heap.size W w'):w'.rangeAt B 0 vs:=λj v hv=>by
 rw[k.cell (p:=⟨B,_,none⟩) (Array.getElem?_eq_some_iff.1 h.blk).1,aE h.blk,Nat.zero_add];simpa using hv
set_option maxHeartbeats 2000000 in
theorem q_Plays{v0:Value}(R0:List Stp)(fr H:Int)(hf:0<=fr/\fr<256)(ha: -32768<=H/\H<32768)(db:∀s∈R0,s.Ok)(k0:ma w v0 R0):
  AH AE 7 #[v0,.int .u8 fr,.int .i16 H] w λe w'=>e= .returned (.bool true)/\AG w.heap.size w w':=by
 obtain⟨b5,c0,rfl,hr0⟩:=k0.row;have eb:=AF hr0;have ea:=AF db;obtain⟨Y,a2⟩:∃n,n=R0.length:=⟨_,rfl⟩;rw[<-a2];have d4:=AF a2;clear hr0 db k0 a2;go_enter Tryz.func7,Tryz.ntmps7
 refine bW (n:=183) [(0,.slice b5 Y c0),(1,.int .u8 fr),(2,.int .i16 H)] λC=> ?_
 refine aO ?_
 repeat refine wS C λC=> ?_
 refine wle ?_;refine AP ?_;refine aO ?_
 repeat refine wS C λC=> ?_
 refine wY C (.int .i64 Y) (by have e:=C.at' 25 _ rfl;go_simp) λC=> ?_
 by_cases b0:40<Y
 ·refine wB C (.bool true) (hr:=rl (decide_eq_true Aa)) λC=> ?_
  refine wle ?_;refine bu C rfl ?_;refine aO ?_;refine wC C (ai Tryz.func30 rfl rfl) (abc w) λ{e w1} G=> ?_
  obtain⟨rfl,hb⟩:=G;refine⟨_,rfl,λ_ C=> ?_⟩
  repeat refine wS C λC=> ?_
  refine wle ?_;refine wp_ret ?_
  repeat first | refine ck ?_ | refine cN ?_
  refine A6 (B9 rfl _ _ _) C.df ?_;rw[C.getD (i:=6) rfl];exact⟨rfl,hb⟩
 refine wB C (.bool false) (hr:=rl (decide_eq_false Aa)) λC=> ?_
 refine wle ?_;refine aX C rfl (Bm (thn ?_));refine aO ?_;refine wC C (ai Tryz.func31 rfl rfl) (q_New w) λ{e w1} G=> ?_
 obtain⟨t,m,rfl,hT,h1,h2,h3⟩:=G;have b8:=TInv.new hT h1 h2 h3;refine⟨_,rfl,λ_ C=> ?_⟩;refine wC C (ai Tryz.func37 rfl rfl) (q_rNew w1) λ{e w2} G=> ?_
 obtain⟨rfl,cu⟩:=G;refine⟨_,rfl,λ_ C=> ?_⟩;refine wW C (.pointer (some ⟨w2.heap.size,0,none⟩)) (w2.alloc (.cells #[.slice none 0 0] rrT)) (tj rfl (by go_simp;try rfl)) λC=> ?_
 repeat refine wS C λC=> ?_
 have hz:=BE w2 (.cells #[.slice none 0 0] rrT);have dr:(w2.alloc (.cells #[.slice none 0 0] rrT)).there w2.heap.size 0 1:=ie hz;have bt:=dH [.slice none 0 0] _ w2.heap.size 0 _ _ hz;rw[iT rfl]at bt;refine wT C ((w2.alloc (.cells #[.slice none 0 0] rrT)).setCells w2.heap.size 0 [.slice none 0 0]) (hr:=Dw _ _ _ _ #[.slice none 0 0] dr Ab Ab) λC=> ?_
 refine wle ?_;have c5:AG w2.heap.size w2 ((w2.alloc (.cells #[.slice none 0 0] rrT)).setCells w2.heap.size 0 [.slice none 0 0]):=bQ _ 0 _ ((AL _ _).alloc (AK _) _) (AK _);generalize (w2.alloc (.cells #[.slice none 0 0] rrT)).setCells w2.heap.size 0 [.slice none 0 0]=w3 at *;have au:=b8.below cu;have bz:∀g∈fpR w2.heap.size (.slice none 0 0) [],g=w2.heap.size:=λg hg=>by simpa [fpR,Value.ownBlock]using hg
 have cc:PI w w3 t m w2.heap.size [] (.slice none 0 0) [] 0:=⟨au.below c5,RM.new bt,λg hg=>by rw[bz g hg];exact au.bel.size,λg hg hm=>by have:=au.tm.lt g hm;rw[bz g hg]at this;omega,.nil,.refl _,Bc _⟩;generalize w2.heap.size=tb at *;clear au bz c5 bt dr hz b8 hT h1 h2 h3 cu;refine AP ?_;refine aO ?_
 repeat refine wS C λC=> ?_
 refine wB C (.bool false) λC=> ?_
 refine wle ?_;refine aX C rfl (Bm (thn ?_));refine AP ?_;refine aO ?_
 repeat refine wS C λC=> ?_
 refine wle ?_;refine l9 (λa wr=>∃(k:Nat)(E:List Ch)(v:Value)(L:List Rl),Kn 183 [(0,.slice b5 Y c0),(1,.int .u8 fr),(2,.int .i16 H),(7,ptB t),(8,ptB tb),(9,.int .i64 (k:Int))] a/\k<=Y/\PI w wr t m tb E v L k) (λa _=>Y - (intOf (a.tmps.getD 9 undef)).toNat)
  ⟨0,[],_,[],C.ct,Bc _,cc⟩ (λa wr hI=> ?_)
 clear cc C;obtain⟨k,E,v,L,C,ez,hP⟩:=hI;have c8:(intOf (a.tmps.getD 9 undef)).toNat=k:=by rw[C.getD (i:=9) rfl];simp[intOf]
 rw[c8];clear c8;refine AP ?_;refine aO ?_
 repeat refine wS C λC=> ?_
 refine wY C (.int .i64 Y) (by have e:=C.at' 34 _ rfl;go_simp) λC=> ?_
 rcases Bl k Y with a1 | ew
 ·refine wB C (.bool true) (hr:=zV (decide_eq_true Aa)) λC=> ?_
  refine wle ?_;refine bu C rfl (Bm (thn ?_));obtain⟨s,hs⟩:∃s,R0[k]? =some s:=⟨_,AU (by rw[<-d4.out];exact a1)⟩;obtain⟨b,o,rfl,hb,b1⟩:=eb.out k s hs;have a4:=ea.out s (Bb hs);have bq:=hP.ti.bel;have da:wr.rangeAt b (o+k*6) s.cs:=gJ b1 bq hb;have I:PI w wr.drew t m tb E v L k:=hP.below (AL _ _).drew;have a2:Y<=40:=Aa
  refine AP (AY ?_);refine AP ?_;refine wp_seq_k (λK9 b9=> ?_);have b3:=AF b9;clear b9;have hp:∀(c:List PanicEntry)(a a':Act)(w':World),a'.defers=a.defers->bodyPost AE Tryz.f7 (λe w'=>e= .returned (.bool true)/\AG w.heap.size w w') (.panic c) a w'->bodyPost AE Tryz.f7 (λe w'=>e= .returned (.bool true)/\AG w.heap.size w w') (.panic c) a' w':=λc a a' w' e h=>⟨e.trans h.1,h.2⟩
  refine wp_region_held_drew (S:=λw'=>w'.rangeAt b (o+k*6) s.cs) Ab (show wr.drew.rangeAt b (o+k*6) s.cs from da) (λhH=> ?_);refine bD (i:=0) (v:=ptB t) C rfl Ab Ab Ab rfl th hp rfl (λa w C P=>fU C rfl rfl) hH (λ_ C=> ?_);refine bD (i:=1) (v:=.slice (some ⟨b,o,none⟩) Y c0) C rfl Ab Ab Ab rfl th hp rfl (λa w C P=>fU C rfl rfl) hH (λ_ C=> ?_);refine bD (i:=2) (v:=.int .i64 (k:Int)) C rfl Ab Ab Ab rfl th hp rfl (λa w C P=>fU C rfl rfl) hH (λ_ C=> ?_);refine bD (i:=3) (v:=.pointer (some ⟨b,o+k*6,none⟩)) C rfl Ab Ab Ab rfl th hp rfl (λa w C P=>xN C rfl rfl rfl (ia_St a1 Aa)) hH (λ_ C=> ?_);refine bD (i:=4) (v:=s.val) C rfl Ab Ab Ab rfl th hp rfl (λa w C P=>jG C rfl rfl (ld_stp P)) hH (λ_ C=> ?_);refine bD (i:=6) (v:=.slice (some ⟨b,o,none⟩) Y c0) C rfl Ab Ab Ab rfl th hp rfl (λa w C P=>fU C rfl rfl) hH (λ_ C=> ?_);refine bD (i:=7) (v:=.int .i64 (k:Int)) C rfl Ab Ab Ab rfl th hp rfl (λa w C P=>fU C rfl rfl) hH (λ_ C=> ?_);refine bD (i:=8) (v:=.pointer (some ⟨b,o+k*6,none⟩)) C rfl Ab Ab Ab rfl th hp rfl (λa w C P=>xN C rfl rfl rfl (ia_St a1 Aa)) hH (λ_ C=> ?_);refine bD (i:=9) (v:=s.val) C rfl Ab Ab Ab rfl th hp rfl (λa w C P=>jG C rfl rfl (ld_stp P)) hH (λ_ C=> ?_);refine jH C (i:=5) Ab rfl rfl rfl th (gA C rfl rfl rfl (ai Tryz.func32 rfl rfl)) (q_do I.ti.tm I.ti.sane.ok a4) (λe w4 G=> ?_);obtain⟨E',R',es,rfl,ax,cq,b7⟩:=G;have cr:w4.rangeAt b (o+k*6) s.cs:=λj u hu=>(BM (w:=wr.drew) (w':=w4) (ax.kp.block b (Nat.lt_of_lt_of_le hb bq.size) (λhm=>by have:=I.ti.own b hm;omega))).trans (da j u hu)
  have cb:=TPost.rm I.ti.tm ax I.rm I.dj;refine⟨_,rfl,cr,λ_ C=> ?_⟩;refine jH C (i:=10) Ab rfl rfl rfl th (gA C rfl rfl rfl (ai Tryz.func38 rfl rfl)) (q_by cb I.sr.ok (by have:=I.le;omega) a4) (λe w5 G=> ?_);obtain⟨v',L',ed,rfl,cp,b6⟩:=G;obtain⟨rfl,K,dq⟩:=I.step ax cq b7 (axOf_q a4) (AL _ _) cp b6;have bp:w5.rangeAt b (o+k*6) s.cs:=gJ b1 K.ti.bel hb;refine⟨_,rfl,bp,λ_ C=> ?_⟩;refine bD (i:=11) (v:=.bool false) C rfl Ab Ab Ab rfl th hp rfl (λa w C P=>xM C rfl rfl rfl Am) bp (λ_ C=> ?_);refine wpAnyH_done Ab (b3.out _ _ ?_) _;clear cr bp cb ax cq b7 cp b6 I hP bq b3 hH hp dq;refine aX C rfl (Bm (thn ?_));refine aO ?_
  repeat refine wS C λC=> ?_
  refine wC C (ai Tryz.func39 rfl rfl) (fe fr hf) λ{e w6} G=> ?_
  obtain⟨rfl,P⟩:=G;obtain rfl:=P.symm;refine⟨_,rfl,λ_ C=> ?_⟩
  repeat refine wS C λC=> ?_
  refine wle ?_;refine wp_seq_k (λKA ca=> ?_);have HJ:∀(nm:Nm)(a:Act),Kn 183 [(0,.slice (some ⟨b,o,none⟩) Y c0),(1,.int .u8 fr),(2,.int .i16 H),(7,ptB t),(8,ptB tb),(9,.int .i64 (k:Int)),(10,.string nm)] a->KA a w5:=λnm a C=>by
   refine ca _ _ ?_;clear ca;have ab:=K.rq;have am:=K.ti.sane.ok;have ap:L'.length<=1000000:=by have:=K.le;omega
   refine aO ?_
   repeat refine wS C λC=> ?_
   refine wV C (.int .i64 H) (hr:=ov ha) λC=> ?_
   refine wC C (ai Tryz.func34 rfl rfl) (q_ParentG K.ti.tm nm H) λ{e w6} G=> ?_
   obtain⟨rfl,P⟩:=G;obtain rfl:=P.symm;refine⟨_,rfl,λ_ C=> ?_⟩
   repeat refine wS C λC=> ?_
   refine wle ?_;refine aO ?_
   repeat refine wS C λC=> ?_
   refine wV C (.int .i64 H) (hr:=ov ha) λC=> ?_
   refine wC C (ai Tryz.func40 rfl rfl) (q_ParentR K.rm K.sr.ok nm H ap) λ{e w6} G=> ?_
   obtain⟨rfl,c6⟩:=G;have bi:=K.below c6;rw[<-pOf_req ab,<-ab.par];refine⟨_,rfl,λ_ C=> ?_⟩
   repeat refine wS C λC=> ?_
   refine wle ?_;generalize pOf (trE E') H nm=pp at *;generalize (par (trE E') H nm).isSome=pb at *;refine aO ?_
   repeat refine wS C λC=> ?_
   refine wV C (.int .i64 H) (hr:=ov ha) λC=> ?_
   refine wC C (ai Tryz.func41 rfl rfl) (q_Edge bi.ti.tm am nm H) λ{e w7} G=> ?_
   obtain⟨v7,rfl,b2,c7⟩:=G;have cl:=bi.below c7;obtain⟨us,rfl,a5,ds,dT⟩:=tB b2;have aq:=PB.new w7;have be:=aq.put (us:=us) a5 dT;have d1:=aq.keep (us:=us) (b2.mono aq.bel);have av:=cl.below be.bel;refine⟨_,rfl,λ_ C=> ?_⟩
   repeat refine wS C λC=> ?_
   refine wW C (.pointer (some ⟨w7.heap.size,0,none⟩)) (w7.alloc (.cells aC.toArray 39)) (tj rfl (by unfold aC;go_simp;try rfl)) λC=> ?_
   refine wT C ((w7.alloc (.cells aC.toArray 39)).setCells w7.heap.size 0 us) (hr:=Dw _ _ _ _ us.toArray (by simpa [a5]using aq.there) (eG a5) ds) λC=> ?_
   repeat refine wS C λC=> ?_
   refine wle ?_;generalize (w7.alloc (.cells aC.toArray 39)).setCells w7.heap.size 0 us=w8 at *;generalize w7.heap.size=B8 at *;refine aO ?_
   repeat refine wS C λC=> ?_
   refine wV C (.int .i64 H) (hr:=ov ha) λC=> ?_
   refine wC C (ai Tryz.func42 rfl rfl) (q_EdgeR av.rm av.sr.ok nm H ap) λ{e w9} G=> ?_
   obtain⟨v9,rfl,a6,ay⟩:=G;have cm:=av.below ay;rw[<-edge_req ab]at a6⊢;obtain⟨vs,rfl,a7,d0,d2⟩:=tB a6;have ar:=PB.new w9;have U:=ar.put (us:=vs) a7 d2;have bb:=ar.keep (us:=vs) (a6.mono ar.bel);have ad:=cm.below U.bel;refine⟨_,rfl,λ_ C=> ?_⟩
   repeat refine wS C λC=> ?_
   refine wW C (.pointer (some ⟨w9.heap.size,0,none⟩)) (w9.alloc (.cells aC.toArray 39)) (tj rfl (by unfold aC;go_simp;try rfl)) λC=> ?_
   refine wT C ((w9.alloc (.cells aC.toArray 39)).setCells w9.heap.size 0 vs) (hr:=Dw _ _ _ _ vs.toArray (by simpa [a7]using ar.there) (eG a7) d0) λC=> ?_
   repeat refine wS C λC=> ?_
   refine wle ?_;generalize (w9.alloc (.cells aC.toArray 39)).setCells w9.heap.size 0 vs=w10 at *;generalize w9.heap.size=B10 at *;refine aO ?_
   repeat refine wS C λC=> ?_
   refine wV C (.int .i64 H) (hr:=ov ha) λC=> ?_
   refine wC C (ai Tryz.func43 rfl rfl) (q_Span ad.ti.tm am nm H) λ{e eB} G=> ?_
   obtain⟨rfl,aa⟩:=G;have Z:=ad.below aa;refine⟨_,rfl,λ_ C=> ?_⟩
   repeat refine wS C λC=> ?_
   refine wle ?_;refine aO ?_
   repeat refine wS C λC=> ?_
   refine wV C (.int .i64 H) (hr:=ov ha) λC=> ?_
   refine wC C (ai Tryz.func44 rfl rfl) (q_SpanR Z.rm Z.sr.ok nm H ap) λ{e em} G=> ?_
   obtain⟨rfl,an⟩:=G;have cd:=Z.below an;rw[<-span_req ab];refine⟨_,rfl,λ_ C=> ?_⟩
   repeat refine wS C λC=> ?_
   refine wle ?_;have J:=aa.trans (an.mono aa.size);have ac:=ay.trans ((U.bel.trans (J.mono U.bel.size)).mono ay.size);have r8:=be.rg ac;have ej:=U.rg J;have ef:=d1.mono ac;have d3:=bb.mono J;have a0:=edge_span am nm H (by unfold fw;omega);have c9:=λh=>edge_okE am (c:=nm) (a:=H) h
   have b4:=AF (show∀us:List Value,us.length=21->(AE.info? 39).map (·.size)=some us.length from λus hu=>by rw[hu];kernel_rfl);clear ad Z aa an J ac be U d1 bb cm ar a6 av aq b2 cl c7 ay bi c6 ds dT d0 d2;generalize (dA (trE E') nm H).2=ee at *;generalize (dA (trE E') nm H).1=ep at *;generalize fZ (trE E') nm H=sp at *;obtain⟨s1,s2,s3⟩:=sp;simp only at a0 C;refine aO ?_;refine wl_app 30 (λa w'=>Kn 183 [(0,.slice (some ⟨b,o,none⟩) Y c0),(1,.int .u8 fr),(2,.int .i16 H),(7,ptB t),(8,ptB tb),(9,.int .i64 (k:Int)),(10,.string nm),(11,.string pp),(12,.bool pb),(13,.string pp),(14,.bool pb),(15,.pointer (some ⟨B8,0,none⟩)),(16,.int .i64 ee),(17,.pointer (some ⟨B10,0,none⟩)),(18,.int .i64 ee),(122,.bool false),(138,.bool false)] a/\w'=em) (λa w' h=> ?_) ?_
   ·obtain⟨C,P⟩:=h;subst P;refine wl_app 25 (λa ek=>Kn 183 [(0,.slice (some ⟨b,o,none⟩) Y c0),(1,.int .u8 fr),(2,.int .i16 H),(7,ptB t),(8,ptB tb),(9,.int .i64 (k:Int)),(10,.string nm),(155,.bool false),(163,.bool false)] a/\AG w'.heap.size w' ek) (λa er h=> ?_) ?_
    ·obtain⟨C,ao⟩:=h;have a9:=cd.below ao
     repeat refine wS C λC=> ?_
     refine wV C (.int .i64 H) (hr:=ov ha) λC=> ?_
     refine wC C (ai Tryz.func36 rfl rfl) (q_Root a9.ti.tm am nm H) λ{e eP} G=> ?_
     obtain⟨y,rfl,hy,cx⟩:=G;have ak:=a9.below cx;refine⟨_,rfl,λ_ C=> ?_⟩
     repeat refine wS C λC=> ?_
     refine wV C (.int .i64 H) (hr:=ov ha) λC=> ?_
     refine wC C (ai Tryz.func46 rfl rfl) (q_RootR ak.rm ak.sr.ok nm H ap) λ{e eQ} G=> ?_
     obtain⟨z,rfl,hz,cz⟩:=G;have V:=ak.below cz;obtain rfl:=kP.req ab hy hz;refine⟨_,rfl,λ_ C=> ?_⟩;refine wB C (.bool false) λC=> ?_
     repeat refine wS C λC=> ?_
     refine wC C (ai Tryz.func47 rfl rfl) (q_same V.ti.tm V.ti.sane V.rm V.sr.ok ap ab) λ{e eS} G=> ?_
     obtain⟨rfl,c4⟩:=G;refine⟨_,rfl,λ_ C=> ?_⟩
     repeat refine wS C λC=> ?_
     refine wle ?_;refine aX C rfl (Bm (ibn (thn ?_)));refine bC ?_
     repeat refine wS C λC=> ?_
     refine wB C (.int .i64 ((k+1:Nat))) (hr:=rk Aa Aa Aa) λC=> ?_
     repeat refine wS C λC=> ?_
     refine wln (thn ⟨⟨k+1,E',v',L',C.ct,Aa,V.below c4⟩,by rw[C.getD (i:=9) rfl];simp only[intOf];omega⟩)
    ·repeat refine wS C λC=> ?_
     refine wB C (.bool false) λC=> ?_
     repeat refine wS C λC=> ?_
     refine wB C (.bool false) (hr:=by cases pb<;>go_simp) λC=> ?_
     repeat refine wS C λC=> ?_
     refine wB C (.bool false) λC=> ?_
     repeat refine wS C λC=> ?_
     by_cases he:ee=0
     ·refine wB C (.bool true) (hr:=by rw[he];go_simp) λC=> ?_
      repeat refine wS C λC=> ?_
      refine wL C (.agg us.toArray) (hr:=Dv _ _ _ _ us _ r8 C7 rfl (b4.out us a5)) λC=> ?_
      refine wL C (.agg vs.toArray) (hr:=Dv _ _ _ _ vs _ ej C7 rfl (b4.out vs a7)) λC=> ?_
      refine wC C (ai Tryz.func45 rfl rfl) (qE _ _ ep ep w' ef d3 (c9 he) (c9 he) rfl) λ{e er} G=> ?_
      obtain⟨rfl,ao⟩:=G;refine⟨_,rfl,λ_ C=> ?_⟩
      repeat refine wS C λC=> ?_
      exact wln ⟨C.ct,ao⟩
     ·have a3:(ee==0)=false:=beq_eq_false_iff_ne.2 he;refine wB C (.bool false) λC=> ?_
      repeat first | refine wS C λC=> ?_ | refine wZ C λC=> ?_
      exact wln ⟨C.ct,AL _ _⟩
   ·repeat refine wS C λC=> ?_
    refine wB C (.bool false) (hr:=bi_neq Ag) λC=> ?_
    repeat refine wS C λC=> ?_
    refine wB C (.bool false) (hr:=bi_neq Ag) λC=> ?_
    repeat refine wS C λC=> ?_
    refine wB C (.bool false) (hr:=by cases s3<;>go_simp) λC=> ?_
    repeat refine wS C λC=> ?_
    cases s3 with
    | false=>
     repeat refine wZ C λC=> ?_
     repeat refine wS C λC=> ?_
     exact wln ⟨C.ct,rfl⟩
    | true=>
     by_cases h1:s1<=H
     ·by_cases h2:H<=s2
      ·have he:ee=0:=a0.2 ⟨rfl,h1,h2⟩
       repeat refine wS C λC=> ?_
       refine wB C (.bool true) (hr:=by rw[he];go_simp) λC=> ?_
       repeat refine wS C λC=> ?_
       refine wV C (.int .i64 H) (hr:=ov ha) λC=> ?_
       refine wB C (.bool true) (hr:=rn (decide_eq_true h1)) λC=> ?_
       repeat refine wS C λC=> ?_
       refine wV C (.int .i64 H) (hr:=ov ha) λC=> ?_
       repeat refine wS C λC=> ?_
       refine wB C (.bool true) (hr:=rn (decide_eq_true h2)) λC=> ?_
       repeat refine wS C λC=> ?_
       refine wB C (.bool false) λC=> ?_
       repeat refine wS C λC=> ?_
       exact wln ⟨C.ct,rfl⟩
      ·have a3:(ee==0)=false:=beq_eq_false_iff_ne.2 (λhe=>h2 (a0.1 he).2.2)
       repeat refine wS C λC=> ?_
       refine wB C (.bool false) λC=> ?_
       repeat refine wS C λC=> ?_
       refine wV C (.int .i64 H) (hr:=ov ha) λC=> ?_
       refine wB C (.bool true) (hr:=rn (decide_eq_true h1)) λC=> ?_
       repeat refine wS C λC=> ?_
       refine wV C (.int .i64 H) (hr:=ov ha) λC=> ?_
       repeat refine wS C λC=> ?_
       refine wB C (.bool false) (hr:=rn (decide_eq_false h2)) λC=> ?_
       repeat refine wS C λC=> ?_
       refine wB C (.bool false) λC=> ?_
       repeat refine wS C λC=> ?_
       exact wln ⟨C.ct,rfl⟩
     ·have a3:(ee==0)=false:=beq_eq_false_iff_ne.2 (λhe=>h1 (a0.1 he).2.1)
      repeat refine wS C λC=> ?_
      refine wB C (.bool false) λC=> ?_
      repeat refine wS C λC=> ?_
      refine wV C (.int .i64 H) (hr:=ov ha) λC=> ?_
      refine wB C (.bool false) (hr:=rn (decide_eq_false h1)) λC=> ?_
      repeat first | refine wS C λC=> ?_ | refine wZ C λC=> ?_
      refine wB C (.bool false) λC=> ?_
      repeat refine wS C λC=> ?_
      exact wln ⟨C.ct,rfl⟩
  refine aO ?_
  repeat refine wS C λC=> ?_
  refine wB C (.int .i64 ((k % 2:Nat):Int)) (hr:=bi_rem2) λC=> ?_
  have et:w5.cell? ⟨b,o+k*6+1,none⟩=some (.int .u8 s.c):=gJ b1 K.ti.bel hb 1 _ rfl;by_cases g2:k % 2=0
  ·refine wB C (.bool true) (hr:=by rw[g2];go_simp) λC=> ?_
   refine wle ?_;refine bu C rfl ?_;refine bC ?_
   repeat refine wS C λC=> ?_
   refine wI C (.pointer (some ⟨b,o+k*6,none⟩)) (hr:=ia_St a1 Aa) λC=> ?_
   refine wF C (.pointer (some ⟨b,o+k*6+1,none⟩)) λC=> ?_
   refine wL C (.int .u8 s.c) λC=> ?_
   refine wC C (ai Tryz.func39 rfl rfl) (fe s.c a4.c) λ{e w6} G=> ?_
   obtain⟨rfl,P⟩:=G;obtain rfl:=P.symm;refine⟨_,rfl,λ_ C=> ?_⟩
   repeat refine wS C λC=> ?_
   refine wln (thn (HJ _ _ (C.ct)))
  ·have a3:(((k % 2:Nat):Int)==0)=false:=beq_eq_false_iff_ne.2 Aa;refine wB C (.bool false) (hr:=bi_eql a3) λC=> ?_
   refine wle ?_;refine aX C rfl (Bm (thn ?_));exact HJ _ _ (C.ct)
 ·obtain rfl:k=Y:=Aa
  refine wB C (.bool false) (hr:=zV (decide_eq_false Aa)) λC=> ?_
  refine wle ?_;refine aX C rfl (CO (thx (thx (ibx (thn ?_)))));refine aO ?_;refine wC C (ai Tryz.func30 rfl rfl) (abc wr) λ{e w1} G=> ?_
  obtain⟨rfl,hb⟩:=G;refine⟨_,rfl,λ_ C=> ?_⟩
  repeat refine wS C λC=> ?_
  refine wle ?_;refine wp_ret ?_
  repeat first | refine ck ?_ | refine cN ?_
  refine A6 (B9 rfl _ _ _) C.df ?_;rw[C.getD (i:=6) rfl];exact⟨rfl,hP.ti.bel.trans (hb.mono hP.ti.bel.size)⟩
end
end Go.Proofs.YtggfmklppkioeaaGreat
