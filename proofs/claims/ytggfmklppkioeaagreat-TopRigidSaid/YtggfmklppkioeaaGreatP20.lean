/- The example that the laws Top.. try: the walk to its questions. What vector.Format does. What the laws Top.. call, as instances of the executor. lookup.Move, where there is a tree. What TopRigid asks of a tree, by the executor. Regions by the executor that leave variables and slots behind; the act of a walk, unknown. The tree behind a script of turns. What arguments of the types [3]int and roboticstop.Points are. -/
import Derived.Test.YtggfmklppkioeaaGreatP19
namespace Go.Proofs.YtggfmklppkioeaaGreat
set_option linter.unusedSimpArgs false
set_option linter.unusedVariables false
set_option maxRecDepth 100000
open Go.RowKit
section
open Classical
theorem aM.chg {w w':World} {X:Nat→Prop} {l:List Rq} {cs:List Value} (h:aM w l cs) (k:Chg w w' X):aM w' l cs:=by
 induction l generalizing cs with
 | nil=>exact h
 | cons r l ih=>obtain⟨a,c,b,d,cs',e,h1,h2,h3⟩:=h;exact⟨a,c,b,d,cs',e,h1.chg k,h2.chg k,ih h3⟩
theorem TPost.oq {w w':World} {t m:Nat} {E E':List Ch} {v:Value} {p:Pq} (h:TPost w t m E w' E') (hT:TM w t m E) (i:bw w v p):bw w' v p:=by
 obtain⟨cs,e,hc⟩:=i;exact⟨cs,e,hc.chg (h.kp.chg hT.own)⟩
theorem aM.take {w:World}:∀ {l l':List Rq} {cs:List Value},aM w (l++l') cs→aM w l (cs.take (3*l.length))
 | [],_,cs,_=>by simp[aM]
 | r::l,l',cs,h=>by
  obtain⟨a,c,b,d,cs',rfl,h1,h2,h3⟩:=h;exact⟨a,c,b,d,_,by rw[show 3*(r::l).length=3*l.length+1+1+1 by simp only[List.length_cons];omega];simp only[List.take_succ_cons],h1,h2,h3.take⟩
theorem aM.app {w:World} {l':List Rq} {cs':List Value} (k:aM w l' cs'):∀ {l:List Rq} {cs:List Value},aM w l cs→aM w (l++l') (cs++cs')
 | [],cs,h=>by have h:cs=[]:=h;subst h;exact k
 | r::l,cs,h=>by
  obtain⟨a,c,b,d,cs1,rfl,h1,h2,h3⟩:=h;exact⟨a,c,b,d,_,rfl,h1,h2,aM.app k h3⟩
theorem put_pos {w:World} {cs us:List Value} {p:Pq} {x:Vq} (h:aM w (p.cs.map Fq.raw) cs) (k:aM w (x.cs.map Fq.raw) us):bw w (.agg (cs.take 12++us).toArray) ⟨p.rot,x⟩:=
 ⟨_,rfl,aM.app k (aM.take (l:=p.rot.cs.map Fq.raw) (l':=p.pos.cs.map Fq.raw) h)⟩
noncomputable def aRest6:Code:=(gV 6 Tryz.prog 16).getD .skip
theorem nG:gV 6 Tryz.prog 16=some aRest6:=by kernel_rfl
def xtaX:List Fq:=(nF.cs++(Pq.zero.cs))
theorem ta_tail {we w:World} {ts:List Value} {Q:Exit→Act→World→Prop} {t m:Nat} {E:List Ch} (hE:Sane (trE E)) (hf1:bJ (trE E) 25 bq bZ=(nF,0)) (hf2:bJ (trE E) 101 bq bZ=(Pq.zero,17)) (hT:TM w t m E) (hbl:Below we.heap.size we w) (h1:ts[1]? =some (ptB t)) (hn:ts.length=53)
  (hQ:∀a' w',a'.tmps.getD 0 undef= .bool true→a'.defers=[]→Below we.heap.size we w'→Q .ret a' w'):∀c,gV 6 Tryz.prog 16=some c→c.wp Tryz.prog Q ⟨ts.toArray,[]⟩ w:=by
 intro c hc;have hr:=nG;rw[hc]at hr;injection hr with hr;subst hr;obtain⟨t0,t1,tl,rfl⟩:∃t0 t1 tl,ts=t0::t1::tl:=by
  match ts,hn with
  | t0::t1::tl,_=>exact⟨_,_,_,rfl⟩
 injection h1 with h1;subst h1;refine ju (x:=0) (n:=400) (by decide) (ρ:=frs (xtaX)++([.tree t m E,.val (.string nF.text)]:List Vp))
  (ae (mO (n:=42) (kr:=[0,1,2,3,4,5,6]) rfl hE kt_c kt_c (aS (c:=25)) hf1 ⟨rfl,rfl,rfl,rfl,rfl,rfl,rfl,trivial⟩ kc_c) (ae (mO (n:=42) (kr:=[7,8,9,10,11,12,13]) rfl hE kt_c kt_c (aS (c:=101)) hf2 ⟨rfl,rfl,rfl,rfl,rfl,rfl,rfl,trivial⟩ kc_c) (ae (I_poEnc (ks:=[0,1,2,3,4,5,6]) (a:=nF) ⟨rfl,rfl,rfl,rfl,rfl,rfl,rfl,trivial⟩ (ls (n:=43) rfl) (tw_ok.mono (by decide))) ah)))
  (af (yN (t:=9) (c:=nF.text) (p:=(ByteArray.mk #[49,32,48,32,48,32,48,32,53,47,50,32,48,32,48])) (b:=true) (by kernel_rfl) (ku (n:=43) rfl) kt_c (decide_eq_true tw_text)) (ai)) (by kernel_rfl) ?_
  (i5 (nt:=53) (V:=[]) (known:=[none,some (.v (.one (.ref 42)))]) hbl List.nodup_nil (fun x h=>by cases h) ⟨⟨_,rfl,⟨rfl,hT⟩,fun g hg hx=>by cases pN hx⟩,trivial⟩ (by simpa using hn))
  (fun a' w' h1 h2 h3=>hQ a' w' h1 h2 h3.to)
 ·kernel_rfl
theorem list9 {cs:List Value} (h:cs.length=9):∃c0 c1 c2 c3 c4 c5 c6 c7 c8,cs=[c0,c1,c2,c3,c4,c5,c6,c7,c8]:=by
 match cs,h with
 | [c0,c1,c2,c3,c4,c5,c6,c7,c8],_=>exact⟨_,_,_,_,_,_,_,_,_,rfl⟩
theorem put12 {c0 c1 c2 c3 c4 c5 c6 c7 c8 c9 c10 c11 c12 c13 c14 c15 c16 c17 c18 c19 c20 u0 u1 u2 u3 u4 u5 u6 u7 u8:Value}:iX #[c0,c1,c2,c3,c4,c5,c6,c7,c8,c9,c10,c11,c12,c13,c14,c15,c16,c17,c18,c19,c20] 12 [u0,u1,u2,u3,u4,u5,u6,u7,u8]=#[c0,c1,c2,c3,c4,c5,c6,c7,c8,c9,c10,c11,u0,u1,u2,u3,u4,u5,u6,u7,u8]:=by
 simp only[iX,List.setIfInBounds_toArray,List.set_cons_succ,List.set_cons_zero]
set_option maxHeartbeats 4000000 in
theorem vv (w:World):Calls Tryz.prog 16 #[] w fun e w'=>e= .returned (.bool true)∧Below w.heap.size w w':=by
 have hnew:=q_New w;go_enter Tryz.func16,Tryz.ntmps16
 go_upto_region 2 with(go_at_call 31;refine hnew.mono ?_;rintro e w1 ⟨t,m,rfl,hT,h1,h2,h3⟩;have HI:=Lib.hid (TInv.new hT h1 h2 h3);clear hnew hT h1 h2 h3)
 have hpi:=wE w1;refine wp_region_list ?_;refine wpList_plain rfl (fun K hK=> ?_);go_simp;go_at_call 22
 refine hpi.mono ?_;rintro e w2 ⟨v,rfl,hv,hb⟩;obtain⟨vs,rfl,hul,hu1,hun⟩:=iZ hv;refine hK _ _ ?_;clear hK K hpi;have hpn:=PB.new w2;have hvn:bw (w2.alloc (.cells aD.toArray 39)) (.agg vs.toArray) Pq.id:=IsL.mono hv hpn.bel;have hth:=hpn.there;rw[←hul]at hth;have hb5:=aX vs 0 _ (hb.trans (hpn.bel.mono hb.size)) hb.size (b:=w2.heap.size);have HP:=Lib.hid (hpn.put (us:=vs) hul hun);have HV:=Lib.hid (hpn.keep (us:=vs) hvn);have HB5:=Lib.hid hb5;refine aj rfl (v:=.pointer (some ⟨w2.heap.size,0,none⟩)) (w':=w2.alloc (.cells aD.toArray 39)) (by go_simp;try rfl) ?_;refine wpList_store_mid rfl _ _ _ rfl w2.heap.size 0 vs.toArray rfl rfl (by simpa using hth) (cB hul) hu1 ?_;rw[show vs.toArray.toList=vs from rfl];generalize hW5:(w2.alloc (.cells aD.toArray 39)).setCells w2.heap.size 0 vs=W2 at *;obtain⟨B,hB⟩:∃B,w2.heap.size=B:=⟨_,rfl⟩;have HGE:=Lib.hid (show w1.heap.size≤B from hB▸hb.size);rw[hB]at HP⊢;clear hW5 hB hpn hvn hth hb5 hv hb hu1 hun;go_upto_region 3 with(fail)
 have hof:=q_fOfK (w:=W2) 10 0 0 (by decide) (by decide) (by decide);refine wp_region_list ?_;refine wpList_plain rfl (fun K hK=> ?_);go_simp;go_at_call 23
 refine hof.mono ?_;rintro e w3 ⟨v,rfl,hx,hb3⟩;obtain⟨us,rfl,hxl,hx1,hxn⟩:=vq_cs hx;refine hK _ _ ?_;clear hK K hof;have hp3:=HP.out.next hb3;have hth:w3.there B 12 us.toArray.size:=fun j hj=>by
  have hj9:j<9:=by rw[List.size_toArray,hxl]at hj;exact hj
  have:=hp3.there (12+j) (by omega);rwa [Nat.zero_add]at this
 have hup:Upd w3 B (w3.setCells B 12 us):=ck us w3 B 12;have hob:Own w3 B:=j4 hp3.blk (fun u hu=>hp3.nu u (by simpa using hu));have hend:bw (w3.setCells B 12 us) (.agg (vs.take 12++us).toArray) (sh 10 0 0):=by
  obtain⟨k1,e1,k2⟩:=IsL.mono HV.out hb3;obtain⟨k3,e3,k4⟩:=hx;have e1:vs=k1:=by injection e1 with e1;simpa using e1
  have e3:us=k3:=by injection e3 with e3;simpa using e3
  subst e1;subst e3;exact put_pos (p:=Pq.id) (x:=Vq.of 10 0 0) (k2.upd hob hup) (k4.upd hob hup)
 have hbk:=cX us w3 B 12 _ _ hp3.blk;have hb6:=aX us 12 _ (HB5.out.trans (hb3.mono HB5.out.size)) HGE.out (b:=B);refine aj rfl (v:=.pointer (some ⟨B,12,none⟩)) (w':=w3) (by go_simp) ?_;refine wpList_store_mid rfl _ _ _ rfl B 12 us.toArray rfl rfl hth (ve hxl) hx1 ?_;rw[show us.toArray.toList=us from rfl];generalize hW3:w3.setCells B 12 us=W3 at *;have HI3:=Lib.hid (HI.out.below hb6);have HBF:=Lib.hid (show B∉fpT t m []from fun hm=>by have:=HI.out.tm.lt _ hm;have:=HGE.out;omega);clear hW3 hth hup hob hp3 hx hb3 hx1 hxn HP HV HB5 hb6 HI;obtain⟨c0,c1,c2,c3,c4,c5,c6,c7,c8,c9,c10,c11,c12,c13,c14,c15,c16,c17,c18,c19,c20,rfl⟩:=xy hul;obtain⟨u0,u1,u2,u3,u4,u5,u6,u7,u8,rfl⟩:=list9 hxl;rw[put12]at hbk;simp only[List.take_succ_cons,List.take_zero,List.cons_append,List.nil_append]at hend;have HEND:=Lib.hid hend;have HBK:=Lib.hid hbk;have HC:=Lib.hid (show∀wq:World,wq.heap[B]? =some (.cells #[c0,c1,c2,c3,c4,c5,c6,c7,c8,c9,c10,c11,u0,u1,u2,u3,u4,u5,u6,u7,u8] 39 (0,0))→wq.rangeAt B 0 [c0,c1,c2,c3,c4,c5,c6,c7,c8,c9,c10,c11,u0,u1,u2,u3,u4,u5,u6,u7,u8]from fun wq h j u hj=>by rw[aA h,Nat.zero_add];simpa using hj);clear hul hend hbk;have hat1:=uU (c:=bZ) (p:=bq) (f:=0) HI3.out.tm HI3.out.sane.ok (.inl iArm) (.inl iBase);go_upto_region 4 with(fail)
 refine wp_region_list ?_;refine wpList_plain rfl (fun K hK=> ?_);go_simp;refine hK _ _ ?_;clear hK K;refine wpList_plain rfl (fun K hK=> ?_);go_simp;refine hK _ _ ?_;clear hK K;refine wpList_plain rfl (fun K hK=> ?_);go_simp;refine hK _ _ ?_;clear hK K;refine co ?_ (fun K hK=> ?_)
 ·rfl
 go_simp;refine hK _ _ ?_;clear hK K;refine co ?_ (fun K hK=> ?_)
 ·rfl
 go_simp;go_at_call 67
 refine hat1.mono ?_;rintro e w4 ⟨E4,R4,code,rfl,hP,hR,hA⟩;refine hK _ _ ?_;clear hK K;have HI4:=Lib.hid (HI3.out.att hP hR hA);have HE4:=Lib.hid (hP.oq HI3.out.tm HEND.out);have HBK4:=Lib.hid ((hP.kp.block B (Array.getElem?_eq_some_iff.1 HBK.out).1 HBF.out).trans HBK.out);have HBF4:=Lib.hid (show B∉fpT t m E4 from fun hm=>(hP.fp _ hm).elim HBF.out (fun h=>by have:=(Array.getElem?_eq_some_iff.1 HBK.out).1;omega));obtain⟨rfl,hR4⟩:=tw_u1 (REq.refl _) hA;have HR4:=Lib.hid (hR.trans hR4);have hpi:=wE w4;clear hat1 hP hR hA hR4 HI3 HEND HBK HBF;refine co ?_ (fun K hK=> ?_)
 ·rfl
 go_simp;refine hK _ _ ?_;clear hK K;refine wpList_plain rfl (fun K hK=> ?_);go_simp;refine hK _ _ ?_;clear hK K;refine wpList_plain rfl (fun K hK=> ?_);go_simp;refine hK _ _ ?_;clear hK K;refine co ?_ (fun K hK=> ?_)
 ·rfl
 go_simp;refine hK _ _ ?_;clear hK K;refine co ?_ (fun K hK=> ?_)
 ·rfl
 go_simp;go_at_call 22
 refine hpi.mono ?_;rintro e w5 ⟨v,rfl,hv,hb⟩;obtain⟨ds,rfl,hds⟩:=hv;obtain⟨d0,d1,d2,d3,d4,d5,d6,d7,d8,d9,d10,d11,d12,d13,d14,d15,d16,d17,d18,d19,d20,rfl⟩:=xy (bY hds);refine hK _ _ ?_;clear hK K;have HI5:=Lib.hid (HI4.out.below hb);have HE5:=Lib.hid (IsL.mono HE4.out hb);have HBK5:=Lib.hid ((hb.block B (Array.getElem?_eq_some_iff.1 HBK4.out).1).trans HBK4.out);have hset1:=xz (p:=Pq.id) (c:=bZ) (a:=0) HI5.out.tm HI5.out.sane.ok ⟨_,rfl,hds⟩ Pq.ok.id;clear hpi hb hds HI4 HE4 HBK4;refine co ?_ (fun K hK=> ?_)
 ·rfl
 go_simp;refine hK _ _ ?_;clear hK K;refine co ?_ (fun K hK=> ?_)
 ·rfl
 go_simp;go_at_call 69
 refine hset1.mono ?_;rintro e w6 ⟨E6,R6,code,rfl,hP,hR,hD⟩;refine hK _ _ ?_;clear hK K;have HI6:=Lib.hid (HI5.out.next (s:=⟨2,bZ,bq,0,Pq.id⟩) hP hR (by unfold DoS;exact hD) Pq.ok.id);have hset2:=xz (p:=sh 10 0 0) (c:=bZ) (a:=100) (cs:=[c0,c1,c2,c3,c4,c5,c6,c7,c8,c9,c10,c11,u0,u1,u2,u3,u4,u5,u6,u7,u8]) HI6.out.tm HI6.out.sane.ok (hP.oq HI5.out.tm HE5.out) (sh_ok (by decide) (by decide) (by decide));have HRG:=Lib.hid (HC.out w6 ((hP.kp.block B (Array.getElem?_eq_some_iff.1 HBK5.out).1 HBF4.out).trans HBK5.out));obtain⟨rfl,hR6⟩:=tw_u2 HI5.out.sane.ok HR4.out hD;have HR6:=Lib.hid (hR.trans hR6);clear hset1 hP hR hD hR6 HI5 HE5 HBK5 HBF4 HR4;refine co ?_ (fun K hK=> ?_)
 ·rfl
 go_simp;refine hK _ _ ?_;clear hK K;refine wpList_plain rfl (fun K hK=> ?_);go_simp;refine hK _ _ ?_;clear hK K;refine wpList_plain rfl (fun K hK=> ?_);go_simp;refine hK _ _ ?_;clear hK K;refine co ?_ (fun K hK=> ?_)
 ·rfl
 go_simp;refine hK _ _ ?_;clear hK K;refine co ?_ (fun K hK=> ?_)
 ·rfl
 refine wp_load_mid _ _ rfl B 0 rfl [c0,c1,c2,c3,c4,c5,c6,c7,c8,c9,c10,c11,u0,u1,u2,u3,u4,u5,u6,u7,u8] _ HRG.out Tryz.underlying39 rfl (by kernel_rfl) ?_;refine hK _ _ ?_;clear hK K;refine co ?_ (fun K hK=> ?_)
 ·rfl
 go_simp;refine hK _ _ ?_;clear hK K;refine co ?_ (fun K hK=> ?_)
 ·rfl
 go_simp;go_at_call 69
 refine hset2.mono ?_;rintro e w7 ⟨E7,R7,code,rfl,hP,hR,hD⟩;refine hK _ _ ?_;clear hK K;have HI7:=Lib.hid (HI6.out.next (s:=⟨2,bZ,bq,100,sh 10 0 0⟩) hP hR (by unfold DoS;exact hD) (sh_ok (by decide) (by decide) (by decide)));obtain⟨rfl,hR7⟩:=tw_u3 HI6.out.sane.ok HR6.out hD;have HR7:=Lib.hid (hR.trans hR7);clear hset2 hP hR hD hR7 HI6 HR6;refine co ?_ (fun K hK=> ?_)
 ·rfl
 go_simp;refine hK _ _ ?_;clear hK K;refine wpList_plain rfl (fun K hK=> ?_);go_simp;refine hK _ _ ?_;clear hK K;go_upto_if 31 with(fail)
 rename_i K2 hrest;have HREST:=Lib.hid hrest;clear hrest;go_wp2;refine HREST.out _ _ (ta_tail (we:=w) HI7.out.sane (tw_f1 HR7.out) (tw_f2 HR7.out) HI7.out.tm HI7.out.bel rfl rfl (fun a' w' h1 h2 h3=> ?_) _ (by kernel_rfl));refine bodyPost_ret (results_tmp rfl _ _ _) h2 ?_;exact⟨by rw[←h1],h3⟩
end
def Vq.fmt (a:Vq):ByteArray:=(((((((ByteArray.mk #[40])++a.x.fmt)++(ByteArray.mk #[32]))++a.y.fmt)++(ByteArray.mk #[32]))++a.z.fmt)++(ByteArray.mk #[41]))
def rq (a:Vq):List Fq:=[a.x,a.y,a.z]
theorem q_vFormat (va:Value) (a:Vq) (w:World) (ia:cP w va a) (ha:a.ok 1000000):Calls Tryz.prog 28 #[va] w fun e w'=>cI w (.string a.fmt) e w':=by
 have z1:=cK ha.x;have z2:=cK ha.y;have z3:=cK ha.z;refine(cRn (ρ:=frs (rq a)++ [.val (.string a.x.fmt),.val (.string ((ByteArray.mk #[40])++a.x.fmt)),.val (.string (((ByteArray.mk #[40])++a.x.fmt)++(ByteArray.mk #[32]))),.val (.string a.y.fmt),.val (.string ((((ByteArray.mk #[40])++a.x.fmt)++(ByteArray.mk #[32]))++a.y.fmt)),.val (.string (((((ByteArray.mk #[40])++a.x.fmt)++(ByteArray.mk #[32]))++a.y.fmt)++(ByteArray.mk #[32]))),.val (.string a.z.fmt),.val (.string ((((((ByteArray.mk #[40])++a.x.fmt)++(ByteArray.mk #[32]))++a.y.fmt)++(ByteArray.mk #[32]))++a.z.fmt)),.val (.string (((((((ByteArray.mk #[40])++a.x.fmt)++(ByteArray.mk #[32]))++a.y.fmt)++(ByteArray.mk #[32]))++a.z.fmt)++(ByteArray.mk #[41])))]) (args:=[row [0,1,2]]) (vs:=[va]) (r:=.v (.one (.ref 17)))
  (ae (cJ (i:=0) rfl (ls (n:=9) rfl) (ha.x.mono (by decide))) (ae (cJ (i:=1) rfl (ls (n:=12) rfl) (ha.y.mono (by decide))) (ae (cJ (i:=2) rfl (ls (n:=15) rfl) (ha.z.mono (by decide))) ah)))
  (af (kZ (n:=9) (m:=10) (s:=(ByteArray.mk #[40])) (z:=a.x.fmt) (t:=9) (by kernel_rfl) rfl rfl (by simp only[ByteArray.size_append,bsz,List.size_toArray,List.length_cons,List.length_nil];omega)) (af (sj (n:=10) (m:=11) (s:=((ByteArray.mk #[40])++a.x.fmt)) (z:=(ByteArray.mk #[32])) (t:=9) (by kernel_rfl) rfl rfl (by simp only[ByteArray.size_append,bsz,List.size_toArray,List.length_cons,List.length_nil];omega)) (af (nM (n:=11) (m:=13) (k:=12) (s:=(((ByteArray.mk #[40])++a.x.fmt)++(ByteArray.mk #[32]))) (z:=a.y.fmt) (t:=9) (by kernel_rfl) rfl rfl rfl (by simp only[ByteArray.size_append,bsz,List.size_toArray,List.length_cons,List.length_nil];omega)) (af (sj (n:=13) (m:=14) (s:=((((ByteArray.mk #[40])++a.x.fmt)++(ByteArray.mk #[32]))++a.y.fmt)) (z:=(ByteArray.mk #[32])) (t:=9) (by kernel_rfl) rfl rfl (by simp only[ByteArray.size_append,bsz,List.size_toArray,List.length_cons,List.length_nil];omega)) (af (nM (n:=14) (m:=16) (k:=15) (s:=(((((ByteArray.mk #[40])++a.x.fmt)++(ByteArray.mk #[32]))++a.y.fmt)++(ByteArray.mk #[32]))) (z:=a.z.fmt) (t:=9) (by kernel_rfl) rfl rfl rfl (by simp only[ByteArray.size_append,bsz,List.size_toArray,List.length_cons,List.length_nil];omega)) (af (sj (n:=16) (m:=17) (s:=((((((ByteArray.mk #[40])++a.x.fmt)++(ByteArray.mk #[32]))++a.y.fmt)++(ByteArray.mk #[32]))++a.z.fmt)) (z:=(ByteArray.mk #[41])) (t:=9) (by kernel_rfl) rfl rfl (by simp only[ByteArray.size_append,bsz,List.size_toArray,List.length_cons,List.length_nil];omega)) (ai))))))) Tryz.func28 (by kernel_rfl) ⟨(ag (xs:=rq a) (ks:=[0,1,2]) (vs:=[a.x,a.y,a.z]) ⟨rfl,rfl,rfl,trivial⟩).2 ia,trivial⟩).mono ?_
 rintro e w' ⟨v,rfl,h1,h2⟩;obtain⟨sv,q1,q2⟩:=h1;have q3:some (Vp.val (.string (((((((ByteArray.mk #[40])++a.x.fmt)++(ByteArray.mk #[32]))++a.y.fmt)++(ByteArray.mk #[32]))++a.z.fmt)++(ByteArray.mk #[41]))))=some sv:=q1;injection q3 with q3;subst q3;have q4:v= .string (((((((ByteArray.mk #[40])++a.x.fmt)++(ByteArray.mk #[32]))++a.y.fmt)++(ByteArray.mk #[32]))++a.z.fmt)++(ByteArray.mk #[41])):=q2.1.1;exact⟨by rw[q4];rfl,h2⟩
section
variable {ρ:Rho} {n m:Nat} {l l' l'':Leaf} {c p d:Nm} {a e u:Int} {t:TypeId}
theorem dw {r k:Int} (h1:KI ρ l .i16 u) (hm:ρ[m]? =some (.val (.int .i16 r))) (hr:u.tmod k=r) (h0:¬(k=0)):(OIns.mk (.bin .rem t) [.one l,.one (.i .i16 k)] (.one (.ref m))).Ok Tryz.prog ρ:=fun B w vs hv=>by
 match vs,hv with
 | [v0,v1],hv=>
  have e0:=h1 _ _ _ hv.1;have e1:v1= .int .i16 k:=hv.2.1;subst e0;subst e1;subst hr;refine⟨.int .i16 (u.tmod k),aB hm (aY (by decide)),fun xo yo=> ?_⟩;simp[eqGuard,binOp,Op.intDiv,h0,Sem.run_bind,Result.andThen]
theorem o_neqI {u':Int} {ik:IntKind} {b:Bool} (h1:KI ρ l ik u) (h2:KI ρ l' ik u') (hb:(u !=u')=b):(OIns.mk (.bin .neq t) [.one l,.one l'] (.one (.b b))).Ok Tryz.prog ρ:=fun B w vs hv=>by
 match vs,hv with
 | [v0,v1],hv=>
  have e0:=h1 _ _ _ hv.1;have e1:=h2 _ _ _ hv.2.1;subst e0;subst e1;subst hb;refine⟨_,rfl,fun xo yo=> ?_⟩;simp[eqGuard,binOp,Op.intCmp,Sem.run_bind,Result.andThen]
theorem n8 (h1:KI ρ l .i64 u) (hm:ρ[m]? =some (.val (.string (frm u)))) (h:I64 u):Inst.Ok Tryz.prog ρ ⟨17,[.one l],.v (.one (.ref m))⟩:=
 ⟨az Tryz.func17 rfl rfl,fun B w vs hB hv=>by
  match vs,hv with
  | [v0],hv=>
   have e0:=h1 _ _ _ hv.1;subst e0;refine(jv u h).mono ?_;rintro e w' ⟨rfl,hw⟩;exact⟨_,rfl,aB hm cT,hw⟩⟩
theorem i6:Inst.Ok Tryz.prog ρ ⟨16,[],.v (.one (.b true))⟩:=
 ⟨az Tryz.func16 rfl rfl,fun B w vs hB hv=>by
  match vs,hv with
  | [],_=>
   refine(vv w).mono ?_;rintro e w' ⟨rfl,hw⟩;exact⟨_,rfl,rfl,hw⟩⟩
end
section
variable {xs:List Fq} {ys:Rho} {n:Nat} {ka kb kr:List Nat} {l l' l'' lc:Leaf} {t m:Nat} {E:List Ch} {c d:Nm} {a e:Int} {p q r:Pq} {b:Bool}
theorem yQ {u v:Vq} {x:Fq} {ir:Nat} (aa:AtL xs ka [u.x,u.y,u.z]) (ab:AtL xs kb [v.x,v.y,v.z]) (ar:xs[ir]? =some x) (hu:u.ok 100000000) (hv:v.ok 100000000) (e:u.dot v=x):OkI xs ys ⟨29,[row ka,row kb],.v (fr ir)⟩:=by
 subst e;exact sA aa ab ar hu hv
theorem xG {v:Vq} (ar:AtL xs kr [v.x,v.y,v.z]) (hl:∀B w,l.holds (frs xs++ys) B w (.string v.fmt)) (hv:v.ok 1000000):OkI xs ys ⟨28,[row kr],.v (.one l)⟩:=
 ⟨az Tryz.func28 rfl rfl,fun B w vs hB h=>by
  match vs,h with
  | [x],h=>
   refine(q_vFormat x v w ((ag ar).1 h.1) hv).mono ?_;rintro e w' ⟨rfl,h2⟩;exact⟨_,rfl,hl B w',h2⟩⟩
end
theorem i7 (v:Int): -100000≤v.tmod 1000∧v.tmod 1000≤100000:=by
 rcases Int.le_total 0 v with h | h
 ·rw[Int.tmod_eq_emod_of_nonneg h];omega
 ·have e:v.tmod 1000= -((-v).tmod 1000):=by rw[Int.neg_tmod,Int.neg_neg]
  rw[e,Int.tmod_eq_emod_of_nonneg (show 0≤ -v by omega)];omega
theorem ie (v:Int): -9223372036854775808≤v.tmod 1000:=by have:=i7 v;omega
theorem ig (v:Int):v.tmod 1000≤9223372036854775807:=by have:=i7 v;omega
def mP (p:Pq) (x:Vq):List Fq:=([x.x,x.y,x.z]++(p.cs++([(p.app x).x,(p.app x).y,(p.app x).z])))
theorem q_Move0 {w:World} {t m:Nat} {E:List Ch} {c d:Nm} {a:Int} {p:Pq} {vx:Value} {x:Vq} (hT:TM w t m E) (hE:Sane (trE E)) (hp:bJ (trE E) a c d=(p,0)) (op:p.ok 6000) (gp:p.good) (ix:cP w vx x) (ox:x.ok 1000) (gx:x.good):
  Calls Tryz.prog 24 #[ptB t,.string c,.string d,.int .i64 a,vx] w fun e w'=>∃v,e= .returned (.tuple #[v,.int .i64 0])∧cP w' v (p.app x)∧Below w.heap.size w w':=by
 refine(gL (ρ:=frs (mP p x)++([.tree t m E,.val (.string c),.val (.string d),.val (.int .i64 a)]:List Vp)) (w:=w) (fuel:=300) (args:=[.one (.ref 39),.one (.ref 40),.one (.ref 41),.one (.ref 42),row [0,1,2]]) (vs:=[ptB t,.string c,.string d,.int .i64 a,vx]) (r:=.tup [row [10,11,12],.one (.i .i64 0)]) (lo:=[]) (obs:=[])
  (ae (mO (n:=39) (kr:=[3,4,5,6,7,8,9]) rfl hE (ku (n:=40) rfl) (ku (n:=41) rfl) (aw (n:=42) rfl) hp ⟨rfl,rfl,rfl,rfl,rfl,rfl,rfl,trivial⟩ kc_c) (ae (sH (ka:=[3,4,5,6,7,8,9]) (kx:=[0,1,2]) (kr:=[10,11,12]) ⟨rfl,rfl,rfl,rfl,rfl,rfl,rfl,trivial⟩ ⟨rfl,rfl,rfl,trivial⟩ ⟨rfl,rfl,rfl,trivial⟩ (op.mono (by decide)) (ox.mono (by decide)) gp gx) ah))
  ai (by kernel_rfl) Tryz.func24 (by kernel_rfl) aT ⟨yA (m:=39) rfl ⟨rfl,hT⟩,⟨aB (n:=40) rfl cT,⟨aB (n:=41) rfl cT,⟨aB (n:=42) rfl aH,⟨(ag (xs:=mP p x) (ks:=[0,1,2]) (vs:=[x.x,x.y,x.z]) ⟨rfl,rfl,rfl,trivial⟩).2 ix,trivial⟩⟩⟩⟩⟩).mono ?_
 rintro e w' ⟨v,rfl,⟨vs,rfl,h1⟩,h2⟩
 match vs,h1 with
 | [y,z],h1=>
  obtain⟨k1,k2,_⟩:=h1;have k2:z= .int .i64 0:=k2;subst k2;exact⟨y,rfl,(ag (xs:=mP p x) (ks:=[10,11,12]) (vs:=[(p.app x).x,(p.app x).y,(p.app x).z]) ⟨rfl,rfl,rfl,trivial⟩).1 k1,h2⟩
def rt (p:Pq) (x:Vq):List Fq:=([x.x,x.y,x.z]++(p.cs))
theorem q_Move1 {w:World} {t m:Nat} {E:List Ch} {c d:Nm} {a u:Int} {p:Pq} {vx:Value} {x:Vq} (hT:TM w t m E) (hE:Sane (trE E)) (hp:bJ (trE E) a c d=(p,u)) (hu:u≠0) (ix:cP w vx x):
  Calls Tryz.prog 24 #[ptB t,.string c,.string d,.int .i64 a,vx] w fun e w'=>∃v,e= .returned (.tuple #[v,.int .i64 u])∧cP w' v Vq0∧Below w.heap.size w w':=by
 refine(gL (ρ:=frs (rt p x)++([.tree t m E,.val (.string c),.val (.string d),.val (.int .i64 a),.val (.int .i64 u)]:List Vp)) (w:=w) (fuel:=300) (args:=[.one (.ref 30),.one (.ref 31),.one (.ref 32),.one (.ref 33),row [0,1,2]]) (vs:=[ptB t,.string c,.string d,.int .i64 a,vx]) (r:=.tup [.agg [.b false,.sl0,.sl0,.b false,.sl0,.sl0,.b false,.sl0,.sl0],.one (.ref 34)]) (lo:=[]) (obs:=[])
  (ae (mO (n:=30) (kr:=[3,4,5,6,7,8,9]) rfl hE (ku (n:=31) rfl) (ku (n:=32) rfl) (aw (n:=33) rfl) hp ⟨rfl,rfl,rfl,rfl,rfl,rfl,rfl,trivial⟩ (kc_r (n:=34) rfl)) ah)
  (af (aE (t:=40) (aw (n:=34) rfl) (aS (c:=0)) (uC (by omega))) (ai)) (by kernel_rfl) Tryz.func24 (by kernel_rfl) aT ⟨yA (m:=30) rfl ⟨rfl,hT⟩,⟨aB (n:=31) rfl cT,⟨aB (n:=32) rfl cT,⟨aB (n:=33) rfl aH,⟨(ag (xs:=rt p x) (ks:=[0,1,2]) (vs:=[x.x,x.y,x.z]) ⟨rfl,rfl,rfl,trivial⟩).2 ix,trivial⟩⟩⟩⟩⟩).mono ?_
 rintro e w' ⟨v,rfl,⟨vs,rfl,h1⟩,h2⟩
 match vs,h1 with
 | [y,z],h1=>
  obtain⟨⟨cs,rfl,k1⟩,k2,_⟩:=h1;have k2:z= .int .i64 u:=aO rfl k2;subst k2;have hz:cs=mN:=by
   have hl:=k1.len
   match cs,hl,k1 with
   | [c0,c1,c2,c3,c4,c5,c6,c7,c8],_,h=>
    obtain⟨h0,h1,h2,h3,h4,h5,h6,h7,h8,_⟩:=h;rw[show c0=_ from h0,show c1=_ from h1,show c2=_ from h2,show c3=_ from h3,show c4=_ from h4,show c5=_ from h5,show c6=_ from h6,show c7=_ from h7,show c8=_ from h8];rfl
  subst hz;exact⟨_,rfl,zero_vq _,h2⟩
section
variable {xs:List Fq} {ys:Rho} {n:Nat} {kx kr:List Nat} {l l' l'' lc:Leaf} {t m:Nat} {E:List Ch} {c d:Nm} {a u:Int} {p:Pq} {x:Vq}
theorem I_Move0 (ht:(frs xs++ys)[n]? =some (.tree t m E)) (hE:Sane (trE E)) (h1:KT (frs xs++ys) l c) (h2:KT (frs xs++ys) l' d) (h3:KI (frs xs++ys) l'' .i64 a) (hp:bJ (trE E) a c d=(p,0)) (ax:AtL xs kx [x.x,x.y,x.z]) (ar:AtL xs kr [(p.app x).x,(p.app x).y,(p.app x).z]) (ox:x.ok 1000) (gx:x.good):
  OkI xs ys ⟨24,[.one (.ref n),.one l,.one l',.one l'',row kx],.tup [row kr,.one (.i .i64 0)]⟩:=
 ⟨az Tryz.func24 rfl rfl,fun B w vs hB hv=>by
  match vs,hv with
  | [v0,v1,v2,v3,v4],hv=>
   obtain⟨e0,hT⟩:=pM ht hv.1;have e1:=h1 _ _ _ hv.2.1;have e2:=h2 _ _ _ hv.2.2.1;have e3:=h3 _ _ _ hv.2.2.2.1;subst e0;subst e1;subst e2;subst e3;have hk:=vg hE (show(bJ (trE E) a c d).2=0 by rw[hp]);rw[hp]at hk;refine(q_Move0 hT hE hp hk.1 hk.2 ((ag ax).1 hv.2.2.2.2.1) ox gx).mono ?_;rintro e' w' ⟨v,rfl,h6,hw⟩;exact⟨_,rfl,⟨[v,.int .i64 0],rfl,(ag ar).2 h6,rfl,trivial⟩,hw⟩⟩
theorem I_Move1 (ht:(frs xs++ys)[n]? =some (.tree t m E)) (hE:Sane (trE E)) (h1:KT (frs xs++ys) l c) (h2:KT (frs xs++ys) l' d) (h3:KI (frs xs++ys) l'' .i64 a) (hp:bJ (trE E) a c d=(p,u)) (hu:u≠0) (ax:AtL xs kx [x.x,x.y,x.z]) (ar:AtL xs kr [Vq0.x,Vq0.y,Vq0.z]) (hc:∀B w,lc.holds (frs xs++ys) B w (.int .i64 u)):
  OkI xs ys ⟨24,[.one (.ref n),.one l,.one l',.one l'',row kx],.tup [row kr,.one lc]⟩:=
 ⟨az Tryz.func24 rfl rfl,fun B w vs hB hv=>by
  match vs,hv with
  | [v0,v1,v2,v3,v4],hv=>
   obtain⟨e0,hT⟩:=pM ht hv.1;have e1:=h1 _ _ _ hv.2.1;have e2:=h2 _ _ _ hv.2.2.1;have e3:=h3 _ _ _ hv.2.2.2.1;subst e0;subst e1;subst e2;subst e3;refine(q_Move1 hT hE hp hu ((ag ax).1 hv.2.2.2.2.1)).mono ?_;rintro e' w' ⟨v,rfl,h6,hw⟩;exact⟨_,rfl,⟨[v,.int .i64 u],rfl,(ag ar).2 h6,hc _ _,trivial⟩,hw⟩⟩
end
noncomputable def tRest3:Code:=(gV 3 Tryz.prog 4).getD .skip
theorem fA:gV 3 Tryz.prog 4=some tRest3:=by kernel_rfl
theorem fm_ok {x y:Vq} (ox:x.ok 2) (oy:y.ok 2):(Vq.mk ((x.sub y).dot (x.sub y)) (x.sub y).y (x.sub y).z).ok 1000000:=
 ⟨((ox.sub oy).dot (ox.sub oy)).mono (by decide),(ox.sub oy).y.mono (by decide),(ox.sub oy).z.mono (by decide)⟩
theorem cF (x y z:Int):(Vq.of (x.tmod 1000) (y.tmod 1000) (z.tmod 1000)).ok 2:=by
 have hx:=i7 x;have hy:=i7 y;have hz:=i7 z;exact oZ (by omega) (by omega) (by omega) (by omega) (by omega) (by omega)
def xtrAX (u0 u1 u2 v0 v1 v2:Int) (P1:Pq):List Fq:=(P1.cs++([(Vq.of (u0.tmod 1000) (u1.tmod 1000) (u2.tmod 1000)).x,(Vq.of (u0.tmod 1000) (u1.tmod 1000) (u2.tmod 1000)).y,(Vq.of (u0.tmod 1000) (u1.tmod 1000) (u2.tmod 1000)).z,(Vq.of (v0.tmod 1000) (v1.tmod 1000) (v2.tmod 1000)).x,(Vq.of (v0.tmod 1000) (v1.tmod 1000) (v2.tmod 1000)).y,(Vq.of (v0.tmod 1000) (v1.tmod 1000) (v2.tmod 1000)).z,(P1.app (Vq.of (u0.tmod 1000) (u1.tmod 1000) (u2.tmod 1000))).x,(P1.app (Vq.of (u0.tmod 1000) (u1.tmod 1000) (u2.tmod 1000))).y,(P1.app (Vq.of (u0.tmod 1000) (u1.tmod 1000) (u2.tmod 1000))).z,((Vq.of (u0.tmod 1000) (u1.tmod 1000) (u2.tmod 1000)).sub (Vq.of (v0.tmod 1000) (v1.tmod 1000) (v2.tmod 1000))).x,((Vq.of (u0.tmod 1000) (u1.tmod 1000) (u2.tmod 1000)).sub (Vq.of (v0.tmod 1000) (v1.tmod 1000) (v2.tmod 1000))).y,((Vq.of (u0.tmod 1000) (u1.tmod 1000) (u2.tmod 1000)).sub (Vq.of (v0.tmod 1000) (v1.tmod 1000) (v2.tmod 1000))).z,(P1.app (Vq.of (v0.tmod 1000) (v1.tmod 1000) (v2.tmod 1000))).x,(P1.app (Vq.of (v0.tmod 1000) (v1.tmod 1000) (v2.tmod 1000))).y,(P1.app (Vq.of (v0.tmod 1000) (v1.tmod 1000) (v2.tmod 1000))).z,((P1.app (Vq.of (u0.tmod 1000) (u1.tmod 1000) (u2.tmod 1000))).sub (P1.app (Vq.of (v0.tmod 1000) (v1.tmod 1000) (v2.tmod 1000)))).x,((P1.app (Vq.of (u0.tmod 1000) (u1.tmod 1000) (u2.tmod 1000))).sub (P1.app (Vq.of (v0.tmod 1000) (v1.tmod 1000) (v2.tmod 1000)))).y,((P1.app (Vq.of (u0.tmod 1000) (u1.tmod 1000) (u2.tmod 1000))).sub (P1.app (Vq.of (v0.tmod 1000) (v1.tmod 1000) (v2.tmod 1000)))).z,(((Vq.of (u0.tmod 1000) (u1.tmod 1000) (u2.tmod 1000)).sub (Vq.of (v0.tmod 1000) (v1.tmod 1000) (v2.tmod 1000))).dot ((Vq.of (u0.tmod 1000) (u1.tmod 1000) (u2.tmod 1000)).sub (Vq.of (v0.tmod 1000) (v1.tmod 1000) (v2.tmod 1000))))]))
theorem tl_trA {we w:World} {B5 B7 B8:Nat} {ts:List Value} {Q:Exit→Act→World→Prop} {tb tm:Nat} {E:List Ch} (a b t u0 u1 u2 v0 v1 v2:Int) (P1:Pq) (ha:I64 a) (hb:I64 b) (hE:Sane (trE E)) (hab:bJ (trE E) t (frm a) (frm b)=(P1,0)) (oP1:P1.ok 6000) (gP1:P1.good)
  (hT:TM w tb tm E) (hn5:B5∉fpT tb tm E) (hn7:B7∉fpT tb tm E) (hn8:B8∉fpT tb tm E) (hnd:[B5,B7,B8].Nodup) (hbl:Below we.heap.size we w) (hg5:we.heap.size≤B5) (hg7:we.heap.size≤B7) (hg8:we.heap.size≤B8) (hq5:w.heap[B5]? =some (.cells #[.int .i64 a,.int .i64 b] 48 (0,0))) (hq7:w.heap[B7]? =some (.cells #[.int .i16 u0,.int .i16 u1,.int .i16 u2] 50 (0,0))) (hq8:w.heap[B8]? =some (.cells #[.int .i16 v0,.int .i16 v1,.int .i16 v2] 50 (0,0)))
  (h5:ts[5]? =some (.pointer (some ⟨B5,0,none⟩))) (h6:ts[6]? =some (.int .i64 t)) (h7:ts[7]? =some (.pointer (some ⟨B7,0,none⟩))) (h8:ts[8]? =some (.pointer (some ⟨B8,0,none⟩))) (h9:ts[9]? =some (ptB tb)) (h10:ts[10]? =some (.bool true)) (hn:ts.length=131)
  (hQ:∀a' w',a'.tmps.getD 4 undef= .bool true→a'.defers=[]→Below we.heap.size we w'→Q .ret a' w'):∀c,gV 3 Tryz.prog 4=some c→c.wp Tryz.prog Q ⟨ts.toArray,[]⟩ w:=by
 intro cc hcc;have hr:=fA;rw[hcc]at hr;injection hr with hr;subst hr;obtain⟨y0,y1,y2,y3,y4,y5,y6,y7,y8,y9,y10,tl,rfl⟩:∃y0 y1 y2 y3 y4 y5 y6 y7 y8 y9 y10 tl,ts=y0::y1::y2::y3::y4::y5::y6::y7::y8::y9::y10::tl:=by
  match ts,hn with
  | y0::y1::y2::y3::y4::y5::y6::y7::y8::y9::y10::tl,_=>exact⟨_,_,_,_,_,_,_,_,_,_,_,_,rfl⟩
 injection h5 with h5;injection h6 with h6;injection h7 with h7;injection h8 with h8;injection h9 with h9;injection h10 with h10;subst h5;subst h6;subst h7;subst h8;subst h9;subst h10;refine ju (x:=4) (n:=400) (by decide) (ρ:=frs (xtrAX u0 u1 u2 v0 v1 v2 P1)++([.tree tb tm E,.val (.int .i64 a),.val (.int .i64 b),.val (.int .i64 t),.val (.int .i16 u0),.val (.int .i16 u1),.val (.int .i16 u2),.val (.int .i16 v0),.val (.int .i16 v1),.val (.int .i16 v2),.val (.string (frm a)),.val (.string (frm b)),.val (.int .i16 (u0.tmod 1000)),.val (.int .i64 (u0.tmod 1000)),.val (.int .i16 (u1.tmod 1000)),.val (.int .i64 (u1.tmod 1000)),.val (.int .i16 (u2.tmod 1000)),.val (.int .i64 (u2.tmod 1000)),.val (.int .i16 (v0.tmod 1000)),.val (.int .i64 (v0.tmod 1000)),.val (.int .i16 (v1.tmod 1000)),.val (.int .i64 (v1.tmod 1000)),.val (.int .i16 (v2.tmod 1000)),.val (.int .i64 (v2.tmod 1000)),.val (.string (Vq.mk (((Vq.of (u0.tmod 1000) (u1.tmod 1000) (u2.tmod 1000)).sub (Vq.of (v0.tmod 1000) (v1.tmod 1000) (v2.tmod 1000))).dot ((Vq.of (u0.tmod 1000) (u1.tmod 1000) (u2.tmod 1000)).sub (Vq.of (v0.tmod 1000) (v1.tmod 1000) (v2.tmod 1000)))) ((Vq.of (u0.tmod 1000) (u1.tmod 1000) (u2.tmod 1000)).sub (Vq.of (v0.tmod 1000) (v1.tmod 1000) (v2.tmod 1000))).y ((Vq.of (u0.tmod 1000) (u1.tmod 1000) (u2.tmod 1000)).sub (Vq.of (v0.tmod 1000) (v1.tmod 1000) (v2.tmod 1000))).z).fmt)]:List Vp))
  (ae (n8 (m:=88) (aw (n:=79) rfl) rfl ha) (ae (n8 (m:=89) (aw (n:=80) rfl) rfl hb) (ae (mO (n:=78) (kr:=[0,1,2,3,4,5,6]) rfl hE (ku (n:=88) rfl) (ku (n:=89) rfl) (aw (n:=81) rfl) hab ⟨rfl,rfl,rfl,rfl,rfl,rfl,rfl,trivial⟩ kc_c) (ae (tk (kr:=[7,8,9]) (aw (n:=91) rfl) (aw (n:=93) rfl) (aw (n:=95) rfl) ⟨rfl,rfl,rfl,trivial⟩ (i7 u0) (i7 u1) (i7 u2)) (ae (tk (kr:=[10,11,12]) (aw (n:=97) rfl) (aw (n:=99) rfl) (aw (n:=101) rfl) ⟨rfl,rfl,rfl,trivial⟩ (i7 v0) (i7 v1) (i7 v2)) (ae (I_Move0 (n:=78) (kx:=[7,8,9]) (kr:=[13,14,15]) rfl hE (ku (n:=88) rfl) (ku (n:=89) rfl) (aw (n:=81) rfl) hab ⟨rfl,rfl,rfl,trivial⟩ ⟨rfl,rfl,rfl,trivial⟩ ((cF u0 u1 u2).mono (by decide)) (Vq.good.of _ _ _)) (ae (wy (ka:=[7,8,9]) (kb:=[10,11,12]) (kr:=[16,17,18]) ⟨rfl,rfl,rfl,trivial⟩ ⟨rfl,rfl,rfl,trivial⟩ ⟨rfl,rfl,rfl,trivial⟩ ((cF u0 u1 u2).mono (by decide)) ((cF v0 v1 v2).mono (by decide))) (ae (sH (ka:=[0,1,2,3,4,5,6]) (kx:=[7,8,9]) (kr:=[13,14,15]) ⟨rfl,rfl,rfl,rfl,rfl,rfl,rfl,trivial⟩ ⟨rfl,rfl,rfl,trivial⟩ ⟨rfl,rfl,rfl,trivial⟩ (oP1.mono (by decide)) ((cF u0 u1 u2).mono (by decide)) gP1 (Vq.good.of _ _ _)) (ae (sH (ka:=[0,1,2,3,4,5,6]) (kx:=[10,11,12]) (kr:=[19,20,21]) ⟨rfl,rfl,rfl,rfl,rfl,rfl,rfl,trivial⟩ ⟨rfl,rfl,rfl,trivial⟩ ⟨rfl,rfl,rfl,trivial⟩ (oP1.mono (by decide)) ((cF v0 v1 v2).mono (by decide)) gP1 (Vq.good.of _ _ _)) (ae (wy (ka:=[13,14,15]) (kb:=[19,20,21]) (kr:=[22,23,24]) ⟨rfl,rfl,rfl,trivial⟩ ⟨rfl,rfl,rfl,trivial⟩ ⟨rfl,rfl,rfl,trivial⟩ ((oP1.app (cF u0 u1 u2) gP1).mono (by decide)) ((oP1.app (cF v0 v1 v2) gP1).mono (by decide))) (ae (q9 (ka:=[13,14,15]) (kb:=[13,14,15]) (a:=(P1.app (Vq.of (u0.tmod 1000) (u1.tmod 1000) (u2.tmod 1000)))) (b:=(P1.app (Vq.of (u0.tmod 1000) (u1.tmod 1000) (u2.tmod 1000)))) ⟨rfl,rfl,rfl,trivial⟩ ⟨rfl,rfl,rfl,trivial⟩ ((oP1.app (cF u0 u1 u2) gP1).mono (by decide)) ((oP1.app (cF u0 u1 u2) gP1).mono (by decide)) rfl (gP1.app (Vq.good.of _ _ _)) (gP1.app (Vq.good.of _ _ _))) (ae (yQ (ka:=[16,17,18]) (kb:=[16,17,18]) (ir:=25) ⟨rfl,rfl,rfl,trivial⟩ ⟨rfl,rfl,rfl,trivial⟩ rfl (((cF u0 u1 u2).sub (cF v0 v1 v2)).mono (by decide)) (((cF u0 u1 u2).sub (cF v0 v1 v2)).mono (by decide)) rfl) (ae (xG (kr:=[25,17,18]) (v:=(Vq.mk (((Vq.of (u0.tmod 1000) (u1.tmod 1000) (u2.tmod 1000)).sub (Vq.of (v0.tmod 1000) (v1.tmod 1000) (v2.tmod 1000))).dot ((Vq.of (u0.tmod 1000) (u1.tmod 1000) (u2.tmod 1000)).sub (Vq.of (v0.tmod 1000) (v1.tmod 1000) (v2.tmod 1000)))) ((Vq.of (u0.tmod 1000) (u1.tmod 1000) (u2.tmod 1000)).sub (Vq.of (v0.tmod 1000) (v1.tmod 1000) (v2.tmod 1000))).y ((Vq.of (u0.tmod 1000) (u1.tmod 1000) (u2.tmod 1000)).sub (Vq.of (v0.tmod 1000) (v1.tmod 1000) (v2.tmod 1000))).z)) ⟨rfl,rfl,rfl,trivial⟩ (ls (n:=102) rfl) (fm_ok (cF u0 u1 u2) (cF v0 v1 v2))) (ae (yQ (ka:=[22,23,24]) (kb:=[22,23,24]) (ir:=25) ⟨rfl,rfl,rfl,trivial⟩ ⟨rfl,rfl,rfl,trivial⟩ rfl (((oP1.app (cF u0 u1 u2) gP1).sub (oP1.app (cF v0 v1 v2) gP1)).mono (by decide)) (((oP1.app (cF u0 u1 u2) gP1).sub (oP1.app (cF v0 v1 v2) gP1)).mono (by decide)) (o_rigid gP1 (Vq.good.of _ _ _) (Vq.good.of _ _ _))) (ae (i6) ah)))))))))))))))
  (af (dw (t:=49) (u:=u0) (m:=90) (k:=1000) (aw (n:=82) rfl) rfl rfl (by decide)) (af (hZ (m:=91) (s:=49) (d:=2) Tryz.underlying49 Tryz.underlying2 (aw (n:=90) rfl) rfl (ie u0) (ig u0)) (af (dw (t:=49) (u:=u1) (m:=92) (k:=1000) (aw (n:=83) rfl) rfl rfl (by decide)) (af (hZ (m:=93) (s:=49) (d:=2) Tryz.underlying49 Tryz.underlying2 (aw (n:=92) rfl) rfl (ie u1) (ig u1)) (af (dw (t:=49) (u:=u2) (m:=94) (k:=1000) (aw (n:=84) rfl) rfl rfl (by decide)) (af (hZ (m:=95) (s:=49) (d:=2) Tryz.underlying49 Tryz.underlying2 (aw (n:=94) rfl) rfl (ie u2) (ig u2)) (af (dw (t:=49) (u:=v0) (m:=96) (k:=1000) (aw (n:=85) rfl) rfl rfl (by decide)) (af (hZ (m:=97) (s:=49) (d:=2) Tryz.underlying49 Tryz.underlying2 (aw (n:=96) rfl) rfl (ie v0) (ig v0)) (af (dw (t:=49) (u:=v1) (m:=98) (k:=1000) (aw (n:=86) rfl) rfl rfl (by decide)) (af (hZ (m:=99) (s:=49) (d:=2) Tryz.underlying49 Tryz.underlying2 (aw (n:=98) rfl) rfl (ie v1) (ig v1)) (af (dw (t:=49) (u:=v2) (m:=100) (k:=1000) (aw (n:=87) rfl) rfl rfl (by decide)) (af (hZ (m:=101) (s:=49) (d:=2) Tryz.underlying49 Tryz.underlying2 (aw (n:=100) rfl) rfl (ie v2) (ig v2)) (af (yN (t:=9) (c:=(Vq.mk (((Vq.of (u0.tmod 1000) (u1.tmod 1000) (u2.tmod 1000)).sub (Vq.of (v0.tmod 1000) (v1.tmod 1000) (v2.tmod 1000))).dot ((Vq.of (u0.tmod 1000) (u1.tmod 1000) (u2.tmod 1000)).sub (Vq.of (v0.tmod 1000) (v1.tmod 1000) (v2.tmod 1000)))) ((Vq.of (u0.tmod 1000) (u1.tmod 1000) (u2.tmod 1000)).sub (Vq.of (v0.tmod 1000) (v1.tmod 1000) (v2.tmod 1000))).y ((Vq.of (u0.tmod 1000) (u1.tmod 1000) (u2.tmod 1000)).sub (Vq.of (v0.tmod 1000) (v1.tmod 1000) (v2.tmod 1000))).z).fmt) (p:=(Vq.mk (((Vq.of (u0.tmod 1000) (u1.tmod 1000) (u2.tmod 1000)).sub (Vq.of (v0.tmod 1000) (v1.tmod 1000) (v2.tmod 1000))).dot ((Vq.of (u0.tmod 1000) (u1.tmod 1000) (u2.tmod 1000)).sub (Vq.of (v0.tmod 1000) (v1.tmod 1000) (v2.tmod 1000)))) ((Vq.of (u0.tmod 1000) (u1.tmod 1000) (u2.tmod 1000)).sub (Vq.of (v0.tmod 1000) (v1.tmod 1000) (v2.tmod 1000))).y ((Vq.of (u0.tmod 1000) (u1.tmod 1000) (u2.tmod 1000)).sub (Vq.of (v0.tmod 1000) (v1.tmod 1000) (v2.tmod 1000))).z).fmt) (b:=true) (by kernel_rfl) (ku (n:=102) rfl) (ku (n:=102) rfl) (decide_eq_true rfl)) (ai)))))))))))))) (by kernel_rfl) ?_
  (i5 (nt:=131) (V:=[(48,B5,[.int .i64 a,.int .i64 b],[.ref 79,.ref 80]),(50,B7,[.int .i16 u0,.int .i16 u1,.int .i16 u2],[.ref 82,.ref 83,.ref 84]),(50,B8,[.int .i16 v0,.int .i16 v1,.int .i16 v2],[.ref 85,.ref 86,.ref 87])]) (known:=[none,none,none,none,none,some (.v (.one (.ptr 0 0))),some (.v (.one (.ref 81))),some (.v (.one (.ptr 1 0))),some (.v (.one (.ptr 2 0))),some (.v (.one (.ref 78))),some (.v (.one (.b true)))]) hbl hnd (fun x hx=>by
   simp only[List.mem_cons,List.not_mem_nil,or_false]at hx;rcases hx with rfl | rfl | rfl
   ·exact⟨hg5,hq5,fun u hu n e=>by(simp at hu;rcases hu with rfl | rfl<;>cases e),⟨aB (n:=79) rfl (aY (by decide)),aB (n:=80) rfl (aY (by decide)),trivial⟩⟩
   ·exact⟨hg7,hq7,fun u hu n e=>by(simp at hu;rcases hu with rfl | rfl | rfl<;>cases e),⟨aB (n:=82) rfl (aY (by decide)),aB (n:=83) rfl (aY (by decide)),aB (n:=84) rfl (aY (by decide)),trivial⟩⟩
   ·exact⟨hg8,hq8,fun u hu n e=>by(simp at hu;rcases hu with rfl | rfl | rfl<;>cases e),⟨aB (n:=85) rfl (aY (by decide)),aB (n:=86) rfl (aY (by decide)),aB (n:=87) rfl (aY (by decide)),trivial⟩⟩
   ) ⟨⟨B5,rfl,rfl⟩,aB (n:=81) rfl aH,⟨B7,rfl,rfl⟩,⟨B8,rfl,rfl⟩,⟨_,rfl,⟨rfl,hT⟩,fun g hg hx=>by
    have:=pN hx;simp only[List.map_cons,List.map_nil,List.mem_cons,List.not_mem_nil,or_false]at this;rcases this with rfl | rfl | rfl
    ·exact hn5 hg
    ·exact hn7 hg
    ·exact hn8 hg⟩,rfl,trivial⟩ (by simpa using hn))
  (fun a' w' h1 h2 h3=>hQ a' w' h1 h2 h3.to)
 ·kernel_rfl
def xtrBX (u0 u1 u2 v0 v1 v2:Int) (P1:Pq):List Fq:=(P1.cs++([(Vq.of (u0.tmod 1000) (u1.tmod 1000) (u2.tmod 1000)).x,(Vq.of (u0.tmod 1000) (u1.tmod 1000) (u2.tmod 1000)).y,(Vq.of (u0.tmod 1000) (u1.tmod 1000) (u2.tmod 1000)).z,(Vq.of (v0.tmod 1000) (v1.tmod 1000) (v2.tmod 1000)).x,(Vq.of (v0.tmod 1000) (v1.tmod 1000) (v2.tmod 1000)).y,(Vq.of (v0.tmod 1000) (v1.tmod 1000) (v2.tmod 1000)).z,Vq0.x,Vq0.y,Vq0.z]))
theorem tl_trB {we w:World} {B5 B7 B8:Nat} {ts:List Value} {Q:Exit→Act→World→Prop} {tb tm:Nat} {E:List Ch} (a b t u0 u1 u2 v0 v1 v2:Int) (P1:Pq) (e:Int) (ha:I64 a) (hb:I64 b) (hE:Sane (trE E)) (hab:bJ (trE E) t (frm a) (frm b)=(P1,e)) (he:e≠0)
  (hT:TM w tb tm E) (hn5:B5∉fpT tb tm E) (hn7:B7∉fpT tb tm E) (hn8:B8∉fpT tb tm E) (hnd:[B5,B7,B8].Nodup) (hbl:Below we.heap.size we w) (hg5:we.heap.size≤B5) (hg7:we.heap.size≤B7) (hg8:we.heap.size≤B8) (hq5:w.heap[B5]? =some (.cells #[.int .i64 a,.int .i64 b] 48 (0,0))) (hq7:w.heap[B7]? =some (.cells #[.int .i16 u0,.int .i16 u1,.int .i16 u2] 50 (0,0))) (hq8:w.heap[B8]? =some (.cells #[.int .i16 v0,.int .i16 v1,.int .i16 v2] 50 (0,0)))
  (h5:ts[5]? =some (.pointer (some ⟨B5,0,none⟩))) (h6:ts[6]? =some (.int .i64 t)) (h7:ts[7]? =some (.pointer (some ⟨B7,0,none⟩))) (h8:ts[8]? =some (.pointer (some ⟨B8,0,none⟩))) (h9:ts[9]? =some (ptB tb)) (h10:ts[10]? =some (.bool true)) (hn:ts.length=131)
  (hQ:∀a' w',a'.tmps.getD 4 undef= .bool true→a'.defers=[]→Below we.heap.size we w'→Q .ret a' w'):∀c,gV 3 Tryz.prog 4=some c→c.wp Tryz.prog Q ⟨ts.toArray,[]⟩ w:=by
 intro cc hcc;have hr:=fA;rw[hcc]at hr;injection hr with hr;subst hr;obtain⟨y0,y1,y2,y3,y4,y5,y6,y7,y8,y9,y10,tl,rfl⟩:∃y0 y1 y2 y3 y4 y5 y6 y7 y8 y9 y10 tl,ts=y0::y1::y2::y3::y4::y5::y6::y7::y8::y9::y10::tl:=by
  match ts,hn with
  | y0::y1::y2::y3::y4::y5::y6::y7::y8::y9::y10::tl,_=>exact⟨_,_,_,_,_,_,_,_,_,_,_,_,rfl⟩
 injection h5 with h5;injection h6 with h6;injection h7 with h7;injection h8 with h8;injection h9 with h9;injection h10 with h10;subst h5;subst h6;subst h7;subst h8;subst h9;subst h10;refine ju (x:=4) (n:=400) (by decide) (ρ:=frs (xtrBX u0 u1 u2 v0 v1 v2 P1)++([.tree tb tm E,.val (.int .i64 a),.val (.int .i64 b),.val (.int .i64 t),.val (.int .i16 u0),.val (.int .i16 u1),.val (.int .i16 u2),.val (.int .i16 v0),.val (.int .i16 v1),.val (.int .i16 v2),.val (.string (frm a)),.val (.string (frm b)),.val (.int .i64 e),.val (.int .i16 (u0.tmod 1000)),.val (.int .i64 (u0.tmod 1000)),.val (.int .i16 (u1.tmod 1000)),.val (.int .i64 (u1.tmod 1000)),.val (.int .i16 (u2.tmod 1000)),.val (.int .i64 (u2.tmod 1000)),.val (.int .i16 (v0.tmod 1000)),.val (.int .i64 (v0.tmod 1000)),.val (.int .i16 (v1.tmod 1000)),.val (.int .i64 (v1.tmod 1000)),.val (.int .i16 (v2.tmod 1000)),.val (.int .i64 (v2.tmod 1000))]:List Vp))
  (ae (n8 (m:=58) (aw (n:=49) rfl) rfl ha) (ae (n8 (m:=59) (aw (n:=50) rfl) rfl hb) (ae (mO (n:=48) (kr:=[0,1,2,3,4,5,6]) rfl hE (ku (n:=58) rfl) (ku (n:=59) rfl) (aw (n:=51) rfl) hab ⟨rfl,rfl,rfl,rfl,rfl,rfl,rfl,trivial⟩ (kc_r (n:=60) rfl)) (ae (tk (kr:=[7,8,9]) (aw (n:=62) rfl) (aw (n:=64) rfl) (aw (n:=66) rfl) ⟨rfl,rfl,rfl,trivial⟩ (i7 u0) (i7 u1) (i7 u2)) (ae (tk (kr:=[10,11,12]) (aw (n:=68) rfl) (aw (n:=70) rfl) (aw (n:=72) rfl) ⟨rfl,rfl,rfl,trivial⟩ (i7 v0) (i7 v1) (i7 v2)) (ae (I_Move1 (n:=48) (kx:=[7,8,9]) (kr:=[13,14,15]) (x:=(Vq.of (u0.tmod 1000) (u1.tmod 1000) (u2.tmod 1000))) rfl hE (ku (n:=58) rfl) (ku (n:=59) rfl) (aw (n:=51) rfl) hab he ⟨rfl,rfl,rfl,trivial⟩ ⟨rfl,rfl,rfl,trivial⟩ (kc_r (n:=60) rfl)) (ae (i6) ah)))))))
  (af (dw (t:=49) (u:=u0) (m:=61) (k:=1000) (aw (n:=52) rfl) rfl rfl (by decide)) (af (hZ (m:=62) (s:=49) (d:=2) Tryz.underlying49 Tryz.underlying2 (aw (n:=61) rfl) rfl (ie u0) (ig u0)) (af (dw (t:=49) (u:=u1) (m:=63) (k:=1000) (aw (n:=53) rfl) rfl rfl (by decide)) (af (hZ (m:=64) (s:=49) (d:=2) Tryz.underlying49 Tryz.underlying2 (aw (n:=63) rfl) rfl (ie u1) (ig u1)) (af (dw (t:=49) (u:=u2) (m:=65) (k:=1000) (aw (n:=54) rfl) rfl rfl (by decide)) (af (hZ (m:=66) (s:=49) (d:=2) Tryz.underlying49 Tryz.underlying2 (aw (n:=65) rfl) rfl (ie u2) (ig u2)) (af (dw (t:=49) (u:=v0) (m:=67) (k:=1000) (aw (n:=55) rfl) rfl rfl (by decide)) (af (hZ (m:=68) (s:=49) (d:=2) Tryz.underlying49 Tryz.underlying2 (aw (n:=67) rfl) rfl (ie v0) (ig v0)) (af (dw (t:=49) (u:=v1) (m:=69) (k:=1000) (aw (n:=56) rfl) rfl rfl (by decide)) (af (hZ (m:=70) (s:=49) (d:=2) Tryz.underlying49 Tryz.underlying2 (aw (n:=69) rfl) rfl (ie v1) (ig v1)) (af (dw (t:=49) (u:=v2) (m:=71) (k:=1000) (aw (n:=57) rfl) rfl rfl (by decide)) (af (hZ (m:=72) (s:=49) (d:=2) Tryz.underlying49 Tryz.underlying2 (aw (n:=71) rfl) rfl (ie v2) (ig v2)) (af (o_neqI (t:=40) (b:=false) (aw (n:=60) rfl) (aw (n:=60) rfl) (by simp)) (af (aE (t:=40) (aw (n:=60) rfl) (aS (c:=0)) (uC (by omega))) (ai))))))))))))))) (by kernel_rfl) ?_
  (i5 (nt:=131) (V:=[(48,B5,[.int .i64 a,.int .i64 b],[.ref 49,.ref 50]),(50,B7,[.int .i16 u0,.int .i16 u1,.int .i16 u2],[.ref 52,.ref 53,.ref 54]),(50,B8,[.int .i16 v0,.int .i16 v1,.int .i16 v2],[.ref 55,.ref 56,.ref 57])]) (known:=[none,none,none,none,none,some (.v (.one (.ptr 0 0))),some (.v (.one (.ref 51))),some (.v (.one (.ptr 1 0))),some (.v (.one (.ptr 2 0))),some (.v (.one (.ref 48))),some (.v (.one (.b true)))]) hbl hnd (fun x hx=>by
   simp only[List.mem_cons,List.not_mem_nil,or_false]at hx;rcases hx with rfl | rfl | rfl
   ·exact⟨hg5,hq5,fun u hu n e=>by(simp at hu;rcases hu with rfl | rfl<;>cases e),⟨aB (n:=49) rfl (aY (by decide)),aB (n:=50) rfl (aY (by decide)),trivial⟩⟩
   ·exact⟨hg7,hq7,fun u hu n e=>by(simp at hu;rcases hu with rfl | rfl | rfl<;>cases e),⟨aB (n:=52) rfl (aY (by decide)),aB (n:=53) rfl (aY (by decide)),aB (n:=54) rfl (aY (by decide)),trivial⟩⟩
   ·exact⟨hg8,hq8,fun u hu n e=>by(simp at hu;rcases hu with rfl | rfl | rfl<;>cases e),⟨aB (n:=55) rfl (aY (by decide)),aB (n:=56) rfl (aY (by decide)),aB (n:=57) rfl (aY (by decide)),trivial⟩⟩
   ) ⟨⟨B5,rfl,rfl⟩,aB (n:=51) rfl aH,⟨B7,rfl,rfl⟩,⟨B8,rfl,rfl⟩,⟨_,rfl,⟨rfl,hT⟩,fun g hg hx=>by
    have:=pN hx;simp only[List.map_cons,List.map_nil,List.mem_cons,List.not_mem_nil,or_false]at this;rcases this with rfl | rfl | rfl
    ·exact hn5 hg
    ·exact hn7 hg
    ·exact hn8 hg⟩,rfl,trivial⟩ (by simpa using hn))
  (fun a' w' h1 h2 h3=>hQ a' w' h1 h2 h3.to)
 ·kernel_rfl
theorem tr_tail {we w:World} {B5 B7 B8:Nat} {ts:List Value} {Q:Exit→Act→World→Prop} {tb tm:Nat} {E:List Ch} (a b t u0 u1 u2 v0 v1 v2:Int) (ha:I64 a) (hb:I64 b) (hE:Sane (trE E))
  (hT:TM w tb tm E) (hn5:B5∉fpT tb tm E) (hn7:B7∉fpT tb tm E) (hn8:B8∉fpT tb tm E) (hnd:[B5,B7,B8].Nodup) (hbl:Below we.heap.size we w) (hg5:we.heap.size≤B5) (hg7:we.heap.size≤B7) (hg8:we.heap.size≤B8) (hq5:w.heap[B5]? =some (.cells #[.int .i64 a,.int .i64 b] 48 (0,0))) (hq7:w.heap[B7]? =some (.cells #[.int .i16 u0,.int .i16 u1,.int .i16 u2] 50 (0,0))) (hq8:w.heap[B8]? =some (.cells #[.int .i16 v0,.int .i16 v1,.int .i16 v2] 50 (0,0)))
  (h5:ts[5]? =some (.pointer (some ⟨B5,0,none⟩))) (h6:ts[6]? =some (.int .i64 t)) (h7:ts[7]? =some (.pointer (some ⟨B7,0,none⟩))) (h8:ts[8]? =some (.pointer (some ⟨B8,0,none⟩))) (h9:ts[9]? =some (ptB tb)) (h10:ts[10]? =some (.bool true)) (hn:ts.length=131)
  (hQ:∀a' w',a'.tmps.getD 4 undef= .bool true→a'.defers=[]→Below we.heap.size we w'→Q .ret a' w'):∀c,gV 3 Tryz.prog 4=some c→c.wp Tryz.prog Q ⟨ts.toArray,[]⟩ w:=by
 obtain⟨P1,e,hab⟩:∃P e,bJ (trE E) t (frm a) (frm b)=(P,e):=⟨_,_,rfl⟩;by_cases he:e=0
 ·subst he;obtain⟨o1,g1⟩:=vg hE (show(bJ (trE E) t (frm a) (frm b)).2=0 by rw[hab]);rw[hab]at o1 g1;exact tl_trA a b t u0 u1 u2 v0 v1 v2 P1 ha hb hE hab o1 g1 hT hn5 hn7 hn8 hnd hbl hg5 hg7 hg8 hq5 hq7 hq8 h5 h6 h7 h8 h9 h10 hn hQ
 ·exact tl_trB a b t u0 u1 u2 v0 v1 v2 P1 e ha hb hE hab he hT hn5 hn7 hn8 hnd hbl hg5 hg7 hg8 hq5 hq7 hq8 h5 h6 h7 h8 h9 h10 hn hQ
theorem tr_no {we w:World} {ts:List Value} {Q:Exit→Act→World→Prop} (hbl:Below we.heap.size we w) (h8:ts[10]? =some (.bool false)) (hn:ts.length=131)
  (hQ:∀a' w',a'.tmps.getD 4 undef= .bool true→a'.defers=[]→Below we.heap.size we w'→Q .ret a' w'):∀c,gV 3 Tryz.prog 4=some c→c.wp Tryz.prog Q ⟨ts.toArray,[]⟩ w:=by
 intro c hc;have hr:=fA;rw[hc]at hr;injection hr with hr;subst hr;obtain⟨y0,y1,y2,y3,y4,y5,y6,y7,y8,y9,y10,tl,rfl⟩:∃y0 y1 y2 y3 y4 y5 y6 y7 y8 y9 y10 tl,ts=y0::y1::y2::y3::y4::y5::y6::y7::y8::y9::y10::tl:=by
  match ts,hn with
  | y0::y1::y2::y3::y4::y5::y6::y7::y8::y9::y10::tl,_=>exact⟨_,_,_,_,_,_,_,_,_,_,_,_,rfl⟩
 injection h8 with h8;subst h8;refine ju (x:=4) (n:=400) (by decide) (ρ:=[])
  (ae (i6) ah)
  ai (by kernel_rfl) ?_
  (i5 (nt:=131) (V:=[]) (known:=[none,none,none,none,none,none,none,none,none,none,some (.v (.one (.b false)))]) hbl List.nodup_nil (fun x h=>by cases h) ⟨rfl,trivial⟩ (by simpa using hn))
  (fun a' w' h1 h2 h3=>hQ a' w' h1 h2 h3.to)
 ·kernel_rfl
section
variable {p:Program} {ρ:Rho} {w0:Ent} {nt:Nat} {C:List Inst} {L:List OIns} {ops:Array Oper} {a:Act} {w:World}
theorem reg_vars {s:MS} {id:Nat} {draw:Bool} {Q:Exit→Act→World→Prop} (hC:∀i∈C,i.Ok0 p ρ w0) (hO:∀i∈L,i.OkE w0 p ρ) (hm:p.follows .mixedOrders=true) (K:List (Nat×AV)) (V:List (Nat×TypeId×List Leaf))
  (h0:(v7 p C L nt ops s).isSome=true) (hk:∀x∈K,(v7 p C L nt ops s).bind (fun s'=>bf s' x.1)=some x.2) (hv:∀y∈V,(v7 p C L nt ops s).bind (fun s'=>s'.vars[y.1]?)=some (y.2.1,y.2.2.map some)∧0<y.2.2.length∧y.2.2.length≤100000) (hs:MSt ρ w0 nt s a w)
  (hQ:∀a' w' B,BInj B→(∀v g,B.v v=some g→w0.may g)→(∀x∈K,bu ρ B a' w' x.1 x.2)→(∀y∈V,ol ρ B w' y)→a'.defers=[]→a'.tmps.size=nt→w0.kept w'→Q .normal a' w'):(Code.region id ops draw).wp p Q a w:=by
 cases hr:v7 p C L nt ops s with
 | none=>rw[hr]at h0;cases h0
 | some s'=>
  rw[hr]at hk hv;exact oH hC hO hm hr hs (fun a' w' ⟨B,hi,hg,_⟩=>hQ a' w' B hi.inj (fun v g h=>(hi.blk v g h).1) (fun x hx=>hg _ _ (hk x hx)) (fun y hy=>hi.var hg (hv y hy).1 (hv y hy).2.1 (hv y hy).2.2) hi.dfr hi.size hi.below)
end
section
variable {a:Act} {d e:Nat} {v u:Value}
theorem pt_eq (h:d<a.tmps.size):(a.put (some d) v).tmps[d]? =some v:=by simp[Act.put,Array.getElem?_setIfInBounds,h]
theorem ev_of (h:a.tmps[d]? =some v):a.eval (.tmp d)=v:=by simp[Act.eval,h]
end
section
variable {ρ:Rho} {B:Blk} {w:World} {cs:Array Value} {n m k:Nat} {u v x:Value}
theorem leaves2 (h:aC ρ B w [.ref n,.ref m] cs.toList) (hn:ρ[n]? =some (.val u)) (hm:ρ[m]? =some (.val v)):cs=#[u,v]:=by
 obtain⟨l⟩:=cs;have hl:=h.len
 match l,hl,h with
 | [a,b],_,h=>rw[aO hn h.1,aO hm h.2.1]
theorem yR (h:aC ρ B w [.ref n,.ref m,.ref k] cs.toList) (hn:ρ[n]? =some (.val u)) (hm:ρ[m]? =some (.val v)) (hk:ρ[k]? =some (.val x)):cs=#[u,v,x]:=by
 obtain⟨l⟩:=cs;have hl:=h.len
 match l,hl,h with
 | [a,b,c],_,h=>rw[aO hn h.1,aO hm h.2.1,aO hk h.2.2.1]
theorem vw {a:Act} {i:Nat} (hi:i<100000) (h:bu ρ B a w i (.v (.one (.ref n)))) (hn:ρ[n]? =some (.val u)):a.tmps[i]? =some u:=by
 unfold bu at h;rw[if_pos hi]at h;obtain⟨y,h1,h2⟩:=h;rw[h1,aO hn h2]
theorem pO {a:Act} {i j o:Nat} (hi:i<100000) (h:bu ρ B a w i (.v (.one (.ptr j o)))):∃g,B.v j=some g∧a.tmps[i]? =some (.pointer (some ⟨g,o,none⟩)):=by
 unfold bu at h;rw[if_pos hi]at h;obtain⟨y,h1,g,h2,h3⟩:=h;exact⟨g,h2,by rw[h1,h3]⟩
end
section
open Classical
set_option maxHeartbeats 4000000 in
theorem q_grown {w:World} {v0:Value} (R0:List Turn) (hs0:∀s∈R0,s.Ok) (k0:fN w v0 R0):
  Calls Tryz.prog 15 #[v0] w fun e w'=>(e= .returned (.tuple #[.pointer none,.bool false])∧Below w.heap.size w w')∨∃t m E,e= .returned (.tuple #[ptB t,.bool true])∧TInv w w' t m E:=by
 obtain⟨ad0,c0,n0,rfl,hn0,hr0⟩:∃ad c n,v0= .slice ad n c∧n=R0.length∧∀i x,R0[i]? =some x→∃b o l,ad=some ⟨b,o,none⟩∧b<w.heap.size∧x.Cs w l∧∀j u,l[j]? =some u→w.cell? ⟨b,o+(i*25+j),none⟩=some u:=by
  rcases k0 with⟨rfl,a,c,rfl⟩ | ⟨b,o,c,rfl,hne,hb,hq⟩
  ·exact⟨a,c,0,rfl,rfl,fun i x h=>by simp at h⟩
  ·exact⟨_,c,_,rfl,rfl,fun i x h=>by
    obtain⟨l,h1,h2⟩:=hq i x h;exact⟨b,o,l,rfl,hb,h1,h2⟩⟩
 have HR0:=Lib.hid hr0;have HO0:=Lib.hid hs0;have HN0:=Lib.hid hn0;clear hr0 hs0 k0 hn0;by_cases b0:20<n0
 ·have c0':decide ((20:Int)<(n0:Int))=true:=decide_eq_true (by omega);go_enter Tryz.func15,Tryz.ntmps15
  go_wp2;go_ret2
  exact .inl ⟨rfl,Below.refl _ _⟩
 have c0':decide ((20:Int)<(n0:Int))=false:=decide_eq_false (by omega);have hnew:=q_New w;have hm0:(n0:Int)≤20:=by omega
 go_enter Tryz.func15,Tryz.ntmps15
 go_wp2_with (go_at_call 31;refine hnew.mono ?_;rintro e w1 ⟨t,m,rfl,hT,h1,h2,h3⟩;have HI0:=Lib.hid (TInv.new hT h1 h2 h3);clear hnew hT h1 h2 h3)
 go_loopw [5] (fun s5 wr=>∃(k:Nat) (E:List Ch),k≤n0∧s5= .int .i64 (k:Int)∧Hid (TInv w wr t m E)) (fun s5 _=>n0 - (intOf s5).toNat)
 case atStart=>exact⟨0,_,Nat.zero_le _,rfl,HI0⟩
 case round=>
  clear HI0;obtain⟨k,E,hk,rfl,HI⟩:=hrel;rcases Nat.lt_or_ge k n0 with hlt | hge
  ·obtain⟨x,hx⟩:∃s,R0[k]? =some s:=⟨_,List.getElem?_eq_getElem (by rw[←HN0.out];exact hlt)⟩;obtain⟨b,o,l,rfl,hb,hcs,hrg⟩:=HR0.out k x hx;have HXO:=Lib.hid (HO0.out x (List.mem_of_getElem? hx));have hcs1:x.Cs wr l:=by
    obtain⟨cs,e,h1⟩:=hcs;exact⟨cs,e,h1.mono HI.out.bel⟩
   have hld:=Lib.hid (fZ (w:=w) (B:=w.heap.size) (o:=o+k*25) (fun j u hj=>by rw[Nat.add_assoc];exact hrg j u hj) HI.out.bel hb);obtain⟨hth,hV⟩:=TurnV.mk' wr hcs1;have hl25:=hcs1.len;have hon:=hcs1.one;go_upto_region 7 with(fail)
   refine wp_region_list ?_;refine aj rfl (v:=.slice (some ⟨b,o,none⟩) n0 c0) (w':=wr) (by rfl) ?_;refine aj rfl (v:=.int .i64 (k:Int)) (w':=wr) (by rfl) ?_;refine aj rfl (v:=.pointer (some ⟨b,o+k*25,none⟩)) (w':=wr) (by go_simp) ?_;refine wpList_load_mid rfl _ _ rfl b (o+k*25) rfl l _ hld.out Tryz.underlying114 rfl (rp hl25) ?_;refine aj rfl (v:=.pointer (some ⟨wr.heap.size,0,none⟩)) (w':=wr.alloc (.cells gW.toArray 114)) (by go_simp;try rfl) ?_;refine wpList_store_mid rfl _ _ _ rfl wr.heap.size 0 l.toArray rfl rfl (by simpa [hl25]using hth) (rp hl25) hon ?_;rw[show l.toArray.toList=l from rfl];have HIV:=Lib.hid (HI.out.below hV.bel);generalize hW:(wr.alloc (.cells gW.toArray 114)).setCells wr.heap.size 0 l=W at *;obtain⟨B,hB⟩:∃B,wr.heap.size=B:=⟨_,rfl⟩;have HBF:=Lib.hid (show B∉fpT t m E from fun hm=>by have:=HI.out.tm.lt _ hm;omega);rw[hB]at hV⊢;have HTV:=Lib.hid hV;obtain⟨cs,rfl,hcc⟩:=hV.cs;have hbk:=hV.blk;have f0:W.cell? ⟨B,0,none⟩=some (.int .i64 x.k):=by rw[aA hbk];rfl
   have f1:W.cell? ⟨B,1,none⟩=some (.int .i64 x.a):=by rw[aA hbk];rfl
   have f2:W.cell? ⟨B,2,none⟩=some (.int .i64 x.b):=by rw[aA hbk];rfl
   have f3:W.cell? ⟨B,3,none⟩=some (.int .i64 x.t):=by rw[aA hbk];rfl
   have HCC:=Lib.hid hcc;clear hbk hV hW hB hth hon hl25 hld hcs hcs1 hrg hb hx hcc;have HT:=Lib.hid (show∀wq,Below W.heap.size W wq→TInv w wq t m E from fun wq kb=>HIV.out.below kb);have HCL:=Lib.hid (show∀wq,Below W.heap.size W wq→wq.cell? ⟨B,1,none⟩=some (.int .i64 x.a)∧wq.cell? ⟨B,2,none⟩=some (.int .i64 x.b)∧wq.cell? ⟨B,3,none⟩=some (.int .i64 x.t)from fun wq kb=>by
    have hlt:B<W.heap.size:=HTV.out.lt;exact⟨by rw[kb.cell (p:=⟨B,1,none⟩) hlt];exact f1,by rw[kb.cell (p:=⟨B,2,none⟩) hlt];exact f2,by rw[kb.cell (p:=⟨B,3,none⟩) hlt];exact f3⟩)
   have HCK:=Lib.hid (show∀wq w3 E',Below W.heap.size W wq→TPost wq t m E w3 E'→w3.cell? ⟨B,1,none⟩=some (.int .i64 x.a)∧w3.cell? ⟨B,2,none⟩=some (.int .i64 x.b)∧w3.cell? ⟨B,3,none⟩=some (.int .i64 x.t)from fun wq w3 E' kb hP=>by
    have hlt:B<wq.heap.size:=Nat.lt_of_lt_of_le HTV.out.lt kb.size;obtain⟨k1,k2,k3⟩:=HCL.out wq kb;exact⟨(hP.cell HBF.out hlt 1).trans k1,(hP.cell HBF.out hlt 2).trans k2,(hP.cell HBF.out hlt 3).trans k3⟩)
   have HBD:=Lib.hid (show Below W.heap.size W W.drew from(Below.refl _ _).drew);by_cases g2:x.k<2
   ·have q2:decide (2≤x.k)=false:=decide_eq_false (by omega);by_cases g0:x.k=0
    ·rw[g0]at f0;clear q2 g2 g0;go_upto_region 12 with(fail)
     refine wp_region_held_drew (S:=fun w'=>w'.cell? ⟨B,1,none⟩=some (.int .i64 x.a)∧w'.cell? ⟨B,2,none⟩=some (.int .i64 x.b)∧w'.cell? ⟨B,3,none⟩=some (.int .i64 x.t)) (by kernel_rfl) ⟨by simpa using f1,by simpa using f2,by simpa using f3⟩ (fun hHeld=> ?_);refine wpAnyH_take (i:=0) (v:=ptB t) rfl (by kernel_rfl) (by kernel_rfl) (by kernel_rfl) (fun _ _ _ h=>h) (Or.inl ⟨by rfl,fun w hw=>by rfl⟩) hHeld ?_;refine wpAnyH_take (i:=1) (v:=.pointer (some ⟨B,1,none⟩)) rfl (by kernel_rfl) (by kernel_rfl) (by kernel_rfl) (fun _ _ _ h=>h) (Or.inl ⟨by rfl,fun w hw=>by go_simp⟩) hHeld ?_;refine wpAnyH_take (i:=2) (v:=.int .i64 x.a) rfl (by kernel_rfl) (by kernel_rfl) (by kernel_rfl) (fun _ _ _ h=>h) (Or.inl ⟨by rfl,fun w hw=>by have:=hw.1;go_simp⟩) hHeld ?_;refine wpAnyH_take (i:=4) (v:=.pointer (some ⟨B,2,none⟩)) rfl (by kernel_rfl) (by kernel_rfl) (by kernel_rfl) (fun _ _ _ h=>h) (Or.inl ⟨by rfl,fun w hw=>by go_simp⟩) hHeld ?_;refine wpAnyH_take (i:=5) (v:=.int .i64 x.b) rfl (by kernel_rfl) (by kernel_rfl) (by kernel_rfl) (fun _ _ _ h=>h) (Or.inl ⟨by rfl,fun w hw=>by have:=hw.2.1;go_simp⟩) hHeld ?_;refine wpAnyH_take (i:=7) (v:=.pointer (some ⟨B,3,none⟩)) rfl (by kernel_rfl) (by kernel_rfl) (by kernel_rfl) (fun _ _ _ h=>h) (Or.inl ⟨by rfl,fun w hw=>by go_simp⟩) hHeld ?_;refine wpAnyH_take (i:=8) (v:=.int .i64 x.t) rfl (by kernel_rfl) (by kernel_rfl) (by kernel_rfl) (fun _ _ _ h=>h) (Or.inl ⟨by rfl,fun w hw=>by have:=hw.2.2;go_simp⟩) hHeld ?_;refine wpAnyH_ready (rs:=[3]) (by kernel_rfl) (by simp) ?_;refine AllReadyH.cons rfl (fun K hK=> ?_) AllReadyH.nil;go_simp;go_at_call 17
     refine(jv x.a HXO.out.a).mono ?_;rintro e w1 ⟨rfl,hb1⟩;have HB1:=Lib.hid (HBD.out.trans (hb1.mono HBD.out.size));refine hK.out _ _ (HCL.out _ HB1.out) (fun hHeld1=> ?_);clear hK K hb1;refine wpAnyH_ready (rs:=[6]) (by kernel_rfl) (by simp) ?_;refine AllReadyH.cons rfl (fun K hK=> ?_) AllReadyH.nil;go_simp;go_at_call 17
     refine(jv x.b HXO.out.b).mono ?_;rintro e w2 ⟨rfl,hb2⟩;have HB2:=Lib.hid (HB1.out.trans (hb2.mono HB1.out.size));refine hK.out _ _ (HCL.out _ HB2.out) (fun hHeld2=> ?_);clear hK K hb2;have hatt:=uU (c:=frm x.a) (p:=frm x.b) (f:=x.t) (HT.out _ HB2.out).tm (HT.out _ HB2.out).sane.ok (.inl (frm_nm _)) (.inl (frm_nm _));refine wpAnyH_ready (rs:=[9]) (by kernel_rfl) (by simp) ?_;refine AllReadyH.cons rfl (fun K hK=> ?_) AllReadyH.nil;go_simp;go_at_call 67
     refine hatt.mono ?_;rintro e w3 ⟨E',R',code,rfl,hP,hR,hD⟩;have HI2:=Lib.hid ((HT.out _ HB2.out).att hP hR hD);refine hK.out _ _ (HCK.out _ _ _ HB2.out hP) (fun hHeld3=> ?_);clear hK K hatt hP hR hD;refine wpAnyH_done (by kernel_rfl) ?_ _;go_wp2;go_roundw
     case rel=>exact⟨k+1,E',by omega,by go_num,HI2⟩
     case measure=>simp[intOf];omega
    ·by_cases g1:x.k=1
     ·rw[g1]at f0;clear q2 g2 g0 g1;go_upto_region 14 with(fail)
      refine wp_region_held_drew (S:=fun w'=>w'.cell? ⟨B,1,none⟩=some (.int .i64 x.a)∧w'.cell? ⟨B,2,none⟩=some (.int .i64 x.b)∧w'.cell? ⟨B,3,none⟩=some (.int .i64 x.t)) (by kernel_rfl) ⟨by simpa using f1,by simpa using f2,by simpa using f3⟩ (fun hHeld=> ?_);refine wpAnyH_take (i:=0) (v:=ptB t) rfl (by kernel_rfl) (by kernel_rfl) (by kernel_rfl) (fun _ _ _ h=>h) (Or.inl ⟨by rfl,fun w hw=>by rfl⟩) hHeld ?_;refine wpAnyH_take (i:=1) (v:=.pointer (some ⟨B,1,none⟩)) rfl (by kernel_rfl) (by kernel_rfl) (by kernel_rfl) (fun _ _ _ h=>h) (Or.inl ⟨by rfl,fun w hw=>by go_simp⟩) hHeld ?_;refine wpAnyH_take (i:=2) (v:=.int .i64 x.a) rfl (by kernel_rfl) (by kernel_rfl) (by kernel_rfl) (fun _ _ _ h=>h) (Or.inl ⟨by rfl,fun w hw=>by have:=hw.1;go_simp⟩) hHeld ?_;refine wpAnyH_take (i:=4) (v:=.pointer (some ⟨B,3,none⟩)) rfl (by kernel_rfl) (by kernel_rfl) (by kernel_rfl) (fun _ _ _ h=>h) (Or.inl ⟨by rfl,fun w hw=>by go_simp⟩) hHeld ?_;refine wpAnyH_take (i:=5) (v:=.int .i64 x.t) rfl (by kernel_rfl) (by kernel_rfl) (by kernel_rfl) (fun _ _ _ h=>h) (Or.inl ⟨by rfl,fun w hw=>by have:=hw.2.2;go_simp⟩) hHeld ?_;refine wpAnyH_ready (rs:=[3]) (by kernel_rfl) (by simp) ?_;refine AllReadyH.cons rfl (fun K hK=> ?_) AllReadyH.nil;go_simp;go_at_call 17
      refine(jv x.a HXO.out.a).mono ?_;rintro e w1 ⟨rfl,hb1⟩;have HB1:=Lib.hid (HBD.out.trans (hb1.mono HBD.out.size));refine hK.out _ _ (HCL.out _ HB1.out) (fun hHeld1=> ?_);clear hK K hb1;have hdet:=q_Detach (HT.out _ HB1.out).tm (HT.out _ HB1.out).sane.ok (frm x.a) x.t;refine wpAnyH_ready (rs:=[6]) (by kernel_rfl) (by simp) ?_;refine AllReadyH.cons rfl (fun K hK=> ?_) AllReadyH.nil;go_simp;go_at_call 68
      refine hdet.mono ?_;rintro e w3 ⟨E',code,rfl,hP,hD⟩;have HI2:=Lib.hid ((HT.out _ HB1.out).next (s:=⟨1,frm x.a,frm x.a,x.t,Pq.id⟩) hP (REq.refl _) (by unfold DoS;exact hD) Pq.ok.id);refine hK.out _ _ (HCK.out _ _ _ HB1.out hP) (fun hHeld3=> ?_);clear hK K hdet hP hD;refine wpAnyH_done (by kernel_rfl) ?_ _;go_wp2;go_roundw
      case rel=>exact⟨k+1,E',by omega,by go_num,HI2⟩
      case measure=>simp[intOf];omega
     ·have r0:(x.k==0)=false:=beq_eq_false_iff_ne.2 g0;have r1:(x.k==1)=false:=beq_eq_false_iff_ne.2 g1;have r2:(x.k==2)=false:=beq_eq_false_iff_ne.2 (by omega);have r3:(x.k==3)=false:=beq_eq_false_iff_ne.2 (by omega);clear g2 g0 g1;go_wp2;go_roundw
      case rel=>exact⟨k+1,E,by omega,by go_num,Lib.hid (HT.out _ (Below.refl _ _))⟩
      case measure=>simp[intOf];omega
   ·have q2:decide (2≤x.k)=true:=decide_eq_true (by omega);have htiny:=q_tiny (w:=W) (v:=.agg cs.toArray) (r0:=x.r0) (r1:=x.r1) (r2:=x.r2) (r3:=x.r3) (r4:=x.r4) (r5:=x.r5) (r6:=x.r6) ⟨_,rfl,HCC.out⟩;have HRW:=Lib.hid (show W.rangeAt B 4 cs from fun j u hj=>by rw[aA HTV.out.blk];simp only[List.getElem?_toArray,Nat.add_comm 4 j,List.getElem?_cons_succ];exact hj);have HDL:=Lib.hid (bY HCC.out);have HSZ:=Lib.hid (show(Tryz.prog.info? 39).map (·.size)=some cs.length by rw[HDL.out];kernel_rfl);go_upto_region 8 with(fail)
    refine wp_region_list ?_;refine aj rfl (v:=.pointer (some ⟨B,0,none⟩)) (w':=W) (by go_simp) ?_;refine aj rfl (v:=.int .i64 x.k) (w':=W) (by go_simp) ?_;refine aj rfl (v:=.bool true) (w':=W) (by go_simp) ?_;refine wpList_plain rfl (fun K hK=> ?_);go_simp;refine hK _ _ ?_;clear hK K;refine co ?_ (fun K hK=> ?_)
    ·rfl
    go_simp;refine hK _ _ ?_;clear hK K;refine co ?_ (fun K hK=> ?_)
    ·rfl
    refine wp_load_mid _ _ rfl B 4 rfl cs _ HRW.out Tryz.underlying39 rfl HSZ.out ?_;refine hK _ _ ?_;clear hK K;refine co ?_ (fun K hK=> ?_)
    ·rfl
    go_simp;go_at_call 66
    refine htiny.mono ?_;rintro e w1 ⟨⟨bt,rfl,hbt⟩,hb1⟩;have HBT:=Lib.hid hbt;have HB9:=Lib.hid hb1;refine hK _ _ ?_;clear hK K;clear htiny hbt hb1;cases bt
    ·go_wp2;go_ret2
     exact .inl ⟨rfl,HIV.out.bel.trans (HB9.out.mono HIV.out.bel.size)⟩
    ·obtain⟨p,gp,hp2,ers⟩:=tiny_pose (x:=x) (HBT.out rfl).1 (HBT.out rfl).2;have HPK:=Lib.hid hp2;have hoq:bw W (.agg cs.toArray) p:=turn_isOq ers ⟨_,rfl,HCC.out⟩;have HOQ:=Lib.hid (show∀wq,Below W.heap.size W wq→bw wq (.agg cs.toArray) p from fun wq kb=>IsL.mono hoq kb);have HRG:=Lib.hid (show∀wq,Below W.heap.size W wq→wq.rangeAt B 4 cs from fun wq kb=>fZ HRW.out kb HTV.out.lt);have HRK:=Lib.hid (show∀wq w3 E',Below W.heap.size W wq→TPost wq t m E w3 E'→w3.rangeAt B 4 cs from fun wq w3 E' kb hP j u hj=>(hP.cell HBF.out (Nat.lt_of_lt_of_le HTV.out.lt kb.size) (4+j)).trans (HRG.out wq kb j u hj));have f0':w1.cell? ⟨B,0,none⟩=some (.int .i64 x.k):=by rw[HB9.out.cell (p:=⟨B,0,none⟩) HTV.out.lt];exact f0
     have HF1:=Lib.hid (HCL.out w1 HB9.out);have HBD2:=Lib.hid (HB9.out.trans ((Below.refl w1.heap.size w1).drew.mono HB9.out.size));clear f0 f1 f2 f3 HBD gp hp2 ers hoq;obtain⟨f1,f2,f3⟩:=HF1.out;have HBD:=HBD2;clear HBD2 HF1;by_cases g3:x.k=2
     ·rw[g3]at f0';clear q2 g2 g3;go_upto_region 16 with(fail)
      refine wp_region_held_drew (S:=fun w'=>(w'.cell? ⟨B,1,none⟩=some (.int .i64 x.a)∧w'.cell? ⟨B,2,none⟩=some (.int .i64 x.b)∧w'.cell? ⟨B,3,none⟩=some (.int .i64 x.t))∧w'.rangeAt B 4 cs) (by kernel_rfl) ⟨⟨by simpa using f1,by simpa using f2,by simpa using f3⟩,by simpa using HRG.out w1 HB9.out⟩ (fun hHeld=> ?_);refine wpAnyH_take (i:=0) (v:=ptB t) rfl (by kernel_rfl) (by kernel_rfl) (by kernel_rfl) (fun _ _ _ h=>h) (Or.inl ⟨by rfl,fun w hw=>by rfl⟩) hHeld ?_;refine wpAnyH_take (i:=1) (v:=.pointer (some ⟨B,1,none⟩)) rfl (by kernel_rfl) (by kernel_rfl) (by kernel_rfl) (fun _ _ _ h=>h) (Or.inl ⟨by rfl,fun w hw=>by go_simp⟩) hHeld ?_;refine wpAnyH_take (i:=2) (v:=.int .i64 x.a) rfl (by kernel_rfl) (by kernel_rfl) (by kernel_rfl) (fun _ _ _ h=>h) (Or.inl ⟨by rfl,fun w hw=>by have:=hw.1.1;go_simp⟩) hHeld ?_;refine wpAnyH_take (i:=4) (v:=.pointer (some ⟨B,3,none⟩)) rfl (by kernel_rfl) (by kernel_rfl) (by kernel_rfl) (fun _ _ _ h=>h) (Or.inl ⟨by rfl,fun w hw=>by go_simp⟩) hHeld ?_;refine wpAnyH_take (i:=5) (v:=.int .i64 x.t) rfl (by kernel_rfl) (by kernel_rfl) (by kernel_rfl) (fun _ _ _ h=>h) (Or.inl ⟨by rfl,fun w hw=>by have:=hw.1.2.2;go_simp⟩) hHeld ?_;refine wpAnyH_take (i:=6) (v:=.pointer (some ⟨B,4,none⟩)) rfl (by kernel_rfl) (by kernel_rfl) (by kernel_rfl) (fun _ _ _ h=>h) (Or.inl ⟨by rfl,fun w hw=>by go_simp⟩) hHeld ?_;refine wpAnyH_take (i:=7) (v:=.agg cs.toArray) rfl (by kernel_rfl) (by kernel_rfl) (by kernel_rfl) (fun _ _ _ h=>h) (yieldsIf_load_mid (by rfl) _ _ rfl B 4 rfl cs _ (fun w hw=>hw.2) Tryz.underlying39 rfl HSZ.out) hHeld ?_;obtain⟨d0,d1,d2,d3,d4,d5,d6,d7,d8,d9,d10,d11,d12,d13,d14,d15,d16,d17,d18,d19,d20,rfl⟩:=xy HDL.out;refine wpAnyH_take (i:=8) (v:=stV x.t [d0,d1,d2,d3,d4,d5,d6,d7,d8,d9,d10,d11,d12,d13,d14,d15,d16,d17,d18,d19,d20]) rfl (by kernel_rfl) (by kernel_rfl) (by kernel_rfl) (fun _ _ _ h=>h) (Or.inl ⟨by rfl,fun w hw=>by go_simp;try rfl⟩) hHeld ?_;refine wpAnyH_ready (rs:=[3]) (by kernel_rfl) (by simp) ?_;refine AllReadyH.cons rfl (fun K hK=> ?_) AllReadyH.nil;go_simp;go_at_call 17
      refine(jv x.a HXO.out.a).mono ?_;rintro e w2 ⟨rfl,hb2⟩;have HB2:=Lib.hid (HBD.out.trans (hb2.mono HBD.out.size));refine hK.out _ _ (⟨HCL.out _ HB2.out,HRG.out _ HB2.out⟩) (fun hHeld2=> ?_);clear hK K hb2;have hset:=xz (c:=frm x.a) (a:=x.t) (p:=p) (cs:=[d0,d1,d2,d3,d4,d5,d6,d7,d8,d9,d10,d11,d12,d13,d14,d15,d16,d17,d18,d19,d20]) (HT.out _ HB2.out).tm (HT.out _ HB2.out).sane.ok (HOQ.out _ HB2.out) HPK.out;refine wpAnyH_ready (rs:=[9]) (by kernel_rfl) (by simp) ?_;refine AllReadyH.cons rfl (fun K hK=> ?_) AllReadyH.nil;go_simp;go_at_call 69
      refine hset.mono ?_;rintro e w3 ⟨E',R',code,rfl,hP,hR,hD⟩;have HI2:=Lib.hid ((HT.out _ HB2.out).next (s:=⟨2,frm x.a,frm x.a,x.t,p⟩) hP hR (by unfold DoS;exact hD) HPK.out);refine hK.out _ _ ⟨HCK.out _ _ _ HB2.out hP,HRK.out _ _ _ HB2.out hP⟩ (fun hHeld3=> ?_);clear hK K hset hP hR hD;refine wpAnyH_done (by kernel_rfl) ?_ _;go_wp2;go_roundw
      case rel=>exact⟨k+1,E',by omega,by go_num,HI2⟩
      case measure=>simp[intOf];omega
     ·by_cases g4:x.k=3
      ·rw[g4]at f0';clear q2 g2 g3 g4;go_upto_region 18 with(fail)
       refine wp_region_held_drew (S:=fun w'=>(w'.cell? ⟨B,1,none⟩=some (.int .i64 x.a)∧w'.cell? ⟨B,2,none⟩=some (.int .i64 x.b)∧w'.cell? ⟨B,3,none⟩=some (.int .i64 x.t))∧w'.rangeAt B 4 cs) (by kernel_rfl) ⟨⟨by simpa using f1,by simpa using f2,by simpa using f3⟩,by simpa using HRG.out w1 HB9.out⟩ (fun hHeld=> ?_);refine wpAnyH_take (i:=0) (v:=ptB t) rfl (by kernel_rfl) (by kernel_rfl) (by kernel_rfl) (fun _ _ _ h=>h) (Or.inl ⟨by rfl,fun w hw=>by rfl⟩) hHeld ?_;refine wpAnyH_take (i:=1) (v:=.pointer (some ⟨B,1,none⟩)) rfl (by kernel_rfl) (by kernel_rfl) (by kernel_rfl) (fun _ _ _ h=>h) (Or.inl ⟨by rfl,fun w hw=>by go_simp⟩) hHeld ?_;refine wpAnyH_take (i:=2) (v:=.int .i64 x.a) rfl (by kernel_rfl) (by kernel_rfl) (by kernel_rfl) (fun _ _ _ h=>h) (Or.inl ⟨by rfl,fun w hw=>by have:=hw.1.1;go_simp⟩) hHeld ?_;refine wpAnyH_take (i:=4) (v:=.pointer (some ⟨B,4,none⟩)) rfl (by kernel_rfl) (by kernel_rfl) (by kernel_rfl) (fun _ _ _ h=>h) (Or.inl ⟨by rfl,fun w hw=>by go_simp⟩) hHeld ?_;refine wpAnyH_take (i:=5) (v:=.agg cs.toArray) rfl (by kernel_rfl) (by kernel_rfl) (by kernel_rfl) (fun _ _ _ h=>h) (yieldsIf_load_mid (by rfl) _ _ rfl B 4 rfl cs _ (fun w hw=>hw.2) Tryz.underlying39 rfl HSZ.out) hHeld ?_;refine wpAnyH_ready (rs:=[3]) (by kernel_rfl) (by simp) ?_;refine AllReadyH.cons rfl (fun K hK=> ?_) AllReadyH.nil;go_simp;go_at_call 17
       refine(jv x.a HXO.out.a).mono ?_;rintro e w2 ⟨rfl,hb2⟩;have HB2:=Lib.hid (HBD.out.trans (hb2.mono HBD.out.size));refine hK.out _ _ (⟨HCL.out _ HB2.out,HRG.out _ HB2.out⟩) (fun hHeld2=> ?_);clear hK K hb2;have hfix:=q_FixP (c:=frm x.a) (p:=p) (cs:=cs) (HT.out _ HB2.out).tm (HT.out _ HB2.out).sane.ok (HOQ.out _ HB2.out) HPK.out;refine wpAnyH_ready (rs:=[6]) (by kernel_rfl) (by simp) ?_;refine AllReadyH.cons rfl (fun K hK=> ?_) AllReadyH.nil;go_simp;go_at_call 70
       refine hfix.mono ?_;rintro e w3 ⟨E',R',code,rfl,hP,hR,hD⟩;have HI2:=Lib.hid ((HT.out _ HB2.out).next (s:=⟨3,frm x.a,frm x.a,x.t,p⟩) hP hR (by unfold DoS;exact hD) HPK.out);refine hK.out _ _ ⟨HCK.out _ _ _ HB2.out hP,HRK.out _ _ _ HB2.out hP⟩ (fun hHeld3=> ?_);clear hK K hfix hP hR hD;refine wpAnyH_done (by kernel_rfl) ?_ _;go_wp2;go_roundw
       case rel=>exact⟨k+1,E',by omega,by go_num,HI2⟩
       case measure=>simp[intOf];omega
      ·have r0:(x.k==0)=false:=beq_eq_false_iff_ne.2 (by omega);have r1:(x.k==1)=false:=beq_eq_false_iff_ne.2 (by omega);have r2:(x.k==2)=false:=beq_eq_false_iff_ne.2 g3;have r3:(x.k==3)=false:=beq_eq_false_iff_ne.2 g4;clear g2 g3 g4 q2;go_wp2;go_roundw
       case rel=>exact⟨k+1,E,by omega,by go_num,Lib.hid (HT.out _ HB9.out)⟩
       case measure=>simp[intOf];omega
  ·obtain rfl:k=n0:=by omega
   go_wp2;go_ret2
   exact .inr ⟨t,m,E,rfl,HI.out⟩
end
section
open Go.ChangeShapes Go.WideShapes Go.ChangeAt Go.RowKit
abbrev I16 (n:Int):Prop:= -32768≤n∧n<32768
section
variable {H:Type} {enc:TypeId×Value→H} {W:World}
theorem pP {t e:TypeId} {k:IntKind} {n:Nat} (ht:Tryz.prog.underlying t=some (.array n e)) (he:Tryz.prog.underlying e=some (.int k)) (hce:Tryz.prog.cellsOf e=1) (hct:Tryz.prog.cellsOf t=n) {fuel:Nat} {cs:List Value} {x:DataW H×List MemPlace}
  (h:DataW.trod enc Tryz.prog W 0 (fun _=>true) true fuel t cs=some x):cs.length=n∧∀u∈cs,∃z:Int,u= .int k z∧(Lit.int k z).wf=true:=by
 obtain⟨xs,m,_,_,hlen,hxs,hg⟩:=DataW.trod_array ht h;rw[hct]at hlen;rw[hce]at hg;refine⟨hlen,fun u hu=> ?_⟩;obtain⟨i,hi,rfl⟩:=List.getElem_of_mem hu;have h1:=hg i (by omega);rw[List.getElem?_eq_getElem (by omega),Nat.mul_one]at h1;have h2:(cs.drop i).take 1=[cs[i]]:=by rw[List.drop_eq_getElem_cons hi];rfl
 rw[h2]at h1;obtain⟨z,g,f⟩:=DataW.trod_int he h1;exact⟨z,by simpa using g,f.2⟩
structure Pts where
 a:Int
 b:Int
 t:Int
 u0:Int
 u1:Int
 u2:Int
 v0:Int
 v1:Int
 v2:Int
def Pts.cs (s:Pts):List Value:=[.int .i64 s.a,.int .i64 s.b,.int .i64 s.t,.int .i16 s.u0,.int .i16 s.u1,.int .i16 s.u2,.int .i16 s.v0,.int .i16 s.v1,.int .i16 s.v2]
structure Pts.Ok (s:Pts):Prop where
 a:I64 s.a
 b:I64 s.b
 t:I64 s.t
 u0:I16 s.u0
 u1:I16 s.u1
 u2:I16 s.u2
 v0:I16 s.v0
 v1:I16 s.v1
 v2:I16 s.v2
theorem vA {v:Value} {d:DataW H} {p:List MemPlace} {base:Nat} (hval:Value.okWide Tryz.prog W .any base 52 v) (h:DataW.Trod enc Tryz.prog W 0 (fun _=>true) true 52 v d p):∃s:Pts,s.Ok∧v= .agg s.cs.toArray:=by
 obtain⟨cs,rfl,hcs⟩:=okWide_struct Tryz.underlying52 hval;have hc:Tryz.prog.cellsOf 52=9:=by kernel_rfl
 rw[hc]at hcs;obtain⟨l⟩:=cs;have hl:l.length=9:=by simpa using hcs
 obtain⟨fuel,hf⟩:=h;have hci:Tryz.prog.cellsOf 3=1:=by kernel_rfl
 have hc2:Tryz.prog.cellsOf 48=2:=by kernel_rfl
 have hc3:Tryz.prog.cellsOf 50=3:=by kernel_rfl
 obtain⟨xs,n,_,hx,_,hlen,hg⟩:=DataW.trod_struct Tryz.underlying52 hf
 match xs,hlen with
 | [y0,y1,y2,y3],_=>
  have k0:=hg 0 _ rfl;have k1:=hg 1 _ rfl;have k2:=hg 2 _ rfl;have k3:=hg 3 _ rfl;simp[Value.cells,hci,hc2,hc3]at k0 k1 k2 k3
  match l,hl with
  | [c0,c1,c2,c3,c4,c5,c6,c7,c8],_=>
   simp at k0 k1 k2 k3;obtain⟨_,q0⟩:=pP Tryz.underlying48 Tryz.underlying3 (by kernel_rfl) (by kernel_rfl) k0;obtain⟨t2,e2,f2⟩:=DataW.trod_int Tryz.underlying3 k1;obtain⟨_,q2⟩:=pP Tryz.underlying50 Tryz.underlying49 (by kernel_rfl) (by kernel_rfl) k2;obtain⟨_,q3⟩:=pP Tryz.underlying50 Tryz.underlying49 (by kernel_rfl) (by kernel_rfl) k3;simp at e2;subst e2;obtain⟨a,rfl,ha⟩:=q0 c0 (by simp);obtain⟨b,rfl,hb⟩:=q0 c1 (by simp);obtain⟨x0,rfl,h0⟩:=q2 c3 (by simp);obtain⟨x1,rfl,h1⟩:=q2 c4 (by simp);obtain⟨x2,rfl,h2⟩:=q2 c5 (by simp);obtain⟨z0,rfl,g0⟩:=q3 c6 (by simp);obtain⟨z1,rfl,g1⟩:=q3 c7 (by simp);obtain⟨z2,rfl,g2⟩:=q3 c8 (by simp);exact⟨⟨a,b,t2,x0,x1,x2,z0,z1,z2⟩,⟨kv ha,kv hb,kv f2.2,mK h0,mK h1,mK h2,mK g0,mK g1,mK g2⟩,rfl⟩
end
end
end Go.Proofs.YtggfmklppkioeaaGreat
