/- The example that the laws of package lookup try first. Calls on no tree, as an executor meets them. What arguments of the type roboticslaw29.Query are. Package lookup on no tree, as an executor meets it. How transforms compose, plainly. Trees of frames as unknowns of the executor. Trees of frames: a step of the laws of package lookup is done to a tree. What LookupConsistent asks of a tree, by the executor. LookupConsistent: the walk. -/
import Derived.Test.YtggfmklppkioeaaGreatP21
namespace Go.Proofs.YtggfmklppkioeaaGreat
set_option linter.unusedSimpArgs false
set_option linter.unusedVariables false
set_option maxRecDepth 100000
open Go.RowKit
section
open Classical
theorem iNam {c:Nm} (h:dx c):Nam c:=.inl h
set_option maxRecDepth 100000 in
set_option maxHeartbeats 4000000 in
theorem rR (w:World):Calls Tryz.prog 53 #[] w fun e w'=>e= .returned (.bool true)∧Below w.heap.size w w':=by
 have hnew:=q_New w;go_enter Tryz.func53,Tryz.ntmps53
 go_upto_region 2 with(go_at_call 31;refine hnew.mono ?_;rintro e w1 ⟨t,m,rfl,hT,h1,h2,h3⟩;have HI:=Lib.hid (TInv.new hT h1 h2 h3);have hat1:=qj (c:=nB) (p:=nA) (f:=0) hT TOk.nil (iNam iB) (iNam iA);clear hnew hT h1 h2 h3)
 go_upto_region 6 with(first
  | (go_at_call 67;refine hat1.mono ?_;rintro e w2 ⟨E2,R2,code,rfl,hP,hR,hA⟩;have HI2:=Lib.hid (HI.out.att hP hR hA);obtain⟨rfl,hR2⟩:=aw_u1 (REq.refl _) hA;have HR2:=Lib.hid (hR.trans hR2);have hat2:=qj (c:=nC) (p:=nA) (f:=5) HI2.out.tm HI2.out.sane.ok (iNam iC) (iNam iA);clear hat1 hP hR hA hR2 HI)
  | (go_at_call 67;refine hat2.mono ?_;rintro e w3 ⟨E3,R3,code,rfl,hP,hR,hA⟩;have HI3:=Lib.hid (HI2.out.att hP hR hA);obtain⟨rfl,hR3⟩:=aw_u2 HR2.out hA;have HR3:=Lib.hid (hR.trans hR3);have hs1:=o7 (w:=w3) 0 1 0 (by decide) (by decide) (by decide);clear hat2 hP hR hA hR3 HI2 HR2)
  | (go_at_call 114;refine hs1.mono ?_;rintro e w4 ⟨v,rfl,hv,hb⟩;have HI4:=Lib.hid (HI3.out.below hb);obtain⟨cs,rfl,hcs⟩:=hv;obtain⟨c0,c1,c2,c3,c4,c5,c6,c7,c8,c9,c10,c11,c12,c13,c14,c15,c16,c17,c18,c19,c20,rfl⟩:=ql (cD hcs);have hfix:=q_FixP (p:=sh 0 1 0) (c:=nC) HI4.out.tm HI4.out.sane.ok ⟨_,rfl,hcs⟩ (kM (by decide) (by decide) (by decide));clear hcs hb hs1 HI3)
  | (go_at_call 70;refine hfix.mono ?_;rintro e w5 ⟨E5,R5,code,rfl,hP,hR,hD⟩;have HI5:=Lib.hid (HI4.out.next (s:=⟨3,nC,nA,0,sh 0 1 0⟩) hP hR (by unfold DoS;exact hD) (kM (by decide) (by decide) (by decide)));obtain⟨rfl,hR5⟩:=aw_u3 HI4.out.sane.ok HR3.out hD;have HR5:=Lib.hid (hR.trans hR5);have hs2:=o7 (w:=w5) 1 0 0 (by decide) (by decide) (by decide);clear hfix hP hR hD hR5 HI4 HR3)
  | (go_at_call 114;refine hs2.mono ?_;rintro e w6 ⟨v,rfl,hv,hb⟩;have HI6:=Lib.hid (HI5.out.below hb);obtain⟨cs,rfl,hcs⟩:=hv;obtain⟨c0,c1,c2,c3,c4,c5,c6,c7,c8,c9,c10,c11,c12,c13,c14,c15,c16,c17,c18,c19,c20,rfl⟩:=ql (cD hcs);have hset1:=xN (p:=sh 1 0 0) (c:=nB) (a:=0) HI6.out.tm HI6.out.sane.ok ⟨_,rfl,hcs⟩ (kM (by decide) (by decide) (by decide));clear hcs hb hs2 HI5)
  | (go_at_call 69;refine hset1.mono ?_;rintro e w7 ⟨E7,R7,code,rfl,hP,hR,hD⟩;have HI7:=Lib.hid (HI6.out.next (s:=⟨2,nB,nA,0,sh 1 0 0⟩) hP hR (by unfold DoS;exact hD) (kM (by decide) (by decide) (by decide)));obtain⟨rfl,hR7⟩:=aw_u4 HI6.out.sane.ok HR5.out hD;have HR7:=Lib.hid (hR.trans hR7);have hs3:=o7 (w:=w7) 3 0 0 (by decide) (by decide) (by decide);clear hset1 hP hR hD hR7 HI6 HR5)
  | (go_at_call 114;refine hs3.mono ?_;rintro e w8 ⟨v,rfl,hv,hb⟩;have HI8:=Lib.hid (HI7.out.below hb);obtain⟨cs,rfl,hcs⟩:=hv;obtain⟨c0,c1,c2,c3,c4,c5,c6,c7,c8,c9,c10,c11,c12,c13,c14,c15,c16,c17,c18,c19,c20,rfl⟩:=ql (cD hcs);have hset2:=xN (p:=sh 3 0 0) (c:=nB) (a:=10) HI8.out.tm HI8.out.sane.ok ⟨_,rfl,hcs⟩ (kM (by decide) (by decide) (by decide));clear hcs hb hs3 HI7)
  | (go_at_call 69;refine hset2.mono ?_;rintro e w9 ⟨E,R9,code,rfl,hP,hR,hD⟩;have HI9:=Lib.hid (HI8.out.next (s:=⟨2,nB,nA,10,sh 3 0 0⟩) hP hR (by unfold DoS;exact hD) (kM (by decide) (by decide) (by decide)));obtain⟨rfl,hR9⟩:=aw_u5 HI8.out.sane.ok HR7.out hD;have HR:=Lib.hid (hR.trans hR9);have hpa:=q_Path (x:=nB) (y:=nC) (a:=5) HI9.out.tm HI9.out.sane;clear hset2 hP hR hD hR9 HI8 HR7))
 rw[qw HR.out (by decide),aw_path HR.out]at hpa;simp only[if_pos]at hpa;have HTE:=Lib.hid (show∀wq,Below w9.heap.size w9 wq→TM wq t m E from fun wq k=>HI9.out.tm.below k);have HSN:=Lib.hid HI9.out.sane;have HB9:=Lib.hid HI9.out.bel;clear HI9;go_upto_region 7 with(go_at_call 48;refine hpa.mono ?_;clear hpa;rintro e wp ⟨v2,rfl,hrow,hb⟩;obtain⟨adn,cpn,rfl⟩:=fK hrow;have HROW:=Lib.hid hrow;have HBP:=Lib.hid (HB9.out.trans (hb.mono HB9.out.size));have HT:=Lib.hid (show∀wq,Below wp.heap.size wp wq→TM wq t m E from fun wq k=>HTE.out wq (hb.trans (k.mono hb.size)));clear hrow hb HTE HB9)
 have hb0:=Below.refl wp.heap.size wp;have hf1:=jV (HT.out wp hb0) HSN.out (fX HSN.out 5 nC nB);rw[aw_f1 HR.out]at hf1;simp only at hf1;refine wp_region_list ?_;refine ag rfl (v:=ptB t) (w':=wp) (by rfl) ?_;refine wpList_plain rfl (fun K hK=> ?_);go_simp;go_at_call 18
 refine hf1.mono ?_;rintro e w4 ⟨v,rfl,hv,hb⟩;obtain⟨vs4,rfl,hul,hu1,hun⟩:=di hv;refine hK _ _ ?_;clear hK K hf1;refine ag rfl (v:=.tuple #[.agg vs4.toArray,.int .i64 0]) (w':=w4) (by rfl) ?_;refine ag rfl (v:=.agg vs4.toArray) (w':=w4) (by go_simp) ?_;refine ag rfl (v:=.int .i64 0) (w':=w4) (by go_simp) ?_;have hpn:=PB.new w4;have hvn:bu (w4.alloc (.cells az.toArray 39)) (.agg vs4.toArray) (sh 2 (-1) 0):=IsL.mono hv hpn.bel;have hth:=hpn.there;rw[←hul]at hth;have hb5:=aI vs4 0 _ (hb.trans (hpn.bel.mono hb.size)) hb.size (b:=w4.heap.size);have H4:=Lib.hid ((hpn.base (hb0.trans (hb.mono (hb0).size))).put (us:=vs4) hul hun);have HV4:=Lib.hid (hpn.keep (us:=vs4) hvn);refine ag rfl (v:=.pointer (some ⟨w4.heap.size,0,none⟩)) (w':=w4.alloc (.cells az.toArray 39)) (by go_simp;try rfl) ?_;refine wpList_store_mid rfl _ _ _ rfl w4.heap.size 0 vs4.toArray rfl rfl (by simpa using hth) (aZ hul) hu1 ?_;rw[show vs4.toArray.toList=vs4 from rfl];have HBL4:=Lib.hid ((hb0).trans (hb5.mono (hb0).size));generalize hW5:(w4.alloc (.cells az.toArray 39)).setCells w4.heap.size 0 vs4=W4 at *;obtain⟨B4,hB4⟩:∃B,w4.heap.size=B:=⟨_,rfl⟩;rw[hB4]at H4⊢;clear hW5 hB4 hpn hvn hth hb5 hv hb hu1 hun hul;have HGE4:=Lib.hid H4.out.ge;have hf2:=jV (HT.out W4 HBL4.out) HSN.out (fX HSN.out 11 nA nB);rw[aw_f2 HR.out]at hf2;simp only at hf2;go_upto_region 8 with(fail)
 refine wp_region_list ?_;refine ag rfl (v:=ptB t) (w':=W4) (by rfl) ?_;refine wpList_plain rfl (fun K hK=> ?_);go_simp;go_at_call 18
 refine hf2.mono ?_;rintro e w4 ⟨v,rfl,hv,hb⟩;obtain⟨vs6,rfl,hul,hu1,hun⟩:=di hv;refine hK _ _ ?_;clear hK K hf2;refine ag rfl (v:=.tuple #[.agg vs6.toArray,.int .i64 17]) (w':=w4) (by rfl) ?_;refine ag rfl (v:=.agg vs6.toArray) (w':=w4) (by go_simp) ?_;refine ag rfl (v:=.int .i64 17) (w':=w4) (by go_simp) ?_;have hpn:=PB.new w4;have hvn:bu (w4.alloc (.cells az.toArray 39)) (.agg vs6.toArray) Pq.zero:=IsL.mono hv hpn.bel;have hth:=hpn.there;rw[←hul]at hth;have hb5:=aI vs6 0 _ (hb.trans (hpn.bel.mono hb.size)) hb.size (b:=w4.heap.size);have H4b:=Lib.hid (H4.out.next hb5);have HV4b:=Lib.hid (IsL.mono HV4.out hb5);have H6:=Lib.hid ((hpn.base (HBL4.out.trans (hb.mono (HBL4.out).size))).put (us:=vs6) hul hun);have HV6:=Lib.hid (hpn.keep (us:=vs6) hvn);refine ag rfl (v:=.pointer (some ⟨w4.heap.size,0,none⟩)) (w':=w4.alloc (.cells az.toArray 39)) (by go_simp;try rfl) ?_;refine wpList_store_mid rfl _ _ _ rfl w4.heap.size 0 vs6.toArray rfl rfl (by simpa using hth) (aZ hul) hu1 ?_;rw[show vs6.toArray.toList=vs6 from rfl];have HBL6:=Lib.hid ((HBL4.out).trans (hb5.mono (HBL4.out).size));generalize hW5:(w4.alloc (.cells az.toArray 39)).setCells w4.heap.size 0 vs6=W6 at *;obtain⟨B6,hB6⟩:∃B,w4.heap.size=B:=⟨_,rfl⟩;rw[hB6]at H6⊢;clear hW5 hB6 hpn hvn hth hb5 hv hb hu1 hun hul;clear H6 HV6;have hf3:=jV (HT.out W6 HBL6.out) HSN.out (fX HSN.out 4 nC nB);rw[aw_f3 HR.out]at hf3;simp only at hf3;go_upto_region 9 with(fail)
 refine wp_region_list ?_;refine ag rfl (v:=ptB t) (w':=W6) (by rfl) ?_;refine wpList_plain rfl (fun K hK=> ?_);go_simp;go_at_call 18
 refine hf3.mono ?_;rintro e w4 ⟨v,rfl,hv,hb⟩;obtain⟨vs8,rfl,hul,hu1,hun⟩:=di hv;refine hK _ _ ?_;clear hK K hf3;refine ag rfl (v:=.tuple #[.agg vs8.toArray,.int .i64 18]) (w':=w4) (by rfl) ?_;refine ag rfl (v:=.agg vs8.toArray) (w':=w4) (by go_simp) ?_;refine ag rfl (v:=.int .i64 18) (w':=w4) (by go_simp) ?_;have hpn:=PB.new w4;have hvn:bu (w4.alloc (.cells az.toArray 39)) (.agg vs8.toArray) Pq.zero:=IsL.mono hv hpn.bel;have hth:=hpn.there;rw[←hul]at hth;have hb5:=aI vs8 0 _ (hb.trans (hpn.bel.mono hb.size)) hb.size (b:=w4.heap.size);have H4c:=Lib.hid (H4b.out.next hb5);have HV4c:=Lib.hid (IsL.mono HV4b.out hb5);have H8:=Lib.hid ((hpn.base (HBL6.out.trans (hb.mono (HBL6.out).size))).put (us:=vs8) hul hun);have HV8:=Lib.hid (hpn.keep (us:=vs8) hvn);refine ag rfl (v:=.pointer (some ⟨w4.heap.size,0,none⟩)) (w':=w4.alloc (.cells az.toArray 39)) (by go_simp;try rfl) ?_;refine wpList_store_mid rfl _ _ _ rfl w4.heap.size 0 vs8.toArray rfl rfl (by simpa using hth) (aZ hul) hu1 ?_;rw[show vs8.toArray.toList=vs8 from rfl];have HBL8:=Lib.hid ((HBL6.out).trans (hb5.mono (HBL6.out).size));generalize hW5:(w4.alloc (.cells az.toArray 39)).setCells w4.heap.size 0 vs8=W8 at *;obtain⟨B8,hB8⟩:∃B,w4.heap.size=B:=⟨_,rfl⟩;rw[hB8]at H8⊢;clear hW5 hB8 hpn hvn hth hb5 hv hb hu1 hun hul;clear H8 HV8;have hf4:=jV (HT.out W8 HBL8.out) HSN.out (fX HSN.out 4 nX nB);rw[aw_f4 HR.out]at hf4;simp only at hf4;go_upto_region 10 with(fail)
 refine wp_region_list ?_;refine ag rfl (v:=ptB t) (w':=W8) (by rfl) ?_;refine wpList_plain rfl (fun K hK=> ?_);go_simp;go_at_call 18
 refine hf4.mono ?_;rintro e w4 ⟨v,rfl,hv,hb⟩;obtain⟨vs10,rfl,hul,hu1,hun⟩:=di hv;refine hK _ _ ?_;clear hK K hf4;refine ag rfl (v:=.tuple #[.agg vs10.toArray,.int .i64 6]) (w':=w4) (by rfl) ?_;refine ag rfl (v:=.agg vs10.toArray) (w':=w4) (by go_simp) ?_;refine ag rfl (v:=.int .i64 6) (w':=w4) (by go_simp) ?_;have hpn:=PB.new w4;have hvn:bu (w4.alloc (.cells az.toArray 39)) (.agg vs10.toArray) Pq.zero:=IsL.mono hv hpn.bel;have hth:=hpn.there;rw[←hul]at hth;have hb5:=aI vs10 0 _ (hb.trans (hpn.bel.mono hb.size)) hb.size (b:=w4.heap.size);have H4d:=Lib.hid (H4c.out.next hb5);have HV4d:=Lib.hid (IsL.mono HV4c.out hb5);have H10:=Lib.hid ((hpn.base (HBL8.out.trans (hb.mono (HBL8.out).size))).put (us:=vs10) hul hun);have HV10:=Lib.hid (hpn.keep (us:=vs10) hvn);refine ag rfl (v:=.pointer (some ⟨w4.heap.size,0,none⟩)) (w':=w4.alloc (.cells az.toArray 39)) (by go_simp;try rfl) ?_;refine wpList_store_mid rfl _ _ _ rfl w4.heap.size 0 vs10.toArray rfl rfl (by simpa using hth) (aZ hul) hu1 ?_;rw[show vs10.toArray.toList=vs10 from rfl];have HBL10:=Lib.hid ((HBL8.out).trans (hb5.mono (HBL8.out).size));generalize hW5:(w4.alloc (.cells az.toArray 39)).setCells w4.heap.size 0 vs10=W10 at *;obtain⟨B10,hB10⟩:∃B,w4.heap.size=B:=⟨_,rfl⟩;rw[hB10]at H10⊢;clear hW5 hB10 hpn hvn hth hb5 hv hb hu1 hun hul;clear H10 HV10;clear HBL4 HBL6 HBL8 H4 H4b H4c HV4 HV4b HV4c;have hla1:=vR (tq:=nC) (fr:=nB) (HT.out W10 HBL10.out) HSN.out
 go_upto_region 13 with(first
  | (go_at_call 50;refine hla1.mono ?_;clear hla1;rintro e W11 ⟨n1,c1,rfl,hL,hb⟩;obtain⟨rfl,rfl⟩:=aw_lat1 HR.out hL;have HBL11:=Lib.hid (HBL10.out.trans (hb.mono HBL10.out.size));have H4e:=Lib.hid (H4d.out.next hb);have HV4e:=Lib.hid (IsL.mono HV4d.out hb);have hla2:=vR (tq:=nA) (fr:=nC) (HT.out W11 HBL11.out) HSN.out;clear hL hb HBL10 H4d HV4d)
  | (go_at_call 50;refine hla2.mono ?_;clear hla2;rintro e W12 ⟨n2,c2,rfl,hL,hb⟩;obtain⟨rfl,rfl⟩:=aw_lat2 HR.out hL;have HBL12:=Lib.hid (HBL11.out.trans (hb.mono HBL11.out.size));have H4f:=Lib.hid (H4e.out.next hb);have HV4f:=Lib.hid (IsL.mono HV4e.out hb);have hacr:=q_Across (tq:=nB) (ta:=10) (fr:=nB) (fa:=0) (th:=nA) (HT.out W12 HBL12.out) HSN.out (acr_ok HSN.out nB 10 nB 0 nA);clear hL hb HBL11 H4e HV4e))
 rw[aw_f8 HR.out]at hacr;simp only at hacr;have HLT:=Lib.hid (show B4<W12.heap.size from(Array.getElem?_eq_some_iff.1 H4f.out.blk).1);refine wp_region_list ?_;refine ag rfl (v:=ptB t) (w':=W12) (by rfl) ?_;refine wpList_plain rfl (fun K hK=> ?_);go_simp;go_at_call 49
 refine hacr.mono ?_;rintro e w4 ⟨v,rfl,hv,hb⟩;obtain⟨vs16,rfl,hul,hu1,hun⟩:=di hv;refine hK _ _ ?_;clear hK K hacr;refine ag rfl (v:=.tuple #[.agg vs16.toArray,.int .i64 0]) (w':=w4) (by rfl) ?_;refine ag rfl (v:=.agg vs16.toArray) (w':=w4) (by go_simp) ?_;refine ag rfl (v:=.int .i64 0) (w':=w4) (by go_simp) ?_;have hpn:=PB.new w4;have hvn:bu (w4.alloc (.cells az.toArray 39)) (.agg vs16.toArray) (sh (-2) 0 0):=IsL.mono hv hpn.bel;have hth:=hpn.there;rw[←hul]at hth;have hb5:=aI vs16 0 _ (hb.trans (hpn.bel.mono hb.size)) hb.size (b:=w4.heap.size);have H4g:=Lib.hid (H4f.out.next hb5);have HV4g:=Lib.hid (IsL.mono HV4f.out hb5);have H16:=Lib.hid ((hpn.base (HBL12.out.trans (hb.mono (HBL12.out).size))).put (us:=vs16) hul hun);have HV16:=Lib.hid (hpn.keep (us:=vs16) hvn);refine ag rfl (v:=.pointer (some ⟨w4.heap.size,0,none⟩)) (w':=w4.alloc (.cells az.toArray 39)) (by go_simp;try rfl) ?_;refine wpList_store_mid rfl _ _ _ rfl w4.heap.size 0 vs16.toArray rfl rfl (by simpa using hth) (aZ hul) hu1 ?_;rw[show vs16.toArray.toList=vs16 from rfl];have HBL16:=Lib.hid ((HBL12.out).trans (hb5.mono (HBL12.out).size));generalize hW5:(w4.alloc (.cells az.toArray 39)).setCells w4.heap.size 0 vs16=W13 at *;have hlt4:B4<w4.heap.size:=Nat.lt_of_lt_of_le HLT.out hb.size;obtain⟨B16,hB16⟩:∃B,w4.heap.size=B:=⟨_,rfl⟩;rw[hB16]at H16 hlt4⊢;clear hW5 hB16 hpn hvn hth hb5 hv hb hu1 hun hul;clear HBL12 H4f HV4f HT HSN HR;go_upto_region 14 with(fail)
 have hrw:=dR (w':=W13) HROW.out (fun g hg=>HBL16.out.block g (cP HROW.out hg).2);have hge4:=HGE4.out;obtain⟨cs4,e4,hc4⟩:=HV4g.out;have e4:vs4=cs4:=by injection e4 with e4;simpa using e4
 obtain⟨cs16,e16,hc16⟩:=HV16.out;have e16:vs16=cs16:=by injection e16 with e16;simpa using e16
 rw[←e4]at hc4;rw[←e16]at hc16;clear e4 e16;have hs:=fun(ts:List Value) (hk:_) (hn:ts.length=142)=>mst_two (ts:=ts) (nt:=142) (ρ:=frs ((sh 2 (-1) 0).cs++(sh (-2) 0 0).cs)++([.row 9 3 (nmQ [nB,nA,nC])]:List Vp)) (we:=wp) (w:=W13) (T:=39) (b0:=B4) (b1:=B16) (l0:=bW [0,1,2,3,4,5,6]) (l1:=bW [7,8,9,10,11,12,13])
  (known:=[none,none,some (.v (.one (.ref 42))),some (.v (.one (.i .i64 0))),some (.v (.one (.ptr 0 0))),some (.v (.one (.i .i64 0))),none,some (.v (.one (.i .i64 17))),none,some (.v (.one (.i .i64 18))),none,some (.v (.one (.i .i64 6))),some (.v (.one (.i .i64 10))),some (.v (.one (.i .i64 0))),some (.v (.one (.i .i64 1099511627776))),some (.v (.one (.i .i64 0))),some (.v (.one (.ptr 1 0))),some (.v (.one (.i .i64 0)))])
  (by omega) HBL16.out hge4 H16.out.ge H4g.out.blk H16.out.blk H4g.out.nu H16.out.nu
  ((ec (xs:=(sh 2 (-1) 0).cs++(sh (-2) 0 0).cs) (ks:=[0,1,2,3,4,5,6]) (vs:=(sh 2 (-1) 0).cs) ⟨rfl,rfl,rfl,rfl,rfl,rfl,rfl,trivial⟩).2 hc4)
  ((ec (xs:=(sh 2 (-1) 0).cs++(sh (-2) 0 0).cs) (ks:=[7,8,9,10,11,12,13]) (vs:=(sh (-2) 0 0).cs) ⟨rfl,rfl,rfl,rfl,rfl,rfl,rfl,trivial⟩).2 hc16) hk hn
 have hrf:Leaf.holds (frs ((sh 2 (-1) 0).cs++(sh (-2) 0 0).cs)++([.row 9 3 (nmQ [nB,nA,nC])]:List Vp)) (qN B4 B16) W13 (.ref 42) (.slice adn [nB,nA,nC].length cpn):=⟨_,rfl,names_row hrw,fun g hg hx=>by
  obtain⟨o,n,c,e⟩:=hg;have hl:=(cP HROW.out (g:=g) (by injection e with e _ _;rw[e];rfl)).2;have h16:=H16.out.ge;rcases blk2_has hx with rfl | rfl<;>omega⟩
 refine reg_bool (x:=0) (by decide) (C:=[_,_,_,_,_]) (L:=[_])
  (ae (I_names (n:=42) (L:=[nB,nA,nC]) rfl (by decide)) (ae (zj 2 (-1) 0 (kr:=[0,1,2,3,4,5,6]) ⟨rfl,rfl,rfl,rfl,rfl,rfl,rfl,trivial⟩ (by decide) (by decide) (by decide)) (ae (zj (-2) 0 0 (kr:=[7,8,9,10,11,12,13]) ⟨rfl,rfl,rfl,rfl,rfl,rfl,rfl,trivial⟩ (by decide) (by decide) (by decide))
   (ae (pR (ka:=[0,1,2,3,4,5,6]) (kb:=[0,1,2,3,4,5,6]) (a:=sh 2 (-1) 0) (b:=sh 2 (-1) 0) ⟨rfl,rfl,rfl,rfl,rfl,rfl,rfl,trivial⟩ ⟨rfl,rfl,rfl,rfl,rfl,rfl,rfl,trivial⟩ ((kM (by decide) (by decide) (by decide)).mono (by decide)) ((kM (by decide) (by decide) (by decide)).mono (by decide)) rfl)
   (ae (pR (ka:=[7,8,9,10,11,12,13]) (kb:=[7,8,9,10,11,12,13]) (a:=sh (-2) 0 0) (b:=sh (-2) 0 0) ⟨rfl,rfl,rfl,rfl,rfl,rfl,rfl,trivial⟩ ⟨rfl,rfl,rfl,rfl,rfl,rfl,rfl,trivial⟩ ((kM (by decide) (by decide) (by decide)).mono (by decide)) ((kM (by decide) (by decide) (by decide)).mono (by decide)) rfl) ai)))))
  (af (o_bs3 (m:=42) nB nA nC rfl) aj) (by kernel_rfl) ?_ (hs _ ⟨hrf,rfl,⟨B4,rfl,rfl⟩,rfl,rfl,rfl,rfl,rfl,rfl,rfl,rfl,⟨B16,rfl,rfl⟩,rfl,trivial⟩ rfl) ?_
 ·kernel_rfl
 intro a' w' h0 hd hk;have HBW:=Lib.hid (HBP.out.trans (hk.to.mono HBP.out.size));clear hs hrf hc4 hc16 hrw hge4 hlt4 hk HBL16 H4g HV4g H16 HV16 HROW;go_wp2;refine bodyPost_ret (results_tmp rfl _ _ _) hd ?_;exact⟨congrArg Ending.returned h0,HBW.out⟩
end
section
variable {ρ:Rho} {n m k:Nat} {c p:Nm} {a u:Int} {l:Leaf} {sv:SV}
def KT (ρ:Rho) (l:Leaf) (c:Nm):Prop:=∀B w x,l.holds ρ B w x→x= .string c
theorem dY (h:ρ[n]? =some (.val (.string c))):KT ρ (.ref n) c:=fun _ _ _ hx=>bq h hx
theorem iG (h1:KI ρ l .u8 u) (hm:ρ[m]? =some (.val (.string (aG u)))) (h:0≤u∧u<256):Inst.Ok Tryz.prog ρ ⟨39,[.one l],.v (.one (.ref m))⟩:=
 ⟨aA Tryz.func39 rfl rfl,fun B w vs hB hv=>by
  match vs,hv with
  | [v0],hv=>
   have e0:=h1 _ _ _ hv.1;subst e0;refine(iz u h).mono ?_;rintro e w' ⟨rfl,hw⟩;obtain rfl:=hw.symm;exact⟨_,rfl,aC hm gG,Below.refl _ _⟩⟩
end
section
open Go.ChangeShapes Go.WideShapes Go.ChangeAt Go.RowKit
structure Qry where
 a:Int
 b:Int
 c:Int
 t:Int
 o:Int
def Qry.cs (s:Qry):List Value:=[.int .u8 s.a,.int .u8 s.b,.int .u8 s.c,.int .i64 s.t,.int .i64 s.o]
abbrev Qry.val (s:Qry):Value:=.agg s.cs.toArray
structure Qry.Ok (s:Qry):Prop where
 a:0≤s.a∧s.a<256
 b:0≤s.b∧s.b<256
 c:0≤s.c∧s.c<256
 t: -9223372036854775808≤s.t∧s.t<9223372036854775808
 o: -9223372036854775808≤s.o∧s.o<9223372036854775808
section
variable {H:Type} {enc:TypeId×Value→H} {W:World}
theorem i64_wf {t:Int} (h:(Lit.int .i64 t).wf=true): -9223372036854775808≤t∧t<9223372036854775808:=by
 simp[Lit.wf,IntKind.min,IntKind.max,IntKind.wrap,IntKind.bits,IntKind.signed]at h;omega
theorem x6 {v:Value} {d:DataW H} {p:List MemPlace} {base:Nat} (hval:Value.okWide Tryz.prog W .any base 94 v) (h:DataW.Trod enc Tryz.prog W 0 (fun _=>true) true 94 v d p):∃s:Qry,s.Ok∧v=s.val:=by
 obtain⟨cs,rfl,hcs⟩:=okWide_struct Tryz.underlying94 hval;have hc:Tryz.prog.cellsOf 94=5:=by kernel_rfl
 rw[hc]at hcs;obtain⟨l⟩:=cs;have hl:l.length=5:=by simpa using hcs
 obtain⟨fuel,hf⟩:=h;have h8:Tryz.prog.cellsOf 5=1:=by kernel_rfl
 have h64:Tryz.prog.cellsOf 3=1:=by kernel_rfl
 obtain⟨xs,n,_,hx,_,hlen,hg⟩:=DataW.trod_struct Tryz.underlying94 hf
 match xs,hlen with
 | [y0,y1,y2,y3,y4],_=>
  have k0:=hg 0 _ rfl;have k1:=hg 1 _ rfl;have k2:=hg 2 _ rfl;have k3:=hg 3 _ rfl;have k4:=hg 4 _ rfl;simp[Value.cells,h8,h64]at k0 k1 k2 k3 k4
  match l,hl with
  | [u0,u1,u2,u3,u4],_=>
   simp at k0 k1 k2 k3 k4;obtain⟨t0,e0,f0⟩:=DataW.trod_int Tryz.underlying5 k0;obtain⟨t1,e1,f1⟩:=DataW.trod_int Tryz.underlying5 k1;obtain⟨t2,e2,f2⟩:=DataW.trod_int Tryz.underlying5 k2;obtain⟨t3,e3,f3⟩:=DataW.trod_int Tryz.underlying3 k3;obtain⟨t4,e4,f4⟩:=DataW.trod_int Tryz.underlying3 k4;simp at e0 e1 e2 e3 e4;subst e0 e1 e2 e3 e4;exact⟨⟨t0,t1,t2,t3,t4⟩,⟨qn f0.2,qn f1.2,qn f2.2,i64_wf f3.2,i64_wf f4.2⟩,rfl⟩
end
end
section
variable {ρ:Rho} {n m k:Nat} {c d p:Nm} {a u:Int} {l l' l'' l3 l4:Leaf} {sv:SV}
theorem nT:Inst.Ok Tryz.prog ρ ⟨53,[],.v (.one (.b true))⟩:=
 ⟨aA Tryz.func53 rfl rfl,fun B w vs hB hv=>by
  match vs,hv with
  | [],_=>
   refine(rR w).mono ?_;rintro e w' ⟨rfl,hw⟩;exact⟨_,rfl,rfl,hw⟩⟩
end
section
open Classical
section
variable {R:Tr} {a:Int} {x y z s p q:Nm} {l l1 l2:List Nm}
theorem Anc.reach (h:Anc R a x l) (hs:s∈l):Reach R a x s:=by
 induction h with
 | root hp=>simp only[List.mem_singleton]at hs;subst hs;exact .refl _
 | step hp t ih=>
  rcases List.mem_cons.1 hs with rfl | hs
  ·exact .refl _
  ·exact .step hp (ih hs)
theorem Anc.nodup (hR:TOk R) (h:Anc R a x l):l.Nodup:=by
 induction h with
 | root hp=>simp
 | @step x y l hp t ih=>
  refine List.nodup_cons.2 ⟨fun hm=> ?_,ih⟩;exact(hR.acy a x).no_loop y hp (t.reach hm)
theorem Anc.split (h:Anc R a x l) (hs:s∈l):∃l2,l=bC l s++l2∧Anc R a s l2:=by
 induction h with
 | @root x hp=>
  simp only[List.mem_singleton]at hs;subst hs;exact⟨[s],by simp[bC],.root hp⟩
 | @step x y l hp t ih=>
  by_cases e:x=s
  ·subst e;exact⟨x::l,by simp[bC],.step hp t⟩
  ·rcases List.mem_cons.1 hs with h | h
   ·exact absurd h.symm e
   ·obtain⟨l2,h1,h2⟩:=ih h;refine⟨l2,?_,h2⟩;have:bC (x::l) s=x::bC l s:=by simp[bC,e]
    rw[this,List.cons_append,←h1]
theorem ku (hR:TOk R) (hs:s∈bd R a x):bd R a x=bC (bd R a x) s++bd R a s:=by
 obtain⟨l2,h1,h2⟩:=(dS hR a x).split hs;rw[ko h2];exact h1
theorem tJ (hR:TOk R) (hp:p∈bd R a x) (hs:s∈bd R a p):s∈bd R a x∧bC (bd R a x) s=bC (bd R a x) p++bC (bd R a p) s:=by
 have h1:=ku hR hp;have hn:=(dS hR a x).nodup hR;rw[h1]at hn;have hd:=(List.nodup_append.1 hn).2.2;refine⟨by rw[h1];exact List.mem_append.2 (.inr hs),?_⟩
 conv=>lhs;rw[h1]
 unfold bC;rw[List.takeWhile_append_of_pos (fun z hz=>by
  have:=hd z hz s hs;simpa using this)]
theorem x7:∀ {l:List Nm} {u:Nm},u∈bC l s→u≠s
 | [],_,h=>by cases h
 | x::l,u,h=>by
  unfold bC at h;rw[List.takeWhile_cons]at h;split at h
  ·rename_i hx;rcases List.mem_cons.1 h with rfl | h
   ·simpa using hx
   ·exact x7 (l:=l) h
  ·cases h
def okE (R:Tr) (a:Int) (l:List Nm):Prop:=∀f∈l,(cJ R f a).2=0
noncomputable def mR (R:Tr) (a:Int) (l:List Nm):Pq:=(co R a l Pq.id).1
theorem cV (hR:TOk R):∀(l:List Nm) (p:Pq),okE R a l→p.good→co R a l p=((mR R a l).mul p,0)∧(mR R a l).good
 | [],p,_,g=>⟨by show(p,0)=(Pq.id.mul p,0);rw[nS g],Pq.good.id⟩
 | f::l,p,h,g=>by
  have hf:=h f (List.mem_cons_self ..);have he:=(vD hR hf).g;have hl:okE R a l:=fun z hz=>h z (List.mem_cons_of_mem _ hz)
  have e1:=(cV hR l ((cJ R f a).1.mul p) hl (he.mul g)).1;obtain⟨e2,gv⟩:=cV hR l ((cJ R f a).1.mul Pq.id) hl (he.mul Pq.good.id);have ev:mR R a (f::l)=(mR R a l).mul (cJ R f a).1:=by
   unfold mR;rw[show co R a (f::l) Pq.id=co R a l ((cJ R f a).1.mul Pq.id)by rw[co,if_pos hf],e2,vL he];rfl
  refine⟨?_,by rw[ev];exact gv.mul he⟩;rw[show co R a (f::l) p=co R a l ((cJ R f a).1.mul p)by rw[co,if_pos hf],e1,ev,fe gv he g]
theorem qy:∀(l:List Nm) (p:Pq),(co R a l p).2=0→okE R a l
 | [],_,_=>fun _ h=>by cases h
 | f::l,p,h=>by
  rw[co]at h;by_cases h0:(cJ R f a).2=0
  ·rw[if_pos h0]at h;intro z hz;rcases List.mem_cons.1 hz with rfl | hz
   ·exact h0
   ·exact qy l _ h z hz
  ·rw[if_neg h0]at h;exact absurd h h0
theorem val_app (hR:TOk R) (h1:okE R a l1) (h2:okE R a l2):mR R a (l1++l2)=(mR R a l2).mul (mR R a l1):=by
 have key:∀(l1:List Nm) (p:Pq),okE R a l1→co R a (l1++l2) p=co R a l2 (co R a l1 p).1:=by
  intro l1
  induction l1 with
  | nil=>intro p _;rfl
  | cons f l ih=>
   intro p h;have hf:=h f (List.mem_cons_self ..);rw[List.cons_append,co,if_pos hf,co,if_pos hf];exact ih _ (fun z hz=>h z (List.mem_cons_of_mem _ hz))
 unfold mR;rw[key l1 Pq.id h1];have e1:=cV hR l1 Pq.id h1 Pq.good.id;have g1:(co R a l1 Pq.id).1.good:=e1.2;exact congrArg Prod.fst (cV hR l2 _ h2 g1).1
theorem tK:okE R a (l1++l2)↔okE R a l1∧okE R a l2:=
 ⟨fun h=>⟨fun z hz=>h z (List.mem_append.2 (.inl hz)),fun z hz=>h z (List.mem_append.2 (.inr hz))⟩,fun⟨h1,h2⟩ z hz=>(List.mem_append.1 hz).elim (h1 z) (h2 z)⟩
theorem zk {b c:Pq} (gb:b.good) (gc:c.good):(b.mul c).inv=c.inv.mul b.inv:=by
 have gbc:=gb.mul gc;have h1:=qv gbc;have h2:(c.inv.mul b.inv).mul (b.mul c)=Pq.id:=by
  rw[fe gc.inv gb.inv gbc,←fe gb.inv gb gc,qv gb,nS gc,qv gc]
 have gy:=gc.inv.mul gb.inv;have e1:(b.mul c).inv=(c.inv.mul b.inv).mul ((b.mul c).mul (b.mul c).inv):=by
  rw[←fe gy gbc gbc.inv,h2,nS gbc.inv]
 rw[zf gbc,vL gy]at e1;exact e1
theorem inv_inv {b:Pq} (g:b.good):b.inv.inv=b:=by
 have e:b.inv.inv=(b.mul b.inv).mul b.inv.inv:=by rw[zf g,nS g.inv.inv]
 rw[e,fe g g.inv g.inv.inv,zf g.inv,vL g]
noncomputable abbrev upE (R:Tr) (a:Int) (x s:Nm):List Nm:=bC (bd R a x) s
theorem qz (hR:TOk R) (hp:p∈bd R a x) (hs:s∈bd R a p) (h:okE R a (upE R a x s)):okE R a (upE R a x p)∧okE R a (upE R a p s)∧mR R a (upE R a x s)=(mR R a (upE R a p s)).mul (mR R a (upE R a x p)):=by
 have e:=(tJ hR hp hs).2;unfold upE at *;rw[e]at h⊢;obtain⟨h1,h2⟩:=tK.1 h;exact⟨h1,h2,val_app hR h1 h2⟩
theorem gR (hR:Sane R) (kx:aN R x) (ky:aN R y) (sx:s∈bd R a x) (sy:s∈bd R a y) (ox:okE R a (upE R a x s)) (oy:okE R a (upE R a y s)):aH R a y x=((mR R a (upE R a y s)).inv.mul (mR R a (upE R a x s)),0):=by
 cases hc:jd (bd R a x) (bd R a y)with
 | none=>exact absurd sy (by have:=List.find?_eq_none.1 hc s sx;simpa using this)
 | some p=>
  have hm:aT R a x y=(p,0):=by unfold aT;rw[if_pos ⟨kx,ky⟩,hc]
  have hp1:p∈bd R a x:=List.mem_of_find?_eq_some hc;have hp2:p∈bd R a y:=by have:=List.find?_some hc;simpa using this
  have hsp:s∈bd R a p:=by
   have e:=ku hR.ok hp1;rw[e]at sx;rcases List.mem_append.1 sx with h | h
   ·have h1:∀z∈bC (bd R a x) p,z∉bd R a y:=by
     obtain⟨la,lb,e1,e2⟩:=(List.find?_eq_some_iff_append.1 hc).2;intro z hz hzy;have hz2:z∈la:=by
      rw[e1]at hz;have:bC (la++p::lb) p=la:=by
       have hpa:∀u∈la,u≠p:=fun u hu e=>by
        have:=e2 u hu;simp at this;exact this (e▸hp2)
       exact vC hpa ⟨lb,by simp⟩
      rw[this]at hz;exact hz
     have:=e2 z hz2;simp at this;exact this hzy
    exact absurd sy (h1 s h)
   ·exact h
  obtain⟨x1,x2,x3⟩:=qz hR.ok hp1 hsp ox;obtain⟨y1,_,y3⟩:=qz hR.ok hp2 hsp oy;obtain⟨ex,gx⟩:=cV hR.ok _ Pq.id x1 Pq.good.id;obtain⟨ey,gy⟩:=cV hR.ok _ Pq.id y1 Pq.good.id;obtain⟨_,gs⟩:=cV hR.ok _ Pq.id x2 Pq.good.id;rw[vL gx]at ex;rw[vL gy]at ey;rw[gQ hm ex ey,x3,y3,zk gs gy,fe gy.inv gs.inv (gs.mul gx),←fe gs.inv gs gx,qv gs,nS gx]
theorem lO (hR:Sane R) (h:(aH R a y x).2=0):∃p,p∈bd R a x∧p∈bd R a y∧aN R x∧aN R y∧okE R a (upE R a x p)∧okE R a (upE R a y p):=by
 unfold aH at h;by_cases h0:(aT R a x y).2=0
 ·rw[if_neg (by simpa using h0)]at h;by_cases hu:(upP R a x (aT R a x y).1).2=0
  ·rw[if_neg (by simpa using hu)]at h;by_cases hd:(upP R a y (aT R a x y).1).2=0
   ·obtain⟨kx,ky⟩:=lN h0;refine⟨_,?_,?_,kx,ky,qy _ _ hu,qy _ _ hd⟩
    ·unfold aT at h0⊢;rw[if_pos ⟨kx,ky⟩]at h0⊢
     cases hc:jd (bd R a x) (bd R a y)with
     | none=>rw[hc]at h0;cases h0
     | some p=>exact List.mem_of_find?_eq_some hc
    ·unfold aT at h0⊢;rw[if_pos ⟨kx,ky⟩]at h0⊢
     cases hc:jd (bd R a x) (bd R a y)with
     | none=>rw[hc]at h0;cases h0
     | some p=>have:=List.find?_some hc;simpa using this
   ·rw[if_pos hd]at h;exact absurd h hd
  ·rw[if_pos hu]at h;exact absurd h hu
 ·rw[if_pos h0]at h;exact absurd h h0
theorem rS (hR:Sane R) (h:(aH R a y x).2=0):aH R a x y=((aH R a y x).1.inv,0)∧aH R a x x=(Pq.id,0):=by
 obtain⟨p,h1,h2,kx,ky,o1,o2⟩:=lO hR h;obtain⟨_,gx⟩:=cV hR.ok _ Pq.id o1 Pq.good.id;obtain⟨_,gy⟩:=cV hR.ok _ Pq.id o2 Pq.good.id;constructor
 ·rw[gR hR kx ky h1 h2 o1 o2,gR hR ky kx h2 h1 o2 o1,zk gy.inv gx,inv_inv gy]
 ·rw[gR hR kx kx h1 h1 o1 o1,qv gx]
theorem find_comp (hR:Sane R) (h1:(aH R a y x).2=0) (h2:(aH R a z y).2=0):aH R a z x=((aH R a z y).1.mul (aH R a y x).1,0):=by
 obtain⟨p,p1,p2,kx,ky,o1,o2⟩:=lO hR h1;obtain⟨q,q1,q2,_,kz,o3,o4⟩:=lO hR h2;have key:∀s,s∈bd R a x→s∈bd R a y→s∈bd R a z→okE R a (upE R a x s)→okE R a (upE R a y s)→okE R a (upE R a z s)→aH R a z x=((aH R a z y).1.mul (aH R a y x).1,0):=by
  intro s s1 s2 s3 a1 a2 a3;obtain⟨_,gx⟩:=cV hR.ok _ Pq.id a1 Pq.good.id;obtain⟨_,gy⟩:=cV hR.ok _ Pq.id a2 Pq.good.id;obtain⟨_,gz⟩:=cV hR.ok _ Pq.id a3 Pq.good.id;rw[gR hR kx kz s1 s3 a1 a3,gR hR ky kz s2 s3 a2 a3,gR hR kx ky s1 s2 a1 a2];rw[fe gz.inv gy (gy.inv.mul gx),←fe gy gy.inv gx,zf gy,nS gx]
 have e:=ku hR.ok p2;have hq:q∈bC (bd R a y) p∨q∈bd R a p:=by
  rw[e]at q1;exact List.mem_append.1 q1
 rcases hq with hq | hq
 ·
  have hpq:p∈bd R a q:=by
   have e2:=ku hR.ok q1;rw[e2]at p2;rcases List.mem_append.1 p2 with h | h
   ·
    obtain⟨t,ht⟩:=(dS hR.ok a p).head;have h3:bC (bd R a y) p <+:bd R a y:=List.takeWhile_prefix _;have h4:bC (bd R a y) q <+:bd R a y:=List.takeWhile_prefix _;have h5:∀u∈bC (bd R a y) q,u≠q:=fun u hu=>x7 hu
    have h6:∀u∈bC (bd R a y) p,u≠p:=fun u hu=>x7 hu
    rcases Nat.le_total (bC (bd R a y) p).length (bC (bd R a y) q).length with hl | hl
    ·have:=(List.prefix_of_prefix_length_le h3 h4 hl).subset hq;exact absurd rfl (h5 q this)
    ·have:=(List.prefix_of_prefix_length_le h4 h3 hl).subset h;exact absurd rfl (h6 p this)
   ·exact h
  obtain⟨m1,_,_⟩:=qz hR.ok q1 hpq o2;obtain⟨_,m2,_⟩:=qz hR.ok q1 hpq o2;have hz:=tJ hR.ok q2 hpq;exact key p p1 p2 hz.1 o1 o2 (by unfold upE;rw[hz.2];exact tK.2 ⟨o4,m2⟩)
 ·obtain⟨_,m2,_⟩:=qz hR.ok p2 hq o3;have hx:=tJ hR.ok p1 hq;exact key q hx.1 q1 q2 (by unfold upE;rw[hx.2];exact tK.2 ⟨o1,m2⟩) o3 o4
end
end
def Vp.tree (t m:Nat) (E:List Ch):Vp:=.of (fun w v=>v=ptB t∧TM w t m E) (fun _ g=>g∈fpT t m E)
 (fun w w' X v h k hX=>⟨h.1,h.2.chg k hX⟩) (fun w v g h hg=>h.2.lt g hg) (fun w v h=>by
  obtain⟨rfl,_⟩:=h;exact⟨fun _ h=>by(cases h),fun _ h=>by(cases h),fun _ h=>by(cases h)⟩)
section
variable {p:Program} {ρ:Rho} {w0:Ent} {nt:Nat} {C:List Inst} {L:List OIns} {a:Act} {w:World}
theorem nU {c:Code} {s:MS} {n x:Nat} {Q:Exit→Act→World→Prop} (hx:x<100000) (hC:∀i∈C,i.Ok0 p ρ w0) (hO:∀i∈L,i.OkE w0 p ρ) (hm:p.follows .mixedOrders=true)
  (h:(dr p C L nt n c s).bind (fun r=>if r.1= .ret then bh r.2 x else none)=some (.v (.one (.b true)))) (hs:MSt ρ w0 nt s a w) (hQ:∀a' w',a'.tmps.getD x undef= .bool true→a'.defers=[]→w0.kept w'→Q .ret a' w'):c.wp p Q a w:=by
 cases hr:dr p C L nt n c s with
 | none=>rw[hr]at h;cases h
 | some r=>
  obtain⟨e,s'⟩:=r;rw[hr]at h;have h:(if e= .ret then bh s' x else none)=some (.v (.one (.b true))):=h;split at h
  ·rename_i he;subst he;refine bM hC hO hm hr hs (fun a' w' ⟨B,hi,hv,_⟩=>hQ a' w' ?_ hi.dfr hi.below);have h2:=hv x _ h;unfold bB at h2;rw[if_pos hx]at h2;obtain⟨u,h3,h4⟩:=h2;have e:u= .bool true:=h4;subst e;simp[h3]
  ·cases h
def vS (b0:Nat):Blk:=⟨fun x=>if x=0 then some b0 else none,fun _ _=>False⟩
theorem qA {b0 g:Nat} (h:(vS b0).has g):g=b0:=by
 rcases h with⟨x,h⟩ | ⟨k,h⟩
 ·simp only[vS]at h;split at h
  ·injection h with h;exact h.symm
  ·cases h
 ·exact h.elim
theorem tL {we:World} {T:TypeId} {b0:Nat} {cs0:List Value} {l0:List Leaf} {known:List (Option AV)} {ts:List Value} (hb:Below we.heap.size we w) (g0:we.heap.size≤b0)
  (h0:w.heap[b0]? =some (.cells cs0.toArray T (0,0))) (n0:∀u∈cs0,noU u) (k0:aB ρ (vS b0) w l0 cs0)
  (hk:jX ρ (vS b0) w known ts) (hn:ts.length=nt):MSt ρ (Ent.of we) nt ⟨known++List.replicate (nt - known.length) none,[(T,l0.map some)]⟩ ⟨ts.toArray,[]⟩ w:=by
 have q0:=k0.len;refine⟨vS b0,⟨fun v g hv=> ?_,fun k g h=>h.elim,⟨fun x y g hx hy=> ?_,fun k l g h=>h.elim,fun x k g hx h=>h⟩,⟨hb.os,hb.tape,hb.output,hb.size,fun k hk _=>hb.block k hk⟩,by simpa using hn,rfl,fun x g h=>by simp[Ent.of]at h⟩,fun x c hx=> ?_,fun v hv=> ?_⟩
 ·simp only[vS]at hv;split at hv
  ·rename_i e;subst e;injection hv with hv;subst hv;refine⟨.inl g0,cs0.toArray,T,by simp[cT,q0],h0,fun k n hk=> ?_⟩;have:=List.mem_of_getElem? (show cs0[k]? =some (.int .u32 n)by simpa using hk);exact n0 _ this n rfl
  ·cases hv
 ·simp only[vS]at hx hy;split at hx
  ·split at hy
   ·omega
   ·cases hy
  ·cases hx
 ·unfold bh at hx;split at hx
  ·rename_i hlt;unfold bB;rw[if_pos hlt];simp only at hx;have hx2:(known++List.replicate (nt - known.length) none)[x]? =some (some c):=by
    cases hq:(known++List.replicate (nt - known.length) none)[x]? with
    | none=>rw[hq]at hx;cases hx
    | some o=>rw[hq]at hx;simp only at hx;rw[hx]
   have hx3:known[x]? =some (some c):=by
    by_cases hl:x<known.length
    ·rwa [List.getElem?_append_left hl]at hx2
    ·rw[List.getElem?_append_right (by omega),List.getElem?_replicate]at hx2;split at hx2
     ·injection hx2 with hx2;cases hx2
     ·cases hx2
   obtain⟨u,h3,h4⟩:=hk.get hx3;exact⟨u,by simpa using h3,h4⟩
  ·rename_i hlt;unfold bB;rw[if_neg hlt]
   match hq:x / 100000 - 1,hx with
   | 0,hx=>
    simp only[List.getElem?_cons_zero,List.getElem?_map]at hx
    cases hl:l0[x % 100000]? with
    | none=>rw[hl]at hx;cases hx
    | some l=>
     rw[hl]at hx;simp only[Option.map_some,Option.some.injEq]at hx;subst hx;obtain⟨u,h3,h4⟩:=k0.at hl;exact⟨b0,cs0.toArray,T,u,rfl,h0,by simpa using h3,h4⟩
   | n+1,hx=>simp at hx
 ·simp only[vS]at hv;show v<1;split at hv
  ·omega
  ·exact absurd rfl hv
end
section
variable {xs:List Fq} {ys:Rho} {n:Nat} {kr:List Nat} {l l' l'' lc:Leaf} {t m:Nat} {E:List Ch} {c d:Nm} {a e:Int} {p:Pq}
theorem kc_r {ρ:Rho} (h:ρ[n]? =some (.val (.int .i64 e))):∀B w,(Leaf.ref n).holds ρ B w (.int .i64 e):=fun _ _=>aC h aJ
theorem tree_arg {ρ:Rho} {B:Blk} {w:World} {v:Value} (ht:ρ[n]? =some (.tree t m E)) (h:(SV.one (.ref n)).holds ρ B w v):v=ptB t∧TM w t m E:=by
 obtain⟨s,k1,k2,_⟩:=h;rw[ht]at k1;injection k1 with k1;subst k1;exact k2
theorem dV (ht:(frs xs++ys)[n]? =some (.tree t m E)) (hE:Sane (trE E)) (h1:KT (frs xs++ys) l c) (h2:KT (frs xs++ys) l' d) (h3:KI (frs xs++ys) l'' .i64 a) (hp:aH (trE E) a c d=(p,e)) (ar:AtL xs kr p.cs) (hc:∀B w,lc.holds (frs xs++ys) B w (.int .i64 e)):
  OkI xs ys ⟨18,[.one (.ref n),.one l,.one l',.one l''],.tup [row kr,.one lc]⟩:=
 ⟨aA Tryz.func18 rfl rfl,fun B w vs hB hv=>by
  match vs,hv with
  | [v0,v1,v2,v3],hv=>
   obtain⟨e0,hT⟩:=tree_arg ht hv.1;have e1:=h1 _ _ _ hv.2.1;have e2:=h2 _ _ _ hv.2.2.1;have e3:=h3 _ _ _ hv.2.2.2.1;subst e0;subst e1;subst e2;subst e3;refine(jV hT hE (fX hE _ _ _)).mono ?_;rw[hp];rintro e' w' ⟨v,rfl,h6,hw⟩;exact⟨_,rfl,⟨[v,.int .i64 e],rfl,(ah ar).2 h6,hc _ _,trivial⟩,hw⟩⟩
end
section
open Classical
set_option maxHeartbeats 4000000 in
theorem q_d29b {w w1:World} {t m B:Nat} {E:List Ch} {k c p a x u:Int} (C:DoC w w1 t m B E k c p a x u) (hE:TOk (trE E)) (hk:0≤k) (hc:0≤c∧c<256) (hp:0≤p∧p<256) (ha: -32768≤a∧a<32768) (hx: -128≤x∧x<128) (hu:0≤u∧u<256) (h5:k % 5=2):
  Calls Tryz.prog 54 #[ptB t,.agg #[.int .u8 k,.int .u8 c,.int .u8 p,.int .i16 a,.int .i8 x,.int .u8 u]] w fun e w'=>qo w t m E ⟨1,aG c,aG p,a,bT x u⟩ e w':=by
 have hk5:k.tmod 5=k % 5:=Int.tmod_eq_emod_of_nonneg hk;have hwa:IntKind.i64.wrap a=a:=by rw[IntKind.wrap_i64];omega
 have HBD:=Lib.hid (show Below w1.heap.size w1 w1.drew from(Below.refl _ _).drew);have HPre:=Lib.hid C.pre;have HCell2:=Lib.hid C.cel2;have HT:=Lib.hid (show∀wq,Below w1.heap.size w1 wq→TM wq t m E from fun wq k=>C.tm.below k);have HE:=Lib.hid hE;have hw1:=C.eq;have hB:=C.hB;have f1:=C.f1;have f2:=C.f2;have HF:=Lib.hid (And.intro C.f0 (And.intro C.f3 (And.intro C.f4 C.f5)));have h2:=gP hx hu;have H2:=Lib.hid h2;have hpo:=fun wq=>tC (w:=wq) x u hx hu
 rw[h5]at hk5;have HDo:=Lib.hid (show∀E' code,DetS (trE E) (aG c) a (trE E') code→DoS (trE E) ⟨1,aG c,aG p,a,bT x u⟩ (trE E') code from fun E' code hd=>by unfold DoS;exact hd);clear C hE h2 hk h5;go_enter Tryz.func54,Tryz.ntmps54
 go_wp2
 go_region_held3 (fun w'=>w'.cell? ⟨B,1,none⟩=some (.int .u8 c)∧w'.cell? ⟨B,2,none⟩=some (.int .u8 p)) (first | assumption | exact⟨f1,f2⟩ | go_keep)
  (first
   | (go_at_call 39;with_reducible refine(iz c hc).mono ?_;rintro e w' ⟨rfl,hw'⟩;obtain rfl:=hw'.symm)
   | (go_at_call 39;with_reducible refine(iz p hp).mono ?_;rintro e w' ⟨rfl,hw'⟩;obtain rfl:=hw'.symm))
 all_goals clear f1 f2
 all_goals go_upto_region 2 with(fail)
 all_goals
  have f4:=HCell2.out w1.drew HBD.out 4 _ HF.out.2.2.1;have f5:=HCell2.out w1.drew HBD.out 5 _ HF.out.2.2.2;refine wp_region_list ?_;refine ag rfl (v:=.pointer (some ⟨B,4,none⟩)) (w':=w1.drew) (by go_simp) ?_;refine ag rfl (v:=.int .i8 x) (w':=w1.drew) (by go_simp) ?_;refine ag rfl (v:=.pointer (some ⟨B,5,none⟩)) (w':=w1.drew) (by go_simp) ?_;refine ag rfl (v:=.int .u8 u) (w':=w1.drew) (by go_simp) ?_;refine wpList_plain rfl (fun K hK=> ?_);go_simp;go_at_call 86
  refine(hpo _).mono ?_;rintro e w4 ⟨v,rfl,hv,hb⟩;obtain⟨vs,rfl,hul,hu1,hun⟩:=di hv;refine hK _ _ ?_;clear hK K hpo f4 f5;have hpn:=PB.new w4;have hvn:bu (w4.alloc (.cells az.toArray 39)) (.agg vs.toArray) (bT x u):=IsL.mono hv hpn.bel;have hth:=hpn.there;rw[←hul]at hth;have hb5:=aI vs 0 _ (hb.trans (hpn.bel.mono hb.size)) hb.size (b:=w4.heap.size);have HP:=Lib.hid (hpn.put (us:=vs) hul hun);have HV:=Lib.hid (hpn.keep (us:=vs) hvn);have HB5:=Lib.hid (HBD.out.trans (hb5.mono HBD.out.size));refine ag rfl (v:=.pointer (some ⟨w4.heap.size,0,none⟩)) (w':=w4.alloc (.cells az.toArray 39)) (by go_simp;try rfl) ?_;refine wpList_store_mid rfl _ _ _ rfl w4.heap.size 0 vs.toArray rfl rfl (by simpa using hth) (aZ hul) hu1 ?_;rw[show vs.toArray.toList=vs from rfl];generalize hW5:(w4.alloc (.cells az.toArray 39)).setCells w4.heap.size 0 vs=W2 at *;obtain⟨B7,hB7⟩:∃B,w4.heap.size=B:=⟨_,rfl⟩;rw[hB7]at HP⊢;clear hW5 hB7 hpn hvn hth hb5 hv hb hu1 hun hul;have f0:=HCell2.out W2 HB5.out 0 _ HF.out.1;have f3:=HCell2.out W2 HB5.out 3 _ HF.out.2.1;have HSZ:=Lib.hid (show(Tryz.prog.info? 39).map (·.size)=some vs.length by rw[HP.out.len];kernel_rfl);have hdet:=q_Detach (HT.out W2 HB5.out) HE.out (aG c) a;go_wp2_with (go_at_call 68;refine hdet.mono ?_;rintro e w3 ⟨E',code,rfl,hP,hD⟩;have HQ:=Lib.hid (And.intro (HPre.out _ _ _ HB5.out hP) (And.intro (REq.refl (trE E')) (HDo.out _ _ hD)));clear hP hD)
  go_ret;exact⟨E',_,code,rfl,HQ.out.1,HQ.out.2.1,HQ.out.2.2⟩
set_option maxHeartbeats 4000000 in
theorem q_d29c {w w1:World} {t m B:Nat} {E:List Ch} {k c p a x u:Int} (C:DoC w w1 t m B E k c p a x u) (hE:TOk (trE E)) (hk:0≤k) (hc:0≤c∧c<256) (hp:0≤p∧p<256) (ha: -32768≤a∧a<32768) (hx: -128≤x∧x<128) (hu:0≤u∧u<256) (h5:k % 5=3):
  Calls Tryz.prog 54 #[ptB t,.agg #[.int .u8 k,.int .u8 c,.int .u8 p,.int .i16 a,.int .i8 x,.int .u8 u]] w fun e w'=>qo w t m E ⟨2,aG c,aG p,a,bT x u⟩ e w':=by
 have hk5:k.tmod 5=k % 5:=Int.tmod_eq_emod_of_nonneg hk;have hwa:IntKind.i64.wrap a=a:=by rw[IntKind.wrap_i64];omega
 have HBD:=Lib.hid (show Below w1.heap.size w1 w1.drew from(Below.refl _ _).drew);have HPre:=Lib.hid C.pre;have HCell2:=Lib.hid C.cel2;have HT:=Lib.hid (show∀wq,Below w1.heap.size w1 wq→TM wq t m E from fun wq k=>C.tm.below k);have HE:=Lib.hid hE;have hw1:=C.eq;have hB:=C.hB;have f1:=C.f1;have f2:=C.f2;have HF:=Lib.hid (And.intro C.f0 (And.intro C.f3 (And.intro C.f4 C.f5)));have h2:=gP hx hu;have H2:=Lib.hid h2;have hpo:=fun wq=>tC (w:=wq) x u hx hu
 rw[h5]at hk5;have HDo:=Lib.hid (show∀R' code,SetS (kE a (bT x u)) (trE E) (aG c) a R' code→DoS (trE E) ⟨2,aG c,aG p,a,bT x u⟩ R' code from fun R' code hd=>by unfold DoS;exact hd);clear C hE h2 hk h5;go_enter Tryz.func54,Tryz.ntmps54
 go_wp2
 go_region_held3 (fun w'=>w'.cell? ⟨B,1,none⟩=some (.int .u8 c)∧w'.cell? ⟨B,2,none⟩=some (.int .u8 p)) (first | assumption | exact⟨f1,f2⟩ | go_keep)
  (first
   | (go_at_call 39;with_reducible refine(iz c hc).mono ?_;rintro e w' ⟨rfl,hw'⟩;obtain rfl:=hw'.symm)
   | (go_at_call 39;with_reducible refine(iz p hp).mono ?_;rintro e w' ⟨rfl,hw'⟩;obtain rfl:=hw'.symm))
 all_goals clear f1 f2
 all_goals go_upto_region 2 with(fail)
 all_goals
  have f4:=HCell2.out w1.drew HBD.out 4 _ HF.out.2.2.1;have f5:=HCell2.out w1.drew HBD.out 5 _ HF.out.2.2.2;refine wp_region_list ?_;refine ag rfl (v:=.pointer (some ⟨B,4,none⟩)) (w':=w1.drew) (by go_simp) ?_;refine ag rfl (v:=.int .i8 x) (w':=w1.drew) (by go_simp) ?_;refine ag rfl (v:=.pointer (some ⟨B,5,none⟩)) (w':=w1.drew) (by go_simp) ?_;refine ag rfl (v:=.int .u8 u) (w':=w1.drew) (by go_simp) ?_;refine wpList_plain rfl (fun K hK=> ?_);go_simp;go_at_call 86
  refine(hpo _).mono ?_;rintro e w4 ⟨v,rfl,hv,hb⟩;obtain⟨vs,rfl,hul,hu1,hun⟩:=di hv;refine hK _ _ ?_;clear hK K hpo f4 f5;have hpn:=PB.new w4;have hvn:bu (w4.alloc (.cells az.toArray 39)) (.agg vs.toArray) (bT x u):=IsL.mono hv hpn.bel;have hth:=hpn.there;rw[←hul]at hth;have hb5:=aI vs 0 _ (hb.trans (hpn.bel.mono hb.size)) hb.size (b:=w4.heap.size);have HP:=Lib.hid (hpn.put (us:=vs) hul hun);have HV:=Lib.hid (hpn.keep (us:=vs) hvn);have HB5:=Lib.hid (HBD.out.trans (hb5.mono HBD.out.size));refine ag rfl (v:=.pointer (some ⟨w4.heap.size,0,none⟩)) (w':=w4.alloc (.cells az.toArray 39)) (by go_simp;try rfl) ?_;refine wpList_store_mid rfl _ _ _ rfl w4.heap.size 0 vs.toArray rfl rfl (by simpa using hth) (aZ hul) hu1 ?_;rw[show vs.toArray.toList=vs from rfl];generalize hW5:(w4.alloc (.cells az.toArray 39)).setCells w4.heap.size 0 vs=W2 at *;obtain⟨B7,hB7⟩:∃B,w4.heap.size=B:=⟨_,rfl⟩;rw[hB7]at HP⊢;clear hW5 hB7 hpn hvn hth hb5 hv hb hu1 hun hul;have f0:=HCell2.out W2 HB5.out 0 _ HF.out.1;have f3:=HCell2.out W2 HB5.out 3 _ HF.out.2.1;have HSZ:=Lib.hid (show(Tryz.prog.info? 39).map (·.size)=some vs.length by rw[HP.out.len];kernel_rfl);have hset:=xN (c:=aG c) (a:=a) (p:=bT x u) (cs:=vs) (HT.out W2 HB5.out) HE.out HV.out H2.out;go_upto_region 7 with(fail)
  refine wp_region_list ?_;refine ag rfl (v:=ptB t) (w':=W2) (by rfl) ?_;refine ag rfl (v:=.string (aG c)) (w':=W2) (by rfl) ?_;refine ag rfl (v:=.pointer (some ⟨B,3,none⟩)) (w':=W2) (by go_simp) ?_;refine ag rfl (v:=.int .i16 a) (w':=W2) (by go_simp) ?_;refine ag rfl (v:=.int .i64 a) (w':=W2) (by go_simp) ?_;refine wpList_load_mid rfl _ _ rfl B7 0 rfl vs _ HP.out.ld Tryz.underlying39 rfl HSZ.out ?_;obtain⟨c0,c1,c2,c3,c4,c5,c6,c7,c8,c9,c10,c11,c12,c13,c14,c15,c16,c17,c18,c19,c20,rfl⟩:=ql HP.out.len;go_wp2_with (go_at_call 69;refine hset.mono ?_;rintro e w3 ⟨E',R',code,rfl,hP,hR,hD⟩;have HQ:=Lib.hid (And.intro (HPre.out _ _ _ HB5.out hP) (And.intro hR (HDo.out _ _ hD)));clear hP hD hR)
  go_ret;exact⟨E',_,code,rfl,HQ.out.1,HQ.out.2.1,HQ.out.2.2⟩
set_option maxHeartbeats 4000000 in
theorem q_d29d {w w1:World} {t m B:Nat} {E:List Ch} {k c p a x u:Int} (C:DoC w w1 t m B E k c p a x u) (hE:TOk (trE E)) (hk:0≤k) (hc:0≤c∧c<256) (hp:0≤p∧p<256) (ha: -32768≤a∧a<32768) (hx: -128≤x∧x<128) (hu:0≤u∧u<256) (h5:k % 5=4):
  Calls Tryz.prog 54 #[ptB t,.agg #[.int .u8 k,.int .u8 c,.int .u8 p,.int .i16 a,.int .i8 x,.int .u8 u]] w fun e w'=>qo w t m E ⟨3,aG c,aG p,a,bT x u⟩ e w':=by
 have hk5:k.tmod 5=k % 5:=Int.tmod_eq_emod_of_nonneg hk;have hwa:IntKind.i64.wrap a=a:=by rw[IntKind.wrap_i64];omega
 have HBD:=Lib.hid (show Below w1.heap.size w1 w1.drew from(Below.refl _ _).drew);have HPre:=Lib.hid C.pre;have HCell2:=Lib.hid C.cel2;have HT:=Lib.hid (show∀wq,Below w1.heap.size w1 wq→TM wq t m E from fun wq k=>C.tm.below k);have HE:=Lib.hid hE;have hw1:=C.eq;have hB:=C.hB;have f1:=C.f1;have f2:=C.f2;have HF:=Lib.hid (And.intro C.f0 (And.intro C.f3 (And.intro C.f4 C.f5)));have h2:=gP hx hu;have H2:=Lib.hid h2;have hpo:=fun wq=>tC (w:=wq) x u hx hu
 rw[h5]at hk5;have HDo:=Lib.hid (show∀R' code,FixS (decide (bT x u).good) (bT x u) (trE E) (aG c) R' code→DoS (trE E) ⟨3,aG c,aG p,a,bT x u⟩ R' code from fun R' code hd=>by unfold DoS;exact hd);clear C hE h2 hk h5;go_enter Tryz.func54,Tryz.ntmps54
 go_wp2
 go_region_held3 (fun w'=>w'.cell? ⟨B,1,none⟩=some (.int .u8 c)∧w'.cell? ⟨B,2,none⟩=some (.int .u8 p)) (first | assumption | exact⟨f1,f2⟩ | go_keep)
  (first
   | (go_at_call 39;with_reducible refine(iz c hc).mono ?_;rintro e w' ⟨rfl,hw'⟩;obtain rfl:=hw'.symm)
   | (go_at_call 39;with_reducible refine(iz p hp).mono ?_;rintro e w' ⟨rfl,hw'⟩;obtain rfl:=hw'.symm))
 all_goals clear f1 f2
 all_goals go_upto_region 2 with(fail)
 all_goals
  have f4:=HCell2.out w1.drew HBD.out 4 _ HF.out.2.2.1;have f5:=HCell2.out w1.drew HBD.out 5 _ HF.out.2.2.2;refine wp_region_list ?_;refine ag rfl (v:=.pointer (some ⟨B,4,none⟩)) (w':=w1.drew) (by go_simp) ?_;refine ag rfl (v:=.int .i8 x) (w':=w1.drew) (by go_simp) ?_;refine ag rfl (v:=.pointer (some ⟨B,5,none⟩)) (w':=w1.drew) (by go_simp) ?_;refine ag rfl (v:=.int .u8 u) (w':=w1.drew) (by go_simp) ?_;refine wpList_plain rfl (fun K hK=> ?_);go_simp;go_at_call 86
  refine(hpo _).mono ?_;rintro e w4 ⟨v,rfl,hv,hb⟩;obtain⟨vs,rfl,hul,hu1,hun⟩:=di hv;refine hK _ _ ?_;clear hK K hpo f4 f5;have hpn:=PB.new w4;have hvn:bu (w4.alloc (.cells az.toArray 39)) (.agg vs.toArray) (bT x u):=IsL.mono hv hpn.bel;have hth:=hpn.there;rw[←hul]at hth;have hb5:=aI vs 0 _ (hb.trans (hpn.bel.mono hb.size)) hb.size (b:=w4.heap.size);have HP:=Lib.hid (hpn.put (us:=vs) hul hun);have HV:=Lib.hid (hpn.keep (us:=vs) hvn);have HB5:=Lib.hid (HBD.out.trans (hb5.mono HBD.out.size));refine ag rfl (v:=.pointer (some ⟨w4.heap.size,0,none⟩)) (w':=w4.alloc (.cells az.toArray 39)) (by go_simp;try rfl) ?_;refine wpList_store_mid rfl _ _ _ rfl w4.heap.size 0 vs.toArray rfl rfl (by simpa using hth) (aZ hul) hu1 ?_;rw[show vs.toArray.toList=vs from rfl];generalize hW5:(w4.alloc (.cells az.toArray 39)).setCells w4.heap.size 0 vs=W2 at *;obtain⟨B7,hB7⟩:∃B,w4.heap.size=B:=⟨_,rfl⟩;rw[hB7]at HP⊢;clear hW5 hB7 hpn hvn hth hb5 hv hb hu1 hun hul;have f0:=HCell2.out W2 HB5.out 0 _ HF.out.1;have f3:=HCell2.out W2 HB5.out 3 _ HF.out.2.1;have HSZ:=Lib.hid (show(Tryz.prog.info? 39).map (·.size)=some vs.length by rw[HP.out.len];kernel_rfl);have hfix:=q_FixP (c:=aG c) (p:=bT x u) (cs:=vs) (HT.out W2 HB5.out) HE.out HV.out H2.out;go_upto_region 9 with(fail)
  refine wp_region_list ?_;refine ag rfl (v:=ptB t) (w':=W2) (by rfl) ?_;refine ag rfl (v:=.string (aG c)) (w':=W2) (by rfl) ?_;refine wpList_load_mid rfl _ _ rfl B7 0 rfl vs _ HP.out.ld Tryz.underlying39 rfl HSZ.out ?_;obtain⟨c0,c1,c2,c3,c4,c5,c6,c7,c8,c9,c10,c11,c12,c13,c14,c15,c16,c17,c18,c19,c20,rfl⟩:=ql HP.out.len;go_wp2_with (go_at_call 70;refine hfix.mono ?_;rintro e w3 ⟨E',R',code,rfl,hP,hR,hD⟩;have HQ:=Lib.hid (And.intro (HPre.out _ _ _ HB5.out hP) (And.intro hR (HDo.out _ _ hD)));clear hP hD hR)
  go_ret;exact⟨E',_,code,rfl,HQ.out.1,HQ.out.2.1,HQ.out.2.2⟩
set_option maxHeartbeats 4000000 in
theorem q_d29a {w w1:World} {t m B:Nat} {E:List Ch} {k c p a x u:Int} (C:DoC w w1 t m B E k c p a x u) (hE:TOk (trE E)) (hk:0≤k) (hc:0≤c∧c<256) (hp:0≤p∧p<256) (ha: -32768≤a∧a<32768) (hx: -128≤x∧x<128) (hu:0≤u∧u<256) (k2:k % 5≠2) (k3:k % 5≠3) (k4:k % 5≠4):
  Calls Tryz.prog 54 #[ptB t,.agg #[.int .u8 k,.int .u8 c,.int .u8 p,.int .i16 a,.int .i8 x,.int .u8 u]] w fun e w'=>qo w t m E ⟨0,aG c,aG p,a,bT x u⟩ e w':=by
 have hk5:k.tmod 5=k % 5:=Int.tmod_eq_emod_of_nonneg hk;have hwa:IntKind.i64.wrap a=a:=by rw[IntKind.wrap_i64];omega
 have HBD:=Lib.hid (show Below w1.heap.size w1 w1.drew from(Below.refl _ _).drew);have HPre:=Lib.hid C.pre;have HCell2:=Lib.hid C.cel2;have HT:=Lib.hid (show∀wq,Below w1.heap.size w1 wq→TM wq t m E from fun wq k=>C.tm.below k);have HE:=Lib.hid hE;have hw1:=C.eq;have hB:=C.hB;have f1:=C.f1;have f2:=C.f2;have HF:=Lib.hid (And.intro C.f0 (And.intro C.f3 (And.intro C.f4 C.f5)));have h2:=gP hx hu;have H2:=Lib.hid h2;have hpo:=fun wq=>tC (w:=wq) x u hx hu
 obtain⟨r,hr⟩:∃r,k % 5=r:=⟨_,rfl⟩;rw[hr]at hk5 k2 k3 k4;have g2:(r==2)=false:=beq_eq_false_iff_ne.2 k2;have g3:(r==3)=false:=beq_eq_false_iff_ne.2 k3;have g4:(r==4)=false:=beq_eq_false_iff_ne.2 k4;have HDo:=Lib.hid (show∀R' code,AttS dx (trE E) (aG c) (aG p) a R' code→DoS (trE E) ⟨0,aG c,aG p,a,bT x u⟩ R' code from fun R' code hd=>by unfold DoS;exact hd);have HNA:=Lib.hid (And.intro (rN c hc.1) (rN p hp.1));clear C hE h2 hk k2 k3 k4 hr;go_enter Tryz.func54,Tryz.ntmps54
 go_wp2
 go_region_held3 (fun w'=>w'.cell? ⟨B,1,none⟩=some (.int .u8 c)∧w'.cell? ⟨B,2,none⟩=some (.int .u8 p)) (first | assumption | exact⟨f1,f2⟩ | go_keep)
  (first
   | (go_at_call 39;with_reducible refine(iz c hc).mono ?_;rintro e w' ⟨rfl,hw'⟩;obtain rfl:=hw'.symm)
   | (go_at_call 39;with_reducible refine(iz p hp).mono ?_;rintro e w' ⟨rfl,hw'⟩;obtain rfl:=hw'.symm))
 all_goals clear f1 f2
 all_goals go_upto_region 2 with(fail)
 all_goals
  have f4:=HCell2.out w1.drew HBD.out 4 _ HF.out.2.2.1;have f5:=HCell2.out w1.drew HBD.out 5 _ HF.out.2.2.2;refine wp_region_list ?_;refine ag rfl (v:=.pointer (some ⟨B,4,none⟩)) (w':=w1.drew) (by go_simp) ?_;refine ag rfl (v:=.int .i8 x) (w':=w1.drew) (by go_simp) ?_;refine ag rfl (v:=.pointer (some ⟨B,5,none⟩)) (w':=w1.drew) (by go_simp) ?_;refine ag rfl (v:=.int .u8 u) (w':=w1.drew) (by go_simp) ?_;refine wpList_plain rfl (fun K hK=> ?_);go_simp;go_at_call 86
  refine(hpo _).mono ?_;rintro e w4 ⟨v,rfl,hv,hb⟩;obtain⟨vs,rfl,hul,hu1,hun⟩:=di hv;refine hK _ _ ?_;clear hK K hpo f4 f5;have hpn:=PB.new w4;have hvn:bu (w4.alloc (.cells az.toArray 39)) (.agg vs.toArray) (bT x u):=IsL.mono hv hpn.bel;have hth:=hpn.there;rw[←hul]at hth;have hb5:=aI vs 0 _ (hb.trans (hpn.bel.mono hb.size)) hb.size (b:=w4.heap.size);have HP:=Lib.hid (hpn.put (us:=vs) hul hun);have HV:=Lib.hid (hpn.keep (us:=vs) hvn);have HB5:=Lib.hid (HBD.out.trans (hb5.mono HBD.out.size));refine ag rfl (v:=.pointer (some ⟨w4.heap.size,0,none⟩)) (w':=w4.alloc (.cells az.toArray 39)) (by go_simp;try rfl) ?_;refine wpList_store_mid rfl _ _ _ rfl w4.heap.size 0 vs.toArray rfl rfl (by simpa using hth) (aZ hul) hu1 ?_;rw[show vs.toArray.toList=vs from rfl];generalize hW5:(w4.alloc (.cells az.toArray 39)).setCells w4.heap.size 0 vs=W2 at *;obtain⟨B7,hB7⟩:∃B,w4.heap.size=B:=⟨_,rfl⟩;rw[hB7]at HP⊢;clear hW5 hB7 hpn hvn hth hb5 hv hb hu1 hun hul;have f0:=HCell2.out W2 HB5.out 0 _ HF.out.1;have f3:=HCell2.out W2 HB5.out 3 _ HF.out.2.1;have HSZ:=Lib.hid (show(Tryz.prog.info? 39).map (·.size)=some vs.length by rw[HP.out.len];kernel_rfl);have hatt:=qj (c:=aG c) (p:=aG p) (f:=a) (HT.out W2 HB5.out) HE.out HNA.out.1 HNA.out.2;go_wp2_with (go_at_call 67;refine hatt.mono ?_;rintro e w3 ⟨E',R',code,rfl,hP,hR,hD⟩;have HQ:=Lib.hid (And.intro (HPre.out _ _ _ HB5.out hP) (And.intro hR (HDo.out _ _ hD)));clear hP hD hR)
  go_ret;exact⟨E',_,code,rfl,HQ.out.1,HQ.out.2.1,HQ.out.2.2⟩
theorem q_do29 {w:World} {t m:Nat} {E:List Ch} {s:Stp} (h:TM w t m E) (hE:TOk (trE E)) (hs:s.Ok):Calls Tryz.prog 54 #[ptB t,s.val] w fun e w'=>qo w t m E (axOf s) e w':=by
 obtain⟨w1,B,C⟩:=do_c h s.k s.c s.p s.a s.x s.u;unfold axOf;by_cases k2:s.k % 5=2
 ·rw[if_pos k2];exact q_d29b C hE hs.k.1 hs.c hs.p hs.a hs.x hs.u k2
 ·rw[if_neg k2];by_cases k3:s.k % 5=3
  ·rw[if_pos k3];exact q_d29c C hE hs.k.1 hs.c hs.p hs.a hs.x hs.u k3
  ·rw[if_neg k3];by_cases k4:s.k % 5=4
   ·rw[if_pos k4];exact q_d29d C hE hs.k.1 hs.c hs.p hs.a hs.x hs.u k4
   ·rw[if_neg k4];exact q_d29a C hE hs.k.1 hs.c hs.p hs.a hs.x hs.u k2 k3 k4
end
def headR:Code→Option Nat
 | .seq c _=>headR c
 | .region i _ _=>some i
 | _=>none
def restC (n:Nat):Code→Option Code
 | .seq c d=>if headR (.seq c d)=some n then some (.seq c d)else match restC n c with
  | some c'=>some c'
  | none=>restC n d
 | .region i o b=>if i=n then some (.region i o b)else none
 | _=>none
def nV (n:Nat) (p:Program) (f:FuncId):Option Code:=(p.funcs[f]?).bind fun fn=>fn.body.bind (restC n)
theorem vT {ρ:Rho} {e:Int}:∀B w,(Leaf.i .i64 e).holds ρ B w (.int .i64 e):=fun _ _=>rfl
noncomputable def cRest8:Code:=(nV 8 Tryz.prog 10).getD .skip
theorem cQ:nV 8 Tryz.prog 10=some cRest8:=by kernel_rfl
def xconAX (P1 P2:Pq):List Fq:=(P1.cs++(P2.cs++((P2.mul P1).cs++(P1.inv.cs++(Pq.id.cs)))))
theorem tl_conA {we w:World} {B:Nat} {ts:List Value} {Q:Exit→Act→World→Prop} {t m:Nat} {E:List Ch} (s:Qry) (P1 P2:Pq) (hs:s.Ok) (hE:Sane (trE E)) (hab:aH (trE E) s.t (aG s.b) (aG s.a)=(P1,0)) (hbc:aH (trE E) s.t (aG s.c) (aG s.b)=(P2,0)) (hac:aH (trE E) s.t (aG s.c) (aG s.a)=(P2.mul P1,0)) (hba:aH (trE E) s.t (aG s.a) (aG s.b)=(P1.inv,0)) (haa:aH (trE E) s.t (aG s.a) (aG s.a)=(Pq.id,0)) (oP1:P1.ok 6000) (gP1:P1.good) (oP2:P2.ok 6000) (gP2:P2.good) (o3:(P2.mul P1).ok 6000) (g3:(P2.mul P1).good) (o4:P1.inv.ok 6000) (g4:P1.inv.good) (oid:Pq.id.ok 6000) (gid:Pq.id.good)
  (hT:TM w t m E) (hbB:B∉fpT t m E) (hb:Below we.heap.size we w) (hg:we.heap.size≤B) (hq:w.heap[B]? =some (.cells s.cs.toArray 94 (0,0))) (h3:ts[3]? =some (.pointer (some ⟨B,0,none⟩))) (h5:ts[5]? =some (ptB t)) (hn:ts.length=132)
  (hQ:∀a' w',a'.tmps.getD 4 undef= .bool true→a'.defers=[]→Below we.heap.size we w'→Q .ret a' w'):∀c,nV 8 Tryz.prog 10=some c→c.wp Tryz.prog Q ⟨ts.toArray,[]⟩ w:=by
 intro c hc;have hr:=cQ;rw[hc]at hr;injection hr with hr;subst hr;obtain⟨t0,t1,t2,t3,t4,t5,tl,rfl⟩:∃t0 t1 t2 t3 t4 t5 tl,ts=t0::t1::t2::t3::t4::t5::tl:=by
  match ts,hn with
  | t0::t1::t2::t3::t4::t5::tl,_=>exact⟨_,_,_,_,_,_,_,rfl⟩
 injection h3 with h3;injection h5 with h5;subst h3;subst h5;refine nU (x:=4) (n:=400) (by decide) (ρ:=frs (xconAX P1 P2)++([.tree t m E,.val (.int .u8 s.a),.val (.int .u8 s.b),.val (.int .u8 s.c),.val (.int .i64 s.t),.val (.int .i64 s.o),.val (.string (aG s.a)),.val (.string (aG s.b)),.val (.string (aG s.c))]:List Vp))
  (ae (iG (m:=111) (aw (n:=106) rfl) rfl hs.a) (ae (iG (m:=112) (aw (n:=107) rfl) rfl hs.b) (ae (iG (m:=113) (aw (n:=108) rfl) rfl hs.c) (ae (dV (n:=105) (kr:=[0,1,2,3,4,5,6]) rfl hE (dY (n:=112) rfl) (dY (n:=111) rfl) (aw (n:=109) rfl) hab ⟨rfl,rfl,rfl,rfl,rfl,rfl,rfl,trivial⟩ vT) (ae (dV (n:=105) (kr:=[7,8,9,10,11,12,13]) rfl hE (dY (n:=113) rfl) (dY (n:=112) rfl) (aw (n:=109) rfl) hbc ⟨rfl,rfl,rfl,rfl,rfl,rfl,rfl,trivial⟩ vT) (ae (dV (n:=105) (kr:=[14,15,16,17,18,19,20]) rfl hE (dY (n:=113) rfl) (dY (n:=111) rfl) (aw (n:=109) rfl) hac ⟨rfl,rfl,rfl,rfl,rfl,rfl,rfl,trivial⟩ vT) (ae (dV (n:=105) (kr:=[21,22,23,24,25,26,27]) rfl hE (dY (n:=111) rfl) (dY (n:=112) rfl) (aw (n:=109) rfl) hba ⟨rfl,rfl,rfl,rfl,rfl,rfl,rfl,trivial⟩ vT) (ae (dV (n:=105) (kr:=[28,29,30,31,32,33,34]) rfl hE (dY (n:=111) rfl) (dY (n:=111) rfl) (aw (n:=109) rfl) haa ⟨rfl,rfl,rfl,rfl,rfl,rfl,rfl,trivial⟩ vT) (ae (yM (ka:=[0,1,2,3,4,5,6]) (kr:=[21,22,23,24,25,26,27]) ⟨rfl,rfl,rfl,rfl,rfl,rfl,rfl,trivial⟩ ⟨rfl,rfl,rfl,rfl,rfl,rfl,rfl,trivial⟩ (oP1.mono (by decide)) gP1) (ae (eh (ka:=[21,22,23,24,25,26,27]) (kb:=[21,22,23,24,25,26,27]) ⟨rfl,rfl,rfl,rfl,rfl,rfl,rfl,trivial⟩ ⟨rfl,rfl,rfl,rfl,rfl,rfl,rfl,trivial⟩ (o4.mono (by decide)) (o4.mono (by decide)) rfl g4 g4) (ae (I_poId (kr:=[28,29,30,31,32,33,34]) ⟨rfl,rfl,rfl,rfl,rfl,rfl,rfl,trivial⟩) (ae (eh (ka:=[28,29,30,31,32,33,34]) (kb:=[28,29,30,31,32,33,34]) ⟨rfl,rfl,rfl,rfl,rfl,rfl,rfl,trivial⟩ ⟨rfl,rfl,rfl,rfl,rfl,rfl,rfl,trivial⟩ (oid.mono (by decide)) (oid.mono (by decide)) rfl gid gid) (ae (I_poMul (ka:=[7,8,9,10,11,12,13]) (kb:=[0,1,2,3,4,5,6]) (kr:=[14,15,16,17,18,19,20]) ⟨rfl,rfl,rfl,rfl,rfl,rfl,rfl,trivial⟩ ⟨rfl,rfl,rfl,rfl,rfl,rfl,rfl,trivial⟩ ⟨rfl,rfl,rfl,rfl,rfl,rfl,rfl,trivial⟩ (oP2.mono (by decide)) (oP1.mono (by decide)) gP2 gP1) (ae (eh (ka:=[14,15,16,17,18,19,20]) (kb:=[14,15,16,17,18,19,20]) ⟨rfl,rfl,rfl,rfl,rfl,rfl,rfl,trivial⟩ ⟨rfl,rfl,rfl,rfl,rfl,rfl,rfl,trivial⟩ (o3.mono (by decide)) (o3.mono (by decide)) rfl g3 g3) (ae (nT) ai)))))))))))))))
  (aj) (by kernel_rfl) ?_
  (tL (nt:=132) (T:=94) (b0:=B) (l0:=[.ref 106,.ref 107,.ref 108,.ref 109,.ref 110]) (known:=[none,none,none,some (.v (.one (.ptr 0 0))),none,some (.v (.one (.ref 105)))]) hb hg hq (fun u hu n e=>by simp[Qry.cs]at hu;rcases hu with rfl | rfl | rfl | rfl | rfl<;>cases e)
   ⟨aC (n:=106) rfl (bo (by decide)),aC (n:=107) rfl (bo (by decide)),aC (n:=108) rfl (bo (by decide)),aC (n:=109) rfl (bo (by decide)),aC (n:=110) rfl (bo (by decide)),trivial⟩ ⟨⟨B,rfl,rfl⟩,⟨_,rfl,⟨rfl,hT⟩,fun g hg hx=>hbB (qA hx▸hg)⟩,trivial⟩ (by simpa using hn))
  (fun a' w' h1 h2 h3=>hQ a' w' h1 h2 h3.to)
 ·kernel_rfl
def xconBX (P1 P2 P3:Pq):List Fq:=(P1.cs++(P2.cs++(P3.cs++(P1.inv.cs++(Pq.id.cs)))))
theorem tl_conB {we w:World} {B:Nat} {ts:List Value} {Q:Exit→Act→World→Prop} {t m:Nat} {E:List Ch} (s:Qry) (P1 P2 P3:Pq) (f g:Int) (hs:s.Ok) (hE:Sane (trE E)) (hab:aH (trE E) s.t (aG s.b) (aG s.a)=(P1,0)) (hbc:aH (trE E) s.t (aG s.c) (aG s.b)=(P2,f)) (hac:aH (trE E) s.t (aG s.c) (aG s.a)=(P3,g)) (hba:aH (trE E) s.t (aG s.a) (aG s.b)=(P1.inv,0)) (haa:aH (trE E) s.t (aG s.a) (aG s.a)=(Pq.id,0)) (oP1:P1.ok 6000) (gP1:P1.good) (o4:P1.inv.ok 6000) (g4:P1.inv.good) (oid:Pq.id.ok 6000) (gid:Pq.id.good) (hf:f≠0)
  (hT:TM w t m E) (hbB:B∉fpT t m E) (hb:Below we.heap.size we w) (hg:we.heap.size≤B) (hq:w.heap[B]? =some (.cells s.cs.toArray 94 (0,0))) (h3:ts[3]? =some (.pointer (some ⟨B,0,none⟩))) (h5:ts[5]? =some (ptB t)) (hn:ts.length=132)
  (hQ:∀a' w',a'.tmps.getD 4 undef= .bool true→a'.defers=[]→Below we.heap.size we w'→Q .ret a' w'):∀c,nV 8 Tryz.prog 10=some c→c.wp Tryz.prog Q ⟨ts.toArray,[]⟩ w:=by
 intro c hc;have hr:=cQ;rw[hc]at hr;injection hr with hr;subst hr;obtain⟨t0,t1,t2,t3,t4,t5,tl,rfl⟩:∃t0 t1 t2 t3 t4 t5 tl,ts=t0::t1::t2::t3::t4::t5::tl:=by
  match ts,hn with
  | t0::t1::t2::t3::t4::t5::tl,_=>exact⟨_,_,_,_,_,_,_,rfl⟩
 injection h3 with h3;injection h5 with h5;subst h3;subst h5;refine nU (x:=4) (n:=400) (by decide) (ρ:=frs (xconBX P1 P2 P3)++([.tree t m E,.val (.int .u8 s.a),.val (.int .u8 s.b),.val (.int .u8 s.c),.val (.int .i64 s.t),.val (.int .i64 s.o),.val (.string (aG s.a)),.val (.string (aG s.b)),.val (.string (aG s.c)),.val (.int .i64 f),.val (.int .i64 g)]:List Vp))
  (ae (iG (m:=111) (aw (n:=106) rfl) rfl hs.a) (ae (iG (m:=112) (aw (n:=107) rfl) rfl hs.b) (ae (iG (m:=113) (aw (n:=108) rfl) rfl hs.c) (ae (dV (n:=105) (kr:=[0,1,2,3,4,5,6]) rfl hE (dY (n:=112) rfl) (dY (n:=111) rfl) (aw (n:=109) rfl) hab ⟨rfl,rfl,rfl,rfl,rfl,rfl,rfl,trivial⟩ vT) (ae (dV (n:=105) (kr:=[7,8,9,10,11,12,13]) rfl hE (dY (n:=113) rfl) (dY (n:=112) rfl) (aw (n:=109) rfl) hbc ⟨rfl,rfl,rfl,rfl,rfl,rfl,rfl,trivial⟩ (kc_r (n:=114) rfl)) (ae (dV (n:=105) (kr:=[14,15,16,17,18,19,20]) rfl hE (dY (n:=113) rfl) (dY (n:=111) rfl) (aw (n:=109) rfl) hac ⟨rfl,rfl,rfl,rfl,rfl,rfl,rfl,trivial⟩ (kc_r (n:=115) rfl)) (ae (dV (n:=105) (kr:=[21,22,23,24,25,26,27]) rfl hE (dY (n:=111) rfl) (dY (n:=112) rfl) (aw (n:=109) rfl) hba ⟨rfl,rfl,rfl,rfl,rfl,rfl,rfl,trivial⟩ vT) (ae (dV (n:=105) (kr:=[28,29,30,31,32,33,34]) rfl hE (dY (n:=111) rfl) (dY (n:=111) rfl) (aw (n:=109) rfl) haa ⟨rfl,rfl,rfl,rfl,rfl,rfl,rfl,trivial⟩ vT) (ae (yM (ka:=[0,1,2,3,4,5,6]) (kr:=[21,22,23,24,25,26,27]) ⟨rfl,rfl,rfl,rfl,rfl,rfl,rfl,trivial⟩ ⟨rfl,rfl,rfl,rfl,rfl,rfl,rfl,trivial⟩ (oP1.mono (by decide)) gP1) (ae (eh (ka:=[21,22,23,24,25,26,27]) (kb:=[21,22,23,24,25,26,27]) ⟨rfl,rfl,rfl,rfl,rfl,rfl,rfl,trivial⟩ ⟨rfl,rfl,rfl,rfl,rfl,rfl,rfl,trivial⟩ (o4.mono (by decide)) (o4.mono (by decide)) rfl g4 g4) (ae (I_poId (kr:=[28,29,30,31,32,33,34]) ⟨rfl,rfl,rfl,rfl,rfl,rfl,rfl,trivial⟩) (ae (eh (ka:=[28,29,30,31,32,33,34]) (kb:=[28,29,30,31,32,33,34]) ⟨rfl,rfl,rfl,rfl,rfl,rfl,rfl,trivial⟩ ⟨rfl,rfl,rfl,rfl,rfl,rfl,rfl,trivial⟩ (oid.mono (by decide)) (oid.mono (by decide)) rfl gid gid) (ae (nT) ai)))))))))))))
  (af (aD (t:=40) (aw (n:=114) rfl) (aS (c:=0)) (uS (by omega))) (aj)) (by kernel_rfl) ?_
  (tL (nt:=132) (T:=94) (b0:=B) (l0:=[.ref 106,.ref 107,.ref 108,.ref 109,.ref 110]) (known:=[none,none,none,some (.v (.one (.ptr 0 0))),none,some (.v (.one (.ref 105)))]) hb hg hq (fun u hu n e=>by simp[Qry.cs]at hu;rcases hu with rfl | rfl | rfl | rfl | rfl<;>cases e)
   ⟨aC (n:=106) rfl (bo (by decide)),aC (n:=107) rfl (bo (by decide)),aC (n:=108) rfl (bo (by decide)),aC (n:=109) rfl (bo (by decide)),aC (n:=110) rfl (bo (by decide)),trivial⟩ ⟨⟨B,rfl,rfl⟩,⟨_,rfl,⟨rfl,hT⟩,fun g hg hx=>hbB (qA hx▸hg)⟩,trivial⟩ (by simpa using hn))
  (fun a' w' h1 h2 h3=>hQ a' w' h1 h2 h3.to)
 ·kernel_rfl
def xconCX (P1 P2 P3 P4:Pq):List Fq:=(P1.cs++(P2.cs++(P3.cs++(P4.cs))))
theorem tl_conC {we w:World} {B:Nat} {ts:List Value} {Q:Exit→Act→World→Prop} {t m:Nat} {E:List Ch} (s:Qry) (P1 P2 P3 P4:Pq) (e f g h:Int) (hs:s.Ok) (hE:Sane (trE E)) (hab:aH (trE E) s.t (aG s.b) (aG s.a)=(P1,e)) (hbc:aH (trE E) s.t (aG s.c) (aG s.b)=(P2,f)) (hac:aH (trE E) s.t (aG s.c) (aG s.a)=(P3,g)) (hba:aH (trE E) s.t (aG s.a) (aG s.b)=(P4,h)) (he:e≠0) (hh:h≠0)
  (hT:TM w t m E) (hbB:B∉fpT t m E) (hb:Below we.heap.size we w) (hg:we.heap.size≤B) (hq:w.heap[B]? =some (.cells s.cs.toArray 94 (0,0))) (h3:ts[3]? =some (.pointer (some ⟨B,0,none⟩))) (h5:ts[5]? =some (ptB t)) (hn:ts.length=132)
  (hQ:∀a' w',a'.tmps.getD 4 undef= .bool true→a'.defers=[]→Below we.heap.size we w'→Q .ret a' w'):∀c,nV 8 Tryz.prog 10=some c→c.wp Tryz.prog Q ⟨ts.toArray,[]⟩ w:=by
 intro c hc;have hr:=cQ;rw[hc]at hr;injection hr with hr;subst hr;obtain⟨t0,t1,t2,t3,t4,t5,tl,rfl⟩:∃t0 t1 t2 t3 t4 t5 tl,ts=t0::t1::t2::t3::t4::t5::tl:=by
  match ts,hn with
  | t0::t1::t2::t3::t4::t5::tl,_=>exact⟨_,_,_,_,_,_,_,rfl⟩
 injection h3 with h3;injection h5 with h5;subst h3;subst h5;refine nU (x:=4) (n:=400) (by decide) (ρ:=frs (xconCX P1 P2 P3 P4)++([.tree t m E,.val (.int .u8 s.a),.val (.int .u8 s.b),.val (.int .u8 s.c),.val (.int .i64 s.t),.val (.int .i64 s.o),.val (.string (aG s.a)),.val (.string (aG s.b)),.val (.string (aG s.c)),.val (.int .i64 e),.val (.int .i64 f),.val (.int .i64 g),.val (.int .i64 h)]:List Vp))
  (ae (iG (m:=90) (aw (n:=85) rfl) rfl hs.a) (ae (iG (m:=91) (aw (n:=86) rfl) rfl hs.b) (ae (iG (m:=92) (aw (n:=87) rfl) rfl hs.c) (ae (dV (n:=84) (kr:=[0,1,2,3,4,5,6]) rfl hE (dY (n:=91) rfl) (dY (n:=90) rfl) (aw (n:=88) rfl) hab ⟨rfl,rfl,rfl,rfl,rfl,rfl,rfl,trivial⟩ (kc_r (n:=93) rfl)) (ae (dV (n:=84) (kr:=[7,8,9,10,11,12,13]) rfl hE (dY (n:=92) rfl) (dY (n:=91) rfl) (aw (n:=88) rfl) hbc ⟨rfl,rfl,rfl,rfl,rfl,rfl,rfl,trivial⟩ (kc_r (n:=94) rfl)) (ae (dV (n:=84) (kr:=[14,15,16,17,18,19,20]) rfl hE (dY (n:=92) rfl) (dY (n:=90) rfl) (aw (n:=88) rfl) hac ⟨rfl,rfl,rfl,rfl,rfl,rfl,rfl,trivial⟩ (kc_r (n:=95) rfl)) (ae (dV (n:=84) (kr:=[21,22,23,24,25,26,27]) rfl hE (dY (n:=90) rfl) (dY (n:=91) rfl) (aw (n:=88) rfl) hba ⟨rfl,rfl,rfl,rfl,rfl,rfl,rfl,trivial⟩ (kc_r (n:=96) rfl)) (ae (nT) ai))))))))
  (af (aD (t:=40) (aw (n:=93) rfl) (aS (c:=0)) (bG (by omega))) (af (aD (t:=40) (aw (n:=96) rfl) (aS (c:=0)) (bG (by omega))) (af (aD (t:=40) (aw (n:=93) rfl) (aS (c:=0)) (uS (by omega))) (aj)))) (by kernel_rfl) ?_
  (tL (nt:=132) (T:=94) (b0:=B) (l0:=[.ref 85,.ref 86,.ref 87,.ref 88,.ref 89]) (known:=[none,none,none,some (.v (.one (.ptr 0 0))),none,some (.v (.one (.ref 84)))]) hb hg hq (fun u hu n e=>by simp[Qry.cs]at hu;rcases hu with rfl | rfl | rfl | rfl | rfl<;>cases e)
   ⟨aC (n:=85) rfl (bo (by decide)),aC (n:=86) rfl (bo (by decide)),aC (n:=87) rfl (bo (by decide)),aC (n:=88) rfl (bo (by decide)),aC (n:=89) rfl (bo (by decide)),trivial⟩ ⟨⟨B,rfl,rfl⟩,⟨_,rfl,⟨rfl,hT⟩,fun g hg hx=>hbB (qA hx▸hg)⟩,trivial⟩ (by simpa using hn))
  (fun a' w' h1 h2 h3=>hQ a' w' h1 h2 h3.to)
 ·kernel_rfl
section
open Classical
theorem con_tail {we w:World} {B:Nat} {ts:List Value} {Q:Exit→Act→World→Prop} {t m:Nat} {E:List Ch} (s:Qry) (hs:s.Ok) (hE:Sane (trE E)) (hT:TM w t m E) (hbB:B∉fpT t m E) (hb:Below we.heap.size we w) (hg:we.heap.size≤B) (hq:w.heap[B]? =some (.cells s.cs.toArray 94 (0,0))) (h3:ts[3]? =some (.pointer (some ⟨B,0,none⟩))) (h5:ts[5]? =some (ptB t)) (hn:ts.length=132)
  (hQ:∀a' w',a'.tmps.getD 4 undef= .bool true→a'.defers=[]→Below we.heap.size we w'→Q .ret a' w'):∀c,nV 8 Tryz.prog 10=some c→c.wp Tryz.prog Q ⟨ts.toArray,[]⟩ w:=by
 obtain⟨P1,e,hab⟩:∃P e,aH (trE E) s.t (aG s.b) (aG s.a)=(P,e):=⟨_,_,rfl⟩;obtain⟨P2,f,hbc⟩:∃P e,aH (trE E) s.t (aG s.c) (aG s.b)=(P,e):=⟨_,_,rfl⟩;obtain⟨P3,g,hac⟩:∃P e,aH (trE E) s.t (aG s.c) (aG s.a)=(P,e):=⟨_,_,rfl⟩;obtain⟨P4,h,hba⟩:∃P e,aH (trE E) s.t (aG s.a) (aG s.b)=(P,e):=⟨_,_,rfl⟩;by_cases he:e=0
 ·subst he;have c1:(aH (trE E) s.t (aG s.b) (aG s.a)).2=0:=by rw[hab]
  obtain⟨k1,k2⟩:=rS hE c1;rw[hab]at k1;obtain⟨o1,g1⟩:=dU hE c1;have o4:=dU hE (show(aH (trE E) s.t (aG s.a) (aG s.b)).2=0 by rw[k1]);have oi:=dU hE (show(aH (trE E) s.t (aG s.a) (aG s.a)).2=0 by rw[k2]);rw[hab]at o1 g1;rw[k1]at o4;rw[k2]at oi;by_cases hf:f=0
  ·subst hf;have c2:(aH (trE E) s.t (aG s.c) (aG s.b)).2=0:=by rw[hbc]
   have k3:=find_comp hE c1 c2;have o3:=dU hE (show(aH (trE E) s.t (aG s.c) (aG s.a)).2=0 by rw[k3]);obtain⟨o2,g2⟩:=dU hE c2;rw[hbc]at o2 g2;rw[k3]at o3;rw[hab,hbc]at k3 o3;exact tl_conA s P1 P2 hs hE hab hbc k3 k1 k2 o1 g1 o2 g2 o3.1 o3.2 o4.1 o4.2 oi.1 oi.2 hT hbB hb hg hq h3 h5 hn hQ
  ·exact tl_conB s P1 P2 P3 f g hs hE hab hbc hac k1 k2 o1 g1 o4.1 o4.2 oi.1 oi.2 hf hT hbB hb hg hq h3 h5 hn hQ
 ·have hh:h≠0:=by
   rintro rfl;have:=(rS hE (show(aH (trE E) s.t (aG s.a) (aG s.b)).2=0 by rw[hba])).1;rw[hab]at this;injection this with _ this;exact he this
  exact tl_conC s P1 P2 P3 P4 e f g h hs hE hab hbc hac hba he hh hT hbB hb hg hq h3 h5 hn hQ
set_option maxHeartbeats 4000000 in
theorem tM {w:World} {v0:Value} (R0:List Stp) (q:Qry) (hs0:∀s∈R0,s.Ok) (hq:q.Ok) (k0:lJ w v0 R0):
  Calls Tryz.prog 10 #[v0,q.val] w fun e w'=>e= .returned (.bool true)∧Below w.heap.size w w':=by
 obtain⟨ad0,c0,rfl,hr0⟩:=k0.row;obtain⟨w1,hw1⟩:∃w1,w.alloc (.cells #[.int .u8 q.a,.int .u8 q.b,.int .u8 q.c,.int .i64 q.t,.int .i64 q.o] 94)=w1:=⟨_,rfl⟩;have hb1:Below w.heap.size w w1:=by rw[←hw1];exact(Below.refl _ _).alloc (Nat.le_refl _) _
 have hs1:w1.heap.size=w.heap.size+1:=by rw[←hw1];exact asz _ _
 have hnw:w1.heap[w.heap.size]? =some (.cells #[.int .u8 q.a,.int .u8 q.b,.int .u8 q.c,.int .i64 q.t,.int .i64 q.o] 94 (0,0)):=by rw[←hw1];exact heap_alloc_new w _
 have haw:=rR w1;have HR0:=Lib.hid hr0;have HO0:=Lib.hid hs0;have HQ:=Lib.hid hq;have HB1:=Lib.hid hb1;have HS1:=Lib.hid hs1;have HNW:=Lib.hid hnw;obtain⟨B,hB⟩:∃B,w.heap.size=B:=⟨_,rfl⟩;have HBE:=Lib.hid hB;obtain⟨n0,hn0⟩:∃n,n=R0.length:=⟨_,rfl⟩;rw[←hn0];have HN0:=Lib.hid hn0;clear hr0 hs0 k0 hn0 hq hb1 hs1 hnw;unfold Qry.val Qry.cs;by_cases b0:20<n0
 ·have c0':decide ((20:Int)<(n0:Int))=true:=decide_eq_true (by omega);go_enter Tryz.func10,Tryz.ntmps10
  go_wp2_with (go_at_call 53;refine haw.mono ?_;rintro e w2 ⟨rfl,hb⟩;have HB:=Lib.hid hb;clear hb)
  go_ret;exact⟨rfl,HB1.out.trans (HB.out.mono HB1.out.size)⟩
 have c0':decide ((20:Int)<(n0:Int))=false:=decide_eq_false (by omega);clear haw;have hnew:=q_New w1;have hm0:(n0:Int)≤20:=by omega
 go_enter Tryz.func10,Tryz.ntmps10
 go_wp2_with (go_at_call 31;refine hnew.mono ?_;rintro e w2 ⟨t,m,rfl,hT,h1,h2,h3⟩;have HI0:=Lib.hid (TInv.new hT h1 h2 h3);clear hnew hT h1 h2 h3)
 go_loopw [6] (fun s6 wr=>∃(k:Nat) (E:List Ch),k≤n0∧s6= .int .i64 (k:Int)∧Hid (TInv w1 wr t m E)) (fun s6 _=>n0 - (intOf s6).toNat)
 case atStart=>exact⟨0,_,Nat.zero_le _,rfl,HI0⟩
 case round=>
  clear HI0;obtain⟨k,E,hk,rfl,HI⟩:=hrel;rcases Nat.lt_or_ge k n0 with hlt | hge
  ·obtain⟨s,hs⟩:∃s,R0[k]? =some s:=⟨_,List.getElem?_eq_getElem (by rw[←HN0.out];exact hlt)⟩;obtain⟨b,o,rfl,hb,hrg⟩:=HR0.out k s hs;have hso:=HO0.out s (List.mem_of_getElem? hs);have hld:=Lib.hid (qM hrg (HB1.out.trans (HI.out.bel.mono HB1.out.size)) hb);have hdo:=q_do29 HI.out.tm HI.out.sane.ok hso;have HX:=Lib.hid (fun w' E' R' code (hP:TPost wr t m E w' E') (hR:REq (trE E') R') (hD:DoS (trE E) (axOf s) R' code)=>HI.out.next hP hR hD (axOf_q hso));clear hs hb hrg hso;go_upto_region 7 with(fail)
   refine wp_region_list ?_;refine ag rfl (v:=ptB t) (w':=wr) (by rfl) ?_;refine ag rfl (v:=.slice (some ⟨b,o,none⟩) n0 c0) (w':=wr) (by rfl) ?_;refine ag rfl (v:=.int .i64 (k:Int)) (w':=wr) (by rfl) ?_;refine ag rfl (v:=.pointer (some ⟨b,o+k*6,none⟩)) (w':=wr) (by go_simp) ?_;refine wpList_load_mid rfl _ _ rfl b (o+k*6) rfl s.cs _ hld.out Tryz.underlying67 rfl (by kernel_rfl) ?_;go_wp2_with (go_at_call 54;refine hdo.mono ?_;rintro e w2 ⟨E',R',code,rfl,hP,hR,hD⟩;have HI2:=Lib.hid (HX.out _ _ _ _ hP hR hD);clear hP hR hD)
   go_roundw
   case rel=>exact⟨k+1,E',by omega,by go_num,HI2⟩
   case measure=>simp[intOf];omega
  ·obtain rfl:k=n0:=by omega
   rename_i K2 hrest;have HREST:=Lib.hid hrest;clear hrest;go_wp2;refine HREST.out _ _ (con_tail (we:=w) (B:=B) q HQ.out HI.out.sane HI.out.tm (fun hm=> ?_) (HB1.out.trans (HI.out.bel.mono HB1.out.size)) (Nat.le_of_eq HBE.out) ?_ rfl rfl rfl (fun a' w' h1 h2 h3=> ?_) _ (by kernel_rfl))
   ·have:=HI.out.own _ hm;have:=HS1.out;have:=HBE.out;omega
   ·rw[HI.out.bel.block B (by rw[HS1.out,HBE.out];omega),←HBE.out];exact HNW.out
   ·refine bodyPost_ret (results_tmp rfl _ _ _) h2 ?_;exact⟨by rw[←h1],h3⟩
end
end Go.Proofs.YtggfmklppkioeaaGreat
