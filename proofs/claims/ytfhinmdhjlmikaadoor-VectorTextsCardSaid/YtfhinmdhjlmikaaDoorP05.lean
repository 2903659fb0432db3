/- The reference's Add. The reference's Sub. The reference's Mul. The reference's operations in regions that draw their order. The reference's Bits, Of, bit. More operations of regions that draw their order. Tables for a part of a region: what is left of the region comes behind; new variables. The reference's bit. The state of the reference's DivMod. The reference's DivMod. The reference's Gcd. The reference's Gcd and a negation as operations of a region that draws its order; a variable written behind a table. -/
import Derived.Test.YtfhinmdhjlmikaaDoorP04
namespace Go.Proofs.YtfhinmdhjlmikaaDoor
set_option linter.unusedSimpArgs false
set_option linter.unusedVariables false
set_option maxRecDepth 100000
open Go.RowKit
def kU (ga gb m n i S X:Nat):List (Nat×Tmp×Sp):=
  [(0,20,.nat (m)),
  (1,21,.val (Value.int IntKind.i64 ((i:Nat)))),
  (2,22,.val (Value.int IntKind.u64 (((D (m) (i):Nat):Int)))),
  (3,23,.nat (n)),
  (4,24,.val (Value.int IntKind.i64 ((i:Nat)))),
  (5,25,.val (Value.int IntKind.u64 (((D (n) (i):Nat):Int)))),
  (6,26,.val (Value.int IntKind.u64 (((S:Nat):Int)))),
  (7,27,.val (Value.int IntKind.u64 (((cy m n i:Nat):Int)))),
  (8,28,.val (Value.int IntKind.u64 (((X:Nat):Int)))),
  (9,8,.val (Value.int IntKind.u64 (((X:Nat):Int))))]
theorem xK (m n:Nat):∃M,m≤M∧n≤M∧(M=m∨M=n)∧((m<n∧M=n)∨(¬m<n∧M=m)):=by
 rcases Nat.lt_or_ge m n with h | h
 ·exact⟨n,by omega,by omega,.inr rfl,.inl ⟨h,rfl⟩⟩
 ·exact⟨m,by omega,by omega,.inl rfl,.inr ⟨by omega,rfl⟩⟩
set_option maxRecDepth 100000 in
set_option maxHeartbeats 1000000 in
theorem jB (va vb:Value) (m n:Nat) (w:World) (ha:IsN w va m) (hb:IsN w vb n) (hm:nl m≤1000000000000) (hn:nl n≤1000000000000):
  Calls Tryd.prog 86 #[va,vb] w fun e w'=>b9 w (m+n) e w':=by
 obtain⟨a,ca,rfl,hca,ra⟩:=ha
 obtain⟨b,cb,rfl,hcb,rb⟩:=hb
 obtain⟨k0,k1,k2⟩:=rW (L:=nl m) (c:=ca) (N:=m) (L2:=nl n) (c2:=cb) (N2:=n) ⟨a,ca,rfl,hca,ra⟩ ⟨b,cb,rfl,hcb,rb⟩
 have k3:=eF ((w.alloc (.cells #[.slice a (nl m) ca] 24)).alloc (.cells #[.slice b (nl n) cb] 24)) (.cells #[.slice none 0 0] 24)
 have k4:=aF.made ((w.alloc (.cells #[.slice a (nl m) ca] 24)).alloc (.cells #[.slice b (nl n) cb] 24)) none 0 0
 rw[World.size_alloc,World.size_alloc]at k4
 replace k0:=k0.trans (k3.mono k0.size)
 replace k1:=fm.mono k1 k3
 replace k2:=fm.mono k2 k3
 obtain⟨M,hM1,hM2,hM3,hMM⟩:=xK (nl m) (nl n)
 have hM:M≤1000000000000:=by rcases hM3 with h | h<;>omega
 clear hM3
 replace hMM:=Lib.hid hMM
 go_enter Tryd.func86,Tryd.ntmps86
 go_upto_region 1 with(fail)
 go_cut [5] (fun s5 wx=>s5= .slice none 0 0∧bA wx w.heap.size m∧bA wx (w.heap.size+1) n∧aF wx (w.heap.size+1+1) none 0 0∧Below w.heap.size w wx)
 case first=>
  go_wp2_with fail
  go_meet
  case rel=>exact⟨rfl,k1,k2,k4,k0⟩
 case rest=>
  obtain⟨rfl,Va,Vb,vr,hb1⟩:=hcut
  clear k0 k1 k2 k3 k4 ra rb
  go_wp2_with fail
  go_loopw [5,6,7] (fun s5 s6 s7 wr=>∃i:Nat,i≤M+1∧s7= .int .i64 (i:Int)∧s6= .int .u64 ((cy m n i:Nat):Int)∧GR wr wc.heap.size s5 i ((m+n) % 4294967296^i)∧Below wc.heap.size wc wr) (fun _ _ s7 _=>M+1 - (intOf s7).toNat)
  case atStart=>exact⟨0,Nat.zero_le _,rfl,by rw[kP];rfl,by rw[Nat.pow_zero,Nat.mod_one];exact GR.nil _ _,Below.refl _ _⟩
  case round=>
   obtain⟨i,hi,rfl,rfl,hgr,hbr⟩:=hrel
   have Va1:=Va.mono hbr
   have Vb1:=Vb.mono hbr
   obtain⟨ya,da,qa,ia⟩:=Va1
   have ea:=qa.cell
   obtain⟨yb,db,qb,ib⟩:=Vb1
   have eb:=qb.cell
   have hi60:i≤60000000000000:=by omega
   have hcy:=j7 m n i
   by_cases hlt:i≤M
   ·have hst:=iA m n i
    have hd:=bO (m+n) i
    obtain⟨S,hS⟩:∃S:Nat,Hid (S=D m i+D n i):=⟨_,Lib.hid rfl⟩
    obtain⟨X,hX⟩:∃X:Nat,Hid (X=S+cy m n i):=⟨_,Lib.hid rfl⟩
    have hSb:S<8589934592:=by have:=bO m i;have:=bO n i;have:=hS.out;omega
    have hXb:X<8589934593:=by have:=hX.out;omega
    have hrem:((X:Nat):Int) % 4294967296=((D (m+n) i:Nat):Int):=by have:=hX.out;have:=hS.out;omega
    have hquo:((X:Nat):Int) / 4294967296=((cy m n (i+1):Nat):Int):=by have:=hX.out;have:=hS.out;omega
    clear hst
    have hcy2:=j7 m n (i+1)
    have Va:bA wr w.heap.size m:=⟨ya,da,qa,ia⟩
    have Vb:bA wr (w.heap.size+1) n:=⟨yb,db,qb,ib⟩
    rcases hMM.out with⟨hmx,hme⟩ | ⟨hmx,hme⟩
    ·have hle:i≤nl n:=by omega
     have HME:=Lib.hid hme
     clear hme hlt
     go_upto_region 6 with(fail)
     refine eL Tryd.f86 6 (kU w.heap.size (w.heap.size+1) m n i S X) (by kernel_rfl) (by kernel_rfl) rfl (by kernel_rfl) (by kernel_rfl) ?_ ?_
     ·refine⟨fun a' w' F=>⟨_,rfl,af rfl,aZ rfl (F.keep 2 (Value.pointer (some ⟨w.heap.size,0,none⟩)) (by kernel_rfl) rfl).is (Va.mono F.below)⟩,?_⟩
      refine⟨fun a' w' F=>⟨_,rfl,af rfl,aQ (.inl rfl) (F.keep 7 (Value.int IntKind.i64 ((i:Nat))) (by kernel_rfl) rfl).is⟩,?_⟩
      refine⟨fun a' w' F=>⟨_,rfl,af rfl,bn rfl (F.f 0 rfl) (F.f 1 rfl) (hm) (hi60)⟩,?_⟩
      refine⟨fun a' w' F=>⟨_,rfl,af rfl,aZ rfl (F.keep 3 (Value.pointer (some ⟨w.heap.size+1,0,none⟩)) (by kernel_rfl) rfl).is (Vb.mono F.below)⟩,?_⟩
      refine⟨fun a' w' F=>⟨_,rfl,af rfl,aQ (.inl rfl) (F.keep 7 (Value.int IntKind.i64 ((i:Nat))) (by kernel_rfl) rfl).is⟩,?_⟩
      refine⟨fun a' w' F=>⟨_,rfl,af rfl,bn rfl (F.f 3 rfl) (F.f 4 rfl) (hn) (hi60)⟩,?_⟩
      refine⟨fun a' w' F=>⟨_,rfl,af rfl,cG rfl (F.f 2 rfl) (F.f 5 rfl) (fun _=>rfl) (gt _ _ _ hS.out.symm (by have:=hSb;omega))⟩,?_⟩
      refine⟨fun a' w' F=>⟨_,rfl,af rfl,aQ (.inl rfl) (F.keep 6 (Value.int IntKind.u64 (((cy m n i:Nat):Int))) (by kernel_rfl) rfl).is⟩,?_⟩
      refine⟨fun a' w' F=>⟨_,rfl,af rfl,cG rfl (F.f 6 rfl) (F.f 7 rfl) (fun _=>rfl) (gt _ _ _ hX.out.symm (by have:=hXb;omega))⟩,?_⟩
      refine⟨fun a' w' F=>⟨_,rfl,af rfl,aQ (.inr rfl) (F.f 8 rfl)⟩,?_⟩
      exact trivial
     intro gp wp bp G
     have ep9:gp 9=Value.int IntKind.u64 (((X:Nat):Int)):=G 9 8 _ rfl
     simp only[kU]
     simp only[b5,aw,List.map_cons,List.map_nil,List.foldl_cons,List.foldl_nil,Act.put,List.setIfInBounds_toArray,List.set_cons_zero,List.set_cons_succ,ep9]
     clear G
     have hgr1:=hgr.below bp
     have hb2:=hbr.trans (bp.mono hbr.size)
     have hsr1:=hb2.size
     obtain⟨a',c',rfl,hLc,hrw,hown⟩:=hgr1.open
     clear hgr ea qa ia eb qb ib Va Vb
     go_wp2_with (at_builtin;refine bH rfl _ _ rfl wc.heap.size (.slice a' i c') i ((m+n) % 4294967296^i) (D (m+n) i) rfl hgr1 hsr1 rfl hd (by omega) ?_)
     intro v' w' hg' hb' hs'
     rw[iK]at hg'
     go_wp2_with fail
     go_roundw
     case rel=>exact⟨i+1,by omega,by go_num,rfl,hg',hb2.trans hb'⟩
     case measure=>simp[intOf]<;>omega
    ·have hle:i≤nl m:=by omega
     have HME:=Lib.hid hme
     clear hme hlt
     go_upto_region 6 with(fail)
     refine eL Tryd.f86 6 (kU w.heap.size (w.heap.size+1) m n i S X) (by kernel_rfl) (by kernel_rfl) rfl (by kernel_rfl) (by kernel_rfl) ?_ ?_
     ·refine⟨fun a' w' F=>⟨_,rfl,af rfl,aZ rfl (F.keep 2 (Value.pointer (some ⟨w.heap.size,0,none⟩)) (by kernel_rfl) rfl).is (Va.mono F.below)⟩,?_⟩
      refine⟨fun a' w' F=>⟨_,rfl,af rfl,aQ (.inl rfl) (F.keep 7 (Value.int IntKind.i64 ((i:Nat))) (by kernel_rfl) rfl).is⟩,?_⟩
      refine⟨fun a' w' F=>⟨_,rfl,af rfl,bn rfl (F.f 0 rfl) (F.f 1 rfl) (hm) (hi60)⟩,?_⟩
      refine⟨fun a' w' F=>⟨_,rfl,af rfl,aZ rfl (F.keep 3 (Value.pointer (some ⟨w.heap.size+1,0,none⟩)) (by kernel_rfl) rfl).is (Vb.mono F.below)⟩,?_⟩
      refine⟨fun a' w' F=>⟨_,rfl,af rfl,aQ (.inl rfl) (F.keep 7 (Value.int IntKind.i64 ((i:Nat))) (by kernel_rfl) rfl).is⟩,?_⟩
      refine⟨fun a' w' F=>⟨_,rfl,af rfl,bn rfl (F.f 3 rfl) (F.f 4 rfl) (hn) (hi60)⟩,?_⟩
      refine⟨fun a' w' F=>⟨_,rfl,af rfl,cG rfl (F.f 2 rfl) (F.f 5 rfl) (fun _=>rfl) (gt _ _ _ hS.out.symm (by have:=hSb;omega))⟩,?_⟩
      refine⟨fun a' w' F=>⟨_,rfl,af rfl,aQ (.inl rfl) (F.keep 6 (Value.int IntKind.u64 (((cy m n i:Nat):Int))) (by kernel_rfl) rfl).is⟩,?_⟩
      refine⟨fun a' w' F=>⟨_,rfl,af rfl,cG rfl (F.f 6 rfl) (F.f 7 rfl) (fun _=>rfl) (gt _ _ _ hX.out.symm (by have:=hXb;omega))⟩,?_⟩
      refine⟨fun a' w' F=>⟨_,rfl,af rfl,aQ (.inr rfl) (F.f 8 rfl)⟩,?_⟩
      exact trivial
     intro gp wp bp G
     have ep9:gp 9=Value.int IntKind.u64 (((X:Nat):Int)):=G 9 8 _ rfl
     simp only[kU]
     simp only[b5,aw,List.map_cons,List.map_nil,List.foldl_cons,List.foldl_nil,Act.put,List.setIfInBounds_toArray,List.set_cons_zero,List.set_cons_succ,ep9]
     clear G
     have hgr1:=hgr.below bp
     have hb2:=hbr.trans (bp.mono hbr.size)
     have hsr1:=hb2.size
     obtain⟨a',c',rfl,hLc,hrw,hown⟩:=hgr1.open
     clear hgr ea qa ia eb qb ib Va Vb
     go_wp2_with (at_builtin;refine bH rfl _ _ rfl wc.heap.size (.slice a' i c') i ((m+n) % 4294967296^i) (D (m+n) i) rfl hgr1 hsr1 rfl hd (by omega) ?_)
     intro v' w' hg' hb' hs'
     rw[iK]at hg'
     go_wp2_with fail
     go_roundw
     case rel=>exact⟨i+1,by omega,by go_num,rfl,hg',hb2.trans hb'⟩
     case measure=>simp[intOf]<;>omega
   ·obtain rfl:i=M+1:=by omega
    have hsum:m+n<4294967296^(M+1):=by
     have h1:=az.1 hM1
     have h2:=az.1 hM2
     rw[Nat.pow_succ];omega
    rw[Nat.mod_eq_of_lt hsum]at hgr
    obtain⟨a',c',rfl,hLc,hrw,hown⟩:=hgr.open
    rcases hMM.out with⟨hmx,hme⟩ | ⟨hmx,hme⟩
    ·generalize hi1:M+1=i at *
     have hle:¬i≤nl n:=by omega
     have HME:=Lib.hid hme
     clear hme hlt
     go_wp2_with fail
     refine(jz a' i c' (m+n) _ hrw (by omega)).mono ?_
     rintro e w2 ⟨v2,rfl,⟨x2,c2,rfl,hc2,hx2⟩,bb⟩
     have n2:aD wc.heap.size w2 (.agg #[.slice x2 (nl (m+n)) c2]) (m+n):=aD.weaken (base:=wr.heap.size) ⟨x2,c2,rfl,hc2,hx2⟩ hbr.size
     have vr2:=(vr.mono hbr vr.lt).mono bb (Nat.lt_of_lt_of_le vr.lt hbr.size)
     have cr:=vr2.cell
     have fr:=vr2.frozen
     have n3:=n2.setVar (u:=.slice x2 (nl (m+n)) c2) vr2
     go_wp2
     exact bodyPost_ret (dn rfl _ _ (w.heap.size+1+1) _ rfl vr2.set.cell) rfl ⟨_,rfl,n3.weaken hb1.size,((hb1.trans (hbr.mono hb1.size)).trans (bb.mono (Nat.le_trans hb1.size hbr.size))).setCell (p:=⟨w.heap.size+1+1,0,none⟩) (by simp;omega) _⟩
    ·generalize hi1:M+1=i at *
     have hle:¬i≤nl m:=by omega
     have HME:=Lib.hid hme
     clear hme hlt
     go_wp2_with fail
     refine(jz a' i c' (m+n) _ hrw (by omega)).mono ?_
     rintro e w2 ⟨v2,rfl,⟨x2,c2,rfl,hc2,hx2⟩,bb⟩
     have n2:aD wc.heap.size w2 (.agg #[.slice x2 (nl (m+n)) c2]) (m+n):=aD.weaken (base:=wr.heap.size) ⟨x2,c2,rfl,hc2,hx2⟩ hbr.size
     have vr2:=(vr.mono hbr vr.lt).mono bb (Nat.lt_of_lt_of_le vr.lt hbr.size)
     have cr:=vr2.cell
     have fr:=vr2.frozen
     have n3:=n2.setVar (u:=.slice x2 (nl (m+n)) c2) vr2
     go_wp2
     exact bodyPost_ret (dn rfl _ _ (w.heap.size+1+1) _ rfl vr2.set.cell) rfl ⟨_,rfl,n3.weaken hb1.size,((hb1.trans (hbr.mono hb1.size)).trans (bb.mono (Nat.le_trans hb1.size hbr.size))).setCell (p:=⟨w.heap.size+1+1,0,none⟩) (by simp;omega) _⟩
end Go.Proofs.YtfhinmdhjlmikaaDoor
namespace Go.Proofs.YtfhinmdhjlmikaaDoor
set_option linter.unusedSimpArgs false
set_option linter.unusedVariables false
set_option maxRecDepth 100000
open Go.RowKit
def qU (ga gb m n d i S T X:Nat):List (Nat×Tmp×Sp):=
  [(0,22,.nat (m)),
  (1,23,.val (Value.int IntKind.i64 ((i:Nat)))),
  (2,24,.val (Value.int IntKind.u64 (((D (m) (i):Nat):Int)))),
  (3,25,.val (Value.int IntKind.u64 (((S:Nat):Int)))),
  (4,26,.nat (n)),
  (5,27,.val (Value.int IntKind.i64 ((i:Nat)))),
  (6,28,.val (Value.int IntKind.u64 (((D (n) (i):Nat):Int)))),
  (7,29,.val (Value.int IntKind.u64 (((T:Nat):Int)))),
  (8,30,.val (Value.int IntKind.u64 (((cy n d i:Nat):Int)))),
  (9,31,.val (Value.int IntKind.u64 (((X:Nat):Int)))),
  (10,9,.val (Value.int IntKind.u64 (((X:Nat):Int))))]
set_option maxRecDepth 100000 in
set_option maxHeartbeats 1000000 in
theorem rX (va vb:Value) (m n:Nat) (w:World) (ha:IsN w va m) (hb:IsN w vb n) (hm:nl m≤1000000000000) (hn:nl n≤1000000000000):
  Calls Tryd.prog 90 #[va,vb] w fun e w'=>lc w m n e w':=by
 obtain⟨a,ca,rfl,hca,ra⟩:=ha
 obtain⟨b,cb,rfl,hcb,rb⟩:=hb
 obtain⟨k0,k1,k2⟩:=rW (L:=nl m) (c:=ca) (N:=m) (L2:=nl n) (c2:=cb) (N2:=n) ⟨a,ca,rfl,hca,ra⟩ ⟨b,cb,rfl,hcb,rb⟩
 have k3:=eF ((w.alloc (.cells #[.slice a (nl m) ca] 24)).alloc (.cells #[.slice b (nl n) cb] 24)) (.cells #[.slice none 0 0] 24)
 have k4:=aF.made ((w.alloc (.cells #[.slice a (nl m) ca] 24)).alloc (.cells #[.slice b (nl n) cb] 24)) none 0 0
 rw[World.size_alloc,World.size_alloc]at k4
 replace k0:=k0.trans (k3.mono k0.size)
 replace k1:=fm.mono k1 k3
 replace k2:=fm.mono k2 k3
 go_enter Tryd.func90,Tryd.ntmps90
 go_upto_region 0 with(fail)
 go_cut [2,3,4,5] (fun s2 s3 s4 s5 wx=>s2= .pointer (some ⟨w.heap.size,0,none⟩)∧s3= .pointer (some ⟨w.heap.size+1,0,none⟩)∧s4= .pointer (some ⟨w.heap.size+1+1,0,none⟩)∧s5= .bool false∧bA wx w.heap.size m∧bA wx (w.heap.size+1) n∧aF wx (w.heap.size+1+1) none 0 0∧Below w.heap.size w wx)
 case first=>
  go_wp2_with fail
  go_meet
  case rel=>exact⟨rfl,rfl,rfl,rfl,k1,k2,k4,k0⟩
 case rest=>
  obtain⟨rfl,rfl,rfl,rfl,Va,Vb,vr,hb1⟩:=hcut
  clear k0 k1 k2 k3 k4 ra rb
  have Va1:=Va
  have Vb1:=Vb
  obtain⟨ya,da,qa,ia⟩:=Va1
  have ea:=qa.cell
  obtain⟨yb,db,qb,ib⟩:=Vb1
  have eb:=qb.cell
  go_wp2_with fail
  refine(jA _ _ m n _ ia ib hm hn).mono ?_
  rintro e w1 ⟨rfl,bb⟩
  replace Va:=Va.mono bb
  replace Vb:=Vb.mono bb
  replace vr:=vr.mono bb vr.lt
  replace hb1:=hb1.trans (bb.mono hb1.size)
  clear ea qa ia eb qb ib bb
  have cr:=vr.cell
  have fr:=vr.frozen
  by_cases hmn:m<n
  ·rw[eH hmn]
   have hle:¬n≤m:=by omega
   have h0:m - n=0:=by omega
   go_wp2
   exact bodyPost_ret (bj rfl _ _ (w.heap.size+1+1) (.slice none 0 0) (.bool false) rfl rfl vr.set.cell) rfl ⟨_,by rw[decide_eq_false hle],by rw[h0];exact aD.of_zero,hb1.setCell (p:=⟨w.heap.size+1+1,0,none⟩) (by simp;omega) _⟩
  ·obtain⟨d,hd0⟩:∃d,m=n+d:=⟨m - n,by omega⟩
   have hcm:¬cC m n<0:=by
    rcases Nat.lt_or_ge n m with h | h
    ·rw[gP h];decide
    ·rw[iB (by omega)];decide
   have hret:decide (n≤m)=true:=decide_eq_true (by omega)
   have hmd:m - n=d:=by omega
   have HD:=Lib.hid hd0
   clear hd0 hmn
   have HR:=Lib.hid hret
   have HM:=Lib.hid hmd
   clear hret hmd
   go_wp2_with fail
   have hb1':=hb1
   generalize hwc:w1=wc at *
   go_loopw [6,7,8] (fun s6 s7 s8 wr=>∃i:Nat,i≤nl m∧s8= .int .i64 (i:Int)∧s7= .int .u64 ((cy n d i:Nat):Int)∧GR wr wc.heap.size s6 i (d % 4294967296^i)∧Below wc.heap.size wc wr) (fun _ _ s8 _=>nl m - (intOf s8).toNat)
   case atStart=>exact⟨0,Nat.zero_le _,rfl,by rw[kP];rfl,by rw[Nat.pow_zero,Nat.mod_one];exact GR.nil _ _,Below.refl _ _⟩
   case round=>
    obtain⟨i,hi,rfl,rfl,hgr,hbr⟩:=hrel
    clear cr fr
    have Va1:=Va.mono hbr
    have Vb1:=Vb.mono hbr
    obtain⟨ya,da,qa,ia⟩:=Va1
    have ea:=qa.cell
    obtain⟨yb,db,qb,ib⟩:=Vb1
    have eb:=qb.cell
    have hi60:i≤60000000000000:=by omega
    have hcy:=j7 n d i
    by_cases hlt:i<nl m
    ·have hst:=iA n d i
     rw[←HD.out]at hst
     have hd:=bO d i
     have hdn:=bO n i
     have hdm:=bO m i
     have hcy2:=j7 n d (i+1)
     obtain⟨S,hS⟩:∃S:Nat,Hid (S=4294967296+D m i):=⟨_,Lib.hid rfl⟩
     obtain⟨T,hT⟩:∃T:Nat,Hid (S=D n i+T):=⟨S - D n i,Lib.hid (by have:=hS.out;omega)⟩
     obtain⟨X,hX⟩:∃X:Nat,Hid (T=cy n d i+X):=⟨T - cy n d i,Lib.hid (by have:=hS.out;have:=hT.out;omega)⟩
     obtain⟨Y,hY⟩:∃Y:Nat,Hid (Y+cy n d (i+1)=1):=⟨1 - cy n d (i+1),Lib.hid (by omega)⟩
     have hSb:S<8589934592:=by have:=hS.out;omega
     have hTb:T<8589934592:=by have:=hT.out;omega
     have hXb:X<8589934592:=by have:=hX.out;omega
     have hYb:Y≤1:=by have:=hY.out;omega
     have hrem:((X:Nat):Int) % 4294967296=((D d i:Nat):Int):=by have:=hX.out;have:=hS.out;have:=hT.out;omega
     have hquo:((X:Nat):Int) / 4294967296=((Y:Nat):Int):=by have:=hX.out;have:=hS.out;have:=hT.out;have:=hY.out;omega
     have hbor:(1:Int) - ((Y:Nat):Int)=((cy n d (i+1):Nat):Int):=by have:=hY.out;omega
     clear hst hdn hdm
     have Va:bA wr w.heap.size m:=⟨ya,da,qa,ia⟩
     have Vb:bA wr (w.heap.size+1) n:=⟨yb,db,qb,ib⟩
     go_upto_region 8 with(fail)
     refine eL Tryd.f90 8 (qU w.heap.size (w.heap.size+1) m n d i S T X) (by kernel_rfl) (by kernel_rfl) rfl (by kernel_rfl) (by kernel_rfl) ?_ ?_
     ·refine⟨fun a' w' F=>⟨_,rfl,af rfl,aZ rfl (F.keep 2 (Value.pointer (some ⟨w.heap.size,0,none⟩)) (by kernel_rfl) rfl).is (Va.mono F.below)⟩,?_⟩
      refine⟨fun a' w' F=>⟨_,rfl,af rfl,aQ (.inl rfl) (F.keep 8 (Value.int IntKind.i64 ((i:Nat))) (by kernel_rfl) rfl).is⟩,?_⟩
      refine⟨fun a' w' F=>⟨_,rfl,af rfl,bn rfl (F.f 0 rfl) (F.f 1 rfl) (hm) (hi60)⟩,?_⟩
      refine⟨fun a' w' F=>⟨_,rfl,af rfl,cG rfl Is.const (F.f 2 rfl) (fun _=>rfl) (gt 4294967296 _ _ hS.out.symm (by have:=hSb;omega))⟩,?_⟩
      refine⟨fun a' w' F=>⟨_,rfl,af rfl,aZ rfl (F.keep 3 (Value.pointer (some ⟨w.heap.size+1,0,none⟩)) (by kernel_rfl) rfl).is (Vb.mono F.below)⟩,?_⟩
      refine⟨fun a' w' F=>⟨_,rfl,af rfl,aQ (.inl rfl) (F.keep 8 (Value.int IntKind.i64 ((i:Nat))) (by kernel_rfl) rfl).is⟩,?_⟩
      refine⟨fun a' w' F=>⟨_,rfl,af rfl,bn rfl (F.f 4 rfl) (F.f 5 rfl) (hn) (hi60)⟩,?_⟩
      refine⟨fun a' w' F=>⟨_,rfl,af rfl,cG rfl (F.f 3 rfl) (F.f 6 rfl) (fun _=>rfl) (oL _ _ _ hT.out (by have:=hSb;omega))⟩,?_⟩
      refine⟨fun a' w' F=>⟨_,rfl,af rfl,aQ (.inl rfl) (F.keep 7 (Value.int IntKind.u64 (((cy n d i:Nat):Int))) (by kernel_rfl) rfl).is⟩,?_⟩
      refine⟨fun a' w' F=>⟨_,rfl,af rfl,cG rfl (F.f 7 rfl) (F.f 8 rfl) (fun _=>rfl) (oL _ _ _ hX.out (by have:=hTb;omega))⟩,?_⟩
      refine⟨fun a' w' F=>⟨_,rfl,af rfl,aQ (.inr rfl) (F.f 9 rfl)⟩,?_⟩
      exact trivial
     intro gp wp bp G
     have ep10:gp 10=Value.int IntKind.u64 (((X:Nat):Int)):=G 10 9 _ rfl
     simp only[qU]
     simp only[b5,aw,List.map_cons,List.map_nil,List.foldl_cons,List.foldl_nil,Act.put,List.setIfInBounds_toArray,List.set_cons_zero,List.set_cons_succ,ep10]
     clear G
     have hgr1:=hgr.below bp
     have hb2:=hbr.trans (bp.mono hbr.size)
     have hsr1:=hb2.size
     obtain⟨a',c',rfl,hLc,hrw,hown⟩:=hgr1.open
     clear hgr ea qa ia eb qb ib Va Vb
     go_wp2_with (at_builtin;refine bH rfl _ _ rfl wc.heap.size (.slice a' i c') i (d % 4294967296^i) (D d i) rfl hgr1 hsr1 rfl hd (by omega) ?_)
     intro v' w' hg' hb' hs'
     rw[iK]at hg'
     go_wp2_with fail
     go_roundw
     case rel=>exact⟨i+1,by omega,by go_num,rfl,hg',hb2.trans hb'⟩
     case measure=>simp[intOf]<;>omega
    ·obtain rfl:i=nl m:=by omega
     have hsum:d<4294967296^nl m:=Nat.lt_of_le_of_lt (by have:=HD.out;omega) (cH m)
     rw[Nat.mod_eq_of_lt hsum]at hgr
     obtain⟨a',c',rfl,hLc,hrw,hown⟩:=hgr.open
     go_wp2_with fail
     refine(jz a' (nl m) c' d _ hrw (by omega)).mono ?_
     rintro e w2 ⟨v2,rfl,⟨x2,c2,rfl,hc2,hx2⟩,bb⟩
     have n2:aD wc.heap.size w2 (.agg #[.slice x2 (nl d) c2]) d:=aD.weaken (base:=wr.heap.size) ⟨x2,c2,rfl,hc2,hx2⟩ hbr.size
     have vr2:=(vr.mono hbr vr.lt).mono bb (Nat.lt_of_lt_of_le vr.lt hbr.size)
     have cr:=vr2.cell
     have fr:=vr2.frozen
     have n3:=n2.setVar (u:=.slice x2 (nl d) c2) vr2
     go_wp2
     exact bodyPost_ret (bj rfl _ _ (w.heap.size+1+1) _ (.bool true) rfl rfl vr2.set.cell) rfl ⟨_,by rw[HR.out],by rw[HM.out];exact n3.weaken hb1.size,((hb1.trans (hbr.mono hb1.size)).trans (bb.mono (Nat.le_trans hb1.size hbr.size))).setCell (p:=⟨w.heap.size+1+1,0,none⟩) (by simp;omega) _⟩
end Go.Proofs.YtfhinmdhjlmikaaDoor
namespace Go.Proofs.YtfhinmdhjlmikaaDoor
set_option linter.unusedSimpArgs false
set_option linter.unusedVariables false
set_option maxRecDepth 100000
open Go.RowKit
theorem aP.drewN {w:World} {g L N:Nat} (h:aP w g L N) (q:Nat):aP (w.drewN q) g L N:=h
theorem aD.setLow {w:World} {base N:Nat} {v u:Value} (h:aD base w v N) (p:Addr) (hp:p.block<base):aD base (w.setCell p u) v N:=by
 obtain⟨x,cap,rfl,hc,hx⟩:=h
 refine⟨x,cap,rfl,hc,fun hL=> ?_⟩
 obtain⟨b,off,rfl,hb,hd,hf⟩:=hx hL
 have hne:b≠p.block:=by omega
 refine⟨b,off,rfl,hb,fun j hj=> ?_,fun j hj=> ?_⟩
 ·rw[World.cell?_of_block (Below.heap_setCell w p u b hne)];exact hd j hj
 ·rw[World.frozen?_of_block (Below.heap_setCell w p u b hne)];exact hf j hj
set_option maxHeartbeats 1000000 in
theorem rY (va vb:Value) (m n:Nat) (w:World) (ha:IsN w va m) (hb:IsN w vb n) (hm:nl m≤1000000000000) (hn:nl n≤1000000000000):
  Calls Tryd.prog 87 #[va,vb] w fun e w'=>b9 w (m*n) e w':=by
 obtain⟨a,ca,rfl,hca,ra⟩:=ha
 obtain⟨b,cb,rfl,hcb,rb⟩:=hb
 have hw:Below w.heap.size w (((w.alloc (.cells #[.slice a (nl m) ca] 24)).alloc (.cells #[.slice b (nl n) cb] 24)).alloc (.cells #[.slice none 0 0] 24)):=(((Below.refl _ _).alloc (Nat.le_refl _) _).alloc (by simp) _).alloc (by simp;omega) _
 go_enter Tryd.func87,Tryd.ntmps87
 go_upto_region 1 with(fail)
 go_cut [5] (fun s5 wx=>∃g,s5= .slice (some ⟨g,0,none⟩) (nl m+nl n) (nl m+nl n)∧aP wx g (nl m+nl n) 0∧Made w wx (w.heap.size+1+1) g∧
   wx.cell? ⟨w.heap.size,0,none⟩=some (.slice a (nl m) ca)∧wx.cell? ⟨w.heap.size+1,0,none⟩=some (.slice b (nl n) cb))
 case first=>
  have hown:=aP.made (((w.alloc (.cells #[.slice a (nl m) ca] 24)).alloc (.cells #[.slice b (nl n) cb] 24)).alloc (.cells #[.slice none 0 0] 24)) (nl m+nl n)
  go_wp2_with (at_make;refine bg rfl _ _ rfl _ _ _ _ (nl m+nl n) rfl rfl (by omega) (by omega) (by omega) ?_)
  go_meet
  case rel=>exact⟨_,rfl,by simpa using hown,⟨hw.alloc (by simp;omega) _,by omega,by simp,by simp,by simp[go_sem],by simp[go_sem]⟩,by simp[go_sem],by simp[go_sem]⟩
 case rest=>
  obtain⟨g,rfl,hown,hmade,hca',hcb'⟩:=hcut
  have hlt1:=hmade.lt
  go_wp2_with fail
  go_loopw [6] (fun s6 wr=>∃i:Nat,i≤nl m∧s6= .int .i64 i∧aP wr g (nl m+nl n) ((m % 4294967296^i)*n)∧Below g wc wr)
   (fun i _=>nl m - (intOf i).toNat)
  case atStart=>exact⟨0,Nat.zero_le _,rfl,by simpa [Nat.mod_one]using hown,Below.refl _ _⟩
  case round=>
   obtain⟨i,hi,rfl,ho,hbr⟩:=hrel
   have hmr:=hmade.step hbr
   have c0:=(hbr.cell (p:=⟨w.heap.size,0,none⟩) (by show w.heap.size<g;omega)).trans hca'
   by_cases hlt:i<nl m
   ·have c2:=(hbr.cell (p:=⟨w.heap.size+1,0,none⟩) (by show w.heap.size+1<g;omega)).trans hcb'
    have hdx:=bO m i
    go_wp2_with fail
    go_loopw [7,8] (fun s7 s8 wq=>∃k O c:Nat,k≤nl n∧s8= .int .i64 k∧s7= .int .u64 (c:Int)∧c<4294967296∧aP wq g (nl m+nl n) O∧gl m n i k O c∧Below g wc wq)
     (fun _ s _=>nl n - (intOf s).toNat)
    case atStart=>exact⟨0,(m % 4294967296^i)*n,0,Nat.zero_le _,rfl,rfl,by decide,ho,gl.start m n i,hbr⟩
    case round=>
     obtain⟨k,O,c,hk,rfl,rfl,hc,hoq,hat,hbq⟩:=hrel
     have hmq:=hmade.step hbq
     clear ho hbr hmr c0 c2
     have c0:=(hbq.cell (p:=⟨w.heap.size,0,none⟩) (by show w.heap.size<g;omega)).trans hca'
     have c2:=(hbq.cell (p:=⟨w.heap.size+1,0,none⟩) (by show w.heap.size+1<g;omega)).trans hcb'
     by_cases hlt2:k<nl n
     ·have raq:=ra.mono hmq.below
      obtain⟨b1,o1,rfl,h1⟩:=raq.cells (by omega)
      have c1:=h1 i hlt
      have rbq:=rb.mono hmq.below
      obtain⟨b2,o2,rfl,h2⟩:=rbq.cells (by omega)
      have c3:=h2 k hlt2
      have hdy:=bO n k
      have c4:=hoq.cell (p:=i+k) (by omega)
      have f4:=hoq.frozen (i+k)
      have hdo:=bO O (i+k)
      have hxy:((D m i:Nat):Int)*((D n k:Nat):Int)≤18446744065119617025:=by
       have h:=Nat.mul_le_mul (show D m i≤4294967295 by omega) (show D n k≤4294967295 by omega)
       have h':((D m i*D n k:Nat):Int)≤18446744065119617025:=by omega
       simpa using h'
      have hxy0:0≤((D m i:Nat):Int)*((D n k:Nat):Int):=Int.mul_nonneg (by omega) (by omega)
      have HT:=hat.step hlt2
      go_wp2_with fail
      go_quiet (fail)
      go_wp2
      go_roundw
      case rel=>
       have hst:=fun q=>(hoq.drewN q).store (p:=i+k) (e:=(D m i*D n k+D O (i+k)+c) % 4294967296) (by omega) (Nat.mod_lt _ (by decide))
       exact⟨k+1,_,_,by omega,by go_num,by simp,by rw[Nat.div_lt_iff_lt_mul (by decide)];omega,by simpa using hst _,HT,by simpa using (aJ hbq _).setCell (p:=⟨g,i+k,none⟩) (Nat.le_refl _) _⟩
      case measure=>simp[intOf]<;>omega
     ·obtain rfl:k=nl n:=by omega
      have c4:=hoq.cell (p:=i+nl n) (by omega)
      have f4:=hoq.frozen (i+nl n)
      have hst:=hoq.store (p:=i+nl n) (e:=c) (by omega) hc
      rw[hat.last]at hst
      have hbs:=hbq.setCell (p:=⟨g,i+nl n,none⟩) (Nat.le_refl _) (.int .u32 (c:Int))
      go_wp2
      go_roundw
      case rel=>exact⟨i+1,by omega,by go_num,hst,hbs⟩
      case measure=>simp[intOf]<;>omega
   ·obtain rfl:i=nl m:=by omega
    rw[pI]at ho
    go_wp2_with fail
    refine(jz _ (nl m+nl n) (nl m+nl n) (m*n) _ ho.rw' (by omega)).mono ?_
    rintro e w1 ⟨v1,rfl,⟨x1,c1,rfl,hc1,hx1⟩,hb2⟩
    obtain⟨hcc,hff⟩:=hmr.after hb2
    have hb0:=hmr.below
    have hz:=hmr.lt
    have hz2:=hmr.size
    have n2:aD wr.heap.size w1 (.agg #[.slice x1 (nl (m*n)) c1]) (m*n):=⟨x1,c1,rfl,hc1,hx1⟩
    have n3:=(n2.setLow (u:=.slice x1 (nl (m*n)) c1) ⟨w.heap.size+1+1,0,none⟩ (by show w.heap.size+1+1<wr.heap.size;omega)).weaken hb0.size
    have hB:=(hb0.trans (hb2.mono hb0.size)).setCell (p:=⟨w.heap.size+1+1,0,none⟩) (by show w.heap.size≤w.heap.size+1+1;omega) (.slice x1 (nl (m*n)) c1)
    go_wp2
    exact bodyPost_ret (dn rfl _ _ (w.heap.size+1+1) _ rfl (World.cell?_setCell_same _ _ _ hcc)) rfl ⟨_,rfl,n3,hB⟩
end Go.Proofs.YtfhinmdhjlmikaaDoor
namespace Go.Proofs.YtfhinmdhjlmikaaDoor
set_option linter.unusedSimpArgs false
set_option linter.unusedVariables false
set_option maxRecDepth 100000
open Go.RowKit
section
variable {Q:Exit→Act→World→Prop} {o:Oper} {a:Act} {w:World} {x y:Operand} {m n:Nat} {tt:Array TypeId}
theorem tD (ho:o.op= .call {callee:=.value (.func 86),args:=#[x,y],argTypes:=tt}) (hx:Is a w x (.nat m)) (hy:Is a w y (.nat n)) (hm:nl m≤1000000000000) (hn:nl n≤1000000000000) {N:Nat} (hN:m+n=N):Arm Tryd.prog Q o a w (.nat N):=by
 subst hN
 exact nI ho (ai Tryd.func86 rfl rfl) hx hy (R:=fun w=>b9 w (m+n)) (fun va vb w h1 h2=>jB va vb m n w h1 h2 hm hn) (fun _ _ h=>tx h)
theorem tE (ho:o.op= .call {callee:=.value (.func 87),args:=#[x,y],argTypes:=tt}) (hx:Is a w x (.nat m)) (hy:Is a w y (.nat n)) (hm:nl m≤1000000000000) (hn:nl n≤1000000000000) {N:Nat} (hN:m*n=N):Arm Tryd.prog Q o a w (.nat N):=by
 subst hN
 exact nI ho (ai Tryd.func87 rfl rfl) hx hy (R:=fun w=>b9 w (m*n)) (fun va vb w h1 h2=>rY va vb m n w h1 h2 hm hn) (fun _ _ h=>tx h)
end
end Go.Proofs.YtfhinmdhjlmikaaDoor
namespace Go.Proofs.YtfhinmdhjlmikaaDoor
set_option linter.unusedSimpArgs false
set_option linter.unusedVariables false
set_option maxRecDepth 100000
open Go.RowKit
theorem rZ {x:Nat} (h:x≠0):dI x=dI (x / 2)+1:=by
 unfold dI
 rw[if_neg h,Nat.log2_def]
 by_cases h2:2≤x
 ·rw[if_pos h2,if_neg (by omega)]
 ·rw[if_neg h2,if_pos (by omega)]
theorem pW {N:Nat} (h:N≠0):dI N=32*(nl N - 1)+dI (D N (nl N - 1)):=by
 rw[oq h]
 have ht:D N (nl N - 1)≠0:=qL h
 have hlt:=bO N (nl N - 1)
 have h1:nl (D N (nl N - 1))=1:=by
  have:=cI ht
  have:=(az (N:=D N (nl N - 1)) (k:=1)).2 (by rw[Nat.pow_one];exact hlt)
  omega
 have h2:=oq ht
 rw[h1]at h2
 have h3:D (D N (nl N - 1)) 0=D N (nl N - 1):=by
  show D N (nl N - 1) / 4294967296^0 % 4294967296=_
  rw[Nat.pow_zero,Nat.div_one,Nat.mod_eq_of_lt hlt]
 simp only[Nat.sub_self,h3,Nat.mul_zero,Nat.zero_add]at h2
 rw[h2]
set_option maxRecDepth 100000 in
theorem pX (va:Value) (N:Nat) (w:World) (ha:IsN w va N) (hN:nl N≤1000000000000):
  Calls Tryd.prog 88 #[va] w fun e w'=>bE w (.int .i64 ((dI N:Nat):Int)) e w':=by
 obtain⟨a,ca,rfl,hca,ra⟩:=ha
 have hw:=eF w (.cells #[.slice a (nl N) ca] 24)
 have v1:=aF.made w a (nl N) ca
 have ra0:=ra.mono hw
 by_cases h0:N=0
 ·have e1:nl N=0:=fE.2 h0
  have e2:dI N=0:=by unfold dI;rw[if_pos h0]
  have HE2:=Lib.hid e2
  rw[e1]at ra0 hw hca v1⊢
  clear e1 e2 ra hN
  have c1:=v1.cell
  go_enter Tryd.func88,Tryd.ntmps88
  go_wp2
  go_ret
  exact⟨by rw[HE2.out];rfl,hw⟩
 ·have hp:=cI h0
  have hne:(((nl N:Nat):Int)==0)=false:=by rw[beq_eq_false_iff_ne];omega
  have HT:=Lib.hid (pW h0)
  have hdl:=bO N (nl N - 1)
  obtain⟨T,hT⟩:∃T:Nat,Hid (T=D N (nl N - 1)):=⟨_,Lib.hid rfl⟩
  obtain⟨b1,o1,rfl,h1⟩:=ra0.cells (by omega)
  have d1:=h1 (nl N - 1) (by omega)
  rw[←hT.out]at d1 hdl
  obtain⟨P,hP⟩:∃P:Nat,Hid (P=nl N - 1):=⟨_,Lib.hid rfl⟩
  have e1:((nl N:Int) - 1)=((P:Nat):Int):=by have:=hP.out;omega
  have hPb:P≤1000000000000:=by have:=hP.out;omega
  rw[←hP.out]at d1
  have c1:=v1.cell
  have hlT:dI T≤32:=by
   rcases Nat.eq_zero_or_pos T with h | h
   ·rw[h];decide
   ·unfold dI;rw[if_neg (by omega)];have:=(Nat.log2_lt (n:=T) (k:=32) (by omega)).2 (by simpa using hdl);omega
  have htot:dI N=32*(nl N - 1)+dI T:=by rw[HT.out,hT.out]
  have HTOT:=Lib.hid htot
  clear htot h0
  have hlN:dI N≤32000000000032:=by have:=HTOT.out;omega
  go_enter Tryd.func88,Tryd.ntmps88
  go_wp2_with fail
  go_loopw [3,4] (fun s3 s4 wr=>∃c x:Nat,s3= .int .i64 (c:Int)∧s4= .int .u32 (x:Int)∧x<4294967296∧Hid (dI N=c+dI x)∧wr=w.alloc (.cells #[.slice (some ⟨b1,o1,none⟩) (nl N) ca] 24)) (fun _ s4 _=>(intOf s4).toNat)
  case atStart=>exact⟨32*P,T,by go_num,rfl,hdl,by rw[hP.out];exact HTOT,rfl⟩
  case round=>
   obtain⟨c,x,rfl,rfl,hx,HL,rfl⟩:=hrel
   have hcN:c≤32000000000032:=by have:=HL.out;omega
   by_cases hx0:x=0
   ·subst hx0
    have hc:dI N=c:=by have h:=HL.out;have h2:dI 0=0:=rfl;omega
    have HC:=Lib.hid hc
    clear hc
    go_wp2
    go_ret
    exact⟨by rw[HC.out];rfl,hw⟩
   ·have hxp:(0:Int)<(x:Int):=by omega
    have hst:=rZ hx0
    have HS:=Lib.hid (show dI N=(c+1)+dI (x / 2)by have h:=HL.out;omega)
    obtain⟨y,hy⟩:∃y:Nat,Hid (y=x / 2):=⟨_,Lib.hid rfl⟩
    have hq:((x:Nat):Int) / 2=((y:Nat):Int):=by have:=hy.out;omega
    have hlt:y<x:=by have:=hy.out;omega
    rw[←hy.out]at HS
    clear hst hx0
    go_wp2_with fail
    go_roundw
    case rel=>exact⟨c+1,y,by go_num,rfl,by omega,HS,trivial⟩
    case measure=>simp[intOf]<;>omega
theorem ll (n:Nat) (w:World) (hn:n<18446744073709551616):
  Calls Tryd.prog 33 #[.int .u64 (n:Int)] w fun e w'=>b9 w n e w':=by
 have hw:=eF w (.cells #[.slice none 0 0] 24)
 have v0:=aF.made w none 0 0
 have hown:=aP.two (w.alloc (.cells #[.slice none 0 0] 24)) n hn
 have b2:=hw.alloc (by simp) (.cells #[.int .u32 ((n:Int) % 4294967296),.int .u32 ((n:Int) / 4294967296)] 78)
 have v1:=aF.mono v0 (eF _ (.cells #[.int .u32 ((n:Int) % 4294967296),.int .u32 ((n:Int) / 4294967296)] 78)) v0.lt
 rw[World.size_alloc]at hown
 go_enter Tryd.func33,Tryd.ntmps33
 go_wp2_with fail
 refine(jz _ 2 2 n _ hown.rw' (by omega)).mono ?_
 rintro e w2 ⟨v2,rfl,⟨x2,c2,rfl,hc2,hx2⟩,bb⟩
 have n2:aD w.heap.size w2 (.agg #[.slice x2 (nl n) c2]) n:=aD.weaken (by exact⟨x2,c2,rfl,hc2,hx2⟩) b2.size
 have vr2:=v1.mono bb v1.lt
 have cr:=vr2.cell
 have fr:=vr2.frozen
 have n3:=n2.setVar (u:=.slice x2 (nl n) c2) vr2
 have hB:=(b2.trans (bb.mono b2.size)).setCell (p:=⟨w.heap.size,0,none⟩) (Nat.le_refl _) (.slice x2 (nl n) c2)
 go_wp2
 exact bodyPost_ret (dn rfl _ _ w.heap.size _ rfl vr2.set.cell) rfl ⟨_,rfl,n3,hB⟩
end Go.Proofs.YtfhinmdhjlmikaaDoor
namespace Go.Proofs.YtfhinmdhjlmikaaDoor
set_option linter.unusedSimpArgs false
set_option linter.unusedVariables false
set_option maxRecDepth 100000
open Go.RowKit
section
variable {Q:Exit→Act→World→Prop} {o:Oper} {a:Act} {w:World} {x y:Operand} {m n:Nat} {tt:Array TypeId}
/-- A variable that holds a row of L digits, leading zeros allowed. -/
def Sp.raw (L N:Nat):Sp:=⟨fun w v=>IsR w v L N,fun _ _ _ h hb=>IsR.mono h hb⟩
end
end Go.Proofs.YtfhinmdhjlmikaaDoor
namespace Go.Proofs.YtfhinmdhjlmikaaDoor
set_option linter.unusedSimpArgs false
set_option linter.unusedVariables false
set_option maxRecDepth 100000
open Go.RowKit
section
variable {P:Program} {ops:Array Oper} {Q:Exit→Act→World→Prop} {md:Region.Mode}
theorem el.of_all {α:Type} {p:α→Prop} (h:∀x,p x):∀l,el p l
 | []=>trivial
 | x::l=>⟨h x,el.of_all h l⟩
/-- As Arm; where al, the value lies in a new block. -/
def v4 (P:Program) (Q:Exit→Act→World→Prop) (al:Bool) (o:Oper) (a:Act) (w:World) (s:Sp):Prop:=
 ∀K:Act→World→Prop,(∀v w',s.p w' v→Below w.heap.size w w'→(al=true→w.heap.size≤blk v)→K (a.put o.dst v) w')→Oper.wp P o a w K Q
theorem Arm.b {o:Oper} {a:Act} {w:World} {s:Sp} (h:Arm P Q o a w s):v4 P Q false o a w s:=fun K hK=>h K (fun v w' h1 h2=>hK v w' h1 h2 (fun h=>by cases h))
theorem iL (f:Func) (r:Nat) (D:List (Nat×Tmp×Sp)) (Al:Nat→Bool) (n fuel:Nat) {id:Nat} {ops':Array Oper} {a:Act} {w:World} (hops:cL f r=ops') (hm:P.follows .mixedOrders=true)
  (hlen:(cL f r).size=fuel+D.length) (hok:j9 .any (cL f r) (aw D) n (Array.replicate (fuel+D.length) false) a.tmps.size=true)
  (hal:el (fun x=>Al x.1=true→∀w v,x.2.2.p w v→blk v<w.heap.size) D)
  (steps:el (fun x=>∀(a':Act) (w':World),Found .any (cL f r) D x.1 w a a' w'→∃o,(cL f r)[x.1]? =some o∧Region.wanted o (yielded (cL f r) a'.tmps)=true∧v4 P Q (Al x.1) o a' w' x.2.2) D)
  (hrest:∀(g:Nat→Value) w',Below w.heap.size w w'→(∀(i:Nat) (t:Tmp) (s:Sp),D[i]? =some (i,t,s)→s.p w' (g i))→(∀i j:Nat,((aw D).map (·.1)).contains i=true→((aw D).map (·.1)).contains j=true→Al i=true→Al j=true→i≠j→blk (g i)≠blk (g j))→
   wpAny P .any (cL f r) Q fuel (aS ((aw D).map (·.1)) (Array.replicate (fuel+D.length) false)) (b5 (aw D) g a) w'):(Code.region id ops' true).wp P Q a w:=by
 subst hops
 refine wp_region_any hm ?_
 have hb0:Below w.heap.size w w.drew:=aJ (Below.refl _ _) 1
 change wpAny P .any _ Q _ _ _ w.drew
 rw[hlen]
 unfold j9 at hok
 simp only[Bool.and_eq_true,decide_eq_true_eq]at hok
 obtain⟨⟨⟨⟨hph,hds⟩,hnt⟩,hni⟩,hlt⟩:=hok
 have ht:∀p∈aw D,p.2<a.tmps.size:=fun p hp=>by simpa using List.all_eq_true.1 hlt p hp
 have hcon:∀t,((aw D).map (·.2)).contains t=false→t∉(aw D).map (·.2):=fun t h hm=>by
  rw[List.contains_iff_mem.2 hm]at h;cases h
 have hmem:∀(i:Nat) (t:Tmp) (s:Sp),D[i]? =some (i,t,s)→(i,t,s)∈D:=fun i t s h=>List.mem_of_getElem? h
 have key:=xd (D:=D) (by simpa [aw,Function.comp_def]using hni)
 have hlen2:D.length=(aw D).length:=by simp[aw]
 rw[hlen2]at hph hrest⊢
 refine fI (fuel:=fuel) (aw D) n Al (fun i v w'=>∀t s,(i,t,s)∈D→s.p w' v) hph hds hnt (fun i _ v w1 w2 h hb t s hm=>s.st _ _ _ (h t s hm) hb) ?_ ?_ ?_
 ·intro i hi hA v w' h
  obtain⟨p,hp,rfl⟩:=List.mem_map.1 hi
  obtain⟨x,hx,rfl⟩:=List.mem_map.1 hp
  exact hal.mem x hx hA w' v (h x.2.1 x.2.2 hx)
 ·intro p hp g w' hb hF K hK
  obtain⟨x,hx,rfl⟩:=List.mem_map.1 hp
  obtain⟨o,ho,hw,harm⟩:=steps.mem x hx (b5 (aw D) g a) w' ⟨hb0.trans (hb.mono hb0.size),fun t h=>gQ t (hcon t h),fun i t s h1 h2=>
   ⟨g i,nH hnt (bM (hmem i t s h1)) (ht _ (bM (hmem i t s h1))),hF i (List.mem_map.2 ⟨_,bM (hmem i t s h1),rfl⟩) (List.contains_iff_mem.1 h2) t s (hmem i t s h1)⟩⟩
  unfold wpOp
  rw[ho]
  show if Region.wanted o (yielded (cL f r) (b5 (aw D) g a).tmps)=true then _ else _
  rw[if_pos hw]
  refine .inl (harm K (fun v w'' hv hbv hA=> ?_))
  have hd:=List.all_eq_true.1 hds _ hp
  rw[beq_iff_eq]at hd
  have hdo:o.dst=some x.2.1:=by
   have:bQ (cL f r) x.1=o.dst:=by unfold bQ;rw[ho]
   rw[←this];exact hd
  rw[hdo]
  refine hK v w'' (fun t s hm=> ?_) hbv hA
  have e2:=key _ hm _ (show(x.1,x.2.1,x.2.2)∈D from hx) rfl
  simp only[Prod.mk.injEq,true_and]at e2
  rw[e2.2];exact hv
 ·intro g w' hb hF hsep
  exact hrest g w' (hb0.trans (hb.mono hb0.size)) (fun i t s h=>hF i (List.mem_map.2 ⟨_,bM (hmem i t s h),rfl⟩) t s (hmem i t s h))
   (fun i j hi hj=>hsep i (List.contains_iff_mem.1 hi) j (List.contains_iff_mem.1 hj))
end
section
variable {Q:Exit→Act→World→Prop} {o:Oper} {a:Act} {w:World} {x y:Operand} {m n:Nat} {tt:Array TypeId}
theorem tF {w w':World} {base N:Nat} {e:Ending} (hb0:base≤w.heap.size) (h:b9 w N e w'):∃v,e= .returned v∧(Sp.new base N).p w' v∧Below w.heap.size w w':=by
 obtain⟨v,rfl,hn,hb⟩:=h;exact⟨v,rfl,hn.weaken hb0,hb⟩
theorem jC {base:Nat} (hb:base≤w.heap.size) (ho:o.op= .call {callee:=.value (.func 86),args:=#[x,y],argTypes:=tt}) (hx:Is a w x (.nat m)) (hy:Is a w y (.nat n)) (hm:nl m≤1000000000000) (hn:nl n≤1000000000000) {N:Nat} (hN:m+n=N):Arm Tryd.prog Q o a w (.new base N):=by
 subst hN
 exact nI ho (ai Tryd.func86 rfl rfl) hx hy (R:=fun w=>b9 w (m+n)) (fun va vb w h1 h2=>jB va vb m n w h1 h2 hm hn) (fun _ _ h=>tF hb h)
theorem kV (ho:o.op= .call {callee:=.value (.func 33),args:=#[x],argTypes:=tt}) (hx:Is a w x (.val (.int .u64 (n:Int)))) (hn:n<18446744073709551616):Arm Tryd.prog Q o a w (.nat n):=by
 refine gr ho (ai Tryd.func33 rfl rfl) (R:=fun e w'=>b9 w n e w') ?_ (fun _ _ h=>tx h)
 have hx':a.eval x= .int .u64 (n:Int):=hx
 simpa [hx']using ll n w hn
theorem Is.new {base:Nat} (h:Is a w x (.new base m)):Is a w x (.nat m):=aD.isN h
end
theorem r4 {w:World} {g L c:Nat} {s:Option Addr} {u:Value} (hu:∃s' L' c',u= .slice s' L' c') (h:aF w g s L c):(Instr.storeAt 24 (.pointer (some ⟨g,0,none⟩)) (.agg #[u])).run Tryd.prog w= .ok () (w.setCell ⟨g,0,none⟩ u):=by
 obtain⟨s',L',c',rfl⟩:=hu
 have c1:=h.cell
 have f1:=h.frozen
 go_simp
theorem tG {Q:Exit→Act→World→Prop} {o:Oper} {a:Act} {w:World} {K:Act→World→Prop} {x y:Operand} {g L c:Nat} {s:Option Addr} {u:Value} (hop:o.op= .store 24 x y) (hd:o.dst=none)
  (hx:a.eval x= .pointer (some ⟨g,0,none⟩)) (hy:a.eval y= .agg #[u]) (hu:∃s' L' c',u= .slice s' L' c') (hv:aF w g s L c) (hK:K a (w.setCell ⟨g,0,none⟩ u)):Oper.wp Tryd.prog o a w K Q:=by
 unfold Oper.wp execOp
 rw[hop]
 simp only[hx,hy,Sem.run_bind,r4 hu hv,Result.andThen,Sem.run_pure,Oper.upon_skip]
 rw[hd]
 exact hK
/-- The store that is left. -/
theorem dR {Q:Exit→Act→World→Prop} {md:Region.Mode} {ops:Array Oper} {o:Oper} {a:Act} {w:World} {j fuel:Nat} {listed:Array Bool} {x y:Operand} {g L c:Nat} {s:Option Addr} {u:Value}
  (hr:Region.ready md ops listed=[j]) (ho:ops[j]? =some o) (hop:o.op= .store 24 x y) (hg:o.guard=none) (hd:o.dst=none)
  (hx:a.eval x= .pointer (some ⟨g,0,none⟩)) (hy:a.eval y= .agg #[u]) (hu:∃s' L' c',u= .slice s' L' c') (hv:aF w g s L c) (h:wpAny Tryd.prog md ops Q fuel (listed.setIfInBounds j true) a (w.setCell ⟨g,0,none⟩ u)):
  wpAny Tryd.prog md ops Q (fuel+1) listed a w:=by
 refine wpAny_ready hr (by simp) (AllReady.cons ho (fun K hK=> ?_) AllReady.nil)
 rw[if_pos (af hg)]
 exact tG hop hd hx hy hu hv (hK _ _ h)
end Go.Proofs.YtfhinmdhjlmikaaDoor
namespace Go.Proofs.YtfhinmdhjlmikaaDoor
set_option linter.unusedSimpArgs false
set_option linter.unusedVariables false
set_option maxRecDepth 100000
open Go.RowKit
theorem xL (m i:Nat):D m (i / 32) / 2^(i % 32) % 2=m / 2^i % 2:=by
 unfold D
 have h1:(4294967296:Nat)^(i / 32)=2^(32*(i / 32)):=by rw[Nat.pow_mul]
 have h3:∀X s:Nat,s≤32→X % 4294967296 / 2^s=X / 2^s % 2^(32 - s):=by
  intro X s hs
  rw[show(4294967296:Nat)=2^s*2^(32 - s)by rw[←Nat.pow_add,show s+(32 - s)=32 by omega],Nat.mod_mul_right_div_self]
 rw[h3 _ _ (by omega),h1,Nat.div_div_eq_div_mul,←Nat.pow_add,Nat.div_add_mod]
 have h4:(2:Nat)∣ 2^(32 - i % 32):=⟨2^(31 - i % 32),by rw[←Nat.pow_succ',show(31 - i % 32).succ=32 - i % 32 by omega]⟩
 exact Nat.mod_mod_of_dvd _ h4
theorem c_bit (va:Value) (m i:Nat) (w:World) (ha:IsN w va m) (hm:nl m≤1000000000000) (hi:i≤60000000000000):
  Calls Tryd.prog 89 #[va,.int .i64 (i:Int)] w fun e w'=>bE w (.int .u64 ((m / 2^i % 2:Nat):Int)) e w':=by
 obtain⟨a,ca,rfl,hca,ra⟩:=ha
 obtain⟨k0,k1⟩:=tA (L:=nl m) (c:=ca) (N:=m) ⟨a,ca,rfl,hca,ra⟩
 obtain⟨y1,d1,q1,i1⟩:=k1
 have e1:=q1.cell
 obtain⟨P,hP⟩:∃P:Nat,Hid (P=i / 32):=⟨_,Lib.hid rfl⟩
 obtain⟨R,hR⟩:∃R:Nat,Hid (R=i % 32):=⟨_,Lib.hid rfl⟩
 have hq:(i:Int) / 32=(P:Int):=by have:=hP.out;omega
 have hq':Int.tdiv (i:Int) 32=(P:Int):=by rw[Int.tdiv_eq_ediv_of_nonneg (by omega)];exact hq
 have hr:(i:Int) % 32=(R:Int):=by have:=hR.out;omega
 have hr':Int.tmod (i:Int) 32=(R:Int):=by rw[Int.tmod_eq_emod_of_nonneg (by omega)];exact hr
 have hR32:R≤31:=by have:=hR.out;omega
 have hPb:P≤60000000000000:=by have:=hP.out;omega
 have hbit:D m P / 2^R % 2=m / 2^i % 2:=by rw[hP.out,hR.out];exact xL m i
 have HB:=Lib.hid hbit
 clear hbit
 obtain⟨V,hV⟩:∃V:Nat,Hid (V=D m P):=⟨_,Lib.hid rfl⟩
 have hVb:V≤4294967295:=by have:=bO m P;have:=hV.out;omega
 go_enter Tryd.func89,Tryd.ntmps89
 go_wp2_with fail
 refine(qT _ (nl m) m P _ i1 (by omega) hPb).mono ?_
 rintro e w1 ⟨rfl,bb⟩
 rw[←hV.out]
 have hb1:=k0.trans (bb.mono k0.size)
 go_wp2_with fail
 go_loopw [5,6] (fun s5 s6 wr=>∃k x:Nat,k≤R∧s6= .int .i64 (k:Int)∧s5= .int .u64 (x:Int)∧Hid (x=V / 2^k)∧x≤4294967295∧wr=w1) (fun _ s6 _=>R - (intOf s6).toNat)
 case atStart=>exact⟨0,V,Nat.zero_le _,rfl,rfl,Lib.hid (by simp),hVb,rfl⟩
 case round=>
  obtain⟨k,x,hk,rfl,rfl,HX,hxb,rfl⟩:=hrel
  by_cases hlt:k<R
  ·obtain⟨y,hy⟩:∃y:Nat,Hid (y=x / 2):=⟨_,Lib.hid rfl⟩
   have hq2:((x:Nat):Int) / 2=((y:Nat):Int):=by have:=hy.out;omega
   have hyb:y≤4294967295:=by have:=hy.out;omega
   go_wp2_with fail
   go_roundw
   case rel=>exact⟨k+1,y,by omega,by go_num,rfl,Lib.hid (by rw[hy.out,HX.out,Nat.pow_succ,Nat.div_div_eq_div_mul]),hyb,trivial⟩
   case measure=>simp[intOf]<;>omega
  ·obtain rfl:k=R:=by omega
   obtain⟨y,hy⟩:∃y:Nat,Hid (y=x % 2):=⟨_,Lib.hid rfl⟩
   have hq2:((x:Nat):Int) % 2=((y:Nat):Int):=by have:=hy.out;omega
   go_wp2
   go_ret
   refine⟨?_,hb1⟩
   rw[←HB.out,←hV.out,←HX.out]
   refine congrArg Ending.returned (congrArg (Value.int IntKind.u64) ?_)
   have:=hy.out
   omega
end Go.Proofs.YtfhinmdhjlmikaaDoor
namespace Go.Proofs.YtfhinmdhjlmikaaDoor
set_option linter.unusedSimpArgs false
set_option linter.unusedVariables false
set_option maxRecDepth 100000
open Go.RowKit
/-- Two result variables, quotient and remainder in variables of their own, the arguments in theirs. -/
structure DM (w wr:World) (m n q r:Nat):Prop where
 below:Below w.heap.size w wr
 va:bA wr w.heap.size m
 vb:bA wr (w.heap.size+1) n
 r1:aF wr (w.heap.size+2) none 0 0
 r2:aF wr (w.heap.size+3) none 0 0
 vq:dQ w.heap.size wr (w.heap.size+4) q
 vr:dQ w.heap.size wr (w.heap.size+5) r
theorem DM.mono {w wr w':World} {m n q r:Nat} (h:DM w wr m n q r) (hb:Below wr.heap.size wr w'):DM w w' m n q r:=
 ⟨h.below.trans (hb.mono h.below.size),h.va.mono hb,h.vb.mono hb,h.r1.mono hb h.r1.lt,h.r2.mono hb h.r2.lt,h.vq.mono (B:=0) hb,h.vr.mono (B:=0) hb⟩
theorem bA.setOther {w:World} {g N g' L' c':Nat} {a':Option Addr} {u:Value} (h:bA w g N) (h':aF w g' a' L' c') (hne:g'≠g):bA (w.setCell ⟨g',0,none⟩ u) g N:=by
 obtain⟨a,c,h1,h2⟩:=h
 exact⟨a,c,h1.setOther _ _ hne,h2.setVar h'⟩
theorem dQ.setOther {w:World} {base g N g' L' c':Nat} {a':Option Addr} {u:Value} (h:dQ base w g N) (h':aF w g' a' L' c') (hne:g'≠g):dQ base (w.setCell ⟨g',0,none⟩ u) g N:=by
 obtain⟨a,c,h1,h2⟩:=h
 exact⟨a,c,h1.setOther _ _ hne,h2.setVar h'⟩
theorem dQ.setN {w:World} {base g M N c:Nat} {x:Option Addr} (h:dQ base w g M) (hn:aD base w (.agg #[.slice x (nl N) c]) N):dQ base (w.setCell ⟨g,0,none⟩ (.slice x (nl N) c)) g N:=by
 obtain⟨a,c',h1,h2⟩:=h
 exact⟨x,c,h1.set,hn.setVar h1⟩
theorem DM.setr {w wr:World} {m n q r N c:Nat} {x:Option Addr} (h:DM w wr m n q r) (hn:aD w.heap.size wr (.agg #[.slice x (nl N) c]) N):DM w (wr.setCell ⟨w.heap.size+5,0,none⟩ (.slice x (nl N) c)) m n q N:=by
 obtain⟨a,c',h1,h2⟩:=h.vr
 exact⟨h.below.setCell (p:=⟨w.heap.size+5,0,none⟩) (Nat.le_add_right _ _) _,h.va.setOther h1 (by omega),h.vb.setOther h1 (by omega),h.r1.setOther _ _ (by simp),h.r2.setOther _ _ (by simp),h.vq.setOther h1 (by omega),h.vr.setN hn⟩
theorem DM.setq {w wr:World} {m n q r N c:Nat} {x:Option Addr} (h:DM w wr m n q r) (hn:aD w.heap.size wr (.agg #[.slice x (nl N) c]) N):DM w (wr.setCell ⟨w.heap.size+4,0,none⟩ (.slice x (nl N) c)) m n N r:=by
 obtain⟨a,c',h1,h2⟩:=h.vq
 exact⟨h.below.setCell (p:=⟨w.heap.size+4,0,none⟩) (Nat.le_add_right _ _) _,h.va.setOther h1 (by omega),h.vb.setOther h1 (by omega),h.r1.setOther _ _ (by simp),h.r2.setOther _ _ (by simp),h.vq.setN hn,h.vr.setOther h1 (by omega)⟩
theorem qW {Y n q r:Nat} (h:Y=n*q+r) (hr:r<n):Y / n=q∧Y % n=r:=
 (Nat.div_mod_unique (by omega)).2 ⟨by omega,hr⟩
theorem nJ (m k:Nat):m / 2^k=2*(m / 2^(k+1))+m / 2^k % 2:=by
 rw[Nat.pow_succ,←Nat.div_div_eq_div_mul];omega
theorem wa (m:Nat):m<2^dI m:=by
 unfold dI
 split
 ·omega
 ·exact Nat.lt_log2_self
/-- One round of the long division in binary digits. -/
theorem tH {m n k:Nat} (hn:0<n):(n≤m / 2^(k+1) % n+m / 2^(k+1) % n+m / 2^k % 2→m / 2^k / n=m / 2^(k+1) / n+m / 2^(k+1) / n+1∧m / 2^k % n=m / 2^(k+1) % n+m / 2^(k+1) % n+m / 2^k % 2 - n)∧
  (m / 2^(k+1) % n+m / 2^(k+1) % n+m / 2^k % 2<n→m / 2^k / n=m / 2^(k+1) / n+m / 2^(k+1) / n∧m / 2^k % n=m / 2^(k+1) % n+m / 2^(k+1) % n+m / 2^k % 2):=by
 have h1:=nJ m k
 have h2:=Nat.div_add_mod (m / 2^(k+1)) n
 have h3:=Nat.mod_lt (m / 2^(k+1)) hn
 generalize m / 2^(k+1)=X at *
 generalize m / 2^k=Y at *
 generalize hb:Y % 2=b at *
 have hb2:b<2:=by omega
 generalize X / n=q at *
 generalize X % n=r at *
 subst h2
 have e1:n*(q+q)=n*q+n*q:=Nat.mul_add n q q
 have e2:n*(q+q+1)=n*q+n*q+n:=by rw[Nat.mul_add,e1,Nat.mul_one]
 refine⟨fun h=>qW ?_ (by omega),fun h=>qW ?_ h⟩
 ·rw[h1,e2];omega
 ·rw[h1,e1];omega
/-- The two results are laid into their variables, in whatever order. -/
theorem DM.fin {w w0:World} {m n q r cq cr:Nat} {aq ar:Option Addr} (h:DM w w0 m n q r) (hq:aF w0 (w.heap.size+4) aq (nl q) cq) (nq:aD w.heap.size w0 (.agg #[.slice aq (nl q) cq]) q)
  (hr:aF w0 (w.heap.size+5) ar (nl r) cr) (nr:aD w.heap.size w0 (.agg #[.slice ar (nl r) cr]) r) (w1:World)
  (hw:w1=(w0.setCell ⟨w.heap.size+2,0,none⟩ (.slice aq (nl q) cq)).setCell ⟨w.heap.size+3,0,none⟩ (.slice ar (nl r) cr)∨w1=(w0.setCell ⟨w.heap.size+3,0,none⟩ (.slice ar (nl r) cr)).setCell ⟨w.heap.size+2,0,none⟩ (.slice aq (nl q) cq)):
  aF w1 (w.heap.size+2) aq (nl q) cq∧aF w1 (w.heap.size+3) ar (nl r) cr∧aD w.heap.size w1 (.agg #[.slice aq (nl q) cq]) q∧aD w.heap.size w1 (.agg #[.slice ar (nl r) cr]) r∧Below w.heap.size w w1:=by
 rcases hw with rfl | rfl
 ·have k2:=h.r2.setOther ⟨w.heap.size+2,0,none⟩ (.slice aq (nl q) cq) (by simp)
  exact⟨h.r1.set.setOther _ _ (by simp),k2.set,(nq.setVar h.r1).setVar k2,(nr.setVar h.r1).setVar k2,(h.below.setCell (p:=⟨w.heap.size+2,0,none⟩) (Nat.le_add_right _ _) _).setCell (p:=⟨w.heap.size+3,0,none⟩) (Nat.le_add_right _ _) _⟩
 ·have k1:=h.r1.setOther ⟨w.heap.size+3,0,none⟩ (.slice ar (nl r) cr) (by simp)
  exact⟨k1.set,h.r2.set.setOther _ _ (by simp),(nq.setVar h.r2).setVar k1,(nr.setVar h.r2).setVar k1,(h.below.setCell (p:=⟨w.heap.size+3,0,none⟩) (Nat.le_add_right _ _) _).setCell (p:=⟨w.heap.size+2,0,none⟩) (Nat.le_add_right _ _) _⟩
section
variable {Q:Exit→Act→World→Prop} {o:Oper} {a:Act} {w:World} {x y:Operand} {m n:Nat} {tt:Array TypeId}
theorem wb {i:Nat} (ho:o.op= .call {callee:=.value (.func 89),args:=#[x,y],argTypes:=tt}) (hx:Is a w x (.nat m)) (hy:Is a w y (.val (.int .i64 (i:Int)))) (hm:nl m≤1000000000000) (hi:i≤60000000000000) {b:Nat} (hb:m / 2^i % 2=b):
  Arm Tryd.prog Q o a w (.val (.int .u64 (b:Int))):=by
 subst hb
 refine gr ho (ai Tryd.func89 rfl rfl) (R:=bE w (.int .u64 ((m / 2^i % 2:Nat):Int))) ?_ (fun _ _ h=>ofV h)
 have hy':a.eval y= .int .i64 (i:Int):=hy
 simpa [hy']using c_bit _ m i w hx hm hi
end
end Go.Proofs.YtfhinmdhjlmikaaDoor
namespace Go.Proofs.YtfhinmdhjlmikaaDoor
set_option linter.unusedSimpArgs false
set_option linter.unusedVariables false
set_option maxRecDepth 100000
open Go.RowKit
theorem dQ.isI {base:Nat} {w:World} {g N:Nat} (h:dQ base w g N):bA w g N:=by
 obtain⟨a,c,h1,h2⟩:=h;exact⟨a,c,h1,h2.isN⟩
theorem lm {a b:Nat} (h:a≤b) (hb:nl b≤100000000000):nl a≤1000000000000:=Nat.le_trans (cF h) (by omega)
theorem r5 {a b d:Nat} (h:a≤2*b+1) (hb:nl b≤d):nl a≤d+1:=by
 have h1:=az.1 hb
 refine az.2 (Nat.lt_of_le_of_lt h ?_)
 rw[Nat.pow_succ]
 generalize 4294967296^d=P at *
 omega
theorem oM {a b:Nat} (h:a≤2*b+1) (hb:nl b≤100000000000):nl a≤1000000000000:=Nat.le_trans (r5 h hb) (by decide)
theorem wd {m d:Nat} (h:nl m≤d):dI m≤32*d:=by
 unfold dI
 split
 ·omega
 ·rename_i hm0
  have h2:m<2^(32*d):=by rw[Nat.pow_mul];exact az.1 h
  have:=(Nat.log2_lt hm0).2 h2
  omega
def tI (w:World) (m r k S b R1:Nat):List (Nat×Tmp×Sp):=
  [(0,25,.nat (r)),
  (1,26,.nat (r)),
  (2,27,.nat (S)),
  (3,28,.nat (m)),
  (4,29,.val (Value.int IntKind.i64 ((k:Nat)))),
  (5,30,.val (Value.int IntKind.u64 ((b:Nat)))),
  (6,31,.nat (b)),
  (7,32,.new w.heap.size (R1))]
def qX (w:World) (T0 T:Nat):List (Nat×Tmp×Sp):=
  [(0,46,.nat (T0)),
  (1,47,.nat (1)),
  (2,48,.new w.heap.size (T))]
set_option maxRecDepth 100000 in
set_option maxHeartbeats 2000000 in
theorem nK (va vb:Value) (m n:Nat) (w:World) (ha:IsN w va m) (hb:IsN w vb n) (hm:nl m≤100000000000) (hn:nl n≤100000000000) (h0:n≠0):
  Calls Tryd.prog 72 #[va,vb] w fun e w'=>fJ w (m / n) (m % n) 0 e w':=by
 obtain⟨a,ca,rfl,hca,ra⟩:=ha
 obtain⟨b,cb,rfl,hcb,rb⟩:=hb
 have hnp:=cI h0
 have hm':nl m≤1000000000000:=by omega
 have hn':nl n≤1000000000000:=by omega
 have HN0:=Lib.hid h0
 clear h0
 go_enter Tryd.func72,Tryd.ntmps72
 go_upto_region 0 with(fail)
 go_cut [2,3,4,5,6] (fun s2 s3 s4 s5 s6 wx=>s2= .pointer (some ⟨w.heap.size,0,none⟩)∧s3= .pointer (some ⟨w.heap.size+1,0,none⟩)∧s4= .pointer (some ⟨w.heap.size+2,0,none⟩)∧s5= .pointer (some ⟨w.heap.size+3,0,none⟩)∧
   bA wx w.heap.size m∧bA wx (w.heap.size+1) n∧aF wx (w.heap.size+2) none 0 0∧aF wx (w.heap.size+3) none 0 0∧Below w.heap.size w wx∧wx.heap.size=w.heap.size+4)
 case first=>
  obtain⟨k0,k1,k2⟩:=rW (L:=nl m) (c:=ca) (N:=m) (L2:=nl n) (c2:=cb) (N2:=n) ⟨a,ca,rfl,hca,ra⟩ ⟨b,cb,rfl,hcb,rb⟩
  have hz:((w.alloc (.cells #[.slice a (nl m) ca] 24)).alloc (.cells #[.slice b (nl n) cb] 24)).heap.size=w.heap.size+2:=by simp
  generalize hw2:(w.alloc (.cells #[.slice a (nl m) ca] 24)).alloc (.cells #[.slice b (nl n) cb] 24)=w2 at *
  obtain⟨j0,j1,j2⟩:=rW (w:=w2) (a:=none) (L:=0) (c:=0) (N:=0) (b:=none) (L2:=0) (c2:=0) (N2:=0) ⟨none,0,rfl,by omega,by decide,fun h=>by omega⟩ ⟨none,0,rfl,by omega,by decide,fun h=>by omega⟩
  have v1:=aF.made w2 none 0 0
  have v2:=aF.made (w2.alloc (.cells #[.slice none 0 0] 24)) none 0 0
  have v1':=v1.mono (eF _ (.cells #[.slice none 0 0] 24)) v1.lt
  rw[World.size_alloc]at v2
  rw[hz]at v1' v2
  subst hw2
  go_wp2_with fail
  go_meet
  case rel=>exact⟨rfl,rfl,rfl,rfl,fm.mono k1 j0,fm.mono k2 j0,v1',v2,k0.trans (j0.mono k0.size),by simp⟩
 case rest=>
  obtain⟨rfl,rfl,rfl,rfl,Va,Vb,vr1,vr2,hb1,hsz⟩:=hcut
  clear ra rb hca hcb
  go_upto_region 1 with(fail)
  go_cut [7,8] (fun s7 s8 wx=>s7= .pointer (some ⟨w.heap.size+4,0,none⟩)∧s8= .pointer (some ⟨w.heap.size+5,0,none⟩)∧DM w wx m n 0 0)
  case first=>
   obtain⟨k0,k1,k2⟩:=nD wc none none 0 0 0 0
   rw[hsz]at k1 k2
   have hB:=hb1.trans (k0.mono hb1.size)
   have nn:∀wz,aD w.heap.size wz (.agg #[.slice none (nl 0) 0]) 0:=fun wz=>by rw[aK];exact aD.of_zero
   have hD:DM w ((wc.alloc (.cells #[.slice none 0 0] 24)).alloc (.cells #[.slice none 0 0] 24)) m n 0 0:=
    ⟨hB,Va.mono k0,Vb.mono k0,vr1.mono k0 vr1.lt,vr2.mono k0 vr2.lt,⟨none,0,by rw[aK];exact k1,nn _⟩,⟨none,0,by rw[aK];exact k2,nn _⟩⟩
   go_wp2_with fail
   go_meet
   case rel=>exact⟨rfl,rfl,hD⟩
  case rest=>
   clear Va Vb vr1 vr2 hb1 hsz
   obtain⟨rfl,rfl,hd⟩:=hcut
   have hq0:∀K:Nat,True:=fun _=>trivial
   obtain⟨yb,db,qb,ib⟩:=hd.vb
   have eb:=qb.cell
   obtain⟨ya,da,qa,ia⟩:=hd.va
   have ea:=qa.cell
   have hne:((nl n:Nat):Int)≠0:=by omega
   go_wp2_with fail
   refine(pX _ m _ ia hm').mono ?_
   rintro e w1 ⟨rfl,bb⟩
   replace hd:=hd.mono bb
   clear ea qa ia eb qb ib bb
   have hlen:dI m≤32000000000000:=Nat.le_trans (wd hm) (by decide)
   have HL:=Lib.hid (wa m)
   generalize dI m=K at *
   go_wp2_with fail
   go_loopw [9] (fun s9 wr=>∃k:Nat,k≤K∧s9= .int .i64 ((k:Int) - 1)∧DM w wr m n (m / 2^k / n) (m / 2^k % n)) (fun s9 _=>((intOf s9)+1).toNat)
   case atStart=>exact⟨K,Nat.le_refl _,rfl,by rw[Nat.div_eq_of_lt HL.out,Nat.zero_div,Nat.zero_mod];exact hd⟩
   case round=>
    clear hd
    obtain⟨k,hk,rfl,hd⟩:=hrel
    cases k with
    | zero=>
     rw[Nat.pow_zero,Nat.div_one]at hd
     obtain⟨aq,cq,kq,nq⟩:=hd.vq
     obtain⟨ar,cr,kr,nr⟩:=hd.vr
     have c4:=kq.cell
     have c5:=kr.cell
     have f2:=hd.r1.frozen
     have f3:=hd.r2.frozen
     have c2:=hd.r1.cell
     have c3:=hd.r2.cell
     have hfin:=hd.fin kq nq kr nr
     obtain⟨q0,hq0'⟩:∃N:Nat,Hid (N=m / n):=⟨_,Lib.hid rfl⟩
     obtain⟨r0,hr0'⟩:∃N:Nat,Hid (N=m % n):=⟨_,Lib.hid rfl⟩
     rw[←hq0'.out,←hr0'.out]at hd
     rw[←hq0'.out]at kq nq
     rw[←hr0'.out]at kr nr
     clear hfin c2 c3 c4 c5 f2 f3
     go_upto_region 12 with(fail)
     refine wp_region_any (by kernel_rfl) ?_
     change wpAny _ _ _ _ _ _ _ (World.drew _)
     have bz:Below wr.heap.size wr (World.drew wr):=aJ (Below.refl _ _) 1
     have hd3:=hd.mono bz
     have kq3:=kq.mono bz kq.lt
     have kr3:=kr.mono bz kr.lt
     have nq3:=nq.mono bz
     have nr3:=nr.mono bz
     clear bz
     generalize World.drew wr=w3 at *
     have c4:=kq3.cell
     have c5:=kr3.cell
     have f2:=hd3.r1.frozen
     have c2:=hd3.r1.cell
     have kr4:=kr3.setOther ⟨w.heap.size+2,0,none⟩ (.slice aq (nl q0) cq) (by simp)
     have c5':=kr4.cell
     have r24:=hd3.r2.setOther ⟨w.heap.size+2,0,none⟩ (.slice aq (nl q0) cq) (by simp)
     have c3':=r24.cell
     have f3':=r24.frozen
     obtain⟨p1,p2,p3,p4,p5⟩:=hd3.fin kq3 nq3 kr3 nr3 _ (.inl rfl)
     have c6:=p1.cell
     have c7:=p2.cell
     refine dJ (i:=0) (t:=2) (d:=some 49) (v:=?v12_0_1) rfl rfl (by decide) rfl rfl (by kernel_rfl) (by kernel_rfl) (fun _ _ _ h=>h) ⟨by rfl,?hy12_0_1⟩ ?_
     case hy12_0_1=>(go_simp;try with_reducible rfl)
     try simp only[Act.put,List.setIfInBounds_toArray,List.set_cons_zero,List.set_cons_succ]
     refine wpAny_ready (rs:=[1,2]) (by kernel_rfl) (by simp) ?_
     refine AllReady.cons rfl (fun K hK=> ?_) ?_
     ·go_simp
      refine hK _ _ ?_
      clear hK K
      try simp only[Act.put,List.setIfInBounds_toArray,List.set_cons_zero,List.set_cons_succ]
      refine wpAny_ready (rs:=[2]) (by kernel_rfl) (by simp) ?_
      refine AllReady.cons rfl (fun K hK=> ?_) AllReady.nil
      go_simp
      refine hK _ _ ?_
      clear hK K
      try simp only[Act.put,List.setIfInBounds_toArray,List.set_cons_zero,List.set_cons_succ]
      refine wpAny_ready (rs:=[3]) (by kernel_rfl) (by simp) ?_
      refine AllReady.cons rfl (fun K hK=> ?_) AllReady.nil
      go_simp
      refine hK _ _ ?_
      clear hK K
      refine eJ (i:=4) (d:=some 6) (v:=?v12_4_5) rfl rfl (by kernel_rfl) (by kernel_rfl) (by kernel_rfl) (fun _ _ _ h=>h) (Or.inl ⟨by rfl,?hy12_4_5⟩) ?_
      case hy12_4_5=>(intro w;go_simp;try with_reducible rfl)
      try simp only[Act.put,List.setIfInBounds_toArray,List.set_cons_zero,List.set_cons_succ]
      refine wpAny_done (by kernel_rfl) ?_ _
      go_wp2
      exact bodyPost_ret (lf rfl _ _ (w.heap.size+2) (w.heap.size+3) _ _ _ rfl rfl rfl c6 c7) rfl ⟨_,_,rfl,by rw[←hq0'.out];exact p3,by rw[←hr0'.out];exact p4,p5⟩
     refine AllReady.cons rfl (fun K hK=> ?_) ?_
     ·go_simp
      refine hK _ _ ?_
      clear hK K
      try simp only[Act.put,List.setIfInBounds_toArray,List.set_cons_zero,List.set_cons_succ]
      refine wpAny_ready (rs:=[1]) (by kernel_rfl) (by simp) ?_
      refine AllReady.cons rfl (fun K hK=> ?_) AllReady.nil
      go_simp
      refine hK _ _ ?_
      clear hK K
      try simp only[Act.put,List.setIfInBounds_toArray,List.set_cons_zero,List.set_cons_succ]
      refine wpAny_ready (rs:=[3]) (by kernel_rfl) (by simp) ?_
      refine AllReady.cons rfl (fun K hK=> ?_) AllReady.nil
      go_simp
      refine hK _ _ ?_
      clear hK K
      refine eJ (i:=4) (d:=some 6) (v:=?v12_4_8) rfl rfl (by kernel_rfl) (by kernel_rfl) (by kernel_rfl) (fun _ _ _ h=>h) (Or.inl ⟨by rfl,?hy12_4_8⟩) ?_
      case hy12_4_8=>(intro w;go_simp;try with_reducible rfl)
      try simp only[Act.put,List.setIfInBounds_toArray,List.set_cons_zero,List.set_cons_succ]
      refine wpAny_done (by kernel_rfl) ?_ _
      go_wp2
      exact bodyPost_ret (lf rfl _ _ (w.heap.size+2) (w.heap.size+3) _ _ _ rfl rfl rfl c6 c7) rfl ⟨_,_,rfl,by rw[←hq0'.out];exact p3,by rw[←hr0'.out];exact p4,p5⟩
     exact AllReady.nil
    | succ k=>
     have hk60:k≤60000000000000:=by omega
     have e:(((k+1:Nat):Int) - 1)=(k:Int):=by omega
     simp only[e]
     clear e
     have hrd:=tH (m:=m) (n:=n) (k:=k) (Nat.pos_of_ne_zero HN0.out)
     have hrn:=Nat.mod_lt (m / 2^(k+1)) (Nat.pos_of_ne_zero HN0.out)
     have hqm:m / 2^(k+1) / n≤m:=Nat.le_trans (Nat.div_le_self _ _) (Nat.div_le_self _ _)
     have hqm2:m / 2^k / n≤m:=Nat.le_trans (Nat.div_le_self _ _) (Nat.div_le_self _ _)
     have HRD:=Lib.hid hrd
     clear hrd
     obtain⟨q,hq⟩:∃q:Nat,Hid (q=m / 2^(k+1) / n):=⟨_,Lib.hid rfl⟩
     obtain⟨r,hr⟩:∃r:Nat,Hid (r=m / 2^(k+1) % n):=⟨_,Lib.hid rfl⟩
     obtain⟨b,hb⟩:∃b:Nat,Hid (b=m / 2^k % 2):=⟨_,Lib.hid rfl⟩
     rw[←hq.out,←hr.out]at hd
     rw[←hq.out]at hqm
     rw[←hr.out]at hrn
     have hrd:=HRD.out
     rw[←hq.out,←hr.out,←hb.out]at hrd
     have HRD:=Lib.hid hrd
     clear hrd
     have hb2:b≤1:=by have:=hb.out;omega
     obtain⟨S,hS⟩:∃S:Nat,Hid (S=r+r):=⟨_,Lib.hid rfl⟩
     obtain⟨R1,hR1⟩:∃R1:Nat,Hid (R1=S+b):=⟨_,Lib.hid rfl⟩
     have hr':nl r≤1000000000000:=lm (Nat.le_of_lt hrn) hn
     have hq':nl q≤1000000000000:=lm hqm hm
     have hS':nl S≤1000000000000:=oM (b:=n) (by have:=hS.out;omega) hn
     have hR1':nl R1≤1000000000000:=oM (b:=n) (by have:=hS.out;have:=hR1.out;omega) hn
     have hb':nl b≤1000000000000:=nlb (by have:(2:Nat)≤4294967296^4:=(by decide);omega)
     obtain⟨x8,c8,k8,n8⟩:=hd.vr
     have f8:=k8.frozen
     go_upto_region 7 with(fail)
     refine iL Tryd.f72 7 (tI w m r k S b R1) (fun _=>false) 4 1 (by kernel_rfl) (by kernel_rfl) (by kernel_rfl) (by kernel_rfl) (el.of_all (fun _ h=>by cases h) _) ?_ ?_
     ·refine⟨fun a' w' F=>⟨_,rfl,af rfl,(aZ rfl (F.keep 8 (Value.pointer (some ⟨w.heap.size+5,0,none⟩)) (by kernel_rfl) rfl).is (hd.vr.isI.mono F.below)).b⟩,?_⟩
      refine⟨fun a' w' F=>⟨_,rfl,af rfl,(aZ rfl (F.keep 8 (Value.pointer (some ⟨w.heap.size+5,0,none⟩)) (by kernel_rfl) rfl).is (hd.vr.isI.mono F.below)).b⟩,?_⟩
      refine⟨fun a' w' F=>⟨_,rfl,af rfl,(tD rfl (F.f 0 rfl) (F.f 1 rfl) (hr') (hr') hS.out.symm).b⟩,?_⟩
      refine⟨fun a' w' F=>⟨_,rfl,af rfl,(aZ rfl (F.keep 2 (Value.pointer (some ⟨w.heap.size,0,none⟩)) (by kernel_rfl) rfl).is (hd.va.mono F.below)).b⟩,?_⟩
      refine⟨fun a' w' F=>⟨_,rfl,af rfl,(aQ (.inl rfl) (F.keep 9 (Value.int IntKind.i64 ((k:Nat))) (by kernel_rfl) rfl).is).b⟩,?_⟩
      refine⟨fun a' w' F=>⟨_,rfl,af rfl,(wb rfl (F.f 3 rfl) (F.f 4 rfl) (hm') hk60 hb.out.symm).b⟩,?_⟩
      refine⟨fun a' w' F=>⟨_,rfl,af rfl,(kV (n:=b) rfl (F.f 5 rfl) (by omega)).b⟩,?_⟩
      refine⟨fun a' w' F=>⟨_,rfl,af rfl,(jC (Nat.le_trans hd.below.size F.below.size) rfl (F.f 2 rfl) (F.f 6 rfl) (hS') (hb') hR1.out.symm).b⟩,?_⟩
      exact trivial
     intro gp wp bp G Gs
     obtain⟨v7,e7,n7⟩:∃v,gp 7=v∧aD w.heap.size wp v R1:=⟨_,rfl,G 7 32 _ rfl⟩
     obtain⟨x7,c7,rfl,hc7,hx7⟩:=n7
     have n7:aD w.heap.size wp (.agg #[.slice x7 (nl R1) c7]) R1:=⟨x7,c7,rfl,hc7,hx7⟩
     have hd1:=hd.mono bp
     have hd2:=hd1.setr n7
     have f8':=(k8.mono bp k8.lt).frozen
     have cc8:=(k8.mono bp k8.lt).cell
     clear G Gs hc7 hx7 f8
     simp only[tI]
     simp only[b5,aw,List.map_cons,List.map_nil,List.foldl_cons,List.foldl_nil,Act.put,List.setIfInBounds_toArray,List.set_cons_zero,List.set_cons_succ,e7]
     refine dR (j:=8) (by kernel_rfl) rfl rfl rfl rfl rfl rfl ⟨_,_,_,rfl⟩ (k8.mono bp k8.lt) ?_
     refine wpAny_done (by kernel_rfl) ?_ _
     generalize wp.setCell ⟨w.heap.size+5,0,none⟩ (.slice x7 (nl R1) c7)=w7 at *
     clear hd hd1 bp n7 k8 n8 f8' cc8 e7
     obtain⟨Q2,hQ2⟩:∃N:Nat,Hid (N=q+q):=⟨_,Lib.hid rfl⟩
     obtain⟨yq,dq,kq,nq⟩:=hd2.vq
     have eq4:=kq.cell
     go_wp2_with fail
     refine(jB _ _ q q _ nq.isN nq.isN hq' hq').mono ?_
     rintro e w8 ⟨v8,rfl,nn,bb⟩
     rw[←hQ2.out]at nn
     obtain⟨x8,c8,rfl,hc8,hx8⟩:=nn
     have hd3:=hd2.mono bb
     have n8:aD w.heap.size w8 (.agg #[.slice x8 (nl Q2) c8]) Q2:=aD.weaken (base:=w7.heap.size) ⟨x8,c8,rfl,hc8,hx8⟩ hd2.below.size
     have hd4:=hd3.setq n8
     obtain⟨yq3,dq3,kq3,_⟩:=hd3.vq
     have cq3:=kq3.cell
     have fq3:=kq3.frozen
     obtain⟨yr,dr,kr,nr⟩:=hd4.vr
     have er:=kr.cell
     obtain⟨yb,db',kb,ib⟩:=hd4.vb
     have eb:=kb.cell
     clear eq4 kq nq hx8 hc8
     go_wp2_with fail
     refine(jA _ _ R1 n _ nr.isN ib hR1' hn').mono ?_
     rintro e w9 ⟨rfl,bb9⟩
     have hd5:=hd4.mono bb9
     clear er eb kr nr kb ib cq3 fq3 kq3 n8 hd2 hd3 bb
     by_cases hge:n≤R1
     ·have hcm:¬cC R1 n<0:=by
       rcases Nat.lt_or_ge n R1 with h | h
       ·rw[gP h];decide
       ·rw[iB (by omega)];decide
      have hge':n≤r+r+b:=by have:=hR1.out;have:=hS.out;omega
      obtain⟨R2,hR2⟩:∃N:Nat,Hid (N=R1 - n):=⟨_,Lib.hid rfl⟩
      obtain⟨T,hT⟩:∃N:Nat,Hid (N=Q2+1):=⟨_,Lib.hid rfl⟩
      have e1:m / 2^k / n=T:=by rw[(HRD.out.1 hge').1,hT.out,hQ2.out]
      have e2:m / 2^k % n=R2:=by rw[(HRD.out.1 hge').2,hR2.out,hR1.out,hS.out]
      have E1:=Lib.hid e1
      have E2:=Lib.hid e2
      have hT0':nl Q2≤1000000000000:=by
       refine lm (b:=m) ?_ hm
       have:=hT.out
       rw[e1]at hqm2
       omega
      clear e1 e2
      obtain⟨yr,dr,kr,nr⟩:=hd5.vr
      have er:=kr.cell
      obtain⟨yb,db',kb,ib⟩:=hd5.vb
      have eb:=kb.cell
      go_wp2_with fail
      refine(rX _ _ R1 n _ nr.isN ib hR1' hn').mono ?_
      rintro e w10 ⟨v10,rfl,nn,bb10⟩
      rw[←hR2.out]at nn
      obtain⟨x10,c10,rfl,hc10,hx10⟩:=nn
      have hd6:=hd5.mono bb10
      have n10:aD w.heap.size w10 (.agg #[.slice x10 (nl R2) c10]) R2:=aD.weaken (base:=w9.heap.size) ⟨x10,c10,rfl,hc10,hx10⟩ hd5.below.size
      have hd:=hd6.setr n10
      obtain⟨yr3,dr3,kr3,_⟩:=hd6.vr
      have cr3:=kr3.cell
      have fr3:=kr3.frozen
      clear er eb kr nr kb ib hx10 hc10
      go_upto_region 11 with(fail)
      refine iL Tryd.f72 11 (qX w Q2 T) (fun _=>false) 4 1 (by kernel_rfl) (by kernel_rfl) (by kernel_rfl) (by kernel_rfl) (el.of_all (fun _ h=>by cases h) _) ?_ ?_
      ·refine⟨fun a' w' F=>⟨_,rfl,af rfl,(aZ rfl (F.keep 7 (Value.pointer (some ⟨w.heap.size+4,0,none⟩)) (by kernel_rfl) rfl).is (hd.vq.isI.mono F.below)).b⟩,?_⟩
       refine⟨fun a' w' F=>⟨_,rfl,af rfl,(kV (n:=1) rfl Is.const (by decide)).b⟩,?_⟩
       refine⟨fun a' w' F=>⟨_,rfl,af rfl,(jC (Nat.le_trans hd.below.size F.below.size) rfl (F.f 0 rfl) (F.f 1 rfl) (hT0') (nlb (by decide)) hT.out.symm).b⟩,?_⟩
       exact trivial
      intro gy wy by_ G Gs
      generalize w10.setCell ⟨w.heap.size+5,0,none⟩ (.slice x10 (nl R2) c10)=w11 at *
      obtain⟨v2,e2,n2⟩:∃v,gy 2=v∧aD w.heap.size wy v T:=⟨_,rfl,G 2 48 _ rfl⟩
      obtain⟨x2,c2,rfl,hc2,hx2⟩:=n2
      have n2:aD w.heap.size wy (.agg #[.slice x2 (nl T) c2]) T:=⟨x2,c2,rfl,hc2,hx2⟩
      have hd7:=hd.mono by_
      have hd8:=hd7.setq n2
      obtain⟨yq7,dq7,kq7,_⟩:=hd7.vq
      clear G Gs hc2 hx2
      simp only[qX]
      simp only[b5,aw,List.map_cons,List.map_nil,List.foldl_cons,List.foldl_nil,Act.put,List.setIfInBounds_toArray,List.set_cons_zero,List.set_cons_succ,e2]
      refine dR (j:=3) (by kernel_rfl) rfl rfl rfl rfl rfl rfl ⟨_,_,_,rfl⟩ kq7 ?_
      refine wpAny_done (by kernel_rfl) ?_ _
      go_wp2_with fail
      go_roundw
      case rel=>exact⟨k,by omega,by go_num,by rw[E1.out,E2.out];exact hd8⟩
      case measure=>simp[intOf]<;>omega
     ·have hlt':r+r+b<n:=by have:=hR1.out;have:=hS.out;omega
      have e1:m / 2^k / n=Q2:=by rw[(HRD.out.2 hlt').1,hQ2.out]
      have e2:m / 2^k % n=R1:=by rw[(HRD.out.2 hlt').2,hR1.out,hS.out]
      have E1:=Lib.hid e1
      have E2:=Lib.hid e2
      clear e1 e2
      rw[eH (by omega)]
      go_wp2_with fail
      go_roundw
      case rel=>exact⟨k,by omega,by go_num,by rw[E1.out,E2.out];exact hd5⟩
      case measure=>simp[intOf]<;>omega
end Go.Proofs.YtfhinmdhjlmikaaDoor
namespace Go.Proofs.YtfhinmdhjlmikaaDoor
set_option linter.unusedSimpArgs false
set_option linter.unusedVariables false
set_option maxRecDepth 100000
open Go.RowKit
structure GT (w wx:World) (x y:Nat):Prop where
 below:Below w.heap.size w wx
 res:aF wx (w.heap.size+2) none 0 0
 v1:bA wx w.heap.size x
 v2:bA wx (w.heap.size+1) y
theorem GT.mono {w wx w':World} {x y:Nat} (h:GT w wx x y) (hb:Below wx.heap.size wx w'):GT w w' x y:=
 ⟨h.below.trans (hb.mono h.below.size),h.res.mono hb h.res.lt,h.v1.mono hb,h.v2.mono hb⟩
theorem xM {w w1:World} {x0 y0 M N cx cy:Nat} {x y:Option Addr} (h:GT w w1 x0 y0) (hx:IsN w1 (.agg #[.slice x (nl M) cx]) M) (hy:IsN w1 (.agg #[.slice y (nl N) cy]) N):
  GT w ((w1.setCell ⟨w.heap.size,0,none⟩ (.slice x (nl M) cx)).setCell ⟨w.heap.size+1,0,none⟩ (.slice y (nl N) cy)) M N:=by
 obtain⟨a1,c1,b1,n1⟩:=h.v1
 obtain⟨a2,c2,b2,n2⟩:=h.v2
 have b2':=b2.setOther ⟨w.heap.size,0,none⟩ (.slice x (nl M) cx) (by simp)
 exact⟨(h.below.setCell (p:=⟨w.heap.size,0,none⟩) (Nat.le_refl _) _).setCell (p:=⟨w.heap.size+1,0,none⟩) (Nat.le_succ _) _,(h.res.setOther _ _ (by simp)).setOther _ _ (by simp),
  ⟨x,cx,b1.set.setOther _ _ (by simp),(hx.setVar b1).setVar b2'⟩,⟨y,cy,b2'.set,(hy.setVar b1).setVar b2'⟩⟩
noncomputable def xN (w:World) (g:Nat):Nat:=Classical.epsilon (fun N=>bA w g N)
theorem bA.val {w:World} {g N:Nat} (h:bA w g N):xN w g=N:=by
 obtain⟨a',c',hb',hn'⟩:=Classical.epsilon_spec (p:=fun N=>bA w g N) ⟨N,h⟩
 obtain⟨a,c,hb,hn⟩:=h
 have e:=hb'.symm.trans hb
 simp only[Option.some.injEq,Obj.cells.injEq,Array.mk.injEq,List.cons.injEq,Value.slice.injEq,and_true]at e
 rw[e.1,e.2.1,e.2.2]at hn'
 exact hn'.unique hn
set_option maxRecDepth 100000 in
set_option maxHeartbeats 4000000 in
theorem r6 (va vb:Value) (m n:Nat) (w:World) (ha:IsN w va m) (hb:IsN w vb n) (hm:nl m≤100000000000) (hn:nl n≤100000000000):
  Calls Tryd.prog 49 #[va,vb] w fun e w'=>sW w (Nat.gcd m n) e w':=by
 obtain⟨a,ca,rfl,hca,ra⟩:=ha
 obtain⟨b,cb,rfl,hcb,rb⟩:=hb
 go_enter Tryd.func49,Tryd.ntmps49
 go_upto_region 0 with(fail)
 go_cut [2,3,4] (fun s2 s3 s4 wx=>s2= .pointer (some ⟨w.heap.size,0,none⟩)∧s3= .pointer (some ⟨w.heap.size+1,0,none⟩)∧s4= .pointer (some ⟨w.heap.size+2,0,none⟩)∧GT w wx m n)
 case first=>
  obtain⟨k0,k1,k2⟩:=rW (L:=nl m) (c:=ca) (N:=m) (L2:=nl n) (c2:=cb) (N2:=n) ⟨a,ca,rfl,hca,ra⟩ ⟨b,cb,rfl,hcb,rb⟩
  have k3:=eF ((w.alloc (.cells #[.slice a (nl m) ca] 24)).alloc (.cells #[.slice b (nl n) cb] 24)) (.cells #[.slice none 0 0] 24)
  have k4:=aF.made ((w.alloc (.cells #[.slice a (nl m) ca] 24)).alloc (.cells #[.slice b (nl n) cb] 24)) none 0 0
  rw[World.size_alloc,World.size_alloc]at k4
  have hT:GT w _ m n:=⟨k0.trans (k3.mono k0.size),k4,fm.mono k1 k3,fm.mono k2 k3⟩
  go_wp2_with fail
  go_meet
  case rel=>exact⟨rfl,rfl,rfl,hT⟩
 case rest=>
  obtain⟨rfl,rfl,rfl,hT⟩:=hcut
  clear ra rb hca hcb
  go_wp2_with fail
  go_loopw [] (fun wr=>∃x y:Nat,Hid (Nat.gcd x y=Nat.gcd m n)∧nl x≤100000000000∧nl y≤100000000000∧GT w wr x y) (fun wr=>xN wr (w.heap.size+1))
  case atStart=>exact⟨m,n,Lib.hid rfl,hm,hn,hT⟩
  case round=>
   clear hT
   obtain⟨x,y,HXY,hx,hy,hs⟩:=hrel
   obtain⟨ax,cx,vx,nx⟩:=hs.v1
   obtain⟨ay,cy,vy,ny⟩:=hs.v2
   have c5:=vx.cell
   have c6:=vy.cell
   have cr:=hs.res.cell
   have fr:=hs.res.frozen
   by_cases hy0:y=0
   ·subst hy0
    rw[aK]at c6
    have hx0:x=Nat.gcd m n:=by have:=HXY.out;rwa [Nat.gcd_zero_right]at this
    have HX0:=Lib.hid hx0
    clear hx0
    have hfin:=nx.setVar (u:=.slice ax (nl x) cx) hs.res
    have hcell:=(hs.res.set (a':=ax) (L':=nl x) (c':=cx)).cell
    have hbel:=hs.below.setCell (p:=⟨w.heap.size+2,0,none⟩) (Nat.le_add_right _ _) (.slice ax (nl x) cx)
    go_wp2
    exact bodyPost_ret (dn rfl _ _ (w.heap.size+2) _ rfl hcell) rfl ⟨_,rfl,by rw[←HX0.out];exact hfin,hbel⟩
   ·have hny:=cI hy0
    have HY0:=Lib.hid hy0
    clear hy0
    go_wp2_with fail
    refine(nK _ _ x y _ nx ny hx hy HY0.out).mono ?_
    rintro e w1 ⟨vq,vr,rfl,nq,nr,hb1⟩
    obtain⟨R0,hR0⟩:∃N:Nat,Hid (N=x % y):=⟨_,Lib.hid rfl⟩
    obtain⟨Q0,hQ0⟩:∃N:Nat,Hid (N=x / y):=⟨_,Lib.hid rfl⟩
    rw[←hR0.out]at nr
    rw[←hQ0.out]at nq
    obtain⟨aq,cq,rfl,hcq,hxq⟩:=nq
    obtain⟨ar,cr',rfl,hcr,hxr⟩:=nr
    obtain⟨k0,k1,k2⟩:=nD w1 aq ar (nl Q0) cq (nl R0) cr'
    have nr:IsN w1 (.agg #[.slice ar (nl R0) cr']) R0:=aD.isN ⟨ar,cr',rfl,hcr,hxr⟩
    have hb2:=hb1.trans (k0.mono hb1.size)
    go_upto_region 3 with(fail)
    have k3:=aJ (Below.refl ((w1.alloc (.cells #[.slice aq (nl Q0) cq] 24)).alloc (.cells #[.slice ar (nl R0) cr'] 24)).heap.size ((w1.alloc (.cells #[.slice aq (nl Q0) cq] 24)).alloc (.cells #[.slice ar (nl R0) cr'] 24))) 1
    refine wp_region_any (by kernel_rfl) ?_
    change wpAny _ _ _ _ _ _ _ (World.drew _)
    have hs3:=hs.mono (hb2.trans (k3.mono hb2.size))
    have nr3:=nr.mono (k0.trans (k3.mono k0.size))
    have ny3:=ny.mono (hb2.trans (k3.mono hb2.size))
    have v8:aF (World.drewN _ 1) (w1.heap.size+1) ar (nl R0) cr':=k2.mono k3 k2.lt
    have vy3:=vy.mono (hb2.trans (k3.mono hb2.size)) vy.lt
    have vx3:=vx.mono (hb2.trans (k3.mono hb2.size)) vx.lt
    have hl8:w1.heap.size+1≠w.heap.size:=by have:=vx.lt;have:=hb1.size;omega
    have hmod:=Nat.mod_lt x (Nat.pos_of_ne_zero HY0.out)
    rw[←hR0.out]at hmod
    have hgc:Nat.gcd y R0=Nat.gcd m n:=by rw[hR0.out,←HXY.out,Nat.gcd_comm x y,Nat.gcd_rec y x,Nat.gcd_comm]
    have HGC:=Lib.hid hgc
    have hnr:nl R0≤100000000000:=Nat.le_trans (cF (Nat.le_of_lt hmod)) hy
    clear hgc c5 c6 cr fr k0 k1 k2 k3 hb2 hxq hxr
    change GT w (World.drew _) x y at hs3
    change IsN (World.drew _) _ _ at nr3
    change IsN (World.drew _) _ _ at ny3
    change aF (World.drew _) _ _ _ _ at v8
    change aF (World.drew _) _ _ _ _ at vy3
    change aF (World.drew _) _ _ _ _ at vx3
    generalize World.drew _=w3 at *
    have hT':=xM hs3 ny3 nr3
    have v8':=v8.setOther ⟨w.heap.size,0,none⟩ (.slice ay (nl y) cy) (fun e=>hl8 e.symm)
    have vy3':=vy3.setOther ⟨w.heap.size,0,none⟩ (.slice ay (nl y) cy) (by simp)
    have hsv:=hs.v2.val
    have htv:=hT'.v2.val
    have c6:=vy3.cell
    have c8:=v8.cell
    have f5:=vx3.frozen
    have c5:=vx3.cell
    have c6':=vy3'.cell
    have f6':=vy3'.frozen
    have c8':=v8'.cell
    refine dJ (i:=0) (t:=2) (d:=some 19) (v:=?v3_0_1) rfl rfl (by decide) rfl rfl (by kernel_rfl) (by kernel_rfl) (fun _ _ _ h=>h) ⟨by rfl,?hy3_0_1⟩ ?_
    case hy3_0_1=>(go_simp;try with_reducible rfl)
    try simp only[Act.put,List.setIfInBounds_toArray,List.set_cons_zero,List.set_cons_succ]
    refine wpAny_ready (rs:=[1,2]) (by kernel_rfl) (by simp) ?_
    refine AllReady.cons rfl (fun K hK=> ?_) ?_
    ·go_simp
     refine hK _ _ ?_
     clear hK K
     try simp only[Act.put,List.setIfInBounds_toArray,List.set_cons_zero,List.set_cons_succ]
     refine wpAny_ready (rs:=[2]) (by kernel_rfl) (by simp) ?_
     refine AllReady.cons rfl (fun K hK=> ?_) AllReady.nil
     go_simp
     refine hK _ _ ?_
     clear hK K
     try simp only[Act.put,List.setIfInBounds_toArray,List.set_cons_zero,List.set_cons_succ]
     refine wpAny_ready (rs:=[3]) (by kernel_rfl) (by simp) ?_
     refine AllReady.cons rfl (fun K hK=> ?_) AllReady.nil
     go_simp
     refine hK _ _ ?_
     clear hK K
     try simp only[Act.put,List.setIfInBounds_toArray,List.set_cons_zero,List.set_cons_succ]
     refine wpAny_done (by kernel_rfl) ?_ _
     go_wp2_with fail
     go_roundw
     case rel=>exact⟨y,R0,HGC,hy,hnr,hT'⟩
     case measure=>rw[hsv,htv];exact hmod
    refine AllReady.cons rfl (fun K hK=> ?_) ?_
    ·go_simp
     refine hK _ _ ?_
     clear hK K
     try simp only[Act.put,List.setIfInBounds_toArray,List.set_cons_zero,List.set_cons_succ]
     refine wpAny_ready (rs:=[1]) (by kernel_rfl) (by simp) ?_
     refine AllReady.cons rfl (fun K hK=> ?_) AllReady.nil
     go_simp
     refine hK _ _ ?_
     clear hK K
     try simp only[Act.put,List.setIfInBounds_toArray,List.set_cons_zero,List.set_cons_succ]
     refine wpAny_ready (rs:=[3]) (by kernel_rfl) (by simp) ?_
     refine AllReady.cons rfl (fun K hK=> ?_) AllReady.nil
     go_simp
     refine hK _ _ ?_
     clear hK K
     try simp only[Act.put,List.setIfInBounds_toArray,List.set_cons_zero,List.set_cons_succ]
     refine wpAny_done (by kernel_rfl) ?_ _
     go_wp2_with fail
     go_roundw
     case rel=>exact⟨y,R0,HGC,hy,hnr,hT'⟩
     case measure=>rw[hsv,htv];exact hmod
    exact AllReady.nil
end Go.Proofs.YtfhinmdhjlmikaaDoor
namespace Go.Proofs.YtfhinmdhjlmikaaDoor
set_option linter.unusedSimpArgs false
set_option linter.unusedVariables false
set_option maxRecDepth 100000
open Go.RowKit
section
variable {Q:Exit→Act→World→Prop} {o:Oper} {a:Act} {w:World} {x y:Operand} {m n:Nat} {tt:Array TypeId}
end
theorem IsN.shape {w:World} {v:Value} {N:Nat} (h:IsN w v N):∃x c,v= .agg #[.slice x (nl N) c]:=by
 obtain⟨x,c,rfl,_⟩:=h;exact⟨x,c,rfl⟩
/-- A new variable is written: it holds N, the others what they held. -/
theorem bA.put {w:World} {g N c:Nat} {x:Option Addr} (hv:aF w g none 0 0) (hn:IsN w (.agg #[.slice x (nl N) c]) N):bA (w.setCell ⟨g,0,none⟩ (.slice x (nl N) c)) g N:=
 ⟨x,c,hv.set,hn.setVar hv⟩
end Go.Proofs.YtfhinmdhjlmikaaDoor
