/- The reference's Parse of vectors. What vector.Format does. awake of the laws of vectors. Vectors and their texts: plain facts. Which poses are valid, as they come in. -/
import Derived.Test.YtfhinmdhjlmikaaDoorP14
namespace Go.Proofs.YtfhinmdhjlmikaaDoor
set_option linter.unusedSimpArgs false
set_option linter.unusedVariables false
set_option maxRecDepth 100000
open Go.RowKit
def rvX (x y z:Fq):List Fq:=[x,y,z]
def rvA:MS:=qq 97 [(0,.v (.one (.ref 9))),(2,.v (.one (.ptr 0 0))),(3,.v (.one (.i .i64 0))),(4,.v (.one (.sl0))),(5,.v (.one (.ref 10)))] [(28,[some (.b false),some (.sl0),some (.sl0),some (.b false),some (.sl0),some (.sl0),some (.b false),some (.sl0),some (.sl0)])]
def rvB:MS:=qq 97 [(0,.v (.one (.ref 9))),(2,.v (.one (.ptr 0 0))),(3,.v (.one (.i .i64 0))),(4,.v (.one (.own 0 11))),(5,.v (.one (.ref 10)))] [(28,[some (.b false),some (.sl0),some (.sl0),some (.b false),some (.sl0),some (.sl0),some (.b false),some (.sl0),some (.sl0)])]
def rv0:MS:=qq 97 [(0,.v (.one (.ref 9))),(2,.v (.one (.ptr 0 0))),(3,.v (.one (.i .i64 0))),(4,.v (.one (.sl0))),(5,.v (.one (.i .i64 0)))] [(28,[some (.b false),some (.sl0),some (.sl0),some (.b false),some (.sl0),some (.sl0),some (.b false),some (.sl0),some (.sl0)])]
def jZ:MS:=qq 97 [(0,.v (.one (.ref 9))),(2,.v (.one (.ptr 0 0))),(3,.v (.one (.i .i64 0))),(4,.v (.one (.sl0)))] [(28,[some (.b false),some (.sl0),some (.sl0),some (.b false),some (.sl0),some (.sl0),some (.b false),some (.sl0),some (.sl0)])]
def d6:MS:=qq 97 [(0,.v (.one (.ref 9))),(2,.v (.one (.ptr 0 0))),(3,.v (.one (.i .i64 0))),(4,.v (.one (.own 0 10)))] [(28,[some (.b false),some (.sl0),some (.sl0),some (.b false),some (.sl0),some (.sl0),some (.b false),some (.sl0),some (.sl0)])]
theorem wU {w:World} (s:ByteArray) (x y z:Fq) (rest:List Vp) (hs:s.size≤4294967280) (hn:∀i,i<s.size→by' s i≠32):
  LOb.Ok Tryd.prog (frs (rvX x y z)++(([.val (.string s)]:List Vp)++rest)) (Ent.of w) 97 ⟨aO Tryd.f10 0,rv0,.ext 0,jZ⟩:=by
 refine eT s.size (fun k=>frs (rvX x y z)++(([.val (.string s)]:List Vp)++(([.val (.int .i64 ((k:Nat):Int))]:List Vp)))) (fun _=>rvA) ?_ ?_ ?_ (by decide) (Nat.zero_le _)
 ·intro a_ w_ h_
  exact MSt.conv (N:=10) (σ:=[(10,.i .i64 0)]) (cmP (by kernel_rfl)) (aU (sgi (n:=10) (u:=0) (v:=((0:Nat):Int)) rfl (aW (c:=0)) (by omega)) bV) (by kernel_rfl) h_ (Nat.zero_le _)
 ·intro k hk
  have hb:=hn k hk
  refine eC (N:=11) (ρx:=frs (rvX x y z)++(([.val (.string s)]:List Vp)++(([.val (.int .i64 ((k:Nat):Int))]:List Vp)++(([.val (.int .i64 ((s.size:Nat):Int)),.val (.int .u8 ((by' s k:Nat):Int)),.val (.int .i64 (((k:Nat):Int)+1))]:List Vp))))) (cmX (by kernel_rfl)) (by kernel_rfl) (Nat.zero_le _) ?_
  exact bP (N:=10) (σ:=[(10,.ref 13)]) (lo:=[]) (n:=300) (ag)
   (ac (aB (n:=9) (m:=11) (t:=9) (by kernel_rfl) rfl rfl) (ac (aL (t:=3) (aG (n:=10) rfl) (aG (n:=11) rfl) (eA (by omega))) (ac (bT (n:=9) (k:=10) (m:=12) (u:=((k:Nat):Int)) (b:=by' s k) (t:=9) (by kernel_rfl) rfl rfl rfl (by omega) (by omega) rfl) (ac (aL (t:=5) (aG (n:=12) rfl) (aW (c:=32)) (gO (by omega))) (ac (fi (m:=13) (t:=3) (aG (n:=10) rfl) (aW (c:=1)) rfl rfl (by omega) (by omega)) (ah))))))
   (by kernel_rfl) (obs:=[]) (by kernel_rfl) aI (cmP (by kernel_rfl)) (aU (sgi (n:=10) (u:=(((k:Nat):Int)+1)) (v:=((k+1:Nat):Int)) rfl (aG (n:=13) rfl) (by omega)) bV) (Nat.zero_le _)
 ·refine eC (N:=11) (ρx:=frs (rvX x y z)++(([.val (.string s)]:List Vp)++(([.val (.int .i64 ((s.size:Nat):Int))]:List Vp)++(([]:List Vp))))) (cmX (by kernel_rfl)) (by kernel_rfl) (Nat.zero_le _) ?_
  exact bP (N:=10) (σ:=[]) (lo:=[]) (n:=300) (ag)
   (ac (aB (n:=9) (m:=10) (t:=9) (by kernel_rfl) rfl rfl) (ac (aL (t:=3) (aG (n:=10) rfl) (aG (n:=10) rfl) (cA (by omega))) (ah)))
   (by kernel_rfl) (obs:=[]) (by kernel_rfl) aI (cmP (by kernel_rfl)) bV (Nat.zero_le _)
theorem pC {w:World} (s:ByteArray) (x y z:Fq) (rest:List Vp) (hs:s.size≤4294967280) (p:Nat) (hp:p<s.size) (hpb:by' s p=32) (hno:∀i,i<p→by' s i≠32):
  LOb.Ok Tryd.prog (frs (rvX x y z)++(([.val (.string s)]:List Vp)++(Vp.ownr bD 1 (spL s s.size).length (cE (spL s s.size))::rest))) (Ent.of w) 97 ⟨aO Tryd.f10 0,rv0,.ext 0,d6⟩:=by
 refine ol s.size p (fun k=>frs (rvX x y z)++(([.val (.string s)]:List Vp)++(([.val (.int .i64 ((k:Nat):Int))]:List Vp)))) (fun k=>frs (rvX x y z)++(([.val (.string s)]:List Vp)++(([.val (.int .i64 ((k:Nat):Int)),.ownr bD 1 (spL s k).length (cE (spL s k))]:List Vp)))) rvA rvB hp ?_ ?_ ?_ ?_ ?_ (by decide) (Nat.zero_le _)
 ·intro a_ w_ h_
  exact MSt.conv (N:=10) (σ:=[(10,.i .i64 0)]) (cmP (by kernel_rfl)) (aU (sgi (n:=10) (u:=0) (v:=((0:Nat):Int)) rfl (aW (c:=0)) (by omega)) bV) (by kernel_rfl) h_ (Nat.zero_le _)
 ·intro k hk
  have hb:=hno k hk
  refine eC (N:=11) (ρx:=frs (rvX x y z)++(([.val (.string s)]:List Vp)++(([.val (.int .i64 ((k:Nat):Int))]:List Vp)++(([.val (.int .i64 ((s.size:Nat):Int)),.val (.int .u8 ((by' s k:Nat):Int)),.val (.int .i64 (((k:Nat):Int)+1))]:List Vp))))) (cmX (by kernel_rfl)) (by kernel_rfl) (Nat.zero_le _) ?_
  exact bP (N:=10) (σ:=[(10,.ref 13)]) (lo:=[]) (n:=300) (ag)
   (ac (aB (n:=9) (m:=11) (t:=9) (by kernel_rfl) rfl rfl) (ac (aL (t:=3) (aG (n:=10) rfl) (aG (n:=11) rfl) (eA (by omega))) (ac (bT (n:=9) (k:=10) (m:=12) (u:=((k:Nat):Int)) (b:=by' s k) (t:=9) (by kernel_rfl) rfl rfl rfl (by omega) (by omega) rfl) (ac (aL (t:=5) (aG (n:=12) rfl) (aW (c:=32)) (gO (by omega))) (ac (fi (m:=13) (t:=3) (aG (n:=10) rfl) (aW (c:=1)) rfl rfl (by omega) (by omega)) (ah))))))
   (by kernel_rfl) (obs:=[]) (by kernel_rfl) aI (cmP (by kernel_rfl)) (aU (sgi (n:=10) (u:=(((k:Nat):Int)+1)) (v:=((k+1:Nat):Int)) rfl (aG (n:=13) rfl) (by omega)) bV) (Nat.zero_le _)
 ·have hb:=hpb
  have hn:=hno
  refine eC (N:=11) (ρx:=frs (rvX x y z)++(([.val (.string s)]:List Vp)++(([.val (.int .i64 ((p:Nat):Int))]:List Vp)++(([.val (.int .i64 ((s.size:Nat):Int)),.val (.int .u8 ((by' s p:Nat):Int)),.row bD 1 [.val (.int .i64 ((p:Nat):Int))],.ownr bD 1 ([]++ [((p:Nat):Int)]).length (cE ([]++ [((p:Nat):Int)])),.val (.int .i64 (((p:Nat):Int)+1))]:List Vp))))) (cmX (by kernel_rfl)) (by kernel_rfl) (Nat.zero_le _) ?_
  exact bP (N:=10) (σ:=[(10,.ref 15),(11,.own 0 14)]) (lo:=[]) (n:=300) (ag)
   (ac (aB (n:=9) (m:=11) (t:=9) (by kernel_rfl) rfl rfl) (ac (aL (t:=3) (aG (n:=10) rfl) (aG (n:=11) rfl) (eA (by omega))) (ac (bT (n:=9) (k:=10) (m:=12) (u:=((p:Nat):Int)) (b:=by' s p) (t:=9) (by kernel_rfl) rfl rfl rfl (by omega) (by omega) rfl) (ac (aL (t:=5) (aG (n:=12) rfl) (aW (c:=32)) (pB (by omega))) (ac (xy (n:=10) (m:=13) (u:=((p:Nat):Int)) rfl rfl) (ac (vC (j:=0) (r:=13) (m:=14) (L:=([]:List Int)) (u:=((p:Nat):Int)) (l:=.sl0) (.inl ⟨rfl,rfl,rfl⟩) rfl rfl (by have:=oh s p;(try simp only[List.length_nil]);omega)) (ac (fi (m:=15) (t:=3) (aG (n:=10) rfl) (aW (c:=1)) rfl rfl (by omega) (by omega)) (ah))))))))
   (by kernel_rfl) (obs:=[]) (by kernel_rfl) aI (cmP (by kernel_rfl)) (aU (sgi (n:=10) (u:=(((p:Nat):Int)+1)) (v:=((p+1:Nat):Int)) rfl (aG (n:=15) rfl) (by omega)) (aU (sgI (n:=11) (m:=14) (k:=0) rfl rfl (by have q:=xx hb;rw[qD hn]at q;exact q)) bV)) (Nat.zero_le _)
 ·intro k hk0 hk
  by_cases hb:by' s k=32
  ·refine eC (N:=12) (ρx:=frs (rvX x y z)++(([.val (.string s)]:List Vp)++(([.val (.int .i64 ((k:Nat):Int)),.ownr bD 1 (spL s k).length (cE (spL s k))]:List Vp)++(([.val (.int .i64 ((s.size:Nat):Int)),.val (.int .u8 ((by' s k:Nat):Int)),.row bD 1 [.val (.int .i64 ((k:Nat):Int))],.ownr bD 1 ((spL s k)++ [((k:Nat):Int)]).length (cE ((spL s k)++ [((k:Nat):Int)])),.val (.int .i64 (((k:Nat):Int)+1))]:List Vp))))) (cmX (by kernel_rfl)) (by kernel_rfl) (Nat.zero_le _) ?_
   exact bP (N:=10) (σ:=[(10,.ref 16),(11,.own 0 15)]) (lo:=[]) (n:=300) (ag)
    (ac (aB (n:=9) (m:=12) (t:=9) (by kernel_rfl) rfl rfl) (ac (aL (t:=3) (aG (n:=10) rfl) (aG (n:=12) rfl) (eA (by omega))) (ac (bT (n:=9) (k:=10) (m:=13) (u:=((k:Nat):Int)) (b:=by' s k) (t:=9) (by kernel_rfl) rfl rfl rfl (by omega) (by omega) rfl) (ac (aL (t:=5) (aG (n:=13) rfl) (aW (c:=32)) (pB (by omega))) (ac (xy (n:=10) (m:=14) (u:=((k:Nat):Int)) rfl rfl) (ac (vC (j:=0) (r:=14) (m:=15) (L:=(spL s k)) (u:=((k:Nat):Int)) (l:=.own 0 11) (.inr ⟨11,rfl,rfl⟩) rfl rfl (by have:=oh s k;(try simp only[List.length_nil]);omega)) (ac (fi (m:=16) (t:=3) (aG (n:=10) rfl) (aW (c:=1)) rfl rfl (by omega) (by omega)) (ah))))))))
    (by kernel_rfl) (obs:=[]) (by kernel_rfl) aI (cmP (by kernel_rfl)) (aU (sgi (n:=10) (u:=(((k:Nat):Int)+1)) (v:=((k+1:Nat):Int)) rfl (aG (n:=16) rfl) (by omega)) (aU (sgI (n:=11) (m:=15) (k:=0) rfl rfl (xx hb)) bV)) (Nat.zero_le _)
  ·refine eC (N:=12) (ρx:=frs (rvX x y z)++(([.val (.string s)]:List Vp)++(([.val (.int .i64 ((k:Nat):Int)),.ownr bD 1 (spL s k).length (cE (spL s k))]:List Vp)++(([.val (.int .i64 ((s.size:Nat):Int)),.val (.int .u8 ((by' s k:Nat):Int)),.val (.int .i64 (((k:Nat):Int)+1))]:List Vp))))) (cmX (by kernel_rfl)) (by kernel_rfl) (Nat.zero_le _) ?_
   exact bP (N:=10) (σ:=[(10,.ref 14),(11,.own 0 11)]) (lo:=[]) (n:=300) (ag)
    (ac (aB (n:=9) (m:=12) (t:=9) (by kernel_rfl) rfl rfl) (ac (aL (t:=3) (aG (n:=10) rfl) (aG (n:=12) rfl) (eA (by omega))) (ac (bT (n:=9) (k:=10) (m:=13) (u:=((k:Nat):Int)) (b:=by' s k) (t:=9) (by kernel_rfl) rfl rfl rfl (by omega) (by omega) rfl) (ac (aL (t:=5) (aG (n:=13) rfl) (aW (c:=32)) (gO (by omega))) (ac (fi (m:=14) (t:=3) (aG (n:=10) rfl) (aW (c:=1)) rfl rfl (by omega) (by omega)) (ah))))))
    (by kernel_rfl) (obs:=[]) (by kernel_rfl) aI (cmP (by kernel_rfl)) (aU (sgi (n:=10) (u:=(((k:Nat):Int)+1)) (v:=((k+1:Nat):Int)) rfl (aG (n:=14) rfl) (by omega)) (aU (sgI (n:=11) (m:=11) (k:=0) rfl rfl (spL_n hb)) bV)) (Nat.zero_le _)
 ·refine eC (N:=12) (ρx:=frs (rvX x y z)++(([.val (.string s)]:List Vp)++(([.val (.int .i64 ((s.size:Nat):Int)),.ownr bD 1 (spL s s.size).length (cE (spL s s.size))]:List Vp)++(([]:List Vp))))) (cmX (by kernel_rfl)) (by kernel_rfl) (Nat.zero_le _) ?_
  exact bP (N:=10) (σ:=[(10,.own 0 11)]) (lo:=[]) (n:=300) (ag)
   (ac (aB (n:=9) (m:=10) (t:=9) (by kernel_rfl) rfl rfl) (ac (aL (t:=3) (aG (n:=10) rfl) (aG (n:=10) rfl) (cA (by omega))) (ah)))
   (by kernel_rfl) (obs:=[]) (by kernel_rfl) aI (cmP (by kernel_rfl)) (aU (sgI (n:=10) (m:=11) (k:=0) rfl rfl rfl) bV) (Nat.zero_le _)
theorem yP {w:World} (s:ByteArray) (x y z:Fq) (hs:s.size≤4294967280) (hn:∀i,i<s.size→by' s i≠32) (h1:s.size<2):Calls Tryd.prog 10 #[.string s] w fun e w'=>bU w .zero 2 e w':=by
 have hL0:LOb.Ok Tryd.prog (frs (rvX x y z)++(([.val (.string s)]:List Vp)++(([.val (.int .i64 ((s.size:Nat):Int))]:List Vp)))) (Ent.of w) 97 ⟨aO Tryd.f10 0,rv0,.ext 0,jZ⟩:=wU s x y z _ hs hn
 refine(ak (ρ:=frs (rvX x y z)++(([.val (.string s)]:List Vp)++(([.val (.int .i64 ((s.size:Nat):Int))]:List Vp)))) (w:=w) (fuel:=300) (args:=[.one (.ref 9)]) (vs:=[.string s]) (r:=.tup [.agg [.b false,.sl0,.sl0,.b false,.sl0,.sl0,.b false,.sl0,.sl0],.one (.i .i64 2)]) (lo:=[some (rv0,.ext 0,jZ)]) (obs:=[⟨aO Tryd.f10 0,rv0,.ext 0,jZ⟩])
  (ag)
  (ac (aB (n:=9) (m:=10) (t:=9) (by kernel_rfl) rfl rfl) (ac (aL (t:=3) (aG (n:=10) rfl) (aW (c:=2)) (eA (by omega))) (ah))) (by kernel_rfl) Tryd.func10 (by kernel_rfl) (aX hL0 aI) ⟨ls (n:=9) rfl noB w,trivial⟩).mono ?_
 rintro e w' ⟨v,rfl,⟨vs,rfl,h1⟩,h2⟩
 match vs,h1 with
 | [r,cv],h1=>
  obtain⟨⟨cs,rfl,k1⟩,k2,_⟩:=h1
  have k2:cv=_:=k2
  subst k2
  exact⟨_,rfl,⟨_,rfl,bm (n:=3) k1⟩,h2⟩
theorem yQ {w:World} (s:ByteArray) (x y z:Fq) (hs:s.size≤4294967280) (hn:∀i,i<s.size→by' s i≠32) (h1:2≤s.size) (h2:by' s 0≠40):Calls Tryd.prog 10 #[.string s] w fun e w'=>bU w .zero 2 e w':=by
 have hL0:LOb.Ok Tryd.prog (frs (rvX x y z)++(([.val (.string s)]:List Vp)++(([.val (.int .i64 ((s.size:Nat):Int)),.val (.int .u8 ((by' s 0:Nat):Int))]:List Vp)))) (Ent.of w) 97 ⟨aO Tryd.f10 0,rv0,.ext 0,jZ⟩:=wU s x y z _ hs hn
 refine(ak (ρ:=frs (rvX x y z)++(([.val (.string s)]:List Vp)++(([.val (.int .i64 ((s.size:Nat):Int)),.val (.int .u8 ((by' s 0:Nat):Int))]:List Vp)))) (w:=w) (fuel:=300) (args:=[.one (.ref 9)]) (vs:=[.string s]) (r:=.tup [.agg [.b false,.sl0,.sl0,.b false,.sl0,.sl0,.b false,.sl0,.sl0],.one (.i .i64 2)]) (lo:=[some (rv0,.ext 0,jZ)]) (obs:=[⟨aO Tryd.f10 0,rv0,.ext 0,jZ⟩])
  (ag)
  (ac (aB (n:=9) (m:=10) (t:=9) (by kernel_rfl) rfl rfl) (ac (aL (t:=3) (aG (n:=10) rfl) (aW (c:=2)) (cA (by omega))) (ac (bc (n:=9) (m:=11) (k:=0) (c:=0) (t:=9) (by kernel_rfl) rfl rfl (by omega) rfl) (ac (aL (t:=5) (aG (n:=11) rfl) (aW (c:=40)) (dY (by omega))) (ah))))) (by kernel_rfl) Tryd.func10 (by kernel_rfl) (aX hL0 aI) ⟨ls (n:=9) rfl noB w,trivial⟩).mono ?_
 rintro e w' ⟨v,rfl,⟨vs,rfl,h1⟩,h2⟩
 match vs,h1 with
 | [r,cv],h1=>
  obtain⟨⟨cs,rfl,k1⟩,k2,_⟩:=h1
  have k2:cv=_:=k2
  subst k2
  exact⟨_,rfl,⟨_,rfl,bm (n:=3) k1⟩,h2⟩
theorem yR {w:World} (s:ByteArray) (x y z:Fq) (hs:s.size≤4294967280) (hn:∀i,i<s.size→by' s i≠32) (h1:2≤s.size) (h2:by' s 0=40) (h3:by' s (s.size - 1)≠41):Calls Tryd.prog 10 #[.string s] w fun e w'=>bU w .zero 2 e w':=by
 have hL0:LOb.Ok Tryd.prog (frs (rvX x y z)++(([.val (.string s)]:List Vp)++(([.val (.int .i64 ((s.size:Nat):Int)),.val (.int .u8 ((by' s 0:Nat):Int)),.val (.int .i64 (((s.size:Nat):Int) - 1)),.val (.int .u8 ((by' s (s.size - 1):Nat):Int))]:List Vp)))) (Ent.of w) 97 ⟨aO Tryd.f10 0,rv0,.ext 0,jZ⟩:=wU s x y z _ hs hn
 refine(ak (ρ:=frs (rvX x y z)++(([.val (.string s)]:List Vp)++(([.val (.int .i64 ((s.size:Nat):Int)),.val (.int .u8 ((by' s 0:Nat):Int)),.val (.int .i64 (((s.size:Nat):Int) - 1)),.val (.int .u8 ((by' s (s.size - 1):Nat):Int))]:List Vp)))) (w:=w) (fuel:=300) (args:=[.one (.ref 9)]) (vs:=[.string s]) (r:=.tup [.agg [.b false,.sl0,.sl0,.b false,.sl0,.sl0,.b false,.sl0,.sl0],.one (.i .i64 2)]) (lo:=[some (rv0,.ext 0,jZ)]) (obs:=[⟨aO Tryd.f10 0,rv0,.ext 0,jZ⟩])
  (ag)
  (ac (aB (n:=9) (m:=10) (t:=9) (by kernel_rfl) rfl rfl) (ac (aL (t:=3) (aG (n:=10) rfl) (aW (c:=2)) (cA (by omega))) (ac (bc (n:=9) (m:=11) (k:=0) (c:=0) (t:=9) (by kernel_rfl) rfl rfl (by omega) rfl) (ac (aL (t:=5) (aG (n:=11) rfl) (aW (c:=40)) (bh (by omega))) (ac (gN (m:=12) (t:=3) (aG (n:=10) rfl) (aW (c:=1)) rfl rfl (by omega) (by omega)) (ac (bT (n:=9) (k:=12) (m:=13) (u:=(((s.size:Nat):Int) - 1)) (b:=by' s (s.size - 1)) (t:=9) (by kernel_rfl) rfl rfl rfl (by omega) (by omega) (congrArg (by' s) (by omega))) (ac (aL (t:=5) (aG (n:=13) rfl) (aW (c:=41)) (dY (by omega))) (ah)))))))) (by kernel_rfl) Tryd.func10 (by kernel_rfl) (aX hL0 aI) ⟨ls (n:=9) rfl noB w,trivial⟩).mono ?_
 rintro e w' ⟨v,rfl,⟨vs,rfl,h1⟩,h2⟩
 match vs,h1 with
 | [r,cv],h1=>
  obtain⟨⟨cs,rfl,k1⟩,k2,_⟩:=h1
  have k2:cv=_:=k2
  subst k2
  exact⟨_,rfl,⟨_,rfl,bm (n:=3) k1⟩,h2⟩
theorem yS {w:World} (s:ByteArray) (x y z:Fq) (hs:s.size≤4294967280) (hn:∀i,i<s.size→by' s i≠32) (h1:2≤s.size) (h2:by' s 0=40) (h3:by' s (s.size - 1)=41):Calls Tryd.prog 10 #[.string s] w fun e w'=>bU w .zero 2 e w':=by
 have hL0:LOb.Ok Tryd.prog (frs (rvX x y z)++(([.val (.string s)]:List Vp)++(([.val (.int .i64 ((s.size:Nat):Int)),.val (.int .u8 ((by' s 0:Nat):Int)),.val (.int .i64 (((s.size:Nat):Int) - 1)),.val (.int .u8 ((by' s (s.size - 1):Nat):Int))]:List Vp)))) (Ent.of w) 97 ⟨aO Tryd.f10 0,rv0,.ext 0,jZ⟩:=wU s x y z _ hs hn
 refine(ak (ρ:=frs (rvX x y z)++(([.val (.string s)]:List Vp)++(([.val (.int .i64 ((s.size:Nat):Int)),.val (.int .u8 ((by' s 0:Nat):Int)),.val (.int .i64 (((s.size:Nat):Int) - 1)),.val (.int .u8 ((by' s (s.size - 1):Nat):Int))]:List Vp)))) (w:=w) (fuel:=300) (args:=[.one (.ref 9)]) (vs:=[.string s]) (r:=.tup [.agg [.b false,.sl0,.sl0,.b false,.sl0,.sl0,.b false,.sl0,.sl0],.one (.i .i64 2)]) (lo:=[some (rv0,.ext 0,jZ)]) (obs:=[⟨aO Tryd.f10 0,rv0,.ext 0,jZ⟩])
  (ag)
  (ac (aB (n:=9) (m:=10) (t:=9) (by kernel_rfl) rfl rfl) (ac (aL (t:=3) (aG (n:=10) rfl) (aW (c:=2)) (cA (by omega))) (ac (bc (n:=9) (m:=11) (k:=0) (c:=0) (t:=9) (by kernel_rfl) rfl rfl (by omega) rfl) (ac (aL (t:=5) (aG (n:=11) rfl) (aW (c:=40)) (bh (by omega))) (ac (gN (m:=12) (t:=3) (aG (n:=10) rfl) (aW (c:=1)) rfl rfl (by omega) (by omega)) (ac (bT (n:=9) (k:=12) (m:=13) (u:=(((s.size:Nat):Int) - 1)) (b:=by' s (s.size - 1)) (t:=9) (by kernel_rfl) rfl rfl rfl (by omega) (by omega) (congrArg (by' s) (by omega))) (ac (aL (t:=5) (aG (n:=13) rfl) (aW (c:=41)) (bh (by omega))) (ac (yO) (ah))))))))) (by kernel_rfl) Tryd.func10 (by kernel_rfl) (aX hL0 aI) ⟨ls (n:=9) rfl noB w,trivial⟩).mono ?_
 rintro e w' ⟨v,rfl,⟨vs,rfl,h1⟩,h2⟩
 match vs,h1 with
 | [r,cv],h1=>
  obtain⟨⟨cs,rfl,k1⟩,k2,_⟩:=h1
  have k2:cv=_:=k2
  subst k2
  exact⟨_,rfl,⟨_,rfl,bm (n:=3) k1⟩,h2⟩
theorem yT {w:World} (s:ByteArray) (x y z:Fq) (hs:s.size≤4294967280) (p:Nat) (hp:p<s.size) (hpb:by' s p=32) (hno:∀i,i<p→by' s i≠32) (h1:s.size<2):Calls Tryd.prog 10 #[.string s] w fun e w'=>bU w .zero 2 e w':=by
 have hL0:LOb.Ok Tryd.prog (frs (rvX x y z)++(([.val (.string s)]:List Vp)++(([.ownr bD 1 (spL s s.size).length (cE (spL s s.size)),.val (.int .i64 ((s.size:Nat):Int))]:List Vp)))) (Ent.of w) 97 ⟨aO Tryd.f10 0,rv0,.ext 0,d6⟩:=pC s x y z _ hs p hp hpb hno
 refine(ak (ρ:=frs (rvX x y z)++(([.val (.string s)]:List Vp)++(([.ownr bD 1 (spL s s.size).length (cE (spL s s.size)),.val (.int .i64 ((s.size:Nat):Int))]:List Vp)))) (w:=w) (fuel:=300) (args:=[.one (.ref 9)]) (vs:=[.string s]) (r:=.tup [.agg [.b false,.sl0,.sl0,.b false,.sl0,.sl0,.b false,.sl0,.sl0],.one (.i .i64 2)]) (lo:=[some (rv0,.ext 0,d6)]) (obs:=[⟨aO Tryd.f10 0,rv0,.ext 0,d6⟩])
  (ag)
  (ac (aB (n:=9) (m:=11) (t:=9) (by kernel_rfl) rfl rfl) (ac (aL (t:=3) (aG (n:=11) rfl) (aW (c:=2)) (eA (by omega))) (ah))) (by kernel_rfl) Tryd.func10 (by kernel_rfl) (aX hL0 aI) ⟨ls (n:=9) rfl noB w,trivial⟩).mono ?_
 rintro e w' ⟨v,rfl,⟨vs,rfl,h1⟩,h2⟩
 match vs,h1 with
 | [r,cv],h1=>
  obtain⟨⟨cs,rfl,k1⟩,k2,_⟩:=h1
  have k2:cv=_:=k2
  subst k2
  exact⟨_,rfl,⟨_,rfl,bm (n:=3) k1⟩,h2⟩
theorem yU {w:World} (s:ByteArray) (x y z:Fq) (hs:s.size≤4294967280) (p:Nat) (hp:p<s.size) (hpb:by' s p=32) (hno:∀i,i<p→by' s i≠32) (h1:2≤s.size) (h2:by' s 0≠40):Calls Tryd.prog 10 #[.string s] w fun e w'=>bU w .zero 2 e w':=by
 have hL0:LOb.Ok Tryd.prog (frs (rvX x y z)++(([.val (.string s)]:List Vp)++(([.ownr bD 1 (spL s s.size).length (cE (spL s s.size)),.val (.int .i64 ((s.size:Nat):Int)),.val (.int .u8 ((by' s 0:Nat):Int))]:List Vp)))) (Ent.of w) 97 ⟨aO Tryd.f10 0,rv0,.ext 0,d6⟩:=pC s x y z _ hs p hp hpb hno
 refine(ak (ρ:=frs (rvX x y z)++(([.val (.string s)]:List Vp)++(([.ownr bD 1 (spL s s.size).length (cE (spL s s.size)),.val (.int .i64 ((s.size:Nat):Int)),.val (.int .u8 ((by' s 0:Nat):Int))]:List Vp)))) (w:=w) (fuel:=300) (args:=[.one (.ref 9)]) (vs:=[.string s]) (r:=.tup [.agg [.b false,.sl0,.sl0,.b false,.sl0,.sl0,.b false,.sl0,.sl0],.one (.i .i64 2)]) (lo:=[some (rv0,.ext 0,d6)]) (obs:=[⟨aO Tryd.f10 0,rv0,.ext 0,d6⟩])
  (ag)
  (ac (aB (n:=9) (m:=11) (t:=9) (by kernel_rfl) rfl rfl) (ac (aL (t:=3) (aG (n:=11) rfl) (aW (c:=2)) (cA (by omega))) (ac (bc (n:=9) (m:=12) (k:=0) (c:=0) (t:=9) (by kernel_rfl) rfl rfl (by omega) rfl) (ac (aL (t:=5) (aG (n:=12) rfl) (aW (c:=40)) (dY (by omega))) (ah))))) (by kernel_rfl) Tryd.func10 (by kernel_rfl) (aX hL0 aI) ⟨ls (n:=9) rfl noB w,trivial⟩).mono ?_
 rintro e w' ⟨v,rfl,⟨vs,rfl,h1⟩,h2⟩
 match vs,h1 with
 | [r,cv],h1=>
  obtain⟨⟨cs,rfl,k1⟩,k2,_⟩:=h1
  have k2:cv=_:=k2
  subst k2
  exact⟨_,rfl,⟨_,rfl,bm (n:=3) k1⟩,h2⟩
theorem yV {w:World} (s:ByteArray) (x y z:Fq) (hs:s.size≤4294967280) (p:Nat) (hp:p<s.size) (hpb:by' s p=32) (hno:∀i,i<p→by' s i≠32) (h1:2≤s.size) (h2:by' s 0=40) (h3:by' s (s.size - 1)≠41):Calls Tryd.prog 10 #[.string s] w fun e w'=>bU w .zero 2 e w':=by
 have hL0:LOb.Ok Tryd.prog (frs (rvX x y z)++(([.val (.string s)]:List Vp)++(([.ownr bD 1 (spL s s.size).length (cE (spL s s.size)),.val (.int .i64 ((s.size:Nat):Int)),.val (.int .u8 ((by' s 0:Nat):Int)),.val (.int .i64 (((s.size:Nat):Int) - 1)),.val (.int .u8 ((by' s (s.size - 1):Nat):Int))]:List Vp)))) (Ent.of w) 97 ⟨aO Tryd.f10 0,rv0,.ext 0,d6⟩:=pC s x y z _ hs p hp hpb hno
 refine(ak (ρ:=frs (rvX x y z)++(([.val (.string s)]:List Vp)++(([.ownr bD 1 (spL s s.size).length (cE (spL s s.size)),.val (.int .i64 ((s.size:Nat):Int)),.val (.int .u8 ((by' s 0:Nat):Int)),.val (.int .i64 (((s.size:Nat):Int) - 1)),.val (.int .u8 ((by' s (s.size - 1):Nat):Int))]:List Vp)))) (w:=w) (fuel:=300) (args:=[.one (.ref 9)]) (vs:=[.string s]) (r:=.tup [.agg [.b false,.sl0,.sl0,.b false,.sl0,.sl0,.b false,.sl0,.sl0],.one (.i .i64 2)]) (lo:=[some (rv0,.ext 0,d6)]) (obs:=[⟨aO Tryd.f10 0,rv0,.ext 0,d6⟩])
  (ag)
  (ac (aB (n:=9) (m:=11) (t:=9) (by kernel_rfl) rfl rfl) (ac (aL (t:=3) (aG (n:=11) rfl) (aW (c:=2)) (cA (by omega))) (ac (bc (n:=9) (m:=12) (k:=0) (c:=0) (t:=9) (by kernel_rfl) rfl rfl (by omega) rfl) (ac (aL (t:=5) (aG (n:=12) rfl) (aW (c:=40)) (bh (by omega))) (ac (gN (m:=13) (t:=3) (aG (n:=11) rfl) (aW (c:=1)) rfl rfl (by omega) (by omega)) (ac (bT (n:=9) (k:=13) (m:=14) (u:=(((s.size:Nat):Int) - 1)) (b:=by' s (s.size - 1)) (t:=9) (by kernel_rfl) rfl rfl rfl (by omega) (by omega) (congrArg (by' s) (by omega))) (ac (aL (t:=5) (aG (n:=14) rfl) (aW (c:=41)) (dY (by omega))) (ah)))))))) (by kernel_rfl) Tryd.func10 (by kernel_rfl) (aX hL0 aI) ⟨ls (n:=9) rfl noB w,trivial⟩).mono ?_
 rintro e w' ⟨v,rfl,⟨vs,rfl,h1⟩,h2⟩
 match vs,h1 with
 | [r,cv],h1=>
  obtain⟨⟨cs,rfl,k1⟩,k2,_⟩:=h1
  have k2:cv=_:=k2
  subst k2
  exact⟨_,rfl,⟨_,rfl,bm (n:=3) k1⟩,h2⟩
theorem yW {w:World} (s:ByteArray) (x y z:Fq) (hs:s.size≤4294967280) (p:Nat) (hp:p<s.size) (hpb:by' s p=32) (hno:∀i,i<p→by' s i≠32) (h1:2≤s.size) (h2:by' s 0=40) (h3:by' s (s.size - 1)=41) (h4:(spL s s.size).length≠2):Calls Tryd.prog 10 #[.string s] w fun e w'=>bU w .zero 2 e w':=by
 have hL0:LOb.Ok Tryd.prog (frs (rvX x y z)++(([.val (.string s)]:List Vp)++(([.ownr bD 1 (spL s s.size).length (cE (spL s s.size)),.val (.int .i64 ((s.size:Nat):Int)),.val (.int .u8 ((by' s 0:Nat):Int)),.val (.int .i64 (((s.size:Nat):Int) - 1)),.val (.int .u8 ((by' s (s.size - 1):Nat):Int)),.val (.int .i64 ((spL s s.size).length:Int))]:List Vp)))) (Ent.of w) 97 ⟨aO Tryd.f10 0,rv0,.ext 0,d6⟩:=pC s x y z _ hs p hp hpb hno
 refine(ak (ρ:=frs (rvX x y z)++(([.val (.string s)]:List Vp)++(([.ownr bD 1 (spL s s.size).length (cE (spL s s.size)),.val (.int .i64 ((s.size:Nat):Int)),.val (.int .u8 ((by' s 0:Nat):Int)),.val (.int .i64 (((s.size:Nat):Int) - 1)),.val (.int .u8 ((by' s (s.size - 1):Nat):Int)),.val (.int .i64 ((spL s s.size).length:Int))]:List Vp)))) (w:=w) (fuel:=300) (args:=[.one (.ref 9)]) (vs:=[.string s]) (r:=.tup [.agg [.b false,.sl0,.sl0,.b false,.sl0,.sl0,.b false,.sl0,.sl0],.one (.i .i64 2)]) (lo:=[some (rv0,.ext 0,d6)]) (obs:=[⟨aO Tryd.f10 0,rv0,.ext 0,d6⟩])
  (ag)
  (ac (aB (n:=9) (m:=11) (t:=9) (by kernel_rfl) rfl rfl) (ac (aL (t:=3) (aG (n:=11) rfl) (aW (c:=2)) (cA (by omega))) (ac (bc (n:=9) (m:=12) (k:=0) (c:=0) (t:=9) (by kernel_rfl) rfl rfl (by omega) rfl) (ac (aL (t:=5) (aG (n:=12) rfl) (aW (c:=40)) (bh (by omega))) (ac (gN (m:=13) (t:=3) (aG (n:=11) rfl) (aW (c:=1)) rfl rfl (by omega) (by omega)) (ac (bT (n:=9) (k:=13) (m:=14) (u:=(((s.size:Nat):Int) - 1)) (b:=by' s (s.size - 1)) (t:=9) (by kernel_rfl) rfl rfl rfl (by omega) (by omega) (congrArg (by' s) (by omega))) (ac (aL (t:=5) (aG (n:=14) rfl) (aW (c:=41)) (bh (by omega))) (ac (l9 (j:=0) (n:=10) (m:=15) (L:=(spL s s.size)) rfl rfl) (ac (aL (t:=3) (aG (n:=15) rfl) (aW (c:=2)) (dY (by omega))) (ah)))))))))) (by kernel_rfl) Tryd.func10 (by kernel_rfl) (aX hL0 aI) ⟨ls (n:=9) rfl noB w,trivial⟩).mono ?_
 rintro e w' ⟨v,rfl,⟨vs,rfl,h1⟩,h2⟩
 match vs,h1 with
 | [r,cv],h1=>
  obtain⟨⟨cs,rfl,k1⟩,k2,_⟩:=h1
  have k2:cv=_:=k2
  subst k2
  exact⟨_,rfl,⟨_,rfl,bm (n:=3) k1⟩,h2⟩
theorem q_rv5 {w:World} (s:ByteArray) (x y z:Fq) (i j:Nat) (c:Int) (hs:s.size≤4294967280) (h:gM s i j) (hx:FP (s.extract 1 i) x c) (h0:c≠0):Calls Tryd.prog 10 #[.string s] w fun e w'=>bU w .zero c e w':=by
 have hk:=cn h
 obtain⟨h1,h2,h3,hij,hj,ei,ej,ho⟩:=h
 have q1:=hk.1
 have q2:=hk.2.1
 have q3:=hk.2.2.1
 have hsp:spL s s.size=[((i:Nat):Int),((j:Nat):Int)]:=la hij hj ei ej ho
 have hl2:[((i:Nat):Int),((j:Nat):Int)].length=2:=rfl
 have hi:i<s.size:=by omega
 have hib:=ei
 have hno:∀m,m<i→by' s m≠32:=fun m hm e=>by rcases ho m (by omega) e with h | h<;>omega
 have hL0:LOb.Ok Tryd.prog (frs (rvX x y z)++(([.val (.string s)]:List Vp)++(([.ownr bD 1 [((i:Nat):Int),((j:Nat):Int)].length (cE [((i:Nat):Int),((j:Nat):Int)]),.val (.int .i64 ((s.size:Nat):Int)),.val (.int .u8 ((by' s 0:Nat):Int)),.val (.int .i64 (((s.size:Nat):Int) - 1)),.val (.int .u8 ((by' s (s.size - 1):Nat):Int)),.val (.int .i64 (([((i:Nat):Int),((j:Nat):Int)]).length:Int)),.plc bD [.val (.int .i64 ((i:Nat):Int))],.val (.int .i64 ((i:Nat):Int)),.val (.string (s.extract 1 i)),.val (.int .i64 c)]:List Vp)))) (Ent.of w) 97 ⟨aO Tryd.f10 0,rv0,.ext 0,d6⟩:=(by have q:=pC (w:=w) s x y z;rw[hsp]at q;exact q _ hs i hi hib hno)
 refine(ak (ρ:=frs (rvX x y z)++(([.val (.string s)]:List Vp)++(([.ownr bD 1 [((i:Nat):Int),((j:Nat):Int)].length (cE [((i:Nat):Int),((j:Nat):Int)]),.val (.int .i64 ((s.size:Nat):Int)),.val (.int .u8 ((by' s 0:Nat):Int)),.val (.int .i64 (((s.size:Nat):Int) - 1)),.val (.int .u8 ((by' s (s.size - 1):Nat):Int)),.val (.int .i64 (([((i:Nat):Int),((j:Nat):Int)]).length:Int)),.plc bD [.val (.int .i64 ((i:Nat):Int))],.val (.int .i64 ((i:Nat):Int)),.val (.string (s.extract 1 i)),.val (.int .i64 c)]:List Vp)))) (w:=w) (fuel:=300) (args:=[.one (.ref 9)]) (vs:=[.string s]) (r:=.tup [.agg [.b false,.sl0,.sl0,.b false,.sl0,.sl0,.b false,.sl0,.sl0],.one (.ref 19)]) (lo:=[some (rv0,.ext 0,d6)]) (obs:=[⟨aO Tryd.f10 0,rv0,.ext 0,d6⟩])
  (ae (dD (n:=18) (k:=0) (s:=(s.extract 1 i)) rfl rfl (lr (n:=19) rfl) hx (by rw[bd (by omega)];omega)) ag)
  (ac (aB (n:=9) (m:=11) (t:=9) (by kernel_rfl) rfl rfl) (ac (aL (t:=3) (aG (n:=11) rfl) (aW (c:=2)) (cA (by omega))) (ac (bc (n:=9) (m:=12) (k:=0) (c:=0) (t:=9) (by kernel_rfl) rfl rfl (by omega) rfl) (ac (aL (t:=5) (aG (n:=12) rfl) (aW (c:=40)) (bh (by omega))) (ac (gN (m:=13) (t:=3) (aG (n:=11) rfl) (aW (c:=1)) rfl rfl (by omega) (by omega)) (ac (bT (n:=9) (k:=13) (m:=14) (u:=(((s.size:Nat):Int) - 1)) (b:=by' s (s.size - 1)) (t:=9) (by kernel_rfl) rfl rfl rfl (by omega) (by omega) (congrArg (by' s) (by omega))) (ac (aL (t:=5) (aG (n:=14) rfl) (aW (c:=41)) (bh (by omega))) (ac (l9 (j:=0) (n:=10) (m:=15) (L:=[((i:Nat):Int),((j:Nat):Int)]) rfl rfl) (ac (aL (t:=3) (aG (n:=15) rfl) (aW (c:=2)) (bh (by omega))) (ac (ma (j:=0) (n:=10) (m:=16) (k:=0) (L:=[((i:Nat):Int),((j:Nat):Int)]) (u:=((i:Nat):Int)) rfl rfl rfl) (ac (mb (j:=0) (n:=16) (m:=17) (u:=((i:Nat):Int)) rfl rfl) (ac (ji (n:=9) (m:=18) (u:=1) (v:=((i:Nat):Int)) (z:=s.extract 1 i) (t:=9) (by kernel_rfl) rfl (aW (c:=1)) (aG (n:=17) rfl) rfl (by omega) (by omega) (by omega) (congr (congrArg s.extract (by omega)) (by omega))) (ac (aL (t:=33) (aG (n:=19) rfl) (aW (c:=0)) (dY (by omega))) (ah)))))))))))))) (by kernel_rfl) Tryd.func10 (by kernel_rfl) (aX hL0 aI) ⟨ls (n:=9) rfl noB w,trivial⟩).mono ?_
 rintro e w' ⟨v,rfl,⟨vs,rfl,h1⟩,h2⟩
 match vs,h1 with
 | [r,cv],h1=>
  obtain⟨⟨cs,rfl,k1⟩,k2,_⟩:=h1
  obtain⟨sv,q1,q2⟩:=k2
  have q3:some (Vp.val (.int .i64 c))=some sv:=q1
  injection q3 with q3
  subst q3
  have k2:cv= .int .i64 c:=q2.1.1
  subst k2
  exact⟨_,rfl,⟨_,rfl,bm (n:=3) k1⟩,h2⟩
theorem q_rv6 {w:World} (s:ByteArray) (x y z:Fq) (i j:Nat) (c:Int) (hs:s.size≤4294967280) (h:gM s i j) (hx:FP (s.extract 1 i) x 0) (hy:FP (s.extract (i+1) j) y c) (h0:c≠0):Calls Tryd.prog 10 #[.string s] w fun e w'=>bU w .zero c e w':=by
 have hk:=cn h
 obtain⟨h1,h2,h3,hij,hj,ei,ej,ho⟩:=h
 have q1:=hk.1
 have q2:=hk.2.1
 have q3:=hk.2.2.1
 have hsp:spL s s.size=[((i:Nat):Int),((j:Nat):Int)]:=la hij hj ei ej ho
 have hl2:[((i:Nat):Int),((j:Nat):Int)].length=2:=rfl
 have hi:i<s.size:=by omega
 have hib:=ei
 have hno:∀m,m<i→by' s m≠32:=fun m hm e=>by rcases ho m (by omega) e with h | h<;>omega
 have hL0:LOb.Ok Tryd.prog (frs (rvX x y z)++(([.val (.string s)]:List Vp)++(([.ownr bD 1 [((i:Nat):Int),((j:Nat):Int)].length (cE [((i:Nat):Int),((j:Nat):Int)]),.val (.int .i64 ((s.size:Nat):Int)),.val (.int .u8 ((by' s 0:Nat):Int)),.val (.int .i64 (((s.size:Nat):Int) - 1)),.val (.int .u8 ((by' s (s.size - 1):Nat):Int)),.val (.int .i64 (([((i:Nat):Int),((j:Nat):Int)]).length:Int)),.plc bD [.val (.int .i64 ((i:Nat):Int))],.val (.int .i64 ((i:Nat):Int)),.val (.string (s.extract 1 i)),.val (.int .i64 (((i:Nat):Int)+1)),.plc bD [.val (.int .i64 ((j:Nat):Int))],.val (.int .i64 ((j:Nat):Int)),.val (.string (s.extract (i+1) j)),.val (.int .i64 c)]:List Vp)))) (Ent.of w) 97 ⟨aO Tryd.f10 0,rv0,.ext 0,d6⟩:=(by have q:=pC (w:=w) s x y z;rw[hsp]at q;exact q _ hs i hi hib hno)
 refine(ak (ρ:=frs (rvX x y z)++(([.val (.string s)]:List Vp)++(([.ownr bD 1 [((i:Nat):Int),((j:Nat):Int)].length (cE [((i:Nat):Int),((j:Nat):Int)]),.val (.int .i64 ((s.size:Nat):Int)),.val (.int .u8 ((by' s 0:Nat):Int)),.val (.int .i64 (((s.size:Nat):Int) - 1)),.val (.int .u8 ((by' s (s.size - 1):Nat):Int)),.val (.int .i64 (([((i:Nat):Int),((j:Nat):Int)]).length:Int)),.plc bD [.val (.int .i64 ((i:Nat):Int))],.val (.int .i64 ((i:Nat):Int)),.val (.string (s.extract 1 i)),.val (.int .i64 (((i:Nat):Int)+1)),.plc bD [.val (.int .i64 ((j:Nat):Int))],.val (.int .i64 ((j:Nat):Int)),.val (.string (s.extract (i+1) j)),.val (.int .i64 c)]:List Vp)))) (w:=w) (fuel:=300) (args:=[.one (.ref 9)]) (vs:=[.string s]) (r:=.tup [.agg [.b false,.sl0,.sl0,.b false,.sl0,.sl0,.b false,.sl0,.sl0],.one (.ref 23)]) (lo:=[some (rv0,.ext 0,d6)]) (obs:=[⟨aO Tryd.f10 0,rv0,.ext 0,d6⟩])
  (ae (dD (n:=18) (k:=0) (s:=(s.extract 1 i)) rfl rfl (li rfl) hx (by rw[bd (by omega)];omega)) (ae (dD (n:=22) (k:=1) (s:=(s.extract (i+1) j)) rfl rfl (lr (n:=23) rfl) hy (by rw[bd (by omega)];omega)) ag))
  (ac (aB (n:=9) (m:=11) (t:=9) (by kernel_rfl) rfl rfl) (ac (aL (t:=3) (aG (n:=11) rfl) (aW (c:=2)) (cA (by omega))) (ac (bc (n:=9) (m:=12) (k:=0) (c:=0) (t:=9) (by kernel_rfl) rfl rfl (by omega) rfl) (ac (aL (t:=5) (aG (n:=12) rfl) (aW (c:=40)) (bh (by omega))) (ac (gN (m:=13) (t:=3) (aG (n:=11) rfl) (aW (c:=1)) rfl rfl (by omega) (by omega)) (ac (bT (n:=9) (k:=13) (m:=14) (u:=(((s.size:Nat):Int) - 1)) (b:=by' s (s.size - 1)) (t:=9) (by kernel_rfl) rfl rfl rfl (by omega) (by omega) (congrArg (by' s) (by omega))) (ac (aL (t:=5) (aG (n:=14) rfl) (aW (c:=41)) (bh (by omega))) (ac (l9 (j:=0) (n:=10) (m:=15) (L:=[((i:Nat):Int),((j:Nat):Int)]) rfl rfl) (ac (aL (t:=3) (aG (n:=15) rfl) (aW (c:=2)) (bh (by omega))) (ac (ma (j:=0) (n:=10) (m:=16) (k:=0) (L:=[((i:Nat):Int),((j:Nat):Int)]) (u:=((i:Nat):Int)) rfl rfl rfl) (ac (mb (j:=0) (n:=16) (m:=17) (u:=((i:Nat):Int)) rfl rfl) (ac (ji (n:=9) (m:=18) (u:=1) (v:=((i:Nat):Int)) (z:=s.extract 1 i) (t:=9) (by kernel_rfl) rfl (aW (c:=1)) (aG (n:=17) rfl) rfl (by omega) (by omega) (by omega) (congr (congrArg s.extract (by omega)) (by omega))) (ac (fi (m:=19) (t:=3) (aG (n:=17) rfl) (aW (c:=1)) rfl rfl (by omega) (by omega)) (ac (ma (j:=0) (n:=10) (m:=20) (k:=1) (L:=[((i:Nat):Int),((j:Nat):Int)]) (u:=((j:Nat):Int)) rfl rfl rfl) (ac (mb (j:=0) (n:=20) (m:=21) (u:=((j:Nat):Int)) rfl rfl) (ac (ji (n:=9) (m:=22) (u:=(((i:Nat):Int)+1)) (v:=((j:Nat):Int)) (z:=s.extract (i+1) j) (t:=9) (by kernel_rfl) rfl (aG (n:=19) rfl) (aG (n:=21) rfl) rfl (by omega) (by omega) (by omega) (congr (congrArg s.extract (by omega)) (by omega))) (ac (aL (t:=33) (aG (n:=23) rfl) (aW (c:=0)) (dY (by omega))) (ah)))))))))))))))))) (by kernel_rfl) Tryd.func10 (by kernel_rfl) (aX hL0 aI) ⟨ls (n:=9) rfl noB w,trivial⟩).mono ?_
 rintro e w' ⟨v,rfl,⟨vs,rfl,h1⟩,h2⟩
 match vs,h1 with
 | [r,cv],h1=>
  obtain⟨⟨cs,rfl,k1⟩,k2,_⟩:=h1
  obtain⟨sv,q1,q2⟩:=k2
  have q3:some (Vp.val (.int .i64 c))=some sv:=q1
  injection q3 with q3
  subst q3
  have k2:cv= .int .i64 c:=q2.1.1
  subst k2
  exact⟨_,rfl,⟨_,rfl,bm (n:=3) k1⟩,h2⟩
theorem q_rv7 {w:World} (s:ByteArray) (x y z:Fq) (i j:Nat) (c:Int) (hs:s.size≤4294967280) (h:gM s i j) (hx:FP (s.extract 1 i) x 0) (hy:FP (s.extract (i+1) j) y 0) (hz:FP (s.extract (j+1) (s.size - 1)) z c) (h0:c≠0):Calls Tryd.prog 10 #[.string s] w fun e w'=>bU w .zero c e w':=by
 have hk:=cn h
 obtain⟨h1,h2,h3,hij,hj,ei,ej,ho⟩:=h
 have q1:=hk.1
 have q2:=hk.2.1
 have q3:=hk.2.2.1
 have hsp:spL s s.size=[((i:Nat):Int),((j:Nat):Int)]:=la hij hj ei ej ho
 have hl2:[((i:Nat):Int),((j:Nat):Int)].length=2:=rfl
 have hi:i<s.size:=by omega
 have hib:=ei
 have hno:∀m,m<i→by' s m≠32:=fun m hm e=>by rcases ho m (by omega) e with h | h<;>omega
 have hL0:LOb.Ok Tryd.prog (frs (rvX x y z)++(([.val (.string s)]:List Vp)++(([.ownr bD 1 [((i:Nat):Int),((j:Nat):Int)].length (cE [((i:Nat):Int),((j:Nat):Int)]),.val (.int .i64 ((s.size:Nat):Int)),.val (.int .u8 ((by' s 0:Nat):Int)),.val (.int .i64 (((s.size:Nat):Int) - 1)),.val (.int .u8 ((by' s (s.size - 1):Nat):Int)),.val (.int .i64 (([((i:Nat):Int),((j:Nat):Int)]).length:Int)),.plc bD [.val (.int .i64 ((i:Nat):Int))],.val (.int .i64 ((i:Nat):Int)),.val (.string (s.extract 1 i)),.val (.int .i64 (((i:Nat):Int)+1)),.plc bD [.val (.int .i64 ((j:Nat):Int))],.val (.int .i64 ((j:Nat):Int)),.val (.string (s.extract (i+1) j)),.val (.int .i64 (((j:Nat):Int)+1)),.val (.string (s.extract (j+1) (s.size - 1))),.val (.int .i64 c)]:List Vp)))) (Ent.of w) 97 ⟨aO Tryd.f10 0,rv0,.ext 0,d6⟩:=(by have q:=pC (w:=w) s x y z;rw[hsp]at q;exact q _ hs i hi hib hno)
 refine(ak (ρ:=frs (rvX x y z)++(([.val (.string s)]:List Vp)++(([.ownr bD 1 [((i:Nat):Int),((j:Nat):Int)].length (cE [((i:Nat):Int),((j:Nat):Int)]),.val (.int .i64 ((s.size:Nat):Int)),.val (.int .u8 ((by' s 0:Nat):Int)),.val (.int .i64 (((s.size:Nat):Int) - 1)),.val (.int .u8 ((by' s (s.size - 1):Nat):Int)),.val (.int .i64 (([((i:Nat):Int),((j:Nat):Int)]).length:Int)),.plc bD [.val (.int .i64 ((i:Nat):Int))],.val (.int .i64 ((i:Nat):Int)),.val (.string (s.extract 1 i)),.val (.int .i64 (((i:Nat):Int)+1)),.plc bD [.val (.int .i64 ((j:Nat):Int))],.val (.int .i64 ((j:Nat):Int)),.val (.string (s.extract (i+1) j)),.val (.int .i64 (((j:Nat):Int)+1)),.val (.string (s.extract (j+1) (s.size - 1))),.val (.int .i64 c)]:List Vp)))) (w:=w) (fuel:=300) (args:=[.one (.ref 9)]) (vs:=[.string s]) (r:=.tup [.agg [.b false,.sl0,.sl0,.b false,.sl0,.sl0,.b false,.sl0,.sl0],.one (.ref 25)]) (lo:=[some (rv0,.ext 0,d6)]) (obs:=[⟨aO Tryd.f10 0,rv0,.ext 0,d6⟩])
  (ae (dD (n:=18) (k:=0) (s:=(s.extract 1 i)) rfl rfl (li rfl) hx (by rw[bd (by omega)];omega)) (ae (dD (n:=22) (k:=1) (s:=(s.extract (i+1) j)) rfl rfl (li rfl) hy (by rw[bd (by omega)];omega)) (ae (dD (n:=24) (k:=2) (s:=(s.extract (j+1) (s.size - 1))) rfl rfl (lr (n:=25) rfl) hz (by rw[bd (by omega)];omega)) ag)))
  (ac (aB (n:=9) (m:=11) (t:=9) (by kernel_rfl) rfl rfl) (ac (aL (t:=3) (aG (n:=11) rfl) (aW (c:=2)) (cA (by omega))) (ac (bc (n:=9) (m:=12) (k:=0) (c:=0) (t:=9) (by kernel_rfl) rfl rfl (by omega) rfl) (ac (aL (t:=5) (aG (n:=12) rfl) (aW (c:=40)) (bh (by omega))) (ac (gN (m:=13) (t:=3) (aG (n:=11) rfl) (aW (c:=1)) rfl rfl (by omega) (by omega)) (ac (bT (n:=9) (k:=13) (m:=14) (u:=(((s.size:Nat):Int) - 1)) (b:=by' s (s.size - 1)) (t:=9) (by kernel_rfl) rfl rfl rfl (by omega) (by omega) (congrArg (by' s) (by omega))) (ac (aL (t:=5) (aG (n:=14) rfl) (aW (c:=41)) (bh (by omega))) (ac (l9 (j:=0) (n:=10) (m:=15) (L:=[((i:Nat):Int),((j:Nat):Int)]) rfl rfl) (ac (aL (t:=3) (aG (n:=15) rfl) (aW (c:=2)) (bh (by omega))) (ac (ma (j:=0) (n:=10) (m:=16) (k:=0) (L:=[((i:Nat):Int),((j:Nat):Int)]) (u:=((i:Nat):Int)) rfl rfl rfl) (ac (mb (j:=0) (n:=16) (m:=17) (u:=((i:Nat):Int)) rfl rfl) (ac (ji (n:=9) (m:=18) (u:=1) (v:=((i:Nat):Int)) (z:=s.extract 1 i) (t:=9) (by kernel_rfl) rfl (aW (c:=1)) (aG (n:=17) rfl) rfl (by omega) (by omega) (by omega) (congr (congrArg s.extract (by omega)) (by omega))) (ac (fi (m:=19) (t:=3) (aG (n:=17) rfl) (aW (c:=1)) rfl rfl (by omega) (by omega)) (ac (ma (j:=0) (n:=10) (m:=20) (k:=1) (L:=[((i:Nat):Int),((j:Nat):Int)]) (u:=((j:Nat):Int)) rfl rfl rfl) (ac (mb (j:=0) (n:=20) (m:=21) (u:=((j:Nat):Int)) rfl rfl) (ac (ji (n:=9) (m:=22) (u:=(((i:Nat):Int)+1)) (v:=((j:Nat):Int)) (z:=s.extract (i+1) j) (t:=9) (by kernel_rfl) rfl (aG (n:=19) rfl) (aG (n:=21) rfl) rfl (by omega) (by omega) (by omega) (congr (congrArg s.extract (by omega)) (by omega))) (ac (fi (m:=23) (t:=3) (aG (n:=21) rfl) (aW (c:=1)) rfl rfl (by omega) (by omega)) (ac (ji (n:=9) (m:=24) (u:=(((j:Nat):Int)+1)) (v:=(((s.size:Nat):Int) - 1)) (z:=s.extract (j+1) (s.size - 1)) (t:=9) (by kernel_rfl) rfl (aG (n:=23) rfl) (aG (n:=13) rfl) rfl (by omega) (by omega) (by omega) (congr (congrArg s.extract (by omega)) (by omega))) (ac (aL (t:=33) (aG (n:=25) rfl) (aW (c:=0)) (dY (by omega))) (ah)))))))))))))))))))) (by kernel_rfl) Tryd.func10 (by kernel_rfl) (aX hL0 aI) ⟨ls (n:=9) rfl noB w,trivial⟩).mono ?_
 rintro e w' ⟨v,rfl,⟨vs,rfl,h1⟩,h2⟩
 match vs,h1 with
 | [r,cv],h1=>
  obtain⟨⟨cs,rfl,k1⟩,k2,_⟩:=h1
  obtain⟨sv,q1,q2⟩:=k2
  have q3:some (Vp.val (.int .i64 c))=some sv:=q1
  injection q3 with q3
  subst q3
  have k2:cv= .int .i64 c:=q2.1.1
  subst k2
  exact⟨_,rfl,⟨_,rfl,bm (n:=3) k1⟩,h2⟩
theorem q_rv8 {w:World} (s:ByteArray) (x y z:Fq) (i j:Nat) (hs:s.size≤4294967280) (h:gM s i j) (hx:FP (s.extract 1 i) x 0) (hy:FP (s.extract (i+1) j) y 0) (hz:FP (s.extract (j+1) (s.size - 1)) z 0):Calls Tryd.prog 10 #[.string s] w fun e w'=>bU w ⟨x,y,z⟩ 0 e w':=by
 have hk:=cn h
 obtain⟨h1,h2,h3,hij,hj,ei,ej,ho⟩:=h
 have q1:=hk.1
 have q2:=hk.2.1
 have q3:=hk.2.2.1
 have hsp:spL s s.size=[((i:Nat):Int),((j:Nat):Int)]:=la hij hj ei ej ho
 have hl2:[((i:Nat):Int),((j:Nat):Int)].length=2:=rfl
 have hi:i<s.size:=by omega
 have hib:=ei
 have hno:∀m,m<i→by' s m≠32:=fun m hm e=>by rcases ho m (by omega) e with h | h<;>omega
 have hL0:LOb.Ok Tryd.prog (frs (rvX x y z)++(([.val (.string s)]:List Vp)++(([.ownr bD 1 [((i:Nat):Int),((j:Nat):Int)].length (cE [((i:Nat):Int),((j:Nat):Int)]),.val (.int .i64 ((s.size:Nat):Int)),.val (.int .u8 ((by' s 0:Nat):Int)),.val (.int .i64 (((s.size:Nat):Int) - 1)),.val (.int .u8 ((by' s (s.size - 1):Nat):Int)),.val (.int .i64 (([((i:Nat):Int),((j:Nat):Int)]).length:Int)),.plc bD [.val (.int .i64 ((i:Nat):Int))],.val (.int .i64 ((i:Nat):Int)),.val (.string (s.extract 1 i)),.val (.int .i64 (((i:Nat):Int)+1)),.plc bD [.val (.int .i64 ((j:Nat):Int))],.val (.int .i64 ((j:Nat):Int)),.val (.string (s.extract (i+1) j)),.val (.int .i64 (((j:Nat):Int)+1)),.val (.string (s.extract (j+1) (s.size - 1)))]:List Vp)))) (Ent.of w) 97 ⟨aO Tryd.f10 0,rv0,.ext 0,d6⟩:=(by have q:=pC (w:=w) s x y z;rw[hsp]at q;exact q _ hs i hi hib hno)
 refine(ak (ρ:=frs (rvX x y z)++(([.val (.string s)]:List Vp)++(([.ownr bD 1 [((i:Nat):Int),((j:Nat):Int)].length (cE [((i:Nat):Int),((j:Nat):Int)]),.val (.int .i64 ((s.size:Nat):Int)),.val (.int .u8 ((by' s 0:Nat):Int)),.val (.int .i64 (((s.size:Nat):Int) - 1)),.val (.int .u8 ((by' s (s.size - 1):Nat):Int)),.val (.int .i64 (([((i:Nat):Int),((j:Nat):Int)]).length:Int)),.plc bD [.val (.int .i64 ((i:Nat):Int))],.val (.int .i64 ((i:Nat):Int)),.val (.string (s.extract 1 i)),.val (.int .i64 (((i:Nat):Int)+1)),.plc bD [.val (.int .i64 ((j:Nat):Int))],.val (.int .i64 ((j:Nat):Int)),.val (.string (s.extract (i+1) j)),.val (.int .i64 (((j:Nat):Int)+1)),.val (.string (s.extract (j+1) (s.size - 1)))]:List Vp)))) (w:=w) (fuel:=300) (args:=[.one (.ref 9)]) (vs:=[.string s]) (r:=.tup [row [0,1,2],.one (.i .i64 0)]) (lo:=[some (rv0,.ext 0,d6)]) (obs:=[⟨aO Tryd.f10 0,rv0,.ext 0,d6⟩])
  (ae (dD (n:=18) (k:=0) (s:=(s.extract 1 i)) rfl rfl (li rfl) hx (by rw[bd (by omega)];omega)) (ae (dD (n:=22) (k:=1) (s:=(s.extract (i+1) j)) rfl rfl (li rfl) hy (by rw[bd (by omega)];omega)) (ae (dD (n:=24) (k:=2) (s:=(s.extract (j+1) (s.size - 1))) rfl rfl (li rfl) hz (by rw[bd (by omega)];omega)) ag)))
  (ac (aB (n:=9) (m:=11) (t:=9) (by kernel_rfl) rfl rfl) (ac (aL (t:=3) (aG (n:=11) rfl) (aW (c:=2)) (cA (by omega))) (ac (bc (n:=9) (m:=12) (k:=0) (c:=0) (t:=9) (by kernel_rfl) rfl rfl (by omega) rfl) (ac (aL (t:=5) (aG (n:=12) rfl) (aW (c:=40)) (bh (by omega))) (ac (gN (m:=13) (t:=3) (aG (n:=11) rfl) (aW (c:=1)) rfl rfl (by omega) (by omega)) (ac (bT (n:=9) (k:=13) (m:=14) (u:=(((s.size:Nat):Int) - 1)) (b:=by' s (s.size - 1)) (t:=9) (by kernel_rfl) rfl rfl rfl (by omega) (by omega) (congrArg (by' s) (by omega))) (ac (aL (t:=5) (aG (n:=14) rfl) (aW (c:=41)) (bh (by omega))) (ac (l9 (j:=0) (n:=10) (m:=15) (L:=[((i:Nat):Int),((j:Nat):Int)]) rfl rfl) (ac (aL (t:=3) (aG (n:=15) rfl) (aW (c:=2)) (bh (by omega))) (ac (ma (j:=0) (n:=10) (m:=16) (k:=0) (L:=[((i:Nat):Int),((j:Nat):Int)]) (u:=((i:Nat):Int)) rfl rfl rfl) (ac (mb (j:=0) (n:=16) (m:=17) (u:=((i:Nat):Int)) rfl rfl) (ac (ji (n:=9) (m:=18) (u:=1) (v:=((i:Nat):Int)) (z:=s.extract 1 i) (t:=9) (by kernel_rfl) rfl (aW (c:=1)) (aG (n:=17) rfl) rfl (by omega) (by omega) (by omega) (congr (congrArg s.extract (by omega)) (by omega))) (ac (fi (m:=19) (t:=3) (aG (n:=17) rfl) (aW (c:=1)) rfl rfl (by omega) (by omega)) (ac (ma (j:=0) (n:=10) (m:=20) (k:=1) (L:=[((i:Nat):Int),((j:Nat):Int)]) (u:=((j:Nat):Int)) rfl rfl rfl) (ac (mb (j:=0) (n:=20) (m:=21) (u:=((j:Nat):Int)) rfl rfl) (ac (ji (n:=9) (m:=22) (u:=(((i:Nat):Int)+1)) (v:=((j:Nat):Int)) (z:=s.extract (i+1) j) (t:=9) (by kernel_rfl) rfl (aG (n:=19) rfl) (aG (n:=21) rfl) rfl (by omega) (by omega) (by omega) (congr (congrArg s.extract (by omega)) (by omega))) (ac (fi (m:=23) (t:=3) (aG (n:=21) rfl) (aW (c:=1)) rfl rfl (by omega) (by omega)) (ac (ji (n:=9) (m:=24) (u:=(((j:Nat):Int)+1)) (v:=(((s.size:Nat):Int) - 1)) (z:=s.extract (j+1) (s.size - 1)) (t:=9) (by kernel_rfl) rfl (aG (n:=23) rfl) (aG (n:=13) rfl) rfl (by omega) (by omega) (by omega) (congr (congrArg s.extract (by omega)) (by omega))) (ah))))))))))))))))))) (by kernel_rfl) Tryd.func10 (by kernel_rfl) (aX hL0 aI) ⟨ls (n:=9) rfl noB w,trivial⟩).mono ?_
 rintro e w' ⟨v,rfl,⟨vs,rfl,h1⟩,h2⟩
 match vs,h1 with
 | [r,cv],h1=>
  obtain⟨⟨cs,rfl,k1⟩,k2,_⟩:=h1
  have k2:cv=_:=k2
  subst k2
  exact⟨_,rfl,(aR (xs:=rvX x y z) (ks:=[0,1,2]) (vs:=[x,y,z]) ⟨rfl,rfl,rfl,trivial⟩).1 ⟨_,rfl,k1⟩,h2⟩
theorem gZ (s:ByteArray) (v:Vq) (c:Int) (w:World) (h:VP s v c) (hs:s.size≤4294967280):Calls Tryd.prog 10 #[.string s] w fun e w'=>bU w v c e w':=by
 cases h with
 | form h=>
  rcases jf 32 s with⟨p,hp,hpb,hno⟩ | hn
  ·by_cases h1:s.size<2
   ·exact yT s .zero .zero .zero hs p hp hpb hno h1
   by_cases h2:by' s 0=40
   ·by_cases h3:by' s (s.size - 1)=41
    ·refine yW s .zero .zero .zero hs p hp hpb hno (by omega) h2 h3 (fun h4=> ?_)
     obtain⟨i,j,h5⟩:=vB h4
     exact h i j ⟨by omega,h2,h3,h5⟩
    ·exact yV s .zero .zero .zero hs p hp hpb hno (by omega) h2 h3
   ·exact yU s .zero .zero .zero hs p hp hpb hno (by omega) h2
  ·by_cases h1:s.size<2
   ·exact yP s .zero .zero .zero hs hn h1
   by_cases h2:by' s 0=40
   ·by_cases h3:by' s (s.size - 1)=41
    ·exact yS s .zero .zero .zero hs hn (by omega) h2 h3
    ·exact yR s .zero .zero .zero hs hn (by omega) h2 h3
   ·exact yQ s .zero .zero .zero hs hn (by omega) h2
 | e0 h hx h0=>exact q_rv5 s _ .zero .zero _ _ _ hs h hx h0
 | e1 h hx hy h0=>exact q_rv6 s _ _ .zero _ _ _ hs h hx hy h0
 | e2 h hx hy hz h0=>exact q_rv7 s _ _ _ _ _ _ hs h hx hy hz h0
 | good h hx hy hz=>exact q_rv8 s _ _ _ _ _ hs h hx hy hz
end Go.Proofs.YtfhinmdhjlmikaaDoor
namespace Go.Proofs.YtfhinmdhjlmikaaDoor
set_option linter.unusedSimpArgs false
set_option linter.unusedVariables false
set_option maxRecDepth 100000
open Go.RowKit
theorem j3 (l:Array UInt8):(ByteArray.mk l).size=l.size:=rfl
theorem cR {x:Fq} {d:Nat} (h:x.ok d):x.fmt.size≤20*d+4:=by
 have h1:=bv x.p
 have h2:=bv x.q
 have h3:=h.p
 have h4:=h.q
 unfold Fq.fmt
 split<;>split<;>(try simp only[ByteArray.size_append,j3,List.size_toArray,List.length_cons,List.length_nil])<;>omega
def Vq.fmt (a:Vq):ByteArray:=(((((((ByteArray.mk #[40])++a.x.fmt)++(ByteArray.mk #[32]))++a.y.fmt)++(ByteArray.mk #[32]))++a.z.fmt)++(ByteArray.mk #[41]))
def nd (a:Vq):List Fq:=[a.x,a.y,a.z]
theorem fC (va:Value) (a:Vq) (w:World) (ia:jS w va a) (ha:a.ok 1000000):Calls Tryd.prog 11 #[va] w fun e w'=>bE w (.string a.fmt) e w':=by
 have z1:=cR ha.x
 have z2:=cR ha.y
 have z3:=cR ha.z
 refine(cRn (ρ:=frs (nd a)++([.val (.string a.x.fmt),.val (.string ((ByteArray.mk #[40])++a.x.fmt)),.val (.string (((ByteArray.mk #[40])++a.x.fmt)++(ByteArray.mk #[32]))),.val (.string a.y.fmt),.val (.string ((((ByteArray.mk #[40])++a.x.fmt)++(ByteArray.mk #[32]))++a.y.fmt)),.val (.string (((((ByteArray.mk #[40])++a.x.fmt)++(ByteArray.mk #[32]))++a.y.fmt)++(ByteArray.mk #[32]))),.val (.string a.z.fmt),.val (.string ((((((ByteArray.mk #[40])++a.x.fmt)++(ByteArray.mk #[32]))++a.y.fmt)++(ByteArray.mk #[32]))++a.z.fmt)),.val (.string (((((((ByteArray.mk #[40])++a.x.fmt)++(ByteArray.mk #[32]))++a.y.fmt)++(ByteArray.mk #[32]))++a.z.fmt)++(ByteArray.mk #[41])))]:List Vp)) (args:=[row [0,1,2]]) (vs:=[va]) (r:=.v (.one (.ref 17)))
  (ae (jV (i:=0) rfl (ls (n:=9) rfl) (ha.x.mono (by decide))) (ae (jV (i:=1) rfl (ls (n:=12) rfl) (ha.y.mono (by decide))) (ae (jV (i:=2) rfl (ls (n:=15) rfl) (ha.z.mono (by decide))) ag)))
  (ac (eU (n:=9) (m:=10) (s:=(ByteArray.mk #[40])) (z:=a.x.fmt) (t:=9) (by kernel_rfl) rfl rfl (by simp only[ByteArray.size_append,j3,List.size_toArray,List.length_cons,List.length_nil];omega)) (ac (eV (n:=10) (m:=11) (s:=((ByteArray.mk #[40])++a.x.fmt)) (z:=(ByteArray.mk #[32])) (t:=9) (by kernel_rfl) rfl rfl (by simp only[ByteArray.size_append,j3,List.size_toArray,List.length_cons,List.length_nil];omega)) (ac (eW (n:=11) (m:=13) (k:=12) (s:=(((ByteArray.mk #[40])++a.x.fmt)++(ByteArray.mk #[32]))) (z:=a.y.fmt) (t:=9) (by kernel_rfl) rfl rfl rfl (by simp only[ByteArray.size_append,j3,List.size_toArray,List.length_cons,List.length_nil];omega)) (ac (eV (n:=13) (m:=14) (s:=((((ByteArray.mk #[40])++a.x.fmt)++(ByteArray.mk #[32]))++a.y.fmt)) (z:=(ByteArray.mk #[32])) (t:=9) (by kernel_rfl) rfl rfl (by simp only[ByteArray.size_append,j3,List.size_toArray,List.length_cons,List.length_nil];omega)) (ac (eW (n:=14) (m:=16) (k:=15) (s:=(((((ByteArray.mk #[40])++a.x.fmt)++(ByteArray.mk #[32]))++a.y.fmt)++(ByteArray.mk #[32]))) (z:=a.z.fmt) (t:=9) (by kernel_rfl) rfl rfl rfl (by simp only[ByteArray.size_append,j3,List.size_toArray,List.length_cons,List.length_nil];omega)) (ac (eV (n:=16) (m:=17) (s:=((((((ByteArray.mk #[40])++a.x.fmt)++(ByteArray.mk #[32]))++a.y.fmt)++(ByteArray.mk #[32]))++a.z.fmt)) (z:=(ByteArray.mk #[41])) (t:=9) (by kernel_rfl) rfl rfl (by simp only[ByteArray.size_append,j3,List.size_toArray,List.length_cons,List.length_nil];omega)) (ah))))))) Tryd.func11 (by kernel_rfl) ⟨(aR (xs:=nd a) (ks:=[0,1,2]) (vs:=[a.x,a.y,a.z]) ⟨rfl,rfl,rfl,trivial⟩).2 ia,trivial⟩).mono ?_
 rintro e w' ⟨v,rfl,h1,h2⟩
 obtain⟨sv,q1,q2⟩:=h1
 have q3:some (Vp.val (.string (((((((ByteArray.mk #[40])++a.x.fmt)++(ByteArray.mk #[32]))++a.y.fmt)++(ByteArray.mk #[32]))++a.z.fmt)++(ByteArray.mk #[41]))))=some sv:=q1
 injection q3 with q3
 subst q3
 have q4:v= .string (((((((ByteArray.mk #[40])++a.x.fmt)++(ByteArray.mk #[32]))++a.y.fmt)++(ByteArray.mk #[32]))++a.z.fmt)++(ByteArray.mk #[41])):=q2.1.1
 exact⟨by rw[q4];rfl,h2⟩
def mc (a:Vq):List Fq:=[a.x,a.y,a.z]
theorem me (va:Value) (a:Vq) (w:World) (ia:jS w va a) (ha:a.ok 1000000):Calls Tryd.prog 15 #[va] w fun e w'=>bE w (.string a.fmt) e w':=by
 have z1:=cR ha.x
 have z2:=cR ha.y
 have z3:=cR ha.z
 refine(cRn (ρ:=frs (mc a)++([.val (.string a.x.fmt),.val (.string ((ByteArray.mk #[40])++a.x.fmt)),.val (.string (((ByteArray.mk #[40])++a.x.fmt)++(ByteArray.mk #[32]))),.val (.string a.y.fmt),.val (.string ((((ByteArray.mk #[40])++a.x.fmt)++(ByteArray.mk #[32]))++a.y.fmt)),.val (.string (((((ByteArray.mk #[40])++a.x.fmt)++(ByteArray.mk #[32]))++a.y.fmt)++(ByteArray.mk #[32]))),.val (.string a.z.fmt),.val (.string ((((((ByteArray.mk #[40])++a.x.fmt)++(ByteArray.mk #[32]))++a.y.fmt)++(ByteArray.mk #[32]))++a.z.fmt)),.val (.string (((((((ByteArray.mk #[40])++a.x.fmt)++(ByteArray.mk #[32]))++a.y.fmt)++(ByteArray.mk #[32]))++a.z.fmt)++(ByteArray.mk #[41])))]:List Vp)) (args:=[row [0,1,2]]) (vs:=[va]) (r:=.v (.one (.ref 17)))
  (ae (jW (i:=0) rfl (ls (n:=9) rfl) (ha.x.mono (by decide))) (ae (jW (i:=1) rfl (ls (n:=12) rfl) (ha.y.mono (by decide))) (ae (jW (i:=2) rfl (ls (n:=15) rfl) (ha.z.mono (by decide))) ag)))
  (ac (eU (n:=9) (m:=10) (s:=(ByteArray.mk #[40])) (z:=a.x.fmt) (t:=9) (by kernel_rfl) rfl rfl (by simp only[ByteArray.size_append,j3,List.size_toArray,List.length_cons,List.length_nil];omega)) (ac (eV (n:=10) (m:=11) (s:=((ByteArray.mk #[40])++a.x.fmt)) (z:=(ByteArray.mk #[32])) (t:=9) (by kernel_rfl) rfl rfl (by simp only[ByteArray.size_append,j3,List.size_toArray,List.length_cons,List.length_nil];omega)) (ac (eW (n:=11) (m:=13) (k:=12) (s:=(((ByteArray.mk #[40])++a.x.fmt)++(ByteArray.mk #[32]))) (z:=a.y.fmt) (t:=9) (by kernel_rfl) rfl rfl rfl (by simp only[ByteArray.size_append,j3,List.size_toArray,List.length_cons,List.length_nil];omega)) (ac (eV (n:=13) (m:=14) (s:=((((ByteArray.mk #[40])++a.x.fmt)++(ByteArray.mk #[32]))++a.y.fmt)) (z:=(ByteArray.mk #[32])) (t:=9) (by kernel_rfl) rfl rfl (by simp only[ByteArray.size_append,j3,List.size_toArray,List.length_cons,List.length_nil];omega)) (ac (eW (n:=14) (m:=16) (k:=15) (s:=(((((ByteArray.mk #[40])++a.x.fmt)++(ByteArray.mk #[32]))++a.y.fmt)++(ByteArray.mk #[32]))) (z:=a.z.fmt) (t:=9) (by kernel_rfl) rfl rfl rfl (by simp only[ByteArray.size_append,j3,List.size_toArray,List.length_cons,List.length_nil];omega)) (ac (eV (n:=16) (m:=17) (s:=((((((ByteArray.mk #[40])++a.x.fmt)++(ByteArray.mk #[32]))++a.y.fmt)++(ByteArray.mk #[32]))++a.z.fmt)) (z:=(ByteArray.mk #[41])) (t:=9) (by kernel_rfl) rfl rfl (by simp only[ByteArray.size_append,j3,List.size_toArray,List.length_cons,List.length_nil];omega)) (ah))))))) Tryd.func15 (by kernel_rfl) ⟨(aR (xs:=mc a) (ks:=[0,1,2]) (vs:=[a.x,a.y,a.z]) ⟨rfl,rfl,rfl,trivial⟩).2 ia,trivial⟩).mono ?_
 rintro e w' ⟨v,rfl,h1,h2⟩
 obtain⟨sv,q1,q2⟩:=h1
 have q3:some (Vp.val (.string (((((((ByteArray.mk #[40])++a.x.fmt)++(ByteArray.mk #[32]))++a.y.fmt)++(ByteArray.mk #[32]))++a.z.fmt)++(ByteArray.mk #[41]))))=some sv:=q1
 injection q3 with q3
 subst q3
 have q4:v= .string (((((((ByteArray.mk #[40])++a.x.fmt)++(ByteArray.mk #[32]))++a.y.fmt)++(ByteArray.mk #[32]))++a.z.fmt)++(ByteArray.mk #[41])):=q2.1.1
 exact⟨by rw[q4];rfl,h2⟩
end Go.Proofs.YtfhinmdhjlmikaaDoor
namespace Go.Proofs.YtfhinmdhjlmikaaDoor
set_option linter.unusedSimpArgs false
set_option linter.unusedVariables false
set_option maxRecDepth 100000
open Go.RowKit
def s1:ByteArray:=ByteArray.mk #[40,49,32,45,51,47,52,32,48,41]
def s2:ByteArray:=ByteArray.mk #[40,49,32,50,41]
def V1:Vq:=⟨Fq.ofInt 1,⟨true,3,4⟩,Fq.ofInt 0⟩
theorem pD {N:Nat} (h:N<100):nl N≤12:=az.2 (Nat.lt_of_lt_of_le h (by decide))
theorem fm1:s1.extract 1 2=(Fq.ofInt 1).fmt:=by
 show _=aM 1
 unfold aM;rw[if_neg (by decide)]
 decide +kernel
theorem fm2:s1.extract (2+1) 7=(Fq.mk true 3 4).fmt:=by
 show _=({data:=#[45]}:ByteArray)++(aM 3++(({data:=#[47]}:ByteArray)++aM 4))
 unfold aM;rw[if_neg (by decide),if_neg (by decide)]
 decide +kernel
theorem fm3:s1.extract (7+1) (s1.size - 1)=(Fq.ofInt 0).fmt:=by
 show _=aM 0
 unfold aM;rw[if_pos rfl]
 decide +kernel
theorem vp1:VP s1 V1 0:=by
 refine .good (i:=2) (j:=7) ⟨by decide,by decide,by decide,by decide,by decide,by decide,by decide,by decide +kernel⟩ ?_ ?_ ?_
 ·rw[fm1];exact jT (a8 1) (pD (by decide)) (pD (by decide))
 ·rw[fm2];exact jT (by decide +kernel) (pD (by decide)) (pD (by decide))
 ·rw[fm3];exact jT (a8 0) (pD (by decide)) (pD (by decide))
theorem vp2:VP s2 .zero 2:=by
 refine .form fun i j h=> ?_
 obtain⟨_,_,_,hij,hj,ei,ej,_⟩:=h
 have e:∀j,j<5→∀i,i<j→by' s2 i=(32:UInt8).toNat→by' s2 j=(32:UInt8).toNat→False:=by decide +kernel
 exact e j hj i hij ei ej
theorem fmV:V1.fmt=s1:=by
 show((((((_:ByteArray)++(Fq.ofInt 1).fmt)++_)++(Fq.mk true 3 4).fmt)++_)++(Fq.ofInt 0).fmt)++_=_
 rw[←fm1,←fm2,←fm3]
 decide +kernel
theorem nf {xs:List Fq} {ys:Rho} {s:ByteArray} {v:Vq} {c:Int} {kr:List Nat} (h:VP s v c) (hs:s.size≤4294967280) (ar:AtL xs kr [v.x,v.y,v.z]):OkI xs ys ⟨9,[.one (.s s)],.tup [row kr,.one (.i .i64 c)]⟩:=
 ⟨ai Tryd.func9 rfl rfl,fun B w vs hB hv=>by
  match vs,hv with
  | [va],hv=>
   have e:va= .string s:=hv.1
   subst e
   refine(ew s v c w h hs).mono ?_
   rintro e w' ⟨v,rfl,h1,h2⟩
   exact⟨_,rfl,⟨[v,.int .i64 c],rfl,(aR ar).2 h1,rfl,trivial⟩,h2⟩⟩
theorem qE {xs:List Fq} {ys:Rho} {s:ByteArray} {v:Vq} {kr:List Nat} (ar:AtL xs kr [v.x,v.y,v.z]) (h:v.fmt=s) (hv:v.ok 1000000):OkI xs ys ⟨11,[row kr],.v (.one (.s s))⟩:=
 ⟨ai Tryd.func11 rfl rfl,fun B w vs hB hx=>by
  match vs,hx with
  | [va],hx=>
   refine(fC va v w ((aR ar).1 hx.1) hv).mono ?_
   rintro e w' ⟨rfl,h2⟩
   exact⟨_,rfl,by subst h;rfl,h2⟩⟩
theorem yX {ρ:Rho} {t:TypeId} {s:ByteArray}:(OIns.mk (.bin .eql t) [.one (.s s),.one (.s s)] (.one (.b true))).Ok Tryd.prog ρ:=fun B w vs hv=>by
 match vs,hv with
 | [v1,v2],hv=>
  have e:v1= .string s:=hv.1
  have e2:v2= .string s:=hv.2.1
  subst e;subst e2
  exact⟨.bool true,rfl,fun xo yo=>by simp[eqGuard,binOp,Op.stringOp,Sem.run_bind,Result.andThen]⟩
theorem ok_V1:V1.ok 1000000:=⟨(dx (by decide) (by decide)).mono (by decide),⟨Nat.le_trans (pD (by decide)) (by decide),Nat.le_trans (pD (by decide)) (by decide),by decide⟩,(dx (by decide) (by decide)).mono (by decide)⟩
def wV:List Fq:=[(Vq.of 1 2 3).x,(Vq.of 1 2 3).y,(Vq.of 1 2 3).z,(Vq.of 4 5 6).x,(Vq.of 4 5 6).y,(Vq.of 4 5 6).z,(Fq.ofInt 1),(Fq.mk true 3 4),(Fq.ofInt 0),Fq.zero,((Vq.of 1 2 3).cross (Vq.of 4 5 6)).x,((Vq.of 1 2 3).cross (Vq.of 4 5 6)).y,((Vq.of 1 2 3).cross (Vq.of 4 5 6)).z,(Vq.of (-3) 6 (-3)).x,(Vq.of (-3) 6 (-3)).y,(Vq.of (-3) 6 (-3)).z,((Vq.of 1 2 3).dot (Vq.of 4 5 6)),(Fq.ofInt 32)]
theorem wW (w:World):
  Calls Tryd.prog 8 #[] w fun e w'=>bE w (.bool true) e w':=by
 refine(cRn (ρ:=frs (wV)++ []) (args:=[]) (vs:=[]) (r:=.v (.one (.b true)))
  (ae (sG (kr:=[0,1,2]) ⟨rfl,rfl,rfl,trivial⟩) (ae (sI (kr:=[3,4,5]) ⟨rfl,rfl,rfl,trivial⟩) (ae (nf vp1 (by decide) (kr:=[6,7,8]) ⟨rfl,rfl,rfl,trivial⟩) (ae (nf vp2 (by decide) (kr:=[9,9,9]) ⟨rfl,rfl,rfl,trivial⟩) (ae (uU (ka:=[0,1,2]) (a:=(Vq.of 1 2 3)) (kb:=[3,4,5]) (b:=(Vq.of 4 5 6)) (kr:=[10,11,12]) ⟨rfl,rfl,rfl,trivial⟩ ⟨rfl,rfl,rfl,trivial⟩ ⟨rfl,rfl,rfl,trivial⟩ ((d5 (by decide) (by decide) (by decide) (by decide) (by decide) (by decide)).mono (by decide)) ((d5 (by decide) (by decide) (by decide) (by decide) (by decide) (by decide)).mono (by decide))) (ae (py (kr:=[13,14,15]) ⟨rfl,rfl,rfl,trivial⟩) (ae (qA (ka:=[10,11,12]) (a:=((Vq.of 1 2 3).cross (Vq.of 4 5 6))) (kb:=[13,14,15]) (b:=(Vq.of (-3) 6 (-3))) ⟨rfl,rfl,rfl,trivial⟩ ⟨rfl,rfl,rfl,trivial⟩ (((d5 (by decide) (by decide) (by decide) (by decide) (by decide) (by decide)).cross (d5 (by decide) (by decide) (by decide) (by decide) (by decide) (by decide))).mono (by decide)) ((d5 (by decide) (by decide) (by decide) (by decide) (by decide) (by decide)).mono (by decide)) (Vq.same_iff.1 (by decide +kernel))) (ae (yx (ka:=[0,1,2]) (a:=(Vq.of 1 2 3)) (kb:=[3,4,5]) (b:=(Vq.of 4 5 6)) (ir:=16) ⟨rfl,rfl,rfl,trivial⟩ ⟨rfl,rfl,rfl,trivial⟩ rfl ((d5 (by decide) (by decide) (by decide) (by decide) (by decide) (by decide)).mono (by decide)) ((d5 (by decide) (by decide) (by decide) (by decide) (by decide) (by decide)).mono (by decide))) (ae (lY (k:=17) rfl (by decide) (by decide)) (ae (fY (i:=16) (j:=17) (l:=.b true) rfl rfl (lb (Fq.same_iff.2 (Fq.same_iff.1 (by decide +kernel)))) (((d5 (by decide) (by decide) (by decide) (by decide) (by decide) (by decide)).dot (d5 (by decide) (by decide) (by decide) (by decide) (by decide) (by decide))).mono (by decide)).p (((d5 (by decide) (by decide) (by decide) (by decide) (by decide) (by decide)).dot (d5 (by decide) (by decide) (by decide) (by decide) (by decide) (by decide))).mono (by decide)).q ((dx (u:=32) (by decide) (by decide)).mono (by decide)).p ((dx (u:=32) (by decide) (by decide)).mono (by decide)).q) (ae (qE (v:=V1) (kr:=[6,7,8]) ⟨rfl,rfl,rfl,trivial⟩ fmV ok_V1) ag)))))))))))
  (ac (yX (s:=s1) (t:=9)) (ah)) Tryd.func8 (by kernel_rfl) trivial).mono ?_
 rintro e w' ⟨v,rfl,h1,h2⟩
 exact⟨congrArg Ending.returned h1,h2⟩
theorem eY {xs:List Fq} {ys:Rho}:OkI xs ys ⟨8,[],.v (.one (.b true))⟩:=
 ⟨ai Tryd.func8 rfl rfl,fun B w vs hB h=>by
  match vs,h with
  | [],h=>
   refine(wW w).mono ?_
   rintro e w' ⟨rfl,h2⟩
   exact⟨_,rfl,rfl,h2⟩⟩
end Go.Proofs.YtfhinmdhjlmikaaDoor
namespace Go.Proofs.YtfhinmdhjlmikaaDoor
set_option linter.unusedSimpArgs false
set_option linter.unusedVariables false
set_option maxRecDepth 100000
open Go.RowKit
theorem mf {s:ByteArray} {x:Fq} {c:Int} (h:FP s x c) (hc:c=0):x.valid=true:=by
 cases h with
 | num _ _ h0=>exact absurd hc h0
 | den _ _ _ h0=>exact absurd hc h0
 | bad _ _ _ _=>exact absurd hc (by decide)
 | @good t B F a b M N h ha hb hv=>
  cases F with
  | false=>simpa [dM,lT]using hv
  | true=>
   have hv':¬N=1∧(Fq.mk B M N).valid=true:=by simpa [dM]using hv
   simpa [lT]using hv'.2
theorem om {s:ByteArray} {x:Fq} (h:FP s x 0):x.ok 1000:=by
 have:=fp_ok h
 exact⟨by omega,by omega,this.2.2 rfl⟩
theorem rC {s:ByteArray} (h:bS s s.size):mw 32 s:=fun k hk e=>by
 have:=h k hk
 have e:by' s k=32:=e
 omega
theorem vD {s:ByteArray} {x:Fq} {c:Int} (h:FP s x c) (hc:c=0):mw 32 s:=by
 cases h with
 | num _ _ h0=>exact absurd hc h0
 | den _ _ _ h0=>exact absurd hc h0
 | bad _ _ _ _=>exact absurd hc (by decide)
 | @good t B F a b M N h ha hb hv=>
  have ht:mw 32 t:=by
   have h1:=rC (f7 ha).2
   cases F with
   | false=>rw[←(h.miss rfl).2.1];exact h1
   | true=>
    obtain⟨i,hi,ea,eb⟩:=h.hit rfl
    have h2:=rC (f7 (hb rfl)).2
    have hi1:=hi.1
    intro k hk e
    rcases Nat.lt_trichotomy k i with h3 | h3 | h3
    ·refine h1 k (by rw[ea,bd (by omega)];omega) ?_
     rw[ea,dB t 0 i k (by omega) (by omega),Nat.zero_add];exact e
    ·subst h3
     have:=hi.2.1
     have e:by' t k=32:=e
     omega
    ·refine h2 (k - (i+1)) (by rw[eb,bd (Nat.le_refl _)];omega) ?_
     rw[eb,eX (by omega),show i+1+(k - (i+1))=k from by omega];exact e
  have hr:=h.rest
  have hs:=h.sign
  cases B with
  | false=>
   have hr:t=s:=by simpa using hr
   rw[←hr];exact ht
  | true=>
   have hr:t=s.extract 1 s.size:=by simpa using hr
   have hs:=of_decide_eq_true hs
   intro k hk e
   have e:by' s k=32:=e
   by_cases h0:k=0
   ·subst h0;have:=hs.2;omega
   ·refine ht (k - 1) (by rw[hr,bd (Nat.le_refl _)];omega) ?_
    rw[hr,eX (by omega),show 1+(k - 1)=k from by omega];exact e
/-- The text of three parts. -/
def txt (X Y Z:ByteArray):ByteArray:=(((((b1 40++X)++b1 32)++Y)++b1 32)++Z)++b1 41
theorem eZ (c:UInt8):(b1 c).size=1:=rfl
theorem rD (c:UInt8) {k:Nat} (h:k=0):by' (b1 c) k=c.toNat:=by subst h;rfl
section
variable (X Y Z:ByteArray)
theorem eD:(txt X Y Z).size=X.size+Y.size+Z.size+4:=by simp only[txt,ByteArray.size_append,eZ];omega
theorem vE:by' (txt X Y Z) 0=40:=by
 simp only[txt,cO,ByteArray.size_append,eZ]
 repeat rw[if_pos (by omega)]
 exact rD 40 rfl
theorem vF {k:Nat} (h:k<X.size):by' (txt X Y Z) (1+k)=by' X k:=by
 simp only[txt,cO,ByteArray.size_append,eZ]
 repeat (first | rw[if_pos (by omega)] | rw[if_neg (by omega)])
 exact congrArg (by' X) (by omega)
theorem xz:by' (txt X Y Z) (1+X.size)=32:=by
 simp only[txt,cO,ByteArray.size_append,eZ]
 repeat (first | rw[if_pos (by omega)] | rw[if_neg (by omega)])
 exact rD 32 (by omega)
theorem vG {k:Nat} (h:k<Y.size):by' (txt X Y Z) (2+X.size+k)=by' Y k:=by
 simp only[txt,cO,ByteArray.size_append,eZ]
 repeat (first | rw[if_pos (by omega)] | rw[if_neg (by omega)])
 exact congrArg (by' Y) (by omega)
theorem xA:by' (txt X Y Z) (2+X.size+Y.size)=32:=by
 simp only[txt,cO,ByteArray.size_append,eZ]
 repeat (first | rw[if_pos (by omega)] | rw[if_neg (by omega)])
 exact rD 32 (by omega)
theorem vH {k:Nat} (h:k<Z.size):by' (txt X Y Z) (3+X.size+Y.size+k)=by' Z k:=by
 simp only[txt,cO,ByteArray.size_append,eZ]
 repeat (first | rw[if_pos (by omega)] | rw[if_neg (by omega)])
 exact congrArg (by' Z) (by omega)
theorem vI:by' (txt X Y Z) (3+X.size+Y.size+Z.size)=41:=by
 simp only[txt,cO,ByteArray.size_append,eZ]
 repeat (first | rw[if_pos (by omega)] | rw[if_neg (by omega)])
 exact rD 41 (by omega)
theorem txt_X:(txt X Y Z).extract 1 (1+X.size)=X:=by
 have hs:=eD X Y Z
 refine fh (by rw[bd (by omega)];omega) (fun k hk=> ?_)
 rw[bd (by omega)]at hk
 rw[dB _ _ _ _ (by omega) (by omega),vF X Y Z (by omega)]
theorem txt_Y:(txt X Y Z).extract (1+X.size+1) (2+X.size+Y.size)=Y:=by
 have hs:=eD X Y Z
 refine fh (by rw[bd (by omega)];omega) (fun k hk=> ?_)
 rw[bd (by omega)]at hk
 rw[dB _ _ _ _ (by omega) (by omega),show 1+X.size+1+k=2+X.size+k by omega,vG X Y Z (by omega)]
theorem txt_Z:(txt X Y Z).extract (2+X.size+Y.size+1) ((txt X Y Z).size - 1)=Z:=by
 have hs:=eD X Y Z
 refine fh (by rw[bd (by omega)];omega) (fun k hk=> ?_)
 rw[bd (by omega)]at hk
 rw[dB _ _ _ _ (by omega) (by omega),show 2+X.size+Y.size+1+k=3+X.size+Y.size+k by omega,vH X Y Z (by omega)]
theorem wX (hx:mw 32 X) (hy:mw 32 Y) (hz:mw 32 Z):gM (txt X Y Z) (1+X.size) (2+X.size+Y.size):=by
 have hs:=eD X Y Z
 refine⟨by omega,vE X Y Z,?_,by omega,by omega,xz X Y Z,xA X Y Z,fun m hm e=> ?_⟩
 ·rw[hs,show X.size+Y.size+Z.size+4 - 1=3+X.size+Y.size+Z.size by omega];exact vI X Y Z
 ·have e:by' (txt X Y Z) m=32:=e
  by_cases h0:m=0
  ·subst h0;rw[vE]at e;omega
  by_cases h1:m<1+X.size
  ·rw[show m=1+(m - 1)by omega,vF X Y Z (by omega)]at e
   exact absurd e (hx _ (by omega))
  by_cases h2:m=1+X.size
  ·exact .inl h2
  by_cases h3:m<2+X.size+Y.size
  ·rw[show m=2+X.size+(m - 2 - X.size)by omega,vG X Y Z (by omega)]at e
   exact absurd e (hy _ (by omega))
  by_cases h4:m=2+X.size+Y.size
  ·exact .inr h4
  by_cases h5:m<3+X.size+Y.size+Z.size
  ·rw[show m=3+X.size+Y.size+(m - 3 - X.size - Y.size)by omega,vH X Y Z (by omega)]at e
   exact absurd e (hz _ (by omega))
  ·rw[show m=3+X.size+Y.size+Z.size by omega,vI]at e;omega
end
theorem yY {s:ByteArray} {i j:Nat} (h:gM s i j):txt (s.extract 1 i) (s.extract (i+1) j) (s.extract (j+1) (s.size - 1))=s:=by
 have hk:=cn h
 obtain⟨h1,h2,h3,hij,hj,ei,ej,ho⟩:=h
 have q1:=hk.1;have q2:=hk.2.1;have q3:=hk.2.2.1
 have z1:(s.extract 1 i).size=i - 1:=bd (by omega)
 have z2:(s.extract (i+1) j).size=j - (i+1):=bd (by omega)
 have z3:(s.extract (j+1) (s.size - 1)).size=s.size - 1 - (j+1):=bd (by omega)
 have ei:by' s i=32:=ei
 have ej:by' s j=32:=ej
 refine fh (by rw[eD,z1,z2,z3];omega) (fun m hm=> ?_)
 rw[eD,z1,z2,z3]at hm
 by_cases m0:m=0
 ·subst m0;rw[vE,h2]
 by_cases m1:m<i
 ·rw[show m=1+(m - 1)by omega,vF _ _ _ (by rw[z1];omega),dB _ _ _ _ (by omega) (by omega)]
 by_cases m2:m=i
 ·have:=xz (s.extract 1 i) (s.extract (i+1) j) (s.extract (j+1) (s.size - 1))
  rw[z1,show 1+(i - 1)=i by omega]at this
  rw[m2,this,ei]
 by_cases m3:m<j
 ·have:=vG (s.extract 1 i) (s.extract (i+1) j) (s.extract (j+1) (s.size - 1)) (k:=m - (i+1)) (by rw[z2];omega)
  rw[z1,show 2+(i - 1)+(m - (i+1))=m by omega]at this
  rw[this,dB _ _ _ _ (by omega) (by omega),show i+1+(m - (i+1))=m by omega]
 by_cases m4:m=j
 ·have:=xA (s.extract 1 i) (s.extract (i+1) j) (s.extract (j+1) (s.size - 1))
  rw[z1,z2,show 2+(i - 1)+(j - (i+1))=j by omega]at this
  rw[m4,this,ej]
 by_cases m5:m<s.size - 1
 ·have:=vH (s.extract 1 i) (s.extract (i+1) j) (s.extract (j+1) (s.size - 1)) (k:=m - (j+1)) (by rw[z3];omega)
  rw[z1,z2,show 3+(i - 1)+(j - (i+1))+(m - (j+1))=m by omega]at this
  rw[this,dB _ _ _ _ (by omega) (by omega),show j+1+(m - (j+1))=m by omega]
 ·have:=vI (s.extract 1 i) (s.extract (i+1) j) (s.extract (j+1) (s.size - 1))
  rw[z1,z2,z3,show 3+(i - 1)+(j - (i+1))+(s.size - 1 - (j+1))=m by omega]at this
  rw[this,show m=s.size - 1 by omega,h3]
theorem Vq.fmt_txt (a:Vq):a.fmt=txt a.x.fmt a.y.fmt a.z.fmt:=rfl
/-- What a text that is a vector gives. -/
theorem g0 {s:ByteArray} {v:Vq} (h:VP s v 0):v.good∧v.ok 1000∧v.fmt=s:=by
 generalize hc:(0:Int)=c at h
 cases h with
 | form h=>exact absurd hc (by decide)
 | e0 _ _ h0=>exact absurd hc.symm h0
 | e1 _ _ _ h0=>exact absurd hc.symm h0
 | e2 _ _ _ _ h0=>exact absurd hc.symm h0
 | good h hx hy hz=>exact⟨⟨mf hx rfl,mf hy rfl,mf hz rfl⟩,⟨om hx,om hy,om hz⟩,by rw[Vq.fmt_txt];show txt (Fq.fmt _) (Fq.fmt _) (Fq.fmt _)=s;rw[qB hx rfl,qB hy rfl,qB hz rfl];exact yY h⟩
theorem rE {s:ByteArray} {v:Vq} {c:Int} (h:VP s v c) (hc:c≠0):v= .zero:=by
 cases h with
 | good=>exact absurd rfl hc
 | _=>rfl
theorem vJ {a:Vq} (g:a.good) (k:a.ok 4):VP a.fmt a 0:=by
 have fx:=jT g.x (Nat.le_trans k.x.p (by decide)) (Nat.le_trans k.x.q (by decide))
 have fy:=jT g.y (Nat.le_trans k.y.p (by decide)) (Nat.le_trans k.y.q (by decide))
 have fz:=jT g.z (Nat.le_trans k.z.p (by decide)) (Nat.le_trans k.z.q (by decide))
 rw[Vq.fmt_txt]
 exact .good (wX _ _ _ (vD fx rfl) (vD fy rfl) (vD fz rfl)) (by rw[txt_X];exact fx) (by rw[txt_Y];exact fy) (by rw[txt_Z];exact fz)
theorem ng {a:Vq} (k:a.ok 4):a.fmt.size≤1000:=by
 have h1:=cR k.x;have h2:=cR k.y;have h3:=cR k.z
 rw[Vq.fmt_txt,eD];omega
end Go.Proofs.YtfhinmdhjlmikaaDoor
namespace Go.Proofs.YtfhinmdhjlmikaaDoor
set_option linter.unusedSimpArgs false
set_option linter.unusedVariables false
set_option maxRecDepth 100000
open Go.RowKit
def fD (r0 r1 r2:Rq):Bool:=r0.vld && (r1.vld && r2.vld)
def qF (r0 r1 r2:Rq):List Fq:=[]
def qG (r0 r1 r2:Rq):List Fq:=[]
def qH (r0 r1 r2:Rq):List Fq:=[]
def qI (r0 r1 r2:Rq):List Fq:=[]
theorem sS (x:Value) (r0 r1 r2:Rq) (w:World) (h:IsL w x [r0,r1,r2]) (lr0:r0.L≤1000000) (nr0:r0.N≤1000000) (lr1:r1.L≤1000000) (nr1:r1.N≤1000000) (lr2:r2.L≤1000000) (nr2:r2.N≤1000000):Calls Tryd.prog 12 #[x] w fun e w'=>bE w (.bool (fD r0 r1 r2)) e w':=by
 rcases Bool.eq_false_or_eq_true (r0.vld)with c0 | c0
 ·rcases Bool.eq_false_or_eq_true (r1.vld)with c1 | c1
  ·rcases Bool.eq_false_or_eq_true (r2.vld)with c2 | c2
   ·refine(cRn (ρ:=frs (qF r0 r1 r2)++ [.val (.bool r0.s),.dig r0.L r0.p,.dig r0.N r0.q,.val (.bool r1.s),.dig r1.L r1.p,.dig r1.N r1.q,.val (.bool r2.s),.dig r2.L r2.p,.dig r2.N r2.q]) (args:=[cY [0,3,6]]) (vs:=[x]) (r:=.v (.one (.b true)))
     (ae (cP (n:=0) (r:=r0) (d:=true) ⟨⟨rfl,rfl,rfl⟩,trivial⟩ c0 lr0 nr0) (ae (cP (n:=3) (r:=r1) (d:=true) ⟨⟨rfl,rfl,rfl⟩,trivial⟩ c1 lr1 nr1) (ae (cP (n:=6) (r:=r2) (d:=true) ⟨⟨rfl,rfl,rfl⟩,trivial⟩ c2 lr2 nr2) ag)))
     ah Tryd.func12 (by kernel_rfl) ⟨(aE (ns:=[0,3,6]) (rs:=[r0,r1,r2]) ⟨⟨rfl,rfl,rfl⟩,⟨rfl,rfl,rfl⟩,⟨rfl,rfl,rfl⟩,trivial⟩).2 h,trivial⟩).mono ?_
    rintro e w' ⟨v,rfl,h1,h2⟩
    have h1:v= .bool _:=h1
    subst h1
    exact⟨by simp[fD,c0,c1,c2],h2⟩
   ·refine(cRn (ρ:=frs (qG r0 r1 r2)++ [.val (.bool r0.s),.dig r0.L r0.p,.dig r0.N r0.q,.val (.bool r1.s),.dig r1.L r1.p,.dig r1.N r1.q,.val (.bool r2.s),.dig r2.L r2.p,.dig r2.N r2.q]) (args:=[cY [0,3,6]]) (vs:=[x]) (r:=.v (.one (.b false)))
     (ae (cP (n:=0) (r:=r0) (d:=true) ⟨⟨rfl,rfl,rfl⟩,trivial⟩ c0 lr0 nr0) (ae (cP (n:=3) (r:=r1) (d:=true) ⟨⟨rfl,rfl,rfl⟩,trivial⟩ c1 lr1 nr1) (ae (cP (n:=6) (r:=r2) (d:=false) ⟨⟨rfl,rfl,rfl⟩,trivial⟩ c2 lr2 nr2) ag)))
     ah Tryd.func12 (by kernel_rfl) ⟨(aE (ns:=[0,3,6]) (rs:=[r0,r1,r2]) ⟨⟨rfl,rfl,rfl⟩,⟨rfl,rfl,rfl⟩,⟨rfl,rfl,rfl⟩,trivial⟩).2 h,trivial⟩).mono ?_
    rintro e w' ⟨v,rfl,h1,h2⟩
    have h1:v= .bool _:=h1
    subst h1
    exact⟨by simp[fD,c0,c1,c2],h2⟩
  ·refine(cRn (ρ:=frs (qH r0 r1 r2)++ [.val (.bool r0.s),.dig r0.L r0.p,.dig r0.N r0.q,.val (.bool r1.s),.dig r1.L r1.p,.dig r1.N r1.q,.val (.bool r2.s),.dig r2.L r2.p,.dig r2.N r2.q]) (args:=[cY [0,3,6]]) (vs:=[x]) (r:=.v (.one (.b false)))
    (ae (cP (n:=0) (r:=r0) (d:=true) ⟨⟨rfl,rfl,rfl⟩,trivial⟩ c0 lr0 nr0) (ae (cP (n:=3) (r:=r1) (d:=false) ⟨⟨rfl,rfl,rfl⟩,trivial⟩ c1 lr1 nr1) ag))
    ah Tryd.func12 (by kernel_rfl) ⟨(aE (ns:=[0,3,6]) (rs:=[r0,r1,r2]) ⟨⟨rfl,rfl,rfl⟩,⟨rfl,rfl,rfl⟩,⟨rfl,rfl,rfl⟩,trivial⟩).2 h,trivial⟩).mono ?_
   rintro e w' ⟨v,rfl,h1,h2⟩
   have h1:v= .bool _:=h1
   subst h1
   exact⟨by simp[fD,c0,c1],h2⟩
 ·refine(cRn (ρ:=frs (qI r0 r1 r2)++ [.val (.bool r0.s),.dig r0.L r0.p,.dig r0.N r0.q,.val (.bool r1.s),.dig r1.L r1.p,.dig r1.N r1.q,.val (.bool r2.s),.dig r2.L r2.p,.dig r2.N r2.q]) (args:=[cY [0,3,6]]) (vs:=[x]) (r:=.v (.one (.b false)))
   (ae (cP (n:=0) (r:=r0) (d:=false) ⟨⟨rfl,rfl,rfl⟩,trivial⟩ c0 lr0 nr0) ag)
   ah Tryd.func12 (by kernel_rfl) ⟨(aE (ns:=[0,3,6]) (rs:=[r0,r1,r2]) ⟨⟨rfl,rfl,rfl⟩,⟨rfl,rfl,rfl⟩,⟨rfl,rfl,rfl⟩,trivial⟩).2 h,trivial⟩).mono ?_
  rintro e w' ⟨v,rfl,h1,h2⟩
  have h1:v= .bool _:=h1
  subst h1
  exact⟨by simp[fD,c0],h2⟩
theorem g7 {xs:List Fq} {ys:Rho} {ns:List Nat} {r0 r1 r2:Rq} {d:Bool} (hr:AtR (frs xs++ys) ns [r0,r1,r2]) (hd:fD r0 r1 r2=d) (lr0:r0.L≤1000000) (nr0:r0.N≤1000000) (lr1:r1.L≤1000000) (nr1:r1.N≤1000000) (lr2:r2.L≤1000000) (nr2:r2.N≤1000000):OkI xs ys ⟨12,[cY ns],.v (.one (.b d))⟩:=
 ⟨ai Tryd.func12 rfl rfl,fun B w vs hB h=>by
  match vs,h with
  | [x],h=>
   refine(sS x r0 r1 r2 w ((aE hr).1 h.1) lr0 nr0 lr1 nr1 lr2 nr2).mono ?_
   rintro e w' ⟨rfl,h2⟩
   exact⟨_,rfl,by subst hd;rfl,h2⟩⟩
def pE (r0 r1 r2:Rq):List Fq:=[]
def pF (r0 r1 r2:Rq):List Fq:=[]
def pG (r0 r1 r2:Rq):List Fq:=[]
def pH (r0 r1 r2:Rq):List Fq:=[]
theorem qJ (x:Value) (r0 r1 r2:Rq) (w:World) (h:IsL w x [r0,r1,r2]) (lr0:r0.L≤1000000) (nr0:r0.N≤1000000) (lr1:r1.L≤1000000) (nr1:r1.N≤1000000) (lr2:r2.L≤1000000) (nr2:r2.N≤1000000):Calls Tryd.prog 13 #[x] w fun e w'=>bE w (.bool (fD r0 r1 r2)) e w':=by
 rcases Bool.eq_false_or_eq_true (r0.vld)with c0 | c0
 ·rcases Bool.eq_false_or_eq_true (r1.vld)with c1 | c1
  ·rcases Bool.eq_false_or_eq_true (r2.vld)with c2 | c2
   ·refine(cRn (ρ:=frs (pE r0 r1 r2)++ [.val (.bool r0.s),.dig r0.L r0.p,.dig r0.N r0.q,.val (.bool r1.s),.dig r1.L r1.p,.dig r1.N r1.q,.val (.bool r2.s),.dig r2.L r2.p,.dig r2.N r2.q]) (args:=[cY [0,3,6]]) (vs:=[x]) (r:=.v (.one (.b true)))
     (ae (ci (n:=0) (r:=r0) (d:=true) ⟨⟨rfl,rfl,rfl⟩,trivial⟩ c0 lr0 nr0) (ae (ci (n:=3) (r:=r1) (d:=true) ⟨⟨rfl,rfl,rfl⟩,trivial⟩ c1 lr1 nr1) (ae (ci (n:=6) (r:=r2) (d:=true) ⟨⟨rfl,rfl,rfl⟩,trivial⟩ c2 lr2 nr2) ag)))
     ah Tryd.func13 (by kernel_rfl) ⟨(aE (ns:=[0,3,6]) (rs:=[r0,r1,r2]) ⟨⟨rfl,rfl,rfl⟩,⟨rfl,rfl,rfl⟩,⟨rfl,rfl,rfl⟩,trivial⟩).2 h,trivial⟩).mono ?_
    rintro e w' ⟨v,rfl,h1,h2⟩
    have h1:v= .bool _:=h1
    subst h1
    exact⟨by simp[fD,c0,c1,c2],h2⟩
   ·refine(cRn (ρ:=frs (pF r0 r1 r2)++ [.val (.bool r0.s),.dig r0.L r0.p,.dig r0.N r0.q,.val (.bool r1.s),.dig r1.L r1.p,.dig r1.N r1.q,.val (.bool r2.s),.dig r2.L r2.p,.dig r2.N r2.q]) (args:=[cY [0,3,6]]) (vs:=[x]) (r:=.v (.one (.b false)))
     (ae (ci (n:=0) (r:=r0) (d:=true) ⟨⟨rfl,rfl,rfl⟩,trivial⟩ c0 lr0 nr0) (ae (ci (n:=3) (r:=r1) (d:=true) ⟨⟨rfl,rfl,rfl⟩,trivial⟩ c1 lr1 nr1) (ae (ci (n:=6) (r:=r2) (d:=false) ⟨⟨rfl,rfl,rfl⟩,trivial⟩ c2 lr2 nr2) ag)))
     ah Tryd.func13 (by kernel_rfl) ⟨(aE (ns:=[0,3,6]) (rs:=[r0,r1,r2]) ⟨⟨rfl,rfl,rfl⟩,⟨rfl,rfl,rfl⟩,⟨rfl,rfl,rfl⟩,trivial⟩).2 h,trivial⟩).mono ?_
    rintro e w' ⟨v,rfl,h1,h2⟩
    have h1:v= .bool _:=h1
    subst h1
    exact⟨by simp[fD,c0,c1,c2],h2⟩
  ·refine(cRn (ρ:=frs (pG r0 r1 r2)++ [.val (.bool r0.s),.dig r0.L r0.p,.dig r0.N r0.q,.val (.bool r1.s),.dig r1.L r1.p,.dig r1.N r1.q,.val (.bool r2.s),.dig r2.L r2.p,.dig r2.N r2.q]) (args:=[cY [0,3,6]]) (vs:=[x]) (r:=.v (.one (.b false)))
    (ae (ci (n:=0) (r:=r0) (d:=true) ⟨⟨rfl,rfl,rfl⟩,trivial⟩ c0 lr0 nr0) (ae (ci (n:=3) (r:=r1) (d:=false) ⟨⟨rfl,rfl,rfl⟩,trivial⟩ c1 lr1 nr1) ag))
    ah Tryd.func13 (by kernel_rfl) ⟨(aE (ns:=[0,3,6]) (rs:=[r0,r1,r2]) ⟨⟨rfl,rfl,rfl⟩,⟨rfl,rfl,rfl⟩,⟨rfl,rfl,rfl⟩,trivial⟩).2 h,trivial⟩).mono ?_
   rintro e w' ⟨v,rfl,h1,h2⟩
   have h1:v= .bool _:=h1
   subst h1
   exact⟨by simp[fD,c0,c1],h2⟩
 ·refine(cRn (ρ:=frs (pH r0 r1 r2)++ [.val (.bool r0.s),.dig r0.L r0.p,.dig r0.N r0.q,.val (.bool r1.s),.dig r1.L r1.p,.dig r1.N r1.q,.val (.bool r2.s),.dig r2.L r2.p,.dig r2.N r2.q]) (args:=[cY [0,3,6]]) (vs:=[x]) (r:=.v (.one (.b false)))
   (ae (ci (n:=0) (r:=r0) (d:=false) ⟨⟨rfl,rfl,rfl⟩,trivial⟩ c0 lr0 nr0) ag)
   ah Tryd.func13 (by kernel_rfl) ⟨(aE (ns:=[0,3,6]) (rs:=[r0,r1,r2]) ⟨⟨rfl,rfl,rfl⟩,⟨rfl,rfl,rfl⟩,⟨rfl,rfl,rfl⟩,trivial⟩).2 h,trivial⟩).mono ?_
  rintro e w' ⟨v,rfl,h1,h2⟩
  have h1:v= .bool _:=h1
  subst h1
  exact⟨by simp[fD,c0],h2⟩
theorem gc {xs:List Fq} {ys:Rho} {ns:List Nat} {r0 r1 r2:Rq} {d:Bool} (hr:AtR (frs xs++ys) ns [r0,r1,r2]) (hd:fD r0 r1 r2=d) (lr0:r0.L≤1000000) (nr0:r0.N≤1000000) (lr1:r1.L≤1000000) (nr1:r1.N≤1000000) (lr2:r2.L≤1000000) (nr2:r2.N≤1000000):OkI xs ys ⟨13,[cY ns],.v (.one (.b d))⟩:=
 ⟨ai Tryd.func13 rfl rfl,fun B w vs hB h=>by
  match vs,h with
  | [x],h=>
   refine(qJ x r0 r1 r2 w ((aE hr).1 h.1) lr0 nr0 lr1 nr1 lr2 nr2).mono ?_
   rintro e w' ⟨rfl,h2⟩
   exact⟨_,rfl,by subst hd;rfl,h2⟩⟩
end Go.Proofs.YtfhinmdhjlmikaaDoor
