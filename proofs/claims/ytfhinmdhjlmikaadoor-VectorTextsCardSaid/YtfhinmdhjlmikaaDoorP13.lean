/- Texts of fractions, by the executor. Parse of the reference of fractions, by the executor. -/
import Derived.Test.YtfhinmdhjlmikaaDoorP12
namespace Go.Proofs.YtfhinmdhjlmikaaDoor
set_option linter.unusedSimpArgs false
set_option linter.unusedVariables false
set_option maxRecDepth 100000
open Go.RowKit
theorem jd {ρ:Rho} {x:Fq} {a b:Nat} {l:Leaf} {v:Bool} (hx:FAt ρ l a b x) (hv:x.valid=v) (hp:nl x.p≤1000000) (hq:nl x.q≤1000000):Inst.Ok Tryd.prog ρ ⟨26,[.agg [l,.ref a,.ref b]],.v (.one (.b v))⟩:=
 i1QV (ai Tryd.func26 rfl rfl) (fun va w h1=>pq va x w h1 hp hq) hx (lb hv)
theorem ck {ρ:Rho} {n m:Nat} {s t:ByteArray} {B:Bool} {l:Leaf} (hn:ρ[n]? =some (.val (.string s))) (hm:ρ[m]? =some (.val (.string t))) (hl:∀B' w,l.holds ρ B' w (.bool B)) (hb:decide (0<s.size∧by' s 0=45)=B) (ht:t=if B then s.extract 1 s.size else s):Inst.Ok Tryd.prog ρ ⟨42,[.one (.ref n),.one (.s (ByteArray.mk #[45]))],.tup [.one (.ref m),.one l]⟩:=
 ⟨ai Tryd.func42 rfl rfl,fun Bk w vs hB h=>by
  match vs,h with
  | [va,vb],h=>
   obtain rfl:=aj hn h.1
   have e2:vb= .string (ByteArray.mk #[45]):=h.2.1
   subst e2
   refine(po s t B w hb ht).mono ?_
   rintro e w' ⟨rfl,h2⟩
   exact⟨_,rfl,⟨[.string t,.bool B],rfl,am hm aC,hl _ _,trivial⟩,h2⟩⟩
theorem kt {ρ:Rho} {n i j:Nat} {s t a b:ByteArray} {B F:Bool} (hn:ρ[n]? =some (.val (.string t))) (hi:ρ[i]? =some (.val (.string a))) (hj:ρ[j]? =some (.val (.string b))) (HP:Pieces s t B F a b) (ht:t.size≤4294967280):Inst.Ok Tryd.prog ρ ⟨43,[.one (.ref n),.one (.s (ByteArray.mk #[47]))],.tup [.one (.ref i),.one (.ref j),.one (.b F)]⟩:=
 ⟨ai Tryd.func43 rfl rfl,fun Bk w vs hB h=>by
  match vs,h with
  | [va,vb],h=>
   obtain rfl:=aj hn h.1
   have e2:vb= .string (ByteArray.mk #[47]):=h.2.1
   subst e2
   refine(sy HP w ht).mono ?_
   rintro e w' ⟨rfl,h2⟩
   exact⟨_,rfl,⟨[.string a,.string b,.bool F],rfl,am hi aC,am hj aC,rfl,trivial⟩,h2⟩⟩
theorem sP (va:Value) (x:Fq) (w:World) (ha:IsQ w va x) (h:x.ok 1000000000):
  Calls Tryd.prog 25 #[va] w fun e w'=>bE w (.string x.fmt) e w':=by
 by_cases c0:x.q=1
 ·rcases Bool.eq_false_or_eq_true (x.s)with c1 | c1
  ·have z1:=bv x.p
   have z2:=bv x.q
   have z3:=h.p
   have z4:=h.q
   refine(cRn (ρ:=[.dig (nl x.p) x.p,.dig (nl x.q) x.q,.val (.string (aM x.p)),.row 24 1 [.dig (nl x.q) x.q],.val (.string ((ByteArray.mk #[45])++(aM x.p)))]) (args:=[.agg [.b true,.ref 0,.ref 1]]) (vs:=[va]) (r:=.v (.one (.ref 4)))
    (ae (jM (i:=0) rfl (ls (n:=2) rfl) (Nat.le_trans h.p (by decide))) (ae (fA (n:=3) rfl (decide_eq_true c0) (Nat.le_trans h.q (by decide))) ag))
    (ac (i5 (m:=3) (ss:=[nt 1]) (N:=1) (sz:=1) (z:=[.sl0]) (qs:=[.dig (nl x.q) x.q]) (ix:=[0]) (ls:=[.ref 1]) Tryd.underlying85 (by kernel_rfl) (by kernel_rfl) (by decide) (by decide) (by decide) rfl (by kernel_rfl) ⟨dL rfl,trivial⟩ rfl) (ac (eU (n:=2) (m:=4) (s:=(ByteArray.mk #[45])) (z:=(aM x.p)) (t:=9) (by kernel_rfl) rfl rfl (by simp only[ByteArray.size_append,bsz,List.size_toArray,List.length_cons,List.length_nil];omega)) (ah))) Tryd.func25 (by kernel_rfl) ⟨(inF ha (lb c1) rfl rfl),trivial⟩).mono ?_
   rintro e w' ⟨v,rfl,h1,h2⟩
   have h1:=(aj rfl h1)
   subst h1
   exact⟨by unfold Fq.fmt;simp[ByteArray.append_assoc,c0,c1],h2⟩
  ·have z1:=bv x.p
   have z2:=bv x.q
   have z3:=h.p
   have z4:=h.q
   refine(cRn (ρ:=[.dig (nl x.p) x.p,.dig (nl x.q) x.q,.val (.string (aM x.p)),.row 24 1 [.dig (nl x.q) x.q]]) (args:=[.agg [.b false,.ref 0,.ref 1]]) (vs:=[va]) (r:=.v (.one (.ref 2)))
    (ae (jM (i:=0) rfl (ls (n:=2) rfl) (Nat.le_trans h.p (by decide))) (ae (fA (n:=3) rfl (decide_eq_true c0) (Nat.le_trans h.q (by decide))) ag))
    (ac (i5 (m:=3) (ss:=[nt 1]) (N:=1) (sz:=1) (z:=[.sl0]) (qs:=[.dig (nl x.q) x.q]) (ix:=[0]) (ls:=[.ref 1]) Tryd.underlying85 (by kernel_rfl) (by kernel_rfl) (by decide) (by decide) (by decide) rfl (by kernel_rfl) ⟨dL rfl,trivial⟩ rfl) (ah)) Tryd.func25 (by kernel_rfl) ⟨(inF ha (lb c1) rfl rfl),trivial⟩).mono ?_
   rintro e w' ⟨v,rfl,h1,h2⟩
   have h1:=(aj rfl h1)
   subst h1
   exact⟨by unfold Fq.fmt;simp[ByteArray.append_assoc,c0,c1],h2⟩
 ·rcases Bool.eq_false_or_eq_true (x.s)with c1 | c1
  ·have z1:=bv x.p
   have z2:=bv x.q
   have z3:=h.p
   have z4:=h.q
   refine(cRn (ρ:=[.dig (nl x.p) x.p,.dig (nl x.q) x.q,.val (.string (aM x.p)),.row 24 1 [.dig (nl x.q) x.q],.val (.string (aM x.q)),.val (.string ((ByteArray.mk #[47])++(aM x.q))),.val (.string ((aM x.p)++((ByteArray.mk #[47])++(aM x.q)))),.val (.string ((ByteArray.mk #[45])++((aM x.p)++((ByteArray.mk #[47])++(aM x.q)))))]) (args:=[.agg [.b true,.ref 0,.ref 1]]) (vs:=[va]) (r:=.v (.one (.ref 7)))
    (ae (jM (i:=0) rfl (ls (n:=2) rfl) (Nat.le_trans h.p (by decide))) (ae (fA (n:=3) rfl (decide_eq_false c0) (Nat.le_trans h.q (by decide))) (ae (jM (i:=1) rfl (ls (n:=4) rfl) (Nat.le_trans h.q (by decide))) ag)))
    (ac (i5 (m:=3) (ss:=[nt 1]) (N:=1) (sz:=1) (z:=[.sl0]) (qs:=[.dig (nl x.q) x.q]) (ix:=[0]) (ls:=[.ref 1]) Tryd.underlying85 (by kernel_rfl) (by kernel_rfl) (by decide) (by decide) (by decide) rfl (by kernel_rfl) ⟨dL rfl,trivial⟩ rfl) (ac (eU (n:=4) (m:=5) (s:=(ByteArray.mk #[47])) (z:=(aM x.q)) (t:=9) (by kernel_rfl) rfl rfl (by simp only[ByteArray.size_append,bsz,List.size_toArray,List.length_cons,List.length_nil];omega)) (ac (eW (n:=2) (m:=6) (k:=5) (s:=(aM x.p)) (z:=((ByteArray.mk #[47])++(aM x.q))) (t:=9) (by kernel_rfl) rfl rfl rfl (by simp only[ByteArray.size_append,bsz,List.size_toArray,List.length_cons,List.length_nil];omega)) (ac (eU (n:=6) (m:=7) (s:=(ByteArray.mk #[45])) (z:=((aM x.p)++((ByteArray.mk #[47])++(aM x.q)))) (t:=9) (by kernel_rfl) rfl rfl (by simp only[ByteArray.size_append,bsz,List.size_toArray,List.length_cons,List.length_nil];omega)) (ah))))) Tryd.func25 (by kernel_rfl) ⟨(inF ha (lb c1) rfl rfl),trivial⟩).mono ?_
   rintro e w' ⟨v,rfl,h1,h2⟩
   have h1:=(aj rfl h1)
   subst h1
   exact⟨by unfold Fq.fmt;simp[ByteArray.append_assoc,c0,c1],h2⟩
  ·have z1:=bv x.p
   have z2:=bv x.q
   have z3:=h.p
   have z4:=h.q
   refine(cRn (ρ:=[.dig (nl x.p) x.p,.dig (nl x.q) x.q,.val (.string (aM x.p)),.row 24 1 [.dig (nl x.q) x.q],.val (.string (aM x.q)),.val (.string ((ByteArray.mk #[47])++(aM x.q))),.val (.string ((aM x.p)++((ByteArray.mk #[47])++(aM x.q))))]) (args:=[.agg [.b false,.ref 0,.ref 1]]) (vs:=[va]) (r:=.v (.one (.ref 6)))
    (ae (jM (i:=0) rfl (ls (n:=2) rfl) (Nat.le_trans h.p (by decide))) (ae (fA (n:=3) rfl (decide_eq_false c0) (Nat.le_trans h.q (by decide))) (ae (jM (i:=1) rfl (ls (n:=4) rfl) (Nat.le_trans h.q (by decide))) ag)))
    (ac (i5 (m:=3) (ss:=[nt 1]) (N:=1) (sz:=1) (z:=[.sl0]) (qs:=[.dig (nl x.q) x.q]) (ix:=[0]) (ls:=[.ref 1]) Tryd.underlying85 (by kernel_rfl) (by kernel_rfl) (by decide) (by decide) (by decide) rfl (by kernel_rfl) ⟨dL rfl,trivial⟩ rfl) (ac (eU (n:=4) (m:=5) (s:=(ByteArray.mk #[47])) (z:=(aM x.q)) (t:=9) (by kernel_rfl) rfl rfl (by simp only[ByteArray.size_append,bsz,List.size_toArray,List.length_cons,List.length_nil];omega)) (ac (eW (n:=2) (m:=6) (k:=5) (s:=(aM x.p)) (z:=((ByteArray.mk #[47])++(aM x.q))) (t:=9) (by kernel_rfl) rfl rfl rfl (by simp only[ByteArray.size_append,bsz,List.size_toArray,List.length_cons,List.length_nil];omega)) (ah)))) Tryd.func25 (by kernel_rfl) ⟨(inF ha (lb c1) rfl rfl),trivial⟩).mono ?_
   rintro e w' ⟨v,rfl,h1,h2⟩
   have h1:=(aj rfl h1)
   subst h1
   exact⟨by unfold Fq.fmt;simp[ByteArray.append_assoc,c0,c1],h2⟩
theorem sQ (va:Value) (x:Fq) (w:World) (ha:IsQ w va x) (h:x.ok 1000000000):
  Calls Tryd.prog 29 #[va] w fun e w'=>bE w (.string x.fmt) e w':=by
 rcases Bool.eq_false_or_eq_true (x.s)with c0 | c0
 ·by_cases c1:x.q=1
  ·have z1:=bv x.p
   have z2:=bv x.q
   have z3:=h.p
   have z4:=h.q
   refine(cRn (ρ:=[.dig (nl x.p) x.p,.dig (nl x.q) x.q,.val (.string (aM x.p)),.val (.string ((ByteArray.mk #[45])++(aM x.p))),.dig (nl 1) 1]) (args:=[.agg [.b true,.ref 0,.ref 1]]) (vs:=[va]) (r:=.v (.one (.ref 3)))
    (ae (jN (i:=0) rfl (ls (n:=2) rfl) (Nat.le_trans h.p (by decide))) (ae (cX (k:=4) rfl (by decide)) (ae (bK (i:=1) (j:=4) rfl rfl (decide_eq_true c1) (Nat.le_trans h.q (by decide)) (Nat.le_trans bk (by decide))) ag)))
    (ac (eU (n:=2) (m:=3) (s:=(ByteArray.mk #[45])) (z:=(aM x.p)) (t:=9) (by kernel_rfl) rfl rfl (by simp only[ByteArray.size_append,bsz,List.size_toArray,List.length_cons,List.length_nil];omega)) (ah)) Tryd.func29 (by kernel_rfl) ⟨(inF ha (lb c0) rfl rfl),trivial⟩).mono ?_
   rintro e w' ⟨v,rfl,h1,h2⟩
   have h1:=(aj rfl h1)
   subst h1
   exact⟨by unfold Fq.fmt;simp[ByteArray.append_assoc,c0,c1],h2⟩
  ·have z1:=bv x.p
   have z2:=bv x.q
   have z3:=h.p
   have z4:=h.q
   refine(cRn (ρ:=[.dig (nl x.p) x.p,.dig (nl x.q) x.q,.val (.string (aM x.p)),.val (.string ((ByteArray.mk #[45])++(aM x.p))),.dig (nl 1) 1,.val (.string (((ByteArray.mk #[45])++(aM x.p))++(ByteArray.mk #[47]))),.val (.string (aM x.q)),.val (.string ((((ByteArray.mk #[45])++(aM x.p))++(ByteArray.mk #[47]))++(aM x.q)))]) (args:=[.agg [.b true,.ref 0,.ref 1]]) (vs:=[va]) (r:=.v (.one (.ref 7)))
    (ae (jN (i:=0) rfl (ls (n:=2) rfl) (Nat.le_trans h.p (by decide))) (ae (cX (k:=4) rfl (by decide)) (ae (bK (i:=1) (j:=4) rfl rfl (decide_eq_false c1) (Nat.le_trans h.q (by decide)) (Nat.le_trans bk (by decide))) (ae (jN (i:=1) rfl (ls (n:=6) rfl) (Nat.le_trans h.q (by decide))) ag))))
    (ac (eU (n:=2) (m:=3) (s:=(ByteArray.mk #[45])) (z:=(aM x.p)) (t:=9) (by kernel_rfl) rfl rfl (by simp only[ByteArray.size_append,bsz,List.size_toArray,List.length_cons,List.length_nil];omega)) (ac (eV (n:=3) (m:=5) (s:=((ByteArray.mk #[45])++(aM x.p))) (z:=(ByteArray.mk #[47])) (t:=9) (by kernel_rfl) rfl rfl (by simp only[ByteArray.size_append,bsz,List.size_toArray,List.length_cons,List.length_nil];omega)) (ac (eW (n:=5) (m:=7) (k:=6) (s:=(((ByteArray.mk #[45])++(aM x.p))++(ByteArray.mk #[47]))) (z:=(aM x.q)) (t:=9) (by kernel_rfl) rfl rfl rfl (by simp only[ByteArray.size_append,bsz,List.size_toArray,List.length_cons,List.length_nil];omega)) (ah)))) Tryd.func29 (by kernel_rfl) ⟨(inF ha (lb c0) rfl rfl),trivial⟩).mono ?_
   rintro e w' ⟨v,rfl,h1,h2⟩
   have h1:=(aj rfl h1)
   subst h1
   exact⟨by unfold Fq.fmt;simp[ByteArray.append_assoc,c0,c1],h2⟩
 ·by_cases c1:x.q=1
  ·have z1:=bv x.p
   have z2:=bv x.q
   have z3:=h.p
   have z4:=h.q
   refine(cRn (ρ:=[.dig (nl x.p) x.p,.dig (nl x.q) x.q,.val (.string (aM x.p)),.dig (nl 1) 1]) (args:=[.agg [.b false,.ref 0,.ref 1]]) (vs:=[va]) (r:=.v (.one (.ref 2)))
    (ae (jN (i:=0) rfl (ls (n:=2) rfl) (Nat.le_trans h.p (by decide))) (ae (cX (k:=3) rfl (by decide)) (ae (bK (i:=1) (j:=3) rfl rfl (decide_eq_true c1) (Nat.le_trans h.q (by decide)) (Nat.le_trans bk (by decide))) ag)))
    ah Tryd.func29 (by kernel_rfl) ⟨(inF ha (lb c0) rfl rfl),trivial⟩).mono ?_
   rintro e w' ⟨v,rfl,h1,h2⟩
   have h1:=(aj rfl h1)
   subst h1
   exact⟨by unfold Fq.fmt;simp[ByteArray.append_assoc,c0,c1],h2⟩
  ·have z1:=bv x.p
   have z2:=bv x.q
   have z3:=h.p
   have z4:=h.q
   refine(cRn (ρ:=[.dig (nl x.p) x.p,.dig (nl x.q) x.q,.val (.string (aM x.p)),.dig (nl 1) 1,.val (.string ((aM x.p)++(ByteArray.mk #[47]))),.val (.string (aM x.q)),.val (.string (((aM x.p)++(ByteArray.mk #[47]))++(aM x.q)))]) (args:=[.agg [.b false,.ref 0,.ref 1]]) (vs:=[va]) (r:=.v (.one (.ref 6)))
    (ae (jN (i:=0) rfl (ls (n:=2) rfl) (Nat.le_trans h.p (by decide))) (ae (cX (k:=3) rfl (by decide)) (ae (bK (i:=1) (j:=3) rfl rfl (decide_eq_false c1) (Nat.le_trans h.q (by decide)) (Nat.le_trans bk (by decide))) (ae (jN (i:=1) rfl (ls (n:=5) rfl) (Nat.le_trans h.q (by decide))) ag))))
    (ac (eV (n:=2) (m:=4) (s:=(aM x.p)) (z:=(ByteArray.mk #[47])) (t:=9) (by kernel_rfl) rfl rfl (by simp only[ByteArray.size_append,bsz,List.size_toArray,List.length_cons,List.length_nil];omega)) (ac (eW (n:=4) (m:=6) (k:=5) (s:=((aM x.p)++(ByteArray.mk #[47]))) (z:=(aM x.q)) (t:=9) (by kernel_rfl) rfl rfl rfl (by simp only[ByteArray.size_append,bsz,List.size_toArray,List.length_cons,List.length_nil];omega)) (ah))) Tryd.func29 (by kernel_rfl) ⟨(inF ha (lb c0) rfl rfl),trivial⟩).mono ?_
   rintro e w' ⟨v,rfl,h1,h2⟩
   have h1:=(aj rfl h1)
   subst h1
   exact⟨by unfold Fq.fmt;simp[ByteArray.append_assoc,c0,c1],h2⟩
theorem wN (s t a b:ByteArray) (B:Bool) (M:Nat) (c:Int) (w:World) (HP:Pieces s t B true a b) (ht:t.size≤4294967280) (ha:ParseIs a M c) (h0:c≠0):
  Calls Tryd.prog 23 #[.string s] w fun e w'=>cd w Fq.zero c e w':=by
 refine(cRn (ρ:=[.val (.string s),.val (.string t),.val (.bool B),.val (.string a),.val (.string b),.dig (nl M) M,.val (.int .i64 c)]) (args:=[.one (.ref 0)]) (vs:=[.string s]) (r:=.tup [.agg [.b false,.sl0,.sl0],.one (.ref 6)])
  (ae (ck (n:=0) (m:=1) rfl rfl (lrb (n:=2) rfl) HP.sign HP.rest) (ae (kt (n:=1) (i:=3) (j:=4) rfl rfl rfl HP ht) (ae (cw (i:=3) (k:=5) rfl rfl (lr (n:=6) rfl) ha) ag)))
  (ac (ba (n:=6) (c:=0) (t:=33) rfl (cm h0)) (ah)) Tryd.func23 (by kernel_rfl) ⟨am (n:=0) rfl aC,trivial⟩).mono ?_
 rintro e w' ⟨v,rfl,h1,h2⟩
 obtain⟨u,rfl,h3⟩:=dZ h1 (fun _ _ _ h=>aj rfl h)
 exact⟨u,rfl,fU h3,h2⟩
theorem wO (s t a b:ByteArray) (B:Bool) (M:Nat) (c:Int) (w:World) (HP:Pieces s t B false a b) (ht:t.size≤4294967280) (ha:ParseIs a M c) (h0:c≠0):
  Calls Tryd.prog 23 #[.string s] w fun e w'=>cd w Fq.zero c e w':=by
 refine(cRn (ρ:=[.val (.string s),.val (.string t),.val (.bool B),.val (.string a),.val (.string b),.dig (nl M) M,.val (.int .i64 c)]) (args:=[.one (.ref 0)]) (vs:=[.string s]) (r:=.tup [.agg [.b false,.sl0,.sl0],.one (.ref 6)])
  (ae (ck (n:=0) (m:=1) rfl rfl (lrb (n:=2) rfl) HP.sign HP.rest) (ae (kt (n:=1) (i:=3) (j:=4) rfl rfl rfl HP ht) (ae (cw (i:=3) (k:=5) rfl rfl (lr (n:=6) rfl) ha) ag)))
  (ac (ba (n:=6) (c:=0) (t:=33) rfl (cm h0)) (ah)) Tryd.func23 (by kernel_rfl) ⟨am (n:=0) rfl aC,trivial⟩).mono ?_
 rintro e w' ⟨v,rfl,h1,h2⟩
 obtain⟨u,rfl,h3⟩:=dZ h1 (fun _ _ _ h=>aj rfl h)
 exact⟨u,rfl,fU h3,h2⟩
theorem yB (s t a b:ByteArray) (B:Bool) (M N:Nat) (c:Int) (w:World) (HP:Pieces s t B true a b) (ht:t.size≤4294967280) (ha:ParseIs a M 0) (hb:ParseIs b N c) (h0:c≠0):
  Calls Tryd.prog 23 #[.string s] w fun e w'=>cd w Fq.zero c e w':=by
 refine(cRn (ρ:=[.val (.string s),.val (.string t),.val (.bool B),.val (.string a),.val (.string b),.dig (nl M) M,.dig (nl 1) 1,.dig (nl N) N,.val (.int .i64 c)]) (args:=[.one (.ref 0)]) (vs:=[.string s]) (r:=.tup [.agg [.b false,.sl0,.sl0],.one (.ref 8)])
  (ae (ck (n:=0) (m:=1) rfl rfl (lrb (n:=2) rfl) HP.sign HP.rest) (ae (kt (n:=1) (i:=3) (j:=4) rfl rfl rfl HP ht) (ae (cw (i:=3) (k:=5) rfl rfl (li rfl) ha) (ae (i9 (k:=6) rfl (by decide)) (ae (cw (i:=4) (k:=7) rfl rfl (lr (n:=8) rfl) hb) ag)))))
  (ac (ba (n:=8) (c:=0) (t:=33) rfl (cm h0)) (ah)) Tryd.func23 (by kernel_rfl) ⟨am (n:=0) rfl aC,trivial⟩).mono ?_
 rintro e w' ⟨v,rfl,h1,h2⟩
 obtain⟨u,rfl,h3⟩:=dZ h1 (fun _ _ _ h=>aj rfl h)
 exact⟨u,rfl,fU h3,h2⟩
theorem fP_g1 (s t a b:ByteArray) (B:Bool) (M N:Nat) (w:World) (HP:Pieces s t B true a b) (ht:t.size≤4294967280) (ha:ParseIs a M 0) (hb:ParseIs b N 0) (hN:¬N=1) (hv:(Fq.mk B M N).valid=true):
  Calls Tryd.prog 23 #[.string s] w fun e w'=>cd w ⟨B,M,N⟩ 0 e w':=by
 refine(cRn (ρ:=[.val (.string s),.val (.string t),.val (.bool B),.val (.string a),.val (.string b),.dig (nl M) M,.dig (nl 1) 1,.dig (nl N) N,.row 24 1 [.dig (nl N) N]]) (args:=[.one (.ref 0)]) (vs:=[.string s]) (r:=.tup [q3 2 5 7,.one (.i .i64 0)])
  (ae (ck (n:=0) (m:=1) rfl rfl (lrb (n:=2) rfl) HP.sign HP.rest) (ae (kt (n:=1) (i:=3) (j:=4) rfl rfl rfl HP ht) (ae (cw (i:=3) (k:=5) rfl rfl (li rfl) ha) (ae (i9 (k:=6) rfl (by decide)) (ae (cw (i:=4) (k:=7) rfl rfl (li rfl) hb) (ae (fA (n:=8) rfl (decide_eq_false hN) (Nat.le_trans (au hb) (by decide))) (ae (jd (cV (l:=.ref 2) (a:=5) (b:=7) (x:=(Fq.mk B M N)) (lrb (n:=2) rfl) (br (n:=2) rfl) rfl rfl) hv (Nat.le_trans (au ha) (by decide)) (Nat.le_trans (au hb) (by decide))) ag)))))))
  (ac (i5 (m:=8) (ss:=[nt 7]) (N:=1) (sz:=1) (z:=[.sl0]) (qs:=[.dig (nl N) N]) (ix:=[0]) (ls:=[.ref 7]) Tryd.underlying85 (by kernel_rfl) (by kernel_rfl) (by decide) (by decide) (by decide) rfl (by kernel_rfl) ⟨dL rfl,trivial⟩ rfl) (ah)) Tryd.func23 (by kernel_rfl) ⟨am (n:=0) rfl aC,trivial⟩).mono ?_
 rintro e w' ⟨v,rfl,h1,h2⟩
 obtain⟨u,rfl,h3⟩:=dZ h1 (fun _ _ _ h=>h)
 exact⟨u,rfl,fw h3 (br (n:=2) rfl) rfl rfl (rfl) (rfl) (rfl),h2⟩
theorem fP_b1 (s t a b:ByteArray) (B:Bool) (M N:Nat) (w:World) (HP:Pieces s t B true a b) (ht:t.size≤4294967280) (ha:ParseIs a M 0) (hb:ParseIs b N 0) (hN:N=1):
  Calls Tryd.prog 23 #[.string s] w fun e w'=>cd w Fq.zero 2 e w':=by
 refine(cRn (ρ:=[.val (.string s),.val (.string t),.val (.bool B),.val (.string a),.val (.string b),.dig (nl M) M,.dig (nl 1) 1,.dig (nl N) N,.row 24 1 [.dig (nl N) N]]) (args:=[.one (.ref 0)]) (vs:=[.string s]) (r:=.tup [.agg [.b false,.sl0,.sl0],.one (.i .i64 2)])
  (ae (ck (n:=0) (m:=1) rfl rfl (lrb (n:=2) rfl) HP.sign HP.rest) (ae (kt (n:=1) (i:=3) (j:=4) rfl rfl rfl HP ht) (ae (cw (i:=3) (k:=5) rfl rfl (li rfl) ha) (ae (i9 (k:=6) rfl (by decide)) (ae (cw (i:=4) (k:=7) rfl rfl (li rfl) hb) (ae (fA (n:=8) rfl (decide_eq_true hN) (Nat.le_trans (au hb) (by decide))) ag))))))
  (ac (i5 (m:=8) (ss:=[nt 7]) (N:=1) (sz:=1) (z:=[.sl0]) (qs:=[.dig (nl N) N]) (ix:=[0]) (ls:=[.ref 7]) Tryd.underlying85 (by kernel_rfl) (by kernel_rfl) (by decide) (by decide) (by decide) rfl (by kernel_rfl) ⟨dL rfl,trivial⟩ rfl) (ah)) Tryd.func23 (by kernel_rfl) ⟨am (n:=0) rfl aC,trivial⟩).mono ?_
 rintro e w' ⟨v,rfl,h1,h2⟩
 obtain⟨u,rfl,h3⟩:=dZ h1 (fun _ _ _ h=>h)
 exact⟨u,rfl,fU h3,h2⟩
theorem fP_b2 (s t a b:ByteArray) (B:Bool) (M N:Nat) (w:World) (HP:Pieces s t B true a b) (ht:t.size≤4294967280) (ha:ParseIs a M 0) (hb:ParseIs b N 0) (hN:¬N=1) (hv:(Fq.mk B M N).valid=false):
  Calls Tryd.prog 23 #[.string s] w fun e w'=>cd w Fq.zero 2 e w':=by
 refine(cRn (ρ:=[.val (.string s),.val (.string t),.val (.bool B),.val (.string a),.val (.string b),.dig (nl M) M,.dig (nl 1) 1,.dig (nl N) N,.row 24 1 [.dig (nl N) N]]) (args:=[.one (.ref 0)]) (vs:=[.string s]) (r:=.tup [.agg [.b false,.sl0,.sl0],.one (.i .i64 2)])
  (ae (ck (n:=0) (m:=1) rfl rfl (lrb (n:=2) rfl) HP.sign HP.rest) (ae (kt (n:=1) (i:=3) (j:=4) rfl rfl rfl HP ht) (ae (cw (i:=3) (k:=5) rfl rfl (li rfl) ha) (ae (i9 (k:=6) rfl (by decide)) (ae (cw (i:=4) (k:=7) rfl rfl (li rfl) hb) (ae (fA (n:=8) rfl (decide_eq_false hN) (Nat.le_trans (au hb) (by decide))) (ae (jd (cV (l:=.ref 2) (a:=5) (b:=7) (x:=(Fq.mk B M N)) (lrb (n:=2) rfl) (br (n:=2) rfl) rfl rfl) hv (Nat.le_trans (au ha) (by decide)) (Nat.le_trans (au hb) (by decide))) ag)))))))
  (ac (i5 (m:=8) (ss:=[nt 7]) (N:=1) (sz:=1) (z:=[.sl0]) (qs:=[.dig (nl N) N]) (ix:=[0]) (ls:=[.ref 7]) Tryd.underlying85 (by kernel_rfl) (by kernel_rfl) (by decide) (by decide) (by decide) rfl (by kernel_rfl) ⟨dL rfl,trivial⟩ rfl) (ah)) Tryd.func23 (by kernel_rfl) ⟨am (n:=0) rfl aC,trivial⟩).mono ?_
 rintro e w' ⟨v,rfl,h1,h2⟩
 obtain⟨u,rfl,h3⟩:=dZ h1 (fun _ _ _ h=>h)
 exact⟨u,rfl,fU h3,h2⟩
theorem fP_g0 (s t a b:ByteArray) (B:Bool) (M:Nat) (w:World) (HP:Pieces s t B false a b) (ht:t.size≤4294967280) (ha:ParseIs a M 0) (hv:(Fq.mk B M 1).valid=true):
  Calls Tryd.prog 23 #[.string s] w fun e w'=>cd w ⟨B,M,1⟩ 0 e w':=by
 refine(cRn (ρ:=[.val (.string s),.val (.string t),.val (.bool B),.val (.string a),.val (.string b),.dig (nl M) M,.dig (nl 1) 1]) (args:=[.one (.ref 0)]) (vs:=[.string s]) (r:=.tup [q3 2 5 6,.one (.i .i64 0)])
  (ae (ck (n:=0) (m:=1) rfl rfl (lrb (n:=2) rfl) HP.sign HP.rest) (ae (kt (n:=1) (i:=3) (j:=4) rfl rfl rfl HP ht) (ae (cw (i:=3) (k:=5) rfl rfl (li rfl) ha) (ae (i9 (k:=6) rfl (by decide)) (ae (jd (cV (l:=.ref 2) (a:=5) (b:=6) (x:=(Fq.mk B M 1)) (lrb (n:=2) rfl) (br (n:=2) rfl) rfl rfl) hv (Nat.le_trans (au ha) (by decide)) (Nat.le_trans bk (by decide))) ag)))))
  ah Tryd.func23 (by kernel_rfl) ⟨am (n:=0) rfl aC,trivial⟩).mono ?_
 rintro e w' ⟨v,rfl,h1,h2⟩
 obtain⟨u,rfl,h3⟩:=dZ h1 (fun _ _ _ h=>h)
 exact⟨u,rfl,fw h3 (br (n:=2) rfl) rfl rfl (rfl) (rfl) (rfl),h2⟩
theorem fP_b0 (s t a b:ByteArray) (B:Bool) (M:Nat) (w:World) (HP:Pieces s t B false a b) (ht:t.size≤4294967280) (ha:ParseIs a M 0) (hv:(Fq.mk B M 1).valid=false):
  Calls Tryd.prog 23 #[.string s] w fun e w'=>cd w Fq.zero 2 e w':=by
 refine(cRn (ρ:=[.val (.string s),.val (.string t),.val (.bool B),.val (.string a),.val (.string b),.dig (nl M) M,.dig (nl 1) 1]) (args:=[.one (.ref 0)]) (vs:=[.string s]) (r:=.tup [.agg [.b false,.sl0,.sl0],.one (.i .i64 2)])
  (ae (ck (n:=0) (m:=1) rfl rfl (lrb (n:=2) rfl) HP.sign HP.rest) (ae (kt (n:=1) (i:=3) (j:=4) rfl rfl rfl HP ht) (ae (cw (i:=3) (k:=5) rfl rfl (li rfl) ha) (ae (i9 (k:=6) rfl (by decide)) (ae (jd (cV (l:=.ref 2) (a:=5) (b:=6) (x:=(Fq.mk B M 1)) (lrb (n:=2) rfl) (br (n:=2) rfl) rfl rfl) hv (Nat.le_trans (au ha) (by decide)) (Nat.le_trans bk (by decide))) ag)))))
  ah Tryd.func23 (by kernel_rfl) ⟨am (n:=0) rfl aC,trivial⟩).mono ?_
 rintro e w' ⟨v,rfl,h1,h2⟩
 obtain⟨u,rfl,h3⟩:=dZ h1 (fun _ _ _ h=>h)
 exact⟨u,rfl,fU h3,h2⟩
theorem uY (s:ByteArray) (x:Fq) (c:Int) (w:World) (h:FP s x c) (hs:s.size≤4294967280):Calls Tryd.prog 23 #[.string s] w fun e w'=>cd w x c e w':=by
 cases h with
 | @num t B F a b M c HP ha h0=>
  have ht:=Nat.le_trans (cj HP) hs
  cases F
  ·exact wO s t a b B M c w HP ht ha h0
  ·exact wN s t a b B M c w HP ht ha h0
 | @den t B a b M N c HP ha hb h0=>exact yB s t a b B M N c w HP (Nat.le_trans (cj HP) hs) ha hb h0
 | @bad t B F a b M N HP ha hb hv=>
  have ht:=Nat.le_trans (cj HP) hs
  cases F with
  | false=>exact fP_b0 s t a b B M w HP ht ha (by simpa [dM]using hv)
  | true=>
   by_cases hN:N=1
   ·exact fP_b1 s t a b B M N w HP ht ha (hb rfl) hN
   ·exact fP_b2 s t a b B M N w HP ht ha (hb rfl) hN (by simpa [dM,hN]using hv)
 | @good t B F a b M N HP ha hb hv=>
  have ht:=Nat.le_trans (cj HP) hs
  cases F with
  | false=>exact fP_g0 s t a b B M w HP ht ha (by simpa [dM]using hv)
  | true=>
   have hv':¬N=1∧(Fq.mk B M N).valid=true:=by simpa [dM]using hv
   exact fP_g1 s t a b B M N w HP ht ha (hb rfl) hv'.1 hv'.2
end Go.Proofs.YtfhinmdhjlmikaaDoor
namespace Go.Proofs.YtfhinmdhjlmikaaDoor
set_option linter.unusedSimpArgs false
set_option linter.unusedVariables false
set_option maxRecDepth 100000
open Go.RowKit
/-- Where the search for a slash begins and ends. -/
def rP0 (n:Nat) (b:Bool):MS:=qq 83 [(0,.v (.one (.ref n))),(2,.v (.one (.ptr 0 0))),(3,.v (.one (.i .i64 0))),(4,.v (.one (.b b))),(5,.v (.one (.i .i64 0)))] [(26,[some (.b false),some .sl0,some .sl0])]
def rP2 (n m:Nat) (b:Bool):MS:=qq 83 [(0,.v (.one (.ref n))),(2,.v (.one (.ptr 0 0))),(3,.v (.one (.i .i64 0))),(4,.v (.one (.b b))),(5,.v (.one (.ref m)))] [(26,[some (.b false),some .sl0,some .sl0])]
structure IdxIs (t:ByteArray) (F:Bool) (i:Nat):Prop where
 le:i≤t.size
 before:∀j,j<i→by' t j≠47
 hit:F=true→i<t.size∧by' t i=47
 miss:F=false→i=t.size
theorem fZ {s t a b:ByteArray} {B F:Bool} (h:Pieces s t B F a b):∃i,IdxIs t F i∧a=t.extract 0 i∧(F=true→b=t.extract (i+1) t.size):=by
 cases F with
 | true=>
  obtain⟨i,h1,h2,h3⟩:=h.hit rfl
  exact⟨i,⟨by have:=h1.1;omega,h1.2.2,fun _=>⟨h1.1,h1.2.1⟩,fun h=>(by cases h)⟩,h2,fun _=>h3⟩
 | false=>
  obtain⟨h1,h2,h3⟩:=h.miss rfl
  exact⟨t.size,⟨Nat.le_refl _,fun j hj=>h1 j hj,fun h=>(by cases h),fun _=>rfl⟩,by rw[h2];simp,fun h=>(by cases h)⟩
section
variable {ρ:Rho} {n m k:Nat} {s z:ByteArray} {t:TypeId} {u c:Int}
theorem dz (ht:dv Tryd.prog t=true) (hn:ρ[n]? =some (.val (.string s))) (hm:ρ[m]? =some (.val (.string z))) (h0:0≤c) (h1:c≤s.size) (hz:s.extract c.toNat s.size=z):(OIns.mk (.sl t true false) [.one (.ref n),.one (.i .i64 c)] (.one (.ref m))).Ok Tryd.prog ρ:=fun B w vs hv=>by
 match vs,hv with
 | [v1,v2],hv=>
  obtain rfl:=aj (B:=B) hn hv.1
  have e2:v2= .int .i64 c:=hv.2.1
  subst e2;subst hz
  refine⟨.string (s.extract c.toNat s.size),am (B:=B) hm aC,?_⟩
  have h4:c≤((s.size:Int).toNat:Int):=by omega
  simp[Instr.sliceAt,Instr.slice,Instr.sliceBounds,Instr.sliceBound,asIntOf,Sem.run_bind,run_underlying (dg ht),Result.andThen,h0,h1,h4]
theorem cQ (ht:dv Tryd.prog t=true) (hn:ρ[n]? =some (.val (.string s))) (hk:ρ[k]? =some (.val (.int .i64 u))) (hm:ρ[m]? =some (.val (.string z))) (h0:0≤u) (h1:u≤s.size) (hz:s.extract u.toNat s.size=z):(OIns.mk (.sl t true false) [.one (.ref n),.one (.ref k)] (.one (.ref m))).Ok Tryd.prog ρ:=fun B w vs hv=>by
 match vs,hv with
 | [v1,v2],hv=>
  obtain rfl:=aj (B:=B) hn hv.1
  obtain rfl:=aj (B:=B) hk hv.2.1
  subst hz
  refine⟨.string (s.extract u.toNat s.size),am (B:=B) hm aC,?_⟩
  have h4:u≤((s.size:Int).toNat:Int):=by omega
  simp[Instr.sliceAt,Instr.slice,Instr.sliceBounds,Instr.sliceBound,asIntOf,Sem.run_bind,run_underlying (dg ht),Result.andThen,h0,h1,h4]
theorem b7 (ht:dv Tryd.prog t=true) (hn:ρ[n]? =some (.val (.string s))) (hk:ρ[k]? =some (.val (.int .i64 u))) (hm:ρ[m]? =some (.val (.string z))) (h0:0≤u) (h1:u≤s.size) (hz:s.extract 0 u.toNat=z):(OIns.mk (.sl t false true) [.one (.ref n),.one (.ref k)] (.one (.ref m))).Ok Tryd.prog ρ:=fun B w vs hv=>by
 match vs,hv with
 | [v1,v2],hv=>
  obtain rfl:=aj (B:=B) hn hv.1
  obtain rfl:=aj (B:=B) hk hv.2.1
  subst hz
  refine⟨.string (s.extract 0 u.toNat),am (B:=B) hm aC,?_⟩
  have h4:u≤(u.toNat:Int):=by omega
  simp[Instr.sliceAt,Instr.slice,Instr.sliceBounds,Instr.sliceBound,asIntOf,Sem.run_bind,run_underlying (dg ht),Result.andThen,h0,h1,h4]
theorem cm0 {ρ ρ':Rho}:∀n,n<0→ρ[n]? =ρ'[n]? :=fun _ h=>absurd h (Nat.not_lt_zero _)
theorem cm1 {ρ ρ':Rho} (h:ρ[0]? =ρ'[0]?):∀n,n<1→ρ[n]? =ρ'[n]? :=fun n hn=>by
 obtain rfl:n=0:=by omega
 exact h
theorem od {ρ':Rho} {l:Leaf} {v:Int} (h2:ρ'[n]? =some (.val (.int .i64 v))) (hl:∀B w x,l.holds ρ B w x→x= .int .i64 u) (e:u=v) (ho:l.noPtr=true:=by rfl):kj ρ ρ' (n,l):=ub h2 ho (fun B w x h=>by subst e;have:=hl B w x h;subst this;exact⟨rfl,aV⟩)
end
theorem dX {ρ:Rho} {w:World} {t:ByteArray} {F:Bool} {i:Nat} (b:Bool) (h0:ρ[0]? =some (.val (.string t))) (h1:ρ[1]? =some (.val (.int .i64 (i:Int)))) (hI:IdxIs t F i) (hs:t.size≤4294967280):
  LOb.Ok Tryd.prog ρ (Ent.of w) 83 ⟨aO Tryd.f24 0,rP0 0 b,.ext 0,rP2 0 1 b⟩:=by
 have hle:=hI.le
 refine eT i (fun k=>[.val (.string t),.val (.int .i64 ((k:Nat):Int)),.val (.int .i64 (t.size:Int)),.val (.int .u8 ((by' t k:Nat):Int)),.val (.int .i64 (((k:Nat):Int)+1))]) (fun _=>rP2 0 1 b) ?_ ?_ ?_ (by decide)
 ·intro a w' h
  exact MSt.conv (N:=0) (σ:=[(0,.ref 0),(1,.i .i64 0)]) cm0 (aU (ff h0 rfl) (aU (od (u:=0) rfl (fun _ _ _ h=>h) rfl) bV)) (by cases b<;>kernel_rfl) h
 ·intro k hk
  have hb:=hI.before k hk
  refine bP (N:=1) (σ:=[(1,.ref 4)]) (lo:=[]) (n:=300) (C:=[]) ag
   (ac (aB (n:=0) (m:=2) (t:=9) (by kernel_rfl) rfl rfl) (ac (cD (n:=1) (m:=2) (b:=true) (t:=3) rfl rfl (decide_eq_true (by omega))) (ac (bT (n:=0) (k:=1) (m:=3) (t:=9) (b:=by' t k) (by kernel_rfl) rfl rfl rfl (by omega) (by omega) (congrArg (by' t) (by omega))) (ac (ba (n:=3) (c:=47) (b:=true) (t:=5) rfl (cm (by omega))) (ac (eu (n:=1) (m:=4) (c:=1) (t:=3) rfl rfl rfl (by omega) (by omega)) ah)))))
   (by kernel_rfl) (obs:=[]) (by cases b<;>kernel_rfl) aI (cm1 rfl) (aU (od (u:=((k:Nat):Int)+1) (v:=((k+1:Nat):Int)) rfl (fun _ _ _ h=>aj rfl h) (by omega)) bV)
 ·cases F with
  | true=>
   have hh:=hI.hit rfl
   exact bP (N:=0) (σ:=[(0,.ref 0),(1,.ref 1)]) (lo:=[]) (n:=300) (C:=[]) ag
    (ac (aB (n:=0) (m:=2) (t:=9) (by kernel_rfl) rfl rfl) (ac (cD (n:=1) (m:=2) (b:=true) (t:=3) rfl rfl (decide_eq_true (by omega))) (ac (bT (n:=0) (k:=1) (m:=3) (t:=9) (b:=by' t i) (by kernel_rfl) rfl rfl rfl (by omega) (by omega) (congrArg (by' t) (by omega))) (ac (ba (n:=3) (c:=47) (b:=false) (t:=5) rfl (du (by omega))) ah))))
    (by kernel_rfl) (obs:=[]) (by cases b<;>kernel_rfl) aI cm0 (aU (ff rfl h0) (aU (ff rfl h1) bV))
  | false=>
   have hh:=hI.miss rfl
   exact bP (N:=0) (σ:=[(0,.ref 0),(1,.ref 1)]) (lo:=[]) (n:=300) (C:=[]) ag
    (ac (aB (n:=0) (m:=2) (t:=9) (by kernel_rfl) rfl rfl) (ac (cD (n:=1) (m:=2) (b:=false) (t:=3) rfl rfl (decide_eq_false (by omega))) ah))
    (by kernel_rfl) (obs:=[]) (by cases b<;>kernel_rfl) aI cm0 (aU (ff rfl h0) (aU (ff rfl h1) bV))
theorem dA {ρ:Rho} {w:World} {t:ByteArray} {F:Bool} {i:Nat} (b:Bool) (h0:ρ[1]? =some (.val (.string t))) (h1:ρ[2]? =some (.val (.int .i64 (i:Int)))) (hI:IdxIs t F i) (hs:t.size≤4294967280):
  LOb.Ok Tryd.prog ρ (Ent.of w) 83 ⟨aO Tryd.f24 0,rP0 1 b,.ext 0,rP2 1 2 b⟩:=by
 have hle:=hI.le
 refine eT i (fun k=>[.val (.string t),.val (.int .i64 ((k:Nat):Int)),.val (.int .i64 (t.size:Int)),.val (.int .u8 ((by' t k:Nat):Int)),.val (.int .i64 (((k:Nat):Int)+1))]) (fun _=>rP2 0 1 b) ?_ ?_ ?_ (by decide)
 ·intro a w' h
  exact MSt.conv (N:=0) (σ:=[(0,.ref 1),(1,.i .i64 0)]) cm0 (aU (ff h0 rfl) (aU (od (u:=0) rfl (fun _ _ _ h=>h) rfl) bV)) (by cases b<;>kernel_rfl) h
 ·intro k hk
  have hb:=hI.before k hk
  refine bP (N:=1) (σ:=[(1,.ref 4)]) (lo:=[]) (n:=300) (C:=[]) ag
   (ac (aB (n:=0) (m:=2) (t:=9) (by kernel_rfl) rfl rfl) (ac (cD (n:=1) (m:=2) (b:=true) (t:=3) rfl rfl (decide_eq_true (by omega))) (ac (bT (n:=0) (k:=1) (m:=3) (t:=9) (b:=by' t k) (by kernel_rfl) rfl rfl rfl (by omega) (by omega) (congrArg (by' t) (by omega))) (ac (ba (n:=3) (c:=47) (b:=true) (t:=5) rfl (cm (by omega))) (ac (eu (n:=1) (m:=4) (c:=1) (t:=3) rfl rfl rfl (by omega) (by omega)) ah)))))
   (by kernel_rfl) (obs:=[]) (by cases b<;>kernel_rfl) aI (cm1 rfl) (aU (od (u:=((k:Nat):Int)+1) (v:=((k+1:Nat):Int)) rfl (fun _ _ _ h=>aj rfl h) (by omega)) bV)
 ·cases F with
  | true=>
   have hh:=hI.hit rfl
   exact bP (N:=0) (σ:=[(1,.ref 0),(2,.ref 1)]) (lo:=[]) (n:=300) (C:=[]) ag
    (ac (aB (n:=0) (m:=2) (t:=9) (by kernel_rfl) rfl rfl) (ac (cD (n:=1) (m:=2) (b:=true) (t:=3) rfl rfl (decide_eq_true (by omega))) (ac (bT (n:=0) (k:=1) (m:=3) (t:=9) (b:=by' t i) (by kernel_rfl) rfl rfl rfl (by omega) (by omega) (congrArg (by' t) (by omega))) (ac (ba (n:=3) (c:=47) (b:=false) (t:=5) rfl (du (by omega))) ah))))
    (by kernel_rfl) (obs:=[]) (by cases b<;>kernel_rfl) aI cm0 (aU (ff rfl h0) (aU (ff rfl h1) bV))
  | false=>
   have hh:=hI.miss rfl
   exact bP (N:=0) (σ:=[(1,.ref 0),(2,.ref 1)]) (lo:=[]) (n:=300) (C:=[]) ag
    (ac (aB (n:=0) (m:=2) (t:=9) (by kernel_rfl) rfl rfl) (ac (cD (n:=1) (m:=2) (b:=false) (t:=3) rfl rfl (decide_eq_false (by omega))) ah))
    (by kernel_rfl) (obs:=[]) (by cases b<;>kernel_rfl) aI cm0 (aU (ff rfl h0) (aU (ff rfl h1) bV))
theorem uZ (s:ByteArray) (i:Nat) (M:Nat) (c:Int) (w:World) (hp:0<s.size) (hq:by' s 0=45) (hI:IdxIs (s.extract 1 s.size) true i) (ht:(s.extract 1 s.size).size≤4294967280) (ha:ParseIs ((s.extract 1 s.size).extract 0 i) M c) (h0:c≠0):
  Calls Tryd.prog 24 #[.string s] w fun e w'=>cd w Fq.zero c e w':=by
 have hle:=hI.le
 have hh:=hI.hit rfl
 refine(ak (ρ:=[.val (.string s),.val (.string (s.extract 1 s.size)),.val (.int .i64 (i:Int)),.val (.int .i64 (s.size:Int)),.val (.int .u8 ((by' s 0:Nat):Int)),.val (.string ((s.extract 1 s.size).extract 0 i)),.dig (nl M) M,.val (.int .i64 c)]) (w:=w) (fuel:=300) (args:=[.one (.ref 0)]) (vs:=[.string s]) (r:=.tup [.agg [.b false,.sl0,.sl0],.one (.ref 7)]) (lo:=[some (rP0 1 true,.ext 0,rP2 1 2 true)]) (obs:=[⟨aO Tryd.f24 0,rP0 1 true,.ext 0,rP2 1 2 true⟩])
  (ae (aT (i:=5) (k:=6) rfl rfl (lr (n:=7) rfl) ha) ag)
  (ac (aB (n:=0) (m:=3) (t:=9) (by kernel_rfl) rfl rfl) (ac (cM (n:=3) (c:=0) (t:=3) rfl (decide_eq_true (by omega))) (ac (bc (n:=0) (m:=4) (k:=0) (c:=0) (t:=9) (by kernel_rfl) rfl rfl (by omega) rfl) (ac (cU (n:=4) (c:=45) (t:=5) rfl (fS (by omega))) (ac (dz (n:=0) (m:=1) (c:=1) (t:=9) (by kernel_rfl) rfl rfl (by decide) (by omega) rfl) (ac (b7 (n:=1) (k:=2) (m:=5) (u:=(i:Int)) (t:=9) (by kernel_rfl) rfl rfl rfl (by omega) (by omega) (congrArg ((s.extract 1 s.size).extract 0) (by omega))) (ac (ba (n:=7) (c:=0) (t:=33) rfl (cm h0)) (ah)))))))) (by kernel_rfl) Tryd.func24 (by kernel_rfl) (aX (dA true rfl rfl hI ht) aI) ⟨am (n:=0) rfl aC,trivial⟩).mono ?_
 rintro e w' ⟨v,rfl,h1,h2⟩
 obtain⟨u,rfl,h3⟩:=dZ h1 (fun _ _ _ h=>aj rfl h)
 exact⟨u,rfl,fU h3,h2⟩
theorem u9 (s:ByteArray) (i:Nat) (M:Nat) (c:Int) (w:World) (hp:0<s.size) (hq:by' s 0=45) (hI:IdxIs (s.extract 1 s.size) false i) (ht:(s.extract 1 s.size).size≤4294967280) (ha:ParseIs ((s.extract 1 s.size).extract 0 i) M c) (h0:c≠0):
  Calls Tryd.prog 24 #[.string s] w fun e w'=>cd w Fq.zero c e w':=by
 have hle:=hI.le
 have hh:=hI.miss rfl
 refine(ak (ρ:=[.val (.string s),.val (.string (s.extract 1 s.size)),.val (.int .i64 (i:Int)),.val (.int .i64 (s.size:Int)),.val (.int .u8 ((by' s 0:Nat):Int)),.val (.string ((s.extract 1 s.size).extract 0 i)),.dig (nl M) M,.val (.int .i64 c)]) (w:=w) (fuel:=300) (args:=[.one (.ref 0)]) (vs:=[.string s]) (r:=.tup [.agg [.b false,.sl0,.sl0],.one (.ref 7)]) (lo:=[some (rP0 1 true,.ext 0,rP2 1 2 true)]) (obs:=[⟨aO Tryd.f24 0,rP0 1 true,.ext 0,rP2 1 2 true⟩])
  (ae (aT (i:=5) (k:=6) rfl rfl (lr (n:=7) rfl) ha) ag)
  (ac (aB (n:=0) (m:=3) (t:=9) (by kernel_rfl) rfl rfl) (ac (cM (n:=3) (c:=0) (t:=3) rfl (decide_eq_true (by omega))) (ac (bc (n:=0) (m:=4) (k:=0) (c:=0) (t:=9) (by kernel_rfl) rfl rfl (by omega) rfl) (ac (cU (n:=4) (c:=45) (t:=5) rfl (fS (by omega))) (ac (dz (n:=0) (m:=1) (c:=1) (t:=9) (by kernel_rfl) rfl rfl (by decide) (by omega) rfl) (ac (b7 (n:=1) (k:=2) (m:=5) (u:=(i:Int)) (t:=9) (by kernel_rfl) rfl rfl rfl (by omega) (by omega) (congrArg ((s.extract 1 s.size).extract 0) (by omega))) (ac (ba (n:=7) (c:=0) (t:=33) rfl (cm h0)) (ah)))))))) (by kernel_rfl) Tryd.func24 (by kernel_rfl) (aX (dA true rfl rfl hI ht) aI) ⟨am (n:=0) rfl aC,trivial⟩).mono ?_
 rintro e w' ⟨v,rfl,h1,h2⟩
 obtain⟨u,rfl,h3⟩:=dZ h1 (fun _ _ _ h=>aj rfl h)
 exact⟨u,rfl,fU h3,h2⟩
theorem wP (s:ByteArray) (i:Nat) (M N:Nat) (c:Int) (w:World) (hp:0<s.size) (hq:by' s 0=45) (hI:IdxIs (s.extract 1 s.size) true i) (ht:(s.extract 1 s.size).size≤4294967280) (ha:ParseIs ((s.extract 1 s.size).extract 0 i) M 0) (hb:ParseIs ((s.extract 1 s.size).extract (i+1) (s.extract 1 s.size).size) N c) (h0:c≠0):
  Calls Tryd.prog 24 #[.string s] w fun e w'=>cd w Fq.zero c e w':=by
 have hle:=hI.le
 have hh:=hI.hit rfl
 refine(ak (ρ:=[.val (.string s),.val (.string (s.extract 1 s.size)),.val (.int .i64 (i:Int)),.val (.int .i64 (s.size:Int)),.val (.int .u8 ((by' s 0:Nat):Int)),.val (.string ((s.extract 1 s.size).extract 0 i)),.dig (nl M) M,.dig (nl 1) 1,.val (.int .i64 ((s.extract 1 s.size).size:Int)),.val (.int .i64 ((i:Int)+1)),.val (.string ((s.extract 1 s.size).extract (i+1) (s.extract 1 s.size).size)),.dig (nl N) N,.val (.int .i64 c)]) (w:=w) (fuel:=300) (args:=[.one (.ref 0)]) (vs:=[.string s]) (r:=.tup [.agg [.b false,.sl0,.sl0],.one (.ref 12)]) (lo:=[some (rP0 1 true,.ext 0,rP2 1 2 true)]) (obs:=[⟨aO Tryd.f24 0,rP0 1 true,.ext 0,rP2 1 2 true⟩])
  (ae (aT (i:=5) (k:=6) rfl rfl (li rfl) ha) (ae (cX (k:=7) rfl (by decide)) (ae (aT (i:=10) (k:=11) rfl rfl (lr (n:=12) rfl) hb) ag)))
  (ac (aB (n:=0) (m:=3) (t:=9) (by kernel_rfl) rfl rfl) (ac (cM (n:=3) (c:=0) (t:=3) rfl (decide_eq_true (by omega))) (ac (bc (n:=0) (m:=4) (k:=0) (c:=0) (t:=9) (by kernel_rfl) rfl rfl (by omega) rfl) (ac (cU (n:=4) (c:=45) (t:=5) rfl (fS (by omega))) (ac (dz (n:=0) (m:=1) (c:=1) (t:=9) (by kernel_rfl) rfl rfl (by decide) (by omega) rfl) (ac (b7 (n:=1) (k:=2) (m:=5) (u:=(i:Int)) (t:=9) (by kernel_rfl) rfl rfl rfl (by omega) (by omega) (congrArg ((s.extract 1 s.size).extract 0) (by omega))) (ac (aB (n:=1) (m:=8) (t:=9) (by kernel_rfl) rfl rfl) (ac (cD (n:=2) (m:=8) (b:=true) (t:=3) rfl rfl (decide_eq_true (by omega))) (ac (eu (n:=2) (m:=9) (c:=1) (t:=3) rfl rfl rfl (by omega) (by omega)) (ac (cQ (n:=1) (k:=9) (m:=10) (u:=(i:Int)+1) (t:=9) (by kernel_rfl) rfl rfl rfl (by omega) (by omega) (congrArg (fun j=>(s.extract 1 s.size).extract j (s.extract 1 s.size).size) (by omega))) (ac (ba (n:=12) (c:=0) (t:=33) rfl (cm h0)) (ah)))))))))))) (by kernel_rfl) Tryd.func24 (by kernel_rfl) (aX (dA true rfl rfl hI ht) aI) ⟨am (n:=0) rfl aC,trivial⟩).mono ?_
 rintro e w' ⟨v,rfl,h1,h2⟩
 obtain⟨u,rfl,h3⟩:=dZ h1 (fun _ _ _ h=>aj rfl h)
 exact⟨u,rfl,fU h3,h2⟩
theorem yC (s:ByteArray) (i:Nat) (M N:Nat) (w:World) (hp:0<s.size) (hq:by' s 0=45) (hI:IdxIs (s.extract 1 s.size) true i) (ht:(s.extract 1 s.size).size≤4294967280) (ha:ParseIs ((s.extract 1 s.size).extract 0 i) M 0) (hb:ParseIs ((s.extract 1 s.size).extract (i+1) (s.extract 1 s.size).size) N 0) (hN:¬1<N):
  Calls Tryd.prog 24 #[.string s] w fun e w'=>cd w Fq.zero 2 e w':=by
 have hle:=hI.le
 have hh:=hI.hit rfl
 refine(ak (ρ:=[.val (.string s),.val (.string (s.extract 1 s.size)),.val (.int .i64 (i:Int)),.val (.int .i64 (s.size:Int)),.val (.int .u8 ((by' s 0:Nat):Int)),.val (.string ((s.extract 1 s.size).extract 0 i)),.dig (nl M) M,.dig (nl 1) 1,.val (.int .i64 ((s.extract 1 s.size).size:Int)),.val (.int .i64 ((i:Int)+1)),.val (.string ((s.extract 1 s.size).extract (i+1) (s.extract 1 s.size).size)),.dig (nl N) N,.val (.int .i64 (cC N 1))]) (w:=w) (fuel:=300) (args:=[.one (.ref 0)]) (vs:=[.string s]) (r:=.tup [.agg [.b false,.sl0,.sl0],.one (.i .i64 2)]) (lo:=[some (rP0 1 true,.ext 0,rP2 1 2 true)]) (obs:=[⟨aO Tryd.f24 0,rP0 1 true,.ext 0,rP2 1 2 true⟩])
  (ae (aT (i:=5) (k:=6) rfl rfl (li rfl) ha) (ae (cX (k:=7) rfl (by decide)) (ae (aT (i:=10) (k:=11) rfl rfl (li rfl) hb) (ae (iq (i:=11) (j:=7) rfl rfl (lr (n:=12) rfl) (Nat.le_trans (au hb) (by decide)) (Nat.le_trans bk (by decide))) ag))))
  (ac (aB (n:=0) (m:=3) (t:=9) (by kernel_rfl) rfl rfl) (ac (cM (n:=3) (c:=0) (t:=3) rfl (decide_eq_true (by omega))) (ac (bc (n:=0) (m:=4) (k:=0) (c:=0) (t:=9) (by kernel_rfl) rfl rfl (by omega) rfl) (ac (cU (n:=4) (c:=45) (t:=5) rfl (fS (by omega))) (ac (dz (n:=0) (m:=1) (c:=1) (t:=9) (by kernel_rfl) rfl rfl (by decide) (by omega) rfl) (ac (b7 (n:=1) (k:=2) (m:=5) (u:=(i:Int)) (t:=9) (by kernel_rfl) rfl rfl rfl (by omega) (by omega) (congrArg ((s.extract 1 s.size).extract 0) (by omega))) (ac (aB (n:=1) (m:=8) (t:=9) (by kernel_rfl) rfl rfl) (ac (cD (n:=2) (m:=8) (b:=true) (t:=3) rfl rfl (decide_eq_true (by omega))) (ac (eu (n:=2) (m:=9) (c:=1) (t:=3) rfl rfl rfl (by omega) (by omega)) (ac (cQ (n:=1) (k:=9) (m:=10) (u:=(i:Int)+1) (t:=9) (by kernel_rfl) rfl rfl rfl (by omega) (by omega) (congrArg (fun j=>(s.extract 1 s.size).extract j (s.extract 1 s.size).size) (by omega))) (ac (gI (n:=12) (c:=0) (t:=3) rfl (pp hN)) (ah)))))))))))) (by kernel_rfl) Tryd.func24 (by kernel_rfl) (aX (dA true rfl rfl hI ht) aI) ⟨am (n:=0) rfl aC,trivial⟩).mono ?_
 rintro e w' ⟨v,rfl,h1,h2⟩
 obtain⟨u,rfl,h3⟩:=dZ h1 (fun _ _ _ h=>h)
 exact⟨u,rfl,fU h3,h2⟩
theorem yD (s:ByteArray) (i:Nat) (M N:Nat) (w:World) (hp:0<s.size) (hq:by' s 0=45) (hI:IdxIs (s.extract 1 s.size) true i) (ht:(s.extract 1 s.size).size≤4294967280) (ha:ParseIs ((s.extract 1 s.size).extract 0 i) M 0) (hb:ParseIs ((s.extract 1 s.size).extract (i+1) (s.extract 1 s.size).size) N 0) (hN:1<N) (hz:¬M=0) (hg:Nat.gcd M N=1):
  Calls Tryd.prog 24 #[.string s] w fun e w'=>cd w ⟨true,M,N⟩ 0 e w':=by
 have hle:=hI.le
 have hh:=hI.hit rfl
 refine(ak (ρ:=[.val (.string s),.val (.string (s.extract 1 s.size)),.val (.int .i64 (i:Int)),.val (.int .i64 (s.size:Int)),.val (.int .u8 ((by' s 0:Nat):Int)),.val (.string ((s.extract 1 s.size).extract 0 i)),.dig (nl M) M,.dig (nl 1) 1,.val (.int .i64 ((s.extract 1 s.size).size:Int)),.val (.int .i64 ((i:Int)+1)),.val (.string ((s.extract 1 s.size).extract (i+1) (s.extract 1 s.size).size)),.dig (nl N) N,.val (.int .i64 (cC N 1)),.dig (nl (Nat.gcd M N)) (Nat.gcd M N)]) (w:=w) (fuel:=300) (args:=[.one (.ref 0)]) (vs:=[.string s]) (r:=.tup [.agg [.b true,.ref 6,.ref 11],.one (.i .i64 0)]) (lo:=[some (rP0 1 true,.ext 0,rP2 1 2 true)]) (obs:=[⟨aO Tryd.f24 0,rP0 1 true,.ext 0,rP2 1 2 true⟩])
  (ae (aT (i:=5) (k:=6) rfl rfl (li rfl) ha) (ae (cX (k:=7) rfl (by decide)) (ae (aT (i:=10) (k:=11) rfl rfl (li rfl) hb) (ae (iq (i:=11) (j:=7) rfl rfl (lr (n:=12) rfl) (Nat.le_trans (au hb) (by decide)) (Nat.le_trans bk (by decide))) (ae (dw (i:=6) rfl (decide_eq_false hz) (Nat.le_trans (au ha) (by decide))) (ae (fg (i:=6) (j:=11) (k:=13) rfl rfl rfl (Nat.le_trans (au ha) (by decide)) (Nat.le_trans (au hb) (by decide))) (ae (bK (i:=13) (j:=7) rfl rfl (decide_eq_true hg) (Nat.le_trans (bu (au ha) (au hb)) (by decide)) (Nat.le_trans bk (by decide))) ag)))))))
  (ac (aB (n:=0) (m:=3) (t:=9) (by kernel_rfl) rfl rfl) (ac (cM (n:=3) (c:=0) (t:=3) rfl (decide_eq_true (by omega))) (ac (bc (n:=0) (m:=4) (k:=0) (c:=0) (t:=9) (by kernel_rfl) rfl rfl (by omega) rfl) (ac (cU (n:=4) (c:=45) (t:=5) rfl (fS (by omega))) (ac (dz (n:=0) (m:=1) (c:=1) (t:=9) (by kernel_rfl) rfl rfl (by decide) (by omega) rfl) (ac (b7 (n:=1) (k:=2) (m:=5) (u:=(i:Int)) (t:=9) (by kernel_rfl) rfl rfl rfl (by omega) (by omega) (congrArg ((s.extract 1 s.size).extract 0) (by omega))) (ac (aB (n:=1) (m:=8) (t:=9) (by kernel_rfl) rfl rfl) (ac (cD (n:=2) (m:=8) (b:=true) (t:=3) rfl rfl (decide_eq_true (by omega))) (ac (eu (n:=2) (m:=9) (c:=1) (t:=3) rfl rfl rfl (by omega) (by omega)) (ac (cQ (n:=1) (k:=9) (m:=10) (u:=(i:Int)+1) (t:=9) (by kernel_rfl) rfl rfl rfl (by omega) (by omega) (congrArg (fun j=>(s.extract 1 s.size).extract j (s.extract 1 s.size).size) (by omega))) (ac (gI (n:=12) (c:=0) (t:=3) rfl (gJ hN)) (ah)))))))))))) (by kernel_rfl) Tryd.func24 (by kernel_rfl) (aX (dA true rfl rfl hI ht) aI) ⟨am (n:=0) rfl aC,trivial⟩).mono ?_
 rintro e w' ⟨v,rfl,h1,h2⟩
 obtain⟨u,rfl,h3⟩:=dZ h1 (fun _ _ _ h=>h)
 exact⟨u,rfl,fw h3 (bl true) rfl rfl (rfl) (rfl) (rfl),h2⟩
theorem yE (s:ByteArray) (i:Nat) (M N:Nat) (w:World) (hp:0<s.size) (hq:by' s 0=45) (hI:IdxIs (s.extract 1 s.size) true i) (ht:(s.extract 1 s.size).size≤4294967280) (ha:ParseIs ((s.extract 1 s.size).extract 0 i) M 0) (hb:ParseIs ((s.extract 1 s.size).extract (i+1) (s.extract 1 s.size).size) N 0) (hN:1<N) (hz:¬M=0) (hg:¬Nat.gcd M N=1):
  Calls Tryd.prog 24 #[.string s] w fun e w'=>cd w Fq.zero 2 e w':=by
 have hle:=hI.le
 have hh:=hI.hit rfl
 refine(ak (ρ:=[.val (.string s),.val (.string (s.extract 1 s.size)),.val (.int .i64 (i:Int)),.val (.int .i64 (s.size:Int)),.val (.int .u8 ((by' s 0:Nat):Int)),.val (.string ((s.extract 1 s.size).extract 0 i)),.dig (nl M) M,.dig (nl 1) 1,.val (.int .i64 ((s.extract 1 s.size).size:Int)),.val (.int .i64 ((i:Int)+1)),.val (.string ((s.extract 1 s.size).extract (i+1) (s.extract 1 s.size).size)),.dig (nl N) N,.val (.int .i64 (cC N 1)),.dig (nl (Nat.gcd M N)) (Nat.gcd M N)]) (w:=w) (fuel:=300) (args:=[.one (.ref 0)]) (vs:=[.string s]) (r:=.tup [.agg [.b false,.sl0,.sl0],.one (.i .i64 2)]) (lo:=[some (rP0 1 true,.ext 0,rP2 1 2 true)]) (obs:=[⟨aO Tryd.f24 0,rP0 1 true,.ext 0,rP2 1 2 true⟩])
  (ae (aT (i:=5) (k:=6) rfl rfl (li rfl) ha) (ae (cX (k:=7) rfl (by decide)) (ae (aT (i:=10) (k:=11) rfl rfl (li rfl) hb) (ae (iq (i:=11) (j:=7) rfl rfl (lr (n:=12) rfl) (Nat.le_trans (au hb) (by decide)) (Nat.le_trans bk (by decide))) (ae (dw (i:=6) rfl (decide_eq_false hz) (Nat.le_trans (au ha) (by decide))) (ae (fg (i:=6) (j:=11) (k:=13) rfl rfl rfl (Nat.le_trans (au ha) (by decide)) (Nat.le_trans (au hb) (by decide))) (ae (bK (i:=13) (j:=7) rfl rfl (decide_eq_false hg) (Nat.le_trans (bu (au ha) (au hb)) (by decide)) (Nat.le_trans bk (by decide))) ag)))))))
  (ac (aB (n:=0) (m:=3) (t:=9) (by kernel_rfl) rfl rfl) (ac (cM (n:=3) (c:=0) (t:=3) rfl (decide_eq_true (by omega))) (ac (bc (n:=0) (m:=4) (k:=0) (c:=0) (t:=9) (by kernel_rfl) rfl rfl (by omega) rfl) (ac (cU (n:=4) (c:=45) (t:=5) rfl (fS (by omega))) (ac (dz (n:=0) (m:=1) (c:=1) (t:=9) (by kernel_rfl) rfl rfl (by decide) (by omega) rfl) (ac (b7 (n:=1) (k:=2) (m:=5) (u:=(i:Int)) (t:=9) (by kernel_rfl) rfl rfl rfl (by omega) (by omega) (congrArg ((s.extract 1 s.size).extract 0) (by omega))) (ac (aB (n:=1) (m:=8) (t:=9) (by kernel_rfl) rfl rfl) (ac (cD (n:=2) (m:=8) (b:=true) (t:=3) rfl rfl (decide_eq_true (by omega))) (ac (eu (n:=2) (m:=9) (c:=1) (t:=3) rfl rfl rfl (by omega) (by omega)) (ac (cQ (n:=1) (k:=9) (m:=10) (u:=(i:Int)+1) (t:=9) (by kernel_rfl) rfl rfl rfl (by omega) (by omega) (congrArg (fun j=>(s.extract 1 s.size).extract j (s.extract 1 s.size).size) (by omega))) (ac (gI (n:=12) (c:=0) (t:=3) rfl (gJ hN)) (ah)))))))))))) (by kernel_rfl) Tryd.func24 (by kernel_rfl) (aX (dA true rfl rfl hI ht) aI) ⟨am (n:=0) rfl aC,trivial⟩).mono ?_
 rintro e w' ⟨v,rfl,h1,h2⟩
 obtain⟨u,rfl,h3⟩:=dZ h1 (fun _ _ _ h=>h)
 exact⟨u,rfl,fU h3,h2⟩
theorem yF (s:ByteArray) (i:Nat) (M:Nat) (w:World) (hp:0<s.size) (hq:by' s 0=45) (hI:IdxIs (s.extract 1 s.size) false i) (ht:(s.extract 1 s.size).size≤4294967280) (ha:ParseIs ((s.extract 1 s.size).extract 0 i) M 0) (hz:¬M=0):
  Calls Tryd.prog 24 #[.string s] w fun e w'=>cd w ⟨true,M,1⟩ 0 e w':=by
 have hle:=hI.le
 have hh:=hI.miss rfl
 refine(ak (ρ:=[.val (.string s),.val (.string (s.extract 1 s.size)),.val (.int .i64 (i:Int)),.val (.int .i64 (s.size:Int)),.val (.int .u8 ((by' s 0:Nat):Int)),.val (.string ((s.extract 1 s.size).extract 0 i)),.dig (nl M) M,.dig (nl 1) 1,.val (.int .i64 ((s.extract 1 s.size).size:Int)),.dig (nl (Nat.gcd M 1)) (Nat.gcd M 1)]) (w:=w) (fuel:=300) (args:=[.one (.ref 0)]) (vs:=[.string s]) (r:=.tup [.agg [.b true,.ref 6,.ref 7],.one (.i .i64 0)]) (lo:=[some (rP0 1 true,.ext 0,rP2 1 2 true)]) (obs:=[⟨aO Tryd.f24 0,rP0 1 true,.ext 0,rP2 1 2 true⟩])
  (ae (aT (i:=5) (k:=6) rfl rfl (li rfl) ha) (ae (cX (k:=7) rfl (by decide)) (ae (dw (i:=6) rfl (decide_eq_false hz) (Nat.le_trans (au ha) (by decide))) (ae (fg (i:=6) (j:=7) (k:=9) rfl rfl rfl (Nat.le_trans (au ha) (by decide)) (Nat.le_trans bk (by decide))) (ae (bK (i:=9) (j:=7) rfl rfl (decide_eq_true (Nat.gcd_one_right M)) (Nat.le_trans (bu (au ha) bk) (by decide)) (Nat.le_trans bk (by decide))) ag)))))
  (ac (aB (n:=0) (m:=3) (t:=9) (by kernel_rfl) rfl rfl) (ac (cM (n:=3) (c:=0) (t:=3) rfl (decide_eq_true (by omega))) (ac (bc (n:=0) (m:=4) (k:=0) (c:=0) (t:=9) (by kernel_rfl) rfl rfl (by omega) rfl) (ac (cU (n:=4) (c:=45) (t:=5) rfl (fS (by omega))) (ac (dz (n:=0) (m:=1) (c:=1) (t:=9) (by kernel_rfl) rfl rfl (by decide) (by omega) rfl) (ac (b7 (n:=1) (k:=2) (m:=5) (u:=(i:Int)) (t:=9) (by kernel_rfl) rfl rfl rfl (by omega) (by omega) (congrArg ((s.extract 1 s.size).extract 0) (by omega))) (ac (aB (n:=1) (m:=8) (t:=9) (by kernel_rfl) rfl rfl) (ac (cD (n:=2) (m:=8) (b:=false) (t:=3) rfl rfl (decide_eq_false (by omega))) (ah))))))))) (by kernel_rfl) Tryd.func24 (by kernel_rfl) (aX (dA true rfl rfl hI ht) aI) ⟨am (n:=0) rfl aC,trivial⟩).mono ?_
 rintro e w' ⟨v,rfl,h1,h2⟩
 obtain⟨u,rfl,h3⟩:=dZ h1 (fun _ _ _ h=>h)
 exact⟨u,rfl,fw h3 (bl true) rfl rfl (rfl) (rfl) (rfl),h2⟩
theorem rP_z1 (s:ByteArray) (i:Nat) (M N:Nat) (w:World) (hp:0<s.size) (hq:by' s 0=45) (hI:IdxIs (s.extract 1 s.size) true i) (ht:(s.extract 1 s.size).size≤4294967280) (ha:ParseIs ((s.extract 1 s.size).extract 0 i) M 0) (hb:ParseIs ((s.extract 1 s.size).extract (i+1) (s.extract 1 s.size).size) N 0) (hN:1<N) (hz:M=0):
  Calls Tryd.prog 24 #[.string s] w fun e w'=>cd w Fq.zero 2 e w':=by
 have hle:=hI.le
 have hh:=hI.hit rfl
 refine(ak (ρ:=[.val (.string s),.val (.string (s.extract 1 s.size)),.val (.int .i64 (i:Int)),.val (.int .i64 (s.size:Int)),.val (.int .u8 ((by' s 0:Nat):Int)),.val (.string ((s.extract 1 s.size).extract 0 i)),.dig (nl M) M,.dig (nl 1) 1,.val (.int .i64 ((s.extract 1 s.size).size:Int)),.val (.int .i64 ((i:Int)+1)),.val (.string ((s.extract 1 s.size).extract (i+1) (s.extract 1 s.size).size)),.dig (nl N) N,.val (.int .i64 (cC N 1))]) (w:=w) (fuel:=300) (args:=[.one (.ref 0)]) (vs:=[.string s]) (r:=.tup [.agg [.b false,.sl0,.sl0],.one (.i .i64 2)]) (lo:=[some (rP0 1 true,.ext 0,rP2 1 2 true)]) (obs:=[⟨aO Tryd.f24 0,rP0 1 true,.ext 0,rP2 1 2 true⟩])
  (ae (aT (i:=5) (k:=6) rfl rfl (li rfl) ha) (ae (cX (k:=7) rfl (by decide)) (ae (aT (i:=10) (k:=11) rfl rfl (li rfl) hb) (ae (iq (i:=11) (j:=7) rfl rfl (lr (n:=12) rfl) (Nat.le_trans (au hb) (by decide)) (Nat.le_trans bk (by decide))) (ae (dw (i:=6) rfl (decide_eq_true hz) (Nat.le_trans (au ha) (by decide))) ag)))))
  (ac (aB (n:=0) (m:=3) (t:=9) (by kernel_rfl) rfl rfl) (ac (cM (n:=3) (c:=0) (t:=3) rfl (decide_eq_true (by omega))) (ac (bc (n:=0) (m:=4) (k:=0) (c:=0) (t:=9) (by kernel_rfl) rfl rfl (by omega) rfl) (ac (cU (n:=4) (c:=45) (t:=5) rfl (fS (by omega))) (ac (dz (n:=0) (m:=1) (c:=1) (t:=9) (by kernel_rfl) rfl rfl (by decide) (by omega) rfl) (ac (b7 (n:=1) (k:=2) (m:=5) (u:=(i:Int)) (t:=9) (by kernel_rfl) rfl rfl rfl (by omega) (by omega) (congrArg ((s.extract 1 s.size).extract 0) (by omega))) (ac (aB (n:=1) (m:=8) (t:=9) (by kernel_rfl) rfl rfl) (ac (cD (n:=2) (m:=8) (b:=true) (t:=3) rfl rfl (decide_eq_true (by omega))) (ac (eu (n:=2) (m:=9) (c:=1) (t:=3) rfl rfl rfl (by omega) (by omega)) (ac (cQ (n:=1) (k:=9) (m:=10) (u:=(i:Int)+1) (t:=9) (by kernel_rfl) rfl rfl rfl (by omega) (by omega) (congrArg (fun j=>(s.extract 1 s.size).extract j (s.extract 1 s.size).size) (by omega))) (ac (gI (n:=12) (c:=0) (t:=3) rfl (gJ hN)) (ah)))))))))))) (by kernel_rfl) Tryd.func24 (by kernel_rfl) (aX (dA true rfl rfl hI ht) aI) ⟨am (n:=0) rfl aC,trivial⟩).mono ?_
 rintro e w' ⟨v,rfl,h1,h2⟩
 obtain⟨u,rfl,h3⟩:=dZ h1 (fun _ _ _ h=>h)
 exact⟨u,rfl,fU h3,h2⟩
theorem rP_z0 (s:ByteArray) (i:Nat) (M:Nat) (w:World) (hp:0<s.size) (hq:by' s 0=45) (hI:IdxIs (s.extract 1 s.size) false i) (ht:(s.extract 1 s.size).size≤4294967280) (ha:ParseIs ((s.extract 1 s.size).extract 0 i) M 0) (hz:M=0):
  Calls Tryd.prog 24 #[.string s] w fun e w'=>cd w Fq.zero 2 e w':=by
 have hle:=hI.le
 have hh:=hI.miss rfl
 refine(ak (ρ:=[.val (.string s),.val (.string (s.extract 1 s.size)),.val (.int .i64 (i:Int)),.val (.int .i64 (s.size:Int)),.val (.int .u8 ((by' s 0:Nat):Int)),.val (.string ((s.extract 1 s.size).extract 0 i)),.dig (nl M) M,.dig (nl 1) 1,.val (.int .i64 ((s.extract 1 s.size).size:Int))]) (w:=w) (fuel:=300) (args:=[.one (.ref 0)]) (vs:=[.string s]) (r:=.tup [.agg [.b false,.sl0,.sl0],.one (.i .i64 2)]) (lo:=[some (rP0 1 true,.ext 0,rP2 1 2 true)]) (obs:=[⟨aO Tryd.f24 0,rP0 1 true,.ext 0,rP2 1 2 true⟩])
  (ae (aT (i:=5) (k:=6) rfl rfl (li rfl) ha) (ae (cX (k:=7) rfl (by decide)) (ae (dw (i:=6) rfl (decide_eq_true hz) (Nat.le_trans (au ha) (by decide))) ag)))
  (ac (aB (n:=0) (m:=3) (t:=9) (by kernel_rfl) rfl rfl) (ac (cM (n:=3) (c:=0) (t:=3) rfl (decide_eq_true (by omega))) (ac (bc (n:=0) (m:=4) (k:=0) (c:=0) (t:=9) (by kernel_rfl) rfl rfl (by omega) rfl) (ac (cU (n:=4) (c:=45) (t:=5) rfl (fS (by omega))) (ac (dz (n:=0) (m:=1) (c:=1) (t:=9) (by kernel_rfl) rfl rfl (by decide) (by omega) rfl) (ac (b7 (n:=1) (k:=2) (m:=5) (u:=(i:Int)) (t:=9) (by kernel_rfl) rfl rfl rfl (by omega) (by omega) (congrArg ((s.extract 1 s.size).extract 0) (by omega))) (ac (aB (n:=1) (m:=8) (t:=9) (by kernel_rfl) rfl rfl) (ac (cD (n:=2) (m:=8) (b:=false) (t:=3) rfl rfl (decide_eq_false (by omega))) (ah))))))))) (by kernel_rfl) Tryd.func24 (by kernel_rfl) (aX (dA true rfl rfl hI ht) aI) ⟨am (n:=0) rfl aC,trivial⟩).mono ?_
 rintro e w' ⟨v,rfl,h1,h2⟩
 obtain⟨u,rfl,h3⟩:=dZ h1 (fun _ _ _ h=>h)
 exact⟨u,rfl,fU h3,h2⟩
theorem vc (s:ByteArray) (i:Nat) (M:Nat) (c:Int) (w:World) (hp:0<s.size) (hq:by' s 0≠45) (hI:IdxIs s true i) (ht:s.size≤4294967280) (ha:ParseIs (s.extract 0 i) M c) (h0:c≠0):
  Calls Tryd.prog 24 #[.string s] w fun e w'=>cd w Fq.zero c e w':=by
 have hle:=hI.le
 have hh:=hI.hit rfl
 refine(ak (ρ:=[.val (.string s),.val (.int .i64 (i:Int)),.val (.int .i64 (s.size:Int)),.val (.int .u8 ((by' s 0:Nat):Int)),.val (.string (s.extract 0 i)),.dig (nl M) M,.val (.int .i64 c)]) (w:=w) (fuel:=300) (args:=[.one (.ref 0)]) (vs:=[.string s]) (r:=.tup [.agg [.b false,.sl0,.sl0],.one (.ref 6)]) (lo:=[some (rP0 0 false,.ext 0,rP2 0 1 false)]) (obs:=[⟨aO Tryd.f24 0,rP0 0 false,.ext 0,rP2 0 1 false⟩])
  (ae (aT (i:=4) (k:=5) rfl rfl (lr (n:=6) rfl) ha) ag)
  (ac (aB (n:=0) (m:=2) (t:=9) (by kernel_rfl) rfl rfl) (ac (cM (n:=2) (c:=0) (t:=3) rfl (decide_eq_true (by omega))) (ac (bc (n:=0) (m:=3) (k:=0) (c:=0) (t:=9) (by kernel_rfl) rfl rfl (by omega) rfl) (ac (cU (n:=3) (c:=45) (t:=5) rfl (im (by omega))) (ac (b7 (n:=0) (k:=1) (m:=4) (u:=(i:Int)) (t:=9) (by kernel_rfl) rfl rfl rfl (by omega) (by omega) (congrArg (s.extract 0) (by omega))) (ac (ba (n:=6) (c:=0) (t:=33) rfl (cm h0)) (ah))))))) (by kernel_rfl) Tryd.func24 (by kernel_rfl) (aX (dX false rfl rfl hI ht) aI) ⟨am (n:=0) rfl aC,trivial⟩).mono ?_
 rintro e w' ⟨v,rfl,h1,h2⟩
 obtain⟨u,rfl,h3⟩:=dZ h1 (fun _ _ _ h=>aj rfl h)
 exact⟨u,rfl,fU h3,h2⟩
theorem vd (s:ByteArray) (i:Nat) (M:Nat) (c:Int) (w:World) (hp:0<s.size) (hq:by' s 0≠45) (hI:IdxIs s false i) (ht:s.size≤4294967280) (ha:ParseIs (s.extract 0 i) M c) (h0:c≠0):
  Calls Tryd.prog 24 #[.string s] w fun e w'=>cd w Fq.zero c e w':=by
 have hle:=hI.le
 have hh:=hI.miss rfl
 refine(ak (ρ:=[.val (.string s),.val (.int .i64 (i:Int)),.val (.int .i64 (s.size:Int)),.val (.int .u8 ((by' s 0:Nat):Int)),.val (.string (s.extract 0 i)),.dig (nl M) M,.val (.int .i64 c)]) (w:=w) (fuel:=300) (args:=[.one (.ref 0)]) (vs:=[.string s]) (r:=.tup [.agg [.b false,.sl0,.sl0],.one (.ref 6)]) (lo:=[some (rP0 0 false,.ext 0,rP2 0 1 false)]) (obs:=[⟨aO Tryd.f24 0,rP0 0 false,.ext 0,rP2 0 1 false⟩])
  (ae (aT (i:=4) (k:=5) rfl rfl (lr (n:=6) rfl) ha) ag)
  (ac (aB (n:=0) (m:=2) (t:=9) (by kernel_rfl) rfl rfl) (ac (cM (n:=2) (c:=0) (t:=3) rfl (decide_eq_true (by omega))) (ac (bc (n:=0) (m:=3) (k:=0) (c:=0) (t:=9) (by kernel_rfl) rfl rfl (by omega) rfl) (ac (cU (n:=3) (c:=45) (t:=5) rfl (im (by omega))) (ac (b7 (n:=0) (k:=1) (m:=4) (u:=(i:Int)) (t:=9) (by kernel_rfl) rfl rfl rfl (by omega) (by omega) (congrArg (s.extract 0) (by omega))) (ac (ba (n:=6) (c:=0) (t:=33) rfl (cm h0)) (ah))))))) (by kernel_rfl) Tryd.func24 (by kernel_rfl) (aX (dX false rfl rfl hI ht) aI) ⟨am (n:=0) rfl aC,trivial⟩).mono ?_
 rintro e w' ⟨v,rfl,h1,h2⟩
 obtain⟨u,rfl,h3⟩:=dZ h1 (fun _ _ _ h=>aj rfl h)
 exact⟨u,rfl,fU h3,h2⟩
theorem wQ (s:ByteArray) (i:Nat) (M N:Nat) (c:Int) (w:World) (hp:0<s.size) (hq:by' s 0≠45) (hI:IdxIs s true i) (ht:s.size≤4294967280) (ha:ParseIs (s.extract 0 i) M 0) (hb:ParseIs (s.extract (i+1) s.size) N c) (h0:c≠0):
  Calls Tryd.prog 24 #[.string s] w fun e w'=>cd w Fq.zero c e w':=by
 have hle:=hI.le
 have hh:=hI.hit rfl
 refine(ak (ρ:=[.val (.string s),.val (.int .i64 (i:Int)),.val (.int .i64 (s.size:Int)),.val (.int .u8 ((by' s 0:Nat):Int)),.val (.string (s.extract 0 i)),.dig (nl M) M,.dig (nl 1) 1,.val (.int .i64 ((i:Int)+1)),.val (.string (s.extract (i+1) s.size)),.dig (nl N) N,.val (.int .i64 c)]) (w:=w) (fuel:=300) (args:=[.one (.ref 0)]) (vs:=[.string s]) (r:=.tup [.agg [.b false,.sl0,.sl0],.one (.ref 10)]) (lo:=[some (rP0 0 false,.ext 0,rP2 0 1 false)]) (obs:=[⟨aO Tryd.f24 0,rP0 0 false,.ext 0,rP2 0 1 false⟩])
  (ae (aT (i:=4) (k:=5) rfl rfl (li rfl) ha) (ae (cX (k:=6) rfl (by decide)) (ae (aT (i:=8) (k:=9) rfl rfl (lr (n:=10) rfl) hb) ag)))
  (ac (aB (n:=0) (m:=2) (t:=9) (by kernel_rfl) rfl rfl) (ac (cM (n:=2) (c:=0) (t:=3) rfl (decide_eq_true (by omega))) (ac (bc (n:=0) (m:=3) (k:=0) (c:=0) (t:=9) (by kernel_rfl) rfl rfl (by omega) rfl) (ac (cU (n:=3) (c:=45) (t:=5) rfl (im (by omega))) (ac (b7 (n:=0) (k:=1) (m:=4) (u:=(i:Int)) (t:=9) (by kernel_rfl) rfl rfl rfl (by omega) (by omega) (congrArg (s.extract 0) (by omega))) (ac (cD (n:=1) (m:=2) (b:=true) (t:=3) rfl rfl (decide_eq_true (by omega))) (ac (eu (n:=1) (m:=7) (c:=1) (t:=3) rfl rfl rfl (by omega) (by omega)) (ac (cQ (n:=0) (k:=7) (m:=8) (u:=(i:Int)+1) (t:=9) (by kernel_rfl) rfl rfl rfl (by omega) (by omega) (congrArg (fun j=>s.extract j s.size) (by omega))) (ac (ba (n:=10) (c:=0) (t:=33) rfl (cm h0)) (ah)))))))))) (by kernel_rfl) Tryd.func24 (by kernel_rfl) (aX (dX false rfl rfl hI ht) aI) ⟨am (n:=0) rfl aC,trivial⟩).mono ?_
 rintro e w' ⟨v,rfl,h1,h2⟩
 obtain⟨u,rfl,h3⟩:=dZ h1 (fun _ _ _ h=>aj rfl h)
 exact⟨u,rfl,fU h3,h2⟩
theorem yG (s:ByteArray) (i:Nat) (M N:Nat) (w:World) (hp:0<s.size) (hq:by' s 0≠45) (hI:IdxIs s true i) (ht:s.size≤4294967280) (ha:ParseIs (s.extract 0 i) M 0) (hb:ParseIs (s.extract (i+1) s.size) N 0) (hN:¬1<N):
  Calls Tryd.prog 24 #[.string s] w fun e w'=>cd w Fq.zero 2 e w':=by
 have hle:=hI.le
 have hh:=hI.hit rfl
 refine(ak (ρ:=[.val (.string s),.val (.int .i64 (i:Int)),.val (.int .i64 (s.size:Int)),.val (.int .u8 ((by' s 0:Nat):Int)),.val (.string (s.extract 0 i)),.dig (nl M) M,.dig (nl 1) 1,.val (.int .i64 ((i:Int)+1)),.val (.string (s.extract (i+1) s.size)),.dig (nl N) N,.val (.int .i64 (cC N 1))]) (w:=w) (fuel:=300) (args:=[.one (.ref 0)]) (vs:=[.string s]) (r:=.tup [.agg [.b false,.sl0,.sl0],.one (.i .i64 2)]) (lo:=[some (rP0 0 false,.ext 0,rP2 0 1 false)]) (obs:=[⟨aO Tryd.f24 0,rP0 0 false,.ext 0,rP2 0 1 false⟩])
  (ae (aT (i:=4) (k:=5) rfl rfl (li rfl) ha) (ae (cX (k:=6) rfl (by decide)) (ae (aT (i:=8) (k:=9) rfl rfl (li rfl) hb) (ae (iq (i:=9) (j:=6) rfl rfl (lr (n:=10) rfl) (Nat.le_trans (au hb) (by decide)) (Nat.le_trans bk (by decide))) ag))))
  (ac (aB (n:=0) (m:=2) (t:=9) (by kernel_rfl) rfl rfl) (ac (cM (n:=2) (c:=0) (t:=3) rfl (decide_eq_true (by omega))) (ac (bc (n:=0) (m:=3) (k:=0) (c:=0) (t:=9) (by kernel_rfl) rfl rfl (by omega) rfl) (ac (cU (n:=3) (c:=45) (t:=5) rfl (im (by omega))) (ac (b7 (n:=0) (k:=1) (m:=4) (u:=(i:Int)) (t:=9) (by kernel_rfl) rfl rfl rfl (by omega) (by omega) (congrArg (s.extract 0) (by omega))) (ac (cD (n:=1) (m:=2) (b:=true) (t:=3) rfl rfl (decide_eq_true (by omega))) (ac (eu (n:=1) (m:=7) (c:=1) (t:=3) rfl rfl rfl (by omega) (by omega)) (ac (cQ (n:=0) (k:=7) (m:=8) (u:=(i:Int)+1) (t:=9) (by kernel_rfl) rfl rfl rfl (by omega) (by omega) (congrArg (fun j=>s.extract j s.size) (by omega))) (ac (gI (n:=10) (c:=0) (t:=3) rfl (pp hN)) (ah)))))))))) (by kernel_rfl) Tryd.func24 (by kernel_rfl) (aX (dX false rfl rfl hI ht) aI) ⟨am (n:=0) rfl aC,trivial⟩).mono ?_
 rintro e w' ⟨v,rfl,h1,h2⟩
 obtain⟨u,rfl,h3⟩:=dZ h1 (fun _ _ _ h=>h)
 exact⟨u,rfl,fU h3,h2⟩
theorem yH (s:ByteArray) (i:Nat) (M N:Nat) (w:World) (hp:0<s.size) (hq:by' s 0≠45) (hI:IdxIs s true i) (ht:s.size≤4294967280) (ha:ParseIs (s.extract 0 i) M 0) (hb:ParseIs (s.extract (i+1) s.size) N 0) (hN:1<N) (hg:Nat.gcd M N=1):
  Calls Tryd.prog 24 #[.string s] w fun e w'=>cd w ⟨false,M,N⟩ 0 e w':=by
 have hle:=hI.le
 have hh:=hI.hit rfl
 refine(ak (ρ:=[.val (.string s),.val (.int .i64 (i:Int)),.val (.int .i64 (s.size:Int)),.val (.int .u8 ((by' s 0:Nat):Int)),.val (.string (s.extract 0 i)),.dig (nl M) M,.dig (nl 1) 1,.val (.int .i64 ((i:Int)+1)),.val (.string (s.extract (i+1) s.size)),.dig (nl N) N,.val (.int .i64 (cC N 1)),.dig (nl (Nat.gcd M N)) (Nat.gcd M N)]) (w:=w) (fuel:=300) (args:=[.one (.ref 0)]) (vs:=[.string s]) (r:=.tup [.agg [.b false,.ref 5,.ref 9],.one (.i .i64 0)]) (lo:=[some (rP0 0 false,.ext 0,rP2 0 1 false)]) (obs:=[⟨aO Tryd.f24 0,rP0 0 false,.ext 0,rP2 0 1 false⟩])
  (ae (aT (i:=4) (k:=5) rfl rfl (li rfl) ha) (ae (cX (k:=6) rfl (by decide)) (ae (aT (i:=8) (k:=9) rfl rfl (li rfl) hb) (ae (iq (i:=9) (j:=6) rfl rfl (lr (n:=10) rfl) (Nat.le_trans (au hb) (by decide)) (Nat.le_trans bk (by decide))) (ae (fg (i:=5) (j:=9) (k:=11) rfl rfl rfl (Nat.le_trans (au ha) (by decide)) (Nat.le_trans (au hb) (by decide))) (ae (bK (i:=11) (j:=6) rfl rfl (decide_eq_true hg) (Nat.le_trans (bu (au ha) (au hb)) (by decide)) (Nat.le_trans bk (by decide))) ag))))))
  (ac (aB (n:=0) (m:=2) (t:=9) (by kernel_rfl) rfl rfl) (ac (cM (n:=2) (c:=0) (t:=3) rfl (decide_eq_true (by omega))) (ac (bc (n:=0) (m:=3) (k:=0) (c:=0) (t:=9) (by kernel_rfl) rfl rfl (by omega) rfl) (ac (cU (n:=3) (c:=45) (t:=5) rfl (im (by omega))) (ac (b7 (n:=0) (k:=1) (m:=4) (u:=(i:Int)) (t:=9) (by kernel_rfl) rfl rfl rfl (by omega) (by omega) (congrArg (s.extract 0) (by omega))) (ac (cD (n:=1) (m:=2) (b:=true) (t:=3) rfl rfl (decide_eq_true (by omega))) (ac (eu (n:=1) (m:=7) (c:=1) (t:=3) rfl rfl rfl (by omega) (by omega)) (ac (cQ (n:=0) (k:=7) (m:=8) (u:=(i:Int)+1) (t:=9) (by kernel_rfl) rfl rfl rfl (by omega) (by omega) (congrArg (fun j=>s.extract j s.size) (by omega))) (ac (gI (n:=10) (c:=0) (t:=3) rfl (gJ hN)) (ah)))))))))) (by kernel_rfl) Tryd.func24 (by kernel_rfl) (aX (dX false rfl rfl hI ht) aI) ⟨am (n:=0) rfl aC,trivial⟩).mono ?_
 rintro e w' ⟨v,rfl,h1,h2⟩
 obtain⟨u,rfl,h3⟩:=dZ h1 (fun _ _ _ h=>h)
 exact⟨u,rfl,fw h3 (bl false) rfl rfl (rfl) (rfl) (rfl),h2⟩
theorem yI (s:ByteArray) (i:Nat) (M N:Nat) (w:World) (hp:0<s.size) (hq:by' s 0≠45) (hI:IdxIs s true i) (ht:s.size≤4294967280) (ha:ParseIs (s.extract 0 i) M 0) (hb:ParseIs (s.extract (i+1) s.size) N 0) (hN:1<N) (hg:¬Nat.gcd M N=1):
  Calls Tryd.prog 24 #[.string s] w fun e w'=>cd w Fq.zero 2 e w':=by
 have hle:=hI.le
 have hh:=hI.hit rfl
 refine(ak (ρ:=[.val (.string s),.val (.int .i64 (i:Int)),.val (.int .i64 (s.size:Int)),.val (.int .u8 ((by' s 0:Nat):Int)),.val (.string (s.extract 0 i)),.dig (nl M) M,.dig (nl 1) 1,.val (.int .i64 ((i:Int)+1)),.val (.string (s.extract (i+1) s.size)),.dig (nl N) N,.val (.int .i64 (cC N 1)),.dig (nl (Nat.gcd M N)) (Nat.gcd M N)]) (w:=w) (fuel:=300) (args:=[.one (.ref 0)]) (vs:=[.string s]) (r:=.tup [.agg [.b false,.sl0,.sl0],.one (.i .i64 2)]) (lo:=[some (rP0 0 false,.ext 0,rP2 0 1 false)]) (obs:=[⟨aO Tryd.f24 0,rP0 0 false,.ext 0,rP2 0 1 false⟩])
  (ae (aT (i:=4) (k:=5) rfl rfl (li rfl) ha) (ae (cX (k:=6) rfl (by decide)) (ae (aT (i:=8) (k:=9) rfl rfl (li rfl) hb) (ae (iq (i:=9) (j:=6) rfl rfl (lr (n:=10) rfl) (Nat.le_trans (au hb) (by decide)) (Nat.le_trans bk (by decide))) (ae (fg (i:=5) (j:=9) (k:=11) rfl rfl rfl (Nat.le_trans (au ha) (by decide)) (Nat.le_trans (au hb) (by decide))) (ae (bK (i:=11) (j:=6) rfl rfl (decide_eq_false hg) (Nat.le_trans (bu (au ha) (au hb)) (by decide)) (Nat.le_trans bk (by decide))) ag))))))
  (ac (aB (n:=0) (m:=2) (t:=9) (by kernel_rfl) rfl rfl) (ac (cM (n:=2) (c:=0) (t:=3) rfl (decide_eq_true (by omega))) (ac (bc (n:=0) (m:=3) (k:=0) (c:=0) (t:=9) (by kernel_rfl) rfl rfl (by omega) rfl) (ac (cU (n:=3) (c:=45) (t:=5) rfl (im (by omega))) (ac (b7 (n:=0) (k:=1) (m:=4) (u:=(i:Int)) (t:=9) (by kernel_rfl) rfl rfl rfl (by omega) (by omega) (congrArg (s.extract 0) (by omega))) (ac (cD (n:=1) (m:=2) (b:=true) (t:=3) rfl rfl (decide_eq_true (by omega))) (ac (eu (n:=1) (m:=7) (c:=1) (t:=3) rfl rfl rfl (by omega) (by omega)) (ac (cQ (n:=0) (k:=7) (m:=8) (u:=(i:Int)+1) (t:=9) (by kernel_rfl) rfl rfl rfl (by omega) (by omega) (congrArg (fun j=>s.extract j s.size) (by omega))) (ac (gI (n:=10) (c:=0) (t:=3) rfl (gJ hN)) (ah)))))))))) (by kernel_rfl) Tryd.func24 (by kernel_rfl) (aX (dX false rfl rfl hI ht) aI) ⟨am (n:=0) rfl aC,trivial⟩).mono ?_
 rintro e w' ⟨v,rfl,h1,h2⟩
 obtain⟨u,rfl,h3⟩:=dZ h1 (fun _ _ _ h=>h)
 exact⟨u,rfl,fU h3,h2⟩
theorem yJ (s:ByteArray) (i:Nat) (M:Nat) (w:World) (hp:0<s.size) (hq:by' s 0≠45) (hI:IdxIs s false i) (ht:s.size≤4294967280) (ha:ParseIs (s.extract 0 i) M 0):
  Calls Tryd.prog 24 #[.string s] w fun e w'=>cd w ⟨false,M,1⟩ 0 e w':=by
 have hle:=hI.le
 have hh:=hI.miss rfl
 refine(ak (ρ:=[.val (.string s),.val (.int .i64 (i:Int)),.val (.int .i64 (s.size:Int)),.val (.int .u8 ((by' s 0:Nat):Int)),.val (.string (s.extract 0 i)),.dig (nl M) M,.dig (nl 1) 1,.dig (nl (Nat.gcd M 1)) (Nat.gcd M 1)]) (w:=w) (fuel:=300) (args:=[.one (.ref 0)]) (vs:=[.string s]) (r:=.tup [.agg [.b false,.ref 5,.ref 6],.one (.i .i64 0)]) (lo:=[some (rP0 0 false,.ext 0,rP2 0 1 false)]) (obs:=[⟨aO Tryd.f24 0,rP0 0 false,.ext 0,rP2 0 1 false⟩])
  (ae (aT (i:=4) (k:=5) rfl rfl (li rfl) ha) (ae (cX (k:=6) rfl (by decide)) (ae (fg (i:=5) (j:=6) (k:=7) rfl rfl rfl (Nat.le_trans (au ha) (by decide)) (Nat.le_trans bk (by decide))) (ae (bK (i:=7) (j:=6) rfl rfl (decide_eq_true (Nat.gcd_one_right M)) (Nat.le_trans (bu (au ha) bk) (by decide)) (Nat.le_trans bk (by decide))) ag))))
  (ac (aB (n:=0) (m:=2) (t:=9) (by kernel_rfl) rfl rfl) (ac (cM (n:=2) (c:=0) (t:=3) rfl (decide_eq_true (by omega))) (ac (bc (n:=0) (m:=3) (k:=0) (c:=0) (t:=9) (by kernel_rfl) rfl rfl (by omega) rfl) (ac (cU (n:=3) (c:=45) (t:=5) rfl (im (by omega))) (ac (b7 (n:=0) (k:=1) (m:=4) (u:=(i:Int)) (t:=9) (by kernel_rfl) rfl rfl rfl (by omega) (by omega) (congrArg (s.extract 0) (by omega))) (ac (cD (n:=1) (m:=2) (b:=false) (t:=3) rfl rfl (decide_eq_false (by omega))) (ah))))))) (by kernel_rfl) Tryd.func24 (by kernel_rfl) (aX (dX false rfl rfl hI ht) aI) ⟨am (n:=0) rfl aC,trivial⟩).mono ?_
 rintro e w' ⟨v,rfl,h1,h2⟩
 obtain⟨u,rfl,h3⟩:=dZ h1 (fun _ _ _ h=>h)
 exact⟨u,rfl,fw h3 (bl false) rfl rfl (rfl) (rfl) (rfl),h2⟩
theorem ve (s:ByteArray) (i:Nat) (M:Nat) (c:Int) (w:World) (hp:s.size=0) (hI:IdxIs s false i) (ht:s.size≤4294967280) (ha:ParseIs (s.extract 0 i) M c) (h0:c≠0):
  Calls Tryd.prog 24 #[.string s] w fun e w'=>cd w Fq.zero c e w':=by
 have hle:=hI.le
 have hh:=hI.miss rfl
 refine(ak (ρ:=[.val (.string s),.val (.int .i64 (i:Int)),.val (.int .i64 (s.size:Int)),.val (.string (s.extract 0 i)),.dig (nl M) M,.val (.int .i64 c)]) (w:=w) (fuel:=300) (args:=[.one (.ref 0)]) (vs:=[.string s]) (r:=.tup [.agg [.b false,.sl0,.sl0],.one (.ref 5)]) (lo:=[some (rP0 0 false,.ext 0,rP2 0 1 false)]) (obs:=[⟨aO Tryd.f24 0,rP0 0 false,.ext 0,rP2 0 1 false⟩])
  (ae (aT (i:=3) (k:=4) rfl rfl (lr (n:=5) rfl) ha) ag)
  (ac (aB (n:=0) (m:=2) (t:=9) (by kernel_rfl) rfl rfl) (ac (cM (n:=2) (c:=0) (t:=3) rfl (decide_eq_false (by omega))) (ac (b7 (n:=0) (k:=1) (m:=3) (u:=(i:Int)) (t:=9) (by kernel_rfl) rfl rfl rfl (by omega) (by omega) (congrArg (s.extract 0) (by omega))) (ac (ba (n:=5) (c:=0) (t:=33) rfl (cm h0)) (ah))))) (by kernel_rfl) Tryd.func24 (by kernel_rfl) (aX (dX false rfl rfl hI ht) aI) ⟨am (n:=0) rfl aC,trivial⟩).mono ?_
 rintro e w' ⟨v,rfl,h1,h2⟩
 obtain⟨u,rfl,h3⟩:=dZ h1 (fun _ _ _ h=>aj rfl h)
 exact⟨u,rfl,fU h3,h2⟩
theorem vf (s:ByteArray) (x:Fq) (c:Int) (w:World) (h:FP s x c) (hs:s.size≤4294967280):Calls Tryd.prog 24 #[.string s] w fun e w'=>cd w x c e w':=by
 have start:∀ {t a b:ByteArray} {B F:Bool},Pieces s t B F a b→(B=true∧0<s.size∧by' s 0=45∧t=s.extract 1 s.size)∨(B=false∧t=s∧((0<s.size∧by' s 0≠45)∨s.size=0)):=fun {t a b B F} HP=>by
  have h1:=HP.sign
  have h2:=HP.rest
  cases B
  ·refine .inr ⟨rfl,by simpa using h2,?_⟩
   have h1:=of_decide_eq_false h1
   by_cases h0:s.size=0
   ·exact .inr h0
   ·exact .inl ⟨by omega,fun e=>h1 ⟨by omega,e⟩⟩
  ·have h1:=of_decide_eq_true h1
   exact .inl ⟨rfl,h1.1,h1.2,by simpa using h2⟩
 cases h with
 | @num t B F a b M c HP ha h0=>
  have ht:=Nat.le_trans (cj HP) hs
  obtain⟨i,hI,rfl,_⟩:=fZ HP
  rcases start HP with⟨rfl,hp,hq,rfl⟩ | ⟨rfl,rfl,⟨hp,hq⟩ | hp⟩
  ·cases F
   ·exact u9 s i M c w hp hq hI ht ha h0
   ·exact uZ s i M c w hp hq hI ht ha h0
  ·cases F
   ·exact vd _ i M c w hp hq hI ht ha h0
   ·exact vc _ i M c w hp hq hI ht ha h0
  ·cases F
   ·exact ve _ i M c w hp hI ht ha h0
   ·have:=(hI.hit rfl).1;omega
 | @den t B a b M N c HP ha hb h0=>
  have ht:=Nat.le_trans (cj HP) hs
  obtain⟨i,hI,rfl,hbe⟩:=fZ HP
  obtain rfl:=hbe rfl
  rcases start HP with⟨rfl,hp,hq,rfl⟩ | ⟨rfl,rfl,⟨hp,hq⟩ | hp⟩
  ·exact wP s i M N c w hp hq hI ht ha hb h0
  ·exact wQ _ i M N c w hp hq hI ht ha hb h0
  ·have:=(hI.hit rfl).1;omega
 | @bad t B F a b M N HP ha hb hv=>
  have ht:=Nat.le_trans (cj HP) hs
  obtain⟨i,hI,rfl,hbe⟩:=fZ HP
  cases F with
  | false=>
   have hv:(Fq.mk B M 1).valid=false:=by simpa [dM]using hv
   rcases start HP with⟨rfl,hp,hq,rfl⟩ | ⟨rfl,rfl,_⟩
   ·by_cases hz:M=0
    ·exact rP_z0 s i M w hp hq hI ht ha hz
    ·simp[Fq.valid,hz]at hv
   ·simp[Fq.valid]at hv
  | true=>
   obtain rfl:=hbe rfl
   have hb:=hb rfl
   have hpos:0<t.size:=by have:=(hI.hit rfl).1;omega
   have key:1<N→¬(Nat.gcd M N=1∧¬(B=true∧M=0)):=fun hN ⟨h1,h2⟩=>by
    have hv:(Fq.mk B M N).valid=false:=by
     have:¬N=1:=by omega
     simpa [dM,this]using hv
    have h3:(Fq.mk B M N).valid=true:=decide_eq_true ⟨by show N≠0;omega,h2,h1⟩
    rw[h3]at hv;cases hv
   rcases start HP with⟨rfl,hp,hq,rfl⟩ | ⟨rfl,rfl,⟨hp,hq⟩ | hp⟩
   ·by_cases hN:1<N
    ·by_cases hz:M=0
     ·exact rP_z1 s i M N w hp hq hI ht ha hb hN hz
     ·exact yE s i M N w hp hq hI ht ha hb hN hz (fun hg=>key hN ⟨hg,fun h=>hz h.2⟩)
    ·exact yC s i M N w hp hq hI ht ha hb hN
   ·by_cases hN:1<N
    ·exact yI _ i M N w hp hq hI ht ha hb hN (fun hg=>key hN ⟨hg,fun h=>by cases h.1⟩)
    ·exact yG _ i M N w hp hq hI ht ha hb hN
   ·omega
 | @good t B F a b M N HP ha hb hv=>
  have ht:=Nat.le_trans (cj HP) hs
  obtain⟨i,hI,rfl,hbe⟩:=fZ HP
  cases F with
  | false=>
   have hv:(Fq.mk B M 1).valid=true:=by simpa [dM]using hv
   have hv:=of_decide_eq_true hv
   rcases start HP with⟨rfl,hp,hq,rfl⟩ | ⟨rfl,rfl,⟨hp,hq⟩ | hp⟩
   ·exact yF s i M w hp hq hI ht ha (fun hz=>hv.2.1 ⟨rfl,hz⟩)
   ·exact yJ _ i M w hp hq hI ht ha
   ·have h1:=hI.miss rfl
    have h2:(t.extract 0 i).size=0:=by rw[ByteArray.size_extract];omega
    have:=(ha.short h2).2
    omega
  | true=>
   obtain rfl:=hbe rfl
   have hb:=hb rfl
   have hpos:0<t.size:=by have:=(hI.hit rfl).1;omega
   have hv':¬N=1∧(Fq.mk B M N).valid=true:=by simpa [dM]using hv
   have hv:=of_decide_eq_true hv'.2
   have hN:1<N:=by have h0:N≠0:=hv.1;have:=hv'.1;omega
   rcases start HP with⟨rfl,hp,hq,rfl⟩ | ⟨rfl,rfl,⟨hp,hq⟩ | hp⟩
   ·exact yD s i M N w hp hq hI ht ha hb hN (fun hz=>hv.2.1 ⟨rfl,hz⟩) hv.2.2
   ·exact yH _ i M N w hp hq hI ht ha hb hN hv.2.2
   ·omega
end Go.Proofs.YtfhinmdhjlmikaaDoor
