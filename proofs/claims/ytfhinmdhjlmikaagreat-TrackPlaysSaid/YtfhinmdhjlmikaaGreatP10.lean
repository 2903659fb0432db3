/- Package fraction and its reference, by the executor. -/
import Derived.Test.YtfhinmdhjlmikaaGreatP09
namespace Go.Proofs.YtfhinmdhjlmikaaGreat
set_option linter.unusedSimpArgs false
set_option linter.unusedVariables false
set_option maxRecDepth 100000
open Go.RowKit
/-- Agreement in all fields. -/
def Fq.same (x y:Fq):Bool:=x.s==y.s && (decide (x.p=y.p) && decide (x.q=y.q))
theorem Fq.same_iff {x y:Fq}:x.same y=true↔x=y:=by
 obtain⟨a,b,c⟩:=x;obtain⟨a',b',c'⟩:=y
 simp[Fq.same]
/-- A natural number, a fraction, as unknowns. -/
def nt (n:Nat):SV:=.agg [.ref n]
def q3 (i j k:Nat):SV:=.agg [.ref i,.ref j,.ref k]
theorem xN {m n d e:Nat} (hm:nl m≤d) (hn:nl n≤e):nl (m+n)≤d+e+1:=aZ.2 (sm_add (aZ.1 hm) (aZ.1 hn))
theorem nN {m n d:Nat} (hm:nl m≤d):nl (m - n)≤d:=Nat.le_trans (eu (Nat.sub_le _ _)) hm
theorem xO {m n d:Nat} (hm:nl m≤d):nl (m / n)≤d:=Nat.le_trans (eu (Nat.div_le_self _ _)) hm
theorem co {m n d e:Nat} (hm:nl m≤d) (hn:nl n≤e):nl (Nat.gcd m n)≤d+e:=by
 by_cases h:n=0
 ·subst h;rw[Nat.gcd_zero_right];omega
 ·have:=eu (Nat.gcd_le_right m (Nat.pos_of_ne_zero h));omega
theorem mx:nl 1≤1:=aZ.2 (by decide)
theorem vh {v:Int} (lv: -9223372036854775808≤v) (rv:v<9223372036854775808):v.natAbs<18446744073709551616:=by omega
theorem tk {a b:Bool} (h:a=b):(a==b)=true:=by simpa using h
theorem tn {a b:Bool} (h:a≠b):(a==b)=false:=by simpa using h
theorem le_t {m n:Nat} (h:¬m<n):decide (n≤m)=true:=decide_eq_true (by omega)
theorem le_f {m n:Nat} (h:m<n):decide (n≤m)=false:=decide_eq_false (by omega)
theorem rh (m n:Nat):(m<n∧dX m n= -1)∨(n<m∧dX m n=1)∨(m=n∧dX m n=0):=by
 rcases Nat.lt_trichotomy m n with h | h | h
 ·exact .inl ⟨h,gt h⟩
 ·exact .inr (.inr ⟨h,kY h⟩)
 ·exact .inr (.inl ⟨h,jD h⟩)
theorem cmp_lt_t {m n:Nat} (h:m<n):decide (dX m n<0)=true:=decide_eq_true (by have:=rh m n;omega)
theorem cmp_lt_f {m n:Nat} (h:¬m<n):decide (dX m n<0)=false:=decide_eq_false (by have:=rh m n;omega)
theorem cmp_ne_t {m n:Nat} (h:m≠n):(dX m n !=0)=true:=bneq_t (by have:=rh m n;omega)
theorem cmp_ne_f {m n:Nat} (h:m=n):(dX m n !=0)=false:=bneq_f (by have:=rh m n;omega)
theorem lowz {m n:Nat} (h0:n≠0):m / Nat.gcd m n=0↔m=0:=by
 have hg:=Nat.gcd_pos_of_pos_right m (Nat.pos_of_ne_zero h0)
 rw[Nat.div_eq_zero_iff]
 constructor
 ·rintro(h | h)
  ·omega
  ·rcases Nat.eq_zero_or_pos m with h2 | h2
   ·exact h2
   ·have:=Nat.gcd_le_left n h2;omega
 ·rintro rfl;exact .inr hg
section
variable {ρ:Rho} {B:Blk} {w:World} {v:Value} {i j k l' n:Nat} {l r:Leaf} {m z z':Nat} {f:FuncId} {s b:Bool} {x y u:Fq} {t:TypeId} {c:Int} {p q a d:Nat} {S:Bool} {P Q P0 Q0:Nat} {S0:Bool}
theorem nt_isR {L N:Nat} (h:ρ[n]? =some (.dig L N)):(nt n).holds ρ B w v↔IsR w v L N:=by
 constructor
 ·rintro⟨vs,rfl,h1⟩
  match vs,h1 with
  | [x],h1=>exact(iX h).1 h1.1
 ·intro h1
  obtain⟨a,c,rfl,h2⟩:=h1
  exact⟨[_],rfl,(iX h).2 ⟨a,c,rfl,h2⟩,trivial⟩
theorem bG {N:Nat} (h:ρ[n]? =some (.dig (nl N) N)):(nt n).holds ρ B w v↔IsN w v N:=nt_isR h
theorem inFR {L N:Nat} (h:rg w v s L p N q) (hl:∀B w,l.holds ρ B w (.bool s)) (hj:ρ[j]? =some (.dig L p)) (hk:ρ[k]? =some (.dig N q)):(SV.agg [l,.ref j,.ref k]).holds ρ B w v:=by
 obtain⟨a,c,b,d,rfl,h1,h2⟩:=h
 exact⟨[_,_,_],rfl,hl B w,(iX hj).2 h1,(iX hk).2 h2,trivial⟩
theorem inF (h:IsF w v s p q) (hl:∀B w,l.holds ρ B w (.bool s)) (hj:ρ[j]? =some (.dig (nl p) p)) (hk:ρ[k]? =some (.dig (nl q) q)):(SV.agg [l,.ref j,.ref k]).holds ρ B w v:=inFR (s:=s) (L:=nl p) (N:=nl q) h hl hj hk
theorem el (h:(SV.agg [l,.ref j,.ref k]).holds ρ B w v) (hl:∀B w x,l.holds ρ B w x→x= .bool S0) (hp:ρ[j]? =some (.dig (nl P0) P0)) (hq:ρ[k]? =some (.dig (nl Q0) Q0)) (eS:S0=S) (eP:P0=P) (eQ:Q0=Q):IsF w v S P Q:=by
 subst eS;subst eP;subst eQ
 obtain⟨vs,rfl,h1⟩:=h
 match vs,h1 with
 | [x,y,z],h1=>
  have e1:=hl _ _ _ h1.1
  subst e1
  have h2:=(iX hp).1 h1.2.1
  have h3:=(iX hq).1 h1.2.2.1
  have hs:∀ {x:Value} {L N:Nat},IsR w (.agg #[x]) L N→∃a c,x= .slice a L c:=fun {x L N} h=>by
   obtain⟨a,c,e,_⟩:=h
   injection e with e
   have:=congrArg (fun x:Array Value=>x[0]?) e
   exact⟨a,c,by simpa using this⟩
  obtain⟨a,c,rfl⟩:=hs h2
  obtain⟨b,d,rfl⟩:=hs h3
  exact⟨a,c,b,d,rfl,h2,h3⟩
theorem tp {A:SV} (h:(AV.tup [A,.one l]).holds ρ B w v) (hl:∀B w x,l.holds ρ B w x→x= .int .i64 c):∃u,v= .tuple #[u,.int .i64 c]∧A.holds ρ B w u:=by
 obtain⟨vs,rfl,h1⟩:=h
 match vs,h1 with
 | [x,y],h1=>
  have e:=hl _ _ _ h1.2.1
  subst e
  exact⟨x,rfl,h1.1⟩
theorem ko {a b:Bool} (h:(SV.agg [l,r]).holds ρ B w v) (hl:∀B w x,l.holds ρ B w x→x= .bool a) (hr:∀B w x,r.holds ρ B w x→x= .bool b):v= .agg #[.bool a,.bool b]:=by
 obtain⟨vs,rfl,h1⟩:=h
 match vs,h1 with
 | [x,y],h1=>
  obtain rfl:=hl _ _ _ h1.1
  obtain rfl:=hr _ _ _ h1.2.1
  rfl
/-- These three unknowns (the first may be known) are the fraction x. -/
def FAt (ρ:Rho) (l:Leaf) (a b:Nat) (x:Fq):Prop:=(∀B w,l.holds ρ B w (.bool x.s))∧(∀B w v,l.holds ρ B w v→v= .bool x.s)∧ρ[a]? =some (.dig (nl x.p) x.p)∧ρ[b]? =some (.dig (nl x.q) x.q)
theorem cB {a b:Nat} (h1:∀B w,l.holds ρ B w (.bool x.s)) (h2:∀B w v,l.holds ρ B w v→v= .bool x.s) (h3:ρ[a]? =some (.dig (nl x.p) x.p)) (h4:ρ[b]? =some (.dig (nl x.q) x.q)):FAt ρ l a b x:=⟨h1,h2,h3,h4⟩
theorem FAt.isQ {a b:Nat} (h:FAt ρ l a b x) (hv:(SV.agg [l,.ref a,.ref b]).holds ρ B w v):IsQ w v x:=el hv h.2.1 h.2.2.1 h.2.2.2 rfl rfl rfl
theorem FAt.into {a b:Nat} (h:FAt ρ l a b x) (hv:IsQ w v x):(SV.agg [l,.ref a,.ref b]).holds ρ B w v:=inF hv h.1 h.2.2.1 h.2.2.2
theorem bl2 {b c:Bool} (h:b=c):∀B w x,(Leaf.b c).holds ρ B w x→x= .bool b:=fun _ _ _ e=>by subst h;exact e
theorem i2N (hen:jh f) (hc:∀va vb w,IsN w va m→IsN w vb n→Calls Tryz.prog f #[va,vb] w (fun e w'=>RetN w z e w')) (hi:ρ[i]? =some (.dig (nl m) m)) (hj:ρ[j]? =some (.dig (nl n) n)) (hk:ρ[k]? =some (.dig (nl z) z)):Inst.Ok Tryz.prog ρ ⟨f,[nt i,nt j],.v (nt k)⟩:=
 ⟨hen,fun B w vs hB h=>by
  match vs,h with
  | [va,vb],h=>
   refine(hc va vb w ((bG hi).1 h.1) ((bG hj).1 h.2.1)).mono ?_
   rintro e w' ⟨v,rfl,h1,h2⟩
   exact⟨v,rfl,(bG hk).2 h1,h2⟩⟩
theorem i1V {u:Value} (hen:jh f) (hc:∀va w,IsN w va m→Calls Tryz.prog f #[va] w (fun e w'=>bH w u e w')) (hi:ρ[i]? =some (.dig (nl m) m)) (hl:∀B w,l.holds ρ B w u):Inst.Ok Tryz.prog ρ ⟨f,[nt i],.v (.one l)⟩:=
 ⟨hen,fun B w vs hB h=>by
  match vs,h with
  | [va],h=>
   refine(hc va w ((bG hi).1 h.1)).mono ?_
   rintro e w' ⟨rfl,h2⟩
   exact⟨_,rfl,hl B w',h2⟩⟩
theorem i2V {u:Value} (hen:jh f) (hc:∀va vb w,IsN w va m→IsN w vb n→Calls Tryz.prog f #[va,vb] w (fun e w'=>bH w u e w')) (hi:ρ[i]? =some (.dig (nl m) m)) (hj:ρ[j]? =some (.dig (nl n) n)) (hl:∀B w,l.holds ρ B w u):Inst.Ok Tryz.prog ρ ⟨f,[nt i,nt j],.v (.one l)⟩:=
 ⟨hen,fun B w vs hB h=>by
  match vs,h with
  | [va,vb],h=>
   refine(hc va vb w ((bG hi).1 h.1) ((bG hj).1 h.2.1)).mono ?_
   rintro e w' ⟨rfl,h2⟩
   exact⟨_,rfl,hl B w',h2⟩⟩
theorem i1QQ {a b a' b':Nat} (hen:jh f) (hc:∀va w,IsQ w va x→Calls Tryz.prog f #[va] w (fun e w'=>fC w u e w')) (hx:FAt ρ l a b x) (hr:FAt ρ r a' b' u):Inst.Ok Tryz.prog ρ ⟨f,[.agg [l,.ref a,.ref b]],.v (.agg [r,.ref a',.ref b'])⟩:=
 ⟨hen,fun B w vs hB h=>by
  match vs,h with
  | [va],h=>
   refine(hc va w (hx.isQ h.1)).mono ?_
   rintro e w' ⟨v,rfl,h1,h2⟩
   exact⟨v,rfl,hr.into h1,h2⟩⟩
theorem i2QQ {a b a' b' c d:Nat} {l2:Leaf} (hen:jh f) (hc:∀va vb w,IsQ w va x→IsQ w vb y→Calls Tryz.prog f #[va,vb] w (fun e w'=>fC w u e w')) (hx:FAt ρ l a b x) (hy:FAt ρ l2 c d y) (hr:FAt ρ r a' b' u):Inst.Ok Tryz.prog ρ ⟨f,[.agg [l,.ref a,.ref b],.agg [l2,.ref c,.ref d]],.v (.agg [r,.ref a',.ref b'])⟩:=
 ⟨hen,fun B w vs hB h=>by
  match vs,h with
  | [va,vb],h=>
   refine(hc va vb w (hx.isQ h.1) (hy.isQ h.2.1)).mono ?_
   rintro e w' ⟨v,rfl,h1,h2⟩
   exact⟨v,rfl,hr.into h1,h2⟩⟩
theorem i1QV {a b:Nat} {u:Value} (hen:jh f) (hc:∀va w,IsQ w va x→Calls Tryz.prog f #[va] w (fun e w'=>bH w u e w')) (hx:FAt ρ l a b x) (hl:∀B w,r.holds ρ B w u):Inst.Ok Tryz.prog ρ ⟨f,[.agg [l,.ref a,.ref b]],.v (.one r)⟩:=
 ⟨hen,fun B w vs hB h=>by
  match vs,h with
  | [va],h=>
   refine(hc va w (hx.isQ h.1)).mono ?_
   rintro e w' ⟨rfl,h2⟩
   exact⟨_,rfl,hl B w',h2⟩⟩
theorem dD.toN {W w':World} {e:Ending} (h:dD W n e w'):RetN W n e w':=by obtain⟨v,h1,h2,h3⟩:=h;exact⟨v,h1,h2.isN,h3⟩
theorem n5.out {W w':World} {m n:Nat} {e:Ending} (h:n5 W m n e w'):∃v,e= .returned (.tuple #[v,.bool (decide (n≤m))])∧IsN w' v (m - n)∧Below W.heap.size W w':=by obtain⟨v,h1,h2,h3⟩:=h;exact⟨v,h1,h2.isN,h3⟩
theorem ii.out {W w':World} {q r:Nat} {c:Int} {e:Ending} (h:ii W q r c e w'):∃a b,e= .returned (.tuple #[a,b,.int .i64 c])∧IsN w' a q∧IsN w' b r∧Below W.heap.size W w':=by obtain⟨a,b,h1,h2,h3,h4⟩:=h;exact⟨a,b,h1,h2.isN,h3.isN,h4⟩
theorem RetP.out {W w':World} {N:Nat} {c:Int} {e:Ending} (h:RetP W N c e w'):∃v,e= .returned (.tuple #[v,.int .i64 c])∧IsN w' v N∧Below W.heap.size W w':=by obtain⟨v,h1,h2,h3⟩:=h;exact⟨v,h1,h2.isN,h3⟩
theorem iSub (hen:jh f) (hc:∀va vb w,IsN w va m→IsN w vb n→Calls Tryz.prog f #[va,vb] w (fun e w'=>n5 w m n e w')) (hi:ρ[i]? =some (.dig (nl m) m)) (hj:ρ[j]? =some (.dig (nl n) n)) (hk:ρ[k]? =some (.dig (nl (m - n)) (m - n))) (hb:decide (n≤m)=b):Inst.Ok Tryz.prog ρ ⟨f,[nt i,nt j],.tup [nt k,.one (.b b)]⟩:=
 ⟨hen,fun B w vs hB h=>by
  match vs,h with
  | [va,vb],h=>
   refine(hc va vb w ((bG hi).1 h.1) ((bG hj).1 h.2.1)).mono ?_
   intro e w' hr
   obtain⟨v,rfl,h1,h2⟩:=hr.out
   subst hb
   exact⟨_,rfl,⟨[v,.bool _],rfl,(bG hk).2 h1,rfl,trivial⟩,h2⟩⟩
theorem iDiv (hen:jh f) (hc:∀va vb w,IsN w va m→IsN w vb n→Calls Tryz.prog f #[va,vb] w (fun e w'=>ii w (m / n) (m % n) 0 e w')) (hi:ρ[i]? =some (.dig (nl m) m)) (hj:ρ[j]? =some (.dig (nl n) n)) (hk:ρ[k]? =some (.dig (nl (m / n)) (m / n))) (hl:ρ[l']? =some (.dig (nl (m % n)) (m % n))):Inst.Ok Tryz.prog ρ ⟨f,[nt i,nt j],.tup [nt k,nt l',.one (.i .i64 0)]⟩:=
 ⟨hen,fun B w vs hB h=>by
  match vs,h with
  | [va,vb],h=>
   refine(hc va vb w ((bG hi).1 h.1) ((bG hj).1 h.2.1)).mono ?_
   intro e w' hr
   obtain⟨x,y,rfl,h1,h3,h2⟩:=hr.out
   exact⟨_,rfl,⟨[x,y,.int .i64 0],rfl,(bG hk).2 h1,(bG hl).2 h3,rfl,trivial⟩,h2⟩⟩
theorem iOf {N:Nat} (hen:jh f) (hc:∀w,Calls Tryz.prog f #[.int .u64 (N:Int)] w (fun e w'=>RetN w N e w')) (hl:∀B w x,l.holds ρ B w x→x= .int .u64 (N:Int)) (hk:ρ[k]? =some (.dig (nl N) N)):Inst.Ok Tryz.prog ρ ⟨f,[.one l],.v (nt k)⟩:=
 ⟨hen,fun B w vs hB h=>by
  match vs,h with
  | [va],h=>
   obtain rfl:=hl _ _ _ h.1
   refine(hc w).mono ?_
   rintro e w' ⟨v,rfl,h1,h2⟩
   exact⟨v,rfl,(bG hk).2 h1,h2⟩⟩
theorem iVR {L N:Nat} (hen:jh f) (hc:∀va w,IsR w va L N→Calls Tryz.prog f #[va] w (fun e w'=>bH w (.bool (decide (nl N=L))) e w')) (hi:ρ[i]? =some (.dig L N)) (hb:decide (nl N=L)=b):Inst.Ok Tryz.prog ρ ⟨f,[nt i],.v (.one (.b b))⟩:=
 ⟨hen,fun B w vs hB h=>by
  match vs,h with
  | [va],h=>
   refine(hc va w ((nt_isR hi).1 h.1)).mono ?_
   rintro e w' ⟨rfl,h2⟩
   exact⟨_,rfl,by subst hb;rfl,h2⟩⟩
end
section
variable {ρ:Rho} {i j k l n m:Nat} {b:Bool} {r:Leaf} {c:Int} {st:ByteArray} {N L:Nat} {t:TypeId} {v:Int}
theorem eN (hi:ρ[i]? =some (.dig (nl m) m)) (hj:ρ[j]? =some (.dig (nl n) n)) (hk:ρ[k]? =some (.dig (nl (m*n)) (m*n))) (hm:nl m≤1000000000000) (hn:nl n≤1000000000000):Inst.Ok Tryz.prog ρ ⟨147,[nt i,nt j],.v (nt k)⟩:=
 i2N (aA Tryz.func147 rfl rfl) (fun va vb w h1 h2=>(pE va vb m n w h1 h2 hm hn).mono fun _ _ h=>h.toN) hi hj hk
theorem eO (hi:ρ[i]? =some (.dig (nl m) m)) (hj:ρ[j]? =some (.dig (nl n) n)) (hk:ρ[k]? =some (.dig (nl (m*n)) (m*n))) (hm:nl m≤1000000000000) (hn:nl n≤1000000000000):Inst.Ok Tryz.prog ρ ⟨111,[nt i,nt j],.v (nt k)⟩:=
 i2N (aA Tryz.func111 rfl rfl) (fun va vb w h1 h2=>(yC va vb m n w h1 h2 hm hn).mono fun _ _ h=>h.toN) hi hj hk
theorem iC (hi:ρ[i]? =some (.dig (nl m) m)) (hj:ρ[j]? =some (.dig (nl n) n)) (hk:ρ[k]? =some (.dig (nl (Nat.gcd m n)) (Nat.gcd m n))) (hm:nl m≤1000000000000) (hn:nl n≤1000000000000):Inst.Ok Tryz.prog ρ ⟨119,[nt i,nt j],.v (nt k)⟩:=
 i2N (aA Tryz.func119 rfl rfl) (fun va vb w h1 h2=>(pG va vb m n w h1 h2 hm hn).mono fun _ _ h=>h.toN) hi hj hk
theorem kt (hi:ρ[i]? =some (.dig (nl m) m)) (hj:ρ[j]? =some (.dig (nl n) n)) (hk:ρ[k]? =some (.dig (nl (Nat.gcd m n)) (Nat.gcd m n))) (hm:nl m≤100000000000) (hn:nl n≤100000000000):Inst.Ok Tryz.prog ρ ⟨78,[nt i,nt j],.v (nt k)⟩:=
 i2N (aA Tryz.func78 rfl rfl) (fun va vb w h1 h2=>yG va vb m n w h1 h2 hm hn) hi hj hk
theorem I_nAdd (hi:ρ[i]? =some (.dig (nl m) m)) (hj:ρ[j]? =some (.dig (nl n) n)) (hk:ρ[k]? =some (.dig (nl (m+n)) (m+n))) (hm:nl m≤1000000000000) (hn:nl n≤1000000000000):Inst.Ok Tryz.prog ρ ⟨151,[nt i,nt j],.v (nt k)⟩:=
 i2N (aA Tryz.func151 rfl rfl) (fun va vb w h1 h2=>(jZ va vb m n w h1 h2 hm hn).mono fun _ _ h=>h.toN) hi hj hk
theorem I_mAdd (hi:ρ[i]? =some (.dig (nl m) m)) (hj:ρ[j]? =some (.dig (nl n) n)) (hk:ρ[k]? =some (.dig (nl (m+n)) (m+n))) (hm:nl m≤1000000000000) (hn:nl n≤1000000000000):Inst.Ok Tryz.prog ρ ⟨107,[nt i,nt j],.v (nt k)⟩:=
 i2N (aA Tryz.func107 rfl rfl) (fun va vb w h1 h2=>(jG va vb m n w h1 h2 hm hn).mono fun _ _ h=>h.toN) hi hj hk
theorem jH (hi:ρ[i]? =some (.dig (nl m) m)) (hk:ρ[k]? =some (.dig (nl m) m)) (hm:nl m≤1000000000000):Inst.Ok Tryz.prog ρ ⟨151,[nt i,.agg [.sl0]],.v (nt k)⟩:=
 ⟨aA Tryz.func151 rfl rfl,fun B w vs hB h=>by
  match vs,h with
  | [va,vb],h=>
   obtain⟨us,rfl,h3⟩:=h.2.1
   match us,h3 with
   | [x],h3=>
    have e:x= .slice none 0 0:=h3.1
    subst e
    have h0:IsN w (.agg #[.slice none 0 0]) 0:=⟨none,0,by rw[bZ],by rw[bZ];omega,by rw[bZ];decide,fun h=>by rw[bZ]at h;omega⟩
    refine(jZ va _ m 0 w ((bG hi).1 h.1) h0 hm (by rw[bZ];decide)).mono ?_
    intro e w' hr
    obtain⟨v,rfl,h1,h2⟩:=hr.toN
    exact⟨v,rfl,(bG hk).2 h1,h2⟩⟩
theorem vi (hi:ρ[i]? =some (.dig (nl m) m)) (hj:ρ[j]? =some (.dig (nl n) n)) (hk:ρ[k]? =some (.dig (nl (m - n)) (m - n))) (hb:decide (n≤m)=b) (hm:nl m≤1000000000000) (hn:nl n≤1000000000000):Inst.Ok Tryz.prog ρ ⟨152,[nt i,nt j],.tup [nt k,.one (.b b)]⟩:=
 iSub (aA Tryz.func152 rfl rfl) (fun va vb w h1 h2=>pD va vb m n w h1 h2 hm hn) hi hj hk hb
theorem I_mSub (hi:ρ[i]? =some (.dig (nl m) m)) (hj:ρ[j]? =some (.dig (nl n) n)) (hk:ρ[k]? =some (.dig (nl (m - n)) (m - n))) (hb:decide (n≤m)=b) (hm:nl m≤1000000000000) (hn:nl n≤1000000000000):Inst.Ok Tryz.prog ρ ⟨110,[nt i,nt j],.tup [nt k,.one (.b b)]⟩:=
 iSub (aA Tryz.func110 rfl rfl) (fun va vb w h1 h2=>pX va vb m n w h1 h2 hm hn) hi hj hk hb
theorem my (hi:ρ[i]? =some (.dig (nl m) m)) (hj:ρ[j]? =some (.dig (nl n) n)) (hk:ρ[k]? =some (.dig (nl (m / n)) (m / n))) (hl:ρ[l]? =some (.dig (nl (m % n)) (m % n))) (hm:nl m≤1000000000000) (hn:nl n≤1000000000000) (h0:n≠0):Inst.Ok Tryz.prog ρ ⟨120,[nt i,nt j],.tup [nt k,nt l,.one (.i .i64 0)]⟩:=
 iDiv (aA Tryz.func120 rfl rfl) (fun va vb w h1 h2=>gQ va vb m n w h1 h2 hm hn h0) hi hj hk hl
theorem mz (hi:ρ[i]? =some (.dig (nl m) m)) (hj:ρ[j]? =some (.dig (nl n) n)) (hk:ρ[k]? =some (.dig (nl (m / n)) (m / n))) (hl:ρ[l]? =some (.dig (nl (m % n)) (m % n))) (hm:nl m≤100000000000) (hn:nl n≤100000000000) (h0:n≠0):Inst.Ok Tryz.prog ρ ⟨79,[nt i,nt j],.tup [nt k,nt l,.one (.i .i64 0)]⟩:=
 iDiv (aA Tryz.func79 rfl rfl) (fun va vb w h1 h2=>ln va vb m n w h1 h2 hm hn h0) hi hj hk hl
theorem I_nCmp (hi:ρ[i]? =some (.dig (nl m) m)) (hj:ρ[j]? =some (.dig (nl n) n)) (hl:∀B w,r.holds ρ B w (.int .i64 (dX m n))) (hm:nl m≤1000000000000) (hn:nl n≤1000000000000):Inst.Ok Tryz.prog ρ ⟨153,[nt i,nt j],.v (.one r)⟩:=
 i2V (aA Tryz.func153 rfl rfl) (fun va vb w h1 h2=>pC va vb m n w h1 h2 (by omega) (by omega)) hi hj hl
theorem I_mCmp (hi:ρ[i]? =some (.dig (nl m) m)) (hj:ρ[j]? =some (.dig (nl n) n)) (hl:∀B w,r.holds ρ B w (.int .i64 (dX m n))) (hm:nl m≤1000000000000) (hn:nl n≤1000000000000):Inst.Ok Tryz.prog ρ ⟨109,[nt i,nt j],.v (.one r)⟩:=
 i2V (aA Tryz.func109 rfl rfl) (fun va vb w h1 h2=>mo va vb m n w h1 h2 hm hn) hi hj hl
theorem fE (hi:ρ[i]? =some (.dig (nl m) m)) (hj:ρ[j]? =some (.dig (nl n) n)) (hb:decide (m=n)=b) (hm:nl m≤1000000000000) (hn:nl n≤1000000000000):Inst.Ok Tryz.prog ρ ⟨62,[nt i,nt j],.v (.one (.b b))⟩:=
 i2V (aA Tryz.func62 rfl rfl) (fun va vb w h1 h2=>uE va vb m n w h1 h2 hm hn) hi hj (lb hb)
theorem I_nOf (hk:ρ[k]? =some (.dig (nl N) N)) (hN:N<18446744073709551616):Inst.Ok Tryz.prog ρ ⟨88,[.one (.i .u64 (N:Int))],.v (nt k)⟩:=
 iOf (aA Tryz.func88 rfl rfl) (fun w=>(fA N w hN).mono fun _ _ h=>h.toN) (fun _ _ _ h=>h) hk
theorem tr (hk:ρ[k]? =some (.dig (nl N) N)) (hN:N<18446744073709551616):Inst.Ok Tryz.prog ρ ⟨54,[.one (.i .u64 (N:Int))],.v (nt k)⟩:=
 iOf (aA Tryz.func54 rfl rfl) (fun w=>(oe N w hN).mono fun _ _ h=>h.toN) (fun _ _ _ h=>h) hk
theorem vj (hi:ρ[i]? =some (.val (.int .u64 (N:Int)))) (hk:ρ[k]? =some (.dig (nl N) N)) (hN:N<18446744073709551616):Inst.Ok Tryz.prog ρ ⟨54,[.one (.ref i)],.v (nt k)⟩:=
 iOf (aA Tryz.func54 rfl rfl) (fun w=>(oe N w hN).mono fun _ _ h=>h.toN) (fun _ _ _ h=>bh hi h) hk
theorem jI (hi:ρ[i]? =some (.dig L N)) (hb:decide (nl N=L)=b) (hL:L≤1000000000000):Inst.Ok Tryz.prog ρ ⟨131,[nt i],.v (.one (.b b))⟩:=
 iVR (aA Tryz.func131 rfl rfl) (fun va w h1=>(nu va L N w h1 (by omega)).mono fun e w' h=>⟨h.1.trans (by rw[decide_eq_decide.2 (eq_comm)]),h.2⟩) hi hb
theorem jJ (hi:ρ[i]? =some (.dig L N)) (hb:decide (nl N=L)=b) (hL:L≤1000000000000):Inst.Ok Tryz.prog ρ ⟨104,[nt i],.v (.one (.b b))⟩:=
 iVR (aA Tryz.func104 rfl rfl) (fun va w h1=>sD va L N w h1 (by omega)) hi hb
theorem cD (hi:ρ[i]? =some (.dig (nl N) N)) (_h:(0:Nat)=0) (hL:nl N≤1000000000000):Inst.Ok Tryz.prog ρ ⟨131,[nt i],.v (.one (.b true))⟩:=jI hi (decide_eq_true rfl) hL
theorem dw (hi:ρ[i]? =some (.dig (nl N) N)) (_h:(0:Nat)=0) (hL:nl N≤1000000000000):Inst.Ok Tryz.prog ρ ⟨104,[nt i],.v (.one (.b true))⟩:=jJ hi (decide_eq_true rfl) hL
theorem cE (hi:ρ[i]? =some (.dig (nl m) m)) (hb:decide (m=0)=b) (hm:nl m≤1000000000000):Inst.Ok Tryz.prog ρ ⟨86,[nt i],.v (.one (.b b))⟩:=
 i1V (aA Tryz.func86 rfl rfl) (fun va w h1=>c_isZero va m w h1 hm) hi (lb hb)
theorem dp (hi:ρ[i]? =some (.dig (nl m) m)) (hb:decide (m=0)=b) (hm:nl m≤1000000000000):Inst.Ok Tryz.prog ρ ⟨77,[nt i],.v (.one (.b b))⟩:=
 i1V (aA Tryz.func77 rfl rfl) (fun va w h1=>c_zero va m w h1 hm) hi (lb hb)
theorem I_mag (hi:ρ[i]? =some (.val (.int .i64 v))) (hk:ρ[k]? =some (.dig (nl v.natAbs) v.natAbs)) (lv: -9223372036854775808≤v) (rv:v<9223372036854775808):Inst.Ok Tryz.prog ρ ⟨65,[.one (.ref i)],.v (nt k)⟩:=
 ⟨aA Tryz.func65 rfl rfl,fun B w vs hB h=>by
  match vs,h with
  | [va],h=>
   obtain rfl:=bh hi h.1
   refine(c_mag v w lv rv).mono ?_
   rintro e w' ⟨x,rfl,h1,h2⟩
   exact⟨x,rfl,(bG hk).2 h1,h2⟩⟩
theorem vl (hi:ρ[i]? =some (.val (.int .i64 v))) (hk:ρ[k]? =some (.val (.int .u64 (v.natAbs:Int)))) (lv: -9223372036854775808≤v) (rv:v<9223372036854775808):Inst.Ok Tryz.prog ρ ⟨55,[.one (.ref i)],.v (.one (.ref k))⟩:=
 ⟨aA Tryz.func55 rfl rfl,fun B w vs hB h=>by
  match vs,h with
  | [va],h=>
   obtain rfl:=bh hi h.1
   refine(c_size v w lv rv).mono ?_
   rintro e w' ⟨rfl,h2⟩
   exact⟨_,rfl,aH hk (q8 (by decide)),h2⟩⟩
theorem mA {ik:IntKind} {u:Int} (hn:ρ[n]? =some (.val (.int ik u))) (hl:∀B w,r.holds ρ B w (.bool (decide (u<c)))):(OIns.mk (.bin .lss t) [.one (.ref n),.one (.i ik c)] (.one r)).Ok Tryz.prog ρ:=fun B w vs hv=>by
 match vs,hv with
 | [v1,v2],hv=>
  have e:=bh (B:=B) hn hv.1
  have e2:v2= .int ik c:=hv.2.1
  subst e;subst e2
  exact⟨_,hl B w,fun xo yo=>by simp[eqGuard,binOp,Op.intCmp,Sem.run_bind,Result.andThen]⟩
theorem fF (a b c d:Bool):(OIns.mk (.bin .eql 136) [.agg [.b a,.b b],.agg [.b c,.b d]] (.one (.b (a==c && b==d)))).Ok Tryz.prog ρ:=fun B w vs hv=>by
 match vs,hv with
 | [v1,v2],hv=>
  obtain rfl:=ko hv.1 (bl _) (bl _)
  obtain rfl:=ko hv.2.1 (bl _) (bl _)
  exact⟨_,rfl,fun xo yo=>by rw[Sem.run_bind,ve];exact run_eqSS a b c d w⟩
theorem iD (a b c d:Bool):(OIns.mk (.bin .neq 136) [.agg [.b a,.b b],.agg [.b c,.b d]] (.one (.b (!(a==c && b==d))))).Ok Tryz.prog ρ:=fun B w vs hv=>by
 match vs,hv with
 | [v1,v2],hv=>
  obtain rfl:=ko hv.1 (bl _) (bl _)
  obtain rfl:=ko hv.2.1 (bl _) (bl _)
  exact⟨_,rfl,fun xo yo=>by rw[Sem.run_bind,vg];exact run_neSS a b c d w⟩
end
theorem q_low (s:Bool) (va vb:Value) (m n:Nat) (w:World) (ha:IsN w va m) (hb:IsN w vb n) (hm:nl m≤10000000000) (hn:nl n≤10000000000) (h0:n≠0):
  Calls Tryz.prog 87 #[.bool s,va,vb] w fun e w'=>fC w (Fq.low s m n) e w':=by
 rcases Bool.eq_false_or_eq_true (s)with c0 | c0
 ·by_cases c1:(m / (Nat.gcd m n))=0
  ·refine(cRn (ρ:=[.dig (nl m) m,.dig (nl n) n,.dig (nl (Nat.gcd m n)) (Nat.gcd m n),.dig (nl (m / (Nat.gcd m n))) (m / (Nat.gcd m n)),.dig (nl (m % (Nat.gcd m n))) (m % (Nat.gcd m n)),.dig (nl (n / (Nat.gcd m n))) (n / (Nat.gcd m n)),.dig (nl (n % (Nat.gcd m n))) (n % (Nat.gcd m n))]) (args:=[.one (.b true),nt 0,nt 1]) (vs:=[.bool s,va,vb]) (r:=.v (.agg [.b false,.ref 3,.ref 5]))
    (af (iC (i:=0) (j:=1) (k:=2) rfl rfl rfl (Nat.le_trans hm (by decide)) (Nat.le_trans hn (by decide))) (af (my (i:=0) (j:=2) (k:=3) (l:=4) rfl rfl rfl rfl (Nat.le_trans hm (by decide)) (Nat.le_trans (co hm hn) (by decide)) (Nat.gcd_ne_zero_right h0)) (af (my (i:=1) (j:=2) (k:=5) (l:=6) rfl rfl rfl rfl (Nat.le_trans hn (by decide)) (Nat.le_trans (co hm hn) (by decide)) (Nat.gcd_ne_zero_right h0)) (af (cE (i:=3) rfl (decide_eq_true c1) (Nat.le_trans (xO hm) (by decide))) ai))))
    aj Tryz.func87 (by kernel_rfl) ⟨congrArg Value.bool c0,⟨(bG rfl).2 ha,⟨(bG rfl).2 hb,trivial⟩⟩⟩).mono ?_
   rintro e w' ⟨v,rfl,h1,h2⟩
   exact⟨v,rfl,el h1 (bl false) rfl rfl (by simp[Fq.low,dR,c0,(lowz h0).1 c1]) (rfl) (rfl),h2⟩
  ·refine(cRn (ρ:=[.dig (nl m) m,.dig (nl n) n,.dig (nl (Nat.gcd m n)) (Nat.gcd m n),.dig (nl (m / (Nat.gcd m n))) (m / (Nat.gcd m n)),.dig (nl (m % (Nat.gcd m n))) (m % (Nat.gcd m n)),.dig (nl (n / (Nat.gcd m n))) (n / (Nat.gcd m n)),.dig (nl (n % (Nat.gcd m n))) (n % (Nat.gcd m n))]) (args:=[.one (.b true),nt 0,nt 1]) (vs:=[.bool s,va,vb]) (r:=.v (.agg [.b true,.ref 3,.ref 5]))
    (af (iC (i:=0) (j:=1) (k:=2) rfl rfl rfl (Nat.le_trans hm (by decide)) (Nat.le_trans hn (by decide))) (af (my (i:=0) (j:=2) (k:=3) (l:=4) rfl rfl rfl rfl (Nat.le_trans hm (by decide)) (Nat.le_trans (co hm hn) (by decide)) (Nat.gcd_ne_zero_right h0)) (af (my (i:=1) (j:=2) (k:=5) (l:=6) rfl rfl rfl rfl (Nat.le_trans hn (by decide)) (Nat.le_trans (co hm hn) (by decide)) (Nat.gcd_ne_zero_right h0)) (af (cE (i:=3) rfl (decide_eq_false c1) (Nat.le_trans (xO hm) (by decide))) ai))))
    aj Tryz.func87 (by kernel_rfl) ⟨congrArg Value.bool c0,⟨(bG rfl).2 ha,⟨(bG rfl).2 hb,trivial⟩⟩⟩).mono ?_
   rintro e w' ⟨v,rfl,h1,h2⟩
   exact⟨v,rfl,el h1 (bl true) rfl rfl (by simp[Fq.low,dR,c0,mt (lowz h0).2 c1]) (rfl) (rfl),h2⟩
 ·refine(cRn (ρ:=[.dig (nl m) m,.dig (nl n) n,.dig (nl (Nat.gcd m n)) (Nat.gcd m n),.dig (nl (m / (Nat.gcd m n))) (m / (Nat.gcd m n)),.dig (nl (m % (Nat.gcd m n))) (m % (Nat.gcd m n)),.dig (nl (n / (Nat.gcd m n))) (n / (Nat.gcd m n)),.dig (nl (n % (Nat.gcd m n))) (n % (Nat.gcd m n))]) (args:=[.one (.b false),nt 0,nt 1]) (vs:=[.bool s,va,vb]) (r:=.v (.agg [.b false,.ref 3,.ref 5]))
   (af (iC (i:=0) (j:=1) (k:=2) rfl rfl rfl (Nat.le_trans hm (by decide)) (Nat.le_trans hn (by decide))) (af (my (i:=0) (j:=2) (k:=3) (l:=4) rfl rfl rfl rfl (Nat.le_trans hm (by decide)) (Nat.le_trans (co hm hn) (by decide)) (Nat.gcd_ne_zero_right h0)) (af (my (i:=1) (j:=2) (k:=5) (l:=6) rfl rfl rfl rfl (Nat.le_trans hn (by decide)) (Nat.le_trans (co hm hn) (by decide)) (Nat.gcd_ne_zero_right h0)) ai)))
   aj Tryz.func87 (by kernel_rfl) ⟨congrArg Value.bool c0,⟨(bG rfl).2 ha,⟨(bG rfl).2 hb,trivial⟩⟩⟩).mono ?_
  rintro e w' ⟨v,rfl,h1,h2⟩
  exact⟨v,rfl,el h1 (bl false) rfl rfl (by simp[Fq.low,dR,c0]) (rfl) (rfl),h2⟩
theorem q_rMake (s:Bool) (va vb:Value) (m n:Nat) (w:World) (ha:IsN w va m) (hb:IsN w vb n) (hm:nl m≤10000000000) (hn:nl n≤10000000000) (h0:n≠0):
  Calls Tryz.prog 53 #[.bool s,va,vb] w fun e w'=>oh w (Fq.low s m n) 0 e w':=by
 rcases Bool.eq_false_or_eq_true (s)with c0 | c0
 ·by_cases c1:m=0
  ·refine(cRn (ρ:=[.dig (nl m) m,.dig (nl n) n,.dig (nl (Nat.gcd m n)) (Nat.gcd m n),.dig (nl (m / (Nat.gcd m n))) (m / (Nat.gcd m n)),.dig (nl (m % (Nat.gcd m n))) (m % (Nat.gcd m n)),.dig (nl (n / (Nat.gcd m n))) (n / (Nat.gcd m n)),.dig (nl (n % (Nat.gcd m n))) (n % (Nat.gcd m n))]) (args:=[.one (.b true),nt 0,nt 1]) (vs:=[.bool s,va,vb]) (r:=.tup [.agg [.b false,.ref 3,.ref 5],.one (.i .i64 0)])
    (af (dp (i:=1) rfl (decide_eq_false h0) (Nat.le_trans hn (by decide))) (af (kt (i:=0) (j:=1) (k:=2) rfl rfl rfl (Nat.le_trans hm (by decide)) (Nat.le_trans hn (by decide))) (af (mz (i:=0) (j:=2) (k:=3) (l:=4) rfl rfl rfl rfl (Nat.le_trans hm (by decide)) (Nat.le_trans (co hm hn) (by decide)) (Nat.gcd_ne_zero_right h0)) (af (mz (i:=1) (j:=2) (k:=5) (l:=6) rfl rfl rfl rfl (Nat.le_trans hn (by decide)) (Nat.le_trans (co hm hn) (by decide)) (Nat.gcd_ne_zero_right h0)) (af (dp (i:=0) rfl (decide_eq_true c1) (Nat.le_trans hm (by decide))) ai)))))
    aj Tryz.func53 (by kernel_rfl) ⟨congrArg Value.bool c0,⟨(bG rfl).2 ha,⟨(bG rfl).2 hb,trivial⟩⟩⟩).mono ?_
   rintro e w' ⟨v,rfl,h1,h2⟩
   obtain⟨u,rfl,h3⟩:=tp h1 (fun _ _ _ h=>h)
   exact⟨u,rfl,el h3 (bl false) rfl rfl (by simp[Fq.low,dR,c0,c1]) (rfl) (rfl),h2⟩
  ·refine(cRn (ρ:=[.dig (nl m) m,.dig (nl n) n,.dig (nl (Nat.gcd m n)) (Nat.gcd m n),.dig (nl (m / (Nat.gcd m n))) (m / (Nat.gcd m n)),.dig (nl (m % (Nat.gcd m n))) (m % (Nat.gcd m n)),.dig (nl (n / (Nat.gcd m n))) (n / (Nat.gcd m n)),.dig (nl (n % (Nat.gcd m n))) (n % (Nat.gcd m n))]) (args:=[.one (.b true),nt 0,nt 1]) (vs:=[.bool s,va,vb]) (r:=.tup [.agg [.b true,.ref 3,.ref 5],.one (.i .i64 0)])
    (af (dp (i:=1) rfl (decide_eq_false h0) (Nat.le_trans hn (by decide))) (af (kt (i:=0) (j:=1) (k:=2) rfl rfl rfl (Nat.le_trans hm (by decide)) (Nat.le_trans hn (by decide))) (af (mz (i:=0) (j:=2) (k:=3) (l:=4) rfl rfl rfl rfl (Nat.le_trans hm (by decide)) (Nat.le_trans (co hm hn) (by decide)) (Nat.gcd_ne_zero_right h0)) (af (mz (i:=1) (j:=2) (k:=5) (l:=6) rfl rfl rfl rfl (Nat.le_trans hn (by decide)) (Nat.le_trans (co hm hn) (by decide)) (Nat.gcd_ne_zero_right h0)) (af (dp (i:=0) rfl (decide_eq_false c1) (Nat.le_trans hm (by decide))) ai)))))
    aj Tryz.func53 (by kernel_rfl) ⟨congrArg Value.bool c0,⟨(bG rfl).2 ha,⟨(bG rfl).2 hb,trivial⟩⟩⟩).mono ?_
   rintro e w' ⟨v,rfl,h1,h2⟩
   obtain⟨u,rfl,h3⟩:=tp h1 (fun _ _ _ h=>h)
   exact⟨u,rfl,el h3 (bl true) rfl rfl (by simp[Fq.low,dR,c0,c1]) (rfl) (rfl),h2⟩
 ·refine(cRn (ρ:=[.dig (nl m) m,.dig (nl n) n,.dig (nl (Nat.gcd m n)) (Nat.gcd m n),.dig (nl (m / (Nat.gcd m n))) (m / (Nat.gcd m n)),.dig (nl (m % (Nat.gcd m n))) (m % (Nat.gcd m n)),.dig (nl (n / (Nat.gcd m n))) (n / (Nat.gcd m n)),.dig (nl (n % (Nat.gcd m n))) (n % (Nat.gcd m n))]) (args:=[.one (.b false),nt 0,nt 1]) (vs:=[.bool s,va,vb]) (r:=.tup [.agg [.b false,.ref 3,.ref 5],.one (.i .i64 0)])
   (af (dp (i:=1) rfl (decide_eq_false h0) (Nat.le_trans hn (by decide))) (af (kt (i:=0) (j:=1) (k:=2) rfl rfl rfl (Nat.le_trans hm (by decide)) (Nat.le_trans hn (by decide))) (af (mz (i:=0) (j:=2) (k:=3) (l:=4) rfl rfl rfl rfl (Nat.le_trans hm (by decide)) (Nat.le_trans (co hm hn) (by decide)) (Nat.gcd_ne_zero_right h0)) (af (mz (i:=1) (j:=2) (k:=5) (l:=6) rfl rfl rfl rfl (Nat.le_trans hn (by decide)) (Nat.le_trans (co hm hn) (by decide)) (Nat.gcd_ne_zero_right h0)) ai))))
   aj Tryz.func53 (by kernel_rfl) ⟨congrArg Value.bool c0,⟨(bG rfl).2 ha,⟨(bG rfl).2 hb,trivial⟩⟩⟩).mono ?_
  rintro e w' ⟨v,rfl,h1,h2⟩
  obtain⟨u,rfl,h3⟩:=tp h1 (fun _ _ _ h=>h)
  exact⟨u,rfl,el h3 (bl false) rfl rfl (by simp[Fq.low,dR,c0]) (rfl) (rfl),h2⟩
theorem qn {ρ:Rho} {S:Bool} {l:Leaf} {i j x y z m n:Nat} (hl:∀B w v,l.holds ρ B w v→v= .bool S) (hi:ρ[i]? =some (.dig (nl m) m)) (hj:ρ[j]? =some (.dig (nl n) n)) (hx:ρ[x]? =some (.val (.bool (Fq.low S m n).s))) (hy:ρ[y]? =some (.dig (nl (Fq.low S m n).p) (Fq.low S m n).p)) (hz:ρ[z]? =some (.dig (nl (Fq.low S m n).q) (Fq.low S m n).q)) (hm:nl m≤10000000000) (hn:nl n≤10000000000) (h0:n≠0):Inst.Ok Tryz.prog ρ ⟨87,[.one l,nt i,nt j],.v (.agg [.ref x,.ref y,.ref z])⟩:=
 ⟨aA Tryz.func87 rfl rfl,fun B w vs hB h=>by
  match vs,h with
  | [v1,v2,v3],h=>
   obtain rfl:=hl _ _ _ h.1
   refine(q_low S v2 v3 m n w ((bG hi).1 h.2.1) ((bG hj).1 h.2.2.1) hm hn h0).mono ?_
   rintro e w' ⟨v,rfl,h1,h2⟩
   exact⟨v,rfl,inF h1 (lrb hx) hy hz,h2⟩⟩
theorem q_Make (s:Bool) (va vb:Value) (m n:Nat) (w:World) (ha:IsN w va m) (hb:IsN w vb n) (hm:nl m≤10000000000) (hn:nl n≤10000000000) (h0:n≠0):
  Calls Tryz.prog 64 #[.bool s,va,vb] w fun e w'=>oh w (Fq.low s m n) 0 e w':=by
 refine(cRn (ρ:=[.val (.bool s),.dig (nl m) m,.dig (nl n) n,.val (.bool (Fq.low s m n).s),.dig (nl (Fq.low s m n).p) (Fq.low s m n).p,.dig (nl (Fq.low s m n).q) (Fq.low s m n).q]) (args:=[.one (.ref 0),nt 1,nt 2]) (vs:=[.bool s,va,vb]) (r:=.tup [q3 3 4 5,.one (.i .i64 0)])
  (af (cE (i:=2) rfl (decide_eq_false h0) (Nat.le_trans hn (by decide))) (af (qn (i:=1) (j:=2) (x:=3) (y:=4) (z:=5) (br (n:=0) rfl) rfl rfl rfl rfl rfl hm hn h0) ai))
  aj Tryz.func64 (by kernel_rfl) ⟨aH (n:=0) rfl fL,⟨(bG rfl).2 ha,⟨(bG rfl).2 hb,trivial⟩⟩⟩).mono ?_
 rintro e w' ⟨v,rfl,h1,h2⟩
 obtain⟨u,rfl,h3⟩:=tp h1 (fun _ _ _ h=>h)
 exact⟨u,rfl,el h3 (br (n:=3) rfl) rfl rfl (rfl) (rfl) (rfl),h2⟩
theorem I_fMake {ρ:Rho} {S:Bool} {l:Leaf} {i j x y z m n:Nat} (hl:∀B w v,l.holds ρ B w v→v= .bool S) (hi:ρ[i]? =some (.dig (nl m) m)) (hj:ρ[j]? =some (.dig (nl n) n)) (hx:ρ[x]? =some (.val (.bool (Fq.low S m n).s))) (hy:ρ[y]? =some (.dig (nl (Fq.low S m n).p) (Fq.low S m n).p)) (hz:ρ[z]? =some (.dig (nl (Fq.low S m n).q) (Fq.low S m n).q)) (hm:nl m≤10000000000) (hn:nl n≤10000000000) (h0:n≠0):Inst.Ok Tryz.prog ρ ⟨64,[.one l,nt i,nt j],.tup [.agg [.ref x,.ref y,.ref z],.one (.i .i64 0)]⟩:=
 ⟨aA Tryz.func64 rfl rfl,fun B w vs hB h=>by
  match vs,h with
  | [v1,v2,v3],h=>
   obtain rfl:=hl _ _ _ h.1
   refine(q_Make S v2 v3 m n w ((bG hi).1 h.2.1) ((bG hj).1 h.2.2.1) hm hn h0).mono ?_
   rintro e w' ⟨v,rfl,h1,h2⟩
   exact⟨_,rfl,⟨[v,.int .i64 0],rfl,inF h1 (lrb hx) hy hz,rfl,trivial⟩,h2⟩⟩
theorem jK {ρ:Rho} {S:Bool} {l:Leaf} {i j x y z m n:Nat} (hl:∀B w v,l.holds ρ B w v→v= .bool S) (hi:ρ[i]? =some (.dig (nl m) m)) (hj:ρ[j]? =some (.dig (nl n) n)) (hx:ρ[x]? =some (.val (.bool (Fq.low S m n).s))) (hy:ρ[y]? =some (.dig (nl (Fq.low S m n).p) (Fq.low S m n).p)) (hz:ρ[z]? =some (.dig (nl (Fq.low S m n).q) (Fq.low S m n).q)) (hm:nl m≤10000000000) (hn:nl n≤10000000000) (h0:n≠0):Inst.Ok Tryz.prog ρ ⟨53,[.one l,nt i,nt j],.tup [.agg [.ref x,.ref y,.ref z],.one (.i .i64 0)]⟩:=
 ⟨aA Tryz.func53 rfl rfl,fun B w vs hB h=>by
  match vs,h with
  | [v1,v2,v3],h=>
   obtain rfl:=hl _ _ _ h.1
   refine(q_rMake S v2 v3 m n w ((bG hi).1 h.2.1) ((bG hj).1 h.2.2.1) hm hn h0).mono ?_
   rintro e w' ⟨v,rfl,h1,h2⟩
   exact⟨_,rfl,⟨[v,.int .i64 0],rfl,inF h1 (lrb hx) hy hz,rfl,trivial⟩,h2⟩⟩
theorem q_fNeg (va:Value) (x:Fq) (w:World) (ha:IsQ w va x) (h:x.ok 1000000000):
  Calls Tryz.prog 146 #[va] w fun e w'=>fC w x.neg e w':=by
 rcases Bool.eq_false_or_eq_true (x.s)with c0 | c0
 ·refine(cRn (ρ:=[.dig (nl x.p) x.p,.dig (nl x.q) x.q]) (args:=[.agg [.b true,.ref 0,.ref 1]]) (vs:=[va]) (r:=.v (.agg [.b false,.ref 0,.ref 1]))
   (af (jH (i:=0) (k:=0) rfl rfl (Nat.le_trans h.p (by decide))) (af (jH (i:=1) (k:=1) rfl rfl (Nat.le_trans h.q (by decide))) ai))
   aj Tryz.func146 (by kernel_rfl) ⟨(inF ha (lb c0) rfl rfl),trivial⟩).mono ?_
  rintro e w' ⟨v,rfl,h1,h2⟩
  exact⟨v,rfl,el h1 (bl false) rfl rfl (by simp[Fq.low,dR,ff,fB,Fq.add,Fq.mul,Fq.div,Fq.neg,Fq.zero,Fq.sgn,dm,di,c0]) (rfl) (rfl),h2⟩
 ·by_cases c1:x.p=0
  ·refine(cRn (ρ:=[.dig (nl x.p) x.p,.dig (nl x.q) x.q]) (args:=[.agg [.b false,.ref 0,.ref 1]]) (vs:=[va]) (r:=.v (.agg [.b false,.ref 0,.ref 1]))
    (af (cE (i:=0) rfl (decide_eq_true c1) (Nat.le_trans h.p (by decide))) (af (jH (i:=0) (k:=0) rfl rfl (Nat.le_trans h.p (by decide))) (af (jH (i:=1) (k:=1) rfl rfl (Nat.le_trans h.q (by decide))) ai)))
    aj Tryz.func146 (by kernel_rfl) ⟨(inF ha (lb c0) rfl rfl),trivial⟩).mono ?_
   rintro e w' ⟨v,rfl,h1,h2⟩
   exact⟨v,rfl,el h1 (bl false) rfl rfl (by simp[Fq.low,dR,ff,fB,Fq.add,Fq.mul,Fq.div,Fq.neg,Fq.zero,Fq.sgn,dm,di,c0,c1]) (rfl) (rfl),h2⟩
  ·refine(cRn (ρ:=[.dig (nl x.p) x.p,.dig (nl x.q) x.q]) (args:=[.agg [.b false,.ref 0,.ref 1]]) (vs:=[va]) (r:=.v (.agg [.b true,.ref 0,.ref 1]))
    (af (cE (i:=0) rfl (decide_eq_false c1) (Nat.le_trans h.p (by decide))) (af (jH (i:=0) (k:=0) rfl rfl (Nat.le_trans h.p (by decide))) (af (jH (i:=1) (k:=1) rfl rfl (Nat.le_trans h.q (by decide))) ai)))
    aj Tryz.func146 (by kernel_rfl) ⟨(inF ha (lb c0) rfl rfl),trivial⟩).mono ?_
   rintro e w' ⟨v,rfl,h1,h2⟩
   exact⟨v,rfl,el h1 (bl true) rfl rfl (by simp[Fq.low,dR,ff,fB,Fq.add,Fq.mul,Fq.div,Fq.neg,Fq.zero,Fq.sgn,dm,di,c0,c1]) (rfl) (rfl),h2⟩
theorem J_fNeg {ρ:Rho} {x:Fq} {a b a' b':Nat} {l l':Leaf} (hx:FAt ρ l a b x) (hr:FAt ρ l' a' b' x.neg) (h:x.ok 1000000000):Inst.Ok Tryz.prog ρ ⟨146,[.agg [l,.ref a,.ref b]],.v (.agg [l',.ref a',.ref b'])⟩:=
 i1QQ (aA Tryz.func146 rfl rfl) (fun va w ha=>q_fNeg va x w ha h) hx hr
theorem q_fMul (va vb:Value) (x y:Fq) (w:World) (ha:IsQ w va x) (hb:IsQ w vb y) (h:x.ok 1000000000) (k:y.ok 1000000000):
  Calls Tryz.prog 123 #[va,vb] w fun e w'=>fC w (x.mul y) e w':=by
 refine(cRn (ρ:=[.val (.bool x.s),.dig (nl x.p) x.p,.dig (nl x.q) x.q,.val (.bool y.s),.dig (nl y.p) y.p,.dig (nl y.q) y.q,.val (.bool (x.s !=y.s)),.dig (nl (x.p*y.p)) (x.p*y.p),.dig (nl (x.q*y.q)) (x.q*y.q),.val (.bool (Fq.low (x.s !=y.s) (x.p*y.p) (x.q*y.q)).s),.dig (nl (Fq.low (x.s !=y.s) (x.p*y.p) (x.q*y.q)).p) (Fq.low (x.s !=y.s) (x.p*y.p) (x.q*y.q)).p,.dig (nl (Fq.low (x.s !=y.s) (x.p*y.p) (x.q*y.q)).q) (Fq.low (x.s !=y.s) (x.p*y.p) (x.q*y.q)).q]) (args:=[q3 0 1 2,q3 3 4 5]) (vs:=[va,vb]) (r:=.v (q3 9 10 11))
  (af (eN (i:=1) (j:=4) (k:=7) rfl rfl rfl (Nat.le_trans h.p (by decide)) (Nat.le_trans k.p (by decide))) (af (eN (i:=2) (j:=5) (k:=8) rfl rfl rfl (Nat.le_trans h.q (by decide)) (Nat.le_trans k.q (by decide))) (af (qn (i:=7) (j:=8) (x:=9) (y:=10) (z:=11) (br (n:=6) rfl) rfl rfl rfl rfl rfl (Nat.le_trans (aX h.p k.p) (by decide)) (Nat.le_trans (aX h.q k.q) (by decide)) (Nat.mul_ne_zero h.n k.n)) ai)))
  (ae (qm (t:=4) (by kernel_rfl) (br (n:=0) rfl) (br (n:=3) rfl) (lrb (n:=6) rfl)) (aj)) Tryz.func123 (by kernel_rfl) ⟨(inF ha (lrb (n:=0) rfl) rfl rfl),⟨(inF hb (lrb (n:=3) rfl) rfl rfl),trivial⟩⟩).mono ?_
 rintro e w' ⟨v,rfl,h1,h2⟩
 exact⟨v,rfl,el h1 (br (n:=9) rfl) rfl rfl (by simp[Fq.low,dR,ff,fB,Fq.add,Fq.mul,Fq.div,Fq.neg,Fq.zero,Fq.sgn,dm,di]) (by simp[Fq.low,dR,ff,fB,Fq.add,Fq.mul,Fq.div,Fq.neg,Fq.zero,Fq.sgn,dm,di]) (by simp[Fq.low,dR,ff,fB,Fq.add,Fq.mul,Fq.div,Fq.neg,Fq.zero,Fq.sgn,dm,di]),h2⟩
theorem q_fAdd (va vb:Value) (x y:Fq) (w:World) (ha:IsQ w va x) (hb:IsQ w vb y) (h:x.ok 1000000000) (k:y.ok 1000000000):
  Calls Tryz.prog 130 #[va,vb] w fun e w'=>fC w (x.add y) e w':=by
 by_cases c0:x.s=y.s
 ·refine(cRn (ρ:=[.val (.bool x.s),.dig (nl x.p) x.p,.dig (nl x.q) x.q,.val (.bool y.s),.dig (nl y.p) y.p,.dig (nl y.q) y.q,.dig (nl (x.p*y.q)) (x.p*y.q),.dig (nl (y.p*x.q)) (y.p*x.q),.dig (nl (x.q*y.q)) (x.q*y.q),.dig (nl ((x.p*y.q)+(y.p*x.q))) ((x.p*y.q)+(y.p*x.q)),.val (.bool (Fq.low x.s ((x.p*y.q)+(y.p*x.q)) (x.q*y.q)).s),.dig (nl (Fq.low x.s ((x.p*y.q)+(y.p*x.q)) (x.q*y.q)).p) (Fq.low x.s ((x.p*y.q)+(y.p*x.q)) (x.q*y.q)).p,.dig (nl (Fq.low x.s ((x.p*y.q)+(y.p*x.q)) (x.q*y.q)).q) (Fq.low x.s ((x.p*y.q)+(y.p*x.q)) (x.q*y.q)).q]) (args:=[q3 0 1 2,q3 3 4 5]) (vs:=[va,vb]) (r:=.v (q3 10 11 12))
   (af (eN (i:=1) (j:=5) (k:=6) rfl rfl rfl (Nat.le_trans h.p (by decide)) (Nat.le_trans k.q (by decide))) (af (eN (i:=4) (j:=2) (k:=7) rfl rfl rfl (Nat.le_trans k.p (by decide)) (Nat.le_trans h.q (by decide))) (af (eN (i:=2) (j:=5) (k:=8) rfl rfl rfl (Nat.le_trans h.q (by decide)) (Nat.le_trans k.q (by decide))) (af (I_nAdd (i:=6) (j:=7) (k:=9) rfl rfl rfl (Nat.le_trans (aX h.p k.q) (by decide)) (Nat.le_trans (aX k.p h.q) (by decide))) (af (qn (i:=9) (j:=8) (x:=10) (y:=11) (z:=12) (br (n:=0) rfl) rfl rfl rfl rfl rfl (Nat.le_trans (xN (aX h.p k.q) (aX k.p h.q)) (by decide)) (Nat.le_trans (aX h.q k.q) (by decide)) (Nat.mul_ne_zero h.n k.n)) ai)))))
   (ae (j5 (t:=4) (by kernel_rfl) (br (n:=0) rfl) (br (n:=3) rfl) (lb (tk c0))) (aj)) Tryz.func130 (by kernel_rfl) ⟨(inF ha (lrb (n:=0) rfl) rfl rfl),⟨(inF hb (lrb (n:=3) rfl) rfl rfl),trivial⟩⟩).mono ?_
  rintro e w' ⟨v,rfl,h1,h2⟩
  exact⟨v,rfl,el h1 (br (n:=10) rfl) rfl rfl (by simp only[Fq.add,Fq.low,dm,di,if_pos c0]) (by simp only[Fq.add,Fq.low,dm,di,if_pos c0]) (by simp only[Fq.add,Fq.low,dm,di,if_pos c0]),h2⟩
 ·by_cases c1:(x.p*y.q)<(y.p*x.q)
  ·by_cases c2:(y.p*x.q)<(x.p*y.q)
   ·exact absurd c2 (Nat.lt_asymm c1)
   ·refine(cRn (ρ:=[.val (.bool x.s),.dig (nl x.p) x.p,.dig (nl x.q) x.q,.val (.bool y.s),.dig (nl y.p) y.p,.dig (nl y.q) y.q,.dig (nl (x.p*y.q)) (x.p*y.q),.dig (nl (y.p*x.q)) (y.p*x.q),.dig (nl (x.q*y.q)) (x.q*y.q),.dig (nl ((x.p*y.q) - (y.p*x.q))) ((x.p*y.q) - (y.p*x.q)),.dig (nl ((y.p*x.q) - (x.p*y.q))) ((y.p*x.q) - (x.p*y.q)),.val (.bool (Fq.low y.s ((y.p*x.q) - (x.p*y.q)) (x.q*y.q)).s),.dig (nl (Fq.low y.s ((y.p*x.q) - (x.p*y.q)) (x.q*y.q)).p) (Fq.low y.s ((y.p*x.q) - (x.p*y.q)) (x.q*y.q)).p,.dig (nl (Fq.low y.s ((y.p*x.q) - (x.p*y.q)) (x.q*y.q)).q) (Fq.low y.s ((y.p*x.q) - (x.p*y.q)) (x.q*y.q)).q]) (args:=[q3 0 1 2,q3 3 4 5]) (vs:=[va,vb]) (r:=.v (q3 11 12 13))
     (af (eN (i:=1) (j:=5) (k:=6) rfl rfl rfl (Nat.le_trans h.p (by decide)) (Nat.le_trans k.q (by decide))) (af (eN (i:=4) (j:=2) (k:=7) rfl rfl rfl (Nat.le_trans k.p (by decide)) (Nat.le_trans h.q (by decide))) (af (eN (i:=2) (j:=5) (k:=8) rfl rfl rfl (Nat.le_trans h.q (by decide)) (Nat.le_trans k.q (by decide))) (af (vi (i:=6) (j:=7) (k:=9) rfl rfl rfl (le_f c1) (Nat.le_trans (aX h.p k.q) (by decide)) (Nat.le_trans (aX k.p h.q) (by decide))) (af (vi (i:=7) (j:=6) (k:=10) rfl rfl rfl (le_t c2) (Nat.le_trans (aX k.p h.q) (by decide)) (Nat.le_trans (aX h.p k.q) (by decide))) (af (qn (i:=10) (j:=8) (x:=11) (y:=12) (z:=13) (br (n:=3) rfl) rfl rfl rfl rfl rfl (Nat.le_trans (nN (aX k.p h.q)) (by decide)) (Nat.le_trans (aX h.q k.q) (by decide)) (Nat.mul_ne_zero h.n k.n)) ai))))))
     (ae (j5 (t:=4) (by kernel_rfl) (br (n:=0) rfl) (br (n:=3) rfl) (lb (tn c0))) (aj)) Tryz.func130 (by kernel_rfl) ⟨(inF ha (lrb (n:=0) rfl) rfl rfl),⟨(inF hb (lrb (n:=3) rfl) rfl rfl),trivial⟩⟩).mono ?_
    rintro e w' ⟨v,rfl,h1,h2⟩
    exact⟨v,rfl,el h1 (br (n:=11) rfl) rfl rfl (by simp only[Fq.add,Fq.low,dm,di,if_neg c0,if_neg (Nat.not_le.2 c1)]) (by simp only[Fq.add,Fq.low,dm,di,if_neg c0,if_neg (Nat.not_le.2 c1)]) (by simp only[Fq.add,Fq.low,dm,di,if_neg c0,if_neg (Nat.not_le.2 c1)]),h2⟩
  ·refine(cRn (ρ:=[.val (.bool x.s),.dig (nl x.p) x.p,.dig (nl x.q) x.q,.val (.bool y.s),.dig (nl y.p) y.p,.dig (nl y.q) y.q,.dig (nl (x.p*y.q)) (x.p*y.q),.dig (nl (y.p*x.q)) (y.p*x.q),.dig (nl (x.q*y.q)) (x.q*y.q),.dig (nl ((x.p*y.q) - (y.p*x.q))) ((x.p*y.q) - (y.p*x.q)),.val (.bool (Fq.low x.s ((x.p*y.q) - (y.p*x.q)) (x.q*y.q)).s),.dig (nl (Fq.low x.s ((x.p*y.q) - (y.p*x.q)) (x.q*y.q)).p) (Fq.low x.s ((x.p*y.q) - (y.p*x.q)) (x.q*y.q)).p,.dig (nl (Fq.low x.s ((x.p*y.q) - (y.p*x.q)) (x.q*y.q)).q) (Fq.low x.s ((x.p*y.q) - (y.p*x.q)) (x.q*y.q)).q]) (args:=[q3 0 1 2,q3 3 4 5]) (vs:=[va,vb]) (r:=.v (q3 10 11 12))
    (af (eN (i:=1) (j:=5) (k:=6) rfl rfl rfl (Nat.le_trans h.p (by decide)) (Nat.le_trans k.q (by decide))) (af (eN (i:=4) (j:=2) (k:=7) rfl rfl rfl (Nat.le_trans k.p (by decide)) (Nat.le_trans h.q (by decide))) (af (eN (i:=2) (j:=5) (k:=8) rfl rfl rfl (Nat.le_trans h.q (by decide)) (Nat.le_trans k.q (by decide))) (af (vi (i:=6) (j:=7) (k:=9) rfl rfl rfl (le_t c1) (Nat.le_trans (aX h.p k.q) (by decide)) (Nat.le_trans (aX k.p h.q) (by decide))) (af (qn (i:=9) (j:=8) (x:=10) (y:=11) (z:=12) (br (n:=0) rfl) rfl rfl rfl rfl rfl (Nat.le_trans (nN (aX h.p k.q)) (by decide)) (Nat.le_trans (aX h.q k.q) (by decide)) (Nat.mul_ne_zero h.n k.n)) ai)))))
    (ae (j5 (t:=4) (by kernel_rfl) (br (n:=0) rfl) (br (n:=3) rfl) (lb (tn c0))) (aj)) Tryz.func130 (by kernel_rfl) ⟨(inF ha (lrb (n:=0) rfl) rfl rfl),⟨(inF hb (lrb (n:=3) rfl) rfl rfl),trivial⟩⟩).mono ?_
   rintro e w' ⟨v,rfl,h1,h2⟩
   exact⟨v,rfl,el h1 (br (n:=10) rfl) rfl rfl (by simp only[Fq.add,Fq.low,dm,di,if_neg c0,if_pos (Nat.le_of_not_lt c1)]) (by simp only[Fq.add,Fq.low,dm,di,if_neg c0,if_pos (Nat.le_of_not_lt c1)]) (by simp only[Fq.add,Fq.low,dm,di,if_neg c0,if_pos (Nat.le_of_not_lt c1)]),h2⟩
theorem J_fAdd {ρ:Rho} {x y:Fq} {a b c d a' b':Nat} {l m l':Leaf} (hx:FAt ρ l a b x) (hy:FAt ρ m c d y) (hr:FAt ρ l' a' b' (x.add y)) (h:x.ok 1000000000) (k:y.ok 1000000000):Inst.Ok Tryz.prog ρ ⟨130,[.agg [l,.ref a,.ref b],.agg [m,.ref c,.ref d]],.v (.agg [l',.ref a',.ref b'])⟩:=
 i2QQ (aA Tryz.func130 rfl rfl) (fun va vb w ha hb=>q_fAdd va vb x y w ha hb h k) hx hy hr
theorem q_fSub (va vb:Value) (x y:Fq) (w:World) (ha:IsQ w va x) (hb:IsQ w vb y) (h:x.ok 1000000000) (k:y.ok 1000000000):
  Calls Tryz.prog 122 #[va,vb] w fun e w'=>fC w (x.sub y) e w':=by
 refine(cRn (ρ:=[.val (.bool x.s),.dig (nl x.p) x.p,.dig (nl x.q) x.q,.val (.bool y.s),.dig (nl y.p) y.p,.dig (nl y.q) y.q,.val (.bool y.neg.s),.dig (nl y.neg.p) y.neg.p,.dig (nl y.neg.q) y.neg.q,.val (.bool (x.add y.neg).s),.dig (nl (x.add y.neg).p) (x.add y.neg).p,.dig (nl (x.add y.neg).q) (x.add y.neg).q]) (args:=[q3 0 1 2,q3 3 4 5]) (vs:=[va,vb]) (r:=.v (q3 9 10 11))
  (af (J_fNeg (cB (l:=.ref 3) (a:=4) (b:=5) (x:=y) (lrb (n:=3) rfl) (br (n:=3) rfl) rfl rfl) (cB (l:=.ref 6) (a:=7) (b:=8) (x:=y.neg) (lrb (n:=6) rfl) (br (n:=6) rfl) rfl rfl) k) (af (J_fAdd (cB (l:=.ref 0) (a:=1) (b:=2) (x:=x) (lrb (n:=0) rfl) (br (n:=0) rfl) rfl rfl) (cB (l:=.ref 6) (a:=7) (b:=8) (x:=y.neg) (lrb (n:=6) rfl) (br (n:=6) rfl) rfl rfl) (cB (l:=.ref 9) (a:=10) (b:=11) (x:=(x.add y.neg)) (lrb (n:=9) rfl) (br (n:=9) rfl) rfl rfl) h k.neg) ai))
  aj Tryz.func122 (by kernel_rfl) ⟨(inF ha (lrb (n:=0) rfl) rfl rfl),⟨(inF hb (lrb (n:=3) rfl) rfl rfl),trivial⟩⟩).mono ?_
 rintro e w' ⟨v,rfl,h1,h2⟩
 exact⟨v,rfl,el h1 (br (n:=9) rfl) rfl rfl (rfl) (rfl) (rfl),h2⟩
theorem J_fSub {ρ:Rho} {x y:Fq} {a b c d a' b':Nat} {l m l':Leaf} (hx:FAt ρ l a b x) (hy:FAt ρ m c d y) (hr:FAt ρ l' a' b' (x.sub y)) (h:x.ok 1000000000) (k:y.ok 1000000000):Inst.Ok Tryz.prog ρ ⟨122,[.agg [l,.ref a,.ref b],.agg [m,.ref c,.ref d]],.v (.agg [l',.ref a',.ref b'])⟩:=
 i2QQ (aA Tryz.func122 rfl rfl) (fun va vb w ha hb=>q_fSub va vb x y w ha hb h k) hx hy hr
theorem q_fDiv (va vb:Value) (x y:Fq) (w:World) (ha:IsQ w va x) (hb:IsQ w vb y) (h:x.ok 1000000000) (k:y.ok 1000000000) (h0:y.p≠0):
  Calls Tryz.prog 150 #[va,vb] w fun e w'=>oh w (x.div y) 0 e w':=by
 refine(cRn (ρ:=[.val (.bool x.s),.dig (nl x.p) x.p,.dig (nl x.q) x.q,.val (.bool y.s),.dig (nl y.p) y.p,.dig (nl y.q) y.q,.val (.bool (x.s !=y.s)),.dig (nl (x.p*y.q)) (x.p*y.q),.dig (nl (x.q*y.p)) (x.q*y.p),.val (.bool (Fq.low (x.s !=y.s) (x.p*y.q) (x.q*y.p)).s),.dig (nl (Fq.low (x.s !=y.s) (x.p*y.q) (x.q*y.p)).p) (Fq.low (x.s !=y.s) (x.p*y.q) (x.q*y.p)).p,.dig (nl (Fq.low (x.s !=y.s) (x.p*y.q) (x.q*y.p)).q) (Fq.low (x.s !=y.s) (x.p*y.q) (x.q*y.p)).q]) (args:=[q3 0 1 2,q3 3 4 5]) (vs:=[va,vb]) (r:=.tup [q3 9 10 11,.one (.i .i64 0)])
  (af (cE (i:=4) rfl (decide_eq_false h0) (Nat.le_trans k.p (by decide))) (af (eN (i:=1) (j:=5) (k:=7) rfl rfl rfl (Nat.le_trans h.p (by decide)) (Nat.le_trans k.q (by decide))) (af (eN (i:=2) (j:=4) (k:=8) rfl rfl rfl (Nat.le_trans h.q (by decide)) (Nat.le_trans k.p (by decide))) (af (qn (i:=7) (j:=8) (x:=9) (y:=10) (z:=11) (br (n:=6) rfl) rfl rfl rfl rfl rfl (Nat.le_trans (aX h.p k.q) (by decide)) (Nat.le_trans (aX h.q k.p) (by decide)) (Nat.mul_ne_zero h.n h0)) ai))))
  (ae (qm (t:=4) (by kernel_rfl) (br (n:=0) rfl) (br (n:=3) rfl) (lrb (n:=6) rfl)) (aj)) Tryz.func150 (by kernel_rfl) ⟨(inF ha (lrb (n:=0) rfl) rfl rfl),⟨(inF hb (lrb (n:=3) rfl) rfl rfl),trivial⟩⟩).mono ?_
 rintro e w' ⟨v,rfl,h1,h2⟩
 obtain⟨u,rfl,h3⟩:=tp h1 (fun _ _ _ h=>h)
 exact⟨u,rfl,el h3 (br (n:=9) rfl) rfl rfl (by simp[Fq.low,dR,ff,fB,Fq.add,Fq.mul,Fq.div,Fq.neg,Fq.zero,Fq.sgn,dm,di]) (by simp[Fq.low,dR,ff,fB,Fq.add,Fq.mul,Fq.div,Fq.neg,Fq.zero,Fq.sgn,dm,di]) (by simp[Fq.low,dR,ff,fB,Fq.add,Fq.mul,Fq.div,Fq.neg,Fq.zero,Fq.sgn,dm,di]),h2⟩
theorem q_mark (va:Value) (x:Fq) (w:World) (ha:IsQ w va x) (hp:nl x.p≤1000000000000) (v:Bool) (hv:decide (x.p=0)=v):
  Calls Tryz.prog 128 #[va] w fun e w'=>bH w (.agg #[.bool x.s,.bool v]) e w':=by
 by_cases c0:x.p=0
 ·refine(cRn (ρ:=[.val (.bool x.s),.dig (nl x.p) x.p,.dig (nl x.q) x.q]) (args:=[q3 0 1 2]) (vs:=[va]) (r:=.v (.agg [.ref 0,.b true]))
   (af (cE (i:=1) rfl (decide_eq_true c0) hp) ai)
   aj Tryz.func128 (by kernel_rfl) ⟨(inF ha (lrb (n:=0) rfl) rfl rfl),trivial⟩).mono ?_
  rintro e w' ⟨v',rfl,h1,h2⟩
  have h1:=ko h1 (br (n:=0) rfl) (bl true)
  subst h1
  exact⟨by rw[←hv];simp[c0],h2⟩
 ·refine(cRn (ρ:=[.val (.bool x.s),.dig (nl x.p) x.p,.dig (nl x.q) x.q]) (args:=[q3 0 1 2]) (vs:=[va]) (r:=.v (.agg [.ref 0,.b false]))
   (af (cE (i:=1) rfl (decide_eq_false c0) hp) ai)
   aj Tryz.func128 (by kernel_rfl) ⟨(inF ha (lrb (n:=0) rfl) rfl rfl),trivial⟩).mono ?_
  rintro e w' ⟨v',rfl,h1,h2⟩
  have h1:=ko h1 (br (n:=0) rfl) (bl false)
  subst h1
  exact⟨by rw[←hv];simp[c0],h2⟩
theorem fZ {ρ:Rho} {x:Fq} {a b:Nat} {l r:Leaf} {v:Bool} (hx:FAt ρ l a b x) (hr:∀B w,r.holds ρ B w (.bool x.s)) (hv:decide (x.p=0)=v) (hp:nl x.p≤1000000000000):Inst.Ok Tryz.prog ρ ⟨128,[.agg [l,.ref a,.ref b]],.v (.agg [r,.b v])⟩:=
 ⟨aA Tryz.func128 rfl rfl,fun B w vs hB h=>by
  match vs,h with
  | [va],h=>
   refine(q_mark va x w (hx.isQ h.1) hp v hv).mono ?_
   rintro e w' ⟨rfl,h2⟩
   exact⟨_,rfl,⟨[.bool x.s,.bool v],rfl,hr B w',rfl,trivial⟩,h2⟩⟩
theorem xP (va:Value) (x:Fq) (w:World) (ha:IsQ w va x) (h:x.ok 1000000000000):
  Calls Tryz.prog 96 #[va] w fun e w'=>bH w (.int .i64 x.sgn) e w':=by
 by_cases c0:x.p=0
 ·rcases Bool.eq_false_or_eq_true (x.s)with c1 | c1
  ·refine(cRn (ρ:=[.dig (nl x.p) x.p,.dig (nl x.q) x.q]) (args:=[.agg [.b true,.ref 0,.ref 1]]) (vs:=[va]) (r:=.v (.one (.i .i64 0)))
    (af (fZ (cB (l:=.b true) (a:=0) (b:=1) (x:=x) (lb c1) (bl2 c1) rfl rfl) (lb c1) (decide_eq_true c0) h.p) ai)
    (ae (fF true true false true) (ae (fF true true true true) (aj))) Tryz.func96 (by kernel_rfl) ⟨(inF ha (lb c1) rfl rfl),trivial⟩).mono ?_
   rintro e w' ⟨v,rfl,h1,h2⟩
   have h1:=h1
   have h1:v=_:=h1;subst h1
   exact⟨by simp[Fq.sgn,c0,c1],h2⟩
  ·refine(cRn (ρ:=[.dig (nl x.p) x.p,.dig (nl x.q) x.q]) (args:=[.agg [.b false,.ref 0,.ref 1]]) (vs:=[va]) (r:=.v (.one (.i .i64 0)))
    (af (fZ (cB (l:=.b false) (a:=0) (b:=1) (x:=x) (lb c1) (bl2 c1) rfl rfl) (lb c1) (decide_eq_true c0) h.p) ai)
    (ae (fF false true false true) (aj)) Tryz.func96 (by kernel_rfl) ⟨(inF ha (lb c1) rfl rfl),trivial⟩).mono ?_
   rintro e w' ⟨v,rfl,h1,h2⟩
   have h1:=h1
   have h1:v=_:=h1;subst h1
   exact⟨by simp[Fq.sgn,c0,c1],h2⟩
 ·rcases Bool.eq_false_or_eq_true (x.s)with c1 | c1
  ·refine(cRn (ρ:=[.dig (nl x.p) x.p,.dig (nl x.q) x.q]) (args:=[.agg [.b true,.ref 0,.ref 1]]) (vs:=[va]) (r:=.v (.one (.i .i64 (-1))))
    (af (fZ (cB (l:=.b true) (a:=0) (b:=1) (x:=x) (lb c1) (bl2 c1) rfl rfl) (lb c1) (decide_eq_false c0) h.p) ai)
    (ae (fF true false false true) (ae (fF true false true true) (ae (fF true false true false) (aj)))) Tryz.func96 (by kernel_rfl) ⟨(inF ha (lb c1) rfl rfl),trivial⟩).mono ?_
   rintro e w' ⟨v,rfl,h1,h2⟩
   have h1:=h1
   have h1:v=_:=h1;subst h1
   exact⟨by simp[Fq.sgn,c0,c1],h2⟩
  ·refine(cRn (ρ:=[.dig (nl x.p) x.p,.dig (nl x.q) x.q]) (args:=[.agg [.b false,.ref 0,.ref 1]]) (vs:=[va]) (r:=.v (.one (.i .i64 1)))
    (af (fZ (cB (l:=.b false) (a:=0) (b:=1) (x:=x) (lb c1) (bl2 c1) rfl rfl) (lb c1) (decide_eq_false c0) h.p) ai)
    (ae (fF false false false true) (ae (fF false false true true) (ae (fF false false true false) (aj)))) Tryz.func96 (by kernel_rfl) ⟨(inF ha (lb c1) rfl rfl),trivial⟩).mono ?_
   rintro e w' ⟨v,rfl,h1,h2⟩
   have h1:=h1
   have h1:v=_:=h1;subst h1
   exact⟨by simp[Fq.sgn,c0,c1],h2⟩
theorem J_fSign {ρ:Rho} {x:Fq} {a b:Nat} {l r:Leaf} (hx:FAt ρ l a b x) (hl:∀B w,r.holds ρ B w (.int .i64 x.sgn)) (h:x.ok 1000000000000):Inst.Ok Tryz.prog ρ ⟨96,[.agg [l,.ref a,.ref b]],.v (.one r)⟩:=
 i1QV (aA Tryz.func96 rfl rfl) (fun va w ha=>xP va x w ha h) hx hl
theorem q_fCmp (va vb:Value) (x y:Fq) (w:World) (ha:IsQ w va x) (hb:IsQ w vb y) (h:x.ok 1000000000) (k:y.ok 1000000000):
  Calls Tryz.prog 98 #[va,vb] w fun e w'=>bH w (.int .i64 (x.cmp y)) e w':=by
 refine(cRn (ρ:=[.val (.bool x.s),.dig (nl x.p) x.p,.dig (nl x.q) x.q,.val (.bool y.s),.dig (nl y.p) y.p,.dig (nl y.q) y.q,.val (.bool (x.sub y).s),.dig (nl (x.sub y).p) (x.sub y).p,.dig (nl (x.sub y).q) (x.sub y).q,.val (.int .i64 (x.sub y).sgn)]) (args:=[q3 0 1 2,q3 3 4 5]) (vs:=[va,vb]) (r:=.v (.one (.ref 9)))
  (af (J_fSub (cB (l:=.ref 0) (a:=1) (b:=2) (x:=x) (lrb (n:=0) rfl) (br (n:=0) rfl) rfl rfl) (cB (l:=.ref 3) (a:=4) (b:=5) (x:=y) (lrb (n:=3) rfl) (br (n:=3) rfl) rfl rfl) (cB (l:=.ref 6) (a:=7) (b:=8) (x:=(x.sub y)) (lrb (n:=6) rfl) (br (n:=6) rfl) rfl rfl) h k) (af (J_fSign (cB (l:=.ref 6) (a:=7) (b:=8) (x:=(x.sub y)) (lrb (n:=6) rfl) (br (n:=6) rfl) rfl rfl) (lr (n:=9) rfl) ((h.sub k).mono (by decide))) ai))
  aj Tryz.func98 (by kernel_rfl) ⟨(inF ha (lrb (n:=0) rfl) rfl rfl),⟨(inF hb (lrb (n:=3) rfl) rfl rfl),trivial⟩⟩).mono ?_
 rintro e w' ⟨v,rfl,h1,h2⟩
 have h1:=(bh rfl h1)
 subst h1
 exact⟨rfl,h2⟩
theorem q_fInt (v:Int) (w:World) (lv: -9223372036854775808≤v) (rv:v<9223372036854775808):
  Calls Tryz.prog 93 #[.int .i64 v] w fun e w'=>fC w (Fq.ofInt v) e w':=by
 refine(cRn (ρ:=[.val (.int .i64 v),.val (.bool (decide (v<0))),.dig (nl v.natAbs) v.natAbs,.dig (nl 1) 1]) (args:=[.one (.ref 0)]) (vs:=[.int .i64 v]) (r:=.v (q3 1 2 3))
  (af (I_mag (i:=0) (k:=2) rfl rfl lv rv) (af (I_nOf (k:=3) rfl (by decide)) ai))
  (ae (mA (n:=0) (c:=0) (t:=2) rfl (lrb (n:=1) rfl)) (aj)) Tryz.func93 (by kernel_rfl) ⟨aH (n:=0) rfl aE,trivial⟩).mono ?_
 rintro e w' ⟨v,rfl,h1,h2⟩
 exact⟨v,rfl,el h1 (br (n:=1) rfl) rfl rfl (by simp[Fq.ofInt]) (rfl) (rfl),h2⟩
theorem q_fRatio (v u:Int) (w:World) (lv: -9223372036854775808≤v) (rv:v<9223372036854775808) (lu: -9223372036854775808≤u) (ru:u<9223372036854775808) (h0:u≠0):
  Calls Tryz.prog 42 #[.int .i64 v,.int .i64 u] w fun e w'=>oh w (Fq.ratio v u) 0 e w':=by
 refine(cRn (ρ:=[.val (.int .i64 v),.val (.int .i64 u),.val (.bool (decide (v<0))),.val (.bool (decide (u<0))),.val (.bool ((decide (v<0)) !=(decide (u<0)))),.dig (nl v.natAbs) v.natAbs,.dig (nl u.natAbs) u.natAbs,.val (.bool (Fq.low ((decide (v<0)) !=(decide (u<0))) v.natAbs u.natAbs).s),.dig (nl (Fq.low ((decide (v<0)) !=(decide (u<0))) v.natAbs u.natAbs).p) (Fq.low ((decide (v<0)) !=(decide (u<0))) v.natAbs u.natAbs).p,.dig (nl (Fq.low ((decide (v<0)) !=(decide (u<0))) v.natAbs u.natAbs).q) (Fq.low ((decide (v<0)) !=(decide (u<0))) v.natAbs u.natAbs).q]) (args:=[.one (.ref 0),.one (.ref 1)]) (vs:=[.int .i64 v,.int .i64 u]) (r:=.tup [q3 7 8 9,.one (.i .i64 0)])
  (af (I_mag (i:=0) (k:=5) rfl rfl lv rv) (af (I_mag (i:=1) (k:=6) rfl rfl lu ru) (af (I_fMake (i:=5) (j:=6) (x:=7) (y:=8) (z:=9) (br (n:=4) rfl) rfl rfl rfl rfl rfl (Nat.le_trans (kn lv rv) (by decide)) (Nat.le_trans (kn lu ru) (by decide)) (by omega)) ai)))
  (ae (mA (n:=0) (c:=0) (t:=2) rfl (lrb (n:=2) rfl)) (ae (mA (n:=1) (c:=0) (t:=2) rfl (lrb (n:=3) rfl)) (ae (qm (t:=4) (by kernel_rfl) (br (n:=2) rfl) (br (n:=3) rfl) (lrb (n:=4) rfl)) (aj)))) Tryz.func42 (by kernel_rfl) ⟨aH (n:=0) rfl aE,⟨aH (n:=1) rfl aE,trivial⟩⟩).mono ?_
 rintro e w' ⟨v,rfl,h1,h2⟩
 obtain⟨u,rfl,h3⟩:=tp h1 (fun _ _ _ h=>h)
 exact⟨u,rfl,el h3 (br (n:=7) rfl) rfl rfl (rfl) (rfl) (rfl),h2⟩
theorem q_rNeg (va:Value) (x:Fq) (w:World) (ha:IsQ w va x) (h:x.ok 1000000000):
  Calls Tryz.prog 112 #[va] w fun e w'=>fC w x.neg e w':=by
 rcases Bool.eq_false_or_eq_true (x.s)with c0 | c0
 ·refine(cRn (ρ:=[.dig (nl x.p) x.p,.dig (nl x.q) x.q]) (args:=[.agg [.b true,.ref 0,.ref 1]]) (vs:=[va]) (r:=.v (.agg [.b false,.ref 0,.ref 1]))
   (ai)
   aj Tryz.func112 (by kernel_rfl) ⟨(inF ha (lb c0) rfl rfl),trivial⟩).mono ?_
  rintro e w' ⟨v,rfl,h1,h2⟩
  exact⟨v,rfl,el h1 (bl false) rfl rfl (by simp[Fq.low,dR,ff,fB,Fq.add,Fq.mul,Fq.div,Fq.neg,Fq.zero,Fq.sgn,dm,di,c0]) (rfl) (rfl),h2⟩
 ·by_cases c1:x.p=0
  ·refine(cRn (ρ:=[.dig (nl x.p) x.p,.dig (nl x.q) x.q]) (args:=[.agg [.b false,.ref 0,.ref 1]]) (vs:=[va]) (r:=.v (.agg [.b false,.ref 0,.ref 1]))
    (af (dp (i:=0) rfl (decide_eq_true c1) (Nat.le_trans h.p (by decide))) ai)
    aj Tryz.func112 (by kernel_rfl) ⟨(inF ha (lb c0) rfl rfl),trivial⟩).mono ?_
   rintro e w' ⟨v,rfl,h1,h2⟩
   exact⟨v,rfl,el h1 (bl false) rfl rfl (by simp[Fq.low,dR,ff,fB,Fq.add,Fq.mul,Fq.div,Fq.neg,Fq.zero,Fq.sgn,dm,di,c0,c1]) (rfl) (rfl),h2⟩
  ·refine(cRn (ρ:=[.dig (nl x.p) x.p,.dig (nl x.q) x.q]) (args:=[.agg [.b false,.ref 0,.ref 1]]) (vs:=[va]) (r:=.v (.agg [.b true,.ref 0,.ref 1]))
    (af (dp (i:=0) rfl (decide_eq_false c1) (Nat.le_trans h.p (by decide))) ai)
    aj Tryz.func112 (by kernel_rfl) ⟨(inF ha (lb c0) rfl rfl),trivial⟩).mono ?_
   rintro e w' ⟨v,rfl,h1,h2⟩
   exact⟨v,rfl,el h1 (bl true) rfl rfl (by simp[Fq.low,dR,ff,fB,Fq.add,Fq.mul,Fq.div,Fq.neg,Fq.zero,Fq.sgn,dm,di,c0,c1]) (rfl) (rfl),h2⟩
theorem J_rNeg {ρ:Rho} {x:Fq} {a b a' b':Nat} {l l':Leaf} (hx:FAt ρ l a b x) (hr:FAt ρ l' a' b' x.neg) (h:x.ok 1000000000):Inst.Ok Tryz.prog ρ ⟨112,[.agg [l,.ref a,.ref b]],.v (.agg [l',.ref a',.ref b'])⟩:=
 i1QQ (aA Tryz.func112 rfl rfl) (fun va w ha=>q_rNeg va x w ha h) hx hr
theorem q_rMul (va vb:Value) (x y:Fq) (w:World) (ha:IsQ w va x) (hb:IsQ w vb y) (h:x.ok 1000000000) (k:y.ok 1000000000):
  Calls Tryz.prog 82 #[va,vb] w fun e w'=>fC w (x.mul y) e w':=by
 refine(cRn (ρ:=[.val (.bool x.s),.dig (nl x.p) x.p,.dig (nl x.q) x.q,.val (.bool y.s),.dig (nl y.p) y.p,.dig (nl y.q) y.q,.val (.bool (x.s !=y.s)),.dig (nl (x.p*y.p)) (x.p*y.p),.dig (nl (x.q*y.q)) (x.q*y.q),.val (.bool (Fq.low (x.s !=y.s) (x.p*y.p) (x.q*y.q)).s),.dig (nl (Fq.low (x.s !=y.s) (x.p*y.p) (x.q*y.q)).p) (Fq.low (x.s !=y.s) (x.p*y.p) (x.q*y.q)).p,.dig (nl (Fq.low (x.s !=y.s) (x.p*y.p) (x.q*y.q)).q) (Fq.low (x.s !=y.s) (x.p*y.p) (x.q*y.q)).q]) (args:=[q3 0 1 2,q3 3 4 5]) (vs:=[va,vb]) (r:=.v (q3 9 10 11))
  (af (eO (i:=1) (j:=4) (k:=7) rfl rfl rfl (Nat.le_trans h.p (by decide)) (Nat.le_trans k.p (by decide))) (af (eO (i:=2) (j:=5) (k:=8) rfl rfl rfl (Nat.le_trans h.q (by decide)) (Nat.le_trans k.q (by decide))) (af (jK (i:=7) (j:=8) (x:=9) (y:=10) (z:=11) (br (n:=6) rfl) rfl rfl rfl rfl rfl (Nat.le_trans (aX h.p k.p) (by decide)) (Nat.le_trans (aX h.q k.q) (by decide)) (Nat.mul_ne_zero h.n k.n)) ai)))
  (ae (qm (t:=4) (by kernel_rfl) (br (n:=0) rfl) (br (n:=3) rfl) (lrb (n:=6) rfl)) (aj)) Tryz.func82 (by kernel_rfl) ⟨(inF ha (lrb (n:=0) rfl) rfl rfl),⟨(inF hb (lrb (n:=3) rfl) rfl rfl),trivial⟩⟩).mono ?_
 rintro e w' ⟨v,rfl,h1,h2⟩
 exact⟨v,rfl,el h1 (br (n:=9) rfl) rfl rfl (by simp[Fq.low,dR,ff,fB,Fq.add,Fq.mul,Fq.div,Fq.neg,Fq.zero,Fq.sgn,dm,di]) (by simp[Fq.low,dR,ff,fB,Fq.add,Fq.mul,Fq.div,Fq.neg,Fq.zero,Fq.sgn,dm,di]) (by simp[Fq.low,dR,ff,fB,Fq.add,Fq.mul,Fq.div,Fq.neg,Fq.zero,Fq.sgn,dm,di]),h2⟩
theorem q_rAdd (va vb:Value) (x y:Fq) (w:World) (ha:IsQ w va x) (hb:IsQ w vb y) (h:x.ok 1000000000) (k:y.ok 1000000000):
  Calls Tryz.prog 81 #[va,vb] w fun e w'=>fC w (x.add y) e w':=by
 by_cases c0:x.s=y.s
 ·refine(cRn (ρ:=[.val (.bool x.s),.dig (nl x.p) x.p,.dig (nl x.q) x.q,.val (.bool y.s),.dig (nl y.p) y.p,.dig (nl y.q) y.q,.dig (nl (x.p*y.q)) (x.p*y.q),.dig (nl (y.p*x.q)) (y.p*x.q),.dig (nl (x.q*y.q)) (x.q*y.q),.dig (nl ((x.p*y.q)+(y.p*x.q))) ((x.p*y.q)+(y.p*x.q)),.val (.bool (Fq.low x.s ((x.p*y.q)+(y.p*x.q)) (x.q*y.q)).s),.dig (nl (Fq.low x.s ((x.p*y.q)+(y.p*x.q)) (x.q*y.q)).p) (Fq.low x.s ((x.p*y.q)+(y.p*x.q)) (x.q*y.q)).p,.dig (nl (Fq.low x.s ((x.p*y.q)+(y.p*x.q)) (x.q*y.q)).q) (Fq.low x.s ((x.p*y.q)+(y.p*x.q)) (x.q*y.q)).q]) (args:=[q3 0 1 2,q3 3 4 5]) (vs:=[va,vb]) (r:=.v (q3 10 11 12))
   (af (eO (i:=1) (j:=5) (k:=6) rfl rfl rfl (Nat.le_trans h.p (by decide)) (Nat.le_trans k.q (by decide))) (af (eO (i:=4) (j:=2) (k:=7) rfl rfl rfl (Nat.le_trans k.p (by decide)) (Nat.le_trans h.q (by decide))) (af (eO (i:=2) (j:=5) (k:=8) rfl rfl rfl (Nat.le_trans h.q (by decide)) (Nat.le_trans k.q (by decide))) (af (I_mAdd (i:=6) (j:=7) (k:=9) rfl rfl rfl (Nat.le_trans (aX h.p k.q) (by decide)) (Nat.le_trans (aX k.p h.q) (by decide))) (af (jK (i:=9) (j:=8) (x:=10) (y:=11) (z:=12) (br (n:=0) rfl) rfl rfl rfl rfl rfl (Nat.le_trans (xN (aX h.p k.q) (aX k.p h.q)) (by decide)) (Nat.le_trans (aX h.q k.q) (by decide)) (Nat.mul_ne_zero h.n k.n)) ai)))))
   (ae (j5 (t:=4) (by kernel_rfl) (br (n:=0) rfl) (br (n:=3) rfl) (lb (tk c0))) (aj)) Tryz.func81 (by kernel_rfl) ⟨(inF ha (lrb (n:=0) rfl) rfl rfl),⟨(inF hb (lrb (n:=3) rfl) rfl rfl),trivial⟩⟩).mono ?_
  rintro e w' ⟨v,rfl,h1,h2⟩
  exact⟨v,rfl,el h1 (br (n:=10) rfl) rfl rfl (by simp only[Fq.add,Fq.low,dm,di,if_pos c0]) (by simp only[Fq.add,Fq.low,dm,di,if_pos c0]) (by simp only[Fq.add,Fq.low,dm,di,if_pos c0]),h2⟩
 ·by_cases c1:(x.p*y.q)<(y.p*x.q)
  ·by_cases c2:(y.p*x.q)<(x.p*y.q)
   ·exact absurd c2 (Nat.lt_asymm c1)
   ·refine(cRn (ρ:=[.val (.bool x.s),.dig (nl x.p) x.p,.dig (nl x.q) x.q,.val (.bool y.s),.dig (nl y.p) y.p,.dig (nl y.q) y.q,.dig (nl (x.p*y.q)) (x.p*y.q),.dig (nl (y.p*x.q)) (y.p*x.q),.dig (nl (x.q*y.q)) (x.q*y.q),.val (.int .i64 (dX (x.p*y.q) (y.p*x.q))),.dig (nl ((y.p*x.q) - (x.p*y.q))) ((y.p*x.q) - (x.p*y.q)),.val (.bool (Fq.low y.s ((y.p*x.q) - (x.p*y.q)) (x.q*y.q)).s),.dig (nl (Fq.low y.s ((y.p*x.q) - (x.p*y.q)) (x.q*y.q)).p) (Fq.low y.s ((y.p*x.q) - (x.p*y.q)) (x.q*y.q)).p,.dig (nl (Fq.low y.s ((y.p*x.q) - (x.p*y.q)) (x.q*y.q)).q) (Fq.low y.s ((y.p*x.q) - (x.p*y.q)) (x.q*y.q)).q]) (args:=[q3 0 1 2,q3 3 4 5]) (vs:=[va,vb]) (r:=.v (q3 11 12 13))
     (af (eO (i:=1) (j:=5) (k:=6) rfl rfl rfl (Nat.le_trans h.p (by decide)) (Nat.le_trans k.q (by decide))) (af (eO (i:=4) (j:=2) (k:=7) rfl rfl rfl (Nat.le_trans k.p (by decide)) (Nat.le_trans h.q (by decide))) (af (eO (i:=2) (j:=5) (k:=8) rfl rfl rfl (Nat.le_trans h.q (by decide)) (Nat.le_trans k.q (by decide))) (af (I_mCmp (i:=6) (j:=7) rfl rfl (lr (n:=9) rfl) (Nat.le_trans (aX h.p k.q) (by decide)) (Nat.le_trans (aX k.p h.q) (by decide))) (af (I_mSub (i:=7) (j:=6) (k:=10) rfl rfl rfl (le_t c2) (Nat.le_trans (aX k.p h.q) (by decide)) (Nat.le_trans (aX h.p k.q) (by decide))) (af (jK (i:=10) (j:=8) (x:=11) (y:=12) (z:=13) (br (n:=3) rfl) rfl rfl rfl rfl rfl (Nat.le_trans (nN (aX k.p h.q)) (by decide)) (Nat.le_trans (aX h.q k.q) (by decide)) (Nat.mul_ne_zero h.n k.n)) ai))))))
     (ae (j5 (t:=4) (by kernel_rfl) (br (n:=0) rfl) (br (n:=3) rfl) (lb (tn c0))) (ae (o_lssK (n:=9) (c:=0) (t:=3) rfl (cmp_lt_t c1)) (aj))) Tryz.func81 (by kernel_rfl) ⟨(inF ha (lrb (n:=0) rfl) rfl rfl),⟨(inF hb (lrb (n:=3) rfl) rfl rfl),trivial⟩⟩).mono ?_
    rintro e w' ⟨v,rfl,h1,h2⟩
    exact⟨v,rfl,el h1 (br (n:=11) rfl) rfl rfl (by simp only[Fq.add,Fq.low,dm,di,if_neg c0,if_neg (Nat.not_le.2 c1)]) (by simp only[Fq.add,Fq.low,dm,di,if_neg c0,if_neg (Nat.not_le.2 c1)]) (by simp only[Fq.add,Fq.low,dm,di,if_neg c0,if_neg (Nat.not_le.2 c1)]),h2⟩
  ·refine(cRn (ρ:=[.val (.bool x.s),.dig (nl x.p) x.p,.dig (nl x.q) x.q,.val (.bool y.s),.dig (nl y.p) y.p,.dig (nl y.q) y.q,.dig (nl (x.p*y.q)) (x.p*y.q),.dig (nl (y.p*x.q)) (y.p*x.q),.dig (nl (x.q*y.q)) (x.q*y.q),.val (.int .i64 (dX (x.p*y.q) (y.p*x.q))),.dig (nl ((x.p*y.q) - (y.p*x.q))) ((x.p*y.q) - (y.p*x.q)),.val (.bool (Fq.low x.s ((x.p*y.q) - (y.p*x.q)) (x.q*y.q)).s),.dig (nl (Fq.low x.s ((x.p*y.q) - (y.p*x.q)) (x.q*y.q)).p) (Fq.low x.s ((x.p*y.q) - (y.p*x.q)) (x.q*y.q)).p,.dig (nl (Fq.low x.s ((x.p*y.q) - (y.p*x.q)) (x.q*y.q)).q) (Fq.low x.s ((x.p*y.q) - (y.p*x.q)) (x.q*y.q)).q]) (args:=[q3 0 1 2,q3 3 4 5]) (vs:=[va,vb]) (r:=.v (q3 11 12 13))
    (af (eO (i:=1) (j:=5) (k:=6) rfl rfl rfl (Nat.le_trans h.p (by decide)) (Nat.le_trans k.q (by decide))) (af (eO (i:=4) (j:=2) (k:=7) rfl rfl rfl (Nat.le_trans k.p (by decide)) (Nat.le_trans h.q (by decide))) (af (eO (i:=2) (j:=5) (k:=8) rfl rfl rfl (Nat.le_trans h.q (by decide)) (Nat.le_trans k.q (by decide))) (af (I_mCmp (i:=6) (j:=7) rfl rfl (lr (n:=9) rfl) (Nat.le_trans (aX h.p k.q) (by decide)) (Nat.le_trans (aX k.p h.q) (by decide))) (af (I_mSub (i:=6) (j:=7) (k:=10) rfl rfl rfl (le_t c1) (Nat.le_trans (aX h.p k.q) (by decide)) (Nat.le_trans (aX k.p h.q) (by decide))) (af (jK (i:=10) (j:=8) (x:=11) (y:=12) (z:=13) (br (n:=0) rfl) rfl rfl rfl rfl rfl (Nat.le_trans (nN (aX h.p k.q)) (by decide)) (Nat.le_trans (aX h.q k.q) (by decide)) (Nat.mul_ne_zero h.n k.n)) ai))))))
    (ae (j5 (t:=4) (by kernel_rfl) (br (n:=0) rfl) (br (n:=3) rfl) (lb (tn c0))) (ae (o_lssK (n:=9) (c:=0) (t:=3) rfl (cmp_lt_f c1)) (aj))) Tryz.func81 (by kernel_rfl) ⟨(inF ha (lrb (n:=0) rfl) rfl rfl),⟨(inF hb (lrb (n:=3) rfl) rfl rfl),trivial⟩⟩).mono ?_
   rintro e w' ⟨v,rfl,h1,h2⟩
   exact⟨v,rfl,el h1 (br (n:=11) rfl) rfl rfl (by simp only[Fq.add,Fq.low,dm,di,if_neg c0,if_pos (Nat.le_of_not_lt c1)]) (by simp only[Fq.add,Fq.low,dm,di,if_neg c0,if_pos (Nat.le_of_not_lt c1)]) (by simp only[Fq.add,Fq.low,dm,di,if_neg c0,if_pos (Nat.le_of_not_lt c1)]),h2⟩
theorem J_rAdd {ρ:Rho} {x y:Fq} {a b c d a' b':Nat} {l m l':Leaf} (hx:FAt ρ l a b x) (hy:FAt ρ m c d y) (hr:FAt ρ l' a' b' (x.add y)) (h:x.ok 1000000000) (k:y.ok 1000000000):Inst.Ok Tryz.prog ρ ⟨81,[.agg [l,.ref a,.ref b],.agg [m,.ref c,.ref d]],.v (.agg [l',.ref a',.ref b'])⟩:=
 i2QQ (aA Tryz.func81 rfl rfl) (fun va vb w ha hb=>q_rAdd va vb x y w ha hb h k) hx hy hr
theorem q_rSub (va vb:Value) (x y:Fq) (w:World) (ha:IsQ w va x) (hb:IsQ w vb y) (h:x.ok 1000000000) (k:y.ok 1000000000):
  Calls Tryz.prog 83 #[va,vb] w fun e w'=>fC w (x.sub y) e w':=by
 refine(cRn (ρ:=[.val (.bool x.s),.dig (nl x.p) x.p,.dig (nl x.q) x.q,.val (.bool y.s),.dig (nl y.p) y.p,.dig (nl y.q) y.q,.val (.bool y.neg.s),.dig (nl y.neg.p) y.neg.p,.dig (nl y.neg.q) y.neg.q,.val (.bool (x.add y.neg).s),.dig (nl (x.add y.neg).p) (x.add y.neg).p,.dig (nl (x.add y.neg).q) (x.add y.neg).q]) (args:=[q3 0 1 2,q3 3 4 5]) (vs:=[va,vb]) (r:=.v (q3 9 10 11))
  (af (J_rNeg (cB (l:=.ref 3) (a:=4) (b:=5) (x:=y) (lrb (n:=3) rfl) (br (n:=3) rfl) rfl rfl) (cB (l:=.ref 6) (a:=7) (b:=8) (x:=y.neg) (lrb (n:=6) rfl) (br (n:=6) rfl) rfl rfl) k) (af (J_rAdd (cB (l:=.ref 0) (a:=1) (b:=2) (x:=x) (lrb (n:=0) rfl) (br (n:=0) rfl) rfl rfl) (cB (l:=.ref 6) (a:=7) (b:=8) (x:=y.neg) (lrb (n:=6) rfl) (br (n:=6) rfl) rfl rfl) (cB (l:=.ref 9) (a:=10) (b:=11) (x:=(x.add y.neg)) (lrb (n:=9) rfl) (br (n:=9) rfl) rfl rfl) h k.neg) ai))
  aj Tryz.func83 (by kernel_rfl) ⟨(inF ha (lrb (n:=0) rfl) rfl rfl),⟨(inF hb (lrb (n:=3) rfl) rfl rfl),trivial⟩⟩).mono ?_
 rintro e w' ⟨v,rfl,h1,h2⟩
 exact⟨v,rfl,el h1 (br (n:=9) rfl) rfl rfl (rfl) (rfl) (rfl),h2⟩
theorem q_rDiv (va vb:Value) (x y:Fq) (w:World) (ha:IsQ w va x) (hb:IsQ w vb y) (h:x.ok 1000000000) (k:y.ok 1000000000) (h0:y.p≠0):
  Calls Tryz.prog 159 #[va,vb] w fun e w'=>oh w (x.div y) 0 e w':=by
 refine(cRn (ρ:=[.val (.bool x.s),.dig (nl x.p) x.p,.dig (nl x.q) x.q,.val (.bool y.s),.dig (nl y.p) y.p,.dig (nl y.q) y.q,.val (.bool (x.s !=y.s)),.dig (nl (x.p*y.q)) (x.p*y.q),.dig (nl (x.q*y.p)) (x.q*y.p),.val (.bool (Fq.low (x.s !=y.s) (x.p*y.q) (x.q*y.p)).s),.dig (nl (Fq.low (x.s !=y.s) (x.p*y.q) (x.q*y.p)).p) (Fq.low (x.s !=y.s) (x.p*y.q) (x.q*y.p)).p,.dig (nl (Fq.low (x.s !=y.s) (x.p*y.q) (x.q*y.p)).q) (Fq.low (x.s !=y.s) (x.p*y.q) (x.q*y.p)).q]) (args:=[q3 0 1 2,q3 3 4 5]) (vs:=[va,vb]) (r:=.tup [q3 9 10 11,.one (.i .i64 0)])
  (af (eO (i:=1) (j:=5) (k:=7) rfl rfl rfl (Nat.le_trans h.p (by decide)) (Nat.le_trans k.q (by decide))) (af (eO (i:=2) (j:=4) (k:=8) rfl rfl rfl (Nat.le_trans h.q (by decide)) (Nat.le_trans k.p (by decide))) (af (jK (i:=7) (j:=8) (x:=9) (y:=10) (z:=11) (br (n:=6) rfl) rfl rfl rfl rfl rfl (Nat.le_trans (aX h.p k.q) (by decide)) (Nat.le_trans (aX h.q k.p) (by decide)) (Nat.mul_ne_zero h.n h0)) ai)))
  (ae (qm (t:=4) (by kernel_rfl) (br (n:=0) rfl) (br (n:=3) rfl) (lrb (n:=6) rfl)) (aj)) Tryz.func159 (by kernel_rfl) ⟨(inF ha (lrb (n:=0) rfl) rfl rfl),⟨(inF hb (lrb (n:=3) rfl) rfl rfl),trivial⟩⟩).mono ?_
 rintro e w' ⟨v,rfl,h1,h2⟩
 obtain⟨u,rfl,h3⟩:=tp h1 (fun _ _ _ h=>h)
 exact⟨u,rfl,el h3 (br (n:=9) rfl) rfl rfl (by simp[Fq.low,dR,ff,fB,Fq.add,Fq.mul,Fq.div,Fq.neg,Fq.zero,Fq.sgn,dm,di]) (by simp[Fq.low,dR,ff,fB,Fq.add,Fq.mul,Fq.div,Fq.neg,Fq.zero,Fq.sgn,dm,di]) (by simp[Fq.low,dR,ff,fB,Fq.add,Fq.mul,Fq.div,Fq.neg,Fq.zero,Fq.sgn,dm,di]),h2⟩
theorem q_rSign (va:Value) (x:Fq) (w:World) (ha:IsQ w va x) (h:x.ok 1000000000000):
  Calls Tryz.prog 105 #[va] w fun e w'=>bH w (.int .i64 x.sgn) e w':=by
 by_cases c0:x.p=0
 ·refine(cRn (ρ:=[.val (.bool x.s),.dig (nl x.p) x.p,.dig (nl x.q) x.q]) (args:=[q3 0 1 2]) (vs:=[va]) (r:=.v (.one (.i .i64 0)))
   (af (dp (i:=1) rfl (decide_eq_true c0) h.p) ai)
   aj Tryz.func105 (by kernel_rfl) ⟨(inF ha (lrb (n:=0) rfl) rfl rfl),trivial⟩).mono ?_
  rintro e w' ⟨v,rfl,h1,h2⟩
  have h1:=h1
  have h1:v=_:=h1;subst h1
  exact⟨by simp[Fq.sgn,c0],h2⟩
 ·rcases Bool.eq_false_or_eq_true (x.s)with c1 | c1
  ·refine(cRn (ρ:=[.dig (nl x.p) x.p,.dig (nl x.q) x.q]) (args:=[.agg [.b true,.ref 0,.ref 1]]) (vs:=[va]) (r:=.v (.one (.i .i64 (-1))))
    (af (dp (i:=0) rfl (decide_eq_false c0) h.p) ai)
    aj Tryz.func105 (by kernel_rfl) ⟨(inF ha (lb c1) rfl rfl),trivial⟩).mono ?_
   rintro e w' ⟨v,rfl,h1,h2⟩
   have h1:=h1
   have h1:v=_:=h1;subst h1
   exact⟨by simp[Fq.sgn,c0,c1],h2⟩
  ·refine(cRn (ρ:=[.dig (nl x.p) x.p,.dig (nl x.q) x.q]) (args:=[.agg [.b false,.ref 0,.ref 1]]) (vs:=[va]) (r:=.v (.one (.i .i64 1)))
    (af (dp (i:=0) rfl (decide_eq_false c0) h.p) ai)
    aj Tryz.func105 (by kernel_rfl) ⟨(inF ha (lb c1) rfl rfl),trivial⟩).mono ?_
   rintro e w' ⟨v,rfl,h1,h2⟩
   have h1:=h1
   have h1:v=_:=h1;subst h1
   exact⟨by simp[Fq.sgn,c0,c1],h2⟩
theorem q_rInt (v:Int) (w:World) (lv: -9223372036854775808≤v) (rv:v<9223372036854775808):
  Calls Tryz.prog 61 #[.int .i64 v] w fun e w'=>fC w (Fq.ofInt v) e w':=by
 refine(cRn (ρ:=[.val (.int .i64 v),.val (.bool (decide (v<0))),.val (.int .u64 (v.natAbs:Int)),.dig (nl v.natAbs) v.natAbs,.dig (nl 1) 1]) (args:=[.one (.ref 0)]) (vs:=[.int .i64 v]) (r:=.v (q3 1 3 4))
  (af (vl (i:=0) (k:=2) rfl rfl lv rv) (af (vj (i:=2) (k:=3) rfl rfl (vh lv rv)) (af (tr (k:=4) rfl (by decide)) ai)))
  (ae (mA (n:=0) (c:=0) (t:=2) rfl (lrb (n:=1) rfl)) (aj)) Tryz.func61 (by kernel_rfl) ⟨aH (n:=0) rfl aE,trivial⟩).mono ?_
 rintro e w' ⟨v,rfl,h1,h2⟩
 exact⟨v,rfl,el h1 (br (n:=1) rfl) rfl rfl (by simp[Fq.ofInt]) (rfl) (rfl),h2⟩
theorem q_rRatio (v u:Int) (w:World) (lv: -9223372036854775808≤v) (rv:v<9223372036854775808) (lu: -9223372036854775808≤u) (ru:u<9223372036854775808) (h0:u≠0):
  Calls Tryz.prog 22 #[.int .i64 v,.int .i64 u] w fun e w'=>oh w (Fq.ratio v u) 0 e w':=by
 refine(cRn (ρ:=[.val (.int .i64 v),.val (.int .i64 u),.val (.bool (decide (v<0))),.val (.bool (decide (u<0))),.val (.bool ((decide (v<0)) !=(decide (u<0)))),.val (.int .u64 (v.natAbs:Int)),.dig (nl v.natAbs) v.natAbs,.val (.int .u64 (u.natAbs:Int)),.dig (nl u.natAbs) u.natAbs,.val (.bool (Fq.low ((decide (v<0)) !=(decide (u<0))) v.natAbs u.natAbs).s),.dig (nl (Fq.low ((decide (v<0)) !=(decide (u<0))) v.natAbs u.natAbs).p) (Fq.low ((decide (v<0)) !=(decide (u<0))) v.natAbs u.natAbs).p,.dig (nl (Fq.low ((decide (v<0)) !=(decide (u<0))) v.natAbs u.natAbs).q) (Fq.low ((decide (v<0)) !=(decide (u<0))) v.natAbs u.natAbs).q]) (args:=[.one (.ref 0),.one (.ref 1)]) (vs:=[.int .i64 v,.int .i64 u]) (r:=.tup [q3 9 10 11,.one (.i .i64 0)])
  (af (vl (i:=0) (k:=5) rfl rfl lv rv) (af (vj (i:=5) (k:=6) rfl rfl (vh lv rv)) (af (vl (i:=1) (k:=7) rfl rfl lu ru) (af (vj (i:=7) (k:=8) rfl rfl (vh lu ru)) (af (jK (i:=6) (j:=8) (x:=9) (y:=10) (z:=11) (br (n:=4) rfl) rfl rfl rfl rfl rfl (Nat.le_trans (kn lv rv) (by decide)) (Nat.le_trans (kn lu ru) (by decide)) (by omega)) ai)))))
  (ae (mA (n:=0) (c:=0) (t:=2) rfl (lrb (n:=2) rfl)) (ae (mA (n:=1) (c:=0) (t:=2) rfl (lrb (n:=3) rfl)) (ae (qm (t:=4) (by kernel_rfl) (br (n:=2) rfl) (br (n:=3) rfl) (lrb (n:=4) rfl)) (aj)))) Tryz.func22 (by kernel_rfl) ⟨aH (n:=0) rfl aE,⟨aH (n:=1) rfl aE,trivial⟩⟩).mono ?_
 rintro e w' ⟨v,rfl,h1,h2⟩
 obtain⟨u,rfl,h3⟩:=tp h1 (fun _ _ _ h=>h)
 exact⟨u,rfl,el h3 (br (n:=9) rfl) rfl rfl (rfl) (rfl) (rfl),h2⟩
theorem q_one (va:Value) (m:Nat) (w:World) (h:(Vp.row 25 1 [.dig (nl m) m]).p w va) (hm:nl m≤1000000000000):
  Calls Tryz.prog 132 #[va] w fun e w'=>bH w (.bool (decide (m=1))) e w':=by
 by_cases c0:m=1
 ·refine(cRn (ρ:=[.row 25 1 [.dig (nl m) m],.plc 25 [.dig (nl m) m],.dig (nl m) m,.dig (nl 1) 1,.val (.int .i64 (dX m 1))]) (args:=[.one (.ref 0)]) (vs:=[va]) (r:=.v (.one (.b true)))
   (af (I_nOf (k:=3) rfl (by decide)) (af (I_nCmp (i:=2) (j:=3) rfl rfl (lr (n:=4) rfl) hm (Nat.le_trans mx (by decide))) ai))
   (ae (oO (n:=0) (t:=152) ⟨_,Tryz.underlying152⟩ rfl (li rfl)) (ae (o_iaL (k:=0) (l:=.i .i64 0) (sz:=1) (qs':=[.dig (nl m) m]) (n:=0) (m:=1) Tryz.underlying152 (by kernel_rfl) rfl rfl (fun _ _ _ h=>h) (by decide) (by simp) (fun j q hq=>by match j,hq with | 0,hq=>simp at hq;subst hq;rfl | j+1,hq=>simp at hq)) (ae (ji (n:=1) (ls:=[.ref 2]) (t:=25) (by kernel_rfl) (by kernel_rfl) rfl ⟨lq rfl,trivial⟩) (ae (uY (n:=4) (c:=0) (t:=3) rfl (cmp_ne_f c0)) (aj))))) Tryz.func132 (by kernel_rfl) ⟨⟨_,rfl,h,fun _ _ hx=>qU hx⟩,trivial⟩).mono ?_
  rintro e w' ⟨v,rfl,h1,h2⟩
  have h1:=h1
  have h1:v=_:=h1;subst h1
  exact⟨by simp[Bool.decide_eq_true,c0],h2⟩
 ·refine(cRn (ρ:=[.row 25 1 [.dig (nl m) m],.plc 25 [.dig (nl m) m],.dig (nl m) m,.dig (nl 1) 1,.val (.int .i64 (dX m 1))]) (args:=[.one (.ref 0)]) (vs:=[va]) (r:=.v (.one (.b false)))
   (af (I_nOf (k:=3) rfl (by decide)) (af (I_nCmp (i:=2) (j:=3) rfl rfl (lr (n:=4) rfl) hm (Nat.le_trans mx (by decide))) ai))
   (ae (oO (n:=0) (t:=152) ⟨_,Tryz.underlying152⟩ rfl (li rfl)) (ae (o_iaL (k:=0) (l:=.i .i64 0) (sz:=1) (qs':=[.dig (nl m) m]) (n:=0) (m:=1) Tryz.underlying152 (by kernel_rfl) rfl rfl (fun _ _ _ h=>h) (by decide) (by simp) (fun j q hq=>by match j,hq with | 0,hq=>simp at hq;subst hq;rfl | j+1,hq=>simp at hq)) (ae (ji (n:=1) (ls:=[.ref 2]) (t:=25) (by kernel_rfl) (by kernel_rfl) rfl ⟨lq rfl,trivial⟩) (ae (uY (n:=4) (c:=0) (t:=3) rfl (cmp_ne_t c0)) (aj))))) Tryz.func132 (by kernel_rfl) ⟨⟨_,rfl,h,fun _ _ hx=>qU hx⟩,trivial⟩).mono ?_
  rintro e w' ⟨v,rfl,h1,h2⟩
  have h1:=h1
  have h1:v=_:=h1;subst h1
  exact⟨by simp[Bool.decide_eq_true,c0],h2⟩
theorem qo {ρ:Rho} {n m:Nat} {b:Bool} (hn:ρ[n]? =some (.row 25 1 [.dig (nl m) m])) (hb:decide (m=1)=b) (hm:nl m≤1000000000000):Inst.Ok Tryz.prog ρ ⟨132,[.one (.ref n)],.v (.one (.b b))⟩:=
 ⟨aA Tryz.func132 rfl rfl,fun B w vs hB h=>by
  match vs,h with
  | [va],h=>
   obtain⟨⟨q,h1,h2,_⟩,_⟩:=h
   rw[hn]at h1;injection h1 with h1;subst h1
   refine(q_one va m w h2 hm).mono ?_
   rintro e w' ⟨rfl,h2⟩
   exact⟨_,rfl,by subst hb;rfl,h2⟩⟩
theorem yW (va:Value) (s:Bool) (L p N q:Nat) (w:World) (ha:rg w va s L p N q) (hL:L≤1000000) (hN:N≤1000000) (hne:¬(nl p=L∧nl q=N)):
  Calls Tryz.prog 102 #[va] w fun e w'=>bH w (.bool false) e w':=by
 by_cases c0:nl p=L
 ·by_cases c1:nl q=N
  ·exact absurd ⟨c0,c1⟩ hne
  ·refine(cRn (ρ:=[.val (.bool s),.dig L p,.dig N q]) (args:=[q3 0 1 2]) (vs:=[va]) (r:=.v (.one (.b false)))
    (af (jI (i:=1) (b:=true) rfl (decide_eq_true c0) (Nat.le_trans hL (by decide))) (af (jI (i:=2) (b:=false) rfl (decide_eq_false c1) (Nat.le_trans hN (by decide))) ai))
    aj Tryz.func102 (by kernel_rfl) ⟨(inFR ha (lrb (n:=0) rfl) rfl rfl),trivial⟩).mono ?_
   rintro e w' ⟨v,rfl,h1,h2⟩
   have h1:=h1
   have h1:v=_:=h1;subst h1
   exact⟨rfl,h2⟩
 ·refine(cRn (ρ:=[.val (.bool s),.dig L p,.dig N q]) (args:=[q3 0 1 2]) (vs:=[va]) (r:=.v (.one (.b false)))
   (af (jI (i:=1) (b:=false) rfl (decide_eq_false c0) (Nat.le_trans hL (by decide))) ai)
   aj Tryz.func102 (by kernel_rfl) ⟨(inFR ha (lrb (n:=0) rfl) rfl rfl),trivial⟩).mono ?_
  rintro e w' ⟨v,rfl,h1,h2⟩
  have h1:=h1
  have h1:v=_:=h1;subst h1
  exact⟨rfl,h2⟩
theorem tu (va:Value) (x:Fq) (w:World) (ha:IsQ w va x) (hp:nl x.p≤1000000) (hq:nl x.q≤1000000):
  Calls Tryz.prog 102 #[va] w fun e w'=>bH w (.bool x.valid) e w':=by
 by_cases c0:x.q=0
 ·refine(cRn (ρ:=[.val (.bool x.s),.dig (nl x.p) x.p,.dig (nl x.q) x.q]) (args:=[q3 0 1 2]) (vs:=[va]) (r:=.v (.one (.b false)))
   (af (cD (i:=1) rfl rfl (Nat.le_trans hp (by decide))) (af (cD (i:=2) rfl rfl (Nat.le_trans hq (by decide))) (af (cE (i:=2) rfl (decide_eq_true c0) (Nat.le_trans hq (by decide))) ai)))
   aj Tryz.func102 (by kernel_rfl) ⟨(inF ha (lrb (n:=0) rfl) rfl rfl),trivial⟩).mono ?_
  rintro e w' ⟨v,rfl,h1,h2⟩
  have h1:=h1
  have h1:v=_:=h1;subst h1
  exact⟨by simp[Fq.valid,c0],h2⟩
 ·by_cases c1:x.p=0
  ·rcases Bool.eq_false_or_eq_true (x.s)with c2 | c2
   ·refine(cRn (ρ:=[.dig (nl x.p) x.p,.dig (nl x.q) x.q]) (args:=[.agg [.b true,.ref 0,.ref 1]]) (vs:=[va]) (r:=.v (.one (.b false)))
     (af (cD (i:=0) rfl rfl (Nat.le_trans hp (by decide))) (af (cD (i:=1) rfl rfl (Nat.le_trans hq (by decide))) (af (cE (i:=1) rfl (decide_eq_false c0) (Nat.le_trans hq (by decide))) (af (fZ (cB (l:=.b true) (a:=0) (b:=1) (x:=x) (lb c2) (bl2 c2) rfl rfl) (lb c2) (decide_eq_true c1) (Nat.le_trans hp (by decide))) ai))))
     (ae (iD true true true true) (aj)) Tryz.func102 (by kernel_rfl) ⟨(inF ha (lb c2) rfl rfl),trivial⟩).mono ?_
    rintro e w' ⟨v,rfl,h1,h2⟩
    have h1:=h1
    have h1:v=_:=h1;subst h1
    exact⟨by simp[Fq.valid,c0,c1,c2],h2⟩
   ·by_cases c3:(Nat.gcd x.p x.q)=1
    ·refine(cRn (ρ:=[.dig (nl x.p) x.p,.dig (nl x.q) x.q,.dig (nl (Nat.gcd x.p x.q)) (Nat.gcd x.p x.q),.row 25 1 [.dig (nl (Nat.gcd x.p x.q)) (Nat.gcd x.p x.q)]]) (args:=[.agg [.b false,.ref 0,.ref 1]]) (vs:=[va]) (r:=.v (.one (.b true)))
      (af (cD (i:=0) rfl rfl (Nat.le_trans hp (by decide))) (af (cD (i:=1) rfl rfl (Nat.le_trans hq (by decide))) (af (cE (i:=1) rfl (decide_eq_false c0) (Nat.le_trans hq (by decide))) (af (fZ (cB (l:=.b false) (a:=0) (b:=1) (x:=x) (lb c2) (bl2 c2) rfl rfl) (lb c2) (decide_eq_true c1) (Nat.le_trans hp (by decide))) (af (iC (i:=0) (j:=1) (k:=2) rfl rfl rfl (Nat.le_trans hp (by decide)) (Nat.le_trans hq (by decide))) (af (qo (n:=3) rfl (decide_eq_true c3) (Nat.le_trans (co hp hq) (by decide))) ai))))))
      (ae (iD false true true true) (ae (rf (m:=3) (ss:=[nt 2]) (N:=1) (sz:=1) (z:=[.sl0]) (qs:=[.dig (nl (Nat.gcd x.p x.q)) (Nat.gcd x.p x.q)]) (ix:=[0]) (ls:=[.ref 2]) Tryz.underlying152 (by kernel_rfl) (by kernel_rfl) (by decide) (by decide) (by decide) rfl (by kernel_rfl) ⟨gN rfl,trivial⟩ rfl) (aj))) Tryz.func102 (by kernel_rfl) ⟨(inF ha (lb c2) rfl rfl),trivial⟩).mono ?_
     rintro e w' ⟨v,rfl,h1,h2⟩
     have h1:=h1
     have h1:v=_:=h1;subst h1
     exact⟨by rw[c1,Nat.gcd_zero_left]at c3;simp[Fq.valid,c0,c1,c2,c3],h2⟩
    ·refine(cRn (ρ:=[.dig (nl x.p) x.p,.dig (nl x.q) x.q,.dig (nl (Nat.gcd x.p x.q)) (Nat.gcd x.p x.q),.row 25 1 [.dig (nl (Nat.gcd x.p x.q)) (Nat.gcd x.p x.q)]]) (args:=[.agg [.b false,.ref 0,.ref 1]]) (vs:=[va]) (r:=.v (.one (.b false)))
      (af (cD (i:=0) rfl rfl (Nat.le_trans hp (by decide))) (af (cD (i:=1) rfl rfl (Nat.le_trans hq (by decide))) (af (cE (i:=1) rfl (decide_eq_false c0) (Nat.le_trans hq (by decide))) (af (fZ (cB (l:=.b false) (a:=0) (b:=1) (x:=x) (lb c2) (bl2 c2) rfl rfl) (lb c2) (decide_eq_true c1) (Nat.le_trans hp (by decide))) (af (iC (i:=0) (j:=1) (k:=2) rfl rfl rfl (Nat.le_trans hp (by decide)) (Nat.le_trans hq (by decide))) (af (qo (n:=3) rfl (decide_eq_false c3) (Nat.le_trans (co hp hq) (by decide))) ai))))))
      (ae (iD false true true true) (ae (rf (m:=3) (ss:=[nt 2]) (N:=1) (sz:=1) (z:=[.sl0]) (qs:=[.dig (nl (Nat.gcd x.p x.q)) (Nat.gcd x.p x.q)]) (ix:=[0]) (ls:=[.ref 2]) Tryz.underlying152 (by kernel_rfl) (by kernel_rfl) (by decide) (by decide) (by decide) rfl (by kernel_rfl) ⟨gN rfl,trivial⟩ rfl) (aj))) Tryz.func102 (by kernel_rfl) ⟨(inF ha (lb c2) rfl rfl),trivial⟩).mono ?_
     rintro e w' ⟨v,rfl,h1,h2⟩
     have h1:=h1
     have h1:v=_:=h1;subst h1
     exact⟨by rw[c1,Nat.gcd_zero_left]at c3;simp[Fq.valid,c0,c1,c2,c3],h2⟩
  ·rcases Bool.eq_false_or_eq_true (x.s)with c2 | c2
   ·by_cases c3:(Nat.gcd x.p x.q)=1
    ·refine(cRn (ρ:=[.dig (nl x.p) x.p,.dig (nl x.q) x.q,.dig (nl (Nat.gcd x.p x.q)) (Nat.gcd x.p x.q),.row 25 1 [.dig (nl (Nat.gcd x.p x.q)) (Nat.gcd x.p x.q)]]) (args:=[.agg [.b true,.ref 0,.ref 1]]) (vs:=[va]) (r:=.v (.one (.b true)))
      (af (cD (i:=0) rfl rfl (Nat.le_trans hp (by decide))) (af (cD (i:=1) rfl rfl (Nat.le_trans hq (by decide))) (af (cE (i:=1) rfl (decide_eq_false c0) (Nat.le_trans hq (by decide))) (af (fZ (cB (l:=.b true) (a:=0) (b:=1) (x:=x) (lb c2) (bl2 c2) rfl rfl) (lb c2) (decide_eq_false c1) (Nat.le_trans hp (by decide))) (af (iC (i:=0) (j:=1) (k:=2) rfl rfl rfl (Nat.le_trans hp (by decide)) (Nat.le_trans hq (by decide))) (af (qo (n:=3) rfl (decide_eq_true c3) (Nat.le_trans (co hp hq) (by decide))) ai))))))
      (ae (iD true false true true) (ae (rf (m:=3) (ss:=[nt 2]) (N:=1) (sz:=1) (z:=[.sl0]) (qs:=[.dig (nl (Nat.gcd x.p x.q)) (Nat.gcd x.p x.q)]) (ix:=[0]) (ls:=[.ref 2]) Tryz.underlying152 (by kernel_rfl) (by kernel_rfl) (by decide) (by decide) (by decide) rfl (by kernel_rfl) ⟨gN rfl,trivial⟩ rfl) (aj))) Tryz.func102 (by kernel_rfl) ⟨(inF ha (lb c2) rfl rfl),trivial⟩).mono ?_
     rintro e w' ⟨v,rfl,h1,h2⟩
     have h1:=h1
     have h1:v=_:=h1;subst h1
     exact⟨by simp[Fq.valid,c0,c1,c2,c3],h2⟩
    ·refine(cRn (ρ:=[.dig (nl x.p) x.p,.dig (nl x.q) x.q,.dig (nl (Nat.gcd x.p x.q)) (Nat.gcd x.p x.q),.row 25 1 [.dig (nl (Nat.gcd x.p x.q)) (Nat.gcd x.p x.q)]]) (args:=[.agg [.b true,.ref 0,.ref 1]]) (vs:=[va]) (r:=.v (.one (.b false)))
      (af (cD (i:=0) rfl rfl (Nat.le_trans hp (by decide))) (af (cD (i:=1) rfl rfl (Nat.le_trans hq (by decide))) (af (cE (i:=1) rfl (decide_eq_false c0) (Nat.le_trans hq (by decide))) (af (fZ (cB (l:=.b true) (a:=0) (b:=1) (x:=x) (lb c2) (bl2 c2) rfl rfl) (lb c2) (decide_eq_false c1) (Nat.le_trans hp (by decide))) (af (iC (i:=0) (j:=1) (k:=2) rfl rfl rfl (Nat.le_trans hp (by decide)) (Nat.le_trans hq (by decide))) (af (qo (n:=3) rfl (decide_eq_false c3) (Nat.le_trans (co hp hq) (by decide))) ai))))))
      (ae (iD true false true true) (ae (rf (m:=3) (ss:=[nt 2]) (N:=1) (sz:=1) (z:=[.sl0]) (qs:=[.dig (nl (Nat.gcd x.p x.q)) (Nat.gcd x.p x.q)]) (ix:=[0]) (ls:=[.ref 2]) Tryz.underlying152 (by kernel_rfl) (by kernel_rfl) (by decide) (by decide) (by decide) rfl (by kernel_rfl) ⟨gN rfl,trivial⟩ rfl) (aj))) Tryz.func102 (by kernel_rfl) ⟨(inF ha (lb c2) rfl rfl),trivial⟩).mono ?_
     rintro e w' ⟨v,rfl,h1,h2⟩
     have h1:=h1
     have h1:v=_:=h1;subst h1
     exact⟨by simp[Fq.valid,c0,c1,c2,c3],h2⟩
   ·by_cases c3:(Nat.gcd x.p x.q)=1
    ·refine(cRn (ρ:=[.dig (nl x.p) x.p,.dig (nl x.q) x.q,.dig (nl (Nat.gcd x.p x.q)) (Nat.gcd x.p x.q),.row 25 1 [.dig (nl (Nat.gcd x.p x.q)) (Nat.gcd x.p x.q)]]) (args:=[.agg [.b false,.ref 0,.ref 1]]) (vs:=[va]) (r:=.v (.one (.b true)))
      (af (cD (i:=0) rfl rfl (Nat.le_trans hp (by decide))) (af (cD (i:=1) rfl rfl (Nat.le_trans hq (by decide))) (af (cE (i:=1) rfl (decide_eq_false c0) (Nat.le_trans hq (by decide))) (af (fZ (cB (l:=.b false) (a:=0) (b:=1) (x:=x) (lb c2) (bl2 c2) rfl rfl) (lb c2) (decide_eq_false c1) (Nat.le_trans hp (by decide))) (af (iC (i:=0) (j:=1) (k:=2) rfl rfl rfl (Nat.le_trans hp (by decide)) (Nat.le_trans hq (by decide))) (af (qo (n:=3) rfl (decide_eq_true c3) (Nat.le_trans (co hp hq) (by decide))) ai))))))
      (ae (iD false false true true) (ae (rf (m:=3) (ss:=[nt 2]) (N:=1) (sz:=1) (z:=[.sl0]) (qs:=[.dig (nl (Nat.gcd x.p x.q)) (Nat.gcd x.p x.q)]) (ix:=[0]) (ls:=[.ref 2]) Tryz.underlying152 (by kernel_rfl) (by kernel_rfl) (by decide) (by decide) (by decide) rfl (by kernel_rfl) ⟨gN rfl,trivial⟩ rfl) (aj))) Tryz.func102 (by kernel_rfl) ⟨(inF ha (lb c2) rfl rfl),trivial⟩).mono ?_
     rintro e w' ⟨v,rfl,h1,h2⟩
     have h1:=h1
     have h1:v=_:=h1;subst h1
     exact⟨by simp[Fq.valid,c0,c1,c2,c3],h2⟩
    ·refine(cRn (ρ:=[.dig (nl x.p) x.p,.dig (nl x.q) x.q,.dig (nl (Nat.gcd x.p x.q)) (Nat.gcd x.p x.q),.row 25 1 [.dig (nl (Nat.gcd x.p x.q)) (Nat.gcd x.p x.q)]]) (args:=[.agg [.b false,.ref 0,.ref 1]]) (vs:=[va]) (r:=.v (.one (.b false)))
      (af (cD (i:=0) rfl rfl (Nat.le_trans hp (by decide))) (af (cD (i:=1) rfl rfl (Nat.le_trans hq (by decide))) (af (cE (i:=1) rfl (decide_eq_false c0) (Nat.le_trans hq (by decide))) (af (fZ (cB (l:=.b false) (a:=0) (b:=1) (x:=x) (lb c2) (bl2 c2) rfl rfl) (lb c2) (decide_eq_false c1) (Nat.le_trans hp (by decide))) (af (iC (i:=0) (j:=1) (k:=2) rfl rfl rfl (Nat.le_trans hp (by decide)) (Nat.le_trans hq (by decide))) (af (qo (n:=3) rfl (decide_eq_false c3) (Nat.le_trans (co hp hq) (by decide))) ai))))))
      (ae (iD false false true true) (ae (rf (m:=3) (ss:=[nt 2]) (N:=1) (sz:=1) (z:=[.sl0]) (qs:=[.dig (nl (Nat.gcd x.p x.q)) (Nat.gcd x.p x.q)]) (ix:=[0]) (ls:=[.ref 2]) Tryz.underlying152 (by kernel_rfl) (by kernel_rfl) (by decide) (by decide) (by decide) rfl (by kernel_rfl) ⟨gN rfl,trivial⟩ rfl) (aj))) Tryz.func102 (by kernel_rfl) ⟨(inF ha (lb c2) rfl rfl),trivial⟩).mono ?_
     rintro e w' ⟨v,rfl,h1,h2⟩
     have h1:=h1
     have h1:v=_:=h1;subst h1
     exact⟨by simp[Fq.valid,c0,c1,c2,c3],h2⟩
theorem yX (va:Value) (s:Bool) (L p N q:Nat) (w:World) (ha:rg w va s L p N q) (hL:L≤1000000) (hN:N≤1000000) (hne:¬(nl p=L∧nl q=N)):
  Calls Tryz.prog 75 #[va] w fun e w'=>bH w (.bool false) e w':=by
 by_cases c0:nl p=L
 ·by_cases c1:nl q=N
  ·exact absurd ⟨c0,c1⟩ hne
  ·refine(cRn (ρ:=[.val (.bool s),.dig L p,.dig N q]) (args:=[q3 0 1 2]) (vs:=[va]) (r:=.v (.one (.b false)))
    (af (jJ (i:=1) (b:=true) rfl (decide_eq_true c0) (Nat.le_trans hL (by decide))) (af (jJ (i:=2) (b:=false) rfl (decide_eq_false c1) (Nat.le_trans hN (by decide))) ai))
    aj Tryz.func75 (by kernel_rfl) ⟨(inFR ha (lrb (n:=0) rfl) rfl rfl),trivial⟩).mono ?_
   rintro e w' ⟨v,rfl,h1,h2⟩
   have h1:=h1
   have h1:v=_:=h1;subst h1
   exact⟨rfl,h2⟩
 ·refine(cRn (ρ:=[.val (.bool s),.dig L p,.dig N q]) (args:=[q3 0 1 2]) (vs:=[va]) (r:=.v (.one (.b false)))
   (af (jJ (i:=1) (b:=false) rfl (decide_eq_false c0) (Nat.le_trans hL (by decide))) ai)
   aj Tryz.func75 (by kernel_rfl) ⟨(inFR ha (lrb (n:=0) rfl) rfl rfl),trivial⟩).mono ?_
  rintro e w' ⟨v,rfl,h1,h2⟩
  have h1:=h1
  have h1:v=_:=h1;subst h1
  exact⟨rfl,h2⟩
theorem tv (va:Value) (x:Fq) (w:World) (ha:IsQ w va x) (hp:nl x.p≤1000000) (hq:nl x.q≤1000000):
  Calls Tryz.prog 75 #[va] w fun e w'=>bH w (.bool x.valid) e w':=by
 by_cases c0:x.q=0
 ·refine(cRn (ρ:=[.val (.bool x.s),.dig (nl x.p) x.p,.dig (nl x.q) x.q]) (args:=[q3 0 1 2]) (vs:=[va]) (r:=.v (.one (.b false)))
   (af (dw (i:=1) rfl rfl (Nat.le_trans hp (by decide))) (af (dw (i:=2) rfl rfl (Nat.le_trans hq (by decide))) (af (dp (i:=2) rfl (decide_eq_true c0) (Nat.le_trans hq (by decide))) ai)))
   aj Tryz.func75 (by kernel_rfl) ⟨(inF ha (lrb (n:=0) rfl) rfl rfl),trivial⟩).mono ?_
  rintro e w' ⟨v,rfl,h1,h2⟩
  have h1:=h1
  have h1:v=_:=h1;subst h1
  exact⟨by simp[Fq.valid,c0],h2⟩
 ·rcases Bool.eq_false_or_eq_true (x.s)with c1 | c1
  ·by_cases c2:x.p=0
   ·refine(cRn (ρ:=[.dig (nl x.p) x.p,.dig (nl x.q) x.q]) (args:=[.agg [.b true,.ref 0,.ref 1]]) (vs:=[va]) (r:=.v (.one (.b false)))
     (af (dw (i:=0) rfl rfl (Nat.le_trans hp (by decide))) (af (dw (i:=1) rfl rfl (Nat.le_trans hq (by decide))) (af (dp (i:=1) rfl (decide_eq_false c0) (Nat.le_trans hq (by decide))) (af (dp (i:=0) rfl (decide_eq_true c2) (Nat.le_trans hp (by decide))) ai))))
     aj Tryz.func75 (by kernel_rfl) ⟨(inF ha (lb c1) rfl rfl),trivial⟩).mono ?_
    rintro e w' ⟨v,rfl,h1,h2⟩
    have h1:=h1
    have h1:v=_:=h1;subst h1
    exact⟨by simp[Fq.valid,c0,c1,c2],h2⟩
   ·by_cases c3:(Nat.gcd x.p x.q)=1
    ·refine(cRn (ρ:=[.dig (nl x.p) x.p,.dig (nl x.q) x.q,.dig (nl (Nat.gcd x.p x.q)) (Nat.gcd x.p x.q),.dig (nl 1) 1]) (args:=[.agg [.b true,.ref 0,.ref 1]]) (vs:=[va]) (r:=.v (.one (.b true)))
      (af (dw (i:=0) rfl rfl (Nat.le_trans hp (by decide))) (af (dw (i:=1) rfl rfl (Nat.le_trans hq (by decide))) (af (dp (i:=1) rfl (decide_eq_false c0) (Nat.le_trans hq (by decide))) (af (dp (i:=0) rfl (decide_eq_false c2) (Nat.le_trans hp (by decide))) (af (kt (i:=0) (j:=1) (k:=2) rfl rfl rfl (Nat.le_trans hp (by decide)) (Nat.le_trans hq (by decide))) (af (tr (k:=3) rfl (by decide)) (af (fE (i:=2) (j:=3) rfl rfl (decide_eq_true c3) (Nat.le_trans (co hp hq) (by decide)) (Nat.le_trans mx (by decide))) ai)))))))
      aj Tryz.func75 (by kernel_rfl) ⟨(inF ha (lb c1) rfl rfl),trivial⟩).mono ?_
     rintro e w' ⟨v,rfl,h1,h2⟩
     have h1:=h1
     have h1:v=_:=h1;subst h1
     exact⟨by simp[Fq.valid,c0,c1,c2,c3],h2⟩
    ·refine(cRn (ρ:=[.dig (nl x.p) x.p,.dig (nl x.q) x.q,.dig (nl (Nat.gcd x.p x.q)) (Nat.gcd x.p x.q),.dig (nl 1) 1]) (args:=[.agg [.b true,.ref 0,.ref 1]]) (vs:=[va]) (r:=.v (.one (.b false)))
      (af (dw (i:=0) rfl rfl (Nat.le_trans hp (by decide))) (af (dw (i:=1) rfl rfl (Nat.le_trans hq (by decide))) (af (dp (i:=1) rfl (decide_eq_false c0) (Nat.le_trans hq (by decide))) (af (dp (i:=0) rfl (decide_eq_false c2) (Nat.le_trans hp (by decide))) (af (kt (i:=0) (j:=1) (k:=2) rfl rfl rfl (Nat.le_trans hp (by decide)) (Nat.le_trans hq (by decide))) (af (tr (k:=3) rfl (by decide)) (af (fE (i:=2) (j:=3) rfl rfl (decide_eq_false c3) (Nat.le_trans (co hp hq) (by decide)) (Nat.le_trans mx (by decide))) ai)))))))
      aj Tryz.func75 (by kernel_rfl) ⟨(inF ha (lb c1) rfl rfl),trivial⟩).mono ?_
     rintro e w' ⟨v,rfl,h1,h2⟩
     have h1:=h1
     have h1:v=_:=h1;subst h1
     exact⟨by simp[Fq.valid,c0,c1,c2,c3],h2⟩
  ·by_cases c2:(Nat.gcd x.p x.q)=1
   ·refine(cRn (ρ:=[.dig (nl x.p) x.p,.dig (nl x.q) x.q,.dig (nl (Nat.gcd x.p x.q)) (Nat.gcd x.p x.q),.dig (nl 1) 1]) (args:=[.agg [.b false,.ref 0,.ref 1]]) (vs:=[va]) (r:=.v (.one (.b true)))
     (af (dw (i:=0) rfl rfl (Nat.le_trans hp (by decide))) (af (dw (i:=1) rfl rfl (Nat.le_trans hq (by decide))) (af (dp (i:=1) rfl (decide_eq_false c0) (Nat.le_trans hq (by decide))) (af (kt (i:=0) (j:=1) (k:=2) rfl rfl rfl (Nat.le_trans hp (by decide)) (Nat.le_trans hq (by decide))) (af (tr (k:=3) rfl (by decide)) (af (fE (i:=2) (j:=3) rfl rfl (decide_eq_true c2) (Nat.le_trans (co hp hq) (by decide)) (Nat.le_trans mx (by decide))) ai))))))
     aj Tryz.func75 (by kernel_rfl) ⟨(inF ha (lb c1) rfl rfl),trivial⟩).mono ?_
    rintro e w' ⟨v,rfl,h1,h2⟩
    have h1:=h1
    have h1:v=_:=h1;subst h1
    exact⟨by simp[Fq.valid,c0,c1,c2],h2⟩
   ·refine(cRn (ρ:=[.dig (nl x.p) x.p,.dig (nl x.q) x.q,.dig (nl (Nat.gcd x.p x.q)) (Nat.gcd x.p x.q),.dig (nl 1) 1]) (args:=[.agg [.b false,.ref 0,.ref 1]]) (vs:=[va]) (r:=.v (.one (.b false)))
     (af (dw (i:=0) rfl rfl (Nat.le_trans hp (by decide))) (af (dw (i:=1) rfl rfl (Nat.le_trans hq (by decide))) (af (dp (i:=1) rfl (decide_eq_false c0) (Nat.le_trans hq (by decide))) (af (kt (i:=0) (j:=1) (k:=2) rfl rfl rfl (Nat.le_trans hp (by decide)) (Nat.le_trans hq (by decide))) (af (tr (k:=3) rfl (by decide)) (af (fE (i:=2) (j:=3) rfl rfl (decide_eq_false c2) (Nat.le_trans (co hp hq) (by decide)) (Nat.le_trans mx (by decide))) ai))))))
     aj Tryz.func75 (by kernel_rfl) ⟨(inF ha (lb c1) rfl rfl),trivial⟩).mono ?_
    rintro e w' ⟨v,rfl,h1,h2⟩
    have h1:=h1
    have h1:v=_:=h1;subst h1
    exact⟨by simp[Fq.valid,c0,c1,c2],h2⟩
theorem q_SameB (va vb:Value) (x y:Fq) (w:World) (ha:IsQ w va x) (hb:IsQ w vb y) (hp:nl x.p≤1000000000000) (hq:nl x.q≤1000000000000) (kp:nl y.p≤1000000000000) (kq:nl y.q≤1000000000000):
  Calls Tryz.prog 37 #[va,vb] w fun e w'=>bH w (.bool (x.same y)) e w':=by
 by_cases c0:x.s=y.s
 ·by_cases c1:x.p=y.p
  ·by_cases c2:x.q=y.q
   ·refine(cRn (ρ:=[.val (.bool x.s),.dig (nl x.p) x.p,.dig (nl x.q) x.q,.val (.bool y.s),.dig (nl y.p) y.p,.dig (nl y.q) y.q]) (args:=[q3 0 1 2,q3 3 4 5]) (vs:=[va,vb]) (r:=.v (.one (.b true)))
     (af (fE (i:=1) (j:=4) rfl rfl (decide_eq_true c1) hp kp) (af (fE (i:=2) (j:=5) rfl rfl (decide_eq_true c2) hq kq) ai))
     (ae (j5 (t:=4) (by kernel_rfl) (br (n:=0) rfl) (br (n:=3) rfl) (lb (tk c0))) (aj)) Tryz.func37 (by kernel_rfl) ⟨(inF ha (lrb (n:=0) rfl) rfl rfl),⟨(inF hb (lrb (n:=3) rfl) rfl rfl),trivial⟩⟩).mono ?_
    rintro e w' ⟨v,rfl,h1,h2⟩
    have h1:=h1
    have h1:v=_:=h1;subst h1
    exact⟨by simp[Fq.same,c0,c1,c2],h2⟩
   ·refine(cRn (ρ:=[.val (.bool x.s),.dig (nl x.p) x.p,.dig (nl x.q) x.q,.val (.bool y.s),.dig (nl y.p) y.p,.dig (nl y.q) y.q]) (args:=[q3 0 1 2,q3 3 4 5]) (vs:=[va,vb]) (r:=.v (.one (.b false)))
     (af (fE (i:=1) (j:=4) rfl rfl (decide_eq_true c1) hp kp) (af (fE (i:=2) (j:=5) rfl rfl (decide_eq_false c2) hq kq) ai))
     (ae (j5 (t:=4) (by kernel_rfl) (br (n:=0) rfl) (br (n:=3) rfl) (lb (tk c0))) (aj)) Tryz.func37 (by kernel_rfl) ⟨(inF ha (lrb (n:=0) rfl) rfl rfl),⟨(inF hb (lrb (n:=3) rfl) rfl rfl),trivial⟩⟩).mono ?_
    rintro e w' ⟨v,rfl,h1,h2⟩
    have h1:=h1
    have h1:v=_:=h1;subst h1
    exact⟨by simp[Fq.same,c0,c1,c2],h2⟩
  ·refine(cRn (ρ:=[.val (.bool x.s),.dig (nl x.p) x.p,.dig (nl x.q) x.q,.val (.bool y.s),.dig (nl y.p) y.p,.dig (nl y.q) y.q]) (args:=[q3 0 1 2,q3 3 4 5]) (vs:=[va,vb]) (r:=.v (.one (.b false)))
    (af (fE (i:=1) (j:=4) rfl rfl (decide_eq_false c1) hp kp) ai)
    (ae (j5 (t:=4) (by kernel_rfl) (br (n:=0) rfl) (br (n:=3) rfl) (lb (tk c0))) (aj)) Tryz.func37 (by kernel_rfl) ⟨(inF ha (lrb (n:=0) rfl) rfl rfl),⟨(inF hb (lrb (n:=3) rfl) rfl rfl),trivial⟩⟩).mono ?_
   rintro e w' ⟨v,rfl,h1,h2⟩
   have h1:=h1
   have h1:v=_:=h1;subst h1
   exact⟨by simp[Fq.same,c0,c1],h2⟩
 ·refine(cRn (ρ:=[.val (.bool x.s),.dig (nl x.p) x.p,.dig (nl x.q) x.q,.val (.bool y.s),.dig (nl y.p) y.p,.dig (nl y.q) y.q]) (args:=[q3 0 1 2,q3 3 4 5]) (vs:=[va,vb]) (r:=.v (.one (.b false)))
   (ai)
   (ae (j5 (t:=4) (by kernel_rfl) (br (n:=0) rfl) (br (n:=3) rfl) (lb (tn c0))) (aj)) Tryz.func37 (by kernel_rfl) ⟨(inF ha (lrb (n:=0) rfl) rfl rfl),⟨(inF hb (lrb (n:=3) rfl) rfl rfl),trivial⟩⟩).mono ?_
  rintro e w' ⟨v,rfl,h1,h2⟩
  have h1:=h1
  have h1:v=_:=h1;subst h1
  exact⟨by simp[Fq.same,c0],h2⟩
end Go.Proofs.YtfhinmdhjlmikaaGreat
