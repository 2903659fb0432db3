/- Package fraction and its reference, by the executor. The plain law of fractions: what they stand for (rational numbers), and the laws of a field, of the order, of Lerp and of Floor. The plain law of vectors of fractions. The plain law of rotations, in rational numbers: quaternions up to a factor, and how they turn vectors. -/
import Derived.Test.YtfhinmdhjlmikaaDoorP10
namespace Go.Proofs.YtfhinmdhjlmikaaDoor
set_option linter.unusedSimpArgs false
set_option linter.unusedVariables false
set_option maxRecDepth 100000
open Go.RowKit
/-- Agreement in all fields. -/
def Fq.same (x y:Fq):Bool:=x.s==y.s && (decide (x.p=y.p) && decide (x.q=y.q))
theorem Fq.same_iff {x y:Fq}:x.same y=true↔x=y:=by
 obtain⟨a,b,c⟩:=x;obtain⟨a',b',c'⟩:=y
 simp[Fq.same]
theorem bsz (l:Array UInt8):(ByteArray.mk l).size=l.size:=rfl
/-- A natural number, a fraction, as unknowns. -/
def nt (n:Nat):SV:=.agg [.ref n]
def q3 (i j k:Nat):SV:=.agg [.ref i,.ref j,.ref k]
theorem wB {m n d e:Nat} (hm:nl m≤d) (hn:nl n≤e):nl (m+n)≤d+e+1:=az.2 (tB (az.1 hm) (az.1 hn))
theorem rl {m n d:Nat} (hm:nl m≤d):nl (m - n)≤d:=Nat.le_trans (cF (Nat.sub_le _ _)) hm
theorem rm {m n d:Nat} (hm:nl m≤d):nl (m / n)≤d:=Nat.le_trans (cF (Nat.div_le_self _ _)) hm
theorem bu {m n d e:Nat} (hm:nl m≤d) (hn:nl n≤e):nl (Nat.gcd m n)≤d+e:=by
 by_cases h:n=0
 ·subst h;rw[Nat.gcd_zero_right];omega
 ·have:=cF (Nat.gcd_le_right m (Nat.pos_of_ne_zero h));omega
theorem bk:nl 1≤1:=az.2 (by decide)
theorem xX {v:Int} (lv: -9223372036854775808≤v) (rv:v<9223372036854775808):v.natAbs<18446744073709551616:=by omega
theorem rn {a b:Bool} (h:a=b):(a==b)=true:=by simpa using h
theorem uj {a b:Bool} (h:a≠b):(a==b)=false:=by simpa using h
theorem le_t {m n:Nat} (h:¬m<n):decide (n≤m)=true:=decide_eq_true (by omega)
theorem le_f {m n:Nat} (h:m<n):decide (n≤m)=false:=decide_eq_false (by omega)
theorem nY (m n:Nat):(m<n∧cC m n= -1)∨(n<m∧cC m n=1)∨(m=n∧cC m n=0):=by
 rcases Nat.lt_trichotomy m n with h | h | h
 ·exact .inl ⟨h,eH h⟩
 ·exact .inr (.inr ⟨h,iB h⟩)
 ·exact .inr (.inl ⟨h,gP h⟩)
theorem pp {m n:Nat} (h:¬n<m):decide (cC m n≤0)=true:=decide_eq_true (by have:=nY m n;omega)
theorem gJ {m n:Nat} (h:n<m):decide (cC m n≤0)=false:=decide_eq_false (by have:=nY m n;omega)
theorem uk {m n:Nat} (h:m≠n):(cC m n !=0)=true:=cm (by have:=nY m n;omega)
theorem ul {m n:Nat} (h:m=n):(cC m n !=0)=false:=du (by have:=nY m n;omega)
theorem lowz {m n:Nat} (h0:n≠0):m / Nat.gcd m n=0↔m=0:=by
 have hg:=Nat.gcd_pos_of_pos_right m (Nat.pos_of_ne_zero h0)
 rw[Nat.div_eq_zero_iff]
 constructor
 ·rintro(h | h)
  ·omega
  ·rcases Nat.eq_zero_or_pos m with h2 | h2
   ·exact h2
   ·have:=Nat.gcd_le_left n h2;omega
 ·rintro rfl;exact .inr hg
section
variable {ρ:Rho} {B:Blk} {w:World} {v:Value} {i j k l' n:Nat} {l r:Leaf} {m z z':Nat} {f:FuncId} {s b:Bool} {x y u:Fq} {t:TypeId} {c:Int} {p q a d:Nat} {S:Bool} {P Q P0 Q0:Nat} {S0:Bool}
theorem um {L N:Nat} (h:ρ[n]? =some (.dig L N)):(nt n).holds ρ B w v↔IsR w v L N:=by
 constructor
 ·rintro⟨vs,rfl,h1⟩
  match vs,h1 with
  | [x],h1=>exact(gf h).1 h1.1
 ·intro h1
  obtain⟨a,c,rfl,h2⟩:=h1
  exact⟨[_],rfl,(gf h).2 ⟨a,c,rfl,h2⟩,trivial⟩
theorem bC {N:Nat} (h:ρ[n]? =some (.dig (nl N) N)):(nt n).holds ρ B w v↔IsN w v N:=um h
theorem uo {L N:Nat} (h:lR w v s L p N q) (hl:∀B w,l.holds ρ B w (.bool s)) (hj:ρ[j]? =some (.dig L p)) (hk:ρ[k]? =some (.dig N q)):(SV.agg [l,.ref j,.ref k]).holds ρ B w v:=by
 obtain⟨a,c,b,d,rfl,h1,h2⟩:=h
 exact⟨[_,_,_],rfl,hl B w,(gf hj).2 h1,(gf hk).2 h2,trivial⟩
theorem inF (h:IsF w v s p q) (hl:∀B w,l.holds ρ B w (.bool s)) (hj:ρ[j]? =some (.dig (nl p) p)) (hk:ρ[k]? =some (.dig (nl q) q)):(SV.agg [l,.ref j,.ref k]).holds ρ B w v:=uo (s:=s) (L:=nl p) (N:=nl q) h hl hj hk
theorem fw (h:(SV.agg [l,.ref j,.ref k]).holds ρ B w v) (hl:∀B w x,l.holds ρ B w x→x= .bool S0) (hp:ρ[j]? =some (.dig (nl P0) P0)) (hq:ρ[k]? =some (.dig (nl Q0) Q0)) (eS:S0=S) (eP:P0=P) (eQ:Q0=Q):IsF w v S P Q:=by
 subst eS;subst eP;subst eQ
 obtain⟨vs,rfl,h1⟩:=h
 match vs,h1 with
 | [x,y,z],h1=>
  have e1:=hl _ _ _ h1.1
  subst e1
  have h2:=(gf hp).1 h1.2.1
  have h3:=(gf hq).1 h1.2.2.1
  have hs:∀ {x:Value} {L N:Nat},IsR w (.agg #[x]) L N→∃a c,x= .slice a L c:=fun {x L N} h=>by
   obtain⟨a,c,e,_⟩:=h
   injection e with e
   have:=congrArg (fun x:Array Value=>x[0]?) e
   exact⟨a,c,by simpa using this⟩
  obtain⟨a,c,rfl⟩:=hs h2
  obtain⟨b,d,rfl⟩:=hs h3
  exact⟨a,c,b,d,rfl,h2,h3⟩
theorem fU (h:(SV.agg [.b false,.sl0,.sl0]).holds ρ B w v):IsF w v false 0 0:=by
 obtain⟨vs,rfl,h1⟩:=h
 match vs,h1 with
 | [x,y,z],h1=>
  obtain⟨e1,e2,e3,_⟩:=h1
  have e1:x= .bool false:=e1
  have e2:y= .slice none 0 0:=e2
  have e3:z= .slice none 0 0:=e3
  subst e1;subst e2;subst e3
  have h0:IsN w (.agg #[.slice none 0 0]) 0:=⟨none,0,by rw[aK],by rw[aK];omega,by rw[aK];decide,fun h=>by rw[aK]at h;omega⟩
  exact⟨none,0,none,0,by rw[aK],by rw[aK];exact h0,by rw[aK];exact h0⟩
theorem dZ {A:SV} (h:(AV.tup [A,.one l]).holds ρ B w v) (hl:∀B w x,l.holds ρ B w x→x= .int .i64 c):∃u,v= .tuple #[u,.int .i64 c]∧A.holds ρ B w u:=by
 obtain⟨vs,rfl,h1⟩:=h
 match vs,h1 with
 | [x,y],h1=>
  have e:=hl _ _ _ h1.2.1
  subst e
  exact⟨x,rfl,h1.1⟩
theorem wC {a b:Bool} (h:(SV.agg [l,r]).holds ρ B w v) (hl:∀B w x,l.holds ρ B w x→x= .bool a) (hr:∀B w x,r.holds ρ B w x→x= .bool b):v= .agg #[.bool a,.bool b]:=by
 obtain⟨vs,rfl,h1⟩:=h
 match vs,h1 with
 | [x,y],h1=>
  obtain rfl:=hl _ _ _ h1.1
  obtain rfl:=hr _ _ _ h1.2.1
  rfl
/-- These three unknowns (the first may be known) are the fraction x. -/
def FAt (ρ:Rho) (l:Leaf) (a b:Nat) (x:Fq):Prop:=(∀B w,l.holds ρ B w (.bool x.s))∧(∀B w v,l.holds ρ B w v→v= .bool x.s)∧ρ[a]? =some (.dig (nl x.p) x.p)∧ρ[b]? =some (.dig (nl x.q) x.q)
theorem cV {a b:Nat} (h1:∀B w,l.holds ρ B w (.bool x.s)) (h2:∀B w v,l.holds ρ B w v→v= .bool x.s) (h3:ρ[a]? =some (.dig (nl x.p) x.p)) (h4:ρ[b]? =some (.dig (nl x.q) x.q)):FAt ρ l a b x:=⟨h1,h2,h3,h4⟩
theorem FAt.isQ {a b:Nat} (h:FAt ρ l a b x) (hv:(SV.agg [l,.ref a,.ref b]).holds ρ B w v):IsQ w v x:=fw hv h.2.1 h.2.2.1 h.2.2.2 rfl rfl rfl
theorem FAt.into {a b:Nat} (h:FAt ρ l a b x) (hv:IsQ w v x):(SV.agg [l,.ref a,.ref b]).holds ρ B w v:=inF hv h.1 h.2.2.1 h.2.2.2
theorem bl2 {b c:Bool} (h:b=c):∀B w x,(Leaf.b c).holds ρ B w x→x= .bool b:=fun _ _ _ e=>by subst h;exact e
theorem i2N (hen:fv f) (hc:∀va vb w,IsN w va m→IsN w vb n→Calls Tryd.prog f #[va,vb] w (fun e w'=>sW w z e w')) (hi:ρ[i]? =some (.dig (nl m) m)) (hj:ρ[j]? =some (.dig (nl n) n)) (hk:ρ[k]? =some (.dig (nl z) z)):Inst.Ok Tryd.prog ρ ⟨f,[nt i,nt j],.v (nt k)⟩:=
 ⟨hen,fun B w vs hB h=>by
  match vs,h with
  | [va,vb],h=>
   refine(hc va vb w ((bC hi).1 h.1) ((bC hj).1 h.2.1)).mono ?_
   rintro e w' ⟨v,rfl,h1,h2⟩
   exact⟨v,rfl,(bC hk).2 h1,h2⟩⟩
theorem i1V {u:Value} (hen:fv f) (hc:∀va w,IsN w va m→Calls Tryd.prog f #[va] w (fun e w'=>bE w u e w')) (hi:ρ[i]? =some (.dig (nl m) m)) (hl:∀B w,l.holds ρ B w u):Inst.Ok Tryd.prog ρ ⟨f,[nt i],.v (.one l)⟩:=
 ⟨hen,fun B w vs hB h=>by
  match vs,h with
  | [va],h=>
   refine(hc va w ((bC hi).1 h.1)).mono ?_
   rintro e w' ⟨rfl,h2⟩
   exact⟨_,rfl,hl B w',h2⟩⟩
theorem i2V {u:Value} (hen:fv f) (hc:∀va vb w,IsN w va m→IsN w vb n→Calls Tryd.prog f #[va,vb] w (fun e w'=>bE w u e w')) (hi:ρ[i]? =some (.dig (nl m) m)) (hj:ρ[j]? =some (.dig (nl n) n)) (hl:∀B w,l.holds ρ B w u):Inst.Ok Tryd.prog ρ ⟨f,[nt i,nt j],.v (.one l)⟩:=
 ⟨hen,fun B w vs hB h=>by
  match vs,h with
  | [va,vb],h=>
   refine(hc va vb w ((bC hi).1 h.1) ((bC hj).1 h.2.1)).mono ?_
   rintro e w' ⟨rfl,h2⟩
   exact⟨_,rfl,hl B w',h2⟩⟩
theorem i1QQ {a b a' b':Nat} (hen:fv f) (hc:∀va w,IsQ w va x→Calls Tryd.prog f #[va] w (fun e w'=>iO w u e w')) (hx:FAt ρ l a b x) (hr:FAt ρ r a' b' u):Inst.Ok Tryd.prog ρ ⟨f,[.agg [l,.ref a,.ref b]],.v (.agg [r,.ref a',.ref b'])⟩:=
 ⟨hen,fun B w vs hB h=>by
  match vs,h with
  | [va],h=>
   refine(hc va w (hx.isQ h.1)).mono ?_
   rintro e w' ⟨v,rfl,h1,h2⟩
   exact⟨v,rfl,hr.into h1,h2⟩⟩
theorem i2QQ {a b a' b' c d:Nat} {l2:Leaf} (hen:fv f) (hc:∀va vb w,IsQ w va x→IsQ w vb y→Calls Tryd.prog f #[va,vb] w (fun e w'=>iO w u e w')) (hx:FAt ρ l a b x) (hy:FAt ρ l2 c d y) (hr:FAt ρ r a' b' u):Inst.Ok Tryd.prog ρ ⟨f,[.agg [l,.ref a,.ref b],.agg [l2,.ref c,.ref d]],.v (.agg [r,.ref a',.ref b'])⟩:=
 ⟨hen,fun B w vs hB h=>by
  match vs,h with
  | [va,vb],h=>
   refine(hc va vb w (hx.isQ h.1) (hy.isQ h.2.1)).mono ?_
   rintro e w' ⟨v,rfl,h1,h2⟩
   exact⟨v,rfl,hr.into h1,h2⟩⟩
theorem i1QV {a b:Nat} {u:Value} (hen:fv f) (hc:∀va w,IsQ w va x→Calls Tryd.prog f #[va] w (fun e w'=>bE w u e w')) (hx:FAt ρ l a b x) (hl:∀B w,r.holds ρ B w u):Inst.Ok Tryd.prog ρ ⟨f,[.agg [l,.ref a,.ref b]],.v (.one r)⟩:=
 ⟨hen,fun B w vs hB h=>by
  match vs,h with
  | [va],h=>
   refine(hc va w (hx.isQ h.1)).mono ?_
   rintro e w' ⟨rfl,h2⟩
   exact⟨_,rfl,hl B w',h2⟩⟩
theorem b9.toN {W w':World} {e:Ending} (h:b9 W n e w'):sW W n e w':=by obtain⟨v,h1,h2,h3⟩:=h;exact⟨v,h1,h2.isN,h3⟩
theorem lc.out {W w':World} {m n:Nat} {e:Ending} (h:lc W m n e w'):∃v,e= .returned (.tuple #[v,.bool (decide (n≤m))])∧IsN w' v (m - n)∧Below W.heap.size W w':=by obtain⟨v,h1,h2,h3⟩:=h;exact⟨v,h1,h2.isN,h3⟩
theorem fJ.out {W w':World} {q r:Nat} {c:Int} {e:Ending} (h:fJ W q r c e w'):∃a b,e= .returned (.tuple #[a,b,.int .i64 c])∧IsN w' a q∧IsN w' b r∧Below W.heap.size W w':=by obtain⟨a,b,h1,h2,h3,h4⟩:=h;exact⟨a,b,h1,h2.isN,h3.isN,h4⟩
theorem jw.out {W w':World} {N:Nat} {c:Int} {e:Ending} (h:jw W N c e w'):∃v,e= .returned (.tuple #[v,.int .i64 c])∧IsN w' v N∧Below W.heap.size W w':=by obtain⟨v,h1,h2,h3⟩:=h;exact⟨v,h1,h2.isN,h3⟩
theorem iSub (hen:fv f) (hc:∀va vb w,IsN w va m→IsN w vb n→Calls Tryd.prog f #[va,vb] w (fun e w'=>lc w m n e w')) (hi:ρ[i]? =some (.dig (nl m) m)) (hj:ρ[j]? =some (.dig (nl n) n)) (hk:ρ[k]? =some (.dig (nl (m - n)) (m - n))) (hb:decide (n≤m)=b):Inst.Ok Tryd.prog ρ ⟨f,[nt i,nt j],.tup [nt k,.one (.b b)]⟩:=
 ⟨hen,fun B w vs hB h=>by
  match vs,h with
  | [va,vb],h=>
   refine(hc va vb w ((bC hi).1 h.1) ((bC hj).1 h.2.1)).mono ?_
   intro e w' hr
   obtain⟨v,rfl,h1,h2⟩:=hr.out
   subst hb
   exact⟨_,rfl,⟨[v,.bool _],rfl,(bC hk).2 h1,rfl,trivial⟩,h2⟩⟩
theorem iDiv (hen:fv f) (hc:∀va vb w,IsN w va m→IsN w vb n→Calls Tryd.prog f #[va,vb] w (fun e w'=>fJ w (m / n) (m % n) 0 e w')) (hi:ρ[i]? =some (.dig (nl m) m)) (hj:ρ[j]? =some (.dig (nl n) n)) (hk:ρ[k]? =some (.dig (nl (m / n)) (m / n))) (hl:ρ[l']? =some (.dig (nl (m % n)) (m % n))):Inst.Ok Tryd.prog ρ ⟨f,[nt i,nt j],.tup [nt k,nt l',.one (.i .i64 0)]⟩:=
 ⟨hen,fun B w vs hB h=>by
  match vs,h with
  | [va,vb],h=>
   refine(hc va vb w ((bC hi).1 h.1) ((bC hj).1 h.2.1)).mono ?_
   intro e w' hr
   obtain⟨x,y,rfl,h1,h3,h2⟩:=hr.out
   exact⟨_,rfl,⟨[x,y,.int .i64 0],rfl,(bC hk).2 h1,(bC hl).2 h3,rfl,trivial⟩,h2⟩⟩
theorem iP {st:ByteArray} {N:Nat} (hen:fv f) (hc:∀w,Calls Tryd.prog f #[.string st] w (fun e w'=>jw w N c e w')) (hi:ρ[i]? =some (.val (.string st))) (hk:ρ[k]? =some (.dig (nl N) N)) (hl:∀B w,l.holds ρ B w (.int .i64 c)):Inst.Ok Tryd.prog ρ ⟨f,[.one (.ref i)],.tup [nt k,.one l]⟩:=
 ⟨hen,fun B w vs hB h=>by
  match vs,h with
  | [va],h=>
   obtain rfl:=aj hi h.1
   refine(hc w).mono ?_
   intro e w' hr
   obtain⟨x,rfl,h1,h2⟩:=hr.out
   exact⟨_,rfl,⟨[x,.int .i64 c],rfl,(bC hk).2 h1,hl B w',trivial⟩,h2⟩⟩
theorem iOf {N:Nat} (hen:fv f) (hc:∀w,Calls Tryd.prog f #[.int .u64 (N:Int)] w (fun e w'=>sW w N e w')) (hl:∀B w x,l.holds ρ B w x→x= .int .u64 (N:Int)) (hk:ρ[k]? =some (.dig (nl N) N)):Inst.Ok Tryd.prog ρ ⟨f,[.one l],.v (nt k)⟩:=
 ⟨hen,fun B w vs hB h=>by
  match vs,h with
  | [va],h=>
   obtain rfl:=hl _ _ _ h.1
   refine(hc w).mono ?_
   rintro e w' ⟨v,rfl,h1,h2⟩
   exact⟨v,rfl,(bC hk).2 h1,h2⟩⟩
theorem iVR {L N:Nat} (hen:fv f) (hc:∀va w,IsR w va L N→Calls Tryd.prog f #[va] w (fun e w'=>bE w (.bool (decide (nl N=L))) e w')) (hi:ρ[i]? =some (.dig L N)) (hb:decide (nl N=L)=b):Inst.Ok Tryd.prog ρ ⟨f,[nt i],.v (.one (.b b))⟩:=
 ⟨hen,fun B w vs hB h=>by
  match vs,h with
  | [va],h=>
   refine(hc va w ((um hi).1 h.1)).mono ?_
   rintro e w' ⟨rfl,h2⟩
   exact⟨_,rfl,by subst hb;rfl,h2⟩⟩
end
section
variable {ρ:Rho} {i j k l n m:Nat} {b:Bool} {r:Leaf} {c:Int} {st:ByteArray} {N L:Nat} {t:TypeId} {v:Int}
theorem ev (hi:ρ[i]? =some (.dig (nl m) m)) (hj:ρ[j]? =some (.dig (nl n) n)) (hk:ρ[k]? =some (.dig (nl (m*n)) (m*n))) (hm:nl m≤1000000000000) (hn:nl n≤1000000000000):Inst.Ok Tryd.prog ρ ⟨61,[nt i,nt j],.v (nt k)⟩:=
 i2N (ai Tryd.func61 rfl rfl) (fun va vb w h1 h2=>(mj va vb m n w h1 h2 hm hn).mono fun _ _ h=>h.toN) hi hj hk
theorem fV (hi:ρ[i]? =some (.dig (nl m) m)) (hj:ρ[j]? =some (.dig (nl n) n)) (hk:ρ[k]? =some (.dig (nl (Nat.gcd m n)) (Nat.gcd m n))) (hm:nl m≤1000000000000) (hn:nl n≤1000000000000):Inst.Ok Tryd.prog ρ ⟨54,[nt i,nt j],.v (nt k)⟩:=
 i2N (ai Tryd.func54 rfl rfl) (fun va vb w h1 h2=>(mm va vb m n w h1 h2 hm hn).mono fun _ _ h=>h.toN) hi hj hk
theorem fg (hi:ρ[i]? =some (.dig (nl m) m)) (hj:ρ[j]? =some (.dig (nl n) n)) (hk:ρ[k]? =some (.dig (nl (Nat.gcd m n)) (Nat.gcd m n))) (hm:nl m≤100000000000) (hn:nl n≤100000000000):Inst.Ok Tryd.prog ρ ⟨49,[nt i,nt j],.v (nt k)⟩:=
 i2N (ai Tryd.func49 rfl rfl) (fun va vb w h1 h2=>r6 va vb m n w h1 h2 hm hn) hi hj hk
theorem xY (hi:ρ[i]? =some (.dig (nl m) m)) (hj:ρ[j]? =some (.dig (nl n) n)) (hk:ρ[k]? =some (.dig (nl (m+n)) (m+n))) (hm:nl m≤1000000000000) (hn:nl n≤1000000000000):Inst.Ok Tryd.prog ρ ⟨63,[nt i,nt j],.v (nt k)⟩:=
 i2N (ai Tryd.func63 rfl rfl) (fun va vb w h1 h2=>(g9 va vb m n w h1 h2 hm hn).mono fun _ _ h=>h.toN) hi hj hk
theorem gV (hi:ρ[i]? =some (.dig (nl m) m)) (hk:ρ[k]? =some (.dig (nl m) m)) (hm:nl m≤1000000000000):Inst.Ok Tryd.prog ρ ⟨63,[nt i,.agg [.sl0]],.v (nt k)⟩:=
 ⟨ai Tryd.func63 rfl rfl,fun B w vs hB h=>by
  match vs,h with
  | [va,vb],h=>
   obtain⟨us,rfl,h3⟩:=h.2.1
   match us,h3 with
   | [x],h3=>
    have e:x= .slice none 0 0:=h3.1
    subst e
    have h0:IsN w (.agg #[.slice none 0 0]) 0:=⟨none,0,by rw[aK],by rw[aK];omega,by rw[aK];decide,fun h=>by rw[aK]at h;omega⟩
    refine(g9 va _ m 0 w ((bC hi).1 h.1) h0 hm (by rw[aK];decide)).mono ?_
    intro e w' hr
    obtain⟨v,rfl,h1,h2⟩:=hr.toN
    exact⟨v,rfl,(bC hk).2 h1,h2⟩⟩
theorem qv (hi:ρ[i]? =some (.dig (nl m) m)) (hj:ρ[j]? =some (.dig (nl n) n)) (hk:ρ[k]? =some (.dig (nl (m - n)) (m - n))) (hb:decide (n≤m)=b) (hm:nl m≤1000000000000) (hn:nl n≤1000000000000):Inst.Ok Tryd.prog ρ ⟨64,[nt i,nt j],.tup [nt k,.one (.b b)]⟩:=
 iSub (ai Tryd.func64 rfl rfl) (fun va vb w h1 h2=>mi va vb m n w h1 h2 hm hn) hi hj hk hb
theorem jL (hi:ρ[i]? =some (.dig (nl m) m)) (hj:ρ[j]? =some (.dig (nl n) n)) (hk:ρ[k]? =some (.dig (nl (m / n)) (m / n))) (hl:ρ[l]? =some (.dig (nl (m % n)) (m % n))) (hm:nl m≤1000000000000) (hn:nl n≤1000000000000) (h0:n≠0):Inst.Ok Tryd.prog ρ ⟨75,[nt i,nt j],.tup [nt k,nt l,.one (.i .i64 0)]⟩:=
 iDiv (ai Tryd.func75 rfl rfl) (fun va vb w h1 h2=>fk va vb m n w h1 h2 hm hn h0) hi hj hk hl
theorem uq (hi:ρ[i]? =some (.dig (nl m) m)) (hj:ρ[j]? =some (.dig (nl n) n)) (hl:∀B w,r.holds ρ B w (.int .i64 (cC m n))) (hm:nl m≤1000000000000) (hn:nl n≤1000000000000):Inst.Ok Tryd.prog ρ ⟨69,[nt i,nt j],.v (.one r)⟩:=
 i2V (ai Tryd.func69 rfl rfl) (fun va vb w h1 h2=>mh va vb m n w h1 h2 (by omega) (by omega)) hi hj hl
theorem iq (hi:ρ[i]? =some (.dig (nl m) m)) (hj:ρ[j]? =some (.dig (nl n) n)) (hl:∀B w,r.holds ρ B w (.int .i64 (cC m n))) (hm:nl m≤1000000000000) (hn:nl n≤1000000000000):Inst.Ok Tryd.prog ρ ⟨47,[nt i,nt j],.v (.one r)⟩:=
 i2V (ai Tryd.func47 rfl rfl) (fun va vb w h1 h2=>jA va vb m n w h1 h2 hm hn) hi hj hl
theorem bK (hi:ρ[i]? =some (.dig (nl m) m)) (hj:ρ[j]? =some (.dig (nl n) n)) (hb:decide (m=n)=b) (hm:nl m≤1000000000000) (hn:nl n≤1000000000000):Inst.Ok Tryd.prog ρ ⟨30,[nt i,nt j],.v (.one (.b b))⟩:=
 i2V (ai Tryd.func30 rfl rfl) (fun va vb w h1 h2=>pU va vb m n w h1 h2 hm hn) hi hj (lb hb)
theorem i9 (hk:ρ[k]? =some (.dig (nl N) N)) (hN:N<18446744073709551616):Inst.Ok Tryd.prog ρ ⟨32,[.one (.i .u64 (N:Int))],.v (nt k)⟩:=
 iOf (ai Tryd.func32 rfl rfl) (fun w=>(d8 N w hN).mono fun _ _ h=>h.toN) (fun _ _ _ h=>h) hk
theorem cX (hk:ρ[k]? =some (.dig (nl N) N)) (hN:N<18446744073709551616):Inst.Ok Tryd.prog ρ ⟨33,[.one (.i .u64 (N:Int))],.v (nt k)⟩:=
 iOf (ai Tryd.func33 rfl rfl) (fun w=>(ll N w hN).mono fun _ _ h=>h.toN) (fun _ _ _ h=>h) hk
theorem xZ (hi:ρ[i]? =some (.val (.int .u64 (N:Int)))) (hk:ρ[k]? =some (.dig (nl N) N)) (hN:N<18446744073709551616):Inst.Ok Tryd.prog ρ ⟨33,[.one (.ref i)],.v (nt k)⟩:=
 iOf (ai Tryd.func33 rfl rfl) (fun w=>(ll N w hN).mono fun _ _ h=>h.toN) (fun _ _ _ h=>aj hi h) hk
theorem jM (hi:ρ[i]? =some (.dig (nl m) m)) (hl:∀B w,r.holds ρ B w (.string (aM m))) (hm:nl m≤1000000000000):Inst.Ok Tryd.prog ρ ⟨50,[nt i],.v (.one r)⟩:=
 i1V (ai Tryd.func50 rfl rfl) (fun va w h1=>jy va m w h1 hm) hi hl
theorem jN (hi:ρ[i]? =some (.dig (nl m) m)) (hl:∀B w,r.holds ρ B w (.string (aM m))) (hm:nl m≤1000000000000):Inst.Ok Tryd.prog ρ ⟨56,[nt i],.v (.one r)⟩:=
 i1V (ai Tryd.func56 rfl rfl) (fun va w h1=>nL va m w h1 hm) hi hl
theorem cw (hi:ρ[i]? =some (.val (.string st))) (hk:ρ[k]? =some (.dig (nl N) N)) (hl:∀B w,r.holds ρ B w (.int .i64 c)) (h:ParseIs st N c):Inst.Ok Tryd.prog ρ ⟨44,[.one (.ref i)],.tup [nt k,.one r]⟩:=
 iP (ai Tryd.func44 rfl rfl) (fun w=>kA st w N c h) hi hk hl
theorem aT (hi:ρ[i]? =some (.val (.string st))) (hk:ρ[k]? =some (.dig (nl N) N)) (hl:∀B w,r.holds ρ B w (.int .i64 c)) (h:ParseIs st N c):Inst.Ok Tryd.prog ρ ⟨46,[.one (.ref i)],.tup [nt k,.one r]⟩:=
 iP (ai Tryd.func46 rfl rfl) (fun w=>oQ st w N c h) hi hk hl
theorem gW (hi:ρ[i]? =some (.dig L N)) (hb:decide (nl N=L)=b) (hL:L≤1000000000000):Inst.Ok Tryd.prog ρ ⟨51,[nt i],.v (.one (.b b))⟩:=
 iVR (ai Tryd.func51 rfl rfl) (fun va w h1=>(kz va L N w h1 (by omega)).mono fun e w' h=>⟨h.1.trans (by rw[decide_eq_decide.2 (eq_comm)]),h.2⟩) hi hb
theorem gX (hi:ρ[i]? =some (.dig L N)) (hb:decide (nl N=L)=b) (hL:L≤1000000000000):Inst.Ok Tryd.prog ρ ⟨55,[nt i],.v (.one (.b b))⟩:=
 iVR (ai Tryd.func55 rfl rfl) (fun va w h1=>oI va L N w h1 (by omega)) hi hb
theorem bI (hi:ρ[i]? =some (.dig (nl N) N)) (_h:(0:Nat)=0) (hL:nl N≤1000000000000):Inst.Ok Tryd.prog ρ ⟨51,[nt i],.v (.one (.b true))⟩:=gW hi (decide_eq_true rfl) hL
theorem cz (hi:ρ[i]? =some (.dig (nl N) N)) (_h:(0:Nat)=0) (hL:nl N≤1000000000000):Inst.Ok Tryd.prog ρ ⟨55,[nt i],.v (.one (.b true))⟩:=gX hi (decide_eq_true rfl) hL
theorem b6 (hi:ρ[i]? =some (.dig (nl m) m)) (hb:decide (m=0)=b) (hm:nl m≤1000000000000):Inst.Ok Tryd.prog ρ ⟨52,[nt i],.v (.one (.b b))⟩:=
 i1V (ai Tryd.func52 rfl rfl) (fun va w h1=>tJ va m w h1 hm) hi (lb hb)
theorem dw (hi:ρ[i]? =some (.dig (nl m) m)) (hb:decide (m=0)=b) (hm:nl m≤1000000000000):Inst.Ok Tryd.prog ρ ⟨48,[nt i],.v (.one (.b b))⟩:=
 i1V (ai Tryd.func48 rfl rfl) (fun va w h1=>xO va m w h1 hm) hi (lb hb)
theorem I_mag (hi:ρ[i]? =some (.val (.int .i64 v))) (hk:ρ[k]? =some (.dig (nl v.natAbs) v.natAbs)) (lv: -9223372036854775808≤v) (rv:v<9223372036854775808):Inst.Ok Tryd.prog ρ ⟨31,[.one (.ref i)],.v (nt k)⟩:=
 ⟨ai Tryd.func31 rfl rfl,fun B w vs hB h=>by
  match vs,h with
  | [va],h=>
   obtain rfl:=aj hi h.1
   refine(c_mag v w lv rv).mono ?_
   rintro e w' ⟨x,rfl,h1,h2⟩
   exact⟨x,rfl,(bC hk).2 h1,h2⟩⟩
theorem x9 (hi:ρ[i]? =some (.val (.int .i64 v))) (hk:ρ[k]? =some (.val (.int .u64 (v.natAbs:Int)))) (lv: -9223372036854775808≤v) (rv:v<9223372036854775808):Inst.Ok Tryd.prog ρ ⟨34,[.one (.ref i)],.v (.one (.ref k))⟩:=
 ⟨ai Tryd.func34 rfl rfl,fun B w vs hB h=>by
  match vs,h with
  | [va],h=>
   obtain rfl:=aj hi h.1
   refine(xV v w lv rv).mono ?_
   rintro e w' ⟨rfl,h2⟩
   exact⟨_,rfl,am hk (nT (by decide)),h2⟩⟩
theorem ur {ik:IntKind} {u:Int} (hn:ρ[n]? =some (.val (.int ik u))) (hl:∀B w,r.holds ρ B w (.bool (decide (u<c)))):(OIns.mk (.bin .lss t) [.one (.ref n),.one (.i ik c)] (.one r)).Ok Tryd.prog ρ:=fun B w vs hv=>by
 match vs,hv with
 | [v1,v2],hv=>
  have e:=aj (B:=B) hn hv.1
  have e2:v2= .int ik c:=hv.2.1
  subst e;subst e2
  exact⟨_,hl B w,fun xo yo=>by simp[eqGuard,binOp,Op.intCmp,Sem.run_bind,Result.andThen]⟩
theorem fW (a b c d:Bool):(OIns.mk (.bin .neq 76) [.agg [.b a,.b b],.agg [.b c,.b d]] (.one (.b (!(a==c && b==d))))).Ok Tryd.prog ρ:=fun B w vs hv=>by
 match vs,hv with
 | [v1,v2],hv=>
  obtain rfl:=wC hv.1 (bl _) (bl _)
  obtain rfl:=wC hv.2.1 (bl _) (bl _)
  exact⟨_,rfl,fun xo yo=>by rw[Sem.run_bind,qt];exact ui a b c d w⟩
end
theorem q_low (s:Bool) (va vb:Value) (m n:Nat) (w:World) (ha:IsN w va m) (hb:IsN w vb n) (hm:nl m≤10000000000) (hn:nl n≤10000000000) (h0:n≠0):
  Calls Tryd.prog 62 #[.bool s,va,vb] w fun e w'=>iO w (Fq.low s m n) e w':=by
 rcases Bool.eq_false_or_eq_true (s)with c0 | c0
 ·by_cases c1:(m / (Nat.gcd m n))=0
  ·refine(cRn (ρ:=[.dig (nl m) m,.dig (nl n) n,.dig (nl (Nat.gcd m n)) (Nat.gcd m n),.dig (nl (m / (Nat.gcd m n))) (m / (Nat.gcd m n)),.dig (nl (m % (Nat.gcd m n))) (m % (Nat.gcd m n)),.dig (nl (n / (Nat.gcd m n))) (n / (Nat.gcd m n)),.dig (nl (n % (Nat.gcd m n))) (n % (Nat.gcd m n))]) (args:=[.one (.b true),nt 0,nt 1]) (vs:=[.bool s,va,vb]) (r:=.v (.agg [.b false,.ref 3,.ref 5]))
    (ae (fV (i:=0) (j:=1) (k:=2) rfl rfl rfl (Nat.le_trans hm (by decide)) (Nat.le_trans hn (by decide))) (ae (jL (i:=0) (j:=2) (k:=3) (l:=4) rfl rfl rfl rfl (Nat.le_trans hm (by decide)) (Nat.le_trans (bu hm hn) (by decide)) (Nat.gcd_ne_zero_right h0)) (ae (jL (i:=1) (j:=2) (k:=5) (l:=6) rfl rfl rfl rfl (Nat.le_trans hn (by decide)) (Nat.le_trans (bu hm hn) (by decide)) (Nat.gcd_ne_zero_right h0)) (ae (b6 (i:=3) rfl (decide_eq_true c1) (Nat.le_trans (rm hm) (by decide))) ag))))
    ah Tryd.func62 (by kernel_rfl) ⟨congrArg Value.bool c0,⟨(bC rfl).2 ha,⟨(bC rfl).2 hb,trivial⟩⟩⟩).mono ?_
   rintro e w' ⟨v,rfl,h1,h2⟩
   exact⟨v,rfl,fw h1 (bl false) rfl rfl (by simp[Fq.low,gg,c0,(lowz h0).1 c1]) (rfl) (rfl),h2⟩
  ·refine(cRn (ρ:=[.dig (nl m) m,.dig (nl n) n,.dig (nl (Nat.gcd m n)) (Nat.gcd m n),.dig (nl (m / (Nat.gcd m n))) (m / (Nat.gcd m n)),.dig (nl (m % (Nat.gcd m n))) (m % (Nat.gcd m n)),.dig (nl (n / (Nat.gcd m n))) (n / (Nat.gcd m n)),.dig (nl (n % (Nat.gcd m n))) (n % (Nat.gcd m n))]) (args:=[.one (.b true),nt 0,nt 1]) (vs:=[.bool s,va,vb]) (r:=.v (.agg [.b true,.ref 3,.ref 5]))
    (ae (fV (i:=0) (j:=1) (k:=2) rfl rfl rfl (Nat.le_trans hm (by decide)) (Nat.le_trans hn (by decide))) (ae (jL (i:=0) (j:=2) (k:=3) (l:=4) rfl rfl rfl rfl (Nat.le_trans hm (by decide)) (Nat.le_trans (bu hm hn) (by decide)) (Nat.gcd_ne_zero_right h0)) (ae (jL (i:=1) (j:=2) (k:=5) (l:=6) rfl rfl rfl rfl (Nat.le_trans hn (by decide)) (Nat.le_trans (bu hm hn) (by decide)) (Nat.gcd_ne_zero_right h0)) (ae (b6 (i:=3) rfl (decide_eq_false c1) (Nat.le_trans (rm hm) (by decide))) ag))))
    ah Tryd.func62 (by kernel_rfl) ⟨congrArg Value.bool c0,⟨(bC rfl).2 ha,⟨(bC rfl).2 hb,trivial⟩⟩⟩).mono ?_
   rintro e w' ⟨v,rfl,h1,h2⟩
   exact⟨v,rfl,fw h1 (bl true) rfl rfl (by simp[Fq.low,gg,c0,mt (lowz h0).2 c1]) (rfl) (rfl),h2⟩
 ·refine(cRn (ρ:=[.dig (nl m) m,.dig (nl n) n,.dig (nl (Nat.gcd m n)) (Nat.gcd m n),.dig (nl (m / (Nat.gcd m n))) (m / (Nat.gcd m n)),.dig (nl (m % (Nat.gcd m n))) (m % (Nat.gcd m n)),.dig (nl (n / (Nat.gcd m n))) (n / (Nat.gcd m n)),.dig (nl (n % (Nat.gcd m n))) (n % (Nat.gcd m n))]) (args:=[.one (.b false),nt 0,nt 1]) (vs:=[.bool s,va,vb]) (r:=.v (.agg [.b false,.ref 3,.ref 5]))
   (ae (fV (i:=0) (j:=1) (k:=2) rfl rfl rfl (Nat.le_trans hm (by decide)) (Nat.le_trans hn (by decide))) (ae (jL (i:=0) (j:=2) (k:=3) (l:=4) rfl rfl rfl rfl (Nat.le_trans hm (by decide)) (Nat.le_trans (bu hm hn) (by decide)) (Nat.gcd_ne_zero_right h0)) (ae (jL (i:=1) (j:=2) (k:=5) (l:=6) rfl rfl rfl rfl (Nat.le_trans hn (by decide)) (Nat.le_trans (bu hm hn) (by decide)) (Nat.gcd_ne_zero_right h0)) ag)))
   ah Tryd.func62 (by kernel_rfl) ⟨congrArg Value.bool c0,⟨(bC rfl).2 ha,⟨(bC rfl).2 hb,trivial⟩⟩⟩).mono ?_
  rintro e w' ⟨v,rfl,h1,h2⟩
  exact⟨v,rfl,fw h1 (bl false) rfl rfl (by simp[Fq.low,gg,c0]) (rfl) (rfl),h2⟩
theorem ro {ρ:Rho} {S:Bool} {l:Leaf} {i j x y z m n:Nat} (hl:∀B w v,l.holds ρ B w v→v= .bool S) (hi:ρ[i]? =some (.dig (nl m) m)) (hj:ρ[j]? =some (.dig (nl n) n)) (hx:ρ[x]? =some (.val (.bool (Fq.low S m n).s))) (hy:ρ[y]? =some (.dig (nl (Fq.low S m n).p) (Fq.low S m n).p)) (hz:ρ[z]? =some (.dig (nl (Fq.low S m n).q) (Fq.low S m n).q)) (hm:nl m≤10000000000) (hn:nl n≤10000000000) (h0:n≠0):Inst.Ok Tryd.prog ρ ⟨62,[.one l,nt i,nt j],.v (.agg [.ref x,.ref y,.ref z])⟩:=
 ⟨ai Tryd.func62 rfl rfl,fun B w vs hB h=>by
  match vs,h with
  | [v1,v2,v3],h=>
   obtain rfl:=hl _ _ _ h.1
   refine(q_low S v2 v3 m n w ((bC hi).1 h.2.1) ((bC hj).1 h.2.2.1) hm hn h0).mono ?_
   rintro e w' ⟨v,rfl,h1,h2⟩
   exact⟨v,rfl,inF h1 (lrb hx) hy hz,h2⟩⟩
theorem yc (va:Value) (x:Fq) (w:World) (ha:IsQ w va x) (h:x.ok 1000000000):
  Calls Tryd.prog 76 #[va] w fun e w'=>iO w x.neg e w':=by
 rcases Bool.eq_false_or_eq_true (x.s)with c0 | c0
 ·refine(cRn (ρ:=[.dig (nl x.p) x.p,.dig (nl x.q) x.q]) (args:=[.agg [.b true,.ref 0,.ref 1]]) (vs:=[va]) (r:=.v (.agg [.b false,.ref 0,.ref 1]))
   (ae (gV (i:=0) (k:=0) rfl rfl (Nat.le_trans h.p (by decide))) (ae (gV (i:=1) (k:=1) rfl rfl (Nat.le_trans h.q (by decide))) ag))
   ah Tryd.func76 (by kernel_rfl) ⟨(inF ha (lb c0) rfl rfl),trivial⟩).mono ?_
  rintro e w' ⟨v,rfl,h1,h2⟩
  exact⟨v,rfl,fw h1 (bl false) rfl rfl (by simp[Fq.low,gg,iN,kB,Fq.add,Fq.mul,Fq.div,Fq.neg,Fq.zero,Fq.sgn,gh,fo,c0]) (rfl) (rfl),h2⟩
 ·by_cases c1:x.p=0
  ·refine(cRn (ρ:=[.dig (nl x.p) x.p,.dig (nl x.q) x.q]) (args:=[.agg [.b false,.ref 0,.ref 1]]) (vs:=[va]) (r:=.v (.agg [.b false,.ref 0,.ref 1]))
    (ae (b6 (i:=0) rfl (decide_eq_true c1) (Nat.le_trans h.p (by decide))) (ae (gV (i:=0) (k:=0) rfl rfl (Nat.le_trans h.p (by decide))) (ae (gV (i:=1) (k:=1) rfl rfl (Nat.le_trans h.q (by decide))) ag)))
    ah Tryd.func76 (by kernel_rfl) ⟨(inF ha (lb c0) rfl rfl),trivial⟩).mono ?_
   rintro e w' ⟨v,rfl,h1,h2⟩
   exact⟨v,rfl,fw h1 (bl false) rfl rfl (by simp[Fq.low,gg,iN,kB,Fq.add,Fq.mul,Fq.div,Fq.neg,Fq.zero,Fq.sgn,gh,fo,c0,c1]) (rfl) (rfl),h2⟩
  ·refine(cRn (ρ:=[.dig (nl x.p) x.p,.dig (nl x.q) x.q]) (args:=[.agg [.b false,.ref 0,.ref 1]]) (vs:=[va]) (r:=.v (.agg [.b true,.ref 0,.ref 1]))
    (ae (b6 (i:=0) rfl (decide_eq_false c1) (Nat.le_trans h.p (by decide))) (ae (gV (i:=0) (k:=0) rfl rfl (Nat.le_trans h.p (by decide))) (ae (gV (i:=1) (k:=1) rfl rfl (Nat.le_trans h.q (by decide))) ag)))
    ah Tryd.func76 (by kernel_rfl) ⟨(inF ha (lb c0) rfl rfl),trivial⟩).mono ?_
   rintro e w' ⟨v,rfl,h1,h2⟩
   exact⟨v,rfl,fw h1 (bl true) rfl rfl (by simp[Fq.low,gg,iN,kB,Fq.add,Fq.mul,Fq.div,Fq.neg,Fq.zero,Fq.sgn,gh,fo,c0,c1]) (rfl) (rfl),h2⟩
theorem yd {ρ:Rho} {x:Fq} {a b a' b':Nat} {l l':Leaf} (hx:FAt ρ l a b x) (hr:FAt ρ l' a' b' x.neg) (h:x.ok 1000000000):Inst.Ok Tryd.prog ρ ⟨76,[.agg [l,.ref a,.ref b]],.v (.agg [l',.ref a',.ref b'])⟩:=
 i1QQ (ai Tryd.func76 rfl rfl) (fun va w ha=>yc va x w ha h) hx hr
theorem ye (va vb:Value) (x y:Fq) (w:World) (ha:IsQ w va x) (hb:IsQ w vb y) (h:x.ok 1000000000) (k:y.ok 1000000000):
  Calls Tryd.prog 59 #[va,vb] w fun e w'=>iO w (x.mul y) e w':=by
 refine(cRn (ρ:=[.val (.bool x.s),.dig (nl x.p) x.p,.dig (nl x.q) x.q,.val (.bool y.s),.dig (nl y.p) y.p,.dig (nl y.q) y.q,.val (.bool (x.s !=y.s)),.dig (nl (x.p*y.p)) (x.p*y.p),.dig (nl (x.q*y.q)) (x.q*y.q),.val (.bool (Fq.low (x.s !=y.s) (x.p*y.p) (x.q*y.q)).s),.dig (nl (Fq.low (x.s !=y.s) (x.p*y.p) (x.q*y.q)).p) (Fq.low (x.s !=y.s) (x.p*y.p) (x.q*y.q)).p,.dig (nl (Fq.low (x.s !=y.s) (x.p*y.p) (x.q*y.q)).q) (Fq.low (x.s !=y.s) (x.p*y.p) (x.q*y.q)).q]) (args:=[q3 0 1 2,q3 3 4 5]) (vs:=[va,vb]) (r:=.v (q3 9 10 11))
  (ae (ev (i:=1) (j:=4) (k:=7) rfl rfl rfl (Nat.le_trans h.p (by decide)) (Nat.le_trans k.p (by decide))) (ae (ev (i:=2) (j:=5) (k:=8) rfl rfl rfl (Nat.le_trans h.q (by decide)) (Nat.le_trans k.q (by decide))) (ae (ro (i:=7) (j:=8) (x:=9) (y:=10) (z:=11) (br (n:=6) rfl) rfl rfl rfl rfl rfl (Nat.le_trans (bi h.p k.p) (by decide)) (Nat.le_trans (bi h.q k.q) (by decide)) (Nat.mul_ne_zero h.n k.n)) ag)))
  (ac (o_bne (t:=4) (by kernel_rfl) (br (n:=0) rfl) (br (n:=3) rfl) (lrb (n:=6) rfl)) (ah)) Tryd.func59 (by kernel_rfl) ⟨(inF ha (lrb (n:=0) rfl) rfl rfl),⟨(inF hb (lrb (n:=3) rfl) rfl rfl),trivial⟩⟩).mono ?_
 rintro e w' ⟨v,rfl,h1,h2⟩
 exact⟨v,rfl,fw h1 (br (n:=9) rfl) rfl rfl (by simp[Fq.low,gg,iN,kB,Fq.add,Fq.mul,Fq.div,Fq.neg,Fq.zero,Fq.sgn,gh,fo]) (by simp[Fq.low,gg,iN,kB,Fq.add,Fq.mul,Fq.div,Fq.neg,Fq.zero,Fq.sgn,gh,fo]) (by simp[Fq.low,gg,iN,kB,Fq.add,Fq.mul,Fq.div,Fq.neg,Fq.zero,Fq.sgn,gh,fo]),h2⟩
theorem ut (va vb:Value) (x y:Fq) (w:World) (ha:IsQ w va x) (hb:IsQ w vb y) (h:x.ok 1000000000) (k:y.ok 1000000000):
  Calls Tryd.prog 37 #[va,vb] w fun e w'=>iO w (x.add y) e w':=by
 by_cases c0:x.s=y.s
 ·refine(cRn (ρ:=[.val (.bool x.s),.dig (nl x.p) x.p,.dig (nl x.q) x.q,.val (.bool y.s),.dig (nl y.p) y.p,.dig (nl y.q) y.q,.dig (nl (x.p*y.q)) (x.p*y.q),.dig (nl (y.p*x.q)) (y.p*x.q),.dig (nl (x.q*y.q)) (x.q*y.q),.dig (nl ((x.p*y.q)+(y.p*x.q))) ((x.p*y.q)+(y.p*x.q)),.val (.bool (Fq.low x.s ((x.p*y.q)+(y.p*x.q)) (x.q*y.q)).s),.dig (nl (Fq.low x.s ((x.p*y.q)+(y.p*x.q)) (x.q*y.q)).p) (Fq.low x.s ((x.p*y.q)+(y.p*x.q)) (x.q*y.q)).p,.dig (nl (Fq.low x.s ((x.p*y.q)+(y.p*x.q)) (x.q*y.q)).q) (Fq.low x.s ((x.p*y.q)+(y.p*x.q)) (x.q*y.q)).q]) (args:=[q3 0 1 2,q3 3 4 5]) (vs:=[va,vb]) (r:=.v (q3 10 11 12))
   (ae (ev (i:=1) (j:=5) (k:=6) rfl rfl rfl (Nat.le_trans h.p (by decide)) (Nat.le_trans k.q (by decide))) (ae (ev (i:=4) (j:=2) (k:=7) rfl rfl rfl (Nat.le_trans k.p (by decide)) (Nat.le_trans h.q (by decide))) (ae (ev (i:=2) (j:=5) (k:=8) rfl rfl rfl (Nat.le_trans h.q (by decide)) (Nat.le_trans k.q (by decide))) (ae (xY (i:=6) (j:=7) (k:=9) rfl rfl rfl (Nat.le_trans (bi h.p k.q) (by decide)) (Nat.le_trans (bi k.p h.q) (by decide))) (ae (ro (i:=9) (j:=8) (x:=10) (y:=11) (z:=12) (br (n:=0) rfl) rfl rfl rfl rfl rfl (Nat.le_trans (wB (bi h.p k.q) (bi k.p h.q)) (by decide)) (Nat.le_trans (bi h.q k.q) (by decide)) (Nat.mul_ne_zero h.n k.n)) ag)))))
   (ac (lQ (t:=4) (by kernel_rfl) (br (n:=0) rfl) (br (n:=3) rfl) (lb (rn c0))) (ah)) Tryd.func37 (by kernel_rfl) ⟨(inF ha (lrb (n:=0) rfl) rfl rfl),⟨(inF hb (lrb (n:=3) rfl) rfl rfl),trivial⟩⟩).mono ?_
  rintro e w' ⟨v,rfl,h1,h2⟩
  exact⟨v,rfl,fw h1 (br (n:=10) rfl) rfl rfl (by simp only[Fq.add,Fq.low,gh,fo,if_pos c0]) (by simp only[Fq.add,Fq.low,gh,fo,if_pos c0]) (by simp only[Fq.add,Fq.low,gh,fo,if_pos c0]),h2⟩
 ·by_cases c1:(x.p*y.q)<(y.p*x.q)
  ·by_cases c2:(y.p*x.q)<(x.p*y.q)
   ·exact absurd c2 (Nat.lt_asymm c1)
   ·refine(cRn (ρ:=[.val (.bool x.s),.dig (nl x.p) x.p,.dig (nl x.q) x.q,.val (.bool y.s),.dig (nl y.p) y.p,.dig (nl y.q) y.q,.dig (nl (x.p*y.q)) (x.p*y.q),.dig (nl (y.p*x.q)) (y.p*x.q),.dig (nl (x.q*y.q)) (x.q*y.q),.dig (nl ((x.p*y.q) - (y.p*x.q))) ((x.p*y.q) - (y.p*x.q)),.dig (nl ((y.p*x.q) - (x.p*y.q))) ((y.p*x.q) - (x.p*y.q)),.val (.bool (Fq.low y.s ((y.p*x.q) - (x.p*y.q)) (x.q*y.q)).s),.dig (nl (Fq.low y.s ((y.p*x.q) - (x.p*y.q)) (x.q*y.q)).p) (Fq.low y.s ((y.p*x.q) - (x.p*y.q)) (x.q*y.q)).p,.dig (nl (Fq.low y.s ((y.p*x.q) - (x.p*y.q)) (x.q*y.q)).q) (Fq.low y.s ((y.p*x.q) - (x.p*y.q)) (x.q*y.q)).q]) (args:=[q3 0 1 2,q3 3 4 5]) (vs:=[va,vb]) (r:=.v (q3 11 12 13))
     (ae (ev (i:=1) (j:=5) (k:=6) rfl rfl rfl (Nat.le_trans h.p (by decide)) (Nat.le_trans k.q (by decide))) (ae (ev (i:=4) (j:=2) (k:=7) rfl rfl rfl (Nat.le_trans k.p (by decide)) (Nat.le_trans h.q (by decide))) (ae (ev (i:=2) (j:=5) (k:=8) rfl rfl rfl (Nat.le_trans h.q (by decide)) (Nat.le_trans k.q (by decide))) (ae (qv (i:=6) (j:=7) (k:=9) rfl rfl rfl (le_f c1) (Nat.le_trans (bi h.p k.q) (by decide)) (Nat.le_trans (bi k.p h.q) (by decide))) (ae (qv (i:=7) (j:=6) (k:=10) rfl rfl rfl (le_t c2) (Nat.le_trans (bi k.p h.q) (by decide)) (Nat.le_trans (bi h.p k.q) (by decide))) (ae (ro (i:=10) (j:=8) (x:=11) (y:=12) (z:=13) (br (n:=3) rfl) rfl rfl rfl rfl rfl (Nat.le_trans (rl (bi k.p h.q)) (by decide)) (Nat.le_trans (bi h.q k.q) (by decide)) (Nat.mul_ne_zero h.n k.n)) ag))))))
     (ac (lQ (t:=4) (by kernel_rfl) (br (n:=0) rfl) (br (n:=3) rfl) (lb (uj c0))) (ah)) Tryd.func37 (by kernel_rfl) ⟨(inF ha (lrb (n:=0) rfl) rfl rfl),⟨(inF hb (lrb (n:=3) rfl) rfl rfl),trivial⟩⟩).mono ?_
    rintro e w' ⟨v,rfl,h1,h2⟩
    exact⟨v,rfl,fw h1 (br (n:=11) rfl) rfl rfl (by simp only[Fq.add,Fq.low,gh,fo,if_neg c0,if_neg (Nat.not_le.2 c1)]) (by simp only[Fq.add,Fq.low,gh,fo,if_neg c0,if_neg (Nat.not_le.2 c1)]) (by simp only[Fq.add,Fq.low,gh,fo,if_neg c0,if_neg (Nat.not_le.2 c1)]),h2⟩
  ·refine(cRn (ρ:=[.val (.bool x.s),.dig (nl x.p) x.p,.dig (nl x.q) x.q,.val (.bool y.s),.dig (nl y.p) y.p,.dig (nl y.q) y.q,.dig (nl (x.p*y.q)) (x.p*y.q),.dig (nl (y.p*x.q)) (y.p*x.q),.dig (nl (x.q*y.q)) (x.q*y.q),.dig (nl ((x.p*y.q) - (y.p*x.q))) ((x.p*y.q) - (y.p*x.q)),.val (.bool (Fq.low x.s ((x.p*y.q) - (y.p*x.q)) (x.q*y.q)).s),.dig (nl (Fq.low x.s ((x.p*y.q) - (y.p*x.q)) (x.q*y.q)).p) (Fq.low x.s ((x.p*y.q) - (y.p*x.q)) (x.q*y.q)).p,.dig (nl (Fq.low x.s ((x.p*y.q) - (y.p*x.q)) (x.q*y.q)).q) (Fq.low x.s ((x.p*y.q) - (y.p*x.q)) (x.q*y.q)).q]) (args:=[q3 0 1 2,q3 3 4 5]) (vs:=[va,vb]) (r:=.v (q3 10 11 12))
    (ae (ev (i:=1) (j:=5) (k:=6) rfl rfl rfl (Nat.le_trans h.p (by decide)) (Nat.le_trans k.q (by decide))) (ae (ev (i:=4) (j:=2) (k:=7) rfl rfl rfl (Nat.le_trans k.p (by decide)) (Nat.le_trans h.q (by decide))) (ae (ev (i:=2) (j:=5) (k:=8) rfl rfl rfl (Nat.le_trans h.q (by decide)) (Nat.le_trans k.q (by decide))) (ae (qv (i:=6) (j:=7) (k:=9) rfl rfl rfl (le_t c1) (Nat.le_trans (bi h.p k.q) (by decide)) (Nat.le_trans (bi k.p h.q) (by decide))) (ae (ro (i:=9) (j:=8) (x:=10) (y:=11) (z:=12) (br (n:=0) rfl) rfl rfl rfl rfl rfl (Nat.le_trans (rl (bi h.p k.q)) (by decide)) (Nat.le_trans (bi h.q k.q) (by decide)) (Nat.mul_ne_zero h.n k.n)) ag)))))
    (ac (lQ (t:=4) (by kernel_rfl) (br (n:=0) rfl) (br (n:=3) rfl) (lb (uj c0))) (ah)) Tryd.func37 (by kernel_rfl) ⟨(inF ha (lrb (n:=0) rfl) rfl rfl),⟨(inF hb (lrb (n:=3) rfl) rfl rfl),trivial⟩⟩).mono ?_
   rintro e w' ⟨v,rfl,h1,h2⟩
   exact⟨v,rfl,fw h1 (br (n:=10) rfl) rfl rfl (by simp only[Fq.add,Fq.low,gh,fo,if_neg c0,if_pos (Nat.le_of_not_lt c1)]) (by simp only[Fq.add,Fq.low,gh,fo,if_neg c0,if_pos (Nat.le_of_not_lt c1)]) (by simp only[Fq.add,Fq.low,gh,fo,if_neg c0,if_pos (Nat.le_of_not_lt c1)]),h2⟩
theorem yf {ρ:Rho} {x y:Fq} {a b c d a' b':Nat} {l m l':Leaf} (hx:FAt ρ l a b x) (hy:FAt ρ m c d y) (hr:FAt ρ l' a' b' (x.add y)) (h:x.ok 1000000000) (k:y.ok 1000000000):Inst.Ok Tryd.prog ρ ⟨37,[.agg [l,.ref a,.ref b],.agg [m,.ref c,.ref d]],.v (.agg [l',.ref a',.ref b'])⟩:=
 i2QQ (ai Tryd.func37 rfl rfl) (fun va vb w ha hb=>ut va vb x y w ha hb h k) hx hy hr
theorem yg (va vb:Value) (x y:Fq) (w:World) (ha:IsQ w va x) (hb:IsQ w vb y) (h:x.ok 1000000000) (k:y.ok 1000000000):
  Calls Tryd.prog 60 #[va,vb] w fun e w'=>iO w (x.sub y) e w':=by
 refine(cRn (ρ:=[.val (.bool x.s),.dig (nl x.p) x.p,.dig (nl x.q) x.q,.val (.bool y.s),.dig (nl y.p) y.p,.dig (nl y.q) y.q,.val (.bool y.neg.s),.dig (nl y.neg.p) y.neg.p,.dig (nl y.neg.q) y.neg.q,.val (.bool (x.add y.neg).s),.dig (nl (x.add y.neg).p) (x.add y.neg).p,.dig (nl (x.add y.neg).q) (x.add y.neg).q]) (args:=[q3 0 1 2,q3 3 4 5]) (vs:=[va,vb]) (r:=.v (q3 9 10 11))
  (ae (yd (cV (l:=.ref 3) (a:=4) (b:=5) (x:=y) (lrb (n:=3) rfl) (br (n:=3) rfl) rfl rfl) (cV (l:=.ref 6) (a:=7) (b:=8) (x:=y.neg) (lrb (n:=6) rfl) (br (n:=6) rfl) rfl rfl) k) (ae (yf (cV (l:=.ref 0) (a:=1) (b:=2) (x:=x) (lrb (n:=0) rfl) (br (n:=0) rfl) rfl rfl) (cV (l:=.ref 6) (a:=7) (b:=8) (x:=y.neg) (lrb (n:=6) rfl) (br (n:=6) rfl) rfl rfl) (cV (l:=.ref 9) (a:=10) (b:=11) (x:=(x.add y.neg)) (lrb (n:=9) rfl) (br (n:=9) rfl) rfl rfl) h k.neg) ag))
  ah Tryd.func60 (by kernel_rfl) ⟨(inF ha (lrb (n:=0) rfl) rfl rfl),⟨(inF hb (lrb (n:=3) rfl) rfl rfl),trivial⟩⟩).mono ?_
 rintro e w' ⟨v,rfl,h1,h2⟩
 exact⟨v,rfl,fw h1 (br (n:=9) rfl) rfl rfl (rfl) (rfl) (rfl),h2⟩
theorem yh (va:Value) (x:Fq) (w:World) (ha:IsQ w va x) (hp:nl x.p≤1000000000000) (v:Bool) (hv:decide (x.p=0)=v):
  Calls Tryd.prog 53 #[va] w fun e w'=>bE w (.agg #[.bool x.s,.bool v]) e w':=by
 by_cases c0:x.p=0
 ·refine(cRn (ρ:=[.val (.bool x.s),.dig (nl x.p) x.p,.dig (nl x.q) x.q]) (args:=[q3 0 1 2]) (vs:=[va]) (r:=.v (.agg [.ref 0,.b true]))
   (ae (b6 (i:=1) rfl (decide_eq_true c0) hp) ag)
   ah Tryd.func53 (by kernel_rfl) ⟨(inF ha (lrb (n:=0) rfl) rfl rfl),trivial⟩).mono ?_
  rintro e w' ⟨v',rfl,h1,h2⟩
  have h1:=wC h1 (br (n:=0) rfl) (bl true)
  subst h1
  exact⟨by rw[←hv];simp[c0],h2⟩
 ·refine(cRn (ρ:=[.val (.bool x.s),.dig (nl x.p) x.p,.dig (nl x.q) x.q]) (args:=[q3 0 1 2]) (vs:=[va]) (r:=.v (.agg [.ref 0,.b false]))
   (ae (b6 (i:=1) rfl (decide_eq_false c0) hp) ag)
   ah Tryd.func53 (by kernel_rfl) ⟨(inF ha (lrb (n:=0) rfl) rfl rfl),trivial⟩).mono ?_
  rintro e w' ⟨v',rfl,h1,h2⟩
  have h1:=wC h1 (br (n:=0) rfl) (bl false)
  subst h1
  exact⟨by rw[←hv];simp[c0],h2⟩
theorem iu {ρ:Rho} {x:Fq} {a b:Nat} {l r:Leaf} {v:Bool} (hx:FAt ρ l a b x) (hr:∀B w,r.holds ρ B w (.bool x.s)) (hv:decide (x.p=0)=v) (hp:nl x.p≤1000000000000):Inst.Ok Tryd.prog ρ ⟨53,[.agg [l,.ref a,.ref b]],.v (.agg [r,.b v])⟩:=
 ⟨ai Tryd.func53 rfl rfl,fun B w vs hB h=>by
  match vs,h with
  | [va],h=>
   refine(yh va x w (hx.isQ h.1) hp v hv).mono ?_
   rintro e w' ⟨rfl,h2⟩
   exact⟨_,rfl,⟨[.bool x.s,.bool v],rfl,hr B w',rfl,trivial⟩,h2⟩⟩
theorem uu (v:Int) (w:World) (lv: -9223372036854775808≤v) (rv:v<9223372036854775808):
  Calls Tryd.prog 17 #[.int .i64 v] w fun e w'=>iO w (Fq.ofInt v) e w':=by
 refine(cRn (ρ:=[.val (.int .i64 v),.val (.bool (decide (v<0))),.dig (nl v.natAbs) v.natAbs,.dig (nl 1) 1]) (args:=[.one (.ref 0)]) (vs:=[.int .i64 v]) (r:=.v (q3 1 2 3))
  (ae (I_mag (i:=0) (k:=2) rfl rfl lv rv) (ae (i9 (k:=3) rfl (by decide)) ag))
  (ac (ur (n:=0) (c:=0) (t:=2) rfl (lrb (n:=1) rfl)) (ah)) Tryd.func17 (by kernel_rfl) ⟨am (n:=0) rfl aV,trivial⟩).mono ?_
 rintro e w' ⟨v,rfl,h1,h2⟩
 exact⟨v,rfl,fw h1 (br (n:=1) rfl) rfl rfl (by simp[Fq.ofInt]) (rfl) (rfl),h2⟩
theorem uv (v:Int) (w:World) (lv: -9223372036854775808≤v) (rv:v<9223372036854775808):
  Calls Tryd.prog 18 #[.int .i64 v] w fun e w'=>iO w (Fq.ofInt v) e w':=by
 refine(cRn (ρ:=[.val (.int .i64 v),.val (.bool (decide (v<0))),.val (.int .u64 (v.natAbs:Int)),.dig (nl v.natAbs) v.natAbs,.dig (nl 1) 1]) (args:=[.one (.ref 0)]) (vs:=[.int .i64 v]) (r:=.v (q3 1 3 4))
  (ae (x9 (i:=0) (k:=2) rfl rfl lv rv) (ae (xZ (i:=2) (k:=3) rfl rfl (xX lv rv)) (ae (cX (k:=4) rfl (by decide)) ag)))
  (ac (ur (n:=0) (c:=0) (t:=2) rfl (lrb (n:=1) rfl)) (ah)) Tryd.func18 (by kernel_rfl) ⟨am (n:=0) rfl aV,trivial⟩).mono ?_
 rintro e w' ⟨v,rfl,h1,h2⟩
 exact⟨v,rfl,fw h1 (br (n:=1) rfl) rfl rfl (by simp[Fq.ofInt]) (rfl) (rfl),h2⟩
theorem q_one (va:Value) (m:Nat) (w:World) (h:(Vp.row 24 1 [.dig (nl m) m]).p w va) (hm:nl m≤1000000000000):
  Calls Tryd.prog 45 #[va] w fun e w'=>bE w (.bool (decide (m=1))) e w':=by
 by_cases c0:m=1
 ·refine(cRn (ρ:=[.row 24 1 [.dig (nl m) m],.plc 24 [.dig (nl m) m],.dig (nl m) m,.dig (nl 1) 1,.val (.int .i64 (cC m 1))]) (args:=[.one (.ref 0)]) (vs:=[va]) (r:=.v (.one (.b true)))
   (ae (i9 (k:=3) rfl (by decide)) (ae (uq (i:=2) (j:=3) rfl rfl (lr (n:=4) rfl) hm (Nat.le_trans bk (by decide))) ag))
   (ac (ue (n:=0) (t:=85) ⟨_,Tryd.underlying85⟩ rfl (li rfl)) (ac (uf (k:=0) (l:=.i .i64 0) (sz:=1) (qs':=[.dig (nl m) m]) (n:=0) (m:=1) Tryd.underlying85 (by kernel_rfl) rfl rfl (fun _ _ _ h=>h) (by decide) (by simp) (fun j q hq=>by match j,hq with | 0,hq=>simp at hq;subst hq;rfl | j+1,hq=>simp at hq)) (ac (xh (n:=1) (ls:=[.ref 2]) (t:=24) (by kernel_rfl) (by kernel_rfl) rfl ⟨lq rfl,trivial⟩) (ac (ba (n:=4) (c:=0) (t:=3) rfl (ul c0)) (ah))))) Tryd.func45 (by kernel_rfl) ⟨⟨_,rfl,h,fun _ _ hx=>nM hx⟩,trivial⟩).mono ?_
  rintro e w' ⟨v,rfl,h1,h2⟩
  have h1:=h1
  have h1:v=_:=h1;subst h1
  exact⟨by simp[Bool.decide_eq_true,c0],h2⟩
 ·refine(cRn (ρ:=[.row 24 1 [.dig (nl m) m],.plc 24 [.dig (nl m) m],.dig (nl m) m,.dig (nl 1) 1,.val (.int .i64 (cC m 1))]) (args:=[.one (.ref 0)]) (vs:=[va]) (r:=.v (.one (.b false)))
   (ae (i9 (k:=3) rfl (by decide)) (ae (uq (i:=2) (j:=3) rfl rfl (lr (n:=4) rfl) hm (Nat.le_trans bk (by decide))) ag))
   (ac (ue (n:=0) (t:=85) ⟨_,Tryd.underlying85⟩ rfl (li rfl)) (ac (uf (k:=0) (l:=.i .i64 0) (sz:=1) (qs':=[.dig (nl m) m]) (n:=0) (m:=1) Tryd.underlying85 (by kernel_rfl) rfl rfl (fun _ _ _ h=>h) (by decide) (by simp) (fun j q hq=>by match j,hq with | 0,hq=>simp at hq;subst hq;rfl | j+1,hq=>simp at hq)) (ac (xh (n:=1) (ls:=[.ref 2]) (t:=24) (by kernel_rfl) (by kernel_rfl) rfl ⟨lq rfl,trivial⟩) (ac (ba (n:=4) (c:=0) (t:=3) rfl (uk c0)) (ah))))) Tryd.func45 (by kernel_rfl) ⟨⟨_,rfl,h,fun _ _ hx=>nM hx⟩,trivial⟩).mono ?_
  rintro e w' ⟨v,rfl,h1,h2⟩
  have h1:=h1
  have h1:v=_:=h1;subst h1
  exact⟨by simp[Bool.decide_eq_true,c0],h2⟩
theorem fA {ρ:Rho} {n m:Nat} {b:Bool} (hn:ρ[n]? =some (.row 24 1 [.dig (nl m) m])) (hb:decide (m=1)=b) (hm:nl m≤1000000000000):Inst.Ok Tryd.prog ρ ⟨45,[.one (.ref n)],.v (.one (.b b))⟩:=
 ⟨ai Tryd.func45 rfl rfl,fun B w vs hB h=>by
  match vs,h with
  | [va],h=>
   obtain⟨⟨q,h1,h2,_⟩,_⟩:=h
   rw[hn]at h1;injection h1 with h1;subst h1
   refine(q_one va m w h2 hm).mono ?_
   rintro e w' ⟨rfl,h2⟩
   exact⟨_,rfl,by subst hb;rfl,h2⟩⟩
theorem sA (va:Value) (s:Bool) (L p N q:Nat) (w:World) (ha:lR w va s L p N q) (hL:L≤1000000) (hN:N≤1000000) (hne:¬(nl p=L∧nl q=N)):
  Calls Tryd.prog 26 #[va] w fun e w'=>bE w (.bool false) e w':=by
 by_cases c0:nl p=L
 ·by_cases c1:nl q=N
  ·exact absurd ⟨c0,c1⟩ hne
  ·refine(cRn (ρ:=[.val (.bool s),.dig L p,.dig N q]) (args:=[q3 0 1 2]) (vs:=[va]) (r:=.v (.one (.b false)))
    (ae (gW (i:=1) (b:=true) rfl (decide_eq_true c0) (Nat.le_trans hL (by decide))) (ae (gW (i:=2) (b:=false) rfl (decide_eq_false c1) (Nat.le_trans hN (by decide))) ag))
    ah Tryd.func26 (by kernel_rfl) ⟨(uo ha (lrb (n:=0) rfl) rfl rfl),trivial⟩).mono ?_
   rintro e w' ⟨v,rfl,h1,h2⟩
   have h1:=h1
   have h1:v=_:=h1;subst h1
   exact⟨rfl,h2⟩
 ·refine(cRn (ρ:=[.val (.bool s),.dig L p,.dig N q]) (args:=[q3 0 1 2]) (vs:=[va]) (r:=.v (.one (.b false)))
   (ae (gW (i:=1) (b:=false) rfl (decide_eq_false c0) (Nat.le_trans hL (by decide))) ag)
   ah Tryd.func26 (by kernel_rfl) ⟨(uo ha (lrb (n:=0) rfl) rfl rfl),trivial⟩).mono ?_
  rintro e w' ⟨v,rfl,h1,h2⟩
  have h1:=h1
  have h1:v=_:=h1;subst h1
  exact⟨rfl,h2⟩
theorem pq (va:Value) (x:Fq) (w:World) (ha:IsQ w va x) (hp:nl x.p≤1000000) (hq:nl x.q≤1000000):
  Calls Tryd.prog 26 #[va] w fun e w'=>bE w (.bool x.valid) e w':=by
 by_cases c0:x.q=0
 ·refine(cRn (ρ:=[.val (.bool x.s),.dig (nl x.p) x.p,.dig (nl x.q) x.q]) (args:=[q3 0 1 2]) (vs:=[va]) (r:=.v (.one (.b false)))
   (ae (bI (i:=1) rfl rfl (Nat.le_trans hp (by decide))) (ae (bI (i:=2) rfl rfl (Nat.le_trans hq (by decide))) (ae (b6 (i:=2) rfl (decide_eq_true c0) (Nat.le_trans hq (by decide))) ag)))
   ah Tryd.func26 (by kernel_rfl) ⟨(inF ha (lrb (n:=0) rfl) rfl rfl),trivial⟩).mono ?_
  rintro e w' ⟨v,rfl,h1,h2⟩
  have h1:=h1
  have h1:v=_:=h1;subst h1
  exact⟨by simp[Fq.valid,c0],h2⟩
 ·by_cases c1:x.p=0
  ·rcases Bool.eq_false_or_eq_true (x.s)with c2 | c2
   ·refine(cRn (ρ:=[.dig (nl x.p) x.p,.dig (nl x.q) x.q]) (args:=[.agg [.b true,.ref 0,.ref 1]]) (vs:=[va]) (r:=.v (.one (.b false)))
     (ae (bI (i:=0) rfl rfl (Nat.le_trans hp (by decide))) (ae (bI (i:=1) rfl rfl (Nat.le_trans hq (by decide))) (ae (b6 (i:=1) rfl (decide_eq_false c0) (Nat.le_trans hq (by decide))) (ae (iu (cV (l:=.b true) (a:=0) (b:=1) (x:=x) (lb c2) (bl2 c2) rfl rfl) (lb c2) (decide_eq_true c1) (Nat.le_trans hp (by decide))) ag))))
     (ac (fW true true true true) (ah)) Tryd.func26 (by kernel_rfl) ⟨(inF ha (lb c2) rfl rfl),trivial⟩).mono ?_
    rintro e w' ⟨v,rfl,h1,h2⟩
    have h1:=h1
    have h1:v=_:=h1;subst h1
    exact⟨by simp[Fq.valid,c0,c1,c2],h2⟩
   ·by_cases c3:(Nat.gcd x.p x.q)=1
    ·refine(cRn (ρ:=[.dig (nl x.p) x.p,.dig (nl x.q) x.q,.dig (nl (Nat.gcd x.p x.q)) (Nat.gcd x.p x.q),.row 24 1 [.dig (nl (Nat.gcd x.p x.q)) (Nat.gcd x.p x.q)]]) (args:=[.agg [.b false,.ref 0,.ref 1]]) (vs:=[va]) (r:=.v (.one (.b true)))
      (ae (bI (i:=0) rfl rfl (Nat.le_trans hp (by decide))) (ae (bI (i:=1) rfl rfl (Nat.le_trans hq (by decide))) (ae (b6 (i:=1) rfl (decide_eq_false c0) (Nat.le_trans hq (by decide))) (ae (iu (cV (l:=.b false) (a:=0) (b:=1) (x:=x) (lb c2) (bl2 c2) rfl rfl) (lb c2) (decide_eq_true c1) (Nat.le_trans hp (by decide))) (ae (fV (i:=0) (j:=1) (k:=2) rfl rfl rfl (Nat.le_trans hp (by decide)) (Nat.le_trans hq (by decide))) (ae (fA (n:=3) rfl (decide_eq_true c3) (Nat.le_trans (bu hp hq) (by decide))) ag))))))
      (ac (fW false true true true) (ac (i5 (m:=3) (ss:=[nt 2]) (N:=1) (sz:=1) (z:=[.sl0]) (qs:=[.dig (nl (Nat.gcd x.p x.q)) (Nat.gcd x.p x.q)]) (ix:=[0]) (ls:=[.ref 2]) Tryd.underlying85 (by kernel_rfl) (by kernel_rfl) (by decide) (by decide) (by decide) rfl (by kernel_rfl) ⟨dL rfl,trivial⟩ rfl) (ah))) Tryd.func26 (by kernel_rfl) ⟨(inF ha (lb c2) rfl rfl),trivial⟩).mono ?_
     rintro e w' ⟨v,rfl,h1,h2⟩
     have h1:=h1
     have h1:v=_:=h1;subst h1
     exact⟨by rw[c1,Nat.gcd_zero_left]at c3;simp[Fq.valid,c0,c1,c2,c3],h2⟩
    ·refine(cRn (ρ:=[.dig (nl x.p) x.p,.dig (nl x.q) x.q,.dig (nl (Nat.gcd x.p x.q)) (Nat.gcd x.p x.q),.row 24 1 [.dig (nl (Nat.gcd x.p x.q)) (Nat.gcd x.p x.q)]]) (args:=[.agg [.b false,.ref 0,.ref 1]]) (vs:=[va]) (r:=.v (.one (.b false)))
      (ae (bI (i:=0) rfl rfl (Nat.le_trans hp (by decide))) (ae (bI (i:=1) rfl rfl (Nat.le_trans hq (by decide))) (ae (b6 (i:=1) rfl (decide_eq_false c0) (Nat.le_trans hq (by decide))) (ae (iu (cV (l:=.b false) (a:=0) (b:=1) (x:=x) (lb c2) (bl2 c2) rfl rfl) (lb c2) (decide_eq_true c1) (Nat.le_trans hp (by decide))) (ae (fV (i:=0) (j:=1) (k:=2) rfl rfl rfl (Nat.le_trans hp (by decide)) (Nat.le_trans hq (by decide))) (ae (fA (n:=3) rfl (decide_eq_false c3) (Nat.le_trans (bu hp hq) (by decide))) ag))))))
      (ac (fW false true true true) (ac (i5 (m:=3) (ss:=[nt 2]) (N:=1) (sz:=1) (z:=[.sl0]) (qs:=[.dig (nl (Nat.gcd x.p x.q)) (Nat.gcd x.p x.q)]) (ix:=[0]) (ls:=[.ref 2]) Tryd.underlying85 (by kernel_rfl) (by kernel_rfl) (by decide) (by decide) (by decide) rfl (by kernel_rfl) ⟨dL rfl,trivial⟩ rfl) (ah))) Tryd.func26 (by kernel_rfl) ⟨(inF ha (lb c2) rfl rfl),trivial⟩).mono ?_
     rintro e w' ⟨v,rfl,h1,h2⟩
     have h1:=h1
     have h1:v=_:=h1;subst h1
     exact⟨by rw[c1,Nat.gcd_zero_left]at c3;simp[Fq.valid,c0,c1,c2,c3],h2⟩
  ·rcases Bool.eq_false_or_eq_true (x.s)with c2 | c2
   ·by_cases c3:(Nat.gcd x.p x.q)=1
    ·refine(cRn (ρ:=[.dig (nl x.p) x.p,.dig (nl x.q) x.q,.dig (nl (Nat.gcd x.p x.q)) (Nat.gcd x.p x.q),.row 24 1 [.dig (nl (Nat.gcd x.p x.q)) (Nat.gcd x.p x.q)]]) (args:=[.agg [.b true,.ref 0,.ref 1]]) (vs:=[va]) (r:=.v (.one (.b true)))
      (ae (bI (i:=0) rfl rfl (Nat.le_trans hp (by decide))) (ae (bI (i:=1) rfl rfl (Nat.le_trans hq (by decide))) (ae (b6 (i:=1) rfl (decide_eq_false c0) (Nat.le_trans hq (by decide))) (ae (iu (cV (l:=.b true) (a:=0) (b:=1) (x:=x) (lb c2) (bl2 c2) rfl rfl) (lb c2) (decide_eq_false c1) (Nat.le_trans hp (by decide))) (ae (fV (i:=0) (j:=1) (k:=2) rfl rfl rfl (Nat.le_trans hp (by decide)) (Nat.le_trans hq (by decide))) (ae (fA (n:=3) rfl (decide_eq_true c3) (Nat.le_trans (bu hp hq) (by decide))) ag))))))
      (ac (fW true false true true) (ac (i5 (m:=3) (ss:=[nt 2]) (N:=1) (sz:=1) (z:=[.sl0]) (qs:=[.dig (nl (Nat.gcd x.p x.q)) (Nat.gcd x.p x.q)]) (ix:=[0]) (ls:=[.ref 2]) Tryd.underlying85 (by kernel_rfl) (by kernel_rfl) (by decide) (by decide) (by decide) rfl (by kernel_rfl) ⟨dL rfl,trivial⟩ rfl) (ah))) Tryd.func26 (by kernel_rfl) ⟨(inF ha (lb c2) rfl rfl),trivial⟩).mono ?_
     rintro e w' ⟨v,rfl,h1,h2⟩
     have h1:=h1
     have h1:v=_:=h1;subst h1
     exact⟨by simp[Fq.valid,c0,c1,c2,c3],h2⟩
    ·refine(cRn (ρ:=[.dig (nl x.p) x.p,.dig (nl x.q) x.q,.dig (nl (Nat.gcd x.p x.q)) (Nat.gcd x.p x.q),.row 24 1 [.dig (nl (Nat.gcd x.p x.q)) (Nat.gcd x.p x.q)]]) (args:=[.agg [.b true,.ref 0,.ref 1]]) (vs:=[va]) (r:=.v (.one (.b false)))
      (ae (bI (i:=0) rfl rfl (Nat.le_trans hp (by decide))) (ae (bI (i:=1) rfl rfl (Nat.le_trans hq (by decide))) (ae (b6 (i:=1) rfl (decide_eq_false c0) (Nat.le_trans hq (by decide))) (ae (iu (cV (l:=.b true) (a:=0) (b:=1) (x:=x) (lb c2) (bl2 c2) rfl rfl) (lb c2) (decide_eq_false c1) (Nat.le_trans hp (by decide))) (ae (fV (i:=0) (j:=1) (k:=2) rfl rfl rfl (Nat.le_trans hp (by decide)) (Nat.le_trans hq (by decide))) (ae (fA (n:=3) rfl (decide_eq_false c3) (Nat.le_trans (bu hp hq) (by decide))) ag))))))
      (ac (fW true false true true) (ac (i5 (m:=3) (ss:=[nt 2]) (N:=1) (sz:=1) (z:=[.sl0]) (qs:=[.dig (nl (Nat.gcd x.p x.q)) (Nat.gcd x.p x.q)]) (ix:=[0]) (ls:=[.ref 2]) Tryd.underlying85 (by kernel_rfl) (by kernel_rfl) (by decide) (by decide) (by decide) rfl (by kernel_rfl) ⟨dL rfl,trivial⟩ rfl) (ah))) Tryd.func26 (by kernel_rfl) ⟨(inF ha (lb c2) rfl rfl),trivial⟩).mono ?_
     rintro e w' ⟨v,rfl,h1,h2⟩
     have h1:=h1
     have h1:v=_:=h1;subst h1
     exact⟨by simp[Fq.valid,c0,c1,c2,c3],h2⟩
   ·by_cases c3:(Nat.gcd x.p x.q)=1
    ·refine(cRn (ρ:=[.dig (nl x.p) x.p,.dig (nl x.q) x.q,.dig (nl (Nat.gcd x.p x.q)) (Nat.gcd x.p x.q),.row 24 1 [.dig (nl (Nat.gcd x.p x.q)) (Nat.gcd x.p x.q)]]) (args:=[.agg [.b false,.ref 0,.ref 1]]) (vs:=[va]) (r:=.v (.one (.b true)))
      (ae (bI (i:=0) rfl rfl (Nat.le_trans hp (by decide))) (ae (bI (i:=1) rfl rfl (Nat.le_trans hq (by decide))) (ae (b6 (i:=1) rfl (decide_eq_false c0) (Nat.le_trans hq (by decide))) (ae (iu (cV (l:=.b false) (a:=0) (b:=1) (x:=x) (lb c2) (bl2 c2) rfl rfl) (lb c2) (decide_eq_false c1) (Nat.le_trans hp (by decide))) (ae (fV (i:=0) (j:=1) (k:=2) rfl rfl rfl (Nat.le_trans hp (by decide)) (Nat.le_trans hq (by decide))) (ae (fA (n:=3) rfl (decide_eq_true c3) (Nat.le_trans (bu hp hq) (by decide))) ag))))))
      (ac (fW false false true true) (ac (i5 (m:=3) (ss:=[nt 2]) (N:=1) (sz:=1) (z:=[.sl0]) (qs:=[.dig (nl (Nat.gcd x.p x.q)) (Nat.gcd x.p x.q)]) (ix:=[0]) (ls:=[.ref 2]) Tryd.underlying85 (by kernel_rfl) (by kernel_rfl) (by decide) (by decide) (by decide) rfl (by kernel_rfl) ⟨dL rfl,trivial⟩ rfl) (ah))) Tryd.func26 (by kernel_rfl) ⟨(inF ha (lb c2) rfl rfl),trivial⟩).mono ?_
     rintro e w' ⟨v,rfl,h1,h2⟩
     have h1:=h1
     have h1:v=_:=h1;subst h1
     exact⟨by simp[Fq.valid,c0,c1,c2,c3],h2⟩
    ·refine(cRn (ρ:=[.dig (nl x.p) x.p,.dig (nl x.q) x.q,.dig (nl (Nat.gcd x.p x.q)) (Nat.gcd x.p x.q),.row 24 1 [.dig (nl (Nat.gcd x.p x.q)) (Nat.gcd x.p x.q)]]) (args:=[.agg [.b false,.ref 0,.ref 1]]) (vs:=[va]) (r:=.v (.one (.b false)))
      (ae (bI (i:=0) rfl rfl (Nat.le_trans hp (by decide))) (ae (bI (i:=1) rfl rfl (Nat.le_trans hq (by decide))) (ae (b6 (i:=1) rfl (decide_eq_false c0) (Nat.le_trans hq (by decide))) (ae (iu (cV (l:=.b false) (a:=0) (b:=1) (x:=x) (lb c2) (bl2 c2) rfl rfl) (lb c2) (decide_eq_false c1) (Nat.le_trans hp (by decide))) (ae (fV (i:=0) (j:=1) (k:=2) rfl rfl rfl (Nat.le_trans hp (by decide)) (Nat.le_trans hq (by decide))) (ae (fA (n:=3) rfl (decide_eq_false c3) (Nat.le_trans (bu hp hq) (by decide))) ag))))))
      (ac (fW false false true true) (ac (i5 (m:=3) (ss:=[nt 2]) (N:=1) (sz:=1) (z:=[.sl0]) (qs:=[.dig (nl (Nat.gcd x.p x.q)) (Nat.gcd x.p x.q)]) (ix:=[0]) (ls:=[.ref 2]) Tryd.underlying85 (by kernel_rfl) (by kernel_rfl) (by decide) (by decide) (by decide) rfl (by kernel_rfl) ⟨dL rfl,trivial⟩ rfl) (ah))) Tryd.func26 (by kernel_rfl) ⟨(inF ha (lb c2) rfl rfl),trivial⟩).mono ?_
     rintro e w' ⟨v,rfl,h1,h2⟩
     have h1:=h1
     have h1:v=_:=h1;subst h1
     exact⟨by simp[Fq.valid,c0,c1,c2,c3],h2⟩
theorem sB (va:Value) (s:Bool) (L p N q:Nat) (w:World) (ha:lR w va s L p N q) (hL:L≤1000000) (hN:N≤1000000) (hne:¬(nl p=L∧nl q=N)):
  Calls Tryd.prog 27 #[va] w fun e w'=>bE w (.bool false) e w':=by
 by_cases c0:nl p=L
 ·by_cases c1:nl q=N
  ·exact absurd ⟨c0,c1⟩ hne
  ·refine(cRn (ρ:=[.val (.bool s),.dig L p,.dig N q]) (args:=[q3 0 1 2]) (vs:=[va]) (r:=.v (.one (.b false)))
    (ae (gX (i:=1) (b:=true) rfl (decide_eq_true c0) (Nat.le_trans hL (by decide))) (ae (gX (i:=2) (b:=false) rfl (decide_eq_false c1) (Nat.le_trans hN (by decide))) ag))
    ah Tryd.func27 (by kernel_rfl) ⟨(uo ha (lrb (n:=0) rfl) rfl rfl),trivial⟩).mono ?_
   rintro e w' ⟨v,rfl,h1,h2⟩
   have h1:=h1
   have h1:v=_:=h1;subst h1
   exact⟨rfl,h2⟩
 ·refine(cRn (ρ:=[.val (.bool s),.dig L p,.dig N q]) (args:=[q3 0 1 2]) (vs:=[va]) (r:=.v (.one (.b false)))
   (ae (gX (i:=1) (b:=false) rfl (decide_eq_false c0) (Nat.le_trans hL (by decide))) ag)
   ah Tryd.func27 (by kernel_rfl) ⟨(uo ha (lrb (n:=0) rfl) rfl rfl),trivial⟩).mono ?_
  rintro e w' ⟨v,rfl,h1,h2⟩
  have h1:=h1
  have h1:v=_:=h1;subst h1
  exact⟨rfl,h2⟩
theorem uw (va:Value) (x:Fq) (w:World) (ha:IsQ w va x) (hp:nl x.p≤1000000) (hq:nl x.q≤1000000):
  Calls Tryd.prog 27 #[va] w fun e w'=>bE w (.bool x.valid) e w':=by
 by_cases c0:x.q=0
 ·refine(cRn (ρ:=[.val (.bool x.s),.dig (nl x.p) x.p,.dig (nl x.q) x.q]) (args:=[q3 0 1 2]) (vs:=[va]) (r:=.v (.one (.b false)))
   (ae (cz (i:=1) rfl rfl (Nat.le_trans hp (by decide))) (ae (cz (i:=2) rfl rfl (Nat.le_trans hq (by decide))) (ae (dw (i:=2) rfl (decide_eq_true c0) (Nat.le_trans hq (by decide))) ag)))
   ah Tryd.func27 (by kernel_rfl) ⟨(inF ha (lrb (n:=0) rfl) rfl rfl),trivial⟩).mono ?_
  rintro e w' ⟨v,rfl,h1,h2⟩
  have h1:=h1
  have h1:v=_:=h1;subst h1
  exact⟨by simp[Fq.valid,c0],h2⟩
 ·rcases Bool.eq_false_or_eq_true (x.s)with c1 | c1
  ·by_cases c2:x.p=0
   ·refine(cRn (ρ:=[.dig (nl x.p) x.p,.dig (nl x.q) x.q]) (args:=[.agg [.b true,.ref 0,.ref 1]]) (vs:=[va]) (r:=.v (.one (.b false)))
     (ae (cz (i:=0) rfl rfl (Nat.le_trans hp (by decide))) (ae (cz (i:=1) rfl rfl (Nat.le_trans hq (by decide))) (ae (dw (i:=1) rfl (decide_eq_false c0) (Nat.le_trans hq (by decide))) (ae (dw (i:=0) rfl (decide_eq_true c2) (Nat.le_trans hp (by decide))) ag))))
     ah Tryd.func27 (by kernel_rfl) ⟨(inF ha (lb c1) rfl rfl),trivial⟩).mono ?_
    rintro e w' ⟨v,rfl,h1,h2⟩
    have h1:=h1
    have h1:v=_:=h1;subst h1
    exact⟨by simp[Fq.valid,c0,c1,c2],h2⟩
   ·by_cases c3:(Nat.gcd x.p x.q)=1
    ·refine(cRn (ρ:=[.dig (nl x.p) x.p,.dig (nl x.q) x.q,.dig (nl (Nat.gcd x.p x.q)) (Nat.gcd x.p x.q),.dig (nl 1) 1]) (args:=[.agg [.b true,.ref 0,.ref 1]]) (vs:=[va]) (r:=.v (.one (.b true)))
      (ae (cz (i:=0) rfl rfl (Nat.le_trans hp (by decide))) (ae (cz (i:=1) rfl rfl (Nat.le_trans hq (by decide))) (ae (dw (i:=1) rfl (decide_eq_false c0) (Nat.le_trans hq (by decide))) (ae (dw (i:=0) rfl (decide_eq_false c2) (Nat.le_trans hp (by decide))) (ae (fg (i:=0) (j:=1) (k:=2) rfl rfl rfl (Nat.le_trans hp (by decide)) (Nat.le_trans hq (by decide))) (ae (cX (k:=3) rfl (by decide)) (ae (bK (i:=2) (j:=3) rfl rfl (decide_eq_true c3) (Nat.le_trans (bu hp hq) (by decide)) (Nat.le_trans bk (by decide))) ag)))))))
      ah Tryd.func27 (by kernel_rfl) ⟨(inF ha (lb c1) rfl rfl),trivial⟩).mono ?_
     rintro e w' ⟨v,rfl,h1,h2⟩
     have h1:=h1
     have h1:v=_:=h1;subst h1
     exact⟨by simp[Fq.valid,c0,c1,c2,c3],h2⟩
    ·refine(cRn (ρ:=[.dig (nl x.p) x.p,.dig (nl x.q) x.q,.dig (nl (Nat.gcd x.p x.q)) (Nat.gcd x.p x.q),.dig (nl 1) 1]) (args:=[.agg [.b true,.ref 0,.ref 1]]) (vs:=[va]) (r:=.v (.one (.b false)))
      (ae (cz (i:=0) rfl rfl (Nat.le_trans hp (by decide))) (ae (cz (i:=1) rfl rfl (Nat.le_trans hq (by decide))) (ae (dw (i:=1) rfl (decide_eq_false c0) (Nat.le_trans hq (by decide))) (ae (dw (i:=0) rfl (decide_eq_false c2) (Nat.le_trans hp (by decide))) (ae (fg (i:=0) (j:=1) (k:=2) rfl rfl rfl (Nat.le_trans hp (by decide)) (Nat.le_trans hq (by decide))) (ae (cX (k:=3) rfl (by decide)) (ae (bK (i:=2) (j:=3) rfl rfl (decide_eq_false c3) (Nat.le_trans (bu hp hq) (by decide)) (Nat.le_trans bk (by decide))) ag)))))))
      ah Tryd.func27 (by kernel_rfl) ⟨(inF ha (lb c1) rfl rfl),trivial⟩).mono ?_
     rintro e w' ⟨v,rfl,h1,h2⟩
     have h1:=h1
     have h1:v=_:=h1;subst h1
     exact⟨by simp[Fq.valid,c0,c1,c2,c3],h2⟩
  ·by_cases c2:(Nat.gcd x.p x.q)=1
   ·refine(cRn (ρ:=[.dig (nl x.p) x.p,.dig (nl x.q) x.q,.dig (nl (Nat.gcd x.p x.q)) (Nat.gcd x.p x.q),.dig (nl 1) 1]) (args:=[.agg [.b false,.ref 0,.ref 1]]) (vs:=[va]) (r:=.v (.one (.b true)))
     (ae (cz (i:=0) rfl rfl (Nat.le_trans hp (by decide))) (ae (cz (i:=1) rfl rfl (Nat.le_trans hq (by decide))) (ae (dw (i:=1) rfl (decide_eq_false c0) (Nat.le_trans hq (by decide))) (ae (fg (i:=0) (j:=1) (k:=2) rfl rfl rfl (Nat.le_trans hp (by decide)) (Nat.le_trans hq (by decide))) (ae (cX (k:=3) rfl (by decide)) (ae (bK (i:=2) (j:=3) rfl rfl (decide_eq_true c2) (Nat.le_trans (bu hp hq) (by decide)) (Nat.le_trans bk (by decide))) ag))))))
     ah Tryd.func27 (by kernel_rfl) ⟨(inF ha (lb c1) rfl rfl),trivial⟩).mono ?_
    rintro e w' ⟨v,rfl,h1,h2⟩
    have h1:=h1
    have h1:v=_:=h1;subst h1
    exact⟨by simp[Fq.valid,c0,c1,c2],h2⟩
   ·refine(cRn (ρ:=[.dig (nl x.p) x.p,.dig (nl x.q) x.q,.dig (nl (Nat.gcd x.p x.q)) (Nat.gcd x.p x.q),.dig (nl 1) 1]) (args:=[.agg [.b false,.ref 0,.ref 1]]) (vs:=[va]) (r:=.v (.one (.b false)))
     (ae (cz (i:=0) rfl rfl (Nat.le_trans hp (by decide))) (ae (cz (i:=1) rfl rfl (Nat.le_trans hq (by decide))) (ae (dw (i:=1) rfl (decide_eq_false c0) (Nat.le_trans hq (by decide))) (ae (fg (i:=0) (j:=1) (k:=2) rfl rfl rfl (Nat.le_trans hp (by decide)) (Nat.le_trans hq (by decide))) (ae (cX (k:=3) rfl (by decide)) (ae (bK (i:=2) (j:=3) rfl rfl (decide_eq_false c2) (Nat.le_trans (bu hp hq) (by decide)) (Nat.le_trans bk (by decide))) ag))))))
     ah Tryd.func27 (by kernel_rfl) ⟨(inF ha (lb c1) rfl rfl),trivial⟩).mono ?_
    rintro e w' ⟨v,rfl,h1,h2⟩
    have h1:=h1
    have h1:v=_:=h1;subst h1
    exact⟨by simp[Fq.valid,c0,c1,c2],h2⟩
theorem wD (va vb:Value) (x y:Fq) (w:World) (ha:IsQ w va x) (hb:IsQ w vb y) (hp:nl x.p≤1000000000000) (hq:nl x.q≤1000000000000) (kp:nl y.p≤1000000000000) (kq:nl y.q≤1000000000000):
  Calls Tryd.prog 16 #[va,vb] w fun e w'=>bE w (.bool (x.same y)) e w':=by
 by_cases c0:x.s=y.s
 ·by_cases c1:x.p=y.p
  ·by_cases c2:x.q=y.q
   ·refine(cRn (ρ:=[.val (.bool x.s),.dig (nl x.p) x.p,.dig (nl x.q) x.q,.val (.bool y.s),.dig (nl y.p) y.p,.dig (nl y.q) y.q]) (args:=[q3 0 1 2,q3 3 4 5]) (vs:=[va,vb]) (r:=.v (.one (.b true)))
     (ae (bK (i:=1) (j:=4) rfl rfl (decide_eq_true c1) hp kp) (ae (bK (i:=2) (j:=5) rfl rfl (decide_eq_true c2) hq kq) ag))
     (ac (lQ (t:=4) (by kernel_rfl) (br (n:=0) rfl) (br (n:=3) rfl) (lb (rn c0))) (ah)) Tryd.func16 (by kernel_rfl) ⟨(inF ha (lrb (n:=0) rfl) rfl rfl),⟨(inF hb (lrb (n:=3) rfl) rfl rfl),trivial⟩⟩).mono ?_
    rintro e w' ⟨v,rfl,h1,h2⟩
    have h1:=h1
    have h1:v=_:=h1;subst h1
    exact⟨by simp[Fq.same,c0,c1,c2],h2⟩
   ·refine(cRn (ρ:=[.val (.bool x.s),.dig (nl x.p) x.p,.dig (nl x.q) x.q,.val (.bool y.s),.dig (nl y.p) y.p,.dig (nl y.q) y.q]) (args:=[q3 0 1 2,q3 3 4 5]) (vs:=[va,vb]) (r:=.v (.one (.b false)))
     (ae (bK (i:=1) (j:=4) rfl rfl (decide_eq_true c1) hp kp) (ae (bK (i:=2) (j:=5) rfl rfl (decide_eq_false c2) hq kq) ag))
     (ac (lQ (t:=4) (by kernel_rfl) (br (n:=0) rfl) (br (n:=3) rfl) (lb (rn c0))) (ah)) Tryd.func16 (by kernel_rfl) ⟨(inF ha (lrb (n:=0) rfl) rfl rfl),⟨(inF hb (lrb (n:=3) rfl) rfl rfl),trivial⟩⟩).mono ?_
    rintro e w' ⟨v,rfl,h1,h2⟩
    have h1:=h1
    have h1:v=_:=h1;subst h1
    exact⟨by simp[Fq.same,c0,c1,c2],h2⟩
  ·refine(cRn (ρ:=[.val (.bool x.s),.dig (nl x.p) x.p,.dig (nl x.q) x.q,.val (.bool y.s),.dig (nl y.p) y.p,.dig (nl y.q) y.q]) (args:=[q3 0 1 2,q3 3 4 5]) (vs:=[va,vb]) (r:=.v (.one (.b false)))
    (ae (bK (i:=1) (j:=4) rfl rfl (decide_eq_false c1) hp kp) ag)
    (ac (lQ (t:=4) (by kernel_rfl) (br (n:=0) rfl) (br (n:=3) rfl) (lb (rn c0))) (ah)) Tryd.func16 (by kernel_rfl) ⟨(inF ha (lrb (n:=0) rfl) rfl rfl),⟨(inF hb (lrb (n:=3) rfl) rfl rfl),trivial⟩⟩).mono ?_
   rintro e w' ⟨v,rfl,h1,h2⟩
   have h1:=h1
   have h1:v=_:=h1;subst h1
   exact⟨by simp[Fq.same,c0,c1],h2⟩
 ·refine(cRn (ρ:=[.val (.bool x.s),.dig (nl x.p) x.p,.dig (nl x.q) x.q,.val (.bool y.s),.dig (nl y.p) y.p,.dig (nl y.q) y.q]) (args:=[q3 0 1 2,q3 3 4 5]) (vs:=[va,vb]) (r:=.v (.one (.b false)))
   (ag)
   (ac (lQ (t:=4) (by kernel_rfl) (br (n:=0) rfl) (br (n:=3) rfl) (lb (uj c0))) (ah)) Tryd.func16 (by kernel_rfl) ⟨(inF ha (lrb (n:=0) rfl) rfl rfl),⟨(inF hb (lrb (n:=3) rfl) rfl rfl),trivial⟩⟩).mono ?_
  rintro e w' ⟨v,rfl,h1,h2⟩
  have h1:=h1
  have h1:v=_:=h1;subst h1
  exact⟨by simp[Fq.same,c0],h2⟩
end Go.Proofs.YtfhinmdhjlmikaaDoor
namespace Go.Proofs.YtfhinmdhjlmikaaDoor
set_option linter.unusedSimpArgs false
set_option linter.unusedVariables false
set_option maxRecDepth 100000
open Go Go.Proofs
/-- The number that a fraction stands for. -/
def Fq.sg (s:Bool) (m:Nat):Int:=if s then -(m:Int)else m
def Fq.v (x:Fq):Rat:=mkRat (Fq.sg x.s x.p) x.q
theorem ux {s:Bool} {m n:Nat} (h:n≠0):(Fq.low s m n).v=mkRat (Fq.sg s m) n:=by
 unfold Fq.v Fq.low
 simp only
 have hg:0<Nat.gcd m n:=Nat.gcd_pos_of_pos_right _ (Nat.pos_of_ne_zero h)
 have h1:Nat.gcd m n*iN m n=m:=Nat.mul_div_cancel' (Nat.gcd_dvd_left _ _)
 have h2:Nat.gcd m n*kB m n=n:=Nat.mul_div_cancel' (Nat.gcd_dvd_right _ _)
 have h3:kB m n≠0:=by intro h3;rw[h3,Nat.mul_zero]at h2;exact h h2.symm
 rw[Rat.mkRat_eq_iff h3 h]
 have hs:Fq.sg (gg s m) (iN m n)=Fq.sg s (iN m n):=by
  unfold gg Fq.sg
  by_cases hm:m=0
  ·subst hm;simp[iN]
  ·simp[hm]
 rw[hs]
 generalize hP:iN m n=P at *
 generalize hQ:kB m n=R at *
 generalize Nat.gcd m n=g at *
 subst h1;subst h2
 unfold Fq.sg
 cases s<;>simp only[Bool.false_eq_true,if_true,if_false]<;>grind
theorem jO {s:Bool} {m n:Nat} (h:n≠0):(Fq.low s m n).valid=true:=by
 unfold Fq.valid
 have hg:0<Nat.gcd m n:=Nat.gcd_pos_of_pos_right _ (Nat.pos_of_ne_zero h)
 have h1:Nat.gcd m n*iN m n=m:=Nat.mul_div_cancel' (Nat.gcd_dvd_left _ _)
 have h2:Nat.gcd m n*kB m n=n:=Nat.mul_div_cancel' (Nat.gcd_dvd_right _ _)
 refine decide_eq_true ⟨?_,?_,?_⟩
 ·show kB m n≠0
  intro h3;rw[h3,Nat.mul_zero]at h2;exact h h2.symm
 ·show¬(gg s m=true∧iN m n=0)
  rintro⟨h3,h4⟩
  rw[h4,Nat.mul_zero]at h1
  rw[←h1]at h3;simp[gg]at h3
 ·exact Nat.coprime_div_gcd_div_gcd hg
theorem Fq.valid.n {x:Fq} (h:x.valid=true):x.q≠0:=(of_decide_eq_true h).1
theorem Fq.valid.s {x:Fq} (h:x.valid=true):¬(x.s=true∧x.p=0):=(of_decide_eq_true h).2.1
theorem Fq.valid.g {x:Fq} (h:x.valid=true):Nat.gcd x.p x.q=1:=(of_decide_eq_true h).2.2
theorem nZ (s:Bool) (m:Nat):(Fq.sg s m).natAbs=m:=by unfold Fq.sg;cases s<;>simp
theorem uy {s:Bool} {m:Nat} (h:¬(s=true∧m=0)):decide (Fq.sg s m<0)=s:=by
 unfold Fq.sg
 cases s
 ·simp
 ·simp at h⊢;omega
theorem xj {x:Fq} (h:x.valid=true):x.v.num=Fq.sg x.s x.p∧x.v.den=x.q:=by
 have hn:=Fq.valid.n h
 have hc:(Fq.sg x.s x.p).natAbs.Coprime x.q:=by rw[nZ];exact Fq.valid.g h
 have e:x.v=Rat.mk' (Fq.sg x.s x.p) x.q hn hc:=(Rat.mk_eq_mkRat _ _ hn hc).symm
 rw[e];exact⟨rfl,rfl⟩
/-- Valid fractions of one value are one. -/
theorem m6 {x y:Fq} (hx:x.valid=true) (hy:y.valid=true) (h:x.v=y.v):x=y:=by
 obtain⟨a1,a2⟩:=xj hx
 obtain⟨b1,b2⟩:=xj hy
 rw[h]at a1 a2
 have e1:Fq.sg x.s x.p=Fq.sg y.s y.p:=a1.symm.trans b1
 have ep:x.p=y.p:=by rw[←nZ x.s x.p,e1,nZ]
 have es:x.s=y.s:=by rw[←uy (Fq.valid.s hx),e1,uy (Fq.valid.s hy)]
 have eq:x.q=y.q:=a2.symm.trans b2
 cases x;cases y;simp only at *;subst ep;subst es;subst eq;rfl
theorem yi (s s':Bool) (X Y:Nat):Fq.sg (gh s s' X Y) (fo s s' X Y)=Fq.sg s X+Fq.sg s' Y:=by
 unfold Fq.sg gh fo
 by_cases h:s=s'
 ·subst h;simp only[if_true];cases s<;>simp<;>omega
 ·simp only[h,if_false]
  by_cases hl:Y≤X
  ·simp only[hl,if_true];cases s<;>cases s'<;>simp at h⊢ <;>omega
  ·simp only[hl,if_false];cases s<;>cases s'<;>simp at h⊢ <;>omega
theorem yj (s s':Bool) (X Y:Nat):Fq.sg (s !=s') (X*Y)=Fq.sg s X*Fq.sg s' Y:=by
 unfold Fq.sg
 cases s<;>cases s'<;>simp<;>grind
theorem rp (s:Bool) (X Y:Nat):Fq.sg s (X*Y)=Fq.sg s X*(Y:Int):=by
 unfold Fq.sg
 cases s<;>simp<;>grind
theorem xk {x y:Fq} (hx:x.q≠0) (hy:y.q≠0):(x.add y).v=x.v+y.v:=by
 unfold Fq.add
 rw[ux (Nat.mul_ne_zero hx hy),yi,rp,rp]
 unfold Fq.v
 rw[Rat.mkRat_add_mkRat _ _ hx hy]
theorem v_mul {x y:Fq} (hx:x.q≠0) (hy:y.q≠0):(x.mul y).v=x.v*y.v:=by
 unfold Fq.mul
 rw[ux (Nat.mul_ne_zero hx hy),yj]
 unfold Fq.v
 rw[Rat.mkRat_mul_mkRat]
theorem pr {x:Fq}:x.neg.v= -x.v:=by
 unfold Fq.neg Fq.v
 simp only
 rw[Rat.neg_mkRat]
 congr 1
 unfold Fq.sg gg
 by_cases h:x.p=0
 ·rw[h];simp
 ·simp only[h,decide_false,Bool.not_false,Bool.and_true];cases x.s<;>simp
theorem dN {x:Fq} (h:x.valid=true):x.neg.valid=true:=by
 have h1:=Fq.valid.n h
 have h2:=Fq.valid.g h
 refine decide_eq_true ⟨h1,?_,h2⟩
 show¬(gg (!x.s) x.p=true∧x.p=0)
 rintro⟨h1,h2⟩;rw[h2]at h1;simp[gg]at h1
theorem v_sub {x y:Fq} (hx:x.q≠0) (hy:y.q≠0):(x.sub y).v=x.v - y.v:=by
 unfold Fq.sub
 rw[xk hx (show y.neg.q≠0 from hy),pr,Rat.sub_eq_add_neg]
theorem xl {x:Fq} (hx:x.q≠0):x.v=0↔x.p=0:=by
 unfold Fq.v
 rw[Rat.mkRat_eq_zero hx]
 have:=nZ x.s x.p
 constructor<;>intro h
 ·rw[h]at this;exact this.symm
 ·unfold Fq.sg;rw[h];simp
theorem v_div {x y:Fq} (hx:x.q≠0) (hy:y.q≠0) (h0:y.p≠0):(x.div y).v=x.v / y.v:=by
 have hne:y.v≠0:=fun h=>h0 ((xl hy).1 h)
 have hm:(x.div y).v*y.v=x.v:=by
  unfold Fq.div
  rw[ux (Nat.mul_ne_zero hx h0)]
  unfold Fq.v
  rw[Rat.mkRat_mul_mkRat,Rat.mkRat_eq_iff (Nat.mul_ne_zero (Nat.mul_ne_zero hx h0) hy) hx]
  unfold Fq.sg
  cases x.s<;>cases y.s<;>simp<;>grind
 rw[←hm,Rat.div_def,Rat.mul_assoc,Rat.mul_inv_cancel _ hne,Rat.mul_one]
theorem rt (n:Int):(Fq.ofInt n).v=(n:Rat):=by
 unfold Fq.ofInt Fq.v
 simp only
 rw[Rat.mkRat_one]
 congr 1
 unfold Fq.sg
 by_cases h:n<0
 ·simp[h];omega
 ·simp[h];omega
theorem a8 (n:Int):(Fq.ofInt n).valid=true:=by
 refine decide_eq_true ⟨Nat.one_ne_zero,?_,Nat.gcd_one_right _⟩
 show¬(decide (n<0)=true∧n.natAbs=0)
 rintro⟨h1,h2⟩;have:=of_decide_eq_true h1;omega
theorem dh {x y:Fq} (hx:x.valid=true) (hy:y.valid=true):(x.add y).valid=true:=jO (Nat.mul_ne_zero (Fq.valid.n hx) (Fq.valid.n hy))
theorem aH {x y:Fq} (hx:x.valid=true) (hy:y.valid=true):(x.mul y).valid=true:=jO (Nat.mul_ne_zero (Fq.valid.n hx) (Fq.valid.n hy))
theorem di {x y:Fq} (hx:x.valid=true) (hy:y.valid=true):(x.sub y).valid=true:=dh hx (dN hy)
theorem fB {x y:Fq} (hx:x.valid=true) (h0:y.p≠0):(x.div y).valid=true:=jO (Nat.mul_ne_zero (Fq.valid.n hx) h0)
theorem v_a {x y:Fq} (hx:x.valid=true) (hy:y.valid=true):(x.add y).v=x.v+y.v:=xk (Fq.valid.n hx) (Fq.valid.n hy)
theorem v_m {x y:Fq} (hx:x.valid=true) (hy:y.valid=true):(x.mul y).v=x.v*y.v:=v_mul (Fq.valid.n hx) (Fq.valid.n hy)
theorem v_s {x y:Fq} (hx:x.valid=true) (hy:y.valid=true):(x.sub y).v=x.v - y.v:=v_sub (Fq.valid.n hx) (Fq.valid.n hy)
section
variable {a b c t:Fq} (ha:a.valid=true) (hb:b.valid=true) (hc:c.valid=true) (ht:t.valid=true)
include ha hb
include hc
end
section
variable {a b t:Fq} (ha:a.valid=true) (hb:b.valid=true) (ht:t.valid=true)
include ha
include hb
include ht
end
end Go.Proofs.YtfhinmdhjlmikaaDoor
namespace Go.Proofs.YtfhinmdhjlmikaaDoor
set_option linter.unusedSimpArgs false
set_option linter.unusedVariables false
set_option maxRecDepth 100000
open Go.RowKit
/-- A vector of fractions. -/
structure Vq where
 x:Fq
 y:Fq
 z:Fq
def Vq.add (a b:Vq):Vq:=⟨a.x.add b.x,a.y.add b.y,a.z.add b.z⟩
def Vq.sub (a b:Vq):Vq:=⟨a.x.sub b.x,a.y.sub b.y,a.z.sub b.z⟩
def Vq.scale (a:Vq) (k:Fq):Vq:=⟨a.x.mul k,a.y.mul k,a.z.mul k⟩
def Vq.dot (a b:Vq):Fq:=(a.x.mul b.x).add ((a.y.mul b.y).add (a.z.mul b.z))
def Vq.cross (a b:Vq):Vq:=⟨(a.y.mul b.z).sub (a.z.mul b.y),(a.z.mul b.x).sub (a.x.mul b.z),(a.x.mul b.y).sub (a.y.mul b.x)⟩
def Vq.of (x y z:Int):Vq:=⟨.ofInt x,.ofInt y,.ofInt z⟩
structure Vq.good (a:Vq):Prop where
 x:a.x.valid=true
 y:a.y.valid=true
 z:a.z.valid=true
section
variable {a b c:Vq} {k t:Fq}
theorem Vq.good.add (ha:a.good) (hb:b.good):(a.add b).good:=⟨dh ha.x hb.x,dh ha.y hb.y,dh ha.z hb.z⟩
theorem Vq.good.sub (ha:a.good) (hb:b.good):(a.sub b).good:=⟨di ha.x hb.x,di ha.y hb.y,di ha.z hb.z⟩
theorem Vq.good.scale (ha:a.good) (hk:k.valid=true):(a.scale k).good:=⟨aH ha.x hk,aH ha.y hk,aH ha.z hk⟩
theorem Vq.good.cross (ha:a.good) (hb:b.good):(a.cross b).good:=⟨di (aH ha.y hb.z) (aH ha.z hb.y),di (aH ha.z hb.x) (aH ha.x hb.z),di (aH ha.x hb.y) (aH ha.y hb.x)⟩
theorem Vq.good.of (x y z:Int):(Vq.of x y z).good:=⟨a8 x,a8 y,a8 z⟩
theorem ef (ha:a.good) (hb:b.good):(a.dot b).valid=true:=dh (aH ha.x hb.x) (dh (aH ha.y hb.y) (aH ha.z hb.z))
theorem xm (ha:a.good) (hb:b.good):(a.dot b).v=a.x.v*b.x.v+(a.y.v*b.y.v+a.z.v*b.z.v):=by
 unfold Vq.dot
 rw[v_a (aH ha.x hb.x) (dh (aH ha.y hb.y) (aH ha.z hb.z)),v_a (aH ha.y hb.y) (aH ha.z hb.z),v_m ha.x hb.x,v_m ha.y hb.y,v_m ha.z hb.z]
theorem xn (ha:a.good) (hb:b.good):(a.add b).x.v=a.x.v+b.x.v∧(a.add b).y.v=a.y.v+b.y.v∧(a.add b).z.v=a.z.v+b.z.v:=⟨v_a ha.x hb.x,v_a ha.y hb.y,v_a ha.z hb.z⟩
theorem n4 (ha:a.good) (hk:k.valid=true):(a.scale k).x.v=a.x.v*k.v∧(a.scale k).y.v=a.y.v*k.v∧(a.scale k).z.v=a.z.v*k.v:=⟨v_m ha.x hk,v_m ha.y hk,v_m ha.z hk⟩
theorem wE (ha:a.good) (hb:b.good):(a.cross b).x.v=a.y.v*b.z.v - a.z.v*b.y.v∧(a.cross b).y.v=a.z.v*b.x.v - a.x.v*b.z.v∧(a.cross b).z.v=a.x.v*b.y.v - a.y.v*b.x.v:=by
 unfold Vq.cross
 refine⟨?_,?_,?_⟩
 ·rw[v_s (aH ha.y hb.z) (aH ha.z hb.y),v_m ha.y hb.z,v_m ha.z hb.y]
 ·rw[v_s (aH ha.z hb.x) (aH ha.x hb.z),v_m ha.z hb.x,v_m ha.x hb.z]
 ·rw[v_s (aH ha.x hb.y) (aH ha.y hb.x),v_m ha.x hb.y,v_m ha.y hb.x]
theorem Vq.inj (ha:a.good) (hb:b.good) (hx:a.x.v=b.x.v) (hy:a.y.v=b.y.v) (hz:a.z.v=b.z.v):a=b:=by
 have e1:=m6 ha.x hb.x hx
 have e2:=m6 ha.y hb.y hy
 have e3:=m6 ha.z hb.z hz
 cases a;cases b;simp only at e1 e2 e3;subst e1;subst e2;subst e3;rfl
end
end Go.Proofs.YtfhinmdhjlmikaaDoor
namespace Go.Proofs.YtfhinmdhjlmikaaDoor
set_option linter.unusedSimpArgs false
set_option linter.unusedVariables false
set_option maxRecDepth 100000
open Go.RowKit
/-- A quaternion, a vector of rational numbers. -/
@[ext] structure QR where
 w:Rat
 x:Rat
 y:Rat
 z:Rat
@[ext] structure VR where
 x:Rat
 y:Rat
 z:Rat
def QR.nrm (a:QR):Rat:=a.w*a.w+(a.x*a.x+(a.y*a.y+a.z*a.z))
def QR.mul (p q:QR):QR:=⟨p.w*q.w - (p.x*q.x+(p.y*q.y+p.z*q.z)),q.x*p.w+p.x*q.w+(p.y*q.z - p.z*q.y),q.y*p.w+p.y*q.w+(p.z*q.x - p.x*q.z),q.z*p.w+p.z*q.w+(p.x*q.y - p.y*q.x)⟩
def QR.conj (a:QR):QR:=⟨a.w, -a.x, -a.y, -a.z⟩
def QR.smul (k:Rat) (a:QR):QR:=⟨k*a.w,k*a.x,k*a.y,k*a.z⟩
def QR.one:QR:=⟨1,0,0,0⟩
/-- Equal up to a factor. -/
def Sim (a b:QR):Prop:=∃k:Rat,k≠0∧b=QR.smul k a
/-- The image, times the square of the length. -/
def QR.rot (q:QR) (v:VR):VR:=
 ⟨(q.w*q.w - (q.x*q.x+(q.y*q.y+q.z*q.z)))*v.x+(2*(q.x*v.x+(q.y*v.y+q.z*v.z)))*q.x+(2*q.w)*(q.y*v.z - q.z*v.y),
  (q.w*q.w - (q.x*q.x+(q.y*q.y+q.z*q.z)))*v.y+(2*(q.x*v.x+(q.y*v.y+q.z*v.z)))*q.y+(2*q.w)*(q.z*v.x - q.x*v.z),
  (q.w*q.w - (q.x*q.x+(q.y*q.y+q.z*q.z)))*v.z+(2*(q.x*v.x+(q.y*v.y+q.z*v.z)))*q.z+(2*q.w)*(q.x*v.y - q.y*v.x)⟩
def VR.smul (k:Rat) (v:VR):VR:=⟨k*v.x,k*v.y,k*v.z⟩
def VR.dot (a b:VR):Rat:=a.x*b.x+(a.y*b.y+a.z*b.z)
def QR.app (q:QR) (v:VR):VR:=(q.rot v).smul (q.nrm)⁻¹
theorem fX (r:Rat):0≤r*r:=by
 rcases Rat.le_total (a:=0) (b:=r)with h | h
 ·exact Rat.mul_nonneg h h
 ·have:=Rat.mul_nonneg (show 0≤ -r by grind) (show 0≤ -r by grind);grind
theorem uz {a:QR}:a.nrm=0↔a.w=0∧a.x=0∧a.y=0∧a.z=0:=by
 unfold QR.nrm
 have h1:=fX a.w
 have h2:=fX a.x
 have h3:=fX a.y
 have h4:=fX a.z
 constructor
 ·intro h
  have e1:a.w*a.w=0:=by grind
  have e2:a.x*a.x=0:=by grind
  have e3:a.y*a.y=0:=by grind
  have e4:a.z*a.z=0:=by grind
  exact⟨by grind,by grind,by grind,by grind⟩
 ·rintro⟨e1,e2,e3,e4⟩
  rw[e1,e2,e3,e4];grind
theorem wF (p q:QR):(p.mul q).nrm=p.nrm*q.nrm:=by
 unfold QR.nrm QR.mul;grind
theorem uA (p:QR):p.conj.nrm=p.nrm:=by unfold QR.nrm QR.conj;grind
theorem uB (k:Rat) (p:QR):(QR.smul k p).nrm=k*k*p.nrm:=by unfold QR.nrm QR.smul;grind
theorem jP {a b:Rat} (ha:a≠0) (hb:b≠0):a*b≠0:=fun h=>by rcases Rat.mul_eq_zero.1 h with h | h;exact ha h;exact hb h
theorem Sim.refl (a:QR):Sim a a:=⟨1,by decide,by unfold QR.smul;ext<;>simp only<;>grind⟩
theorem Sim.symm {a b:QR} (h:Sim a b):Sim b a:=by
 obtain⟨k,hk,rfl⟩:=h
 refine⟨k⁻¹,fun h=>by have h1:=Rat.inv_mul_cancel k hk;rw[h]at h1;grind,?_⟩
 have:=Rat.inv_mul_cancel k hk
 unfold QR.smul;ext<;>simp only<;>grind
theorem Sim.trans {a b c:QR} (h:Sim a b) (h2:Sim b c):Sim a c:=by
 obtain⟨k,hk,rfl⟩:=h
 obtain⟨l,hl,rfl⟩:=h2
 exact⟨l*k,jP hl hk,by unfold QR.smul;ext<;>simp only<;>grind⟩
theorem Sim.mul {a a' b b':QR} (h:Sim a a') (h2:Sim b b'):Sim (a.mul b) (a'.mul b'):=by
 obtain⟨k,hk,rfl⟩:=h
 obtain⟨l,hl,rfl⟩:=h2
 exact⟨k*l,jP hk hl,by unfold QR.smul QR.mul;ext<;>simp only<;>grind⟩
theorem Sim.conj {a b:QR} (h:Sim a b):Sim a.conj b.conj:=by
 obtain⟨k,hk,rfl⟩:=h
 exact⟨k,hk,by unfold QR.smul QR.conj;ext<;>simp only<;>grind⟩
theorem Sim.nrm {a b:QR} (h:Sim a b) (ha:a.nrm≠0):b.nrm≠0:=by
 obtain⟨k,hk,rfl⟩:=h
 rw[uB];exact jP (jP hk hk) ha
end Go.Proofs.YtfhinmdhjlmikaaDoor
