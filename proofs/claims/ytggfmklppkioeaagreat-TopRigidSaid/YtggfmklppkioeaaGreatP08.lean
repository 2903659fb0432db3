/- Package fraction and its reference, by the executor. The plain law of fractions: what they stand for (rational numbers), and the laws of a field, of the order, of Lerp and of Floor. The plain law of vectors of fractions. The plain law of rotations, in rational numbers: quaternions up to a factor, and how they turn vectors. -/
import Derived.Test.YtggfmklppkioeaaGreatP07
namespace Go.Proofs.YtggfmklppkioeaaGreat
set_option linter.unusedSimpArgs false
set_option linter.unusedVariables false
set_option maxRecDepth 100000
open Go.RowKit
def Fq.same (x y:Fq):Bool:=x.s==y.s && (decide (x.p=y.p) && decide (x.q=y.q))
theorem Fq.same_iff {x y:Fq}:x.same y=true↔x=y:=by
 obtain⟨a,b,c⟩:=x;obtain⟨a',b',c'⟩:=y;simp[Fq.same]
theorem bsz (l:Array UInt8):(ByteArray.mk l).size=l.size:=rfl
def nt (n:Nat):SV:=.agg [.ref n]
def q3 (i j k:Nat):SV:=.agg [.ref i,.ref j,.ref k]
theorem nl_addN {m n d e:Nat} (hm:nl m≤d) (hn:nl n≤e):nl (m+n)≤d+e+1:=aR.2 (sm_add (aR.1 hm) (aR.1 hn))
theorem yb {m n d:Nat} (hm:nl m≤d):nl (m - n)≤d:=Nat.le_trans (dH (Nat.sub_le _ _)) hm
theorem yc {m n d:Nat} (hm:nl m≤d):nl (m / n)≤d:=Nat.le_trans (dH (Nat.div_le_self _ _)) hm
theorem du {m n d e:Nat} (hm:nl m≤d) (hn:nl n≤e):nl (Nat.gcd m n)≤d+e:=by
 by_cases h:n=0
 ·subst h;rw[Nat.gcd_zero_right];omega
 ·have:=dH (Nat.gcd_le_right m (Nat.pos_of_ne_zero h));omega
theorem nl_one:nl 1≤1:=aR.2 (by decide)
theorem beq_t {a b:Bool} (h:a=b):(a==b)=true:=by simpa using h
theorem beq_f {a b:Bool} (h:a≠b):(a==b)=false:=by simpa using h
theorem le_t {m n:Nat} (h:¬m<n):decide (n≤m)=true:=decide_eq_true (by omega)
theorem le_f {m n:Nat} (h:m<n):decide (n≤m)=false:=decide_eq_false (by omega)
theorem cmp_cs (m n:Nat):(m<n∧cmpI m n= -1)∨(n<m∧cmpI m n=1)∨(m=n∧cmpI m n=0):=by
 rcases Nat.lt_trichotomy m n with h | h | h
 ·exact .inl ⟨h,kB h⟩
 ·exact .inr (.inr ⟨h,xM h⟩)
 ·exact .inr (.inl ⟨h,rQ h⟩)
theorem cmp_ne_t {m n:Nat} (h:m≠n):(cmpI m n !=0)=true:=bneq_t (by have:=cmp_cs m n;omega)
theorem cmp_ne_f {m n:Nat} (h:m=n):(cmpI m n !=0)=false:=bneq_f (by have:=cmp_cs m n;omega)
theorem lowz {m n:Nat} (h0:n≠0):m / Nat.gcd m n=0↔m=0:=by
 have hg:=Nat.gcd_pos_of_pos_right m (Nat.pos_of_ne_zero h0);rw[Nat.div_eq_zero_iff];constructor
 ·rintro(h | h)
  ·omega
  ·rcases Nat.eq_zero_or_pos m with h2 | h2
   ·exact h2
   ·have:=Nat.gcd_le_left n h2;omega
 ·rintro rfl;exact .inr hg
section
variable {ρ:Rho} {B:Blk} {w:World} {v:Value} {i j k l' n:Nat} {l r:Leaf} {m z z':Nat} {f:FuncId} {s b:Bool} {x y u:Fq} {t:TypeId} {c:Int} {p q a d:Nat} {S:Bool} {P Q P0 Q0:Nat} {S0:Bool}
theorem nt_isR {L N:Nat} (h:ρ[n]? =some (.dig L N)):(nt n).holds ρ B w v↔IsR w v L N:=by
 constructor
 ·rintro⟨vs,rfl,h1⟩
  match vs,h1 with
  | [x],h1=>exact(iF h).1 h1.1
 ·intro h1;obtain⟨a,c,rfl,h2⟩:=h1;exact⟨[_],rfl,(iF h).2 ⟨a,c,rfl,h2⟩,trivial⟩
theorem bz {N:Nat} (h:ρ[n]? =some (.dig (nl N) N)):(nt n).holds ρ B w v↔IsN w v N:=nt_isR h
theorem inFR {L N:Nat} (h:ug w v s L p N q) (hl:∀B w,l.holds ρ B w (.bool s)) (hj:ρ[j]? =some (.dig L p)) (hk:ρ[k]? =some (.dig N q)):(SV.agg [l,.ref j,.ref k]).holds ρ B w v:=by
 obtain⟨a,c,b,d,rfl,h1,h2⟩:=h;exact⟨[_,_,_],rfl,hl B w,(iF hj).2 h1,(iF hk).2 h2,trivial⟩
theorem inF (h:IsF w v s p q) (hl:∀B w,l.holds ρ B w (.bool s)) (hj:ρ[j]? =some (.dig (nl p) p)) (hk:ρ[k]? =some (.dig (nl q) q)):(SV.agg [l,.ref j,.ref k]).holds ρ B w v:=inFR (s:=s) (L:=nl p) (N:=nl q) h hl hj hk
theorem jz (h:(SV.agg [l,.ref j,.ref k]).holds ρ B w v) (hl:∀B w x,l.holds ρ B w x→x= .bool S0) (hp:ρ[j]? =some (.dig (nl P0) P0)) (hq:ρ[k]? =some (.dig (nl Q0) Q0)) (eS:S0=S) (eP:P0=P) (eQ:Q0=Q):IsF w v S P Q:=by
 subst eS;subst eP;subst eQ;obtain⟨vs,rfl,h1⟩:=h
 match vs,h1 with
 | [x,y,z],h1=>
  have e1:=hl _ _ _ h1.1;subst e1;have h2:=(iF hp).1 h1.2.1;have h3:=(iF hq).1 h1.2.2.1;have hs:∀ {x:Value} {L N:Nat},IsR w (.agg #[x]) L N→∃a c,x= .slice a L c:=fun {x L N} h=>by
   obtain⟨a,c,e,_⟩:=h;injection e with e;have:=congrArg (fun x:Array Value=>x[0]?) e;exact⟨a,c,by simpa using this⟩
  obtain⟨a,c,rfl⟩:=hs h2;obtain⟨b,d,rfl⟩:=hs h3;exact⟨a,c,b,d,rfl,h2,h3⟩
theorem outT {A:SV} (h:(AV.tup [A,.one l]).holds ρ B w v) (hl:∀B w x,l.holds ρ B w x→x= .int .i64 c):∃u,v= .tuple #[u,.int .i64 c]∧A.holds ρ B w u:=by
 obtain⟨vs,rfl,h1⟩:=h
 match vs,h1 with
 | [x,y],h1=>
  have e:=hl _ _ _ h1.2.1;subst e;exact⟨x,rfl,h1.1⟩
theorem jS {a b:Bool} (h:(SV.agg [l,r]).holds ρ B w v) (hl:∀B w x,l.holds ρ B w x→x= .bool a) (hr:∀B w x,r.holds ρ B w x→x= .bool b):v= .agg #[.bool a,.bool b]:=by
 obtain⟨vs,rfl,h1⟩:=h
 match vs,h1 with
 | [x,y],h1=>
  obtain rfl:=hl _ _ _ h1.1;obtain rfl:=hr _ _ _ h1.2.1;rfl
def FAt (ρ:Rho) (l:Leaf) (a b:Nat) (x:Fq):Prop:=(∀B w,l.holds ρ B w (.bool x.s))∧(∀B w v,l.holds ρ B w v→v= .bool x.s)∧ρ[a]? =some (.dig (nl x.p) x.p)∧ρ[b]? =some (.dig (nl x.q) x.q)
theorem cz {a b:Nat} (h1:∀B w,l.holds ρ B w (.bool x.s)) (h2:∀B w v,l.holds ρ B w v→v= .bool x.s) (h3:ρ[a]? =some (.dig (nl x.p) x.p)) (h4:ρ[b]? =some (.dig (nl x.q) x.q)):FAt ρ l a b x:=⟨h1,h2,h3,h4⟩
theorem FAt.isQ {a b:Nat} (h:FAt ρ l a b x) (hv:(SV.agg [l,.ref a,.ref b]).holds ρ B w v):IsQ w v x:=jz hv h.2.1 h.2.2.1 h.2.2.2 rfl rfl rfl
theorem FAt.into {a b:Nat} (h:FAt ρ l a b x) (hv:IsQ w v x):(SV.agg [l,.ref a,.ref b]).holds ρ B w v:=inF hv h.1 h.2.2.1 h.2.2.2
theorem bl2 {b c:Bool} (h:b=c):∀B w x,(Leaf.b c).holds ρ B w x→x= .bool b:=fun _ _ _ e=>by subst h;exact e
theorem i2N (hen:jy f) (hc:∀va vb w,IsN w va m→IsN w vb n→Calls Tryz.prog f #[va,vb] w (fun e w'=>RetN w z e w')) (hi:ρ[i]? =some (.dig (nl m) m)) (hj:ρ[j]? =some (.dig (nl n) n)) (hk:ρ[k]? =some (.dig (nl z) z)):Inst.Ok Tryz.prog ρ ⟨f,[nt i,nt j],.v (nt k)⟩:=
 ⟨hen,fun B w vs hB h=>by
  match vs,h with
  | [va,vb],h=>
   refine(hc va vb w ((bz hi).1 h.1) ((bz hj).1 h.2.1)).mono ?_;rintro e w' ⟨v,rfl,h1,h2⟩;exact⟨v,rfl,(bz hk).2 h1,h2⟩⟩
theorem i1V {u:Value} (hen:jy f) (hc:∀va w,IsN w va m→Calls Tryz.prog f #[va] w (fun e w'=>cI w u e w')) (hi:ρ[i]? =some (.dig (nl m) m)) (hl:∀B w,l.holds ρ B w u):Inst.Ok Tryz.prog ρ ⟨f,[nt i],.v (.one l)⟩:=
 ⟨hen,fun B w vs hB h=>by
  match vs,h with
  | [va],h=>
   refine(hc va w ((bz hi).1 h.1)).mono ?_;rintro e w' ⟨rfl,h2⟩;exact⟨_,rfl,hl B w',h2⟩⟩
theorem i2V {u:Value} (hen:jy f) (hc:∀va vb w,IsN w va m→IsN w vb n→Calls Tryz.prog f #[va,vb] w (fun e w'=>cI w u e w')) (hi:ρ[i]? =some (.dig (nl m) m)) (hj:ρ[j]? =some (.dig (nl n) n)) (hl:∀B w,l.holds ρ B w u):Inst.Ok Tryz.prog ρ ⟨f,[nt i,nt j],.v (.one l)⟩:=
 ⟨hen,fun B w vs hB h=>by
  match vs,h with
  | [va,vb],h=>
   refine(hc va vb w ((bz hi).1 h.1) ((bz hj).1 h.2.1)).mono ?_;rintro e w' ⟨rfl,h2⟩;exact⟨_,rfl,hl B w',h2⟩⟩
theorem i1QQ {a b a' b':Nat} (hen:jy f) (hc:∀va w,IsQ w va x→Calls Tryz.prog f #[va] w (fun e w'=>jx w u e w')) (hx:FAt ρ l a b x) (hr:FAt ρ r a' b' u):Inst.Ok Tryz.prog ρ ⟨f,[.agg [l,.ref a,.ref b]],.v (.agg [r,.ref a',.ref b'])⟩:=
 ⟨hen,fun B w vs hB h=>by
  match vs,h with
  | [va],h=>
   refine(hc va w (hx.isQ h.1)).mono ?_;rintro e w' ⟨v,rfl,h1,h2⟩;exact⟨v,rfl,hr.into h1,h2⟩⟩
theorem i2QQ {a b a' b' c d:Nat} {l2:Leaf} (hen:jy f) (hc:∀va vb w,IsQ w va x→IsQ w vb y→Calls Tryz.prog f #[va,vb] w (fun e w'=>jx w u e w')) (hx:FAt ρ l a b x) (hy:FAt ρ l2 c d y) (hr:FAt ρ r a' b' u):Inst.Ok Tryz.prog ρ ⟨f,[.agg [l,.ref a,.ref b],.agg [l2,.ref c,.ref d]],.v (.agg [r,.ref a',.ref b'])⟩:=
 ⟨hen,fun B w vs hB h=>by
  match vs,h with
  | [va,vb],h=>
   refine(hc va vb w (hx.isQ h.1) (hy.isQ h.2.1)).mono ?_;rintro e w' ⟨v,rfl,h1,h2⟩;exact⟨v,rfl,hr.into h1,h2⟩⟩
theorem i1QV {a b:Nat} {u:Value} (hen:jy f) (hc:∀va w,IsQ w va x→Calls Tryz.prog f #[va] w (fun e w'=>cI w u e w')) (hx:FAt ρ l a b x) (hl:∀B w,r.holds ρ B w u):Inst.Ok Tryz.prog ρ ⟨f,[.agg [l,.ref a,.ref b]],.v (.one r)⟩:=
 ⟨hen,fun B w vs hB h=>by
  match vs,h with
  | [va],h=>
   refine(hc va w (hx.isQ h.1)).mono ?_;rintro e w' ⟨rfl,h2⟩;exact⟨_,rfl,hl B w',h2⟩⟩
theorem gF.toN {W w':World} {e:Ending} (h:gF W n e w'):RetN W n e w':=by obtain⟨v,h1,h2,h3⟩:=h;exact⟨v,h1,h2.isN,h3⟩
theorem rR.out {W w':World} {m n:Nat} {e:Ending} (h:rR W m n e w'):∃v,e= .returned (.tuple #[v,.bool (decide (n≤m))])∧IsN w' v (m - n)∧Below W.heap.size W w':=by obtain⟨v,h1,h2,h3⟩:=h;exact⟨v,h1,h2.isN,h3⟩
theorem io.out {W w':World} {q r:Nat} {c:Int} {e:Ending} (h:io W q r c e w'):∃a b,e= .returned (.tuple #[a,b,.int .i64 c])∧IsN w' a q∧IsN w' b r∧Below W.heap.size W w':=by obtain⟨a,b,h1,h2,h3,h4⟩:=h;exact⟨a,b,h1,h2.isN,h3.isN,h4⟩
theorem RetP.out {W w':World} {N:Nat} {c:Int} {e:Ending} (h:RetP W N c e w'):∃v,e= .returned (.tuple #[v,.int .i64 c])∧IsN w' v N∧Below W.heap.size W w':=by obtain⟨v,h1,h2,h3⟩:=h;exact⟨v,h1,h2.isN,h3⟩
theorem iSub (hen:jy f) (hc:∀va vb w,IsN w va m→IsN w vb n→Calls Tryz.prog f #[va,vb] w (fun e w'=>rR w m n e w')) (hi:ρ[i]? =some (.dig (nl m) m)) (hj:ρ[j]? =some (.dig (nl n) n)) (hk:ρ[k]? =some (.dig (nl (m - n)) (m - n))) (hb:decide (n≤m)=b):Inst.Ok Tryz.prog ρ ⟨f,[nt i,nt j],.tup [nt k,.one (.b b)]⟩:=
 ⟨hen,fun B w vs hB h=>by
  match vs,h with
  | [va,vb],h=>
   refine(hc va vb w ((bz hi).1 h.1) ((bz hj).1 h.2.1)).mono ?_;intro e w' hr;obtain⟨v,rfl,h1,h2⟩:=hr.out;subst hb;exact⟨_,rfl,⟨[v,.bool _],rfl,(bz hk).2 h1,rfl,trivial⟩,h2⟩⟩
theorem iDiv (hen:jy f) (hc:∀va vb w,IsN w va m→IsN w vb n→Calls Tryz.prog f #[va,vb] w (fun e w'=>io w (m / n) (m % n) 0 e w')) (hi:ρ[i]? =some (.dig (nl m) m)) (hj:ρ[j]? =some (.dig (nl n) n)) (hk:ρ[k]? =some (.dig (nl (m / n)) (m / n))) (hl:ρ[l']? =some (.dig (nl (m % n)) (m % n))):Inst.Ok Tryz.prog ρ ⟨f,[nt i,nt j],.tup [nt k,nt l',.one (.i .i64 0)]⟩:=
 ⟨hen,fun B w vs hB h=>by
  match vs,h with
  | [va,vb],h=>
   refine(hc va vb w ((bz hi).1 h.1) ((bz hj).1 h.2.1)).mono ?_;intro e w' hr;obtain⟨x,y,rfl,h1,h3,h2⟩:=hr.out;exact⟨_,rfl,⟨[x,y,.int .i64 0],rfl,(bz hk).2 h1,(bz hl).2 h3,rfl,trivial⟩,h2⟩⟩
theorem iOf {N:Nat} (hen:jy f) (hc:∀w,Calls Tryz.prog f #[.int .u64 (N:Int)] w (fun e w'=>RetN w N e w')) (hl:∀B w x,l.holds ρ B w x→x= .int .u64 (N:Int)) (hk:ρ[k]? =some (.dig (nl N) N)):Inst.Ok Tryz.prog ρ ⟨f,[.one l],.v (nt k)⟩:=
 ⟨hen,fun B w vs hB h=>by
  match vs,h with
  | [va],h=>
   obtain rfl:=hl _ _ _ h.1;refine(hc w).mono ?_;rintro e w' ⟨v,rfl,h1,h2⟩;exact⟨v,rfl,(bz hk).2 h1,h2⟩⟩
theorem iVR {L N:Nat} (hen:jy f) (hc:∀va w,IsR w va L N→Calls Tryz.prog f #[va] w (fun e w'=>cI w (.bool (decide (nl N=L))) e w')) (hi:ρ[i]? =some (.dig L N)) (hb:decide (nl N=L)=b):Inst.Ok Tryz.prog ρ ⟨f,[nt i],.v (.one (.b b))⟩:=
 ⟨hen,fun B w vs hB h=>by
  match vs,h with
  | [va],h=>
   refine(hc va w ((nt_isR hi).1 h.1)).mono ?_;rintro e w' ⟨rfl,h2⟩;exact⟨_,rfl,by subst hb;rfl,h2⟩⟩
end
section
variable {ρ:Rho} {i j k l n m:Nat} {b:Bool} {r:Leaf} {c:Int} {st:ByteArray} {N L:Nat} {t:TypeId} {v:Int}
theorem dV (hi:ρ[i]? =some (.dig (nl m) m)) (hj:ρ[j]? =some (.dig (nl n) n)) (hk:ρ[k]? =some (.dig (nl (m*n)) (m*n))) (hm:nl m≤1000000000000) (hn:nl n≤1000000000000):Inst.Ok Tryz.prog ρ ⟨145,[nt i,nt j],.v (nt k)⟩:=
 i2N (az Tryz.func145 rfl rfl) (fun va vb w h1 h2=>(qm va vb m n w h1 h2 hm hn).mono fun _ _ h=>h.toN) hi hj hk
theorem gN (hi:ρ[i]? =some (.dig (nl m) m)) (hj:ρ[j]? =some (.dig (nl n) n)) (hk:ρ[k]? =some (.dig (nl (Nat.gcd m n)) (Nat.gcd m n))) (hm:nl m≤1000000000000) (hn:nl n≤1000000000000):Inst.Ok Tryz.prog ρ ⟨199,[nt i,nt j],.v (nt k)⟩:=
 i2N (az Tryz.func199 rfl rfl) (fun va vb w h1 h2=>(qo va vb m n w h1 h2 hm hn).mono fun _ _ h=>h.toN) hi hj hk
theorem I_nAdd (hi:ρ[i]? =some (.dig (nl m) m)) (hj:ρ[j]? =some (.dig (nl n) n)) (hk:ρ[k]? =some (.dig (nl (m+n)) (m+n))) (hm:nl m≤1000000000000) (hn:nl n≤1000000000000):Inst.Ok Tryz.prog ρ ⟨147,[nt i,nt j],.v (nt k)⟩:=
 i2N (az Tryz.func147 rfl rfl) (fun va vb w h1 h2=>(jD va vb m n w h1 h2 hm hn).mono fun _ _ h=>h.toN) hi hj hk
theorem jb (hi:ρ[i]? =some (.dig (nl m) m)) (hk:ρ[k]? =some (.dig (nl m) m)) (hm:nl m≤1000000000000):Inst.Ok Tryz.prog ρ ⟨147,[nt i,.agg [.sl0]],.v (nt k)⟩:=
 ⟨az Tryz.func147 rfl rfl,fun B w vs hB h=>by
  match vs,h with
  | [va,vb],h=>
   obtain⟨us,rfl,h3⟩:=h.2.1
   match us,h3 with
   | [x],h3=>
    have e:x= .slice none 0 0:=h3.1;subst e;have h0:IsN w (.agg #[.slice none 0 0]) 0:=⟨none,0,by rw[bv],by rw[bv];omega,by rw[bv];decide,fun h=>by rw[bv]at h;omega⟩;refine(jD va _ m 0 w ((bz hi).1 h.1) h0 hm (by rw[bv];decide)).mono ?_;intro e w' hr;obtain⟨v,rfl,h1,h2⟩:=hr.toN;exact⟨v,rfl,(bz hk).2 h1,h2⟩⟩
theorem wl (hi:ρ[i]? =some (.dig (nl m) m)) (hj:ρ[j]? =some (.dig (nl n) n)) (hk:ρ[k]? =some (.dig (nl (m - n)) (m - n))) (hb:decide (n≤m)=b) (hm:nl m≤1000000000000) (hn:nl n≤1000000000000):Inst.Ok Tryz.prog ρ ⟨148,[nt i,nt j],.tup [nt k,.one (.b b)]⟩:=
 iSub (az Tryz.func148 rfl rfl) (fun va vb w h1 h2=>ql va vb m n w h1 h2 hm hn) hi hj hk hb
theorem mm (hi:ρ[i]? =some (.dig (nl m) m)) (hj:ρ[j]? =some (.dig (nl n) n)) (hk:ρ[k]? =some (.dig (nl (m / n)) (m / n))) (hl:ρ[l]? =some (.dig (nl (m % n)) (m % n))) (hm:nl m≤1000000000000) (hn:nl n≤1000000000000) (h0:n≠0):Inst.Ok Tryz.prog ρ ⟨200,[nt i,nt j],.tup [nt k,nt l,.one (.i .i64 0)]⟩:=
 iDiv (az Tryz.func200 rfl rfl) (fun va vb w h1 h2=>gh va vb m n w h1 h2 hm hn h0) hi hj hk hl
theorem I_nCmp (hi:ρ[i]? =some (.dig (nl m) m)) (hj:ρ[j]? =some (.dig (nl n) n)) (hl:∀B w,r.holds ρ B w (.int .i64 (cmpI m n))) (hm:nl m≤1000000000000) (hn:nl n≤1000000000000):Inst.Ok Tryz.prog ρ ⟨191,[nt i,nt j],.v (.one r)⟩:=
 i2V (az Tryz.func191 rfl rfl) (fun va vb w h1 h2=>qk va vb m n w h1 h2 (by omega) (by omega)) hi hj hl
theorem I_nOf (hk:ρ[k]? =some (.dig (nl N) N)) (hN:N<18446744073709551616):Inst.Ok Tryz.prog ρ ⟨142,[.one (.i .u64 (N:Int))],.v (nt k)⟩:=
 iOf (az Tryz.func142 rfl rfl) (fun w=>(eH N w hN).mono fun _ _ h=>h.toN) (fun _ _ _ h=>h) hk
theorem mn (hi:ρ[i]? =some (.dig (nl m) m)) (hl:∀B w,r.holds ρ B w (.string (cC m))) (hm:nl m≤1000000000000):Inst.Ok Tryz.prog ρ ⟨130,[nt i],.v (.one r)⟩:=
 i1V (az Tryz.func130 rfl rfl) (fun va w h1=>ma va m w h1 hm) hi hl
theorem jc (hi:ρ[i]? =some (.dig L N)) (hb:decide (nl N=L)=b) (hL:L≤1000000000000):Inst.Ok Tryz.prog ρ ⟨279,[nt i],.v (.one (.b b))⟩:=
 iVR (az Tryz.func279 rfl rfl) (fun va w h1=>(np va L N w h1 (by omega)).mono fun e w' h=>⟨h.1.trans (by rw[decide_eq_decide.2 (eq_comm)]),h.2⟩) hi hb
theorem bM (hi:ρ[i]? =some (.dig (nl N) N)) (_h:(0:Nat)=0) (hL:nl N≤1000000000000):Inst.Ok Tryz.prog ρ ⟨279,[nt i],.v (.one (.b true))⟩:=jc hi (decide_eq_true rfl) hL
theorem bN (hi:ρ[i]? =some (.dig (nl m) m)) (hb:decide (m=0)=b) (hm:nl m≤1000000000000):Inst.Ok Tryz.prog ρ ⟨197,[nt i],.v (.one (.b b))⟩:=
 i1V (az Tryz.func197 rfl rfl) (fun va w h1=>c_isZero va m w h1 hm) hi (lb hb)
theorem I_mag (hi:ρ[i]? =some (.val (.int .i64 v))) (hk:ρ[k]? =some (.dig (nl v.natAbs) v.natAbs)) (lv: -9223372036854775808≤v) (rv:v<9223372036854775808):Inst.Ok Tryz.prog ρ ⟨141,[.one (.ref i)],.v (nt k)⟩:=
 ⟨az Tryz.func141 rfl rfl,fun B w vs hB h=>by
  match vs,h with
  | [va],h=>
   obtain rfl:=aO hi h.1;refine(c_mag v w lv rv).mono ?_;rintro e w' ⟨x,rfl,h1,h2⟩;exact⟨x,rfl,(bz hk).2 h1,h2⟩⟩
theorem wm {ik:IntKind} {u:Int} (hn:ρ[n]? =some (.val (.int ik u))) (hl:∀B w,r.holds ρ B w (.bool (decide (u<c)))):(OIns.mk (.bin .lss t) [.one (.ref n),.one (.i ik c)] (.one r)).Ok Tryz.prog ρ:=fun B w vs hv=>by
 match vs,hv with
 | [v1,v2],hv=>
  have e:=aO (B:=B) hn hv.1;have e2:v2= .int ik c:=hv.2.1;subst e;subst e2;exact⟨_,hl B w,fun xo yo=>by simp[eqGuard,binOp,Op.intCmp,Sem.run_bind,Result.andThen]⟩
theorem eJ (a b c d:Bool):(OIns.mk (.bin .eql 258) [.agg [.b a,.b b],.agg [.b c,.b d]] (.one (.b (a==c && b==d)))).Ok Tryz.prog ρ:=fun B w vs hv=>by
 match vs,hv with
 | [v1,v2],hv=>
  obtain rfl:=jS hv.1 (bl _) (bl _);obtain rfl:=jS hv.2.1 (bl _) (bl _);exact⟨_,rfl,fun xo yo=>by rw[Sem.run_bind,wj];exact run_eqSS a b c d w⟩
theorem gO (a b c d:Bool):(OIns.mk (.bin .neq 258) [.agg [.b a,.b b],.agg [.b c,.b d]] (.one (.b (!(a==c && b==d))))).Ok Tryz.prog ρ:=fun B w vs hv=>by
 match vs,hv with
 | [v1,v2],hv=>
  obtain rfl:=jS hv.1 (bl _) (bl _);obtain rfl:=jS hv.2.1 (bl _) (bl _);exact⟨_,rfl,fun xo yo=>by rw[Sem.run_bind,wk];exact run_neSS a b c d w⟩
end
theorem q_low (s:Bool) (va vb:Value) (m n:Nat) (w:World) (ha:IsN w va m) (hb:IsN w vb n) (hm:nl m≤10000000000) (hn:nl n≤10000000000) (h0:n≠0):
  Calls Tryz.prog 146 #[.bool s,va,vb] w fun e w'=>jx w (Fq.low s m n) e w':=by
 rcases Bool.eq_false_or_eq_true (s)with c0 | c0
 ·by_cases c1:(m / (Nat.gcd m n))=0
  ·refine(cRn (ρ:=[.dig (nl m) m,.dig (nl n) n,.dig (nl (Nat.gcd m n)) (Nat.gcd m n),.dig (nl (m / (Nat.gcd m n))) (m / (Nat.gcd m n)),.dig (nl (m % (Nat.gcd m n))) (m % (Nat.gcd m n)),.dig (nl (n / (Nat.gcd m n))) (n / (Nat.gcd m n)),.dig (nl (n % (Nat.gcd m n))) (n % (Nat.gcd m n))]) (args:=[.one (.b true),nt 0,nt 1]) (vs:=[.bool s,va,vb]) (r:=.v (.agg [.b false,.ref 3,.ref 5]))
    (ae (gN (i:=0) (j:=1) (k:=2) rfl rfl rfl (Nat.le_trans hm (by decide)) (Nat.le_trans hn (by decide))) (ae (mm (i:=0) (j:=2) (k:=3) (l:=4) rfl rfl rfl rfl (Nat.le_trans hm (by decide)) (Nat.le_trans (du hm hn) (by decide)) (Nat.gcd_ne_zero_right h0)) (ae (mm (i:=1) (j:=2) (k:=5) (l:=6) rfl rfl rfl rfl (Nat.le_trans hn (by decide)) (Nat.le_trans (du hm hn) (by decide)) (Nat.gcd_ne_zero_right h0)) (ae (bN (i:=3) rfl (decide_eq_true c1) (Nat.le_trans (yc hm) (by decide))) ah))))
    ai Tryz.func146 (by kernel_rfl) ⟨congrArg Value.bool c0,⟨(bz rfl).2 ha,⟨(bz rfl).2 hb,trivial⟩⟩⟩).mono ?_
   rintro e w' ⟨v,rfl,h1,h2⟩;exact⟨v,rfl,jz h1 (bl false) rfl rfl (by simp[Fq.low,fR,c0,(lowz h0).1 c1]) (rfl) (rfl),h2⟩
  ·refine(cRn (ρ:=[.dig (nl m) m,.dig (nl n) n,.dig (nl (Nat.gcd m n)) (Nat.gcd m n),.dig (nl (m / (Nat.gcd m n))) (m / (Nat.gcd m n)),.dig (nl (m % (Nat.gcd m n))) (m % (Nat.gcd m n)),.dig (nl (n / (Nat.gcd m n))) (n / (Nat.gcd m n)),.dig (nl (n % (Nat.gcd m n))) (n % (Nat.gcd m n))]) (args:=[.one (.b true),nt 0,nt 1]) (vs:=[.bool s,va,vb]) (r:=.v (.agg [.b true,.ref 3,.ref 5]))
    (ae (gN (i:=0) (j:=1) (k:=2) rfl rfl rfl (Nat.le_trans hm (by decide)) (Nat.le_trans hn (by decide))) (ae (mm (i:=0) (j:=2) (k:=3) (l:=4) rfl rfl rfl rfl (Nat.le_trans hm (by decide)) (Nat.le_trans (du hm hn) (by decide)) (Nat.gcd_ne_zero_right h0)) (ae (mm (i:=1) (j:=2) (k:=5) (l:=6) rfl rfl rfl rfl (Nat.le_trans hn (by decide)) (Nat.le_trans (du hm hn) (by decide)) (Nat.gcd_ne_zero_right h0)) (ae (bN (i:=3) rfl (decide_eq_false c1) (Nat.le_trans (yc hm) (by decide))) ah))))
    ai Tryz.func146 (by kernel_rfl) ⟨congrArg Value.bool c0,⟨(bz rfl).2 ha,⟨(bz rfl).2 hb,trivial⟩⟩⟩).mono ?_
   rintro e w' ⟨v,rfl,h1,h2⟩;exact⟨v,rfl,jz h1 (bl true) rfl rfl (by simp[Fq.low,fR,c0,mt (lowz h0).2 c1]) (rfl) (rfl),h2⟩
 ·refine(cRn (ρ:=[.dig (nl m) m,.dig (nl n) n,.dig (nl (Nat.gcd m n)) (Nat.gcd m n),.dig (nl (m / (Nat.gcd m n))) (m / (Nat.gcd m n)),.dig (nl (m % (Nat.gcd m n))) (m % (Nat.gcd m n)),.dig (nl (n / (Nat.gcd m n))) (n / (Nat.gcd m n)),.dig (nl (n % (Nat.gcd m n))) (n % (Nat.gcd m n))]) (args:=[.one (.b false),nt 0,nt 1]) (vs:=[.bool s,va,vb]) (r:=.v (.agg [.b false,.ref 3,.ref 5]))
   (ae (gN (i:=0) (j:=1) (k:=2) rfl rfl rfl (Nat.le_trans hm (by decide)) (Nat.le_trans hn (by decide))) (ae (mm (i:=0) (j:=2) (k:=3) (l:=4) rfl rfl rfl rfl (Nat.le_trans hm (by decide)) (Nat.le_trans (du hm hn) (by decide)) (Nat.gcd_ne_zero_right h0)) (ae (mm (i:=1) (j:=2) (k:=5) (l:=6) rfl rfl rfl rfl (Nat.le_trans hn (by decide)) (Nat.le_trans (du hm hn) (by decide)) (Nat.gcd_ne_zero_right h0)) ah)))
   ai Tryz.func146 (by kernel_rfl) ⟨congrArg Value.bool c0,⟨(bz rfl).2 ha,⟨(bz rfl).2 hb,trivial⟩⟩⟩).mono ?_
  rintro e w' ⟨v,rfl,h1,h2⟩;exact⟨v,rfl,jz h1 (bl false) rfl rfl (by simp[Fq.low,fR,c0]) (rfl) (rfl),h2⟩
theorem qT {ρ:Rho} {S:Bool} {l:Leaf} {i j x y z m n:Nat} (hl:∀B w v,l.holds ρ B w v→v= .bool S) (hi:ρ[i]? =some (.dig (nl m) m)) (hj:ρ[j]? =some (.dig (nl n) n)) (hx:ρ[x]? =some (.val (.bool (Fq.low S m n).s))) (hy:ρ[y]? =some (.dig (nl (Fq.low S m n).p) (Fq.low S m n).p)) (hz:ρ[z]? =some (.dig (nl (Fq.low S m n).q) (Fq.low S m n).q)) (hm:nl m≤10000000000) (hn:nl n≤10000000000) (h0:n≠0):Inst.Ok Tryz.prog ρ ⟨146,[.one l,nt i,nt j],.v (.agg [.ref x,.ref y,.ref z])⟩:=
 ⟨az Tryz.func146 rfl rfl,fun B w vs hB h=>by
  match vs,h with
  | [v1,v2,v3],h=>
   obtain rfl:=hl _ _ _ h.1;refine(q_low S v2 v3 m n w ((bz hi).1 h.2.1) ((bz hj).1 h.2.2.1) hm hn h0).mono ?_;rintro e w' ⟨v,rfl,h1,h2⟩;exact⟨v,rfl,inF h1 (lrb hx) hy hz,h2⟩⟩
theorem q_Make (s:Bool) (va vb:Value) (m n:Nat) (w:World) (ha:IsN w va m) (hb:IsN w vb n) (hm:nl m≤10000000000) (hn:nl n≤10000000000) (h0:n≠0):
  Calls Tryz.prog 215 #[.bool s,va,vb] w fun e w'=>xR w (Fq.low s m n) 0 e w':=by
 refine(cRn (ρ:=[.val (.bool s),.dig (nl m) m,.dig (nl n) n,.val (.bool (Fq.low s m n).s),.dig (nl (Fq.low s m n).p) (Fq.low s m n).p,.dig (nl (Fq.low s m n).q) (Fq.low s m n).q]) (args:=[.one (.ref 0),nt 1,nt 2]) (vs:=[.bool s,va,vb]) (r:=.tup [q3 3 4 5,.one (.i .i64 0)])
  (ae (bN (i:=2) rfl (decide_eq_false h0) (Nat.le_trans hn (by decide))) (ae (qT (i:=1) (j:=2) (x:=3) (y:=4) (z:=5) (br (n:=0) rfl) rfl rfl rfl rfl rfl hm hn h0) ah))
  ai Tryz.func215 (by kernel_rfl) ⟨aB (n:=0) rfl bU,⟨(bz rfl).2 ha,⟨(bz rfl).2 hb,trivial⟩⟩⟩).mono ?_
 rintro e w' ⟨v,rfl,h1,h2⟩;obtain⟨u,rfl,h3⟩:=outT h1 (fun _ _ _ h=>h);exact⟨u,rfl,jz h3 (br (n:=3) rfl) rfl rfl (rfl) (rfl) (rfl),h2⟩
theorem I_fMake {ρ:Rho} {S:Bool} {l:Leaf} {i j x y z m n:Nat} (hl:∀B w v,l.holds ρ B w v→v= .bool S) (hi:ρ[i]? =some (.dig (nl m) m)) (hj:ρ[j]? =some (.dig (nl n) n)) (hx:ρ[x]? =some (.val (.bool (Fq.low S m n).s))) (hy:ρ[y]? =some (.dig (nl (Fq.low S m n).p) (Fq.low S m n).p)) (hz:ρ[z]? =some (.dig (nl (Fq.low S m n).q) (Fq.low S m n).q)) (hm:nl m≤10000000000) (hn:nl n≤10000000000) (h0:n≠0):Inst.Ok Tryz.prog ρ ⟨215,[.one l,nt i,nt j],.tup [.agg [.ref x,.ref y,.ref z],.one (.i .i64 0)]⟩:=
 ⟨az Tryz.func215 rfl rfl,fun B w vs hB h=>by
  match vs,h with
  | [v1,v2,v3],h=>
   obtain rfl:=hl _ _ _ h.1;refine(q_Make S v2 v3 m n w ((bz hi).1 h.2.1) ((bz hj).1 h.2.2.1) hm hn h0).mono ?_;rintro e w' ⟨v,rfl,h1,h2⟩;exact⟨_,rfl,⟨[v,.int .i64 0],rfl,inF h1 (lrb hx) hy hz,rfl,trivial⟩,h2⟩⟩
theorem q_fNeg (va:Value) (x:Fq) (w:World) (ha:IsQ w va x) (h:x.ok 1000000000):
  Calls Tryz.prog 143 #[va] w fun e w'=>jx w x.neg e w':=by
 rcases Bool.eq_false_or_eq_true (x.s)with c0 | c0
 ·refine(cRn (ρ:=[.dig (nl x.p) x.p,.dig (nl x.q) x.q]) (args:=[.agg [.b true,.ref 0,.ref 1]]) (vs:=[va]) (r:=.v (.agg [.b false,.ref 0,.ref 1]))
   (ae (jb (i:=0) (k:=0) rfl rfl (Nat.le_trans h.p (by decide))) (ae (jb (i:=1) (k:=1) rfl rfl (Nat.le_trans h.q (by decide))) ah))
   ai Tryz.func143 (by kernel_rfl) ⟨(inF ha (lb c0) rfl rfl),trivial⟩).mono ?_
  rintro e w' ⟨v,rfl,h1,h2⟩;exact⟨v,rfl,jz h1 (bl false) rfl rfl (by simp[Fq.low,fR,iw,jM,Fq.add,Fq.mul,Fq.div,Fq.neg,Fq.zero,Fq.sgn,fS,eX,c0]) (rfl) (rfl),h2⟩
 ·by_cases c1:x.p=0
  ·refine(cRn (ρ:=[.dig (nl x.p) x.p,.dig (nl x.q) x.q]) (args:=[.agg [.b false,.ref 0,.ref 1]]) (vs:=[va]) (r:=.v (.agg [.b false,.ref 0,.ref 1]))
    (ae (bN (i:=0) rfl (decide_eq_true c1) (Nat.le_trans h.p (by decide))) (ae (jb (i:=0) (k:=0) rfl rfl (Nat.le_trans h.p (by decide))) (ae (jb (i:=1) (k:=1) rfl rfl (Nat.le_trans h.q (by decide))) ah)))
    ai Tryz.func143 (by kernel_rfl) ⟨(inF ha (lb c0) rfl rfl),trivial⟩).mono ?_
   rintro e w' ⟨v,rfl,h1,h2⟩;exact⟨v,rfl,jz h1 (bl false) rfl rfl (by simp[Fq.low,fR,iw,jM,Fq.add,Fq.mul,Fq.div,Fq.neg,Fq.zero,Fq.sgn,fS,eX,c0,c1]) (rfl) (rfl),h2⟩
  ·refine(cRn (ρ:=[.dig (nl x.p) x.p,.dig (nl x.q) x.q]) (args:=[.agg [.b false,.ref 0,.ref 1]]) (vs:=[va]) (r:=.v (.agg [.b true,.ref 0,.ref 1]))
    (ae (bN (i:=0) rfl (decide_eq_false c1) (Nat.le_trans h.p (by decide))) (ae (jb (i:=0) (k:=0) rfl rfl (Nat.le_trans h.p (by decide))) (ae (jb (i:=1) (k:=1) rfl rfl (Nat.le_trans h.q (by decide))) ah)))
    ai Tryz.func143 (by kernel_rfl) ⟨(inF ha (lb c0) rfl rfl),trivial⟩).mono ?_
   rintro e w' ⟨v,rfl,h1,h2⟩;exact⟨v,rfl,jz h1 (bl true) rfl rfl (by simp[Fq.low,fR,iw,jM,Fq.add,Fq.mul,Fq.div,Fq.neg,Fq.zero,Fq.sgn,fS,eX,c0,c1]) (rfl) (rfl),h2⟩
theorem J_fNeg {ρ:Rho} {x:Fq} {a b a' b':Nat} {l l':Leaf} (hx:FAt ρ l a b x) (hr:FAt ρ l' a' b' x.neg) (h:x.ok 1000000000):Inst.Ok Tryz.prog ρ ⟨143,[.agg [l,.ref a,.ref b]],.v (.agg [l',.ref a',.ref b'])⟩:=
 i1QQ (az Tryz.func143 rfl rfl) (fun va w ha=>q_fNeg va x w ha h) hx hr
theorem q_fMul (va vb:Value) (x y:Fq) (w:World) (ha:IsQ w va x) (hb:IsQ w vb y) (h:x.ok 1000000000) (k:y.ok 1000000000):
  Calls Tryz.prog 136 #[va,vb] w fun e w'=>jx w (x.mul y) e w':=by
 refine(cRn (ρ:=[.val (.bool x.s),.dig (nl x.p) x.p,.dig (nl x.q) x.q,.val (.bool y.s),.dig (nl y.p) y.p,.dig (nl y.q) y.q,.val (.bool (x.s !=y.s)),.dig (nl (x.p*y.p)) (x.p*y.p),.dig (nl (x.q*y.q)) (x.q*y.q),.val (.bool (Fq.low (x.s !=y.s) (x.p*y.p) (x.q*y.q)).s),.dig (nl (Fq.low (x.s !=y.s) (x.p*y.p) (x.q*y.q)).p) (Fq.low (x.s !=y.s) (x.p*y.p) (x.q*y.q)).p,.dig (nl (Fq.low (x.s !=y.s) (x.p*y.p) (x.q*y.q)).q) (Fq.low (x.s !=y.s) (x.p*y.p) (x.q*y.q)).q]) (args:=[q3 0 1 2,q3 3 4 5]) (vs:=[va,vb]) (r:=.v (q3 9 10 11))
  (ae (dV (i:=1) (j:=4) (k:=7) rfl rfl rfl (Nat.le_trans h.p (by decide)) (Nat.le_trans k.p (by decide))) (ae (dV (i:=2) (j:=5) (k:=8) rfl rfl rfl (Nat.le_trans h.q (by decide)) (Nat.le_trans k.q (by decide))) (ae (qT (i:=7) (j:=8) (x:=9) (y:=10) (z:=11) (br (n:=6) rfl) rfl rfl rfl rfl rfl (Nat.le_trans (bk h.p k.p) (by decide)) (Nat.le_trans (bk h.q k.q) (by decide)) (Nat.mul_ne_zero h.n k.n)) ah)))
  (af (o_bne (t:=4) (by kernel_rfl) (br (n:=0) rfl) (br (n:=3) rfl) (lrb (n:=6) rfl)) (ai)) Tryz.func136 (by kernel_rfl) ⟨(inF ha (lrb (n:=0) rfl) rfl rfl),⟨(inF hb (lrb (n:=3) rfl) rfl rfl),trivial⟩⟩).mono ?_
 rintro e w' ⟨v,rfl,h1,h2⟩;exact⟨v,rfl,jz h1 (br (n:=9) rfl) rfl rfl (by simp[Fq.low,fR,iw,jM,Fq.add,Fq.mul,Fq.div,Fq.neg,Fq.zero,Fq.sgn,fS,eX]) (by simp[Fq.low,fR,iw,jM,Fq.add,Fq.mul,Fq.div,Fq.neg,Fq.zero,Fq.sgn,fS,eX]) (by simp[Fq.low,fR,iw,jM,Fq.add,Fq.mul,Fq.div,Fq.neg,Fq.zero,Fq.sgn,fS,eX]),h2⟩
theorem q_fAdd (va vb:Value) (x y:Fq) (w:World) (ha:IsQ w va x) (hb:IsQ w vb y) (h:x.ok 1000000000) (k:y.ok 1000000000):
  Calls Tryz.prog 85 #[va,vb] w fun e w'=>jx w (x.add y) e w':=by
 by_cases c0:x.s=y.s
 ·refine(cRn (ρ:=[.val (.bool x.s),.dig (nl x.p) x.p,.dig (nl x.q) x.q,.val (.bool y.s),.dig (nl y.p) y.p,.dig (nl y.q) y.q,.dig (nl (x.p*y.q)) (x.p*y.q),.dig (nl (y.p*x.q)) (y.p*x.q),.dig (nl (x.q*y.q)) (x.q*y.q),.dig (nl ((x.p*y.q)+(y.p*x.q))) ((x.p*y.q)+(y.p*x.q)),.val (.bool (Fq.low x.s ((x.p*y.q)+(y.p*x.q)) (x.q*y.q)).s),.dig (nl (Fq.low x.s ((x.p*y.q)+(y.p*x.q)) (x.q*y.q)).p) (Fq.low x.s ((x.p*y.q)+(y.p*x.q)) (x.q*y.q)).p,.dig (nl (Fq.low x.s ((x.p*y.q)+(y.p*x.q)) (x.q*y.q)).q) (Fq.low x.s ((x.p*y.q)+(y.p*x.q)) (x.q*y.q)).q]) (args:=[q3 0 1 2,q3 3 4 5]) (vs:=[va,vb]) (r:=.v (q3 10 11 12))
   (ae (dV (i:=1) (j:=5) (k:=6) rfl rfl rfl (Nat.le_trans h.p (by decide)) (Nat.le_trans k.q (by decide))) (ae (dV (i:=4) (j:=2) (k:=7) rfl rfl rfl (Nat.le_trans k.p (by decide)) (Nat.le_trans h.q (by decide))) (ae (dV (i:=2) (j:=5) (k:=8) rfl rfl rfl (Nat.le_trans h.q (by decide)) (Nat.le_trans k.q (by decide))) (ae (I_nAdd (i:=6) (j:=7) (k:=9) rfl rfl rfl (Nat.le_trans (bk h.p k.q) (by decide)) (Nat.le_trans (bk k.p h.q) (by decide))) (ae (qT (i:=9) (j:=8) (x:=10) (y:=11) (z:=12) (br (n:=0) rfl) rfl rfl rfl rfl rfl (Nat.le_trans (nl_addN (bk h.p k.q) (bk k.p h.q)) (by decide)) (Nat.le_trans (bk h.q k.q) (by decide)) (Nat.mul_ne_zero h.n k.n)) ah)))))
   (af (o_beq (t:=4) (by kernel_rfl) (br (n:=0) rfl) (br (n:=3) rfl) (lb (beq_t c0))) (ai)) Tryz.func85 (by kernel_rfl) ⟨(inF ha (lrb (n:=0) rfl) rfl rfl),⟨(inF hb (lrb (n:=3) rfl) rfl rfl),trivial⟩⟩).mono ?_
  rintro e w' ⟨v,rfl,h1,h2⟩;exact⟨v,rfl,jz h1 (br (n:=10) rfl) rfl rfl (by simp only[Fq.add,Fq.low,fS,eX,if_pos c0]) (by simp only[Fq.add,Fq.low,fS,eX,if_pos c0]) (by simp only[Fq.add,Fq.low,fS,eX,if_pos c0]),h2⟩
 ·by_cases c1:(x.p*y.q)<(y.p*x.q)
  ·by_cases c2:(y.p*x.q)<(x.p*y.q)
   ·exact absurd c2 (Nat.lt_asymm c1)
   ·refine(cRn (ρ:=[.val (.bool x.s),.dig (nl x.p) x.p,.dig (nl x.q) x.q,.val (.bool y.s),.dig (nl y.p) y.p,.dig (nl y.q) y.q,.dig (nl (x.p*y.q)) (x.p*y.q),.dig (nl (y.p*x.q)) (y.p*x.q),.dig (nl (x.q*y.q)) (x.q*y.q),.dig (nl ((x.p*y.q) - (y.p*x.q))) ((x.p*y.q) - (y.p*x.q)),.dig (nl ((y.p*x.q) - (x.p*y.q))) ((y.p*x.q) - (x.p*y.q)),.val (.bool (Fq.low y.s ((y.p*x.q) - (x.p*y.q)) (x.q*y.q)).s),.dig (nl (Fq.low y.s ((y.p*x.q) - (x.p*y.q)) (x.q*y.q)).p) (Fq.low y.s ((y.p*x.q) - (x.p*y.q)) (x.q*y.q)).p,.dig (nl (Fq.low y.s ((y.p*x.q) - (x.p*y.q)) (x.q*y.q)).q) (Fq.low y.s ((y.p*x.q) - (x.p*y.q)) (x.q*y.q)).q]) (args:=[q3 0 1 2,q3 3 4 5]) (vs:=[va,vb]) (r:=.v (q3 11 12 13))
     (ae (dV (i:=1) (j:=5) (k:=6) rfl rfl rfl (Nat.le_trans h.p (by decide)) (Nat.le_trans k.q (by decide))) (ae (dV (i:=4) (j:=2) (k:=7) rfl rfl rfl (Nat.le_trans k.p (by decide)) (Nat.le_trans h.q (by decide))) (ae (dV (i:=2) (j:=5) (k:=8) rfl rfl rfl (Nat.le_trans h.q (by decide)) (Nat.le_trans k.q (by decide))) (ae (wl (i:=6) (j:=7) (k:=9) rfl rfl rfl (le_f c1) (Nat.le_trans (bk h.p k.q) (by decide)) (Nat.le_trans (bk k.p h.q) (by decide))) (ae (wl (i:=7) (j:=6) (k:=10) rfl rfl rfl (le_t c2) (Nat.le_trans (bk k.p h.q) (by decide)) (Nat.le_trans (bk h.p k.q) (by decide))) (ae (qT (i:=10) (j:=8) (x:=11) (y:=12) (z:=13) (br (n:=3) rfl) rfl rfl rfl rfl rfl (Nat.le_trans (yb (bk k.p h.q)) (by decide)) (Nat.le_trans (bk h.q k.q) (by decide)) (Nat.mul_ne_zero h.n k.n)) ah))))))
     (af (o_beq (t:=4) (by kernel_rfl) (br (n:=0) rfl) (br (n:=3) rfl) (lb (beq_f c0))) (ai)) Tryz.func85 (by kernel_rfl) ⟨(inF ha (lrb (n:=0) rfl) rfl rfl),⟨(inF hb (lrb (n:=3) rfl) rfl rfl),trivial⟩⟩).mono ?_
    rintro e w' ⟨v,rfl,h1,h2⟩;exact⟨v,rfl,jz h1 (br (n:=11) rfl) rfl rfl (by simp only[Fq.add,Fq.low,fS,eX,if_neg c0,if_neg (Nat.not_le.2 c1)]) (by simp only[Fq.add,Fq.low,fS,eX,if_neg c0,if_neg (Nat.not_le.2 c1)]) (by simp only[Fq.add,Fq.low,fS,eX,if_neg c0,if_neg (Nat.not_le.2 c1)]),h2⟩
  ·refine(cRn (ρ:=[.val (.bool x.s),.dig (nl x.p) x.p,.dig (nl x.q) x.q,.val (.bool y.s),.dig (nl y.p) y.p,.dig (nl y.q) y.q,.dig (nl (x.p*y.q)) (x.p*y.q),.dig (nl (y.p*x.q)) (y.p*x.q),.dig (nl (x.q*y.q)) (x.q*y.q),.dig (nl ((x.p*y.q) - (y.p*x.q))) ((x.p*y.q) - (y.p*x.q)),.val (.bool (Fq.low x.s ((x.p*y.q) - (y.p*x.q)) (x.q*y.q)).s),.dig (nl (Fq.low x.s ((x.p*y.q) - (y.p*x.q)) (x.q*y.q)).p) (Fq.low x.s ((x.p*y.q) - (y.p*x.q)) (x.q*y.q)).p,.dig (nl (Fq.low x.s ((x.p*y.q) - (y.p*x.q)) (x.q*y.q)).q) (Fq.low x.s ((x.p*y.q) - (y.p*x.q)) (x.q*y.q)).q]) (args:=[q3 0 1 2,q3 3 4 5]) (vs:=[va,vb]) (r:=.v (q3 10 11 12))
    (ae (dV (i:=1) (j:=5) (k:=6) rfl rfl rfl (Nat.le_trans h.p (by decide)) (Nat.le_trans k.q (by decide))) (ae (dV (i:=4) (j:=2) (k:=7) rfl rfl rfl (Nat.le_trans k.p (by decide)) (Nat.le_trans h.q (by decide))) (ae (dV (i:=2) (j:=5) (k:=8) rfl rfl rfl (Nat.le_trans h.q (by decide)) (Nat.le_trans k.q (by decide))) (ae (wl (i:=6) (j:=7) (k:=9) rfl rfl rfl (le_t c1) (Nat.le_trans (bk h.p k.q) (by decide)) (Nat.le_trans (bk k.p h.q) (by decide))) (ae (qT (i:=9) (j:=8) (x:=10) (y:=11) (z:=12) (br (n:=0) rfl) rfl rfl rfl rfl rfl (Nat.le_trans (yb (bk h.p k.q)) (by decide)) (Nat.le_trans (bk h.q k.q) (by decide)) (Nat.mul_ne_zero h.n k.n)) ah)))))
    (af (o_beq (t:=4) (by kernel_rfl) (br (n:=0) rfl) (br (n:=3) rfl) (lb (beq_f c0))) (ai)) Tryz.func85 (by kernel_rfl) ⟨(inF ha (lrb (n:=0) rfl) rfl rfl),⟨(inF hb (lrb (n:=3) rfl) rfl rfl),trivial⟩⟩).mono ?_
   rintro e w' ⟨v,rfl,h1,h2⟩;exact⟨v,rfl,jz h1 (br (n:=10) rfl) rfl rfl (by simp only[Fq.add,Fq.low,fS,eX,if_neg c0,if_pos (Nat.le_of_not_lt c1)]) (by simp only[Fq.add,Fq.low,fS,eX,if_neg c0,if_pos (Nat.le_of_not_lt c1)]) (by simp only[Fq.add,Fq.low,fS,eX,if_neg c0,if_pos (Nat.le_of_not_lt c1)]),h2⟩
theorem J_fAdd {ρ:Rho} {x y:Fq} {a b c d a' b':Nat} {l m l':Leaf} (hx:FAt ρ l a b x) (hy:FAt ρ m c d y) (hr:FAt ρ l' a' b' (x.add y)) (h:x.ok 1000000000) (k:y.ok 1000000000):Inst.Ok Tryz.prog ρ ⟨85,[.agg [l,.ref a,.ref b],.agg [m,.ref c,.ref d]],.v (.agg [l',.ref a',.ref b'])⟩:=
 i2QQ (az Tryz.func85 rfl rfl) (fun va vb w ha hb=>q_fAdd va vb x y w ha hb h k) hx hy hr
theorem q_fSub (va vb:Value) (x y:Fq) (w:World) (ha:IsQ w va x) (hb:IsQ w vb y) (h:x.ok 1000000000) (k:y.ok 1000000000):
  Calls Tryz.prog 82 #[va,vb] w fun e w'=>jx w (x.sub y) e w':=by
 refine(cRn (ρ:=[.val (.bool x.s),.dig (nl x.p) x.p,.dig (nl x.q) x.q,.val (.bool y.s),.dig (nl y.p) y.p,.dig (nl y.q) y.q,.val (.bool y.neg.s),.dig (nl y.neg.p) y.neg.p,.dig (nl y.neg.q) y.neg.q,.val (.bool (x.add y.neg).s),.dig (nl (x.add y.neg).p) (x.add y.neg).p,.dig (nl (x.add y.neg).q) (x.add y.neg).q]) (args:=[q3 0 1 2,q3 3 4 5]) (vs:=[va,vb]) (r:=.v (q3 9 10 11))
  (ae (J_fNeg (cz (l:=.ref 3) (a:=4) (b:=5) (x:=y) (lrb (n:=3) rfl) (br (n:=3) rfl) rfl rfl) (cz (l:=.ref 6) (a:=7) (b:=8) (x:=y.neg) (lrb (n:=6) rfl) (br (n:=6) rfl) rfl rfl) k) (ae (J_fAdd (cz (l:=.ref 0) (a:=1) (b:=2) (x:=x) (lrb (n:=0) rfl) (br (n:=0) rfl) rfl rfl) (cz (l:=.ref 6) (a:=7) (b:=8) (x:=y.neg) (lrb (n:=6) rfl) (br (n:=6) rfl) rfl rfl) (cz (l:=.ref 9) (a:=10) (b:=11) (x:=(x.add y.neg)) (lrb (n:=9) rfl) (br (n:=9) rfl) rfl rfl) h k.neg) ah))
  ai Tryz.func82 (by kernel_rfl) ⟨(inF ha (lrb (n:=0) rfl) rfl rfl),⟨(inF hb (lrb (n:=3) rfl) rfl rfl),trivial⟩⟩).mono ?_
 rintro e w' ⟨v,rfl,h1,h2⟩;exact⟨v,rfl,jz h1 (br (n:=9) rfl) rfl rfl (rfl) (rfl) (rfl),h2⟩
theorem J_fSub {ρ:Rho} {x y:Fq} {a b c d a' b':Nat} {l m l':Leaf} (hx:FAt ρ l a b x) (hy:FAt ρ m c d y) (hr:FAt ρ l' a' b' (x.sub y)) (h:x.ok 1000000000) (k:y.ok 1000000000):Inst.Ok Tryz.prog ρ ⟨82,[.agg [l,.ref a,.ref b],.agg [m,.ref c,.ref d]],.v (.agg [l',.ref a',.ref b'])⟩:=
 i2QQ (az Tryz.func82 rfl rfl) (fun va vb w ha hb=>q_fSub va vb x y w ha hb h k) hx hy hr
theorem q_fDiv (va vb:Value) (x y:Fq) (w:World) (ha:IsQ w va x) (hb:IsQ w vb y) (h:x.ok 1000000000) (k:y.ok 1000000000) (h0:y.p≠0):
  Calls Tryz.prog 234 #[va,vb] w fun e w'=>xR w (x.div y) 0 e w':=by
 refine(cRn (ρ:=[.val (.bool x.s),.dig (nl x.p) x.p,.dig (nl x.q) x.q,.val (.bool y.s),.dig (nl y.p) y.p,.dig (nl y.q) y.q,.val (.bool (x.s !=y.s)),.dig (nl (x.p*y.q)) (x.p*y.q),.dig (nl (x.q*y.p)) (x.q*y.p),.val (.bool (Fq.low (x.s !=y.s) (x.p*y.q) (x.q*y.p)).s),.dig (nl (Fq.low (x.s !=y.s) (x.p*y.q) (x.q*y.p)).p) (Fq.low (x.s !=y.s) (x.p*y.q) (x.q*y.p)).p,.dig (nl (Fq.low (x.s !=y.s) (x.p*y.q) (x.q*y.p)).q) (Fq.low (x.s !=y.s) (x.p*y.q) (x.q*y.p)).q]) (args:=[q3 0 1 2,q3 3 4 5]) (vs:=[va,vb]) (r:=.tup [q3 9 10 11,.one (.i .i64 0)])
  (ae (bN (i:=4) rfl (decide_eq_false h0) (Nat.le_trans k.p (by decide))) (ae (dV (i:=1) (j:=5) (k:=7) rfl rfl rfl (Nat.le_trans h.p (by decide)) (Nat.le_trans k.q (by decide))) (ae (dV (i:=2) (j:=4) (k:=8) rfl rfl rfl (Nat.le_trans h.q (by decide)) (Nat.le_trans k.p (by decide))) (ae (qT (i:=7) (j:=8) (x:=9) (y:=10) (z:=11) (br (n:=6) rfl) rfl rfl rfl rfl rfl (Nat.le_trans (bk h.p k.q) (by decide)) (Nat.le_trans (bk h.q k.p) (by decide)) (Nat.mul_ne_zero h.n h0)) ah))))
  (af (o_bne (t:=4) (by kernel_rfl) (br (n:=0) rfl) (br (n:=3) rfl) (lrb (n:=6) rfl)) (ai)) Tryz.func234 (by kernel_rfl) ⟨(inF ha (lrb (n:=0) rfl) rfl rfl),⟨(inF hb (lrb (n:=3) rfl) rfl rfl),trivial⟩⟩).mono ?_
 rintro e w' ⟨v,rfl,h1,h2⟩;obtain⟨u,rfl,h3⟩:=outT h1 (fun _ _ _ h=>h);exact⟨u,rfl,jz h3 (br (n:=9) rfl) rfl rfl (by simp[Fq.low,fR,iw,jM,Fq.add,Fq.mul,Fq.div,Fq.neg,Fq.zero,Fq.sgn,fS,eX]) (by simp[Fq.low,fR,iw,jM,Fq.add,Fq.mul,Fq.div,Fq.neg,Fq.zero,Fq.sgn,fS,eX]) (by simp[Fq.low,fR,iw,jM,Fq.add,Fq.mul,Fq.div,Fq.neg,Fq.zero,Fq.sgn,fS,eX]),h2⟩
theorem q_mark (va:Value) (x:Fq) (w:World) (ha:IsQ w va x) (hp:nl x.p≤1000000000000) (v:Bool) (hv:decide (x.p=0)=v):
  Calls Tryz.prog 198 #[va] w fun e w'=>cI w (.agg #[.bool x.s,.bool v]) e w':=by
 by_cases c0:x.p=0
 ·refine(cRn (ρ:=[.val (.bool x.s),.dig (nl x.p) x.p,.dig (nl x.q) x.q]) (args:=[q3 0 1 2]) (vs:=[va]) (r:=.v (.agg [.ref 0,.b true]))
   (ae (bN (i:=1) rfl (decide_eq_true c0) hp) ah)
   ai Tryz.func198 (by kernel_rfl) ⟨(inF ha (lrb (n:=0) rfl) rfl rfl),trivial⟩).mono ?_
  rintro e w' ⟨v',rfl,h1,h2⟩;have h1:=jS h1 (br (n:=0) rfl) (bl true);subst h1;exact⟨by rw[←hv];simp[c0],h2⟩
 ·refine(cRn (ρ:=[.val (.bool x.s),.dig (nl x.p) x.p,.dig (nl x.q) x.q]) (args:=[q3 0 1 2]) (vs:=[va]) (r:=.v (.agg [.ref 0,.b false]))
   (ae (bN (i:=1) rfl (decide_eq_false c0) hp) ah)
   ai Tryz.func198 (by kernel_rfl) ⟨(inF ha (lrb (n:=0) rfl) rfl rfl),trivial⟩).mono ?_
  rintro e w' ⟨v',rfl,h1,h2⟩;have h1:=jS h1 (br (n:=0) rfl) (bl false);subst h1;exact⟨by rw[←hv];simp[c0],h2⟩
theorem ff {ρ:Rho} {x:Fq} {a b:Nat} {l r:Leaf} {v:Bool} (hx:FAt ρ l a b x) (hr:∀B w,r.holds ρ B w (.bool x.s)) (hv:decide (x.p=0)=v) (hp:nl x.p≤1000000000000):Inst.Ok Tryz.prog ρ ⟨198,[.agg [l,.ref a,.ref b]],.v (.agg [r,.b v])⟩:=
 ⟨az Tryz.func198 rfl rfl,fun B w vs hB h=>by
  match vs,h with
  | [va],h=>
   refine(q_mark va x w (hx.isQ h.1) hp v hv).mono ?_;rintro e w' ⟨rfl,h2⟩;exact⟨_,rfl,⟨[.bool x.s,.bool v],rfl,hr B w',rfl,trivial⟩,h2⟩⟩
theorem yd (va:Value) (x:Fq) (w:World) (ha:IsQ w va x) (h:x.ok 1000000000000):
  Calls Tryz.prog 144 #[va] w fun e w'=>cI w (.int .i64 x.sgn) e w':=by
 by_cases c0:x.p=0
 ·rcases Bool.eq_false_or_eq_true (x.s)with c1 | c1
  ·refine(cRn (ρ:=[.dig (nl x.p) x.p,.dig (nl x.q) x.q]) (args:=[.agg [.b true,.ref 0,.ref 1]]) (vs:=[va]) (r:=.v (.one (.i .i64 0)))
    (ae (ff (cz (l:=.b true) (a:=0) (b:=1) (x:=x) (lb c1) (bl2 c1) rfl rfl) (lb c1) (decide_eq_true c0) h.p) ah)
    (af (eJ true true false true) (af (eJ true true true true) (ai))) Tryz.func144 (by kernel_rfl) ⟨(inF ha (lb c1) rfl rfl),trivial⟩).mono ?_
   rintro e w' ⟨v,rfl,h1,h2⟩;have h1:=h1;have h1:v=_:=h1;subst h1;exact⟨by simp[Fq.sgn,c0,c1],h2⟩
  ·refine(cRn (ρ:=[.dig (nl x.p) x.p,.dig (nl x.q) x.q]) (args:=[.agg [.b false,.ref 0,.ref 1]]) (vs:=[va]) (r:=.v (.one (.i .i64 0)))
    (ae (ff (cz (l:=.b false) (a:=0) (b:=1) (x:=x) (lb c1) (bl2 c1) rfl rfl) (lb c1) (decide_eq_true c0) h.p) ah)
    (af (eJ false true false true) (ai)) Tryz.func144 (by kernel_rfl) ⟨(inF ha (lb c1) rfl rfl),trivial⟩).mono ?_
   rintro e w' ⟨v,rfl,h1,h2⟩;have h1:=h1;have h1:v=_:=h1;subst h1;exact⟨by simp[Fq.sgn,c0,c1],h2⟩
 ·rcases Bool.eq_false_or_eq_true (x.s)with c1 | c1
  ·refine(cRn (ρ:=[.dig (nl x.p) x.p,.dig (nl x.q) x.q]) (args:=[.agg [.b true,.ref 0,.ref 1]]) (vs:=[va]) (r:=.v (.one (.i .i64 (-1))))
    (ae (ff (cz (l:=.b true) (a:=0) (b:=1) (x:=x) (lb c1) (bl2 c1) rfl rfl) (lb c1) (decide_eq_false c0) h.p) ah)
    (af (eJ true false false true) (af (eJ true false true true) (af (eJ true false true false) (ai)))) Tryz.func144 (by kernel_rfl) ⟨(inF ha (lb c1) rfl rfl),trivial⟩).mono ?_
   rintro e w' ⟨v,rfl,h1,h2⟩;have h1:=h1;have h1:v=_:=h1;subst h1;exact⟨by simp[Fq.sgn,c0,c1],h2⟩
  ·refine(cRn (ρ:=[.dig (nl x.p) x.p,.dig (nl x.q) x.q]) (args:=[.agg [.b false,.ref 0,.ref 1]]) (vs:=[va]) (r:=.v (.one (.i .i64 1)))
    (ae (ff (cz (l:=.b false) (a:=0) (b:=1) (x:=x) (lb c1) (bl2 c1) rfl rfl) (lb c1) (decide_eq_false c0) h.p) ah)
    (af (eJ false false false true) (af (eJ false false true true) (af (eJ false false true false) (ai)))) Tryz.func144 (by kernel_rfl) ⟨(inF ha (lb c1) rfl rfl),trivial⟩).mono ?_
   rintro e w' ⟨v,rfl,h1,h2⟩;have h1:=h1;have h1:v=_:=h1;subst h1;exact⟨by simp[Fq.sgn,c0,c1],h2⟩
theorem J_fSign {ρ:Rho} {x:Fq} {a b:Nat} {l r:Leaf} (hx:FAt ρ l a b x) (hl:∀B w,r.holds ρ B w (.int .i64 x.sgn)) (h:x.ok 1000000000000):Inst.Ok Tryz.prog ρ ⟨144,[.agg [l,.ref a,.ref b]],.v (.one r)⟩:=
 i1QV (az Tryz.func144 rfl rfl) (fun va w ha=>yd va x w ha h) hx hl
theorem q_fCmp (va vb:Value) (x y:Fq) (w:World) (ha:IsQ w va x) (hb:IsQ w vb y) (h:x.ok 1000000000) (k:y.ok 1000000000):
  Calls Tryz.prog 83 #[va,vb] w fun e w'=>cI w (.int .i64 (x.cmp y)) e w':=by
 refine(cRn (ρ:=[.val (.bool x.s),.dig (nl x.p) x.p,.dig (nl x.q) x.q,.val (.bool y.s),.dig (nl y.p) y.p,.dig (nl y.q) y.q,.val (.bool (x.sub y).s),.dig (nl (x.sub y).p) (x.sub y).p,.dig (nl (x.sub y).q) (x.sub y).q,.val (.int .i64 (x.sub y).sgn)]) (args:=[q3 0 1 2,q3 3 4 5]) (vs:=[va,vb]) (r:=.v (.one (.ref 9)))
  (ae (J_fSub (cz (l:=.ref 0) (a:=1) (b:=2) (x:=x) (lrb (n:=0) rfl) (br (n:=0) rfl) rfl rfl) (cz (l:=.ref 3) (a:=4) (b:=5) (x:=y) (lrb (n:=3) rfl) (br (n:=3) rfl) rfl rfl) (cz (l:=.ref 6) (a:=7) (b:=8) (x:=(x.sub y)) (lrb (n:=6) rfl) (br (n:=6) rfl) rfl rfl) h k) (ae (J_fSign (cz (l:=.ref 6) (a:=7) (b:=8) (x:=(x.sub y)) (lrb (n:=6) rfl) (br (n:=6) rfl) rfl rfl) (lr (n:=9) rfl) ((h.sub k).mono (by decide))) ah))
  ai Tryz.func83 (by kernel_rfl) ⟨(inF ha (lrb (n:=0) rfl) rfl rfl),⟨(inF hb (lrb (n:=3) rfl) rfl rfl),trivial⟩⟩).mono ?_
 rintro e w' ⟨v,rfl,h1,h2⟩;have h1:=(aO rfl h1);subst h1;exact⟨rfl,h2⟩
theorem q_fInt (v:Int) (w:World) (lv: -9223372036854775808≤v) (rv:v<9223372036854775808):
  Calls Tryz.prog 80 #[.int .i64 v] w fun e w'=>jx w (Fq.ofInt v) e w':=by
 refine(cRn (ρ:=[.val (.int .i64 v),.val (.bool (decide (v<0))),.dig (nl v.natAbs) v.natAbs,.dig (nl 1) 1]) (args:=[.one (.ref 0)]) (vs:=[.int .i64 v]) (r:=.v (q3 1 2 3))
  (ae (I_mag (i:=0) (k:=2) rfl rfl lv rv) (ae (I_nOf (k:=3) rfl (by decide)) ah))
  (af (wm (n:=0) (c:=0) (t:=2) rfl (lrb (n:=1) rfl)) (ai)) Tryz.func80 (by kernel_rfl) ⟨aB (n:=0) rfl aH,trivial⟩).mono ?_
 rintro e w' ⟨v,rfl,h1,h2⟩;exact⟨v,rfl,jz h1 (br (n:=1) rfl) rfl rfl (by simp[Fq.ofInt]) (rfl) (rfl),h2⟩
theorem q_fRatio (v u:Int) (w:World) (lv: -9223372036854775808≤v) (rv:v<9223372036854775808) (lu: -9223372036854775808≤u) (ru:u<9223372036854775808) (h0:u≠0):
  Calls Tryz.prog 166 #[.int .i64 v,.int .i64 u] w fun e w'=>xR w (Fq.ratio v u) 0 e w':=by
 refine(cRn (ρ:=[.val (.int .i64 v),.val (.int .i64 u),.val (.bool (decide (v<0))),.val (.bool (decide (u<0))),.val (.bool ((decide (v<0)) !=(decide (u<0)))),.dig (nl v.natAbs) v.natAbs,.dig (nl u.natAbs) u.natAbs,.val (.bool (Fq.low ((decide (v<0)) !=(decide (u<0))) v.natAbs u.natAbs).s),.dig (nl (Fq.low ((decide (v<0)) !=(decide (u<0))) v.natAbs u.natAbs).p) (Fq.low ((decide (v<0)) !=(decide (u<0))) v.natAbs u.natAbs).p,.dig (nl (Fq.low ((decide (v<0)) !=(decide (u<0))) v.natAbs u.natAbs).q) (Fq.low ((decide (v<0)) !=(decide (u<0))) v.natAbs u.natAbs).q]) (args:=[.one (.ref 0),.one (.ref 1)]) (vs:=[.int .i64 v,.int .i64 u]) (r:=.tup [q3 7 8 9,.one (.i .i64 0)])
  (ae (I_mag (i:=0) (k:=5) rfl rfl lv rv) (ae (I_mag (i:=1) (k:=6) rfl rfl lu ru) (ae (I_fMake (i:=5) (j:=6) (x:=7) (y:=8) (z:=9) (br (n:=4) rfl) rfl rfl rfl rfl rfl (Nat.le_trans (oQ lv rv) (by decide)) (Nat.le_trans (oQ lu ru) (by decide)) (by omega)) ah)))
  (af (wm (n:=0) (c:=0) (t:=2) rfl (lrb (n:=2) rfl)) (af (wm (n:=1) (c:=0) (t:=2) rfl (lrb (n:=3) rfl)) (af (o_bne (t:=4) (by kernel_rfl) (br (n:=2) rfl) (br (n:=3) rfl) (lrb (n:=4) rfl)) (ai)))) Tryz.func166 (by kernel_rfl) ⟨aB (n:=0) rfl aH,⟨aB (n:=1) rfl aH,trivial⟩⟩).mono ?_
 rintro e w' ⟨v,rfl,h1,h2⟩;obtain⟨u,rfl,h3⟩:=outT h1 (fun _ _ _ h=>h);exact⟨u,rfl,jz h3 (br (n:=7) rfl) rfl rfl (rfl) (rfl) (rfl),h2⟩
theorem q_one (va:Value) (m:Nat) (w:World) (h:(Vp.row 31 1 [.dig (nl m) m]).p w va) (hm:nl m≤1000000000000):
  Calls Tryz.prog 131 #[va] w fun e w'=>cI w (.bool (decide (m=1))) e w':=by
 by_cases c0:m=1
 ·refine(cRn (ρ:=[.row 31 1 [.dig (nl m) m],.plc 31 [.dig (nl m) m],.dig (nl m) m,.dig (nl 1) 1,.val (.int .i64 (cmpI m 1))]) (args:=[.one (.ref 0)]) (vs:=[va]) (r:=.v (.one (.b true)))
   (ae (I_nOf (k:=3) rfl (by decide)) (ae (I_nCmp (i:=2) (j:=3) rfl rfl (lr (n:=4) rfl) hm (Nat.le_trans nl_one (by decide))) ah))
   (af (wi (n:=0) (t:=251) ⟨_,Tryz.underlying251⟩ rfl (li rfl)) (af (kY (k:=0) (l:=.i .i64 0) (sz:=1) (qs':=[.dig (nl m) m]) (n:=0) (m:=1) Tryz.underlying251 (by kernel_rfl) rfl rfl (fun _ _ _ h=>h) (by decide) (by simp) (fun j q hq=>by match j,hq with | 0,hq=>simp at hq;subst hq;rfl | j+1,hq=>simp at hq)) (af (fe (n:=1) (ls:=[.ref 2]) (t:=31) (by kernel_rfl) (by kernel_rfl) rfl ⟨lq rfl,trivial⟩) (af (wg (n:=4) (c:=0) (t:=3) rfl (cmp_ne_f c0)) (ai))))) Tryz.func131 (by kernel_rfl) ⟨⟨_,rfl,h,fun _ _ hx=>r8 hx⟩,trivial⟩).mono ?_
  rintro e w' ⟨v,rfl,h1,h2⟩;have h1:=h1;have h1:v=_:=h1;subst h1;exact⟨by simp[Bool.decide_eq_true,c0],h2⟩
 ·refine(cRn (ρ:=[.row 31 1 [.dig (nl m) m],.plc 31 [.dig (nl m) m],.dig (nl m) m,.dig (nl 1) 1,.val (.int .i64 (cmpI m 1))]) (args:=[.one (.ref 0)]) (vs:=[va]) (r:=.v (.one (.b false)))
   (ae (I_nOf (k:=3) rfl (by decide)) (ae (I_nCmp (i:=2) (j:=3) rfl rfl (lr (n:=4) rfl) hm (Nat.le_trans nl_one (by decide))) ah))
   (af (wi (n:=0) (t:=251) ⟨_,Tryz.underlying251⟩ rfl (li rfl)) (af (kY (k:=0) (l:=.i .i64 0) (sz:=1) (qs':=[.dig (nl m) m]) (n:=0) (m:=1) Tryz.underlying251 (by kernel_rfl) rfl rfl (fun _ _ _ h=>h) (by decide) (by simp) (fun j q hq=>by match j,hq with | 0,hq=>simp at hq;subst hq;rfl | j+1,hq=>simp at hq)) (af (fe (n:=1) (ls:=[.ref 2]) (t:=31) (by kernel_rfl) (by kernel_rfl) rfl ⟨lq rfl,trivial⟩) (af (wg (n:=4) (c:=0) (t:=3) rfl (cmp_ne_t c0)) (ai))))) Tryz.func131 (by kernel_rfl) ⟨⟨_,rfl,h,fun _ _ hx=>r8 hx⟩,trivial⟩).mono ?_
  rintro e w' ⟨v,rfl,h1,h2⟩;have h1:=h1;have h1:v=_:=h1;subst h1;exact⟨by simp[Bool.decide_eq_true,c0],h2⟩
theorem jF {ρ:Rho} {n m:Nat} {b:Bool} (hn:ρ[n]? =some (.row 31 1 [.dig (nl m) m])) (hb:decide (m=1)=b) (hm:nl m≤1000000000000):Inst.Ok Tryz.prog ρ ⟨131,[.one (.ref n)],.v (.one (.b b))⟩:=
 ⟨az Tryz.func131 rfl rfl,fun B w vs hB h=>by
  match vs,h with
  | [va],h=>
   obtain⟨⟨q,h1,h2,_⟩,_⟩:=h;rw[hn]at h1;injection h1 with h1;subst h1;refine(q_one va m w h2 hm).mono ?_;rintro e w' ⟨rfl,h2⟩;exact⟨_,rfl,by subst hb;rfl,h2⟩⟩
theorem zz (va:Value) (s:Bool) (L p N q:Nat) (w:World) (ha:ug w va s L p N q) (hL:L≤1000000) (hN:N≤1000000) (hne:¬(nl p=L∧nl q=N)):
  Calls Tryz.prog 235 #[va] w fun e w'=>cI w (.bool false) e w':=by
 by_cases c0:nl p=L
 ·by_cases c1:nl q=N
  ·exact absurd ⟨c0,c1⟩ hne
  ·refine(cRn (ρ:=[.val (.bool s),.dig L p,.dig N q]) (args:=[q3 0 1 2]) (vs:=[va]) (r:=.v (.one (.b false)))
    (ae (jc (i:=1) (b:=true) rfl (decide_eq_true c0) (Nat.le_trans hL (by decide))) (ae (jc (i:=2) (b:=false) rfl (decide_eq_false c1) (Nat.le_trans hN (by decide))) ah))
    ai Tryz.func235 (by kernel_rfl) ⟨(inFR ha (lrb (n:=0) rfl) rfl rfl),trivial⟩).mono ?_
   rintro e w' ⟨v,rfl,h1,h2⟩;have h1:=h1;have h1:v=_:=h1;subst h1;exact⟨rfl,h2⟩
 ·refine(cRn (ρ:=[.val (.bool s),.dig L p,.dig N q]) (args:=[q3 0 1 2]) (vs:=[va]) (r:=.v (.one (.b false)))
   (ae (jc (i:=1) (b:=false) rfl (decide_eq_false c0) (Nat.le_trans hL (by decide))) ah)
   ai Tryz.func235 (by kernel_rfl) ⟨(inFR ha (lrb (n:=0) rfl) rfl rfl),trivial⟩).mono ?_
  rintro e w' ⟨v,rfl,h1,h2⟩;have h1:=h1;have h1:v=_:=h1;subst h1;exact⟨rfl,h2⟩
theorem uh (va:Value) (x:Fq) (w:World) (ha:IsQ w va x) (hp:nl x.p≤1000000) (hq:nl x.q≤1000000):
  Calls Tryz.prog 235 #[va] w fun e w'=>cI w (.bool x.valid) e w':=by
 by_cases c0:x.q=0
 ·refine(cRn (ρ:=[.val (.bool x.s),.dig (nl x.p) x.p,.dig (nl x.q) x.q]) (args:=[q3 0 1 2]) (vs:=[va]) (r:=.v (.one (.b false)))
   (ae (bM (i:=1) rfl rfl (Nat.le_trans hp (by decide))) (ae (bM (i:=2) rfl rfl (Nat.le_trans hq (by decide))) (ae (bN (i:=2) rfl (decide_eq_true c0) (Nat.le_trans hq (by decide))) ah)))
   ai Tryz.func235 (by kernel_rfl) ⟨(inF ha (lrb (n:=0) rfl) rfl rfl),trivial⟩).mono ?_
  rintro e w' ⟨v,rfl,h1,h2⟩;have h1:=h1;have h1:v=_:=h1;subst h1;exact⟨by simp[Fq.valid,c0],h2⟩
 ·by_cases c1:x.p=0
  ·rcases Bool.eq_false_or_eq_true (x.s)with c2 | c2
   ·refine(cRn (ρ:=[.dig (nl x.p) x.p,.dig (nl x.q) x.q]) (args:=[.agg [.b true,.ref 0,.ref 1]]) (vs:=[va]) (r:=.v (.one (.b false)))
     (ae (bM (i:=0) rfl rfl (Nat.le_trans hp (by decide))) (ae (bM (i:=1) rfl rfl (Nat.le_trans hq (by decide))) (ae (bN (i:=1) rfl (decide_eq_false c0) (Nat.le_trans hq (by decide))) (ae (ff (cz (l:=.b true) (a:=0) (b:=1) (x:=x) (lb c2) (bl2 c2) rfl rfl) (lb c2) (decide_eq_true c1) (Nat.le_trans hp (by decide))) ah))))
     (af (gO true true true true) (ai)) Tryz.func235 (by kernel_rfl) ⟨(inF ha (lb c2) rfl rfl),trivial⟩).mono ?_
    rintro e w' ⟨v,rfl,h1,h2⟩;have h1:=h1;have h1:v=_:=h1;subst h1;exact⟨by simp[Fq.valid,c0,c1,c2],h2⟩
   ·by_cases c3:(Nat.gcd x.p x.q)=1
    ·refine(cRn (ρ:=[.dig (nl x.p) x.p,.dig (nl x.q) x.q,.dig (nl (Nat.gcd x.p x.q)) (Nat.gcd x.p x.q),.row 31 1 [.dig (nl (Nat.gcd x.p x.q)) (Nat.gcd x.p x.q)]]) (args:=[.agg [.b false,.ref 0,.ref 1]]) (vs:=[va]) (r:=.v (.one (.b true)))
      (ae (bM (i:=0) rfl rfl (Nat.le_trans hp (by decide))) (ae (bM (i:=1) rfl rfl (Nat.le_trans hq (by decide))) (ae (bN (i:=1) rfl (decide_eq_false c0) (Nat.le_trans hq (by decide))) (ae (ff (cz (l:=.b false) (a:=0) (b:=1) (x:=x) (lb c2) (bl2 c2) rfl rfl) (lb c2) (decide_eq_true c1) (Nat.le_trans hp (by decide))) (ae (gN (i:=0) (j:=1) (k:=2) rfl rfl rfl (Nat.le_trans hp (by decide)) (Nat.le_trans hq (by decide))) (ae (jF (n:=3) rfl (decide_eq_true c3) (Nat.le_trans (du hp hq) (by decide))) ah))))))
      (af (gO false true true true) (af (gM (m:=3) (ss:=[nt 2]) (N:=1) (sz:=1) (z:=[.sl0]) (qs:=[.dig (nl (Nat.gcd x.p x.q)) (Nat.gcd x.p x.q)]) (ix:=[0]) (ls:=[.ref 2]) Tryz.underlying251 (by kernel_rfl) (by kernel_rfl) (by decide) (by decide) (by decide) rfl (by kernel_rfl) ⟨bG rfl,trivial⟩ rfl) (ai))) Tryz.func235 (by kernel_rfl) ⟨(inF ha (lb c2) rfl rfl),trivial⟩).mono ?_
     rintro e w' ⟨v,rfl,h1,h2⟩;have h1:=h1;have h1:v=_:=h1;subst h1;exact⟨by rw[c1,Nat.gcd_zero_left]at c3;simp[Fq.valid,c0,c1,c2,c3],h2⟩
    ·refine(cRn (ρ:=[.dig (nl x.p) x.p,.dig (nl x.q) x.q,.dig (nl (Nat.gcd x.p x.q)) (Nat.gcd x.p x.q),.row 31 1 [.dig (nl (Nat.gcd x.p x.q)) (Nat.gcd x.p x.q)]]) (args:=[.agg [.b false,.ref 0,.ref 1]]) (vs:=[va]) (r:=.v (.one (.b false)))
      (ae (bM (i:=0) rfl rfl (Nat.le_trans hp (by decide))) (ae (bM (i:=1) rfl rfl (Nat.le_trans hq (by decide))) (ae (bN (i:=1) rfl (decide_eq_false c0) (Nat.le_trans hq (by decide))) (ae (ff (cz (l:=.b false) (a:=0) (b:=1) (x:=x) (lb c2) (bl2 c2) rfl rfl) (lb c2) (decide_eq_true c1) (Nat.le_trans hp (by decide))) (ae (gN (i:=0) (j:=1) (k:=2) rfl rfl rfl (Nat.le_trans hp (by decide)) (Nat.le_trans hq (by decide))) (ae (jF (n:=3) rfl (decide_eq_false c3) (Nat.le_trans (du hp hq) (by decide))) ah))))))
      (af (gO false true true true) (af (gM (m:=3) (ss:=[nt 2]) (N:=1) (sz:=1) (z:=[.sl0]) (qs:=[.dig (nl (Nat.gcd x.p x.q)) (Nat.gcd x.p x.q)]) (ix:=[0]) (ls:=[.ref 2]) Tryz.underlying251 (by kernel_rfl) (by kernel_rfl) (by decide) (by decide) (by decide) rfl (by kernel_rfl) ⟨bG rfl,trivial⟩ rfl) (ai))) Tryz.func235 (by kernel_rfl) ⟨(inF ha (lb c2) rfl rfl),trivial⟩).mono ?_
     rintro e w' ⟨v,rfl,h1,h2⟩;have h1:=h1;have h1:v=_:=h1;subst h1;exact⟨by rw[c1,Nat.gcd_zero_left]at c3;simp[Fq.valid,c0,c1,c2,c3],h2⟩
  ·rcases Bool.eq_false_or_eq_true (x.s)with c2 | c2
   ·by_cases c3:(Nat.gcd x.p x.q)=1
    ·refine(cRn (ρ:=[.dig (nl x.p) x.p,.dig (nl x.q) x.q,.dig (nl (Nat.gcd x.p x.q)) (Nat.gcd x.p x.q),.row 31 1 [.dig (nl (Nat.gcd x.p x.q)) (Nat.gcd x.p x.q)]]) (args:=[.agg [.b true,.ref 0,.ref 1]]) (vs:=[va]) (r:=.v (.one (.b true)))
      (ae (bM (i:=0) rfl rfl (Nat.le_trans hp (by decide))) (ae (bM (i:=1) rfl rfl (Nat.le_trans hq (by decide))) (ae (bN (i:=1) rfl (decide_eq_false c0) (Nat.le_trans hq (by decide))) (ae (ff (cz (l:=.b true) (a:=0) (b:=1) (x:=x) (lb c2) (bl2 c2) rfl rfl) (lb c2) (decide_eq_false c1) (Nat.le_trans hp (by decide))) (ae (gN (i:=0) (j:=1) (k:=2) rfl rfl rfl (Nat.le_trans hp (by decide)) (Nat.le_trans hq (by decide))) (ae (jF (n:=3) rfl (decide_eq_true c3) (Nat.le_trans (du hp hq) (by decide))) ah))))))
      (af (gO true false true true) (af (gM (m:=3) (ss:=[nt 2]) (N:=1) (sz:=1) (z:=[.sl0]) (qs:=[.dig (nl (Nat.gcd x.p x.q)) (Nat.gcd x.p x.q)]) (ix:=[0]) (ls:=[.ref 2]) Tryz.underlying251 (by kernel_rfl) (by kernel_rfl) (by decide) (by decide) (by decide) rfl (by kernel_rfl) ⟨bG rfl,trivial⟩ rfl) (ai))) Tryz.func235 (by kernel_rfl) ⟨(inF ha (lb c2) rfl rfl),trivial⟩).mono ?_
     rintro e w' ⟨v,rfl,h1,h2⟩;have h1:=h1;have h1:v=_:=h1;subst h1;exact⟨by simp[Fq.valid,c0,c1,c2,c3],h2⟩
    ·refine(cRn (ρ:=[.dig (nl x.p) x.p,.dig (nl x.q) x.q,.dig (nl (Nat.gcd x.p x.q)) (Nat.gcd x.p x.q),.row 31 1 [.dig (nl (Nat.gcd x.p x.q)) (Nat.gcd x.p x.q)]]) (args:=[.agg [.b true,.ref 0,.ref 1]]) (vs:=[va]) (r:=.v (.one (.b false)))
      (ae (bM (i:=0) rfl rfl (Nat.le_trans hp (by decide))) (ae (bM (i:=1) rfl rfl (Nat.le_trans hq (by decide))) (ae (bN (i:=1) rfl (decide_eq_false c0) (Nat.le_trans hq (by decide))) (ae (ff (cz (l:=.b true) (a:=0) (b:=1) (x:=x) (lb c2) (bl2 c2) rfl rfl) (lb c2) (decide_eq_false c1) (Nat.le_trans hp (by decide))) (ae (gN (i:=0) (j:=1) (k:=2) rfl rfl rfl (Nat.le_trans hp (by decide)) (Nat.le_trans hq (by decide))) (ae (jF (n:=3) rfl (decide_eq_false c3) (Nat.le_trans (du hp hq) (by decide))) ah))))))
      (af (gO true false true true) (af (gM (m:=3) (ss:=[nt 2]) (N:=1) (sz:=1) (z:=[.sl0]) (qs:=[.dig (nl (Nat.gcd x.p x.q)) (Nat.gcd x.p x.q)]) (ix:=[0]) (ls:=[.ref 2]) Tryz.underlying251 (by kernel_rfl) (by kernel_rfl) (by decide) (by decide) (by decide) rfl (by kernel_rfl) ⟨bG rfl,trivial⟩ rfl) (ai))) Tryz.func235 (by kernel_rfl) ⟨(inF ha (lb c2) rfl rfl),trivial⟩).mono ?_
     rintro e w' ⟨v,rfl,h1,h2⟩;have h1:=h1;have h1:v=_:=h1;subst h1;exact⟨by simp[Fq.valid,c0,c1,c2,c3],h2⟩
   ·by_cases c3:(Nat.gcd x.p x.q)=1
    ·refine(cRn (ρ:=[.dig (nl x.p) x.p,.dig (nl x.q) x.q,.dig (nl (Nat.gcd x.p x.q)) (Nat.gcd x.p x.q),.row 31 1 [.dig (nl (Nat.gcd x.p x.q)) (Nat.gcd x.p x.q)]]) (args:=[.agg [.b false,.ref 0,.ref 1]]) (vs:=[va]) (r:=.v (.one (.b true)))
      (ae (bM (i:=0) rfl rfl (Nat.le_trans hp (by decide))) (ae (bM (i:=1) rfl rfl (Nat.le_trans hq (by decide))) (ae (bN (i:=1) rfl (decide_eq_false c0) (Nat.le_trans hq (by decide))) (ae (ff (cz (l:=.b false) (a:=0) (b:=1) (x:=x) (lb c2) (bl2 c2) rfl rfl) (lb c2) (decide_eq_false c1) (Nat.le_trans hp (by decide))) (ae (gN (i:=0) (j:=1) (k:=2) rfl rfl rfl (Nat.le_trans hp (by decide)) (Nat.le_trans hq (by decide))) (ae (jF (n:=3) rfl (decide_eq_true c3) (Nat.le_trans (du hp hq) (by decide))) ah))))))
      (af (gO false false true true) (af (gM (m:=3) (ss:=[nt 2]) (N:=1) (sz:=1) (z:=[.sl0]) (qs:=[.dig (nl (Nat.gcd x.p x.q)) (Nat.gcd x.p x.q)]) (ix:=[0]) (ls:=[.ref 2]) Tryz.underlying251 (by kernel_rfl) (by kernel_rfl) (by decide) (by decide) (by decide) rfl (by kernel_rfl) ⟨bG rfl,trivial⟩ rfl) (ai))) Tryz.func235 (by kernel_rfl) ⟨(inF ha (lb c2) rfl rfl),trivial⟩).mono ?_
     rintro e w' ⟨v,rfl,h1,h2⟩;have h1:=h1;have h1:v=_:=h1;subst h1;exact⟨by simp[Fq.valid,c0,c1,c2,c3],h2⟩
    ·refine(cRn (ρ:=[.dig (nl x.p) x.p,.dig (nl x.q) x.q,.dig (nl (Nat.gcd x.p x.q)) (Nat.gcd x.p x.q),.row 31 1 [.dig (nl (Nat.gcd x.p x.q)) (Nat.gcd x.p x.q)]]) (args:=[.agg [.b false,.ref 0,.ref 1]]) (vs:=[va]) (r:=.v (.one (.b false)))
      (ae (bM (i:=0) rfl rfl (Nat.le_trans hp (by decide))) (ae (bM (i:=1) rfl rfl (Nat.le_trans hq (by decide))) (ae (bN (i:=1) rfl (decide_eq_false c0) (Nat.le_trans hq (by decide))) (ae (ff (cz (l:=.b false) (a:=0) (b:=1) (x:=x) (lb c2) (bl2 c2) rfl rfl) (lb c2) (decide_eq_false c1) (Nat.le_trans hp (by decide))) (ae (gN (i:=0) (j:=1) (k:=2) rfl rfl rfl (Nat.le_trans hp (by decide)) (Nat.le_trans hq (by decide))) (ae (jF (n:=3) rfl (decide_eq_false c3) (Nat.le_trans (du hp hq) (by decide))) ah))))))
      (af (gO false false true true) (af (gM (m:=3) (ss:=[nt 2]) (N:=1) (sz:=1) (z:=[.sl0]) (qs:=[.dig (nl (Nat.gcd x.p x.q)) (Nat.gcd x.p x.q)]) (ix:=[0]) (ls:=[.ref 2]) Tryz.underlying251 (by kernel_rfl) (by kernel_rfl) (by decide) (by decide) (by decide) rfl (by kernel_rfl) ⟨bG rfl,trivial⟩ rfl) (ai))) Tryz.func235 (by kernel_rfl) ⟨(inF ha (lb c2) rfl rfl),trivial⟩).mono ?_
     rintro e w' ⟨v,rfl,h1,h2⟩;have h1:=h1;have h1:v=_:=h1;subst h1;exact⟨by simp[Fq.valid,c0,c1,c2,c3],h2⟩
section
open Go Go.Proofs
def Fq.sg (s:Bool) (m:Nat):Int:=if s then -(m:Int)else m
def Fq.v (x:Fq):Rat:=mkRat (Fq.sg x.s x.p) x.q
theorem ye {s:Bool} {m n:Nat} (h:n≠0):(Fq.low s m n).v=mkRat (Fq.sg s m) n:=by
 unfold Fq.v Fq.low;simp only;have hg:0<Nat.gcd m n:=Nat.gcd_pos_of_pos_right _ (Nat.pos_of_ne_zero h);have h1:Nat.gcd m n*iw m n=m:=Nat.mul_div_cancel' (Nat.gcd_dvd_left _ _);have h2:Nat.gcd m n*jM m n=n:=Nat.mul_div_cancel' (Nat.gcd_dvd_right _ _);have h3:jM m n≠0:=by intro h3;rw[h3,Nat.mul_zero]at h2;exact h h2.symm
 rw[Rat.mkRat_eq_iff h3 h];have hs:Fq.sg (fR s m) (iw m n)=Fq.sg s (iw m n):=by
  unfold fR Fq.sg;by_cases hm:m=0
  ·subst hm;simp[iw]
  ·simp[hm]
 rw[hs];generalize hP:iw m n=P at *;generalize hQ:jM m n=R at *;generalize Nat.gcd m n=g at *;subst h1;subst h2;unfold Fq.sg;cases s<;>simp only[Bool.false_eq_true,if_true,if_false]<;>grind
theorem jd {s:Bool} {m n:Nat} (h:n≠0):(Fq.low s m n).valid=true:=by
 unfold Fq.valid;have hg:0<Nat.gcd m n:=Nat.gcd_pos_of_pos_right _ (Nat.pos_of_ne_zero h);have h1:Nat.gcd m n*iw m n=m:=Nat.mul_div_cancel' (Nat.gcd_dvd_left _ _);have h2:Nat.gcd m n*jM m n=n:=Nat.mul_div_cancel' (Nat.gcd_dvd_right _ _);refine decide_eq_true ⟨?_,?_,?_⟩
 ·show jM m n≠0;intro h3;rw[h3,Nat.mul_zero]at h2;exact h h2.symm
 ·show¬(fR s m=true∧iw m n=0);rintro⟨h3,h4⟩;rw[h4,Nat.mul_zero]at h1;rw[←h1]at h3;simp[fR]at h3
 ·exact Nat.coprime_div_gcd_div_gcd hg
theorem Fq.valid.n {x:Fq} (h:x.valid=true):x.q≠0:=(of_decide_eq_true h).1
theorem Fq.valid.s {x:Fq} (h:x.valid=true):¬(x.s=true∧x.p=0):=(of_decide_eq_true h).2.1
theorem Fq.valid.g {x:Fq} (h:x.valid=true):Nat.gcd x.p x.q=1:=(of_decide_eq_true h).2.2
theorem mo (s:Bool) (m:Nat):(Fq.sg s m).natAbs=m:=by unfold Fq.sg;cases s<;>simp
theorem sg_neg {s:Bool} {m:Nat} (h:¬(s=true∧m=0)):decide (Fq.sg s m<0)=s:=by
 unfold Fq.sg;cases s
 ·simp
 ·simp at h⊢;omega
theorem v_num {x:Fq} (h:x.valid=true):x.v.num=Fq.sg x.s x.p∧x.v.den=x.q:=by
 have hn:=Fq.valid.n h;have hc:(Fq.sg x.s x.p).natAbs.Coprime x.q:=by rw[mo];exact Fq.valid.g h
 have e:x.v=Rat.mk' (Fq.sg x.s x.p) x.q hn hc:=(Rat.mk_eq_mkRat _ _ hn hc).symm;rw[e];exact⟨rfl,rfl⟩
theorem gn {x y:Fq} (hx:x.valid=true) (hy:y.valid=true) (h:x.v=y.v):x=y:=by
 obtain⟨a1,a2⟩:=v_num hx;obtain⟨b1,b2⟩:=v_num hy;rw[h]at a1 a2;have e1:Fq.sg x.s x.p=Fq.sg y.s y.p:=a1.symm.trans b1;have ep:x.p=y.p:=by rw[←mo x.s x.p,e1,mo]
 have es:x.s=y.s:=by rw[←sg_neg (Fq.valid.s hx),e1,sg_neg (Fq.valid.s hy)]
 have eq:x.q=y.q:=a2.symm.trans b2;cases x;cases y;simp only at *;subst ep;subst es;subst eq;rfl
theorem sg_add (s s':Bool) (X Y:Nat):Fq.sg (fS s s' X Y) (eX s s' X Y)=Fq.sg s X+Fq.sg s' Y:=by
 unfold Fq.sg fS eX;by_cases h:s=s'
 ·subst h;simp only[if_true];cases s<;>simp<;>omega
 ·simp only[h,if_false];by_cases hl:Y≤X
  ·simp only[hl,if_true];cases s<;>cases s'<;>simp at h⊢ <;>omega
  ·simp only[hl,if_false];cases s<;>cases s'<;>simp at h⊢ <;>omega
theorem sg_mul (s s':Bool) (X Y:Nat):Fq.sg (s !=s') (X*Y)=Fq.sg s X*Fq.sg s' Y:=by
 unfold Fq.sg;cases s<;>cases s'<;>simp<;>grind
theorem yf (s:Bool) (X Y:Nat):Fq.sg s (X*Y)=Fq.sg s X*(Y:Int):=by
 unfold Fq.sg;cases s<;>simp<;>grind
theorem v_add {x y:Fq} (hx:x.q≠0) (hy:y.q≠0):(x.add y).v=x.v+y.v:=by
 unfold Fq.add;rw[ye (Nat.mul_ne_zero hx hy),sg_add,yf,yf];unfold Fq.v;rw[Rat.mkRat_add_mkRat _ _ hx hy]
theorem v_mul {x y:Fq} (hx:x.q≠0) (hy:y.q≠0):(x.mul y).v=x.v*y.v:=by
 unfold Fq.mul;rw[ye (Nat.mul_ne_zero hx hy),sg_mul];unfold Fq.v;rw[Rat.mkRat_mul_mkRat]
theorem ui {x:Fq}:x.neg.v= -x.v:=by
 unfold Fq.neg Fq.v;simp only;rw[Rat.neg_mkRat]
 congr 1
 unfold Fq.sg fR;by_cases h:x.p=0
 ·rw[h];simp
 ·simp only[h,decide_false,Bool.not_false,Bool.and_true];cases x.s<;>simp
theorem dW {x:Fq} (h:x.valid=true):x.neg.valid=true:=by
 have h1:=Fq.valid.n h;have h2:=Fq.valid.g h;refine decide_eq_true ⟨h1,?_,h2⟩;show¬(fR (!x.s) x.p=true∧x.p=0);rintro⟨h1,h2⟩;rw[h2]at h1;simp[fR]at h1
theorem v_sub {x y:Fq} (hx:x.q≠0) (hy:y.q≠0):(x.sub y).v=x.v - y.v:=by
 unfold Fq.sub;rw[v_add hx (show y.neg.q≠0 from hy),ui,Rat.sub_eq_add_neg]
theorem v_eq0 {x:Fq} (hx:x.q≠0):x.v=0↔x.p=0:=by
 unfold Fq.v;rw[Rat.mkRat_eq_zero hx];have:=mo x.s x.p;constructor<;>intro h
 ·rw[h]at this;exact this.symm
 ·unfold Fq.sg;rw[h];simp
theorem v_div {x y:Fq} (hx:x.q≠0) (hy:y.q≠0) (h0:y.p≠0):(x.div y).v=x.v / y.v:=by
 have hne:y.v≠0:=fun h=>h0 ((v_eq0 hy).1 h)
 have hm:(x.div y).v*y.v=x.v:=by
  unfold Fq.div;rw[ye (Nat.mul_ne_zero hx h0)];unfold Fq.v;rw[Rat.mkRat_mul_mkRat,Rat.mkRat_eq_iff (Nat.mul_ne_zero (Nat.mul_ne_zero hx h0) hy) hx];unfold Fq.sg;cases x.s<;>cases y.s<;>simp<;>grind
 rw[←hm,Rat.div_def,Rat.mul_assoc,Rat.mul_inv_cancel _ hne,Rat.mul_one]
theorem da (n:Int):(Fq.ofInt n).v=(n:Rat):=by
 unfold Fq.ofInt Fq.v;simp only;rw[Rat.mkRat_one]
 congr 1
 unfold Fq.sg;by_cases h:n<0
 ·simp[h];omega
 ·simp[h];omega
theorem aG (n:Int):(Fq.ofInt n).valid=true:=by
 refine decide_eq_true ⟨Nat.one_ne_zero,?_,Nat.gcd_one_right _⟩;show¬(decide (n<0)=true∧n.natAbs=0);rintro⟨h1,h2⟩;have:=of_decide_eq_true h1;omega
theorem zA {x:Fq} (hx:x.valid=true):(x.v<0∧x.sgn= -1)∨(x.v=0∧x.sgn=0)∨(0<x.v∧x.sgn=1):=by
 have hn:=(v_num hx).1;have h0:=v_eq0 (Fq.valid.n hx);have hs:=Fq.valid.s hx;by_cases hp:x.p=0
 ·exact Or.inr (Or.inl ⟨h0.2 hp,by unfold Fq.sgn;rw[if_pos hp]⟩)
 ·have hne:x.v≠0:=fun h=>hp (h0.1 h)
  rcases Bool.eq_false_or_eq_true x.s with h | h
  ·refine Or.inl ⟨?_,by unfold Fq.sgn;rw[if_neg hp,if_pos h]⟩;have h1:¬(0≤x.v):=by rw[←Rat.num_nonneg,hn,h];unfold Fq.sg;simp;omega
   exact Rat.not_le.1 h1
  ·refine Or.inr (Or.inr ⟨?_,by unfold Fq.sgn;rw[if_neg hp,h];rfl⟩);have h1:0≤x.v:=by rw[←Rat.num_nonneg,hn,h];unfold Fq.sg;simp
   grind
theorem dC {x y:Fq} (hx:x.valid=true) (hy:y.valid=true):(x.add y).valid=true:=jd (Nat.mul_ne_zero (Fq.valid.n hx) (Fq.valid.n hy))
theorem aK {x y:Fq} (hx:x.valid=true) (hy:y.valid=true):(x.mul y).valid=true:=jd (Nat.mul_ne_zero (Fq.valid.n hx) (Fq.valid.n hy))
theorem db {x y:Fq} (hx:x.valid=true) (hy:y.valid=true):(x.sub y).valid=true:=dC hx (dW hy)
theorem go {x y:Fq} (hx:x.valid=true) (h0:y.p≠0):(x.div y).valid=true:=jd (Nat.mul_ne_zero (Fq.valid.n hx) h0)
theorem v_a {x y:Fq} (hx:x.valid=true) (hy:y.valid=true):(x.add y).v=x.v+y.v:=v_add (Fq.valid.n hx) (Fq.valid.n hy)
theorem v_m {x y:Fq} (hx:x.valid=true) (hy:y.valid=true):(x.mul y).v=x.v*y.v:=v_mul (Fq.valid.n hx) (Fq.valid.n hy)
theorem v_s {x y:Fq} (hx:x.valid=true) (hy:y.valid=true):(x.sub y).v=x.v - y.v:=v_sub (Fq.valid.n hx) (Fq.valid.n hy)
theorem qU {x y:Fq} (hx:x.valid=true) (hy:y.valid=true):(x.v<y.v∧x.cmp y= -1)∨(x.v=y.v∧x.cmp y=0)∨(y.v<x.v∧x.cmp y=1):=by
 unfold Fq.cmp;rcases zA (db hx hy)with⟨h1,h2⟩ | ⟨h1,h2⟩ | ⟨h1,h2⟩<;>rw[v_s hx hy]at h1
 ·exact Or.inl ⟨by grind,h2⟩
 ·exact Or.inr (Or.inl ⟨by grind,h2⟩)
 ·exact Or.inr (Or.inr ⟨by grind,h2⟩)
section
variable {a b c t:Fq} (ha:a.valid=true) (hb:b.valid=true) (hc:c.valid=true) (ht:t.valid=true)
include ha hb
include hc
end
section
variable {a b t:Fq} (ha:a.valid=true) (hb:b.valid=true) (ht:t.valid=true)
include ha
include hb
theorem bn:a.cmp b=0↔a=b:=by
 constructor
 ·intro h;rcases qU ha hb with⟨p1,p2⟩ | ⟨p1,p2⟩ | ⟨p1,p2⟩<;>first | omega | exact gn ha hb p1
 ·rintro rfl;rcases qU ha hb with⟨p1,p2⟩ | ⟨p1,p2⟩ | ⟨p1,p2⟩<;>first | exact p2 | grind
include ht
end
end
structure Vq where
 x:Fq
 y:Fq
 z:Fq
def Vq.add (a b:Vq):Vq:=⟨a.x.add b.x,a.y.add b.y,a.z.add b.z⟩
def Vq.sub (a b:Vq):Vq:=⟨a.x.sub b.x,a.y.sub b.y,a.z.sub b.z⟩
def Vq.scale (a:Vq) (k:Fq):Vq:=⟨a.x.mul k,a.y.mul k,a.z.mul k⟩
def Vq.dot (a b:Vq):Fq:=(a.x.mul b.x).add ((a.y.mul b.y).add (a.z.mul b.z))
def Vq.cross (a b:Vq):Vq:=⟨(a.y.mul b.z).sub (a.z.mul b.y),(a.z.mul b.x).sub (a.x.mul b.z),(a.x.mul b.y).sub (a.y.mul b.x)⟩
def Vq.lerp (a b:Vq) (t:Fq):Vq:=a.add ((b.sub a).scale t)
def Vq.of (x y z:Int):Vq:=⟨.ofInt x,.ofInt y,.ofInt z⟩
structure Vq.good (a:Vq):Prop where
 x:a.x.valid=true
 y:a.y.valid=true
 z:a.z.valid=true
section
variable {a b c:Vq} {k t:Fq}
theorem Vq.good.add (ha:a.good) (hb:b.good):(a.add b).good:=⟨dC ha.x hb.x,dC ha.y hb.y,dC ha.z hb.z⟩
theorem Vq.good.sub (ha:a.good) (hb:b.good):(a.sub b).good:=⟨db ha.x hb.x,db ha.y hb.y,db ha.z hb.z⟩
theorem Vq.good.scale (ha:a.good) (hk:k.valid=true):(a.scale k).good:=⟨aK ha.x hk,aK ha.y hk,aK ha.z hk⟩
theorem Vq.good.cross (ha:a.good) (hb:b.good):(a.cross b).good:=⟨db (aK ha.y hb.z) (aK ha.z hb.y),db (aK ha.z hb.x) (aK ha.x hb.z),db (aK ha.x hb.y) (aK ha.y hb.x)⟩
theorem Vq.good.lerp (ha:a.good) (hb:b.good) (ht:t.valid=true):(a.lerp b t).good:=ha.add ((hb.sub ha).scale ht)
theorem Vq.good.of (x y z:Int):(Vq.of x y z).good:=⟨aG x,aG y,aG z⟩
theorem cA (ha:a.good) (hb:b.good):(a.dot b).valid=true:=dC (aK ha.x hb.x) (dC (aK ha.y hb.y) (aK ha.z hb.z))
theorem uj (ha:a.good) (hb:b.good):(a.dot b).v=a.x.v*b.x.v+(a.y.v*b.y.v+a.z.v*b.z.v):=by
 unfold Vq.dot;rw[v_a (aK ha.x hb.x) (dC (aK ha.y hb.y) (aK ha.z hb.z)),v_a (aK ha.y hb.y) (aK ha.z hb.z),v_m ha.x hb.x,v_m ha.y hb.y,v_m ha.z hb.z]
theorem mX (ha:a.good) (hb:b.good):(a.add b).x.v=a.x.v+b.x.v∧(a.add b).y.v=a.y.v+b.y.v∧(a.add b).z.v=a.z.v+b.z.v:=⟨v_a ha.x hb.x,v_a ha.y hb.y,v_a ha.z hb.z⟩
theorem yg (ha:a.good) (hb:b.good):(a.sub b).x.v=a.x.v - b.x.v∧(a.sub b).y.v=a.y.v - b.y.v∧(a.sub b).z.v=a.z.v - b.z.v:=⟨v_s ha.x hb.x,v_s ha.y hb.y,v_s ha.z hb.z⟩
theorem el (ha:a.good) (hk:k.valid=true):(a.scale k).x.v=a.x.v*k.v∧(a.scale k).y.v=a.y.v*k.v∧(a.scale k).z.v=a.z.v*k.v:=⟨v_m ha.x hk,v_m ha.y hk,v_m ha.z hk⟩
theorem yi (ha:a.good) (hb:b.good):(a.cross b).x.v=a.y.v*b.z.v - a.z.v*b.y.v∧(a.cross b).y.v=a.z.v*b.x.v - a.x.v*b.z.v∧(a.cross b).z.v=a.x.v*b.y.v - a.y.v*b.x.v:=by
 unfold Vq.cross;refine⟨?_,?_,?_⟩
 ·rw[v_s (aK ha.y hb.z) (aK ha.z hb.y),v_m ha.y hb.z,v_m ha.z hb.y]
 ·rw[v_s (aK ha.z hb.x) (aK ha.x hb.z),v_m ha.z hb.x,v_m ha.x hb.z]
 ·rw[v_s (aK ha.x hb.y) (aK ha.y hb.x),v_m ha.x hb.y,v_m ha.y hb.x]
theorem Vq.inj (ha:a.good) (hb:b.good) (hx:a.x.v=b.x.v) (hy:a.y.v=b.y.v) (hz:a.z.v=b.z.v):a=b:=by
 have e1:=gn ha.x hb.x hx;have e2:=gn ha.y hb.y hy;have e3:=gn ha.z hb.z hz;cases a;cases b;simp only at e1 e2 e3;subst e1;subst e2;subst e3;rfl
theorem lerp_v (ha:a.good) (hb:b.good) (ht:t.valid=true):(a.lerp b t).x.v=a.x.v+(b.x.v - a.x.v)*t.v∧(a.lerp b t).y.v=a.y.v+(b.y.v - a.y.v)*t.v∧(a.lerp b t).z.v=a.z.v+(b.z.v - a.z.v)*t.v:=by
 have h1:=yg hb ha;have h2:=el (hb.sub ha) ht;have h3:=mX ha ((hb.sub ha).scale ht);unfold Vq.lerp;rw[h3.1,h3.2.1,h3.2.2,h2.1,h2.2.1,h2.2.2,h1.1,h1.2.1,h1.2.2];exact⟨rfl,rfl,rfl⟩
end
@[ext] structure QR where
 w:Rat
 x:Rat
 y:Rat
 z:Rat
@[ext] structure VR where
 x:Rat
 y:Rat
 z:Rat
def QR.nrm (a:QR):Rat:=a.w*a.w+(a.x*a.x+(a.y*a.y+a.z*a.z))
def QR.mul (p q:QR):QR:=⟨p.w*q.w - (p.x*q.x+(p.y*q.y+p.z*q.z)),q.x*p.w+p.x*q.w+(p.y*q.z - p.z*q.y),q.y*p.w+p.y*q.w+(p.z*q.x - p.x*q.z),q.z*p.w+p.z*q.w+(p.x*q.y - p.y*q.x)⟩
def QR.conj (a:QR):QR:=⟨a.w, -a.x, -a.y, -a.z⟩
def QR.smul (k:Rat) (a:QR):QR:=⟨k*a.w,k*a.x,k*a.y,k*a.z⟩
def QR.one:QR:=⟨1,0,0,0⟩
def Sim (a b:QR):Prop:=∃k:Rat,k≠0∧b=QR.smul k a
def QR.rot (q:QR) (v:VR):VR:=
 ⟨(q.w*q.w - (q.x*q.x+(q.y*q.y+q.z*q.z)))*v.x+(2*(q.x*v.x+(q.y*v.y+q.z*v.z)))*q.x+(2*q.w)*(q.y*v.z - q.z*v.y),
  (q.w*q.w - (q.x*q.x+(q.y*q.y+q.z*q.z)))*v.y+(2*(q.x*v.x+(q.y*v.y+q.z*v.z)))*q.y+(2*q.w)*(q.z*v.x - q.x*v.z),
  (q.w*q.w - (q.x*q.x+(q.y*q.y+q.z*q.z)))*v.z+(2*(q.x*v.x+(q.y*v.y+q.z*v.z)))*q.z+(2*q.w)*(q.x*v.y - q.y*v.x)⟩
def VR.smul (k:Rat) (v:VR):VR:=⟨k*v.x,k*v.y,k*v.z⟩
def VR.dot (a b:VR):Rat:=a.x*b.x+(a.y*b.y+a.z*b.z)
def QR.app (q:QR) (v:VR):VR:=(q.rot v).smul (q.nrm)⁻¹
theorem gP (r:Rat):0≤r*r:=by
 rcases Rat.le_total (a:=0) (b:=r)with h | h
 ·exact Rat.mul_nonneg h h
 ·have:=Rat.mul_nonneg (show 0≤ -r by grind) (show 0≤ -r by grind);grind
theorem nrm_zero {a:QR}:a.nrm=0↔a.w=0∧a.x=0∧a.y=0∧a.z=0:=by
 unfold QR.nrm;have h1:=gP a.w;have h2:=gP a.x;have h3:=gP a.y;have h4:=gP a.z;constructor
 ·intro h;have e1:a.w*a.w=0:=by grind
  have e2:a.x*a.x=0:=by grind
  have e3:a.y*a.y=0:=by grind
  have e4:a.z*a.z=0:=by grind
  exact⟨by grind,by grind,by grind,by grind⟩
 ·rintro⟨e1,e2,e3,e4⟩;rw[e1,e2,e3,e4];grind
theorem nrm_mul (p q:QR):(p.mul q).nrm=p.nrm*q.nrm:=by
 unfold QR.nrm QR.mul;grind
theorem nrm_conj (p:QR):p.conj.nrm=p.nrm:=by unfold QR.nrm QR.conj;grind
theorem uk (k:Rat) (p:QR):(QR.smul k p).nrm=k*k*p.nrm:=by unfold QR.nrm QR.smul;grind
theorem dX {a b:Rat} (ha:a≠0) (hb:b≠0):a*b≠0:=fun h=>by rcases Rat.mul_eq_zero.1 h with h | h;exact ha h;exact hb h
theorem Sim.refl (a:QR):Sim a a:=⟨1,by decide,by unfold QR.smul;ext<;>simp only<;>grind⟩
theorem Sim.symm {a b:QR} (h:Sim a b):Sim b a:=by
 obtain⟨k,hk,rfl⟩:=h;refine⟨k⁻¹,fun h=>by have h1:=Rat.inv_mul_cancel k hk;rw[h]at h1;grind,?_⟩;have:=Rat.inv_mul_cancel k hk;unfold QR.smul;ext<;>simp only<;>grind
theorem Sim.trans {a b c:QR} (h:Sim a b) (h2:Sim b c):Sim a c:=by
 obtain⟨k,hk,rfl⟩:=h;obtain⟨l,hl,rfl⟩:=h2;exact⟨l*k,dX hl hk,by unfold QR.smul;ext<;>simp only<;>grind⟩
theorem Sim.mul {a a' b b':QR} (h:Sim a a') (h2:Sim b b'):Sim (a.mul b) (a'.mul b'):=by
 obtain⟨k,hk,rfl⟩:=h;obtain⟨l,hl,rfl⟩:=h2;exact⟨k*l,dX hk hl,by unfold QR.smul QR.mul;ext<;>simp only<;>grind⟩
theorem Sim.conj {a b:QR} (h:Sim a b):Sim a.conj b.conj:=by
 obtain⟨k,hk,rfl⟩:=h;exact⟨k,hk,by unfold QR.smul QR.conj;ext<;>simp only<;>grind⟩
theorem Sim.nrm {a b:QR} (h:Sim a b) (ha:a.nrm≠0):b.nrm≠0:=by
 obtain⟨k,hk,rfl⟩:=h;rw[uk];exact dX (dX hk hk) ha
theorem rot_smul (k:Rat) (q:QR) (v:VR):(QR.smul k q).rot v=(q.rot v).smul (k*k):=by unfold QR.rot QR.smul VR.smul;ext<;>simp only<;>grind
theorem rot_dot (q:QR) (u v:VR):(q.rot u).dot (q.rot v)=q.nrm*q.nrm*u.dot v:=by unfold QR.rot VR.dot QR.nrm;simp only;grind
theorem zB (k l:Rat) (v:VR):(v.smul k).smul l=v.smul (l*k):=by unfold VR.smul;ext<;>simp only<;>grind
theorem app_sim {a b:QR} (h:Sim a b) (ha:a.nrm≠0) (v:VR):a.app v=b.app v:=by
 obtain⟨k,hk,rfl⟩:=h;unfold QR.app;rw[rot_smul,uk,zB]
 congr 1
 have h1:=Rat.inv_mul_cancel _ ha;have h2:=Rat.inv_mul_cancel _ (dX (dX hk hk) ha);have h3:(k*k*a.nrm)⁻¹=(k*k)⁻¹*(a.nrm)⁻¹:=by rw[Rat.inv_mul_rev,Rat.mul_comm]
 have h4:=Rat.inv_mul_cancel _ (dX hk hk);rw[h3];grind
theorem app_dot (q:QR) (h:q.nrm≠0) (u v:VR):(q.app u).dot (q.app v)=u.dot v:=by
 have h1:=rot_dot q u v;have h2:=Rat.inv_mul_cancel _ h;have h3:(q.app u).dot (q.app v)=(q.nrm)⁻¹*(q.nrm)⁻¹*(q.rot u).dot (q.rot v):=by unfold QR.app VR.smul VR.dot;simp only;grind
 rw[h3,h1];grind
end Go.Proofs.YtggfmklppkioeaaGreat
