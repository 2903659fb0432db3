/- Package fraction and its reference, by the executor. The plain law of fractions: what they stand for (rational numbers), and the laws of a field, of the order, of Lerp and of Floor. The plain law of vectors of fractions. The plain law of rotations, in rational numbers: quaternions up to a factor, and how they turn vectors. -/
import Derived.Test.YtggfmklppkioeaaGreatP07
namespace Go.Proofs.YtggfmklppkioeaaGreat
set_option linter.unusedSimpArgs false
set_option linter.unusedVariables false
set_option maxRecDepth 100000
open Go.RowKit
open _root_.Go renaming Calls → AH
open _root_.Bool renaming eq_false_or_eq_true → BG
open _root_.Nat renaming gcd → AM,gcd_ne_zero_right → C3,gcd_pos_of_pos_right → Fp,le_of_not_lt → DA,le_trans → AI,mul_div_cancel' → Fw,mul_ne_zero → Cj,mul_zero → CR,pos_of_ne_zero → Do
open _root_.Or renaming inl → A1
open _root_.Rat renaming inv_mul_cancel → Fx
open _root_.Go.Sem renaming run_bind → AO
open _root_.Go.Proofs.Tryz renaming func235 → C4,func256 → Du,prog → AE,underlying251 → Dt
open _root_.Go.Value renaming bool → Ci
def Fq.same(x y:Fq):Bool:=x.s==y.s && (decide (x.p=y.p) && decide (x.q=y.q))
theorem Fq.same_iff{x y:Fq}:x.same y=true↔x=y:=by
 obtain⟨a,b,c⟩:=x;obtain⟨a',C,G⟩:=y;simp[Fq.same]
def nt(n:Nat):SV:=.agg [.ref n]
def q3(i j k:Nat):SV:=.agg [.ref i,.ref j,.ref k]
variable{m d:Nat}
theorem aaJ{n e:Nat}(C:nl m<=d)(hn:nl n<=e):nl (m+n)<=d+e+1:=aI.2 (sm_add (aI.1 C) (aI.1 hn))
theorem pc{n:Nat}(C:nl m<=d):nl (m - n)<=d:=AI (dN (Nat.sub_le _ _)) C
theorem aaK{n:Nat}(C:nl m<=d):nl (m / n)<=d:=AI (dN (Nat.div_le_self _ _)) C
theorem bH{n e:Nat}(C:nl m<=d)(hn:nl n<=e):nl (AM m n)<=d+e:=by
 by_cases h:n=0
 ·subst h;rw[Nat.gcd_zero_right];omega
 ·have:=dN (Nat.gcd_le_right m (Do h));omega
theorem nO:nl 1<=1:=aI.2 th
theorem yT{v:Int}(C: -9223372036854775808<=v)(G:v<9223372036854775808):v.natAbs<18446744073709551616:=Aa
variable{a b:Bool}
theorem wD(h:a=b):(a==b)=true:=by simpa using h
theorem wE(h:a≠b):(a==b)=false:=by simpa using h
theorem le_t{n:Nat}(h:¬m<n):decide (n<=m)=true:=decide_eq_true Aa
theorem le_f{n:Nat}(h:m<n):decide (n<=m)=false:=decide_eq_false Aa
theorem t7(m n:Nat):(m<n/\dz m n= -1)\/(n<m/\dz m n=1)\/(m=n/\dz m n=0):=by
 rcases Nat.lt_trichotomy m n with h | h | h
 ·exact .inl ⟨h,gf h⟩
 ·exact .inr (.inr ⟨h,mg h⟩)
 ·exact .inr (.inl ⟨h,jJ h⟩)
theorem cmp_lt_t{n:Nat}(h:m<n):decide (dz m n<0)=true:=decide_eq_true (by have:=t7 m n;omega)
theorem cmp_lt_f{n:Nat}(h:¬m<n):decide (dz m n<0)=false:=decide_eq_false (by have:=t7 m n;omega)
theorem cmp_ne_t{n:Nat}(h:m≠n):(dz m n !=0)=true:=bneq_t (by have:=t7 m n;omega)
theorem cmp_ne_f{n:Nat}(h:m=n):(dz m n !=0)=false:=bneq_f (by have:=t7 m n;omega)
theorem lowz{n:Nat}(h0:n≠0):m / AM m n=0↔m=0:=by
 have C:=Fp m (Do h0);rw[Nat.div_eq_zero_iff];constructor
 ·rintro(h | h)
  ·omega
  ·rcases Nat.eq_zero_or_pos m with h2 | h2
   ·exact h2
   ·have:=Nat.gcd_le_left n h2;omega
 ·rintro rfl;exact .inr C
section
variable {ρ:Rho} {B:Blk} {w:World} {v:Value} {i j k l' n:Nat} {l r:Leaf} {m z z':Nat} {f:FuncId} {s b:Bool} {x y u:Fq} {t:TypeId} {c:Int} {p q a d:Nat} {S:Bool} {P Q P0 Q0:Nat} {S0:Bool}
variable{L N:Nat}
theorem nt_isR(h:ρ[n]? =some (.dig L N)):(nt n).holds ρ B w v↔IsR w v L N:=by
 constructor
 ·rintro⟨vs,rfl,h1⟩
  match vs,h1 with
  | [x],h1=>exact(jk h).1 h1.1
 ·intro h1;obtain⟨a,c,rfl,h2⟩:=h1;exact⟨[_],rfl,(jk h).2 ⟨a,c,rfl,h2⟩,trivial⟩
theorem aZ(h:ρ[n]? =some (.dig (nl N) N)):(nt n).holds ρ B w v↔IsN w v N:=nt_isR h
theorem inFR(h:qh w v s L p N q)(hl:∀B w,l.holds ρ B w (.bool s))(C:ρ[j]? =some (.dig L p))(G:ρ[k]? =some (.dig N q)):(SV.agg [l,.ref j,.ref k]).holds ρ B w v:=by
 obtain⟨a,c,b,d,rfl,h1,h2⟩:=h;exact⟨[_,_,_],rfl,hl B w,(jk C).2 h1,(jk G).2 h2,trivial⟩
theorem inF(h:IsF w v s p q)(hl:∀B w,l.holds ρ B w (.bool s))(C:ρ[j]? =some (.dig (nl p) p))(G:ρ[k]? =some (.dig (nl q) q)):(SV.agg [l,.ref j,.ref k]).holds ρ B w v:=inFR (s:=s) (L:=nl p) (N:=nl q) h hl C G
theorem dK(h:(SV.agg [l,.ref j,.ref k]).holds ρ B w v)(hl:∀B w x,l.holds ρ B w x->x= .bool S0)(hp:ρ[j]? =some (.dig (nl P0) P0))(J:ρ[k]? =some (.dig (nl Q0) Q0))(I:S0=S)(G:P0=P)(H:Q0=Q):IsF w v S P Q:=by
 subst I;subst G;subst H;obtain⟨vs,rfl,h1⟩:=h
 match vs,h1 with
 | [x,y,z],h1=>
  have C:=hl _ _ _ h1.1;subst C;have h2:=(jk hp).1 h1.2.1;have h3:=(jk J).1 h1.2.2.1;have hs:∀ {x:Value} {L N:Nat},IsR w (.agg #[x]) L N->∃a c,x= .slice a L c:=λ{x L N} h=>by
   obtain⟨a,c,e,_⟩:=h;injection e with e;have:=congrArg (λx:Array Value=>x[0]?) e;exact⟨a,c,by simpa using this⟩
  obtain⟨a,c,rfl⟩:=hs h2;obtain⟨b,d,rfl⟩:=hs h3;exact⟨a,c,b,d,rfl,h2,h3⟩
theorem wG{A:SV}(h:(AV.tup [A,.one l]).holds ρ B w v)(hl:∀B w x,l.holds ρ B w x->x= .int .i64 c):∃u,v= .tuple #[u,.int .i64 c]/\A.holds ρ B w u:=by
 obtain⟨vs,rfl,h1⟩:=h
 match vs,h1 with
 | [x,y],h1=>
  have e:=hl _ _ _ h1.2.1;subst e;exact⟨x,rfl,h1.1⟩
theorem lE{a b:Bool}(h:(SV.agg [l,r]).holds ρ B w v)(hl:∀B w x,l.holds ρ B w x->x= .bool a)(hr:∀B w x,r.holds ρ B w x->x= .bool b):v= .agg #[.bool a,.bool b]:=by
 obtain⟨vs,rfl,h1⟩:=h
 match vs,h1 with
 | [x,y],h1=>
  obtain rfl:=hl _ _ _ h1.1;obtain rfl:=hr _ _ _ h1.2.1;rfl
def FAt(ρ:Rho)(l:Leaf)(a b:Nat)(x:Fq):Prop:=(∀B w,l.holds ρ B w (.bool x.s))/\(∀B w v,l.holds ρ B w v->v= .bool x.s)/\ρ[a]? =some (.dig (nl x.p) x.p)/\ρ[b]? =some (.dig (nl x.q) x.q)
theorem bT{a b:Nat}(h1:∀B w,l.holds ρ B w (.bool x.s))(h2:∀B w v,l.holds ρ B w v->v= .bool x.s)(h3:ρ[a]? =some (.dig (nl x.p) x.p))(h4:ρ[b]? =some (.dig (nl x.q) x.q)):FAt ρ l a b x:=⟨h1,h2,h3,h4⟩
theorem FAt.isQ{a b:Nat}(h:FAt ρ l a b x)(hv:(SV.agg [l,.ref a,.ref b]).holds ρ B w v):IsQ w v x:=dK hv h.2.1 h.2.2.1 h.2.2.2 rfl rfl rfl
theorem FAt.into{a b:Nat}(h:FAt ρ l a b x)(hv:IsQ w v x):(SV.agg [l,.ref a,.ref b]).holds ρ B w v:=inF hv h.1 h.2.2.1 h.2.2.2
theorem bl2{b c:Bool}(h:b=c):∀B w x,(Leaf.b c).holds ρ B w x->x= .bool b:=λ_ _ _ e=>by subst h;exact e
theorem i2N(C:ji f)(hc:∀va vb w,IsN w va m->IsN w vb n->AH AE f #[va,vb] w (λe w'=>RetN w z e w'))(hi:ρ[i]? =some (.dig (nl m) m))(G:ρ[j]? =some (.dig (nl n) n))(H:ρ[k]? =some (.dig (nl z) z)):Inst.Ok AE ρ ⟨f,[nt i,nt j],.v (nt k)⟩:=
 ⟨C,λB w vs hB h=>by
  match vs,h with
  | [va,vb],h=>
   refine(hc va vb w ((aZ hi).1 h.1) ((aZ G).1 h.2.1)).mono ?_;rintro e w' ⟨v,rfl,h1,h2⟩;exact⟨v,rfl,(aZ H).2 h1,h2⟩⟩
theorem i1V{u:Value}(C:ji f)(hc:∀va w,IsN w va m->AH AE f #[va] w (λe w'=>bk w u e w'))(hi:ρ[i]? =some (.dig (nl m) m))(hl:∀B w,l.holds ρ B w u):Inst.Ok AE ρ ⟨f,[nt i],.v (.one l)⟩:=
 ⟨C,λB w vs hB h=>by
  match vs,h with
  | [va],h=>
   refine(hc va w ((aZ hi).1 h.1)).mono ?_;rintro e w' ⟨rfl,h2⟩;exact⟨_,rfl,hl B w',h2⟩⟩
theorem i2V{u:Value}(C:ji f)(hc:∀va vb w,IsN w va m->IsN w vb n->AH AE f #[va,vb] w (λe w'=>bk w u e w'))(hi:ρ[i]? =some (.dig (nl m) m))(G:ρ[j]? =some (.dig (nl n) n))(hl:∀B w,l.holds ρ B w u):Inst.Ok AE ρ ⟨f,[nt i,nt j],.v (.one l)⟩:=
 ⟨C,λB w vs hB h=>by
  match vs,h with
  | [va,vb],h=>
   refine(hc va vb w ((aZ hi).1 h.1) ((aZ G).1 h.2.1)).mono ?_;rintro e w' ⟨rfl,h2⟩;exact⟨_,rfl,hl B w',h2⟩⟩
theorem i1QQ{a b a' G:Nat}(C:ji f)(hc:∀va w,IsQ w va x->AH AE f #[va] w (λe w'=>eN w u e w'))(H:FAt ρ l a b x)(hr:FAt ρ r a' G u):Inst.Ok AE ρ ⟨f,[.agg [l,.ref a,.ref b]],.v (.agg [r,.ref a',.ref G])⟩:=
 ⟨C,λB w vs hB h=>by
  match vs,h with
  | [va],h=>
   refine(hc va w (H.isQ h.1)).mono ?_;rintro e w' ⟨v,rfl,h1,h2⟩;exact⟨v,rfl,hr.into h1,h2⟩⟩
theorem i2QQ{a b a' G c d:Nat}{H:Leaf}(C:ji f)(hc:∀va vb w,IsQ w va x->IsQ w vb y->AH AE f #[va,vb] w (λe w'=>eN w u e w'))(I:FAt ρ l a b x)(hy:FAt ρ H c d y)(hr:FAt ρ r a' G u):Inst.Ok AE ρ ⟨f,[.agg [l,.ref a,.ref b],.agg [H,.ref c,.ref d]],.v (.agg [r,.ref a',.ref G])⟩:=
 ⟨C,λB w vs hB h=>by
  match vs,h with
  | [va,vb],h=>
   refine(hc va vb w (I.isQ h.1) (hy.isQ h.2.1)).mono ?_;rintro e w' ⟨v,rfl,h1,h2⟩;exact⟨v,rfl,hr.into h1,h2⟩⟩
theorem i1QV{a b:Nat}{u:Value}(C:ji f)(hc:∀va w,IsQ w va x->AH AE f #[va] w (λe w'=>bk w u e w'))(G:FAt ρ l a b x)(hl:∀B w,r.holds ρ B w u):Inst.Ok AE ρ ⟨f,[.agg [l,.ref a,.ref b]],.v (.one r)⟩:=
 ⟨C,λB w vs hB h=>by
  match vs,h with
  | [va],h=>
   refine(hc va w (G.isQ h.1)).mono ?_;rintro e w' ⟨rfl,h2⟩;exact⟨_,rfl,hl B w',h2⟩⟩
variable{W w':World}{e:Ending}
theorem cW.toN(h:cW W n e w'):RetN W n e w':=by obtain⟨v,h1,h2,h3⟩:=h;exact⟨v,h1,h2.isN,h3⟩
theorem pC.out{m n:Nat}(h:pC W m n e w'):∃v,e= .returned (.tuple #[v,.bool (decide (n<=m))])/\IsN w' v (m - n)/\Below W.heap.size W w':=by obtain⟨v,h1,h2,h3⟩:=h;exact⟨v,h1,h2.isN,h3⟩
theorem iE.out{q r:Nat}{c:Int}(h:iE W q r c e w'):∃a b,e= .returned (.tuple #[a,b,.int .i64 c])/\IsN w' a q/\IsN w' b r/\Below W.heap.size W w':=by obtain⟨a,b,h1,h2,h3,h4⟩:=h;exact⟨a,b,h1,h2.isN,h3.isN,h4⟩
theorem RetP.out{c:Int}(h:RetP W N c e w'):∃v,e= .returned (.tuple #[v,.int .i64 c])/\IsN w' v N/\Below W.heap.size W w':=by obtain⟨v,h1,h2,h3⟩:=h;exact⟨v,h1,h2.isN,h3⟩
theorem iSub(C:ji f)(hc:∀va vb w,IsN w va m->IsN w vb n->AH AE f #[va,vb] w (λe w'=>pC w m n e w'))(hi:ρ[i]? =some (.dig (nl m) m))(G:ρ[j]? =some (.dig (nl n) n))(H:ρ[k]? =some (.dig (nl (m - n)) (m - n)))(hb:decide (n<=m)=b):Inst.Ok AE ρ ⟨f,[nt i,nt j],.tup [nt k,.one (.b b)]⟩:=
 ⟨C,λB w vs hB h=>by
  match vs,h with
  | [va,vb],h=>
   refine(hc va vb w ((aZ hi).1 h.1) ((aZ G).1 h.2.1)).mono ?_;intro e w' I;obtain⟨v,rfl,h1,h2⟩:=I.out;subst hb;exact⟨_,rfl,⟨[v,.bool _],rfl,(aZ H).2 h1,rfl,trivial⟩,h2⟩⟩
theorem iDiv(C:ji f)(hc:∀va vb w,IsN w va m->IsN w vb n->AH AE f #[va,vb] w (λe w'=>iE w (m / n) (m % n) 0 e w'))(hi:ρ[i]? =some (.dig (nl m) m))(G:ρ[j]? =some (.dig (nl n) n))(H:ρ[k]? =some (.dig (nl (m / n)) (m / n)))(hl:ρ[l']? =some (.dig (nl (m % n)) (m % n))):Inst.Ok AE ρ ⟨f,[nt i,nt j],.tup [nt k,nt l',.one (.i .i64 0)]⟩:=
 ⟨C,λB w vs hB h=>by
  match vs,h with
  | [va,vb],h=>
   refine(hc va vb w ((aZ hi).1 h.1) ((aZ G).1 h.2.1)).mono ?_;intro e w' I;obtain⟨x,y,rfl,h1,h3,h2⟩:=I.out;exact⟨_,rfl,⟨[x,y,.int .i64 0],rfl,(aZ H).2 h1,(aZ hl).2 h3,rfl,trivial⟩,h2⟩⟩
theorem iOf(C:ji f)(hc:∀w,AH AE f #[.int .u64 (N:Int)] w (λe w'=>RetN w N e w'))(hl:∀B w x,l.holds ρ B w x->x= .int .u64 (N:Int))(G:ρ[k]? =some (.dig (nl N) N)):Inst.Ok AE ρ ⟨f,[.one l],.v (nt k)⟩:=
 ⟨C,λB w vs hB h=>by
  match vs,h with
  | [va],h=>
   obtain rfl:=hl _ _ _ h.1;refine(hc w).mono ?_;rintro e w' ⟨v,rfl,h1,h2⟩;exact⟨v,rfl,(aZ G).2 h1,h2⟩⟩
theorem iVR(C:ji f)(hc:∀va w,IsR w va L N->AH AE f #[va] w (λe w'=>bk w (.bool (decide (nl N=L))) e w'))(hi:ρ[i]? =some (.dig L N))(hb:decide (nl N=L)=b):Inst.Ok AE ρ ⟨f,[nt i],.v (.one (.b b))⟩:=
 ⟨C,λB w vs hB h=>by
  match vs,h with
  | [va],h=>
   refine(hc va w ((nt_isR hi).1 h.1)).mono ?_;rintro e w' ⟨rfl,h2⟩;exact⟨_,rfl,by subst hb;rfl,h2⟩⟩
end
section
variable {ρ:Rho} {i j k l n m:Nat} {b:Bool} {r:Leaf} {c:Int} {st:ByteArray} {N L:Nat} {t:TypeId} {v:Int}
theorem eg(hi:ρ[i]? =some (.dig (nl m) m))(C:ρ[j]? =some (.dig (nl n) n))(G:ρ[k]? =some (.dig (nl (m*n)) (m*n)))(H:nl m<=1000000000000)(hn:nl n<=1000000000000):Inst.Ok AE ρ ⟨145,[nt i,nt j],.v (nt k)⟩:=
 i2N (ai Tryz.func145 rfl rfl) (λva vb w h1 h2=>(rK va vb m n w h1 h2 H hn).mono λ_ _ h=>h.toN) hi C G
theorem eh(hi:ρ[i]? =some (.dig (nl m) m))(C:ρ[j]? =some (.dig (nl n) n))(G:ρ[k]? =some (.dig (nl (m*n)) (m*n)))(H:nl m<=1000000000000)(hn:nl n<=1000000000000):Inst.Ok AE ρ ⟨305,[nt i,nt j],.v (nt k)⟩:=
 i2N (ai Tryz.func305 rfl rfl) (λva vb w h1 h2=>(c_ref_Mul va vb m n w h1 h2 H hn).mono λ_ _ h=>h.toN) hi C G
theorem iM(hi:ρ[i]? =some (.dig (nl m) m))(C:ρ[j]? =some (.dig (nl n) n))(G:ρ[k]? =some (.dig (nl (AM m n)) (AM m n)))(H:nl m<=1000000000000)(hn:nl n<=1000000000000):Inst.Ok AE ρ ⟨199,[nt i,nt j],.v (nt k)⟩:=
 i2N (ai Tryz.func199 rfl rfl) (λva vb w h1 h2=>(rM va vb m n w h1 h2 H hn).mono λ_ _ h=>h.toN) hi C G
theorem lF(hi:ρ[i]? =some (.dig (nl m) m))(C:ρ[j]? =some (.dig (nl n) n))(G:ρ[k]? =some (.dig (nl (AM m n)) (AM m n)))(H:nl m<=100000000000)(hn:nl n<=100000000000):Inst.Ok AE ρ ⟨261,[nt i,nt j],.v (nt k)⟩:=
 i2N (ai Tryz.func261 rfl rfl) (λva vb w h1 h2=>c_ref_Gcd va vb m n w h1 h2 H hn) hi C G
theorem I_nAdd(hi:ρ[i]? =some (.dig (nl m) m))(C:ρ[j]? =some (.dig (nl n) n))(G:ρ[k]? =some (.dig (nl (m+n)) (m+n)))(H:nl m<=1000000000000)(hn:nl n<=1000000000000):Inst.Ok AE ρ ⟨147,[nt i,nt j],.v (nt k)⟩:=
 i2N (ai Tryz.func147 rfl rfl) (λva vb w h1 h2=>(kL va vb m n w h1 h2 H hn).mono λ_ _ h=>h.toN) hi C G
theorem I_mAdd(hi:ρ[i]? =some (.dig (nl m) m))(C:ρ[j]? =some (.dig (nl n) n))(G:ρ[k]? =some (.dig (nl (m+n)) (m+n)))(H:nl m<=1000000000000)(hn:nl n<=1000000000000):Inst.Ok AE ρ ⟨288,[nt i,nt j],.v (nt k)⟩:=
 i2N (ai Tryz.func288 rfl rfl) (λva vb w h1 h2=>(jM va vb m n w h1 h2 H hn).mono λ_ _ h=>h.toN) hi C G
theorem jN(hi:ρ[i]? =some (.dig (nl m) m))(C:ρ[k]? =some (.dig (nl m) m))(G:nl m<=1000000000000):Inst.Ok AE ρ ⟨147,[nt i,.agg [.sl0]],.v (nt k)⟩:=
 ⟨ai Tryz.func147 rfl rfl,λB w vs hB h=>by
  match vs,h with
  | [va,vb],h=>
   obtain⟨us,rfl,h3⟩:=h.2.1
   match us,h3 with
   | [x],h3=>
    have e:x= .slice none 0 0:=h3.1;subst e;have h0:IsN w (.agg #[.slice none 0 0]) 0:=⟨none,0,by rw[bj],by rw[bj];omega,by rw[bj];decide,λh=>by rw[bj]at h;omega⟩;refine(kL va _ m 0 w ((aZ hi).1 h.1) h0 G (by rw[bj];decide)).mono ?_;intro e w' H;obtain⟨v,rfl,h1,h2⟩:=H.toN;exact⟨v,rfl,(aZ C).2 h1,h2⟩⟩
theorem yU(hi:ρ[i]? =some (.dig (nl m) m))(C:ρ[j]? =some (.dig (nl n) n))(G:ρ[k]? =some (.dig (nl (m - n)) (m - n)))(hb:decide (n<=m)=b)(H:nl m<=1000000000000)(hn:nl n<=1000000000000):Inst.Ok AE ρ ⟨148,[nt i,nt j],.tup [nt k,.one (.b b)]⟩:=
 iSub (ai Tryz.func148 rfl rfl) (λva vb w h1 h2=>rJ va vb m n w h1 h2 H hn) hi C G hb
theorem I_mSub(hi:ρ[i]? =some (.dig (nl m) m))(C:ρ[j]? =some (.dig (nl n) n))(G:ρ[k]? =some (.dig (nl (m - n)) (m - n)))(hb:decide (n<=m)=b)(H:nl m<=1000000000000)(hn:nl n<=1000000000000):Inst.Ok AE ρ ⟨291,[nt i,nt j],.tup [nt k,.one (.b b)]⟩:=
 iSub (ai Tryz.func291 rfl rfl) (λva vb w h1 h2=>rZ va vb m n w h1 h2 H hn) hi C G hb
theorem nP(hi:ρ[i]? =some (.dig (nl m) m))(C:ρ[j]? =some (.dig (nl n) n))(G:ρ[k]? =some (.dig (nl (m / n)) (m / n)))(hl:ρ[l]? =some (.dig (nl (m % n)) (m % n)))(H:nl m<=1000000000000)(hn:nl n<=1000000000000)(h0:n≠0):Inst.Ok AE ρ ⟨200,[nt i,nt j],.tup [nt k,nt l,.one (.i .i64 0)]⟩:=
 iDiv (ai Tryz.func200 rfl rfl) (λva vb w h1 h2=>gL va vb m n w h1 h2 H hn h0) hi C G hl
theorem nQ(hi:ρ[i]? =some (.dig (nl m) m))(C:ρ[j]? =some (.dig (nl n) n))(G:ρ[k]? =some (.dig (nl (m / n)) (m / n)))(hl:ρ[l]? =some (.dig (nl (m % n)) (m % n)))(H:nl m<=100000000000)(hn:nl n<=100000000000)(h0:n≠0):Inst.Ok AE ρ ⟨262,[nt i,nt j],.tup [nt k,nt l,.one (.i .i64 0)]⟩:=
 iDiv (ai Tryz.func262 rfl rfl) (λva vb w h1 h2=>mr va vb m n w h1 h2 H hn h0) hi C G hl
theorem I_nCmp(hi:ρ[i]? =some (.dig (nl m) m))(C:ρ[j]? =some (.dig (nl n) n))(hl:∀B w,r.holds ρ B w (.int .i64 (dz m n)))(G:nl m<=1000000000000)(hn:nl n<=1000000000000):Inst.Ok AE ρ ⟨191,[nt i,nt j],.v (.one r)⟩:=
 i2V (ai Tryz.func191 rfl rfl) (λva vb w h1 h2=>rI va vb m n w h1 h2 Aa Aa) hi C hl
theorem I_mCmp(hi:ρ[i]? =some (.dig (nl m) m))(C:ρ[j]? =some (.dig (nl n) n))(hl:∀B w,r.holds ρ B w (.int .i64 (dz m n)))(G:nl m<=1000000000000)(hn:nl n<=1000000000000):Inst.Ok AE ρ ⟨290,[nt i,nt j],.v (.one r)⟩:=
 i2V (ai Tryz.func290 rfl rfl) (λva vb w h1 h2=>nG va vb m n w h1 h2 G hn) hi C hl
theorem fk(hi:ρ[i]? =some (.dig (nl m) m))(C:ρ[j]? =some (.dig (nl n) n))(hb:decide (m=n)=b)(G:nl m<=1000000000000)(hn:nl n<=1000000000000):Inst.Ok AE ρ ⟨180,[nt i,nt j],.v (.one (.b b))⟩:=
 i2V (ai Tryz.func180 rfl rfl) (λva vb w h1 h2=>yt va vb m n w h1 h2 G hn) hi C (lb hb)
theorem I_nOf(G:ρ[k]? =some (.dig (nl N) N))(C:N<18446744073709551616):Inst.Ok AE ρ ⟨142,[.one (.i .u64 (N:Int))],.v (nt k)⟩:=
 iOf (ai Tryz.func142 rfl rfl) (λw=>(fh N w C).mono λ_ _ h=>h.toN) (λ_ _ _ h=>h) G
theorem wH(G:ρ[k]? =some (.dig (nl N) N))(C:N<18446744073709551616):Inst.Ok AE ρ ⟨112,[.one (.i .u64 (N:Int))],.v (nt k)⟩:=
 iOf (ai Tryz.func112 rfl rfl) (λw=>(pJ N w C).mono λ_ _ h=>h.toN) (λ_ _ _ h=>h) G
theorem yX(hi:ρ[i]? =some (.val (.int .u64 (N:Int))))(G:ρ[k]? =some (.dig (nl N) N))(C:N<18446744073709551616):Inst.Ok AE ρ ⟨112,[.one (.ref i)],.v (nt k)⟩:=
 iOf (ai Tryz.func112 rfl rfl) (λw=>(pJ N w C).mono λ_ _ h=>h.toN) (λ_ _ _ h=>cU hi h) G
theorem jO(hi:ρ[i]? =some (.dig L N))(hb:decide (nl N=L)=b)(C:L<=1000000000000):Inst.Ok AE ρ ⟨279,[nt i],.v (.one (.b b))⟩:=
 iVR (ai Tryz.func279 rfl rfl) (λva w h1=>(oT va L N w h1 Aa).mono λe w' h=>⟨h.1.trans (by rw[decide_eq_decide.2 (eq_comm)]),h.2⟩) hi hb
theorem jP(hi:ρ[i]? =some (.dig L N))(hb:decide (nl N=L)=b)(C:L<=1000000000000):Inst.Ok AE ρ ⟨286,[nt i],.v (.one (.b b))⟩:=
 iVR (ai Tryz.func286 rfl rfl) (λva w h1=>vL va L N w h1 Aa) hi hb
theorem bU(hi:ρ[i]? =some (.dig (nl N) N))(_h:(0:Nat)=0)(C:nl N<=1000000000000):Inst.Ok AE ρ ⟨279,[nt i],.v (.one (.b true))⟩:=jO hi (decide_eq_true rfl) C
theorem cV(hi:ρ[i]? =some (.dig (nl N) N))(_h:(0:Nat)=0)(C:nl N<=1000000000000):Inst.Ok AE ρ ⟨286,[nt i],.v (.one (.b true))⟩:=jP hi (decide_eq_true rfl) C
theorem bV(hi:ρ[i]? =some (.dig (nl m) m))(hb:decide (m=0)=b)(C:nl m<=1000000000000):Inst.Ok AE ρ ⟨197,[nt i],.v (.one (.b b))⟩:=
 i1V (ai Tryz.func197 rfl rfl) (λva w h1=>c_isZero va m w h1 C) hi (lb hb)
theorem cQ(hi:ρ[i]? =some (.dig (nl m) m))(hb:decide (m=0)=b)(C:nl m<=1000000000000):Inst.Ok AE ρ ⟨260,[nt i],.v (.one (.b b))⟩:=
 i1V (ai Tryz.func260 rfl rfl) (λva w h1=>c_zero va m w h1 C) hi (lb hb)
theorem I_mag(hi:ρ[i]? =some (.val (.int .i64 v)))(C:ρ[k]? =some (.dig (nl v.natAbs) v.natAbs))(G: -9223372036854775808<=v)(H:v<9223372036854775808):Inst.Ok AE ρ ⟨141,[.one (.ref i)],.v (nt k)⟩:=
 ⟨ai Tryz.func141 rfl rfl,λB w vs hB h=>by
  match vs,h with
  | [va],h=>
   obtain rfl:=cU hi h.1;refine(c_mag v w G H).mono ?_;rintro e w' ⟨x,rfl,h1,h2⟩;exact⟨x,rfl,(aZ C).2 h1,h2⟩⟩
theorem yY(hi:ρ[i]? =some (.val (.int .i64 v)))(C:ρ[k]? =some (.val (.int .u64 (v.natAbs:Int))))(G: -9223372036854775808<=v)(H:v<9223372036854775808):Inst.Ok AE ρ ⟨113,[.one (.ref i)],.v (.one (.ref k))⟩:=
 ⟨ai Tryz.func113 rfl rfl,λB w vs hB h=>by
  match vs,h with
  | [va],h=>
   obtain rfl:=cU hi h.1;refine(c_size v w G H).mono ?_;rintro e w' ⟨rfl,h2⟩;exact⟨_,rfl,bY C (go th),h2⟩⟩
theorem nR{ik:IntKind}{u:Int}(hn:ρ[n]? =some (.val (.int ik u)))(hl:∀B w,r.holds ρ B w (.bool (decide (u<c)))):(OIns.mk (.bin .lss t) [.one (.ref n),.one (.i ik c)] (.one r)).Ok AE ρ:=λB w vs hv=>by
 match vs,hv with
 | [v1,v2],hv=>
  have e:=cU (B:=B) hn hv.1;have C:v2= .int ik c:=hv.2.1;subst e;subst C;exact⟨_,hl B w,λG H=>by simp[eqGuard,binOp,Op.intCmp,AO,Result.andThen]⟩
theorem fm(a b c d:Bool):(OIns.mk (.bin .eql 258) [.agg [.b a,.b b],.agg [.b c,.b d]] (.one (.b (a==c && b==d)))).Ok AE ρ:=λB w vs hv=>by
 match vs,hv with
 | [v1,v2],hv=>
  obtain rfl:=lE hv.1 (bl _) (bl _);obtain rfl:=lE hv.2.1 (bl _) (bl _);exact⟨_,rfl,λC G=>by rw[AO,yR];exact run_eqSS a b c d w⟩
theorem iN(a b c d:Bool):(OIns.mk (.bin .neq 258) [.agg [.b a,.b b],.agg [.b c,.b d]] (.one (.b (!(a==c && b==d))))).Ok AE ρ:=λB w vs hv=>by
 match vs,hv with
 | [v1,v2],hv=>
  obtain rfl:=lE hv.1 (bl _) (bl _);obtain rfl:=lE hv.2.1 (bl _) (bl _);exact⟨_,rfl,λC G=>by rw[AO,yS];exact run_neSS a b c d w⟩
end
theorem q_low(s:Bool)(va vb:Value)(m n:Nat)(w:World)(ha:IsN w va m)(hb:IsN w vb n)(C:nl m<=10000000000)(hn:nl n<=10000000000)(h0:n≠0):
  AH AE 146 #[.bool s,va,vb] w λe w'=>eN w (Fq.low s m n) e w':=by
 rcases BG (s)with c0 | c0
 ·by_cases c1:(m / (AM m n))=0
  ·refine(cRn (ρ:=[.dig (nl m) m,.dig (nl n) n,.dig (nl (AM m n)) (AM m n),.dig (nl (m / (AM m n))) (m / (AM m n)),.dig (nl (m % (AM m n))) (m % (AM m n)),.dig (nl (n / (AM m n))) (n / (AM m n)),.dig (nl (n % (AM m n))) (n % (AM m n))]) (args:=[.one (.b true),nt 0,nt 1]) (vs:=[.bool s,va,vb]) (r:=.v (.agg [.b false,.ref 3,.ref 5]))
    (ae (iM (i:=0) (j:=1) (k:=2) rfl rfl rfl (AI C th) (AI hn th)) (ae (nP (i:=0) (j:=2) (k:=3) (l:=4) rfl rfl rfl rfl (AI C th) (AI (bH C hn) th) (C3 h0)) (ae (nP (i:=1) (j:=2) (k:=5) (l:=6) rfl rfl rfl rfl (AI hn th) (AI (bH C hn) th) (C3 h0)) (ae (bV (i:=3) rfl (decide_eq_true c1) (AI (aaK C) th)) ag))))
    ah Tryz.func146 Ab ⟨congrArg Ci c0,⟨(aZ rfl).2 ha,⟨(aZ rfl).2 hb,trivial⟩⟩⟩).mono ?_
   rintro e w' ⟨v,rfl,h1,h2⟩;exact⟨v,rfl,dK h1 (bl false) rfl rfl (by simp[Fq.low,dw,c0,(lowz h0).1 c1]) (rfl) (rfl),h2⟩
  ·refine(cRn (ρ:=[.dig (nl m) m,.dig (nl n) n,.dig (nl (AM m n)) (AM m n),.dig (nl (m / (AM m n))) (m / (AM m n)),.dig (nl (m % (AM m n))) (m % (AM m n)),.dig (nl (n / (AM m n))) (n / (AM m n)),.dig (nl (n % (AM m n))) (n % (AM m n))]) (args:=[.one (.b true),nt 0,nt 1]) (vs:=[.bool s,va,vb]) (r:=.v (.agg [.b true,.ref 3,.ref 5]))
    (ae (iM (i:=0) (j:=1) (k:=2) rfl rfl rfl (AI C th) (AI hn th)) (ae (nP (i:=0) (j:=2) (k:=3) (l:=4) rfl rfl rfl rfl (AI C th) (AI (bH C hn) th) (C3 h0)) (ae (nP (i:=1) (j:=2) (k:=5) (l:=6) rfl rfl rfl rfl (AI hn th) (AI (bH C hn) th) (C3 h0)) (ae (bV (i:=3) rfl (decide_eq_false c1) (AI (aaK C) th)) ag))))
    ah Tryz.func146 Ab ⟨congrArg Ci c0,⟨(aZ rfl).2 ha,⟨(aZ rfl).2 hb,trivial⟩⟩⟩).mono ?_
   rintro e w' ⟨v,rfl,h1,h2⟩;exact⟨v,rfl,dK h1 (bl true) rfl rfl (by simp[Fq.low,dw,c0,mt (lowz h0).2 c1]) (rfl) (rfl),h2⟩
 ·refine(cRn (ρ:=[.dig (nl m) m,.dig (nl n) n,.dig (nl (AM m n)) (AM m n),.dig (nl (m / (AM m n))) (m / (AM m n)),.dig (nl (m % (AM m n))) (m % (AM m n)),.dig (nl (n / (AM m n))) (n / (AM m n)),.dig (nl (n % (AM m n))) (n % (AM m n))]) (args:=[.one (.b false),nt 0,nt 1]) (vs:=[.bool s,va,vb]) (r:=.v (.agg [.b false,.ref 3,.ref 5]))
   (ae (iM (i:=0) (j:=1) (k:=2) rfl rfl rfl (AI C th) (AI hn th)) (ae (nP (i:=0) (j:=2) (k:=3) (l:=4) rfl rfl rfl rfl (AI C th) (AI (bH C hn) th) (C3 h0)) (ae (nP (i:=1) (j:=2) (k:=5) (l:=6) rfl rfl rfl rfl (AI hn th) (AI (bH C hn) th) (C3 h0)) ag)))
   ah Tryz.func146 Ab ⟨congrArg Ci c0,⟨(aZ rfl).2 ha,⟨(aZ rfl).2 hb,trivial⟩⟩⟩).mono ?_
  rintro e w' ⟨v,rfl,h1,h2⟩;exact⟨v,rfl,dK h1 (bl false) rfl rfl (by simp[Fq.low,dw,c0]) (rfl) (rfl),h2⟩
theorem q_rMake(s:Bool)(va vb:Value)(m n:Nat)(w:World)(ha:IsN w va m)(hb:IsN w vb n)(C:nl m<=10000000000)(hn:nl n<=10000000000)(h0:n≠0):
  AH AE 218 #[.bool s,va,vb] w λe w'=>pL w (Fq.low s m n) 0 e w':=by
 rcases BG (s)with c0 | c0
 ·by_cases c1:m=0
  ·refine(cRn (ρ:=[.dig (nl m) m,.dig (nl n) n,.dig (nl (AM m n)) (AM m n),.dig (nl (m / (AM m n))) (m / (AM m n)),.dig (nl (m % (AM m n))) (m % (AM m n)),.dig (nl (n / (AM m n))) (n / (AM m n)),.dig (nl (n % (AM m n))) (n % (AM m n))]) (args:=[.one (.b true),nt 0,nt 1]) (vs:=[.bool s,va,vb]) (r:=.tup [.agg [.b false,.ref 3,.ref 5],.one (.i .i64 0)])
    (ae (cQ (i:=1) rfl (decide_eq_false h0) (AI hn th)) (ae (lF (i:=0) (j:=1) (k:=2) rfl rfl rfl (AI C th) (AI hn th)) (ae (nQ (i:=0) (j:=2) (k:=3) (l:=4) rfl rfl rfl rfl (AI C th) (AI (bH C hn) th) (C3 h0)) (ae (nQ (i:=1) (j:=2) (k:=5) (l:=6) rfl rfl rfl rfl (AI hn th) (AI (bH C hn) th) (C3 h0)) (ae (cQ (i:=0) rfl (decide_eq_true c1) (AI C th)) ag)))))
    ah Tryz.func218 Ab ⟨congrArg Ci c0,⟨(aZ rfl).2 ha,⟨(aZ rfl).2 hb,trivial⟩⟩⟩).mono ?_
   rintro e w' ⟨v,rfl,h1,h2⟩;obtain⟨u,rfl,h3⟩:=wG h1 (λ_ _ _ h=>h);exact⟨u,rfl,dK h3 (bl false) rfl rfl (by simp[Fq.low,dw,c0,c1]) (rfl) (rfl),h2⟩
  ·refine(cRn (ρ:=[.dig (nl m) m,.dig (nl n) n,.dig (nl (AM m n)) (AM m n),.dig (nl (m / (AM m n))) (m / (AM m n)),.dig (nl (m % (AM m n))) (m % (AM m n)),.dig (nl (n / (AM m n))) (n / (AM m n)),.dig (nl (n % (AM m n))) (n % (AM m n))]) (args:=[.one (.b true),nt 0,nt 1]) (vs:=[.bool s,va,vb]) (r:=.tup [.agg [.b true,.ref 3,.ref 5],.one (.i .i64 0)])
    (ae (cQ (i:=1) rfl (decide_eq_false h0) (AI hn th)) (ae (lF (i:=0) (j:=1) (k:=2) rfl rfl rfl (AI C th) (AI hn th)) (ae (nQ (i:=0) (j:=2) (k:=3) (l:=4) rfl rfl rfl rfl (AI C th) (AI (bH C hn) th) (C3 h0)) (ae (nQ (i:=1) (j:=2) (k:=5) (l:=6) rfl rfl rfl rfl (AI hn th) (AI (bH C hn) th) (C3 h0)) (ae (cQ (i:=0) rfl (decide_eq_false c1) (AI C th)) ag)))))
    ah Tryz.func218 Ab ⟨congrArg Ci c0,⟨(aZ rfl).2 ha,⟨(aZ rfl).2 hb,trivial⟩⟩⟩).mono ?_
   rintro e w' ⟨v,rfl,h1,h2⟩;obtain⟨u,rfl,h3⟩:=wG h1 (λ_ _ _ h=>h);exact⟨u,rfl,dK h3 (bl true) rfl rfl (by simp[Fq.low,dw,c0,c1]) (rfl) (rfl),h2⟩
 ·refine(cRn (ρ:=[.dig (nl m) m,.dig (nl n) n,.dig (nl (AM m n)) (AM m n),.dig (nl (m / (AM m n))) (m / (AM m n)),.dig (nl (m % (AM m n))) (m % (AM m n)),.dig (nl (n / (AM m n))) (n / (AM m n)),.dig (nl (n % (AM m n))) (n % (AM m n))]) (args:=[.one (.b false),nt 0,nt 1]) (vs:=[.bool s,va,vb]) (r:=.tup [.agg [.b false,.ref 3,.ref 5],.one (.i .i64 0)])
   (ae (cQ (i:=1) rfl (decide_eq_false h0) (AI hn th)) (ae (lF (i:=0) (j:=1) (k:=2) rfl rfl rfl (AI C th) (AI hn th)) (ae (nQ (i:=0) (j:=2) (k:=3) (l:=4) rfl rfl rfl rfl (AI C th) (AI (bH C hn) th) (C3 h0)) (ae (nQ (i:=1) (j:=2) (k:=5) (l:=6) rfl rfl rfl rfl (AI hn th) (AI (bH C hn) th) (C3 h0)) ag))))
   ah Tryz.func218 Ab ⟨congrArg Ci c0,⟨(aZ rfl).2 ha,⟨(aZ rfl).2 hb,trivial⟩⟩⟩).mono ?_
  rintro e w' ⟨v,rfl,h1,h2⟩;obtain⟨u,rfl,h3⟩:=wG h1 (λ_ _ _ h=>h);exact⟨u,rfl,dK h3 (bl false) rfl rfl (by simp[Fq.low,dw,c0]) (rfl) (rfl),h2⟩
variable{ρ:Rho}{S:Bool}{l:Leaf}{i j x y z:Nat}
theorem sF{n:Nat}(hl:∀B w v,l.holds ρ B w v->v= .bool S)(hi:ρ[i]? =some (.dig (nl m) m))(C:ρ[j]? =some (.dig (nl n) n))(H:ρ[x]? =some (.val (.bool (Fq.low S m n).s)))(hy:ρ[y]? =some (.dig (nl (Fq.low S m n).p) (Fq.low S m n).p))(hz:ρ[z]? =some (.dig (nl (Fq.low S m n).q) (Fq.low S m n).q))(G:nl m<=10000000000)(hn:nl n<=10000000000)(h0:n≠0):Inst.Ok AE ρ ⟨146,[.one l,nt i,nt j],.v (.agg [.ref x,.ref y,.ref z])⟩:=
 ⟨ai Tryz.func146 rfl rfl,λB w vs hB h=>by
  match vs,h with
  | [v1,v2,v3],h=>
   obtain rfl:=hl _ _ _ h.1;refine(q_low S v2 v3 m n w ((aZ hi).1 h.2.1) ((aZ C).1 h.2.2.1) G hn h0).mono ?_;rintro e w' ⟨v,rfl,h1,h2⟩;exact⟨v,rfl,inF h1 (lrb H) hy hz,h2⟩⟩
theorem q_Make(s:Bool)(va vb:Value)(m n:Nat)(w:World)(ha:IsN w va m)(hb:IsN w vb n)(C:nl m<=10000000000)(hn:nl n<=10000000000)(h0:n≠0):
  AH AE 215 #[.bool s,va,vb] w λe w'=>pL w (Fq.low s m n) 0 e w':=by
 refine(cRn (ρ:=[.val (.bool s),.dig (nl m) m,.dig (nl n) n,.val (.bool (Fq.low s m n).s),.dig (nl (Fq.low s m n).p) (Fq.low s m n).p,.dig (nl (Fq.low s m n).q) (Fq.low s m n).q]) (args:=[.one (.ref 0),nt 1,nt 2]) (vs:=[.bool s,va,vb]) (r:=.tup [q3 3 4 5,.one (.i .i64 0)])
  (ae (bV (i:=2) rfl (decide_eq_false h0) (AI hn th)) (ae (sF (i:=1) (j:=2) (x:=3) (y:=4) (z:=5) (br (n:=0) rfl) rfl rfl rfl rfl rfl C hn h0) ag))
  ah Tryz.func215 Ab ⟨bY (n:=0) rfl bM,⟨(aZ rfl).2 ha,⟨(aZ rfl).2 hb,trivial⟩⟩⟩).mono ?_
 rintro e w' ⟨v,rfl,h1,h2⟩;obtain⟨u,rfl,h3⟩:=wG h1 (λ_ _ _ h=>h);exact⟨u,rfl,dK h3 (br (n:=3) rfl) rfl rfl (rfl) (rfl) (rfl),h2⟩
theorem I_fMake{n:Nat}(hl:∀B w v,l.holds ρ B w v->v= .bool S)(hi:ρ[i]? =some (.dig (nl m) m))(C:ρ[j]? =some (.dig (nl n) n))(H:ρ[x]? =some (.val (.bool (Fq.low S m n).s)))(hy:ρ[y]? =some (.dig (nl (Fq.low S m n).p) (Fq.low S m n).p))(hz:ρ[z]? =some (.dig (nl (Fq.low S m n).q) (Fq.low S m n).q))(G:nl m<=10000000000)(hn:nl n<=10000000000)(h0:n≠0):Inst.Ok AE ρ ⟨215,[.one l,nt i,nt j],.tup [.agg [.ref x,.ref y,.ref z],.one (.i .i64 0)]⟩:=
 ⟨ai Tryz.func215 rfl rfl,λB w vs hB h=>by
  match vs,h with
  | [v1,v2,v3],h=>
   obtain rfl:=hl _ _ _ h.1;refine(q_Make S v2 v3 m n w ((aZ hi).1 h.2.1) ((aZ C).1 h.2.2.1) G hn h0).mono ?_;rintro e w' ⟨v,rfl,h1,h2⟩;exact⟨_,rfl,⟨[v,.int .i64 0],rfl,inF h1 (lrb H) hy hz,rfl,trivial⟩,h2⟩⟩
theorem jQ{n:Nat}(hl:∀B w v,l.holds ρ B w v->v= .bool S)(hi:ρ[i]? =some (.dig (nl m) m))(C:ρ[j]? =some (.dig (nl n) n))(H:ρ[x]? =some (.val (.bool (Fq.low S m n).s)))(hy:ρ[y]? =some (.dig (nl (Fq.low S m n).p) (Fq.low S m n).p))(hz:ρ[z]? =some (.dig (nl (Fq.low S m n).q) (Fq.low S m n).q))(G:nl m<=10000000000)(hn:nl n<=10000000000)(h0:n≠0):Inst.Ok AE ρ ⟨218,[.one l,nt i,nt j],.tup [.agg [.ref x,.ref y,.ref z],.one (.i .i64 0)]⟩:=
 ⟨ai Tryz.func218 rfl rfl,λB w vs hB h=>by
  match vs,h with
  | [v1,v2,v3],h=>
   obtain rfl:=hl _ _ _ h.1;refine(q_rMake S v2 v3 m n w ((aZ hi).1 h.2.1) ((aZ C).1 h.2.2.1) G hn h0).mono ?_;rintro e w' ⟨v,rfl,h1,h2⟩;exact⟨_,rfl,⟨[v,.int .i64 0],rfl,inF h1 (lrb H) hy hz,rfl,trivial⟩,h2⟩⟩
variable{p:Prop}
theorem As(h:p:=by simp[Fq.low,dw,eM,fi,Fq.add,Fq.mul,Fq.div,Fq.neg,Fq.zero,Fq.sgn,cP,cL,c0,c1]):p:=h
theorem q_fNeg(va:Value)(x:Fq)(w:World)(ha:IsQ w va x)(h:x.ok 1000000000):
  AH AE 143 #[va] w λe w'=>eN w x.neg e w':=by
 rcases BG (x.s)with c0 | c0
 ·refine(cRn (ρ:=[.dig (nl x.p) x.p,.dig (nl x.q) x.q]) (args:=[.agg [.b true,.ref 0,.ref 1]]) (vs:=[va]) (r:=.v (.agg [.b false,.ref 0,.ref 1]))
   (ae (jN (i:=0) (k:=0) rfl rfl (AI h.p th)) (ae (jN (i:=1) (k:=1) rfl rfl (AI h.q th)) ag))
   ah Tryz.func143 Ab ⟨(inF ha (lb c0) rfl rfl),trivial⟩).mono ?_
  rintro e w' ⟨v,rfl,h1,h2⟩;exact⟨v,rfl,dK h1 (bl false) rfl rfl (by simp[Fq.low,dw,eM,fi,Fq.add,Fq.mul,Fq.div,Fq.neg,Fq.zero,Fq.sgn,cP,cL,c0]) (rfl) (rfl),h2⟩
 ·by_cases c1:x.p=0
  ·refine(cRn (ρ:=[.dig (nl x.p) x.p,.dig (nl x.q) x.q]) (args:=[.agg [.b false,.ref 0,.ref 1]]) (vs:=[va]) (r:=.v (.agg [.b false,.ref 0,.ref 1]))
    (ae (bV (i:=0) rfl (decide_eq_true c1) (AI h.p th)) (ae (jN (i:=0) (k:=0) rfl rfl (AI h.p th)) (ae (jN (i:=1) (k:=1) rfl rfl (AI h.q th)) ag)))
    ah Tryz.func143 Ab ⟨(inF ha (lb c0) rfl rfl),trivial⟩).mono ?_
   rintro e w' ⟨v,rfl,h1,h2⟩;exact⟨v,rfl,dK h1 (bl false) rfl rfl As (rfl) (rfl),h2⟩
  ·refine(cRn (ρ:=[.dig (nl x.p) x.p,.dig (nl x.q) x.q]) (args:=[.agg [.b false,.ref 0,.ref 1]]) (vs:=[va]) (r:=.v (.agg [.b true,.ref 0,.ref 1]))
    (ae (bV (i:=0) rfl (decide_eq_false c1) (AI h.p th)) (ae (jN (i:=0) (k:=0) rfl rfl (AI h.p th)) (ae (jN (i:=1) (k:=1) rfl rfl (AI h.q th)) ag)))
    ah Tryz.func143 Ab ⟨(inF ha (lb c0) rfl rfl),trivial⟩).mono ?_
   rintro e w' ⟨v,rfl,h1,h2⟩;exact⟨v,rfl,dK h1 (bl true) rfl rfl As (rfl) (rfl),h2⟩
variable{x:Fq}{a b a' C:Nat}{l':Leaf}
theorem J_fNeg(G:FAt ρ l a b x)(hr:FAt ρ l' a' C x.neg)(h:x.ok 1000000000):Inst.Ok AE ρ ⟨143,[.agg [l,.ref a,.ref b]],.v (.agg [l',.ref a',.ref C])⟩:=
 i1QQ (ai Tryz.func143 rfl rfl) (λva w ha=>q_fNeg va x w ha h) G hr
theorem Ah(h:p:=by simp[Fq.low,dw,eM,fi,Fq.add,Fq.mul,Fq.div,Fq.neg,Fq.zero,Fq.sgn,cP,cL]):p:=h
theorem q_fMul(va vb:Value)(x y:Fq)(w:World)(ha:IsQ w va x)(hb:IsQ w vb y)(h:x.ok 1000000000)(k:y.ok 1000000000):
  AH AE 136 #[va,vb] w λe w'=>eN w (x.mul y) e w':=by
 refine(cRn (ρ:=[.val (.bool x.s),.dig (nl x.p) x.p,.dig (nl x.q) x.q,.val (.bool y.s),.dig (nl y.p) y.p,.dig (nl y.q) y.q,.val (.bool (x.s !=y.s)),.dig (nl (x.p*y.p)) (x.p*y.p),.dig (nl (x.q*y.q)) (x.q*y.q),.val (.bool (Fq.low (x.s !=y.s) (x.p*y.p) (x.q*y.q)).s),.dig (nl (Fq.low (x.s !=y.s) (x.p*y.p) (x.q*y.q)).p) (Fq.low (x.s !=y.s) (x.p*y.p) (x.q*y.q)).p,.dig (nl (Fq.low (x.s !=y.s) (x.p*y.p) (x.q*y.q)).q) (Fq.low (x.s !=y.s) (x.p*y.p) (x.q*y.q)).q]) (args:=[q3 0 1 2,q3 3 4 5]) (vs:=[va,vb]) (r:=.v (q3 9 10 11))
  (ae (eg (i:=1) (j:=4) (k:=7) rfl rfl rfl (AI h.p th) (AI k.p th)) (ae (eg (i:=2) (j:=5) (k:=8) rfl rfl rfl (AI h.q th) (AI k.q th)) (ae (sF (i:=7) (j:=8) (x:=9) (y:=10) (z:=11) (br (n:=6) rfl) rfl rfl rfl rfl rfl (AI (aG h.p k.p) th) (AI (aG h.q k.q) th) (Cj h.n k.n)) ag)))
  (aj (sE (t:=4) Ab (br (n:=0) rfl) (br (n:=3) rfl) (lrb (n:=6) rfl)) (ah)) Tryz.func136 Ab ⟨(inF ha (lrb (n:=0) rfl) rfl rfl),⟨(inF hb (lrb (n:=3) rfl) rfl rfl),trivial⟩⟩).mono ?_
 rintro e w' ⟨v,rfl,h1,h2⟩;exact⟨v,rfl,dK h1 (br (n:=9) rfl) rfl rfl Ah Ah Ah,h2⟩
theorem Au(h:p:=by simp only[Fq.add,Fq.low,cP,cL,if_pos c0]):p:=h
theorem q_fAdd(va vb:Value)(x y:Fq)(w:World)(ha:IsQ w va x)(hb:IsQ w vb y)(h:x.ok 1000000000)(k:y.ok 1000000000):
  AH AE 85 #[va,vb] w λe w'=>eN w (x.add y) e w':=by
 by_cases c0:x.s=y.s
 ·refine(cRn (ρ:=[.val (.bool x.s),.dig (nl x.p) x.p,.dig (nl x.q) x.q,.val (.bool y.s),.dig (nl y.p) y.p,.dig (nl y.q) y.q,.dig (nl (x.p*y.q)) (x.p*y.q),.dig (nl (y.p*x.q)) (y.p*x.q),.dig (nl (x.q*y.q)) (x.q*y.q),.dig (nl ((x.p*y.q)+(y.p*x.q))) ((x.p*y.q)+(y.p*x.q)),.val (.bool (Fq.low x.s ((x.p*y.q)+(y.p*x.q)) (x.q*y.q)).s),.dig (nl (Fq.low x.s ((x.p*y.q)+(y.p*x.q)) (x.q*y.q)).p) (Fq.low x.s ((x.p*y.q)+(y.p*x.q)) (x.q*y.q)).p,.dig (nl (Fq.low x.s ((x.p*y.q)+(y.p*x.q)) (x.q*y.q)).q) (Fq.low x.s ((x.p*y.q)+(y.p*x.q)) (x.q*y.q)).q]) (args:=[q3 0 1 2,q3 3 4 5]) (vs:=[va,vb]) (r:=.v (q3 10 11 12))
   (ae (eg (i:=1) (j:=5) (k:=6) rfl rfl rfl (AI h.p th) (AI k.q th)) (ae (eg (i:=4) (j:=2) (k:=7) rfl rfl rfl (AI k.p th) (AI h.q th)) (ae (eg (i:=2) (j:=5) (k:=8) rfl rfl rfl (AI h.q th) (AI k.q th)) (ae (I_nAdd (i:=6) (j:=7) (k:=9) rfl rfl rfl (AI (aG h.p k.q) th) (AI (aG k.p h.q) th)) (ae (sF (i:=9) (j:=8) (x:=10) (y:=11) (z:=12) (br (n:=0) rfl) rfl rfl rfl rfl rfl (AI (aaJ (aG h.p k.q) (aG k.p h.q)) th) (AI (aG h.q k.q) th) (Cj h.n k.n)) ag)))))
   (aj (kM (t:=4) Ab (br (n:=0) rfl) (br (n:=3) rfl) (lb (wD c0))) (ah)) Tryz.func85 Ab ⟨(inF ha (lrb (n:=0) rfl) rfl rfl),⟨(inF hb (lrb (n:=3) rfl) rfl rfl),trivial⟩⟩).mono ?_
  rintro e w' ⟨v,rfl,h1,h2⟩;exact⟨v,rfl,dK h1 (br (n:=10) rfl) rfl rfl Au Au Au,h2⟩
 ·by_cases c1:(x.p*y.q)<(y.p*x.q)
  ·by_cases c2:(y.p*x.q)<(x.p*y.q)
   ·exact absurd c2 (Nat.lt_asymm c1)
   ·refine(cRn (ρ:=[.val (.bool x.s),.dig (nl x.p) x.p,.dig (nl x.q) x.q,.val (.bool y.s),.dig (nl y.p) y.p,.dig (nl y.q) y.q,.dig (nl (x.p*y.q)) (x.p*y.q),.dig (nl (y.p*x.q)) (y.p*x.q),.dig (nl (x.q*y.q)) (x.q*y.q),.dig (nl ((x.p*y.q) - (y.p*x.q))) ((x.p*y.q) - (y.p*x.q)),.dig (nl ((y.p*x.q) - (x.p*y.q))) ((y.p*x.q) - (x.p*y.q)),.val (.bool (Fq.low y.s ((y.p*x.q) - (x.p*y.q)) (x.q*y.q)).s),.dig (nl (Fq.low y.s ((y.p*x.q) - (x.p*y.q)) (x.q*y.q)).p) (Fq.low y.s ((y.p*x.q) - (x.p*y.q)) (x.q*y.q)).p,.dig (nl (Fq.low y.s ((y.p*x.q) - (x.p*y.q)) (x.q*y.q)).q) (Fq.low y.s ((y.p*x.q) - (x.p*y.q)) (x.q*y.q)).q]) (args:=[q3 0 1 2,q3 3 4 5]) (vs:=[va,vb]) (r:=.v (q3 11 12 13))
     (ae (eg (i:=1) (j:=5) (k:=6) rfl rfl rfl (AI h.p th) (AI k.q th)) (ae (eg (i:=4) (j:=2) (k:=7) rfl rfl rfl (AI k.p th) (AI h.q th)) (ae (eg (i:=2) (j:=5) (k:=8) rfl rfl rfl (AI h.q th) (AI k.q th)) (ae (yU (i:=6) (j:=7) (k:=9) rfl rfl rfl (le_f c1) (AI (aG h.p k.q) th) (AI (aG k.p h.q) th)) (ae (yU (i:=7) (j:=6) (k:=10) rfl rfl rfl (le_t c2) (AI (aG k.p h.q) th) (AI (aG h.p k.q) th)) (ae (sF (i:=10) (j:=8) (x:=11) (y:=12) (z:=13) (br (n:=3) rfl) rfl rfl rfl rfl rfl (AI (pc (aG k.p h.q)) th) (AI (aG h.q k.q) th) (Cj h.n k.n)) ag))))))
     (aj (kM (t:=4) Ab (br (n:=0) rfl) (br (n:=3) rfl) (lb (wE c0))) (ah)) Tryz.func85 Ab ⟨(inF ha (lrb (n:=0) rfl) rfl rfl),⟨(inF hb (lrb (n:=3) rfl) rfl rfl),trivial⟩⟩).mono ?_
    rintro e w' ⟨v,rfl,h1,h2⟩;exact⟨v,rfl,dK h1 (br (n:=11) rfl) rfl rfl (by simp only[Fq.add,Fq.low,cP,cL,if_neg c0,if_neg (Nat.not_le.2 c1)]) (by simp only[Fq.add,Fq.low,cP,cL,if_neg c0,if_neg (Nat.not_le.2 c1)]) (by simp only[Fq.add,Fq.low,cP,cL,if_neg c0,if_neg (Nat.not_le.2 c1)]),h2⟩
  ·refine(cRn (ρ:=[.val (.bool x.s),.dig (nl x.p) x.p,.dig (nl x.q) x.q,.val (.bool y.s),.dig (nl y.p) y.p,.dig (nl y.q) y.q,.dig (nl (x.p*y.q)) (x.p*y.q),.dig (nl (y.p*x.q)) (y.p*x.q),.dig (nl (x.q*y.q)) (x.q*y.q),.dig (nl ((x.p*y.q) - (y.p*x.q))) ((x.p*y.q) - (y.p*x.q)),.val (.bool (Fq.low x.s ((x.p*y.q) - (y.p*x.q)) (x.q*y.q)).s),.dig (nl (Fq.low x.s ((x.p*y.q) - (y.p*x.q)) (x.q*y.q)).p) (Fq.low x.s ((x.p*y.q) - (y.p*x.q)) (x.q*y.q)).p,.dig (nl (Fq.low x.s ((x.p*y.q) - (y.p*x.q)) (x.q*y.q)).q) (Fq.low x.s ((x.p*y.q) - (y.p*x.q)) (x.q*y.q)).q]) (args:=[q3 0 1 2,q3 3 4 5]) (vs:=[va,vb]) (r:=.v (q3 10 11 12))
    (ae (eg (i:=1) (j:=5) (k:=6) rfl rfl rfl (AI h.p th) (AI k.q th)) (ae (eg (i:=4) (j:=2) (k:=7) rfl rfl rfl (AI k.p th) (AI h.q th)) (ae (eg (i:=2) (j:=5) (k:=8) rfl rfl rfl (AI h.q th) (AI k.q th)) (ae (yU (i:=6) (j:=7) (k:=9) rfl rfl rfl (le_t c1) (AI (aG h.p k.q) th) (AI (aG k.p h.q) th)) (ae (sF (i:=9) (j:=8) (x:=10) (y:=11) (z:=12) (br (n:=0) rfl) rfl rfl rfl rfl rfl (AI (pc (aG h.p k.q)) th) (AI (aG h.q k.q) th) (Cj h.n k.n)) ag)))))
    (aj (kM (t:=4) Ab (br (n:=0) rfl) (br (n:=3) rfl) (lb (wE c0))) (ah)) Tryz.func85 Ab ⟨(inF ha (lrb (n:=0) rfl) rfl rfl),⟨(inF hb (lrb (n:=3) rfl) rfl rfl),trivial⟩⟩).mono ?_
   rintro e w' ⟨v,rfl,h1,h2⟩;exact⟨v,rfl,dK h1 (br (n:=10) rfl) rfl rfl (by simp only[Fq.add,Fq.low,cP,cL,if_neg c0,if_pos (DA c1)]) (by simp only[Fq.add,Fq.low,cP,cL,if_neg c0,if_pos (DA c1)]) (by simp only[Fq.add,Fq.low,cP,cL,if_neg c0,if_pos (DA c1)]),h2⟩
variable{y:Fq}{c:Nat}{m:Leaf}
theorem J_fAdd(G:FAt ρ l a b x)(hy:FAt ρ m c d y)(hr:FAt ρ l' a' C (x.add y))(h:x.ok 1000000000)(k:y.ok 1000000000):Inst.Ok AE ρ ⟨85,[.agg [l,.ref a,.ref b],.agg [m,.ref c,.ref d]],.v (.agg [l',.ref a',.ref C])⟩:=
 i2QQ (ai Tryz.func85 rfl rfl) (λva vb w ha hb=>q_fAdd va vb x y w ha hb h k) G hy hr
theorem q_fSub(va vb:Value)(x y:Fq)(w:World)(ha:IsQ w va x)(hb:IsQ w vb y)(h:x.ok 1000000000)(k:y.ok 1000000000):
  AH AE 82 #[va,vb] w λe w'=>eN w (x.sub y) e w':=by
 refine(cRn (ρ:=[.val (.bool x.s),.dig (nl x.p) x.p,.dig (nl x.q) x.q,.val (.bool y.s),.dig (nl y.p) y.p,.dig (nl y.q) y.q,.val (.bool y.neg.s),.dig (nl y.neg.p) y.neg.p,.dig (nl y.neg.q) y.neg.q,.val (.bool (x.add y.neg).s),.dig (nl (x.add y.neg).p) (x.add y.neg).p,.dig (nl (x.add y.neg).q) (x.add y.neg).q]) (args:=[q3 0 1 2,q3 3 4 5]) (vs:=[va,vb]) (r:=.v (q3 9 10 11))
  (ae (J_fNeg (bT (l:=.ref 3) (a:=4) (b:=5) (x:=y) (lrb (n:=3) rfl) (br (n:=3) rfl) rfl rfl) (bT (l:=.ref 6) (a:=7) (b:=8) (x:=y.neg) (lrb (n:=6) rfl) (br (n:=6) rfl) rfl rfl) k) (ae (J_fAdd (bT (l:=.ref 0) (a:=1) (b:=2) (x:=x) (lrb (n:=0) rfl) (br (n:=0) rfl) rfl rfl) (bT (l:=.ref 6) (a:=7) (b:=8) (x:=y.neg) (lrb (n:=6) rfl) (br (n:=6) rfl) rfl rfl) (bT (l:=.ref 9) (a:=10) (b:=11) (x:=(x.add y.neg)) (lrb (n:=9) rfl) (br (n:=9) rfl) rfl rfl) h k.neg) ag))
  ah Tryz.func82 Ab ⟨(inF ha (lrb (n:=0) rfl) rfl rfl),⟨(inF hb (lrb (n:=3) rfl) rfl rfl),trivial⟩⟩).mono ?_
 rintro e w' ⟨v,rfl,h1,h2⟩;exact⟨v,rfl,dK h1 (br (n:=9) rfl) rfl rfl (rfl) (rfl) (rfl),h2⟩
theorem J_fSub(G:FAt ρ l a b x)(hy:FAt ρ m c d y)(hr:FAt ρ l' a' C (x.sub y))(h:x.ok 1000000000)(k:y.ok 1000000000):Inst.Ok AE ρ ⟨82,[.agg [l,.ref a,.ref b],.agg [m,.ref c,.ref d]],.v (.agg [l',.ref a',.ref C])⟩:=
 i2QQ (ai Tryz.func82 rfl rfl) (λva vb w ha hb=>q_fSub va vb x y w ha hb h k) G hy hr
theorem q_fDiv(va vb:Value)(x y:Fq)(w:World)(ha:IsQ w va x)(hb:IsQ w vb y)(h:x.ok 1000000000)(k:y.ok 1000000000)(h0:y.p≠0):
  AH AE 234 #[va,vb] w λe w'=>pL w (x.div y) 0 e w':=by
 refine(cRn (ρ:=[.val (.bool x.s),.dig (nl x.p) x.p,.dig (nl x.q) x.q,.val (.bool y.s),.dig (nl y.p) y.p,.dig (nl y.q) y.q,.val (.bool (x.s !=y.s)),.dig (nl (x.p*y.q)) (x.p*y.q),.dig (nl (x.q*y.p)) (x.q*y.p),.val (.bool (Fq.low (x.s !=y.s) (x.p*y.q) (x.q*y.p)).s),.dig (nl (Fq.low (x.s !=y.s) (x.p*y.q) (x.q*y.p)).p) (Fq.low (x.s !=y.s) (x.p*y.q) (x.q*y.p)).p,.dig (nl (Fq.low (x.s !=y.s) (x.p*y.q) (x.q*y.p)).q) (Fq.low (x.s !=y.s) (x.p*y.q) (x.q*y.p)).q]) (args:=[q3 0 1 2,q3 3 4 5]) (vs:=[va,vb]) (r:=.tup [q3 9 10 11,.one (.i .i64 0)])
  (ae (bV (i:=4) rfl (decide_eq_false h0) (AI k.p th)) (ae (eg (i:=1) (j:=5) (k:=7) rfl rfl rfl (AI h.p th) (AI k.q th)) (ae (eg (i:=2) (j:=4) (k:=8) rfl rfl rfl (AI h.q th) (AI k.p th)) (ae (sF (i:=7) (j:=8) (x:=9) (y:=10) (z:=11) (br (n:=6) rfl) rfl rfl rfl rfl rfl (AI (aG h.p k.q) th) (AI (aG h.q k.p) th) (Cj h.n h0)) ag))))
  (aj (sE (t:=4) Ab (br (n:=0) rfl) (br (n:=3) rfl) (lrb (n:=6) rfl)) (ah)) Tryz.func234 Ab ⟨(inF ha (lrb (n:=0) rfl) rfl rfl),⟨(inF hb (lrb (n:=3) rfl) rfl rfl),trivial⟩⟩).mono ?_
 rintro e w' ⟨v,rfl,h1,h2⟩;obtain⟨u,rfl,h3⟩:=wG h1 (λ_ _ _ h=>h);exact⟨u,rfl,dK h3 (br (n:=9) rfl) rfl rfl Ah Ah Ah,h2⟩
theorem q_mark(va:Value)(x:Fq)(w:World)(ha:IsQ w va x)(hp:nl x.p<=1000000000000)(v:Bool)(hv:decide (x.p=0)=v):
  AH AE 198 #[va] w λe w'=>bk w (.agg #[.bool x.s,.bool v]) e w':=by
 by_cases c0:x.p=0
 ·refine(cRn (ρ:=[.val (.bool x.s),.dig (nl x.p) x.p,.dig (nl x.q) x.q]) (args:=[q3 0 1 2]) (vs:=[va]) (r:=.v (.agg [.ref 0,.b true]))
   (ae (bV (i:=1) rfl (decide_eq_true c0) hp) ag)
   ah Tryz.func198 Ab ⟨(inF ha (lrb (n:=0) rfl) rfl rfl),trivial⟩).mono ?_
  rintro e w' ⟨v',rfl,h1,h2⟩;have h1:=lE h1 (br (n:=0) rfl) (bl true);subst h1;exact⟨by rw[<-hv];simp[c0],h2⟩
 ·refine(cRn (ρ:=[.val (.bool x.s),.dig (nl x.p) x.p,.dig (nl x.q) x.q]) (args:=[q3 0 1 2]) (vs:=[va]) (r:=.v (.agg [.ref 0,.b false]))
   (ae (bV (i:=1) rfl (decide_eq_false c0) hp) ag)
   ah Tryz.func198 Ab ⟨(inF ha (lrb (n:=0) rfl) rfl rfl),trivial⟩).mono ?_
  rintro e w' ⟨v',rfl,h1,h2⟩;have h1:=lE h1 (br (n:=0) rfl) (bl false);subst h1;exact⟨by rw[<-hv];simp[c0],h2⟩
theorem fO{r:Leaf}{v:Bool}(C:FAt ρ l a b x)(hr:∀B w,r.holds ρ B w (.bool x.s))(hv:decide (x.p=0)=v)(hp:nl x.p<=1000000000000):Inst.Ok AE ρ ⟨198,[.agg [l,.ref a,.ref b]],.v (.agg [r,.b v])⟩:=
 ⟨ai Tryz.func198 rfl rfl,λB w vs hB h=>by
  match vs,h with
  | [va],h=>
   refine(q_mark va x w (C.isQ h.1) hp v hv).mono ?_;rintro e w' ⟨rfl,h2⟩;exact⟨_,rfl,⟨[.bool x.s,.bool v],rfl,hr B w',rfl,trivial⟩,h2⟩⟩
theorem AD(h:p:=by simp[Fq.sgn,c0,c1]):p:=h
theorem aaL(va:Value)(x:Fq)(w:World)(ha:IsQ w va x)(h:x.ok 1000000000000):
  AH AE 144 #[va] w λe w'=>bk w (.int .i64 x.sgn) e w':=by
 by_cases c0:x.p=0
 ·rcases BG (x.s)with c1 | c1
  ·refine(cRn (ρ:=[.dig (nl x.p) x.p,.dig (nl x.q) x.q]) (args:=[.agg [.b true,.ref 0,.ref 1]]) (vs:=[va]) (r:=.v (.one (.i .i64 0)))
    (ae (fO (bT (l:=.b true) (a:=0) (b:=1) (x:=x) (lb c1) (bl2 c1) rfl rfl) (lb c1) (decide_eq_true c0) h.p) ag)
    (aj (fm true true false true) (aj (fm true true true true) (ah))) Tryz.func144 Ab ⟨(inF ha (lb c1) rfl rfl),trivial⟩).mono ?_
   rintro e w' ⟨v,rfl,h1,h2⟩;have h1:=h1;have h1:v=_:=h1;subst h1;exact⟨AD,h2⟩
  ·refine(cRn (ρ:=[.dig (nl x.p) x.p,.dig (nl x.q) x.q]) (args:=[.agg [.b false,.ref 0,.ref 1]]) (vs:=[va]) (r:=.v (.one (.i .i64 0)))
    (ae (fO (bT (l:=.b false) (a:=0) (b:=1) (x:=x) (lb c1) (bl2 c1) rfl rfl) (lb c1) (decide_eq_true c0) h.p) ag)
    (aj (fm false true false true) (ah)) Tryz.func144 Ab ⟨(inF ha (lb c1) rfl rfl),trivial⟩).mono ?_
   rintro e w' ⟨v,rfl,h1,h2⟩;have h1:=h1;have h1:v=_:=h1;subst h1;exact⟨AD,h2⟩
 ·rcases BG (x.s)with c1 | c1
  ·refine(cRn (ρ:=[.dig (nl x.p) x.p,.dig (nl x.q) x.q]) (args:=[.agg [.b true,.ref 0,.ref 1]]) (vs:=[va]) (r:=.v (.one (.i .i64 (-1))))
    (ae (fO (bT (l:=.b true) (a:=0) (b:=1) (x:=x) (lb c1) (bl2 c1) rfl rfl) (lb c1) (decide_eq_false c0) h.p) ag)
    (aj (fm true false false true) (aj (fm true false true true) (aj (fm true false true false) (ah)))) Tryz.func144 Ab ⟨(inF ha (lb c1) rfl rfl),trivial⟩).mono ?_
   rintro e w' ⟨v,rfl,h1,h2⟩;have h1:=h1;have h1:v=_:=h1;subst h1;exact⟨AD,h2⟩
  ·refine(cRn (ρ:=[.dig (nl x.p) x.p,.dig (nl x.q) x.q]) (args:=[.agg [.b false,.ref 0,.ref 1]]) (vs:=[va]) (r:=.v (.one (.i .i64 1)))
    (ae (fO (bT (l:=.b false) (a:=0) (b:=1) (x:=x) (lb c1) (bl2 c1) rfl rfl) (lb c1) (decide_eq_false c0) h.p) ag)
    (aj (fm false false false true) (aj (fm false false true true) (aj (fm false false true false) (ah)))) Tryz.func144 Ab ⟨(inF ha (lb c1) rfl rfl),trivial⟩).mono ?_
   rintro e w' ⟨v,rfl,h1,h2⟩;have h1:=h1;have h1:v=_:=h1;subst h1;exact⟨AD,h2⟩
theorem J_fSign{r:Leaf}(C:FAt ρ l a b x)(hl:∀B w,r.holds ρ B w (.int .i64 x.sgn))(h:x.ok 1000000000000):Inst.Ok AE ρ ⟨144,[.agg [l,.ref a,.ref b]],.v (.one r)⟩:=
 i1QV (ai Tryz.func144 rfl rfl) (λva w ha=>aaL va x w ha h) C hl
theorem q_fCmp(va vb:Value)(x y:Fq)(w:World)(ha:IsQ w va x)(hb:IsQ w vb y)(h:x.ok 1000000000)(k:y.ok 1000000000):
  AH AE 83 #[va,vb] w λe w'=>bk w (.int .i64 (x.cmp y)) e w':=by
 refine(cRn (ρ:=[.val (.bool x.s),.dig (nl x.p) x.p,.dig (nl x.q) x.q,.val (.bool y.s),.dig (nl y.p) y.p,.dig (nl y.q) y.q,.val (.bool (x.sub y).s),.dig (nl (x.sub y).p) (x.sub y).p,.dig (nl (x.sub y).q) (x.sub y).q,.val (.int .i64 (x.sub y).sgn)]) (args:=[q3 0 1 2,q3 3 4 5]) (vs:=[va,vb]) (r:=.v (.one (.ref 9)))
  (ae (J_fSub (bT (l:=.ref 0) (a:=1) (b:=2) (x:=x) (lrb (n:=0) rfl) (br (n:=0) rfl) rfl rfl) (bT (l:=.ref 3) (a:=4) (b:=5) (x:=y) (lrb (n:=3) rfl) (br (n:=3) rfl) rfl rfl) (bT (l:=.ref 6) (a:=7) (b:=8) (x:=(x.sub y)) (lrb (n:=6) rfl) (br (n:=6) rfl) rfl rfl) h k) (ae (J_fSign (bT (l:=.ref 6) (a:=7) (b:=8) (x:=(x.sub y)) (lrb (n:=6) rfl) (br (n:=6) rfl) rfl rfl) (lr (n:=9) rfl) ((h.sub k).mono th)) ag))
  ah Tryz.func83 Ab ⟨(inF ha (lrb (n:=0) rfl) rfl rfl),⟨(inF hb (lrb (n:=3) rfl) rfl rfl),trivial⟩⟩).mono ?_
 rintro e w' ⟨v,rfl,h1,h2⟩;have h1:=(cU rfl h1);subst h1;exact⟨rfl,h2⟩
theorem q_fInt(v:Int)(w:World)(C: -9223372036854775808<=v)(G:v<9223372036854775808):
  AH AE 80 #[.int .i64 v] w λe w'=>eN w (Fq.ofInt v) e w':=by
 refine(cRn (ρ:=[.val (.int .i64 v),.val (.bool (decide (v<0))),.dig (nl v.natAbs) v.natAbs,.dig (nl 1) 1]) (args:=[.one (.ref 0)]) (vs:=[.int .i64 v]) (r:=.v (q3 1 2 3))
  (ae (I_mag (i:=0) (k:=2) rfl rfl C G) (ae (I_nOf (k:=3) rfl th) ag))
  (aj (nR (n:=0) (c:=0) (t:=2) rfl (lrb (n:=1) rfl)) (ah)) Tryz.func80 Ab ⟨bY (n:=0) rfl cw,trivial⟩).mono ?_
 rintro e w' ⟨v,rfl,h1,h2⟩;exact⟨v,rfl,dK h1 (br (n:=1) rfl) rfl rfl (by simp[Fq.ofInt]) (rfl) (rfl),h2⟩
theorem wJ(v u:Int)(w:World)(G: -9223372036854775808<=v)(I:v<9223372036854775808)(C: -9223372036854775808<=u)(H:u<9223372036854775808)(h0:u≠0):
  AH AE 166 #[.int .i64 v,.int .i64 u] w λe w'=>pL w (Fq.ratio v u) 0 e w':=by
 refine(cRn (ρ:=[.val (.int .i64 v),.val (.int .i64 u),.val (.bool (decide (v<0))),.val (.bool (decide (u<0))),.val (.bool ((decide (v<0)) !=(decide (u<0)))),.dig (nl v.natAbs) v.natAbs,.dig (nl u.natAbs) u.natAbs,.val (.bool (Fq.low ((decide (v<0)) !=(decide (u<0))) v.natAbs u.natAbs).s),.dig (nl (Fq.low ((decide (v<0)) !=(decide (u<0))) v.natAbs u.natAbs).p) (Fq.low ((decide (v<0)) !=(decide (u<0))) v.natAbs u.natAbs).p,.dig (nl (Fq.low ((decide (v<0)) !=(decide (u<0))) v.natAbs u.natAbs).q) (Fq.low ((decide (v<0)) !=(decide (u<0))) v.natAbs u.natAbs).q]) (args:=[.one (.ref 0),.one (.ref 1)]) (vs:=[.int .i64 v,.int .i64 u]) (r:=.tup [q3 7 8 9,.one (.i .i64 0)])
  (ae (I_mag (i:=0) (k:=5) rfl rfl G I) (ae (I_mag (i:=1) (k:=6) rfl rfl C H) (ae (I_fMake (i:=5) (j:=6) (x:=7) (y:=8) (z:=9) (br (n:=4) rfl) rfl rfl rfl rfl rfl (AI (lD G I) th) (AI (lD C H) th) Aa) ag)))
  (aj (nR (n:=0) (c:=0) (t:=2) rfl (lrb (n:=2) rfl)) (aj (nR (n:=1) (c:=0) (t:=2) rfl (lrb (n:=3) rfl)) (aj (sE (t:=4) Ab (br (n:=2) rfl) (br (n:=3) rfl) (lrb (n:=4) rfl)) (ah)))) Tryz.func166 Ab ⟨bY (n:=0) rfl cw,⟨bY (n:=1) rfl cw,trivial⟩⟩).mono ?_
 rintro e w' ⟨v,rfl,h1,h2⟩;obtain⟨u,rfl,h3⟩:=wG h1 (λ_ _ _ h=>h);exact⟨u,rfl,dK h3 (br (n:=7) rfl) rfl rfl (rfl) (rfl) (rfl),h2⟩
theorem q_rNeg(va:Value)(x:Fq)(w:World)(ha:IsQ w va x)(h:x.ok 1000000000):
  AH AE 297 #[va] w λe w'=>eN w x.neg e w':=by
 rcases BG (x.s)with c0 | c0
 ·refine(cRn (ρ:=[.dig (nl x.p) x.p,.dig (nl x.q) x.q]) (args:=[.agg [.b true,.ref 0,.ref 1]]) (vs:=[va]) (r:=.v (.agg [.b false,.ref 0,.ref 1]))
   (ag)
   ah Tryz.func297 Ab ⟨(inF ha (lb c0) rfl rfl),trivial⟩).mono ?_
  rintro e w' ⟨v,rfl,h1,h2⟩;exact⟨v,rfl,dK h1 (bl false) rfl rfl (by simp[Fq.low,dw,eM,fi,Fq.add,Fq.mul,Fq.div,Fq.neg,Fq.zero,Fq.sgn,cP,cL,c0]) (rfl) (rfl),h2⟩
 ·by_cases c1:x.p=0
  ·refine(cRn (ρ:=[.dig (nl x.p) x.p,.dig (nl x.q) x.q]) (args:=[.agg [.b false,.ref 0,.ref 1]]) (vs:=[va]) (r:=.v (.agg [.b false,.ref 0,.ref 1]))
    (ae (cQ (i:=0) rfl (decide_eq_true c1) (AI h.p th)) ag)
    ah Tryz.func297 Ab ⟨(inF ha (lb c0) rfl rfl),trivial⟩).mono ?_
   rintro e w' ⟨v,rfl,h1,h2⟩;exact⟨v,rfl,dK h1 (bl false) rfl rfl As (rfl) (rfl),h2⟩
  ·refine(cRn (ρ:=[.dig (nl x.p) x.p,.dig (nl x.q) x.q]) (args:=[.agg [.b false,.ref 0,.ref 1]]) (vs:=[va]) (r:=.v (.agg [.b true,.ref 0,.ref 1]))
    (ae (cQ (i:=0) rfl (decide_eq_false c1) (AI h.p th)) ag)
    ah Tryz.func297 Ab ⟨(inF ha (lb c0) rfl rfl),trivial⟩).mono ?_
   rintro e w' ⟨v,rfl,h1,h2⟩;exact⟨v,rfl,dK h1 (bl true) rfl rfl As (rfl) (rfl),h2⟩
theorem J_rNeg(G:FAt ρ l a b x)(hr:FAt ρ l' a' C x.neg)(h:x.ok 1000000000):Inst.Ok AE ρ ⟨297,[.agg [l,.ref a,.ref b]],.v (.agg [l',.ref a',.ref C])⟩:=
 i1QQ (ai Tryz.func297 rfl rfl) (λva w ha=>q_rNeg va x w ha h) G hr
theorem q_rMul(va vb:Value)(x y:Fq)(w:World)(ha:IsQ w va x)(hb:IsQ w vb y)(h:x.ok 1000000000)(k:y.ok 1000000000):
  AH AE 293 #[va,vb] w λe w'=>eN w (x.mul y) e w':=by
 refine(cRn (ρ:=[.val (.bool x.s),.dig (nl x.p) x.p,.dig (nl x.q) x.q,.val (.bool y.s),.dig (nl y.p) y.p,.dig (nl y.q) y.q,.val (.bool (x.s !=y.s)),.dig (nl (x.p*y.p)) (x.p*y.p),.dig (nl (x.q*y.q)) (x.q*y.q),.val (.bool (Fq.low (x.s !=y.s) (x.p*y.p) (x.q*y.q)).s),.dig (nl (Fq.low (x.s !=y.s) (x.p*y.p) (x.q*y.q)).p) (Fq.low (x.s !=y.s) (x.p*y.p) (x.q*y.q)).p,.dig (nl (Fq.low (x.s !=y.s) (x.p*y.p) (x.q*y.q)).q) (Fq.low (x.s !=y.s) (x.p*y.p) (x.q*y.q)).q]) (args:=[q3 0 1 2,q3 3 4 5]) (vs:=[va,vb]) (r:=.v (q3 9 10 11))
  (ae (eh (i:=1) (j:=4) (k:=7) rfl rfl rfl (AI h.p th) (AI k.p th)) (ae (eh (i:=2) (j:=5) (k:=8) rfl rfl rfl (AI h.q th) (AI k.q th)) (ae (jQ (i:=7) (j:=8) (x:=9) (y:=10) (z:=11) (br (n:=6) rfl) rfl rfl rfl rfl rfl (AI (aG h.p k.p) th) (AI (aG h.q k.q) th) (Cj h.n k.n)) ag)))
  (aj (sE (t:=4) Ab (br (n:=0) rfl) (br (n:=3) rfl) (lrb (n:=6) rfl)) (ah)) Tryz.func293 Ab ⟨(inF ha (lrb (n:=0) rfl) rfl rfl),⟨(inF hb (lrb (n:=3) rfl) rfl rfl),trivial⟩⟩).mono ?_
 rintro e w' ⟨v,rfl,h1,h2⟩;exact⟨v,rfl,dK h1 (br (n:=9) rfl) rfl rfl Ah Ah Ah,h2⟩
theorem q_rAdd(va vb:Value)(x y:Fq)(w:World)(ha:IsQ w va x)(hb:IsQ w vb y)(h:x.ok 1000000000)(k:y.ok 1000000000):
  AH AE 299 #[va,vb] w λe w'=>eN w (x.add y) e w':=by
 by_cases c0:x.s=y.s
 ·refine(cRn (ρ:=[.val (.bool x.s),.dig (nl x.p) x.p,.dig (nl x.q) x.q,.val (.bool y.s),.dig (nl y.p) y.p,.dig (nl y.q) y.q,.dig (nl (x.p*y.q)) (x.p*y.q),.dig (nl (y.p*x.q)) (y.p*x.q),.dig (nl (x.q*y.q)) (x.q*y.q),.dig (nl ((x.p*y.q)+(y.p*x.q))) ((x.p*y.q)+(y.p*x.q)),.val (.bool (Fq.low x.s ((x.p*y.q)+(y.p*x.q)) (x.q*y.q)).s),.dig (nl (Fq.low x.s ((x.p*y.q)+(y.p*x.q)) (x.q*y.q)).p) (Fq.low x.s ((x.p*y.q)+(y.p*x.q)) (x.q*y.q)).p,.dig (nl (Fq.low x.s ((x.p*y.q)+(y.p*x.q)) (x.q*y.q)).q) (Fq.low x.s ((x.p*y.q)+(y.p*x.q)) (x.q*y.q)).q]) (args:=[q3 0 1 2,q3 3 4 5]) (vs:=[va,vb]) (r:=.v (q3 10 11 12))
   (ae (eh (i:=1) (j:=5) (k:=6) rfl rfl rfl (AI h.p th) (AI k.q th)) (ae (eh (i:=4) (j:=2) (k:=7) rfl rfl rfl (AI k.p th) (AI h.q th)) (ae (eh (i:=2) (j:=5) (k:=8) rfl rfl rfl (AI h.q th) (AI k.q th)) (ae (I_mAdd (i:=6) (j:=7) (k:=9) rfl rfl rfl (AI (aG h.p k.q) th) (AI (aG k.p h.q) th)) (ae (jQ (i:=9) (j:=8) (x:=10) (y:=11) (z:=12) (br (n:=0) rfl) rfl rfl rfl rfl rfl (AI (aaJ (aG h.p k.q) (aG k.p h.q)) th) (AI (aG h.q k.q) th) (Cj h.n k.n)) ag)))))
   (aj (kM (t:=4) Ab (br (n:=0) rfl) (br (n:=3) rfl) (lb (wD c0))) (ah)) Tryz.func299 Ab ⟨(inF ha (lrb (n:=0) rfl) rfl rfl),⟨(inF hb (lrb (n:=3) rfl) rfl rfl),trivial⟩⟩).mono ?_
  rintro e w' ⟨v,rfl,h1,h2⟩;exact⟨v,rfl,dK h1 (br (n:=10) rfl) rfl rfl Au Au Au,h2⟩
 ·by_cases c1:(x.p*y.q)<(y.p*x.q)
  ·by_cases c2:(y.p*x.q)<(x.p*y.q)
   ·exact absurd c2 (Nat.lt_asymm c1)
   ·refine(cRn (ρ:=[.val (.bool x.s),.dig (nl x.p) x.p,.dig (nl x.q) x.q,.val (.bool y.s),.dig (nl y.p) y.p,.dig (nl y.q) y.q,.dig (nl (x.p*y.q)) (x.p*y.q),.dig (nl (y.p*x.q)) (y.p*x.q),.dig (nl (x.q*y.q)) (x.q*y.q),.val (.int .i64 (dz (x.p*y.q) (y.p*x.q))),.dig (nl ((y.p*x.q) - (x.p*y.q))) ((y.p*x.q) - (x.p*y.q)),.val (.bool (Fq.low y.s ((y.p*x.q) - (x.p*y.q)) (x.q*y.q)).s),.dig (nl (Fq.low y.s ((y.p*x.q) - (x.p*y.q)) (x.q*y.q)).p) (Fq.low y.s ((y.p*x.q) - (x.p*y.q)) (x.q*y.q)).p,.dig (nl (Fq.low y.s ((y.p*x.q) - (x.p*y.q)) (x.q*y.q)).q) (Fq.low y.s ((y.p*x.q) - (x.p*y.q)) (x.q*y.q)).q]) (args:=[q3 0 1 2,q3 3 4 5]) (vs:=[va,vb]) (r:=.v (q3 11 12 13))
     (ae (eh (i:=1) (j:=5) (k:=6) rfl rfl rfl (AI h.p th) (AI k.q th)) (ae (eh (i:=4) (j:=2) (k:=7) rfl rfl rfl (AI k.p th) (AI h.q th)) (ae (eh (i:=2) (j:=5) (k:=8) rfl rfl rfl (AI h.q th) (AI k.q th)) (ae (I_mCmp (i:=6) (j:=7) rfl rfl (lr (n:=9) rfl) (AI (aG h.p k.q) th) (AI (aG k.p h.q) th)) (ae (I_mSub (i:=7) (j:=6) (k:=10) rfl rfl rfl (le_t c2) (AI (aG k.p h.q) th) (AI (aG h.p k.q) th)) (ae (jQ (i:=10) (j:=8) (x:=11) (y:=12) (z:=13) (br (n:=3) rfl) rfl rfl rfl rfl rfl (AI (pc (aG k.p h.q)) th) (AI (aG h.q k.q) th) (Cj h.n k.n)) ag))))))
     (aj (kM (t:=4) Ab (br (n:=0) rfl) (br (n:=3) rfl) (lb (wE c0))) (aj (o_lssK (n:=9) (c:=0) (t:=3) rfl (cmp_lt_t c1)) (ah))) Tryz.func299 Ab ⟨(inF ha (lrb (n:=0) rfl) rfl rfl),⟨(inF hb (lrb (n:=3) rfl) rfl rfl),trivial⟩⟩).mono ?_
    rintro e w' ⟨v,rfl,h1,h2⟩;exact⟨v,rfl,dK h1 (br (n:=11) rfl) rfl rfl (by simp only[Fq.add,Fq.low,cP,cL,if_neg c0,if_neg (Nat.not_le.2 c1)]) (by simp only[Fq.add,Fq.low,cP,cL,if_neg c0,if_neg (Nat.not_le.2 c1)]) (by simp only[Fq.add,Fq.low,cP,cL,if_neg c0,if_neg (Nat.not_le.2 c1)]),h2⟩
  ·refine(cRn (ρ:=[.val (.bool x.s),.dig (nl x.p) x.p,.dig (nl x.q) x.q,.val (.bool y.s),.dig (nl y.p) y.p,.dig (nl y.q) y.q,.dig (nl (x.p*y.q)) (x.p*y.q),.dig (nl (y.p*x.q)) (y.p*x.q),.dig (nl (x.q*y.q)) (x.q*y.q),.val (.int .i64 (dz (x.p*y.q) (y.p*x.q))),.dig (nl ((x.p*y.q) - (y.p*x.q))) ((x.p*y.q) - (y.p*x.q)),.val (.bool (Fq.low x.s ((x.p*y.q) - (y.p*x.q)) (x.q*y.q)).s),.dig (nl (Fq.low x.s ((x.p*y.q) - (y.p*x.q)) (x.q*y.q)).p) (Fq.low x.s ((x.p*y.q) - (y.p*x.q)) (x.q*y.q)).p,.dig (nl (Fq.low x.s ((x.p*y.q) - (y.p*x.q)) (x.q*y.q)).q) (Fq.low x.s ((x.p*y.q) - (y.p*x.q)) (x.q*y.q)).q]) (args:=[q3 0 1 2,q3 3 4 5]) (vs:=[va,vb]) (r:=.v (q3 11 12 13))
    (ae (eh (i:=1) (j:=5) (k:=6) rfl rfl rfl (AI h.p th) (AI k.q th)) (ae (eh (i:=4) (j:=2) (k:=7) rfl rfl rfl (AI k.p th) (AI h.q th)) (ae (eh (i:=2) (j:=5) (k:=8) rfl rfl rfl (AI h.q th) (AI k.q th)) (ae (I_mCmp (i:=6) (j:=7) rfl rfl (lr (n:=9) rfl) (AI (aG h.p k.q) th) (AI (aG k.p h.q) th)) (ae (I_mSub (i:=6) (j:=7) (k:=10) rfl rfl rfl (le_t c1) (AI (aG h.p k.q) th) (AI (aG k.p h.q) th)) (ae (jQ (i:=10) (j:=8) (x:=11) (y:=12) (z:=13) (br (n:=0) rfl) rfl rfl rfl rfl rfl (AI (pc (aG h.p k.q)) th) (AI (aG h.q k.q) th) (Cj h.n k.n)) ag))))))
    (aj (kM (t:=4) Ab (br (n:=0) rfl) (br (n:=3) rfl) (lb (wE c0))) (aj (o_lssK (n:=9) (c:=0) (t:=3) rfl (cmp_lt_f c1)) (ah))) Tryz.func299 Ab ⟨(inF ha (lrb (n:=0) rfl) rfl rfl),⟨(inF hb (lrb (n:=3) rfl) rfl rfl),trivial⟩⟩).mono ?_
   rintro e w' ⟨v,rfl,h1,h2⟩;exact⟨v,rfl,dK h1 (br (n:=11) rfl) rfl rfl (by simp only[Fq.add,Fq.low,cP,cL,if_neg c0,if_pos (DA c1)]) (by simp only[Fq.add,Fq.low,cP,cL,if_neg c0,if_pos (DA c1)]) (by simp only[Fq.add,Fq.low,cP,cL,if_neg c0,if_pos (DA c1)]),h2⟩
theorem J_rAdd(G:FAt ρ l a b x)(hy:FAt ρ m c d y)(hr:FAt ρ l' a' C (x.add y))(h:x.ok 1000000000)(k:y.ok 1000000000):Inst.Ok AE ρ ⟨299,[.agg [l,.ref a,.ref b],.agg [m,.ref c,.ref d]],.v (.agg [l',.ref a',.ref C])⟩:=
 i2QQ (ai Tryz.func299 rfl rfl) (λva vb w ha hb=>q_rAdd va vb x y w ha hb h k) G hy hr
theorem q_rSub(va vb:Value)(x y:Fq)(w:World)(ha:IsQ w va x)(hb:IsQ w vb y)(h:x.ok 1000000000)(k:y.ok 1000000000):
  AH AE 292 #[va,vb] w λe w'=>eN w (x.sub y) e w':=by
 refine(cRn (ρ:=[.val (.bool x.s),.dig (nl x.p) x.p,.dig (nl x.q) x.q,.val (.bool y.s),.dig (nl y.p) y.p,.dig (nl y.q) y.q,.val (.bool y.neg.s),.dig (nl y.neg.p) y.neg.p,.dig (nl y.neg.q) y.neg.q,.val (.bool (x.add y.neg).s),.dig (nl (x.add y.neg).p) (x.add y.neg).p,.dig (nl (x.add y.neg).q) (x.add y.neg).q]) (args:=[q3 0 1 2,q3 3 4 5]) (vs:=[va,vb]) (r:=.v (q3 9 10 11))
  (ae (J_rNeg (bT (l:=.ref 3) (a:=4) (b:=5) (x:=y) (lrb (n:=3) rfl) (br (n:=3) rfl) rfl rfl) (bT (l:=.ref 6) (a:=7) (b:=8) (x:=y.neg) (lrb (n:=6) rfl) (br (n:=6) rfl) rfl rfl) k) (ae (J_rAdd (bT (l:=.ref 0) (a:=1) (b:=2) (x:=x) (lrb (n:=0) rfl) (br (n:=0) rfl) rfl rfl) (bT (l:=.ref 6) (a:=7) (b:=8) (x:=y.neg) (lrb (n:=6) rfl) (br (n:=6) rfl) rfl rfl) (bT (l:=.ref 9) (a:=10) (b:=11) (x:=(x.add y.neg)) (lrb (n:=9) rfl) (br (n:=9) rfl) rfl rfl) h k.neg) ag))
  ah Tryz.func292 Ab ⟨(inF ha (lrb (n:=0) rfl) rfl rfl),⟨(inF hb (lrb (n:=3) rfl) rfl rfl),trivial⟩⟩).mono ?_
 rintro e w' ⟨v,rfl,h1,h2⟩;exact⟨v,rfl,dK h1 (br (n:=9) rfl) rfl rfl (rfl) (rfl) (rfl),h2⟩
theorem q_rDiv(va vb:Value)(x y:Fq)(w:World)(ha:IsQ w va x)(hb:IsQ w vb y)(h:x.ok 1000000000)(k:y.ok 1000000000)(h0:y.p≠0):
  AH AE 307 #[va,vb] w λe w'=>pL w (x.div y) 0 e w':=by
 refine(cRn (ρ:=[.val (.bool x.s),.dig (nl x.p) x.p,.dig (nl x.q) x.q,.val (.bool y.s),.dig (nl y.p) y.p,.dig (nl y.q) y.q,.val (.bool (x.s !=y.s)),.dig (nl (x.p*y.q)) (x.p*y.q),.dig (nl (x.q*y.p)) (x.q*y.p),.val (.bool (Fq.low (x.s !=y.s) (x.p*y.q) (x.q*y.p)).s),.dig (nl (Fq.low (x.s !=y.s) (x.p*y.q) (x.q*y.p)).p) (Fq.low (x.s !=y.s) (x.p*y.q) (x.q*y.p)).p,.dig (nl (Fq.low (x.s !=y.s) (x.p*y.q) (x.q*y.p)).q) (Fq.low (x.s !=y.s) (x.p*y.q) (x.q*y.p)).q]) (args:=[q3 0 1 2,q3 3 4 5]) (vs:=[va,vb]) (r:=.tup [q3 9 10 11,.one (.i .i64 0)])
  (ae (eh (i:=1) (j:=5) (k:=7) rfl rfl rfl (AI h.p th) (AI k.q th)) (ae (eh (i:=2) (j:=4) (k:=8) rfl rfl rfl (AI h.q th) (AI k.p th)) (ae (jQ (i:=7) (j:=8) (x:=9) (y:=10) (z:=11) (br (n:=6) rfl) rfl rfl rfl rfl rfl (AI (aG h.p k.q) th) (AI (aG h.q k.p) th) (Cj h.n h0)) ag)))
  (aj (sE (t:=4) Ab (br (n:=0) rfl) (br (n:=3) rfl) (lrb (n:=6) rfl)) (ah)) Tryz.func307 Ab ⟨(inF ha (lrb (n:=0) rfl) rfl rfl),⟨(inF hb (lrb (n:=3) rfl) rfl rfl),trivial⟩⟩).mono ?_
 rintro e w' ⟨v,rfl,h1,h2⟩;obtain⟨u,rfl,h3⟩:=wG h1 (λ_ _ _ h=>h);exact⟨u,rfl,dK h3 (br (n:=9) rfl) rfl rfl Ah Ah Ah,h2⟩
theorem q_rSign(va:Value)(x:Fq)(w:World)(ha:IsQ w va x)(h:x.ok 1000000000000):
  AH AE 269 #[va] w λe w'=>bk w (.int .i64 x.sgn) e w':=by
 by_cases c0:x.p=0
 ·refine(cRn (ρ:=[.val (.bool x.s),.dig (nl x.p) x.p,.dig (nl x.q) x.q]) (args:=[q3 0 1 2]) (vs:=[va]) (r:=.v (.one (.i .i64 0)))
   (ae (cQ (i:=1) rfl (decide_eq_true c0) h.p) ag)
   ah Tryz.func269 Ab ⟨(inF ha (lrb (n:=0) rfl) rfl rfl),trivial⟩).mono ?_
  rintro e w' ⟨v,rfl,h1,h2⟩;have h1:=h1;have h1:v=_:=h1;subst h1;exact⟨by simp[Fq.sgn,c0],h2⟩
 ·rcases BG (x.s)with c1 | c1
  ·refine(cRn (ρ:=[.dig (nl x.p) x.p,.dig (nl x.q) x.q]) (args:=[.agg [.b true,.ref 0,.ref 1]]) (vs:=[va]) (r:=.v (.one (.i .i64 (-1))))
    (ae (cQ (i:=0) rfl (decide_eq_false c0) h.p) ag)
    ah Tryz.func269 Ab ⟨(inF ha (lb c1) rfl rfl),trivial⟩).mono ?_
   rintro e w' ⟨v,rfl,h1,h2⟩;have h1:=h1;have h1:v=_:=h1;subst h1;exact⟨AD,h2⟩
  ·refine(cRn (ρ:=[.dig (nl x.p) x.p,.dig (nl x.q) x.q]) (args:=[.agg [.b false,.ref 0,.ref 1]]) (vs:=[va]) (r:=.v (.one (.i .i64 1)))
    (ae (cQ (i:=0) rfl (decide_eq_false c0) h.p) ag)
    ah Tryz.func269 Ab ⟨(inF ha (lb c1) rfl rfl),trivial⟩).mono ?_
   rintro e w' ⟨v,rfl,h1,h2⟩;have h1:=h1;have h1:v=_:=h1;subst h1;exact⟨AD,h2⟩
theorem q_rInt(v:Int)(w:World)(C: -9223372036854775808<=v)(G:v<9223372036854775808):
  AH AE 51 #[.int .i64 v] w λe w'=>eN w (Fq.ofInt v) e w':=by
 refine(cRn (ρ:=[.val (.int .i64 v),.val (.bool (decide (v<0))),.val (.int .u64 (v.natAbs:Int)),.dig (nl v.natAbs) v.natAbs,.dig (nl 1) 1]) (args:=[.one (.ref 0)]) (vs:=[.int .i64 v]) (r:=.v (q3 1 3 4))
  (ae (yY (i:=0) (k:=2) rfl rfl C G) (ae (yX (i:=2) (k:=3) rfl rfl (yT C G)) (ae (wH (k:=4) rfl th) ag)))
  (aj (nR (n:=0) (c:=0) (t:=2) rfl (lrb (n:=1) rfl)) (ah)) Tryz.func51 Ab ⟨bY (n:=0) rfl cw,trivial⟩).mono ?_
 rintro e w' ⟨v,rfl,h1,h2⟩;exact⟨v,rfl,dK h1 (br (n:=1) rfl) rfl rfl (by simp[Fq.ofInt]) (rfl) (rfl),h2⟩
theorem wK(v u:Int)(w:World)(G: -9223372036854775808<=v)(I:v<9223372036854775808)(C: -9223372036854775808<=u)(H:u<9223372036854775808)(h0:u≠0):
  AH AE 169 #[.int .i64 v,.int .i64 u] w λe w'=>pL w (Fq.ratio v u) 0 e w':=by
 refine(cRn (ρ:=[.val (.int .i64 v),.val (.int .i64 u),.val (.bool (decide (v<0))),.val (.bool (decide (u<0))),.val (.bool ((decide (v<0)) !=(decide (u<0)))),.val (.int .u64 (v.natAbs:Int)),.dig (nl v.natAbs) v.natAbs,.val (.int .u64 (u.natAbs:Int)),.dig (nl u.natAbs) u.natAbs,.val (.bool (Fq.low ((decide (v<0)) !=(decide (u<0))) v.natAbs u.natAbs).s),.dig (nl (Fq.low ((decide (v<0)) !=(decide (u<0))) v.natAbs u.natAbs).p) (Fq.low ((decide (v<0)) !=(decide (u<0))) v.natAbs u.natAbs).p,.dig (nl (Fq.low ((decide (v<0)) !=(decide (u<0))) v.natAbs u.natAbs).q) (Fq.low ((decide (v<0)) !=(decide (u<0))) v.natAbs u.natAbs).q]) (args:=[.one (.ref 0),.one (.ref 1)]) (vs:=[.int .i64 v,.int .i64 u]) (r:=.tup [q3 9 10 11,.one (.i .i64 0)])
  (ae (yY (i:=0) (k:=5) rfl rfl G I) (ae (yX (i:=5) (k:=6) rfl rfl (yT G I)) (ae (yY (i:=1) (k:=7) rfl rfl C H) (ae (yX (i:=7) (k:=8) rfl rfl (yT C H)) (ae (jQ (i:=6) (j:=8) (x:=9) (y:=10) (z:=11) (br (n:=4) rfl) rfl rfl rfl rfl rfl (AI (lD G I) th) (AI (lD C H) th) Aa) ag)))))
  (aj (nR (n:=0) (c:=0) (t:=2) rfl (lrb (n:=2) rfl)) (aj (nR (n:=1) (c:=0) (t:=2) rfl (lrb (n:=3) rfl)) (aj (sE (t:=4) Ab (br (n:=2) rfl) (br (n:=3) rfl) (lrb (n:=4) rfl)) (ah)))) Tryz.func169 Ab ⟨bY (n:=0) rfl cw,⟨bY (n:=1) rfl cw,trivial⟩⟩).mono ?_
 rintro e w' ⟨v,rfl,h1,h2⟩;obtain⟨u,rfl,h3⟩:=wG h1 (λ_ _ _ h=>h);exact⟨u,rfl,dK h3 (br (n:=9) rfl) rfl rfl (rfl) (rfl) (rfl),h2⟩
theorem q_one(va:Value)(m:Nat)(w:World)(h:(Vp.row 31 1 [.dig (nl m) m]).p w va)(H:nl m<=1000000000000):
  AH AE 131 #[va] w λe w'=>bk w (.bool (decide (m=1))) e w':=by
 by_cases c0:m=1
 ·refine(cRn (ρ:=[.row 31 1 [.dig (nl m) m],.plc 31 [.dig (nl m) m],.dig (nl m) m,.dig (nl 1) 1,.val (.int .i64 (dz m 1))]) (args:=[.one (.ref 0)]) (vs:=[va]) (r:=.v (.one (.b true)))
   (ae (I_nOf (k:=3) rfl th) (ae (I_nCmp (i:=2) (j:=3) rfl rfl (lr (n:=4) rfl) H (AI nO th)) ag))
   (aj (o_lenR (n:=0) (t:=251) ⟨_,Dt⟩ rfl (li rfl)) (aj (o_iaL (k:=0) (l:=.i .i64 0) (sz:=1) (qs':=[.dig (nl m) m]) (n:=0) (m:=1) Dt Ab rfl rfl (λ_ _ _ h=>h) th Ag (λj q C=>by match j,C with | 0,C=>simp at C;subst C;rfl | j+1,C=>simp at C)) (aj (o_ldA (n:=1) (ls:=[.ref 2]) (t:=31) Ab Ab rfl ⟨lq rfl,trivial⟩) (aj (yO (n:=4) (c:=0) (t:=3) rfl (cmp_ne_f c0)) (ah))))) Tryz.func131 Ab ⟨⟨_,rfl,h,λ_ _ G=>tQ G⟩,trivial⟩).mono ?_
  rintro e w' ⟨v,rfl,h1,h2⟩;have h1:=h1;have h1:v=_:=h1;subst h1;exact⟨by simp[Bool.decide_eq_true,c0],h2⟩
 ·refine(cRn (ρ:=[.row 31 1 [.dig (nl m) m],.plc 31 [.dig (nl m) m],.dig (nl m) m,.dig (nl 1) 1,.val (.int .i64 (dz m 1))]) (args:=[.one (.ref 0)]) (vs:=[va]) (r:=.v (.one (.b false)))
   (ae (I_nOf (k:=3) rfl th) (ae (I_nCmp (i:=2) (j:=3) rfl rfl (lr (n:=4) rfl) H (AI nO th)) ag))
   (aj (o_lenR (n:=0) (t:=251) ⟨_,Dt⟩ rfl (li rfl)) (aj (o_iaL (k:=0) (l:=.i .i64 0) (sz:=1) (qs':=[.dig (nl m) m]) (n:=0) (m:=1) Dt Ab rfl rfl (λ_ _ _ h=>h) th Ag (λj q C=>by match j,C with | 0,C=>simp at C;subst C;rfl | j+1,C=>simp at C)) (aj (o_ldA (n:=1) (ls:=[.ref 2]) (t:=31) Ab Ab rfl ⟨lq rfl,trivial⟩) (aj (yO (n:=4) (c:=0) (t:=3) rfl (cmp_ne_t c0)) (ah))))) Tryz.func131 Ab ⟨⟨_,rfl,h,λ_ _ G=>tQ G⟩,trivial⟩).mono ?_
  rintro e w' ⟨v,rfl,h1,h2⟩;have h1:=h1;have h1:v=_:=h1;subst h1;exact⟨by simp[Bool.decide_eq_true,c0],h2⟩
variable{m:Nat}
theorem sG{n:Nat}{b:Bool}(hn:ρ[n]? =some (.row 31 1 [.dig (nl m) m]))(hb:decide (m=1)=b)(C:nl m<=1000000000000):Inst.Ok AE ρ ⟨131,[.one (.ref n)],.v (.one (.b b))⟩:=
 ⟨ai Tryz.func131 rfl rfl,λB w vs hB h=>by
  match vs,h with
  | [va],h=>
   obtain⟨⟨q,h1,h2,_⟩,_⟩:=h;rw[hn]at h1;injection h1 with h1;subst h1;refine(q_one va m w h2 C).mono ?_;rintro e w' ⟨rfl,h2⟩;exact⟨_,rfl,by subst hb;rfl,h2⟩⟩
theorem q_fValidR(va:Value)(s:Bool)(L p N q:Nat)(w:World)(ha:qh w va s L p N q)(G:L<=1000000)(H:N<=1000000)(C:¬(nl p=L/\nl q=N)):
  AH AE 235 #[va] w λe w'=>bk w (.bool false) e w':=by
 by_cases c0:nl p=L
 ·by_cases c1:nl q=N
  ·exact absurd ⟨c0,c1⟩ C
  ·refine(cRn (ρ:=[.val (.bool s),.dig L p,.dig N q]) (args:=[q3 0 1 2]) (vs:=[va]) (r:=.v (.one (.b false)))
    (ae (jO (i:=1) (b:=true) rfl (decide_eq_true c0) (AI G th)) (ae (jO (i:=2) (b:=false) rfl (decide_eq_false c1) (AI H th)) ag))
    ah C4 Ab ⟨(inFR ha (lrb (n:=0) rfl) rfl rfl),trivial⟩).mono ?_
   rintro e w' ⟨v,rfl,h1,h2⟩;have h1:=h1;have h1:v=_:=h1;subst h1;exact⟨rfl,h2⟩
 ·refine(cRn (ρ:=[.val (.bool s),.dig L p,.dig N q]) (args:=[q3 0 1 2]) (vs:=[va]) (r:=.v (.one (.b false)))
   (ae (jO (i:=1) (b:=false) rfl (decide_eq_false c0) (AI G th)) ag)
   ah C4 Ab ⟨(inFR ha (lrb (n:=0) rfl) rfl rfl),trivial⟩).mono ?_
  rintro e w' ⟨v,rfl,h1,h2⟩;have h1:=h1;have h1:v=_:=h1;subst h1;exact⟨rfl,h2⟩
theorem Ay(h:p:=by simp[Fq.valid,c0,c1,c2,c3]):p:=h
theorem wM(va:Value)(x:Fq)(w:World)(ha:IsQ w va x)(hp:nl x.p<=1000000)(C:nl x.q<=1000000):
  AH AE 235 #[va] w λe w'=>bk w (.bool x.valid) e w':=by
 by_cases c0:x.q=0
 ·refine(cRn (ρ:=[.val (.bool x.s),.dig (nl x.p) x.p,.dig (nl x.q) x.q]) (args:=[q3 0 1 2]) (vs:=[va]) (r:=.v (.one (.b false)))
   (ae (bU (i:=1) rfl rfl (AI hp th)) (ae (bU (i:=2) rfl rfl (AI C th)) (ae (bV (i:=2) rfl (decide_eq_true c0) (AI C th)) ag)))
   ah C4 Ab ⟨(inF ha (lrb (n:=0) rfl) rfl rfl),trivial⟩).mono ?_
  rintro e w' ⟨v,rfl,h1,h2⟩;have h1:=h1;have h1:v=_:=h1;subst h1;exact⟨by simp[Fq.valid,c0],h2⟩
 ·by_cases c1:x.p=0
  ·rcases BG (x.s)with c2 | c2
   ·refine(cRn (ρ:=[.dig (nl x.p) x.p,.dig (nl x.q) x.q]) (args:=[.agg [.b true,.ref 0,.ref 1]]) (vs:=[va]) (r:=.v (.one (.b false)))
     (ae (bU (i:=0) rfl rfl (AI hp th)) (ae (bU (i:=1) rfl rfl (AI C th)) (ae (bV (i:=1) rfl (decide_eq_false c0) (AI C th)) (ae (fO (bT (l:=.b true) (a:=0) (b:=1) (x:=x) (lb c2) (bl2 c2) rfl rfl) (lb c2) (decide_eq_true c1) (AI hp th)) ag))))
     (aj (iN true true true true) (ah)) C4 Ab ⟨(inF ha (lb c2) rfl rfl),trivial⟩).mono ?_
    rintro e w' ⟨v,rfl,h1,h2⟩;have h1:=h1;have h1:v=_:=h1;subst h1;exact⟨by simp[Fq.valid,c0,c1,c2],h2⟩
   ·by_cases c3:(AM x.p x.q)=1
    ·refine(cRn (ρ:=[.dig (nl x.p) x.p,.dig (nl x.q) x.q,.dig (nl (AM x.p x.q)) (AM x.p x.q),.row 31 1 [.dig (nl (AM x.p x.q)) (AM x.p x.q)]]) (args:=[.agg [.b false,.ref 0,.ref 1]]) (vs:=[va]) (r:=.v (.one (.b true)))
      (ae (bU (i:=0) rfl rfl (AI hp th)) (ae (bU (i:=1) rfl rfl (AI C th)) (ae (bV (i:=1) rfl (decide_eq_false c0) (AI C th)) (ae (fO (bT (l:=.b false) (a:=0) (b:=1) (x:=x) (lb c2) (bl2 c2) rfl rfl) (lb c2) (decide_eq_true c1) (AI hp th)) (ae (iM (i:=0) (j:=1) (k:=2) rfl rfl rfl (AI hp th) (AI C th)) (ae (sG (n:=3) rfl (decide_eq_true c3) (AI (bH hp C) th)) ag))))))
      (aj (iN false true true true) (aj (o_bs (m:=3) (ss:=[nt 2]) (N:=1) (sz:=1) (z:=[.sl0]) (qs:=[.dig (nl (AM x.p x.q)) (AM x.p x.q)]) (ix:=[0]) (ls:=[.ref 2]) Dt Ab Ab th th th rfl Ab ⟨nN rfl,trivial⟩ rfl) (ah))) C4 Ab ⟨(inF ha (lb c2) rfl rfl),trivial⟩).mono ?_
     rintro e w' ⟨v,rfl,h1,h2⟩;have h1:=h1;have h1:v=_:=h1;subst h1;exact⟨by rw[c1,Nat.gcd_zero_left]at c3;simp[Fq.valid,c0,c1,c2,c3],h2⟩
    ·refine(cRn (ρ:=[.dig (nl x.p) x.p,.dig (nl x.q) x.q,.dig (nl (AM x.p x.q)) (AM x.p x.q),.row 31 1 [.dig (nl (AM x.p x.q)) (AM x.p x.q)]]) (args:=[.agg [.b false,.ref 0,.ref 1]]) (vs:=[va]) (r:=.v (.one (.b false)))
      (ae (bU (i:=0) rfl rfl (AI hp th)) (ae (bU (i:=1) rfl rfl (AI C th)) (ae (bV (i:=1) rfl (decide_eq_false c0) (AI C th)) (ae (fO (bT (l:=.b false) (a:=0) (b:=1) (x:=x) (lb c2) (bl2 c2) rfl rfl) (lb c2) (decide_eq_true c1) (AI hp th)) (ae (iM (i:=0) (j:=1) (k:=2) rfl rfl rfl (AI hp th) (AI C th)) (ae (sG (n:=3) rfl (decide_eq_false c3) (AI (bH hp C) th)) ag))))))
      (aj (iN false true true true) (aj (o_bs (m:=3) (ss:=[nt 2]) (N:=1) (sz:=1) (z:=[.sl0]) (qs:=[.dig (nl (AM x.p x.q)) (AM x.p x.q)]) (ix:=[0]) (ls:=[.ref 2]) Dt Ab Ab th th th rfl Ab ⟨nN rfl,trivial⟩ rfl) (ah))) C4 Ab ⟨(inF ha (lb c2) rfl rfl),trivial⟩).mono ?_
     rintro e w' ⟨v,rfl,h1,h2⟩;have h1:=h1;have h1:v=_:=h1;subst h1;exact⟨by rw[c1,Nat.gcd_zero_left]at c3;simp[Fq.valid,c0,c1,c2,c3],h2⟩
  ·rcases BG (x.s)with c2 | c2
   ·by_cases c3:(AM x.p x.q)=1
    ·refine(cRn (ρ:=[.dig (nl x.p) x.p,.dig (nl x.q) x.q,.dig (nl (AM x.p x.q)) (AM x.p x.q),.row 31 1 [.dig (nl (AM x.p x.q)) (AM x.p x.q)]]) (args:=[.agg [.b true,.ref 0,.ref 1]]) (vs:=[va]) (r:=.v (.one (.b true)))
      (ae (bU (i:=0) rfl rfl (AI hp th)) (ae (bU (i:=1) rfl rfl (AI C th)) (ae (bV (i:=1) rfl (decide_eq_false c0) (AI C th)) (ae (fO (bT (l:=.b true) (a:=0) (b:=1) (x:=x) (lb c2) (bl2 c2) rfl rfl) (lb c2) (decide_eq_false c1) (AI hp th)) (ae (iM (i:=0) (j:=1) (k:=2) rfl rfl rfl (AI hp th) (AI C th)) (ae (sG (n:=3) rfl (decide_eq_true c3) (AI (bH hp C) th)) ag))))))
      (aj (iN true false true true) (aj (o_bs (m:=3) (ss:=[nt 2]) (N:=1) (sz:=1) (z:=[.sl0]) (qs:=[.dig (nl (AM x.p x.q)) (AM x.p x.q)]) (ix:=[0]) (ls:=[.ref 2]) Dt Ab Ab th th th rfl Ab ⟨nN rfl,trivial⟩ rfl) (ah))) C4 Ab ⟨(inF ha (lb c2) rfl rfl),trivial⟩).mono ?_
     rintro e w' ⟨v,rfl,h1,h2⟩;have h1:=h1;have h1:v=_:=h1;subst h1;exact⟨Ay,h2⟩
    ·refine(cRn (ρ:=[.dig (nl x.p) x.p,.dig (nl x.q) x.q,.dig (nl (AM x.p x.q)) (AM x.p x.q),.row 31 1 [.dig (nl (AM x.p x.q)) (AM x.p x.q)]]) (args:=[.agg [.b true,.ref 0,.ref 1]]) (vs:=[va]) (r:=.v (.one (.b false)))
      (ae (bU (i:=0) rfl rfl (AI hp th)) (ae (bU (i:=1) rfl rfl (AI C th)) (ae (bV (i:=1) rfl (decide_eq_false c0) (AI C th)) (ae (fO (bT (l:=.b true) (a:=0) (b:=1) (x:=x) (lb c2) (bl2 c2) rfl rfl) (lb c2) (decide_eq_false c1) (AI hp th)) (ae (iM (i:=0) (j:=1) (k:=2) rfl rfl rfl (AI hp th) (AI C th)) (ae (sG (n:=3) rfl (decide_eq_false c3) (AI (bH hp C) th)) ag))))))
      (aj (iN true false true true) (aj (o_bs (m:=3) (ss:=[nt 2]) (N:=1) (sz:=1) (z:=[.sl0]) (qs:=[.dig (nl (AM x.p x.q)) (AM x.p x.q)]) (ix:=[0]) (ls:=[.ref 2]) Dt Ab Ab th th th rfl Ab ⟨nN rfl,trivial⟩ rfl) (ah))) C4 Ab ⟨(inF ha (lb c2) rfl rfl),trivial⟩).mono ?_
     rintro e w' ⟨v,rfl,h1,h2⟩;have h1:=h1;have h1:v=_:=h1;subst h1;exact⟨Ay,h2⟩
   ·by_cases c3:(AM x.p x.q)=1
    ·refine(cRn (ρ:=[.dig (nl x.p) x.p,.dig (nl x.q) x.q,.dig (nl (AM x.p x.q)) (AM x.p x.q),.row 31 1 [.dig (nl (AM x.p x.q)) (AM x.p x.q)]]) (args:=[.agg [.b false,.ref 0,.ref 1]]) (vs:=[va]) (r:=.v (.one (.b true)))
      (ae (bU (i:=0) rfl rfl (AI hp th)) (ae (bU (i:=1) rfl rfl (AI C th)) (ae (bV (i:=1) rfl (decide_eq_false c0) (AI C th)) (ae (fO (bT (l:=.b false) (a:=0) (b:=1) (x:=x) (lb c2) (bl2 c2) rfl rfl) (lb c2) (decide_eq_false c1) (AI hp th)) (ae (iM (i:=0) (j:=1) (k:=2) rfl rfl rfl (AI hp th) (AI C th)) (ae (sG (n:=3) rfl (decide_eq_true c3) (AI (bH hp C) th)) ag))))))
      (aj (iN false false true true) (aj (o_bs (m:=3) (ss:=[nt 2]) (N:=1) (sz:=1) (z:=[.sl0]) (qs:=[.dig (nl (AM x.p x.q)) (AM x.p x.q)]) (ix:=[0]) (ls:=[.ref 2]) Dt Ab Ab th th th rfl Ab ⟨nN rfl,trivial⟩ rfl) (ah))) C4 Ab ⟨(inF ha (lb c2) rfl rfl),trivial⟩).mono ?_
     rintro e w' ⟨v,rfl,h1,h2⟩;have h1:=h1;have h1:v=_:=h1;subst h1;exact⟨Ay,h2⟩
    ·refine(cRn (ρ:=[.dig (nl x.p) x.p,.dig (nl x.q) x.q,.dig (nl (AM x.p x.q)) (AM x.p x.q),.row 31 1 [.dig (nl (AM x.p x.q)) (AM x.p x.q)]]) (args:=[.agg [.b false,.ref 0,.ref 1]]) (vs:=[va]) (r:=.v (.one (.b false)))
      (ae (bU (i:=0) rfl rfl (AI hp th)) (ae (bU (i:=1) rfl rfl (AI C th)) (ae (bV (i:=1) rfl (decide_eq_false c0) (AI C th)) (ae (fO (bT (l:=.b false) (a:=0) (b:=1) (x:=x) (lb c2) (bl2 c2) rfl rfl) (lb c2) (decide_eq_false c1) (AI hp th)) (ae (iM (i:=0) (j:=1) (k:=2) rfl rfl rfl (AI hp th) (AI C th)) (ae (sG (n:=3) rfl (decide_eq_false c3) (AI (bH hp C) th)) ag))))))
      (aj (iN false false true true) (aj (o_bs (m:=3) (ss:=[nt 2]) (N:=1) (sz:=1) (z:=[.sl0]) (qs:=[.dig (nl (AM x.p x.q)) (AM x.p x.q)]) (ix:=[0]) (ls:=[.ref 2]) Dt Ab Ab th th th rfl Ab ⟨nN rfl,trivial⟩ rfl) (ah))) C4 Ab ⟨(inF ha (lb c2) rfl rfl),trivial⟩).mono ?_
     rintro e w' ⟨v,rfl,h1,h2⟩;have h1:=h1;have h1:v=_:=h1;subst h1;exact⟨Ay,h2⟩
theorem q_rValidR(va:Value)(s:Bool)(L p N q:Nat)(w:World)(ha:qh w va s L p N q)(G:L<=1000000)(H:N<=1000000)(C:¬(nl p=L/\nl q=N)):
  AH AE 256 #[va] w λe w'=>bk w (.bool false) e w':=by
 by_cases c0:nl p=L
 ·by_cases c1:nl q=N
  ·exact absurd ⟨c0,c1⟩ C
  ·refine(cRn (ρ:=[.val (.bool s),.dig L p,.dig N q]) (args:=[q3 0 1 2]) (vs:=[va]) (r:=.v (.one (.b false)))
    (ae (jP (i:=1) (b:=true) rfl (decide_eq_true c0) (AI G th)) (ae (jP (i:=2) (b:=false) rfl (decide_eq_false c1) (AI H th)) ag))
    ah Du Ab ⟨(inFR ha (lrb (n:=0) rfl) rfl rfl),trivial⟩).mono ?_
   rintro e w' ⟨v,rfl,h1,h2⟩;have h1:=h1;have h1:v=_:=h1;subst h1;exact⟨rfl,h2⟩
 ·refine(cRn (ρ:=[.val (.bool s),.dig L p,.dig N q]) (args:=[q3 0 1 2]) (vs:=[va]) (r:=.v (.one (.b false)))
   (ae (jP (i:=1) (b:=false) rfl (decide_eq_false c0) (AI G th)) ag)
   ah Du Ab ⟨(inFR ha (lrb (n:=0) rfl) rfl rfl),trivial⟩).mono ?_
  rintro e w' ⟨v,rfl,h1,h2⟩;have h1:=h1;have h1:v=_:=h1;subst h1;exact⟨rfl,h2⟩
theorem wN(va:Value)(x:Fq)(w:World)(ha:IsQ w va x)(hp:nl x.p<=1000000)(C:nl x.q<=1000000):
  AH AE 256 #[va] w λe w'=>bk w (.bool x.valid) e w':=by
 by_cases c0:x.q=0
 ·refine(cRn (ρ:=[.val (.bool x.s),.dig (nl x.p) x.p,.dig (nl x.q) x.q]) (args:=[q3 0 1 2]) (vs:=[va]) (r:=.v (.one (.b false)))
   (ae (cV (i:=1) rfl rfl (AI hp th)) (ae (cV (i:=2) rfl rfl (AI C th)) (ae (cQ (i:=2) rfl (decide_eq_true c0) (AI C th)) ag)))
   ah Du Ab ⟨(inF ha (lrb (n:=0) rfl) rfl rfl),trivial⟩).mono ?_
  rintro e w' ⟨v,rfl,h1,h2⟩;have h1:=h1;have h1:v=_:=h1;subst h1;exact⟨by simp[Fq.valid,c0],h2⟩
 ·rcases BG (x.s)with c1 | c1
  ·by_cases c2:x.p=0
   ·refine(cRn (ρ:=[.dig (nl x.p) x.p,.dig (nl x.q) x.q]) (args:=[.agg [.b true,.ref 0,.ref 1]]) (vs:=[va]) (r:=.v (.one (.b false)))
     (ae (cV (i:=0) rfl rfl (AI hp th)) (ae (cV (i:=1) rfl rfl (AI C th)) (ae (cQ (i:=1) rfl (decide_eq_false c0) (AI C th)) (ae (cQ (i:=0) rfl (decide_eq_true c2) (AI hp th)) ag))))
     ah Du Ab ⟨(inF ha (lb c1) rfl rfl),trivial⟩).mono ?_
    rintro e w' ⟨v,rfl,h1,h2⟩;have h1:=h1;have h1:v=_:=h1;subst h1;exact⟨by simp[Fq.valid,c0,c1,c2],h2⟩
   ·by_cases c3:(AM x.p x.q)=1
    ·refine(cRn (ρ:=[.dig (nl x.p) x.p,.dig (nl x.q) x.q,.dig (nl (AM x.p x.q)) (AM x.p x.q),.dig (nl 1) 1]) (args:=[.agg [.b true,.ref 0,.ref 1]]) (vs:=[va]) (r:=.v (.one (.b true)))
      (ae (cV (i:=0) rfl rfl (AI hp th)) (ae (cV (i:=1) rfl rfl (AI C th)) (ae (cQ (i:=1) rfl (decide_eq_false c0) (AI C th)) (ae (cQ (i:=0) rfl (decide_eq_false c2) (AI hp th)) (ae (lF (i:=0) (j:=1) (k:=2) rfl rfl rfl (AI hp th) (AI C th)) (ae (wH (k:=3) rfl th) (ae (fk (i:=2) (j:=3) rfl rfl (decide_eq_true c3) (AI (bH hp C) th) (AI nO th)) ag)))))))
      ah Du Ab ⟨(inF ha (lb c1) rfl rfl),trivial⟩).mono ?_
     rintro e w' ⟨v,rfl,h1,h2⟩;have h1:=h1;have h1:v=_:=h1;subst h1;exact⟨Ay,h2⟩
    ·refine(cRn (ρ:=[.dig (nl x.p) x.p,.dig (nl x.q) x.q,.dig (nl (AM x.p x.q)) (AM x.p x.q),.dig (nl 1) 1]) (args:=[.agg [.b true,.ref 0,.ref 1]]) (vs:=[va]) (r:=.v (.one (.b false)))
      (ae (cV (i:=0) rfl rfl (AI hp th)) (ae (cV (i:=1) rfl rfl (AI C th)) (ae (cQ (i:=1) rfl (decide_eq_false c0) (AI C th)) (ae (cQ (i:=0) rfl (decide_eq_false c2) (AI hp th)) (ae (lF (i:=0) (j:=1) (k:=2) rfl rfl rfl (AI hp th) (AI C th)) (ae (wH (k:=3) rfl th) (ae (fk (i:=2) (j:=3) rfl rfl (decide_eq_false c3) (AI (bH hp C) th) (AI nO th)) ag)))))))
      ah Du Ab ⟨(inF ha (lb c1) rfl rfl),trivial⟩).mono ?_
     rintro e w' ⟨v,rfl,h1,h2⟩;have h1:=h1;have h1:v=_:=h1;subst h1;exact⟨Ay,h2⟩
  ·by_cases c2:(AM x.p x.q)=1
   ·refine(cRn (ρ:=[.dig (nl x.p) x.p,.dig (nl x.q) x.q,.dig (nl (AM x.p x.q)) (AM x.p x.q),.dig (nl 1) 1]) (args:=[.agg [.b false,.ref 0,.ref 1]]) (vs:=[va]) (r:=.v (.one (.b true)))
     (ae (cV (i:=0) rfl rfl (AI hp th)) (ae (cV (i:=1) rfl rfl (AI C th)) (ae (cQ (i:=1) rfl (decide_eq_false c0) (AI C th)) (ae (lF (i:=0) (j:=1) (k:=2) rfl rfl rfl (AI hp th) (AI C th)) (ae (wH (k:=3) rfl th) (ae (fk (i:=2) (j:=3) rfl rfl (decide_eq_true c2) (AI (bH hp C) th) (AI nO th)) ag))))))
     ah Du Ab ⟨(inF ha (lb c1) rfl rfl),trivial⟩).mono ?_
    rintro e w' ⟨v,rfl,h1,h2⟩;have h1:=h1;have h1:v=_:=h1;subst h1;exact⟨by simp[Fq.valid,c0,c1,c2],h2⟩
   ·refine(cRn (ρ:=[.dig (nl x.p) x.p,.dig (nl x.q) x.q,.dig (nl (AM x.p x.q)) (AM x.p x.q),.dig (nl 1) 1]) (args:=[.agg [.b false,.ref 0,.ref 1]]) (vs:=[va]) (r:=.v (.one (.b false)))
     (ae (cV (i:=0) rfl rfl (AI hp th)) (ae (cV (i:=1) rfl rfl (AI C th)) (ae (cQ (i:=1) rfl (decide_eq_false c0) (AI C th)) (ae (lF (i:=0) (j:=1) (k:=2) rfl rfl rfl (AI hp th) (AI C th)) (ae (wH (k:=3) rfl th) (ae (fk (i:=2) (j:=3) rfl rfl (decide_eq_false c2) (AI (bH hp C) th) (AI nO th)) ag))))))
     ah Du Ab ⟨(inF ha (lb c1) rfl rfl),trivial⟩).mono ?_
    rintro e w' ⟨v,rfl,h1,h2⟩;have h1:=h1;have h1:v=_:=h1;subst h1;exact⟨by simp[Fq.valid,c0,c1,c2],h2⟩
theorem q_SameB(va vb:Value)(x y:Fq)(w:World)(ha:IsQ w va x)(hb:IsQ w vb y)(hp:nl x.p<=1000000000000)(C:nl x.q<=1000000000000)(kp:nl y.p<=1000000000000)(kq:nl y.q<=1000000000000):
  AH AE 121 #[va,vb] w λe w'=>bk w (.bool (x.same y)) e w':=by
 by_cases c0:x.s=y.s
 ·by_cases c1:x.p=y.p
  ·by_cases c2:x.q=y.q
   ·refine(cRn (ρ:=[.val (.bool x.s),.dig (nl x.p) x.p,.dig (nl x.q) x.q,.val (.bool y.s),.dig (nl y.p) y.p,.dig (nl y.q) y.q]) (args:=[q3 0 1 2,q3 3 4 5]) (vs:=[va,vb]) (r:=.v (.one (.b true)))
     (ae (fk (i:=1) (j:=4) rfl rfl (decide_eq_true c1) hp kp) (ae (fk (i:=2) (j:=5) rfl rfl (decide_eq_true c2) C kq) ag))
     (aj (kM (t:=4) Ab (br (n:=0) rfl) (br (n:=3) rfl) (lb (wD c0))) (ah)) Tryz.func121 Ab ⟨(inF ha (lrb (n:=0) rfl) rfl rfl),⟨(inF hb (lrb (n:=3) rfl) rfl rfl),trivial⟩⟩).mono ?_
    rintro e w' ⟨v,rfl,h1,h2⟩;have h1:=h1;have h1:v=_:=h1;subst h1;exact⟨by simp[Fq.same,c0,c1,c2],h2⟩
   ·refine(cRn (ρ:=[.val (.bool x.s),.dig (nl x.p) x.p,.dig (nl x.q) x.q,.val (.bool y.s),.dig (nl y.p) y.p,.dig (nl y.q) y.q]) (args:=[q3 0 1 2,q3 3 4 5]) (vs:=[va,vb]) (r:=.v (.one (.b false)))
     (ae (fk (i:=1) (j:=4) rfl rfl (decide_eq_true c1) hp kp) (ae (fk (i:=2) (j:=5) rfl rfl (decide_eq_false c2) C kq) ag))
     (aj (kM (t:=4) Ab (br (n:=0) rfl) (br (n:=3) rfl) (lb (wD c0))) (ah)) Tryz.func121 Ab ⟨(inF ha (lrb (n:=0) rfl) rfl rfl),⟨(inF hb (lrb (n:=3) rfl) rfl rfl),trivial⟩⟩).mono ?_
    rintro e w' ⟨v,rfl,h1,h2⟩;have h1:=h1;have h1:v=_:=h1;subst h1;exact⟨by simp[Fq.same,c0,c1,c2],h2⟩
  ·refine(cRn (ρ:=[.val (.bool x.s),.dig (nl x.p) x.p,.dig (nl x.q) x.q,.val (.bool y.s),.dig (nl y.p) y.p,.dig (nl y.q) y.q]) (args:=[q3 0 1 2,q3 3 4 5]) (vs:=[va,vb]) (r:=.v (.one (.b false)))
    (ae (fk (i:=1) (j:=4) rfl rfl (decide_eq_false c1) hp kp) ag)
    (aj (kM (t:=4) Ab (br (n:=0) rfl) (br (n:=3) rfl) (lb (wD c0))) (ah)) Tryz.func121 Ab ⟨(inF ha (lrb (n:=0) rfl) rfl rfl),⟨(inF hb (lrb (n:=3) rfl) rfl rfl),trivial⟩⟩).mono ?_
   rintro e w' ⟨v,rfl,h1,h2⟩;have h1:=h1;have h1:v=_:=h1;subst h1;exact⟨by simp[Fq.same,c0,c1],h2⟩
 ·refine(cRn (ρ:=[.val (.bool x.s),.dig (nl x.p) x.p,.dig (nl x.q) x.q,.val (.bool y.s),.dig (nl y.p) y.p,.dig (nl y.q) y.q]) (args:=[q3 0 1 2,q3 3 4 5]) (vs:=[va,vb]) (r:=.v (.one (.b false)))
   (ag)
   (aj (kM (t:=4) Ab (br (n:=0) rfl) (br (n:=3) rfl) (lb (wE c0))) (ah)) Tryz.func121 Ab ⟨(inF ha (lrb (n:=0) rfl) rfl rfl),⟨(inF hb (lrb (n:=3) rfl) rfl rfl),trivial⟩⟩).mono ?_
  rintro e w' ⟨v,rfl,h1,h2⟩;have h1:=h1;have h1:v=_:=h1;subst h1;exact⟨by simp[Fq.same,c0],h2⟩
section
open Go Go.Proofs
def Fq.sg(s:Bool)(m:Nat):Int:=if s then -(m:Int)else m
def Fq.v(x:Fq):Rat:=mkRat (Fq.sg x.s x.p) x.q
theorem low_v{s:Bool}{n:Nat}(h:n≠0):(Fq.low s m n).v=mkRat (Fq.sg s m) n:=by
 unfold Fq.v Fq.low;simp only;have H:0<AM m n:=Fp _ (Do h);have h1:AM m n*eM m n=m:=Fw (Nat.gcd_dvd_left _ _);have h2:AM m n*fi m n=n:=Fw (Nat.gcd_dvd_right _ _);have h3:fi m n≠0:=by intro h3;rw[h3,CR]at h2;exact h h2.symm
 rw[Rat.mkRat_eq_iff h3 h];have hs:Fq.sg (dw s m) (eM m n)=Fq.sg s (eM m n):=by
  unfold dw Fq.sg;by_cases hm:m=0
  ·subst hm;simp[eM]
  ·simp[hm]
 rw[hs];generalize C:eM m n=P at *;generalize G:fi m n=R at *;generalize AM m n=g at *;subst h1;subst h2;unfold Fq.sg;cases s<;>simp only[Bool.false_eq_true,if_true,if_false]<;>grind
theorem jR{s:Bool}{n:Nat}(h:n≠0):(Fq.low s m n).valid=true:=by
 unfold Fq.valid;have C:0<AM m n:=Fp _ (Do h);have h1:AM m n*eM m n=m:=Fw (Nat.gcd_dvd_left _ _);have h2:AM m n*fi m n=n:=Fw (Nat.gcd_dvd_right _ _);refine decide_eq_true ⟨?_,?_,?_⟩
 ·show fi m n≠0;intro h3;rw[h3,CR]at h2;exact h h2.symm
 ·show¬(dw s m=true/\eM m n=0);rintro⟨h3,h4⟩;rw[h4,CR]at h1;rw[<-h1]at h3;simp[dw]at h3
 ·exact Nat.coprime_div_gcd_div_gcd C
theorem Fq.valid.n(h:x.valid=true):x.q≠0:=(of_decide_eq_true h).1
theorem Fq.valid.s(h:x.valid=true):¬(x.s=true/\x.p=0):=(of_decide_eq_true h).2.1
theorem Fq.valid.g(h:x.valid=true):AM x.p x.q=1:=(of_decide_eq_true h).2.2
theorem t8(s:Bool)(m:Nat):(Fq.sg s m).natAbs=m:=by unfold Fq.sg;cases s<;>simp
theorem sg_neg{s:Bool}(h:¬(s=true/\m=0)):decide (Fq.sg s m<0)=s:=by
 unfold Fq.sg;cases s
 ·simp
 ·simp at h⊢;omega
theorem v_num(h:x.valid=true):x.v.num=Fq.sg x.s x.p/\x.v.den=x.q:=by
 have hn:=Fq.valid.n h;have hc:(Fq.sg x.s x.p).natAbs.Coprime x.q:=by rw[t8];exact Fq.valid.g h
 have e:x.v=Rat.mk' (Fq.sg x.s x.p) x.q hn hc:=(Rat.mk_eq_mkRat _ _ hn hc).symm;rw[e];exact Aj
theorem oI(I:x.valid=true)(hy:y.valid=true)(h:x.v=y.v):x=y:=by
 obtain⟨C,G⟩:=v_num I;obtain⟨J,K⟩:=v_num hy;rw[h]at C G;have H:Fq.sg x.s x.p=Fq.sg y.s y.p:=C.symm.trans J;have U:x.p=y.p:=by rw[<-t8 x.s x.p,H,t8]
 have V:x.s=y.s:=by rw[<-sg_neg (Fq.valid.s I),H,sg_neg (Fq.valid.s hy)]
 have eq:x.q=y.q:=G.symm.trans K;cases x;cases y;simp only at *;subst U;subst V;subst eq;rfl
theorem sg_add(s s':Bool)(X Y:Nat):Fq.sg (cP s s' X Y) (cL s s' X Y)=Fq.sg s X+Fq.sg s' Y:=by
 unfold Fq.sg cP cL;by_cases h:s=s'
 ·subst h;simp only[if_true];cases s<;>simp<;>omega
 ·simp only[h,if_false];by_cases hl:Y<=X
  ·simp only[hl,if_true];cases s<;>cases s'<;>simp at h⊢ <;>omega
  ·simp only[hl,if_false];cases s<;>cases s'<;>simp at h⊢ <;>omega
theorem sg_mul(s s':Bool)(X Y:Nat):Fq.sg (s !=s') (X*Y)=Fq.sg s X*Fq.sg s' Y:=by
 unfold Fq.sg;cases s<;>cases s'<;>simp<;>grind
theorem aaM(s:Bool)(X Y:Nat):Fq.sg s (X*Y)=Fq.sg s X*(Y:Int):=by
 unfold Fq.sg;cases s<;>simp<;>grind
theorem v_add(C:x.q≠0)(hy:y.q≠0):(x.add y).v=x.v+y.v:=by
 unfold Fq.add;rw[low_v (Cj C hy),sg_add,aaM,aaM];unfold Fq.v;rw[Rat.mkRat_add_mkRat _ _ C hy]
theorem v_mul(C:x.q≠0)(hy:y.q≠0):(x.mul y).v=x.v*y.v:=by
 unfold Fq.mul;rw[low_v (Cj C hy),sg_mul];unfold Fq.v;rw[Rat.mkRat_mul_mkRat]
theorem wO:x.neg.v= -x.v:=by
 unfold Fq.neg Fq.v;simp only;rw[Rat.neg_mkRat]
 congr 1
 unfold Fq.sg dw;by_cases h:x.p=0
 ·rw[h];simp
 ·simp only[h,decide_false,Bool.not_false,Bool.and_true];cases x.s<;>simp
theorem ei(h:x.valid=true):x.neg.valid=true:=by
 have h1:=Fq.valid.n h;have h2:=Fq.valid.g h;refine decide_eq_true ⟨h1,?_,h2⟩;show¬(dw (!x.s) x.p=true/\x.p=0);rintro⟨h1,h2⟩;rw[h2]at h1;simp[dw]at h1
theorem v_sub(C:x.q≠0)(hy:y.q≠0):(x.sub y).v=x.v - y.v:=by
 unfold Fq.sub;rw[v_add C (show y.neg.q≠0 from hy),wO,Rat.sub_eq_add_neg]
theorem v_eq0(C:x.q≠0):x.v=0↔x.p=0:=by
 unfold Fq.v;rw[Rat.mkRat_eq_zero C];have:=t8 x.s x.p;constructor<;>intro h
 ·rw[h]at this;exact this.symm
 ·unfold Fq.sg;rw[h];simp
theorem v_div(G:x.q≠0)(hy:y.q≠0)(h0:y.p≠0):(x.div y).v=x.v / y.v:=by
 have C:y.v≠0:=λh=>h0 ((v_eq0 hy).1 h)
 have H:(x.div y).v*y.v=x.v:=by
  unfold Fq.div;rw[low_v (Cj G h0)];unfold Fq.v;rw[Rat.mkRat_mul_mkRat,Rat.mkRat_eq_iff (Cj (Cj G h0) hy) G];unfold Fq.sg;cases x.s<;>cases y.s<;>simp<;>grind
 rw[<-H,Rat.div_def,Rat.mul_assoc,Rat.mul_inv_cancel _ C,Rat.mul_one]
theorem pd(n:Int):(Fq.ofInt n).v=(n:Rat):=by
 unfold Fq.ofInt Fq.v;simp only;rw[Rat.mkRat_one]
 congr 1
 unfold Fq.sg;by_cases h:n<0
 ·simp[h];omega
 ·simp[h];omega
theorem aJ(n:Int):(Fq.ofInt n).valid=true:=by
 refine decide_eq_true ⟨Nat.one_ne_zero,?_,Nat.gcd_one_right _⟩;show¬(decide (n<0)=true/\n.natAbs=0);rintro⟨h1,h2⟩;have:=of_decide_eq_true h1;omega
theorem sgn_cases(C:x.valid=true):(x.v<0/\x.sgn= -1)\/(x.v=0/\x.sgn=0)\/(0<x.v/\x.sgn=1):=by
 have hn:=(v_num C).1;have h0:=v_eq0 (Fq.valid.n C);have hs:=Fq.valid.s C;by_cases hp:x.p=0
 ·exact Or.inr (A1 ⟨h0.2 hp,by unfold Fq.sgn;rw[if_pos hp]⟩)
 ·have G:x.v≠0:=λh=>hp (h0.1 h)
  rcases BG x.s with h | h
  ·refine A1 ⟨?_,by unfold Fq.sgn;rw[if_neg hp,if_pos h]⟩;have h1:¬(0<=x.v):=by rw[<-Rat.num_nonneg,hn,h];unfold Fq.sg;simp;omega
   exact Rat.not_le.1 h1
  ·refine Or.inr (Or.inr ⟨?_,by unfold Fq.sgn;rw[if_neg hp,h];rfl⟩);have h1:0<=x.v:=by rw[<-Rat.num_nonneg,hn,h];unfold Fq.sg;simp
   grind
theorem dG(C:x.valid=true)(hy:y.valid=true):(x.add y).valid=true:=jR (Cj (Fq.valid.n C) (Fq.valid.n hy))
theorem aL(C:x.valid=true)(hy:y.valid=true):(x.mul y).valid=true:=jR (Cj (Fq.valid.n C) (Fq.valid.n hy))
theorem dm(C:x.valid=true)(hy:y.valid=true):(x.sub y).valid=true:=dG C (ei hy)
theorem gQ(C:x.valid=true)(h0:y.p≠0):(x.div y).valid=true:=jR (Cj (Fq.valid.n C) h0)
theorem v_a(C:x.valid=true)(hy:y.valid=true):(x.add y).v=x.v+y.v:=v_add (Fq.valid.n C) (Fq.valid.n hy)
theorem v_m(C:x.valid=true)(hy:y.valid=true):(x.mul y).v=x.v*y.v:=v_mul (Fq.valid.n C) (Fq.valid.n hy)
theorem v_s(C:x.valid=true)(hy:y.valid=true):(x.sub y).v=x.v - y.v:=v_sub (Fq.valid.n C) (Fq.valid.n hy)
theorem sH(C:x.valid=true)(hy:y.valid=true):(x.v<y.v/\x.cmp y= -1)\/(x.v=y.v/\x.cmp y=0)\/(y.v<x.v/\x.cmp y=1):=by
 unfold Fq.cmp;rcases sgn_cases (dm C hy)with⟨h1,h2⟩ | ⟨h1,h2⟩ | ⟨h1,h2⟩<;>rw[v_s C hy]at h1
 ·exact A1 ⟨Aw,h2⟩
 ·exact Or.inr (A1 ⟨Aw,h2⟩)
 ·exact Or.inr (Or.inr ⟨Aw,h2⟩)
section
variable {a b c t:Fq} (ha:a.valid=true) (hb:b.valid=true) (hc:c.valid=true) (ht:t.valid=true)
include ha hb
include hc
end
section
variable {a b t:Fq} (ha:a.valid=true) (hb:b.valid=true) (ht:t.valid=true)
include ha
include hb
theorem bv:a.cmp b=0↔a=b:=by
 constructor
 ·intro h;rcases sH ha hb with⟨C,G⟩ | ⟨C,G⟩ | ⟨C,G⟩<;>first | omega | exact oI ha hb C
 ·rintro rfl;rcases sH ha hb with⟨C,G⟩ | ⟨C,G⟩ | ⟨C,G⟩<;>first | exact G | grind
include ht
end
end
structure Vq where
 x:Fq
 y:Fq
 z:Fq
def Vq.add(a b:Vq):Vq:=⟨a.x.add b.x,a.y.add b.y,a.z.add b.z⟩
def Vq.sub(a b:Vq):Vq:=⟨a.x.sub b.x,a.y.sub b.y,a.z.sub b.z⟩
def Vq.scale(a:Vq)(k:Fq):Vq:=⟨a.x.mul k,a.y.mul k,a.z.mul k⟩
def Vq.dot(a b:Vq):Fq:=(a.x.mul b.x).add ((a.y.mul b.y).add (a.z.mul b.z))
def Vq.cross(a b:Vq):Vq:=⟨(a.y.mul b.z).sub (a.z.mul b.y),(a.z.mul b.x).sub (a.x.mul b.z),(a.x.mul b.y).sub (a.y.mul b.x)⟩
def Vq.lerp(a b:Vq)(t:Fq):Vq:=a.add ((b.sub a).scale t)
def Vq.of(x y z:Int):Vq:=⟨.ofInt x,.ofInt y,.ofInt z⟩
structure Vq.good(a:Vq):Prop where
 x:a.x.valid=true
 y:a.y.valid=true
 z:a.z.valid=true
section
variable {a b c:Vq} {k t:Fq}
theorem Vq.good.add(ha:a.good)(hb:b.good):(a.add b).good:=⟨dG ha.x hb.x,dG ha.y hb.y,dG ha.z hb.z⟩
theorem Vq.good.sub(ha:a.good)(hb:b.good):(a.sub b).good:=⟨dm ha.x hb.x,dm ha.y hb.y,dm ha.z hb.z⟩
theorem Vq.good.scale(ha:a.good)(C:k.valid=true):(a.scale k).good:=⟨aL ha.x C,aL ha.y C,aL ha.z C⟩
theorem Vq.good.cross(ha:a.good)(hb:b.good):(a.cross b).good:=⟨dm (aL ha.y hb.z) (aL ha.z hb.y),dm (aL ha.z hb.x) (aL ha.x hb.z),dm (aL ha.x hb.y) (aL ha.y hb.x)⟩
theorem Vq.good.lerp(ha:a.good)(hb:b.good)(ht:t.valid=true):(a.lerp b t).good:=ha.add ((hb.sub ha).scale ht)
theorem Vq.good.of(x y z:Int):(Vq.of x y z).good:=⟨aJ x,aJ y,aJ z⟩
theorem fC(ha:a.good)(hb:b.good):(a.dot b).valid=true:=dG (aL ha.x hb.x) (dG (aL ha.y hb.y) (aL ha.z hb.z))
theorem dot_v(ha:a.good)(hb:b.good):(a.dot b).v=a.x.v*b.x.v+(a.y.v*b.y.v+a.z.v*b.z.v):=by
 unfold Vq.dot;rw[v_a (aL ha.x hb.x) (dG (aL ha.y hb.y) (aL ha.z hb.z)),v_a (aL ha.y hb.y) (aL ha.z hb.z),v_m ha.x hb.x,v_m ha.y hb.y,v_m ha.z hb.z]
theorem add_v(ha:a.good)(hb:b.good):(a.add b).x.v=a.x.v+b.x.v/\(a.add b).y.v=a.y.v+b.y.v/\(a.add b).z.v=a.z.v+b.z.v:=⟨v_a ha.x hb.x,v_a ha.y hb.y,v_a ha.z hb.z⟩
theorem ua(ha:a.good)(C:k.valid=true):(a.scale k).x.v=a.x.v*k.v/\(a.scale k).y.v=a.y.v*k.v/\(a.scale k).z.v=a.z.v*k.v:=⟨v_m ha.x C,v_m ha.y C,v_m ha.z C⟩
theorem cross_v(ha:a.good)(hb:b.good):(a.cross b).x.v=a.y.v*b.z.v - a.z.v*b.y.v/\(a.cross b).y.v=a.z.v*b.x.v - a.x.v*b.z.v/\(a.cross b).z.v=a.x.v*b.y.v - a.y.v*b.x.v:=by
 unfold Vq.cross;refine⟨?_,?_,?_⟩
 ·rw[v_s (aL ha.y hb.z) (aL ha.z hb.y),v_m ha.y hb.z,v_m ha.z hb.y]
 ·rw[v_s (aL ha.z hb.x) (aL ha.x hb.z),v_m ha.z hb.x,v_m ha.x hb.z]
 ·rw[v_s (aL ha.x hb.y) (aL ha.y hb.x),v_m ha.x hb.y,v_m ha.y hb.x]
theorem Vq.inj(ha:a.good)(hb:b.good)(I:a.x.v=b.x.v)(hy:a.y.v=b.y.v)(hz:a.z.v=b.z.v):a=b:=by
 have C:=oI ha.x hb.x I;have G:=oI ha.y hb.y hy;have H:=oI ha.z hb.z hz;cases a;cases b;simp only at C G H;subst C;subst G;subst H;rfl
end
@[ext] structure QR where
 w:Rat
 x:Rat
 y:Rat
 z:Rat
@[ext] structure VR where
 x:Rat
 y:Rat
 z:Rat
def QR.nrm(a:QR):Rat:=a.w*a.w+(a.x*a.x+(a.y*a.y+a.z*a.z))
def QR.mul(p q:QR):QR:=⟨p.w*q.w - (p.x*q.x+(p.y*q.y+p.z*q.z)),q.x*p.w+p.x*q.w+(p.y*q.z - p.z*q.y),q.y*p.w+p.y*q.w+(p.z*q.x - p.x*q.z),q.z*p.w+p.z*q.w+(p.x*q.y - p.y*q.x)⟩
def QR.conj(a:QR):QR:=⟨a.w, -a.x, -a.y, -a.z⟩
def QR.smul(k:Rat)(a:QR):QR:=⟨k*a.w,k*a.x,k*a.y,k*a.z⟩
def QR.one:QR:=⟨1,0,0,0⟩
def Sim(a b:QR):Prop:=∃k:Rat,k≠0/\b=QR.smul k a
def QR.rot(q:QR)(v:VR):VR:=
 ⟨(q.w*q.w - (q.x*q.x+(q.y*q.y+q.z*q.z)))*v.x+(2*(q.x*v.x+(q.y*v.y+q.z*v.z)))*q.x+(2*q.w)*(q.y*v.z - q.z*v.y),
  (q.w*q.w - (q.x*q.x+(q.y*q.y+q.z*q.z)))*v.y+(2*(q.x*v.x+(q.y*v.y+q.z*v.z)))*q.y+(2*q.w)*(q.z*v.x - q.x*v.z),
  (q.w*q.w - (q.x*q.x+(q.y*q.y+q.z*q.z)))*v.z+(2*(q.x*v.x+(q.y*v.y+q.z*v.z)))*q.z+(2*q.w)*(q.x*v.y - q.y*v.x)⟩
def VR.smul(k:Rat)(v:VR):VR:=⟨k*v.x,k*v.y,k*v.z⟩
def VR.dot(a b:VR):Rat:=a.x*b.x+(a.y*b.y+a.z*b.z)
def QR.app(q:QR)(v:VR):VR:=(q.rot v).smul (q.nrm)⁻¹
theorem iO(r:Rat):0<=r*r:=by
 rcases Rat.le_total (a:=0) (b:=r)with h | h
 ·exact Rat.mul_nonneg h h
 ·have:=Rat.mul_nonneg (show 0<= -r by grind) (show 0<= -r by grind);grind
variable{a:QR}
theorem nrm_zero:a.nrm=0↔a.w=0/\a.x=0/\a.y=0/\a.z=0:=by
 unfold QR.nrm;have h1:=iO a.w;have h2:=iO a.x;have h3:=iO a.y;have h4:=iO a.z;constructor
 ·intro h;have C:a.w*a.w=0:=Aw
  have G:a.x*a.x=0:=Aw
  have H:a.y*a.y=0:=Aw
  have I:a.z*a.z=0:=Aw
  exact⟨Aw,Aw,Aw,Aw⟩
 ·rintro⟨C,G,H,I⟩;rw[C,G,H,I];grind
theorem nrm_mul(p q:QR):(p.mul q).nrm=p.nrm*q.nrm:=by
 unfold QR.nrm QR.mul;grind
theorem nrm_conj(p:QR):p.conj.nrm=p.nrm:=by unfold QR.nrm QR.conj;grind
theorem nrm_smul(k:Rat)(p:QR):(QR.smul k p).nrm=k*k*p.nrm:=by unfold QR.nrm QR.smul;grind
theorem nS{a b:Rat}(ha:a≠0)(hb:b≠0):a*b≠0:=λh=>by rcases Rat.mul_eq_zero.1 h with h | h;exact ha h;exact hb h
theorem Sim.refl(a:QR):Sim a a:=⟨1,th,by unfold QR.smul;ext<;>simp only<;>grind⟩
variable{b:QR}
theorem Sim.symm(h:Sim a b):Sim b a:=by
 obtain⟨k,C,rfl⟩:=h;refine⟨k⁻¹,λh=>by have h1:=Fx k C;rw[h]at h1;grind,?_⟩;have:=Fx k C;unfold QR.smul;ext<;>simp only<;>grind
theorem Sim.trans{c:QR}(h:Sim a b)(h2:Sim b c):Sim a c:=by
 obtain⟨k,C,rfl⟩:=h;obtain⟨l,hl,rfl⟩:=h2;exact⟨l*k,nS hl C,by unfold QR.smul;ext<;>simp only<;>grind⟩
theorem Sim.mul{a' C:QR}(h:Sim a a')(h2:Sim b C):Sim (a.mul b) (a'.mul C):=by
 obtain⟨k,G,rfl⟩:=h;obtain⟨l,hl,rfl⟩:=h2;exact⟨k*l,nS G hl,by unfold QR.smul QR.mul;ext<;>simp only<;>grind⟩
theorem Sim.conj(h:Sim a b):Sim a.conj b.conj:=by
 obtain⟨k,C,rfl⟩:=h;exact⟨k,C,by unfold QR.smul QR.conj;ext<;>simp only<;>grind⟩
theorem Sim.nrm(h:Sim a b)(ha:a.nrm≠0):b.nrm≠0:=by
 obtain⟨k,C,rfl⟩:=h;rw[nrm_smul];exact nS (nS C C) ha
end Go.Proofs.YtggfmklppkioeaaGreat
