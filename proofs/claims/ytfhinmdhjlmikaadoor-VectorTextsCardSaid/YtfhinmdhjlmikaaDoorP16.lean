/- Instances for the law of the texts of vectors. The law of the texts of vectors. What an argument of type api.Nat is: a row of digits. What an argument of type api.Quat is: four fractions, leading zeros allowed; its rows are no longer than memory. What arguments of the types api.Vec and api.Frac are: rows of fractions, leading zeros allowed. -/
import Derived.Test.YtfhinmdhjlmikaaDoorP15
import Derived.WalkKit
import Derived.ProofKit
import Derived.OpenShut
import Derived.ShutString
import Derived.ChangeOld
import Derived.Below
import Derived.SizedLaws
import Derived.Deep.Strs
namespace Go.Proofs.YtfhinmdhjlmikaaDoor
set_option linter.unusedSimpArgs false
set_option linter.unusedVariables false
set_option maxRecDepth 100000
open Go.RowKit
abbrev AtV (ρ:Rho) (ns:List Nat) (v:Vq):Prop:=AtR ρ ns [v.x.raw,v.y.raw,v.z.raw]
section
variable {xs:List Fq} {ys ρ:Rho} {n m k:Nat} {u c:Int} {ns k0 k1:List Nat} {v:Vq} {s t:ByteArray} {l:Leaf}
theorem wY (hm:(frs xs++ys)[m]? =some (.val (.int .i64 u))) (hk:xs[k]? =some (.ofInt u)) (lu: -9223372036854775808≤u) (ru:u<9223372036854775808):OkI xs ys ⟨17,[.one (.ref m)],.v (fr k)⟩:=
 ⟨ai Tryd.func17 rfl rfl,fun B w vs hB h=>by
  match vs,h with
  | [va],h=>
   have e:=aj hm h.1
   subst e
   refine(uu u w lu ru).mono ?_
   rintro e w' ⟨v,rfl,h1,h2⟩
   exact⟨_,rfl,(cW hk).2 h1,h2⟩⟩
theorem wZ (hm:(frs xs++ys)[m]? =some (.val (.int .i64 u))) (hk:xs[k]? =some (.ofInt u)) (lu: -9223372036854775808≤u) (ru:u<9223372036854775808):OkI xs ys ⟨18,[.one (.ref m)],.v (fr k)⟩:=
 ⟨ai Tryd.func18 rfl rfl,fun B w vs hB h=>by
  match vs,h with
  | [va],h=>
   have e:=aj hm h.1
   subst e
   refine(uv u w lu ru).mono ?_
   rintro e w' ⟨v,rfl,h1,h2⟩
   exact⟨_,rfl,(cW hk).2 h1,h2⟩⟩
theorem ku (n:Int) (w:World) (lv: -9223372036854775808≤n) (rv:n<9223372036854775808):Calls Tryd.prog 5 #[.int .i64 n,.int .i64 1,.int .i64 (-7)] w fun e w'=>lZ w (Vq.of n 1 (-7)) e w':=by
 refine(cRn (ρ:=frs [Fq.ofInt n,Fq.ofInt 1,Fq.ofInt (-7)]++([.val (.int .i64 n)]:List Vp)) (args:=[.one (.ref 9),.one (.i .i64 1),.one (.i .i64 (-7))]) (vs:=[.int .i64 n,.int .i64 1,.int .i64 (-7)]) (r:=.v (row [0,1,2]))
  (ae (wY (m:=9) (k:=0) rfl rfl lv rv) (ae (gK (k:=1) rfl (by decide) (by decide)) (ae (gK (k:=2) rfl (by decide) (by decide)) ag)))
  ah Tryd.func5 (by kernel_rfl) ⟨am (n:=9) rfl aV,⟨rfl,⟨rfl,trivial⟩⟩⟩).mono ?_
 rintro e w' ⟨v,rfl,h1,h2⟩
 exact⟨v,rfl,(aR (xs:=[Fq.ofInt n,Fq.ofInt 1,Fq.ofInt (-7)]) (ks:=[0,1,2]) (vs:=[Fq.ofInt n,Fq.ofInt 1,Fq.ofInt (-7)]) ⟨rfl,rfl,rfl,trivial⟩).1 h1,h2⟩
theorem kx (n:Int) (w:World) (lv: -9223372036854775808≤n) (rv:n<9223372036854775808):Calls Tryd.prog 6 #[.int .i64 n,.int .i64 1,.int .i64 (-7)] w fun e w'=>lZ w (Vq.of n 1 (-7)) e w':=by
 refine(cRn (ρ:=frs [Fq.ofInt n,Fq.ofInt 1,Fq.ofInt (-7)]++([.val (.int .i64 n)]:List Vp)) (args:=[.one (.ref 9),.one (.i .i64 1),.one (.i .i64 (-7))]) (vs:=[.int .i64 n,.int .i64 1,.int .i64 (-7)]) (r:=.v (row [0,1,2]))
  (ae (wZ (m:=9) (k:=0) rfl rfl lv rv) (ae (lY (k:=1) rfl (by decide) (by decide)) (ae (lY (k:=2) rfl (by decide) (by decide)) ag)))
  ah Tryd.func6 (by kernel_rfl) ⟨am (n:=9) rfl aV,⟨rfl,⟨rfl,trivial⟩⟩⟩).mono ?_
 rintro e w' ⟨v,rfl,h1,h2⟩
 exact⟨v,rfl,(aR (xs:=[Fq.ofInt n,Fq.ofInt 1,Fq.ofInt (-7)]) (ks:=[0,1,2]) (vs:=[Fq.ofInt n,Fq.ofInt 1,Fq.ofInt (-7)]) ⟨rfl,rfl,rfl,trivial⟩).1 h1,h2⟩
theorem d7 {f:FuncId} (hen:fv f) (hq:∀w,Calls Tryd.prog f #[.int .i64 u,.int .i64 1,.int .i64 (-7)] w fun e w'=>lZ w v e w') (hm:ρ[m]? =some (.val (.int .i64 u))) (ar:AtV ρ ns v):Inst.Ok Tryd.prog ρ ⟨f,[.one (.ref m),.one (.i .i64 1),.one (.i .i64 (-7))],.v (cY ns)⟩:=
 ⟨hen,fun B w vs hB h=>by
  match vs,h with
  | [v0,v1,v2],h=>
   have e0:=aj hm h.1
   have e1:v1= .int .i64 1:=h.2.1
   have e2:v2= .int .i64 (-7):=h.2.2.1
   subst e0;subst e1;subst e2
   refine(hq w).mono ?_
   rintro e w' ⟨v,rfl,h1,h2⟩
   exact⟨_,rfl,(aE ar).2 h1,h2⟩⟩
/-- The sizes of a vector's parts. -/
structure Vq.sz (v:Vq):Prop where
 xp:nl v.x.p≤1000000000000
 xq:nl v.x.q≤1000000000000
 yp:nl v.y.p≤1000000000000
 yq:nl v.y.q≤1000000000000
 zp:nl v.z.p≤1000000000000
 zq:nl v.z.q≤1000000000000
theorem Vq.ok.sz {v:Vq} (h:v.ok 1000000):v.sz:=⟨Nat.le_trans h.x.p (by decide),Nat.le_trans h.x.q (by decide),Nat.le_trans h.y.p (by decide),Nat.le_trans h.y.q (by decide),Nat.le_trans h.z.p (by decide),Nat.le_trans h.z.q (by decide)⟩
theorem rF:Vq.zero.sz:=⟨by decide,by decide,by decide,by decide,by decide,by decide⟩
theorem xa (va vb:Value) (a:Vq) (w:World) (ia:jS w va a) (ib:jS w vb a) (h:a.sz):Calls Tryd.prog 4 #[va,vb] w fun e w'=>bE w (.bool true) e w':=by
 refine(cRn (ρ:=frs [a.x,a.y,a.z]++ []) (args:=[row [0,1,2],row [0,1,2]]) (vs:=[va,vb]) (r:=.v (.one (.b true)))
  (ae (fY (i:=0) (j:=0) (l:=.b true) rfl rfl (lb (Fq.same_iff.2 rfl)) h.xp h.xq h.xp h.xq) (ae (fY (i:=1) (j:=1) (l:=.b true) rfl rfl (lb (Fq.same_iff.2 rfl)) h.yp h.yq h.yp h.yq) (ae (fY (i:=2) (j:=2) (l:=.b true) rfl rfl (lb (Fq.same_iff.2 rfl)) h.zp h.zq h.zp h.zq) ag)))
  ah Tryd.func4 (by kernel_rfl) ⟨(aR (xs:=[a.x,a.y,a.z]) (ks:=[0,1,2]) (vs:=[a.x,a.y,a.z]) ⟨rfl,rfl,rfl,trivial⟩).2 ia,⟨(aR (xs:=[a.x,a.y,a.z]) (ks:=[0,1,2]) (vs:=[a.x,a.y,a.z]) ⟨rfl,rfl,rfl,trivial⟩).2 ib,trivial⟩⟩).mono ?_
 rintro e w' ⟨v,rfl,h1,h2⟩
 exact⟨congrArg Ending.returned h1,h2⟩
theorem e8 (a0:AtV ρ k0 v) (a1:AtV ρ k1 v) (ok:v.sz):Inst.Ok Tryd.prog ρ ⟨4,[cY k0,cY k1],.v (.one (.b true))⟩:=
 ⟨ai Tryd.func4 rfl rfl,fun B w vs hB h=>by
  match vs,h with
  | [va,vb],h=>
   refine(xa va vb v w ((aE a0).1 h.1) ((aE a1).1 h.2.1) ok).mono ?_
   rintro e w' ⟨rfl,h2⟩
   exact⟨_,rfl,rfl,h2⟩⟩
theorem cZ {f:FuncId} (hen:fv f) (hq:∀w,Calls Tryd.prog f #[.string s] w fun e w'=>bU w v c e w') (hn:ρ[n]? =some (.val (.string s))) (ar:AtV ρ ns v) (hl:∀B w,l.holds ρ B w (.int .i64 c)):Inst.Ok Tryd.prog ρ ⟨f,[.one (.ref n)],.tup [cY ns,.one l]⟩:=
 ⟨hen,fun B w vs hB h=>by
  match vs,h with
  | [va],h=>
   have e0:=aj hn h.1
   subst e0
   refine(hq w).mono ?_
   rintro e w' ⟨v,rfl,h1,h2⟩
   exact⟨_,rfl,⟨[v,.int .i64 c],rfl,(aE ar).2 h1,hl _ _,trivial⟩,h2⟩⟩
theorem j4 {f:FuncId} (hen:fv f) (hq:∀va w,jS w va v→Calls Tryd.prog f #[va] w fun e w'=>bE w (.string v.fmt) e w') (ar:AtV ρ ns v) (hf:v.fmt=t) (hm:ρ[m]? =some (.val (.string t))):Inst.Ok Tryd.prog ρ ⟨f,[cY ns],.v (.one (.ref m))⟩:=
 ⟨hen,fun B w vs hB h=>by
  match vs,h with
  | [va],h=>
   refine(hq va w ((aE ar).1 h.1)).mono ?_
   rintro e w' ⟨rfl,h2⟩
   exact⟨_,rfl,by subst hf;exact am hm aC,h2⟩⟩
theorem rG (h0:ρ[n]? =some (.val (.string s))) (h1:ρ[m]? =some (.val (.string s))):(OIns.mk (.bin .neq 9) [.one (.ref n),.one (.ref m)] (.one (.b false))).Ok Tryd.prog ρ:=fun B w vs hv=>by
 match vs,hv with
 | [v1,v2],hv=>
  have e:=aj h0 hv.1
  have e2:=aj h1 hv.2.1
  subst e;subst e2
  exact⟨.bool false,rfl,fun xo yo=>by simp[eqGuard,binOp,Op.stringOp,Sem.run_bind,Result.andThen]⟩
theorem rH (h0:ρ[n]? =some (.val (.string s))) (h1:ρ[m]? =some (.val (.string s))):(OIns.mk (.bin .eql 9) [.one (.ref n),.one (.ref m)] (.one (.b true))).Ok Tryd.prog ρ:=fun B w vs hv=>by
 match vs,hv with
 | [v1,v2],hv=>
  have e:=aj h0 hv.1
  have e2:=aj h1 hv.2.1
  subst e;subst e2
  exact⟨.bool true,rfl,fun xo yo=>by simp[eqGuard,binOp,Op.stringOp,Sem.run_bind,Result.andThen]⟩
end
theorem xb {a b c:Rq} (h0:a.sh=true) (h1:b.sh=true) (h2:c.sh=true):iw a b c=fD a b c:=by simp[iw,Rq.sm,fD,h0,h1,h2]
theorem ky {n:Int} (lv: -9223372036854775808≤n) (rv:n<9223372036854775808):(Vq.of n 1 (-7)).ok 1000000:=(d5 lv rv (by decide) (by decide) (by decide) (by decide)).mono (by decide)
end Go.Proofs.YtfhinmdhjlmikaaDoor
namespace Go.Proofs.YtfhinmdhjlmikaaDoor
set_option linter.unusedSimpArgs false
set_option linter.unusedVariables false
set_option maxRecDepth 100000
open Go.RowKit
def j5 (va:Value) (r0 r1 r2:Rq) (s:ByteArray) (n:Int):List Fq:=[]
theorem mg {w:World} (va:Value) (r0 r1 r2:Rq) (s:ByteArray) (n:Int) (ia:IsL w va [r0,r1,r2]) (n0: -9223372036854775808≤n) (n1:n<9223372036854775808) (hb:900<s.size):
  Calls Tryd.prog 3 #[va,.string s,.int .i64 n] w fun e w'=>bE w (.bool true) e w':=by
 refine(ak (ρ:=frs (j5 va r0 r1 r2 s n)++([.val (.bool r0.s),.dig r0.L r0.p,.dig r0.N r0.q,.val (.bool r1.s),.dig r1.L r1.p,.dig r1.N r1.q,.val (.bool r2.s),.dig r2.L r2.p,.dig r2.N r2.q,.val (.string s),.val (.int .i64 n),.val (.bool (Vq.of n 1 (-7)).x.s),.dig (nl (Vq.of n 1 (-7)).x.p) (Vq.of n 1 (-7)).x.p,.dig (nl (Vq.of n 1 (-7)).x.q) (Vq.of n 1 (-7)).x.q,.val (.bool (Vq.of n 1 (-7)).y.s),.dig (nl (Vq.of n 1 (-7)).y.p) (Vq.of n 1 (-7)).y.p,.dig (nl (Vq.of n 1 (-7)).y.q) (Vq.of n 1 (-7)).y.q,.val (.bool (Vq.of n 1 (-7)).z.s),.dig (nl (Vq.of n 1 (-7)).z.p) (Vq.of n 1 (-7)).z.p,.dig (nl (Vq.of n 1 (-7)).z.q) (Vq.of n 1 (-7)).z.q,.val (.int .i64 ((s.size:Nat):Int))]:List Vp)) (w:=w) (fuel:=300) (args:=[.agg [.ref 0,.ref 1,.ref 2,.ref 3,.ref 4,.ref 5,.ref 6,.ref 7,.ref 8],.one (.ref 9),.one (.ref 10)]) (vs:=[va,.string s,.int .i64 n]) (r:=.v (.one (.b true))) (lo:=[]) (obs:=[])
  (ae (d7 (m:=10) (u:=n) (v:=Vq.of n 1 (-7)) (ns:=[11,14,17]) (ai Tryd.func5 rfl rfl) (fun w=>ku n w n0 n1) rfl ⟨⟨rfl,rfl,rfl⟩,⟨rfl,rfl,rfl⟩,⟨rfl,rfl,rfl⟩,trivial⟩) (ae (d7 (m:=10) (u:=n) (v:=Vq.of n 1 (-7)) (ns:=[11,14,17]) (ai Tryd.func6 rfl rfl) (fun w=>kx n w n0 n1) rfl ⟨⟨rfl,rfl,rfl⟩,⟨rfl,rfl,rfl⟩,⟨rfl,rfl,rfl⟩,trivial⟩) (ae (e8 (k0:=[11,14,17]) (k1:=[11,14,17]) (v:=(Vq.of n 1 (-7))) ⟨⟨rfl,rfl,rfl⟩,⟨rfl,rfl,rfl⟩,⟨rfl,rfl,rfl⟩,trivial⟩ ⟨⟨rfl,rfl,rfl⟩,⟨rfl,rfl,rfl⟩,⟨rfl,rfl,rfl⟩,trivial⟩ (ky n0 n1).sz) (ae (eY) ag))))
  (ac (aB (n:=9) (m:=20) (t:=9) (by kernel_rfl) rfl rfl) (ac (aL (t:=3) (aG (n:=20) rfl) (aW (c:=900)) (vv (by omega))) (ah))) (by kernel_rfl) Tryd.func3 (by kernel_rfl) aI ⟨(aE (ns:=[0,3,6]) (rs:=[r0,r1,r2]) ⟨⟨rfl,rfl,rfl⟩,⟨rfl,rfl,rfl⟩,⟨rfl,rfl,rfl⟩,trivial⟩).2 ia,⟨ls (n:=9) rfl noB w,⟨am (n:=10) rfl aV,trivial⟩⟩⟩).mono ?_
 rintro e w' ⟨v,rfl,h1,h2⟩
 exact⟨congrArg Ending.returned h1,h2⟩
def jj (va:Value) (r0 r1 r2:Rq) (s:ByteArray) (n:Int):List Fq:=[]
theorem kG {w:World} (va:Value) (r0 r1 r2:Rq) (s:ByteArray) (n:Int) (ia:IsL w va [r0,r1,r2]) (n0: -9223372036854775808≤n) (n1:n<9223372036854775808) (hb:s.size≤900) (k0:r0.sh=false):
  Calls Tryd.prog 3 #[va,.string s,.int .i64 n] w fun e w'=>bE w (.bool true) e w':=by
 refine(ak (ρ:=frs (jj va r0 r1 r2 s n)++([.val (.bool r0.s),.dig r0.L r0.p,.dig r0.N r0.q,.val (.bool r1.s),.dig r1.L r1.p,.dig r1.N r1.q,.val (.bool r2.s),.dig r2.L r2.p,.dig r2.N r2.q,.val (.string s),.val (.int .i64 n),.val (.bool (Vq.of n 1 (-7)).x.s),.dig (nl (Vq.of n 1 (-7)).x.p) (Vq.of n 1 (-7)).x.p,.dig (nl (Vq.of n 1 (-7)).x.q) (Vq.of n 1 (-7)).x.q,.val (.bool (Vq.of n 1 (-7)).y.s),.dig (nl (Vq.of n 1 (-7)).y.p) (Vq.of n 1 (-7)).y.p,.dig (nl (Vq.of n 1 (-7)).y.q) (Vq.of n 1 (-7)).y.q,.val (.bool (Vq.of n 1 (-7)).z.s),.dig (nl (Vq.of n 1 (-7)).z.p) (Vq.of n 1 (-7)).z.p,.dig (nl (Vq.of n 1 (-7)).z.q) (Vq.of n 1 (-7)).z.q,.val (.int .i64 ((s.size:Nat):Int))]:List Vp)) (w:=w) (fuel:=300) (args:=[.agg [.ref 0,.ref 1,.ref 2,.ref 3,.ref 4,.ref 5,.ref 6,.ref 7,.ref 8],.one (.ref 9),.one (.ref 10)]) (vs:=[va,.string s,.int .i64 n]) (r:=.v (.one (.b true))) (lo:=[]) (obs:=[])
  (ae (d7 (m:=10) (u:=n) (v:=Vq.of n 1 (-7)) (ns:=[11,14,17]) (ai Tryd.func5 rfl rfl) (fun w=>ku n w n0 n1) rfl ⟨⟨rfl,rfl,rfl⟩,⟨rfl,rfl,rfl⟩,⟨rfl,rfl,rfl⟩,trivial⟩) (ae (d7 (m:=10) (u:=n) (v:=Vq.of n 1 (-7)) (ns:=[11,14,17]) (ai Tryd.func6 rfl rfl) (fun w=>kx n w n0 n1) rfl ⟨⟨rfl,rfl,rfl⟩,⟨rfl,rfl,rfl⟩,⟨rfl,rfl,rfl⟩,trivial⟩) (ae (e8 (k0:=[11,14,17]) (k1:=[11,14,17]) (v:=(Vq.of n 1 (-7))) ⟨⟨rfl,rfl,rfl⟩,⟨rfl,rfl,rfl⟩,⟨rfl,rfl,rfl⟩,trivial⟩ ⟨⟨rfl,rfl,rfl⟩,⟨rfl,rfl,rfl⟩,⟨rfl,rfl,rfl⟩,trivial⟩ (ky n0 n1).sz) (ae (bf (nx:=[0]) (x0:=r0) (d:=false) ⟨⟨rfl,rfl,rfl⟩,trivial⟩ k0) (ae (eY) ag)))))
  (ac (aB (n:=9) (m:=20) (t:=9) (by kernel_rfl) rfl rfl) (ac (aL (t:=3) (aG (n:=20) rfl) (aW (c:=900)) (eB (by omega))) (ah))) (by kernel_rfl) Tryd.func3 (by kernel_rfl) aI ⟨(aE (ns:=[0,3,6]) (rs:=[r0,r1,r2]) ⟨⟨rfl,rfl,rfl⟩,⟨rfl,rfl,rfl⟩,⟨rfl,rfl,rfl⟩,trivial⟩).2 ia,⟨ls (n:=9) rfl noB w,⟨am (n:=10) rfl aV,trivial⟩⟩⟩).mono ?_
 rintro e w' ⟨v,rfl,h1,h2⟩
 exact⟨congrArg Ending.returned h1,h2⟩
def jk (va:Value) (r0 r1 r2:Rq) (s:ByteArray) (n:Int):List Fq:=[]
theorem kH {w:World} (va:Value) (r0 r1 r2:Rq) (s:ByteArray) (n:Int) (ia:IsL w va [r0,r1,r2]) (n0: -9223372036854775808≤n) (n1:n<9223372036854775808) (hb:s.size≤900) (k0:r0.sh=true) (k1:r1.sh=false):
  Calls Tryd.prog 3 #[va,.string s,.int .i64 n] w fun e w'=>bE w (.bool true) e w':=by
 refine(ak (ρ:=frs (jk va r0 r1 r2 s n)++([.val (.bool r0.s),.dig r0.L r0.p,.dig r0.N r0.q,.val (.bool r1.s),.dig r1.L r1.p,.dig r1.N r1.q,.val (.bool r2.s),.dig r2.L r2.p,.dig r2.N r2.q,.val (.string s),.val (.int .i64 n),.val (.bool (Vq.of n 1 (-7)).x.s),.dig (nl (Vq.of n 1 (-7)).x.p) (Vq.of n 1 (-7)).x.p,.dig (nl (Vq.of n 1 (-7)).x.q) (Vq.of n 1 (-7)).x.q,.val (.bool (Vq.of n 1 (-7)).y.s),.dig (nl (Vq.of n 1 (-7)).y.p) (Vq.of n 1 (-7)).y.p,.dig (nl (Vq.of n 1 (-7)).y.q) (Vq.of n 1 (-7)).y.q,.val (.bool (Vq.of n 1 (-7)).z.s),.dig (nl (Vq.of n 1 (-7)).z.p) (Vq.of n 1 (-7)).z.p,.dig (nl (Vq.of n 1 (-7)).z.q) (Vq.of n 1 (-7)).z.q,.val (.int .i64 ((s.size:Nat):Int))]:List Vp)) (w:=w) (fuel:=300) (args:=[.agg [.ref 0,.ref 1,.ref 2,.ref 3,.ref 4,.ref 5,.ref 6,.ref 7,.ref 8],.one (.ref 9),.one (.ref 10)]) (vs:=[va,.string s,.int .i64 n]) (r:=.v (.one (.b true))) (lo:=[]) (obs:=[])
  (ae (d7 (m:=10) (u:=n) (v:=Vq.of n 1 (-7)) (ns:=[11,14,17]) (ai Tryd.func5 rfl rfl) (fun w=>ku n w n0 n1) rfl ⟨⟨rfl,rfl,rfl⟩,⟨rfl,rfl,rfl⟩,⟨rfl,rfl,rfl⟩,trivial⟩) (ae (d7 (m:=10) (u:=n) (v:=Vq.of n 1 (-7)) (ns:=[11,14,17]) (ai Tryd.func6 rfl rfl) (fun w=>kx n w n0 n1) rfl ⟨⟨rfl,rfl,rfl⟩,⟨rfl,rfl,rfl⟩,⟨rfl,rfl,rfl⟩,trivial⟩) (ae (e8 (k0:=[11,14,17]) (k1:=[11,14,17]) (v:=(Vq.of n 1 (-7))) ⟨⟨rfl,rfl,rfl⟩,⟨rfl,rfl,rfl⟩,⟨rfl,rfl,rfl⟩,trivial⟩ ⟨⟨rfl,rfl,rfl⟩,⟨rfl,rfl,rfl⟩,⟨rfl,rfl,rfl⟩,trivial⟩ (ky n0 n1).sz) (ae (bf (nx:=[0]) (x0:=r0) (d:=true) ⟨⟨rfl,rfl,rfl⟩,trivial⟩ k0) (ae (bf (nx:=[3]) (x0:=r1) (d:=false) ⟨⟨rfl,rfl,rfl⟩,trivial⟩ k1) (ae (eY) ag))))))
  (ac (aB (n:=9) (m:=20) (t:=9) (by kernel_rfl) rfl rfl) (ac (aL (t:=3) (aG (n:=20) rfl) (aW (c:=900)) (eB (by omega))) (ah))) (by kernel_rfl) Tryd.func3 (by kernel_rfl) aI ⟨(aE (ns:=[0,3,6]) (rs:=[r0,r1,r2]) ⟨⟨rfl,rfl,rfl⟩,⟨rfl,rfl,rfl⟩,⟨rfl,rfl,rfl⟩,trivial⟩).2 ia,⟨ls (n:=9) rfl noB w,⟨am (n:=10) rfl aV,trivial⟩⟩⟩).mono ?_
 rintro e w' ⟨v,rfl,h1,h2⟩
 exact⟨congrArg Ending.returned h1,h2⟩
def jl (va:Value) (r0 r1 r2:Rq) (s:ByteArray) (n:Int):List Fq:=[]
theorem kI {w:World} (va:Value) (r0 r1 r2:Rq) (s:ByteArray) (n:Int) (ia:IsL w va [r0,r1,r2]) (n0: -9223372036854775808≤n) (n1:n<9223372036854775808) (hb:s.size≤900) (k0:r0.sh=true) (k1:r1.sh=true) (k2:r2.sh=false):
  Calls Tryd.prog 3 #[va,.string s,.int .i64 n] w fun e w'=>bE w (.bool true) e w':=by
 refine(ak (ρ:=frs (jl va r0 r1 r2 s n)++([.val (.bool r0.s),.dig r0.L r0.p,.dig r0.N r0.q,.val (.bool r1.s),.dig r1.L r1.p,.dig r1.N r1.q,.val (.bool r2.s),.dig r2.L r2.p,.dig r2.N r2.q,.val (.string s),.val (.int .i64 n),.val (.bool (Vq.of n 1 (-7)).x.s),.dig (nl (Vq.of n 1 (-7)).x.p) (Vq.of n 1 (-7)).x.p,.dig (nl (Vq.of n 1 (-7)).x.q) (Vq.of n 1 (-7)).x.q,.val (.bool (Vq.of n 1 (-7)).y.s),.dig (nl (Vq.of n 1 (-7)).y.p) (Vq.of n 1 (-7)).y.p,.dig (nl (Vq.of n 1 (-7)).y.q) (Vq.of n 1 (-7)).y.q,.val (.bool (Vq.of n 1 (-7)).z.s),.dig (nl (Vq.of n 1 (-7)).z.p) (Vq.of n 1 (-7)).z.p,.dig (nl (Vq.of n 1 (-7)).z.q) (Vq.of n 1 (-7)).z.q,.val (.int .i64 ((s.size:Nat):Int))]:List Vp)) (w:=w) (fuel:=300) (args:=[.agg [.ref 0,.ref 1,.ref 2,.ref 3,.ref 4,.ref 5,.ref 6,.ref 7,.ref 8],.one (.ref 9),.one (.ref 10)]) (vs:=[va,.string s,.int .i64 n]) (r:=.v (.one (.b true))) (lo:=[]) (obs:=[])
  (ae (d7 (m:=10) (u:=n) (v:=Vq.of n 1 (-7)) (ns:=[11,14,17]) (ai Tryd.func5 rfl rfl) (fun w=>ku n w n0 n1) rfl ⟨⟨rfl,rfl,rfl⟩,⟨rfl,rfl,rfl⟩,⟨rfl,rfl,rfl⟩,trivial⟩) (ae (d7 (m:=10) (u:=n) (v:=Vq.of n 1 (-7)) (ns:=[11,14,17]) (ai Tryd.func6 rfl rfl) (fun w=>kx n w n0 n1) rfl ⟨⟨rfl,rfl,rfl⟩,⟨rfl,rfl,rfl⟩,⟨rfl,rfl,rfl⟩,trivial⟩) (ae (e8 (k0:=[11,14,17]) (k1:=[11,14,17]) (v:=(Vq.of n 1 (-7))) ⟨⟨rfl,rfl,rfl⟩,⟨rfl,rfl,rfl⟩,⟨rfl,rfl,rfl⟩,trivial⟩ ⟨⟨rfl,rfl,rfl⟩,⟨rfl,rfl,rfl⟩,⟨rfl,rfl,rfl⟩,trivial⟩ (ky n0 n1).sz) (ae (bf (nx:=[0]) (x0:=r0) (d:=true) ⟨⟨rfl,rfl,rfl⟩,trivial⟩ k0) (ae (bf (nx:=[3]) (x0:=r1) (d:=true) ⟨⟨rfl,rfl,rfl⟩,trivial⟩ k1) (ae (bf (nx:=[6]) (x0:=r2) (d:=false) ⟨⟨rfl,rfl,rfl⟩,trivial⟩ k2) (ae (eY) ag)))))))
  (ac (aB (n:=9) (m:=20) (t:=9) (by kernel_rfl) rfl rfl) (ac (aL (t:=3) (aG (n:=20) rfl) (aW (c:=900)) (eB (by omega))) (ah))) (by kernel_rfl) Tryd.func3 (by kernel_rfl) aI ⟨(aE (ns:=[0,3,6]) (rs:=[r0,r1,r2]) ⟨⟨rfl,rfl,rfl⟩,⟨rfl,rfl,rfl⟩,⟨rfl,rfl,rfl⟩,trivial⟩).2 ia,⟨ls (n:=9) rfl noB w,⟨am (n:=10) rfl aV,trivial⟩⟩⟩).mono ?_
 rintro e w' ⟨v,rfl,h1,h2⟩
 exact⟨congrArg Ending.returned h1,h2⟩
def jm (va:Value) (r0 r1 r2:Rq) (s:ByteArray) (n:Int) (c:Int):List Fq:=[]
theorem kJ {w:World} (va:Value) (r0 r1 r2:Rq) (s:ByteArray) (n:Int) (ia:IsL w va [r0,r1,r2]) (n0: -9223372036854775808≤n) (n1:n<9223372036854775808) (hb:s.size≤900) (k0:r0.sh=true) (k1:r1.sh=true) (k2:r2.sh=true) (hv:fD r0 r1 r2=false) (hf:iw r0 r1 r2=false) (c:Int) (h:VP s .zero c) (h0:c≠0):
  Calls Tryd.prog 3 #[va,.string s,.int .i64 n] w fun e w'=>bE w (.bool true) e w':=by
 refine(ak (ρ:=frs (jm va r0 r1 r2 s n c)++([.val (.bool r0.s),.dig r0.L r0.p,.dig r0.N r0.q,.val (.bool r1.s),.dig r1.L r1.p,.dig r1.N r1.q,.val (.bool r2.s),.dig r2.L r2.p,.dig r2.N r2.q,.val (.string s),.val (.int .i64 n),.val (.bool (Vq.of n 1 (-7)).x.s),.dig (nl (Vq.of n 1 (-7)).x.p) (Vq.of n 1 (-7)).x.p,.dig (nl (Vq.of n 1 (-7)).x.q) (Vq.of n 1 (-7)).x.q,.val (.bool (Vq.of n 1 (-7)).y.s),.dig (nl (Vq.of n 1 (-7)).y.p) (Vq.of n 1 (-7)).y.p,.dig (nl (Vq.of n 1 (-7)).y.q) (Vq.of n 1 (-7)).y.q,.val (.bool (Vq.of n 1 (-7)).z.s),.dig (nl (Vq.of n 1 (-7)).z.p) (Vq.of n 1 (-7)).z.p,.dig (nl (Vq.of n 1 (-7)).z.q) (Vq.of n 1 (-7)).z.q,.val (.int .i64 ((s.size:Nat):Int)),.val (.bool Vq.zero.x.s),.dig (nl Vq.zero.x.p) Vq.zero.x.p,.dig (nl Vq.zero.x.q) Vq.zero.x.q,.val (.bool Vq.zero.y.s),.dig (nl Vq.zero.y.p) Vq.zero.y.p,.dig (nl Vq.zero.y.q) Vq.zero.y.q,.val (.bool Vq.zero.z.s),.dig (nl Vq.zero.z.p) Vq.zero.z.p,.dig (nl Vq.zero.z.q) Vq.zero.z.q,.val (.int .i64 c)]:List Vp)) (w:=w) (fuel:=300) (args:=[.agg [.ref 0,.ref 1,.ref 2,.ref 3,.ref 4,.ref 5,.ref 6,.ref 7,.ref 8],.one (.ref 9),.one (.ref 10)]) (vs:=[va,.string s,.int .i64 n]) (r:=.v (.one (.b true))) (lo:=[]) (obs:=[])
  (ae (d7 (m:=10) (u:=n) (v:=Vq.of n 1 (-7)) (ns:=[11,14,17]) (ai Tryd.func5 rfl rfl) (fun w=>ku n w n0 n1) rfl ⟨⟨rfl,rfl,rfl⟩,⟨rfl,rfl,rfl⟩,⟨rfl,rfl,rfl⟩,trivial⟩) (ae (d7 (m:=10) (u:=n) (v:=Vq.of n 1 (-7)) (ns:=[11,14,17]) (ai Tryd.func6 rfl rfl) (fun w=>kx n w n0 n1) rfl ⟨⟨rfl,rfl,rfl⟩,⟨rfl,rfl,rfl⟩,⟨rfl,rfl,rfl⟩,trivial⟩) (ae (e8 (k0:=[11,14,17]) (k1:=[11,14,17]) (v:=(Vq.of n 1 (-7))) ⟨⟨rfl,rfl,rfl⟩,⟨rfl,rfl,rfl⟩,⟨rfl,rfl,rfl⟩,trivial⟩ ⟨⟨rfl,rfl,rfl⟩,⟨rfl,rfl,rfl⟩,⟨rfl,rfl,rfl⟩,trivial⟩ (ky n0 n1).sz) (ae (bf (nx:=[0]) (x0:=r0) (d:=true) ⟨⟨rfl,rfl,rfl⟩,trivial⟩ k0) (ae (bf (nx:=[3]) (x0:=r1) (d:=true) ⟨⟨rfl,rfl,rfl⟩,trivial⟩ k1) (ae (bf (nx:=[6]) (x0:=r2) (d:=true) ⟨⟨rfl,rfl,rfl⟩,trivial⟩ k2) (ae (cZ (n:=9) (s:=s) (c:=c) (v:=Vq.zero) (l:=.ref 30) (ns:=[21,24,27]) (ai Tryd.func9 rfl rfl) (fun w=>ew s Vq.zero c w h (Nat.le_trans hb (by decide))) rfl ⟨⟨rfl,rfl,rfl⟩,⟨rfl,rfl,rfl⟩,⟨rfl,rfl,rfl⟩,trivial⟩ (fun _ _=>am rfl aV)) (ae (cZ (n:=9) (s:=s) (c:=c) (v:=Vq.zero) (l:=.ref 30) (ns:=[21,24,27]) (ai Tryd.func10 rfl rfl) (fun w=>gZ s Vq.zero c w h (Nat.le_trans hb (by decide))) rfl ⟨⟨rfl,rfl,rfl⟩,⟨rfl,rfl,rfl⟩,⟨rfl,rfl,rfl⟩,trivial⟩ (fun _ _=>am rfl aV)) (ae (e8 (k0:=[21,24,27]) (k1:=[21,24,27]) (v:=Vq.zero) ⟨⟨rfl,rfl,rfl⟩,⟨rfl,rfl,rfl⟩,⟨rfl,rfl,rfl⟩,trivial⟩ ⟨⟨rfl,rfl,rfl⟩,⟨rfl,rfl,rfl⟩,⟨rfl,rfl,rfl⟩,trivial⟩ rF) (ae (g7 (ns:=[0,3,6]) (r0:=r0) (r1:=r1) (r2:=r2) (d:=false) ⟨⟨rfl,rfl,rfl⟩,⟨rfl,rfl,rfl⟩,⟨rfl,rfl,rfl⟩,trivial⟩ hv (dV k0) (dW k0) (dV k1) (dW k1) (dV k2) (dW k2)) (ae (gc (ns:=[0,3,6]) (r0:=r0) (r1:=r1) (r2:=r2) (d:=false) ⟨⟨rfl,rfl,rfl⟩,⟨rfl,rfl,rfl⟩,⟨rfl,rfl,rfl⟩,trivial⟩ hv (dV k0) (dW k0) (dV k1) (dW k1) (dV k2) (dW k2)) (ae (oc (nx:=[0,3,6]) (x0:=r0) (x1:=r1) (x2:=r2) (d:=false) ⟨⟨rfl,rfl,rfl⟩,⟨rfl,rfl,rfl⟩,⟨rfl,rfl,rfl⟩,trivial⟩ hf) (ae (eY) ag)))))))))))))
  (ac (aB (n:=9) (m:=20) (t:=9) (by kernel_rfl) rfl rfl) (ac (aL (t:=3) (aG (n:=20) rfl) (aW (c:=900)) (eB (by omega))) (ac (aL (t:=33) (aG (n:=30) rfl) (aG (n:=30) rfl) (bh (by omega))) (ac (aL (t:=33) (aG (n:=30) rfl) (aW (c:=0)) (gO (by omega))) (ah))))) (by kernel_rfl) Tryd.func3 (by kernel_rfl) aI ⟨(aE (ns:=[0,3,6]) (rs:=[r0,r1,r2]) ⟨⟨rfl,rfl,rfl⟩,⟨rfl,rfl,rfl⟩,⟨rfl,rfl,rfl⟩,trivial⟩).2 ia,⟨ls (n:=9) rfl noB w,⟨am (n:=10) rfl aV,trivial⟩⟩⟩).mono ?_
 rintro e w' ⟨v,rfl,h1,h2⟩
 exact⟨congrArg Ending.returned h1,h2⟩
def jn (va:Value) (r0 r1 r2:Rq) (s:ByteArray) (n:Int):List Fq:=[]
theorem kK {w:World} (va:Value) (r0 r1 r2:Rq) (s:ByteArray) (n:Int) (ia:IsL w va [r0,r1,r2]) (n0: -9223372036854775808≤n) (n1:n<9223372036854775808) (hb:s.size≤900) (k0:r0.sh=true) (k1:r1.sh=true) (k2:r2.sh=true) (hv:fD r0 r1 r2=false) (hf:iw r0 r1 r2=false) (v:Vq) (h:VP s v 0):
  Calls Tryd.prog 3 #[va,.string s,.int .i64 n] w fun e w'=>bE w (.bool true) e w':=by
 refine(ak (ρ:=frs (jn va r0 r1 r2 s n)++([.val (.bool r0.s),.dig r0.L r0.p,.dig r0.N r0.q,.val (.bool r1.s),.dig r1.L r1.p,.dig r1.N r1.q,.val (.bool r2.s),.dig r2.L r2.p,.dig r2.N r2.q,.val (.string s),.val (.int .i64 n),.val (.bool (Vq.of n 1 (-7)).x.s),.dig (nl (Vq.of n 1 (-7)).x.p) (Vq.of n 1 (-7)).x.p,.dig (nl (Vq.of n 1 (-7)).x.q) (Vq.of n 1 (-7)).x.q,.val (.bool (Vq.of n 1 (-7)).y.s),.dig (nl (Vq.of n 1 (-7)).y.p) (Vq.of n 1 (-7)).y.p,.dig (nl (Vq.of n 1 (-7)).y.q) (Vq.of n 1 (-7)).y.q,.val (.bool (Vq.of n 1 (-7)).z.s),.dig (nl (Vq.of n 1 (-7)).z.p) (Vq.of n 1 (-7)).z.p,.dig (nl (Vq.of n 1 (-7)).z.q) (Vq.of n 1 (-7)).z.q,.val (.int .i64 ((s.size:Nat):Int)),.val (.bool v.x.s),.dig (nl v.x.p) v.x.p,.dig (nl v.x.q) v.x.q,.val (.bool v.y.s),.dig (nl v.y.p) v.y.p,.dig (nl v.y.q) v.y.q,.val (.bool v.z.s),.dig (nl v.z.p) v.z.p,.dig (nl v.z.q) v.z.q]:List Vp)) (w:=w) (fuel:=300) (args:=[.agg [.ref 0,.ref 1,.ref 2,.ref 3,.ref 4,.ref 5,.ref 6,.ref 7,.ref 8],.one (.ref 9),.one (.ref 10)]) (vs:=[va,.string s,.int .i64 n]) (r:=.v (.one (.b true))) (lo:=[]) (obs:=[])
  (ae (d7 (m:=10) (u:=n) (v:=Vq.of n 1 (-7)) (ns:=[11,14,17]) (ai Tryd.func5 rfl rfl) (fun w=>ku n w n0 n1) rfl ⟨⟨rfl,rfl,rfl⟩,⟨rfl,rfl,rfl⟩,⟨rfl,rfl,rfl⟩,trivial⟩) (ae (d7 (m:=10) (u:=n) (v:=Vq.of n 1 (-7)) (ns:=[11,14,17]) (ai Tryd.func6 rfl rfl) (fun w=>kx n w n0 n1) rfl ⟨⟨rfl,rfl,rfl⟩,⟨rfl,rfl,rfl⟩,⟨rfl,rfl,rfl⟩,trivial⟩) (ae (e8 (k0:=[11,14,17]) (k1:=[11,14,17]) (v:=(Vq.of n 1 (-7))) ⟨⟨rfl,rfl,rfl⟩,⟨rfl,rfl,rfl⟩,⟨rfl,rfl,rfl⟩,trivial⟩ ⟨⟨rfl,rfl,rfl⟩,⟨rfl,rfl,rfl⟩,⟨rfl,rfl,rfl⟩,trivial⟩ (ky n0 n1).sz) (ae (bf (nx:=[0]) (x0:=r0) (d:=true) ⟨⟨rfl,rfl,rfl⟩,trivial⟩ k0) (ae (bf (nx:=[3]) (x0:=r1) (d:=true) ⟨⟨rfl,rfl,rfl⟩,trivial⟩ k1) (ae (bf (nx:=[6]) (x0:=r2) (d:=true) ⟨⟨rfl,rfl,rfl⟩,trivial⟩ k2) (ae (cZ (n:=9) (s:=s) (c:=0) (v:=v) (l:=.i .i64 0) (ns:=[21,24,27]) (ai Tryd.func9 rfl rfl) (fun w=>ew s v 0 w h (Nat.le_trans hb (by decide))) rfl ⟨⟨rfl,rfl,rfl⟩,⟨rfl,rfl,rfl⟩,⟨rfl,rfl,rfl⟩,trivial⟩ (fun _ _=>rfl)) (ae (cZ (n:=9) (s:=s) (c:=0) (v:=v) (l:=.i .i64 0) (ns:=[21,24,27]) (ai Tryd.func10 rfl rfl) (fun w=>gZ s v 0 w h (Nat.le_trans hb (by decide))) rfl ⟨⟨rfl,rfl,rfl⟩,⟨rfl,rfl,rfl⟩,⟨rfl,rfl,rfl⟩,trivial⟩ (fun _ _=>rfl)) (ae (e8 (k0:=[21,24,27]) (k1:=[21,24,27]) (v:=v) ⟨⟨rfl,rfl,rfl⟩,⟨rfl,rfl,rfl⟩,⟨rfl,rfl,rfl⟩,trivial⟩ ⟨⟨rfl,rfl,rfl⟩,⟨rfl,rfl,rfl⟩,⟨rfl,rfl,rfl⟩,trivial⟩ (Vq.ok.sz ((g0 h).2.1.mono (by decide)))) (ae (j4 (ns:=[21,24,27]) (v:=v) (t:=s) (m:=9) (ai Tryd.func11 rfl rfl) (fun va w j_=>fC va v w j_ ((g0 h).2.1.mono (by decide))) ⟨⟨rfl,rfl,rfl⟩,⟨rfl,rfl,rfl⟩,⟨rfl,rfl,rfl⟩,trivial⟩ (g0 h).2.2 rfl) (ae (g7 (ns:=[0,3,6]) (r0:=r0) (r1:=r1) (r2:=r2) (d:=false) ⟨⟨rfl,rfl,rfl⟩,⟨rfl,rfl,rfl⟩,⟨rfl,rfl,rfl⟩,trivial⟩ hv (dV k0) (dW k0) (dV k1) (dW k1) (dV k2) (dW k2)) (ae (gc (ns:=[0,3,6]) (r0:=r0) (r1:=r1) (r2:=r2) (d:=false) ⟨⟨rfl,rfl,rfl⟩,⟨rfl,rfl,rfl⟩,⟨rfl,rfl,rfl⟩,trivial⟩ hv (dV k0) (dW k0) (dV k1) (dW k1) (dV k2) (dW k2)) (ae (oc (nx:=[0,3,6]) (x0:=r0) (x1:=r1) (x2:=r2) (d:=false) ⟨⟨rfl,rfl,rfl⟩,⟨rfl,rfl,rfl⟩,⟨rfl,rfl,rfl⟩,trivial⟩ hf) (ae (eY) ag))))))))))))))
  (ac (aB (n:=9) (m:=20) (t:=9) (by kernel_rfl) rfl rfl) (ac (aL (t:=3) (aG (n:=20) rfl) (aW (c:=900)) (eB (by omega))) (ac (rG (n:=9) (m:=9) rfl rfl) (ah)))) (by kernel_rfl) Tryd.func3 (by kernel_rfl) aI ⟨(aE (ns:=[0,3,6]) (rs:=[r0,r1,r2]) ⟨⟨rfl,rfl,rfl⟩,⟨rfl,rfl,rfl⟩,⟨rfl,rfl,rfl⟩,trivial⟩).2 ia,⟨ls (n:=9) rfl noB w,⟨am (n:=10) rfl aV,trivial⟩⟩⟩).mono ?_
 rintro e w' ⟨v,rfl,h1,h2⟩
 exact⟨congrArg Ending.returned h1,h2⟩
def jo (va:Value) (a:Vq) (s:ByteArray) (n:Int) (c:Int):List Fq:=[]
theorem kL {w:World} (va:Value) (a:Vq) (s:ByteArray) (n:Int) (ia:jS w va a) (n0: -9223372036854775808≤n) (n1:n<9223372036854775808) (hb:s.size≤900) (k0:a.x.raw.sh=true) (k1:a.y.raw.sh=true) (k2:a.z.raw.sh=true) (hv:fD a.x.raw a.y.raw a.z.raw=true) (hf:iw a.x.raw a.y.raw a.z.raw=true) (ga:a.good) (oa:a.ok 4) (c:Int) (h:VP s .zero c) (h0:c≠0):
  Calls Tryd.prog 3 #[va,.string s,.int .i64 n] w fun e w'=>bE w (.bool true) e w':=by
 refine(ak (ρ:=frs (jo va a s n c)++([.val (.bool a.x.s),.dig (nl a.x.p) a.x.p,.dig (nl a.x.q) a.x.q,.val (.bool a.y.s),.dig (nl a.y.p) a.y.p,.dig (nl a.y.q) a.y.q,.val (.bool a.z.s),.dig (nl a.z.p) a.z.p,.dig (nl a.z.q) a.z.q,.val (.string s),.val (.int .i64 n),.val (.bool (Vq.of n 1 (-7)).x.s),.dig (nl (Vq.of n 1 (-7)).x.p) (Vq.of n 1 (-7)).x.p,.dig (nl (Vq.of n 1 (-7)).x.q) (Vq.of n 1 (-7)).x.q,.val (.bool (Vq.of n 1 (-7)).y.s),.dig (nl (Vq.of n 1 (-7)).y.p) (Vq.of n 1 (-7)).y.p,.dig (nl (Vq.of n 1 (-7)).y.q) (Vq.of n 1 (-7)).y.q,.val (.bool (Vq.of n 1 (-7)).z.s),.dig (nl (Vq.of n 1 (-7)).z.p) (Vq.of n 1 (-7)).z.p,.dig (nl (Vq.of n 1 (-7)).z.q) (Vq.of n 1 (-7)).z.q,.val (.int .i64 ((s.size:Nat):Int)),.val (.bool Vq.zero.x.s),.dig (nl Vq.zero.x.p) Vq.zero.x.p,.dig (nl Vq.zero.x.q) Vq.zero.x.q,.val (.bool Vq.zero.y.s),.dig (nl Vq.zero.y.p) Vq.zero.y.p,.dig (nl Vq.zero.y.q) Vq.zero.y.q,.val (.bool Vq.zero.z.s),.dig (nl Vq.zero.z.p) Vq.zero.z.p,.dig (nl Vq.zero.z.q) Vq.zero.z.q,.val (.int .i64 c),.val (.string a.fmt)]:List Vp)) (w:=w) (fuel:=300) (args:=[.agg [.ref 0,.ref 1,.ref 2,.ref 3,.ref 4,.ref 5,.ref 6,.ref 7,.ref 8],.one (.ref 9),.one (.ref 10)]) (vs:=[va,.string s,.int .i64 n]) (r:=.v (.one (.b true))) (lo:=[]) (obs:=[])
  (ae (d7 (m:=10) (u:=n) (v:=Vq.of n 1 (-7)) (ns:=[11,14,17]) (ai Tryd.func5 rfl rfl) (fun w=>ku n w n0 n1) rfl ⟨⟨rfl,rfl,rfl⟩,⟨rfl,rfl,rfl⟩,⟨rfl,rfl,rfl⟩,trivial⟩) (ae (d7 (m:=10) (u:=n) (v:=Vq.of n 1 (-7)) (ns:=[11,14,17]) (ai Tryd.func6 rfl rfl) (fun w=>kx n w n0 n1) rfl ⟨⟨rfl,rfl,rfl⟩,⟨rfl,rfl,rfl⟩,⟨rfl,rfl,rfl⟩,trivial⟩) (ae (e8 (k0:=[11,14,17]) (k1:=[11,14,17]) (v:=(Vq.of n 1 (-7))) ⟨⟨rfl,rfl,rfl⟩,⟨rfl,rfl,rfl⟩,⟨rfl,rfl,rfl⟩,trivial⟩ ⟨⟨rfl,rfl,rfl⟩,⟨rfl,rfl,rfl⟩,⟨rfl,rfl,rfl⟩,trivial⟩ (ky n0 n1).sz) (ae (bf (nx:=[0]) (x0:=a.x.raw) (d:=true) ⟨⟨rfl,rfl,rfl⟩,trivial⟩ k0) (ae (bf (nx:=[3]) (x0:=a.y.raw) (d:=true) ⟨⟨rfl,rfl,rfl⟩,trivial⟩ k1) (ae (bf (nx:=[6]) (x0:=a.z.raw) (d:=true) ⟨⟨rfl,rfl,rfl⟩,trivial⟩ k2) (ae (cZ (n:=9) (s:=s) (c:=c) (v:=Vq.zero) (l:=.ref 30) (ns:=[21,24,27]) (ai Tryd.func9 rfl rfl) (fun w=>ew s Vq.zero c w h (Nat.le_trans hb (by decide))) rfl ⟨⟨rfl,rfl,rfl⟩,⟨rfl,rfl,rfl⟩,⟨rfl,rfl,rfl⟩,trivial⟩ (fun _ _=>am rfl aV)) (ae (cZ (n:=9) (s:=s) (c:=c) (v:=Vq.zero) (l:=.ref 30) (ns:=[21,24,27]) (ai Tryd.func10 rfl rfl) (fun w=>gZ s Vq.zero c w h (Nat.le_trans hb (by decide))) rfl ⟨⟨rfl,rfl,rfl⟩,⟨rfl,rfl,rfl⟩,⟨rfl,rfl,rfl⟩,trivial⟩ (fun _ _=>am rfl aV)) (ae (e8 (k0:=[21,24,27]) (k1:=[21,24,27]) (v:=Vq.zero) ⟨⟨rfl,rfl,rfl⟩,⟨rfl,rfl,rfl⟩,⟨rfl,rfl,rfl⟩,trivial⟩ ⟨⟨rfl,rfl,rfl⟩,⟨rfl,rfl,rfl⟩,⟨rfl,rfl,rfl⟩,trivial⟩ rF) (ae (g7 (ns:=[0,3,6]) (r0:=a.x.raw) (r1:=a.y.raw) (r2:=a.z.raw) (d:=true) ⟨⟨rfl,rfl,rfl⟩,⟨rfl,rfl,rfl⟩,⟨rfl,rfl,rfl⟩,trivial⟩ hv (dV k0) (dW k0) (dV k1) (dW k1) (dV k2) (dW k2)) (ae (gc (ns:=[0,3,6]) (r0:=a.x.raw) (r1:=a.y.raw) (r2:=a.z.raw) (d:=true) ⟨⟨rfl,rfl,rfl⟩,⟨rfl,rfl,rfl⟩,⟨rfl,rfl,rfl⟩,trivial⟩ hv (dV k0) (dW k0) (dV k1) (dW k1) (dV k2) (dW k2)) (ae (oc (nx:=[0,3,6]) (x0:=a.x.raw) (x1:=a.y.raw) (x2:=a.z.raw) (d:=true) ⟨⟨rfl,rfl,rfl⟩,⟨rfl,rfl,rfl⟩,⟨rfl,rfl,rfl⟩,trivial⟩ hf) (ae (j4 (ns:=[0,3,6]) (v:=a) (t:=a.fmt) (m:=31) (ai Tryd.func11 rfl rfl) (fun va w j_=>fC va a w j_ (oa.mono (by decide))) ⟨⟨rfl,rfl,rfl⟩,⟨rfl,rfl,rfl⟩,⟨rfl,rfl,rfl⟩,trivial⟩ rfl rfl) (ae (cZ (n:=31) (s:=a.fmt) (c:=0) (v:=a) (l:=.i .i64 0) (ns:=[0,3,6]) (ai Tryd.func9 rfl rfl) (fun w=>ew a.fmt a 0 w (vJ ga oa) (Nat.le_trans (ng oa) (by decide))) rfl ⟨⟨rfl,rfl,rfl⟩,⟨rfl,rfl,rfl⟩,⟨rfl,rfl,rfl⟩,trivial⟩ (fun _ _=>rfl)) (ae (j4 (ns:=[0,3,6]) (v:=a) (t:=a.fmt) (m:=31) (ai Tryd.func15 rfl rfl) (fun va w j_=>me va a w j_ (oa.mono (by decide))) ⟨⟨rfl,rfl,rfl⟩,⟨rfl,rfl,rfl⟩,⟨rfl,rfl,rfl⟩,trivial⟩ rfl rfl) (ae (e8 (k0:=[0,3,6]) (k1:=[0,3,6]) (v:=a) ⟨⟨rfl,rfl,rfl⟩,⟨rfl,rfl,rfl⟩,⟨rfl,rfl,rfl⟩,trivial⟩ ⟨⟨rfl,rfl,rfl⟩,⟨rfl,rfl,rfl⟩,⟨rfl,rfl,rfl⟩,trivial⟩ (Vq.ok.sz (oa.mono (by decide)))) (ae (eY) ag)))))))))))))))))
  (ac (aB (n:=9) (m:=20) (t:=9) (by kernel_rfl) rfl rfl) (ac (aL (t:=3) (aG (n:=20) rfl) (aW (c:=900)) (eB (by omega))) (ac (aL (t:=33) (aG (n:=30) rfl) (aG (n:=30) rfl) (bh (by omega))) (ac (aL (t:=33) (aG (n:=30) rfl) (aW (c:=0)) (gO (by omega))) (ac (rH (n:=31) (m:=31) rfl rfl) (ah)))))) (by kernel_rfl) Tryd.func3 (by kernel_rfl) aI ⟨(aE (ns:=[0,3,6]) (rs:=[a.x.raw,a.y.raw,a.z.raw]) ⟨⟨rfl,rfl,rfl⟩,⟨rfl,rfl,rfl⟩,⟨rfl,rfl,rfl⟩,trivial⟩).2 ia,⟨ls (n:=9) rfl noB w,⟨am (n:=10) rfl aV,trivial⟩⟩⟩).mono ?_
 rintro e w' ⟨v,rfl,h1,h2⟩
 exact⟨congrArg Ending.returned h1,h2⟩
def jp (va:Value) (a:Vq) (s:ByteArray) (n:Int):List Fq:=[]
theorem kM {w:World} (va:Value) (a:Vq) (s:ByteArray) (n:Int) (ia:jS w va a) (n0: -9223372036854775808≤n) (n1:n<9223372036854775808) (hb:s.size≤900) (k0:a.x.raw.sh=true) (k1:a.y.raw.sh=true) (k2:a.z.raw.sh=true) (hv:fD a.x.raw a.y.raw a.z.raw=true) (hf:iw a.x.raw a.y.raw a.z.raw=true) (ga:a.good) (oa:a.ok 4) (v:Vq) (h:VP s v 0):
  Calls Tryd.prog 3 #[va,.string s,.int .i64 n] w fun e w'=>bE w (.bool true) e w':=by
 refine(ak (ρ:=frs (jp va a s n)++([.val (.bool a.x.s),.dig (nl a.x.p) a.x.p,.dig (nl a.x.q) a.x.q,.val (.bool a.y.s),.dig (nl a.y.p) a.y.p,.dig (nl a.y.q) a.y.q,.val (.bool a.z.s),.dig (nl a.z.p) a.z.p,.dig (nl a.z.q) a.z.q,.val (.string s),.val (.int .i64 n),.val (.bool (Vq.of n 1 (-7)).x.s),.dig (nl (Vq.of n 1 (-7)).x.p) (Vq.of n 1 (-7)).x.p,.dig (nl (Vq.of n 1 (-7)).x.q) (Vq.of n 1 (-7)).x.q,.val (.bool (Vq.of n 1 (-7)).y.s),.dig (nl (Vq.of n 1 (-7)).y.p) (Vq.of n 1 (-7)).y.p,.dig (nl (Vq.of n 1 (-7)).y.q) (Vq.of n 1 (-7)).y.q,.val (.bool (Vq.of n 1 (-7)).z.s),.dig (nl (Vq.of n 1 (-7)).z.p) (Vq.of n 1 (-7)).z.p,.dig (nl (Vq.of n 1 (-7)).z.q) (Vq.of n 1 (-7)).z.q,.val (.int .i64 ((s.size:Nat):Int)),.val (.bool v.x.s),.dig (nl v.x.p) v.x.p,.dig (nl v.x.q) v.x.q,.val (.bool v.y.s),.dig (nl v.y.p) v.y.p,.dig (nl v.y.q) v.y.q,.val (.bool v.z.s),.dig (nl v.z.p) v.z.p,.dig (nl v.z.q) v.z.q,.val (.string a.fmt)]:List Vp)) (w:=w) (fuel:=300) (args:=[.agg [.ref 0,.ref 1,.ref 2,.ref 3,.ref 4,.ref 5,.ref 6,.ref 7,.ref 8],.one (.ref 9),.one (.ref 10)]) (vs:=[va,.string s,.int .i64 n]) (r:=.v (.one (.b true))) (lo:=[]) (obs:=[])
  (ae (d7 (m:=10) (u:=n) (v:=Vq.of n 1 (-7)) (ns:=[11,14,17]) (ai Tryd.func5 rfl rfl) (fun w=>ku n w n0 n1) rfl ⟨⟨rfl,rfl,rfl⟩,⟨rfl,rfl,rfl⟩,⟨rfl,rfl,rfl⟩,trivial⟩) (ae (d7 (m:=10) (u:=n) (v:=Vq.of n 1 (-7)) (ns:=[11,14,17]) (ai Tryd.func6 rfl rfl) (fun w=>kx n w n0 n1) rfl ⟨⟨rfl,rfl,rfl⟩,⟨rfl,rfl,rfl⟩,⟨rfl,rfl,rfl⟩,trivial⟩) (ae (e8 (k0:=[11,14,17]) (k1:=[11,14,17]) (v:=(Vq.of n 1 (-7))) ⟨⟨rfl,rfl,rfl⟩,⟨rfl,rfl,rfl⟩,⟨rfl,rfl,rfl⟩,trivial⟩ ⟨⟨rfl,rfl,rfl⟩,⟨rfl,rfl,rfl⟩,⟨rfl,rfl,rfl⟩,trivial⟩ (ky n0 n1).sz) (ae (bf (nx:=[0]) (x0:=a.x.raw) (d:=true) ⟨⟨rfl,rfl,rfl⟩,trivial⟩ k0) (ae (bf (nx:=[3]) (x0:=a.y.raw) (d:=true) ⟨⟨rfl,rfl,rfl⟩,trivial⟩ k1) (ae (bf (nx:=[6]) (x0:=a.z.raw) (d:=true) ⟨⟨rfl,rfl,rfl⟩,trivial⟩ k2) (ae (cZ (n:=9) (s:=s) (c:=0) (v:=v) (l:=.i .i64 0) (ns:=[21,24,27]) (ai Tryd.func9 rfl rfl) (fun w=>ew s v 0 w h (Nat.le_trans hb (by decide))) rfl ⟨⟨rfl,rfl,rfl⟩,⟨rfl,rfl,rfl⟩,⟨rfl,rfl,rfl⟩,trivial⟩ (fun _ _=>rfl)) (ae (cZ (n:=9) (s:=s) (c:=0) (v:=v) (l:=.i .i64 0) (ns:=[21,24,27]) (ai Tryd.func10 rfl rfl) (fun w=>gZ s v 0 w h (Nat.le_trans hb (by decide))) rfl ⟨⟨rfl,rfl,rfl⟩,⟨rfl,rfl,rfl⟩,⟨rfl,rfl,rfl⟩,trivial⟩ (fun _ _=>rfl)) (ae (e8 (k0:=[21,24,27]) (k1:=[21,24,27]) (v:=v) ⟨⟨rfl,rfl,rfl⟩,⟨rfl,rfl,rfl⟩,⟨rfl,rfl,rfl⟩,trivial⟩ ⟨⟨rfl,rfl,rfl⟩,⟨rfl,rfl,rfl⟩,⟨rfl,rfl,rfl⟩,trivial⟩ (Vq.ok.sz ((g0 h).2.1.mono (by decide)))) (ae (j4 (ns:=[21,24,27]) (v:=v) (t:=s) (m:=9) (ai Tryd.func11 rfl rfl) (fun va w j_=>fC va v w j_ ((g0 h).2.1.mono (by decide))) ⟨⟨rfl,rfl,rfl⟩,⟨rfl,rfl,rfl⟩,⟨rfl,rfl,rfl⟩,trivial⟩ (g0 h).2.2 rfl) (ae (g7 (ns:=[0,3,6]) (r0:=a.x.raw) (r1:=a.y.raw) (r2:=a.z.raw) (d:=true) ⟨⟨rfl,rfl,rfl⟩,⟨rfl,rfl,rfl⟩,⟨rfl,rfl,rfl⟩,trivial⟩ hv (dV k0) (dW k0) (dV k1) (dW k1) (dV k2) (dW k2)) (ae (gc (ns:=[0,3,6]) (r0:=a.x.raw) (r1:=a.y.raw) (r2:=a.z.raw) (d:=true) ⟨⟨rfl,rfl,rfl⟩,⟨rfl,rfl,rfl⟩,⟨rfl,rfl,rfl⟩,trivial⟩ hv (dV k0) (dW k0) (dV k1) (dW k1) (dV k2) (dW k2)) (ae (oc (nx:=[0,3,6]) (x0:=a.x.raw) (x1:=a.y.raw) (x2:=a.z.raw) (d:=true) ⟨⟨rfl,rfl,rfl⟩,⟨rfl,rfl,rfl⟩,⟨rfl,rfl,rfl⟩,trivial⟩ hf) (ae (j4 (ns:=[0,3,6]) (v:=a) (t:=a.fmt) (m:=30) (ai Tryd.func11 rfl rfl) (fun va w j_=>fC va a w j_ (oa.mono (by decide))) ⟨⟨rfl,rfl,rfl⟩,⟨rfl,rfl,rfl⟩,⟨rfl,rfl,rfl⟩,trivial⟩ rfl rfl) (ae (cZ (n:=30) (s:=a.fmt) (c:=0) (v:=a) (l:=.i .i64 0) (ns:=[0,3,6]) (ai Tryd.func9 rfl rfl) (fun w=>ew a.fmt a 0 w (vJ ga oa) (Nat.le_trans (ng oa) (by decide))) rfl ⟨⟨rfl,rfl,rfl⟩,⟨rfl,rfl,rfl⟩,⟨rfl,rfl,rfl⟩,trivial⟩ (fun _ _=>rfl)) (ae (j4 (ns:=[0,3,6]) (v:=a) (t:=a.fmt) (m:=30) (ai Tryd.func15 rfl rfl) (fun va w j_=>me va a w j_ (oa.mono (by decide))) ⟨⟨rfl,rfl,rfl⟩,⟨rfl,rfl,rfl⟩,⟨rfl,rfl,rfl⟩,trivial⟩ rfl rfl) (ae (e8 (k0:=[0,3,6]) (k1:=[0,3,6]) (v:=a) ⟨⟨rfl,rfl,rfl⟩,⟨rfl,rfl,rfl⟩,⟨rfl,rfl,rfl⟩,trivial⟩ ⟨⟨rfl,rfl,rfl⟩,⟨rfl,rfl,rfl⟩,⟨rfl,rfl,rfl⟩,trivial⟩ (Vq.ok.sz (oa.mono (by decide)))) (ae (eY) ag))))))))))))))))))
  (ac (aB (n:=9) (m:=20) (t:=9) (by kernel_rfl) rfl rfl) (ac (aL (t:=3) (aG (n:=20) rfl) (aW (c:=900)) (eB (by omega))) (ac (rG (n:=9) (m:=9) rfl rfl) (ac (rH (n:=30) (m:=30) rfl rfl) (ah))))) (by kernel_rfl) Tryd.func3 (by kernel_rfl) aI ⟨(aE (ns:=[0,3,6]) (rs:=[a.x.raw,a.y.raw,a.z.raw]) ⟨⟨rfl,rfl,rfl⟩,⟨rfl,rfl,rfl⟩,⟨rfl,rfl,rfl⟩,trivial⟩).2 ia,⟨ls (n:=9) rfl noB w,⟨am (n:=10) rfl aV,trivial⟩⟩⟩).mono ?_
 rintro e w' ⟨v,rfl,h1,h2⟩
 exact⟨congrArg Ending.returned h1,h2⟩
theorem mx (va:Value) (r0 r1 r2:Rq) (s:ByteArray) (n:Int) (w:World) (ia:IsL w va [r0,r1,r2]) (wn:(Lit.int .i64 n).wf=true):Calls Tryd.prog 3 #[va,.string s,.int .i64 n] w fun e w'=>bE w (.bool true) e w':=by
 obtain⟨n0,n1⟩: -9223372036854775808≤n∧n<9223372036854775808:=by
  simp only[Lit.wf,Bool.and_eq_true,decide_eq_true_eq]at wn
  have h1: -9223372036854775808≤n:=wn.1
  have h2:n≤9223372036854775807:=wn.2
  exact⟨h1,by omega⟩
 by_cases hb:s.size≤900
 ·rcases Bool.eq_false_or_eq_true r0.sh with k0 | k0
  ·rcases Bool.eq_false_or_eq_true r1.sh with k1 | k1
   ·rcases Bool.eq_false_or_eq_true r2.sh with k2 | k2
    ·obtain⟨v,c,h⟩:=vh s
     have hfr:=xb k0 k1 k2
     rcases Bool.eq_false_or_eq_true (iw r0 r1 r2)with hf | hf
     ·have hv:fD r0 r1 r2=true:=by rw[←hfr];exact hf
      obtain⟨a,ea0,ea1,ea2,ga,oa⟩:=fit_v hf
      subst ea0;subst ea1;subst ea2
      by_cases h0:c=0
      ·subst h0;exact kM va a s n ia n0 n1 hb k0 k1 k2 hv hf ga oa v h
      ·have e:=rE h h0
       subst e;exact kL va a s n ia n0 n1 hb k0 k1 k2 hv hf ga oa c h h0
     ·have hv:fD r0 r1 r2=false:=by rw[←hfr];exact hf
      by_cases h0:c=0
      ·subst h0;exact kK va r0 r1 r2 s n ia n0 n1 hb k0 k1 k2 hv hf v h
      ·have e:=rE h h0
       subst e;exact kJ va r0 r1 r2 s n ia n0 n1 hb k0 k1 k2 hv hf c h h0
    ·exact kI va r0 r1 r2 s n ia n0 n1 hb k0 k1 k2
   ·exact kH va r0 r1 r2 s n ia n0 n1 hb k0 k1
  ·exact kG va r0 r1 r2 s n ia n0 n1 hb k0
 ·exact mg va r0 r1 r2 s n ia n0 n1 (by omega)
end Go.Proofs.YtfhinmdhjlmikaaDoor
namespace Go.Proofs.YtfhinmdhjlmikaaDoor
set_option linter.unusedSimpArgs false
set_option linter.unusedVariables false
set_option maxRecDepth 100000
open Go.RowKit
open Go.ChangeShapes Go.WideShapes Go.ChangeAt Go.RowKit
theorem jq (f:Nat→Nat) (hf:∀j,f j<4294967296):∀L,∃N,N<4294967296^L∧∀j,j<L→D N j=f j
 | 0=>⟨0,by simp,fun j h=>by omega⟩
 | L+1=>by
  obtain⟨N,h1,h2⟩:=jq f hf L
  refine⟨upd N L (f L),gj (Nat.lt_of_lt_of_le h1 (Nat.pow_le_pow_right (by decide) (Nat.le_succ L))) (Nat.lt_succ_self L) (hf L),fun j hj=> ?_⟩
  by_cases e:j=L
  ·subst e;exact hG N j (f j) (hf j)
  ·rw[eG N L (f L) j (hf L) e];exact h2 j (by omega)
end Go.Proofs.YtfhinmdhjlmikaaDoor
namespace Go.Proofs.YtfhinmdhjlmikaaDoor
set_option linter.unusedSimpArgs false
set_option linter.unusedVariables false
set_option maxRecDepth 100000
open Go.RowKit
open Go.ChangeShapes Go.WideShapes Go.ChangeAt Go.RowKit
section
variable {H:Type} {enc:TypeId×Value→H} {W:World}
def rI (t:TypeId) (d:DataW H):Prop:=∀n∈d.weights Tryd.prog t,n≤140737488355328
theorem nh {fuel:Nat} {u:Value} {x:DataW H×List MemPlace} (hf:DataW.trod enc Tryd.prog W 0 (fun _=>true) true fuel 24 [u]=some x):
  ∃a L cap m,u= .slice a L cap∧IsR W (.agg #[.slice a L cap]) L m∧(rI 24 x.1→L≤140737488355328):=by
 obtain⟨y0,n,hy,hl0,h1⟩:=trod_struct1 Tryd.underlying24 hf
 have hc2:Tryd.prog.cellsOf 22=1:=by kernel_rfl
 have hb:Tryd.prog.bytesOf 78=4:=by kernel_rfl
 simp[hc2]at h1
 rcases open_ints Tryd.underlying22 Tryd.underlying78 (by kernel_rfl) h1 with⟨hcs,_⟩ | ⟨x',l,c,zs,hcs,_,hl,hm,hz,hx0,hcell,hwz⟩
 ·simp at hcs
  subst hcs
  exact⟨none,0,0,0,rfl,⟨none,0,rfl,Nat.le_refl _,by simp,fun h=>by omega⟩,fun _=>Nat.zero_le _⟩
 ·simp at hcs
  subst hcs
  obtain⟨N,hN,hD⟩:=jq (fun j=>(zs.getD j 0).toNat) (fun j=>by
   have:=range_u32 hwz j
   have e:zs.getD j 0=zs[j]?.getD 0:=by simp
   rw[e];omega) l
  refine⟨some x',l,c,N,rfl,⟨some x',c,rfl,hl,hN,fun h0=> ?_⟩,fun hs=> ?_⟩
  ·obtain⟨b,off,spot⟩:=x'
   have hc0:=hcell 0 (by rw[hz];simp;omega)
   have hspot:spot=none:=by simpa [Addr.add]using World.cell?_spot hc0
   subst hspot
   refine⟨b,off,rfl,fun j hj=> ?_⟩
   have h2:=hcell j (by rw[hz];simp;omega)
   have hadd:(⟨b,off,none⟩:Addr).add j=⟨b,off+j,none⟩:=by unfold Addr.add;split<;>simp_all
   rw[hadd]at h2
   rw[h2,hD j hj]
   have:=range_u32 hwz j
   have e:zs.getD j 0=zs[j]?.getD 0:=by simp
   rw[e,Int.toNat_of_nonneg this.1]
  ·unfold rI at hs
   rw[hy]at hs
   have h3:=hs (((lits .u32 (zs.take l)).length+(lits .u32 (zs.drop l)).length)*4) (by
    simp only[DataW.weights,Tryd.underlying24,DataW.weightsEach,List.map_cons,List.map_nil,List.append_nil,hx0,Tryd.underlying22,hb]
    exact List.mem_cons_self)
   have h4:(lits (H:=H) .u32 (zs.take l)).length=l:=by
    simp only[lits,List.length_map,List.length_take]
    have:l≤zs.length:=by rw[hz];simp;omega
    omega
   omega
theorem iz {fuel:Nat} {u0 u1 u2:Value} {x:DataW H×List MemPlace} (hf:DataW.trod enc Tryd.prog W 0 (fun _=>true) true fuel 26 [u0,u1,u2]=some x):
  ∃(r:Rq) (a b:Option Addr) (c d:Nat),u0= .bool r.s∧u1= .slice a r.L c∧u2= .slice b r.N d∧IsR W (.agg #[.slice a r.L c]) r.L r.p∧IsR W (.agg #[.slice b r.N d]) r.N r.q∧(rI 26 x.1→r.L≤140737488355328∧r.N≤140737488355328):=by
 have hcn:Tryd.prog.cellsOf 24=1:=by kernel_rfl
 have hcb:Tryd.prog.cellsOf 4=1:=by kernel_rfl
 obtain⟨y0,y1,y2,n,hy,hl0,h0,h1,h2⟩:=Go.Deep.trod_struct3 Tryd.underlying26 hf
 simp[hcn,hcb]at h0 h1 h2
 obtain⟨s,h3,_⟩:=DataW.trod_bool Tryd.underlying4 h0
 obtain rfl:u0= .bool s:=by simpa using h3
 obtain⟨a,L,c,m,rfl,i1,l1⟩:=nh h1
 obtain⟨a',N,c',k,rfl,i2,l2⟩:=nh h2
 refine⟨⟨s,L,m,N,k⟩,a,a',c,c',rfl,rfl,rfl,i1,i2,fun hs=> ?_⟩
 unfold rI at hs
 rw[hy]at hs
 simp only[DataW.weights,Tryd.underlying26,DataW.weightsEach,List.map_cons,List.map_nil,List.append_nil,List.mem_append]at hs
 exact⟨l1 (fun n hn=>hs n (.inr (.inl hn))),l2 (fun n hn=>hs n (.inr (.inr hn)))⟩
end
end Go.Proofs.YtfhinmdhjlmikaaDoor
namespace Go.Proofs.YtfhinmdhjlmikaaDoor
set_option linter.unusedSimpArgs false
set_option linter.unusedVariables false
set_option maxRecDepth 100000
open Go.RowKit
open Go.ChangeShapes Go.WideShapes Go.ChangeAt Go.RowKit
section
variable {H:Type} {enc:TypeId×Value→H} {W:World}
theorem vK {v:Value} {d:DataW H} {p:List MemPlace} {base:Nat} (hval:Value.okWide Tryd.prog W .any base 28 v) (h:DataW.Trod enc Tryd.prog W 0 (fun _=>true) true 28 v d p):
  ∃r0 r1 r2:Rq,IsL W v [r0,r1,r2]:=by
 obtain⟨cs,rfl,hcs⟩:=okWide_struct Tryd.underlying28 hval
 have hc:Tryd.prog.cellsOf 28=9:=by kernel_rfl
 have hcf:Tryd.prog.cellsOf 26=3:=by kernel_rfl
 rw[hc]at hcs
 obtain⟨l⟩:=cs
 have hl:l.length=9:=by simpa using hcs
 obtain⟨fuel,hf⟩:=h
 match l,hl with
 | [u0,u1,u2,u3,u4,u5,u6,u7,u8],_=>
  obtain⟨xs,n,_,hx,_,hlen,hg⟩:=DataW.trod_struct Tryd.underlying28 hf
  match xs,hlen with
  | [y0,y1,y2],_=>
   have h0:=hg 0 _ rfl
   have h1:=hg 1 _ rfl
   have h2:=hg 2 _ rfl
   simp[Value.cells,hcf]at h0 h1 h2
   obtain⟨r0,a0,b0,c0,d0,rfl,rfl,rfl,i0,j0,_⟩:=iz h0
   obtain⟨r1,a1,b1,c1,d1,rfl,rfl,rfl,i1,j1,_⟩:=iz h1
   obtain⟨r2,a2,b2,c2,d2,rfl,rfl,rfl,i2,j2,_⟩:=iz h2
   exact⟨r0,r1,r2,⟨_,rfl,a0,c0,b0,d0,_,rfl,i0,j0,a1,c1,b1,d1,_,rfl,i1,j1,a2,c2,b2,d2,_,rfl,i2,j2,rfl⟩⟩
end
end Go.Proofs.YtfhinmdhjlmikaaDoor
