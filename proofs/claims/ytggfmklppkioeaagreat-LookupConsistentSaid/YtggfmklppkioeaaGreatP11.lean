/- Package pose and its reference, by the executor. On the way from one pose to another, by the executor. An executor: rows that the call itself made, appended to and left. Stamps and rows of stamps: what an executor asks of them. -/
import Derived.Test.YtggfmklppkioeaaGreatP10
namespace Go.Proofs.YtggfmklppkioeaaGreat
set_option linter.unusedSimpArgs false
set_option linter.unusedVariables false
set_option maxRecDepth 100000
open Go.RowKit
structure Pq where
 rot:Qq
 pos:Vq
def Pq.cs (p:Pq):List Fq:=[p.rot.w,p.rot.x,p.rot.y,p.rot.z,p.pos.x,p.pos.y,p.pos.z]
structure Pq.ok (d:Nat) (p:Pq):Prop where
 rot:p.rot.ok d
 pos:p.pos.ok d
structure Pq.good (p:Pq):Prop where
 rot:p.rot.good
 pos:p.pos.good
def Pq.id:Pq:=⟨Qq.id,Vq.of 0 0 0⟩
def Pq.zero:Pq:=⟨Qq.zero,⟨.zero,.zero,.zero⟩⟩
def Pq.app (p:Pq) (v:Vq):Vq:=(p.rot.app v).add p.pos
def Pq.mul (a b:Pq):Pq:=⟨a.rot.mul b.rot,a.app b.pos⟩
def Pq.inv (a:Pq):Pq:=⟨a.rot.inv,a.rot.inv.app (a.pos.scale (Fq.ofInt (-1)))⟩
theorem Pq.ok.mono {p:Pq} {d e:Nat} (h:p.ok d) (k:d≤e):p.ok e:=⟨h.rot.mono k,h.pos.mono k⟩
theorem Pq.good.app {p:Pq} {v:Vq} (h:p.good) (k:v.good):(p.app v).good:=(bm h.rot k).add h.pos
theorem Pq.good.mul {a b:Pq} (h:a.good) (k:b.good):(a.mul b).good:=⟨bJ h.rot k.rot,h.app k.pos⟩
theorem Pq.good.inv {a:Pq} (h:a.good):a.inv.good:=⟨aX h.rot,bm (aX h.rot) (h.pos.scale (aE _))⟩
theorem Pq.good.id:Pq.id.good:=⟨dO,Vq.good.of 0 0 0⟩
theorem Pq.ok.app {p:Pq} {v:Vq} {d e:Nat} (h:p.ok d) (k:v.ok e) (g:p.good):(p.app v).ok (700*(d+e)+300):=((h.rot.app k g.rot).add h.pos).mono (by omega)
theorem Pq.ok.mul {a b:Pq} {d e:Nat} (h:a.ok d) (k:b.ok e) (g:a.good) (l:b.good):(a.mul b).ok (700*(d+e)+300):=⟨(h.rot.mulg k.rot g.rot l.rot).mono (by omega),h.app k.pos g⟩
theorem Pq.ok.inv {a:Pq} {d:Nat} (h:a.ok d) (g:a.good):a.inv.ok (1000*d+3000):=⟨(h.rot.inv g.rot).mono (by omega),((h.rot.inv g.rot).app (h.pos.scale (aO (by decide) (by decide))) (aX g.rot)).mono (by omega)⟩
theorem Pq.ok.id:Pq.id.ok 2:=⟨rA,sS (by decide) (by decide) (by decide) (by decide) (by decide) (by decide)⟩
abbrev bu (w:World) (v:Value) (p:Pq):Prop:=IsL w v [p.rot.w.raw,p.rot.x.raw,p.rot.y.raw,p.rot.z.raw,p.pos.x.raw,p.pos.y.raw,p.pos.z.raw]
abbrev iK (W:World) (p:Pq) (e:Ending) (w':World):Prop:=RetL W [p.rot.w.raw,p.rot.x.raw,p.rot.y.raw,p.rot.z.raw,p.pos.x.raw,p.pos.y.raw,p.pos.z.raw] e w'
abbrev RetOqE (W:World) (p:Pq) (c:Int) (e:Ending) (w':World):Prop:=RetLE W [p.rot.w.raw,p.rot.x.raw,p.rot.y.raw,p.rot.z.raw,p.pos.x.raw,p.pos.y.raw,p.pos.z.raw] c e w'
def nH (a:Vq) (b:Vq):List Fq:=[a.x,a.y,a.z,b.x,b.y,b.z]
theorem aad (va vb:Value) (a:Vq) (b:Vq) (w:World) (ia:dI w va a) (ib:dI w vb b) (ha:a.ok 100000000) (hb:b.ok 100000000) (e0:a=b) (ga:a.good) (gb:b.good):
  Calls Tryz.prog 27 #[va,vb] w fun e w'=>cK w (.bool true) e w':=by
 refine(cRn (ρ:=frs (nH a b)++ []) (args:=[row [0,1,2],row [3,4,5]]) (vs:=[va,vb]) (r:=.v (.one (.b true)))
  (ae (bz (i:=0) (j:=3) rfl rfl (li ((bx ga.x gb.x).2 (congrArg Vq.x e0))) (ha.x.mono (by decide)) (hb.x.mono (by decide))) (ae (bz (i:=1) (j:=4) rfl rfl (li ((bx ga.y gb.y).2 (congrArg Vq.y e0))) (ha.y.mono (by decide)) (hb.y.mono (by decide))) (ae (bz (i:=2) (j:=5) rfl rfl (li ((bx ga.z gb.z).2 (congrArg Vq.z e0))) (ha.z.mono (by decide)) (hb.z.mono (by decide))) ai)))
  aj Tryz.func27 (by kernel_rfl) ⟨(ah (xs:=nH a b) (ks:=[0,1,2]) (vs:=[a.x,a.y,a.z]) ⟨rfl,rfl,rfl,trivial⟩).2 ia,⟨(ah (xs:=nH a b) (ks:=[3,4,5]) (vs:=[b.x,b.y,b.z]) ⟨rfl,rfl,rfl,trivial⟩).2 ib,trivial⟩⟩).mono ?_
 rintro e w' ⟨v,rfl,h1,h2⟩;exact⟨congrArg Ending.returned h1,h2⟩
theorem aae {xs:List Fq} {ys:Rho} {ka:List Nat} {kb:List Nat} {a:Vq} {b:Vq} (aa:AtL xs ka [a.x,a.y,a.z]) (ab:AtL xs kb [b.x,b.y,b.z]) (ha:a.ok 100000000) (hb:b.ok 100000000) (e0:a=b) (ga:a.good) (gb:b.good):OkI xs ys ⟨27,[row ka,row kb],.v (.one (.b true))⟩:=
 ⟨aA Tryz.func27 rfl rfl,fun B w vs hB h=>by
  match vs,h with
  | [va,vb],h=>
   refine(aad va vb a b w ((ah aa).1 h.1) ((ah ab).1 h.2.1) ha hb e0 ga gb).mono ?_;rintro e w' ⟨rfl,h2⟩;exact⟨_,rfl,rfl,h2⟩⟩
def nI (a:Vq) (b:Vq):List Fq:=[a.x,a.y,a.z,b.x,b.y,b.z]
def kZ (a:Vq) (b:Vq):List Fq:=[a.x,a.y,a.z,b.x,b.y,b.z]
def lf (a:Vq) (b:Vq):List Fq:=[a.x,a.y,a.z,b.x,b.y,b.z]
theorem aaf (va vb:Value) (a:Vq) (b:Vq) (w:World) (ia:dI w va a) (ib:dI w vb b) (ha:a.ok 100000000) (hb:b.ok 100000000) (e0:a≠b) (ga:a.good) (gb:b.good):
  Calls Tryz.prog 27 #[va,vb] w fun e w'=>cK w (.bool false) e w':=by
 by_cases c0:a.x=b.x
 ·by_cases c1:a.y=b.y
  ·by_cases c2:a.z=b.z
   ·exact absurd (by cases a;cases b;simp only at c0 c1 c2;subst c0 c1 c2;rfl) e0
   ·refine(cRn (ρ:=frs (nI a b)++([.val (.int .i64 (a.z.cmp b.z))]:List Vp)) (args:=[row [0,1,2],row [3,4,5]]) (vs:=[va,vb]) (r:=.v (.one (.b false)))
     (ae (bz (i:=0) (j:=3) rfl rfl (li ((bx ga.x gb.x).2 c0)) (ha.x.mono (by decide)) (hb.x.mono (by decide))) (ae (bz (i:=1) (j:=4) rfl rfl (li ((bx ga.y gb.y).2 c1)) (ha.y.mono (by decide)) (hb.y.mono (by decide))) (ae (bz (i:=2) (j:=5) rfl rfl (lr (n:=18) rfl) (ha.z.mono (by decide)) (hb.z.mono (by decide))) ai)))
     (af (sA (n:=18) (c:=0) (u:=(a.z.cmp b.z)) (b:=false) (t:=3) rfl (jK (mt (bx ga.z gb.z).1 c2))) (aj)) Tryz.func27 (by kernel_rfl) ⟨(ah (xs:=nI a b) (ks:=[0,1,2]) (vs:=[a.x,a.y,a.z]) ⟨rfl,rfl,rfl,trivial⟩).2 ia,⟨(ah (xs:=nI a b) (ks:=[3,4,5]) (vs:=[b.x,b.y,b.z]) ⟨rfl,rfl,rfl,trivial⟩).2 ib,trivial⟩⟩).mono ?_
    rintro e w' ⟨v,rfl,h1,h2⟩;exact⟨congrArg Ending.returned h1,h2⟩
  ·refine(cRn (ρ:=frs (kZ a b)++([.val (.int .i64 (a.y.cmp b.y))]:List Vp)) (args:=[row [0,1,2],row [3,4,5]]) (vs:=[va,vb]) (r:=.v (.one (.b false)))
    (ae (bz (i:=0) (j:=3) rfl rfl (li ((bx ga.x gb.x).2 c0)) (ha.x.mono (by decide)) (hb.x.mono (by decide))) (ae (bz (i:=1) (j:=4) rfl rfl (lr (n:=18) rfl) (ha.y.mono (by decide)) (hb.y.mono (by decide))) ai))
    (af (sA (n:=18) (c:=0) (u:=(a.y.cmp b.y)) (b:=false) (t:=3) rfl (jK (mt (bx ga.y gb.y).1 c1))) (aj)) Tryz.func27 (by kernel_rfl) ⟨(ah (xs:=kZ a b) (ks:=[0,1,2]) (vs:=[a.x,a.y,a.z]) ⟨rfl,rfl,rfl,trivial⟩).2 ia,⟨(ah (xs:=kZ a b) (ks:=[3,4,5]) (vs:=[b.x,b.y,b.z]) ⟨rfl,rfl,rfl,trivial⟩).2 ib,trivial⟩⟩).mono ?_
   rintro e w' ⟨v,rfl,h1,h2⟩;exact⟨congrArg Ending.returned h1,h2⟩
 ·refine(cRn (ρ:=frs (lf a b)++([.val (.int .i64 (a.x.cmp b.x))]:List Vp)) (args:=[row [0,1,2],row [3,4,5]]) (vs:=[va,vb]) (r:=.v (.one (.b false)))
   (ae (bz (i:=0) (j:=3) rfl rfl (lr (n:=18) rfl) (ha.x.mono (by decide)) (hb.x.mono (by decide))) ai)
   (af (sA (n:=18) (c:=0) (u:=(a.x.cmp b.x)) (b:=false) (t:=3) rfl (jK (mt (bx ga.x gb.x).1 c0))) (aj)) Tryz.func27 (by kernel_rfl) ⟨(ah (xs:=lf a b) (ks:=[0,1,2]) (vs:=[a.x,a.y,a.z]) ⟨rfl,rfl,rfl,trivial⟩).2 ia,⟨(ah (xs:=lf a b) (ks:=[3,4,5]) (vs:=[b.x,b.y,b.z]) ⟨rfl,rfl,rfl,trivial⟩).2 ib,trivial⟩⟩).mono ?_
  rintro e w' ⟨v,rfl,h1,h2⟩;exact⟨congrArg Ending.returned h1,h2⟩
theorem aag {xs:List Fq} {ys:Rho} {ka:List Nat} {kb:List Nat} {a:Vq} {b:Vq} (aa:AtL xs ka [a.x,a.y,a.z]) (ab:AtL xs kb [b.x,b.y,b.z]) (ha:a.ok 100000000) (hb:b.ok 100000000) (e0:a≠b) (ga:a.good) (gb:b.good):OkI xs ys ⟨27,[row ka,row kb],.v (.one (.b false))⟩:=
 ⟨aA Tryz.func27 rfl rfl,fun B w vs hB h=>by
  match vs,h with
  | [va,vb],h=>
   refine(aaf va vb a b w ((ah aa).1 h.1) ((ah ab).1 h.2.1) ha hb e0 ga gb).mono ?_;rintro e w' ⟨rfl,h2⟩;exact⟨_,rfl,rfl,h2⟩⟩
def mB (a:Vq) (b:Vq) (k:Fq):List Fq:=[a.x,a.y,a.z,b.x,b.y,b.z,k,(b.sub a).x,(b.sub a).y,(b.sub a).z,((b.sub a).scale k).x,((b.sub a).scale k).y,((b.sub a).scale k).z,(a.add ((b.sub a).scale k)).x,(a.add ((b.sub a).scale k)).y,(a.add ((b.sub a).scale k)).z]
theorem q_vLerp (va vb vk:Value) (a:Vq) (b:Vq) (k:Fq) (w:World) (ia:dI w va a) (ib:dI w vb b) (ik:IsQ w vk k) (ha:a.ok 10000000) (hb:b.ok 10000000) (hk:k.ok 10000000):
  Calls Tryz.prog 217 #[va,vb,vk] w fun e w'=>fB w (a.lerp b k) e w':=by
 refine(cRn (ρ:=frs (mB a b k)++ []) (args:=[row [0,1,2],row [3,4,5],fr 6]) (vs:=[va,vb,vk]) (r:=.v (row [13,14,15]))
  (ae (I_vSub (ka:=[3,4,5]) (a:=b) (kb:=[0,1,2]) (b:=a) (kr:=[7,8,9]) ⟨rfl,rfl,rfl,trivial⟩ ⟨rfl,rfl,rfl,trivial⟩ ⟨rfl,rfl,rfl,trivial⟩ (hb.mono (by decide)) (ha.mono (by decide))) (ae (dv (ka:=[7,8,9]) (a:=(b.sub a)) (ik:=6) (kr:=[10,11,12]) ⟨rfl,rfl,rfl,trivial⟩ rfl ⟨rfl,rfl,rfl,trivial⟩ ((hb.sub ha).mono (by decide)) (hk.mono (by decide))) (ae (nD (ka:=[0,1,2]) (a:=a) (kb:=[10,11,12]) (b:=((b.sub a).scale k)) (kr:=[13,14,15]) ⟨rfl,rfl,rfl,trivial⟩ ⟨rfl,rfl,rfl,trivial⟩ ⟨rfl,rfl,rfl,trivial⟩ (ha.mono (by decide)) (((hb.sub ha).scale hk).mono (by decide))) ai)))
  aj Tryz.func217 (by kernel_rfl) ⟨(ah (xs:=mB a b k) (ks:=[0,1,2]) (vs:=[a.x,a.y,a.z]) ⟨rfl,rfl,rfl,trivial⟩).2 ia,⟨(ah (xs:=mB a b k) (ks:=[3,4,5]) (vs:=[b.x,b.y,b.z]) ⟨rfl,rfl,rfl,trivial⟩).2 ib,⟨(aK (xs:=mB a b k) (k:=6) rfl).2 ik,trivial⟩⟩⟩).mono ?_
 rintro e w' ⟨v,rfl,h1,h2⟩;exact⟨v,rfl,(ah (xs:=mB a b k) (ks:=[13,14,15]) (vs:=[(a.add ((b.sub a).scale k)).x,(a.add ((b.sub a).scale k)).y,(a.add ((b.sub a).scale k)).z]) ⟨rfl,rfl,rfl,trivial⟩).1 h1,h2⟩
theorem I_vLerp {xs:List Fq} {ys:Rho} {ka:List Nat} {kb:List Nat} {ik:Nat} {a:Vq} {b:Vq} {k:Fq} {kr:List Nat} (aa:AtL xs ka [a.x,a.y,a.z]) (ab:AtL xs kb [b.x,b.y,b.z]) (ak:xs[ik]? =some k) (ar:AtL xs kr [(a.lerp b k).x,(a.lerp b k).y,(a.lerp b k).z]) (ha:a.ok 10000000) (hb:b.ok 10000000) (hk:k.ok 10000000):OkI xs ys ⟨217,[row ka,row kb,fr ik],.v (row kr)⟩:=
 ⟨aA Tryz.func217 rfl rfl,fun B w vs hB h=>by
  match vs,h with
  | [va,vb,vk],h=>
   refine(q_vLerp va vb vk a b k w ((ah aa).1 h.1) ((ah ab).1 h.2.1) ((aK ak).1 h.2.2.1) ha hb hk).mono ?_;rintro e w' ⟨v,rfl,h1,h2⟩;exact⟨v,rfl,(ah ar).2 h1,h2⟩⟩
def uL (a:Vq):List Fq:=[a.x,a.y,a.z]
theorem q_vValid (va:Value) (a:Vq) (w:World) (ia:dI w va a) (ha:a.ok 1000000) (ga:a.good):
  Calls Tryz.prog 182 #[va] w fun e w'=>cK w (.bool true) e w':=by
 refine(cRn (ρ:=frs (uL a)++ []) (args:=[row [0,1,2]]) (vs:=[va]) (r:=.v (.one (.b true)))
  (ae (aL (i:=0) (l:=.b true) rfl (lb ga.x) (ha.x.mono (by decide))) (ae (aL (i:=1) (l:=.b true) rfl (lb ga.y) (ha.y.mono (by decide))) (ae (aL (i:=2) (l:=.b true) rfl (lb ga.z) (ha.z.mono (by decide))) ai)))
  aj Tryz.func182 (by kernel_rfl) ⟨(ah (xs:=uL a) (ks:=[0,1,2]) (vs:=[a.x,a.y,a.z]) ⟨rfl,rfl,rfl,trivial⟩).2 ia,trivial⟩).mono ?_
 rintro e w' ⟨v,rfl,h1,h2⟩;exact⟨congrArg Ending.returned h1,h2⟩
theorem I_vValid {xs:List Fq} {ys:Rho} {ka:List Nat} {a:Vq} (aa:AtL xs ka [a.x,a.y,a.z]) (ha:a.ok 1000000) (ga:a.good):OkI xs ys ⟨182,[row ka],.v (.one (.b true))⟩:=
 ⟨aA Tryz.func182 rfl rfl,fun B w vs hB h=>by
  match vs,h with
  | [va],h=>
   refine(q_vValid va a w ((ah aa).1 h.1) ha ga).mono ?_;rintro e w' ⟨rfl,h2⟩;exact⟨_,rfl,rfl,h2⟩⟩
def lh (a:Vq) (b:Vq):List Fq:=[a.x,a.y,a.z,b.x,b.y,b.z]
theorem wU (va vb:Value) (a:Vq) (b:Vq) (w:World) (ia:dI w va a) (ib:dI w vb b) (ha:a.ok 1000000000) (hb:b.ok 1000000000) (e0:a=b):
  Calls Tryz.prog 65 #[va,vb] w fun e w'=>cK w (.bool true) e w':=by
 refine(cRn (ρ:=frs (lh a b)++ []) (args:=[row [0,1,2],row [3,4,5]]) (vs:=[va,vb]) (r:=.v (.one (.b true)))
  (ae (ie (i:=0) (j:=3) (l:=.b true) rfl rfl (lb (Fq.same_iff.2 (congrArg Vq.x e0))) (ha.x.mono (by decide)).p (ha.x.mono (by decide)).q (hb.x.mono (by decide)).p (hb.x.mono (by decide)).q) (ae (ie (i:=1) (j:=4) (l:=.b true) rfl rfl (lb (Fq.same_iff.2 (congrArg Vq.y e0))) (ha.y.mono (by decide)).p (ha.y.mono (by decide)).q (hb.y.mono (by decide)).p (hb.y.mono (by decide)).q) (ae (ie (i:=2) (j:=5) (l:=.b true) rfl rfl (lb (Fq.same_iff.2 (congrArg Vq.z e0))) (ha.z.mono (by decide)).p (ha.z.mono (by decide)).q (hb.z.mono (by decide)).p (hb.z.mono (by decide)).q) ai)))
  aj Tryz.func65 (by kernel_rfl) ⟨(ah (xs:=lh a b) (ks:=[0,1,2]) (vs:=[a.x,a.y,a.z]) ⟨rfl,rfl,rfl,trivial⟩).2 ia,⟨(ah (xs:=lh a b) (ks:=[3,4,5]) (vs:=[b.x,b.y,b.z]) ⟨rfl,rfl,rfl,trivial⟩).2 ib,trivial⟩⟩).mono ?_
 rintro e w' ⟨v,rfl,h1,h2⟩;exact⟨congrArg Ending.returned h1,h2⟩
theorem wV {xs:List Fq} {ys:Rho} {ka:List Nat} {kb:List Nat} {a:Vq} {b:Vq} (aa:AtL xs ka [a.x,a.y,a.z]) (ab:AtL xs kb [b.x,b.y,b.z]) (ha:a.ok 1000000000) (hb:b.ok 1000000000) (e0:a=b):OkI xs ys ⟨65,[row ka,row kb],.v (.one (.b true))⟩:=
 ⟨aA Tryz.func65 rfl rfl,fun B w vs hB h=>by
  match vs,h with
  | [va,vb],h=>
   refine(wU va vb a b w ((ah aa).1 h.1) ((ah ab).1 h.2.1) ha hb e0).mono ?_;rintro e w' ⟨rfl,h2⟩;exact⟨_,rfl,rfl,h2⟩⟩
def rB:List Fq:=[(Fq.ofInt 0)]
theorem aah (w:World):
  Calls Tryz.prog 23 #[.int .i64 (0),.int .i64 (0),.int .i64 (0)] w fun e w'=>fB w (Vq.of 0 0 0) e w':=by
 refine(cRn (ρ:=frs (rB)++ []) (args:=[.one (.i .i64 0),.one (.i .i64 0),.one (.i .i64 0)]) (vs:=[.int .i64 (0),.int .i64 (0),.int .i64 (0)]) (r:=.v (row [0,0,0]))
  (ae (dg (k:=0) rfl (by decide) (by decide)) ai)
  aj Tryz.func23 (by kernel_rfl) ⟨rfl,⟨rfl,⟨rfl,trivial⟩⟩⟩).mono ?_
 rintro e w' ⟨v,rfl,h1,h2⟩;exact⟨v,rfl,(ah (xs:=rB) (ks:=[0,0,0]) (vs:=[(Fq.ofInt 0),(Fq.ofInt 0),(Fq.ofInt 0)]) ⟨rfl,rfl,rfl,trivial⟩).1 h1,h2⟩
theorem aai {xs:List Fq} {ys:Rho} {kr:List Nat} (ar:AtL xs kr [(Vq.of 0 0 0).x,(Vq.of 0 0 0).y,(Vq.of 0 0 0).z]):OkI xs ys ⟨23,[.one (.i .i64 0),.one (.i .i64 0),.one (.i .i64 0)],.v (row kr)⟩:=
 ⟨aA Tryz.func23 rfl rfl,fun B w vs hB h=>by
  match vs,h with
  | [vx,vy,vz],h=>
   have ex:vx= .int .i64 (0):=h.1;subst ex;have ey:vy= .int .i64 (0):=h.2.1;subst ey;have ez:vz= .int .i64 (0):=h.2.2.1;subst ez;refine(aah w).mono ?_;rintro e w' ⟨v,rfl,h1,h2⟩;exact⟨v,rfl,(ah ar).2 h1,h2⟩⟩
def rC:List Fq:=[(Fq.ofInt 0)]
theorem aaj (w:World):
  Calls Tryz.prog 64 #[.int .i64 (0),.int .i64 (0),.int .i64 (0)] w fun e w'=>fB w (Vq.of 0 0 0) e w':=by
 refine(cRn (ρ:=frs (rC)++ []) (args:=[.one (.i .i64 0),.one (.i .i64 0),.one (.i .i64 0)]) (vs:=[.int .i64 (0),.int .i64 (0),.int .i64 (0)]) (r:=.v (row [0,0,0]))
  (ae (sH (k:=0) rfl (by decide) (by decide)) ai)
  aj Tryz.func64 (by kernel_rfl) ⟨rfl,⟨rfl,⟨rfl,trivial⟩⟩⟩).mono ?_
 rintro e w' ⟨v,rfl,h1,h2⟩;exact⟨v,rfl,(ah (xs:=rC) (ks:=[0,0,0]) (vs:=[(Fq.ofInt 0),(Fq.ofInt 0),(Fq.ofInt 0)]) ⟨rfl,rfl,rfl,trivial⟩).1 h1,h2⟩
theorem aak {xs:List Fq} {ys:Rho} {kr:List Nat} (ar:AtL xs kr [(Vq.of 0 0 0).x,(Vq.of 0 0 0).y,(Vq.of 0 0 0).z]):OkI xs ys ⟨64,[.one (.i .i64 0),.one (.i .i64 0),.one (.i .i64 0)],.v (row kr)⟩:=
 ⟨aA Tryz.func64 rfl rfl,fun B w vs hB h=>by
  match vs,h with
  | [vx,vy,vz],h=>
   have ex:vx= .int .i64 (0):=h.1;subst ex;have ey:vy= .int .i64 (0):=h.2.1;subst ey;have ez:vz= .int .i64 (0):=h.2.2.1;subst ez;refine(aaj w).mono ?_;rintro e w' ⟨v,rfl,h1,h2⟩;exact⟨v,rfl,(ah ar).2 h1,h2⟩⟩
def wW (a:Pq):List Fq:=a.cs
theorem q_poOf (va:Value) (a:Pq) (w:World) (ia:bu w va a) (ha:a.ok 1000000000):
  Calls Tryz.prog 76 #[va] w fun e w'=>iK w a e w':=by
 refine(cRn (ρ:=frs (wW a)++ []) (args:=[row [0,1,2,3,4,5,6]]) (vs:=[va]) (r:=.v (row [0,1,2,3,4,5,6]))
  (ai)
  aj Tryz.func76 (by kernel_rfl) ⟨(ah (xs:=wW a) (ks:=[0,1,2,3,4,5,6]) (vs:=a.cs) ⟨rfl,rfl,rfl,rfl,rfl,rfl,rfl,trivial⟩).2 ia,trivial⟩).mono ?_
 rintro e w' ⟨v,rfl,h1,h2⟩;exact⟨v,rfl,(ah (xs:=wW a) (ks:=[0,1,2,3,4,5,6]) (vs:=a.cs) ⟨rfl,rfl,rfl,rfl,rfl,rfl,rfl,trivial⟩).1 h1,h2⟩
theorem I_poOf {xs:List Fq} {ys:Rho} {ka:List Nat} {a:Pq} {kr:List Nat} (aa:AtL xs ka a.cs) (ar:AtL xs kr a.cs) (ha:a.ok 1000000000):OkI xs ys ⟨76,[row ka],.v (row kr)⟩:=
 ⟨aA Tryz.func76 rfl rfl,fun B w vs hB h=>by
  match vs,h with
  | [va],h=>
   refine(q_poOf va a w ((ah aa).1 h.1) ha).mono ?_;rintro e w' ⟨v,rfl,h1,h2⟩;exact⟨v,rfl,(ah ar).2 h1,h2⟩⟩
def pP (a:Pq):List Fq:=a.cs
theorem q_poPose (va:Value) (a:Pq) (w:World) (ia:bu w va a) (ha:a.ok 1000000000):
  Calls Tryz.prog 78 #[va] w fun e w'=>iK w a e w':=by
 refine(cRn (ρ:=frs (pP a)++ []) (args:=[row [0,1,2,3,4,5,6]]) (vs:=[va]) (r:=.v (row [0,1,2,3,4,5,6]))
  (ai)
  aj Tryz.func78 (by kernel_rfl) ⟨(ah (xs:=pP a) (ks:=[0,1,2,3,4,5,6]) (vs:=a.cs) ⟨rfl,rfl,rfl,rfl,rfl,rfl,rfl,trivial⟩).2 ia,trivial⟩).mono ?_
 rintro e w' ⟨v,rfl,h1,h2⟩;exact⟨v,rfl,(ah (xs:=pP a) (ks:=[0,1,2,3,4,5,6]) (vs:=a.cs) ⟨rfl,rfl,rfl,rfl,rfl,rfl,rfl,trivial⟩).1 h1,h2⟩
theorem mC {xs:List Fq} {ys:Rho} {ka:List Nat} {a:Pq} {kr:List Nat} (aa:AtL xs ka a.cs) (ar:AtL xs kr a.cs) (ha:a.ok 1000000000):OkI xs ys ⟨78,[row ka],.v (row kr)⟩:=
 ⟨aA Tryz.func78 rfl rfl,fun B w vs hB h=>by
  match vs,h with
  | [va],h=>
   refine(q_poPose va a w ((ah aa).1 h.1) ha).mono ?_;rintro e w' ⟨v,rfl,h1,h2⟩;exact⟨v,rfl,(ah ar).2 h1,h2⟩⟩
def oT (q:Qq) (a:Vq):List Fq:=(q.cs++([a.x,a.y,a.z,(q.app a).x,(q.app a).y,(q.app a).z]))
theorem q_poRot (vq va:Value) (q:Qq) (a:Vq) (w:World) (iq:eZ w vq q) (ia:dI w va a) (hq:q.ok 300000) (ha:a.ok 300000) (gq:q.good):
  Calls Tryz.prog 117 #[vq,va] w fun e w'=>fB w (q.app a) e w':=by
 refine(cRn (ρ:=frs (oT q a)++ []) (args:=[row [0,1,2,3],row [4,5,6]]) (vs:=[vq,va]) (r:=.v (row [7,8,9]))
  (ae (I_fApp (kq:=[0,1,2,3]) (q:=q) (ka:=[4,5,6]) (a:=a) (kr:=[7,8,9]) ⟨rfl,rfl,rfl,rfl,trivial⟩ ⟨rfl,rfl,rfl,trivial⟩ ⟨rfl,rfl,rfl,trivial⟩ (hq.mono (by decide)) (ha.mono (by decide)) gq) ai)
  aj Tryz.func117 (by kernel_rfl) ⟨(ah (xs:=oT q a) (ks:=[0,1,2,3]) (vs:=q.cs) ⟨rfl,rfl,rfl,rfl,trivial⟩).2 iq,⟨(ah (xs:=oT q a) (ks:=[4,5,6]) (vs:=[a.x,a.y,a.z]) ⟨rfl,rfl,rfl,trivial⟩).2 ia,trivial⟩⟩).mono ?_
 rintro e w' ⟨v,rfl,h1,h2⟩;exact⟨v,rfl,(ah (xs:=oT q a) (ks:=[7,8,9]) (vs:=[(q.app a).x,(q.app a).y,(q.app a).z]) ⟨rfl,rfl,rfl,trivial⟩).1 h1,h2⟩
theorem yK {xs:List Fq} {ys:Rho} {kq:List Nat} {ka:List Nat} {q:Qq} {a:Vq} {kr:List Nat} (aq:AtL xs kq q.cs) (aa:AtL xs ka [a.x,a.y,a.z]) (ar:AtL xs kr [(q.app a).x,(q.app a).y,(q.app a).z]) (hq:q.ok 300000) (ha:a.ok 300000) (gq:q.good):OkI xs ys ⟨117,[row kq,row ka],.v (row kr)⟩:=
 ⟨aA Tryz.func117 rfl rfl,fun B w vs hB h=>by
  match vs,h with
  | [vq,va],h=>
   refine(q_poRot vq va q a w ((ah aq).1 h.1) ((ah aa).1 h.2.1) hq ha gq).mono ?_;rintro e w' ⟨v,rfl,h1,h2⟩;exact⟨v,rfl,(ah ar).2 h1,h2⟩⟩
def pQ (q:Qq):List Fq:=(q.cs++(q.inv.cs))
theorem q_poBack (vq:Value) (q:Qq) (w:World) (iq:eZ w vq q) (hq:q.ok 100000) (gq:q.good):
  Calls Tryz.prog 116 #[vq] w fun e w'=>oe w q.inv e w':=by
 refine(cRn (ρ:=frs (pQ q)++ []) (args:=[row [0,1,2,3]]) (vs:=[vq]) (r:=.v (row [4,5,6,7]))
  (ae (sQ (kq:=[0,1,2,3]) (q:=q) (kr:=[4,5,6,7]) ⟨rfl,rfl,rfl,rfl,trivial⟩ ⟨rfl,rfl,rfl,rfl,trivial⟩ (hq.mono (by decide)) gq) ai)
  aj Tryz.func116 (by kernel_rfl) ⟨(ah (xs:=pQ q) (ks:=[0,1,2,3]) (vs:=q.cs) ⟨rfl,rfl,rfl,rfl,trivial⟩).2 iq,trivial⟩).mono ?_
 rintro e w' ⟨v,rfl,h1,h2⟩;exact⟨v,rfl,(ah (xs:=pQ q) (ks:=[4,5,6,7]) (vs:=q.inv.cs) ⟨rfl,rfl,rfl,rfl,trivial⟩).1 h1,h2⟩
theorem I_poBack {xs:List Fq} {ys:Rho} {kq:List Nat} {q:Qq} {kr:List Nat} (aq:AtL xs kq q.cs) (ar:AtL xs kr q.inv.cs) (hq:q.ok 100000) (gq:q.good):OkI xs ys ⟨116,[row kq],.v (row kr)⟩:=
 ⟨aA Tryz.func116 rfl rfl,fun B w vs hB h=>by
  match vs,h with
  | [vq],h=>
   refine(q_poBack vq q w ((ah aq).1 h.1) hq gq).mono ?_;rintro e w' ⟨v,rfl,h1,h2⟩;exact⟨v,rfl,(ah ar).2 h1,h2⟩⟩
def oU (a:Pq) (x:Vq):List Fq:=(a.cs++([x.x,x.y,x.z,(a.rot.app x).x,(a.rot.app x).y,(a.rot.app x).z,((a.rot.app x).add a.pos).x,((a.rot.app x).add a.pos).y,((a.rot.app x).add a.pos).z]))
theorem q_poImg (va vx:Value) (a:Pq) (x:Vq) (w:World) (ia:bu w va a) (ix:dI w vx x) (ha:a.ok 100000) (hx:x.ok 100000) (ga:a.good) (gx:x.good):
  Calls Tryz.prog 77 #[va,vx] w fun e w'=>fB w (a.app x) e w':=by
 refine(cRn (ρ:=frs (oU a x)++ []) (args:=[row [0,1,2,3,4,5,6],row [7,8,9]]) (vs:=[va,vx]) (r:=.v (row [13,14,15]))
  (ae (yK (kq:=[0,1,2,3]) (q:=a.rot) (ka:=[7,8,9]) (a:=x) (kr:=[10,11,12]) ⟨rfl,rfl,rfl,rfl,trivial⟩ ⟨rfl,rfl,rfl,trivial⟩ ⟨rfl,rfl,rfl,trivial⟩ (ha.rot.mono (by decide)) (hx.mono (by decide)) ga.rot) (ae (nD (ka:=[10,11,12]) (a:=(a.rot.app x)) (kb:=[4,5,6]) (b:=a.pos) (kr:=[13,14,15]) ⟨rfl,rfl,rfl,trivial⟩ ⟨rfl,rfl,rfl,trivial⟩ ⟨rfl,rfl,rfl,trivial⟩ ((ha.rot.app hx ga.rot).mono (by decide)) (ha.pos.mono (by decide))) ai))
  aj Tryz.func77 (by kernel_rfl) ⟨(ah (xs:=oU a x) (ks:=[0,1,2,3,4,5,6]) (vs:=a.cs) ⟨rfl,rfl,rfl,rfl,rfl,rfl,rfl,trivial⟩).2 ia,⟨(ah (xs:=oU a x) (ks:=[7,8,9]) (vs:=[x.x,x.y,x.z]) ⟨rfl,rfl,rfl,trivial⟩).2 ix,trivial⟩⟩).mono ?_
 rintro e w' ⟨v,rfl,h1,h2⟩;exact⟨v,rfl,(ah (xs:=oU a x) (ks:=[13,14,15]) (vs:=[((a.rot.app x).add a.pos).x,((a.rot.app x).add a.pos).y,((a.rot.app x).add a.pos).z]) ⟨rfl,rfl,rfl,trivial⟩).1 h1,h2⟩
theorem I_poImg {xs:List Fq} {ys:Rho} {ka:List Nat} {kx:List Nat} {a:Pq} {x:Vq} {kr:List Nat} (aa:AtL xs ka a.cs) (ax:AtL xs kx [x.x,x.y,x.z]) (ar:AtL xs kr [(a.app x).x,(a.app x).y,(a.app x).z]) (ha:a.ok 100000) (hx:x.ok 100000) (ga:a.good) (gx:x.good):OkI xs ys ⟨77,[row ka,row kx],.v (row kr)⟩:=
 ⟨aA Tryz.func77 rfl rfl,fun B w vs hB h=>by
  match vs,h with
  | [va,vx],h=>
   refine(q_poImg va vx a x w ((ah aa).1 h.1) ((ah ax).1 h.2.1) ha hx ga gx).mono ?_;rintro e w' ⟨v,rfl,h1,h2⟩;exact⟨v,rfl,(ah ar).2 h1,h2⟩⟩
def oV (a:Pq) (b:Pq):List Fq:=(a.cs++(b.cs++((a.rot.mul b.rot).cs++([(a.app b.pos).x,(a.app b.pos).y,(a.app b.pos).z]))))
theorem oW (va vb:Value) (a:Pq) (b:Pq) (w:World) (ia:bu w va a) (ib:bu w vb b) (ha:a.ok 100000) (hb:b.ok 100000) (ga:a.good) (gb:b.good):
  Calls Tryz.prog 21 #[va,vb] w fun e w'=>iK w (a.mul b) e w':=by
 refine(cRn (ρ:=frs (oV a b)++ []) (args:=[row [0,1,2,3,4,5,6],row [7,8,9,10,11,12,13]]) (vs:=[va,vb]) (r:=.v (row [14,15,16,17,18,19,20]))
  (ae (oR (kp:=[0,1,2,3]) (p:=a.rot) (kq:=[7,8,9,10]) (q:=b.rot) (kr:=[14,15,16,17]) ⟨rfl,rfl,rfl,rfl,trivial⟩ ⟨rfl,rfl,rfl,rfl,trivial⟩ ⟨rfl,rfl,rfl,rfl,trivial⟩ (ha.rot.mono (by decide)) (hb.rot.mono (by decide)) ga.rot gb.rot) (ae (I_poOf (ka:=[0,1,2,3,4,5,6]) (a:=a) (kr:=[0,1,2,3,4,5,6]) ⟨rfl,rfl,rfl,rfl,rfl,rfl,rfl,trivial⟩ ⟨rfl,rfl,rfl,rfl,rfl,rfl,rfl,trivial⟩ (ha.mono (by decide))) (ae (I_poImg (ka:=[0,1,2,3,4,5,6]) (a:=a) (kx:=[11,12,13]) (x:=b.pos) (kr:=[18,19,20]) ⟨rfl,rfl,rfl,rfl,rfl,rfl,rfl,trivial⟩ ⟨rfl,rfl,rfl,trivial⟩ ⟨rfl,rfl,rfl,trivial⟩ (ha.mono (by decide)) (hb.pos.mono (by decide)) ga gb.pos) (ae (mC (ka:=[14,15,16,17,18,19,20]) (a:=(Pq.mk (a.rot.mul b.rot) (a.app b.pos))) (kr:=[14,15,16,17,18,19,20]) ⟨rfl,rfl,rfl,rfl,rfl,rfl,rfl,trivial⟩ ⟨rfl,rfl,rfl,rfl,rfl,rfl,rfl,trivial⟩ (⟨⟨(ha.rot.mulg hb.rot ga.rot gb.rot).w.mono (by decide),(ha.rot.mulg hb.rot ga.rot gb.rot).x.mono (by decide),(ha.rot.mulg hb.rot ga.rot gb.rot).y.mono (by decide),(ha.rot.mulg hb.rot ga.rot gb.rot).z.mono (by decide)⟩,⟨(ha.app hb.pos ga).x.mono (by decide),(ha.app hb.pos ga).y.mono (by decide),(ha.app hb.pos ga).z.mono (by decide)⟩⟩:Pq.ok 1000000000 (Pq.mk (a.rot.mul b.rot) (a.app b.pos)))) ai))))
  aj Tryz.func21 (by kernel_rfl) ⟨(ah (xs:=oV a b) (ks:=[0,1,2,3,4,5,6]) (vs:=a.cs) ⟨rfl,rfl,rfl,rfl,rfl,rfl,rfl,trivial⟩).2 ia,⟨(ah (xs:=oV a b) (ks:=[7,8,9,10,11,12,13]) (vs:=b.cs) ⟨rfl,rfl,rfl,rfl,rfl,rfl,rfl,trivial⟩).2 ib,trivial⟩⟩).mono ?_
 rintro e w' ⟨v,rfl,h1,h2⟩;exact⟨v,rfl,(ah (xs:=oV a b) (ks:=[14,15,16,17,18,19,20]) (vs:=((a.rot.mul b.rot).cs++([(a.app b.pos).x,(a.app b.pos).y,(a.app b.pos).z]))) ⟨rfl,rfl,rfl,rfl,rfl,rfl,rfl,trivial⟩).1 h1,h2⟩
theorem I_poMul {xs:List Fq} {ys:Rho} {ka:List Nat} {kb:List Nat} {a:Pq} {b:Pq} {kr:List Nat} (aa:AtL xs ka a.cs) (ab:AtL xs kb b.cs) (ar:AtL xs kr (a.mul b).cs) (ha:a.ok 100000) (hb:b.ok 100000) (ga:a.good) (gb:b.good):OkI xs ys ⟨21,[row ka,row kb],.v (row kr)⟩:=
 ⟨aA Tryz.func21 rfl rfl,fun B w vs hB h=>by
  match vs,h with
  | [va,vb],h=>
   refine(oW va vb a b w ((ah aa).1 h.1) ((ah ab).1 h.2.1) ha hb ga gb).mono ?_;rintro e w' ⟨v,rfl,h1,h2⟩;exact⟨v,rfl,(ah ar).2 h1,h2⟩⟩
def sV (a:Pq):List Fq:=(a.cs++(a.rot.inv.cs++([(Fq.ofInt (-1)),(a.pos.scale (Fq.ofInt (-1))).x,(a.pos.scale (Fq.ofInt (-1))).y,(a.pos.scale (Fq.ofInt (-1))).z,(a.rot.inv.app (a.pos.scale (Fq.ofInt (-1)))).x,(a.rot.inv.app (a.pos.scale (Fq.ofInt (-1)))).y,(a.rot.inv.app (a.pos.scale (Fq.ofInt (-1)))).z])))
theorem yL (va:Value) (a:Pq) (w:World) (ia:bu w va a) (ha:a.ok 100000) (ga:a.good):
  Calls Tryz.prog 56 #[va] w fun e w'=>iK w a.inv e w':=by
 refine(cRn (ρ:=frs (sV a)++ []) (args:=[row [0,1,2,3,4,5,6]]) (vs:=[va]) (r:=.v (row [7,8,9,10,15,16,17]))
  (ae (I_poOf (ka:=[0,1,2,3,4,5,6]) (a:=a) (kr:=[0,1,2,3,4,5,6]) ⟨rfl,rfl,rfl,rfl,rfl,rfl,rfl,trivial⟩ ⟨rfl,rfl,rfl,rfl,rfl,rfl,rfl,trivial⟩ (ha.mono (by decide))) (ae (I_poBack (kq:=[0,1,2,3]) (q:=a.rot) (kr:=[7,8,9,10]) ⟨rfl,rfl,rfl,rfl,trivial⟩ ⟨rfl,rfl,rfl,rfl,trivial⟩ (ha.rot.mono (by decide)) ga.rot) (ae (dg (k:=11) rfl (by decide) (by decide)) (ae (dv (ka:=[4,5,6]) (a:=a.pos) (ik:=11) (kr:=[12,13,14]) ⟨rfl,rfl,rfl,trivial⟩ rfl ⟨rfl,rfl,rfl,trivial⟩ (ha.pos.mono (by decide)) ((aO (u:= -1) (by decide) (by decide)).mono (by decide))) (ae (yK (kq:=[7,8,9,10]) (q:=a.rot.inv) (ka:=[12,13,14]) (a:=(a.pos.scale (Fq.ofInt (-1)))) (kr:=[15,16,17]) ⟨rfl,rfl,rfl,rfl,trivial⟩ ⟨rfl,rfl,rfl,trivial⟩ ⟨rfl,rfl,rfl,trivial⟩ ((ha.rot.inv ga.rot).mono (by decide)) ((ha.pos.scale (aO (u:= -1) (by decide) (by decide))).mono (by decide)) (aX ga.rot)) (ae (mC (ka:=[7,8,9,10,15,16,17]) (a:=(Pq.mk a.rot.inv (a.rot.inv.app (a.pos.scale (Fq.ofInt (-1)))))) (kr:=[7,8,9,10,15,16,17]) ⟨rfl,rfl,rfl,rfl,rfl,rfl,rfl,trivial⟩ ⟨rfl,rfl,rfl,rfl,rfl,rfl,rfl,trivial⟩ (⟨⟨(ha.rot.inv ga.rot).w.mono (by decide),(ha.rot.inv ga.rot).x.mono (by decide),(ha.rot.inv ga.rot).y.mono (by decide),(ha.rot.inv ga.rot).z.mono (by decide)⟩,⟨((ha.rot.inv ga.rot).app (ha.pos.scale (aO (u:= -1) (by decide) (by decide))) (aX ga.rot)).x.mono (by decide),((ha.rot.inv ga.rot).app (ha.pos.scale (aO (u:= -1) (by decide) (by decide))) (aX ga.rot)).y.mono (by decide),((ha.rot.inv ga.rot).app (ha.pos.scale (aO (u:= -1) (by decide) (by decide))) (aX ga.rot)).z.mono (by decide)⟩⟩:Pq.ok 1000000000 (Pq.mk a.rot.inv (a.rot.inv.app (a.pos.scale (Fq.ofInt (-1))))))) ai))))))
  aj Tryz.func56 (by kernel_rfl) ⟨(ah (xs:=sV a) (ks:=[0,1,2,3,4,5,6]) (vs:=a.cs) ⟨rfl,rfl,rfl,rfl,rfl,rfl,rfl,trivial⟩).2 ia,trivial⟩).mono ?_
 rintro e w' ⟨v,rfl,h1,h2⟩;exact⟨v,rfl,(ah (xs:=sV a) (ks:=[7,8,9,10,15,16,17]) (vs:=(a.rot.inv.cs++([(a.rot.inv.app (a.pos.scale (Fq.ofInt (-1)))).x,(a.rot.inv.app (a.pos.scale (Fq.ofInt (-1)))).y,(a.rot.inv.app (a.pos.scale (Fq.ofInt (-1)))).z]))) ⟨rfl,rfl,rfl,rfl,rfl,rfl,rfl,trivial⟩).1 h1,h2⟩
theorem yM {xs:List Fq} {ys:Rho} {ka:List Nat} {a:Pq} {kr:List Nat} (aa:AtL xs ka a.cs) (ar:AtL xs kr a.inv.cs) (ha:a.ok 100000) (ga:a.good):OkI xs ys ⟨56,[row ka],.v (row kr)⟩:=
 ⟨aA Tryz.func56 rfl rfl,fun B w vs hB h=>by
  match vs,h with
  | [va],h=>
   refine(yL va a w ((ah aa).1 h.1) ha ga).mono ?_;rintro e w' ⟨v,rfl,h1,h2⟩;exact⟨v,rfl,(ah ar).2 h1,h2⟩⟩
def xpoIdX:List Fq:=(Qq.id.cs++([(Vq.of 0 0 0).x,(Vq.of 0 0 0).y,(Vq.of 0 0 0).z]))
theorem q_poId (w:World):
  Calls Tryz.prog 22 #[] w fun e w'=>iK w Pq.id e w':=by
 refine(cRn (ρ:=frs (xpoIdX)++ []) (args:=[]) (vs:=[]) (r:=.v (row [0,1,2,3,4,5,6]))
  (ae (I_fId (kr:=[0,1,2,3]) ⟨rfl,rfl,rfl,rfl,trivial⟩) (ae (aai (kr:=[4,5,6]) ⟨rfl,rfl,rfl,trivial⟩) (ae (mC (ka:=[0,1,2,3,4,5,6]) (a:=(Pq.mk Qq.id (Vq.of 0 0 0))) (kr:=[0,1,2,3,4,5,6]) ⟨rfl,rfl,rfl,rfl,rfl,rfl,rfl,trivial⟩ ⟨rfl,rfl,rfl,rfl,rfl,rfl,rfl,trivial⟩ (⟨⟨rA.w.mono (by decide),rA.x.mono (by decide),rA.y.mono (by decide),rA.z.mono (by decide)⟩,⟨(sS (by decide) (by decide) (by decide) (by decide) (by decide) (by decide)).x.mono (by decide),(sS (by decide) (by decide) (by decide) (by decide) (by decide) (by decide)).y.mono (by decide),(sS (by decide) (by decide) (by decide) (by decide) (by decide) (by decide)).z.mono (by decide)⟩⟩:Pq.ok 1000000000 (Pq.mk Qq.id (Vq.of 0 0 0)))) ai)))
  aj Tryz.func22 (by kernel_rfl) trivial).mono ?_
 rintro e w' ⟨v,rfl,h1,h2⟩;exact⟨v,rfl,(ah (xs:=xpoIdX) (ks:=[0,1,2,3,4,5,6]) (vs:=(Qq.id.cs++([(Vq.of 0 0 0).x,(Vq.of 0 0 0).y,(Vq.of 0 0 0).z]))) ⟨rfl,rfl,rfl,rfl,rfl,rfl,rfl,trivial⟩).1 h1,h2⟩
theorem I_poId {xs:List Fq} {ys:Rho} {kr:List Nat} (ar:AtL xs kr Pq.id.cs):OkI xs ys ⟨22,[],.v (row kr)⟩:=
 ⟨aA Tryz.func22 rfl rfl,fun B w vs hB h=>by
  match vs,h with
  | [],h=>
   refine(q_poId w).mono ?_;rintro e w' ⟨v,rfl,h1,h2⟩;exact⟨v,rfl,(ah ar).2 h1,h2⟩⟩
def lj (a:Pq) (b:Pq):List Fq:=(a.cs++(b.cs))
theorem wX (va vb:Value) (a:Pq) (b:Pq) (w:World) (ia:bu w va a) (ib:bu w vb b) (ha:a.ok 100000000) (hb:b.ok 100000000) (e0:a=b) (ga:a.good) (gb:b.good):
  Calls Tryz.prog 55 #[va,vb] w fun e w'=>cK w (.bool true) e w':=by
 refine(cRn (ρ:=frs (lj a b)++ []) (args:=[row [0,1,2,3,4,5,6],row [7,8,9,10,11,12,13]]) (vs:=[va,vb]) (r:=.v (.one (.b true)))
  (ae (rt (ka:=[0,1,2,3]) (a:=a.rot) (kb:=[7,8,9,10]) (b:=b.rot) ⟨rfl,rfl,rfl,rfl,trivial⟩ ⟨rfl,rfl,rfl,rfl,trivial⟩ (ha.rot.mono (by decide)) (hb.rot.mono (by decide)) (congrArg Pq.rot e0) ga.rot.comp gb.rot.comp) (ae (aae (ka:=[4,5,6]) (a:=a.pos) (kb:=[11,12,13]) (b:=b.pos) ⟨rfl,rfl,rfl,trivial⟩ ⟨rfl,rfl,rfl,trivial⟩ (ha.pos.mono (by decide)) (hb.pos.mono (by decide)) (congrArg Pq.pos e0) ga.pos gb.pos) ai))
  aj Tryz.func55 (by kernel_rfl) ⟨(ah (xs:=lj a b) (ks:=[0,1,2,3,4,5,6]) (vs:=a.cs) ⟨rfl,rfl,rfl,rfl,rfl,rfl,rfl,trivial⟩).2 ia,⟨(ah (xs:=lj a b) (ks:=[7,8,9,10,11,12,13]) (vs:=b.cs) ⟨rfl,rfl,rfl,rfl,rfl,rfl,rfl,trivial⟩).2 ib,trivial⟩⟩).mono ?_
 rintro e w' ⟨v,rfl,h1,h2⟩;exact⟨congrArg Ending.returned h1,h2⟩
theorem eh {xs:List Fq} {ys:Rho} {ka:List Nat} {kb:List Nat} {a:Pq} {b:Pq} (aa:AtL xs ka a.cs) (ab:AtL xs kb b.cs) (ha:a.ok 100000000) (hb:b.ok 100000000) (e0:a=b) (ga:a.good) (gb:b.good):OkI xs ys ⟨55,[row ka,row kb],.v (.one (.b true))⟩:=
 ⟨aA Tryz.func55 rfl rfl,fun B w vs hB h=>by
  match vs,h with
  | [va,vb],h=>
   refine(wX va vb a b w ((ah aa).1 h.1) ((ah ab).1 h.2.1) ha hb e0 ga gb).mono ?_;rintro e w' ⟨rfl,h2⟩;exact⟨_,rfl,rfl,h2⟩⟩
def ll (a:Pq) (b:Pq):List Fq:=(a.cs++(b.cs))
def jL (a:Pq) (b:Pq):List Fq:=(a.cs++(b.cs))
theorem wY (va vb:Value) (a:Pq) (b:Pq) (w:World) (ia:bu w va a) (ib:bu w vb b) (ha:a.ok 100000000) (hb:b.ok 100000000) (e0:a≠b) (ga:a.good) (gb:b.good):
  Calls Tryz.prog 55 #[va,vb] w fun e w'=>cK w (.bool false) e w':=by
 by_cases c0:a.rot=b.rot
 ·by_cases c1:a.pos=b.pos
  ·exact absurd (by cases a;cases b;simp only at c0 c1;subst c0 c1;rfl) e0
  ·refine(cRn (ρ:=frs (ll a b)++ []) (args:=[row [0,1,2,3,4,5,6],row [7,8,9,10,11,12,13]]) (vs:=[va,vb]) (r:=.v (.one (.b false)))
    (ae (rt (ka:=[0,1,2,3]) (a:=a.rot) (kb:=[7,8,9,10]) (b:=b.rot) ⟨rfl,rfl,rfl,rfl,trivial⟩ ⟨rfl,rfl,rfl,rfl,trivial⟩ (ha.rot.mono (by decide)) (hb.rot.mono (by decide)) c0 ga.rot.comp gb.rot.comp) (ae (aag (ka:=[4,5,6]) (a:=a.pos) (kb:=[11,12,13]) (b:=b.pos) ⟨rfl,rfl,rfl,trivial⟩ ⟨rfl,rfl,rfl,trivial⟩ (ha.pos.mono (by decide)) (hb.pos.mono (by decide)) c1 ga.pos gb.pos) ai))
    aj Tryz.func55 (by kernel_rfl) ⟨(ah (xs:=ll a b) (ks:=[0,1,2,3,4,5,6]) (vs:=a.cs) ⟨rfl,rfl,rfl,rfl,rfl,rfl,rfl,trivial⟩).2 ia,⟨(ah (xs:=ll a b) (ks:=[7,8,9,10,11,12,13]) (vs:=b.cs) ⟨rfl,rfl,rfl,rfl,rfl,rfl,rfl,trivial⟩).2 ib,trivial⟩⟩).mono ?_
   rintro e w' ⟨v,rfl,h1,h2⟩;exact⟨congrArg Ending.returned h1,h2⟩
 ·refine(cRn (ρ:=frs (jL a b)++ []) (args:=[row [0,1,2,3,4,5,6],row [7,8,9,10,11,12,13]]) (vs:=[va,vb]) (r:=.v (.one (.b false)))
   (ae (aab (ka:=[0,1,2,3]) (a:=a.rot) (kb:=[7,8,9,10]) (b:=b.rot) ⟨rfl,rfl,rfl,rfl,trivial⟩ ⟨rfl,rfl,rfl,rfl,trivial⟩ (ha.rot.mono (by decide)) (hb.rot.mono (by decide)) c0 ga.rot.comp gb.rot.comp) ai)
   aj Tryz.func55 (by kernel_rfl) ⟨(ah (xs:=jL a b) (ks:=[0,1,2,3,4,5,6]) (vs:=a.cs) ⟨rfl,rfl,rfl,rfl,rfl,rfl,rfl,trivial⟩).2 ia,⟨(ah (xs:=jL a b) (ks:=[7,8,9,10,11,12,13]) (vs:=b.cs) ⟨rfl,rfl,rfl,rfl,rfl,rfl,rfl,trivial⟩).2 ib,trivial⟩⟩).mono ?_
  rintro e w' ⟨v,rfl,h1,h2⟩;exact⟨congrArg Ending.returned h1,h2⟩
theorem wZ {xs:List Fq} {ys:Rho} {ka:List Nat} {kb:List Nat} {a:Pq} {b:Pq} (aa:AtL xs ka a.cs) (ab:AtL xs kb b.cs) (ha:a.ok 100000000) (hb:b.ok 100000000) (e0:a≠b) (ga:a.good) (gb:b.good):OkI xs ys ⟨55,[row ka,row kb],.v (.one (.b false))⟩:=
 ⟨aA Tryz.func55 rfl rfl,fun B w vs hB h=>by
  match vs,h with
  | [va,vb],h=>
   refine(wY va vb a b w ((ah aa).1 h.1) ((ah ab).1 h.2.1) ha hb e0 ga gb).mono ?_;rintro e w' ⟨rfl,h2⟩;exact⟨_,rfl,rfl,h2⟩⟩
def rD (a:Pq):List Fq:=a.cs
theorem rE (va:Value) (a:Pq) (w:World) (ia:bu w va a) (ha:a.ok 1000000) (ga:a.good):
  Calls Tryz.prog 122 #[va] w fun e w'=>cK w (.bool true) e w':=by
 refine(cRn (ρ:=frs (rD a)++ []) (args:=[row [0,1,2,3,4,5,6]]) (vs:=[va]) (r:=.v (.one (.b true)))
  (ae (wS (kq:=[0,1,2,3]) (q:=a.rot) ⟨rfl,rfl,rfl,rfl,trivial⟩ (ha.rot.mono (by decide)) ga.rot) (ae (I_vValid (ka:=[4,5,6]) (a:=a.pos) ⟨rfl,rfl,rfl,trivial⟩ (ha.pos.mono (by decide)) ga.pos) ai))
  aj Tryz.func122 (by kernel_rfl) ⟨(ah (xs:=rD a) (ks:=[0,1,2,3,4,5,6]) (vs:=a.cs) ⟨rfl,rfl,rfl,rfl,rfl,rfl,rfl,trivial⟩).2 ia,trivial⟩).mono ?_
 rintro e w' ⟨v,rfl,h1,h2⟩;exact⟨congrArg Ending.returned h1,h2⟩
theorem ci {xs:List Fq} {ys:Rho} {ka:List Nat} {a:Pq} (aa:AtL xs ka a.cs) (ha:a.ok 1000000) (ga:a.good):OkI xs ys ⟨122,[row ka],.v (.one (.b true))⟩:=
 ⟨aA Tryz.func122 rfl rfl,fun B w vs hB h=>by
  match vs,h with
  | [va],h=>
   refine(rE va a w ((ah aa).1 h.1) ha ga).mono ?_;rintro e w' ⟨rfl,h2⟩;exact⟨_,rfl,rfl,h2⟩⟩
def xrpIdX:List Fq:=(Qq.id.cs++([(Vq.of 0 0 0).x,(Vq.of 0 0 0).y,(Vq.of 0 0 0).z]))
theorem q_rpId (w:World):
  Calls Tryz.prog 149 #[] w fun e w'=>iK w Pq.id e w':=by
 refine(cRn (ρ:=frs (xrpIdX)++ []) (args:=[]) (vs:=[]) (r:=.v (row [0,1,2,3,4,5,6]))
  (ae (I_rId (kr:=[0,1,2,3]) ⟨rfl,rfl,rfl,rfl,trivial⟩) (ae (aak (kr:=[4,5,6]) ⟨rfl,rfl,rfl,trivial⟩) ai))
  aj Tryz.func149 (by kernel_rfl) trivial).mono ?_
 rintro e w' ⟨v,rfl,h1,h2⟩;exact⟨v,rfl,(ah (xs:=xrpIdX) (ks:=[0,1,2,3,4,5,6]) (vs:=(Qq.id.cs++([(Vq.of 0 0 0).x,(Vq.of 0 0 0).y,(Vq.of 0 0 0).z]))) ⟨rfl,rfl,rfl,rfl,rfl,rfl,rfl,trivial⟩).1 h1,h2⟩
theorem xa {xs:List Fq} {ys:Rho} {kr:List Nat} (ar:AtL xs kr Pq.id.cs):OkI xs ys ⟨149,[],.v (row kr)⟩:=
 ⟨aA Tryz.func149 rfl rfl,fun B w vs hB h=>by
  match vs,h with
  | [],h=>
   refine(q_rpId w).mono ?_;rintro e w' ⟨v,rfl,h1,h2⟩;exact⟨v,rfl,(ah ar).2 h1,h2⟩⟩
def lm (a:Pq) (b:Pq):List Fq:=(a.cs++(b.cs))
theorem xb (va vb:Value) (a:Pq) (b:Pq) (w:World) (ia:bu w va a) (ib:bu w vb b) (ha:a.ok 100000000) (hb:b.ok 100000000) (e0:a=b):
  Calls Tryz.prog 45 #[va,vb] w fun e w'=>cK w (.bool true) e w':=by
 refine(cRn (ρ:=frs (lm a b)++ []) (args:=[row [0,1,2,3,4,5,6],row [7,8,9,10,11,12,13]]) (vs:=[va,vb]) (r:=.v (.one (.b true)))
  (ae (z7 (ka:=[0,1,2,3]) (a:=a.rot) (kb:=[7,8,9,10]) (b:=b.rot) ⟨rfl,rfl,rfl,rfl,trivial⟩ ⟨rfl,rfl,rfl,rfl,trivial⟩ (ha.rot.mono (by decide)) (hb.rot.mono (by decide)) (congrArg Pq.rot e0)) (ae (wV (ka:=[4,5,6]) (a:=a.pos) (kb:=[11,12,13]) (b:=b.pos) ⟨rfl,rfl,rfl,trivial⟩ ⟨rfl,rfl,rfl,trivial⟩ (ha.pos.mono (by decide)) (hb.pos.mono (by decide)) (congrArg Pq.pos e0)) ai))
  aj Tryz.func45 (by kernel_rfl) ⟨(ah (xs:=lm a b) (ks:=[0,1,2,3,4,5,6]) (vs:=a.cs) ⟨rfl,rfl,rfl,rfl,rfl,rfl,rfl,trivial⟩).2 ia,⟨(ah (xs:=lm a b) (ks:=[7,8,9,10,11,12,13]) (vs:=b.cs) ⟨rfl,rfl,rfl,rfl,rfl,rfl,rfl,trivial⟩).2 ib,trivial⟩⟩).mono ?_
 rintro e w' ⟨v,rfl,h1,h2⟩;exact⟨congrArg Ending.returned h1,h2⟩
theorem pR {xs:List Fq} {ys:Rho} {ka:List Nat} {kb:List Nat} {a:Pq} {b:Pq} (aa:AtL xs ka a.cs) (ab:AtL xs kb b.cs) (ha:a.ok 100000000) (hb:b.ok 100000000) (e0:a=b):OkI xs ys ⟨45,[row ka,row kb],.v (.one (.b true))⟩:=
 ⟨aA Tryz.func45 rfl rfl,fun B w vs hB h=>by
  match vs,h with
  | [va,vb],h=>
   refine(xb va vb a b w ((ah aa).1 h.1) ((ah ab).1 h.2.1) ha hb e0).mono ?_;rintro e w' ⟨rfl,h2⟩;exact⟨_,rfl,rfl,h2⟩⟩
def jM (a:Pq) (b:Pq) (m:Fq):List Fq:=(a.cs++(b.cs++([m]++((a.rot.way (a.rot.inv.mul b.rot) m).cs++([(a.pos.lerp b.pos m).x,(a.pos.lerp b.pos m).y,(a.pos.lerp b.pos m).z])))))
theorem q_poBtw1 (va vb vm:Value) (a:Pq) (b:Pq) (m:Fq) (w:World) (ia:bu w va a) (ib:bu w vb b) (im:IsQ w vm m) (ha:a.ok 100) (hb:b.ok 100) (hm:m.ok 100) (ga:a.good) (gb:b.good) (gm:m.valid=true) (hw:(a.rot.inv.mul b.rot).w.p≠0):
  Calls Tryz.prog 167 #[va,vb,vm] w fun e w'=>RetOqE w (Pq.mk (a.rot.way (a.rot.inv.mul b.rot) m) (a.pos.lerp b.pos m)) 0 e w':=by
 refine(cRn (ρ:=frs (jM a b m)++ []) (args:=[row [0,1,2,3,4,5,6],row [7,8,9,10,11,12,13],fr 14]) (vs:=[va,vb,vm]) (r:=.tup [row [15,16,17,18,19,20,21],.one (.i .i64 0)])
  (ae (I_fBtw1 (kp:=[0,1,2,3]) (p:=a.rot) (kq:=[7,8,9,10]) (q:=b.rot) (im:=14) (kr:=[15,16,17,18]) ⟨rfl,rfl,rfl,rfl,trivial⟩ ⟨rfl,rfl,rfl,rfl,trivial⟩ rfl ⟨rfl,rfl,rfl,rfl,trivial⟩ (ha.rot.mono (by decide)) (hb.rot.mono (by decide)) (hm.mono (by decide)) ga.rot gb.rot gm hw) (ae (I_vLerp (ka:=[4,5,6]) (a:=a.pos) (kb:=[11,12,13]) (b:=b.pos) (ik:=14) (kr:=[19,20,21]) ⟨rfl,rfl,rfl,trivial⟩ ⟨rfl,rfl,rfl,trivial⟩ rfl ⟨rfl,rfl,rfl,trivial⟩ (ha.pos.mono (by decide)) (hb.pos.mono (by decide)) (hm.mono (by decide))) (ae (mC (ka:=[15,16,17,18,19,20,21]) (a:=(Pq.mk (a.rot.way (a.rot.inv.mul b.rot) m) (a.pos.lerp b.pos m))) (kr:=[15,16,17,18,19,20,21]) ⟨rfl,rfl,rfl,rfl,rfl,rfl,rfl,trivial⟩ ⟨rfl,rfl,rfl,rfl,rfl,rfl,rfl,trivial⟩ (⟨⟨(sU ha.rot hb.rot hm ga.rot gb.rot gm).w.mono (by decide),(sU ha.rot hb.rot hm ga.rot gb.rot gm).x.mono (by decide),(sU ha.rot hb.rot hm ga.rot gb.rot gm).y.mono (by decide),(sU ha.rot hb.rot hm ga.rot gb.rot gm).z.mono (by decide)⟩,⟨(ha.pos.lerp hb.pos hm).x.mono (by decide),(ha.pos.lerp hb.pos hm).y.mono (by decide),(ha.pos.lerp hb.pos hm).z.mono (by decide)⟩⟩:Pq.ok 1000000000 (Pq.mk (a.rot.way (a.rot.inv.mul b.rot) m) (a.pos.lerp b.pos m)))) ai)))
  aj Tryz.func167 (by kernel_rfl) ⟨(ah (xs:=jM a b m) (ks:=[0,1,2,3,4,5,6]) (vs:=a.cs) ⟨rfl,rfl,rfl,rfl,rfl,rfl,rfl,trivial⟩).2 ia,⟨(ah (xs:=jM a b m) (ks:=[7,8,9,10,11,12,13]) (vs:=b.cs) ⟨rfl,rfl,rfl,rfl,rfl,rfl,rfl,trivial⟩).2 ib,⟨(aK (xs:=jM a b m) (k:=14) rfl).2 im,trivial⟩⟩⟩).mono ?_
 rintro e w' ⟨v,rfl,⟨vs,rfl,h1⟩,h2⟩
 match vs,h1 with
 | [r,c],h1=>
  obtain⟨⟨cs,rfl,k1⟩,k2,_⟩:=h1;have k2:c=_:=k2;subst k2;exact⟨_,rfl,(ah (xs:=jM a b m) (ks:=[15,16,17,18,19,20,21]) (vs:=((a.rot.way (a.rot.inv.mul b.rot) m).cs++([(a.pos.lerp b.pos m).x,(a.pos.lerp b.pos m).y,(a.pos.lerp b.pos m).z]))) ⟨rfl,rfl,rfl,rfl,rfl,rfl,rfl,trivial⟩).1 ⟨_,rfl,k1⟩,h2⟩
theorem uM {xs:List Fq} {ys:Rho} {ka:List Nat} {kb:List Nat} {im:Nat} {a:Pq} {b:Pq} {m:Fq} {kr:List Nat} (aa:AtL xs ka a.cs) (ab:AtL xs kb b.cs) (am:xs[im]? =some m) (ar:AtL xs kr ((a.rot.way (a.rot.inv.mul b.rot) m).cs++([(a.pos.lerp b.pos m).x,(a.pos.lerp b.pos m).y,(a.pos.lerp b.pos m).z]))) (ha:a.ok 100) (hb:b.ok 100) (hm:m.ok 100) (ga:a.good) (gb:b.good) (gm:m.valid=true) (hw:(a.rot.inv.mul b.rot).w.p≠0):OkI xs ys ⟨167,[row ka,row kb,fr im],.tup [row kr,.one (.i .i64 0)]⟩:=
 ⟨aA Tryz.func167 rfl rfl,fun B w vs hB h=>by
  match vs,h with
  | [va,vb,vm],h=>
   refine(q_poBtw1 va vb vm a b m w ((ah aa).1 h.1) ((ah ab).1 h.2.1) ((aK am).1 h.2.2.1) ha hb hm ga gb gm hw).mono ?_;rintro e w' ⟨v,rfl,h1,h2⟩;exact⟨_,rfl,⟨[v,.int .i64 0],rfl,(ah ar).2 h1,rfl,trivial⟩,h2⟩⟩
def mD (a:Pq) (b:Pq) (m:Fq):List Fq:=(a.cs++(b.cs++([m]++(Qq.zero.cs))))
theorem q_poBtw4 (va vb vm:Value) (a:Pq) (b:Pq) (m:Fq) (w:World) (ia:bu w va a) (ib:bu w vb b) (im:IsQ w vm m) (ha:a.ok 100) (hb:b.ok 100) (hm:m.ok 100) (ga:a.good) (gb:b.good) (gm:m.valid=true) (hw:(a.rot.inv.mul b.rot).w.p=0) (h0:m.p≠0) (h1:m≠(Fq.ofInt 1)):
  Calls Tryz.prog 167 #[va,vb,vm] w fun e w'=>RetOqE w Pq.zero 4 e w':=by
 refine(cRn (ρ:=frs (mD a b m)++ []) (args:=[row [0,1,2,3,4,5,6],row [7,8,9,10,11,12,13],fr 14]) (vs:=[va,vb,vm]) (r:=.tup [.agg [.b false,.sl0,.sl0,.b false,.sl0,.sl0,.b false,.sl0,.sl0,.b false,.sl0,.sl0,.b false,.sl0,.sl0,.b false,.sl0,.sl0,.b false,.sl0,.sl0],.one (.i .i64 4)])
  (ae (I_fBtw4 (kp:=[0,1,2,3]) (p:=a.rot) (kq:=[7,8,9,10]) (q:=b.rot) (im:=14) (kr:=[15,16,17,18]) ⟨rfl,rfl,rfl,rfl,trivial⟩ ⟨rfl,rfl,rfl,rfl,trivial⟩ rfl ⟨rfl,rfl,rfl,rfl,trivial⟩ (ha.rot.mono (by decide)) (hb.rot.mono (by decide)) (hm.mono (by decide)) ga.rot gb.rot gm hw h0 h1) ai)
  aj Tryz.func167 (by kernel_rfl) ⟨(ah (xs:=mD a b m) (ks:=[0,1,2,3,4,5,6]) (vs:=a.cs) ⟨rfl,rfl,rfl,rfl,rfl,rfl,rfl,trivial⟩).2 ia,⟨(ah (xs:=mD a b m) (ks:=[7,8,9,10,11,12,13]) (vs:=b.cs) ⟨rfl,rfl,rfl,rfl,rfl,rfl,rfl,trivial⟩).2 ib,⟨(aK (xs:=mD a b m) (k:=14) rfl).2 im,trivial⟩⟩⟩).mono ?_
 rintro e w' ⟨v,rfl,⟨vs,rfl,h1⟩,h2⟩
 match vs,h1 with
 | [r,c],h1=>
  obtain⟨⟨cs,rfl,k1⟩,k2,_⟩:=h1;have k2:c=_:=k2;subst k2;exact⟨_,rfl,⟨_,rfl,fA (n:=7) k1⟩,h2⟩
theorem I_poBtw4 {xs:List Fq} {ys:Rho} {ka:List Nat} {kb:List Nat} {im:Nat} {a:Pq} {b:Pq} {m:Fq} {kr:List Nat} (aa:AtL xs ka a.cs) (ab:AtL xs kb b.cs) (am:xs[im]? =some m) (ar:AtL xs kr Pq.zero.cs) (ha:a.ok 100) (hb:b.ok 100) (hm:m.ok 100) (ga:a.good) (gb:b.good) (gm:m.valid=true) (hw:(a.rot.inv.mul b.rot).w.p=0) (h0:m.p≠0) (h1:m≠(Fq.ofInt 1)):OkI xs ys ⟨167,[row ka,row kb,fr im],.tup [row kr,.one (.i .i64 4)]⟩:=
 ⟨aA Tryz.func167 rfl rfl,fun B w vs hB h=>by
  match vs,h with
  | [va,vb,vm],h=>
   refine(q_poBtw4 va vb vm a b m w ((ah aa).1 h.1) ((ah ab).1 h.2.1) ((aK am).1 h.2.2.1) ha hb hm ga gb gm hw h0 h1).mono ?_;rintro e w' ⟨v,rfl,h1,h2⟩;exact⟨_,rfl,⟨[v,.int .i64 4],rfl,(ah ar).2 h1,rfl,trivial⟩,h2⟩⟩
theorem sW {v:Value} (h:eL v):v.oneCell'=true:=by
 cases v with
 | agg cs=>exact absurd rfl (h.1 cs)
 | tuple vs=>exact absurd rfl (h.2.1 vs)
 | _=>rfl
def bK (w:World) (qs:List Vp) (xs:List Value):Prop:=xs.length=qs.length∧∀(j:Nat) (q:Vp),qs[j]? =some q→∃u,xs[j]? =some u∧q.p w u∧∀g,¬q.fp w u g
theorem bK.append {w:World} {qs qs':List Vp} {xs xs':List Value} (h:bK w qs xs) (h':bK w qs' xs'):bK w (qs++qs') (xs++xs'):=by
 refine⟨by simp[h.1,h'.1],fun j q hj=> ?_⟩;by_cases hl:j<qs.length
 ·rw[List.getElem?_append_left hl]at hj;obtain⟨u,h1,h2⟩:=h.2 j q hj;exact⟨u,by rw[List.getElem?_append_left (by rw[h.1];exact hl)];exact h1,h2⟩
 ·rw[List.getElem?_append_right (by omega)]at hj;obtain⟨u,h1,h2⟩:=h'.2 _ q hj;exact⟨u,by rw[List.getElem?_append_right (by rw[h.1];omega),h.1];exact h1,h2⟩
theorem bK.chg {w w':World} {X:Nat→Prop} {qs:List Vp} {xs:List Value} (h:bK w qs xs) (k:Chg w w' X):bK w' qs xs:=
 ⟨h.1,fun j q hj=>by
  obtain⟨u,h1,h2,h3⟩:=h.2 j q hj;obtain⟨c1,c2⟩:=q.ch w w' X u h2 k (fun g hg=>absurd hg (h3 g));exact⟨u,h1,c1,fun g hg=>h3 g (c2 g hg)⟩⟩
theorem bK.flat {w:World} {qs:List Vp} {xs:List Value} (h:bK w qs xs):∀u∈xs,eL u:=fun u hu=>by
 obtain⟨j,hj,rfl⟩:=List.getElem_of_mem hu;have hq:j<qs.length:=by rw[←h.1];exact hj
 obtain⟨u',h1,h2,_⟩:=h.2 j _ (List.getElem?_eq_getElem hq);rw[List.getElem?_eq_getElem hj]at h1;injection h1 with h1;rw[h1];exact qs[j].fl w u' h2
def noU (u:Value):Prop:=∀n,u≠ .int .u32 n
def dt (w:World) (T:TypeId) (sz:Nat) (v:Value) (L:Nat) (xs:List Value):Prop:=w.ownsRow 0 T sz v L xs∧∀g,v.ownBlock=some g→Own w g
theorem nJ {w:World} {g:Nat} {cs:Array Value} {t:TypeId} (h:w.heap[g]? =some (.cells cs t (0,0))) (hc:∀u∈cs.toList,noU u):Own w g:=
 ⟨cs,t,h,fun k n hk=>hc (.int .u32 n) (by rw[←Array.getElem?_toList]at hk;exact List.mem_of_getElem? hk) n rfl⟩
theorem aal {w:World} {g:Nat} {cs:Array Value} {t:TypeId} {fz:Nat×Nat} (h:w.heap[g]? =some (.cells cs t fz)) (o:Own w g):∀u∈cs.toList,noU u:=fun u hu n e=>by
 obtain⟨cs',t',h1,h2⟩:=o;rw[h]at h1;injection h1 with h1;injection h1 with h1 _ _;subst h1;obtain⟨k,hk⟩:=List.getElem?_of_mem hu;rw[Array.getElem?_toList,e]at hk;exact h2 k n hk
theorem uN {z:Array Value} (hz:∀u∈z.toList,noU u) (h0:0<z.size) (n:Nat):∀u∈(Builtin.zeroCells z n).toList,noU u:=fun u hu=>by
 unfold Builtin.zeroCells at hu;simp only[Array.toList_map,Array.toList_range,List.mem_map]at hu;obtain⟨i,_,rfl⟩:=hu;have hk:i % z.size<z.size:=Nat.mod_lt _ h0;rw[getElem!_pos z _ hk];exact hz _ (by simp)
theorem sX {p:Program} {w:World} {t ty e:TypeId} {i:TypeInfo} {z:Value} (ht:p.underlying t=some (.slice e)) (hi:p.info? e=some i) (hz:i.zero=some z) (hzs:z.cells.size=i.size) (hsz:0<i.size) (hzu:∀u∈z.cells.toList,noU u)
  {v:Value} {n:Nat} {xs:List Value} (ho:dt w e i.size v n xs) {a:Addr} {m c:Nat} {news:List Value} (hl:news.length=m*i.size) (hnews:∀j u,news[j]? =some u→w.cell? (a.add j)=some u) (h1:∀u∈news,u.oneCell'=true) (hnu:∀u∈news,noU u)
  (hm:0<m) (hb:(n+m)*i.bytes≤140737488355328) (hn:n+m≤1000000000000000):
  ∃v' w',(Builtin.append_ #[t,t] ty #[v,.slice (some a) m c]).run p w= .ok v' w'∧w.grownBy w' v.ownBlock∧(∀g,v.ownBlock=some g→Own w' g)∧(∀g,v'.ownBlock=some g→v.ownBlock=some g∨w.heap.size≤g)∧dt w' e i.size v' (n+m) (xs++news):=by
 obtain⟨hown,hOwn⟩:=ho;have hlen:(xs++news).length=(n+m)*i.size:=by rw[List.length_append,hown.1,hl,Nat.add_mul]
 have hmax:n+m≤maxLen:=by simp only[maxLen];omega
 have moved:∀old,(∀u∈xs,noU u)→
   w.grownBy (w.drew.alloc (.cells (xs.toArray++news.toArray++Builtin.zeroCells z.cells (grownCap w (n+m) old e - (n+m))) e)) v.ownBlock∧
   dt (w.drew.alloc (.cells (xs.toArray++news.toArray++Builtin.zeroCells z.cells (grownCap w (n+m) old e - (n+m))) e)) e i.size (.slice (some ⟨w.heap.size,0,none⟩) (n+m) (grownCap w (n+m) old e)) (n+m) (xs++news):=by
  intro old hxu;have h2:=grownCap_ge w (n+m) old e;have hnew:=heap_alloc_new w.drew (.cells (xs.toArray++news.toArray++Builtin.zeroCells z.cells (grownCap w (n+m) old e - (n+m))) e);refine⟨⟨rfl,rfl,rfl,by simp,fun k hk _=>heap_alloc_old w.drew _ hk⟩,⟨hlen,.inr ⟨w.heap.size,_,_,rfl,Nat.zero_le _,hnew,h2,grownCap_le_maxLen w (n+m) old e hmax,?_,?_⟩⟩,fun g hg=> ?_⟩
  ·simp only[Array.size_append,List.size_toArray,size_zeroCells,hzs,hown.1,hl];rw[←Nat.add_mul,←Nat.add_mul]
   congr 1;omega
  ·simp only[Array.toList_append,List.append_assoc];rw[←List.append_assoc,←hlen];exact List.take_left
  ·injection hg with hg;subst hg;refine nJ hnew (fun u hu=> ?_);simp only[Array.toList_append,List.mem_append]at hu;rcases hu with(hu | hu) | hu
   ·exact hxu u hu
   ·exact hnu u hu
   ·exact uN hzu (by omega) _ u hu
 rcases hown.2 with⟨rfl,rfl⟩ | ⟨g,cap,cur,rfl,hbg,hg,hnc,hcm,hcs,htake⟩
 ·have hx:xs=[]:=List.eq_nil_of_length_eq_zero (by simpa using hown.1);subst hx;have hr:=run_append_nil (P:=p) w t ty e i z ht hi hz a m c news hl hnews (by omega) (by omega) (by have:=hb;simp only[Nat.zero_add]at this;omega);have h2:=moved 0 (fun u hu=>by cases hu);simp only[Nat.zero_add,List.nil_append,Array.empty_append]at h2⊢;exact⟨_,_,hr,h2.1,fun g hg=>(by cases hg),fun g hg=>.inr (by have h:w.heap.size=g:=Option.some.inj hg;omega),h2.2⟩
 ·have hcu:=aal hg (hOwn g rfl);by_cases hroom:n+m≤cap
  ·have hfit:n*i.size+news.length≤cur.size:=by rw[hl,hcs,←Nat.add_mul];exact Nat.mul_le_mul_right _ hroom
   have hr:=run_append_room (P:=p) w t ty e i ht hi g n cap cur hg a m c news hl hnews h1 hroom hfit;have hset:=setRow_heap w g cur (cur.toList.take (n*i.size)++news++cur.toList.drop (n*i.size+news.length)).toArray e (0,0) hg;refine⟨_,_,hr,⟨rfl,rfl,rfl,by simp,fun k _ hk=>setRow_other w g k _ (fun e=>hk (by simp[Value.ownBlock,e]))⟩,fun g' hg'=> ?_,fun g' hg'=>.inl hg',⟨hlen,.inr ⟨g,cap,_,rfl,hbg,hset,hroom,hcm,?_,?_⟩⟩,fun g' hg'=> ?_⟩
   ·injection hg' with hg';subst hg';refine nJ hset (fun u hu=> ?_);simp only[List.mem_append]at hu;rcases hu with(hu | hu) | hu
    ·exact hcu u (List.mem_of_mem_take hu)
    ·exact hnu u hu
    ·exact hcu u (List.mem_of_mem_drop hu)
   ·simp only[List.size_toArray,List.length_append,List.length_take,List.length_drop,Array.length_toList];omega
   ·rw[htake,←hlen];exact List.take_left
   ·injection hg' with hg';subst hg';refine nJ hset (fun u hu=> ?_);simp only[List.mem_append]at hu;rcases hu with(hu | hu) | hu
    ·exact hcu u (List.mem_of_mem_take hu)
    ·exact hnu u hu
    ·exact hcu u (List.mem_of_mem_drop hu)
  ·have holds:∀j u,xs[j]? =some u→w.cell? ((⟨g,0,none⟩:Addr).add j)=some u:=hown.cells (g:=g) rfl;have hr:=run_append_grow (P:=p) w t ty e i z ht hi hz ⟨g,0,none⟩ n cap xs hown.1 holds a m c news hl hnews (by omega) (by omega) (growslice_fits (by omega) hb);have h2:=moved cap (fun u hu=>hcu u (by rw[←htake]at hu;exact List.mem_of_mem_take hu));exact⟨_,_,hr,h2.1,fun g' hg'=>by
    injection hg' with hg';subst hg';obtain⟨cs,t,k1,k2⟩:=hOwn g rfl;exact⟨cs,t,(heap_alloc_old w.drew _ (Array.getElem?_eq_some_iff.1 k1).1).trans k1,k2⟩,fun g' hg'=>.inr (by have h:w.heap.size=g':=Option.some.inj hg';omega),h2.2⟩
def Vp.ownr (T:TypeId) (sz L:Nat) (qs:List Vp):Vp:=.of (fun w v=>∃xs,dt w T sz v L xs∧bK w qs xs)
 (fun v g=>v.ownBlock=some g)
 (fun w w' X v ⟨xs,⟨⟨h1,h2⟩,h0⟩,k⟩ hc hX=>by
  have hsame:∀g,v.ownBlock=some g→w'.heap[g]? =w.heap[g]? :=fun g hg=>hc.blk g (by obtain⟨cs,t,h,_⟩:=h0 g hg;exact(Array.getElem?_eq_some_iff.1 h).1) (hX g hg)
  refine⟨xs,⟨⟨h1,h2.imp id fun⟨g,cap,cur,e,hb,hg,hr⟩=>⟨g,cap,cur,e,hb,by rw[hsame g (by rw[e];rfl)];exact hg,hr⟩⟩,fun g hg=> ?_⟩,k.chg hc⟩;obtain⟨cs,t,h3,h4⟩:=h0 g hg;exact⟨cs,t,by rw[hsame g hg];exact h3,h4⟩)
 (fun w v g ⟨xs,⟨_,h0⟩,_⟩ hg=>by obtain⟨cs,t,h,_⟩:=h0 g hg;exact(Array.getElem?_eq_some_iff.1 h).1)
 (fun w v ⟨xs,⟨⟨_,h⟩,_⟩,_⟩=>by
  rcases h with⟨rfl,_⟩ | ⟨g',cap,cur,rfl,_⟩<;>exact pD)
section
variable {ρ:Rho} {n m r k i L M:Nat} {t T:TypeId} {qs qs':List Vp} {z:Value} {ti:TypeInfo} {l:Leaf}
theorem pS {w:World} {x:Value} (hx:(Vp.row T M qs').p w x) (h0:qs'≠ []):∃a c news,x= .slice (some a) M c∧bK w qs' news∧(∀j u,news[j]? =some u→w.cell? (a.add j)=some u):=by
 rcases hx with⟨h,_⟩ | ⟨b,o,c,cs,rfl,hc,hb,hq⟩
 ·exact absurd h h0
 ·have:∃news:List Value,bK w qs' news∧∀j u,news[j]? =some u→cs[o+j]? =some u:=by
   clear h0 hc hb
   induction qs' generalizing o with
   | nil=>exact⟨[],⟨rfl,fun j q h=>by simp at h⟩,fun j u h=>by simp at h⟩
   | cons q qs ih=>
    obtain⟨u,h1,h2,h3⟩:=hq 0 q rfl;obtain⟨news,h4,h5⟩:=ih (o+1) (fun j q hj=>by
     obtain⟨u,h1,h2⟩:=hq (j+1) q (by simpa using hj);exact⟨u,by rw[show o+1+j=o+(j+1)from by omega];exact h1,h2⟩)
    refine⟨u::news,⟨by simp[h4.1],fun j q' hj=> ?_⟩,fun j u' hj=> ?_⟩
    ·match j with
     | 0=>simp at hj;subst hj;exact⟨u,rfl,h2,h3⟩
     | j+1=>obtain⟨u',k1,k2⟩:=h4.2 j q' (by simpa using hj);exact⟨u',by simpa using k1,k2⟩
    ·match j with
     | 0=>simp at hj;subst hj;exact h1
     | j+1=>have:=h5 j u' (by simpa using hj);rwa [show o+1+j=o+(j+1)from by omega]at this
  obtain⟨news,h1,h2⟩:=this;exact⟨⟨b,o,none⟩,c,news,rfl,h1,fun j u hj=>by rw[cM,aR hb];exact h2 j u hj⟩
theorem mE {w:World} {v:Value} {sz:Nat} (h:(Vp.ownr T sz L qs).p w v):(Vp.row T L qs).p w v:=by
 obtain⟨xs,⟨⟨h1,h2⟩,_⟩,h3⟩:=h;rcases h2 with⟨rfl,rfl⟩ | ⟨g,cap,cur,rfl,_,hg,hn,_,hcs,htake⟩
 ·refine .inl ⟨?_,rfl,rfl⟩;have:xs.length=0:=by simpa using h1
  exact List.eq_nil_of_length_eq_zero (by rw[←h3.1];exact this)
 ·refine .inr ⟨g,0,cap,cur,rfl,hn,hg,fun j q hj=> ?_⟩;obtain⟨u,k1,k2⟩:=h3.2 j q hj;refine⟨u,?_,k2⟩;rw[←htake,List.getElem?_take]at k1;split at k1
  ·rw[Nat.zero_add,←Array.getElem?_toList];exact k1
  ·cases k1
def noUb:Value→Bool
 | .int .u32 _=>false
 | _=>true
def appB (p:Program) (T:TypeId) (sz bytes:Nat):Bool:=match p.info? T with
 | some ti=>(match ti.zero with | some z=>z.cells.size==sz && z.cells.toList.all noUb | none=>false) && (ti.size==sz && (ti.bytes==bytes && decide (0<sz)))
 | none=>false
end
structure St where
 tm:Int
 pose:Pq
def St.qs (s:St):List Vp:=.val (.int .i64 s.tm)::frs s.pose.cs
def aF (S:List St):List Vp:=S.flatMap St.qs
theorem St.qs_len (s:St):s.qs.length=22:=rfl
theorem fD:∀(S:List St),(aF S).length=S.length*22
 | []=>rfl
 | s::S=>by
  have:=fD S;simp only[aF,List.flatMap_cons,List.length_append,List.length_cons,St.qs_len]at this⊢;omega
theorem mF (S S':List St):aF (S++S')=aF S++aF S':=by simp[aF]
theorem uO:∀ {S:List St} {k:Nat} {x:St} {j:Nat} {q:Vp},S[k]? =some x→x.qs[j]? =some q→(aF S)[k*22+j]? =some q
 | [],_,_,_,_,h,_=>by simp at h
 | s::S,0,x,j,q,h,hq=>by
  simp at h;subst h;have hj:j<s.qs.length:=(List.getElem?_eq_some_iff.1 hq).1;simp only[aF,List.flatMap_cons,Nat.zero_mul,Nat.zero_add];rw[List.getElem?_append_left hj];exact hq
 | s::S,k+1,x,j,q,h,hq=>by
  have:=uO (S:=S) (k:=k) (x:=x) (by simpa using h) hq;simp only[aF,List.flatMap_cons]at this⊢;rw[List.getElem?_append_right (by rw[St.qs_len];omega),St.qs_len,show(k+1)*22+j - 22=k*22+j from by omega];exact this
theorem aam (S:List St) (k:Nat) (hk:k≤S.length) (j:Nat) (q:Vp) (h:(aF (S.drop k))[j]? =some q):(aF S)[k*22+j]? =some q:=by
 have h1:aF S=aF (S.take k)++aF (S.drop k):=by rw[←mF,List.take_append_drop]
 have h2:(aF (S.take k)).length=k*22:=by rw[fD,List.length_take];congr 1;omega
 rw[h1,List.getElem?_append_right (by omega),h2,Nat.add_sub_cancel_left];exact h
theorem rowS_ne {S:List St} {k:Nat} {x:St} (h:S[k]? =some x):aF S≠ []:=fun e=>by
 have:=fD S;have h2:=(List.getElem?_eq_some_iff.1 h).1;rw[e]at this;simp at this;omega
def KI (ρ:Rho) (l:Leaf) (k:IntKind) (u:Int):Prop:=∀B w x,l.holds ρ B w x→x= .int k u
section
variable {ρ:Rho} {n m k r:Nat} {u v c:Int} {b d:Bool} {l l':Leaf} {t T e:TypeId} {B:Blk} {w:World} {ik:IntKind} {x:St} {S:List St}
theorem aS:KI ρ (.i ik c) ik c:=fun _ _ _ h=>h
theorem aw (h:ρ[n]? =some (.val (.int ik u))):KI ρ (.ref n) ik u:=fun _ _ _ hx=>bq h hx
theorem ct (h:KI ρ l ik u) (e:u=v):KI ρ l ik v:=e▸h
def kC (op:BinOp) (u v:Int):Option Bool:=match op with
 | .eql=>some (u==v)
 | .neq=>some (u !=v)
 | .lss=>some (decide (u<v))
 | .leq=>some (decide (u≤v))
 | .gtr=>some (decide (v<u))
 | .geq=>some (decide (v≤u))
 | _=>none
theorem aD {op:BinOp} (h1:KI ρ l ik u) (h2:KI ρ l' ik v) (hb:kC op u v=some b):(OIns.mk (.bin op t) [.one l,.one l'] (.one (.b b))).Ok Tryz.prog ρ:=fun B w vs hv=>by
 match vs,hv with
 | [v1,v2],hv=>
  have e:=h1 _ _ _ hv.1;have e2:=h2 _ _ _ hv.2.1;subst e;subst e2;refine⟨.bool b,rfl,fun xo yo=> ?_⟩;cases op<;>simp only[kC,Option.some.injEq]at hb<;>first | (cases hb;done) | (subst hb;simp[eqGuard,binOp,Op.intCmp,Sem.run_bind,Result.andThen])
theorem dP (h1:KI ρ l .i64 u) (h2:KI ρ l' .i64 v) (hm:ρ[m]? =some (.val (.int .i64 c))) (hc:c=u - v) (k1: -9223372036854775808≤u - v) (k2:u - v≤9223372036854775807):(OIns.mk (.bin .sub t) [.one l,.one l'] (.one (.ref m))).Ok Tryz.prog ρ:=fun B w vs hv=>by
 match vs,hv with
 | [v1,v2],hv=>
  have e:=h1 _ _ _ hv.1;have e2:=h2 _ _ _ hv.2.1;subst e;subst e2;subst hc;refine⟨.int .i64 (u - v),aC hm aJ,fun xo yo=> ?_⟩;have hw:IntKind.i64.wrap (u - v)=u - v:=by rw[IntKind.wrap_i64];omega
  simp[eqGuard,binOp,Op.intArith,Sem.run_bind,Result.andThen,hw]
theorem sY (h1:KI ρ l .i64 u) (h2:KI ρ l' .i64 v) (hm:ρ[m]? =some (.val (.int .i64 c))) (hc:c=u+v) (k1: -9223372036854775808≤u+v) (k2:u+v≤9223372036854775807):(OIns.mk (.bin .add t) [.one l,.one l'] (.one (.ref m))).Ok Tryz.prog ρ:=fun B w vs hv=>by
 match vs,hv with
 | [v1,v2],hv=>
  have e:=h1 _ _ _ hv.1;have e2:=h2 _ _ _ hv.2.1;subst e;subst e2;subst hc;refine⟨.int .i64 (u+v),aC hm aJ,fun xo yo=> ?_⟩;have hw:IntKind.i64.wrap (u+v)=u+v:=by rw[IntKind.wrap_i64];omega
  simp[eqGuard,binOp,Op.intArith,Sem.run_bind,Result.andThen,hw]
theorem run_eqPN {P:Program} {e:TypeId} (he:P.underlying t=some (.pointer e)) (a:Addr):(Op.equal t (.pointer (some a)) (.pointer none)).run P w= .ok false w:=by
 unfold Op.equal Op.maxDepth Op.equalIn;rw[Sem.run_bind,run_underlying he];rfl
theorem bQ {y:Nat} {o:Nat} (ht:∃e,Tryz.prog.underlying t=some (.pointer e)):(OIns.mk (.bin .eql t) [.one (.ptr y o),.one .nilp] (.one (.b false))).Ok Tryz.prog ρ:=fun B w vs hv=>by
 match vs,hv with
 | [v1,v2],hv=>
  obtain⟨g,_,e⟩:=hv.1;have e2:v2= .pointer none:=hv.2.1;subst e;subst e2;obtain⟨e,he⟩:=ht;exact⟨.bool false,rfl,fun xo yo=>by simp[eqGuard,binOp,Sem.run_bind,run_eqPN he,Result.andThen]⟩
theorem row_at {v:Value} {qs:List Vp} {L:Nat} (h:(Vp.row T L qs).p w v) (h0:qs≠ []):∃b o c cs,v= .slice (some ⟨b,o,none⟩) L c∧L≤c∧w.heap[b]? =some (.cells cs T (0,0))∧∀j q,qs[j]? =some q→∃u,cs[o+j]? =some u∧q.p w u∧∀g,¬q.fp w u g:=by
 rcases h with⟨h,_⟩ | h
 ·exact absurd h h0
 ·exact h
end
end Go.Proofs.YtggfmklppkioeaaGreat
