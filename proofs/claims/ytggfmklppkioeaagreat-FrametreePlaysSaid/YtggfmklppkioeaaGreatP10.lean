/- Products, inverses, images, by the executor. Matrices, units, from one vector to another, by the executor. On the way, valid rotations, by the executor. Package pose and its reference, by the executor. On the way from one pose to another, by the executor. An executor: rows that the call itself made, appended to and left. Stamps and rows of stamps: what an executor asks of them. -/
import Derived.Test.YtggfmklppkioeaaGreatP09
namespace Go.Proofs.YtggfmklppkioeaaGreat
set_option linter.unusedSimpArgs false
set_option linter.unusedVariables false
set_option maxRecDepth 100000
open Go.RowKit
open _root_.Go renaming Calls → AH,Program → A0,heap_alloc_old → Ez
open _root_.Array renaming getElem?_eq_some_iff → A8,getElem?_toList → BU,toList_append → EJ
open _root_.Go.Builtin renaming zeroCells → Es
open _root_.Go.Ending renaming returned → A4
open _root_.List renaming append_assoc → DG,eq_nil_of_length_eq_zero → De,flatMap_cons → Cq,getElem?_append_left → Bw,getElem?_append_right → Bq,getElem?_eq_getElem → AU,getElem?_eq_some_iff → A5,length_append → By,length_take → Bp,mem_append → AJ,mem_of_mem_drop → DX,mem_of_mem_take → Fd,size_toArray → Cc,take_append_drop → EN
open _root_.Nat renaming add_mul → CZ,zero_add → Bh
open _root_.Option renaming some → A9
open _root_.Go.Sem renaming run_bind → AO
open _root_.Go.Proofs.Tryz renaming func181 → CK,func182 → Ep,func208 → DW,func209 → Er,prog → AE
variable{q:Qq}{d:Nat}
theorem Qq.ok.inv(h:q.ok d)(g:q.good):q.inv.ok (d+2+(d+2)):=by
 have h0:=pe g;rw[<-yZ g.comp]at h0;exact(Qq.ok.mk4 (h.w.mono Aa) (h.x.mul (a8 th th)) (h.y.mul (a8 th th)) (h.z.mul (a8 th th))).canon h0
theorem inv_ne'(g:q.good):(Qq.mk q.w (q.axis.scale (Fq.ofInt (-1))).x (q.axis.scale (Fq.ofInt (-1))).y (q.axis.scale (Fq.ofInt (-1))).z).first.p≠0:=by rw[yZ g.comp];exact pe g
variable{p:Qq}{e:Nat}
theorem Qq.ok.mulg(h:p.ok d)(k:q.ok e)(C:p.good)(G:q.good):(p.mul q).ok (44*(d+e)+14):=h.mul k (ub C G)
theorem Qq.ok.dd(h:q.ok d):q.dd.ok (44*d+7):=((h.w.mul h.w).sub (h.axis.dot h.axis)).mono Aa
theorem Qq.ok.nn(h:q.ok d):q.nn.ok (44*d+7):=((h.w.mul h.w).add (h.axis.dot h.axis)).mono Aa
theorem Qq.ok.rat(h:q.ok d)(g:q.good):q.rat.ok (44*d+9):=((a8 th th).div h.nn (nn_ne g)).mono Aa
variable{a:Vq}
theorem Qq.ok.ap1(h:q.ok d)(k:a.ok e):(q.ap1 a).ok (e+44*d+7):=(k.scale h.dd).mono Aa
theorem Qq.ok.ap2(h:q.ok d)(k:a.ok e):(q.ap2 a).ok (11*d+10*e+5):=(h.axis.scale ((a8 th th).mul (h.axis.dot k))).mono Aa
theorem Qq.ok.ap3(h:q.ok d)(k:a.ok e):(q.ap3 a).ok (5*d+4*e+3):=((h.axis.cross k).scale ((a8 th th).mul h.w)).mono Aa
theorem Qq.ok.app(h:q.ok d)(k:a.ok e)(g:q.good):(q.app a).ok (300*(d+e)+100):=((((h.ap1 k).add (h.ap2 k)).add (h.ap3 k)).scale (h.rat g)).mono Aa
def pi(p:Qq)(q:Qq):List Fq:=(p.cs++(q.cs++([p.axis.x,p.axis.y,p.axis.z,q.axis.x,q.axis.y,q.axis.z,(p.w.mul q.w),(p.axis.dot q.axis),((p.w.mul q.w).sub (p.axis.dot q.axis)),(q.axis.scale p.w).x,(q.axis.scale p.w).y,(q.axis.scale p.w).z,(p.axis.scale q.w).x,(p.axis.scale q.w).y,(p.axis.scale q.w).z,((q.axis.scale p.w).add (p.axis.scale q.w)).x,((q.axis.scale p.w).add (p.axis.scale q.w)).y,((q.axis.scale p.w).add (p.axis.scale q.w)).z,(p.axis.cross q.axis).x,(p.axis.cross q.axis).y,(p.axis.cross q.axis).z,(((q.axis.scale p.w).add (p.axis.scale q.w)).add (p.axis.cross q.axis)).x,(((q.axis.scale p.w).add (p.axis.scale q.w)).add (p.axis.cross q.axis)).y,(((q.axis.scale p.w).add (p.axis.scale q.w)).add (p.axis.cross q.axis)).z]++((Qq.mk ((p.w.mul q.w).sub (p.axis.dot q.axis)) (((q.axis.scale p.w).add (p.axis.scale q.w)).add (p.axis.cross q.axis)).x (((q.axis.scale p.w).add (p.axis.scale q.w)).add (p.axis.cross q.axis)).y (((q.axis.scale p.w).add (p.axis.scale q.w)).add (p.axis.cross q.axis)).z).canon.cs))))
theorem q_fMulT(G vq:Value)(p:Qq)(q:Qq)(w:World)(J:cX w G p)(K:cX w vq q)(hp:p.ok 100000)(C:q.ok 100000)(H:p.good)(I:q.good):
  AH AE 75 #[G,vq] w λe w'=>mI w (p.mul q) e w':=by
 refine(cRn (ρ:=frs (pi p q)++ []) (args:=[row [0,1,2,3],row [4,5,6,7]]) (vs:=[G,vq]) (r:=.v (row [32,33,34,35]))
  (ae (ul (kq:=[0,1,2,3]) (q:=p) (kr:=[8,9,10]) Ac Ad (hp.mono th)) (ae (ul (kq:=[4,5,6,7]) (q:=q) (kr:=[11,12,13]) Ac Ad (C.mono th)) (ae (qj (i:=0) (j:=4) (k:=14) rfl rfl rfl (hp.w.mono th) (C.w.mono th)) (ae (I_vDot (ka:=[8,9,10]) (a:=p.axis) (kb:=[11,12,13]) (b:=q.axis) (ir:=15) Ad Ad rfl (hp.axis.mono th) (C.axis.mono th)) (ae (ql (i:=14) (j:=15) (k:=16) rfl rfl rfl ((hp.w.mul C.w).mono th) ((hp.axis.dot C.axis).mono th)) (ae (jo (ka:=[11,12,13]) (a:=q.axis) (ik:=0) (kr:=[17,18,19]) Ad rfl Ad (C.axis.mono th) (hp.w.mono th)) (ae (jo (ka:=[8,9,10]) (a:=p.axis) (ik:=4) (kr:=[20,21,22]) Ad rfl Ad (hp.axis.mono th) (C.w.mono th)) (ae (za (ka:=[17,18,19]) (a:=(q.axis.scale p.w)) (kb:=[20,21,22]) (b:=(p.axis.scale q.w)) (kr:=[23,24,25]) Ad Ad Ad ((C.axis.scale hp.w).mono th) ((hp.axis.scale C.w).mono th)) (ae (I_vCross (ka:=[8,9,10]) (a:=p.axis) (kb:=[11,12,13]) (b:=q.axis) (kr:=[26,27,28]) Ad Ad Ad (hp.axis.mono th) (C.axis.mono th)) (ae (za (ka:=[23,24,25]) (a:=((q.axis.scale p.w).add (p.axis.scale q.w))) (kb:=[26,27,28]) (b:=(p.axis.cross q.axis)) (kr:=[29,30,31]) Ad Ad Ad (((C.axis.scale hp.w).add (hp.axis.scale C.w)).mono th) ((hp.axis.cross C.axis).mono th)) (ae (qr (iu:=16) (kc:=[29,30,31]) (c:=(((q.axis.scale p.w).add (p.axis.scale q.w)).add (p.axis.cross q.axis))) (kr:=[32,33,34,35]) rfl Ad Ac (((hp.w.mul C.w).sub (hp.axis.dot C.axis)).mono th) ((((C.axis.scale hp.w).add (hp.axis.scale C.w)).add (hp.axis.cross C.axis)).mono th) (ub H I)) ag)))))))))))
  ah Tryz.func75 Ab ⟨(af (xs:=pi p q) (ks:=[0,1,2,3]) (vs:=p.cs) Ac).2 J,⟨(af (xs:=pi p q) (ks:=[4,5,6,7]) (vs:=q.cs) Ac).2 K,trivial⟩⟩).mono ?_
 rintro e w' ⟨v,rfl,h1,h2⟩;exact⟨v,rfl,(af (xs:=pi p q) (ks:=[32,33,34,35]) (vs:=(Qq.mk ((p.w.mul q.w).sub (p.axis.dot q.axis)) (((q.axis.scale p.w).add (p.axis.scale q.w)).add (p.axis.cross q.axis)).x (((q.axis.scale p.w).add (p.axis.scale q.w)).add (p.axis.cross q.axis)).y (((q.axis.scale p.w).add (p.axis.scale q.w)).add (p.axis.cross q.axis)).z).canon.cs) Ac).1 h1,h2⟩
variable{xs:List Fq}{ys:Rho}{kp kq kr:List Nat}
theorem uq(C:AtL xs kp p.cs)(G:AtL xs kq q.cs)(H:AtL xs kr (p.mul q).cs)(hp:p.ok 100000)(K:q.ok 100000)(I:p.good)(J:q.good):OkI xs ys ⟨75,[row kp,row kq],.v (row kr)⟩:=
 ⟨ai Tryz.func75 rfl rfl,λB w vs hB h=>by
  match vs,h with
  | [vp,vq],h=>
   refine(q_fMulT vp vq p q w ((af C).1 h.1) ((af G).1 h.2.1) hp K I J).mono ?_;rintro e w' ⟨v,rfl,h1,h2⟩;exact⟨v,rfl,(af H).2 h1,h2⟩⟩
def pj(p:Qq)(q:Qq):List Fq:=(p.cs++(q.cs++([p.axis.x,p.axis.y,p.axis.z,q.axis.x,q.axis.y,q.axis.z,(p.w.mul q.w),(p.axis.dot q.axis),((p.w.mul q.w).sub (p.axis.dot q.axis)),(q.axis.scale p.w).x,(q.axis.scale p.w).y,(q.axis.scale p.w).z,(p.axis.scale q.w).x,(p.axis.scale q.w).y,(p.axis.scale q.w).z,((q.axis.scale p.w).add (p.axis.scale q.w)).x,((q.axis.scale p.w).add (p.axis.scale q.w)).y,((q.axis.scale p.w).add (p.axis.scale q.w)).z,(p.axis.cross q.axis).x,(p.axis.cross q.axis).y,(p.axis.cross q.axis).z,(((q.axis.scale p.w).add (p.axis.scale q.w)).add (p.axis.cross q.axis)).x,(((q.axis.scale p.w).add (p.axis.scale q.w)).add (p.axis.cross q.axis)).y,(((q.axis.scale p.w).add (p.axis.scale q.w)).add (p.axis.cross q.axis)).z]++((Qq.mk ((p.w.mul q.w).sub (p.axis.dot q.axis)) (((q.axis.scale p.w).add (p.axis.scale q.w)).add (p.axis.cross q.axis)).x (((q.axis.scale p.w).add (p.axis.scale q.w)).add (p.axis.cross q.axis)).y (((q.axis.scale p.w).add (p.axis.scale q.w)).add (p.axis.cross q.axis)).z).canon.cs))))
theorem q_rMulT(G vq:Value)(p:Qq)(q:Qq)(w:World)(J:cX w G p)(K:cX w vq q)(hp:p.ok 100000)(C:q.ok 100000)(H:p.good)(I:q.good):
  AH AE 263 #[G,vq] w λe w'=>mI w (p.mul q) e w':=by
 refine(cRn (ρ:=frs (pj p q)++ []) (args:=[row [0,1,2,3],row [4,5,6,7]]) (vs:=[G,vq]) (r:=.v (row [32,33,34,35]))
  (ae (zd (kq:=[0,1,2,3]) (q:=p) (kr:=[8,9,10]) Ac Ad (hp.mono th)) (ae (zd (kq:=[4,5,6,7]) (q:=q) (kr:=[11,12,13]) Ac Ad (C.mono th)) (ae (dy (i:=0) (j:=4) (k:=14) rfl rfl rfl (hp.w.mono th) (C.w.mono th)) (ae (I_rDot (ka:=[8,9,10]) (a:=p.axis) (kb:=[11,12,13]) (b:=q.axis) (ir:=15) Ad Ad rfl (hp.axis.mono th) (C.axis.mono th)) (ae (lG (i:=14) (j:=15) (k:=16) rfl rfl rfl ((hp.w.mul C.w).mono th) ((hp.axis.dot C.axis).mono th)) (ae (qm (ka:=[11,12,13]) (a:=q.axis) (ik:=0) (kr:=[17,18,19]) Ad rfl Ad (C.axis.mono th) (hp.w.mono th)) (ae (qm (ka:=[8,9,10]) (a:=p.axis) (ik:=4) (kr:=[20,21,22]) Ad rfl Ad (hp.axis.mono th) (C.w.mono th)) (ae (I_rSum (ka:=[17,18,19]) (a:=(q.axis.scale p.w)) (kb:=[20,21,22]) (b:=(p.axis.scale q.w)) (kr:=[23,24,25]) Ad Ad Ad ((C.axis.scale hp.w).mono th) ((hp.axis.scale C.w).mono th)) (ae (I_rCross (ka:=[8,9,10]) (a:=p.axis) (kb:=[11,12,13]) (b:=q.axis) (kr:=[26,27,28]) Ad Ad Ad (hp.axis.mono th) (C.axis.mono th)) (ae (I_rSum (ka:=[23,24,25]) (a:=((q.axis.scale p.w).add (p.axis.scale q.w))) (kb:=[26,27,28]) (b:=(p.axis.cross q.axis)) (kr:=[29,30,31]) Ad Ad Ad (((C.axis.scale hp.w).add (hp.axis.scale C.w)).mono th) ((hp.axis.cross C.axis).mono th)) (ae (qq (iu:=16) (kc:=[29,30,31]) (c:=(((q.axis.scale p.w).add (p.axis.scale q.w)).add (p.axis.cross q.axis))) (kr:=[32,33,34,35]) rfl Ad Ac (((hp.w.mul C.w).sub (hp.axis.dot C.axis)).mono th) ((((C.axis.scale hp.w).add (hp.axis.scale C.w)).add (hp.axis.cross C.axis)).mono th) (ub H I)) ag)))))))))))
  ah Tryz.func263 Ab ⟨(af (xs:=pj p q) (ks:=[0,1,2,3]) (vs:=p.cs) Ac).2 J,⟨(af (xs:=pj p q) (ks:=[4,5,6,7]) (vs:=q.cs) Ac).2 K,trivial⟩⟩).mono ?_
 rintro e w' ⟨v,rfl,h1,h2⟩;exact⟨v,rfl,(af (xs:=pj p q) (ks:=[32,33,34,35]) (vs:=(Qq.mk ((p.w.mul q.w).sub (p.axis.dot q.axis)) (((q.axis.scale p.w).add (p.axis.scale q.w)).add (p.axis.cross q.axis)).x (((q.axis.scale p.w).add (p.axis.scale q.w)).add (p.axis.cross q.axis)).y (((q.axis.scale p.w).add (p.axis.scale q.w)).add (p.axis.cross q.axis)).z).canon.cs) Ac).1 h1,h2⟩
theorem ur(C:AtL xs kp p.cs)(G:AtL xs kq q.cs)(H:AtL xs kr (p.mul q).cs)(hp:p.ok 100000)(K:q.ok 100000)(I:p.good)(J:q.good):OkI xs ys ⟨263,[row kp,row kq],.v (row kr)⟩:=
 ⟨ai Tryz.func263 rfl rfl,λB w vs hB h=>by
  match vs,h with
  | [vp,vq],h=>
   refine(q_rMulT vp vq p q w ((af C).1 h.1) ((af G).1 h.2.1) hp K I J).mono ?_;rintro e w' ⟨v,rfl,h1,h2⟩;exact⟨v,rfl,(af H).2 h1,h2⟩⟩
def ut(q:Qq):List Fq:=(q.cs++([q.axis.x,q.axis.y,q.axis.z,(Fq.ofInt (-1)),(q.axis.scale (Fq.ofInt (-1))).x,(q.axis.scale (Fq.ofInt (-1))).y,(q.axis.scale (Fq.ofInt (-1))).z]++((Qq.mk q.w (q.axis.scale (Fq.ofInt (-1))).x (q.axis.scale (Fq.ofInt (-1))).y (q.axis.scale (Fq.ofInt (-1))).z).canon.cs)))
theorem q_fInvT(vq:Value)(q:Qq)(w:World)(H:cX w vq q)(C:q.ok 100000)(G:q.good):
  AH AE 178 #[vq] w λe w'=>mI w q.inv e w':=by
 refine(cRn (ρ:=frs (ut q)++ []) (args:=[row [0,1,2,3]]) (vs:=[vq]) (r:=.v (row [11,12,13,14]))
  (ae (ul (kq:=[0,1,2,3]) (q:=q) (kr:=[4,5,6]) Ac Ad (C.mono th)) (ae (fP (k:=7) rfl th th) (ae (jo (ka:=[4,5,6]) (a:=q.axis) (ik:=7) (kr:=[8,9,10]) Ad rfl Ad (C.axis.mono th) ((a8 (u:= -1) th th).mono th)) (ae (qr (iu:=0) (kc:=[8,9,10]) (c:=(q.axis.scale (Fq.ofInt (-1)))) (kr:=[11,12,13,14]) rfl Ad Ac (C.w.mono th) ((C.axis.scale (a8 (u:= -1) th th)).mono th) (inv_ne' G)) ag))))
  ah Tryz.func178 Ab ⟨(af (xs:=ut q) (ks:=[0,1,2,3]) (vs:=q.cs) Ac).2 H,trivial⟩).mono ?_
 rintro e w' ⟨v,rfl,h1,h2⟩;exact⟨v,rfl,(af (xs:=ut q) (ks:=[11,12,13,14]) (vs:=(Qq.mk q.w (q.axis.scale (Fq.ofInt (-1))).x (q.axis.scale (Fq.ofInt (-1))).y (q.axis.scale (Fq.ofInt (-1))).z).canon.cs) Ac).1 h1,h2⟩
theorem aaR(C:AtL xs kq q.cs)(G:AtL xs kr q.inv.cs)(I:q.ok 100000)(H:q.good):OkI xs ys ⟨178,[row kq],.v (row kr)⟩:=
 ⟨ai Tryz.func178 rfl rfl,λB w vs hB h=>by
  match vs,h with
  | [vq],h=>
   refine(q_fInvT vq q w ((af C).1 h.1) I H).mono ?_;rintro e w' ⟨v,rfl,h1,h2⟩;exact⟨v,rfl,(af G).2 h1,h2⟩⟩
def uu(q:Qq):List Fq:=(q.cs++([q.x.neg,q.y.neg,q.z.neg]++((Qq.mk q.w (Vq.mk q.x.neg q.y.neg q.z.neg).x (Vq.mk q.x.neg q.y.neg q.z.neg).y (Vq.mk q.x.neg q.y.neg q.z.neg).z).canon.cs)))
theorem q_rInvT(vq:Value)(q:Qq)(w:World)(H:cX w vq q)(C:q.ok 100000)(G:q.good):
  AH AE 264 #[vq] w λe w'=>mI w q.inv e w':=by
 rw[wQ G.comp];refine(cRn (ρ:=frs (uu q)++ []) (args:=[row [0,1,2,3]]) (vs:=[vq]) (r:=.v (row [7,8,9,10]))
  (ae (y7 (i:=1) (k:=4) rfl rfl (C.x.mono th)) (ae (y7 (i:=2) (k:=5) rfl rfl (C.y.mono th)) (ae (y7 (i:=3) (k:=6) rfl rfl (C.z.mono th)) (ae (qq (iu:=0) (kc:=[4,5,6]) (c:=(Vq.mk q.x.neg q.y.neg q.z.neg)) (kr:=[7,8,9,10]) rfl Ad Ac (C.w.mono th) (⟨C.x.neg.mono th,C.y.neg.mono th,C.z.neg.mono th⟩:Vq.ok 100000000 (Vq.mk q.x.neg q.y.neg q.z.neg)) (pe G)) ag))))
  ah Tryz.func264 Ab ⟨(af (xs:=uu q) (ks:=[0,1,2,3]) (vs:=q.cs) Ac).2 H,trivial⟩).mono ?_
 rintro e w' ⟨v,rfl,h1,h2⟩;exact⟨v,rfl,(af (xs:=uu q) (ks:=[7,8,9,10]) (vs:=(Qq.mk q.w (Vq.mk q.x.neg q.y.neg q.z.neg).x (Vq.mk q.x.neg q.y.neg q.z.neg).y (Vq.mk q.x.neg q.y.neg q.z.neg).z).canon.cs) Ac).1 h1,h2⟩
theorem aaS(C:AtL xs kq q.cs)(G:AtL xs kr q.inv.cs)(I:q.ok 100000)(H:q.good):OkI xs ys ⟨264,[row kq],.v (row kr)⟩:=
 ⟨ai Tryz.func264 rfl rfl,λB w vs hB h=>by
  match vs,h with
  | [vq],h=>
   refine(q_rInvT vq q w ((af C).1 h.1) I H).mono ?_;rintro e w' ⟨v,rfl,h1,h2⟩;exact⟨v,rfl,(af G).2 h1,h2⟩⟩
theorem ok_vof{x y z:Int}(C: -9223372036854775808<=x)(r1:x<9223372036854775808)(G: -9223372036854775808<=y)(r2:y<9223372036854775808)(H: -9223372036854775808<=z)(r3:z<9223372036854775808):(Vq.of x y z).ok 2:=⟨a8 C r1,a8 G r2,a8 H r3⟩
theorem en(g:q.good):q.first=Fq.ofInt 1:=oI g.comp.first (aJ 1) (by rw[g.one,pd];rfl)
theorem good_ne(g:q.good):q.first.p≠0:=by rw[en g];decide
theorem qt{t:Fq}{f:Nat}(h:p.ok d)(k:q.ok e)(l:t.ok f)(C:p.good)(G:q.good)(vt:t.valid=true):(p.way (p.inv.mul q) t).ok (44*(d+((44*(d+2+(d+2)+e)+14+f+2)+(44*(d+2+(d+2)+e)+14+f+2)))+14):=by
 have D:=(h.inv C).mulg k (bc C) G;have S:=D.axis.scale l;exact h.mulg ((Qq.ok.mk4 ((a8 th th).mono Aa) (S.x.mono Aa) (S.y.mono Aa) (S.z.mono Aa):Qq.ok (44*(d+2+(d+2)+e)+14+f+2) _).canon fo) C (el (jS (gR (bc C) G).comp vt) fo)
theorem uv(c:q.comp)(h:q.first=Fq.ofInt 1):q.good:=⟨c,by rw[h,pd];rfl⟩
def mP(p:Qq)(q:Qq)(m:Fq):List Fq:=(p.cs++(q.cs++([m]++(p.inv.cs++((p.inv.mul q).cs++([(Fq.ofInt 1),(p.inv.mul q).axis.x,(p.inv.mul q).axis.y,(p.inv.mul q).axis.z,((p.inv.mul q).axis.scale m).x,((p.inv.mul q).axis.scale m).y,((p.inv.mul q).axis.scale m).z]++((Qq.mk (Fq.ofInt 1) ((p.inv.mul q).axis.scale m).x ((p.inv.mul q).axis.scale m).y ((p.inv.mul q).axis.scale m).z).canon.cs++((p.mul (Qq.mk (Fq.ofInt 1) ((p.inv.mul q).axis.scale m).x ((p.inv.mul q).axis.scale m).y ((p.inv.mul q).axis.scale m).z).canon).cs))))))))
theorem q_fBtw1(K vq J:Value)(p:Qq)(q:Qq)(m:Fq)(w:World)(V:cX w K p)(Y:cX w vq q)(im:IsQ w J m)(hp:p.ok 100)(H:q.ok 100)(I:m.ok 100)(C:p.good)(G:q.good)(P:m.valid=true)(U:(p.inv.mul q).w.p≠0):
  AH AE 216 #[K,vq,J] w λe w'=>nU w (p.way (p.inv.mul q) m) 0 e w':=by
 refine(cRn (ρ:=frs (mP p q m)++ []) (args:=[row [0,1,2,3],row [4,5,6,7],fr 8]) (vs:=[K,vq,J]) (r:=.tup [row [28,29,30,31],.one (.i .i64 0)])
  (ae (aaR (kq:=[0,1,2,3]) (q:=p) (kr:=[9,10,11,12]) Ac Ac (hp.mono th) C) (ae (uq (kp:=[9,10,11,12]) (p:=p.inv) (kq:=[4,5,6,7]) (q:=q) (kr:=[13,14,15,16]) Ac Ac Ac ((hp.inv C).mono th) (H.mono th) (bc C) G) (ae (I_Half0 (kq:=[13,14,15,16]) (q:=(p.inv.mul q)) Ac (((hp.inv C).mulg H (bc C) G).mono th) U) (ae (fP (k:=17) rfl th th) (ae (ul (kq:=[13,14,15,16]) (q:=(p.inv.mul q)) (kr:=[18,19,20]) Ac Ad (((hp.inv C).mulg H (bc C) G).mono th)) (ae (jo (ka:=[18,19,20]) (a:=(p.inv.mul q).axis) (ik:=8) (kr:=[21,22,23]) Ad rfl Ad (((hp.inv C).mulg H (bc C) G).axis.mono th) (I.mono th)) (ae (qr (iu:=17) (kc:=[21,22,23]) (c:=((p.inv.mul q).axis.scale m)) (kr:=[24,25,26,27]) rfl Ad Ac ((a8 (u:=1) th th).mono th) ((((hp.inv C).mulg H (bc C) G).axis.scale I).mono th) fo) (ae (uq (kp:=[0,1,2,3]) (p:=p) (kq:=[24,25,26,27]) (q:=(Qq.mk (Fq.ofInt 1) ((p.inv.mul q).axis.scale m).x ((p.inv.mul q).axis.scale m).y ((p.inv.mul q).axis.scale m).z).canon) (kr:=[28,29,30,31]) Ac Ac Ac (hp.mono th) ((sN (a8 (u:=1) th th) (((hp.inv C).mulg H (bc C) G).axis.scale I) fo).mono th) C (el (jS (gR (bc C) G).comp P) fo)) ag))))))))
  ah Tryz.func216 Ab ⟨(af (xs:=mP p q m) (ks:=[0,1,2,3]) (vs:=p.cs) Ac).2 V,⟨(af (xs:=mP p q m) (ks:=[4,5,6,7]) (vs:=q.cs) Ac).2 Y,⟨(aw (xs:=mP p q m) (k:=8) rfl).2 im,trivial⟩⟩⟩).mono ?_
 rintro e w' ⟨v,rfl,⟨vs,rfl,h1⟩,h2⟩
 match vs,h1 with
 | [r,c],h1=>
  obtain⟨⟨cs,rfl,Z⟩,k2,_⟩:=h1;have k2:c=_:=k2;subst k2;exact⟨_,rfl,(af (xs:=mP p q m) (ks:=[28,29,30,31]) (vs:=(p.mul (Qq.mk (Fq.ofInt 1) ((p.inv.mul q).axis.scale m).x ((p.inv.mul q).axis.scale m).y ((p.inv.mul q).axis.scale m).z).canon).cs) Ac).1 ⟨_,rfl,Z⟩,h2⟩
variable{im:Nat}{m:Fq}
theorem I_fBtw1(G:AtL xs kp p.cs)(H:AtL xs kq q.cs)(C:xs[im]? =some m)(I:AtL xs kr (p.way (p.inv.mul q) m).cs)(hp:p.ok 100)(V:q.ok 100)(U:m.ok 100)(K:p.good)(P:q.good)(J:m.valid=true)(Y:(p.inv.mul q).w.p≠0):OkI xs ys ⟨216,[row kp,row kq,fr im],.tup [row kr,.one (.i .i64 0)]⟩:=
 ⟨ai Tryz.func216 rfl rfl,λB w vs hB h=>by
  match vs,h with
  | [vp,vq,vm],h=>
   refine(q_fBtw1 vp vq vm p q m w ((af G).1 h.1) ((af H).1 h.2.1) ((aw C).1 h.2.2.1) hp V U K P J Y).mono ?_;rintro e w' ⟨v,rfl,h1,h2⟩;exact⟨_,rfl,⟨[v,.int .i64 0],rfl,(af I).2 h1,rfl,trivial⟩,h2⟩⟩
def pk(p:Qq)(q:Qq)(m:Fq):List Fq:=(p.cs++(q.cs++([m]++(p.inv.cs++((p.inv.mul q).cs++([(Fq.ofInt 1)]))))))
theorem q_fBtw4(H vq G:Value)(p:Qq)(q:Qq)(m:Fq)(w:World)(V:cX w H p)(Y:cX w vq q)(im:IsQ w G m)(hp:p.ok 100)(K:q.ok 100)(J:m.ok 100)(C:p.good)(I:q.good)(P:m.valid=true)(U:(p.inv.mul q).w.p=0)(h0:m.p≠0)(h1:m≠(Fq.ofInt 1)):
  AH AE 216 #[H,vq,G] w λe w'=>nU w Qq.zero 4 e w':=by
 refine(cRn (ρ:=frs (pk p q m)++([.val (.int .i64 m.sgn),.val (.int .i64 (m.cmp (Fq.ofInt 1)))]:List Vp)) (args:=[row [0,1,2,3],row [4,5,6,7],fr 8]) (vs:=[H,vq,G]) (r:=.tup [.agg [.b false,.sl0,.sl0,.b false,.sl0,.sl0,.b false,.sl0,.sl0,.b false,.sl0,.sl0],.one (.i .i64 4)])
  (ae (aaR (kq:=[0,1,2,3]) (q:=p) (kr:=[9,10,11,12]) Ac Ac (hp.mono th) C) (ae (uq (kp:=[9,10,11,12]) (p:=p.inv) (kq:=[4,5,6,7]) (q:=q) (kr:=[13,14,15,16]) Ac Ac Ac ((hp.inv C).mono th) (K.mono th) (bc C) I) (ae (I_Half1 (kq:=[13,14,15,16]) (q:=(p.inv.mul q)) Ac (((hp.inv C).mulg K (bc C) I).mono th) U) (ae (aS (i:=8) rfl (lr (n:=54) rfl) (J.mono th)) (ae (fP (k:=17) rfl th th) (ae (bw (i:=8) (j:=17) rfl rfl (lr (n:=55) rfl) (J.mono th) ((a8 (u:=1) th th).mono th)) ag))))))
  (aj (gr (n:=54) (c:=0) (t:=3) rfl (iP h0)) (aj (gr (n:=55) (c:=0) (t:=3) rfl (jn (mt (bv P (aJ 1)).1 h1))) (ah))) Tryz.func216 Ab ⟨(af (xs:=pk p q m) (ks:=[0,1,2,3]) (vs:=p.cs) Ac).2 V,⟨(af (xs:=pk p q m) (ks:=[4,5,6,7]) (vs:=q.cs) Ac).2 Y,⟨(aw (xs:=pk p q m) (k:=8) rfl).2 im,trivial⟩⟩⟩).mono ?_
 rintro e w' ⟨v,rfl,⟨vs,rfl,h1⟩,h2⟩
 match vs,h1 with
 | [r,c],h1=>
  obtain⟨⟨cs,rfl,Z⟩,k2,_⟩:=h1;have k2:c=_:=k2;subst k2;exact⟨_,rfl,⟨_,rfl,gT (n:=4) Z⟩,h2⟩
theorem I_fBtw4(G:AtL xs kp p.cs)(H:AtL xs kq q.cs)(C:xs[im]? =some m)(I:AtL xs kr Qq.zero.cs)(hp:p.ok 100)(V:q.ok 100)(U:m.ok 100)(K:p.good)(P:q.good)(J:m.valid=true)(Y:(p.inv.mul q).w.p=0)(h0:m.p≠0)(h1:m≠(Fq.ofInt 1)):OkI xs ys ⟨216,[row kp,row kq,fr im],.tup [row kr,.one (.i .i64 4)]⟩:=
 ⟨ai Tryz.func216 rfl rfl,λB w vs hB h=>by
  match vs,h with
  | [vp,vq,vm],h=>
   refine(q_fBtw4 vp vq vm p q m w ((af G).1 h.1) ((af H).1 h.2.1) ((aw C).1 h.2.2.1) hp V U K P J Y h0 h1).mono ?_;rintro e w' ⟨v,rfl,h1,h2⟩;exact⟨_,rfl,⟨[v,.int .i64 4],rfl,(af I).2 h1,rfl,trivial⟩,h2⟩⟩
def mQ(p:Qq)(q:Qq)(m:Fq):List Fq:=(p.cs++(q.cs++([m]++(p.inv.cs++((p.inv.mul q).cs++([(Fq.ofInt 1),(p.inv.mul q).axis.x,(p.inv.mul q).axis.y,(p.inv.mul q).axis.z,((p.inv.mul q).axis.scale m).x,((p.inv.mul q).axis.scale m).y,((p.inv.mul q).axis.scale m).z]++((Qq.mk (Fq.ofInt 1) ((p.inv.mul q).axis.scale m).x ((p.inv.mul q).axis.scale m).y ((p.inv.mul q).axis.scale m).z).canon.cs++((p.mul (Qq.mk (Fq.ofInt 1) ((p.inv.mul q).axis.scale m).x ((p.inv.mul q).axis.scale m).y ((p.inv.mul q).axis.scale m).z).canon).cs))))))))
theorem q_rBtw1(K vq J:Value)(p:Qq)(q:Qq)(m:Fq)(w:World)(V:cX w K p)(Y:cX w vq q)(im:IsQ w J m)(hp:p.ok 100)(H:q.ok 100)(I:m.ok 100)(C:p.good)(G:q.good)(P:m.valid=true)(U:(p.inv.mul q).w.p≠0):
  AH AE 219 #[K,vq,J] w λe w'=>nU w (p.way (p.inv.mul q) m) 0 e w':=by
 refine(cRn (ρ:=frs (mQ p q m)++ []) (args:=[row [0,1,2,3],row [4,5,6,7],fr 8]) (vs:=[K,vq,J]) (r:=.tup [row [28,29,30,31],.one (.i .i64 0)])
  (ae (aaS (kq:=[0,1,2,3]) (q:=p) (kr:=[9,10,11,12]) Ac Ac (hp.mono th) C) (ae (ur (kp:=[9,10,11,12]) (p:=p.inv) (kq:=[4,5,6,7]) (q:=q) (kr:=[13,14,15,16]) Ac Ac Ac ((hp.inv C).mono th) (H.mono th) (bc C) G) (ae (I_rHalf0 (kq:=[13,14,15,16]) (q:=(p.inv.mul q)) Ac (((hp.inv C).mulg H (bc C) G).mono th) U) (ae (jm (k:=17) rfl th th) (ae (zd (kq:=[13,14,15,16]) (q:=(p.inv.mul q)) (kr:=[18,19,20]) Ac Ad (((hp.inv C).mulg H (bc C) G).mono th)) (ae (qm (ka:=[18,19,20]) (a:=(p.inv.mul q).axis) (ik:=8) (kr:=[21,22,23]) Ad rfl Ad (((hp.inv C).mulg H (bc C) G).axis.mono th) (I.mono th)) (ae (qq (iu:=17) (kc:=[21,22,23]) (c:=((p.inv.mul q).axis.scale m)) (kr:=[24,25,26,27]) rfl Ad Ac ((a8 (u:=1) th th).mono th) ((((hp.inv C).mulg H (bc C) G).axis.scale I).mono th) fo) (ae (ur (kp:=[0,1,2,3]) (p:=p) (kq:=[24,25,26,27]) (q:=(Qq.mk (Fq.ofInt 1) ((p.inv.mul q).axis.scale m).x ((p.inv.mul q).axis.scale m).y ((p.inv.mul q).axis.scale m).z).canon) (kr:=[28,29,30,31]) Ac Ac Ac (hp.mono th) ((sN (a8 (u:=1) th th) (((hp.inv C).mulg H (bc C) G).axis.scale I) fo).mono th) C (el (jS (gR (bc C) G).comp P) fo)) ag))))))))
  ah Tryz.func219 Ab ⟨(af (xs:=mQ p q m) (ks:=[0,1,2,3]) (vs:=p.cs) Ac).2 V,⟨(af (xs:=mQ p q m) (ks:=[4,5,6,7]) (vs:=q.cs) Ac).2 Y,⟨(aw (xs:=mQ p q m) (k:=8) rfl).2 im,trivial⟩⟩⟩).mono ?_
 rintro e w' ⟨v,rfl,⟨vs,rfl,h1⟩,h2⟩
 match vs,h1 with
 | [r,c],h1=>
  obtain⟨⟨cs,rfl,Z⟩,k2,_⟩:=h1;have k2:c=_:=k2;subst k2;exact⟨_,rfl,(af (xs:=mQ p q m) (ks:=[28,29,30,31]) (vs:=(p.mul (Qq.mk (Fq.ofInt 1) ((p.inv.mul q).axis.scale m).x ((p.inv.mul q).axis.scale m).y ((p.inv.mul q).axis.scale m).z).canon).cs) Ac).1 ⟨_,rfl,Z⟩,h2⟩
theorem I_rBtw1(G:AtL xs kp p.cs)(H:AtL xs kq q.cs)(C:xs[im]? =some m)(I:AtL xs kr (p.way (p.inv.mul q) m).cs)(hp:p.ok 100)(V:q.ok 100)(U:m.ok 100)(K:p.good)(P:q.good)(J:m.valid=true)(Y:(p.inv.mul q).w.p≠0):OkI xs ys ⟨219,[row kp,row kq,fr im],.tup [row kr,.one (.i .i64 0)]⟩:=
 ⟨ai Tryz.func219 rfl rfl,λB w vs hB h=>by
  match vs,h with
  | [vp,vq,vm],h=>
   refine(q_rBtw1 vp vq vm p q m w ((af G).1 h.1) ((af H).1 h.2.1) ((aw C).1 h.2.2.1) hp V U K P J Y).mono ?_;rintro e w' ⟨v,rfl,h1,h2⟩;exact⟨_,rfl,⟨[v,.int .i64 0],rfl,(af I).2 h1,rfl,trivial⟩,h2⟩⟩
def pl(p:Qq)(q:Qq)(m:Fq):List Fq:=(p.cs++(q.cs++([m]++(p.inv.cs++((p.inv.mul q).cs++([(Fq.ofInt 1)]))))))
theorem q_rBtw4(I vq H:Value)(p:Qq)(q:Qq)(m:Fq)(w:World)(U:cX w I p)(V:cX w vq q)(im:IsQ w H m)(hp:p.ok 100)(K:q.ok 100)(G:m.ok 100)(C:p.good)(J:q.good)(Z:m.valid=true)(P:(p.inv.mul q).w.p=0)(h0:m.p≠0)(h1:m≠(Fq.ofInt 1)):
  AH AE 219 #[I,vq,H] w λe w'=>nU w Qq.zero 4 e w':=by
 refine(cRn (ρ:=frs (pl p q m)++([.val (.int .i64 m.sgn)]:List Vp)) (args:=[row [0,1,2,3],row [4,5,6,7],fr 8]) (vs:=[I,vq,H]) (r:=.tup [.agg [.b false,.sl0,.sl0,.b false,.sl0,.sl0,.b false,.sl0,.sl0,.b false,.sl0,.sl0],.one (.i .i64 4)])
  (ae (aaS (kq:=[0,1,2,3]) (q:=p) (kr:=[9,10,11,12]) Ac Ac (hp.mono th) C) (ae (ur (kp:=[9,10,11,12]) (p:=p.inv) (kq:=[4,5,6,7]) (q:=q) (kr:=[13,14,15,16]) Ac Ac Ac ((hp.inv C).mono th) (K.mono th) (bc C) J) (ae (I_rHalf1 (kq:=[13,14,15,16]) (q:=(p.inv.mul q)) Ac (((hp.inv C).mulg K (bc C) J).mono th) P) (ae (dn (i:=8) rfl (lr (n:=54) rfl) (G.mono th)) (ae (jm (k:=17) rfl th th) (ae (bo (i:=8) (j:=17) (l:=.b false) rfl rfl (lb (dR h1)) (G.mono th).p (G.mono th).q ((a8 (u:=1) th th).mono th).p ((a8 (u:=1) th th).mono th).q) ag))))))
  (aj (gr (n:=54) (c:=0) (t:=3) rfl (iP h0)) (ah)) Tryz.func219 Ab ⟨(af (xs:=pl p q m) (ks:=[0,1,2,3]) (vs:=p.cs) Ac).2 U,⟨(af (xs:=pl p q m) (ks:=[4,5,6,7]) (vs:=q.cs) Ac).2 V,⟨(aw (xs:=pl p q m) (k:=8) rfl).2 im,trivial⟩⟩⟩).mono ?_
 rintro e w' ⟨v,rfl,⟨vs,rfl,h1⟩,h2⟩
 match vs,h1 with
 | [r,c],h1=>
  obtain⟨⟨cs,rfl,Y⟩,k2,_⟩:=h1;have k2:c=_:=k2;subst k2;exact⟨_,rfl,⟨_,rfl,gT (n:=4) Y⟩,h2⟩
theorem I_rBtw4(G:AtL xs kp p.cs)(H:AtL xs kq q.cs)(C:xs[im]? =some m)(I:AtL xs kr Qq.zero.cs)(hp:p.ok 100)(V:q.ok 100)(U:m.ok 100)(K:p.good)(P:q.good)(J:m.valid=true)(Y:(p.inv.mul q).w.p=0)(h0:m.p≠0)(h1:m≠(Fq.ofInt 1)):OkI xs ys ⟨219,[row kp,row kq,fr im],.tup [row kr,.one (.i .i64 4)]⟩:=
 ⟨ai Tryz.func219 rfl rfl,λB w vs hB h=>by
  match vs,h with
  | [vp,vq,vm],h=>
   refine(q_rBtw4 vp vq vm p q m w ((af G).1 h.1) ((af H).1 h.2.1) ((aw C).1 h.2.2.1) hp V U K P J Y h0 h1).mono ?_;rintro e w' ⟨v,rfl,h1,h2⟩;exact⟨_,rfl,⟨[v,.int .i64 4],rfl,(af I).2 h1,rfl,trivial⟩,h2⟩⟩
def qv(q:Qq):List Fq:=(q.cs++([(Fq.ofInt 1)]))
def oJ(q:Qq):List Fq:=(q.cs++([(Fq.ofInt 1)]))
def oK(q:Qq):List Fq:=(q.cs++([(Fq.ofInt 1)]))
def oL(q:Qq):List Fq:=(q.cs++([(Fq.ofInt 1)]))
theorem qw(vq:Value)(q:Qq)(w:World)(I:cX w vq q)(C:q.ok 1000000)(G:q.good):
  AH AE 181 #[vq] w λe w'=>bk w (.bool true) e w':=by
 by_cases c0:q.w.p=0
 ·by_cases c1:q.x.p=0
  ·by_cases c2:q.y.p=0
   ·by_cases c3:q.z.p=0
    ·exact absurd (by simp[Qq.first,c0,c1,c2,c3]) (good_ne G)
    ·have H:q.first=q.z:=by simp[Qq.first,c0,c1,c2,c3]
     refine(cRn (ρ:=frs (qv q)++([.val (.int .i64 q.z.sgn)]:List Vp)) (args:=[row [0,1,2,3]]) (vs:=[vq]) (r:=.v (.one (.b true)))
      (ae (bZ (kq:=[0,1,2,3]) (q:=q) (kr:=[0,1,2,3]) Ac Ac (C.mono th)) (ae (aH (i:=0) (l:=.b true) rfl (lb G.comp.w) (C.w.mono th)) (ae (aH (i:=1) (l:=.b true) rfl (lb G.comp.x) (C.x.mono th)) (ae (aH (i:=2) (l:=.b true) rfl (lb G.comp.y) (C.y.mono th)) (ae (aH (i:=3) (l:=.b true) rfl (lb G.comp.z) (C.z.mono th)) (ae (aS (i:=0) rfl (li (dL c0)) (C.w.mono th)) (ae (aS (i:=1) rfl (li (dL c1)) (C.x.mono th)) (ae (aS (i:=2) rfl (li (dL c2)) (C.y.mono th)) (ae (aS (i:=3) rfl (lr (n:=15) rfl) (C.z.mono th)) (ae (fP (k:=4) rfl th th) (ae (bw (i:=3) (j:=4) rfl rfl (li ((bv G.comp.z (aJ 1)).2 (H.symm.trans (en G)))) (C.z.mono th) ((a8 (u:=1) th th).mono th)) ag)))))))))))
      (aj (fN (n:=15) (c:=0) (t:=3) rfl (fQ c3)) (ah)) CK Ab ⟨(af (xs:=qv q) (ks:=[0,1,2,3]) (vs:=q.cs) Ac).2 I,trivial⟩).mono ?_
     rintro e w' ⟨v,rfl,h1,h2⟩;exact⟨congrArg A4 h1,h2⟩
   ·have H:q.first=q.y:=by simp[Qq.first,c0,c1,c2]
    refine(cRn (ρ:=frs (oJ q)++([.val (.int .i64 q.y.sgn)]:List Vp)) (args:=[row [0,1,2,3]]) (vs:=[vq]) (r:=.v (.one (.b true)))
     (ae (bZ (kq:=[0,1,2,3]) (q:=q) (kr:=[0,1,2,3]) Ac Ac (C.mono th)) (ae (aH (i:=0) (l:=.b true) rfl (lb G.comp.w) (C.w.mono th)) (ae (aH (i:=1) (l:=.b true) rfl (lb G.comp.x) (C.x.mono th)) (ae (aH (i:=2) (l:=.b true) rfl (lb G.comp.y) (C.y.mono th)) (ae (aH (i:=3) (l:=.b true) rfl (lb G.comp.z) (C.z.mono th)) (ae (aS (i:=0) rfl (li (dL c0)) (C.w.mono th)) (ae (aS (i:=1) rfl (li (dL c1)) (C.x.mono th)) (ae (aS (i:=2) rfl (lr (n:=15) rfl) (C.y.mono th)) (ae (fP (k:=4) rfl th th) (ae (bw (i:=2) (j:=4) rfl rfl (li ((bv G.comp.y (aJ 1)).2 (H.symm.trans (en G)))) (C.y.mono th) ((a8 (u:=1) th th).mono th)) ag))))))))))
     (aj (fN (n:=15) (c:=0) (t:=3) rfl (fQ c2)) (ah)) CK Ab ⟨(af (xs:=oJ q) (ks:=[0,1,2,3]) (vs:=q.cs) Ac).2 I,trivial⟩).mono ?_
    rintro e w' ⟨v,rfl,h1,h2⟩;exact⟨congrArg A4 h1,h2⟩
  ·have H:q.first=q.x:=by simp[Qq.first,c0,c1]
   refine(cRn (ρ:=frs (oK q)++([.val (.int .i64 q.x.sgn)]:List Vp)) (args:=[row [0,1,2,3]]) (vs:=[vq]) (r:=.v (.one (.b true)))
    (ae (bZ (kq:=[0,1,2,3]) (q:=q) (kr:=[0,1,2,3]) Ac Ac (C.mono th)) (ae (aH (i:=0) (l:=.b true) rfl (lb G.comp.w) (C.w.mono th)) (ae (aH (i:=1) (l:=.b true) rfl (lb G.comp.x) (C.x.mono th)) (ae (aH (i:=2) (l:=.b true) rfl (lb G.comp.y) (C.y.mono th)) (ae (aH (i:=3) (l:=.b true) rfl (lb G.comp.z) (C.z.mono th)) (ae (aS (i:=0) rfl (li (dL c0)) (C.w.mono th)) (ae (aS (i:=1) rfl (lr (n:=15) rfl) (C.x.mono th)) (ae (fP (k:=4) rfl th th) (ae (bw (i:=1) (j:=4) rfl rfl (li ((bv G.comp.x (aJ 1)).2 (H.symm.trans (en G)))) (C.x.mono th) ((a8 (u:=1) th th).mono th)) ag)))))))))
    (aj (fN (n:=15) (c:=0) (t:=3) rfl (fQ c1)) (ah)) CK Ab ⟨(af (xs:=oK q) (ks:=[0,1,2,3]) (vs:=q.cs) Ac).2 I,trivial⟩).mono ?_
   rintro e w' ⟨v,rfl,h1,h2⟩;exact⟨congrArg A4 h1,h2⟩
 ·have H:q.first=q.w:=by simp[Qq.first,c0]
  refine(cRn (ρ:=frs (oL q)++([.val (.int .i64 q.w.sgn)]:List Vp)) (args:=[row [0,1,2,3]]) (vs:=[vq]) (r:=.v (.one (.b true)))
   (ae (bZ (kq:=[0,1,2,3]) (q:=q) (kr:=[0,1,2,3]) Ac Ac (C.mono th)) (ae (aH (i:=0) (l:=.b true) rfl (lb G.comp.w) (C.w.mono th)) (ae (aH (i:=1) (l:=.b true) rfl (lb G.comp.x) (C.x.mono th)) (ae (aH (i:=2) (l:=.b true) rfl (lb G.comp.y) (C.y.mono th)) (ae (aH (i:=3) (l:=.b true) rfl (lb G.comp.z) (C.z.mono th)) (ae (aS (i:=0) rfl (lr (n:=15) rfl) (C.w.mono th)) (ae (fP (k:=4) rfl th th) (ae (bw (i:=0) (j:=4) rfl rfl (li ((bv G.comp.w (aJ 1)).2 (H.symm.trans (en G)))) (C.w.mono th) ((a8 (u:=1) th th).mono th)) ag))))))))
   (aj (fN (n:=15) (c:=0) (t:=3) rfl (fQ c0)) (ah)) CK Ab ⟨(af (xs:=oL q) (ks:=[0,1,2,3]) (vs:=q.cs) Ac).2 I,trivial⟩).mono ?_
  rintro e w' ⟨v,rfl,h1,h2⟩;exact⟨congrArg A4 h1,h2⟩
theorem ze(C:AtL xs kq q.cs)(H:q.ok 1000000)(G:q.good):OkI xs ys ⟨181,[row kq],.v (.one (.b true))⟩:=
 ⟨ai CK rfl rfl,λB w vs hB h=>by
  match vs,h with
  | [vq],h=>
   refine(qw vq q w ((af C).1 h.1) H G).mono ?_;rintro e w' ⟨rfl,h2⟩;exact⟨_,rfl,rfl,h2⟩⟩
def qx(q:Qq):List Fq:=q.cs
def oM(q:Qq):List Fq:=(q.cs++([(Fq.ofInt 1)]))
def oN(q:Qq):List Fq:=(q.cs++([(Fq.ofInt 1)]))
def oO(q:Qq):List Fq:=(q.cs++([(Fq.ofInt 1)]))
def oP(q:Qq):List Fq:=(q.cs++([(Fq.ofInt 1)]))
theorem zf(vq:Value)(q:Qq)(w:World)(I:cX w vq q)(C:q.ok 1000000)(G:q.comp)(hf:q.first≠(Fq.ofInt 1)):
  AH AE 181 #[vq] w λe w'=>bk w (.bool false) e w':=by
 by_cases c0:q.w.p=0
 ·by_cases c1:q.x.p=0
  ·by_cases c2:q.y.p=0
   ·by_cases c3:q.z.p=0
    ·refine(cRn (ρ:=frs (qx q)++ []) (args:=[row [0,1,2,3]]) (vs:=[vq]) (r:=.v (.one (.b false)))
      (ae (bZ (kq:=[0,1,2,3]) (q:=q) (kr:=[0,1,2,3]) Ac Ac (C.mono th)) (ae (aH (i:=0) (l:=.b true) rfl (lb G.w) (C.w.mono th)) (ae (aH (i:=1) (l:=.b true) rfl (lb G.x) (C.x.mono th)) (ae (aH (i:=2) (l:=.b true) rfl (lb G.y) (C.y.mono th)) (ae (aH (i:=3) (l:=.b true) rfl (lb G.z) (C.z.mono th)) (ae (aS (i:=0) rfl (li (dL c0)) (C.w.mono th)) (ae (aS (i:=1) rfl (li (dL c1)) (C.x.mono th)) (ae (aS (i:=2) rfl (li (dL c2)) (C.y.mono th)) (ae (aS (i:=3) rfl (li (dL c3)) (C.z.mono th)) ag)))))))))
      ah CK Ab ⟨(af (xs:=qx q) (ks:=[0,1,2,3]) (vs:=q.cs) Ac).2 I,trivial⟩).mono ?_
     rintro e w' ⟨v,rfl,h1,h2⟩;exact⟨congrArg A4 h1,h2⟩
    ·have H:q.first=q.z:=by simp[Qq.first,c0,c1,c2,c3]
     refine(cRn (ρ:=frs (oM q)++([.val (.int .i64 q.z.sgn),.val (.int .i64 (q.z.cmp (Fq.ofInt 1)))]:List Vp)) (args:=[row [0,1,2,3]]) (vs:=[vq]) (r:=.v (.one (.b false)))
      (ae (bZ (kq:=[0,1,2,3]) (q:=q) (kr:=[0,1,2,3]) Ac Ac (C.mono th)) (ae (aH (i:=0) (l:=.b true) rfl (lb G.w) (C.w.mono th)) (ae (aH (i:=1) (l:=.b true) rfl (lb G.x) (C.x.mono th)) (ae (aH (i:=2) (l:=.b true) rfl (lb G.y) (C.y.mono th)) (ae (aH (i:=3) (l:=.b true) rfl (lb G.z) (C.z.mono th)) (ae (aS (i:=0) rfl (li (dL c0)) (C.w.mono th)) (ae (aS (i:=1) rfl (li (dL c1)) (C.x.mono th)) (ae (aS (i:=2) rfl (li (dL c2)) (C.y.mono th)) (ae (aS (i:=3) rfl (lr (n:=15) rfl) (C.z.mono th)) (ae (fP (k:=4) rfl th th) (ae (bw (i:=3) (j:=4) rfl rfl (lr (n:=16) rfl) (C.z.mono th) ((a8 (u:=1) th th).mono th)) ag)))))))))))
      (aj (fN (n:=15) (c:=0) (t:=3) rfl (fQ c3)) (aj (gr (n:=16) (c:=0) (t:=3) rfl (jn (mt (bv G.z (aJ 1)).1 (λh=>hf (H.trans h))))) (ah))) CK Ab ⟨(af (xs:=oM q) (ks:=[0,1,2,3]) (vs:=q.cs) Ac).2 I,trivial⟩).mono ?_
     rintro e w' ⟨v,rfl,h1,h2⟩;exact⟨congrArg A4 h1,h2⟩
   ·have H:q.first=q.y:=by simp[Qq.first,c0,c1,c2]
    refine(cRn (ρ:=frs (oN q)++([.val (.int .i64 q.y.sgn),.val (.int .i64 (q.y.cmp (Fq.ofInt 1)))]:List Vp)) (args:=[row [0,1,2,3]]) (vs:=[vq]) (r:=.v (.one (.b false)))
     (ae (bZ (kq:=[0,1,2,3]) (q:=q) (kr:=[0,1,2,3]) Ac Ac (C.mono th)) (ae (aH (i:=0) (l:=.b true) rfl (lb G.w) (C.w.mono th)) (ae (aH (i:=1) (l:=.b true) rfl (lb G.x) (C.x.mono th)) (ae (aH (i:=2) (l:=.b true) rfl (lb G.y) (C.y.mono th)) (ae (aH (i:=3) (l:=.b true) rfl (lb G.z) (C.z.mono th)) (ae (aS (i:=0) rfl (li (dL c0)) (C.w.mono th)) (ae (aS (i:=1) rfl (li (dL c1)) (C.x.mono th)) (ae (aS (i:=2) rfl (lr (n:=15) rfl) (C.y.mono th)) (ae (fP (k:=4) rfl th th) (ae (bw (i:=2) (j:=4) rfl rfl (lr (n:=16) rfl) (C.y.mono th) ((a8 (u:=1) th th).mono th)) ag))))))))))
     (aj (fN (n:=15) (c:=0) (t:=3) rfl (fQ c2)) (aj (gr (n:=16) (c:=0) (t:=3) rfl (jn (mt (bv G.y (aJ 1)).1 (λh=>hf (H.trans h))))) (ah))) CK Ab ⟨(af (xs:=oN q) (ks:=[0,1,2,3]) (vs:=q.cs) Ac).2 I,trivial⟩).mono ?_
    rintro e w' ⟨v,rfl,h1,h2⟩;exact⟨congrArg A4 h1,h2⟩
  ·have H:q.first=q.x:=by simp[Qq.first,c0,c1]
   refine(cRn (ρ:=frs (oO q)++([.val (.int .i64 q.x.sgn),.val (.int .i64 (q.x.cmp (Fq.ofInt 1)))]:List Vp)) (args:=[row [0,1,2,3]]) (vs:=[vq]) (r:=.v (.one (.b false)))
    (ae (bZ (kq:=[0,1,2,3]) (q:=q) (kr:=[0,1,2,3]) Ac Ac (C.mono th)) (ae (aH (i:=0) (l:=.b true) rfl (lb G.w) (C.w.mono th)) (ae (aH (i:=1) (l:=.b true) rfl (lb G.x) (C.x.mono th)) (ae (aH (i:=2) (l:=.b true) rfl (lb G.y) (C.y.mono th)) (ae (aH (i:=3) (l:=.b true) rfl (lb G.z) (C.z.mono th)) (ae (aS (i:=0) rfl (li (dL c0)) (C.w.mono th)) (ae (aS (i:=1) rfl (lr (n:=15) rfl) (C.x.mono th)) (ae (fP (k:=4) rfl th th) (ae (bw (i:=1) (j:=4) rfl rfl (lr (n:=16) rfl) (C.x.mono th) ((a8 (u:=1) th th).mono th)) ag)))))))))
    (aj (fN (n:=15) (c:=0) (t:=3) rfl (fQ c1)) (aj (gr (n:=16) (c:=0) (t:=3) rfl (jn (mt (bv G.x (aJ 1)).1 (λh=>hf (H.trans h))))) (ah))) CK Ab ⟨(af (xs:=oO q) (ks:=[0,1,2,3]) (vs:=q.cs) Ac).2 I,trivial⟩).mono ?_
   rintro e w' ⟨v,rfl,h1,h2⟩;exact⟨congrArg A4 h1,h2⟩
 ·have H:q.first=q.w:=by simp[Qq.first,c0]
  refine(cRn (ρ:=frs (oP q)++([.val (.int .i64 q.w.sgn),.val (.int .i64 (q.w.cmp (Fq.ofInt 1)))]:List Vp)) (args:=[row [0,1,2,3]]) (vs:=[vq]) (r:=.v (.one (.b false)))
   (ae (bZ (kq:=[0,1,2,3]) (q:=q) (kr:=[0,1,2,3]) Ac Ac (C.mono th)) (ae (aH (i:=0) (l:=.b true) rfl (lb G.w) (C.w.mono th)) (ae (aH (i:=1) (l:=.b true) rfl (lb G.x) (C.x.mono th)) (ae (aH (i:=2) (l:=.b true) rfl (lb G.y) (C.y.mono th)) (ae (aH (i:=3) (l:=.b true) rfl (lb G.z) (C.z.mono th)) (ae (aS (i:=0) rfl (lr (n:=15) rfl) (C.w.mono th)) (ae (fP (k:=4) rfl th th) (ae (bw (i:=0) (j:=4) rfl rfl (lr (n:=16) rfl) (C.w.mono th) ((a8 (u:=1) th th).mono th)) ag))))))))
   (aj (fN (n:=15) (c:=0) (t:=3) rfl (fQ c0)) (aj (gr (n:=16) (c:=0) (t:=3) rfl (jn (mt (bv G.w (aJ 1)).1 (λh=>hf (H.trans h))))) (ah))) CK Ab ⟨(af (xs:=oP q) (ks:=[0,1,2,3]) (vs:=q.cs) Ac).2 I,trivial⟩).mono ?_
  rintro e w' ⟨v,rfl,h1,h2⟩;exact⟨congrArg A4 h1,h2⟩
def qy(q:Qq):List Fq:=(q.cs++([q.first,(Fq.ofInt 1)]))
theorem qz(vq:Value)(q:Qq)(w:World)(H:cX w vq q)(C:q.ok 1000000)(G:q.good):
  AH AE 208 #[vq] w λe w'=>bk w (.bool true) e w':=by
 refine(cRn (ρ:=frs (qy q)++ []) (args:=[row [0,1,2,3]]) (vs:=[vq]) (r:=.v (.one (.b true)))
  (ae (di (i:=0) (l:=.b true) rfl (lb G.comp.w) (C.w.mono th)) (ae (di (i:=1) (l:=.b true) rfl (lb G.comp.x) (C.x.mono th)) (ae (di (i:=2) (l:=.b true) rfl (lb G.comp.y) (C.y.mono th)) (ae (di (i:=3) (l:=.b true) rfl (lb G.comp.z) (C.z.mono th)) (ae (qo (kq:=[0,1,2,3]) (q:=q) (ir:=4) Ac rfl (C.mono th)) (ae (jm (k:=5) rfl th th) (ae (bo (i:=4) (j:=5) (l:=.b true) rfl rfl (lb (Fq.same_iff.2 (en G))) (C.first.mono th).p (C.first.mono th).q ((a8 (u:=1) th th).mono th).p ((a8 (u:=1) th th).mono th).q) ag)))))))
  ah DW Ab ⟨(af (xs:=qy q) (ks:=[0,1,2,3]) (vs:=q.cs) Ac).2 H,trivial⟩).mono ?_
 rintro e w' ⟨v,rfl,h1,h2⟩;exact⟨congrArg A4 h1,h2⟩
theorem zg(C:AtL xs kq q.cs)(H:q.ok 1000000)(G:q.good):OkI xs ys ⟨208,[row kq],.v (.one (.b true))⟩:=
 ⟨ai DW rfl rfl,λB w vs hB h=>by
  match vs,h with
  | [vq],h=>
   refine(qz vq q w ((af C).1 h.1) H G).mono ?_;rintro e w' ⟨rfl,h2⟩;exact⟨_,rfl,rfl,h2⟩⟩
def qA(q:Qq):List Fq:=(q.cs++([q.first,(Fq.ofInt 1)]))
theorem zh(vq:Value)(q:Qq)(w:World)(H:cX w vq q)(C:q.ok 1000000)(G:q.comp)(hf:q.first≠(Fq.ofInt 1)):
  AH AE 208 #[vq] w λe w'=>bk w (.bool false) e w':=by
 refine(cRn (ρ:=frs (qA q)++ []) (args:=[row [0,1,2,3]]) (vs:=[vq]) (r:=.v (.one (.b false)))
  (ae (di (i:=0) (l:=.b true) rfl (lb G.w) (C.w.mono th)) (ae (di (i:=1) (l:=.b true) rfl (lb G.x) (C.x.mono th)) (ae (di (i:=2) (l:=.b true) rfl (lb G.y) (C.y.mono th)) (ae (di (i:=3) (l:=.b true) rfl (lb G.z) (C.z.mono th)) (ae (qo (kq:=[0,1,2,3]) (q:=q) (ir:=4) Ac rfl (C.mono th)) (ae (jm (k:=5) rfl th th) (ae (bo (i:=4) (j:=5) (l:=.b false) rfl rfl (lb (dR hf)) (C.first.mono th).p (C.first.mono th).q ((a8 (u:=1) th th).mono th).p ((a8 (u:=1) th th).mono th).q) ag)))))))
  ah DW Ab ⟨(af (xs:=qA q) (ks:=[0,1,2,3]) (vs:=q.cs) Ac).2 H,trivial⟩).mono ?_
 rintro e w' ⟨v,rfl,h1,h2⟩;exact⟨congrArg A4 h1,h2⟩
structure Pq where
 rot:Qq
 pos:Vq
def Pq.cs(p:Pq):List Fq:=[p.rot.w,p.rot.x,p.rot.y,p.rot.z,p.pos.x,p.pos.y,p.pos.z]
structure Pq.ok(d:Nat)(p:Pq):Prop where
 rot:p.rot.ok d
 pos:p.pos.ok d
structure Pq.good(p:Pq):Prop where
 rot:p.rot.good
 pos:p.pos.good
def Pq.id:Pq:=⟨Qq.id,Vq.of 0 0 0⟩
def Pq.zero:Pq:=⟨Qq.zero,⟨.zero,.zero,.zero⟩⟩
def Pq.app(p:Pq)(v:Vq):Vq:=(p.rot.app v).add p.pos
def Pq.mul(a b:Pq):Pq:=⟨a.rot.mul b.rot,a.app b.pos⟩
def Pq.inv(a:Pq):Pq:=⟨a.rot.inv,a.rot.inv.app (a.pos.scale (Fq.ofInt (-1)))⟩
theorem Pq.ok.mono{p:Pq}(h:p.ok d)(k:d<=e):p.ok e:=⟨h.rot.mono k,h.pos.mono k⟩
theorem Pq.good.app{p:Pq}{v:Vq}(h:p.good)(k:v.good):(p.app v).good:=(wR h.rot k).add h.pos
variable{a:Pq}
theorem Pq.good.mul{b:Pq}(h:a.good)(k:b.good):(a.mul b).good:=⟨gR h.rot k.rot,h.app k.pos⟩
theorem Pq.good.inv(h:a.good):a.inv.good:=⟨bc h.rot,wR (bc h.rot) (h.pos.scale (aJ _))⟩
theorem Pq.good.id:Pq.id.good:=⟨id_good,Vq.good.of 0 0 0⟩
theorem Pq.ok.app{p:Pq}{v:Vq}(h:p.ok d)(k:v.ok e)(g:p.good):(p.app v).ok (700*(d+e)+300):=((h.rot.app k g.rot).add h.pos).mono Aa
theorem Pq.ok.mul{b:Pq}(h:a.ok d)(k:b.ok e)(g:a.good)(l:b.good):(a.mul b).ok (700*(d+e)+300):=⟨(h.rot.mulg k.rot g.rot l.rot).mono Aa,h.app k.pos g⟩
theorem Pq.ok.inv(h:a.ok d)(g:a.good):a.inv.ok (1000*d+3000):=⟨(h.rot.inv g.rot).mono Aa,((h.rot.inv g.rot).app (h.pos.scale (a8 th th)) (bc g.rot)).mono Aa⟩
theorem Pq.ok.id:Pq.id.ok 2:=⟨ok_id,ok_vof th th th th th th⟩
abbrev bh(w:World)(v:Value)(p:Pq):Prop:=IsL w v [p.rot.w.raw,p.rot.x.raw,p.rot.y.raw,p.rot.z.raw,p.pos.x.raw,p.pos.y.raw,p.pos.z.raw]
abbrev qC(W:World)(p:Pq)(e:Ending)(w':World):Prop:=RetL W [p.rot.w.raw,p.rot.x.raw,p.rot.y.raw,p.rot.z.raw,p.pos.x.raw,p.pos.y.raw,p.pos.z.raw] e w'
abbrev uw(W:World)(p:Pq)(c:Int)(e:Ending)(w':World):Prop:=RetLE W [p.rot.w.raw,p.rot.x.raw,p.rot.y.raw,p.rot.z.raw,p.pos.x.raw,p.pos.y.raw,p.pos.z.raw] c e w'
def oa(a:Vq)(b:Vq):List Fq:=[a.x,a.y,a.z,b.x,b.y,b.z]
theorem q_vEqual1(va vb:Value)(a:Vq)(b:Vq)(w:World)(ia:cB w va a)(I:cB w vb b)(ha:a.ok 100000000)(hb:b.ok 100000000)(C:a=b)(G:a.good)(H:b.good):
  AH AE 27 #[va,vb] w λe w'=>bk w (.bool true) e w':=by
 refine(cRn (ρ:=frs (oa a b)++ []) (args:=[row [0,1,2],row [3,4,5]]) (vs:=[va,vb]) (r:=.v (.one (.b true)))
  (ae (bw (i:=0) (j:=3) rfl rfl (li ((bv G.x H.x).2 (congrArg Vq.x C))) (ha.x.mono th) (hb.x.mono th)) (ae (bw (i:=1) (j:=4) rfl rfl (li ((bv G.y H.y).2 (congrArg Vq.y C))) (ha.y.mono th) (hb.y.mono th)) (ae (bw (i:=2) (j:=5) rfl rfl (li ((bv G.z H.z).2 (congrArg Vq.z C))) (ha.z.mono th) (hb.z.mono th)) ag)))
  ah Tryz.func27 Ab ⟨(af (xs:=oa a b) (ks:=[0,1,2]) (vs:=[a.x,a.y,a.z]) Ad).2 ia,⟨(af (xs:=oa a b) (ks:=[3,4,5]) (vs:=[b.x,b.y,b.z]) Ad).2 I,trivial⟩⟩).mono ?_
 rintro e w' ⟨v,rfl,h1,h2⟩;exact⟨congrArg A4 h1,h2⟩
variable{ka kb:List Nat}{a b:Vq}
theorem I_vEqual1(C:AtL xs ka [a.x,a.y,a.z])(G:AtL xs kb [b.x,b.y,b.z])(ha:a.ok 100000000)(hb:b.ok 100000000)(H:a=b)(I:a.good)(J:b.good):OkI xs ys ⟨27,[row ka,row kb],.v (.one (.b true))⟩:=
 ⟨ai Tryz.func27 rfl rfl,λB w vs hB h=>by
  match vs,h with
  | [va,vb],h=>
   refine(q_vEqual1 va vb a b w ((af C).1 h.1) ((af G).1 h.2.1) ha hb H I J).mono ?_;rintro e w' ⟨rfl,h2⟩;exact⟨_,rfl,rfl,h2⟩⟩
def oc(a:Vq)(b:Vq):List Fq:=[a.x,a.y,a.z,b.x,b.y,b.z]
def lN(a:Vq)(b:Vq):List Fq:=[a.x,a.y,a.z,b.x,b.y,b.z]
def lO(a:Vq)(b:Vq):List Fq:=[a.x,a.y,a.z,b.x,b.y,b.z]
theorem q_vEqual0(va vb:Value)(a:Vq)(b:Vq)(w:World)(ia:cB w va a)(H:cB w vb b)(ha:a.ok 100000000)(hb:b.ok 100000000)(I:a≠b)(C:a.good)(G:b.good):
  AH AE 27 #[va,vb] w λe w'=>bk w (.bool false) e w':=by
 by_cases c0:a.x=b.x
 ·by_cases c1:a.y=b.y
  ·by_cases c2:a.z=b.z
   ·exact absurd (by cases a;cases b;simp only at c0 c1 c2;subst c0 c1 c2;rfl) I
   ·refine(cRn (ρ:=frs (oc a b)++([.val (.int .i64 (a.z.cmp b.z))]:List Vp)) (args:=[row [0,1,2],row [3,4,5]]) (vs:=[va,vb]) (r:=.v (.one (.b false)))
     (ae (bw (i:=0) (j:=3) rfl rfl (li ((bv C.x G.x).2 c0)) (ha.x.mono th) (hb.x.mono th)) (ae (bw (i:=1) (j:=4) rfl rfl (li ((bv C.y G.y).2 c1)) (ha.y.mono th) (hb.y.mono th)) (ae (bw (i:=2) (j:=5) rfl rfl (lr (n:=18) rfl) (ha.z.mono th) (hb.z.mono th)) ag)))
     (aj (t6 (n:=18) (c:=0) (u:=(a.z.cmp b.z)) (b:=false) (t:=3) rfl (jn (mt (bv C.z G.z).1 c2))) (ah)) Tryz.func27 Ab ⟨(af (xs:=oc a b) (ks:=[0,1,2]) (vs:=[a.x,a.y,a.z]) Ad).2 ia,⟨(af (xs:=oc a b) (ks:=[3,4,5]) (vs:=[b.x,b.y,b.z]) Ad).2 H,trivial⟩⟩).mono ?_
    rintro e w' ⟨v,rfl,h1,h2⟩;exact⟨congrArg A4 h1,h2⟩
  ·refine(cRn (ρ:=frs (lN a b)++([.val (.int .i64 (a.y.cmp b.y))]:List Vp)) (args:=[row [0,1,2],row [3,4,5]]) (vs:=[va,vb]) (r:=.v (.one (.b false)))
    (ae (bw (i:=0) (j:=3) rfl rfl (li ((bv C.x G.x).2 c0)) (ha.x.mono th) (hb.x.mono th)) (ae (bw (i:=1) (j:=4) rfl rfl (lr (n:=18) rfl) (ha.y.mono th) (hb.y.mono th)) ag))
    (aj (t6 (n:=18) (c:=0) (u:=(a.y.cmp b.y)) (b:=false) (t:=3) rfl (jn (mt (bv C.y G.y).1 c1))) (ah)) Tryz.func27 Ab ⟨(af (xs:=lN a b) (ks:=[0,1,2]) (vs:=[a.x,a.y,a.z]) Ad).2 ia,⟨(af (xs:=lN a b) (ks:=[3,4,5]) (vs:=[b.x,b.y,b.z]) Ad).2 H,trivial⟩⟩).mono ?_
   rintro e w' ⟨v,rfl,h1,h2⟩;exact⟨congrArg A4 h1,h2⟩
 ·refine(cRn (ρ:=frs (lO a b)++([.val (.int .i64 (a.x.cmp b.x))]:List Vp)) (args:=[row [0,1,2],row [3,4,5]]) (vs:=[va,vb]) (r:=.v (.one (.b false)))
   (ae (bw (i:=0) (j:=3) rfl rfl (lr (n:=18) rfl) (ha.x.mono th) (hb.x.mono th)) ag)
   (aj (t6 (n:=18) (c:=0) (u:=(a.x.cmp b.x)) (b:=false) (t:=3) rfl (jn (mt (bv C.x G.x).1 c0))) (ah)) Tryz.func27 Ab ⟨(af (xs:=lO a b) (ks:=[0,1,2]) (vs:=[a.x,a.y,a.z]) Ad).2 ia,⟨(af (xs:=lO a b) (ks:=[3,4,5]) (vs:=[b.x,b.y,b.z]) Ad).2 H,trivial⟩⟩).mono ?_
  rintro e w' ⟨v,rfl,h1,h2⟩;exact⟨congrArg A4 h1,h2⟩
theorem I_vEqual0(C:AtL xs ka [a.x,a.y,a.z])(G:AtL xs kb [b.x,b.y,b.z])(ha:a.ok 100000000)(hb:b.ok 100000000)(H:a≠b)(I:a.good)(J:b.good):OkI xs ys ⟨27,[row ka,row kb],.v (.one (.b false))⟩:=
 ⟨ai Tryz.func27 rfl rfl,λB w vs hB h=>by
  match vs,h with
  | [va,vb],h=>
   refine(q_vEqual0 va vb a b w ((af C).1 h.1) ((af G).1 h.2.1) ha hb H I J).mono ?_;rintro e w' ⟨rfl,h2⟩;exact⟨_,rfl,rfl,h2⟩⟩
def mR(a:Vq)(b:Vq)(k:Fq):List Fq:=[a.x,a.y,a.z,b.x,b.y,b.z,k,(b.sub a).x,(b.sub a).y,(b.sub a).z,((b.sub a).scale k).x,((b.sub a).scale k).y,((b.sub a).scale k).z,(a.add ((b.sub a).scale k)).x,(a.add ((b.sub a).scale k)).y,(a.add ((b.sub a).scale k)).z]
theorem q_vLerp(va vb C:Value)(a:Vq)(b:Vq)(k:Fq)(w:World)(ia:cB w va a)(H:cB w vb b)(ik:IsQ w C k)(ha:a.ok 10000000)(hb:b.ok 10000000)(G:k.ok 10000000):
  AH AE 217 #[va,vb,C] w λe w'=>d7 w (a.lerp b k) e w':=by
 refine(cRn (ρ:=frs (mR a b k)++ []) (args:=[row [0,1,2],row [3,4,5],fr 6]) (vs:=[va,vb,C]) (r:=.v (row [13,14,15]))
  (ae (I_vSub (ka:=[3,4,5]) (a:=b) (kb:=[0,1,2]) (b:=a) (kr:=[7,8,9]) Ad Ad Ad (hb.mono th) (ha.mono th)) (ae (jo (ka:=[7,8,9]) (a:=(b.sub a)) (ik:=6) (kr:=[10,11,12]) Ad rfl Ad ((hb.sub ha).mono th) (G.mono th)) (ae (za (ka:=[0,1,2]) (a:=a) (kb:=[10,11,12]) (b:=((b.sub a).scale k)) (kr:=[13,14,15]) Ad Ad Ad (ha.mono th) (((hb.sub ha).scale G).mono th)) ag)))
  ah Tryz.func217 Ab ⟨(af (xs:=mR a b k) (ks:=[0,1,2]) (vs:=[a.x,a.y,a.z]) Ad).2 ia,⟨(af (xs:=mR a b k) (ks:=[3,4,5]) (vs:=[b.x,b.y,b.z]) Ad).2 H,⟨(aw (xs:=mR a b k) (k:=6) rfl).2 ik,trivial⟩⟩⟩).mono ?_
 rintro e w' ⟨v,rfl,h1,h2⟩;exact⟨v,rfl,(af (xs:=mR a b k) (ks:=[13,14,15]) (vs:=[(a.add ((b.sub a).scale k)).x,(a.add ((b.sub a).scale k)).y,(a.add ((b.sub a).scale k)).z]) Ad).1 h1,h2⟩
variable{ik:Nat}
theorem I_vLerp{k:Fq}(C:AtL xs ka [a.x,a.y,a.z])(G:AtL xs kb [b.x,b.y,b.z])(H:xs[ik]? =some k)(I:AtL xs kr [(a.lerp b k).x,(a.lerp b k).y,(a.lerp b k).z])(ha:a.ok 10000000)(hb:b.ok 10000000)(J:k.ok 10000000):OkI xs ys ⟨217,[row ka,row kb,fr ik],.v (row kr)⟩:=
 ⟨ai Tryz.func217 rfl rfl,λB w vs hB h=>by
  match vs,h with
  | [va,vb,vk],h=>
   refine(q_vLerp va vb vk a b k w ((af C).1 h.1) ((af G).1 h.2.1) ((aw H).1 h.2.2.1) ha hb J).mono ?_;rintro e w' ⟨v,rfl,h1,h2⟩;exact⟨v,rfl,(af I).2 h1,h2⟩⟩
def xa(a:Vq):List Fq:=[a.x,a.y,a.z]
theorem q_vValid(va:Value)(a:Vq)(w:World)(ia:cB w va a)(ha:a.ok 1000000)(C:a.good):
  AH AE 182 #[va] w λe w'=>bk w (.bool true) e w':=by
 refine(cRn (ρ:=frs (xa a)++ []) (args:=[row [0,1,2]]) (vs:=[va]) (r:=.v (.one (.b true)))
  (ae (aH (i:=0) (l:=.b true) rfl (lb C.x) (ha.x.mono th)) (ae (aH (i:=1) (l:=.b true) rfl (lb C.y) (ha.y.mono th)) (ae (aH (i:=2) (l:=.b true) rfl (lb C.z) (ha.z.mono th)) ag)))
  ah Ep Ab ⟨(af (xs:=xa a) (ks:=[0,1,2]) (vs:=[a.x,a.y,a.z]) Ad).2 ia,trivial⟩).mono ?_
 rintro e w' ⟨v,rfl,h1,h2⟩;exact⟨congrArg A4 h1,h2⟩
theorem I_vValid(C:AtL xs ka [a.x,a.y,a.z])(ha:a.ok 1000000)(G:a.good):OkI xs ys ⟨182,[row ka],.v (.one (.b true))⟩:=
 ⟨ai Ep rfl rfl,λB w vs hB h=>by
  match vs,h with
  | [va],h=>
   refine(q_vValid va a w ((af C).1 h.1) ha G).mono ?_;rintro e w' ⟨rfl,h2⟩;exact⟨_,rfl,rfl,h2⟩⟩
def pm(a:Vq)(b:Vq):List Fq:=[a.x,a.y,a.z,b.x,b.y,b.z,(a.x.add b.x),(a.y.add b.y),(a.z.add b.z)]
theorem q_r4Add(va vb:Value)(a:Vq)(b:Vq)(w:World)(ia:cB w va a)(C:cB w vb b)(ha:a.ok 100000000)(hb:b.ok 100000000):
  AH AE 270 #[va,vb] w λe w'=>d7 w (a.add b) e w':=by
 refine(cRn (ρ:=frs (pm a b)++ []) (args:=[row [0,1,2],row [3,4,5]]) (vs:=[va,vb]) (r:=.v (row [6,7,8]))
  (ae (jl (i:=0) (j:=3) (k:=6) rfl rfl rfl (ha.x.mono th) (hb.x.mono th)) (ae (jl (i:=1) (j:=4) (k:=7) rfl rfl rfl (ha.y.mono th) (hb.y.mono th)) (ae (jl (i:=2) (j:=5) (k:=8) rfl rfl rfl (ha.z.mono th) (hb.z.mono th)) ag)))
  ah Tryz.func270 Ab ⟨(af (xs:=pm a b) (ks:=[0,1,2]) (vs:=[a.x,a.y,a.z]) Ad).2 ia,⟨(af (xs:=pm a b) (ks:=[3,4,5]) (vs:=[b.x,b.y,b.z]) Ad).2 C,trivial⟩⟩).mono ?_
 rintro e w' ⟨v,rfl,h1,h2⟩;exact⟨v,rfl,(af (xs:=pm a b) (ks:=[6,7,8]) (vs:=[(a.x.add b.x),(a.y.add b.y),(a.z.add b.z)]) Ad).1 h1,h2⟩
theorem I_r4Add(C:AtL xs ka [a.x,a.y,a.z])(G:AtL xs kb [b.x,b.y,b.z])(H:AtL xs kr [(a.add b).x,(a.add b).y,(a.add b).z])(ha:a.ok 100000000)(hb:b.ok 100000000):OkI xs ys ⟨270,[row ka,row kb],.v (row kr)⟩:=
 ⟨ai Tryz.func270 rfl rfl,λB w vs hB h=>by
  match vs,h with
  | [va,vb],h=>
   refine(q_r4Add va vb a b w ((af C).1 h.1) ((af G).1 h.2.1) ha hb).mono ?_;rintro e w' ⟨v,rfl,h1,h2⟩;exact⟨v,rfl,(af H).2 h1,h2⟩⟩
def pn(a:Vq)(b:Vq):List Fq:=[a.x,a.y,a.z,b.x,b.y,b.z,(a.x.sub b.x),(a.y.sub b.y),(a.z.sub b.z)]
theorem q_r4Sub(va vb:Value)(a:Vq)(b:Vq)(w:World)(ia:cB w va a)(C:cB w vb b)(ha:a.ok 100000000)(hb:b.ok 100000000):
  AH AE 272 #[va,vb] w λe w'=>d7 w (a.sub b) e w':=by
 refine(cRn (ρ:=frs (pn a b)++ []) (args:=[row [0,1,2],row [3,4,5]]) (vs:=[va,vb]) (r:=.v (row [6,7,8]))
  (ae (lG (i:=0) (j:=3) (k:=6) rfl rfl rfl (ha.x.mono th) (hb.x.mono th)) (ae (lG (i:=1) (j:=4) (k:=7) rfl rfl rfl (ha.y.mono th) (hb.y.mono th)) (ae (lG (i:=2) (j:=5) (k:=8) rfl rfl rfl (ha.z.mono th) (hb.z.mono th)) ag)))
  ah Tryz.func272 Ab ⟨(af (xs:=pn a b) (ks:=[0,1,2]) (vs:=[a.x,a.y,a.z]) Ad).2 ia,⟨(af (xs:=pn a b) (ks:=[3,4,5]) (vs:=[b.x,b.y,b.z]) Ad).2 C,trivial⟩⟩).mono ?_
 rintro e w' ⟨v,rfl,h1,h2⟩;exact⟨v,rfl,(af (xs:=pn a b) (ks:=[6,7,8]) (vs:=[(a.x.sub b.x),(a.y.sub b.y),(a.z.sub b.z)]) Ad).1 h1,h2⟩
theorem I_r4Sub(C:AtL xs ka [a.x,a.y,a.z])(G:AtL xs kb [b.x,b.y,b.z])(H:AtL xs kr [(a.sub b).x,(a.sub b).y,(a.sub b).z])(ha:a.ok 100000000)(hb:b.ok 100000000):OkI xs ys ⟨272,[row ka,row kb],.v (row kr)⟩:=
 ⟨ai Tryz.func272 rfl rfl,λB w vs hB h=>by
  match vs,h with
  | [va,vb],h=>
   refine(q_r4Sub va vb a b w ((af C).1 h.1) ((af G).1 h.2.1) ha hb).mono ?_;rintro e w' ⟨v,rfl,h1,h2⟩;exact⟨v,rfl,(af H).2 h1,h2⟩⟩
def jX(a:Vq)(k:Fq):List Fq:=[a.x,a.y,a.z,k,(a.x.mul k),(a.y.mul k),(a.z.mul k)]
theorem q_r4Scale(va G:Value)(a:Vq)(k:Fq)(w:World)(ia:cB w va a)(ik:IsQ w G k)(ha:a.ok 100000000)(C:k.ok 100000000):
  AH AE 271 #[va,G] w λe w'=>d7 w (a.scale k) e w':=by
 refine(cRn (ρ:=frs (jX a k)++ []) (args:=[row [0,1,2],fr 3]) (vs:=[va,G]) (r:=.v (row [4,5,6]))
  (ae (dy (i:=0) (j:=3) (k:=4) rfl rfl rfl (ha.x.mono th) (C.mono th)) (ae (dy (i:=1) (j:=3) (k:=5) rfl rfl rfl (ha.y.mono th) (C.mono th)) (ae (dy (i:=2) (j:=3) (k:=6) rfl rfl rfl (ha.z.mono th) (C.mono th)) ag)))
  ah Tryz.func271 Ab ⟨(af (xs:=jX a k) (ks:=[0,1,2]) (vs:=[a.x,a.y,a.z]) Ad).2 ia,⟨(aw (xs:=jX a k) (k:=3) rfl).2 ik,trivial⟩⟩).mono ?_
 rintro e w' ⟨v,rfl,h1,h2⟩;exact⟨v,rfl,(af (xs:=jX a k) (ks:=[4,5,6]) (vs:=[(a.x.mul k),(a.y.mul k),(a.z.mul k)]) Ad).1 h1,h2⟩
theorem I_r4Scale{k:Fq}(C:AtL xs ka [a.x,a.y,a.z])(G:xs[ik]? =some k)(H:AtL xs kr [(a.scale k).x,(a.scale k).y,(a.scale k).z])(ha:a.ok 100000000)(I:k.ok 100000000):OkI xs ys ⟨271,[row ka,fr ik],.v (row kr)⟩:=
 ⟨ai Tryz.func271 rfl rfl,λB w vs hB h=>by
  match vs,h with
  | [va,vk],h=>
   refine(q_r4Scale va vk a k w ((af C).1 h.1) ((aw G).1 h.2.1) ha I).mono ?_;rintro e w' ⟨v,rfl,h1,h2⟩;exact⟨v,rfl,(af H).2 h1,h2⟩⟩
def lP(a:Vq)(b:Vq):List Fq:=[a.x,a.y,a.z,b.x,b.y,b.z]
theorem zi(va vb:Value)(a:Vq)(b:Vq)(w:World)(ia:cB w va a)(G:cB w vb b)(ha:a.ok 1000000000)(hb:b.ok 1000000000)(C:a=b):
  AH AE 65 #[va,vb] w λe w'=>bk w (.bool true) e w':=by
 refine(cRn (ρ:=frs (lP a b)++ []) (args:=[row [0,1,2],row [3,4,5]]) (vs:=[va,vb]) (r:=.v (.one (.b true)))
  (ae (bo (i:=0) (j:=3) (l:=.b true) rfl rfl (lb (Fq.same_iff.2 (congrArg Vq.x C))) (ha.x.mono th).p (ha.x.mono th).q (hb.x.mono th).p (hb.x.mono th).q) (ae (bo (i:=1) (j:=4) (l:=.b true) rfl rfl (lb (Fq.same_iff.2 (congrArg Vq.y C))) (ha.y.mono th).p (ha.y.mono th).q (hb.y.mono th).p (hb.y.mono th).q) (ae (bo (i:=2) (j:=5) (l:=.b true) rfl rfl (lb (Fq.same_iff.2 (congrArg Vq.z C))) (ha.z.mono th).p (ha.z.mono th).q (hb.z.mono th).p (hb.z.mono th).q) ag)))
  ah Tryz.func65 Ab ⟨(af (xs:=lP a b) (ks:=[0,1,2]) (vs:=[a.x,a.y,a.z]) Ad).2 ia,⟨(af (xs:=lP a b) (ks:=[3,4,5]) (vs:=[b.x,b.y,b.z]) Ad).2 G,trivial⟩⟩).mono ?_
 rintro e w' ⟨v,rfl,h1,h2⟩;exact⟨congrArg A4 h1,h2⟩
theorem zj(C:AtL xs ka [a.x,a.y,a.z])(G:AtL xs kb [b.x,b.y,b.z])(ha:a.ok 1000000000)(hb:b.ok 1000000000)(H:a=b):OkI xs ys ⟨65,[row ka,row kb],.v (.one (.b true))⟩:=
 ⟨ai Tryz.func65 rfl rfl,λB w vs hB h=>by
  match vs,h with
  | [va,vb],h=>
   refine(zi va vb a b w ((af C).1 h.1) ((af G).1 h.2.1) ha hb H).mono ?_;rintro e w' ⟨rfl,h2⟩;exact⟨_,rfl,rfl,h2⟩⟩
def lQ(a:Vq)(b:Vq):List Fq:=[a.x,a.y,a.z,b.x,b.y,b.z]
def jq(a:Vq)(b:Vq):List Fq:=[a.x,a.y,a.z,b.x,b.y,b.z]
def jr(a:Vq)(b:Vq):List Fq:=[a.x,a.y,a.z,b.x,b.y,b.z]
theorem zk(va vb:Value)(a:Vq)(b:Vq)(w:World)(ia:cB w va a)(C:cB w vb b)(ha:a.ok 1000000000)(hb:b.ok 1000000000)(G:a≠b):
  AH AE 65 #[va,vb] w λe w'=>bk w (.bool false) e w':=by
 by_cases c0:a.x=b.x
 ·by_cases c1:a.y=b.y
  ·by_cases c2:a.z=b.z
   ·exact absurd (by cases a;cases b;simp only at c0 c1 c2;subst c0 c1 c2;rfl) G
   ·refine(cRn (ρ:=frs (lQ a b)++ []) (args:=[row [0,1,2],row [3,4,5]]) (vs:=[va,vb]) (r:=.v (.one (.b false)))
     (ae (bo (i:=0) (j:=3) (l:=.b true) rfl rfl (lb (Fq.same_iff.2 c0)) (ha.x.mono th).p (ha.x.mono th).q (hb.x.mono th).p (hb.x.mono th).q) (ae (bo (i:=1) (j:=4) (l:=.b true) rfl rfl (lb (Fq.same_iff.2 c1)) (ha.y.mono th).p (ha.y.mono th).q (hb.y.mono th).p (hb.y.mono th).q) (ae (bo (i:=2) (j:=5) (l:=.b false) rfl rfl (lb (dR c2)) (ha.z.mono th).p (ha.z.mono th).q (hb.z.mono th).p (hb.z.mono th).q) ag)))
     ah Tryz.func65 Ab ⟨(af (xs:=lQ a b) (ks:=[0,1,2]) (vs:=[a.x,a.y,a.z]) Ad).2 ia,⟨(af (xs:=lQ a b) (ks:=[3,4,5]) (vs:=[b.x,b.y,b.z]) Ad).2 C,trivial⟩⟩).mono ?_
    rintro e w' ⟨v,rfl,h1,h2⟩;exact⟨congrArg A4 h1,h2⟩
  ·refine(cRn (ρ:=frs (jq a b)++ []) (args:=[row [0,1,2],row [3,4,5]]) (vs:=[va,vb]) (r:=.v (.one (.b false)))
    (ae (bo (i:=0) (j:=3) (l:=.b true) rfl rfl (lb (Fq.same_iff.2 c0)) (ha.x.mono th).p (ha.x.mono th).q (hb.x.mono th).p (hb.x.mono th).q) (ae (bo (i:=1) (j:=4) (l:=.b false) rfl rfl (lb (dR c1)) (ha.y.mono th).p (ha.y.mono th).q (hb.y.mono th).p (hb.y.mono th).q) ag))
    ah Tryz.func65 Ab ⟨(af (xs:=jq a b) (ks:=[0,1,2]) (vs:=[a.x,a.y,a.z]) Ad).2 ia,⟨(af (xs:=jq a b) (ks:=[3,4,5]) (vs:=[b.x,b.y,b.z]) Ad).2 C,trivial⟩⟩).mono ?_
   rintro e w' ⟨v,rfl,h1,h2⟩;exact⟨congrArg A4 h1,h2⟩
 ·refine(cRn (ρ:=frs (jr a b)++ []) (args:=[row [0,1,2],row [3,4,5]]) (vs:=[va,vb]) (r:=.v (.one (.b false)))
   (ae (bo (i:=0) (j:=3) (l:=.b false) rfl rfl (lb (dR c0)) (ha.x.mono th).p (ha.x.mono th).q (hb.x.mono th).p (hb.x.mono th).q) ag)
   ah Tryz.func65 Ab ⟨(af (xs:=jr a b) (ks:=[0,1,2]) (vs:=[a.x,a.y,a.z]) Ad).2 ia,⟨(af (xs:=jr a b) (ks:=[3,4,5]) (vs:=[b.x,b.y,b.z]) Ad).2 C,trivial⟩⟩).mono ?_
  rintro e w' ⟨v,rfl,h1,h2⟩;exact⟨congrArg A4 h1,h2⟩
theorem zm(C:AtL xs ka [a.x,a.y,a.z])(G:AtL xs kb [b.x,b.y,b.z])(ha:a.ok 1000000000)(hb:b.ok 1000000000)(H:a≠b):OkI xs ys ⟨65,[row ka,row kb],.v (.one (.b false))⟩:=
 ⟨ai Tryz.func65 rfl rfl,λB w vs hB h=>by
  match vs,h with
  | [va,vb],h=>
   refine(zk va vb a b w ((af C).1 h.1) ((af G).1 h.2.1) ha hb H).mono ?_;rintro e w' ⟨rfl,h2⟩;exact⟨_,rfl,rfl,h2⟩⟩
def jt(a:Vq)(b:Vq)(k:Fq):List Fq:=[a.x,a.y,a.z,b.x,b.y,b.z,k,(b.sub a).x,(b.sub a).y,(b.sub a).z,((b.sub a).scale k).x,((b.sub a).scale k).y,((b.sub a).scale k).z,(a.add ((b.sub a).scale k)).x,(a.add ((b.sub a).scale k)).y,(a.add ((b.sub a).scale k)).z]
theorem q_r4Lerp(va vb C:Value)(a:Vq)(b:Vq)(k:Fq)(w:World)(ia:cB w va a)(H:cB w vb b)(ik:IsQ w C k)(ha:a.ok 10000000)(hb:b.ok 10000000)(G:k.ok 10000000):
  AH AE 220 #[va,vb,C] w λe w'=>d7 w (a.lerp b k) e w':=by
 refine(cRn (ρ:=frs (jt a b k)++ []) (args:=[row [0,1,2],row [3,4,5],fr 6]) (vs:=[va,vb,C]) (r:=.v (row [13,14,15]))
  (ae (I_r4Sub (ka:=[3,4,5]) (a:=b) (kb:=[0,1,2]) (b:=a) (kr:=[7,8,9]) Ad Ad Ad (hb.mono th) (ha.mono th)) (ae (I_r4Scale (ka:=[7,8,9]) (a:=(b.sub a)) (ik:=6) (kr:=[10,11,12]) Ad rfl Ad ((hb.sub ha).mono th) (G.mono th)) (ae (I_r4Add (ka:=[0,1,2]) (a:=a) (kb:=[10,11,12]) (b:=((b.sub a).scale k)) (kr:=[13,14,15]) Ad Ad Ad (ha.mono th) (((hb.sub ha).scale G).mono th)) ag)))
  ah Tryz.func220 Ab ⟨(af (xs:=jt a b k) (ks:=[0,1,2]) (vs:=[a.x,a.y,a.z]) Ad).2 ia,⟨(af (xs:=jt a b k) (ks:=[3,4,5]) (vs:=[b.x,b.y,b.z]) Ad).2 H,⟨(aw (xs:=jt a b k) (k:=6) rfl).2 ik,trivial⟩⟩⟩).mono ?_
 rintro e w' ⟨v,rfl,h1,h2⟩;exact⟨v,rfl,(af (xs:=jt a b k) (ks:=[13,14,15]) (vs:=[(a.add ((b.sub a).scale k)).x,(a.add ((b.sub a).scale k)).y,(a.add ((b.sub a).scale k)).z]) Ad).1 h1,h2⟩
theorem I_r4Lerp{k:Fq}(C:AtL xs ka [a.x,a.y,a.z])(G:AtL xs kb [b.x,b.y,b.z])(H:xs[ik]? =some k)(I:AtL xs kr [(a.lerp b k).x,(a.lerp b k).y,(a.lerp b k).z])(ha:a.ok 10000000)(hb:b.ok 10000000)(J:k.ok 10000000):OkI xs ys ⟨220,[row ka,row kb,fr ik],.v (row kr)⟩:=
 ⟨ai Tryz.func220 rfl rfl,λB w vs hB h=>by
  match vs,h with
  | [va,vb,vk],h=>
   refine(q_r4Lerp va vb vk a b k w ((af C).1 h.1) ((af G).1 h.2.1) ((aw H).1 h.2.2.1) ha hb J).mono ?_;rintro e w' ⟨v,rfl,h1,h2⟩;exact⟨v,rfl,(af I).2 h1,h2⟩⟩
def sO(a:Vq):List Fq:=[a.x,a.y,a.z]
theorem q_r4Valid(va:Value)(a:Vq)(w:World)(ia:cB w va a)(ha:a.ok 1000000)(C:a.good):
  AH AE 209 #[va] w λe w'=>bk w (.bool true) e w':=by
 refine(cRn (ρ:=frs (sO a)++ []) (args:=[row [0,1,2]]) (vs:=[va]) (r:=.v (.one (.b true)))
  (ae (di (i:=0) (l:=.b true) rfl (lb C.x) (ha.x.mono th)) (ae (di (i:=1) (l:=.b true) rfl (lb C.y) (ha.y.mono th)) (ae (di (i:=2) (l:=.b true) rfl (lb C.z) (ha.z.mono th)) ag)))
  ah Er Ab ⟨(af (xs:=sO a) (ks:=[0,1,2]) (vs:=[a.x,a.y,a.z]) Ad).2 ia,trivial⟩).mono ?_
 rintro e w' ⟨v,rfl,h1,h2⟩;exact⟨congrArg A4 h1,h2⟩
theorem I_r4Valid(C:AtL xs ka [a.x,a.y,a.z])(ha:a.ok 1000000)(G:a.good):OkI xs ys ⟨209,[row ka],.v (.one (.b true))⟩:=
 ⟨ai Er rfl rfl,λB w vs hB h=>by
  match vs,h with
  | [va],h=>
   refine(q_r4Valid va a w ((af C).1 h.1) ha G).mono ?_;rintro e w' ⟨rfl,h2⟩;exact⟨_,rfl,rfl,h2⟩⟩
def sP:List Fq:=[(Fq.ofInt 0)]
theorem q_rO0_0_0(w:World):
  AH AE 64 #[.int .i64 (0),.int .i64 (0),.int .i64 (0)] w λe w'=>d7 w (Vq.of 0 0 0) e w':=by
 refine(cRn (ρ:=frs (sP)++ []) (args:=[.one (.i .i64 0),.one (.i .i64 0),.one (.i .i64 0)]) (vs:=[.int .i64 (0),.int .i64 (0),.int .i64 (0)]) (r:=.v (row [0,0,0]))
  (ae (jm (k:=0) rfl th th) ag)
  ah Tryz.func64 Ab ⟨rfl,⟨rfl,⟨rfl,trivial⟩⟩⟩).mono ?_
 rintro e w' ⟨v,rfl,h1,h2⟩;exact⟨v,rfl,(af (xs:=sP) (ks:=[0,0,0]) (vs:=[(Fq.ofInt 0),(Fq.ofInt 0),(Fq.ofInt 0)]) Ad).1 h1,h2⟩
theorem I_rO0_0_0(C:AtL xs kr [(Vq.of 0 0 0).x,(Vq.of 0 0 0).y,(Vq.of 0 0 0).z]):OkI xs ys ⟨64,[.one (.i .i64 0),.one (.i .i64 0),.one (.i .i64 0)],.v (row kr)⟩:=
 ⟨ai Tryz.func64 rfl rfl,λB w vs hB h=>by
  match vs,h with
  | [vx,vy,vz],h=>
   have ex:vx= .int .i64 (0):=h.1;subst ex;have ey:vy= .int .i64 (0):=h.2.1;subst ey;have G:vz= .int .i64 (0):=h.2.2.1;subst G;refine(q_rO0_0_0 w).mono ?_;rintro e w' ⟨v,rfl,h1,h2⟩;exact⟨v,rfl,(af C).2 h1,h2⟩⟩
def qD(a:Pq):List Fq:=a.cs
theorem Af{p:Prop}(h:p:=by exact⟨rfl,rfl,rfl,rfl,rfl,rfl,rfl,trivial⟩):p:=h
theorem q_poPose(va:Value)(a:Pq)(w:World)(ia:bh w va a)(ha:a.ok 1000000000):
  AH AE 78 #[va] w λe w'=>qC w a e w':=by
 refine(cRn (ρ:=frs (qD a)++ []) (args:=[row [0,1,2,3,4,5,6]]) (vs:=[va]) (r:=.v (row [0,1,2,3,4,5,6]))
  (ag)
  ah Tryz.func78 Ab ⟨(af (xs:=qD a) (ks:=[0,1,2,3,4,5,6]) (vs:=a.cs) Af).2 ia,trivial⟩).mono ?_
 rintro e w' ⟨v,rfl,h1,h2⟩;exact⟨v,rfl,(af (xs:=qD a) (ks:=[0,1,2,3,4,5,6]) (vs:=a.cs) Af).1 h1,h2⟩
variable{a:Pq}
theorem I_poPose(C:AtL xs ka a.cs)(G:AtL xs kr a.cs)(ha:a.ok 1000000000):OkI xs ys ⟨78,[row ka],.v (row kr)⟩:=
 ⟨ai Tryz.func78 rfl rfl,λB w vs hB h=>by
  match vs,h with
  | [va],h=>
   refine(q_poPose va a w ((af C).1 h.1) ha).mono ?_;rintro e w' ⟨v,rfl,h1,h2⟩;exact⟨v,rfl,(af G).2 h1,h2⟩⟩
def lR(a:Pq)(b:Pq):List Fq:=(a.cs++(b.cs))
theorem zn(va vb:Value)(a:Pq)(b:Pq)(w:World)(ia:bh w va a)(I:bh w vb b)(ha:a.ok 100000000)(hb:b.ok 100000000)(C:a=b)(G:a.good)(H:b.good):
  AH AE 55 #[va,vb] w λe w'=>bk w (.bool true) e w':=by
 refine(cRn (ρ:=frs (lR a b)++ []) (args:=[row [0,1,2,3,4,5,6],row [7,8,9,10,11,12,13]]) (vs:=[va,vb]) (r:=.v (.one (.b true)))
  (ae (sM (ka:=[0,1,2,3]) (a:=a.rot) (kb:=[7,8,9,10]) (b:=b.rot) Ac Ac (ha.rot.mono th) (hb.rot.mono th) (congrArg Pq.rot C) G.rot.comp H.rot.comp) (ae (I_vEqual1 (ka:=[4,5,6]) (a:=a.pos) (kb:=[11,12,13]) (b:=b.pos) Ad Ad (ha.pos.mono th) (hb.pos.mono th) (congrArg Pq.pos C) G.pos H.pos) ag))
  ah Tryz.func55 Ab ⟨(af (xs:=lR a b) (ks:=[0,1,2,3,4,5,6]) (vs:=a.cs) Af).2 ia,⟨(af (xs:=lR a b) (ks:=[7,8,9,10,11,12,13]) (vs:=b.cs) Af).2 I,trivial⟩⟩).mono ?_
 rintro e w' ⟨v,rfl,h1,h2⟩;exact⟨congrArg A4 h1,h2⟩
def lS(a:Pq)(b:Pq):List Fq:=(a.cs++(b.cs))
def ju(a:Pq)(b:Pq):List Fq:=(a.cs++(b.cs))
theorem zo(va vb:Value)(a:Pq)(b:Pq)(w:World)(ia:bh w va a)(H:bh w vb b)(ha:a.ok 100000000)(hb:b.ok 100000000)(I:a≠b)(C:a.good)(G:b.good):
  AH AE 55 #[va,vb] w λe w'=>bk w (.bool false) e w':=by
 by_cases c0:a.rot=b.rot
 ·by_cases c1:a.pos=b.pos
  ·exact absurd (by cases a;cases b;simp only at c0 c1;subst c0 c1;rfl) I
  ·refine(cRn (ρ:=frs (lS a b)++ []) (args:=[row [0,1,2,3,4,5,6],row [7,8,9,10,11,12,13]]) (vs:=[va,vb]) (r:=.v (.one (.b false)))
    (ae (sM (ka:=[0,1,2,3]) (a:=a.rot) (kb:=[7,8,9,10]) (b:=b.rot) Ac Ac (ha.rot.mono th) (hb.rot.mono th) c0 C.rot.comp G.rot.comp) (ae (I_vEqual0 (ka:=[4,5,6]) (a:=a.pos) (kb:=[11,12,13]) (b:=b.pos) Ad Ad (ha.pos.mono th) (hb.pos.mono th) c1 C.pos G.pos) ag))
    ah Tryz.func55 Ab ⟨(af (xs:=lS a b) (ks:=[0,1,2,3,4,5,6]) (vs:=a.cs) Af).2 ia,⟨(af (xs:=lS a b) (ks:=[7,8,9,10,11,12,13]) (vs:=b.cs) Af).2 H,trivial⟩⟩).mono ?_
   rintro e w' ⟨v,rfl,h1,h2⟩;exact⟨congrArg A4 h1,h2⟩
 ·refine(cRn (ρ:=frs (ju a b)++ []) (args:=[row [0,1,2,3,4,5,6],row [7,8,9,10,11,12,13]]) (vs:=[va,vb]) (r:=.v (.one (.b false)))
   (ae (I_fEqual0 (ka:=[0,1,2,3]) (a:=a.rot) (kb:=[7,8,9,10]) (b:=b.rot) Ac Ac (ha.rot.mono th) (hb.rot.mono th) c0 C.rot.comp G.rot.comp) ag)
   ah Tryz.func55 Ab ⟨(af (xs:=ju a b) (ks:=[0,1,2,3,4,5,6]) (vs:=a.cs) Af).2 ia,⟨(af (xs:=ju a b) (ks:=[7,8,9,10,11,12,13]) (vs:=b.cs) Af).2 H,trivial⟩⟩).mono ?_
  rintro e w' ⟨v,rfl,h1,h2⟩;exact⟨congrArg A4 h1,h2⟩
def sQ(a:Pq):List Fq:=a.cs
theorem q_poValid(va:Value)(a:Pq)(w:World)(ia:bh w va a)(ha:a.ok 1000000)(C:a.good):
  AH AE 122 #[va] w λe w'=>bk w (.bool true) e w':=by
 refine(cRn (ρ:=frs (sQ a)++ []) (args:=[row [0,1,2,3,4,5,6]]) (vs:=[va]) (r:=.v (.one (.b true)))
  (ae (ze (kq:=[0,1,2,3]) (q:=a.rot) Ac (ha.rot.mono th) C.rot) (ae (I_vValid (ka:=[4,5,6]) (a:=a.pos) Ad (ha.pos.mono th) C.pos) ag))
  ah Tryz.func122 Ab ⟨(af (xs:=sQ a) (ks:=[0,1,2,3,4,5,6]) (vs:=a.cs) Af).2 ia,trivial⟩).mono ?_
 rintro e w' ⟨v,rfl,h1,h2⟩;exact⟨congrArg A4 h1,h2⟩
def xrpIdX:List Fq:=(Qq.id.cs++([(Vq.of 0 0 0).x,(Vq.of 0 0 0).y,(Vq.of 0 0 0).z]))
theorem q_rpId(w:World):
  AH AE 149 #[] w λe w'=>qC w Pq.id e w':=by
 refine(cRn (ρ:=frs (xrpIdX)++ []) (args:=[]) (vs:=[]) (r:=.v (row [0,1,2,3,4,5,6]))
  (ae (I_rId (kr:=[0,1,2,3]) Ac) (ae (I_rO0_0_0 (kr:=[4,5,6]) Ad) ag))
  ah Tryz.func149 Ab trivial).mono ?_
 rintro e w' ⟨v,rfl,h1,h2⟩;exact⟨v,rfl,(af (xs:=xrpIdX) (ks:=[0,1,2,3,4,5,6]) (vs:=(Qq.id.cs++([(Vq.of 0 0 0).x,(Vq.of 0 0 0).y,(Vq.of 0 0 0).z]))) Af).1 h1,h2⟩
theorem I_rpId(C:AtL xs kr Pq.id.cs):OkI xs ys ⟨149,[],.v (row kr)⟩:=
 ⟨ai Tryz.func149 rfl rfl,λB w vs hB h=>by
  match vs,h with
  | [],h=>
   refine(q_rpId w).mono ?_;rintro e w' ⟨v,rfl,h1,h2⟩;exact⟨v,rfl,(af C).2 h1,h2⟩⟩
def lT(a:Pq)(b:Pq):List Fq:=(a.cs++(b.cs))
theorem qE(va vb:Value)(a:Pq)(b:Pq)(w:World)(ia:bh w va a)(G:bh w vb b)(ha:a.ok 100000000)(hb:b.ok 100000000)(C:a=b):
  AH AE 45 #[va,vb] w λe w'=>bk w (.bool true) e w':=by
 refine(cRn (ρ:=frs (lT a b)++ []) (args:=[row [0,1,2,3,4,5,6],row [7,8,9,10,11,12,13]]) (vs:=[va,vb]) (r:=.v (.one (.b true)))
  (ae (sL (ka:=[0,1,2,3]) (a:=a.rot) (kb:=[7,8,9,10]) (b:=b.rot) Ac Ac (ha.rot.mono th) (hb.rot.mono th) (congrArg Pq.rot C)) (ae (zj (ka:=[4,5,6]) (a:=a.pos) (kb:=[11,12,13]) (b:=b.pos) Ad Ad (ha.pos.mono th) (hb.pos.mono th) (congrArg Pq.pos C)) ag))
  ah Tryz.func45 Ab ⟨(af (xs:=lT a b) (ks:=[0,1,2,3,4,5,6]) (vs:=a.cs) Af).2 ia,⟨(af (xs:=lT a b) (ks:=[7,8,9,10,11,12,13]) (vs:=b.cs) Af).2 G,trivial⟩⟩).mono ?_
 rintro e w' ⟨v,rfl,h1,h2⟩;exact⟨congrArg A4 h1,h2⟩
def lU(a:Pq)(b:Pq):List Fq:=(a.cs++(b.cs))
def jv(a:Pq)(b:Pq):List Fq:=(a.cs++(b.cs))
theorem zp(va vb:Value)(a:Pq)(b:Pq)(w:World)(ia:bh w va a)(C:bh w vb b)(ha:a.ok 100000000)(hb:b.ok 100000000)(G:a≠b):
  AH AE 45 #[va,vb] w λe w'=>bk w (.bool false) e w':=by
 by_cases c0:a.rot=b.rot
 ·by_cases c1:a.pos=b.pos
  ·exact absurd (by cases a;cases b;simp only at c0 c1;subst c0 c1;rfl) G
  ·refine(cRn (ρ:=frs (lU a b)++ []) (args:=[row [0,1,2,3,4,5,6],row [7,8,9,10,11,12,13]]) (vs:=[va,vb]) (r:=.v (.one (.b false)))
    (ae (sL (ka:=[0,1,2,3]) (a:=a.rot) (kb:=[7,8,9,10]) (b:=b.rot) Ac Ac (ha.rot.mono th) (hb.rot.mono th) c0) (ae (zm (ka:=[4,5,6]) (a:=a.pos) (kb:=[11,12,13]) (b:=b.pos) Ad Ad (ha.pos.mono th) (hb.pos.mono th) c1) ag))
    ah Tryz.func45 Ab ⟨(af (xs:=lU a b) (ks:=[0,1,2,3,4,5,6]) (vs:=a.cs) Af).2 ia,⟨(af (xs:=lU a b) (ks:=[7,8,9,10,11,12,13]) (vs:=b.cs) Af).2 C,trivial⟩⟩).mono ?_
   rintro e w' ⟨v,rfl,h1,h2⟩;exact⟨congrArg A4 h1,h2⟩
 ·refine(cRn (ρ:=frs (jv a b)++ []) (args:=[row [0,1,2,3,4,5,6],row [7,8,9,10,11,12,13]]) (vs:=[va,vb]) (r:=.v (.one (.b false)))
   (ae (I_rEqual0 (ka:=[0,1,2,3]) (a:=a.rot) (kb:=[7,8,9,10]) (b:=b.rot) Ac Ac (ha.rot.mono th) (hb.rot.mono th) c0) ag)
   ah Tryz.func45 Ab ⟨(af (xs:=jv a b) (ks:=[0,1,2,3,4,5,6]) (vs:=a.cs) Af).2 ia,⟨(af (xs:=jv a b) (ks:=[7,8,9,10,11,12,13]) (vs:=b.cs) Af).2 C,trivial⟩⟩).mono ?_
  rintro e w' ⟨v,rfl,h1,h2⟩;exact⟨congrArg A4 h1,h2⟩
def sR(a:Pq):List Fq:=a.cs
theorem q_rpValid(va:Value)(a:Pq)(w:World)(ia:bh w va a)(ha:a.ok 1000000)(C:a.good):
  AH AE 158 #[va] w λe w'=>bk w (.bool true) e w':=by
 refine(cRn (ρ:=frs (sR a)++ []) (args:=[row [0,1,2,3,4,5,6]]) (vs:=[va]) (r:=.v (.one (.b true)))
  (ae (zg (kq:=[0,1,2,3]) (q:=a.rot) Ac (ha.rot.mono th) C.rot) (ae (I_r4Valid (ka:=[4,5,6]) (a:=a.pos) Ad (ha.pos.mono th) C.pos) ag))
  ah Tryz.func158 Ab ⟨(af (xs:=sR a) (ks:=[0,1,2,3,4,5,6]) (vs:=a.cs) Af).2 ia,trivial⟩).mono ?_
 rintro e w' ⟨v,rfl,h1,h2⟩;exact⟨congrArg A4 h1,h2⟩
def jw(a:Pq)(b:Pq)(m:Fq):List Fq:=(a.cs++(b.cs++([m]++((a.rot.way (a.rot.inv.mul b.rot) m).cs++([(a.pos.lerp b.pos m).x,(a.pos.lerp b.pos m).y,(a.pos.lerp b.pos m).z])))))
theorem xb(va vb J:Value)(a:Pq)(b:Pq)(m:Fq)(w:World)(ia:bh w va a)(P:bh w vb b)(im:IsQ w J m)(ha:a.ok 100)(hb:b.ok 100)(C:m.ok 100)(G:a.good)(H:b.good)(I:m.valid=true)(K:(a.rot.inv.mul b.rot).w.p≠0):
  AH AE 167 #[va,vb,J] w λe w'=>uw w (Pq.mk (a.rot.way (a.rot.inv.mul b.rot) m) (a.pos.lerp b.pos m)) 0 e w':=by
 refine(cRn (ρ:=frs (jw a b m)++ []) (args:=[row [0,1,2,3,4,5,6],row [7,8,9,10,11,12,13],fr 14]) (vs:=[va,vb,J]) (r:=.tup [row [15,16,17,18,19,20,21],.one (.i .i64 0)])
  (ae (I_fBtw1 (kp:=[0,1,2,3]) (p:=a.rot) (kq:=[7,8,9,10]) (q:=b.rot) (im:=14) (kr:=[15,16,17,18]) Ac Ac rfl Ac (ha.rot.mono th) (hb.rot.mono th) (C.mono th) G.rot H.rot I K) (ae (I_vLerp (ka:=[4,5,6]) (a:=a.pos) (kb:=[11,12,13]) (b:=b.pos) (ik:=14) (kr:=[19,20,21]) Ad Ad rfl Ad (ha.pos.mono th) (hb.pos.mono th) (C.mono th)) (ae (I_poPose (ka:=[15,16,17,18,19,20,21]) (a:=(Pq.mk (a.rot.way (a.rot.inv.mul b.rot) m) (a.pos.lerp b.pos m))) (kr:=[15,16,17,18,19,20,21]) Af Af (⟨⟨(qt ha.rot hb.rot C G.rot H.rot I).w.mono th,(qt ha.rot hb.rot C G.rot H.rot I).x.mono th,(qt ha.rot hb.rot C G.rot H.rot I).y.mono th,(qt ha.rot hb.rot C G.rot H.rot I).z.mono th⟩,⟨(ha.pos.lerp hb.pos C).x.mono th,(ha.pos.lerp hb.pos C).y.mono th,(ha.pos.lerp hb.pos C).z.mono th⟩⟩:Pq.ok 1000000000 (Pq.mk (a.rot.way (a.rot.inv.mul b.rot) m) (a.pos.lerp b.pos m)))) ag)))
  ah Tryz.func167 Ab ⟨(af (xs:=jw a b m) (ks:=[0,1,2,3,4,5,6]) (vs:=a.cs) Af).2 ia,⟨(af (xs:=jw a b m) (ks:=[7,8,9,10,11,12,13]) (vs:=b.cs) Af).2 P,⟨(aw (xs:=jw a b m) (k:=14) rfl).2 im,trivial⟩⟩⟩).mono ?_
 rintro e w' ⟨v,rfl,⟨vs,rfl,h1⟩,h2⟩
 match vs,h1 with
 | [r,c],h1=>
  obtain⟨⟨cs,rfl,U⟩,k2,_⟩:=h1;have k2:c=_:=k2;subst k2;exact⟨_,rfl,(af (xs:=jw a b m) (ks:=[15,16,17,18,19,20,21]) (vs:=((a.rot.way (a.rot.inv.mul b.rot) m).cs++([(a.pos.lerp b.pos m).x,(a.pos.lerp b.pos m).y,(a.pos.lerp b.pos m).z]))) Af).1 ⟨_,rfl,U⟩,h2⟩
variable{b:Pq}
theorem I_poBtw1(C:AtL xs ka a.cs)(G:AtL xs kb b.cs)(H:xs[im]? =some m)(I:AtL xs kr ((a.rot.way (a.rot.inv.mul b.rot) m).cs++([(a.pos.lerp b.pos m).x,(a.pos.lerp b.pos m).y,(a.pos.lerp b.pos m).z])))(ha:a.ok 100)(hb:b.ok 100)(U:m.ok 100)(J:a.good)(K:b.good)(P:m.valid=true)(V:(a.rot.inv.mul b.rot).w.p≠0):OkI xs ys ⟨167,[row ka,row kb,fr im],.tup [row kr,.one (.i .i64 0)]⟩:=
 ⟨ai Tryz.func167 rfl rfl,λB w vs hB h=>by
  match vs,h with
  | [va,vb,vm],h=>
   refine(xb va vb vm a b m w ((af C).1 h.1) ((af G).1 h.2.1) ((aw H).1 h.2.2.1) ha hb U J K P V).mono ?_;rintro e w' ⟨v,rfl,h1,h2⟩;exact⟨_,rfl,⟨[v,.int .i64 0],rfl,(af I).2 h1,rfl,trivial⟩,h2⟩⟩
def mS(a:Pq)(b:Pq)(m:Fq):List Fq:=(a.cs++(b.cs++([m]++(Qq.zero.cs))))
theorem q_poBtw4(va vb C:Value)(a:Pq)(b:Pq)(m:Fq)(w:World)(ia:bh w va a)(P:bh w vb b)(im:IsQ w C m)(ha:a.ok 100)(hb:b.ok 100)(J:m.ok 100)(G:a.good)(H:b.good)(I:m.valid=true)(K:(a.rot.inv.mul b.rot).w.p=0)(h0:m.p≠0)(h1:m≠(Fq.ofInt 1)):
  AH AE 167 #[va,vb,C] w λe w'=>uw w Pq.zero 4 e w':=by
 refine(cRn (ρ:=frs (mS a b m)++ []) (args:=[row [0,1,2,3,4,5,6],row [7,8,9,10,11,12,13],fr 14]) (vs:=[va,vb,C]) (r:=.tup [.agg [.b false,.sl0,.sl0,.b false,.sl0,.sl0,.b false,.sl0,.sl0,.b false,.sl0,.sl0,.b false,.sl0,.sl0,.b false,.sl0,.sl0,.b false,.sl0,.sl0],.one (.i .i64 4)])
  (ae (I_fBtw4 (kp:=[0,1,2,3]) (p:=a.rot) (kq:=[7,8,9,10]) (q:=b.rot) (im:=14) (kr:=[15,16,17,18]) Ac Ac rfl Ac (ha.rot.mono th) (hb.rot.mono th) (J.mono th) G.rot H.rot I K h0 h1) ag)
  ah Tryz.func167 Ab ⟨(af (xs:=mS a b m) (ks:=[0,1,2,3,4,5,6]) (vs:=a.cs) Af).2 ia,⟨(af (xs:=mS a b m) (ks:=[7,8,9,10,11,12,13]) (vs:=b.cs) Af).2 P,⟨(aw (xs:=mS a b m) (k:=14) rfl).2 im,trivial⟩⟩⟩).mono ?_
 rintro e w' ⟨v,rfl,⟨vs,rfl,h1⟩,h2⟩
 match vs,h1 with
 | [r,c],h1=>
  obtain⟨⟨cs,rfl,U⟩,k2,_⟩:=h1;have k2:c=_:=k2;subst k2;exact⟨_,rfl,⟨_,rfl,gT (n:=7) U⟩,h2⟩
theorem I_poBtw4(C:AtL xs ka a.cs)(G:AtL xs kb b.cs)(H:xs[im]? =some m)(I:AtL xs kr Pq.zero.cs)(ha:a.ok 100)(hb:b.ok 100)(U:m.ok 100)(J:a.good)(K:b.good)(P:m.valid=true)(V:(a.rot.inv.mul b.rot).w.p=0)(h0:m.p≠0)(h1:m≠(Fq.ofInt 1)):OkI xs ys ⟨167,[row ka,row kb,fr im],.tup [row kr,.one (.i .i64 4)]⟩:=
 ⟨ai Tryz.func167 rfl rfl,λB w vs hB h=>by
  match vs,h with
  | [va,vb,vm],h=>
   refine(q_poBtw4 va vb vm a b m w ((af C).1 h.1) ((af G).1 h.2.1) ((aw H).1 h.2.2.1) ha hb U J K P V h0 h1).mono ?_;rintro e w' ⟨v,rfl,h1,h2⟩;exact⟨_,rfl,⟨[v,.int .i64 4],rfl,(af I).2 h1,rfl,trivial⟩,h2⟩⟩
def jx(a:Pq)(b:Pq)(m:Fq):List Fq:=(a.cs++(b.cs++([m]++((a.rot.way (a.rot.inv.mul b.rot) m).cs++([(a.pos.lerp b.pos m).x,(a.pos.lerp b.pos m).y,(a.pos.lerp b.pos m).z])))))
theorem xc(va vb C:Value)(a:Pq)(b:Pq)(m:Fq)(w:World)(ia:bh w va a)(P:bh w vb b)(im:IsQ w C m)(ha:a.ok 100)(hb:b.ok 100)(G:m.ok 100)(H:a.good)(I:b.good)(J:m.valid=true)(K:(a.rot.inv.mul b.rot).w.p≠0):
  AH AE 170 #[va,vb,C] w λe w'=>uw w (Pq.mk (a.rot.way (a.rot.inv.mul b.rot) m) (a.pos.lerp b.pos m)) 0 e w':=by
 refine(cRn (ρ:=frs (jx a b m)++ []) (args:=[row [0,1,2,3,4,5,6],row [7,8,9,10,11,12,13],fr 14]) (vs:=[va,vb,C]) (r:=.tup [row [15,16,17,18,19,20,21],.one (.i .i64 0)])
  (ae (I_rBtw1 (kp:=[0,1,2,3]) (p:=a.rot) (kq:=[7,8,9,10]) (q:=b.rot) (im:=14) (kr:=[15,16,17,18]) Ac Ac rfl Ac (ha.rot.mono th) (hb.rot.mono th) (G.mono th) H.rot I.rot J K) (ae (I_r4Lerp (ka:=[4,5,6]) (a:=a.pos) (kb:=[11,12,13]) (b:=b.pos) (ik:=14) (kr:=[19,20,21]) Ad Ad rfl Ad (ha.pos.mono th) (hb.pos.mono th) (G.mono th)) ag))
  ah Tryz.func170 Ab ⟨(af (xs:=jx a b m) (ks:=[0,1,2,3,4,5,6]) (vs:=a.cs) Af).2 ia,⟨(af (xs:=jx a b m) (ks:=[7,8,9,10,11,12,13]) (vs:=b.cs) Af).2 P,⟨(aw (xs:=jx a b m) (k:=14) rfl).2 im,trivial⟩⟩⟩).mono ?_
 rintro e w' ⟨v,rfl,⟨vs,rfl,h1⟩,h2⟩
 match vs,h1 with
 | [r,c],h1=>
  obtain⟨⟨cs,rfl,U⟩,k2,_⟩:=h1;have k2:c=_:=k2;subst k2;exact⟨_,rfl,(af (xs:=jx a b m) (ks:=[15,16,17,18,19,20,21]) (vs:=((a.rot.way (a.rot.inv.mul b.rot) m).cs++([(a.pos.lerp b.pos m).x,(a.pos.lerp b.pos m).y,(a.pos.lerp b.pos m).z]))) Af).1 ⟨_,rfl,U⟩,h2⟩
theorem I_rpBtw1(C:AtL xs ka a.cs)(G:AtL xs kb b.cs)(H:xs[im]? =some m)(I:AtL xs kr ((a.rot.way (a.rot.inv.mul b.rot) m).cs++([(a.pos.lerp b.pos m).x,(a.pos.lerp b.pos m).y,(a.pos.lerp b.pos m).z])))(ha:a.ok 100)(hb:b.ok 100)(U:m.ok 100)(J:a.good)(K:b.good)(P:m.valid=true)(V:(a.rot.inv.mul b.rot).w.p≠0):OkI xs ys ⟨170,[row ka,row kb,fr im],.tup [row kr,.one (.i .i64 0)]⟩:=
 ⟨ai Tryz.func170 rfl rfl,λB w vs hB h=>by
  match vs,h with
  | [va,vb,vm],h=>
   refine(xc va vb vm a b m w ((af C).1 h.1) ((af G).1 h.2.1) ((aw H).1 h.2.2.1) ha hb U J K P V).mono ?_;rintro e w' ⟨v,rfl,h1,h2⟩;exact⟨_,rfl,⟨[v,.int .i64 0],rfl,(af I).2 h1,rfl,trivial⟩,h2⟩⟩
def mT(a:Pq)(b:Pq)(m:Fq):List Fq:=(a.cs++(b.cs++([m]++(Qq.zero.cs))))
theorem q_rpBtw4(va vb C:Value)(a:Pq)(b:Pq)(m:Fq)(w:World)(ia:bh w va a)(P:bh w vb b)(im:IsQ w C m)(ha:a.ok 100)(hb:b.ok 100)(J:m.ok 100)(G:a.good)(H:b.good)(I:m.valid=true)(K:(a.rot.inv.mul b.rot).w.p=0)(h0:m.p≠0)(h1:m≠(Fq.ofInt 1)):
  AH AE 170 #[va,vb,C] w λe w'=>uw w Pq.zero 4 e w':=by
 refine(cRn (ρ:=frs (mT a b m)++ []) (args:=[row [0,1,2,3,4,5,6],row [7,8,9,10,11,12,13],fr 14]) (vs:=[va,vb,C]) (r:=.tup [.agg [.b false,.sl0,.sl0,.b false,.sl0,.sl0,.b false,.sl0,.sl0,.b false,.sl0,.sl0,.b false,.sl0,.sl0,.b false,.sl0,.sl0,.b false,.sl0,.sl0],.one (.i .i64 4)])
  (ae (I_rBtw4 (kp:=[0,1,2,3]) (p:=a.rot) (kq:=[7,8,9,10]) (q:=b.rot) (im:=14) (kr:=[15,16,17,18]) Ac Ac rfl Ac (ha.rot.mono th) (hb.rot.mono th) (J.mono th) G.rot H.rot I K h0 h1) ag)
  ah Tryz.func170 Ab ⟨(af (xs:=mT a b m) (ks:=[0,1,2,3,4,5,6]) (vs:=a.cs) Af).2 ia,⟨(af (xs:=mT a b m) (ks:=[7,8,9,10,11,12,13]) (vs:=b.cs) Af).2 P,⟨(aw (xs:=mT a b m) (k:=14) rfl).2 im,trivial⟩⟩⟩).mono ?_
 rintro e w' ⟨v,rfl,⟨vs,rfl,h1⟩,h2⟩
 match vs,h1 with
 | [r,c],h1=>
  obtain⟨⟨cs,rfl,U⟩,k2,_⟩:=h1;have k2:c=_:=k2;subst k2;exact⟨_,rfl,⟨_,rfl,gT (n:=7) U⟩,h2⟩
theorem I_rpBtw4(C:AtL xs ka a.cs)(G:AtL xs kb b.cs)(H:xs[im]? =some m)(I:AtL xs kr Pq.zero.cs)(ha:a.ok 100)(hb:b.ok 100)(U:m.ok 100)(J:a.good)(K:b.good)(P:m.valid=true)(V:(a.rot.inv.mul b.rot).w.p=0)(h0:m.p≠0)(h1:m≠(Fq.ofInt 1)):OkI xs ys ⟨170,[row ka,row kb,fr im],.tup [row kr,.one (.i .i64 4)]⟩:=
 ⟨ai Tryz.func170 rfl rfl,λB w vs hB h=>by
  match vs,h with
  | [va,vb,vm],h=>
   refine(q_rpBtw4 va vb vm a b m w ((af C).1 h.1) ((af G).1 h.2.1) ((aw H).1 h.2.2.1) ha hb U J K P V h0 h1).mono ?_;rintro e w' ⟨v,rfl,h1,h2⟩;exact⟨_,rfl,⟨[v,.int .i64 4],rfl,(af I).2 h1,rfl,trivial⟩,h2⟩⟩
variable{v:Value}
theorem ft(h:eO v):v.oneCell'=true:=by
 cases v with
 | agg cs=>exact absurd rfl (h.1 cs)
 | tuple vs=>exact absurd rfl (h.2.1 vs)
 | _=>rfl
def aK(w:World)(qs:List Vp)(xs:List Value):Prop:=xs.length=qs.length/\∀(j:Nat)(q:Vp),qs[j]? =some q->∃u,xs[j]? =some u/\q.p w u/\∀g,¬q.fp w u g
variable{w:World}{xs:List Value}
theorem aK.append{qs qs':List Vp}{C:List Value}(h:aK w qs xs)(H:aK w qs' C):aK w (qs++qs') (xs++C):=by
 refine⟨by simp[h.1,H.1],λj q G=> ?_⟩;by_cases hl:j<qs.length
 ·rw[Bw hl]at G;obtain⟨u,h1,h2⟩:=h.2 j q G;exact⟨u,by rw[Bw (by rw[h.1];exact hl)];exact h1,h2⟩
 ·rw[Bq Aa]at G;obtain⟨u,h1,h2⟩:=H.2 _ q G;exact⟨u,by rw[Bq (by rw[h.1];omega),h.1];exact h1,h2⟩
theorem aK.chg{w':World}{X:Nat->Prop}{qs:List Vp}(h:aK w qs xs)(k:Chg w w' X):aK w' qs xs:=
 ⟨h.1,λj q G=>by
  obtain⟨u,h1,h2,h3⟩:=h.2 j q G;obtain⟨c1,c2⟩:=q.ch w w' X u h2 k (λg C=>absurd C (h3 g));exact⟨u,h1,c1,λg C=>h3 g (c2 g C)⟩⟩
theorem aK.flat{qs:List Vp}(h:aK w qs xs):∀u∈xs,eO u:=λu H=>by
 obtain⟨j,C,rfl⟩:=List.getElem_of_mem H;have G:j<qs.length:=by rw[<-h.1];exact C
 obtain⟨I,h1,h2,_⟩:=h.2 j _ (AU G);rw[AU C]at h1;injection h1 with h1;rw[h1];exact qs[j].fl w I h2
def noU(u:Value):Prop:=∀n,u≠ .int .u32 n
def aY(w:World)(T:TypeId)(sz:Nat)(v:Value)(L:Nat)(xs:List Value):Prop:=w.ownsRow 0 T sz v L xs/\∀g,v.ownBlock=some g->Own w g
theorem od{g:Nat}{cs:Array Value}{t:TypeId}(h:w.heap[g]? =some (.cells cs t (0,0)))(hc:∀u∈cs.toList,noU u):Own w g:=
 ⟨cs,t,h,λk n C=>hc (.int .u32 n) (by rw[<-BU]at C;exact List.mem_of_getElem? C) n rfl⟩
theorem sS{g:Nat}{cs:Array Value}{t:TypeId}{H:Nat×Nat}(h:w.heap[g]? =some (.cells cs t H))(o:Own w g):∀u∈cs.toList,noU u:=λu I n e=>by
 obtain⟨G,J,h1,h2⟩:=o;rw[h]at h1;injection h1 with h1;injection h1 with h1 _ _;subst h1;obtain⟨k,C⟩:=List.getElem?_of_mem I;rw[BU,e]at C;exact h2 k n C
theorem xd{z:Array Value}(hz:∀u∈z.toList,noU u)(h0:0<z.size)(n:Nat):∀u∈(Es z n).toList,noU u:=λu C=>by
 unfold Es at C;simp only[Array.toList_map,Array.toList_range,List.mem_map]at C;obtain⟨i,_,rfl⟩:=C;have G:i % z.size<z.size:=Nat.mod_lt _ h0;rw[getElem!_pos z _ G];exact hz _ Ag
theorem ux{p:Program}{w:World}{t ty e:TypeId}{i:TypeInfo}{z:Value}(ht:p.underlying t=some (.slice e))(hi:p.info? e=some i)(hz:i.zero=some z)(hzs:z.cells.size=i.size)(hsz:0<i.size)(hzu:∀u∈z.cells.toList,noU u)
  {v:Value}{n:Nat}{xs:List Value}(ho:aY w e i.size v n xs){a:Addr}{m c:Nat}{news:List Value}(hl:news.length=m*i.size)(hnews:∀j u,news[j]? =some u->w.cell? (a.add j)=some u)(h1:∀u∈news,u.oneCell'=true)(hnu:∀u∈news,noU u)
  (hm:0<m)(hb:(n+m)*i.bytes<=140737488355328)(hn:n+m<=1000000000000000):
  ∃v' w',(Builtin.append_ #[t,t] ty #[v,.slice (some a) m c]).run p w= .ok v' w'/\w.grownBy w' v.ownBlock/\(∀g,v.ownBlock=some g->Own w' g)/\(∀g,v'.ownBlock=some g->v.ownBlock=some g\/w.heap.size<=g)/\aY w' e i.size v' (n+m) (xs++news):=by
 obtain⟨hown,hOwn⟩:=ho;have hlen:(xs++news).length=(n+m)*i.size:=by rw[List.length_append,hown.1,hl,Nat.add_mul]
 have hmax:n+m<=maxLen:=by simp only[maxLen];omega
 have moved:∀old,(∀u∈xs,noU u)->
   w.grownBy (w.drew.alloc (.cells (xs.toArray++news.toArray++Builtin.zeroCells z.cells (grownCap w (n+m) old e - (n+m))) e)) v.ownBlock/\
   aY (w.drew.alloc (.cells (xs.toArray++news.toArray++Builtin.zeroCells z.cells (grownCap w (n+m) old e - (n+m))) e)) e i.size (.slice (some ⟨w.heap.size,0,none⟩) (n+m) (grownCap w (n+m) old e)) (n+m) (xs++news):=by
  intro old hxu;have h2:=grownCap_ge w (n+m) old e;have hnew:=heap_alloc_new w.drew (.cells (xs.toArray++news.toArray++Builtin.zeroCells z.cells (grownCap w (n+m) old e - (n+m))) e);refine⟨⟨rfl,rfl,rfl,by simp,λk hk _=>heap_alloc_old w.drew _ hk⟩,⟨hlen,.inr ⟨w.heap.size,_,_,rfl,Nat.zero_le _,hnew,h2,grownCap_le_maxLen w (n+m) old e hmax,?_,?_⟩⟩,λg hg=> ?_⟩
  ·simp only[Array.size_append,List.size_toArray,size_zeroCells,hzs,hown.1,hl];rw[<-Nat.add_mul,<-Nat.add_mul]
   congr 1;omega
  ·simp only[Array.toList_append,List.append_assoc];rw[<-List.append_assoc,<-hlen];exact List.take_left
  ·injection hg with hg;subst hg;refine od hnew (λu hu=> ?_);simp only[Array.toList_append,List.mem_append]at hu;rcases hu with(hu | hu) | hu
   ·exact hxu u hu
   ·exact hnu u hu
   ·exact xd hzu (by omega) _ u hu
 rcases hown.2 with⟨rfl,rfl⟩ | ⟨g,cap,cur,rfl,hbg,hg,hnc,hcm,hcs,htake⟩
 ·have hx:xs=[]:=List.eq_nil_of_length_eq_zero (by simpa using hown.1);subst hx;have hr:=run_append_nil (P:=p) w t ty e i z ht hi hz a m c news hl hnews (by omega) (by omega) (by have:=hb;simp only[Nat.zero_add]at this;omega);have h2:=moved 0 (λu hu=>by cases hu);simp only[Nat.zero_add,List.nil_append,Array.empty_append]at h2⊢;exact⟨_,_,hr,h2.1,λg hg=>(by cases hg),λg hg=>.inr (by have h:w.heap.size=g:=Option.some.inj hg;omega),h2.2⟩
 ·have hcu:=sS hg (hOwn g rfl);by_cases hroom:n+m<=cap
  ·have hfit:n*i.size+news.length<=cur.size:=by rw[hl,hcs,<-Nat.add_mul];exact Nat.mul_le_mul_right _ hroom
   have hr:=run_append_room (P:=p) w t ty e i ht hi g n cap cur hg a m c news hl hnews h1 hroom hfit;have hset:=setRow_heap w g cur (cur.toList.take (n*i.size)++news++cur.toList.drop (n*i.size+news.length)).toArray e (0,0) hg;refine⟨_,_,hr,⟨rfl,rfl,rfl,by simp,λk _ hk=>setRow_other w g k _ (λe=>hk (by simp[Value.ownBlock,e]))⟩,λg' hg'=> ?_,λg' hg'=>.inl hg',⟨hlen,.inr ⟨g,cap,_,rfl,hbg,hset,hroom,hcm,?_,?_⟩⟩,λg' hg'=> ?_⟩
   ·injection hg' with hg';subst hg';refine od hset (λu hu=> ?_);simp only[List.mem_append]at hu;rcases hu with(hu | hu) | hu
    ·exact hcu u (List.mem_of_mem_take hu)
    ·exact hnu u hu
    ·exact hcu u (List.mem_of_mem_drop hu)
   ·simp only[List.size_toArray,List.length_append,List.length_take,List.length_drop,Array.length_toList];omega
   ·rw[htake,<-hlen];exact List.take_left
   ·injection hg' with hg';subst hg';refine od hset (λu hu=> ?_);simp only[List.mem_append]at hu;rcases hu with(hu | hu) | hu
    ·exact hcu u (List.mem_of_mem_take hu)
    ·exact hnu u hu
    ·exact hcu u (List.mem_of_mem_drop hu)
  ·have holds:∀j u,xs[j]? =some u->w.cell? ((⟨g,0,none⟩:Addr).add j)=some u:=hown.cells (g:=g) rfl;have hr:=run_append_grow (P:=p) w t ty e i z ht hi hz ⟨g,0,none⟩ n cap xs hown.1 holds a m c news hl hnews (by omega) (by omega) (growslice_fits (by omega) hb);have h2:=moved cap (λu hu=>hcu u (by rw[<-htake]at hu;exact List.mem_of_mem_take hu));exact⟨_,_,hr,h2.1,λg' hg'=>by
    injection hg' with hg';subst hg';obtain⟨cs,t,k1,k2⟩:=hOwn g rfl;exact⟨cs,t,(heap_alloc_old w.drew _ (Array.getElem?_eq_some_iff.1 k1).1).trans k1,k2⟩,λg' hg'=>.inr (by have h:w.heap.size=g':=Option.some.inj hg';omega),h2.2⟩
def Vp.ownr(T:TypeId)(sz L:Nat)(qs:List Vp):Vp:=.of (λw v=>∃xs,aY w T sz v L xs/\aK w qs xs)
 (λv g=>v.ownBlock=some g)
 (λw w' X v ⟨xs,⟨⟨h1,h2⟩,h0⟩,k⟩ hc hX=>by
  have hsame:∀g,v.ownBlock=some g->w'.heap[g]? =w.heap[g]? :=λg hg=>hc.blk g (by obtain⟨cs,t,h,_⟩:=h0 g hg;exact(A8.1 h).1) (hX g hg)
  refine⟨xs,⟨⟨h1,h2.imp id λ⟨g,cap,cur,e,hb,hg,hr⟩=>⟨g,cap,cur,e,hb,by rw[hsame g (by rw[e];rfl)];exact hg,hr⟩⟩,λg hg=> ?_⟩,k.chg hc⟩;obtain⟨cs,t,h3,h4⟩:=h0 g hg;exact⟨cs,t,by rw[hsame g hg];exact h3,h4⟩)
 (λw v g ⟨xs,⟨_,h0⟩,_⟩ hg=>by obtain⟨cs,t,h,_⟩:=h0 g hg;exact(A8.1 h).1)
 (λw v ⟨xs,⟨⟨_,h⟩,_⟩,_⟩=>by
  rcases h with⟨rfl,_⟩ | ⟨g',cap,cur,rfl,_⟩<;>exact qe)
section
variable {ρ:Rho} {n m r k i L M:Nat} {t T:TypeId} {qs qs':List Vp} {z:Value} {ti:TypeInfo} {l:Leaf}
theorem qG{x:Value}(J:(Vp.row T M qs').p w x)(h0:qs'≠ []):∃a c C,x= .slice (some a) M c/\aK w qs' C/\(∀j u,C[j]? =some u->w.cell? (a.add j)=some u):=by
 rcases J with⟨h,_⟩ | ⟨b,o,c,cs,rfl,hc,hb,I⟩
 ·exact absurd h h0
 ·have:∃C:List Value,aK w qs' C/\∀j u,C[j]? =some u->cs[o+j]? =some u:=by
   clear h0 hc hb
   induction qs' generalizing o with
   | nil=>exact⟨[],⟨rfl,λj q h=>Aq⟩,λj u h=>Aq⟩
   | cons q qs ih=>
    obtain⟨u,h1,h2,h3⟩:=I 0 q rfl;obtain⟨C,h4,h5⟩:=ih (o+1) (λj q G=>by
     obtain⟨u,h1,h2⟩:=I (j+1) q AB;exact⟨u,by rw[show o+1+j=o+(j+1)from Aa];exact h1,h2⟩)
    refine⟨u::C,⟨by simp[h4.1],λj P G=> ?_⟩,λj H G=> ?_⟩
    ·match j with
     | 0=>simp at G;subst G;exact⟨u,rfl,h2,h3⟩
     | j+1=>obtain⟨H,K,k2⟩:=h4.2 j P AB;exact⟨H,by simpa using K,k2⟩
    ·match j with
     | 0=>simp at G;subst G;exact h1
     | j+1=>have:=h5 j H AB;rwa [show o+1+j=o+(j+1)from Aa]at this
  obtain⟨C,h1,h2⟩:=this;exact⟨⟨b,o,none⟩,c,C,rfl,h1,λj u G=>by rw[cE,aE hb];exact h2 j u G⟩
theorem eV{sz:Nat}(h:(Vp.ownr T sz L qs).p w v):(Vp.row T L qs).p w v:=by
 obtain⟨xs,⟨⟨h1,h2⟩,_⟩,h3⟩:=h;rcases h2 with⟨rfl,rfl⟩ | ⟨g,cap,H,rfl,_,J,hn,_,I,C⟩
 ·refine .inl ⟨?_,rfl,rfl⟩;have:xs.length=0:=by simpa using h1
  exact De (by rw[<-h3.1];exact this)
 ·refine .inr ⟨g,0,cap,H,rfl,hn,J,λj q K=> ?_⟩;obtain⟨u,G,k2⟩:=h3.2 j q K;refine⟨u,?_,k2⟩;rw[<-C,List.getElem?_take]at G;split at G
  ·rw[Bh,<-BU];exact G
  ·cases G
def noUb:Value->Bool
 | .int .u32 _=>false
 | _=>true
def appB(p:A0)(T:TypeId)(sz bytes:Nat):Bool:=match p.info? T with
 | some ti=>(match ti.zero with | some z=>z.cells.size==sz && z.cells.toList.all noUb | none=>false) && (ti.size==sz && (ti.bytes==bytes && decide (0<sz)))
 | none=>false
end
structure St where
 tm:Int
 pose:Pq
def St.qs(s:St):List Vp:=.val (.int .i64 s.tm)::frs s.pose.cs
def bx(S:List St):List Vp:=S.flatMap St.qs
theorem St.qs_len(s:St):s.qs.length=22:=rfl
theorem dS:∀(S:List St),(bx S).length=S.length*22
 | []=>rfl
 | s::S=>by
  have:=dS S;simp only[bx,Cq,By,List.length_cons,St.qs_len]at this⊢;omega
theorem jy(S S':List St):bx (S++S')=bx S++bx S':=by simp[bx]
theorem xe:∀ {S:List St} {k:Nat} {x:St} {j:Nat} {q:Vp},S[k]? =some x->x.qs[j]? =some q->(bx S)[k*22+j]? =some q
 | [],_,_,_,_,h,_=>Aq
 | s::S,0,x,j,q,h,hq=>by
  simp at h;subst h;have C:j<s.qs.length:=(A5.1 hq).1;simp only[bx,Cq,Nat.zero_mul,Bh];rw[Bw C];exact hq
 | s::S,k+1,x,j,q,h,hq=>by
  have:=xe (S:=S) (k:=k) (x:=x) Az hq;simp only[bx,Cq]at this⊢;rw[Bq (by rw[St.qs_len];omega),St.qs_len,show(k+1)*22+j - 22=k*22+j from Aa];exact this
theorem rowS_take(S:List St)(k:Nat)(j:Nat)(q:Vp)(h:(bx (S.take k))[j]? =some q):(bx S)[j]? =some q:=by
 have h1:bx S=bx (S.take k)++bx (S.drop k):=by rw[<-jy,EN]
 rw[h1,Bw (A5.1 h).1];exact h
theorem rowS_drop(S:List St)(k:Nat)(C:k<=S.length)(j:Nat)(q:Vp)(h:(bx (S.drop k))[j]? =some q):(bx S)[k*22+j]? =some q:=by
 have h1:bx S=bx (S.take k)++bx (S.drop k):=by rw[<-jy,EN]
 have h2:(bx (S.take k)).length=k*22:=by rw[dS,Bp];congr 1;omega
 rw[h1,Bq Aa,h2,Nat.add_sub_cancel_left];exact h
theorem rowS_ne{S:List St}{k:Nat}{x:St}(h:S[k]? =some x):bx S≠ []:=λe=>by
 have:=dS S;have h2:=(A5.1 h).1;rw[e]at this;simp at this;omega
def KI(ρ:Rho)(l:Leaf)(k:IntKind)(u:Int):Prop:=∀B w x,l.holds ρ B w x->x= .int k u
section
variable {ρ:Rho} {n m k r:Nat} {u v c:Int} {b d:Bool} {l l':Leaf} {t T e:TypeId} {B:Blk} {w:World} {ik:IntKind} {x:St} {S:List St}
theorem xf:KI ρ (.i ik c) ik c:=λ_ _ _ h=>h
theorem mU(h:ρ[n]? =some (.val (.int ik u))):KI ρ (.ref n) ik u:=λ_ _ _ C=>cU h C
def intB(op:BinOp)(u v:Int):Option Bool:=match op with
 | .eql=>some (u==v)
 | .neq=>some (u !=v)
 | .lss=>some (decide (u<v))
 | .leq=>some (decide (u<=v))
 | .gtr=>some (decide (v<u))
 | .geq=>some (decide (v<=u))
 | _=>none
theorem o_int{op:BinOp}(h1:KI ρ l ik u)(h2:KI ρ l' ik v)(hb:intB op u v=some b):(OIns.mk (.bin op t) [.one l,.one l'] (.one (.b b))).Ok AE ρ:=λB w vs hv=>by
 match vs,hv with
 | [v1,v2],hv=>
  have e:=h1 _ _ _ hv.1;have C:=h2 _ _ _ hv.2.1;subst e;subst C;refine⟨.bool b,rfl,λG H=> ?_⟩;cases op<;>simp only[intB,A9.injEq]at hb<;>first | (cases hb;done) | (subst hb;simp[eqGuard,binOp,Op.intCmp,AO,Result.andThen])
theorem run_eqPN{P:A0}{e:TypeId}(C:P.underlying t=some (.pointer e))(a:Addr):(Op.equal t (.pointer (some a)) (.pointer none)).run P w= .ok false w:=by
 unfold Op.equal Op.maxDepth Op.equalIn;rw[AO,run_underlying C];rfl
theorem add_zero'(b o:Nat):(⟨b,o,none⟩:Addr).add 0=⟨b,o,none⟩:=by rw[cE,Nat.add_zero]
theorem row_at{v:Value}{qs:List Vp}{L:Nat}(h:(Vp.row T L qs).p w v)(h0:qs≠ []):∃b o c cs,v= .slice (some ⟨b,o,none⟩) L c/\L<=c/\w.heap[b]? =some (.cells cs T (0,0))/\∀j q,qs[j]? =some q->∃u,cs[o+j]? =some u/\q.p w u/\∀g,¬q.fp w u g:=by
 rcases h with⟨h,_⟩ | h
 ·exact absurd h h0
 ·exact h
end
end Go.Proofs.YtggfmklppkioeaaGreat
