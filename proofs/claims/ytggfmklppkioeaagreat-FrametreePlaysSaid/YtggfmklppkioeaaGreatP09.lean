/- The plain law of rotations, in fractions. The plain law of rotations: images, ways, from one vector to another. How large the parts of vectors and rotations become. Arms, facts about the examples, Same. Rows of fractions in memory: vectors, quaternions, arrays of fractions. An executor: fractions and rows of fractions. An executor: what the functions of package fraction and of the reference give. Vectors, by the executor. Rotations, by the executor. Make and canonical of rotations, by the executor. -/
import Derived.Test.YtggfmklppkioeaaGreatP08
namespace Go.Proofs.YtggfmklppkioeaaGreat
set_option linter.unusedSimpArgs false
set_option linter.unusedVariables false
set_option maxRecDepth 100000
open Go.RowKit
open _root_.Go.RowKit renaming Below → AG
open _root_.Go renaming Calls → AH,Ending → BH,FuncId → BA,Operand → AZ,cell_of_row → CB
open _root_.Go.Ending renaming returned → A4
open _root_.List renaming getElem?_toArray → EL,replicate → EF
open _root_.Nat renaming mul_add → Cr
open _root_.Rat renaming inv_mul_cancel → Fx
open _root_.Go.Proofs.Tryz renaming func102 → En,func115 → Eo,prog → AE
structure Qq where
 w:Fq
 x:Fq
 y:Fq
 z:Fq
def Qq.r(q:Qq):QR:=⟨q.w.v,q.x.v,q.y.v,q.z.v⟩
def Qq.axis(q:Qq):Vq:=⟨q.x,q.y,q.z⟩
def Vq.r(a:Vq):VR:=⟨a.x.v,a.y.v,a.z.v⟩
structure Qq.comp(q:Qq):Prop where
 w:q.w.valid=true
 x:q.x.valid=true
 y:q.y.valid=true
 z:q.z.valid=true
variable{q:Qq}
theorem Qq.comp.axis(h:q.comp):q.axis.good:=⟨h.x,h.y,h.z⟩
def Qq.first(q:Qq):Fq:=if q.w.p≠0 then q.w else if q.x.p≠0 then q.x else if q.y.p≠0 then q.y else q.z
def Qq.over(q:Qq)(n:Fq):Qq:=⟨q.w.div n,q.x.div n,q.y.div n,q.z.div n⟩
def Qq.zero:Qq:=⟨.zero,.zero,.zero,.zero⟩
def Qq.canon(q:Qq):Qq:=if q.first.p=0 then .zero else q.over q.first
structure Qq.good(q:Qq):Prop where
 comp:q.comp
 one:q.first.v=1
def Qq.id:Qq:=⟨.ofInt 1,.ofInt 0,.ofInt 0,.ofInt 0⟩
section
variable {p q:Qq}
theorem Qq.comp.first(h:q.comp):q.first.valid=true:=by
 unfold Qq.first;split
 ·exact h.w
 ·split
  ·exact h.x
  ·split
   ·exact h.y
   ·exact h.z
theorem Qq.comp.over(h:q.comp){n:Fq}(hn:n.p≠0):(q.over n).comp:=⟨gQ h.w hn,gQ h.x hn,gQ h.y hn,gQ h.z hn⟩
theorem aaN{a n:Fq}(ha:a.valid=true)(hn:n.valid=true)(h0:n.p≠0):(a.div n).v=a.v / n.v:=v_div (Fq.valid.n ha) (Fq.valid.n hn) h0
theorem p_v{a:Fq}(ha:a.valid=true):a.v=0↔a.p=0:=v_eq0 (Fq.valid.n ha)
theorem over_r(h:q.comp){n:Fq}(hn:n.valid=true)(h0:n.p≠0):(q.over n).r=QR.smul (n.v)⁻¹ q.r:=by
 unfold Qq.r Qq.over QR.smul;simp only;rw[aaN h.w hn h0,aaN h.x hn h0,aaN h.y hn h0,aaN h.z hn h0]
 ext<;>simp only[Rat.div_def]<;>grind
theorem qi(h:q.comp):q.first.p≠0↔q.r.nrm≠0:=by
 rw[show(q.r.nrm≠0)↔_ from not_congr nrm_zero];unfold Qq.r Qq.first;simp only;have h1:=p_v h.w;have h2:=p_v h.x;have h3:=p_v h.y;have h4:=p_v h.z;by_cases c1:q.w.p=0
 ·rw[if_neg (by simpa using c1)];by_cases c2:q.x.p=0
  ·rw[if_neg (by simpa using c2)];by_cases c3:q.y.p=0
   ·rw[if_neg (by simpa using c3)];constructor
    ·intro c h;exact c (h4.1 h.2.2.2)
    ·intro c h;exact c ⟨h1.2 c1,h2.2 c2,h3.2 c3,h4.2 h⟩
   ·rw[if_pos c3];exact⟨λ_ h=>c3 (h3.1 h.2.2.1),λ_=>c3⟩
  ·rw[if_pos c2];exact⟨λ_ h=>c2 (h2.1 h.2.1),λ_=>c2⟩
 ·rw[if_pos c1];exact⟨λ_ h=>c1 (h1.1 h.1),λ_=>c1⟩
theorem inv_ne{k:Rat}(C:k≠0):k⁻¹≠0:=λh=>by have h1:=Fx k C;rw[h]at h1;grind
def QR.fst(a:QR):Rat:=if a.w≠0 then a.w else if a.x≠0 then a.x else if a.y≠0 then a.y else a.z
theorem aaO(h:q.comp):q.first.v=q.r.fst:=by
 unfold Qq.first QR.fst Qq.r;simp only;have h1:=p_v h.w;have h2:=p_v h.x;have h3:=p_v h.y;by_cases c1:q.w.p=0
 ·have C:=h1.2 c1;simp only[c1,C,ne_eq,not_true_eq_false,if_false];by_cases c2:q.x.p=0
  ·have G:=h2.2 c2;simp only[c2,G,not_true_eq_false,if_false];by_cases c3:q.y.p=0
   ·have H:=h3.2 c3;simp only[c3,H,not_true_eq_false,if_false]
   ·have H:¬q.y.v=0:=λe=>c3 (h3.1 e)
    simp only[c3,H,not_false_eq_true,if_true]
  ·have G:¬q.x.v=0:=λe=>c2 (h2.1 e)
   simp only[c2,G,not_false_eq_true,if_true]
 ·have C:¬q.w.v=0:=λe=>c1 (h1.1 e)
  simp only[c1,C,ne_eq,not_false_eq_true,if_true]
theorem fst_smul(k:Rat)(C:k≠0)(a:QR):(QR.smul k a).fst=k*a.fst:=by
 unfold QR.fst QR.smul;simp only;have hz:∀r:Rat,k*r≠0↔r≠0:=λr=>⟨λh e=>h (by rw[e];grind),λh=>nS C h⟩
 by_cases c1:a.w≠0
 ·rw[if_pos ((hz _).2 c1),if_pos c1]
 ·rw[if_neg (λh=>c1 ((hz _).1 h)),if_neg c1];by_cases c2:a.x≠0
  ·rw[if_pos ((hz _).2 c2),if_pos c2]
  ·rw[if_neg (λh=>c2 ((hz _).1 h)),if_neg c2];by_cases c3:a.y≠0
   ·rw[if_pos ((hz _).2 c3),if_pos c3]
   ·rw[if_neg (λh=>c3 ((hz _).1 h)),if_neg c3]
theorem el(h:q.comp)(h0:q.first.p≠0):q.canon.good:=by
 have hc:q.canon.comp:=by unfold Qq.canon;rw[if_neg h0];exact h.over h0
 refine⟨hc,?_⟩;have hn:q.first.v≠0:=λe=>h0 ((p_v h.first).1 e)
 rw[aaO hc];have e:q.canon.r=QR.smul (q.first.v)⁻¹ q.r:=by unfold Qq.canon;rw[if_neg h0];exact over_r h h.first h0
 rw[e,fst_smul _ (inv_ne hn),<-aaO h,Fx _ hn]
theorem mG(h:q.good):q.r.nrm≠0:=(qi h.comp).1 (λe=>by have h1:=(p_v h.comp.first).2 e;rw[h.one]at h1;exact absurd h1 th)
theorem id_good:Qq.id.good:=by
 refine⟨⟨aJ 1,aJ 0,aJ 0,aJ 0⟩,?_⟩;have e:Qq.id.first=Fq.ofInt 1:=rfl;rw[e,pd];rfl
def Qq.hamV(p q:Qq):Vq:=((q.axis.scale p.w).add (p.axis.scale q.w)).add (p.axis.cross q.axis)
def Qq.hamW(p q:Qq):Fq:=(p.w.mul q.w).sub (p.axis.dot q.axis)
def Qq.ham(p q:Qq):Qq:=⟨p.hamW q,(p.hamV q).x,(p.hamV q).y,(p.hamV q).z⟩
def Qq.mul(p q:Qq):Qq:=(p.ham q).canon
def Qq.inv(q:Qq):Qq:=(Qq.mk q.w (q.axis.scale (.ofInt (-1))).x (q.axis.scale (.ofInt (-1))).y (q.axis.scale (.ofInt (-1))).z).canon
def Qq.inv'(q:Qq):Qq:=(Qq.mk q.w q.x.neg q.y.neg q.z.neg).canon
theorem nT(hp:p.comp)(C:q.comp):(p.hamV q).good:=((C.axis.scale hp.w).add (hp.axis.scale C.w)).add (hp.axis.cross C.axis)
theorem wP(hp:p.comp)(C:q.comp):(p.ham q).comp:=⟨dm (aL hp.w C.w) (fC hp.axis C.axis),(nT hp C).x,(nT hp C).y,(nT hp C).z⟩
theorem ham_r(hp:p.comp)(C:q.comp):(p.ham q).r=p.r.mul q.r:=by
 have h1:=v_s (aL hp.w C.w) (fC hp.axis C.axis);have h2:=v_m hp.w C.w;have h3:=dot_v hp.axis C.axis;have h4:=ua C.axis hp.w;have h5:=ua hp.axis C.w;have h6:=cross_v hp.axis C.axis;have G:=add_v (C.axis.scale hp.w) (hp.axis.scale C.w);have H:=add_v ((C.axis.scale hp.w).add (hp.axis.scale C.w)) (hp.axis.cross C.axis);unfold Qq.ham Qq.r QR.mul;simp only
 ext<;>simp only
 ·unfold Qq.hamW;rw[h1,h2,h3];rfl
 ·unfold Qq.hamV;rw[H.1,G.1,h4.1,h5.1,h6.1];rfl
 ·unfold Qq.hamV;rw[H.2.1,G.2.1,h4.2.1,h5.2.1,h6.2.1];rfl
 ·unfold Qq.hamV;rw[H.2.2,G.2.2,h4.2.2,h5.2.2,h6.2.2];rfl
theorem ub(hp:p.good)(C:q.good):(p.ham q).first.p≠0:=by
 rw[qi (wP hp.comp C.comp),ham_r hp.comp C.comp,nrm_mul];exact nS (mG hp) (mG C)
theorem gR(hp:p.good)(C:q.good):(p.mul q).good:=el (wP hp.comp C.comp) (ub hp C)
theorem yZ(C:q.comp):Qq.mk q.w (q.axis.scale (.ofInt (-1))).x (q.axis.scale (.ofInt (-1))).y (q.axis.scale (.ofInt (-1))).z=Qq.mk q.w q.x.neg q.y.neg q.z.neg:=by
 have h:=ua C.axis (aJ (-1));have G:=C.axis.scale (aJ (-1));have h1:=pd (-1);rw[h1]at h;have H:=oI G.x (ei C.x) (by rw[h.1,wO];show q.x.v*_=_;grind);have I:=oI G.y (ei C.y) (by rw[h.2.1,wO];show q.y.v*_=_;grind);have J:=oI G.z (ei C.z) (by rw[h.2.2,wO];show q.z.v*_=_;grind);rw[H,I,J]
theorem wQ(C:q.comp):q.inv=q.inv':=by unfold Qq.inv Qq.inv';rw[yZ C]
theorem sI(C:q.comp):(Qq.mk q.w q.x.neg q.y.neg q.z.neg).comp:=⟨C.w,ei C.x,ei C.y,ei C.z⟩
theorem conj_r:(Qq.mk q.w q.x.neg q.y.neg q.z.neg).r=q.r.conj:=by unfold Qq.r QR.conj;simp only[wO]
theorem pe(C:q.good):(Qq.mk q.w q.x.neg q.y.neg q.z.neg).first.p≠0:=by rw[qi (sI C.comp),conj_r,nrm_conj];exact mG C
theorem bc(C:q.good):q.inv.good:=by rw[wQ C.comp];exact el (sI C.comp) (pe C)
variable {a b c:Qq}
end
def Qq.nn(q:Qq):Fq:=(q.w.mul q.w).add (q.axis.dot q.axis)
def Qq.dd(q:Qq):Fq:=(q.w.mul q.w).sub (q.axis.dot q.axis)
def Qq.ap1(q:Qq)(v:Vq):Vq:=v.scale q.dd
def Qq.ap2(q:Qq)(v:Vq):Vq:=q.axis.scale ((Fq.ofInt 2).mul (q.axis.dot v))
def Qq.ap3(q:Qq)(v:Vq):Vq:=(q.axis.cross v).scale ((Fq.ofInt 2).mul q.w)
def Qq.rat(q:Qq):Fq:=(Fq.ofInt 1).div q.nn
def Qq.app(q:Qq)(v:Vq):Vq:=(((q.ap1 v).add (q.ap2 v)).add (q.ap3 v)).scale q.rat
section
variable {p q d:Qq} {v x y a b:Vq} {t:Fq}
theorem nn_valid(h:q.comp):q.nn.valid=true:=dG (aL h.w h.w) (fC h.axis h.axis)
theorem dd_valid(h:q.comp):q.dd.valid=true:=dm (aL h.w h.w) (fC h.axis h.axis)
theorem nn_v(h:q.comp):q.nn.v=q.r.nrm:=by
 unfold Qq.nn;rw[v_a (aL h.w h.w) (fC h.axis h.axis),v_m h.w h.w,dot_v h.axis h.axis];rfl
theorem nn_ne(h:q.good):q.nn.p≠0:=λe=>mG h (by rw[<-nn_v h.comp];exact(p_v (nn_valid h.comp)).2 e)
theorem ap1_good(h:q.comp)(hv:v.good):(q.ap1 v).good:=hv.scale (dd_valid h)
theorem ap2_good(h:q.comp)(hv:v.good):(q.ap2 v).good:=h.axis.scale (aL (aJ 2) (fC h.axis hv))
theorem ap3_good(h:q.comp)(hv:v.good):(q.ap3 v).good:=(h.axis.cross hv).scale (aL (aJ 2) h.w)
theorem rat_valid(h:q.good):q.rat.valid=true:=gQ (aJ 1) (nn_ne h)
theorem wR(h:q.good)(hv:v.good):(q.app v).good:=(((ap1_good h.comp hv).add (ap2_good h.comp hv)).add (ap3_good h.comp hv)).scale (rat_valid h)
def Qq.way(p d:Qq)(t:Fq):Qq:=p.mul (Qq.mk (.ofInt 1) (d.axis.scale t).x (d.axis.scale t).y (d.axis.scale t).z).canon
theorem jS(C:d.comp)(ht:t.valid=true):(Qq.mk (.ofInt 1) (d.axis.scale t).x (d.axis.scale t).y (d.axis.scale t).z).comp:=
 ⟨aJ 1,(C.axis.scale ht).x,(C.axis.scale ht).y,(C.axis.scale ht).z⟩
theorem y6:(Qq.mk (.ofInt 1) (d.axis.scale t).x (d.axis.scale t).y (d.axis.scale t).z).first=Fq.ofInt 1:=rfl
theorem fo:(Qq.mk (.ofInt 1) (d.axis.scale t).x (d.axis.scale t).y (d.axis.scale t).z).first.p≠0:=by rw[y6];decide
theorem way_good(hp:p.good)(C:d.comp)(ht:t.valid=true):(p.way d t).good:=gR hp (el (jS C ht) fo)
def Vq.turn(a b:Vq):Qq:=(Qq.mk ((a.dot a).add (a.dot b)) (a.cross b).x (a.cross b).y (a.cross b).z).canon
end
structure Vq.ok(d:Nat)(a:Vq):Prop where
 x:a.x.ok d
 y:a.y.ok d
 z:a.z.ok d
structure Qq.ok(d:Nat)(q:Qq):Prop where
 w:q.w.ok d
 x:q.x.ok d
 y:q.y.ok d
 z:q.z.ok d
section
variable {a b:Vq} {k:Fq} {p q:Qq} {d e f:Nat}
theorem Vq.ok.mono(h:a.ok d)(C:d<=e):a.ok e:=⟨h.x.mono C,h.y.mono C,h.z.mono C⟩
theorem Qq.ok.mono(h:q.ok d)(C:d<=e):q.ok e:=⟨h.w.mono C,h.x.mono C,h.y.mono C,h.z.mono C⟩
theorem Qq.ok.axis(h:q.ok d):q.axis.ok d:=⟨h.x,h.y,h.z⟩
theorem Vq.ok.add(h:a.ok d)(k:b.ok e):(a.add b).ok (2*(d+e)+1):=⟨(h.x.add k.x).mono Aa,(h.y.add k.y).mono Aa,(h.z.add k.z).mono Aa⟩
theorem Vq.ok.sub(h:a.ok d)(k:b.ok e):(a.sub b).ok (2*(d+e)+1):=⟨(h.x.sub k.x).mono Aa,(h.y.sub k.y).mono Aa,(h.z.sub k.z).mono Aa⟩
theorem Vq.ok.scale(h:a.ok d)(C:k.ok e):(a.scale k).ok (d+e):=⟨h.x.mul C,h.y.mul C,h.z.mul C⟩
theorem Vq.ok.dot(h:a.ok d)(k:b.ok e):(a.dot b).ok (10*(d+e)+3):=((h.x.mul k.x).add ((h.y.mul k.y).add (h.z.mul k.z))).mono Aa
theorem Vq.ok.cross(h:a.ok d)(k:b.ok e):(a.cross b).ok (4*(d+e)+1):=⟨((h.y.mul k.z).sub (h.z.mul k.y)).mono Aa,((h.z.mul k.x).sub (h.x.mul k.z)).mono Aa,((h.x.mul k.y).sub (h.y.mul k.x)).mono Aa⟩
theorem Vq.ok.lerp(h:a.ok d)(G:b.ok e)(C:k.ok f):(a.lerp b k).ok (2*(d+(2*(e+d)+1+f))+1):=h.add ((G.sub h).scale C)
theorem Qq.ok.first(h:q.ok d):q.first.ok d:=by
 unfold Qq.first;split
 ·exact h.w
 ·split
  ·exact h.x
  ·split
   ·exact h.y
   ·exact h.z
theorem Qq.ok.over(h:q.ok d){n:Fq}(hn:n.ok e)(h0:n.p≠0):(q.over n).ok (d+e):=⟨h.w.div hn h0,h.x.div hn h0,h.y.div hn h0,h.z.div hn h0⟩
theorem Qq.ok.canon(h:q.ok d)(h0:q.first.p≠0):q.canon.ok (d+d):=by unfold Qq.canon;rw[if_neg h0];exact h.over h.first h0
theorem Qq.ok.hamW(h:p.ok d)(k:q.ok e):(p.hamW q).ok (22*(d+e)+7):=((h.w.mul k.w).sub (h.axis.dot k.axis)).mono Aa
theorem Qq.ok.hamV(h:p.ok d)(k:q.ok e):(p.hamV q).ok (16*(d+e)+5):=(((k.axis.scale h.w).add (h.axis.scale k.w)).add (h.axis.cross k.axis)).mono Aa
theorem Qq.ok.ham(h:p.ok d)(k:q.ok e):(p.ham q).ok (22*(d+e)+7):=⟨h.hamW k,(h.hamV k).x.mono Aa,(h.hamV k).y.mono Aa,(h.hamV k).z.mono Aa⟩
theorem Qq.ok.mul(h:p.ok d)(k:q.ok e)(h0:(p.ham q).first.p≠0):(p.mul q).ok (44*(d+e)+14):=((h.ham k).canon h0).mono Aa
end
def Sp.frR(s:Bool)(L p N q:Nat):Sp:=⟨λw v=>qh w v s L p N q,λ_ _ _ h hb=>qh.mono h hb⟩
def Sp.sl(L:Nat):Sp:=⟨λ_ v=>∃a c,v= .slice a L c,λ_ _ _ h _=>h⟩
section
variable {Q:Exit->Act->World->Prop} {o:Oper} {a:Act} {w:World} {x y:AZ} {g L p N q k:Nat} {s:Bool}
end
def FitP(s:Bool)(L p N q:Nat):Prop:=L<=12/\N<=12/\nl p=L/\nl q=N/\(Fq.mk s p q).valid=true
variable{L N:Nat}
theorem FitP.ok{s:Bool}{p q:Nat}(h:FitP s L p N q):(Fq.mk s p q).ok 12:=⟨by show nl p<=12;have:=h.1;have:=h.2.2.1;omega,by show nl q<=12;have:=h.2.1;have:=h.2.2.2.1;omega,(of_decide_eq_true h.2.2.2.2).1⟩
structure Rq where
 s:Bool
 L:Nat
 p:Nat
 N:Nat
 q:Nat
def Fq.raw(x:Fq):Rq:=⟨x.s,nl x.p,x.p,nl x.q,x.q⟩
def Sp.rq(r:Rq):Sp:=.frR r.s r.L r.p r.N r.q
def aW(w:World):List Rq->List Value->Prop
 | [],cs=>cs=[]
 | r::l,cs=>∃a c b d cs',cs= .bool r.s::.slice a r.L c::.slice b r.N d::cs'/\IsR w (.agg #[.slice a r.L c]) r.L r.p/\IsR w (.agg #[.slice b r.N d]) r.N r.q/\aW w l cs'
section
variable {w w':World} {g g':Nat} {l:List Rq} {cs:List Value} {T:TypeId}
theorem aW.mono(h:aW w l cs)(hb:AG w.heap.size w w'):aW w' l cs:=by
 induction l generalizing cs with
 | nil=>exact h
 | cons r l ih=>obtain⟨a,c,b,d,C,e,h1,h2,h3⟩:=h;exact⟨a,c,b,d,C,e,h1.mono hb,h2.mono hb,ih h3⟩
theorem aW.upd(h:aW w l cs)(o:Own w g)(u:Upd w g w'):aW w' l cs:=by
 induction l generalizing cs with
 | nil=>exact h
 | cons r l ih=>obtain⟨a,c,b,d,C,e,h1,h2,h3⟩:=h;exact⟨a,c,b,d,C,e,h1.upd o u,h2.upd o u,ih h3⟩
theorem aW.noInt(h:aW w l cs)(k:Nat)(n:Int):cs[k]? ≠some (Value.int .u32 n):=by
 induction l generalizing cs k with
 | nil=>have e:cs=[]:=h;rw[e];simp
 | cons r l ih=>
  obtain⟨a,c,b,d,C,e,_,_,h3⟩:=h;rw[e]
  match k with
  | 0=>intro h;cases h
  | 1=>intro h;cases h
  | 2=>intro h;cases h
  | k+3=>exact ih h3 k
theorem aW.length(h:aW w l cs):cs.length=3*l.length:=by
 induction l generalizing cs with
 | nil=>have e:cs=[]:=h;rw[e];rfl
 | cons r l ih=>obtain⟨a,c,b,d,C,e,_,_,h3⟩:=h;have:=ih h3;rw[e];simp only[List.length_cons];omega
variable{k:Nat}
theorem aW.get(h:aW w l cs){r:Rq}(C:l[k]? =some r):
  ∃a c b d,cs[3*k]? =some (.bool r.s)/\cs[3*k+1]? =some (.slice a r.L c)/\cs[3*k+2]? =some (.slice b r.N d)/\IsR w (.agg #[.slice a r.L c]) r.L r.p/\IsR w (.agg #[.slice b r.N d]) r.N r.q:=by
 induction l generalizing cs k with
 | nil=>cases C
 | cons x l ih=>
  obtain⟨a,c,b,d,I,e,h1,h2,h3⟩:=h;rw[e]
  match k with
  | 0=>simp at C;subst C;exact⟨a,c,b,d,rfl,rfl,rfl,h1,h2⟩
  | k+1=>
   obtain⟨a',H,G,J,K,P,U,V,Y⟩:=ih h3 (k:=k) At;exact⟨a',H,G,J,by simpa [Cr]using K,by simpa [Cr]using P,by simpa [Cr]using U,V,Y⟩
theorem aW.set(h:aW w l cs){r:Rq}(G:k<l.length){a b:Option Addr}{c d:Nat}(h1:IsR w (.agg #[.slice a r.L c]) r.L r.p)(h2:IsR w (.agg #[.slice b r.N d]) r.N r.q):
  aW w (l.set k r) (((cs.set (3*k) (.bool r.s)).set (3*k+1) (.slice a r.L c)).set (3*k+2) (.slice b r.N d)):=by
 induction l generalizing cs k with
 | nil=>cases G
 | cons x l ih=>
  obtain⟨a',J,I,K,C,e,P,U,H⟩:=h;rw[e]
  match k with
  | 0=>exact⟨a,c,b,d,C,rfl,h1,h2,H⟩
  | k+1=>
   have:=ih H (k:=k) AB;exact⟨a',J,I,K,_,by simp[Cr],P,U,this⟩
def IsL(w:World)(v:Value)(l:List Rq):Prop:=∃cs,v= .agg cs.toArray/\aW w l cs
def mH(T:TypeId)(w:World)(g:Nat)(l:List Rq):Prop:=∃cs,w.heap[g]? =some (.cells cs.toArray T (0,0))/\aW w l cs
theorem IsL.mono{v:Value}(h:IsL w v l)(hb:AG w.heap.size w w'):IsL w' v l:=by obtain⟨cs,e,h⟩:=h;exact⟨cs,e,h.mono hb⟩
theorem IsL.upd{v:Value}(h:IsL w v l)(o:Own w g)(u:Upd w g w'):IsL w' v l:=by obtain⟨cs,e,h⟩:=h;exact⟨cs,e,h.upd o u⟩
theorem mH.lt(h:mH T w g l):g<w.heap.size:=by obtain⟨_,h,_⟩:=h;exact(Array.getElem?_eq_some_iff.1 h).1
theorem mH.mono(h:mH T w g l)(hb:AG w.heap.size w w'):mH T w' g l:=by
 have hl:=h.lt;obtain⟨cs,h0,h1⟩:=h;exact⟨cs,(hb.block g hl).trans h0,h1.mono hb⟩
theorem mH.upd(h:mH T w g' l)(o:Own w g)(u:Upd w g w')(hn:g'≠g):mH T w' g' l:=by
 obtain⟨cs,h0,h1⟩:=h;exact⟨cs,(u.block g' hn).trans h0,h1.upd o u⟩
theorem mH.own(h:mH T w g l):Own w g:=by
 obtain⟨cs,h0,h1⟩:=h;exact⟨cs.toArray,T,h0,λk n=>by rw[EL];exact h1.noInt k n⟩
theorem mH.get(h:mH T w g l){r:Rq}(I:l[k]? =some r):
  ∃a c b d,w.cell? ⟨g,3*k,none⟩=some (.bool r.s)/\w.cell? ⟨g,3*k+1,none⟩=some (.slice a r.L c)/\w.cell? ⟨g,3*k+2,none⟩=some (.slice b r.N d)/\IsR w (.agg #[.slice a r.L c]) r.L r.p/\IsR w (.agg #[.slice b r.N d]) r.N r.q:=by
 obtain⟨cs,h0,h1⟩:=h;obtain⟨a,c,b,d,C,G,H,J,K⟩:=h1.get I;exact⟨a,c,b,d,by rw[CB w g _ _ _ (0,0) h0,EL];exact C,by rw[CB w g _ _ _ (0,0) h0,EL];exact G,by rw[CB w g _ _ _ (0,0) h0,EL];exact H,J,K⟩
theorem mH.frozen(h:mH T w g l)(j:Nat):w.frozen? ⟨g,j,none⟩=false:=by obtain⟨cs,h0,_⟩:=h;exact frozen_of_row w g j _ _ h0
end
section
variable {Q:Exit->Act->World->Prop} {o:Oper} {a:Act} {w:World} {x y:AZ} {g k:Nat} {l:List Rq} {r:Rq} {T:TypeId}
end
section
variable {Q:Exit->Act->World->Prop} {o:Oper} {a:Act} {w:World} {x y z u:AZ} {f:BA} {tt:Array TypeId} {S S1 S2 S3:Sp} {R:World->BH->World->Prop}
end
def fr3(x:Fq):Rho:=[.val (.bool x.s),.dig (nl x.p) x.p,.dig (nl x.q) x.q]
def frs:List Fq->Rho
 | []=>[]
 | x::xs=>.val (.bool x.s)::.dig (nl x.p) x.p::.dig (nl x.q) x.q::frs xs
def leaf3(k:Nat):List Leaf:=[.ref (3*k),.ref (3*k+1),.ref (3*k+2)]
def fr(k:Nat):SV:=.agg (leaf3 k)
def sJ:List Nat->List Leaf
 | []=>[]
 | k::ks=>.ref (3*k)::.ref (3*k+1)::.ref (3*k+2)::sJ ks
def row(ks:List Nat):SV:=.agg (sJ ks)
def AtL(xs:List Fq):List Nat->List Fq->Prop
 | [],[]=>True
 | k::ks,x::vs=>xs[k]? =some x/\AtL xs ks vs
 | _,_=>False
section
variable {xs:List Fq} {ys:Rho} {x y z:Fq} {i j k:Nat} {B:Blk} {w:World} {v:Value}
theorem Ae{p:Prop}(h:p:=by exact⟨rfl,rfl,rfl⟩):p:=h
theorem frs_at:∀ {xs:List Fq} {k:Nat} {x:Fq},xs[k]? =some x->(frs xs++ys)[3*k]? =some (.val (.bool x.s))/\(frs xs++ys)[3*k+1]? =some (.dig (nl x.p) x.p)/\(frs xs++ys)[3*k+2]? =some (.dig (nl x.q) x.q)
 | [],_,_,h=>Aq
 | x::xs,0,y,h=>by simp at h;subst h;exact Ae
 | x::xs,k+1,y,h=>by
  have:=frs_at (xs:=xs) (k:=k) (x:=y) Az;simpa [frs,Cr]using this
theorem leaf_s{s:Bool}(h:(frs xs++ys)[i]? =some (.val (.bool s))):(Leaf.ref i).holds (frs xs++ys) B w v↔v= .bool s:=leafB h
theorem uc(h:(frs xs++ys)[i]? =some (.dig L N)):(Leaf.ref i).holds (frs xs++ys) B w v↔IsR w (.agg #[v]) L N:=jk h
theorem jT(h:IsR w (.agg #[v]) L N):∃a c,v= .slice a L c:=by
 obtain⟨a,c,e,_⟩:=h;have C:v= .slice a L c:=by
  injection e with e;have:=congrArg (λx:Array Value=>x[0]?) e;simpa using this
 exact⟨a,c,C⟩
theorem gS:∀ {ks:List Nat} {vs:List Fq} {cs:List Value},AtL xs ks vs->(az (frs xs++ys) B w (sJ ks) cs↔aW w (vs.map Fq.raw) cs)
 | [],[],cs,_=>by
  constructor
  ·intro h;match cs,h with | [],_=>rfl
  ·intro h;have h:cs=[]:=h;subst h;trivial
 | k::ks,x::vs,cs,h=>by
  obtain⟨h1,h2,h3⟩:=frs_at (ys:=ys) h.1;have I:=λcs=>gS (ks:=ks) (vs:=vs) (cs:=cs) h.2
  constructor
  ·intro hl
   match cs,hl with
   | u1::u2::u3::C,hl=>
    obtain⟨g1,g2,K,P⟩:=hl;have J:=(leaf_s h1).1 g1;have G:=(uc h2).1 g2;have H:=(uc h3).1 K;obtain⟨a,c,rfl⟩:=jT G;obtain⟨b,d,rfl⟩:=jT H;subst J;exact⟨a,c,b,d,C,rfl,G,H,(I C).1 P⟩
   | [],hl=>exact hl.elim
   | [_],hl=>exact hl.2.elim
   | [_,_],hl=>exact hl.2.2.elim
  ·rintro⟨a,c,b,d,C,rfl,U,V,Y⟩;exact⟨(leaf_s h1).2 rfl,(uc h2).2 U,(uc h3).2 V,(I C).2 Y⟩
 | [],_::_,_,h=>h.elim
 | _::_,[],_,h=>h.elim
theorem af{ks:List Nat}{vs:List Fq}(h:AtL xs ks vs):(row ks).holds (frs xs++ys) B w v↔IsL w v (vs.map Fq.raw):=by
 constructor
 ·rintro⟨cs,rfl,h1⟩;exact⟨cs,rfl,(gS h).1 h1⟩
 ·rintro⟨cs,rfl,h1⟩;exact⟨cs,rfl,(gS h).2 h1⟩
theorem aw(h:xs[k]? =some x):(fr k).holds (frs xs++ys) B w v↔IsQ w v x:=by
 have:=af (ys:=ys) (B:=B) (w:=w) (v:=v) (ks:=[k]) (vs:=[x]) ⟨h,trivial⟩;show(row [k]).holds _ B w v↔_;rw[this];constructor
 ·rintro⟨cs,rfl,a,c,b,d,C,rfl,G,H,e⟩;have e:C=[]:=e;subst e;exact⟨a,c,b,d,rfl,G,H⟩
 ·rintro⟨a,c,b,d,rfl,G,H⟩;exact⟨_,rfl,a,c,b,d,[],rfl,G,H,rfl⟩
abbrev OkI(xs:List Fq)(ys:Rho)(i:Inst):Prop:=i.Ok AE (frs xs++ys)
theorem inst1{f:BA}(C:ji f)(hc:∀va w,IsQ w va x->AH AE f #[va] w (λe w'=>eN w z e w'))(hi:xs[i]? =some x)(G:xs[k]? =some z):OkI xs ys ⟨f,[fr i],.v (fr k)⟩:=
 ⟨C,λB w vs hB h=>by
  match vs,h with
  | [va],h=>
   refine(hc va w ((aw hi).1 h.1)).mono ?_;rintro e w' ⟨v,rfl,h1,h2⟩;exact⟨v,rfl,(aw G).2 h1,h2⟩⟩
theorem sK{f:BA}(C:ji f)(hc:∀va vb w,IsQ w va x->IsQ w vb y->AH AE f #[va,vb] w (λe w'=>eN w z e w'))(hi:xs[i]? =some x)(G:xs[j]? =some y)(H:xs[k]? =some z):OkI xs ys ⟨f,[fr i,fr j],.v (fr k)⟩:=
 ⟨C,λB w vs hB h=>by
  match vs,h with
  | [va,vb],h=>
   refine(hc va vb w ((aw hi).1 h.1) ((aw G).1 h.2.1)).mono ?_;rintro e w' ⟨v,rfl,h1,h2⟩;exact⟨v,rfl,(aw H).2 h1,h2⟩⟩
end
section
variable {xs:List Fq} {ys ρ:Rho} {x y z:Fq} {i j k n:Nat} {u c:Int} {b d:Bool} {l:Leaf} {f:BA} {op:BinOp} {t:TypeId}
theorem ud{v:Value}(C:ji f)(hc:∀va w,IsQ w va x->AH AE f #[va] w (λe w'=>bk w v e w'))(hi:xs[i]? =some x)(hl:∀B w,l.holds (frs xs++ys) B w v):OkI xs ys ⟨f,[fr i],.v (.one l)⟩:=
 ⟨C,λB w vs hB h=>by
  match vs,h with
  | [va],h=>
   refine(hc va w ((aw hi).1 h.1)).mono ?_;rintro e w' ⟨rfl,h2⟩;exact⟨_,rfl,hl B w',h2⟩⟩
theorem inst2V{v:Value}(C:ji f)(hc:∀va vb w,IsQ w va x->IsQ w vb y->AH AE f #[va,vb] w (λe w'=>bk w v e w'))(hi:xs[i]? =some x)(G:xs[j]? =some y)(hl:∀B w,l.holds (frs xs++ys) B w v):OkI xs ys ⟨f,[fr i,fr j],.v (.one l)⟩:=
 ⟨C,λB w vs hB h=>by
  match vs,h with
  | [va,vb],h=>
   refine(hc va vb w ((aw hi).1 h.1) ((aw G).1 h.2.1)).mono ?_;rintro e w' ⟨rfl,h2⟩;exact⟨_,rfl,hl B w',h2⟩⟩
theorem inst2E(C:ji f)(hc:∀va vb w,IsQ w va x->IsQ w vb y->AH AE f #[va,vb] w (λe w'=>pL w z c e w'))(hi:xs[i]? =some x)(G:xs[j]? =some y)(H:xs[k]? =some z):OkI xs ys ⟨f,[fr i,fr j],.tup [fr k,.one (.i .i64 c)]⟩:=
 ⟨C,λB w vs hB h=>by
  match vs,h with
  | [va,vb],h=>
   refine(hc va vb w ((aw hi).1 h.1) ((aw G).1 h.2.1)).mono ?_;rintro e w' ⟨v,rfl,h1,h2⟩;exact⟨_,rfl,⟨[v,.int .i64 c],rfl,(aw H).2 h1,rfl,trivial⟩,h2⟩⟩
theorem instIQ(C:ji f)(hc:∀w,AH AE f #[.int .i64 u] w (λe w'=>eN w z e w'))(G:xs[k]? =some z):OkI xs ys ⟨f,[.one (.i .i64 u)],.v (fr k)⟩:=
 ⟨C,λB w vs hB h=>by
  match vs,h with
  | [va],h=>
   have e:va= .int .i64 u:=h.1;subst e;refine(hc w).mono ?_;rintro e w' ⟨v,rfl,h1,h2⟩;exact⟨v,rfl,(aw G).2 h1,h2⟩⟩
theorem qj(hi:xs[i]? =some x)(C:xs[j]? =some y)(G:xs[k]? =some (x.mul y))(H:x.ok 1000000000)(I:y.ok 1000000000):OkI xs ys ⟨136,[fr i,fr j],.v (fr k)⟩:=
 sK (ai Tryz.func136 rfl rfl) (λva vb w h1 h2=>q_fMul va vb x y w h1 h2 H I) hi C G
theorem qk(hi:xs[i]? =some x)(C:xs[j]? =some y)(G:xs[k]? =some (x.add y))(H:x.ok 1000000000)(I:y.ok 1000000000):OkI xs ys ⟨85,[fr i,fr j],.v (fr k)⟩:=
 sK (ai Tryz.func85 rfl rfl) (λva vb w h1 h2=>q_fAdd va vb x y w h1 h2 H I) hi C G
theorem ql(hi:xs[i]? =some x)(C:xs[j]? =some y)(G:xs[k]? =some (x.sub y))(H:x.ok 1000000000)(I:y.ok 1000000000):OkI xs ys ⟨82,[fr i,fr j],.v (fr k)⟩:=
 sK (ai Tryz.func82 rfl rfl) (λva vb w h1 h2=>q_fSub va vb x y w h1 h2 H I) hi C G
theorem dx(hi:xs[i]? =some x)(C:xs[j]? =some y)(G:xs[k]? =some (x.div y))(H:x.ok 1000000000)(I:y.ok 1000000000)(h0:y.p≠0):OkI xs ys ⟨234,[fr i,fr j],.tup [fr k,.one (.i .i64 0)]⟩:=
 inst2E (ai Tryz.func234 rfl rfl) (λva vb w h1 h2=>q_fDiv va vb x y w h1 h2 H I h0) hi C G
theorem aS(hi:xs[i]? =some x)(hl:∀B w,l.holds (frs xs++ys) B w (.int .i64 x.sgn))(C:x.ok 1000000000000):OkI xs ys ⟨144,[fr i],.v (.one l)⟩:=
 ud (ai Tryz.func144 rfl rfl) (λva w h1=>aaL va x w h1 C) hi hl
theorem bw(hi:xs[i]? =some x)(C:xs[j]? =some y)(hl:∀B w,l.holds (frs xs++ys) B w (.int .i64 (x.cmp y)))(G:x.ok 1000000000)(H:y.ok 1000000000):OkI xs ys ⟨83,[fr i,fr j],.v (.one l)⟩:=
 inst2V (ai Tryz.func83 rfl rfl) (λva vb w h1 h2=>q_fCmp va vb x y w h1 h2 G H) hi C hl
theorem fP(C:xs[k]? =some (.ofInt u))(G: -9223372036854775808<=u)(H:u<9223372036854775808):OkI xs ys ⟨80,[.one (.i .i64 u)],.v (fr k)⟩:=
 instIQ (ai Tryz.func80 rfl rfl) (λw=>q_fInt u w G H) C
theorem aH(hi:xs[i]? =some x)(hl:∀B w,l.holds (frs xs++ys) B w (.bool x.valid))(C:x.ok 1000000):OkI xs ys ⟨235,[fr i],.v (.one l)⟩:=
 ud (ai Tryz.func235 rfl rfl) (λva w h1=>wM va x w h1 C.p C.q) hi hl
theorem dy(hi:xs[i]? =some x)(C:xs[j]? =some y)(G:xs[k]? =some (x.mul y))(H:x.ok 1000000000)(I:y.ok 1000000000):OkI xs ys ⟨293,[fr i,fr j],.v (fr k)⟩:=
 sK (ai Tryz.func293 rfl rfl) (λva vb w h1 h2=>q_rMul va vb x y w h1 h2 H I) hi C G
theorem jl(hi:xs[i]? =some x)(C:xs[j]? =some y)(G:xs[k]? =some (x.add y))(H:x.ok 1000000000)(I:y.ok 1000000000):OkI xs ys ⟨299,[fr i,fr j],.v (fr k)⟩:=
 sK (ai Tryz.func299 rfl rfl) (λva vb w h1 h2=>q_rAdd va vb x y w h1 h2 H I) hi C G
theorem lG(hi:xs[i]? =some x)(C:xs[j]? =some y)(G:xs[k]? =some (x.sub y))(H:x.ok 1000000000)(I:y.ok 1000000000):OkI xs ys ⟨292,[fr i,fr j],.v (fr k)⟩:=
 sK (ai Tryz.func292 rfl rfl) (λva vb w h1 h2=>q_rSub va vb x y w h1 h2 H I) hi C G
theorem y7(hi:xs[i]? =some x)(C:xs[k]? =some x.neg)(G:x.ok 1000000000):OkI xs ys ⟨297,[fr i],.v (fr k)⟩:=
 inst1 (ai Tryz.func297 rfl rfl) (λva w h1=>q_rNeg va x w h1 G) hi C
theorem I_rDiv(hi:xs[i]? =some x)(C:xs[j]? =some y)(G:xs[k]? =some (x.div y))(H:x.ok 1000000000)(I:y.ok 1000000000)(h0:y.p≠0):OkI xs ys ⟨307,[fr i,fr j],.tup [fr k,.one (.i .i64 0)]⟩:=
 inst2E (ai Tryz.func307 rfl rfl) (λva vb w h1 h2=>q_rDiv va vb x y w h1 h2 H I h0) hi C G
theorem dn(hi:xs[i]? =some x)(hl:∀B w,l.holds (frs xs++ys) B w (.int .i64 x.sgn))(C:x.ok 1000000000000):OkI xs ys ⟨269,[fr i],.v (.one l)⟩:=
 ud (ai Tryz.func269 rfl rfl) (λva w h1=>q_rSign va x w h1 C) hi hl
theorem jm(C:xs[k]? =some (.ofInt u))(G: -9223372036854775808<=u)(H:u<9223372036854775808):OkI xs ys ⟨51,[.one (.i .i64 u)],.v (fr k)⟩:=
 instIQ (ai Tryz.func51 rfl rfl) (λw=>q_rInt u w G H) C
theorem di(hi:xs[i]? =some x)(hl:∀B w,l.holds (frs xs++ys) B w (.bool x.valid))(C:x.ok 1000000):OkI xs ys ⟨256,[fr i],.v (.one l)⟩:=
 ud (ai Tryz.func256 rfl rfl) (λva w h1=>wN va x w h1 C.p C.q) hi hl
theorem bo(hi:xs[i]? =some x)(C:xs[j]? =some y)(hl:∀B w,l.holds (frs xs++ys) B w (.bool (x.same y)))(hp:nl x.p<=1000000000000)(G:nl x.q<=1000000000000)(kp:nl y.p<=1000000000000)(kq:nl y.q<=1000000000000):OkI xs ys ⟨121,[fr i,fr j],.v (.one l)⟩:=
 inst2V (ai Tryz.func121 rfl rfl) (λva vb w h1 h2=>q_SameB va vb x y w h1 h2 hp G kp kq) hi C hl
theorem dL(h:x.p=0):x.sgn=0:=by unfold Fq.sgn;rw[if_pos h]
theorem sgn_ne{x:Fq}:x.sgn≠0↔x.p≠0:=by
 unfold Fq.sgn;by_cases h:x.p=0
 ·rw[if_pos h];simp[h]
 ·rw[if_neg h];simp only[ne_eq,h,not_false_eq_true,iff_true];split<;>decide
theorem iP(h:x.p≠0):(x.sgn==0)=false:=by have:=sgn_ne.2 h;simpa using this
theorem fQ(h:x.p≠0):(x.sgn !=0)=true:=by have:=sgn_ne.2 h;simpa using this
theorem jn(h:u≠c):(u==c)=false:=by simpa using h
theorem ue(h:u≠c):(u !=c)=true:=by simpa using h
theorem isR00(w:World):IsR w (.agg #[.slice none 0 0]) 0 0:=⟨none,0,rfl,Nat.le_refl _,Ag,λh=>Aa⟩
theorem gT{B:Blk}{w:World}:∀ {n:Nat} {cs:List Value},az ρ B w (EF n [Leaf.b false,.sl0,.sl0]).flatten cs->aW w (EF n Fq.zero.raw) cs
 | 0,cs,h=>by
  match cs,h with
  | [],_=>rfl
 | n+1,cs,h=>by
  match cs,h with
  | u1::u2::u3::cs',h=>
   obtain⟨g1,g2,I,J⟩:=h;have C:u1= .bool false:=g1;have G:u2= .slice none 0 0:=g2;have H:u3= .slice none 0 0:=I;subst C;subst G;subst H;have hz:nl 0=0:=bj;refine⟨none,0,none,0,cs',?_,?_,?_,gT (n:=n) J⟩
   ·simp[Fq.raw,Fq.zero,hz]
   ·simp only[Fq.raw,Fq.zero,hz];exact isR00 w
   ·simp only[Fq.raw,Fq.zero,hz];exact isR00 w
  | [],h=>exact h.elim
  | [_],h=>exact h.2.elim
  | [_,_],h=>exact h.2.2.elim
end
def Vq.cs(v:Vq):List Fq:=[v.x,v.y,v.z]
def Qq.cs(q:Qq):List Fq:=[q.w,q.x,q.y,q.z]
abbrev cB(w:World)(v:Value)(a:Vq):Prop:=IsL w v [a.x.raw,a.y.raw,a.z.raw]
abbrev RetL(W:World)(l:List Rq)(e:BH)(w':World):Prop:=∃v,e= .returned v/\IsL w' v l/\AG W.heap.size W w'
abbrev d7(W:World)(a:Vq)(e:BH)(w':World):Prop:=RetL W [a.x.raw,a.y.raw,a.z.raw] e w'
abbrev cX(w:World)(v:Value)(q:Qq):Prop:=IsL w v [q.w.raw,q.x.raw,q.y.raw,q.z.raw]
abbrev mI(W:World)(q:Qq)(e:BH)(w':World):Prop:=RetL W [q.w.raw,q.x.raw,q.y.raw,q.z.raw] e w'
def RetLE(W:World)(l:List Rq)(c:Int)(e:BH)(w':World):Prop:=∃v,e= .returned (.tuple #[v,.int .i64 c])/\IsL w' v l/\AG W.heap.size W w'
abbrev nU(W:World)(q:Qq)(c:Int)(e:BH)(w':World):Prop:=RetLE W [q.w.raw,q.x.raw,q.y.raw,q.z.raw] c e w'
theorem a8{u:Int}(C: -9223372036854775808<=u)(G:u<9223372036854775808):(Fq.ofInt u).ok 2:=⟨lD C G,aI.2 (by show(1:Nat)<4294967296^2;decide),by show(1:Nat)≠0;decide⟩
def uf(x y:Fq):List Fq:=[x,y,(x.mul y)]
variable{p:Prop}
theorem Ar(h:p:=by exact⟨rfl,rfl,trivial⟩):p:=h
theorem q_times(C:Value)(x y:Fq)(w:World)(H:IsL w C [x.raw,y.raw])(G:x.ok 1000000000)(hy:y.ok 1000000000):
  AH AE 84 #[C] w λe w'=>eN w (x.mul y) e w':=by
 refine(cRn (ρ:=frs (uf x y)++ []) (args:=[row [0,1]]) (vs:=[C]) (r:=.v (fr 2))
  (ae (qj (i:=0) (j:=1) (k:=2) rfl rfl rfl (G.mono th) (hy.mono th)) ag)
  ah Tryz.func84 Ab ⟨(af (xs:=uf x y) (ks:=[0,1]) (vs:=[x,y]) Ar).2 H,trivial⟩).mono ?_
 rintro e w' ⟨v,rfl,h1,h2⟩;exact⟨v,rfl,(aw (xs:=uf x y) (k:=2) rfl).1 h1,h2⟩
variable{xs:List Fq}{ys:Rho}{x:Fq}
theorem fq{ks:List Nat}{k:Nat}{y:Fq}(hi:AtL xs ks [x,y])(C:xs[k]? =some (x.mul y))(G:x.ok 1000000000)(hy:y.ok 1000000000):OkI xs ys ⟨84,[row ks],.v (fr k)⟩:=
 ⟨ai Tryz.func84 rfl rfl,λB w vs hB h=>by
  match vs,h with
  | [va],h=>
   refine(q_times va x y w ((af hi).1 h.1) G hy).mono ?_;rintro e w' ⟨v,rfl,h1,h2⟩;exact⟨v,rfl,(aw C).2 h1,h2⟩⟩
def y8(x y:Fq):List Fq:=[x,y,(x.sub y)]
theorem q_less(C:Value)(x y:Fq)(w:World)(H:IsL w C [x.raw,y.raw])(G:x.ok 1000000000)(hy:y.ok 1000000000):
  AH AE 194 #[C] w λe w'=>eN w (x.sub y) e w':=by
 refine(cRn (ρ:=frs (y8 x y)++ []) (args:=[row [0,1]]) (vs:=[C]) (r:=.v (fr 2))
  (ae (ql (i:=0) (j:=1) (k:=2) rfl rfl rfl (G.mono th) (hy.mono th)) ag)
  ah Tryz.func194 Ab ⟨(af (xs:=y8 x y) (ks:=[0,1]) (vs:=[x,y]) Ar).2 H,trivial⟩).mono ?_
 rintro e w' ⟨v,rfl,h1,h2⟩;exact⟨v,rfl,(aw (xs:=y8 x y) (k:=2) rfl).1 h1,h2⟩
theorem y9{ks:List Nat}{k:Nat}{y:Fq}(hi:AtL xs ks [x,y])(C:xs[k]? =some (x.sub y))(G:x.ok 1000000000)(hy:y.ok 1000000000):OkI xs ys ⟨194,[row ks],.v (fr k)⟩:=
 ⟨ai Tryz.func194 rfl rfl,λB w vs hB h=>by
  match vs,h with
  | [va],h=>
   refine(q_less va x y w ((af hi).1 h.1) G hy).mono ?_;rintro e w' ⟨v,rfl,h1,h2⟩;exact⟨v,rfl,(aw C).2 h1,h2⟩⟩
def jU(a:Vq)(b:Vq):List Fq:=[a.x,a.y,a.z,b.x,b.y,b.z,(a.x.add b.x),(a.y.add b.y),(a.z.add b.z)]
theorem Ad(h:p:=by exact⟨rfl,rfl,rfl,trivial⟩):p:=h
theorem q_eachAdd(va vb:Value)(a:Vq)(b:Vq)(w:World)(ia:cB w va a)(C:cB w vb b)(ha:a.ok 100000000)(hb:b.ok 100000000):
  AH AE 81 #[va,vb,fnV 85] w λe w'=>d7 w (a.add b) e w':=by
 refine(cRn (ρ:=frs (jU a b)++ []) (args:=[row [0,1,2],row [3,4,5],.one (.fn 85)]) (vs:=[va,vb,fnV 85]) (r:=.v (row [6,7,8]))
  (ae (qk (i:=0) (j:=3) (k:=6) rfl rfl rfl (ha.x.mono th) (hb.x.mono th)) (ae (qk (i:=1) (j:=4) (k:=7) rfl rfl rfl (ha.y.mono th) (hb.y.mono th)) (ae (qk (i:=2) (j:=5) (k:=8) rfl rfl rfl (ha.z.mono th) (hb.z.mono th)) ag)))
  ah Tryz.func81 Ab ⟨(af (xs:=jU a b) (ks:=[0,1,2]) (vs:=[a.x,a.y,a.z]) Ad).2 ia,⟨(af (xs:=jU a b) (ks:=[3,4,5]) (vs:=[b.x,b.y,b.z]) Ad).2 C,⟨rfl,trivial⟩⟩⟩).mono ?_
 rintro e w' ⟨v,rfl,h1,h2⟩;exact⟨v,rfl,(af (xs:=jU a b) (ks:=[6,7,8]) (vs:=[(a.x.add b.x),(a.y.add b.y),(a.z.add b.z)]) Ad).1 h1,h2⟩
variable{ka kb kr:List Nat}{a b:Vq}
theorem I_eachAdd(C:AtL xs ka [a.x,a.y,a.z])(G:AtL xs kb [b.x,b.y,b.z])(H:AtL xs kr [(a.add b).x,(a.add b).y,(a.add b).z])(ha:a.ok 100000000)(hb:b.ok 100000000):OkI xs ys ⟨81,[row ka,row kb,.one (.fn 85)],.v (row kr)⟩:=
 ⟨ai Tryz.func81 rfl rfl,λB w vs hB h=>by
  match vs,h with
  | [va,vb,vf],h=>
   have I:vf=fnV 85:=h.2.2.1;subst I;refine(q_eachAdd va vb a b w ((af C).1 h.1) ((af G).1 h.2.1) ha hb).mono ?_;rintro e w' ⟨v,rfl,h1,h2⟩;exact⟨v,rfl,(af H).2 h1,h2⟩⟩
def jV(a:Vq)(b:Vq):List Fq:=[a.x,a.y,a.z,b.x,b.y,b.z,(a.x.sub b.x),(a.y.sub b.y),(a.z.sub b.z)]
theorem q_eachSub(va vb:Value)(a:Vq)(b:Vq)(w:World)(ia:cB w va a)(C:cB w vb b)(ha:a.ok 100000000)(hb:b.ok 100000000):
  AH AE 81 #[va,vb,fnV 82] w λe w'=>d7 w (a.sub b) e w':=by
 refine(cRn (ρ:=frs (jV a b)++ []) (args:=[row [0,1,2],row [3,4,5],.one (.fn 82)]) (vs:=[va,vb,fnV 82]) (r:=.v (row [6,7,8]))
  (ae (ql (i:=0) (j:=3) (k:=6) rfl rfl rfl (ha.x.mono th) (hb.x.mono th)) (ae (ql (i:=1) (j:=4) (k:=7) rfl rfl rfl (ha.y.mono th) (hb.y.mono th)) (ae (ql (i:=2) (j:=5) (k:=8) rfl rfl rfl (ha.z.mono th) (hb.z.mono th)) ag)))
  ah Tryz.func81 Ab ⟨(af (xs:=jV a b) (ks:=[0,1,2]) (vs:=[a.x,a.y,a.z]) Ad).2 ia,⟨(af (xs:=jV a b) (ks:=[3,4,5]) (vs:=[b.x,b.y,b.z]) Ad).2 C,⟨rfl,trivial⟩⟩⟩).mono ?_
 rintro e w' ⟨v,rfl,h1,h2⟩;exact⟨v,rfl,(af (xs:=jV a b) (ks:=[6,7,8]) (vs:=[(a.x.sub b.x),(a.y.sub b.y),(a.z.sub b.z)]) Ad).1 h1,h2⟩
theorem I_eachSub(C:AtL xs ka [a.x,a.y,a.z])(G:AtL xs kb [b.x,b.y,b.z])(H:AtL xs kr [(a.sub b).x,(a.sub b).y,(a.sub b).z])(ha:a.ok 100000000)(hb:b.ok 100000000):OkI xs ys ⟨81,[row ka,row kb,.one (.fn 82)],.v (row kr)⟩:=
 ⟨ai Tryz.func81 rfl rfl,λB w vs hB h=>by
  match vs,h with
  | [va,vb,vf],h=>
   have I:vf=fnV 82:=h.2.2.1;subst I;refine(q_eachSub va vb a b w ((af C).1 h.1) ((af G).1 h.2.1) ha hb).mono ?_;rintro e w' ⟨v,rfl,h1,h2⟩;exact⟨v,rfl,(af H).2 h1,h2⟩⟩
def Vq.times(a b:Vq):Vq:=⟨a.x.mul b.x,a.y.mul b.y,a.z.mul b.z⟩
variable{d:Nat}
theorem Vq.ok.times{e:Nat}(h:a.ok d)(k:b.ok e):(a.times b).ok (d+e):=⟨h.x.mul k.x,h.y.mul k.y,h.z.mul k.z⟩
def jW(a:Vq)(b:Vq):List Fq:=[a.x,a.y,a.z,b.x,b.y,b.z,(a.x.mul b.x),(a.y.mul b.y),(a.z.mul b.z)]
theorem q_eachMul(va vb:Value)(a:Vq)(b:Vq)(w:World)(ia:cB w va a)(C:cB w vb b)(ha:a.ok 100000000)(hb:b.ok 100000000):
  AH AE 81 #[va,vb,fnV 136] w λe w'=>d7 w (a.times b) e w':=by
 refine(cRn (ρ:=frs (jW a b)++ []) (args:=[row [0,1,2],row [3,4,5],.one (.fn 136)]) (vs:=[va,vb,fnV 136]) (r:=.v (row [6,7,8]))
  (ae (qj (i:=0) (j:=3) (k:=6) rfl rfl rfl (ha.x.mono th) (hb.x.mono th)) (ae (qj (i:=1) (j:=4) (k:=7) rfl rfl rfl (ha.y.mono th) (hb.y.mono th)) (ae (qj (i:=2) (j:=5) (k:=8) rfl rfl rfl (ha.z.mono th) (hb.z.mono th)) ag)))
  ah Tryz.func81 Ab ⟨(af (xs:=jW a b) (ks:=[0,1,2]) (vs:=[a.x,a.y,a.z]) Ad).2 ia,⟨(af (xs:=jW a b) (ks:=[3,4,5]) (vs:=[b.x,b.y,b.z]) Ad).2 C,⟨rfl,trivial⟩⟩⟩).mono ?_
 rintro e w' ⟨v,rfl,h1,h2⟩;exact⟨v,rfl,(af (xs:=jW a b) (ks:=[6,7,8]) (vs:=[(a.x.mul b.x),(a.y.mul b.y),(a.z.mul b.z)]) Ad).1 h1,h2⟩
theorem I_eachMul(C:AtL xs ka [a.x,a.y,a.z])(G:AtL xs kb [b.x,b.y,b.z])(H:AtL xs kr [(a.times b).x,(a.times b).y,(a.times b).z])(ha:a.ok 100000000)(hb:b.ok 100000000):OkI xs ys ⟨81,[row ka,row kb,.one (.fn 136)],.v (row kr)⟩:=
 ⟨ai Tryz.func81 rfl rfl,λB w vs hB h=>by
  match vs,h with
  | [va,vb,vf],h=>
   have I:vf=fnV 136:=h.2.2.1;subst I;refine(q_eachMul va vb a b w ((af C).1 h.1) ((af G).1 h.2.1) ha hb).mono ?_;rintro e w' ⟨v,rfl,h1,h2⟩;exact⟨v,rfl,(af H).2 h1,h2⟩⟩
def ug(a:Vq)(b:Vq):List Fq:=[a.x,a.y,a.z,b.x,b.y,b.z,(a.add b).x,(a.add b).y,(a.add b).z]
theorem q_vAdd(va vb:Value)(a:Vq)(b:Vq)(w:World)(ia:cB w va a)(C:cB w vb b)(ha:a.ok 100000000)(hb:b.ok 100000000):
  AH AE 137 #[va,vb] w λe w'=>d7 w (a.add b) e w':=by
 refine(cRn (ρ:=frs (ug a b)++ []) (args:=[row [0,1,2],row [3,4,5]]) (vs:=[va,vb]) (r:=.v (row [6,7,8]))
  (ae (I_eachAdd (ka:=[0,1,2]) (a:=a) (kb:=[3,4,5]) (b:=b) (kr:=[6,7,8]) Ad Ad Ad (ha.mono th) (hb.mono th)) ag)
  ah Tryz.func137 Ab ⟨(af (xs:=ug a b) (ks:=[0,1,2]) (vs:=[a.x,a.y,a.z]) Ad).2 ia,⟨(af (xs:=ug a b) (ks:=[3,4,5]) (vs:=[b.x,b.y,b.z]) Ad).2 C,trivial⟩⟩).mono ?_
 rintro e w' ⟨v,rfl,h1,h2⟩;exact⟨v,rfl,(af (xs:=ug a b) (ks:=[6,7,8]) (vs:=[(a.add b).x,(a.add b).y,(a.add b).z]) Ad).1 h1,h2⟩
theorem za(C:AtL xs ka [a.x,a.y,a.z])(G:AtL xs kb [b.x,b.y,b.z])(H:AtL xs kr [(a.add b).x,(a.add b).y,(a.add b).z])(ha:a.ok 100000000)(hb:b.ok 100000000):OkI xs ys ⟨137,[row ka,row kb],.v (row kr)⟩:=
 ⟨ai Tryz.func137 rfl rfl,λB w vs hB h=>by
  match vs,h with
  | [va,vb],h=>
   refine(q_vAdd va vb a b w ((af C).1 h.1) ((af G).1 h.2.1) ha hb).mono ?_;rintro e w' ⟨v,rfl,h1,h2⟩;exact⟨v,rfl,(af H).2 h1,h2⟩⟩
def uh(a:Vq)(b:Vq):List Fq:=[a.x,a.y,a.z,b.x,b.y,b.z,(a.sub b).x,(a.sub b).y,(a.sub b).z]
theorem q_vSub(va vb:Value)(a:Vq)(b:Vq)(w:World)(ia:cB w va a)(C:cB w vb b)(ha:a.ok 100000000)(hb:b.ok 100000000):
  AH AE 25 #[va,vb] w λe w'=>d7 w (a.sub b) e w':=by
 refine(cRn (ρ:=frs (uh a b)++ []) (args:=[row [0,1,2],row [3,4,5]]) (vs:=[va,vb]) (r:=.v (row [6,7,8]))
  (ae (I_eachSub (ka:=[0,1,2]) (a:=a) (kb:=[3,4,5]) (b:=b) (kr:=[6,7,8]) Ad Ad Ad (ha.mono th) (hb.mono th)) ag)
  ah Tryz.func25 Ab ⟨(af (xs:=uh a b) (ks:=[0,1,2]) (vs:=[a.x,a.y,a.z]) Ad).2 ia,⟨(af (xs:=uh a b) (ks:=[3,4,5]) (vs:=[b.x,b.y,b.z]) Ad).2 C,trivial⟩⟩).mono ?_
 rintro e w' ⟨v,rfl,h1,h2⟩;exact⟨v,rfl,(af (xs:=uh a b) (ks:=[6,7,8]) (vs:=[(a.sub b).x,(a.sub b).y,(a.sub b).z]) Ad).1 h1,h2⟩
theorem I_vSub(C:AtL xs ka [a.x,a.y,a.z])(G:AtL xs kb [b.x,b.y,b.z])(H:AtL xs kr [(a.sub b).x,(a.sub b).y,(a.sub b).z])(ha:a.ok 100000000)(hb:b.ok 100000000):OkI xs ys ⟨25,[row ka,row kb],.v (row kr)⟩:=
 ⟨ai Tryz.func25 rfl rfl,λB w vs hB h=>by
  match vs,h with
  | [va,vb],h=>
   refine(q_vSub va vb a b w ((af C).1 h.1) ((af G).1 h.2.1) ha hb).mono ?_;rintro e w' ⟨v,rfl,h1,h2⟩;exact⟨v,rfl,(af H).2 h1,h2⟩⟩
def mJ(a:Vq)(k:Fq):List Fq:=[a.x,a.y,a.z,k,(a.times (Vq.mk k k k)).x,(a.times (Vq.mk k k k)).y,(a.times (Vq.mk k k k)).z]
theorem q_vScale(va G:Value)(a:Vq)(k:Fq)(w:World)(ia:cB w va a)(ik:IsQ w G k)(ha:a.ok 100000000)(C:k.ok 100000000):
  AH AE 118 #[va,G] w λe w'=>d7 w (a.scale k) e w':=by
 refine(cRn (ρ:=frs (mJ a k)++ []) (args:=[row [0,1,2],fr 3]) (vs:=[va,G]) (r:=.v (row [4,5,6]))
  (ae (I_eachMul (ka:=[0,1,2]) (a:=a) (kb:=[3,3,3]) (b:=(Vq.mk k k k)) (kr:=[4,5,6]) Ad Ad Ad (ha.mono th) (⟨C.mono th,C.mono th,C.mono th⟩:Vq.ok 100000000 (Vq.mk k k k))) ag)
  ah Tryz.func118 Ab ⟨(af (xs:=mJ a k) (ks:=[0,1,2]) (vs:=[a.x,a.y,a.z]) Ad).2 ia,⟨(aw (xs:=mJ a k) (k:=3) rfl).2 ik,trivial⟩⟩).mono ?_
 rintro e w' ⟨v,rfl,h1,h2⟩;exact⟨v,rfl,(af (xs:=mJ a k) (ks:=[4,5,6]) (vs:=[(a.times (Vq.mk k k k)).x,(a.times (Vq.mk k k k)).y,(a.times (Vq.mk k k k)).z]) Ad).1 h1,h2⟩
theorem jo{ik:Nat}{k:Fq}(C:AtL xs ka [a.x,a.y,a.z])(G:xs[ik]? =some k)(H:AtL xs kr [(a.scale k).x,(a.scale k).y,(a.scale k).z])(ha:a.ok 100000000)(I:k.ok 100000000):OkI xs ys ⟨118,[row ka,fr ik],.v (row kr)⟩:=
 ⟨ai Tryz.func118 rfl rfl,λB w vs hB h=>by
  match vs,h with
  | [va,vk],h=>
   refine(q_vScale va vk a k w ((af C).1 h.1) ((aw G).1 h.2.1) ha I).mono ?_;rintro e w' ⟨v,rfl,h1,h2⟩;exact⟨v,rfl,(af H).2 h1,h2⟩⟩
def ui(a:Vq)(b:Vq):List Fq:=[a.x,a.y,a.z,b.x,b.y,b.z,(a.x.mul b.x),(a.y.mul b.y),(a.z.mul b.z),((a.y.mul b.y).add (a.z.mul b.z)),((a.x.mul b.x).add ((a.y.mul b.y).add (a.z.mul b.z)))]
theorem q_vDot(va vb:Value)(a:Vq)(b:Vq)(w:World)(ia:cB w va a)(C:cB w vb b)(ha:a.ok 100000000)(hb:b.ok 100000000):
  AH AE 29 #[va,vb] w λe w'=>eN w (a.dot b) e w':=by
 refine(cRn (ρ:=frs (ui a b)++ []) (args:=[row [0,1,2],row [3,4,5]]) (vs:=[va,vb]) (r:=.v (fr 10))
  (ae (fq (ks:=[0,3]) (k:=6) Ar rfl (ha.x.mono th) (hb.x.mono th)) (ae (fq (ks:=[1,4]) (k:=7) Ar rfl (ha.y.mono th) (hb.y.mono th)) (ae (fq (ks:=[2,5]) (k:=8) Ar rfl (ha.z.mono th) (hb.z.mono th)) (ae (qk (i:=7) (j:=8) (k:=9) rfl rfl rfl ((ha.y.mul hb.y).mono th) ((ha.z.mul hb.z).mono th)) (ae (qk (i:=6) (j:=9) (k:=10) rfl rfl rfl ((ha.x.mul hb.x).mono th) (((ha.y.mul hb.y).add (ha.z.mul hb.z)).mono th)) ag)))))
  ah Tryz.func29 Ab ⟨(af (xs:=ui a b) (ks:=[0,1,2]) (vs:=[a.x,a.y,a.z]) Ad).2 ia,⟨(af (xs:=ui a b) (ks:=[3,4,5]) (vs:=[b.x,b.y,b.z]) Ad).2 C,trivial⟩⟩).mono ?_
 rintro e w' ⟨v,rfl,h1,h2⟩;exact⟨v,rfl,(aw (xs:=ui a b) (k:=10) rfl).1 h1,h2⟩
variable{ir:Nat}
theorem I_vDot(C:AtL xs ka [a.x,a.y,a.z])(G:AtL xs kb [b.x,b.y,b.z])(H:xs[ir]? =some (a.dot b))(ha:a.ok 100000000)(hb:b.ok 100000000):OkI xs ys ⟨29,[row ka,row kb],.v (fr ir)⟩:=
 ⟨ai Tryz.func29 rfl rfl,λB w vs hB h=>by
  match vs,h with
  | [va,vb],h=>
   refine(q_vDot va vb a b w ((af C).1 h.1) ((af G).1 h.2.1) ha hb).mono ?_;rintro e w' ⟨v,rfl,h1,h2⟩;exact⟨v,rfl,(aw H).2 h1,h2⟩⟩
def mK(a:Vq)(b:Vq):List Fq:=[a.x,a.y,a.z,b.x,b.y,b.z,(a.y.mul b.z),(a.z.mul b.y),((a.y.mul b.z).sub (a.z.mul b.y)),(a.z.mul b.x),(a.x.mul b.z),((a.z.mul b.x).sub (a.x.mul b.z)),(a.x.mul b.y),(a.y.mul b.x),((a.x.mul b.y).sub (a.y.mul b.x))]
theorem q_vCross(va vb:Value)(a:Vq)(b:Vq)(w:World)(ia:cB w va a)(C:cB w vb b)(ha:a.ok 100000000)(hb:b.ok 100000000):
  AH AE 138 #[va,vb] w λe w'=>d7 w (a.cross b) e w':=by
 refine(cRn (ρ:=frs (mK a b)++ []) (args:=[row [0,1,2],row [3,4,5]]) (vs:=[va,vb]) (r:=.v (row [8,11,14]))
  (ae (fq (ks:=[1,5]) (k:=6) Ar rfl (ha.y.mono th) (hb.z.mono th)) (ae (fq (ks:=[2,4]) (k:=7) Ar rfl (ha.z.mono th) (hb.y.mono th)) (ae (y9 (ks:=[6,7]) (k:=8) Ar rfl ((ha.y.mul hb.z).mono th) ((ha.z.mul hb.y).mono th)) (ae (fq (ks:=[2,3]) (k:=9) Ar rfl (ha.z.mono th) (hb.x.mono th)) (ae (fq (ks:=[0,5]) (k:=10) Ar rfl (ha.x.mono th) (hb.z.mono th)) (ae (y9 (ks:=[9,10]) (k:=11) Ar rfl ((ha.z.mul hb.x).mono th) ((ha.x.mul hb.z).mono th)) (ae (fq (ks:=[0,4]) (k:=12) Ar rfl (ha.x.mono th) (hb.y.mono th)) (ae (fq (ks:=[1,3]) (k:=13) Ar rfl (ha.y.mono th) (hb.x.mono th)) (ae (y9 (ks:=[12,13]) (k:=14) Ar rfl ((ha.x.mul hb.y).mono th) ((ha.y.mul hb.x).mono th)) ag)))))))))
  ah Tryz.func138 Ab ⟨(af (xs:=mK a b) (ks:=[0,1,2]) (vs:=[a.x,a.y,a.z]) Ad).2 ia,⟨(af (xs:=mK a b) (ks:=[3,4,5]) (vs:=[b.x,b.y,b.z]) Ad).2 C,trivial⟩⟩).mono ?_
 rintro e w' ⟨v,rfl,h1,h2⟩;exact⟨v,rfl,(af (xs:=mK a b) (ks:=[8,11,14]) (vs:=[((a.y.mul b.z).sub (a.z.mul b.y)),((a.z.mul b.x).sub (a.x.mul b.z)),((a.x.mul b.y).sub (a.y.mul b.x))]) Ad).1 h1,h2⟩
theorem I_vCross(C:AtL xs ka [a.x,a.y,a.z])(G:AtL xs kb [b.x,b.y,b.z])(H:AtL xs kr [(a.cross b).x,(a.cross b).y,(a.cross b).z])(ha:a.ok 100000000)(hb:b.ok 100000000):OkI xs ys ⟨138,[row ka,row kb],.v (row kr)⟩:=
 ⟨ai Tryz.func138 rfl rfl,λB w vs hB h=>by
  match vs,h with
  | [va,vb],h=>
   refine(q_vCross va vb a b w ((af C).1 h.1) ((af G).1 h.2.1) ha hb).mono ?_;rintro e w' ⟨v,rfl,h1,h2⟩;exact⟨v,rfl,(af H).2 h1,h2⟩⟩
def Vq.same(a b:Vq):Bool:=a.x.same b.x && (a.y.same b.y && a.z.same b.z)
def Qq.same(p q:Qq):Bool:=p.w.same q.w && (p.x.same q.x && (p.y.same q.y && p.z.same q.z))
theorem Vq.same_iff:a.same b=true↔a=b:=by
 obtain⟨C,G,H⟩:=a;obtain⟨I,J,K⟩:=b;simp[Vq.same,Fq.same_iff]
theorem Qq.same_iff{a b:Qq}:a.same b=true↔a=b:=by
 obtain⟨C,G,H,I⟩:=a;obtain⟨J,K,P,U⟩:=b;simp[Qq.same,Fq.same_iff]
def uj(a:Vq)(b:Vq):List Fq:=[a.x,a.y,a.z,b.x,b.y,b.z,(a.x.mul b.x),(a.y.mul b.y),(a.z.mul b.z),((a.y.mul b.y).add (a.z.mul b.z)),((a.x.mul b.x).add ((a.y.mul b.y).add (a.z.mul b.z)))]
theorem q_rDot(va vb:Value)(a:Vq)(b:Vq)(w:World)(ia:cB w va a)(C:cB w vb b)(ha:a.ok 100000000)(hb:b.ok 100000000):
  AH AE 294 #[va,vb] w λe w'=>eN w (a.dot b) e w':=by
 refine(cRn (ρ:=frs (uj a b)++ []) (args:=[row [0,1,2],row [3,4,5]]) (vs:=[va,vb]) (r:=.v (fr 10))
  (ae (dy (i:=0) (j:=3) (k:=6) rfl rfl rfl (ha.x.mono th) (hb.x.mono th)) (ae (dy (i:=1) (j:=4) (k:=7) rfl rfl rfl (ha.y.mono th) (hb.y.mono th)) (ae (dy (i:=2) (j:=5) (k:=8) rfl rfl rfl (ha.z.mono th) (hb.z.mono th)) (ae (jl (i:=7) (j:=8) (k:=9) rfl rfl rfl ((ha.y.mul hb.y).mono th) ((ha.z.mul hb.z).mono th)) (ae (jl (i:=6) (j:=9) (k:=10) rfl rfl rfl ((ha.x.mul hb.x).mono th) (((ha.y.mul hb.y).add (ha.z.mul hb.z)).mono th)) ag)))))
  ah Tryz.func294 Ab ⟨(af (xs:=uj a b) (ks:=[0,1,2]) (vs:=[a.x,a.y,a.z]) Ad).2 ia,⟨(af (xs:=uj a b) (ks:=[3,4,5]) (vs:=[b.x,b.y,b.z]) Ad).2 C,trivial⟩⟩).mono ?_
 rintro e w' ⟨v,rfl,h1,h2⟩;exact⟨v,rfl,(aw (xs:=uj a b) (k:=10) rfl).1 h1,h2⟩
theorem I_rDot(C:AtL xs ka [a.x,a.y,a.z])(G:AtL xs kb [b.x,b.y,b.z])(H:xs[ir]? =some (a.dot b))(ha:a.ok 100000000)(hb:b.ok 100000000):OkI xs ys ⟨294,[row ka,row kb],.v (fr ir)⟩:=
 ⟨ai Tryz.func294 rfl rfl,λB w vs hB h=>by
  match vs,h with
  | [va,vb],h=>
   refine(q_rDot va vb a b w ((af C).1 h.1) ((af G).1 h.2.1) ha hb).mono ?_;rintro e w' ⟨v,rfl,h1,h2⟩;exact⟨v,rfl,(aw H).2 h1,h2⟩⟩
def mL(a:Vq)(b:Vq):List Fq:=[a.x,a.y,a.z,b.x,b.y,b.z,(a.y.mul b.z),(a.z.mul b.y),((a.y.mul b.z).sub (a.z.mul b.y)),(a.z.mul b.x),(a.x.mul b.z),((a.z.mul b.x).sub (a.x.mul b.z)),(a.x.mul b.y),(a.y.mul b.x),((a.x.mul b.y).sub (a.y.mul b.x))]
theorem q_rCross(va vb:Value)(a:Vq)(b:Vq)(w:World)(ia:cB w va a)(C:cB w vb b)(ha:a.ok 100000000)(hb:b.ok 100000000):
  AH AE 296 #[va,vb] w λe w'=>d7 w (a.cross b) e w':=by
 refine(cRn (ρ:=frs (mL a b)++ []) (args:=[row [0,1,2],row [3,4,5]]) (vs:=[va,vb]) (r:=.v (row [8,11,14]))
  (ae (dy (i:=1) (j:=5) (k:=6) rfl rfl rfl (ha.y.mono th) (hb.z.mono th)) (ae (dy (i:=2) (j:=4) (k:=7) rfl rfl rfl (ha.z.mono th) (hb.y.mono th)) (ae (lG (i:=6) (j:=7) (k:=8) rfl rfl rfl ((ha.y.mul hb.z).mono th) ((ha.z.mul hb.y).mono th)) (ae (dy (i:=2) (j:=3) (k:=9) rfl rfl rfl (ha.z.mono th) (hb.x.mono th)) (ae (dy (i:=0) (j:=5) (k:=10) rfl rfl rfl (ha.x.mono th) (hb.z.mono th)) (ae (lG (i:=9) (j:=10) (k:=11) rfl rfl rfl ((ha.z.mul hb.x).mono th) ((ha.x.mul hb.z).mono th)) (ae (dy (i:=0) (j:=4) (k:=12) rfl rfl rfl (ha.x.mono th) (hb.y.mono th)) (ae (dy (i:=1) (j:=3) (k:=13) rfl rfl rfl (ha.y.mono th) (hb.x.mono th)) (ae (lG (i:=12) (j:=13) (k:=14) rfl rfl rfl ((ha.x.mul hb.y).mono th) ((ha.y.mul hb.x).mono th)) ag)))))))))
  ah Tryz.func296 Ab ⟨(af (xs:=mL a b) (ks:=[0,1,2]) (vs:=[a.x,a.y,a.z]) Ad).2 ia,⟨(af (xs:=mL a b) (ks:=[3,4,5]) (vs:=[b.x,b.y,b.z]) Ad).2 C,trivial⟩⟩).mono ?_
 rintro e w' ⟨v,rfl,h1,h2⟩;exact⟨v,rfl,(af (xs:=mL a b) (ks:=[8,11,14]) (vs:=[((a.y.mul b.z).sub (a.z.mul b.y)),((a.z.mul b.x).sub (a.x.mul b.z)),((a.x.mul b.y).sub (a.y.mul b.x))]) Ad).1 h1,h2⟩
theorem I_rCross(C:AtL xs ka [a.x,a.y,a.z])(G:AtL xs kb [b.x,b.y,b.z])(H:AtL xs kr [(a.cross b).x,(a.cross b).y,(a.cross b).z])(ha:a.ok 100000000)(hb:b.ok 100000000):OkI xs ys ⟨296,[row ka,row kb],.v (row kr)⟩:=
 ⟨ai Tryz.func296 rfl rfl,λB w vs hB h=>by
  match vs,h with
  | [va,vb],h=>
   refine(q_rCross va vb a b w ((af C).1 h.1) ((af G).1 h.2.1) ha hb).mono ?_;rintro e w' ⟨v,rfl,h1,h2⟩;exact⟨v,rfl,(af H).2 h1,h2⟩⟩
def mM(a:Vq)(k:Fq):List Fq:=[a.x,a.y,a.z,k,(a.x.mul k),(a.y.mul k),(a.z.mul k)]
theorem q_rScale(va G:Value)(a:Vq)(k:Fq)(w:World)(ia:cB w va a)(ik:IsQ w G k)(ha:a.ok 100000000)(C:k.ok 100000000):
  AH AE 267 #[va,G] w λe w'=>d7 w (a.scale k) e w':=by
 refine(cRn (ρ:=frs (mM a k)++ []) (args:=[row [0,1,2],fr 3]) (vs:=[va,G]) (r:=.v (row [4,5,6]))
  (ae (dy (i:=0) (j:=3) (k:=4) rfl rfl rfl (ha.x.mono th) (C.mono th)) (ae (dy (i:=1) (j:=3) (k:=5) rfl rfl rfl (ha.y.mono th) (C.mono th)) (ae (dy (i:=2) (j:=3) (k:=6) rfl rfl rfl (ha.z.mono th) (C.mono th)) ag)))
  ah Tryz.func267 Ab ⟨(af (xs:=mM a k) (ks:=[0,1,2]) (vs:=[a.x,a.y,a.z]) Ad).2 ia,⟨(aw (xs:=mM a k) (k:=3) rfl).2 ik,trivial⟩⟩).mono ?_
 rintro e w' ⟨v,rfl,h1,h2⟩;exact⟨v,rfl,(af (xs:=mM a k) (ks:=[4,5,6]) (vs:=[(a.x.mul k),(a.y.mul k),(a.z.mul k)]) Ad).1 h1,h2⟩
theorem qm{ik:Nat}{k:Fq}(C:AtL xs ka [a.x,a.y,a.z])(G:xs[ik]? =some k)(H:AtL xs kr [(a.scale k).x,(a.scale k).y,(a.scale k).z])(ha:a.ok 100000000)(I:k.ok 100000000):OkI xs ys ⟨267,[row ka,fr ik],.v (row kr)⟩:=
 ⟨ai Tryz.func267 rfl rfl,λB w vs hB h=>by
  match vs,h with
  | [va,vk],h=>
   refine(q_rScale va vk a k w ((af C).1 h.1) ((aw G).1 h.2.1) ha I).mono ?_;rintro e w' ⟨v,rfl,h1,h2⟩;exact⟨v,rfl,(af H).2 h1,h2⟩⟩
def uk(a:Vq)(b:Vq):List Fq:=[a.x,a.y,a.z,b.x,b.y,b.z,(a.x.add b.x),(a.y.add b.y),(a.z.add b.z)]
theorem q_rSum(va vb:Value)(a:Vq)(b:Vq)(w:World)(ia:cB w va a)(C:cB w vb b)(ha:a.ok 100000000)(hb:b.ok 100000000):
  AH AE 295 #[va,vb] w λe w'=>d7 w (a.add b) e w':=by
 refine(cRn (ρ:=frs (uk a b)++ []) (args:=[row [0,1,2],row [3,4,5]]) (vs:=[va,vb]) (r:=.v (row [6,7,8]))
  (ae (jl (i:=0) (j:=3) (k:=6) rfl rfl rfl (ha.x.mono th) (hb.x.mono th)) (ae (jl (i:=1) (j:=4) (k:=7) rfl rfl rfl (ha.y.mono th) (hb.y.mono th)) (ae (jl (i:=2) (j:=5) (k:=8) rfl rfl rfl (ha.z.mono th) (hb.z.mono th)) ag)))
  ah Tryz.func295 Ab ⟨(af (xs:=uk a b) (ks:=[0,1,2]) (vs:=[a.x,a.y,a.z]) Ad).2 ia,⟨(af (xs:=uk a b) (ks:=[3,4,5]) (vs:=[b.x,b.y,b.z]) Ad).2 C,trivial⟩⟩).mono ?_
 rintro e w' ⟨v,rfl,h1,h2⟩;exact⟨v,rfl,(af (xs:=uk a b) (ks:=[6,7,8]) (vs:=[(a.x.add b.x),(a.y.add b.y),(a.z.add b.z)]) Ad).1 h1,h2⟩
theorem I_rSum(C:AtL xs ka [a.x,a.y,a.z])(G:AtL xs kb [b.x,b.y,b.z])(H:AtL xs kr [(a.add b).x,(a.add b).y,(a.add b).z])(ha:a.ok 100000000)(hb:b.ok 100000000):OkI xs ys ⟨295,[row ka,row kb],.v (row kr)⟩:=
 ⟨ai Tryz.func295 rfl rfl,λB w vs hB h=>by
  match vs,h with
  | [va,vb],h=>
   refine(q_rSum va vb a b w ((af C).1 h.1) ((af G).1 h.2.1) ha hb).mono ?_;rintro e w' ⟨v,rfl,h1,h2⟩;exact⟨v,rfl,(af H).2 h1,h2⟩⟩
theorem dR{y:Fq}(h:x≠y):x.same y=false:=Bool.eq_false_iff.2 (mt Fq.same_iff.1 h)
def nV(a:Qq)(b:Qq):List Fq:=(a.cs++(b.cs))
theorem Ac(h:p:=by exact⟨rfl,rfl,rfl,rfl,trivial⟩):p:=h
theorem q_rEqual1(va vb:Value)(a:Qq)(b:Qq)(w:World)(ia:cX w va a)(G:cX w vb b)(ha:a.ok 1000000000)(hb:b.ok 1000000000)(C:a=b):
  AH AE 102 #[va,vb] w λe w'=>bk w (.bool true) e w':=by
 refine(cRn (ρ:=frs (nV a b)++ []) (args:=[row [0,1,2,3],row [4,5,6,7]]) (vs:=[va,vb]) (r:=.v (.one (.b true)))
  (ae (bo (i:=0) (j:=4) (l:=.b true) rfl rfl (lb (Fq.same_iff.2 (congrArg Qq.w C))) (ha.w.mono th).p (ha.w.mono th).q (hb.w.mono th).p (hb.w.mono th).q) (ae (bo (i:=1) (j:=5) (l:=.b true) rfl rfl (lb (Fq.same_iff.2 (congrArg Qq.x C))) (ha.x.mono th).p (ha.x.mono th).q (hb.x.mono th).p (hb.x.mono th).q) (ae (bo (i:=2) (j:=6) (l:=.b true) rfl rfl (lb (Fq.same_iff.2 (congrArg Qq.y C))) (ha.y.mono th).p (ha.y.mono th).q (hb.y.mono th).p (hb.y.mono th).q) (ae (bo (i:=3) (j:=7) (l:=.b true) rfl rfl (lb (Fq.same_iff.2 (congrArg Qq.z C))) (ha.z.mono th).p (ha.z.mono th).q (hb.z.mono th).p (hb.z.mono th).q) ag))))
  ah En Ab ⟨(af (xs:=nV a b) (ks:=[0,1,2,3]) (vs:=a.cs) Ac).2 ia,⟨(af (xs:=nV a b) (ks:=[4,5,6,7]) (vs:=b.cs) Ac).2 G,trivial⟩⟩).mono ?_
 rintro e w' ⟨v,rfl,h1,h2⟩;exact⟨congrArg A4 h1,h2⟩
variable{a b:Qq}
theorem sL(C:AtL xs ka a.cs)(G:AtL xs kb b.cs)(ha:a.ok 1000000000)(hb:b.ok 1000000000)(H:a=b):OkI xs ys ⟨102,[row ka,row kb],.v (.one (.b true))⟩:=
 ⟨ai En rfl rfl,λB w vs hB h=>by
  match vs,h with
  | [va,vb],h=>
   refine(q_rEqual1 va vb a b w ((af C).1 h.1) ((af G).1 h.2.1) ha hb H).mono ?_;rintro e w' ⟨rfl,h2⟩;exact⟨_,rfl,rfl,h2⟩⟩
def nW(a:Qq)(b:Qq):List Fq:=(a.cs++(b.cs))
def lH(a:Qq)(b:Qq):List Fq:=(a.cs++(b.cs))
def lI(a:Qq)(b:Qq):List Fq:=(a.cs++(b.cs))
def lJ(a:Qq)(b:Qq):List Fq:=(a.cs++(b.cs))
theorem q_rEqual0(va vb:Value)(a:Qq)(b:Qq)(w:World)(ia:cX w va a)(C:cX w vb b)(ha:a.ok 1000000000)(hb:b.ok 1000000000)(G:a≠b):
  AH AE 102 #[va,vb] w λe w'=>bk w (.bool false) e w':=by
 by_cases c0:a.w=b.w
 ·by_cases c1:a.x=b.x
  ·by_cases c2:a.y=b.y
   ·by_cases c3:a.z=b.z
    ·exact absurd (by cases a;cases b;simp only at c0 c1 c2 c3;subst c0 c1 c2 c3;rfl) G
    ·refine(cRn (ρ:=frs (nW a b)++ []) (args:=[row [0,1,2,3],row [4,5,6,7]]) (vs:=[va,vb]) (r:=.v (.one (.b false)))
      (ae (bo (i:=0) (j:=4) (l:=.b true) rfl rfl (lb (Fq.same_iff.2 c0)) (ha.w.mono th).p (ha.w.mono th).q (hb.w.mono th).p (hb.w.mono th).q) (ae (bo (i:=1) (j:=5) (l:=.b true) rfl rfl (lb (Fq.same_iff.2 c1)) (ha.x.mono th).p (ha.x.mono th).q (hb.x.mono th).p (hb.x.mono th).q) (ae (bo (i:=2) (j:=6) (l:=.b true) rfl rfl (lb (Fq.same_iff.2 c2)) (ha.y.mono th).p (ha.y.mono th).q (hb.y.mono th).p (hb.y.mono th).q) (ae (bo (i:=3) (j:=7) (l:=.b false) rfl rfl (lb (dR c3)) (ha.z.mono th).p (ha.z.mono th).q (hb.z.mono th).p (hb.z.mono th).q) ag))))
      ah En Ab ⟨(af (xs:=nW a b) (ks:=[0,1,2,3]) (vs:=a.cs) Ac).2 ia,⟨(af (xs:=nW a b) (ks:=[4,5,6,7]) (vs:=b.cs) Ac).2 C,trivial⟩⟩).mono ?_
     rintro e w' ⟨v,rfl,h1,h2⟩;exact⟨congrArg A4 h1,h2⟩
   ·refine(cRn (ρ:=frs (lH a b)++ []) (args:=[row [0,1,2,3],row [4,5,6,7]]) (vs:=[va,vb]) (r:=.v (.one (.b false)))
     (ae (bo (i:=0) (j:=4) (l:=.b true) rfl rfl (lb (Fq.same_iff.2 c0)) (ha.w.mono th).p (ha.w.mono th).q (hb.w.mono th).p (hb.w.mono th).q) (ae (bo (i:=1) (j:=5) (l:=.b true) rfl rfl (lb (Fq.same_iff.2 c1)) (ha.x.mono th).p (ha.x.mono th).q (hb.x.mono th).p (hb.x.mono th).q) (ae (bo (i:=2) (j:=6) (l:=.b false) rfl rfl (lb (dR c2)) (ha.y.mono th).p (ha.y.mono th).q (hb.y.mono th).p (hb.y.mono th).q) ag)))
     ah En Ab ⟨(af (xs:=lH a b) (ks:=[0,1,2,3]) (vs:=a.cs) Ac).2 ia,⟨(af (xs:=lH a b) (ks:=[4,5,6,7]) (vs:=b.cs) Ac).2 C,trivial⟩⟩).mono ?_
    rintro e w' ⟨v,rfl,h1,h2⟩;exact⟨congrArg A4 h1,h2⟩
  ·refine(cRn (ρ:=frs (lI a b)++ []) (args:=[row [0,1,2,3],row [4,5,6,7]]) (vs:=[va,vb]) (r:=.v (.one (.b false)))
    (ae (bo (i:=0) (j:=4) (l:=.b true) rfl rfl (lb (Fq.same_iff.2 c0)) (ha.w.mono th).p (ha.w.mono th).q (hb.w.mono th).p (hb.w.mono th).q) (ae (bo (i:=1) (j:=5) (l:=.b false) rfl rfl (lb (dR c1)) (ha.x.mono th).p (ha.x.mono th).q (hb.x.mono th).p (hb.x.mono th).q) ag))
    ah En Ab ⟨(af (xs:=lI a b) (ks:=[0,1,2,3]) (vs:=a.cs) Ac).2 ia,⟨(af (xs:=lI a b) (ks:=[4,5,6,7]) (vs:=b.cs) Ac).2 C,trivial⟩⟩).mono ?_
   rintro e w' ⟨v,rfl,h1,h2⟩;exact⟨congrArg A4 h1,h2⟩
 ·refine(cRn (ρ:=frs (lJ a b)++ []) (args:=[row [0,1,2,3],row [4,5,6,7]]) (vs:=[va,vb]) (r:=.v (.one (.b false)))
   (ae (bo (i:=0) (j:=4) (l:=.b false) rfl rfl (lb (dR c0)) (ha.w.mono th).p (ha.w.mono th).q (hb.w.mono th).p (hb.w.mono th).q) ag)
   ah En Ab ⟨(af (xs:=lJ a b) (ks:=[0,1,2,3]) (vs:=a.cs) Ac).2 ia,⟨(af (xs:=lJ a b) (ks:=[4,5,6,7]) (vs:=b.cs) Ac).2 C,trivial⟩⟩).mono ?_
  rintro e w' ⟨v,rfl,h1,h2⟩;exact⟨congrArg A4 h1,h2⟩
theorem I_rEqual0(C:AtL xs ka a.cs)(G:AtL xs kb b.cs)(ha:a.ok 1000000000)(hb:b.ok 1000000000)(H:a≠b):OkI xs ys ⟨102,[row ka,row kb],.v (.one (.b false))⟩:=
 ⟨ai En rfl rfl,λB w vs hB h=>by
  match vs,h with
  | [va,vb],h=>
   refine(q_rEqual0 va vb a b w ((af C).1 h.1) ((af G).1 h.2.1) ha hb H).mono ?_;rintro e w' ⟨rfl,h2⟩;exact⟨_,rfl,rfl,h2⟩⟩
theorem z0:nl 0<=1000000000000:=by rw[bj];decide
def zb(q:Qq):List Fq:=q.cs
theorem q_axis(vq:Value)(q:Qq)(w:World)(C:cX w vq q)(G:q.ok 1000000000):
  AH AE 135 #[vq] w λe w'=>d7 w q.axis e w':=by
 refine(cRn (ρ:=frs (zb q)++ []) (args:=[row [0,1,2,3]]) (vs:=[vq]) (r:=.v (row [1,2,3]))
  (ag)
  ah Tryz.func135 Ab ⟨(af (xs:=zb q) (ks:=[0,1,2,3]) (vs:=q.cs) Ac).2 C,trivial⟩).mono ?_
 rintro e w' ⟨v,rfl,h1,h2⟩;exact⟨v,rfl,(af (xs:=zb q) (ks:=[1,2,3]) (vs:=[q.x,q.y,q.z]) Ad).1 h1,h2⟩
variable{kq:List Nat}
theorem ul(C:AtL xs kq q.cs)(G:AtL xs kr [q.axis.x,q.axis.y,q.axis.z])(H:q.ok 1000000000):OkI xs ys ⟨135,[row kq],.v (row kr)⟩:=
 ⟨ai Tryz.func135 rfl rfl,λB w vs hB h=>by
  match vs,h with
  | [vq],h=>
   refine(q_axis vq q w ((af C).1 h.1) H).mono ?_;rintro e w' ⟨v,rfl,h1,h2⟩;exact⟨v,rfl,(af G).2 h1,h2⟩⟩
def zc(q:Qq):List Fq:=q.cs
theorem q_part(vq:Value)(q:Qq)(w:World)(C:cX w vq q)(G:q.ok 1000000000):
  AH AE 268 #[vq] w λe w'=>d7 w q.axis e w':=by
 refine(cRn (ρ:=frs (zc q)++ []) (args:=[row [0,1,2,3]]) (vs:=[vq]) (r:=.v (row [1,2,3]))
  (ag)
  ah Tryz.func268 Ab ⟨(af (xs:=zc q) (ks:=[0,1,2,3]) (vs:=q.cs) Ac).2 C,trivial⟩).mono ?_
 rintro e w' ⟨v,rfl,h1,h2⟩;exact⟨v,rfl,(af (xs:=zc q) (ks:=[1,2,3]) (vs:=[q.x,q.y,q.z]) Ad).1 h1,h2⟩
theorem zd(C:AtL xs kq q.cs)(G:AtL xs kr [q.axis.x,q.axis.y,q.axis.z])(H:q.ok 1000000000):OkI xs ys ⟨268,[row kq],.v (row kr)⟩:=
 ⟨ai Tryz.func268 rfl rfl,λB w vs hB h=>by
  match vs,h with
  | [vq],h=>
   refine(q_part vq q w ((af C).1 h.1) H).mono ?_;rintro e w' ⟨v,rfl,h1,h2⟩;exact⟨v,rfl,(af G).2 h1,h2⟩⟩
def um(q:Qq):List Fq:=q.cs
theorem q_parts(vq:Value)(q:Qq)(w:World)(C:cX w vq q)(G:q.ok 1000000000):
  AH AE 177 #[vq] w λe w'=>mI w q e w':=by
 refine(cRn (ρ:=frs (um q)++ []) (args:=[row [0,1,2,3]]) (vs:=[vq]) (r:=.v (row [0,1,2,3]))
  (ag)
  ah Tryz.func177 Ab ⟨(af (xs:=um q) (ks:=[0,1,2,3]) (vs:=q.cs) Ac).2 C,trivial⟩).mono ?_
 rintro e w' ⟨v,rfl,h1,h2⟩;exact⟨v,rfl,(af (xs:=um q) (ks:=[0,1,2,3]) (vs:=q.cs) Ac).1 h1,h2⟩
theorem bZ(C:AtL xs kq q.cs)(G:AtL xs kr q.cs)(H:q.ok 1000000000):OkI xs ys ⟨177,[row kq],.v (row kr)⟩:=
 ⟨ai Tryz.func177 rfl rfl,λB w vs hB h=>by
  match vs,h with
  | [vq],h=>
   refine(q_parts vq q w ((af C).1 h.1) H).mono ?_;rintro e w' ⟨v,rfl,h1,h2⟩;exact⟨v,rfl,(af G).2 h1,h2⟩⟩
def nX(a:Qq)(b:Qq):List Fq:=(a.cs++(b.cs))
theorem q_fEqual1(va vb:Value)(a:Qq)(b:Qq)(w:World)(ia:cX w va a)(I:cX w vb b)(ha:a.ok 100000000)(hb:b.ok 100000000)(C:a=b)(G:a.comp)(H:b.comp):
  AH AE 115 #[va,vb] w λe w'=>bk w (.bool true) e w':=by
 refine(cRn (ρ:=frs (nX a b)++ []) (args:=[row [0,1,2,3],row [4,5,6,7]]) (vs:=[va,vb]) (r:=.v (.one (.b true)))
  (ae (bZ (kq:=[0,1,2,3]) (q:=a) (kr:=[0,1,2,3]) Ac Ac (ha.mono th)) (ae (bZ (kq:=[4,5,6,7]) (q:=b) (kr:=[4,5,6,7]) Ac Ac (hb.mono th)) (ae (bw (i:=0) (j:=4) rfl rfl (li ((bv G.w H.w).2 (congrArg Qq.w C))) (ha.w.mono th) (hb.w.mono th)) (ae (bw (i:=1) (j:=5) rfl rfl (li ((bv G.x H.x).2 (congrArg Qq.x C))) (ha.x.mono th) (hb.x.mono th)) (ae (bw (i:=2) (j:=6) rfl rfl (li ((bv G.y H.y).2 (congrArg Qq.y C))) (ha.y.mono th) (hb.y.mono th)) (ae (bw (i:=3) (j:=7) rfl rfl (li ((bv G.z H.z).2 (congrArg Qq.z C))) (ha.z.mono th) (hb.z.mono th)) ag))))))
  ah Eo Ab ⟨(af (xs:=nX a b) (ks:=[0,1,2,3]) (vs:=a.cs) Ac).2 ia,⟨(af (xs:=nX a b) (ks:=[4,5,6,7]) (vs:=b.cs) Ac).2 I,trivial⟩⟩).mono ?_
 rintro e w' ⟨v,rfl,h1,h2⟩;exact⟨congrArg A4 h1,h2⟩
theorem sM(C:AtL xs ka a.cs)(G:AtL xs kb b.cs)(ha:a.ok 100000000)(hb:b.ok 100000000)(H:a=b)(I:a.comp)(J:b.comp):OkI xs ys ⟨115,[row ka,row kb],.v (.one (.b true))⟩:=
 ⟨ai Eo rfl rfl,λB w vs hB h=>by
  match vs,h with
  | [va,vb],h=>
   refine(q_fEqual1 va vb a b w ((af C).1 h.1) ((af G).1 h.2.1) ha hb H I J).mono ?_;rintro e w' ⟨rfl,h2⟩;exact⟨_,rfl,rfl,h2⟩⟩
def nY(a:Qq)(b:Qq):List Fq:=(a.cs++(b.cs))
def lK(a:Qq)(b:Qq):List Fq:=(a.cs++(b.cs))
def lL(a:Qq)(b:Qq):List Fq:=(a.cs++(b.cs))
def lM(a:Qq)(b:Qq):List Fq:=(a.cs++(b.cs))
theorem q_fEqual0(va vb:Value)(a:Qq)(b:Qq)(w:World)(ia:cX w va a)(H:cX w vb b)(ha:a.ok 100000000)(hb:b.ok 100000000)(I:a≠b)(C:a.comp)(G:b.comp):
  AH AE 115 #[va,vb] w λe w'=>bk w (.bool false) e w':=by
 by_cases c0:a.w=b.w
 ·by_cases c1:a.x=b.x
  ·by_cases c2:a.y=b.y
   ·by_cases c3:a.z=b.z
    ·exact absurd (by cases a;cases b;simp only at c0 c1 c2 c3;subst c0 c1 c2 c3;rfl) I
    ·refine(cRn (ρ:=frs (nY a b)++([.val (.int .i64 (a.z.cmp b.z))]:List Vp)) (args:=[row [0,1,2,3],row [4,5,6,7]]) (vs:=[va,vb]) (r:=.v (.one (.b false)))
      (ae (bZ (kq:=[0,1,2,3]) (q:=a) (kr:=[0,1,2,3]) Ac Ac (ha.mono th)) (ae (bZ (kq:=[4,5,6,7]) (q:=b) (kr:=[4,5,6,7]) Ac Ac (hb.mono th)) (ae (bw (i:=0) (j:=4) rfl rfl (li ((bv C.w G.w).2 c0)) (ha.w.mono th) (hb.w.mono th)) (ae (bw (i:=1) (j:=5) rfl rfl (li ((bv C.x G.x).2 c1)) (ha.x.mono th) (hb.x.mono th)) (ae (bw (i:=2) (j:=6) rfl rfl (li ((bv C.y G.y).2 c2)) (ha.y.mono th) (hb.y.mono th)) (ae (bw (i:=3) (j:=7) rfl rfl (lr (n:=24) rfl) (ha.z.mono th) (hb.z.mono th)) ag))))))
      (aj (fN (n:=24) (c:=0) (t:=3) rfl (ue (mt (bv C.z G.z).1 c3))) (ah)) Eo Ab ⟨(af (xs:=nY a b) (ks:=[0,1,2,3]) (vs:=a.cs) Ac).2 ia,⟨(af (xs:=nY a b) (ks:=[4,5,6,7]) (vs:=b.cs) Ac).2 H,trivial⟩⟩).mono ?_
     rintro e w' ⟨v,rfl,h1,h2⟩;exact⟨congrArg A4 h1,h2⟩
   ·refine(cRn (ρ:=frs (lK a b)++([.val (.int .i64 (a.y.cmp b.y))]:List Vp)) (args:=[row [0,1,2,3],row [4,5,6,7]]) (vs:=[va,vb]) (r:=.v (.one (.b false)))
     (ae (bZ (kq:=[0,1,2,3]) (q:=a) (kr:=[0,1,2,3]) Ac Ac (ha.mono th)) (ae (bZ (kq:=[4,5,6,7]) (q:=b) (kr:=[4,5,6,7]) Ac Ac (hb.mono th)) (ae (bw (i:=0) (j:=4) rfl rfl (li ((bv C.w G.w).2 c0)) (ha.w.mono th) (hb.w.mono th)) (ae (bw (i:=1) (j:=5) rfl rfl (li ((bv C.x G.x).2 c1)) (ha.x.mono th) (hb.x.mono th)) (ae (bw (i:=2) (j:=6) rfl rfl (lr (n:=24) rfl) (ha.y.mono th) (hb.y.mono th)) ag)))))
     (aj (fN (n:=24) (c:=0) (t:=3) rfl (ue (mt (bv C.y G.y).1 c2))) (ah)) Eo Ab ⟨(af (xs:=lK a b) (ks:=[0,1,2,3]) (vs:=a.cs) Ac).2 ia,⟨(af (xs:=lK a b) (ks:=[4,5,6,7]) (vs:=b.cs) Ac).2 H,trivial⟩⟩).mono ?_
    rintro e w' ⟨v,rfl,h1,h2⟩;exact⟨congrArg A4 h1,h2⟩
  ·refine(cRn (ρ:=frs (lL a b)++([.val (.int .i64 (a.x.cmp b.x))]:List Vp)) (args:=[row [0,1,2,3],row [4,5,6,7]]) (vs:=[va,vb]) (r:=.v (.one (.b false)))
    (ae (bZ (kq:=[0,1,2,3]) (q:=a) (kr:=[0,1,2,3]) Ac Ac (ha.mono th)) (ae (bZ (kq:=[4,5,6,7]) (q:=b) (kr:=[4,5,6,7]) Ac Ac (hb.mono th)) (ae (bw (i:=0) (j:=4) rfl rfl (li ((bv C.w G.w).2 c0)) (ha.w.mono th) (hb.w.mono th)) (ae (bw (i:=1) (j:=5) rfl rfl (lr (n:=24) rfl) (ha.x.mono th) (hb.x.mono th)) ag))))
    (aj (fN (n:=24) (c:=0) (t:=3) rfl (ue (mt (bv C.x G.x).1 c1))) (ah)) Eo Ab ⟨(af (xs:=lL a b) (ks:=[0,1,2,3]) (vs:=a.cs) Ac).2 ia,⟨(af (xs:=lL a b) (ks:=[4,5,6,7]) (vs:=b.cs) Ac).2 H,trivial⟩⟩).mono ?_
   rintro e w' ⟨v,rfl,h1,h2⟩;exact⟨congrArg A4 h1,h2⟩
 ·refine(cRn (ρ:=frs (lM a b)++([.val (.int .i64 (a.w.cmp b.w))]:List Vp)) (args:=[row [0,1,2,3],row [4,5,6,7]]) (vs:=[va,vb]) (r:=.v (.one (.b false)))
   (ae (bZ (kq:=[0,1,2,3]) (q:=a) (kr:=[0,1,2,3]) Ac Ac (ha.mono th)) (ae (bZ (kq:=[4,5,6,7]) (q:=b) (kr:=[4,5,6,7]) Ac Ac (hb.mono th)) (ae (bw (i:=0) (j:=4) rfl rfl (lr (n:=24) rfl) (ha.w.mono th) (hb.w.mono th)) ag)))
   (aj (fN (n:=24) (c:=0) (t:=3) rfl (ue (mt (bv C.w G.w).1 c0))) (ah)) Eo Ab ⟨(af (xs:=lM a b) (ks:=[0,1,2,3]) (vs:=a.cs) Ac).2 ia,⟨(af (xs:=lM a b) (ks:=[4,5,6,7]) (vs:=b.cs) Ac).2 H,trivial⟩⟩).mono ?_
  rintro e w' ⟨v,rfl,h1,h2⟩;exact⟨congrArg A4 h1,h2⟩
theorem I_fEqual0(C:AtL xs ka a.cs)(G:AtL xs kb b.cs)(ha:a.ok 100000000)(hb:b.ok 100000000)(H:a≠b)(I:a.comp)(J:b.comp):OkI xs ys ⟨115,[row ka,row kb],.v (.one (.b false))⟩:=
 ⟨ai Eo rfl rfl,λB w vs hB h=>by
  match vs,h with
  | [va,vb],h=>
   refine(q_fEqual0 va vb a b w ((af C).1 h.1) ((af G).1 h.2.1) ha hb H I J).mono ?_;rintro e w' ⟨rfl,h2⟩;exact⟨_,rfl,rfl,h2⟩⟩
def uo(q:Qq):List Fq:=q.cs
theorem q_whole(vq:Value)(q:Qq)(w:World)(C:cX w vq q)(G:q.ok 1000000000):
  AH AE 140 #[vq] w λe w'=>mI w q e w':=by
 refine(cRn (ρ:=frs (uo q)++ []) (args:=[row [0,1,2,3]]) (vs:=[vq]) (r:=.v (row [0,1,2,3]))
  (ag)
  ah Tryz.func140 Ab ⟨(af (xs:=uo q) (ks:=[0,1,2,3]) (vs:=q.cs) Ac).2 C,trivial⟩).mono ?_
 rintro e w' ⟨v,rfl,h1,h2⟩;exact⟨v,rfl,(af (xs:=uo q) (ks:=[0,1,2,3]) (vs:=q.cs) Ac).1 h1,h2⟩
theorem pf(C:AtL xs kq q.cs)(G:AtL xs kr q.cs)(H:q.ok 1000000000):OkI xs ys ⟨140,[row kq],.v (row kr)⟩:=
 ⟨ai Tryz.func140 rfl rfl,λB w vs hB h=>by
  match vs,h with
  | [vq],h=>
   refine(q_whole vq q w ((af C).1 h.1) H).mono ?_;rintro e w' ⟨v,rfl,h1,h2⟩;exact⟨v,rfl,(af G).2 h1,h2⟩⟩
def aaP(q:Qq):List Fq:=q.cs
theorem q_Half1(vq:Value)(q:Qq)(w:World)(G:cX w vq q)(C:q.ok 1000000000)(h0:q.w.p=0):
  AH AE 259 #[vq] w λe w'=>bk w (.bool true) e w':=by
 refine(cRn (ρ:=frs (aaP q)++ []) (args:=[row [0,1,2,3]]) (vs:=[vq]) (r:=.v (.one (.b true)))
  (ae (aS (i:=0) rfl (li (dL h0)) (C.w.mono th)) ag)
  ah Tryz.func259 Ab ⟨(af (xs:=aaP q) (ks:=[0,1,2,3]) (vs:=q.cs) Ac).2 G,trivial⟩).mono ?_
 rintro e w' ⟨v,rfl,h1,h2⟩;exact⟨congrArg A4 h1,h2⟩
theorem I_Half1(C:AtL xs kq q.cs)(G:q.ok 1000000000)(h0:q.w.p=0):OkI xs ys ⟨259,[row kq],.v (.one (.b true))⟩:=
 ⟨ai Tryz.func259 rfl rfl,λB w vs hB h=>by
  match vs,h with
  | [vq],h=>
   refine(q_Half1 vq q w ((af C).1 h.1) G h0).mono ?_;rintro e w' ⟨rfl,h2⟩;exact⟨_,rfl,rfl,h2⟩⟩
def aaQ(q:Qq):List Fq:=q.cs
theorem q_Half0(vq:Value)(q:Qq)(w:World)(G:cX w vq q)(C:q.ok 1000000000)(h0:q.w.p≠0):
  AH AE 259 #[vq] w λe w'=>bk w (.bool false) e w':=by
 refine(cRn (ρ:=frs (aaQ q)++([.val (.int .i64 q.w.sgn)]:List Vp)) (args:=[row [0,1,2,3]]) (vs:=[vq]) (r:=.v (.one (.b false)))
  (ae (aS (i:=0) rfl (lr (n:=12) rfl) (C.w.mono th)) ag)
  (aj (gr (n:=12) (c:=0) (t:=3) rfl (iP h0)) (ah)) Tryz.func259 Ab ⟨(af (xs:=aaQ q) (ks:=[0,1,2,3]) (vs:=q.cs) Ac).2 G,trivial⟩).mono ?_
 rintro e w' ⟨v,rfl,h1,h2⟩;exact⟨congrArg A4 h1,h2⟩
theorem I_Half0(C:AtL xs kq q.cs)(G:q.ok 1000000000)(h0:q.w.p≠0):OkI xs ys ⟨259,[row kq],.v (.one (.b false))⟩:=
 ⟨ai Tryz.func259 rfl rfl,λB w vs hB h=>by
  match vs,h with
  | [vq],h=>
   refine(q_Half0 vq q w ((af C).1 h.1) G h0).mono ?_;rintro e w' ⟨rfl,h2⟩;exact⟨_,rfl,rfl,h2⟩⟩
def wU(q:Qq):List Fq:=q.cs
theorem q_rHalf1(vq:Value)(q:Qq)(w:World)(G:cX w vq q)(C:q.ok 1000000000)(h0:q.w.p=0):
  AH AE 265 #[vq] w λe w'=>bk w (.bool true) e w':=by
 refine(cRn (ρ:=frs (wU q)++ []) (args:=[row [0,1,2,3]]) (vs:=[vq]) (r:=.v (.one (.b true)))
  (ae (dn (i:=0) rfl (li (dL h0)) (C.w.mono th)) ag)
  ah Tryz.func265 Ab ⟨(af (xs:=wU q) (ks:=[0,1,2,3]) (vs:=q.cs) Ac).2 G,trivial⟩).mono ?_
 rintro e w' ⟨v,rfl,h1,h2⟩;exact⟨congrArg A4 h1,h2⟩
theorem I_rHalf1(C:AtL xs kq q.cs)(G:q.ok 1000000000)(h0:q.w.p=0):OkI xs ys ⟨265,[row kq],.v (.one (.b true))⟩:=
 ⟨ai Tryz.func265 rfl rfl,λB w vs hB h=>by
  match vs,h with
  | [vq],h=>
   refine(q_rHalf1 vq q w ((af C).1 h.1) G h0).mono ?_;rintro e w' ⟨rfl,h2⟩;exact⟨_,rfl,rfl,h2⟩⟩
def wX(q:Qq):List Fq:=q.cs
theorem q_rHalf0(vq:Value)(q:Qq)(w:World)(G:cX w vq q)(C:q.ok 1000000000)(h0:q.w.p≠0):
  AH AE 265 #[vq] w λe w'=>bk w (.bool false) e w':=by
 refine(cRn (ρ:=frs (wX q)++([.val (.int .i64 q.w.sgn)]:List Vp)) (args:=[row [0,1,2,3]]) (vs:=[vq]) (r:=.v (.one (.b false)))
  (ae (dn (i:=0) rfl (lr (n:=12) rfl) (C.w.mono th)) ag)
  (aj (gr (n:=12) (c:=0) (t:=3) rfl (iP h0)) (ah)) Tryz.func265 Ab ⟨(af (xs:=wX q) (ks:=[0,1,2,3]) (vs:=q.cs) Ac).2 G,trivial⟩).mono ?_
 rintro e w' ⟨v,rfl,h1,h2⟩;exact⟨congrArg A4 h1,h2⟩
theorem I_rHalf0(C:AtL xs kq q.cs)(G:q.ok 1000000000)(h0:q.w.p≠0):OkI xs ys ⟨265,[row kq],.v (.one (.b false))⟩:=
 ⟨ai Tryz.func265 rfl rfl,λB w vs hB h=>by
  match vs,h with
  | [vq],h=>
   refine(q_rHalf0 vq q w ((af C).1 h.1) G h0).mono ?_;rintro e w' ⟨rfl,h2⟩;exact⟨_,rfl,rfl,h2⟩⟩
theorem ok_id:Qq.id.ok 2:=⟨a8 th th,a8 th th,a8 th th,a8 th th⟩
def xrIdX:List Fq:=[(Fq.ofInt 1),(Fq.ofInt 0)]
theorem q_rId(w:World):
  AH AE 204 #[] w λe w'=>mI w Qq.id e w':=by
 refine(cRn (ρ:=frs (xrIdX)++ []) (args:=[]) (vs:=[]) (r:=.v (row [0,1,1,1]))
  (ae (jm (k:=0) rfl th th) (ae (jm (k:=1) rfl th th) ag))
  ah Tryz.func204 Ab trivial).mono ?_
 rintro e w' ⟨v,rfl,h1,h2⟩;exact⟨v,rfl,(af (xs:=xrIdX) (ks:=[0,1,1,1]) (vs:=[(Fq.ofInt 1),(Fq.ofInt 0),(Fq.ofInt 0),(Fq.ofInt 0)]) Ac).1 h1,h2⟩
theorem I_rId(C:AtL xs kr Qq.id.cs):OkI xs ys ⟨204,[],.v (row kr)⟩:=
 ⟨ai Tryz.func204 rfl rfl,λB w vs hB h=>by
  match vs,h with
  | [],h=>
   refine(q_rId w).mono ?_;rintro e w' ⟨v,rfl,h1,h2⟩;exact⟨v,rfl,(af C).2 h1,h2⟩⟩
theorem jp(h0:q.first.p≠0):q.canon=q.over q.first:=by unfold Qq.canon;rw[if_neg h0]
theorem Qq.ok.mk4{a b c e:Fq}(h1:a.ok d)(h2:b.ok d)(h3:c.ok d)(h4:e.ok d):(Qq.mk a b c e).ok d:=⟨h1,h2,h3,h4⟩
theorem sN{u:Fq}{c:Vq}{e:Nat}(h1:u.ok d)(h2:c.ok e)(h0:(Qq.mk u c.x c.y c.z).first.p≠0):(Qq.mk u c.x c.y c.z).canon.ok (d+e+(d+e)):=(Qq.ok.mk4 (h1.mono Aa) (h2.x.mono Aa) (h2.y.mono Aa) (h2.z.mono Aa):Qq.ok (d+e) _).canon h0
def qn(q:Qq):List Fq:=q.cs
def nZ(q:Qq):List Fq:=q.cs
def n4(q:Qq):List Fq:=q.cs
def n9(q:Qq):List Fq:=q.cs
theorem q_rFirst(vq:Value)(q:Qq)(w:World)(H:cX w vq q)(C:q.ok 1000000000):
  AH AE 257 #[vq] w λe w'=>eN w q.first e w':=by
 by_cases c0:q.w.p=0
 ·by_cases c1:q.x.p=0
  ·by_cases c2:q.y.p=0
   ·have G:q.first=q.z:=by simp[Qq.first,c0,c1,c2]
    rw[G];refine(cRn (ρ:=frs (qn q)++ []) (args:=[row [0,1,2,3]]) (vs:=[vq]) (r:=.v (fr 3))
     (ae (dn (i:=0) rfl (li (dL c0)) (C.w.mono th)) (ae (dn (i:=1) rfl (li (dL c1)) (C.x.mono th)) (ae (dn (i:=2) rfl (li (dL c2)) (C.y.mono th)) ag)))
     ah Tryz.func257 Ab ⟨(af (xs:=qn q) (ks:=[0,1,2,3]) (vs:=q.cs) Ac).2 H,trivial⟩).mono ?_
    rintro e w' ⟨v,rfl,h1,h2⟩;exact⟨v,rfl,(aw (xs:=qn q) (k:=3) rfl).1 h1,h2⟩
   ·have G:q.first=q.y:=by simp[Qq.first,c0,c1,c2]
    rw[G];refine(cRn (ρ:=frs (nZ q)++([.val (.int .i64 q.y.sgn)]:List Vp)) (args:=[row [0,1,2,3]]) (vs:=[vq]) (r:=.v (fr 2))
     (ae (dn (i:=0) rfl (li (dL c0)) (C.w.mono th)) (ae (dn (i:=1) rfl (li (dL c1)) (C.x.mono th)) (ae (dn (i:=2) rfl (lr (n:=12) rfl) (C.y.mono th)) ag)))
     (aj (fN (n:=12) (c:=0) (t:=3) rfl (fQ c2)) (ah)) Tryz.func257 Ab ⟨(af (xs:=nZ q) (ks:=[0,1,2,3]) (vs:=q.cs) Ac).2 H,trivial⟩).mono ?_
    rintro e w' ⟨v,rfl,h1,h2⟩;exact⟨v,rfl,(aw (xs:=nZ q) (k:=2) rfl).1 h1,h2⟩
  ·have G:q.first=q.x:=by simp[Qq.first,c0,c1]
   rw[G];refine(cRn (ρ:=frs (n4 q)++([.val (.int .i64 q.x.sgn)]:List Vp)) (args:=[row [0,1,2,3]]) (vs:=[vq]) (r:=.v (fr 1))
    (ae (dn (i:=0) rfl (li (dL c0)) (C.w.mono th)) (ae (dn (i:=1) rfl (lr (n:=12) rfl) (C.x.mono th)) ag))
    (aj (fN (n:=12) (c:=0) (t:=3) rfl (fQ c1)) (ah)) Tryz.func257 Ab ⟨(af (xs:=n4 q) (ks:=[0,1,2,3]) (vs:=q.cs) Ac).2 H,trivial⟩).mono ?_
   rintro e w' ⟨v,rfl,h1,h2⟩;exact⟨v,rfl,(aw (xs:=n4 q) (k:=1) rfl).1 h1,h2⟩
 ·have G:q.first=q.w:=by simp[Qq.first,c0]
  rw[G];refine(cRn (ρ:=frs (n9 q)++([.val (.int .i64 q.w.sgn)]:List Vp)) (args:=[row [0,1,2,3]]) (vs:=[vq]) (r:=.v (fr 0))
   (ae (dn (i:=0) rfl (lr (n:=12) rfl) (C.w.mono th)) ag)
   (aj (fN (n:=12) (c:=0) (t:=3) rfl (fQ c0)) (ah)) Tryz.func257 Ab ⟨(af (xs:=n9 q) (ks:=[0,1,2,3]) (vs:=q.cs) Ac).2 H,trivial⟩).mono ?_
  rintro e w' ⟨v,rfl,h1,h2⟩;exact⟨v,rfl,(aw (xs:=n9 q) (k:=0) rfl).1 h1,h2⟩
theorem qo(C:AtL xs kq q.cs)(G:xs[ir]? =some q.first)(H:q.ok 1000000000):OkI xs ys ⟨257,[row kq],.v (fr ir)⟩:=
 ⟨ai Tryz.func257 rfl rfl,λB w vs hB h=>by
  match vs,h with
  | [vq],h=>
   refine(q_rFirst vq q w ((af C).1 h.1) H).mono ?_;rintro e w' ⟨v,rfl,h1,h2⟩;exact⟨v,rfl,(aw G).2 h1,h2⟩⟩
def pg(x:Fq)(d:Fq):List Fq:=[x,d,(x.div d)]
theorem q_rOver(G C:Value)(x:Fq)(d:Fq)(w:World)(ix:IsQ w G x)(id:IsQ w C d)(I:x.ok 1000000000)(H:d.ok 1000000000)(h0:d.p≠0):
  AH AE 306 #[G,C] w λe w'=>eN w (x.div d) e w':=by
 refine(cRn (ρ:=frs (pg x d)++ []) (args:=[fr 0,fr 1]) (vs:=[G,C]) (r:=.v (fr 2))
  (ae (I_rDiv (i:=0) (j:=1) (k:=2) rfl rfl rfl (I.mono th) (H.mono th) h0) ag)
  ah Tryz.func306 Ab ⟨(aw (xs:=pg x d) (k:=0) rfl).2 ix,⟨(aw (xs:=pg x d) (k:=1) rfl).2 id,trivial⟩⟩).mono ?_
 rintro e w' ⟨v,rfl,h1,h2⟩;exact⟨v,rfl,(aw (xs:=pg x d) (k:=2) rfl).1 h1,h2⟩
theorem ph{ix:Nat}{id:Nat}{d:Fq}(G:xs[ix]? =some x)(ad:xs[id]? =some d)(C:xs[ir]? =some (x.div d))(I:x.ok 1000000000)(H:d.ok 1000000000)(h0:d.p≠0):OkI xs ys ⟨306,[fr ix,fr id],.v (fr ir)⟩:=
 ⟨ai Tryz.func306 rfl rfl,λB w vs hB h=>by
  match vs,h with
  | [vx,vd],h=>
   refine(q_rOver vx vd x d w ((aw G).1 h.1) ((aw ad).1 h.2.1) I H h0).mono ?_;rintro e w' ⟨v,rfl,h1,h2⟩;exact⟨v,rfl,(aw C).2 h1,h2⟩⟩
def gU(p0:Fq)(p1:Fq)(p2:Fq)(p3:Fq):List Fq:=[p0,p1,p2,p3,(Qq.mk p0 p1 p2 p3).first,(p0.div (Qq.mk p0 p1 p2 p3).first),(p1.div (Qq.mk p0 p1 p2 p3).first),(p2.div (Qq.mk p0 p1 p2 p3).first),(p3.div (Qq.mk p0 p1 p2 p3).first)]
theorem q_rMakeT(V Y Z aa:Value)(C:Fq)(G:Fq)(H:Fq)(I:Fq)(w:World)(ip0:IsQ w V C)(ip1:IsQ w Y G)(ip2:IsQ w Z H)(ip3:IsQ w aa I)(J:C.ok 100000000)(K:G.ok 100000000)(P:H.ok 100000000)(U:I.ok 100000000)(h0:(Qq.mk C G H I).first.p≠0):
  AH AE 298 #[V,Y,Z,aa] w λe w'=>nU w (Qq.mk C G H I).canon 0 e w':=by
 rw[jp h0];refine(cRn (ρ:=frs (gU C G H I)++([.val (.int .i64 (Qq.mk C G H I).first.sgn)]:List Vp)) (args:=[fr 0,fr 1,fr 2,fr 3]) (vs:=[V,Y,Z,aa]) (r:=.tup [row [5,6,7,8],.one (.i .i64 0)])
  (ae (qo (kq:=[0,1,2,3]) (q:=(Qq.mk C G H I)) (ir:=4) Ac rfl ((Qq.ok.mk4 J K P U).mono th)) (ae (dn (i:=4) rfl (lr (n:=27) rfl) ((Qq.ok.mk4 J K P U).first.mono th)) (ae (ph (ix:=0) (id:=4) (ir:=5) rfl rfl rfl (J.mono th) ((Qq.ok.mk4 J K P U).first.mono th) h0) (ae (ph (ix:=1) (id:=4) (ir:=6) rfl rfl rfl (K.mono th) ((Qq.ok.mk4 J K P U).first.mono th) h0) (ae (ph (ix:=2) (id:=4) (ir:=7) rfl rfl rfl (P.mono th) ((Qq.ok.mk4 J K P U).first.mono th) h0) (ae (ph (ix:=3) (id:=4) (ir:=8) rfl rfl rfl (U.mono th) ((Qq.ok.mk4 J K P U).first.mono th) h0) ag))))))
  (aj (gr (n:=27) (c:=0) (t:=3) rfl (iP h0)) (ah)) Tryz.func298 Ab ⟨(aw (xs:=gU C G H I) (k:=0) rfl).2 ip0,⟨(aw (xs:=gU C G H I) (k:=1) rfl).2 ip1,⟨(aw (xs:=gU C G H I) (k:=2) rfl).2 ip2,⟨(aw (xs:=gU C G H I) (k:=3) rfl).2 ip3,trivial⟩⟩⟩⟩).mono ?_
 rintro e w' ⟨v,rfl,⟨vs,rfl,h1⟩,h2⟩
 match vs,h1 with
 | [r,c],h1=>
  obtain⟨⟨cs,rfl,k1⟩,k2,_⟩:=h1;have k2:c=_:=k2;subst k2;exact⟨_,rfl,(af (xs:=gU C G H I) (ks:=[5,6,7,8]) (vs:=[(C.div (Qq.mk C G H I).first),(G.div (Qq.mk C G H I).first),(H.div (Qq.mk C G H I).first),(I.div (Qq.mk C G H I).first)]) Ac).1 ⟨_,rfl,k1⟩,h2⟩
theorem I_rMakeT{ip0:Nat}{ip1:Nat}{ip2:Nat}{ip3:Nat}{C:Fq}{G:Fq}{H:Fq}{I:Fq}(J:xs[ip0]? =some C)(ap1:xs[ip1]? =some G)(ap2:xs[ip2]? =some H)(ap3:xs[ip3]? =some I)(Y:AtL xs kr (Qq.mk C G H I).canon.cs)(K:C.ok 100000000)(P:G.ok 100000000)(U:H.ok 100000000)(V:I.ok 100000000)(h0:(Qq.mk C G H I).first.p≠0):OkI xs ys ⟨298,[fr ip0,fr ip1,fr ip2,fr ip3],.tup [row kr,.one (.i .i64 0)]⟩:=
 ⟨ai Tryz.func298 rfl rfl,λB w vs hB h=>by
  match vs,h with
  | [vp0,vp1,vp2,vp3],h=>
   refine(q_rMakeT vp0 vp1 vp2 vp3 C G H I w ((aw J).1 h.1) ((aw ap1).1 h.2.1) ((aw ap2).1 h.2.2.1) ((aw ap3).1 h.2.2.2.1) K P U V h0).mono ?_;rintro e w' ⟨v,rfl,h1,h2⟩;exact⟨_,rfl,⟨[v,.int .i64 0],rfl,(af Y).2 h1,rfl,trivial⟩,h2⟩⟩
def gV(p0:Fq)(p1:Fq)(p2:Fq)(p3:Fq):List Fq:=[p0,p1,p2,p3,(p0.div p3),(p1.div p3),(p2.div p3),(p3.div p3)]
def fD(p0:Fq)(p1:Fq)(p2:Fq)(p3:Fq):List Fq:=[p0,p1,p2,p3,(p0.div p2),(p1.div p2),(p2.div p2),(p3.div p2)]
def fE(p0:Fq)(p1:Fq)(p2:Fq)(p3:Fq):List Fq:=[p0,p1,p2,p3,(p0.div p1),(p1.div p1),(p2.div p1),(p3.div p1)]
def fF(p0:Fq)(p1:Fq)(p2:Fq)(p3:Fq):List Fq:=[p0,p1,p2,p3,(p0.div p0),(p1.div p0),(p2.div p0),(p3.div p0)]
theorem q_fMakeT(V Y Z aa:Value)(C:Fq)(G:Fq)(H:Fq)(I:Fq)(w:World)(ip0:IsQ w V C)(ip1:IsQ w Y G)(ip2:IsQ w Z H)(ip3:IsQ w aa I)(J:C.ok 100000000)(K:G.ok 100000000)(P:H.ok 100000000)(U:I.ok 100000000)(h0:(Qq.mk C G H I).first.p≠0):
  AH AE 195 #[V,Y,Z,aa] w λe w'=>nU w (Qq.mk C G H I).canon 0 e w':=by
 by_cases c0:C.p=0
 ·by_cases c1:G.p=0
  ·by_cases c2:H.p=0
   ·by_cases c3:I.p=0
    ·exact absurd (by simp[Qq.first,c0,c1,c2,c3]) h0
    ·have e1:(Qq.mk C G H I).first=I:=by simp[Qq.first,c0,c1,c2,c3]
     rw[jp h0,e1];refine(cRn (ρ:=frs (gV C G H I)++([.val (.int .i64 I.sgn)]:List Vp)) (args:=[fr 0,fr 1,fr 2,fr 3]) (vs:=[V,Y,Z,aa]) (r:=.tup [row [4,5,6,7],.one (.i .i64 0)])
      (ae (aS (i:=0) rfl (li (dL c0)) (J.mono th)) (ae (aS (i:=1) rfl (li (dL c1)) (K.mono th)) (ae (aS (i:=2) rfl (li (dL c2)) (P.mono th)) (ae (aS (i:=3) rfl (lr (n:=24) rfl) (U.mono th)) (ae (dx (i:=0) (j:=3) (k:=4) rfl rfl rfl (J.mono th) (U.mono th) c3) (ae (dx (i:=1) (j:=3) (k:=5) rfl rfl rfl (K.mono th) (U.mono th) c3) (ae (dx (i:=2) (j:=3) (k:=6) rfl rfl rfl (P.mono th) (U.mono th) c3) (ae (dx (i:=3) (j:=3) (k:=7) rfl rfl rfl (U.mono th) (U.mono th) c3) (ae (pf (kq:=[4,5,6,7]) (q:=(Qq.mk (C.div I) (G.div I) (H.div I) (I.div I))) (kr:=[4,5,6,7]) Ac Ac (⟨(J.div U c3).mono th,(K.div U c3).mono th,(P.div U c3).mono th,(U.div U c3).mono th⟩:Qq.ok 1000000000 (Qq.mk (C.div I) (G.div I) (H.div I) (I.div I)))) ag)))))))))
      (aj (gr (n:=24) (c:=0) (t:=3) rfl (iP c3)) (ah)) Tryz.func195 Ab ⟨(aw (xs:=gV C G H I) (k:=0) rfl).2 ip0,⟨(aw (xs:=gV C G H I) (k:=1) rfl).2 ip1,⟨(aw (xs:=gV C G H I) (k:=2) rfl).2 ip2,⟨(aw (xs:=gV C G H I) (k:=3) rfl).2 ip3,trivial⟩⟩⟩⟩).mono ?_
     rintro e w' ⟨v,rfl,⟨vs,rfl,h1⟩,h2⟩
     match vs,h1 with
     | [r,c],h1=>
      obtain⟨⟨cs,rfl,k1⟩,k2,_⟩:=h1;have k2:c=_:=k2;subst k2;exact⟨_,rfl,(af (xs:=gV C G H I) (ks:=[4,5,6,7]) (vs:=[(C.div I),(G.div I),(H.div I),(I.div I)]) Ac).1 ⟨_,rfl,k1⟩,h2⟩
   ·have e1:(Qq.mk C G H I).first=H:=by simp[Qq.first,c0,c1,c2]
    rw[jp h0,e1];refine(cRn (ρ:=frs (fD C G H I)++([.val (.int .i64 H.sgn)]:List Vp)) (args:=[fr 0,fr 1,fr 2,fr 3]) (vs:=[V,Y,Z,aa]) (r:=.tup [row [4,5,6,7],.one (.i .i64 0)])
     (ae (aS (i:=0) rfl (li (dL c0)) (J.mono th)) (ae (aS (i:=1) rfl (li (dL c1)) (K.mono th)) (ae (aS (i:=2) rfl (lr (n:=24) rfl) (P.mono th)) (ae (dx (i:=0) (j:=2) (k:=4) rfl rfl rfl (J.mono th) (P.mono th) c2) (ae (dx (i:=1) (j:=2) (k:=5) rfl rfl rfl (K.mono th) (P.mono th) c2) (ae (dx (i:=2) (j:=2) (k:=6) rfl rfl rfl (P.mono th) (P.mono th) c2) (ae (dx (i:=3) (j:=2) (k:=7) rfl rfl rfl (U.mono th) (P.mono th) c2) (ae (pf (kq:=[4,5,6,7]) (q:=(Qq.mk (C.div H) (G.div H) (H.div H) (I.div H))) (kr:=[4,5,6,7]) Ac Ac (⟨(J.div P c2).mono th,(K.div P c2).mono th,(P.div P c2).mono th,(U.div P c2).mono th⟩:Qq.ok 1000000000 (Qq.mk (C.div H) (G.div H) (H.div H) (I.div H)))) ag))))))))
     (aj (gr (n:=24) (c:=0) (t:=3) rfl (iP c2)) (ah)) Tryz.func195 Ab ⟨(aw (xs:=fD C G H I) (k:=0) rfl).2 ip0,⟨(aw (xs:=fD C G H I) (k:=1) rfl).2 ip1,⟨(aw (xs:=fD C G H I) (k:=2) rfl).2 ip2,⟨(aw (xs:=fD C G H I) (k:=3) rfl).2 ip3,trivial⟩⟩⟩⟩).mono ?_
    rintro e w' ⟨v,rfl,⟨vs,rfl,h1⟩,h2⟩
    match vs,h1 with
    | [r,c],h1=>
     obtain⟨⟨cs,rfl,k1⟩,k2,_⟩:=h1;have k2:c=_:=k2;subst k2;exact⟨_,rfl,(af (xs:=fD C G H I) (ks:=[4,5,6,7]) (vs:=[(C.div H),(G.div H),(H.div H),(I.div H)]) Ac).1 ⟨_,rfl,k1⟩,h2⟩
  ·have e1:(Qq.mk C G H I).first=G:=by simp[Qq.first,c0,c1]
   rw[jp h0,e1];refine(cRn (ρ:=frs (fE C G H I)++([.val (.int .i64 G.sgn)]:List Vp)) (args:=[fr 0,fr 1,fr 2,fr 3]) (vs:=[V,Y,Z,aa]) (r:=.tup [row [4,5,6,7],.one (.i .i64 0)])
    (ae (aS (i:=0) rfl (li (dL c0)) (J.mono th)) (ae (aS (i:=1) rfl (lr (n:=24) rfl) (K.mono th)) (ae (dx (i:=0) (j:=1) (k:=4) rfl rfl rfl (J.mono th) (K.mono th) c1) (ae (dx (i:=1) (j:=1) (k:=5) rfl rfl rfl (K.mono th) (K.mono th) c1) (ae (dx (i:=2) (j:=1) (k:=6) rfl rfl rfl (P.mono th) (K.mono th) c1) (ae (dx (i:=3) (j:=1) (k:=7) rfl rfl rfl (U.mono th) (K.mono th) c1) (ae (pf (kq:=[4,5,6,7]) (q:=(Qq.mk (C.div G) (G.div G) (H.div G) (I.div G))) (kr:=[4,5,6,7]) Ac Ac (⟨(J.div K c1).mono th,(K.div K c1).mono th,(P.div K c1).mono th,(U.div K c1).mono th⟩:Qq.ok 1000000000 (Qq.mk (C.div G) (G.div G) (H.div G) (I.div G)))) ag)))))))
    (aj (gr (n:=24) (c:=0) (t:=3) rfl (iP c1)) (ah)) Tryz.func195 Ab ⟨(aw (xs:=fE C G H I) (k:=0) rfl).2 ip0,⟨(aw (xs:=fE C G H I) (k:=1) rfl).2 ip1,⟨(aw (xs:=fE C G H I) (k:=2) rfl).2 ip2,⟨(aw (xs:=fE C G H I) (k:=3) rfl).2 ip3,trivial⟩⟩⟩⟩).mono ?_
   rintro e w' ⟨v,rfl,⟨vs,rfl,h1⟩,h2⟩
   match vs,h1 with
   | [r,c],h1=>
    obtain⟨⟨cs,rfl,k1⟩,k2,_⟩:=h1;have k2:c=_:=k2;subst k2;exact⟨_,rfl,(af (xs:=fE C G H I) (ks:=[4,5,6,7]) (vs:=[(C.div G),(G.div G),(H.div G),(I.div G)]) Ac).1 ⟨_,rfl,k1⟩,h2⟩
 ·have e1:(Qq.mk C G H I).first=C:=by simp[Qq.first,c0]
  rw[jp h0,e1];refine(cRn (ρ:=frs (fF C G H I)++([.val (.int .i64 C.sgn)]:List Vp)) (args:=[fr 0,fr 1,fr 2,fr 3]) (vs:=[V,Y,Z,aa]) (r:=.tup [row [4,5,6,7],.one (.i .i64 0)])
   (ae (aS (i:=0) rfl (lr (n:=24) rfl) (J.mono th)) (ae (dx (i:=0) (j:=0) (k:=4) rfl rfl rfl (J.mono th) (J.mono th) c0) (ae (dx (i:=1) (j:=0) (k:=5) rfl rfl rfl (K.mono th) (J.mono th) c0) (ae (dx (i:=2) (j:=0) (k:=6) rfl rfl rfl (P.mono th) (J.mono th) c0) (ae (dx (i:=3) (j:=0) (k:=7) rfl rfl rfl (U.mono th) (J.mono th) c0) (ae (pf (kq:=[4,5,6,7]) (q:=(Qq.mk (C.div C) (G.div C) (H.div C) (I.div C))) (kr:=[4,5,6,7]) Ac Ac (⟨(J.div J c0).mono th,(K.div J c0).mono th,(P.div J c0).mono th,(U.div J c0).mono th⟩:Qq.ok 1000000000 (Qq.mk (C.div C) (G.div C) (H.div C) (I.div C)))) ag))))))
   (aj (gr (n:=24) (c:=0) (t:=3) rfl (iP c0)) (ah)) Tryz.func195 Ab ⟨(aw (xs:=fF C G H I) (k:=0) rfl).2 ip0,⟨(aw (xs:=fF C G H I) (k:=1) rfl).2 ip1,⟨(aw (xs:=fF C G H I) (k:=2) rfl).2 ip2,⟨(aw (xs:=fF C G H I) (k:=3) rfl).2 ip3,trivial⟩⟩⟩⟩).mono ?_
  rintro e w' ⟨v,rfl,⟨vs,rfl,h1⟩,h2⟩
  match vs,h1 with
  | [r,c],h1=>
   obtain⟨⟨cs,rfl,k1⟩,k2,_⟩:=h1;have k2:c=_:=k2;subst k2;exact⟨_,rfl,(af (xs:=fF C G H I) (ks:=[4,5,6,7]) (vs:=[(C.div C),(G.div C),(H.div C),(I.div C)]) Ac).1 ⟨_,rfl,k1⟩,h2⟩
theorem I_fMakeT{ip0:Nat}{ip1:Nat}{ip2:Nat}{ip3:Nat}{C:Fq}{G:Fq}{H:Fq}{I:Fq}(J:xs[ip0]? =some C)(ap1:xs[ip1]? =some G)(ap2:xs[ip2]? =some H)(ap3:xs[ip3]? =some I)(Y:AtL xs kr (Qq.mk C G H I).canon.cs)(K:C.ok 100000000)(P:G.ok 100000000)(U:H.ok 100000000)(V:I.ok 100000000)(h0:(Qq.mk C G H I).first.p≠0):OkI xs ys ⟨195,[fr ip0,fr ip1,fr ip2,fr ip3],.tup [row kr,.one (.i .i64 0)]⟩:=
 ⟨ai Tryz.func195 rfl rfl,λB w vs hB h=>by
  match vs,h with
  | [vp0,vp1,vp2,vp3],h=>
   refine(q_fMakeT vp0 vp1 vp2 vp3 C G H I w ((aw J).1 h.1) ((aw ap1).1 h.2.1) ((aw ap2).1 h.2.2.1) ((aw ap3).1 h.2.2.2.1) K P U V h0).mono ?_;rintro e w' ⟨v,rfl,h1,h2⟩;exact⟨_,rfl,⟨[v,.int .i64 0],rfl,(af Y).2 h1,rfl,trivial⟩,h2⟩⟩
def mN(u:Fq)(c:Vq):List Fq:=([u,c.x,c.y,c.z]++((Qq.mk u c.x c.y c.z).canon.cs))
theorem q_rCanon(G C:Value)(u:Fq)(c:Vq)(w:World)(iu:IsQ w G u)(I:cB w C c)(H:u.ok 100000000)(hc:c.ok 100000000)(h0:(Qq.mk u c.x c.y c.z).first.p≠0):
  AH AE 266 #[G,C] w λe w'=>mI w (Qq.mk u c.x c.y c.z).canon e w':=by
 refine(cRn (ρ:=frs (mN u c)++ []) (args:=[fr 0,row [1,2,3]]) (vs:=[G,C]) (r:=.v (row [4,5,6,7]))
  (ae (I_rMakeT (ip0:=0) (ip1:=1) (ip2:=2) (ip3:=3) (kr:=[4,5,6,7]) rfl rfl rfl rfl Ac (H.mono th) (hc.x.mono th) (hc.y.mono th) (hc.z.mono th) h0) ag)
  ah Tryz.func266 Ab ⟨(aw (xs:=mN u c) (k:=0) rfl).2 iu,⟨(af (xs:=mN u c) (ks:=[1,2,3]) (vs:=[c.x,c.y,c.z]) Ad).2 I,trivial⟩⟩).mono ?_
 rintro e w' ⟨v,rfl,h1,h2⟩;exact⟨v,rfl,(af (xs:=mN u c) (ks:=[4,5,6,7]) (vs:=(Qq.mk u c.x c.y c.z).canon.cs) Ac).1 h1,h2⟩
theorem qq{iu:Nat}{kc:List Nat}{u:Fq}{c:Vq}(H:xs[iu]? =some u)(C:AtL xs kc [c.x,c.y,c.z])(G:AtL xs kr (Qq.mk u c.x c.y c.z).canon.cs)(I:u.ok 100000000)(hc:c.ok 100000000)(h0:(Qq.mk u c.x c.y c.z).first.p≠0):OkI xs ys ⟨266,[fr iu,row kc],.v (row kr)⟩:=
 ⟨ai Tryz.func266 rfl rfl,λB w vs hB h=>by
  match vs,h with
  | [vu,vc],h=>
   refine(q_rCanon vu vc u c w ((aw H).1 h.1) ((af C).1 h.2.1) I hc h0).mono ?_;rintro e w' ⟨v,rfl,h1,h2⟩;exact⟨v,rfl,(af G).2 h1,h2⟩⟩
def mO(u:Fq)(c:Vq):List Fq:=([u,c.x,c.y,c.z]++((Qq.mk u c.x c.y c.z).canon.cs))
theorem q_fCanon(G C:Value)(u:Fq)(c:Vq)(w:World)(iu:IsQ w G u)(I:cB w C c)(H:u.ok 100000000)(hc:c.ok 100000000)(h0:(Qq.mk u c.x c.y c.z).first.p≠0):
  AH AE 139 #[G,C] w λe w'=>mI w (Qq.mk u c.x c.y c.z).canon e w':=by
 refine(cRn (ρ:=frs (mO u c)++ []) (args:=[fr 0,row [1,2,3]]) (vs:=[G,C]) (r:=.v (row [4,5,6,7]))
  (ae (I_fMakeT (ip0:=0) (ip1:=1) (ip2:=2) (ip3:=3) (kr:=[4,5,6,7]) rfl rfl rfl rfl Ac (H.mono th) (hc.x.mono th) (hc.y.mono th) (hc.z.mono th) h0) ag)
  ah Tryz.func139 Ab ⟨(aw (xs:=mO u c) (k:=0) rfl).2 iu,⟨(af (xs:=mO u c) (ks:=[1,2,3]) (vs:=[c.x,c.y,c.z]) Ad).2 I,trivial⟩⟩).mono ?_
 rintro e w' ⟨v,rfl,h1,h2⟩;exact⟨v,rfl,(af (xs:=mO u c) (ks:=[4,5,6,7]) (vs:=(Qq.mk u c.x c.y c.z).canon.cs) Ac).1 h1,h2⟩
theorem qr{iu:Nat}{kc:List Nat}{u:Fq}{c:Vq}(H:xs[iu]? =some u)(C:AtL xs kc [c.x,c.y,c.z])(G:AtL xs kr (Qq.mk u c.x c.y c.z).canon.cs)(I:u.ok 100000000)(hc:c.ok 100000000)(h0:(Qq.mk u c.x c.y c.z).first.p≠0):OkI xs ys ⟨139,[fr iu,row kc],.v (row kr)⟩:=
 ⟨ai Tryz.func139 rfl rfl,λB w vs hB h=>by
  match vs,h with
  | [vu,vc],h=>
   refine(q_fCanon vu vc u c w ((aw H).1 h.1) ((af C).1 h.2.1) I hc h0).mono ?_;rintro e w' ⟨v,rfl,h1,h2⟩;exact⟨v,rfl,(af G).2 h1,h2⟩⟩
end Go.Proofs.YtggfmklppkioeaaGreat
