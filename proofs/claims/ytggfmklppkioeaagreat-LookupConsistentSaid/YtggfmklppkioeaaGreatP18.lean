/- Trees of frames: what steps do; they keep trees. What arguments of the type []roboticslaw28.Step are: rows of steps. Trees of frames: names and steps of the statements; no tree. The transform of an edge of no tree. Trees of frames: a step of the statements is done to a tree. slices.Sorted(maps.Keys(m)): the shelf's contracts, laid (printed by the kit's lay-iter.mjs, names set for the templates). Trees of frames: Frames: the keys of a set in ascending order. Trees of frames: the example that is tried first; nobody. Rows of the call's own; rows of steps; what steps leave of the parents. Trees of frames: Edge. Trees of frames: Span. Trees of frames: Links. Trees of frames: plain facts of the rows of links, of roots. -/
import Derived.Test.YtggfmklppkioeaaGreatP17
import Derived.Laws.ResultCell
import Derived.Shelf.SlIter.Nil
import Derived.Shelf.SortM.Plain
import Derived.Shelf.SortM.SortNone
import Derived.Ground.GgzProg
import Derived.Ground.SlgmProg
import Derived.Deep.Cut
namespace Go.Proofs.YtggfmklppkioeaaGreat
set_option linter.unusedSimpArgs false
set_option linter.unusedVariables false
set_option maxRecDepth 100000
open Go.RowKit
section
open Classical
theorem vA {p q:Pq} {a b:Int} (h:(St.mk a p).raw=(St.mk b q).raw):p=q:=by
 have e:∀x y:Fq,x.raw=y.raw→x=y:=fun x y h=>by
  obtain⟨s,p,q⟩:=x;obtain⟨s',p',q'⟩:=y;simp only[Fq.raw,Rq.mk.injEq]at h;obtain⟨h1,_,h2,_,h3⟩:=h;subst h1;subst h2;subst h3;rfl
 simp only[St.raw,RSt.mk.injEq]at h;obtain⟨_,h0,h1,h2,h3,h4,h5,h6⟩:=h;obtain⟨⟨w,x,y,z⟩,⟨u,v,t⟩⟩:=p;obtain⟨⟨w',x',y',z'⟩,⟨u',v',t'⟩⟩:=q;simp only at h0 h1 h2 h3 h4 h5 h6;rw[e _ _ h0,e _ _ h1,e _ _ h2,e _ _ h3,e _ _ h4,e _ _ h5,e _ _ h6]
theorem y8 {p:Pq} {a:Int} (h:p.ok 2):(St.mk a p).raw.two:=fun r hr=>by
 simp only[RSt.rs,St.raw,List.mem_cons,List.not_mem_nil,or_false]at hr;rcases hr with rfl | rfl | rfl | rfl | rfl | rfl | rfl
 ·exact⟨h.rot.w.p,h.rot.w.q⟩
 ·exact⟨h.rot.x.p,h.rot.x.q⟩
 ·exact⟨h.rot.y.p,h.rot.y.q⟩
 ·exact⟨h.rot.z.p,h.rot.z.q⟩
 ·exact⟨h.pos.x.p,h.pos.x.q⟩
 ·exact⟨h.pos.y.p,h.pos.y.q⟩
 ·exact⟨h.pos.z.p,h.pos.z.q⟩
theorem q_Val {w:World} {v:Value} {p:Pq} (i:bu w v p) (h:p.ok 2):Calls Tryz.prog 122 #[v] w fun e w'=>e= .returned (.bool (decide p.good))∧Below w.heap.size w w':=by
 by_cases g:p.good
 ·rw[decide_eq_true g];exact rE v p w i (h.mono (by decide)) g
 ·rw[decide_eq_false g];have k:=St.sm (s:=⟨0,p⟩) h;have:=p6 v _ _ _ _ _ _ _ w i k.h0.1 k.h0.2 k.h1.1 k.h1.2 k.h2.1 k.h2.2 k.h3.1 k.h3.2 k.h4.1 k.h4.2 k.h5.1 k.h5.2 k.h6.1 k.h6.2;have e:tc p.rot.w.raw p.rot.x.raw p.rot.y.raw p.rot.z.raw p.pos.x.raw p.pos.y.raw p.pos.z.raw=false:=Bool.eq_false_iff.2 (fun e=>by
   obtain⟨s,h1,h2⟩:=u6 (x:=(St.mk 0 p).raw) e;exact g (vA (b:=s.tm) h1▸h2))
  rw[e]at this;exact this
noncomputable abbrev kE (a:Int) (p:Pq) (S:List St):List St×Int:=qK S (St.mk a p).raw
theorem xN {w:World} {t m:Nat} {E:List Ch} {c:Nm} {a:Int} {p:Pq} {cs:List Value} (h:TM w t m E) (hE:TOk (trE E)) (hv:bu w (.agg cs.toArray) p) (h2:p.ok 2):
  Calls Tryz.prog 69 #[ptB t,.string c,stV a cs] w fun e w'=>∃E' R' code,e= .returned (.int .i64 code)∧TPost w t m E w' E'∧REq (trE E') R'∧SetS (kE a p) (trE E) c a R' code:=by
 have hv':=hv;obtain⟨cs0,e0,hc⟩:=hv;have e0:cs=cs0:=by injection e0 with e0;simpa using e0
 subst e0;refine q_Set h (cD hc) _ (fun w' g sl S hS hb ht=> ?_);obtain⟨l,hl,rfl⟩:=hS;have hg:GoodS l.x.tr:=by
  unfold lsE at hl
  cases hch:chE E c with
  | none=>rw[hch]at hl;cases hl
  | some ch=>rw[hch]at hl;exact hE.good _ (cF.2 ⟨ch,(cE hch).1,l,hl,rfl⟩)
 exact q_AddR l.x.tr (St.mk a p).raw (stV a cs) ht ⟨cs,rfl,bF.mono hc hb⟩ (y8 h2) hg
theorem q_FixP {w:World} {t m:Nat} {E:List Ch} {c:Nm} {p:Pq} {cs:List Value} (h:TM w t m E) (hE:TOk (trE E)) (hv:bu w (.agg cs.toArray) p) (h2:p.ok 2):
  Calls Tryz.prog 70 #[ptB t,.string c,.agg cs.toArray] w fun e w'=>∃E' R' code,e= .returned (.int .i64 code)∧TPost w t m E w' E'∧REq (trE E') R'∧FixS (decide p.good) p (trE E) c R' code:=
 q_Fixed h hE hv (h2.mono (by decide)) (fun _ hb=>q_Val (hv.mono hb) h2)
section
variable {R R':Tr} {c p:Nm} {a u e:Int} {q:Pq} {isN:Nm→Prop}
theorem DetS.tok (hR:TOk R) (h:DetS R c u R' e):TOk R':=by
 cases h with
 | ok e h h1 h2=>subst e;exact hR.det h h1 h2
 | _=>exact hR
theorem SetS.tok (hR:TOk R) (h2:q.ok 2) (h:SetS (kE a q) R c a R' e):TOk R':=by
 cases h with
 | ok e h hs=>
  subst e;rename_i A B x;have hm:(c,x)∈A++(c,x)::B:=List.mem_append.2 (.inr (List.mem_cons_self ..));exact hR.same (c:=c) rfl rfl rfl (addR_good (hR.good _ hm) (y8 h2)) (fun hst=>by simp only at hst;rw[hs]at hst;cases hst)
 | _=>exact hR
theorem FixS.tok (hR:TOk R) (h2:q.ok 2) (h:FixS (decide q.good) q R c R' e):TOk R':=by
 cases h with
 | ok e h hs ht hp=>
  subst e;rename_i A B x;have hm:(c,x)∈A++(c,x)::B:=List.mem_append.2 (.inr (List.mem_cons_self ..));exact hR.same (c:=c) rfl rfl rfl (hR.good _ hm) (fun _=>⟨of_decide_eq_true hp,h2⟩)
 | _=>exact hR
theorem DetS.tsm (hR:TSm R) (h:DetS R c u R' e):TSm R':=by
 cases h with
 | ok e h h1 h2=>subst e;exact hR.mid rfl
 | _=>exact hR
theorem SetS.tsm {add:List St→List St×Int} (hR:TSm R) (h:SetS add R c a R' e):TSm R':=by
 cases h with
 | ok e h hs=>subst e;exact hR.mid rfl
 | _=>exact hR
theorem FixS.tsm {ok:Bool} (hR:TSm R) (h:FixS ok q R c R' e):TSm R':=by
 cases h with
 | ok e h hs ht hp=>subst e;exact hR.mid rfl
 | _=>exact hR
def qL (isN:Nm→Prop) (R:Tr):Prop:=∀q∈R,isN q.1∧isN q.2.par
theorem qL.mid {A B:Tr} {x x':Lk} (h:qL isN (A++(c,x)::B)) (e:x'.par=x.par):qL isN (A++(c,x')::B):=fun q hq=>by
 rcases List.mem_append.1 hq with h1 | h1
 ·exact h q (List.mem_append.2 (.inl h1))
 ·rcases List.mem_cons.1 h1 with rfl | h1
  ·have:=h (c,x) (List.mem_append.2 (.inr (List.mem_cons_self ..)));exact⟨this.1,by rw[e];exact this.2⟩
  ·exact h q (List.mem_append.2 (.inr (List.mem_cons_of_mem _ h1)))
theorem qL.att {f:Int} (h:qL isN R) (hc:isN c) (hp:isN p):qL isN (lC R c p f):=fun q hq=>by
 rcases List.mem_append.1 hq with h1 | h1
 ·exact h q h1
 ·simp only[List.mem_singleton]at h1;subst h1;exact⟨hc,hp⟩
theorem qL.req (h:qL isN R) (e:REq R R'):qL isN R':=fun q hq=>h q ((e.mem q).2 hq)
structure Ax where
 k:Nat
 c:Nm
 p:Nm
 a:Int
 q:Pq
def DoS (R:Tr) (s:Ax) (R':Tr) (e:Int):Prop:=
 if s.k=1 then DetS R s.c s.a R' e else if s.k=2 then SetS (kE s.a s.q) R s.c s.a R' e else if s.k=3 then FixS (decide s.q.good) s.q R s.c R' e else AttS dx R s.c s.p s.a R' e
structure Sane (R:Tr):Prop where
 ok:TOk R
 sm:TSm R
 nm:qL dx R
theorem Sane.nil:Sane []:=⟨.nil,.nil,fun _ h=>by cases h⟩
theorem Sane.req (h:Sane R) (e:REq R R'):Sane R':=⟨h.ok.of_req e,h.sm.of_req e,h.nm.req e⟩
theorem DoS.sane {s:Ax} (h:Sane R) (h2:s.q.ok 2) (d:DoS R s R' e):Sane R':=by
 unfold DoS at d;split at d
 ·refine⟨d.tok h.ok,d.tsm h.sm,?_⟩
  cases d with
  | ok e _ _ _=>have:=h.nm;rw[e]at this;exact this.mid rfl
  | _=>exact h.nm
 ·split at d
  ·refine⟨d.tok h.ok h2,d.tsm h.sm,?_⟩
   cases d with
   | ok e _ _=>have:=h.nm;rw[e]at this;exact this.mid rfl
   | _=>exact h.nm
  ·split at d
   ·refine⟨d.tok h.ok h2,d.tsm h.sm,?_⟩
    cases d with
    | ok e _ _ _ _=>have:=h.nm;rw[e]at this;exact this.mid rfl
    | _=>exact h.nm
   ·refine⟨d.tok h.ok,d.tsm h.sm,?_⟩
    cases d with
    | ok hn _ _ _ _ _ _ _ _=>exact h.nm.att hn.1 hn.2
    | _=>exact h.nm
end
structure TInv (w0 w:World) (t m:Nat) (E:List Ch):Prop where
 tm:TM w t m E
 sane:Sane (trE E)
 own:∀g∈fpT t m E,w0.heap.size≤g
 bel:Below w0.heap.size w0 w
theorem TPost.bel {w0 w w':World} {t m:Nat} {E E':List Ch} (h:TPost w t m E w' E') (o:∀g∈fpT t m E,w0.heap.size≤g) (b:Below w0.heap.size w0 w):Below w0.heap.size w0 w':=
 ⟨h.kp.os.trans b.os,h.kp.tape.trans b.tape,h.kp.output.trans b.output,Nat.le_trans b.size h.kp.size,fun k hk=>(h.kp.block k (Nat.lt_of_lt_of_le hk b.size) (fun hm=>by have:=o k hm;omega)).trans (b.block k hk)⟩
theorem TInv.next {w0 w w':World} {t m:Nat} {E E':List Ch} {R':Tr} {s:Ax} {e:Int} (h:TInv w0 w t m E) (k:TPost w t m E w' E') (r:REq (trE E') R') (d:DoS (trE E) s R' e) (h2:s.q.ok 2):TInv w0 w' t m E':=
 ⟨k.tm,(d.sane h.sane h2).req r.symm,fun g hg=>(k.fp g hg).elim (h.own g) (fun h1=>Nat.le_trans h.bel.size h1),k.bel h.own h.bel⟩
theorem TInv.below {w0 w w':World} {t m:Nat} {E:List Ch} (h:TInv w0 w t m E) (b:Below w.heap.size w w'):TInv w0 w' t m E:=⟨h.tm.below b,h.sane,h.own,h.bel.trans (b.mono h.bel.size)⟩
end
section
open Go.ChangeShapes Go.WideShapes Go.ChangeAt Go.RowKit
structure Stp where
 k:Int
 c:Int
 p:Int
 a:Int
 x:Int
 u:Int
def Stp.cs (s:Stp):List Value:=[.int .u8 s.k,.int .u8 s.c,.int .u8 s.p,.int .i16 s.a,.int .i8 s.x,.int .u8 s.u]
abbrev Stp.val (s:Stp):Value:=.agg s.cs.toArray
structure Stp.Ok (s:Stp):Prop where
 k:0≤s.k∧s.k<256
 c:0≤s.c∧s.c<256
 p:0≤s.p∧s.p<256
 a: -32768≤s.a∧s.a<32768
 x: -128≤s.x∧s.x<128
 u:0≤s.u∧s.u<256
def lJ (w:World) (v:Value) (R:List Stp):Prop:=(R=[]∧∃a c,v= .slice a 0 c)∨∃b o c,v= .slice (some ⟨b,o,none⟩) R.length c∧R≠ []∧b<w.heap.size∧∀i s,R[i]? =some s→∀j u,s.cs[j]? =some u→w.cell? ⟨b,o+(i*6+j),none⟩=some u
theorem lJ.below {w w':World} {v:Value} {R:List Stp} (h:lJ w v R) (k:Below w.heap.size w w'):lJ w' v R:=
 h.imp id (fun⟨b,o,c,e,hn,hb,hq⟩=>⟨b,o,c,e,hn,Nat.lt_of_lt_of_le hb k.size,fun i s hi j u hu=>by rw[k.cell (p:=⟨b,_,none⟩) hb];exact hq i s hi j u hu⟩)
section
variable {H:Type} {enc:TypeId×Value→H} {W:World}
theorem qn {t:Int} (h:(Lit.int .u8 t).wf=true):0≤t∧t<256:=by
 simp[Lit.wf,IntKind.min,IntKind.max,IntKind.wrap,IntKind.bits,IntKind.signed]at h;omega
theorem i16_wf {t:Int} (h:(Lit.int .i16 t).wf=true): -32768≤t∧t<32768:=by
 simp[Lit.wf,IntKind.min,IntKind.max,IntKind.wrap,IntKind.bits,IntKind.signed]at h;omega
theorem i8_wf {t:Int} (h:(Lit.int .i8 t).wf=true): -128≤t∧t<128:=by
 simp[Lit.wf,IntKind.min,IntKind.max,IntKind.wrap,IntKind.bits,IntKind.signed]at h;omega
theorem open_stp {fuel:Nat} {l:List Value} {x:DataW H×List MemPlace} (hl:l.length=6) (hf:DataW.trod enc Tryz.prog W 0 (fun _=>true) true fuel 67 l=some x):∃s:Stp,s.Ok∧l=s.cs:=by
 have h8:Tryz.prog.cellsOf 5=1:=by kernel_rfl
 have h16:Tryz.prog.cellsOf 49=1:=by kernel_rfl
 have hi8:Tryz.prog.cellsOf 65=1:=by kernel_rfl
 obtain⟨xs,n,_,hx,_,hlen,hg⟩:=DataW.trod_struct Tryz.underlying67 hf
 match xs,hlen with
 | [y0,y1,y2,y3,y4,y5],_=>
  have k0:=hg 0 _ rfl;have k1:=hg 1 _ rfl;have k2:=hg 2 _ rfl;have k3:=hg 3 _ rfl;have k4:=hg 4 _ rfl;have k5:=hg 5 _ rfl;simp[Value.cells,h8,h16,hi8]at k0 k1 k2 k3 k4 k5
  match l,hl with
  | [u0,u1,u2,u3,u4,u5],_=>
   simp at k0 k1 k2 k3 k4 k5;obtain⟨t0,e0,f0⟩:=DataW.trod_int Tryz.underlying5 k0;obtain⟨t1,e1,f1⟩:=DataW.trod_int Tryz.underlying5 k1;obtain⟨t2,e2,f2⟩:=DataW.trod_int Tryz.underlying5 k2;obtain⟨t3,e3,f3⟩:=DataW.trod_int Tryz.underlying49 k3;obtain⟨t4,e4,f4⟩:=DataW.trod_int Tryz.underlying65 k4;obtain⟨t5,e5,f5⟩:=DataW.trod_int Tryz.underlying5 k5;simp at e0 e1 e2 e3 e4 e5;subst e0 e1 e2 e3 e4 e5;exact⟨⟨t0,t1,t2,t3,t4,t5⟩,⟨qn f0.2,qn f1.2,qn f2.2,i16_wf f3.2,i8_wf f4.2,qn f5.2⟩,rfl⟩
theorem xO {v:Value} {d:DataW H} {p:List MemPlace} {base:Nat} (hval:Value.okWide Tryz.prog W .any base 62 v) (h:DataW.Trod enc Tryz.prog W 0 (fun _=>true) true 62 v d p):
  ∃R:List Stp,(∀s∈R,s.Ok)∧lJ W v R:=by
 obtain⟨a0,len0,cap0,rfl⟩:=okWide_slice Tryz.underlying62 hval;obtain⟨fuel,hf⟩:=h;have hc6:Tryz.prog.cellsOf 67=6:=by kernel_rfl
 rcases Go.Deep.open_slice Tryz.underlying62 hf with⟨hcs,_⟩ | ⟨a,len,cap,m,n,D,Pl,hcs,_,hlc,_,hm,_,hx⟩
 ·simp[Value.cells]at hcs;obtain⟨rfl,rfl,rfl⟩:=hcs;exact⟨[],fun _ h=>(by cases h),.inl ⟨rfl,_,_,rfl⟩⟩
 ·simp[Value.cells]at hcs;obtain⟨rfl,rfl,rfl⟩:=hcs;have hlm:len0≤m:=by rw[hm];split<;>omega
  by_cases h0:len0=0
  ·subst h0;exact⟨[],fun _ h=>(by cases h),.inl ⟨rfl,_,_,rfl⟩⟩
  ·have hcells:∀i,i<len0→∃cs',(∀j,j<6→W.cell? ((a.add (i*6)).add j)=cs'[j]?)∧cs'.length=6∧DataW.trod enc Tryz.prog W 0 (fun _=>true) true n 67 cs'=some (D i,Pl i):=fun i hi=>by
    obtain⟨cs',h1,h2⟩:=hx i (by omega);rw[hc6]at h1;obtain⟨_,hl,hcell⟩:=World.cells?_some h1;exact⟨cs',hcell,hl,h2⟩
   obtain⟨b,o,spot⟩:=a;have hspot:spot=none:=by
    obtain⟨cs',h1,h2,_⟩:=hcells 0 (by omega);have h3:=h1 0 (by omega);rw[List.getElem?_eq_getElem (show 0<cs'.length by omega)]at h3;have h4:=World.cell?_spot h3;simpa [Addr.add]using h4
   subst hspot;simp only[cM]at hcells;have hst:∀i,∃s:Stp,i<len0→s.Ok∧∀j u,s.cs[j]? =some u→W.cell? ⟨b,o+(i*6+j),none⟩=some u:=by
    intro i;by_cases hi:i<len0
    ·obtain⟨cs',hcell,hl,h2⟩:=hcells i hi;obtain⟨s,hs,rfl⟩:=open_stp hl h2;refine⟨s,fun _=>⟨hs,fun j u hu=> ?_⟩⟩;have hj:j<6:=by have:=(List.getElem?_eq_some_iff.1 hu).1;exact this
     rw[←Nat.add_assoc,hcell j hj];exact hu
    ·exact⟨⟨0,0,0,0,0,0⟩,fun h=>absurd h hi⟩
   obtain⟨f,hf'⟩:=Classical.axiomOfChoice hst;have hlen:((List.range len0).map f).length=len0:=by simp
   have hget:∀i s,((List.range len0).map f)[i]? =some s→i<len0∧s=f i:=fun i s hi=>by
    have hi2:i<len0:=by have:=(List.getElem?_eq_some_iff.1 hi).1;rw[hlen]at this;exact this
    rw[List.getElem?_map,List.getElem?_range hi2]at hi;exact⟨hi2,by simpa using hi.symm⟩
   refine⟨(List.range len0).map f,fun s hs=> ?_,.inr ⟨b,o,cap0,by rw[hlen],fun e=> ?_,?_,fun i s hi=> ?_⟩⟩
   ·obtain⟨i,hi,e⟩:=List.getElem_of_mem hs;obtain⟨h1,h2⟩:=hget i s (by rw[List.getElem?_eq_getElem hi,e]);subst h2;exact(hf' i h1).1
   ·rw[e]at hlen;exact h0 hlen.symm
   ·obtain⟨cs',h1,h2,_⟩:=hcells 0 (by omega);have h3:=h1 0 (by omega);rw[List.getElem?_eq_getElem (show 0<cs'.length by omega)]at h3;unfold World.cell? at h3;split at h3
    ·rename_i hh;exact(Array.getElem?_eq_some_iff.1 hh).1
    ·cases h3
   ·obtain⟨h1,h2⟩:=hget i s hi;subst h2;exact(hf' i h1).2
end
end
def jU:ByteArray:=ByteArray.mk #[102,103,104,105,106,107,108,109,110,111,112,113,114,115,116,117,118,119,120,121,122,97,98,99,100,101,65,66,67,68,69,70]
def aG (n:Int):Nm:=if n % 31=30 then rJ else jU.extract (n % 31).toNat ((n % 31).toNat+1)
theorem tab_one:∀k:Nat,k<30→dx (jU.extract k (k+1)):=by
 have h:∀k:Fin 30,∃c:UInt8,((97≤c.toNat∧c.toNat≤122)∨(65≤c.toNat∧c.toNat≤90))∧(jU.extract k (k+1)).data.toList=[c]:=by
  intro k;refine⟨jU.data[k.1]?.getD 0,?_⟩
  revert k
  decide
 intro k hk;obtain⟨c,h1,h2⟩:=h ⟨k,hk⟩;refine⟨c,h1,?_⟩;have h3:(jU.extract k (k+1)).data=#[c]:=by rw[←Array.toList_inj];exact h2
 cases hx:jU.extract k (k+1)with
 | mk d=>rw[hx]at h3;simp only at h3;rw[h3]
theorem rN (n:Int) (h:0≤n):Nam (aG n):=by
 unfold aG;split
 ·exact .inr rfl
 ·exact .inl (tab_one _ (by omega))
theorem run_slS {t:TypeId} {s:ByteArray} {c u:Int} {w:World} (ht:wG Tryz.prog t=true) (h0:0≤c) (h1:c≤u) (h2:u≤s.size):(Instr.slice t (.string s) (some (.int .i64 c)) (some (.int .i64 u)) none).run Tryz.prog w= .ok (.string (s.extract c.toNat u.toNat)) w:=by
 have h3:0≤u:=by omega
 have h4:c≤(u.toNat:Int):=by omega
 have h5:c≤max u 0:=by omega
 simp[Instr.slice,Instr.sliceBounds,Instr.sliceBound,asIntOf,Sem.run_bind,run_underlying (zQ ht),Result.andThen,h0,h1,h2,h3,h4,h5]
theorem rO {P:Program} {fn:Func} {p u:Tmp} {ty:TypeId} (h:fn.results=#[.cell p ty,.tmp u]) (tmps:Array Value) (w:World) (g:Nat) (t:TypeId) (cs:Array Value) (fr:Nat×Nat) (d:TypeDesc)
  (hp:tmps.getD p undef= .pointer (some ⟨g,0,none⟩)) (hg:w.heap[g]? =some (.cells cs t fr))
  (hu:P.underlying ty=some d) (hd:(match d with | .struct _ | .array _ _=>true | _=>false)=true) (hi:(P.info? ty).map (·.size)=some cs.size):
  (results fn tmps).run P w= .ok (.tuple #[.agg cs,tmps.getD u undef]) w:=by
 rw[results_cell_tmp h,hp];simp[asAddr,Result.andThen,run_loadVar_row w g t ty cs fr d hg hu hd hi]
theorem iz {w:World} (n:Int) (h:0≤n∧n<256):Calls Tryz.prog 39 #[.int .u8 n] w fun e w'=>e= .returned (.string (aG n))∧w'=w:=by
 obtain⟨m,hm⟩:∃m,m=n.tmod 31:=⟨_,rfl⟩;have hm2:n % 31=m:=by rw[hm,Int.tmod_eq_emod_of_nonneg h.1]
 have hm0:0≤m:=by omega
 have hm1:m<31:=by omega
 have hm':=hm.symm;have HN:=Lib.hid (show aG n=if m=30 then rJ else jU.extract m.toNat (m.toNat+1)by unfold aG;rw[hm2]);clear hm hm2;by_cases c:m=30
 ·have HQ:=Lib.hid (show aG n=rJ by rw[HN.out,if_pos c]);subst c;clear HN h;go_enter Tryz.func39,Tryz.ntmps39
  go_wp2;go_ret;rw[HQ.out];exact⟨rfl,rfl⟩
 ·have HQ:=Lib.hid (show aG n=jU.extract m.toNat (m.toNat+1)by rw[HN.out,if_neg c]);have c':(m==30)=false:=beq_eq_false_iff_ne.2 c;have hm3:m+1≤32:=by omega
  have ht:(m+1).toNat=m.toNat+1:=by omega
  have hsl:(Instr.slice 9 (.string (ByteArray.mk #[102,103,104,105,106,107,108,109,110,111,112,113,114,115,116,117,118,119,120,121,122,97,98,99,100,101,65,66,67,68,69,70])) (some (.int .i64 m)) (some (.int .i64 (m+1))) none).run Tryz.prog w= .ok (.string (jU.extract m.toNat (m.toNat+1))) w:=by
   rw[←ht];exact run_slS (s:=jU) (by kernel_rfl) hm0 (by omega) (by have:(jU.size:Int)=32:=rfl;omega)
  clear HN c h hm3 ht;go_enter Tryz.func39,Tryz.ntmps39
  go_wp2;go_ret;rw[HQ.out];exact⟨rfl,rfl⟩
section
variable {w:World} {c p:Nm} {a:Int} {v:Value}
end
def zero21:List Leaf:=[.b false,.sl0,.sl0,.b false,.sl0,.sl0,.b false,.sl0,.sl0,.b false,.sl0,.sl0,.b false,.sl0,.sl0,.b false,.sl0,.sl0,.b false,.sl0,.sl0]
def az:List Value:=[.bool false,.slice none 0 0,.slice none 0 0,.bool false,.slice none 0 0,.slice none 0 0,.bool false,.slice none 0 0,.slice none 0 0,.bool false,.slice none 0 0,.slice none 0 0,.bool false,.slice none 0 0,.slice none 0 0,.bool false,.slice none 0 0,.slice none 0 0,.bool false,.slice none 0 0,.slice none 0 0]
theorem zero21_h {ρ:Rho} {B:Blk} {w:World}:aB ρ B w zero21 az:=⟨rfl,rfl,rfl,rfl,rfl,rfl,rfl,rfl,rfl,rfl,rfl,rfl,rfl,rfl,rfl,rfl,rfl,rfl,rfl,rfl,rfl,trivial⟩
section
open Classical
def axOf (s:Stp):Ax:=⟨if s.k % 5=2 then 1 else if s.k % 5=3 then 2 else if s.k % 5=4 then 3 else 0,aG s.c,aG s.p,s.a,bT s.x s.u⟩
theorem gP {x u:Int} (hx: -128≤x∧x<128) (_:0≤u∧u<256):(bT x u).ok 2:=by
 have h:∀v:Int, -300≤v→v<300→(Fq.ofInt v).ok 2:=fun v h1 h2=>aO (by omega) (by omega)
 refine⟨⟨?_,h 0 (by omega) (by omega),h 0 (by omega) (by omega),h _ (by omega) (by omega)⟩,⟨h x (by omega) (by omega),h 0 (by omega) (by omega),h 0 (by omega) (by omega)⟩⟩;show(Fq.ofInt (if u % 8=7 then 2 else 1)).ok 2;split
 ·exact h 2 (by omega) (by omega)
 ·exact h 1 (by omega) (by omega)
theorem TPost.cell {w w':World} {t m B:Nat} {E E':List Ch} (h:TPost w t m E w' E') (hB:B∉fpT t m E) (hl:B<w.heap.size) (j:Nat):w'.cell? ⟨B,j,none⟩=w.cell? ⟨B,j,none⟩:=World.cell?_of_block (h.kp.block B hl hB)
def qo (w:World) (t m:Nat) (E:List Ch) (x:Ax) (e:Ending) (w':World):Prop:=∃E' R' code,e= .returned (.int .i64 code)∧TPost w t m E w' E'∧REq (trE E') R'∧DoS (trE E) x R' code
structure DoC (w w1:World) (t m B:Nat) (E:List Ch) (k c p a x u:Int):Prop where
 eq:w.alloc (.cells #[.int .u8 k,.int .u8 c,.int .u8 p,.int .i16 a,.int .i8 x,.int .u8 u] 67)=w1
 hB:w.heap.size=B
 tm:TM w1 t m E
 pre:∀(w2 w3:World) (E':List Ch),Below w1.heap.size w1 w2→TPost w2 t m E w3 E'→TPost w t m E w3 E'
 cel:∀(w2 w3:World) (E':List Ch),Below w1.heap.size w1 w2→TPost w2 t m E w3 E'→∀j v,w1.cell? ⟨B,j,none⟩=some v→w3.cell? ⟨B,j,none⟩=some v
 cel2:∀(w2:World),Below w1.heap.size w1 w2→∀j v,w1.cell? ⟨B,j,none⟩=some v→w2.cell? ⟨B,j,none⟩=some v
 f0:w1.cell? ⟨B,0,none⟩=some (.int .u8 k)
 f1:w1.cell? ⟨B,1,none⟩=some (.int .u8 c)
 f2:w1.cell? ⟨B,2,none⟩=some (.int .u8 p)
 f3:w1.cell? ⟨B,3,none⟩=some (.int .i16 a)
 f4:w1.cell? ⟨B,4,none⟩=some (.int .i8 x)
 f5:w1.cell? ⟨B,5,none⟩=some (.int .u8 u)
theorem do_c {w:World} {t m:Nat} {E:List Ch} (h:TM w t m E) (k c p a x u:Int):∃w1 B,DoC w w1 t m B E k c p a x u:=by
 obtain⟨w1,hw1⟩:∃w1,w.alloc (.cells #[.int .u8 k,.int .u8 c,.int .u8 p,.int .i16 a,.int .i8 x,.int .u8 u] 67)=w1:=⟨_,rfl⟩;have hb1:Below w.heap.size w w1:=by rw[←hw1];exact(Below.refl _ _).alloc (Nat.le_refl _) _
 have hs1:w1.heap.size=w.heap.size+1:=by rw[←hw1];exact asz _ _
 have hnew:w1.heap[w.heap.size]? =some (.cells #[.int .u8 k,.int .u8 c,.int .u8 p,.int .i16 a,.int .i8 x,.int .u8 u] 67 (0,0)):=by rw[←hw1];exact heap_alloc_new w _
 have hBn:w.heap.size∉fpT t m E:=fun hm=>by have:=h.lt _ hm;omega
 exact⟨w1,w.heap.size,hw1,rfl,h.below hb1,fun _ _ _ k hP=>hP.pre (hb1.trans (k.mono hb1.size)) h,fun _ _ _ k hP j v hv=>by
   rw[hP.cell hBn (by have:=k.size;omega),k.cell (p:=⟨_,j,none⟩) (by show w.heap.size<_;omega)];exact hv,fun _ k j v hv=>by
   rw[k.cell (p:=⟨_,j,none⟩) (by show w.heap.size<_;omega)];exact hv,
  by rw[aR hnew];rfl,by rw[aR hnew];rfl,by rw[aR hnew];rfl,by rw[aR hnew];rfl,by rw[aR hnew];rfl,by rw[aR hnew];rfl⟩
end
section
open Go.RowKit Go.Maps Go.Sort Go.Shelf
def Tryz.keysB_ren:Go.Shelf.Ren:=⟨fun | 7=>88 | 10=>152 | n=>n,fun | 23=>150 | 26=>9 | 3=>4 | 28=>148 | 0=>0 | 27=>147 | 33=>166 | 4=>4 | n=>n,fun | n=>n⟩
theorem Tryz.keysB:Go.Proofs.SlLaysZ.n7 Tryz.prog Tryz.keysB_ren:= {
 mixed:=by kernel_rfl
 f7:=⟨Tryz.f88.name,by decide,Tryz.func88.trans (congrArg some (by kernel_rfl))⟩
 f10:=⟨Tryz.f152.name,by decide,Tryz.func152.trans (congrArg some (by kernel_rfl))⟩
 t0:=Tryz.underlying0
 a0:=Tryz.isAgg0
 z0:=Tryz.sizeOf0
 v0:=Tryz.zeroValue0
 t4:=Tryz.underlying4
 a4:=Tryz.isAgg4
 z4:=Tryz.sizeOf4
 v4:=Tryz.zeroValue4
 t23:=Tryz.underlying150
 a23:=Tryz.isAgg150
 z23:=Tryz.sizeOf150
 v23:=Tryz.zeroValue150
 t26:=Tryz.underlying9
 a26:=Tryz.isAgg9
 z26:=Tryz.sizeOf9
 v26:=Tryz.zeroValue9
 t27:=Tryz.underlying147
 a27:=Tryz.isAgg147
 z27:=Tryz.sizeOf147
 v27:=Tryz.zeroValue147
 t28:=Tryz.underlying148
 a28:=Tryz.isAgg148
 z28:=Tryz.sizeOf148
 v28:=Tryz.zeroValue148
 t33:=Tryz.underlying166
 a33:=Tryz.isAgg166
 z33:=Tryz.sizeOf166
 v33:=Tryz.zeroValue166}
def Tryz.sortedS_ren:Go.Shelf.Ren:=⟨fun | 6=>87 | 8=>150 | 9=>151 | 11=>205 | 13=>174 | 12=>206 | 23=>232 | 24=>233 | 14=>246 | 15=>247 | 16=>248 | 17=>249 | 18=>250 | 19=>251 | 20=>252 | 21=>253 | 22=>254 | 25=>282 | 26=>274 | 27=>275 | 28=>283 | 29=>284 | 30=>285 | 31=>303 | n=>n,fun | 26=>9 | 28=>148 | 24=>68 | 0=>0 | 3=>3 | 37=>234 | 48=>237 | 50=>178 | 4=>4 | 40=>273 | 39=>272 | 45=>277 | 5=>5 | 9=>9 | 51=>299 | 55=>303 | 57=>309 | 58=>310 | 33=>166 | n=>n,fun | n=>n⟩
theorem Tryz.sortedS:Go.Proofs.SlLaysZ.n6 Tryz.prog Tryz.sortedS_ren:= {
 mixed:=by kernel_rfl
 f6:=⟨Tryz.f87.name,by decide,Tryz.func87.trans (congrArg some (by kernel_rfl))⟩
 f8:=⟨Tryz.f150.name,by decide,Tryz.func150.trans (congrArg some (by kernel_rfl))⟩
 f11:=⟨Tryz.f205.name,by decide,Tryz.func205.trans (congrArg some (by kernel_rfl))⟩
 t0:=Tryz.underlying0
 a0:=Tryz.isAgg0
 z0:=Tryz.sizeOf0
 v0:=Tryz.zeroValue0
 t24:=Tryz.underlying68
 a24:=Tryz.isAgg68
 z24:=Tryz.sizeOf68
 v24:=Tryz.zeroValue68
 t26:=Tryz.underlying9
 a26:=Tryz.isAgg9
 z26:=Tryz.sizeOf9
 v26:=Tryz.zeroValue9
 t28:=Tryz.underlying148
 a28:=Tryz.isAgg148
 z28:=Tryz.sizeOf148
 v28:=Tryz.zeroValue148
 i26:=by kernel_rfl}
def Tryz.sortS_ren:Go.Shelf.Ren:=⟨fun | 6=>151 | 8=>174 | 9=>206 | 19=>232 | 20=>233 | 21=>246 | 22=>247 | 23=>248 | 24=>249 | 25=>250 | 26=>251 | 27=>252 | 28=>253 | 29=>254 | 36=>282 | 31=>274 | 32=>275 | 37=>283 | 38=>284 | 39=>285 | 41=>303 | n=>n,fun | 27=>68 | 29=>9 | 3=>3 | 32=>234 | 26=>68 | 0=>0 | 44=>237 | 46=>178 | 4=>4 | 36=>273 | 35=>272 | 41=>277 | 5=>5 | 9=>9 | 53=>299 | 57=>303 | 63=>309 | 64=>310 | n=>n,fun | n=>n⟩
theorem Tryz.sortS:Go.Proofs.SlLaysM.n6 Tryz.prog Tryz.sortS_ren:= {
 mixed:=by kernel_rfl
 f6:=⟨Tryz.f151.name,by decide,Tryz.func151.trans (congrArg some (by kernel_rfl))⟩
 f8:=Tryz.func174.trans (congrArg some (by kernel_rfl))
 f9:=⟨Tryz.f206.name,by decide,Tryz.func206.trans (congrArg some (by kernel_rfl))⟩
 f19:=Tryz.func232.trans (congrArg some (by kernel_rfl))
 f20:=Tryz.func233.trans (congrArg some (by kernel_rfl))
 f21:=⟨Tryz.f246.name,by decide,Tryz.func246.trans (congrArg some (by kernel_rfl))⟩
 f22:=⟨Tryz.f247.name,by decide,Tryz.func247.trans (congrArg some (by kernel_rfl))⟩
 f23:=⟨Tryz.f248.name,by decide,Tryz.func248.trans (congrArg some (by kernel_rfl))⟩
 f24:=⟨Tryz.f249.name,by decide,Tryz.func249.trans (congrArg some (by kernel_rfl))⟩
 f25:=⟨Tryz.f250.name,by decide,Tryz.func250.trans (congrArg some (by kernel_rfl))⟩
 f26:=⟨Tryz.f251.name,by decide,Tryz.func251.trans (congrArg some (by kernel_rfl))⟩
 f27:=⟨Tryz.f252.name,by decide,Tryz.func252.trans (congrArg some (by kernel_rfl))⟩
 f28:=⟨Tryz.f253.name,by decide,Tryz.func253.trans (congrArg some (by kernel_rfl))⟩
 f29:=⟨Tryz.f254.name,by decide,Tryz.func254.trans (congrArg some (by kernel_rfl))⟩
 f31:=Tryz.func274.trans (congrArg some (by kernel_rfl))
 f32:=Tryz.func275.trans (congrArg some (by kernel_rfl))
 f36:=⟨Tryz.f282.name,by decide,Tryz.func282.trans (congrArg some (by kernel_rfl))⟩
 f37:=⟨Tryz.f283.name,by decide,Tryz.func283.trans (congrArg some (by kernel_rfl))⟩
 f38:=⟨Tryz.f284.name,by decide,Tryz.func284.trans (congrArg some (by kernel_rfl))⟩
 f39:=⟨Tryz.f285.name,by decide,Tryz.func285.trans (congrArg some (by kernel_rfl))⟩
 f41:=⟨Tryz.f303.name,by decide,Tryz.func303.trans (congrArg some (by kernel_rfl))⟩
 t0:=Tryz.underlying0
 a0:=Tryz.isAgg0
 z0:=Tryz.sizeOf0
 v0:=Tryz.zeroValue0
 t3:=Tryz.underlying3
 a3:=Tryz.isAgg3
 z3:=Tryz.sizeOf3
 v3:=Tryz.zeroValue3
 t4:=Tryz.underlying4
 a4:=Tryz.isAgg4
 z4:=Tryz.sizeOf4
 v4:=Tryz.zeroValue4
 t5:=Tryz.underlying5
 a5:=Tryz.isAgg5
 z5:=Tryz.sizeOf5
 v5:=Tryz.zeroValue5
 t9:=Tryz.underlying9
 a9:=Tryz.isAgg9
 z9:=Tryz.sizeOf9
 v9:=Tryz.zeroValue9
 t26:=Tryz.underlying68
 a26:=Tryz.isAgg68
 z26:=Tryz.sizeOf68
 v26:=Tryz.zeroValue68
 t27:=Tryz.underlying68
 a27:=Tryz.isAgg68
 z27:=Tryz.sizeOf68
 v27:=Tryz.zeroValue68
 t29:=Tryz.underlying9
 a29:=Tryz.isAgg9
 z29:=Tryz.sizeOf9
 v29:=Tryz.zeroValue9
 t32:=Tryz.underlying234
 a32:=Tryz.isAgg234
 z32:=Tryz.sizeOf234
 v32:=Tryz.zeroValue234
 t35:=Tryz.underlying272
 a35:=Tryz.isAgg272
 z35:=Tryz.sizeOf272
 v35:=Tryz.zeroValue272
 t36:=Tryz.underlying273
 a36:=Tryz.isAgg273
 z36:=Tryz.sizeOf273
 v36:=Tryz.zeroValue273
 t41:=Tryz.underlying277
 a41:=Tryz.isAgg277
 z41:=Tryz.sizeOf277
 v41:=Tryz.zeroValue277
 t44:=Tryz.underlying237
 a44:=Tryz.isAgg237
 z44:=Tryz.sizeOf237
 v44:=Tryz.zeroValue237
 t46:=Tryz.underlying178
 a46:=Tryz.isAgg178
 z46:=Tryz.sizeOf178
 v46:=Tryz.zeroValue178
 t53:=Tryz.underlying299
 a53:=Tryz.isAgg299
 z53:=Tryz.sizeOf299
 v53:=Tryz.zeroValue299
 t57:=Tryz.underlying303
 a57:=Tryz.isAgg303
 z57:=Tryz.sizeOf303
 v57:=Tryz.zeroValue303
 t63:=Tryz.underlying309
 a63:=Tryz.isAgg309
 z63:=Tryz.sizeOf309
 v63:=Tryz.zeroValue309
 t64:=Tryz.underlying310
 a64:=Tryz.isAgg310
 z64:=Tryz.sizeOf310
 v64:=Tryz.zeroValue310}
theorem Tryz.sortsS (m:Nat):AnyZ.SortsIn Tryz.prog Tryz.sortedS_ren Fence.wide m:=
 ⟨fun blk off cap ss W hH hblk hsz=>callsIn_wide.2 (AnyM.slices_Sort_string Tryz.sortS blk off cap ss W hH hblk hsz),
  fun p cap W=>callsIn_wide.2 (AnyM.slices_Sort_string_none Tryz.sortS p cap W)⟩
theorem Tryz.maps_Keys_B (mb:Option Nat) (W:World):CallsIn Fence.wide 5 Tryz.prog 88 #[.map mb] W fun e w'=>e= .returned (.func (.func 152) #[] #[.pointer (some ⟨W.heap.size,0,none⟩)])∧w'=W.alloc (.cells #[.map mb] 150):=
 AnyZ.keys_in Tryz.keysB Fence.wide 5 trivial rfl mb W
set_option maxHeartbeats 1000000 in
theorem Tryz.slices_Sorted_keys_B {H:Type} (b nn:Nat) (D0:DataW H) (R:Value→Option (DataW H×List MemPlace)) (w:World) (hown:w.ownsMap Tryz.prog 9 R b nn D0) (hmax:Maps.size D0≤maxLen) (hbytes:Maps.size D0*16≤140737488355328):
  CallsIn Fence.wide 5 Tryz.prog 87 #[.func (.func 152) #[] #[.pointer (some ⟨w.heap.size,0,none⟩)]] (w.alloc (.cells #[.map (some b)] 150)) fun e w'=>∃(v:Value) (ss:List (List UInt8)),e= .returned v∧ss.Perm (strKeys D0)∧
   w'.ownsRow (w.alloc (.cells #[.map (some b)] 150)).heap.size 9 1 v ss.length ((ss.mergeSort (fun x y=>decide (x≤y))).map encStr)∧(v= .slice none 0 0↔ss=[])∧Below (w.alloc (.cells #[.map (some b)] 150)).heap.size (w.alloc (.cells #[.map (some b)] 150)) w':=by
 have hbl:=hown.lt;have hseq:SeqGives Fence.wide 2 Tryz.prog 152 #[.pointer (some ⟨w.heap.size,0,none⟩)] encStr (fun ss=>ss.Perm (strKeys D0)) (Maps.size D0) (w.alloc (.cells #[.map (some b)] 150)):=
  AnyZ.keys_gives (ρ:=Tryz.keysB_ren) {Tryz.keysB with} Fence.wide _ trivial rfl (by omega) w.heap.size b nn D0 _ (by simp) (by simp) (by
   obtain⟨es,clock,hb,Ft,hs,hD⟩:=hown;exact⟨es,clock,(Below.heap_alloc _ _ b hbl).trans hb,Ft,hs,hD⟩)
 exact AnyZ.sorted_in Tryz.sortedS Fence.wide 5 trivial trivial trivial trivial rfl (by omega) (Tryz.sortsS _) (enters_of Tryz.func151 (by kernel_rfl) rfl) 152 #[.pointer (some ⟨w.heap.size,0,none⟩)] trivial (enters_of Tryz.func152 (by kernel_rfl) rfl) _ _ hmax hbytes _ hseq
def Tryz.keysL_ren:Go.Shelf.Ren:=⟨fun | 7=>91 | 10=>154 | n=>n,fun | 23=>142 | 26=>9 | 3=>158 | 28=>148 | 0=>0 | 27=>147 | 33=>166 | 4=>4 | n=>n,fun | n=>n⟩
theorem Tryz.keysL:Go.Proofs.SlLaysZ.n7 Tryz.prog Tryz.keysL_ren:= {
 mixed:=by kernel_rfl
 f7:=⟨Tryz.f91.name,by decide,Tryz.func91.trans (congrArg some (by kernel_rfl))⟩
 f10:=⟨Tryz.f154.name,by decide,Tryz.func154.trans (congrArg some (by kernel_rfl))⟩
 t0:=Tryz.underlying0
 a0:=Tryz.isAgg0
 z0:=Tryz.sizeOf0
 v0:=Tryz.zeroValue0
 t4:=Tryz.underlying4
 a4:=Tryz.isAgg4
 z4:=Tryz.sizeOf4
 v4:=Tryz.zeroValue4
 t23:=Tryz.underlying142
 a23:=Tryz.isAgg142
 z23:=Tryz.sizeOf142
 v23:=Tryz.zeroValue142
 t26:=Tryz.underlying9
 a26:=Tryz.isAgg9
 z26:=Tryz.sizeOf9
 v26:=Tryz.zeroValue9
 t27:=Tryz.underlying147
 a27:=Tryz.isAgg147
 z27:=Tryz.sizeOf147
 v27:=Tryz.zeroValue147
 t28:=Tryz.underlying148
 a28:=Tryz.isAgg148
 z28:=Tryz.sizeOf148
 v28:=Tryz.zeroValue148
 t33:=Tryz.underlying166
 a33:=Tryz.isAgg166
 z33:=Tryz.sizeOf166
 v33:=Tryz.zeroValue166}
theorem Tryz.maps_Keys_L (mb:Option Nat) (W:World):CallsIn Fence.wide 5 Tryz.prog 91 #[.map mb] W fun e w'=>e= .returned (.func (.func 154) #[] #[.pointer (some ⟨W.heap.size,0,none⟩)])∧w'=W.alloc (.cells #[.map mb] 142):=
 AnyZ.keys_in Tryz.keysL Fence.wide 5 trivial rfl mb W
set_option maxHeartbeats 1000000 in
theorem Tryz.slices_Sorted_keys_L {H:Type} (b nn:Nat) (D0:DataW H) (R:Value→Option (DataW H×List MemPlace)) (w:World) (hown:w.ownsMap Tryz.prog 9 R b nn D0) (hmax:Maps.size D0≤maxLen) (hbytes:Maps.size D0*16≤140737488355328):
  CallsIn Fence.wide 5 Tryz.prog 87 #[.func (.func 154) #[] #[.pointer (some ⟨w.heap.size,0,none⟩)]] (w.alloc (.cells #[.map (some b)] 142)) fun e w'=>∃(v:Value) (ss:List (List UInt8)),e= .returned v∧ss.Perm (strKeys D0)∧
   w'.ownsRow (w.alloc (.cells #[.map (some b)] 142)).heap.size 9 1 v ss.length ((ss.mergeSort (fun x y=>decide (x≤y))).map encStr)∧(v= .slice none 0 0↔ss=[])∧Below (w.alloc (.cells #[.map (some b)] 142)).heap.size (w.alloc (.cells #[.map (some b)] 142)) w':=by
 have hbl:=hown.lt;have hseq:SeqGives Fence.wide 2 Tryz.prog 154 #[.pointer (some ⟨w.heap.size,0,none⟩)] encStr (fun ss=>ss.Perm (strKeys D0)) (Maps.size D0) (w.alloc (.cells #[.map (some b)] 142)):=
  AnyZ.keys_gives (ρ:=Tryz.keysL_ren) {Tryz.keysL with} Fence.wide _ trivial rfl (by omega) w.heap.size b nn D0 _ (by simp) (by simp) (by
   obtain⟨es,clock,hb,Ft,hs,hD⟩:=hown;exact⟨es,clock,(Below.heap_alloc _ _ b hbl).trans hb,Ft,hs,hD⟩)
 exact AnyZ.sorted_in Tryz.sortedS Fence.wide 5 trivial trivial trivial trivial rfl (by omega) (Tryz.sortsS _) (enters_of Tryz.func151 (by kernel_rfl) rfl) 154 #[.pointer (some ⟨w.heap.size,0,none⟩)] trivial (enters_of Tryz.func154 (by kernel_rfl) rfl) _ _ hmax hbytes _ hseq
end
section
open Go.MapKept Go.WideShapes
abbrev Re0:Value→Option (DataW Unit×List MemPlace):=fun _=>some (.lit (.bool true),[])
theorem dq.owns {P:Program} {k:TypeId} {w:World} {b:Nat} {l:List (ByteArray×Value)} (h:dq w b l) (hk:P.underlying k=some .string) (hs:l.length≤maxLen) (hn:∀p∈l,p.1.size≤maxLen):
  ∃D:DataW Unit,w.ownsMap P k Re0 b l.length D∧(strKeys D).Perm (l.map fun p=>p.1.data.toList)∧Maps.size D=l.length:=by
 obtain⟨es,clock,hb,hst,he⟩:=h;have hlen:es.size=l.length:=by have:=congrArg List.length he;simpa using this
 have hrd:∀x∈es.toList,∃p∈l,x.key= .string p.1∧Go.WideElems.rd P k Re0 x=some (.string p.1.data.toList,.lit (.bool true)):=fun x hx=>by
  obtain⟨j,hj,e⟩:=List.getElem_of_mem hx;obtain⟨p,h1,h2,_⟩:=kj he (j:=j) (e:=x) (by rw[List.getElem?_eq_getElem hj,e]);refine⟨p,List.mem_of_getElem? h1,h2,?_⟩;have h3:=hn p (List.mem_of_getElem? h1);have h4:p.1.data.size≤maxLen:=h3;simp[Go.WideElems.rd,keyOf,hk,mapKey,h2,Re0,h3]
 have hf:Go.WideElems.Fit P k Re0 es clock:=⟨by omega,hst,fun x hx=>by obtain⟨p,_,_,h⟩:=hrd x hx;exact⟨_,h⟩⟩;refine⟨.map ((es.toList.map (Go.WideElems.rg P k Re0)).foldr DataW.insert []),⟨es,clock,hb,hf,by omega,rfl⟩,?_,?_⟩
 ·have h1:=(sorted_perm (es.toList.map (Go.WideElems.rg P k Re0))).map (fun p=>strOf p.1);refine List.Perm.trans h1 ?_;rw[List.map_map];have e:es.toList.map ((fun p=>strOf p.1)∘ Go.WideElems.rg P k Re0)=l.map fun p=>p.1.data.toList:=by
   apply List.ext_getElem?;intro j;rw[List.getElem?_map,List.getElem?_map];have hg:=mJ he j
   cases h2:es.toList[j]? with
   | none=>
    rw[h2]at hg
    cases h3:l[j]? with
    | none=>rfl
    | some p=>rw[h3]at hg;cases hg
   | some x=>
    obtain⟨p,h3,h4,_⟩:=kj he h2;obtain⟨p',_,h5,h6⟩:=hrd x (List.mem_of_getElem? h2);rw[h4]at h5;injection h5 with h5;rw[h3];simp[Go.WideElems.rg,h6,strOf,h5]
  rw[e]
 ·show((es.toList.map (Go.WideElems.rg P k Re0)).foldr DataW.insert []).length=_;rw[length_sorted,List.length_map,Array.length_toList,hlen]
def txt (x:List UInt8):Nm:=⟨x.toArray⟩
theorem txt_of (c:Nm):txt c.data.toList=c:=by simp[txt]
theorem of_txt (x:List UInt8):(txt x).data.toList=x:=by simp[txt]
abbrev xP (a b:Nm):Prop:=a.data.toList≤b.data.toList
theorem oB {l:List (ByteArray×Value)} {D:DataW Unit} {ss:List (List UInt8)} (hl:(l.map (·.1)).Nodup) (hp:(strKeys D).Perm (l.map fun p=>p.1.data.toList)) (hss:ss.Perm (strKeys D)):
  ∃L:List Nm,((ss.mergeSort (fun x y=>decide (x≤y))).map encStr)=L.map Value.string∧L.length=ss.length∧L.Perm (l.map (·.1))∧L.Nodup∧L.Pairwise xP:=by
 have hpm:(ss.mergeSort (fun x y=>decide (x≤y))).Perm ss:=List.mergeSort_perm ..;have hpp:((ss.mergeSort (fun x y=>decide (x≤y))).map txt).Perm (l.map (·.1)):=by
  have h1:=(hpm.trans (hss.trans hp)).map txt;rw[List.map_map]at h1;have e:(l.map (txt ∘ fun p=>p.1.data.toList))=l.map (·.1):=List.map_congr_left (fun p _=>txt_of p.1);rwa [e]at h1
 refine⟨(ss.mergeSort (fun x y=>decide (x≤y))).map txt,?_,by simp,hpp,hpp.nodup_iff.2 hl,?_⟩
 ·rw[List.map_map];rfl
 ·rw[List.pairwise_map];have h2:(ss.mergeSort (fun x y=>decide (x≤y))).Pairwise (fun a b=>leB a b=true):=List.pairwise_mergeSort (fun a b c h1 h2=>by simp only[leB,decide_eq_true_eq]at *;exact List.le_trans h1 h2) (fun a b=>by simp only[leB,Bool.or_eq_true,decide_eq_true_eq];exact List.le_total a b) ss;refine h2.imp (fun {a b} h=> ?_);show(txt a).data.toList≤(txt b).data.toList;rw[of_txt,of_txt];simpa [leB]using h
abbrev bg (w:World) (b0:Nat) (v:Value) (L:List Nm):Prop:=w.ownsRow b0 9 1 v L.length (L.map Value.string)
theorem q_keysB {w:World} {b:Nat} {l:List Nm} (h:gr w b l) (hs:l.length≤1000000) (hn:∀x∈l,x.size≤maxLen):
  (Calls Tryz.prog 88 #[.map (some b)] w fun e w'=>e= .returned (.func (.func 152) #[] #[.pointer (some ⟨w.heap.size,0,none⟩)])∧w'=w.alloc (.cells #[.map (some b)] 150))∧
  Calls Tryz.prog 87 #[.func (.func 152) #[] #[.pointer (some ⟨w.heap.size,0,none⟩)]] (w.alloc (.cells #[.map (some b)] 150)) fun e w'=>∃v L,e= .returned v∧bg w' w.heap.size v L∧L.Perm l∧L.Nodup∧L.Pairwise xP∧(v= .slice none 0 0↔L=[])∧Below w.heap.size w w':=by
 have hmx:(1000000:Nat)≤maxLen:=by unfold maxLen;omega
 obtain⟨D,hD,hp,hz⟩:=dq.owns (P:=Tryz.prog) (k:=9) h (by kernel_rfl) (by rw[List.length_map];omega) (fun p hp=>by obtain⟨c,hc,rfl⟩:=List.mem_map.1 hp;exact hn c hc);rw[List.length_map]at hD hz;refine⟨callsIn_wide.1 (Tryz.maps_Keys_B (some b) w),(callsIn_wide.1 (Tryz.slices_Sorted_keys_B b l.length D Re0 w hD (by omega) (by omega))).mono ?_⟩;rintro e w' ⟨v,ss,rfl,hS,hrow,hnil,hb⟩;obtain⟨L,h1,h2,h3,h4,h5⟩:=oB (dq.nodup h) hp hS;rw[List.map_map]at h3;have e:(l.map ((fun p:ByteArray×Value=>p.1)∘ fun c=>(c,Value.bool true)))=l:=by simp[Function.comp_def]
 rw[e]at h3;refine⟨v,L,rfl,?_,h3,h4,h5,?_,((Below.refl _ w).alloc (Nat.le_refl _) _).trans (hb.mono (by rw[asz];omega))⟩
 ·show w'.ownsRow w.heap.size 9 1 v L.length (L.map Value.string);rw[←h1,h2];exact ownsRow_base_a hrow (by rw[asz];omega)
 ·rw[hnil];constructor
  ·intro h;apply List.eq_nil_of_length_eq_zero;rw[h2,h];rfl
  ·intro h;apply List.eq_nil_of_length_eq_zero;rw[←h2,h];rfl
theorem q_Frames {w:World} {t m:Nat} {E:List Ch} (h:TM w t m E) (hS:TSm (trE E)) (hN:∀x,aN (trE E) x→x.size≤maxLen):Calls Tryz.prog 33 #[ptB t] w fun e w'=>∃v L,e= .returned v∧bg w' w.heap.size v L∧(∀x,x∈L↔aN (trE E) x)∧L.Nodup∧L.Pairwise xP∧(v= .slice none 0 0↔L=[])∧L.length≤24∧Below w.heap.size w w':=by
 have hkn:=mL h;have H:=Lib.hid (And.intro hS hN);clear h hS hN;go_enter Tryz.func33,Tryz.ntmps33
 go_wp2_with (first
  | (go_at_call 89;refine hkn.mono ?_;rintro e w1 ⟨b,l,rfl,hM,hbl,hl,hb⟩;have hc:l.length≤24:=(by obtain⟨⟨⟨n,h1,h2⟩,_⟩,_⟩:=H.out;rw[cf.uniq ⟨l,hM.nodup,fun x=>(hl x).trans kk,rfl⟩ h2];exact h1);obtain⟨hk1,hk2⟩:=q_keysB hM (by omega) (fun x hx=>H.out.2 x (kk.1 ((hl x).1 hx)));have HB:=Lib.hid (And.intro hb (And.intro hl hc));clear hb hl hc hM hbl)
  | (go_at_call 88;refine hk1.mono ?_;rintro e w2 ⟨rfl,rfl⟩)
  | (go_at_call 87;refine hk2.mono ?_;rintro e w3 ⟨v,L,rfl,hrow,hp,hnd,hso,hnil,hb3⟩;have HR:=Lib.hid (And.intro hrow (And.intro hp (And.intro hnd (And.intro hso (And.intro hnil hb3)))));clear hrow hp hnd hso hnil hb3))
 go_ret;obtain⟨hrow,hp,hnd,hso,hnil,hb3⟩:=HR.out;obtain⟨hb,hl,hc⟩:=HB.out;exact⟨v,L,rfl,ownsRow_base_a hrow hb.size,fun x=>(hp.mem_iff).trans ((hl x).trans kk),hnd,hso,hnil,by rw[hp.length_eq];exact hc,hb.trans (hb3.mono hb.size)⟩
end
section
open Classical
theorem TInv.new {w w1:World} {t m:Nat} (h:TM w1 t m []) (ht:w.heap.size≤t) (hm:w.heap.size≤m) (hb:Below w.heap.size w w1):TInv w w1 t m []:=
 ⟨h,.nil,fun g hg=>by
  simp only[fpT,List.flatMap_nil,List.mem_cons,List.not_mem_nil,or_false]at hg;rcases hg with rfl | rfl
  ·exact ht
  ·exact hm,hb⟩
theorem TInv.att {w0 w w':World} {t m:Nat} {E E':List Ch} {R':Tr} {c p:Nm} {f e:Int} (h:TInv w0 w t m E) (k:TPost w t m E w' E') (r:REq (trE E') R') (d:AttS dx (trE E) c p f R' e):TInv w0 w' t m E':=
 h.next (s:=⟨0,c,p,f,Pq.id⟩) (e:=e) k r (by unfold DoS;exact d) Pq.ok.id
theorem nO {a b:UInt8} (h:a≠b):nm1 a≠nm1 b:=fun e=>h (by
 have:=congrArg ByteArray.data e;simpa [nm1]using this)
theorem isNm1 {a:UInt8} (h:qh a):dx (nm1 a):=⟨a,h,rfl⟩
abbrev nA:Nm:=nm1 97
abbrev nB:Nm:=nm1 98
theorem nAB:nA≠nB:=nO (by decide)
theorem iA:dx nA:=isNm1 (.inl ⟨by decide,by decide⟩)
theorem iB:dx nB:=isNm1 (.inl ⟨by decide,by decide⟩)
theorem q_ParentS {w:World} {t m:Nat} {E:List Ch} {c p:Nm} {a:Int} (h:TM w t m E) (hp:par (trE E) a c=some p):Calls Tryz.prog 34 #[ptB t,.string c,.int .i64 a] w fun e w'=>e= .returned (.tuple #[.string p,.bool true])∧w'=w:=by
 have h1:=vh h c a;unfold par at hp;rw[←h.tAt]at hp
 cases hl:atE E c a with
 | none=>rw[hl]at hp;cases hp
 | some l=>
  rw[hl]at hp h1;have e:l.x.par=p:=by injection hp
  rw[←e];exact h1
theorem q_ParentN {w:World} {t m:Nat} {E:List Ch} {c:Nm} {a:Int} (h:TM w t m E) (hp:par (trE E) a c=none):Calls Tryz.prog 34 #[ptB t,.string c,.int .i64 a] w fun e w'=>e= .returned (.tuple #[.string ByteArray.empty,.bool false])∧w'=w:=by
 have h1:=vh h c a;unfold par at hp;rw[←h.tAt]at hp
 cases hl:atE E c a with
 | none=>rw[hl]at h1;exact h1
 | some l=>rw[hl]at hp;cases hp
end
section
open Classical
section
variable {w w':World} {b sz n j:Nat} {T:TypeId} {v u:Value} {xs:List Value} {ad:Option Addr} {cap:Nat}
theorem dR (h:w.ownsRow b T sz v n xs) (k:∀g,v.ownBlock=some g→w'.heap[g]? =w.heap[g]?):w'.ownsRow b T sz v n xs:=
 ⟨h.1,h.2.imp id fun⟨g,cap,cur,e,hb,hg,hr⟩=>⟨g,cap,cur,e,hb,by rw[k g (by rw[e];rfl)];exact hg,hr⟩⟩
theorem cP (h:w.ownsRow b T sz v n xs) {g:Nat} (hg:v.ownBlock=some g):b≤g∧g<w.heap.size:=by
 rcases h.2 with⟨rfl,_⟩ | ⟨g',cap,cur,rfl,hb,hc,_⟩
 ·cases hg
 ·have e:g'=g:=Option.some.inj hg;subst e;exact⟨hb,(Array.getElem?_eq_some_iff.1 hc).1⟩
theorem fK (h:w.ownsRow b T sz v n xs):∃ad cap,v= .slice ad n cap:=by
 rcases h.2 with⟨rfl,rfl⟩ | ⟨g',cap,cur,rfl,_⟩
 ·exact⟨_,_,rfl⟩
 ·exact⟨_,_,rfl⟩
theorem km (h:w.ownsRow b T sz (.slice ad n cap) n xs) (hj:xs[j]? =some u):∃g,ad=some ⟨g,0,none⟩∧w.cell? ⟨g,j,none⟩=some u:=by
 rcases h.2 with⟨e,rfl⟩ | ⟨g',cap',cur,e,_⟩
 ·have:xs=[]:=List.eq_nil_of_length_eq_zero (by rw[h.1];omega);subst this;cases hj
 ·injection e with e1 _ _;subst e1;have:=h.cells (g:=g') rfl j u hj;rw[cM,Nat.zero_add]at this;exact⟨g',rfl,this⟩
theorem dt.keep (h:dt w T sz v n xs) (k:∀g,v.ownBlock=some g→w'.heap[g]? =w.heap[g]?):dt w' T sz v n xs:=
 ⟨dR h.1 k,fun g hg=>by
  obtain⟨cs,t,h1,h2⟩:=h.2 g hg;exact⟨cs,t,by rw[k g hg];exact h1,h2⟩⟩
theorem run_appK {p:Program} {t ty e:TypeId} {bytes:Nat} (ht:p.underlying t=some (.slice e)) (hB:appB p e sz bytes=true) (ho:dt w e sz v n xs) {a:Addr} {m c:Nat} {news:List Value} (hl:news.length=m*sz) (hnews:∀j u,news[j]? =some u→w.cell? (a.add j)=some u) (h1:∀u∈news,u.oneCell'=true) (hnu:∀u∈news,noU u)
  (hm:0<m) (hb:(n+m)*bytes≤140737488355328) (hn:n+m≤1000000000000000):
  ∃v' w',(Builtin.append_ #[t,t] ty #[v,.slice (some a) m c]).run p w= .ok v' w'∧w.grownBy w' v.ownBlock∧(∀g,v'.ownBlock=some g→v.ownBlock=some g∨w.heap.size≤g)∧dt w' e sz v' (n+m) (xs++news):=by
 unfold appB at hB;split at hB
 ·rename_i ti hi;simp only[Bool.and_eq_true,beq_iff_eq,decide_eq_true_eq]at hB;obtain⟨hz,h3,h4,h5⟩:=hB;split at hz
  ·rename_i z hz';simp only[Bool.and_eq_true,beq_iff_eq]at hz;subst h3;subst h4;obtain⟨v',w',k1,k2,_,k4,k5⟩:=sX (ty:=ty) (c:=c) ht hi hz' hz.1 h5 (fun u hu n e=>by
    have:=List.all_eq_true.1 hz.2 u hu;subst e;exact Bool.noConfusion (show false=true from this)) ho hl hnews h1 hnu hm hb hn
   exact⟨v',w',k1,k2,k4,k5⟩
  ·cases hz
 ·cases hB
end
theorem lK {P:Program} {ops:Array Oper} {rest:List Oper} {o:Oper} {a:Act} {w w':World} {v v':Value} {Q:Exit→Act→World→Prop} {s x:Operand} {t:TypeId} (hgd:o.guard=none)
  (ho:o.op= .call {callee:=.builtin .append,args:=#[s,x],argTypes:=#[t,t]}) {y:Value} (hs:a.eval s=v) (hx:a.eval x=y) (hr:(Builtin.append_ #[t,t] o.type #[v,y]).run P w= .ok v' w') (h:wpList P ops Q rest (a.put o.dst v') w'):wpList P ops Q (o::rest) a w:=
 ag hgd (by
  unfold execOp;simp only[ho,resolve,invoke,builtin,Sem.run_bind,Sem.run_pure,Result.andThen_ok,List.map_toArray,List.map_cons,List.map_nil,hs,hx,hr]) h
theorem aI {B:Nat} {a:World}:∀(vs:List Value) (o:Nat) (w:World) {b:Nat},Below B a w→B≤b→Below B a (w.setCells b o vs)
 | [],_,_,_,h,_=>h
 | v::r,o,w,b,h,hb=>by
  rw[World.setCells];exact aI r (o+1) _ (h.setCell (p:=⟨b,o,none⟩) hb v) hb
theorem lJ.row {w:World} {v:Value} {R:List Stp} (h:lJ w v R):∃ad c,v= .slice ad R.length c∧∀i s,R[i]? =some s→∃b o,ad=some ⟨b,o,none⟩∧b<w.heap.size∧w.rangeAt b (o+i*6) s.cs:=by
 rcases h with⟨rfl,a,c,rfl⟩ | ⟨b,o,c,rfl,_,hb,hq⟩
 ·exact⟨a,c,rfl,fun i s hi=>by cases i<;>cases hi⟩
 ·exact⟨_,c,rfl,fun i s hi=>⟨b,o,rfl,hb,fun j u hu=>by rw[Nat.add_assoc];exact hq i s hi j u hu⟩⟩
theorem qM {w w':World} {B b o:Nat} {cs:List Value} (h:w.rangeAt b o cs) (k:Below B w w') (hb:b<B):w'.rangeAt b o cs:=fun j v hv=>by
 rw[k.cell (p:=⟨b,_,none⟩) hb];exact h j v hv
theorem nP {w:World} {B:Nat} {cs:Array Value} {T:TypeId} (h:w.heap[B]? =some (.cells cs T (0,0))):w.there B 0 cs.size:=fun j hj=>by
 refine⟨?_,by simp[World.frozen?,h]⟩;rw[aR h,Nat.zero_add,Array.getElem?_eq_getElem hj];rfl
noncomputable def pOf (R:Tr) (a:Int) (c:Nm):Nm:=(par R a c).getD ByteArray.empty
theorem q_ParentG {w:World} {t m:Nat} {E:List Ch} (h:TM w t m E) (c:Nm) (a:Int):Calls Tryz.prog 34 #[ptB t,.string c,.int .i64 a] w fun e w'=>e= .returned (.tuple #[.string (pOf (trE E) a c),.bool (par (trE E) a c).isSome])∧w'=w:=by
 cases hp:par (trE E) a c with
 | some p=>unfold pOf;rw[hp];exact q_ParentS h hp
 | none=>unfold pOf;rw[hp];exact q_ParentN h hp
theorem DoS.par {R R':Tr} {s:Ax} {e a:Int} (hR:TOk R) (d:DoS R s R' e) (ha:a<s.a) (h0:0≤a) (c:Nm):par R' a c=par R a c:=by
 unfold DoS at d;split at d
 ·cases d with
  | ok e h h1 h2=>
   subst e;rw[yV hR.row h,if_neg (fun hh=>by have:=hh.2.2.1;omega)]
  | _=>rfl
 ·split at d
  ·cases d with
   | ok e h hs=>subst e;refine p9 ?_ ?_ ?_ a c<;>rfl
   | _=>rfl
  ·split at d
   ·cases d with
    | ok e h hs ht hp=>subst e;refine p9 ?_ ?_ ?_ a c<;>rfl
    | _=>rfl
   ·cases d with
    | ok hn _ _ _ _ _ _ _ _=>
     rw[oZ];split
     ·cases hp:Go.Proofs.YtggfmklppkioeaaGreat.par R a c with
      | some z=>rfl
      | none=>simp only;rw[if_neg (by omega)]
     ·rfl
    | _=>rfl
theorem TPost.trans {w w' w'':World} {t m:Nat} {E E' E'':List Ch} (h:TPost w t m E w' E') (k:TPost w' t m E' w'' E''):TPost w t m E w'' E'':=
 ⟨k.tm,⟨k.kp.os.trans h.kp.os,k.kp.tape.trans h.kp.tape,k.kp.output.trans h.kp.output,Nat.le_trans h.kp.size k.kp.size,fun g hg hn=>(k.kp.block g (Nat.lt_of_lt_of_le hg h.kp.size) (fun hm=>(h.fp g hm).elim hn (fun h2=>absurd hg (Nat.not_lt.2 h2)))).trans (h.kp.block g hg hn)⟩,
  fun g hg=>(k.fp g hg).elim (h.fp g) (fun h2=>.inr (Nat.le_trans h.kp.size h2))⟩
theorem axOf_q {s:Stp} (hs:s.Ok):(axOf s).q.ok 2:=gP hs.x hs.u
theorem Sane.short {R:Tr} (h:Sane R) {x:Nm} (hx:aN R x):x.size≤maxLen:=by
 obtain⟨q,hq,h1 | h1⟩:=hx
 ·obtain⟨a,_,e⟩:=(h.nm q hq).1;rw[←h1,e];unfold maxLen;exact Nat.le_trans (show(nm1 a).size≤1 from by simp[nm1,ByteArray.size]) (by decide)
 ·obtain⟨a,_,e⟩:=(h.nm q hq).2;rw[←h1,e];unfold maxLen;exact Nat.le_trans (show(nm1 a).size≤1 from by simp[nm1,ByteArray.size]) (by decide)
end
theorem vB {w:World}:∀ {xs:List Fq} {cs:List Value},cs.length=3*xs.length→(∀(j:Nat) (q:Vp),(frs xs)[j]? =some q→∃u,cs[j]? =some u∧q.p w u)→bF w (xs.map Fq.raw) cs
 | [],cs,hl,_=>by
  have:cs=[]:=List.eq_nil_of_length_eq_zero (by simpa using hl);exact this
 | x::xs,cs,hl,h=>by
  match cs,hl with
  | c0::c1::c2::cs,hl=>
   obtain⟨u0,e0,k0⟩:=h 0 _ rfl;obtain⟨u1,e1,k1⟩:=h 1 _ rfl;obtain⟨u2,e2,k2⟩:=h 2 _ rfl;injection e0 with e0;injection e1 with e1;injection e2 with e2;subst e0;subst e1;subst e2;have k0:c0= .bool x.s:=k0.1;subst k0;have k1:IsR w (.agg #[c1]) (nl x.p) x.p:=k1;have k2:IsR w (.agg #[c2]) (nl x.q) x.q:=k2;obtain⟨a,c,f1,r1⟩:=id k1;obtain⟨b,d,f2,r2⟩:=id k2;have f1:c1= .slice a (nl x.p) c:=by injection f1 with f1;simpa using f1
   have f2:c2= .slice b (nl x.q) d:=by injection f2 with f2;simpa using f2
   subst f1;subst f2;exact⟨a,c,b,d,cs,rfl,k1,k2,vB (by simp at hl;omega) (fun j q hq=>by
    obtain⟨u,g1,g2⟩:=h (j+3) q (by simpa [frs]using hq);exact⟨u,by simpa using g1,g2⟩)⟩
theorem LnAt.pose {w:World} {c:Nm} {l:Ln} (h:LnAt w c l):∃cs:List Value,cs.length=21∧w.rangeAt l.b 5 cs∧bu w (.agg cs.toArray) l.x.po:=by
 obtain⟨⟨C,h1,h2,h3⟩,_⟩:=h;have hC:C.size=27:=h2;have hg:∀j,j<21→(C.extract 5 26).toList[j]? =C[5+j]? :=fun j hj=>by
  rw[Array.getElem?_toList,Array.getElem?_extract];rw[if_pos (by omega)]
 refine⟨(C.extract 5 26).toList,by simp[hC],fun j v hv=> ?_,⟨_,rfl,vB (xs:=l.x.po.cs) (by show(C.extract 5 26).toList.length=21;simp[hC]) (fun j q hq=> ?_)⟩⟩
 ·have hj:j<21:=by have:=(List.getElem?_eq_some_iff.1 hv).1;simpa [hC]using this
  rw[aR h1,←hg j hj];exact hv
 ·have hj:j<21:=(List.getElem?_eq_some_iff.1 hq).1;have hq2:(lnQ c l)[5+j]? =some q:=by
   show([.val (.string c),.val (.string l.x.par),.val (.int .i64 l.x.fr),.val (.int .i64 l.x.un),.val (.bool l.x.st)]++(frs l.x.po.cs++ [.val (ptB l.g)]):List Vp)[5+j]? =some q;rw[List.getElem?_append_right (by simp),List.getElem?_append_left (by show 5+j - 5<21;omega)];rw[show 5+j - ([.val (.string c),.val (.string l.x.par),.val (.int .i64 l.x.fr),.val (.int .i64 l.x.un),.val (.bool l.x.st)]:List Vp).length=j from by show 5+j - 5=j;omega];exact hq
  obtain⟨u,k1,k2⟩:=h3 _ _ hq2;exact⟨u,by rw[hg j hj];exact k1,k2⟩
theorem iD (w:World):bu w (.agg az.toArray) Pq.zero:=⟨az,rfl,fA (n:=7) (zero21_h (ρ:=[]) (B:=noB))⟩
noncomputable def trkP (S:List St) (a:Int):Pq×Int:=
 match S[0]?,S[S.length - 1]? with
 | some f,some l=>if a<f.tm∨l.tm<a then(Pq.zero,17)else
  (match S[plN S a]? with
  | some y=>if y.tm=a then(y.pose,0)else(match S[plN S a - 1]? with | some z=>(atP z y 0 a,0) | none=>(Pq.zero,17))
  | none=>(Pq.zero,17))
 | _,_=>(Pq.zero,6)
theorem Road.trkP {S:List St} {a:Int} {z y:St} {c:Int} (h:Road S a z y c):trkP S a=(atP z y c a,c):=by
 unfold Go.Proofs.YtggfmklppkioeaaGreat.trkP
 cases h with
 | E h0=>
  have:S=[]:=List.eq_nil_of_length_eq_zero h0;subst this;rfl
 | O1 f hf hn ha=>
  obtain⟨l,hl⟩:∃l,S[S.length - 1]? =some l:=⟨_,List.getElem?_eq_getElem (by omega)⟩;simp only[hf,hl];rw[if_pos (.inl ha)];unfold atP;rw[if_pos (by decide)]
 | O2 f hf hb l hl hn ha=>simp only[hf,hl];rw[if_pos (.inr ha)];unfold atP;rw[if_pos (by decide)]
 | Q f hf hb l hl hn ha y hy ey hp eq1=>
  simp only[hf,hl];rw[if_neg (by omega)];simp only[hy];rw[if_pos ey];unfold atP;rw[if_neg (by decide),if_pos rfl]
 | M f hf hb l hl hn ha y hy ey hp h0 eq1 z hz=>
  simp only[hf,hl];rw[if_neg (by omega)];simp only[hy];rw[if_neg (by omega)];simp only[hz]
noncomputable def cJ (R:Tr) (c:Nm) (a:Int):Pq×Int:=match tAt R c a with | none=>(Pq.zero,18) | some x=>if x.st then(x.po,0)else trkP x.tr a
theorem lL {vs:List Value} {C:Array Value} (h:C.size=vs.length):mO C 0 vs=vs.toArray:=by
 apply Array.ext_getElem?;intro i;rw[nN _ _ _ _ (by omega)];by_cases hi:i<vs.length
 ·rw[if_pos ⟨by omega,by omega⟩];simp
 ·rw[if_neg (by omega),Array.getElem?_eq_none (by omega),Array.getElem?_eq_none (by simp;omega)]
structure PB (w0 W:World) (B:Nat) (vs:List Value):Prop where
 blk:W.heap[B]? =some (.cells vs.toArray 39 (0,0))
 len:vs.length=21
 bel:Below w0.heap.size w0 W
 ge:w0.heap.size≤B
 nu:∀u∈vs,noU u
theorem PB.new (w:World):PB w (w.alloc (.cells az.toArray 39)) w.heap.size az:=⟨heap_alloc_new w _,rfl,(Below.refl _ w).alloc (Nat.le_refl _) _,Nat.le_refl _,fun u hu n e=>by
 subst e;simp[az]at hu⟩
theorem PB.next {w0 W W':World} {B:Nat} {vs:List Value} (h:PB w0 W B vs) (k:Below W.heap.size W W'):PB w0 W' B vs:=
 ⟨by rw[k.block B (Array.getElem?_eq_some_iff.1 h.blk).1];exact h.blk,h.len,h.bel.trans (k.mono h.bel.size),h.ge,h.nu⟩
theorem PB.put {w0 W:World} {B:Nat} {vs us:List Value} (h:PB w0 W B vs) (hu:us.length=21) (hn:∀u∈us,noU u):PB w0 (W.setCells B 0 us) B us:=
 ⟨by rw[eJ us W B 0 _ _ h.blk,lL (by simp[h.len,hu])],hu,aI us 0 W h.bel h.ge,h.ge,hn⟩
theorem PB.there {w0 W:World} {B:Nat} {vs:List Value} (h:PB w0 W B vs):W.there B 0 21:=by
 have:=nP h.blk;rwa [List.size_toArray,h.len]at this
theorem aZ {us:List Value} (hu:us.length=21):(Tryz.prog.info? 39).map (·.size)=some us.toArray.size:=by rw[List.size_toArray,hu];kernel_rfl
theorem di {w:World} {v:Value} {p:Pq} (h:bu w v p):∃cs:List Value,v= .agg cs.toArray∧cs.length=21∧cs.toArray.all (·.oneCell')=true∧∀u∈cs,noU u:=by
 obtain⟨cs,rfl,hc⟩:=h;refine⟨cs,rfl,cD hc,all_oneCell_toArray (lI hc),fun u hu n e=> ?_⟩;obtain⟨k,hk,e2⟩:=List.getElem_of_mem hu;exact hc.noInt k n (by rw[List.getElem?_eq_getElem hk,e2,e])
theorem PB.keep {w0 W:World} {B:Nat} {vs us:List Value} {v:Value} {p:Pq} (h:PB w0 W B vs) (i:bu W v p):bu (W.setCells B 0 us) v p:=by
 obtain⟨cs,rfl,hc⟩:=i;exact⟨cs,rfl,hc.upd (nJ h.blk (fun u hu=>h.nu u (by simpa using hu))) (cO us W B 0)⟩
theorem PB.ret {w0 W:World} {B:Nat} {vs:List Value} (h:PB w0 W B vs) {fn:Func} {p u:Tmp} (hr:fn.results=#[.cell p 39,.tmp u]) (tmps:Array Value) (hp:tmps.getD p undef= .pointer (some ⟨B,0,none⟩)):
  (results fn tmps).run Tryz.prog W= .ok (.tuple #[.agg vs.toArray,tmps.getD u undef]) W:=
 rO hr tmps W B _ _ _ _ hp h.blk Tryz.underlying39 rfl (aZ h.len)
theorem q_EdgeN {w:World} {t m:Nat} {E:List Ch} {c:Nm} {a:Int} (h:TM w t m E) (hl:atE E c a=none):
  Calls Tryz.prog 41 #[ptB t,.string c,.int .i64 a] w fun e w'=>e= .returned (.tuple #[.agg az.toArray,.int .i64 18])∧Below w.heap.size w w':=by
 have hp0:=PB.new w;have hat:=rI (h.below hp0.bel) c a;rw[hl]at hat
 change Calls _ _ _ _ (fun e w'=>e= .returned (.pointer none)∧w'=_)at hat
 have HP:=Lib.hid hp0;obtain⟨W,hW⟩:∃W,w.alloc (.cells az.toArray 39)=W:=⟨_,rfl⟩;rw[hW]at hat HP;clear h hl hp0;go_enter Tryz.func41,Tryz.ntmps41
 go_upto_region 0 with(fail)
 refine wp_region_list ?_;refine ag rfl (v:=.pointer (some ⟨w.heap.size,0,none⟩)) (w':=W) (by subst hW;go_simp;try rfl) ?_;obtain⟨B,hB⟩:∃B,w.heap.size=B:=⟨_,rfl⟩;rw[hB]at HP⊢;clear hW hB;go_upto_region 5 with(go_at_call 90;refine hat.mono ?_;rintro e w' ⟨rfl,hw'⟩;obtain rfl:=hw'.symm)
 refine wp_region_list ?_;refine ag rfl (v:=.agg az.toArray) (w':=W) (by unfold az;go_simp;try rfl) ?_;refine wpList_store_mid rfl _ _ _ rfl B 0 az.toArray rfl rfl HP.out.there (by kernel_rfl) (by kernel_rfl) ?_;have HP2:=Lib.hid (HP.out.put (us:=az) rfl HP.out.nu);generalize W.setCells B 0 az.toArray.toList=W2 at *;go_wp2;refine bodyPost_ret (HP2.out.ret rfl _ rfl) rfl ?_;exact⟨rfl,HP2.out.bel⟩
theorem q_EdgeS {w:World} {t m:Nat} {E:List Ch} {c:Nm} {a:Int} {l:Ln} (h:TM w t m E) (hl:atE E c a=some l) (hs:l.x.st=true) (hk:l.x.po.ok 1000000):
  Calls Tryz.prog 41 #[ptB t,.string c,.int .i64 a] w fun e w'=>∃v,e= .returned (.tuple #[v,.int .i64 0])∧bu w' v l.x.po∧Below w.heap.size w w':=by
 have hp0:=PB.new w;have hT:=h.below hp0.bel;have hat:=rI hT c a;rw[hl]at hat
 change Calls _ _ _ _ (fun e w'=>e= .returned (ptB l.b)∧w'=_)at hat
 obtain⟨_,_,_,hL⟩:=lG hT hl;obtain⟨cs,hlen,hrg,hoq⟩:=hL.pose;have hst:=hL.st;rw[hs]at hst;have hcp:=q_fcp _ l.x.po _ hoq (hk.mono (by decide));have HP:=Lib.hid hp0;obtain⟨W,hW⟩:∃W,w.alloc (.cells az.toArray 39)=W:=⟨_,rfl⟩;rw[hW]at hat HP hrg hst hcp;have HRG:=Lib.hid hrg;have HSZ:=Lib.hid (show(Tryz.prog.info? 39).map (·.size)=some cs.length by rw[hlen];kernel_rfl);clear h hl hp0 hT hs hk hL hrg hoq;generalize l.b=lb at *;generalize l.x.po=po at *;go_enter Tryz.func41,Tryz.ntmps41
 go_upto_region 0 with(fail)
 refine wp_region_list ?_;refine ag rfl (v:=.pointer (some ⟨w.heap.size,0,none⟩)) (w':=W) (by subst hW;go_simp;try rfl) ?_;obtain⟨B,hB⟩:∃B,w.heap.size=B:=⟨_,rfl⟩;rw[hB]at HP⊢;clear hW hB;go_upto_region 7 with(go_at_call 90;refine hat.mono ?_;rintro e w' ⟨rfl,hw'⟩;obtain rfl:=hw'.symm)
 clear hat hst;refine wp_region_list ?_;refine ag rfl (v:=ptB lb) (w':=W) (by rfl) ?_;refine ag rfl (v:=ptB lb) (w':=W) (by go_simp) ?_;refine ag rfl (v:=.pointer (some ⟨lb,5,none⟩)) (w':=W) (by go_simp) ?_;refine wpList_load_mid rfl _ _ rfl lb 5 rfl cs _ HRG.out Tryz.underlying39 rfl HSZ.out ?_;refine wpList_plain rfl (fun K hK=> ?_);go_simp;go_at_call 97
 refine hcp.mono ?_;rintro e w4 ⟨v,rfl,hv4,k4⟩;obtain⟨us,rfl,hul,hu1,hun⟩:=di hv4;have HP4:=HP.out.next k4;have HP5:=Lib.hid (HP4.put (us:=us) hul hun);have HV:=Lib.hid (HP4.keep (us:=us) hv4);have hth:=HP4.there;rw[←hul]at hth;refine hK _ _ ?_;clear hK K hv4 k4 hcp HRG HSZ HP;refine wpList_store_mid rfl _ _ _ rfl B 0 us.toArray rfl rfl (by simpa using hth) (aZ hul) hu1 ?_;rw[show us.toArray.toList=us from rfl];generalize W2d:w4.setCells B 0 us=W2 at *;clear W2d HP4 hth hu1 hun;go_wp2;refine bodyPost_ret (HP5.out.ret rfl _ rfl) rfl ?_;exact⟨_,rfl,HV.out,HP5.out.bel⟩
theorem q_EdgeT {w:World} {t m:Nat} {E:List Ch} {c:Nm} {a:Int} {l:Ln} (h:TM w t m E) (hE:TOk (trE E)) (hl:atE E c a=some l) (hs:l.x.st=false):
  Calls Tryz.prog 41 #[ptB t,.string c,.int .i64 a] w fun e w'=>∃v,e= .returned (.tuple #[v,.int .i64 (trkP l.x.tr a).2])∧bu w' v (trkP l.x.tr a).1∧Below w.heap.size w w':=by
 have hp0:=PB.new w;have hT:=h.below hp0.bel;have hat:=rI hT c a;rw[hl]at hat
 change Calls _ _ _ _ (fun e w'=>e= .returned (ptB l.b)∧w'=_)at hat
 obtain⟨ch,hch,hlm,hL⟩:=lG hT hl;have hgd:=hE.good _ (cF.2 ⟨ch,(cE hch).1,l,hlm,rfl⟩);obtain⟨z,y,cc,hr⟩:=road hgd a;have hAt:=q_AtS hL.trk hgd hr;have e1:=hr.trkP;have hst:=hL.st;have htp:=hL.tp;rw[hs]at hst;have HE1:=Lib.hid (show(trkP l.x.tr a).1=atP z y cc a by rw[e1]);rw[show(trkP l.x.tr a).2=cc by rw[e1]];have HP:=Lib.hid hp0;obtain⟨W,hW⟩:∃W,w.alloc (.cells az.toArray 39)=W:=⟨_,rfl⟩;rw[hW]at hat HP hst hAt htp;clear h hl hp0 hT hs hL hE hch hlm hgd hr e1;generalize l.b=lb at *;generalize l.g=lg at *;generalize (trkP l.x.tr a).1=po at *;go_enter Tryz.func41,Tryz.ntmps41
 go_upto_region 0 with(fail)
 refine wp_region_list ?_;refine ag rfl (v:=.pointer (some ⟨w.heap.size,0,none⟩)) (w':=W) (by subst hW;go_simp;try rfl) ?_;obtain⟨B,hB⟩:∃B,w.heap.size=B:=⟨_,rfl⟩;rw[hB]at HP⊢;clear hW hB;go_upto_region 8 with(go_at_call 90;refine hat.mono ?_;rintro e w' ⟨rfl,hw'⟩;obtain rfl:=hw'.symm)
 clear hat hst;refine wp_region_list ?_;refine ag rfl (v:=ptB lb) (w':=W) (by rfl) ?_;refine ag rfl (v:=ptB lb) (w':=W) (by go_simp) ?_;refine ag rfl (v:=.pointer (some ⟨lb,26,none⟩)) (w':=W) (by go_simp) ?_;refine ag rfl (v:=ptB lg) (w':=W) (by go_simp) ?_;refine ag rfl (v:=.int .i64 a) (w':=W) (by rfl) ?_;refine wpList_plain rfl (fun K hK=> ?_);go_simp;go_at_call 98
 refine hAt.mono ?_;rintro e w4 ⟨v,rfl,hv4,k4⟩;rw[←HE1.out]at hv4;obtain⟨us,rfl,hul,hu1,hun⟩:=di hv4;have HP4:=HP.out.next k4;have HP5:=Lib.hid (HP4.put (us:=us) hul hun);have HV:=Lib.hid (HP4.keep (us:=us) hv4);have hth:=HP4.there;rw[←hul]at hth;refine hK _ _ ?_;clear hK K hv4 k4 hAt HP HE1;refine ag rfl (v:=.agg us.toArray) (w':=w4) (by go_simp) ?_;refine ag rfl (v:=.int .i64 cc) (w':=w4) (by go_simp) ?_;refine wpList_store_mid rfl _ _ _ rfl B 0 us.toArray rfl rfl (by simpa using hth) (aZ hul) hu1 ?_;rw[show us.toArray.toList=us from rfl];generalize W2d:w4.setCells B 0 us=W2 at *;clear W2d HP4 hth hu1 hun;go_wp2;refine bodyPost_ret (HP5.out.ret rfl _ rfl) rfl ?_;exact⟨_,rfl,HV.out,HP5.out.bel⟩
theorem q_Edge {w:World} {t m:Nat} {E:List Ch} (h:TM w t m E) (hE:TOk (trE E)) (c:Nm) (a:Int):
  Calls Tryz.prog 41 #[ptB t,.string c,.int .i64 a] w fun e w'=>∃v,e= .returned (.tuple #[v,.int .i64 (cJ (trE E) c a).2])∧bu w' v (cJ (trE E) c a).1∧Below w.heap.size w w':=by
 unfold cJ;rw[←h.tAt]
 cases hl:atE E c a with
 | none=>
  refine(q_EdgeN h hl).mono ?_;rintro e w' ⟨rfl,hb⟩;exact⟨_,rfl,iD w',hb⟩
 | some l=>
  simp only[Option.map_some];obtain⟨ch,hch,hlm,_⟩:=lG h hl
  cases hs:l.x.st with
  | true=>
   rw[if_pos rfl];exact q_EdgeS h hl hs ((hE.pose _ (cF.2 ⟨ch,(cE hch).1,l,hlm,rfl⟩) hs).2.mono (by decide))
  | false=>
   rw[if_neg (by simp)];exact q_EdgeT h hE hl hs
def endL (x:Lk):Int:=if x.un= -1 then ei else x.un - 1
noncomputable def y9 (x:Lk):Int×Int×Bool:=
 if x.st then(x.fr,endL x,true)else
  (if (jR x.tr).2.2=true∧(jR x.tr).1≤min (jR x.tr).2.1 (endL x)then((jR x.tr).1,min (jR x.tr).2.1 (endL x),true)else(0,0,false))
noncomputable def fW (R:Tr) (c:Nm) (a:Int):Int×Int×Bool:=match tAt R c a with | none=>(0,0,false) | some x=>y9 x
abbrev za (s:Int×Int×Bool):Value:=.tuple #[.int .i64 s.1,.int .i64 s.2.1,.bool s.2.2]
theorem q_SpanN {w:World} {t m:Nat} {E:List Ch} {c:Nm} {a:Int} (h:TM w t m E) (hl:atE E c a=none):
  Calls Tryz.prog 43 #[ptB t,.string c,.int .i64 a] w fun e w'=>e= .returned (.tuple #[.int .i64 0,.int .i64 0,.bool false])∧Below w.heap.size w w':=by
 have hat:=rI h c a;rw[hl]at hat
 change Calls _ _ _ _ (fun e w'=>e= .returned (.pointer none)∧w'=_)at hat
 clear h hl;go_enter Tryz.func43,Tryz.ntmps43
 go_wp2_with (go_at_call 90;refine hat.mono ?_;rintro e w' ⟨rfl,hw'⟩;obtain rfl:=hw'.symm)
 go_ret3
 exact⟨rfl,Below.refl _ _⟩
theorem q_SpanI {w:World} {t m:Nat} {E:List Ch} {c:Nm} {a:Int} {l:Ln} (h:TM w t m E) (hE:TOk (trE E)) (hl:atE E c a=some l):
  Calls Tryz.prog 43 #[ptB t,.string c,.int .i64 a] w fun e w'=>e= .returned (za (y9 l.x))∧Below w.heap.size w w':=by
 have hat:=rI h c a;rw[hl]at hat
 change Calls _ _ _ _ (fun e w'=>e= .returned (ptB l.b)∧w'=_)at hat
 obtain⟨ch,hch,hlm,hL⟩:=lG h hl;have hgd:=hE.good _ (cF.2 ⟨ch,(cE hch).1,l,hlm,rfl⟩);have htm:=hE.tm _ (cF.2 ⟨ch,(cE hch).1,l,hlm,rfl⟩);have hsp:=q_SpanS hL.trk hgd;have hun:=hL.un;have hfr:=hL.fr;have hst:=hL.st;have htp:=hL.tp;have hu0: -1≤l.x.un∧l.x.un≤1099511627776:=by have:=htm.1;have:=htm.2.2;unfold ei at this;simp only at *;omega
 obtain⟨e,he⟩:∃e,e=endL l.x:=⟨_,rfl⟩;obtain⟨s,hs⟩:∃s,s=jR l.x.tr:=⟨_,rfl⟩;rw[←hs]at hsp;have HS:=Lib.hid (show y9 l.x=if l.x.st then(l.x.fr,e,true)else(if s.2.2=true∧s.1≤min s.2.1 e then(s.1,min s.2.1 e,true)else(0,0,false))by rw[he,hs];rfl);unfold endL at he;obtain⟨s1,s2,s3⟩:=s;simp only at hsp HS;generalize y9 l.x=S at *;clear h hl hL hE hch hlm hgd htm hs;generalize l.b=lb at *;generalize l.g=lg at *;generalize l.x.fr=fr at *;generalize l.x.un=un at *;generalize l.x.st=st at *;have key:∀(st':Bool) (s1 s2:Int) (s3:Bool),Calls Tryz.prog 100 (.pointer (some ⟨lg,0,none⟩)::[]).toArray w (fun e w'=>e= .returned (.tuple #[.int .i64 s1,.int .i64 s2,.bool s3])∧Below w.heap.size w w')→w.cell? ⟨lb,4,none⟩=some (.bool st')→
   S=(if st' then(fr,e,true)else(if s3=true∧s1≤min s2 e then(s1,min s2 e,true)else(0,0,false)))→(un= -1→e=1099511627776)→(un≠ -1→e=un - 1)→Calls Tryz.prog 43 #[ptB t,.string c,.int .i64 a] w fun e w'=>e= .returned (za S)∧Below w.heap.size w w':=by
  clear hsp hst HS s1 s2 s3 he st;intro st s1 s2 s3 hsp hst HS0 h1 h2;have HS:=Lib.hid HS0;clear HS0;by_cases hu:un= -1
  ·obtain rfl:=h1 hu;subst hu;clear h1 h2
   cases st with
   | true=>
    go_enter Tryz.func43,Tryz.ntmps43
    go_wp2_with (go_at_call 90;refine hat.mono ?_;rintro e w' ⟨rfl,hw'⟩;obtain rfl:=hw'.symm)
    go_ret3
    rw[HS.out];exact⟨rfl,Below.refl _ _⟩
   | false=>
    go_enter Tryz.func43,Tryz.ntmps43
    go_upto_region 11 with(first
     | (go_at_call 90;refine hat.mono ?_;rintro e w' ⟨rfl,hw'⟩;obtain rfl:=hw'.symm)
     | (go_at_call 100;refine hsp.mono ?_;rintro e w2 ⟨rfl,k2⟩;have HB:=Lib.hid k2;clear k2))
    clear hat hsp;obtain⟨mm,hmm⟩:∃mm,min s2 1099511627776=mm:=⟨_,rfl⟩;rw[hmm]at HS⊢;clear hmm
    cases s3 with
    | false=>
     go_wp2;go_ret3
     rw[HS.out];exact⟨rfl,HB.out⟩
    | true=>
     by_cases hm:s1≤mm
     ·have hm2:decide (mm<s1)=false:=decide_eq_false (by omega);have HM:=Lib.hid hm;clear hm;go_wp2;go_ret3
      rw[HS.out,if_neg (by simp),if_pos (by simpa using HM.out)];exact⟨rfl,HB.out⟩
     ·have hm2:decide (mm<s1)=true:=decide_eq_true (by omega);have HM:=Lib.hid hm;clear hm;go_wp2;go_ret3
      rw[HS.out,if_neg (by simp),if_neg (by have:=HM.out;simp;omega)];exact⟨rfl,HB.out⟩
  ·obtain rfl:=h2 hu;have hu2:(un== -1)=false:=beq_eq_false_iff_ne.2 hu;have hu3:IntKind.i64.wrap (un - 1)=un - 1:=by rw[IntKind.wrap_i64];omega
   clear h1 h2 hu
   cases st with
   | true=>
    go_enter Tryz.func43,Tryz.ntmps43
    go_wp2_with (go_at_call 90;refine hat.mono ?_;rintro e w' ⟨rfl,hw'⟩;obtain rfl:=hw'.symm)
    go_ret3
    rw[HS.out];exact⟨rfl,Below.refl _ _⟩
   | false=>
    go_enter Tryz.func43,Tryz.ntmps43
    go_upto_region 11 with(first
     | (go_at_call 90;refine hat.mono ?_;rintro e w' ⟨rfl,hw'⟩;obtain rfl:=hw'.symm)
     | (go_at_call 100;refine hsp.mono ?_;rintro e w2 ⟨rfl,k2⟩;have HB:=Lib.hid k2;clear k2))
    clear hat hsp;obtain⟨mm,hmm⟩:∃mm,min s2 (un - 1)=mm:=⟨_,rfl⟩;rw[hmm]at HS⊢;clear hmm
    cases s3 with
    | false=>
     go_wp2;go_ret3
     rw[HS.out];exact⟨rfl,HB.out⟩
    | true=>
     by_cases hm:s1≤mm
     ·have hm2:decide (mm<s1)=false:=decide_eq_false (by omega);have HM:=Lib.hid hm;clear hm;go_wp2;go_ret3
      rw[HS.out,if_neg (by simp),if_pos (by simpa using HM.out)];exact⟨rfl,HB.out⟩
     ·have hm2:decide (mm<s1)=true:=decide_eq_true (by omega);have HM:=Lib.hid hm;clear hm;go_wp2;go_ret3
      rw[HS.out,if_neg (by simp),if_neg (by have:=HM.out;simp;omega)];exact⟨rfl,HB.out⟩
 exact key st s1 s2 s3 hsp hst HS.out (fun h=>by rw[he,if_pos h]) (fun h=>by rw[he,if_neg h])
theorem q_Span {w:World} {t m:Nat} {E:List Ch} (h:TM w t m E) (hE:TOk (trE E)) (c:Nm) (a:Int):
  Calls Tryz.prog 43 #[ptB t,.string c,.int .i64 a] w fun e w'=>e= .returned (za (fW (trE E) c a))∧Below w.heap.size w w':=by
 unfold fW;rw[←h.tAt]
 cases hl:atE E c a with
 | none=>exact q_SpanN h hl
 | some l=>exact q_SpanI h hE hl
section
open Go.RowKit Go.MapKept
open Classical
def dX (q:Nm×Lk):List Value:=[.string q.1,.string q.2.par,.int .i64 q.2.fr,.int .i64 q.2.un]
noncomputable def fL (R:Tr) (L:List Nm):List (Nm×Lk):=L.flatMap fun c=>(lks R c).map fun x=>(c,x)
abbrev gw (w:World) (v:Value) (l:List (Nm×Lk)):Prop:=dt w 76 4 v l.length (l.flatMap dX)
theorem qp {q:Nm×Lk}:∀u∈dX q,u.oneCell'=true∧noU u:=fun u hu=>by
 simp only[dX,List.mem_cons,List.not_mem_nil,or_false]at hu;rcases hu with rfl | rfl | rfl | rfl<;>exact⟨rfl,fun n e=>by cases e⟩
theorem lnk_app {w:World} {v:Value} {l:List (Nm×Lk)} {g:Nat} {x:Nm×Lk} {ty:TypeId} (h:gw w v l) (hl:l.length≤2000) (hg:∀j u,(dX x)[j]? =some u→w.cell? ((⟨g,0,none⟩:Addr).add j)=some u) {B:Nat} {w0:World} (hb:Below B w0 w) (hB:B≤w.heap.size) (ho:∀g,v.ownBlock=some g→B≤g):
  ∃v' w',(Builtin.append_ #[73,73] ty #[v,.slice (some ⟨g,0,none⟩) 1 1]).run Tryz.prog w= .ok v' w'∧gw w' v' (l++ [x])∧Below B w0 w'∧∀g,v'.ownBlock=some g→B≤g:=by
 obtain⟨v',w',k1,k2,k3,k4⟩:=run_appK (p:=Tryz.prog) (ty:=ty) (c:=1) (m:=1) (sz:=4) (bytes:=48) Tryz.underlying73 (by kernel_rfl) h rfl hg (fun u hu=>(qp u hu).1) (fun u hu=>(qp u hu).2) (by decide) (by omega) (by omega);refine⟨v',w',k1,?_,hb.grown k2 hB (fun k hk=>ho k hk),fun g hg=>(k3 g hg).elim (ho g) (fun h=>Nat.le_trans hB h)⟩;show dt w' _ 4 v' (l++ [x]).length _;rw[List.length_append,List.flatMap_append,show [x].flatMap dX=dX x by simp];exact k4
theorem E_len {E:List Ch} {w:World} {t m:Nat} (h:TM w t m E) (hS:TSm (trE E)):E.length≤24:=by
 obtain⟨n,hn,l,h1,h2,rfl⟩:=hS.cnt;rw[←List.length_map (f:=(·.c))];refine Nat.le_trans (gM h.keys (fun x hx=> ?_)) hn;obtain⟨ch,hch,rfl⟩:=List.mem_map.1 hx;have hne:=(h.rows ch hch).ne;obtain⟨ln,hln⟩:=List.exists_mem_of_ne_nil _ hne;exact(h2 _).2 ⟨_,cF.2 ⟨ch,hch,ln,hln,rfl⟩,.inl rfl⟩
theorem nQ {R:Tr} (hS:TSm R):∀ {L:List Nm},(fL R L).length≤L.length*64
 | []=>Nat.zero_le _
 | c::L=>by
  have h1:=hS.per c;have h2:=nQ hS (L:=L);have e:fL R (c::L)=(lks R c).map (fun x=>(c,x))++fL R L:=rfl;rw[e,List.length_append,List.length_map,List.length_cons,Nat.add_mul];omega
theorem xQ (R:Tr) (L:List Nm) (c:Nm):fL R (L++ [c])=fL R L++(lks R c).map fun x=>(c,x):=by
 unfold fL;rw[List.flatMap_append];simp
theorem q_keysL {w:World} {t m:Nat} {E:List Ch} (h:TM w t m E) (hS:TSm (trE E)) (hn:∀x,aN (trE E) x→x.size≤maxLen):
  (Calls Tryz.prog 91 #[.map (some m)] w fun e w'=>e= .returned (.func (.func 154) #[] #[.pointer (some ⟨w.heap.size,0,none⟩)])∧w'=w.alloc (.cells #[.map (some m)] mpT))∧
  Calls Tryz.prog 87 #[.func (.func 154) #[] #[.pointer (some ⟨w.heap.size,0,none⟩)]] (w.alloc (.cells #[.map (some m)] mpT)) fun e w'=>∃v L,e= .returned v∧bg w' w.heap.size v L∧L.Perm (E.map (·.c))∧L.Nodup∧L.Pairwise xP∧Below w.heap.size w w':=by
 have hmx:(1000000:Nat)≤maxLen:=by unfold maxLen;omega
 have hlen:=E_len h hS;obtain⟨D,hD,hp,hz⟩:=dq.owns (P:=Tryz.prog) (k:=9) h.mp (by kernel_rfl) (by rw[List.length_map];omega) (fun p hp=>by
  obtain⟨ch,hch,rfl⟩:=List.mem_map.1 hp;obtain⟨ln,hln⟩:=List.exists_mem_of_ne_nil _ (h.rows ch hch).ne;exact hn _ ⟨_,cF.2 ⟨ch,hch,ln,hln,rfl⟩,.inl rfl⟩)
 rw[List.length_map]at hD hz;refine⟨callsIn_wide.1 (Tryz.maps_Keys_L (some m) w),(callsIn_wide.1 (Tryz.slices_Sorted_keys_L m E.length D Re0 w hD (by omega) (by omega))).mono ?_⟩;rintro e w' ⟨v,ss,rfl,hSS,hrow,hnil,hb⟩;obtain⟨L,h1,h2,h3,h4,h5⟩:=oB (dq.nodup h.mp) hp hSS;rw[List.map_map]at h3;refine⟨v,L,rfl,?_,h3,h4,h5,((Below.refl _ w).alloc (Nat.le_refl _) _).trans (hb.mono (by rw[asz];omega))⟩;show w'.ownsRow w.heap.size 9 1 v L.length (L.map Value.string);rw[←h1,h2];exact ownsRow_base_a hrow (by rw[asz];omega)
set_option maxHeartbeats 2000000 in
theorem q_Links {w:World} {t m:Nat} {E:List Ch} (h:TM w t m E) (hE:Sane (trE E)):Calls Tryz.prog 35 #[ptB t] w fun e w'=>∃v L,e= .returned v∧gw w' v (fL (trE E) L)∧L.Perm (E.map (·.c))∧L.Nodup∧L.Pairwise xP∧(∀g,v.ownBlock=some g→w.heap.size≤g)∧Below w.heap.size w w':=by
 obtain⟨hk1,hk2⟩:=q_keysL h hE.sm (fun x hx=>hE.short hx);have hk3:=hk2.mono (show∀e w',_→∃ad n cap,∃L:List Nm,e= .returned (.slice ad n cap)∧Hid (bg w' w.heap.size (.slice ad n cap) L∧n=L.length∧L.Perm (E.map (·.c))∧L.Nodup∧L.Pairwise xP∧Below w.heap.size w w')from by
  rintro e w' ⟨v,L,rfl,h1,h2,h3,h4,h5⟩;obtain⟨ad,cap,rfl⟩:=fK h1;exact⟨ad,_,cap,L,rfl,Lib.hid ⟨h1,rfl,h2,h3,h4,h5⟩⟩)
 have h1:=h.cell;have H:=Lib.hid h;have HS:=Lib.hid hE;clear h hE hk2;go_enter Tryz.func35,Tryz.ntmps35
 go_wp2_with (first
  | (go_at_call 91;refine hk1.mono ?_;rintro e w2 ⟨rfl,rfl⟩)
  | (go_at_call 87;refine hk3.mono ?_;rintro e w3 ⟨ad,n,cap,L,rfl,HR⟩))
 clear hk1 hk3;have hn24:n≤24:=by rw[HR.out.2.1,HR.out.2.2.1.length_eq,List.length_map];exact E_len H.out HS.out.sm
 go_loopw [3,17] (fun s3 s17 wr=>∃(k:Nat),k≤n∧s17= .int .i64 (k:Int)∧Hid (gw wr s3 (fL (trE E) (L.take k)))∧Hid (∀g,s3.ownBlock=some g→w3.heap.size≤g)∧Hid (Below w3.heap.size w3 wr)) (fun _ s17 _=>n - (intOf s17).toNat)
 case atStart=>exact⟨0,Nat.zero_le _,rfl,Lib.hid (by rw[List.take_zero];exact⟨World.ownsRow_nil _ _ _ _,fun g hg=>by cases hg⟩),Lib.hid (fun g hg=>by cases hg),Lib.hid (Below.refl _ _)⟩
 case round=>
  obtain⟨k,hk,rfl,HL,HO,HB⟩:=hrel;rcases Nat.lt_or_ge k n with hlt | hge
  ·obtain⟨c,hc⟩:∃c,L[k]? =some c:=⟨_,List.getElem?_eq_getElem (by rw[←HR.out.2.1];exact hlt)⟩;obtain⟨g,hg,hc0⟩:=km (by have:=HR.out.1;unfold bg at this;rw[←HR.out.2.1]at this;exact this) (show(L.map Value.string)[k]? =some (.string c)by rw[List.getElem?_map,hc];rfl);have hgl:=(cP HR.out.1 (g:=g) (by rw[hg];rfl)).2;subst hg;have hcc:wr.cell? ⟨g,k,none⟩=some (.string c):=by rw[HB.out.cell (p:=⟨g,k,none⟩) hgl];exact hc0
   have hb3:=HR.out.2.2.2.2.2;have hT:=(H.out.below hb3).below HB.out
   cases hch:chE E c with
   | none=>
    obtain⟨ch,h2,h3⟩:=List.mem_map.1 ((HR.out.2.2.1.mem_iff).1 (List.mem_of_getElem? hc));exact absurd h3 (vg hch h2)
   | some ch=>
    have h4:=hT.cell;have h5:=hT.look c;have hCA:=hT.chAt hch;have hm2:(ch.ls.length:Int)≤9223372036854775807:=by have:=hCA.le;have:=hCA.cap;unfold maxLen at this;omega
    have h5':(Instr.lookup mpT (.map (some m)) (.string c) false).run Tryz.prog wr= .ok (.slice (some ⟨ch.rb,0,none⟩) ch.ls.length ch.cap) wr:=by rw[h5];unfold mK;rw[hch];rfl
    have hlk:lks (trE E) c=ch.ls.map (·.x):=by rw[iw H.out.keys];unfold lsE;rw[hch];rfl
    have HLK:=Lib.hid hlk;have HC:=Lib.hid hc;have HCH:=Lib.hid hch;have HLN:=Lib.hid (show∀wq:World,Below w3.heap.size w3 wq→TM wq t m E from fun wq k=>(H.out.below hb3).below k);have h64:=HS.out.sm.per c;rw[hlk,List.length_map]at h64;obtain⟨n2,hn2⟩:∃n2,n2=ch.ls.length:=⟨_,rfl⟩;rw[←hn2]at h5' hm2 h64;have HN2:=Lib.hid hn2;clear h5 hCA hT hlk hc hch hn2 hb3 hc0 hgl;go_wp2;go_loopw [3,28] (fun s3 s28 wq=>∃(j:Nat),j≤n2∧s28= .int .i64 (j:Int)∧Hid (gw wq s3 (fL (trE E) (L.take k)++(ch.ls.take j).map fun l=>(c,l.x)))∧Hid (∀g,s3.ownBlock=some g→w3.heap.size≤g)∧Hid (Below w3.heap.size w3 wq)) (fun _ s28 _=>n2 - (intOf s28).toNat)
    case atStart=>exact⟨0,Nat.zero_le _,rfl,by rw[List.take_zero,List.map_nil,List.append_nil];exact HL,HO,HB⟩
    case round=>
     clear HL HO HB h4 h5' hcc;obtain⟨j,hj,rfl,HL,HO,HB⟩:=hrel;rcases Nat.lt_or_ge j n2 with hlt2 | hge
     ·obtain⟨ln,hln⟩:∃ln,ch.ls[j]? =some ln:=⟨_,List.getElem?_eq_getElem (by rw[←HN2.out];exact hlt2)⟩;have hT:=HLN.out wr HB.out;have hcl:=(hT.chAt HCH.out).cell hln;have hLn:=hT.ln HCH.out (List.mem_of_getElem? hln);have hrg:wr.rangeAt ln.b 0 (dX (c,ln.x)):=fun i v hv=>by
       rw[Nat.zero_add]
       match i,hv with
       | 0,hv=>injection hv with hv;subst hv;exact hLn.cellv rfl
       | 1,hv=>injection hv with hv;subst hv;exact hLn.par
       | 2,hv=>injection hv with hv;subst hv;exact hLn.fr
       | 3,hv=>injection hv with hv;subst hv;exact hLn.un
       | i+4,hv=>simp[dX]at hv
      have hg1:∀(i:Nat) (u:Value),(dX (c,ln.x))[i]? =some u→(wr.alloc (.cells (dX (c,ln.x)).toArray 76)).cell? ((⟨wr.heap.size,0,none⟩:Addr).add i)=some u:=fun i u hu=>by
       rw[cM,Nat.zero_add,aR (heap_alloc_new wr _)];simpa using hu
      have hLlen:(fL (trE E) (L.take k)++(ch.ls.take j).map fun l=>(c,l.x)).length≤2000:=by
       have h1:=nQ HS.out.sm (L:=L.take k);rw[List.length_take]at h1;rw[List.length_append,List.length_map,List.length_take];omega
      obtain⟨v5,w5,hrun,hW5,hB5,hO5⟩:=lnk_app (ty:=73) (x:=(c,ln.x)) (HL.out.keep (w':=wr.alloc (.cells (dX (c,ln.x)).toArray 76)) (fun g hg=>heap_alloc_old wr _ (cP HL.out.1 hg).2)) hLlen hg1 (HB.out.alloc HB.out.size _) (by rw[asz];have:=HB.out.size;omega) HO.out;have HW5:=Lib.hid (show gw w5 v5 (fL (trE E) (L.take k)++(ch.ls.take (j+1)).map fun l=>(c,l.x))by
       rw[List.take_add_one,hln,List.map_append,←List.append_assoc];exact hW5)
      have HB5:=Lib.hid hB5;have HO5:=Lib.hid hO5;have HRUN:=Lib.hid hrun;have HRG:=Lib.hid hrg;clear hW5 hB5 hO5 hg1 hrun hLlen hrg hLn hT hln HL HO HB;generalize ln.b=lb at *;generalize ln.x=x at *;go_upto_region 10 with(fail)
      refine wp_region_list ?_;refine ag rfl (v:=u3) (w':=wr) (by rfl) ?_;refine ag rfl (v:=ptB lb) (w':=wr) (by rfl) ?_;refine ag rfl (v:=ptB lb) (w':=wr) (by go_simp) ?_;refine ag rfl (v:=ptB lb) (w':=wr) (by go_simp) ?_;refine wpList_load_mid rfl _ _ rfl lb 0 rfl (dX (c,x)) _ HRG.out Tryz.underlying76 rfl (by kernel_rfl) ?_;refine ag rfl (v:=.slice (some ⟨wr.heap.size,0,none⟩) 1 1) (w':=wr.alloc (.cells (dX (c,x)).toArray 76)) (by unfold dX;go_simp) ?_;refine lK rfl rfl rfl rfl HRUN.out ?_;go_wp2;go_roundw
      case rel=>exact⟨j+1,by omega,by go_num,HW5,HO5,HB5⟩
      case measure=>simp[intOf];omega
     ·obtain rfl:j=n2:=by omega
      have HL2:=Lib.hid (show gw wr u3 (fL (trE E) (L.take (k+1)))by
       have h1:=HL.out;rw[List.take_add_one,HC.out,Option.toList_some,xQ,HLK.out];rw[HN2.out,List.take_length]at h1;rw[List.map_map];exact h1)
      clear HL;go_wp2;go_roundw
      case rel=>exact⟨k+1,by omega,by go_num,HL2,HO,HB⟩
      case measure=>simp[intOf];omega
  ·obtain rfl:k=n:=by omega
   have HQ:=Lib.hid (show∃v L',Ending.returned u3= .returned v∧gw wr v (fL (trE E) L')∧L'.Perm (E.map (·.c))∧L'.Nodup∧L'.Pairwise xP∧(∀g,v.ownBlock=some g→w.heap.size≤g)∧Below w.heap.size w wr from by
    obtain⟨_,h1,h2,h3,h4,h5⟩:=HR.out;have h6:=HL.out;rw[h1,List.take_length]at h6;exact⟨u3,L,rfl,h6,h2,h3,h4,fun g hg=>Nat.le_trans h5.size (HO.out g hg),h5.trans (HB.out.mono h5.size)⟩)
   clear HB HL HO;go_wp2;go_ret;exact HQ.out
end
section
open Classical
theorem flat4:∀ {l:List (Nm×Lk)} {i j:Nat} {q:Nm×Lk},l[i]? =some q→j<4→(l.flatMap dX)[i*4+j]? =(dX q)[j]?
 | [],i,j,q,h,_=>by cases h
 | p::l,0,j,q,h,hj=>by
  simp only[List.getElem?_cons_zero,Option.some.injEq]at h;subst h;rw[List.flatMap_cons,List.getElem?_append_left (by show 0*4+j<4;omega),Nat.zero_mul,Nat.zero_add]
 | p::l,i+1,j,q,h,hj=>by
  rw[List.flatMap_cons,List.getElem?_append_right (by show 4≤(i+1)*4+j;omega)];have e:(i+1)*4+j - (dX p).length=i*4+j:=by show(i+1)*4+j - 4=_;omega
  rw[e];exact flat4 (by simpa using h) hj
end
end Go.Proofs.YtggfmklppkioeaaGreat
