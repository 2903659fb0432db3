/- LookupFinds: a transform is the composition of the edges: the walk. -/
import Derived.Test.YtggfmklppkioeaaGreatZKFindsT12
import Derived.Test.YtggfmklppkioeaaGreatL11
namespace Go.Proofs.YtggfmklppkioeaaGreat
set_option linter.unusedSimpArgs false
set_option linter.unusedVariables false
set_option maxRecDepth 100000
open Go.RowKit
open _root_.Go.RowKit renaming Below → AW
open _root_.Go renaming Program → AZ,all_oneCell_toArray → Dt,wpAnyH_done → CR,wp_block → Cr,wp_region_held_drew → Df,wp_ret → Cs,wp_seq → BQ
open _root_.Array renaming getElem?_eq_some_iff → A2
open _root_.Go.RowKit.Below renaming refl → AH
open _root_.List renaming drop_eq_getElem_cons → Fm,drop_eq_nil_of_le → Fk,getElem?_eq_getElem → AM,getElem?_eq_some_iff → A1,length_take → A9,size_toArray → BW
open _root_.Nat renaming le_trans → AG,lt_or_eq_of_le → DH,zero_add → A7,zero_le → A3
open _root_.Go.Region renaming ready → BK,wanted → A6
open _root_.Go.Proofs.Tryz renaming func39 → C0,func41 → EY,prog → AD
section
open Classical
section
variable {P:AZ} {H:World->Prop} {w:World} {v:Value} {n d i:Nat} {o:Oper} {l:List (Nat×Value)} {a:Act} {ops:Array Oper} {Q:Exit->Act->World->Prop} {md:Region.Mode} {fuel:Nat} {listed:Array Bool}
theorem yG(i:Nat)(J:Kn n l a)(I:H w)(h:∀ {a'},Kn n ((d,v)::l) a'->wpAnyH AD md ops Q H fuel (listed.setIfInBounds i true) a' w)
  (hi:ops[i]? =some o:=by rfl)(hs:Region.noSelect ops=true:=by kernel_rfl)(hf:Region.free md ops listed i=true:=by kernel_rfl)(hr:(BK md ops listed).contains i=true:=by kernel_rfl)(F:o.dst=some d:=by rfl)(hn:d<n:=by decide)(G:∀c a a' w,a'.defers=a.defers->Q (.panic c) a w->Q (.panic c) a' w:=by exact λc a a' w e h=>⟨e.trans h.1,h.2⟩)(C:A6 o (yielded ops a.tmps)=true:=by first | exact eV rfl | exact fS (by assumption) rfl rfl rfl rfl)
  (hy:∀w,H w->(execOp a.eval o).run AD w= .ok (.value v) w:=by intro w C;first | exact jY (by assumption) rfl rfl | exact ju (by assumption) rfl rfl | exact yY (by assumption) rfl rfl rfl | exact uz (by assumption) rfl rfl (by assumption) C | exact j4 (r:=true) (by assumption) rfl rfl rfl (by first | exact rfl | (simp only[cpI];omega))):wpAnyH AD md ops Q H (fuel+1) listed a w:=by
 refine wpAnyH_take (v:=v) hi hs hf hr (λc a w h=>G c (a.put o.dst v) a w (by rw[F];rfl) h) (.inl ⟨C,hy⟩) I ?_;rw[F];exact h (J.put hn)
theorem yC{R:Ending->World->Prop}{f:FuncId}{C:Call}{vs:List Value}(i:Nat)(F:Kn n l a)(U:∀args w,(callFunc f args).run P w= .ok (.enter f args) w)(I:Calls P f vs.toArray w R)(h:∀ {e w'},R e w'->∃v,e= .returned v/\H w'/\∀a',Kn n ((d,v)::l) a'->wpAnyH P md ops Q H fuel (listed.setIfInBounds i true) a' w')
  (hr:BK md ops listed=[i]:=by kernel_rfl)(hi:ops[i]? =some o:=by rfl)(K:o.dst=some d:=by rfl)(hn:d<n:=by decide)(Y:o.op= .call C:=by rfl)(hc:C.callee= .value (.func f):=by rfl)(hx:wh l C.args.toList=some vs:=by rfl)(Z:A6 o (yielded ops a.tmps)=true:=by first | exact eV rfl | exact fS (by assumption) rfl rfl rfl rfl):wpAnyH P md ops Q H (fuel+1) listed a w:=
 wpAnyH_all hr Ad λj V=>by
  obtain rfl:j=i:=by simpa using V
  refine wpOp_step hi λG J=> ?_
  rw[if_pos Z];unfold Oper.wp;rw[dN F Y hc hx U];refine I.mono (λe w' hr=> ?_);obtain⟨v,rfl,hs,h2⟩:=h hr;show G (a.put o.dst v) w';rw[K];exact J _ _ ⟨hs,h2 _ (F.put hn)⟩
end
end
section
open Classical
theorem Vq.of_ok{x y z:Int}(C: -1000<=x/\x<=1000)(hy: -1000<=y/\y<=1000)(hz: -1000<=z/\z<=1000):(Vq.of x y z).ok 2:=(ke (x:=x) (y:=y) (z:=z) no no no).pos
variable{a:Int}
theorem sW{R:Tr}{f:Nm}{l:List Nm}(h:eC R a (f::l)=0):(bC R f a).2=0/\eC R a l=0:=by
 unfold eC at h;split at h
 ·rename_i k;exact⟨k,h⟩
 ·rename_i k;exact absurd h k
variable{Q:Exit->Act->World->Prop}{w:World}
theorem abz{P:AZ}{a:Act}{c:Code}(I:Act->World->Prop)(C:c.wp P (Exit.then I Q) a w)(hy:∀a w,I a w->Q .normal a w):c.wp P Q a w:=
 wp_mono C λe a w h=>by cases e<;>first | exact hy _ _ h | exact h
theorem cv_8(ha:0<=a/\a<256):(convert 5 2 (.int .u8 a)).run AD w= .ok (.int .i64 a) w:=by
 have h1:IntKind.i64.wrap a=a:=by rw[IntKind.wrap_i64];omega
 clear ha;go_simp
theorem yTwo{P:AZ}{H:World->Prop}{i j:Nat}{a:Act}{ops:Array Oper}{md:Region.Mode}{fuel:Nat}{listed:Array Bool}(hr:BK md ops listed=[i,j])(h1:wpOp P ops Q i (λa w=>H w/\wpAnyH P md ops Q H fuel (listed.setIfInBounds i true) a w) a w)(h2:wpOp P ops Q j (λa w=>H w/\wpAnyH P md ops Q H fuel (listed.setIfInBounds j true) a w) a w):wpAnyH P md ops Q H (fuel+1) listed a w:=
 wpAnyH_all hr Ad λk C=>by
  rcases List.mem_cons.1 C with rfl | C
  ·exact h1
  ·obtain rfl:k=j:=by simpa using C
   exact h2
theorem wJ(w:World)(t:TypeId)(z:Nat)(hz:((AD.info? t).bind (·.zero)).map (λu=>(u.cells.size,u.cells.toList.all nuB))=some (z,true)):∃vs,(Instr.alloc t true (.tuple #[])).run AD w= .ok (.pointer (some ⟨w.heap.size,0,none⟩)) (w.alloc (.cells vs t))/\vs.size=z/\VB w (w.alloc (.cells vs t)) t w.heap.size vs:=by
 cases hq:(AD.info? t).bind (·.zero)with
 | none=>rw[hq]at hz;cases hz
 | some u=>
  rw[hq]at hz;refine⟨u.cells,?_,by injection hz with hz;injection hz,VB.new w t u.cells (acx (by injection hz with hz;injection hz))⟩;simp only[Instr.alloc,Sem.run_bind,nH hq,Result.andThen,newVar,newRow,Go.newObj,Sem.run,Sem.run_pure];rfl
structure UD(w W:World)(B D:Nat)(c1 c2:List Value)(P1 P2:Pq):Prop where
 v1:VB w W 39 B c1.toArray
 i1:aZ W (P1.cs.map Fq.raw) c1
 v2:VB w W 39 D c2.toArray
 i2:aZ W (P2.cs.map Fq.raw) c2
 ne:B≠D
section
variable {w W W':World} {B D:Nat} {c1 c2 cs:List Value} {P1 P2 P:Pq} {v:Value} {l:List Nm}
theorem UD.next(h:UD w W B D c1 c2 P1 P2)(k:AW W.heap.size W W'):UD w W' B D c1 c2 P1 P2:=⟨h.v1.next k,h.i1.mono k,h.v2.next k,h.i2.mono k,h.ne⟩
theorem UD.st1(h:UD w W B D c1 c2 P1 P2)(V:VB w W' 39 B cs.toArray)(u:Upd W B W')(i:aZ W (P.cs.map Fq.raw) cs):UD w W' B D cs c2 P P2:=⟨V,i.upd h.v1.own u,h.v2.upd u h.ne.symm V,h.i2.upd h.v1.own u,h.ne⟩
theorem UD.st2(h:UD w W B D c1 c2 P1 P2)(V:VB w W' 39 D cs.toArray)(u:Upd W D W')(i:aZ W (P.cs.map Fq.raw) cs):UD w W' B D c1 cs P1 P:=⟨h.v1.upd u h.ne V,h.i1.upd h.v2.own u,V,i.upd h.v2.own u,h.ne⟩
structure URow(W:World)(B D:Nat)(v:Value)(l:List Nm):Prop where
 row:SRow W v l
 nb:∀g,v.ownBlock=some g->g≠B/\g≠D
theorem URow.next(h:URow W B D v l)(k:AW W.heap.size W W'):URow W' B D v l:=⟨h.row.keep (λg C=>k.block g (cf h.row.1 C).2),h.nb⟩
theorem URow.upd{G:Nat}(h:URow W B D v l)(u:Upd W G W')(F:G=B\/G=D):URow W' B D v l:=⟨h.row.keep (λg C=>u.block g (F.elim (λe=>e▸(h.nb g C).1) (λe=>e▸(h.nb g C).2))),h.nb⟩
end
theorem VB.ret9{W:World}{B:Nat}{vs:Array Value}(V:VB w W 37 B vs)(hl:vs.size=9){fn:Func}{p u:Tmp}(hr:fn.results=#[.cell p 37,.tmp u])(tmps:Array Value)(hp:tmps.getD p undef= .pointer (some ⟨B,0,none⟩)):
  (results fn tmps).run AD W= .ok (.tuple #[.agg vs,tmps.getD u undef]) W:=
 oh hr tmps W B _ _ _ _ hp V.blk Tryz.underlying37 rfl (by rw[hl];kernel_rfl)
theorem q_MoveK{t m:Nat}{E:List Ch}{x y:Nm}{u:Vq}{cu:List Value}(hT:TM w t m E)(hE:Sane (trE E))(hF:(aP (trE E) a x y).2=0)(iu:bP w (.agg cu.toArray) u)(ou:u.ok 1000)(gu:u.good):
  Calls AD 24 #[ptB t,.string x,.string y,.int .i64 a,.agg cu.toArray] w λe w'=>∃v,e= .returned (.tuple #[v,.int .i64 0])/\bP w' v ((aP (trE E) a x y).1.app u)/\AW w.heap.size w w':=by
 obtain⟨ab,Z,K⟩:=iu;have Z:cu=ab:=by injection Z with Z;simpa using Z
 subst Z;obtain⟨o1,g1⟩:=fD hE hF;have aa:=λwq (k:AW w.heap.size w wq)=>fG (hT.below k) hE (dD hE a x y)
 rw[hF]at aa;go_enter Tryz.func24,Tryz.ntmps24
 refine bf 29 [(0,ptB t),(1,.string x),(2,.string y),(3,.int .i64 a),(4,.agg cu.toArray)] λC=> ?_
 refine mDn ?_;refine bg ?_;refine vX (cs:=cu) (λu hu n e=> ?_) C λ{_ W0 B9} Y C=> ?_
 ·subst e;obtain⟨k,ac⟩:=List.getElem?_of_mem hu;exact K.noInt k n ac
 refine vA C 9 λ{_ W1 am vs} G hz C=> ?_
 refine sZ C ?_;intro _ C;have b1:=Y.bel.trans (G.bel.mono Y.bel.size);have f9:=(Y.next G.bel).row (t':=37) (ps:=cu) (k:=0) (λj u hj=>by rw[A7];simpa using hj) (by rw[aw K];kernel_rfl);have U:=AH W1.heap.size W1;refine sA C ?_;intro _ C;refine wC C (af Tryz.func18 rfl rfl) (aa _ b1) λ{e w2} U=> ?_
 obtain⟨_,rfl,⟨cs,rfl,J⟩,b2⟩:=U;refine⟨_,rfl,λ_ C=> ?_⟩;refine sD C ?_;intro _ C;refine vA C 21 λV ak C=> ?_
 refine vFR V J ak C λ{_ w3} I _ C=> ?_
 refine sZ C ?_;intro _ C;have b3:=b2.trans (I.bel.mono b2.size);have an:=I.fr J;have f9:=f9.mono b3;clear U;have U:=AH w3.heap.size w3;refine sX C ?_;intro _ C;refine ci C ?_;refine sA C ?_;intro _ C;refine wC C (af Tryz.func26 rfl rfl) (ach _ _ _ u _ ⟨_,rfl,J.mono I.bel⟩ ⟨_,rfl,K.mono (b1.trans (b3.mono b1.size))⟩ (o1.mono it) (ou.mono it) g1 gu) λ{e w4} U=> ?_
 obtain⟨_,rfl,⟨cr,rfl,F⟩,b4⟩:=U;refine⟨_,rfl,λ_ C=> ?_⟩;have V:=(G.next (b3.trans (b4.mono b3.size)));obtain⟨W5,ad,V',u5⟩:=V.fill (cs:=cr) (by rw[hz,aw F];rfl) (Dt (ce F)) (sC F) (by rw[aw F];kernel_rfl);refine wT C W5 (hr:=ad) λC=> ?_
 refine sZ C ?_;intro _ C;refine Cs ?_
 repeat first | refine jB ?_ | refine jC ?_
 refine bodyPost_ret (V'.ret9 (by rw[BW,aw F];rfl) rfl _ (C.gt 10)) C.df ?_;rw[C.gt 11];exact⟨_,rfl,⟨cr,rfl,F.upd V.own u5⟩,Y.bel.trans (V'.bel.mono Y.bel.size)⟩
theorem Av{p:Prop}(h:p:=by exact jZ C rfl rfl rfl):p:=h
set_option maxHeartbeats 4000000 in
theorem q_Finds{v0:Value}(R0:List Stp)(q:Qry)(d3:∀s∈R0,s.Ok)(hq:q.Ok)(k0:io w v0 R0):Calls AD 14 #[v0,q.val] w λe w'=>e= .returned (.bool true)/\AW w.heap.size w w':=by
 obtain⟨da,c0,rfl,_⟩:=k0.row;go_enter Tryz.func14,Tryz.ntmps14
 refine bf 168 [(0,.slice da R0.length c0),(1,.agg q.cs.toArray)] λC=> ?_
 refine mDn ?_;refine bg ?_;refine vX (aby q) C λ{_ W B} V C=> ?_
 refine sZ C ?_;intro _ C;have f0:LdB W 5 (.pointer (some ⟨B,0+0,none⟩)) (.int .u8 q.a):=V.one rfl;have f1:LdB W 5 (.pointer (some ⟨B,0+1,none⟩)) (.int .u8 q.b):=V.one rfl;have f2:LdB W 5 (.pointer (some ⟨B,0+2,none⟩)) (.int .u8 q.c):=V.one rfl;have f3:LdB W 3 (.pointer (some ⟨B,0+3,none⟩)) (.int .i64 q.t):=V.one rfl;by_cases b0:20<R0.length
 ·refine sX C ?_;intro _ C;refine mCt C ?_;refine mDn ?_;refine bg ?_;refine wC C (af Tryz.func53 rfl rfl) (cX W) λ{e w1} I=> ?_
  obtain⟨rfl,b1⟩:=I;refine⟨_,rfl,λ_ C=> ?_⟩;refine sZ C ?_;intro _ C;refine mT1 C ?_;exact⟨rfl,V.bel.trans (b1.mono V.bel.size)⟩
 ·refine sX C ?_;intro _ C;refine ci C ?_;refine sA C ?_;intro _ C;refine wC C (af Tryz.func57 rfl rfl) (oC R0 d3 (k0.below V.bel) no) λ{e w1} I=> ?_
  obtain⟨t,m,tb,E,v,L,rfl,hP⟩:=I;refine⟨_,rfl,λ_ C=> ?_⟩;refine sZ C ?_;intro _ C;refine sX C ?_;intro _ C;refine ci C ?_;have f0:=f0.mono hP.ti.bel;have f1:=f1.mono hP.ti.bel;have f2:=f2.mono hP.ti.bel;have f3:=f3.mono hP.ti.bel;have hb:=AH w1.heap.size w1;refine uA C ?_;intro _ C;refine uC C (.string (bM q.a)) (af C0 rfl rfl) (λw hb=>(gE q.a hq.a).mono (by rintro e w' ⟨rfl,rfl⟩;exact⟨rfl,AH _ _⟩)) λC=> ?_
  refine uD C ?_;intro _ C;refine uC C (.string (bM q.b)) (af C0 rfl rfl) (λw hb=>(gE q.b hq.b).mono (by rintro e w' ⟨rfl,rfl⟩;exact⟨rfl,AH _ _⟩)) λC=> ?_
  refine uZ C ?_;intro _ C w' be;generalize bM q.a=x at *;generalize bM q.b=y at *;have hS:=hP.ti.sane;have hn:L.length<=1000000:=by have:=hP.le;omega
  have e1:=mL hP.rq hS.ok q.t x y;have e3:=mM hP.rq hS.ok q.t y x;have ex:=mK hP.rq hS.ok q.t x;have ey:=mK hP.rq hS.ok q.t y;have ad:=λwq (k:AW w1.heap.size w1 wq)=>hP.below k
  have cd:=λwq (k:AW w1.heap.size w1 wq)=>V.bel.trans ((ad wq k).ti.bel.mono V.bel.size)
  clear hb hP V;refine sA C ?_;intro _ C;refine wC C (af Tryz.func58 rfl rfl) (wG (ad _ be).rm (ad _ be).sr y x q.t hn) λ{e w2} I=> ?_
  obtain⟨rfl,b2⟩:=I;have hb:=be.trans (b2.mono be.size);clear be b2;refine⟨_,rfl,λ_ C=> ?_⟩;rw[<-e3]at C;by_cases hF:(aP (trE E) q.t y x).2=0
  ·rw[hF]at C;have am:=hF;rw[uH]at am;have hm:(aE (trE E) q.t x y).2=0:=by
    by_cases h:(aE (trE E) q.t x y).2=0
    ·exact h
    ·rw[if_pos h]at am;exact am
   rw[if_neg (by simp[hm])]at am;have a6:eC (trE E) q.t (bx (bm (trE E) q.t x) (aE (trE E) q.t x y).1)=0:=by
    by_cases h:eC (trE E) q.t (bx (bm (trE E) q.t x) (aE (trE E) q.t x y).1)=0
    ·exact h
    ·rw[if_pos h]at am;exact absurd am h
   rw[if_neg (by simp[a6])]at am;have a0:=dD hS q.t y x;obtain⟨oF,gF⟩:=fD hS hF;have cq:=λwq (k:AW w1.heap.size w1 wq)=>fG (ad wq k).ti.tm hS a0
   have c5:=λwq (k:AW w1.heap.size w1 wq) (cu:List Value) (i)=>q_MoveK (cu:=cu) (u:=Vq.of q.c 2 (-3)) (ad wq k).ti.tm hS hF i ((Vq.of_ok (by have:=hq.c;omega) no no).mono it) (Vq.good.of _ _ _)
   have K:=a0.up;have c8:=a0.dn;have c7:=a0.ou;have c6:=a0.od;have ak:(aP (trE E) q.t y x).1=(upP (trE E) q.t y (aE (trE E) q.t x y).1).1.inv.mul (upP (trE E) q.t x (aE (trE E) q.t x y).1).1:=by
    have h1:(upP (trE E) q.t x (aE (trE E) q.t x y).1).2=0:=(eY _ _).trans a6;have h2:(upP (trE E) q.t y (aE (trE E) q.t x y).1).2=0:=(eY _ _).trans am;unfold aP;rw[if_neg (by simp[hm]),if_neg (by simp[h1]),if_neg (by simp[h2])]
   have o1:=c7 ((eY _ _).trans a6);have o2:=c6 ((eY _ _).trans am);obtain⟨m1,m2⟩:=wD (sO hm);have em:=eu hS q.t x;have ep:=eu hS q.t y;rw[hF]at cq;clear c7 c6 a0 hF;generalize (aP (trE E) q.t y x).1=PF at *;refine sZ C ?_;intro _ C;refine ci C ?_;refine sA C ?_;intro _ C;refine wC C (af Tryz.func61 rfl rfl) (kK (ad _ hb).rm (ad _ hb).sr x y q.t hn) λ{e w3} I=> ?_
   obtain⟨rfl,b3⟩:=I;have cp:=hb.trans (b3.mono hb.size);clear hb b3;refine⟨_,rfl,λ_ C=> ?_⟩;rw[<-e1,hm]at C;clear e1 hm;unfold upP at ak o1 o2;generalize (aE (trE E) q.t x y).1=c at *;refine sZ C ?_;intro _ C;refine mDn ?_;refine bg ?_;refine wC C (af Tryz.func22 rfl rfl) (aaP _) λ{e w4} I=> ?_
   obtain⟨_,rfl,⟨i1,rfl,a7⟩,b4⟩:=I;refine⟨_,rfl,λ_ C=> ?_⟩;refine wC C (af Tryz.func22 rfl rfl) (aaP _) λ{e w9} I=> ?_
   obtain⟨_,rfl,⟨i2,rfl,cx⟩,b5⟩:=I;refine⟨_,rfl,λ_ C=> ?_⟩;have b9:=cp.trans ((b4.trans (b5.mono b4.size)).mono cp.size);have a7:=a7.mono b5;clear cp b4 b5;refine vA C 21 λ{_ W6 ac er} V6 d4 C=> ?_
   refine vA C 21 λ{_ W7 Y eb} Z d5 C=> ?_
   have ao:ac≠Y:=by have:=(A2.1 V6.blk).1;have:=Z.ge;omega
   have k6:=V6.bel.trans (Z.bel.mono V6.bel.size);have bi:=V6.next Z.bel;have c3:VB w9 W7 39 Y eb:=⟨Z.blk,k6,AG V6.bel.size Z.ge,Z.nu⟩;refine vFR bi a7 d4 C λ{_ W8} a3 u8 C=> ?_
   have ax:=c3.upd u8 ao.symm a3;refine vFR ax cx d5 C λ{_ WA} a4 u9 C=> ?_
   have J:UD w9 WA ac Y i1 i2 Pq.id Pq.id:=⟨a3.upd u9 ao a4,((a7.mono k6).upd bi.own u8).upd ax.own u9,a4,((cx.mono k6).upd bi.own u8).upd ax.own u9,ao⟩;clear V6 Z bi c3 a3 ax a4 u8 u9 k6 a7 cx ao;have hb:=b9.trans (J.v1.bel.mono b9.size);refine wln ?_;refine mUp ?_;refine sA C ?_;intro _ C;refine wC C (af Tryz.func63 rfl rfl) (sN (ad _ hb).rm (ad _ hb).sr x q.t hn) λ{e ee} I=> ?_
   obtain⟨ux,rfl,Sx⟩:=I;refine⟨_,rfl,λ_ C=> ?_⟩;refine sZ C ?_;intro _ C;rw[<-ex]at Sx;obtain⟨jx,ca,cl⟩:=wE m1;have eg:=(A1.1 ca).1;have dT:=(A2.1 J.v1.blk).1;have d0:=(A2.1 J.v2.blk).1;have J:=J.next Sx.bel;rw[cl]at K a6 ak o1;generalize bm (trE E) q.t x=lx at *;obtain⟨gx,kx,rfl,_,_,_⟩:=Sx.row (by intro e;rw[e]at ca;cases ca);have hN:URow ee ac Y (.slice (some ⟨gx,0,none⟩) lx.length kx) lx:=⟨Sx.own,λg hg=>by have:=Sx.ge g hg;exact⟨no,no⟩⟩;have K:=K;have aa:=a6;refine sX C ?_;intro _ C
   ·refine eW (λb wr=>∃(i:Nat)(c1 c2:List Value)(P:Pq),Kn 168 [(3,.pointer (some ⟨B,0,none⟩)),(5,ptB t),(6,ptB tb),(8,.string x),(9,.string y),(10,.string c),(12,.pointer (some ⟨ac,0,none⟩)),(13,.pointer (some ⟨Y,0,none⟩)),(14,.slice (some ⟨gx,0,none⟩) lx.length kx),(15,.int .i64 (i:Int))] b/\UD w9 wr ac Y c1 c2 P Pq.id/\URow wr ac Y (.slice (some ⟨gx,0,none⟩) lx.length kx) lx/\i<=jx/\cD (trE E) q.t (lx.take jx) Pq.id=cD (trE E) q.t ((lx.take jx).drop i) P/\jm (trE E) q.t ((lx.take jx).drop i) P/\eC (trE E) q.t ((lx.take jx).drop i)=0) (λb _=>jx - (intOf (b.tmps.getD 15 undef)).toNat) ⟨0,_,_,_,C.ct,J,hN,A3 _,rfl,K,aa⟩ (λb W hI=> ?_);clear C J hN K aa;obtain⟨i,c1,c2,P,C,J,hN,cz,ab,K,aa⟩:=hI;have bb:(intOf (b.tmps.getD 15 undef)).toNat=i:=by rw[C.gt 15];simp[intOf]
    rw[bb];have hb:=b9.trans (J.v1.bel.mono b9.size);have I:=AH W.heap.size W;obtain⟨f,hf⟩:∃f,lx[i]? =some f:=⟨_,AM no⟩;obtain⟨b',o,e,f1⟩:=(aU.nms (b:=0) hN.row.1).ld hf;injection e with e;injection e with e1 e2 _;subst e1;subst e2;rcases DH cz with a9 | rfl
    ·have ao:=abp cl a9 hf;have hd:(lx.take jx).drop i=f::(lx.take jx).drop (i+1):=by
      rw[Fm (by rw[A9];omega)]
      congr 1
      rw[List.getElem_take];exact(A1.1 hf).2
     rw[hd]at ab K aa;obtain⟨ar,aa⟩:=sW aa;obtain⟨oe,ge,op,gp,K⟩:=K ar;have ab:cD (trE E) q.t (lx.take jx) Pq.id=cD (trE E) q.t ((lx.take jx).drop (i+1)) ((bC (trE E) f q.t).1.mul P):=by rw[ab];exact if_pos ar
     have hE:=λwq (k:AW w1.heap.size w1 wq)=>abf (ad wq k).ti.tm hS.ok f q.t
     rw[ar]at hE;generalize (bC (trE E) f q.t).1=X at *;refine sA C ?_;intro _ C;refine wB C (.bool true) (hr:=oB (decide_eq_true ao)) λC=> ?_
     refine wln ?_;refine mUp ?_;refine mD C ?_;have dr:=f3.mono hb;have h8:=I.drew;refine mDn ?_;refine abz (λa' wx=>∃(G:Nat)(cs:List Value),VB W wx 39 G cs.toArray/\aZ wx (X.cs.map Fq.raw) cs/\Kn 168 [(3,.pointer (some ⟨B,0,none⟩)),(5,ptB t),(6,ptB tb),(8,.string x),(9,.string y),(10,.string c),(12,.pointer (some ⟨ac,0,none⟩)),(13,.pointer (some ⟨Y,0,none⟩)),(14,.slice (some ⟨gx,0,none⟩) lx.length kx),(15,.int .i64 (i:Int)),(16,.pointer (some ⟨G,0,none⟩)),(17,.int .i64 0)] a') ?_ (λa' wx hI=> ?_)
     ·refine Df (S:=λw'=>AW W.heap.size W w') Aa h8 (λhH=> ?_);refine yK 0 C hH λC=> ?_
      refine yK 1 C hH λC=> ?_
      refine yK 2 C hH λC=> ?_
      refine yK 3 C hH λC=> ?_
      refine yK 4 C hH λC=> ?_
      refine yK 5 C hH λC=> ?_
      refine yK 6 C hH λC=> ?_
      refine yTwo (i:=7) (j:=11) Aa ?_ ?_
      ·refine wi C rfl rfl rfl it (dN C rfl rfl rfl (af EY rfl rfl)) (hE _ (hb.trans (h8.mono hb.size))) (λe w5 I=> ?_);obtain⟨_,rfl,⟨cs,rfl,F⟩,b5⟩:=I;have b5:=h8.trans (b5.mono h8.size);refine⟨_,rfl,λ_ C=>⟨b5,?_⟩⟩;refine yK 8 C b5 λC=> ?_
       refine yK 9 C b5 (hy:=λa w C hw=>Av) λC=> ?_
       refine yK 10 C b5 (hy:=λa w C hw=>Av) λC=> ?_
       obtain⟨vs,ha,hz,V⟩:=wJ w5 39 21 Aa;have b6:=b5.trans (V.bel.mono b5.size);refine yV 11 C _ _ (λe=>by cases e;exact yZ rfl ha) b6 λC=> ?_
       obtain⟨W7,au,Z,u7⟩:=V.fill (cs:=cs) (by rw[hz,aw F];rfl) (Dt (ce F)) (sC F) (by rw[aw F];kernel_rfl);have b7:=b5.trans (Z.bel.mono b5.size);refine yW 12 C W7 (λe=>by cases e;exact kT C rfl rfl rfl au) b7 λC=> ?_
       refine yV 13 C _ _ (λe=>by cases e;exact ju C rfl rfl) b7 λC=>CR Aa (thn ?_) _
       exact⟨_,cs,⟨Z.blk,b7,AG b5.size Z.ge,Z.nu⟩,(F.mono V.bel).upd V.own u7,C.ct⟩
      ·obtain⟨vs,ha,hz,V⟩:=wJ W.drew 39 21 Aa;have b4:=h8.trans (V.bel.mono h8.size);refine ij C rfl rfl it rfl (yZ rfl ha) (λ_ C=>⟨b4,?_⟩);refine yC 7 C (af EY rfl rfl) (hE _ (hb.trans (b4.mono hb.size))) λ{e w5} I=> ?_
       obtain⟨_,rfl,⟨cs,rfl,F⟩,k5⟩:=I;have V:=V.next k5;have b5:=b4.trans (k5.mono b4.size);refine⟨_,rfl,b5,λ_ C=> ?_⟩;refine yK 8 C b5 λC=> ?_
       refine yK 9 C b5 (hy:=λa w C hw=>Av) λC=> ?_
       refine yK 10 C b5 (hy:=λa w C hw=>Av) λC=> ?_
       obtain⟨W7,au,Z,u7⟩:=V.fill (cs:=cs) (by rw[hz,aw F];rfl) (Dt (ce F)) (sC F) (by rw[aw F];kernel_rfl);have b7:=h8.trans (Z.bel.mono h8.size);refine yW 12 C W7 (λe=>by cases e;exact kT C rfl rfl rfl au) b7 λC=> ?_
       refine yV 13 C _ _ (λe=>by cases e;exact ju C rfl rfl) b7 λC=>CR Aa (thn ?_) _
       exact⟨_,cs,⟨Z.blk,b7,AG h8.size Z.ge,Z.nu⟩,F.upd V.own u7,C.ct⟩
     ·clear C;obtain⟨G,cs,aq,F,C⟩:=hI;refine mUp ?_;have J:=J.next aq.bel;have hN:=hN.next aq.bel;have dq:LdB wx 39 (.pointer (some ⟨G,0,none⟩)) (.agg cs.toArray):=aq.row (k:=0) (λj u hj=>by rw[A7];simpa using hj) (by rw[aw F];kernel_rfl);have fU:LdB wx 39 (.pointer (some ⟨ac,0,none⟩)) (.agg c1.toArray):=J.v1.row (k:=0) (λj u hj=>by rw[A7];simpa using hj) (by rw[aw J.i1];kernel_rfl);have d2:=AH wx.heap.size wx;refine sX C ?_;intro _ C;refine ci C ?_;refine sA C ?_;intro _ C;refine wC C (af Tryz.func21 rfl rfl) (jh _ _ X P _ ⟨_,rfl,F⟩ ⟨_,rfl,J.i1⟩ oe op ge gp) λ{e w6} I=> ?_
      obtain⟨_,rfl,⟨cr,rfl,a5⟩,k5⟩:=I;have J:=J.next k5;have hN:=hN.next k5;refine⟨_,rfl,λ_ C=> ?_⟩;refine vFR J.v1 a5 (by rw[BW,aw J.i1];rfl) C λ{_ W7} Z u7 C=> ?_
      have J:=J.st1 Z u7 a5;have hN:=hN.upd u7 (.inl rfl);refine wln ?_;refine mUp ?_;refine sA C ?_;intro _ C;refine vN C ((i+1:Nat)) λC=> ?_
      refine sD C ?_;intro _ C;refine wln ?_;refine mUp ?_;refine⟨⟨i+1,_,_,_,C.ct,J,hN,a9,ab,K,aa⟩,?_⟩;rw[C.gt 15];simp only[intOf];omega
    ·rw[ca]at hf;injection hf with hf;subst hf;refine sA C ?_;intro _ C;refine wB C (.bool false) (hr:=oB (decide_eq_false Ad)) λC=> ?_
     refine wln ?_;refine mUp ?_;refine mCf C ?_;refine mEx ?_;rw[Fk (by rw[A9];omega)]at ab;have o1:=o1;rw[ab]at ak o1;have o1:P.ok 100000/\P.good:=o1;have ak:PF=(cD (trE E) q.t (bx (bm (trE E) q.t y) c) Pq.id).1.inv.mul P:=ak;generalize P=U at *;clear ab bb hN;refine sA C ?_;intro _ C;refine wC C (af Tryz.func63 rfl rfl) (sN (ad _ hb).rm (ad _ hb).sr y q.t hn) λ{e ef} I=> ?_
     obtain⟨uy,rfl,Sy⟩:=I;refine⟨_,rfl,λ_ C=> ?_⟩;refine sZ C ?_;intro _ C;rw[<-ey]at Sy;obtain⟨jy,cb,cm⟩:=wE m2;have ej:=(A1.1 cb).1;have dT:=(A2.1 J.v1.blk).1;have d0:=(A2.1 J.v2.blk).1;have J:=J.next Sy.bel;rw[cm]at c8 am ak o2;generalize bm (trE E) q.t y=ly at *;obtain⟨gy,ky,rfl,_,_,_⟩:=Sy.row (by intro e;rw[e]at cb;cases cb);have hN:URow ef ac Y (.slice (some ⟨gy,0,none⟩) ly.length ky) ly:=⟨Sy.own,λg hg=>by have:=Sy.ge g hg;exact⟨no,no⟩⟩;have K:=c8;have aa:=am;refine sX C ?_;intro _ C
     ·refine eW (λb wr=>∃(i:Nat)(c1 c2:List Value)(P:Pq),Kn 168 [(3,.pointer (some ⟨B,0,none⟩)),(5,ptB t),(6,ptB tb),(8,.string x),(9,.string y),(10,.string c),(12,.pointer (some ⟨ac,0,none⟩)),(13,.pointer (some ⟨Y,0,none⟩)),(18,.slice (some ⟨gy,0,none⟩) ly.length ky),(19,.int .i64 (i:Int))] b/\UD w9 wr ac Y c1 c2 U P/\URow wr ac Y (.slice (some ⟨gy,0,none⟩) ly.length ky) ly/\i<=jy/\cD (trE E) q.t (ly.take jy) Pq.id=cD (trE E) q.t ((ly.take jy).drop i) P/\jm (trE E) q.t ((ly.take jy).drop i) P/\eC (trE E) q.t ((ly.take jy).drop i)=0) (λb _=>jy - (intOf (b.tmps.getD 19 undef)).toNat) ⟨0,_,_,_,C.ct,J,hN,A3 _,rfl,K,aa⟩ (λb W hI=> ?_);clear C J hN K aa;obtain⟨i,c1,c2,P,C,J,hN,cz,ab,K,aa⟩:=hI;have bb:(intOf (b.tmps.getD 19 undef)).toNat=i:=by rw[C.gt 19];simp[intOf]
      rw[bb];have hb:=b9.trans (J.v1.bel.mono b9.size);have I:=AH W.heap.size W;obtain⟨f,hf⟩:∃f,ly[i]? =some f:=⟨_,AM no⟩;obtain⟨b',o,e,f1⟩:=(aU.nms (b:=0) hN.row.1).ld hf;injection e with e;injection e with e1 e2 _;subst e1;subst e2;rcases DH cz with a9 | rfl
      ·have ao:=abp cm a9 hf;have hd:(ly.take jy).drop i=f::(ly.take jy).drop (i+1):=by
        rw[Fm (by rw[A9];omega)]
        congr 1
        rw[List.getElem_take];exact(A1.1 hf).2
       rw[hd]at ab K aa;obtain⟨ar,aa⟩:=sW aa;obtain⟨oe,ge,op,gp,K⟩:=K ar;have ab:cD (trE E) q.t (ly.take jy) Pq.id=cD (trE E) q.t ((ly.take jy).drop (i+1)) ((bC (trE E) f q.t).1.mul P):=by rw[ab];exact if_pos ar
       have hE:=λwq (k:AW w1.heap.size w1 wq)=>abf (ad wq k).ti.tm hS.ok f q.t
       rw[ar]at hE;generalize (bC (trE E) f q.t).1=X at *;refine sA C ?_;intro _ C;refine wB C (.bool true) (hr:=oB (decide_eq_true ao)) λC=> ?_
       refine wln ?_;refine mUp ?_;refine mD C ?_;have dr:=f3.mono hb;have h8:=I.drew;refine mDn ?_;refine abz (λa' wx=>∃(G:Nat)(cs:List Value),VB W wx 39 G cs.toArray/\aZ wx (X.cs.map Fq.raw) cs/\Kn 168 [(3,.pointer (some ⟨B,0,none⟩)),(5,ptB t),(6,ptB tb),(8,.string x),(9,.string y),(10,.string c),(12,.pointer (some ⟨ac,0,none⟩)),(13,.pointer (some ⟨Y,0,none⟩)),(18,.slice (some ⟨gy,0,none⟩) ly.length ky),(19,.int .i64 (i:Int)),(20,.pointer (some ⟨G,0,none⟩)),(21,.int .i64 0)] a') ?_ (λa' wx hI=> ?_)
       ·refine Df (S:=λw'=>AW W.heap.size W w') Aa h8 (λhH=> ?_);refine yK 0 C hH λC=> ?_
        refine yK 1 C hH λC=> ?_
        refine yK 2 C hH λC=> ?_
        refine yK 3 C hH λC=> ?_
        refine yK 4 C hH λC=> ?_
        refine yK 5 C hH λC=> ?_
        refine yK 6 C hH λC=> ?_
        refine yTwo (i:=7) (j:=11) Aa ?_ ?_
        ·refine wi C rfl rfl rfl it (dN C rfl rfl rfl (af EY rfl rfl)) (hE _ (hb.trans (h8.mono hb.size))) (λe w5 I=> ?_);obtain⟨_,rfl,⟨cs,rfl,F⟩,b5⟩:=I;have b5:=h8.trans (b5.mono h8.size);refine⟨_,rfl,λ_ C=>⟨b5,?_⟩⟩;refine yK 8 C b5 λC=> ?_
         refine yK 9 C b5 (hy:=λa w C hw=>Av) λC=> ?_
         refine yK 10 C b5 (hy:=λa w C hw=>Av) λC=> ?_
         obtain⟨vs,ha,hz,V⟩:=wJ w5 39 21 Aa;have b6:=b5.trans (V.bel.mono b5.size);refine yV 11 C _ _ (λe=>by cases e;exact yZ rfl ha) b6 λC=> ?_
         obtain⟨W7,au,Z,u7⟩:=V.fill (cs:=cs) (by rw[hz,aw F];rfl) (Dt (ce F)) (sC F) (by rw[aw F];kernel_rfl);have b7:=b5.trans (Z.bel.mono b5.size);refine yW 12 C W7 (λe=>by cases e;exact kT C rfl rfl rfl au) b7 λC=> ?_
         refine yV 13 C _ _ (λe=>by cases e;exact ju C rfl rfl) b7 λC=>CR Aa (thn ?_) _
         exact⟨_,cs,⟨Z.blk,b7,AG b5.size Z.ge,Z.nu⟩,(F.mono V.bel).upd V.own u7,C.ct⟩
        ·obtain⟨vs,ha,hz,V⟩:=wJ W.drew 39 21 Aa;have b4:=h8.trans (V.bel.mono h8.size);refine ij C rfl rfl it rfl (yZ rfl ha) (λ_ C=>⟨b4,?_⟩);refine yC 7 C (af EY rfl rfl) (hE _ (hb.trans (b4.mono hb.size))) λ{e w5} I=> ?_
         obtain⟨_,rfl,⟨cs,rfl,F⟩,k5⟩:=I;have V:=V.next k5;have b5:=b4.trans (k5.mono b4.size);refine⟨_,rfl,b5,λ_ C=> ?_⟩;refine yK 8 C b5 λC=> ?_
         refine yK 9 C b5 (hy:=λa w C hw=>Av) λC=> ?_
         refine yK 10 C b5 (hy:=λa w C hw=>Av) λC=> ?_
         obtain⟨W7,au,Z,u7⟩:=V.fill (cs:=cs) (by rw[hz,aw F];rfl) (Dt (ce F)) (sC F) (by rw[aw F];kernel_rfl);have b7:=h8.trans (Z.bel.mono h8.size);refine yW 12 C W7 (λe=>by cases e;exact kT C rfl rfl rfl au) b7 λC=> ?_
         refine yV 13 C _ _ (λe=>by cases e;exact ju C rfl rfl) b7 λC=>CR Aa (thn ?_) _
         exact⟨_,cs,⟨Z.blk,b7,AG h8.size Z.ge,Z.nu⟩,F.upd V.own u7,C.ct⟩
       ·clear C;obtain⟨G,cs,aq,F,C⟩:=hI;refine mUp ?_;have J:=J.next aq.bel;have hN:=hN.next aq.bel;have dq:LdB wx 39 (.pointer (some ⟨G,0,none⟩)) (.agg cs.toArray):=aq.row (k:=0) (λj u hj=>by rw[A7];simpa using hj) (by rw[aw F];kernel_rfl);have fU:LdB wx 39 (.pointer (some ⟨Y,0,none⟩)) (.agg c2.toArray):=J.v2.row (k:=0) (λj u hj=>by rw[A7];simpa using hj) (by rw[aw J.i2];kernel_rfl);have d2:=AH wx.heap.size wx;refine sX C ?_;intro _ C;refine ci C ?_;refine sA C ?_;intro _ C;refine wC C (af Tryz.func21 rfl rfl) (jh _ _ X P _ ⟨_,rfl,F⟩ ⟨_,rfl,J.i2⟩ oe op ge gp) λ{e w6} I=> ?_
        obtain⟨_,rfl,⟨cr,rfl,a5⟩,k5⟩:=I;have J:=J.next k5;have hN:=hN.next k5;refine⟨_,rfl,λ_ C=> ?_⟩;refine vFR J.v2 a5 (by rw[BW,aw J.i2];rfl) C λ{_ W7} Z u7 C=> ?_
        have J:=J.st2 Z u7 a5;have hN:=hN.upd u7 (.inr rfl);refine wln ?_;refine mUp ?_;refine sA C ?_;intro _ C;refine vN C ((i+1:Nat)) λC=> ?_
        refine sD C ?_;intro _ C;refine wln ?_;refine mUp ?_;refine⟨⟨i+1,_,_,_,C.ct,J,hN,a9,ab,K,aa⟩,?_⟩;rw[C.gt 19];simp only[intOf];omega
      ·rw[cb]at hf;injection hf with hf;subst hf;refine sA C ?_;intro _ C;refine wB C (.bool false) (hr:=oB (decide_eq_false Ad)) λC=> ?_
       refine wln ?_;refine mUp ?_;refine mCf C ?_;refine mEx ?_;rw[Fk (by rw[A9];omega)]at ab;rw[ab]at ak o2;have o2:P.ok 100000/\P.good/\P.inv.ok 100000:=o2;have ak:PF=P.inv.mul U:=ak;clear ab bb hN;refine sA C ?_;intro _ C;refine wC C (af Tryz.func18 rfl rfl) (cq _ hb) λ{e w5} I=> ?_
       obtain⟨_,rfl,⟨cs,rfl,F⟩,b5⟩:=I;refine⟨_,rfl,λ_ C=> ?_⟩;refine sD C ?_;intro _ C;refine vA C 21 λ{_ _ c9 _} V hz C=> ?_
       refine vFR V F hz C λ{_ xB} bp _ C=> ?_
       refine sZ C ?_;intro _ C;have b6:=b5.trans (bp.bel.mono b5.size);have hb:=hb.trans (b6.mono hb.size);have J:=J.next b6;have ay:=bp.fr F;have ap:=F.mono bp.bel;have db:=J.v1.fr J.i1;have dc:=J.v2.fr J.i2;clear V bp F b5 b6 cq;have h8:=(AH xB.heap.size xB).drew;refine mDn ?_;refine abz (λa' wx=>AW xB.heap.size xB wx/\Kn 168 [(3,.pointer (some ⟨B,0,none⟩)),(5,ptB t),(6,ptB tb),(8,.string x),(9,.string y),(10,.string c),(12,.pointer (some ⟨ac,0,none⟩)),(13,.pointer (some ⟨Y,0,none⟩)),(22,.pointer (some ⟨c9,0,none⟩)),(141,.bool false)] a') ?_ (λa' wx hI=> ?_)
       ·refine Df (S:=λw'=>AW xB.heap.size xB w') Aa h8 (λhH=> ?_);refine yG 0 C hH λC=> ?_
        refine yG 1 C hH (hy:=λw hw=>by exact j4 (r:=false) C rfl rfl rfl rfl) λC=> ?_
        refine yG 2 C hH λC=> ?_
        refine yG 3 C hH λC=> ?_
        refine yG 4 C hH λC=> ?_
        refine yG 6 C hH λC=> ?_
        refine yC 5 C (af Tryz.func56 rfl rfl) (aci _ P _ ⟨_,rfl,J.i2.mono h8⟩ o2.1 o2.2.1) λ{e w6} I=> ?_
        obtain⟨v6,rfl,h6,k6⟩:=I;have k6:=h8.trans (k6.mono h8.size);refine⟨_,rfl,k6,λ_ C=> ?_⟩;refine yC 7 C (af Tryz.func21 rfl rfl) (jh _ _ P.inv U _ h6 ⟨_,rfl,J.i1.mono k6⟩ o2.2.2 o1.1 o2.2.1.inv o1.2) λ{e w7} I=> ?_
        obtain⟨v7,rfl,h7,k7⟩:=I;have k7:=k6.trans (k7.mono k6.size);refine⟨_,rfl,k7,λ_ C=> ?_⟩;refine yC 8 C (af Tryz.func55 rfl rfl) (lz _ _ PF (P.inv.mul U) _ ⟨_,rfl,ap.mono k7⟩ h7 (oF.mono it) (ak▸oF.mono it) ak gF (ak▸gF)) λ{e ed} I=> ?_
        obtain⟨rfl,k8⟩:=I;have k8:=k7.trans (k8.mono k7.size);refine⟨_,rfl,k8,λ_ C=> ?_⟩;refine yG 9 C k8 (hy:=λw hw=>by exact acv C rfl rfl) λC=> ?_
        refine yG 10 C k8 λC=>CR Aa (thn ?_) _
        exact⟨k8,C.ct⟩
       ·clear C;obtain⟨b7,C⟩:=hI;refine mUp ?_;have hb:=hb.trans (b7.mono hb.size);have ap:=ap.mono b7;have ay:=ay.mono b7;clear J db dc h8 b7;refine ci C ?_;refine sA C ?_;intro _ C;refine wV C (.int .i64 q.c) (hr:=cv_8 hq.c) λC=> ?_
        refine wC C (af Tryz.func64 rfl rfl) (q_rOfK q.c 2 (-3) (by have:=hq.c;omega) no no) λ{e w8} I=> ?_
        obtain⟨_,rfl,⟨cu,rfl,bz⟩,b8⟩:=I;refine⟨_,rfl,λ_ C=> ?_⟩;refine vA C 9 λV hz C=> ?_
        refine vFR V bz hz C λ{_ xC} bq _ C=> ?_
        refine wln ?_;refine mUp ?_;have b9:=b8.trans (bq.bel.mono b8.size);have hb:=hb.trans (b9.mono hb.size);have ap:=ap.mono b9;have ay:=ay.mono b9;have c4:LdB xC 37 (.pointer (some ⟨_,0,none⟩)) (.agg cu.toArray):=bq.fr bz;have cc:bP xC (.agg cu.toArray) (Vq.of q.c 2 (-3)):=⟨_,rfl,bz.mono bq.bel⟩;clear V bq bz b8 b9;have d1:=AH xC.heap.size xC;refine sA C ?_;intro _ C;refine wC C (af Tryz.func24 rfl rfl) (c5 _ hb cu cc) λ{e ed} I=> ?_
        obtain⟨_,rfl,⟨cv,rfl,bO⟩,cn⟩:=I;refine⟨_,rfl,λ_ C=> ?_⟩;refine sD C ?_;intro _ C;refine vA C 9 λV hz C=> ?_
        refine vFR V bO hz C λ{_ xD} bt _ C=> ?_
        refine sZ C ?_;intro _ C;have an:=cn.trans (bt.bel.mono cn.size);have hb:=hb.trans (an.mono hb.size);have ap:=ap.mono an;have ay:=ay.mono an;have cc:=cc.mono an;have c4:=c4.mono an;have ek:=bt.fr bO;have ea:=bO.mono bt.bel;clear V bt bO cn an c5 d1;have h8:=(AH xD.heap.size xD).drew;refine mDn ?_;refine Df (S:=λw'=>AW xD.heap.size xD w') Aa h8 (λhH=> ?_);refine yG 0 C hH λC=> ?_
        refine yG 1 C hH λC=> ?_
        refine yG 2 C hH λC=> ?_
        refine yG 3 C hH λC=> ?_
        refine yG 4 C hH λC=> ?_
        refine yG 5 C hH λC=> ?_
        have ov:(Vq.of q.c 2 (-3)).ok 1000:=(Vq.of_ok (by have:=hq.c;omega) no no).mono it;refine yC 6 C (af Tryz.func26 rfl rfl) (ach _ _ PF (Vq.of q.c 2 (-3)) _ ⟨_,rfl,ap.mono h8⟩ (cc.mono h8) (oF.mono it) (ov.mono it) gF (Vq.good.of _ _ _)) λ{e ew} I=> ?_
        obtain⟨eq,rfl,ds,a1⟩:=I;have a1:=h8.trans (a1.mono h8.size);refine⟨_,rfl,a1,λ_ C=> ?_⟩;have om:(PF.app (Vq.of q.c 2 (-3))).ok 1000000000:=(oF.app ov gF).mono it;refine yC 7 C (af Tryz.func65 rfl rfl) (rR _ _ (PF.app (Vq.of q.c 2 (-3))) (PF.app (Vq.of q.c 2 (-3))) _ ⟨_,rfl,ea.mono a1⟩ ds om om rfl) λ{e ez} I=> ?_
        obtain⟨rfl,av⟩:=I;have av:=a1.trans (av.mono a1.size);refine⟨_,rfl,av,λ_ C=> ?_⟩;refine yG 8 C av λC=> ?_
        refine yG 9 C av λC=> ?_
        refine yC 10 C (af Tryz.func53 rfl rfl) (cX _) λ{e eP} I=> ?_
        obtain⟨rfl,a2⟩:=I;have a2:=av.trans (a2.mono av.size);refine⟨_,rfl,a2,λ_ C=> ?_⟩;refine yG 11 C a2 λC=> ?_
        refine yG 12 C a2 λC=>CR Aa ?_ _
        refine mUp ?_;refine mT1 C ?_;exact⟨rfl,cd _ (hb.trans (a2.mono hb.size))⟩
  ·refine sZ C ?_;intro _ C;refine mCt C ?_;refine mDn ?_;refine bg ?_;refine wC C (af Tryz.func53 rfl rfl) (cX _) λ{e et} I=> ?_
   obtain⟨rfl,an⟩:=I;refine⟨_,rfl,λ_ C=> ?_⟩;refine sZ C ?_;intro _ C;refine mT1 C ?_;exact⟨rfl,cd _ (hb.trans (an.mono hb.size))⟩
end
end Go.Proofs.YtggfmklppkioeaaGreat
