/- Trees of frames: what a step does is determined. slices.Sort and slices.Compact at integers. lookup.Latest: what is answered. The plain law of poses: they form a group that acts on points and keeps distances. The example that the laws of package lookup try first: its tree, plainly. Texts of fractions, by the executor. Rows of texts, compared. Vectors and translations of whole numbers. A region by the executor, in the middle of a walk. lookup.Latest. Calls on no tree, as an executor meets them. What arguments of the type roboticslaw29.Query are. How transforms compose, plainly. Trees of frames as unknowns of the executor. Texts of poses of package pose. The frames of the Top laws. The example that the laws Top.. try: its tree, plainly. -/
import Derived.Test.YtggfmklppkioeaaGreatP18
import Derived.Shelf.SortM.Plain
import Derived.Shelf.Slices.CompactI
import Derived.Ground.SlgmProg
import Derived.Ground.Names2Prog
import Derived.Sort.OwnSortedInts
import Derived.Lib.OwnBridge
import Derived.Sort.CutIn
import Derived.Shelf.Strings.OnBuilder
namespace Go.Proofs.YtggfmklppkioeaaGreat
set_option linter.unusedSimpArgs false
set_option linter.unusedVariables false
set_option maxRecDepth 100000
open Go.RowKit
open Classical
theorem yI {α:Type} {x:α}:∀ {P P' S S':List α},P++x::S=P'++x::S'→(P++x::S).Nodup→P=P'∧S=S'
 | [],[],S,S',h,_=>⟨rfl,by simpa using h⟩
 | [],p::P',S,S',h,hd=>by
  simp only[List.nil_append,List.cons_append,List.cons.injEq]at h hd;obtain⟨rfl,rfl⟩:=h;exact absurd (List.mem_append.2 (.inr (List.mem_cons_self ..))) (List.nodup_cons.1 hd).1
 | p::P,[],S,S',h,hd=>by
  simp only[List.nil_append,List.cons_append,List.cons.injEq]at h hd;obtain⟨rfl,rfl⟩:=h;exact absurd (List.mem_append.2 (.inr (List.mem_cons_self ..))) (List.nodup_cons.1 hd).1
 | p::P,p'::P',S,S',h,hd=>by
  simp only[List.cons_append,List.cons.injEq]at h hd;obtain⟨rfl,h⟩:=h;obtain⟨e1,e2⟩:=yI h (List.nodup_cons.1 hd).2;exact⟨by rw[e1],e2⟩
section
variable {R Q R' Q' A B A' B':Tr} {c p:Nm} {x x':Lk} {k k':Nat} {a f u e e':Int}
theorem TOk.nodup (h:TOk R) (c:Nm):(lks R c).Nodup:=by
 refine List.Pairwise.imp_of_mem (fun {x y} hx hy k e=> ?_) (h.row c);subst e;have:=h.tm _ (cA.1 hx);simp only at this;omega
theorem sW (h:REq (A++(c,x)::B) (A'++(c,x)::B')) (hd:TOk (A++(c,x)::B)):REq (A++(c,x')::B) (A'++(c,x')::B'):=fun y=>by
 have hy:=h y;have hn:=hd.nodup y;rw[cQ,cQ]at hy⊢;rw[cQ]at hn;by_cases e:y=c
 ·rw[if_pos e,if_pos e]at hy⊢;rw[if_pos e]at hn;obtain⟨e1,e2⟩:=yI hy hn;rw[e1,e2]
 ·rw[if_neg e,if_neg e]at hy⊢;exact hy
theorem eI.of (h:x.un= -1):eI (A++(c,x)::B) c A.length x:=⟨by simp,h⟩
theorem n4 (hR:TOk R) (hQ:TOk Q) (h:REq R Q) (a:eI R c k x) (b:eI Q c k' x'):x=x':=by
 have h1:=a.last (hR.row c);have h2:=b.last (hQ.row c);rw[h c,h2]at h1;injection h1 with h1;exact h1.symm
theorem jL (h:REq R Q) (a:pS R c) (b:eI Q c k x):False:=by
 have h1:(c,x)∈R:=(h.mem _).2 (List.mem_of_getElem? b.1);obtain⟨i,hi,e⟩:=List.getElem_of_mem h1;exact a i (c,x) (by rw[List.getElem?_eq_getElem hi,e]) ⟨rfl,b.2⟩
theorem DetS.uniq (hR:TOk R) (hQ:TOk Q) (h:REq R Q) (d:DetS R c u R' e) (d':DetS Q c u Q' e'):e=e'∧REq R' Q':=by
 cases d with
 | none h1=>cases d' with
  | none _=>exact⟨rfl,h⟩
  | time k1 _=>exact(jL h h1 k1).elim
  | ok e1 k1 _ _=>subst e1;exact(jL h h1 (eI.of k1)).elim
 | time h1 h2=>cases d' with
  | none k1=>exact(jL h.symm k1 h1).elim
  | time _ _=>exact⟨rfl,h⟩
  | ok e1 k1 k2 k3=>subst e1;obtain rfl:=n4 hR hQ h h1 (eI.of k1);omega
 | ok e1 h1 h2 h3=>subst e1;cases d' with
  | none k1=>exact(jL h.symm k1 (eI.of h1)).elim
  | time k1 k2=>obtain rfl:=n4 hR hQ h (eI.of h1) k1;omega
  | ok e1 k1 k2 k3=>subst e1;obtain rfl:=n4 hR hQ h (eI.of h1) (eI.of k1);exact⟨rfl,sW h hR⟩
theorem SetS.uniq {add:List St→List St×Int} (hR:TOk R) (h:REq R Q) (d:SetS add R c a R' e) (d':SetS add Q c a Q' e'):e=e'∧REq R' Q':=by
 have ht:=h.tAt c a
 cases d with
 | none h1=>cases d' with
  | none _=>exact⟨rfl,h⟩
  | still k1 _=>rw[h1,k1]at ht;cases ht
  | ok e1 k1 _=>rw[h1,k1]at ht;cases ht
 | still h1 h2=>cases d' with
  | none k1=>rw[h1,k1]at ht;cases ht
  | still _ _=>exact⟨rfl,h⟩
  | ok e1 k1 k2=>rw[h1,k1]at ht;injection ht with ht;subst ht;rw[h2]at k2;cases k2
 | ok e1 h1 h2=>cases d' with
  | none k1=>rw[h1,k1]at ht;cases ht
  | still k1 k2=>rw[h1,k1]at ht;injection ht with ht;subst ht;rw[h2]at k2;cases k2
  | ok e2 k1 k2=>rw[h1,k1]at ht;injection ht with ht;subst ht;subst e1;subst e2;exact⟨rfl,sW h hR⟩
theorem FixS.uniq {ok:Bool} {q:Pq} (hR:TOk R) (hQ:TOk Q) (h:REq R Q) (d:FixS ok q R c R' e) (d':FixS ok q Q c Q' e'):e=e'∧REq R' Q':=by
 cases d with
 | none h1=>cases d' with
  | none _=>exact⟨rfl,h⟩
  | state k1 _=>exact(jL h h1 k1).elim
  | range k1 _ _ _=>exact(jL h h1 k1).elim
  | ok e1 k1 _ _ _=>subst e1;exact(jL h h1 (eI.of k1)).elim
 | state h1 h2=>cases d' with
  | none k1=>exact(jL h.symm k1 h1).elim
  | state _ _=>exact⟨rfl,h⟩
  | range k1 k2 k3 _=>obtain rfl:=n4 hR hQ h h1 k1;rw[k2,k3]at h2;simp at h2
  | ok e1 k1 k2 k3 _=>subst e1;obtain rfl:=n4 hR hQ h h1 (eI.of k1);rw[k2,k3]at h2;simp at h2
 | range h1 h2 h3 h4=>cases d' with
  | none k1=>exact(jL h.symm k1 h1).elim
  | state k1 k2=>obtain rfl:=n4 hR hQ h h1 k1;rw[h2,h3]at k2;simp at k2
  | range _ _ _ _=>exact⟨rfl,h⟩
  | ok e1 k1 k2 k3 k4=>rw[h4]at k4;cases k4
 | ok e1 h1 h2 h3 h4=>subst e1;cases d' with
  | none k1=>exact(jL h.symm k1 (eI.of h1)).elim
  | state k1 k2=>obtain rfl:=n4 hR hQ h (eI.of h1) k1;rw[h2,h3]at k2;simp at k2
  | range _ _ _ k4=>rw[h4]at k4;cases k4
  | ok e1 k1 _ _ _=>subst e1;obtain rfl:=n4 hR hQ h (eI.of h1) (eI.of k1);exact⟨rfl,sW h hR⟩
def sX (R:Tr) (c:Nm) (f:Int):Prop:=f<0∨np<f∨∃x∈lks R c,x.un= -1∨f<x.un
def vd (R:Tr) (c p:Nm):Prop:=∃n,bW (fun x=>aY R x∨x=c∨x=p) n∧(24<n∨64≤(lks R c).length)
theorem AttS.cls {isN:Nm→Prop} (h:AttS isN R c p f R' e):(e=5∧R'=R∧¬(isN c∧isN p))∨(e=17∧R'=R∧(isN c∧isN p)∧sX R c f)∨(e=15∧R'=R∧(isN c∧isN p)∧¬sX R c f∧vd R c p)∨
  (e=19∧R'=R∧(isN c∧isN p)∧¬sX R c f∧¬vd R c p∧Cyc R c p f)∨(e=0∧R'=mw R c p f∧(isN c∧isN p)∧¬sX R c f∧¬vd R c p∧¬Cyc R c p f):=by
 have hT:0≤f→f≤np→pS R c→(∀x∈lks R c,x.un≤f)→¬sX R c f:=fun h0 h1 h2 h3 ht=>by
  rcases ht with ht | ht | ⟨x,hx,ht | ht⟩
  ·omega
  ·omega
  ·obtain⟨i,hi,e⟩:=List.getElem_of_mem (cA.1 hx);exact h2 i (c,x) (by rw[List.getElem?_eq_getElem hi,e]) ⟨rfl,ht⟩
  ·have:=h3 x hx;omega
 have hF:∀n,bW (fun x=>aY R x∨x=c∨x=p) n→n≤24∧(lks R c).length<64→¬vd R c p:=fun n hn hf ⟨m,hm,hg⟩=>by
  have:=bW.uniq hn hm;omega
 cases h with
 | name h=>exact .inl ⟨rfl,rfl,h⟩
 | time h ht=>
  refine .inr (.inl ⟨rfl,rfl,h,?_⟩);rcases ht with ht | ht | ⟨k,x,ht⟩ | ⟨x,hx,ht⟩
  ·exact .inl ht
  ·exact .inr (.inl ht)
  ·exact .inr (.inr ⟨x,cA.2 (List.mem_of_getElem? ht.1),.inl ht.2⟩)
  ·exact .inr (.inr ⟨x,hx,.inr ht⟩)
 | full h h0 h1 h2 h3 n hn hf=>exact .inr (.inr (.inl ⟨rfl,rfl,h,hT h0 h1 h2 h3,n,hn,hf⟩))
 | cycle h h0 h1 h2 h3 n hn hf hc=>exact .inr (.inr (.inr (.inl ⟨rfl,rfl,h,hT h0 h1 h2 h3,hF n hn hf,hc⟩)))
 | ok h h0 h1 h2 h3 n hn hf hc=>exact .inr (.inr (.inr (.inr ⟨rfl,rfl,h,hT h0 h1 h2 h3,hF n hn hf,hc⟩)))
theorem AttS.uniq {isN:Nm→Prop} (h:REq R Q) (d:AttS isN R c p f R' e) (d':AttS isN Q c p f Q' e'):e=e'∧REq R' Q':=by
 have hT:sX R c f↔sX Q c f:=by unfold sX;rw[h c]
 have hF:vd R c p↔vd Q c p:=by unfold vd;rw[h c];simp only[h.known]
 have hC:Cyc R c p f↔Cyc Q c p f:=h.cyc;have ha:REq (mw R c p f) (mw Q c p f):=fun y=>by rw[jo,jo,h y]
 have d1:=d.cls;have d2:=d'.cls;rw[hT,hF,hC]at d1;generalize sX Q c f=T at *;generalize vd Q c p=F at *;generalize Cyc Q c p f=C at *;generalize (isN c∧isN p)=N at *;rcases d1 with⟨rfl,rfl,a1⟩ | ⟨rfl,rfl,a1,a2⟩ | ⟨rfl,rfl,a1,a2,a3⟩ | ⟨rfl,rfl,a1,a2,a3,a4⟩ | ⟨rfl,rfl,a1,a2,a3,a4⟩<;>
 rcases d2 with⟨rfl,rfl,b1⟩ | ⟨rfl,rfl,b1,b2⟩ | ⟨rfl,rfl,b1,b2,b3⟩ | ⟨rfl,rfl,b1,b2,b3,b4⟩ | ⟨rfl,rfl,b1,b2,b3,b4⟩<;>
 first
  | exact⟨rfl,h⟩
  | exact⟨rfl,ha⟩
  | (exfalso;contradiction)
theorem DoS.uniq {s:Ax} (hR:TOk R) (hQ:TOk Q) (h:REq R Q) (d:DoS R s R' e) (d':DoS Q s Q' e'):e=e'∧REq R' Q':=by
 unfold DoS at d d';split at d
 ·rename_i h1;rw[if_pos h1]at d';exact d.uniq hR hQ h d'
 ·rename_i h1;rw[if_neg h1]at d';split at d
  ·rename_i h2;rw[if_pos h2]at d';exact d.uniq hR h d'
  ·rename_i h2;rw[if_neg h2]at d';split at d
   ·rename_i h3;rw[if_pos h3]at d';exact d.uniq hR hQ h d'
   ·rename_i h3;rw[if_neg h3]at d';exact d.uniq h d'
end
end Go.Proofs.YtggfmklppkioeaaGreat
namespace Go.Proofs.YtggfmklppkioeaaGreat
set_option linter.unusedSimpArgs false
set_option linter.unusedVariables false
set_option maxRecDepth 100000
open Go.RowKit Go.Sort Go.Shelf
def Tryz.sortI_ren:Go.Shelf.Ren:=⟨fun | 5=>109 | 8=>174 | 7=>173 | 19=>232 | 20=>233 | 10=>223 | 11=>224 | 12=>225 | 13=>226 | 14=>227 | 15=>228 | 16=>229 | 17=>230 | 18=>231 | 30=>273 | 31=>274 | 32=>275 | 33=>276 | 34=>277 | 35=>278 | 40=>300 | n=>n,fun | 23=>171 | 25=>3 | 3=>3 | 32=>234 | 22=>171 | 0=>0 | 44=>237 | 46=>178 | 4=>4 | 36=>273 | 35=>272 | 41=>277 | 5=>5 | 9=>9 | 53=>299 | 57=>303 | 63=>309 | 64=>310 | n=>n,fun | n=>n⟩
theorem Tryz.sortI:Go.Proofs.SlLaysM.n5 Tryz.prog Tryz.sortI_ren:= {
 mixed:=by kernel_rfl
 f5:=⟨Tryz.f109.name,by decide,Tryz.func109.trans (congrArg some (by kernel_rfl))⟩
 f7:=⟨Tryz.f173.name,by decide,Tryz.func173.trans (congrArg some (by kernel_rfl))⟩
 f8:=Tryz.func174.trans (congrArg some (by kernel_rfl))
 f10:=⟨Tryz.f223.name,by decide,Tryz.func223.trans (congrArg some (by kernel_rfl))⟩
 f11:=⟨Tryz.f224.name,by decide,Tryz.func224.trans (congrArg some (by kernel_rfl))⟩
 f12:=⟨Tryz.f225.name,by decide,Tryz.func225.trans (congrArg some (by kernel_rfl))⟩
 f13:=⟨Tryz.f226.name,by decide,Tryz.func226.trans (congrArg some (by kernel_rfl))⟩
 f14:=⟨Tryz.f227.name,by decide,Tryz.func227.trans (congrArg some (by kernel_rfl))⟩
 f15:=⟨Tryz.f228.name,by decide,Tryz.func228.trans (congrArg some (by kernel_rfl))⟩
 f16:=⟨Tryz.f229.name,by decide,Tryz.func229.trans (congrArg some (by kernel_rfl))⟩
 f17:=⟨Tryz.f230.name,by decide,Tryz.func230.trans (congrArg some (by kernel_rfl))⟩
 f18:=⟨Tryz.f231.name,by decide,Tryz.func231.trans (congrArg some (by kernel_rfl))⟩
 f19:=Tryz.func232.trans (congrArg some (by kernel_rfl))
 f20:=Tryz.func233.trans (congrArg some (by kernel_rfl))
 f30:=⟨Tryz.f273.name,by decide,Tryz.func273.trans (congrArg some (by kernel_rfl))⟩
 f31:=Tryz.func274.trans (congrArg some (by kernel_rfl))
 f32:=Tryz.func275.trans (congrArg some (by kernel_rfl))
 f33:=⟨Tryz.f276.name,by decide,Tryz.func276.trans (congrArg some (by kernel_rfl))⟩
 f34:=⟨Tryz.f277.name,by decide,Tryz.func277.trans (congrArg some (by kernel_rfl))⟩
 f35:=⟨Tryz.f278.name,by decide,Tryz.func278.trans (congrArg some (by kernel_rfl))⟩
 f40:=⟨Tryz.f300.name,by decide,Tryz.func300.trans (congrArg some (by kernel_rfl))⟩
 t0:=Tryz.underlying0
 a0:=Tryz.isAgg0
 z0:=Tryz.sizeOf0
 v0:=Tryz.zeroValue0
 t3:=Tryz.underlying3
 a3:=Tryz.isAgg3
 z3:=Tryz.sizeOf3
 v3:=Tryz.zeroValue3
 t4:=Tryz.underlying4
 a4:=Tryz.isAgg4
 z4:=Tryz.sizeOf4
 v4:=Tryz.zeroValue4
 t5:=Tryz.underlying5
 a5:=Tryz.isAgg5
 z5:=Tryz.sizeOf5
 v5:=Tryz.zeroValue5
 t9:=Tryz.underlying9
 a9:=Tryz.isAgg9
 z9:=Tryz.sizeOf9
 v9:=Tryz.zeroValue9
 t22:=Tryz.underlying171
 a22:=Tryz.isAgg171
 z22:=Tryz.sizeOf171
 v22:=Tryz.zeroValue171
 t23:=Tryz.underlying171
 a23:=Tryz.isAgg171
 z23:=Tryz.sizeOf171
 v23:=Tryz.zeroValue171
 t25:=Tryz.underlying3
 a25:=Tryz.isAgg3
 z25:=Tryz.sizeOf3
 v25:=Tryz.zeroValue3
 t32:=Tryz.underlying234
 a32:=Tryz.isAgg234
 z32:=Tryz.sizeOf234
 v32:=Tryz.zeroValue234
 t35:=Tryz.underlying272
 a35:=Tryz.isAgg272
 z35:=Tryz.sizeOf272
 v35:=Tryz.zeroValue272
 t36:=Tryz.underlying273
 a36:=Tryz.isAgg273
 z36:=Tryz.sizeOf273
 v36:=Tryz.zeroValue273
 t41:=Tryz.underlying277
 a41:=Tryz.isAgg277
 z41:=Tryz.sizeOf277
 v41:=Tryz.zeroValue277
 t44:=Tryz.underlying237
 a44:=Tryz.isAgg237
 z44:=Tryz.sizeOf237
 v44:=Tryz.zeroValue237
 t46:=Tryz.underlying178
 a46:=Tryz.isAgg178
 z46:=Tryz.sizeOf178
 v46:=Tryz.zeroValue178
 t53:=Tryz.underlying299
 a53:=Tryz.isAgg299
 z53:=Tryz.sizeOf299
 v53:=Tryz.zeroValue299
 t57:=Tryz.underlying303
 a57:=Tryz.isAgg303
 z57:=Tryz.sizeOf303
 v57:=Tryz.zeroValue303
 t63:=Tryz.underlying309
 a63:=Tryz.isAgg309
 z63:=Tryz.sizeOf309
 v63:=Tryz.zeroValue309
 t64:=Tryz.underlying310
 a64:=Tryz.isAgg310
 z64:=Tryz.sizeOf310
 v64:=Tryz.zeroValue310}
def Tryz.cmpI_ren:Go.Shelf.Ren:=⟨fun | 20=>111 | n=>n,fun | 22=>171 | 3=>3 | 4=>4 | 0=>0 | n=>n,fun | n=>n⟩
theorem Tryz.cmpI:Go.Proofs.Lays2.n20 Tryz.prog Tryz.cmpI_ren:= {
 mixed:=by kernel_rfl
 f20:=Tryz.func111.trans (congrArg some (by kernel_rfl))
 t0:=Tryz.underlying0
 a0:=Tryz.isAgg0
 z0:=Tryz.sizeOf0
 v0:=Tryz.zeroValue0
 t3:=Tryz.underlying3
 a3:=Tryz.isAgg3
 z3:=Tryz.sizeOf3
 v3:=Tryz.zeroValue3
 t4:=Tryz.underlying4
 a4:=Tryz.isAgg4
 z4:=Tryz.sizeOf4
 v4:=Tryz.zeroValue4
 t22:=Tryz.underlying171
 a22:=Tryz.isAgg171
 z22:=Tryz.sizeOf171
 v22:=Tryz.zeroValue171
 i3:=by kernel_rfl}
abbrev IntsAt (w:World) (b:Nat) (v:Value) (xs:List Int):Prop:=w.ownsRow b 3 1 v xs.length (xs.map (Value.int .i64))
end Go.Proofs.YtggfmklppkioeaaGreat
namespace Go.Proofs.YtggfmklppkioeaaGreat
set_option linter.unusedSimpArgs false
set_option linter.unusedVariables false
set_option maxRecDepth 100000
open Go.RowKit
open Classical
structure EndS (W5 wr:World) (g:Nat) (v:Value) (xs:List Int):Prop where
 row:IntsAt wr g v xs
 kb:Kb W5.heap.size g W5 wr
 own:∀k,v.ownBlock=some k→W5.heap.size≤k∨k=g
theorem EndS.below {W5 wr w':World} {g:Nat} {v:Value} {xs:List Int} (h:EndS W5 wr g v xs) (hb:Below wr.heap.size wr w'):EndS W5 w' g v xs:=
 ⟨i7 h.row (fun k hk=>hb.block k (nH h.row hk).2),h.kb.trans (Kb.below (hb.mono h.kb.size)),h.own⟩
theorem EndS.alloc {W5 wr:World} {g:Nat} {v:Value} {xs:List Int} (h:EndS W5 wr g v xs) (o:Obj):EndS W5 (wr.alloc o) g v xs:=h.below ((Below.refl _ _).alloc (Nat.le_refl _) o)
theorem EndS.grown {W5 wr w':World} {g:Nat} {v v':Value} {xs ys:List Int} (h:EndS W5 wr g v xs) (hg:wr.grownBy w' v.ownBlock) (hr:IntsAt w' g v' ys) (ho:v'.ownBlock=v.ownBlock∨v'.ownBlock=some wr.heap.size):EndS W5 w' g v' ys:=
 ⟨hr,h.kb.grown hg h.kb.size h.own,fun k hk=>by
  rcases ho with e | e
  ·exact h.own k (e▸hk)
  ·rw[e]at hk;injection hk with hk;subst hk;exact .inl h.kb.size⟩
theorem EndS.app {W5 wr:World} {g:Nat} {v:Value} {xs:List Int} {ty:TypeId} (x:Int) (h:EndS W5 wr g v xs) (hb:g≤wr.heap.size) (hl:xs.length≤100000):
  ∃v' w',(Builtin.append_ #[171,171] ty #[v,.slice (some ⟨wr.heap.size,0,none⟩) 1 1]).run Tryz.prog (wr.alloc (.cells #[.int .i64 x] 3))= .ok v' w'∧EndS W5 w' g v' (xs++ [x])∧∀B,B<wr.heap.size→v.ownBlock≠some B→w'.heap[B]? =wr.heap[B]? ∧v'.ownBlock≠some B:=by
 have hmx:(1000000:Nat)≤maxLen:=by unfold maxLen;omega
 obtain⟨i0,hi,hz0,hz1,hz2⟩:=info_parts (show(Tryz.prog.info? 3).map (fun i=>(i.zero,i.size,i.bytes))=some (some (.int .i64 0),1,8)by kernel_rfl);have h2:=h.alloc (.cells #[.int .i64 x] 3);obtain⟨v',w',k1,k2,k3,_,k5⟩:=run_append_own_at (P:=Tryz.prog) (w:=wr.alloc (.cells #[.int .i64 x] 3)) g 171 ty 3 i0 (.int .i64 0) 1 8 Tryz.underlying171 hi hz0 hz1 hz2 rfl (by decide) v xs.length (xs.map (Value.int .i64)) h2.row ⟨wr.heap.size,0,none⟩ 1 1 [.int .i64 x] (by simp) (fun j u hu=>by
  rw[du,Nat.zero_add,aA (heap_alloc_new wr _)]
  cases j with
  | zero=>simpa using hu
  | succ j=>simp at hu) (fun u hu=>by simp only[List.mem_singleton]at hu;subst hu;rfl) (by omega) (by omega) (by rw[asz];omega)
 refine⟨v',w',k1,h2.grown k3 ?_ k5,fun B hB hn=>⟨?_,fun e=> ?_⟩⟩
 ·show w'.ownsRow g 3 1 v' (xs++ [x]).length ((xs++ [x]).map (Value.int .i64));rw[List.length_append,List.map_append];exact k2
 ·rw[k3.block B (by rw[asz];omega) (fun e=>hn e.symm)];exact heap_alloc_old _ _ hB
 ·rcases k5 with e2 | e2
  ·exact hn (e2▸e)
  ·rw[e2,asz]at e;injection e with e;omega
structure RdS (W5 wc:World) (g B:Nat) (v:Value) (xs:List Int) (q:Nm×Lk):Prop where
 es:EndS W5 wc g v xs
 lk:wc.heap[B]? =some (.cells #[.string q.1,.string q.2.par,.int .i64 q.2.fr,.int .i64 q.2.un] 76 (0,0))
 nb:v.ownBlock≠some B
theorem RdS.lt {W5 wc:World} {g B:Nat} {v:Value} {xs:List Int} {q:Nm×Lk} (h:RdS W5 wc g B v xs q):B<wc.heap.size:=(Array.getElem?_eq_some_iff.1 h.lk).1
theorem RdS.below {W5 wc w':World} {g B:Nat} {v:Value} {xs:List Int} {q:Nm×Lk} (h:RdS W5 wc g B v xs q) (k:Below wc.heap.size wc w'):RdS W5 w' g B v xs q:=
 ⟨h.es.below k,(k.block B h.lt).trans h.lk,h.nb⟩
theorem RdS.app {W5 wc:World} {g B:Nat} {v:Value} {xs:List Int} {q:Nm×Lk} {ty:TypeId} (x:Int) (h:RdS W5 wc g B v xs q) (hb:g≤wc.heap.size) (hl:xs.length≤100000):
  ∃v' w',(Builtin.append_ #[171,171] ty #[v,.slice (some ⟨wc.heap.size,0,none⟩) 1 1]).run Tryz.prog (wc.alloc (.cells #[.int .i64 x] 3))= .ok v' w'∧RdS W5 w' g B v' (xs++ [x]) q:=by
 obtain⟨v',w',h1,h2,h3⟩:=h.es.app (ty:=ty) x hb hl;exact⟨v',w',h1,h2,(h3 B h.lt h.nb).1.trans h.lk,(h3 B h.lt h.nb).2⟩
theorem RdS.c0 {W5 wc:World} {g B:Nat} {v:Value} {xs:List Int} {q:Nm×Lk} (h:RdS W5 wc g B v xs q):wc.cell? ⟨B,0,none⟩=some (.string q.1)∧wc.cell? ⟨B,2,none⟩=some (.int .i64 q.2.fr)∧wc.cell? ⟨B,3,none⟩=some (.int .i64 q.2.un):=
 ⟨by rw[aA h.lk];rfl,by rw[aA h.lk];rfl,by rw[aA h.lk];rfl⟩
abbrev lkW (wr:World) (q:Nm×Lk):World:=(wr.alloc (.cells #[.string ⟨#[]⟩,.string ⟨#[]⟩,.int .i64 0,.int .i64 0] 76)).setCells wr.heap.size 0 (lkCs q)
theorem RdS.start {W5 wr:World} {g:Nat} {v:Value} {xs:List Int} (q:Nm×Lk) (h:EndS W5 wr g v xs):RdS W5 (lkW wr q) g wr.heap.size v xs q where
 es:=h.below (aV _ 0 _ ((Below.refl _ _).alloc (Nat.le_refl _) _) (Nat.le_refl _))
 lk:=by
  unfold lkW;rw[cZ (lkCs q) _ wr.heap.size 0 _ _ (heap_alloc_new wr _),g7 (by simp[lkCs])];rfl
 nb:=fun e=>by have:=(nH h.row e).2;omega
end Go.Proofs.YtggfmklppkioeaaGreat
namespace Go.Proofs.YtggfmklppkioeaaGreat
set_option linter.unusedSimpArgs false
set_option linter.unusedVariables false
set_option maxRecDepth 100000
open Go.RowKit
def VR.add (a b:VR):VR:=⟨a.x+b.x,a.y+b.y,a.z+b.z⟩
def VR.sub (a b:VR):VR:=⟨a.x - b.x,a.y - b.y,a.z - b.z⟩
theorem VR.app_add (q:QR) (u v:VR):q.app (u.add v)=(q.app u).add (q.app v):=by unfold QR.app QR.rot VR.add VR.smul;ext<;>simp only<;>grind
section
variable {p q:Qq} {x y v u:Vq} {a b c:Pq}
theorem add_r (hx:x.good) (hy:y.good):(x.add y).r=x.r.add y.r:=by
 have h:=eL hx hy;unfold VR.add Vq.r;ext<;>simp only[h]
theorem r_add (h:q.good) (hx:x.good) (hy:y.good):q.app (x.add y)=(q.app x).add (q.app y):=
 Vq.inj_r (bd h (hx.add hy)) ((bd h hx).add (bd h hy)) (by
  rw[nR h (hx.add hy),add_r hx hy,VR.app_add,add_r (bd h hx) (bd h hy),nR h hx,nR h hy])
theorem r_id (hx:x.good):Qq.id.app x=x:=Vq.inj_r (bd dN hx) hx (by rw[nR dN hx,zw,app_one])
theorem v_opp (hx:x.good):x.add (x.scale (Fq.ofInt (-1)))=Vq.of 0 0 0:=by
 have h1:=dL hx (aD (-1));have h2:=eL hx (hx.scale (aD (-1)));have h3:=of_v 0 0 0;have h4:=cn (-1);exact Vq.inj (hx.add (hx.scale (aD _))) (Vq.good.of 0 0 0) (by grind) (by grind) (by grind)
theorem r_zero (h:q.good):q.app (Vq.of 0 0 0)=Vq.of 0 0 0:=by
 have g:=Vq.good.of 0 0 0;have h1:=r_add h g g;rw[wn g]at h1;have h2:=s_back (bd h g) (bd h g);rw[←h1]at h2;have h3:=sub_v (bd h g) (bd h g);have h4:=of_v 0 0 0;rw[←h2];exact Vq.inj ((bd h g).sub (bd h g)) g (by grind) (by grind) (by grind)
theorem r_forth (h:q.good) (hx:x.good):q.app (q.inv.app x)=x:=by rw[←r_mul h (aT h) hx,g_inv h,r_id hx]
theorem s_zero' (hx:x.good):(Vq.of 0 0 0).add x=x:=by rw[s_comm (Vq.good.of 0 0 0) hx,wn hx]
theorem Pq.ext' (h:a.rot=b.rot) (k:a.pos=b.pos):a=b:=by cases a;cases b;simp only at h k;subst h;subst k;rfl
theorem conj_m (a:QR) (h:a.nrm≠0):Sim QR.one (a.conj.mul a):=⟨a.nrm,h,by unfold QR.mul QR.conj QR.one QR.smul QR.nrm;ext<;>simp only<;>grind⟩
theorem g_inv' (h:q.good):q.inv.mul q=Qq.id:=by
 refine gE (bG (aT h) h) dN ?_;have h1:=(er (aT h) h).symm.trans (((sa h).symm).mul (Sim.refl q.r));rw[zw];exact h1.trans (conj_m q.r (cV h)).symm
theorem o_act (ga:a.good) (gb:b.good) (gv:v.good):(a.mul b).app v=a.app (b.app v):=by
 show((a.rot.mul b.rot).app v).add ((a.rot.app b.pos).add a.pos)=(a.rot.app ((b.rot.app v).add b.pos)).add a.pos;rw[r_mul ga.rot gb.rot gv,r_add ga.rot (bd gb.rot gv) gb.pos,s_assoc (bd ga.rot (bd gb.rot gv)) (bd ga.rot gb.pos) ga.pos]
theorem eX (ga:a.good) (gb:b.good) (gc:c.good):(a.mul b).mul c=a.mul (b.mul c):=
 Pq.ext' (g_assoc ga.rot gb.rot gc.rot) (o_act ga gb gc.pos)
theorem o_idv (gv:v.good):Pq.id.app v=v:=by
 show(Qq.id.app v).add (Vq.of 0 0 0)=v;rw[r_id gv,wn gv]
theorem ve (ga:a.good):a.mul Pq.id=a:=Pq.ext' (g_one ga.rot) (by
 show(a.rot.app (Vq.of 0 0 0)).add a.pos=a.pos;rw[r_zero ga.rot,s_zero' ga.pos])
theorem nJ (ga:a.good):Pq.id.mul a=a:=Pq.ext' (g_one' ga.rot) (o_idv ga.pos)
theorem ro (ga:a.good):a.mul a.inv=Pq.id:=Pq.ext' (g_inv ga.rot) (by
 show(a.rot.app (a.rot.inv.app (a.pos.scale (Fq.ofInt (-1))))).add a.pos=Vq.of 0 0 0;have g:=ga.pos.scale (aD (-1));rw[r_forth ga.rot g,s_comm g ga.pos,v_opp ga.pos])
theorem qh (ga:a.good):a.inv.mul a=Pq.id:=Pq.ext' (g_inv' ga.rot) (by
 show(a.rot.inv.app a.pos).add (a.rot.inv.app (a.pos.scale (Fq.ofInt (-1))))=Vq.of 0 0 0;have g:=ga.pos.scale (aD (-1));have gi:=aT ga.rot;rw[←r_add gi ga.pos g,v_opp ga.pos,r_zero gi])
end
end Go.Proofs.YtggfmklppkioeaaGreat
namespace Go.Proofs.YtggfmklppkioeaaGreat
set_option linter.unusedSimpArgs false
set_option linter.unusedVariables false
set_option maxRecDepth 100000
open Go.RowKit
open Classical
def sh (x y z:Int):Pq:=⟨Qq.id,Vq.of x y z⟩
theorem sh_good (x y z:Int):(sh x y z).good:=⟨dN,Vq.good.of x y z⟩
theorem sh_ok {x y z:Int} (hx: -1000000≤x∧x≤1000000) (hy: -1000000≤y∧y≤1000000) (hz: -1000000≤z∧z≤1000000):(sh x y z).ok 2:=
 ⟨py,⟨aL (by omega) (by omega),aL (by omega) (by omega),aL (by omega) (by omega)⟩⟩
theorem vg {S:List St} {a:Int} {p:Pq} (g:p.good):qz S (St.mk a p).raw=sK S ⟨a,p⟩:=by
 have h:∃s:St,(St.mk a p).raw=s.raw∧s.pose.good:=⟨⟨a,p⟩,rfl,g⟩;unfold qz;rw[dif_pos h];have h1:=h.choose_spec.1;generalize h.choose=s at *;obtain⟨b,q⟩:=s;have e1:=uS h1;have e2:a=b:=by simp only[St.raw,RSt.mk.injEq]at h1;exact h1.1
 rw[e1,e2]
abbrev nC:Nm:=nm1 99
abbrev awS:List St:=[⟨0,sh 1 0 0⟩,⟨10,sh 3 0 0⟩]
abbrev awB:Lk:=⟨nA,0, -1,false,Pq.zero,awS⟩
abbrev awC:Lk:=⟨nA,5, -1,true,sh 0 1 0,[]⟩
end Go.Proofs.YtggfmklppkioeaaGreat
namespace Go.Proofs.YtggfmklppkioeaaGreat
set_option linter.unusedSimpArgs false
set_option linter.unusedVariables false
set_option maxRecDepth 100000
open Go.RowKit
theorem q_fFormat (va:Value) (x:Fq) (w:World) (ha:IsQ w va x) (h:x.ok 1000000000):
  Calls Tryz.prog 73 #[va] w fun e w'=>cN w (.string x.fmt) e w':=by
 by_cases c0:x.q=1
 ·rcases Bool.eq_false_or_eq_true (x.s)with c1 | c1
  ·have z1:=dp x.p;have z2:=dp x.q;have z3:=h.p;have z4:=h.q;refine(cRn (ρ:=[.dig (nl x.p) x.p,.dig (nl x.q) x.q,.val (.string (cG x.p)),.row 31 1 [.dig (nl x.q) x.q],.val (.string ((ByteArray.mk #[45])++(cG x.p)))]) (args:=[.agg [.b true,.ref 0,.ref 1]]) (vs:=[va]) (r:=.v (.one (.ref 4)))
    (ae (mW (i:=0) rfl (ls (n:=2) rfl) (Nat.le_trans h.p (by decide))) (ae (jH (n:=3) rfl (decide_eq_true c0) (Nat.le_trans h.q (by decide))) ah))
    (af (gT (m:=3) (ss:=[nt 1]) (N:=1) (sz:=1) (z:=[.sl0]) (qs:=[.dig (nl x.q) x.q]) (ix:=[0]) (ls:=[.ref 1]) Tryz.underlying251 (by kernel_rfl) (by kernel_rfl) (by decide) (by decide) (by decide) rfl (by kernel_rfl) ⟨bJ rfl,trivial⟩ rfl) (af (oA (n:=2) (m:=4) (s:=(ByteArray.mk #[45])) (z:=(cG x.p)) (t:=9) (by kernel_rfl) rfl rfl (by simp only[ByteArray.size_append,bsz,List.size_toArray,List.length_cons,List.length_nil];omega)) (ai))) Tryz.func73 (by kernel_rfl) ⟨(inF ha (lb c1) rfl rfl),trivial⟩).mono ?_
   rintro e w' ⟨v,rfl,h1,h2⟩;have h1:=(aZ rfl h1);subst h1;exact⟨by unfold Fq.fmt;simp[ByteArray.append_assoc,c0,c1],h2⟩
  ·have z1:=dp x.p;have z2:=dp x.q;have z3:=h.p;have z4:=h.q;refine(cRn (ρ:=[.dig (nl x.p) x.p,.dig (nl x.q) x.q,.val (.string (cG x.p)),.row 31 1 [.dig (nl x.q) x.q]]) (args:=[.agg [.b false,.ref 0,.ref 1]]) (vs:=[va]) (r:=.v (.one (.ref 2)))
    (ae (mW (i:=0) rfl (ls (n:=2) rfl) (Nat.le_trans h.p (by decide))) (ae (jH (n:=3) rfl (decide_eq_true c0) (Nat.le_trans h.q (by decide))) ah))
    (af (gT (m:=3) (ss:=[nt 1]) (N:=1) (sz:=1) (z:=[.sl0]) (qs:=[.dig (nl x.q) x.q]) (ix:=[0]) (ls:=[.ref 1]) Tryz.underlying251 (by kernel_rfl) (by kernel_rfl) (by decide) (by decide) (by decide) rfl (by kernel_rfl) ⟨bJ rfl,trivial⟩ rfl) (ai)) Tryz.func73 (by kernel_rfl) ⟨(inF ha (lb c1) rfl rfl),trivial⟩).mono ?_
   rintro e w' ⟨v,rfl,h1,h2⟩;have h1:=(aZ rfl h1);subst h1;exact⟨by unfold Fq.fmt;simp[ByteArray.append_assoc,c0,c1],h2⟩
 ·rcases Bool.eq_false_or_eq_true (x.s)with c1 | c1
  ·have z1:=dp x.p;have z2:=dp x.q;have z3:=h.p;have z4:=h.q;refine(cRn (ρ:=[.dig (nl x.p) x.p,.dig (nl x.q) x.q,.val (.string (cG x.p)),.row 31 1 [.dig (nl x.q) x.q],.val (.string (cG x.q)),.val (.string ((ByteArray.mk #[47])++(cG x.q))),.val (.string ((cG x.p)++((ByteArray.mk #[47])++(cG x.q)))),.val (.string ((ByteArray.mk #[45])++((cG x.p)++((ByteArray.mk #[47])++(cG x.q)))))]) (args:=[.agg [.b true,.ref 0,.ref 1]]) (vs:=[va]) (r:=.v (.one (.ref 7)))
    (ae (mW (i:=0) rfl (ls (n:=2) rfl) (Nat.le_trans h.p (by decide))) (ae (jH (n:=3) rfl (decide_eq_false c0) (Nat.le_trans h.q (by decide))) (ae (mW (i:=1) rfl (ls (n:=4) rfl) (Nat.le_trans h.q (by decide))) ah)))
    (af (gT (m:=3) (ss:=[nt 1]) (N:=1) (sz:=1) (z:=[.sl0]) (qs:=[.dig (nl x.q) x.q]) (ix:=[0]) (ls:=[.ref 1]) Tryz.underlying251 (by kernel_rfl) (by kernel_rfl) (by decide) (by decide) (by decide) rfl (by kernel_rfl) ⟨bJ rfl,trivial⟩ rfl) (af (oA (n:=4) (m:=5) (s:=(ByteArray.mk #[47])) (z:=(cG x.q)) (t:=9) (by kernel_rfl) rfl rfl (by simp only[ByteArray.size_append,bsz,List.size_toArray,List.length_cons,List.length_nil];omega)) (af (ya (n:=2) (m:=6) (k:=5) (s:=(cG x.p)) (z:=((ByteArray.mk #[47])++(cG x.q))) (t:=9) (by kernel_rfl) rfl rfl rfl (by simp only[ByteArray.size_append,bsz,List.size_toArray,List.length_cons,List.length_nil];omega)) (af (oA (n:=6) (m:=7) (s:=(ByteArray.mk #[45])) (z:=((cG x.p)++((ByteArray.mk #[47])++(cG x.q)))) (t:=9) (by kernel_rfl) rfl rfl (by simp only[ByteArray.size_append,bsz,List.size_toArray,List.length_cons,List.length_nil];omega)) (ai))))) Tryz.func73 (by kernel_rfl) ⟨(inF ha (lb c1) rfl rfl),trivial⟩).mono ?_
   rintro e w' ⟨v,rfl,h1,h2⟩;have h1:=(aZ rfl h1);subst h1;exact⟨by unfold Fq.fmt;simp[ByteArray.append_assoc,c0,c1],h2⟩
  ·have z1:=dp x.p;have z2:=dp x.q;have z3:=h.p;have z4:=h.q;refine(cRn (ρ:=[.dig (nl x.p) x.p,.dig (nl x.q) x.q,.val (.string (cG x.p)),.row 31 1 [.dig (nl x.q) x.q],.val (.string (cG x.q)),.val (.string ((ByteArray.mk #[47])++(cG x.q))),.val (.string ((cG x.p)++((ByteArray.mk #[47])++(cG x.q))))]) (args:=[.agg [.b false,.ref 0,.ref 1]]) (vs:=[va]) (r:=.v (.one (.ref 6)))
    (ae (mW (i:=0) rfl (ls (n:=2) rfl) (Nat.le_trans h.p (by decide))) (ae (jH (n:=3) rfl (decide_eq_false c0) (Nat.le_trans h.q (by decide))) (ae (mW (i:=1) rfl (ls (n:=4) rfl) (Nat.le_trans h.q (by decide))) ah)))
    (af (gT (m:=3) (ss:=[nt 1]) (N:=1) (sz:=1) (z:=[.sl0]) (qs:=[.dig (nl x.q) x.q]) (ix:=[0]) (ls:=[.ref 1]) Tryz.underlying251 (by kernel_rfl) (by kernel_rfl) (by decide) (by decide) (by decide) rfl (by kernel_rfl) ⟨bJ rfl,trivial⟩ rfl) (af (oA (n:=4) (m:=5) (s:=(ByteArray.mk #[47])) (z:=(cG x.q)) (t:=9) (by kernel_rfl) rfl rfl (by simp only[ByteArray.size_append,bsz,List.size_toArray,List.length_cons,List.length_nil];omega)) (af (ya (n:=2) (m:=6) (k:=5) (s:=(cG x.p)) (z:=((ByteArray.mk #[47])++(cG x.q))) (t:=9) (by kernel_rfl) rfl rfl rfl (by simp only[ByteArray.size_append,bsz,List.size_toArray,List.length_cons,List.length_nil];omega)) (ai)))) Tryz.func73 (by kernel_rfl) ⟨(inF ha (lb c1) rfl rfl),trivial⟩).mono ?_
   rintro e w' ⟨v,rfl,h1,h2⟩;have h1:=(aZ rfl h1);subst h1;exact⟨by unfold Fq.fmt;simp[ByteArray.append_assoc,c0,c1],h2⟩
end Go.Proofs.YtggfmklppkioeaaGreat
namespace Go.Proofs.YtggfmklppkioeaaGreat
set_option linter.unusedSimpArgs false
set_option linter.unusedVariables false
set_option maxRecDepth 100000
open Go.RowKit
open Classical
def Nms (w:World) (v:Value) (L:List Nm):Prop:=∃ad cap,v= .slice ad L.length cap∧∀(k:Nat) (x:Nm),L[k]? =some x→∃b o,ad=some ⟨b,o,none⟩∧b<w.heap.size∧w.cell? ⟨b,o+k,none⟩=some (.string x)
theorem Nms.below {w w':World} {v:Value} {L:List Nm} (h:Nms w v L) (k:Below w.heap.size w w'):Nms w' v L:=by
 obtain⟨ad,cap,rfl,hc⟩:=h;refine⟨ad,cap,rfl,fun i x hx=> ?_⟩;obtain⟨b,o,e,hb,hx⟩:=hc i x hx;exact⟨b,o,e,Nat.lt_of_lt_of_le hb k.size,by rw[k.cell (p:=⟨b,_,none⟩) hb];exact hx⟩
end Go.Proofs.YtggfmklppkioeaaGreat
namespace Go.Proofs.YtggfmklppkioeaaGreat
set_option linter.unusedSimpArgs false
set_option linter.unusedVariables false
set_option maxRecDepth 100000
open Go.RowKit
def vh (x y z:Int):List Fq:=[(Fq.ofInt x),(Fq.ofInt y),(Fq.ofInt z)]
theorem q_fOfK {w:World} (x y z:Int) (hx: -100000≤x∧x≤100000) (hy: -100000≤y∧y≤100000) (hz: -100000≤z∧z≤100000):
  Calls Tryz.prog 23 #[.int .i64 x,.int .i64 y,.int .i64 z] w fun e w'=>fO w (Vq.of x y z) e w':=by
 refine(rX (ρ:=frs (vh x y z)++([.val (.int .i64 x),.val (.int .i64 y),.val (.int .i64 z)]:List Vp)) (w:=w) (fuel:=300) (args:=[.one (.ref 9),.one (.ref 10),.one (.ref 11)]) (vs:=[.int .i64 x,.int .i64 y,.int .i64 z]) (r:=.v (row [0,1,2])) (lo:=[]) (obs:=[])
  (ae (sS (k:=0) (u:=x) (aw (n:=9) rfl) rfl (by omega) (by omega)) (ae (sS (k:=1) (u:=y) (aw (n:=10) rfl) rfl (by omega) (by omega)) (ae (sS (k:=2) (u:=z) (aw (n:=11) rfl) rfl (by omega) (by omega)) ah)))
  ai (by kernel_rfl) Tryz.func23 (by kernel_rfl) aU ⟨aH (n:=9) rfl (rY (by decide)),⟨aH (n:=10) rfl (rY (by decide)),⟨aH (n:=11) rfl (rY (by decide)),trivial⟩⟩⟩).mono ?_
 rintro e w' ⟨v,rfl,h1,h2⟩;exact⟨v,rfl,(ag (xs:=vh x y z) (ks:=[0,1,2]) (vs:=[(Fq.ofInt x),(Fq.ofInt y),(Fq.ofInt z)]) ⟨rfl,rfl,rfl,trivial⟩).1 h1,h2⟩
end Go.Proofs.YtggfmklppkioeaaGreat
namespace Go.Proofs.YtggfmklppkioeaaGreat
set_option linter.unusedSimpArgs false
set_option linter.unusedVariables false
set_option maxRecDepth 100000
open Go.RowKit
section
variable {p:Program} {ρ:Rho} {w0:Ent} {nt:Nat} {C:List Inst} {L:List OIns} {ops:Array Oper} {a:Act} {w:World}
def ja (ρ:Rho) (B:Blk) (w:World):List (Option AV)→List Value→Prop
 | [],_=>True
 | none::r,_::vs=>ja ρ B w r vs
 | some c::r,v::vs=>c.holds ρ B w v∧ja ρ B w r vs
 | _,_=>False
theorem ja.get {B:Blk}:∀ {k:List (Option AV)} {vs:List Value},ja ρ B w k vs→∀ {x:Nat} {c:AV},k[x]? =some (some c)→∃u,vs[x]? =some u∧c.holds ρ B w u
 | [],_,_,x,c,hx=>by cases hx
 | none::r,v::vs,h,0,c,hx=>by injection hx with hx;cases hx
 | none::r,v::vs,h,x+1,c,hx=>ja.get (k:=r) (vs:=vs) h (x:=x) hx
 | some c'::r,v::vs,h,0,c,hx=>by injection hx with hx;injection hx with hx;subst hx;exact⟨v,rfl,h.1⟩
 | some c'::r,v::vs,h,x+1,c,hx=>ja.get (k:=r) (vs:=vs) h.2 (x:=x) hx
theorem aB.at {B:Blk}:∀ {ls:List Leaf} {vs:List Value},aB ρ B w ls vs→∀ {j:Nat} {l:Leaf},ls[j]? =some l→∃u,vs[j]? =some u∧l.holds ρ B w u
 | [],[],_,j,l,hj=>by cases hj
 | l'::ls,v::vs,h,0,l,hj=>by injection hj with hj;subst hj;exact⟨v,rfl,h.1⟩
 | l'::ls,v::vs,h,j+1,l,hj=>aB.at (ls:=ls) (vs:=vs) h.2 (j:=j) hj
end
end Go.Proofs.YtggfmklppkioeaaGreat
namespace Go.Proofs.YtggfmklppkioeaaGreat
set_option linter.unusedSimpArgs false
set_option linter.unusedVariables false
set_option maxRecDepth 100000
open Go.RowKit Go.Shelf
open Classical
attribute [local go_sem] Oper.semAt_some
section
variable {n:Nat} {P:Program} {ops:Array Oper} {rest:List Oper} {op:Oper} {a:Act} {w w':World} {v:Value} {Q:Exit→Act→World→Prop}
end
structure LatB (w W:World) (t:Nat) (tq fr:Nm):Prop where
 b3:Boxed W w.heap.size 24 (ptB t)
 b4:Boxed W (w.heap.size+1) 9 (.string tq)
 b5:Boxed W (w.heap.size+1+1) 9 (.string fr)
 b6:Boxed W (w.heap.size+1+1+1) 3 (.int .i64 0)
 b7:Boxed W (w.heap.size+1+1+1+1) 40 (.int .i64 0)
 bel:Below w.heap.size w W
abbrev latW (w:World) (t:Nat) (tq fr:Nm):World:=((((w.alloc (.cells #[ptB t] 24)).alloc (.cells #[.string tq] 9)).alloc (.cells #[.string fr] 9)).alloc (.cells #[.int .i64 0] 3)).alloc (.cells #[.int .i64 0] 40)
theorem LatB.new (w:World) (t:Nat) (tq fr:Nm):LatB w (latW w t tq fr) t tq fr where
 b3:=((((Boxed.new w _ _).alloc _).alloc _).alloc _).alloc _
 b4:=by have:=(((Boxed.new (w.alloc (.cells #[ptB t] 24)) 9 (.string tq)).alloc (.cells #[.string fr] 9)).alloc (.cells #[.int .i64 0] 3)).alloc (.cells #[.int .i64 0] 40);rw[asz]at this;exact this
 b5:=by have:=((Boxed.new ((w.alloc (.cells #[ptB t] 24)).alloc (.cells #[.string tq] 9)) 9 (.string fr)).alloc (.cells #[.int .i64 0] 3)).alloc (.cells #[.int .i64 0] 40);rw[asz,asz]at this;exact this
 b6:=by have:=(Boxed.new (((w.alloc (.cells #[ptB t] 24)).alloc (.cells #[.string tq] 9)).alloc (.cells #[.string fr] 9)) 3 (.int .i64 0)).alloc (.cells #[.int .i64 0] 40);rw[asz,asz,asz]at this;exact this
 b7:=by have:=Boxed.new ((((w.alloc (.cells #[ptB t] 24)).alloc (.cells #[.string tq] 9)).alloc (.cells #[.string fr] 9)).alloc (.cells #[.int .i64 0] 3)) 40 (.int .i64 0);rw[asz,asz,asz,asz]at this;exact this
 bel:=((((((Below.refl _ w).alloc (Nat.le_refl _) _).alloc (by simp) _).alloc (by simp;omega) _).alloc (by simp;omega) _).alloc (by simp;omega) _)
theorem LatB.kb {w W W':World} {t O:Nat} {tq fr:Nm} (h:LatB w W t tq fr) (k:Kb W.heap.size O W W') (hO:w.heap.size+5≤O):LatB w W' t tq fr:=
 have g:∀ {B:Nat} {T:TypeId} {v:Value},Boxed W B T v→B<w.heap.size+5→Boxed W' B T v:=fun hb hl=>(k.block _ hb.lt (by omega)).trans hb
 ⟨g h.b3 (by omega),g h.b4 (by omega),g h.b5 (by omega),g h.b6 (by omega),g h.b7 (by omega),⟨k.os.trans h.bel.os,k.tape.trans h.bel.tape,k.output.trans h.bel.output,Nat.le_trans h.bel.size k.size,fun i hi=>(k.block i (by have:=h.bel.size;omega) (by omega)).trans (h.bel.block i hi)⟩⟩
theorem LatB.below {w W W':World} {t:Nat} {tq fr:Nm} (h:LatB w W t tq fr) (k:Below W.heap.size W W'):LatB w W' t tq fr:=h.kb (O:=w.heap.size+5) (Kb.below k) (Nat.le_refl _)
theorem LatB.lt {w W:World} {t:Nat} {tq fr:Nm} (h:LatB w W t tq fr):w.heap.size+5≤W.heap.size:=h.b7.lt
theorem LatB.fin {w W:World} {t:Nat} {tq fr:Nm} (h:LatB w W t tq fr) (n c:Int):
  Boxed ((W.setCell ⟨w.heap.size+1+1+1,0,none⟩ (.int .i64 n)).setCell ⟨w.heap.size+1+1+1+1,0,none⟩ (.int .i64 c)) (w.heap.size+1+1+1) 3 (.int .i64 n)∧
  Boxed ((W.setCell ⟨w.heap.size+1+1+1,0,none⟩ (.int .i64 n)).setCell ⟨w.heap.size+1+1+1+1,0,none⟩ (.int .i64 c)) (w.heap.size+1+1+1+1) 40 (.int .i64 c)∧
  Below w.heap.size w ((W.setCell ⟨w.heap.size+1+1+1,0,none⟩ (.int .i64 n)).setCell ⟨w.heap.size+1+1+1+1,0,none⟩ (.int .i64 c)):=
 ⟨(h.b6.set _).other (by omega) _,(h.b7.other (by omega) _).set _,(h.bel.setCell (p:=⟨w.heap.size+1+1+1,0,none⟩) (by show w.heap.size≤w.heap.size+1+1+1;omega) _).setCell (p:=⟨w.heap.size+1+1+1+1,0,none⟩) (by show w.heap.size≤w.heap.size+1+1+1+1;omega) _⟩
section
variable {R:Tr} {tq fr:Nm} {xs:List Int}
end
end Go.Proofs.YtggfmklppkioeaaGreat
namespace Go.Proofs.YtggfmklppkioeaaGreat
set_option linter.unusedSimpArgs false
set_option linter.unusedVariables false
set_option maxRecDepth 100000
open Go.RowKit
section
variable {ρ:Rho} {n m k:Nat} {c p:Nm} {a u:Int} {l:Leaf} {sv:SV}
def KT (ρ:Rho) (l:Leaf) (c:Nm):Prop:=∀B w x,l.holds ρ B w x→x= .string c
theorem dm (h:ρ[n]? =some (.val (.string c))):KT ρ (.ref n) c:=fun _ _ _ hx=>aZ h hx
theorem kt_c:KT ρ (.s c) c:=fun _ _ _ h=>h
theorem yJ {t:TypeId} {b:Bool} (ht:pm Tryz.prog t=true) (h1:KT ρ l c) {l':Leaf} (h2:KT ρ l' p) (hb:decide (c=p)=b):(OIns.mk (.bin .eql t) [.one l,.one l'] (.one (.b b))).Ok Tryz.prog ρ:=fun B w vs hv=>by
 match vs,hv with
 | [v0,v1],hv=>
  have e0:=h1 _ _ _ hv.1;have e1:=h2 _ _ _ hv.2.1;subst e0;subst e1;subst hb;refine⟨_,rfl,fun xo yo=> ?_⟩;by_cases h:c=p
  ·subst h;have h3:(ByteArray.toList c==ByteArray.toList c)=true:=by simp
   simp[eqGuard,binOp,Op.stringOp,Sem.run_bind,Result.andThen,h3]
  ·have h3:=uJ h;simp[eqGuard,binOp,Op.stringOp,Sem.run_bind,Result.andThen,h,h3]
end
end Go.Proofs.YtggfmklppkioeaaGreat
namespace Go.Proofs.YtggfmklppkioeaaGreat
set_option linter.unusedSimpArgs false
set_option linter.unusedVariables false
set_option maxRecDepth 100000
open Go.RowKit
open Go.ChangeShapes Go.WideShapes Go.ChangeAt Go.RowKit
structure Qry where
 a:Int
 b:Int
 c:Int
 t:Int
 o:Int
def Qry.cs (s:Qry):List Value:=[.int .u8 s.a,.int .u8 s.b,.int .u8 s.c,.int .i64 s.t,.int .i64 s.o]
abbrev Qry.val (s:Qry):Value:=.agg s.cs.toArray
structure Qry.Ok (s:Qry):Prop where
 a:0≤s.a∧s.a<256
 b:0≤s.b∧s.b<256
 c:0≤s.c∧s.c<256
 t: -9223372036854775808≤s.t∧s.t<9223372036854775808
 o: -9223372036854775808≤s.o∧s.o<9223372036854775808
section
variable {H:Type} {enc:TypeId×Value→H} {W:World}
theorem kV {t:Int} (h:(Lit.int .i64 t).wf=true): -9223372036854775808≤t∧t<9223372036854775808:=by
 simp[Lit.wf,IntKind.min,IntKind.max,IntKind.wrap,IntKind.bits,IntKind.signed]at h;omega
end
end Go.Proofs.YtggfmklppkioeaaGreat
namespace Go.Proofs.YtggfmklppkioeaaGreat
set_option linter.unusedSimpArgs false
set_option linter.unusedVariables false
set_option maxRecDepth 100000
open Go.RowKit
open Classical
section
variable {R:Tr} {a:Int} {x y z s p q:Nm} {l l1 l2:List Nm}
theorem Anc.reach (h:Anc R a x l) (hs:s∈l):Reach R a x s:=by
 induction h with
 | root hp=>simp only[List.mem_singleton]at hs;subst hs;exact .refl _
 | step hp t ih=>
  rcases List.mem_cons.1 hs with rfl | hs
  ·exact .refl _
  ·exact .step hp (ih hs)
theorem Anc.nodup (hR:TOk R) (h:Anc R a x l):l.Nodup:=by
 induction h with
 | root hp=>simp
 | @step x y l hp t ih=>
  refine List.nodup_cons.2 ⟨fun hm=> ?_,ih⟩;exact(hR.acy a x).no_loop y hp (t.reach hm)
theorem Anc.split (h:Anc R a x l) (hs:s∈l):∃l2,l=bQ l s++l2∧Anc R a s l2:=by
 induction h with
 | @root x hp=>
  simp only[List.mem_singleton]at hs;subst hs;exact⟨[s],by simp[bQ],.root hp⟩
 | @step x y l hp t ih=>
  by_cases e:x=s
  ·subst e;exact⟨x::l,by simp[bQ],.step hp t⟩
  ·rcases List.mem_cons.1 hs with h | h
   ·exact absurd h.symm e
   ·obtain⟨l2,h1,h2⟩:=ih h;refine⟨l2,?_,h2⟩;have:bQ (x::l) s=x::bQ l s:=by simp[bQ,e]
    rw[this,List.cons_append,←h1]
theorem jv (hR:TOk R) (hs:s∈bn R a x):bn R a x=bQ (bn R a x) s++bn R a s:=by
 obtain⟨l2,h1,h2⟩:=(eW hR a x).split hs;rw[oO h2];exact h1
theorem sY (hR:TOk R) (hp:p∈bn R a x) (hs:s∈bn R a p):s∈bn R a x∧bQ (bn R a x) s=bQ (bn R a x) p++bQ (bn R a p) s:=by
 have h1:=jv hR hp;have hn:=(eW hR a x).nodup hR;rw[h1]at hn;have hd:=(List.nodup_append.1 hn).2.2;refine⟨by rw[h1];exact List.mem_append.2 (.inr hs),?_⟩
 conv=>lhs;rw[h1]
 unfold bQ;rw[List.takeWhile_append_of_pos (fun z hz=>by
  have:=hd z hz s hs;simpa using this)]
theorem xE:∀ {l:List Nm} {u:Nm},u∈bQ l s→u≠s
 | [],_,h=>by cases h
 | x::l,u,h=>by
  unfold bQ at h;rw[List.takeWhile_cons]at h;split at h
  ·rename_i hx;rcases List.mem_cons.1 h with rfl | h
   ·simpa using hx
   ·exact xE (l:=l) h
  ·cases h
def okE (R:Tr) (a:Int) (l:List Nm):Prop:=∀f∈l,(cL R f a).2=0
noncomputable def mG (R:Tr) (a:Int) (l:List Nm):Pq:=(cw R a l Pq.id).1
theorem cM (hR:TOk R):∀(l:List Nm) (p:Pq),okE R a l→p.good→cw R a l p=((mG R a l).mul p,0)∧(mG R a l).good
 | [],p,_,g=>⟨by show(p,0)=(Pq.id.mul p,0);rw[nJ g],Pq.good.id⟩
 | f::l,p,h,g=>by
  have hf:=h f (List.mem_cons_self ..);have he:=(uY hR hf).g;have hl:okE R a l:=fun z hz=>h z (List.mem_cons_of_mem _ hz)
  have e1:=(cM hR l ((cL R f a).1.mul p) hl (he.mul g)).1;obtain⟨e2,gv⟩:=cM hR l ((cL R f a).1.mul Pq.id) hl (he.mul Pq.good.id);have ev:mG R a (f::l)=(mG R a l).mul (cL R f a).1:=by
   unfold mG;rw[show cw R a (f::l) Pq.id=cw R a l ((cL R f a).1.mul Pq.id)by rw[cw,if_pos hf],e2,ve he];rfl
  refine⟨?_,by rw[ev];exact gv.mul he⟩;rw[show cw R a (f::l) p=cw R a l ((cL R f a).1.mul p)by rw[cw,if_pos hf],e1,ev,eX gv he g]
theorem qi:∀(l:List Nm) (p:Pq),(cw R a l p).2=0→okE R a l
 | [],_,_=>fun _ h=>by cases h
 | f::l,p,h=>by
  rw[cw]at h;by_cases h0:(cL R f a).2=0
  ·rw[if_pos h0]at h;intro z hz;rcases List.mem_cons.1 hz with rfl | hz
   ·exact h0
   ·exact qi l _ h z hz
  ·rw[if_neg h0]at h;exact absurd h h0
theorem val_app (hR:TOk R) (h1:okE R a l1) (h2:okE R a l2):mG R a (l1++l2)=(mG R a l2).mul (mG R a l1):=by
 have key:∀(l1:List Nm) (p:Pq),okE R a l1→cw R a (l1++l2) p=cw R a l2 (cw R a l1 p).1:=by
  intro l1
  induction l1 with
  | nil=>intro p _;rfl
  | cons f l ih=>
   intro p h;have hf:=h f (List.mem_cons_self ..);rw[List.cons_append,cw,if_pos hf,cw,if_pos hf];exact ih _ (fun z hz=>h z (List.mem_cons_of_mem _ hz))
 unfold mG;rw[key l1 Pq.id h1];have e1:=cM hR l1 Pq.id h1 Pq.good.id;have g1:(cw R a l1 Pq.id).1.good:=e1.2;exact congrArg Prod.fst (cM hR l2 _ h2 g1).1
theorem sZ:okE R a (l1++l2)↔okE R a l1∧okE R a l2:=
 ⟨fun h=>⟨fun z hz=>h z (List.mem_append.2 (.inl hz)),fun z hz=>h z (List.mem_append.2 (.inr hz))⟩,fun⟨h1,h2⟩ z hz=>(List.mem_append.1 hz).elim (h1 z) (h2 z)⟩
theorem yK {b c:Pq} (gb:b.good) (gc:c.good):(b.mul c).inv=c.inv.mul b.inv:=by
 have gbc:=gb.mul gc;have h1:=qh gbc;have h2:(c.inv.mul b.inv).mul (b.mul c)=Pq.id:=by
  rw[eX gc.inv gb.inv gbc,←eX gb.inv gb gc,qh gb,nJ gc,qh gc]
 have gy:=gc.inv.mul gb.inv;have e1:(b.mul c).inv=(c.inv.mul b.inv).mul ((b.mul c).mul (b.mul c).inv):=by
  rw[←eX gy gbc gbc.inv,h2,nJ gbc.inv]
 rw[ro gbc,ve gy]at e1;exact e1
theorem inv_inv {b:Pq} (g:b.good):b.inv.inv=b:=by
 have e:b.inv.inv=(b.mul b.inv).mul b.inv.inv:=by rw[ro g,nJ g.inv.inv]
 rw[e,eX g g.inv g.inv.inv,ro g.inv,ve g]
noncomputable abbrev upE (R:Tr) (a:Int) (x s:Nm):List Nm:=bQ (bn R a x) s
theorem qj (hR:TOk R) (hp:p∈bn R a x) (hs:s∈bn R a p) (h:okE R a (upE R a x s)):okE R a (upE R a x p)∧okE R a (upE R a p s)∧mG R a (upE R a x s)=(mG R a (upE R a p s)).mul (mG R a (upE R a x p)):=by
 have e:=(sY hR hp hs).2;unfold upE at *;rw[e]at h⊢;obtain⟨h1,h2⟩:=sZ.1 h;exact⟨h1,h2,val_app hR h1 h2⟩
theorem gL (hR:Sane R) (kx:aY R x) (ky:aY R y) (sx:s∈bn R a x) (sy:s∈bn R a y) (ox:okE R a (upE R a x s)) (oy:okE R a (upE R a y s)):aS R a y x=((mG R a (upE R a y s)).inv.mul (mG R a (upE R a x s)),0):=by
 cases hc:mE (bn R a x) (bn R a y)with
 | none=>exact absurd sy (by have:=List.find?_eq_none.1 hc s sx;simpa using this)
 | some p=>
  have hm:bf R a x y=(p,0):=by unfold bf;rw[if_pos ⟨kx,ky⟩,hc]
  have hp1:p∈bn R a x:=List.mem_of_find?_eq_some hc;have hp2:p∈bn R a y:=by have:=List.find?_some hc;simpa using this
  have hsp:s∈bn R a p:=by
   have e:=jv hR.ok hp1;rw[e]at sx;rcases List.mem_append.1 sx with h | h
   ·have h1:∀z∈bQ (bn R a x) p,z∉bn R a y:=by
     obtain⟨la,lb,e1,e2⟩:=(List.find?_eq_some_iff_append.1 hc).2;intro z hz hzy;have hz2:z∈la:=by
      rw[e1]at hz;have:bQ (la++p::lb) p=la:=by
       have hpa:∀u∈la,u≠p:=fun u hu e=>by
        have:=e2 u hu;simp at this;exact this (e▸hp2)
       exact uW hpa ⟨lb,by simp⟩
      rw[this]at hz;exact hz
     have:=e2 z hz2;simp at this;exact this hzy
    exact absurd sy (h1 s h)
   ·exact h
  obtain⟨x1,x2,x3⟩:=qj hR.ok hp1 hsp ox;obtain⟨y1,_,y3⟩:=qj hR.ok hp2 hsp oy;obtain⟨ex,gx⟩:=cM hR.ok _ Pq.id x1 Pq.good.id;obtain⟨ey,gy⟩:=cM hR.ok _ Pq.id y1 Pq.good.id;obtain⟨_,gs⟩:=cM hR.ok _ Pq.id x2 Pq.good.id;rw[ve gx]at ex;rw[ve gy]at ey;rw[uZ hm ex ey,x3,y3,yK gs gy,eX gy.inv gs.inv (gs.mul gx),←eX gs.inv gs gx,qh gs,nJ gx]
theorem kW (hR:Sane R) (h:(aS R a y x).2=0):∃p,p∈bn R a x∧p∈bn R a y∧aY R x∧aY R y∧okE R a (upE R a x p)∧okE R a (upE R a y p):=by
 unfold aS at h;by_cases h0:(bf R a x y).2=0
 ·rw[if_neg (by simpa using h0)]at h;by_cases hu:(upP R a x (bf R a x y).1).2=0
  ·rw[if_neg (by simpa using hu)]at h;by_cases hd:(upP R a y (bf R a x y).1).2=0
   ·obtain⟨kx,ky⟩:=qd h0;refine⟨_,?_,?_,kx,ky,qi _ _ hu,qi _ _ hd⟩
    ·unfold bf at h0⊢;rw[if_pos ⟨kx,ky⟩]at h0⊢
     cases hc:mE (bn R a x) (bn R a y)with
     | none=>rw[hc]at h0;cases h0
     | some p=>exact List.mem_of_find?_eq_some hc
    ·unfold bf at h0⊢;rw[if_pos ⟨kx,ky⟩]at h0⊢
     cases hc:mE (bn R a x) (bn R a y)with
     | none=>rw[hc]at h0;cases h0
     | some p=>have:=List.find?_some hc;simpa using this
   ·rw[if_pos hd]at h;exact absurd h hd
  ·rw[if_pos hu]at h;exact absurd h hu
 ·rw[if_pos h0]at h;exact absurd h h0
theorem rp (hR:Sane R) (h:(aS R a y x).2=0):aS R a x y=((aS R a y x).1.inv,0)∧aS R a x x=(Pq.id,0):=by
 obtain⟨p,h1,h2,kx,ky,o1,o2⟩:=kW hR h;obtain⟨_,gx⟩:=cM hR.ok _ Pq.id o1 Pq.good.id;obtain⟨_,gy⟩:=cM hR.ok _ Pq.id o2 Pq.good.id;constructor
 ·rw[gL hR kx ky h1 h2 o1 o2,gL hR ky kx h2 h1 o2 o1,yK gy.inv gx,inv_inv gy]
 ·rw[gL hR kx kx h1 h1 o1 o1,qh gx]
theorem find_comp (hR:Sane R) (h1:(aS R a y x).2=0) (h2:(aS R a z y).2=0):aS R a z x=((aS R a z y).1.mul (aS R a y x).1,0):=by
 obtain⟨p,p1,p2,kx,ky,o1,o2⟩:=kW hR h1;obtain⟨q,q1,q2,_,kz,o3,o4⟩:=kW hR h2;have key:∀s,s∈bn R a x→s∈bn R a y→s∈bn R a z→okE R a (upE R a x s)→okE R a (upE R a y s)→okE R a (upE R a z s)→aS R a z x=((aS R a z y).1.mul (aS R a y x).1,0):=by
  intro s s1 s2 s3 a1 a2 a3;obtain⟨_,gx⟩:=cM hR.ok _ Pq.id a1 Pq.good.id;obtain⟨_,gy⟩:=cM hR.ok _ Pq.id a2 Pq.good.id;obtain⟨_,gz⟩:=cM hR.ok _ Pq.id a3 Pq.good.id;rw[gL hR kx kz s1 s3 a1 a3,gL hR ky kz s2 s3 a2 a3,gL hR kx ky s1 s2 a1 a2];rw[eX gz.inv gy (gy.inv.mul gx),←eX gy gy.inv gx,ro gy,nJ gx]
 have e:=jv hR.ok p2;have hq:q∈bQ (bn R a y) p∨q∈bn R a p:=by
  rw[e]at q1;exact List.mem_append.1 q1
 rcases hq with hq | hq
 ·
  have hpq:p∈bn R a q:=by
   have e2:=jv hR.ok q1;rw[e2]at p2;rcases List.mem_append.1 p2 with h | h
   ·
    obtain⟨t,ht⟩:=(eW hR.ok a p).head;have h3:bQ (bn R a y) p <+:bn R a y:=List.takeWhile_prefix _;have h4:bQ (bn R a y) q <+:bn R a y:=List.takeWhile_prefix _;have h5:∀u∈bQ (bn R a y) q,u≠q:=fun u hu=>xE hu
    have h6:∀u∈bQ (bn R a y) p,u≠p:=fun u hu=>xE hu
    rcases Nat.le_total (bQ (bn R a y) p).length (bQ (bn R a y) q).length with hl | hl
    ·have:=(List.prefix_of_prefix_length_le h3 h4 hl).subset hq;exact absurd rfl (h5 q this)
    ·have:=(List.prefix_of_prefix_length_le h4 h3 hl).subset h;exact absurd rfl (h6 p this)
   ·exact h
  obtain⟨m1,_,_⟩:=qj hR.ok q1 hpq o2;obtain⟨_,m2,_⟩:=qj hR.ok q1 hpq o2;have hz:=sY hR.ok q2 hpq;exact key p p1 p2 hz.1 o1 o2 (by unfold upE;rw[hz.2];exact sZ.2 ⟨o4,m2⟩)
 ·obtain⟨_,m2,_⟩:=qj hR.ok p2 hq o3;have hx:=sY hR.ok p1 hq;exact key q hx.1 q1 q2 (by unfold upE;rw[hx.2];exact sZ.2 ⟨o1,m2⟩) o3 o4
end
end Go.Proofs.YtggfmklppkioeaaGreat
namespace Go.Proofs.YtggfmklppkioeaaGreat
set_option linter.unusedSimpArgs false
set_option linter.unusedVariables false
set_option maxRecDepth 100000
open Go.RowKit
def Vp.tree (t m:Nat) (E:List Ch):Vp:=.of (fun w v=>v=ptB t∧TM w t m E) (fun _ g=>g∈fpT t m E)
 (fun w w' X v h k hX=>⟨h.1,h.2.chg k hX⟩) (fun w v g h hg=>h.2.lt g hg) (fun w v h=>by
  obtain⟨rfl,_⟩:=h;exact⟨fun _ h=>by(cases h),fun _ h=>by(cases h),fun _ h=>by(cases h)⟩)
section
variable {p:Program} {ρ:Rho} {w0:Ent} {nt:Nat} {C:List Inst} {L:List OIns} {a:Act} {w:World}
theorem gM {c:Code} {s:MS} {n x:Nat} {Q:Exit→Act→World→Prop} (hx:x<100000) (hC:∀i∈C,i.Ok0 p ρ w0) (hO:∀i∈L,i.OkE w0 p ρ) (hm:p.follows .mixedOrders=true)
  (h:(dk p C L nt n c s).bind (fun r=>if r.1= .ret then bh r.2 x else none)=some (.v (.one (.b true)))) (hs:MSt ρ w0 nt s a w) (hQ:∀a' w',a'.tmps.getD x undef= .bool true→a'.defers=[]→w0.kept w'→Q .ret a' w'):c.wp p Q a w:=by
 cases hr:dk p C L nt n c s with
 | none=>rw[hr]at h;cases h
 | some r=>
  obtain⟨e,s'⟩:=r;rw[hr]at h;have h:(if e= .ret then bh s' x else none)=some (.v (.one (.b true))):=h;split at h
  ·rename_i he;subst he;refine bH hC hO hm hr hs (fun a' w' ⟨B,hi,hv,_⟩=>hQ a' w' ?_ hi.dfr hi.below);have h2:=hv x _ h;unfold bA at h2;rw[if_pos hx]at h2;obtain⟨u,h3,h4⟩:=h2;have e:u= .bool true:=h4;subst e;simp[h3]
  ·cases h
def vi (b0:Nat):Blk:=⟨fun x=>if x=0 then some b0 else none,fun _ _=>False⟩
theorem qk {b0 g:Nat} (h:(vi b0).has g):g=b0:=by
 rcases h with⟨x,h⟩ | ⟨k,h⟩
 ·simp only[vi]at h;split at h
  ·injection h with h;exact h.symm
  ·cases h
 ·exact h.elim
theorem tb {we:World} {T:TypeId} {b0:Nat} {cs0:List Value} {l0:List Leaf} {known:List (Option AV)} {ts:List Value} (hb:Below we.heap.size we w) (g0:we.heap.size≤b0)
  (h0:w.heap[b0]? =some (.cells cs0.toArray T (0,0))) (n0:∀u∈cs0,noU u) (k0:aB ρ (vi b0) w l0 cs0)
  (hk:ja ρ (vi b0) w known ts) (hn:ts.length=nt):MSt ρ (Ent.of we) nt ⟨known++List.replicate (nt - known.length) none,[(T,l0.map some)]⟩ ⟨ts.toArray,[]⟩ w:=by
 have q0:=k0.len;refine⟨vi b0,⟨fun v g hv=> ?_,fun k g h=>h.elim,⟨fun x y g hx hy=> ?_,fun k l g h=>h.elim,fun x k g hx h=>h⟩,⟨hb.os,hb.tape,hb.output,hb.size,fun k hk _=>hb.block k hk⟩,by simpa using hn,rfl,fun x g h=>by simp[Ent.of]at h⟩,fun x c hx=> ?_,fun v hv=> ?_⟩
 ·simp only[vi]at hv;split at hv
  ·rename_i e;subst e;injection hv with hv;subst hv;refine⟨.inl g0,cs0.toArray,T,by simp[cO,q0],h0,fun k n hk=> ?_⟩;have:=List.mem_of_getElem? (show cs0[k]? =some (.int .u32 n)by simpa using hk);exact n0 _ this n rfl
  ·cases hv
 ·simp only[vi]at hx hy;split at hx
  ·split at hy
   ·omega
   ·cases hy
  ·cases hx
 ·unfold bh at hx;split at hx
  ·rename_i hlt;unfold bA;rw[if_pos hlt];simp only at hx;have hx2:(known++List.replicate (nt - known.length) none)[x]? =some (some c):=by
    cases hq:(known++List.replicate (nt - known.length) none)[x]? with
    | none=>rw[hq]at hx;cases hx
    | some o=>rw[hq]at hx;simp only at hx;rw[hx]
   have hx3:known[x]? =some (some c):=by
    by_cases hl:x<known.length
    ·rwa [List.getElem?_append_left hl]at hx2
    ·rw[List.getElem?_append_right (by omega),List.getElem?_replicate]at hx2;split at hx2
     ·injection hx2 with hx2;cases hx2
     ·cases hx2
   obtain⟨u,h3,h4⟩:=hk.get hx3;exact⟨u,by simpa using h3,h4⟩
  ·rename_i hlt;unfold bA;rw[if_neg hlt]
   match hq:x / 100000 - 1,hx with
   | 0,hx=>
    simp only[List.getElem?_cons_zero,List.getElem?_map]at hx
    cases hl:l0[x % 100000]? with
    | none=>rw[hl]at hx;cases hx
    | some l=>
     rw[hl]at hx;simp only[Option.map_some,Option.some.injEq]at hx;subst hx;obtain⟨u,h3,h4⟩:=k0.at hl;exact⟨b0,cs0.toArray,T,u,rfl,h0,by simpa using h3,h4⟩
   | n+1,hx=>simp at hx
 ·simp only[vi]at hv;show v<1;split at hv
  ·omega
  ·exact absurd rfl hv
end
section
variable {xs:List Fq} {ys:Rho} {n:Nat} {kr:List Nat} {l l' l'' lc:Leaf} {t m:Nat} {E:List Ch} {c d:Nm} {a e:Int} {p:Pq}
theorem kc_r {ρ:Rho} (h:ρ[n]? =some (.val (.int .i64 e))):∀B w,(Leaf.ref n).holds ρ B w (.int .i64 e):=fun _ _=>aH h aF
theorem vj {ρ:Rho} {B:Blk} {w:World} {v:Value} (ht:ρ[n]? =some (.tree t m E)) (h:(SV.one (.ref n)).holds ρ B w v):v=ptB t∧TM w t m E:=by
 obtain⟨s,k1,k2,_⟩:=h;rw[ht]at k1;injection k1 with k1;subst k1;exact k2
theorem eK (ht:(frs xs++ys)[n]? =some (.tree t m E)) (hE:Sane (trE E)) (h1:KT (frs xs++ys) l c) (h2:KT (frs xs++ys) l' d) (h3:KI (frs xs++ys) l'' .i64 a) (hp:aS (trE E) a c d=(p,e)) (ar:AtL xs kr p.cs) (hc:∀B w,lc.holds (frs xs++ys) B w (.int .i64 e)):
  OkI xs ys ⟨18,[.one (.ref n),.one l,.one l',.one l''],.tup [row kr,.one lc]⟩:=
 ⟨az Tryz.func18 rfl rfl,fun B w vs hB hv=>by
  match vs,hv with
  | [v0,v1,v2,v3],hv=>
   obtain⟨e0,hT⟩:=vj ht hv.1;have e1:=h1 _ _ _ hv.2.1;have e2:=h2 _ _ _ hv.2.2.1;have e3:=h3 _ _ _ hv.2.2.2.1;subst e0;subst e1;subst e2;subst e3;refine(q_Find hT hE (yH hE _ _ _)).mono ?_;rw[hp];rintro e' w' ⟨v,rfl,h6,hw⟩;exact⟨_,rfl,⟨[v,.int .i64 e],rfl,(ag ar).2 h6,hc _ _,trivial⟩,hw⟩⟩
end
end Go.Proofs.YtggfmklppkioeaaGreat
namespace Go.Proofs
open Go.Shelf
def Tryz.laysJoin_ren:Go.Shelf.Ren:=⟨fun | 156=>74 | 165=>132 | 166=>133 | 169=>134 | 240=>192 | 241=>193 | 276=>240 | 277=>241 | n=>n,fun | 31=>68 | 9=>9 | 3=>3 | 4=>4 | 0=>0 | 20=>20 | 72=>198 | 76=>202 | 70=>195 | 37=>196 | 75=>201 | 127=>253 | 164=>286 | 5=>5 | 80=>204 | n=>n,fun | n=>n⟩
theorem Tryz.laysJoin:Go.Proofs.Lays.n156 Tryz.prog Tryz.laysJoin_ren:= {
 mixed:=by kernel_rfl
 f156:=Tryz.func74.trans (congrArg some (by kernel_rfl))
 f165:=Tryz.func132.trans (congrArg some (by kernel_rfl))
 f166:=Tryz.func133.trans (congrArg some (by kernel_rfl))
 f169:=Tryz.func134.trans (congrArg some (by kernel_rfl))
 f240:=Tryz.func192.trans (congrArg some (by kernel_rfl))
 f241:=Tryz.func193.trans (congrArg some (by kernel_rfl))
 f276:=Tryz.func240.trans (congrArg some (by kernel_rfl))
 f277:=Tryz.func241.trans (congrArg some (by kernel_rfl))
 t0:=Tryz.underlying0
 a0:=Tryz.isAgg0
 z0:=Tryz.sizeOf0
 v0:=Tryz.zeroValue0
 t3:=Tryz.underlying3
 a3:=Tryz.isAgg3
 z3:=Tryz.sizeOf3
 v3:=Tryz.zeroValue3
 t4:=Tryz.underlying4
 a4:=Tryz.isAgg4
 z4:=Tryz.sizeOf4
 v4:=Tryz.zeroValue4
 t9:=Tryz.underlying9
 a9:=Tryz.isAgg9
 z9:=Tryz.sizeOf9
 v9:=Tryz.zeroValue9
 t20:=Tryz.underlying20
 a20:=Tryz.isAgg20
 z20:=Tryz.sizeOf20
 v20:=Tryz.zeroValue20
 t31:=Tryz.underlying68
 a31:=Tryz.isAgg68
 z31:=Tryz.sizeOf68
 v31:=Tryz.zeroValue68
 t37:=Tryz.underlying196
 a37:=Tryz.isAgg196
 z37:=Tryz.sizeOf196
 v37:=Tryz.zeroValue196
 t70:=Tryz.underlying195
 a70:=Tryz.isAgg195
 z70:=Tryz.sizeOf195
 v70:=Tryz.zeroValue195
 t72:=Tryz.underlying198
 a72:=Tryz.isAgg198
 z72:=Tryz.sizeOf198
 v72:=Tryz.zeroValue198
 t75:=Tryz.underlying201
 a75:=Tryz.isAgg201
 z75:=Tryz.sizeOf201
 v75:=Tryz.zeroValue201
 t76:=Tryz.underlying202
 a76:=Tryz.isAgg202
 z76:=Tryz.sizeOf202
 v76:=Tryz.zeroValue202
 t127:=Tryz.underlying253
 a127:=Tryz.isAgg253
 z127:=Tryz.sizeOf253
 v127:=Tryz.zeroValue253
 t164:=Tryz.underlying286
 a164:=Tryz.isAgg286
 z164:=Tryz.sizeOf286
 v164:=Tryz.zeroValue286}
theorem Tryz.joinX:Builder.Extra Tryz.prog Tryz.laysJoin_ren where
 sizeBuilder:=by kernel_rfl
 liesBuilder:=by kernel_rfl
 t5:=Tryz.underlying5
 a5:=Tryz.isAgg5
 z5:=Tryz.sizeOf5
 v5:=Tryz.zeroValue5
 infoByte:=by kernel_rfl
 cellsByte:=by kernel_rfl
 sizeByte:=by kernel_rfl
 neB5:=by decide
end Go.Proofs
namespace Go.Proofs.YtggfmklppkioeaaGreat
set_option linter.unusedSimpArgs false
set_option linter.unusedVariables false
set_option maxRecDepth 100000
open Go.RowKit
variable {xs:List Fq} {ys:Rho} {i:Nat} {x:Fq} {l:Leaf}in
theorem ei (hi:xs[i]? =some x) (hl:∀B w,l.holds (frs xs++ys) B w (.string x.fmt)) (ox:x.ok 1000000000):OkI xs ys ⟨73,[fr i],.v (.one l)⟩:=
 wu (az Tryz.func73 rfl rfl) (fun va w h1=>q_fFormat va x w h1 ox) hi hl
def vl (l:List ByteArray):ByteArray:=⟨(Lib.join (l.map (·.data.toList)) [32]).toArray⟩
theorem I_Join {xs:List Fq} {ys:Rho} {n:Nat} {ss:List ByteArray} {l:Leaf} (hn:(frs xs++ys)[n]? =some (.strs ss)) (hl:∀B w,l.holds (frs xs++ys) B w (.string (vl ss))) (h0:ss≠ []) (hs:(Lib.join (ss.map (·.data.toList)) [32]).length≤140737488355328) (hN:ss.length≤1000):OkI xs ys ⟨74,[.one (.ref n),.one (.s (ByteArray.mk #[32]))],.v (.one l)⟩:=
 ⟨az Tryz.func74 rfl rfl,fun B w vs hB h=>by
  match vs,h with
  | [va,vb],h=>
   have e2:vb= .string (ByteArray.mk #[32]):=h.2.1;subst e2;obtain⟨s,k1,k2,_⟩:=h.1;rw[hn]at k1;injection k1 with k1;subst k1;rcases k2 with⟨h1,_⟩ | ⟨b,o,c,cs,rfl,hc,hb,hq⟩
   ·exact absurd (List.map_eq_nil_iff.1 h1) h0
   ·refine(Any.strings_Join Tryz.laysJoin Tryz.joinX b o c ss (ByteArray.mk #[32]) w (fun j x hj=> ?_) (Array.getElem?_eq_some_iff.1 hb).1 (by omega) hc hs).mono ?_
    ·obtain⟨u,k3,k4,_⟩:=hq j (.val (.string x)) (by rw[List.getElem?_map,hj];rfl);rw[aA hb,k3,k4.1]
    ·rintro e w' ⟨rfl,h2⟩;exact⟨_,rfl,hl B w',h2⟩⟩
def Pq.text (a:Pq):ByteArray:=vl [a.rot.w.fmt,a.rot.x.fmt,a.rot.y.fmt,a.rot.z.fmt,a.pos.x.fmt,a.pos.y.fmt,a.pos.z.fmt]
theorem el {x:Fq} {d:Nat} (h:x.ok d):x.fmt.size≤20*d+4:=by
 have h1:=dp x.p;have h2:=dp x.q;have h3:=h.p;have h4:=h.q;unfold Fq.fmt;split<;>split<;>(try simp only[ByteArray.size_append,bsz,List.size_toArray,List.length_cons,List.length_nil])<;>omega
def yL (a:Pq):List Fq:=a.cs
theorem q_poEnc (va:Value) (a:Pq) (w:World) (ia:bz w va a) (ha:a.ok 10000):Calls Tryz.prog 20 #[va] w fun e w'=>cN w (.string a.text) e w':=by
 have z0:=el (show(a.rot.w).ok 10000 from ha.rot.w);have z1:=el (show(a.rot.x).ok 10000 from ha.rot.x);have z2:=el (show(a.rot.y).ok 10000 from ha.rot.y);have z3:=el (show(a.rot.z).ok 10000 from ha.rot.z);have z4:=el (show(a.pos.x).ok 10000 from ha.pos.x);have z5:=el (show(a.pos.y).ok 10000 from ha.pos.y);have z6:=el (show(a.pos.z).ok 10000 from ha.pos.z);have hjoin:(Lib.join ([a.rot.w.fmt,a.rot.x.fmt,a.rot.y.fmt,a.rot.z.fmt,a.pos.x.fmt,a.pos.y.fmt,a.pos.z.fmt].map (·.data.toList)) [32]).length≤140737488355328:=by simp only[List.map_cons,List.map_nil,Lib.join,List.intercalate,List.intersperse,List.flatten_cons,List.flatten_nil,List.length_append,List.length_cons,List.length_nil,Array.length_toList];simp only[ByteArray.size]at *;omega
 refine(cRn (ρ:=frs (yL a)++([.row 33 7 [.val (.bool a.rot.w.s),.dig (nl a.rot.w.p) a.rot.w.p,.dig (nl a.rot.w.q) a.rot.w.q,.val (.bool a.rot.x.s),.dig (nl a.rot.x.p) a.rot.x.p,.dig (nl a.rot.x.q) a.rot.x.q,.val (.bool a.rot.y.s),.dig (nl a.rot.y.p) a.rot.y.p,.dig (nl a.rot.y.q) a.rot.y.q,.val (.bool a.rot.z.s),.dig (nl a.rot.z.p) a.rot.z.p,.dig (nl a.rot.z.q) a.rot.z.q,.val (.bool a.pos.x.s),.dig (nl a.pos.x.p) a.pos.x.p,.dig (nl a.pos.x.q) a.pos.x.q,.val (.bool a.pos.y.s),.dig (nl a.pos.y.p) a.pos.y.p,.dig (nl a.pos.y.q) a.pos.y.q,.val (.bool a.pos.z.s),.dig (nl a.pos.z.p) a.pos.z.p,.dig (nl a.pos.z.q) a.pos.z.q],.plc 33 [.val (.bool a.rot.w.s),.dig (nl a.rot.w.p) a.rot.w.p,.dig (nl a.rot.w.q) a.rot.w.q],.val (.string a.rot.w.fmt),.row 9 1 [.val (.string a.rot.w.fmt)],.ownr 9 1 1 [.val (.string a.rot.w.fmt)],.plc 33 [.val (.bool a.rot.x.s),.dig (nl a.rot.x.p) a.rot.x.p,.dig (nl a.rot.x.q) a.rot.x.q],.val (.string a.rot.x.fmt),.row 9 1 [.val (.string a.rot.x.fmt)],.ownr 9 1 2 [.val (.string a.rot.w.fmt),.val (.string a.rot.x.fmt)],.plc 33 [.val (.bool a.rot.y.s),.dig (nl a.rot.y.p) a.rot.y.p,.dig (nl a.rot.y.q) a.rot.y.q],.val (.string a.rot.y.fmt),.row 9 1 [.val (.string a.rot.y.fmt)],.ownr 9 1 3 [.val (.string a.rot.w.fmt),.val (.string a.rot.x.fmt),.val (.string a.rot.y.fmt)],.plc 33 [.val (.bool a.rot.z.s),.dig (nl a.rot.z.p) a.rot.z.p,.dig (nl a.rot.z.q) a.rot.z.q],.val (.string a.rot.z.fmt),.row 9 1 [.val (.string a.rot.z.fmt)],.ownr 9 1 4 [.val (.string a.rot.w.fmt),.val (.string a.rot.x.fmt),.val (.string a.rot.y.fmt),.val (.string a.rot.z.fmt)],.plc 33 [.val (.bool a.pos.x.s),.dig (nl a.pos.x.p) a.pos.x.p,.dig (nl a.pos.x.q) a.pos.x.q],.val (.string a.pos.x.fmt),.row 9 1 [.val (.string a.pos.x.fmt)],.ownr 9 1 5 [.val (.string a.rot.w.fmt),.val (.string a.rot.x.fmt),.val (.string a.rot.y.fmt),.val (.string a.rot.z.fmt),.val (.string a.pos.x.fmt)],.plc 33 [.val (.bool a.pos.y.s),.dig (nl a.pos.y.p) a.pos.y.p,.dig (nl a.pos.y.q) a.pos.y.q],.val (.string a.pos.y.fmt),.row 9 1 [.val (.string a.pos.y.fmt)],.ownr 9 1 6 [.val (.string a.rot.w.fmt),.val (.string a.rot.x.fmt),.val (.string a.rot.y.fmt),.val (.string a.rot.z.fmt),.val (.string a.pos.x.fmt),.val (.string a.pos.y.fmt)],.plc 33 [.val (.bool a.pos.z.s),.dig (nl a.pos.z.p) a.pos.z.p,.dig (nl a.pos.z.q) a.pos.z.q],.val (.string a.pos.z.fmt),.row 9 1 [.val (.string a.pos.z.fmt)],.ownr 9 1 7 [.val (.string a.rot.w.fmt),.val (.string a.rot.x.fmt),.val (.string a.rot.y.fmt),.val (.string a.rot.z.fmt),.val (.string a.pos.x.fmt),.val (.string a.pos.y.fmt),.val (.string a.pos.z.fmt)],.row 9 7 [.val (.string a.rot.w.fmt),.val (.string a.rot.x.fmt),.val (.string a.rot.y.fmt),.val (.string a.rot.z.fmt),.val (.string a.pos.x.fmt),.val (.string a.pos.y.fmt),.val (.string a.pos.z.fmt)],.val (.string (vl [a.rot.w.fmt,a.rot.x.fmt,a.rot.y.fmt,a.rot.z.fmt,a.pos.x.fmt,a.pos.y.fmt,a.pos.z.fmt]))]:List Vp)) (args:=[row [0,1,2,3,4,5,6]]) (vs:=[va]) (r:=.v (.one (.ref 51)))
  (ae (ei (i:=0) rfl (ls (n:=23) rfl) (ha.rot.w.mono (by decide))) (ae (ei (i:=1) rfl (ls (n:=27) rfl) (ha.rot.x.mono (by decide))) (ae (ei (i:=2) rfl (ls (n:=31) rfl) (ha.rot.y.mono (by decide))) (ae (ei (i:=3) rfl (ls (n:=35) rfl) (ha.rot.z.mono (by decide))) (ae (ei (i:=4) rfl (ls (n:=39) rfl) (ha.pos.x.mono (by decide))) (ae (ei (i:=5) rfl (ls (n:=43) rfl) (ha.pos.y.mono (by decide))) (ae (ei (i:=6) rfl (ls (n:=47) rfl) (ha.pos.z.mono (by decide))) (ae (I_Join (n:=50) (ss:=[a.rot.w.fmt,a.rot.x.fmt,a.rot.y.fmt,a.rot.z.fmt,a.pos.x.fmt,a.pos.y.fmt,a.pos.z.fmt]) rfl (ls (n:=51) rfl) (by simp) hjoin (by simp)) ah))))))))
  (af (gT (m:=21) (ss:=[fr 0,fr 1,fr 2,fr 3,fr 4,fr 5,fr 6]) (N:=7) (sz:=3) (z:=[.b false,.sl0,.sl0]) (qs:=[.val (.bool a.rot.w.s),.dig (nl a.rot.w.p) a.rot.w.p,.dig (nl a.rot.w.q) a.rot.w.q,.val (.bool a.rot.x.s),.dig (nl a.rot.x.p) a.rot.x.p,.dig (nl a.rot.x.q) a.rot.x.q,.val (.bool a.rot.y.s),.dig (nl a.rot.y.p) a.rot.y.p,.dig (nl a.rot.y.q) a.rot.y.q,.val (.bool a.rot.z.s),.dig (nl a.rot.z.p) a.rot.z.p,.dig (nl a.rot.z.q) a.rot.z.q,.val (.bool a.pos.x.s),.dig (nl a.pos.x.p) a.pos.x.p,.dig (nl a.pos.x.q) a.pos.x.q,.val (.bool a.pos.y.s),.dig (nl a.pos.y.p) a.pos.y.p,.dig (nl a.pos.y.q) a.pos.y.q,.val (.bool a.pos.z.s),.dig (nl a.pos.z.p) a.pos.z.p,.dig (nl a.pos.z.q) a.pos.z.q]) (ix:=[0,1,2,3,4,5,6]) (ls:=[.ref 0,.ref 1,.ref 2,.ref 3,.ref 4,.ref 5,.ref 6,.ref 7,.ref 8,.ref 9,.ref 10,.ref 11,.ref 12,.ref 13,.ref 14,.ref 15,.ref 16,.ref 17,.ref 18,.ref 19,.ref 20]) Tryz.underlying124 (by kernel_rfl) (by kernel_rfl) (by decide) (by decide) (by decide) rfl (by kernel_rfl) ⟨dl rfl,bJ rfl,bJ rfl,dl rfl,bJ rfl,bJ rfl,dl rfl,bJ rfl,bJ rfl,dl rfl,bJ rfl,bJ rfl,dl rfl,bJ rfl,bJ rfl,dl rfl,bJ rfl,bJ rfl,dl rfl,bJ rfl,bJ rfl,trivial⟩ rfl) (af (wi (n:=21) (t:=124) ⟨_,Tryz.underlying124⟩ rfl (li rfl)) (af (lX (k:=0) (l:=.i .i64 0) (sz:=3) (qs':=[.val (.bool a.rot.w.s),.dig (nl a.rot.w.p) a.rot.w.p,.dig (nl a.rot.w.q) a.rot.w.q]) (n:=21) (m:=22) Tryz.underlying124 (by kernel_rfl) rfl rfl (fun _ _ _ h=>h) (by decide) (by simp) (fun j q hq=>by match j,hq with | 0,hq=>simp at hq;subst hq;rfl | 1,hq=>simp at hq;subst hq;rfl | 2,hq=>simp at hq;subst hq;rfl | j+3,hq=>simp at hq)) (af (fk (n:=22) (T:=33) (qs:=[.val (.bool a.rot.w.s),.dig (nl a.rot.w.p) a.rot.w.p,.dig (nl a.rot.w.q) a.rot.w.q]) (ls:=[.ref 0,.ref 1,.ref 2]) (t:=33) (by kernel_rfl) (by kernel_rfl) rfl ⟨lq rfl,lq rfl,lq rfl,trivial⟩) (af (gT (m:=24) (ss:=[.one (.ref 23)]) (N:=1) (sz:=1) (z:=[.s (ByteArray.mk #[])]) (qs:=[.val (.string a.rot.w.fmt)]) (ix:=[0]) (ls:=[.ref 23]) Tryz.underlying68 (by kernel_rfl) (by kernel_rfl) (by decide) (by decide) (by decide) rfl (by kernel_rfl) ⟨dl rfl,trivial⟩ rfl) (af (kI (i:=0) (sz:=1) (bytes:=16) (L:=0) (M:=1) (qs:=[]) (qs':=[.val (.string a.rot.w.fmt)]) (m:=25) (r:=24) (T:=9) Tryz.underlying68 (by kernel_rfl) (.inl ⟨rfl,rfl,rfl⟩) rfl rfl rfl rfl rfl (by decide) (by decide) (by decide)) (af (lX (k:=1) (l:=.i .i64 1) (sz:=3) (qs':=[.val (.bool a.rot.x.s),.dig (nl a.rot.x.p) a.rot.x.p,.dig (nl a.rot.x.q) a.rot.x.q]) (n:=21) (m:=26) Tryz.underlying124 (by kernel_rfl) rfl rfl (fun _ _ _ h=>h) (by decide) (by simp) (fun j q hq=>by match j,hq with | 0,hq=>simp at hq;subst hq;rfl | 1,hq=>simp at hq;subst hq;rfl | 2,hq=>simp at hq;subst hq;rfl | j+3,hq=>simp at hq)) (af (fk (n:=26) (T:=33) (qs:=[.val (.bool a.rot.x.s),.dig (nl a.rot.x.p) a.rot.x.p,.dig (nl a.rot.x.q) a.rot.x.q]) (ls:=[.ref 3,.ref 4,.ref 5]) (t:=33) (by kernel_rfl) (by kernel_rfl) rfl ⟨lq rfl,lq rfl,lq rfl,trivial⟩) (af (gT (m:=28) (ss:=[.one (.ref 27)]) (N:=1) (sz:=1) (z:=[.s (ByteArray.mk #[])]) (qs:=[.val (.string a.rot.x.fmt)]) (ix:=[0]) (ls:=[.ref 27]) Tryz.underlying68 (by kernel_rfl) (by kernel_rfl) (by decide) (by decide) (by decide) rfl (by kernel_rfl) ⟨dl rfl,trivial⟩ rfl) (af (kI (i:=0) (sz:=1) (bytes:=16) (L:=1) (M:=1) (qs:=[.val (.string a.rot.w.fmt)]) (qs':=[.val (.string a.rot.x.fmt)]) (m:=29) (r:=28) (T:=9) Tryz.underlying68 (by kernel_rfl) (.inr ⟨25,rfl,rfl⟩) rfl rfl rfl rfl rfl (by decide) (by decide) (by decide)) (af (lX (k:=2) (l:=.i .i64 2) (sz:=3) (qs':=[.val (.bool a.rot.y.s),.dig (nl a.rot.y.p) a.rot.y.p,.dig (nl a.rot.y.q) a.rot.y.q]) (n:=21) (m:=30) Tryz.underlying124 (by kernel_rfl) rfl rfl (fun _ _ _ h=>h) (by decide) (by simp) (fun j q hq=>by match j,hq with | 0,hq=>simp at hq;subst hq;rfl | 1,hq=>simp at hq;subst hq;rfl | 2,hq=>simp at hq;subst hq;rfl | j+3,hq=>simp at hq)) (af (fk (n:=30) (T:=33) (qs:=[.val (.bool a.rot.y.s),.dig (nl a.rot.y.p) a.rot.y.p,.dig (nl a.rot.y.q) a.rot.y.q]) (ls:=[.ref 6,.ref 7,.ref 8]) (t:=33) (by kernel_rfl) (by kernel_rfl) rfl ⟨lq rfl,lq rfl,lq rfl,trivial⟩) (af (gT (m:=32) (ss:=[.one (.ref 31)]) (N:=1) (sz:=1) (z:=[.s (ByteArray.mk #[])]) (qs:=[.val (.string a.rot.y.fmt)]) (ix:=[0]) (ls:=[.ref 31]) Tryz.underlying68 (by kernel_rfl) (by kernel_rfl) (by decide) (by decide) (by decide) rfl (by kernel_rfl) ⟨dl rfl,trivial⟩ rfl) (af (kI (i:=0) (sz:=1) (bytes:=16) (L:=2) (M:=1) (qs:=[.val (.string a.rot.w.fmt),.val (.string a.rot.x.fmt)]) (qs':=[.val (.string a.rot.y.fmt)]) (m:=33) (r:=32) (T:=9) Tryz.underlying68 (by kernel_rfl) (.inr ⟨29,rfl,rfl⟩) rfl rfl rfl rfl rfl (by decide) (by decide) (by decide)) (af (lX (k:=3) (l:=.i .i64 3) (sz:=3) (qs':=[.val (.bool a.rot.z.s),.dig (nl a.rot.z.p) a.rot.z.p,.dig (nl a.rot.z.q) a.rot.z.q]) (n:=21) (m:=34) Tryz.underlying124 (by kernel_rfl) rfl rfl (fun _ _ _ h=>h) (by decide) (by simp) (fun j q hq=>by match j,hq with | 0,hq=>simp at hq;subst hq;rfl | 1,hq=>simp at hq;subst hq;rfl | 2,hq=>simp at hq;subst hq;rfl | j+3,hq=>simp at hq)) (af (fk (n:=34) (T:=33) (qs:=[.val (.bool a.rot.z.s),.dig (nl a.rot.z.p) a.rot.z.p,.dig (nl a.rot.z.q) a.rot.z.q]) (ls:=[.ref 9,.ref 10,.ref 11]) (t:=33) (by kernel_rfl) (by kernel_rfl) rfl ⟨lq rfl,lq rfl,lq rfl,trivial⟩) (af (gT (m:=36) (ss:=[.one (.ref 35)]) (N:=1) (sz:=1) (z:=[.s (ByteArray.mk #[])]) (qs:=[.val (.string a.rot.z.fmt)]) (ix:=[0]) (ls:=[.ref 35]) Tryz.underlying68 (by kernel_rfl) (by kernel_rfl) (by decide) (by decide) (by decide) rfl (by kernel_rfl) ⟨dl rfl,trivial⟩ rfl) (af (kI (i:=0) (sz:=1) (bytes:=16) (L:=3) (M:=1) (qs:=[.val (.string a.rot.w.fmt),.val (.string a.rot.x.fmt),.val (.string a.rot.y.fmt)]) (qs':=[.val (.string a.rot.z.fmt)]) (m:=37) (r:=36) (T:=9) Tryz.underlying68 (by kernel_rfl) (.inr ⟨33,rfl,rfl⟩) rfl rfl rfl rfl rfl (by decide) (by decide) (by decide)) (af (lX (k:=4) (l:=.i .i64 4) (sz:=3) (qs':=[.val (.bool a.pos.x.s),.dig (nl a.pos.x.p) a.pos.x.p,.dig (nl a.pos.x.q) a.pos.x.q]) (n:=21) (m:=38) Tryz.underlying124 (by kernel_rfl) rfl rfl (fun _ _ _ h=>h) (by decide) (by simp) (fun j q hq=>by match j,hq with | 0,hq=>simp at hq;subst hq;rfl | 1,hq=>simp at hq;subst hq;rfl | 2,hq=>simp at hq;subst hq;rfl | j+3,hq=>simp at hq)) (af (fk (n:=38) (T:=33) (qs:=[.val (.bool a.pos.x.s),.dig (nl a.pos.x.p) a.pos.x.p,.dig (nl a.pos.x.q) a.pos.x.q]) (ls:=[.ref 12,.ref 13,.ref 14]) (t:=33) (by kernel_rfl) (by kernel_rfl) rfl ⟨lq rfl,lq rfl,lq rfl,trivial⟩) (af (gT (m:=40) (ss:=[.one (.ref 39)]) (N:=1) (sz:=1) (z:=[.s (ByteArray.mk #[])]) (qs:=[.val (.string a.pos.x.fmt)]) (ix:=[0]) (ls:=[.ref 39]) Tryz.underlying68 (by kernel_rfl) (by kernel_rfl) (by decide) (by decide) (by decide) rfl (by kernel_rfl) ⟨dl rfl,trivial⟩ rfl) (af (kI (i:=0) (sz:=1) (bytes:=16) (L:=4) (M:=1) (qs:=[.val (.string a.rot.w.fmt),.val (.string a.rot.x.fmt),.val (.string a.rot.y.fmt),.val (.string a.rot.z.fmt)]) (qs':=[.val (.string a.pos.x.fmt)]) (m:=41) (r:=40) (T:=9) Tryz.underlying68 (by kernel_rfl) (.inr ⟨37,rfl,rfl⟩) rfl rfl rfl rfl rfl (by decide) (by decide) (by decide)) (af (lX (k:=5) (l:=.i .i64 5) (sz:=3) (qs':=[.val (.bool a.pos.y.s),.dig (nl a.pos.y.p) a.pos.y.p,.dig (nl a.pos.y.q) a.pos.y.q]) (n:=21) (m:=42) Tryz.underlying124 (by kernel_rfl) rfl rfl (fun _ _ _ h=>h) (by decide) (by simp) (fun j q hq=>by match j,hq with | 0,hq=>simp at hq;subst hq;rfl | 1,hq=>simp at hq;subst hq;rfl | 2,hq=>simp at hq;subst hq;rfl | j+3,hq=>simp at hq)) (af (fk (n:=42) (T:=33) (qs:=[.val (.bool a.pos.y.s),.dig (nl a.pos.y.p) a.pos.y.p,.dig (nl a.pos.y.q) a.pos.y.q]) (ls:=[.ref 15,.ref 16,.ref 17]) (t:=33) (by kernel_rfl) (by kernel_rfl) rfl ⟨lq rfl,lq rfl,lq rfl,trivial⟩) (af (gT (m:=44) (ss:=[.one (.ref 43)]) (N:=1) (sz:=1) (z:=[.s (ByteArray.mk #[])]) (qs:=[.val (.string a.pos.y.fmt)]) (ix:=[0]) (ls:=[.ref 43]) Tryz.underlying68 (by kernel_rfl) (by kernel_rfl) (by decide) (by decide) (by decide) rfl (by kernel_rfl) ⟨dl rfl,trivial⟩ rfl) (af (kI (i:=0) (sz:=1) (bytes:=16) (L:=5) (M:=1) (qs:=[.val (.string a.rot.w.fmt),.val (.string a.rot.x.fmt),.val (.string a.rot.y.fmt),.val (.string a.rot.z.fmt),.val (.string a.pos.x.fmt)]) (qs':=[.val (.string a.pos.y.fmt)]) (m:=45) (r:=44) (T:=9) Tryz.underlying68 (by kernel_rfl) (.inr ⟨41,rfl,rfl⟩) rfl rfl rfl rfl rfl (by decide) (by decide) (by decide)) (af (lX (k:=6) (l:=.i .i64 6) (sz:=3) (qs':=[.val (.bool a.pos.z.s),.dig (nl a.pos.z.p) a.pos.z.p,.dig (nl a.pos.z.q) a.pos.z.q]) (n:=21) (m:=46) Tryz.underlying124 (by kernel_rfl) rfl rfl (fun _ _ _ h=>h) (by decide) (by simp) (fun j q hq=>by match j,hq with | 0,hq=>simp at hq;subst hq;rfl | 1,hq=>simp at hq;subst hq;rfl | 2,hq=>simp at hq;subst hq;rfl | j+3,hq=>simp at hq)) (af (fk (n:=46) (T:=33) (qs:=[.val (.bool a.pos.z.s),.dig (nl a.pos.z.p) a.pos.z.p,.dig (nl a.pos.z.q) a.pos.z.q]) (ls:=[.ref 18,.ref 19,.ref 20]) (t:=33) (by kernel_rfl) (by kernel_rfl) rfl ⟨lq rfl,lq rfl,lq rfl,trivial⟩) (af (gT (m:=48) (ss:=[.one (.ref 47)]) (N:=1) (sz:=1) (z:=[.s (ByteArray.mk #[])]) (qs:=[.val (.string a.pos.z.fmt)]) (ix:=[0]) (ls:=[.ref 47]) Tryz.underlying68 (by kernel_rfl) (by kernel_rfl) (by decide) (by decide) (by decide) rfl (by kernel_rfl) ⟨dl rfl,trivial⟩ rfl) (af (kI (i:=0) (sz:=1) (bytes:=16) (L:=6) (M:=1) (qs:=[.val (.string a.rot.w.fmt),.val (.string a.rot.x.fmt),.val (.string a.rot.y.fmt),.val (.string a.rot.z.fmt),.val (.string a.pos.x.fmt),.val (.string a.pos.y.fmt)]) (qs':=[.val (.string a.pos.z.fmt)]) (m:=49) (r:=48) (T:=9) Tryz.underlying68 (by kernel_rfl) (.inr ⟨45,rfl,rfl⟩) rfl rfl rfl rfl rfl (by decide) (by decide) (by decide)) (af (o_frz (n:=49) (m:=50) (r:=7) (i:=0) (L:=7) (qs:=[.val (.string a.rot.w.fmt),.val (.string a.rot.x.fmt),.val (.string a.rot.y.fmt),.val (.string a.rot.z.fmt),.val (.string a.pos.x.fmt),.val (.string a.pos.y.fmt),.val (.string a.pos.z.fmt)]) rfl rfl) (ai)))))))))))))))))))))))))))))))) Tryz.func20 (by kernel_rfl) ⟨(ag (xs:=yL a) (ks:=[0,1,2,3,4,5,6]) (vs:=a.cs) ⟨rfl,rfl,rfl,rfl,rfl,rfl,rfl,trivial⟩).2 ia,trivial⟩).mono ?_
 rintro e w' ⟨v,rfl,h1,h2⟩;obtain⟨sv,q1,q2⟩:=h1;have q3:some (Vp.val (.string (vl [a.rot.w.fmt,a.rot.x.fmt,a.rot.y.fmt,a.rot.z.fmt,a.pos.x.fmt,a.pos.y.fmt,a.pos.z.fmt])))=some sv:=q1;injection q3 with q3;subst q3;have q4:v= .string (vl [a.rot.w.fmt,a.rot.x.fmt,a.rot.y.fmt,a.rot.z.fmt,a.pos.x.fmt,a.pos.y.fmt,a.pos.z.fmt]):=q2.1.1;exact⟨by rw[q4];rfl,h2⟩
theorem oP {xs:List Fq} {ys:Rho} {ks:List Nat} {a:Pq} {l:Leaf} (ar:AtL xs ks a.cs) (hl:∀B w,l.holds (frs xs++ys) B w (.string a.text)) (ha:a.ok 10000):OkI xs ys ⟨20,[row ks],.v (.one l)⟩:=
 ⟨az Tryz.func20 rfl rfl,fun B w vs hB h=>by
  match vs,h with
  | [x],h=>
   refine(q_poEnc x a w ((ag ar).1 h.1) ha).mono ?_;rintro e w' ⟨rfl,h2⟩;exact⟨_,rfl,hl B w',h2⟩⟩
end Go.Proofs.YtggfmklppkioeaaGreat
namespace Go.Proofs.YtggfmklppkioeaaGreat
set_option linter.unusedSimpArgs false
set_option linter.unusedVariables false
set_option maxRecDepth 100000
open Go.RowKit
def tc:List Nm:=[⟨#[109,97,112]⟩,⟨#[111,100,111,109]⟩,⟨#[98,97,115,101]⟩,⟨#[97,114,109]⟩,⟨#[116,111,111,108]⟩,⟨#[101,121,101]⟩]
def frm (n:Int):Nm:=tc.getD ((if n<0 then -(n+1)else n) % 6).toNat ⟨#[]⟩
theorem isNm_w {l:List UInt8} (h0:0<l.length) (h16:l.length≤16) (h:∀c∈l,xk c):dH ⟨l.toArray⟩:=⟨h0,h16,fun i hi=>h _ (List.getElem_mem (l:=l) (n:=i) hi)⟩
theorem td:∀c∈tc,dH c:=by
 intro c hc;simp only[tc,List.mem_cons,List.not_mem_nil,or_false]at hc;rcases hc with rfl | rfl | rfl | rfl | rfl | rfl<;>exact isNm_w (by decide) (by decide) (by decide)
theorem frm_at (n:Int):∃(k:Nat) (c:Nm),k<6∧(if n<0 then -(n+1)else n) % 6=(k:Int)∧tc[k]? =some c∧frm n=c:=by
 have h:((if n<0 then -(n+1)else n) % 6).toNat<6:=by omega
 refine⟨((if n<0 then -(n+1)else n) % 6).toNat,frm n,h,by omega,?_,rfl⟩;unfold frm;rw[List.getD_eq_getElem?_getD]
 cases hx:tc[((if n<0 then -(n+1)else n) % 6).toNat]? with
 | none=>have:=List.getElem?_eq_none_iff.1 hx;simp[tc]at this;omega
 | some c=>rfl
theorem frm_nm (n:Int):dH (frm n):=by
 obtain⟨k,c,_,_,h,e⟩:=frm_at n;rw[e];exact td c (List.mem_of_getElem? h)
theorem vn {n:Int} (h: -9223372036854775808≤n∧n<9223372036854775808) (m:Int) (hm:m=if n<0 then -(n+1)else n) {k:Nat} (hk:(if n<0 then -(n+1)else n) % 6=(k:Int)):m.tmod 6=(k:Int):=by
 rw[←hm]at hk;rw[Int.tmod_eq_emod_of_nonneg (by split at hm<;>omega)];exact hk
set_option maxHeartbeats 1000000 in
theorem jw {w:World} (n:Int) (h: -9223372036854775808≤n∧n<9223372036854775808):Calls Tryz.prog 17 #[.int .i64 n] w fun e w'=>e= .returned (.string (frm n))∧Below w.heap.size w w':=by
 obtain⟨k,c,hk6,hk,hc,e⟩:=frm_at n;rw[e];obtain⟨w1,hw1⟩:∃w1,w.alloc (.cells #[.string ⟨#[109,97,112]⟩,.string ⟨#[111,100,111,109]⟩,.string ⟨#[98,97,115,101]⟩,.string ⟨#[97,114,109]⟩,.string ⟨#[116,111,111,108]⟩,.string ⟨#[101,121,101]⟩] 9)=w1:=⟨_,rfl⟩;have hb1:Below w.heap.size w w1:=by rw[←hw1];exact(Below.refl _ _).alloc (Nat.le_refl _) _
 have hnew:w1.heap[w.heap.size]? =some (.cells (tc.map Value.string).toArray 9 (0,0)):=by rw[←hw1];exact heap_alloc_new w _
 have hcell:w1.cell? ⟨w.heap.size,k,none⟩=some (.string c):=by
  rw[aA hnew];simp only[List.getElem?_toArray,List.getElem?_map,hc,Option.map_some]
 have HB:=Lib.hid hb1;clear hb1 hnew hc e;obtain⟨B,hB⟩:∃B,w.heap.size=B:=⟨_,rfl⟩;rw[hB]at hcell;have hk5:(k:Int)<6:=by omega
 by_cases hn:n<0
 ·have hi:=vn h (-(n+1)) (by rw[if_pos hn]) hk;have c0:decide (n<0)=true:=decide_eq_true hn;have hw:wrap64 (-wrap64 (n+1))= -(n+1):=by
   unfold wrap64;omega
  rw[←hw]at hi;clear hk h hn hw;go_enter Tryz.func17,Tryz.ntmps17
  go_wp2;go_ret;exact⟨rfl,HB.out⟩
 ·have hi:=vn h n (by rw[if_neg hn]) hk;have c0:decide (n<0)=false:=decide_eq_false hn;clear hk h hn;go_enter Tryz.func17,Tryz.ntmps17
  go_wp2;go_ret;exact⟨rfl,HB.out⟩
end Go.Proofs.YtggfmklppkioeaaGreat
namespace Go.Proofs.YtggfmklppkioeaaGreat
set_option linter.unusedSimpArgs false
set_option linter.unusedVariables false
set_option maxRecDepth 100000
open Go.RowKit
open Classical
abbrev cf:Nm:=⟨#[97,114,109]⟩
abbrev bw:Nm:=⟨#[98,97,115,101]⟩
theorem nTT:cf≠bw:=fun e=>by
 have:=congrArg ByteArray.size e;exact absurd this (by decide)
theorem iArm:dH cf:=td _ (by simp[tc])
theorem iBase:dH bw:=td _ (by simp[tc])
abbrev twS:List St:=[⟨0,Pq.id⟩,⟨100,sh 10 0 0⟩]
abbrev twB:Lk:=⟨bw,0, -1,false,Pq.zero,twS⟩
theorem tw_u1 {R R':Tr} {e:Int} (hR:REq R []) (d:AttS dH R cf bw 0 R' e):e=0∧REq R' [(cf,dh bw 0)]:=by
 have k:AttS dH [] cf bw 0 (mw [] cf bw 0) 0:=.ok ⟨iArm,iBase⟩ (by decide) (by decide) (fun i q h=>by simp at h) (fun x h=>by cases h) 2 ⟨[cf,bw],by simp[nTT],fun x=>by
  have:¬aY [] x:=fun⟨q,hq,_⟩=>by cases hq
  simp[this],rfl⟩ ⟨by decide,by decide⟩ (fun h=>by
  rcases h with h | ⟨q,hq,_⟩
  ·cases h with
   | step h _=>obtain⟨q,hq,_⟩:=jn h;cases hq
  ·cases hq)
 exact d.uniq hR k
theorem tk_b {x:Lk}:lks [(cf,x)] cf=[x]:=by rw[mv,if_pos rfl,oJ]
theorem tw_u2 {R R':Tr} {e:Int} (hT:TOk R) (hR:REq R [(cf,dh bw 0)]) (d:SetS (kT 0 Pq.id) R cf 0 R' e):e=0∧REq R' [(cf,{dh bw 0 with tr:=[⟨0,Pq.id⟩]})]:=by
 have ha:kT 0 Pq.id (dh bw 0).tr=([⟨0,Pq.id⟩],0):=by
  rw[show kT 0 Pq.id (dh bw 0).tr=qz [] (St.mk 0 Pq.id).raw from rfl,vg Pq.good.id];unfold sK;simp[aN,plN]
 have k:SetS (kT 0 Pq.id) [(cf,dh bw 0)] cf 0 ([]++(cf,{dh bw 0 with tr:=(kT 0 Pq.id (dh bw 0).tr).1})::[]) (kT 0 Pq.id (dh bw 0).tr).2:=
  .ok (A:=[]) (B:=[]) rfl (by unfold tAt;rw[tk_b];rfl) rfl
 rw[ha]at k;exact d.uniq hT hR k
theorem tw_u3 {R R':Tr} {e:Int} (hT:TOk R) (hR:REq R [(cf,{dh bw 0 with tr:=[⟨0,Pq.id⟩]})]) (d:SetS (kT 100 (sh 10 0 0)) R cf 100 R' e):e=0∧REq R' [(cf,twB)]:=by
 have hop:¬opp Pq.id (sh 10 0 0):=by
  unfold opp;have e1:Pq.id.rot.inv.mul (sh 10 0 0).rot=Qq.id:=g_inv' dN;rw[e1];decide
 have ha:kT 100 (sh 10 0 0) [⟨0,Pq.id⟩]=(twS,0):=by
  rw[show kT 100 (sh 10 0 0) [⟨0,Pq.id⟩]=qz [⟨0,Pq.id⟩] (St.mk 100 (sh 10 0 0)).raw from rfl,vg (sh_good _ _ _)];unfold sK;simp[aN,plN,hop]
 have k:SetS (kT 100 (sh 10 0 0)) [(cf,{dh bw 0 with tr:=[⟨0,Pq.id⟩]})] cf 100 ([]++(cf,{dh bw 0 with tr:=(kT 100 (sh 10 0 0) [⟨0,Pq.id⟩]).1})::[]) (kT 100 (sh 10 0 0) [⟨0,Pq.id⟩]).2:=
  .ok (A:=[]) (B:=[]) (x:= {dh bw 0 with tr:=[⟨0,Pq.id⟩]}) rfl (by unfold tAt;rw[tk_b];rfl) rfl
 rw[ha]at k;exact d.uniq hT hR k
section
variable {R:Tr} {a:Int} (hR:REq R [(cf,twB)])
include hR
theorem tw_l:lks R cf=[twB]:=by rw[hR cf,tk_b]
theorem tw_m {q:Nm×Lk}:q∈R↔q=(cf,twB):=by rw[hR.mem];simp
theorem tw_t (h:0≤a):tAt R cf a=some twB:=by
 have:twB.has a=true:=dx.2 ⟨h,.inl rfl⟩;unfold tAt;rw[tw_l hR];simp only[List.find?,this]
theorem tw_p (h:0≤a):par R a cf=some bw:=by unfold par;rw[tw_t hR h];rfl
theorem tw_pb:par R a bw=none:=by
 cases hp:par R a bw with
 | none=>rfl
 | some y=>
  obtain⟨q,hq,_,_⟩:=jn hp;exact absurd (congrArg Prod.fst ((tw_m hR).1 hq)) nTT.symm
theorem tw_k:aY R cf∧aY R bw:=⟨⟨_,(tw_m hR).2 rfl,.inl rfl⟩,⟨_,(tw_m hR).2 rfl,.inr rfl⟩⟩
theorem tw_ab:bn R a bw=[bw]:=oO (.root (tw_pb hR))
theorem tw_aa (h:0≤a):bn R a cf=[cf,bw]:=oO (.step (tw_p hR h) (.root (tw_pb hR)))
theorem tw_e (h:0≤a):cL R cf a=trkP twS a:=by unfold cL;rw[tw_t hR h];rfl
theorem yM (h:0≤a):bf R a cf bw=(bw,0):=by
 unfold bf;rw[if_pos (tw_k hR),tw_aa hR h,tw_ab hR];simp[mE,nTT]
theorem tw_bel (h:0≤a):bQ (bn R a cf) bw=[cf]:=by rw[tw_aa hR h];simp[bQ,nTT]
theorem tw_na:bQ (bn R a bw) bw=[]:=by rw[tw_ab hR];simp[bQ]
theorem tw_ub:upP R a bw bw=(Pq.id,0):=by unfold upP;rw[tw_na hR];rfl
theorem tw_ua {p:Pq} (h:0≤a) (k:trkP twS a=(p,0)):upP R a cf bw=(p.mul Pq.id,0):=by
 unfold upP;rw[tw_bel hR h];unfold cw;rw[tw_e hR h,k,if_pos rfl];rfl
theorem tw_ua0 {p:Pq} {c:Int} (h:0≤a) (k:trkP twS a=(p,c)) (hc:c≠0):upP R a cf bw=(Pq.zero,c):=by
 unfold upP;rw[tw_bel hR h];unfold cw;rw[tw_e hR h,k,if_neg hc]
end
def oe:Pq:=⟨Qq.id,⟨⟨false,5,2⟩,Fq.ofInt 0,Fq.ofInt 0⟩⟩
theorem tw_k25:trkP twS 25=(oe,0):=by
 have e:atP ⟨0,Pq.id⟩ ⟨100,sh 10 0 0⟩ 0 25=oe:=by
  rw[atP_m (by decide)];kernel_rfl
 simp[trkP,plN,e]
theorem tw_k101:trkP twS 101=(Pq.zero,17):=by
 unfold trkP;simp only[List.getElem?_cons_zero,List.length_cons,List.length_nil];rw[show(0+1+1 - 1:Nat)=1 from rfl,show twS[1]? =some ⟨100,sh 10 0 0⟩from rfl];simp only;rw[if_pos (.inr (by decide))]
section
variable {R:Tr} (hR:REq R [(cf,twB)])
include hR
theorem tw_f1:aS R 25 bw cf=(oe,0):=by
 rw[uZ (yM hR (by decide)) (tw_ua hR (by decide) tw_k25) (tw_ub hR)];rw[show Pq.id.inv.mul (oe.mul Pq.id)=oe by kernel_rfl]
theorem tw_f2:aS R 101 bw cf=(Pq.zero,17):=findP_up (yM hR (by decide)) (tw_ua0 hR (by decide) tw_k101 (by decide)) (by decide)
end
theorem tw_text:oe.text=⟨#[49,32,48,32,48,32,48,32,53,47,50,32,48,32,48]⟩:=by kernel_rfl
theorem tw_ok:oe.ok 2:=⟨py,⟨⟨by decide,by decide,by decide⟩,aL (by decide) (by decide),aL (by decide) (by decide)⟩⟩
end Go.Proofs.YtggfmklppkioeaaGreat
