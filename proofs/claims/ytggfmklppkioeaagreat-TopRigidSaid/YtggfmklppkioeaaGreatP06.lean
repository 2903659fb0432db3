/- An executor: rows that grow; calls that change objects and variables. An executor: stores; every operation has the effect that is reckoned. An executor: regions, code, functions. An executor: operations one after the other; rows that grow no more. -/
import Derived.Test.YtggfmklppkioeaaGreatP05
namespace Go.Proofs.YtggfmklppkioeaaGreat
set_option linter.unusedSimpArgs false
set_option linter.unusedVariables false
set_option maxRecDepth 100000
open Go.RowKit
section
variable {p:Program} {ρ:Rho} {B B':Blk} {a a':Act} {w w':World} {w0:Ent} {C:List Inst} {L:List OIns} {nt i:Nat} {Q:Exit→Act→World→Prop} {o:Oper} {ops:Array Oper} {v:Value} {vt:List (TypeId×Nat)} {ks:List Nat} {X:Nat→Prop} {lk:Nat→Option AV}
structure Reb (B B':Blk) (ks:List Nat) (w w':World) (X:Nat→Prop):Prop where
 le:BLe B B'
 new:vO w.heap.size B B'
 old:∀g,X g→(∃k∈ks,B.o k g)∨∃x,B.v x=some g
 inj:BInj B
 chg:Chg w w' X
theorem Leaf.holds.reb {l:Leaf} (h:l.holds ρ B w v) (hn:∀k∈l.objs,k∉ks) (r:Reb B B' ks w w' X):l.holds ρ B' w' v:=by
 cases l<;>simp only[Leaf.holds]at h⊢ <;>try exact h
 ·obtain⟨g,h1,h2⟩:=h;exact⟨g,r.le.v _ _ h1,h2⟩
 ·obtain⟨s,h1,h2,h3⟩:=h;obtain⟨c1,c2⟩:=s.ch _ _ _ _ h2 r.chg (fun g hg hX=>h3 g hg (by
   rcases r.old g hX with⟨k,_,h⟩ | ⟨x,h⟩
   ·exact .inr ⟨k,h⟩
   ·exact .inl ⟨x,h⟩))
  refine⟨s,h1,c1,fun g hg hx=> ?_⟩;rcases r.new g hx with h | h
  ·exact h3 g (c2 g hg) h
  ·have:=s.lt _ _ _ h2 (c2 g hg);omega
 ·rename_i k m;obtain⟨s,h1,h2,h3,h4⟩:=h;have hk:k∉ks:=hn k (by simp[Leaf.objs]);obtain⟨c1,c2⟩:=s.ch _ _ _ _ h2 r.chg (fun g hg hX=>by
   rcases r.old g hX with⟨l,hl,h⟩ | ⟨x,h⟩
   ·have:=r.inj.o _ _ _ h (h3 g hg);subst this;exact hk hl
   ·exact r.inj.vo _ _ _ h (h3 g hg))
  exact⟨s,h1,c1,fun g hg=>r.le.o _ _ (h3 g (c2 g hg)),fun g hg=>r.le.o _ _ (h4 g hg)⟩
theorem aC.reb (r:Reb B B' ks w w' X):∀ {ls:List Leaf} {vs:List Value},aC ρ B w ls vs→(∀k∈ls.flatMap Leaf.objs,k∉ks)→aC ρ B' w' ls vs
 | [],[],_,_=>trivial
 | _::_,_::_,h,hn=>⟨h.1.reb (fun k hk=>hn k (by simp[hk])) r,aC.reb r h.2 (fun k hk=>hn k (by rw[List.flatMap_cons];exact List.mem_append.2 (.inr hk)))⟩
 | [],_::_,h,_=>h.elim
 | _::_,[],h,_=>h.elim
theorem SV.holds.reb {s:SV} (h:s.holds ρ B w v) (hn:∀k∈s.objs,k∉ks) (r:Reb B B' ks w w' X):s.holds ρ B' w' v:=by
 cases s with
 | one l=>exact Leaf.holds.reb h hn r
 | agg ls=>obtain⟨vs,e,h⟩:=h;exact⟨vs,e,h.reb r hn⟩
theorem bW.reb (r:Reb B B' ks w w' X):∀ {ls:List SV} {vs:List Value},bW ρ B w ls vs→(∀k∈ls.flatMap SV.objs,k∉ks)→bW ρ B' w' ls vs
 | [],[],_,_=>trivial
 | _::_,_::_,h,hn=>⟨h.1.reb (fun k hk=>hn k (by simp[hk])) r,bW.reb r h.2 (fun k hk=>hn k (by rw[List.flatMap_cons];exact List.mem_append.2 (.inr hk)))⟩
 | [],_::_,h,_=>h.elim
 | _::_,[],h,_=>h.elim
theorem AV.holds.reb {c:AV} (h:c.holds ρ B w v) (hn:c.hit ks=false) (r:Reb B B' ks w w' X):c.holds ρ B' w' v:=by
 have hn:∀k∈c.objs,k∉ks:=fun k hk=>by
  unfold AV.hit at hn;have:=List.any_eq_false.1 hn k hk;simpa using this
 cases c with
 | v s=>exact SV.holds.reb h hn r
 | tup xs=>obtain⟨vs,e,h⟩:=h;exact⟨vs,e,h.reb r hn⟩
 | any=>exact h
theorem bu.reb {x:Nat} {c:AV} (h:bu ρ B a w x c) (hn:c.hit ks=false) (r:Reb B B' ks w w' X) (hsm:¬x<100000→∀g,B.v (x / 100000 - 1)=some g→g<w.heap.size→(∀cs ty,w.heap[g]? =some (.cells cs ty (0,0))→x % 100000<cs.size→¬X g)) (ht:x<100000→a'.tmps[x]? =a.tmps[x]?):bu ρ B' a' w' x c:=by
 unfold bu at h⊢;split at h
 ·rename_i hx;rw[if_pos hx];obtain⟨u,h1,h2⟩:=h;exact⟨u,by rw[ht hx];exact h1,h2.reb hn r⟩
 ·rename_i hx;rw[if_neg hx];obtain⟨g,cs,ty,u,h1,h2,h3,h4⟩:=h;have hlt:=(Array.getElem?_eq_some_iff.1 h2).1;exact⟨g,cs,ty,u,r.le.v _ _ h1,by rw[r.chg.blk g hlt (hsm hx g h1 hlt cs ty h2 (Array.getElem?_eq_some_iff.1 h3).1)];exact h2,h3,h4.reb hn r⟩
theorem tX {lx:Leaf} {x:Value} (h:kR i lx=true) (hl:lx.holds ρ B w x):∀g,x.ownBlock=some g→B.o i g:=by
 intro g hg
 cases lx with
 | sl0=>
  have e:x= .slice none 0 0:=hl;subst e;cases hg
 | own k m=>
  have:k=i:=by simpa [kR]using h
  subst this;obtain⟨s,_,_,_,h4⟩:=hl;exact h4 g hg
 | _=>simp[kR]at h
theorem ok_app (hO:∀i∈L,i.OkE w0 p ρ) {k:Call} {d:Tmp} {x y:Operand} {t:TypeId} {lx ly:Leaf} {m:Nat} (hop:o.op= .call k) (hcal:k.callee= .builtin .append) (hd:o.dst=some d) (hargs:k.args.toList=[x,y]) (htt:k.argTypes.toList=[t,t]) (hx:evL lk x=some lx) (hy:evL lk y=some ly)
  (hf:cw L (.app t) [.one lx,.one ly]=some (.one (.own i m))) (hsame:kR i lx=true) (hdd:okD nt (some d)=true) (hi:Inv vt w0 nt B a w) (Hx:bc ρ B a w lk x) (Hy:bc ρ B a w lk y) {rd:List Nat}
  {K:Act→World→Prop} (hK:∀B' a' w',Post ρ vt w0 nt ⟨rd,[(d,.v (.one (.own i m)))],none,[i],[]⟩ B a w B' a' w'→K a' w'):Oper.wp p o a w K Q:=by
 have ex:=dQ Hx hx;have ey:=dQ Hy hy;have hold:=tX hsame ex;obtain⟨v,w',hrun,hgrow,hox,hblk,s1,hs1,hp1,hfp1⟩:=(er hO (fun _ _ h=>by cases h) hf) B w [a.eval x,a.eval y] ⟨ex,ey,trivial⟩ o.type;simp only[okD,Bool.and_eq_true,decide_eq_true_eq]at hdd;have hex:(execOp a.eval o).run p w= .ok (.value v) w':=by
  obtain⟨cal,args,tt⟩:=k;simp only at hcal hargs htt;subst hcal;have ea:args=#[x,y]:=by rw[←Array.toList_inj];exact hargs
  have et:tt=#[t,t]:=by rw[←Array.toList_inj];exact htt
  subst ea;subst et;unfold execOp;simp only[hop,resolve,invoke,builtin,Sem.run_bind,Sem.run_pure,Result.andThen_ok,List.map_toArray,List.map_cons,List.map_nil,hrun]
 unfold Oper.wp;rw[hex,Oper.upon_value,hd];have hne:∀k g,k≠i→B.o k g→v.ownBlock≠some g:=fun k g hx hBx hg=>by
  rcases(hblk g hg).1 with h | h
  ·exact hx (hi.inj.o _ _ _ hBx (hold g h))
  ·have:=hi.bok g (.inr ⟨k,hBx⟩);omega
 have hnv:∀x g,B.v x=some g→v.ownBlock≠some g:=fun x g hBx hg=>by
  rcases(hblk g hg).1 with h | h
  ·exact hi.inj.vo _ _ _ hBx (hold g h)
  ·have:=hi.bok g (.inl ⟨x,hBx⟩);omega
 have r:Reb B ⟨B.v,fun k g=>B.o k g∨(k=i∧v.ownBlock=some g)⟩ [i] w w' (fun g=>(a.eval x).ownBlock=some g):=by
  refine⟨⟨fun _ _ h=>h,fun _ _ h=>.inl h⟩,fun g hg=> ?_,fun g hX=>.inl ⟨i,by simp,hold g hX⟩,hi.inj,⟨hgrow.size,fun g hg hX=>hgrow.block g hg (fun e=>hX e.symm),fun g hX=>(hi.own _ g (hold g hX)).2⟩⟩;rcases hg with⟨x,h⟩ | ⟨k,h | ⟨_,h⟩⟩
  ·exact .inl (.inl ⟨x,h⟩)
  ·exact .inl (.inr ⟨k,h⟩)
  ·exact(hblk g h).1.imp (fun h=>.inr ⟨i,hold g h⟩) id
 have hsm:∀x g,B.v x=some g→w'.heap[g]? =w.heap[g]? :=fun x g hBx=>hgrow.block g (hi.bok g (.inl ⟨x,hBx⟩)) (fun e=>hi.inj.vo _ _ _ hBx (hold g e.symm))
 have hmay:∀g,v.ownBlock=some g→w0.may g:=fun g hg=>by
  rcases(hblk g hg).1 with h | h
  ·exact(hi.own _ g (hold g h)).1
  ·exact .ge hi.below h
 refine hK ⟨B.v,fun k g=>B.o k g∨(k=i∧v.ownBlock=some g)⟩ _ w' ⟨r.le,⟨fun x g hg=> ?_,fun k g hg=> ?_,⟨hi.inj.v,fun k l g h1 h2=> ?_,fun x k g h1 h2=> ?_⟩,?_,by rw[kS,hi.size],by rw[nK,hi.dfr],hi.pin⟩,fun q hq=> ?_,fun z c hz hne' hh=> ?_,fun u h1 h2=>absurd h1 h2⟩
 ·obtain⟨h1,cs,ty,h2,h3,h4⟩:=hi.blk x g hg;exact⟨h1,cs,ty,h2,by rw[hsm x g hg];exact h3,h4⟩
 ·rcases hg with hg | ⟨rfl,hg⟩
  ·obtain⟨h1,h2⟩:=hi.own k g hg;refine⟨h1,?_⟩;by_cases e:(a.eval x).ownBlock=some g
   ·exact hox g e
   ·exact h2.blk (hgrow.block g h2.1 (fun e'=>e e'.symm)) hgrow.size
  ·exact⟨hmay g hg,(hblk g hg).2.2⟩
 ·rcases h1 with h1 | ⟨e1,h1⟩<;>rcases h2 with h2 | ⟨e2,h2⟩
  ·exact hi.inj.o k l g h1 h2
  ·by_cases e:k=i
   ·rw[e,e2]
   ·exact absurd h2 (hne k g e h1)
  ·by_cases e:l=i
   ·rw[e,e1]
   ·exact absurd h1 (hne l g e h2)
  ·rw[e1,e2]
 ·rcases h2 with h2 | ⟨_,h2⟩
  ·exact hi.inj.vo x k g h1 h2
  ·exact hnv x g h1 h2
 ·refine⟨hgrow.os.trans hi.below.os,hgrow.tape.trans hi.below.tape,hgrow.output.trans hi.below.output,Nat.le_trans hi.below.size hgrow.size,fun g hg hX=>(hgrow.block g (Nat.lt_of_lt_of_le hg hi.below.size) (fun e=> ?_)).trans (hi.below.block g hg hX)⟩;rcases(hi.own _ g (hold g e.symm)).1 with h | h
  ·omega
  ·exact hX h
 ·simp only[List.mem_singleton]at hq;subst hq;unfold bu;rw[if_pos hdd.2];exact⟨v,sb (by rw[hi.size];exact hdd.1),s1,hs1,hp1,fun g hg=>.inr ⟨rfl,hfp1 g hg⟩,fun g hg=>.inr ⟨rfl,hg⟩⟩
 ·refine hz.reb hh r (fun _ g h1 _ _ _ _ _ h2=>hi.inj.vo _ _ _ h1 (hold g h2)) (fun _=>oA (fun t ht=>by injection ht with ht;subst ht;exact hne' (d,.v (.one (.own i m))) (by simp)))
theorem findM_ok (hO:∀i∈L,i.OkE w0 p ρ) {f:FuncId} {xs:List SV} {d:MutD} {pb:MutD→Bool} (h:tU L f xs pb=some d):∃r,(OIns.mk (.mut f d) xs r).OkE w0 p ρ:=by
 unfold tU at h;split at h
 ·rename_i g d' xs' r hf;injection h with h;subst h;have h1:=List.find?_some hf;simp only[Bool.and_eq_true,decide_eq_true_eq]at h1;obtain⟨⟨rfl,rfl⟩,_⟩:=h1;exact⟨r,hO _ (List.mem_of_find?_eq_some hf)⟩
 ·cases h
theorem tY {args:List Operand}:∀ {l:List (Nat×SV)} {kw:List (Nat×AV)} {q:Nat×AV},ov nt args l=some kw→q∈kw→q.1<100000∧q.1<nt∧∃r∈l,args[r.1]? =some (.tmp q.1)∧q.2= .v r.2
 | [],kw,q,h,hq=>by simp only[ov,Option.some.injEq]at h;subst h;cases hq
 | (i,c)::r,kw,q,h,hq=>by
  simp only[ov]at h;split at h
  ·rename_i t l ht hl;split at h
   ·rename_i htl;injection h with h;subst h;rcases List.mem_cons.1 hq with rfl | hq
    ·exact⟨htl.1,htl.2,(i,c),by simp,ht,rfl⟩
    ·obtain⟨h1,h2,r',h3,h4⟩:=tY hl hq;exact⟨h1,h2,r',List.mem_cons_of_mem _ h3,h4⟩
   ·cases h
  ·cases h
theorem preE_ok {vts:List (TypeId×Nat)} {rest:List (TypeId×Nat)} {q:Nat×TypeId×List Leaf} (h:preE lk vts q=true) (hvt:vt=vts++rest) (hi:Inv vt w0 nt B a w) (H:∀x∈kM q.1 0 q.2.2.length,∀c,lk x=some c→bu ρ B a w x c):ol ρ B w q:=by
 simp only[preE,Bool.and_eq_true,decide_eq_true_eq]at h;obtain⟨h1,⟨h2,h3⟩,h4⟩:=h;obtain⟨_,hc⟩:=eI h4 (by omega) H;obtain⟨g,cs,ty,e1,e2,vs,e3,e4⟩:=hc h2;obtain⟨_,cs',ty',f1,f2,f3⟩:=hi.blk q.1 g e1;rw[e2]at f2;injection f2 with f2;injection f2 with f2 f2';subst f2;subst f2';rw[hvt,List.getElem?_append_left (List.getElem?_eq_some_iff.1 h1).1,h1]at f1;simp only[Option.some.injEq,Prod.mk.injEq]at f1;obtain⟨rfl,f1⟩:=f1;refine⟨g,cs,e1,e2,?_,f3⟩;have hl:=e3.len;have:vs=cs.toList:=List.ext_getElem? (fun k=>by
  by_cases hk:k<vs.length
  ·have:=e4 k vs[k] (List.getElem?_eq_getElem hk);rw[Nat.zero_add]at this;rw[List.getElem?_eq_getElem hk,Array.getElem?_toList,this]
  ·rw[List.getElem?_eq_none (by omega),List.getElem?_eq_none (by simp;omega)])
 rw[←this];exact e3
theorem ol.loc {q:Nat×TypeId×List Leaf} {k:Nat} {l:Leaf} (h:ol ρ B w q) (hk:k<100000) (hl:q.2.2[k]? =some l):bu ρ B a w (kL q.1 k) (.v (.one l)):=by
 obtain⟨g,cs,h1,h2,h3,_⟩:=h;obtain⟨u,h4,h5⟩:=h3.get hl;rw[gi hk];exact⟨g,cs,_,u,h1,h2,by rw[←Array.getElem?_toList];exact h4,h5⟩
theorem ok_mut1 (hO:∀i∈L,i.OkE w0 p ρ) {k:Call} {z:Operand} {f:FuncId} {xs:List SV} {d:MutD} {vts rest:List (TypeId×Nat)} {kw:List (Nat×AV)} (hop:o.op= .call k) (hcal:k.callee= .value z) (hz:evL lk z=some (.fn f)) (hxs:nw lk k.args.toList=some xs) {pb:MutD→Bool} (hf:tU L f xs pb=some d)
  (hpre:∀x∈d.pre,preE lk vts x=true) (hus:∀x∈d.us,usE vts x=true) (hnv:nvE vts d.nv=true) (hkw:ov nt k.args.toList d.keep=some kw) (hkd:kw.all (fun q=>decide (o.dst≠some q.1))=true) (hdd:okD nt o.dst=true)
  (hvt:vt=vts++((d.nv.toList.map fun q=>(q.2.1,q.2.2.length))++rest)) (hi:Inv vt w0 nt B a w) (H:∀x∈iz o.op++d.pre.flatMap (fun q=>kM q.1 0 q.2.2.length),∀c,lk x=some c→bu ρ B a w x c) (hn:∀v,d.nv.map (·.1)=some v→B.v v=none)
  {K:Act→World→Prop} (hK:∀B' a' w',Post ρ vt w0 nt ⟨iz o.op++d.pre.flatMap (fun q=>kM q.1 0 q.2.2.length),wrD o.dst (zh d.xs)++(kw++(d.us.flatMap (fun q=>dt q.1 0 q.2.2)++nvW d.nv)),d.nv.map (·.1),d.ks,[]⟩ B a w B' a' w'→K a' w'):Oper.wp p o a w K Q:=by
 have HO:∀x∈iz o.op,∀c,lk x=some c→bu ρ B a w x c:=fun x hx=>H x (List.mem_append.2 (.inl hx))
 obtain⟨r0,hr0⟩:=findM_ok hO hf;obtain⟨cal,args,tt⟩:=k;simp only at hcal hxs hkw;subst hcal;have HA:∀x∈args.toList,bc ρ B a w lk x:=fun x hx y hy c hc=>HO y (by rw[hop];unfold iz;exact List.mem_flatMap.2 ⟨x,by simp only[Op.operands,Call.operands,Array.toList_append,List.mem_append];exact .inr hx,hy⟩) c hc
 have e1:a.eval z=fnV f:=dQ (fun y hy c hc=>HO y (by rw[hop];unfold iz;exact List.mem_flatMap.2 ⟨z,by simp[Op.operands,Call.operands],hy⟩) c hc) hz;have e2:=eY hxs HA;obtain⟨hent,hcall⟩:=hr0 B w (args.toList.map a.eval) hi.pin e2;have ea:(args.toList.map a.eval).toArray=args.map a.eval:=by rw[←Array.toList_map,Array.toArray_toList]
 rw[ea]at hent hcall;have hex:(execOp a.eval o).run p w= .ok (.enter f (args.map a.eval)) w:=by
  simp[execOp,hop,resolve,invoke,Deferred.ofValue,e1,hent,Result.andThen]
 unfold Oper.wp;rw[hex,Oper.upon_enter];have hnone:∀q,d.nv=some q→B.v q.1=none:=fun q hq=>hn q.1 (by rw[hq];rfl)
 have hnvi:∀q,d.nv=some q→q.1=vts.length∧q.2.2.length≤100000:=fun q hq=>by
  rw[hq]at hnv;simp only[nvE,decide_eq_true_eq]at hnv;exact⟨hnv.1,hnv.2.2⟩
 refine(hcall hi.bok hi.inj (fun k g h=>(hi.own k g h).2) (fun x g h=> ?_) hnone (fun q hq=> ?_)).mono ?_
 ·obtain⟨_,cs,ty,_,h3,h4⟩:=hi.blk x g h;exact .mk' h3 h4
 ·exact preE_ok (hpre q hq) hvt hi (fun x hx c hc=>H x (List.mem_append.2 (.inr (List.mem_flatMap.2 ⟨q,hq,hx⟩))) c hc)
 ·rintro e w' ⟨v,B',rfl,hres,hkeep,hus',hnv',hm⟩;have hBv:∀x g,B.v x=some g→B'.v x=some g:=fun x g h=>by
   rw[hm.v x (fun q hq e=>by subst e;rw[hnone q hq]at h;cases h)];exact h
  have hBn:∀x g,B'.v x=some g→(∃q,d.nv=some q∧x=q.1∧w.heap.size≤g)∨B.v x=some g:=fun x g h=>by
   by_cases e:∃q,d.nv=some q∧x=q.1
   ·obtain⟨q,hq,rfl⟩:=e;exact .inl ⟨q,hq,rfl,hm.nv q g hq h⟩
   ·rw[hm.v x (fun q hq e'=>e ⟨q,hq,e'⟩)]at h;exact .inr h
  have r:Reb B B' d.ks w w' (fun g=>(∃k∈d.ks,B.o k g)∨∃q∈d.us,B.v q.1=some g):=by
   refine⟨⟨hBv,hm.o⟩,fun g hg=> ?_,fun g h=>h.imp id (fun⟨q,_,h⟩=>⟨_,h⟩),hi.inj,hm.chg⟩;rcases hg with⟨x,h⟩ | ⟨k,h⟩
   ·rcases hBn x g h with⟨_,_,_,h⟩ | h
    ·exact .inr h
    ·exact .inl (.inl ⟨x,h⟩)
   ·exact(hm.new k g h).imp (fun h=>.inr ⟨k,h⟩) (fun h=>h.2)
  have husv:∀q∈d.us,vts[q.1]? =some (q.2.1,q.2.2.length)∧q.2.2.length≤100000:=fun q hq=>by
   have:=hus q hq;simp only[usE,Bool.and_eq_true,decide_eq_true_eq]at this;exact this
  have hblk:∀x g,B.v x=some g→(∀q∈d.us,q.1≠x)→w'.heap[g]? =w.heap[g]? :=fun x g h hne=>hm.chg.blk g (hi.bok g (.inl ⟨x,h⟩)) (fun hX=>by
   rcases hX with⟨k,_,h2⟩ | ⟨q,hq,h2⟩
   ·exact hi.inj.vo _ _ _ h h2
   ·exact hne q hq (hi.inj.v _ _ _ h2 h))
  refine hK B' _ w' ⟨r.le,⟨fun x g hg=> ?_,fun k g hg=> ?_,hm.inj,?_,by rw[kS,hi.size],by rw[nK,hi.dfr],fun x g h=>hBv _ _ (hi.pin x g h)⟩,fun q hq=> ?_,fun x c hx hne hh=> ?_,fun u h1 h2=> ?_⟩
  ·rcases hBn x g hg with⟨q,hq,rfl,hge⟩ | hb
   ·obtain⟨g',cs,e1,e2,e3,e4⟩:=hnv' q hq;rw[hg]at e1;injection e1 with e1;subst e1;refine⟨.ge hi.below hge,cs,_,?_,e2,e4⟩;have h2:=e3.len;rw[hvt,List.getElem?_append_right (by rw[(hnvi q hq).1];exact Nat.le_refl _),(hnvi q hq).1,Nat.sub_self,hq];simpa using h2.symm
   ·obtain⟨h1,cs,ty,h2,h3,h4⟩:=hi.blk x g hb;by_cases hu:∃q∈d.us,q.1=x
    ·obtain⟨q,hq,rfl⟩:=hu;obtain⟨g',cs',e1,e2,e3,e4⟩:=hus' q hq;rw[hg]at e1;injection e1 with e1;subst e1;refine⟨h1,cs',_,?_,e2,e4⟩;have h5:=(husv q hq).1;rw[hvt,List.getElem?_append_left (List.getElem?_eq_some_iff.1 h5).1,h5];have h6:=e3.len;simpa using h6.symm
    ·exact⟨h1,cs,ty,h2,by rw[hblk x g hb (fun q hq e=>hu ⟨q,hq,e⟩)];exact h3,h4⟩
  ·rcases hm.new k g hg with h | ⟨hk,h⟩
   ·obtain⟨h2,h3⟩:=hi.own k g h;refine⟨h2,?_⟩;by_cases hk:k∈d.ks
    ·exact hm.own k g hk hg
    ·refine h3.blk (hm.chg.blk g h3.1 (fun hX=> ?_)) hm.chg.size;rcases hX with⟨l,hl,h'⟩ | ⟨q,_,h'⟩
     ·have:=hi.inj.o _ _ _ h' h;subst this;exact hk hl
     ·exact hi.inj.vo _ _ _ h' h
   ·exact⟨.ge hi.below h,hm.own k g hk hg⟩
  ·refine⟨hm.os.trans hi.below.os,hm.tape.trans hi.below.tape,hm.output.trans hi.below.output,Nat.le_trans hi.below.size hm.chg.size,fun g hg hX=>(hm.chg.blk g (Nat.lt_of_lt_of_le hg hi.below.size) (fun h=> ?_)).trans (hi.below.block g hg hX)⟩;have hmay:w0.may g:=by
    rcases h with⟨l,_,h⟩ | ⟨q,_,h⟩
    ·exact(hi.own l g h).1
    ·exact(hi.blk _ g h).1
   rcases hmay with h | h
   ·omega
   ·exact hX h
  ·
   rcases List.mem_append.1 hq with hq | hq
   ·cases hd:o.dst with
    | none=>rw[hd]at hq;cases hq
    | some t=>
     rw[hd]at hq hdd;simp only[wrD,List.mem_singleton]at hq;subst hq;simp only[okD,Bool.and_eq_true,decide_eq_true_eq]at hdd;unfold bu;rw[if_pos hdd.2];exact⟨v,sb (by rw[hi.size];exact hdd.1),hres⟩
   ·rcases List.mem_append.1 hq with hq | hq
    ·obtain⟨h1,h2,q',h3,h4,h5⟩:=tY hkw hq;obtain⟨u,h6,h7⟩:=hkeep q' h3;have hdne:=of_decide_eq_true (List.all_eq_true.1 hkd q hq);rw[List.getElem?_map,h4]at h6;simp only[Option.map_some,Option.some.injEq]at h6;unfold bu;rw[if_pos h1,h5];refine⟨u,?_,h7⟩;rw[oA (fun t' ht' e=>hdne (by rw[ht',e])),←h6];simp[Act.eval,h2,hi.size]
    ·rcases List.mem_append.1 hq with hq | hq
     ·obtain⟨q',h1,h2⟩:=List.mem_flatMap.1 hq;obtain⟨j,l,h3,rfl⟩:=jN.1 h2;have hl:=(List.getElem?_eq_some_iff.1 h3).1;exact(hus' q' h1).loc (by have:=(husv q' h1).2;omega) (by rw[Nat.zero_add];exact h3)
     ·cases hd:d.nv with
      | none=>rw[hd]at hq;cases hq
      | some q'=>
       rw[hd]at hq;obtain⟨j,l,h3,rfl⟩:=jN.1 hq;have hl:=(List.getElem?_eq_some_iff.1 h3).1;exact(hnv' q' hd).loc (by have:=(hnvi q' hd).2;omega) (by rw[Nat.zero_add];exact h3)
  ·refine hx.reb hh r (fun hxs g h1 hlt cs ty h2 h3 hX=> ?_) (fun hxs=>oA (fun t ht e=> ?_))
   ·rcases hX with⟨k,_,h⟩ | ⟨q,hq,h⟩
    ·exact hi.inj.vo _ _ _ h1 h
    ·have h4:=hi.inj.v _ _ _ h h1;obtain⟨h5,h6⟩:=husv q hq;obtain⟨_,cs',ty',f1,f2,_⟩:=hi.blk _ g h1;rw[h2]at f2;injection f2 with f2;injection f2 with f2 _;subst f2;rw[←h4,hvt,List.getElem?_append_left (List.getElem?_eq_some_iff.1 h5).1,h5]at f1;simp only[Option.some.injEq,Prod.mk.injEq]at f1;have hl:x % 100000<q.2.2.length:=by rw[f1.2];exact h3
     refine hne (kL q.1 (0+x % 100000),.v (.one q.2.2[x % 100000])) ?_ ?_
     ·refine List.mem_append.2 (.inr (List.mem_append.2 (.inr (List.mem_append.2 (.inl (List.mem_flatMap.2 ⟨q,hq,jN.2 ⟨_,_,List.getElem?_eq_getElem hl,rfl⟩⟩))))))
     ·unfold kL;have h7:=Nat.div_add_mod x 100000;simp only;omega
   ·rw[ht]at hne;exact hne (t,zh d.xs) (by simp[wrD]) e
  ·cases hb:B'.v u with
   | none=>exact absurd hb h2
   | some g=>
    rcases hBn u g hb with⟨q,hq,rfl,_⟩ | h
    ·simp[hq]
    ·rw[h1]at h;cases h
theorem ok_mut (hO:∀i∈L,i.OkE w0 p ρ) {k:Call} {z:Operand} {f:FuncId} {xs:List SV} {d:MutD} {vts new rest:List (TypeId×Nat)} {e:Eff} (hop:o.op= .call k) (hcal:k.callee= .value z) (hz:evL lk z=some (.fn f)) (hxs:nw lk k.args.toList=some xs) {pb:MutD→Bool} (hf:tU L f xs pb=some d)
  (h:mutE nt lk vts o.op k.args.toList o.dst d=some (e,new)) (hdd:okD nt o.dst=true) (hvt:vt=vts++(new++rest)) (hi:Inv vt w0 nt B a w) (H:∀x∈e.rd,∀c,lk x=some c→bu ρ B a w x c) (hn:∀v,e.al=some v→B.v v=none)
  {K:Act→World→Prop} (hK:∀B' a' w',Post ρ vt w0 nt e B a w B' a' w'→K a' w'):Oper.wp p o a w K Q:=by
 unfold mutE at h;split at h
 ·rename_i hck;simp only[Bool.and_eq_true,List.all_eq_true]at hck;obtain⟨hpre,hus,hnv⟩:=hck
  cases hkw:ov nt k.args.toList d.keep with
  | none=>rw[hkw]at h;cases h
  | some kw=>
   rw[hkw]at h;simp only at h;split at h
   ·rename_i hkd;simp only[Option.some.injEq,Prod.mk.injEq]at h;obtain⟨rfl,rfl⟩:=h;exact ok_mut1 hO hop hcal hz hxs hf hpre hus hnv hkw hkd hdd hvt hi H hn hK
   ·cases h
 ·cases h
end
section
variable {p:Program} {ρ:Rho} {B B':Blk} {a a':Act} {w w':World} {w0:Ent} {C:List Inst} {L:List OIns} {lk:Nat→Option AV} {vt:List (TypeId×Nat)} {nt:Nat} {Q:Exit→Act→World→Prop} {o:Oper} {ops:Array Oper}
theorem vY {g k:Nat} {v:Value} {cs:Array Value} {ty:TypeId} (h:w.heap[g]? =some (.cells cs ty (0,0))) (hk:k<cs.size) (hv:dU v):(Go.store ⟨g,k,none⟩ v).run p w= .ok () (w.setCell ⟨g,k,none⟩ v):=by
 have h1:w.cell? ⟨g,k,none⟩=some cs[k]:=by rw[aA h];exact Array.getElem?_eq_getElem hk
 have h2:w.frozen? ⟨g,k,none⟩=false:=frozen_of_row w g k _ _ h;have h3:=hv.1;have h4:=hv.2.1;unfold Go.store
 cases v with
 | agg cs=>exact absurd rfl (h3 cs)
 | tuple vs=>exact absurd rfl (h4 vs)
 | _=>simp[Sem.run,h1,h2]
theorem fb {g o:Nat} {ty:TypeId}:∀(vs:List Value) (i:Nat) (w:World) (cs:Array Value),w.heap[g]? =some (.cells cs ty (0,0))→o+i+vs.length≤cs.size→(∀v∈vs,dU v)→
  ∃w' cs',(storeCells ⟨g,o,none⟩ vs i).run p w= .ok () w'∧Upd w g w'∧w'.heap[g]? =some (.cells cs' ty (0,0))∧cs'.size=cs.size∧
   (∀k v,vs[k]? =some v→cs'[o+i+k]? =some v)∧∀k,(k<o+i∨o+i+vs.length≤k)→cs'[k]? =cs[k]?
 | [],i,w,cs,h,_,_=>⟨w,cs,by simp[storeCells],⟨rfl,rfl,rfl,rfl,fun _ _=>rfl⟩,h,rfl,by simp,fun _ _=>rfl⟩
 | v::vs,i,w,cs,h,hle,hv=>by
  simp only[List.length_cons]at hle;have h1:=vY (p:=p) (k:=o+i) h (by omega) (hv v (by simp));have h2:=heap_setCell_same w g (o+i) _ _ v h;obtain⟨w',cs',e1,e2,e3,e4,e5,e6⟩:=fb (o:=o) vs (i+1) (w.setCell ⟨g,o+i,none⟩ v) (cs.setIfInBounds (o+i) v) h2 (by simp;omega) (fun u hu=>hv u (List.mem_cons_of_mem _ hu));have hlen:=e4;refine⟨w',cs',?_,(Upd.cell w g (o+i) v).trans e2,e3,by rw[e4];simp,fun k u hu=> ?_,fun k hk=> ?_⟩
  ·unfold storeCells;rw[Sem.run_bind,dr,h1];exact e1
  ·match k with
   | 0=>
    simp at hu;subst hu;rw[e6 (o+i+0) (by omega)];simp[show o+i<cs.size from by omega]
   | k+1=>
    have:=e5 k u (by simpa using hu);rwa [show o+(i+1)+k=o+i+(k+1)from by omega]at this
  ·rw[e6 k (by simp only[List.length_cons]at hk;omega)];simp only[List.length_cons]at hk;rw[Array.getElem?_setIfInBounds,if_neg (by omega)]
theorem bu.upd {x g:Nat} {c:AV} (h:bu ρ B a w x c) (o:bC w g) (u:Upd w g w') (hb:∃x,B.v x=some g) (hi:BInj B) (hx:¬x<100000→∀g' cs ty y,B.v (x / 100000 - 1)=some g'→w.heap[g']? =some (.cells cs ty (0,0))→cs[x % 100000]? =some y→∃cs',w'.heap[g']? =some (.cells cs' ty (0,0))∧cs'[x % 100000]? =some y):bu ρ B a w' x c:=by
 unfold bu at h⊢;split at h
 ·rename_i hx;rw[if_pos hx];obtain⟨v,h1,h2⟩:=h;exact⟨v,h1,h2.upd o u hb hi⟩
 ·rename_i hn;rw[if_neg hn];obtain⟨g',cs,ty,v,h1,h2,h3,h4⟩:=h;obtain⟨cs',h5,h6⟩:=hx hn g' cs ty v h1 h2 h3;exact⟨g',cs',ty,v,h1,h5,h6,h4.upd o u hb hi⟩
theorem ok_store {t:TypeId} {x y:Operand} {v off n:Nat} {ty:TypeId} {s:SV} (ho:o.op= .store t x y) (hd:o.dst=none) (hx:evL lk x=some (.ptr v off)) (hy:evS lk y=some s) (hvt:vt[v]? =some (ty,n))
  (hs:szB p t=some s.leaves.length) (hf:kQ s.leaves=true) (hle:off+s.leaves.length≤n) (hn:n≤100000) (hi:Inv vt w0 nt B a w) (Hx:bc ρ B a w lk x) (Hy:bc ρ B a w lk y) {rd:List Nat}
  {K:Act→World→Prop} (hK:∀B' a' w',Post ρ vt w0 nt ⟨rd,dt v off s.leaves,none,[],[]⟩ B a w B' a' w'→K a' w'):Oper.wp p o a w K Q:=by
 obtain⟨g,hg,e1⟩:=(dQ Hx hx:Leaf.holds ρ B w (.ptr v off) (a.eval x));have e2:=dP Hy hy;have hc:=e2.cells;obtain⟨hge,cs,ty',f1,f2,f3⟩:=hi.blk v g hg;rw[hvt]at f1;simp only[Option.some.injEq,Prod.mk.injEq]at f1;obtain⟨rfl,rfl⟩:=f1;have hlen:=hc.len;have hflat:∀u∈(a.eval y).cells.toList,dU u:=fun u hu=>by
  obtain⟨k,hk,rfl⟩:=List.getElem_of_mem hu;obtain⟨z,h1,h2⟩:=hc.get (List.getElem?_eq_getElem (show k<s.leaves.length by omega));rw[List.getElem?_eq_getElem hk]at h1;injection h1 with h1;rw[h1];exact h2.flat (List.all_eq_true.1 hf _ (List.getElem_mem _))
 obtain⟨w',cs',g1,g2,g3,g4,g5,g6⟩:=fb (p:=p) (o:=off) (a.eval y).cells.toList 0 w cs f2 (by omega) hflat;have ow:bC w g:=.mk' f2 f3;have hrun:(execOp a.eval o).run p w= .ok .skip w':=by
  unfold execOp;rw[ho];simp only[Sem.run_bind,Instr.storeAt,e1,Instr.sureAddr,Sem.run_pure,Result.andThen,storeVar,bm hs];rw[if_neg (by simp only[ne_eq,Classical.not_not];simpa using hlen)];rw[g1]
 unfold Oper.wp;rw[hrun,Oper.upon_skip,hd];show K a w';have hcell:∀g' cs1 ty1,w.heap[g']? =some (.cells cs1 ty1 (0,0))→∃cs2,w'.heap[g']? =some (.cells cs2 ty1 (0,0))∧cs2.size=cs1.size∧(g'≠g→cs2=cs1):=fun g' cs1 ty1 h=>by
  by_cases e:g'=g
  ·subst e;rw[f2]at h;injection h with h;injection h with h h2;subst h;subst h2;exact⟨cs',g3,g4,fun h=>absurd rfl h⟩
  ·exact⟨cs1,by rw[g2.block g' e];exact h,rfl,fun _=>rfl⟩
 refine hK B a w' ⟨BLe.refl,⟨fun v' g' hg'=> ?_,fun v' g' hg'=> ?_,hi.inj,hi.below.upd g2 hge,hi.size,hi.dfr,hi.pin⟩,fun q hq=> ?_,fun z c hz hne _=>hz.upd ow g2 ⟨_,hg⟩ hi.inj (fun hz1 g' cs1 ty1 y1 h1 h2 h3=> ?_),fun u h1 h2=>absurd h1 h2⟩
 ·obtain⟨h1,cs1,ty1,h2,h3,h4⟩:=hi.blk v' g' hg';obtain⟨cs2,k1,k2,k3⟩:=hcell g' cs1 ty1 h3;refine⟨h1,cs2,ty1,by rw[k2];exact h2,k1,fun k m hk=> ?_⟩;by_cases e:g'=g
  ·subst e;rw[g3]at k1;injection k1 with k1;injection k1 with k1 _;subst k1;by_cases hin:k<off∨off+(a.eval y).cells.toList.length≤k
   ·rw[g6 k (by simpa using hin)]at hk;exact f3 k m hk
   ·have hk2:k - off<(a.eval y).cells.toList.length:=by omega
    have:=g5 (k - off) _ (List.getElem?_eq_getElem hk2);rw[show off+0+(k - off)=k from by omega,hk]at this;injection this with this;exact(hflat _ (List.getElem_mem hk2)).2.2 m this.symm
  ·rw[k3 e]at hk;exact h4 k m hk
 ·obtain⟨h1,h2⟩:=hi.own v' g' hg';have hne:g'≠g:=fun e=>by subst e;exact hi.inj.vo _ _ _ hg hg'
  exact⟨h1,h2.blk (g2.block g' hne) (by rw[g2.size];exact Nat.le_refl _)⟩
 ·obtain⟨j,l,h1,rfl⟩:=jN.1 hq;have hj:=(List.getElem?_eq_some_iff.1 h1).1;obtain⟨u,h2,h3⟩:=hc.get h1;rw[gi (by omega)];exact⟨g,cs',ty,u,hg,g3,by have:=g5 j u h2;simpa using this,(h3.upd ow g2 ⟨_,hg⟩ hi.inj:Leaf.holds ρ B w' l u)⟩
 ·by_cases e:g'=g
  ·subst e;rw[f2]at h2;injection h2 with h2;injection h2 with h2 h2';subst h2;subst h2';refine⟨cs',g3,?_⟩;have hv:=hi.inj.v _ _ _ h1 hg;by_cases hin:z % 100000<off∨off+(a.eval y).cells.toList.length≤z % 100000
   ·rw[g6 _ (by simpa using hin)];exact h3
   ·have hk2:z % 100000 - off<s.leaves.length:=by omega
    refine absurd ?_ (hne (kL v (off+(z % 100000 - off)),.v (.one s.leaves[z % 100000 - off])) (jN.2 ⟨_,_,List.getElem?_eq_getElem hk2,rfl⟩));unfold kL;have:z / 100000=v+1:=by omega
    have h5:=Nat.div_add_mod z 100000;simp only;omega
  ·obtain⟨cs2,k1,k2,k3⟩:=hcell g' cs1 ty1 h2;exact⟨cs2,k1,by rw[k3 e];exact h3⟩
theorem findC_ok (hC:∀i∈C,i.Ok0 p ρ w0) {f:FuncId} {xs:List SV} {r:AV} (h:xV C f xs=some r):(Inst.mk f xs r).Ok0 p ρ w0:=by
 unfold xV at h;split at h
 ·rename_i i hi;simp at h;subst h;have h1:=List.find?_some hi;simp only[Bool.and_eq_true,decide_eq_true_eq]at h1;have:=hC i (List.mem_of_find?_eq_some hi);obtain⟨f',xs',r'⟩:=i;obtain⟨rfl,rfl⟩:=h1;exact this
 ·cases h
theorem ok_call (hC:∀i∈C,i.Ok0 p ρ w0) {k:Call} {z:Operand} {f:FuncId} {xs:List SV} {r:AV} (ho:o.op= .call k) (hk:k.callee= .value z) (hz:evL lk z=some (.fn f)) (hxs:nw lk k.args.toList=some xs) (hr:xV C f xs=some r)
  (hd:okD nt o.dst=true) (hi:Inv vt w0 nt B a w) (H:∀x∈(Op.call k).operands.toList,bc ρ B a w lk x) {rd:List Nat}
  {K:Act→World→Prop} (hK:∀B' a' w',Post ρ vt w0 nt ⟨rd,wrD o.dst r,none,[],[]⟩ B a w B' a' w'→K a' w'):Oper.wp p o a w K Q:=by
 obtain⟨cal,args,tt⟩:=k;simp only at hk hxs;subst hk;have e1:a.eval z=fnV f:=dQ (H z (by simp[Op.operands,Call.operands])) hz;have e2:=eY hxs (fun x hx=>H x (by simp only[Op.operands,Call.operands,Array.toList_append,List.mem_append];exact .inr hx));obtain⟨hen,hcall⟩:=findC_ok hC hr;have hc:=hcall B w _ hi.below hi.bok e2;have ea:(args.toList.map a.eval).toArray=args.map a.eval:=by rw[←Array.toList_map,Array.toArray_toList]
 rw[ea]at hc;unfold Oper.wp;have:(execOp a.eval o).run p w= .ok (.enter f (args.map a.eval)) w:=by
  simp[execOp,ho,resolve,invoke,Deferred.ofValue,e1,hen,Result.andThen]
 rw[this,Oper.upon_enter];refine hc.mono ?_;rintro e w' ⟨v,rfl,h1,h2⟩;exact hK B _ w' (eZ hi hd h2 h1)
theorem ok_pure (hO:∀i∈L,i.OkE w0 p ρ) {c:AV} {rd:List Nat} (h:qK p L lk o.op=some (c,rd)) (hd:okD nt o.dst=true) (hi:Inv vt w0 nt B a w) (H:∀x∈iz o.op++rd,∀c,lk x=some c→bu ρ B a w x c)
  {rd':List Nat} {K:Act→World→Prop} (hK:∀B' a' w',Post ρ vt w0 nt ⟨rd',wrD o.dst c,none,[],[]⟩ B a w B' a' w'→K a' w'):Oper.wp p o a w K Q:=by
 obtain⟨u,h1,h2⟩:=zr hO h (fun x hx y hy c hc=>H y (List.mem_append.2 (.inl (by unfold iz;exact List.mem_flatMap.2 ⟨x,hx,hy⟩))) c hc) (fun y hy c hc=>H y (List.mem_append.2 (.inr hy)) c hc);unfold Oper.wp;rw[h1,Oper.upon_value];exact hK B _ w (eZ hi hd (Below.refl _ _) h2)
theorem xW:∀(l:List (Nat×Operand)),(l.map (·.1)).zip ((l.map (·.2)).map a.eval)=l.map fun q=>(q.1,a.eval q.2)
 | []=>rfl
 | _::l=>congrArg (_:: ·) (xW l)
theorem ok_bs (hO:∀i∈L,i.OkE w0 p ρ) {t:TypeId} {n:Nat} {parts:Array (Nat×Operand)} {xs:List SV} {r:SV} (ho:o.op= .buildSlice t n parts) (hxs:nw lk (parts.toList.map (·.2))=some xs) (hr:cw L (.bs t n (parts.toList.map (·.1))) xs=some r)
  (hd:okD nt o.dst=true) (hi:Inv vt w0 nt B a w) (H:∀x∈(Op.buildSlice t n parts).operands.toList,bc ρ B a w lk x) {rd:List Nat}
  {K:Act→World→Prop} (hK:∀B' a' w',Post ρ vt w0 nt ⟨rd,wrD o.dst (.v r),none,[],[]⟩ B a w B' a' w'→K a' w'):Oper.wp p o a w K Q:=by
 have e2:=eY hxs (fun x hx=>H x (by simpa [Op.operands]using hx));obtain⟨v,w',h1,h2,h3⟩:=(er hO (fun _ _ h=>by cases h) hr) B w _ e2 hi.bok;rw[xW]at h2;have:(execOp a.eval o).run p w= .ok (.value v) w':=by
  unfold execOp;rw[ho];have e3:(parts.map fun x=>match x with | (i,x)=>(i,a.eval x))=(parts.toList.map fun q=>(q.1,a.eval q.2)).toArray:=by
   obtain⟨l⟩:=parts;simp
  simp only[Sem.run_bind];rw[e3,h2];rfl
 unfold Oper.wp;rw[this,Oper.upon_value];exact hK B _ w' (eZ hi hd h3 h1)
theorem xX (hC:∀i∈C,i.Ok0 p ρ w0) (hO:∀i∈L,i.OkE w0 p ρ) {vts new rest:List (TypeId×Nat)} {e:Eff} (h:tV p C L nt lk vts o=some (e,new)) (hvt:vt=vts++(new++rest)) (hi:Inv vt w0 nt B a w)
  (H:∀x∈e.rd,∀c,lk x=some c→bu ρ B a w x c) (hn:∀v,e.al=some v→B.v v=none) {K:Act→World→Prop} (hK:∀B' a' w',Post ρ vt w0 nt e B a w B' a' w'→K a' w'):Oper.wp p o a w K Q:=by
 unfold tV at h;split at h
 ·cases h
 ·rename_i hd;have hd:okD nt o.dst=true:=by simpa using hd
  have hpv:∀ {h:(match qK p L lk o.op with | some (c,rd)=>some (Eff.mk (iz o.op++rd) (wrD o.dst c) none [] [],([]:List (TypeId×Nat))) | none=>none)=some (e,new)},Oper.wp p o a w K Q:=by
   intro h;split at h
   ·rename_i c rd hp;simp at h;obtain⟨rfl,rfl⟩:=h;exact ok_pure hO hp hd hi H hK
   ·cases h
  dsimp only at h;split at h
  ·
   rename_i t ho;split at h
   ·rename_i d z hdd hz;split at h
    ·rename_i hc;simp at h;obtain⟨rfl,rfl⟩:=h;obtain⟨zv,hz1,hz2⟩:=fI (ρ:=ρ) (B:=B) (w:=w) hz;have hrun:(execOp a.eval o).run p w= .ok (.value (.pointer (some ⟨w.heap.size,0,none⟩))) (w.alloc (.cells zv.cells t)):=by
      unfold execOp;rw[ho];simp only[Instr.alloc,Sem.run_bind,hz1,Result.andThen,newVar,newRow,Go.newObj,Sem.run,Sem.run_pure];rfl
     unfold Oper.wp;rw[hrun,Oper.upon_value,hdd];rw[hdd]at hd;exact hK _ _ _ (tW hi hd hc.1 hc.2.1 hz2 (by rw[hvt];simp) (hn _ rfl))
    ·cases h
   ·cases h
  ·
   rename_i t x ho;split at h
   ·rename_i d s hdd hs;split at h
    ·rename_i hc;simp at h;obtain⟨rfl,rfl⟩:=h;have e2:=dP (fun y hy c hc=>H y hy c hc) hs;have hrun:(execOp a.eval o).run p w= .ok (.value (.pointer (some ⟨w.heap.size,0,none⟩))) (w.alloc (.cells (a.eval x).cells t)):=by
      unfold execOp;rw[ho];simp only[Instr.box,Sem.run_bind,Result.andThen,newVar,newRow,Go.newObj,Sem.run,Sem.run_pure];rfl
     unfold Oper.wp;rw[hrun,Oper.upon_value,hdd];rw[hdd]at hd;exact hK _ _ _ (tW hi hd hc.1 hc.2.1 e2.cells (by rw[hvt];simp) (hn _ rfl))
    ·cases h
   ·cases h
  ·
   rename_i t x y ho;split at h
   ·rename_i v off s hdd hx hy;split at h
    ·rename_i ty n hv;split at h
     ·rename_i hc;simp at h;obtain⟨rfl,rfl⟩:=h;exact ok_store ho hdd hx hy (by rw[hvt,List.getElem?_append_left (List.getElem?_eq_some_iff.1 hv).1];exact hv) hc.1 hc.2.1 hc.2.2.1 hc.2.2.2.1 hi (fun z hz c hc=>H z (List.mem_append.2 (.inl hz)) c hc) (fun z hz c hc=>H z (List.mem_append.2 (.inr hz)) c hc) hK
     ·cases h
    ·cases h
   ·cases h
  ·
   rename_i k ho;split at h
   ·rename_i z hk;split at h
    ·rename_i f xs hz hxs;split at h
     ·rename_i r hr;simp only[Option.some.injEq,Prod.mk.injEq]at h;obtain⟨rfl,rfl⟩:=h;rw[ho]at H;exact ok_call hC ho hk hz hxs hr hd hi (fun x hx y hy c hc=>H y (by unfold iz;exact List.mem_flatMap.2 ⟨x,hx,hy⟩) c hc) hK
     ·split at h
      ·rename_i d hf;exact ok_mut hO ho hk hz hxs hf h hd hvt hi H hn hK
      ·cases h
    ·cases h
   ·rename_i hk;split at h
    ·rename_i d x y t t' hdd hargs htt;split at h
     ·rename_i lx ly hx hy;split at h
      ·rename_i ett;subst ett;split at h
       ·rename_i i m hf;split at h
        ·rename_i hs;simp only[Option.some.injEq,Prod.mk.injEq]at h;obtain⟨rfl,rfl⟩:=h;have HH:∀z∈k.args.toList,bc ρ B a w lk z:=fun z hz y hy c hc=>H y (by rw[ho];unfold iz;exact List.mem_flatMap.2 ⟨z,by simp only[Op.operands,Call.operands,Array.toList_append,List.mem_append];exact .inr hz,hy⟩) c hc
         exact ok_app hO ho hk hdd hargs htt hx hy hf hs (by rw[←hdd];exact hd) hi (HH x (by rw[hargs];simp)) (HH y (by rw[hargs];simp)) hK
        ·cases h
       ·cases h
      ·cases h
     ·cases h
    ·cases h
   ·exact hpv (h:=h)
  ·
   rename_i t n parts ho;split at h
   ·rename_i d xs hdd hxs
    cases hr:cw L (.bs t n (parts.toList.map (·.1))) xs with
    | none=>rw[hr]at h;cases h
    | some r=>
     rw[hr]at h;simp only[Option.map_some,Option.some.injEq,Prod.mk.injEq]at h;obtain⟨rfl,rfl⟩:=h;rw[ho]at H;exact ok_bs hO ho hxs hr hd hi (fun x hx y hy c hc=>H y (by unfold iz;exact List.mem_flatMap.2 ⟨x,hx,hy⟩) c hc) hK
   ·cases h
  ·exact hpv (h:=h)
theorem xY (hC:∀i∈C,i.Ok0 p ρ w0) (hO:∀i∈L,i.OkE w0 p ρ) {vts new rest:List (TypeId×Nat)} {e:Eff} {j:Nat} (hj:ops[j]? =some o) (h:vX p C L nt ops lk vts o=some (e,new)) (hvt:vt=vts++(new++rest)):
  OpOk p ρ vt w0 nt ops Q j lk e:=by
 intro B a w hi H hn K hK;unfold vX at h;unfold wpOp;rw[hj];show if Region.wanted o (yielded ops a.tmps)=true then _ else _
 split at h
 ·rename_i hg;rw[if_pos (by unfold Region.wanted;rw[hg])];exact .inl (xX hC hO h hvt hi H hn hK)
 ·rename_i g b hg;split at h
  ·rename_i t ht;split at h
   ·rename_i x hx;have hy:t∈e.rd→yielded ops a.tmps g=some x:=fun hm=>by
     have e1:a.eval (.tmp t)= .bool x:=qO (fun y hy c hc=>by
      simp only[rdO,List.mem_singleton]at hy;subst hy;exact H _ hm c hc) hx
     have e2:(ops[g]?).bind (·.dst)=some t:=by
      unfold cD at ht
      cases ho:ops[g]? with
      | none=>rw[ho]at ht;cases ht
      | some o=>rw[ho]at ht;exact ht
     have e3:a.tmps[t]? =some (.bool x):=by
      simp only[Act.eval,Array.getD_eq_getD_getElem?]at e1
      cases hq:a.tmps[t]? with
      | none=>rw[hq]at e1;cases e1
      | some u=>rw[hq]at e1;simp at e1;rw[e1]
     unfold yielded;rw[e2];simp only[Option.bind_some,e3]
    split at h
    ·rename_i hxb
     cases he:tV p C L nt lk vts o with
     | none=>rw[he]at h;cases h
     | some q=>
      rw[he]at h;obtain⟨e0,new0⟩:=q;simp at h;obtain⟨rfl,rfl⟩:=h;rw[if_pos (by unfold Region.wanted;rw[hg];show(yielded ops a.tmps g==some b)=true;rw[hy (by simp),hxb];simp)];exact .inl (xX hC hO he hvt hi (fun y hy c hc=>H y (List.mem_cons_of_mem _ hy) c hc) hn (fun B' a' w' hp=>hK B' a' w' ⟨hp.le,hp.inv,hp.wr,hp.keep,hp.new⟩))
    ·rename_i hxb;split at h
     ·rename_i hd;simp at h;obtain⟨rfl,rfl⟩:=h;rw[if_neg (by unfold Region.wanted;rw[hg];show¬(yielded ops a.tmps g==some b)=true;rw[hy (by simp)];simpa using hxb)];exact hK B _ w (eZ hi hd (Below.refl _ _) rfl)
     ·cases h
   ·rename_i hx;split at h
    ·rename_i hd;simp at h;obtain⟨rfl,rfl⟩:=h;have e1:a.eval (.tmp t)=undef:=qO (fun y hy c hc=>by
      simp only[rdO,List.mem_singleton]at hy;subst hy;exact H _ (by simp) c hc) hx
     have e2:(ops[g]?).bind (·.dst)=some t:=by
      unfold cD at ht
      cases ho:ops[g]? with
      | none=>rw[ho]at ht;cases ht
      | some o=>rw[ho]at ht;exact ht
     have e4:yielded ops a.tmps g=none:=by
      unfold yielded;rw[e2];simp only[Option.bind_some];simp only[Act.eval,Array.getD_eq_getD_getElem?]at e1
      cases hq:a.tmps[t]? with
      | none=>rfl
      | some u=>rw[hq]at e1;simp at e1;rw[e1];rfl
     rw[if_neg (by unfold Region.wanted;rw[hg];show¬(yielded ops a.tmps g==some b)=true;rw[e4];simp)];exact hK B _ w (eZ hi hd (Below.refl _ _) rfl)
    ·cases h
   ·cases h
  ·cases h
end
def jO (o:Oper):List Nat:=(o.after.toList.filter (Region.binds .any)).map (·.on)
def objsO:Option AV→List Nat
 | some c=>c.objs
 | none=>[]
def Eff.note (e:Eff) (lk:Nat→Option AV):Eff:=⟨e.rd,e.wr,e.al,e.ks,e.ms++(e.rd.flatMap (fun x=>objsO (lk x))++e.wr.flatMap (fun q=>q.2.objs))⟩
theorem Eff.note_wf {e:Eff} {lk:Nat→Option AV}:(e.note lk).Wf lk:=
 ⟨fun x hx c hc k hk=>List.mem_append.2 (.inr (List.mem_append.2 (.inl (List.mem_flatMap.2 ⟨x,hx,by rw[hc];exact hk⟩)))),
  fun q hq k hk=>List.mem_append.2 (.inr (List.mem_append.2 (.inr (List.mem_flatMap.2 ⟨q,hq,hk⟩))))⟩
theorem OpOk.note {p:Program} {ρ:Rho} {vt:List (TypeId×Nat)} {w0:Ent} {nt j:Nat} {ops:Array Oper} {Q:Exit→Act→World→Prop} {lk lk':Nat→Option AV} {e:Eff} (h:OpOk p ρ vt w0 nt ops Q j lk e):OpOk p ρ vt w0 nt ops Q j lk (e.note lk'):=
 fun B a w hi H hn K hK=>h B a w hi H hn K (fun B' a' w' hp=>hK B' a' w' ⟨hp.le,hp.inv,hp.wr,hp.keep,hp.new⟩)
def mU (p:Program) (C:List Inst) (L:List OIns) (nt:Nat) (ops:Array Oper) (b:Nat→Option AV):List Oper→Nat→List Nat→List (TypeId×Nat)→dN→Option (dN×List (TypeId×Nat))
 | [],_,_,vts,effs=>some (effs,vts)
 | o::r,j,ancs,vts,effs=>
  if (jO o).all (fun k=>decide (k<j))then
   match vX p C L nt ops (lkE b effs) vts o with
   | some (e,new)=>if xS ((jO o).foldl (fun m k=>m ||| (ancs.getD k 0 ||| 1 <<< k)) 0) effs (e.note (lkE b effs))then
     mU p C L nt ops b r (j+1) (ancs++ [(jO o).foldl (fun m k=>m ||| (ancs.getD k 0 ||| 1 <<< k)) 0]) (vts++new) ((j,e.note (lkE b effs))::effs)else none
   | none=>none
  else none
structure MS where
 slots:List (Option AV)
 vars:List (TypeId×List (Option Leaf))
def bf (s:MS) (x:Nat):Option AV:=
 if x<100000 then(match s.slots[x]? with | some c=>c | none=>none)else
 match s.vars[x / 100000 - 1]? with
 | some v=>(match v.2[x % 100000]? with | some (some l)=>some (.v (.one l)) | _=>none)
 | none=>none
def leafA:AV→Option Leaf
 | .v (.one l)=>some l
 | _=>none
def oB:List (TypeId×List (Option Leaf))→Nat→Nat→Option Leaf→List (TypeId×List (Option Leaf))
 | [],_,_,_=>[]
 | v::r,0,k,l=>(v.1,v.2.set k l)::r
 | v::r,i+1,k,l=>v::oB r i k l
def qP (s:MS) (q:Nat×AV):MS:=
 if q.1<100000 then {s with slots:=s.slots.set q.1 (some q.2)}else {s with vars:=oB s.vars (q.1 / 100000 - 1) (q.1 % 100000) (leafA q.2)}
def vZ (s:MS):List (Nat×AV)→MS
 | []=>s
 | q::r=>qP (vZ s r) q
def xZ (ks:List Nat):Option Leaf→Option Leaf
 | some l=>if l.objs.any ks.contains then none else some l
 | none=>none
def oC (ks:List Nat) (s:MS):MS:=⟨s.slots.map (fil ks),s.vars.map fun v=>(v.1,v.2.map (xZ ks))⟩
def tZ (ks:List Nat) (s:MS):MS:=match ks with
 | []=>s
 | k::ks=>oC (k::ks) s
def fV (s:MS):dN→MS
 | []=>s
 | (_,e)::r=>vZ (tZ e.ks (fV s r)) e.wr
def cO (s:MS):List (TypeId×Nat):=s.vars.map fun x=>(x.1,x.2.length)
def kT (s:MS) (new:List (TypeId×Nat)):MS:= {s with vars:=s.vars++new.map fun x=>(x.1,List.replicate x.2 none)}
def v7 (p:Program) (C:List Inst) (L:List OIns) (nt:Nat) (ops:Array Oper) (s:MS):Option MS:=
 match mU p C L nt ops (bf s) ops.toList 0 [] (cO s) []with
 | some (effs,vts)=>some (fV (kT s (vts.drop s.vars.length)) effs)
 | none=>none
section
variable {p:Program} {ρ:Rho} {B:Blk} {a:Act} {w:World} {w0:Ent} {C:List Inst} {L:List OIns} {nt:Nat} {Q:Exit→Act→World→Prop} {o:Oper} {ops:Array Oper} {b:Nat→Option AV}
theorem mh:∀ {l:List Oper} {j:Nat} {ancs:List Nat} {vts vts':List (TypeId×Nat)} {effs effs':dN},mU p C L nt ops b l j ancs vts effs=some (effs',vts')→∃rest,vts'=vts++rest
 | [],_,_,vts,vts',_,_,h=>by simp[mU]at h;exact⟨[],by rw[h.2];simp⟩
 | o::r,j,ancs,vts,vts',effs,effs',h=>by
  simp only[mU]at h;split at h
  ·split at h
   ·rename_i e new _;split at h
    ·obtain⟨rest,hr⟩:=mh h;exact⟨new++rest,by rw[hr,List.append_assoc]⟩
    ·cases h
   ·cases h
  ·cases h
theorem mutE_al {lk:Nat→Option AV} {vts new:List (TypeId×Nat)} {op:Op} {args:List Operand} {dst:Option Tmp} {d:MutD} {e:Eff} (h:mutE nt lk vts op args dst d=some (e,new)):∀v,e.al=some v→v=vts.length∧new.length=1∧vts.length<OW:=by
 unfold mutE at h;split at h
 ·rename_i hc;split at h
  ·split at h
   ·simp only[Option.some.injEq,Prod.mk.injEq]at h;obtain⟨rfl,rfl⟩:=h;intro v hv;simp only[Bool.and_eq_true]at hc;have hn:=hc.2.2
    cases hd:d.nv with
    | none=>simp[hd]at hv
    | some q=>
     simp only[hd,Option.map_some,Option.some.injEq]at hv;rw[hd]at hn;simp only[nvE,decide_eq_true_eq]at hn;exact⟨by omega,by simp,hn.2.1⟩
   ·cases h
  ·cases h
 ·cases h
theorem x6 {lk:Nat→Option AV} {vts new:List (TypeId×Nat)} {e:Eff} (h:tV p C L nt lk vts o=some (e,new)):∀v,e.al=some v→v=vts.length∧new.length=1∧vts.length<OW:=by
 unfold tV at h;split at h
 ·cases h
 ·dsimp only at h;have hpv:∀ {h:(match qK p L lk o.op with | some (c,rd)=>some (Eff.mk (iz o.op++rd) (wrD o.dst c) none [] [],([]:List (TypeId×Nat))) | none=>none)=some (e,new)},∀v,e.al=some v→v=vts.length∧new.length=1∧vts.length<OW:=by
   intro h;split at h
   ·simp at h;obtain⟨rfl,rfl⟩:=h;intro v hv;cases hv
   ·cases h
  split at h
  ·split at h
   ·split at h
    ·rename_i hc;simp at h;obtain⟨rfl,rfl⟩:=h;intro v hv;injection hv with hv;exact⟨hv.symm,rfl,hc.2.2⟩
    ·cases h
   ·cases h
  ·split at h
   ·split at h
    ·rename_i hc;simp at h;obtain⟨rfl,rfl⟩:=h;intro v hv;injection hv with hv;exact⟨hv.symm,rfl,hc.2.2⟩
    ·cases h
   ·cases h
  ·split at h
   ·split at h
    ·split at h
     ·simp at h;obtain⟨rfl,rfl⟩:=h;intro v hv;cases hv
     ·cases h
    ·cases h
   ·cases h
  ·split at h
   ·split at h
    ·split at h
     ·simp only[Option.some.injEq,Prod.mk.injEq]at h;obtain⟨rfl,rfl⟩:=h;intro v hv;cases hv
     ·split at h
      ·exact mutE_al h
      ·cases h
    ·cases h
   ·split at h
    ·split at h
     ·split at h
      ·split at h
       ·split at h
        ·simp only[Option.some.injEq,Prod.mk.injEq]at h;obtain⟨rfl,rfl⟩:=h;intro v hv;cases hv
        ·cases h
       ·cases h
      ·cases h
     ·cases h
    ·cases h
   ·exact hpv (h:=h)
  ·rename_i t n parts ho;split at h
   ·rename_i d xs hdd hxs
    cases hr:cw L (.bs t n (parts.toList.map (·.1))) xs with
    | none=>rw[hr]at h;cases h
    | some r=>rw[hr]at h;simp only[Option.map_some,Option.some.injEq,Prod.mk.injEq]at h;obtain⟨rfl,rfl⟩:=h;intro v hv;cases hv
   ·cases h
  ·exact hpv (h:=h)
theorem x7 {lk:Nat→Option AV} {vts new:List (TypeId×Nat)} {e:Eff} (h:vX p C L nt ops lk vts o=some (e,new)):∀v,e.al=some v→v=vts.length∧new.length=1∧vts.length<OW:=by
 unfold vX at h;split at h
 ·exact x6 h
 ·split at h
  ·split at h
   ·split at h
    ·cases he:tV p C L nt lk vts o with
     | none=>rw[he]at h;cases h
     | some q=>
      rw[he]at h;obtain⟨e0,new0⟩:=q;simp at h;obtain⟨rfl,rfl⟩:=h;intro v hv;exact x6 he v hv
    ·split at h
     ·simp at h;obtain⟨rfl,rfl⟩:=h;intro v hv;cases hv
     ·cases h
   ·split at h
    ·simp at h;obtain⟨rfl,rfl⟩:=h;intro v hv;cases hv
    ·cases h
   ·cases h
  ·cases h
theorem oD {f:Nat→Nat}:∀ {l:List Nat} {m0 i:Nat},(l.foldl (fun m k=>m ||| (f k ||| 1 <<< k)) m0).testBit i=true→m0.testBit i=true∨∃k∈l,(f k).testBit i=true∨i=k
 | [],_,_,h=>.inl h
 | k::l,m0,i,h=>by
  rcases oD (l:=l) h with h | ⟨k',h1,h2⟩
  ·simp only[Nat.testBit_or,Bool.or_eq_true]at h;rcases h with h | h | h
   ·exact .inl h
   ·exact .inr ⟨k,by simp,.inl h⟩
   ·rw[Nat.one_shiftLeft,Nat.testBit_two_pow]at h;have h':k=i:=by simpa using h
    exact .inr ⟨k,by simp,.inr h'.symm⟩
  ·exact .inr ⟨k',List.mem_cons_of_mem _ h1,h2⟩
theorem oE {j:Nat} (h:ops[j]? =some o):cf .any ops j=jO o:=by unfold cf jO;rw[h]
theorem oF (hC:∀i∈C,i.Ok0 p ρ w0) (hO:∀i∈L,i.OkE w0 p ρ) {nb:Nat}:∀ {l:List Oper} {j:Nat} {ancs:List Nat} {vts vts':List (TypeId×Nat)} {effs effs':dN},mU p C L nt ops b l j ancs vts effs=some (effs',vts')→
  l=ops.toList.drop j→j≤ops.size→effs.length=j→ancs.length=j→(∀k,k<j→xT .any ops (ancs.getD k 0) k)→(∀k,k<j→∀i∈cf .any ops k,i<k)→nb≤vts.length→(∀q∈effs,∀v,q.2.al=some v→v<vts.length)→
  oe p ρ vts' w0 nt .any ops Q b nb effs→oe p ρ vts' w0 nt .any ops Q b nb effs'∧effs'.length=ops.size∧(∀k,k<ops.size→∀i∈cf .any ops k,i<k)∧(∀q∈effs',∀v,q.2.al=some v→v<vts'.length)
 | [],j,ancs,vts,vts',effs,effs',h,hl,hj,he,_,_,hd,_,hal,hg=>by
  simp[mU]at h;obtain⟨rfl,rfl⟩:=h;have:ops.size≤j:=by
   have:=congrArg List.length hl;simp at this;omega
  have hje:j=ops.size:=by omega
  exact⟨hg,by rw[he,hje],by rw[←hje];exact hd,hal⟩
 | o::r,j,ancs,vts,vts',effs,effs',h,hl,hj,he,hna,ha,hd,hnb,hal,hg=>by
  have hjl:j<ops.size:=by
   have:=congrArg List.length hl;simp at this;omega
  have hoj:ops[j]? =some o:=by
   have:=congrArg (fun x=>x[0]?) hl;simp only[List.getElem?_cons_zero,List.getElem?_drop,Nat.add_zero,Array.getElem?_toList]at this;exact this.symm
  have hr:r=ops.toList.drop (j+1):=by
   have:=congrArg List.tail hl;simpa using this
  simp only[mU]at h;split at h
  ·rename_i hpr;have hpr':∀k∈jO o,k<j:=fun k hk=>by simpa using List.all_eq_true.1 hpr k hk
   split at h
   ·rename_i e new heff;split at h
    ·rename_i hok;obtain⟨rest,hrest⟩:=mh h;have halv:=x7 heff;have hanc:xT .any ops ((jO o).foldl (fun m k=>m ||| (ancs.getD k 0 ||| 1 <<< k)) 0) j:=by
      intro i hi T hT hp;rcases oD (f:=fun k=>ancs.getD k 0) hi with h | ⟨k,h1,h2 | h2⟩
      ·simp at h
      ·have hkT:=hp k (by rw[oE hoj];exact h1);exact ha k (hpr' k h1) i h2 T hT (fun i' hi'=>hT k hkT i' hi')
      ·rw[h2];exact hp k (by rw[oE hoj];exact h1)
     refine oF hC hO h hr (by omega) (by simp[he]) (by simp[hna]) (fun k hk=> ?_) (fun k hk i hi=> ?_) (by simp;omega) (fun q hq v hv=> ?_) ⟨he.symm,?_,⟨_,hanc,hok⟩,Eff.note_wf,fun v hv=> ?_,hg⟩
     ·by_cases hkj:k<j
      ·have:=ha k hkj;rwa [List.getD_eq_getElem?_getD,List.getElem?_append_left (by omega),←List.getD_eq_getElem?_getD]
      ·obtain rfl:k=j:=by omega
       rw[List.getD_eq_getElem?_getD,List.getElem?_append_right (by omega)];simpa [hna]using hanc
     ·by_cases hkj:k<j
      ·exact hd k hkj i hi
      ·obtain rfl:k=j:=by omega
       rw[oE hoj]at hi;exact hpr' i hi
     ·rcases List.mem_cons.1 hq with rfl | hq
      ·have:=halv v hv;simp;omega
      ·have:=hal q hq v hv;simp;omega
     ·exact(xY hC hO hoj heff (by rw[hrest,List.append_assoc])).note
     ·have:=halv v hv;exact⟨⟨by omega,by omega⟩,fun q hq hqv=>by have:=hal q hq v hqv;omega⟩
    ·cases h
   ·cases h
  ·cases h
def MSt (ρ:Rho) (w0:Ent) (nt:Nat) (s:MS) (a:Act) (w:World):Prop:=
 ∃B,Inv (cO s) w0 nt B a w∧(∀x c,bf s x=some c→bu ρ B a w x c)∧∀v,B.v v≠none→v<s.vars.length
theorem t6:∀ {vs:List (TypeId×List (Option Leaf))} {i k:Nat} {l:Option Leaf} {i':Nat},(oB vs i k l)[i']? =if i'=i then(vs[i]?).map (fun v=>(v.1,v.2.set k l))else vs[i']?
 | [],i,k,l,i'=>by simp[oB]
 | v::r,0,k,l,0=>by simp[oB]
 | v::r,0,k,l,i'+1=>by simp[oB]
 | v::r,i+1,k,l,0=>by simp[oB]
 | v::r,i+1,k,l,i'+1=>by
  simp only[oB,List.getElem?_cons_succ,t6 (vs:=r),Nat.add_right_cancel_iff]
theorem t7:∀ {vs:List (TypeId×List (Option Leaf))} {i k:Nat} {l:Option Leaf},(oB vs i k l).map (fun x=>(x.1,x.2.length))=vs.map (fun x=>(x.1,x.2.length))
 | [],_,_,_=>rfl
 | v::r,0,k,l=>by simp[oB]
 | v::r,i+1,k,l=>by simp[oB,t7 (vs:=r)]
theorem zt {s:MS} {q:Nat×AV} {x:Nat} {c:AV} (h:bf (qP s q) x=some c):(x=q.1∧c=q.2)∨(x≠q.1∧bf s x=some c):=by
 unfold qP at h;split at h
 ·rename_i hq;unfold bf at h⊢;simp only at h⊢;split at h
  ·rename_i hx;rw[if_pos hx];by_cases e:x=q.1
   ·subst e;rw[List.getElem?_set_self']at h
    cases hs:s.slots[q.1]? with
    | none=>rw[hs]at h;simp at h
    | some y=>rw[hs]at h;simp at h;exact .inl ⟨rfl,h.symm⟩
   ·rw[List.getElem?_set_ne (fun h=>e h.symm)]at h;exact .inr ⟨e,h⟩
  ·rename_i hx;rw[if_neg hx];exact .inr ⟨fun e=>hx (by rw[e];exact hq),h⟩
 ·rename_i hq;unfold bf at h⊢;simp only at h⊢;split at h
  ·rename_i hx;rw[if_pos hx];exact .inr ⟨fun e=>hq (by rw[←e];exact hx),h⟩
  ·rename_i hx;rw[if_neg hx];rw[t6]at h;by_cases e:x / 100000 - 1=q.1 / 100000 - 1
   ·rw[if_pos e]at h
    cases hv:s.vars[q.1 / 100000 - 1]? with
    | none=>rw[hv]at h;simp at h
    | some v=>
     rw[hv]at h;simp only[Option.map_some]at h;by_cases e2:x % 100000=q.1 % 100000
     ·have hxq:x=q.1:=by
       have h1:=Nat.div_add_mod x 100000;have h2:=Nat.div_add_mod q.1 100000;omega
      rw[e2]at h
      cases hs:v.2[q.1 % 100000]? with
      | none=>rw[List.getElem?_set_self',hs]at h;simp at h
      | some y=>
       rw[List.getElem?_set_self (List.getElem?_eq_some_iff.1 hs).1]at h
       cases hl:leafA q.2 with
       | none=>rw[hl]at h;simp at h
       | some l=>
        rw[hl]at h;simp at h;refine .inl ⟨hxq,?_⟩;unfold leafA at hl;split at hl
        ·rename_i l' hq2;injection hl with hl;subst hl;rw[hq2];exact h.symm
        ·cases hl
     ·rw[List.getElem?_set_ne (fun h=>e2 h.symm)]at h;refine .inr ⟨fun e'=>e2 (by rw[e']),?_⟩;rw[e,hv];exact h
   ·rw[if_neg e]at h;exact .inr ⟨fun e'=>e (by rw[e']),h⟩
theorem t8 {s:MS} {x:Nat} {c:AV}:∀ {l:List (Nat×AV)},bf (vZ s l) x=some c→(match l.find? (fun q=>q.1==x)with | some q=>some q.2 | none=>bf s x)=some c
 | [],h=>h
 | q::l,h=>by
  rcases zt (s:=vZ s l) h with⟨e1,e2⟩ | ⟨h1,h2⟩
  ·rw[List.find?_cons_of_pos (by simpa using e1.symm),e2]
  ·rw[List.find?_cons_of_neg (by simpa using fun e=>h1 e.symm)];exact t8 h2
theorem qQ {ks:List Nat} {s:MS} {x:Nat} {c:AV} (h:bf (oC ks s) x=some c):fil ks (bf s x)=some c:=by
 unfold bf oC at h;unfold bf;simp only at h;split at h
 ·rename_i hx;rw[if_pos hx];rw[List.getElem?_map]at h
  cases e:s.slots[x]? with
  | none=>rw[e]at h;simp at h
  | some d=>rw[e]at h;simpa using h
 ·rename_i hx;rw[if_neg hx];rw[List.getElem?_map]at h
  cases e:s.vars[x / 100000 - 1]? with
  | none=>rw[e]at h;simp at h
  | some d=>
   rw[e]at h;simp only[Option.map_some,List.getElem?_map]at h
   cases e2:d.2[x % 100000]? with
   | none=>rw[e2]at h;simp at h
   | some l=>
    rw[e2]at h;simp only[Option.map_some]at h
    cases l with
    | none=>simp[xZ]at h
    | some l=>
     simp only[xZ]at h;split at h
     ·rename_i l' hl;split at hl
      ·cases hl
      ·rename_i hn;injection hl with hl;injection hl with hl;subst hl;injection h with h;subst h;simp only[e2];exact iy rfl (by simpa [AV.hit,AV.objs,SV.objs]using hn)
     ·cases h
theorem zu {ks:List Nat} {s:MS} {x:Nat} {c:AV} (h:bf (tZ ks s) x=some c):fil ks (bf s x)=some c:=by
 cases ks with
 | nil=>exact iy h (by simp[AV.hit])
 | cons k ks=>exact qQ h
theorem killS_vt {ks:List Nat} {s:MS}:cO (oC ks s)=cO s:=by
 unfold cO oC;simp[List.map_map,Function.comp_def]
theorem kill0_vt {ks:List Nat} {s:MS}:cO (tZ ks s)=cO s:=by
 cases ks with
 | nil=>rfl
 | cons k ks=>exact killS_vt
theorem jP {s:MS} {x:Nat} {c:AV}:∀ {r:dN},bf (fV s r) x=some c→lkE (bf s) r x=some c
 | [],h=>h
 | (_,e)::r,h=>by
  have h1:=t8 (s:=tZ e.ks (fV s r)) h;simp only[lkE];split at h1
  ·rename_i q hq;rw[hq];exact h1
  ·rename_i hq;rw[hq];obtain⟨h2,h3⟩:=eo (zu h1);exact iy (jP h2) h3
theorem oG {b b':Nat→Option AV} (h:∀x c,b x=some c→b' x=some c):∀ {r:dN} {x:Nat} {c:AV},lkE b r x=some c→lkE b' r x=some c
 | [],x,c,e=>h x c e
 | (_,e)::r,x,c,he=>by
  simp only[lkE]at he⊢;split at he
  ·exact he
  ·obtain⟨h1,h2⟩:=eo he;exact iy (oG h h1) h2
theorem qR {s:MS} {new:List (TypeId×Nat)} {x:Nat} {c:AV} (h:bf (kT s new) x=some c):bf s x=some c:=by
 unfold bf kT at *;simp only at *;split at h
 ·rename_i hx;rw[if_pos hx];exact h
 ·rename_i hx;rw[if_neg hx];by_cases hv:x / 100000 - 1<s.vars.length
  ·rw[List.getElem?_append_left hv]at h;exact h
  ·rw[List.getElem?_append_right (by omega)]at h;exfalso;split at h
   ·rename_i v hv2;rw[List.getElem?_map]at hv2
    cases hn:new[x / 100000 - 1 - s.vars.length]? with
    | none=>rw[hn]at hv2;cases hv2
    | some y=>
     rw[hn]at hv2;simp at hv2;subst hv2;split at h
     ·rename_i l hl;simp only[List.getElem?_replicate]at hl;split at hl<;>cases hl
     ·cases h
   ·cases h
theorem msSet_vt {s:MS} {q:Nat×AV}:cO (qP s q)=cO s:=by
 unfold qP;split
 ·rfl
 ·exact t7
theorem x8 {s:MS}:∀ {l:List (Nat×AV)},cO (vZ s l)=cO s
 | []=>rfl
 | q::l=>by show cO (qP (vZ s l) q)=_;rw[msSet_vt,x8]
theorem gj {s:MS}:∀ {r:dN},cO (fV s r)=cO s
 | []=>rfl
 | (_,e)::r=>by show cO (vZ (tZ e.ks (fV s r)) e.wr)=_;rw[x8,kill0_vt,gj]
theorem eu {s:MS}:(cO s).length=s.vars.length:=by simp[cO]
theorem kU {s:MS} {new:List (TypeId×Nat)}:cO (kT s new)=cO s++new:=by
 have:∀l:List (TypeId×Nat),(l.map fun x=>(x.1,List.replicate x.2 (none:Option Leaf))).map (fun x=>(x.1,x.2.length))=l:=fun l=>by
  induction l with
  | nil=>rfl
  | cons x l ih=>simp only[List.map_cons,ih,List.length_replicate]
 simp only[cO,kT,List.map_append,this]
theorem Inv.ext {vt:List (TypeId×Nat)} (h:Inv vt w0 nt B a w) (new:List (TypeId×Nat)):Inv (vt++new) w0 nt B a w:=
 ⟨fun v g hv=>by
  obtain⟨h1,cs,ty,h2,h3⟩:=h.blk v g hv;exact⟨h1,cs,ty,by rw[List.getElem?_append_left (List.getElem?_eq_some_iff.1 h2).1];exact h2,h3⟩,h.own,h.inj,h.below,h.size,h.dfr,h.pin⟩
theorem oH (hC:∀i∈C,i.Ok0 p ρ w0) (hO:∀i∈L,i.OkE w0 p ρ) (hm:p.follows .mixedOrders=true) {s s':MS} {id:Nat} {draw:Bool} (h:v7 p C L nt ops s=some s') (hs:MSt ρ w0 nt s a w)
  (hQ:∀a' w',MSt ρ w0 nt s' a' w'→Q .normal a' w'):(Code.region id ops draw).wp p Q a w:=by
 unfold v7 at h;split at h
 ·rename_i effs vts he;simp at h;subst h;obtain⟨rest,hrest⟩:=mh he;obtain⟨hg,hlen,hdown,hal⟩:=oF (ρ:=ρ) (w0:=w0) (Q:=Q) (nb:=s.vars.length) hC hO he (by simp) (by omega) rfl rfl (fun k hk=>by omega) (fun k hk=>by omega) (by rw[eu];omega) (fun q hq=>by cases hq) trivial;obtain⟨B,hi,hv,hB⟩:=hs;have hnew:vts.drop s.vars.length=rest:=by rw[hrest,←eu,List.drop_left]
  have start:∀w1,Below w.heap.size w w1→StT ρ vts w0 nt (bf s) s.vars.length effs [] a w1:=fun w1 hb=>by
   refine StT.start (B:=B) ?_ (fun x c hx=>(hv x c hx).below BLe.refl .refl hb (fun _=>rfl)) hB;rw[hrest];exact(hi.below' hb rfl rfl).ext rest
  have fin:∀a' w',StF ρ vts w0 nt (lkE (bf s) effs) s.vars.length effs a' w'→Q .normal a' w':=fun a' w' ⟨B',h1,h2,h3⟩=>by
   refine hQ a' w' ⟨B',?_,fun x c hx=>h2 x c (oG (fun x c h=>qR h) (jP hx)),fun v hv=> ?_⟩
   ·rw[gj,hnew,kU,←hrest];exact h1
   ·have hl:(fV (kT s (vts.drop s.vars.length)) effs).vars.length=vts.length:=by rw[←eu,gj,hnew,kU,←hrest]
    rw[hl];rcases h3 v hv with h | ⟨q,hq,hqv⟩
    ·have:s.vars.length≤vts.length:=by rw[hrest,List.length_append,eu];omega
     omega
    ·exact hal q hq v hqv
  cases draw with
  | true=>exact wp_region_any hm (zg hg hlen hdown (start _ (bg (Below.refl _ _) 1)) fin)
  | false=>exact wp_region (vQ hg hlen hdown (start _ (Below.refl _ _)) fin)
 ·cases h
end
def stepS (p:Program) (C:List Inst) (L:List OIns) (nt:Nat) (ops:Array Oper) (s:MS) (j:Nat):Option MS:=
 match ops[j]? with
 | none=>none
 | some o=>match vX p C L nt ops (bf s) (cO s) o with
  | some (e,new)=>some (fV (kT s new) [(j,e)])
  | none=>none
def seqX (p:Program) (C:List Inst) (L:List OIns) (nt:Nat) (ops:Array Oper):List Nat→MS→Option MS
 | [],s=>some s
 | j::js,s=>match stepS p C L nt ops s j with
  | some s1=>seqX p C L nt ops js s1
  | none=>none
section
variable {p:Program} {ρ:Rho} {B B':Blk} {a a':Act} {w w':World} {w0:Ent} {C:List Inst} {L:List OIns} {nt i:Nat} {Q:Exit→Act→World→Prop} {o:Oper} {ops:Array Oper} {v:Value} {vt:List (TypeId×Nat)} {ks:List Nat} {X:Nat→Prop}
theorem wa (hC:∀i∈C,i.Ok0 p ρ w0) (hO:∀i∈L,i.OkE w0 p ρ) {s:MS} {j:Nat} {e:Eff} {new:List (TypeId×Nat)} (ho:ops[j]? =some o) (he:vX p C L nt ops (bf s) (cO s) o=some (e,new)) (hs:MSt ρ w0 nt s a w) {K:Act→World→Prop} (hK:∀a' w',MSt ρ w0 nt (fV (kT s new) [(j,e)]) a' w'→K a' w'):wpOp p ops Q j K a w:=by
 obtain⟨B,hi,hv,hB⟩:=hs;have hop:=xY (ρ:=ρ) (w0:=w0) (Q:=Q) hC hO ho he (vt:=cO s++(new++ [])) rfl;have hal:=x7 he;refine hop B a w (by rw[List.append_nil];exact hi.ext new) (fun x _ c hc=>hv x c hc) (fun v hv'=> ?_) K (fun B' a' w' hp=>hK a' w' ⟨B',?_,fun x c hx=> ?_,fun v hv'=> ?_⟩)
 ·cases hb:B.v v with
  | none=>rfl
  | some g=>
   have h1:=hal v hv';have h2:=hB v (by rw[hb];simp);rw[h1.1,eu]at h2;omega
 ·rw[gj,kU];have:=hp.inv;rwa [List.append_nil]at this
 ·have h1:=oG (fun x c h=>qR h) (jP hx);simp only[lkE]at h1
  cases hf:e.wr.find? (fun q=>q.1==x)with
  | some q=>
   rw[hf]at h1;have h2:=List.find?_some hf;have h3:=List.mem_of_find?_eq_some hf;simp only[beq_iff_eq]at h2;have h4:=hp.wr q h3;simp only[Option.some.injEq]at h1;rw[h2,h1]at h4;exact h4
  | none=>
   rw[hf]at h1;obtain⟨h1,h2⟩:=eo h1;exact hp.keep x c (hv x c h1) (fun q hq e=>by have:=List.find?_eq_none.1 hf q hq;simp[e]at this) h2
 ·have hl2:(fV (kT s new) [(j,e)]).vars.length=s.vars.length+new.length:=by
   rw[←eu,gj,kU,List.length_append,eu]
  rw[hl2]
  cases hb:B.v v with
  | some g=>have:=hB v (by rw[hb];simp);omega
  | none=>
   have h1:=hal v (hp.new v hb hv');rw[h1.1,eu];omega
theorem ua (hC:∀i∈C,i.Ok0 p ρ w0) (hO:∀i∈L,i.OkE w0 p ρ) {s s':MS} {j:Nat} (h:stepS p C L nt ops s j=some s') (hs:MSt ρ w0 nt s a w) {K:Act→World→Prop} (hK:∀a' w',MSt ρ w0 nt s' a' w'→K a' w'):wpOp p ops Q j K a w:=by
 unfold stepS at h;split at h
 ·cases h
 ·rename_i o ho;split at h
  ·rename_i e new he;injection h with h;subst h;exact wa hC hO ho he hs hK
  ·cases h
theorem oI (hC:∀i∈C,i.Ok0 p ρ w0) (hO:∀i∈L,i.OkE w0 p ρ):∀ {js:List Nat} {s s':MS} {a:Act} {w:World},seqX p C L nt ops js s=some s'→MSt ρ w0 nt s a w→(∀a' w',MSt ρ w0 nt s' a' w'→Q .normal a' w')→wpOps p ops Q js a w
 | [],s,s',a,w,h,hs,hQ=>by
  simp only[seqX,Option.some.injEq]at h;subst h;simp only[wpOps];exact hQ a w hs
 | j::js,s,s',a,w,h,hs,hQ=>by
  simp only[seqX]at h;split at h
  ·rename_i s1 h1;rw[wpOps_cons];exact ua hC hO h1 hs (fun a' w' hs'=>oI hC hO h hs' hQ)
  ·cases h
theorem Leaf.holds.less {l:Leaf} (h:l.holds ρ B w v) (hv:∀x g,B'.v x=some g↔B.v x=some g) (ho:∀k g,B'.o k g→B.o k g) (hk:∀k∈l.objs,∀g,B.o k g→B'.o k g):l.holds ρ B' w v:=by
 cases l<;>simp only[Leaf.holds]at h⊢ <;>try exact h
 ·obtain⟨g,h1,h2⟩:=h;exact⟨g,(hv _ _).2 h1,h2⟩
 ·obtain⟨s,h1,h2,h3⟩:=h;refine⟨s,h1,h2,fun g hg hx=>h3 g hg ?_⟩;rcases hx with⟨x,hx⟩ | ⟨k,hx⟩
  ·exact .inl ⟨x,(hv _ _).1 hx⟩
  ·exact .inr ⟨k,ho _ _ hx⟩
 ·rename_i k m;obtain⟨s,h1,h2,h3,h4⟩:=h;exact⟨s,h1,h2,fun g hg=>hk k (by simp[Leaf.objs]) g (h3 g hg),fun g hg=>hk k (by simp[Leaf.objs]) g (h4 g hg)⟩
theorem aC.less (hv:∀x g,B'.v x=some g↔B.v x=some g) (ho:∀k g,B'.o k g→B.o k g):∀ {ls:List Leaf} {vs:List Value},aC ρ B w ls vs→(∀k∈ls.flatMap Leaf.objs,∀g,B.o k g→B'.o k g)→aC ρ B' w ls vs
 | [],[],_,_=>trivial
 | _::_,_::_,h,hn=>⟨h.1.less hv ho (fun k hk=>hn k (by simp[hk])),aC.less hv ho h.2 (fun k hk=>hn k (by rw[List.flatMap_cons];exact List.mem_append.2 (.inr hk)))⟩
 | [],_::_,h,_=>h.elim
 | _::_,[],h,_=>h.elim
theorem SV.holds.less {s:SV} (h:s.holds ρ B w v) (hv:∀x g,B'.v x=some g↔B.v x=some g) (ho:∀k g,B'.o k g→B.o k g) (hk:∀k∈s.objs,∀g,B.o k g→B'.o k g):s.holds ρ B' w v:=by
 cases s with
 | one l=>exact Leaf.holds.less h hv ho hk
 | agg ls=>obtain⟨vs,e,h⟩:=h;exact⟨vs,e,h.less hv ho hk⟩
theorem bW.less (hv:∀x g,B'.v x=some g↔B.v x=some g) (ho:∀k g,B'.o k g→B.o k g):∀ {ls:List SV} {vs:List Value},bW ρ B w ls vs→(∀k∈ls.flatMap SV.objs,∀g,B.o k g→B'.o k g)→bW ρ B' w ls vs
 | [],[],_,_=>trivial
 | _::_,_::_,h,hn=>⟨h.1.less hv ho (fun k hk=>hn k (by simp[hk])),bW.less hv ho h.2 (fun k hk=>hn k (by rw[List.flatMap_cons];exact List.mem_append.2 (.inr hk)))⟩
 | [],_::_,h,_=>h.elim
 | _::_,[],h,_=>h.elim
theorem AV.holds.less {c:AV} (h:c.holds ρ B w v) (hv:∀x g,B'.v x=some g↔B.v x=some g) (ho:∀k g,B'.o k g→B.o k g) (hk:∀k∈c.objs,∀g,B.o k g→B'.o k g):c.holds ρ B' w v:=by
 cases c with
 | v s=>exact SV.holds.less h hv ho hk
 | tup xs=>obtain⟨vs,e,h⟩:=h;exact⟨vs,e,h.less hv ho hk⟩
 | any=>exact h
def frzL (i n n':Nat) (l:Leaf):Option Leaf:=match l with
 | .own k m=>if k=i then(if m=n then some (.ref n')else none)else some l
 | _=>some l
def frzA (i n n':Nat):Option AV→Option AV
 | some (.v (.one l))=>(frzL i n n' l).map fun l=>.v (.one l)
 | some c=>if c.hit [i]then none else some c
 | none=>none
def zw (i n n':Nat) (s:MS):MS:=⟨s.slots.map (frzA i n n'),s.vars.map fun v=>(v.1,v.2.map (xZ [i]))⟩
def frzS (L:List OIns) (id:Nat) (s:MS):MS:=L.foldl (fun s o=>match o.key,o.xs,o.r with
 | .frz r i,[.one (.ref n)],.one (.ref n')=>if r=id then zw i n n' s else s
 | _,_,_=>s) s
theorem wb {n n' rid:Nat} {s:MS} (hr:(OIns.mk (.frz rid i) [.one (.ref n)] (.one (.ref n'))).Ok p ρ) (hs:MSt ρ w0 nt s a w):MSt ρ w0 nt (zw i n n' s) a w:=by
 obtain⟨B,hi,hv,hB⟩:=hs;have less:∀ {c:AV} {u:Value},c.holds ρ B w u→c.hit [i]=false→c.holds ρ ⟨B.v,fun k g=>k≠i∧B.o k g⟩ w u:=fun {c u} h hn=>h.less (fun _ _=>Iff.rfl) (fun _ _ h=>h.2) (fun k hk g hg=>⟨fun e=>by
  subst e;have:=List.any_eq_false.1 hn k hk;simp at this,hg⟩)
 have vte:cO (zw i n n' s)=cO s:=by unfold cO zw;simp[List.map_map,Function.comp_def]
 refine⟨⟨B.v,fun k g=>k≠i∧B.o k g⟩,⟨fun x g hg=>by rw[vte];exact hi.blk x g hg,fun k g hg=>hi.own k g hg.2,⟨hi.inj.v,fun k l g h1 h2=>hi.inj.o k l g h1.2 h2.2,fun x k g h1 h2=>hi.inj.vo x k g h1 h2.2⟩,hi.below,hi.size,hi.dfr,hi.pin⟩,fun x c hx=> ?_,fun x hx=>by simpa [zw]using hB x hx⟩;unfold bf zw at hx;simp only at hx;split at hx
 ·rename_i hxs;rw[List.getElem?_map]at hx
  cases e:s.slots[x]? with
  | none=>rw[e]at hx;simp at hx
  | some d=>
   rw[e]at hx;have h1:frzA i n n' d=some c:=by simpa using hx
   cases d with
   | none=>cases h1
   | some d=>
    have h2:=hv x d (by unfold bf;rw[if_pos hxs,e]);unfold bu at h2⊢;rw[if_pos hxs]at h2⊢;obtain⟨u,k1,k2⟩:=h2;refine⟨u,k1,?_⟩;have other:(if d.hit [i]then none else some d)=some c→c.holds ρ ⟨B.v,fun k g=>k≠i∧B.o k g⟩ w u:=fun h=>by
     split at h
     ·cases h
     ·rename_i hn;injection h with h;subst h;exact less k2 (by simpa using hn)
    cases d with
    | v sv=>
     cases sv with
     | one l=>
      simp only[frzA]at h1
      cases hf:frzL i n n' l with
      | none=>rw[hf]at h1;cases h1
      | some l'=>
       rw[hf]at h1;simp only[Option.map_some,Option.some.injEq]at h1;subst h1
       cases l with
       | own k m=>
        simp only[frzL]at hf;split at hf
        ·rename_i hk;subst hk;split at hf
         ·rename_i hm;subst hm;injection hf with hf;subst hf;obtain⟨q,q1,q2,q3,q4⟩:=k2;have h5:(Leaf.ref m).holds ρ ⟨B.v,fun l g=>l≠k∧B.o l g⟩ w u:=⟨q,q1,q2,fun g hg hx=>by
           rcases hx with⟨x,hx⟩ | ⟨l,hl,hx⟩
           ·exact hi.inj.vo _ _ _ hx (q3 g hg)
           ·exact hl (hi.inj.o _ _ _ hx (q3 g hg))⟩
          exact hr _ w [u] ⟨h5,trivial⟩
         ·cases hf
        ·rename_i hk;injection hf with hf;subst hf;exact less (c:=.v (.one (.own k m))) k2 (by simpa [AV.hit,AV.objs,SV.objs,Leaf.objs]using hk)
       | _=>
        simp only[frzL,Option.some.injEq]at hf;subst hf;exact less k2 (by rfl)
     | agg ls=>exact other h1
    | tup xs=>exact other h1
    | any=>exact other h1
 ·rename_i hxs;have hk:bf (oC [i] s) x=some c:=by
   unfold bf oC;rw[if_neg hxs];exact hx
  obtain⟨h1,h2⟩:=eo (qQ hk);have h3:=hv x c h1;unfold bu at h3⊢;rw[if_neg hxs]at h3⊢;obtain⟨g,cs,ty,u,k1,k2,k3,k4⟩:=h3;exact⟨g,cs,ty,u,k1,k2,k3,less k4 h2⟩
theorem oJ {id:Nat}:∀ {L:List OIns} {s:MS},(∀i∈L,i.OkE w0 p ρ)→MSt ρ w0 nt s a w→MSt ρ w0 nt (frzS L id s) a w
 | [],s,_,hs=>hs
 | q::L,s,hO,hs=>by
  unfold frzS;rw[List.foldl_cons];refine oJ (fun i hi=>hO i (List.mem_cons_of_mem _ hi)) ?_;split
  ·rename_i r i n n' h1 h2 h3;split
   ·refine wb (p:=p) (rid:=r) ?_ hs;have:=hO q (by simp);obtain⟨k,xs,rr⟩:=q;simp only at h1 h2 h3;subst h1;subst h2;subst h3;exact this
   ·exact hs
  ·exact hs
end
def zx (p:Program) (C:List Inst) (L:List OIns) (nt id:Nat) (ops:Array Oper) (draw:Bool) (s:MS):Option MS:=
 match v7 p C L nt ops (frzS L id s)with
 | some s1=>some s1
 | none=>if draw then none else seqX p C L nt ops (List.range ops.size) (frzS L id s)
section
variable {p:Program} {ρ:Rho} {a:Act} {w:World} {w0:Ent} {C:List Inst} {L:List OIns} {nt:Nat} {Q:Exit→Act→World→Prop} {ops:Array Oper}
theorem oK (hC:∀i∈C,i.Ok0 p ρ w0) (hO:∀i∈L,i.OkE w0 p ρ) (hm:p.follows .mixedOrders=true) {s s':MS} {id:Nat} {draw:Bool} (h:zx p C L nt id ops draw s=some s') (hs:MSt ρ w0 nt s a w)
  (hQ:∀a' w',MSt ρ w0 nt s' a' w'→Q .normal a' w'):(Code.region id ops draw).wp p Q a w:=by
 have hs':=oJ (p:=p) (id:=id) hO hs;unfold zx at h;split at h
 ·rename_i s1 hr;injection h with h;subst h;exact oH hC hO hm hr hs' hQ
 ·cases draw with
  | true=>simp at h
  | false=>
   simp only[Bool.false_eq_true,if_false]at h;exact wp_region (oI hC hO h hs' hQ)
end
end Go.Proofs.YtggfmklppkioeaaGreat
