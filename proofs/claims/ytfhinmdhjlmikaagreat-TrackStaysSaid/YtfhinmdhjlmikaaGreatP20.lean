/- What an argument of type api.Nat is: a row of digits. What arguments of the types api.Pose, api.Vec, api.Frac are: rows of fractions, leading zeros allowed, no longer than the argument's bulk. What arguments of the type []api.Stamped are: rows of stamps, leading zeros allowed. What arguments of the type []api.Stamped are: rows of stamps. -/
import Derived.Test.YtfhinmdhjlmikaaGreatP19
import Derived.WalkKit
import Derived.ProofKit
import Derived.OpenShut
import Derived.ShutString
import Derived.ChangeOld
import Derived.Below
import Derived.Test.YtfhinmdhjlmikaaGreatRows
import Derived.SizedLaws
import Derived.Deep.Strs
import Derived.Deep.Slices
namespace Go.Proofs.YtfhinmdhjlmikaaGreat
set_option linter.unusedSimpArgs false
set_option linter.unusedVariables false
set_option maxRecDepth 100000
open Go.RowKit
open Go.ChangeShapes Go.WideShapes Go.ChangeAt Go.RowKit
theorem kY (f:Nat→Nat) (hf:∀j,f j<4294967296):∀L,∃N,N<4294967296^L∧∀j,j<L→D N j=f j
 | 0=>⟨0,by simp,fun j h=>by omega⟩
 | L+1=>by
  obtain⟨N,h1,h2⟩:=kY f hf L
  refine⟨upd N L (f L),ie (Nat.lt_of_lt_of_le h1 (Nat.pow_le_pow_right (by decide) (Nat.le_succ L))) (Nat.lt_succ_self L) (hf L),fun j hj=> ?_⟩
  by_cases e:j=L
  ·subst e;exact jB N j (f j) (hf j)
  ·rw[fI N L (f L) j (hf L) e];exact h2 j (by omega)
end Go.Proofs.YtfhinmdhjlmikaaGreat
namespace Go.Proofs.YtfhinmdhjlmikaaGreat
set_option linter.unusedSimpArgs false
set_option linter.unusedVariables false
set_option maxRecDepth 100000
open Go.RowKit
open Go.ChangeShapes Go.WideShapes Go.ChangeAt Go.RowKit
section
variable {H:Type} {enc:TypeId×Value→H} {W:World}
theorem abk (d:DataW H):1≤Rows.uptoBulk d:=by
 cases d with
 | lit l=>cases l<;>simp[Rows.uptoBulk]
 | nil=>simp[Rows.uptoBulk]
 | ptr d=>simp[Rows.uptoBulk]
 | slice elems spare=>simp[Rows.uptoBulk]
 | agg parts=>simp[Rows.uptoBulk]
 | iface t d=>simp[Rows.uptoBulk]
 | map aK=>simp[Rows.uptoBulk]
 | held h=>simp[Rows.uptoBulk]
theorem sP:∀l:List (DataW H),l.length≤Rows.uptoBulkAll l
 | []=>Nat.zero_le _
 | d::l=>by have:=abk d;have:=sP l;simp only[Rows.uptoBulkAll,List.length_cons];omega
theorem pV {fuel:Nat} {u:Value} {x:DataW H×List MemPlace} (hf:DataW.trod enc Tryz.prog W 0 (fun _=>true) true fuel 25 [u]=some x):
  ∃a L cap m,u= .slice a L cap∧IsR W (.agg #[.slice a L cap]) L m∧L≤Rows.uptoBulk x.1:=by
 obtain⟨y0,n,hy,hl0,h1⟩:=trod_struct1 Tryz.underlying25 hf
 have hc2:Tryz.prog.cellsOf 23=1:=by kernel_rfl
 simp[hc2]at h1
 rcases open_ints Tryz.underlying23 Tryz.underlying113 (by kernel_rfl) h1 with⟨hcs,_⟩ | ⟨x',l,c,zs,hcs,_,hl,hm,hz,hx0,hcell,hwz⟩
 ·simp at hcs
  subst hcs
  exact⟨none,0,0,0,rfl,⟨none,0,rfl,Nat.le_refl _,by simp,fun h=>by omega⟩,Nat.zero_le _⟩
 ·simp at hcs
  subst hcs
  obtain⟨N,hN,hD⟩:=kY (fun j=>(zs.getD j 0).toNat) (fun j=>by
   have:=range_u32 hwz j
   have e:zs.getD j 0=zs[j]?.getD 0:=by simp
   rw[e];omega) l
  refine⟨some x',l,c,N,rfl,⟨some x',c,rfl,hl,hN,fun h0=> ?_⟩,?_⟩
  ·obtain⟨b,off,spot⟩:=x'
   have hc0:=hcell 0 (by rw[hz];simp;omega)
   have hspot:spot=none:=by simpa [Addr.add]using World.cell?_spot hc0
   subst hspot
   refine⟨b,off,rfl,fun j hj=> ?_⟩
   have h2:=hcell j (by rw[hz];simp;omega)
   have hadd:(⟨b,off,none⟩:Addr).add j=⟨b,off+j,none⟩:=by unfold Addr.add;split<;>simp_all
   rw[hadd]at h2
   rw[h2,hD j hj]
   have:=range_u32 hwz j
   have e:zs.getD j 0=zs[j]?.getD 0:=by simp
   rw[e,Int.toNat_of_nonneg this.1]
  ·have h4:(lits (H:=H) .u32 (zs.take l)).length=l:=by
    simp only[lits,List.length_map,List.length_take]
    have:l≤zs.length:=by rw[hz];simp;omega
    omega
   have h5:=sP (lits (H:=H) .u32 (zs.take l))
   rw[hy]
   simp only[Rows.uptoBulk,Rows.uptoBulkAll,hx0]
   omega
theorem dE {fuel:Nat} {u0 u1 u2:Value} {x:DataW H×List MemPlace} (hf:DataW.trod enc Tryz.prog W 0 (fun _=>true) true fuel 27 [u0,u1,u2]=some x):
  ∃(r:Rq) (a b:Option Addr) (c d:Nat),u0= .bool r.s∧u1= .slice a r.L c∧u2= .slice b r.N d∧IsR W (.agg #[.slice a r.L c]) r.L r.p∧IsR W (.agg #[.slice b r.N d]) r.N r.q∧r.L≤Rows.uptoBulk x.1∧r.N≤Rows.uptoBulk x.1:=by
 have hcn:Tryz.prog.cellsOf 25=1:=by kernel_rfl
 have hcb:Tryz.prog.cellsOf 4=1:=by kernel_rfl
 obtain⟨y0,y1,y2,n,hy,hl0,h0,h1,h2⟩:=Go.Deep.trod_struct3 Tryz.underlying27 hf
 simp[hcn,hcb]at h0 h1 h2
 obtain⟨s,h3,_⟩:=DataW.trod_bool Tryz.underlying4 h0
 obtain rfl:u0= .bool s:=by simpa using h3
 obtain⟨a,L,c,m,rfl,i1,l1⟩:=pV h1
 obtain⟨a',N,c',k,rfl,i2,l2⟩:=pV h2
 have hk:Rows.uptoBulk y1.1≤Rows.uptoBulk x.1∧Rows.uptoBulk y2.1≤Rows.uptoBulk x.1:=by rw[hy];simp only[Rows.uptoBulk,Rows.uptoBulkAll];omega
 exact⟨⟨s,L,m,N,k⟩,a,a',c,c',rfl,rfl,rfl,i1,i2,Nat.le_trans l1 hk.1,Nat.le_trans l2 hk.2⟩
theorem vw {fuel:Nat} {l:List Value} {x:DataW H×List MemPlace} (hl:l.length=12) (hf:DataW.trod enc Tryz.prog W 0 (fun _=>true) true fuel 29 l=some x):
  ∃r0 r1 r2 r3:Rq,bG W [r0,r1,r2,r3] l∧(r0.L≤Rows.uptoBulk x.1∧r0.N≤Rows.uptoBulk x.1)∧(r1.L≤Rows.uptoBulk x.1∧r1.N≤Rows.uptoBulk x.1)∧(r2.L≤Rows.uptoBulk x.1∧r2.N≤Rows.uptoBulk x.1)∧(r3.L≤Rows.uptoBulk x.1∧r3.N≤Rows.uptoBulk x.1):=by
 have hcf:Tryz.prog.cellsOf 27=3:=by kernel_rfl
 match l,hl with
 | [u0,u1,u2,u3,u4,u5,u6,u7,u8,u9,u10,u11],_=>
  obtain⟨xs,n,_,hx,_,hlen,hg⟩:=DataW.trod_struct Tryz.underlying29 hf
  match xs,hlen with
  | [y0,y1,y2,y3],_=>
   have h0:=hg 0 _ rfl
   have h1:=hg 1 _ rfl
   have h2:=hg 2 _ rfl
   have h3:=hg 3 _ rfl
   simp[Value.cells,hcf]at h0 h1 h2 h3
   obtain⟨r0,a0,b0,c0,d0,rfl,rfl,rfl,i0,j0,s0,t0⟩:=dE h0
   obtain⟨r1,a1,b1,c1,d1,rfl,rfl,rfl,i1,j1,s1,t1⟩:=dE h1
   obtain⟨r2,a2,b2,c2,d2,rfl,rfl,rfl,i2,j2,s2,t2⟩:=dE h2
   obtain⟨r3,a3,b3,c3,d3,rfl,rfl,rfl,i3,j3,s3,t3⟩:=dE h3
   have hb:x.1=_:=congrArg Prod.fst hx
   simp only[List.map_cons,List.map_nil]at hb
   have hk:Rows.uptoBulk y0.1≤Rows.uptoBulk x.1∧Rows.uptoBulk y1.1≤Rows.uptoBulk x.1∧Rows.uptoBulk y2.1≤Rows.uptoBulk x.1∧Rows.uptoBulk y3.1≤Rows.uptoBulk x.1:=by rw[hb];simp only[Rows.uptoBulk,Rows.uptoBulkAll];omega
   exact⟨r0,r1,r2,r3,⟨a0,c0,b0,d0,_,rfl,i0,j0,a1,c1,b1,d1,_,rfl,i1,j1,a2,c2,b2,d2,_,rfl,i2,j2,a3,c3,b3,d3,_,rfl,i3,j3,rfl⟩,⟨by omega,by omega⟩,⟨by omega,by omega⟩,⟨by omega,by omega⟩,⟨by omega,by omega⟩⟩
theorem yt {fuel:Nat} {l:List Value} {x:DataW H×List MemPlace} (hl:l.length=9) (hf:DataW.trod enc Tryz.prog W 0 (fun _=>true) true fuel 31 l=some x):
  ∃r0 r1 r2:Rq,bG W [r0,r1,r2] l∧(r0.L≤Rows.uptoBulk x.1∧r0.N≤Rows.uptoBulk x.1)∧(r1.L≤Rows.uptoBulk x.1∧r1.N≤Rows.uptoBulk x.1)∧(r2.L≤Rows.uptoBulk x.1∧r2.N≤Rows.uptoBulk x.1):=by
 have hcf:Tryz.prog.cellsOf 27=3:=by kernel_rfl
 match l,hl with
 | [u0,u1,u2,u3,u4,u5,u6,u7,u8],_=>
  obtain⟨xs,n,_,hx,_,hlen,hg⟩:=DataW.trod_struct Tryz.underlying31 hf
  match xs,hlen with
  | [y0,y1,y2],_=>
   have h0:=hg 0 _ rfl
   have h1:=hg 1 _ rfl
   have h2:=hg 2 _ rfl
   simp[Value.cells,hcf]at h0 h1 h2
   obtain⟨r0,a0,b0,c0,d0,rfl,rfl,rfl,i0,j0,s0,t0⟩:=dE h0
   obtain⟨r1,a1,b1,c1,d1,rfl,rfl,rfl,i1,j1,s1,t1⟩:=dE h1
   obtain⟨r2,a2,b2,c2,d2,rfl,rfl,rfl,i2,j2,s2,t2⟩:=dE h2
   have hb:x.1=_:=congrArg Prod.fst hx
   simp only[List.map_cons,List.map_nil]at hb
   have hk:Rows.uptoBulk y0.1≤Rows.uptoBulk x.1∧Rows.uptoBulk y1.1≤Rows.uptoBulk x.1∧Rows.uptoBulk y2.1≤Rows.uptoBulk x.1:=by rw[hb];simp only[Rows.uptoBulk,Rows.uptoBulkAll];omega
   exact⟨r0,r1,r2,⟨a0,c0,b0,d0,_,rfl,i0,j0,a1,c1,b1,d1,_,rfl,i1,j1,a2,c2,b2,d2,_,rfl,i2,j2,rfl⟩,⟨by omega,by omega⟩,⟨by omega,by omega⟩,⟨by omega,by omega⟩⟩
theorem oL:∀ {l l':List Rq} {cs cs':List Value},bG W l cs→bG W l' cs'→bG W (l++l') (cs++cs')
 | [],_,cs,_,h,h'=>by have h:cs=[]:=h;subst h;exact h'
 | r::l,l',cs,cs',h,h'=>by
  obtain⟨a,c,b,d,cs1,rfl,i1,i2,h3⟩:=h
  exact⟨a,c,b,d,cs1++cs',rfl,i1,i2,oL h3 h'⟩
end
end Go.Proofs.YtfhinmdhjlmikaaGreat
namespace Go.Proofs.YtfhinmdhjlmikaaGreat
set_option linter.unusedSimpArgs false
set_option linter.unusedVariables false
set_option maxRecDepth 100000
open Go.RowKit
open Go.ChangeShapes Go.WideShapes Go.ChangeAt Go.RowKit
section
variable {H:Type} {enc:TypeId×Value→H} {W:World}
theorem vA {fuel:Nat} {l:List Value} {x:DataW H×List MemPlace} (hl:l.length=21) (hf:DataW.trod enc Tryz.prog W 0 (fun _=>true) true fuel 33 l=some x):
  ∃r0 r1 r2 r3 r4 r5 r6:Rq,bG W [r0,r1,r2,r3,r4,r5,r6] l:=by
 have hcq:Tryz.prog.cellsOf 29=12:=by kernel_rfl
 have hcv:Tryz.prog.cellsOf 31=9:=by kernel_rfl
 obtain⟨xs,n,_,hx,_,hlen,hg⟩:=DataW.trod_struct Tryz.underlying33 hf
 match xs,hlen with
 | [y0,y1],_=>
  have h0:=hg 0 _ rfl
  have h1:=hg 1 _ rfl
  simp[Value.cells,hcq,hcv]at h0 h1
  obtain⟨r0,r1,r2,r3,k0,_⟩:=vw (by simp;omega) h0
  obtain⟨r4,r5,r6,k1,_⟩:=yt (by simp;omega) h1
  refine⟨r0,r1,r2,r3,r4,r5,r6,?_⟩
  have h:=oL k0 k1
  have e:l.take 12++(l.drop 12).take 9=l:=by rw[List.take_of_length_le (show(l.drop 12).length≤9 by simp;omega),List.take_append_drop]
  rw[e]at h
  exact h
theorem sQ {fuel:Nat} {l:List Value} {x:DataW H×List MemPlace} (hl:l.length=22) (hf:DataW.trod enc Tryz.prog W 0 (fun _=>true) true fuel 35 l=some x):
  ∃(s:RSt) (cs:List Value),l= .int .i64 s.tm::cs∧bG W s.rs cs:=by
 have hci:Tryz.prog.cellsOf 3=1:=by kernel_rfl
 have hcp:Tryz.prog.cellsOf 33=21:=by kernel_rfl
 obtain⟨xs,n,_,hx,_,hlen,hg⟩:=DataW.trod_struct Tryz.underlying35 hf
 match xs,hlen with
 | [y0,y1],_=>
  have h0:=hg 0 _ rfl
  have h1:=hg 1 _ rfl
  simp[Value.cells,hci,hcp]at h0 h1
  match l,hl with
  | u::l,hl=>
   simp at h0 h1 hl
   obtain⟨t,h3,_⟩:=DataW.trod_int Tryz.underlying3 h0
   obtain rfl:u= .int .i64 t:=by simpa using h3
   rw[List.take_of_length_le (by omega)]at h1
   obtain⟨r0,r1,r2,r3,r4,r5,r6,k⟩:=vA hl h1
   exact⟨⟨t,r0,r1,r2,r3,r4,r5,r6⟩,l,rfl,k⟩
end
end Go.Proofs.YtfhinmdhjlmikaaGreat
namespace Go.Proofs.YtfhinmdhjlmikaaGreat
set_option linter.unusedSimpArgs false
set_option linter.unusedVariables false
set_option maxRecDepth 100000
open Go.RowKit
open Go.ChangeShapes Go.WideShapes Go.ChangeAt Go.RowKit
section
variable {H:Type} {enc:TypeId×Value→H} {W:World}
theorem sR:∀ {R:List RSt} {j:Nat} {q:Vp},(bc R)[j]? =some q→∃i x j',R[i]? =some x∧x.qs[j']? =some q∧j=i*22+j'∧j'<22
 | [],_,_,h=>by simp[bc]at h
 | s::R,j,q,h=>by
  have h22:s.qs.length=22:=rfl
  simp only[bc,List.flatMap_cons]at h
  by_cases hj:j<22
  ·rw[List.getElem?_append_left (by omega)]at h
   exact⟨0,s,j,rfl,h,by omega,hj⟩
  ·rw[List.getElem?_append_right (by omega),h22]at h
   obtain⟨i,x,j',h1,h2,h3,h4⟩:=sR (R:=R) h
   exact⟨i+1,x,j',by simpa using h1,h2,by omega,h4⟩
theorem sS:∀ {rs:List Rq} {cs:List Value} {j:Nat} {q:Vp},bG W rs cs→(mz rs)[j]? =some q→∃u,cs[j]? =some u∧q.p W u∧∀g,¬q.fp W u g
 | [],_,_,_,_,h=>by simp[mz]at h
 | r::rs,cs,j,q,hc,h=>by
  obtain⟨a,c,b,d,cs',rfl,h1,h2,h3⟩:=hc
  simp only[mz,List.flatMap_cons]at h
  match j,h with
  | 0,h=>simp at h;subst h;exact⟨_,rfl,⟨rfl,jc⟩,fun _ h=>h⟩
  | 1,h=>simp at h;subst h;exact⟨_,rfl,h1,fun _ h=>h⟩
  | 2,h=>simp at h;subst h;exact⟨_,rfl,h2,fun _ h=>h⟩
  | j+3,h=>
   obtain⟨u,k1,k2⟩:=sS (rs:=rs) (cs:=cs') (j:=j) (q:=q) h3 (by simpa [mz]using h)
   exact⟨u,by simpa using k1,k2⟩
theorem st_qs {x:RSt} {cs:List Value} {j:Nat} {q:Vp} (hc:bG W x.rs cs) (h:x.qs[j]? =some q):∃u,(.int .i64 x.tm::cs)[j]? =some u∧q.p W u∧∀g,¬q.fp W u g:=by
 cases j with
 | zero=>
  simp[RSt.qs]at h;subst h
  exact⟨_,rfl,⟨rfl,az⟩,fun _ h=>h⟩
 | succ j=>
  obtain⟨u,k1,k2⟩:=sS (j:=j) (q:=q) hc (by simpa [RSt.qs]using h)
  exact⟨u,by simpa using k1,k2⟩
theorem iX {v:Value} {d:DataW H} {p:List MemPlace} {base:Nat} (hval:Value.okWide Tryz.prog W .any base 22 v) (h:DataW.Trod enc Tryz.prog W 0 (fun _=>true) true 22 v d p):
  ∃R:List RSt,(Vp.rowW R.length (bc R)).p W v:=by
 obtain⟨a0,len0,cap0,rfl⟩:=okWide_slice Tryz.underlying22 hval
 obtain⟨fuel,hf⟩:=h
 have hc22:Tryz.prog.cellsOf 35=22:=by kernel_rfl
 rcases Go.Deep.open_slice Tryz.underlying22 hf with⟨hcs,_⟩ | ⟨a,len,cap,m,n,D,Pl,hcs,_,hlc,_,hm,_,hx⟩
 ·simp[Value.cells]at hcs
  obtain⟨rfl,rfl,rfl⟩:=hcs
  exact⟨[],.inl ⟨rfl,rfl,_,_,rfl⟩⟩
 ·simp[Value.cells]at hcs
  obtain⟨rfl,rfl,rfl⟩:=hcs
  have hlm:len0≤m:=by rw[hm];split<;>omega
  by_cases h0:len0=0
  ·subst h0
   exact⟨[],.inl ⟨rfl,rfl,_,_,rfl⟩⟩
  ·have hcells:∀i,i<len0→∃cs',(∀j,j<22→W.cell? ((a.add (i*22)).add j)=cs'[j]?)∧cs'.length=22∧DataW.trod enc Tryz.prog W 0 (fun _=>true) true n 35 cs'=some (D i,Pl i):=fun i hi=>by
    obtain⟨cs',h1,h2⟩:=hx i (by omega)
    rw[hc22]at h1
    obtain⟨_,hl,hcell⟩:=World.cells?_some h1
    exact⟨cs',hcell,hl,h2⟩
   obtain⟨b,o,spot⟩:=a
   have hspot:spot=none:=by
    obtain⟨cs',h1,h2,_⟩:=hcells 0 (by omega)
    have h3:=h1 0 (by omega)
    rw[List.getElem?_eq_getElem (show 0<cs'.length by omega)]at h3
    have h4:=World.cell?_spot h3
    simpa [Addr.add]using h4
   subst hspot
   simp only[dk]at hcells
   have hst:∀i,∃s:RSt,i<len0→∀(j:Nat) (q:Vp),s.qs[j]? =some q→∃u,W.cell? ⟨b,o+(i*22+j),none⟩=some u∧q.p W u∧∀g,¬q.fp W u g:=by
    intro i
    by_cases hi:i<len0
    ·obtain⟨cs',hcell,hl,h2⟩:=hcells i hi
     obtain⟨s,cs,rfl,hr⟩:=sQ hl h2
     refine⟨s,fun _ j q hq=> ?_⟩
     obtain⟨u,k1,k2⟩:=st_qs hr hq
     have hj:j<22:=by have:=(List.getElem?_eq_some_iff.1 hq).1;exact this
     refine⟨u,?_,k2⟩
     rw[←Nat.add_assoc,hcell j hj];exact k1
    ·exact⟨⟨0,Fq.zero.raw,Fq.zero.raw,Fq.zero.raw,Fq.zero.raw,Fq.zero.raw,Fq.zero.raw,Fq.zero.raw⟩,fun h=>absurd h hi⟩
   obtain⟨f,hf'⟩:=Classical.axiomOfChoice hst
   refine⟨(List.range len0).map f,?_⟩
   have hlen:((List.range len0).map f).length=len0:=by simp
   rw[hlen]
   refine .inr ⟨b,o,cap0,rfl,h0,?_,fun j q hq=> ?_⟩
   ·obtain⟨cs',h1,h2,_⟩:=hcells 0 (by omega)
    have h3:=h1 0 (by omega)
    rw[List.getElem?_eq_getElem (show 0<cs'.length by omega)]at h3
    unfold World.cell? at h3
    split at h3
    ·rename_i hh
     exact(Array.getElem?_eq_some_iff.1 hh).1
    ·cases h3
   ·obtain⟨i,x,j',h1,h2,rfl,_⟩:=sR hq
    have hi:i<len0:=by have:=(List.getElem?_eq_some_iff.1 h1).1;rw[hlen]at this;exact this
    have e:x=f i:=by
     rw[List.getElem?_map,List.getElem?_range hi]at h1
     simpa using h1.symm
    subst e
    exact hf' i hi j' q h2
end
end Go.Proofs.YtfhinmdhjlmikaaGreat
