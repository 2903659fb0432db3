/- Calls on no tree, as an executor meets them. What arguments of the type roboticslaw29.Query are. Package lookup on no tree, as an executor meets it. Nobody of package lookup. -/
import Derived.Test.YtggfmklppkioeaaGreatP21
namespace Go.Proofs.YtggfmklppkioeaaGreat
set_option linter.unusedSimpArgs false
set_option linter.unusedVariables false
set_option maxRecDepth 100000
open Go.RowKit
section
variable {ρ:Rho} {n m k:Nat} {c p:Nm} {a u:Int} {l:Leaf} {sv:SV}
def KT (ρ:Rho) (l:Leaf) (c:Nm):Prop:=∀B w x,l.holds ρ B w x→x= .string c
theorem j9 (h:ρ[n]? =some (.val (.string c))):KT ρ (.ref n) c:=fun _ _ _ hx=>bn h hx
theorem kt_c:KT ρ (.s c) c:=fun _ _ _ h=>h
theorem o_eqlS0 {t:TypeId} {b:Bool} (ht:rE Tryz.prog t=true) (h1:KT ρ l c) {l':Leaf} (h2:KT ρ l' p) (hb:decide (c=p)=b):(OIns.mk (.bin .eql t) [.one l,.one l'] (.one (.b b))).Ok Tryz.prog ρ:=fun B w vs hv=>by
 match vs,hv with
 | [v0,v1],hv=>
  have e0:=h1 _ _ _ hv.1
  have e1:=h2 _ _ _ hv.2.1
  subst e0;subst e1;subst hb
  refine⟨_,rfl,fun xo yo=> ?_⟩
  by_cases h:c=p
  ·subst h
   have h3:(ByteArray.toList c==ByteArray.toList c)=true:=by simp
   simp[eqGuard,binOp,Op.stringOp,Sem.run_bind,Result.andThen,h3]
  ·have h3:=ul h
   simp[eqGuard,binOp,Op.stringOp,Sem.run_bind,Result.andThen,h,h3]
theorem I_Name (h1:KI ρ l .u8 u) (hm:ρ[m]? =some (.val (.string (nM u)))) (h:0≤u∧u<256):Inst.Ok Tryz.prog ρ ⟨39,[.one l],.v (.one (.ref m))⟩:=
 ⟨aA Tryz.func39 rfl rfl,fun B w vs hB hv=>by
  match vs,hv with
  | [v0],hv=>
   have e0:=h1 _ _ _ hv.1
   subst e0
   refine(q_Name u h).mono ?_
   rintro e w' ⟨rfl,hw⟩
   obtain rfl:=hw.symm
   exact⟨_,rfl,aF hm fZ,Below.refl _ _⟩⟩
theorem o_len0 {t e:TypeId} (ht:Tryz.prog.underlying t=some (.slice e)):(OIns.mk (.len t) [.one .sl0] (.one (.i .i64 0))).Ok Tryz.prog ρ:=fun B w vs hv=>by
 match vs,hv with
 | [v1],hv=>
  have e:v1= .slice none 0 0:=hv.1
  subst e
  refine⟨.int .i64 0,rfl,fun ts ty h0=> ?_⟩
  simp[Builtin.len_,h0,Sem.run_bind,run_underlying ht,Result.andThen,goInt]
end
section
open Go.ChangeShapes Go.WideShapes Go.ChangeAt Go.RowKit
structure Qry where
 a:Int
 b:Int
 c:Int
 t:Int
 o:Int
def Qry.cs (s:Qry):List Value:=[.int .u8 s.a,.int .u8 s.b,.int .u8 s.c,.int .i64 s.t,.int .i64 s.o]
abbrev Qry.val (s:Qry):Value:=.agg s.cs.toArray
structure Qry.Ok (s:Qry):Prop where
 a:0≤s.a∧s.a<256
 b:0≤s.b∧s.b<256
 c:0≤s.c∧s.c<256
 t: -9223372036854775808≤s.t∧s.t<9223372036854775808
 o: -9223372036854775808≤s.o∧s.o<9223372036854775808
section
variable {H:Type} {enc:TypeId×Value→H} {W:World}
theorem i64_wf {t:Int} (h:(Lit.int .i64 t).wf=true): -9223372036854775808≤t∧t<9223372036854775808:=by
 simp[Lit.wf,IntKind.min,IntKind.max,IntKind.wrap,IntKind.bits,IntKind.signed]at h;omega
theorem xa {v:Value} {d:DataW H} {p:List MemPlace} {base:Nat} (hval:Value.okWide Tryz.prog W .any base 94 v) (h:DataW.Trod enc Tryz.prog W 0 (fun _=>true) true 94 v d p):∃s:Qry,s.Ok∧v=s.val:=by
 obtain⟨cs,rfl,hcs⟩:=okWide_struct Tryz.underlying94 hval
 have hc:Tryz.prog.cellsOf 94=5:=by kernel_rfl
 rw[hc]at hcs
 obtain⟨l⟩:=cs
 have hl:l.length=5:=by simpa using hcs
 obtain⟨fuel,hf⟩:=h
 have h8:Tryz.prog.cellsOf 5=1:=by kernel_rfl
 have h64:Tryz.prog.cellsOf 3=1:=by kernel_rfl
 obtain⟨xs,n,_,hx,_,hlen,hg⟩:=DataW.trod_struct Tryz.underlying94 hf
 match xs,hlen with
 | [y0,y1,y2,y3,y4],_=>
  have k0:=hg 0 _ rfl
  have k1:=hg 1 _ rfl
  have k2:=hg 2 _ rfl
  have k3:=hg 3 _ rfl
  have k4:=hg 4 _ rfl
  simp[Value.cells,h8,h64]at k0 k1 k2 k3 k4
  match l,hl with
  | [u0,u1,u2,u3,u4],_=>
   simp at k0 k1 k2 k3 k4
   obtain⟨t0,e0,f0⟩:=DataW.trod_int Tryz.underlying5 k0
   obtain⟨t1,e1,f1⟩:=DataW.trod_int Tryz.underlying5 k1
   obtain⟨t2,e2,f2⟩:=DataW.trod_int Tryz.underlying5 k2
   obtain⟨t3,e3,f3⟩:=DataW.trod_int Tryz.underlying3 k3
   obtain⟨t4,e4,f4⟩:=DataW.trod_int Tryz.underlying3 k4
   simp at e0 e1 e2 e3 e4
   subst e0 e1 e2 e3 e4
   exact⟨⟨t0,t1,t2,t3,t4⟩,⟨u8_wf f0.2,u8_wf f1.2,u8_wf f2.2,i64_wf f3.2,i64_wf f4.2⟩,rfl⟩
end
end
section
variable {ρ:Rho} {n m k:Nat} {c d p:Nm} {a u:Int} {l l' l'' l3 l4:Leaf} {sv:SV}
theorem I_nPath (h1:KT ρ l c) (h2:KT ρ l' d) (h3:KI ρ l'' .i64 a):Inst.Ok Tryz.prog ρ ⟨48,[.one .nilp,.one l,.one l',.one l''],.tup [.one .sl0,.one (.i .i64 6)]⟩:=
 ⟨aA Tryz.func48 rfl rfl,fun B w vs hB hv=>by
  match vs,hv with
  | [v0,v1,v2,v3],hv=>
   have e0:v0= .pointer none:=hv.1
   have e1:=h1 _ _ _ hv.2.1
   have e2:=h2 _ _ _ hv.2.2.1
   have e3:=h3 _ _ _ hv.2.2.2.1
   subst e0;subst e1;subst e2;subst e3
   refine(n_Path w _ _ _).mono ?_
   rintro e w' ⟨rfl,hw⟩
   obtain rfl:=hw.symm
   exact⟨_,rfl,⟨[.slice none 0 0,.int .i64 6],rfl,rfl,rfl,trivial⟩,Below.refl _ _⟩⟩
theorem I_nFind (h1:KT ρ l c) (h2:KT ρ l' d) (h3:KI ρ l'' .i64 a):Inst.Ok Tryz.prog ρ ⟨18,[.one .nilp,.one l,.one l',.one l''],.tup [.agg zero21,.one (.i .i64 6)]⟩:=
 ⟨aA Tryz.func18 rfl rfl,fun B w vs hB hv=>by
  match vs,hv with
  | [v0,v1,v2,v3],hv=>
   have e0:v0= .pointer none:=hv.1
   have e1:=h1 _ _ _ hv.2.1
   have e2:=h2 _ _ _ hv.2.2.1
   have e3:=h3 _ _ _ hv.2.2.2.1
   subst e0;subst e1;subst e2;subst e3
   refine(sB w _ _ _).mono ?_
   rintro e w' ⟨rfl,hw⟩
   exact⟨_,rfl,⟨[.agg aw.toArray,.int .i64 6],rfl,⟨_,rfl,uy⟩,rfl,trivial⟩,hw⟩⟩
theorem aaf {xs:List Fq} {ys:Rho} {kr:List Nat} (h1:KT (frs xs++ys) l c) (h2:KI (frs xs++ys) l' .i64 a) (h3:KT (frs xs++ys) l'' d) (h4:KI (frs xs++ys) l3 .i64 u) (h5:KT (frs xs++ys) l4 p) (ar:AtL xs kr Pq.zero.cs):OkI xs ys ⟨49,[.one .nilp,.one l,.one l',.one l'',.one l3,.one l4],.tup [row kr,.one (.i .i64 6)]⟩:=
 ⟨aA Tryz.func49 rfl rfl,fun B w vs hB hv=>by
  match vs,hv with
  | [v0,v1,v2,v3,v4,v5],hv=>
   have e0:v0= .pointer none:=hv.1
   have e1:=h1 _ _ _ hv.2.1
   have e2:=h2 _ _ _ hv.2.2.1
   have e3:=h3 _ _ _ hv.2.2.2.1
   have e4:=h4 _ _ _ hv.2.2.2.2.1
   have e5:=h5 _ _ _ hv.2.2.2.2.2.1
   subst e0;subst e1;subst e2;subst e3;subst e4;subst e5
   refine(n_Across w _ _ _ _ _).mono ?_
   rintro e w' ⟨v,rfl,h6,hw⟩
   exact⟨_,rfl,⟨[v,.int .i64 6],rfl,(ah ar).2 h6,rfl,trivial⟩,hw⟩⟩
theorem aag (h1:KT ρ l c) (h2:KT ρ l' d):Inst.Ok Tryz.prog ρ ⟨50,[.one .nilp,.one l,.one l'],.tup [.one (.i .i64 0),.one (.i .i64 6)]⟩:=
 ⟨aA Tryz.func50 rfl rfl,fun B w vs hB hv=>by
  match vs,hv with
  | [v0,v1,v2],hv=>
   have e0:v0= .pointer none:=hv.1
   have e1:=h1 _ _ _ hv.2.1
   have e2:=h2 _ _ _ hv.2.2.1
   subst e0;subst e1;subst e2
   refine(n_Latest w _ _).mono ?_
   rintro e w' ⟨rfl,hw⟩
   exact⟨_,rfl,⟨[.int .i64 0,.int .i64 6],rfl,rfl,rfl,trivial⟩,hw⟩⟩
def zero9:List Leaf:=[.b false,.sl0,.sl0,.b false,.sl0,.sl0,.b false,.sl0,.sl0]
theorem zero9_h {B:Blk} {w:World}:aB ρ B w zero9 dJ:=⟨rfl,rfl,rfl,rfl,rfl,rfl,rfl,rfl,rfl,trivial⟩
theorem I_nMove {ls:List Leaf} (h1:KT ρ l c) (h2:KT ρ l' d) (h3:KI ρ l'' .i64 a) (hl:ls.length=9):Inst.Ok Tryz.prog ρ ⟨24,[.one .nilp,.one l,.one l',.one l'',.agg ls],.tup [.agg zero9,.one (.i .i64 6)]⟩:=
 ⟨aA Tryz.func24 rfl rfl,fun B w vs hB hv=>by
  match vs,hv with
  | [v0,v1,v2,v3,v4],hv=>
   have e0:v0= .pointer none:=hv.1
   have e1:=h1 _ _ _ hv.2.1
   have e2:=h2 _ _ _ hv.2.2.1
   have e3:=h3 _ _ _ hv.2.2.2.1
   obtain⟨cs,rfl,h4⟩:=hv.2.2.2.2.1
   have hl2:=h4.len
   subst e0;subst e1;subst e2;subst e3
   refine(n_Move w _ _ _ (by omega)).mono ?_
   rintro e w' ⟨rfl,hw⟩
   exact⟨_,rfl,⟨[.agg dJ.toArray,.int .i64 6],rfl,⟨_,rfl,zero9_h⟩,rfl,trivial⟩,hw⟩⟩
theorem aah (h1:KT ρ l c) (h2:KT ρ l' d) (h3:KI ρ l'' .i64 a):Inst.Ok Tryz.prog ρ ⟨52,[.one .nilp,.one l,.one l',.one l''],.tup [.one (.s (ByteArray.mk #[])),.one (.b false)]⟩:=
 ⟨aA Tryz.func52 rfl rfl,fun B w vs hB hv=>by
  match vs,hv with
  | [v0,v1,v2,v3],hv=>
   have e0:v0= .pointer none:=hv.1
   have e1:=h1 _ _ _ hv.2.1
   have e2:=h2 _ _ _ hv.2.2.1
   have e3:=h3 _ _ _ hv.2.2.2.1
   subst e0;subst e1;subst e2;subst e3
   refine(n_Common w _ _ _).mono ?_
   rintro e w' ⟨rfl,hw⟩
   obtain rfl:=hw.symm
   exact⟨_,rfl,⟨[.string ByteArray.empty,.bool false],rfl,rfl,rfl,trivial⟩,Below.refl _ _⟩⟩
theorem I_nCan (h1:KT ρ l c) (h2:KT ρ l' d) (h3:KI ρ l'' .i64 a):Inst.Ok Tryz.prog ρ ⟨19,[.one .nilp,.one l,.one l',.one l''],.v (.one (.b false))⟩:=
 ⟨aA Tryz.func19 rfl rfl,fun B w vs hB hv=>by
  match vs,hv with
  | [v0,v1,v2,v3],hv=>
   have e0:v0= .pointer none:=hv.1
   have e1:=h1 _ _ _ hv.2.1
   have e2:=h2 _ _ _ hv.2.2.1
   have e3:=h3 _ _ _ hv.2.2.2.1
   subst e0;subst e1;subst e2;subst e3
   refine(n_Can w _ _ _).mono ?_
   rintro e w' ⟨rfl,hw⟩
   exact⟨_,rfl,rfl,hw⟩⟩
theorem aai:Inst.Ok Tryz.prog ρ ⟨53,[],.v (.one (.b true))⟩:=
 ⟨aA Tryz.func53 rfl rfl,fun B w vs hB hv=>by
  match vs,hv with
  | [],_=>
   refine(aae w).mono ?_
   rintro e w' ⟨rfl,hw⟩
   exact⟨_,rfl,rfl,hw⟩⟩
end
def uN (s:Qry):List Fq:=(Pq.zero.cs++([(Fq.ofInt 1)]))
theorem aaj {w:World} (s:Qry) (hs:s.Ok):
  Calls Tryz.prog 9 #[s.val] w fun e w'=>e= .returned (.bool true)∧Below w.heap.size w w':=by
 refine(gF (ρ:=frs (uN s)++([.val (.int .u8 s.a),.val (.int .u8 s.b),.val (.int .u8 s.c),.val (.int .i64 s.t),.val (.int .i64 s.o),.val (.string (nM s.a)),.val (.string (nM s.b))]:List Vp)) (w:=w) (fuel:=300) (args:=[.agg [.ref 24,.ref 25,.ref 26,.ref 27,.ref 28]]) (vs:=[s.val]) (r:=.v (.one (.b true))) (lo:=[]) (obs:=[])
  (ae (I_Name (m:=29) (az (n:=24) rfl) rfl hs.a) (ae (I_Name (m:=30) (az (n:=25) rfl) rfl hs.b) (ae (I_nPath (j9 (n:=29) rfl) (j9 (n:=30) rfl) (az (n:=27) rfl)) (ae (I_nFind (j9 (n:=29) rfl) (j9 (n:=30) rfl) (az (n:=27) rfl)) (ae (aaf (kr:=[0,1,2,3,4,5,6]) (j9 (n:=29) rfl) (az (n:=27) rfl) (j9 (n:=30) rfl) (az (n:=28) rfl) (j9 (n:=29) rfl) ⟨rfl,rfl,rfl,rfl,rfl,rfl,rfl,trivial⟩) (ae (aag (j9 (n:=29) rfl) (j9 (n:=30) rfl)) (ae (rJ (k:=7) rfl (by decide) (by decide)) (ae (I_nMove (ls:=bG [7,7,7]) (j9 (n:=29) rfl) (j9 (n:=30) rfl) (az (n:=27) rfl) rfl) (ae (aah (j9 (n:=29) rfl) (j9 (n:=30) rfl) (az (n:=27) rfl)) (ae (I_nCan (j9 (n:=29) rfl) (j9 (n:=30) rfl) (az (n:=27) rfl)) (ae (aai) ai)))))))))))
  (af (o_len0 (t:=68) Tryz.underlying68) (af (o_len0 (t:=29) Tryz.underlying29) (af (o_eqlS0 (t:=9) (c:=(ByteArray.mk #[])) (p:=(ByteArray.mk #[])) (b:=true) (by kernel_rfl) kt_c kt_c (by decide)) (aj)))) (by kernel_rfl) Tryz.func9 (by kernel_rfl) aR ⟨⟨s.cs,rfl,aF (n:=24) rfl (dk (by decide)),aF (n:=25) rfl (dk (by decide)),aF (n:=26) rfl (dk (by decide)),aF (n:=27) rfl (dk (by decide)),aF (n:=28) rfl (dk (by decide)),trivial⟩,trivial⟩).mono ?_
 rintro e w' ⟨v,rfl,h1,h2⟩
 have e1:v= .bool true:=h1
 subst e1
 exact⟨rfl,h2⟩
end Go.Proofs.YtggfmklppkioeaaGreat
