/- Facts of the program that FrametreeNobody asks for, one by one: all at once is more than the kernel holds. Calls on no tree, as an executor meets them. Nobody: what a nil tree does. -/
import Derived.Test.YtggfmklppkioeaaGreatP17
import Derived.Test.YtggfmklppkioeaaGreatRows
import Derived.WalkKit
import Derived.ProofKit
import Derived.OpenShut
import Derived.ChangeOld
namespace Go.Proofs.YtggfmklppkioeaaGreat
set_option linter.unusedSimpArgs false
set_option linter.unusedVariables false
set_option maxRecDepth 100000
private theorem band {a b:Bool} (h:a=true) (k:b=true):(a && b)=true:=by rw[h,k];rfl
theorem i9:(Rows.frametreeNobodyRow.wf (OpenSpec.ofChange Rows.frametreeNobodySpec))=true:=by kernel_rfl
theorem ja:(laidOutB Tryz.prog)=true:=by kernel_rfl
theorem jb:(mapsRowed Tryz.prog)=true:=by kernel_rfl
theorem jc:(Tryz.f8.params.all (Tryz.prog.readableRec ·))=true:=by kernel_rfl
theorem jd:(namedTie Tryz.prog Rows.frametreeNobodyRow.named Rows.frametreeNobodySpec.vars)=true:=by kernel_rfl
theorem je:((Rows.frametreeNobodyRow.stops==[]))=true:=by kernel_rfl
theorem jf:((Tryz.prog.stops==[]))=true:=by kernel_rfl
theorem jg:((Rows.frametreeNobodyRow.knobs==[]))=true:=by kernel_rfl
theorem jh:((Tryz.prog.stopKnobs==[]))=true:=by kernel_rfl
theorem ji:((Rows.frametreeNobodyRow.inPlace==Tryz.prog.inPlace 8))=true:=by kernel_rfl
theorem gR:((Rows.frametreeNobodyRow.unfollowed==Tryz.prog.unfollowed 8))=true:=by kernel_rfl
theorem gS:((Rows.frametreeNobodyRow.recurses==Tryz.prog.recurses 8))=true:=by kernel_rfl
theorem gT:((Rows.frametreeNobodyRow.named==Tryz.prog.varsNamed 8))=true:=by kernel_rfl
theorem gU:((Rows.frametreeNobodyRow.maps==(Tryz.f8.params.toList++Rows.frametreeNobodySpec.plain.varTypes Tryz.prog).any (Tryz.prog.mapsRec ·)))=true:=by kernel_rfl
theorem gV:((Rows.frametreeNobodyRow.ifaces==(Tryz.f8.params.toList++Rows.frametreeNobodySpec.plain.varTypes Tryz.prog).any (Tryz.prog.ifacesRec ·)))=true:=by kernel_rfl
theorem gW:((Rows.frametreeNobodyRow.mapsOut==Tryz.prog.mapsAmong Tryz.f8.resultTypes.toList))=true:=by kernel_rfl
theorem gX:((Rows.frametreeNobodyRow.loops==(Tryz.f8.params.toList++Rows.frametreeNobodySpec.plain.varTypes Tryz.prog).any (Tryz.prog.loopsFrom ·)))=true:=by kernel_rfl
theorem gY:((Rows.frametreeNobodyRow.wideKeys==(Tryz.f8.params.toList++Rows.frametreeNobodySpec.plain.varTypes Tryz.prog++Tryz.f8.resultTypes.toList).any (Tryz.prog.wideKeysFrom ·)))=true:=by kernel_rfl
theorem gZ:(Rows.frametreeNobodySpec.vars.all (Tryz.prog.varReadable ·))=true:=by kernel_rfl
theorem g7:(Tryz.f8.resultTypes.all (fun t=>Tryz.prog.readableRec t && decide (t<Tryz.prog.types.size)))=true:=by kernel_rfl
theorem g8:((Rows.frametreeNobodyRow.ifacesOut==Tryz.f8.resultTypes.toList.any (Tryz.prog.ifacesRec ·)))=true:=by kernel_rfl
theorem g9:((Rows.frametreeNobodyRow.loopsOut==Tryz.f8.resultTypes.toList.any (Tryz.prog.loopsFrom ·)))=true:=by kernel_rfl
theorem hJ:((Rows.frametreeNobodyRow.plainKeys==Tryz.prog.plainKeys))=true:=by kernel_rfl
theorem hY:(Rows.frametreeNobodyRow.shortTexts.isNone)=true:=by kernel_rfl
theorem hZ:(Tryz.prog.stopsHeard)=true:=by kernel_rfl
theorem ie:(Tryz.prog.mayEnter)=true:=by kernel_rfl
theorem ig:((Rows.frametreeNobodyRow.lifted==Tryz.prog.liftsFinal))=true:=by kernel_rfl
theorem ii:((Tryz.prog.make==some Rows.frametreeNobodyRow.make))=true:=by kernel_rfl
theorem ij:((Rows.frametreeNobodyRow.kinds==(if Rows.frametreeNobodyRow.domain.isEmpty then []else Tryz.f8.params.toList.map fun t=>match Tryz.prog.underlying t with | some (.int k)=>some k | _=>none)))=true:=by kernel_rfl
theorem io:((Rows.frametreeNobodyRow.pinned==Rows.frametreeNobodyRow.pinnedBy))=true:=by kernel_rfl
theorem iw:((Rows.frametreeNobodyRow.veiled==(Tryz.f8.params.toList++Rows.frametreeNobodySpec.plain.varTypes Tryz.prog++Tryz.f8.resultTypes.toList).any (Tryz.prog.veiledRec ·)))=true:=by kernel_rfl
theorem iy:(Rows.frametreeNobodyRow.veiledFits Tryz.prog Tryz.f8.params.toList (Tryz.f8.params.toList++Rows.frametreeNobodySpec.plain.varTypes Tryz.prog++Tryz.f8.resultTypes.toList))=true:=by kernel_rfl
set_option maxRecDepth 100000 in
theorem fv:joinedFacts Tryz.prog 8 Tryz.f8 Rows.frametreeNobodySpec Rows.frametreeNobodyRow=true:=by
 unfold joinedFacts
 exact band (band (band (band (band (band (band (band (band (band (band (band (band (band (band (band (band (band (band (band (band (band (band (band (band (band (band (band (band (band (band (i9) ja) jb) jc) jd) je) jf) jg) jh) ji) gR) gS) gT) gU) gV) gW) gX) gY) gZ) g7) g8) g9) hJ) hY) hZ) ie) ig) ii) ij) io) iw) iy
end Go.Proofs.YtggfmklppkioeaaGreat
namespace Go.Proofs.YtggfmklppkioeaaGreat
set_option linter.unusedSimpArgs false
set_option linter.unusedVariables false
set_option maxRecDepth 100000
open Go.RowKit
section
variable {ρ:Rho} {n m k:Nat} {c p:Nm} {a u:Int} {l:Leaf} {sv:SV}
/-- The leaf is this text. -/
def KT (ρ:Rho) (l:Leaf) (c:Nm):Prop:=∀B w x,l.holds ρ B w x→x= .string c
theorem re (h:ρ[n]? =some (.val (.string c))):KT ρ (.ref n) c:=fun _ _ _ hx=>aX h hx
theorem kt_c:KT ρ (.s c) c:=fun _ _ _ h=>h
theorem o_eqlS0 {t:TypeId} {b:Bool} (ht:qt Tryz.prog t=true) (h1:KT ρ l c) {l':Leaf} (h2:KT ρ l' p) (hb:decide (c=p)=b):(OIns.mk (.bin .eql t) [.one l,.one l'] (.one (.b b))).Ok Tryz.prog ρ:=fun B w vs hv=>by
 match vs,hv with
 | [v0,v1],hv=>
  have e0:=h1 _ _ _ hv.1
  have e1:=h2 _ _ _ hv.2.1
  subst e0;subst e1;subst hb
  refine⟨_,rfl,fun xo yo=> ?_⟩
  by_cases h:c=p
  ·subst h
   have h3:(ByteArray.toList c==ByteArray.toList c)=true:=by simp
   simp[eqGuard,binOp,Op.stringOp,Sem.run_bind,Result.andThen,h3]
  ·have h3:=aai h
   simp[eqGuard,binOp,Op.stringOp,Sem.run_bind,Result.andThen,h,h3]
theorem mr (h1:KI ρ l .u8 u) (hm:ρ[m]? =some (.val (.string (bi u)))) (h:0≤u∧u<256):Inst.Ok Tryz.prog ρ ⟨39,[.one l],.v (.one (.ref m))⟩:=
 ⟨aw Tryz.func39 rfl rfl,fun B w vs hB hv=>by
  match vs,hv with
  | [v0],hv=>
   have e0:=h1 _ _ _ hv.1
   subst e0
   refine(mo u h).mono ?_
   rintro e w' ⟨rfl,hw⟩
   obtain rfl:=hw.symm
   exact⟨_,rfl,aA hm gB,Below.refl _ _⟩⟩
theorem I_Pose {xs:List Fq} {ys:Rho} {kr:List Nat} {l':Leaf} {x:Int} (h1:KI (frs xs++ys) l .i8 x) (h2:KI (frs xs++ys) l' .u8 u) (ar:AtL xs kr (bj x u).cs) (hx: -128≤x∧x<128) (hu:0≤u∧u<256):OkI xs ys ⟨86,[.one l,.one l'],.v (row kr)⟩:=
 ⟨aw Tryz.func86 rfl rfl,fun B w vs hB hv=>by
  match vs,hv with
  | [v0,v1],hv=>
   have e0:=h1 _ _ _ hv.1
   have e1:=h2 _ _ _ hv.2.1
   subst e0;subst e1
   refine(uC x u hx hu).mono ?_
   rintro e w' ⟨v,rfl,h3,h4⟩
   exact⟨v,rfl,(ag ar).2 h3,h4⟩⟩
theorem xB {l':Leaf} (h1:KT ρ l c) (h2:KI ρ l' .i64 a):Inst.Ok Tryz.prog ρ ⟨68,[.one .nilp,.one l,.one l'],.v (.one (.i .i64 6))⟩:=
 ⟨aw Tryz.func68 rfl rfl,fun B w vs hB hv=>by
  match vs,hv with
  | [v0,v1,v2],hv=>
   have e0:v0= .pointer none:=hv.1
   have e1:=h1 _ _ _ hv.2.1
   have e2:=h2 _ _ _ hv.2.2.1
   subst e0;subst e1;subst e2
   refine n_Detach.mono ?_
   rintro e w' ⟨rfl,hw⟩
   obtain rfl:=hw.symm
   exact⟨_,rfl,rfl,Below.refl _ _⟩⟩
theorem xC {l' l'':Leaf} (h1:KT ρ l c) (h2:KT ρ l' p) (h3:KI ρ l'' .i64 a):Inst.Ok Tryz.prog ρ ⟨67,[.one .nilp,.one l,.one l',.one l''],.v (.one (.i .i64 6))⟩:=
 ⟨aw Tryz.func67 rfl rfl,fun B w vs hB hv=>by
  match vs,hv with
  | [v0,v1,v2,v3],hv=>
   have e0:v0= .pointer none:=hv.1
   have e1:=h1 _ _ _ hv.2.1
   have e2:=h2 _ _ _ hv.2.2.1
   have e3:=h3 _ _ _ hv.2.2.2.1
   subst e0;subst e1;subst e2;subst e3
   refine n_Attach.mono ?_
   rintro e w' ⟨rfl,hw⟩
   obtain rfl:=hw.symm
   exact⟨_,rfl,rfl,Below.refl _ _⟩⟩
theorem I_nSet {ls:List Leaf} {l':Leaf} (h1:KT ρ l c) (h2:KI ρ l' .i64 a):Inst.Ok Tryz.prog ρ ⟨69,[.one .nilp,.one l,.agg (l'::ls)],.v (.one (.i .i64 6))⟩:=
 ⟨aw Tryz.func69 rfl rfl,fun B w vs hB hv=>by
  match vs,hv with
  | [v0,v1,v2],hv=>
   have e0:v0= .pointer none:=hv.1
   have e1:=h1 _ _ _ hv.2.1
   obtain⟨cs,rfl,h3⟩:=hv.2.2.1
   match cs,h3 with
   | y::cs,h3=>
    have e2:=h2 _ _ _ h3.1
    subst e0;subst e1;subst e2
    refine(n_Set (cs:=cs)).mono ?_
    rintro e w' ⟨rfl,hw⟩
    exact⟨_,rfl,rfl,hw⟩⟩
theorem I_nFixed {ls:List Leaf} (h1:KT ρ l c):Inst.Ok Tryz.prog ρ ⟨70,[.one .nilp,.one l,.agg ls],.v (.one (.i .i64 6))⟩:=
 ⟨aw Tryz.func70 rfl rfl,fun B w vs hB hv=>by
  match vs,hv with
  | [v0,v1,v2],hv=>
   have e0:v0= .pointer none:=hv.1
   have e1:=h1 _ _ _ hv.2.1
   obtain⟨cs,rfl,h3⟩:=hv.2.2.1
   subst e0;subst e1
   refine(n_Fixed (cs:=cs)).mono ?_
   rintro e w' ⟨rfl,hw⟩
   exact⟨_,rfl,rfl,hw⟩⟩
theorem xD {l':Leaf} (h1:KT ρ l c) (h2:KI ρ l' .i64 a):Inst.Ok Tryz.prog ρ ⟨34,[.one .nilp,.one l,.one l'],.tup [.one (.s (ByteArray.mk #[])),.one (.b false)]⟩:=
 ⟨aw Tryz.func34 rfl rfl,fun B w vs hB hv=>by
  match vs,hv with
  | [v0,v1,v2],hv=>
   have e0:v0= .pointer none:=hv.1
   have e1:=h1 _ _ _ hv.2.1
   have e2:=h2 _ _ _ hv.2.2.1
   subst e0;subst e1;subst e2
   refine n_Parent.mono ?_
   rintro e w' ⟨rfl,hw⟩
   obtain rfl:=hw.symm
   exact⟨_,rfl,⟨[.string ByteArray.empty,.bool false],rfl,rfl,rfl,trivial⟩,Below.refl _ _⟩⟩
theorem I_nSpan {l':Leaf} (h1:KT ρ l c) (h2:KI ρ l' .i64 a):Inst.Ok Tryz.prog ρ ⟨43,[.one .nilp,.one l,.one l'],.tup [.one (.i .i64 0),.one (.i .i64 0),.one (.b false)]⟩:=
 ⟨aw Tryz.func43 rfl rfl,fun B w vs hB hv=>by
  match vs,hv with
  | [v0,v1,v2],hv=>
   have e0:v0= .pointer none:=hv.1
   have e1:=h1 _ _ _ hv.2.1
   have e2:=h2 _ _ _ hv.2.2.1
   subst e0;subst e1;subst e2
   refine n_Span.mono ?_
   rintro e w' ⟨rfl,hw⟩
   obtain rfl:=hw.symm
   exact⟨_,rfl,⟨[.int .i64 0,.int .i64 0,.bool false],rfl,rfl,rfl,rfl,trivial⟩,Below.refl _ _⟩⟩
theorem I_nEdge {l':Leaf} (h1:KT ρ l c) (h2:KI ρ l' .i64 a):Inst.Ok Tryz.prog ρ ⟨41,[.one .nilp,.one l,.one l'],.tup [.agg uD,.one (.i .i64 6)]⟩:=
 ⟨aw Tryz.func41 rfl rfl,fun B w vs hB hv=>by
  match vs,hv with
  | [v0,v1,v2],hv=>
   have e0:v0= .pointer none:=hv.1
   have e1:=h1 _ _ _ hv.2.1
   have e2:=h2 _ _ _ hv.2.2.1
   subst e0;subst e1;subst e2
   refine(n_Edge c a).mono ?_
   rintro e w' ⟨rfl,hw⟩
   exact⟨_,rfl,⟨[.agg nw.toArray,.int .i64 6],rfl,⟨_,rfl,zero21_h⟩,rfl,trivial⟩,hw⟩⟩
theorem I_nRoot {l':Leaf} (h1:KT ρ l c) (h2:KI ρ l' .i64 a):Inst.Ok Tryz.prog ρ ⟨36,[.one .nilp,.one l,.one l'],.v (.one (.s (ByteArray.mk #[])))⟩:=
 ⟨aw Tryz.func36 rfl rfl,fun B w vs hB hv=>by
  match vs,hv with
  | [v0,v1,v2],hv=>
   have e0:v0= .pointer none:=hv.1
   have e1:=h1 _ _ _ hv.2.1
   have e2:=h2 _ _ _ hv.2.2.1
   subst e0;subst e1;subst e2
   refine n_Root.mono ?_
   rintro e w' ⟨rfl,hw⟩
   obtain rfl:=hw.symm
   exact⟨_,rfl,rfl,Below.refl _ _⟩⟩
theorem xE:Inst.Ok Tryz.prog ρ ⟨33,[.one .nilp],.v (.one .sl0)⟩:=
 ⟨aw Tryz.func33 rfl rfl,fun B w vs hB hv=>by
  match vs,hv with
  | [v0],hv=>
   have e0:v0= .pointer none:=hv.1
   subst e0
   refine n_Frames.mono ?_
   rintro e w' ⟨rfl,hw⟩
   obtain rfl:=hw.symm
   exact⟨_,rfl,rfl,Below.refl _ _⟩⟩
theorem I_nLinks:Inst.Ok Tryz.prog ρ ⟨35,[.one .nilp],.v (.one .sl0)⟩:=
 ⟨aw Tryz.func35 rfl rfl,fun B w vs hB hv=>by
  match vs,hv with
  | [v0],hv=>
   have e0:v0= .pointer none:=hv.1
   subst e0
   refine n_Links.mono ?_
   rintro e w' ⟨rfl,hw⟩
   obtain rfl:=hw.symm
   exact⟨_,rfl,rfl,Below.refl _ _⟩⟩
theorem xF:Inst.Ok Tryz.prog ρ ⟨30,[],.v (.one (.b true))⟩:=
 ⟨aw Tryz.func30 rfl rfl,fun B w vs hB hv=>by
  match vs,hv with
  | [],hv=>
   refine(lP w).mono ?_
   rintro e w' ⟨rfl,hw⟩
   exact⟨_,rfl,rfl,hw⟩⟩
theorem o_len0 {t e:TypeId} (ht:Tryz.prog.underlying t=some (.slice e)):(OIns.mk (.len t) [.one .sl0] (.one (.i .i64 0))).Ok Tryz.prog ρ:=fun B w vs hv=>by
 match vs,hv with
 | [v1],hv=>
  have e:v1= .slice none 0 0:=hv.1
  subst e
  refine⟨.int .i64 0,rfl,fun ts ty h0=> ?_⟩
  simp[Builtin.len_,h0,Sem.run_bind,run_underlying ht,Result.andThen,goInt]
end
end Go.Proofs.YtggfmklppkioeaaGreat
namespace Go.Proofs.YtggfmklppkioeaaGreat
set_option linter.unusedSimpArgs false
set_option linter.unusedVariables false
set_option maxRecDepth 100000
open Go.RowKit
def xq_ndo1X (s:Stp):List Fq:=[]
theorem q_ndo1 {w:World} (s:Stp) (hs:s.Ok) (h5:s.k % 5=2):
  Calls Tryz.prog 32 #[.pointer none,s.val] w fun e w'=>e= .returned (.int .i64 6)∧Below w.heap.size w w':=by
 have ha:=hs.a
 refine(bT (ρ:=frs (xq_ndo1X s)++([.val (.int .u8 s.k),.val (.int .u8 s.c),.val (.int .u8 s.p),.val (.int .i16 s.a),.val (.int .i8 s.x),.val (.int .u8 s.u),.val (.int .u8 (s.k % 5)),.val (.string (bi s.c)),.val (.int .i64 s.a)]:List Vp)) (w:=w) (fuel:=300) (args:=[.one (.nilp),.agg [.ref 0,.ref 1,.ref 2,.ref 3,.ref 4,.ref 5]]) (vs:=[.pointer none,s.val]) (r:=.v (.one (.i .i64 6))) (lo:=[]) (obs:=[])
  (ae (mr (m:=7) (aj (n:=1) rfl) rfl hs.c) (ae (xB (re (n:=7) rfl) (aj (n:=8) rfl)) ah))
  (af (gP (t:=5) (u:=s.k) (m:=6) (c:=5) (aj (n:=0) rfl) rfl (Int.tmod_eq_emod_of_nonneg hs.k.1) (by decide)) (af (aB (t:=5) (aj (n:=6) rfl) (aN (c:=2)) (eO (by omega))) (af (mN (m:=8) (s:=49) (d:=3) Tryz.underlying49 Tryz.underlying3 (aj (n:=3) rfl) rfl (by omega) (by omega)) (ai)))) (by kernel_rfl) Tryz.func32 (by kernel_rfl) aV ⟨rfl,⟨⟨s.cs,rfl,aA (n:=0) rfl (aK (by decide)),aA (n:=1) rfl (aK (by decide)),aA (n:=2) rfl (aK (by decide)),aA (n:=3) rfl (aK (by decide)),aA (n:=4) rfl (aK (by decide)),aA (n:=5) rfl (aK (by decide)),trivial⟩,trivial⟩⟩).mono ?_
 rintro e w' ⟨v,rfl,h1,h2⟩
 have e1:v= .int .i64 6:=h1
 subst e1
 exact⟨rfl,h2⟩
def xq_ndo2X (s:Stp):List Fq:=(bj s.x s.u).cs
theorem q_ndo2 {w:World} (s:Stp) (hs:s.Ok) (h5:s.k % 5=3):
  Calls Tryz.prog 32 #[.pointer none,s.val] w fun e w'=>e= .returned (.int .i64 6)∧Below w.heap.size w w':=by
 have ha:=hs.a
 refine(bT (ρ:=frs (xq_ndo2X s)++([.val (.int .u8 s.k),.val (.int .u8 s.c),.val (.int .u8 s.p),.val (.int .i16 s.a),.val (.int .i8 s.x),.val (.int .u8 s.u),.val (.int .u8 (s.k % 5)),.val (.string (bi s.c)),.val (.int .i64 s.a)]:List Vp)) (w:=w) (fuel:=300) (args:=[.one (.nilp),.agg [.ref 21,.ref 22,.ref 23,.ref 24,.ref 25,.ref 26]]) (vs:=[.pointer none,s.val]) (r:=.v (.one (.i .i64 6))) (lo:=[]) (obs:=[])
  (ae (mr (m:=28) (aj (n:=22) rfl) rfl hs.c) (ae (I_Pose (kr:=[0,1,2,3,4,5,6]) (aj (n:=25) rfl) (aj (n:=26) rfl) ⟨rfl,rfl,rfl,rfl,rfl,rfl,rfl,trivial⟩ hs.x hs.u) (ae (I_nSet (ls:=bI [0,1,2,3,4,5,6]) (re (n:=28) rfl) (aj (n:=29) rfl)) ah)))
  (af (gP (t:=5) (u:=s.k) (m:=27) (c:=5) (aj (n:=21) rfl) rfl (Int.tmod_eq_emod_of_nonneg hs.k.1) (by decide)) (af (aB (t:=5) (aj (n:=27) rfl) (aN (c:=2)) (bV (by omega))) (af (aB (t:=5) (aj (n:=27) rfl) (aN (c:=3)) (eO (by omega))) (af (mN (m:=29) (s:=49) (d:=3) Tryz.underlying49 Tryz.underlying3 (aj (n:=24) rfl) rfl (by omega) (by omega)) (ai))))) (by kernel_rfl) Tryz.func32 (by kernel_rfl) aV ⟨rfl,⟨⟨s.cs,rfl,aA (n:=21) rfl (aK (by decide)),aA (n:=22) rfl (aK (by decide)),aA (n:=23) rfl (aK (by decide)),aA (n:=24) rfl (aK (by decide)),aA (n:=25) rfl (aK (by decide)),aA (n:=26) rfl (aK (by decide)),trivial⟩,trivial⟩⟩).mono ?_
 rintro e w' ⟨v,rfl,h1,h2⟩
 have e1:v= .int .i64 6:=h1
 subst e1
 exact⟨rfl,h2⟩
def xq_ndo3X (s:Stp):List Fq:=(bj s.x s.u).cs
theorem q_ndo3 {w:World} (s:Stp) (hs:s.Ok) (h5:s.k % 5=4):
  Calls Tryz.prog 32 #[.pointer none,s.val] w fun e w'=>e= .returned (.int .i64 6)∧Below w.heap.size w w':=by
 have ha:=hs.a
 refine(bT (ρ:=frs (xq_ndo3X s)++([.val (.int .u8 s.k),.val (.int .u8 s.c),.val (.int .u8 s.p),.val (.int .i16 s.a),.val (.int .i8 s.x),.val (.int .u8 s.u),.val (.int .u8 (s.k % 5)),.val (.string (bi s.c))]:List Vp)) (w:=w) (fuel:=300) (args:=[.one (.nilp),.agg [.ref 21,.ref 22,.ref 23,.ref 24,.ref 25,.ref 26]]) (vs:=[.pointer none,s.val]) (r:=.v (.one (.i .i64 6))) (lo:=[]) (obs:=[])
  (ae (mr (m:=28) (aj (n:=22) rfl) rfl hs.c) (ae (I_Pose (kr:=[0,1,2,3,4,5,6]) (aj (n:=25) rfl) (aj (n:=26) rfl) ⟨rfl,rfl,rfl,rfl,rfl,rfl,rfl,trivial⟩ hs.x hs.u) (ae (I_nFixed (ls:=bI [0,1,2,3,4,5,6]) (re (n:=28) rfl)) ah)))
  (af (gP (t:=5) (u:=s.k) (m:=27) (c:=5) (aj (n:=21) rfl) rfl (Int.tmod_eq_emod_of_nonneg hs.k.1) (by decide)) (af (aB (t:=5) (aj (n:=27) rfl) (aN (c:=2)) (bV (by omega))) (af (aB (t:=5) (aj (n:=27) rfl) (aN (c:=3)) (bV (by omega))) (af (aB (t:=5) (aj (n:=27) rfl) (aN (c:=4)) (eO (by omega))) (ai))))) (by kernel_rfl) Tryz.func32 (by kernel_rfl) aV ⟨rfl,⟨⟨s.cs,rfl,aA (n:=21) rfl (aK (by decide)),aA (n:=22) rfl (aK (by decide)),aA (n:=23) rfl (aK (by decide)),aA (n:=24) rfl (aK (by decide)),aA (n:=25) rfl (aK (by decide)),aA (n:=26) rfl (aK (by decide)),trivial⟩,trivial⟩⟩).mono ?_
 rintro e w' ⟨v,rfl,h1,h2⟩
 have e1:v= .int .i64 6:=h1
 subst e1
 exact⟨rfl,h2⟩
def xq_ndo0X (s:Stp):List Fq:=[]
theorem q_ndo0 {w:World} (s:Stp) (hs:s.Ok) (k2:s.k % 5≠2) (k3:s.k % 5≠3) (k4:s.k % 5≠4):
  Calls Tryz.prog 32 #[.pointer none,s.val] w fun e w'=>e= .returned (.int .i64 6)∧Below w.heap.size w w':=by
 have ha:=hs.a
 refine(bT (ρ:=frs (xq_ndo0X s)++([.val (.int .u8 s.k),.val (.int .u8 s.c),.val (.int .u8 s.p),.val (.int .i16 s.a),.val (.int .i8 s.x),.val (.int .u8 s.u),.val (.int .u8 (s.k % 5)),.val (.string (bi s.c)),.val (.string (bi s.p)),.val (.int .i64 s.a)]:List Vp)) (w:=w) (fuel:=300) (args:=[.one (.nilp),.agg [.ref 0,.ref 1,.ref 2,.ref 3,.ref 4,.ref 5]]) (vs:=[.pointer none,s.val]) (r:=.v (.one (.i .i64 6))) (lo:=[]) (obs:=[])
  (ae (mr (m:=7) (aj (n:=1) rfl) rfl hs.c) (ae (mr (m:=8) (aj (n:=2) rfl) rfl hs.p) (ae (xC (re (n:=7) rfl) (re (n:=8) rfl) (aj (n:=9) rfl)) ah)))
  (af (gP (t:=5) (u:=s.k) (m:=6) (c:=5) (aj (n:=0) rfl) rfl (Int.tmod_eq_emod_of_nonneg hs.k.1) (by decide)) (af (aB (t:=5) (aj (n:=6) rfl) (aN (c:=2)) (bV (by omega))) (af (aB (t:=5) (aj (n:=6) rfl) (aN (c:=3)) (bV (by omega))) (af (aB (t:=5) (aj (n:=6) rfl) (aN (c:=4)) (bV (by omega))) (af (mN (m:=9) (s:=49) (d:=3) Tryz.underlying49 Tryz.underlying3 (aj (n:=3) rfl) rfl (by omega) (by omega)) (ai)))))) (by kernel_rfl) Tryz.func32 (by kernel_rfl) aV ⟨rfl,⟨⟨s.cs,rfl,aA (n:=0) rfl (aK (by decide)),aA (n:=1) rfl (aK (by decide)),aA (n:=2) rfl (aK (by decide)),aA (n:=3) rfl (aK (by decide)),aA (n:=4) rfl (aK (by decide)),aA (n:=5) rfl (aK (by decide)),trivial⟩,trivial⟩⟩).mono ?_
 rintro e w' ⟨v,rfl,h1,h2⟩
 have e1:v= .int .i64 6:=h1
 subst e1
 exact⟨rfl,h2⟩
theorem q_ndo {w:World} (s:Stp) (hs:s.Ok):Calls Tryz.prog 32 #[.pointer none,s.val] w fun e w'=>e= .returned (.int .i64 6)∧Below w.heap.size w w':=by
 by_cases k2:s.k % 5=2
 ·exact q_ndo1 s hs k2
 ·by_cases k3:s.k % 5=3
  ·exact q_ndo2 s hs k3
  ·by_cases k4:s.k % 5=4
   ·exact q_ndo3 s hs k4
   ·exact q_ndo0 s hs k2 k3 k4
theorem I_ndo {ρ:Rho} {ls:List Leaf} {s:Stp} (hs:s.Ok) (h:∀B w v,(SV.agg ls).holds ρ B w v→v=s.val):Inst.Ok Tryz.prog ρ ⟨32,[.one .nilp,.agg ls],.v (.one (.i .i64 6))⟩:=
 ⟨aw Tryz.func32 rfl rfl,fun B w vs hB hv=>by
  match vs,hv with
  | [v0,v1],hv=>
   have e0:v0= .pointer none:=hv.1
   have e1:=h _ _ _ hv.2.1
   subst e0;subst e1
   refine(q_ndo s hs).mono ?_
   rintro e w' ⟨rfl,hw⟩
   exact⟨_,rfl,rfl,hw⟩⟩
theorem stp_h {ρ:Rho} {n0 n1 n2 n3 n4 n5:Nat} {s:Stp} (h0:ρ[n0]? =some (.val (.int .u8 s.k))) (h1:ρ[n1]? =some (.val (.int .u8 s.c))) (h2:ρ[n2]? =some (.val (.int .u8 s.p))) (h3:ρ[n3]? =some (.val (.int .i16 s.a))) (h4:ρ[n4]? =some (.val (.int .i8 s.x))) (h5:ρ[n5]? =some (.val (.int .u8 s.u))):∀B w v,(SV.agg [.ref n0,.ref n1,.ref n2,.ref n3,.ref n4,.ref n5]).holds ρ B w v→v=s.val:=by
 rintro B w v ⟨cs,rfl,h⟩
 match cs,h with
 | [y0,y1,y2,y3,y4,y5],h=>
  obtain⟨g0,g1,g2,g3,g4,g5,_⟩:=h
  rw[aX h0 g0,aX h1 g1,aX h2 g2,aX h3 g3,aX h4 g4,aX h5 g5]
  rfl
def uH (s:Stp):List Fq:=[]
theorem q_Nobody {w:World} (s:Stp) (hs:s.Ok):
  Calls Tryz.prog 8 #[s.val] w fun e w'=>e= .returned (.bool true)∧Below w.heap.size w w':=by
 have ha:=hs.a
 refine(bT (ρ:=frs (uH s)++([.val (.int .u8 s.k),.val (.int .u8 s.c),.val (.int .u8 s.p),.val (.int .i16 s.a),.val (.int .i8 s.x),.val (.int .u8 s.u),.val (.string (bi s.c)),.val (.int .i64 s.a)]:List Vp)) (w:=w) (fuel:=300) (args:=[.agg [.ref 0,.ref 1,.ref 2,.ref 3,.ref 4,.ref 5]]) (vs:=[s.val]) (r:=.v (.one (.b true))) (lo:=[]) (obs:=[])
  (ae (mr (m:=6) (aj (n:=1) rfl) rfl hs.c) (ae (xD (re (n:=6) rfl) (aj (n:=7) rfl)) (ae (I_nEdge (re (n:=6) rfl) (aj (n:=7) rfl)) (ae (I_nSpan (re (n:=6) rfl) (aj (n:=7) rfl)) (ae (I_ndo (s:=s) hs (stp_h (n0:=0) (n1:=1) (n2:=2) (n3:=3) (n4:=4) (n5:=5) rfl rfl rfl rfl rfl rfl)) (ae (I_nRoot (re (n:=6) rfl) (aN (c:=0))) (ae (xE) (ae (I_nLinks) (ae (xF) ah)))))))))
  (af (mN (m:=7) (s:=49) (d:=3) Tryz.underlying49 Tryz.underlying3 (aj (n:=3) rfl) rfl (by omega) (by omega)) (af (o_eqlS0 (t:=9) (c:=(ByteArray.mk #[])) (p:=(ByteArray.mk #[])) (b:=true) (by kernel_rfl) kt_c kt_c (by decide)) (af (o_len0 (t:=68) Tryz.underlying68) (af (o_len0 (t:=73) Tryz.underlying73) (ai))))) (by kernel_rfl) Tryz.func8 (by kernel_rfl) aV ⟨⟨s.cs,rfl,aA (n:=0) rfl (aK (by decide)),aA (n:=1) rfl (aK (by decide)),aA (n:=2) rfl (aK (by decide)),aA (n:=3) rfl (aK (by decide)),aA (n:=4) rfl (aK (by decide)),aA (n:=5) rfl (aK (by decide)),trivial⟩,trivial⟩).mono ?_
 rintro e w' ⟨v,rfl,h1,h2⟩
 have e1:v= .bool true:=h1
 subst e1
 exact⟨rfl,h2⟩
end Go.Proofs.YtggfmklppkioeaaGreat
