/- LookupFinds returns true for every input: a transform is the composition of the edges up to the common ancestor and down from it. No condition. -/
import Derived.Test.YtggfmklppkioeaaGreatZKFindsT13
import Derived.Test.YtggfmklppkioeaaGreatRows
import Derived.WalkKit
import Derived.ProofKit
import Derived.OpenShut
import Derived.ShutString
import Derived.ChangeOld
import Derived.Below
namespace Go.Proofs.YtggfmklppkioeaaGreat
set_option linter.unusedSimpArgs false
set_option linter.unusedVariables false
set_option maxRecDepth 100000
open Go.RowKit
open _root_.Go renaming trodAll_cons_mk → FD
open _root_.Go.DataW renaming trod_lt → FA
open _root_.Go.Proofs.Tryz renaming checked → D5,prog → AD
section
open Go.ChangeShapes Go.WideShapes Go.ChangeAt Go.RowKit
open Go.ChangeMaps (open_string shut_string)
theorem lookupFinds_own:ownKnob AD.godebug=none:=Aa
theorem lookupFinds_laid:laidOutB AD=true:=Aa
set_option maxRecDepth 100000 in
theorem lookupFinds_lifted(os:Os)(I:os.Started)(H:Type)(enc:TypeId×Value->H):
  ReturnsInHanded {} D5 os 14 .any (Rows.lookupFindsSpec.pre6 enc AD Tryz.f14 Rows.lookupFindsRow.domain false) (Rows.lookupFindsSpec.post enc AD Tryz.f14 false true false false):=by
 refine returnsInHanded_of_change (C:=D5) lookupFinds_own I Aa Tryz.func14
  (ChangeSpec.witness6 (enc:=enc) (C:=D5) false ⟨#[],#[.slice none 0 0,.agg #[.int .u8 0,.int .u8 0,.int .u8 0,.int .i64 0,.int .i64 0]],[]⟩ 8 Aa Aa Aa Aa) ?_
 intro W base args ds gs K G hW ac _;have F:∀(j:Nat) t v,Tryz.f14.params[j]? =some t->args[j]? =some v->Value.okWide AD W .any base t v:=G;have U:=hW;obtain⟨p,q,J,hV,rfl,am,an⟩:=hW;have hA:DataW.TrodAll enc AD W 0 (λ_=>true) true Tryz.f14.params.toList args.toList ds p:=J;rw[Tryz.params14]at hA F;obtain⟨v0,ao,d0,ad,p0,q0,V,rfl,rfl,h0,r0⟩:=trodAll_cons hA;obtain⟨v1,ap,d1,ak,p1,q1,rfl,rfl,rfl,h1,r1⟩:=trodAll_cons r0;obtain⟨rfl,rfl,rfl⟩:=trodAll_nil r1;obtain rfl:args=#[v0,v1]:=by cases args;simp_all
 obtain⟨rfl,rfl⟩:=trodVars_none hV;have k0:=h0;have aa:∀x∈p0,x.block<W.heap.size:=by obtain⟨m,Y⟩:=k0;exact FA m _ _ _ Y
 obtain⟨R0,P,w0⟩:=lI (F 0 62 v0 rfl rfl) h0;have k1:=h1;have ab:∀x∈p1,x.block<W.heap.size:=by obtain⟨m,Y⟩:=k1;exact FA m _ _ _ Y
 obtain⟨s1,Z,e1⟩:=lJ (F 1 94 v1 rfl rfl) h1;subst e1;clear J G;refine(q_Finds (w:=W) R0 s1 P Z w0).mono λe W' ⟨he,bel⟩=> ?_
 subst he;exact⟨_,rfl,_,_,_,[],_,[],U,trodAll_mk1 (shut_bool Tryz.underlying4 _),(FD (Below.trod lookupFinds_laid Aa (of_decide_eq_true Aa) k0 bel aa) (FD (Below.trod lookupFinds_laid Aa (of_decide_eq_true Aa) k1 bel ab) trodAll_mk0)),rfl,bel.frame _,λh=>by cases h⟩
theorem lookupFinds_over:Rows.lookupFindsRow.holds Tryz.pinned (OpenSpec.ofChange Rows.lookupFindsSpec):=
 OpenClaim.holds_of_wide 14 Tryz.f14 rfl rfl rfl rfl rfl rfl rfl ⟨rfl,rfl,rfl,rfl,rfl⟩ rfl rfl rfl rfl rfl Aa Tryz.func14 lM
  (of_decide_eq_true Aa) (by unfold Func.isWrapper;first | (rw[if_pos (by decide +kernel)];kernel_rfl) | (rw[if_neg (by decide +kernel)];exact Ai))
  (λos C H F _=>lookupFinds_lifted os C H F)
theorem lookupFinds_proved:Rows.LookupFindsSaid:=lookupFinds_over
#print axioms lookupFinds_proved
end
end Go.Proofs.YtggfmklppkioeaaGreat
