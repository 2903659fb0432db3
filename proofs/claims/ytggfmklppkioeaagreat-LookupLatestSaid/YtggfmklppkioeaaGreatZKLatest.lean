/- LookupLatest returns true for every input: the latest time is the greatest at which there is a transform. No condition. -/
import Derived.Test.YtggfmklppkioeaaGreatM13
import Derived.Test.YtggfmklppkioeaaGreatRows
import Derived.WalkKit
import Derived.ProofKit
import Derived.OpenShut
import Derived.ShutString
import Derived.ChangeOld
import Derived.Below
namespace Go.Proofs.YtggfmklppkioeaaGreat
set_option linter.unusedSimpArgs false
set_option linter.unusedVariables false
set_option maxRecDepth 100000
open Go.RowKit
open _root_.Go.Proofs.Tryz renaming prog → AB
section
open Go.ChangeShapes Go.WideShapes Go.ChangeAt Go.RowKit
open Go.ChangeMaps (open_string shut_string)
theorem lookupLatest_own:ownKnob AB.godebug=none:=Aa
theorem lookupLatest_laid:laidOutB AB=true:=Aa
set_option maxRecDepth 100000 in
theorem lookupLatest_lifted(os:Os)(I:os.Started)(H:Type)(enc:TypeId×Value->H):
  ReturnsInHanded {} Tryz.checked os 12 .any (Rows.lookupLatestSpec.pre6 enc AB Tryz.f12 Rows.lookupLatestRow.domain false) (Rows.lookupLatestSpec.post enc AB Tryz.f12 false true false false):=by
 refine returnsInHanded_of_change (C:=Tryz.checked) lookupLatest_own I Aa Tryz.func12
  (ChangeSpec.witness6 (enc:=enc) (C:=Tryz.checked) false ⟨#[],#[.slice none 0 0,.agg #[.int .u8 0,.int .u8 0,.int .u8 0,.int .i64 0,.int .i64 0]],[]⟩ 8 Aa Aa Aa Aa) ?_
 intro W base args ds gs K G hW ac _;have F:∀(j:Nat) t v,Tryz.f12.params[j]? =some t->args[j]? =some v->Value.okWide AB W .any base t v:=G;have U:=hW;obtain⟨p,q,J,hV,rfl,am,an⟩:=hW;have hA:DataW.TrodAll enc AB W 0 (λ_=>true) true Tryz.f12.params.toList args.toList ds p:=J;rw[Tryz.params12]at hA F;obtain⟨v0,ao,d0,ad,p0,q0,V,rfl,rfl,h0,r0⟩:=trodAll_cons hA;obtain⟨v1,ap,d1,ak,p1,q1,rfl,rfl,rfl,h1,r1⟩:=trodAll_cons r0;obtain⟨rfl,rfl,rfl⟩:=trodAll_nil r1;obtain rfl:args=#[v0,v1]:=by cases args;simp_all
 obtain⟨rfl,rfl⟩:=trodVars_none hV;have k0:=h0;have aa:∀x∈p0,x.block<W.heap.size:=by obtain⟨m,Y⟩:=k0;exact DataW.trod_lt m _ _ _ Y
 obtain⟨R0,P,w0⟩:=zB (F 0 62 v0 rfl rfl) h0;have k1:=h1;have ab:∀x∈p1,x.block<W.heap.size:=by obtain⟨m,Y⟩:=k1;exact DataW.trod_lt m _ _ _ Y
 obtain⟨s1,Z,e1⟩:=zW (F 1 94 v1 rfl rfl) h1;subst e1;clear J G;refine(q_LatestL (w:=W) R0 s1 P Z w0).mono λe W' ⟨he,bel⟩=> ?_
 subst he;exact⟨_,rfl,_,_,_,[],_,[],U,trodAll_mk1 (shut_bool Tryz.underlying4 _),(trodAll_cons_mk (Below.trod lookupLatest_laid Aa (of_decide_eq_true Aa) k0 bel aa) (trodAll_cons_mk (Below.trod lookupLatest_laid Aa (of_decide_eq_true Aa) k1 bel ab) trodAll_mk0)),rfl,bel.frame _,λh=>by cases h⟩
theorem lookupLatest_over:Rows.lookupLatestRow.holds Tryz.pinned (OpenSpec.ofChange Rows.lookupLatestSpec):=
 OpenClaim.holds_of_wide 12 Tryz.f12 rfl rfl rfl rfl rfl rfl rfl ⟨rfl,rfl,rfl,rfl,rfl⟩ rfl rfl rfl rfl rfl Aa Tryz.func12 kG
  (of_decide_eq_true Aa) (by unfold Func.isWrapper;first | (rw[if_pos (by decide +kernel)];kernel_rfl) | (rw[if_neg (by decide +kernel)];exact Ai))
  (λos C H F _=>lookupLatest_lifted os C H F)
theorem lookupLatest_proved:Rows.LookupLatestSaid:=lookupLatest_over
#print axioms lookupLatest_proved
end
end Go.Proofs.YtggfmklppkioeaaGreat
