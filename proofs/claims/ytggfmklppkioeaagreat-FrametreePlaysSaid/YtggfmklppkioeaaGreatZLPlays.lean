/- FrametreePlays returns true for every input: a tree, whatever is done to it, returns the errors and has the links, frames, parents, roots and poses of the specification. No condition. -/
import Derived.Test.YtggfmklppkioeaaGreatP18
import Derived.Test.YtggfmklppkioeaaGreatRows
import Derived.WalkKit
import Derived.ProofKit
import Derived.OpenShut
import Derived.ShutString
import Derived.ChangeOld
import Derived.Below
namespace Go.Proofs.YtggfmklppkioeaaGreat
set_option linter.unusedSimpArgs false
set_option linter.unusedVariables false
set_option maxRecDepth 100000
open Go.RowKit
open _root_.Go.Proofs.YtggfmklppkioeaaGreat.Rows renaming frametreePlaysSpec → FF
open _root_.Go.Proofs.Tryz renaming prog → AE,underlying5 → DJ
section
open Go.ChangeShapes Go.WideShapes Go.ChangeAt Go.RowKit
open Go.ChangeMaps (open_string shut_string)
theorem frametreePlays_own:ownKnob AE.godebug=none:=Ab
theorem frametreePlays_laid:laidOutB AE=true:=Ab
set_option maxRecDepth 100000 in
theorem frametreePlays_lifted(os:Os)(J:os.Started)(H:Type)(enc:TypeId×Value->H):
  ReturnsInHanded {} Tryz.checked os 7 .any (FF.pre6 enc AE Tryz.f7 Rows.frametreePlaysRow.domain false) (FF.post enc AE Tryz.f7 false true false false):=by
 refine returnsInHanded_of_change (C:=Tryz.checked) frametreePlays_own J Ab Tryz.func7
  (ChangeSpec.witness6 (enc:=enc) (C:=Tryz.checked) false ⟨#[],#[.slice none 0 0,.int .u8 0,.int .i16 0],[]⟩ 8 Ab Ab Ab Ab) ?_
 intro W base args ds gs P I hW aa _;have G:∀(j:Nat) t v,Tryz.f7.params[j]? =some t->args[j]? =some v->Value.okWide AE W .any base t v:=I;have V:=hW;obtain⟨p,q,K,hV,rfl,ak,am⟩:=hW;have hA:DataW.TrodAll enc AE W 0 (λ_=>true) true Tryz.f7.params.toList args.toList ds p:=K;rw[Tryz.params7]at hA G;obtain⟨v0,an,d0,ab,p0,q0,Y,rfl,rfl,h0,r0⟩:=trodAll_cons hA;obtain⟨v1,ao,d1,ac,p1,q1,rfl,rfl,rfl,h1,r1⟩:=trodAll_cons r0;obtain⟨v2,ap,d2,ad,p2,q2,rfl,rfl,rfl,h2,r2⟩:=trodAll_cons r1;obtain⟨rfl,rfl,rfl⟩:=trodAll_nil r2;obtain rfl:args=#[v0,v1,v2]:=by cases args;simp_all
 obtain⟨rfl,rfl⟩:=trodVars_none hV;have k0:=h0;have Z:∀x∈p0,x.block<W.heap.size:=by obtain⟨m,hm⟩:=k0;exact DataW.trod_lt m _ _ _ hm
 obtain⟨R0,U,w0⟩:=zX (G 0 62 v0 rfl rfl) h0;obtain⟨a1,rfl,rfl,rfl,w1⟩:=open_int DJ (G 1 5 v1 rfl rfl) h1;obtain⟨a2,rfl,rfl,rfl,w2⟩:=open_int Tryz.underlying49 (G 2 49 v2 rfl rfl) h2;clear K I;refine(q_Plays (w:=W) R0 a1 a2 (xR w1) (i16_wf w2) U w0).mono λe W' ⟨he,bel⟩=> ?_
 subst he;exact⟨_,rfl,_,_,_,[],_,[],V,trodAll_mk1 (shut_bool Tryz.underlying4 _),(trodAll_cons_mk (Below.trod frametreePlays_laid Ab (of_decide_eq_true Ab) k0 bel Z) (trodAll_cons_mk (shut_int DJ w1) (trodAll_cons_mk (shut_int Tryz.underlying49 w2) trodAll_mk0))),rfl,bel.frame _,λh=>by cases h⟩
theorem frametreePlays_over:Rows.frametreePlaysRow.holds Tryz.pinned (OpenSpec.ofChange FF):=
 OpenClaim.holds_of_wide 7 Tryz.f7 rfl rfl rfl rfl rfl rfl rfl ⟨rfl,rfl,rfl,rfl,rfl⟩ rfl rfl rfl rfl rfl Ab Tryz.func7 i5
  (of_decide_eq_true Ab) (by unfold Func.isWrapper;first | (rw[if_pos (by decide +kernel)];kernel_rfl) | (rw[if_neg (by decide +kernel)];exact Aj))
  (λos C H G _=>frametreePlays_lifted os C H G)
theorem frametreePlays_proved:Rows.FrametreePlaysSaid:=frametreePlays_over
#print axioms frametreePlays_proved
end
end Go.Proofs.YtggfmklppkioeaaGreat
