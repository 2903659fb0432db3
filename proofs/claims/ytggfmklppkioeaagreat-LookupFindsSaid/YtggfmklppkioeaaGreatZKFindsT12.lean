/- Facts of the program that LookupFinds asks for, one by one: all at once is more than the kernel holds. -/
import Derived.Test.YtggfmklppkioeaaGreatRows
import Derived.WalkKit
import Derived.ProofKit
import Derived.OpenShut
import Derived.ChangeOld
namespace Go.Proofs.YtggfmklppkioeaaGreat
set_option linter.unusedSimpArgs false
set_option linter.unusedVariables false
set_option maxRecDepth 100000
open Go.RowKit
private theorem band {a b:Bool} (h:a=true) (k:b=true):(a && b)=true:=by rw[h,k];rfl
theorem qj:(Rows.lookupFindsRow.wf (OpenSpec.ofChange Rows.lookupFindsSpec))=true:=by kernel_rfl
theorem qk:(laidOutB Tryz.prog)=true:=by kernel_rfl
theorem ql:(mapsRowed Tryz.prog)=true:=by kernel_rfl
theorem qm:(Tryz.f14.params.all (Tryz.prog.readableRec ·))=true:=by kernel_rfl
theorem qn:(namedTie Tryz.prog Rows.lookupFindsRow.named Rows.lookupFindsSpec.vars)=true:=by kernel_rfl
theorem qo:((Rows.lookupFindsRow.stops==[]))=true:=by kernel_rfl
theorem qp:((Tryz.prog.stops==[]))=true:=by kernel_rfl
theorem qq:((Rows.lookupFindsRow.knobs==[]))=true:=by kernel_rfl
theorem qr:((Tryz.prog.stopKnobs==[]))=true:=by kernel_rfl
theorem qt:((Rows.lookupFindsRow.inPlace==Tryz.prog.inPlace 14))=true:=by kernel_rfl
theorem pi:((Rows.lookupFindsRow.unfollowed==Tryz.prog.unfollowed 14))=true:=by kernel_rfl
theorem pj:((Rows.lookupFindsRow.recurses==Tryz.prog.recurses 14))=true:=by kernel_rfl
theorem pk:((Rows.lookupFindsRow.named==Tryz.prog.varsNamed 14))=true:=by kernel_rfl
theorem pl:((Rows.lookupFindsRow.maps==(Tryz.f14.params.toList++Rows.lookupFindsSpec.plain.varTypes Tryz.prog).any (Tryz.prog.mapsRec ·)))=true:=by kernel_rfl
theorem pm:((Rows.lookupFindsRow.ifaces==(Tryz.f14.params.toList++Rows.lookupFindsSpec.plain.varTypes Tryz.prog).any (Tryz.prog.ifacesRec ·)))=true:=by kernel_rfl
theorem pn:((Rows.lookupFindsRow.mapsOut==Tryz.prog.mapsAmong Tryz.f14.resultTypes.toList))=true:=by kernel_rfl
theorem pp:((Rows.lookupFindsRow.loops==(Tryz.f14.params.toList++Rows.lookupFindsSpec.plain.varTypes Tryz.prog).any (Tryz.prog.loopsFrom ·)))=true:=by kernel_rfl
theorem pq:((Rows.lookupFindsRow.wideKeys==(Tryz.f14.params.toList++Rows.lookupFindsSpec.plain.varTypes Tryz.prog++Tryz.f14.resultTypes.toList).any (Tryz.prog.wideKeysFrom ·)))=true:=by kernel_rfl
theorem pt:(Rows.lookupFindsSpec.vars.all (Tryz.prog.varReadable ·))=true:=by kernel_rfl
theorem pu:(Tryz.f14.resultTypes.all (fun t=>Tryz.prog.readableRec t && decide (t<Tryz.prog.types.size)))=true:=by kernel_rfl
theorem pw:((Rows.lookupFindsRow.ifacesOut==Tryz.f14.resultTypes.toList.any (Tryz.prog.ifacesRec ·)))=true:=by kernel_rfl
theorem px:((Rows.lookupFindsRow.loopsOut==Tryz.f14.resultTypes.toList.any (Tryz.prog.loopsFrom ·)))=true:=by kernel_rfl
theorem py:((Rows.lookupFindsRow.plainKeys==Tryz.prog.plainKeys))=true:=by kernel_rfl
theorem pz:(Rows.lookupFindsRow.shortTexts.isNone)=true:=by kernel_rfl
theorem pA:(Tryz.prog.stopsHeard)=true:=by kernel_rfl
theorem pB:(Tryz.prog.mayEnter)=true:=by kernel_rfl
theorem pC:((Rows.lookupFindsRow.lifted==Tryz.prog.liftsFinal))=true:=by kernel_rfl
theorem pD:((Tryz.prog.make==some Rows.lookupFindsRow.make))=true:=by kernel_rfl
theorem pE:((Rows.lookupFindsRow.kinds==(if Rows.lookupFindsRow.domain.isEmpty then []else Tryz.f14.params.toList.map fun t=>match Tryz.prog.underlying t with | some (.int k)=>some k | _=>none)))=true:=by kernel_rfl
theorem pF:((Rows.lookupFindsRow.pinned==Rows.lookupFindsRow.pinnedBy))=true:=by kernel_rfl
theorem pG:((Rows.lookupFindsRow.veiled==(Tryz.f14.params.toList++Rows.lookupFindsSpec.plain.varTypes Tryz.prog++Tryz.f14.resultTypes.toList).any (Tryz.prog.veiledRec ·)))=true:=by kernel_rfl
theorem pH:(Rows.lookupFindsRow.veiledFits Tryz.prog Tryz.f14.params.toList (Tryz.f14.params.toList++Rows.lookupFindsSpec.plain.varTypes Tryz.prog++Tryz.f14.resultTypes.toList))=true:=by kernel_rfl
set_option maxRecDepth 100000 in
theorem lM:joinedFacts Tryz.prog 14 Tryz.f14 Rows.lookupFindsSpec Rows.lookupFindsRow=true:=by
 unfold joinedFacts;exact band (band (band (band (band (band (band (band (band (band (band (band (band (band (band (band (band (band (band (band (band (band (band (band (band (band (band (band (band (band (band (qj) qk) ql) qm) qn) qo) qp) qq) qr) qt) pi) pj) pk) pl) pm) pn) pp) pq) pt) pu) pw) px) py) pz) pA) pB) pC) pD) pE) pF) pG) pH
end Go.Proofs.YtggfmklppkioeaaGreat
