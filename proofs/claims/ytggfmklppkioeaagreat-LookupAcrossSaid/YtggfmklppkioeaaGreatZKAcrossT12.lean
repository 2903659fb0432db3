/- Facts of the program that LookupAcross asks for, one by one: all at once is more than the kernel holds. -/
import Derived.Test.YtggfmklppkioeaaGreatRows
import Derived.WalkKit
import Derived.ProofKit
import Derived.OpenShut
import Derived.ChangeOld
namespace Go.Proofs.YtggfmklppkioeaaGreat
set_option linter.unusedSimpArgs false
set_option linter.unusedVariables false
set_option maxRecDepth 100000
open Go.RowKit
private theorem band {a b:Bool} (h:a=true) (k:b=true):(a && b)=true:=by rw[h,k];rfl
theorem o6:(Rows.lookupAcrossRow.wf (OpenSpec.ofChange Rows.lookupAcrossSpec))=true:=by kernel_rfl
theorem o7:(laidOutB Tryz.prog)=true:=by kernel_rfl
theorem o8:(mapsRowed Tryz.prog)=true:=by kernel_rfl
theorem o9:(Tryz.f11.params.all (Tryz.prog.readableRec ·))=true:=by kernel_rfl
theorem pa:(namedTie Tryz.prog Rows.lookupAcrossRow.named Rows.lookupAcrossSpec.vars)=true:=by kernel_rfl
theorem pc:((Rows.lookupAcrossRow.stops==[]))=true:=by kernel_rfl
theorem pd:((Tryz.prog.stops==[]))=true:=by kernel_rfl
theorem pf:((Rows.lookupAcrossRow.knobs==[]))=true:=by kernel_rfl
theorem pg:((Tryz.prog.stopKnobs==[]))=true:=by kernel_rfl
theorem ph:((Rows.lookupAcrossRow.inPlace==Tryz.prog.inPlace 11))=true:=by kernel_rfl
theorem mQ:((Rows.lookupAcrossRow.unfollowed==Tryz.prog.unfollowed 11))=true:=by kernel_rfl
theorem mR:((Rows.lookupAcrossRow.recurses==Tryz.prog.recurses 11))=true:=by kernel_rfl
theorem mS:((Rows.lookupAcrossRow.named==Tryz.prog.varsNamed 11))=true:=by kernel_rfl
theorem mT:((Rows.lookupAcrossRow.maps==(Tryz.f11.params.toList++Rows.lookupAcrossSpec.plain.varTypes Tryz.prog).any (Tryz.prog.mapsRec ·)))=true:=by kernel_rfl
theorem mU:((Rows.lookupAcrossRow.ifaces==(Tryz.f11.params.toList++Rows.lookupAcrossSpec.plain.varTypes Tryz.prog).any (Tryz.prog.ifacesRec ·)))=true:=by kernel_rfl
theorem mV:((Rows.lookupAcrossRow.mapsOut==Tryz.prog.mapsAmong Tryz.f11.resultTypes.toList))=true:=by kernel_rfl
theorem mW:((Rows.lookupAcrossRow.loops==(Tryz.f11.params.toList++Rows.lookupAcrossSpec.plain.varTypes Tryz.prog).any (Tryz.prog.loopsFrom ·)))=true:=by kernel_rfl
theorem mX:((Rows.lookupAcrossRow.wideKeys==(Tryz.f11.params.toList++Rows.lookupAcrossSpec.plain.varTypes Tryz.prog++Tryz.f11.resultTypes.toList).any (Tryz.prog.wideKeysFrom ·)))=true:=by kernel_rfl
theorem mY:(Rows.lookupAcrossSpec.vars.all (Tryz.prog.varReadable ·))=true:=by kernel_rfl
theorem mZ:(Tryz.f11.resultTypes.all (fun t=>Tryz.prog.readableRec t && decide (t<Tryz.prog.types.size)))=true:=by kernel_rfl
theorem m3:((Rows.lookupAcrossRow.ifacesOut==Tryz.f11.resultTypes.toList.any (Tryz.prog.ifacesRec ·)))=true:=by kernel_rfl
theorem m4:((Rows.lookupAcrossRow.loopsOut==Tryz.f11.resultTypes.toList.any (Tryz.prog.loopsFrom ·)))=true:=by kernel_rfl
theorem m5:((Rows.lookupAcrossRow.plainKeys==Tryz.prog.plainKeys))=true:=by kernel_rfl
theorem m6:(Rows.lookupAcrossRow.shortTexts.isNone)=true:=by kernel_rfl
theorem m7:(Tryz.prog.stopsHeard)=true:=by kernel_rfl
theorem m8:(Tryz.prog.mayEnter)=true:=by kernel_rfl
theorem m9:((Rows.lookupAcrossRow.lifted==Tryz.prog.liftsFinal))=true:=by kernel_rfl
theorem na:((Tryz.prog.make==some Rows.lookupAcrossRow.make))=true:=by kernel_rfl
theorem nf:((Rows.lookupAcrossRow.kinds==(if Rows.lookupAcrossRow.domain.isEmpty then []else Tryz.f11.params.toList.map fun t=>match Tryz.prog.underlying t with | some (.int k)=>some k | _=>none)))=true:=by kernel_rfl
theorem ng:((Rows.lookupAcrossRow.pinned==Rows.lookupAcrossRow.pinnedBy))=true:=by kernel_rfl
theorem nh:((Rows.lookupAcrossRow.veiled==(Tryz.f11.params.toList++Rows.lookupAcrossSpec.plain.varTypes Tryz.prog++Tryz.f11.resultTypes.toList).any (Tryz.prog.veiledRec ·)))=true:=by kernel_rfl
theorem ni:(Rows.lookupAcrossRow.veiledFits Tryz.prog Tryz.f11.params.toList (Tryz.f11.params.toList++Rows.lookupAcrossSpec.plain.varTypes Tryz.prog++Tryz.f11.resultTypes.toList))=true:=by kernel_rfl
set_option maxRecDepth 100000 in
theorem kO:joinedFacts Tryz.prog 11 Tryz.f11 Rows.lookupAcrossSpec Rows.lookupAcrossRow=true:=by
 unfold joinedFacts;exact band (band (band (band (band (band (band (band (band (band (band (band (band (band (band (band (band (band (band (band (band (band (band (band (band (band (band (band (band (band (band (o6) o7) o8) o9) pa) pc) pd) pf) pg) ph) mQ) mR) mS) mT) mU) mV) mW) mX) mY) mZ) m3) m4) m5) m6) m7) m8) m9) na) nf) ng) nh) ni
end Go.Proofs.YtggfmklppkioeaaGreat
