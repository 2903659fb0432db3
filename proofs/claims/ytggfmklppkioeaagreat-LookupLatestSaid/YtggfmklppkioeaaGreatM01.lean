/- Facts of the program that LookupLatest asks for, one by one: all at once is more than the kernel holds. -/
import Derived.Test.YtggfmklppkioeaaGreatRows
import Derived.WalkKit
import Derived.ProofKit
import Derived.OpenShut
import Derived.ChangeOld
namespace Go.Proofs.YtggfmklppkioeaaGreat
set_option linter.unusedSimpArgs false
set_option linter.unusedVariables false
set_option maxRecDepth 100000
open Go.RowKit
private theorem band {a b:Bool} (h:a=true) (k:b=true):(a && b)=true:=by rw[h,k];rfl
theorem m5:(Rows.lookupLatestRow.wf (OpenSpec.ofChange Rows.lookupLatestSpec))=true:=by kernel_rfl
theorem m6:(laidOutB Tryz.prog)=true:=by kernel_rfl
theorem m7:(mapsRowed Tryz.prog)=true:=by kernel_rfl
theorem m8:(Tryz.f12.params.all (Tryz.prog.readableRec ·))=true:=by kernel_rfl
theorem m9:(namedTie Tryz.prog Rows.lookupLatestRow.named Rows.lookupLatestSpec.vars)=true:=by kernel_rfl
theorem na:((Rows.lookupLatestRow.stops==[]))=true:=by kernel_rfl
theorem nf:((Tryz.prog.stops==[]))=true:=by kernel_rfl
theorem ng:((Rows.lookupLatestRow.knobs==[]))=true:=by kernel_rfl
theorem nh:((Tryz.prog.stopKnobs==[]))=true:=by kernel_rfl
theorem ni:((Rows.lookupLatestRow.inPlace==Tryz.prog.inPlace 12))=true:=by kernel_rfl
theorem lF:((Rows.lookupLatestRow.unfollowed==Tryz.prog.unfollowed 12))=true:=by kernel_rfl
theorem lG:((Rows.lookupLatestRow.recurses==Tryz.prog.recurses 12))=true:=by kernel_rfl
theorem lH:((Rows.lookupLatestRow.named==Tryz.prog.varsNamed 12))=true:=by kernel_rfl
theorem lI:((Rows.lookupLatestRow.maps==(Tryz.f12.params.toList++Rows.lookupLatestSpec.plain.varTypes Tryz.prog).any (Tryz.prog.mapsRec ·)))=true:=by kernel_rfl
theorem lJ:((Rows.lookupLatestRow.ifaces==(Tryz.f12.params.toList++Rows.lookupLatestSpec.plain.varTypes Tryz.prog).any (Tryz.prog.ifacesRec ·)))=true:=by kernel_rfl
theorem lK:((Rows.lookupLatestRow.mapsOut==Tryz.prog.mapsAmong Tryz.f12.resultTypes.toList))=true:=by kernel_rfl
theorem lL:((Rows.lookupLatestRow.loops==(Tryz.f12.params.toList++Rows.lookupLatestSpec.plain.varTypes Tryz.prog).any (Tryz.prog.loopsFrom ·)))=true:=by kernel_rfl
theorem lM:((Rows.lookupLatestRow.wideKeys==(Tryz.f12.params.toList++Rows.lookupLatestSpec.plain.varTypes Tryz.prog++Tryz.f12.resultTypes.toList).any (Tryz.prog.wideKeysFrom ·)))=true:=by kernel_rfl
theorem lN:(Rows.lookupLatestSpec.vars.all (Tryz.prog.varReadable ·))=true:=by kernel_rfl
theorem lO:(Tryz.f12.resultTypes.all (fun t=>Tryz.prog.readableRec t && decide (t<Tryz.prog.types.size)))=true:=by kernel_rfl
theorem lP:((Rows.lookupLatestRow.ifacesOut==Tryz.f12.resultTypes.toList.any (Tryz.prog.ifacesRec ·)))=true:=by kernel_rfl
theorem lQ:((Rows.lookupLatestRow.loopsOut==Tryz.f12.resultTypes.toList.any (Tryz.prog.loopsFrom ·)))=true:=by kernel_rfl
theorem lR:((Rows.lookupLatestRow.plainKeys==Tryz.prog.plainKeys))=true:=by kernel_rfl
theorem lS:(Rows.lookupLatestRow.shortTexts.isNone)=true:=by kernel_rfl
theorem lT:(Tryz.prog.stopsHeard)=true:=by kernel_rfl
theorem lU:(Tryz.prog.mayEnter)=true:=by kernel_rfl
theorem lV:((Rows.lookupLatestRow.lifted==Tryz.prog.liftsFinal))=true:=by kernel_rfl
theorem lW:((Tryz.prog.make==some Rows.lookupLatestRow.make))=true:=by kernel_rfl
theorem lX:((Rows.lookupLatestRow.kinds==(if Rows.lookupLatestRow.domain.isEmpty then []else Tryz.f12.params.toList.map fun t=>match Tryz.prog.underlying t with | some (.int k)=>some k | _=>none)))=true:=by kernel_rfl
theorem lY:((Rows.lookupLatestRow.pinned==Rows.lookupLatestRow.pinnedBy))=true:=by kernel_rfl
theorem lZ:((Rows.lookupLatestRow.veiled==(Tryz.f12.params.toList++Rows.lookupLatestSpec.plain.varTypes Tryz.prog++Tryz.f12.resultTypes.toList).any (Tryz.prog.veiledRec ·)))=true:=by kernel_rfl
theorem l7:(Rows.lookupLatestRow.veiledFits Tryz.prog Tryz.f12.params.toList (Tryz.f12.params.toList++Rows.lookupLatestSpec.plain.varTypes Tryz.prog++Tryz.f12.resultTypes.toList))=true:=by kernel_rfl
set_option maxRecDepth 100000 in
theorem kG:joinedFacts Tryz.prog 12 Tryz.f12 Rows.lookupLatestSpec Rows.lookupLatestRow=true:=by
 unfold joinedFacts;exact band (band (band (band (band (band (band (band (band (band (band (band (band (band (band (band (band (band (band (band (band (band (band (band (band (band (band (band (band (band (band (m5) m6) m7) m8) m9) na) nf) ng) nh) ni) lF) lG) lH) lI) lJ) lK) lL) lM) lN) lO) lP) lQ) lR) lS) lT) lU) lV) lW) lX) lY) lZ) l7
end Go.Proofs.YtggfmklppkioeaaGreat
