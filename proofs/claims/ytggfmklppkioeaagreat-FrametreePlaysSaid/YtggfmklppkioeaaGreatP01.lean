/- Facts of the program that FrametreePlays asks for, one by one: all at once is more than the kernel holds. -/
import Derived.Test.YtggfmklppkioeaaGreatRows
import Derived.WalkKit
import Derived.ProofKit
import Derived.OpenShut
import Derived.ChangeOld
namespace Go.Proofs.YtggfmklppkioeaaGreat
set_option linter.unusedSimpArgs false
set_option linter.unusedVariables false
set_option maxRecDepth 100000
open Go.RowKit
private theorem band {a b:Bool} (h:a=true) (k:b=true):(a && b)=true:=by rw[h,k];rfl
theorem kT:(Rows.frametreePlaysRow.wf (OpenSpec.ofChange Rows.frametreePlaysSpec))=true:=by kernel_rfl
theorem kU:(laidOutB Tryz.prog)=true:=by kernel_rfl
theorem kV:(mapsRowed Tryz.prog)=true:=by kernel_rfl
theorem kW:(Tryz.f7.params.all (Tryz.prog.readableRec ·))=true:=by kernel_rfl
theorem kX:(namedTie Tryz.prog Rows.frametreePlaysRow.named Rows.frametreePlaysSpec.vars)=true:=by kernel_rfl
theorem kY:((Rows.frametreePlaysRow.stops==[]))=true:=by kernel_rfl
theorem kZ:((Tryz.prog.stops==[]))=true:=by kernel_rfl
theorem k7:((Rows.frametreePlaysRow.knobs==[]))=true:=by kernel_rfl
theorem lh:((Tryz.prog.stopKnobs==[]))=true:=by kernel_rfl
theorem lj:((Rows.frametreePlaysRow.inPlace==Tryz.prog.inPlace 7))=true:=by kernel_rfl
theorem ke:((Rows.frametreePlaysRow.unfollowed==Tryz.prog.unfollowed 7))=true:=by kernel_rfl
theorem kf:((Rows.frametreePlaysRow.recurses==Tryz.prog.recurses 7))=true:=by kernel_rfl
theorem kg:((Rows.frametreePlaysRow.named==Tryz.prog.varsNamed 7))=true:=by kernel_rfl
theorem kh:((Rows.frametreePlaysRow.maps==(Tryz.f7.params.toList++Rows.frametreePlaysSpec.plain.varTypes Tryz.prog).any (Tryz.prog.mapsRec ·)))=true:=by kernel_rfl
theorem kj:((Rows.frametreePlaysRow.ifaces==(Tryz.f7.params.toList++Rows.frametreePlaysSpec.plain.varTypes Tryz.prog).any (Tryz.prog.ifacesRec ·)))=true:=by kernel_rfl
theorem kk:((Rows.frametreePlaysRow.mapsOut==Tryz.prog.mapsAmong Tryz.f7.resultTypes.toList))=true:=by kernel_rfl
theorem km:((Rows.frametreePlaysRow.loops==(Tryz.f7.params.toList++Rows.frametreePlaysSpec.plain.varTypes Tryz.prog).any (Tryz.prog.loopsFrom ·)))=true:=by kernel_rfl
theorem kn:((Rows.frametreePlaysRow.wideKeys==(Tryz.f7.params.toList++Rows.frametreePlaysSpec.plain.varTypes Tryz.prog++Tryz.f7.resultTypes.toList).any (Tryz.prog.wideKeysFrom ·)))=true:=by kernel_rfl
theorem ko:(Rows.frametreePlaysSpec.vars.all (Tryz.prog.varReadable ·))=true:=by kernel_rfl
theorem ku:(Tryz.f7.resultTypes.all (fun t=>Tryz.prog.readableRec t && decide (t<Tryz.prog.types.size)))=true:=by kernel_rfl
theorem kv:((Rows.frametreePlaysRow.ifacesOut==Tryz.f7.resultTypes.toList.any (Tryz.prog.ifacesRec ·)))=true:=by kernel_rfl
theorem kx:((Rows.frametreePlaysRow.loopsOut==Tryz.f7.resultTypes.toList.any (Tryz.prog.loopsFrom ·)))=true:=by kernel_rfl
theorem ky:((Rows.frametreePlaysRow.plainKeys==Tryz.prog.plainKeys))=true:=by kernel_rfl
theorem kz:(Rows.frametreePlaysRow.shortTexts.isNone)=true:=by kernel_rfl
theorem kA:(Tryz.prog.stopsHeard)=true:=by kernel_rfl
theorem kB:(Tryz.prog.mayEnter)=true:=by kernel_rfl
theorem kC:((Rows.frametreePlaysRow.lifted==Tryz.prog.liftsFinal))=true:=by kernel_rfl
theorem kD:((Tryz.prog.make==some Rows.frametreePlaysRow.make))=true:=by kernel_rfl
theorem kE:((Rows.frametreePlaysRow.kinds==(if Rows.frametreePlaysRow.domain.isEmpty then []else Tryz.f7.params.toList.map fun t=>match Tryz.prog.underlying t with | some (.int k)=>some k | _=>none)))=true:=by kernel_rfl
theorem kF:((Rows.frametreePlaysRow.pinned==Rows.frametreePlaysRow.pinnedBy))=true:=by kernel_rfl
theorem kG:((Rows.frametreePlaysRow.veiled==(Tryz.f7.params.toList++Rows.frametreePlaysSpec.plain.varTypes Tryz.prog++Tryz.f7.resultTypes.toList).any (Tryz.prog.veiledRec ·)))=true:=by kernel_rfl
theorem kH:(Rows.frametreePlaysRow.veiledFits Tryz.prog Tryz.f7.params.toList (Tryz.f7.params.toList++Rows.frametreePlaysSpec.plain.varTypes Tryz.prog++Tryz.f7.resultTypes.toList))=true:=by kernel_rfl
set_option maxRecDepth 100000 in
theorem i5:joinedFacts Tryz.prog 7 Tryz.f7 Rows.frametreePlaysSpec Rows.frametreePlaysRow=true:=by
 unfold joinedFacts;exact band (band (band (band (band (band (band (band (band (band (band (band (band (band (band (band (band (band (band (band (band (band (band (band (band (band (band (band (band (band (band (kT) kU) kV) kW) kX) kY) kZ) k7) lh) lj) ke) kf) kg) kh) kj) kk) km) kn) ko) ku) kv) kx) ky) kz) kA) kB) kC) kD) kE) kF) kG) kH
end Go.Proofs.YtggfmklppkioeaaGreat
