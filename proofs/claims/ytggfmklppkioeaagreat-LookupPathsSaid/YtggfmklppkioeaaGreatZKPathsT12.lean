/- Facts of the program that LookupPaths asks for, one by one: all at once is more than the kernel holds. -/
import Derived.Test.YtggfmklppkioeaaGreatRows
import Derived.WalkKit
import Derived.ProofKit
import Derived.OpenShut
import Derived.ChangeOld
namespace Go.Proofs.YtggfmklppkioeaaGreat
set_option linter.unusedSimpArgs false
set_option linter.unusedVariables false
set_option maxRecDepth 100000
open Go.RowKit
private theorem band {a b:Bool} (h:a=true) (k:b=true):(a && b)=true:=by rw[h,k];rfl
theorem p7:(Rows.lookupPathsRow.wf (OpenSpec.ofChange Rows.lookupPathsSpec))=true:=by kernel_rfl
theorem p8:(laidOutB Tryz.prog)=true:=by kernel_rfl
theorem p9:(mapsRowed Tryz.prog)=true:=by kernel_rfl
theorem qc:(Tryz.f13.params.all (Tryz.prog.readableRec ·))=true:=by kernel_rfl
theorem qd:(namedTie Tryz.prog Rows.lookupPathsRow.named Rows.lookupPathsSpec.vars)=true:=by kernel_rfl
theorem qe:((Rows.lookupPathsRow.stops==[]))=true:=by kernel_rfl
theorem qf:((Tryz.prog.stops==[]))=true:=by kernel_rfl
theorem qg:((Rows.lookupPathsRow.knobs==[]))=true:=by kernel_rfl
theorem qh:((Tryz.prog.stopKnobs==[]))=true:=by kernel_rfl
theorem qi:((Rows.lookupPathsRow.inPlace==Tryz.prog.inPlace 13))=true:=by kernel_rfl
theorem oE:((Rows.lookupPathsRow.unfollowed==Tryz.prog.unfollowed 13))=true:=by kernel_rfl
theorem oG:((Rows.lookupPathsRow.recurses==Tryz.prog.recurses 13))=true:=by kernel_rfl
theorem oH:((Rows.lookupPathsRow.named==Tryz.prog.varsNamed 13))=true:=by kernel_rfl
theorem oI:((Rows.lookupPathsRow.maps==(Tryz.f13.params.toList++Rows.lookupPathsSpec.plain.varTypes Tryz.prog).any (Tryz.prog.mapsRec ·)))=true:=by kernel_rfl
theorem oJ:((Rows.lookupPathsRow.ifaces==(Tryz.f13.params.toList++Rows.lookupPathsSpec.plain.varTypes Tryz.prog).any (Tryz.prog.ifacesRec ·)))=true:=by kernel_rfl
theorem oK:((Rows.lookupPathsRow.mapsOut==Tryz.prog.mapsAmong Tryz.f13.resultTypes.toList))=true:=by kernel_rfl
theorem oL:((Rows.lookupPathsRow.loops==(Tryz.f13.params.toList++Rows.lookupPathsSpec.plain.varTypes Tryz.prog).any (Tryz.prog.loopsFrom ·)))=true:=by kernel_rfl
theorem oM:((Rows.lookupPathsRow.wideKeys==(Tryz.f13.params.toList++Rows.lookupPathsSpec.plain.varTypes Tryz.prog++Tryz.f13.resultTypes.toList).any (Tryz.prog.wideKeysFrom ·)))=true:=by kernel_rfl
theorem oN:(Rows.lookupPathsSpec.vars.all (Tryz.prog.varReadable ·))=true:=by kernel_rfl
theorem oO:(Tryz.f13.resultTypes.all (fun t=>Tryz.prog.readableRec t && decide (t<Tryz.prog.types.size)))=true:=by kernel_rfl
theorem oP:((Rows.lookupPathsRow.ifacesOut==Tryz.f13.resultTypes.toList.any (Tryz.prog.ifacesRec ·)))=true:=by kernel_rfl
theorem oQ:((Rows.lookupPathsRow.loopsOut==Tryz.f13.resultTypes.toList.any (Tryz.prog.loopsFrom ·)))=true:=by kernel_rfl
theorem oR:((Rows.lookupPathsRow.plainKeys==Tryz.prog.plainKeys))=true:=by kernel_rfl
theorem oS:(Rows.lookupPathsRow.shortTexts.isNone)=true:=by kernel_rfl
theorem oT:(Tryz.prog.stopsHeard)=true:=by kernel_rfl
theorem oU:(Tryz.prog.mayEnter)=true:=by kernel_rfl
theorem oV:((Rows.lookupPathsRow.lifted==Tryz.prog.liftsFinal))=true:=by kernel_rfl
theorem oW:((Tryz.prog.make==some Rows.lookupPathsRow.make))=true:=by kernel_rfl
theorem oX:((Rows.lookupPathsRow.kinds==(if Rows.lookupPathsRow.domain.isEmpty then []else Tryz.f13.params.toList.map fun t=>match Tryz.prog.underlying t with | some (.int k)=>some k | _=>none)))=true:=by kernel_rfl
theorem oY:((Rows.lookupPathsRow.pinned==Rows.lookupPathsRow.pinnedBy))=true:=by kernel_rfl
theorem oZ:((Rows.lookupPathsRow.veiled==(Tryz.f13.params.toList++Rows.lookupPathsSpec.plain.varTypes Tryz.prog++Tryz.f13.resultTypes.toList).any (Tryz.prog.veiledRec ·)))=true:=by kernel_rfl
theorem o0:(Rows.lookupPathsRow.veiledFits Tryz.prog Tryz.f13.params.toList (Tryz.f13.params.toList++Rows.lookupPathsSpec.plain.varTypes Tryz.prog++Tryz.f13.resultTypes.toList))=true:=by kernel_rfl
set_option maxRecDepth 100000 in
theorem lL:joinedFacts Tryz.prog 13 Tryz.f13 Rows.lookupPathsSpec Rows.lookupPathsRow=true:=by
 unfold joinedFacts;exact band (band (band (band (band (band (band (band (band (band (band (band (band (band (band (band (band (band (band (band (band (band (band (band (band (band (band (band (band (band (band (p7) p8) p9) qc) qd) qe) qf) qg) qh) qi) oE) oG) oH) oI) oJ) oK) oL) oM) oN) oO) oP) oQ) oR) oS) oT) oU) oV) oW) oX) oY) oZ) o0
end Go.Proofs.YtggfmklppkioeaaGreat
