/- AuditFits: what the program is for this row, part by part. -/
import Derived.Test.YtedgfhklpfmjaaaGreatRows
import Derived.JoinedOf
set_option maxRecDepth 100000
namespace Go.Proofs.YtedgfhklpfmjaaaGreat
open Go

theorem auditFitsFact0 : (Rows.auditFitsRow.wf (OpenSpec.ofChange Rows.auditFitsSpec)) = true := by kernel_rfl
theorem auditFitsFact1 : (laidOutB Tryz.pinned.checked.prog) = true := by kernel_rfl
theorem auditFitsFact2 : (mapsRowed Tryz.pinned.checked.prog) = true := by kernel_rfl
theorem auditFitsFact3 : (Tryz.f3.params.all (Tryz.pinned.checked.prog.readableRec ·)) = true := by kernel_rfl
theorem auditFitsFact4 : (namedTie Tryz.pinned.checked.prog Rows.auditFitsRow.named Rows.auditFitsSpec.vars) = true := by kernel_rfl
theorem auditFitsFact5 : ((Rows.auditFitsRow.stops == [])) = true := by kernel_rfl
theorem auditFitsFact6 : ((Tryz.pinned.checked.prog.stops == [])) = true := by kernel_rfl
theorem auditFitsFact7 : ((Rows.auditFitsRow.knobs == [])) = true := by kernel_rfl
theorem auditFitsFact8 : ((Tryz.pinned.checked.prog.stopKnobs == [])) = true := by kernel_rfl
theorem auditFitsFact9 : ((Rows.auditFitsRow.inPlace == Tryz.pinned.checked.prog.inPlace 3)) = true := by kernel_rfl
theorem auditFitsFact10 : ((Rows.auditFitsRow.unfollowed == Tryz.pinned.checked.prog.unfollowed 3)) = true := by kernel_rfl
theorem auditFitsFact11 : ((Rows.auditFitsRow.recurses == Tryz.pinned.checked.prog.recurses 3)) = true := by kernel_rfl
theorem auditFitsFact12 : ((Rows.auditFitsRow.named == Tryz.pinned.checked.prog.varsNamed 3)) = true := by kernel_rfl
theorem auditFitsFact13 : ((Rows.auditFitsRow.maps == (Tryz.f3.params.toList ++ Rows.auditFitsSpec.plain.varTypes Tryz.pinned.checked.prog).any (Tryz.pinned.checked.prog.mapsRec ·))) = true := by kernel_rfl
theorem auditFitsFact14 : ((Rows.auditFitsRow.ifaces == (Tryz.f3.params.toList ++ Rows.auditFitsSpec.plain.varTypes Tryz.pinned.checked.prog).any (Tryz.pinned.checked.prog.ifacesRec ·))) = true := by kernel_rfl
theorem auditFitsFact15 : ((Rows.auditFitsRow.mapsOut == Tryz.pinned.checked.prog.mapsAmong Tryz.f3.resultTypes.toList)) = true := by kernel_rfl
theorem auditFitsFact16 : ((Rows.auditFitsRow.loops == (Tryz.f3.params.toList ++ Rows.auditFitsSpec.plain.varTypes Tryz.pinned.checked.prog).any (Tryz.pinned.checked.prog.loopsFrom ·))) = true := by kernel_rfl
theorem auditFitsFact17 : ((Rows.auditFitsRow.wideKeys == (Tryz.f3.params.toList ++ Rows.auditFitsSpec.plain.varTypes Tryz.pinned.checked.prog ++ Tryz.f3.resultTypes.toList).any (Tryz.pinned.checked.prog.wideKeysFrom ·))) = true := by kernel_rfl
theorem auditFitsFact18 : (Rows.auditFitsSpec.vars.all (Tryz.pinned.checked.prog.varReadable ·)) = true := by kernel_rfl
theorem auditFitsFact19 : (Tryz.f3.resultTypes.all (fun t => Tryz.pinned.checked.prog.readableRec t && decide (t < Tryz.pinned.checked.prog.types.size))) = true := by kernel_rfl
theorem auditFitsFact20 : ((Rows.auditFitsRow.ifacesOut == Tryz.f3.resultTypes.toList.any (Tryz.pinned.checked.prog.ifacesRec ·))) = true := by kernel_rfl
theorem auditFitsFact21 : ((Rows.auditFitsRow.loopsOut == Tryz.f3.resultTypes.toList.any (Tryz.pinned.checked.prog.loopsFrom ·))) = true := by kernel_rfl
theorem auditFitsFact22 : ((Rows.auditFitsRow.plainKeys == Tryz.pinned.checked.prog.plainKeys)) = true := by kernel_rfl
theorem auditFitsFact23 : (Rows.auditFitsRow.shortTexts.isNone) = true := by kernel_rfl
theorem auditFitsFact24 : (Tryz.pinned.checked.prog.stopsHeard) = true := by kernel_rfl
theorem auditFitsFact25 : (Tryz.pinned.checked.prog.mayEnter) = true := by kernel_rfl
theorem auditFitsFact26 : ((Rows.auditFitsRow.lifted == Tryz.pinned.checked.prog.liftsFinal)) = true := by kernel_rfl
theorem auditFitsFact27 : ((Tryz.pinned.checked.prog.make == some Rows.auditFitsRow.make)) = true := by kernel_rfl
theorem auditFitsFact28 : ((Rows.auditFitsRow.kinds == (if Rows.auditFitsRow.domain.isEmpty then [] else Tryz.f3.params.toList.map fun t => match Tryz.pinned.checked.prog.underlying t with | some (.int k) => some k | _ => none))) = true := by kernel_rfl
theorem auditFitsFact29 : ((Rows.auditFitsRow.pinned == Rows.auditFitsRow.pinnedBy)) = true := by kernel_rfl
theorem auditFitsFact30 : ((Rows.auditFitsRow.veiled == (Tryz.f3.params.toList ++ Rows.auditFitsSpec.plain.varTypes Tryz.pinned.checked.prog ++ Tryz.f3.resultTypes.toList).any (Tryz.pinned.checked.prog.veiledRec ·))) = true := by kernel_rfl
theorem auditFitsFact31 : (Rows.auditFitsRow.veiledFits Tryz.pinned.checked.prog Tryz.f3.params.toList (Tryz.f3.params.toList ++ Rows.auditFitsSpec.plain.varTypes Tryz.pinned.checked.prog ++ Tryz.f3.resultTypes.toList)) = true := by kernel_rfl
theorem and_of {a b : Bool} (h1 : a = true) (h2 : b = true) : (a && b) = true := by rw [h1, h2]; rfl
theorem closed_AuditFits : joinedFacts Tryz.pinned.checked.prog 3 Tryz.f3 Rows.auditFitsSpec Rows.auditFitsRow = true := (and_of (and_of (and_of (and_of (and_of (and_of (and_of (and_of (and_of (and_of (and_of (and_of (and_of (and_of (and_of (and_of (and_of (and_of (and_of (and_of (and_of (and_of (and_of (and_of (and_of (and_of (and_of (and_of (and_of (and_of (and_of auditFitsFact0 auditFitsFact1) auditFitsFact2) auditFitsFact3) auditFitsFact4) auditFitsFact5) auditFitsFact6) auditFitsFact7) auditFitsFact8) auditFitsFact9) auditFitsFact10) auditFitsFact11) auditFitsFact12) auditFitsFact13) auditFitsFact14) auditFitsFact15) auditFitsFact16) auditFitsFact17) auditFitsFact18) auditFitsFact19) auditFitsFact20) auditFitsFact21) auditFitsFact22) auditFitsFact23) auditFitsFact24) auditFitsFact25) auditFitsFact26) auditFitsFact27) auditFitsFact28) auditFitsFact29) auditFitsFact30) auditFitsFact31)
end Go.Proofs.YtedgfhklpfmjaaaGreat
