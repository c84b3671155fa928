/- HostAsks: what the program is for this row, part by part. -/
import Derived.Test.YtggcccfdckeooaaGreatRows
import Derived.JoinedOf
set_option maxRecDepth 100000
namespace Go.Proofs.YtggcccfdckeooaaGreat
open Go

theorem hostAsksFact0 : (Rows.hostAsksRow.wf (OpenSpec.ofChange Rows.hostAsksSpec)) = true := by kernel_rfl
theorem hostAsksFact1 : (laidOutB Tryz.pinned.checked.prog) = true := by kernel_rfl
theorem hostAsksFact2 : (mapsRowed Tryz.pinned.checked.prog) = true := by kernel_rfl
theorem hostAsksFact3 : (Tryz.f5.params.all (Tryz.pinned.checked.prog.readableRec ·)) = true := by kernel_rfl
theorem hostAsksFact4 : (namedTie Tryz.pinned.checked.prog Rows.hostAsksRow.named Rows.hostAsksSpec.vars) = true := by kernel_rfl
theorem hostAsksFact5 : ((Rows.hostAsksRow.stops == [])) = true := by kernel_rfl
theorem hostAsksFact6 : ((Tryz.pinned.checked.prog.stops == [])) = true := by kernel_rfl
theorem hostAsksFact7 : ((Rows.hostAsksRow.knobs == [])) = true := by kernel_rfl
theorem hostAsksFact8 : ((Tryz.pinned.checked.prog.stopKnobs == [])) = true := by kernel_rfl
theorem hostAsksFact9 : ((Rows.hostAsksRow.inPlace == Tryz.pinned.checked.prog.inPlace 5)) = true := by kernel_rfl
theorem hostAsksFact10 : ((Rows.hostAsksRow.unfollowed == Tryz.pinned.checked.prog.unfollowed 5)) = true := by kernel_rfl
theorem hostAsksFact11 : ((Rows.hostAsksRow.recurses == Tryz.pinned.checked.prog.recurses 5)) = true := by kernel_rfl
theorem hostAsksFact12 : ((Rows.hostAsksRow.named == Tryz.pinned.checked.prog.varsNamed 5)) = true := by kernel_rfl
theorem hostAsksFact13 : ((Rows.hostAsksRow.maps == (Tryz.f5.params.toList ++ Rows.hostAsksSpec.plain.varTypes Tryz.pinned.checked.prog).any (Tryz.pinned.checked.prog.mapsRec ·))) = true := by kernel_rfl
theorem hostAsksFact14 : ((Rows.hostAsksRow.ifaces == (Tryz.f5.params.toList ++ Rows.hostAsksSpec.plain.varTypes Tryz.pinned.checked.prog).any (Tryz.pinned.checked.prog.ifacesRec ·))) = true := by kernel_rfl
theorem hostAsksFact15 : ((Rows.hostAsksRow.mapsOut == Tryz.pinned.checked.prog.mapsAmong Tryz.f5.resultTypes.toList)) = true := by kernel_rfl
theorem hostAsksFact16 : ((Rows.hostAsksRow.loops == (Tryz.f5.params.toList ++ Rows.hostAsksSpec.plain.varTypes Tryz.pinned.checked.prog).any (Tryz.pinned.checked.prog.loopsFrom ·))) = true := by kernel_rfl
theorem hostAsksFact17 : ((Rows.hostAsksRow.wideKeys == (Tryz.f5.params.toList ++ Rows.hostAsksSpec.plain.varTypes Tryz.pinned.checked.prog ++ Tryz.f5.resultTypes.toList).any (Tryz.pinned.checked.prog.wideKeysFrom ·))) = true := by kernel_rfl
theorem hostAsksFact18 : (Rows.hostAsksSpec.vars.all (Tryz.pinned.checked.prog.varReadable ·)) = true := by kernel_rfl
theorem hostAsksFact19 : (Tryz.f5.resultTypes.all (fun t => Tryz.pinned.checked.prog.readableRec t && decide (t < Tryz.pinned.checked.prog.types.size))) = true := by kernel_rfl
theorem hostAsksFact20 : ((Rows.hostAsksRow.ifacesOut == Tryz.f5.resultTypes.toList.any (Tryz.pinned.checked.prog.ifacesRec ·))) = true := by kernel_rfl
theorem hostAsksFact21 : ((Rows.hostAsksRow.loopsOut == Tryz.f5.resultTypes.toList.any (Tryz.pinned.checked.prog.loopsFrom ·))) = true := by kernel_rfl
theorem hostAsksFact22 : ((Rows.hostAsksRow.plainKeys == Tryz.pinned.checked.prog.plainKeys)) = true := by kernel_rfl
theorem hostAsksFact23 : (Rows.hostAsksRow.shortTexts.isNone) = true := by kernel_rfl
theorem hostAsksFact24 : (Tryz.pinned.checked.prog.stopsHeard) = true := by kernel_rfl
theorem hostAsksFact25 : (Tryz.pinned.checked.prog.mayEnter) = true := by kernel_rfl
theorem hostAsksFact26 : ((Rows.hostAsksRow.lifted == Tryz.pinned.checked.prog.liftsFinal)) = true := by kernel_rfl
theorem hostAsksFact27 : ((Tryz.pinned.checked.prog.make == some Rows.hostAsksRow.make)) = true := by kernel_rfl
theorem hostAsksFact28 : ((Rows.hostAsksRow.kinds == (if Rows.hostAsksRow.domain.isEmpty then [] else Tryz.f5.params.toList.map fun t => match Tryz.pinned.checked.prog.underlying t with | some (.int k) => some k | _ => none))) = true := by kernel_rfl
theorem hostAsksFact29 : ((Rows.hostAsksRow.pinned == Rows.hostAsksRow.pinnedBy)) = true := by kernel_rfl
theorem hostAsksFact30 : ((Rows.hostAsksRow.veiled == (Tryz.f5.params.toList ++ Rows.hostAsksSpec.plain.varTypes Tryz.pinned.checked.prog ++ Tryz.f5.resultTypes.toList).any (Tryz.pinned.checked.prog.veiledRec ·))) = true := by kernel_rfl
theorem hostAsksFact31 : (Rows.hostAsksRow.veiledFits Tryz.pinned.checked.prog Tryz.f5.params.toList (Tryz.f5.params.toList ++ Rows.hostAsksSpec.plain.varTypes Tryz.pinned.checked.prog ++ Tryz.f5.resultTypes.toList)) = true := by kernel_rfl
theorem and_of {a b : Bool} (h1 : a = true) (h2 : b = true) : (a && b) = true := by rw [h1, h2]; rfl
theorem closed_HostAsks : joinedFacts Tryz.pinned.checked.prog 5 Tryz.f5 Rows.hostAsksSpec Rows.hostAsksRow = true := (and_of (and_of (and_of (and_of (and_of (and_of (and_of (and_of (and_of (and_of (and_of (and_of (and_of (and_of (and_of (and_of (and_of (and_of (and_of (and_of (and_of (and_of (and_of (and_of (and_of (and_of (and_of (and_of (and_of (and_of (and_of hostAsksFact0 hostAsksFact1) hostAsksFact2) hostAsksFact3) hostAsksFact4) hostAsksFact5) hostAsksFact6) hostAsksFact7) hostAsksFact8) hostAsksFact9) hostAsksFact10) hostAsksFact11) hostAsksFact12) hostAsksFact13) hostAsksFact14) hostAsksFact15) hostAsksFact16) hostAsksFact17) hostAsksFact18) hostAsksFact19) hostAsksFact20) hostAsksFact21) hostAsksFact22) hostAsksFact23) hostAsksFact24) hostAsksFact25) hostAsksFact26) hostAsksFact27) hostAsksFact28) hostAsksFact29) hostAsksFact30) hostAsksFact31)
end Go.Proofs.YtggcccfdckeooaaGreat
