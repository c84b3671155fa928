/- HostRefuses: what the program is for this row, part by part. -/
import Derived.Test.YtmdkhgibipojcaaGreatRows
import Derived.JoinedOf
set_option maxRecDepth 100000
namespace Go.Proofs.YtmdkhgibipojcaaGreat
open Go

theorem hostRefusesFact0 : (Rows.hostRefusesRow.wf (OpenSpec.ofChange Rows.hostRefusesSpec)) = true := by kernel_rfl
theorem hostRefusesFact1 : (laidOutB Tryz.pinned.checked.prog) = true := by kernel_rfl
theorem hostRefusesFact2 : (mapsRowed Tryz.pinned.checked.prog) = true := by kernel_rfl
theorem hostRefusesFact3 : (Tryz.f3.params.all (Tryz.pinned.checked.prog.readableRec ·)) = true := by kernel_rfl
theorem hostRefusesFact4 : (namedTie Tryz.pinned.checked.prog Rows.hostRefusesRow.named Rows.hostRefusesSpec.vars) = true := by kernel_rfl
theorem hostRefusesFact5 : ((Rows.hostRefusesRow.stops == [])) = true := by kernel_rfl
theorem hostRefusesFact6 : ((Tryz.pinned.checked.prog.stops == [])) = true := by kernel_rfl
theorem hostRefusesFact7 : ((Rows.hostRefusesRow.knobs == [])) = true := by kernel_rfl
theorem hostRefusesFact8 : ((Tryz.pinned.checked.prog.stopKnobs == [])) = true := by kernel_rfl
theorem hostRefusesFact9 : ((Rows.hostRefusesRow.inPlace == Tryz.pinned.checked.prog.inPlace 3)) = true := by kernel_rfl
theorem hostRefusesFact10 : ((Rows.hostRefusesRow.unfollowed == Tryz.pinned.checked.prog.unfollowed 3)) = true := by kernel_rfl
theorem hostRefusesFact11 : ((Rows.hostRefusesRow.recurses == Tryz.pinned.checked.prog.recurses 3)) = true := by kernel_rfl
theorem hostRefusesFact12 : ((Rows.hostRefusesRow.named == Tryz.pinned.checked.prog.varsNamed 3)) = true := by kernel_rfl
theorem hostRefusesFact13 : ((Rows.hostRefusesRow.maps == (Tryz.f3.params.toList ++ Rows.hostRefusesSpec.plain.varTypes Tryz.pinned.checked.prog).any (Tryz.pinned.checked.prog.mapsRec ·))) = true := by kernel_rfl
theorem hostRefusesFact14 : ((Rows.hostRefusesRow.ifaces == (Tryz.f3.params.toList ++ Rows.hostRefusesSpec.plain.varTypes Tryz.pinned.checked.prog).any (Tryz.pinned.checked.prog.ifacesRec ·))) = true := by kernel_rfl
theorem hostRefusesFact15 : ((Rows.hostRefusesRow.mapsOut == Tryz.pinned.checked.prog.mapsAmong Tryz.f3.resultTypes.toList)) = true := by kernel_rfl
theorem hostRefusesFact16 : ((Rows.hostRefusesRow.loops == (Tryz.f3.params.toList ++ Rows.hostRefusesSpec.plain.varTypes Tryz.pinned.checked.prog).any (Tryz.pinned.checked.prog.loopsFrom ·))) = true := by kernel_rfl
theorem hostRefusesFact17 : ((Rows.hostRefusesRow.wideKeys == (Tryz.f3.params.toList ++ Rows.hostRefusesSpec.plain.varTypes Tryz.pinned.checked.prog ++ Tryz.f3.resultTypes.toList).any (Tryz.pinned.checked.prog.wideKeysFrom ·))) = true := by kernel_rfl
theorem hostRefusesFact18 : (Rows.hostRefusesSpec.vars.all (Tryz.pinned.checked.prog.varReadable ·)) = true := by kernel_rfl
theorem hostRefusesFact19 : (Tryz.f3.resultTypes.all (fun t => Tryz.pinned.checked.prog.readableRec t && decide (t < Tryz.pinned.checked.prog.types.size))) = true := by kernel_rfl
theorem hostRefusesFact20 : ((Rows.hostRefusesRow.ifacesOut == Tryz.f3.resultTypes.toList.any (Tryz.pinned.checked.prog.ifacesRec ·))) = true := by kernel_rfl
theorem hostRefusesFact21 : ((Rows.hostRefusesRow.loopsOut == Tryz.f3.resultTypes.toList.any (Tryz.pinned.checked.prog.loopsFrom ·))) = true := by kernel_rfl
theorem hostRefusesFact22 : ((Rows.hostRefusesRow.plainKeys == Tryz.pinned.checked.prog.plainKeys)) = true := by kernel_rfl
theorem hostRefusesFact23 : (Rows.hostRefusesRow.shortTexts.isNone) = true := by kernel_rfl
theorem hostRefusesFact24 : (Tryz.pinned.checked.prog.stopsHeard) = true := by kernel_rfl
theorem hostRefusesFact25 : (Tryz.pinned.checked.prog.mayEnter) = true := by kernel_rfl
theorem hostRefusesFact26 : ((Rows.hostRefusesRow.lifted == Tryz.pinned.checked.prog.liftsFinal)) = true := by kernel_rfl
theorem hostRefusesFact27 : ((Tryz.pinned.checked.prog.make == some Rows.hostRefusesRow.make)) = true := by kernel_rfl
theorem hostRefusesFact28 : ((Rows.hostRefusesRow.kinds == (if Rows.hostRefusesRow.domain.isEmpty then [] else Tryz.f3.params.toList.map fun t => match Tryz.pinned.checked.prog.underlying t with | some (.int k) => some k | _ => none))) = true := by kernel_rfl
theorem hostRefusesFact29 : ((Rows.hostRefusesRow.pinned == Rows.hostRefusesRow.pinnedBy)) = true := by kernel_rfl
theorem hostRefusesFact30 : ((Rows.hostRefusesRow.veiled == (Tryz.f3.params.toList ++ Rows.hostRefusesSpec.plain.varTypes Tryz.pinned.checked.prog ++ Tryz.f3.resultTypes.toList).any (Tryz.pinned.checked.prog.veiledRec ·))) = true := by kernel_rfl
theorem hostRefusesFact31 : (Rows.hostRefusesRow.veiledFits Tryz.pinned.checked.prog Tryz.f3.params.toList (Tryz.f3.params.toList ++ Rows.hostRefusesSpec.plain.varTypes Tryz.pinned.checked.prog ++ Tryz.f3.resultTypes.toList)) = true := by kernel_rfl
theorem and_of {a b : Bool} (h1 : a = true) (h2 : b = true) : (a && b) = true := by rw [h1, h2]; rfl
theorem closed_HostRefuses : joinedFacts Tryz.pinned.checked.prog 3 Tryz.f3 Rows.hostRefusesSpec Rows.hostRefusesRow = true := (and_of (and_of (and_of (and_of (and_of (and_of (and_of (and_of (and_of (and_of (and_of (and_of (and_of (and_of (and_of (and_of (and_of (and_of (and_of (and_of (and_of (and_of (and_of (and_of (and_of (and_of (and_of (and_of (and_of (and_of (and_of hostRefusesFact0 hostRefusesFact1) hostRefusesFact2) hostRefusesFact3) hostRefusesFact4) hostRefusesFact5) hostRefusesFact6) hostRefusesFact7) hostRefusesFact8) hostRefusesFact9) hostRefusesFact10) hostRefusesFact11) hostRefusesFact12) hostRefusesFact13) hostRefusesFact14) hostRefusesFact15) hostRefusesFact16) hostRefusesFact17) hostRefusesFact18) hostRefusesFact19) hostRefusesFact20) hostRefusesFact21) hostRefusesFact22) hostRefusesFact23) hostRefusesFact24) hostRefusesFact25) hostRefusesFact26) hostRefusesFact27) hostRefusesFact28) hostRefusesFact29) hostRefusesFact30) hostRefusesFact31)
end Go.Proofs.YtmdkhgibipojcaaGreat
