/- ConnHands: what the program is for this row, part by part. -/
import Derived.Test.YtmglifmopjedbaaGreatRows
import Derived.JoinedOf
set_option maxRecDepth 100000
namespace Go.Proofs.YtmglifmopjedbaaGreat
open Go
theorem connHandsFact0 : (Rows.connHandsRow.wf (OpenSpec.ofChange Rows.connHandsSpec)) = true:=by kernel_rfl
theorem connHandsFact1 : (laidOutB Tryz.pinned.checked.prog) = true:=by kernel_rfl
theorem connHandsFact2 : (mapsRowed Tryz.pinned.checked.prog) = true:=by kernel_rfl
theorem connHandsFact3 : (Tryz.f3.params.all (Tryz.pinned.checked.prog.readableRec ·)) = true:=by kernel_rfl
theorem connHandsFact4 : (namedTie Tryz.pinned.checked.prog Rows.connHandsRow.named Rows.connHandsSpec.vars) = true:=by kernel_rfl
theorem connHandsFact5 : ((Rows.connHandsRow.stops == [])) = true:=by kernel_rfl
theorem connHandsFact6 : ((Tryz.pinned.checked.prog.stops == [])) = true:=by kernel_rfl
theorem connHandsFact7 : ((Rows.connHandsRow.knobs == [])) = true:=by kernel_rfl
theorem connHandsFact8 : ((Tryz.pinned.checked.prog.stopKnobs == [])) = true:=by kernel_rfl
theorem connHandsFact9 : ((Rows.connHandsRow.inPlace == Tryz.pinned.checked.prog.inPlace 3)) = true:=by kernel_rfl
theorem connHandsFact10 : ((Rows.connHandsRow.unfollowed == Tryz.pinned.checked.prog.unfollowed 3)) = true:=by kernel_rfl
theorem connHandsFact11 : ((Rows.connHandsRow.recurses == Tryz.pinned.checked.prog.recurses 3)) = true:=by kernel_rfl
theorem connHandsFact12 : ((Rows.connHandsRow.named == Tryz.pinned.checked.prog.varsNamed 3)) = true:=by kernel_rfl
theorem connHandsFact13 : ((Rows.connHandsRow.maps == (Tryz.f3.params.toList ++ Rows.connHandsSpec.plain.varTypes Tryz.pinned.checked.prog).any (Tryz.pinned.checked.prog.mapsRec ·))) = true:=by kernel_rfl
theorem connHandsFact14 : ((Rows.connHandsRow.ifaces == (Tryz.f3.params.toList ++ Rows.connHandsSpec.plain.varTypes Tryz.pinned.checked.prog).any (Tryz.pinned.checked.prog.ifacesRec ·))) = true:=by kernel_rfl
theorem connHandsFact15 : ((Rows.connHandsRow.mapsOut == Tryz.pinned.checked.prog.mapsAmong Tryz.f3.resultTypes.toList)) = true:=by kernel_rfl
theorem connHandsFact16 : ((Rows.connHandsRow.loops == (Tryz.f3.params.toList ++ Rows.connHandsSpec.plain.varTypes Tryz.pinned.checked.prog).any (Tryz.pinned.checked.prog.loopsFrom ·))) = true:=by kernel_rfl
theorem connHandsFact17 : ((Rows.connHandsRow.wideKeys == (Tryz.f3.params.toList ++ Rows.connHandsSpec.plain.varTypes Tryz.pinned.checked.prog ++ Tryz.f3.resultTypes.toList).any (Tryz.pinned.checked.prog.wideKeysFrom ·))) = true:=by kernel_rfl
theorem connHandsFact18 : (Rows.connHandsSpec.vars.all (Tryz.pinned.checked.prog.varReadable ·)) = true:=by kernel_rfl
theorem connHandsFact19 : (Tryz.f3.resultTypes.all (fun t => Tryz.pinned.checked.prog.readableRec t && decide (t < Tryz.pinned.checked.prog.types.size))) = true:=by kernel_rfl
theorem connHandsFact20 : ((Rows.connHandsRow.ifacesOut == Tryz.f3.resultTypes.toList.any (Tryz.pinned.checked.prog.ifacesRec ·))) = true:=by kernel_rfl
theorem connHandsFact21 : ((Rows.connHandsRow.loopsOut == Tryz.f3.resultTypes.toList.any (Tryz.pinned.checked.prog.loopsFrom ·))) = true:=by kernel_rfl
theorem connHandsFact22 : ((Rows.connHandsRow.plainKeys == Tryz.pinned.checked.prog.plainKeys)) = true:=by kernel_rfl
theorem connHandsFact23 : (Rows.connHandsRow.shortTexts.isNone) = true:=by kernel_rfl
theorem connHandsFact24 : (Tryz.pinned.checked.prog.stopsHeard) = true:=by kernel_rfl
theorem connHandsFact25 : (Tryz.pinned.checked.prog.mayEnter) = true:=by kernel_rfl
theorem connHandsFact26 : ((Rows.connHandsRow.lifted == Tryz.pinned.checked.prog.liftsFinal)) = true:=by kernel_rfl
theorem connHandsFact27 : ((Tryz.pinned.checked.prog.make == some Rows.connHandsRow.make)) = true:=by kernel_rfl
theorem connHandsFact28 : ((Rows.connHandsRow.kinds == (if Rows.connHandsRow.domain.isEmpty then [] else Tryz.f3.params.toList.map fun t => match Tryz.pinned.checked.prog.underlying t with | some (.int k) => some k | _ => none))) = true:=by kernel_rfl
theorem connHandsFact29 : ((Rows.connHandsRow.pinned == Rows.connHandsRow.pinnedBy)) = true:=by kernel_rfl
theorem connHandsFact30 : ((Rows.connHandsRow.veiled == (Tryz.f3.params.toList ++ Rows.connHandsSpec.plain.varTypes Tryz.pinned.checked.prog ++ Tryz.f3.resultTypes.toList).any (Tryz.pinned.checked.prog.veiledRec ·))) = true:=by kernel_rfl
theorem connHandsFact31 : (Rows.connHandsRow.veiledFits Tryz.pinned.checked.prog Tryz.f3.params.toList (Tryz.f3.params.toList ++ Rows.connHandsSpec.plain.varTypes Tryz.pinned.checked.prog ++ Tryz.f3.resultTypes.toList)) = true:=by kernel_rfl
theorem and_of {a b : Bool} (h1 : a = true) (h2 : b = true) : (a && b) = true:=by rw [h1,h2]; rfl
theorem closed_ConnHands : joinedFacts Tryz.pinned.checked.prog 3 Tryz.f3 Rows.connHandsSpec Rows.connHandsRow = true:=(and_of (and_of (and_of (and_of (and_of (and_of (and_of (and_of (and_of (and_of (and_of (and_of (and_of (and_of (and_of (and_of (and_of (and_of (and_of (and_of (and_of (and_of (and_of (and_of (and_of (and_of (and_of (and_of (and_of (and_of (and_of connHandsFact0 connHandsFact1) connHandsFact2) connHandsFact3) connHandsFact4) connHandsFact5) connHandsFact6) connHandsFact7) connHandsFact8) connHandsFact9) connHandsFact10) connHandsFact11) connHandsFact12) connHandsFact13) connHandsFact14) connHandsFact15) connHandsFact16) connHandsFact17) connHandsFact18) connHandsFact19) connHandsFact20) connHandsFact21) connHandsFact22) connHandsFact23) connHandsFact24) connHandsFact25) connHandsFact26) connHandsFact27) connHandsFact28) connHandsFact29) connHandsFact30) connHandsFact31)
end Go.Proofs.YtmglifmopjedbaaGreat
