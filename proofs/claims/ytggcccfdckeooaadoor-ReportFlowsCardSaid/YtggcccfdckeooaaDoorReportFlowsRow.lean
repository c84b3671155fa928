/- ReportFlows: for every input the law returns true, and each argument reads behind the call as it read before. Two tables of Go's library are listed by the row; the law reads neither. No other condition. -/
import Derived.Test.YtggcccfdckeooaaDoorJFlowLaw
import Derived.Test.YtggcccfdckeooaaDoorDoor
import Derived.Test.YtggcccfdckeooaaDoorRows
import Derived.Test.YtggcccfdckeooaaDoorCards
import Derived.Test.YtggcccfdckeooaaDoorTie
set_option linter.unusedVariables false
namespace Go.Proofs.YtggcccfdckeooaaDoor
open Go Go.Br

def rec_rd_wf (W : World) (x : Rec) : Prop := (-9223372036854775808 ≤ x.tick ∧ x.tick ≤ 9223372036854775807) ∧ (-9223372036854775808 ≤ x.host ∧ x.host ≤ 9223372036854775807) ∧ (-9223372036854775808 ≤ x.path ∧ x.path ≤ 9223372036854775807) ∧ (x.bodys.length ≤ x.bodyC ∧ x.bodyC ≤ maxLen ∧ Row W x.body (bvs x.bodys))
theorem rec_rd {W : World} {f : Nat} {es : List Value} (h : RdT PG W f 35 es) : ∃ x : Rec, es = rcx x ∧ rec_rd_wf W x := by
  obtain ⟨c2, _, h3⟩ := rd_field (i := 0) (off := 0) (ft := 3) (z := 4) (z' := 1) (by kernel_rfl) (by kernel_rfl) (by kernel_rfl) h
  obtain ⟨c4, _, h5⟩ := rd_field (i := 1) (off := 1) (ft := 3) (z := 4) (z' := 1) (by kernel_rfl) (by kernel_rfl) (by kernel_rfl) h
  obtain ⟨c6, _, h7⟩ := rd_field (i := 2) (off := 2) (ft := 3) (z := 4) (z' := 1) (by kernel_rfl) (by kernel_rfl) (by kernel_rfl) h
  obtain ⟨c8, _, h9⟩ := rd_field (i := 3) (off := 3) (ft := 33) (z := 4) (z' := 1) (by kernel_rfl) (by kernel_rfl) (by kernel_rfl) h
  obtain ⟨xq10, eq10, wq10⟩ := rd_int (k := .i64) (by kernel_rfl) h3
  have vq10 : -9223372036854775808 ≤ xq10 ∧ xq10 ≤ 9223372036854775807 := by simp [Lit.wf, IntKind.min, IntKind.max, IntKind.signed, IntKind.bits] at wq10; omega
  obtain ⟨xq11, eq11, wq11⟩ := rd_int (k := .i64) (by kernel_rfl) h5
  have vq11 : -9223372036854775808 ≤ xq11 ∧ xq11 ≤ 9223372036854775807 := by simp [Lit.wf, IntKind.min, IntKind.max, IntKind.signed, IntKind.bits] at wq11; omega
  obtain ⟨xq12, eq12, wq12⟩ := rd_int (k := .i64) (by kernel_rfl) h7
  have vq12 : -9223372036854775808 ≤ xq12 ∧ xq12 ≤ 9223372036854775807 := by simp [Lit.wf, IntKind.min, IntKind.max, IntKind.signed, IntKind.bits] at wq12; omega
  obtain ⟨Aq13, Nq13, Cq13, xq13, eq13, lq13, mq13, nq13, rq13⟩ := rd_bytes (e := 5) (by kernel_rfl) (by kernel_rfl) (by kernel_rfl) h9
  subst nq13
  match es, c2 with
  | [u0, u1, u2, u3], _ =>
    simp at eq10 eq11 eq12 eq13
    subst eq10; subst eq11; subst eq12; subst eq13
    exact ⟨⟨xq10, xq11, xq12, Aq13, Cq13, xq13⟩, rfl, ⟨vq10, vq11, vq12, ⟨lq13, mq13, rq13⟩⟩⟩
theorem walk_ReportFlows (W : World) (args : List Value) (h : ArgsOk Tryd.prog W Tryd.f4.params.toList args) : CALL Tryd.prog 4 args W fun v W' => v = .bool true ∧ Kp [] W W' := by
  have h' : ArgsOk PG W [32] args := h
  obtain ⟨v0, r0, rfl, h0, h'⟩ := h'.cons
  obtain rfl := h'.nil
  obtain ⟨f0, h0⟩ := h0.one (by kernel_rfl)
  obtain ⟨A, l, c, rfl, _, _, hl, hw⟩ := rows_rd (z := 4) rec_rd h0
  unfold rec_rd_wf at hw
  have hs := St.start (w := W) (φ := fun w => Row w A (l.flatMap rcx) ∧ ∀ x ∈ l, Row w x.body (bvs x.bodys)) fun w' hw' => ⟨hl.same hw', fun x hx => ((hw x hx).2.2.2.2.2).same hw'⟩
  exact rflaw_ok hs (fun c w h => (h.ro .head).1) (fun x hm c w h => (h.ro .head).2 x hm) (fun x hm => (hw x hm).2.2.2.1) fun W' k => ⟨rfl, k.kp⟩

set_option maxRecDepth 100000 in
theorem lifted_ReportFlows (os : Os) (started : os.Started) (H : Type) (enc : TypeId × Value → H) :
    ReturnsInHanded {} Tryd.checked os 4 .any (fun w args => (Rows.reportFlowsSpec.pre enc Tryd.prog Tryd.f4 Rows.reportFlowsRow.domain false w args ∧ laidMetH Tryd.prog Rows.reportFlowsRow.laid w) ∧ sizedMet enc Tryd.prog Tryd.f4 (OpenSpec.ofChange Rows.reportFlowsSpec) false w args) (Rows.reportFlowsSpec.post enc Tryd.prog Tryd.f4 false true false false) :=
  law_liftL (C := Tryd.checked) (bt := 4) (X := fun w _ => laidMetH Tryd.prog Rows.reportFlowsRow.laid w) (fun _ _ _ hh h => h.of_heap hh) (by kernel_rfl) started (by kernel_rfl) Tryd.func4 (by kernel_rfl) (by kernel_rfl) (by kernel_rfl) (by kernel_rfl) rfl
    (ChangeSpec.witness_shaped (enc := enc) (C := Tryd.checked) (os := os) (X := fun w _ => laidMetH Tryd.prog Rows.reportFlowsRow.laid w) false (World.laidAll Tryd.prog os Rows.reportFlowsRow.laid) #[.slice none 0 0] 8 (World.laidAll_os _ _ _)
      (World.shaped_of_ZipB (by kernel_rfl) (by kernel_rfl)) (by kernel_rfl) (by kernel_rfl) (by kernel_rfl)
      (by rw [MakeChecks.laidMetH_plain _ _ _ (by kernel_rfl)]; exact laidMet_laidAll _ (by kernel_rfl) (by kernel_rfl)))
    (fun ds hd => by
      match ds, hd with
      | [d0], _ => rfl)
    walk_ReportFlows

set_option maxRecDepth 100000 in
theorem ReportFlows_holds : Rows.ReportFlowsSaid :=
  OpenClaim.holds_of_wide 4 Tryd.f4 rfl rfl rfl rfl rfl rfl rfl ⟨rfl, rfl, rfl, rfl, rfl⟩ rfl rfl rfl rfl rfl (by kernel_rfl) Tryd.func4 (by kernel_rfl)
    (of_decide_eq_true (by kernel_rfl)) (by unfold Func.isWrapper; first | (rw [if_pos (by decide +kernel)]; kernel_rfl) | (rw [if_neg (by decide +kernel)]; exact ⟨rfl, rfl⟩))
    (fun os started H enc _ => lifted_ReportFlows os started H enc)

set_option maxRecDepth 100000 in
theorem ReportFlowsCard_holds : Rows.ReportFlowsCardSaid :=
  Claim7.holds_tied_plain_at .later [] [.data, .pinned] true (true, "d9f94589f4e042c65d1cb5279027ead9be8f607bfe76b3e169c10f99483419cd") false ReportFlows_holds (fun _ h => by cases h) (by kernel_rfl) (fun _ h => by cases h) reportFlows_row_tie rfl ⟨rfl, rfl⟩ (by kernel_rfl) rfl
    (fun f fn hf hfn => by
      obtain rfl : f = 4 := Option.some.inj ((show Tryd.prog.funcNamed "brougham/broughamlaw37.ReportFlows" = some 4 by kernel_rfl).symm.trans hf) |>.symm
      obtain rfl : fn = Tryd.f4 := (Option.some.inj (Tryd.func4.symm.trans hfn)).symm
      exact ⟨by kernel_rfl, fun j t ht => by
        have hm : t ∈ Tryd.f4.params.toList := by simpa using Array.mem_of_getElem? ht
        have hall : (Tryd.f4.params.toList.all fun u => !Tryd.prog.wantsStandIn u) = true := by kernel_rfl
        exact (show Tryd.prog.wantsStandIn t = false by simpa using List.all_eq_true.1 hall t hm)⟩)
    (by kernel_rfl)
#print axioms ReportFlowsCard_holds
end Go.Proofs.YtggcccfdckeooaaDoor
