/- ReportJoins: for every input the law returns true, and each argument reads behind the call as it read before. Two tables of Go's library are listed by the row; the law reads neither. No other condition. -/
import Derived.Test.YtccmlfekmmeloaaDoorRepLawJ
import Derived.Test.YtccmlfekmmeloaaDoorDoor
import Derived.Test.YtccmlfekmmeloaaDoorRows
import Derived.Test.YtccmlfekmmeloaaDoorCards
import Derived.Test.YtccmlfekmmeloaaDoorTie
set_option linter.unusedVariables false
namespace Go.Proofs.YtccmlfekmmeloaaDoor
open Go Go.Br

theorem int_rd {W : World} {f : Nat} {es : List Value} (h : RdT PG W f 3 es) : ∃ x : Int, es = iv x ∧ True := by
  obtain ⟨x, e, _⟩ := rd_int (k := .i64) (by kernel_rfl) h
  exact ⟨x, e, trivial⟩
theorem walk_ReportJoins (W : World) (args : List Value) (h : ArgsOk Tryd.prog W Tryd.f5.params.toList args) : CALL Tryd.prog 5 args W fun v W' => v = .bool true ∧ Kp [] W W' := by
  have h' : ArgsOk PG W [22, 22, 3] args := h
  obtain ⟨v0, r0, rfl, h0, h'⟩ := h'.cons
  obtain ⟨v1, r1, rfl, h1, h'⟩ := h'.cons
  obtain ⟨v2, r2, rfl, h2, h'⟩ := h'.cons
  obtain rfl := h'.nil
  obtain ⟨f0, h0⟩ := h0.one (by kernel_rfl)
  obtain ⟨f1, h1⟩ := h1.one (by kernel_rfl)
  obtain ⟨f2, h2⟩ := h2.one (by kernel_rfl)
  obtain ⟨x, e, _⟩ := rd_int (k := .i64) (by kernel_rfl) h2
  injection e with e
  subst e
  obtain ⟨A, l, c, rfl, _, _, hl, _⟩ := rows_rd (z := 1) (g := iv) (WF := fun _ _ => True) int_rd h0
  obtain ⟨B, m, d, rfl, _, _, hm, _⟩ := rows_rd (z := 1) (g := iv) (WF := fun _ _ => True) int_rd h1
  have hs := St.start (w := W) (φ := fun w => Row w A (l.flatMap iv) ∧ Row w B (m.flatMap iv)) fun w' hw => ⟨hl.same hw, hm.same hw⟩
  exact joins_ok hs (fun c w h => (h.ro .head).1) (fun c w h => (h.ro .head).2) fun W' k => ⟨rfl, k.kp⟩

set_option maxRecDepth 100000 in
theorem lifted_ReportJoins (os : Os) (started : os.Started) (H : Type) (enc : TypeId × Value → H) :
    ReturnsInHanded {} Tryd.checked os 5 .any (fun w args => (Rows.reportJoinsSpec.pre enc Tryd.prog Tryd.f5 Rows.reportJoinsRow.domain false w args ∧ laidMetH Tryd.prog Rows.reportJoinsRow.laid w) ∧ sizedMet enc Tryd.prog Tryd.f5 (OpenSpec.ofChange Rows.reportJoinsSpec) false w args) (Rows.reportJoinsSpec.post enc Tryd.prog Tryd.f5 false true false false) :=
  law_liftL (C := Tryd.checked) (bt := 4) (X := fun w _ => laidMetH Tryd.prog Rows.reportJoinsRow.laid w) (fun _ _ _ hh h => h.of_heap hh) (by kernel_rfl) started (by kernel_rfl) Tryd.func5 (by kernel_rfl) (by kernel_rfl) (by kernel_rfl) (by kernel_rfl) rfl
    (ChangeSpec.witness_shaped (enc := enc) (C := Tryd.checked) (os := os) (X := fun w _ => laidMetH Tryd.prog Rows.reportJoinsRow.laid w) false (World.laidAll Tryd.prog os Rows.reportJoinsRow.laid) #[.slice none 0 0, .slice none 0 0, .int .i64 0] 8 (World.laidAll_os _ _ _)
      (World.shaped_of_ZipB (by kernel_rfl) (by kernel_rfl)) (by kernel_rfl) (by kernel_rfl) (by kernel_rfl)
      (by rw [MakeChecks.laidMetH_plain _ _ _ (by kernel_rfl)]; exact laidMet_laidAll _ (by kernel_rfl) (by kernel_rfl)))
    (fun ds hd => by
      match ds, hd with
      | [d0, d1, d2], _ => rfl)
    walk_ReportJoins

set_option maxRecDepth 100000 in
theorem ReportJoins_holds : Rows.ReportJoinsSaid :=
  OpenClaim.holds_of_wide 5 Tryd.f5 rfl rfl rfl rfl rfl rfl rfl ⟨rfl, rfl, rfl, rfl, rfl⟩ rfl rfl rfl rfl rfl (by kernel_rfl) Tryd.func5 (by kernel_rfl)
    (of_decide_eq_true (by kernel_rfl)) (by unfold Func.isWrapper; first | (rw [if_pos (by decide +kernel)]; kernel_rfl) | (rw [if_neg (by decide +kernel)]; exact ⟨rfl, rfl⟩))
    (fun os started H enc _ => lifted_ReportJoins os started H enc)

set_option maxRecDepth 100000 in
theorem ReportJoinsCard_holds : Rows.ReportJoinsCardSaid :=
  Claim7.holds_tied_plain_at .later [] [.data, .pinned] true (true, "8967623d05b98aa0b75df74850bed7ff949f26226d864e3ed4869ef63c2a0ed4") false ReportJoins_holds (fun _ h => by cases h) (by kernel_rfl) (fun _ h => by cases h) reportJoins_row_tie rfl ⟨rfl, rfl⟩ (by kernel_rfl) rfl
    (fun f fn hf hfn => by
      obtain rfl : f = 5 := Option.some.inj ((show Tryd.prog.funcNamed "brougham/broughamlaw37.ReportJoins" = some 5 by kernel_rfl).symm.trans hf) |>.symm
      obtain rfl : fn = Tryd.f5 := (Option.some.inj (Tryd.func5.symm.trans hfn)).symm
      exact ⟨by kernel_rfl, fun j t ht => by
        have hm : t ∈ Tryd.f5.params.toList := by simpa using Array.mem_of_getElem? ht
        have hall : (Tryd.f5.params.toList.all fun u => !Tryd.prog.wantsStandIn u) = true := by kernel_rfl
        exact (show Tryd.prog.wantsStandIn t = false by simpa using List.all_eq_true.1 hall t hm)⟩)
    (by kernel_rfl)
#print axioms ReportJoinsCard_holds
end Go.Proofs.YtccmlfekmmeloaaDoor
