/- ReportTables: for every input the law returns true, and each argument reads behind the call as it read before. Two tables of Go's library are listed by the row; the law reads neither. No other condition. -/
import Derived.Test.YtccmlfekmmeloaaDoorRepLaw
import Derived.Test.YtccmlfekmmeloaaDoorDoor
import Derived.Test.YtccmlfekmmeloaaDoorRows
import Derived.Test.YtccmlfekmmeloaaDoorCards
import Derived.Test.YtccmlfekmmeloaaDoorTie
set_option linter.unusedVariables false
namespace Go.Proofs.YtccmlfekmmeloaaDoor
open Go Go.Br

theorem str_rd {W : World} {f : Nat} {es : List Value} (h : RdT PG W f 9 es) : ∃ x : ByteArray, es = tv x ∧ True := by
  obtain ⟨x, e, _⟩ := rd_string (by kernel_rfl) h
  exact ⟨x, e, trivial⟩
theorem rw_rd {W : World} {f : Nat} {es : List Value} (h : RdT PG W f 34 es) : ∃ x : Rw, es = rwv x ∧ Row W x.A (x.ss.flatMap tv) := by
  obtain ⟨_, A, n, c, e, _⟩ := rd_slice (e := 9) (z := 1) (by kernel_rfl) (by kernel_rfl) h
  subst e
  obtain ⟨A', l, c', e, _, _, hl, _⟩ := rows_rd (z := 1) (g := tv) (WF := fun _ _ => True) str_rd h
  exact ⟨⟨A', l, c'⟩, by rw [e]; rfl, hl⟩
theorem walk_ReportTables (W : World) (args : List Value) (h : ArgsOk Tryd.prog W Tryd.f4.params.toList args) : CALL Tryd.prog 4 args W fun v W' => v = .bool true ∧ Kp [] W W' := by
  have h' : ArgsOk PG W [33] args := h
  obtain ⟨v0, r0, rfl, h0, h'⟩ := h'.cons
  obtain rfl := h'.nil
  obtain ⟨f0, h0⟩ := h0.one (by kernel_rfl)
  obtain ⟨A, l, c, rfl, _, _, hl, hx⟩ := rows_rd (z := 1) (g := rwv) (WF := fun W x => Row W x.A (x.ss.flatMap tv)) rw_rd h0
  have hs := St.start (w := W) (φ := fun w => Row w A (l.flatMap rwv) ∧ ∀ x ∈ l, Row w x.A (x.ss.flatMap tv)) fun w' hw => ⟨hl.same hw, fun x h => (hx x h).same hw⟩
  exact tables_ok hs (fun c w h => (h.ro .head).1) (fun x hm c w h => (h.ro .head).2 x hm) fun W' k => ⟨rfl, k.kp⟩

set_option maxRecDepth 100000 in
theorem lifted_ReportTables (os : Os) (started : os.Started) (H : Type) (enc : TypeId × Value → H) :
    ReturnsInHanded {} Tryd.checked os 4 .any (fun w args => (Rows.reportTablesSpec.pre enc Tryd.prog Tryd.f4 Rows.reportTablesRow.domain false w args ∧ laidMetH Tryd.prog Rows.reportTablesRow.laid w) ∧ sizedMet enc Tryd.prog Tryd.f4 (OpenSpec.ofChange Rows.reportTablesSpec) false w args) (Rows.reportTablesSpec.post enc Tryd.prog Tryd.f4 false true false false) :=
  law_liftL (C := Tryd.checked) (bt := 4) (X := fun w _ => laidMetH Tryd.prog Rows.reportTablesRow.laid w) (fun _ _ _ hh h => h.of_heap hh) (by kernel_rfl) started (by kernel_rfl) Tryd.func4 (by kernel_rfl) (by kernel_rfl) (by kernel_rfl) (by kernel_rfl) rfl
    (ChangeSpec.witness_shaped (enc := enc) (C := Tryd.checked) (os := os) (X := fun w _ => laidMetH Tryd.prog Rows.reportTablesRow.laid w) false (World.laidAll Tryd.prog os Rows.reportTablesRow.laid) #[.slice none 0 0] 8 (World.laidAll_os _ _ _)
      (World.shaped_of_ZipB (by kernel_rfl) (by kernel_rfl)) (by kernel_rfl) (by kernel_rfl) (by kernel_rfl)
      (by rw [MakeChecks.laidMetH_plain _ _ _ (by kernel_rfl)]; exact laidMet_laidAll _ (by kernel_rfl) (by kernel_rfl)))
    (fun ds hd => by
      match ds, hd with
      | [d0], _ => rfl)
    walk_ReportTables

set_option maxRecDepth 100000 in
theorem ReportTables_holds : Rows.ReportTablesSaid :=
  OpenClaim.holds_of_wide 4 Tryd.f4 rfl rfl rfl rfl rfl rfl rfl ⟨rfl, rfl, rfl, rfl, rfl⟩ rfl rfl rfl rfl rfl (by kernel_rfl) Tryd.func4 (by kernel_rfl)
    (of_decide_eq_true (by kernel_rfl)) (by unfold Func.isWrapper; first | (rw [if_pos (by decide +kernel)]; kernel_rfl) | (rw [if_neg (by decide +kernel)]; exact ⟨rfl, rfl⟩))
    (fun os started H enc _ => lifted_ReportTables os started H enc)

set_option maxRecDepth 100000 in
theorem ReportTablesCard_holds : Rows.ReportTablesCardSaid :=
  Claim7.holds_tied_plain_at .later [] [.data, .pinned] true (true, "8967623d05b98aa0b75df74850bed7ff949f26226d864e3ed4869ef63c2a0ed4") false ReportTables_holds (fun _ h => by cases h) (by kernel_rfl) (fun _ h => by cases h) reportTables_row_tie rfl ⟨rfl, rfl⟩ (by kernel_rfl) rfl
    (fun f fn hf hfn => by
      obtain rfl : f = 4 := Option.some.inj ((show Tryd.prog.funcNamed "brougham/broughamlaw37.ReportTables" = some 4 by kernel_rfl).symm.trans hf) |>.symm
      obtain rfl : fn = Tryd.f4 := (Option.some.inj (Tryd.func4.symm.trans hfn)).symm
      exact ⟨by kernel_rfl, fun j t ht => by
        have hm : t ∈ Tryd.f4.params.toList := by simpa using Array.mem_of_getElem? ht
        have hall : (Tryd.f4.params.toList.all fun u => !Tryd.prog.wantsStandIn u) = true := by kernel_rfl
        exact (show Tryd.prog.wantsStandIn t = false by simpa using List.all_eq_true.1 hall t hm)⟩)
    (by kernel_rfl)
#print axioms ReportTablesCard_holds
end Go.Proofs.YtccmlfekmmeloaaDoor
