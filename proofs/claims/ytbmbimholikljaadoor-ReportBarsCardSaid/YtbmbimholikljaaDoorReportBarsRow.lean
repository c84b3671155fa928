/- ReportBars: for every input the law returns true, and each argument reads behind the call as it read before. Tables of Go's library are listed by the row; the law reads none. No other condition. -/
import Derived.Test.YtbmbimholikljaaDoorJRepDraw
import Derived.Test.YtbmbimholikljaaDoorDoor
import Derived.Test.YtbmbimholikljaaDoorRows
import Derived.Test.YtbmbimholikljaaDoorCards
import Derived.Test.YtbmbimholikljaaDoorTie
set_option linter.unusedVariables false
namespace Go.Proofs.YtbmbimholikljaaDoor
open Go Go.Br

theorem int_rd {W : World} {f : Nat} {es : List Value} (h : RdT PG W f 3 es) : ∃ x : Int, es = iv x ∧ True := by
  obtain ⟨x, e, _⟩ := rd_int (k := .i64) (by kernel_rfl) h
  exact ⟨x, e, trivial⟩
structure Rws where
  fr : Int
  width : Int
  many : Int
def rws (x : Rws) : List Value := [.int .i64 x.fr, .int .i64 x.width, .int .i64 x.many]
abbrev rwsv (x : Rws) : Value := .agg #[.int .i64 x.fr, .int .i64 x.width, .int .i64 x.many]
theorem rws_length (x : Rws) : (rws x).length = 3 := rfl
theorem rws_flat1 (x : Rws) : Flat (rws x) := by intro v hv; simp [rws] at hv; rcases hv with rfl | rfl | rfl <;> rfl
theorem rws_flat (L : List Rws) : Flat (L.flatMap rws) := by
  intro v hv
  simp only [List.mem_flatMap] at hv
  obtain ⟨x, _, hx⟩ := hv
  exact rws_flat1 x v hx
def rws_rd_wf (W : World) (x : Rws) : Prop := (-9223372036854775808 ≤ x.fr ∧ x.fr ≤ 9223372036854775807) ∧ (-9223372036854775808 ≤ x.width ∧ x.width ≤ 9223372036854775807) ∧ (-9223372036854775808 ≤ x.many ∧ x.many ≤ 9223372036854775807)
theorem rws_rd {W : World} {f : Nat} {es : List Value} (h : RdT PG W f 24 es) : ∃ x : Rws, es = rws x ∧ rws_rd_wf W x := by
  obtain ⟨c2, _, h3⟩ := rd_field (i := 0) (off := 0) (ft := 3) (z := 3) (z' := 1) (by kernel_rfl) (by kernel_rfl) (by kernel_rfl) h
  obtain ⟨c4, _, h5⟩ := rd_field (i := 1) (off := 1) (ft := 3) (z := 3) (z' := 1) (by kernel_rfl) (by kernel_rfl) (by kernel_rfl) h
  obtain ⟨c6, _, h7⟩ := rd_field (i := 2) (off := 2) (ft := 3) (z := 3) (z' := 1) (by kernel_rfl) (by kernel_rfl) (by kernel_rfl) h
  obtain ⟨xq8, eq8, wq8⟩ := rd_int (k := .i64) (by kernel_rfl) h3
  have vq8 : -9223372036854775808 ≤ xq8 ∧ xq8 ≤ 9223372036854775807 := by simp [Lit.wf, IntKind.min, IntKind.max, IntKind.signed, IntKind.bits] at wq8; omega
  obtain ⟨xq9, eq9, wq9⟩ := rd_int (k := .i64) (by kernel_rfl) h5
  have vq9 : -9223372036854775808 ≤ xq9 ∧ xq9 ≤ 9223372036854775807 := by simp [Lit.wf, IntKind.min, IntKind.max, IntKind.signed, IntKind.bits] at wq9; omega
  obtain ⟨xq10, eq10, wq10⟩ := rd_int (k := .i64) (by kernel_rfl) h7
  have vq10 : -9223372036854775808 ≤ xq10 ∧ xq10 ≤ 9223372036854775807 := by simp [Lit.wf, IntKind.min, IntKind.max, IntKind.signed, IntKind.bits] at wq10; omega
  match es, c2 with
  | [u0, u1, u2], _ =>
    simp at eq8 eq9 eq10
    subst eq8; subst eq9; subst eq10
    exact ⟨⟨xq8, xq9, xq10⟩, rfl, ⟨vq8, vq9, vq10⟩⟩
theorem walk_ReportBars (W : World) (args : List Value) (h : ArgsOk Tryd.prog W Tryd.f3.params.toList args) : CALL Tryd.prog 3 args W fun v W' => v = .bool true ∧ Kp [] W W' := by
  have h' : ArgsOk PG W [22, 24] args := h
  obtain ⟨v0, r0, rfl, h0, h'⟩ := h'.cons
  obtain ⟨v1, r1, rfl, h1, h'⟩ := h'.cons
  obtain rfl := h'.nil
  obtain ⟨f0, h0⟩ := h0.one (by kernel_rfl)
  obtain ⟨x, rfl, _⟩ := agg_rd rws_rd h1
  obtain ⟨A, l, c, rfl, _, _, hl, _⟩ := rows_rd (z := 1) (g := iv) (WF := fun _ _ => True) int_rd h0
  have hs := St.start (w := W) (φ := fun w => Row w A (l.flatMap iv)) fun w' hw => hl.same hw
  exact repbars_ok hs (RdIn.rows .head) fun W' k => ⟨rfl, k.kp⟩

set_option maxRecDepth 100000 in
theorem lifted_ReportBars (os : Os) (started : os.Started) (H : Type) (enc : TypeId × Value → H) :
    ReturnsInHanded {} Tryd.checked os 3 .any (fun w args => (Rows.reportBarsSpec.pre enc Tryd.prog Tryd.f3 Rows.reportBarsRow.domain false w args ∧ laidMetH Tryd.prog Rows.reportBarsRow.laid w) ∧ sizedMet enc Tryd.prog Tryd.f3 (OpenSpec.ofChange Rows.reportBarsSpec) false w args) (Rows.reportBarsSpec.post enc Tryd.prog Tryd.f3 false true false false) :=
  law_liftL (C := Tryd.checked) (bt := 4) (X := fun w _ => laidMetH Tryd.prog Rows.reportBarsRow.laid w) (fun _ _ _ hh h => h.of_heap hh) (by kernel_rfl) started (by kernel_rfl) Tryd.func3 (by kernel_rfl) (by kernel_rfl) (by kernel_rfl) (by kernel_rfl) rfl
    (ChangeSpec.witness_shaped (enc := enc) (C := Tryd.checked) (os := os) (X := fun w _ => laidMetH Tryd.prog Rows.reportBarsRow.laid w) false (World.laidAll Tryd.prog os Rows.reportBarsRow.laid) #[.slice none 0 0, .agg #[.int .i64 0, .int .i64 0, .int .i64 0]] 8 (World.laidAll_os _ _ _)
      (World.shaped_of_ZipB (by kernel_rfl) (by kernel_rfl)) (by kernel_rfl) (by kernel_rfl) (by kernel_rfl)
      (by rw [MakeChecks.laidMetH_plain _ _ _ (by kernel_rfl)]; exact laidMet_laidAll _ (by kernel_rfl) (by kernel_rfl)))
    (fun ds hd => by
      match ds, hd with
      | [d0, d1], _ => rfl)
    walk_ReportBars

set_option maxRecDepth 100000 in
theorem ReportBars_holds : Rows.ReportBarsSaid :=
  OpenClaim.holds_of_wide 3 Tryd.f3 rfl rfl rfl rfl rfl rfl rfl ⟨rfl, rfl, rfl, rfl, rfl⟩ rfl rfl rfl rfl rfl (by kernel_rfl) Tryd.func3 (by kernel_rfl)
    (of_decide_eq_true (by kernel_rfl)) (by unfold Func.isWrapper; first | (rw [if_pos (by decide +kernel)]; kernel_rfl) | (rw [if_neg (by decide +kernel)]; exact ⟨rfl, rfl⟩))
    (fun os started H enc _ => lifted_ReportBars os started H enc)

set_option maxRecDepth 100000 in
theorem ReportBarsCard_holds : Rows.ReportBarsCardSaid :=
  Claim7.holds_tied_plain_at .later [] [.data, .pinned] true (true, "adcbbdc003efd063a9a809b803c37d47192a50c792fa6d7e4cf1b4191be777a5") false ReportBars_holds (fun _ h => by cases h) (by kernel_rfl) (fun _ h => by cases h) reportBars_row_tie rfl ⟨rfl, rfl⟩ (by kernel_rfl) rfl
    (fun f fn hf hfn => by
      obtain rfl : f = 3 := Option.some.inj ((show Tryd.prog.funcNamed "brougham/broughamlaw37.ReportBars" = some 3 by kernel_rfl).symm.trans hf) |>.symm
      obtain rfl : fn = Tryd.f3 := (Option.some.inj (Tryd.func3.symm.trans hfn)).symm
      exact ⟨by kernel_rfl, fun j t ht => by
        have hm : t ∈ Tryd.f3.params.toList := by simpa using Array.mem_of_getElem? ht
        have hall : (Tryd.f3.params.toList.all fun u => !Tryd.prog.wantsStandIn u) = true := by kernel_rfl
        exact (show Tryd.prog.wantsStandIn t = false by simpa using List.all_eq_true.1 hall t hm)⟩)
    (by kernel_rfl)
#print axioms ReportBarsCard_holds
end Go.Proofs.YtbmbimholikljaaDoor
