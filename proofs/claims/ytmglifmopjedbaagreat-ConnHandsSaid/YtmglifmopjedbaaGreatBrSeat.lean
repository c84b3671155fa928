/- The seat's program, and the facts on it that the core asks for. -/
import Derived.Test.YtmglifmopjedbaaGreatBrForm
import Derived.Test.YtmglifmopjedbaaGreatProg
namespace Go.Br
open Go Go.Proofs
noncomputable abbrev PG : Program:=Tryz.prog
def TB : Tab:=⟨284,[0,1,271]⟩
def fnGood (P : Program) (g : Nat) : Bool := match P.funcs[g]? with | some f => !(f.body.isNone) && !(f.name == "runtime.NumGoroutine") | none => false
theorem fns_ok : ((List.range 284).all fun g => !(fnOk TB g) || fnGood PG g) = true:=by kernel_rfl
theorem follows_ok : PG.follows .mixedOrders = true:=by kernel_rfl
theorem tabOk : TabOk PG TB:=by
 refine ⟨fun g hg => ?_,follows_ok⟩
 have hlt : g < 284:=by
  simp only [fnOk,Bool.and_eq_true] at hg
  exact Nat.le_of_ble_eq_true hg.1
 have h:=List.all_eq_true.1 fns_ok g (List.mem_range.2 hlt)
 rw [hg] at h
 simp only [Bool.not_true,Bool.false_or] at h
 unfold fnGood at h
 split at h
 ·rename_i f hf
  simp only [Bool.and_eq_true,Bool.not_eq_true'] at h
  exact ⟨f,hf,h.1,h.2⟩
 ·cases h
end Go.Br
