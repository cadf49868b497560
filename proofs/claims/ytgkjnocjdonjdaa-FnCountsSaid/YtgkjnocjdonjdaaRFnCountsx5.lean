-- Written by a program of this session out of the loaded functions' print; helper lemmas as print.sh lays them.
import Derived.Test.YtgkjnocjdonjdaaRFnCountsx0
namespace Go.Proofs.Ytgkjnocjdonjdaa.PFnCounts
open Go.RowKit Go.Proofs.YtgkjnocjdonjdaaW.PrintWords Go.Proofs.YtgkjnocjdonjdaaW.PrintLast Go.Proofs.YtgkjnocjdonjdaaW.PrintMore
attribute [local go_sem] max2_int min2_int max_two min_two max_three min_three max_four min_four  -- for this text's walks alone
set_option linter.unusedVariables false
set_option linter.unusedSimpArgs false

/-! ### impl_AddRay_1: function 33 -/
def impl_AddRay_1.f (a0 : Int) (a1 : Int) (a2 : Int) (a3 : Int) : Option (Bool) := some (decide (0 ≤ a0) && (decide (a0 < a2) && (decide (0 ≤ a1) && decide (a1 < a3))))
set_option maxHeartbeats 8000000 in
set_option maxRecDepth 100000 in
theorem impl_AddRay_1.calls (a0 : Int) (a1 : Int) (a2 : Int) (a3 : Int) (r : Bool) (gc gh : Nat) (w : World) (hc : w.cell? ⟨gc, 0, none⟩ = some (.int .i64 a2)) (hh : w.cell? ⟨gh, 0, none⟩ = some (.int .i64 a3)) (h : impl_AddRay_1.f a0 a1 a2 a3 = some r) :
  Calls Try.prog 33 #[.int .i64 a0, .int .i64 a1, .pointer (some ⟨gc, 0, none⟩), .pointer (some ⟨gh, 0, none⟩)] w fun e w' => e = .returned (.bool r) ∧ Below w.heap.size w w' := by
 have hu := Try.underlying31
 have h1 := Option.some.inj h
 clear h
 by_cases c0 : 0 ≤ a0
 ·by_cases c1 : a0 < a2
  ·by_cases c2 : 0 ≤ a1
   ·by_cases c3 : a1 < a3
    ·obtain rfl : r = true := by rw [← h1]; simp; omega
     clear h1
     go_enter Try.func33, Try.ntmps33
     go_wp2
     go_ret
     exact ⟨rfl, Below.refl _ _⟩
    ·obtain rfl : r = false := by rw [← h1]; simp; omega
     clear h1
     go_enter Try.func33, Try.ntmps33
     go_wp2
     go_ret
     exact ⟨rfl, Below.refl _ _⟩
   ·obtain rfl : r = false := by rw [← h1]; simp; omega
    clear h1
    go_enter Try.func33, Try.ntmps33
    go_wp2
    go_ret
    exact ⟨rfl, Below.refl _ _⟩
  ·obtain rfl : r = false := by rw [← h1]; simp; omega
   clear h1
   go_enter Try.func33, Try.ntmps33
   go_wp2
   go_ret
   exact ⟨rfl, Below.refl _ _⟩
 ·obtain rfl : r = false := by rw [← h1]; simp; omega
  clear h1
  go_enter Try.func33, Try.ntmps33
  go_wp2
  go_ret
  exact ⟨rfl, Below.refl _ _⟩

end Go.Proofs.Ytgkjnocjdonjdaa.PFnCounts
