/- arbourbook.Within between 0 and a small number. -/
import Derived.Test.YtgjnopabdipleaaAttrsFind
namespace Go.Proofs.Ytgjnopabdipleaa.Attrs
open Go.RowKit Go.Proofs.Ytgjnopabdipleaa.PAttrsTells Go.Proofs.YtgjnopabdipleaaW.PrintWords Go.Proofs.YtgjnopabdipleaaW.PrintLast

set_option maxHeartbeats 1000000 in
set_option maxRecDepth 100000 in
theorem within (a b : Int) (w : World) (h0 : 0 ≤ b) (h1 : b ≤ 1000) :
    Calls Try.prog 13 #[.int .i64 a, .int .i64 0, .int .i64 b] w fun e w' => ∃ r : Int, 0 ≤ r ∧ r ≤ b ∧ e = .returned (.int .i64 r) ∧ Below w.heap.size w w' := by
  have hb1 : b + 1 ≠ 0 := by omega
  have hb2 : ¬ (b + 1 = 0) := hb1
  have hm1 : Int.tmod a (b + 1) < b + 1 := Int.tmod_lt_of_pos a (by omega)
  have hm2 : -(b + 1) < Int.tmod a (b + 1) := by have := Int.lt_tmod_of_pos a (show 0 < b + 1 by omega); omega
  have hb3 : b + 1 ≠ -1 := by omega
  go_enter Try.func13, Try.ntmps13
  go_wp2_with fail
  all_goals (go_ret; exact ⟨_, by omega, by omega, rfl, Below.refl _ _⟩)
end Go.Proofs.Ytgjnopabdipleaa.Attrs
