/- Within and Head. The walk of Within is print.sh's. -/
import Derived.Test.YtjebpaapkmbahaaArBase
import Derived.Test.YtjebpaapkmbahaaPArenaPlaysx2
namespace Go.Proofs.Ytjebpaapkmbahaa.Ar
open Go.RowKit Go.Proofs.Ytjebpaapkmbahaa.PArenaPlays Go.Proofs.YtjebpaapkmbahaaW.PrintWords Go.Proofs.YtjebpaapkmbahaaW.PrintLast
set_option linter.unusedVariables false
set_option linter.unusedSimpArgs false
def arbourbook_Within.f (a0 : Int) (a1 : Int) (a2 : Int) : Option (Int) := if (wrap64 ((wrap64 (a2 - a1)) + 1)) = 0 then (none) else (if (Int.tmod a0 (wrap64 ((wrap64 (a2 - a1)) + 1))) < 0 then (some (wrap64 (a1 + (wrap64 ((wrap64 ((wrap64 ((Int.tmod a0 (wrap64 ((wrap64 (a2 - a1)) + 1))) + a2)) - a1)) + 1))))) else (some (wrap64 (a1 + (Int.tmod a0 (wrap64 ((wrap64 (a2 - a1)) + 1)))))))
set_option maxHeartbeats 8000000 in
set_option maxRecDepth 100000 in
theorem arbourbook_Within.calls (a0 : Int) (a1 : Int) (a2 : Int) (r : Int) (w : World) (h : arbourbook_Within.f a0 a1 a2 = some r) :
    Calls Try.prog 14 #[.int .i64 a0, .int .i64 a1, .int .i64 a2] w fun e w' => e = .returned (.int .i64 r) ∧ Drawn0 w w' := by
  have H : (if (wrap64 ((wrap64 (a2 - a1)) + 1)) = 0 then (none) else (if (Int.tmod a0 (wrap64 ((wrap64 (a2 - a1)) + 1))) < 0 then (some (wrap64 (a1 + (wrap64 ((wrap64 ((wrap64 ((Int.tmod a0 (wrap64 ((wrap64 (a2 - a1)) + 1))) + a2)) - a1)) + 1))))) else (some (wrap64 (a1 + (Int.tmod a0 (wrap64 ((wrap64 (a2 - a1)) + 1)))))))) = some r := h
  clear h
  by_cases c4 : (wrap64 ((wrap64 (a2 - a1)) + 1)) = 0
  · rw [if_pos c4] at H
    exact absurd H (by simp)
  · rw [if_neg c4] at H
    have c4b0 : ((wrap64 ((wrap64 (a2 - a1)) + 1)) == 0) = false := beq_eq_false_iff_ne.mpr c4
    have c4b1 : ((wrap64 ((wrap64 (a2 - a1)) + 1)) != 0) = true := bne_iff_ne.mpr c4
    by_cases c5 : (Int.tmod a0 (wrap64 ((wrap64 (a2 - a1)) + 1))) < 0
    · rw [if_pos c5] at H
      have c5b0 : decide ((Int.tmod a0 (wrap64 ((wrap64 (a2 - a1)) + 1))) < 0) = true := decide_eq_true c5
      clear c5
      obtain rfl := Option.some.inj H
      go_enter Try.func14, Try.ntmps14
      go_wp2
      go_ret
      exact ⟨by first | rfl | (simp; done) | (simp [*]; done), by repeat (first | exact Drawn0.refl _ | apply Drawn0.step)⟩
    · rw [if_neg c5] at H
      have c5b0 : decide ((Int.tmod a0 (wrap64 ((wrap64 (a2 - a1)) + 1))) < 0) = false := decide_eq_false c5
      clear c5
      obtain rfl := Option.some.inj H
      go_enter Try.func14, Try.ntmps14
      go_wp2
      go_ret
      exact ⟨by first | rfl | (simp; done) | (simp [*]; done), by repeat (first | exact Drawn0.refl _ | apply Drawn0.step)⟩
theorem within0 (a : Int) (m : Nat) (h2 : m ≤ 2000000) : ∃ t : Int, 0 ≤ t ∧ t ≤ m ∧ arbourbook_Within.f a 0 m = some t := by
  have e1 : wrap64 (wrap64 ((m : Int) - 0) + 1) = m + 1 := by rw [IntWalk.wrap64_in _ (by rw [IntWalk.wrap64_in _ (by omega)]; omega), IntWalk.wrap64_in _ (by omega)]; omega
  have t1 := Int.tmod_lt_of_pos a (show (0 : Int) < (m : Int) + 1 by omega)
  have t2 := Int.lt_tmod_of_pos a (show (0 : Int) < (m : Int) + 1 by omega)
  unfold arbourbook_Within.f
  rw [e1, if_neg (by omega)]
  by_cases h : Int.tmod a ((m : Int) + 1) < 0
  · rw [if_pos h]
    refine ⟨_, ?_, ?_, rfl⟩ <;> (rw [IntWalk.wrap64_in (Int.tmod a ((m : Int) + 1) + m) (by omega), IntWalk.wrap64_in (Int.tmod a ((m : Int) + 1) + m - 0) (by omega), IntWalk.wrap64_in (Int.tmod a ((m : Int) + 1) + m - 0 + 1) (by omega), IntWalk.wrap64_in _ (by omega)]; omega)
  · rw [if_neg h]
    refine ⟨_, ?_, ?_, rfl⟩ <;> (rw [IntWalk.wrap64_in _ (by omega)]; omega)
theorem within (a : Int) (m : Nat) (h : m ≤ 2000000) {z : Int} (hz : (m : Int) = z) : ∃ u : Nat, u ≤ m ∧ ∀ w : World, Calls Try.prog 14 #[.int .i64 a, .int .i64 0, .int .i64 z] w fun e w' => e = .returned (.int .i64 (u : Int)) ∧ Drawn0 w w' := by
  subst hz
  obtain ⟨t, h1, h2, h3⟩ := within0 a m h
  refine ⟨t.toNat, by omega, fun w => ?_⟩
  rw [Int.toNat_of_nonneg h1]
  exact arbourbook_Within.calls a 0 m t w h3
theorem head_any (s : ByteArray) (n : Nat) : ∃ r, arbourkeep_Head.f s n = some r ∧ r.size ≤ n ∧ ∀ b ∈ r.data.toList, b ∈ s.data.toList := by
  unfold arbourkeep_Head.f
  by_cases h1 : (n : Int) < (s.size : Int)
  · rw [if_pos h1, if_pos (by omega), if_pos (by omega)]
    refine ⟨_, rfl, by simp [ByteArray.size_extract]; omega, fun b hb => ?_⟩
    rw [ByteArray.data_extract] at hb
    rw [Array.toList_extract] at hb
    exact List.mem_of_mem_drop (List.mem_of_mem_take hb)
  · rw [if_neg h1]; exact ⟨_, rfl, by omega, fun b hb => hb⟩
def headL (a : ByteArray) : ByteArray := (arbourkeep_Head.f a 9).getD ByteArray.empty
theorem head_some (s : ByteArray) : arbourkeep_Head.f s 9 = some (headL s) ∧ (headL s).size ≤ 9 ∧ ∀ b ∈ (headL s).data.toList, b ∈ s.data.toList := by
  obtain ⟨r, h, h2, h3⟩ := head_any s 9
  have e : headL s = r := by unfold headL; rw [show (9 : Int) = ((9 : Nat) : Int) from rfl, h]; rfl
  rw [e]
  exact ⟨h, h2, h3⟩
theorem head (a : ByteArray) (w : World) : Calls Try.prog 15 #[.string a, .int .i64 9] w fun e w' => e = .returned (.string (headL a)) ∧ Drawn0 w w' := arbourkeep_Head.calls a 9 (headL a) w (head_some a).1
end Go.Proofs.Ytjebpaapkmbahaa.Ar
