-- PRINTED BY print.sh 35421559b90ae4d0a3588c463048766b98c2df88dd9212a6774a882060cdf62d: not written by this session
import Derived.Test.YtcjbfhnhkohbbaaPNamesTellsx0
import Derived.Test.YtcjbfhnhkohbbaaPNamesTellsx1
namespace Go.Proofs.Ytcjbfhnhkohbbaa.PNamesTells
open Go.RowKit Go.Proofs.YtcjbfhnhkohbbaaW.PrintWords Go.Proofs.YtcjbfhnhkohbbaaW.PrintLast Go.Proofs.YtcjbfhnhkohbbaaW.PrintMore
attribute [local go_sem] max2_int min2_int max_two min_two max_three min_three max_four min_four   -- for this text's walks alone
set_option linter.unusedVariables false
set_option linter.unusedSimpArgs false

/-! ### names_Special: function 14 -/
def names_Special.j0 : Nat → ByteArray → Bool → Option (Bool)
  | 0, _, _ => none
  | k + 1, x1, x11 => if x11 = true then (some true) else ((names_Block.f x1).bind fun t107 => (if t107 = true then (some true) else ((names_Heading.f x1).bind fun t108 => (if t108 = true then (some true) else ((names_Void.f x1).bind fun t109 => (some t109))))))
def names_Special.f (k : Nat) (a0 : Int) (a1 : ByteArray) : Option (Bool) := if a0 = 1 then (if a1.toList = ([97, 112, 112, 108, 101, 116] : List UInt8) then (names_Special.j0 k a1 (a1.toList == ([97, 112, 112, 108, 101, 116] : List UInt8))) else (if a1.toList = ([98, 111, 100, 121] : List UInt8) then (names_Special.j0 k a1 (a1.toList == ([98, 111, 100, 121] : List UInt8))) else (if a1.toList = ([98, 117, 116, 116, 111, 110] : List UInt8) then (names_Special.j0 k a1 (a1.toList == ([98, 117, 116, 116, 111, 110] : List UInt8))) else (if a1.toList = ([100, 100] : List UInt8) then (names_Special.j0 k a1 (a1.toList == ([100, 100] : List UInt8))) else (if a1.toList = ([100, 116] : List UInt8) then (names_Special.j0 k a1 (a1.toList == ([100, 116] : List UInt8))) else (if a1.toList = ([102, 111, 114, 109] : List UInt8) then (names_Special.j0 k a1 (a1.toList == ([102, 111, 114, 109] : List UInt8))) else (if a1.toList = ([104, 101, 97, 100] : List UInt8) then (names_Special.j0 k a1 (a1.toList == ([104, 101, 97, 100] : List UInt8))) else (if a1.toList = ([104, 116, 109, 108] : List UInt8) then (names_Special.j0 k a1 (a1.toList == ([104, 116, 109, 108] : List UInt8))) else (if a1.toList = ([108, 105] : List UInt8) then (names_Special.j0 k a1 (a1.toList == ([108, 105] : List UInt8))) else (if a1.toList = ([109, 97, 114, 113, 117, 101, 101] : List UInt8) then (names_Special.j0 k a1 (a1.toList == ([109, 97, 114, 113, 117, 101, 101] : List UInt8))) else (if a1.toList = ([111, 98, 106, 101, 99, 116] : List UInt8) then (names_Special.j0 k a1 (a1.toList == ([111, 98, 106, 101, 99, 116] : List UInt8))) else (if a1.toList = ([112] : List UInt8) then (names_Special.j0 k a1 (a1.toList == ([112] : List UInt8))) else (if a1.toList = ([112, 108, 97, 105, 110, 116, 101, 120, 116] : List UInt8) then (names_Special.j0 k a1 (a1.toList == ([112, 108, 97, 105, 110, 116, 101, 120, 116] : List UInt8))) else (if a1.toList = ([112, 114, 101] : List UInt8) then (names_Special.j0 k a1 (a1.toList == ([112, 114, 101] : List UInt8))) else (if a1.toList = ([115, 99, 114, 105, 112, 116] : List UInt8) then (names_Special.j0 k a1 (a1.toList == ([115, 99, 114, 105, 112, 116] : List UInt8))) else (if a1.toList = ([115, 116, 121, 108, 101] : List UInt8) then (names_Special.j0 k a1 (a1.toList == ([115, 116, 121, 108, 101] : List UInt8))) else (if a1.toList = ([116, 97, 98, 108, 101] : List UInt8) then (names_Special.j0 k a1 (a1.toList == ([116, 97, 98, 108, 101] : List UInt8))) else (if a1.toList = ([116, 98, 111, 100, 121] : List UInt8) then (names_Special.j0 k a1 (a1.toList == ([116, 98, 111, 100, 121] : List UInt8))) else (if a1.toList = ([116, 100] : List UInt8) then (names_Special.j0 k a1 (a1.toList == ([116, 100] : List UInt8))) else (if a1.toList = ([116, 101, 109, 112, 108, 97, 116, 101] : List UInt8) then (names_Special.j0 k a1 (a1.toList == ([116, 101, 109, 112, 108, 97, 116, 101] : List UInt8))) else (if a1.toList = ([116, 101, 120, 116, 97, 114, 101, 97] : List UInt8) then (names_Special.j0 k a1 (a1.toList == ([116, 101, 120, 116, 97, 114, 101, 97] : List UInt8))) else (if a1.toList = ([116, 102, 111, 111, 116] : List UInt8) then (names_Special.j0 k a1 (a1.toList == ([116, 102, 111, 111, 116] : List UInt8))) else (if a1.toList = ([116, 104] : List UInt8) then (names_Special.j0 k a1 (a1.toList == ([116, 104] : List UInt8))) else (if a1.toList = ([116, 104, 101, 97, 100] : List UInt8) then (names_Special.j0 k a1 (a1.toList == ([116, 104, 101, 97, 100] : List UInt8))) else (if a1.toList = ([116, 105, 116, 108, 101] : List UInt8) then (names_Special.j0 k a1 (a1.toList == ([116, 105, 116, 108, 101] : List UInt8))) else (if a1.toList = ([116, 114] : List UInt8) then (names_Special.j0 k a1 (a1.toList == ([116, 114] : List UInt8))) else (names_Special.j0 k a1 (a1.toList == ([120, 109, 112] : List UInt8))))))))))))))))))))))))))))) else ((names_Point.f a0 a1).bind fun t106 => (some t106))
theorem names_Special.mono_l : ∀ k, (∀ y0 y1, LeO (names_Special.j0 k y0 y1) (names_Special.j0 (k + 1) y0 y1))
  | 0 => fun _ _ r h => by simp [names_Special.j0] at h
  | k + 1 => by
    have ih0 := names_Special.mono_l k
    · intro y0 y1
      unfold names_Special.j0
      repeat' first
      | (with_reducible exact ih0 _ _)
      | (with_reducible exact LeO.refl _)
      | (with_reducible exact LeO.none _)
      | (with_reducible refine LeO.ite ?_ ?_)
      | (with_reducible refine LeO.bind ?_ (fun _ => ?_))
      | exact ih0 _ _
      | exact LeO.none _
      | refine LeO.ite ?_ ?_
      | refine LeO.bind ?_ (fun _ => ?_)
theorem names_Special.mono : ∀ a0 a1 k, LeO (names_Special.f k a0 a1) (names_Special.f (k + 1) a0 a1) := by
  intro a0 a1 k
  have ih0 := names_Special.mono_l k
  unfold names_Special.f
  repeat' first
      | (with_reducible exact ih0 _ _)
      | (with_reducible exact LeO.refl _)
      | (with_reducible exact LeO.none _)
      | (with_reducible refine LeO.ite ?_ ?_)
      | (with_reducible refine LeO.bind ?_ (fun _ => ?_))
      | exact ih0 _ _
      | exact LeO.none _
      | refine LeO.ite ?_ ?_
      | refine LeO.bind ?_ (fun _ => ?_)
set_option maxHeartbeats 8000000 in
set_option maxRecDepth 100000 in
theorem names_Special.calls (k : Nat) (a0 : Int) (a1 : ByteArray) (r : Bool) (w : World) (h : names_Special.f k a0 a1 = some r) :
    Calls Try.prog 14 #[.int .i64 a0, .string a1] w fun e w' => e = .returned (.bool r) ∧ Drawn0 w w' := by
  have H : (if a0 = 1 then (if a1.toList = ([97, 112, 112, 108, 101, 116] : List UInt8) then (names_Special.j0 k a1 (a1.toList == ([97, 112, 112, 108, 101, 116] : List UInt8))) else (if a1.toList = ([98, 111, 100, 121] : List UInt8) then (names_Special.j0 k a1 (a1.toList == ([98, 111, 100, 121] : List UInt8))) else (if a1.toList = ([98, 117, 116, 116, 111, 110] : List UInt8) then (names_Special.j0 k a1 (a1.toList == ([98, 117, 116, 116, 111, 110] : List UInt8))) else (if a1.toList = ([100, 100] : List UInt8) then (names_Special.j0 k a1 (a1.toList == ([100, 100] : List UInt8))) else (if a1.toList = ([100, 116] : List UInt8) then (names_Special.j0 k a1 (a1.toList == ([100, 116] : List UInt8))) else (if a1.toList = ([102, 111, 114, 109] : List UInt8) then (names_Special.j0 k a1 (a1.toList == ([102, 111, 114, 109] : List UInt8))) else (if a1.toList = ([104, 101, 97, 100] : List UInt8) then (names_Special.j0 k a1 (a1.toList == ([104, 101, 97, 100] : List UInt8))) else (if a1.toList = ([104, 116, 109, 108] : List UInt8) then (names_Special.j0 k a1 (a1.toList == ([104, 116, 109, 108] : List UInt8))) else (if a1.toList = ([108, 105] : List UInt8) then (names_Special.j0 k a1 (a1.toList == ([108, 105] : List UInt8))) else (if a1.toList = ([109, 97, 114, 113, 117, 101, 101] : List UInt8) then (names_Special.j0 k a1 (a1.toList == ([109, 97, 114, 113, 117, 101, 101] : List UInt8))) else (if a1.toList = ([111, 98, 106, 101, 99, 116] : List UInt8) then (names_Special.j0 k a1 (a1.toList == ([111, 98, 106, 101, 99, 116] : List UInt8))) else (if a1.toList = ([112] : List UInt8) then (names_Special.j0 k a1 (a1.toList == ([112] : List UInt8))) else (if a1.toList = ([112, 108, 97, 105, 110, 116, 101, 120, 116] : List UInt8) then (names_Special.j0 k a1 (a1.toList == ([112, 108, 97, 105, 110, 116, 101, 120, 116] : List UInt8))) else (if a1.toList = ([112, 114, 101] : List UInt8) then (names_Special.j0 k a1 (a1.toList == ([112, 114, 101] : List UInt8))) else (if a1.toList = ([115, 99, 114, 105, 112, 116] : List UInt8) then (names_Special.j0 k a1 (a1.toList == ([115, 99, 114, 105, 112, 116] : List UInt8))) else (if a1.toList = ([115, 116, 121, 108, 101] : List UInt8) then (names_Special.j0 k a1 (a1.toList == ([115, 116, 121, 108, 101] : List UInt8))) else (if a1.toList = ([116, 97, 98, 108, 101] : List UInt8) then (names_Special.j0 k a1 (a1.toList == ([116, 97, 98, 108, 101] : List UInt8))) else (if a1.toList = ([116, 98, 111, 100, 121] : List UInt8) then (names_Special.j0 k a1 (a1.toList == ([116, 98, 111, 100, 121] : List UInt8))) else (if a1.toList = ([116, 100] : List UInt8) then (names_Special.j0 k a1 (a1.toList == ([116, 100] : List UInt8))) else (if a1.toList = ([116, 101, 109, 112, 108, 97, 116, 101] : List UInt8) then (names_Special.j0 k a1 (a1.toList == ([116, 101, 109, 112, 108, 97, 116, 101] : List UInt8))) else (if a1.toList = ([116, 101, 120, 116, 97, 114, 101, 97] : List UInt8) then (names_Special.j0 k a1 (a1.toList == ([116, 101, 120, 116, 97, 114, 101, 97] : List UInt8))) else (if a1.toList = ([116, 102, 111, 111, 116] : List UInt8) then (names_Special.j0 k a1 (a1.toList == ([116, 102, 111, 111, 116] : List UInt8))) else (if a1.toList = ([116, 104] : List UInt8) then (names_Special.j0 k a1 (a1.toList == ([116, 104] : List UInt8))) else (if a1.toList = ([116, 104, 101, 97, 100] : List UInt8) then (names_Special.j0 k a1 (a1.toList == ([116, 104, 101, 97, 100] : List UInt8))) else (if a1.toList = ([116, 105, 116, 108, 101] : List UInt8) then (names_Special.j0 k a1 (a1.toList == ([116, 105, 116, 108, 101] : List UInt8))) else (if a1.toList = ([116, 114] : List UInt8) then (names_Special.j0 k a1 (a1.toList == ([116, 114] : List UInt8))) else (names_Special.j0 k a1 (a1.toList == ([120, 109, 112] : List UInt8))))))))))))))))))))))))))))) else ((names_Point.f a0 a1).bind fun t106 => (some t106))) = some r := h
  clear h
  by_cases c3 : a0 = 1
  · rw [if_pos c3] at H
    have c3b0 : (a0 == 1) = true := beq_iff_eq.mpr c3
    have c3b1 : (a0 != 1) = false := bne_eq_false_iff_eq.mpr c3
    clear c3
    have HC4 := Aside0.mk H
    clear H
    go_enter Try.func14, Try.ntmps14
    go_upto_if 11 with (fail)
    go_cut [11] (fun v11 wc => ∃ (kq : Nat) (x11_3 : Bool), v11 = .bool x11_3 ∧ Aside0 (names_Special.j0 kq a1 x11_3 = some r) ∧ Aside0 (kq ≤ k) ∧ Drawn0 w wc)
    case first =>
      have H := HC4.out
      clear HC4
      by_cases c5 : a1.toList = ([97, 112, 112, 108, 101, 116] : List UInt8)
      · rw [if_pos c5] at H
        have c5b0 : (a1.toList == ([97, 112, 112, 108, 101, 116] : List UInt8)) = true := beq_iff_eq.mpr c5
        have c5b1 : (a1.toList != ([97, 112, 112, 108, 101, 116] : List UInt8)) = false := bne_eq_false_iff_eq.mpr c5
        clear c5
        (first | rw [c5b0] | (simp only [i64_w, i32_w]; rw [c5b0]) | skip)
        have H' := Aside0.mk H
        clear H
        go_wp2
        go_meet
        case rel => exact ⟨_, ((a1.toList == ([97, 112, 112, 108, 101, 116] : List UInt8))), (by first | rfl | (simp; done) | (simp [*]; done)), H', ⟨by first | omega | exact Nat.le_refl _⟩, by repeat (first | exact Drawn0.refl _ | apply Drawn0.step)⟩
      · rw [if_neg c5] at H
        have c5b0 : (a1.toList == ([97, 112, 112, 108, 101, 116] : List UInt8)) = false := beq_eq_false_iff_ne.mpr c5
        have c5b1 : (a1.toList != ([97, 112, 112, 108, 101, 116] : List UInt8)) = true := bne_iff_ne.mpr c5
        (first | rw [c5b0] | (simp only [i64_w, i32_w]; rw [c5b0]) | skip)
        by_cases c6 : a1.toList = ([98, 111, 100, 121] : List UInt8)
        · rw [if_pos c6] at H
          have c6b0 : (a1.toList == ([98, 111, 100, 121] : List UInt8)) = true := beq_iff_eq.mpr c6
          have c6b1 : (a1.toList != ([98, 111, 100, 121] : List UInt8)) = false := bne_eq_false_iff_eq.mpr c6
          clear c6
          have H' := Aside0.mk H
          clear H
          go_wp2
          go_meet
          case rel => exact ⟨_, ((a1.toList == ([98, 111, 100, 121] : List UInt8))), (by first | rfl | (simp; done) | (simp [*]; done)), H', ⟨by first | omega | exact Nat.le_refl _⟩, by repeat (first | exact Drawn0.refl _ | apply Drawn0.step)⟩
        · rw [if_neg c6] at H
          have c6b0 : (a1.toList == ([98, 111, 100, 121] : List UInt8)) = false := beq_eq_false_iff_ne.mpr c6
          have c6b1 : (a1.toList != ([98, 111, 100, 121] : List UInt8)) = true := bne_iff_ne.mpr c6
          by_cases c7 : a1.toList = ([98, 117, 116, 116, 111, 110] : List UInt8)
          · rw [if_pos c7] at H
            have c7b0 : (a1.toList == ([98, 117, 116, 116, 111, 110] : List UInt8)) = true := beq_iff_eq.mpr c7
            have c7b1 : (a1.toList != ([98, 117, 116, 116, 111, 110] : List UInt8)) = false := bne_eq_false_iff_eq.mpr c7
            clear c7
            have H' := Aside0.mk H
            clear H
            go_wp2
            go_meet
            case rel => exact ⟨_, ((a1.toList == ([98, 117, 116, 116, 111, 110] : List UInt8))), (by first | rfl | (simp; done) | (simp [*]; done)), H', ⟨by first | omega | exact Nat.le_refl _⟩, by repeat (first | exact Drawn0.refl _ | apply Drawn0.step)⟩
          · rw [if_neg c7] at H
            have c7b0 : (a1.toList == ([98, 117, 116, 116, 111, 110] : List UInt8)) = false := beq_eq_false_iff_ne.mpr c7
            have c7b1 : (a1.toList != ([98, 117, 116, 116, 111, 110] : List UInt8)) = true := bne_iff_ne.mpr c7
            by_cases c8 : a1.toList = ([100, 100] : List UInt8)
            · rw [if_pos c8] at H
              have c8b0 : (a1.toList == ([100, 100] : List UInt8)) = true := beq_iff_eq.mpr c8
              have c8b1 : (a1.toList != ([100, 100] : List UInt8)) = false := bne_eq_false_iff_eq.mpr c8
              clear c8
              have H' := Aside0.mk H
              clear H
              go_wp2
              go_meet
              case rel => exact ⟨_, ((a1.toList == ([100, 100] : List UInt8))), (by first | rfl | (simp; done) | (simp [*]; done)), H', ⟨by first | omega | exact Nat.le_refl _⟩, by repeat (first | exact Drawn0.refl _ | apply Drawn0.step)⟩
            · rw [if_neg c8] at H
              have c8b0 : (a1.toList == ([100, 100] : List UInt8)) = false := beq_eq_false_iff_ne.mpr c8
              have c8b1 : (a1.toList != ([100, 100] : List UInt8)) = true := bne_iff_ne.mpr c8
              by_cases c9 : a1.toList = ([100, 116] : List UInt8)
              · rw [if_pos c9] at H
                have c9b0 : (a1.toList == ([100, 116] : List UInt8)) = true := beq_iff_eq.mpr c9
                have c9b1 : (a1.toList != ([100, 116] : List UInt8)) = false := bne_eq_false_iff_eq.mpr c9
                clear c9
                have H' := Aside0.mk H
                clear H
                go_wp2
                go_meet
                case rel => exact ⟨_, ((a1.toList == ([100, 116] : List UInt8))), (by first | rfl | (simp; done) | (simp [*]; done)), H', ⟨by first | omega | exact Nat.le_refl _⟩, by repeat (first | exact Drawn0.refl _ | apply Drawn0.step)⟩
              · rw [if_neg c9] at H
                have c9b0 : (a1.toList == ([100, 116] : List UInt8)) = false := beq_eq_false_iff_ne.mpr c9
                have c9b1 : (a1.toList != ([100, 116] : List UInt8)) = true := bne_iff_ne.mpr c9
                by_cases c10 : a1.toList = ([102, 111, 114, 109] : List UInt8)
                · rw [if_pos c10] at H
                  have c10b0 : (a1.toList == ([102, 111, 114, 109] : List UInt8)) = true := beq_iff_eq.mpr c10
                  have c10b1 : (a1.toList != ([102, 111, 114, 109] : List UInt8)) = false := bne_eq_false_iff_eq.mpr c10
                  clear c10
                  have H' := Aside0.mk H
                  clear H
                  go_wp2
                  go_meet
                  case rel => exact ⟨_, ((a1.toList == ([102, 111, 114, 109] : List UInt8))), (by first | rfl | (simp; done) | (simp [*]; done)), H', ⟨by first | omega | exact Nat.le_refl _⟩, by repeat (first | exact Drawn0.refl _ | apply Drawn0.step)⟩
                · rw [if_neg c10] at H
                  have c10b0 : (a1.toList == ([102, 111, 114, 109] : List UInt8)) = false := beq_eq_false_iff_ne.mpr c10
                  have c10b1 : (a1.toList != ([102, 111, 114, 109] : List UInt8)) = true := bne_iff_ne.mpr c10
                  by_cases c11 : a1.toList = ([104, 101, 97, 100] : List UInt8)
                  · rw [if_pos c11] at H
                    have c11b0 : (a1.toList == ([104, 101, 97, 100] : List UInt8)) = true := beq_iff_eq.mpr c11
                    have c11b1 : (a1.toList != ([104, 101, 97, 100] : List UInt8)) = false := bne_eq_false_iff_eq.mpr c11
                    clear c11
                    have H' := Aside0.mk H
                    clear H
                    go_wp2
                    go_meet
                    case rel => exact ⟨_, ((a1.toList == ([104, 101, 97, 100] : List UInt8))), (by first | rfl | (simp; done) | (simp [*]; done)), H', ⟨by first | omega | exact Nat.le_refl _⟩, by repeat (first | exact Drawn0.refl _ | apply Drawn0.step)⟩
                  · rw [if_neg c11] at H
                    have c11b0 : (a1.toList == ([104, 101, 97, 100] : List UInt8)) = false := beq_eq_false_iff_ne.mpr c11
                    have c11b1 : (a1.toList != ([104, 101, 97, 100] : List UInt8)) = true := bne_iff_ne.mpr c11
                    by_cases c12 : a1.toList = ([104, 116, 109, 108] : List UInt8)
                    · rw [if_pos c12] at H
                      have c12b0 : (a1.toList == ([104, 116, 109, 108] : List UInt8)) = true := beq_iff_eq.mpr c12
                      have c12b1 : (a1.toList != ([104, 116, 109, 108] : List UInt8)) = false := bne_eq_false_iff_eq.mpr c12
                      clear c12
                      have H' := Aside0.mk H
                      clear H
                      go_wp2
                      go_meet
                      case rel => exact ⟨_, ((a1.toList == ([104, 116, 109, 108] : List UInt8))), (by first | rfl | (simp; done) | (simp [*]; done)), H', ⟨by first | omega | exact Nat.le_refl _⟩, by repeat (first | exact Drawn0.refl _ | apply Drawn0.step)⟩
                    · rw [if_neg c12] at H
                      have c12b0 : (a1.toList == ([104, 116, 109, 108] : List UInt8)) = false := beq_eq_false_iff_ne.mpr c12
                      have c12b1 : (a1.toList != ([104, 116, 109, 108] : List UInt8)) = true := bne_iff_ne.mpr c12
                      by_cases c13 : a1.toList = ([108, 105] : List UInt8)
                      · rw [if_pos c13] at H
                        have c13b0 : (a1.toList == ([108, 105] : List UInt8)) = true := beq_iff_eq.mpr c13
                        have c13b1 : (a1.toList != ([108, 105] : List UInt8)) = false := bne_eq_false_iff_eq.mpr c13
                        clear c13
                        have H' := Aside0.mk H
                        clear H
                        go_wp2
                        go_meet
                        case rel => exact ⟨_, ((a1.toList == ([108, 105] : List UInt8))), (by first | rfl | (simp; done) | (simp [*]; done)), H', ⟨by first | omega | exact Nat.le_refl _⟩, by repeat (first | exact Drawn0.refl _ | apply Drawn0.step)⟩
                      · rw [if_neg c13] at H
                        have c13b0 : (a1.toList == ([108, 105] : List UInt8)) = false := beq_eq_false_iff_ne.mpr c13
                        have c13b1 : (a1.toList != ([108, 105] : List UInt8)) = true := bne_iff_ne.mpr c13
                        by_cases c14 : a1.toList = ([109, 97, 114, 113, 117, 101, 101] : List UInt8)
                        · rw [if_pos c14] at H
                          have c14b0 : (a1.toList == ([109, 97, 114, 113, 117, 101, 101] : List UInt8)) = true := beq_iff_eq.mpr c14
                          have c14b1 : (a1.toList != ([109, 97, 114, 113, 117, 101, 101] : List UInt8)) = false := bne_eq_false_iff_eq.mpr c14
                          clear c14
                          have H' := Aside0.mk H
                          clear H
                          go_wp2
                          go_meet
                          case rel => exact ⟨_, ((a1.toList == ([109, 97, 114, 113, 117, 101, 101] : List UInt8))), (by first | rfl | (simp; done) | (simp [*]; done)), H', ⟨by first | omega | exact Nat.le_refl _⟩, by repeat (first | exact Drawn0.refl _ | apply Drawn0.step)⟩
                        · rw [if_neg c14] at H
                          have c14b0 : (a1.toList == ([109, 97, 114, 113, 117, 101, 101] : List UInt8)) = false := beq_eq_false_iff_ne.mpr c14
                          have c14b1 : (a1.toList != ([109, 97, 114, 113, 117, 101, 101] : List UInt8)) = true := bne_iff_ne.mpr c14
                          by_cases c15 : a1.toList = ([111, 98, 106, 101, 99, 116] : List UInt8)
                          · rw [if_pos c15] at H
                            have c15b0 : (a1.toList == ([111, 98, 106, 101, 99, 116] : List UInt8)) = true := beq_iff_eq.mpr c15
                            have c15b1 : (a1.toList != ([111, 98, 106, 101, 99, 116] : List UInt8)) = false := bne_eq_false_iff_eq.mpr c15
                            clear c15
                            have H' := Aside0.mk H
                            clear H
                            go_wp2
                            go_meet
                            case rel => exact ⟨_, ((a1.toList == ([111, 98, 106, 101, 99, 116] : List UInt8))), (by first | rfl | (simp; done) | (simp [*]; done)), H', ⟨by first | omega | exact Nat.le_refl _⟩, by repeat (first | exact Drawn0.refl _ | apply Drawn0.step)⟩
                          · rw [if_neg c15] at H
                            have c15b0 : (a1.toList == ([111, 98, 106, 101, 99, 116] : List UInt8)) = false := beq_eq_false_iff_ne.mpr c15
                            have c15b1 : (a1.toList != ([111, 98, 106, 101, 99, 116] : List UInt8)) = true := bne_iff_ne.mpr c15
                            by_cases c16 : a1.toList = ([112] : List UInt8)
                            · rw [if_pos c16] at H
                              have c16b0 : (a1.toList == ([112] : List UInt8)) = true := beq_iff_eq.mpr c16
                              have c16b1 : (a1.toList != ([112] : List UInt8)) = false := bne_eq_false_iff_eq.mpr c16
                              clear c16
                              have H' := Aside0.mk H
                              clear H
                              go_wp2
                              go_meet
                              case rel => exact ⟨_, ((a1.toList == ([112] : List UInt8))), (by first | rfl | (simp; done) | (simp [*]; done)), H', ⟨by first | omega | exact Nat.le_refl _⟩, by repeat (first | exact Drawn0.refl _ | apply Drawn0.step)⟩
                            · rw [if_neg c16] at H
                              have c16b0 : (a1.toList == ([112] : List UInt8)) = false := beq_eq_false_iff_ne.mpr c16
                              have c16b1 : (a1.toList != ([112] : List UInt8)) = true := bne_iff_ne.mpr c16
                              by_cases c17 : a1.toList = ([112, 108, 97, 105, 110, 116, 101, 120, 116] : List UInt8)
                              · rw [if_pos c17] at H
                                have c17b0 : (a1.toList == ([112, 108, 97, 105, 110, 116, 101, 120, 116] : List UInt8)) = true := beq_iff_eq.mpr c17
                                have c17b1 : (a1.toList != ([112, 108, 97, 105, 110, 116, 101, 120, 116] : List UInt8)) = false := bne_eq_false_iff_eq.mpr c17
                                clear c17
                                have H' := Aside0.mk H
                                clear H
                                go_wp2
                                go_meet
                                case rel => exact ⟨_, ((a1.toList == ([112, 108, 97, 105, 110, 116, 101, 120, 116] : List UInt8))), (by first | rfl | (simp; done) | (simp [*]; done)), H', ⟨by first | omega | exact Nat.le_refl _⟩, by repeat (first | exact Drawn0.refl _ | apply Drawn0.step)⟩
                              · rw [if_neg c17] at H
                                have c17b0 : (a1.toList == ([112, 108, 97, 105, 110, 116, 101, 120, 116] : List UInt8)) = false := beq_eq_false_iff_ne.mpr c17
                                have c17b1 : (a1.toList != ([112, 108, 97, 105, 110, 116, 101, 120, 116] : List UInt8)) = true := bne_iff_ne.mpr c17
                                by_cases c18 : a1.toList = ([112, 114, 101] : List UInt8)
                                · rw [if_pos c18] at H
                                  have c18b0 : (a1.toList == ([112, 114, 101] : List UInt8)) = true := beq_iff_eq.mpr c18
                                  have c18b1 : (a1.toList != ([112, 114, 101] : List UInt8)) = false := bne_eq_false_iff_eq.mpr c18
                                  clear c18
                                  have H' := Aside0.mk H
                                  clear H
                                  go_wp2
                                  go_meet
                                  case rel => exact ⟨_, ((a1.toList == ([112, 114, 101] : List UInt8))), (by first | rfl | (simp; done) | (simp [*]; done)), H', ⟨by first | omega | exact Nat.le_refl _⟩, by repeat (first | exact Drawn0.refl _ | apply Drawn0.step)⟩
                                · rw [if_neg c18] at H
                                  have c18b0 : (a1.toList == ([112, 114, 101] : List UInt8)) = false := beq_eq_false_iff_ne.mpr c18
                                  have c18b1 : (a1.toList != ([112, 114, 101] : List UInt8)) = true := bne_iff_ne.mpr c18
                                  by_cases c19 : a1.toList = ([115, 99, 114, 105, 112, 116] : List UInt8)
                                  · rw [if_pos c19] at H
                                    have c19b0 : (a1.toList == ([115, 99, 114, 105, 112, 116] : List UInt8)) = true := beq_iff_eq.mpr c19
                                    have c19b1 : (a1.toList != ([115, 99, 114, 105, 112, 116] : List UInt8)) = false := bne_eq_false_iff_eq.mpr c19
                                    clear c19
                                    have H' := Aside0.mk H
                                    clear H
                                    go_wp2
                                    go_meet
                                    case rel => exact ⟨_, ((a1.toList == ([115, 99, 114, 105, 112, 116] : List UInt8))), (by first | rfl | (simp; done) | (simp [*]; done)), H', ⟨by first | omega | exact Nat.le_refl _⟩, by repeat (first | exact Drawn0.refl _ | apply Drawn0.step)⟩
                                  · rw [if_neg c19] at H
                                    have c19b0 : (a1.toList == ([115, 99, 114, 105, 112, 116] : List UInt8)) = false := beq_eq_false_iff_ne.mpr c19
                                    have c19b1 : (a1.toList != ([115, 99, 114, 105, 112, 116] : List UInt8)) = true := bne_iff_ne.mpr c19
                                    by_cases c20 : a1.toList = ([115, 116, 121, 108, 101] : List UInt8)
                                    · rw [if_pos c20] at H
                                      have c20b0 : (a1.toList == ([115, 116, 121, 108, 101] : List UInt8)) = true := beq_iff_eq.mpr c20
                                      have c20b1 : (a1.toList != ([115, 116, 121, 108, 101] : List UInt8)) = false := bne_eq_false_iff_eq.mpr c20
                                      clear c20
                                      have H' := Aside0.mk H
                                      clear H
                                      go_wp2
                                      go_meet
                                      case rel => exact ⟨_, ((a1.toList == ([115, 116, 121, 108, 101] : List UInt8))), (by first | rfl | (simp; done) | (simp [*]; done)), H', ⟨by first | omega | exact Nat.le_refl _⟩, by repeat (first | exact Drawn0.refl _ | apply Drawn0.step)⟩
                                    · rw [if_neg c20] at H
                                      have c20b0 : (a1.toList == ([115, 116, 121, 108, 101] : List UInt8)) = false := beq_eq_false_iff_ne.mpr c20
                                      have c20b1 : (a1.toList != ([115, 116, 121, 108, 101] : List UInt8)) = true := bne_iff_ne.mpr c20
                                      by_cases c21 : a1.toList = ([116, 97, 98, 108, 101] : List UInt8)
                                      · rw [if_pos c21] at H
                                        have c21b0 : (a1.toList == ([116, 97, 98, 108, 101] : List UInt8)) = true := beq_iff_eq.mpr c21
                                        have c21b1 : (a1.toList != ([116, 97, 98, 108, 101] : List UInt8)) = false := bne_eq_false_iff_eq.mpr c21
                                        clear c21
                                        have H' := Aside0.mk H
                                        clear H
                                        go_wp2
                                        go_meet
                                        case rel => exact ⟨_, ((a1.toList == ([116, 97, 98, 108, 101] : List UInt8))), (by first | rfl | (simp; done) | (simp [*]; done)), H', ⟨by first | omega | exact Nat.le_refl _⟩, by repeat (first | exact Drawn0.refl _ | apply Drawn0.step)⟩
                                      · rw [if_neg c21] at H
                                        have c21b0 : (a1.toList == ([116, 97, 98, 108, 101] : List UInt8)) = false := beq_eq_false_iff_ne.mpr c21
                                        have c21b1 : (a1.toList != ([116, 97, 98, 108, 101] : List UInt8)) = true := bne_iff_ne.mpr c21
                                        by_cases c22 : a1.toList = ([116, 98, 111, 100, 121] : List UInt8)
                                        · rw [if_pos c22] at H
                                          have c22b0 : (a1.toList == ([116, 98, 111, 100, 121] : List UInt8)) = true := beq_iff_eq.mpr c22
                                          have c22b1 : (a1.toList != ([116, 98, 111, 100, 121] : List UInt8)) = false := bne_eq_false_iff_eq.mpr c22
                                          clear c22
                                          have H' := Aside0.mk H
                                          clear H
                                          go_wp2
                                          go_meet
                                          case rel => exact ⟨_, ((a1.toList == ([116, 98, 111, 100, 121] : List UInt8))), (by first | rfl | (simp; done) | (simp [*]; done)), H', ⟨by first | omega | exact Nat.le_refl _⟩, by repeat (first | exact Drawn0.refl _ | apply Drawn0.step)⟩
                                        · rw [if_neg c22] at H
                                          have c22b0 : (a1.toList == ([116, 98, 111, 100, 121] : List UInt8)) = false := beq_eq_false_iff_ne.mpr c22
                                          have c22b1 : (a1.toList != ([116, 98, 111, 100, 121] : List UInt8)) = true := bne_iff_ne.mpr c22
                                          by_cases c23 : a1.toList = ([116, 100] : List UInt8)
                                          · rw [if_pos c23] at H
                                            have c23b0 : (a1.toList == ([116, 100] : List UInt8)) = true := beq_iff_eq.mpr c23
                                            have c23b1 : (a1.toList != ([116, 100] : List UInt8)) = false := bne_eq_false_iff_eq.mpr c23
                                            clear c23
                                            have H' := Aside0.mk H
                                            clear H
                                            go_wp2
                                            go_meet
                                            case rel => exact ⟨_, ((a1.toList == ([116, 100] : List UInt8))), (by first | rfl | (simp; done) | (simp [*]; done)), H', ⟨by first | omega | exact Nat.le_refl _⟩, by repeat (first | exact Drawn0.refl _ | apply Drawn0.step)⟩
                                          · rw [if_neg c23] at H
                                            have c23b0 : (a1.toList == ([116, 100] : List UInt8)) = false := beq_eq_false_iff_ne.mpr c23
                                            have c23b1 : (a1.toList != ([116, 100] : List UInt8)) = true := bne_iff_ne.mpr c23
                                            by_cases c24 : a1.toList = ([116, 101, 109, 112, 108, 97, 116, 101] : List UInt8)
                                            · rw [if_pos c24] at H
                                              have c24b0 : (a1.toList == ([116, 101, 109, 112, 108, 97, 116, 101] : List UInt8)) = true := beq_iff_eq.mpr c24
                                              have c24b1 : (a1.toList != ([116, 101, 109, 112, 108, 97, 116, 101] : List UInt8)) = false := bne_eq_false_iff_eq.mpr c24
                                              clear c24
                                              have H' := Aside0.mk H
                                              clear H
                                              go_wp2
                                              go_meet
                                              case rel => exact ⟨_, ((a1.toList == ([116, 101, 109, 112, 108, 97, 116, 101] : List UInt8))), (by first | rfl | (simp; done) | (simp [*]; done)), H', ⟨by first | omega | exact Nat.le_refl _⟩, by repeat (first | exact Drawn0.refl _ | apply Drawn0.step)⟩
                                            · rw [if_neg c24] at H
                                              have c24b0 : (a1.toList == ([116, 101, 109, 112, 108, 97, 116, 101] : List UInt8)) = false := beq_eq_false_iff_ne.mpr c24
                                              have c24b1 : (a1.toList != ([116, 101, 109, 112, 108, 97, 116, 101] : List UInt8)) = true := bne_iff_ne.mpr c24
                                              by_cases c25 : a1.toList = ([116, 101, 120, 116, 97, 114, 101, 97] : List UInt8)
                                              · rw [if_pos c25] at H
                                                have c25b0 : (a1.toList == ([116, 101, 120, 116, 97, 114, 101, 97] : List UInt8)) = true := beq_iff_eq.mpr c25
                                                have c25b1 : (a1.toList != ([116, 101, 120, 116, 97, 114, 101, 97] : List UInt8)) = false := bne_eq_false_iff_eq.mpr c25
                                                clear c25
                                                have H' := Aside0.mk H
                                                clear H
                                                go_wp2
                                                go_meet
                                                case rel => exact ⟨_, ((a1.toList == ([116, 101, 120, 116, 97, 114, 101, 97] : List UInt8))), (by first | rfl | (simp; done) | (simp [*]; done)), H', ⟨by first | omega | exact Nat.le_refl _⟩, by repeat (first | exact Drawn0.refl _ | apply Drawn0.step)⟩
                                              · rw [if_neg c25] at H
                                                have c25b0 : (a1.toList == ([116, 101, 120, 116, 97, 114, 101, 97] : List UInt8)) = false := beq_eq_false_iff_ne.mpr c25
                                                have c25b1 : (a1.toList != ([116, 101, 120, 116, 97, 114, 101, 97] : List UInt8)) = true := bne_iff_ne.mpr c25
                                                by_cases c26 : a1.toList = ([116, 102, 111, 111, 116] : List UInt8)
                                                · rw [if_pos c26] at H
                                                  have c26b0 : (a1.toList == ([116, 102, 111, 111, 116] : List UInt8)) = true := beq_iff_eq.mpr c26
                                                  have c26b1 : (a1.toList != ([116, 102, 111, 111, 116] : List UInt8)) = false := bne_eq_false_iff_eq.mpr c26
                                                  clear c26
                                                  have H' := Aside0.mk H
                                                  clear H
                                                  go_wp2
                                                  go_meet
                                                  case rel => exact ⟨_, ((a1.toList == ([116, 102, 111, 111, 116] : List UInt8))), (by first | rfl | (simp; done) | (simp [*]; done)), H', ⟨by first | omega | exact Nat.le_refl _⟩, by repeat (first | exact Drawn0.refl _ | apply Drawn0.step)⟩
                                                · rw [if_neg c26] at H
                                                  have c26b0 : (a1.toList == ([116, 102, 111, 111, 116] : List UInt8)) = false := beq_eq_false_iff_ne.mpr c26
                                                  have c26b1 : (a1.toList != ([116, 102, 111, 111, 116] : List UInt8)) = true := bne_iff_ne.mpr c26
                                                  by_cases c27 : a1.toList = ([116, 104] : List UInt8)
                                                  · rw [if_pos c27] at H
                                                    have c27b0 : (a1.toList == ([116, 104] : List UInt8)) = true := beq_iff_eq.mpr c27
                                                    have c27b1 : (a1.toList != ([116, 104] : List UInt8)) = false := bne_eq_false_iff_eq.mpr c27
                                                    clear c27
                                                    have H' := Aside0.mk H
                                                    clear H
                                                    go_wp2
                                                    go_meet
                                                    case rel => exact ⟨_, ((a1.toList == ([116, 104] : List UInt8))), (by first | rfl | (simp; done) | (simp [*]; done)), H', ⟨by first | omega | exact Nat.le_refl _⟩, by repeat (first | exact Drawn0.refl _ | apply Drawn0.step)⟩
                                                  · rw [if_neg c27] at H
                                                    have c27b0 : (a1.toList == ([116, 104] : List UInt8)) = false := beq_eq_false_iff_ne.mpr c27
                                                    have c27b1 : (a1.toList != ([116, 104] : List UInt8)) = true := bne_iff_ne.mpr c27
                                                    by_cases c28 : a1.toList = ([116, 104, 101, 97, 100] : List UInt8)
                                                    · rw [if_pos c28] at H
                                                      have c28b0 : (a1.toList == ([116, 104, 101, 97, 100] : List UInt8)) = true := beq_iff_eq.mpr c28
                                                      have c28b1 : (a1.toList != ([116, 104, 101, 97, 100] : List UInt8)) = false := bne_eq_false_iff_eq.mpr c28
                                                      clear c28
                                                      have H' := Aside0.mk H
                                                      clear H
                                                      go_wp2
                                                      go_meet
                                                      case rel => exact ⟨_, ((a1.toList == ([116, 104, 101, 97, 100] : List UInt8))), (by first | rfl | (simp; done) | (simp [*]; done)), H', ⟨by first | omega | exact Nat.le_refl _⟩, by repeat (first | exact Drawn0.refl _ | apply Drawn0.step)⟩
                                                    · rw [if_neg c28] at H
                                                      have c28b0 : (a1.toList == ([116, 104, 101, 97, 100] : List UInt8)) = false := beq_eq_false_iff_ne.mpr c28
                                                      have c28b1 : (a1.toList != ([116, 104, 101, 97, 100] : List UInt8)) = true := bne_iff_ne.mpr c28
                                                      by_cases c29 : a1.toList = ([116, 105, 116, 108, 101] : List UInt8)
                                                      · rw [if_pos c29] at H
                                                        have c29b0 : (a1.toList == ([116, 105, 116, 108, 101] : List UInt8)) = true := beq_iff_eq.mpr c29
                                                        have c29b1 : (a1.toList != ([116, 105, 116, 108, 101] : List UInt8)) = false := bne_eq_false_iff_eq.mpr c29
                                                        clear c29
                                                        have H' := Aside0.mk H
                                                        clear H
                                                        go_wp2
                                                        go_meet
                                                        case rel => exact ⟨_, ((a1.toList == ([116, 105, 116, 108, 101] : List UInt8))), (by first | rfl | (simp; done) | (simp [*]; done)), H', ⟨by first | omega | exact Nat.le_refl _⟩, by repeat (first | exact Drawn0.refl _ | apply Drawn0.step)⟩
                                                      · rw [if_neg c29] at H
                                                        have c29b0 : (a1.toList == ([116, 105, 116, 108, 101] : List UInt8)) = false := beq_eq_false_iff_ne.mpr c29
                                                        have c29b1 : (a1.toList != ([116, 105, 116, 108, 101] : List UInt8)) = true := bne_iff_ne.mpr c29
                                                        by_cases c30 : a1.toList = ([116, 114] : List UInt8)
                                                        · rw [if_pos c30] at H
                                                          have c30b0 : (a1.toList == ([116, 114] : List UInt8)) = true := beq_iff_eq.mpr c30
                                                          have c30b1 : (a1.toList != ([116, 114] : List UInt8)) = false := bne_eq_false_iff_eq.mpr c30
                                                          clear c30
                                                          have H' := Aside0.mk H
                                                          clear H
                                                          go_wp2
                                                          go_meet
                                                          case rel => exact ⟨_, ((a1.toList == ([116, 114] : List UInt8))), (by first | rfl | (simp; done) | (simp [*]; done)), H', ⟨by first | omega | exact Nat.le_refl _⟩, by repeat (first | exact Drawn0.refl _ | apply Drawn0.step)⟩
                                                        · rw [if_neg c30] at H
                                                          have c30b0 : (a1.toList == ([116, 114] : List UInt8)) = false := beq_eq_false_iff_ne.mpr c30
                                                          have c30b1 : (a1.toList != ([116, 114] : List UInt8)) = true := bne_iff_ne.mpr c30
                                                          have H' := Aside0.mk H
                                                          clear H
                                                          go_wp2
                                                          go_meet
                                                          case rel => exact ⟨_, ((a1.toList == ([120, 109, 112] : List UInt8))), (by first | rfl | (simp; done) | (simp [*]; done)), H', ⟨by first | omega | exact Nat.le_refl _⟩, by repeat (first | exact Drawn0.refl _ | apply Drawn0.step)⟩
    case rest =>
      clear HC4
      try clear c1
      try clear c2
      try clear p2
      try clear c3
      try clear c3b0
      try clear c3b1
      try clear c5
      try clear c5b0
      try clear c5b1
      try clear c6
      try clear c6b0
      try clear c6b1
      try clear c7
      try clear c7b0
      try clear c7b1
      try clear c8
      try clear c8b0
      try clear c8b1
      try clear c9
      try clear c9b0
      try clear c9b1
      try clear c10
      try clear c10b0
      try clear c10b1
      try clear c11
      try clear c11b0
      try clear c11b1
      try clear c12
      try clear c12b0
      try clear c12b1
      try clear c13
      try clear c13b0
      try clear c13b1
      try clear c14
      try clear c14b0
      try clear c14b1
      try clear c15
      try clear c15b0
      try clear c15b1
      try clear c16
      try clear c16b0
      try clear c16b1
      try clear c17
      try clear c17b0
      try clear c17b1
      try clear c18
      try clear c18b0
      try clear c18b1
      try clear c19
      try clear c19b0
      try clear c19b1
      try clear c20
      try clear c20b0
      try clear c20b1
      try clear c21
      try clear c21b0
      try clear c21b1
      try clear c22
      try clear c22b0
      try clear c22b1
      try clear c23
      try clear c23b0
      try clear c23b1
      try clear c24
      try clear c24b0
      try clear c24b1
      try clear c25
      try clear c25b0
      try clear c25b1
      try clear c26
      try clear c26b0
      try clear c26b1
      try clear c27
      try clear c27b0
      try clear c27b1
      try clear c28
      try clear c28b0
      try clear c28b1
      try clear c29
      try clear c29b0
      try clear c29b1
      try clear c30
      try clear c30b0
      try clear c30b1
      obtain ⟨kq, x11_3, rfl, HA, HJ3, ⟨mc3, rfl⟩⟩ := hcut
      cases kq with
      | zero => exact absurd HA.out (by simp [names_Special.j0])
      | succ kj3 =>
        have H := HA.out
        clear HA
        simp only [names_Special.j0] at H
        by_cases c31 : x11_3 = true
        · subst c31
          have H1 : (some true) = some r := by rw [if_pos rfl] at H; exact H
          clear H
          have H := H1
          clear H1
          obtain rfl := Option.some.inj H
          go_wp2
          go_ret
          exact ⟨by first | rfl | (simp; done) | (simp [*]; done), by repeat (first | exact Drawn0.refl _ | apply Drawn0.step)⟩
        · replace c31 := Bool.eq_false_iff.mpr c31
          subst c31
          have H1 : ((names_Block.f a1).bind fun t107 => (if t107 = true then (some true) else ((names_Heading.f a1).bind fun t108 => (if t108 = true then (some true) else ((names_Void.f a1).bind fun t109 => (some t109)))))) = some r := by rw [if_neg (show ¬ (false = true) by decide)] at H; exact H
          clear H
          have H := H1
          clear H1
          replace H := Option.bind_eq_some_iff.mp H
          obtain ⟨t107, A320, H⟩ := H
          replace H : (if t107 = true then (some true) else ((names_Heading.f a1).bind fun t108 => (if t108 = true then (some true) else ((names_Void.f a1).bind fun t109 => (some t109))))) = some r := H
          have A32 := Aside0.mk A320
          clear A320
          by_cases c33 : t107 = true
          · subst c33
            have H1 : (some true) = some r := by rw [if_pos rfl] at H; exact H
            clear H
            have H := H1
            clear H1
            obtain rfl := Option.some.inj H
            go_wp2_with (first | ((with_reducible refine gate_callee (f := 11) rfl ?_); refine goesL_ (some 40) rfl rfl Try.func11 (by kernel_rfl) rfl #[.string a1] rfl (by (try simp only [List.map_toArray, List.map_cons, List.map_nil]); first | done | rfl | (simp only [List.length_drop, List.length_take]; rfl)) ?_; (with_reducible refine (names_Block.calls a1 true _ A32.out).mono ?_); rintro e w' ⟨rfl, ⟨nd, rfl⟩⟩; refine ⟨_, rfl, ?_⟩))
            go_ret
            exact ⟨by first | rfl | (simp; done) | (simp [*]; done), by repeat (first | exact Drawn0.refl _ | apply Drawn0.step)⟩
          · replace c33 := Bool.eq_false_iff.mpr c33
            subst c33
            have H1 : ((names_Heading.f a1).bind fun t108 => (if t108 = true then (some true) else ((names_Void.f a1).bind fun t109 => (some t109)))) = some r := by rw [if_neg (show ¬ (false = true) by decide)] at H; exact H
            clear H
            have H := H1
            clear H1
            replace H := Option.bind_eq_some_iff.mp H
            obtain ⟨t108, A340, H⟩ := H
            replace H : (if t108 = true then (some true) else ((names_Void.f a1).bind fun t109 => (some t109))) = some r := H
            have A34 := Aside0.mk A340
            clear A340
            by_cases c35 : t108 = true
            · subst c35
              have H1 : (some true) = some r := by rw [if_pos rfl] at H; exact H
              clear H
              have H := H1
              clear H1
              obtain rfl := Option.some.inj H
              go_wp2_with (first | ((with_reducible refine gate_callee (f := 11) rfl ?_); refine goesL_ (some 40) rfl rfl Try.func11 (by kernel_rfl) rfl #[.string a1] rfl (by (try simp only [List.map_toArray, List.map_cons, List.map_nil]); first | done | rfl | (simp only [List.length_drop, List.length_take]; rfl)) ?_; (with_reducible refine (names_Block.calls a1 false _ A32.out).mono ?_); rintro e w' ⟨rfl, ⟨nd, rfl⟩⟩; refine ⟨_, rfl, ?_⟩) | (go_at_call 12; (with_reducible refine (names_Heading.calls a1 true _ A34.out).mono ?_); rintro e w' ⟨rfl, ⟨nd, rfl⟩⟩))
              go_ret
              exact ⟨by first | rfl | (simp; done) | (simp [*]; done), by repeat (first | exact Drawn0.refl _ | apply Drawn0.step)⟩
            · replace c35 := Bool.eq_false_iff.mpr c35
              subst c35
              have H1 : ((names_Void.f a1).bind fun t109 => (some t109)) = some r := by rw [if_neg (show ¬ (false = true) by decide)] at H; exact H
              clear H
              have H := H1
              clear H1
              replace H := Option.bind_eq_some_iff.mp H
              obtain ⟨t109, A360, H⟩ := H
              replace H : (some t109) = some r := H
              have A36 := Aside0.mk A360
              clear A360
              obtain rfl := Option.some.inj H
              go_wp2_with (first | ((with_reducible refine gate_callee (f := 11) rfl ?_); refine goesL_ (some 40) rfl rfl Try.func11 (by kernel_rfl) rfl #[.string a1] rfl (by (try simp only [List.map_toArray, List.map_cons, List.map_nil]); first | done | rfl | (simp only [List.length_drop, List.length_take]; rfl)) ?_; (with_reducible refine (names_Block.calls a1 false _ A32.out).mono ?_); rintro e w' ⟨rfl, ⟨nd, rfl⟩⟩; refine ⟨_, rfl, ?_⟩) | (go_at_call 12; (with_reducible refine (names_Heading.calls a1 false _ A34.out).mono ?_); rintro e w' ⟨rfl, ⟨nd, rfl⟩⟩) | (go_at_call 13; (with_reducible refine (names_Void.calls a1 t109 _ A36.out).mono ?_); rintro e w' ⟨rfl, ⟨nd, rfl⟩⟩))
              go_ret
              exact ⟨by first | rfl | (simp; done) | (simp [*]; done), by repeat (first | exact Drawn0.refl _ | apply Drawn0.step)⟩
  · rw [if_neg c3] at H
    have c3b0 : (a0 == 1) = false := beq_eq_false_iff_ne.mpr c3
    have c3b1 : (a0 != 1) = true := bne_iff_ne.mpr c3
    replace H := Option.bind_eq_some_iff.mp H
    obtain ⟨t106, A370, H⟩ := H
    replace H : (some t106) = some r := H
    have A37 := Aside0.mk A370
    clear A370
    obtain rfl := Option.some.inj H
    go_enter Try.func14, Try.ntmps14
    go_wp2_with (first | ((with_reducible refine gate_callee (f := 17) rfl ?_); refine goesL_ (some 9) rfl rfl Try.func17 (by kernel_rfl) rfl #[.int .i64 a0, .string a1] rfl (by (try simp only [List.map_toArray, List.map_cons, List.map_nil]); first | done | rfl | (simp only [List.length_drop, List.length_take]; rfl)) ?_; (with_reducible refine (names_Point.calls a0 a1 t106 _ A37.out).mono ?_); rintro e w' ⟨rfl, ⟨nd, rfl⟩⟩; refine ⟨_, rfl, ?_⟩))
    go_ret
    exact ⟨by first | rfl | (simp; done) | (simp [*]; done), by repeat (first | exact Drawn0.refl _ | apply Drawn0.step)⟩

/-! ### names_Bound: function 18 -/
def names_Bound.f (a0 : Int) (a1 : ByteArray) : Option (Bool) := if a0 = 1 then (if a1.toList = ([97, 112, 112, 108, 101, 116] : List UInt8) then (some true) else (if a1.toList = ([104, 116, 109, 108] : List UInt8) then (some true) else (if a1.toList = ([109, 97, 114, 113, 117, 101, 101] : List UInt8) then (some true) else (if a1.toList = ([111, 98, 106, 101, 99, 116] : List UInt8) then (some true) else (if a1.toList = ([116, 97, 98, 108, 101] : List UInt8) then (some true) else (if a1.toList = ([116, 100] : List UInt8) then (some true) else (if a1.toList = ([116, 101, 109, 112, 108, 97, 116, 101] : List UInt8) then (some true) else (if a1.toList = ([116, 104] : List UInt8) then (some true) else (some false))))))))) else ((names_Point.f a0 a1).bind fun t110 => (some t110))
set_option maxHeartbeats 8000000 in
set_option maxRecDepth 100000 in
theorem names_Bound.calls (a0 : Int) (a1 : ByteArray) (r : Bool) (w : World) (h : names_Bound.f a0 a1 = some r) :
    Calls Try.prog 18 #[.int .i64 a0, .string a1] w fun e w' => e = .returned (.bool r) ∧ Drawn0 w w' := by
  have H : (if a0 = 1 then (if a1.toList = ([97, 112, 112, 108, 101, 116] : List UInt8) then (some true) else (if a1.toList = ([104, 116, 109, 108] : List UInt8) then (some true) else (if a1.toList = ([109, 97, 114, 113, 117, 101, 101] : List UInt8) then (some true) else (if a1.toList = ([111, 98, 106, 101, 99, 116] : List UInt8) then (some true) else (if a1.toList = ([116, 97, 98, 108, 101] : List UInt8) then (some true) else (if a1.toList = ([116, 100] : List UInt8) then (some true) else (if a1.toList = ([116, 101, 109, 112, 108, 97, 116, 101] : List UInt8) then (some true) else (if a1.toList = ([116, 104] : List UInt8) then (some true) else (some false))))))))) else ((names_Point.f a0 a1).bind fun t110 => (some t110))) = some r := h
  clear h
  by_cases c3 : a0 = 1
  · rw [if_pos c3] at H
    have c3b0 : (a0 == 1) = true := beq_iff_eq.mpr c3
    have c3b1 : (a0 != 1) = false := bne_eq_false_iff_eq.mpr c3
    clear c3
    by_cases c4 : a1.toList = ([97, 112, 112, 108, 101, 116] : List UInt8)
    · rw [if_pos c4] at H
      have c4b0 : (a1.toList == ([97, 112, 112, 108, 101, 116] : List UInt8)) = true := beq_iff_eq.mpr c4
      have c4b1 : (a1.toList != ([97, 112, 112, 108, 101, 116] : List UInt8)) = false := bne_eq_false_iff_eq.mpr c4
      clear c4
      obtain rfl := Option.some.inj H
      go_enter Try.func18, Try.ntmps18
      go_wp2
      go_ret
      exact ⟨by first | rfl | (simp; done) | (simp [*]; done), by repeat (first | exact Drawn0.refl _ | apply Drawn0.step)⟩
    · rw [if_neg c4] at H
      have c4b0 : (a1.toList == ([97, 112, 112, 108, 101, 116] : List UInt8)) = false := beq_eq_false_iff_ne.mpr c4
      have c4b1 : (a1.toList != ([97, 112, 112, 108, 101, 116] : List UInt8)) = true := bne_iff_ne.mpr c4
      by_cases c5 : a1.toList = ([104, 116, 109, 108] : List UInt8)
      · rw [if_pos c5] at H
        have c5b0 : (a1.toList == ([104, 116, 109, 108] : List UInt8)) = true := beq_iff_eq.mpr c5
        have c5b1 : (a1.toList != ([104, 116, 109, 108] : List UInt8)) = false := bne_eq_false_iff_eq.mpr c5
        clear c5
        obtain rfl := Option.some.inj H
        go_enter Try.func18, Try.ntmps18
        go_wp2
        go_ret
        exact ⟨by first | rfl | (simp; done) | (simp [*]; done), by repeat (first | exact Drawn0.refl _ | apply Drawn0.step)⟩
      · rw [if_neg c5] at H
        have c5b0 : (a1.toList == ([104, 116, 109, 108] : List UInt8)) = false := beq_eq_false_iff_ne.mpr c5
        have c5b1 : (a1.toList != ([104, 116, 109, 108] : List UInt8)) = true := bne_iff_ne.mpr c5
        by_cases c6 : a1.toList = ([109, 97, 114, 113, 117, 101, 101] : List UInt8)
        · rw [if_pos c6] at H
          have c6b0 : (a1.toList == ([109, 97, 114, 113, 117, 101, 101] : List UInt8)) = true := beq_iff_eq.mpr c6
          have c6b1 : (a1.toList != ([109, 97, 114, 113, 117, 101, 101] : List UInt8)) = false := bne_eq_false_iff_eq.mpr c6
          clear c6
          obtain rfl := Option.some.inj H
          go_enter Try.func18, Try.ntmps18
          go_wp2
          go_ret
          exact ⟨by first | rfl | (simp; done) | (simp [*]; done), by repeat (first | exact Drawn0.refl _ | apply Drawn0.step)⟩
        · rw [if_neg c6] at H
          have c6b0 : (a1.toList == ([109, 97, 114, 113, 117, 101, 101] : List UInt8)) = false := beq_eq_false_iff_ne.mpr c6
          have c6b1 : (a1.toList != ([109, 97, 114, 113, 117, 101, 101] : List UInt8)) = true := bne_iff_ne.mpr c6
          by_cases c7 : a1.toList = ([111, 98, 106, 101, 99, 116] : List UInt8)
          · rw [if_pos c7] at H
            have c7b0 : (a1.toList == ([111, 98, 106, 101, 99, 116] : List UInt8)) = true := beq_iff_eq.mpr c7
            have c7b1 : (a1.toList != ([111, 98, 106, 101, 99, 116] : List UInt8)) = false := bne_eq_false_iff_eq.mpr c7
            clear c7
            obtain rfl := Option.some.inj H
            go_enter Try.func18, Try.ntmps18
            go_wp2
            go_ret
            exact ⟨by first | rfl | (simp; done) | (simp [*]; done), by repeat (first | exact Drawn0.refl _ | apply Drawn0.step)⟩
          · rw [if_neg c7] at H
            have c7b0 : (a1.toList == ([111, 98, 106, 101, 99, 116] : List UInt8)) = false := beq_eq_false_iff_ne.mpr c7
            have c7b1 : (a1.toList != ([111, 98, 106, 101, 99, 116] : List UInt8)) = true := bne_iff_ne.mpr c7
            by_cases c8 : a1.toList = ([116, 97, 98, 108, 101] : List UInt8)
            · rw [if_pos c8] at H
              have c8b0 : (a1.toList == ([116, 97, 98, 108, 101] : List UInt8)) = true := beq_iff_eq.mpr c8
              have c8b1 : (a1.toList != ([116, 97, 98, 108, 101] : List UInt8)) = false := bne_eq_false_iff_eq.mpr c8
              clear c8
              obtain rfl := Option.some.inj H
              go_enter Try.func18, Try.ntmps18
              go_wp2
              go_ret
              exact ⟨by first | rfl | (simp; done) | (simp [*]; done), by repeat (first | exact Drawn0.refl _ | apply Drawn0.step)⟩
            · rw [if_neg c8] at H
              have c8b0 : (a1.toList == ([116, 97, 98, 108, 101] : List UInt8)) = false := beq_eq_false_iff_ne.mpr c8
              have c8b1 : (a1.toList != ([116, 97, 98, 108, 101] : List UInt8)) = true := bne_iff_ne.mpr c8
              by_cases c9 : a1.toList = ([116, 100] : List UInt8)
              · rw [if_pos c9] at H
                have c9b0 : (a1.toList == ([116, 100] : List UInt8)) = true := beq_iff_eq.mpr c9
                have c9b1 : (a1.toList != ([116, 100] : List UInt8)) = false := bne_eq_false_iff_eq.mpr c9
                clear c9
                obtain rfl := Option.some.inj H
                go_enter Try.func18, Try.ntmps18
                go_wp2
                go_ret
                exact ⟨by first | rfl | (simp; done) | (simp [*]; done), by repeat (first | exact Drawn0.refl _ | apply Drawn0.step)⟩
              · rw [if_neg c9] at H
                have c9b0 : (a1.toList == ([116, 100] : List UInt8)) = false := beq_eq_false_iff_ne.mpr c9
                have c9b1 : (a1.toList != ([116, 100] : List UInt8)) = true := bne_iff_ne.mpr c9
                by_cases c10 : a1.toList = ([116, 101, 109, 112, 108, 97, 116, 101] : List UInt8)
                · rw [if_pos c10] at H
                  have c10b0 : (a1.toList == ([116, 101, 109, 112, 108, 97, 116, 101] : List UInt8)) = true := beq_iff_eq.mpr c10
                  have c10b1 : (a1.toList != ([116, 101, 109, 112, 108, 97, 116, 101] : List UInt8)) = false := bne_eq_false_iff_eq.mpr c10
                  clear c10
                  obtain rfl := Option.some.inj H
                  go_enter Try.func18, Try.ntmps18
                  go_wp2
                  go_ret
                  exact ⟨by first | rfl | (simp; done) | (simp [*]; done), by repeat (first | exact Drawn0.refl _ | apply Drawn0.step)⟩
                · rw [if_neg c10] at H
                  have c10b0 : (a1.toList == ([116, 101, 109, 112, 108, 97, 116, 101] : List UInt8)) = false := beq_eq_false_iff_ne.mpr c10
                  have c10b1 : (a1.toList != ([116, 101, 109, 112, 108, 97, 116, 101] : List UInt8)) = true := bne_iff_ne.mpr c10
                  by_cases c11 : a1.toList = ([116, 104] : List UInt8)
                  · rw [if_pos c11] at H
                    have c11b0 : (a1.toList == ([116, 104] : List UInt8)) = true := beq_iff_eq.mpr c11
                    have c11b1 : (a1.toList != ([116, 104] : List UInt8)) = false := bne_eq_false_iff_eq.mpr c11
                    clear c11
                    obtain rfl := Option.some.inj H
                    go_enter Try.func18, Try.ntmps18
                    go_wp2
                    go_ret
                    exact ⟨by first | rfl | (simp; done) | (simp [*]; done), by repeat (first | exact Drawn0.refl _ | apply Drawn0.step)⟩
                  · rw [if_neg c11] at H
                    have c11b0 : (a1.toList == ([116, 104] : List UInt8)) = false := beq_eq_false_iff_ne.mpr c11
                    have c11b1 : (a1.toList != ([116, 104] : List UInt8)) = true := bne_iff_ne.mpr c11
                    obtain rfl := Option.some.inj H
                    go_enter Try.func18, Try.ntmps18
                    go_wp2
                    go_ret
                    exact ⟨by first | rfl | (simp; done) | (simp [*]; done), by repeat (first | exact Drawn0.refl _ | apply Drawn0.step)⟩
  · rw [if_neg c3] at H
    have c3b0 : (a0 == 1) = false := beq_eq_false_iff_ne.mpr c3
    have c3b1 : (a0 != 1) = true := bne_iff_ne.mpr c3
    replace H := Option.bind_eq_some_iff.mp H
    obtain ⟨t110, A120, H⟩ := H
    replace H : (some t110) = some r := H
    have A12 := Aside0.mk A120
    clear A120
    obtain rfl := Option.some.inj H
    go_enter Try.func18, Try.ntmps18
    go_wp2_with (first | ((with_reducible refine gate_callee (f := 17) rfl ?_); refine goesL_ (some 9) rfl rfl Try.func17 (by kernel_rfl) rfl #[.int .i64 a0, .string a1] rfl (by (try simp only [List.map_toArray, List.map_cons, List.map_nil]); first | done | rfl | (simp only [List.length_drop, List.length_take]; rfl)) ?_; (with_reducible refine (names_Point.calls a0 a1 t110 _ A12.out).mono ?_); rintro e w' ⟨rfl, ⟨nd, rfl⟩⟩; refine ⟨_, rfl, ?_⟩))
    go_ret
    exact ⟨by first | rfl | (simp; done) | (simp [*]; done), by repeat (first | exact Drawn0.refl _ | apply Drawn0.step)⟩

/-! ### arbourlaw6_known: function 10 -/
def arbourlaw6_known.f (k : Nat)  : Option (Bool) := (names_Special.f k 1 (⟨#[112]⟩ : ByteArray)).bind fun t111 => (if t111 = true then ((names_Special.f k 2 (⟨#[116, 105, 116, 108, 101]⟩ : ByteArray)).bind fun t112 => (if t112 = true then ((names_Void.f (⟨#[107, 101, 121, 103, 101, 110]⟩ : ByteArray)).bind fun t113 => (if t113 = true then (some false) else ((names_Bound.f 2 (⟨#[116, 97, 98, 108, 101]⟩ : ByteArray)).bind fun t114 => (some (!t114))))) else (some false))) else (some false))
theorem arbourlaw6_known.mono : ∀ k, LeO (arbourlaw6_known.f k ) (arbourlaw6_known.f (k + 1) ) := by
  intro  k
  unfold arbourlaw6_known.f
  repeat' first
      | (with_reducible exact names_Special.mono _ _ _)
      | (with_reducible exact LeO.refl _)
      | (with_reducible exact LeO.none _)
      | (with_reducible refine LeO.ite ?_ ?_)
      | (with_reducible refine LeO.bind ?_ (fun _ => ?_))
      | exact names_Special.mono _ _ _
      | exact LeO.none _
      | refine LeO.ite ?_ ?_
      | refine LeO.bind ?_ (fun _ => ?_)
set_option maxHeartbeats 8000000 in
set_option maxRecDepth 100000 in
theorem arbourlaw6_known.calls (k : Nat)  (r : Bool) (w : World) (h : arbourlaw6_known.f k  = some r) :
    Calls Try.prog 10 #[] w fun e w' => e = .returned (.bool r) ∧ Drawn0 w w' := by
  have H : ((names_Special.f k 1 (⟨#[112]⟩ : ByteArray)).bind fun t111 => (if t111 = true then ((names_Special.f k 2 (⟨#[116, 105, 116, 108, 101]⟩ : ByteArray)).bind fun t112 => (if t112 = true then ((names_Void.f (⟨#[107, 101, 121, 103, 101, 110]⟩ : ByteArray)).bind fun t113 => (if t113 = true then (some false) else ((names_Bound.f 2 (⟨#[116, 97, 98, 108, 101]⟩ : ByteArray)).bind fun t114 => (some (!t114))))) else (some false))) else (some false))) = some r := h
  clear h
  replace H := Option.bind_eq_some_iff.mp H
  obtain ⟨t111, A10, H⟩ := H
  replace H : (if t111 = true then ((names_Special.f k 2 (⟨#[116, 105, 116, 108, 101]⟩ : ByteArray)).bind fun t112 => (if t112 = true then ((names_Void.f (⟨#[107, 101, 121, 103, 101, 110]⟩ : ByteArray)).bind fun t113 => (if t113 = true then (some false) else ((names_Bound.f 2 (⟨#[116, 97, 98, 108, 101]⟩ : ByteArray)).bind fun t114 => (some (!t114))))) else (some false))) else (some false)) = some r := H
  have A1 := Aside0.mk A10
  clear A10
  by_cases c2 : t111 = true
  · subst c2
    have H1 : ((names_Special.f k 2 (⟨#[116, 105, 116, 108, 101]⟩ : ByteArray)).bind fun t112 => (if t112 = true then ((names_Void.f (⟨#[107, 101, 121, 103, 101, 110]⟩ : ByteArray)).bind fun t113 => (if t113 = true then (some false) else ((names_Bound.f 2 (⟨#[116, 97, 98, 108, 101]⟩ : ByteArray)).bind fun t114 => (some (!t114))))) else (some false))) = some r := by rw [if_pos rfl] at H; exact H
    clear H
    have H := H1
    clear H1
    replace H := Option.bind_eq_some_iff.mp H
    obtain ⟨t112, A30, H⟩ := H
    replace H : (if t112 = true then ((names_Void.f (⟨#[107, 101, 121, 103, 101, 110]⟩ : ByteArray)).bind fun t113 => (if t113 = true then (some false) else ((names_Bound.f 2 (⟨#[116, 97, 98, 108, 101]⟩ : ByteArray)).bind fun t114 => (some (!t114))))) else (some false)) = some r := H
    have A3 := Aside0.mk A30
    clear A30
    by_cases c4 : t112 = true
    · subst c4
      have H1 : ((names_Void.f (⟨#[107, 101, 121, 103, 101, 110]⟩ : ByteArray)).bind fun t113 => (if t113 = true then (some false) else ((names_Bound.f 2 (⟨#[116, 97, 98, 108, 101]⟩ : ByteArray)).bind fun t114 => (some (!t114))))) = some r := by rw [if_pos rfl] at H; exact H
      clear H
      have H := H1
      clear H1
      replace H := Option.bind_eq_some_iff.mp H
      obtain ⟨t113, A50, H⟩ := H
      replace H : (if t113 = true then (some false) else ((names_Bound.f 2 (⟨#[116, 97, 98, 108, 101]⟩ : ByteArray)).bind fun t114 => (some (!t114)))) = some r := H
      have A5 := Aside0.mk A50
      clear A50
      by_cases c6 : t113 = true
      · subst c6
        have H1 : (some false) = some r := by rw [if_pos rfl] at H; exact H
        clear H
        have H := H1
        clear H1
        obtain rfl := Option.some.inj H
        go_enter Try.func10, Try.ntmps10
        go_wp2_with (first | ((with_reducible refine gate_callee (f := 14) rfl ?_); refine goesL_ (some 1) rfl rfl Try.func14 (by kernel_rfl) rfl #[.int .i64 1, .string (⟨#[112]⟩ : ByteArray)] rfl (by (try simp only [List.map_toArray, List.map_cons, List.map_nil]); first | done | rfl | (simp only [List.length_drop, List.length_take]; rfl)) ?_; (with_reducible refine (names_Special.calls k 1 (⟨#[112]⟩ : ByteArray) true _ A1.out).mono ?_); rintro e w' ⟨rfl, ⟨nd, rfl⟩⟩; refine ⟨_, rfl, ?_⟩) | (go_at_call 14; (with_reducible refine (names_Special.calls k 2 (⟨#[116, 105, 116, 108, 101]⟩ : ByteArray) true _ A3.out).mono ?_); rintro e w' ⟨rfl, ⟨nd, rfl⟩⟩) | (go_at_call 13; (with_reducible refine (names_Void.calls (⟨#[107, 101, 121, 103, 101, 110]⟩ : ByteArray) true _ A5.out).mono ?_); rintro e w' ⟨rfl, ⟨nd, rfl⟩⟩))
        go_ret
        exact ⟨by first | rfl | (simp; done) | (simp [*]; done), by repeat (first | exact Drawn0.refl _ | apply Drawn0.step)⟩
      · replace c6 := Bool.eq_false_iff.mpr c6
        subst c6
        have H1 : ((names_Bound.f 2 (⟨#[116, 97, 98, 108, 101]⟩ : ByteArray)).bind fun t114 => (some (!t114))) = some r := by rw [if_neg (show ¬ (false = true) by decide)] at H; exact H
        clear H
        have H := H1
        clear H1
        replace H := Option.bind_eq_some_iff.mp H
        obtain ⟨t114, A70, H⟩ := H
        replace H : (some (!t114)) = some r := H
        have A7 := Aside0.mk A70
        clear A70
        obtain rfl := Option.some.inj H
        go_enter Try.func10, Try.ntmps10
        go_wp2_with (first | ((with_reducible refine gate_callee (f := 14) rfl ?_); refine goesL_ (some 1) rfl rfl Try.func14 (by kernel_rfl) rfl #[.int .i64 1, .string (⟨#[112]⟩ : ByteArray)] rfl (by (try simp only [List.map_toArray, List.map_cons, List.map_nil]); first | done | rfl | (simp only [List.length_drop, List.length_take]; rfl)) ?_; (with_reducible refine (names_Special.calls k 1 (⟨#[112]⟩ : ByteArray) true _ A1.out).mono ?_); rintro e w' ⟨rfl, ⟨nd, rfl⟩⟩; refine ⟨_, rfl, ?_⟩) | (go_at_call 14; (with_reducible refine (names_Special.calls k 2 (⟨#[116, 105, 116, 108, 101]⟩ : ByteArray) true _ A3.out).mono ?_); rintro e w' ⟨rfl, ⟨nd, rfl⟩⟩) | (go_at_call 13; (with_reducible refine (names_Void.calls (⟨#[107, 101, 121, 103, 101, 110]⟩ : ByteArray) false _ A5.out).mono ?_); rintro e w' ⟨rfl, ⟨nd, rfl⟩⟩) | (go_at_call 18; (with_reducible refine (names_Bound.calls 2 (⟨#[116, 97, 98, 108, 101]⟩ : ByteArray) t114 _ A7.out).mono ?_); rintro e w' ⟨rfl, ⟨nd, rfl⟩⟩))
        go_ret
        exact ⟨by first | rfl | (simp; done) | (simp [*]; done), by repeat (first | exact Drawn0.refl _ | apply Drawn0.step)⟩
    · replace c4 := Bool.eq_false_iff.mpr c4
      subst c4
      have H1 : (some false) = some r := by rw [if_neg (show ¬ (false = true) by decide)] at H; exact H
      clear H
      have H := H1
      clear H1
      obtain rfl := Option.some.inj H
      go_enter Try.func10, Try.ntmps10
      go_wp2_with (first | ((with_reducible refine gate_callee (f := 14) rfl ?_); refine goesL_ (some 1) rfl rfl Try.func14 (by kernel_rfl) rfl #[.int .i64 1, .string (⟨#[112]⟩ : ByteArray)] rfl (by (try simp only [List.map_toArray, List.map_cons, List.map_nil]); first | done | rfl | (simp only [List.length_drop, List.length_take]; rfl)) ?_; (with_reducible refine (names_Special.calls k 1 (⟨#[112]⟩ : ByteArray) true _ A1.out).mono ?_); rintro e w' ⟨rfl, ⟨nd, rfl⟩⟩; refine ⟨_, rfl, ?_⟩) | (go_at_call 14; (with_reducible refine (names_Special.calls k 2 (⟨#[116, 105, 116, 108, 101]⟩ : ByteArray) false _ A3.out).mono ?_); rintro e w' ⟨rfl, ⟨nd, rfl⟩⟩))
      go_ret
      exact ⟨by first | rfl | (simp; done) | (simp [*]; done), by repeat (first | exact Drawn0.refl _ | apply Drawn0.step)⟩
  · replace c2 := Bool.eq_false_iff.mpr c2
    subst c2
    have H1 : (some false) = some r := by rw [if_neg (show ¬ (false = true) by decide)] at H; exact H
    clear H
    have H := H1
    clear H1
    obtain rfl := Option.some.inj H
    go_enter Try.func10, Try.ntmps10
    go_wp2_with (first | ((with_reducible refine gate_callee (f := 14) rfl ?_); refine goesL_ (some 1) rfl rfl Try.func14 (by kernel_rfl) rfl #[.int .i64 1, .string (⟨#[112]⟩ : ByteArray)] rfl (by (try simp only [List.map_toArray, List.map_cons, List.map_nil]); first | done | rfl | (simp only [List.length_drop, List.length_take]; rfl)) ?_; (with_reducible refine (names_Special.calls k 1 (⟨#[112]⟩ : ByteArray) false _ A1.out).mono ?_); rintro e w' ⟨rfl, ⟨nd, rfl⟩⟩; refine ⟨_, rfl, ?_⟩))
    go_ret
    exact ⟨by first | rfl | (simp; done) | (simp [*]; done), by repeat (first | exact Drawn0.refl _ | apply Drawn0.step)⟩

end Go.Proofs.Ytcjbfhnhkohbbaa.PNamesTells
