/- The walk of arbourlaw16.digits: a number's decimal numeral. -/
import Derived.Test.YtbljbgjecnmeeaaDoorOpText
import Derived.Outline
namespace Go.Proofs.YtbljbgjecnmeeaaDoor.OpP
open Go.RowKit Go.Proofs.YtbljbgjecnmeeaaDoor.POpTells Go.Proofs.YtbljbgjecnmeeaaDoorW.PrintWords Go.Proofs.YtbljbgjecnmeeaaDoorW.PrintLast
set_option linter.unusedVariables false
set_option linter.unusedSimpArgs false
theorem enc_dig : ∀ d : Nat, d < 10 → Utf8.encode (48 + (d : Int)) = ⟨#[UInt8.ofNat (48 + d)]⟩ := by decide +kernel
/-- What is still to come. -/
def digRest (m : Nat) (s : List UInt8) : List UInt8 := if m = 0 ∧ s ≠ [] then [] else Lib.decDigits m
theorem dig_step (m : Nat) (s : List UInt8) (h : ¬ (m = 0 ∧ s ≠ [])) : digRest m s ++ s = digRest (m / 10) (UInt8.ofNat (48 + m % 10) :: s) ++ (UInt8.ofNat (48 + m % 10) :: s) := by
  unfold digRest
  rw [if_neg h, Lib.decDigits]
  by_cases h1 : m < 10
  · rw [dif_pos h1, if_pos ⟨by omega, by simp⟩, show m % 10 = m from by omega]
    rfl
  · rw [dif_neg h1, if_neg (by omega), List.append_assoc]
    rfl
def digMeas (v s : Value) : Nat := 2 * (intOf v).toNat + (match s with | .string b => if b.size = 0 then 1 else 0 | _ => 0)
set_option maxHeartbeats 4000000 in
set_option maxRecDepth 100000 in
theorem digitsN (n : Nat) (hn : n ≤ 9223372036854775807) (w : World) : Calls Tryd.prog 34 #[.int .i64 (n : Int)] w fun e w' => e = .returned (.string ⟨(Lib.decDigits n).toArray⟩) ∧ w' = w := by
  have k0 : ¬ (n : Int) < 0 := by omega
  go_enter Tryd.func34, Tryd.ntmps34
  go_wp2_with fail
  go_loopw [0, 3] (fun v s wr => ∃ (m : Nat) (sb : ByteArray), v = .int .i64 (m : Int) ∧ s = .string sb ∧ m ≤ n ∧ Aside0 (Lib.decDigits n = digRest m (bts sb) ++ bts sb) ∧ Aside0 (wr = w)) (fun v s _ => digMeas v s)
  case atStart => exact ⟨n, ⟨#[]⟩, rfl, rfl, Nat.le_refl _, ⟨by unfold digRest bts; simp⟩, ⟨rfl⟩⟩
  case round =>
    obtain ⟨m, sb, rfl, rfl, hm, HD, HW⟩ := hrel
    have hsz : sb.size ≤ 21 := by
      have h1 := Lib.itoa_length_le (n : Int) (by omega) (by omega)
      rw [Lib.itoa_nonneg, HD.out, List.length_append] at h1
      have e : sb.size = (bts sb).length := by unfold bts; rw [Array.length_toList]; rfl
      omega
    have henc := enc_dig (m % 10) (by omega)
    have hcast : ((m % 10 : Nat) : Int) = (m : Int) % 10 := by omega
    rw [hcast] at henc
    have hes : (Utf8.encode (48 + (m : Int) % 10)).size = 1 := by rw [henc]; rfl
    have hb : bts (Utf8.encode (48 + (m : Int) % 10) ++ sb) = UInt8.ofNat (48 + m % 10) :: bts sb := by
      rw [henc]
      unfold bts
      rw [ByteArray.data_append, Array.toList_append]
      rfl
    have hq : ((m / 10 : Nat) : Int) = (m : Int) / 10 := by omega
    have n1 : ¬ 9223372036854775807 < (Utf8.encode (48 + (m : Int) % 10)).size + sb.size := by rw [hes]; omega
    have HB := hide hb
    have HES := hide hes
    have HQ := hide hq
    clear henc hcast hes hb hq
    by_cases h0 : 0 < m
    · have k1 : (0 : Int) < (m : Int) := by omega
      go_wp2_with fail
      go_roundw
      case rel => exact ⟨m / 10, _, by rw [← HQ.out], rfl, by omega, ⟨by rw [HB.out, HD.out]; exact dig_step m _ (by omega)⟩, HW⟩
      case measure =>
        unfold digMeas
        rw [← HQ.out]
        dsimp only [intOf]
        rw [Int.toNat_natCast, Int.toNat_natCast]
        rw [if_neg (by rw [ByteArray.size_append, HES.out]; omega)]
        split <;> omega
    · have k1 : ¬ (0 : Int) < (m : Int) := by omega
      have hm0 : m = 0 := by omega
      by_cases hs : sb.size = 0
      · have hl : sb.toList = [] := by rw [ByteArray.toList_eq]; exact List.eq_nil_of_length_eq_zero hs
        have hl2 : sb.toList.isEmpty = true := by rw [hl]; rfl
        have HS := hide hs
        have HM := hide hm0
        have HL := hide hl
        clear hs hm0
        go_wp2_with fail
        go_roundw
        case rel => exact ⟨m / 10, _, by rw [← HQ.out], rfl, by omega, ⟨by rw [HB.out, HD.out]; exact dig_step m _ (fun h => h.2 (by have := HL.out; rw [ByteArray.toList_eq] at this; exact this))⟩, HW⟩
        case measure =>
          unfold digMeas
          rw [← HQ.out]
          dsimp only [intOf]
          rw [Int.toNat_natCast, Int.toNat_natCast]
          rw [if_neg (by rw [ByteArray.size_append, HES.out]; omega), if_pos HS.out]
          have := HM.out
          omega
      · have hl : ¬ sb.toList = [] := by rw [ByteArray.toList_eq]; intro h; exact hs (congrArg List.length h)
        have hl2 : sb.toList.isEmpty = false := by rw [List.isEmpty_eq_false_iff]; exact hl
        have hfin : (⟨(Lib.decDigits n).toArray⟩ : ByteArray) = sb := by
          have h := HD.out
          unfold digRest at h
          rw [if_pos ⟨hm0, by intro h2; exact hs (congrArg List.length h2)⟩, List.nil_append] at h
          rw [h]
          unfold bts
          simp
        have HF := hide hfin
        clear hs hm0 hfin
        go_wp2_with fail
        go_ret
        exact ⟨by rw [HF.out]; rfl, HW.out⟩
/-- A number told by 'digits'. -/
def digL (n : Int) : List UInt8 := if n < -4611686018427387904 then [63] else Lib.itoa n
set_option maxHeartbeats 4000000 in
set_option maxRecDepth 100000 in
theorem digits (n : Int) (hi : I64 n) (w : World) : Calls Tryd.prog 34 #[.int .i64 n] w fun e w' => e = .returned (.string ⟨(digL n).toArray⟩) ∧ w' = w := by
  obtain ⟨h0, h1⟩ := hi
  by_cases hn : 0 ≤ n
  · obtain ⟨m, rfl⟩ : ∃ m : Nat, n = (m : Int) := ⟨n.toNat, by omega⟩
    have e : digL (m : Int) = Lib.decDigits m := by unfold digL; rw [if_neg (by omega), Lib.itoa_nonneg]
    rw [e]
    exact digitsN m (by omega) w
  · by_cases hs : n < -4611686018427387904
    · have e : digL n = [63] := by unfold digL; rw [if_pos hs]
      rw [e]
      have k1 : n < 0 := by omega
      clear e hn
      go_enter Tryd.func34, Tryd.ntmps34
      go_wp2_with fail
      go_ret
      exact ⟨rfl, rfl⟩
    · obtain ⟨m, hm⟩ : ∃ m : Nat, n = -(m : Int) := ⟨(-n).toNat, by omega⟩
      have e : digL n = 45 :: Lib.decDigits m := by
        unfold digL Lib.itoa
        rw [if_neg hs, if_pos (by omega), show n.natAbs = m from by omega]
      have e1 : -n = (m : Int) := by omega
      have hlen := Lib.itoa_length_le (m : Int) (by omega) (by omega)
      rw [Lib.itoa_nonneg] at hlen
      have HD := hide (digitsN m (by omega) w)
      rw [← e1] at HD
      have hfin : (⟨#[45]⟩ : ByteArray) ++ ⟨(Lib.decDigits m).toArray⟩ = ⟨(digL n).toArray⟩ := by
        rw [e]
        apply ByteArray.ext
        rw [ByteArray.data_append]
        simp
      obtain ⟨sb, hsb⟩ : ∃ s : ByteArray, (⟨(Lib.decDigits m).toArray⟩ : ByteArray) = s := ⟨_, rfl⟩
      obtain ⟨sr, hsr⟩ : ∃ s : ByteArray, (⟨(digL n).toArray⟩ : ByteArray) = s := ⟨_, rfl⟩
      have hss : sb.size ≤ 21 := by rw [← hsb]; exact hlen
      rw [hsb] at HD hfin
      rw [hsr] at hfin ⊢
      have HF := hide hfin
      have k1 : n < 0 := by omega
      have n1 : ¬ 9223372036854775807 < 1 + sb.size := by omega
      clear e e1 hlen hfin hsb hsr hn hm
      go_enter Tryd.func34, Tryd.ntmps34
      go_wp2_with fail
      refine HD.out.mono ?_
      rintro e w' ⟨rfl, rfl⟩
      dsimp only
      go_wp2_with fail
      go_ret
      exact ⟨by rw [← HF.out]; rfl, rfl⟩
end Go.Proofs.YtbljbgjecnmeeaaDoor.OpP
