/- In plain numbers and bytes: a rune that is written is read again; what chapter 5's numbers stand for is one rune. No condition. -/
import Derived.Test.YtjmaiihgjghgjaaRefsElder
import Derived.Laws.Cover4
import Derived.Laws.IdiomStrings
namespace Go.Proofs.Ytjmaiihgjghgjaa.RefsRune
open Go.Proofs.Ytjmaiihgjghgjaa.RefsNumber

theorem valid_iff (r : Int) : Utf8.valid r = true ↔ (0 ≤ r ∧ r < 55296) ∨ (57344 ≤ r ∧ r ≤ 1114111) := by
  unfold Utf8.valid
  simp only [Bool.or_eq_true, Bool.and_eq_true, decide_eq_true_eq]

theorem decode_encode (r : Int) (h : Utf8.valid r = true) : Utf8.decode (Utf8.encode r) 0 = (r.toNat, (Utf8.encode r).size) := by
  have hv := (valid_iff r).1 h
  obtain ⟨c, rfl⟩ := Int.eq_ofNat_of_zero_le (show 0 ≤ r by omega)
  have hc : c < 1114112 := by omega
  have hv2 : Utf8.valid ((c : Nat) : Int) = true := h
  unfold Utf8.encode
  simp only [h, if_true, Int.toNat_natCast]
  by_cases h1 : c < 128
  · rw [if_pos h1]
    unfold Utf8.decode
    have e : (ByteArray.get! ⟨#[UInt8.ofNat c]⟩ (0 + 0)).toNat = c := by
      show (UInt8.ofNat c).toNat = c
      rw [UInt8.toNat_ofNat']; omega
    simp only [e]
    rw [if_pos h1]
    rfl
  · rw [if_neg h1]
    by_cases h2 : c < 2048
    · rw [if_pos h2]
      unfold Utf8.decode
      have e0 : (ByteArray.get! ⟨#[UInt8.ofNat (192 + c / 64), UInt8.ofNat (128 + c % 64)]⟩ (0 + 0)).toNat = 192 + c / 64 := by
        show (UInt8.ofNat (192 + c / 64)).toNat = _
        rw [UInt8.toNat_ofNat']; omega
      have e1 : (ByteArray.get! ⟨#[UInt8.ofNat (192 + c / 64), UInt8.ofNat (128 + c % 64)]⟩ (0 + 1)).toNat = 128 + c % 64 := by
        show (UInt8.ofNat (128 + c % 64)).toNat = _
        rw [UInt8.toNat_ofNat']; omega
      have s1 : (0 + 1 < (⟨#[UInt8.ofNat (192 + c / 64), UInt8.ofNat (128 + c % 64)]⟩ : ByteArray).size) := by show 1 < 2; omega
      simp only [e0, e1, s1, decide_true, Bool.true_and]
      rw [if_neg (by omega), if_pos (by simp; omega), if_pos (by omega)]
      have : (192 + c / 64) % 32 * 64 + (128 + c % 64) % 64 = c := by omega
      rw [this]
      rfl
    · rw [if_neg h2]
      by_cases h3 : c < 65536
      · rw [if_pos h3]
        unfold Utf8.decode
        have e0 : (ByteArray.get! ⟨#[UInt8.ofNat (224 + c / 4096), UInt8.ofNat (128 + c / 64 % 64), UInt8.ofNat (128 + c % 64)]⟩ (0 + 0)).toNat = 224 + c / 4096 := by
          show (UInt8.ofNat (224 + c / 4096)).toNat = _
          rw [UInt8.toNat_ofNat']; omega
        have e1 : (ByteArray.get! ⟨#[UInt8.ofNat (224 + c / 4096), UInt8.ofNat (128 + c / 64 % 64), UInt8.ofNat (128 + c % 64)]⟩ (0 + 1)).toNat = 128 + c / 64 % 64 := by
          show (UInt8.ofNat (128 + c / 64 % 64)).toNat = _
          rw [UInt8.toNat_ofNat']; omega
        have e2 : (ByteArray.get! ⟨#[UInt8.ofNat (224 + c / 4096), UInt8.ofNat (128 + c / 64 % 64), UInt8.ofNat (128 + c % 64)]⟩ (0 + 2)).toNat = 128 + c % 64 := by
          show (UInt8.ofNat (128 + c % 64)).toNat = _
          rw [UInt8.toNat_ofNat']; omega
        have s1 : (0 + 1 < (⟨#[UInt8.ofNat (224 + c / 4096), UInt8.ofNat (128 + c / 64 % 64), UInt8.ofNat (128 + c % 64)]⟩ : ByteArray).size) := by show 1 < 3; omega
        have s2 : (0 + 2 < (⟨#[UInt8.ofNat (224 + c / 4096), UInt8.ofNat (128 + c / 64 % 64), UInt8.ofNat (128 + c % 64)]⟩ : ByteArray).size) := by show 2 < 3; omega
        have e : (224 + c / 4096) % 16 * 4096 + (128 + c / 64 % 64) % 64 * 64 + (128 + c % 64) % 64 = c := by omega
        simp only [e0, e1, e2, s1, s2, decide_true, Bool.true_and, e, hv2]
        rw [if_neg (by omega), if_neg (by simp; omega), if_pos (by simp; omega), if_pos (by simp; omega)]
        rfl
      · rw [if_neg h3]
        unfold Utf8.decode
        have e0 : (ByteArray.get! ⟨#[UInt8.ofNat (240 + c / 262144), UInt8.ofNat (128 + c / 4096 % 64), UInt8.ofNat (128 + c / 64 % 64), UInt8.ofNat (128 + c % 64)]⟩ (0 + 0)).toNat = 240 + c / 262144 := by
          show (UInt8.ofNat (240 + c / 262144)).toNat = _
          rw [UInt8.toNat_ofNat']; omega
        have e1 : (ByteArray.get! ⟨#[UInt8.ofNat (240 + c / 262144), UInt8.ofNat (128 + c / 4096 % 64), UInt8.ofNat (128 + c / 64 % 64), UInt8.ofNat (128 + c % 64)]⟩ (0 + 1)).toNat = 128 + c / 4096 % 64 := by
          show (UInt8.ofNat (128 + c / 4096 % 64)).toNat = _
          rw [UInt8.toNat_ofNat']; omega
        have e2 : (ByteArray.get! ⟨#[UInt8.ofNat (240 + c / 262144), UInt8.ofNat (128 + c / 4096 % 64), UInt8.ofNat (128 + c / 64 % 64), UInt8.ofNat (128 + c % 64)]⟩ (0 + 2)).toNat = 128 + c / 64 % 64 := by
          show (UInt8.ofNat (128 + c / 64 % 64)).toNat = _
          rw [UInt8.toNat_ofNat']; omega
        have e3 : (ByteArray.get! ⟨#[UInt8.ofNat (240 + c / 262144), UInt8.ofNat (128 + c / 4096 % 64), UInt8.ofNat (128 + c / 64 % 64), UInt8.ofNat (128 + c % 64)]⟩ (0 + 3)).toNat = 128 + c % 64 := by
          show (UInt8.ofNat (128 + c % 64)).toNat = _
          rw [UInt8.toNat_ofNat']; omega
        have s1 : (0 + 1 < (⟨#[UInt8.ofNat (240 + c / 262144), UInt8.ofNat (128 + c / 4096 % 64), UInt8.ofNat (128 + c / 64 % 64), UInt8.ofNat (128 + c % 64)]⟩ : ByteArray).size) := by show 1 < 4; omega
        have s2 : (0 + 2 < (⟨#[UInt8.ofNat (240 + c / 262144), UInt8.ofNat (128 + c / 4096 % 64), UInt8.ofNat (128 + c / 64 % 64), UInt8.ofNat (128 + c % 64)]⟩ : ByteArray).size) := by show 2 < 4; omega
        have s3 : (0 + 3 < (⟨#[UInt8.ofNat (240 + c / 262144), UInt8.ofNat (128 + c / 4096 % 64), UInt8.ofNat (128 + c / 64 % 64), UInt8.ofNat (128 + c % 64)]⟩ : ByteArray).size) := by show 3 < 4; omega
        have e : (240 + c / 262144) % 8 * 262144 + (128 + c / 4096 % 64) % 64 * 4096 + (128 + c / 64 % 64) % 64 * 64 + (128 + c % 64) % 64 = c := by omega
        simp only [e0, e1, e2, e3, s1, s2, s3, decide_true, Bool.true_and, e, hv2]
        rw [if_neg (by omega), if_neg (by simp; omega), if_neg (by simp; omega), if_pos (by simp; omega), if_pos (by simp; omega)]
        rfl

theorem encode_pos (r : Int) : 0 < (Utf8.encode r).size := by
  unfold Utf8.encode
  generalize (if Utf8.valid r = true then r.toNat else Utf8.runeError) = c
  dsimp only
  split
  · show 0 < 1; omega
  · split
    · show 0 < 2; omega
    · split
      · show 0 < 3; omega
      · show 0 < 4; omega

theorem runes_end (s : ByteArray) (acc : Array Value) : ∀ b, Conv.runesFrom s b s.size acc = acc
  | 0 => rfl
  | b + 1 => by unfold Conv.runesFrom; rw [if_neg (Nat.lt_irrefl _)]

/-- The runes of a rune's text: that rune. -/
theorem runes_one (r : Int) (h : Utf8.valid r = true) : Conv.runesFrom (Utf8.encode r) (Utf8.encode r).size 0 #[] = #[.int .i32 r] := by
  have hp := encode_pos r
  have hd := decode_encode r h
  generalize Utf8.encode r = s at *
  obtain ⟨b, hb⟩ : ∃ b, s.size = b + 1 := ⟨s.size - 1, by omega⟩
  have h0 : 0 ≤ r := by have := (valid_iff r).1 h; omega
  rw [hb]
  unfold Conv.runesFrom
  rw [if_pos hp, hd]
  show Conv.runesFrom s b (0 + s.size) _ = _
  rw [Nat.zero_add, runes_end]
  show #[Value.int .i32 (Int.ofNat r.toNat)] = _
  rw [show Int.ofNat r.toNat = r by simp; omega]

/-- Chapter 5: a number stands for one rune; a printable sign for itself. -/
theorem text_rune (n : Int) : ∃ r : Int, numText n = Utf8.encode r ∧ Utf8.valid r = true ∧ 0 ≤ r ∧ r ≤ 1114111 ∧ (r < 55296 ∨ 57343 < r) ∧ ((32 ≤ n ∧ n < 127) ∨ (160 ≤ n ∧ n < 55296) → r = n) := by
  cases hb : badN n with
  | true =>
    refine ⟨65533, by rw [text_bad hb]; rfl, by decide, by omega, by omega, by omega, fun h => ?_⟩
    have := bad_yes hb
    omega
  | false =>
    obtain ⟨h1, h2, h3⟩ := bad_parts hb
    by_cases ho : 128 ≤ n ∧ n < 160
    · by_cases h0 : E.getD (n - 128).toNat 0 = 0
      · exact ⟨n, text_old0 hb ho h0, (valid_iff n).2 (by omega), by omega, by omega, by omega, fun _ => rfl⟩
      · have he : ∀ j, j < 32 → (0 ≤ E.getD j 0 ∧ E.getD j 0 < 55296) := by decide
        have := he (n - 128).toNat (by omega)
        exact ⟨_, text_old1 hb ho h0, (valid_iff _).2 (by omega), by omega, by omega, by omega, fun h => by omega⟩
    · exact ⟨n, text_own hb (by omega), (valid_iff n).2 (by omega), by omega, by omega, by omega, fun _ => rfl⟩
end Go.Proofs.Ytjmaiihgjghgjaa.RefsRune
