/- The plain laws: the names that the reference tells apart are those that the program does. -/
import Derived.Test.YtpofjfnlchpmbaaAttrsMoreWalk
import Derived.Test.YtpofjfnlchpmbaaPContextTellsx2
namespace Go.Proofs.Ytpofjfnlchpmbaa.Ctx
open Go.RowKit Go.Proofs.Ytpofjfnlchpmbaa.PContextTells Go.Proofs.YtpofjfnlchpmbaaW.PrintWords Go.Proofs.YtpofjfnlchpmbaaW.PrintLast
theorem wrap_nat (i : Nat) (h : i < 1000000000) : wrap64 ((i : Int) + 1) = ((i + 1 : Nat) : Int) := by unfold wrap64; omega


theorem has_loop (xs : List S44) (nm : ByteArray) (hx : xs.length < 1000000) : ∀ (d k i : Nat), i ≤ xs.length → xs.length - i = d → d < k → arbourref7_Has.l0 k xs nm (i : Int) = some (fndFrom nm (xs.drop i) i) := by
  intro d
  induction d with
  | zero =>
    intro k i hi hd hk
    obtain ⟨k, rfl⟩ : ∃ m, k = m + 1 := ⟨k - 1, by omega⟩
    simp only [arbourref7_Has.l0]
    rw [if_neg (by omega), fnd_end nm xs i (by omega)]
  | succ d ih =>
    intro k i hi hd hk
    obtain ⟨k, rfl⟩ : ∃ m, k = m + 1 := ⟨k - 1, by omega⟩
    have e1 : rd_T44 xs (i : Int) = xs.getD i z44 := by unfold rd_T44; rw [Int.toNat_natCast]
    simp only [arbourref7_Has.l0]
    rw [if_pos (by omega), if_pos (by omega), wrap_nat i (by omega), e1, fnd_step nm xs i (by omega)]
    by_cases h : (xs.getD i z44).f0.toList = nm.toList
    · rw [if_pos h, if_pos (by unfold hit; rw [beq_iff_eq]; exact h)]
    · rw [if_neg h, if_neg (by unfold hit; rw [beq_iff_eq]; exact h)]
      exact ih k (i + 1) (by omega) (by omega) (by omega)
theorem has_some (xs : List S44) (nm : ByteArray) (hx : xs.length < 1000000) (k : Nat) (hk : xs.length < k) : arbourref7_Has.f k xs nm = some (fnd xs nm) := by
  unfold arbourref7_Has.f fnd
  have := has_loop xs nm hx xs.length k 0 (by omega) (by omega) hk
  rw [List.drop_zero] at this
  exact this
theorem add_some (xs : List S44) (a b : ByteArray) (hx : xs.length < 1000000) (k : Nat) (hk : xs.length < k) : arbourref7_Add.f k xs a b = some (addL xs ⟨a, b⟩) := by
  unfold arbourref7_Add.f addL
  simp only [Option.bind_some, List.length_nil, List.nil_append]
  rw [if_pos (by omega), has_some xs a hx k hk]
  simp only [Option.bind_some]
  split
  · rw [if_pos (by omega)]
  · rfl
theorem more_loop (ys : List S44) : ∀ (d k i : Nat) (xs : List S44), i ≤ ys.length → ys.length - i = d → xs.length + d < 1000000 → ys.length < 1000000 → xs.length + 2 * d + 2 < k → arbourref7_More.l0 k ys xs (i : Int) = some (moreL xs (ys.drop i)) := by
  intro d
  induction d with
  | zero =>
    intro k i xs hi hd hx hy hk
    obtain ⟨k, rfl⟩ : ∃ m, k = m + 1 := ⟨k - 1, by omega⟩
    simp only [arbourref7_More.l0]
    rw [if_neg (by omega), List.drop_of_length_le (by omega)]
    rfl
  | succ d ih =>
    intro k i xs hi hd hx hy hk
    obtain ⟨k, rfl⟩ : ∃ m, k = m + 1 := ⟨k - 1, by omega⟩
    have e1 : rd_T44 ys (i : Int) = ys.getD i z44 := by unfold rd_T44; rw [Int.toNat_natCast]
    have hlt : i < ys.length := by omega
    have e2 : ys.drop i = ys.getD i z44 :: ys.drop (i + 1) := by rw [List.drop_eq_getElem_cons hlt, List.getD_eq_getElem?_getD, List.getElem?_eq_getElem hlt]; rfl
    simp only [arbourref7_More.l0]
    rw [if_pos (by omega), if_pos (by omega), wrap_nat i (by omega), e1, add_some xs _ _ (by omega) k (by omega)]
    simp only [Option.bind_some]
    have hl := addL_len xs (ys.getD i z44)
    rw [e2]
    exact ih k (i + 1) (addL xs (ys.getD i z44)) (by omega) (by omega) (by omega) hy (by omega)
theorem more_some (xs ys : List S44) (hx : xs.length + ys.length < 1000000) (k : Nat) (hk : xs.length + 2 * ys.length + 2 < k) : arbourref7_More.f k xs ys = some (moreL xs ys) := by
  unfold arbourref7_More.f
  simp only [Option.bind_some, List.length_nil, List.nil_append]
  rw [if_pos (by omega)]
  have := more_loop ys ys.length k 0 xs (by omega) (by omega) (by omega) (by omega) hk
  rw [List.drop_zero] at this
  exact this
theorem unique_some (xs : List S44) (hx : xs.length < 1000000) (k : Nat) (hk : 2 * xs.length + 2 < k) : arbourref7_Unique.f k xs = some (moreL [] xs) := by
  unfold arbourref7_Unique.f
  rw [more_some [] xs (by simpa using hx) k (by simpa using hk)]
  rfl
end Go.Proofs.Ytpofjfnlchpmbaa.Ctx
