/- arbourbook.Intact over what Roomy made: true. Plain. -/
import Derived.Test.YtgjnopabdipleaaPAttrsTellsx4
import Derived.Test.YtgjnopabdipleaaAttrsRoomy
namespace Go.Proofs.Ytgjnopabdipleaa.Attrs
open Go.RowKit Go.Proofs.Ytgjnopabdipleaa.PAttrsTells Go.Proofs.YtgjnopabdipleaaW.PrintWords Go.Proofs.YtgjnopabdipleaaW.PrintLast

theorem wrap_one (i : Nat) (h : i < 1000000000) : wrap64 ((i : Int) + 1) = ((i + 1 : Nat) : Int) := by unfold wrap64; omega
theorem same33_loop (xs : List S29) (hx : xs.length < 1000000) : ∀ (d k i : Nat), i ≤ xs.length → xs.length - i = d → d < k → api_Attr_33.l0 k xs xs (i : Int) = some true := by
  intro d
  induction d with
  | zero =>
    intro k i hi hd hk
    obtain ⟨m, rfl⟩ : ∃ m, k = m + 1 := ⟨k - 1, by omega⟩
    unfold api_Attr_33.l0
    rw [if_neg (by omega)]
  | succ d ih =>
    intro k i hi hd hk
    obtain ⟨m, rfl⟩ : ∃ m, k = m + 1 := ⟨k - 1, by omega⟩
    unfold api_Attr_33.l0
    rw [if_pos (by omega), if_pos (by omega), if_pos (by omega), if_neg (by simp), wrap_one i (by omega)]
    exact ih m (i + 1) (by omega) (by omega) (by omega)
theorem same33 (xs : List S29) (hx : xs.length < 1000) (k : Nat) (hk : 1000 ≤ k) : api_Attr_33.f k xs xs = some true := by
  unfold api_Attr_33.f
  rw [if_pos rfl]
  exact same33_loop xs (by omega) xs.length k 0 (by omega) (by omega) (by omega)
theorem roomy_len (xs : List S29) (m : S29) : (roomy xs m).length = xs.length + 80 := by unfold roomy; simp
theorem roomy_take (xs : List S29) (m : S29) : (roomy xs m).take xs.length = xs := by unfold roomy; rw [List.take_left]
theorem roomy_get (xs : List S29) (m : S29) (i : Nat) (h1 : xs.length ≤ i) (h2 : i < xs.length + 80) : (roomy xs m).getD i z29 = m := by
  unfold roomy
  rw [List.getD_eq_getElem?_getD, List.getElem?_append_right h1, List.getElem?_replicate, if_pos (by omega)]
  rfl
theorem intact_loop (xs : List S29) (a b : ByteArray) (hx : xs.length < 1000000) : ∀ (d k i : Nat), xs.length ≤ i → i ≤ xs.length + 80 → xs.length + 80 - i = d → d < k → api_Attr_18.l0 k (roomy xs ⟨a, b⟩) (i : Int) a b = some true := by
  intro d
  induction d with
  | zero =>
    intro k i h1 hi hd hk
    obtain ⟨m, rfl⟩ : ∃ m, k = m + 1 := ⟨k - 1, by omega⟩
    unfold api_Attr_18.l0
    rw [if_neg (by rw [roomy_len]; omega)]
  | succ d ih =>
    intro k i h1 hi hd hk
    obtain ⟨m, rfl⟩ : ∃ m, k = m + 1 := ⟨k - 1, by omega⟩
    unfold api_Attr_18.l0
    have hg : rd_T29 (roomy xs ⟨a, b⟩) (i : Int) = ⟨a, b⟩ := by unfold rd_T29; rw [Int.toNat_natCast]; exact roomy_get xs _ i h1 (by omega)
    rw [if_pos (by rw [roomy_len]; omega), if_pos (by omega), hg, if_neg (by simp), wrap_one i (by omega)]
    exact ih m (i + 1) (by omega) (by omega) (by omega) (by omega)
theorem intact_true (xs : List S29) (a b : ByteArray) (hx : xs.length < 900) (k : Nat) (hk : 2000 ≤ k) : api_Attr_18.f k (roomy xs ⟨a, b⟩) xs a b = some true := by
  have ew : wrap64 ((xs.length : Int) + 80) = ((roomy xs ⟨a, b⟩).length : Int) := by rw [roomy_len]; unfold wrap64; omega
  unfold api_Attr_18.f
  rw [if_pos ew.symm, if_pos (by omega), if_pos (by rw [roomy_len]; omega), Int.toNat_natCast, roomy_take, same33 xs (by omega) k (by omega), Option.bind_some]
  obtain ⟨m, rfl⟩ : ∃ m, k = m + 1 := ⟨k - 1, by omega⟩
  rw [show api_Attr_18.j0 (m + 1) (roomy xs ⟨a, b⟩) xs (!true) a b = api_Attr_18.l0 m (roomy xs ⟨a, b⟩) (xs.length : Int) a b from by rw [api_Attr_18.j0]; exact if_neg (by decide)]
  exact intact_loop xs a b (by omega) 80 m xs.length (by omega) (by omega) (by omega) (by omega)
end Go.Proofs.Ytgjnopabdipleaa.Attrs
