/- In plain lists: what the reference of chapter 7 answers, in the words of the program's own. No condition but lengths below a bound. -/
import Derived.Test.YtgjnopabdipleaaAttrsAlike
import Derived.Lib.Strings
namespace Go.Proofs.Ytgjnopabdipleaa.Attrs
open Go.RowKit Go.Proofs.Ytgjnopabdipleaa.PAttrsTells Go.Proofs.YtgjnopabdipleaaW.PrintWords Go.Proofs.YtgjnopabdipleaaW.PrintLast

def eqA (x y : S29) : Bool := (x.f0.toList == y.f0.toList) && (x.f1.toList == y.f1.toList)
def eqAll : List S29 → List S29 → Bool
  | [], [] => true
  | x :: xs, y :: ys => eqA x y && eqAll xs ys
  | _, _ => false
theorem eqA_refl (x : S29) : eqA x x = true := by unfold eqA; simp
theorem eqAll_refl : ∀ xs : List S29, eqAll xs xs = true
  | [] => rfl
  | x :: xs => by unfold eqAll; rw [eqA_refl, eqAll_refl xs]; rfl
theorem eqAll_len : ∀ xs ys : List S29, eqAll xs ys = true → xs.length = ys.length
  | [], [], _ => rfl
  | x :: xs, y :: ys, h => by
    unfold eqAll at h
    rw [Bool.and_eq_true] at h
    simp [eqAll_len xs ys h.2]
  | [], _ :: _, h => by simp [eqAll] at h
  | _ :: _, [], h => by simp [eqAll] at h
theorem eqAll_ne (xs ys : List S29) (h : xs.length ≠ ys.length) : eqAll xs ys = false := by
  cases hq : eqAll xs ys
  · rfl
  · exact absurd (eqAll_len xs ys hq) h
theorem eqAll_drop (xs ys : List S29) (i : Nat) (h1 : i < xs.length) (h2 : i < ys.length) : eqAll (xs.drop i) (ys.drop i) = (eqA (xs.getD i z29) (ys.getD i z29) && eqAll (xs.drop (i + 1)) (ys.drop (i + 1))) := by
  rw [List.drop_eq_getElem_cons h1, List.drop_eq_getElem_cons h2, List.getD_eq_getElem?_getD, List.getD_eq_getElem?_getD, List.getElem?_eq_getElem h1, List.getElem?_eq_getElem h2]
  rfl
theorem cmp_eq (x y : S29) : (!(x.f0.toList == y.f0.toList) || (!(x.f1.toList == y.f1.toList))) = !eqA x y := by
  unfold eqA
  cases (x.f0.toList == y.f0.toList) <;> rfl
theorem wrap_nat (i : Nat) (h : i < 1000000000) : wrap64 ((i : Int) + 1) = ((i + 1 : Nat) : Int) := by unfold wrap64; omega


theorem arbourref7_Same_loop (xs ys : List S29) (hl : xs.length = ys.length) (hx : xs.length < 1000000) : ∀ (d k i : Nat), i ≤ xs.length → xs.length - i = d → d < k → arbourref7_Same.l0 k xs ys (i : Int) = some (eqAll (xs.drop i) (ys.drop i)) := by
  intro d
  induction d with
  | zero =>
    intro k i hi hd hk
    obtain ⟨k, rfl⟩ : ∃ m, k = m + 1 := ⟨k - 1, by omega⟩
    simp only [arbourref7_Same.l0]
    rw [if_neg (by omega), List.drop_of_length_le (by omega), List.drop_of_length_le (by omega)]
    rfl
  | succ d ih =>
    intro k i hi hd hk
    obtain ⟨k, rfl⟩ : ∃ m, k = m + 1 := ⟨k - 1, by omega⟩
    simp only [arbourref7_Same.l0]
    rw [if_pos (by omega), if_pos (by omega), if_pos (by omega), cmp_eq, wrap_nat i (by omega), eqAll_drop xs ys i (by omega) (by omega)]
    have e1 : rd_T29 xs (i : Int) = xs.getD i z29 := by unfold rd_T29; rw [Int.toNat_natCast]
    have e2 : rd_T29 ys (i : Int) = ys.getD i z29 := by unfold rd_T29; rw [Int.toNat_natCast]
    rw [e1, e2]
    cases eqA (xs.getD i z29) (ys.getD i z29)
    · rw [if_pos (by decide)]; rfl
    · rw [if_neg (by decide), ih k (i + 1) (by omega) (by omega) (by omega)]; rfl
theorem arbourref7_Same_some (xs ys : List S29) (hx : xs.length < 1000000) (k : Nat) (hk : xs.length < k) : arbourref7_Same.f k xs ys = some (eqAll xs ys) := by
  unfold arbourref7_Same.f
  by_cases h : xs.length = ys.length
  · rw [if_pos (by omega)]
    have := arbourref7_Same_loop xs ys h hx xs.length k 0 (by omega) (by omega) hk
    rw [List.drop_zero, List.drop_zero] at this
    exact this
  · rw [if_neg (by omega), eqAll_ne xs ys h]


theorem api_Attr_22_loop (xs ys : List S29) (hl : xs.length = ys.length) (hx : xs.length < 1000000) : ∀ (d k i : Nat), i ≤ xs.length → xs.length - i = d → d < k → api_Attr_22.l0 k xs ys (xs.length : Int) (i : Int) = some (eqAll (xs.drop i) (ys.drop i)) := by
  intro d
  induction d with
  | zero =>
    intro k i hi hd hk
    obtain ⟨k, rfl⟩ : ∃ m, k = m + 1 := ⟨k - 1, by omega⟩
    simp only [api_Attr_22.l0]
    rw [if_neg (by omega), List.drop_of_length_le (by omega), List.drop_of_length_le (by omega)]
    rfl
  | succ d ih =>
    intro k i hi hd hk
    obtain ⟨k, rfl⟩ : ∃ m, k = m + 1 := ⟨k - 1, by omega⟩
    simp only [api_Attr_22.l0]
    rw [if_pos (by omega), if_pos (by omega), if_pos (by omega), if_pos (by omega), cmp_eq, wrap_nat i (by omega), eqAll_drop xs ys i (by omega) (by omega)]
    have e1 : rd_T29 xs (i : Int) = xs.getD i z29 := by unfold rd_T29; rw [Int.toNat_natCast]
    have e2 : rd_T29 ys (i : Int) = ys.getD i z29 := by unfold rd_T29; rw [Int.toNat_natCast]
    rw [e1, e2]
    cases eqA (xs.getD i z29) (ys.getD i z29)
    · rw [if_pos (by decide)]; rfl
    · rw [if_neg (by decide), ih k (i + 1) (by omega) (by omega) (by omega)]; rfl
theorem api_Attr_22_some (xs ys : List S29) (hx : xs.length < 1000000) (k : Nat) (hk : xs.length < k) : api_Attr_22.f k xs ys = some (eqAll xs ys) := by
  unfold api_Attr_22.f
  by_cases h : xs.length = ys.length
  · rw [if_pos (by omega)]
    have := api_Attr_22_loop xs ys h hx xs.length k 0 (by omega) (by omega) hk
    rw [List.drop_zero, List.drop_zero] at this
    exact this
  · rw [if_neg (by omega), eqAll_ne xs ys h]

theorem attrsSame_some (xs ys : List S29) (hx : xs.length < 1000000) (k : Nat) (hk : xs.length < k) : attrs_Same.f k xs ys = some (eqAll xs ys) := by
  unfold attrs_Same.f
  rw [api_Attr_22_some xs ys hx k hk]; rfl
theorem keepAttrs_some (xs ys : List S29) (hx : xs.length < 1000000) (k : Nat) (hk : xs.length < k) : arbourkeep_Attrs.f k xs ys = some (eqAll xs ys) := by
  unfold arbourkeep_Attrs.f
  rw [arbourref7_Same_some xs ys hx k hk]; rfl

theorem has_loop (xs : List S29) (nm : ByteArray) (hx : xs.length < 1000000) : ∀ (d k i : Nat), i ≤ xs.length → xs.length - i = d → d < k → arbourref7_Has.l0 k xs nm (i : Int) = some (fndFrom nm (xs.drop i) i) := by
  intro d
  induction d with
  | zero =>
    intro k i hi hd hk
    obtain ⟨k, rfl⟩ : ∃ m, k = m + 1 := ⟨k - 1, by omega⟩
    simp only [arbourref7_Has.l0]
    rw [if_neg (by omega), fnd_end nm xs i (by omega)]
  | succ d ih =>
    intro k i hi hd hk
    obtain ⟨k, rfl⟩ : ∃ m, k = m + 1 := ⟨k - 1, by omega⟩
    have e1 : rd_T29 xs (i : Int) = xs.getD i z29 := by unfold rd_T29; rw [Int.toNat_natCast]
    simp only [arbourref7_Has.l0]
    rw [if_pos (by omega), if_pos (by omega), wrap_nat i (by omega), e1, fnd_step nm xs i (by omega)]
    by_cases h : (xs.getD i z29).f0.toList = nm.toList
    · rw [if_pos h, if_pos (by unfold hit; rw [beq_iff_eq]; exact h)]
    · rw [if_neg h, if_neg (by unfold hit; rw [beq_iff_eq]; exact h)]
      exact ih k (i + 1) (by omega) (by omega) (by omega)
theorem has_some (xs : List S29) (nm : ByteArray) (hx : xs.length < 1000000) (k : Nat) (hk : xs.length < k) : arbourref7_Has.f k xs nm = some (fnd xs nm) := by
  unfold arbourref7_Has.f fnd
  have := has_loop xs nm hx xs.length k 0 (by omega) (by omega) hk
  rw [List.drop_zero] at this
  exact this
theorem add_some (xs : List S29) (a b : ByteArray) (hx : xs.length < 1000000) (k : Nat) (hk : xs.length < k) : arbourref7_Add.f k xs a b = some (addL xs ⟨a, b⟩) := by
  unfold arbourref7_Add.f addL
  simp only [Option.bind_some, List.length_nil, List.nil_append]
  rw [if_pos (by omega), has_some xs a hx k hk]
  simp only [Option.bind_some]
  split
  · rw [if_pos (by omega)]
  · rfl
theorem more_loop (ys : List S29) : ∀ (d k i : Nat) (xs : List S29), i ≤ ys.length → ys.length - i = d → xs.length + d < 1000000 → ys.length < 1000000 → xs.length + 2 * d + 2 < k → arbourref7_More.l0 k ys xs (i : Int) = some (moreL xs (ys.drop i)) := by
  intro d
  induction d with
  | zero =>
    intro k i xs hi hd hx hy hk
    obtain ⟨k, rfl⟩ : ∃ m, k = m + 1 := ⟨k - 1, by omega⟩
    simp only [arbourref7_More.l0]
    rw [if_neg (by omega), List.drop_of_length_le (by omega)]
    rfl
  | succ d ih =>
    intro k i xs hi hd hx hy hk
    obtain ⟨k, rfl⟩ : ∃ m, k = m + 1 := ⟨k - 1, by omega⟩
    have e1 : rd_T29 ys (i : Int) = ys.getD i z29 := by unfold rd_T29; rw [Int.toNat_natCast]
    have hlt : i < ys.length := by omega
    have e2 : ys.drop i = ys.getD i z29 :: ys.drop (i + 1) := by rw [List.drop_eq_getElem_cons hlt, List.getD_eq_getElem?_getD, List.getElem?_eq_getElem hlt]; rfl
    simp only [arbourref7_More.l0]
    rw [if_pos (by omega), if_pos (by omega), wrap_nat i (by omega), e1, add_some xs _ _ (by omega) k (by omega)]
    simp only [Option.bind_some]
    have hl := addL_len xs (ys.getD i z29)
    rw [e2]
    exact ih k (i + 1) (addL xs (ys.getD i z29)) (by omega) (by omega) (by omega) hy (by omega)
theorem more_some (xs ys : List S29) (hx : xs.length + ys.length < 1000000) (k : Nat) (hk : xs.length + 2 * ys.length + 2 < k) : arbourref7_More.f k xs ys = some (moreL xs ys) := by
  unfold arbourref7_More.f
  simp only [Option.bind_some, List.length_nil, List.nil_append]
  rw [if_pos (by omega)]
  have := more_loop ys ys.length k 0 xs (by omega) (by omega) (by omega) (by omega) hk
  rw [List.drop_zero] at this
  exact this
theorem unique_some (xs : List S29) (hx : xs.length < 1000000) (k : Nat) (hk : 2 * xs.length + 2 < k) : arbourref7_Unique.f k xs = some (moreL [] xs) := by
  unfold arbourref7_Unique.f
  rw [more_some [] xs (by simpa using hx) k (by simpa using hk)]
  rfl
theorem alike_loop (us vs : List S29) (hu : us.length < 1000000) (hv : vs.length < 1000000) : ∀ (d k i : Nat), i ≤ us.length → us.length - i = d → d + vs.length + 2 < k → arbourref7_Alike.l0 k us vs (i : Int) = some (decide (us.length = vs.length) && (us.drop i).all (has2 vs)) := by
  intro d
  induction d with
  | zero =>
    intro k i hi hd hk
    obtain ⟨k, rfl⟩ : ∃ m, k = m + 1 := ⟨k - 1, by omega⟩
    simp only [arbourref7_Alike.l0]
    rw [if_neg (by omega), List.drop_of_length_le (by omega), List.all_nil, Bool.and_true]
    congr 1
    by_cases h : us.length = vs.length
    · rw [decide_eq_true h]; exact beq_iff_eq.2 (by omega)
    · rw [decide_eq_false h]; exact beq_eq_false_iff_ne.2 (by omega)
  | succ d ih =>
    intro k i hi hd hk
    obtain ⟨k, rfl⟩ : ∃ m, k = m + 1 := ⟨k - 1, by omega⟩
    have e1 : rd_T29 us (i : Int) = us.getD i z29 := by unfold rd_T29; rw [Int.toNat_natCast]
    simp only [arbourref7_Alike.l0]
    rw [if_pos (by omega), if_pos (by omega), wrap_nat i (by omega), e1, has_some vs _ hv k (by omega), all_step us vs i (by omega)]
    simp only [Option.bind_some]
    have hfl := fnd_lt vs (us.getD i z29).f0
    have hdef : has2 vs (us.getD i z29) = (decide (0 ≤ fnd vs (us.getD i z29).f0) && ((vs.getD (fnd vs (us.getD i z29).f0).toNat z29).f1.toList == (us.getD i z29).f1.toList)) := rfl
    by_cases hneg : fnd vs (us.getD i z29).f0 < 0
    · have hd0 : decide (0 ≤ fnd vs (us.getD i z29).f0) = false := decide_eq_false (by omega)
      rw [if_pos hneg, hdef, hd0, Bool.false_and, Bool.false_and, Bool.and_false]
    · have hd0 : decide (0 ≤ fnd vs (us.getD i z29).f0) = true := decide_eq_true (by omega)
      rw [if_neg hneg, if_pos (by omega), if_pos (by omega), hdef, hd0, Bool.true_and]
      have e2 : rd_T29 vs (fnd vs (us.getD i z29).f0) = vs.getD (fnd vs (us.getD i z29).f0).toNat z29 := rfl
      rw [e2]
      by_cases h : (vs.getD (fnd vs (us.getD i z29).f0).toNat z29).f1.toList = (us.getD i z29).f1.toList
      · rw [if_pos h, beq_iff_eq.2 h, Bool.true_and]
        exact ih k (i + 1) (by omega) (by omega) (by omega)
      · rw [if_neg h, beq_eq_false_iff_ne.2 h, Bool.false_and, Bool.and_false]
theorem alike_some (xs ys : List S29) (hx : xs.length < 100000) (hy : ys.length < 100000) (k : Nat) (hk : 500000 < k) : arbourref7_Alike.f k xs ys = some (alikeL xs ys) := by
  have h1 := moreL_len [] xs
  have h2 := moreL_len [] ys
  simp only [List.length_nil, Nat.zero_add] at h1 h2
  unfold arbourref7_Alike.f alikeL alikeU
  rw [unique_some xs (by omega) k (by omega), unique_some ys (by omega) k (by omega)]
  simp only [Option.bind_some]
  have := alike_loop (moreL [] xs) (moreL [] ys) (by omega) (by omega) (moreL [] xs).length k 0 (by omega) (by omega) (by omega)
  rw [List.drop_zero] at this
  exact this

/-! the names of SVG -/
def FIX : List (List UInt8 × ByteArray) := [([102, 111, 114, 101, 105, 103, 110, 111, 98, 106, 101, 99, 116], ⟨#[102, 111, 114, 101, 105, 103, 110, 79, 98, 106, 101, 99, 116]⟩), ([118, 105, 101, 119, 98, 111, 120], ⟨#[118, 105, 101, 119, 66, 111, 120]⟩), ([99, 108, 105, 112, 112, 97, 116, 104], ⟨#[99, 108, 105, 112, 80, 97, 116, 104]⟩), ([108, 105, 110, 101, 97, 114, 103, 114, 97, 100, 105, 101, 110, 116], ⟨#[108, 105, 110, 101, 97, 114, 71, 114, 97, 100, 105, 101, 110, 116]⟩), ([116, 101, 120, 116, 112, 97, 116, 104], ⟨#[116, 101, 120, 116, 80, 97, 116, 104]⟩), ([112, 114, 101, 115, 101, 114, 118, 101, 97, 115, 112, 101, 99, 116, 114, 97, 116, 105, 111], ⟨#[112, 114, 101, 115, 101, 114, 118, 101, 65, 115, 112, 101, 99, 116, 82, 97, 116, 105, 111]⟩)]
def fixIn (s : ByteArray) (L : List (List UInt8 × ByteArray)) : ByteArray := L.foldr (fun x b => if s.toList = x.1 then x.2 else b) s
theorem ite_some {c : Prop} [Decidable c] (a b : ByteArray) : (if c then some a else some b) = some (if c then a else b) := by split <;> rfl
theorem fx_eq (s : ByteArray) : fx s = fixIn s FIX := by
  have h : names_Fix.f s = some (fixIn s FIX) := by
    unfold names_Fix.f
    simp only [ite_some]
    rfl
  unfold fx
  rw [h]
  rfl
theorem fix_loop (s : ByteArray) (F T : List ByteArray) (hl : F.length = T.length) (hx : F.length < 1000) : ∀ (d k i : Nat), i ≤ F.length → F.length - i = d → d < k →
    arbourref6_Fix.l0 k s F T (i : Int) = some (fixIn s (((F.map ByteArray.toList).zip T).drop i)) := by
  intro d
  induction d with
  | zero =>
    intro k i hi hd hk
    obtain ⟨k, rfl⟩ : ∃ m, k = m + 1 := ⟨k - 1, by omega⟩
    simp only [arbourref6_Fix.l0]
    rw [if_neg (by omega), List.drop_of_length_le (by simp; omega)]
    rfl
  | succ d ih =>
    intro k i hi hd hk
    obtain ⟨k, rfl⟩ : ∃ m, k = m + 1 := ⟨k - 1, by omega⟩
    have hlt : i < F.length := by omega
    have hlt2 : i < T.length := by omega
    have hr : rdOf ByteArray.empty F (i : Int) = F[i] := by simp [rdOf, List.getD_eq_getElem?_getD, List.getElem?_eq_getElem hlt]
    have hr2 : rdOf ByteArray.empty T (i : Int) = T[i] := by simp [rdOf, List.getD_eq_getElem?_getD, List.getElem?_eq_getElem hlt2]
    have hz : i < ((F.map ByteArray.toList).zip T).length := by simp; omega
    simp only [arbourref6_Fix.l0]
    rw [if_pos (by omega), if_pos (by omega), hr, hr2, wrap_nat i (by omega), ih k (i + 1) (by omega) (by omega) (by omega), List.drop_eq_getElem_cons hz]
    unfold fixIn
    rw [List.foldr_cons, List.getElem_zip, List.getElem_map]
    by_cases h : F[i].toList = s.toList
    · rw [if_pos h, if_pos (by omega), if_pos h.symm]
    · rw [if_neg h, if_neg (fun e => h e.symm)]
theorem fix_some (s : ByteArray) (F T : List ByteArray) (L : List (List UInt8 × ByteArray)) (hL : (F.map ByteArray.toList).zip T = L) (hl : F.length = T.length) (hx : F.length < 60) (k : Nat) (hk : 60 ≤ k) : arbourref6_Fix.l0 k s F T 0 = some (fixIn s L) := by
  have := fix_loop s F T hl (by omega) F.length k 0 (by omega) (by omega) (by omega)
  rw [List.drop_zero, hL] at this
  exact this
theorem refFix_some (s : ByteArray) (k : Nat) (hk : 60 ≤ k) : arbourref6_Fix.f k s = some (fx s) := by
  rw [fx_eq]
  unfold arbourref6_Fix.f
  exact fix_some s _ _ FIX (by decide +kernel) (by decide) (by decide) k hk
theorem foreign_loop (xs : List S29) (hx : xs.length < 1000000) : ∀ (d k i : Nat) (acc : List S29), i ≤ xs.length → xs.length - i = d → acc.length = i → d + 61 < k → arbourref7_Foreign.l0 k xs acc (i : Int) = some (acc ++ (xs.drop i).map fixA) := by
  intro d
  induction d with
  | zero =>
    intro k i acc hi hd ha hk
    obtain ⟨k, rfl⟩ : ∃ m, k = m + 1 := ⟨k - 1, by omega⟩
    simp only [arbourref7_Foreign.l0]
    rw [if_neg (by omega), List.drop_of_length_le (by omega), List.map_nil, List.append_nil]
  | succ d ih =>
    intro k i acc hi hd ha hk
    obtain ⟨k, rfl⟩ : ∃ m, k = m + 1 := ⟨k - 1, by omega⟩
    have e1 : rd_T29 xs (i : Int) = xs.getD i z29 := by unfold rd_T29; rw [Int.toNat_natCast]
    have hlt : i < xs.length := by omega
    have e2 : xs.drop i = xs.getD i z29 :: xs.drop (i + 1) := by rw [List.drop_eq_getElem_cons hlt, List.getD_eq_getElem?_getD, List.getElem?_eq_getElem hlt]; rfl
    simp only [arbourref7_Foreign.l0]
    rw [if_pos (by omega), if_pos (by omega), wrap_nat i (by omega), e1, refFix_some _ k (by omega)]
    simp only [Option.bind_some]
    rw [if_pos (by omega), ih k (i + 1) _ (by omega) (by omega) (by simp; omega) (by omega), e2, List.map_cons, List.append_assoc]
    rfl
theorem foreign_some (xs : List S29) (hx : xs.length < 1000000) (k : Nat) (hk : xs.length + 61 < k) : arbourref7_Foreign.f k xs = some (foreignL xs) := by
  unfold arbourref7_Foreign.f foreignL
  have := foreign_loop xs hx xs.length k 0 [] (by omega) (by omega) rfl hk
  rw [List.drop_zero, List.nil_append] at this
  exact this
end Go.Proofs.Ytgjnopabdipleaa.Attrs
