/- In plain lists: for every text and number the law NamesRaw answers true. No condition. -/
import Derived.Test.YtcjbfhnhkohbbaaPNamesRawx3
namespace Go.Proofs.Ytcjbfhnhkohbbaa.Pure
open Go.RowKit Go.Proofs.Ytcjbfhnhkohbbaa.PNamesRaw Go.Proofs.YtcjbfhnhkohbbaaW.PrintWords Go.Proofs.YtcjbfhnhkohbbaaW.PrintLast

def rawOf (l : List UInt8) (b : Bool) : Int :=
  if l = [116, 101, 120, 116, 97, 114, 101, 97] then 2 else if l = [116, 105, 116, 108, 101] then 2
  else if l = [115, 99, 114, 105, 112, 116] then 3 else if l = [115, 116, 121, 108, 101] then 3 else if l = [120, 109, 112] then 3
  else if l = [110, 111, 115, 99, 114, 105, 112, 116] then (if b = true then 3 else 1) else if l = [112, 108, 97, 105, 110, 116, 101, 120, 116] then 4 else 1

theorem raw_some (y : ByteArray) (b : Bool) (k : Nat) : names_Raw.f (k + 2) y b = some (rawOf y.toList b) := by
  unfold names_Raw.f rawOf
  simp only [names_Raw.j0, names_Raw.j1]
  generalize y.toList = l
  by_cases h1 : l = [116, 101, 120, 116, 97, 114, 101, 97]
  · subst h1; rfl
  · rw [if_neg h1, if_neg h1]
    by_cases h2 : l = [116, 105, 116, 108, 101]
    · subst h2; rfl
    · rw [if_neg h2, beq_eq_false_iff_ne.2 h2, if_neg (by decide)]
      by_cases h3 : l = [115, 99, 114, 105, 112, 116]
      · subst h3; rfl
      · rw [if_neg h3, if_neg h3]
        by_cases h4 : l = [115, 116, 121, 108, 101]
        · subst h4; rfl
        · rw [if_neg h4, if_neg h4]
          by_cases h5 : l = [120, 109, 112]
          · subst h5; rfl
          · rw [if_neg h5, beq_eq_false_iff_ne.2 h5, if_neg (by decide)]
            by_cases h6 : l = [110, 111, 115, 99, 114, 105, 112, 116]
            · subst h6; cases b <;> rfl
            · rw [if_neg h6, if_neg h6]
              by_cases h7 : l = [112, 108, 97, 105, 110, 116, 101, 120, 116]
              · subst h7; rfl
              · rw [if_neg h7, if_neg h7]

theorem raw_laws (l : List UInt8) : ((rawOf l true != rawOf l false) != (l == [110, 111, 115, 99, 114, 105, 112, 116])) = false ∧ ¬ rawOf l true < 1 ∧ ¬ rawOf l true > 4 ∧ ¬ rawOf l false < 1 ∧ decide (rawOf l false > 4) = false ∧
    (rawOf l true = 4 ↔ l = [112, 108, 97, 105, 110, 116, 101, 120, 116]) := by
  unfold rawOf
  by_cases h1 : l = [116, 101, 120, 116, 97, 114, 101, 97]
  · subst h1; decide
  · by_cases h2 : l = [116, 105, 116, 108, 101]
    · subst h2; decide
    · by_cases h3 : l = [115, 99, 114, 105, 112, 116]
      · subst h3; decide
      · by_cases h4 : l = [115, 116, 121, 108, 101]
        · subst h4; decide
        · by_cases h5 : l = [120, 109, 112]
          · subst h5; decide
          · by_cases h6 : l = [110, 111, 115, 99, 114, 105, 112, 116]
            · subst h6; decide
            · by_cases h7 : l = [112, 108, 97, 105, 110, 116, 101, 120, 116]
              · subst h7; decide
              · simp [h1, h2, h3, h4, h5, h6, h7]

theorem known_some : arbourlaw6_known.f 10 = some true := by decide +kernel

theorem loop_some (xs : List ByteArray) (hx : xs.length < 1000) : ∀ (d k i : Nat), i ≤ xs.length → xs.length - i = d → 2 * d + 20 < k → arbourlaw6_NamesRaw.l0 k xs (xs.length : Int) (i : Int) = some true := by
  intro d
  induction d with
  | zero =>
    intro k i hi hd hk
    obtain ⟨k, rfl⟩ : ∃ m, k = m + 1 := ⟨k - 1, by omega⟩
    simp only [arbourlaw6_NamesRaw.l0]
    rw [if_neg (by omega), at_rounds arbourlaw6_known.mono (show 10 ≤ k by omega) known_some]
    rfl
  | succ d ih =>
    intro k i hi hd hk
    obtain ⟨k, rfl⟩ : ∃ m, k = m + 4 := ⟨k - 4, by omega⟩
    have ew : wrap64 ((i : Int) + 1) = ((i + 1 : Nat) : Int) := by unfold wrap64; omega
    simp only [arbourlaw6_NamesRaw.l0]
    rw [if_pos (by omega), if_pos (by omega), if_pos (by omega)]
    generalize rdOf ByteArray.empty xs (i : Int) = y
    rw [show k + 3 = (k + 1) + 2 from rfl, raw_some y true (k + 1), raw_some y false (k + 1)]
    simp only [Option.bind_some]
    obtain ⟨h1, h2, h3, h4, h5, h6⟩ := raw_laws y.toList
    rw [if_neg (by rw [h1]; decide), if_neg h2, if_neg h3, if_neg h4, h5]
    show arbourlaw6_NamesRaw.j1 ((k + 2) + 1) y (rawOf y.toList true) xs (xs.length : Int) (i : Int) false = some true
    simp only [arbourlaw6_NamesRaw.j1]
    rw [if_neg (by decide), ew]
    have hnext := ih (k + 2) (i + 1) (by omega) (by omega) (by omega)
    by_cases h7 : y.toList = [112, 108, 97, 105, 110, 116, 101, 120, 116]
    · rw [if_pos (h6.2 h7), if_pos h7]; exact hnext
    · rw [if_neg (fun h => h7 (h6.1 h)), if_neg h7]; exact hnext
theorem within_gen (a hi : Int) (h0 : 0 ≤ hi) (h1 : hi < 4611686018427387904) : ∃ t : Int, 0 ≤ t ∧ t ≤ hi ∧ arbourbook_Within.f a 0 hi = some t := by
  have e1 : wrap64 (wrap64 (hi - 0) + 1) = hi + 1 := by unfold wrap64; omega
  have h3 : (Int.tmod a (hi + 1)) < hi + 1 := Int.tmod_lt_of_pos a (by omega : (0 : Int) < hi + 1)
  have h2 : -(hi + 1) < Int.tmod a (hi + 1) := Int.lt_tmod_of_pos a (by omega : (0 : Int) < hi + 1)
  unfold arbourbook_Within.f
  rw [e1, if_neg (by omega)]
  generalize Int.tmod a (hi + 1) = r at *
  by_cases h : r < 0
  · rw [if_pos h]
    refine ⟨r + hi + 1, by omega, by omega, ?_⟩
    have : wrap64 (0 + wrap64 (wrap64 (wrap64 (r + hi) - 0) + 1)) = r + hi + 1 := by unfold wrap64; omega
    rw [this]
  · rw [if_neg h]
    refine ⟨r, by omega, by omega, ?_⟩
    have : wrap64 (0 + r) = r := by unfold wrap64; omega
    rw [this]

theorem head_gen (a : ByteArray) (m : Int) (hm : 0 ≤ m) : ∃ h : ByteArray, h.size ≤ m.toNat ∧ arbourkeep_Head.f a m = some h := by
  unfold arbourkeep_Head.f
  by_cases h : (a.size : Int) > m
  · rw [if_pos h, if_pos (by omega), if_pos (by omega)]
    refine ⟨_, ?_, rfl⟩
    simp
    omega
  · rw [if_neg h]
    exact ⟨a, by omega, rfl⟩

theorem rd_le (L : List ByteArray) (i : Int) (h : L.all (fun x => decide (x.size ≤ 20)) = true) : (rdOf ByteArray.empty L i).size ≤ 20 := by
  unfold rdOf
  rw [List.getD_eq_getElem?_getD]
  cases hx : L[i.toNat]? with
  | none => simp
  | some x => simpa using List.all_eq_true.1 h x (List.mem_of_getElem? hx)

theorem names_gen (n : Int) : ∃ t : ByteArray, t.size ≤ 20 ∧ arbourkeep_Names.f n = some t := by
  obtain ⟨t, h0, h1, hw⟩ := within_gen n 1048576 (by omega) (by omega)
  unfold arbourkeep_Names.f
  simp only [Option.bind_some, hw]
  rw [if_neg (by decide)]
  have h2 : 0 ≤ Int.tmod t 48 := Int.tmod_nonneg 48 h0
  have h3 : Int.tmod t 48 < 48 := Int.tmod_lt_of_pos t (by omega)
  split
  · split
    · exact ⟨_, rd_le _ _ (by decide +kernel), rfl⟩
    · rename_i h
      exact absurd h3 h
  · rename_i h
    exact absurd h2 h

theorem NamesRaw : arbourlaw6_NamesRaw.Pure := by
  intro a0 a1 _ _
  refine ⟨100, ?_⟩
  obtain ⟨t, ht, hn⟩ := names_gen a1
  obtain ⟨h, _, hh⟩ := head_gen a0 20 (by omega)
  unfold arbourlaw6_NamesRaw.f
  rw [hn]
  simp only [Option.bind_some]
  rw [if_pos (by omega), hh]
  simp only [Option.bind_some]
  exact loop_some _ (by show 4 < 1000; omega) 4 100 0 (by omega) rfl (by omega)
end Go.Proofs.Ytcjbfhnhkohbbaa.Pure
