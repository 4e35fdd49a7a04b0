/- ArenaTexts, plain part: what the arena is behind some pieces. -/
import Derived.Test.YtjebpaapkmbahaaArKnown
namespace Go.Proofs.Ytjebpaapkmbahaa.Ar
open Go.RowKit Go.Proofs.Ytjebpaapkmbahaa.PArenaPlays Go.Proofs.YtjebpaapkmbahaaW.PrintWords Go.Proofs.YtjebpaapkmbahaaW.PrintLast
set_option linter.unusedVariables false
set_option linter.unusedSimpArgs false
def comT : S35 := ⟨5, 0, ⟨#[]⟩, [], ⟨#[99]⟩, []⟩
def dN : S72 := ⟨docT, -1, 1, 1, -1, -1, -1⟩
def LA0 : List S72 := [dN, ⟨pT, 0, -1, -1, -1, -1, -1⟩, newN comT]
def LA1 (a : ByteArray) : List S72 := [dN, ⟨pT, 0, 3, 3, -1, -1, -1⟩, newN comT, ⟨txtT a, 1, -1, -1, -1, -1, -1⟩]
def LB0 : List S72 := [dN, ⟨pT, 0, 2, 2, -1, -1, -1⟩, ⟨comT, 1, -1, -1, -1, -1, -1⟩]
def LB1 (a : ByteArray) : List S72 := [dN, ⟨pT, 0, 3, 2, -1, -1, -1⟩, ⟨comT, 1, -1, -1, 3, -1, -1⟩, ⟨txtT a, 1, -1, -1, -1, 2, -1⟩]
def LB2 (b : ByteArray) : List S72 := [dN, ⟨pT, 0, 2, 3, -1, -1, -1⟩, ⟨comT, 1, -1, -1, -1, 3, -1⟩, ⟨txtT b, 1, -1, -1, 2, -1, -1⟩]
def LB3 (a b : ByteArray) : List S72 := [dN, ⟨pT, 0, 3, 4, -1, -1, -1⟩, ⟨comT, 1, -1, -1, 3, 4, -1⟩, ⟨txtT a, 1, -1, -1, -1, 2, -1⟩, ⟨txtT b, 1, -1, -1, 2, -1, -1⟩]
def nil (a : ByteArray) : Bool := a.toList.isEmpty
def LT (ph : Bool) (a b : ByteArray) : List S72 :=
  match ph with
  | false => if nil a then LA0 else LA1 a
  | true => if nil b then (if nil a then LB0 else LB1 a) else (if nil a then LB2 b else LB3 a b)
theorem LT_cases (ph : Bool) (a b : ByteArray) : (ph = false ∧ nil a = true ∧ LT ph a b = LA0) ∨ (ph = false ∧ nil a = false ∧ LT ph a b = LA1 a) ∨ (ph = true ∧ nil a = true ∧ nil b = true ∧ LT ph a b = LB0) ∨ (ph = true ∧ nil a = false ∧ nil b = true ∧ LT ph a b = LB1 a) ∨ (ph = true ∧ nil a = true ∧ nil b = false ∧ LT ph a b = LB2 b) ∨ (ph = true ∧ nil a = false ∧ nil b = false ∧ LT ph a b = LB3 a b) := by
  unfold LT
  cases ph <;> cases nil a <;> cases nil b <;> simp
theorem okLA0 : OkL LA0 := okB_ok (by rfl)
theorem okLA1 (a : ByteArray) : OkL (LA1 a) := okB_ok (by rfl)
theorem okLB0 : OkL LB0 := okB_ok (by rfl)
theorem okLB1 (a : ByteArray) : OkL (LB1 a) := okB_ok (by rfl)
theorem okLB2 (b : ByteArray) : OkL (LB2 b) := okB_ok (by rfl)
theorem okLB3 (a b : ByteArray) : OkL (LB3 a b) := okB_ok (by rfl)
theorem okLT (ph : Bool) (a b : ByteArray) : OkL (LT ph a b) := by
  rcases LT_cases ph a b with ⟨_, _, e⟩ | ⟨_, _, e⟩ | ⟨_, _, _, e⟩ | ⟨_, _, _, e⟩ | ⟨_, _, _, e⟩ | ⟨_, _, _, e⟩ <;> rw [e]
  · exact okLA0
  · exact okLA1 a
  · exact okLB0
  · exact okLB1 a
  · exact okLB2 b
  · exact okLB3 a b
theorem nil_iff {a : ByteArray} : nil a = true ↔ a.toList = [] := by unfold nil; exact List.isEmpty_iff
theorem nil_eq {a : ByteArray} (h : nil a = true) : a = ⟨#[]⟩ := by
  have h1 := nil_iff.1 h
  rw [ByteArray.toList_eq] at h1
  obtain ⟨d⟩ := a
  have h2 : d.toList = [] := h1
  have h3 : d = #[] := Array.toList_inj.1 h2
  rw [h3]
theorem nil_app (a b : ByteArray) : nil (a ++ b) = (nil a && nil b) := by
  unfold nil
  rw [ByteArray.toList_eq, ByteArray.toList_eq, ByteArray.toList_eq, ByteArray.data_append, Array.toList_append]
  cases a.data.toList <;> rfl
theorem nil_nil : nil ⟨#[]⟩ = true := nil_iff.2 (by rw [ByteArray.toList_eq])
theorem app_nil {a b : ByteArray} (h : nil b = true) : a ++ b = a := by
  rw [nil_eq h]
  exact ByteArray.append_empty
theorem nil_app' {a b : ByteArray} (h : nil a = true) : a ++ b = b := by
  rw [nil_eq h]
  exact ByteArray.empty_append
theorem ne_of {s : ByteArray} (h : nil s = false) : s.toList ≠ [] := fun e => by rw [nil_iff.2 e] at h; cases h
theorem putA0 (s : ByteArray) (h : nil s = false) : writeL LA0 1 s = (0, LA1 s) := (write_some LA0 1 s (by decide) (by rfl) (by decide) (ne_of h)).trans (by rfl)
theorem putA1 (a s : ByteArray) (h : nil s = false) : writeL (LA1 a) 1 s = (0, LA1 (a ++ s)) := (write_some (LA1 a) 1 s (Nat.lt_of_sub_eq_succ rfl) (by rfl) (fun e => by cases e) (ne_of h)).trans (by rfl)
theorem putB0 (s : ByteArray) (h : nil s = false) : writeL LB0 1 s = (0, LB2 s) := (write_some LB0 1 s (by decide) (by rfl) (by decide) (ne_of h)).trans (by rfl)
theorem putB1 (a s : ByteArray) (h : nil s = false) : writeL (LB1 a) 1 s = (0, LB3 a s) := (write_some (LB1 a) 1 s (Nat.lt_of_sub_eq_succ rfl) (by rfl) (fun e => by cases e) (ne_of h)).trans (by rfl)
theorem putB2 (b s : ByteArray) (h : nil s = false) : writeL (LB2 b) 1 s = (0, LB2 (b ++ s)) := (write_some (LB2 b) 1 s (Nat.lt_of_sub_eq_succ rfl) (by rfl) (fun e => by cases e) (ne_of h)).trans (by rfl)
theorem putB3 (a b s : ByteArray) (h : nil s = false) : writeL (LB3 a b) 1 s = (0, LB3 a (b ++ s)) := (write_some (LB3 a b) 1 s (Nat.lt_of_sub_eq_succ rfl) (by rfl) (fun e => by cases e) (ne_of h)).trans (by rfl)
theorem LT_len (ph : Bool) (a b : ByteArray) : 3 ≤ (LT ph a b).length ∧ (LT ph a b).length ≤ 5 := by
  rcases LT_cases ph a b with ⟨_, _, e⟩ | ⟨_, _, e⟩ | ⟨_, _, _, e⟩ | ⟨_, _, _, e⟩ | ⟨_, _, _, e⟩ | ⟨_, _, _, e⟩ <;> rw [e] <;> exact ⟨Nat.le_of_ble_eq_true rfl, Nat.le_of_ble_eq_true rfl⟩
theorem LT_kd (ph : Bool) (a b : ByteArray) : kd (LT ph a b) 0 = 1 ∧ kd (LT ph a b) 1 = 3 := by
  rcases LT_cases ph a b with ⟨_, _, e⟩ | ⟨_, _, e⟩ | ⟨_, _, _, e⟩ | ⟨_, _, _, e⟩ | ⟨_, _, _, e⟩ | ⟨_, _, _, e⟩ <;> rw [e] <;> exact ⟨rfl, rfl⟩
theorem LT_void (ph : Bool) (a b s : ByteArray) : writeL (LT ph a b) 0 s = (0, LT ph a b) :=
  write_void _ 0 s (by have := (LT_len ph a b).1; omega) (by rw [(LT_kd ph a b).1]; rfl) (.inr (LT_kd ph a b).1)
theorem LT_nil (ph : Bool) (a b s : ByteArray) (h : nil s = true) : writeL (LT ph a b) 1 s = (0, LT ph a b) :=
  write_void _ 1 s (by have := (LT_len ph a b).1; omega) (by rw [(LT_kd ph a b).2]; rfl) (.inl (nil_iff.1 h))
theorem putA (a s b : ByteArray) : writeL (LT false a b) 1 s = (0, LT false (a ++ s) b) := by
  cases h : nil s with
  | true => rw [LT_nil _ _ _ _ h, app_nil h]
  | false =>
    have h2 : LT false (a ++ s) b = LA1 (a ++ s) := by unfold LT; dsimp only; rw [nil_app, h, Bool.and_false]; rfl
    rw [h2]
    cases ha : nil a with
    | true =>
      have h1 : LT false a b = LA0 := by unfold LT; dsimp only; rw [ha]; rfl
      rw [h1, putA0 s h, nil_app' ha]
    | false =>
      have h1 : LT false a b = LA1 a := by unfold LT; dsimp only; rw [ha]; rfl
      rw [h1, putA1 a s h]
theorem putB (a s b : ByteArray) : writeL (LT true a b) 1 s = (0, LT true a (b ++ s)) := by
  cases h : nil s with
  | true => rw [LT_nil _ _ _ _ h, app_nil h]
  | false =>
    have h3 : nil (b ++ s) = false := by rw [nil_app, h, Bool.and_false]
    cases ha : nil a with
    | true =>
      have h2 : LT true a (b ++ s) = LB2 (b ++ s) := by unfold LT; dsimp only; rw [h3, ha]; rfl
      rw [h2]
      cases hb : nil b with
      | true =>
        have h1 : LT true a b = LB0 := by unfold LT; dsimp only; rw [ha, hb]; rfl
        rw [h1, putB0 s h, nil_app' hb]
      | false =>
        have h1 : LT true a b = LB2 b := by unfold LT; dsimp only; rw [ha, hb]; rfl
        rw [h1, putB2 b s h]
    | false =>
      have h2 : LT true a (b ++ s) = LB3 a (b ++ s) := by unfold LT; dsimp only; rw [h3, ha]; rfl
      rw [h2]
      cases hb : nil b with
      | true =>
        have h1 : LT true a b = LB1 a := by unfold LT; dsimp only; rw [ha, hb]; rfl
        rw [h1, putB1 a s h, nil_app' hb]
      | false =>
        have h1 : LT true a b = LB3 a b := by unfold LT; dsimp only; rw [ha, hb]; rfl
        rw [h1, putB3 a b s h]
theorem appC (a : ByteArray) : appendL (LT false a ⟨#[]⟩) 1 2 = (0, LT true a ⟨#[]⟩) := by
  cases ha : nil a with
  | true =>
    have h1 : LT false a ⟨#[]⟩ = LA0 := by unfold LT; dsimp only; rw [ha]; rfl
    have h2 : LT true a ⟨#[]⟩ = LB0 := by unfold LT; dsimp only; rw [ha, nil_nil]; rfl
    rw [h1, h2]
    rfl
  | false =>
    have h1 : LT false a ⟨#[]⟩ = LA1 a := by unfold LT; dsimp only; rw [ha]; rfl
    have h2 : LT true a ⟨#[]⟩ = LB1 a := by unfold LT; dsimp only; rw [ha, nil_nil]; rfl
    rw [h1, h2]
    rfl
theorem LT_txt (ph : Bool) (a b s : ByteArray) (n : Nat) (ha : a.size ≤ n) (hb : b.size ≤ n) (hs : s.size ≤ 9) (hn : n ≤ 1000) : ∀ x, x ∈ LT ph a b → x.f0.f4.size + s.size ≤ 1000000000 := by
  intro x hx
  have h1 : (⟨#[]⟩ : ByteArray).size = 0 := rfl
  have h2 : (⟨#[99]⟩ : ByteArray).size = 1 := rfl
  have key : x.f0.f4 = ⟨#[]⟩ ∨ x.f0.f4 = ⟨#[99]⟩ ∨ x.f0.f4 = a ∨ x.f0.f4 = b := by
    rcases LT_cases ph a b with ⟨_, _, e⟩ | ⟨_, _, e⟩ | ⟨_, _, _, e⟩ | ⟨_, _, _, e⟩ | ⟨_, _, _, e⟩ | ⟨_, _, _, e⟩ <;> rw [e] at hx <;> simp only [LA0, LA1, LB0, LB1, LB2, LB3, List.mem_cons, List.not_mem_nil, or_false] at hx
    · rcases hx with rfl | rfl | rfl
      · exact .inl rfl
      · exact .inl rfl
      · exact .inr (.inl rfl)
    · rcases hx with rfl | rfl | rfl | rfl
      · exact .inl rfl
      · exact .inl rfl
      · exact .inr (.inl rfl)
      · exact .inr (.inr (.inl rfl))
    · rcases hx with rfl | rfl | rfl
      · exact .inl rfl
      · exact .inl rfl
      · exact .inr (.inl rfl)
    · rcases hx with rfl | rfl | rfl | rfl
      · exact .inl rfl
      · exact .inl rfl
      · exact .inr (.inl rfl)
      · exact .inr (.inr (.inl rfl))
    · rcases hx with rfl | rfl | rfl | rfl
      · exact .inl rfl
      · exact .inl rfl
      · exact .inr (.inl rfl)
      · exact .inr (.inr (.inr rfl))
    · rcases hx with rfl | rfl | rfl | rfl | rfl
      · exact .inl rfl
      · exact .inl rfl
      · exact .inr (.inl rfl)
      · exact .inr (.inr (.inl rfl))
      · exact .inr (.inr (.inr rfl))
  rcases key with e | e | e | e <;> rw [e] <;> omega
/-- The texts that come out. -/
def wantL (ph : Bool) (a b : ByteArray) : List ByteArray := (if nil a then [] else [a]) ++ (if ph then [⟨#[99]⟩] else []) ++ (if nil b then [] else [b])
/-- The kids that come out. -/
def kidsT (ph : Bool) (a b : ByteArray) : List S35 := (if nil a then [] else [txtT a]) ++ (if ph then [comT] else []) ++ (if nil b then [] else [txtT b])
theorem kids_want (ph : Bool) (a b : ByteArray) : (kidsT ph a b).map (fun x => x.f4) = wantL ph a b := by
  unfold kidsT wantL
  rw [List.map_append, List.map_append]
  cases nil a <;> cases ph <;> cases nil b <;> rfl
theorem LT_tree (ph : Bool) (a b : ByteArray) (h : ph = false → nil b = true) : Tn (LT ph a b) 0 = labT docT [labT pT (kidsT ph a b)] := by
  rcases LT_cases ph a b with ⟨h1, h2, e⟩ | ⟨h1, h2, e⟩ | ⟨h1, h2, h3, e⟩ | ⟨h1, h2, h3, e⟩ | ⟨h1, h2, h3, e⟩ | ⟨h1, h2, h3, e⟩ <;> rw [e] <;> unfold kidsT
  · rw [h1, h2, h h1]; rfl
  · rw [h1, h2, h h1]; rfl
  · rw [h1, h2, h3]; rfl
  · rw [h1, h2, h3]; rfl
  · rw [h1, h2, h3]; rfl
  · rw [h1, h2, h3]; rfl
theorem LT_sz (ph : Bool) (a b : ByteArray) : szT (LT ph a b) 0 ≤ 100000000 := by
  rcases LT_cases ph a b with ⟨h1, h2, e⟩ | ⟨h1, h2, e⟩ | ⟨h1, h2, h3, e⟩ | ⟨h1, h2, h3, e⟩ | ⟨h1, h2, h3, e⟩ | ⟨h1, h2, h3, e⟩ <;> rw [e] <;> exact Nat.le_of_ble_eq_true rfl
theorem tx_m : makeL kn0 3 1 ⟨#[112]⟩ [] ⟨#[]⟩ = (1, 0, kn1) := kn_m
theorem tx_c : makeL kn1 5 0 ⟨#[]⟩ [] ⟨#[99]⟩ = (2, 0, [newN docT, newN pT, newN comT]) := by rfl
theorem tx_a : appendL [newN docT, newN pT, newN comT] 0 1 = (0, LA0) := by rfl
theorem ok_tx : OkL [newN docT, newN pT, newN comT] := okB_ok (by rfl)
theorem LT_start : LT false ⟨#[]⟩ ⟨#[]⟩ = LA0 := by unfold LT; dsimp only; rw [nil_nil]; rfl
end Go.Proofs.Ytjebpaapkmbahaa.Ar
