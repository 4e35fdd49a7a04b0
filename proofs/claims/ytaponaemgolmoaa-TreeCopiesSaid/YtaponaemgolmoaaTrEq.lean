/- Plain laws: trees held against one another; the way to the first difference; the same told by a stack. Trees are the same where no difference is found: plain laws. -/
import Derived.Test.YtaponaemgolmoaaTrF
namespace Go.Proofs.Ytaponaemgolmoaa.Tr
open Go.RowKit Go.Proofs.Ytaponaemgolmoaa.PTreeTells Go.Proofs.YtaponaemgolmoaaW.PrintWords Go.Proofs.YtaponaemgolmoaaW.PrintLast
def sameA : List S33 → List S33 → Bool
  | [], [] => true
  | a :: l, b :: m => a.f0.toList == b.f0.toList && a.f1.toList == b.f1.toList && sameA l m
  | _, _ => false
theorem sameA_len : ∀ (l m : List S33), sameA l m = true → l.length = m.length
  | [], [], _ => rfl
  | _ :: l, _ :: m, h => by
    simp only [sameA, Bool.and_eq_true] at h
    simp [sameA_len l m h.2]
theorem drop_at (l : List S33) (i : Nat) (h : i < l.length) : l.drop i = rd_T33 l (i : Int) :: l.drop (i + 1) := by
  rw [List.drop_eq_getElem_cons h]
  unfold rd_T33
  simp [List.getD, h]
theorem refSame_loop (l m : List S33) (hl : l.length = m.length) (hb : l.length ≤ 1000000000) : ∀ d i k, l.length - i = d → i ≤ l.length → d < k → arbourref7_Same.l0 k l m (i : Int) = some (sameA (l.drop i) (m.drop i))
  | 0, i, k, hd, hi, hk => by
    obtain ⟨k, rfl⟩ : ∃ m, k = m + 1 := ⟨k - 1, by omega⟩
    rw [arbourref7_Same.l0, if_neg (by omega), List.drop_eq_nil_of_le (by omega), List.drop_eq_nil_of_le (by omega)]
    rfl
  | d + 1, i, k, hd, hi, hk => by
    obtain ⟨k, rfl⟩ : ∃ m, k = m + 1 := ⟨k - 1, by omega⟩
    rw [arbourref7_Same.l0, if_pos (by omega), if_pos (by omega), if_pos (by omega), show wrap64 ((i : Int) + 1) = ((i + 1 : Nat) : Int) from by rw [IntWalk.wrap64_in _ (by omega)]; rfl, refSame_loop l m hl hb d (i + 1) k (by omega) (by omega) (by omega), drop_at l i (by omega), drop_at m i (by omega), sameA]
    cases ((rd_T33 l (i : Int)).f0.toList == (rd_T33 m (i : Int)).f0.toList) <;> cases ((rd_T33 l (i : Int)).f1.toList == (rd_T33 m (i : Int)).f1.toList) <;> simp
theorem refSame (l m : List S33) (hb : l.length ≤ 1000000000) (k : Nat) (hk : l.length < k) : arbourref7_Same.f k l m = some (sameA l m) := by
  unfold arbourref7_Same.f
  by_cases h : l.length = m.length
  · rw [if_pos (by omega)]
    have := refSame_loop l m h hb l.length 0 k (by omega) (by omega) hk
    simpa using this
  · rw [if_neg (by omega)]
    cases e : sameA l m with
    | false => rfl
    | true => exact absurd (sameA_len l m e) h
theorem attrSame_loop (l m : List S33) (hl : l.length = m.length) (hb : l.length ≤ 1000000000) : ∀ d i k, l.length - i = d → i ≤ l.length → d < k → api_Attr.l0 k l m (l.length : Int) (i : Int) = some (sameA (l.drop i) (m.drop i))
  | 0, i, k, hd, hi, hk => by
    obtain ⟨k, rfl⟩ : ∃ m, k = m + 1 := ⟨k - 1, by omega⟩
    rw [api_Attr.l0, if_neg (by omega), List.drop_eq_nil_of_le (by omega), List.drop_eq_nil_of_le (by omega)]
    rfl
  | d + 1, i, k, hd, hi, hk => by
    obtain ⟨k, rfl⟩ : ∃ m, k = m + 1 := ⟨k - 1, by omega⟩
    rw [api_Attr.l0, if_pos (by omega), if_pos (by omega), if_pos (by omega), if_pos (by omega), show wrap64 ((i : Int) + 1) = ((i + 1 : Nat) : Int) from by rw [IntWalk.wrap64_in _ (by omega)]; rfl, attrSame_loop l m hl hb d (i + 1) k (by omega) (by omega) (by omega), drop_at l i (by omega), drop_at m i (by omega), sameA]
    cases ((rd_T33 l (i : Int)).f0.toList == (rd_T33 m (i : Int)).f0.toList) <;> cases ((rd_T33 l (i : Int)).f1.toList == (rd_T33 m (i : Int)).f1.toList) <;> simp
theorem attrSame (l m : List S33) (hb : l.length ≤ 1000000000) (k : Nat) (hk : l.length < k) : attrs_Same.f k l m = some (sameA l m) := by
  unfold attrs_Same.f api_Attr.f
  by_cases h : l.length = m.length
  · rw [if_pos (by omega)]
    have := attrSame_loop l m h hb l.length 0 k (by omega) (by omega) hk
    rw [show ((0 : Nat) : Int) = 0 from rfl, List.drop_zero, List.drop_zero] at this
    rw [this]
    rfl
  · rw [if_neg (by omega)]
    cases e : sameA l m with
    | false => rfl
    | true => exact absurd (sameA_len l m e) h
/-- Are two nodes the same, but for their kids? -/
def labL (a b : S26) : Bool := a.f0 == b.f0 && (a.f1 == b.f1 && (a.f2.toList == b.f2.toList && (sameA a.f3 b.f3 && a.f4.toList == b.f4.toList)))
theorem refLabel (a b : S26) (hb : a.f3.length ≤ 1000000000) (k : Nat) (hk : a.f3.length < k) : arbourref14_Label.f k a.f0 a.f1 a.f2 a.f3 a.f4 a.f5 b.f0 b.f1 b.f2 b.f3 b.f4 b.f5 = some (labL a b) := by
  unfold arbourref14_Label.f labL
  rw [refSame _ _ hb k hk]
  by_cases h0 : a.f0 = b.f0
  · by_cases h1 : a.f1 = b.f1
    · by_cases h2 : a.f2.toList = b.f2.toList
      · by_cases h4 : a.f4.toList = b.f4.toList
        · rw [if_pos h0, if_pos h1, if_pos h2, if_pos h4, h0, h1, h2, h4]
          simp
        · rw [if_pos h0, if_pos h1, if_pos h2, if_neg h4, beq_eq_false_iff_ne.2 h4]
          simp
      · rw [if_pos h0, if_pos h1, if_neg h2, beq_eq_false_iff_ne.2 h2]
        simp
    · rw [if_pos h0, if_neg h1, beq_eq_false_iff_ne.2 h1]
      simp
  · rw [if_neg h0, beq_eq_false_iff_ne.2 h0]
    simp
mutual
/-- The way to the first difference; none: there is none. -/
def dif : S26 → S26 → Option (List Int)
  | ⟨a0, a1, a2, a3, a4, a5⟩, b => if labL ⟨a0, a1, a2, a3, a4, []⟩ b then difK a5 b.f5 0 else some []
def difK : List S26 → List S26 → Int → Option (List Int)
  | [], [], _ => none
  | [], _ :: _, i => some [i]
  | _ :: _, [], i => some [i]
  | x :: l, y :: m, i => match dif x y with
    | some p => some (i :: p)
    | none => difK l m (i + 1)
end
mutual
/-- A weight of trees. -/
def W : S26 → Nat
  | ⟨_, _, _, _, _, k⟩ => 1 + WK k
def WK : List S26 → Nat
  | [] => 0
  | x :: l => 1 + W x + WK l
end
mutual
/-- No node has more attributes than this. -/
def AL (n : Nat) : S26 → Prop
  | ⟨_, _, _, a, _, k⟩ => a.length ≤ n ∧ ALK n k
def ALK (n : Nat) : List S26 → Prop
  | [] => True
  | x :: l => AL n x ∧ ALK n l
end
theorem dif_eq (a b : S26) : dif a b = if labL a b then difK a.f5 b.f5 0 else some [] := by
  obtain ⟨a0, a1, a2, a3, a4, a5⟩ := a
  rw [dif]
  rfl
theorem W_eq (a : S26) : W a = 1 + WK a.f5 := by
  obtain ⟨a0, a1, a2, a3, a4, a5⟩ := a
  rw [W]
theorem AL_eq (n : Nat) (a : S26) : AL n a = (a.f3.length ≤ n ∧ ALK n a.f5) := by
  obtain ⟨a0, a1, a2, a3, a4, a5⟩ := a
  rw [AL]
mutual
theorem dif_len : ∀ (a b : S26) (p : List Int), dif a b = some p → p.length ≤ W a
  | ⟨a0, a1, a2, a3, a4, a5⟩, b, p, h => by
    rw [dif] at h
    rw [W]
    split at h
    · have := difK_len a5 b.f5 0 p h
      omega
    · cases h; simp
theorem difK_len : ∀ (l m : List S26) (i : Int) (p : List Int), difK l m i = some p → p.length ≤ 1 + WK l
  | [], [], _, p, h => by rw [difK] at h; cases h
  | [], _ :: _, i, p, h => by rw [difK] at h; cases h; simp
  | _ :: _, [], i, p, h => by rw [difK] at h; cases h; simp
  | x :: l, y :: m, i, p, h => by
    rw [difK] at h
    rw [WK]
    cases e : dif x y with
    | some q =>
      rw [e] at h
      cases h
      have := dif_len x y q e
      simp only [List.length_cons]
      omega
    | none =>
      rw [e] at h
      have := difK_len l m (i + 1) p h
      omega
end
def resD (o : Option (List Int)) : List Int × Bool := match o with
  | some p => (p, false)
  | none => ([], true)
theorem rd26 (l : List S26) (i : Nat) (h : i < l.length) : l.drop i = rd_T26 l (i : Int) :: l.drop (i + 1) := by
  rw [List.drop_eq_getElem_cons h]
  unfold rd_T26
  simp [List.getD, h]
theorem WK_drop : ∀ (l : List S26) (i : Nat), WK (l.drop i) ≤ WK l
  | [], i => by simp
  | x :: l, 0 => by simp
  | x :: l, i + 1 => by
    have := WK_drop l i
    rw [List.drop_succ_cons, WK]
    omega
theorem WK_len : ∀ (l : List S26), l.length ≤ WK l
  | [] => by simp
  | x :: l => by
    have := WK_len l
    rw [WK, List.length_cons]
    omega
theorem WK_at (l : List S26) (i : Nat) (h : i < l.length) : W (rd_T26 l (i : Int)) + 1 + WK (l.drop (i + 1)) ≤ WK l := by
  have := WK_drop l i
  rw [rd26 l i h, WK] at this
  omega
theorem ALK_at (n : Nat) : ∀ (l : List S26) (i : Nat), i < l.length → ALK n l → AL n (rd_T26 l (i : Int))
  | [], i, h, _ => by simp at h
  | x :: l, 0, _, h => by rw [ALK] at h; exact h.1
  | x :: l, i + 1, h, ha => by
    rw [ALK] at ha
    have := ALK_at n l i (by simpa using h) ha.2
    have e : rd_T26 (x :: l) ((i + 1 : Nat) : Int) = rd_T26 l (i : Int) := by unfold rd_T26; simp
    rw [e]
    exact this
end Go.Proofs.Ytaponaemgolmoaa.Tr
namespace Go.Proofs.Ytaponaemgolmoaa.Tr
open Go.RowKit Go.Proofs.Ytaponaemgolmoaa.PTreeTells Go.Proofs.YtaponaemgolmoaaW.PrintWords Go.Proofs.YtaponaemgolmoaaW.PrintLast
/-- The same trees. -/
def eqT (a b : S26) : Bool := (dif a b).isNone
def eqK (l m : List S26) (i : Int) : Bool := (difK l m i).isNone
theorem eqT_eq (a b : S26) : eqT a b = (labL a b && eqK a.f5 b.f5 0) := by
  unfold eqT eqK
  rw [dif_eq]
  cases labL a b with
  | true => rw [if_pos rfl, Bool.true_and]
  | false => rfl
theorem eqK_len : ∀ (l m : List S26) (i : Int), l.length ≠ m.length → eqK l m i = false
  | [], [], _, h => by simp at h
  | [], _ :: _, i, _ => by unfold eqK; rw [difK]; rfl
  | _ :: _, [], i, _ => by unfold eqK; rw [difK]; rfl
  | x :: l, y :: m, i, h => by
    have h2 := eqK_len l m (i + 1) (by simpa using h)
    unfold eqK at h2 ⊢
    rw [difK]
    cases dif x y with
    | none => exact h2
    | some p => rfl
theorem eqK_cons (x y : S26) (l m : List S26) (i : Int) : eqK (x :: l) (y :: m) i = (eqT x y && eqK l m (i + 1)) := by
  unfold eqK eqT
  rw [difK]
  cases dif x y with
  | none => rfl
  | some p => rfl
theorem eqK_zip : ∀ (l m : List S26) (i : Int), eqK l m i = (l.length == m.length && (l.zip m).all (fun p => eqT p.1 p.2))
  | [], [], _ => by unfold eqK; rw [difK]; rfl
  | [], _ :: _, i => by unfold eqK; rw [difK]; simp
  | _ :: _, [], i => by unfold eqK; rw [difK]; simp
  | x :: l, y :: m, i => by
    rw [eqK_cons, eqK_zip l m (i + 1)]
    simp [Bool.and_left_comm]
end Go.Proofs.Ytaponaemgolmoaa.Tr
