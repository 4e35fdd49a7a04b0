/- What the document says of an operation that may be is what op.Right says: the plain law. -/
import Derived.Test.YtbljbgjecnmeeaaDoorOpRight0
import Derived.Test.YtbljbgjecnmeeaaDoorOpsB
namespace Go.Proofs.YtbljbgjecnmeeaaDoor.OpP
open Go.RowKit Go.Proofs.YtbljbgjecnmeeaaDoor.POpTells Go.Proofs.YtbljbgjecnmeeaaDoorW.PrintWords Go.Proofs.YtbljbgjecnmeeaaDoorW.PrintLast
set_option linter.unusedVariables false
set_option linter.unusedSimpArgs false
def zeroB (a b : ByteArray) (l : List S32) (ns : List Int) : Bool := ns.all (· == 0) && ((a.toList == []) && ((b.toList == []) && (l.length == 0)))
theorem rd_at (ns : List Int) (i : Nat) (h : i < ns.length) : rd ns (i : Int) = ns[i] := by
  unfold rd
  rw [Int.toNat_natCast, List.getD_eq_getElem?_getD, List.getElem?_eq_getElem h]
  rfl
theorem zero_loop (a b : ByteArray) (l : List S32) (ns : List Int) (hn : ns.length ≤ 9) : ∀ (d i k : Nat), ns.length - i = d → i ≤ ns.length → d < k → arbourref17_zero.l0 k a b l ns (i : Int) = some (zeroB a b l (ns.drop i))
  | 0, i, k, hd, hi, hk => by
    obtain ⟨k, rfl⟩ : ∃ m, k = m + 1 := ⟨k - 1, by omega⟩
    rw [arbourref17_zero.l0, if_neg (by omega), List.drop_of_length_le (by omega)]
    unfold zeroB
    by_cases ha : a.toList = []
    · by_cases hb : b.toList = []
      · rw [if_pos ha, if_pos hb, ha, hb]
        cases l with
        | nil => rfl
        | cons x l => simp; omega
      · rw [if_pos ha, if_neg hb, ha]
        simp [hb]
    · rw [if_neg ha]
      simp [ha]
  | d + 1, i, k, hd, hi, hk => by
    obtain ⟨k, rfl⟩ : ∃ m, k = m + 1 := ⟨k - 1, by omega⟩
    have ew : wrap64 ((i : Int) + 1) = ((i + 1 : Nat) : Int) := by unfold wrap64; omega
    have ea : ns.drop i = ns[i] :: ns.drop (i + 1) := List.drop_eq_getElem_cons (by omega)
    rw [arbourref17_zero.l0, if_pos (by omega), if_pos (by omega), rd_at ns i (by omega), ew, ea]
    by_cases h0 : ns[i] = 0
    · rw [if_pos h0, zero_loop a b l ns hn d (i + 1) k (by omega) (by omega) (by omega)]
      unfold zeroB
      rw [List.all_cons, h0]
      rfl
    · rw [if_neg h0]
      unfold zeroB
      rw [List.all_cons, beq_eq_false_iff_ne.2 h0]
      rfl
theorem zero_some (a b : ByteArray) (l : List S32) (ns : List Int) (hn : ns.length ≤ 9) (k : Nat) (hk : 9 < k) : arbourref17_zero.f k a b l ns = some (zeroB a b l ns) := by
  have := zero_loop a b l ns hn ns.length 0 k (by omega) (by omega) (by omega)
  exact this
theorem attrEq_comm (a b : List S32) : attrEq a b = attrEq b a := by
  unfold attrEq
  rw [Bool.eq_iff_iff, beq_iff_eq, beq_iff_eq]
  exact eq_comm
theorem beqc {α : Type} [BEq α] [LawfulBEq α] (a b : α) : (a == b) = (b == a) := by
  rw [Bool.eq_iff_iff, beq_iff_eq, beq_iff_eq]
  exact eq_comm
theorem sameB_comm (a b : S24) : sameB a b = sameB b a := by
  unfold sameB
  rw [beqc a.f0, beqc a.f1, beqc a.f2, beqc a.f3, beqc a.f4, beqc a.f5, beqc a.f6.toList, beqc a.f8.toList, attrEq_comm]
theorem attrEq_nil (l : List S32) : attrEq l [] = (l.length == 0) := by
  unfold attrEq
  cases l with
  | nil => rfl
  | cons x l => simp
theorem attrEq_self (l : List S32) : attrEq l l = true := by unfold attrEq; exact beq_self_eq_true _
theorem nil_bytes : (⟨#[]⟩ : ByteArray).toList = [] := by rw [ByteArray.toList_eq]
theorem num_bad {n : Int} (h : numB n = false) : n < 0 ∨ n > 2147483647 := by
  unfold numB at h
  simp at h
  omega
theorem num_good {n : Int} (h : numB n = true) : ¬ n < 0 ∧ ¬ n > 2147483647 := by
  unfold numB at h
  simp at h
  omega
set_option maxHeartbeats 4000000 in
theorem ref_j1 (o : S24) (h1 : numB o.f1 = true) (h2 : numB o.f2 = true) (h3 : numB o.f3 = true) (h5 : 0 ≤ o.f5 ∧ o.f5 ≤ 2) : arbourref17_Right.j1 16 false o.f0 o.f1 o.f2 o.f3 o.f4 o.f5 o.f6 o.f7 o.f8 = some (rightB o) := by
  obtain ⟨o0, o1, o2, o3, o4, o5, o6, o7, o8⟩ := o
  dsimp only at *
  unfold rightB
  rw [sameB_comm]
  dsimp only
  rw [h1, h2, h3, decide_eq_true h5.1, decide_eq_true h5.2]
  simp only [Bool.true_and, Bool.and_true]
  rw [arbourref17_Right.j1, if_neg (by decide)]
  by_cases k1 : o0 = 1
  · subst k1
    rw [if_pos rfl]
    unfold askedL sameB
    dsimp only
    rw [if_pos rfl]
    dsimp only
    simp only [beq_self_eq_true, attrEq_self, Bool.true_and, Bool.and_true]
    rw [show kindB 1 = true from by decide]
    by_cases t2 : o4 = 2
    · subst t2
      rw [if_pos rfl]
      by_cases p : o2 = 0
      · subst p; rw [if_pos rfl]; simp
      · rw [if_neg p]; simp [p]
    · rw [if_neg t2]
      by_cases t3 : o4 = 3
      · subst t3
        rw [if_pos rfl]
        by_cases p : o2 = 0
        · subst p; rw [if_pos rfl]; simp
        · rw [if_neg p]; simp [p]
      · rw [if_neg t3]
        by_cases t5 : o4 = 5
        · subst t5
          rw [if_pos rfl]
          by_cases p : o2 = 0
          · subst p; rw [if_pos rfl]; simp
          · rw [if_neg p]; simp [p]
        · rw [if_neg t5]
          simp [t2, t3, t5]
  rw [if_neg k1, show (o0 == 1) = false from beq_eq_false_iff_ne.2 k1, Bool.not_false, Bool.true_or, Bool.and_true]
  have fin : ∀ (ns : List Int) (b : ByteArray) (l : List S32) (m : Nat), ns.length ≤ 9 → 9 < m → (arbourref17_zero.f m o6 b l ns).bind (fun t => some t) = some (zeroB o6 b l ns) := by
    intro ns b l m hn hm
    rw [zero_some o6 b l ns hn m hm]
    rfl
  by_cases k2 : o0 = 2
  · subst k2
    rw [if_pos rfl, fin _ _ _ _ (Nat.le_of_ble_eq_true rfl) (by decide)]
    unfold askedL sameB zeroB
    dsimp only
    rw [if_neg (by decide), if_pos rfl]
    dsimp only
    rw [show kindB 2 = true from by decide]
    simp only [beq_self_eq_true, Bool.true_and, Bool.and_true, List.all_cons, List.all_nil, attrEq_nil, attrEq_self, nil_bytes, List.length_nil]
    generalize (o3 == 0) = c3
    generalize (o4 == 0) = c4
    generalize (o5 == 0) = c5
    generalize (o6.toList == []) = c6
    generalize (o7.length == 0) = c7
    generalize (o8.toList == []) = c8
    cases c3 <;> cases c4 <;> cases c5 <;> cases c6 <;> cases c7 <;> cases c8 <;> rfl
  rw [if_neg k2]
  by_cases k3 : o0 = 3
  · subst k3
    rw [if_pos rfl, arbourref17_Right.j2, if_pos (by decide), fin _ _ _ _ (Nat.le_of_ble_eq_true rfl) (by decide)]
    unfold askedL sameB zeroB
    dsimp only
    rw [if_neg (by decide), if_neg (by decide), if_pos (by decide)]
    dsimp only
    rw [show kindB 3 = true from by decide]
    simp only [beq_self_eq_true, Bool.true_and, Bool.and_true, List.all_cons, List.all_nil, attrEq_nil, attrEq_self, nil_bytes, List.length_nil]
    generalize (o2 == 0) = c2
    generalize (o4 == 0) = c4
    generalize (o5 == 0) = c5
    generalize (o6.toList == []) = c6
    generalize (o7.length == 0) = c7
    generalize (o8.toList == []) = c8
    cases c2 <;> cases c4 <;> cases c5 <;> cases c6 <;> cases c7 <;> cases c8 <;> rfl
  rw [if_neg k3]
  by_cases k9 : o0 = 9
  · subst k9
    rw [arbourref17_Right.j2, if_pos (by decide), fin _ _ _ _ (Nat.le_of_ble_eq_true rfl) (by decide)]
    unfold askedL sameB zeroB
    dsimp only
    rw [if_neg (by decide), if_neg (by decide), if_pos (by decide)]
    dsimp only
    rw [show kindB 9 = true from by decide]
    simp only [beq_self_eq_true, Bool.true_and, Bool.and_true, List.all_cons, List.all_nil, attrEq_nil, attrEq_self, nil_bytes, List.length_nil]
    generalize (o2 == 0) = c2
    generalize (o4 == 0) = c4
    generalize (o5 == 0) = c5
    generalize (o6.toList == []) = c6
    generalize (o7.length == 0) = c7
    generalize (o8.toList == []) = c8
    cases c2 <;> cases c4 <;> cases c5 <;> cases c6 <;> cases c7 <;> cases c8 <;> rfl
  rw [show (o0 == 9) = false from beq_eq_false_iff_ne.2 k9, arbourref17_Right.j2, if_neg (by decide)]
  by_cases k4 : o0 = 4
  · subst k4
    rw [if_pos rfl, fin _ _ _ _ (Nat.le_of_ble_eq_true rfl) (by decide)]
    unfold askedL sameB zeroB
    dsimp only
    rw [if_neg (by decide), if_neg (by decide), if_neg (by decide), if_pos rfl]
    dsimp only
    rw [show kindB 4 = true from by decide]
    simp only [beq_self_eq_true, Bool.true_and, Bool.and_true, List.all_cons, List.all_nil, attrEq_nil, attrEq_self, nil_bytes, List.length_nil]
    generalize (o4 == 0) = c4
    generalize (o5 == 0) = c5
    generalize (o6.toList == []) = c6
    generalize (o7.length == 0) = c7
    generalize (o8.toList == []) = c8
    cases c4 <;> cases c5 <;> cases c6 <;> cases c7 <;> cases c8 <;> rfl
  rw [if_neg k4]
  by_cases k5 : o0 = 5
  · subst k5
    rw [if_pos rfl, fin _ _ _ _ (Nat.le_of_ble_eq_true rfl) (by decide)]
    unfold askedL sameB zeroB
    dsimp only
    rw [if_neg (by decide), if_neg (by decide), if_neg (by decide), if_neg (by decide), if_pos rfl]
    dsimp only
    rw [show kindB 5 = true from by decide]
    simp only [beq_self_eq_true, Bool.true_and, Bool.and_true, List.all_cons, List.all_nil, attrEq_nil, attrEq_self, nil_bytes, List.length_nil]
    generalize (o1 == 0) = c1
    generalize (o3 == 0) = c3
    generalize (o4 == 0) = c4
    generalize (o5 == 0) = c5
    generalize (o6.toList == []) = c6
    generalize (o7.length == 0) = c7
    cases c1 <;> cases c3 <;> cases c4 <;> cases c5 <;> cases c6 <;> cases c7 <;> rfl
  rw [if_neg k5]
  by_cases k6 : o0 = 6
  · subst k6
    rw [if_pos rfl, fin _ _ _ _ (Nat.le_of_ble_eq_true rfl) (by decide)]
    unfold askedL sameB zeroB
    dsimp only
    rw [if_neg (by decide), if_neg (by decide), if_neg (by decide), if_neg (by decide), if_neg (by decide), if_pos rfl]
    dsimp only
    rw [show kindB 6 = true from by decide]
    simp only [beq_self_eq_true, Bool.true_and, Bool.and_true, List.all_cons, List.all_nil, attrEq_nil, attrEq_self, nil_bytes, List.length_nil]
    generalize (o1 == 0) = c1
    generalize (o4 == 0) = c4
    generalize (o5 == 0) = c5
    generalize (o6.toList == []) = c6
    generalize (o7.length == 0) = c7
    cases c1 <;> cases c4 <;> cases c5 <;> cases c6 <;> cases c7 <;> rfl
  rw [if_neg k6]
  by_cases k7 : o0 = 7
  · subst k7
    rw [if_pos rfl, fin _ _ _ _ (Nat.le_of_ble_eq_true rfl) (by decide)]
    unfold askedL sameB zeroB
    dsimp only
    rw [if_neg (by decide), if_neg (by decide), if_neg (by decide), if_neg (by decide), if_neg (by decide), if_neg (by decide), if_pos rfl]
    dsimp only
    rw [show kindB 7 = true from by decide]
    simp only [beq_self_eq_true, Bool.true_and, Bool.and_true, List.all_cons, List.all_nil, attrEq_nil, attrEq_self, nil_bytes, List.length_nil]
    generalize (o2 == 0) = c2
    generalize (o3 == 0) = c3
    generalize (o4 == 0) = c4
    generalize (o5 == 0) = c5
    generalize (o6.toList == []) = c6
    generalize (o7.length == 0) = c7
    generalize (o8.toList == []) = c8
    cases c2 <;> cases c3 <;> cases c4 <;> cases c5 <;> cases c6 <;> cases c7 <;> cases c8 <;> rfl
  rw [if_neg k7]
  by_cases k8 : o0 = 8
  · subst k8
    rw [if_pos rfl, fin _ _ _ _ (Nat.le_of_ble_eq_true rfl) (by decide)]
    unfold askedL sameB zeroB
    dsimp only
    rw [if_neg (by decide), if_neg (by decide), if_neg (by decide), if_neg (by decide), if_neg (by decide), if_neg (by decide), if_neg (by decide), if_pos rfl]
    dsimp only
    rw [show kindB 8 = true from by decide]
    simp only [beq_self_eq_true, Bool.true_and, Bool.and_true, List.all_cons, List.all_nil, attrEq_nil, attrEq_self, nil_bytes, List.length_nil]
    generalize (o1 == 0) = c1
    generalize (o4 == 0) = c4
    generalize (o5 == 0) = c5
    generalize (o6.toList == []) = c6
    generalize (o7.length == 0) = c7
    generalize (o8.toList == []) = c8
    cases c1 <;> cases c4 <;> cases c5 <;> cases c6 <;> cases c7 <;> cases c8 <;> rfl
  rw [if_neg k8]
  by_cases k10 : o0 = 10
  · subst k10
    rw [if_pos rfl, fin _ _ _ _ (Nat.le_of_ble_eq_true rfl) (by decide)]
    unfold askedL sameB zeroB
    dsimp only
    rw [if_neg (by decide), if_neg (by decide), if_neg (by decide), if_neg (by decide), if_neg (by decide), if_neg (by decide), if_neg (by decide), if_neg (by decide), if_pos rfl]
    dsimp only
    rw [show kindB 10 = true from by decide]
    simp only [beq_self_eq_true, Bool.true_and, Bool.and_true, List.all_cons, List.all_nil, attrEq_nil, attrEq_self, nil_bytes, List.length_nil]
    generalize (o2 == 0) = c2
    generalize (o3 == 0) = c3
    generalize (o4 == 0) = c4
    generalize (o5 == 0) = c5
    generalize (o6.toList == []) = c6
    generalize (o8.toList == []) = c8
    cases c2 <;> cases c3 <;> cases c4 <;> cases c5 <;> cases c6 <;> cases c8 <;> rfl
  rw [if_neg k10]
  by_cases k11 : o0 = 11
  · subst k11
    rw [if_pos rfl, fin _ _ _ _ (Nat.le_of_ble_eq_true rfl) (by decide)]
    unfold askedL sameB zeroB
    dsimp only
    rw [if_neg (by decide), if_neg (by decide), if_neg (by decide), if_neg (by decide), if_neg (by decide), if_neg (by decide), if_neg (by decide), if_neg (by decide), if_neg (by decide)]
    dsimp only
    rw [show kindB 11 = true from by decide]
    simp only [beq_self_eq_true, Bool.true_and, Bool.and_true, List.all_cons, List.all_nil, attrEq_nil, attrEq_self, nil_bytes, List.length_nil]
    generalize (o1 == 0) = c1
    generalize (o2 == 0) = c2
    generalize (o3 == 0) = c3
    generalize (o4 == 0) = c4
    generalize (o5 == 0) = c5
    generalize (o6.toList == []) = c6
    generalize (o7.length == 0) = c7
    generalize (o8.toList == []) = c8
    cases c1 <;> cases c2 <;> cases c3 <;> cases c4 <;> cases c5 <;> cases c6 <;> cases c7 <;> cases c8 <;> rfl
  rw [if_neg k11]
  have hk : kindB o0 = false := by
    unfold kindB
    rw [Bool.and_eq_false_iff, decide_eq_false_iff_not, decide_eq_false_iff_not]
    omega
  rw [hk, Bool.false_and]
theorem ref_right (o : S24) : arbourref17_Right.f 20 o.f0 o.f1 o.f2 o.f3 o.f4 o.f5 o.f6 o.f7 o.f8 = some (rightB o) := by
  unfold arbourref17_Right.f
  rw [Option.bind_some]
  have w1 : wrap64 (0 + 1) = 1 := by decide +kernel
  have w2 : wrap64 (1 + 1) = 2 := by decide +kernel
  have w3 : wrap64 (2 + 1) = 3 := by decide +kernel
  have bad : ∀ b : Bool, b = false → rightB o = (kindB o.f0 && (sameB (askedL o) o && (numB o.f1 && (numB o.f2 && (numB o.f3 && (((!(o.f0 == 1)) || ((o.f4 == 2) || ((o.f4 == 3) || (o.f4 == 5)))) && (decide (0 ≤ o.f5) && decide (o.f5 ≤ 2)))))))) := fun _ _ => rfl
  rw [arbourref17_Right.l0, if_pos (by simp), if_pos (by simp), if_pos (by simp), show rd [o.f1, o.f2, o.f3] 0 = o.f1 from rfl, w1]
  cases h1 : numB o.f1 with
  | false =>
    have hr : rightB o = false := by unfold rightB; rw [h1]; simp
    rw [hr]
    rcases num_bad h1 with h | h
    · rw [if_pos h]
    · rw [if_neg (by omega), if_pos h]
  | true =>
  rw [if_neg (num_good h1).1, if_neg (num_good h1).2]
  rw [arbourref17_Right.l0, if_pos (by simp), if_pos (by simp), if_pos (by simp), show rd [o.f1, o.f2, o.f3] 1 = o.f2 from rfl, w2]
  cases h2 : numB o.f2 with
  | false =>
    have hr : rightB o = false := by unfold rightB; rw [h2]; simp
    rw [hr]
    rcases num_bad h2 with h | h
    · rw [if_pos h]
    · rw [if_neg (by omega), if_pos h]
  | true =>
  rw [if_neg (num_good h2).1, if_neg (num_good h2).2]
  rw [arbourref17_Right.l0, if_pos (by simp), if_pos (by simp), if_pos (by simp), show rd [o.f1, o.f2, o.f3] 2 = o.f3 from rfl, w3]
  cases h3 : numB o.f3 with
  | false =>
    have hr : rightB o = false := by unfold rightB; rw [h3]; simp
    rw [hr]
    rcases num_bad h3 with h | h
    · rw [if_pos h]
    · rw [if_neg (by omega), if_pos h]
  | true =>
  rw [if_neg (num_good h3).1, if_neg (num_good h3).2]
  rw [arbourref17_Right.l0, if_neg (by simp)]
  by_cases h5 : o.f5 < 0
  · have hr : rightB o = false := by unfold rightB; rw [show decide (0 ≤ o.f5) = false from decide_eq_false (by omega)]; simp
    rw [if_pos h5, hr, arbourref17_Right.j1, if_pos rfl]
  · rw [if_neg h5]
    by_cases h6 : o.f5 > 2
    · have hr : rightB o = false := by unfold rightB; rw [show decide (o.f5 ≤ 2) = false from decide_eq_false (by omega)]; simp
      rw [decide_eq_true h6, hr, arbourref17_Right.j1, if_pos rfl]
    · rw [decide_eq_false h6]
      exact ref_j1 o h1 h2 h3 ⟨by omega, by omega⟩
/-- The reference's answer is op.Right's. -/
theorem refRight (o : S24) (A : Option Addr) (c : Nat) (w : World) (hC : k32.C w A o.f7.length o.f7) (hl : o.f7.length ≤ c) :
    Calls Tryd.prog 14 #[.agg #[.int .i64 o.f0, .int .i64 o.f1, .int .i64 o.f2, .int .i64 o.f3, .int .i64 o.f4, .int .i64 o.f5, .string o.f6, .slice A o.f7.length c, .string o.f8]] w fun e w' => e = .returned (.bool (rightB o)) ∧ Below w.heap.size w w' :=
  arbourref17_Right.calls 20 o.f0 o.f1 o.f2 o.f3 o.f4 o.f5 o.f6 A c o.f7 o.f8 (rightB o) w hC hl (ref_right o)
end Go.Proofs.YtbljbgjecnmeeaaDoor.OpP
